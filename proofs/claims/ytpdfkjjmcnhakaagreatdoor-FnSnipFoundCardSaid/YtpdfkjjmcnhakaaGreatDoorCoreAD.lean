import Derived.WalkKit
import Derived.Deep.Draws
/-
  A small library b4P the kit, of no program: plain data and how they lie in memory (a ghost map K of cells that no longer turn), and frames as lists of slots.
-/
namespace Go.Fk
open Go
theorem u {α:Sort _}{a:α}:a=a:=rfl
theorem l5 (a b:Bool):((a&&b)=true)=(a=true∧b=true):=Bool.and_eq_true a b
theorem n5:(!true)=false:=rfl
theorem n8 (b:Bool):(true&&b)=b:=Bool.true_and b
theorem i6 {α:Type}{l:List α}{i:Nat}(h:i<l.length):l[i]? =some l[i]:=List.getElem?_eq_getElem h
theorem g8 {α:Type}{l:List α}{i:Nat}{a:α}:l[i]? =some a↔∃h:i<l.length,l[i]=a:=List.getElem?_eq_some_iff
theorem j8 {α:Type}{a b:List α}:(a++b).length=a.length+b.length:=List.length_append
theorem l9 {α:Type}{a:α}{l:List α}:(a::l).length=l.length+1:=rfl
theorem l6 {α:Type}{a:α}:[a].length=1:=rfl
theorem m8 {α:Type}{l:List α}{i:Nat}{a:α}(e:l[i]? =some a):a∈l:=List.mem_of_getElem? e
theorem a8 {α β:Type}{x:α}{f:α→Option β}:Option.bind (some x) f=f x:=rfl
theorem i9 {α:Type}{a b:α}:cond false a b=b:=rfl
theorem j6 {α:Type}{a b:α}:cond true a b=a:=rfl
theorem c6 {p:Prop}[h:Decidable p]: ¬p→decide p=false:=decide_eq_false
theorem b8 {p:Prop}[h:Decidable p]:p→decide p=true:=decide_eq_true
abbrev C7:=Nat→Nat→Option Value
def H7 (K K':C7):Prop:=∀b o v,K b o=some v→K' b o=some v
theorem H7.refl (K:C7):H7 K K:=fun _ _ _ h=>h
theorem H7.trans {K K' K'':C7}(h:H7 K K')(h':H7 K' K''):H7 K K'':=fun b o v e=>h' b o v (h b o v e)
def F0 (K:C7)(w:World):Prop:=∀b o v,K b o=some v→w.cell? ⟨b,o,none⟩=some v
theorem F0.lt {K:C7}{w:World}(h:F0 K w){b o:Nat}{v:Value}(e:K b o=some v):b<w.heap.size:=by
 have h1:=h b o v e
 rcases Nat.lt_or_ge b w.heap.size with hlt | hge
 ·exact hlt
 ·simp [World.cell?,Array.getElem?_eq_none hge] at h1
theorem a2N (b o n:Nat):(⟨b,o,none⟩:Addr).add n=⟨b,o+n,none⟩:=by
 unfold Addr.add
 by_cases h:n=0<;>simp [h]
def D7 (K:C7)(b o:Nat)(cs:List Value):Prop:=∀j c,cs[j]? =some c→K b (o+j)=some c
theorem D7.mono {K K':C7}(h:H7 K K'){b o:Nat}{cs:List Value}(a:D7 K b o cs):D7 K' b o cs:=fun j c e=>h _ _ _ (a j c e)
structure Ty (α:Type) where
 size:Nat
 agg:Bool
 rel:C7→Value→α→Prop
 mono: ∀{K K':C7},H7 K K'→∀{v:Value} {x:α},rel K v x→rel K' v x
 shape: ∀{K:C7} {v:Value} {x:α},rel K v x→(agg=true∧∃cs,v= .agg cs)∨(agg=false∧v.oneCell'=true)
 size_eq: ∀{K:C7} {v:Value} {x:α},rel K v x→v.cells.size=size
 ones: ∀{K:C7} {v:Value} {x:α},rel K v x→∀c∈v.cells.toList,c.oneCell'=true
theorem b4i {v:Value}(h:v.oneCell'=true):v.cells=#[v]:=by cases v<;>simp_all [Value.oneCell',Value.cells]
def j5 (n:Int):Prop:= -9223372036854775808≤n∧n≤9223372036854775807
abbrev l3:=List UInt8
def sv (s:l3):Value:=.string ⟨s.toArray⟩
def F2:Ty Int where
 size:=1
 agg:=false
 rel:=fun _ v n=>v= .int .i64 n∧j5 n
 mono:=fun _ _ _ h=>h
 shape:=fun⟨h,_⟩=>.inr ⟨rfl,by subst h;rfl⟩
 size_eq:=fun⟨h,_⟩=>by subst h;rfl
 ones:=fun⟨h,_⟩=>by subst h;simp [Value.cells,Value.oneCell']
def iv8 (b:UInt8):Value:=.int .u8 b.toNat
def tU8:Ty UInt8 where
 size:=1
 agg:=false
 rel:=fun _ v n=>v=iv8 n
 mono:=fun _ _ _ h=>h
 shape:=fun h=>.inr ⟨rfl,by subst h;rfl⟩
 size_eq:=fun h=>by subst h;rfl
 ones:=fun h=>by subst h;simp [Value.cells,Value.oneCell',iv8]
def B3:Ty l3 where
 size:=1
 agg:=false
 rel:=fun _ v s=>v=sv s∧s.length≤maxLen
 mono:=fun _ _ _ h=>h
 shape:=fun⟨h,_⟩=>.inr ⟨rfl,by subst h;rfl⟩
 size_eq:=fun⟨h,_⟩=>by subst h;rfl
 ones:=fun⟨h,_⟩=>by subst h;simp [Value.cells,Value.oneCell',sv]
def b7 {α:Type}(t:Ty α)(K:C7)(a:Option Addr)(n c:Nat)(xs:List α):Prop:=
 n=xs.length∧n≤c∧c≤maxLen∧(0<c→∃b o,a=some ⟨b,o,none⟩∧∀(i:Nat) x,xs[i]? =some x→∃u,t.rel K u x∧D7 K b (o+i*t.size) u.cells.toList)
theorem b7.mono {α:Type}{t:Ty α}{K K':C7}(h:H7 K K'){a:Option Addr}{n c:Nat}{xs:List α}(p:b7 t K a n c xs):b7 t K' a n c xs:=
 ⟨p.1,p.2.1,p.2.2.1,fun hc=>let ⟨b,o,e1,h5⟩:=p.2.2.2 hc;⟨b,o,e1,fun i x hx=>let ⟨u,r,k⟩:=h5 i x hx;⟨u,t.mono h r,k.mono h⟩⟩⟩
theorem b7.max {α:Type}{t:Ty α}{K:C7}{a:Option Addr}{n c:Nat}{xs:List α}(p:b7 t K a n c xs):xs.length≤maxLen:=by
 obtain⟨h1,h2,h3,_⟩:=p;omega
def a1B {α:Type}(t:Ty α):Ty (List α) where
 size:=1
 agg:=false
 rel:=fun K v xs=>∃a n c,v= .slice a n c∧b7 t K a n c xs
 mono:=fun h _ _ ⟨a,n,c,e,h1,h2,h3,h4⟩=>⟨a,n,c,e,h1,h2,h3,fun hc=>
  let ⟨b,o,e1,h5⟩:=h4 hc
  ⟨b,o,e1,fun i x hx=>let ⟨u,r,k⟩:=h5 i x hx;⟨u,t.mono h r,k.mono h⟩⟩⟩
 shape:=fun⟨_,_,_,h,_⟩=>.inr ⟨rfl,by subst h;rfl⟩
 size_eq:=fun⟨_,_,_,h,_⟩=>by subst h;rfl
 ones:=fun⟨_,_,_,h,_⟩=>by subst h;simp [Value.cells,Value.oneCell']
def b5s {α:Type}(t:Ty α)(K:C7)(v:Value)(x:α):Prop:=
 ∃b o u,v= .pointer (some ⟨b,o,none⟩)∧t.rel K u x∧D7 K b o u.cells.toList
theorem b5s.mono {α:Type}{t:Ty α}{K K':C7}(h:H7 K K'){v:Value}{x:α}(p:b5s t K v x):b5s t K' v x:=
 let ⟨b,o,u,e,r,k⟩:=p
 ⟨b,o,u,e,t.mono h r,k.mono h⟩
def p8 {α:Type}(xs:List α)(i:Int):Option α:=if 0≤i then xs[i.toNat]? else none
theorem a0j {α:Type}{xs:List α}{i:Int}{x:α}(h:p8 xs i=some x):0≤i∧i<xs.length∧xs[i.toNat]? =some x:=by
 unfold p8 at h
 split at h
 ·rename_i h0
  have:=(g8.1 h).1
  exact⟨h0,by omega,h⟩
 ·cases h
abbrev X6:=List (Nat×Value)
def look:X6→Nat→Option Value
 | [],_=>none
 | (a,v)::E,i=>bif Nat.beq a i then some v else look E i
def Fr (N:Nat)(E:X6)(t:Array Value):Prop:=t.size=N∧∀i v,look E i=some v→t[i]? =some v
theorem Fr.put {N:Nat}{E:X6}{t:Array Value}(h:Fr N E t){d:Nat}(hd:Nat.blt d N=true)(v:Value):Fr N ((d,v)::E) (t.setIfInBounds d v):=by
 obtain⟨h1,h2⟩:=h
 have hd':d<N:=by simpa [Nat.blt_eq] using hd
 refine⟨by simp [h1],fun i u hu=>?_⟩
 simp only [look] at hu
 rw [Array.getElem?_setIfInBounds]
 by_cases e:d=i
 ·subst e;simp at hu;subst hu;simp [h1,hd']
 ·rw [if_neg e]
  have:Nat.beq d i=false:=by
   rw [Bool.eq_false_iff];intro hb;exact e (Nat.eq_of_beq_eq_true hb)
  rw [this] at hu
  exact h2 i u (by simpa using hu)
def ev (E:X6):Operand→Option Value
 | .tmp i=>look E i
 | .const v=>some v
 | .global g=>some (.pointer (some ⟨g,0,none⟩))
 | .func f=>some (.func (.func f) #[] #[])
def b3g (E:X6)(ρ:Operand→Value):Prop:=∀x v,ev E x=some v→ρ x=v
theorem Fr.agree {N:Nat}{E:X6}{t:Array Value}(h:Fr N E t):b3g E (Act.eval ⟨t,[]⟩):=by
 intro x v hx
 cases x with
 | tmp i=>simp only [ev] at hx;have:=h.2 i v hx;simp [Act.eval,Array.getD_eq_getD_getElem?,this]
 | const u=>simp only [ev,Option.some.injEq] at hx;subst hx;rfl
 | global g=>simp only [ev,Option.some.injEq] at hx;subst hx;rfl
 | func f=>simp only [ev,Option.some.injEq] at hx;subst hx;rfl
def Sub:X6→X6→Prop
 | [],_=>True
 | (i,v)::r,E=>look E i=some v∧Sub r E
theorem Sub.look {E' E:X6}(h:Sub E' E): ∀{i v},look E' i=some v→look E i=some v:=by
 induction E' with
 | nil=>intro i v h;cases h
 | cons p r ih=>
  obtain⟨j,u⟩:=p
  intro i v hv
  simp only [Fk.look] at hv
  by_cases e:j=i
  ·subst e;simp at hv;subst hv;exact h.1
  ·have hb:Nat.beq j i=false:=by
    rw [Bool.eq_false_iff];intro hb;exact e (Nat.eq_of_beq_eq_true hb)
   rw [hb] at hv
   exact ih h.2 hv
theorem Fr.sub {N:Nat}{E E':X6}{t:Array Value}(h:Fr N E t)(hs:Sub E' E):Fr N E' t:=⟨h.1,fun _ _ hv=>h.2 _ _ (hs.look hv)⟩
theorem Fr.nil {N:Nat}{t:Array Value}(h:t.size=N):Fr N [] t:=⟨h,fun _ _ h=>by cases h⟩
section
variable {P:Program}{ops:Array Oper}{Q:Exit→Act→World→Prop}{N:Nat}
def WL (P:Program)(ops:Array Oper)(Q:Exit→Act→World→Prop)(N:Nat)(rest:List Oper)(E:X6)(w:World):Prop:=
 ∀t,Fr N E t→wpList P ops Q rest ⟨t,[]⟩ w
def WC (P:Program)(c:Code)(Q:Exit→Act→World→Prop)(N:Nat)(E:X6)(w:World):Prop:=∀t,Fr N E t→c.wp P Q ⟨t,[]⟩ w
def QE (Q:Exit→Act→World→Prop)(e:Exit)(N:Nat)(E:X6)(w:World):Prop:=∀t,Fr N E t→Q e ⟨t,[]⟩ w
variable {E:X6}{w:World}
theorem b3b {c:Code}{E':X6}(hs:Sub E' E)(h:WC P c Q N E' w):WC P c Q N E w:=fun t ht=>h t (ht.sub hs)
theorem b8R {e:Exit}{E':X6}(hs:Sub E' E)(h:QE Q e N E' w):QE Q e N E w:=fun t ht=>h t (ht.sub hs)
theorem n9 {x y:Code}(h:WC P x (Exit.then (y.wp P Q) Q) N E w):WC P (.seq x y) Q N E w:=fun t ht=>wp_seq (h t ht)
theorem l4 {y:Code}(h:WC P y Q N E w):QE (Exit.then (y.wp P Q) Q) .normal N E w:=h
theorem c9 {k:Act→World→Prop}{id:Nat}(h:QE Q (.exit id) N E w):QE (Exit.then k Q) (.exit id) N E w:=h
theorem g6 {k:Act→World→Prop}(h:QE Q .ret N E w):QE (Exit.then k Q) .ret N E w:=h
theorem q7 {id:Nat}(h:QE Q .normal N E w):QE (Exit.inBlock id Q) .normal N E w:=h
theorem j4 {id:Nat}(h:QE Q .ret N E w):QE (Exit.inBlock id Q) .ret N E w:=h
theorem j7 {id:Nat}(h:QE Q .normal N E w):QE (Exit.inBlock id Q) (.exit id) N E w:=fun t ht=>by
 show (if id=id then _ else _)
 rw [if_pos rfl];exact h t ht
theorem b1N {id id':Nat}(hne:Nat.beq id' id=false)(h:QE Q (.exit id') N E w):QE (Exit.inBlock id Q) (.exit id') N E w:=fun t ht=>by
 have hn: ¬id'=id:=fun e=>by subst e;simp at hne
 show (if id'=id then _ else _)
 rw [if_neg hn];exact h t ht
theorem i8 (h:QE Q .normal N E w):WC P .skip Q N E w:=fun t ht=>wp_skip (h t ht)
theorem p9 {id:Nat}(h:QE Q (.exit id) N E w):WC P (.exit id) Q N E w:=fun t ht=>wp_exit (h t ht)
theorem l7 (h:QE Q .ret N E w):WC P .ret Q N E w:=fun t ht=>wp_ret (h t ht)
theorem i7 {id:Nat}{c:Code}(h:WC P c (Exit.inBlock id Q) N E w):WC P (.block id c) Q N E w:=fun t ht=>wp_block (h t ht)
theorem a0n {c:Operand}{x y:Code}{b:Bool}(hc:ev E c=some (.bool b))(ht:b=true→WC P x Q N E w)(hf:b=false→WC P y Q N E w):
  WC P (.cond c x y) Q N E w:=fun t hfr=>by
 have e:=hfr.agree c _ hc
 cases b with
 | true=>exact wp_cond e (ht rfl t hfr)
 | false=>exact wp_cond e (hf rfl t hfr)
theorem j3 {id:Nat}{l:List Oper}(h:WL P l.toArray Q N l E w):WC P (.region id l.toArray false) Q N E w:=fun t ht=>wp_region_lit (h t ht)
theorem i5 (h:QE Q .normal N E w):WL P ops Q N [] E w:=fun t ht=>h t ht
theorem b38 {c:Code}{Q':Exit→Act→World→Prop}(h:WC P c Q' N E w)(hq: ∀e a w,Q' e a w→Q e a w):WC P c Q N E w:=
 fun t ht=>Code.wp_mono hq (h t ht)
def a6s (N:Nat)(Mid:X6→World→Prop)(a:Act)(w:World):Prop:=a.defers=[]∧∃E',Fr N E' a.tmps∧Mid E' w
theorem b8Q {k:X6→World→Prop}(h:k E w):QE (Exit.then (a6s N k) Q) .normal N E w:=fun _ ht=>⟨rfl,E,ht,h⟩
end
end Go.Fk
namespace Go.Fk
open Go
section
variable {P:Program}{ops:Array Oper}{Q:Exit→Act→World→Prop}{N:Nat}{E:X6}{w:World}
def a1O (P:Program)(E:X6)(w:World)(op:Op)(r:Result Next):Prop:=
 ∀(ρ:Operand→Value) (dst:Option Tmp) (ty:TypeId) (pos:String) (af:Array Edge) (gd:Option (Nat×Bool)),b3g E ρ→(execOp ρ ⟨dst,op,ty,pos,af,gd⟩).run P w=r
abbrev RV (P:Program)(E:X6)(w:World)(op:Op)(v:Value):Prop:=a1O P E w op (.ok (.value v) w)
def H2 (ops:Array Oper)(N:Nat)(E:X6)(gd:Option (Nat×Bool)):Prop:=
 ∀(t:Array Value) (dst:Option Tmp) (op:Op) (ty:TypeId) (pos:String) (af:Array Edge),Fr N E t→Region.wanted ⟨dst,op,ty,pos,af,gd⟩ (yielded ops t)=true
def a5L (ops:Array Oper)(N:Nat)(E:X6)(gd:Option (Nat×Bool)):Prop:=
 ∀(t:Array Value) (dst:Option Tmp) (op:Op) (ty:TypeId) (pos:String) (af:Array Edge),Fr N E t→Region.wanted ⟨dst,op,ty,pos,af,gd⟩ (yielded ops t)=false
theorem wn:H2 ops N E none:=fun _ _ _ _ _ _ _=>rfl
theorem wg {j gs:Nat}{b want:Bool}(hj:(ops[j]?).bind (·.dst)=some gs)(hE:look E gs=some (.bool b))(hb:b=want):H2 ops N E (some (j,want)):=
 fun t _ _ _ _ _ hf=>by
  have h:=hf.2 gs _ hE
  simp [Region.wanted,yielded,hj,h,hb]
theorem ug {j gs:Nat}{b want:Bool}(hj:(ops[j]?).bind (·.dst)=some gs)(hE:look E gs=some (.bool b))(hb:b= !want):a5L ops N E (some (j,want)):=
 fun t _ _ _ _ _ hf=>by
  have h:=hf.2 gs _ hE
  subst hb
  simp [Region.wanted,yielded,hj,h]
theorem uu {j gs:Nat}{want:Bool}(hj:(ops[j]?).bind (·.dst)=some gs)(hE:look E gs=some undef):a5L ops N E (some (j,want)):=
 fun t _ _ _ _ _ hf=>by
  have h:=hf.2 gs _ hE
  simp [Region.wanted,yielded,hj,h,undef]
theorem a6q {o:Oper}{rest:List Oper}(hw: ∀t,Fr N E t→Region.wanted o (yielded ops t)=true)
  (h: ∀t,Fr N E t→o.wp P ⟨t,[]⟩ w (wpList P ops Q rest) Q):WL P ops Q N (o::rest) E w:=fun t ht=>by
 unfold wpList
 rw [if_pos (hw t ht)]
 exact .inl (h t ht)
theorem a3N {d:Tmp}{op:Op}{ty:TypeId}{pos:String}{af:Array Edge}{gd:Option (Nat×Bool)}{rest:List Oper}{v:Value}
  (hw:H2 ops N E gd)(hd:Nat.blt d N=true)(hr:RV P E w op v)(h:WL P ops Q N rest ((d,v)::E) w):WL P ops Q N (⟨some d,op,ty,pos,af,gd⟩::rest) E w:=
 a6q (fun t ht=>hw t _ _ _ _ _ ht) fun t ht=>by
  unfold Oper.wp
  rw [hr _ _ _ _ _ _ ht.agree]
  exact h _ (ht.put hd v)
theorem a3M {d:Tmp}{op:Op}{ty:TypeId}{pos:String}{af:Array Edge}{gd:Option (Nat×Bool)}{rest:List Oper}{v:Value}{w':World}
  (hw:H2 ops N E gd)(hd:Nat.blt d N=true)(hr:a1O P E w op (.ok (.value v) w'))(h:WL P ops Q N rest ((d,v)::E) w'):WL P ops Q N (⟨some d,op,ty,pos,af,gd⟩::rest) E w:=
 a6q (fun t ht=>hw t _ _ _ _ _ ht) fun t ht=>by
  unfold Oper.wp
  rw [hr _ _ _ _ _ _ ht.agree]
  exact h _ (ht.put hd v)
theorem b2q {op:Op}{ty:TypeId}{pos:String}{af:Array Edge}{gd:Option (Nat×Bool)}{rest:List Oper}{w':World}
  (hw:H2 ops N E gd)(hr:a1O P E w op (.ok .skip w'))(h:WL P ops Q N rest E w'):WL P ops Q N (⟨none,op,ty,pos,af,gd⟩::rest) E w:=
 a6q (fun t ht=>hw t _ _ _ _ _ ht) fun t ht=>by
  unfold Oper.wp
  rw [hr _ _ _ _ _ _ ht.agree]
  exact h _ ht
theorem D4 {d:Tmp}{op:Op}{ty:TypeId}{pos:String}{af:Array Edge}{gd:Option (Nat×Bool)}{rest:List Oper}
  (hw:a5L ops N E gd)(hd:Nat.blt d N=true)(h:WL P ops Q N rest ((d,undef)::E) w):WL P ops Q N (⟨some d,op,ty,pos,af,gd⟩::rest) E w:=fun t ht=>by
 unfold wpList
 rw [if_neg (by rw [hw t _ _ _ _ _ ht];simp)]
 exact h _ (ht.put hd undef)
theorem A7 {d:Tmp}{op:Op}{ty:TypeId}{pos:String}{af:Array Edge}{gd:Option (Nat×Bool)}{rest:List Oper}{f:FuncId}{args:Array Value}{R:Ending→World→Prop}
  (hw:H2 ops N E gd)(hd:Nat.blt d N=true)(hr:a1O P E w op (.ok (.enter f args) w))(hc:Calls P f args w R)
  (h: ∀e w',R e w'→∃v,e= .returned v∧WL P ops Q N rest ((d,v)::E) w'):WL P ops Q N (⟨some d,op,ty,pos,af,gd⟩::rest) E w:=
 a6q (fun t ht=>hw t _ _ _ _ _ ht) fun t ht=>by
  unfold Oper.wp
  rw [hr _ _ _ _ _ _ ht.agree]
  refine hc.mono fun e w' hR=>?_
  obtain⟨v,rfl,hn⟩:=h e w' hR
  exact hn _ (ht.put hd v)
variable {x y:Operand}{T T':TypeId}
theorem i4 {v:Value}(hx:ev E x=some v):RV P E w (.move x) v:=fun ρ _ _ _ _ _ ha=>by simp [execOp,ha x v hx]
theorem r4 {v:Value}(hx:ev E x=some v):RV P E w (.assign x) v:=fun ρ _ _ _ _ _ ha=>by simp [execOp,ha x v hx]
theorem q8 {c:Operand}{b:Bool}{v:Value}(hc:ev E c=some (.bool b))(hb:b=true)(hx:ev E x=some v):RV P E w (.pick c x y) v:=
 fun ρ _ _ _ _ _ ha=>by subst hb;simp [execOp,ha _ _ hc,ha _ _ hx,asBool]
theorem m9 {c:Operand}{b:Bool}{v:Value}(hc:ev E c=some (.bool b))(hb:b=false)(hy:ev E y=some v):RV P E w (.pick c x y) v:=
 fun ρ _ _ _ _ _ ha=>by subst hb;simp [execOp,ha _ _ hc,ha _ _ hy,asBool]
theorem u7 {a:Addr}(hx:ev E x=some (.pointer (some a))):RV P E w (.nilCheck x) (.pointer (some a)):=fun ρ _ _ _ _ _ ha=>by simp [execOp,ha x _ hx]
theorem y3 {b:Bool}(hx:ev E x=some (.bool b)):RV P E w (.unOp .not T x) (.bool (!b)):=fun ρ _ _ _ _ _ ha=>by simp [execOp,ha x _ hx,Op.unary]
theorem B6 {vs:Array Value}{i:Nat}{v:Value}(hx:ev E x=some (.tuple vs))(hv:vs[i]? =some v):RV P E w (.extract x i) v:=
 fun ρ _ _ _ _ _ ha=>by simp [execOp,ha x _ hx,Instr.extract,hv]
def y8 (n:Int):Int:=IntKind.i64.wrap n
def b5o (a b:Int):Int:=y8 (BitVec.ofInt 64 a ^^^ BitVec.ofInt 64 b).toNat
def a2w (a b:Int):Option Int:=if b=0 then none else some (y8 (a.tdiv b))
def a5x (a b:Int):Option Int:=if b=0 then none else some (a.tmod b)
def b40 (a n:Int):Option Int:=if n<0 then none else some (y8 (a*2 ^ (min n.toNat 64)))
def b12 (a n:Int):Option Int:=if n<0 then none else some (a.fdiv (2 ^ (min n.toNat 64)))
section
variable {k:IntKind}{a b c:Int}
theorem u6 (hx:ev E x=some (.int .i64 a))(hy:ev E y=some (.int .i64 b)):RV P E w (.binOp .add T x y T') (.int .i64 (y8 (a+b))):=
 fun ρ _ _ _ _ _ ha=>by simp [execOp,ha x _ hx,ha y _ hy,eqGuard,binOp,Op.intArith,y8]
theorem u3 (hx:ev E x=some (.int .i64 a))(hy:ev E y=some (.int .i64 b))(hc:y8 (a+b)=c):RV P E w (.binOp .add T x y T') (.int .i64 c):=hc▸u6 hx hy
theorem I8 (hx:ev E x=some (.int .i64 a))(hy:ev E y=some (.int .i64 b)):RV P E w (.binOp .sub T x y T') (.int .i64 (y8 (a-b))):=
 fun ρ _ _ _ _ _ ha=>by simp [execOp,ha x _ hx,ha y _ hy,eqGuard,binOp,Op.intArith,y8]
theorem a1k (hx:ev E x=some (.int .i64 a))(hy:ev E y=some (.int .i64 b)):RV P E w (.binOp .mul T x y T') (.int .i64 (y8 (a*b))):=
 fun ρ _ _ _ _ _ ha=>by simp [execOp,ha x _ hx,ha y _ hy,eqGuard,binOp,Op.intArith,y8]
theorem a4y (hx:ev E x=some (.int .i64 a))(hy:ev E y=some (.int .i64 b))(hc:a2w a b=some c):RV P E w (.binOp .quo T x y T') (.int .i64 c):=
 fun ρ _ _ _ _ _ ha=>by
  unfold a2w at hc
  split at hc
  ·cases hc
  ·rename_i hb;cases hc;simp [execOp,ha x _ hx,ha y _ hy,eqGuard,binOp,Op.intDiv,hb,y8]
theorem a8Y (hx:ev E x=some (.int .i64 a))(hy:ev E y=some (.int .i64 b))(hc:a5x a b=some c):RV P E w (.binOp .rem T x y T') (.int .i64 c):=
 fun ρ _ _ _ _ _ ha=>by
  unfold a5x at hc
  split at hc
  ·cases hc
  ·rename_i hb;cases hc;simp [execOp,ha x _ hx,ha y _ hy,eqGuard,binOp,Op.intDiv,hb]
theorem b8Z (hx:ev E x=some (.int .i64 a))(hy:ev E y=some (.int .i64 b)):RV P E w (.binOp .xor T x y T') (.int .i64 (b5o a b)):=
 fun ρ _ _ _ _ _ ha=>by simp only [execOp,ha x _ hx,ha y _ hy];simp [eqGuard,binOp,Op.intBits,b5o,y8];rfl
theorem b8X {k':IntKind}(hx:ev E x=some (.int .i64 a))(hy:ev E y=some (.int k' b))(hc:b40 a b=some c):RV P E w (.binOp .shl T x y T') (.int .i64 c):=
 fun ρ _ _ _ _ _ ha=>by
  unfold b40 at hc
  split at hc
  ·cases hc
  ·rename_i hb;cases hc;simp only [execOp,ha x _ hx,ha y _ hy];simp [eqGuard,binOp,Op.shift,hb,y8,IntKind.bits]
theorem o4 (hx:ev E x=some (.int k a))(hy:ev E y=some (.int k b)):RV P E w (.binOp .lss T x y T') (.bool (decide (a<b))):=
 fun ρ _ _ _ _ _ ha=>by simp [execOp,ha x _ hx,ha y _ hy,eqGuard,binOp,Op.intCmp]
theorem U4 (hx:ev E x=some (.int k a))(hy:ev E y=some (.int k b)):RV P E w (.binOp .leq T x y T') (.bool (decide (a≤b))):=
 fun ρ _ _ _ _ _ ha=>by simp [execOp,ha x _ hx,ha y _ hy,eqGuard,binOp,Op.intCmp]
theorem E9 (hx:ev E x=some (.int k a))(hy:ev E y=some (.int k b)):RV P E w (.binOp .gtr T x y T') (.bool (decide (b<a))):=
 fun ρ _ _ _ _ _ ha=>by simp [execOp,ha x _ hx,ha y _ hy,eqGuard,binOp,Op.intCmp]
theorem a2y (hx:ev E x=some (.int k a))(hy:ev E y=some (.int k b)):RV P E w (.binOp .geq T x y T') (.bool (decide (b≤a))):=
 fun ρ _ _ _ _ _ ha=>by simp [execOp,ha x _ hx,ha y _ hy,eqGuard,binOp,Op.intCmp]
theorem F7 (hx:ev E x=some (.int k a))(hy:ev E y=some (.int k b)):RV P E w (.binOp .eql T x y T') (.bool (a==b)):=
 fun ρ _ _ _ _ _ ha=>by simp [execOp,ha x _ hx,ha y _ hy,eqGuard,binOp,Op.intCmp]
theorem U5 (hx:ev E x=some (.int k a))(hy:ev E y=some (.int k b)):RV P E w (.binOp .neq T x y T') (.bool (!(a==b))):=
 fun ρ _ _ _ _ _ ha=>by simp [execOp,ha x _ hx,ha y _ hy,eqGuard,binOp,Op.intCmp,bne]
theorem a8X (hx:ev E x=some (.int .i64 a)):RV P E w (.unOp .neg T x) (.int .i64 (y8 (0-a))):=
 fun ρ _ _ _ _ _ ha=>by simp [execOp,ha x _ hx,Op.unary,Op.intArith,y8]
theorem a3k {p q:Bool}(d:Nat)(hT:P.underlying T=some .bool):(Op.equalIn (d+1) T (.bool p) (.bool q)).run P w= .ok (p==q) w:=by
 simp [Op.equalIn,run_underlying hT]
theorem b4W {p q:Bool}(hT:P.underlying T=some .bool)(hx:ev E x=some (.bool p))(hy:ev E y=some (.bool q)):RV P E w (.binOp .eql T x y T') (.bool (p==q)):=
 fun ρ _ _ _ _ _ ha=>by
  have h:=a3k (P:=P) (w:=w) (p:=p) (q:=q) 9999 hT
  simp only [execOp,ha x _ hx,ha y _ hy]
  simp only [eqGuard,binOp,Op.equal,Op.maxDepth]
  simp [h]
theorem a90 {p q:Bool}(hT:P.underlying T=some .bool)(hx:ev E x=some (.bool p))(hy:ev E y=some (.bool q)):RV P E w (.binOp .neq T x y T') (.bool (!(p==q))):=
 fun ρ _ _ _ _ _ ha=>by
  have h:=a3k (P:=P) (w:=w) (p:=p) (q:=q) 9999 hT
  simp only [execOp,ha x _ hx,ha y _ hy]
  simp only [eqGuard,binOp,Op.equal,Op.maxDepth]
  simp [h]
end
section
variable {s r:l3}
def y7 (a b:l3):Bool:=Op.bytesLess a b
theorem b3Y (hx:ev E x=some (sv s))(hy:ev E y=some (sv r)):RV P E w (.binOp .lss T x y T') (.bool (y7 s r)):=
 fun ρ _ _ _ _ _ ha=>by simp [execOp,ha x _ hx,ha y _ hy,eqGuard,binOp,sv,Op.stringOp,y7]
theorem b7D (hx:ev E x=some (sv s))(hy:ev E y=some (sv r)):RV P E w (.binOp .gtr T x y T') (.bool (!(y7 s r||s==r))):=
 fun ρ _ _ _ _ _ ha=>by simp [execOp,ha x _ hx,ha y _ hy,eqGuard,binOp,sv,Op.stringOp,y7]
theorem b0R (hx:ev E x=some (sv s))(hy:ev E y=some (sv r)):RV P E w (.binOp .leq T x y T') (.bool (y7 s r||s==r)):=
 fun ρ _ _ _ _ _ ha=>by simp [execOp,ha x _ hx,ha y _ hy,eqGuard,binOp,sv,Op.stringOp,y7]
theorem b0Q (hx:ev E x=some (sv s))(hy:ev E y=some (sv r)):RV P E w (.binOp .geq T x y T') (.bool (!y7 s r)):=
 fun ρ _ _ _ _ _ ha=>by simp [execOp,ha x _ hx,ha y _ hy,eqGuard,binOp,sv,Op.stringOp,y7]
theorem J4 (hx:ev E x=some (sv s))(hy:ev E y=some (sv r)):RV P E w (.binOp .eql T x y T') (.bool (s==r)):=
 fun ρ _ _ _ _ _ ha=>by simp [execOp,ha x _ hx,ha y _ hy,eqGuard,binOp,sv,Op.stringOp]
theorem X9 (hx:ev E x=some (sv s))(hy:ev E y=some (sv r)):RV P E w (.binOp .neq T x y T') (.bool (!(s==r))):=
 fun ρ _ _ _ _ _ ha=>by simp [execOp,ha x _ hx,ha y _ hy,eqGuard,binOp,sv,Op.stringOp]
def a18 (a b:l3):Option l3:=if a.length+b.length≤maxLen then some (a++b) else none
theorem b5c (s r:l3):(⟨s.toArray⟩:ByteArray)++⟨r.toArray⟩=⟨(s++r).toArray⟩:=by
 apply ByteArray.ext
 simp [ByteArray.data_append]
theorem a0L {c:l3}(hx:ev E x=some (sv s))(hy:ev E y=some (sv r))(hc:a18 s r=some c):RV P E w (.binOp .add T x y T') (sv c):=
 fun ρ _ _ _ _ _ ha=>by
  unfold a18 at hc
  split at hc
  ·rename_i h
   cases hc
   simp only [maxLen] at h
   have h': ¬((((⟨s.toArray⟩:ByteArray).size+(⟨r.toArray⟩:ByteArray).size:Nat):Int)>IntKind.i64.max):=by
    show ¬(((s.toArray.size+r.toArray.size:Nat):Int)>9223372036854775807)
    simp only [List.size_toArray];omega
   simp only [sv] at hx hy ⊢
   simp only [execOp,ha x _ hx,ha y _ hy,eqGuard,binOp,Op.stringOp,b5c]
   rw [if_neg h']
   rfl
  ·cases hc
theorem a6k (s:l3):(⟨s.toArray⟩:ByteArray).size=s.length:=by show s.toArray.size=_;simp
theorem F6 (hT:P.underlying T=some .string)(hx:ev E x=some (sv s)):RV P E w (.call {callee:=.builtin .len,args:=#[x],argTypes:=#[T]}) (.int .i64 s.length):=
 fun ρ _ _ _ _ _ ha=>by simp [execOp,resolve,invoke,builtin,ha x _ hx,Builtin.len_,run_underlying hT,sv,goInt,a6k]
theorem I7 {k:IntKind}{i:Int}{c:UInt8}(hT:P.underlying T=some .string)(hx:ev E x=some (sv s))(hy:ev E y=some (.int k i))(hc:p8 s i=some c):RV P E w (.index T x y) (iv8 c):=
 fun ρ _ _ _ _ _ ha=>by
  obtain⟨h0,h1,h2⟩:=a0j hc
  have h3:(⟨s.toArray⟩:ByteArray)[i.toNat]? =some c:=by
   have hlt:i.toNat<s.length:=by omega
   rw [getElem?_pos _ _ (by rw [a6k];exact hlt)]
   rw [i6 hlt] at h2
   simpa [ByteArray.getElem_eq_getElem_data] using h2
  simp [execOp,ha x _ hx,ha y _ hy,Instr.index,asIntOf,run_underlying hT,sv,h0,h3,iv8]
def a1n (s:l3)(l h:Int):Option l3:=if 0≤l∧l≤h∧h≤s.length then some ((s.take h.toNat).drop l.toNat) else none
theorem a5p (s:l3)(l h:Nat):(⟨s.toArray⟩:ByteArray).extract l h=⟨((s.take h).drop l).toArray⟩:=by
 apply ByteArray.ext
 simp [ByteArray.data_extract,List.drop_take]
theorem a1U {k:IntKind}{i:Int}{c:l3}(hT:P.underlying T=some .string)(hx:ev E x=some (sv s))(hy:ev E y=some (.int k i))(hc:a1n s i s.length=some c):RV P E w (.slice T x (some y) none none) (sv c):=
 fun ρ _ _ _ _ _ ha=>by
  unfold a1n at hc
  split at hc
  ·rename_i h
   cases hc
   simp [execOp,ha x _ hx,ha y _ hy,Instr.sliceAt,Instr.slice,Instr.sliceBounds,Instr.sliceBound,asIntOf,run_underlying hT,sv,h.1,h.2.1,a5p,a6k]
  ·cases hc
theorem b1U {k:IntKind}{i:Int}{c:l3}(hT:P.underlying T=some .string)(hx:ev E x=some (sv s))(hy:ev E y=some (.int k i))(hc:a1n s 0 i=some c):RV P E w (.slice T x none (some y) none) (sv c):=
 fun ρ _ _ _ _ _ ha=>by
  unfold a1n at hc
  split at hc
  ·rename_i h
   cases hc
   have h1:i≤((⟨s.toArray⟩:ByteArray).size:Int):=by rw [a6k];omega
   simp [execOp,ha x _ hx,ha y _ hy,Instr.sliceAt,Instr.slice,Instr.sliceBounds,Instr.sliceBound,asIntOf,run_underlying hT,sv,h.2.1,h1,a5p]
  ·cases hc
theorem a91 {z:Operand}{k k':IntKind}{i j:Int}{c:l3}(hT:P.underlying T=some .string)(hx:ev E x=some (sv s))(hy:ev E y=some (.int k i))(hz:ev E z=some (.int k' j))(hc:a1n s i j=some c):RV P E w (.slice T x (some y) (some z) none) (sv c):=
 fun ρ _ _ _ _ _ ha=>by
  unfold a1n at hc
  split at hc
  ·rename_i h
   cases hc
   have h0:0≤j:=by omega
   have h1:j≤((⟨s.toArray⟩:ByteArray).size:Int):=by rw [a6k];omega
   have h2:max j 0=j:=by omega
   simp [execOp,ha x _ hx,ha y _ hy,ha z _ hz,Instr.sliceAt,Instr.slice,Instr.sliceBounds,Instr.sliceBound,asIntOf,run_underlying hT,sv,h.1,h.2.1,h0,h1,h2,a5p]
  ·cases hc
end
section
variable {a b:UInt8}
theorem b79 (hx:ev E x=some (iv8 a))(hy:ev E y=some (iv8 b)):RV P E w (.binOp .lss T x y T') (.bool (decide (a<b))):=
 fun ρ _ _ _ _ _ ha=>by simp [execOp,ha x _ hx,ha y _ hy,eqGuard,binOp,Op.intCmp,iv8,UInt8.lt_iff_toNat_lt]
theorem a4x (hx:ev E x=some (iv8 a))(hy:ev E y=some (iv8 b)):RV P E w (.binOp .leq T x y T') (.bool (decide (a≤b))):=
 fun ρ _ _ _ _ _ ha=>by simp [execOp,ha x _ hx,ha y _ hy,eqGuard,binOp,Op.intCmp,iv8,UInt8.le_iff_toNat_le]
theorem b78 (hx:ev E x=some (iv8 a))(hy:ev E y=some (iv8 b)):RV P E w (.binOp .gtr T x y T') (.bool (decide (b<a))):=
 fun ρ _ _ _ _ _ ha=>by simp [execOp,ha x _ hx,ha y _ hy,eqGuard,binOp,Op.intCmp,iv8,UInt8.lt_iff_toNat_lt]
theorem a4w (hx:ev E x=some (iv8 a))(hy:ev E y=some (iv8 b)):RV P E w (.binOp .geq T x y T') (.bool (decide (b≤a))):=
 fun ρ _ _ _ _ _ ha=>by simp [execOp,ha x _ hx,ha y _ hy,eqGuard,binOp,Op.intCmp,iv8,UInt8.le_iff_toNat_le]
theorem b87 (a b:UInt8):((a.toNat:Int)==(b.toNat:Int))=(a==b):=by
 rw [Bool.eq_iff_iff];simp [←UInt8.toNat_inj];omega
theorem a8V (hx:ev E x=some (iv8 a))(hy:ev E y=some (iv8 b)):RV P E w (.binOp .eql T x y T') (.bool (a==b)):=
 fun ρ _ _ _ _ _ ha=>by simp only [iv8] at hx hy;simp only [execOp,ha x _ hx,ha y _ hy];simp [eqGuard,binOp,Op.intCmp,b87]
theorem a8W (hx:ev E x=some (iv8 a))(hy:ev E y=some (iv8 b)):RV P E w (.binOp .neq T x y T') (.bool (!(a==b))):=
 fun ρ _ _ _ _ _ ha=>by simp only [iv8] at hx hy;simp only [execOp,ha x _ hx,ha y _ hy];simp [eqGuard,binOp,Op.intCmp,bne,b87]
theorem b3U (hx:ev E x=some (iv8 a))(hy:ev E y=some (iv8 b)):RV P E w (.binOp .add T x y T') (iv8 (a+b)):=
 fun ρ _ _ _ _ _ ha=>by
  have e:IntKind.u8.wrap ((a.toNat:Int)+b.toNat)=((a+b).toNat:Int):=by
   simp only [IntKind.wrap,UInt8.toNat_add];simp [IntKind.signed,IntKind.bits]
  simp only [iv8] at hx hy ⊢;simp only [execOp,ha x _ hx,ha y _ hy];simp [eqGuard,binOp,Op.intArith,e]
theorem b7A (hx:ev E x=some (iv8 a))(hy:ev E y=some (iv8 b)):RV P E w (.binOp .sub T x y T') (iv8 (a-b)):=
 fun ρ _ _ _ _ _ ha=>by
  have e:IntKind.u8.wrap ((a.toNat:Int)-b.toNat)=((a-b).toNat:Int):=by
   have h1:=a.toNat_lt;have h2:=b.toNat_lt
   simp only [IntKind.wrap,UInt8.toNat_sub];simp [IntKind.signed,IntKind.bits];omega
  simp only [iv8] at hx hy ⊢;simp only [execOp,ha x _ hx,ha y _ hy];simp [eqGuard,binOp,Op.intArith,e]
theorem b2X (hT:P.underlying T=some (.int .u8))(hT':P.underlying T'=some (.int .i64))(hx:ev E x=some (iv8 a)):RV P E w (.convert T T' x) (.int .i64 a.toNat):=
 fun ρ _ _ _ _ _ ha=>by
  have h1:=a.toNat_lt
  have e:IntKind.i64.wrap (a.toNat:Int)=(a.toNat:Int):=by
   simp only [IntKind.wrap];simp [IntKind.signed,IntKind.bits];omega
  simp only [iv8] at hx;simp only [execOp,ha x _ hx];simp [convert,run_underlying hT,run_underlying hT',Conv.intToInt,e]
end
end
end Go.Fk
namespace Go.Fk
open Go
structure B8 where
 gs:List Nat
 side:Prop
 ok:(Nat→Option Obj)→C7→Prop
 loc: ∀{H H':Nat→Option Obj} {K K':C7},(∀b∈gs,H b=H' b∧K b=K' b)→ok H K→ok H' K'
def one (g:Option Nat)(side:Prop)(ok:Option Obj→(Nat→Option Value)→Prop):B8:=
 ⟨g.toList,side,fun H K=>∀b,g=some b→ok (H b) (K b),fun h h1 b hb=>by
  have:=h b (by simp [hb])
  rw [←this.1,←this.2];exact h1 b hb⟩
def r5 (g:Nat)(cs:List Value)(T:TypeId)(fr:Nat×Nat:=(0,0)):B8:=
 one (some g) True fun o k=>(o=some (.cells cs.toArray T fr)∧(fr=(0,0)∨cs.length≤fr.1))∧∀i,k i=none
def tail (v:Value)(T:TypeId)(sz:Nat):B8:=
 one v.ownBlock (v= .slice none 0 0∨∃g n cap,v= .slice (some ⟨g,0,none⟩) n cap∧n≤cap∧cap≤maxLen)
 fun o k=>∃g n cap cur,v= .slice (some ⟨g,0,none⟩) n cap∧o=some (.cells cur T (0,0))∧cur.size=cap*sz∧∀i,n*sz≤i→k i=none
def B8.on (it:B8)(w:World)(K:C7):Prop:=it.side∧it.ok (fun b=>w.heap[b]?) K
class Dr where
 D:Prop
instance:Dr:=⟨False⟩
set_option linter.unusedSectionVars false
variable [dr:Dr]
structure SH (w0:World)(K0:C7)(M:List Nat)(w:World)(K:C7)(L:List B8):Prop where
 os:w.os=w0.os
 tape:w.tape=w0.tape
 output:w.output=w0.output
 holds:F0 K w
 le:H7 K0 K
 size:w0.heap.size≤w.heap.size
 old: ∀b,b<w0.heap.size→b∉M→w.heap[b]? =w0.heap[b]?
 oldK: ∀b,b<w0.heap.size→b∉M→K b=K0 b
 items: ∀it∈L,it.on w K
 lt: ∀it∈L,∀b∈it.gs,b<w.heap.size∧(w0.heap.size≤b∨b∈M)
 nodup:(L.flatMap B8.gs).Nodup
 drawn:dr.D→w0.drawn≤w.drawn
theorem a7H {L L':List B8}(h:L'.Sublist L):(L'.flatMap B8.gs).Sublist (L.flatMap B8.gs):=by
 induction h with
 | slnil=>exact .slnil
 | cons a _ ih=>rw [List.flatMap_cons];exact List.sublist_append_of_sublist_right ih
 | cons_cons a _ ih=>rw [List.flatMap_cons,List.flatMap_cons];exact(List.Sublist.refl _).append ih
section
variable {w0 w w':World}{K0 K K':C7}{M:List Nat}{L L':List B8}
theorem SH.start (h:F0 K w):SH w K [] w K []:=
 ⟨rfl,rfl,rfl,h,.refl _,Nat.le_refl _,fun _ _ _=>rfl,fun _ _ _=>rfl,by simp,by simp,by simp,fun _=>Nat.le_refl _⟩
theorem SH.below (h:SH w0 K0 [] w K L):RowKit.Below w0.heap.size w0 w:=⟨h.os,h.tape,h.output,h.size,fun k hk=>h.old k hk (by simp)⟩
theorem SH.perm (h:SH w0 K0 M w K L)(hp:L'.Perm L):SH w0 K0 M w K L':=
 ⟨h.os,h.tape,h.output,h.holds,h.le,h.size,h.old,h.oldK,fun it hi=>h.items it (hp.mem_iff.1 hi),fun it hi=>h.lt it (hp.mem_iff.1 hi),(hp.flatMap_right B8.gs).nodup_iff.2 h.nodup,h.drawn⟩
theorem SH.front {it:B8}{p q:List B8}(h:SH w0 K0 M w K (p++it::q)):SH w0 K0 M w K (it::(p++q)):=h.perm List.perm_middle.symm
theorem SH.drop {it:B8}(h:SH w0 K0 M w K (it::L)):SH w0 K0 M w K L:=
 ⟨h.os,h.tape,h.output,h.holds,h.le,h.size,h.old,h.oldK,fun it hi=>h.items it (List.mem_cons_of_mem _ hi),fun it hi=>h.lt it (List.mem_cons_of_mem _ hi),by
  have:=h.nodup
  rw [List.flatMap_cons,List.nodup_append] at this
  exact this.2.1,h.drawn⟩
theorem SH.sublist (h:SH w0 K0 M w K L)(hs:L'.Sublist L):SH w0 K0 M w K L':=
 ⟨h.os,h.tape,h.output,h.holds,h.le,h.size,h.old,h.oldK,fun it hi=>h.items it (hs.subset hi),fun it hi=>h.lt it (hs.subset hi),(a7H hs).nodup h.nodup,h.drawn⟩
theorem SH.nil (h:SH w0 K0 M w K L)(T:TypeId)(sz:Nat):SH w0 K0 M w K (tail (.slice none 0 0) T sz::L):=
 ⟨h.os,h.tape,h.output,h.holds,h.le,h.size,h.old,h.oldK,by
  intro it hi
  rcases List.mem_cons.1 hi with rfl | hi
  ·exact⟨.inl rfl,fun b hb=>by simp [Value.ownBlock] at hb⟩
  ·exact h.items it hi,by
  intro it hi b hb
  rcases List.mem_cons.1 hi with rfl | hi
  ·simp [tail,one,Value.ownBlock] at hb
  ·exact h.lt it hi b hb,by
  rw [List.flatMap_cons];exact h.nodup,h.drawn⟩
theorem SH.drew (h:SH w0 K0 M w K L):SH w0 K0 M w.drew K L:=⟨h.os,h.tape,h.output,h.holds,h.le,h.size,h.old,h.oldK,h.items,h.lt,h.nodup,fun d=>Nat.le_succ_of_le (h.drawn d)⟩
theorem SH.drewN (h:SH w0 K0 M w K L)(n:Nat):SH w0 K0 M (w.drewN n) K L:=⟨h.os,h.tape,h.output,h.holds,h.le,h.size,h.old,h.oldK,h.items,h.lt,h.nodup,fun d=>Nat.le_trans (h.drawn d) (Nat.le_add_right _ _)⟩
theorem SH.ge_none (h:SH w0 K0 M w K L){b:Nat}(hb:w.heap.size≤b)(o:Nat):K b o=none:=by
 cases e:K b o with
 | none=>rfl
 | some v=>have:=h.holds.lt e;omega
theorem SH.step {g:Nat}{side:Prop}{ok:Option Obj→(Nat→Option Value)→Prop}(h:SH w0 K0 M w K L)(hos:w'.os=w.os)(htape:w'.tape=w.tape)(hout:w'.output=w.output)
  (hsize:w.heap.size≤w'.heap.size)(hg:w'.heap.size≤w.heap.size+1)(hother: ∀b,b<w.heap.size→b≠g→w'.heap[b]? =w.heap[b]?)(hgt:g<w'.heap.size)
  (hown:w0.heap.size≤g∨g∈M)(hnew: ∀it∈L,g∉it.gs)
  (hK: ∀b,b≠g→K' b=K b)(hKg: ∀o v,K g o=some v→K' g o=some v)(hKh: ∀o v,K' g o=some v→w'.cell? ⟨g,o,none⟩=some v)
  (hit:(some g:Option Nat)=some g)(hon:side∧ok (w'.heap[g]?) (K' g))(hdr:w.drawn≤w'.drawn:=by exact Nat.le_refl _):SH w0 K0 M w' K' (one (some g) side ok::L) where
 drawn:=fun d=>Nat.le_trans (h.drawn d) hdr
 os:=hos.trans h.os
 tape:=htape.trans h.tape
 output:=hout.trans h.output
 holds:=by
  intro b o v e
  by_cases hb:b=g
  ·subst hb;exact hKh o v e
  ·rw [hK b hb] at e
   have hlt:=h.holds.lt e
   rw [World.cell?_of_block (w:=w) (a:=⟨b,o,none⟩) (hother b hlt hb)]
   exact h.holds b o v e
 le:=by
  intro b o v e
  have:=h.le b o v e
  by_cases hb:b=g
  ·subst hb;exact hKg o v this
  ·rw [hK b hb];exact this
 size:=Nat.le_trans h.size hsize
 old:=by
  intro b hb hm
  have hne:b≠g:=by
   rintro rfl
   rcases hown with h1 | h1
   ·omega
   ·exact hm h1
  rw [hother b (by have:=h.size;omega) hne]
  exact h.old b hb hm
 oldK:=by
  intro b hb hm
  have hne:b≠g:=by
   rintro rfl
   rcases hown with h1 | h1
   ·omega
   ·exact hm h1
  rw [hK b hne]
  exact h.oldK b hb hm
 items:=by
  intro i hi
  rcases List.mem_cons.1 hi with rfl | hi
  ·exact⟨hon.1,fun b hb=>by cases hb;exact hon.2⟩
  ·have h1:=h.items i hi
   refine⟨h1.1,i.loc (fun b hb=>?_) h1.2⟩
   have hne:b≠g:=fun e=>hnew i hi (e▸hb)
   exact⟨(hother b (h.lt i hi b hb).1 hne).symm,(hK b hne).symm⟩
 lt:=by
  intro i hi b hb
  rcases List.mem_cons.1 hi with rfl | hi
  ·have:b=g:=by simpa [one] using hb
   subst this;exact⟨hgt,hown⟩
  ·have:=h.lt i hi b hb
   exact⟨by omega,this.2⟩
 nodup:=by
  rw [List.flatMap_cons,List.nodup_append]
  refine⟨by simp [one],h.nodup,fun b hb b' hb' e=>?_⟩
  have hbg:b=g:=by simpa [one] using hb
  obtain⟨i,hi,e2⟩:=List.mem_flatMap.1 hb'
  exact hnew i hi (by rw [←hbg,e];exact e2)
theorem SH.apart {g:Nat}{side:Prop}{ok:Option Obj→(Nat→Option Value)→Prop}(h:SH w0 K0 M w K (one (some g) side ok::L)): ∀it∈L,g∉it.gs:=fun it hi e=>by
 have hnd:=h.nodup
 rw [List.flatMap_cons,List.nodup_append] at hnd
 exact hnd.2.2 g (by simp [one]) g (List.mem_flatMap.2 ⟨it,hi,e⟩) rfl
theorem SH.own {g:Nat}{side:Prop}{ok:Option Obj→(Nat→Option Value)→Prop}(h:SH w0 K0 M w K (one (some g) side ok::L)):g<w.heap.size∧(w0.heap.size≤g∨g∈M):=
 h.lt _ (List.mem_cons_self ..) g (by simp [one])
end
end Go.Fk
namespace Go.Fk
open Go
set_option linter.unusedSectionVars false
variable [dr:Dr]
def b8m:TypeDesc→Bool
 | .struct _ | .array _ _=>true
 | _=>false
structure TF (P:Program)(T:TypeId)(size:Nat)(agg:Bool)(zero:Value)(bytes:Nat):Prop where
 info:(P.info? T).map (fun i=>(i.zero,i.size,i.bytes))=some (some zero,size,bytes)
 und:(P.underlying T).map b8m=some agg
def FF (P:Program)(T:TypeId)(f off:Nat):Prop:=
 (match P.underlying T with
 | some (.struct fs)=>(match fs[f]? with | some fd=>some (fd.offset,Nat.blt 0 (P.cellsOf fd.type)) | none=>none)
 | _=>none)=some (off,true)
section
variable {P:Program}{ops:Array Oper}{Q:Exit→Act→World→Prop}{N:Nat}{E:X6}{w w0:World}{K K0:C7}{M:List Nat}{L:List B8}
variable {x y:Operand}{T T':TypeId}{size bytes:Nat}{zero:Value}{agg:Bool}{fr:Nat×Nat}
theorem TF.info_ (h:TF P T size agg zero bytes): ∃i,P.info? T=some i∧i.zero=some zero∧i.size=size∧i.bytes=bytes:=by
 have:=h.info
 cases e:P.info? T with
 | none=>rw [e] at this;cases this
 | some i=>rw [e] at this;simp only [Option.map_some,Option.some.injEq,Prod.mk.injEq] at this;exact⟨i,rfl,this.1,this.2.1,this.2.2⟩
theorem a2j (h:TF P T size agg zero bytes)(w:World):(isAgg T).run P w= .ok agg w:=by
 have:=h.und
 cases e:P.underlying T with
 | none=>rw [e] at this;cases this
 | some d=>
  rw [e] at this
  simp only [Option.map_some,Option.some.injEq] at this
  cases d<;>simp_all [isAgg,run_underlying e,b8m]
theorem H8 (h:TF P T size agg zero bytes)(w:World):(sizeOf T).run P w= .ok size w:=by
 obtain⟨i,hi,_,hs,_⟩:=h.info_
 simp [sizeOf,typeInfo,hi,hs]
theorem a1I (h:TF P T size agg zero bytes)(w:World):(zeroValue T).run P w= .ok zero w:=by
 obtain⟨i,hi,hz,_,_⟩:=h.info_
 simp [zeroValue,typeInfo,hi,hz]
def a5R (w:World)(b o:Nat)(cs:List Value):Prop:=∀j c,cs[j]? =some c→w.cell? ⟨b,o+j,none⟩=some c
theorem a8a (h:SH w0 K0 M w K L){b o:Nat}{cs:List Value}(hk:D7 K b o cs):a5R w b o cs:=fun j c e=>h.holds _ _ _ (hk j c e)
theorem a1x {b o:Nat}{cs:List Value}(h:a5R w b o cs):(loadCells ⟨b,o,none⟩ cs.length).run P w= .ok cs.toArray w:=by
 have:=run_loadCells_list (P:=P) w ⟨b,o,none⟩ cs (fun j v hj=>by rw [a2N];exact h j v hj)
 exact this
theorem a1j {b o:Nat}{cs:List Value}{v:Value}(hT:TF P T size agg zero bytes)(hx:ev E x=some (.pointer (some ⟨b,o,none⟩)))
  (hc:a5R w b o cs)(hv:(agg=true∧cs.length=size∧v= .agg cs.toArray)∨(agg=false∧cs=[v])):RV P E w (.load T x) v:=fun ρ _ _ _ _ _ ha=>by
 rcases hv with ⟨rfl,hl,rfl⟩ | ⟨rfl,rfl⟩
 ·subst hl
  simp [execOp,ha x _ hx,Instr.loadAt,Instr.sureAddr,loadVar,a2j hT,H8 hT,a1x hc]
 ·have h0:=hc 0 v rfl
  simp at h0
  simp [execOp,ha x _ hx,Instr.loadAt,Instr.sureAddr,loadVar,a2j hT,h0]
theorem z2 {b o:Nat}{v:Value}(hT:TF P T size false zero bytes)(hx:ev E x=some (.pointer (some ⟨b,o,none⟩)))(hS:SH w0 K0 M w K L)(hk:K b o=some v):RV P E w (.load T x) v:=
 a1j hT hx (cs:=[v]) (fun j c e=>by
  cases j with
  | zero=>simp at e;subst e;exact hS.holds _ _ _ hk
  | succ j=>simp at e) (.inr ⟨rfl,rfl⟩)
theorem C9 {b o:Nat}{cs:List Value}(hT:TF P T size true zero bytes)(hx:ev E x=some (.pointer (some ⟨b,o,none⟩)))(hS:SH w0 K0 M w K L)(hk:D7 K b o cs)(hl:cs.length=size):RV P E w (.load T x) (.agg cs.toArray):=
 a1j hT hx (a8a hS hk) (.inl ⟨rfl,hl,rfl⟩)
theorem SH.obj_at {g:Nat}{cs:List Value}{U:TypeId}(h:SH w0 K0 M w K (r5 g cs U fr::L)):w.heap[g]? =some (.cells cs.toArray U fr)∧(fr=(0,0)∨cs.length≤fr.1):=by
 have:=(h.items _ (List.mem_cons_self ..)).2 g rfl
 exact this.1
theorem SH.obj_cell {g:Nat}{cs:List Value}{U:TypeId}(h:SH w0 K0 M w K (r5 g cs U fr::L))(o:Nat):w.cell? ⟨g,o,none⟩=cs[o]? :=by
 obtain⟨e,_⟩:=h.obj_at
 simp [World.cell?,e]
theorem c7 {b o f off:Nat}(hF:FF P T f off)(hx:ev E x=some (.pointer (some ⟨b,o,none⟩))):RV P E w (.fieldAddr T x f) (.pointer (some ⟨b,o+off,none⟩)):=fun ρ _ _ _ _ _ ha=>by
 unfold FF at hF
 split at hF
 ·rename_i fs hu
  split at hF
  ·rename_i fd hfd
   simp only [Option.some.injEq,Prod.mk.injEq] at hF
   obtain⟨rfl,hpos⟩:=hF
   have hp:0<P.cellsOf fd.type:=by simpa using hpos
   have hne: ∃i,P.info? fd.type=some i∧i.size≠0:=by
    unfold Program.cellsOf at hp
    cases e:P.info? fd.type with
    | none=>rw [e] at hp;simp at hp
    | some i=>rw [e] at hp;simp at hp;exact⟨i,rfl,by omega⟩
   obtain⟨i,hi,hsz⟩:=hne
   simp [execOp,ha x _ hx,Instr.fieldAt,run_underlying hu,hfd,Instr.sureAddr,fieldPlace,sizeOf,typeInfo,hi,hsz,a2N]
  ·cases hF
 ·cases hF
theorem a1i {α:Type}{t:Ty α}{a:Option Addr}{n c:Nat}{xs:List α}{k:IntKind}{i:Int}{z:α}{U:TypeId}(hT:P.underlying T=some (.slice U))(hU:TF P U t.size agg zero bytes)
  (hx:ev E x=some (.slice a n c))(hy:ev E y=some (.int k i))(hs:b7 t K a n c xs)(hz:p8 xs i=some z):
  ∃b o u,(∀w,RV P E w (.indexAddr T x y) (.pointer (some ⟨b,o,none⟩)))∧t.rel K u z∧D7 K b o u.cells.toList:=by
 obtain⟨h1,h2,h3,h4⟩:=hs
 obtain⟨g0,g1,g2⟩:=a0j hz
 obtain⟨b,o,rfl,h5⟩:=h4 (by omega)
 obtain⟨u,hu,hk⟩:=h5 _ _ g2
 refine⟨b,o+i.toNat*t.size,u,fun _ ρ _ _ _ _ _ ha=>?_,hu,hk⟩
 have hlt:i<(n:Int):=by omega
 simp [execOp,ha x _ hx,ha y _ hy,Instr.indexAt,asIntOf,run_underlying hT,g0,hlt,H8 hU,a2N]
theorem p7 {α:Type}{t:Ty α}{a:Option Addr}{n c:Nat}{xs:List α}{U:TypeId}(hT:P.underlying T=some (.slice U))(hx:ev E x=some (.slice a n c))(hs:b7 t K a n c xs):
  RV P E w (.call {callee:=.builtin .len,args:=#[x],argTypes:=#[T]}) (.int .i64 xs.length):=fun ρ _ _ _ _ _ ha=>by
 obtain⟨rfl,_⟩:=hs
 simp [execOp,resolve,invoke,builtin,ha x _ hx,Builtin.len_,run_underlying hT,goInt]
def Z6 {α:Type}(xs:List α)(l h:Int):Option (List α):=if 0≤l∧l≤h∧h≤xs.length then some ((xs.take h.toNat).drop l.toNat) else none
theorem b7.sub {α:Type}{t:Ty α}{a:Option Addr}{n c:Nat}{xs ys:List α}{l h:Int}(hs:b7 t K a n c xs)(hy:Z6 xs l h=some ys):
  0≤l∧l≤h∧h≤n∧(n:Int)≤c∧b7 t K (if c=l.toNat then a else a.map (·.add (l.toNat*t.size))) (h.toNat-l.toNat) (c-l.toNat) ys:=by
 obtain⟨rfl,h2,h3,h4⟩:=hs
 unfold Z6 at hy
 split at hy
 ·rename_i hb
  cases hy
  refine⟨hb.1,hb.2.1,hb.2.2,by omega,?_,by omega,by omega,fun hc=>?_⟩
  ·simp only [List.length_drop,List.length_take];omega
  ·obtain⟨b,o,rfl,h5⟩:=h4 (by omega)
   rw [if_neg (by omega)]
   refine⟨b,o+l.toNat*t.size,by simp [a2N],fun i z hz=>?_⟩
   rw [List.getElem?_drop,List.getElem?_take] at hz
   split at hz
   ·obtain⟨u,hu,hk⟩:=h5 _ _ hz
    exact⟨u,hu,by rw [Nat.add_assoc,←Nat.add_mul];exact hk⟩
   ·cases hz
 ·cases hy
theorem b7F {α:Type}{t:Ty α}{a:Option Addr}{n c:Nat}{xs ys:List α}{k:IntKind}{l:Int}{U:TypeId}(hT:P.underlying T=some (.slice U))(hU:TF P U t.size agg zero bytes)
  (hx:ev E x=some (.slice a n c))(hy:ev E y=some (.int k l))(hs:b7 t K a n c xs)(hz:Z6 xs l xs.length=some ys):
  ∃a' n' c',(∀w,RV P E w (.slice T x (some y) none none) (.slice a' n' c'))∧b7 t K a' n' c' ys:=by
 obtain⟨h0,h1,h2,h3,h4⟩:=hs.sub hz
 refine⟨_,_,_,fun _ ρ _ _ _ _ _ ha=>?_,h4⟩
 have e:n=xs.length:=hs.1
 have h1':l≤(n:Int):=by omega
 simp [execOp,ha x _ hx,ha y _ hy,Instr.sliceAt,Instr.slice,Instr.sliceBounds,Instr.sliceBound,asIntOf,run_underlying hT,h0,h1',H8 hU,←e]
theorem b3X {α:Type}{t:Ty α}{a:Option Addr}{n c:Nat}{xs ys:List α}{k:IntKind}{h:Int}{U:TypeId}(hT:P.underlying T=some (.slice U))(hU:TF P U t.size agg zero bytes)
  (hx:ev E x=some (.slice a n c))(hy:ev E y=some (.int k h))(hs:b7 t K a n c xs)(hz:Z6 xs 0 h=some ys):
  ∃a' n' c',(∀w,RV P E w (.slice T x none (some y) none) (.slice a' n' c'))∧b7 t K a' n' c' ys:=by
 obtain⟨h0,h1,h2,h3,h4⟩:=hs.sub hz
 refine⟨_,_,_,fun _ ρ _ _ _ _ _ ha=>?_,h4⟩
 have h1':h≤(c:Int):=by omega
 simp [execOp,ha x _ hx,ha y _ hy,Instr.sliceAt,Instr.slice,Instr.sliceBounds,Instr.sliceBound,asIntOf,run_underlying hT,h1,h1',H8 hU]
theorem b6m {α:Type}{t:Ty α}{a:Option Addr}{n c:Nat}{xs ys:List α}{z:Operand}{k k':IntKind}{l h:Int}{U:TypeId}(hT:P.underlying T=some (.slice U))(hU:TF P U t.size agg zero bytes)
  (hx:ev E x=some (.slice a n c))(hy:ev E y=some (.int k l))(hzz:ev E z=some (.int k' h))(hs:b7 t K a n c xs)(hz:Z6 xs l h=some ys):
  ∃a' n' c',(∀w,RV P E w (.slice T x (some y) (some z) none) (.slice a' n' c'))∧b7 t K a' n' c' ys:=by
 obtain⟨h0,h1,h2,h3,h4⟩:=hs.sub hz
 refine⟨_,_,_,fun _ ρ _ _ _ _ _ ha=>?_,h4⟩
 have h1':h≤(c:Int):=by omega
 have h5:0≤h:=by omega
 have h6:max h 0=h:=by omega
 simp [execOp,ha x _ hx,ha y _ hy,ha z _ hzz,Instr.sliceAt,Instr.slice,Instr.sliceBounds,Instr.sliceBound,asIntOf,run_underlying hT,h0,h1,h1',h5,h6,H8 hU]
end
end Go.Fk
