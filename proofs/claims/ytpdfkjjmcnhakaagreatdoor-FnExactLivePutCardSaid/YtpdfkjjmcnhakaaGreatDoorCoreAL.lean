import Derived.WalkKit
import Derived.Deep.Draws
import Derived.Deep.LoopGhost
import Derived.Deep.Quiet
import Derived.Laws.BytesString
import Derived.OrdersHeld
import Derived.Laws.StructEq
import Derived.Laws.IdiomStrings
import Derived.ChangeSlices
import Derived.ChangeSame
import Derived.OpenShut
import Derived.Below
import Derived.JoinedOf
import Derived.JoinedAt
/-
  A small library over the kit, of no program: plain data and how they lie in memory (a ghost map K of cells that no longer turn), and frames as lists of slots.
-/
namespace Go.Fk
open Go
theorem u {α:Sort _}{a:α}:a=a:=rfl
abbrev KMap:=Nat→Nat→Option Value
def KLe (K K':KMap):Prop:=∀b o v,K b o=some v→K' b o=some v
theorem KLe.refl (K:KMap):KLe K K:=fun _ _ _ h=>h
theorem KLe.trans {K K' K'':KMap}(h:KLe K K')(h':KLe K' K''):KLe K K'':=fun b o v e=>h' b o v (h b o v e)
def Holds (K:KMap)(w:World):Prop:=∀b o v,K b o=some v→w.cell? ⟨b,o,none⟩=some v
theorem Holds.lt {K:KMap}{w:World}(h:Holds K w){b o:Nat}{v:Value}(e:K b o=some v):b<w.heap.size:=by
 have h1:=h b o v e
 rcases Nat.lt_or_ge b w.heap.size with hlt | hge
 ·exact hlt
 ·simp [World.cell?,Array.getElem?_eq_none hge] at h1
theorem add_at (b o n:Nat):(⟨b,o,none⟩:Addr).add n=⟨b,o+n,none⟩:=by
 unfold Addr.add
 by_cases h:n=0<;>simp [h]
def AtK (K:KMap)(b o:Nat)(cs:List Value):Prop:=∀j c,cs[j]? =some c→K b (o+j)=some c
theorem AtK.mono {K K':KMap}(h:KLe K K'){b o:Nat}{cs:List Value}(a:AtK K b o cs):AtK K' b o cs:=fun j c e=>h _ _ _ (a j c e)
structure Ty (α:Type) where
 size:Nat
 agg:Bool
 rel:KMap→Value→α→Prop
 mono: ∀{K K':KMap},KLe K K'→∀{v:Value} {x:α},rel K v x→rel K' v x
 shape: ∀{K:KMap} {v:Value} {x:α},rel K v x→(agg=true∧∃cs,v= .agg cs)∨(agg=false∧v.oneCell'=true)
 size_eq: ∀{K:KMap} {v:Value} {x:α},rel K v x→v.cells.size=size
 ones: ∀{K:KMap} {v:Value} {x:α},rel K v x→∀c∈v.cells.toList,c.oneCell'=true
theorem cells_one {v:Value}(h:v.oneCell'=true):v.cells=#[v]:=by cases v<;>simp_all [Value.oneCell',Value.cells]
def rng64 (n:Int):Prop:= -9223372036854775808≤n∧n≤9223372036854775807
abbrev Str:=List UInt8
def sv (s:Str):Value:=.string ⟨s.toArray⟩
def tInt:Ty Int where
 size:=1
 agg:=false
 rel:=fun _ v n=>v= .int .i64 n∧rng64 n
 mono:=fun _ _ _ h=>h
 shape:=fun⟨h,_⟩=>.inr ⟨rfl,by subst h;rfl⟩
 size_eq:=fun⟨h,_⟩=>by subst h;rfl
 ones:=fun⟨h,_⟩=>by subst h;simp [Value.cells,Value.oneCell']
def iv8 (b:UInt8):Value:=.int .u8 b.toNat
def tU8:Ty UInt8 where
 size:=1
 agg:=false
 rel:=fun _ v n=>v=iv8 n
 mono:=fun _ _ _ h=>h
 shape:=fun h=>.inr ⟨rfl,by subst h;rfl⟩
 size_eq:=fun h=>by subst h;rfl
 ones:=fun h=>by subst h;simp [Value.cells,Value.oneCell',iv8]
def tStr:Ty Str where
 size:=1
 agg:=false
 rel:=fun _ v s=>v=sv s∧s.length≤maxLen
 mono:=fun _ _ _ h=>h
 shape:=fun⟨h,_⟩=>.inr ⟨rfl,by subst h;rfl⟩
 size_eq:=fun⟨h,_⟩=>by subst h;rfl
 ones:=fun⟨h,_⟩=>by subst h;simp [Value.cells,Value.oneCell',sv]
def SliceAt {α:Type}(t:Ty α)(K:KMap)(a:Option Addr)(n c:Nat)(xs:List α):Prop:=
 n=xs.length∧n≤c∧c≤maxLen∧(0<c→∃b o,a=some ⟨b,o,none⟩∧∀(i:Nat) x,xs[i]? =some x→∃u,t.rel K u x∧AtK K b (o+i*t.size) u.cells.toList)
theorem SliceAt.mono {α:Type}{t:Ty α}{K K':KMap}(h:KLe K K'){a:Option Addr}{n c:Nat}{xs:List α}(p:SliceAt t K a n c xs):SliceAt t K' a n c xs:=
 ⟨p.1,p.2.1,p.2.2.1,fun hc=>let ⟨b,o,e1,h5⟩:=p.2.2.2 hc;⟨b,o,e1,fun i x hx=>let ⟨u,r,k⟩:=h5 i x hx;⟨u,t.mono h r,k.mono h⟩⟩⟩
theorem SliceAt.max {α:Type}{t:Ty α}{K:KMap}{a:Option Addr}{n c:Nat}{xs:List α}(p:SliceAt t K a n c xs):xs.length≤maxLen:=by
 obtain⟨h1,h2,h3,_⟩:=p;omega
def tSlice {α:Type}(t:Ty α):Ty (List α) where
 size:=1
 agg:=false
 rel:=fun K v xs=>∃a n c,v= .slice a n c∧SliceAt t K a n c xs
 mono:=fun h _ _ ⟨a,n,c,e,h1,h2,h3,h4⟩=>⟨a,n,c,e,h1,h2,h3,fun hc=>
  let ⟨b,o,e1,h5⟩:=h4 hc
  ⟨b,o,e1,fun i x hx=>let ⟨u,r,k⟩:=h5 i x hx;⟨u,t.mono h r,k.mono h⟩⟩⟩
 shape:=fun⟨_,_,_,h,_⟩=>.inr ⟨rfl,by subst h;rfl⟩
 size_eq:=fun⟨_,_,_,h,_⟩=>by subst h;rfl
 ones:=fun⟨_,_,_,h,_⟩=>by subst h;simp [Value.cells,Value.oneCell']
def PtrK {α:Type}(t:Ty α)(K:KMap)(v:Value)(x:α):Prop:=
 ∃b o u,v= .pointer (some ⟨b,o,none⟩)∧t.rel K u x∧AtK K b o u.cells.toList
theorem PtrK.mono {α:Type}{t:Ty α}{K K':KMap}(h:KLe K K'){v:Value}{x:α}(p:PtrK t K v x):PtrK t K' v x:=
 let ⟨b,o,u,e,r,k⟩:=p
 ⟨b,o,u,e,t.mono h r,k.mono h⟩
def getI {α:Type}(xs:List α)(i:Int):Option α:=if 0≤i then xs[i.toNat]? else none
theorem getI_some {α:Type}{xs:List α}{i:Int}{x:α}(h:getI xs i=some x):0≤i∧i<xs.length∧xs[i.toNat]? =some x:=by
 unfold getI at h
 split at h
 ·rename_i h0
  have:=(List.getElem?_eq_some_iff.1 h).1
  exact⟨h0,by omega,h⟩
 ·cases h
abbrev Env:=List (Nat×Value)
def look:Env→Nat→Option Value
 | [],_=>none
 | (a,v)::E,i=>bif Nat.beq a i then some v else look E i
def Fr (N:Nat)(E:Env)(t:Array Value):Prop:=t.size=N∧∀i v,look E i=some v→t[i]? =some v
theorem Fr.put {N:Nat}{E:Env}{t:Array Value}(h:Fr N E t){d:Nat}(hd:Nat.blt d N=true)(v:Value):Fr N ((d,v)::E) (t.setIfInBounds d v):=by
 obtain⟨h1,h2⟩:=h
 have hd':d<N:=by simpa [Nat.blt_eq] using hd
 refine⟨by simp [h1],fun i u hu=>?_⟩
 simp only [look] at hu
 rw [Array.getElem?_setIfInBounds]
 by_cases e:d=i
 ·subst e;simp at hu;subst hu;simp [h1,hd']
 ·rw [if_neg e]
  have:Nat.beq d i=false:=by
   rw [Bool.eq_false_iff];intro hb;exact e (Nat.eq_of_beq_eq_true hb)
  rw [this] at hu
  exact h2 i u (by simpa using hu)
def ev (E:Env):Operand→Option Value
 | .tmp i=>look E i
 | .const v=>some v
 | .global g=>some (.pointer (some ⟨g,0,none⟩))
 | .func f=>some (.func (.func f) #[] #[])
def Agree (E:Env)(ρ:Operand→Value):Prop:=∀x v,ev E x=some v→ρ x=v
theorem Fr.agree {N:Nat}{E:Env}{t:Array Value}(h:Fr N E t):Agree E (Act.eval ⟨t,[]⟩):=by
 intro x v hx
 cases x with
 | tmp i=>simp only [ev] at hx;have:=h.2 i v hx;simp [Act.eval,Array.getD_eq_getD_getElem?,this]
 | const u=>simp only [ev,Option.some.injEq] at hx;subst hx;rfl
 | global g=>simp only [ev,Option.some.injEq] at hx;subst hx;rfl
 | func f=>simp only [ev,Option.some.injEq] at hx;subst hx;rfl
def Sub:Env→Env→Prop
 | [],_=>True
 | (i,v)::r,E=>look E i=some v∧Sub r E
theorem Sub.look {E' E:Env}(h:Sub E' E): ∀{i v},look E' i=some v→look E i=some v:=by
 induction E' with
 | nil=>intro i v h;cases h
 | cons p r ih=>
  obtain⟨j,u⟩:=p
  intro i v hv
  simp only [Fk.look] at hv
  by_cases e:j=i
  ·subst e;simp at hv;subst hv;exact h.1
  ·have hb:Nat.beq j i=false:=by
    rw [Bool.eq_false_iff];intro hb;exact e (Nat.eq_of_beq_eq_true hb)
   rw [hb] at hv
   exact ih h.2 hv
theorem Fr.sub {N:Nat}{E E':Env}{t:Array Value}(h:Fr N E t)(hs:Sub E' E):Fr N E' t:=⟨h.1,fun _ _ hv=>h.2 _ _ (hs.look hv)⟩
theorem Fr.nil {N:Nat}{t:Array Value}(h:t.size=N):Fr N [] t:=⟨h,fun _ _ h=>by cases h⟩
section
variable {P:Program}{ops:Array Oper}{Q:Exit→Act→World→Prop}{N:Nat}
def WL (P:Program)(ops:Array Oper)(Q:Exit→Act→World→Prop)(N:Nat)(rest:List Oper)(E:Env)(w:World):Prop:=
 ∀t,Fr N E t→wpList P ops Q rest ⟨t,[]⟩ w
def WC (P:Program)(c:Code)(Q:Exit→Act→World→Prop)(N:Nat)(E:Env)(w:World):Prop:=∀t,Fr N E t→c.wp P Q ⟨t,[]⟩ w
def QE (Q:Exit→Act→World→Prop)(e:Exit)(N:Nat)(E:Env)(w:World):Prop:=∀t,Fr N E t→Q e ⟨t,[]⟩ w
variable {E:Env}{w:World}
theorem wc_sub {c:Code}{E':Env}(hs:Sub E' E)(h:WC P c Q N E' w):WC P c Q N E w:=fun t ht=>h t (ht.sub hs)
theorem qe_sub {e:Exit}{E':Env}(hs:Sub E' E)(h:QE Q e N E' w):QE Q e N E w:=fun t ht=>h t (ht.sub hs)
theorem wc_seq {x y:Code}(h:WC P x (Exit.then (y.wp P Q) Q) N E w):WC P (.seq x y) Q N E w:=fun t ht=>wp_seq (h t ht)
theorem qe_seq {y:Code}(h:WC P y Q N E w):QE (Exit.then (y.wp P Q) Q) .normal N E w:=h
theorem qe_then_exit {k:Act→World→Prop}{id:Nat}(h:QE Q (.exit id) N E w):QE (Exit.then k Q) (.exit id) N E w:=h
theorem qe_then_ret {k:Act→World→Prop}(h:QE Q .ret N E w):QE (Exit.then k Q) .ret N E w:=h
theorem qe_block {id:Nat}(h:QE Q .normal N E w):QE (Exit.inBlock id Q) .normal N E w:=h
theorem qe_block_ret {id:Nat}(h:QE Q .ret N E w):QE (Exit.inBlock id Q) .ret N E w:=h
theorem qe_block_eq {id:Nat}(h:QE Q .normal N E w):QE (Exit.inBlock id Q) (.exit id) N E w:=fun t ht=>by
 show (if id=id then _ else _)
 rw [if_pos rfl];exact h t ht
theorem qe_block_ne {id id':Nat}(hne:Nat.beq id' id=false)(h:QE Q (.exit id') N E w):QE (Exit.inBlock id Q) (.exit id') N E w:=fun t ht=>by
 have hn: ¬id'=id:=fun e=>by subst e;simp at hne
 show (if id'=id then _ else _)
 rw [if_neg hn];exact h t ht
theorem wc_skip (h:QE Q .normal N E w):WC P .skip Q N E w:=fun t ht=>wp_skip (h t ht)
theorem wc_exit {id:Nat}(h:QE Q (.exit id) N E w):WC P (.exit id) Q N E w:=fun t ht=>wp_exit (h t ht)
theorem wc_ret (h:QE Q .ret N E w):WC P .ret Q N E w:=fun t ht=>wp_ret (h t ht)
theorem wc_block {id:Nat}{c:Code}(h:WC P c (Exit.inBlock id Q) N E w):WC P (.block id c) Q N E w:=fun t ht=>wp_block (h t ht)
theorem wc_cond {c:Operand}{x y:Code}{b:Bool}(hc:ev E c=some (.bool b))(ht:b=true→WC P x Q N E w)(hf:b=false→WC P y Q N E w):
  WC P (.cond c x y) Q N E w:=fun t hfr=>by
 have e:=hfr.agree c _ hc
 cases b with
 | true=>exact wp_cond e (ht rfl t hfr)
 | false=>exact wp_cond e (hf rfl t hfr)
theorem wc_region {id:Nat}{l:List Oper}(h:WL P l.toArray Q N l E w):WC P (.region id l.toArray false) Q N E w:=fun t ht=>wp_region_lit (h t ht)
theorem wl_nil (h:QE Q .normal N E w):WL P ops Q N [] E w:=fun t ht=>h t ht
theorem wc_mono {c:Code}{Q':Exit→Act→World→Prop}(h:WC P c Q' N E w)(hq: ∀e a w,Q' e a w→Q e a w):WC P c Q N E w:=
 fun t ht=>Code.wp_mono hq (h t ht)
def InSt (N:Nat)(Mid:Env→World→Prop)(a:Act)(w:World):Prop:=a.defers=[]∧∃E',Fr N E' a.tmps∧Mid E' w
theorem qe_mid {k:Env→World→Prop}(h:k E w):QE (Exit.then (InSt N k) Q) .normal N E w:=fun _ ht=>⟨rfl,E,ht,h⟩
end
end Go.Fk
namespace Go.Fk
open Go
section
variable {P:Program}{ops:Array Oper}{Q:Exit→Act→World→Prop}{N:Nat}{E:Env}{w:World}
def RunTo (P:Program)(E:Env)(w:World)(op:Op)(r:Result Next):Prop:=
 ∀(ρ:Operand→Value) (dst:Option Tmp) (ty:TypeId) (pos:String) (af:Array Edge) (gd:Option (Nat×Bool)),Agree E ρ→(execOp ρ ⟨dst,op,ty,pos,af,gd⟩).run P w=r
abbrev RV (P:Program)(E:Env)(w:World)(op:Op)(v:Value):Prop:=RunTo P E w op (.ok (.value v) w)
def Wanted (ops:Array Oper)(N:Nat)(E:Env)(gd:Option (Nat×Bool)):Prop:=
 ∀(t:Array Value) (dst:Option Tmp) (op:Op) (ty:TypeId) (pos:String) (af:Array Edge),Fr N E t→Region.wanted ⟨dst,op,ty,pos,af,gd⟩ (yielded ops t)=true
def Unwanted (ops:Array Oper)(N:Nat)(E:Env)(gd:Option (Nat×Bool)):Prop:=
 ∀(t:Array Value) (dst:Option Tmp) (op:Op) (ty:TypeId) (pos:String) (af:Array Edge),Fr N E t→Region.wanted ⟨dst,op,ty,pos,af,gd⟩ (yielded ops t)=false
theorem wn:Wanted ops N E none:=fun _ _ _ _ _ _ _=>rfl
theorem wg {j gs:Nat}{b want:Bool}(hj:(ops[j]?).bind (·.dst)=some gs)(hE:look E gs=some (.bool b))(hb:b=want):Wanted ops N E (some (j,want)):=
 fun t _ _ _ _ _ hf=>by
  have h:=hf.2 gs _ hE
  simp [Region.wanted,yielded,hj,h,hb]
theorem ug {j gs:Nat}{b want:Bool}(hj:(ops[j]?).bind (·.dst)=some gs)(hE:look E gs=some (.bool b))(hb:b= !want):Unwanted ops N E (some (j,want)):=
 fun t _ _ _ _ _ hf=>by
  have h:=hf.2 gs _ hE
  subst hb
  simp [Region.wanted,yielded,hj,h]
theorem uu {j gs:Nat}{want:Bool}(hj:(ops[j]?).bind (·.dst)=some gs)(hE:look E gs=some undef):Unwanted ops N E (some (j,want)):=
 fun t _ _ _ _ _ hf=>by
  have h:=hf.2 gs _ hE
  simp [Region.wanted,yielded,hj,h,undef]
theorem wl_of_wp {o:Oper}{rest:List Oper}(hw: ∀t,Fr N E t→Region.wanted o (yielded ops t)=true)
  (h: ∀t,Fr N E t→o.wp P ⟨t,[]⟩ w (wpList P ops Q rest) Q):WL P ops Q N (o::rest) E w:=fun t ht=>by
 unfold wpList
 rw [if_pos (hw t ht)]
 exact .inl (h t ht)
theorem wl_val {d:Tmp}{op:Op}{ty:TypeId}{pos:String}{af:Array Edge}{gd:Option (Nat×Bool)}{rest:List Oper}{v:Value}
  (hw:Wanted ops N E gd)(hd:Nat.blt d N=true)(hr:RV P E w op v)(h:WL P ops Q N rest ((d,v)::E) w):WL P ops Q N (⟨some d,op,ty,pos,af,gd⟩::rest) E w:=
 wl_of_wp (fun t ht=>hw t _ _ _ _ _ ht) fun t ht=>by
  unfold Oper.wp
  rw [hr _ _ _ _ _ _ ht.agree]
  exact h _ (ht.put hd v)
theorem wl_eff {d:Tmp}{op:Op}{ty:TypeId}{pos:String}{af:Array Edge}{gd:Option (Nat×Bool)}{rest:List Oper}{v:Value}{w':World}
  (hw:Wanted ops N E gd)(hd:Nat.blt d N=true)(hr:RunTo P E w op (.ok (.value v) w'))(h:WL P ops Q N rest ((d,v)::E) w'):WL P ops Q N (⟨some d,op,ty,pos,af,gd⟩::rest) E w:=
 wl_of_wp (fun t ht=>hw t _ _ _ _ _ ht) fun t ht=>by
  unfold Oper.wp
  rw [hr _ _ _ _ _ _ ht.agree]
  exact h _ (ht.put hd v)
theorem wl_do {op:Op}{ty:TypeId}{pos:String}{af:Array Edge}{gd:Option (Nat×Bool)}{rest:List Oper}{w':World}
  (hw:Wanted ops N E gd)(hr:RunTo P E w op (.ok .skip w'))(h:WL P ops Q N rest E w'):WL P ops Q N (⟨none,op,ty,pos,af,gd⟩::rest) E w:=
 wl_of_wp (fun t ht=>hw t _ _ _ _ _ ht) fun t ht=>by
  unfold Oper.wp
  rw [hr _ _ _ _ _ _ ht.agree]
  exact h _ ht
theorem wl_un {d:Tmp}{op:Op}{ty:TypeId}{pos:String}{af:Array Edge}{gd:Option (Nat×Bool)}{rest:List Oper}
  (hw:Unwanted ops N E gd)(hd:Nat.blt d N=true)(h:WL P ops Q N rest ((d,undef)::E) w):WL P ops Q N (⟨some d,op,ty,pos,af,gd⟩::rest) E w:=fun t ht=>by
 unfold wpList
 rw [if_neg (by rw [hw t _ _ _ _ _ ht];simp)]
 exact h _ (ht.put hd undef)
theorem wl_call {d:Tmp}{op:Op}{ty:TypeId}{pos:String}{af:Array Edge}{gd:Option (Nat×Bool)}{rest:List Oper}{f:FuncId}{args:Array Value}{R:Ending→World→Prop}
  (hw:Wanted ops N E gd)(hd:Nat.blt d N=true)(hr:RunTo P E w op (.ok (.enter f args) w))(hc:Calls P f args w R)
  (h: ∀e w',R e w'→∃v,e= .returned v∧WL P ops Q N rest ((d,v)::E) w'):WL P ops Q N (⟨some d,op,ty,pos,af,gd⟩::rest) E w:=
 wl_of_wp (fun t ht=>hw t _ _ _ _ _ ht) fun t ht=>by
  unfold Oper.wp
  rw [hr _ _ _ _ _ _ ht.agree]
  refine hc.mono fun e w' hR=>?_
  obtain⟨v,rfl,hn⟩:=h e w' hR
  exact hn _ (ht.put hd v)
variable {x y:Operand}{T T':TypeId}
theorem rv_move {v:Value}(hx:ev E x=some v):RV P E w (.move x) v:=fun ρ _ _ _ _ _ ha=>by simp [execOp,ha x v hx]
theorem rv_assign {v:Value}(hx:ev E x=some v):RV P E w (.assign x) v:=fun ρ _ _ _ _ _ ha=>by simp [execOp,ha x v hx]
theorem rv_pick_t {c:Operand}{b:Bool}{v:Value}(hc:ev E c=some (.bool b))(hb:b=true)(hx:ev E x=some v):RV P E w (.pick c x y) v:=
 fun ρ _ _ _ _ _ ha=>by subst hb;simp [execOp,ha _ _ hc,ha _ _ hx,asBool]
theorem rv_pick_f {c:Operand}{b:Bool}{v:Value}(hc:ev E c=some (.bool b))(hb:b=false)(hy:ev E y=some v):RV P E w (.pick c x y) v:=
 fun ρ _ _ _ _ _ ha=>by subst hb;simp [execOp,ha _ _ hc,ha _ _ hy,asBool]
theorem rv_nilCheck {a:Addr}(hx:ev E x=some (.pointer (some a))):RV P E w (.nilCheck x) (.pointer (some a)):=fun ρ _ _ _ _ _ ha=>by simp [execOp,ha x _ hx]
theorem rv_not {b:Bool}(hx:ev E x=some (.bool b)):RV P E w (.unOp .not T x) (.bool (!b)):=fun ρ _ _ _ _ _ ha=>by simp [execOp,ha x _ hx,Op.unary]
theorem rv_extract {vs:Array Value}{i:Nat}{v:Value}(hx:ev E x=some (.tuple vs))(hv:vs[i]? =some v):RV P E w (.extract x i) v:=
 fun ρ _ _ _ _ _ ha=>by simp [execOp,ha x _ hx,Instr.extract,hv]
def w64 (n:Int):Int:=IntKind.i64.wrap n
def quoI (a b:Int):Option Int:=if b=0 then none else some (w64 (a.tdiv b))
def remI (a b:Int):Option Int:=if b=0 then none else some (a.tmod b)
section
variable {k:IntKind}{a b c:Int}
theorem rv_add (hx:ev E x=some (.int .i64 a))(hy:ev E y=some (.int .i64 b)):RV P E w (.binOp .add T x y T') (.int .i64 (w64 (a+b))):=
 fun ρ _ _ _ _ _ ha=>by simp [execOp,ha x _ hx,ha y _ hy,eqGuard,binOp,Op.intArith,w64]
theorem rv_add_to (hx:ev E x=some (.int .i64 a))(hy:ev E y=some (.int .i64 b))(hc:w64 (a+b)=c):RV P E w (.binOp .add T x y T') (.int .i64 c):=hc▸rv_add hx hy
theorem rv_sub (hx:ev E x=some (.int .i64 a))(hy:ev E y=some (.int .i64 b)):RV P E w (.binOp .sub T x y T') (.int .i64 (w64 (a-b))):=
 fun ρ _ _ _ _ _ ha=>by simp [execOp,ha x _ hx,ha y _ hy,eqGuard,binOp,Op.intArith,w64]
theorem rv_quo (hx:ev E x=some (.int .i64 a))(hy:ev E y=some (.int .i64 b))(hc:quoI a b=some c):RV P E w (.binOp .quo T x y T') (.int .i64 c):=
 fun ρ _ _ _ _ _ ha=>by
  unfold quoI at hc
  split at hc
  ·cases hc
  ·rename_i hb;cases hc;simp [execOp,ha x _ hx,ha y _ hy,eqGuard,binOp,Op.intDiv,hb,w64]
theorem rv_rem (hx:ev E x=some (.int .i64 a))(hy:ev E y=some (.int .i64 b))(hc:remI a b=some c):RV P E w (.binOp .rem T x y T') (.int .i64 c):=
 fun ρ _ _ _ _ _ ha=>by
  unfold remI at hc
  split at hc
  ·cases hc
  ·rename_i hb;cases hc;simp [execOp,ha x _ hx,ha y _ hy,eqGuard,binOp,Op.intDiv,hb]
theorem rv_lss (hx:ev E x=some (.int k a))(hy:ev E y=some (.int k b)):RV P E w (.binOp .lss T x y T') (.bool (decide (a<b))):=
 fun ρ _ _ _ _ _ ha=>by simp [execOp,ha x _ hx,ha y _ hy,eqGuard,binOp,Op.intCmp]
theorem rv_leq (hx:ev E x=some (.int k a))(hy:ev E y=some (.int k b)):RV P E w (.binOp .leq T x y T') (.bool (decide (a≤b))):=
 fun ρ _ _ _ _ _ ha=>by simp [execOp,ha x _ hx,ha y _ hy,eqGuard,binOp,Op.intCmp]
theorem rv_gtr (hx:ev E x=some (.int k a))(hy:ev E y=some (.int k b)):RV P E w (.binOp .gtr T x y T') (.bool (decide (b<a))):=
 fun ρ _ _ _ _ _ ha=>by simp [execOp,ha x _ hx,ha y _ hy,eqGuard,binOp,Op.intCmp]
theorem rv_geq (hx:ev E x=some (.int k a))(hy:ev E y=some (.int k b)):RV P E w (.binOp .geq T x y T') (.bool (decide (b≤a))):=
 fun ρ _ _ _ _ _ ha=>by simp [execOp,ha x _ hx,ha y _ hy,eqGuard,binOp,Op.intCmp]
theorem rv_eql (hx:ev E x=some (.int k a))(hy:ev E y=some (.int k b)):RV P E w (.binOp .eql T x y T') (.bool (a==b)):=
 fun ρ _ _ _ _ _ ha=>by simp [execOp,ha x _ hx,ha y _ hy,eqGuard,binOp,Op.intCmp]
theorem rv_neq (hx:ev E x=some (.int k a))(hy:ev E y=some (.int k b)):RV P E w (.binOp .neq T x y T') (.bool (!(a==b))):=
 fun ρ _ _ _ _ _ ha=>by simp [execOp,ha x _ hx,ha y _ hy,eqGuard,binOp,Op.intCmp,bne]
theorem rv_neg (hx:ev E x=some (.int .i64 a)):RV P E w (.unOp .neg T x) (.int .i64 (w64 (0-a))):=
 fun ρ _ _ _ _ _ ha=>by simp [execOp,ha x _ hx,Op.unary,Op.intArith,w64]
end
section
variable {s r:Str}
def strLess (a b:Str):Bool:=Op.bytesLess a b
theorem rv_slss (hx:ev E x=some (sv s))(hy:ev E y=some (sv r)):RV P E w (.binOp .lss T x y T') (.bool (strLess s r)):=
 fun ρ _ _ _ _ _ ha=>by simp [execOp,ha x _ hx,ha y _ hy,eqGuard,binOp,sv,Op.stringOp,strLess]
theorem rv_sgtr (hx:ev E x=some (sv s))(hy:ev E y=some (sv r)):RV P E w (.binOp .gtr T x y T') (.bool (!(strLess s r||s==r))):=
 fun ρ _ _ _ _ _ ha=>by simp [execOp,ha x _ hx,ha y _ hy,eqGuard,binOp,sv,Op.stringOp,strLess]
theorem rv_sleq (hx:ev E x=some (sv s))(hy:ev E y=some (sv r)):RV P E w (.binOp .leq T x y T') (.bool (strLess s r||s==r)):=
 fun ρ _ _ _ _ _ ha=>by simp [execOp,ha x _ hx,ha y _ hy,eqGuard,binOp,sv,Op.stringOp,strLess]
theorem rv_sgeq (hx:ev E x=some (sv s))(hy:ev E y=some (sv r)):RV P E w (.binOp .geq T x y T') (.bool (!strLess s r)):=
 fun ρ _ _ _ _ _ ha=>by simp [execOp,ha x _ hx,ha y _ hy,eqGuard,binOp,sv,Op.stringOp,strLess]
theorem rv_seql (hx:ev E x=some (sv s))(hy:ev E y=some (sv r)):RV P E w (.binOp .eql T x y T') (.bool (s==r)):=
 fun ρ _ _ _ _ _ ha=>by simp [execOp,ha x _ hx,ha y _ hy,eqGuard,binOp,sv,Op.stringOp]
theorem rv_sneq (hx:ev E x=some (sv s))(hy:ev E y=some (sv r)):RV P E w (.binOp .neq T x y T') (.bool (!(s==r))):=
 fun ρ _ _ _ _ _ ha=>by simp [execOp,ha x _ hx,ha y _ hy,eqGuard,binOp,sv,Op.stringOp]
def catS (a b:Str):Option Str:=if a.length+b.length≤maxLen then some (a++b) else none
theorem sv_append (s r:Str):(⟨s.toArray⟩:ByteArray)++⟨r.toArray⟩=⟨(s++r).toArray⟩:=by
 apply ByteArray.ext
 simp [ByteArray.data_append]
theorem rv_sadd {c:Str}(hx:ev E x=some (sv s))(hy:ev E y=some (sv r))(hc:catS s r=some c):RV P E w (.binOp .add T x y T') (sv c):=
 fun ρ _ _ _ _ _ ha=>by
  unfold catS at hc
  split at hc
  ·rename_i h
   cases hc
   simp only [maxLen] at h
   have h': ¬((((⟨s.toArray⟩:ByteArray).size+(⟨r.toArray⟩:ByteArray).size:Nat):Int)>IntKind.i64.max):=by
    show ¬(((s.toArray.size+r.toArray.size:Nat):Int)>9223372036854775807)
    simp only [List.size_toArray];omega
   simp only [sv] at hx hy ⊢
   simp only [execOp,ha x _ hx,ha y _ hy,eqGuard,binOp,Op.stringOp,sv_append]
   rw [if_neg h']
   rfl
  ·cases hc
theorem size_sv (s:Str):(⟨s.toArray⟩:ByteArray).size=s.length:=by show s.toArray.size=_;simp
theorem rv_slen (hT:P.underlying T=some .string)(hx:ev E x=some (sv s)):RV P E w (.call {callee:=.builtin .len,args:=#[x],argTypes:=#[T]}) (.int .i64 s.length):=
 fun ρ _ _ _ _ _ ha=>by simp [execOp,resolve,invoke,builtin,ha x _ hx,Builtin.len_,run_underlying hT,sv,goInt,size_sv]
theorem rv_sidx {k:IntKind}{i:Int}{c:UInt8}(hT:P.underlying T=some .string)(hx:ev E x=some (sv s))(hy:ev E y=some (.int k i))(hc:getI s i=some c):RV P E w (.index T x y) (iv8 c):=
 fun ρ _ _ _ _ _ ha=>by
  obtain⟨h0,h1,h2⟩:=getI_some hc
  have h3:(⟨s.toArray⟩:ByteArray)[i.toNat]? =some c:=by
   have hlt:i.toNat<s.length:=by omega
   rw [getElem?_pos _ _ (by rw [size_sv];exact hlt)]
   rw [List.getElem?_eq_getElem hlt] at h2
   simpa [ByteArray.getElem_eq_getElem_data] using h2
  simp [execOp,ha x _ hx,ha y _ hy,Instr.index,asIntOf,run_underlying hT,sv,h0,h3,iv8]
def subS (s:Str)(l h:Int):Option Str:=if 0≤l∧l≤h∧h≤s.length then some ((s.take h.toNat).drop l.toNat) else none
theorem extract_sv (s:Str)(l h:Nat):(⟨s.toArray⟩:ByteArray).extract l h=⟨((s.take h).drop l).toArray⟩:=by
 apply ByteArray.ext
 simp [ByteArray.data_extract,List.drop_take]
theorem rv_ssl_l {k:IntKind}{i:Int}{c:Str}(hT:P.underlying T=some .string)(hx:ev E x=some (sv s))(hy:ev E y=some (.int k i))(hc:subS s i s.length=some c):RV P E w (.slice T x (some y) none none) (sv c):=
 fun ρ _ _ _ _ _ ha=>by
  unfold subS at hc
  split at hc
  ·rename_i h
   cases hc
   simp [execOp,ha x _ hx,ha y _ hy,Instr.sliceAt,Instr.slice,Instr.sliceBounds,Instr.sliceBound,asIntOf,run_underlying hT,sv,h.1,h.2.1,extract_sv,size_sv]
  ·cases hc
theorem rv_ssl_h {k:IntKind}{i:Int}{c:Str}(hT:P.underlying T=some .string)(hx:ev E x=some (sv s))(hy:ev E y=some (.int k i))(hc:subS s 0 i=some c):RV P E w (.slice T x none (some y) none) (sv c):=
 fun ρ _ _ _ _ _ ha=>by
  unfold subS at hc
  split at hc
  ·rename_i h
   cases hc
   have h1:i≤((⟨s.toArray⟩:ByteArray).size:Int):=by rw [size_sv];omega
   simp [execOp,ha x _ hx,ha y _ hy,Instr.sliceAt,Instr.slice,Instr.sliceBounds,Instr.sliceBound,asIntOf,run_underlying hT,sv,h.2.1,h1,extract_sv]
  ·cases hc
end
section
variable {a b:UInt8}
theorem rv_bl (hx:ev E x=some (iv8 a))(hy:ev E y=some (iv8 b)):RV P E w (.binOp .lss T x y T') (.bool (decide (a<b))):=
 fun ρ _ _ _ _ _ ha=>by simp [execOp,ha x _ hx,ha y _ hy,eqGuard,binOp,Op.intCmp,iv8,UInt8.lt_iff_toNat_lt]
theorem rv_ble (hx:ev E x=some (iv8 a))(hy:ev E y=some (iv8 b)):RV P E w (.binOp .leq T x y T') (.bool (decide (a≤b))):=
 fun ρ _ _ _ _ _ ha=>by simp [execOp,ha x _ hx,ha y _ hy,eqGuard,binOp,Op.intCmp,iv8,UInt8.le_iff_toNat_le]
theorem rv_bg (hx:ev E x=some (iv8 a))(hy:ev E y=some (iv8 b)):RV P E w (.binOp .gtr T x y T') (.bool (decide (b<a))):=
 fun ρ _ _ _ _ _ ha=>by simp [execOp,ha x _ hx,ha y _ hy,eqGuard,binOp,Op.intCmp,iv8,UInt8.lt_iff_toNat_lt]
theorem rv_bge (hx:ev E x=some (iv8 a))(hy:ev E y=some (iv8 b)):RV P E w (.binOp .geq T x y T') (.bool (decide (b≤a))):=
 fun ρ _ _ _ _ _ ha=>by simp [execOp,ha x _ hx,ha y _ hy,eqGuard,binOp,Op.intCmp,iv8,UInt8.le_iff_toNat_le]
theorem beq8 (a b:UInt8):((a.toNat:Int)==(b.toNat:Int))=(a==b):=by
 rw [Bool.eq_iff_iff];simp [←UInt8.toNat_inj];omega
theorem rv_beq (hx:ev E x=some (iv8 a))(hy:ev E y=some (iv8 b)):RV P E w (.binOp .eql T x y T') (.bool (a==b)):=
 fun ρ _ _ _ _ _ ha=>by simp only [iv8] at hx hy;simp only [execOp,ha x _ hx,ha y _ hy];simp [eqGuard,binOp,Op.intCmp,beq8]
theorem rv_bne (hx:ev E x=some (iv8 a))(hy:ev E y=some (iv8 b)):RV P E w (.binOp .neq T x y T') (.bool (!(a==b))):=
 fun ρ _ _ _ _ _ ha=>by simp only [iv8] at hx hy;simp only [execOp,ha x _ hx,ha y _ hy];simp [eqGuard,binOp,Op.intCmp,bne,beq8]
theorem rv_badd (hx:ev E x=some (iv8 a))(hy:ev E y=some (iv8 b)):RV P E w (.binOp .add T x y T') (iv8 (a+b)):=
 fun ρ _ _ _ _ _ ha=>by
  have e:IntKind.u8.wrap ((a.toNat:Int)+b.toNat)=((a+b).toNat:Int):=by
   simp only [IntKind.wrap,UInt8.toNat_add];simp [IntKind.signed,IntKind.bits]
  simp only [iv8] at hx hy ⊢;simp only [execOp,ha x _ hx,ha y _ hy];simp [eqGuard,binOp,Op.intArith,e]
theorem rv_bsub (hx:ev E x=some (iv8 a))(hy:ev E y=some (iv8 b)):RV P E w (.binOp .sub T x y T') (iv8 (a-b)):=
 fun ρ _ _ _ _ _ ha=>by
  have e:IntKind.u8.wrap ((a.toNat:Int)-b.toNat)=((a-b).toNat:Int):=by
   have h1:=a.toNat_lt;have h2:=b.toNat_lt
   simp only [IntKind.wrap,UInt8.toNat_sub];simp [IntKind.signed,IntKind.bits];omega
  simp only [iv8] at hx hy ⊢;simp only [execOp,ha x _ hx,ha y _ hy];simp [eqGuard,binOp,Op.intArith,e]
def byteOfI (n:Int):UInt8:=UInt8.ofNat (n%256).toNat
theorem rv_i2b {k:IntKind}{n:Int}(hT:P.underlying T=some (.int k))(hT':P.underlying T'=some (.int .u8))(hx:ev E x=some (.int k n)):RV P E w (.convert T T' x) (iv8 (byteOfI n)):=
 fun ρ _ _ _ _ _ ha=>by
  have e:IntKind.u8.wrap n=((byteOfI n).toNat:Int):=by
   have h1:=Int.emod_nonneg n (b:=256) (by decide)
   have h2:=Int.emod_lt_of_pos n (b:=256) (by decide)
   simp only [IntKind.wrap,byteOfI];simp [IntKind.signed,IntKind.bits];omega
  simp only [execOp,ha x _ hx];simp [convert,run_underlying hT,run_underlying hT',Conv.intToInt,e,iv8]
end
end
end Go.Fk
namespace Go.Fk
open Go
structure Item where
 gs:List Nat
 side:Prop
 ok:(Nat→Option Obj)→KMap→Prop
 loc: ∀{H H':Nat→Option Obj} {K K':KMap},(∀b∈gs,H b=H' b∧K b=K' b)→ok H K→ok H' K'
def one (g:Option Nat)(side:Prop)(ok:Option Obj→(Nat→Option Value)→Prop):Item:=
 ⟨g.toList,side,fun H K=>∀b,g=some b→ok (H b) (K b),fun h h1 b hb=>by
  have:=h b (by simp [hb])
  rw [←this.1,←this.2];exact h1 b hb⟩
def obj (g:Nat)(cs:List Value)(T:TypeId)(fr:Nat×Nat:=(0,0)):Item:=
 one (some g) True fun o k=>(o=some (.cells cs.toArray T fr)∧(fr=(0,0)∨cs.length≤fr.1))∧∀i,k i=none
def tail (v:Value)(T:TypeId)(sz:Nat):Item:=
 one v.ownBlock (v= .slice none 0 0∨∃g n cap,v= .slice (some ⟨g,0,none⟩) n cap∧n≤cap∧cap≤maxLen)
 fun o k=>∃g n cap cur,v= .slice (some ⟨g,0,none⟩) n cap∧o=some (.cells cur T (0,0))∧cur.size=cap*sz∧∀i,n*sz≤i→k i=none
def Item.on (it:Item)(w:World)(K:KMap):Prop:=it.side∧it.ok (fun b=>w.heap[b]?) K
class Dr where
 D:Prop
instance:Dr:=⟨False⟩
set_option linter.unusedSectionVars false
variable [dr:Dr]
structure SH (w0:World)(K0:KMap)(M:List Nat)(w:World)(K:KMap)(L:List Item):Prop where
 os:w.os=w0.os
 tape:w.tape=w0.tape
 output:w.output=w0.output
 holds:Holds K w
 le:KLe K0 K
 size:w0.heap.size≤w.heap.size
 old: ∀b,b<w0.heap.size→b∉M→w.heap[b]? =w0.heap[b]?
 oldK: ∀b,b<w0.heap.size→b∉M→K b=K0 b
 items: ∀it∈L,it.on w K
 lt: ∀it∈L,∀b∈it.gs,b<w.heap.size∧(w0.heap.size≤b∨b∈M)
 nodup:(L.flatMap Item.gs).Nodup
 drawn:dr.D→w0.drawn≤w.drawn
theorem sublist_flatMap {L L':List Item}(h:L'.Sublist L):(L'.flatMap Item.gs).Sublist (L.flatMap Item.gs):=by
 induction h with
 | slnil=>exact .slnil
 | cons a _ ih=>rw [List.flatMap_cons];exact List.sublist_append_of_sublist_right ih
 | cons_cons a _ ih=>rw [List.flatMap_cons,List.flatMap_cons];exact(List.Sublist.refl _).append ih
section
variable {w0 w w':World}{K0 K K':KMap}{M:List Nat}{L L':List Item}
theorem SH.start (h:Holds K w):SH w K [] w K []:=
 ⟨rfl,rfl,rfl,h,.refl _,Nat.le_refl _,fun _ _ _=>rfl,fun _ _ _=>rfl,by simp,by simp,by simp,fun _=>Nat.le_refl _⟩
theorem SH.below (h:SH w0 K0 [] w K L):RowKit.Below w0.heap.size w0 w:=⟨h.os,h.tape,h.output,h.size,fun k hk=>h.old k hk (by simp)⟩
theorem SH.perm (h:SH w0 K0 M w K L)(hp:L'.Perm L):SH w0 K0 M w K L':=
 ⟨h.os,h.tape,h.output,h.holds,h.le,h.size,h.old,h.oldK,fun it hi=>h.items it (hp.mem_iff.1 hi),fun it hi=>h.lt it (hp.mem_iff.1 hi),(hp.flatMap_right Item.gs).nodup_iff.2 h.nodup,h.drawn⟩
theorem SH.front {it:Item}{p q:List Item}(h:SH w0 K0 M w K (p++it::q)):SH w0 K0 M w K (it::(p++q)):=h.perm List.perm_middle.symm
theorem SH.drop {it:Item}(h:SH w0 K0 M w K (it::L)):SH w0 K0 M w K L:=
 ⟨h.os,h.tape,h.output,h.holds,h.le,h.size,h.old,h.oldK,fun it hi=>h.items it (List.mem_cons_of_mem _ hi),fun it hi=>h.lt it (List.mem_cons_of_mem _ hi),by
  have:=h.nodup
  rw [List.flatMap_cons,List.nodup_append] at this
  exact this.2.1,h.drawn⟩
theorem SH.sublist (h:SH w0 K0 M w K L)(hs:L'.Sublist L):SH w0 K0 M w K L':=
 ⟨h.os,h.tape,h.output,h.holds,h.le,h.size,h.old,h.oldK,fun it hi=>h.items it (hs.subset hi),fun it hi=>h.lt it (hs.subset hi),(sublist_flatMap hs).nodup h.nodup,h.drawn⟩
theorem SH.nil (h:SH w0 K0 M w K L)(T:TypeId)(sz:Nat):SH w0 K0 M w K (tail (.slice none 0 0) T sz::L):=
 ⟨h.os,h.tape,h.output,h.holds,h.le,h.size,h.old,h.oldK,by
  intro it hi
  rcases List.mem_cons.1 hi with rfl | hi
  ·exact⟨.inl rfl,fun b hb=>by simp [Value.ownBlock] at hb⟩
  ·exact h.items it hi,by
  intro it hi b hb
  rcases List.mem_cons.1 hi with rfl | hi
  ·simp [tail,one,Value.ownBlock] at hb
  ·exact h.lt it hi b hb,by
  rw [List.flatMap_cons];exact h.nodup,h.drawn⟩
theorem SH.drew (h:SH w0 K0 M w K L):SH w0 K0 M w.drew K L:=⟨h.os,h.tape,h.output,h.holds,h.le,h.size,h.old,h.oldK,h.items,h.lt,h.nodup,fun d=>Nat.le_succ_of_le (h.drawn d)⟩
theorem SH.drewN (h:SH w0 K0 M w K L)(n:Nat):SH w0 K0 M (w.drewN n) K L:=⟨h.os,h.tape,h.output,h.holds,h.le,h.size,h.old,h.oldK,h.items,h.lt,h.nodup,fun d=>Nat.le_trans (h.drawn d) (Nat.le_add_right _ _)⟩
theorem SH.ge_none (h:SH w0 K0 M w K L){b:Nat}(hb:w.heap.size≤b)(o:Nat):K b o=none:=by
 cases e:K b o with
 | none=>rfl
 | some v=>have:=h.holds.lt e;omega
theorem SH.step {g:Nat}{side:Prop}{ok:Option Obj→(Nat→Option Value)→Prop}(h:SH w0 K0 M w K L)(hos:w'.os=w.os)(htape:w'.tape=w.tape)(hout:w'.output=w.output)
  (hsize:w.heap.size≤w'.heap.size)(hg:w'.heap.size≤w.heap.size+1)(hother: ∀b,b<w.heap.size→b≠g→w'.heap[b]? =w.heap[b]?)(hgt:g<w'.heap.size)
  (hown:w0.heap.size≤g∨g∈M)(hnew: ∀it∈L,g∉it.gs)
  (hK: ∀b,b≠g→K' b=K b)(hKg: ∀o v,K g o=some v→K' g o=some v)(hKh: ∀o v,K' g o=some v→w'.cell? ⟨g,o,none⟩=some v)
  (hit:(some g:Option Nat)=some g)(hon:side∧ok (w'.heap[g]?) (K' g))(hdr:w.drawn≤w'.drawn:=by exact Nat.le_refl _):SH w0 K0 M w' K' (one (some g) side ok::L) where
 drawn:=fun d=>Nat.le_trans (h.drawn d) hdr
 os:=hos.trans h.os
 tape:=htape.trans h.tape
 output:=hout.trans h.output
 holds:=by
  intro b o v e
  by_cases hb:b=g
  ·subst hb;exact hKh o v e
  ·rw [hK b hb] at e
   have hlt:=h.holds.lt e
   rw [World.cell?_of_block (w:=w) (a:=⟨b,o,none⟩) (hother b hlt hb)]
   exact h.holds b o v e
 le:=by
  intro b o v e
  have:=h.le b o v e
  by_cases hb:b=g
  ·subst hb;exact hKg o v this
  ·rw [hK b hb];exact this
 size:=Nat.le_trans h.size hsize
 old:=by
  intro b hb hm
  have hne:b≠g:=by
   rintro rfl
   rcases hown with h1 | h1
   ·omega
   ·exact hm h1
  rw [hother b (by have:=h.size;omega) hne]
  exact h.old b hb hm
 oldK:=by
  intro b hb hm
  have hne:b≠g:=by
   rintro rfl
   rcases hown with h1 | h1
   ·omega
   ·exact hm h1
  rw [hK b hne]
  exact h.oldK b hb hm
 items:=by
  intro i hi
  rcases List.mem_cons.1 hi with rfl | hi
  ·exact⟨hon.1,fun b hb=>by cases hb;exact hon.2⟩
  ·have h1:=h.items i hi
   refine⟨h1.1,i.loc (fun b hb=>?_) h1.2⟩
   have hne:b≠g:=fun e=>hnew i hi (e▸hb)
   exact⟨(hother b (h.lt i hi b hb).1 hne).symm,(hK b hne).symm⟩
 lt:=by
  intro i hi b hb
  rcases List.mem_cons.1 hi with rfl | hi
  ·have:b=g:=by simpa [one] using hb
   subst this;exact⟨hgt,hown⟩
  ·have:=h.lt i hi b hb
   exact⟨by omega,this.2⟩
 nodup:=by
  rw [List.flatMap_cons,List.nodup_append]
  refine⟨by simp [one],h.nodup,fun b hb b' hb' e=>?_⟩
  have hbg:b=g:=by simpa [one] using hb
  obtain⟨i,hi,e2⟩:=List.mem_flatMap.1 hb'
  exact hnew i hi (by rw [←hbg,e];exact e2)
theorem SH.apart {g:Nat}{side:Prop}{ok:Option Obj→(Nat→Option Value)→Prop}(h:SH w0 K0 M w K (one (some g) side ok::L)): ∀it∈L,g∉it.gs:=fun it hi e=>by
 have hnd:=h.nodup
 rw [List.flatMap_cons,List.nodup_append] at hnd
 exact hnd.2.2 g (by simp [one]) g (List.mem_flatMap.2 ⟨it,hi,e⟩) rfl
theorem SH.own {g:Nat}{side:Prop}{ok:Option Obj→(Nat→Option Value)→Prop}(h:SH w0 K0 M w K (one (some g) side ok::L)):g<w.heap.size∧(w0.heap.size≤g∨g∈M):=
 h.lt _ (List.mem_cons_self ..) g (by simp [one])
end
end Go.Fk
namespace Go.Fk
open Go
set_option linter.unusedSectionVars false
variable [dr:Dr]
def aggD:TypeDesc→Bool
 | .struct _ | .array _ _=>true
 | _=>false
structure TF (P:Program)(T:TypeId)(size:Nat)(agg:Bool)(zero:Value)(bytes:Nat):Prop where
 info:(P.info? T).map (fun i=>(i.zero,i.size,i.bytes))=some (some zero,size,bytes)
 und:(P.underlying T).map aggD=some agg
def FF (P:Program)(T:TypeId)(f off:Nat):Prop:=
 (match P.underlying T with
 | some (.struct fs)=>(match fs[f]? with | some fd=>some (fd.offset,Nat.blt 0 (P.cellsOf fd.type)) | none=>none)
 | _=>none)=some (off,true)
section
variable {P:Program}{ops:Array Oper}{Q:Exit→Act→World→Prop}{N:Nat}{E:Env}{w w0:World}{K K0:KMap}{M:List Nat}{L:List Item}
variable {x y:Operand}{T T':TypeId}{size bytes:Nat}{zero:Value}{agg:Bool}{fr:Nat×Nat}
theorem TF.info_ (h:TF P T size agg zero bytes): ∃i,P.info? T=some i∧i.zero=some zero∧i.size=size∧i.bytes=bytes:=by
 have:=h.info
 cases e:P.info? T with
 | none=>rw [e] at this;cases this
 | some i=>rw [e] at this;simp only [Option.map_some,Option.some.injEq,Prod.mk.injEq] at this;exact⟨i,rfl,this.1,this.2.1,this.2.2⟩
theorem run_isAgg (h:TF P T size agg zero bytes)(w:World):(isAgg T).run P w= .ok agg w:=by
 have:=h.und
 cases e:P.underlying T with
 | none=>rw [e] at this;cases this
 | some d=>
  rw [e] at this
  simp only [Option.map_some,Option.some.injEq] at this
  cases d<;>simp_all [isAgg,run_underlying e,aggD]
theorem run_sizeOf (h:TF P T size agg zero bytes)(w:World):(sizeOf T).run P w= .ok size w:=by
 obtain⟨i,hi,_,hs,_⟩:=h.info_
 simp [sizeOf,typeInfo,hi,hs]
theorem run_zeroValue (h:TF P T size agg zero bytes)(w:World):(zeroValue T).run P w= .ok zero w:=by
 obtain⟨i,hi,hz,_,_⟩:=h.info_
 simp [zeroValue,typeInfo,hi,hz]
def cellsAre (w:World)(b o:Nat)(cs:List Value):Prop:=∀j c,cs[j]? =some c→w.cell? ⟨b,o+j,none⟩=some c
theorem cellsAre_K (h:SH w0 K0 M w K L){b o:Nat}{cs:List Value}(hk:AtK K b o cs):cellsAre w b o cs:=fun j c e=>h.holds _ _ _ (hk j c e)
theorem run_loadCells_at {b o:Nat}{cs:List Value}(h:cellsAre w b o cs):(loadCells ⟨b,o,none⟩ cs.length).run P w= .ok cs.toArray w:=by
 have:=run_loadCells_list (P:=P) w ⟨b,o,none⟩ cs (fun j v hj=>by rw [add_at];exact h j v hj)
 exact this
theorem rv_load {b o:Nat}{cs:List Value}{v:Value}(hT:TF P T size agg zero bytes)(hx:ev E x=some (.pointer (some ⟨b,o,none⟩)))
  (hc:cellsAre w b o cs)(hv:(agg=true∧cs.length=size∧v= .agg cs.toArray)∨(agg=false∧cs=[v])):RV P E w (.load T x) v:=fun ρ _ _ _ _ _ ha=>by
 rcases hv with ⟨rfl,hl,rfl⟩ | ⟨rfl,rfl⟩
 ·subst hl
  simp [execOp,ha x _ hx,Instr.loadAt,Instr.sureAddr,loadVar,run_isAgg hT,run_sizeOf hT,run_loadCells_at hc]
 ·have h0:=hc 0 v rfl
  simp at h0
  simp [execOp,ha x _ hx,Instr.loadAt,Instr.sureAddr,loadVar,run_isAgg hT,h0]
theorem rv_load1 {b o:Nat}{v:Value}(hT:TF P T size false zero bytes)(hx:ev E x=some (.pointer (some ⟨b,o,none⟩)))(hS:SH w0 K0 M w K L)(hk:K b o=some v):RV P E w (.load T x) v:=
 rv_load hT hx (cs:=[v]) (fun j c e=>by
  cases j with
  | zero=>simp at e;subst e;exact hS.holds _ _ _ hk
  | succ j=>simp at e) (.inr ⟨rfl,rfl⟩)
theorem rv_loadS {b o:Nat}{cs:List Value}(hT:TF P T size true zero bytes)(hx:ev E x=some (.pointer (some ⟨b,o,none⟩)))(hS:SH w0 K0 M w K L)(hk:AtK K b o cs)(hl:cs.length=size):RV P E w (.load T x) (.agg cs.toArray):=
 rv_load hT hx (cellsAre_K hS hk) (.inl ⟨rfl,hl,rfl⟩)
theorem SH.obj_at {g:Nat}{cs:List Value}{U:TypeId}(h:SH w0 K0 M w K (obj g cs U fr::L)):w.heap[g]? =some (.cells cs.toArray U fr)∧(fr=(0,0)∨cs.length≤fr.1):=by
 have:=(h.items _ (List.mem_cons_self ..)).2 g rfl
 exact this.1
theorem SH.obj_cell {g:Nat}{cs:List Value}{U:TypeId}(h:SH w0 K0 M w K (obj g cs U fr::L))(o:Nat):w.cell? ⟨g,o,none⟩=cs[o]? :=by
 obtain⟨e,_⟩:=h.obj_at
 simp [World.cell?,e]
theorem rv_fieldAddr {b o f off:Nat}(hF:FF P T f off)(hx:ev E x=some (.pointer (some ⟨b,o,none⟩))):RV P E w (.fieldAddr T x f) (.pointer (some ⟨b,o+off,none⟩)):=fun ρ _ _ _ _ _ ha=>by
 unfold FF at hF
 split at hF
 ·rename_i fs hu
  split at hF
  ·rename_i fd hfd
   simp only [Option.some.injEq,Prod.mk.injEq] at hF
   obtain⟨rfl,hpos⟩:=hF
   have hp:0<P.cellsOf fd.type:=by simpa using hpos
   have hne: ∃i,P.info? fd.type=some i∧i.size≠0:=by
    unfold Program.cellsOf at hp
    cases e:P.info? fd.type with
    | none=>rw [e] at hp;simp at hp
    | some i=>rw [e] at hp;simp at hp;exact⟨i,rfl,by omega⟩
   obtain⟨i,hi,hsz⟩:=hne
   simp [execOp,ha x _ hx,Instr.fieldAt,run_underlying hu,hfd,Instr.sureAddr,fieldPlace,sizeOf,typeInfo,hi,hsz,add_at]
  ·cases hF
 ·cases hF
theorem rv_indexAddr {α:Type}{t:Ty α}{a:Option Addr}{n c:Nat}{xs:List α}{k:IntKind}{i:Int}{z:α}{U:TypeId}(hT:P.underlying T=some (.slice U))(hU:TF P U t.size agg zero bytes)
  (hx:ev E x=some (.slice a n c))(hy:ev E y=some (.int k i))(hs:SliceAt t K a n c xs)(hz:getI xs i=some z):
  ∃b o u,(∀w,RV P E w (.indexAddr T x y) (.pointer (some ⟨b,o,none⟩)))∧t.rel K u z∧AtK K b o u.cells.toList:=by
 obtain⟨h1,h2,h3,h4⟩:=hs
 obtain⟨g0,g1,g2⟩:=getI_some hz
 obtain⟨b,o,rfl,h5⟩:=h4 (by omega)
 obtain⟨u,hu,hk⟩:=h5 _ _ g2
 refine⟨b,o+i.toNat*t.size,u,fun _ ρ _ _ _ _ _ ha=>?_,hu,hk⟩
 have hlt:i<(n:Int):=by omega
 simp [execOp,ha x _ hx,ha y _ hy,Instr.indexAt,asIntOf,run_underlying hT,g0,hlt,run_sizeOf hU,add_at]
theorem rv_len {α:Type}{t:Ty α}{a:Option Addr}{n c:Nat}{xs:List α}{U:TypeId}(hT:P.underlying T=some (.slice U))(hx:ev E x=some (.slice a n c))(hs:SliceAt t K a n c xs):
  RV P E w (.call {callee:=.builtin .len,args:=#[x],argTypes:=#[T]}) (.int .i64 xs.length):=fun ρ _ _ _ _ _ ha=>by
 obtain⟨rfl,_⟩:=hs
 simp [execOp,resolve,invoke,builtin,ha x _ hx,Builtin.len_,run_underlying hT,goInt]
def subL {α:Type}(xs:List α)(l h:Int):Option (List α):=if 0≤l∧l≤h∧h≤xs.length then some ((xs.take h.toNat).drop l.toNat) else none
theorem SliceAt.sub {α:Type}{t:Ty α}{a:Option Addr}{n c:Nat}{xs ys:List α}{l h:Int}(hs:SliceAt t K a n c xs)(hy:subL xs l h=some ys):
  0≤l∧l≤h∧h≤n∧(n:Int)≤c∧SliceAt t K (if c=l.toNat then a else a.map (·.add (l.toNat*t.size))) (h.toNat-l.toNat) (c-l.toNat) ys:=by
 obtain⟨rfl,h2,h3,h4⟩:=hs
 unfold subL at hy
 split at hy
 ·rename_i hb
  cases hy
  refine⟨hb.1,hb.2.1,hb.2.2,by omega,?_,by omega,by omega,fun hc=>?_⟩
  ·simp only [List.length_drop,List.length_take];omega
  ·obtain⟨b,o,rfl,h5⟩:=h4 (by omega)
   rw [if_neg (by omega)]
   refine⟨b,o+l.toNat*t.size,by simp [add_at],fun i z hz=>?_⟩
   rw [List.getElem?_drop,List.getElem?_take] at hz
   split at hz
   ·obtain⟨u,hu,hk⟩:=h5 _ _ hz
    exact⟨u,hu,by rw [Nat.add_assoc,←Nat.add_mul];exact hk⟩
   ·cases hz
 ·cases hy
theorem rv_sl_l {α:Type}{t:Ty α}{a:Option Addr}{n c:Nat}{xs ys:List α}{k:IntKind}{l:Int}{U:TypeId}(hT:P.underlying T=some (.slice U))(hU:TF P U t.size agg zero bytes)
  (hx:ev E x=some (.slice a n c))(hy:ev E y=some (.int k l))(hs:SliceAt t K a n c xs)(hz:subL xs l xs.length=some ys):
  ∃a' n' c',(∀w,RV P E w (.slice T x (some y) none none) (.slice a' n' c'))∧SliceAt t K a' n' c' ys:=by
 obtain⟨h0,h1,h2,h3,h4⟩:=hs.sub hz
 refine⟨_,_,_,fun _ ρ _ _ _ _ _ ha=>?_,h4⟩
 have e:n=xs.length:=hs.1
 have h1':l≤(n:Int):=by omega
 simp [execOp,ha x _ hx,ha y _ hy,Instr.sliceAt,Instr.slice,Instr.sliceBounds,Instr.sliceBound,asIntOf,run_underlying hT,h0,h1',run_sizeOf hU,←e]
theorem rv_sl_h {α:Type}{t:Ty α}{a:Option Addr}{n c:Nat}{xs ys:List α}{k:IntKind}{h:Int}{U:TypeId}(hT:P.underlying T=some (.slice U))(hU:TF P U t.size agg zero bytes)
  (hx:ev E x=some (.slice a n c))(hy:ev E y=some (.int k h))(hs:SliceAt t K a n c xs)(hz:subL xs 0 h=some ys):
  ∃a' n' c',(∀w,RV P E w (.slice T x none (some y) none) (.slice a' n' c'))∧SliceAt t K a' n' c' ys:=by
 obtain⟨h0,h1,h2,h3,h4⟩:=hs.sub hz
 refine⟨_,_,_,fun _ ρ _ _ _ _ _ ha=>?_,h4⟩
 have h1':h≤(c:Int):=by omega
 simp [execOp,ha x _ hx,ha y _ hy,Instr.sliceAt,Instr.slice,Instr.sliceBounds,Instr.sliceBound,asIntOf,run_underlying hT,h1,h1',run_sizeOf hU]
end
end Go.Fk
namespace Go.Fk
open Go
set_option linter.unusedSectionVars false
variable [dr:Dr]
def KMap.put (K:KMap)(g:Nat)(k:Nat→Option Value):KMap:=fun b o=>if b=g then k o else K b o
theorem KMap.put_same (K:KMap)(g:Nat)(k:Nat→Option Value):K.put g k g=k:=by funext o;simp [KMap.put]
theorem KMap.put_other (K:KMap){g b:Nat}(k:Nat→Option Value)(h:b≠g):K.put g k b=K b:=by funext o;simp [KMap.put,h]
section
variable {P:Program}{ops:Array Oper}{Q:Exit→Act→World→Prop}{N:Nat}{E:Env}{w w0:World}{K K0:KMap}{M:List Nat}{L:List Item}
variable {x y:Operand}{T T' U:TypeId}{size bytes:Nat}{zero:Value}{agg:Bool}{fr:Nat×Nat}
theorem SH.fresh (h:SH w0 K0 M w K L): ∀it∈L,w.heap.size∉it.gs:=fun it hi e=>by have:=(h.lt it hi _ e).1;omega
theorem SH.newObj (h:SH w0 K0 M w K L)(cs:List Value)(T:TypeId):SH w0 K0 M (w.alloc (.cells cs.toArray T)) K (obj w.heap.size cs T::L):=by
 have hn: ∀o,K w.heap.size o=none:=h.ge_none (Nat.le_refl _)
 refine h.step rfl rfl rfl (by simp) (by simp) (fun b hb _=>RowKit.Below.heap_alloc w _ b hb) (by simp) (.inl h.size) h.fresh (fun _ _=>rfl) (fun _ _ e=>e) (fun o v e=>?_) rfl ⟨trivial,⟨heap_alloc_new w _,.inl rfl⟩,hn⟩
 rw [hn] at e;cases e
theorem SH.newTail (h:SH w0 K0 M w K L){cs rest:List Value}{n cap sz:Nat}(T:TypeId)(hl:cs.length=n*sz)(hr:(cs++rest).length=cap*sz)(hn:n≤cap)(hc:cap≤maxLen):
  ∃K',KLe K K'∧AtK K' w.heap.size 0 cs∧SH w0 K0 M (w.alloc (.cells (cs++rest).toArray T)) K' (tail (.slice (some ⟨w.heap.size,0,none⟩) n cap) T sz::L):=by
 have hno: ∀o,K w.heap.size o=none:=h.ge_none (Nat.le_refl _)
 refine⟨K.put w.heap.size (fun o=>cs[o]?),fun b o v e=>?_,fun j c e=>?_,?_⟩
 ·by_cases hb:b=w.heap.size
  ·subst hb;rw [hno] at e;cases e
  ·rw [K.put_other _ hb];exact e
 ·rw [K.put_same,Nat.zero_add];exact e
 ·refine h.step rfl rfl rfl (by simp) (by simp) (fun b hb _=>RowKit.Below.heap_alloc w _ b hb) (by simp) (.inl h.size) h.fresh (fun b hb=>K.put_other _ hb) (fun o v e=>?_) (fun o v e=>?_) rfl
   ⟨.inr ⟨_,_,_,rfl,hn,hc⟩,w.heap.size,n,cap,_,rfl,heap_alloc_new w _,by simpa using hr,fun i hi=>?_⟩
  ·rw [hno] at e;cases e
  ·rw [K.put_same] at e
   have hlt:=(List.getElem?_eq_some_iff.1 e).1
   simp only [World.cell?,heap_alloc_new]
   simp only [Option.isSome_none,Bool.false_eq_true,if_false]
   rw [List.getElem?_toArray,List.getElem?_append_left hlt];exact e
  ·rw [K.put_same,List.getElem?_eq_none];omega
theorem rt_alloc (hT:TF P T size agg zero bytes):RunTo P E w (.alloc T) (.ok (.value (.pointer (some ⟨w.heap.size,0,none⟩))) (w.alloc (.cells zero.cells.toList.toArray T))):=fun ρ _ _ _ _ _ _=>by
 simp [execOp,Instr.alloc,run_zeroValue hT,newVar,newRow]
theorem rt_box {v:Value}(hx:ev E x=some v):RunTo P E w (.box T x) (.ok (.value (.pointer (some ⟨w.heap.size,0,none⟩))) (w.alloc (.cells v.cells.toList.toArray T))):=fun ρ _ _ _ _ _ ha=>by
 simp [execOp,ha x _ hx,Instr.box,newVar,newRow]
theorem run_storeCells_obj (g o:Nat)(t:TypeId)(fr:Nat×Nat): ∀(vs:List Value) (i:Nat) (cur:Array Value) (w:World),w.heap[g]? =some (.cells cur t fr)→(fr=(0,0)∨cur.size≤fr.1)→o+i+vs.length≤cur.size→(∀v∈vs,v.oneCell'=true)→
  (storeCells ⟨g,o,none⟩ vs i).run P w= .ok () (w.setRow g (cur.toList.take (o+i)++vs++cur.toList.drop (o+i+vs.length)).toArray)
 | [],i,cur,w,hg,_,_,_=>by
  simp only [storeCells,List.append_nil,List.length_nil,Nat.add_zero,List.take_append_drop,Array.toArray_toList]
  rw [setRow_self w g cur t fr hg]
  rfl
 | v::rest,i,cur,w,hg,hfr,hl,h1=>by
  have hi:o+i<cur.size:=by simp at hl;omega
  have hcell:w.cell? ⟨g,o+i,none⟩=some cur[o+i]:=by simp [World.cell?,hg,hi]
  have hfro:w.frozen? ⟨g,o+i,none⟩=false:=by
   rcases hfr with rfl | hfr
   ·simp [World.frozen?,hg]
   ·obtain⟨f1,f2⟩:=fr
    simp only at hfr
    simp [World.frozen?,hg];omega
  have hst:(store ((⟨g,o,none⟩:Addr).add i) v).run P w= .ok () (w.setRow g (cur.setIfInBounds (o+i) v)):=by
   rw [add_at,run_store P w _ v _ (h1 v (by simp)),hcell]
   simp [hfro,setCell_eq_setRow w g (o+i) cur t fr v hg]
  have ih:=run_storeCells_obj g o t fr rest (i+1) (cur.setIfInBounds (o+i) v) (w.setRow g (cur.setIfInBounds (o+i) v)) (setRow_heap w g cur _ t _ hg) (by simpa using hfr) (by simp at hl ⊢;omega) (fun x hx=>h1 x (by simp [hx]))
  simp only [storeCells,Sem.run_bind,hst,Result.andThen_ok,ih,setRow_setRow]
  congr 3
  have e:=list_seg_step cur.toList (o+i) v rest (by simp at hl ⊢;omega)
  simpa [Array.toList_setIfInBounds,Nat.add_assoc] using e
def splice (cs:List Value)(o:Nat)(vs:List Value):List Value:=cs.take o++vs++cs.drop (o+vs.length)
theorem SH.set {g:Nat}{cs ds:List Value}(h:SH w0 K0 M w K (obj g cs U fr::L))(hl:ds.length=cs.length):SH w0 K0 M (w.setRow g ds.toArray) K (obj g ds U fr::L):=by
 obtain⟨e,hf⟩:=h.obj_at
 have hlt:=h.own
 have hnone:=((h.items _ (List.mem_cons_self ..)).2 g rfl).2
 refine h.drop.step rfl rfl rfl (by simp [World.setRow]) (by simp [World.setRow]) (fun b _ hb=>setRow_other w g b _ hb) (by simp [World.setRow];exact hlt.1) hlt.2
  h.apart (fun _ _=>rfl) (fun _ _ e=>e) (fun o v e=>?_) rfl ⟨trivial,⟨setRow_heap w g _ _ _ _ e,?_⟩,hnone⟩
 ·rw [hnone] at e;cases e
 ·rcases hf with hf | hf
  ·exact .inl hf
  ·exact .inr (by omega)
theorem rt_store {g o:Nat}{cs:List Value}{v:Value}(hT:TF P T size agg zero bytes)(hx:ev E x=some (.pointer (some ⟨g,o,none⟩)))(hy:ev E y=some v)(hsz:v.cells.size=size)(hones: ∀c∈v.cells.toList,c.oneCell'=true)
  (hS:SH w0 K0 M w K (obj g cs U fr::L))(hfit:Nat.ble (o+size) cs.length=true):
  RunTo P E w (.store T x y) (.ok .skip (w.setRow g (splice cs o v.cells.toList).toArray))∧SH w0 K0 M (w.setRow g (splice cs o v.cells.toList).toArray) K (obj g (splice cs o v.cells.toList) U fr::L):=by
 have hfit':o+size≤cs.length:=by simpa using hfit
 obtain⟨e,hf⟩:=hS.obj_at
 refine⟨fun ρ _ _ _ _ _ ha=>?_,hS.set ?_⟩
 ·have hst:=run_storeCells_obj (P:=P) g o U fr v.cells.toList 0 cs.toArray w e (by simpa using hf) (by simp;omega) hones
  simp only [Nat.add_zero] at hst
  simp [execOp,ha x _ hx,ha y _ hy,Instr.storeAt,Instr.sureAddr,storeVar,run_sizeOf hT,hsz,hst,splice]
 ·simp only [splice,List.length_append,List.length_take,List.length_drop,Array.length_toList,hsz];omega
def catL {α:Type}(bytes:Nat)(xs ys:List α):Option (List α):=if (xs.length+ys.length)*bytes≤140737488355328 then some (xs++ys) else none
theorem gather {α:Type}(t:Ty α)(K:KMap)(b:Nat): ∀(ys:List α) (o:Nat),(∀(i:Nat) y,ys[i]? =some y→∃u,t.rel K u y∧AtK K b (o+i*t.size) u.cells.toList)→
  ∃cs:List Value,cs.length=ys.length*t.size∧AtK K b o cs∧(∀c∈cs,c.oneCell'=true)∧∀(i:Nat) y,ys[i]? =some y→∃u,t.rel K u y∧∀j c,u.cells.toList[j]? =some c→cs[i*t.size+j]? =some c
 | [],_,_=>⟨[],by simp,fun _ _ e=>by simp at e,by simp,fun _ _ e=>by simp at e⟩
 | y::r,o,h=>by
  obtain⟨u,hu,hk⟩:=h 0 y rfl
  have hus:=t.size_eq hu
  have hul:u.cells.toList.length=t.size:=by simpa using hus
  obtain⟨cs,h1,h2,h3,h4⟩:=gather t K b r (o+t.size) (fun i z hz=>by
   obtain⟨u',hu',hk'⟩:=h (i+1) z (by simpa using hz)
   exact⟨u',hu',by rw [show o+t.size+i*t.size=o+(i+1)*t.size from by rw [Nat.add_mul,Nat.one_mul];omega];exact hk'⟩)
  refine⟨u.cells.toList++cs,by rw [List.length_append,hul,h1,List.length_cons,Nat.add_mul,Nat.one_mul,Nat.add_comm],fun j c e=>?_,fun c hc=>?_,fun i z hz=>?_⟩
  ·by_cases hj:j<t.size
   ·rw [List.getElem?_append_left (by omega)] at e
    have:=hk j c e
    simpa using this
   ·rw [List.getElem?_append_right (by omega),hul] at e
    have:=h2 _ c e
    rwa [show o+t.size+(j-t.size)=o+j from by omega] at this
  ·rcases List.mem_append.1 hc with hc | hc
   ·exact t.ones hu c hc
   ·exact h3 c hc
  ·cases i with
   | zero=>
    simp at hz
    subst hz
    refine⟨u,hu,fun j c e=>?_⟩
    have hj:=(List.getElem?_eq_some_iff.1 e).1
    rw [Nat.zero_mul,Nat.zero_add,List.getElem?_append_left hj];exact e
   | succ i=>
    simp at hz
    obtain⟨u',hu',hk'⟩:=h4 i z hz
    refine⟨u',hu',fun j c e=>?_⟩
    rw [List.getElem?_append_right (by rw [hul,Nat.add_mul,Nat.one_mul];omega),hul,show (i+1)*t.size+j-t.size=i*t.size+j from by rw [Nat.add_mul,Nat.one_mul];omega]
    exact hk' j c e
theorem SliceAt.of_cells {α:Type}{t:Ty α}{g n c:Nat}{zs:List α}(hn:n=zs.length)(hc:n≤c)(hm:c≤maxLen)
  (h: ∀(i:Nat) z,zs[i]? =some z→∃u,t.rel K u z∧AtK K g (i*t.size) u.cells.toList):SliceAt t K (some ⟨g,0,none⟩) n c zs:=
 ⟨hn,hc,hm,fun _=>⟨g,0,rfl,fun i z hz=>by rw [Nat.zero_add];exact h i z hz⟩⟩
theorem run_append_zero {v:Value}{n cap n2 c2:Nat}{a a2:Option Addr}(hT:P.underlying T=some (.slice U))(hU:TF P U size agg zero bytes)(hv:v= .slice a n cap)(hn:n≤cap)(h0:n2=0)(ty:TypeId):
  (Builtin.append_ #[T,T] ty #[v,.slice a2 n2 c2]).run P w= .ok v w:=by
 subst hv;subst h0
 cases a2 with
 | none=>cases a<;>simp [Builtin.append_,run_underlying hT,run_sizeOf hU,Builtin.lenOf,Builtin.firstCells,hn,storeCells]
 | some a2=>cases a<;>simp [Builtin.append_,run_underlying hT,run_sizeOf hU,Builtin.lenOf,Builtin.firstCells,hn,storeCells,loadCells,loadCellsFrom]
theorem append_new {α:Type}{t:Ty α}{n n2 cap:Nat}{xs ys:List α}{olds news:List Value}(hzs:zero.cells.size=t.size)
  (hS:SH w0 K0 M w K L)(hn:n=xs.length)(hn2:n2=ys.length)(hol:olds.length=n*t.size)(hnl:news.length=n2*t.size)(hcap:n+n2≤cap)(hcm:cap≤maxLen)
  (holr: ∀(k:Nat) z,xs[k]? =some z→∃u,t.rel K u z∧∀j d,u.cells.toList[j]? =some d→olds[k*t.size+j]? =some d)
  (hnr: ∀(k:Nat) z,ys[k]? =some z→∃u,t.rel K u z∧∀j d,u.cells.toList[j]? =some d→news[k*t.size+j]? =some d):
  ∃K',KLe K K'∧SliceAt t K' (some ⟨w.heap.size,0,none⟩) (n+n2) cap (xs++ys)∧
   SH w0 K0 M (w.alloc (.cells (olds.toArray++news.toArray++Builtin.zeroCells zero.cells (cap-(n+n2))) U)) K' (tail (.slice (some ⟨w.heap.size,0,none⟩) (n+n2) cap) U t.size::L):=by
 have hlen:(olds++news).length=(n+n2)*t.size:=by rw [List.length_append,hol,hnl,Nat.add_mul]
 have hzl:(Builtin.zeroCells zero.cells (cap-(n+n2))).toList.length=(cap-(n+n2))*t.size:=by
  rw [Array.length_toList,size_zeroCells,hzs]
 obtain⟨K',hle,hat,hS'⟩:=hS.newTail (cs:=olds++news) (rest:=(Builtin.zeroCells zero.cells (cap-(n+n2))).toList) (n:=n+n2) (cap:=cap) (sz:=t.size) U hlen
  (by rw [List.length_append,hlen,hzl,←Nat.add_mul];congr 1;omega) hcap hcm
 refine⟨K',hle,SliceAt.of_cells (by simp;omega) hcap hcm (fun k z hz=>?_),?_⟩
 ·by_cases hk:k<n
  ·rw [List.getElem?_append_left (by omega)] at hz
   obtain⟨u,hu,hk2⟩:=holr k z hz
   refine⟨u,t.mono hle hu,fun j d e=>?_⟩
   have:=hk2 j d e
   have hlt:=(List.getElem?_eq_some_iff.1 this).1
   have:=hat (k*t.size+j) d (by rw [List.getElem?_append_left hlt];exact this)
   rwa [Nat.zero_add] at this
  ·rw [List.getElem?_append_right (by omega)] at hz
   obtain⟨u,hu,hk2⟩:=hnr _ z hz
   refine⟨u,t.mono hle hu,fun j d e=>?_⟩
   have h5:=hk2 j d e
   have hge:n*t.size≤k*t.size:=Nat.mul_le_mul_right _ (by omega)
   have:=hat (k*t.size+j) d (by
    rw [List.getElem?_append_right (by omega),hol,←h5]
    congr 1
    rw [←hn,Nat.sub_mul];omega)
   rwa [Nat.zero_add] at this
 ·have e5:(olds.toArray++news.toArray++Builtin.zeroCells zero.cells (cap-(n+n2)))=(olds++news++(Builtin.zeroCells zero.cells (cap-(n+n2))).toList).toArray:=by
   apply Array.ext';simp
  rw [e5];exact hS'
theorem append_room {α:Type}{t:Ty α}{g n n2 c:Nat}{xs ys:List α}{news:List Value}{cur:Array Value}(hS:SH w0 K0 M w K (tail (.slice (some ⟨g,0,none⟩) n c) U t.size::L))
  (hcur:w.heap[g]? =some (.cells cur U (0,0)))(hcs:cur.size=c*t.size)(hkn: ∀i,n*t.size≤i→K g i=none)(hs:SliceAt t K (some ⟨g,0,none⟩) n c xs)(hn2:n2=ys.length)(h0:0<n2)
  (hroom:n+n2≤c)(hnl:news.length=n2*t.size)
  (hnr: ∀(k:Nat) z,ys[k]? =some z→∃u,t.rel K u z∧∀j d,u.cells.toList[j]? =some d→news[k*t.size+j]? =some d):
  ∃K',KLe K K'∧SliceAt t K' (some ⟨g,0,none⟩) (n+n2) c (xs++ys)∧
   SH w0 K0 M (w.setRow g (cur.toList.take (n*t.size)++news++cur.toList.drop (n*t.size+news.length)).toArray) K' (tail (.slice (some ⟨g,0,none⟩) (n+n2) c) U t.size::L):=by
 obtain⟨e1,e2,e3,e4⟩:=hs
 obtain⟨b,o,hbo,hel⟩:=e4 (by omega)
 injection hbo with hbo
 injection hbo with hb1 ho1 _
 subst hb1 ho1
 have hle:KLe K (K.put g (fun i=>if i<n*t.size then K g i else news[i-n*t.size]?)):=fun b o v e=>by
  by_cases hb:b=g
  ·subst hb
   rw [K.put_same]
   have:o<n*t.size:=by
    rcases Nat.lt_or_ge o (n*t.size) with h | h
    ·exact h
    ·rw [hkn o h] at e;cases e
   simp [this,e]
  ·rw [K.put_other _ hb];exact e
 have hlt:=hS.own
 have hrow:=setRow_heap w g cur (cur.toList.take (n*t.size)++news++cur.toList.drop (n*t.size+news.length)).toArray U (0,0) hcur
 have hsz:n*t.size+news.length≤cur.size:=by rw [hcs,hnl,←Nat.add_mul];exact Nat.mul_le_mul_right _ hroom
 refine⟨_,hle,SliceAt.of_cells (by simp;omega) hroom e3 (fun k z hz=>?_),?_⟩
 ·by_cases hk:k<n
  ·rw [List.getElem?_append_left (by omega)] at hz
   obtain⟨u,hu,hk2⟩:=hel k z hz
   rw [Nat.zero_add] at hk2
   exact⟨u,t.mono hle hu,hk2.mono hle⟩
  ·rw [List.getElem?_append_right (by omega)] at hz
   obtain⟨u,hu,hk2⟩:=hnr _ z hz
   refine⟨u,t.mono hle hu,fun j d e=>?_⟩
   have h5:=hk2 j d e
   have hge:n*t.size≤k*t.size:=Nat.mul_le_mul_right _ (by omega)
   rw [K.put_same]
   have hnl2: ¬k*t.size+j<n*t.size:=by omega
   simp only [hnl2,if_false]
   rw [←h5];congr 1
   rw [←e1,Nat.sub_mul];omega
 ·refine hS.drop.step rfl rfl rfl (by simp [World.setRow]) (by simp [World.setRow]) (fun b _ hb=>setRow_other w g b _ hb) (by simp [World.setRow];exact hlt.1) hlt.2
   hS.apart (fun b hb=>K.put_other _ hb) (fun o v e=>hle g o v e) (fun o v e=>?_) rfl ⟨.inr ⟨g,_,_,rfl,hroom,e3⟩,g,n+n2,c,_,rfl,hrow,?_,fun i hi=>?_⟩
  ·rw [K.put_same] at e
   simp only [World.cell?,hrow,Option.isSome_none,Bool.false_eq_true,if_false,List.getElem?_toArray]
   by_cases ho:o<n*t.size
   ·simp only [ho,if_true] at e
    have:=hS.holds g o v e
    simp only [World.cell?,hcur,Option.isSome_none,Bool.false_eq_true,if_false] at this
    rw [List.append_assoc,List.getElem?_append_left (by simp;omega),List.getElem?_take,if_pos ho,Array.getElem?_toList]
    exact this
   ·simp only [ho,if_false] at e
    have hj:=(List.getElem?_eq_some_iff.1 e).1
    rw [List.append_assoc,List.getElem?_append_right (by simp;omega),List.getElem?_append_left (by simp;omega)]
    rw [←e];congr 1
    simp;omega
  ·simp only [List.size_toArray,List.length_append,List.length_take,List.length_drop,Array.length_toList];omega
  ·rw [K.put_same]
   have hnl2: ¬i<n*t.size:=by have:=Nat.mul_le_mul_right t.size (show n≤n+n2 by omega);omega
   simp only [hnl2,if_false]
   rw [List.getElem?_eq_none]
   rw [hnl];rw [Nat.add_mul] at hi;omega
theorem rt_append {α:Type}{t:Ty α}{a a2:Option Addr}{n c n2 c2:Nat}{xs ys zs:List α}(hT:P.underlying T=some (.slice U))(hU:TF P U t.size agg zero bytes)(hsz:Nat.blt 0 t.size=true)(hzs:zero.cells.size=t.size)
  (hb:Nat.blt 0 bytes=true)(hx:ev E x=some (.slice a n c))(hy:ev E y=some (.slice a2 n2 c2))(hs:SliceAt t K a n c xs)(hs2:SliceAt t K a2 n2 c2 ys)(hz:catL bytes xs ys=some zs)
  (hS:SH w0 K0 M w K (tail (.slice a n c) U t.size::L)):
  ∃a' n' c' w' K',RunTo P E w (.call {callee:=.builtin .append,args:=#[x,y],argTypes:=#[T,T]}) (.ok (.value (.slice a' n' c')) w')∧KLe K K'∧SliceAt t K' a' n' c' zs∧
   SH w0 K0 M w' K' (tail (.slice a' n' c') U t.size::L):=by
 have hsz':0<t.size:=by simpa [Nat.blt_eq] using hsz
 have hb':0<bytes:=by simpa [Nat.blt_eq] using hb
 have hgo: ∀v' w',(∀ty,(Builtin.append_ #[T,T] ty #[.slice a n c,.slice a2 n2 c2]).run P w= .ok v' w')→
   RunTo P E w (.call {callee:=.builtin .append,args:=#[x,y],argTypes:=#[T,T]}) (.ok (.value v') w'):=fun v' w' h ρ _ ty _ _ _ ha=>by
  simp [execOp,resolve,invoke,builtin,ha x _ hx,ha y _ hy,h]
 have hs0:=hs
 obtain⟨e1,e2,e3,e4⟩:=hs
 obtain⟨f1,f2,f3,f4⟩:=hs2
 unfold catL at hz
 split at hz
 case isFalse=>cases hz
 rename_i hbound
 cases hz
 have hsum:n+n2≤140737488355328:=by
  have:=Nat.le_mul_of_pos_right (xs.length+ys.length) hb'
  omega
 by_cases hm:n2=0
 ·have hy0:ys=[]:=List.eq_nil_of_length_eq_zero (by omega)
  subst hy0
  exact⟨a,n,c,w,K,hgo _ _ (fun ty=>run_append_zero hT hU rfl e2 hm ty),.refl _,by rw [List.append_nil];exact hs0,hS⟩
 obtain⟨b2,o2,rfl,hel2⟩:=f4 (by omega)
 obtain⟨news,hnl,hnk,hn1,hnr⟩:=gather t K b2 ys o2 hel2
 have hnc: ∀j u,news[j]? =some u→w.cell? ((⟨b2,o2,none⟩:Addr).add j)=some u:=fun j u e=>by rw [add_at];exact hS.holds _ _ _ (hnk j u e)
 obtain⟨i,hi,hiz,his,hib⟩:=hU.info_
 have hnl':news.length=n2*i.size:=by rw [hnl,his,f1]
 have hnl2:news.length=n2*t.size:=by rw [hnl,f1]
 have hbd:(n+n2)*i.bytes≤140737488355328:=by rw [hib,e1,f1];exact hbound
 have hmax: ∀old,grownCap w (n+n2) old U≤maxLen:=fun old=>grownCap_le_maxLen w (n+n2) old U (by simp [maxLen];omega)
 rcases (hS.items _ (List.mem_cons_self ..)).1 with hnil | ⟨g,n',cap,hv,hnc2,hcm⟩
 ·injection hnil with ha hn hc
  subst ha hn hc
  have hx0:xs=[]:=List.eq_nil_of_length_eq_zero (by omega)
  subst hx0
  obtain⟨K',h1,h2,h3⟩:=append_new (U:=U) (t:=t) (n:=0) (xs:=[]) (ys:=ys) (olds:=[]) (cap:=grownCap w (0+n2) 0 U) hzs hS.drop.drew rfl f1 (by simp) hnl2 (grownCap_ge w (0+n2) 0 U) (hmax 0) (fun k z hz=>by simp at hz) hnr
  refine⟨_,_,_,_,K',hgo _ _ (fun ty=>?_),h1,h2,h3⟩
  have hr:=run_append_nil (P:=P) w T ty U i zero hT hi hiz ⟨b2,o2,none⟩ n2 c2 news hnl' hnc (by omega) (by omega) (by simp at hbd;omega)
  simp only [Nat.zero_add] at hr ⊢
  simpa using hr
 ·injection hv with ha hn hc
  subst ha hn hc
  obtain⟨g',n'',cap',cur,hv',hcur,hcs,hkn⟩:=(hS.items _ (List.mem_cons_self ..)).2 g rfl
  injection hv' with ha' hn' hc'
  injection ha' with ha'
  injection ha' with hg' _ _
  subst hg' hn' hc'
  by_cases hroom:n+n2≤c
  ·obtain⟨K',h1,h2,h3⟩:=append_room hS hcur hcs hkn hs0 f1 (by omega) hroom hnl2 hnr
   refine⟨_,_,_,_,K',hgo _ _ (fun ty=>?_),h1,h2,h3⟩
   have hfit:n*i.size+news.length≤cur.size:=by rw [hnl2,his,hcs,←Nat.add_mul];exact Nat.mul_le_mul_right _ hroom
   have hr:=run_append_room (P:=P) w T ty U i hT hi g n c cur hcur ⟨b2,o2,none⟩ n2 c2 news hnl' hnc hn1 hroom hfit
   rw [his] at hr
   exact hr
  ·have hel: ∃olds:List Value,olds.length=xs.length*t.size∧AtK K g 0 olds∧∀(k:Nat) y,xs[k]? =some y→∃u,t.rel K u y∧∀j d,u.cells.toList[j]? =some d→olds[k*t.size+j]? =some d:=by
    by_cases hc0:0<c
    ·obtain⟨b,o,hbo,hel⟩:=e4 hc0
     injection hbo with hbo
     injection hbo with hb1 ho1 _
     subst hb1 ho1
     obtain⟨olds,h1,h2,_,h4⟩:=gather t K g xs 0 hel
     exact⟨olds,h1,h2,h4⟩
    ·have hx0:xs=[]:=List.eq_nil_of_length_eq_zero (by omega)
     subst hx0
     exact⟨[],by simp,fun _ _ e=>by simp at e,fun k y e=>by simp at e⟩
   obtain⟨olds,hol,hok,hor⟩:=hel
   obtain⟨K',h1,h2,h3⟩:=append_new (U:=U) (t:=t) (n:=n) (xs:=xs) (ys:=ys) (olds:=olds) (cap:=grownCap w (n+n2) c U) hzs hS.drop.drew e1 f1 (by rw [hol,e1]) hnl2 (grownCap_ge w (n+n2) c U) (hmax c) hor hnr
   refine⟨_,_,_,_,K',hgo _ _ (fun ty=>?_),h1,h2,h3⟩
   exact run_append_grow (P:=P) w T ty U i zero hT hi hiz ⟨g,0,none⟩ n c olds (by rw [hol,his,e1]) (fun j v e=>by rw [add_at];exact hS.holds _ _ _ (hok j v e)) ⟨b2,o2,none⟩ n2 c2 news hnl' hnc
    (by omega) (by omega) (growslice_fits (by omega) hbd)
end
end Go.Fk
namespace Go.Fk
open Go
set_option linter.unusedSectionVars false
variable [dr:Dr]
section
variable {P:Program}{ops:Array Oper}{Q:Exit→Act→World→Prop}{N:Nat}{E:Env}{w w0:World}{K K0:KMap}{M:List Nat}{L:List Item}
variable {x y:Operand}{T T' U:TypeId}{size bytes:Nat}{zero:Value}{agg:Bool}
def evP (E:Env):List (Nat×Operand)→Option (List (Nat×Value))
 | []=>some []
 | (i,x)::r=>(ev E x).bind fun v=>(evP E r).map fun l=>(i,v)::l
theorem evP_run {ρ:Operand→Value}(ha:Agree E ρ): ∀{l:List (Nat×Operand)} {r:List (Nat×Value)},evP E l=some r→l.map (fun p=>(p.1,ρ p.2))=r
 | [],r,h=>by simp [evP] at h;simp [h]
 | (i,x)::l,r,h=>by
  simp only [evP] at h
  obtain⟨v,hv,h⟩:=Option.bind_eq_some_iff.1 h
  obtain⟨l',hl,rfl⟩:=Option.map_eq_some_iff.1 h
  simp [ha x v hv,evP_run ha hl]
def SPlaces (P:Program)(T:TypeId):Option (List (Nat×Nat)):=
 match P.underlying T with
 | some (.struct fs)=>fs.toList.mapM fun f=>(P.info? f.type).map fun i=>(f.offset,i.size)
 | _=>none
theorem run_places: ∀(fs:List Field) (pl:List (Nat×Nat)) (w:World),fs.mapM (fun f=>(P.info? f.type).map fun i=>(f.offset,i.size))=some pl→
  (fs.mapM (fun f=>do pure (f.offset,←sizeOf f.type)):Sem (List (Nat×Nat))).run P w= .ok pl w
 | [],pl,w,h=>by simp at h;subst h;simp
 | f::fs,pl,w,h=>by
  simp only [List.mapM_cons,Option.bind_eq_bind,Option.bind_eq_some_iff] at h
  obtain⟨p,hp,l,hl,h⟩:=h
  obtain⟨i,hi,rfl⟩:=Option.map_eq_some_iff.1 hp
  cases h
  have ih:=run_places fs l w hl
  have h1:((do pure (f.offset,←sizeOf f.type)):Sem (Nat×Nat)).run P w= .ok (f.offset,i.size) w:=by simp [sizeOf,typeInfo,hi]
  rw [List.mapM_cons,Sem.run_bind,h1,Result.andThen_ok,Sem.run_bind,ih,Result.andThen_ok]
  rfl
theorem rv_build {parts:List (Nat×Operand)}{pv:List (Nat×Value)}{pl:List (Nat×Nat)}{z cs:Array Value}(hP:SPlaces P T=some pl)(hT:TF P T size true (.agg z) bytes)(hev:evP E parts=some pv)
  (hf:Instr.fill (fun i=>pl[i]?) z pv=some cs):RV P E w (.build T parts.toArray) (.agg cs):=fun ρ _ _ _ _ _ ha=>by
 unfold SPlaces at hP
 split at hP
 ·rename_i fs hu
  have hr:=run_places (P:=P) fs.toList pl w hP
  have e:=evP_run ha hev
  have hm:(fs.mapM (fun f=>do pure (f.offset,←sizeOf f.type)):Sem (Array (Nat×Nat))).run P w= .ok pl.toArray w:=by
   rw [Array.mapM_eq_mapM_toList]
   simp only [Sem.run_map,hr,Result.andThen_ok]
  simp only [execOp,Instr.build,Sem.run_bind,run_zeroValue hT,run_underlying hu,Result.andThen_ok,List.map_toArray,e]
  simp only [bind_pure_comp] at hm ⊢
  simp only [hm,Result.andThen_ok,Value.cells,List.getElem?_toArray,hf,Sem.run_pure]
 ·cases hP
theorem rt_buildSlice {α:Type}{t:Ty α}{n:Nat}{parts:List (Nat×Operand)}{pv:List (Nat×Value)}{cs:List Value}{xs:List α}(hT:P.underlying T=some (.slice U))(hU:TF P U t.size agg zero bytes)
  (hev:evP E parts=some pv)(hn:Nat.blt 0 (n*t.size)=true)(hsm:Nat.ble (n*t.size) 16777216=true)
  (hf:Instr.fill (fun i=>some (i*t.size,t.size)) ((Array.range (n*t.size)).map fun i=>zero.cells[i%zero.cells.size]!) pv=some cs.toArray)
  (hl:xs.length=n)(hcl:cs.length=n*t.size)(hcs: ∀(i:Nat) z,xs[i]? =some z→∃u,t.rel K u z∧∀j d,u.cells.toList[j]? =some d→cs[i*t.size+j]? =some d)(hS:SH w0 K0 M w K L):
  ∃a' w' K',RunTo P E w (.buildSlice T n parts.toArray) (.ok (.value (.slice a' n n)) w')∧KLe K K'∧SliceAt t K' a' n n xs∧SH w0 K0 M w' K' (tail (.slice a' n n) U t.size::L):=by
 have hn':0<n*t.size:=by simpa [Nat.blt_eq] using hn
 have hsm':n*t.size≤16777216:=by simpa using hsm
 have hmax:n≤maxLen:=by
  have:n≤n*t.size:=Nat.le_mul_of_pos_right n (Nat.pos_of_mul_pos_left hn')
  simp [maxLen];omega
 obtain⟨K',hle,hat,hS'⟩:=hS.newTail (cs:=cs) (rest:=[]) (n:=n) (cap:=n) (sz:=t.size) U hcl (by simpa using hcl) (Nat.le_refl _) hmax
 refine⟨some ⟨w.heap.size,0,none⟩,_,K',fun ρ _ _ _ _ _ ha=>?_,hle,SliceAt.of_cells hl.symm (Nat.le_refl _) hmax (fun i z hz=>?_),hS'⟩
 ·have e:=evP_run ha hev
  have h1: ¬(2 ^ 24<n*t.size):=by omega
  have h2: ¬(n*t.size=0):=by omega
  simp only [execOp,Instr.buildSlice,Sem.run_bind,run_underlying hT,run_sizeOf hU,Result.andThen_ok,List.map_toArray,e]
  rw [if_neg h1,if_neg h2]
  simp only [Sem.run_bind,Sem.run_pure,run_zeroValue hU,hf,newRow,Result.andThen_ok]
  rw [List.append_nil]
  rfl
 ·obtain⟨u,hu,hk⟩:=hcs i z hz
  refine⟨u,t.mono hle hu,fun j d e=>?_⟩
  have:=hat _ d (hk j d e)
  rwa [Nat.zero_add] at this
theorem rt_buildSlice0 {α:Type}(t:Ty α)(hT:P.underlying T=some (.slice U))(hU:TF P U t.size agg zero bytes)(hS:SH w0 K0 M w K L):
  ∃a' w' K',RunTo P E w (.buildSlice T 0 #[]) (.ok (.value (.slice a' 0 0)) w')∧KLe K K'∧SliceAt t K' a' 0 0 []∧SH w0 K0 M w' K' (tail (.slice a' 0 0) U t.size::L):=by
 obtain⟨K',hle,hat,hS'⟩:=hS.newTail (cs:=[]) (rest:=[]) (n:=0) (cap:=0) (sz:=t.size) U (by simp) (by simp) (Nat.le_refl _) (Nat.zero_le _)
 refine⟨some ⟨w.heap.size,0,none⟩,_,K',fun ρ _ _ _ _ _ _=>?_,hle,SliceAt.of_cells rfl (Nat.le_refl _) (Nat.zero_le _) (fun i z hz=>by simp at hz),hS'⟩
 simp only [execOp,Instr.buildSlice,Sem.run_bind,run_underlying hT,run_sizeOf hU,Result.andThen_ok]
 have h1: ¬(0*t.size>2 ^ 24):=by omega
 have h2:0*t.size=0:=by omega
 rw [if_neg h1,if_pos h2]
 have h3:(Array.range 0).map (fun x=>(#[]:Array Value)[x%(#[]:Array Value).size]!)=#[]:=by simp [Array.range]
 have h4:((#[]:Array (Nat×Operand)).map fun (i,x)=>(i,ρ x)).toList=[]:=by simp
 simp only [h2,Sem.run_bind,Sem.run_pure,Result.andThen_ok,newRow,h3,h4,Instr.fill]
 rfl
end
end Go.Fk
namespace Go.Fk
open Go
set_option linter.unusedSectionVars false
variable [dr:Dr]
section
variable {P:Program}{ops:Array Oper}{Q:Exit→Act→World→Prop}{N:Nat}{E:Env}{w w0:World}{K K0:KMap}{M:List Nat}{L:List Item}
variable {x y:Operand}{T T' U:TypeId}{size bytes:Nat}{zero:Value}{agg:Bool}
def CallOk (P:Program)(f:FuncId):Prop:=∃fn,P.funcs[f]? =some fn∧(fn.name== "runtime.NumGoroutine")=false∧fn.body.isNone=false
def evL (E:Env):List Operand→Option (List Value)
 | []=>some []
 | x::r=>(ev E x).bind fun v=>(evL E r).map fun l=>v::l
theorem evL_run {ρ:Operand→Value}(ha:Agree E ρ): ∀{l:List Operand} {r:List Value},evL E l=some r→l.map ρ=r
 | [],r,h=>by simp [evL] at h;simp [h]
 | x::l,r,h=>by
  simp only [evL] at h
  obtain⟨v,hv,h⟩:=Option.bind_eq_some_iff.1 h
  obtain⟨l',hl,rfl⟩:=Option.map_eq_some_iff.1 h
  simp [ha x v hv,evL_run ha hl]
theorem rt_call {f:FuncId}{args:List Operand}{ats:Array TypeId}{vs:List Value}(hf:CallOk P f)(hev:evL E args=some vs):
  RunTo P E w (.call {callee:=.value (.func f),args:=args.toArray,argTypes:=ats}) (.ok (.enter f vs.toArray) w):=fun ρ _ _ _ _ _ ha=>by
 obtain⟨fn,h1,h2,h3⟩:=hf
 have e:=evL_run ha hev
 have ef:ρ (.func f)= .func (.func f) #[] #[]:=ha _ _ rfl
 have h2':fn.name≠ "runtime.NumGoroutine" :=by simpa using h2
 have h3':fn.body≠none:=by intro h;rw [h] at h3;cases h3
 simp [execOp,resolve,ef,Deferred.ofValue,invoke,callFunc,h1,h2',h3',e]
theorem rt_callv {f:FuncId}{g:Operand}{args:List Operand}{ats:Array TypeId}{vs:List Value}{cap:Array Value}(hf:CallOk P f)(hg:ev E g=some (.func (.func f) #[] cap))(hev:evL E args=some vs):
  RunTo P E w (.call {callee:=.value g,args:=args.toArray,argTypes:=ats}) (.ok (.enter f (vs.toArray++cap)) w):=fun ρ _ _ _ _ _ ha=>by
 obtain⟨fn,h1,h2,h3⟩:=hf
 have e:=evL_run ha hev
 have h2':fn.name≠ "runtime.NumGoroutine" :=by simpa using h2
 have h3':fn.body≠none:=by intro h;rw [h] at h3;cases h3
 simp [execOp,resolve,ha g _ hg,Deferred.ofValue,invoke,callFunc,h1,h2',h3',e]
theorem rv_makeFunc {f:FuncId}{caps:List Operand}{vs:List Value}(hev:evL E caps=some vs):RV P E w (.makeFunc (.func f) #[] caps.toArray) (.func (.func f) #[] vs.toArray):=fun ρ _ _ _ _ _ ha=>by
 have e:=evL_run ha hev
 simp [execOp,Instr.makeFunc,e]
theorem SH.enter {Lin Lfr:List Item}(h:SH w0 K0 M w K (Lin++Lfr)):SH w K (Lin.flatMap Item.gs) w K Lin where
 os:=rfl
 tape:=rfl
 output:=rfl
 holds:=h.holds
 le:=.refl _
 size:=Nat.le_refl _
 drawn:=fun _=>Nat.le_refl _
 old:=fun _ _ _=>rfl
 oldK:=fun _ _ _=>rfl
 items:=fun it hi=>h.items it (List.mem_append_left _ hi)
 lt:=fun it hi b hb=>⟨(h.lt it (List.mem_append_left _ hi) b hb).1,.inr (List.mem_flatMap.2 ⟨it,hi,hb⟩)⟩
 nodup:=by
  have:=h.nodup
  rw [List.flatMap_append] at this
  exact(List.nodup_append.1 this).1
theorem SH.call {w':World}{K':KMap}{Lin Lfr Lout:List Item}(h:SH w0 K0 M w K (Lin++Lfr))(hc:SH w K (Lin.flatMap Item.gs) w' K' Lout):SH w0 K0 M w' K' (Lout++Lfr):=by
 have hnd:=h.nodup
 rw [List.flatMap_append,List.nodup_append] at hnd
 have hfr: ∀it∈Lfr,∀b∈it.gs,b<w.heap.size∧b∉Lin.flatMap Item.gs:=fun it hi b hb=>
  ⟨(h.lt it (List.mem_append_right _ hi) b hb).1,fun hm=>hnd.2.2 b hm b (List.mem_flatMap.2 ⟨it,hi,hb⟩) rfl⟩
 have hin: ∀b,b∈Lin.flatMap Item.gs→w0.heap.size≤b∨b∈M:=fun b hb=>by
  obtain⟨it,hi,e⟩:=List.mem_flatMap.1 hb
  exact(h.lt it (List.mem_append_left _ hi) b e).2
 refine⟨hc.os.trans h.os,hc.tape.trans h.tape,hc.output.trans h.output,hc.holds,h.le.trans hc.le,Nat.le_trans h.size hc.size,fun b hb hm=>?_,fun b hb hm=>?_,fun it hi=>?_,fun it hi b hb=>?_,?_,fun d=>Nat.le_trans (h.drawn d) (hc.drawn d)⟩
 ·have hnot:b∉Lin.flatMap Item.gs:=fun hm2=>(hin b hm2).elim (fun h1=>by omega) hm
  rw [hc.old b (Nat.lt_of_lt_of_le hb h.size) hnot];exact h.old b hb hm
 ·have hnot:b∉Lin.flatMap Item.gs:=fun hm2=>(hin b hm2).elim (fun h1=>by omega) hm
  rw [hc.oldK b (Nat.lt_of_lt_of_le hb h.size) hnot];exact h.oldK b hb hm
 ·rcases List.mem_append.1 hi with hi | hi
  ·exact hc.items it hi
  ·have h1:=h.items it (List.mem_append_right _ hi)
   refine⟨h1.1,it.loc (fun b hb=>?_) h1.2⟩
   obtain⟨h2,h3⟩:=hfr it hi b hb
   exact⟨(hc.old b h2 h3).symm,(hc.oldK b h2 h3).symm⟩
 ·rcases List.mem_append.1 hi with hi | hi
  ·obtain⟨h1,h2⟩:=hc.lt it hi b hb
   refine⟨h1,h2.elim (fun h3=>.inl (Nat.le_trans h.size h3)) (fun h3=>hin b h3)⟩
  ·have:=h.lt it (List.mem_append_right _ hi) b hb
   exact⟨Nat.lt_of_lt_of_le this.1 hc.size,this.2⟩
 ·rw [List.flatMap_append,List.nodup_append]
  refine⟨hc.nodup,hnd.2.1,fun b hb b' hb' e=>?_⟩
  subst e
  obtain⟨it,hi,e⟩:=List.mem_flatMap.1 hb
  obtain⟨it',hi',e'⟩:=List.mem_flatMap.1 hb'
  obtain⟨h2,h3⟩:=hfr it' hi' b e'
  rcases (hc.lt it hi b e).2 with h4 | h4
  ·omega
  ·exact h3 h4
theorem SH.enter0 (h:SH w0 K0 M w K L):SH w K [] w K []:=.start h.holds
theorem SH.call0 {w':World}{K':KMap}{Lout:List Item}(h:SH w0 K0 M w K L)(hc:SH w K [] w' K' Lout):SH w0 K0 M w' K' (Lout++L):=SH.call (Lin:=[]) h hc
def forFrom {σ τ:Type}(f:Nat→σ→Option (σ⊕τ)):Nat→Nat→σ→Option (σ⊕τ)
 | 0,_,s=>some (.inl s)
 | k+1,i,s=>(f i s).bind fun r=>r.elim (fun s'=>forFrom f k (i+1) s') fun t=>some (.inr t)
def whileM {σ τ:Type}(f:σ→Option (σ⊕τ)):Nat→σ→Option τ
 | 0,_=>none
 | k+1,s=>(f s).bind fun r=>r.elim (fun s'=>whileM f k s') some
theorem wc_for {σ τ:Type}{f:Nat→σ→Option (σ⊕τ)}{n:Nat}{r:σ⊕τ}{s0:σ}{body:Code}(Inv:Nat→σ→Env→World→Prop)(hrun:forFrom f n 0 s0=some r)(h0:Inv 0 s0 E w)
  (hround: ∀i s E w r',i<n→f i s=some r'→(∀x,r'= .inr x→r= .inr x)→Inv i s E w→WC P body (Exit.then (InSt N fun E' w'=>∃s',r'= .inl s'∧Inv (i+1) s' E' w') Q) N E w)
  (hend: ∀s E w,r= .inl s→Inv n s E w→WC P body (Exit.then (fun _ _=>False) Q) N E w):WC P (.loop body) Q N E w:=fun t ht=>by
 refine wp_loop_ghost (fun k a w=>a.defers=[]∧∃i s E,k=n-i∧i≤n∧forFrom f (n-i) i s=some r∧Fr N E a.tmps∧Inv i s E w) n ⟨rfl,0,s0,E,rfl,Nat.zero_le _,hrun,ht,h0⟩ ?_
 rintro k ⟨t,ds⟩ w ⟨hd,i,s,E,rfl,hi,hr,hf,hI⟩
 simp only at hd hf
 subst hd
 by_cases hlt:i<n
 ·have e:n-i=(n-(i+1))+1:=by omega
  rw [e] at hr
  simp only [forFrom] at hr
  obtain⟨r',hr',hr⟩:=Option.bind_eq_some_iff.1 hr
  refine Code.wp_mono (fun e a w' q=>?_) (hround i s E w r' hlt hr' (fun x hx=>by subst hx;simpa using hr.symm) hI t hf)
  cases e with
  | normal=>
   obtain⟨hd,E',hf',s',rfl,hI'⟩:=q
   exact⟨n-(i+1),by omega,hd,i+1,s',E',rfl,hlt,hr,hf',hI'⟩
  | exit id=>exact q
  | goto l=>exact q
  | ret=>exact q
  | panic c=>exact q
  | outgrown=>exact q
 ·have e:i=n:=by omega
  subst e
  rw [Nat.sub_self] at hr
  simp only [forFrom,Option.some.injEq] at hr
  refine Code.wp_mono (fun e a w' q=>?_) (hend s E w hr.symm hI t hf)
  cases e with
  | normal=>exact q.elim
  | exit id=>exact q
  | goto l=>exact q
  | ret=>exact q
  | panic c=>exact q
  | outgrown=>exact q
theorem wc_while {σ τ:Type}{f:σ→Option (σ⊕τ)}{m:Nat}{r:τ}{s0:σ}{body:Code}(Inv:σ→Env→World→Prop)(hrun:whileM f m s0=some r)(h0:Inv s0 E w)
  (hround: ∀s E w r',f s=some r'→(∀x,r'= .inr x→r=x)→Inv s E w→WC P body (Exit.then (InSt N fun E' w'=>∃s',r'= .inl s'∧Inv s' E' w') Q) N E w):WC P (.loop body) Q N E w:=fun t ht=>by
 refine wp_loop_ghost (fun k a w=>a.defers=[]∧∃s E,whileM f k s=some r∧Fr N E a.tmps∧Inv s E w) m ⟨rfl,s0,E,hrun,ht,h0⟩ ?_
 rintro k ⟨t,ds⟩ w ⟨hd,s,E,hr,hf,hI⟩
 simp only at hd hf
 subst hd
 cases k with
 | zero=>cases hr
 | succ k=>
  simp only [whileM] at hr
  obtain⟨r',hr',hr⟩:=Option.bind_eq_some_iff.1 hr
  refine Code.wp_mono (fun e a w' q=>?_) (hround s E w r' hr' (fun x hx=>by subst hx;simpa using hr.symm) hI t hf)
  cases e with
  | normal=>
   obtain⟨hd,E',hf',s',rfl,hI'⟩:=q
   exact⟨k,by omega,hd,s',E',hr,hf',hI'⟩
  | exit id=>exact q
  | goto l=>exact q
  | ret=>exact q
  | panic c=>exact q
  | outgrown=>exact q
def argsEnv:Nat→List Value→Env
 | _,[]=>[]
 | i,v::r=>(i,v)::argsEnv (i+1) r
theorem look_argsEnv: ∀(vs:List Value) (k i:Nat) (v:Value),look (argsEnv k vs) i=some v→k≤i∧vs[i-k]? =some v
 | [],_,_,_,h=>by cases h
 | u::r,k,i,v,h=>by
  simp only [argsEnv,look] at h
  by_cases e:k=i
  ·subst e;simp at h;subst h;simp
  ·have hb:Nat.beq k i=false:=by
    rw [Bool.eq_false_iff];intro hb;exact e (Nat.eq_of_beq_eq_true hb)
   rw [hb] at h
   obtain⟨h1,h2⟩:=look_argsEnv r (k+1) i v h
   refine⟨by omega,?_⟩
   rw [show i-k=(i-(k+1))+1 from by omega];simpa using h2
theorem calls_in {f:FuncId}{fn:Func}{c:Code}{vs:List Value}{R:Ending→World→Prop}(hf:P.funcs[f]? =some fn)(hb:fn.body=some c)(hN:fn.ntmps=N)(hle:Nat.ble vs.length N=true)
  (h:WC P c (bodyPost P fn R) N (argsEnv 0 vs) w):Calls P f vs.toArray w R:=by
 have hle':vs.length≤N:=by simpa using hle
 refine calls_of_wp hf hb (h _ ⟨by simp [hN];omega,fun i v hv=>?_⟩)
 obtain⟨_,h2⟩:=look_argsEnv vs 0 i v hv
 have hlt:=(List.getElem?_eq_some_iff.1 h2).1
 rw [Array.getElem?_append_left (by simpa using hlt)]
 simpa using h2
theorem run_loadVar_at {b o:Nat}{cs:List Value}{v:Value}(hT:TF P T size agg zero bytes)(hc:cellsAre w b o cs)(hv:(agg=true∧cs.length=size∧v= .agg cs.toArray)∨(agg=false∧cs=[v])):
  (loadVar T ⟨b,o,none⟩).run P w= .ok v w:=by
 rcases hv with ⟨rfl,hl,rfl⟩ | ⟨rfl,rfl⟩
 ·subst hl
  simp [loadVar,run_isAgg hT,run_sizeOf hT,run_loadCells_at hc]
 ·have h0:=hc 0 v rfl
  simp at h0
  simp [loadVar,run_isAgg hT,h0]
def ResV (P:Program)(w:World)(E:Env):List ResultVar→List Value→Prop
 | [],[]=>True
 | .tmp t::r,v::vs=>look E t=some v∧ResV P w E r vs
 | .cell a T::r,v::vs=>(∃b o,look E a=some (.pointer (some ⟨b,o,none⟩))∧(loadVar T ⟨b,o,none⟩).run P w= .ok v w)∧ResV P w E r vs
 | _,_=>False
theorem run_results {t:Array Value}(ht:Fr N E t): ∀(rs:List ResultVar) (vs:List Value),ResV P w E rs vs→
  (rs.mapM (fun | .tmp t'=>pure (t.getD t' undef) | .cell a T=>do loadVar T (←asAddr (t.getD a undef))):Sem (List Value)).run P w= .ok vs w
 | [],[],_=>rfl
 | [],_::_,h=>h.elim
 | .tmp i::r,[],h=>h.elim
 | .cell a T::r,[],h=>h.elim
 | .tmp i::r,v::vs,h=>by
  have h1:t.getD i undef=v:=by rw [Array.getD_eq_getD_getElem?,ht.2 i v h.1,Option.getD_some]
  have ih:=run_results ht r vs h.2
  rw [List.mapM_cons,Sem.run_bind]
  simp only [h1,Sem.run_pure,Result.andThen_ok]
  rw [Sem.run_bind,ih]
  rfl
 | .cell a T::r,v::vs,h=>by
  obtain⟨⟨b,o,h1,h2⟩,h3⟩:=h
  have h4:t.getD a undef= .pointer (some ⟨b,o,none⟩):=by rw [Array.getD_eq_getD_getElem?,ht.2 a _ h1,Option.getD_some]
  have ih:=run_results ht r vs h3
  rw [List.mapM_cons,Sem.run_bind]
  simp only [h4,Sem.run_bind,Sem.run_pure]
  rw [show (asAddr (.pointer (some ⟨b,o,none⟩))).run P w= .ok ⟨b,o,none⟩ w from rfl]
  simp only [Result.andThen_ok,h2]
  rw [ih]
  rfl
def retV:List Value→Value
 | [v]=>v
 | vs=>.tuple vs.toArray
theorem qe_ret {fn:Func}{R:Ending→World→Prop}{rs:List ResultVar}{vs:List Value}(hr:fn.results=rs.toArray)(h:ResV P w E rs vs)
  (hR:R (.returned (retV vs)) w):QE (bodyPost P fn R) .ret N E w:=fun t ht=>by
 refine bodyPost_ret (v:=retV vs) ?_ rfl hR
 have h1:=run_results ht rs vs h
 unfold results
 rw [hr,Array.mapM_eq_mapM_toList,Sem.run_bind,Sem.run_map]
 erw [h1]
 simp only [Result.andThen_ok,Sem.run_pure]
 match vs with
 | []=>rfl
 | [v]=>rfl
 | v::u::r=>simp [retV]
theorem qe_ret_normal {fn:Func}{R:Ending→World→Prop}(h:QE (bodyPost P fn R) .ret N E w):QE (bodyPost P fn R) .normal N E w:=h
end
end Go.Fk
namespace Go.Fk
open Go
set_option linter.unusedSectionVars false
variable [dr:Dr]
section
variable {P:Program}{ops:Array Oper}{Q:Exit→Act→World→Prop}{N:Nat}{E:Env}{w w0:World}{K K0:KMap}{M:List Nat}{L:List Item}{C:World→Prop}
variable {x y:Operand}{T T' U:TypeId}{size bytes:Nat}{zero:Value}{agg:Bool}
instance (n:Int):Decidable (rng64 n):=inferInstanceAs (Decidable (_∧_))
theorem w64_rng (n:Int):rng64 (w64 n):=by
 have h1:=Int.emod_nonneg n (b:=18446744073709551616) (by decide)
 have h2:=Int.emod_lt_of_pos n (b:=18446744073709551616) (by decide)
 unfold rng64 w64 IntKind.wrap
 simp only [IntKind.signed,IntKind.bits,show (2:Int) ^ 64=18446744073709551616 from rfl,show (2:Int) ^ (64-1)=9223372036854775808 from rfl,Bool.true_and,decide_eq_true_eq]
 split<;>omega
theorem w64_of {n:Int}(h:rng64 n):w64 n=n:=by
 obtain⟨h1,h2⟩:=h
 unfold w64 IntKind.wrap
 simp only [IntKind.signed,IntKind.bits,show (2:Int) ^ 64=18446744073709551616 from rfl,show (2:Int) ^ (64-1)=9223372036854775808 from rfl,Bool.true_and,decide_eq_true_eq]
 split<;>omega
theorem rng_nat {n:Nat}(h:n≤9223372036854775807):rng64 (n:Int):=⟨by omega,by omega⟩
theorem rng_idx {i n:Nat}(h:i<n)(hn:n≤9223372036854775807):rng64 (i:Int):=⟨by omega,by omega⟩
theorem rng_quo {a b c:Int}(h:quoI a b=some c):rng64 c:=by
 unfold quoI at h
 split at h
 ·cases h
 ·cases h;exact w64_rng _
theorem w64_succ {i n:Nat}(h:i<n)(hn:n≤9223372036854775807):w64 ((i:Int)+1)=((i+1:Nat):Int):=by
 rw [w64_of ⟨by omega,by omega⟩];omega
theorem len_cat {a b c:Str}(h:catS a b=some c):c.length≤maxLen:=by
 unfold catS at h
 split at h
 ·cases h;simpa using by assumption
 ·cases h
theorem len_sub {s c:Str}{l h:Int}(hs:s.length≤maxLen)(e:subS s l h=some c):c.length≤maxLen:=by
 unfold subS at e
 split at e
 ·cases e;simp only [List.length_drop,List.length_take];omega
 ·cases e
theorem cond_t {α:Type}{b:Bool}{x y r:α}(hb:b=true)(h:cond b x y=r):x=r:=by subst hb;exact h
theorem cond_f {α:Type}{b:Bool}{x y r:α}(hb:b=false)(h:cond b x y=r):y=r:=by subst hb;exact h
theorem wc_cond_t {c:Operand}{x y:Code}{b:Bool}(hc:ev E c=some (.bool b))(hb:b=true)(h:WC P x Q N E w):WC P (.cond c x y) Q N E w:=
 wc_cond hc (fun _=>h) fun h'=>by rw [hb] at h';cases h'
theorem wc_cond_f {c:Operand}{x y:Code}{b:Bool}(hc:ev E c=some (.bool b))(hb:b=false)(h:WC P y Q N E w):WC P (.cond c x y) Q N E w:=
 wc_cond hc (fun h'=>by rw [hb] at h';cases h') fun _=>h
theorem qe_mid' {k:Env→World→Prop}{E':Env}(h:k E' w)(hs:Sub E' E):QE (Exit.then (InSt N k) Q) .normal N E w:=qe_sub hs (qe_mid h)
def WQ (P:Program)(ops:Array Oper)(C:World→Prop)(Q:Exit→Act→World→Prop)(N:Nat)(rest:List Oper)(E:Env):Prop:=
 ∀t,Fr N E t→wpQuiet P ops C (fun a'=>∀w',C w'→Q .normal a' w') rest ⟨t,[]⟩
def QC (w0:World)(K0:KMap)(M:List Nat)(K:KMap)(L:List Item)(w':World):Prop:=∃K',SH w0 K0 M w' K' L∧KLe K K'
theorem wc_quiet {id:Nat}{l:List Oper}(hm:P.follows .mixedOrders=true)(hB:Region.lexB .any l.toArray=true)(hS:SH w0 K0 M w K L)
  (h:WQ P l.toArray (QC w0 K0 M K L) Q N l E):WC P (.region id l.toArray true) Q N E w:=fun t ht=>
 wp_region_quiet (C:=QC w0 K0 M K L) hm hB ⟨K,hS.drew,.refl _⟩ (h t ht)
theorem wq_val {d:Tmp}{op:Op}{ty:TypeId}{pos:String}{af:Array Edge}{gd:Option (Nat×Bool)}{rest:List Oper}{v:Value}
  (hw:Wanted ops N E gd)(hd:Nat.blt d N=true)(hr: ∀w',C w'→RV P E w' op v)(h:WQ P ops C Q N rest ((d,v)::E)):WQ P ops C Q N (⟨some d,op,ty,pos,af,gd⟩::rest) E:=fun t ht=>by
 unfold wpQuiet
 rw [if_pos (hw t _ _ _ _ _ ht)]
 refine⟨v,fun w' hw'=>?_,h _ (ht.put hd v)⟩
 unfold Oper.quietAt
 rw [hr w' hw' _ _ _ _ _ _ ht.agree]
 exact⟨rfl,rfl⟩
theorem wq_un {d:Tmp}{op:Op}{ty:TypeId}{pos:String}{af:Array Edge}{gd:Option (Nat×Bool)}{rest:List Oper}
  (hw:Unwanted ops N E gd)(hd:Nat.blt d N=true)(h:WQ P ops C Q N rest ((d,undef)::E)):WQ P ops C Q N (⟨some d,op,ty,pos,af,gd⟩::rest) E:=fun t ht=>by
 unfold wpQuiet
 rw [if_neg (by rw [hw t _ _ _ _ _ ht];simp)]
 exact h _ (ht.put hd undef)
theorem wq_call {d:Tmp}{op:Op}{ty:TypeId}{pos:String}{af:Array Edge}{gd:Option (Nat×Bool)}{rest:List Oper}{f:FuncId}{args:Array Value}{v:Value}
  (hw:Wanted ops N E gd)(hd:Nat.blt d N=true)(hr: ∀w',RunTo P E w' op (.ok (.enter f args) w'))(hc: ∀w',C w'→Calls P f args w' fun e w''=>e= .returned v∧C w'')
  (h:WQ P ops C Q N rest ((d,v)::E)):WQ P ops C Q N (⟨some d,op,ty,pos,af,gd⟩::rest) E:=fun t ht=>by
 unfold wpQuiet
 rw [if_pos (hw t _ _ _ _ _ ht)]
 refine⟨v,fun w' hw'=>?_,h _ (ht.put hd v)⟩
 unfold Oper.quietAt
 rw [hr w' _ _ _ _ _ _ ht.agree]
 exact⟨rfl,hc w' hw'⟩
theorem wq_nil (h: ∀w',C w'→QE Q .normal N E w'):WQ P ops C Q N [] E:=fun t ht w' hw'=>h w' hw' t ht
end
end Go.Fk
namespace Go.Fk
open Go
set_option linter.unusedSectionVars false
variable [dr:Dr]
section
variable {P:Program}{ops:Array Oper}{Q:Exit→Act→World→Prop}{N:Nat}{E:Env}{w w0:World}{K K0:KMap}{M:List Nat}{L:List Item}{C:World→Prop}
variable {x y z:Operand}{T T' U:TypeId}{size bytes:Nat}{zero:Value}{agg:Bool}{rest:List Oper}{d:Tmp}{ty:TypeId}{pos:String}{af:Array Edge}{gd:Option (Nat×Bool)}{fr:Nat×Nat}
theorem SliceAt.nil {α:Type}(t:Ty α)(K:KMap):SliceAt t K none 0 0 ([]:List α):=⟨rfl,Nat.le_refl _,Nat.zero_le _,fun h=>absurd h (by omega)⟩
theorem SH.mem_obj {g:Nat}{cs:List Value}{V:TypeId}(h:SH w0 K0 M w K L)(hm:obj g cs V fr∈L)(o:Nat):w.cell? ⟨g,o,none⟩=cs[o]? :=by
 obtain⟨⟨e,_⟩,_⟩:=(h.items _ hm).2 g rfl
 simp [World.cell?,e]
theorem rv_loadm1 {g o:Nat}{cs:List Value}{V:TypeId}{v:Value}(hT:TF P T size false zero bytes)(hx:ev E x=some (.pointer (some ⟨g,o,none⟩)))(hm:obj g cs V fr∈L)(hS:SH w0 K0 M w K L)(hv:cs[o]? =some v):RV P E w (.load T x) v:=
 rv_load hT hx (cs:=[v]) (fun j c e=>by
  cases j with
  | zero=>simp at e;subst e;rw [Nat.add_zero,hS.mem_obj hm];exact hv
  | succ j=>simp at e) (.inr ⟨rfl,rfl⟩)
theorem rv_loadmS {g o:Nat}{cs ds:List Value}{V:TypeId}(hT:TF P T size true zero bytes)(hx:ev E x=some (.pointer (some ⟨g,o,none⟩)))(hm:obj g cs V fr∈L)(hS:SH w0 K0 M w K L)(hv:(cs.drop o).take size=ds)(hl:ds.length=size):RV P E w (.load T x) (.agg ds.toArray):=
 rv_load hT hx (fun j c e=>by
  rw [hS.mem_obj hm]
  subst hv
  rw [List.getElem?_take] at e
  split at e
  ·rw [List.getElem?_drop] at e;exact e
  ·cases e) (.inl ⟨rfl,hl,rfl⟩)
theorem rq_load1 {b o:Nat}{v:Value}(hT:TF P T size false zero bytes)(hx:ev E x=some (.pointer (some ⟨b,o,none⟩)))(hk:K b o=some v)(w':World)(hw:QC w0 K0 M K L w'):RV P E w' (.load T x) v:=
 let ⟨_,hS,hl⟩:=hw
 rv_load1 hT hx hS (hl _ _ _ hk)
theorem rq_loadS {b o:Nat}{cs:List Value}(hT:TF P T size true zero bytes)(hx:ev E x=some (.pointer (some ⟨b,o,none⟩)))(hk:AtK K b o cs)(hl:cs.length=size)(w':World)(hw:QC w0 K0 M K L w'):RV P E w' (.load T x) (.agg cs.toArray):=
 let ⟨_,hS,hle⟩:=hw
 rv_loadS hT hx hS (hk.mono hle) hl
theorem rq_loadm1 {g o:Nat}{cs:List Value}{V:TypeId}{v:Value}(hT:TF P T size false zero bytes)(hx:ev E x=some (.pointer (some ⟨g,o,none⟩)))(hm:obj g cs V fr∈L)(hv:cs[o]? =some v)(w':World)(hw:QC w0 K0 M K L w'):RV P E w' (.load T x) v:=
 let ⟨_,hS,_⟩:=hw
 rv_loadm1 hT hx hm hS hv
theorem rq_loadmS {g o:Nat}{cs ds:List Value}{V:TypeId}(hT:TF P T size true zero bytes)(hx:ev E x=some (.pointer (some ⟨g,o,none⟩)))(hm:obj g cs V fr∈L)(hv:(cs.drop o).take size=ds)(hl:ds.length=size)(w':World)(hw:QC w0 K0 M K L w'):RV P E w' (.load T x) (.agg ds.toArray):=
 let ⟨_,hS,_⟩:=hw
 rv_loadmS hT hx hm hS hv hl
theorem wl_indexAddr {α:Type}{t:Ty α}{a:Option Addr}{n c:Nat}{xs:List α}{k:IntKind}{i:Int}{e:α}(hw:Wanted ops N E gd)(hd:Nat.blt d N=true)(hT:P.underlying T=some (.slice U))(hU:TF P U t.size agg zero bytes)
  (hx:ev E x=some (.slice a n c))(hy:ev E y=some (.int k i))(hs:SliceAt t K a n c xs)(hz:getI xs i=some e)
  (h: ∀b o u,t.rel K u e→AtK K b o u.cells.toList→WL P ops Q N rest ((d,.pointer (some ⟨b,o,none⟩))::E) w):WL P ops Q N (⟨some d,.indexAddr T x y,ty,pos,af,gd⟩::rest) E w:=by
 obtain⟨b,o,u,h1,h2,h3⟩:=rv_indexAddr hT hU hx hy hs hz
 exact wl_val hw hd (h1 w) (h b o u h2 h3)
theorem wq_indexAddr {α:Type}{t:Ty α}{a:Option Addr}{n c:Nat}{xs:List α}{k:IntKind}{i:Int}{e:α}(hw:Wanted ops N E gd)(hd:Nat.blt d N=true)(hT:P.underlying T=some (.slice U))(hU:TF P U t.size agg zero bytes)
  (hx:ev E x=some (.slice a n c))(hy:ev E y=some (.int k i))(hs:SliceAt t K a n c xs)(hz:getI xs i=some e)
  (h: ∀b o u,t.rel K u e→AtK K b o u.cells.toList→WQ P ops C Q N rest ((d,.pointer (some ⟨b,o,none⟩))::E)):WQ P ops C Q N (⟨some d,.indexAddr T x y,ty,pos,af,gd⟩::rest) E:=by
 obtain⟨b,o,u,h1,h2,h3⟩:=rv_indexAddr hT hU hx hy hs hz
 exact wq_val hw hd (fun w' _=>h1 w') (h b o u h2 h3)
theorem wl_sl_l {α:Type}{t:Ty α}{a:Option Addr}{n c:Nat}{xs ys:List α}{k:IntKind}{l:Int}(hw:Wanted ops N E gd)(hd:Nat.blt d N=true)(hT:P.underlying T=some (.slice U))(hU:TF P U t.size agg zero bytes)
  (hx:ev E x=some (.slice a n c))(hy:ev E y=some (.int k l))(hs:SliceAt t K a n c xs)(hz:subL xs l xs.length=some ys)
  (h: ∀a' n' c',SliceAt t K a' n' c' ys→WL P ops Q N rest ((d,.slice a' n' c')::E) w):WL P ops Q N (⟨some d,.slice T x (some y) none none,ty,pos,af,gd⟩::rest) E w:=by
 obtain⟨a',n',c',h1,h2⟩:=rv_sl_l hT hU hx hy hs hz
 exact wl_val hw hd (h1 w) (h a' n' c' h2)
theorem wl_sl_h {α:Type}{t:Ty α}{a:Option Addr}{n c:Nat}{xs ys:List α}{k:IntKind}{l:Int}(hw:Wanted ops N E gd)(hd:Nat.blt d N=true)(hT:P.underlying T=some (.slice U))(hU:TF P U t.size agg zero bytes)
  (hx:ev E x=some (.slice a n c))(hy:ev E y=some (.int k l))(hs:SliceAt t K a n c xs)(hz:subL xs 0 l=some ys)
  (h: ∀a' n' c',SliceAt t K a' n' c' ys→WL P ops Q N rest ((d,.slice a' n' c')::E) w):WL P ops Q N (⟨some d,.slice T x none (some y) none,ty,pos,af,gd⟩::rest) E w:=by
 obtain⟨a',n',c',h1,h2⟩:=rv_sl_h hT hU hx hy hs hz
 exact wl_val hw hd (h1 w) (h a' n' c' h2)
theorem wl_alloc (hw:Wanted ops N E gd)(hd:Nat.blt d N=true)(hT:TF P T size agg zero bytes)(hS:SH w0 K0 M w K L)
  (h: ∀g w',SH w0 K0 M w' K (obj g zero.cells.toList T::L)→WL P ops Q N rest ((d,.pointer (some ⟨g,0,none⟩))::E) w'):WL P ops Q N (⟨some d,.alloc T,ty,pos,af,gd⟩::rest) E w:=
 wl_eff hw hd (rt_alloc hT) (h _ _ (hS.newObj _ T))
theorem wl_box {v:Value}(hw:Wanted ops N E gd)(hd:Nat.blt d N=true)(hx:ev E x=some v)(hS:SH w0 K0 M w K L)
  (h: ∀g w',SH w0 K0 M w' K (obj g v.cells.toList T::L)→WL P ops Q N rest ((d,.pointer (some ⟨g,0,none⟩))::E) w'):WL P ops Q N (⟨some d,.box T x,ty,pos,af,gd⟩::rest) E w:=
 wl_eff hw hd (rt_box hx) (h _ _ (hS.newObj _ T))
theorem wl_store {g o:Nat}{cs cs':List Value}{v:Value}(hw:Wanted ops N E gd)(hT:TF P T size agg zero bytes)(hx:ev E x=some (.pointer (some ⟨g,o,none⟩)))(hy:ev E y=some v)(hsz:v.cells.size=size)(hones: ∀c∈v.cells.toList,c.oneCell'=true)
  (hS:SH w0 K0 M w K (obj g cs U fr::L))(hfit:Nat.ble (o+size) cs.length=true)(hcs:splice cs o v.cells.toList=cs')
  (h: ∀w',SH w0 K0 M w' K (obj g cs' U fr::L)→WL P ops Q N rest E w'):WL P ops Q N (⟨none,.store T x y,ty,pos,af,gd⟩::rest) E w:=by
 obtain⟨h1,h2⟩:=rt_store hT hx hy hsz hones hS hfit
 subst hcs
 exact wl_do hw h1 (h _ h2)
theorem wl_append {α:Type}{t:Ty α}{a a2:Option Addr}{n c n2 c2:Nat}{xs ys zs:List α}(hw:Wanted ops N E gd)(hd:Nat.blt d N=true)(hT:P.underlying T=some (.slice U))(hU:TF P U t.size agg zero bytes)(hsz:Nat.blt 0 t.size=true)(hzs:zero.cells.size=t.size)
  (hb:Nat.blt 0 bytes=true)(hx:ev E x=some (.slice a n c))(hy:ev E y=some (.slice a2 n2 c2))(hs:SliceAt t K a n c xs)(hs2:SliceAt t K a2 n2 c2 ys)(hz:catL bytes xs ys=some zs)
  (hS:SH w0 K0 M w K (tail (.slice a n c) U t.size::L))
  (h: ∀a' n' c' w' K',KLe K K'→SliceAt t K' a' n' c' zs→SH w0 K0 M w' K' (tail (.slice a' n' c') U t.size::L)→WL P ops Q N rest ((d,.slice a' n' c')::E) w'):
  WL P ops Q N (⟨some d,.call {callee:=.builtin .append,args:=#[x,y],argTypes:=#[T,T]},ty,pos,af,gd⟩::rest) E w:=by
 obtain⟨a',n',c',w',K',h1,h2,h3,h4⟩:=rt_append hT hU hsz hzs hb hx hy hs hs2 hz hS
 exact wl_eff hw hd h1 (h a' n' c' w' K' h2 h3 h4)
theorem wl_buildSlice {α:Type}{t:Ty α}{n:Nat}{parts:List (Nat×Operand)}{pv:List (Nat×Value)}{cs:List Value}{xs:List α}(hw:Wanted ops N E gd)(hd:Nat.blt d N=true)(hT:P.underlying T=some (.slice U))(hU:TF P U t.size agg zero bytes)
  (hev:evP E parts=some pv)(hn:Nat.blt 0 (n*t.size)=true)(hsm:Nat.ble (n*t.size) 16777216=true)
  (hf:Instr.fill (fun i=>some (i*t.size,t.size)) ((Array.range (n*t.size)).map fun i=>zero.cells[i%zero.cells.size]!) pv=some cs.toArray)
  (hl:xs.length=n)(hcl:cs.length=n*t.size)(hcs: ∀(i:Nat) z,xs[i]? =some z→∃u,t.rel K u z∧∀j d,u.cells.toList[j]? =some d→cs[i*t.size+j]? =some d)(hS:SH w0 K0 M w K L)
  (h: ∀a' w' K',KLe K K'→SliceAt t K' a' n n xs→SH w0 K0 M w' K' (tail (.slice a' n n) U t.size::L)→WL P ops Q N rest ((d,.slice a' n n)::E) w'):
  WL P ops Q N (⟨some d,.buildSlice T n parts.toArray,ty,pos,af,gd⟩::rest) E w:=by
 obtain⟨a',w',K',h1,h2,h3,h4⟩:=rt_buildSlice (P:=P) (E:=E) hT hU hev hn hsm hf hl hcl hcs hS
 exact wl_eff hw hd h1 (h a' w' K' h2 h3 h4)
theorem wl_buildSlice0 {α:Type}(t:Ty α)(hw:Wanted ops N E gd)(hd:Nat.blt d N=true)(hT:P.underlying T=some (.slice U))(hU:TF P U t.size agg zero bytes)(hS:SH w0 K0 M w K L)
  (h: ∀a' w' K',KLe K K'→SliceAt t K' a' 0 0 ([]:List α)→SH w0 K0 M w' K' (tail (.slice a' 0 0) U t.size::L)→WL P ops Q N rest ((d,.slice a' 0 0)::E) w'):
  WL P ops Q N (⟨some d,.buildSlice T 0 #[],ty,pos,af,gd⟩::rest) E w:=by
 obtain⟨a',w',K',h1,h2,h3,h4⟩:=rt_buildSlice0 (P:=P) (E:=E) t hT hU hS
 exact wl_eff hw hd h1 (h a' w' K' h2 h3 h4)
theorem lit_cons {α:Type}{t:Ty α}{u:Value}{z:α}{xs:List α}{cs:List Value}(hu:t.rel K u z)
  (h: ∀(i:Nat) z',xs[i]? =some z'→∃u',t.rel K u' z'∧∀j d,u'.cells.toList[j]? =some d→cs[i*t.size+j]? =some d):
  ∀(i:Nat) z',(z::xs)[i]? =some z'→∃u',t.rel K u' z'∧∀j d,u'.cells.toList[j]? =some d→(u.cells.toList++cs)[i*t.size+j]? =some d:=by
 have hl:u.cells.toList.length=t.size:=by simpa using t.size_eq hu
 intro i z' hz
 cases i with
 | zero=>
  simp at hz;subst hz
  refine⟨u,hu,fun j d e=>?_⟩
  have:=(List.getElem?_eq_some_iff.1 e).1
  rw [Nat.zero_mul,Nat.zero_add,List.getElem?_append_left this];exact e
 | succ i=>
  simp at hz
  obtain⟨u',hu',hk⟩:=h i z' hz
  refine⟨u',hu',fun j d e=>?_⟩
  rw [List.getElem?_append_right (by rw [hl,Nat.add_mul,Nat.one_mul];omega),hl,show (i+1)*t.size+j-t.size=i*t.size+j from by rw [Nat.add_mul,Nat.one_mul];omega]
  exact hk j d e
theorem lit_nil {α:Type}{t:Ty α}: ∀(i:Nat) z',([]:List α)[i]? =some z'→∃u',t.rel K u' z'∧∀j d,u'.cells.toList[j]? =some d→([]:List Value)[i*t.size+j]? =some d:=by
 intro i z' hz;simp at hz
theorem wc_cutg {c:Code}(Mid:Env→World→Prop)(h:WC P c (Exit.then (InSt N Mid) Q) N E w)
  (hk: ∀E' w',Mid E' w'→QE Q .normal N E' w'):WC P c Q N E w:=
 wc_mono h fun e a w' q=>by
  cases e with
  | normal=>
   obtain⟨hd,E',hf,hm⟩:=q
   obtain⟨t,ds⟩:=a
   simp only at hd hf
   subst hd
   exact hk E' w' hm t hf
  | exit id=>exact q
  | goto l=>exact q
  | ret=>exact q
  | panic c=>exact q
  | outgrown=>exact q
def forE {σ:Type}(f:Nat→σ→Option σ):Nat→Nat→σ→Option σ
 | 0,_,s=>some s
 | k+1,i,s=>(f i s).bind fun s'=>forE f k (i+1) s'
theorem forE_from {σ:Type}(f:Nat→σ→Option σ): ∀(k i:Nat) (s r:σ),forE f k i s=some r→forFrom (τ:=Empty) (fun i s=>(f i s).map .inl) k i s=some (.inl r)
 | 0,i,s,r,h=>by simp [forE] at h;simp [forFrom,h]
 | k+1,i,s,r,h=>by
  simp only [forE] at h
  obtain⟨s',h1,h2⟩:=Option.bind_eq_some_iff.1 h
  simp only [forFrom,h1,Option.map_some,Option.bind_some,Sum.elim_inl]
  exact forE_from f k (i+1) s' r h2
theorem wc_forE {σ:Type}{f:Nat→σ→Option σ}{n:Nat}{r:σ}{s0:σ}{body:Code}(Inv:Nat→σ→Env→World→Prop)(hrun:forE f n 0 s0=some r)(h0:Inv 0 s0 E w)
  (hround: ∀i s E w s',i<n→f i s=some s'→Inv i s E w→WC P body (Exit.then (InSt N fun E' w'=>Inv (i+1) s' E' w') Q) N E w)
  (hend: ∀s E w,r=s→Inv n s E w→WC P body (Exit.then (fun _ _=>False) Q) N E w):WC P (.loop body) Q N E w:=by
 refine wc_for Inv (forE_from f n 0 s0 r hrun) h0 (fun i s E w r' hi hf _ hI=>?_) (fun s E w hr hI=>hend s E w (by injection hr) hI)
 obtain⟨s',h1,rfl⟩:=Option.map_eq_some_iff.1 hf
 refine wc_mono (hround i s E w s' hi h1 hI) fun e a w' q=>?_
 cases e with
 | normal=>obtain⟨hd,E',hf',hI'⟩:=q;exact⟨hd,E',hf',s',rfl,hI'⟩
 | exit id=>exact q
 | goto l=>exact q
 | ret=>exact q
 | panic c=>exact q
 | outgrown=>exact q
end
end Go.Fk
namespace Go.Fk
open Go
set_option linter.unusedSectionVars false
variable [dr:Dr]
section
variable {P:Program}{ops:Array Oper}{Q:Exit→Act→World→Prop}{N:Nat}{E:Env}{w w0:World}{K K0:KMap}{M:List Nat}{L:List Item}{C:World→Prop}
variable {x y z:Operand}{T T' U:TypeId}{size bytes:Nat}{zero:Value}{agg:Bool}
theorem wc_forE' {σ:Type}{f:Nat→σ→Option σ}{n:Nat}{r:σ}{s0:σ}{body:Code}{E':Env}(Inv:Nat→σ→Env→World→Prop)(hrun:forE f n 0 s0=some r)(h0:Inv 0 s0 E' w)(hs:Sub E' E)
  (hround: ∀i s E w s',i<n→f i s=some s'→Inv i s E w→WC P body (Exit.then (InSt N fun E' w'=>Inv (i+1) s' E' w') Q) N E w)
  (hend: ∀s E w,s=r→Inv n s E w→WC P body (Exit.then (fun _ _=>False) Q) N E w):WC P (.loop body) Q N E w:=
 wc_sub hs (wc_forE Inv hrun h0 hround fun s E w h hI=>hend s E w h.symm hI)
theorem wc_for' {σ τ:Type}{f:Nat→σ→Option (σ⊕τ)}{n:Nat}{r:σ⊕τ}{s0:σ}{body:Code}{E':Env}(Inv:Nat→σ→Env→World→Prop)(hrun:forFrom f n 0 s0=some r)(h0:Inv 0 s0 E' w)(hs:Sub E' E)
  (hround: ∀i s E w r',i<n→f i s=some r'→(∀x,r'= .inr x→.inr x=r)→Inv i s E w→WC P body (Exit.then (InSt N fun E' w'=>∃s',r'= .inl s'∧Inv (i+1) s' E' w') Q) N E w)
  (hend: ∀s E w,.inl s=r→Inv n s E w→WC P body (Exit.then (fun _ _=>False) Q) N E w):WC P (.loop body) Q N E w:=
 wc_sub hs (wc_for Inv hrun h0 (fun i s E w r' hi hf hx hI=>hround i s E w r' hi hf (fun x e=>(hx x e).symm) hI) fun s E w h hI=>hend s E w h.symm hI)
theorem wc_while' {σ τ:Type}{f:σ→Option (σ⊕τ)}{m:Nat}{r:τ}{s0:σ}{body:Code}{E':Env}(Inv:σ→Env→World→Prop)(hrun:whileM f m s0=some r)(h0:Inv s0 E' w)(hs:Sub E' E)
  (hround: ∀s E w r',f s=some r'→(∀x,r'= .inr x→x=r)→Inv s E w→WC P body (Exit.then (InSt N fun E' w'=>∃s',r'= .inl s'∧Inv s' E' w') Q) N E w):WC P (.loop body) Q N E w:=
 wc_sub hs (wc_while Inv hrun h0 fun s E w r' hf hx hI=>hround s E w r' hf (fun x e=>(hx x e).symm) hI)
theorem rv_as {v v':Value}(hx:ev E x=some v)(e:v=v'):RV P E w (.assign x) v':=e▸rv_assign hx
theorem cast_rng {a b:Int}(e:a=b)(h:rng64 a):rng64 b:=e▸h
theorem AtK.part {b o:Nat}{cs:List Value}(h:AtK K b o cs)(k n:Nat):AtK K b (o+k) ((cs.drop k).take n):=fun j c e=>by
 rw [List.getElem?_take] at e
 split at e
 ·rw [List.getElem?_drop] at e;rw [Nat.add_assoc];exact h _ c e
 ·cases e
theorem bytes_of (K:KMap): ∀(xs:List UInt8) (b o:Nat),(∀(i:Nat) x,xs[i]? =some x→∃u,tU8.rel K u x∧AtK K b (o+i*tU8.size) u.cells.toList)→AtK K b o (xs.map iv8):=fun xs b o h j c e=>by
 rw [List.getElem?_map] at e
 obtain⟨x,hx,rfl⟩:=Option.map_eq_some_iff.1 e
 obtain⟨u,hu,hk⟩:=h j x hx
 have hu':u=iv8 x:=hu
 subst hu'
 have:=hk 0 (iv8 x) rfl
 simpa [tU8] using this
theorem push_bytes: ∀(xs:List UInt8) (acc:ByteArray),((xs.map fun b=>(b.toNat:Int)).foldl (fun r n=>r.push (UInt8.ofNat n.toNat)) acc)=⟨acc.data++xs.toArray⟩
 | [],acc=>by simp
 | x::xs,acc=>by
  simp only [List.map_cons,List.foldl_cons]
  rw [push_bytes xs]
  simp [ByteArray.push]
theorem rv_b2s {a:Option Addr}{n c:Nat}{xs:List UInt8}(hT:P.underlying T=some (.slice U))(hU:P.underlying U=some (.int .u8))(hT':P.underlying T'=some .string)(hx:ev E x=some (.slice a n c))
  (hs:SliceAt tU8 K a n c xs)(hS:SH w0 K0 M w K L):RV P E w (.convert T T' x) (sv xs):=fun ρ _ _ _ _ _ ha=>by
 have h1:=run_convert_bytes_string (P:=P) w T T' U a n c hT hU hT'
 obtain⟨e1,e2,e3,e4⟩:=hs
 have key:(Conv.bytesToString (.slice a n c)).run P w= .ok (sv xs) w:=by
  cases a with
  | none=>
   have:xs=[]:=by
    by_cases hc:0<c
    ·obtain⟨b,o,h,_⟩:=e4 hc;cases h
    ·exact List.eq_nil_of_length_eq_zero (by omega)
   subst this
   rfl
  | some ad=>
   by_cases hc:0<c
   ·obtain⟨b,o,h,h5⟩:=e4 hc
    injection h with h
    subst h
    have h6:=bytes_of K xs b o h5
    have h7:=run_loadCells_at (P:=P) (cellsAre_K hS h6)
    rw [List.length_map,←e1] at h7
    have h8:=run_bytesToString (P:=P) w ⟨b,o,none⟩ n c (xs.map fun b=>(b.toNat:Int)) (by rw [h7,List.map_map];rfl)
    rw [h8,push_bytes]
    have e9:ByteArray.empty.data++xs.toArray=xs.toArray:=by simp
    rw [e9];rfl
   ·have:xs=[]:=List.eq_nil_of_length_eq_zero (by omega)
    subst this
    have hn:n=0:=by omega
    subst hn
    exact run_bytesToString (P:=P) w ad 0 c [] rfl
 simp only [execOp,ha x _ hx,Sem.run_bind,h1,key,Result.andThen_ok]
 rfl
end
end Go.Fk
namespace Go.Fk
open Go
set_option linter.unusedSectionVars false
variable [dr:Dr]
section
variable {P:Program}{ops:Array Oper}{Q:Exit→Act→World→Prop}{md:Region.Mode}{S:Array Bool→World→Prop}
def wpAnyG (P:Program)(md:Region.Mode)(ops:Array Oper)(Q:Exit→Act→World→Prop)(S:Array Bool→World→Prop):Nat→Array Bool→Act→World→Prop
 | 0,listed,a,w=>Region.ready md ops listed=[]∧Q .normal a w
 | fuel+1,listed,a,w=>
  (Region.ready md ops listed=[]→Q .normal a w)∧
  ∀i∈Region.ready md ops listed,wpOp P ops Q i (fun a' w'=>S (listed.setIfInBounds i true) w'∧wpAnyG P md ops Q S fuel (listed.setIfInBounds i true) a' w') a w
theorem wpAny_of_G: ∀(fuel:Nat) (listed:Array Bool) (a:Act) (w:World),wpAnyG P md ops Q S fuel listed a w→wpAny P md ops Q fuel listed a w
 | 0,_,_,_,h=>h
 | fuel+1,_,_,_,h=>⟨h.1,fun i hi=>wpOp_mono (fun a' w' h'=>wpAny_of_G fuel _ a' w' h'.2) (h.2 i hi)⟩
theorem wpAnyG_first {i:Nat}{oi:Oper}{v:Value}{S0:World→Prop}(hi:ops[i]? =some oi)(hsel: ∀(j:Nat) (o:Oper) cs b,ops[j]? =some o→o.op≠ .select cs b)
  (hQ: ∀c a w,Q (.panic c) (a.put oi.dst v) w→Q (.panic c) a w)(hS0: ∀listed w,listed.getD i true=false→S listed w→S0 w)(hSet: ∀listed w,i∈Region.ready md ops listed→S listed w→S (listed.setIfInBounds i true) w)
  (hback: ∀(l:Array Bool) j w w',i∈Region.ready md ops l→j∈Region.ready md ops l→i≠j→S l w→S ((l.setIfInBounds i true).setIfInBounds j true) w'→S (l.setIfInBounds j true) w'):
  ∀(fuel:Nat) (listed:Array Bool) (a:Act) (w:World),
   (∀j oj,ops[j]? =some oj→j≠i→listed.getD j true=false→(∀e∈oj.after,Region.binds md e=true→e.on≠i)→oi.apart ops oj=true)→
   i∈Region.ready md ops listed→YieldsIf P ops S0 oi v a→S listed w→
   wpAnyG P md ops Q S fuel (listed.setIfInBounds i true) (a.put oi.dst v) w→wpAnyG P md ops Q S (fuel+1) listed a w:=by
 intro fuel
 induction fuel with
 | zero=>
  intro listed a w _ hr hy hS H
  refine⟨fun h=>(by rw [h] at hr;cases hr),fun j hj=>?_⟩
  have hun:=(mem_ready.1 hr).1
  by_cases hji:j=i
  ·subst hji;exact hy.wpOp hi (hS0 _ _ hun hS) ⟨hSet _ _ hr hS,H⟩
  ·have:=ready_mono hj hji
   rw [H.1] at this
   cases this
 | succ fuel ih=>
  intro listed a w hfree hr hy hS H
  have hun0:=(mem_ready.1 hr).1
  refine⟨fun h=>(by rw [h] at hr;cases hr),fun j hj=>?_⟩
  by_cases hji:j=i
  ·subst hji;exact hy.wpOp hi (hS0 _ _ hun0 hS) ⟨hSet _ _ hr hS,H⟩
  ·have h1:=H.2 j (ready_mono hj hji)
   obtain⟨hjun,oj,hoj,hall⟩:=mem_ready.1 hj
   have hnot: ∀e∈oj.after,Region.binds md e=true→e.on≠i:=fun e he hb heq=>by
    have h1:=hall e he hb
    have h0:=(mem_ready.1 hr).1
    rw [heq] at h1
    rcases Nat.lt_or_ge i listed.size with h' | h'
    ·simp [h'] at h0 h1;rw [h0] at h1;cases h1
    ·simp [Array.getElem?_eq_none h'] at h1
   have h2:=wpOp_putIf hoj (hfree j oj hoj hji hjun hnot) (fun cs b=>hsel i oi cs b hi) (fun cs b=>hsel j oj cs b hoj) hQ hy h1
   have hfree': ∀k ok,ops[k]? =some ok→k≠i→(listed.setIfInBounds j true).getD k true=false→
     (∀e∈ok.after,Region.binds md e=true→e.on≠i)→oi.apart ops ok=true:=fun k ok hk hki hun hno=>by
    refine hfree k ok hk hki ?_ hno
    by_cases hjk:j=k
    ·subst hjk;exact hjun
    ·rw [getD_set_ne true hjk] at hun;exact hun
   have hr':=ready_mono hr (Ne.symm hji)
   refine wpOp_mono (fun a' w' h3=>?_) h2
   have hSj:S (listed.setIfInBounds j true) w':=hback listed j w w' hr hj (Ne.symm hji) hS h3.2.1
   refine⟨hSj,ih (listed.setIfInBounds j true) a' w' hfree' hr' h3.1 hSj ?_⟩
   rw [Array.setIfInBounds_comm _ _ hji];exact h3.2.2
def SG (H F:World→Prop)(st:Nat)(I:List (Nat×Nat))(l:Array Bool)(w:World):Prop:=
 H w∧(l.getD st true=false→F w)∧∀p∈I,l.getD p.1 true=false→l.getD p.2 true=false
def waits (md:Region.Mode)(ops:Array Oper)(I:List (Nat×Nat)):Bool:=
 I.all fun p=>match ops[p.2]? with | some o=>o.after.any fun e=>Region.binds md e&&e.on==p.1 | none=>false
def reach (I:List (Nat×Nat))(st:Nat):Nat→Nat→Bool
 | 0,i=>i==st
 | n+1,i=>i==st||I.any fun p=>p.1==i&&reach I st n p.2
theorem reach_spec {I:List (Nat×Nat)}{st:Nat}{l:Array Bool}(h: ∀p∈I,l.getD p.1 true=false→l.getD p.2 true=false): ∀n i,reach I st n i=true→l.getD i true=false→l.getD st true=false
 | 0,i,e,hl=>by
  simp only [reach,beq_iff_eq] at e
  rw [←e];exact hl
 | n+1,i,e,hl=>by
  simp only [reach,Bool.or_eq_true,beq_iff_eq,List.any_eq_true,Bool.and_eq_true] at e
  rcases e with e | ⟨p,hp,e1,e2⟩
  ·rw [←e];exact hl
  ·exact reach_spec h n p.2 e2 (h p hp (by rw [e1];exact hl))
theorem waits_listed {md:Region.Mode}{I:List (Nat×Nat)}{p:Nat×Nat}{l:Array Bool}(hw:waits md ops I=true)(hp:p∈I)(hj:p.2∈Region.ready md ops l):l.getD p.1 true=true:=by
 obtain⟨_,oj,hoj,hall⟩:=mem_ready.1 hj
 have h2:=(List.all_eq_true.1 hw) p hp
 rw [hoj] at h2
 simp only [Array.any_eq_true'] at h2
 obtain⟨e,he,h3⟩:=h2
 simp only [Bool.and_eq_true,beq_iff_eq] at h3
 have h4:=hall e he h3.1
 rw [h3.2] at h4
 rcases Nat.lt_or_ge p.1 l.size with h' | h'
 ·simp [h'] at h4 ⊢;exact h4
 ·simp [Array.getElem?_eq_none h'] at h4
theorem wpAnyG_take {H F:World→Prop}{st:Nat}{I:List (Nat×Nat)}{i:Nat}{oi:Oper}{v:Value}{S0:World→Prop}(hi:ops[i]? =some oi)(hsel:Region.noSelect ops=true)
  (hQ: ∀c a w,Q (.panic c) (a.put oi.dst v) w→Q (.panic c) a w)(hw:waits md ops I=true)(hist:Nat.beq i st=false)
  (hS0:(∀w,H w→S0 w)∨(reach I st I.length i=true∧∀w,H w→F w→S0 w))
  (fuel:Nat)(listed:Array Bool)(a:Act)(w:World)(hf:Region.free md ops listed i=true)(hr:(Region.ready md ops listed).contains i=true)(hy:YieldsIf P ops S0 oi v a)(hS:SG H F st I listed w)
  (h:wpAnyG P md ops Q (SG H F st I) fuel (listed.setIfInBounds i true) (a.put oi.dst v) w):wpAnyG P md ops Q (SG H F st I) (fuel+1) listed a w:=by
 have hne:i≠st:=by intro e;subst e;simp at hist
 refine wpAnyG_first (S0:=S0) hi (Region.noSelect_spec hsel) hQ (fun l w hl hs=>?_) (fun l w hl hs=>?_) (fun l j w w' hl hj hij hs hs'=>?_) fuel listed a w (Region.free_spec hi hf) (by simpa using hr) hy hS h
 ·rcases hS0 with h0 | ⟨h1,h2⟩
  ·exact h0 w hs.1
  ·exact h2 w hs.1 (hs.2.1 (reach_spec hs.2.2 _ _ h1 hl))
 ·refine⟨hs.1,fun h1=>hs.2.1 (by rwa [getD_set_ne true hne] at h1),fun p hp h1=>?_⟩
  by_cases hik:i=p.1
  ·rw [←hik] at h1
   exfalso
   rcases Nat.lt_or_ge i l.size with h' | h'
   ·simp [h'] at h1
   ·simp at h1
  ·rw [getD_set_ne true hik] at h1
   by_cases hi2:i=p.2
   ·have:=waits_listed (p:=p) hw hp (hi2▸hl)
    rw [this] at h1;cases h1
   ·rw [getD_set_ne true hi2];exact hs.2.2 p hp h1
 ·have hun:=(mem_ready.1 hl).1
  have hset: ∀k,i≠k→((l.setIfInBounds i true).setIfInBounds j true).getD k true=(l.setIfInBounds j true).getD k true:=fun k hik=>by
   by_cases hjk:j=k
   ·subst hjk
    rcases Nat.lt_or_ge j l.size with h' | h'
    ·simp [h']
    ·simp [h']
   ·rw [getD_set_ne true hjk,getD_set_ne true hjk,getD_set_ne true hik]
  refine⟨hs'.1,fun h1=>hs'.2.1 (by rw [hset st hne];exact h1),fun p hp h1=>?_⟩
  by_cases hik:i=p.1
  ·have h2:=hs.2.2 p hp (hik▸hun)
   by_cases hjs:j=p.2
   ·have:=waits_listed (p:=p) hw hp (hjs▸hj)
    rw [←hik,hun] at this;cases this
   ·rw [getD_set_ne true hjs];exact h2
  ·have h2:=hs'.2.2 p hp (by rw [hset p.1 hik];exact h1)
   by_cases hi2:i=p.2
   ·rw [←hi2,getD_set_ne true (Ne.symm hij),hi2] at h2
    exfalso
    rcases Nat.lt_or_ge p.2 l.size with h' | h'
    ·simp [h'] at h2
    ·simp at h2
   ·rw [←hset p.2 hi2];exact h2
end
section
variable {P:Program}{ops:Array Oper}{Q:Exit→Act→World→Prop}{N:Nat}{E:Env}{w w0:World}{K K0:KMap}{M:List Nat}{L:List Item}{H F:World→Prop}{st:Nat}{I:List (Nat×Nat)}
def WG (P:Program)(ops:Array Oper)(Q:Exit→Act→World→Prop)(H F:World→Prop)(st:Nat)(I:List (Nat×Nat))(N n:Nat)(listed:Array Bool)(E:Env)(w:World):Prop:=
 ∀t,Fr N E t→wpAnyG P .any ops Q (SG H F st I) n listed ⟨t,[]⟩ w
theorem wc_held {id:Nat}{l:List Oper}(H F:World→Prop)(st:Nat)(I:List (Nat×Nat))(hm:P.follows .mixedOrders=true)
  (h:WG P l.toArray Q H F st I N l.length (Array.replicate l.length false) E w.drew):WC P (.region id l.toArray true) Q N E w:=fun t ht=>by
 refine wp_region_any hm (wpAny_of_G (S:=SG H F st I) _ _ _ _ ?_)
 have:=h t ht
 rw [List.size_toArray]
 exact this
def PanicOk (Q:Exit→Act→World→Prop):Prop:=∀c a a' w,a.defers=a'.defers→Q (.panic c) a w→Q (.panic c) a' w
theorem pk_body {fn:Func}{R:Ending→World→Prop}:PanicOk (bodyPost P fn R):=fun _ _ _ _ e h=>⟨e▸h.1,h.2⟩
theorem pk_then {k:Act→World→Prop}(h:PanicOk Q):PanicOk (Exit.then k Q):=h
theorem pk_block {b:Nat}(h:PanicOk Q):PanicOk (Exit.inBlock b Q):=h
class PkI (Q:Exit→Act→World→Prop):Prop where
 h:PanicOk Q
instance {fn:Func}{R:Ending→World→Prop}:PkI (bodyPost P fn R):=⟨pk_body⟩
instance {k:Act→World→Prop}[i:PkI Q]:PkI (Exit.then k Q):=⟨pk_then i.h⟩
instance {b:Nat}[i:PkI Q]:PkI (Exit.inBlock b Q):=⟨pk_block i.h⟩
theorem put_defers' (a:Act)(d:Option Tmp)(v:Value):(a.put d v).defers=a.defers:=by cases d<;>rfl
theorem wg_val {n i:Nat}{d:Tmp}{op:Op}{ty:TypeId}{pos:String}{af:Array Edge}{gd:Option (Nat×Bool)}{listed listed':Array Bool}{v:Value}(S0:World→Prop)
  (hi:ops[i]? =some ⟨some d,op,ty,pos,af,gd⟩)(hsel:Region.noSelect ops=true)(hQ:PanicOk Q)(hw:waits .any ops I=true)(hist:Nat.beq i st=false)
  (hf:Region.free .any ops listed i=true)(hr:(Region.ready .any ops listed).contains i=true)(hl:listed.setIfInBounds i true=listed')
  (hS0:(∀w,H w→S0 w)∨(reach I st I.length i=true∧∀w,H w→F w→S0 w))(hS:SG H F st I listed w)
  (hwt:Wanted ops N E gd)(hd:Nat.blt d N=true)(hrv: ∀w',S0 w'→RV P E w' op v)(h:WG P ops Q H F st I N n listed' ((d,v)::E) w):WG P ops Q H F st I N (n+1) listed E w:=fun t ht=>by
 subst hl
 exact wpAnyG_take (S0:=S0) hi hsel (fun c a w h=>hQ c _ _ w (put_defers' _ _ _) h) hw hist hS0 n listed ⟨t,[]⟩ w hf hr (.inl ⟨hwt t _ _ _ _ _ ht,fun w' hw'=>hrv w' hw' _ _ _ _ _ _ ht.agree⟩) hS (h _ (ht.put hd v))
theorem upon_then {o:Oper}{a:Act}{next:Act→World→Prop}{k:Act→World→Prop}{r:Result Next}(h:o.upon P a next (Exit.then k Q) r):o.upon P a next Q r:=by
 cases r with
 | ok n w'=>cases n<;>exact h
 | halt x w'=>cases x<;>exact h
theorem wg_one {n i:Nat}{o:Oper}{listed:Array Bool}(hr:Region.ready .any ops listed=[i])(hi:ops[i]? =some o)
  (h:WL P ops (Exit.then (fun a' w'=>SG H F st I (listed.setIfInBounds i true) w'∧wpAnyG P .any ops Q (SG H F st I) n (listed.setIfInBounds i true) a' w') Q) N [o] E w):WG P ops Q H F st I N (n+1) listed E w:=fun t ht=>by
 refine⟨fun e=>(by rw [hr] at e;cases e),fun j hj=>?_⟩
 rw [hr] at hj
 simp only [List.mem_singleton] at hj
 subst hj
 have h1:=h t ht
 unfold wpOp
 simp only [hi]
 unfold wpList at h1
 split at h1
 ·rename_i hw
  rw [if_pos hw]
  rcases h1 with h1 | h1
  ·exact .inl (upon_then h1)
  ·exact .inr h1
 ·rename_i hw
  rw [if_neg hw]
  exact h1
def Each (p:Nat→Prop):List Nat→Prop
 | []=>True
 | i::r=>p i∧Each p r
theorem Each.mem {p:Nat→Prop}: ∀{l:List Nat},Each p l→∀i∈l,p i
 | [],_,_,hi=>by cases hi
 | _::_,h,i,hi=>by
  rcases List.mem_cons.1 hi with rfl | hi
  ·exact h.1
  ·exact Each.mem h.2 i hi
theorem wg_many {n:Nat}{l:List Nat}{listed:Array Bool}(hr:Region.ready .any ops listed=l)(hne:l.isEmpty=false)
  (h:Each (fun i=>∃o,ops[i]? =some o∧WL P ops (Exit.then (fun a' w'=>SG H F st I (listed.setIfInBounds i true) w'∧wpAnyG P .any ops Q (SG H F st I) n (listed.setIfInBounds i true) a' w') Q) N [o] E w) l):WG P ops Q H F st I N (n+1) listed E w:=fun t ht=>by
 refine⟨fun e=>(by rw [hr] at e;subst e;cases hne),fun j hj=>?_⟩
 rw [hr] at hj
 obtain⟨o,hi,h0⟩:=h.mem j hj
 have h1:=h0 t ht
 unfold wpOp
 simp only [hi]
 unfold wpList at h1
 split at h1
 ·rename_i hw
  rw [if_pos hw]
  rcases h1 with h1 | h1
  ·exact .inl (upon_then h1)
  ·exact .inr h1
 ·rename_i hw
  rw [if_neg hw]
  exact h1
theorem wg_done {listed:Array Bool}(hr:Region.ready .any ops listed=[])(h:QE Q .normal N E w):WG P ops Q H F st I N 0 listed E w:=fun t ht=>⟨hr,h t ht⟩
def HasObj (g:Nat)(cs:List Value)(w:World):Prop:=∀o,w.cell? ⟨g,o,none⟩=cs[o]?
theorem SH.hasObj {g:Nat}{cs:List Value}{T:TypeId}{fr:Nat×Nat}(h:SH w0 K0 M w K L)(hm:obj g cs T fr∈L):HasObj g cs w:=fun o=>h.mem_obj hm o
theorem SH.hasK {K1:KMap}(h:SH w0 K0 M w K L)(hl:KLe K1 K):Holds K1 w:=fun b o v e=>h.holds b o v (hl b o v e)
variable {x:Operand}{T:TypeId}{size bytes:Nat}{zero:Value}
theorem rh_load1 {b o:Nat}{v:Value}(hT:TF P T size false zero bytes)(hx:ev E x=some (.pointer (some ⟨b,o,none⟩)))(hk:K b o=some v)(hH:Holds K w):RV P E w (.load T x) v:=
 rv_load hT hx (cs:=[v]) (fun j c e=>by
  cases j with
  | zero=>simp at e;subst e;exact hH _ _ _ hk
  | succ j=>simp at e) (.inr ⟨rfl,rfl⟩)
theorem rh_loadS {b o:Nat}{cs:List Value}(hT:TF P T size true zero bytes)(hx:ev E x=some (.pointer (some ⟨b,o,none⟩)))(hk:AtK K b o cs)(hl:cs.length=size)(hH:Holds K w):RV P E w (.load T x) (.agg cs.toArray):=
 rv_load hT hx (fun j c e=>hH _ _ _ (hk j c e)) (.inl ⟨rfl,hl,rfl⟩)
theorem rh_loadm1 {g o:Nat}{cs:List Value}{v:Value}(hT:TF P T size false zero bytes)(hx:ev E x=some (.pointer (some ⟨g,o,none⟩)))(hv:cs[o]? =some v)(hH:HasObj g cs w):RV P E w (.load T x) v:=
 rv_load hT hx (cs:=[v]) (fun j c e=>by
  cases j with
  | zero=>simp at e;subst e;rw [Nat.add_zero,hH];exact hv
  | succ j=>simp at e) (.inr ⟨rfl,rfl⟩)
theorem rh_loadmS {g o:Nat}{cs ds:List Value}(hT:TF P T size true zero bytes)(hx:ev E x=some (.pointer (some ⟨g,o,none⟩)))(hv:(cs.drop o).take size=ds)(hl:ds.length=size)(hH:HasObj g cs w):RV P E w (.load T x) (.agg ds.toArray):=
 rv_load hT hx (fun j c e=>by
  rw [hH]
  subst hv
  rw [List.getElem?_take] at e
  split at e
  ·rw [List.getElem?_drop] at e;exact e
  ·cases e) (.inl ⟨rfl,hl,rfl⟩)
end
end Go.Fk
namespace Go.Fk
open Go
set_option linter.unusedSectionVars false
variable [dr:Dr]
section
variable {P:Program}{ops:Array Oper}{Q:Exit→Act→World→Prop}{N:Nat}{E:Env}{w w0:World}{K K0:KMap}{M:List Nat}{L:List Item}{C:World→Prop}
variable {x y z:Operand}{T T' U:TypeId}{size bytes:Nat}{zero:Value}{agg:Bool}{rest:List Oper}{d:Tmp}{ty:TypeId}{pos:String}{af:Array Edge}{gd:Option (Nat×Bool)}{fr:Nat×Nat}
def RowAt {α:Type}(ex:Bool)(t:Ty α)(K:KMap)(cs:List Value)(xs:List α):Prop:=
 (xs.length*t.size≤cs.length∧(ex=true→cs.length=xs.length*t.size))∧(∀c∈cs,c.oneCell'=true)∧∀(i:Nat) x,xs[i]? =some x→∃u,t.rel K u x∧∀j d,u.cells.toList[j]? =some d→cs[i*t.size+j]? =some d
theorem RowAt.mono {ex:Bool}{α:Type}{t:Ty α}{K':KMap}(h:KLe K K'){cs:List Value}{xs:List α}(p:RowAt ex t K cs xs):RowAt ex t K' cs xs:=
 ⟨p.1,p.2.1,fun i x hx=>let ⟨u,hu,hk⟩:=p.2.2 i x hx;⟨u,t.mono h hu,hk⟩⟩
theorem RowAt.set {ex:Bool}{α:Type}{t:Ty α}{cs:List Value}{xs:List α}{i:Nat}{u:Value}{e:α}(p:RowAt ex t K cs xs)(hi:i<xs.length)(hu:t.rel K u e):
  RowAt ex t K (splice cs (i*t.size) u.cells.toList) (xs.set i e):=by
 obtain⟨⟨h1,h1x⟩,h2,h3⟩:=p
 have hl:u.cells.toList.length=t.size:=by simpa using t.size_eq hu
 have hle:(i+1)*t.size≤xs.length*t.size:=Nat.mul_le_mul_right _ hi
 rw [Nat.add_mul,Nat.one_mul] at hle
 have htk:(cs.take (i*t.size)).length=i*t.size:=by rw [List.length_take];omega
 have hsl:(splice cs (i*t.size) u.cells.toList).length=cs.length:=by simp only [splice,List.length_append,List.length_drop,htk,hl];omega
 refine⟨⟨by rw [hsl,List.length_set];exact h1,fun e=>by rw [hsl,List.length_set];exact h1x e⟩,fun c hc=>?_,fun k z hz=>?_⟩
 ·simp only [splice,List.mem_append] at hc
  rcases hc with (hc | hc) | hc
  ·exact h2 c (List.mem_of_mem_take hc)
  ·exact t.ones hu c hc
  ·exact h2 c (List.mem_of_mem_drop hc)
 ·rw [List.getElem?_set] at hz
  split at hz
  ·rename_i hik
   subst hik
   cases hz
   refine⟨u,hu,fun j d e=>?_⟩
   have hj:=(List.getElem?_eq_some_iff.1 e).1
   simp only [splice,List.append_assoc]
   rw [List.getElem?_append_right (by rw [htk];omega),htk,List.getElem?_append_left (by omega)]
   rw [←e];congr 1;omega
  ·rename_i hik
   obtain⟨u',hu',hk⟩:=h3 k z hz
   refine⟨u',hu',fun j d e=>?_⟩
   have hj:=(List.getElem?_eq_some_iff.1 e).1
   have hl':u'.cells.toList.length=t.size:=by simpa using t.size_eq hu'
   have h5:=hk j d e
   simp only [splice,List.append_assoc]
   rcases Nat.lt_or_ge k i with hlt | hge
   ·have:(k+1)*t.size≤i*t.size:=Nat.mul_le_mul_right _ hlt
    rw [Nat.add_mul,Nat.one_mul] at this
    rw [List.getElem?_append_left (by rw [htk];omega),List.getElem?_take,if_pos (by omega)];exact h5
   ·have:(i+1)*t.size≤k*t.size:=Nat.mul_le_mul_right _ (by omega)
    rw [Nat.add_mul,Nat.one_mul] at this
    rw [List.getElem?_append_right (by rw [htk];omega),htk,List.getElem?_append_right (by omega),hl,List.getElem?_drop,←h5]
    congr 1;omega
def makeL {α:Type}(bytes:Nat)(n:Int)(e:α):Option (List α):=if 0≤n∧n*bytes≤140737488355328 then some (List.replicate n.toNat e) else none
theorem wl_make {α:Type}{t:Ty α}{n:Int}{e:α}{xs:List α}(hw:Wanted ops N E gd)(hd:Nat.blt d N=true)(hT:P.underlying T=some (.slice U))(hU:TF P U t.size agg zero bytes)(hb:Nat.blt 0 bytes=true)
  (hx:ev E x=some (.int .i64 n))(hy:ev E y=some (.int .i64 n))(hn:makeL bytes n e=some xs)(hz:t.rel K zero e)(hS:SH w0 K0 M w K L)
  (h: ∀g cs w',xs.length≤maxLen→RowAt true t K cs xs→SH w0 K0 M w' K (obj g cs U::L)→WL P ops Q N rest ((d,.slice (some ⟨g,0,none⟩) xs.length xs.length)::E) w'):
  WL P ops Q N (⟨some d,.makeSlice T x y,ty,pos,af,gd⟩::rest) E w:=by
 unfold makeL at hn
 split at hn
 case isFalse=>cases hn
 rename_i hbd
 cases hn
 obtain⟨i0,hi,hiz,his,hib⟩:=hU.info_
 have hb':0<bytes:=by simpa [Nat.blt_eq] using hb
 have hmul:n.toNat*bytes≤140737488355328:=by
  have:((n.toNat*bytes:Nat):Int)=n*bytes:=by rw [Int.natCast_mul];congr 1;omega
  omega
 have hle:n.toNat≤140737488355328:=Nat.le_trans (Nat.le_mul_of_pos_right _ hb') hmul
 have hr:=run_make (P:=P) w T U i0 zero hT hi hiz .i64 .i64 n n hbd.1 (Int.le_refl _) (by rw [hib,Int.mul_comm];omega) (by omega)
 have hzs:zero.cells.size=t.size:=t.size_eq hz
 have hlen:(madeCells zero.cells (n.toNat*i0.size)).toList.length=n.toNat*t.size:=by rw [Array.length_toList,size_madeCells,his]
 refine wl_eff (v:=.slice (some ⟨w.heap.size,0,none⟩) n.toNat n.toNat) (w':=w.alloc (.cells (madeCells zero.cells (n.toNat*i0.size)) U)) hw hd (fun ρ _ _ _ _ _ ha=>?_) ?_
 ·simp only [execOp,ha x _ hx,ha y _ hy,Sem.run_bind,hr,Result.andThen_ok]
  rfl
 ·have hS':=hS.newObj (madeCells zero.cells (n.toNat*i0.size)).toList U
  have hrow:RowAt true t K (madeCells zero.cells (n.toNat*i0.size)).toList (List.replicate n.toNat e):=by
   have hat: ∀k,k<n.toNat*t.size→(madeCells zero.cells (n.toNat*i0.size)).toList[k]? =some (zero.cells[k%zero.cells.size]!):=fun k hk=>by
    have hk':k<n.toNat*i0.size:=by rw [his];exact hk
    simp [madeCells,hk']
   refine⟨⟨by rw [hlen,List.length_replicate];exact Nat.le_refl _,fun _=>by rw [hlen,List.length_replicate]⟩,fun c hc=>?_,fun k z hz'=>⟨zero,?_,fun j dd e'=>?_⟩⟩
   ·obtain⟨k,hk,e'⟩:=List.getElem_of_mem hc
    have h1:=hat k (by rw [←hlen];exact hk)
    rw [List.getElem?_eq_getElem hk,e'] at h1
    injection h1 with h1
    subst h1
    by_cases hz0:0<zero.cells.size
    ·have hm:k%zero.cells.size<zero.cells.size:=Nat.mod_lt _ hz0
     refine t.ones hz _ ?_
     rw [getElem!_pos zero.cells _ hm]
     exact Array.getElem_mem_toList hm
    ·exfalso
     have h0:t.size=0:=by omega
     rw [hlen,h0] at hk
     omega
   ·have:=(List.getElem?_eq_some_iff.1 hz').2
    simp at this
    subst this;exact hz
   ·have hk:=(List.getElem?_eq_some_iff.1 hz').1
    rw [List.length_replicate] at hk
    have hj:=(List.getElem?_eq_some_iff.1 e').1
    rw [Array.length_toList,hzs] at hj
    have hle2:(k+1)*t.size≤n.toNat*t.size:=Nat.mul_le_mul_right _ hk
    rw [Nat.add_mul,Nat.one_mul] at hle2
    rw [hat _ (by omega),hzs,Nat.add_comm,Nat.add_mul_mod_self_right,Nat.mod_eq_of_lt hj,←e',getElem!_pos zero.cells j (by omega)]
    rw [Array.getElem?_toList,Array.getElem?_eq_getElem (by omega)]
  have:=h w.heap.size _ _ (by rw [List.length_replicate];exact Nat.le_trans hle (by decide)) hrow (by simpa using hS')
  simpa using this
theorem row_max {m n:Nat}(h:m=n)(hm:m≤maxLen):n≤maxLen:=h▸hm
theorem rv_indexRow {α:Type}{t:Ty α}{g m c:Nat}{xs:List α}{k:IntKind}{i:Int}{e:α}(hT:P.underlying T=some (.slice U))(hU:TF P U t.size agg zero bytes)
  (hx:ev E x=some (.slice (some ⟨g,0,none⟩) m c))(hy:ev E y=some (.int k i))(hm:m=xs.length)(hz:getI xs i=some e):RV P E w (.indexAddr T x y) (.pointer (some ⟨g,i.toNat*t.size,none⟩)):=fun ρ _ _ _ _ _ ha=>by
 obtain⟨g0,g1,g2⟩:=getI_some hz
 subst hm
 have hlt:i<(xs.length:Int):=by omega
 simp [execOp,ha x _ hx,ha y _ hy,Instr.indexAt,asIntOf,run_underlying hT,g0,hlt,run_sizeOf hU,add_at]
theorem rv_lenRow {α:Type}{xs:List α}{a:Option Addr}{m c:Nat}(hT:P.underlying T=some (.slice U))(hx:ev E x=some (.slice a m c))(hm:m=xs.length):
  RV P E w (.call {callee:=.builtin .len,args:=#[x],argTypes:=#[T]}) (.int .i64 xs.length):=fun ρ _ _ _ _ _ ha=>by
 subst hm
 simp [execOp,resolve,invoke,builtin,ha x _ hx,Builtin.len_,run_underlying hT,goInt]
theorem wl_storeRow {ex:Bool}{α:Type}{t:Ty α}{g:Nat}{i:Int}{cs:List Value}{xs:List α}{v:Value}{e e':α}(hw:Wanted ops N E gd)(hT:TF P T t.size agg zero bytes)(hx:ev E x=some (.pointer (some ⟨g,i.toNat*t.size,none⟩)))(hy:ev E y=some v)(hv:t.rel K v e)
  (hS:SH w0 K0 M w K (obj g cs U fr::L))(hr:RowAt ex t K cs xs)(hz:getI xs i=some e')
  (h: ∀cs' w',RowAt ex t K cs' (xs.set i.toNat e)→SH w0 K0 M w' K (obj g cs' U fr::L)→WL P ops Q N rest E w'):WL P ops Q N (⟨none,.store T x y,ty,pos,af,gd⟩::rest) E w:=by
 obtain⟨g0,g1,g2⟩:=getI_some hz
 have hi:=(List.getElem?_eq_some_iff.1 g2).1
 have hle:(i.toNat+1)*t.size≤xs.length*t.size:=Nat.mul_le_mul_right _ hi
 rw [Nat.add_mul,Nat.one_mul] at hle
 have hl:=hr.1.1
 obtain⟨h1,h2⟩:=rt_store hT hx hy (t.size_eq hv) (t.ones hv) hS (by simp;omega)
 exact wl_do hw h1 (h _ _ (hr.set hi hv) h2)
theorem SH.freeze {α:Type}{t:Ty α}{g:Nat}{cs:List Value}{xs:List α}(h:SH w0 K0 M w K (obj g cs U::L))(hr:RowAt true t K cs xs)(hm:xs.length≤maxLen):
  ∃K',KLe K K'∧SliceAt t K' (some ⟨g,0,none⟩) xs.length xs.length xs∧SH w0 K0 M w K' (tail (.slice (some ⟨g,0,none⟩) xs.length xs.length) U t.size::L):=by
 obtain⟨e,_⟩:=h.obj_at
 have hnone:=((h.items _ (List.mem_cons_self ..)).2 g rfl).2
 have hlt:=h.own
 have hle:KLe K (K.put g (fun o=>cs[o]?)):=fun b o v e'=>by
  by_cases hb:b=g
  ·rw [hb,hnone] at e';cases e'
  ·rw [K.put_other _ hb];exact e'
 refine⟨_,hle,SliceAt.of_cells rfl (Nat.le_refl _) hm (fun i z hz=>?_),?_⟩
 ·obtain⟨u,hu,hk⟩:=hr.2.2 i z hz
  exact⟨u,t.mono hle hu,fun j d e=>by rw [K.put_same];exact hk j d e⟩
 ·refine h.drop.step (w':=w) rfl rfl rfl (Nat.le_refl _) (by omega) (fun b _ _=>rfl) hlt.1 hlt.2 h.apart (fun b hb=>K.put_other _ hb) (fun o v e=>hle g o v e)
   (fun o v e=>?_) rfl ⟨.inr ⟨g,_,_,rfl,Nat.le_refl _,hm⟩,g,_,_,_,rfl,e,by simpa using hr.1.2 rfl,fun i hi=>?_⟩
  ·rw [K.put_same] at e;rw [h.obj_cell];exact e
  ·rw [K.put_same,List.getElem?_eq_none];rw [hr.1.2 rfl];exact hi
theorem RowAt.at {ex:Bool}{α:Type}{t:Ty α}{cs:List Value}{xs:List α}{i:Int}{e:α}(hr:RowAt ex t K cs xs)(hz:getI xs i=some e): ∃u,t.rel K u e∧∀j d,u.cells.toList[j]? =some d→cs[i.toNat*t.size+j]? =some d:=
 hr.2.2 _ _ (getI_some hz).2.2
section
variable {a b:UInt32}
end
section
variable {H F:World→Prop}{st:Nat}{I:List (Nat×Nat)}
end
end
def ltO {β:Type}(c:β→β→Option Int)(x y:β):Bool:=decide ((c x y).getD 0<0)
def sortOk {β:Type}(c:β→β→Option Int)(xs:List β):Bool:=
 decide (xs.length<4611686018427387904)&&(xs.all fun x=>xs.all fun y=>(c x y).isSome)&&(xs.all fun x=> !ltO c x x)&&
  (xs.all fun x=>xs.all fun y=>xs.all fun z=> !(ltO c x y&&ltO c y z)||ltO c x z)&&(xs.all fun x=>xs.all fun y=>xs.all fun z=>(ltO c x y||ltO c y z)|| !ltO c x z)&&
  decide (xs.Pairwise fun a b=>ltO c a b=true∨ltO c b a=true)
def sortO {β:Type}(c:β→β→Option Int)(xs:List β):Option (List β):=if sortOk c xs=true then some (xs.mergeSort fun x y=> !ltO c y x) else none
end Go.Fk
namespace Go.Fk
open Go Go.ChangeShapes Go.WideShapes Go.ChangeAt Go.RowKit
set_option linter.unusedSectionVars false
variable [dr:Dr]
def allK (W:World):KMap:=fun b o=>W.cell? ⟨b,o,none⟩
theorem start_all (W:World):SH W (allK W) [] W (allK W) []:=SH.start (fun _ _ _ e=>e)
section
variable {H:Type}{enc:TypeId×Value→H}{P:Program}{W W':World}
theorem post_of_below {f:Func}{s:ChangeSpec}{apart fresh handsOn again:Bool}{args:Array Value}{v:Value}{ds gs:List (DataW H)}{before pa pv:List MemPlace}
  (hW:DataW.Whole enc P f.params.toList s.vars apart W args.toList ds gs before)
  (hres: ∀(b:Nat) (sp:Nat→Bool) (hd:Bool),DataW.TrodAll enc P W' b sp hd f.resultTypes.toList (v.resultList f.resultTypes.size) (s.fn H (ds++gs)).results [])
  (hargs: ∀sp:Nat→Bool,(∀p∈before,sp p.block=true)→DataW.TrodAll enc P W' 0 sp true f.params.toList args.toList (s.fn H (ds++gs)).args pa)
  (hvars: ∀sp:Nat→Bool,(∀p∈before,sp p.block=true)→DataW.TrodVars enc P W' sp s.vars (s.fn H (ds++gs)).vars pv)
  (hps:before=pa++pv)(hB:Below W.heap.size W W')
  (hok: ∀(j:Nat) (t:TypeId) (r:Value),f.resultTypes[j]? =some t→(v.resultList f.resultTypes.size)[j]? =some r→Value.okWide P W' .any 0 t r):
  s.post enc P f apart fresh handsOn again W args v W':=by
 have hlt: ∀p∈before,p.block<W.heap.size:=hW.lt
 have hin: ∀p∈before,(fun b=>decide (b<W.heap.size)) p.block=true:=fun p hp=>by simpa using hlt p hp
 refine⟨ds,gs,before,[],pa,pv,hW,hres _ _ _,hargs _ hin,hvars _ hin,hB.frame _,fun _=>?_⟩
 obtain⟨_,_,_,_,_,hz,hn⟩:=hW
 refine⟨hok,_,_,([]++pa)++pv,⟨[]++pa,pv,trodAll_append (hargs _ (fun _ _=>rfl)) (hres _ _ _),hvars _ (fun _ _=>rfl),rfl,?_,?_⟩,?_⟩
 ·intro b off hp
  have hp':MemPlace.cell b off∈before:=by rw [hps];simpa using hp
  have:=hB.frozen (p:=⟨b,off,none⟩) (hlt _ hp')
  rw [this]
  exact hz b off hp'
 ·intro ha
  have:=hn ha
  rw [hps] at this
  simpa using this
 ·intro p hp _
  rw [hps]
  simpa using hp
end
end Go.Fk
