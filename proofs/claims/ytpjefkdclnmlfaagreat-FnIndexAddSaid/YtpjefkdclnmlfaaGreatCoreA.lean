/-
  A small library over the kit, of no program: plain data and how they lie in memory (a ghost map K of cells that no longer turn), and frames as lists of slots.
-/
import Derived.WalkKit
import Derived.Deep.Draws
namespace Go.Fk
open Go
theorem u {α:Sort _}{a:α}:a=a:=rfl
abbrev KMap:=Nat→Nat→Option Value
def KLe (K K':KMap):Prop:=∀b o v,K b o=some v→K' b o=some v
theorem KLe.refl (K:KMap):KLe K K:=fun _ _ _ h=>h
theorem KLe.trans {K K' K'':KMap}(h:KLe K K')(h':KLe K' K''):KLe K K'':=fun b o v e=>h' b o v (h b o v e)
def Holds (K:KMap)(w:World):Prop:=∀b o v,K b o=some v→w.cell? ⟨b,o,none⟩=some v
theorem Holds.lt {K:KMap}{w:World}(h:Holds K w){b o:Nat}{v:Value}(e:K b o=some v):b<w.heap.size:=by
 have h1:=h b o v e
 rcases Nat.lt_or_ge b w.heap.size with hlt | hge
 ·exact hlt
 ·simp [World.cell?,Array.getElem?_eq_none hge] at h1
theorem add_at (b o n:Nat):(⟨b,o,none⟩:Addr).add n=⟨b,o+n,none⟩:=by
 unfold Addr.add
 by_cases h:n=0<;>simp [h]
def AtK (K:KMap)(b o:Nat)(cs:List Value):Prop:=∀j c,cs[j]? =some c→K b (o+j)=some c
theorem AtK.mono {K K':KMap}(h:KLe K K'){b o:Nat}{cs:List Value}(a:AtK K b o cs):AtK K' b o cs:=fun j c e=>h _ _ _ (a j c e)
structure Ty (α:Type) where
 size:Nat
 agg:Bool
 rel:KMap→Value→α→Prop
 mono: ∀{K K':KMap},KLe K K'→∀{v:Value} {x:α},rel K v x→rel K' v x
 shape: ∀{K:KMap} {v:Value} {x:α},rel K v x→(agg=true∧∃cs,v= .agg cs)∨(agg=false∧v.oneCell'=true)
 size_eq: ∀{K:KMap} {v:Value} {x:α},rel K v x→v.cells.size=size
 ones: ∀{K:KMap} {v:Value} {x:α},rel K v x→∀c∈v.cells.toList,c.oneCell'=true
theorem cells_one {v:Value}(h:v.oneCell'=true):v.cells=#[v]:=by cases v<;>simp_all [Value.oneCell',Value.cells]
def rng64 (n:Int):Prop:= -9223372036854775808≤n∧n≤9223372036854775807
abbrev Str:=List UInt8
def sv (s:Str):Value:=.string ⟨s.toArray⟩
def tInt:Ty Int where
 size:=1
 agg:=false
 rel:=fun _ v n=>v= .int .i64 n∧rng64 n
 mono:=fun _ _ _ h=>h
 shape:=fun⟨h,_⟩=>.inr ⟨rfl,by subst h;rfl⟩
 size_eq:=fun⟨h,_⟩=>by subst h;rfl
 ones:=fun⟨h,_⟩=>by subst h;simp [Value.cells,Value.oneCell']
def iv8 (b:UInt8):Value:=.int .u8 b.toNat
def tU8:Ty UInt8 where
 size:=1
 agg:=false
 rel:=fun _ v n=>v=iv8 n
 mono:=fun _ _ _ h=>h
 shape:=fun h=>.inr ⟨rfl,by subst h;rfl⟩
 size_eq:=fun h=>by subst h;rfl
 ones:=fun h=>by subst h;simp [Value.cells,Value.oneCell',iv8]
def tStr:Ty Str where
 size:=1
 agg:=false
 rel:=fun _ v s=>v=sv s∧s.length≤maxLen
 mono:=fun _ _ _ h=>h
 shape:=fun⟨h,_⟩=>.inr ⟨rfl,by subst h;rfl⟩
 size_eq:=fun⟨h,_⟩=>by subst h;rfl
 ones:=fun⟨h,_⟩=>by subst h;simp [Value.cells,Value.oneCell',sv]
def SliceAt {α:Type}(t:Ty α)(K:KMap)(a:Option Addr)(n c:Nat)(xs:List α):Prop:=
 n=xs.length∧n≤c∧c≤maxLen∧(0<c→∃b o,a=some ⟨b,o,none⟩∧∀(i:Nat) x,xs[i]? =some x→∃u,t.rel K u x∧AtK K b (o+i*t.size) u.cells.toList)
theorem SliceAt.mono {α:Type}{t:Ty α}{K K':KMap}(h:KLe K K'){a:Option Addr}{n c:Nat}{xs:List α}(p:SliceAt t K a n c xs):SliceAt t K' a n c xs:=
 ⟨p.1,p.2.1,p.2.2.1,fun hc=>let ⟨b,o,e1,h5⟩:=p.2.2.2 hc;⟨b,o,e1,fun i x hx=>let ⟨u,r,k⟩:=h5 i x hx;⟨u,t.mono h r,k.mono h⟩⟩⟩
theorem SliceAt.max {α:Type}{t:Ty α}{K:KMap}{a:Option Addr}{n c:Nat}{xs:List α}(p:SliceAt t K a n c xs):xs.length≤maxLen:=by
 obtain⟨h1,h2,h3,_⟩:=p;omega
def PtrK {α:Type}(t:Ty α)(K:KMap)(v:Value)(x:α):Prop:=
 ∃b o u,v= .pointer (some ⟨b,o,none⟩)∧t.rel K u x∧AtK K b o u.cells.toList
theorem PtrK.mono {α:Type}{t:Ty α}{K K':KMap}(h:KLe K K'){v:Value}{x:α}(p:PtrK t K v x):PtrK t K' v x:=
 let ⟨b,o,u,e,r,k⟩:=p
 ⟨b,o,u,e,t.mono h r,k.mono h⟩
def getI {α:Type}(xs:List α)(i:Int):Option α:=if 0≤i then xs[i.toNat]? else none
theorem getI_some {α:Type}{xs:List α}{i:Int}{x:α}(h:getI xs i=some x):0≤i∧i<xs.length∧xs[i.toNat]? =some x:=by
 unfold getI at h
 split at h
 ·rename_i h0
  have:=(List.getElem?_eq_some_iff.1 h).1
  exact⟨h0,by omega,h⟩
 ·cases h
abbrev Env:=List (Nat×Value)
def look:Env→Nat→Option Value
 | [],_=>none
 | (a,v)::E,i=>bif Nat.beq a i then some v else look E i
def Fr (N:Nat)(E:Env)(t:Array Value):Prop:=t.size=N∧∀i v,look E i=some v→t[i]? =some v
theorem Fr.put {N:Nat}{E:Env}{t:Array Value}(h:Fr N E t){d:Nat}(hd:Nat.blt d N=true)(v:Value):Fr N ((d,v)::E) (t.setIfInBounds d v):=by
 obtain⟨h1,h2⟩:=h
 have hd':d<N:=by simpa [Nat.blt_eq] using hd
 refine⟨by simp [h1],fun i u hu=>?_⟩
 simp only [look] at hu
 rw [Array.getElem?_setIfInBounds]
 by_cases e:d=i
 ·subst e;simp at hu;subst hu;simp [h1,hd']
 ·rw [if_neg e]
  have:Nat.beq d i=false:=by
   rw [Bool.eq_false_iff];intro hb;exact e (Nat.eq_of_beq_eq_true hb)
  rw [this] at hu
  exact h2 i u (by simpa using hu)
def ev (E:Env):Operand→Option Value
 | .tmp i=>look E i
 | .const v=>some v
 | .global g=>some (.pointer (some ⟨g,0,none⟩))
 | .func f=>some (.func (.func f) #[] #[])
def Agree (E:Env)(ρ:Operand→Value):Prop:=∀x v,ev E x=some v→ρ x=v
theorem Fr.agree {N:Nat}{E:Env}{t:Array Value}(h:Fr N E t):Agree E (Act.eval ⟨t,[]⟩):=by
 intro x v hx
 cases x with
 | tmp i=>simp only [ev] at hx;have:=h.2 i v hx;simp [Act.eval,Array.getD_eq_getD_getElem?,this]
 | const u=>simp only [ev,Option.some.injEq] at hx;subst hx;rfl
 | global g=>simp only [ev,Option.some.injEq] at hx;subst hx;rfl
 | func f=>simp only [ev,Option.some.injEq] at hx;subst hx;rfl
def Sub:Env→Env→Prop
 | [],_=>True
 | (i,v)::r,E=>look E i=some v∧Sub r E
theorem Sub.look {E' E:Env}(h:Sub E' E): ∀{i v},look E' i=some v→look E i=some v:=by
 induction E' with
 | nil=>intro i v h;cases h
 | cons p r ih=>
  obtain⟨j,u⟩:=p
  intro i v hv
  simp only [Fk.look] at hv
  by_cases e:j=i
  ·subst e;simp at hv;subst hv;exact h.1
  ·have hb:Nat.beq j i=false:=by
    rw [Bool.eq_false_iff];intro hb;exact e (Nat.eq_of_beq_eq_true hb)
   rw [hb] at hv
   exact ih h.2 hv
theorem Fr.sub {N:Nat}{E E':Env}{t:Array Value}(h:Fr N E t)(hs:Sub E' E):Fr N E' t:=⟨h.1,fun _ _ hv=>h.2 _ _ (hs.look hv)⟩
theorem Fr.nil {N:Nat}{t:Array Value}(h:t.size=N):Fr N [] t:=⟨h,fun _ _ h=>by cases h⟩
section
variable {P:Program}{ops:Array Oper}{Q:Exit→Act→World→Prop}{N:Nat}
def WL (P:Program)(ops:Array Oper)(Q:Exit→Act→World→Prop)(N:Nat)(rest:List Oper)(E:Env)(w:World):Prop:=
 ∀t,Fr N E t→wpList P ops Q rest ⟨t,[]⟩ w
def WC (P:Program)(c:Code)(Q:Exit→Act→World→Prop)(N:Nat)(E:Env)(w:World):Prop:=∀t,Fr N E t→c.wp P Q ⟨t,[]⟩ w
def QE (Q:Exit→Act→World→Prop)(e:Exit)(N:Nat)(E:Env)(w:World):Prop:=∀t,Fr N E t→Q e ⟨t,[]⟩ w
variable {E:Env}{w:World}
theorem wc_sub {c:Code}{E':Env}(hs:Sub E' E)(h:WC P c Q N E' w):WC P c Q N E w:=fun t ht=>h t (ht.sub hs)
theorem qe_sub {e:Exit}{E':Env}(hs:Sub E' E)(h:QE Q e N E' w):QE Q e N E w:=fun t ht=>h t (ht.sub hs)
theorem wc_seq {x y:Code}(h:WC P x (Exit.then (y.wp P Q) Q) N E w):WC P (.seq x y) Q N E w:=fun t ht=>wp_seq (h t ht)
theorem qe_seq {y:Code}(h:WC P y Q N E w):QE (Exit.then (y.wp P Q) Q) .normal N E w:=h
theorem qe_then_exit {k:Act→World→Prop}{id:Nat}(h:QE Q (.exit id) N E w):QE (Exit.then k Q) (.exit id) N E w:=h
theorem qe_then_ret {k:Act→World→Prop}(h:QE Q .ret N E w):QE (Exit.then k Q) .ret N E w:=h
theorem qe_block {id:Nat}(h:QE Q .normal N E w):QE (Exit.inBlock id Q) .normal N E w:=h
theorem qe_block_ret {id:Nat}(h:QE Q .ret N E w):QE (Exit.inBlock id Q) .ret N E w:=h
theorem qe_block_eq {id:Nat}(h:QE Q .normal N E w):QE (Exit.inBlock id Q) (.exit id) N E w:=fun t ht=>by
 show (if id=id then _ else _)
 rw [if_pos rfl];exact h t ht
theorem qe_block_ne {id id':Nat}(hne:Nat.beq id' id=false)(h:QE Q (.exit id') N E w):QE (Exit.inBlock id Q) (.exit id') N E w:=fun t ht=>by
 have hn: ¬id'=id:=fun e=>by subst e;simp at hne
 show (if id'=id then _ else _)
 rw [if_neg hn];exact h t ht
theorem wc_skip (h:QE Q .normal N E w):WC P .skip Q N E w:=fun t ht=>wp_skip (h t ht)
theorem wc_exit {id:Nat}(h:QE Q (.exit id) N E w):WC P (.exit id) Q N E w:=fun t ht=>wp_exit (h t ht)
theorem wc_ret (h:QE Q .ret N E w):WC P .ret Q N E w:=fun t ht=>wp_ret (h t ht)
theorem wc_block {id:Nat}{c:Code}(h:WC P c (Exit.inBlock id Q) N E w):WC P (.block id c) Q N E w:=fun t ht=>wp_block (h t ht)
theorem wc_cond {c:Operand}{x y:Code}{b:Bool}(hc:ev E c=some (.bool b))(ht:b=true→WC P x Q N E w)(hf:b=false→WC P y Q N E w):
  WC P (.cond c x y) Q N E w:=fun t hfr=>by
 have e:=hfr.agree c _ hc
 cases b with
 | true=>exact wp_cond e (ht rfl t hfr)
 | false=>exact wp_cond e (hf rfl t hfr)
theorem wc_region {id:Nat}{l:List Oper}(h:WL P l.toArray Q N l E w):WC P (.region id l.toArray false) Q N E w:=fun t ht=>wp_region_lit (h t ht)
theorem wl_nil (h:QE Q .normal N E w):WL P ops Q N [] E w:=fun t ht=>h t ht
theorem wc_mono {c:Code}{Q':Exit→Act→World→Prop}(h:WC P c Q' N E w)(hq: ∀e a w,Q' e a w→Q e a w):WC P c Q N E w:=
 fun t ht=>Code.wp_mono hq (h t ht)
def InSt (N:Nat)(Mid:Env→World→Prop)(a:Act)(w:World):Prop:=a.defers=[]∧∃E',Fr N E' a.tmps∧Mid E' w
theorem qe_mid {k:Env→World→Prop}(h:k E w):QE (Exit.then (InSt N k) Q) .normal N E w:=fun _ ht=>⟨rfl,E,ht,h⟩
end
end Go.Fk
