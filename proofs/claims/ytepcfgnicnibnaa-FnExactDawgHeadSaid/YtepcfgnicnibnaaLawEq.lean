/-
  Lists held against each other; what an automaton of words is. Of no program.
-/
import Derived.Test.YtepcfgnicnibnaaLawPut
namespace Go.Fk
open Go
def eqBy {α:Type}(t:α→α→Bool):List α→List α→Bool
 | [],[]=>true
 | a::x,b::y=>t a b&&eqBy t x y
 | _,_=>false
theorem eqBy_iff {α:Type}{t:α→α→Bool}(ht: ∀a b,t a b=true↔a=b): ∀x y:List α,eqBy t x y=true↔x=y
 | [],[]=>by simp [eqBy]
 | [],_::_=>by simp [eqBy]
 | _::_,[]=>by simp [eqBy]
 | a::x,b::y=>by simp [eqBy,ht,eqBy_iff ht x y]
theorem eqBy_len {α:Type}{t:α→α→Bool}: ∀{x y:List α},x.length≠y.length→eqBy t x y=false
 | [],[],h=>absurd rfl h
 | [],_::_,_=>rfl
 | _::_,[],_=>rfl
 | a::x,b::y,h=>by rw [eqBy,eqBy_len (x:=x) (y:=y) (by simpa using h),Bool.and_false]
theorem eqBy_zip {α:Type}(t:α→α→Bool): ∀(x y:List α),x.length=y.length→eqBy t x y=x.zipIdx.all fun q=>(y[q.2]?).elim false fun b=>t q.1 b:=by
 have gen: ∀(x y:List α) (n:Nat) (z:List α),z.length=n→x.length=y.length→eqBy t x y=(x.zipIdx n).all fun q=>((z++y)[q.2]?).elim false fun b=>t q.1 b:=by
  intro x
  induction x with
  | nil=>intro y n z _ h;cases y with
   | nil=>rfl
   | cons b y=>simp at h
  | cons a x ih=>
   intro y n z hz h
   cases y with
   | nil=>simp at h
   | cons b y=>
    rw [List.zipIdx_cons,List.all_cons,eqBy,ih y (n+1) (z++[b]) (by simp [hz]) (by simpa using h)]
    congr 1
    ·simp [hz]
    ·simp
 intro x y h
 have:=gen x y 0 [] rfl h
 simpa using this
theorem eq_while {α:Type}{t:α→α→Bool}{x y:List α}{f:Int→Option (Int⊕(Unit⊕Bool))}(hlen:x.length=y.length)
  (h: ∀(i:Nat) a b,x[i]? =some a→y[i]? =some b→f (i:Int)=some (if t a b then .inl ((i+1:Nat):Int) else .inr (.inr false)))
  (h0:f (x.length:Int)=some (.inr (.inl ())))(F:Nat)(hF:x.length<F):whileM f F (0:Int)=some (if eqBy t x y then .inl () else .inr false):=by
 have hz:x.length=x.zipIdx.length:=by simp
 have key:=fun f h h0=>all_while (p:=fun q:α×Nat=>(y[q.2]?).elim false fun b=>t q.1 b) (xs:=x.zipIdx) (f:=f) h h0 x.length 0 F (by omega) hF
 rw [show (0:Int)=((0:Nat):Int) from rfl,key _ (fun i q hq=>?_) (by rw [←hz];exact h0),List.drop_zero,eqBy_zip t x y hlen]
 obtain⟨hx,hi⟩:=zip_at hq
 have hlt:=(List.getElem?_eq_some_iff.1 hx).1
 have hy:y[i]? =some y[i]:=List.getElem?_eq_getElem (by omega)
 rw [h i q.1 y[i] hx hy,hi,hy]
 rfl
theorem dawg_good (ws:List Str):Good (dawgS ws)∧(dawgS ws).length≤500:=by
 unfold dawgS
 cases h:upS ws
 ·exact⟨Good.nil,by simp⟩
 ·have hu:=(up_iff ws).1 h
  have hb:=built 12 [] ws Good.nil hu.fit.asc hu.fit.lens
  have hl:=build_len 13 [] ws
  have:=hu.tot
  simp only [List.length_nil] at hl
  exact⟨hb.good,by rw [if_pos rfl];omega⟩
end Go.Fk
