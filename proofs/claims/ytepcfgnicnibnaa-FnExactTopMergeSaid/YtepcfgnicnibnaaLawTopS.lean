/-
  The reference's best of lists, the drawing, and the law. Of no program.
-/
import Derived.Test.YtepcfgnicnibnaaLawTop
namespace Go.Fk
open Go
theorem st_while {α σ τ:Type}{xs:List α}{p:α→Bool}{st:Nat→σ}{good bad:τ}{f:σ→Option (σ⊕τ)}(h: ∀i x,xs[i]? =some x→f (st i)=some (if p x then .inl (st (i+1)) else .inr bad))
  (h0:f (st xs.length)=some (.inr good)): ∀k i F,i+k=xs.length→k<F→whileM f F (st i)=some (if (xs.drop i).all p then good else bad)
 | 0,i,F,e,hF=>by
  obtain⟨F,rfl⟩: ∃G,F=G+1:=⟨F-1,by omega⟩
  rw [whileM,show i=xs.length by omega,h0,List.drop_eq_nil_of_le (by omega)];rfl
 | k+1,i,F,e,hF=>by
  obtain⟨F,rfl⟩: ∃G,F=G+1:=⟨F-1,by omega⟩
  have hi:i<xs.length:=by omega
  rw [whileM,h i xs[i] (List.getElem?_eq_getElem hi),List.drop_eq_getElem_cons hi,List.all_cons]
  cases hp:p xs[i]
  ·rfl
  ·simp only [Bool.true_and]
   exact st_while h h0 k (i+1) F (by omega) (by omega)
def stS (m:Nat)(acc:List GHit)(i:Nat):List GHit×List Int×Int:=((sortH acc).take m,acc.map (·.Doc),(i:Int))
theorem sortH_snoc (acc:List GHit)(h:GHit):sortH (acc++[h])=insH h (sortH acc):=by
 unfold sortH
 rw [List.foldl_append];rfl
theorem fold_len: ∀(l acc:List GHit),(l.foldl (fun acc h=>insH h acc) acc).length=acc.length+l.length
 | [],acc=>by simp
 | a::l,acc=>by rw [List.foldl_cons,fold_len l,insH_len,List.length_cons];omega
theorem sortH_len (l:List GHit):(sortH l).length=l.length:=by
 unfold sortH
 rw [fold_len];simp
theorem has_ok (F:Nat)(l:List GHit)(id:Int)(hl:l.length<100000)(hF:l.length<F):M.spec_l8Has F (l.map (·.Doc)) id=some (docIn l id):=by
 unfold M.spec_l8Has docIn
 have hw: ∀(f:Int→Option (Int⊕(Unit⊕Bool))),(∀i x,l[i]? =some x→f ((i:Nat):Int)=some (if !(x.Doc==id) then .inl ((i+1:Nat):Int) else .inr (.inr true)))→f (l.length:Int)=some (.inr (.inl ()))→whileM f F (0:Int)=some (if l.all (fun x=> !(x.Doc==id)) then .inl () else .inr true):=fun f h h0=>by
  have:=st_while (st:=fun i:Nat=>(i:Int)) (p:=fun x:GHit=> !(x.Doc==id)) h h0 l.length 0 F (by omega) hF
  rwa [List.drop_zero] at this
 rw [hw _ (fun i x hx=>?_) ?_,←List.not_any_eq_all_not]
 ·cases l.any (fun x=>x.Doc==id)<;>rfl
 ·rw [List.length_map,decide_eq_false (by omega)];rfl
 ·have hi:=(List.getElem?_eq_some_iff.1 hx).1
  rw [List.length_map,decide_eq_true (by omega),cond_true,getI_nat',List.getElem?_map,hx,Option.map_some,Option.bind_some,w64_succ' (by omega)]
  cases x.Doc==id<;>rfl
theorem docIn_append (a b:List GHit)(id:Int):docIn (a++b) id=(docIn a id||docIn b id):=by
 unfold docIn
 rw [List.any_append]
end Go.Fk
