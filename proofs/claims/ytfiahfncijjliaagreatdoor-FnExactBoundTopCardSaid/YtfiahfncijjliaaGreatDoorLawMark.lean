/-
  Marks of texts: what is written over handed-back texts is there afterwards. Of no program.
-/
import Derived.Test.YtfiahfncijjliaaGreatDoorLawKeep
import Derived.Test.YtfiahfncijjliaaGreatDoorModel
set_option linter.unusedVariables false
namespace Go.Fk
open Go
theorem zt_text {f:Int×Str→Option ((Int×Str)⊕Str)}(hf: ∀(x:Int) (acc:Str),0<x→x≤9223372036854775807→acc.length≤1000→∃acc':Str,f (x,acc)=some (.inl (x/10,acc'))∧acc'.length=acc.length+1)
  (h0: ∀(x:Int) (acc:Str),¬0<x→f (x,acc)=some (.inr acc)): ∀(n:Nat) (x:Int) (acc:Str) (F:Nat),0≤x→x≤9223372036854775807→x<10 ^ n→n<F→acc.length+n≤1000→∃s:Str,whileM f F (x,acc)=some s∧s.length≤1000
 | 0,x,acc,F,hx,hx2,hx1,hF,hl=>by
  obtain⟨F,rfl⟩: ∃G,F=G+1:=⟨F-1,by omega⟩
  have: ¬0<x:=by
   rw [Int.pow_zero] at hx1;omega
  rw [whileM,h0 x acc this]
  exact⟨acc,rfl,by omega⟩
 | n+1,x,acc,F,hx,hx2,hx1,hF,hl=>by
  obtain⟨F,rfl⟩: ∃G,F=G+1:=⟨F-1,by omega⟩
  by_cases h:0<x
  ·obtain⟨acc',e,el⟩:=hf x acc h hx2 (by omega)
   rw [whileM,e,Option.bind_some]
   rw [Int.pow_succ] at hx1
   exact zt_text hf h0 n (x/10) acc' F (by omega) (by omega) (by omega) (by omega) (by omega)
  ·rw [whileM,h0 x acc h]
   exact⟨acc,rfl,by omega⟩
theorem markText_ok (F:Nat)(k:Int)(hF:1000<F)(hk:k≤9223372036854775807): ∃s,M.laws_markText F k=some s:=by
 have hm:10000≤maxLen:=by decide
 unfold M.laws_markText
 by_cases h0:k≤0
 ·rw [decide_eq_true h0];exact⟨_,rfl⟩
 ·rw [decide_eq_false h0,cond_false]
  generalize hf:(fun (s12:Int×Str)=>_:Int×Str→Option ((Int×Str)⊕Str))=f
  obtain⟨s,hs,hl⟩:=zt_text (f:=f) (fun x acc hx hx2 ha=>by
   subst hf
   have e:x.tdiv 10=x/10:=Int.tdiv_eq_ediv_of_nonneg (by omega)
   refine⟨[byteOfI (w64 (48+x.tmod 10))]++acc,?_,by simp⟩
   dsimp only
   rw [decide_eq_true hx,cond_true,show remI x 10=some (x.tmod 10) from if_neg (by decide),Option.bind_some,catS,if_pos (by simp only [List.length_singleton];omega),Option.bind_some,show quoI x 10=some (w64 (x.tdiv 10)) from if_neg (by decide),Option.bind_some,e,w64_of ⟨by omega,by omega⟩]) (fun x acc hx=>by
   subst hf
   dsimp only
   rw [decide_eq_false hx];rfl) 19 k [] F (by omega) hk (by omega) (by omega) (by simp)
  rw [hs,Option.bind_some,Option.bind_some,catS,if_pos (by simp only [List.length_singleton];omega)]
  exact⟨_,rfl⟩
end Go.Fk
