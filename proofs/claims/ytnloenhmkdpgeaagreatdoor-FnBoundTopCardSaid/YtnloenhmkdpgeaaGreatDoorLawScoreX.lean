/-
  Both, either, less, so many times: what the questions are worth. The laws, on the models.
-/
import Derived.Test.YtnloenhmkdpgeaaGreatDoorLawSc
import Derived.Test.YtnloenhmkdpgeaaGreatDoorLawDrs
set_option linter.unusedVariables false
namespace Go.Fk
open Go
def L7 (c:u6)(s:A5)(d:Nat)(q:q7)(id:Int):Int:=if G9 c s then (s.Docs.find? fun x=>x.Id==id).elim 0 (C2 c s d q) else 0
theorem a1U (F:Nat){c:u6}{s:A5}{d:Nat}{q:q7}(id:Int)(hg:I3 d q)(hd:d≤4)(hl:s.Docs.length≤1000000)(hc:c.Stops.length≤2000000)(hF:1000000100<F):N5 F c s q id=some (L7 c s d q id):=by
 unfold N5 L7
 rw [a8k,a8,a1T F c s (by omega) hc (by omega),a8]
 cases ho:G9 c s with
 | false=>rfl
 | true=>
  rw [l7,i6,a65 F hg hd (by omega),a8,l7,i6,if_pos rfl]
  cases hf:s.Docs.find? fun x=>x.Id==id with
  | none=>rfl
  | some x=>
   simp only [Option.elim,l7,a8,i6]
   rw [a9W c s x ho (List.mem_of_find?_eq_some hf) hg hd F (by omega)];rfl
theorem a5L (F:Nat){c:u6}{s:A5}{d:Nat}{q:q7}(id:Int)(hg:I3 d q)(hd:d≤4)(hs:X3 s.Docs)(hc:a1K 100 c)(hF:1000000100<F):Q9 F c s q id=some (L7 c s d q id):=by
 unfold Q9 L7
 rw [a9a F 100 c s hs hc (by omega) (by omega),a8]
 cases ho:G9 c s with
 | false=>rfl
 | true=>
  have hfew:=a2D ho
  obtain⟨_,h2,_⟩:=a0w ho
  rw [l7,i6,c4c F hg hd (by omega),a8,l7,i6,if_pos rfl,b4g F s id (by omega) (by omega),a8]
  cases hf:s.Docs.find? fun x=>x.Id==id with
  | none=>rfl
  | some x=>
   have hm:=List.mem_of_find?_eq_some hf
   have hid:(x.Id==id)=true:=List.find?_some (p:=fun x:A1=>x.Id==id) hf
   have hx:=(a0Q h2).2.1 x hm
   simp only [Option.getD_some,Option.elim,a8]
   rw [beq_eq_false_iff_ne.2 (by omega),i6,←eq_of_beq hid,a7w c s x ho hm hc (by have:=(hs.doc x hm).nums;omega) hg hd F (by omega)];rfl
end Go.Fk
