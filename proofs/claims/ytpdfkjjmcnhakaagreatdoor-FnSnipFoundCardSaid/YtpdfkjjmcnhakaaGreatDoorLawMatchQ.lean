/-
  What a question finds, of all questions. The law, on the models.
-/
import Derived.Test.YtpdfkjjmcnhakaaGreatDoorLawScoreT
import Derived.Test.YtpdfkjjmcnhakaaGreatDoorLawOkQ
import Derived.Test.YtpdfkjjmcnhakaaGreatDoorLawRdAll
set_option linter.unusedVariables false
namespace Go.Fk
open Go
structure c0M (q:B5):Prop where
 f:q.Field.length≤12
 w:q.Words.length≤4
 ws: ∀w∈q.Words,w.length≤12
 k:q.Kids.length≤4
def idQ (c:o0)(s:A2)(d:Nat)(q:B5)(x:u1):List Int:=if decide (0<D5 c s d q x) then [x.Id] else []
def a2R (c:o0)(s:A2)(q:B5):List Int:=if P5 c s&&okQ 4 q then s.Docs.flatMap (idQ c s 4 q) else []
theorem b2S (c:o0)(s:A2)(q:B5)(ho:P5 c s=true)(hq:okQ 4 q=true):(a3Q c s 4 q).map (·.Doc)=a2R c s q:=by
 unfold a3Q a2R
 rw [if_pos ho,ho,hq,if_pos (show (true&&true)=true from rfl),List.map_flatMap]
 congr 1
 funext x
 unfold b1p idQ
 split<;>rfl
theorem b2R (c:o0)(s:A2)(q:B5):(a2R c s q).length≤16:=by
 unfold a2R
 split
 ·rename_i h
  simp only [l5] at h
  have:=U0 (g:=idQ c s 4 q) (m:=1) s.Docs fun x _=>by unfold idQ;split<;>simp
  have:=(a6i h.1).2
  omega
 ·simp
theorem b1x (F:Nat){c:o0}{s:A2}{q:B5}(hl:s.Docs.length≤1000000)(hc:c.Stops.length≤2000000)(hF:1000000100<F):N8 F c s q=some (a2R c s q):=by
 cases hq:okQ 4 q with
 | true=>
  rw [b1w F (b3v 4 q hq) (by omega) hl hc hF]
  cases ho:P5 c s with
  | true=>rw [b2S c s q ho hq]
  | false=>
   unfold a3Q a2R
   rw [ho,if_neg (by decide),Bool.false_and,if_neg (by decide)];rfl
 | false=>
  unfold N8 W4 a2R
  rw [b0v F c s (by omega) hc (by omega),a8,b1y F q (by omega),hq,Bool.and_false,if_neg (by decide)]
  cases P5 c s<;>rfl
end Go.Fk
