/-
  So many times: what the question is worth, and what is found. The law, on the models.
-/
import Derived.Test.YtepcfgnicnibnaaGreatDoorLawScoreX
set_option linter.unusedVariables false
namespace Go.Fk
open Go
def a4J (c:u5)(s:A7)(d:Nat)(q:r5)(x:y5):List B0:=if decide (0<D1 c s d q x) then [⟨x.Id,D1 c s d q x⟩] else []
def I4 (c:u5)(s:A7)(d:Nat)(q:r5):List B0:=if N0 c s then s.Docs.flatMap (a4J c s d q) else []
theorem a9H (c:u5)(s:A7)(d:Nat)(q:r5)(x:y5):(a4J c s d q x).length≤1:=by unfold a4J;split<;>simp
theorem a0S (c:u5)(s:A7)(d:Nat)(q:r5):(I4 c s d q).length≤16:=by
 unfold I4
 split
 ·rename_i ho
  have:=W3 (g:=a4J c s d q) (m:=1) s.Docs fun x _=>a9H c s d q x
  have:=(a3g ho).2
  omega
 ·simp
theorem a3K (F:Nat){c:u5}{s:A7}{d:Nat}{q:r5}(hg:I8 d q)(hd:d≤4)(hl:s.Docs.length≤1000000)(hc:c.Stops.length≤2000000)(hF:1000000100<F):Q4 F c s q=some (I4 c s d q):=by
 unfold Q4 I4
 rw [a8p F c s (by omega) hc (by omega),a8]
 cases ho:N0 c s with
 | false=>rfl
 | true=>
  have hfew:=a3g ho
  have hfl:=W3 (g:=a4J c s d q) (m:=1) s.Docs fun x _=>a9H c s d q x
  rw [l9,i6,b4Y F hg hd (by omega),a8,l9,a8,i6,if_pos rfl]
  rw [a4s (xs:=s.Docs) (a4J c s d q) 100 (fun i x acc hx hB=>?_) [] (by rw [List.nil_append];omega),List.nil_append]
  ·rfl
  ·rw [n5,hx,a8,b22 c s x ho (l7 hx) hg hd F (by omega),a8]
   unfold a4J at hB ⊢
   by_cases h0:0<D1 c s d q x
   ·rw [b8 h0,i9,if_pos rfl]
    rw [b8 h0,if_pos rfl] at hB
    simp only [n9,j9] at hB
    rw [F1 (by simp only [j9];omega)];rfl
   ·rw [c6 h0,i6,if_neg (by simp),List.append_nil]
theorem b6J (F:Nat){c:u5}{s:A7}{d:Nat}{q:r5}(hg:I8 d q)(hd:d≤4)(hl:s.Docs.length≤1000000)(hc:c.Stops.length≤2000000)(hF:1000000100<F):Q8 F c s q=some ((I4 c s d q).map (·.Doc)):=by
 have hlen:=a0S c s d q
 unfold Q8
 rw [a3K F hg hd hl hc hF,a8]
 have e:(I4 c s d q).map (·.Doc)=(I4 c s d q).flatMap fun h=>[h.Doc]:=by
  induction I4 c s d q with
  | nil=>rfl
  | cons a l ih=>rw [List.map_cons,List.flatMap_cons,ih];rfl
 rw [e,a4s (xs:=I4 c s d q) (fun h=>[h.Doc]) 100 (fun i x acc hx hB=>?_) [] (by rw [List.nil_append,←e,List.length_map];omega),List.nil_append]
 ·rfl
 ·simp only [n9,j9] at hB
  rw [n5,hx,a8,F1 (by simp only [j9];omega)];rfl
end Go.Fk
