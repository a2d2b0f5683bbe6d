/-
  So many times: what the question is worth, and what is found. The law, on the models.
-/
import Derived.Test.YtpdfkjjmcnhakaaGreatDoorLawScoreX
set_option linter.unusedVariables false
namespace Go.Fk
open Go
def b1p (c:o0)(s:A2)(d:Nat)(q:B5)(x:u1):List a71:=if decide (0<D5 c s d q x) then [⟨x.Id,D5 c s d q x⟩] else []
def a3Q (c:o0)(s:A2)(d:Nat)(q:B5):List a71:=if P5 c s then s.Docs.flatMap (b1p c s d q) else []
theorem b1q (c:o0)(s:A2)(d:Nat)(q:B5)(x:u1):(b1p c s d q x).length≤1:=by unfold b1p;split<;>simp
theorem b4v (c:o0)(s:A2)(d:Nat)(q:B5):(a3Q c s d q).length≤16:=by
 unfold a3Q
 split
 ·rename_i ho
  have:=U0 (g:=b1p c s d q) (m:=1) s.Docs fun x _=>b1q c s d q x
  have:=(a6i ho).2
  omega
 ·simp
theorem b0w (F:Nat){c:o0}{s:A2}{d:Nat}{q:B5}(hg:R2 d q)(hd:d≤4)(hl:s.Docs.length≤1000000)(hc:c.Stops.length≤2000000)(hF:1000000100<F):W4 F c s q=some (a3Q c s d q):=by
 unfold W4 a3Q
 rw [b0v F c s (by omega) hc (by omega),a8]
 cases ho:P5 c s with
 | false=>rfl
 | true=>
  have hfew:=a6i ho
  have hfl:=U0 (g:=b1p c s d q) (m:=1) s.Docs fun x _=>b1q c s d q x
  rw [n5,i9,a9Z F hg hd (by omega),a8,n5,a8,i9,if_pos rfl]
  rw [a4K (xs:=s.Docs) (b1p c s d q) 100 (fun i x acc hx hB=>?_) [] (by rw [List.nil_append];omega),List.nil_append]
  ·rfl
  ·rw [l8,hx,a8,a8p c s x ho (m8 hx) hg hd F (by omega),a8]
   unfold b1p at hB ⊢
   by_cases h0:0<D5 c s d q x
   ·rw [b8 h0,j6,if_pos rfl]
    rw [b8 h0,if_pos rfl] at hB
    simp only [j8,l6] at hB
    rw [F5 (by simp only [l6];omega)];rfl
   ·rw [c6 h0,i9,if_neg (by simp),List.append_nil]
theorem b1w (F:Nat){c:o0}{s:A2}{d:Nat}{q:B5}(hg:R2 d q)(hd:d≤4)(hl:s.Docs.length≤1000000)(hc:c.Stops.length≤2000000)(hF:1000000100<F):N8 F c s q=some ((a3Q c s d q).map (·.Doc)):=by
 have hlen:=b4v c s d q
 unfold N8
 rw [b0w F hg hd hl hc hF,a8]
 have e:(a3Q c s d q).map (·.Doc)=(a3Q c s d q).flatMap fun h=>[h.Doc]:=by
  induction a3Q c s d q with
  | nil=>rfl
  | cons a l ih=>rw [List.map_cons,List.flatMap_cons,ih];rfl
 rw [e,a4K (xs:=a3Q c s d q) (fun h=>[h.Doc]) 100 (fun i x acc hx hB=>?_) [] (by rw [List.nil_append,←e,List.length_map];omega),List.nil_append]
 ·rfl
 ·simp only [j8,l6] at hB
  rw [l8,hx,a8,F5 (by simp only [l6];omega)];rfl
end Go.Fk
