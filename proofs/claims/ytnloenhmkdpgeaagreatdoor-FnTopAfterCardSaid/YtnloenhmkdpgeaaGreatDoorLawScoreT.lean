/-
  So many times: what the question is worth, and what is found. The law, on the models.
-/
import Derived.Test.YtnloenhmkdpgeaaGreatDoorLawScoreX
set_option linter.unusedVariables false
namespace Go.Fk
open Go
def a3T (c:u6)(s:A5)(d:Nat)(q:q7)(x:A1):List E3:=if decide (0<C2 c s d q x) then [⟨x.Id,C2 c s d q x⟩] else []
def G6 (c:u6)(s:A5)(d:Nat)(q:q7):List E3:=if G9 c s then s.Docs.flatMap (a3T c s d q) else []
theorem b3x (c:u6)(s:A5)(d:Nat)(q:q7)(x:A1):(a3T c s d q x).length≤1:=by unfold a3T;split<;>simp
theorem a1y (c:u6)(s:A5)(d:Nat)(q:q7):(G6 c s d q).length≤16:=by
 unfold G6
 split
 ·rename_i ho
  have:=Z4 (g:=a3T c s d q) (m:=1) s.Docs fun x _=>b3x c s d q x
  have:=(a2D ho).2
  omega
 ·simp
theorem b0v (F:Nat){c:u6}{s:A5}{d:Nat}{q:q7}(hg:I3 d q)(hd:d≤4)(hl:s.Docs.length≤1000000)(hc:c.Stops.length≤2000000)(hF:1000000100<F):a05 F c s q=some (G6 c s d q):=by
 unfold a05 G6
 rw [a1T F c s (by omega) hc (by omega),a8]
 cases ho:G9 c s with
 | false=>rfl
 | true=>
  have hfew:=a2D ho
  have hfl:=Z4 (g:=a3T c s d q) (m:=1) s.Docs fun x _=>b3x c s d q x
  rw [l7,i6,a65 F hg hd (by omega),a8,l7,a8,i6,if_pos rfl]
  rw [a7o (xs:=s.Docs) (a3T c s d q) 100 (fun i x acc hx hB=>?_) [] (by rw [List.nil_append];omega),List.nil_append]
  ·rfl
  ·rw [n8,hx,a8,a9W c s x ho (n5 hx) hg hd F (by omega),a8]
   unfold a3T at hB ⊢
   by_cases h0:0<C2 c s d q x
   ·rw [b8 h0,j4,if_pos rfl]
    rw [b8 h0,if_pos rfl] at hB
    simp only [o0,l8] at hB
    rw [H4 (by simp only [l8];omega)];rfl
   ·rw [c6 h0,i6,if_neg (by simp),List.append_nil]
theorem a23 (F:Nat){c:u6}{s:A5}{d:Nat}{q:q7}(hg:I3 d q)(hd:d≤4)(hl:s.Docs.length≤1000000)(hc:c.Stops.length≤2000000)(hF:1000000100<F):I4 F c s q=some ((G6 c s d q).map (·.Doc)):=by
 have hlen:=a1y c s d q
 unfold I4
 rw [b0v F hg hd hl hc hF,a8]
 have e:(G6 c s d q).map (·.Doc)=(G6 c s d q).flatMap fun h=>[h.Doc]:=by
  induction G6 c s d q with
  | nil=>rfl
  | cons a l ih=>rw [List.map_cons,List.flatMap_cons,ih];rfl
 rw [e,a7o (xs:=G6 c s d q) (fun h=>[h.Doc]) 100 (fun i x acc hx hB=>?_) [] (by rw [List.nil_append,←e,List.length_map];omega),List.nil_append]
 ·rfl
 ·simp only [o0,l8] at hB
  rw [n8,hx,a8,H4 (by simp only [l8];omega)];rfl
end Go.Fk
