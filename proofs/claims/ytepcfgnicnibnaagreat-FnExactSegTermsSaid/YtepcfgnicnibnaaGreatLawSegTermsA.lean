/-
  The terms of a field: the program's. Of no program.
-/
import Derived.Test.YtepcfgnicnibnaaGreatLawSegKL
import Derived.Test.YtepcfgnicnibnaaGreatLawGather
set_option linter.unusedVariables false
namespace Go.Fk
open Go
def pickT (n:Str)(e:GEntry):List Str:=if e.Field==n then [e.Term] else []
def termsAt (s:GSeg)(n:Str):List Str:=s.Entries.flatMap (pickT n)
def segTermsS (c:GConf)(s:GSeg)(n:Str):List Str:=if segOk c s then termsAt s n else []
theorem pickT_one (n:Str)(e:GEntry):(pickT n e).length≤1:=by unfold pickT;split<;>simp
theorem termsAt_len {s:GSeg}{n:Str}:(termsAt s n).length≤s.Entries.length:=by
 have:=flat_le (g:=pickT n) (m:=1) s.Entries fun e _=>pickT_one n e
 unfold termsAt;omega
theorem impl_segTerms (F:Nat)(c:GConf)(s:GSeg)(n:Str)(hd:s.Docs.length<9000000000000000000)(hc:c.Stops.length≤2000000)(hF:2000<F):M.impl_SegTerms F c s n=some (segTermsS c s n):=by
 unfold M.impl_SegTerms segTermsS
 rw [impl_ok F c s hd hc (by omega),Option.bind_some]
 cases ho:segOk c s
 ·rfl
 obtain⟨h1,h2,h3⟩:=seg_is ho
 have hfit:Fits 10000 s.Entries:=by rw [h3];exact(seg_fits h2).le (by omega)
 have hl:=hfit.1
 have hlen:=termsAt_len (s:=s) (n:=n)
 rw [Bool.not_true,cond_false,if_pos rfl]
 unfold M.impl_Seg_terms
 rw [fm_forE (pickT n) 10000 (fun i e acc hx hB=>?_) [] (by rw [List.nil_append];unfold termsAt at hlen;omega),List.nil_append]
 ·rfl
 ·rw [getI_nat',hx,Option.bind_some]
  unfold pickT at hB ⊢
  revert hB
  rw [if_bif]
  cases e.Field==n
  ·intro _;simp
  ·intro hB
   simp only [cond_true] at hB ⊢
   rw [catLok (by simp at hB ⊢;omega)];rfl
end Go.Fk
