/-
  strconv.Itoa over a call's state: out of the kit's contract; the package's table stands. Of no program.
-/
import Derived.Test.YtpdfkjjmcnhakaaGreatDoorCoreSQ
import Derived.Lib.LaidTab
import Derived.Lib.ItoaNum
namespace Go.Fk
open Go
set_option linter.unusedSectionVars false
variable [dr:Dr]
def itoaO (n:Int):Option Str:=if (Lib.itoa n).length≤maxLen then some (Lib.itoa n) else none
section
variable {P:Program}{w w0:World}{K K0:KMap}{L:List Item}
theorem tab_keep {name:String}{k:IntKind}{zs:List Int}(h:Lib.TabIs P w0 name k zs)(hS:SH w0 K0 [] w K L):Lib.TabIs P w name k zs:=by
 unfold Lib.TabIs World.var? at h ⊢
 cases hg:P.globalNamed name with
 | none=>rw [hg] at h;cases h
 | some g=>
  rw [hg,Option.bind_some] at h
  rw [Option.bind_some]
  have hlt:g<w0.heap.size:=by
   rcases Nat.lt_or_ge g w0.heap.size with h1 | h1
   ·exact h1
   ·rw [Array.getElem?_eq_none h1] at h;cases h
  rw [hS.old g hlt (by simp)];exact h
theorem itoa_call {f:FuncId}{T:World→Prop}{n:Int}{r:Str}(hc: ∀(n:Int) (_: -9223372036854775808≤n) (_:n≤9223372036854775807) (w:World),T w→Calls P f #[.int .i64 n] w fun e w'=>e= .returned (.string ⟨(Lib.itoa n).toArray⟩)∧∃k os,w'=Go.Sort.grow (w.drewN k) os)
  (hS:SH w K [] w K [])(hr:rng64 n)(ht:T w)(hm:itoaO n=some r):Calls P f #[.int .i64 n] w fun e w'=>∃(K':KMap),e= .returned (sv r)∧SH w K [] w' K' []∧r.length≤maxLen:=by
 unfold itoaO at hm
 split at hm
 case isFalse=>cases hm
 rename_i hl
 cases hm
 refine(hc n hr.1 hr.2 w ht).mono fun e w' ⟨he,k,os,hw⟩=>?_
 subst he hw
 exact⟨K,rfl,hS.growN os k,hl⟩
end
end Go.Fk
