/-
  The arguments of the rows read as plain data. Printed by opens.py.
-/
import Derived.Test.YtpjefkdclnmlfaaCoreM
import Derived.Test.YtpjefkdclnmlfaaTypes
import Derived.Test.YtpjefkdclnmlfaaChecked
import Derived.KernelRfl
set_option linter.unusedVariables false
namespace Go.Proofs.Ytpjefkdclnmlfaa
open Go Go.Fk
section
variable {H:Type}{enc:TypeId×Value→H}{W:World}
theorem opens_t22:Opens enc Try.prog W 22 (tSlice tStr):=opens_slice (e:=9) Try.underlying22 (by kernel_rfl) (by decide) (opens_str Try.underlying9)
end
end Go.Proofs.Ytpjefkdclnmlfaa
