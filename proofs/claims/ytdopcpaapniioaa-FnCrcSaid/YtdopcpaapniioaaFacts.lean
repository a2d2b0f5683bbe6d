/-
  Closed facts on the program's tables. Printed by gen.py.
-/
import Derived.Test.YtdopcpaapniioaaModel
import Derived.Test.YtdopcpaapniioaaChecked
import Derived.KernelRfl
namespace Go.Proofs.Ytdopcpaapniioaa
open Go Go.Fk

theorem mixed : Try.prog.follows .mixedOrders = true := by kernel_rfl
theorem tf3 : TF Try.prog 3 1 false (.int .i64 0) 8 := ⟨by kernel_rfl, by kernel_rfl⟩
theorem tf5 : TF Try.prog 5 1 false (.int .u8 0) 1 := ⟨by kernel_rfl, by kernel_rfl⟩
theorem tf9 : TF Try.prog 9 1 false (.string ⟨#[]⟩) 16 := ⟨by kernel_rfl, by kernel_rfl⟩
theorem tf22 : TF Try.prog 22 1 false (.slice none 0 0) 24 := ⟨by kernel_rfl, by kernel_rfl⟩
theorem tf90 : TF Try.prog 90 2 true (.agg #[.slice none 0 0, .int .i64 0]) 32 := ⟨by kernel_rfl, by kernel_rfl⟩
theorem ff90_0 : FF Try.prog 90 0 0 := by unfold FF; kernel_rfl
theorem ff90_1 : FF Try.prog 90 1 1 := by unfold FF; kernel_rfl
theorem sp90 : SPlaces Try.prog 90 = some [(0, 1), (1, 1)] := by kernel_rfl
theorem co15 : CallOk Try.prog 15 := ⟨_, Try.func15, by kernel_rfl, rfl⟩
theorem co16 : CallOk Try.prog 16 := ⟨_, Try.func16, by kernel_rfl, rfl⟩
theorem co17 : CallOk Try.prog 17 := ⟨_, Try.func17, by kernel_rfl, rfl⟩
theorem co48 : CallOk Try.prog 48 := ⟨_, Try.func48, by kernel_rfl, rfl⟩
theorem co49 : CallOk Try.prog 49 := ⟨_, Try.func49, by kernel_rfl, rfl⟩
theorem co50 : CallOk Try.prog 50 := ⟨_, Try.func50, by kernel_rfl, rfl⟩
theorem co51 : CallOk Try.prog 51 := ⟨_, Try.func51, by kernel_rfl, rfl⟩
theorem co61 : CallOk Try.prog 61 := ⟨_, Try.func61, by kernel_rfl, rfl⟩
theorem co74 : CallOk Try.prog 74 := ⟨_, Try.func74, by kernel_rfl, rfl⟩
end Go.Proofs.Ytdopcpaapniioaa
