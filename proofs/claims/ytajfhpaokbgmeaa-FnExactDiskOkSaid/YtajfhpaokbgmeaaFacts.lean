/-
  Closed facts on the program's tables. Printed by gen.py.
-/
import Derived.Test.YtajfhpaokbgmeaaModel
import Derived.Test.YtajfhpaokbgmeaaChecked
import Derived.KernelRfl
namespace Go.Proofs.Ytajfhpaokbgmeaa
open Go Go.Fk

theorem mixed : Try.prog.follows .mixedOrders = true := by kernel_rfl
theorem tf9 : TF Try.prog 9 1 false (.string ⟨#[]⟩) 16 := ⟨by kernel_rfl, by kernel_rfl⟩
theorem tf22 : TF Try.prog 22 1 false (.slice none 0 0) 24 := ⟨by kernel_rfl, by kernel_rfl⟩
theorem tf24 : TF Try.prog 24 1 true (.agg #[.slice none 0 0]) 24 := ⟨by kernel_rfl, by kernel_rfl⟩
theorem tf27 : TF Try.prog 27 1 false (.slice none 0 0) 24 := ⟨by kernel_rfl, by kernel_rfl⟩
theorem tf29 : TF Try.prog 29 1 true (.agg #[.slice none 0 0]) 24 := ⟨by kernel_rfl, by kernel_rfl⟩
theorem tf85 : TF Try.prog 85 2 true (.agg #[.string ⟨#[]⟩, .string ⟨#[]⟩]) 32 := ⟨by kernel_rfl, by kernel_rfl⟩
theorem tf130 : TF Try.prog 130 2 true (.agg #[.string ⟨#[]⟩, .string ⟨#[]⟩]) 32 := ⟨by kernel_rfl, by kernel_rfl⟩
theorem ff24_0 : FF Try.prog 24 0 0 := by unfold FF; kernel_rfl
theorem ff29_0 : FF Try.prog 29 0 0 := by unfold FF; kernel_rfl
theorem ff85_0 : FF Try.prog 85 0 0 := by unfold FF; kernel_rfl
theorem ff85_1 : FF Try.prog 85 1 1 := by unfold FF; kernel_rfl
theorem ff130_0 : FF Try.prog 130 0 0 := by unfold FF; kernel_rfl
theorem ff130_1 : FF Try.prog 130 1 1 := by unfold FF; kernel_rfl
theorem co9 : CallOk Try.prog 9 := ⟨_, Try.func9, by kernel_rfl, rfl⟩
theorem co10 : CallOk Try.prog 10 := ⟨_, Try.func10, by kernel_rfl, rfl⟩
theorem co11 : CallOk Try.prog 11 := ⟨_, Try.func11, by kernel_rfl, rfl⟩
theorem co12 : CallOk Try.prog 12 := ⟨_, Try.func12, by kernel_rfl, rfl⟩
theorem co13 : CallOk Try.prog 13 := ⟨_, Try.func13, by kernel_rfl, rfl⟩
theorem co49 : CallOk Try.prog 49 := ⟨_, Try.func49, by kernel_rfl, rfl⟩
theorem co50 : CallOk Try.prog 50 := ⟨_, Try.func50, by kernel_rfl, rfl⟩
theorem co51 : CallOk Try.prog 51 := ⟨_, Try.func51, by kernel_rfl, rfl⟩
theorem co52 : CallOk Try.prog 52 := ⟨_, Try.func52, by kernel_rfl, rfl⟩
theorem co53 : CallOk Try.prog 53 := ⟨_, Try.func53, by kernel_rfl, rfl⟩
theorem co60 : CallOk Try.prog 60 := ⟨_, Try.func60, by kernel_rfl, rfl⟩
theorem co72 : CallOk Try.prog 72 := ⟨_, Try.func72, by kernel_rfl, rfl⟩
theorem co95 : CallOk Try.prog 95 := ⟨_, Try.func95, by kernel_rfl, rfl⟩
theorem co96 : CallOk Try.prog 96 := ⟨_, Try.func96, by kernel_rfl, rfl⟩
theorem co97 : CallOk Try.prog 97 := ⟨_, Try.func97, by kernel_rfl, rfl⟩
theorem co98 : CallOk Try.prog 98 := ⟨_, Try.func98, by kernel_rfl, rfl⟩
theorem co99 : CallOk Try.prog 99 := ⟨_, Try.func99, by kernel_rfl, rfl⟩
theorem co125 : CallOk Try.prog 125 := ⟨_, Try.func125, by kernel_rfl, rfl⟩
end Go.Proofs.Ytajfhpaokbgmeaa
