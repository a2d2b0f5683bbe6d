/-
  Closed facts on the program's tables. Printed by gen.py.
-/
import Derived.Test.YtajfhpaokbgmeaaModel
import Derived.Test.YtajfhpaokbgmeaaChecked
import Derived.KernelRfl
import Derived.Test.YtajfhpaokbgmeaaCoreS
import Derived.Shelf.SlSortCmp.NoneTotal
import Derived.Test.YtajfhpaokbgmeaaSortLay120
namespace Go.Proofs.Ytajfhpaokbgmeaa
open Go Go.Fk

theorem mixed : Try.prog.follows .mixedOrders = true := by kernel_rfl
theorem tf3 : TF Try.prog 3 1 false (.int .i64 0) 8 := ⟨by kernel_rfl, by kernel_rfl⟩
theorem tf5 : TF Try.prog 5 1 false (.int .u8 0) 1 := ⟨by kernel_rfl, by kernel_rfl⟩
theorem tf33 : TF Try.prog 33 1 false (.slice none 0 0) 24 := ⟨by kernel_rfl, by kernel_rfl⟩
theorem tf68 : TF Try.prog 68 1 false (.slice none 0 0) 24 := ⟨by kernel_rfl, by kernel_rfl⟩
theorem tf72 : TF Try.prog 72 2 true (.agg #[.int .i64 0, .int .i64 0]) 16 := ⟨by kernel_rfl, by kernel_rfl⟩
theorem tf135 : TF Try.prog 135 2 true (.agg #[.slice none 0 0, .int .i64 0]) 32 := ⟨by kernel_rfl, by kernel_rfl⟩
theorem ff72_0 : FF Try.prog 72 0 0 := by unfold FF; kernel_rfl
theorem ff72_1 : FF Try.prog 72 1 1 := by unfold FF; kernel_rfl
theorem ff135_0 : FF Try.prog 135 0 0 := by unfold FF; kernel_rfl
theorem ff135_1 : FF Try.prog 135 1 1 := by unfold FF; kernel_rfl
theorem sp72 : SPlaces Try.prog 72 = some [(0, 1), (1, 1)] := by kernel_rfl
theorem sp135 : SPlaces Try.prog 135 = some [(0, 1), (1, 1)] := by kernel_rfl
theorem eqg72 : Try.prog.eqGuardType Try.prog.depth 72 = false := by kernel_rfl
theorem fo72 : (Try.prog.fieldsOf 72).toList = [⟨ "Doc", 3, 0, false, "", "", 0⟩, ⟨ "Points", 3, 1, false, "", "", 8⟩] := by kernel_rfl
theorem eqs72 (a0 : Int) (a1 : Int) (b0 : Int) (b1 : Int) (w : World) : (Op.equalIn 10000 72 (.agg #[.int .i64 a0, .int .i64 a1]) (.agg #[.int .i64 b0, .int .i64 b1])).run Try.prog w = .ok ((a0 == b0) && ((a1 == b1))) w := by
  have h : (Op.eqFields 9999 #[.int .i64 a0, .int .i64 a1] #[.int .i64 b0, .int .i64 b1] (Try.prog.fieldsOf 72).toList).run Try.prog w = .ok ((a0 == b0) && ((a1 == b1) && (true))) w := by
    rw [fo72]
    exact (eqF_cons (by decide) (part_one w Try.underlying3 rfl rfl) (part_one w Try.underlying3 rfl rfl) (eqIn_i 9998 w a0 b0 Try.underlying3) (eqF_cons (by decide) (part_one w Try.underlying3 rfl rfl) (part_one w Try.underlying3 rfl rfl) (eqIn_i 9998 w a1 b1 Try.underlying3) (eqF_nil 9999 _ _ w)))
  rw [run_equalIn_struct w 9999 72 _ _ (by kernel_rfl) (by kernel_rfl), h]
  simp only [Bool.and_true]
theorem sortLay120 : SlLaysF0.n6 Try.prog Try.sortLay120_ren := Try.sortLay120
theorem sortNone120 (p : Option Addr) (cap : Nat) (fv : Value) (w : World) : Calls Try.prog (Try.sortLay120_ren.f 6) #[.slice p 0 cap, fv] w fun e w' => e = .returned (.tuple #[]) ∧ w' = w := Go.Proofs.AnyF.slices_SortFunc_none sortLay120 p cap fv w
theorem co36 : CallOk Try.prog 36 := ⟨_, Try.func36, by kernel_rfl, rfl⟩
theorem co37 : CallOk Try.prog 37 := ⟨_, Try.func37, by kernel_rfl, rfl⟩
theorem co38 : CallOk Try.prog 38 := ⟨_, Try.func38, by kernel_rfl, rfl⟩
theorem co39 : CallOk Try.prog 39 := ⟨_, Try.func39, by kernel_rfl, rfl⟩
theorem co40 : CallOk Try.prog 40 := ⟨_, Try.func40, by kernel_rfl, rfl⟩
theorem co41 : CallOk Try.prog 41 := ⟨_, Try.func41, by kernel_rfl, rfl⟩
theorem co54 : CallOk Try.prog 54 := ⟨_, Try.func54, by kernel_rfl, rfl⟩
theorem co56 : CallOk Try.prog 56 := ⟨_, Try.func56, by kernel_rfl, rfl⟩
theorem co60 : CallOk Try.prog 60 := ⟨_, Try.func60, by kernel_rfl, rfl⟩
theorem co72 : CallOk Try.prog 72 := ⟨_, Try.func72, by kernel_rfl, rfl⟩
theorem co84 : CallOk Try.prog 84 := ⟨_, Try.func84, by kernel_rfl, rfl⟩
theorem co85 : CallOk Try.prog 85 := ⟨_, Try.func85, by kernel_rfl, rfl⟩
theorem co86 : CallOk Try.prog 86 := ⟨_, Try.func86, by kernel_rfl, rfl⟩
theorem co87 : CallOk Try.prog 87 := ⟨_, Try.func87, by kernel_rfl, rfl⟩
theorem co88 : CallOk Try.prog 88 := ⟨_, Try.func88, by kernel_rfl, rfl⟩
theorem co89 : CallOk Try.prog 89 := ⟨_, Try.func89, by kernel_rfl, rfl⟩
theorem co90 : CallOk Try.prog 90 := ⟨_, Try.func90, by kernel_rfl, rfl⟩
theorem co91 : CallOk Try.prog 91 := ⟨_, Try.func91, by kernel_rfl, rfl⟩
theorem co118 : CallOk Try.prog 118 := ⟨_, Try.func118, by kernel_rfl, rfl⟩
theorem co119 : CallOk Try.prog 119 := ⟨_, Try.func119, by kernel_rfl, rfl⟩
theorem co120 : CallOk Try.prog 120 := ⟨_, Try.func120, by kernel_rfl, rfl⟩
theorem co121 : CallOk Try.prog 121 := ⟨_, Try.func121, by kernel_rfl, rfl⟩
theorem co122 : CallOk Try.prog 122 := ⟨_, Try.func122, by kernel_rfl, rfl⟩
theorem co123 : CallOk Try.prog 123 := ⟨_, Try.func123, by kernel_rfl, rfl⟩
theorem co137 : CallOk Try.prog 137 := ⟨_, Try.func137, by kernel_rfl, rfl⟩
theorem co140 : CallOk Try.prog 140 := ⟨_, Try.func140, by kernel_rfl, rfl⟩
end Go.Proofs.Ytajfhpaokbgmeaa
