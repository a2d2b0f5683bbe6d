/-
  Closed facts on the program's tables. Printed by gen.py.
-/
import Derived.Test.YtoeajphlomankaaModel
import Derived.Test.YtoeajphlomankaaChecked
import Derived.KernelRfl
import Derived.Test.YtoeajphlomankaaCoreS
import Derived.Shelf.SlSortCmp.NoneTotal
import Derived.Test.YtoeajphlomankaaSortLay17
import Derived.Test.YtoeajphlomankaaFacetI
import Derived.Test.YtoeajphlomankaaCoreY
namespace Go.Proofs.Ytoeajphlomankaa
open Go Go.Fk

theorem mixed : Try.prog.follows .mixedOrders = true := by kernel_rfl
theorem tf3 : TF Try.prog 3 1 false (.int .i64 0) 8 := ⟨by kernel_rfl, by kernel_rfl⟩
theorem tf5 : TF Try.prog 5 1 false (.int .u8 0) 1 := ⟨by kernel_rfl, by kernel_rfl⟩
theorem tf9 : TF Try.prog 9 1 false (.string ⟨#[]⟩) 16 := ⟨by kernel_rfl, by kernel_rfl⟩
theorem tf22 : TF Try.prog 22 1 false (.slice none 0 0) 24 := ⟨by kernel_rfl, by kernel_rfl⟩
theorem tf34 : TF Try.prog 34 2 true (.agg #[.int .i64 0, .int .i64 0]) 16 := ⟨by kernel_rfl, by kernel_rfl⟩
theorem tf41 : TF Try.prog 41 1 false (.slice none 0 0) 24 := ⟨by kernel_rfl, by kernel_rfl⟩
theorem tf42 : TF Try.prog 42 1 false (.slice none 0 0) 24 := ⟨by kernel_rfl, by kernel_rfl⟩
theorem tf44 : TF Try.prog 44 3 true (.agg #[.int .i64 0, .slice none 0 0, .slice none 0 0]) 56 := ⟨by kernel_rfl, by kernel_rfl⟩
theorem tf58 : TF Try.prog 58 2 true (.agg #[.slice none 0 0, .int .i64 0]) 32 := ⟨by kernel_rfl, by kernel_rfl⟩
theorem tf69 : TF Try.prog 69 2 true (.agg #[.string ⟨#[]⟩, .string ⟨#[]⟩]) 32 := ⟨by kernel_rfl, by kernel_rfl⟩
theorem tf72 : TF Try.prog 72 2 true (.agg #[.string ⟨#[]⟩, .int .i64 0]) 24 := ⟨by kernel_rfl, by kernel_rfl⟩
theorem ff34_0 : FF Try.prog 34 0 0 := by unfold FF; kernel_rfl
theorem ff34_1 : FF Try.prog 34 1 1 := by unfold FF; kernel_rfl
theorem ff44_0 : FF Try.prog 44 0 0 := by unfold FF; kernel_rfl
theorem ff44_1 : FF Try.prog 44 1 1 := by unfold FF; kernel_rfl
theorem ff44_2 : FF Try.prog 44 2 2 := by unfold FF; kernel_rfl
theorem ff58_0 : FF Try.prog 58 0 0 := by unfold FF; kernel_rfl
theorem ff58_1 : FF Try.prog 58 1 1 := by unfold FF; kernel_rfl
theorem ff69_0 : FF Try.prog 69 0 0 := by unfold FF; kernel_rfl
theorem ff69_1 : FF Try.prog 69 1 1 := by unfold FF; kernel_rfl
theorem ff72_0 : FF Try.prog 72 0 0 := by unfold FF; kernel_rfl
theorem ff72_1 : FF Try.prog 72 1 1 := by unfold FF; kernel_rfl
theorem sp34 : SPlaces Try.prog 34 = some [(0, 1), (1, 1)] := by kernel_rfl
theorem sp44 : SPlaces Try.prog 44 = some [(0, 1), (1, 1), (2, 1)] := by kernel_rfl
theorem sp58 : SPlaces Try.prog 58 = some [(0, 1), (1, 1)] := by kernel_rfl
theorem sp69 : SPlaces Try.prog 69 = some [(0, 1), (1, 1)] := by kernel_rfl
theorem sp72 : SPlaces Try.prog 72 = some [(0, 1), (1, 1)] := by kernel_rfl
theorem eqg34 : Try.prog.eqGuardType Try.prog.depth 34 = false := by kernel_rfl
theorem fo34 : (Try.prog.fieldsOf 34).toList = [⟨ "Num", 3, 0, false, "", "", 0⟩, ⟨ "Many", 3, 1, false, "", "", 8⟩] := by kernel_rfl
theorem eqs34 (a0 : Int) (a1 : Int) (b0 : Int) (b1 : Int) (w : World) : (Op.equalIn 10000 34 (.agg #[.int .i64 a0, .int .i64 a1]) (.agg #[.int .i64 b0, .int .i64 b1])).run Try.prog w = .ok ((a0 == b0) && ((a1 == b1))) w := by
  have h : (Op.eqFields 9999 #[.int .i64 a0, .int .i64 a1] #[.int .i64 b0, .int .i64 b1] (Try.prog.fieldsOf 34).toList).run Try.prog w = .ok ((a0 == b0) && ((a1 == b1) && (true))) w := by
    rw [fo34]
    exact (eqF_cons (by decide) (part_one w Try.underlying3 rfl rfl) (part_one w Try.underlying3 rfl rfl) (eqIn_i 9998 w a0 b0 Try.underlying3) (eqF_cons (by decide) (part_one w Try.underlying3 rfl rfl) (part_one w Try.underlying3 rfl rfl) (eqIn_i 9998 w a1 b1 Try.underlying3) (eqF_nil 9999 _ _ w)))
  rw [run_equalIn_struct w 9999 34 _ _ (by kernel_rfl) (by kernel_rfl), h]
  simp only [Bool.and_true]
theorem sortLay17 : SlLaysF0.n6 Try.prog Try.sortLay17_ren := Try.sortLay17
theorem sortNone17 (p : Option Addr) (cap : Nat) (fv : Value) (w : World) : Calls Try.prog (Try.sortLay17_ren.f 6) #[.slice p 0 cap, fv] w fun e w' => e = .returned (.tuple #[]) ∧ w' = w := Go.Proofs.AnyF.slices_SortFunc_none sortLay17 p cap fv w
theorem co4 : CallOk Try.prog 4 := ⟨_, Try.func4, by kernel_rfl, rfl⟩
theorem co5 : CallOk Try.prog 5 := ⟨_, Try.func5, by kernel_rfl, rfl⟩
theorem co6 : CallOk Try.prog 6 := ⟨_, Try.func6, by kernel_rfl, rfl⟩
theorem co7 : CallOk Try.prog 7 := ⟨_, Try.func7, by kernel_rfl, rfl⟩
theorem co8 : CallOk Try.prog 8 := ⟨_, Try.func8, by kernel_rfl, rfl⟩
theorem co9 : CallOk Try.prog 9 := ⟨_, Try.func9, by kernel_rfl, rfl⟩
theorem co10 : CallOk Try.prog 10 := ⟨_, Try.func10, by kernel_rfl, rfl⟩
theorem co11 : CallOk Try.prog 11 := ⟨_, Try.func11, by kernel_rfl, rfl⟩
theorem co12 : CallOk Try.prog 12 := ⟨_, Try.func12, by kernel_rfl, rfl⟩
theorem co13 : CallOk Try.prog 13 := ⟨_, Try.func13, by kernel_rfl, rfl⟩
theorem co14 : CallOk Try.prog 14 := ⟨_, Try.func14, by kernel_rfl, rfl⟩
theorem co15 : CallOk Try.prog 15 := ⟨_, Try.func15, by kernel_rfl, rfl⟩
theorem co16 : CallOk Try.prog 16 := ⟨_, Try.func16, by kernel_rfl, rfl⟩
theorem co17 : CallOk Try.prog 17 := ⟨_, Try.func17, by kernel_rfl, rfl⟩
theorem co19 : CallOk Try.prog 19 := ⟨_, Try.func19, by kernel_rfl, rfl⟩
theorem co20 : CallOk Try.prog 20 := ⟨_, Try.func20, by kernel_rfl, rfl⟩
theorem co21 : CallOk Try.prog 21 := ⟨_, Try.func21, by kernel_rfl, rfl⟩
theorem co22 : CallOk Try.prog 22 := ⟨_, Try.func22, by kernel_rfl, rfl⟩
theorem co23 : CallOk Try.prog 23 := ⟨_, Try.func23, by kernel_rfl, rfl⟩
theorem co24 : CallOk Try.prog 24 := ⟨_, Try.func24, by kernel_rfl, rfl⟩
theorem co25 : CallOk Try.prog 25 := ⟨_, Try.func25, by kernel_rfl, rfl⟩
theorem co26 : CallOk Try.prog 26 := ⟨_, Try.func26, by kernel_rfl, rfl⟩
theorem co27 : CallOk Try.prog 27 := ⟨_, Try.func27, by kernel_rfl, rfl⟩
theorem co28 : CallOk Try.prog 28 := ⟨_, Try.func28, by kernel_rfl, rfl⟩
theorem co29 : CallOk Try.prog 29 := ⟨_, Try.func29, by kernel_rfl, rfl⟩
theorem co30 : CallOk Try.prog 30 := ⟨_, Try.func30, by kernel_rfl, rfl⟩
theorem co31 : CallOk Try.prog 31 := ⟨_, Try.func31, by kernel_rfl, rfl⟩
theorem co34 : CallOk Try.prog 34 := ⟨_, Try.func34, by kernel_rfl, rfl⟩
theorem co35 : CallOk Try.prog 35 := ⟨_, Try.func35, by kernel_rfl, rfl⟩
theorem co36 : CallOk Try.prog 36 := ⟨_, Try.func36, by kernel_rfl, rfl⟩
theorem co37 : CallOk Try.prog 37 := ⟨_, Try.func37, by kernel_rfl, rfl⟩
theorem co38 : CallOk Try.prog 38 := ⟨_, Try.func38, by kernel_rfl, rfl⟩
theorem co39 : CallOk Try.prog 39 := ⟨_, Try.func39, by kernel_rfl, rfl⟩
theorem co40 : CallOk Try.prog 40 := ⟨_, Try.func40, by kernel_rfl, rfl⟩
theorem co41 : CallOk Try.prog 41 := ⟨_, Try.func41, by kernel_rfl, rfl⟩
theorem co42 : CallOk Try.prog 42 := ⟨_, Try.func42, by kernel_rfl, rfl⟩
theorem co43 : CallOk Try.prog 43 := ⟨_, Try.func43, by kernel_rfl, rfl⟩
theorem co44 : CallOk Try.prog 44 := ⟨_, Try.func44, by kernel_rfl, rfl⟩
theorem co45 : CallOk Try.prog 45 := ⟨_, Try.func45, by kernel_rfl, rfl⟩
theorem co46 : CallOk Try.prog 46 := ⟨_, Try.func46, by kernel_rfl, rfl⟩
theorem co57 : CallOk Try.prog 57 := ⟨_, Try.func57, by kernel_rfl, rfl⟩
theorem co58 : CallOk Try.prog 58 := ⟨_, Try.func58, by kernel_rfl, rfl⟩
theorem co59 : CallOk Try.prog 59 := ⟨_, Try.func59, by kernel_rfl, rfl⟩
theorem co60 : CallOk Try.prog 60 := ⟨_, Try.func60, by kernel_rfl, rfl⟩
theorem co66 : CallOk Try.prog 66 := ⟨_, Try.func66, by kernel_rfl, rfl⟩
theorem co67 : CallOk Try.prog 67 := ⟨_, Try.func67, by kernel_rfl, rfl⟩
end Go.Proofs.Ytoeajphlomankaa
