/-
  Closed facts on the program's tables. Printed by gen.py.
-/
import Derived.Test.YtajfhpaokbgmeaaModel
import Derived.Test.YtajfhpaokbgmeaaChecked
import Derived.KernelRfl
namespace Go.Proofs.Ytajfhpaokbgmeaa
open Go Go.Fk

theorem mixed : Try.prog.follows .mixedOrders = true := by kernel_rfl
theorem tf3 : TF Try.prog 3 1 false (.int .i64 0) 8 := ⟨by kernel_rfl, by kernel_rfl⟩
theorem tf5 : TF Try.prog 5 1 false (.int .u8 0) 1 := ⟨by kernel_rfl, by kernel_rfl⟩
theorem tf9 : TF Try.prog 9 1 false (.string ⟨#[]⟩) 16 := ⟨by kernel_rfl, by kernel_rfl⟩
theorem tf33 : TF Try.prog 33 1 false (.slice none 0 0) 24 := ⟨by kernel_rfl, by kernel_rfl⟩
theorem tf40 : TF Try.prog 40 1 false (.slice none 0 0) 24 := ⟨by kernel_rfl, by kernel_rfl⟩
theorem tf41 : TF Try.prog 41 1 false (.slice none 0 0) 24 := ⟨by kernel_rfl, by kernel_rfl⟩
theorem tf43 : TF Try.prog 43 3 true (.agg #[.int .i64 0, .slice none 0 0, .slice none 0 0]) 56 := ⟨by kernel_rfl, by kernel_rfl⟩
theorem tf96 : TF Try.prog 96 2 true (.agg #[.string ⟨#[]⟩, .string ⟨#[]⟩]) 32 := ⟨by kernel_rfl, by kernel_rfl⟩
theorem tf98 : TF Try.prog 98 2 true (.agg #[.string ⟨#[]⟩, .int .i64 0]) 24 := ⟨by kernel_rfl, by kernel_rfl⟩
theorem tf135 : TF Try.prog 135 2 true (.agg #[.slice none 0 0, .int .i64 0]) 32 := ⟨by kernel_rfl, by kernel_rfl⟩
theorem ff43_0 : FF Try.prog 43 0 0 := by unfold FF; kernel_rfl
theorem ff43_1 : FF Try.prog 43 1 1 := by unfold FF; kernel_rfl
theorem ff43_2 : FF Try.prog 43 2 2 := by unfold FF; kernel_rfl
theorem ff96_0 : FF Try.prog 96 0 0 := by unfold FF; kernel_rfl
theorem ff96_1 : FF Try.prog 96 1 1 := by unfold FF; kernel_rfl
theorem ff98_0 : FF Try.prog 98 0 0 := by unfold FF; kernel_rfl
theorem ff98_1 : FF Try.prog 98 1 1 := by unfold FF; kernel_rfl
theorem ff135_0 : FF Try.prog 135 0 0 := by unfold FF; kernel_rfl
theorem ff135_1 : FF Try.prog 135 1 1 := by unfold FF; kernel_rfl
theorem sp43 : SPlaces Try.prog 43 = some [(0, 1), (1, 1), (2, 1)] := by kernel_rfl
theorem sp96 : SPlaces Try.prog 96 = some [(0, 1), (1, 1)] := by kernel_rfl
theorem sp98 : SPlaces Try.prog 98 = some [(0, 1), (1, 1)] := by kernel_rfl
theorem sp135 : SPlaces Try.prog 135 = some [(0, 1), (1, 1)] := by kernel_rfl
theorem eqg96 : Try.prog.eqGuardType Try.prog.depth 96 = false := by kernel_rfl
theorem fo96 : (Try.prog.fieldsOf 96).toList = [⟨ "Name", 9, 0, false, "", "", 0⟩, ⟨ "Text", 9, 1, false, "", "", 16⟩] := by kernel_rfl
theorem eqs96 (a0 : Str) (a1 : Str) (b0 : Str) (b1 : Str) (w : World) : (Op.equalIn 10000 96 (.agg #[sv a0, sv a1]) (.agg #[sv b0, sv b1])).run Try.prog w = .ok ((a0 == b0) && ((a1 == b1))) w := by
  have h : (Op.eqFields 9999 #[sv a0, sv a1] #[sv b0, sv b1] (Try.prog.fieldsOf 96).toList).run Try.prog w = .ok ((a0 == b0) && ((a1 == b1) && (true))) w := by
    rw [fo96]
    exact (eqF_cons (by decide) (part_one w Try.underlying9 rfl rfl) (part_one w Try.underlying9 rfl rfl) (eqIn_s 9998 w a0 b0 Try.underlying9) (eqF_cons (by decide) (part_one w Try.underlying9 rfl rfl) (part_one w Try.underlying9 rfl rfl) (eqIn_s 9998 w a1 b1 Try.underlying9) (eqF_nil 9999 _ _ w)))
  rw [run_equalIn_struct w 9999 96 _ _ (by kernel_rfl) (by kernel_rfl), h]
  simp only [Bool.and_true]
theorem eqg98 : Try.prog.eqGuardType Try.prog.depth 98 = false := by kernel_rfl
theorem fo98 : (Try.prog.fieldsOf 98).toList = [⟨ "Name", 9, 0, false, "", "", 0⟩, ⟨ "Num", 3, 1, false, "", "", 16⟩] := by kernel_rfl
theorem eqs98 (a0 : Str) (a1 : Int) (b0 : Str) (b1 : Int) (w : World) : (Op.equalIn 10000 98 (.agg #[sv a0, .int .i64 a1]) (.agg #[sv b0, .int .i64 b1])).run Try.prog w = .ok ((a0 == b0) && ((a1 == b1))) w := by
  have h : (Op.eqFields 9999 #[sv a0, .int .i64 a1] #[sv b0, .int .i64 b1] (Try.prog.fieldsOf 98).toList).run Try.prog w = .ok ((a0 == b0) && ((a1 == b1) && (true))) w := by
    rw [fo98]
    exact (eqF_cons (by decide) (part_one w Try.underlying9 rfl rfl) (part_one w Try.underlying9 rfl rfl) (eqIn_s 9998 w a0 b0 Try.underlying9) (eqF_cons (by decide) (part_one w Try.underlying3 rfl rfl) (part_one w Try.underlying3 rfl rfl) (eqIn_i 9998 w a1 b1 Try.underlying3) (eqF_nil 9999 _ _ w)))
  rw [run_equalIn_struct w 9999 98 _ _ (by kernel_rfl) (by kernel_rfl), h]
  simp only [Bool.and_true]
theorem co14 : CallOk Try.prog 14 := ⟨_, Try.func14, by kernel_rfl, rfl⟩
theorem co15 : CallOk Try.prog 15 := ⟨_, Try.func15, by kernel_rfl, rfl⟩
theorem co16 : CallOk Try.prog 16 := ⟨_, Try.func16, by kernel_rfl, rfl⟩
theorem co17 : CallOk Try.prog 17 := ⟨_, Try.func17, by kernel_rfl, rfl⟩
theorem co18 : CallOk Try.prog 18 := ⟨_, Try.func18, by kernel_rfl, rfl⟩
theorem co19 : CallOk Try.prog 19 := ⟨_, Try.func19, by kernel_rfl, rfl⟩
theorem co20 : CallOk Try.prog 20 := ⟨_, Try.func20, by kernel_rfl, rfl⟩
theorem co52 : CallOk Try.prog 52 := ⟨_, Try.func52, by kernel_rfl, rfl⟩
theorem co54 : CallOk Try.prog 54 := ⟨_, Try.func54, by kernel_rfl, rfl⟩
theorem co55 : CallOk Try.prog 55 := ⟨_, Try.func55, by kernel_rfl, rfl⟩
theorem co56 : CallOk Try.prog 56 := ⟨_, Try.func56, by kernel_rfl, rfl⟩
theorem co57 : CallOk Try.prog 57 := ⟨_, Try.func57, by kernel_rfl, rfl⟩
theorem co58 : CallOk Try.prog 58 := ⟨_, Try.func58, by kernel_rfl, rfl⟩
theorem co59 : CallOk Try.prog 59 := ⟨_, Try.func59, by kernel_rfl, rfl⟩
theorem co60 : CallOk Try.prog 60 := ⟨_, Try.func60, by kernel_rfl, rfl⟩
theorem co61 : CallOk Try.prog 61 := ⟨_, Try.func61, by kernel_rfl, rfl⟩
theorem co62 : CallOk Try.prog 62 := ⟨_, Try.func62, by kernel_rfl, rfl⟩
theorem co72 : CallOk Try.prog 72 := ⟨_, Try.func72, by kernel_rfl, rfl⟩
theorem co85 : CallOk Try.prog 85 := ⟨_, Try.func85, by kernel_rfl, rfl⟩
theorem co96 : CallOk Try.prog 96 := ⟨_, Try.func96, by kernel_rfl, rfl⟩
theorem co98 : CallOk Try.prog 98 := ⟨_, Try.func98, by kernel_rfl, rfl⟩
theorem co100 : CallOk Try.prog 100 := ⟨_, Try.func100, by kernel_rfl, rfl⟩
theorem co101 : CallOk Try.prog 101 := ⟨_, Try.func101, by kernel_rfl, rfl⟩
theorem co102 : CallOk Try.prog 102 := ⟨_, Try.func102, by kernel_rfl, rfl⟩
theorem co103 : CallOk Try.prog 103 := ⟨_, Try.func103, by kernel_rfl, rfl⟩
theorem co105 : CallOk Try.prog 105 := ⟨_, Try.func105, by kernel_rfl, rfl⟩
theorem co125 : CallOk Try.prog 125 := ⟨_, Try.func125, by kernel_rfl, rfl⟩
theorem co126 : CallOk Try.prog 126 := ⟨_, Try.func126, by kernel_rfl, rfl⟩
theorem co127 : CallOk Try.prog 127 := ⟨_, Try.func127, by kernel_rfl, rfl⟩
theorem co128 : CallOk Try.prog 128 := ⟨_, Try.func128, by kernel_rfl, rfl⟩
theorem co141 : CallOk Try.prog 141 := ⟨_, Try.func141, by kernel_rfl, rfl⟩
theorem co152 : CallOk Try.prog 152 := ⟨_, Try.func152, by kernel_rfl, rfl⟩
end Go.Proofs.Ytajfhpaokbgmeaa
