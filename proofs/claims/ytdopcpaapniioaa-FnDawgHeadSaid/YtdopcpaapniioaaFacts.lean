/-
  Closed facts on the program's tables. Printed by gen.py.
-/
import Derived.Test.YtdopcpaapniioaaModel
import Derived.Test.YtdopcpaapniioaaChecked
import Derived.KernelRfl
import Derived.Test.YtdopcpaapniioaaThaw
namespace Go.Proofs.Ytdopcpaapniioaa
open Go Go.Fk

theorem mixed : Try.prog.follows .mixedOrders = true := by kernel_rfl
theorem tf3 : TF Try.prog 3 1 false (.int .i64 0) 8 := ⟨by kernel_rfl, by kernel_rfl⟩
theorem tf4 : TF Try.prog 4 1 false (.bool false) 1 := ⟨by kernel_rfl, by kernel_rfl⟩
theorem tf5 : TF Try.prog 5 1 false (.int .u8 0) 1 := ⟨by kernel_rfl, by kernel_rfl⟩
theorem tf9 : TF Try.prog 9 1 false (.string ⟨#[]⟩) 16 := ⟨by kernel_rfl, by kernel_rfl⟩
theorem tf22 : TF Try.prog 22 1 false (.slice none 0 0) 24 := ⟨by kernel_rfl, by kernel_rfl⟩
theorem tf26 : TF Try.prog 26 1 false (.slice none 0 0) 24 := ⟨by kernel_rfl, by kernel_rfl⟩
theorem tf28 : TF Try.prog 28 1 false (.slice none 0 0) 24 := ⟨by kernel_rfl, by kernel_rfl⟩
theorem tf31 : TF Try.prog 31 1 false (.slice none 0 0) 24 := ⟨by kernel_rfl, by kernel_rfl⟩
theorem tf33 : TF Try.prog 33 3 true (.agg #[.bool false, .int .i64 0, .slice none 0 0]) 40 := ⟨by kernel_rfl, by kernel_rfl⟩
theorem tf35 : TF Try.prog 35 2 true (.agg #[.int .u8 0, .int .i64 0]) 16 := ⟨by kernel_rfl, by kernel_rfl⟩
theorem tf68 : TF Try.prog 68 1 true (.agg #[.slice none 0 0]) 24 := ⟨by kernel_rfl, by kernel_rfl⟩
theorem tf90 : TF Try.prog 90 2 true (.agg #[.slice none 0 0, .int .i64 0]) 32 := ⟨by kernel_rfl, by kernel_rfl⟩
theorem tf96 : TF Try.prog 96 4 true (.agg #[.slice none 0 0, .slice none 0 0, .int .i64 0, .bool false]) 64 := ⟨by kernel_rfl, by kernel_rfl⟩
theorem ff33_0 : FF Try.prog 33 0 0 := by unfold FF; kernel_rfl
theorem ff33_1 : FF Try.prog 33 1 1 := by unfold FF; kernel_rfl
theorem ff33_2 : FF Try.prog 33 2 2 := by unfold FF; kernel_rfl
theorem ff35_0 : FF Try.prog 35 0 0 := by unfold FF; kernel_rfl
theorem ff35_1 : FF Try.prog 35 1 1 := by unfold FF; kernel_rfl
theorem ff68_0 : FF Try.prog 68 0 0 := by unfold FF; kernel_rfl
theorem ff90_0 : FF Try.prog 90 0 0 := by unfold FF; kernel_rfl
theorem ff90_1 : FF Try.prog 90 1 1 := by unfold FF; kernel_rfl
theorem ff96_0 : FF Try.prog 96 0 0 := by unfold FF; kernel_rfl
theorem ff96_1 : FF Try.prog 96 1 1 := by unfold FF; kernel_rfl
theorem ff96_2 : FF Try.prog 96 2 2 := by unfold FF; kernel_rfl
theorem ff96_3 : FF Try.prog 96 3 3 := by unfold FF; kernel_rfl
theorem sp33 : SPlaces Try.prog 33 = some [(0, 1), (1, 1), (2, 1)] := by kernel_rfl
theorem sp35 : SPlaces Try.prog 35 = some [(0, 1), (1, 1)] := by kernel_rfl
theorem sp68 : SPlaces Try.prog 68 = some [(0, 1)] := by kernel_rfl
theorem sp90 : SPlaces Try.prog 90 = some [(0, 1), (1, 1)] := by kernel_rfl
theorem sp96 : SPlaces Try.prog 96 = some [(0, 1), (1, 1), (2, 1), (3, 1)] := by kernel_rfl
theorem eqg35 : Try.prog.eqGuardType Try.prog.depth 35 = false := by kernel_rfl
theorem fo35 : (Try.prog.fieldsOf 35).toList = [⟨ "Byte", 5, 0, false, "", "", 0⟩, ⟨ "To", 3, 1, false, "", "", 8⟩] := by kernel_rfl
theorem eqs35 (a0 : UInt8) (a1 : Int) (b0 : UInt8) (b1 : Int) (w : World) : (Op.equalIn 10000 35 (.agg #[iv8 a0, .int .i64 a1]) (.agg #[iv8 b0, .int .i64 b1])).run Try.prog w = .ok ((a0 == b0) && ((a1 == b1))) w := by
  have h : (Op.eqFields 9999 #[iv8 a0, .int .i64 a1] #[iv8 b0, .int .i64 b1] (Try.prog.fieldsOf 35).toList).run Try.prog w = .ok ((a0 == b0) && ((a1 == b1) && (true))) w := by
    rw [fo35]
    exact (eqF_cons (by decide) (part_one w Try.underlying5 rfl rfl) (part_one w Try.underlying5 rfl rfl) (eqIn_8 9998 w a0 b0 Try.underlying5) (eqF_cons (by decide) (part_one w Try.underlying3 rfl rfl) (part_one w Try.underlying3 rfl rfl) (eqIn_i 9998 w a1 b1 Try.underlying3) (eqF_nil 9999 _ _ w)))
  rw [run_equalIn_struct w 9999 35 _ _ (by kernel_rfl) (by kernel_rfl), h]
  simp only [Bool.and_true]
theorem co19 : CallOk Try.prog 19 := ⟨_, Try.func19, by kernel_rfl, rfl⟩
theorem co21 : CallOk Try.prog 21 := ⟨_, Try.func21, by kernel_rfl, rfl⟩
theorem co30 : CallOk Try.prog 30 := ⟨_, Try.func30, by kernel_rfl, rfl⟩
theorem co32 : CallOk Try.prog 32 := ⟨_, Try.func32, by kernel_rfl, rfl⟩
theorem co34 : CallOk Try.prog 34 := ⟨_, Try.func34, by kernel_rfl, rfl⟩
theorem co35 : CallOk Try.prog 35 := ⟨_, Try.func35, by kernel_rfl, rfl⟩
theorem co36 : CallOk Try.prog 36 := ⟨_, Try.func36, by kernel_rfl, rfl⟩
theorem co37 : CallOk Try.prog 37 := ⟨_, Try.func37, by kernel_rfl, rfl⟩
theorem co38 : CallOk Try.prog 38 := ⟨_, Try.func38, by kernel_rfl, rfl⟩
theorem co39 : CallOk Try.prog 39 := ⟨_, Try.func39, by kernel_rfl, rfl⟩
theorem co41 : CallOk Try.prog 41 := ⟨_, Try.func41, by kernel_rfl, rfl⟩
theorem co43 : CallOk Try.prog 43 := ⟨_, Try.func43, by kernel_rfl, rfl⟩
theorem co44 : CallOk Try.prog 44 := ⟨_, Try.func44, by kernel_rfl, rfl⟩
theorem co45 : CallOk Try.prog 45 := ⟨_, Try.func45, by kernel_rfl, rfl⟩
theorem co46 : CallOk Try.prog 46 := ⟨_, Try.func46, by kernel_rfl, rfl⟩
theorem co48 : CallOk Try.prog 48 := ⟨_, Try.func48, by kernel_rfl, rfl⟩
theorem co49 : CallOk Try.prog 49 := ⟨_, Try.func49, by kernel_rfl, rfl⟩
theorem co53 : CallOk Try.prog 53 := ⟨_, Try.func53, by kernel_rfl, rfl⟩
theorem co54 : CallOk Try.prog 54 := ⟨_, Try.func54, by kernel_rfl, rfl⟩
theorem co55 : CallOk Try.prog 55 := ⟨_, Try.func55, by kernel_rfl, rfl⟩
theorem co61 : CallOk Try.prog 61 := ⟨_, Try.func61, by kernel_rfl, rfl⟩
theorem co62 : CallOk Try.prog 62 := ⟨_, Try.func62, by kernel_rfl, rfl⟩
theorem co63 : CallOk Try.prog 63 := ⟨_, Try.func63, by kernel_rfl, rfl⟩
theorem co64 : CallOk Try.prog 64 := ⟨_, Try.func64, by kernel_rfl, rfl⟩
theorem co65 : CallOk Try.prog 65 := ⟨_, Try.func65, by kernel_rfl, rfl⟩
theorem co66 : CallOk Try.prog 66 := ⟨_, Try.func66, by kernel_rfl, rfl⟩
theorem co67 : CallOk Try.prog 67 := ⟨_, Try.func67, by kernel_rfl, rfl⟩
theorem co68 : CallOk Try.prog 68 := ⟨_, Try.func68, by kernel_rfl, rfl⟩
theorem co69 : CallOk Try.prog 69 := ⟨_, Try.func69, by kernel_rfl, rfl⟩
theorem co70 : CallOk Try.prog 70 := ⟨_, Try.func70, by kernel_rfl, rfl⟩
theorem co73 : CallOk Try.prog 73 := ⟨_, Try.func73, by kernel_rfl, rfl⟩
theorem co75 : CallOk Try.prog 75 := ⟨_, Try.func75, by kernel_rfl, rfl⟩
theorem co76 : CallOk Try.prog 76 := ⟨_, Try.func76, by kernel_rfl, rfl⟩
theorem co77 : CallOk Try.prog 77 := ⟨_, Try.func77, by kernel_rfl, rfl⟩
theorem co78 : CallOk Try.prog 78 := ⟨_, Try.func78, by kernel_rfl, rfl⟩
theorem co80 : CallOk Try.prog 80 := ⟨_, Try.func80, by kernel_rfl, rfl⟩
theorem co81 : CallOk Try.prog 81 := ⟨_, Try.func81, by kernel_rfl, rfl⟩
theorem co82 : CallOk Try.prog 82 := ⟨_, Try.func82, by kernel_rfl, rfl⟩
theorem co83 : CallOk Try.prog 83 := ⟨_, Try.func83, by kernel_rfl, rfl⟩
theorem co84 : CallOk Try.prog 84 := ⟨_, Try.func84, by kernel_rfl, rfl⟩
theorem co85 : CallOk Try.prog 85 := ⟨_, Try.func85, by kernel_rfl, rfl⟩
theorem co86 : CallOk Try.prog 86 := ⟨_, Try.func86, by kernel_rfl, rfl⟩
theorem co89 : CallOk Try.prog 89 := ⟨_, Try.func89, by kernel_rfl, rfl⟩
theorem co90 : CallOk Try.prog 90 := ⟨_, Try.func90, by kernel_rfl, rfl⟩
theorem co91 : CallOk Try.prog 91 := ⟨_, Try.func91, by kernel_rfl, rfl⟩
theorem co93 : CallOk Try.prog 93 := ⟨_, Try.func93, by kernel_rfl, rfl⟩
theorem co94 : CallOk Try.prog 94 := ⟨_, Try.func94, by kernel_rfl, rfl⟩
end Go.Proofs.Ytdopcpaapniioaa
