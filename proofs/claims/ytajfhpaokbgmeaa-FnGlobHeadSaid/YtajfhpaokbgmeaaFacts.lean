/-
  Closed facts on the program's tables. Printed by gen.py.
-/
import Derived.Test.YtajfhpaokbgmeaaModel
import Derived.Test.YtajfhpaokbgmeaaChecked
import Derived.KernelRfl
namespace Go.Proofs.Ytajfhpaokbgmeaa
open Go Go.Fk

theorem mixed : Try.prog.follows .mixedOrders = true := by kernel_rfl
theorem tf3 : TF Try.prog 3 1 false (.int .i64 0) 8 := ⟨by kernel_rfl, by kernel_rfl⟩
theorem tf4 : TF Try.prog 4 1 false (.bool false) 1 := ⟨by kernel_rfl, by kernel_rfl⟩
theorem tf5 : TF Try.prog 5 1 false (.int .u8 0) 1 := ⟨by kernel_rfl, by kernel_rfl⟩
theorem tf9 : TF Try.prog 9 1 false (.string ⟨#[]⟩) 16 := ⟨by kernel_rfl, by kernel_rfl⟩
theorem tf33 : TF Try.prog 33 1 false (.slice none 0 0) 24 := ⟨by kernel_rfl, by kernel_rfl⟩
theorem tf47 : TF Try.prog 47 1 false (.slice none 0 0) 24 := ⟨by kernel_rfl, by kernel_rfl⟩
theorem tf54 : TF Try.prog 54 1 false (.slice none 0 0) 24 := ⟨by kernel_rfl, by kernel_rfl⟩
theorem tf104 : TF Try.prog 104 1 true (.agg #[.slice none 0 0]) 24 := ⟨by kernel_rfl, by kernel_rfl⟩
theorem tf135 : TF Try.prog 135 2 true (.agg #[.slice none 0 0, .int .i64 0]) 32 := ⟨by kernel_rfl, by kernel_rfl⟩
theorem tf138 : TF Try.prog 138 1 false (.slice none 0 0) 24 := ⟨by kernel_rfl, by kernel_rfl⟩
theorem tf140 : TF Try.prog 140 3 true (.agg #[.bool false, .int .i64 0, .slice none 0 0]) 40 := ⟨by kernel_rfl, by kernel_rfl⟩
theorem tf142 : TF Try.prog 142 2 true (.agg #[.int .u8 0, .int .i64 0]) 16 := ⟨by kernel_rfl, by kernel_rfl⟩
theorem tf146 : TF Try.prog 146 4 true (.agg #[.slice none 0 0, .slice none 0 0, .int .i64 0, .bool false]) 64 := ⟨by kernel_rfl, by kernel_rfl⟩
theorem ff104_0 : FF Try.prog 104 0 0 := by unfold FF; kernel_rfl
theorem ff135_0 : FF Try.prog 135 0 0 := by unfold FF; kernel_rfl
theorem ff135_1 : FF Try.prog 135 1 1 := by unfold FF; kernel_rfl
theorem ff140_0 : FF Try.prog 140 0 0 := by unfold FF; kernel_rfl
theorem ff140_1 : FF Try.prog 140 1 1 := by unfold FF; kernel_rfl
theorem ff140_2 : FF Try.prog 140 2 2 := by unfold FF; kernel_rfl
theorem ff142_0 : FF Try.prog 142 0 0 := by unfold FF; kernel_rfl
theorem ff142_1 : FF Try.prog 142 1 1 := by unfold FF; kernel_rfl
theorem ff146_0 : FF Try.prog 146 0 0 := by unfold FF; kernel_rfl
theorem ff146_1 : FF Try.prog 146 1 1 := by unfold FF; kernel_rfl
theorem ff146_2 : FF Try.prog 146 2 2 := by unfold FF; kernel_rfl
theorem ff146_3 : FF Try.prog 146 3 3 := by unfold FF; kernel_rfl
theorem sp104 : SPlaces Try.prog 104 = some [(0, 1)] := by kernel_rfl
theorem sp135 : SPlaces Try.prog 135 = some [(0, 1), (1, 1)] := by kernel_rfl
theorem sp140 : SPlaces Try.prog 140 = some [(0, 1), (1, 1), (2, 1)] := by kernel_rfl
theorem sp142 : SPlaces Try.prog 142 = some [(0, 1), (1, 1)] := by kernel_rfl
theorem sp146 : SPlaces Try.prog 146 = some [(0, 1), (1, 1), (2, 1), (3, 1)] := by kernel_rfl
theorem eqg142 : Try.prog.eqGuardType Try.prog.depth 142 = false := by kernel_rfl
theorem fo142 : (Try.prog.fieldsOf 142).toList = [⟨ "Byte", 5, 0, false, "", "", 0⟩, ⟨ "To", 3, 1, false, "", "", 8⟩] := by kernel_rfl
theorem eqs142 (a0 : UInt8) (a1 : Int) (b0 : UInt8) (b1 : Int) (w : World) : (Op.equalIn 10000 142 (.agg #[iv8 a0, .int .i64 a1]) (.agg #[iv8 b0, .int .i64 b1])).run Try.prog w = .ok ((a0 == b0) && ((a1 == b1))) w := by
  have h : (Op.eqFields 9999 #[iv8 a0, .int .i64 a1] #[iv8 b0, .int .i64 b1] (Try.prog.fieldsOf 142).toList).run Try.prog w = .ok ((a0 == b0) && ((a1 == b1) && (true))) w := by
    rw [fo142]
    exact (eqF_cons (by decide) (part_one w Try.underlying5 rfl rfl) (part_one w Try.underlying5 rfl rfl) (eqIn_8 9998 w a0 b0 Try.underlying5) (eqF_cons (by decide) (part_one w Try.underlying3 rfl rfl) (part_one w Try.underlying3 rfl rfl) (eqIn_i 9998 w a1 b1 Try.underlying3) (eqF_nil 9999 _ _ w)))
  rw [run_equalIn_struct w 9999 142 _ _ (by kernel_rfl) (by kernel_rfl), h]
  simp only [Bool.and_true]
theorem co21 : CallOk Try.prog 21 := ⟨_, Try.func21, by kernel_rfl, rfl⟩
theorem co22 : CallOk Try.prog 22 := ⟨_, Try.func22, by kernel_rfl, rfl⟩
theorem co23 : CallOk Try.prog 23 := ⟨_, Try.func23, by kernel_rfl, rfl⟩
theorem co24 : CallOk Try.prog 24 := ⟨_, Try.func24, by kernel_rfl, rfl⟩
theorem co25 : CallOk Try.prog 25 := ⟨_, Try.func25, by kernel_rfl, rfl⟩
theorem co26 : CallOk Try.prog 26 := ⟨_, Try.func26, by kernel_rfl, rfl⟩
theorem co27 : CallOk Try.prog 27 := ⟨_, Try.func27, by kernel_rfl, rfl⟩
theorem co28 : CallOk Try.prog 28 := ⟨_, Try.func28, by kernel_rfl, rfl⟩
theorem co29 : CallOk Try.prog 29 := ⟨_, Try.func29, by kernel_rfl, rfl⟩
theorem co30 : CallOk Try.prog 30 := ⟨_, Try.func30, by kernel_rfl, rfl⟩
theorem co52 : CallOk Try.prog 52 := ⟨_, Try.func52, by kernel_rfl, rfl⟩
theorem co54 : CallOk Try.prog 54 := ⟨_, Try.func54, by kernel_rfl, rfl⟩
theorem co56 : CallOk Try.prog 56 := ⟨_, Try.func56, by kernel_rfl, rfl⟩
theorem co60 : CallOk Try.prog 60 := ⟨_, Try.func60, by kernel_rfl, rfl⟩
theorem co63 : CallOk Try.prog 63 := ⟨_, Try.func63, by kernel_rfl, rfl⟩
theorem co64 : CallOk Try.prog 64 := ⟨_, Try.func64, by kernel_rfl, rfl⟩
theorem co65 : CallOk Try.prog 65 := ⟨_, Try.func65, by kernel_rfl, rfl⟩
theorem co66 : CallOk Try.prog 66 := ⟨_, Try.func66, by kernel_rfl, rfl⟩
theorem co67 : CallOk Try.prog 67 := ⟨_, Try.func67, by kernel_rfl, rfl⟩
theorem co68 : CallOk Try.prog 68 := ⟨_, Try.func68, by kernel_rfl, rfl⟩
theorem co69 : CallOk Try.prog 69 := ⟨_, Try.func69, by kernel_rfl, rfl⟩
theorem co70 : CallOk Try.prog 70 := ⟨_, Try.func70, by kernel_rfl, rfl⟩
theorem co71 : CallOk Try.prog 71 := ⟨_, Try.func71, by kernel_rfl, rfl⟩
theorem co72 : CallOk Try.prog 72 := ⟨_, Try.func72, by kernel_rfl, rfl⟩
theorem co73 : CallOk Try.prog 73 := ⟨_, Try.func73, by kernel_rfl, rfl⟩
theorem co74 : CallOk Try.prog 74 := ⟨_, Try.func74, by kernel_rfl, rfl⟩
theorem co75 : CallOk Try.prog 75 := ⟨_, Try.func75, by kernel_rfl, rfl⟩
theorem co76 : CallOk Try.prog 76 := ⟨_, Try.func76, by kernel_rfl, rfl⟩
theorem co96 : CallOk Try.prog 96 := ⟨_, Try.func96, by kernel_rfl, rfl⟩
theorem co98 : CallOk Try.prog 98 := ⟨_, Try.func98, by kernel_rfl, rfl⟩
theorem co104 : CallOk Try.prog 104 := ⟨_, Try.func104, by kernel_rfl, rfl⟩
theorem co105 : CallOk Try.prog 105 := ⟨_, Try.func105, by kernel_rfl, rfl⟩
theorem co106 : CallOk Try.prog 106 := ⟨_, Try.func106, by kernel_rfl, rfl⟩
theorem co107 : CallOk Try.prog 107 := ⟨_, Try.func107, by kernel_rfl, rfl⟩
theorem co108 : CallOk Try.prog 108 := ⟨_, Try.func108, by kernel_rfl, rfl⟩
theorem co109 : CallOk Try.prog 109 := ⟨_, Try.func109, by kernel_rfl, rfl⟩
theorem co110 : CallOk Try.prog 110 := ⟨_, Try.func110, by kernel_rfl, rfl⟩
theorem co125 : CallOk Try.prog 125 := ⟨_, Try.func125, by kernel_rfl, rfl⟩
theorem co129 : CallOk Try.prog 129 := ⟨_, Try.func129, by kernel_rfl, rfl⟩
theorem co130 : CallOk Try.prog 130 := ⟨_, Try.func130, by kernel_rfl, rfl⟩
end Go.Proofs.Ytajfhpaokbgmeaa
