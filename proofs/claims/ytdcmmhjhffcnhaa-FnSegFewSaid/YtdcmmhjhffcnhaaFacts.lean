/-
  Closed facts on the program's tables. Printed by gen.py.
-/
import Derived.Test.YtdcmmhjhffcnhaaModel
import Derived.Test.YtdcmmhjhffcnhaaChecked
import Derived.KernelRfl
import Derived.Test.YtdcmmhjhffcnhaaCoreQ
import Derived.Shelf.SlSortCmp.NoneTotal
import Derived.Test.YtdcmmhjhffcnhaaSortLay64
import Derived.Test.YtdcmmhjhffcnhaaSegI
import Derived.Test.YtdcmmhjhffcnhaaCoreV
namespace Go.Proofs.Ytdcmmhjhffcnhaa
open Go Go.Fk

theorem mixed : Try.prog.follows .mixedOrders = true := by kernel_rfl
theorem tf3 : TF Try.prog 3 1 false (.int .i64 0) 8 := ⟨by kernel_rfl, by kernel_rfl⟩
theorem tf5 : TF Try.prog 5 1 false (.int .u8 0) 1 := ⟨by kernel_rfl, by kernel_rfl⟩
theorem tf9 : TF Try.prog 9 1 false (.string ⟨#[]⟩) 16 := ⟨by kernel_rfl, by kernel_rfl⟩
theorem tf22 : TF Try.prog 22 1 false (.slice none 0 0) 24 := ⟨by kernel_rfl, by kernel_rfl⟩
theorem tf23 : TF Try.prog 23 1 false (.slice none 0 0) 24 := ⟨by kernel_rfl, by kernel_rfl⟩
theorem tf24 : TF Try.prog 24 1 false (.slice none 0 0) 24 := ⟨by kernel_rfl, by kernel_rfl⟩
theorem tf36 : TF Try.prog 36 1 false (.slice none 0 0) 24 := ⟨by kernel_rfl, by kernel_rfl⟩
theorem tf37 : TF Try.prog 37 1 false (.slice none 0 0) 24 := ⟨by kernel_rfl, by kernel_rfl⟩
theorem tf39 : TF Try.prog 39 2 true (.agg #[.slice none 0 0, .slice none 0 0]) 48 := ⟨by kernel_rfl, by kernel_rfl⟩
theorem tf40 : TF Try.prog 40 1 false (.slice none 0 0) 24 := ⟨by kernel_rfl, by kernel_rfl⟩
theorem tf42 : TF Try.prog 42 2 true (.agg #[.slice none 0 0, .slice none 0 0]) 48 := ⟨by kernel_rfl, by kernel_rfl⟩
theorem tf46 : TF Try.prog 46 1 false (.slice none 0 0) 24 := ⟨by kernel_rfl, by kernel_rfl⟩
theorem tf47 : TF Try.prog 47 1 false (.slice none 0 0) 24 := ⟨by kernel_rfl, by kernel_rfl⟩
theorem tf49 : TF Try.prog 49 3 true (.agg #[.int .i64 0, .slice none 0 0, .slice none 0 0]) 56 := ⟨by kernel_rfl, by kernel_rfl⟩
theorem tf58 : TF Try.prog 58 1 false (.slice none 0 0) 24 := ⟨by kernel_rfl, by kernel_rfl⟩
theorem tf60 : TF Try.prog 60 3 true (.agg #[.string ⟨#[]⟩, .string ⟨#[]⟩, .slice none 0 0]) 56 := ⟨by kernel_rfl, by kernel_rfl⟩
theorem tf64 : TF Try.prog 64 2 true (.agg #[.int .i64 0, .slice none 0 0]) 32 := ⟨by kernel_rfl, by kernel_rfl⟩
theorem tf74 : TF Try.prog 74 2 true (.agg #[.string ⟨#[]⟩, .int .i64 0]) 24 := ⟨by kernel_rfl, by kernel_rfl⟩
theorem tf100 : TF Try.prog 100 4 true (.agg #[.string ⟨#[]⟩, .int .i64 0, .int .i64 0, .int .i64 0]) 40 := ⟨by kernel_rfl, by kernel_rfl⟩
theorem tf105 : TF Try.prog 105 2 true (.agg #[.slice none 0 0, .string ⟨#[]⟩]) 40 := ⟨by kernel_rfl, by kernel_rfl⟩
theorem tf107 : TF Try.prog 107 2 true (.agg #[.string ⟨#[]⟩, .string ⟨#[]⟩]) 32 := ⟨by kernel_rfl, by kernel_rfl⟩
theorem tf122 : TF Try.prog 122 2 true (.agg #[.slice none 0 0, .int .i64 0]) 32 := ⟨by kernel_rfl, by kernel_rfl⟩
theorem tf133 : TF Try.prog 133 2 true (.agg #[.string ⟨#[]⟩, .int .i64 0]) 24 := ⟨by kernel_rfl, by kernel_rfl⟩
theorem ff39_0 : FF Try.prog 39 0 0 := by unfold FF; kernel_rfl
theorem ff39_1 : FF Try.prog 39 1 1 := by unfold FF; kernel_rfl
theorem ff42_0 : FF Try.prog 42 0 0 := by unfold FF; kernel_rfl
theorem ff42_1 : FF Try.prog 42 1 1 := by unfold FF; kernel_rfl
theorem ff49_0 : FF Try.prog 49 0 0 := by unfold FF; kernel_rfl
theorem ff49_1 : FF Try.prog 49 1 1 := by unfold FF; kernel_rfl
theorem ff49_2 : FF Try.prog 49 2 2 := by unfold FF; kernel_rfl
theorem ff60_0 : FF Try.prog 60 0 0 := by unfold FF; kernel_rfl
theorem ff60_1 : FF Try.prog 60 1 1 := by unfold FF; kernel_rfl
theorem ff60_2 : FF Try.prog 60 2 2 := by unfold FF; kernel_rfl
theorem ff64_0 : FF Try.prog 64 0 0 := by unfold FF; kernel_rfl
theorem ff64_1 : FF Try.prog 64 1 1 := by unfold FF; kernel_rfl
theorem ff74_0 : FF Try.prog 74 0 0 := by unfold FF; kernel_rfl
theorem ff74_1 : FF Try.prog 74 1 1 := by unfold FF; kernel_rfl
theorem ff100_0 : FF Try.prog 100 0 0 := by unfold FF; kernel_rfl
theorem ff100_1 : FF Try.prog 100 1 1 := by unfold FF; kernel_rfl
theorem ff100_3 : FF Try.prog 100 3 3 := by unfold FF; kernel_rfl
theorem ff105_0 : FF Try.prog 105 0 0 := by unfold FF; kernel_rfl
theorem ff105_1 : FF Try.prog 105 1 1 := by unfold FF; kernel_rfl
theorem ff107_0 : FF Try.prog 107 0 0 := by unfold FF; kernel_rfl
theorem ff107_1 : FF Try.prog 107 1 1 := by unfold FF; kernel_rfl
theorem ff122_0 : FF Try.prog 122 0 0 := by unfold FF; kernel_rfl
theorem ff122_1 : FF Try.prog 122 1 1 := by unfold FF; kernel_rfl
theorem ff133_0 : FF Try.prog 133 0 0 := by unfold FF; kernel_rfl
theorem ff133_1 : FF Try.prog 133 1 1 := by unfold FF; kernel_rfl
theorem fg42_1 : FG Try.prog 42 1 40 1 := by unfold FG; kernel_rfl
theorem sp39 : SPlaces Try.prog 39 = some [(0, 1), (1, 1)] := by kernel_rfl
theorem sp42 : SPlaces Try.prog 42 = some [(0, 1), (1, 1)] := by kernel_rfl
theorem sp49 : SPlaces Try.prog 49 = some [(0, 1), (1, 1), (2, 1)] := by kernel_rfl
theorem sp60 : SPlaces Try.prog 60 = some [(0, 1), (1, 1), (2, 1)] := by kernel_rfl
theorem sp64 : SPlaces Try.prog 64 = some [(0, 1), (1, 1)] := by kernel_rfl
theorem sp74 : SPlaces Try.prog 74 = some [(0, 1), (1, 1)] := by kernel_rfl
theorem sp100 : SPlaces Try.prog 100 = some [(0, 1), (1, 1), (2, 1), (3, 1)] := by kernel_rfl
theorem sp105 : SPlaces Try.prog 105 = some [(0, 1), (1, 1)] := by kernel_rfl
theorem sp107 : SPlaces Try.prog 107 = some [(0, 1), (1, 1)] := by kernel_rfl
theorem sp122 : SPlaces Try.prog 122 = some [(0, 1), (1, 1)] := by kernel_rfl
theorem sp133 : SPlaces Try.prog 133 = some [(0, 1), (1, 1)] := by kernel_rfl
theorem eqg107 : Try.prog.eqGuardType Try.prog.depth 107 = false := by kernel_rfl
theorem fo107 : (Try.prog.fieldsOf 107).toList = [⟨ "Name", 9, 0, false, "", "", 0⟩, ⟨ "Text", 9, 1, false, "", "", 16⟩] := by kernel_rfl
theorem eqs107 (a0 : Str) (a1 : Str) (b0 : Str) (b1 : Str) (w : World) : (Op.equalIn 10000 107 (.agg #[sv a0, sv a1]) (.agg #[sv b0, sv b1])).run Try.prog w = .ok ((a0 == b0) && ((a1 == b1))) w := by
  have h : (Op.eqFields 9999 #[sv a0, sv a1] #[sv b0, sv b1] (Try.prog.fieldsOf 107).toList).run Try.prog w = .ok ((a0 == b0) && ((a1 == b1) && (true))) w := by
    rw [fo107]
    exact (eqF_cons (by decide) (part_one w Try.underlying9 rfl rfl) (part_one w Try.underlying9 rfl rfl) (eqIn_s 9998 w a0 b0 Try.underlying9) (eqF_cons (by decide) (part_one w Try.underlying9 rfl rfl) (part_one w Try.underlying9 rfl rfl) (eqIn_s 9998 w a1 b1 Try.underlying9) (eqF_nil 9999 _ _ w)))
  rw [run_equalIn_struct w 9999 107 _ _ (by kernel_rfl) (by kernel_rfl), h]
  simp only [Bool.and_true]
theorem eqg133 : Try.prog.eqGuardType Try.prog.depth 133 = false := by kernel_rfl
theorem fo133 : (Try.prog.fieldsOf 133).toList = [⟨ "Name", 9, 0, false, "", "", 0⟩, ⟨ "Num", 3, 1, false, "", "", 16⟩] := by kernel_rfl
theorem eqs133 (a0 : Str) (a1 : Int) (b0 : Str) (b1 : Int) (w : World) : (Op.equalIn 10000 133 (.agg #[sv a0, .int .i64 a1]) (.agg #[sv b0, .int .i64 b1])).run Try.prog w = .ok ((a0 == b0) && ((a1 == b1))) w := by
  have h : (Op.eqFields 9999 #[sv a0, .int .i64 a1] #[sv b0, .int .i64 b1] (Try.prog.fieldsOf 133).toList).run Try.prog w = .ok ((a0 == b0) && ((a1 == b1) && (true))) w := by
    rw [fo133]
    exact (eqF_cons (by decide) (part_one w Try.underlying9 rfl rfl) (part_one w Try.underlying9 rfl rfl) (eqIn_s 9998 w a0 b0 Try.underlying9) (eqF_cons (by decide) (part_one w Try.underlying3 rfl rfl) (part_one w Try.underlying3 rfl rfl) (eqIn_i 9998 w a1 b1 Try.underlying3) (eqF_nil 9999 _ _ w)))
  rw [run_equalIn_struct w 9999 133 _ _ (by kernel_rfl) (by kernel_rfl), h]
  simp only [Bool.and_true]
theorem sortLay64 : SlLaysF0.n6 Try.prog Try.sortLay64_ren := Try.sortLay64
theorem sortNone64 (p : Option Addr) (cap : Nat) (fv : Value) (w : World) : Calls Try.prog (Try.sortLay64_ren.f 6) #[.slice p 0 cap, fv] w fun e w' => e = .returned (.tuple #[]) ∧ w' = w := Go.Proofs.AnyF.slices_SortFunc_none sortLay64 p cap fv w
theorem co12 : CallOk Try.prog 12 := ⟨_, Try.func12, by kernel_rfl, rfl⟩
theorem co18 : CallOk Try.prog 18 := ⟨_, Try.func18, by kernel_rfl, rfl⟩
theorem co20 : CallOk Try.prog 20 := ⟨_, Try.func20, by kernel_rfl, rfl⟩
theorem co21 : CallOk Try.prog 21 := ⟨_, Try.func21, by kernel_rfl, rfl⟩
theorem co22 : CallOk Try.prog 22 := ⟨_, Try.func22, by kernel_rfl, rfl⟩
theorem co23 : CallOk Try.prog 23 := ⟨_, Try.func23, by kernel_rfl, rfl⟩
theorem co24 : CallOk Try.prog 24 := ⟨_, Try.func24, by kernel_rfl, rfl⟩
theorem co25 : CallOk Try.prog 25 := ⟨_, Try.func25, by kernel_rfl, rfl⟩
theorem co26 : CallOk Try.prog 26 := ⟨_, Try.func26, by kernel_rfl, rfl⟩
theorem co27 : CallOk Try.prog 27 := ⟨_, Try.func27, by kernel_rfl, rfl⟩
theorem co28 : CallOk Try.prog 28 := ⟨_, Try.func28, by kernel_rfl, rfl⟩
theorem co34 : CallOk Try.prog 34 := ⟨_, Try.func34, by kernel_rfl, rfl⟩
theorem co35 : CallOk Try.prog 35 := ⟨_, Try.func35, by kernel_rfl, rfl⟩
theorem co36 : CallOk Try.prog 36 := ⟨_, Try.func36, by kernel_rfl, rfl⟩
theorem co38 : CallOk Try.prog 38 := ⟨_, Try.func38, by kernel_rfl, rfl⟩
theorem co42 : CallOk Try.prog 42 := ⟨_, Try.func42, by kernel_rfl, rfl⟩
theorem co44 : CallOk Try.prog 44 := ⟨_, Try.func44, by kernel_rfl, rfl⟩
theorem co47 : CallOk Try.prog 47 := ⟨_, Try.func47, by kernel_rfl, rfl⟩
theorem co48 : CallOk Try.prog 48 := ⟨_, Try.func48, by kernel_rfl, rfl⟩
theorem co50 : CallOk Try.prog 50 := ⟨_, Try.func50, by kernel_rfl, rfl⟩
theorem co56 : CallOk Try.prog 56 := ⟨_, Try.func56, by kernel_rfl, rfl⟩
theorem co57 : CallOk Try.prog 57 := ⟨_, Try.func57, by kernel_rfl, rfl⟩
theorem co58 : CallOk Try.prog 58 := ⟨_, Try.func58, by kernel_rfl, rfl⟩
theorem co59 : CallOk Try.prog 59 := ⟨_, Try.func59, by kernel_rfl, rfl⟩
theorem co60 : CallOk Try.prog 60 := ⟨_, Try.func60, by kernel_rfl, rfl⟩
theorem co61 : CallOk Try.prog 61 := ⟨_, Try.func61, by kernel_rfl, rfl⟩
theorem co62 : CallOk Try.prog 62 := ⟨_, Try.func62, by kernel_rfl, rfl⟩
theorem co63 : CallOk Try.prog 63 := ⟨_, Try.func63, by kernel_rfl, rfl⟩
theorem co64 : CallOk Try.prog 64 := ⟨_, Try.func64, by kernel_rfl, rfl⟩
theorem co66 : CallOk Try.prog 66 := ⟨_, Try.func66, by kernel_rfl, rfl⟩
theorem co67 : CallOk Try.prog 67 := ⟨_, Try.func67, by kernel_rfl, rfl⟩
theorem co68 : CallOk Try.prog 68 := ⟨_, Try.func68, by kernel_rfl, rfl⟩
theorem co69 : CallOk Try.prog 69 := ⟨_, Try.func69, by kernel_rfl, rfl⟩
theorem co70 : CallOk Try.prog 70 := ⟨_, Try.func70, by kernel_rfl, rfl⟩
theorem co71 : CallOk Try.prog 71 := ⟨_, Try.func71, by kernel_rfl, rfl⟩
theorem co72 : CallOk Try.prog 72 := ⟨_, Try.func72, by kernel_rfl, rfl⟩
theorem co73 : CallOk Try.prog 73 := ⟨_, Try.func73, by kernel_rfl, rfl⟩
theorem co74 : CallOk Try.prog 74 := ⟨_, Try.func74, by kernel_rfl, rfl⟩
theorem co75 : CallOk Try.prog 75 := ⟨_, Try.func75, by kernel_rfl, rfl⟩
theorem co77 : CallOk Try.prog 77 := ⟨_, Try.func77, by kernel_rfl, rfl⟩
theorem co78 : CallOk Try.prog 78 := ⟨_, Try.func78, by kernel_rfl, rfl⟩
theorem co84 : CallOk Try.prog 84 := ⟨_, Try.func84, by kernel_rfl, rfl⟩
theorem co85 : CallOk Try.prog 85 := ⟨_, Try.func85, by kernel_rfl, rfl⟩
theorem co93 : CallOk Try.prog 93 := ⟨_, Try.func93, by kernel_rfl, rfl⟩
theorem co94 : CallOk Try.prog 94 := ⟨_, Try.func94, by kernel_rfl, rfl⟩
theorem co95 : CallOk Try.prog 95 := ⟨_, Try.func95, by kernel_rfl, rfl⟩
theorem co96 : CallOk Try.prog 96 := ⟨_, Try.func96, by kernel_rfl, rfl⟩
theorem co97 : CallOk Try.prog 97 := ⟨_, Try.func97, by kernel_rfl, rfl⟩
theorem co98 : CallOk Try.prog 98 := ⟨_, Try.func98, by kernel_rfl, rfl⟩
theorem co99 : CallOk Try.prog 99 := ⟨_, Try.func99, by kernel_rfl, rfl⟩
theorem co101 : CallOk Try.prog 101 := ⟨_, Try.func101, by kernel_rfl, rfl⟩
theorem co102 : CallOk Try.prog 102 := ⟨_, Try.func102, by kernel_rfl, rfl⟩
theorem co103 : CallOk Try.prog 103 := ⟨_, Try.func103, by kernel_rfl, rfl⟩
theorem co104 : CallOk Try.prog 104 := ⟨_, Try.func104, by kernel_rfl, rfl⟩
theorem co105 : CallOk Try.prog 105 := ⟨_, Try.func105, by kernel_rfl, rfl⟩
theorem co106 : CallOk Try.prog 106 := ⟨_, Try.func106, by kernel_rfl, rfl⟩
theorem co107 : CallOk Try.prog 107 := ⟨_, Try.func107, by kernel_rfl, rfl⟩
theorem co108 : CallOk Try.prog 108 := ⟨_, Try.func108, by kernel_rfl, rfl⟩
theorem co109 : CallOk Try.prog 109 := ⟨_, Try.func109, by kernel_rfl, rfl⟩
theorem co110 : CallOk Try.prog 110 := ⟨_, Try.func110, by kernel_rfl, rfl⟩
theorem co111 : CallOk Try.prog 111 := ⟨_, Try.func111, by kernel_rfl, rfl⟩
theorem co112 : CallOk Try.prog 112 := ⟨_, Try.func112, by kernel_rfl, rfl⟩
theorem co113 : CallOk Try.prog 113 := ⟨_, Try.func113, by kernel_rfl, rfl⟩
theorem co125 : CallOk Try.prog 125 := ⟨_, Try.func125, by kernel_rfl, rfl⟩
theorem co127 : CallOk Try.prog 127 := ⟨_, Try.func127, by kernel_rfl, rfl⟩
theorem co136 : CallOk Try.prog 136 := ⟨_, Try.func136, by kernel_rfl, rfl⟩
theorem co137 : CallOk Try.prog 137 := ⟨_, Try.func137, by kernel_rfl, rfl⟩
theorem co138 : CallOk Try.prog 138 := ⟨_, Try.func138, by kernel_rfl, rfl⟩
theorem co139 : CallOk Try.prog 139 := ⟨_, Try.func139, by kernel_rfl, rfl⟩
theorem co140 : CallOk Try.prog 140 := ⟨_, Try.func140, by kernel_rfl, rfl⟩
theorem co141 : CallOk Try.prog 141 := ⟨_, Try.func141, by kernel_rfl, rfl⟩
theorem co142 : CallOk Try.prog 142 := ⟨_, Try.func142, by kernel_rfl, rfl⟩
theorem co143 : CallOk Try.prog 143 := ⟨_, Try.func143, by kernel_rfl, rfl⟩
theorem co152 : CallOk Try.prog 152 := ⟨_, Try.func152, by kernel_rfl, rfl⟩
theorem co153 : CallOk Try.prog 153 := ⟨_, Try.func153, by kernel_rfl, rfl⟩
theorem co154 : CallOk Try.prog 154 := ⟨_, Try.func154, by kernel_rfl, rfl⟩
theorem co155 : CallOk Try.prog 155 := ⟨_, Try.func155, by kernel_rfl, rfl⟩
theorem co158 : CallOk Try.prog 158 := ⟨_, Try.func158, by kernel_rfl, rfl⟩
theorem co159 : CallOk Try.prog 159 := ⟨_, Try.func159, by kernel_rfl, rfl⟩
end Go.Proofs.Ytdcmmhjhffcnhaa
