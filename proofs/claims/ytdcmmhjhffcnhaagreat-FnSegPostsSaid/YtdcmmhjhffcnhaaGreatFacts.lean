/-
  Closed facts on the program's tables. Printed by gen.py.
-/
import Derived.Test.YtdcmmhjhffcnhaaGreatModel
import Derived.Test.YtdcmmhjhffcnhaaGreatChecked
import Derived.KernelRfl
import Derived.Test.YtdcmmhjhffcnhaaGreatCoreQ
import Derived.Shelf.SlSortCmp.NoneTotal
import Derived.Test.YtdcmmhjhffcnhaaGreatSortLay72
import Derived.Test.YtdcmmhjhffcnhaaGreatSegI
import Derived.Test.YtdcmmhjhffcnhaaGreatCoreV
namespace Go.Proofs.YtdcmmhjhffcnhaaGreat
open Go Go.Fk

theorem mixed : Tryz.prog.follows .mixedOrders = true := by kernel_rfl
theorem tf3 : TF Tryz.prog 3 1 false (.int .i64 0) 8 := ⟨by kernel_rfl, by kernel_rfl⟩
theorem tf5 : TF Tryz.prog 5 1 false (.int .u8 0) 1 := ⟨by kernel_rfl, by kernel_rfl⟩
theorem tf9 : TF Tryz.prog 9 1 false (.string ⟨#[]⟩) 16 := ⟨by kernel_rfl, by kernel_rfl⟩
theorem tf22 : TF Tryz.prog 22 1 false (.slice none 0 0) 24 := ⟨by kernel_rfl, by kernel_rfl⟩
theorem tf23 : TF Tryz.prog 23 1 false (.slice none 0 0) 24 := ⟨by kernel_rfl, by kernel_rfl⟩
theorem tf24 : TF Tryz.prog 24 1 false (.slice none 0 0) 24 := ⟨by kernel_rfl, by kernel_rfl⟩
theorem tf26 : TF Tryz.prog 26 2 true (.agg #[.slice none 0 0, .slice none 0 0]) 48 := ⟨by kernel_rfl, by kernel_rfl⟩
theorem tf27 : TF Tryz.prog 27 1 false (.slice none 0 0) 24 := ⟨by kernel_rfl, by kernel_rfl⟩
theorem tf28 : TF Tryz.prog 28 1 false (.slice none 0 0) 24 := ⟨by kernel_rfl, by kernel_rfl⟩
theorem tf30 : TF Tryz.prog 30 2 true (.agg #[.slice none 0 0, .slice none 0 0]) 48 := ⟨by kernel_rfl, by kernel_rfl⟩
theorem tf33 : TF Tryz.prog 33 1 false (.slice none 0 0) 24 := ⟨by kernel_rfl, by kernel_rfl⟩
theorem tf37 : TF Tryz.prog 37 1 false (.slice none 0 0) 24 := ⟨by kernel_rfl, by kernel_rfl⟩
theorem tf41 : TF Tryz.prog 41 1 false (.slice none 0 0) 24 := ⟨by kernel_rfl, by kernel_rfl⟩
theorem tf42 : TF Tryz.prog 42 1 false (.slice none 0 0) 24 := ⟨by kernel_rfl, by kernel_rfl⟩
theorem tf44 : TF Tryz.prog 44 3 true (.agg #[.int .i64 0, .slice none 0 0, .slice none 0 0]) 56 := ⟨by kernel_rfl, by kernel_rfl⟩
theorem tf46 : TF Tryz.prog 46 2 true (.agg #[.string ⟨#[]⟩, .int .i64 0]) 24 := ⟨by kernel_rfl, by kernel_rfl⟩
theorem tf48 : TF Tryz.prog 48 2 true (.agg #[.int .i64 0, .slice none 0 0]) 32 := ⟨by kernel_rfl, by kernel_rfl⟩
theorem tf94 : TF Tryz.prog 94 3 true (.agg #[.string ⟨#[]⟩, .string ⟨#[]⟩, .slice none 0 0]) 56 := ⟨by kernel_rfl, by kernel_rfl⟩
theorem tf100 : TF Tryz.prog 100 4 true (.agg #[.string ⟨#[]⟩, .int .i64 0, .int .i64 0, .int .i64 0]) 40 := ⟨by kernel_rfl, by kernel_rfl⟩
theorem tf106 : TF Tryz.prog 106 2 true (.agg #[.slice none 0 0, .string ⟨#[]⟩]) 40 := ⟨by kernel_rfl, by kernel_rfl⟩
theorem tf109 : TF Tryz.prog 109 2 true (.agg #[.string ⟨#[]⟩, .string ⟨#[]⟩]) 32 := ⟨by kernel_rfl, by kernel_rfl⟩
theorem tf141 : TF Tryz.prog 141 2 true (.agg #[.slice none 0 0, .int .i64 0]) 32 := ⟨by kernel_rfl, by kernel_rfl⟩
theorem tf152 : TF Tryz.prog 152 2 true (.agg #[.string ⟨#[]⟩, .int .i64 0]) 24 := ⟨by kernel_rfl, by kernel_rfl⟩
theorem ff26_0 : FF Tryz.prog 26 0 0 := by unfold FF; kernel_rfl
theorem ff26_1 : FF Tryz.prog 26 1 1 := by unfold FF; kernel_rfl
theorem ff30_0 : FF Tryz.prog 30 0 0 := by unfold FF; kernel_rfl
theorem ff30_1 : FF Tryz.prog 30 1 1 := by unfold FF; kernel_rfl
theorem ff44_0 : FF Tryz.prog 44 0 0 := by unfold FF; kernel_rfl
theorem ff44_1 : FF Tryz.prog 44 1 1 := by unfold FF; kernel_rfl
theorem ff44_2 : FF Tryz.prog 44 2 2 := by unfold FF; kernel_rfl
theorem ff46_0 : FF Tryz.prog 46 0 0 := by unfold FF; kernel_rfl
theorem ff46_1 : FF Tryz.prog 46 1 1 := by unfold FF; kernel_rfl
theorem ff48_0 : FF Tryz.prog 48 0 0 := by unfold FF; kernel_rfl
theorem ff48_1 : FF Tryz.prog 48 1 1 := by unfold FF; kernel_rfl
theorem ff94_0 : FF Tryz.prog 94 0 0 := by unfold FF; kernel_rfl
theorem ff94_1 : FF Tryz.prog 94 1 1 := by unfold FF; kernel_rfl
theorem ff94_2 : FF Tryz.prog 94 2 2 := by unfold FF; kernel_rfl
theorem ff100_0 : FF Tryz.prog 100 0 0 := by unfold FF; kernel_rfl
theorem ff100_1 : FF Tryz.prog 100 1 1 := by unfold FF; kernel_rfl
theorem ff100_3 : FF Tryz.prog 100 3 3 := by unfold FF; kernel_rfl
theorem ff106_0 : FF Tryz.prog 106 0 0 := by unfold FF; kernel_rfl
theorem ff106_1 : FF Tryz.prog 106 1 1 := by unfold FF; kernel_rfl
theorem ff109_0 : FF Tryz.prog 109 0 0 := by unfold FF; kernel_rfl
theorem ff109_1 : FF Tryz.prog 109 1 1 := by unfold FF; kernel_rfl
theorem ff141_0 : FF Tryz.prog 141 0 0 := by unfold FF; kernel_rfl
theorem ff141_1 : FF Tryz.prog 141 1 1 := by unfold FF; kernel_rfl
theorem ff152_0 : FF Tryz.prog 152 0 0 := by unfold FF; kernel_rfl
theorem ff152_1 : FF Tryz.prog 152 1 1 := by unfold FF; kernel_rfl
theorem fg30_1 : FG Tryz.prog 30 1 28 1 := by unfold FG; kernel_rfl
theorem sp26 : SPlaces Tryz.prog 26 = some [(0, 1), (1, 1)] := by kernel_rfl
theorem sp30 : SPlaces Tryz.prog 30 = some [(0, 1), (1, 1)] := by kernel_rfl
theorem sp44 : SPlaces Tryz.prog 44 = some [(0, 1), (1, 1), (2, 1)] := by kernel_rfl
theorem sp46 : SPlaces Tryz.prog 46 = some [(0, 1), (1, 1)] := by kernel_rfl
theorem sp48 : SPlaces Tryz.prog 48 = some [(0, 1), (1, 1)] := by kernel_rfl
theorem sp94 : SPlaces Tryz.prog 94 = some [(0, 1), (1, 1), (2, 1)] := by kernel_rfl
theorem sp100 : SPlaces Tryz.prog 100 = some [(0, 1), (1, 1), (2, 1), (3, 1)] := by kernel_rfl
theorem sp106 : SPlaces Tryz.prog 106 = some [(0, 1), (1, 1)] := by kernel_rfl
theorem sp109 : SPlaces Tryz.prog 109 = some [(0, 1), (1, 1)] := by kernel_rfl
theorem sp141 : SPlaces Tryz.prog 141 = some [(0, 1), (1, 1)] := by kernel_rfl
theorem sp152 : SPlaces Tryz.prog 152 = some [(0, 1), (1, 1)] := by kernel_rfl
theorem sortLay72 : SlLaysF0.n6 Tryz.prog Tryz.sortLay72_ren := Tryz.sortLay72
theorem sortNone72 (p : Option Addr) (cap : Nat) (fv : Value) (w : World) : Calls Tryz.prog (Tryz.sortLay72_ren.f 6) #[.slice p 0 cap, fv] w fun e w' => e = .returned (.tuple #[]) ∧ w' = w := Go.Proofs.AnyF.slices_SortFunc_none sortLay72 p cap fv w
theorem co9 : CallOk Tryz.prog 9 := ⟨_, Tryz.func9, by kernel_rfl, rfl⟩
theorem co10 : CallOk Tryz.prog 10 := ⟨_, Tryz.func10, by kernel_rfl, rfl⟩
theorem co11 : CallOk Tryz.prog 11 := ⟨_, Tryz.func11, by kernel_rfl, rfl⟩
theorem co12 : CallOk Tryz.prog 12 := ⟨_, Tryz.func12, by kernel_rfl, rfl⟩
theorem co13 : CallOk Tryz.prog 13 := ⟨_, Tryz.func13, by kernel_rfl, rfl⟩
theorem co14 : CallOk Tryz.prog 14 := ⟨_, Tryz.func14, by kernel_rfl, rfl⟩
theorem co15 : CallOk Tryz.prog 15 := ⟨_, Tryz.func15, by kernel_rfl, rfl⟩
theorem co16 : CallOk Tryz.prog 16 := ⟨_, Tryz.func16, by kernel_rfl, rfl⟩
theorem co17 : CallOk Tryz.prog 17 := ⟨_, Tryz.func17, by kernel_rfl, rfl⟩
theorem co23 : CallOk Tryz.prog 23 := ⟨_, Tryz.func23, by kernel_rfl, rfl⟩
theorem co43 : CallOk Tryz.prog 43 := ⟨_, Tryz.func43, by kernel_rfl, rfl⟩
theorem co44 : CallOk Tryz.prog 44 := ⟨_, Tryz.func44, by kernel_rfl, rfl⟩
theorem co45 : CallOk Tryz.prog 45 := ⟨_, Tryz.func45, by kernel_rfl, rfl⟩
theorem co46 : CallOk Tryz.prog 46 := ⟨_, Tryz.func46, by kernel_rfl, rfl⟩
theorem co47 : CallOk Tryz.prog 47 := ⟨_, Tryz.func47, by kernel_rfl, rfl⟩
theorem co48 : CallOk Tryz.prog 48 := ⟨_, Tryz.func48, by kernel_rfl, rfl⟩
theorem co49 : CallOk Tryz.prog 49 := ⟨_, Tryz.func49, by kernel_rfl, rfl⟩
theorem co50 : CallOk Tryz.prog 50 := ⟨_, Tryz.func50, by kernel_rfl, rfl⟩
theorem co51 : CallOk Tryz.prog 51 := ⟨_, Tryz.func51, by kernel_rfl, rfl⟩
theorem co52 : CallOk Tryz.prog 52 := ⟨_, Tryz.func52, by kernel_rfl, rfl⟩
theorem co53 : CallOk Tryz.prog 53 := ⟨_, Tryz.func53, by kernel_rfl, rfl⟩
theorem co54 : CallOk Tryz.prog 54 := ⟨_, Tryz.func54, by kernel_rfl, rfl⟩
theorem co55 : CallOk Tryz.prog 55 := ⟨_, Tryz.func55, by kernel_rfl, rfl⟩
theorem co56 : CallOk Tryz.prog 56 := ⟨_, Tryz.func56, by kernel_rfl, rfl⟩
theorem co57 : CallOk Tryz.prog 57 := ⟨_, Tryz.func57, by kernel_rfl, rfl⟩
theorem co58 : CallOk Tryz.prog 58 := ⟨_, Tryz.func58, by kernel_rfl, rfl⟩
theorem co59 : CallOk Tryz.prog 59 := ⟨_, Tryz.func59, by kernel_rfl, rfl⟩
theorem co60 : CallOk Tryz.prog 60 := ⟨_, Tryz.func60, by kernel_rfl, rfl⟩
theorem co64 : CallOk Tryz.prog 64 := ⟨_, Tryz.func64, by kernel_rfl, rfl⟩
theorem co65 : CallOk Tryz.prog 65 := ⟨_, Tryz.func65, by kernel_rfl, rfl⟩
theorem co66 : CallOk Tryz.prog 66 := ⟨_, Tryz.func66, by kernel_rfl, rfl⟩
theorem co70 : CallOk Tryz.prog 70 := ⟨_, Tryz.func70, by kernel_rfl, rfl⟩
theorem co71 : CallOk Tryz.prog 71 := ⟨_, Tryz.func71, by kernel_rfl, rfl⟩
theorem co72 : CallOk Tryz.prog 72 := ⟨_, Tryz.func72, by kernel_rfl, rfl⟩
theorem co74 : CallOk Tryz.prog 74 := ⟨_, Tryz.func74, by kernel_rfl, rfl⟩
theorem co75 : CallOk Tryz.prog 75 := ⟨_, Tryz.func75, by kernel_rfl, rfl⟩
theorem co94 : CallOk Tryz.prog 94 := ⟨_, Tryz.func94, by kernel_rfl, rfl⟩
theorem co95 : CallOk Tryz.prog 95 := ⟨_, Tryz.func95, by kernel_rfl, rfl⟩
theorem co96 : CallOk Tryz.prog 96 := ⟨_, Tryz.func96, by kernel_rfl, rfl⟩
theorem co97 : CallOk Tryz.prog 97 := ⟨_, Tryz.func97, by kernel_rfl, rfl⟩
theorem co98 : CallOk Tryz.prog 98 := ⟨_, Tryz.func98, by kernel_rfl, rfl⟩
theorem co99 : CallOk Tryz.prog 99 := ⟨_, Tryz.func99, by kernel_rfl, rfl⟩
theorem co100 : CallOk Tryz.prog 100 := ⟨_, Tryz.func100, by kernel_rfl, rfl⟩
theorem co101 : CallOk Tryz.prog 101 := ⟨_, Tryz.func101, by kernel_rfl, rfl⟩
theorem co102 : CallOk Tryz.prog 102 := ⟨_, Tryz.func102, by kernel_rfl, rfl⟩
theorem co103 : CallOk Tryz.prog 103 := ⟨_, Tryz.func103, by kernel_rfl, rfl⟩
theorem co104 : CallOk Tryz.prog 104 := ⟨_, Tryz.func104, by kernel_rfl, rfl⟩
theorem co105 : CallOk Tryz.prog 105 := ⟨_, Tryz.func105, by kernel_rfl, rfl⟩
theorem co109 : CallOk Tryz.prog 109 := ⟨_, Tryz.func109, by kernel_rfl, rfl⟩
theorem co110 : CallOk Tryz.prog 110 := ⟨_, Tryz.func110, by kernel_rfl, rfl⟩
theorem co111 : CallOk Tryz.prog 111 := ⟨_, Tryz.func111, by kernel_rfl, rfl⟩
theorem co112 : CallOk Tryz.prog 112 := ⟨_, Tryz.func112, by kernel_rfl, rfl⟩
theorem co113 : CallOk Tryz.prog 113 := ⟨_, Tryz.func113, by kernel_rfl, rfl⟩
theorem co114 : CallOk Tryz.prog 114 := ⟨_, Tryz.func114, by kernel_rfl, rfl⟩
theorem co115 : CallOk Tryz.prog 115 := ⟨_, Tryz.func115, by kernel_rfl, rfl⟩
theorem co116 : CallOk Tryz.prog 116 := ⟨_, Tryz.func116, by kernel_rfl, rfl⟩
theorem co117 : CallOk Tryz.prog 117 := ⟨_, Tryz.func117, by kernel_rfl, rfl⟩
theorem co121 : CallOk Tryz.prog 121 := ⟨_, Tryz.func121, by kernel_rfl, rfl⟩
theorem co122 : CallOk Tryz.prog 122 := ⟨_, Tryz.func122, by kernel_rfl, rfl⟩
theorem co123 : CallOk Tryz.prog 123 := ⟨_, Tryz.func123, by kernel_rfl, rfl⟩
theorem co126 : CallOk Tryz.prog 126 := ⟨_, Tryz.func126, by kernel_rfl, rfl⟩
theorem co137 : CallOk Tryz.prog 137 := ⟨_, Tryz.func137, by kernel_rfl, rfl⟩
theorem co138 : CallOk Tryz.prog 138 := ⟨_, Tryz.func138, by kernel_rfl, rfl⟩
theorem co139 : CallOk Tryz.prog 139 := ⟨_, Tryz.func139, by kernel_rfl, rfl⟩
theorem co140 : CallOk Tryz.prog 140 := ⟨_, Tryz.func140, by kernel_rfl, rfl⟩
theorem co141 : CallOk Tryz.prog 141 := ⟨_, Tryz.func141, by kernel_rfl, rfl⟩
theorem co144 : CallOk Tryz.prog 144 := ⟨_, Tryz.func144, by kernel_rfl, rfl⟩
theorem co145 : CallOk Tryz.prog 145 := ⟨_, Tryz.func145, by kernel_rfl, rfl⟩
theorem co146 : CallOk Tryz.prog 146 := ⟨_, Tryz.func146, by kernel_rfl, rfl⟩
theorem co147 : CallOk Tryz.prog 147 := ⟨_, Tryz.func147, by kernel_rfl, rfl⟩
theorem co148 : CallOk Tryz.prog 148 := ⟨_, Tryz.func148, by kernel_rfl, rfl⟩
theorem co149 : CallOk Tryz.prog 149 := ⟨_, Tryz.func149, by kernel_rfl, rfl⟩
theorem co150 : CallOk Tryz.prog 150 := ⟨_, Tryz.func150, by kernel_rfl, rfl⟩
theorem co167 : CallOk Tryz.prog 167 := ⟨_, Tryz.func167, by kernel_rfl, rfl⟩
theorem co168 : CallOk Tryz.prog 168 := ⟨_, Tryz.func168, by kernel_rfl, rfl⟩
theorem co169 : CallOk Tryz.prog 169 := ⟨_, Tryz.func169, by kernel_rfl, rfl⟩
theorem co170 : CallOk Tryz.prog 170 := ⟨_, Tryz.func170, by kernel_rfl, rfl⟩
theorem co178 : CallOk Tryz.prog 178 := ⟨_, Tryz.func178, by kernel_rfl, rfl⟩
theorem co179 : CallOk Tryz.prog 179 := ⟨_, Tryz.func179, by kernel_rfl, rfl⟩
theorem co180 : CallOk Tryz.prog 180 := ⟨_, Tryz.func180, by kernel_rfl, rfl⟩
theorem co184 : CallOk Tryz.prog 184 := ⟨_, Tryz.func184, by kernel_rfl, rfl⟩
end Go.Proofs.YtdcmmhjhffcnhaaGreat
