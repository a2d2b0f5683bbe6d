/-
  Closed facts on the program's tables. Printed by gen.py.
-/
import Derived.Test.YtdcmmhjhffcnhaaGreatModel
import Derived.Test.YtdcmmhjhffcnhaaGreatChecked
import Derived.KernelRfl
import Derived.Test.YtdcmmhjhffcnhaaGreatCoreQ
import Derived.Shelf.SlSortCmp.NoneTotal
import Derived.Test.YtdcmmhjhffcnhaaGreatSortLay72
import Derived.Test.YtdcmmhjhffcnhaaGreatSegI
import Derived.Test.YtdcmmhjhffcnhaaGreatCoreV
namespace Go.Proofs.YtdcmmhjhffcnhaaGreat
open Go Go.Fk

theorem mixed : Tryz.prog.follows .mixedOrders = true := by kernel_rfl
theorem tf3 : TF Tryz.prog 3 1 false (.int .i64 0) 8 := ⟨by kernel_rfl, by kernel_rfl⟩
theorem tf5 : TF Tryz.prog 5 1 false (.int .u8 0) 1 := ⟨by kernel_rfl, by kernel_rfl⟩
theorem tf9 : TF Tryz.prog 9 1 false (.string ⟨#[]⟩) 16 := ⟨by kernel_rfl, by kernel_rfl⟩
theorem tf23 : TF Tryz.prog 23 1 false (.slice none 0 0) 24 := ⟨by kernel_rfl, by kernel_rfl⟩
theorem tf24 : TF Tryz.prog 24 1 false (.slice none 0 0) 24 := ⟨by kernel_rfl, by kernel_rfl⟩
theorem tf26 : TF Tryz.prog 26 2 true (.agg #[.slice none 0 0, .slice none 0 0]) 48 := ⟨by kernel_rfl, by kernel_rfl⟩
theorem tf27 : TF Tryz.prog 27 1 false (.slice none 0 0) 24 := ⟨by kernel_rfl, by kernel_rfl⟩
theorem tf28 : TF Tryz.prog 28 1 false (.slice none 0 0) 24 := ⟨by kernel_rfl, by kernel_rfl⟩
theorem tf30 : TF Tryz.prog 30 2 true (.agg #[.slice none 0 0, .slice none 0 0]) 48 := ⟨by kernel_rfl, by kernel_rfl⟩
theorem tf33 : TF Tryz.prog 33 1 false (.slice none 0 0) 24 := ⟨by kernel_rfl, by kernel_rfl⟩
theorem tf37 : TF Tryz.prog 37 1 false (.slice none 0 0) 24 := ⟨by kernel_rfl, by kernel_rfl⟩
theorem tf41 : TF Tryz.prog 41 1 false (.slice none 0 0) 24 := ⟨by kernel_rfl, by kernel_rfl⟩
theorem tf42 : TF Tryz.prog 42 1 false (.slice none 0 0) 24 := ⟨by kernel_rfl, by kernel_rfl⟩
theorem tf44 : TF Tryz.prog 44 3 true (.agg #[.int .i64 0, .slice none 0 0, .slice none 0 0]) 56 := ⟨by kernel_rfl, by kernel_rfl⟩
theorem tf46 : TF Tryz.prog 46 2 true (.agg #[.string ⟨#[]⟩, .int .i64 0]) 24 := ⟨by kernel_rfl, by kernel_rfl⟩
theorem tf48 : TF Tryz.prog 48 2 true (.agg #[.int .i64 0, .slice none 0 0]) 32 := ⟨by kernel_rfl, by kernel_rfl⟩
theorem tf51 : TF Tryz.prog 51 1 false (.slice none 0 0) 24 := ⟨by kernel_rfl, by kernel_rfl⟩
theorem tf53 : TF Tryz.prog 53 2 true (.agg #[.slice none 0 0, .slice none 0 0]) 48 := ⟨by kernel_rfl, by kernel_rfl⟩
theorem tf54 : TF Tryz.prog 54 1 false (.slice none 0 0) 24 := ⟨by kernel_rfl, by kernel_rfl⟩
theorem tf67 : TF Tryz.prog 67 1 false (.slice none 0 0) 24 := ⟨by kernel_rfl, by kernel_rfl⟩
theorem tf69 : TF Tryz.prog 69 2 true (.agg #[.slice none 0 0, .slice none 0 0]) 48 := ⟨by kernel_rfl, by kernel_rfl⟩
theorem tf94 : TF Tryz.prog 94 3 true (.agg #[.string ⟨#[]⟩, .string ⟨#[]⟩, .slice none 0 0]) 56 := ⟨by kernel_rfl, by kernel_rfl⟩
theorem tf100 : TF Tryz.prog 100 4 true (.agg #[.string ⟨#[]⟩, .int .i64 0, .int .i64 0, .int .i64 0]) 40 := ⟨by kernel_rfl, by kernel_rfl⟩
theorem tf106 : TF Tryz.prog 106 2 true (.agg #[.slice none 0 0, .string ⟨#[]⟩]) 40 := ⟨by kernel_rfl, by kernel_rfl⟩
theorem tf109 : TF Tryz.prog 109 2 true (.agg #[.string ⟨#[]⟩, .string ⟨#[]⟩]) 32 := ⟨by kernel_rfl, by kernel_rfl⟩
theorem tf112 : TF Tryz.prog 112 1 false (.slice none 0 0) 24 := ⟨by kernel_rfl, by kernel_rfl⟩
theorem tf113 : TF Tryz.prog 113 1 false (.slice none 0 0) 24 := ⟨by kernel_rfl, by kernel_rfl⟩
theorem tf115 : TF Tryz.prog 115 3 true (.agg #[.int .i64 0, .slice none 0 0, .slice none 0 0]) 56 := ⟨by kernel_rfl, by kernel_rfl⟩
theorem tf152 : TF Tryz.prog 152 2 true (.agg #[.string ⟨#[]⟩, .int .i64 0]) 24 := ⟨by kernel_rfl, by kernel_rfl⟩
theorem tf154 : TF Tryz.prog 154 2 true (.agg #[.slice none 0 0, .string ⟨#[]⟩]) 40 := ⟨by kernel_rfl, by kernel_rfl⟩
theorem tf174 : TF Tryz.prog 174 1 false (.slice none 0 0) 24 := ⟨by kernel_rfl, by kernel_rfl⟩
theorem tf176 : TF Tryz.prog 176 3 true (.agg #[.string ⟨#[]⟩, .string ⟨#[]⟩, .slice none 0 0]) 56 := ⟨by kernel_rfl, by kernel_rfl⟩
theorem tf183 : TF Tryz.prog 183 2 true (.agg #[.string ⟨#[]⟩, .string ⟨#[]⟩]) 32 := ⟨by kernel_rfl, by kernel_rfl⟩
theorem tf185 : TF Tryz.prog 185 2 true (.agg #[.string ⟨#[]⟩, .int .i64 0]) 24 := ⟨by kernel_rfl, by kernel_rfl⟩
theorem tf216 : TF Tryz.prog 216 2 true (.agg #[.int .i64 0, .slice none 0 0]) 32 := ⟨by kernel_rfl, by kernel_rfl⟩
theorem ff26_0 : FF Tryz.prog 26 0 0 := by unfold FF; kernel_rfl
theorem ff26_1 : FF Tryz.prog 26 1 1 := by unfold FF; kernel_rfl
theorem ff30_0 : FF Tryz.prog 30 0 0 := by unfold FF; kernel_rfl
theorem ff30_1 : FF Tryz.prog 30 1 1 := by unfold FF; kernel_rfl
theorem ff44_0 : FF Tryz.prog 44 0 0 := by unfold FF; kernel_rfl
theorem ff44_1 : FF Tryz.prog 44 1 1 := by unfold FF; kernel_rfl
theorem ff44_2 : FF Tryz.prog 44 2 2 := by unfold FF; kernel_rfl
theorem ff46_0 : FF Tryz.prog 46 0 0 := by unfold FF; kernel_rfl
theorem ff46_1 : FF Tryz.prog 46 1 1 := by unfold FF; kernel_rfl
theorem ff48_0 : FF Tryz.prog 48 0 0 := by unfold FF; kernel_rfl
theorem ff48_1 : FF Tryz.prog 48 1 1 := by unfold FF; kernel_rfl
theorem ff53_0 : FF Tryz.prog 53 0 0 := by unfold FF; kernel_rfl
theorem ff53_1 : FF Tryz.prog 53 1 1 := by unfold FF; kernel_rfl
theorem ff69_0 : FF Tryz.prog 69 0 0 := by unfold FF; kernel_rfl
theorem ff69_1 : FF Tryz.prog 69 1 1 := by unfold FF; kernel_rfl
theorem ff94_0 : FF Tryz.prog 94 0 0 := by unfold FF; kernel_rfl
theorem ff94_1 : FF Tryz.prog 94 1 1 := by unfold FF; kernel_rfl
theorem ff94_2 : FF Tryz.prog 94 2 2 := by unfold FF; kernel_rfl
theorem ff100_0 : FF Tryz.prog 100 0 0 := by unfold FF; kernel_rfl
theorem ff100_1 : FF Tryz.prog 100 1 1 := by unfold FF; kernel_rfl
theorem ff100_3 : FF Tryz.prog 100 3 3 := by unfold FF; kernel_rfl
theorem ff106_0 : FF Tryz.prog 106 0 0 := by unfold FF; kernel_rfl
theorem ff106_1 : FF Tryz.prog 106 1 1 := by unfold FF; kernel_rfl
theorem ff109_0 : FF Tryz.prog 109 0 0 := by unfold FF; kernel_rfl
theorem ff109_1 : FF Tryz.prog 109 1 1 := by unfold FF; kernel_rfl
theorem ff115_0 : FF Tryz.prog 115 0 0 := by unfold FF; kernel_rfl
theorem ff115_1 : FF Tryz.prog 115 1 1 := by unfold FF; kernel_rfl
theorem ff115_2 : FF Tryz.prog 115 2 2 := by unfold FF; kernel_rfl
theorem ff152_0 : FF Tryz.prog 152 0 0 := by unfold FF; kernel_rfl
theorem ff152_1 : FF Tryz.prog 152 1 1 := by unfold FF; kernel_rfl
theorem ff154_0 : FF Tryz.prog 154 0 0 := by unfold FF; kernel_rfl
theorem ff154_1 : FF Tryz.prog 154 1 1 := by unfold FF; kernel_rfl
theorem ff176_0 : FF Tryz.prog 176 0 0 := by unfold FF; kernel_rfl
theorem ff176_1 : FF Tryz.prog 176 1 1 := by unfold FF; kernel_rfl
theorem ff176_2 : FF Tryz.prog 176 2 2 := by unfold FF; kernel_rfl
theorem ff183_0 : FF Tryz.prog 183 0 0 := by unfold FF; kernel_rfl
theorem ff183_1 : FF Tryz.prog 183 1 1 := by unfold FF; kernel_rfl
theorem ff185_0 : FF Tryz.prog 185 0 0 := by unfold FF; kernel_rfl
theorem ff185_1 : FF Tryz.prog 185 1 1 := by unfold FF; kernel_rfl
theorem ff216_0 : FF Tryz.prog 216 0 0 := by unfold FF; kernel_rfl
theorem ff216_1 : FF Tryz.prog 216 1 1 := by unfold FF; kernel_rfl
theorem fg30_1 : FG Tryz.prog 30 1 28 1 := by unfold FG; kernel_rfl
theorem sp30 : SPlaces Tryz.prog 30 = some [(0, 1), (1, 1)] := by kernel_rfl
theorem sp44 : SPlaces Tryz.prog 44 = some [(0, 1), (1, 1), (2, 1)] := by kernel_rfl
theorem sp46 : SPlaces Tryz.prog 46 = some [(0, 1), (1, 1)] := by kernel_rfl
theorem sp48 : SPlaces Tryz.prog 48 = some [(0, 1), (1, 1)] := by kernel_rfl
theorem sp94 : SPlaces Tryz.prog 94 = some [(0, 1), (1, 1), (2, 1)] := by kernel_rfl
theorem sp100 : SPlaces Tryz.prog 100 = some [(0, 1), (1, 1), (2, 1), (3, 1)] := by kernel_rfl
theorem sortLay72 : SlLaysF0.n6 Tryz.prog Tryz.sortLay72_ren := Tryz.sortLay72
theorem sortNone72 (p : Option Addr) (cap : Nat) (fv : Value) (w : World) : Calls Tryz.prog (Tryz.sortLay72_ren.f 6) #[.slice p 0 cap, fv] w fun e w' => e = .returned (.tuple #[]) ∧ w' = w := Go.Proofs.AnyF.slices_SortFunc_none sortLay72 p cap fv w
theorem co13 : CallOk Tryz.prog 13 := ⟨_, Tryz.func13, by kernel_rfl, rfl⟩
theorem co15 : CallOk Tryz.prog 15 := ⟨_, Tryz.func15, by kernel_rfl, rfl⟩
theorem co16 : CallOk Tryz.prog 16 := ⟨_, Tryz.func16, by kernel_rfl, rfl⟩
theorem co18 : CallOk Tryz.prog 18 := ⟨_, Tryz.func18, by kernel_rfl, rfl⟩
theorem co19 : CallOk Tryz.prog 19 := ⟨_, Tryz.func19, by kernel_rfl, rfl⟩
theorem co21 : CallOk Tryz.prog 21 := ⟨_, Tryz.func21, by kernel_rfl, rfl⟩
theorem co22 : CallOk Tryz.prog 22 := ⟨_, Tryz.func22, by kernel_rfl, rfl⟩
theorem co23 : CallOk Tryz.prog 23 := ⟨_, Tryz.func23, by kernel_rfl, rfl⟩
theorem co24 : CallOk Tryz.prog 24 := ⟨_, Tryz.func24, by kernel_rfl, rfl⟩
theorem co25 : CallOk Tryz.prog 25 := ⟨_, Tryz.func25, by kernel_rfl, rfl⟩
theorem co26 : CallOk Tryz.prog 26 := ⟨_, Tryz.func26, by kernel_rfl, rfl⟩
theorem co31 : CallOk Tryz.prog 31 := ⟨_, Tryz.func31, by kernel_rfl, rfl⟩
theorem co32 : CallOk Tryz.prog 32 := ⟨_, Tryz.func32, by kernel_rfl, rfl⟩
theorem co33 : CallOk Tryz.prog 33 := ⟨_, Tryz.func33, by kernel_rfl, rfl⟩
theorem co34 : CallOk Tryz.prog 34 := ⟨_, Tryz.func34, by kernel_rfl, rfl⟩
theorem co37 : CallOk Tryz.prog 37 := ⟨_, Tryz.func37, by kernel_rfl, rfl⟩
theorem co40 : CallOk Tryz.prog 40 := ⟨_, Tryz.func40, by kernel_rfl, rfl⟩
theorem co48 : CallOk Tryz.prog 48 := ⟨_, Tryz.func48, by kernel_rfl, rfl⟩
theorem co51 : CallOk Tryz.prog 51 := ⟨_, Tryz.func51, by kernel_rfl, rfl⟩
theorem co52 : CallOk Tryz.prog 52 := ⟨_, Tryz.func52, by kernel_rfl, rfl⟩
theorem co53 : CallOk Tryz.prog 53 := ⟨_, Tryz.func53, by kernel_rfl, rfl⟩
theorem co54 : CallOk Tryz.prog 54 := ⟨_, Tryz.func54, by kernel_rfl, rfl⟩
theorem co55 : CallOk Tryz.prog 55 := ⟨_, Tryz.func55, by kernel_rfl, rfl⟩
theorem co56 : CallOk Tryz.prog 56 := ⟨_, Tryz.func56, by kernel_rfl, rfl⟩
theorem co57 : CallOk Tryz.prog 57 := ⟨_, Tryz.func57, by kernel_rfl, rfl⟩
theorem co58 : CallOk Tryz.prog 58 := ⟨_, Tryz.func58, by kernel_rfl, rfl⟩
theorem co59 : CallOk Tryz.prog 59 := ⟨_, Tryz.func59, by kernel_rfl, rfl⟩
theorem co60 : CallOk Tryz.prog 60 := ⟨_, Tryz.func60, by kernel_rfl, rfl⟩
theorem co61 : CallOk Tryz.prog 61 := ⟨_, Tryz.func61, by kernel_rfl, rfl⟩
theorem co62 : CallOk Tryz.prog 62 := ⟨_, Tryz.func62, by kernel_rfl, rfl⟩
theorem co63 : CallOk Tryz.prog 63 := ⟨_, Tryz.func63, by kernel_rfl, rfl⟩
theorem co64 : CallOk Tryz.prog 64 := ⟨_, Tryz.func64, by kernel_rfl, rfl⟩
theorem co65 : CallOk Tryz.prog 65 := ⟨_, Tryz.func65, by kernel_rfl, rfl⟩
theorem co66 : CallOk Tryz.prog 66 := ⟨_, Tryz.func66, by kernel_rfl, rfl⟩
theorem co67 : CallOk Tryz.prog 67 := ⟨_, Tryz.func67, by kernel_rfl, rfl⟩
theorem co68 : CallOk Tryz.prog 68 := ⟨_, Tryz.func68, by kernel_rfl, rfl⟩
theorem co69 : CallOk Tryz.prog 69 := ⟨_, Tryz.func69, by kernel_rfl, rfl⟩
theorem co70 : CallOk Tryz.prog 70 := ⟨_, Tryz.func70, by kernel_rfl, rfl⟩
theorem co71 : CallOk Tryz.prog 71 := ⟨_, Tryz.func71, by kernel_rfl, rfl⟩
theorem co72 : CallOk Tryz.prog 72 := ⟨_, Tryz.func72, by kernel_rfl, rfl⟩
theorem co74 : CallOk Tryz.prog 74 := ⟨_, Tryz.func74, by kernel_rfl, rfl⟩
theorem co75 : CallOk Tryz.prog 75 := ⟨_, Tryz.func75, by kernel_rfl, rfl⟩
theorem co76 : CallOk Tryz.prog 76 := ⟨_, Tryz.func76, by kernel_rfl, rfl⟩
theorem co77 : CallOk Tryz.prog 77 := ⟨_, Tryz.func77, by kernel_rfl, rfl⟩
theorem co78 : CallOk Tryz.prog 78 := ⟨_, Tryz.func78, by kernel_rfl, rfl⟩
theorem co85 : CallOk Tryz.prog 85 := ⟨_, Tryz.func85, by kernel_rfl, rfl⟩
theorem co86 : CallOk Tryz.prog 86 := ⟨_, Tryz.func86, by kernel_rfl, rfl⟩
theorem co87 : CallOk Tryz.prog 87 := ⟨_, Tryz.func87, by kernel_rfl, rfl⟩
theorem co88 : CallOk Tryz.prog 88 := ⟨_, Tryz.func88, by kernel_rfl, rfl⟩
theorem co91 : CallOk Tryz.prog 91 := ⟨_, Tryz.func91, by kernel_rfl, rfl⟩
theorem co96 : CallOk Tryz.prog 96 := ⟨_, Tryz.func96, by kernel_rfl, rfl⟩
theorem co97 : CallOk Tryz.prog 97 := ⟨_, Tryz.func97, by kernel_rfl, rfl⟩
theorem co98 : CallOk Tryz.prog 98 := ⟨_, Tryz.func98, by kernel_rfl, rfl⟩
theorem co99 : CallOk Tryz.prog 99 := ⟨_, Tryz.func99, by kernel_rfl, rfl⟩
theorem co100 : CallOk Tryz.prog 100 := ⟨_, Tryz.func100, by kernel_rfl, rfl⟩
theorem co101 : CallOk Tryz.prog 101 := ⟨_, Tryz.func101, by kernel_rfl, rfl⟩
theorem co102 : CallOk Tryz.prog 102 := ⟨_, Tryz.func102, by kernel_rfl, rfl⟩
theorem co103 : CallOk Tryz.prog 103 := ⟨_, Tryz.func103, by kernel_rfl, rfl⟩
theorem co104 : CallOk Tryz.prog 104 := ⟨_, Tryz.func104, by kernel_rfl, rfl⟩
theorem co105 : CallOk Tryz.prog 105 := ⟨_, Tryz.func105, by kernel_rfl, rfl⟩
theorem co106 : CallOk Tryz.prog 106 := ⟨_, Tryz.func106, by kernel_rfl, rfl⟩
theorem co107 : CallOk Tryz.prog 107 := ⟨_, Tryz.func107, by kernel_rfl, rfl⟩
theorem co108 : CallOk Tryz.prog 108 := ⟨_, Tryz.func108, by kernel_rfl, rfl⟩
theorem co109 : CallOk Tryz.prog 109 := ⟨_, Tryz.func109, by kernel_rfl, rfl⟩
theorem co110 : CallOk Tryz.prog 110 := ⟨_, Tryz.func110, by kernel_rfl, rfl⟩
theorem co111 : CallOk Tryz.prog 111 := ⟨_, Tryz.func111, by kernel_rfl, rfl⟩
theorem co112 : CallOk Tryz.prog 112 := ⟨_, Tryz.func112, by kernel_rfl, rfl⟩
theorem co113 : CallOk Tryz.prog 113 := ⟨_, Tryz.func113, by kernel_rfl, rfl⟩
theorem co114 : CallOk Tryz.prog 114 := ⟨_, Tryz.func114, by kernel_rfl, rfl⟩
theorem co115 : CallOk Tryz.prog 115 := ⟨_, Tryz.func115, by kernel_rfl, rfl⟩
theorem co116 : CallOk Tryz.prog 116 := ⟨_, Tryz.func116, by kernel_rfl, rfl⟩
theorem co117 : CallOk Tryz.prog 117 := ⟨_, Tryz.func117, by kernel_rfl, rfl⟩
theorem co118 : CallOk Tryz.prog 118 := ⟨_, Tryz.func118, by kernel_rfl, rfl⟩
theorem co119 : CallOk Tryz.prog 119 := ⟨_, Tryz.func119, by kernel_rfl, rfl⟩
theorem co120 : CallOk Tryz.prog 120 := ⟨_, Tryz.func120, by kernel_rfl, rfl⟩
theorem co121 : CallOk Tryz.prog 121 := ⟨_, Tryz.func121, by kernel_rfl, rfl⟩
theorem co122 : CallOk Tryz.prog 122 := ⟨_, Tryz.func122, by kernel_rfl, rfl⟩
theorem co123 : CallOk Tryz.prog 123 := ⟨_, Tryz.func123, by kernel_rfl, rfl⟩
theorem co126 : CallOk Tryz.prog 126 := ⟨_, Tryz.func126, by kernel_rfl, rfl⟩
theorem co127 : CallOk Tryz.prog 127 := ⟨_, Tryz.func127, by kernel_rfl, rfl⟩
theorem co128 : CallOk Tryz.prog 128 := ⟨_, Tryz.func128, by kernel_rfl, rfl⟩
theorem co129 : CallOk Tryz.prog 129 := ⟨_, Tryz.func129, by kernel_rfl, rfl⟩
theorem co130 : CallOk Tryz.prog 130 := ⟨_, Tryz.func130, by kernel_rfl, rfl⟩
theorem co133 : CallOk Tryz.prog 133 := ⟨_, Tryz.func133, by kernel_rfl, rfl⟩
theorem co134 : CallOk Tryz.prog 134 := ⟨_, Tryz.func134, by kernel_rfl, rfl⟩
theorem co135 : CallOk Tryz.prog 135 := ⟨_, Tryz.func135, by kernel_rfl, rfl⟩
theorem co136 : CallOk Tryz.prog 136 := ⟨_, Tryz.func136, by kernel_rfl, rfl⟩
theorem co139 : CallOk Tryz.prog 139 := ⟨_, Tryz.func139, by kernel_rfl, rfl⟩
theorem co140 : CallOk Tryz.prog 140 := ⟨_, Tryz.func140, by kernel_rfl, rfl⟩
theorem co141 : CallOk Tryz.prog 141 := ⟨_, Tryz.func141, by kernel_rfl, rfl⟩
theorem co142 : CallOk Tryz.prog 142 := ⟨_, Tryz.func142, by kernel_rfl, rfl⟩
theorem co143 : CallOk Tryz.prog 143 := ⟨_, Tryz.func143, by kernel_rfl, rfl⟩
theorem co144 : CallOk Tryz.prog 144 := ⟨_, Tryz.func144, by kernel_rfl, rfl⟩
theorem co145 : CallOk Tryz.prog 145 := ⟨_, Tryz.func145, by kernel_rfl, rfl⟩
theorem co146 : CallOk Tryz.prog 146 := ⟨_, Tryz.func146, by kernel_rfl, rfl⟩
theorem co147 : CallOk Tryz.prog 147 := ⟨_, Tryz.func147, by kernel_rfl, rfl⟩
theorem co148 : CallOk Tryz.prog 148 := ⟨_, Tryz.func148, by kernel_rfl, rfl⟩
theorem co149 : CallOk Tryz.prog 149 := ⟨_, Tryz.func149, by kernel_rfl, rfl⟩
theorem co150 : CallOk Tryz.prog 150 := ⟨_, Tryz.func150, by kernel_rfl, rfl⟩
theorem co151 : CallOk Tryz.prog 151 := ⟨_, Tryz.func151, by kernel_rfl, rfl⟩
theorem co152 : CallOk Tryz.prog 152 := ⟨_, Tryz.func152, by kernel_rfl, rfl⟩
theorem co163 : CallOk Tryz.prog 163 := ⟨_, Tryz.func163, by kernel_rfl, rfl⟩
theorem co164 : CallOk Tryz.prog 164 := ⟨_, Tryz.func164, by kernel_rfl, rfl⟩
theorem co165 : CallOk Tryz.prog 165 := ⟨_, Tryz.func165, by kernel_rfl, rfl⟩
theorem co166 : CallOk Tryz.prog 166 := ⟨_, Tryz.func166, by kernel_rfl, rfl⟩
theorem co168 : CallOk Tryz.prog 168 := ⟨_, Tryz.func168, by kernel_rfl, rfl⟩
theorem co169 : CallOk Tryz.prog 169 := ⟨_, Tryz.func169, by kernel_rfl, rfl⟩
theorem co170 : CallOk Tryz.prog 170 := ⟨_, Tryz.func170, by kernel_rfl, rfl⟩
theorem co176 : CallOk Tryz.prog 176 := ⟨_, Tryz.func176, by kernel_rfl, rfl⟩
theorem co177 : CallOk Tryz.prog 177 := ⟨_, Tryz.func177, by kernel_rfl, rfl⟩
theorem co179 : CallOk Tryz.prog 179 := ⟨_, Tryz.func179, by kernel_rfl, rfl⟩
theorem co180 : CallOk Tryz.prog 180 := ⟨_, Tryz.func180, by kernel_rfl, rfl⟩
theorem co182 : CallOk Tryz.prog 182 := ⟨_, Tryz.func182, by kernel_rfl, rfl⟩
theorem co183 : CallOk Tryz.prog 183 := ⟨_, Tryz.func183, by kernel_rfl, rfl⟩
end Go.Proofs.YtdcmmhjhffcnhaaGreat
