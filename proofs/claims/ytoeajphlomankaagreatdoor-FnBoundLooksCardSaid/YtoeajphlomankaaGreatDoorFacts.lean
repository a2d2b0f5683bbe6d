/-
  Closed facts on the program's tables. Printed by gen.py.
-/
import Derived.Test.YtoeajphlomankaaGreatDoorModel
import Derived.Test.YtoeajphlomankaaGreatDoorChecked
import Derived.KernelRfl
import Derived.Test.YtoeajphlomankaaGreatDoorCoreSQ
import Derived.Shelf.SlSortCmp.NoneTotal
import Derived.Test.YtoeajphlomankaaGreatDoorSortLays
import Derived.Test.YtoeajphlomankaaGreatDoorSegI
import Derived.Test.YtoeajphlomankaaGreatDoorCoreVY
namespace Go.Proofs.YtoeajphlomankaaGreatDoor
open Go Go.Fk
theorem mixed : Tryz.prog.follows .mixedOrders = true := by kernel_rfl
theorem tf3 : TF Tryz.prog 3 1 false (.int .i64 0) 8 := ⟨by kernel_rfl, by kernel_rfl⟩
theorem tf5 : TF Tryz.prog 5 1 false (.int .u8 0) 1 := ⟨by kernel_rfl, by kernel_rfl⟩
theorem tf9 : TF Tryz.prog 9 1 false (.string ⟨#[]⟩) 16 := ⟨by kernel_rfl, by kernel_rfl⟩
theorem tf22 : TF Tryz.prog 22 1 false (.slice none 0 0) 24 := ⟨by kernel_rfl, by kernel_rfl⟩
theorem tf23 : TF Tryz.prog 23 1 false (.slice none 0 0) 24 := ⟨by kernel_rfl, by kernel_rfl⟩
theorem tf24 : TF Tryz.prog 24 1 false (.slice none 0 0) 24 := ⟨by kernel_rfl, by kernel_rfl⟩
theorem tf26 : TF Tryz.prog 26 2 true (.agg #[.slice none 0 0, .slice none 0 0]) 48 := ⟨by kernel_rfl, by kernel_rfl⟩
theorem tf27 : TF Tryz.prog 27 1 false (.slice none 0 0) 24 := ⟨by kernel_rfl, by kernel_rfl⟩
theorem tf28 : TF Tryz.prog 28 1 false (.slice none 0 0) 24 := ⟨by kernel_rfl, by kernel_rfl⟩
theorem tf30 : TF Tryz.prog 30 2 true (.agg #[.slice none 0 0, .slice none 0 0]) 48 := ⟨by kernel_rfl, by kernel_rfl⟩
theorem tf33 : TF Tryz.prog 33 1 false (.slice none 0 0) 24 := ⟨by kernel_rfl, by kernel_rfl⟩
theorem tf37 : TF Tryz.prog 37 1 false (.slice none 0 0) 24 := ⟨by kernel_rfl, by kernel_rfl⟩
theorem tf39 : TF Tryz.prog 39 1 false (.slice none 0 0) 24 := ⟨by kernel_rfl, by kernel_rfl⟩
theorem tf42 : TF Tryz.prog 42 2 true (.agg #[.int .i64 0, .slice none 0 0]) 32 := ⟨by kernel_rfl, by kernel_rfl⟩
theorem tf45 : TF Tryz.prog 45 2 true (.agg #[.int .i64 0, .int .i64 0]) 16 := ⟨by kernel_rfl, by kernel_rfl⟩
theorem tf68 : TF Tryz.prog 68 1 false (.slice none 0 0) 24 := ⟨by kernel_rfl, by kernel_rfl⟩
theorem tf69 : TF Tryz.prog 69 1 false (.slice none 0 0) 24 := ⟨by kernel_rfl, by kernel_rfl⟩
theorem tf71 : TF Tryz.prog 71 3 true (.agg #[.int .i64 0, .slice none 0 0, .slice none 0 0]) 56 := ⟨by kernel_rfl, by kernel_rfl⟩
theorem tf80 : TF Tryz.prog 80 4 true (.agg #[.slice none 0 0, .slice none 0 0, .slice none 0 0, .slice none 0 0]) 96 := ⟨by kernel_rfl, by kernel_rfl⟩
theorem tf86 : TF Tryz.prog 86 3 true (.agg #[.string ⟨#[]⟩, .string ⟨#[]⟩, .slice none 0 0]) 56 := ⟨by kernel_rfl, by kernel_rfl⟩
theorem tf92 : TF Tryz.prog 92 2 true (.agg #[.int .i64 0, .int .i64 0]) 16 := ⟨by kernel_rfl, by kernel_rfl⟩
theorem tf105 : TF Tryz.prog 105 2 true (.agg #[.slice none 0 0, .string ⟨#[]⟩]) 40 := ⟨by kernel_rfl, by kernel_rfl⟩
theorem tf124 : TF Tryz.prog 124 2 true (.agg #[.int .i64 0, .int .i64 0]) 16 := ⟨by kernel_rfl, by kernel_rfl⟩
theorem tf130 : TF Tryz.prog 130 2 true (.agg #[.string ⟨#[]⟩, .int .i64 0]) 24 := ⟨by kernel_rfl, by kernel_rfl⟩
theorem tf141 : TF Tryz.prog 141 2 true (.agg #[.string ⟨#[]⟩, .string ⟨#[]⟩]) 32 := ⟨by kernel_rfl, by kernel_rfl⟩
theorem tf154 : TF Tryz.prog 154 2 true (.agg #[.slice none 0 0, .int .i64 0]) 32 := ⟨by kernel_rfl, by kernel_rfl⟩
theorem tf174 : TF Tryz.prog 174 4 true (.agg #[.string ⟨#[]⟩, .int .i64 0, .int .i64 0, .int .i64 0]) 40 := ⟨by kernel_rfl, by kernel_rfl⟩
theorem tf189 : TF Tryz.prog 189 2 true (.agg #[.string ⟨#[]⟩, .int .i64 0]) 24 := ⟨by kernel_rfl, by kernel_rfl⟩
theorem ff26_0 : FF Tryz.prog 26 0 0 := by unfold FF; kernel_rfl
theorem ff26_1 : FF Tryz.prog 26 1 1 := by unfold FF; kernel_rfl
theorem ff30_0 : FF Tryz.prog 30 0 0 := by unfold FF; kernel_rfl
theorem ff30_1 : FF Tryz.prog 30 1 1 := by unfold FF; kernel_rfl
theorem ff42_0 : FF Tryz.prog 42 0 0 := by unfold FF; kernel_rfl
theorem ff42_1 : FF Tryz.prog 42 1 1 := by unfold FF; kernel_rfl
theorem ff45_0 : FF Tryz.prog 45 0 0 := by unfold FF; kernel_rfl
theorem ff45_1 : FF Tryz.prog 45 1 1 := by unfold FF; kernel_rfl
theorem ff71_0 : FF Tryz.prog 71 0 0 := by unfold FF; kernel_rfl
theorem ff71_1 : FF Tryz.prog 71 1 1 := by unfold FF; kernel_rfl
theorem ff71_2 : FF Tryz.prog 71 2 2 := by unfold FF; kernel_rfl
theorem ff80_0 : FF Tryz.prog 80 0 0 := by unfold FF; kernel_rfl
theorem ff80_1 : FF Tryz.prog 80 1 2 := by unfold FF; kernel_rfl
theorem ff86_0 : FF Tryz.prog 86 0 0 := by unfold FF; kernel_rfl
theorem ff86_1 : FF Tryz.prog 86 1 1 := by unfold FF; kernel_rfl
theorem ff86_2 : FF Tryz.prog 86 2 2 := by unfold FF; kernel_rfl
theorem ff92_0 : FF Tryz.prog 92 0 0 := by unfold FF; kernel_rfl
theorem ff92_1 : FF Tryz.prog 92 1 1 := by unfold FF; kernel_rfl
theorem ff105_0 : FF Tryz.prog 105 0 0 := by unfold FF; kernel_rfl
theorem ff105_1 : FF Tryz.prog 105 1 1 := by unfold FF; kernel_rfl
theorem ff124_0 : FF Tryz.prog 124 0 0 := by unfold FF; kernel_rfl
theorem ff124_1 : FF Tryz.prog 124 1 1 := by unfold FF; kernel_rfl
theorem ff130_0 : FF Tryz.prog 130 0 0 := by unfold FF; kernel_rfl
theorem ff130_1 : FF Tryz.prog 130 1 1 := by unfold FF; kernel_rfl
theorem ff141_0 : FF Tryz.prog 141 0 0 := by unfold FF; kernel_rfl
theorem ff141_1 : FF Tryz.prog 141 1 1 := by unfold FF; kernel_rfl
theorem ff154_0 : FF Tryz.prog 154 0 0 := by unfold FF; kernel_rfl
theorem ff154_1 : FF Tryz.prog 154 1 1 := by unfold FF; kernel_rfl
theorem ff174_0 : FF Tryz.prog 174 0 0 := by unfold FF; kernel_rfl
theorem ff174_1 : FF Tryz.prog 174 1 1 := by unfold FF; kernel_rfl
theorem ff174_3 : FF Tryz.prog 174 3 3 := by unfold FF; kernel_rfl
theorem ff189_0 : FF Tryz.prog 189 0 0 := by unfold FF; kernel_rfl
theorem ff189_1 : FF Tryz.prog 189 1 1 := by unfold FF; kernel_rfl
theorem fg30_1 : FG Tryz.prog 30 1 28 1 := by unfold FG; kernel_rfl
theorem sp26 : SPlaces Tryz.prog 26 = some [(0, 1), (1, 1)] := by kernel_rfl
theorem sp30 : SPlaces Tryz.prog 30 = some [(0, 1), (1, 1)] := by kernel_rfl
theorem sp42 : SPlaces Tryz.prog 42 = some [(0, 1), (1, 1)] := by kernel_rfl
theorem sp45 : SPlaces Tryz.prog 45 = some [(0, 1), (1, 1)] := by kernel_rfl
theorem sp71 : SPlaces Tryz.prog 71 = some [(0, 1), (1, 1), (2, 1)] := by kernel_rfl
theorem sp80 : SPlaces Tryz.prog 80 = some [(0, 2), (2, 2)] := by kernel_rfl
theorem sp86 : SPlaces Tryz.prog 86 = some [(0, 1), (1, 1), (2, 1)] := by kernel_rfl
theorem sp92 : SPlaces Tryz.prog 92 = some [(0, 1), (1, 1)] := by kernel_rfl
theorem sp105 : SPlaces Tryz.prog 105 = some [(0, 1), (1, 1)] := by kernel_rfl
theorem sp124 : SPlaces Tryz.prog 124 = some [(0, 1), (1, 1)] := by kernel_rfl
theorem sp130 : SPlaces Tryz.prog 130 = some [(0, 1), (1, 1)] := by kernel_rfl
theorem sp141 : SPlaces Tryz.prog 141 = some [(0, 1), (1, 1)] := by kernel_rfl
theorem sp154 : SPlaces Tryz.prog 154 = some [(0, 1), (1, 1)] := by kernel_rfl
theorem sp174 : SPlaces Tryz.prog 174 = some [(0, 1), (1, 1), (2, 1), (3, 1)] := by kernel_rfl
theorem sp189 : SPlaces Tryz.prog 189 = some [(0, 1), (1, 1)] := by kernel_rfl
theorem eqg124 : Tryz.prog.eqGuardType Tryz.prog.depth 124 = false := by kernel_rfl
theorem fo124 : (Tryz.prog.fieldsOf 124).toList = [⟨ "Doc", 3, 0, false, "", "", 0⟩, ⟨ "Points", 3, 1, false, "", "", 8⟩] := by kernel_rfl
theorem eqs124 (a0 : Int) (a1 : Int) (b0 : Int) (b1 : Int) (w : World) : (Op.equalIn 10000 124 (.agg #[.int .i64 a0, .int .i64 a1]) (.agg #[.int .i64 b0, .int .i64 b1])).run Tryz.prog w = .ok ((a0 == b0) && ((a1 == b1))) w := by
 have h : (Op.eqFields 9999 #[.int .i64 a0, .int .i64 a1] #[.int .i64 b0, .int .i64 b1] (Tryz.prog.fieldsOf 124).toList).run Tryz.prog w = .ok ((a0 == b0) && ((a1 == b1) && (true))) w := by
  rw [fo124]
  exact (eqF_cons (by decide) (part_one w Tryz.underlying3 rfl rfl) (part_one w Tryz.underlying3 rfl rfl) (eqIn_i 9998 w a0 b0 Tryz.underlying3) (eqF_cons (by decide) (part_one w Tryz.underlying3 rfl rfl) (part_one w Tryz.underlying3 rfl rfl) (eqIn_i 9998 w a1 b1 Tryz.underlying3) (eqF_nil 9999 _ _ w)))
 rw [run_equalIn_struct w 9999 124 _ _ (by kernel_rfl) (by kernel_rfl), h]
 simp only [Bool.and_true]
theorem sortLay90 : SlLaysF0.n6 Tryz.prog Tryz.sortLay90_ren := Tryz.sortLay90
theorem sortNone90 (p : Option Addr) (cap : Nat) (fv : Value) (w : World) : Calls Tryz.prog (Tryz.sortLay90_ren.f 6) #[.slice p 0 cap, fv] w fun e w' => e = .returned (.tuple #[]) ∧ w' = w := Go.Proofs.AnyF.slices_SortFunc_none sortLay90 p cap fv w
theorem sortLay129 : SlLaysF0.n6 Tryz.prog Tryz.sortLay129_ren := Tryz.sortLay129
theorem sortNone129 (p : Option Addr) (cap : Nat) (fv : Value) (w : World) : Calls Tryz.prog (Tryz.sortLay129_ren.f 6) #[.slice p 0 cap, fv] w fun e w' => e = .returned (.tuple #[]) ∧ w' = w := Go.Proofs.AnyF.slices_SortFunc_none sortLay129 p cap fv w
theorem co12 : CallOk Tryz.prog 12 := ⟨_, Tryz.func12, by kernel_rfl, rfl⟩
theorem co15 : CallOk Tryz.prog 15 := ⟨_, Tryz.func15, by kernel_rfl, rfl⟩
theorem co20 : CallOk Tryz.prog 20 := ⟨_, Tryz.func20, by kernel_rfl, rfl⟩
theorem co25 : CallOk Tryz.prog 25 := ⟨_, Tryz.func25, by kernel_rfl, rfl⟩
theorem co26 : CallOk Tryz.prog 26 := ⟨_, Tryz.func26, by kernel_rfl, rfl⟩
theorem co27 : CallOk Tryz.prog 27 := ⟨_, Tryz.func27, by kernel_rfl, rfl⟩
theorem co28 : CallOk Tryz.prog 28 := ⟨_, Tryz.func28, by kernel_rfl, rfl⟩
theorem co30 : CallOk Tryz.prog 30 := ⟨_, Tryz.func30, by kernel_rfl, rfl⟩
theorem co37 : CallOk Tryz.prog 37 := ⟨_, Tryz.func37, by kernel_rfl, rfl⟩
theorem co38 : CallOk Tryz.prog 38 := ⟨_, Tryz.func38, by kernel_rfl, rfl⟩
theorem co39 : CallOk Tryz.prog 39 := ⟨_, Tryz.func39, by kernel_rfl, rfl⟩
theorem co40 : CallOk Tryz.prog 40 := ⟨_, Tryz.func40, by kernel_rfl, rfl⟩
theorem co41 : CallOk Tryz.prog 41 := ⟨_, Tryz.func41, by kernel_rfl, rfl⟩
theorem co42 : CallOk Tryz.prog 42 := ⟨_, Tryz.func42, by kernel_rfl, rfl⟩
theorem co43 : CallOk Tryz.prog 43 := ⟨_, Tryz.func43, by kernel_rfl, rfl⟩
theorem co44 : CallOk Tryz.prog 44 := ⟨_, Tryz.func44, by kernel_rfl, rfl⟩
theorem co46 : CallOk Tryz.prog 46 := ⟨_, Tryz.func46, by kernel_rfl, rfl⟩
theorem co47 : CallOk Tryz.prog 47 := ⟨_, Tryz.func47, by kernel_rfl, rfl⟩
theorem co49 : CallOk Tryz.prog 49 := ⟨_, Tryz.func49, by kernel_rfl, rfl⟩
theorem co52 : CallOk Tryz.prog 52 := ⟨_, Tryz.func52, by kernel_rfl, rfl⟩
theorem co54 : CallOk Tryz.prog 54 := ⟨_, Tryz.func54, by kernel_rfl, rfl⟩
theorem co55 : CallOk Tryz.prog 55 := ⟨_, Tryz.func55, by kernel_rfl, rfl⟩
theorem co56 : CallOk Tryz.prog 56 := ⟨_, Tryz.func56, by kernel_rfl, rfl⟩
theorem co57 : CallOk Tryz.prog 57 := ⟨_, Tryz.func57, by kernel_rfl, rfl⟩
theorem co58 : CallOk Tryz.prog 58 := ⟨_, Tryz.func58, by kernel_rfl, rfl⟩
theorem co61 : CallOk Tryz.prog 61 := ⟨_, Tryz.func61, by kernel_rfl, rfl⟩
theorem co64 : CallOk Tryz.prog 64 := ⟨_, Tryz.func64, by kernel_rfl, rfl⟩
theorem co65 : CallOk Tryz.prog 65 := ⟨_, Tryz.func65, by kernel_rfl, rfl⟩
theorem co66 : CallOk Tryz.prog 66 := ⟨_, Tryz.func66, by kernel_rfl, rfl⟩
theorem co67 : CallOk Tryz.prog 67 := ⟨_, Tryz.func67, by kernel_rfl, rfl⟩
theorem co68 : CallOk Tryz.prog 68 := ⟨_, Tryz.func68, by kernel_rfl, rfl⟩
theorem co69 : CallOk Tryz.prog 69 := ⟨_, Tryz.func69, by kernel_rfl, rfl⟩
theorem co70 : CallOk Tryz.prog 70 := ⟨_, Tryz.func70, by kernel_rfl, rfl⟩
theorem co71 : CallOk Tryz.prog 71 := ⟨_, Tryz.func71, by kernel_rfl, rfl⟩
theorem co72 : CallOk Tryz.prog 72 := ⟨_, Tryz.func72, by kernel_rfl, rfl⟩
theorem co73 : CallOk Tryz.prog 73 := ⟨_, Tryz.func73, by kernel_rfl, rfl⟩
theorem co74 : CallOk Tryz.prog 74 := ⟨_, Tryz.func74, by kernel_rfl, rfl⟩
theorem co75 : CallOk Tryz.prog 75 := ⟨_, Tryz.func75, by kernel_rfl, rfl⟩
theorem co76 : CallOk Tryz.prog 76 := ⟨_, Tryz.func76, by kernel_rfl, rfl⟩
theorem co77 : CallOk Tryz.prog 77 := ⟨_, Tryz.func77, by kernel_rfl, rfl⟩
theorem co78 : CallOk Tryz.prog 78 := ⟨_, Tryz.func78, by kernel_rfl, rfl⟩
theorem co79 : CallOk Tryz.prog 79 := ⟨_, Tryz.func79, by kernel_rfl, rfl⟩
theorem co81 : CallOk Tryz.prog 81 := ⟨_, Tryz.func81, by kernel_rfl, rfl⟩
theorem co83 : CallOk Tryz.prog 83 := ⟨_, Tryz.func83, by kernel_rfl, rfl⟩
theorem co84 : CallOk Tryz.prog 84 := ⟨_, Tryz.func84, by kernel_rfl, rfl⟩
theorem co85 : CallOk Tryz.prog 85 := ⟨_, Tryz.func85, by kernel_rfl, rfl⟩
theorem co86 : CallOk Tryz.prog 86 := ⟨_, Tryz.func86, by kernel_rfl, rfl⟩
theorem co87 : CallOk Tryz.prog 87 := ⟨_, Tryz.func87, by kernel_rfl, rfl⟩
theorem co88 : CallOk Tryz.prog 88 := ⟨_, Tryz.func88, by kernel_rfl, rfl⟩
theorem co89 : CallOk Tryz.prog 89 := ⟨_, Tryz.func89, by kernel_rfl, rfl⟩
theorem co90 : CallOk Tryz.prog 90 := ⟨_, Tryz.func90, by kernel_rfl, rfl⟩
theorem co92 : CallOk Tryz.prog 92 := ⟨_, Tryz.func92, by kernel_rfl, rfl⟩
theorem co93 : CallOk Tryz.prog 93 := ⟨_, Tryz.func93, by kernel_rfl, rfl⟩
theorem co94 : CallOk Tryz.prog 94 := ⟨_, Tryz.func94, by kernel_rfl, rfl⟩
theorem co95 : CallOk Tryz.prog 95 := ⟨_, Tryz.func95, by kernel_rfl, rfl⟩
theorem co96 : CallOk Tryz.prog 96 := ⟨_, Tryz.func96, by kernel_rfl, rfl⟩
theorem co97 : CallOk Tryz.prog 97 := ⟨_, Tryz.func97, by kernel_rfl, rfl⟩
theorem co98 : CallOk Tryz.prog 98 := ⟨_, Tryz.func98, by kernel_rfl, rfl⟩
theorem co99 : CallOk Tryz.prog 99 := ⟨_, Tryz.func99, by kernel_rfl, rfl⟩
theorem co102 : CallOk Tryz.prog 102 := ⟨_, Tryz.func102, by kernel_rfl, rfl⟩
theorem co103 : CallOk Tryz.prog 103 := ⟨_, Tryz.func103, by kernel_rfl, rfl⟩
theorem co104 : CallOk Tryz.prog 104 := ⟨_, Tryz.func104, by kernel_rfl, rfl⟩
theorem co105 : CallOk Tryz.prog 105 := ⟨_, Tryz.func105, by kernel_rfl, rfl⟩
theorem co110 : CallOk Tryz.prog 110 := ⟨_, Tryz.func110, by kernel_rfl, rfl⟩
theorem co111 : CallOk Tryz.prog 111 := ⟨_, Tryz.func111, by kernel_rfl, rfl⟩
theorem co113 : CallOk Tryz.prog 113 := ⟨_, Tryz.func113, by kernel_rfl, rfl⟩
theorem co114 : CallOk Tryz.prog 114 := ⟨_, Tryz.func114, by kernel_rfl, rfl⟩
theorem co115 : CallOk Tryz.prog 115 := ⟨_, Tryz.func115, by kernel_rfl, rfl⟩
theorem co116 : CallOk Tryz.prog 116 := ⟨_, Tryz.func116, by kernel_rfl, rfl⟩
theorem co117 : CallOk Tryz.prog 117 := ⟨_, Tryz.func117, by kernel_rfl, rfl⟩
theorem co118 : CallOk Tryz.prog 118 := ⟨_, Tryz.func118, by kernel_rfl, rfl⟩
theorem co119 : CallOk Tryz.prog 119 := ⟨_, Tryz.func119, by kernel_rfl, rfl⟩
theorem co120 : CallOk Tryz.prog 120 := ⟨_, Tryz.func120, by kernel_rfl, rfl⟩
theorem co121 : CallOk Tryz.prog 121 := ⟨_, Tryz.func121, by kernel_rfl, rfl⟩
theorem co122 : CallOk Tryz.prog 122 := ⟨_, Tryz.func122, by kernel_rfl, rfl⟩
theorem co123 : CallOk Tryz.prog 123 := ⟨_, Tryz.func123, by kernel_rfl, rfl⟩
theorem co129 : CallOk Tryz.prog 129 := ⟨_, Tryz.func129, by kernel_rfl, rfl⟩
theorem co130 : CallOk Tryz.prog 130 := ⟨_, Tryz.func130, by kernel_rfl, rfl⟩
theorem co131 : CallOk Tryz.prog 131 := ⟨_, Tryz.func131, by kernel_rfl, rfl⟩
theorem co132 : CallOk Tryz.prog 132 := ⟨_, Tryz.func132, by kernel_rfl, rfl⟩
theorem co133 : CallOk Tryz.prog 133 := ⟨_, Tryz.func133, by kernel_rfl, rfl⟩
theorem co134 : CallOk Tryz.prog 134 := ⟨_, Tryz.func134, by kernel_rfl, rfl⟩
theorem co135 : CallOk Tryz.prog 135 := ⟨_, Tryz.func135, by kernel_rfl, rfl⟩
theorem co136 : CallOk Tryz.prog 136 := ⟨_, Tryz.func136, by kernel_rfl, rfl⟩
theorem co137 : CallOk Tryz.prog 137 := ⟨_, Tryz.func137, by kernel_rfl, rfl⟩
theorem co138 : CallOk Tryz.prog 138 := ⟨_, Tryz.func138, by kernel_rfl, rfl⟩
theorem co139 : CallOk Tryz.prog 139 := ⟨_, Tryz.func139, by kernel_rfl, rfl⟩
theorem co140 : CallOk Tryz.prog 140 := ⟨_, Tryz.func140, by kernel_rfl, rfl⟩
theorem co141 : CallOk Tryz.prog 141 := ⟨_, Tryz.func141, by kernel_rfl, rfl⟩
theorem co142 : CallOk Tryz.prog 142 := ⟨_, Tryz.func142, by kernel_rfl, rfl⟩
theorem co145 : CallOk Tryz.prog 145 := ⟨_, Tryz.func145, by kernel_rfl, rfl⟩
theorem co146 : CallOk Tryz.prog 146 := ⟨_, Tryz.func146, by kernel_rfl, rfl⟩
theorem co147 : CallOk Tryz.prog 147 := ⟨_, Tryz.func147, by kernel_rfl, rfl⟩
theorem co148 : CallOk Tryz.prog 148 := ⟨_, Tryz.func148, by kernel_rfl, rfl⟩
theorem co149 : CallOk Tryz.prog 149 := ⟨_, Tryz.func149, by kernel_rfl, rfl⟩
theorem co152 : CallOk Tryz.prog 152 := ⟨_, Tryz.func152, by kernel_rfl, rfl⟩
theorem co153 : CallOk Tryz.prog 153 := ⟨_, Tryz.func153, by kernel_rfl, rfl⟩
theorem co156 : CallOk Tryz.prog 156 := ⟨_, Tryz.func156, by kernel_rfl, rfl⟩
theorem co158 : CallOk Tryz.prog 158 := ⟨_, Tryz.func158, by kernel_rfl, rfl⟩
theorem co159 : CallOk Tryz.prog 159 := ⟨_, Tryz.func159, by kernel_rfl, rfl⟩
theorem co160 : CallOk Tryz.prog 160 := ⟨_, Tryz.func160, by kernel_rfl, rfl⟩
theorem co161 : CallOk Tryz.prog 161 := ⟨_, Tryz.func161, by kernel_rfl, rfl⟩
theorem co162 : CallOk Tryz.prog 162 := ⟨_, Tryz.func162, by kernel_rfl, rfl⟩
theorem co163 : CallOk Tryz.prog 163 := ⟨_, Tryz.func163, by kernel_rfl, rfl⟩
theorem co164 : CallOk Tryz.prog 164 := ⟨_, Tryz.func164, by kernel_rfl, rfl⟩
theorem co169 : CallOk Tryz.prog 169 := ⟨_, Tryz.func169, by kernel_rfl, rfl⟩
theorem co170 : CallOk Tryz.prog 170 := ⟨_, Tryz.func170, by kernel_rfl, rfl⟩
theorem co171 : CallOk Tryz.prog 171 := ⟨_, Tryz.func171, by kernel_rfl, rfl⟩
theorem co172 : CallOk Tryz.prog 172 := ⟨_, Tryz.func172, by kernel_rfl, rfl⟩
theorem co173 : CallOk Tryz.prog 173 := ⟨_, Tryz.func173, by kernel_rfl, rfl⟩
theorem co174 : CallOk Tryz.prog 174 := ⟨_, Tryz.func174, by kernel_rfl, rfl⟩
theorem co186 : CallOk Tryz.prog 186 := ⟨_, Tryz.func186, by kernel_rfl, rfl⟩
theorem co196 : CallOk Tryz.prog 196 := ⟨_, Tryz.func196, by kernel_rfl, rfl⟩
theorem co197 : CallOk Tryz.prog 197 := ⟨_, Tryz.func197, by kernel_rfl, rfl⟩
theorem co198 : CallOk Tryz.prog 198 := ⟨_, Tryz.func198, by kernel_rfl, rfl⟩
theorem co199 : CallOk Tryz.prog 199 := ⟨_, Tryz.func199, by kernel_rfl, rfl⟩
theorem co213 : CallOk Tryz.prog 213 := ⟨_, Tryz.func213, by kernel_rfl, rfl⟩
theorem co222 : CallOk Tryz.prog 222 := ⟨_, Tryz.func222, by kernel_rfl, rfl⟩
theorem co232 : CallOk Tryz.prog 232 := ⟨_, Tryz.func232, by kernel_rfl, rfl⟩
end Go.Proofs.YtoeajphlomankaaGreatDoor
