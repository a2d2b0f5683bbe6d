/-
  Closed facts on the program's tables. Printed by gen.py.
-/
import Derived.Test.YtmkhlppjphodfaaGreatDoorModel
import Derived.Test.YtmkhlppjphodfaaGreatDoorChecked
import Derived.KernelRfl
import Derived.Test.YtmkhlppjphodfaaGreatDoorCoreSQ
import Derived.Shelf.SlSortCmp.NoneTotal
import Derived.Test.YtmkhlppjphodfaaGreatDoorSortLays
import Derived.Test.YtmkhlppjphodfaaGreatDoorSegI
import Derived.Test.YtmkhlppjphodfaaGreatDoorCoreN
import Derived.Test.YtmkhlppjphodfaaGreatDoorStrJoin
import Derived.Test.YtmkhlppjphodfaaGreatDoorCoreVY
namespace Go.Proofs.YtmkhlppjphodfaaGreatDoor
open Go Go.Fk

theorem mixed : Tryz.prog.follows .mixedOrders = true := by kernel_rfl
theorem gap1 : M.glob1.Pairwise fun a b => a.1 ≠ b.1 := by decide
theorem gok1_1 (n : Int) : rng64 (M.glob1at n).leastWords_ := lookS_ok (ok := fun x : GShape => rng64 x.leastWords_) (by show ∀ p ∈ M.glob1, rng64 p.2.leastWords_; decide) (by decide : rng64 0) n
theorem gok1_2 (n : Int) : rng64 (M.glob1at n).mostWords_ := lookS_ok (ok := fun x : GShape => rng64 x.mostWords_) (by show ∀ p ∈ M.glob1, rng64 p.2.mostWords_; decide) (by decide : rng64 0) n
theorem gok1_3 (n : Int) : rng64 (M.glob1at n).low_ := lookS_ok (ok := fun x : GShape => rng64 x.low_) (by show ∀ p ∈ M.glob1, rng64 p.2.low_; decide) (by decide : rng64 0) n
theorem gok1_4 (n : Int) : rng64 (M.glob1at n).high_ := lookS_ok (ok := fun x : GShape => rng64 x.high_) (by show ∀ p ∈ M.glob1, rng64 p.2.high_; decide) (by decide : rng64 0) n
theorem gok1_6 (n : Int) : rng64 (M.glob1at n).leastKids_ := lookS_ok (ok := fun x : GShape => rng64 x.leastKids_) (by show ∀ p ∈ M.glob1, rng64 p.2.leastKids_; decide) (by decide : rng64 0) n
theorem gok1_7 (n : Int) : rng64 (M.glob1at n).mostKids_ := lookS_ok (ok := fun x : GShape => rng64 x.mostKids_) (by show ∀ p ∈ M.glob1, rng64 p.2.mostKids_; decide) (by decide : rng64 0) n
theorem tf3 : TF Tryz.prog 3 1 false (.int .i64 0) 8 := ⟨by kernel_rfl, by kernel_rfl⟩
theorem tf4 : TF Tryz.prog 4 1 false (.bool false) 1 := ⟨by kernel_rfl, by kernel_rfl⟩
theorem tf5 : TF Tryz.prog 5 1 false (.int .u8 0) 1 := ⟨by kernel_rfl, by kernel_rfl⟩
theorem tf9 : TF Tryz.prog 9 1 false (.string ⟨#[]⟩) 16 := ⟨by kernel_rfl, by kernel_rfl⟩
theorem tf22 : TF Tryz.prog 22 1 false (.slice none 0 0) 24 := ⟨by kernel_rfl, by kernel_rfl⟩
theorem tf23 : TF Tryz.prog 23 1 false (.slice none 0 0) 24 := ⟨by kernel_rfl, by kernel_rfl⟩
theorem tf24 : TF Tryz.prog 24 1 false (.slice none 0 0) 24 := ⟨by kernel_rfl, by kernel_rfl⟩
theorem tf26 : TF Tryz.prog 26 2 true (.agg #[.slice none 0 0, .slice none 0 0]) 48 := ⟨by kernel_rfl, by kernel_rfl⟩
theorem tf28 : TF Tryz.prog 28 1 false (.slice none 0 0) 24 := ⟨by kernel_rfl, by kernel_rfl⟩
theorem tf30 : TF Tryz.prog 30 3 true (.agg #[.slice none 0 0, .slice none 0 0, .slice none 0 0]) 72 := ⟨by kernel_rfl, by kernel_rfl⟩
theorem tf35 : TF Tryz.prog 35 1 false (.slice none 0 0) 24 := ⟨by kernel_rfl, by kernel_rfl⟩
theorem tf40 : TF Tryz.prog 40 1 false (.slice none 0 0) 24 := ⟨by kernel_rfl, by kernel_rfl⟩
theorem tf42 : TF Tryz.prog 42 6 true (.agg #[.int .i64 0, .string ⟨#[]⟩, .slice none 0 0, .int .i64 0, .int .i64 0, .slice none 0 0]) 88 := ⟨by kernel_rfl, by kernel_rfl⟩
theorem tf44 : TF Tryz.prog 44 1 false (.slice none 0 0) 24 := ⟨by kernel_rfl, by kernel_rfl⟩
theorem tf46 : TF Tryz.prog 46 2 true (.agg #[.slice none 0 0, .slice none 0 0]) 48 := ⟨by kernel_rfl, by kernel_rfl⟩
theorem tf51 : TF Tryz.prog 51 1 false (.slice none 0 0) 24 := ⟨by kernel_rfl, by kernel_rfl⟩
theorem tf52 : TF Tryz.prog 52 1 false (.slice none 0 0) 24 := ⟨by kernel_rfl, by kernel_rfl⟩
theorem tf54 : TF Tryz.prog 54 3 true (.agg #[.int .i64 0, .slice none 0 0, .slice none 0 0]) 56 := ⟨by kernel_rfl, by kernel_rfl⟩
theorem tf55 : TF Tryz.prog 55 1 false (.slice none 0 0) 24 := ⟨by kernel_rfl, by kernel_rfl⟩
theorem tf57 : TF Tryz.prog 57 1 false (.slice none 0 0) 24 := ⟨by kernel_rfl, by kernel_rfl⟩
theorem tf71 : TF Tryz.prog 71 2 true (.agg #[.int .i64 0, .slice none 0 0]) 32 := ⟨by kernel_rfl, by kernel_rfl⟩
theorem tf73 : TF Tryz.prog 73 2 true (.agg #[.int .i64 0, .int .i64 0]) 16 := ⟨by kernel_rfl, by kernel_rfl⟩
theorem tf86 : TF Tryz.prog 86 2 true (.agg #[.int .i64 0, .int .i64 0]) 16 := ⟨by kernel_rfl, by kernel_rfl⟩
theorem tf93 : TF Tryz.prog 93 3 true (.agg #[.slice none 0 0, .slice none 0 0, .slice none 0 0]) 72 := ⟨by kernel_rfl, by kernel_rfl⟩
theorem tf96 : TF Tryz.prog 96 2 true (.agg #[.slice none 0 0, .string ⟨#[]⟩]) 40 := ⟨by kernel_rfl, by kernel_rfl⟩
theorem tf112 : TF Tryz.prog 112 3 true (.agg #[.string ⟨#[]⟩, .string ⟨#[]⟩, .slice none 0 0]) 56 := ⟨by kernel_rfl, by kernel_rfl⟩
theorem tf117 : TF Tryz.prog 117 2 true (.agg #[.string ⟨#[]⟩, .int .i64 0]) 24 := ⟨by kernel_rfl, by kernel_rfl⟩
theorem tf123 : TF Tryz.prog 123 4 true (.agg #[.slice none 0 0, .slice none 0 0, .slice none 0 0, .slice none 0 0]) 96 := ⟨by kernel_rfl, by kernel_rfl⟩
theorem tf145 : TF Tryz.prog 145 2 true (.agg #[.slice none 0 0, .int .i64 0]) 32 := ⟨by kernel_rfl, by kernel_rfl⟩
theorem tf158 : TF Tryz.prog 158 2 true (.agg #[.string ⟨#[]⟩, .string ⟨#[]⟩]) 32 := ⟨by kernel_rfl, by kernel_rfl⟩
theorem tf169 : TF Tryz.prog 169 4 true (.agg #[.string ⟨#[]⟩, .int .i64 0, .int .i64 0, .int .i64 0]) 40 := ⟨by kernel_rfl, by kernel_rfl⟩
theorem tf191 : TF Tryz.prog 191 8 true (.agg #[.bool false, .int .i64 0, .int .i64 0, .int .i64 0, .int .i64 0, .bool false, .int .i64 0, .int .i64 0]) 64 := ⟨by kernel_rfl, by kernel_rfl⟩
theorem tf193 : TF Tryz.prog 193 1 false (.map none) 8 := ⟨by kernel_rfl, by kernel_rfl⟩
theorem tf197 : TF Tryz.prog 197 2 true (.agg #[.string ⟨#[]⟩, .int .i64 0]) 24 := ⟨by kernel_rfl, by kernel_rfl⟩
theorem ff26_0 : FF Tryz.prog 26 0 0 := by unfold FF; kernel_rfl
theorem ff26_1 : FF Tryz.prog 26 1 1 := by unfold FF; kernel_rfl
theorem ff30_0 : FF Tryz.prog 30 0 0 := by unfold FF; kernel_rfl
theorem ff30_1 : FF Tryz.prog 30 1 2 := by unfold FF; kernel_rfl
theorem ff42_0 : FF Tryz.prog 42 0 0 := by unfold FF; kernel_rfl
theorem ff42_1 : FF Tryz.prog 42 1 1 := by unfold FF; kernel_rfl
theorem ff42_2 : FF Tryz.prog 42 2 2 := by unfold FF; kernel_rfl
theorem ff42_3 : FF Tryz.prog 42 3 3 := by unfold FF; kernel_rfl
theorem ff42_4 : FF Tryz.prog 42 4 4 := by unfold FF; kernel_rfl
theorem ff42_5 : FF Tryz.prog 42 5 5 := by unfold FF; kernel_rfl
theorem ff46_0 : FF Tryz.prog 46 0 0 := by unfold FF; kernel_rfl
theorem ff46_1 : FF Tryz.prog 46 1 1 := by unfold FF; kernel_rfl
theorem ff54_0 : FF Tryz.prog 54 0 0 := by unfold FF; kernel_rfl
theorem ff54_1 : FF Tryz.prog 54 1 1 := by unfold FF; kernel_rfl
theorem ff54_2 : FF Tryz.prog 54 2 2 := by unfold FF; kernel_rfl
theorem ff71_0 : FF Tryz.prog 71 0 0 := by unfold FF; kernel_rfl
theorem ff71_1 : FF Tryz.prog 71 1 1 := by unfold FF; kernel_rfl
theorem ff73_0 : FF Tryz.prog 73 0 0 := by unfold FF; kernel_rfl
theorem ff73_1 : FF Tryz.prog 73 1 1 := by unfold FF; kernel_rfl
theorem ff86_0 : FF Tryz.prog 86 0 0 := by unfold FF; kernel_rfl
theorem ff86_1 : FF Tryz.prog 86 1 1 := by unfold FF; kernel_rfl
theorem ff93_0 : FF Tryz.prog 93 0 0 := by unfold FF; kernel_rfl
theorem ff93_1 : FF Tryz.prog 93 1 2 := by unfold FF; kernel_rfl
theorem ff96_0 : FF Tryz.prog 96 0 0 := by unfold FF; kernel_rfl
theorem ff96_1 : FF Tryz.prog 96 1 1 := by unfold FF; kernel_rfl
theorem ff112_0 : FF Tryz.prog 112 0 0 := by unfold FF; kernel_rfl
theorem ff112_1 : FF Tryz.prog 112 1 1 := by unfold FF; kernel_rfl
theorem ff112_2 : FF Tryz.prog 112 2 2 := by unfold FF; kernel_rfl
theorem ff117_0 : FF Tryz.prog 117 0 0 := by unfold FF; kernel_rfl
theorem ff117_1 : FF Tryz.prog 117 1 1 := by unfold FF; kernel_rfl
theorem ff123_0 : FF Tryz.prog 123 0 0 := by unfold FF; kernel_rfl
theorem ff123_1 : FF Tryz.prog 123 1 2 := by unfold FF; kernel_rfl
theorem ff145_0 : FF Tryz.prog 145 0 0 := by unfold FF; kernel_rfl
theorem ff145_1 : FF Tryz.prog 145 1 1 := by unfold FF; kernel_rfl
theorem ff158_0 : FF Tryz.prog 158 0 0 := by unfold FF; kernel_rfl
theorem ff158_1 : FF Tryz.prog 158 1 1 := by unfold FF; kernel_rfl
theorem ff169_0 : FF Tryz.prog 169 0 0 := by unfold FF; kernel_rfl
theorem ff169_1 : FF Tryz.prog 169 1 1 := by unfold FF; kernel_rfl
theorem ff169_3 : FF Tryz.prog 169 3 3 := by unfold FF; kernel_rfl
theorem ff191_0 : FF Tryz.prog 191 0 0 := by unfold FF; kernel_rfl
theorem ff191_1 : FF Tryz.prog 191 1 1 := by unfold FF; kernel_rfl
theorem ff191_2 : FF Tryz.prog 191 2 2 := by unfold FF; kernel_rfl
theorem ff191_3 : FF Tryz.prog 191 3 3 := by unfold FF; kernel_rfl
theorem ff191_4 : FF Tryz.prog 191 4 4 := by unfold FF; kernel_rfl
theorem ff191_5 : FF Tryz.prog 191 5 5 := by unfold FF; kernel_rfl
theorem ff191_6 : FF Tryz.prog 191 6 6 := by unfold FF; kernel_rfl
theorem ff191_7 : FF Tryz.prog 191 7 7 := by unfold FF; kernel_rfl
theorem ff197_0 : FF Tryz.prog 197 0 0 := by unfold FF; kernel_rfl
theorem ff197_1 : FF Tryz.prog 197 1 1 := by unfold FF; kernel_rfl
theorem fg46_1 : FG Tryz.prog 46 1 44 1 := by unfold FG; kernel_rfl
theorem sp26 : SPlaces Tryz.prog 26 = some [(0, 1), (1, 1)] := by kernel_rfl
theorem sp30 : SPlaces Tryz.prog 30 = some [(0, 2), (2, 1)] := by kernel_rfl
theorem sp42 : SPlaces Tryz.prog 42 = some [(0, 1), (1, 1), (2, 1), (3, 1), (4, 1), (5, 1)] := by kernel_rfl
theorem sp46 : SPlaces Tryz.prog 46 = some [(0, 1), (1, 1)] := by kernel_rfl
theorem sp54 : SPlaces Tryz.prog 54 = some [(0, 1), (1, 1), (2, 1)] := by kernel_rfl
theorem sp71 : SPlaces Tryz.prog 71 = some [(0, 1), (1, 1)] := by kernel_rfl
theorem sp73 : SPlaces Tryz.prog 73 = some [(0, 1), (1, 1)] := by kernel_rfl
theorem sp86 : SPlaces Tryz.prog 86 = some [(0, 1), (1, 1)] := by kernel_rfl
theorem sp96 : SPlaces Tryz.prog 96 = some [(0, 1), (1, 1)] := by kernel_rfl
theorem sp112 : SPlaces Tryz.prog 112 = some [(0, 1), (1, 1), (2, 1)] := by kernel_rfl
theorem sp117 : SPlaces Tryz.prog 117 = some [(0, 1), (1, 1)] := by kernel_rfl
theorem sp123 : SPlaces Tryz.prog 123 = some [(0, 2), (2, 2)] := by kernel_rfl
theorem sp145 : SPlaces Tryz.prog 145 = some [(0, 1), (1, 1)] := by kernel_rfl
theorem sp169 : SPlaces Tryz.prog 169 = some [(0, 1), (1, 1), (2, 1), (3, 1)] := by kernel_rfl
theorem eqg158 : Tryz.prog.eqGuardType Tryz.prog.depth 158 = false := by kernel_rfl
theorem fo158 : (Tryz.prog.fieldsOf 158).toList = [⟨ "Name", 9, 0, false, "", "", 0⟩, ⟨ "Text", 9, 1, false, "", "", 16⟩] := by kernel_rfl
theorem eqs158 (a0 : Str) (a1 : Str) (b0 : Str) (b1 : Str) (w : World) : (Op.equalIn 10000 158 (.agg #[sv a0, sv a1]) (.agg #[sv b0, sv b1])).run Tryz.prog w = .ok ((a0 == b0) && ((a1 == b1))) w := by
  have h : (Op.eqFields 9999 #[sv a0, sv a1] #[sv b0, sv b1] (Tryz.prog.fieldsOf 158).toList).run Tryz.prog w = .ok ((a0 == b0) && ((a1 == b1) && (true))) w := by
    rw [fo158]
    exact (eqF_cons (by decide) (part_one w Tryz.underlying9 rfl rfl) (part_one w Tryz.underlying9 rfl rfl) (eqIn_s 9998 w a0 b0 Tryz.underlying9) (eqF_cons (by decide) (part_one w Tryz.underlying9 rfl rfl) (part_one w Tryz.underlying9 rfl rfl) (eqIn_s 9998 w a1 b1 Tryz.underlying9) (eqF_nil 9999 _ _ w)))
  rw [run_equalIn_struct w 9999 158 _ _ (by kernel_rfl) (by kernel_rfl), h]
  simp only [Bool.and_true]
theorem eqg197 : Tryz.prog.eqGuardType Tryz.prog.depth 197 = false := by kernel_rfl
theorem fo197 : (Tryz.prog.fieldsOf 197).toList = [⟨ "Name", 9, 0, false, "", "", 0⟩, ⟨ "Num", 3, 1, false, "", "", 16⟩] := by kernel_rfl
theorem eqs197 (a0 : Str) (a1 : Int) (b0 : Str) (b1 : Int) (w : World) : (Op.equalIn 10000 197 (.agg #[sv a0, .int .i64 a1]) (.agg #[sv b0, .int .i64 b1])).run Tryz.prog w = .ok ((a0 == b0) && ((a1 == b1))) w := by
  have h : (Op.eqFields 9999 #[sv a0, .int .i64 a1] #[sv b0, .int .i64 b1] (Tryz.prog.fieldsOf 197).toList).run Tryz.prog w = .ok ((a0 == b0) && ((a1 == b1) && (true))) w := by
    rw [fo197]
    exact (eqF_cons (by decide) (part_one w Tryz.underlying9 rfl rfl) (part_one w Tryz.underlying9 rfl rfl) (eqIn_s 9998 w a0 b0 Tryz.underlying9) (eqF_cons (by decide) (part_one w Tryz.underlying3 rfl rfl) (part_one w Tryz.underlying3 rfl rfl) (eqIn_i 9998 w a1 b1 Tryz.underlying3) (eqF_nil 9999 _ _ w)))
  rw [run_equalIn_struct w 9999 197 _ _ (by kernel_rfl) (by kernel_rfl), h]
  simp only [Bool.and_true]
theorem sortLay112 : SlLaysF0.n6 Tryz.prog Tryz.sortLay112_ren := Tryz.sortLay112
theorem sortNone112 (p : Option Addr) (cap : Nat) (fv : Value) (w : World) : Calls Tryz.prog (Tryz.sortLay112_ren.f 6) #[.slice p 0 cap, fv] w fun e w' => e = .returned (.tuple #[]) ∧ w' = w := Go.Proofs.AnyF.slices_SortFunc_none sortLay112 p cap fv w
theorem sortLay117 : SlLaysF0.n6 Tryz.prog Tryz.sortLay117_ren := Tryz.sortLay117
theorem sortNone117 (p : Option Addr) (cap : Nat) (fv : Value) (w : World) : Calls Tryz.prog (Tryz.sortLay117_ren.f 6) #[.slice p 0 cap, fv] w fun e w' => e = .returned (.tuple #[]) ∧ w' = w := Go.Proofs.AnyF.slices_SortFunc_none sortLay117 p cap fv w
theorem sortLay144 : SlLaysF0.n6 Tryz.prog Tryz.sortLay144_ren := Tryz.sortLay144
theorem sortNone144 (p : Option Addr) (cap : Nat) (fv : Value) (w : World) : Calls Tryz.prog (Tryz.sortLay144_ren.f 6) #[.slice p 0 cap, fv] w fun e w' => e = .returned (.tuple #[]) ∧ w' = w := Go.Proofs.AnyF.slices_SortFunc_none sortLay144 p cap fv w
theorem co15 : CallOk Tryz.prog 15 := ⟨_, Tryz.func15, by kernel_rfl, rfl⟩
theorem co16 : CallOk Tryz.prog 16 := ⟨_, Tryz.func16, by kernel_rfl, rfl⟩
theorem co17 : CallOk Tryz.prog 17 := ⟨_, Tryz.func17, by kernel_rfl, rfl⟩
theorem co18 : CallOk Tryz.prog 18 := ⟨_, Tryz.func18, by kernel_rfl, rfl⟩
theorem co19 : CallOk Tryz.prog 19 := ⟨_, Tryz.func19, by kernel_rfl, rfl⟩
theorem co20 : CallOk Tryz.prog 20 := ⟨_, Tryz.func20, by kernel_rfl, rfl⟩
theorem co21 : CallOk Tryz.prog 21 := ⟨_, Tryz.func21, by kernel_rfl, rfl⟩
theorem co22 : CallOk Tryz.prog 22 := ⟨_, Tryz.func22, by kernel_rfl, rfl⟩
theorem co23 : CallOk Tryz.prog 23 := ⟨_, Tryz.func23, by kernel_rfl, rfl⟩
theorem co25 : CallOk Tryz.prog 25 := ⟨_, Tryz.func25, by kernel_rfl, rfl⟩
theorem co26 : CallOk Tryz.prog 26 := ⟨_, Tryz.func26, by kernel_rfl, rfl⟩
theorem co37 : CallOk Tryz.prog 37 := ⟨_, Tryz.func37, by kernel_rfl, rfl⟩
theorem co40 : CallOk Tryz.prog 40 := ⟨_, Tryz.func40, by kernel_rfl, rfl⟩
theorem co41 : CallOk Tryz.prog 41 := ⟨_, Tryz.func41, by kernel_rfl, rfl⟩
theorem co43 : CallOk Tryz.prog 43 := ⟨_, Tryz.func43, by kernel_rfl, rfl⟩
theorem co44 : CallOk Tryz.prog 44 := ⟨_, Tryz.func44, by kernel_rfl, rfl⟩
theorem co51 : CallOk Tryz.prog 51 := ⟨_, Tryz.func51, by kernel_rfl, rfl⟩
theorem co52 : CallOk Tryz.prog 52 := ⟨_, Tryz.func52, by kernel_rfl, rfl⟩
theorem co53 : CallOk Tryz.prog 53 := ⟨_, Tryz.func53, by kernel_rfl, rfl⟩
theorem co54 : CallOk Tryz.prog 54 := ⟨_, Tryz.func54, by kernel_rfl, rfl⟩
theorem co55 : CallOk Tryz.prog 55 := ⟨_, Tryz.func55, by kernel_rfl, rfl⟩
theorem co56 : CallOk Tryz.prog 56 := ⟨_, Tryz.func56, by kernel_rfl, rfl⟩
theorem co57 : CallOk Tryz.prog 57 := ⟨_, Tryz.func57, by kernel_rfl, rfl⟩
theorem co58 : CallOk Tryz.prog 58 := ⟨_, Tryz.func58, by kernel_rfl, rfl⟩
theorem co59 : CallOk Tryz.prog 59 := ⟨_, Tryz.func59, by kernel_rfl, rfl⟩
theorem co60 : CallOk Tryz.prog 60 := ⟨_, Tryz.func60, by kernel_rfl, rfl⟩
theorem co61 : CallOk Tryz.prog 61 := ⟨_, Tryz.func61, by kernel_rfl, rfl⟩
theorem co62 : CallOk Tryz.prog 62 := ⟨_, Tryz.func62, by kernel_rfl, rfl⟩
theorem co63 : CallOk Tryz.prog 63 := ⟨_, Tryz.func63, by kernel_rfl, rfl⟩
theorem co64 : CallOk Tryz.prog 64 := ⟨_, Tryz.func64, by kernel_rfl, rfl⟩
theorem co65 : CallOk Tryz.prog 65 := ⟨_, Tryz.func65, by kernel_rfl, rfl⟩
theorem co66 : CallOk Tryz.prog 66 := ⟨_, Tryz.func66, by kernel_rfl, rfl⟩
theorem co67 : CallOk Tryz.prog 67 := ⟨_, Tryz.func67, by kernel_rfl, rfl⟩
theorem co71 : CallOk Tryz.prog 71 := ⟨_, Tryz.func71, by kernel_rfl, rfl⟩
theorem co72 : CallOk Tryz.prog 72 := ⟨_, Tryz.func72, by kernel_rfl, rfl⟩
theorem co73 : CallOk Tryz.prog 73 := ⟨_, Tryz.func73, by kernel_rfl, rfl⟩
theorem co75 : CallOk Tryz.prog 75 := ⟨_, Tryz.func75, by kernel_rfl, rfl⟩
theorem co76 : CallOk Tryz.prog 76 := ⟨_, Tryz.func76, by kernel_rfl, rfl⟩
theorem co77 : CallOk Tryz.prog 77 := ⟨_, Tryz.func77, by kernel_rfl, rfl⟩
theorem co78 : CallOk Tryz.prog 78 := ⟨_, Tryz.func78, by kernel_rfl, rfl⟩
theorem co83 : CallOk Tryz.prog 83 := ⟨_, Tryz.func83, by kernel_rfl, rfl⟩
theorem co85 : CallOk Tryz.prog 85 := ⟨_, Tryz.func85, by kernel_rfl, rfl⟩
theorem co87 : CallOk Tryz.prog 87 := ⟨_, Tryz.func87, by kernel_rfl, rfl⟩
theorem co89 : CallOk Tryz.prog 89 := ⟨_, Tryz.func89, by kernel_rfl, rfl⟩
theorem co91 : CallOk Tryz.prog 91 := ⟨_, Tryz.func91, by kernel_rfl, rfl⟩
theorem co92 : CallOk Tryz.prog 92 := ⟨_, Tryz.func92, by kernel_rfl, rfl⟩
theorem co93 : CallOk Tryz.prog 93 := ⟨_, Tryz.func93, by kernel_rfl, rfl⟩
theorem co97 : CallOk Tryz.prog 97 := ⟨_, Tryz.func97, by kernel_rfl, rfl⟩
theorem co98 : CallOk Tryz.prog 98 := ⟨_, Tryz.func98, by kernel_rfl, rfl⟩
theorem co100 : CallOk Tryz.prog 100 := ⟨_, Tryz.func100, by kernel_rfl, rfl⟩
theorem co103 : CallOk Tryz.prog 103 := ⟨_, Tryz.func103, by kernel_rfl, rfl⟩
theorem co104 : CallOk Tryz.prog 104 := ⟨_, Tryz.func104, by kernel_rfl, rfl⟩
theorem co105 : CallOk Tryz.prog 105 := ⟨_, Tryz.func105, by kernel_rfl, rfl⟩
theorem co106 : CallOk Tryz.prog 106 := ⟨_, Tryz.func106, by kernel_rfl, rfl⟩
theorem co107 : CallOk Tryz.prog 107 := ⟨_, Tryz.func107, by kernel_rfl, rfl⟩
theorem co108 : CallOk Tryz.prog 108 := ⟨_, Tryz.func108, by kernel_rfl, rfl⟩
theorem co109 : CallOk Tryz.prog 109 := ⟨_, Tryz.func109, by kernel_rfl, rfl⟩
theorem co110 : CallOk Tryz.prog 110 := ⟨_, Tryz.func110, by kernel_rfl, rfl⟩
theorem co111 : CallOk Tryz.prog 111 := ⟨_, Tryz.func111, by kernel_rfl, rfl⟩
theorem co112 : CallOk Tryz.prog 112 := ⟨_, Tryz.func112, by kernel_rfl, rfl⟩
theorem co114 : CallOk Tryz.prog 114 := ⟨_, Tryz.func114, by kernel_rfl, rfl⟩
theorem co115 : CallOk Tryz.prog 115 := ⟨_, Tryz.func115, by kernel_rfl, rfl⟩
theorem co116 : CallOk Tryz.prog 116 := ⟨_, Tryz.func116, by kernel_rfl, rfl⟩
theorem co117 : CallOk Tryz.prog 117 := ⟨_, Tryz.func117, by kernel_rfl, rfl⟩
theorem co119 : CallOk Tryz.prog 119 := ⟨_, Tryz.func119, by kernel_rfl, rfl⟩
theorem co120 : CallOk Tryz.prog 120 := ⟨_, Tryz.func120, by kernel_rfl, rfl⟩
theorem co122 : CallOk Tryz.prog 122 := ⟨_, Tryz.func122, by kernel_rfl, rfl⟩
theorem co123 : CallOk Tryz.prog 123 := ⟨_, Tryz.func123, by kernel_rfl, rfl⟩
theorem co124 : CallOk Tryz.prog 124 := ⟨_, Tryz.func124, by kernel_rfl, rfl⟩
theorem co125 : CallOk Tryz.prog 125 := ⟨_, Tryz.func125, by kernel_rfl, rfl⟩
theorem co126 : CallOk Tryz.prog 126 := ⟨_, Tryz.func126, by kernel_rfl, rfl⟩
theorem co130 : CallOk Tryz.prog 130 := ⟨_, Tryz.func130, by kernel_rfl, rfl⟩
theorem co131 : CallOk Tryz.prog 131 := ⟨_, Tryz.func131, by kernel_rfl, rfl⟩
theorem co132 : CallOk Tryz.prog 132 := ⟨_, Tryz.func132, by kernel_rfl, rfl⟩
theorem co133 : CallOk Tryz.prog 133 := ⟨_, Tryz.func133, by kernel_rfl, rfl⟩
theorem co134 : CallOk Tryz.prog 134 := ⟨_, Tryz.func134, by kernel_rfl, rfl⟩
theorem co135 : CallOk Tryz.prog 135 := ⟨_, Tryz.func135, by kernel_rfl, rfl⟩
theorem co138 : CallOk Tryz.prog 138 := ⟨_, Tryz.func138, by kernel_rfl, rfl⟩
theorem co144 : CallOk Tryz.prog 144 := ⟨_, Tryz.func144, by kernel_rfl, rfl⟩
theorem co146 : CallOk Tryz.prog 146 := ⟨_, Tryz.func146, by kernel_rfl, rfl⟩
theorem co153 : CallOk Tryz.prog 153 := ⟨_, Tryz.func153, by kernel_rfl, rfl⟩
theorem co154 : CallOk Tryz.prog 154 := ⟨_, Tryz.func154, by kernel_rfl, rfl⟩
theorem co156 : CallOk Tryz.prog 156 := ⟨_, Tryz.func156, by kernel_rfl, rfl⟩
theorem co157 : CallOk Tryz.prog 157 := ⟨_, Tryz.func157, by kernel_rfl, rfl⟩
theorem co158 : CallOk Tryz.prog 158 := ⟨_, Tryz.func158, by kernel_rfl, rfl⟩
theorem co159 : CallOk Tryz.prog 159 := ⟨_, Tryz.func159, by kernel_rfl, rfl⟩
theorem co160 : CallOk Tryz.prog 160 := ⟨_, Tryz.func160, by kernel_rfl, rfl⟩
theorem co161 : CallOk Tryz.prog 161 := ⟨_, Tryz.func161, by kernel_rfl, rfl⟩
theorem co164 : CallOk Tryz.prog 164 := ⟨_, Tryz.func164, by kernel_rfl, rfl⟩
theorem co165 : CallOk Tryz.prog 165 := ⟨_, Tryz.func165, by kernel_rfl, rfl⟩
theorem co166 : CallOk Tryz.prog 166 := ⟨_, Tryz.func166, by kernel_rfl, rfl⟩
theorem co168 : CallOk Tryz.prog 168 := ⟨_, Tryz.func168, by kernel_rfl, rfl⟩
theorem co170 : CallOk Tryz.prog 170 := ⟨_, Tryz.func170, by kernel_rfl, rfl⟩
theorem co171 : CallOk Tryz.prog 171 := ⟨_, Tryz.func171, by kernel_rfl, rfl⟩
theorem co178 : CallOk Tryz.prog 178 := ⟨_, Tryz.func178, by kernel_rfl, rfl⟩
theorem co179 : CallOk Tryz.prog 179 := ⟨_, Tryz.func179, by kernel_rfl, rfl⟩
theorem co180 : CallOk Tryz.prog 180 := ⟨_, Tryz.func180, by kernel_rfl, rfl⟩
theorem co198 : CallOk Tryz.prog 198 := ⟨_, Tryz.func198, by kernel_rfl, rfl⟩
theorem co199 : CallOk Tryz.prog 199 := ⟨_, Tryz.func199, by kernel_rfl, rfl⟩
theorem co200 : CallOk Tryz.prog 200 := ⟨_, Tryz.func200, by kernel_rfl, rfl⟩
theorem co227 : CallOk Tryz.prog 227 := ⟨_, Tryz.func227, by kernel_rfl, rfl⟩
theorem co228 : CallOk Tryz.prog 228 := ⟨_, Tryz.func228, by kernel_rfl, rfl⟩
theorem co258 : CallOk Tryz.prog 258 := ⟨_, Tryz.func258, by kernel_rfl, rfl⟩
theorem co259 : CallOk Tryz.prog 259 := ⟨_, Tryz.func259, by kernel_rfl, rfl⟩
theorem co269 : CallOk Tryz.prog 269 := ⟨_, Tryz.func269, by kernel_rfl, rfl⟩
theorem co270 : CallOk Tryz.prog 270 := ⟨_, Tryz.func270, by kernel_rfl, rfl⟩
end Go.Proofs.YtmkhlppjphodfaaGreatDoor
