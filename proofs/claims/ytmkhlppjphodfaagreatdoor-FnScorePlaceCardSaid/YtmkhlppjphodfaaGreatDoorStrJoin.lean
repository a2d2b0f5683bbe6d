/-
  How the program's copy of strings.Join lies: numbers of functions and types, each row checked by the kernel. Printed by the kit's own tool for a laying.
-/
import Derived.Shelf.Strings.OnBuilder
import Derived.Test.YtmkhlppjphodfaaGreatDoorProg
namespace Go.Proofs
open Go.Shelf
def Tryz.lays156_ren : Go.Shelf.Ren := ⟨fun | 156 => 178 | 165 => 224 | 166 => 225 | 169 => 226 | 240 => 256 | 241 => 257 | 276 => 267 | 277 => 268 | n => n, fun | 31 => 23 | 9 => 9 | 3 => 3 | 4 => 4 | 0 => 0 | 20 => 20 | 72 => 248 | 76 => 252 | 70 => 246 | 37 => 22 | 75 => 251 | 127 => 275 | 164 => 282 | 5 => 5 | 80 => 254 | n => n, fun | n => n⟩
theorem Tryz.lays156 : Go.Proofs.Lays.n156 Tryz.prog Tryz.lays156_ren := {
 mixed := by kernel_rfl
 f156 := Tryz.func178.trans (congrArg some (by kernel_rfl))
 f165 := Tryz.func224.trans (congrArg some (by kernel_rfl))
 f166 := Tryz.func225.trans (congrArg some (by kernel_rfl))
 f169 := Tryz.func226.trans (congrArg some (by kernel_rfl))
 f240 := Tryz.func256.trans (congrArg some (by kernel_rfl))
 f241 := Tryz.func257.trans (congrArg some (by kernel_rfl))
 f276 := Tryz.func267.trans (congrArg some (by kernel_rfl))
 f277 := Tryz.func268.trans (congrArg some (by kernel_rfl))
 t0 := Tryz.underlying0
 a0 := Tryz.isAgg0
 z0 := Tryz.sizeOf0
 v0 := Tryz.zeroValue0
 t3 := Tryz.underlying3
 a3 := Tryz.isAgg3
 z3 := Tryz.sizeOf3
 v3 := Tryz.zeroValue3
 t4 := Tryz.underlying4
 a4 := Tryz.isAgg4
 z4 := Tryz.sizeOf4
 v4 := Tryz.zeroValue4
 t9 := Tryz.underlying9
 a9 := Tryz.isAgg9
 z9 := Tryz.sizeOf9
 v9 := Tryz.zeroValue9
 t20 := Tryz.underlying20
 a20 := Tryz.isAgg20
 z20 := Tryz.sizeOf20
 v20 := Tryz.zeroValue20
 t31 := Tryz.underlying23
 a31 := Tryz.isAgg23
 z31 := Tryz.sizeOf23
 v31 := Tryz.zeroValue23
 t37 := Tryz.underlying22
 a37 := Tryz.isAgg22
 z37 := Tryz.sizeOf22
 v37 := Tryz.zeroValue22
 t70 := Tryz.underlying246
 a70 := Tryz.isAgg246
 z70 := Tryz.sizeOf246
 v70 := Tryz.zeroValue246
 t72 := Tryz.underlying248
 a72 := Tryz.isAgg248
 z72 := Tryz.sizeOf248
 v72 := Tryz.zeroValue248
 t75 := Tryz.underlying251
 a75 := Tryz.isAgg251
 z75 := Tryz.sizeOf251
 v75 := Tryz.zeroValue251
 t76 := Tryz.underlying252
 a76 := Tryz.isAgg252
 z76 := Tryz.sizeOf252
 v76 := Tryz.zeroValue252
 t127 := Tryz.underlying275
 a127 := Tryz.isAgg275
 z127 := Tryz.sizeOf275
 v127 := Tryz.zeroValue275
 t164 := Tryz.underlying282
 a164 := Tryz.isAgg282
 z164 := Tryz.sizeOf282
 v164 := Tryz.zeroValue282 }
theorem Tryz.Builder_Extra_156 : Builder.Extra Tryz.prog Tryz.lays156_ren := {
 sizeBuilder := by kernel_rfl
 liesBuilder := by kernel_rfl
 t5 := Tryz.underlying5
 a5 := Tryz.isAgg5
 z5 := Tryz.sizeOf5
 v5 := Tryz.zeroValue5
 infoByte := by kernel_rfl
 cellsByte := by kernel_rfl
 sizeByte := by kernel_rfl
 neB5 := by decide }
open Go.RowKit in
theorem Tryz.strings_Join_none (a : Option Addr) (c : Nat) (sep : ByteArray) (w : World) :
  Calls Tryz.prog 178 #[.slice a 0 c, .string sep] w fun e w' => e = .returned (.string ⟨#[]⟩) ∧ w' = w := Any.strings_Join_none Tryz.lays156 Tryz.Builder_Extra_156 a c sep w
open Go.RowKit in
theorem Tryz.strings_Join (bk o c : Nat) (xs : List ByteArray) (sep : ByteArray) (w : World) (hcells : ∀ (j : Nat) x, xs[j]? = some x → w.cell? ⟨bk, o + j, none⟩ = some (.string x)) (hbk : bk < w.heap.size) (hN : xs.length ≤ 140737488355328) (hcap : xs.length ≤ c) (hlen : (Lib.join (xs.map (·.data.toList)) sep.data.toList).length ≤ 140737488355328) :
  Calls Tryz.prog 178 #[.slice (some ⟨bk, o, none⟩) xs.length c, .string sep] w fun e w' => e = .returned (.string ⟨(Lib.join (xs.map (·.data.toList)) sep.data.toList).toArray⟩) ∧ Below w.heap.size w w' := Any.strings_Join Tryz.lays156 Tryz.Builder_Extra_156 bk o c xs sep w hcells hbk hN hcap hlen
end Go.Proofs
