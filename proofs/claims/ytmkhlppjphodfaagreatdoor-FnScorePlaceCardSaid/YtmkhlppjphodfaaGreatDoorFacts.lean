/-
  Closed facts on the program's tables. Printed by gen.py.
-/
import Derived.Test.YtmkhlppjphodfaaGreatDoorModel
import Derived.Test.YtmkhlppjphodfaaGreatDoorChecked
import Derived.KernelRfl
import Derived.Test.YtmkhlppjphodfaaGreatDoorCoreSQ
import Derived.Shelf.SlSortCmp.NoneTotal
import Derived.Test.YtmkhlppjphodfaaGreatDoorSortLays
import Derived.Test.YtmkhlppjphodfaaGreatDoorSegI
import Derived.Test.YtmkhlppjphodfaaGreatDoorCoreN
import Derived.Test.YtmkhlppjphodfaaGreatDoorStrJoin
import Derived.Test.YtmkhlppjphodfaaGreatDoorCoreVY
namespace Go.Proofs.YtmkhlppjphodfaaGreatDoor
open Go Go.Fk Tryz
theorem mixed : prog.follows .mixedOrders = true := by kernel_rfl
theorem c0b : U1.Pairwise fun a b => a.1 ≠ b.1 := by decide
theorem b77 (n : Int) : d9 (u4 n).leastWords_ := a3Q (ok := fun x : a11 => d9 x.leastWords_) (by show ∀ p ∈ U1, d9 p.2.leastWords_; decide) I0 n
theorem b78 (n : Int) : d9 (u4 n).mostWords_ := a3Q (ok := fun x : a11 => d9 x.mostWords_) (by show ∀ p ∈ U1, d9 p.2.mostWords_; decide) I0 n
theorem b79 (n : Int) : d9 (u4 n).low_ := a3Q (ok := fun x : a11 => d9 x.low_) (by show ∀ p ∈ U1, d9 p.2.low_; decide) I0 n
theorem b8a (n : Int) : d9 (u4 n).high_ := a3Q (ok := fun x : a11 => d9 x.high_) (by show ∀ p ∈ U1, d9 p.2.high_; decide) I0 n
theorem b8b (n : Int) : d9 (u4 n).leastKids_ := a3Q (ok := fun x : a11 => d9 x.leastKids_) (by show ∀ p ∈ U1, d9 p.2.leastKids_; decide) I0 n
theorem b8c (n : Int) : d9 (u4 n).mostKids_ := a3Q (ok := fun x : a11 => d9 x.mostKids_) (by show ∀ p ∈ U1, d9 p.2.mostKids_; decide) I0 n
theorem D8 : TF prog 3 1 false (.int .i64 0) 8 := t_w
theorem tf4 : TF prog 4 1 false (.bool false) 1 := t_w
theorem tf5 : TF prog 5 1 false (.int .u8 0) 1 := t_w
theorem D9 : TF prog 9 1 false (.string ⟨#[]⟩) 16 := t_w
theorem b2z : TF prog 22 1 false (.slice none 0 0) 24 := t_w
theorem O5 : TF prog 23 1 false (.slice none 0 0) 24 := t_w
theorem a5V : TF prog 24 1 false (.slice none 0 0) 24 := t_w
theorem E6 : TF prog 26 2 true (.agg #[.slice none 0 0, .slice none 0 0]) 48 := t_w
theorem a5w : TF prog 35 1 false (.slice none 0 0) 24 := t_w
theorem a2P : TF prog 40 1 false (.slice none 0 0) 24 := t_w
theorem C3 : TF prog 42 6 true (.agg #[.int .i64 0, .string ⟨#[]⟩, .slice none 0 0, .int .i64 0, .int .i64 0, .slice none 0 0]) 88 := t_w
theorem tf44 : TF prog 44 1 false (.slice none 0 0) 24 := t_w
theorem G0 : TF prog 46 2 true (.agg #[.slice none 0 0, .slice none 0 0]) 48 := t_w
theorem a3Y : TF prog 51 1 false (.slice none 0 0) 24 := t_w
theorem a4e : TF prog 52 1 false (.slice none 0 0) 24 := t_w
theorem C0 : TF prog 54 3 true (.agg #[.int .i64 0, .slice none 0 0, .slice none 0 0]) 56 := t_w
theorem Y3 : TF prog 55 1 false (.slice none 0 0) 24 := t_w
theorem a2Q : TF prog 57 1 false (.slice none 0 0) 24 := t_w
theorem a1m : TF prog 71 2 true (.agg #[.int .i64 0, .slice none 0 0]) 32 := t_w
theorem W5 : TF prog 73 2 true (.agg #[.int .i64 0, .int .i64 0]) 16 := t_w
theorem a3Z : TF prog 96 2 true (.agg #[.slice none 0 0, .string ⟨#[]⟩]) 40 := t_w
theorem E3 : TF prog 112 3 true (.agg #[.string ⟨#[]⟩, .string ⟨#[]⟩, .slice none 0 0]) 56 := t_w
theorem F9 : TF prog 117 2 true (.agg #[.string ⟨#[]⟩, .int .i64 0]) 24 := t_w
theorem b9U : TF prog 123 4 true (.agg #[.slice none 0 0, .slice none 0 0, .slice none 0 0, .slice none 0 0]) 96 := t_w
theorem b7P : TF prog 145 2 true (.agg #[.slice none 0 0, .int .i64 0]) 32 := t_w
theorem M9 : TF prog 158 2 true (.agg #[.string ⟨#[]⟩, .string ⟨#[]⟩]) 32 := t_w
theorem a1Z : TF prog 169 4 true (.agg #[.string ⟨#[]⟩, .int .i64 0, .int .i64 0, .int .i64 0]) 40 := t_w
theorem b6h : TF prog 191 8 true (.agg #[.bool false, .int .i64 0, .int .i64 0, .int .i64 0, .int .i64 0, .bool false, .int .i64 0, .int .i64 0]) 64 := t_w
theorem b9V : TF prog 193 1 false (.map none) 8 := t_w
theorem P9 : TF prog 197 2 true (.agg #[.string ⟨#[]⟩, .int .i64 0]) 24 := t_w
theorem a1w : FF prog 26 0 0 := f_w
theorem a1x : FF prog 26 1 1 := f_w
theorem a34 : FF prog 42 0 0 := f_w
theorem Q1 : FF prog 42 1 1 := f_w
theorem V9 : FF prog 42 2 2 := f_w
theorem X6 : FF prog 42 3 3 := f_w
theorem a14 : FF prog 42 4 4 := f_w
theorem Q2 : FF prog 42 5 5 := f_w
theorem a03 : FF prog 46 0 0 := f_w
theorem G3 : FF prog 46 1 1 := f_w
theorem X7 : FF prog 54 0 0 := f_w
theorem W0 : FF prog 54 1 1 := f_w
theorem X8 : FF prog 54 2 2 := f_w
theorem a4E : FF prog 71 0 0 := f_w
theorem a3t : FF prog 71 1 1 := f_w
theorem b0N : FF prog 73 0 0 := f_w
theorem a6T : FF prog 73 1 1 := f_w
theorem a0K : FF prog 96 0 0 := f_w
theorem a4F : FF prog 96 1 1 := f_w
theorem a0l : FF prog 112 0 0 := f_w
theorem X5 : FF prog 112 1 1 := f_w
theorem L1 : FF prog 112 2 2 := f_w
theorem a1q : FF prog 117 0 0 := f_w
theorem a1r : FF prog 117 1 1 := f_w
theorem a8x : FF prog 123 0 0 := f_w
theorem a3j : FF prog 123 1 2 := f_w
theorem a3k : FF prog 145 0 0 := f_w
theorem b0L : FF prog 145 1 1 := f_w
theorem a2l : FF prog 158 0 0 := f_w
theorem a6f : FF prog 158 1 1 := f_w
theorem a6g : FF prog 169 0 0 := f_w
theorem b3s : FF prog 169 1 1 := f_w
theorem b6F : FF prog 169 3 3 := f_w
theorem b3t : FF prog 191 0 0 := f_w
theorem b6G : FF prog 191 1 1 := f_w
theorem b6H : FF prog 191 2 2 := f_w
theorem b6I : FF prog 191 3 3 := f_w
theorem b6J : FF prog 191 4 4 := f_w
theorem b0M : FF prog 191 5 5 := f_w
theorem b6K : FF prog 191 6 6 := f_w
theorem b6L : FF prog 191 7 7 := f_w
theorem a3l : FF prog 197 0 0 := f_w
theorem a8y : FF prog 197 1 1 := f_w
theorem b75 : FG prog 46 1 44 1 := by unfold FG; kernel_rfl
theorem c0d : U2 prog 26 = some [(0, 1), (1, 1)] := by kernel_rfl
theorem a8q : U2 prog 42 = some [(0, 1), (1, 1), (2, 1), (3, 1), (4, 1), (5, 1)] := by kernel_rfl
theorem b8z : U2 prog 46 = some [(0, 1), (1, 1)] := by kernel_rfl
theorem a93 : U2 prog 54 = some [(0, 1), (1, 1), (2, 1)] := by kernel_rfl
theorem b9S : U2 prog 71 = some [(0, 1), (1, 1)] := by kernel_rfl
theorem b9T : U2 prog 73 = some [(0, 1), (1, 1)] := by kernel_rfl
theorem b7c : U2 prog 96 = some [(0, 1), (1, 1)] := by kernel_rfl
theorem b7K : U2 prog 112 = some [(0, 1), (1, 1), (2, 1)] := by kernel_rfl
theorem b3U : U2 prog 117 = some [(0, 1), (1, 1)] := by kernel_rfl
theorem b9R : U2 prog 123 = some [(0, 2), (2, 2)] := by kernel_rfl
theorem b7L : U2 prog 145 = some [(0, 1), (1, 1)] := by kernel_rfl
theorem b7M : U2 prog 158 = some [(0, 1), (1, 1)] := by kernel_rfl
theorem b7N : U2 prog 169 = some [(0, 1), (1, 1), (2, 1), (3, 1)] := by kernel_rfl
theorem b7O : U2 prog 197 = some [(0, 1), (1, 1)] := by kernel_rfl
theorem sortLay117 : SlLaysF0.n6 prog Tryz.sortLay117_ren := Tryz.sortLay117
theorem b2j (p : Option Addr) (cap : Nat) (fv : Value) (w : World) : Calls prog (Tryz.sortLay117_ren.f 6) #[.slice p 0 cap, fv] w fun e w' => e = .returned (.tuple #[]) ∧ w' = w := Go.Proofs.AnyF.slices_SortFunc_none sortLay117 p cap fv w
theorem b7U : o4 prog 19 := H7 func19
theorem c1u : o4 prog 24 := H7 func24
theorem b9x : o4 prog 25 := H7 func25
theorem b9Y : o4 prog 26 := H7 func26
theorem c1C : o4 prog 27 := H7 func27
theorem c1v : o4 prog 28 := H7 func28
theorem c1w : o4 prog 29 := H7 func29
theorem c1D : o4 prog 30 := H7 func30
theorem b6t : o4 prog 31 := H7 func31
theorem b6u : o4 prog 40 := H7 func40
theorem b9Z : o4 prog 41 := H7 func41
theorem b9E : o4 prog 43 := H7 func43
theorem b90 : o4 prog 52 := H7 func52
theorem b9F : o4 prog 55 := H7 func55
theorem b91 : o4 prog 57 := H7 func57
theorem a2W : o4 prog 58 := H7 func58
theorem a6d : o4 prog 59 := H7 func59
theorem b7V : o4 prog 60 := H7 func60
theorem b7W : o4 prog 61 := H7 func61
theorem b9G : o4 prog 63 := H7 func63
theorem b92 : o4 prog 65 := H7 func65
theorem b93 : o4 prog 67 := H7 func67
theorem b94 : o4 prog 68 := H7 func68
theorem c1x : o4 prog 69 := H7 func69
theorem b1y : o4 prog 70 := H7 func70
theorem b95 : o4 prog 71 := H7 func71
theorem b96 : o4 prog 72 := H7 func72
theorem b6v : o4 prog 73 := H7 func73
theorem b97 : o4 prog 74 := H7 func74
theorem b6w : o4 prog 75 := H7 func75
theorem b9H : o4 prog 76 := H7 func76
theorem b5t : o4 prog 77 := H7 func77
theorem a2C : o4 prog 78 := H7 func78
theorem b7Y : o4 prog 83 := H7 func83
theorem a6e : o4 prog 85 := H7 func85
theorem a4B : o4 prog 87 := H7 func87
theorem b70 : o4 prog 89 := H7 func89
theorem b71 : o4 prog 93 := H7 func93
theorem c0a : o4 prog 97 := H7 func97
theorem b9J : o4 prog 98 := H7 func98
theorem b7l : o4 prog 100 := H7 func100
theorem b8D : o4 prog 103 := H7 func103
theorem b5k : o4 prog 105 := H7 func105
theorem b3r : o4 prog 106 := H7 func106
theorem b8E : o4 prog 107 := H7 func107
theorem b8F : o4 prog 108 := H7 func108
theorem b8G : o4 prog 109 := H7 func109
theorem b5l : o4 prog 111 := H7 func111
theorem b8H : o4 prog 115 := H7 func115
theorem b8I : o4 prog 116 := H7 func116
theorem b8J : o4 prog 117 := H7 func117
theorem b8K : o4 prog 119 := H7 func119
theorem b7m : o4 prog 120 := H7 func120
theorem b8L : o4 prog 121 := H7 func121
theorem b8M : o4 prog 122 := H7 func122
theorem b8N : o4 prog 123 := H7 func123
theorem b5m : o4 prog 124 := H7 func124
theorem b8O : o4 prog 125 := H7 func125
theorem b8P : o4 prog 126 := H7 func126
theorem b8Q : o4 prog 127 := H7 func127
theorem b7n : o4 prog 128 := H7 func128
theorem b8R : o4 prog 129 := H7 func129
theorem b8S : o4 prog 130 := H7 func130
theorem b7o : o4 prog 131 := H7 func131
theorem b8T : o4 prog 132 := H7 func132
theorem b8U : o4 prog 133 := H7 func133
theorem b5n : o4 prog 134 := H7 func134
theorem b8V : o4 prog 135 := H7 func135
theorem b5o : o4 prog 138 := H7 func138
theorem b1t : o4 prog 139 := H7 func139
theorem b8W : o4 prog 146 := H7 func146
theorem b81 : o4 prog 153 := H7 func153
theorem b7r : o4 prog 154 := H7 func154
theorem b7s : o4 prog 156 := H7 func156
theorem b7t : o4 prog 159 := H7 func159
theorem b83 : o4 prog 160 := H7 func160
theorem b7u : o4 prog 164 := H7 func164
theorem b84 : o4 prog 165 := H7 func165
theorem b85 : o4 prog 166 := H7 func166
theorem b7v : o4 prog 168 := H7 func168
theorem b86 : o4 prog 169 := H7 func169
theorem b87 : o4 prog 170 := H7 func170
theorem b5q : o4 prog 171 := H7 func171
theorem b88 : o4 prog 172 := H7 func172
theorem b89 : o4 prog 173 := H7 func173
theorem b9a : o4 prog 174 := H7 func174
theorem b9b : o4 prog 175 := H7 func175
theorem b9c : o4 prog 176 := H7 func176
theorem b9d : o4 prog 177 := H7 func177
theorem b9e : o4 prog 178 := H7 func178
theorem b9f : o4 prog 179 := H7 func179
theorem b1u : o4 prog 180 := H7 func180
theorem b9g : o4 prog 183 := H7 func183
theorem b9h : o4 prog 184 := H7 func184
theorem b7y : o4 prog 199 := H7 func199
theorem b9m : o4 prog 219 := H7 func219
theorem b9n : o4 prog 220 := H7 func220
theorem b7z : o4 prog 221 := H7 func221
theorem b7A : o4 prog 222 := H7 func222
theorem b9o : o4 prog 223 := H7 func223
theorem b9p : o4 prog 227 := H7 func227
theorem b9q : o4 prog 228 := H7 func228
theorem b9r : o4 prog 230 := H7 func230
theorem b9s : o4 prog 231 := H7 func231
theorem b7D : o4 prog 255 := H7 func255
theorem b9y : o4 prog 258 := H7 func258
theorem b9z : o4 prog 259 := H7 func259
theorem b9A : o4 prog 266 := H7 func266
theorem b9B : o4 prog 269 := H7 func269
theorem b7F : o4 prog 270 := H7 func270
end Go.Proofs.YtmkhlppjphodfaaGreatDoor
