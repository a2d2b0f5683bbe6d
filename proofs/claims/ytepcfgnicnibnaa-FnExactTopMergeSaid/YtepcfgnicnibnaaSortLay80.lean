/-
  How the program's copy of slices.SortFunc lies: numbers of functions and types, each row checked by the kernel. Printed by the kit's own tool for a laying.
-/
import Derived.Shelf.SlLaysF0
import Derived.Test.YtepcfgnicnibnaaProg
namespace Go.Proofs
open Go.Shelf
def Try.sortLay80_ren:Go.Shelf.Ren:=⟨fun | 6=>80 | 15=>105 | 14=>104 | 28=>129 | 29=>130 | 20=>121 | 21=>122 | 22=>123 | 23=>124 | 24=>125 | 25=>126 | 26=>127 | 27=>128 | 46=>132 | 47=>133 | 48=>134 | 49=>135 | 50=>136 | 57=>137 | n=>n,fun | 22=>24 | 24=>62 | 25=>110 | 3=>3 | 39=>143 | 0=>0 | 53=>167 | 55=>169 | 4=>4 | 46=>160 | 45=>159 | 50=>164 | 5=>5 | 9=>9 | 66=>171 | 70=>175 | 76=>177 | 77=>73 | n=>n,fun | n=>n⟩
theorem Try.sortLay80:Go.Proofs.SlLaysF0.n6 Try.prog Try.sortLay80_ren:={
  mixed:=by kernel_rfl
  f6:=⟨Try.f80.name,by decide,Try.func80.trans (congrArg some (by kernel_rfl))⟩
  f14:=⟨Try.f104.name,by decide,Try.func104.trans (congrArg some (by kernel_rfl))⟩
  f15:=Try.func105.trans (congrArg some (by kernel_rfl))
  f20:=⟨Try.f121.name,by decide,Try.func121.trans (congrArg some (by kernel_rfl))⟩
  f21:=⟨Try.f122.name,by decide,Try.func122.trans (congrArg some (by kernel_rfl))⟩
  f22:=⟨Try.f123.name,by decide,Try.func123.trans (congrArg some (by kernel_rfl))⟩
  f23:=⟨Try.f124.name,by decide,Try.func124.trans (congrArg some (by kernel_rfl))⟩
  f24:=⟨Try.f125.name,by decide,Try.func125.trans (congrArg some (by kernel_rfl))⟩
  f25:=⟨Try.f126.name,by decide,Try.func126.trans (congrArg some (by kernel_rfl))⟩
  f26:=⟨Try.f127.name,by decide,Try.func127.trans (congrArg some (by kernel_rfl))⟩
  f27:=⟨Try.f128.name,by decide,Try.func128.trans (congrArg some (by kernel_rfl))⟩
  f28:=Try.func129.trans (congrArg some (by kernel_rfl))
  f29:=Try.func130.trans (congrArg some (by kernel_rfl))
  f46:=⟨Try.f132.name,by decide,Try.func132.trans (congrArg some (by kernel_rfl))⟩
  f47:=Try.func133.trans (congrArg some (by kernel_rfl))
  f48:=Try.func134.trans (congrArg some (by kernel_rfl))
  f49:=⟨Try.f135.name,by decide,Try.func135.trans (congrArg some (by kernel_rfl))⟩
  f50:=⟨Try.f136.name,by decide,Try.func136.trans (congrArg some (by kernel_rfl))⟩
  f57:=⟨Try.f137.name,by decide,Try.func137.trans (congrArg some (by kernel_rfl))⟩
  t0:=Try.underlying0
  a0:=Try.isAgg0
  z0:=Try.sizeOf0
  v0:=Try.zeroValue0
  t3:=Try.underlying3
  a3:=Try.isAgg3
  z3:=Try.sizeOf3
  v3:=Try.zeroValue3
  t4:=Try.underlying4
  a4:=Try.isAgg4
  z4:=Try.sizeOf4
  v4:=Try.zeroValue4
  t5:=Try.underlying5
  a5:=Try.isAgg5
  z5:=Try.sizeOf5
  v5:=Try.zeroValue5
  t9:=Try.underlying9
  a9:=Try.isAgg9
  z9:=Try.sizeOf9
  v9:=Try.zeroValue9
  t22:=Try.underlying24
  a22:=Try.isAgg24
  z22:=Try.sizeOf24
  v22:=Try.zeroValue24
  t25:=Try.underlying110
  a25:=Try.isAgg110
  z25:=Try.sizeOf110
  v25:=Try.zeroValue110
  t39:=Try.underlying143
  a39:=Try.isAgg143
  z39:=Try.sizeOf143
  v39:=Try.zeroValue143
  t45:=Try.underlying159
  a45:=Try.isAgg159
  z45:=Try.sizeOf159
  v45:=Try.zeroValue159
  t46:=Try.underlying160
  a46:=Try.isAgg160
  z46:=Try.sizeOf160
  v46:=Try.zeroValue160
  t50:=Try.underlying164
  a50:=Try.isAgg164
  z50:=Try.sizeOf164
  v50:=Try.zeroValue164
  t53:=Try.underlying167
  a53:=Try.isAgg167
  z53:=Try.sizeOf167
  v53:=Try.zeroValue167
  t55:=Try.underlying169
  a55:=Try.isAgg169
  z55:=Try.sizeOf169
  v55:=Try.zeroValue169
  t66:=Try.underlying171
  a66:=Try.isAgg171
  z66:=Try.sizeOf171
  v66:=Try.zeroValue171
  t70:=Try.underlying175
  a70:=Try.isAgg175
  z70:=Try.sizeOf175
  v70:=Try.zeroValue175
  t76:=Try.underlying177
  a76:=Try.isAgg177
  z76:=Try.sizeOf177
  v76:=Try.zeroValue177
  t77:=Try.underlying73
  a77:=Try.isAgg73
  z77:=Try.sizeOf73
  v77:=Try.zeroValue73}
end Go.Proofs
