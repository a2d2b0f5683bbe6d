/-
  How the program's copy of slices.SortFunc lies: numbers of functions and types, each row checked by the kernel. Printed by the kit's own tool for a laying.
-/
import Derived.Shelf.SlLaysF0
import Derived.Test.YtfiahfncijjliaaGreatDoorProg
namespace Go.Proofs
open Go.Shelf
def Tryz.sortLay142_ren:Go.Shelf.Ren:=⟨fun | 6=>142 | 15=>161 | 14=>174 | 28=>188 | 29=>189 | 20=>192 | 21=>193 | 22=>194 | 23=>195 | 24=>196 | 25=>197 | 26=>198 | 27=>199 | 46=>205 | 47=>201 | 48=>202 | 49=>206 | 50=>207 | 57=>209 | n=>n,fun | 22=>51 | 24=>92 | 25=>197 | 3=>3 | 39=>220 | 0=>0 | 53=>237 | 55=>239 | 4=>4 | 46=>230 | 45=>229 | 50=>234 | 5=>5 | 9=>9 | 66=>246 | 70=>250 | 76=>254 | 77=>255 | n=>n,fun | n=>n⟩
theorem Tryz.sortLay142:Go.Proofs.SlLaysF0.n6 Tryz.prog Tryz.sortLay142_ren:={
  mixed:=by kernel_rfl
  f6:=⟨Tryz.f142.name,by decide,Tryz.func142.trans (congrArg some (by kernel_rfl))⟩
  f14:=⟨Tryz.f174.name,by decide,Tryz.func174.trans (congrArg some (by kernel_rfl))⟩
  f15:=Tryz.func161.trans (congrArg some (by kernel_rfl))
  f20:=⟨Tryz.f192.name,by decide,Tryz.func192.trans (congrArg some (by kernel_rfl))⟩
  f21:=⟨Tryz.f193.name,by decide,Tryz.func193.trans (congrArg some (by kernel_rfl))⟩
  f22:=⟨Tryz.f194.name,by decide,Tryz.func194.trans (congrArg some (by kernel_rfl))⟩
  f23:=⟨Tryz.f195.name,by decide,Tryz.func195.trans (congrArg some (by kernel_rfl))⟩
  f24:=⟨Tryz.f196.name,by decide,Tryz.func196.trans (congrArg some (by kernel_rfl))⟩
  f25:=⟨Tryz.f197.name,by decide,Tryz.func197.trans (congrArg some (by kernel_rfl))⟩
  f26:=⟨Tryz.f198.name,by decide,Tryz.func198.trans (congrArg some (by kernel_rfl))⟩
  f27:=⟨Tryz.f199.name,by decide,Tryz.func199.trans (congrArg some (by kernel_rfl))⟩
  f28:=Tryz.func188.trans (congrArg some (by kernel_rfl))
  f29:=Tryz.func189.trans (congrArg some (by kernel_rfl))
  f46:=⟨Tryz.f205.name,by decide,Tryz.func205.trans (congrArg some (by kernel_rfl))⟩
  f47:=Tryz.func201.trans (congrArg some (by kernel_rfl))
  f48:=Tryz.func202.trans (congrArg some (by kernel_rfl))
  f49:=⟨Tryz.f206.name,by decide,Tryz.func206.trans (congrArg some (by kernel_rfl))⟩
  f50:=⟨Tryz.f207.name,by decide,Tryz.func207.trans (congrArg some (by kernel_rfl))⟩
  f57:=⟨Tryz.f209.name,by decide,Tryz.func209.trans (congrArg some (by kernel_rfl))⟩
  t0:=Tryz.underlying0
  a0:=Tryz.isAgg0
  z0:=Tryz.sizeOf0
  v0:=Tryz.zeroValue0
  t3:=Tryz.underlying3
  a3:=Tryz.isAgg3
  z3:=Tryz.sizeOf3
  v3:=Tryz.zeroValue3
  t4:=Tryz.underlying4
  a4:=Tryz.isAgg4
  z4:=Tryz.sizeOf4
  v4:=Tryz.zeroValue4
  t5:=Tryz.underlying5
  a5:=Tryz.isAgg5
  z5:=Tryz.sizeOf5
  v5:=Tryz.zeroValue5
  t9:=Tryz.underlying9
  a9:=Tryz.isAgg9
  z9:=Tryz.sizeOf9
  v9:=Tryz.zeroValue9
  t22:=Tryz.underlying51
  a22:=Tryz.isAgg51
  z22:=Tryz.sizeOf51
  v22:=Tryz.zeroValue51
  t25:=Tryz.underlying197
  a25:=Tryz.isAgg197
  z25:=Tryz.sizeOf197
  v25:=Tryz.zeroValue197
  t39:=Tryz.underlying220
  a39:=Tryz.isAgg220
  z39:=Tryz.sizeOf220
  v39:=Tryz.zeroValue220
  t45:=Tryz.underlying229
  a45:=Tryz.isAgg229
  z45:=Tryz.sizeOf229
  v45:=Tryz.zeroValue229
  t46:=Tryz.underlying230
  a46:=Tryz.isAgg230
  z46:=Tryz.sizeOf230
  v46:=Tryz.zeroValue230
  t50:=Tryz.underlying234
  a50:=Tryz.isAgg234
  z50:=Tryz.sizeOf234
  v50:=Tryz.zeroValue234
  t53:=Tryz.underlying237
  a53:=Tryz.isAgg237
  z53:=Tryz.sizeOf237
  v53:=Tryz.zeroValue237
  t55:=Tryz.underlying239
  a55:=Tryz.isAgg239
  z55:=Tryz.sizeOf239
  v55:=Tryz.zeroValue239
  t66:=Tryz.underlying246
  a66:=Tryz.isAgg246
  z66:=Tryz.sizeOf246
  v66:=Tryz.zeroValue246
  t70:=Tryz.underlying250
  a70:=Tryz.isAgg250
  z70:=Tryz.sizeOf250
  v70:=Tryz.zeroValue250
  t76:=Tryz.underlying254
  a76:=Tryz.isAgg254
  z76:=Tryz.sizeOf254
  v76:=Tryz.zeroValue254
  t77:=Tryz.underlying255
  a77:=Tryz.isAgg255
  z77:=Tryz.sizeOf255
  v77:=Tryz.zeroValue255}
end Go.Proofs
