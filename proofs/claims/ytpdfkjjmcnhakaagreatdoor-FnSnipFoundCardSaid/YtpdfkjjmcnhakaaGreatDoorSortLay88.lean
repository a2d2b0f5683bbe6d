/-
  How the program's copy of slices.SortFunc lies: numbers of functions and types, each row checked by the kernel. Printed by the kit's own tool for a laying.
-/
import Derived.Shelf.SlLaysF0
import Derived.Test.YtpdfkjjmcnhakaaGreatDoorProg
namespace Go.Proofs
open Go.Shelf
def Tryz.sortLay88_ren:Go.Shelf.Ren:=⟨fun | 6=>88 | 15=>137 | 14=>136 | 28=>185 | 29=>186 | 20=>177 | 21=>178 | 22=>179 | 23=>180 | 24=>181 | 25=>182 | 26=>183 | 27=>184 | 46=>223 | 47=>224 | 48=>225 | 49=>226 | 50=>227 | 57=>238 | n=>n,fun | 22=>41 | 24=>97 | 25=>150 | 3=>3 | 39=>208 | 0=>0 | 53=>248 | 55=>230 | 4=>4 | 46=>241 | 45=>240 | 50=>245 | 5=>5 | 9=>9 | 66=>287 | 70=>291 | 76=>299 | 77=>218 | n=>n,fun | n=>n⟩
theorem Tryz.sortLay88:Go.Proofs.SlLaysF0.n6 Tryz.prog Tryz.sortLay88_ren:={
  mixed:=by kernel_rfl
  f6:=⟨Tryz.f88.name,by decide,Tryz.func88.trans (congrArg some (by kernel_rfl))⟩
  f14:=⟨Tryz.f136.name,by decide,Tryz.func136.trans (congrArg some (by kernel_rfl))⟩
  f15:=Tryz.func137.trans (congrArg some (by kernel_rfl))
  f20:=⟨Tryz.f177.name,by decide,Tryz.func177.trans (congrArg some (by kernel_rfl))⟩
  f21:=⟨Tryz.f178.name,by decide,Tryz.func178.trans (congrArg some (by kernel_rfl))⟩
  f22:=⟨Tryz.f179.name,by decide,Tryz.func179.trans (congrArg some (by kernel_rfl))⟩
  f23:=⟨Tryz.f180.name,by decide,Tryz.func180.trans (congrArg some (by kernel_rfl))⟩
  f24:=⟨Tryz.f181.name,by decide,Tryz.func181.trans (congrArg some (by kernel_rfl))⟩
  f25:=⟨Tryz.f182.name,by decide,Tryz.func182.trans (congrArg some (by kernel_rfl))⟩
  f26:=⟨Tryz.f183.name,by decide,Tryz.func183.trans (congrArg some (by kernel_rfl))⟩
  f27:=⟨Tryz.f184.name,by decide,Tryz.func184.trans (congrArg some (by kernel_rfl))⟩
  f28:=Tryz.func185.trans (congrArg some (by kernel_rfl))
  f29:=Tryz.func186.trans (congrArg some (by kernel_rfl))
  f46:=⟨Tryz.f223.name,by decide,Tryz.func223.trans (congrArg some (by kernel_rfl))⟩
  f47:=Tryz.func224.trans (congrArg some (by kernel_rfl))
  f48:=Tryz.func225.trans (congrArg some (by kernel_rfl))
  f49:=⟨Tryz.f226.name,by decide,Tryz.func226.trans (congrArg some (by kernel_rfl))⟩
  f50:=⟨Tryz.f227.name,by decide,Tryz.func227.trans (congrArg some (by kernel_rfl))⟩
  f57:=⟨Tryz.f238.name,by decide,Tryz.func238.trans (congrArg some (by kernel_rfl))⟩
  t0:=Tryz.underlying0
  a0:=Tryz.isAgg0
  z0:=Tryz.sizeOf0
  v0:=Tryz.zeroValue0
  t3:=Tryz.underlying3
  a3:=Tryz.isAgg3
  z3:=Tryz.sizeOf3
  v3:=Tryz.zeroValue3
  t4:=Tryz.underlying4
  a4:=Tryz.isAgg4
  z4:=Tryz.sizeOf4
  v4:=Tryz.zeroValue4
  t5:=Tryz.underlying5
  a5:=Tryz.isAgg5
  z5:=Tryz.sizeOf5
  v5:=Tryz.zeroValue5
  t9:=Tryz.underlying9
  a9:=Tryz.isAgg9
  z9:=Tryz.sizeOf9
  v9:=Tryz.zeroValue9
  t22:=Tryz.underlying41
  a22:=Tryz.isAgg41
  z22:=Tryz.sizeOf41
  v22:=Tryz.zeroValue41
  t25:=Tryz.underlying150
  a25:=Tryz.isAgg150
  z25:=Tryz.sizeOf150
  v25:=Tryz.zeroValue150
  t39:=Tryz.underlying208
  a39:=Tryz.isAgg208
  z39:=Tryz.sizeOf208
  v39:=Tryz.zeroValue208
  t45:=Tryz.underlying240
  a45:=Tryz.isAgg240
  z45:=Tryz.sizeOf240
  v45:=Tryz.zeroValue240
  t46:=Tryz.underlying241
  a46:=Tryz.isAgg241
  z46:=Tryz.sizeOf241
  v46:=Tryz.zeroValue241
  t50:=Tryz.underlying245
  a50:=Tryz.isAgg245
  z50:=Tryz.sizeOf245
  v50:=Tryz.zeroValue245
  t53:=Tryz.underlying248
  a53:=Tryz.isAgg248
  z53:=Tryz.sizeOf248
  v53:=Tryz.zeroValue248
  t55:=Tryz.underlying230
  a55:=Tryz.isAgg230
  z55:=Tryz.sizeOf230
  v55:=Tryz.zeroValue230
  t66:=Tryz.underlying287
  a66:=Tryz.isAgg287
  z66:=Tryz.sizeOf287
  v66:=Tryz.zeroValue287
  t70:=Tryz.underlying291
  a70:=Tryz.isAgg291
  z70:=Tryz.sizeOf291
  v70:=Tryz.zeroValue291
  t76:=Tryz.underlying299
  a76:=Tryz.isAgg299
  z76:=Tryz.sizeOf299
  v76:=Tryz.zeroValue299
  t77:=Tryz.underlying218
  a77:=Tryz.isAgg218
  z77:=Tryz.sizeOf218
  v77:=Tryz.zeroValue218}
end Go.Proofs
