/-
  How the program's copy of slices.SortFunc lies: numbers of functions and types, each row checked by the kernel. Printed by the kit's own tool for a laying.
-/
import Derived.Shelf.SlLaysF0
import Derived.Test.YtpjefkdclnmlfaaGreatProg
namespace Go.Proofs
open Go.Shelf
def Tryz.sortLay75_ren:Go.Shelf.Ren:=⟨fun | 6=>75 | 15=>154 | 14=>153 | 28=>210 | 29=>211 | 20=>202 | 21=>203 | 22=>204 | 23=>205 | 24=>206 | 25=>207 | 26=>208 | 27=>209 | 46=>239 | 47=>240 | 48=>241 | 49=>242 | 50=>243 | 57=>263 | n=>n,fun | 22=>44 | 24=>116 | 25=>119 | 3=>3 | 39=>192 | 0=>0 | 53=>241 | 55=>243 | 4=>4 | 46=>234 | 45=>233 | 50=>238 | 5=>5 | 9=>9 | 66=>261 | 70=>265 | 76=>280 | 77=>281 | n=>n,fun | n=>n⟩
theorem Tryz.sortLay75:Go.Proofs.SlLaysF0.n6 Tryz.prog Tryz.sortLay75_ren:={
  mixed:=by kernel_rfl
  f6:=⟨Tryz.f75.name,by decide,Tryz.func75.trans (congrArg some (by kernel_rfl))⟩
  f14:=⟨Tryz.f153.name,by decide,Tryz.func153.trans (congrArg some (by kernel_rfl))⟩
  f15:=Tryz.func154.trans (congrArg some (by kernel_rfl))
  f20:=⟨Tryz.f202.name,by decide,Tryz.func202.trans (congrArg some (by kernel_rfl))⟩
  f21:=⟨Tryz.f203.name,by decide,Tryz.func203.trans (congrArg some (by kernel_rfl))⟩
  f22:=⟨Tryz.f204.name,by decide,Tryz.func204.trans (congrArg some (by kernel_rfl))⟩
  f23:=⟨Tryz.f205.name,by decide,Tryz.func205.trans (congrArg some (by kernel_rfl))⟩
  f24:=⟨Tryz.f206.name,by decide,Tryz.func206.trans (congrArg some (by kernel_rfl))⟩
  f25:=⟨Tryz.f207.name,by decide,Tryz.func207.trans (congrArg some (by kernel_rfl))⟩
  f26:=⟨Tryz.f208.name,by decide,Tryz.func208.trans (congrArg some (by kernel_rfl))⟩
  f27:=⟨Tryz.f209.name,by decide,Tryz.func209.trans (congrArg some (by kernel_rfl))⟩
  f28:=Tryz.func210.trans (congrArg some (by kernel_rfl))
  f29:=Tryz.func211.trans (congrArg some (by kernel_rfl))
  f46:=⟨Tryz.f239.name,by decide,Tryz.func239.trans (congrArg some (by kernel_rfl))⟩
  f47:=Tryz.func240.trans (congrArg some (by kernel_rfl))
  f48:=Tryz.func241.trans (congrArg some (by kernel_rfl))
  f49:=⟨Tryz.f242.name,by decide,Tryz.func242.trans (congrArg some (by kernel_rfl))⟩
  f50:=⟨Tryz.f243.name,by decide,Tryz.func243.trans (congrArg some (by kernel_rfl))⟩
  f57:=⟨Tryz.f263.name,by decide,Tryz.func263.trans (congrArg some (by kernel_rfl))⟩
  t0:=Tryz.underlying0
  a0:=Tryz.isAgg0
  z0:=Tryz.sizeOf0
  v0:=Tryz.zeroValue0
  t3:=Tryz.underlying3
  a3:=Tryz.isAgg3
  z3:=Tryz.sizeOf3
  v3:=Tryz.zeroValue3
  t4:=Tryz.underlying4
  a4:=Tryz.isAgg4
  z4:=Tryz.sizeOf4
  v4:=Tryz.zeroValue4
  t5:=Tryz.underlying5
  a5:=Tryz.isAgg5
  z5:=Tryz.sizeOf5
  v5:=Tryz.zeroValue5
  t9:=Tryz.underlying9
  a9:=Tryz.isAgg9
  z9:=Tryz.sizeOf9
  v9:=Tryz.zeroValue9
  t22:=Tryz.underlying44
  a22:=Tryz.isAgg44
  z22:=Tryz.sizeOf44
  v22:=Tryz.zeroValue44
  t25:=Tryz.underlying119
  a25:=Tryz.isAgg119
  z25:=Tryz.sizeOf119
  v25:=Tryz.zeroValue119
  t39:=Tryz.underlying192
  a39:=Tryz.isAgg192
  z39:=Tryz.sizeOf192
  v39:=Tryz.zeroValue192
  t45:=Tryz.underlying233
  a45:=Tryz.isAgg233
  z45:=Tryz.sizeOf233
  v45:=Tryz.zeroValue233
  t46:=Tryz.underlying234
  a46:=Tryz.isAgg234
  z46:=Tryz.sizeOf234
  v46:=Tryz.zeroValue234
  t50:=Tryz.underlying238
  a50:=Tryz.isAgg238
  z50:=Tryz.sizeOf238
  v50:=Tryz.zeroValue238
  t53:=Tryz.underlying241
  a53:=Tryz.isAgg241
  z53:=Tryz.sizeOf241
  v53:=Tryz.zeroValue241
  t55:=Tryz.underlying243
  a55:=Tryz.isAgg243
  z55:=Tryz.sizeOf243
  v55:=Tryz.zeroValue243
  t66:=Tryz.underlying261
  a66:=Tryz.isAgg261
  z66:=Tryz.sizeOf261
  v66:=Tryz.zeroValue261
  t70:=Tryz.underlying265
  a70:=Tryz.isAgg265
  z70:=Tryz.sizeOf265
  v70:=Tryz.zeroValue265
  t76:=Tryz.underlying280
  a76:=Tryz.isAgg280
  z76:=Tryz.sizeOf280
  v76:=Tryz.zeroValue280
  t77:=Tryz.underlying281
  a77:=Tryz.isAgg281
  z77:=Tryz.sizeOf281
  v77:=Tryz.zeroValue281}
end Go.Proofs
