/-
  How the program's copy of slices.SortFunc lies: numbers of functions and types, each row checked by the kernel. Printed by the kit's own tool for a laying.
-/
import Derived.Shelf.SlLaysF0
import Derived.Test.YtepcfgnicnibnaaGreatProg
namespace Go.Proofs
open Go.Shelf
def Tryz.sortLay118_ren:Go.Shelf.Ren:=⟨fun | 6=>118 | 15=>101 | 14=>159 | 28=>142 | 29=>143 | 20=>174 | 21=>175 | 22=>176 | 23=>177 | 24=>178 | 25=>179 | 26=>180 | 27=>181 | 46=>185 | 47=>167 | 48=>168 | 49=>186 | 50=>187 | 57=>188 | n=>n,fun | 22=>49 | 24=>76 | 25=>177 | 3=>3 | 39=>153 | 0=>0 | 53=>193 | 55=>195 | 4=>4 | 46=>186 | 45=>185 | 50=>190 | 5=>5 | 9=>9 | 66=>221 | 70=>225 | 76=>233 | 77=>234 | n=>n,fun | n=>n⟩
theorem Tryz.sortLay118:Go.Proofs.SlLaysF0.n6 Tryz.prog Tryz.sortLay118_ren:={
  mixed:=by kernel_rfl
  f6:=⟨Tryz.f118.name,by decide,Tryz.func118.trans (congrArg some (by kernel_rfl))⟩
  f14:=⟨Tryz.f159.name,by decide,Tryz.func159.trans (congrArg some (by kernel_rfl))⟩
  f15:=Tryz.func101.trans (congrArg some (by kernel_rfl))
  f20:=⟨Tryz.f174.name,by decide,Tryz.func174.trans (congrArg some (by kernel_rfl))⟩
  f21:=⟨Tryz.f175.name,by decide,Tryz.func175.trans (congrArg some (by kernel_rfl))⟩
  f22:=⟨Tryz.f176.name,by decide,Tryz.func176.trans (congrArg some (by kernel_rfl))⟩
  f23:=⟨Tryz.f177.name,by decide,Tryz.func177.trans (congrArg some (by kernel_rfl))⟩
  f24:=⟨Tryz.f178.name,by decide,Tryz.func178.trans (congrArg some (by kernel_rfl))⟩
  f25:=⟨Tryz.f179.name,by decide,Tryz.func179.trans (congrArg some (by kernel_rfl))⟩
  f26:=⟨Tryz.f180.name,by decide,Tryz.func180.trans (congrArg some (by kernel_rfl))⟩
  f27:=⟨Tryz.f181.name,by decide,Tryz.func181.trans (congrArg some (by kernel_rfl))⟩
  f28:=Tryz.func142.trans (congrArg some (by kernel_rfl))
  f29:=Tryz.func143.trans (congrArg some (by kernel_rfl))
  f46:=⟨Tryz.f185.name,by decide,Tryz.func185.trans (congrArg some (by kernel_rfl))⟩
  f47:=Tryz.func167.trans (congrArg some (by kernel_rfl))
  f48:=Tryz.func168.trans (congrArg some (by kernel_rfl))
  f49:=⟨Tryz.f186.name,by decide,Tryz.func186.trans (congrArg some (by kernel_rfl))⟩
  f50:=⟨Tryz.f187.name,by decide,Tryz.func187.trans (congrArg some (by kernel_rfl))⟩
  f57:=⟨Tryz.f188.name,by decide,Tryz.func188.trans (congrArg some (by kernel_rfl))⟩
  t0:=Tryz.underlying0
  a0:=Tryz.isAgg0
  z0:=Tryz.sizeOf0
  v0:=Tryz.zeroValue0
  t3:=Tryz.underlying3
  a3:=Tryz.isAgg3
  z3:=Tryz.sizeOf3
  v3:=Tryz.zeroValue3
  t4:=Tryz.underlying4
  a4:=Tryz.isAgg4
  z4:=Tryz.sizeOf4
  v4:=Tryz.zeroValue4
  t5:=Tryz.underlying5
  a5:=Tryz.isAgg5
  z5:=Tryz.sizeOf5
  v5:=Tryz.zeroValue5
  t9:=Tryz.underlying9
  a9:=Tryz.isAgg9
  z9:=Tryz.sizeOf9
  v9:=Tryz.zeroValue9
  t22:=Tryz.underlying49
  a22:=Tryz.isAgg49
  z22:=Tryz.sizeOf49
  v22:=Tryz.zeroValue49
  t25:=Tryz.underlying177
  a25:=Tryz.isAgg177
  z25:=Tryz.sizeOf177
  v25:=Tryz.zeroValue177
  t39:=Tryz.underlying153
  a39:=Tryz.isAgg153
  z39:=Tryz.sizeOf153
  v39:=Tryz.zeroValue153
  t45:=Tryz.underlying185
  a45:=Tryz.isAgg185
  z45:=Tryz.sizeOf185
  v45:=Tryz.zeroValue185
  t46:=Tryz.underlying186
  a46:=Tryz.isAgg186
  z46:=Tryz.sizeOf186
  v46:=Tryz.zeroValue186
  t50:=Tryz.underlying190
  a50:=Tryz.isAgg190
  z50:=Tryz.sizeOf190
  v50:=Tryz.zeroValue190
  t53:=Tryz.underlying193
  a53:=Tryz.isAgg193
  z53:=Tryz.sizeOf193
  v53:=Tryz.zeroValue193
  t55:=Tryz.underlying195
  a55:=Tryz.isAgg195
  z55:=Tryz.sizeOf195
  v55:=Tryz.zeroValue195
  t66:=Tryz.underlying221
  a66:=Tryz.isAgg221
  z66:=Tryz.sizeOf221
  v66:=Tryz.zeroValue221
  t70:=Tryz.underlying225
  a70:=Tryz.isAgg225
  z70:=Tryz.sizeOf225
  v70:=Tryz.zeroValue225
  t76:=Tryz.underlying233
  a76:=Tryz.isAgg233
  z76:=Tryz.sizeOf233
  v76:=Tryz.zeroValue233
  t77:=Tryz.underlying234
  a77:=Tryz.isAgg234
  z77:=Tryz.sizeOf234
  v77:=Tryz.zeroValue234}
end Go.Proofs
