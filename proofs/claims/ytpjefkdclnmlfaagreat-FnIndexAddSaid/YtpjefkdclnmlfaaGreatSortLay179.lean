/-
  How the program's copy of slices.Sort lies: numbers of functions and types, each row checked by the kernel. Printed by the kit's own tool for a laying.
-/
import Derived.Shelf.Sort.Plain
import Derived.Test.YtpjefkdclnmlfaaGreatProg
namespace Go.Proofs
open Go.Shelf
def Tryz.sortLay179_ren:Go.Shelf.Ren:=⟨fun | 189=>179 | 125=>154 | 257=>224 | 128=>210 | 129=>211 | 294=>247 | 295=>248 | 296=>249 | 297=>250 | 298=>251 | 299=>252 | 216=>253 | 300=>254 | 301=>255 | 328=>264 | 329=>240 | 330=>241 | 331=>265 | 332=>266 | 215=>189 | 343=>269 | n=>n,fun | 28=>71 | 3=>3 | 46=>192 | 0=>0 | 51=>241 | 53=>243 | 4=>4 | 183=>234 | 182=>233 | 131=>238 | 5=>5 | 9=>9 | 218=>261 | 222=>265 | 228=>280 | 229=>281 | n=>n,fun | n=>n⟩
theorem Tryz.sortLay179:Go.Proofs.Lays.n189 Tryz.prog Tryz.sortLay179_ren:={
  mixed:=by kernel_rfl
  f125:=Tryz.func154.trans (congrArg some (by kernel_rfl))
  f128:=Tryz.func210.trans (congrArg some (by kernel_rfl))
  f129:=Tryz.func211.trans (congrArg some (by kernel_rfl))
  f189:=Tryz.func179.trans (congrArg some (by kernel_rfl))
  f215:=Tryz.func189.trans (congrArg some (by kernel_rfl))
  f216:=Tryz.func253.trans (congrArg some (by kernel_rfl))
  f257:=Tryz.func224.trans (congrArg some (by kernel_rfl))
  f294:=Tryz.func247.trans (congrArg some (by kernel_rfl))
  f295:=Tryz.func248.trans (congrArg some (by kernel_rfl))
  f296:=Tryz.func249.trans (congrArg some (by kernel_rfl))
  f297:=Tryz.func250.trans (congrArg some (by kernel_rfl))
  f298:=Tryz.func251.trans (congrArg some (by kernel_rfl))
  f299:=Tryz.func252.trans (congrArg some (by kernel_rfl))
  f300:=Tryz.func254.trans (congrArg some (by kernel_rfl))
  f301:=Tryz.func255.trans (congrArg some (by kernel_rfl))
  f328:=Tryz.func264.trans (congrArg some (by kernel_rfl))
  f329:=Tryz.func240.trans (congrArg some (by kernel_rfl))
  f330:=Tryz.func241.trans (congrArg some (by kernel_rfl))
  f331:=Tryz.func265.trans (congrArg some (by kernel_rfl))
  f332:=Tryz.func266.trans (congrArg some (by kernel_rfl))
  f343:=Tryz.func269.trans (congrArg some (by kernel_rfl))
  t0:=Tryz.underlying0
  a0:=Tryz.isAgg0
  z0:=Tryz.sizeOf0
  v0:=Tryz.zeroValue0
  t3:=Tryz.underlying3
  a3:=Tryz.isAgg3
  z3:=Tryz.sizeOf3
  v3:=Tryz.zeroValue3
  t4:=Tryz.underlying4
  a4:=Tryz.isAgg4
  z4:=Tryz.sizeOf4
  v4:=Tryz.zeroValue4
  t5:=Tryz.underlying5
  a5:=Tryz.isAgg5
  z5:=Tryz.sizeOf5
  v5:=Tryz.zeroValue5
  t9:=Tryz.underlying9
  a9:=Tryz.isAgg9
  z9:=Tryz.sizeOf9
  v9:=Tryz.zeroValue9
  t28:=Tryz.underlying71
  a28:=Tryz.isAgg71
  z28:=Tryz.sizeOf71
  v28:=Tryz.zeroValue71
  t46:=Tryz.underlying192
  a46:=Tryz.isAgg192
  z46:=Tryz.sizeOf192
  v46:=Tryz.zeroValue192
  t51:=Tryz.underlying241
  a51:=Tryz.isAgg241
  z51:=Tryz.sizeOf241
  v51:=Tryz.zeroValue241
  t53:=Tryz.underlying243
  a53:=Tryz.isAgg243
  z53:=Tryz.sizeOf243
  v53:=Tryz.zeroValue243
  t131:=Tryz.underlying238
  a131:=Tryz.isAgg238
  z131:=Tryz.sizeOf238
  v131:=Tryz.zeroValue238
  t182:=Tryz.underlying233
  a182:=Tryz.isAgg233
  z182:=Tryz.sizeOf233
  v182:=Tryz.zeroValue233
  t183:=Tryz.underlying234
  a183:=Tryz.isAgg234
  z183:=Tryz.sizeOf234
  v183:=Tryz.zeroValue234
  t218:=Tryz.underlying261
  a218:=Tryz.isAgg261
  z218:=Tryz.sizeOf261
  v218:=Tryz.zeroValue261
  t222:=Tryz.underlying265
  a222:=Tryz.isAgg265
  z222:=Tryz.sizeOf265
  v222:=Tryz.zeroValue265
  t228:=Tryz.underlying280
  a228:=Tryz.isAgg280
  z228:=Tryz.sizeOf280
  v228:=Tryz.zeroValue280
  t229:=Tryz.underlying281
  a229:=Tryz.isAgg281
  z229:=Tryz.sizeOf281
  v229:=Tryz.zeroValue281}
end Go.Proofs
