/-
  Part 8 of 54: the contracts that the proof of the last part uses; each stands under its own head.
-/
import Derived.Shelf.SlSortCmp.WholeK
import Derived.Ground.SlsfProg
import Derived.Test.YtimoapjhepmehaaGreatDoorProg
set_option linter.unusedSimpArgs false
set_option linter.unusedVariables false
namespace Go.Proofs
open Go.Shelf
def Tryz.sortRows_ren:Go.Shelf.Ren:=⟨fun|6=>138|15=>129|14=>187|28=>178|29=>179|20=>203|21=>204|22=>205|23=>206|24=>207|25=>208|26=>209|27=>210|46=>227|47=>228|48=>229|49=>230|50=>231|57=>238|n=>n,fun|22=>34|24=>67|25=>240|3=>3|39=>208|0=>0|53=>229|55=>257|4=>4|46=>309|45=>308|50=>58|5=>5|9=>9|66=>329|70=>333|76=>343|77=>344|n=>n,fun|n=>n⟩
theorem Tryz.sortRows:Go.Proofs.SlLaysF0.n6 Tryz.prog Tryz.sortRows_ren:={
  mixed:=by kernel_rfl
  f6:=⟨Tryz.f138.name,by decide,Tryz.func138.trans (congrArg some (by kernel_rfl))⟩
  f14:=⟨Tryz.f187.name,by decide,Tryz.func187.trans (congrArg some (by kernel_rfl))⟩
  f15:=Tryz.func129.trans (congrArg some (by kernel_rfl))
  f20:=⟨Tryz.f203.name,by decide,Tryz.func203.trans (congrArg some (by kernel_rfl))⟩
  f21:=⟨Tryz.f204.name,by decide,Tryz.func204.trans (congrArg some (by kernel_rfl))⟩
  f22:=⟨Tryz.f205.name,by decide,Tryz.func205.trans (congrArg some (by kernel_rfl))⟩
  f23:=⟨Tryz.f206.name,by decide,Tryz.func206.trans (congrArg some (by kernel_rfl))⟩
  f24:=⟨Tryz.f207.name,by decide,Tryz.func207.trans (congrArg some (by kernel_rfl))⟩
  f25:=⟨Tryz.f208.name,by decide,Tryz.func208.trans (congrArg some (by kernel_rfl))⟩
  f26:=⟨Tryz.f209.name,by decide,Tryz.func209.trans (congrArg some (by kernel_rfl))⟩
  f27:=⟨Tryz.f210.name,by decide,Tryz.func210.trans (congrArg some (by kernel_rfl))⟩
  f28:=Tryz.func178.trans (congrArg some (by kernel_rfl))
  f29:=Tryz.func179.trans (congrArg some (by kernel_rfl))
  f46:=⟨Tryz.f227.name,by decide,Tryz.func227.trans (congrArg some (by kernel_rfl))⟩
  f47:=Tryz.func228.trans (congrArg some (by kernel_rfl))
  f48:=Tryz.func229.trans (congrArg some (by kernel_rfl))
  f49:=⟨Tryz.f230.name,by decide,Tryz.func230.trans (congrArg some (by kernel_rfl))⟩
  f50:=⟨Tryz.f231.name,by decide,Tryz.func231.trans (congrArg some (by kernel_rfl))⟩
  f57:=⟨Tryz.f238.name,by decide,Tryz.func238.trans (congrArg some (by kernel_rfl))⟩
  t0:=Tryz.underlying0
  a0:=Tryz.isAgg0
  z0:=Tryz.sizeOf0
  v0:=Tryz.zeroValue0
  t3:=Tryz.underlying3
  a3:=Tryz.isAgg3
  z3:=Tryz.sizeOf3
  v3:=Tryz.zeroValue3
  t4:=Tryz.underlying4
  a4:=Tryz.isAgg4
  z4:=Tryz.sizeOf4
  v4:=Tryz.zeroValue4
  t5:=Tryz.underlying5
  a5:=Tryz.isAgg5
  z5:=Tryz.sizeOf5
  v5:=Tryz.zeroValue5
  t9:=Tryz.underlying9
  a9:=Tryz.isAgg9
  z9:=Tryz.sizeOf9
  v9:=Tryz.zeroValue9
  t22:=Tryz.underlying34
  a22:=Tryz.isAgg34
  z22:=Tryz.sizeOf34
  v22:=Tryz.zeroValue34
  t25:=Tryz.underlying240
  a25:=Tryz.isAgg240
  z25:=Tryz.sizeOf240
  v25:=Tryz.zeroValue240
  t39:=Tryz.underlying208
  a39:=Tryz.isAgg208
  z39:=Tryz.sizeOf208
  v39:=Tryz.zeroValue208
  t45:=Tryz.underlying308
  a45:=Tryz.isAgg308
  z45:=Tryz.sizeOf308
  v45:=Tryz.zeroValue308
  t46:=Tryz.underlying309
  a46:=Tryz.isAgg309
  z46:=Tryz.sizeOf309
  v46:=Tryz.zeroValue309
  t50:=Tryz.underlying58
  a50:=Tryz.isAgg58
  z50:=Tryz.sizeOf58
  v50:=Tryz.zeroValue58
  t53:=Tryz.underlying229
  a53:=Tryz.isAgg229
  z53:=Tryz.sizeOf229
  v53:=Tryz.zeroValue229
  t55:=Tryz.underlying257
  a55:=Tryz.isAgg257
  z55:=Tryz.sizeOf257
  v55:=Tryz.zeroValue257
  t66:=Tryz.underlying329
  a66:=Tryz.isAgg329
  z66:=Tryz.sizeOf329
  v66:=Tryz.zeroValue329
  t70:=Tryz.underlying333
  a70:=Tryz.isAgg333
  z70:=Tryz.sizeOf333
  v70:=Tryz.zeroValue333
  t76:=Tryz.underlying343
  a76:=Tryz.isAgg343
  z76:=Tryz.sizeOf343
  v76:=Tryz.zeroValue343
  t77:=Tryz.underlying344
  a77:=Tryz.isAgg344
  z77:=Tryz.sizeOf344
  v77:=Tryz.zeroValue344 }
end Go.Proofs
