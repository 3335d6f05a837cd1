/- Part 26 of the proofs. -/
import Derived.Ground.NamesProg
import Derived.Shelf.Lays
import Derived.Test.YtlmlkkoapahmjaaGreatDoorS16
import Derived.Test.YtlmlkkoapahmjaaGreatDoorD05
set_option linter.all false
set_option maxHeartbeats 100000000
namespace Go.Proofs
open Go.Shelf
def Tryz.laysSort_ren:Go.Shelf.Ren:=⟨fun|189=>148|125=>157|257=>193|128=>209|129=>210|294=>239|295=>240|296=>241|297=>242|298=>243|299=>244|216=>165|300=>245|301=>246|328=>271|329=>254|330=>255|331=>272|332=>273|215=>215|343=>283|n=>n,fun|28=>43|3=>3|46=>246|0=>0|51=>140|53=>302|4=>4|183=>295|182=>294|131=>96|5=>5|9=>9|218=>338|222=>342|228=>365|229=>366|n=>n,fun|n=>n⟩
theorem Tryz.laysSort:Go.Proofs.Lays.n189 Tryz.prog Tryz.laysSort_ren:={
 mixed:=by kernel_rfl
 f125:=Tryz.func157.trans (congrArg some (by kernel_rfl))
 f128:=Tryz.func209.trans (congrArg some (by kernel_rfl))
 f129:=Tryz.func210.trans (congrArg some (by kernel_rfl))
 f189:=Tryz.func148.trans (congrArg some (by kernel_rfl))
 f215:=Tryz.func215.trans (congrArg some (by kernel_rfl))
 f216:=Tryz.func165.trans (congrArg some (by kernel_rfl))
 f257:=Tryz.func193.trans (congrArg some (by kernel_rfl))
 f294:=Tryz.func239.trans (congrArg some (by kernel_rfl))
 f295:=Tryz.func240.trans (congrArg some (by kernel_rfl))
 f296:=Tryz.func241.trans (congrArg some (by kernel_rfl))
 f297:=Tryz.func242.trans (congrArg some (by kernel_rfl))
 f298:=Tryz.func243.trans (congrArg some (by kernel_rfl))
 f299:=Tryz.func244.trans (congrArg some (by kernel_rfl))
 f300:=Tryz.func245.trans (congrArg some (by kernel_rfl))
 f301:=Tryz.func246.trans (congrArg some (by kernel_rfl))
 f328:=Tryz.func271.trans (congrArg some (by kernel_rfl))
 f329:=Tryz.func254.trans (congrArg some (by kernel_rfl))
 f330:=Tryz.func255.trans (congrArg some (by kernel_rfl))
 f331:=Tryz.func272.trans (congrArg some (by kernel_rfl))
 f332:=Tryz.func273.trans (congrArg some (by kernel_rfl))
 f343:=Tryz.func283.trans (congrArg some (by kernel_rfl))
 t0:=Tryz.underlying0
 a0:=Tryz.isAgg0
 z0:=Tryz.sizeOf0
 v0:=Tryz.zeroValue0
 t3:=Tryz.underlying3
 a3:=Tryz.isAgg3
 z3:=Tryz.sizeOf3
 v3:=Tryz.zeroValue3
 t4:=Tryz.underlying4
 a4:=Tryz.isAgg4
 z4:=Tryz.sizeOf4
 v4:=Tryz.zeroValue4
 t5:=Tryz.underlying5
 a5:=Tryz.isAgg5
 z5:=Tryz.sizeOf5
 v5:=Tryz.zeroValue5
 t9:=Tryz.underlying9
 a9:=Tryz.isAgg9
 z9:=Tryz.sizeOf9
 v9:=Tryz.zeroValue9
 t28:=Tryz.underlying43
 a28:=Tryz.isAgg43
 z28:=Tryz.sizeOf43
 v28:=Tryz.zeroValue43
 t46:=Tryz.underlying246
 a46:=Tryz.isAgg246
 z46:=Tryz.sizeOf246
 v46:=Tryz.zeroValue246
 t51:=Tryz.underlying140
 a51:=Tryz.isAgg140
 z51:=Tryz.sizeOf140
 v51:=Tryz.zeroValue140
 t53:=Tryz.underlying302
 a53:=Tryz.isAgg302
 z53:=Tryz.sizeOf302
 v53:=Tryz.zeroValue302
 t131:=Tryz.underlying96
 a131:=Tryz.isAgg96
 z131:=Tryz.sizeOf96
 v131:=Tryz.zeroValue96
 t182:=Tryz.underlying294
 a182:=Tryz.isAgg294
 z182:=Tryz.sizeOf294
 v182:=Tryz.zeroValue294
 t183:=Tryz.underlying295
 a183:=Tryz.isAgg295
 z183:=Tryz.sizeOf295
 v183:=Tryz.zeroValue295
 t218:=Tryz.underlying338
 a218:=Tryz.isAgg338
 z218:=Tryz.sizeOf338
 v218:=Tryz.zeroValue338
 t222:=Tryz.underlying342
 a222:=Tryz.isAgg342
 z222:=Tryz.sizeOf342
 v222:=Tryz.zeroValue342
 t228:=Tryz.underlying365
 a228:=Tryz.isAgg365
 z228:=Tryz.sizeOf365
 v228:=Tryz.zeroValue365
 t229:=Tryz.underlying366
 a229:=Tryz.isAgg366
 z229:=Tryz.sizeOf366
 v229:=Tryz.zeroValue366 }
end Go.Proofs
namespace Go.Proofs
open Go Go.Ab
theorem BW (G:Hn):E7 G:=λl g sz nl hz hl =>
 DCall.sort (P:=Tryz.prog) (G:=G) (f:=148) (λblk cap zs w hH hb hs=>Any.slices_Sort_int Tryz.laysSort blk 0 cap zs w hH hb hs) (λa cap w=>Any.slices_Sort_int_none Tryz.laysSort a cap w) l g sz nl hz hl
end Go.Proofs
