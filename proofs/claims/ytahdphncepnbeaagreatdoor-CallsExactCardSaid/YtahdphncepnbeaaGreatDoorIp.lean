/- Steps towards the statements of this seat; the conditions stand in each theorem. -/
import Derived.Test.YtahdphncepnbeaaGreatDoorRows
import Derived.Test.YtahdphncepnbeaaGreatDoorV7
import Derived.Test.YtahdphncepnbeaaGreatDoorV4
import Derived.Test.YtahdphncepnbeaaGreatDoorV8
import Derived.Test.YtahdphncepnbeaaGreatDoorRho
set_option maxRecDepth 100000
set_option linter.unusedVariables false
set_option linter.unusedSimpArgs false
namespace Go.Xt
open Go.Proofs
def Ix:Go.Shelf.Ren:=⟨fun | 189=>248 | 125=>265 | 257=>264 | 128=>283 | 129=>284 | 294=>274 | 295=>275 | 296=>276 | 297=>277 | 298=>278 | 299=>279 | 216=>280 | 300=>281 | 301=>282 | 328=>285 | 329=>286 | 330=>287 | 331=>288 | 332=>289 | 215=>290 | 343=>291 | n=>n,fun | 28=>26 | 3=>3 | 46=>22 | 0=>0 | 51=>306 | 53=>308 | 4=>4 | 183=>299 | 182=>298 | 131=>303 | 5=>5 | 9=>9 | 218=>309 | 222=>313 | 228=>315 | 229=>316 | n=>n,fun | n=>n⟩
theorem QL:Go.Proofs.Lays.n189 Tryz.prog Ix where
 mixed:=by kernel_rfl
 f125:=Tryz.func265.trans (congrArg some (by kernel_rfl))
 f128:=Tryz.func283.trans (congrArg some (by kernel_rfl))
 f129:=Tryz.func284.trans (congrArg some (by kernel_rfl))
 f189:=Tryz.func248.trans (congrArg some (by kernel_rfl))
 f215:=Tryz.func290.trans (congrArg some (by kernel_rfl))
 f216:=Tryz.func280.trans (congrArg some (by kernel_rfl))
 f257:=Tryz.func264.trans (congrArg some (by kernel_rfl))
 f294:=Tryz.func274.trans (congrArg some (by kernel_rfl))
 f295:=Tryz.func275.trans (congrArg some (by kernel_rfl))
 f296:=Tryz.func276.trans (congrArg some (by kernel_rfl))
 f297:=Tryz.func277.trans (congrArg some (by kernel_rfl))
 f298:=Tryz.func278.trans (congrArg some (by kernel_rfl))
 f299:=Tryz.func279.trans (congrArg some (by kernel_rfl))
 f300:=Tryz.func281.trans (congrArg some (by kernel_rfl))
 f301:=Tryz.func282.trans (congrArg some (by kernel_rfl))
 f328:=Tryz.func285.trans (congrArg some (by kernel_rfl))
 f329:=Tryz.func286.trans (congrArg some (by kernel_rfl))
 f330:=Tryz.func287.trans (congrArg some (by kernel_rfl))
 f331:=Tryz.func288.trans (congrArg some (by kernel_rfl))
 f332:=Tryz.func289.trans (congrArg some (by kernel_rfl))
 f343:=Tryz.func291.trans (congrArg some (by kernel_rfl))
 t0:=Tryz.underlying0
 a0:=Tryz.isAgg0
 z0:=Tryz.sizeOf0
 v0:=Tryz.zeroValue0
 t3:=Tryz.underlying3
 a3:=Tryz.isAgg3
 z3:=Tryz.sizeOf3
 v3:=Tryz.zeroValue3
 t4:=Tryz.underlying4
 a4:=Tryz.isAgg4
 z4:=Tryz.sizeOf4
 v4:=Tryz.zeroValue4
 t5:=Tryz.underlying5
 a5:=Tryz.isAgg5
 z5:=Tryz.sizeOf5
 v5:=Tryz.zeroValue5
 t9:=Tryz.underlying9
 a9:=Tryz.isAgg9
 z9:=Tryz.sizeOf9
 v9:=Tryz.zeroValue9
 t28:=Tryz.underlying26
 a28:=Tryz.isAgg26
 z28:=Tryz.sizeOf26
 v28:=Tryz.zeroValue26
 t46:=Tryz.underlying22
 a46:=Tryz.isAgg22
 z46:=Tryz.sizeOf22
 v46:=Tryz.zeroValue22
 t51:=Tryz.underlying306
 a51:=Tryz.isAgg306
 z51:=Tryz.sizeOf306
 v51:=Tryz.zeroValue306
 t53:=Tryz.underlying308
 a53:=Tryz.isAgg308
 z53:=Tryz.sizeOf308
 v53:=Tryz.zeroValue308
 t131:=Tryz.underlying303
 a131:=Tryz.isAgg303
 z131:=Tryz.sizeOf303
 v131:=Tryz.zeroValue303
 t182:=Tryz.underlying298
 a182:=Tryz.isAgg298
 z182:=Tryz.sizeOf298
 v182:=Tryz.zeroValue298
 t183:=Tryz.underlying299
 a183:=Tryz.isAgg299
 z183:=Tryz.sizeOf299
 v183:=Tryz.zeroValue299
 t218:=Tryz.underlying309
 a218:=Tryz.isAgg309
 z218:=Tryz.sizeOf309
 v218:=Tryz.zeroValue309
 t222:=Tryz.underlying313
 a222:=Tryz.isAgg313
 z222:=Tryz.sizeOf313
 v222:=Tryz.zeroValue313
 t228:=Tryz.underlying315
 a228:=Tryz.isAgg315
 z228:=Tryz.sizeOf315
 v228:=Tryz.zeroValue315
 t229:=Tryz.underlying316
 a229:=Tryz.isAgg316
 z229:=Tryz.sizeOf316
 v229:=Tryz.zeroValue316
def Iy:Go.Shelf.Ren:=⟨fun | 43=>249 | n=>n,fun | 22=>26 | 23=>3 | 3=>3 | 4=>4 | 0=>0 | n=>n,fun | n=>n⟩
theorem QM:Go.Proofs.SlLaysE.n43 Tryz.prog Iy where
 mixed:=by kernel_rfl
 f43:=⟨"slices.Compact[[]int,int]", by decide,Tryz.func249.trans (congrArg some (by kernel_rfl))⟩
 t0:=Tryz.underlying0
 a0:=Tryz.isAgg0
 z0:=Tryz.sizeOf0
 v0:=Tryz.zeroValue0
 t3:=Tryz.underlying3
 a3:=Tryz.isAgg3
 z3:=Tryz.sizeOf3
 v3:=Tryz.zeroValue3
 t4:=Tryz.underlying4
 a4:=Tryz.isAgg4
 z4:=Tryz.sizeOf4
 v4:=Tryz.zeroValue4
 t22:=Tryz.underlying26
 a22:=Tryz.isAgg26
 z22:=Tryz.sizeOf26
 v22:=Tryz.zeroValue26
 a23:=Tryz.isAgg3
 z23:=Tryz.sizeOf3
def gY:Go.Shelf.Ren:=⟨fun | 45=>252 | n=>n,fun | 22=>30 | 23=>102 | 3=>3 | 4=>4 | 0=>0 | n=>n,fun | n=>n⟩
theorem jh:DelLays Tryz.prog gY 3 #[(.int .i64 0),(.int .i64 0),(.int .i64 0)] where
 mixed:=by kernel_rfl
 f45:=⟨"slices.Delete[[]bellwether/api.Call,bellwether/api.Call]", by decide,Tryz.func252.trans (congrArg some (by kernel_rfl))⟩
 t0:=Tryz.underlying0
 a0:=Tryz.isAgg0
 z0:=Tryz.sizeOf0
 v0:=Tryz.zeroValue0
 t3:=Tryz.underlying3
 a3:=Tryz.isAgg3
 z3:=Tryz.sizeOf3
 v3:=Tryz.zeroValue3
 t4:=Tryz.underlying4
 a4:=Tryz.isAgg4
 z4:=Tryz.sizeOf4
 v4:=Tryz.zeroValue4
 t22:=Tryz.underlying30
 a22:=Tryz.isAgg30
 z22:=Tryz.sizeOf30
 v22:=Tryz.zeroValue30
 a23:=Tryz.isAgg102
 z23:=Tryz.sizeOf102
 v23:=Tryz.zeroValue102
def mF:Go.Shelf.Ren:=⟨fun | 4=>237 | n=>n,fun | 22=>26 | 25=>3 | 3=>3 | 4=>4 | 9=>9 | 20=>20 | 0=>0 | n=>n,fun | n=>n⟩
theorem pg:Go.Proofs.Lays8.n4 Tryz.prog mF where
 mixed:=by kernel_rfl
 f4:=⟨"slices.Grow[[]int,int]", by decide,Tryz.func237.trans (congrArg some (by kernel_rfl))⟩
 t0:=Tryz.underlying0
 a0:=Tryz.isAgg0
 z0:=Tryz.sizeOf0
 v0:=Tryz.zeroValue0
 t3:=Tryz.underlying3
 a3:=Tryz.isAgg3
 z3:=Tryz.sizeOf3
 v3:=Tryz.zeroValue3
 t4:=Tryz.underlying4
 a4:=Tryz.isAgg4
 z4:=Tryz.sizeOf4
 v4:=Tryz.zeroValue4
 t9:=Tryz.underlying9
 a9:=Tryz.isAgg9
 z9:=Tryz.sizeOf9
 v9:=Tryz.zeroValue9
 t20:=Tryz.underlying20
 a20:=Tryz.isAgg20
 z20:=Tryz.sizeOf20
 v20:=Tryz.zeroValue20
 t22:=Tryz.underlying26
 a22:=Tryz.isAgg26
 z22:=Tryz.sizeOf26
 v22:=Tryz.zeroValue26
theorem ri:bZ Tryz.prog ⟨248,[],some false,false⟩ (ρ 248):=by
 show zJ _ _ _ gW
 exact TH QL
theorem ow:bZ Tryz.prog ⟨249,[],some true,false⟩ (ρ 249):=by
 show zJ _ _ _ et
 exact Pw QM Tryz.zeroValue3
theorem jR:bZ Tryz.prog ⟨252,[],some true,false⟩ (ρ 252):=by
 show zJ _ _ _ ce
 exact QE (α:=Call) jh rfl (by decide) (Pp (by decide) (by decide)) _ rfl rfl
theorem rj:bZ Tryz.prog ⟨237,[0],some true,false⟩ (ρ 237):=by
 show G0 _ _ gX
 exact Sa (α:=Int) pg _ _ rfl rfl (by decide) (by decide) rfl
end Go.Xt
