/- Steps towards the statements of this seat; the conditions stand in each theorem. -/
import Derived.Test.YtjolhiejojfkkaaGreatDoorRows
import Derived.Test.YtjolhiejojfkkaaGreatDoorV7
import Derived.Test.YtjolhiejojfkkaaGreatDoorV4
import Derived.Test.YtjolhiejojfkkaaGreatDoorV8
import Derived.Test.YtjolhiejojfkkaaGreatDoorRho
set_option maxRecDepth 100000
set_option linter.unusedVariables false
set_option linter.unusedSimpArgs false
namespace Go.Xt
open Go.Proofs
def IY:Go.Shelf.Ren:=⟨fun | 189=>258 | 125=>273 | 257=>272 | 128=>287 | 129=>288 | 294=>278 | 295=>279 | 296=>280 | 297=>281 | 298=>282 | 299=>283 | 216=>284 | 300=>285 | 301=>286 | 328=>289 | 329=>290 | 330=>291 | 331=>292 | 332=>293 | 215=>294 | 343=>295 | n=>n,fun | 28=>26 | 3=>3 | 46=>22 | 0=>0 | 51=>308 | 53=>310 | 4=>4 | 183=>301 | 182=>300 | 131=>305 | 5=>5 | 9=>9 | 218=>311 | 222=>315 | 228=>317 | 229=>318 | n=>n,fun | n=>n⟩
theorem Ri:Go.Proofs.Lays.n189 Tryz.prog IY where
 mixed:=by kernel_rfl
 f125:=Tryz.func273.trans (congrArg some (by kernel_rfl))
 f128:=Tryz.func287.trans (congrArg some (by kernel_rfl))
 f129:=Tryz.func288.trans (congrArg some (by kernel_rfl))
 f189:=Tryz.func258.trans (congrArg some (by kernel_rfl))
 f215:=Tryz.func294.trans (congrArg some (by kernel_rfl))
 f216:=Tryz.func284.trans (congrArg some (by kernel_rfl))
 f257:=Tryz.func272.trans (congrArg some (by kernel_rfl))
 f294:=Tryz.func278.trans (congrArg some (by kernel_rfl))
 f295:=Tryz.func279.trans (congrArg some (by kernel_rfl))
 f296:=Tryz.func280.trans (congrArg some (by kernel_rfl))
 f297:=Tryz.func281.trans (congrArg some (by kernel_rfl))
 f298:=Tryz.func282.trans (congrArg some (by kernel_rfl))
 f299:=Tryz.func283.trans (congrArg some (by kernel_rfl))
 f300:=Tryz.func285.trans (congrArg some (by kernel_rfl))
 f301:=Tryz.func286.trans (congrArg some (by kernel_rfl))
 f328:=Tryz.func289.trans (congrArg some (by kernel_rfl))
 f329:=Tryz.func290.trans (congrArg some (by kernel_rfl))
 f330:=Tryz.func291.trans (congrArg some (by kernel_rfl))
 f331:=Tryz.func292.trans (congrArg some (by kernel_rfl))
 f332:=Tryz.func293.trans (congrArg some (by kernel_rfl))
 f343:=Tryz.func295.trans (congrArg some (by kernel_rfl))
 t0:=Tryz.underlying0
 a0:=Tryz.isAgg0
 z0:=Tryz.sizeOf0
 v0:=Tryz.zeroValue0
 t3:=Tryz.underlying3
 a3:=Tryz.isAgg3
 z3:=Tryz.sizeOf3
 v3:=Tryz.zeroValue3
 t4:=Tryz.underlying4
 a4:=Tryz.isAgg4
 z4:=Tryz.sizeOf4
 v4:=Tryz.zeroValue4
 t5:=Tryz.underlying5
 a5:=Tryz.isAgg5
 z5:=Tryz.sizeOf5
 v5:=Tryz.zeroValue5
 t9:=Tryz.underlying9
 a9:=Tryz.isAgg9
 z9:=Tryz.sizeOf9
 v9:=Tryz.zeroValue9
 t28:=Tryz.underlying26
 a28:=Tryz.isAgg26
 z28:=Tryz.sizeOf26
 v28:=Tryz.zeroValue26
 t46:=Tryz.underlying22
 a46:=Tryz.isAgg22
 z46:=Tryz.sizeOf22
 v46:=Tryz.zeroValue22
 t51:=Tryz.underlying308
 a51:=Tryz.isAgg308
 z51:=Tryz.sizeOf308
 v51:=Tryz.zeroValue308
 t53:=Tryz.underlying310
 a53:=Tryz.isAgg310
 z53:=Tryz.sizeOf310
 v53:=Tryz.zeroValue310
 t131:=Tryz.underlying305
 a131:=Tryz.isAgg305
 z131:=Tryz.sizeOf305
 v131:=Tryz.zeroValue305
 t182:=Tryz.underlying300
 a182:=Tryz.isAgg300
 z182:=Tryz.sizeOf300
 v182:=Tryz.zeroValue300
 t183:=Tryz.underlying301
 a183:=Tryz.isAgg301
 z183:=Tryz.sizeOf301
 v183:=Tryz.zeroValue301
 t218:=Tryz.underlying311
 a218:=Tryz.isAgg311
 z218:=Tryz.sizeOf311
 v218:=Tryz.zeroValue311
 t222:=Tryz.underlying315
 a222:=Tryz.isAgg315
 z222:=Tryz.sizeOf315
 v222:=Tryz.zeroValue315
 t228:=Tryz.underlying317
 a228:=Tryz.isAgg317
 z228:=Tryz.sizeOf317
 v228:=Tryz.zeroValue317
 t229:=Tryz.underlying318
 a229:=Tryz.isAgg318
 z229:=Tryz.sizeOf318
 v229:=Tryz.zeroValue318
def IZ:Go.Shelf.Ren:=⟨fun | 43=>259 | n=>n,fun | 22=>26 | 23=>3 | 3=>3 | 4=>4 | 0=>0 | n=>n,fun | n=>n⟩
theorem Rj:Go.Proofs.SlLaysE.n43 Tryz.prog IZ where
 mixed:=by kernel_rfl
 f43:=⟨"slices.Compact[[]int,int]", by decide,Tryz.func259.trans (congrArg some (by kernel_rfl))⟩
 t0:=Tryz.underlying0
 a0:=Tryz.isAgg0
 z0:=Tryz.sizeOf0
 v0:=Tryz.zeroValue0
 t3:=Tryz.underlying3
 a3:=Tryz.isAgg3
 z3:=Tryz.sizeOf3
 v3:=Tryz.zeroValue3
 t4:=Tryz.underlying4
 a4:=Tryz.isAgg4
 z4:=Tryz.sizeOf4
 v4:=Tryz.zeroValue4
 t22:=Tryz.underlying26
 a22:=Tryz.isAgg26
 z22:=Tryz.sizeOf26
 v22:=Tryz.zeroValue26
 a23:=Tryz.isAgg3
 z23:=Tryz.sizeOf3
def iy:Go.Shelf.Ren:=⟨fun | 45=>262 | n=>n,fun | 22=>30 | 23=>104 | 3=>3 | 4=>4 | 0=>0 | n=>n,fun | n=>n⟩
theorem jG:DelLays Tryz.prog iy 3 #[(.int .i64 0),(.int .i64 0),(.int .i64 0)] where
 mixed:=by kernel_rfl
 f45:=⟨"slices.Delete[[]bellwether/api.Call,bellwether/api.Call]", by decide,Tryz.func262.trans (congrArg some (by kernel_rfl))⟩
 t0:=Tryz.underlying0
 a0:=Tryz.isAgg0
 z0:=Tryz.sizeOf0
 v0:=Tryz.zeroValue0
 t3:=Tryz.underlying3
 a3:=Tryz.isAgg3
 z3:=Tryz.sizeOf3
 v3:=Tryz.zeroValue3
 t4:=Tryz.underlying4
 a4:=Tryz.isAgg4
 z4:=Tryz.sizeOf4
 v4:=Tryz.zeroValue4
 t22:=Tryz.underlying30
 a22:=Tryz.isAgg30
 z22:=Tryz.sizeOf30
 v22:=Tryz.zeroValue30
 a23:=Tryz.isAgg104
 z23:=Tryz.sizeOf104
 v23:=Tryz.zeroValue104
def ni:Go.Shelf.Ren:=⟨fun | 4=>243 | n=>n,fun | 22=>26 | 25=>3 | 3=>3 | 4=>4 | 9=>9 | 20=>20 | 0=>0 | n=>n,fun | n=>n⟩
theorem pP:Go.Proofs.Lays8.n4 Tryz.prog ni where
 mixed:=by kernel_rfl
 f4:=⟨"slices.Grow[[]int,int]", by decide,Tryz.func243.trans (congrArg some (by kernel_rfl))⟩
 t0:=Tryz.underlying0
 a0:=Tryz.isAgg0
 z0:=Tryz.sizeOf0
 v0:=Tryz.zeroValue0
 t3:=Tryz.underlying3
 a3:=Tryz.isAgg3
 z3:=Tryz.sizeOf3
 v3:=Tryz.zeroValue3
 t4:=Tryz.underlying4
 a4:=Tryz.isAgg4
 z4:=Tryz.sizeOf4
 v4:=Tryz.zeroValue4
 t9:=Tryz.underlying9
 a9:=Tryz.isAgg9
 z9:=Tryz.sizeOf9
 v9:=Tryz.zeroValue9
 t20:=Tryz.underlying20
 a20:=Tryz.isAgg20
 z20:=Tryz.sizeOf20
 v20:=Tryz.zeroValue20
 t22:=Tryz.underlying26
 a22:=Tryz.isAgg26
 z22:=Tryz.sizeOf26
 v22:=Tryz.zeroValue26
theorem rQ:ck Tryz.prog ⟨258,none,some false,false⟩ (ρ 258):=by
 show Ay _ _ _ iw
 exact Ua Ri
theorem oZ:ck Tryz.prog ⟨259,none,some true,false⟩ (ρ 259):=by
 show Ay _ _ _ eJ
 exact PZ Rj Tryz.zeroValue3
theorem ku:ck Tryz.prog ⟨262,none,some true,false⟩ (ρ 262):=by
 show Ay _ _ _ cq
 exact Rc (α:=Call) jG rfl (by decide) (PR (by decide) (by decide)) _ rfl rfl
theorem rR:ck Tryz.prog ⟨243,some 0,some true,false⟩ (ρ 243):=by
 show Gr _ _ ix
 exact SE (α:=Int) pP _ _ rfl rfl (by decide) (by decide) rfl
end Go.Xt
