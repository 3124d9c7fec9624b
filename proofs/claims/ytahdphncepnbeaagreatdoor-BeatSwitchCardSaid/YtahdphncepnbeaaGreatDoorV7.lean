/- Steps towards the statements of this seat; the conditions stand in each theorem. -/
import Derived.Shelf.SlLaysE
import Derived.Shelf.SlicesE.Kit
import Derived.Shelf.RegionOpenPlain
import Derived.WalkKit
import Derived.Deep.LoopGhost
import Derived.Deep.RegionLaw
import Derived.Deep.Upon
import Derived.Lib.Walk
import Derived.Sort.WalkB12
import Derived.Lib.SliceRun
import Derived.Lib.SlicesDelete
import Derived.Test.YtahdphncepnbeaaGreatDoorXtI
import Derived.Test.YtahdphncepnbeaaGreatDoorV2
set_option linter.unusedSimpArgs false
set_option linter.unusedVariables false
namespace Go.Xt
open Go.RowKit Go.Sort Go.Proofs Go.Shelf Go.Lib
structure DelLays (P:Program) (ρ:Ren) (es:Nat) (zs:Array Value):Prop where
 mixed:P.follows .mixedOrders=true
 f45:Bears P (ρ.f 45) (SlBodyN.n45 ρ)
 t0:P.underlying (ρ.t 0)=some (TypeDesc.tuple #[])
 a0: ∀w,(isAgg (ρ.t 0)).run P w=.ok false w
 z0: ∀w,(Go.sizeOf (ρ.t 0)).run P w=.ok 1 w
 v0: ∀w,(zeroValue (ρ.t 0)).run P w=.ok (Value.tuple #[]) w
 t3:P.underlying (ρ.t 3)=some (TypeDesc.int IntKind.i64)
 a3: ∀w,(isAgg (ρ.t 3)).run P w=.ok false w
 z3: ∀w,(Go.sizeOf (ρ.t 3)).run P w=.ok 1 w
 v3: ∀w,(zeroValue (ρ.t 3)).run P w=.ok (Value.int IntKind.i64 0) w
 t4:P.underlying (ρ.t 4)=some (TypeDesc.bool)
 a4: ∀w,(isAgg (ρ.t 4)).run P w=.ok false w
 z4: ∀w,(Go.sizeOf (ρ.t 4)).run P w=.ok 1 w
 v4: ∀w,(zeroValue (ρ.t 4)).run P w=.ok (Value.bool false) w
 t22:P.underlying (ρ.t 22)=some (TypeDesc.slice (ρ.t 23))
 a22: ∀w,(isAgg (ρ.t 22)).run P w=.ok false w
 z22: ∀w,(Go.sizeOf (ρ.t 22)).run P w=.ok 1 w
 v22: ∀w,(zeroValue (ρ.t 22)).run P w=.ok (Value.slice none 0 0) w
 a23: ∀w,(isAgg (ρ.t 23)).run P w=.ok true w
 z23: ∀w,(Go.sizeOf (ρ.t 23)).run P w=.ok es w
 v23: ∀w,(zeroValue (ρ.t 23)).run P w=.ok (Value.agg zs) w
end Go.Xt
