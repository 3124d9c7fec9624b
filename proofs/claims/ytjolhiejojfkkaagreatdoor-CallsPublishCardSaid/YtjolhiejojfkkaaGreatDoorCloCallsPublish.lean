/- Steps towards the statements of this seat; the conditions stand in each theorem. -/
import Derived.ProofKit
import Derived.ChangeSame
import Derived.JoinedOf
import Derived.RowKit
import Derived.SevenTiedAt
import Derived.Test.YtjolhiejojfkkaaGreatDoorRows
namespace Go.Proofs.YtjolhiejojfkkaaGreatDoor
open Go.ChangeShapes Go.WideShapes Go.ChangeAt Go.RowKit
set_option maxRecDepth 100000
theorem ja{a b:Bool}(h:a=true)(k:b=true):(a&&b)=true:=by rw[h,k];rfl
theorem j1:(laidOutB Tryz.prog)=true:=by kernel_rfl
theorem j2:(mapsRowed Tryz.prog)=true:=by kernel_rfl
theorem j9:(Rows.callsPublishRow.inPlace == Tryz.prog.inPlace 6)=true:=by kernel_rfl
theorem j10:(Rows.callsPublishRow.unfollowed == Tryz.prog.unfollowed 6)=true:=by kernel_rfl
theorem j11:(Rows.callsPublishRow.recurses == Tryz.prog.recurses 6)=true:=by kernel_rfl
theorem j12:(Rows.callsPublishRow.named == Tryz.prog.varsNamed 6)=true:=by kernel_rfl
theorem j16:(Rows.callsPublishRow.loops == (Tryz.f6.params.toList++Rows.callsPublishSpec.plain.varTypes Tryz.prog).any (Tryz.prog.loopsFrom ·))=true:=by kernel_rfl
theorem j22:(Rows.callsPublishRow.plainKeys == Tryz.prog.plainKeys)=true:=by kernel_rfl
theorem j24:(Tryz.prog.stopsHeard)=true:=by kernel_rfl
theorem j25:(Tryz.prog.mayEnter)=true:=by kernel_rfl
theorem j26:(Rows.callsPublishRow.lifted == Tryz.prog.liftsFinal)=true:=by kernel_rfl
theorem j27:(Tryz.prog.make == some Rows.callsPublishRow.make)=true:=by kernel_rfl
theorem callsPublish_closed:joinedFacts Tryz.prog 6 Tryz.f6 Rows.callsPublishSpec Rows.callsPublishRow=true :=
 (ja (ja (ja (ja (ja (ja (ja (ja (ja (ja (ja (ja (ja (ja (ja (ja (ja (ja (ja (ja (ja (ja (ja (ja (ja (ja (ja (ja (ja (ja (ja (by kernel_rfl) j1) j2) (by kernel_rfl)) (by kernel_rfl)) (by kernel_rfl)) (by kernel_rfl)) (by kernel_rfl)) (by kernel_rfl)) j9) j10) j11) j12) (by kernel_rfl)) (by kernel_rfl)) (by kernel_rfl)) j16) (by kernel_rfl)) (by kernel_rfl)) (by kernel_rfl)) (by kernel_rfl)) (by kernel_rfl)) j22) (by kernel_rfl)) j24) j25) j26) j27) (by kernel_rfl)) (by kernel_rfl)) (by kernel_rfl)) (by kernel_rfl))
theorem callsPublish_wf:OpenClaim.wfByText (OpenSpec.ofChange Rows.callsPublishSpec) Rows.callsPublishRow=true:=by kernel_rfl
theorem callsPublish_main:Tryz.prog.mainIs=some (true, "bf4c40c1f00effd6a30992f5b113f7095f5c478138ee8815c34ca87f5007e8aa".toList):=by kernel_rfl
theorem callsPublish_fn:Tryz.prog.funcNamed "bellwether/bellwetherlaw24.CallsPublish" =some 6:=by kernel_rfl
theorem callsPublish_looks:true=Tryz.prog.looks []:=by kernel_rfl
theorem callsPublish_goes:false=OpenClaim.goesBy Rows.callsPublishRow Tryz.prog:=by kernel_rfl
theorem callsPublish_stands:(Tryz.f6.params.toList.all fun t=> !Tryz.prog.wantsStandIn t)=true:=by kernel_rfl
end Go.Proofs.YtjolhiejojfkkaaGreatDoor
