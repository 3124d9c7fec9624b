/- Steps towards the statements of this seat; the conditions stand in each theorem. -/
import Derived.ProofKit
import Derived.ChangeSame
import Derived.JoinedOf
import Derived.RowKit
import Derived.SevenTiedAt
import Derived.Test.YtjolhiejojfkkaaGreatDoorRows
namespace Go.Proofs.YtjolhiejojfkkaaGreatDoor
open Go.ChangeShapes Go.WideShapes Go.ChangeAt Go.RowKit
set_option maxRecDepth 100000
theorem ja{a b:Bool}(h:a=true)(k:b=true):(a&&b)=true:=by rw[h,k];rfl
theorem j1:(laidOutB Tryz.prog)=true:=by kernel_rfl
theorem j2:(mapsRowed Tryz.prog)=true:=by kernel_rfl
theorem j9:(Rows.callsRightRow.inPlace == Tryz.prog.inPlace 10)=true:=by kernel_rfl
theorem j10:(Rows.callsRightRow.unfollowed == Tryz.prog.unfollowed 10)=true:=by kernel_rfl
theorem j11:(Rows.callsRightRow.recurses == Tryz.prog.recurses 10)=true:=by kernel_rfl
theorem j12:(Rows.callsRightRow.named == Tryz.prog.varsNamed 10)=true:=by kernel_rfl
theorem j16:(Rows.callsRightRow.loops == (Tryz.f10.params.toList++Rows.callsRightSpec.plain.varTypes Tryz.prog).any (Tryz.prog.loopsFrom ·))=true:=by kernel_rfl
theorem j22:(Rows.callsRightRow.plainKeys == Tryz.prog.plainKeys)=true:=by kernel_rfl
theorem j24:(Tryz.prog.stopsHeard)=true:=by kernel_rfl
theorem j25:(Tryz.prog.mayEnter)=true:=by kernel_rfl
theorem j26:(Rows.callsRightRow.lifted == Tryz.prog.liftsFinal)=true:=by kernel_rfl
theorem j27:(Tryz.prog.make == some Rows.callsRightRow.make)=true:=by kernel_rfl
theorem callsRight_closed:joinedFacts Tryz.prog 10 Tryz.f10 Rows.callsRightSpec Rows.callsRightRow=true :=
 (ja (ja (ja (ja (ja (ja (ja (ja (ja (ja (ja (ja (ja (ja (ja (ja (ja (ja (ja (ja (ja (ja (ja (ja (ja (ja (ja (ja (ja (ja (ja (by kernel_rfl) j1) j2) (by kernel_rfl)) (by kernel_rfl)) (by kernel_rfl)) (by kernel_rfl)) (by kernel_rfl)) (by kernel_rfl)) j9) j10) j11) j12) (by kernel_rfl)) (by kernel_rfl)) (by kernel_rfl)) j16) (by kernel_rfl)) (by kernel_rfl)) (by kernel_rfl)) (by kernel_rfl)) (by kernel_rfl)) j22) (by kernel_rfl)) j24) j25) j26) j27) (by kernel_rfl)) (by kernel_rfl)) (by kernel_rfl)) (by kernel_rfl))
theorem callsRight_wf:OpenClaim.wfByText (OpenSpec.ofChange Rows.callsRightSpec) Rows.callsRightRow=true:=by kernel_rfl
theorem callsRight_main:Tryz.prog.mainIs=some (true, "bf4c40c1f00effd6a30992f5b113f7095f5c478138ee8815c34ca87f5007e8aa".toList):=by kernel_rfl
theorem callsRight_fn:Tryz.prog.funcNamed "bellwether/bellwetherlaw24.CallsRight" =some 10:=by kernel_rfl
theorem callsRight_looks:true=Tryz.prog.looks []:=by kernel_rfl
theorem callsRight_goes:false=OpenClaim.goesBy Rows.callsRightRow Tryz.prog:=by kernel_rfl
theorem callsRight_stands:(Tryz.f10.params.toList.all fun t=> !Tryz.prog.wantsStandIn t)=true:=by kernel_rfl
end Go.Proofs.YtjolhiejojfkkaaGreatDoor
