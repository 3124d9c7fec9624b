/- Steps towards the statements of this seat; the conditions stand in each theorem. -/
import Derived.ProofKit
import Derived.ChangeSame
import Derived.JoinedOf
import Derived.RowKit
import Derived.SevenTiedAt
import Derived.Test.YtahdphncepnbeaaGreatDoorRows
namespace Go.Proofs.YtahdphncepnbeaaGreatDoor
open Go.ChangeShapes Go.WideShapes Go.ChangeAt Go.RowKit
set_option maxRecDepth 100000
theorem ja{a b:Bool}(h:a=true)(k:b=true):(a&&b)=true:=by rw[h,k];rfl
theorem j1:(laidOutB Tryz.prog)=true:=by kernel_rfl
theorem j2:(mapsRowed Tryz.prog)=true:=by kernel_rfl
theorem j9:(Rows.beatSwitchRow.inPlace == Tryz.prog.inPlace 4)=true:=by kernel_rfl
theorem j10:(Rows.beatSwitchRow.unfollowed == Tryz.prog.unfollowed 4)=true:=by kernel_rfl
theorem j11:(Rows.beatSwitchRow.recurses == Tryz.prog.recurses 4)=true:=by kernel_rfl
theorem j12:(Rows.beatSwitchRow.named == Tryz.prog.varsNamed 4)=true:=by kernel_rfl
theorem j16:(Rows.beatSwitchRow.loops == (Tryz.f4.params.toList++Rows.beatSwitchSpec.plain.varTypes Tryz.prog).any (Tryz.prog.loopsFrom ·))=true:=by kernel_rfl
theorem j22:(Rows.beatSwitchRow.plainKeys == Tryz.prog.plainKeys)=true:=by kernel_rfl
theorem j24:(Tryz.prog.stopsHeard)=true:=by kernel_rfl
theorem j25:(Tryz.prog.mayEnter)=true:=by kernel_rfl
theorem j26:(Rows.beatSwitchRow.lifted == Tryz.prog.liftsFinal)=true:=by kernel_rfl
theorem j27:(Tryz.prog.make == some Rows.beatSwitchRow.make)=true:=by kernel_rfl
theorem beatSwitch_closed:joinedFacts Tryz.prog 4 Tryz.f4 Rows.beatSwitchSpec Rows.beatSwitchRow=true :=
 (ja (ja (ja (ja (ja (ja (ja (ja (ja (ja (ja (ja (ja (ja (ja (ja (ja (ja (ja (ja (ja (ja (ja (ja (ja (ja (ja (ja (ja (ja (ja (by kernel_rfl) j1) j2) (by kernel_rfl)) (by kernel_rfl)) (by kernel_rfl)) (by kernel_rfl)) (by kernel_rfl)) (by kernel_rfl)) j9) j10) j11) j12) (by kernel_rfl)) (by kernel_rfl)) (by kernel_rfl)) j16) (by kernel_rfl)) (by kernel_rfl)) (by kernel_rfl)) (by kernel_rfl)) (by kernel_rfl)) j22) (by kernel_rfl)) j24) j25) j26) j27) (by kernel_rfl)) (by kernel_rfl)) (by kernel_rfl)) (by kernel_rfl))
theorem beatSwitch_wf:OpenClaim.wfByText (OpenSpec.ofChange Rows.beatSwitchSpec) Rows.beatSwitchRow=true:=by kernel_rfl
theorem beatSwitch_main:Tryz.prog.mainIs=some (true, "bc714a5adbe51648cc8fd42f9d2cd22571bb1f9baee83c42f7a599bf3993d275".toList):=by kernel_rfl
theorem beatSwitch_fn:Tryz.prog.funcNamed "bellwether/bellwetherlaw22.BeatSwitch" =some 4:=by kernel_rfl
theorem beatSwitch_looks:true=Tryz.prog.looks []:=by kernel_rfl
theorem beatSwitch_goes:false=OpenClaim.goesBy Rows.beatSwitchRow Tryz.prog:=by kernel_rfl
theorem beatSwitch_stands:(Tryz.f4.params.toList.all fun t=> !Tryz.prog.wantsStandIn t)=true:=by kernel_rfl
end Go.Proofs.YtahdphncepnbeaaGreatDoor
