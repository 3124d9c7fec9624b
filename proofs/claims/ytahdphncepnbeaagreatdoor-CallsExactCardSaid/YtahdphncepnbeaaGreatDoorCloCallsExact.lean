/- Steps towards the statements of this seat; the conditions stand in each theorem. -/
import Derived.ProofKit
import Derived.ChangeSame
import Derived.JoinedOf
import Derived.RowKit
import Derived.SevenTiedAt
import Derived.Test.YtahdphncepnbeaaGreatDoorRows
namespace Go.Proofs.YtahdphncepnbeaaGreatDoor
open Go.ChangeShapes Go.WideShapes Go.ChangeAt Go.RowKit
set_option maxRecDepth 100000
theorem ja{a b:Bool}(h:a=true)(k:b=true):(a&&b)=true:=by rw[h,k];rfl
theorem j1:(laidOutB Tryz.prog)=true:=by kernel_rfl
theorem j2:(mapsRowed Tryz.prog)=true:=by kernel_rfl
theorem j9:(Rows.callsExactRow.inPlace == Tryz.prog.inPlace 6)=true:=by kernel_rfl
theorem j10:(Rows.callsExactRow.unfollowed == Tryz.prog.unfollowed 6)=true:=by kernel_rfl
theorem j11:(Rows.callsExactRow.recurses == Tryz.prog.recurses 6)=true:=by kernel_rfl
theorem j12:(Rows.callsExactRow.named == Tryz.prog.varsNamed 6)=true:=by kernel_rfl
theorem j16:(Rows.callsExactRow.loops == (Tryz.f6.params.toList++Rows.callsExactSpec.plain.varTypes Tryz.prog).any (Tryz.prog.loopsFrom ·))=true:=by kernel_rfl
theorem j22:(Rows.callsExactRow.plainKeys == Tryz.prog.plainKeys)=true:=by kernel_rfl
theorem j24:(Tryz.prog.stopsHeard)=true:=by kernel_rfl
theorem j25:(Tryz.prog.mayEnter)=true:=by kernel_rfl
theorem j26:(Rows.callsExactRow.lifted == Tryz.prog.liftsFinal)=true:=by kernel_rfl
theorem j27:(Tryz.prog.make == some Rows.callsExactRow.make)=true:=by kernel_rfl
theorem callsExact_closed:joinedFacts Tryz.prog 6 Tryz.f6 Rows.callsExactSpec Rows.callsExactRow=true :=
 (ja (ja (ja (ja (ja (ja (ja (ja (ja (ja (ja (ja (ja (ja (ja (ja (ja (ja (ja (ja (ja (ja (ja (ja (ja (ja (ja (ja (ja (ja (ja (by kernel_rfl) j1) j2) (by kernel_rfl)) (by kernel_rfl)) (by kernel_rfl)) (by kernel_rfl)) (by kernel_rfl)) (by kernel_rfl)) j9) j10) j11) j12) (by kernel_rfl)) (by kernel_rfl)) (by kernel_rfl)) j16) (by kernel_rfl)) (by kernel_rfl)) (by kernel_rfl)) (by kernel_rfl)) (by kernel_rfl)) j22) (by kernel_rfl)) j24) j25) j26) j27) (by kernel_rfl)) (by kernel_rfl)) (by kernel_rfl)) (by kernel_rfl))
theorem callsExact_wf:OpenClaim.wfByText (OpenSpec.ofChange Rows.callsExactSpec) Rows.callsExactRow=true:=by kernel_rfl
theorem callsExact_main:Tryz.prog.mainIs=some (true, "bc714a5adbe51648cc8fd42f9d2cd22571bb1f9baee83c42f7a599bf3993d275".toList):=by kernel_rfl
theorem callsExact_fn:Tryz.prog.funcNamed "bellwether/bellwetherlaw24.CallsExact" =some 6:=by kernel_rfl
theorem callsExact_looks:true=Tryz.prog.looks []:=by kernel_rfl
theorem callsExact_goes:false=OpenClaim.goesBy Rows.callsExactRow Tryz.prog:=by kernel_rfl
theorem callsExact_stands:(Tryz.f6.params.toList.all fun t=> !Tryz.prog.wantsStandIn t)=true:=by kernel_rfl
end Go.Proofs.YtahdphncepnbeaaGreatDoor
