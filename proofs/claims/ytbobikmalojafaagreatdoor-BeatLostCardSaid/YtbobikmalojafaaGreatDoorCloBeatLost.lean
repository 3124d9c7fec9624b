/- Steps towards the statements of this seat; the conditions stand in each theorem. -/
import Derived.ProofKit
import Derived.ChangeSame
import Derived.JoinedOf
import Derived.RowKit
import Derived.Test.YtbobikmalojafaaGreatDoorRows
namespace Go.Proofs.YtbobikmalojafaaGreatDoor
open Go.ChangeShapes Go.WideShapes Go.ChangeAt Go.RowKit
set_option maxRecDepth 100000
theorem ja{a b:Bool}(h:a=true)(k:b=true):(a&&b)=true:=by rw[h,k];rfl
theorem j1:(laidOutB Tryz.prog)=true:=by kernel_rfl
theorem j2:(mapsRowed Tryz.prog)=true:=by kernel_rfl
theorem j9:(Rows.beatLostRow.inPlace == Tryz.prog.inPlace 8)=true:=by kernel_rfl
theorem j10:(Rows.beatLostRow.unfollowed == Tryz.prog.unfollowed 8)=true:=by kernel_rfl
theorem j11:(Rows.beatLostRow.recurses == Tryz.prog.recurses 8)=true:=by kernel_rfl
theorem j12:(Rows.beatLostRow.named == Tryz.prog.varsNamed 8)=true:=by kernel_rfl
theorem j16:(Rows.beatLostRow.loops == (Tryz.f8.params.toList++Rows.beatLostSpec.plain.varTypes Tryz.prog).any (Tryz.prog.loopsFrom ·))=true:=by kernel_rfl
theorem j22:(Rows.beatLostRow.plainKeys == Tryz.prog.plainKeys)=true:=by kernel_rfl
theorem j24:(Tryz.prog.stopsHeard)=true:=by kernel_rfl
theorem j25:(Tryz.prog.mayEnter)=true:=by kernel_rfl
theorem j26:(Rows.beatLostRow.lifted == Tryz.prog.liftsFinal)=true:=by kernel_rfl
theorem j27:(Tryz.prog.make == some Rows.beatLostRow.make)=true:=by kernel_rfl
theorem beatLost_closed:joinedFacts Tryz.prog 8 Tryz.f8 Rows.beatLostSpec Rows.beatLostRow=true :=
 (ja (ja (ja (ja (ja (ja (ja (ja (ja (ja (ja (ja (ja (ja (ja (ja (ja (ja (ja (ja (ja (ja (ja (ja (ja (ja (ja (ja (ja (ja (ja (by kernel_rfl) j1) j2) (by kernel_rfl)) (by kernel_rfl)) (by kernel_rfl)) (by kernel_rfl)) (by kernel_rfl)) (by kernel_rfl)) j9) j10) j11) j12) (by kernel_rfl)) (by kernel_rfl)) (by kernel_rfl)) j16) (by kernel_rfl)) (by kernel_rfl)) (by kernel_rfl)) (by kernel_rfl)) (by kernel_rfl)) j22) (by kernel_rfl)) j24) j25) j26) j27) (by kernel_rfl)) (by kernel_rfl)) (by kernel_rfl)) (by kernel_rfl))
end Go.Proofs.YtbobikmalojafaaGreatDoor
