/- Steps towards the statements of this seat; the conditions stand in each theorem. -/
import Derived.ProofKit
import Derived.ChangeSame
import Derived.JoinedOf
import Derived.RowKit
import Derived.Test.YtbobikmalojafaaGreatDoorRows
namespace Go.Proofs.YtbobikmalojafaaGreatDoor
open Go.ChangeShapes Go.WideShapes Go.ChangeAt Go.RowKit
set_option maxRecDepth 100000
theorem ja{a b:Bool}(h:a=true)(k:b=true):(a&&b)=true:=by rw[h,k];rfl
theorem j1:(laidOutB Tryz.prog)=true:=by kernel_rfl
theorem j2:(mapsRowed Tryz.prog)=true:=by kernel_rfl
theorem j9:(Rows.beatQuietRow.inPlace == Tryz.prog.inPlace 7)=true:=by kernel_rfl
theorem j10:(Rows.beatQuietRow.unfollowed == Tryz.prog.unfollowed 7)=true:=by kernel_rfl
theorem j11:(Rows.beatQuietRow.recurses == Tryz.prog.recurses 7)=true:=by kernel_rfl
theorem j12:(Rows.beatQuietRow.named == Tryz.prog.varsNamed 7)=true:=by kernel_rfl
theorem j16:(Rows.beatQuietRow.loops == (Tryz.f7.params.toList++Rows.beatQuietSpec.plain.varTypes Tryz.prog).any (Tryz.prog.loopsFrom ·))=true:=by kernel_rfl
theorem j22:(Rows.beatQuietRow.plainKeys == Tryz.prog.plainKeys)=true:=by kernel_rfl
theorem j24:(Tryz.prog.stopsHeard)=true:=by kernel_rfl
theorem j25:(Tryz.prog.mayEnter)=true:=by kernel_rfl
theorem j26:(Rows.beatQuietRow.lifted == Tryz.prog.liftsFinal)=true:=by kernel_rfl
theorem j27:(Tryz.prog.make == some Rows.beatQuietRow.make)=true:=by kernel_rfl
theorem beatQuiet_closed:joinedFacts Tryz.prog 7 Tryz.f7 Rows.beatQuietSpec Rows.beatQuietRow=true :=
 (ja (ja (ja (ja (ja (ja (ja (ja (ja (ja (ja (ja (ja (ja (ja (ja (ja (ja (ja (ja (ja (ja (ja (ja (ja (ja (ja (ja (ja (ja (ja (by kernel_rfl) j1) j2) (by kernel_rfl)) (by kernel_rfl)) (by kernel_rfl)) (by kernel_rfl)) (by kernel_rfl)) (by kernel_rfl)) j9) j10) j11) j12) (by kernel_rfl)) (by kernel_rfl)) (by kernel_rfl)) j16) (by kernel_rfl)) (by kernel_rfl)) (by kernel_rfl)) (by kernel_rfl)) (by kernel_rfl)) j22) (by kernel_rfl)) j24) j25) j26) j27) (by kernel_rfl)) (by kernel_rfl)) (by kernel_rfl)) (by kernel_rfl))
end Go.Proofs.YtbobikmalojafaaGreatDoor
