/-
  NARROWER THAN 'FOR EVERY INPUT', by the rows' own cells (each row's printed sentence says how): BeatLeaves: laid · BeatSwitch: laid · CallsAlone: laid · CallsExact: laid.
  DERIVED. THE GIVEN ROWS OF THIS SEAT. 4 by the template 'for every input the law returns true; each argument reads behind the call as it read before'; 0 by the template 'total and deterministic' (their statements: YtahdphncepnbeaaGreatDoorTotals.lean).
  GIVEN WITH THE SEED: the statements are not yours to turn. If you find one false, say at which input.
  Laid BY PROGRAM, IN A SANDBOX (cutbox-rows.mjs): the forced cells as the released guide's own fill.sh prints them over the translation c64945522f797fff… (all of the seat's roots in one cut). By AI agents, Wed Nov 11 2026. No macro, syntax, notation, axiom, sorry.
-/
import Derived.Test.YtahdphncepnbeaaGreatDoorChecked
import GoSem.Claim
import GoSem.ClaimJoined
import GoSem.ClaimMapViews
import Derived.JoinedTies
import Derived.KernelRfl
namespace Go.Proofs.YtahdphncepnbeaaGreatDoor
/- THE CELL 'sum', in the pinned program and in every row, IS THE sha256 OF THE DUMP (.gsa) THAT YtahdphncepnbeaaGreatDoorProg.lean LOADS. Nothing in Lean hashes anything: it is a label: what it is worth is what the hold of that sum in a sandbox is worth. -/
noncomputable def Tryz.pinned : Pinned := { name := "ytahdphncepnbeaagreatdoor", sum := "c64945522f797fffb0c66cf8e8bfea6959e0894d568e3482f472717c5c7e2ac3", checked := Tryz.checked }
namespace Rows
def none {H : Type} : Left H := { results := [], args := [] }

/- WHAT THE LISTED PACKAGE-LEVEL VARIABLES READ AS WHEN THE CALL BEGINS. Each datum BY PROGRAM (the guide's laid-datum.mjs) off the statement by which the dump's own 'gosem.cut.vars' lays the variable. In a bare row this is a premise. The card (YtahdphncepnbeaaGreatDoorCards.lean) ties it to the program's text. -/
def laid_errors_errorType {H : Type} : DataW H := .iface "internal/reflectlite.rtype" (.agg [.ptr (.lit (.string [101, 114, 114, 111, 114]))])

/-- 'bellwetherlaw22.BeatLeaves': WHATEVER THE INPUT: true; the input reads as it did. -/
def beatLeavesSpec : ChangeSpec := { name := "beatLeaves", fn := fun _ => fun
  | [d1, d2] => { results := [.lit (.bool true)], args := [d1, d2] }
  | _ => none }
def beatLeavesRow : OpenClaim := { program := "ytahdphncepnbeaagreatdoor", sum := "c64945522f797fffb0c66cf8e8bfea6959e0894d568e3482f472717c5c7e2ac3", func := "bellwether/bellwetherlaw22.BeatLeaves", spec := "beatLeaves", inPlace := ["internal/reflectlite.TypeOf", "internal/reflectlite.ValueOf", "(internal/reflectlite.Value).Type", "(internal/reflectlite.Value).IsNil", "(internal/reflectlite.Value).Elem", "(internal/reflectlite.Value).Set"], unfollowed := true, recurses := true, named := ["errors.errorType"], apart := false, laid := [("errors.errorType", laid_errors_errorType)] }
def BeatLeavesSaid : Prop := beatLeavesRow.holds Tryz.pinned (OpenSpec.ofChange beatLeavesSpec)

/-- ITS FALSE NEIGHBOUR: 'it returns false'. Refute it at one input. -/
def beatLeavesWrong : ChangeSpec := { name := "beatLeaves", fn := fun _ => fun
  | [d1, d2] => { results := [.lit (.bool false)], args := [d1, d2] }
  | _ => none }
def BeatLeavesWrongFalsely : Prop := beatLeavesRow.holds Tryz.pinned (OpenSpec.ofChange beatLeavesWrong)

/-- 'bellwetherlaw22.BeatSwitch': WHATEVER THE INPUT: true; the input reads as it did. -/
def beatSwitchSpec : ChangeSpec := { name := "beatSwitch", fn := fun _ => fun
  | [d1, d2] => { results := [.lit (.bool true)], args := [d1, d2] }
  | _ => none }
def beatSwitchRow : OpenClaim := { program := "ytahdphncepnbeaagreatdoor", sum := "c64945522f797fffb0c66cf8e8bfea6959e0894d568e3482f472717c5c7e2ac3", func := "bellwether/bellwetherlaw22.BeatSwitch", spec := "beatSwitch", inPlace := ["internal/reflectlite.TypeOf", "internal/reflectlite.ValueOf", "(internal/reflectlite.Value).Type", "(internal/reflectlite.Value).IsNil", "(internal/reflectlite.Value).Elem", "(internal/reflectlite.Value).Set"], unfollowed := true, recurses := true, named := ["errors.errorType"], apart := false, laid := [("errors.errorType", laid_errors_errorType)] }
def BeatSwitchSaid : Prop := beatSwitchRow.holds Tryz.pinned (OpenSpec.ofChange beatSwitchSpec)

/-- ITS FALSE NEIGHBOUR: 'it returns false'. Refute it at one input. -/
def beatSwitchWrong : ChangeSpec := { name := "beatSwitch", fn := fun _ => fun
  | [d1, d2] => { results := [.lit (.bool false)], args := [d1, d2] }
  | _ => none }
def BeatSwitchWrongFalsely : Prop := beatSwitchRow.holds Tryz.pinned (OpenSpec.ofChange beatSwitchWrong)

/-- 'bellwetherlaw24.CallsAlone': WHATEVER THE INPUT: true; the input reads as it did. -/
def callsAloneSpec : ChangeSpec := { name := "callsAlone", fn := fun _ => fun
  | [d1, d2, d3] => { results := [.lit (.bool true)], args := [d1, d2, d3] }
  | _ => none }
def callsAloneRow : OpenClaim := { program := "ytahdphncepnbeaagreatdoor", sum := "c64945522f797fffb0c66cf8e8bfea6959e0894d568e3482f472717c5c7e2ac3", func := "bellwether/bellwetherlaw24.CallsAlone", spec := "callsAlone", inPlace := ["internal/reflectlite.TypeOf", "internal/reflectlite.ValueOf", "(internal/reflectlite.Value).Type", "(internal/reflectlite.Value).IsNil", "(internal/reflectlite.Value).Elem", "(internal/reflectlite.Value).Set", "slices.overlaps[bellwether/api.Item]"], unfollowed := true, recurses := true, named := ["errors.errorType"], apart := false, laid := [("errors.errorType", laid_errors_errorType)] }
def CallsAloneSaid : Prop := callsAloneRow.holds Tryz.pinned (OpenSpec.ofChange callsAloneSpec)

/-- ITS FALSE NEIGHBOUR: 'it returns false'. Refute it at one input. -/
def callsAloneWrong : ChangeSpec := { name := "callsAlone", fn := fun _ => fun
  | [d1, d2, d3] => { results := [.lit (.bool false)], args := [d1, d2, d3] }
  | _ => none }
def CallsAloneWrongFalsely : Prop := callsAloneRow.holds Tryz.pinned (OpenSpec.ofChange callsAloneWrong)

/-- 'bellwetherlaw24.CallsExact': WHATEVER THE INPUT: true; the input reads as it did. -/
def callsExactSpec : ChangeSpec := { name := "callsExact", fn := fun _ => fun
  | [d1, d2, d3, d4, d5] => { results := [.lit (.bool true)], args := [d1, d2, d3, d4, d5] }
  | _ => none }
def callsExactRow : OpenClaim := { program := "ytahdphncepnbeaagreatdoor", sum := "c64945522f797fffb0c66cf8e8bfea6959e0894d568e3482f472717c5c7e2ac3", func := "bellwether/bellwetherlaw24.CallsExact", spec := "callsExact", inPlace := ["internal/reflectlite.TypeOf", "internal/reflectlite.ValueOf", "(internal/reflectlite.Value).Type", "(internal/reflectlite.Value).IsNil", "(internal/reflectlite.Value).Elem", "(internal/reflectlite.Value).Set", "slices.overlaps[bellwether/api.Item]"], unfollowed := true, recurses := true, named := ["errors.errorType"], apart := false, laid := [("errors.errorType", laid_errors_errorType)] }
def CallsExactSaid : Prop := callsExactRow.holds Tryz.pinned (OpenSpec.ofChange callsExactSpec)

/-- ITS FALSE NEIGHBOUR: 'it returns false'. Refute it at one input. -/
def callsExactWrong : ChangeSpec := { name := "callsExact", fn := fun _ => fun
  | [d1, d2, d3, d4, d5] => { results := [.lit (.bool false)], args := [d1, d2, d3, d4, d5] }
  | _ => none }
def CallsExactWrongFalsely : Prop := callsExactRow.holds Tryz.pinned (OpenSpec.ofChange callsExactWrong)

/- THE SECOND FORM. 'bulk': how many values and letters a reading holds, each counted each time it is reached (what is shared counts as often as it is met; a slice's spare places count too). A statement '..UptoSaid' is the law's where the arguments, and the package variables that the reading takes, are together of bulk at most 1048576: NARROWER than '..Said'. Prove '..Said' where nothing that the law and all that it calls make is longer than what came in: it says more and counts as full. Else prove '..UptoSaid'. A law counts once. -/
mutual
def uptoBulk {H : Type} : DataW H → Nat
  | .lit (.string bytes) => bytes.length + 1
  | .lit _ => 1
  | .nil => 1
  | .ptr d => uptoBulk d + 1
  | .slice elems spare => uptoBulkAll elems + uptoBulkAll spare + 1
  | .agg parts => uptoBulkAll parts + 1
  | .iface _ d => uptoBulk d + 1
  | .map entries => uptoBulkEntries entries + 1
  | .held _ => 1
def uptoBulkAll {H : Type} : List (DataW H) → Nat
  | [] => 0
  | d :: r => uptoBulk d + uptoBulkAll r
def uptoBulkEntries {H : Type} : List (Lit × DataW H) → Nat
  | [] => 0
  | x :: r => uptoBulkEntry x + uptoBulkEntries r
def uptoBulkEntry {H : Type} : Lit × DataW H → Nat
  | (.string bytes, d) => bytes.length + uptoBulk d + 1
  | (_, d) => uptoBulk d + 1
 end
def uptoSmall : (H : Type) → List (DataW H) → Bool := fun _ ds => decide (uptoBulkAll ds ≤ 1048576)
def OpenSpec.upto (s : _root_.Go.ChangeSpec) : _root_.Go.OpenSpec := { _root_.Go.OpenSpec.ofChange s with cond := some uptoSmall }

/-- 'bellwetherlaw22.BeatLeaves', WHERE WHAT IT READS IS OF BULK AT MOST 1048576: true; the input reads as it did. -/
def beatLeavesUptoRow : OpenClaim := { program := "ytahdphncepnbeaagreatdoor", sum := "c64945522f797fffb0c66cf8e8bfea6959e0894d568e3482f472717c5c7e2ac3", func := "bellwether/bellwetherlaw22.BeatLeaves", spec := "beatLeaves", inPlace := ["internal/reflectlite.TypeOf", "internal/reflectlite.ValueOf", "(internal/reflectlite.Value).Type", "(internal/reflectlite.Value).IsNil", "(internal/reflectlite.Value).Elem", "(internal/reflectlite.Value).Set"], unfollowed := true, recurses := true, named := ["errors.errorType"], apart := false, laid := [("errors.errorType", laid_errors_errorType)], narrowed := true }
def BeatLeavesUptoSaid : Prop := beatLeavesUptoRow.holds Tryz.pinned (OpenSpec.upto beatLeavesSpec)

/-- 'bellwetherlaw22.BeatSwitch', WHERE WHAT IT READS IS OF BULK AT MOST 1048576: true; the input reads as it did. -/
def beatSwitchUptoRow : OpenClaim := { program := "ytahdphncepnbeaagreatdoor", sum := "c64945522f797fffb0c66cf8e8bfea6959e0894d568e3482f472717c5c7e2ac3", func := "bellwether/bellwetherlaw22.BeatSwitch", spec := "beatSwitch", inPlace := ["internal/reflectlite.TypeOf", "internal/reflectlite.ValueOf", "(internal/reflectlite.Value).Type", "(internal/reflectlite.Value).IsNil", "(internal/reflectlite.Value).Elem", "(internal/reflectlite.Value).Set"], unfollowed := true, recurses := true, named := ["errors.errorType"], apart := false, laid := [("errors.errorType", laid_errors_errorType)], narrowed := true }
def BeatSwitchUptoSaid : Prop := beatSwitchUptoRow.holds Tryz.pinned (OpenSpec.upto beatSwitchSpec)

/-- 'bellwetherlaw24.CallsAlone', WHERE WHAT IT READS IS OF BULK AT MOST 1048576: true; the input reads as it did. -/
def callsAloneUptoRow : OpenClaim := { program := "ytahdphncepnbeaagreatdoor", sum := "c64945522f797fffb0c66cf8e8bfea6959e0894d568e3482f472717c5c7e2ac3", func := "bellwether/bellwetherlaw24.CallsAlone", spec := "callsAlone", inPlace := ["internal/reflectlite.TypeOf", "internal/reflectlite.ValueOf", "(internal/reflectlite.Value).Type", "(internal/reflectlite.Value).IsNil", "(internal/reflectlite.Value).Elem", "(internal/reflectlite.Value).Set", "slices.overlaps[bellwether/api.Item]"], unfollowed := true, recurses := true, named := ["errors.errorType"], apart := false, laid := [("errors.errorType", laid_errors_errorType)], narrowed := true }
def CallsAloneUptoSaid : Prop := callsAloneUptoRow.holds Tryz.pinned (OpenSpec.upto callsAloneSpec)

/-- 'bellwetherlaw24.CallsExact', WHERE WHAT IT READS IS OF BULK AT MOST 1048576: true; the input reads as it did. -/
def callsExactUptoRow : OpenClaim := { program := "ytahdphncepnbeaagreatdoor", sum := "c64945522f797fffb0c66cf8e8bfea6959e0894d568e3482f472717c5c7e2ac3", func := "bellwether/bellwetherlaw24.CallsExact", spec := "callsExact", inPlace := ["internal/reflectlite.TypeOf", "internal/reflectlite.ValueOf", "(internal/reflectlite.Value).Type", "(internal/reflectlite.Value).IsNil", "(internal/reflectlite.Value).Elem", "(internal/reflectlite.Value).Set", "slices.overlaps[bellwether/api.Item]"], unfollowed := true, recurses := true, named := ["errors.errorType"], apart := false, laid := [("errors.errorType", laid_errors_errorType)], narrowed := true }
def CallsExactUptoSaid : Prop := callsExactUptoRow.holds Tryz.pinned (OpenSpec.upto callsExactSpec)

end Rows
end Go.Proofs.YtahdphncepnbeaaGreatDoor
