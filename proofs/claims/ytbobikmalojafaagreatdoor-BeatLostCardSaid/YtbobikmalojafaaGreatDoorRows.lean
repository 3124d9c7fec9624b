/-
  NARROWER THAN 'FOR EVERY INPUT', by the rows' own cells (each row's printed sentence says how): CastExact: laid · BeatExact: laid · BeatRight: laid · BeatTopics: laid · BeatQuiet: laid · BeatLost: laid.
  DERIVED. THE GIVEN ROWS OF THIS SEAT. 6 by the template 'for every input the law returns true; each argument reads behind the call as it read before'; 0 by the template 'total and deterministic' (their statements: YtbobikmalojafaaGreatDoorTotals.lean).
  GIVEN WITH THE SEED: the statements are not yours to turn. If you find one false, say at which input.
  Laid BY PROGRAM, IN A SANDBOX (cutbox-rows.mjs): the forced cells as the released guide's own fill.sh prints them over the translation ecad8faf6102cf97… (all of the seat's roots in one cut). By AI agents, Wed Nov 11 2026. No macro, syntax, notation, axiom, sorry.
-/
import Derived.Test.YtbobikmalojafaaGreatDoorChecked
import GoSem.Claim
import GoSem.ClaimJoined
import GoSem.ClaimMapViews
import Derived.JoinedTies
import Derived.KernelRfl
namespace Go.Proofs.YtbobikmalojafaaGreatDoor
/- THE CELL 'sum', in the pinned program and in every row, IS THE sha256 OF THE DUMP (.gsa) THAT YtbobikmalojafaaGreatDoorProg.lean LOADS. Nothing in Lean hashes anything: it is a label: what it is worth is what the hold of that sum in a sandbox is worth. -/
noncomputable def Tryz.pinned : Pinned := { name := "ytbobikmalojafaagreatdoor", sum := "ecad8faf6102cf97895e4935554089bb61824bc3eb325d149e10218e36593373", checked := Tryz.checked }
namespace Rows
def none {H : Type} : Left H := { results := [], args := [] }

/- WHAT THE LISTED PACKAGE-LEVEL VARIABLES READ AS WHEN THE CALL BEGINS. Each datum BY PROGRAM (the guide's laid-datum.mjs) off the statement by which the dump's own 'gosem.cut.vars' lays the variable. In a bare row this is a premise. The card (YtbobikmalojafaaGreatDoorCards.lean) ties it to the program's text. -/
def laid_errors_errorType {H : Type} : DataW H := .iface "internal/reflectlite.rtype" (.agg [.ptr (.lit (.string [101, 114, 114, 111, 114]))])

/-- 'bellwetherlaw21.CastExact': WHATEVER THE INPUT: true; the input reads as it did. -/
def castExactSpec : ChangeSpec := { name := "castExact", fn := fun _ => fun
  | [d1, d2, d3, d4, d5, d6] => { results := [.lit (.bool true)], args := [d1, d2, d3, d4, d5, d6] }
  | _ => none }
def castExactRow : OpenClaim := { program := "ytbobikmalojafaagreatdoor", sum := "ecad8faf6102cf97895e4935554089bb61824bc3eb325d149e10218e36593373", func := "bellwether/bellwetherlaw21.CastExact", spec := "castExact", inPlace := ["internal/reflectlite.TypeOf", "internal/reflectlite.ValueOf", "(internal/reflectlite.Value).Type", "(internal/reflectlite.Value).IsNil", "(internal/reflectlite.Value).Elem", "(internal/reflectlite.Value).Set"], unfollowed := true, recurses := true, named := ["errors.errorType"], apart := false, laid := [("errors.errorType", laid_errors_errorType)] }
def CastExactSaid : Prop := castExactRow.holds Tryz.pinned (OpenSpec.ofChange castExactSpec)

/-- ITS FALSE NEIGHBOUR: 'it returns false'. Refute it at one input. -/
def castExactWrong : ChangeSpec := { name := "castExact", fn := fun _ => fun
  | [d1, d2, d3, d4, d5, d6] => { results := [.lit (.bool false)], args := [d1, d2, d3, d4, d5, d6] }
  | _ => none }
def CastExactWrongFalsely : Prop := castExactRow.holds Tryz.pinned (OpenSpec.ofChange castExactWrong)

/-- 'bellwetherlaw22.BeatExact': WHATEVER THE INPUT: true; the input reads as it did. -/
def beatExactSpec : ChangeSpec := { name := "beatExact", fn := fun _ => fun
  | [d1, d2, d3, d4] => { results := [.lit (.bool true)], args := [d1, d2, d3, d4] }
  | _ => none }
def beatExactRow : OpenClaim := { program := "ytbobikmalojafaagreatdoor", sum := "ecad8faf6102cf97895e4935554089bb61824bc3eb325d149e10218e36593373", func := "bellwether/bellwetherlaw22.BeatExact", spec := "beatExact", inPlace := ["internal/reflectlite.TypeOf", "internal/reflectlite.ValueOf", "(internal/reflectlite.Value).Type", "(internal/reflectlite.Value).IsNil", "(internal/reflectlite.Value).Elem", "(internal/reflectlite.Value).Set"], unfollowed := true, recurses := true, named := ["errors.errorType"], apart := false, laid := [("errors.errorType", laid_errors_errorType)] }
def BeatExactSaid : Prop := beatExactRow.holds Tryz.pinned (OpenSpec.ofChange beatExactSpec)

/-- ITS FALSE NEIGHBOUR: 'it returns false'. Refute it at one input. -/
def beatExactWrong : ChangeSpec := { name := "beatExact", fn := fun _ => fun
  | [d1, d2, d3, d4] => { results := [.lit (.bool false)], args := [d1, d2, d3, d4] }
  | _ => none }
def BeatExactWrongFalsely : Prop := beatExactRow.holds Tryz.pinned (OpenSpec.ofChange beatExactWrong)

/-- 'bellwetherlaw22.BeatRight': WHATEVER THE INPUT: true; the input reads as it did. -/
def beatRightSpec : ChangeSpec := { name := "beatRight", fn := fun _ => fun
  | [d1, d2, d3] => { results := [.lit (.bool true)], args := [d1, d2, d3] }
  | _ => none }
def beatRightRow : OpenClaim := { program := "ytbobikmalojafaagreatdoor", sum := "ecad8faf6102cf97895e4935554089bb61824bc3eb325d149e10218e36593373", func := "bellwether/bellwetherlaw22.BeatRight", spec := "beatRight", inPlace := ["internal/reflectlite.TypeOf", "internal/reflectlite.ValueOf", "(internal/reflectlite.Value).Type", "(internal/reflectlite.Value).IsNil", "(internal/reflectlite.Value).Elem", "(internal/reflectlite.Value).Set"], unfollowed := true, recurses := true, named := ["errors.errorType"], apart := false, laid := [("errors.errorType", laid_errors_errorType)] }
def BeatRightSaid : Prop := beatRightRow.holds Tryz.pinned (OpenSpec.ofChange beatRightSpec)

/-- ITS FALSE NEIGHBOUR: 'it returns false'. Refute it at one input. -/
def beatRightWrong : ChangeSpec := { name := "beatRight", fn := fun _ => fun
  | [d1, d2, d3] => { results := [.lit (.bool false)], args := [d1, d2, d3] }
  | _ => none }
def BeatRightWrongFalsely : Prop := beatRightRow.holds Tryz.pinned (OpenSpec.ofChange beatRightWrong)

/-- 'bellwetherlaw22.BeatTopics': WHATEVER THE INPUT: true; the input reads as it did. -/
def beatTopicsSpec : ChangeSpec := { name := "beatTopics", fn := fun _ => fun
  | [d1, d2, d3] => { results := [.lit (.bool true)], args := [d1, d2, d3] }
  | _ => none }
def beatTopicsRow : OpenClaim := { program := "ytbobikmalojafaagreatdoor", sum := "ecad8faf6102cf97895e4935554089bb61824bc3eb325d149e10218e36593373", func := "bellwether/bellwetherlaw22.BeatTopics", spec := "beatTopics", inPlace := ["internal/reflectlite.TypeOf", "internal/reflectlite.ValueOf", "(internal/reflectlite.Value).Type", "(internal/reflectlite.Value).IsNil", "(internal/reflectlite.Value).Elem", "(internal/reflectlite.Value).Set"], unfollowed := true, recurses := true, named := ["errors.errorType"], apart := false, laid := [("errors.errorType", laid_errors_errorType)] }
def BeatTopicsSaid : Prop := beatTopicsRow.holds Tryz.pinned (OpenSpec.ofChange beatTopicsSpec)

/-- ITS FALSE NEIGHBOUR: 'it returns false'. Refute it at one input. -/
def beatTopicsWrong : ChangeSpec := { name := "beatTopics", fn := fun _ => fun
  | [d1, d2, d3] => { results := [.lit (.bool false)], args := [d1, d2, d3] }
  | _ => none }
def BeatTopicsWrongFalsely : Prop := beatTopicsRow.holds Tryz.pinned (OpenSpec.ofChange beatTopicsWrong)

/-- 'bellwetherlaw22.BeatQuiet': WHATEVER THE INPUT: true; the input reads as it did. -/
def beatQuietSpec : ChangeSpec := { name := "beatQuiet", fn := fun _ => fun
  | [d1, d2, d3] => { results := [.lit (.bool true)], args := [d1, d2, d3] }
  | _ => none }
def beatQuietRow : OpenClaim := { program := "ytbobikmalojafaagreatdoor", sum := "ecad8faf6102cf97895e4935554089bb61824bc3eb325d149e10218e36593373", func := "bellwether/bellwetherlaw22.BeatQuiet", spec := "beatQuiet", inPlace := ["internal/reflectlite.TypeOf", "internal/reflectlite.ValueOf", "(internal/reflectlite.Value).Type", "(internal/reflectlite.Value).IsNil", "(internal/reflectlite.Value).Elem", "(internal/reflectlite.Value).Set"], unfollowed := true, recurses := true, named := ["errors.errorType"], apart := false, laid := [("errors.errorType", laid_errors_errorType)] }
def BeatQuietSaid : Prop := beatQuietRow.holds Tryz.pinned (OpenSpec.ofChange beatQuietSpec)

/-- ITS FALSE NEIGHBOUR: 'it returns false'. Refute it at one input. -/
def beatQuietWrong : ChangeSpec := { name := "beatQuiet", fn := fun _ => fun
  | [d1, d2, d3] => { results := [.lit (.bool false)], args := [d1, d2, d3] }
  | _ => none }
def BeatQuietWrongFalsely : Prop := beatQuietRow.holds Tryz.pinned (OpenSpec.ofChange beatQuietWrong)

/-- 'bellwetherlaw22.BeatLost': WHATEVER THE INPUT: true; the input reads as it did. -/
def beatLostSpec : ChangeSpec := { name := "beatLost", fn := fun _ => fun
  | [d1, d2] => { results := [.lit (.bool true)], args := [d1, d2] }
  | _ => none }
def beatLostRow : OpenClaim := { program := "ytbobikmalojafaagreatdoor", sum := "ecad8faf6102cf97895e4935554089bb61824bc3eb325d149e10218e36593373", func := "bellwether/bellwetherlaw22.BeatLost", spec := "beatLost", inPlace := ["internal/reflectlite.TypeOf", "internal/reflectlite.ValueOf", "(internal/reflectlite.Value).Type", "(internal/reflectlite.Value).IsNil", "(internal/reflectlite.Value).Elem", "(internal/reflectlite.Value).Set"], unfollowed := true, recurses := true, named := ["errors.errorType"], apart := false, laid := [("errors.errorType", laid_errors_errorType)] }
def BeatLostSaid : Prop := beatLostRow.holds Tryz.pinned (OpenSpec.ofChange beatLostSpec)

/-- ITS FALSE NEIGHBOUR: 'it returns false'. Refute it at one input. -/
def beatLostWrong : ChangeSpec := { name := "beatLost", fn := fun _ => fun
  | [d1, d2] => { results := [.lit (.bool false)], args := [d1, d2] }
  | _ => none }
def BeatLostWrongFalsely : Prop := beatLostRow.holds Tryz.pinned (OpenSpec.ofChange beatLostWrong)

/- THE SECOND FORM. 'bulk': how many values and letters a reading holds, each counted each time it is reached (what is shared counts as often as it is met; a slice's spare places count too). A statement '..UptoSaid' is the law's where the arguments, and the package variables that the reading takes, are together of bulk at most 1048576: NARROWER than '..Said'. Prove '..Said' where nothing that the law and all that it calls make is longer than what came in: it says more and counts as full. Else prove '..UptoSaid'. A law counts once. -/
mutual
def uptoBulk {H : Type} : DataW H → Nat
  | .lit (.string bytes) => bytes.length + 1
  | .lit _ => 1
  | .nil => 1
  | .ptr d => uptoBulk d + 1
  | .slice elems spare => uptoBulkAll elems + uptoBulkAll spare + 1
  | .agg parts => uptoBulkAll parts + 1
  | .iface _ d => uptoBulk d + 1
  | .map entries => uptoBulkEntries entries + 1
  | .held _ => 1
def uptoBulkAll {H : Type} : List (DataW H) → Nat
  | [] => 0
  | d :: r => uptoBulk d + uptoBulkAll r
def uptoBulkEntries {H : Type} : List (Lit × DataW H) → Nat
  | [] => 0
  | x :: r => uptoBulkEntry x + uptoBulkEntries r
def uptoBulkEntry {H : Type} : Lit × DataW H → Nat
  | (.string bytes, d) => bytes.length + uptoBulk d + 1
  | (_, d) => uptoBulk d + 1
 end
def uptoSmall : (H : Type) → List (DataW H) → Bool := fun _ ds => decide (uptoBulkAll ds ≤ 1048576)
def OpenSpec.upto (s : _root_.Go.ChangeSpec) : _root_.Go.OpenSpec := { _root_.Go.OpenSpec.ofChange s with cond := some uptoSmall }

/-- 'bellwetherlaw21.CastExact', WHERE WHAT IT READS IS OF BULK AT MOST 1048576: true; the input reads as it did. -/
def castExactUptoRow : OpenClaim := { program := "ytbobikmalojafaagreatdoor", sum := "ecad8faf6102cf97895e4935554089bb61824bc3eb325d149e10218e36593373", func := "bellwether/bellwetherlaw21.CastExact", spec := "castExact", inPlace := ["internal/reflectlite.TypeOf", "internal/reflectlite.ValueOf", "(internal/reflectlite.Value).Type", "(internal/reflectlite.Value).IsNil", "(internal/reflectlite.Value).Elem", "(internal/reflectlite.Value).Set"], unfollowed := true, recurses := true, named := ["errors.errorType"], apart := false, laid := [("errors.errorType", laid_errors_errorType)], narrowed := true }
def CastExactUptoSaid : Prop := castExactUptoRow.holds Tryz.pinned (OpenSpec.upto castExactSpec)

/-- 'bellwetherlaw22.BeatExact', WHERE WHAT IT READS IS OF BULK AT MOST 1048576: true; the input reads as it did. -/
def beatExactUptoRow : OpenClaim := { program := "ytbobikmalojafaagreatdoor", sum := "ecad8faf6102cf97895e4935554089bb61824bc3eb325d149e10218e36593373", func := "bellwether/bellwetherlaw22.BeatExact", spec := "beatExact", inPlace := ["internal/reflectlite.TypeOf", "internal/reflectlite.ValueOf", "(internal/reflectlite.Value).Type", "(internal/reflectlite.Value).IsNil", "(internal/reflectlite.Value).Elem", "(internal/reflectlite.Value).Set"], unfollowed := true, recurses := true, named := ["errors.errorType"], apart := false, laid := [("errors.errorType", laid_errors_errorType)], narrowed := true }
def BeatExactUptoSaid : Prop := beatExactUptoRow.holds Tryz.pinned (OpenSpec.upto beatExactSpec)

/-- 'bellwetherlaw22.BeatRight', WHERE WHAT IT READS IS OF BULK AT MOST 1048576: true; the input reads as it did. -/
def beatRightUptoRow : OpenClaim := { program := "ytbobikmalojafaagreatdoor", sum := "ecad8faf6102cf97895e4935554089bb61824bc3eb325d149e10218e36593373", func := "bellwether/bellwetherlaw22.BeatRight", spec := "beatRight", inPlace := ["internal/reflectlite.TypeOf", "internal/reflectlite.ValueOf", "(internal/reflectlite.Value).Type", "(internal/reflectlite.Value).IsNil", "(internal/reflectlite.Value).Elem", "(internal/reflectlite.Value).Set"], unfollowed := true, recurses := true, named := ["errors.errorType"], apart := false, laid := [("errors.errorType", laid_errors_errorType)], narrowed := true }
def BeatRightUptoSaid : Prop := beatRightUptoRow.holds Tryz.pinned (OpenSpec.upto beatRightSpec)

/-- 'bellwetherlaw22.BeatTopics', WHERE WHAT IT READS IS OF BULK AT MOST 1048576: true; the input reads as it did. -/
def beatTopicsUptoRow : OpenClaim := { program := "ytbobikmalojafaagreatdoor", sum := "ecad8faf6102cf97895e4935554089bb61824bc3eb325d149e10218e36593373", func := "bellwether/bellwetherlaw22.BeatTopics", spec := "beatTopics", inPlace := ["internal/reflectlite.TypeOf", "internal/reflectlite.ValueOf", "(internal/reflectlite.Value).Type", "(internal/reflectlite.Value).IsNil", "(internal/reflectlite.Value).Elem", "(internal/reflectlite.Value).Set"], unfollowed := true, recurses := true, named := ["errors.errorType"], apart := false, laid := [("errors.errorType", laid_errors_errorType)], narrowed := true }
def BeatTopicsUptoSaid : Prop := beatTopicsUptoRow.holds Tryz.pinned (OpenSpec.upto beatTopicsSpec)

/-- 'bellwetherlaw22.BeatQuiet', WHERE WHAT IT READS IS OF BULK AT MOST 1048576: true; the input reads as it did. -/
def beatQuietUptoRow : OpenClaim := { program := "ytbobikmalojafaagreatdoor", sum := "ecad8faf6102cf97895e4935554089bb61824bc3eb325d149e10218e36593373", func := "bellwether/bellwetherlaw22.BeatQuiet", spec := "beatQuiet", inPlace := ["internal/reflectlite.TypeOf", "internal/reflectlite.ValueOf", "(internal/reflectlite.Value).Type", "(internal/reflectlite.Value).IsNil", "(internal/reflectlite.Value).Elem", "(internal/reflectlite.Value).Set"], unfollowed := true, recurses := true, named := ["errors.errorType"], apart := false, laid := [("errors.errorType", laid_errors_errorType)], narrowed := true }
def BeatQuietUptoSaid : Prop := beatQuietUptoRow.holds Tryz.pinned (OpenSpec.upto beatQuietSpec)

/-- 'bellwetherlaw22.BeatLost', WHERE WHAT IT READS IS OF BULK AT MOST 1048576: true; the input reads as it did. -/
def beatLostUptoRow : OpenClaim := { program := "ytbobikmalojafaagreatdoor", sum := "ecad8faf6102cf97895e4935554089bb61824bc3eb325d149e10218e36593373", func := "bellwether/bellwetherlaw22.BeatLost", spec := "beatLost", inPlace := ["internal/reflectlite.TypeOf", "internal/reflectlite.ValueOf", "(internal/reflectlite.Value).Type", "(internal/reflectlite.Value).IsNil", "(internal/reflectlite.Value).Elem", "(internal/reflectlite.Value).Set"], unfollowed := true, recurses := true, named := ["errors.errorType"], apart := false, laid := [("errors.errorType", laid_errors_errorType)], narrowed := true }
def BeatLostUptoSaid : Prop := beatLostUptoRow.holds Tryz.pinned (OpenSpec.upto beatLostSpec)

end Rows
end Go.Proofs.YtbobikmalojafaaGreatDoor
