/-
  NARROWER THAN 'FOR EVERY INPUT', by the rows' own cells (each row's printed sentence says how): CastCalls: laid · CastOnce: laid · CastHeard: laid · CastWalk: laid · CastExact: laid.
  DERIVED. THE GIVEN ROWS OF THIS SEAT. 5 by the template 'for every input the law returns true; each argument reads behind the call as it read before'; 0 by the template 'total and deterministic' (their statements: YthpnjlaaannaaaaGreatDoorTotals.lean).
  GIVEN WITH THE SEED: the statements are not yours to turn. If you find one false, say at which input.
  Laid BY PROGRAM, IN A SANDBOX (cutbox-rows.mjs): the forced cells as the released guide's own fill.sh prints them over the translation d28ac2fc6badc42f… (all of the seat's roots in one cut). By AI agents, Wed Nov 11 2026. No macro, syntax, notation, axiom, sorry.
-/
import Derived.Test.YthpnjlaaannaaaaGreatDoorChecked
import GoSem.Claim
import GoSem.ClaimJoined
import GoSem.ClaimMapViews
import Derived.JoinedTies
import Derived.KernelRfl
namespace Go.Proofs.YthpnjlaaannaaaaGreatDoor
/- THE CELL 'sum', in the pinned program and in every row, IS THE sha256 OF THE DUMP (.gsa) THAT YthpnjlaaannaaaaGreatDoorProg.lean LOADS. Nothing in Lean hashes anything: it is a label: what it is worth is what the hold of that sum in a sandbox is worth. -/
noncomputable def Tryz.pinned : Pinned := { name := "ythpnjlaaannaaaagreatdoor", sum := "d28ac2fc6badc42f52ce590d2a1927626fe072825ec528f6b4f6f2d733787d6c", checked := Tryz.checked }
namespace Rows
def none {H : Type} : Left H := { results := [], args := [] }

/- WHAT THE LISTED PACKAGE-LEVEL VARIABLES READ AS WHEN THE CALL BEGINS. Each datum BY PROGRAM (the guide's laid-datum.mjs) off the statement by which the dump's own 'gosem.cut.vars' lays the variable. In a bare row this is a premise. The card (YthpnjlaaannaaaaGreatDoorCards.lean) ties it to the program's text. -/
def laid_errors_errorType {H : Type} : DataW H := .iface "internal/reflectlite.rtype" (.agg [.ptr (.lit (.string [101, 114, 114, 111, 114]))])

/-- 'bellwetherlaw21.CastCalls': WHATEVER THE INPUT: true; the input reads as it did. -/
def castCallsSpec : ChangeSpec := { name := "castCalls", fn := fun _ => fun
  | [d1, d2, d3, d4, d5, d6] => { results := [.lit (.bool true)], args := [d1, d2, d3, d4, d5, d6] }
  | _ => none }
def castCallsRow : OpenClaim := { program := "ythpnjlaaannaaaagreatdoor", sum := "d28ac2fc6badc42f52ce590d2a1927626fe072825ec528f6b4f6f2d733787d6c", func := "bellwether/bellwetherlaw21.CastCalls", spec := "castCalls", inPlace := ["internal/reflectlite.TypeOf", "internal/reflectlite.ValueOf", "(internal/reflectlite.Value).Type", "(internal/reflectlite.Value).IsNil", "(internal/reflectlite.Value).Elem", "(internal/reflectlite.Value).Set"], unfollowed := true, recurses := true, named := ["errors.errorType"], apart := false, laid := [("errors.errorType", laid_errors_errorType)] }
def CastCallsSaid : Prop := castCallsRow.holds Tryz.pinned (OpenSpec.ofChange castCallsSpec)

/-- ITS FALSE NEIGHBOUR: 'it returns false'. Refute it at one input. -/
def castCallsWrong : ChangeSpec := { name := "castCalls", fn := fun _ => fun
  | [d1, d2, d3, d4, d5, d6] => { results := [.lit (.bool false)], args := [d1, d2, d3, d4, d5, d6] }
  | _ => none }
def CastCallsWrongFalsely : Prop := castCallsRow.holds Tryz.pinned (OpenSpec.ofChange castCallsWrong)

/-- 'bellwetherlaw21.CastOnce': WHATEVER THE INPUT: true; the input reads as it did. -/
def castOnceSpec : ChangeSpec := { name := "castOnce", fn := fun _ => fun
  | [d1, d2, d3, d4] => { results := [.lit (.bool true)], args := [d1, d2, d3, d4] }
  | _ => none }
def castOnceRow : OpenClaim := { program := "ythpnjlaaannaaaagreatdoor", sum := "d28ac2fc6badc42f52ce590d2a1927626fe072825ec528f6b4f6f2d733787d6c", func := "bellwether/bellwetherlaw21.CastOnce", spec := "castOnce", inPlace := ["internal/reflectlite.TypeOf", "internal/reflectlite.ValueOf", "(internal/reflectlite.Value).Type", "(internal/reflectlite.Value).IsNil", "(internal/reflectlite.Value).Elem", "(internal/reflectlite.Value).Set"], unfollowed := true, recurses := true, named := ["errors.errorType"], apart := false, laid := [("errors.errorType", laid_errors_errorType)] }
def CastOnceSaid : Prop := castOnceRow.holds Tryz.pinned (OpenSpec.ofChange castOnceSpec)

/-- ITS FALSE NEIGHBOUR: 'it returns false'. Refute it at one input. -/
def castOnceWrong : ChangeSpec := { name := "castOnce", fn := fun _ => fun
  | [d1, d2, d3, d4] => { results := [.lit (.bool false)], args := [d1, d2, d3, d4] }
  | _ => none }
def CastOnceWrongFalsely : Prop := castOnceRow.holds Tryz.pinned (OpenSpec.ofChange castOnceWrong)

/-- 'bellwetherlaw21.CastHeard': WHATEVER THE INPUT: true; the input reads as it did. -/
def castHeardSpec : ChangeSpec := { name := "castHeard", fn := fun _ => fun
  | [d1, d2, d3, d4, d5, d6, d7] => { results := [.lit (.bool true)], args := [d1, d2, d3, d4, d5, d6, d7] }
  | _ => none }
def castHeardRow : OpenClaim := { program := "ythpnjlaaannaaaagreatdoor", sum := "d28ac2fc6badc42f52ce590d2a1927626fe072825ec528f6b4f6f2d733787d6c", func := "bellwether/bellwetherlaw21.CastHeard", spec := "castHeard", inPlace := ["internal/reflectlite.TypeOf", "internal/reflectlite.ValueOf", "(internal/reflectlite.Value).Type", "(internal/reflectlite.Value).IsNil", "(internal/reflectlite.Value).Elem", "(internal/reflectlite.Value).Set"], unfollowed := true, recurses := true, named := ["errors.errorType"], apart := false, laid := [("errors.errorType", laid_errors_errorType)] }
def CastHeardSaid : Prop := castHeardRow.holds Tryz.pinned (OpenSpec.ofChange castHeardSpec)

/-- ITS FALSE NEIGHBOUR: 'it returns false'. Refute it at one input. -/
def castHeardWrong : ChangeSpec := { name := "castHeard", fn := fun _ => fun
  | [d1, d2, d3, d4, d5, d6, d7] => { results := [.lit (.bool false)], args := [d1, d2, d3, d4, d5, d6, d7] }
  | _ => none }
def CastHeardWrongFalsely : Prop := castHeardRow.holds Tryz.pinned (OpenSpec.ofChange castHeardWrong)

/-- 'bellwetherlaw21.CastWalk': WHATEVER THE INPUT: true; the input reads as it did. -/
def castWalkSpec : ChangeSpec := { name := "castWalk", fn := fun _ => fun
  | [d1, d2, d3, d4] => { results := [.lit (.bool true)], args := [d1, d2, d3, d4] }
  | _ => none }
def castWalkRow : OpenClaim := { program := "ythpnjlaaannaaaagreatdoor", sum := "d28ac2fc6badc42f52ce590d2a1927626fe072825ec528f6b4f6f2d733787d6c", func := "bellwether/bellwetherlaw21.CastWalk", spec := "castWalk", inPlace := ["internal/reflectlite.TypeOf", "internal/reflectlite.ValueOf", "(internal/reflectlite.Value).Type", "(internal/reflectlite.Value).IsNil", "(internal/reflectlite.Value).Elem", "(internal/reflectlite.Value).Set"], unfollowed := true, recurses := true, named := ["errors.errorType"], apart := false, laid := [("errors.errorType", laid_errors_errorType)] }
def CastWalkSaid : Prop := castWalkRow.holds Tryz.pinned (OpenSpec.ofChange castWalkSpec)

/-- ITS FALSE NEIGHBOUR: 'it returns false'. Refute it at one input. -/
def castWalkWrong : ChangeSpec := { name := "castWalk", fn := fun _ => fun
  | [d1, d2, d3, d4] => { results := [.lit (.bool false)], args := [d1, d2, d3, d4] }
  | _ => none }
def CastWalkWrongFalsely : Prop := castWalkRow.holds Tryz.pinned (OpenSpec.ofChange castWalkWrong)

/-- 'bellwetherlaw21.CastExact': WHATEVER THE INPUT: true; the input reads as it did. -/
def castExactSpec : ChangeSpec := { name := "castExact", fn := fun _ => fun
  | [d1, d2, d3, d4, d5, d6] => { results := [.lit (.bool true)], args := [d1, d2, d3, d4, d5, d6] }
  | _ => none }
def castExactRow : OpenClaim := { program := "ythpnjlaaannaaaagreatdoor", sum := "d28ac2fc6badc42f52ce590d2a1927626fe072825ec528f6b4f6f2d733787d6c", func := "bellwether/bellwetherlaw21.CastExact", spec := "castExact", inPlace := ["internal/reflectlite.TypeOf", "internal/reflectlite.ValueOf", "(internal/reflectlite.Value).Type", "(internal/reflectlite.Value).IsNil", "(internal/reflectlite.Value).Elem", "(internal/reflectlite.Value).Set"], unfollowed := true, recurses := true, named := ["errors.errorType"], apart := false, laid := [("errors.errorType", laid_errors_errorType)] }
def CastExactSaid : Prop := castExactRow.holds Tryz.pinned (OpenSpec.ofChange castExactSpec)

/-- ITS FALSE NEIGHBOUR: 'it returns false'. Refute it at one input. -/
def castExactWrong : ChangeSpec := { name := "castExact", fn := fun _ => fun
  | [d1, d2, d3, d4, d5, d6] => { results := [.lit (.bool false)], args := [d1, d2, d3, d4, d5, d6] }
  | _ => none }
def CastExactWrongFalsely : Prop := castExactRow.holds Tryz.pinned (OpenSpec.ofChange castExactWrong)

/- THE SECOND FORM. 'bulk': how many values and letters a reading holds, each counted each time it is reached (what is shared counts as often as it is met; a slice's spare places count too). A statement '..UptoSaid' is the law's where the arguments, and the package variables that the reading takes, are together of bulk at most 1048576: NARROWER than '..Said'. Prove '..Said' where nothing that the law and all that it calls make is longer than what came in: it says more and counts as full. Else prove '..UptoSaid'. A law counts once. -/
mutual
def uptoBulk {H : Type} : DataW H → Nat
  | .lit (.string bytes) => bytes.length + 1
  | .lit _ => 1
  | .nil => 1
  | .ptr d => uptoBulk d + 1
  | .slice elems spare => uptoBulkAll elems + uptoBulkAll spare + 1
  | .agg parts => uptoBulkAll parts + 1
  | .iface _ d => uptoBulk d + 1
  | .map entries => uptoBulkEntries entries + 1
  | .held _ => 1
def uptoBulkAll {H : Type} : List (DataW H) → Nat
  | [] => 0
  | d :: r => uptoBulk d + uptoBulkAll r
def uptoBulkEntries {H : Type} : List (Lit × DataW H) → Nat
  | [] => 0
  | x :: r => uptoBulkEntry x + uptoBulkEntries r
def uptoBulkEntry {H : Type} : Lit × DataW H → Nat
  | (.string bytes, d) => bytes.length + uptoBulk d + 1
  | (_, d) => uptoBulk d + 1
 end
def uptoSmall : (H : Type) → List (DataW H) → Bool := fun _ ds => decide (uptoBulkAll ds ≤ 1048576)
def OpenSpec.upto (s : _root_.Go.ChangeSpec) : _root_.Go.OpenSpec := { _root_.Go.OpenSpec.ofChange s with cond := some uptoSmall }

/-- 'bellwetherlaw21.CastCalls', WHERE WHAT IT READS IS OF BULK AT MOST 1048576: true; the input reads as it did. -/
def castCallsUptoRow : OpenClaim := { program := "ythpnjlaaannaaaagreatdoor", sum := "d28ac2fc6badc42f52ce590d2a1927626fe072825ec528f6b4f6f2d733787d6c", func := "bellwether/bellwetherlaw21.CastCalls", spec := "castCalls", inPlace := ["internal/reflectlite.TypeOf", "internal/reflectlite.ValueOf", "(internal/reflectlite.Value).Type", "(internal/reflectlite.Value).IsNil", "(internal/reflectlite.Value).Elem", "(internal/reflectlite.Value).Set"], unfollowed := true, recurses := true, named := ["errors.errorType"], apart := false, laid := [("errors.errorType", laid_errors_errorType)], narrowed := true }
def CastCallsUptoSaid : Prop := castCallsUptoRow.holds Tryz.pinned (OpenSpec.upto castCallsSpec)

/-- 'bellwetherlaw21.CastOnce', WHERE WHAT IT READS IS OF BULK AT MOST 1048576: true; the input reads as it did. -/
def castOnceUptoRow : OpenClaim := { program := "ythpnjlaaannaaaagreatdoor", sum := "d28ac2fc6badc42f52ce590d2a1927626fe072825ec528f6b4f6f2d733787d6c", func := "bellwether/bellwetherlaw21.CastOnce", spec := "castOnce", inPlace := ["internal/reflectlite.TypeOf", "internal/reflectlite.ValueOf", "(internal/reflectlite.Value).Type", "(internal/reflectlite.Value).IsNil", "(internal/reflectlite.Value).Elem", "(internal/reflectlite.Value).Set"], unfollowed := true, recurses := true, named := ["errors.errorType"], apart := false, laid := [("errors.errorType", laid_errors_errorType)], narrowed := true }
def CastOnceUptoSaid : Prop := castOnceUptoRow.holds Tryz.pinned (OpenSpec.upto castOnceSpec)

/-- 'bellwetherlaw21.CastHeard', WHERE WHAT IT READS IS OF BULK AT MOST 1048576: true; the input reads as it did. -/
def castHeardUptoRow : OpenClaim := { program := "ythpnjlaaannaaaagreatdoor", sum := "d28ac2fc6badc42f52ce590d2a1927626fe072825ec528f6b4f6f2d733787d6c", func := "bellwether/bellwetherlaw21.CastHeard", spec := "castHeard", inPlace := ["internal/reflectlite.TypeOf", "internal/reflectlite.ValueOf", "(internal/reflectlite.Value).Type", "(internal/reflectlite.Value).IsNil", "(internal/reflectlite.Value).Elem", "(internal/reflectlite.Value).Set"], unfollowed := true, recurses := true, named := ["errors.errorType"], apart := false, laid := [("errors.errorType", laid_errors_errorType)], narrowed := true }
def CastHeardUptoSaid : Prop := castHeardUptoRow.holds Tryz.pinned (OpenSpec.upto castHeardSpec)

/-- 'bellwetherlaw21.CastWalk', WHERE WHAT IT READS IS OF BULK AT MOST 1048576: true; the input reads as it did. -/
def castWalkUptoRow : OpenClaim := { program := "ythpnjlaaannaaaagreatdoor", sum := "d28ac2fc6badc42f52ce590d2a1927626fe072825ec528f6b4f6f2d733787d6c", func := "bellwether/bellwetherlaw21.CastWalk", spec := "castWalk", inPlace := ["internal/reflectlite.TypeOf", "internal/reflectlite.ValueOf", "(internal/reflectlite.Value).Type", "(internal/reflectlite.Value).IsNil", "(internal/reflectlite.Value).Elem", "(internal/reflectlite.Value).Set"], unfollowed := true, recurses := true, named := ["errors.errorType"], apart := false, laid := [("errors.errorType", laid_errors_errorType)], narrowed := true }
def CastWalkUptoSaid : Prop := castWalkUptoRow.holds Tryz.pinned (OpenSpec.upto castWalkSpec)

/-- 'bellwetherlaw21.CastExact', WHERE WHAT IT READS IS OF BULK AT MOST 1048576: true; the input reads as it did. -/
def castExactUptoRow : OpenClaim := { program := "ythpnjlaaannaaaagreatdoor", sum := "d28ac2fc6badc42f52ce590d2a1927626fe072825ec528f6b4f6f2d733787d6c", func := "bellwether/bellwetherlaw21.CastExact", spec := "castExact", inPlace := ["internal/reflectlite.TypeOf", "internal/reflectlite.ValueOf", "(internal/reflectlite.Value).Type", "(internal/reflectlite.Value).IsNil", "(internal/reflectlite.Value).Elem", "(internal/reflectlite.Value).Set"], unfollowed := true, recurses := true, named := ["errors.errorType"], apart := false, laid := [("errors.errorType", laid_errors_errorType)], narrowed := true }
def CastExactUptoSaid : Prop := castExactUptoRow.holds Tryz.pinned (OpenSpec.upto castExactSpec)

end Rows
end Go.Proofs.YthpnjlaaannaaaaGreatDoor
