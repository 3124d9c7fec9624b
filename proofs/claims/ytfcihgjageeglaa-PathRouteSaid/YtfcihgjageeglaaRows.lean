/-
  No cell of these rows narrows 'for every input' (looked for: loops, veiled, ifaces, maps, wideKeys, modest, calm, conditions, laid).
  DERIVED. THE GIVEN ROWS OF THIS SEAT. 9 by the template 'for every input the law returns true; each argument reads behind the call as it read before'; 0 by the template 'total and deterministic' (their statements: YtfcihgjageeglaaTotals.lean).
  GIVEN WITH THE SEED: the statements are not yours to turn. If you find one false, say at which input.
  Laid BY PROGRAM, IN A SANDBOX (cutbox-rows.mjs): the forced cells as the released guide's own fill.sh prints them over the translation 7d610e39e1b9402f… (all of the seat's roots in one cut). By AI agents, Wed Nov 11 2026. No macro, syntax, notation, axiom, sorry.
-/
import Derived.Test.YtfcihgjageeglaaChecked
import GoSem.Claim
import GoSem.ClaimJoined
import GoSem.ClaimMapViews
import Derived.JoinedTies
import Derived.KernelRfl
namespace Go.Proofs.Ytfcihgjageeglaa
/- THE CELL 'sum', in the pinned program and in every row, IS THE sha256 OF THE DUMP (.gsa) THAT YtfcihgjageeglaaProg.lean LOADS. Nothing in Lean hashes anything: it is a label: what it is worth is what the hold of that sum in a sandbox is worth. -/
noncomputable def Try.pinned : Pinned := { name := "ytfcihgjageeglaa", sum := "7d610e39e1b9402f577ab71a259d244ade5f1035008be5e39903deacecbcadc9", checked := Try.checked }
namespace Rows
def none {H : Type} : Left H := { results := [], args := [] }

/-- 'bellwetherlaw12.PathExact': WHATEVER THE INPUT: true; the input reads as it did. -/
def pathExactSpec : ChangeSpec := { name := "pathExact", fn := fun _ => fun
  | [d1, d2, d3, d4, d5] => { results := [.lit (.bool true)], args := [d1, d2, d3, d4, d5] }
  | _ => none }
def pathExactRow : OpenClaim := { program := "ytfcihgjageeglaa", sum := "7d610e39e1b9402f577ab71a259d244ade5f1035008be5e39903deacecbcadc9", func := "bellwether/bellwetherlaw12.PathExact", spec := "pathExact", unfollowed := true, recurses := true, apart := false }
def PathExactSaid : Prop := pathExactRow.holds Try.pinned (OpenSpec.ofChange pathExactSpec)

/-- ITS FALSE NEIGHBOUR: 'it returns false'. Refute it at one input. -/
def pathExactWrong : ChangeSpec := { name := "pathExact", fn := fun _ => fun
  | [d1, d2, d3, d4, d5] => { results := [.lit (.bool false)], args := [d1, d2, d3, d4, d5] }
  | _ => none }
def PathExactWrongFalsely : Prop := pathExactRow.holds Try.pinned (OpenSpec.ofChange pathExactWrong)

/-- 'bellwetherlaw12.PathWhole': WHATEVER THE INPUT: true; the input reads as it did. -/
def pathWholeSpec : ChangeSpec := { name := "pathWhole", fn := fun _ => fun
  | [d1, d2] => { results := [.lit (.bool true)], args := [d1, d2] }
  | _ => none }
def pathWholeRow : OpenClaim := { program := "ytfcihgjageeglaa", sum := "7d610e39e1b9402f577ab71a259d244ade5f1035008be5e39903deacecbcadc9", func := "bellwether/bellwetherlaw12.PathWhole", spec := "pathWhole", unfollowed := true, recurses := true, apart := false }
def PathWholeSaid : Prop := pathWholeRow.holds Try.pinned (OpenSpec.ofChange pathWholeSpec)

/-- ITS FALSE NEIGHBOUR: 'it returns false'. Refute it at one input. -/
def pathWholeWrong : ChangeSpec := { name := "pathWhole", fn := fun _ => fun
  | [d1, d2] => { results := [.lit (.bool false)], args := [d1, d2] }
  | _ => none }
def PathWholeWrongFalsely : Prop := pathWholeRow.holds Try.pinned (OpenSpec.ofChange pathWholeWrong)

/-- 'bellwetherlaw11.RouteExact': WHATEVER THE INPUT: true; the input reads as it did. -/
def routeExactSpec : ChangeSpec := { name := "routeExact", fn := fun _ => fun
  | [d1, d2, d3] => { results := [.lit (.bool true)], args := [d1, d2, d3] }
  | _ => none }
def routeExactRow : OpenClaim := { program := "ytfcihgjageeglaa", sum := "7d610e39e1b9402f577ab71a259d244ade5f1035008be5e39903deacecbcadc9", func := "bellwether/bellwetherlaw11.RouteExact", spec := "routeExact", recurses := true, apart := false }
def RouteExactSaid : Prop := routeExactRow.holds Try.pinned (OpenSpec.ofChange routeExactSpec)

/-- ITS FALSE NEIGHBOUR: 'it returns false'. Refute it at one input. -/
def routeExactWrong : ChangeSpec := { name := "routeExact", fn := fun _ => fun
  | [d1, d2, d3] => { results := [.lit (.bool false)], args := [d1, d2, d3] }
  | _ => none }
def RouteExactWrongFalsely : Prop := routeExactRow.holds Try.pinned (OpenSpec.ofChange routeExactWrong)

/-- 'bellwetherlaw11.RouteSteps': WHATEVER THE INPUT: true; the input reads as it did. -/
def routeStepsSpec : ChangeSpec := { name := "routeSteps", fn := fun _ => fun
  | [d1, d2, d3, d4] => { results := [.lit (.bool true)], args := [d1, d2, d3, d4] }
  | _ => none }
def routeStepsRow : OpenClaim := { program := "ytfcihgjageeglaa", sum := "7d610e39e1b9402f577ab71a259d244ade5f1035008be5e39903deacecbcadc9", func := "bellwether/bellwetherlaw11.RouteSteps", spec := "routeSteps", recurses := true, apart := false }
def RouteStepsSaid : Prop := routeStepsRow.holds Try.pinned (OpenSpec.ofChange routeStepsSpec)

/-- ITS FALSE NEIGHBOUR: 'it returns false'. Refute it at one input. -/
def routeStepsWrong : ChangeSpec := { name := "routeSteps", fn := fun _ => fun
  | [d1, d2, d3, d4] => { results := [.lit (.bool false)], args := [d1, d2, d3, d4] }
  | _ => none }
def RouteStepsWrongFalsely : Prop := routeStepsRow.holds Try.pinned (OpenSpec.ofChange routeStepsWrong)

/-- 'bellwetherlaw11.RouteKnows': WHATEVER THE INPUT: true; the input reads as it did. -/
def routeKnowsSpec : ChangeSpec := { name := "routeKnows", fn := fun _ => fun
  | [d1, d2, d3] => { results := [.lit (.bool true)], args := [d1, d2, d3] }
  | _ => none }
def routeKnowsRow : OpenClaim := { program := "ytfcihgjageeglaa", sum := "7d610e39e1b9402f577ab71a259d244ade5f1035008be5e39903deacecbcadc9", func := "bellwether/bellwetherlaw11.RouteKnows", spec := "routeKnows", recurses := true, apart := false }
def RouteKnowsSaid : Prop := routeKnowsRow.holds Try.pinned (OpenSpec.ofChange routeKnowsSpec)

/-- ITS FALSE NEIGHBOUR: 'it returns false'. Refute it at one input. -/
def routeKnowsWrong : ChangeSpec := { name := "routeKnows", fn := fun _ => fun
  | [d1, d2, d3] => { results := [.lit (.bool false)], args := [d1, d2, d3] }
  | _ => none }
def RouteKnowsWrongFalsely : Prop := routeKnowsRow.holds Try.pinned (OpenSpec.ofChange routeKnowsWrong)

/-- 'bellwetherlaw11.RouteWay': WHATEVER THE INPUT: true; the input reads as it did. -/
def routeWaySpec : ChangeSpec := { name := "routeWay", fn := fun _ => fun
  | [d1, d2, d3] => { results := [.lit (.bool true)], args := [d1, d2, d3] }
  | _ => none }
def routeWayRow : OpenClaim := { program := "ytfcihgjageeglaa", sum := "7d610e39e1b9402f577ab71a259d244ade5f1035008be5e39903deacecbcadc9", func := "bellwether/bellwetherlaw11.RouteWay", spec := "routeWay", unfollowed := true, recurses := true, apart := false }
def RouteWaySaid : Prop := routeWayRow.holds Try.pinned (OpenSpec.ofChange routeWaySpec)

/-- ITS FALSE NEIGHBOUR: 'it returns false'. Refute it at one input. -/
def routeWayWrong : ChangeSpec := { name := "routeWay", fn := fun _ => fun
  | [d1, d2, d3] => { results := [.lit (.bool false)], args := [d1, d2, d3] }
  | _ => none }
def RouteWayWrongFalsely : Prop := routeWayRow.holds Try.pinned (OpenSpec.ofChange routeWayWrong)

/-- 'bellwetherlaw11.RouteNext': WHATEVER THE INPUT: true; the input reads as it did. -/
def routeNextSpec : ChangeSpec := { name := "routeNext", fn := fun _ => fun
  | [d1, d2, d3] => { results := [.lit (.bool true)], args := [d1, d2, d3] }
  | _ => none }
def routeNextRow : OpenClaim := { program := "ytfcihgjageeglaa", sum := "7d610e39e1b9402f577ab71a259d244ade5f1035008be5e39903deacecbcadc9", func := "bellwether/bellwetherlaw11.RouteNext", spec := "routeNext", unfollowed := true, recurses := true, apart := false }
def RouteNextSaid : Prop := routeNextRow.holds Try.pinned (OpenSpec.ofChange routeNextSpec)

/-- ITS FALSE NEIGHBOUR: 'it returns false'. Refute it at one input. -/
def routeNextWrong : ChangeSpec := { name := "routeNext", fn := fun _ => fun
  | [d1, d2, d3] => { results := [.lit (.bool false)], args := [d1, d2, d3] }
  | _ => none }
def RouteNextWrongFalsely : Prop := routeNextRow.holds Try.pinned (OpenSpec.ofChange routeNextWrong)

/-- 'bellwetherlaw11.RouteLess': WHATEVER THE INPUT: true; the input reads as it did. -/
def routeLessSpec : ChangeSpec := { name := "routeLess", fn := fun _ => fun
  | [d1, d2, d3] => { results := [.lit (.bool true)], args := [d1, d2, d3] }
  | _ => none }
def routeLessRow : OpenClaim := { program := "ytfcihgjageeglaa", sum := "7d610e39e1b9402f577ab71a259d244ade5f1035008be5e39903deacecbcadc9", func := "bellwether/bellwetherlaw11.RouteLess", spec := "routeLess", unfollowed := true, recurses := true, apart := false }
def RouteLessSaid : Prop := routeLessRow.holds Try.pinned (OpenSpec.ofChange routeLessSpec)

/-- ITS FALSE NEIGHBOUR: 'it returns false'. Refute it at one input. -/
def routeLessWrong : ChangeSpec := { name := "routeLess", fn := fun _ => fun
  | [d1, d2, d3] => { results := [.lit (.bool false)], args := [d1, d2, d3] }
  | _ => none }
def RouteLessWrongFalsely : Prop := routeLessRow.holds Try.pinned (OpenSpec.ofChange routeLessWrong)

/-- 'bellwetherlaw12.PathRoute': WHATEVER THE INPUT: true; the input reads as it did. -/
def pathRouteSpec : ChangeSpec := { name := "pathRoute", fn := fun _ => fun
  | [d1, d2, d3, d4] => { results := [.lit (.bool true)], args := [d1, d2, d3, d4] }
  | _ => none }
def pathRouteRow : OpenClaim := { program := "ytfcihgjageeglaa", sum := "7d610e39e1b9402f577ab71a259d244ade5f1035008be5e39903deacecbcadc9", func := "bellwether/bellwetherlaw12.PathRoute", spec := "pathRoute", unfollowed := true, recurses := true, apart := false }
def PathRouteSaid : Prop := pathRouteRow.holds Try.pinned (OpenSpec.ofChange pathRouteSpec)

/-- ITS FALSE NEIGHBOUR: 'it returns false'. Refute it at one input. -/
def pathRouteWrong : ChangeSpec := { name := "pathRoute", fn := fun _ => fun
  | [d1, d2, d3, d4] => { results := [.lit (.bool false)], args := [d1, d2, d3, d4] }
  | _ => none }
def PathRouteWrongFalsely : Prop := pathRouteRow.holds Try.pinned (OpenSpec.ofChange pathRouteWrong)

/- THE SECOND FORM. 'bulk': how many values and letters a reading holds, each counted each time it is reached (what is shared counts as often as it is met; a slice's spare places count too). A statement '..UptoSaid' is the law's where the arguments, and the package variables that the reading takes, are together of bulk at most 1048576: NARROWER than '..Said'. Prove '..Said' where nothing that the law and all that it calls make is longer than what came in: it says more and counts as full. Else prove '..UptoSaid'. A law counts once. -/
mutual
def uptoBulk {H : Type} : DataW H → Nat
  | .lit (.string bytes) => bytes.length + 1
  | .lit _ => 1
  | .nil => 1
  | .ptr d => uptoBulk d + 1
  | .slice elems spare => uptoBulkAll elems + uptoBulkAll spare + 1
  | .agg parts => uptoBulkAll parts + 1
  | .iface _ d => uptoBulk d + 1
  | .map entries => uptoBulkEntries entries + 1
  | .held _ => 1
def uptoBulkAll {H : Type} : List (DataW H) → Nat
  | [] => 0
  | d :: r => uptoBulk d + uptoBulkAll r
def uptoBulkEntries {H : Type} : List (Lit × DataW H) → Nat
  | [] => 0
  | x :: r => uptoBulkEntry x + uptoBulkEntries r
def uptoBulkEntry {H : Type} : Lit × DataW H → Nat
  | (.string bytes, d) => bytes.length + uptoBulk d + 1
  | (_, d) => uptoBulk d + 1
 end
def uptoSmall : (H : Type) → List (DataW H) → Bool := fun _ ds => decide (uptoBulkAll ds ≤ 1048576)
def OpenSpec.upto (s : _root_.Go.ChangeSpec) : _root_.Go.OpenSpec := { _root_.Go.OpenSpec.ofChange s with cond := some uptoSmall }

/-- 'bellwetherlaw12.PathExact', WHERE WHAT IT READS IS OF BULK AT MOST 1048576: true; the input reads as it did. -/
def pathExactUptoRow : OpenClaim := { program := "ytfcihgjageeglaa", sum := "7d610e39e1b9402f577ab71a259d244ade5f1035008be5e39903deacecbcadc9", func := "bellwether/bellwetherlaw12.PathExact", spec := "pathExact", unfollowed := true, recurses := true, apart := false, narrowed := true }
def PathExactUptoSaid : Prop := pathExactUptoRow.holds Try.pinned (OpenSpec.upto pathExactSpec)

/-- 'bellwetherlaw12.PathWhole', WHERE WHAT IT READS IS OF BULK AT MOST 1048576: true; the input reads as it did. -/
def pathWholeUptoRow : OpenClaim := { program := "ytfcihgjageeglaa", sum := "7d610e39e1b9402f577ab71a259d244ade5f1035008be5e39903deacecbcadc9", func := "bellwether/bellwetherlaw12.PathWhole", spec := "pathWhole", unfollowed := true, recurses := true, apart := false, narrowed := true }
def PathWholeUptoSaid : Prop := pathWholeUptoRow.holds Try.pinned (OpenSpec.upto pathWholeSpec)

/-- 'bellwetherlaw11.RouteExact', WHERE WHAT IT READS IS OF BULK AT MOST 1048576: true; the input reads as it did. -/
def routeExactUptoRow : OpenClaim := { program := "ytfcihgjageeglaa", sum := "7d610e39e1b9402f577ab71a259d244ade5f1035008be5e39903deacecbcadc9", func := "bellwether/bellwetherlaw11.RouteExact", spec := "routeExact", recurses := true, apart := false, narrowed := true }
def RouteExactUptoSaid : Prop := routeExactUptoRow.holds Try.pinned (OpenSpec.upto routeExactSpec)

/-- 'bellwetherlaw11.RouteSteps', WHERE WHAT IT READS IS OF BULK AT MOST 1048576: true; the input reads as it did. -/
def routeStepsUptoRow : OpenClaim := { program := "ytfcihgjageeglaa", sum := "7d610e39e1b9402f577ab71a259d244ade5f1035008be5e39903deacecbcadc9", func := "bellwether/bellwetherlaw11.RouteSteps", spec := "routeSteps", recurses := true, apart := false, narrowed := true }
def RouteStepsUptoSaid : Prop := routeStepsUptoRow.holds Try.pinned (OpenSpec.upto routeStepsSpec)

/-- 'bellwetherlaw11.RouteKnows', WHERE WHAT IT READS IS OF BULK AT MOST 1048576: true; the input reads as it did. -/
def routeKnowsUptoRow : OpenClaim := { program := "ytfcihgjageeglaa", sum := "7d610e39e1b9402f577ab71a259d244ade5f1035008be5e39903deacecbcadc9", func := "bellwether/bellwetherlaw11.RouteKnows", spec := "routeKnows", recurses := true, apart := false, narrowed := true }
def RouteKnowsUptoSaid : Prop := routeKnowsUptoRow.holds Try.pinned (OpenSpec.upto routeKnowsSpec)

/-- 'bellwetherlaw11.RouteWay', WHERE WHAT IT READS IS OF BULK AT MOST 1048576: true; the input reads as it did. -/
def routeWayUptoRow : OpenClaim := { program := "ytfcihgjageeglaa", sum := "7d610e39e1b9402f577ab71a259d244ade5f1035008be5e39903deacecbcadc9", func := "bellwether/bellwetherlaw11.RouteWay", spec := "routeWay", unfollowed := true, recurses := true, apart := false, narrowed := true }
def RouteWayUptoSaid : Prop := routeWayUptoRow.holds Try.pinned (OpenSpec.upto routeWaySpec)

/-- 'bellwetherlaw11.RouteNext', WHERE WHAT IT READS IS OF BULK AT MOST 1048576: true; the input reads as it did. -/
def routeNextUptoRow : OpenClaim := { program := "ytfcihgjageeglaa", sum := "7d610e39e1b9402f577ab71a259d244ade5f1035008be5e39903deacecbcadc9", func := "bellwether/bellwetherlaw11.RouteNext", spec := "routeNext", unfollowed := true, recurses := true, apart := false, narrowed := true }
def RouteNextUptoSaid : Prop := routeNextUptoRow.holds Try.pinned (OpenSpec.upto routeNextSpec)

/-- 'bellwetherlaw11.RouteLess', WHERE WHAT IT READS IS OF BULK AT MOST 1048576: true; the input reads as it did. -/
def routeLessUptoRow : OpenClaim := { program := "ytfcihgjageeglaa", sum := "7d610e39e1b9402f577ab71a259d244ade5f1035008be5e39903deacecbcadc9", func := "bellwether/bellwetherlaw11.RouteLess", spec := "routeLess", unfollowed := true, recurses := true, apart := false, narrowed := true }
def RouteLessUptoSaid : Prop := routeLessUptoRow.holds Try.pinned (OpenSpec.upto routeLessSpec)

/-- 'bellwetherlaw12.PathRoute', WHERE WHAT IT READS IS OF BULK AT MOST 1048576: true; the input reads as it did. -/
def pathRouteUptoRow : OpenClaim := { program := "ytfcihgjageeglaa", sum := "7d610e39e1b9402f577ab71a259d244ade5f1035008be5e39903deacecbcadc9", func := "bellwether/bellwetherlaw12.PathRoute", spec := "pathRoute", unfollowed := true, recurses := true, apart := false, narrowed := true }
def PathRouteUptoSaid : Prop := pathRouteUptoRow.holds Try.pinned (OpenSpec.upto pathRouteSpec)

end Rows
end Go.Proofs.Ytfcihgjageeglaa
