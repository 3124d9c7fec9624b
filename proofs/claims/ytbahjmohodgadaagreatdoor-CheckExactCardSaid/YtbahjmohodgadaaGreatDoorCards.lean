/-
  DERIVED. GIVEN WITH THE SEED: THE CARDS: each row of YtbahjmohodgadaaGreatDoorRows.lean that lists a variable, with what it lists TIED to the program's text (the seventh form; the later family's looks); each row that meets fmt, with fmt's text TOLD by the authors' own Lean function (tested against real Go, not proved from fmt's source: count such statements apart). THE CARD IS WHAT COUNTS. Prove the row's statement (the work); the ties are given (YtbahjmohodgadaaGreatDoorTie.lean); close each card by the builder's one call (the guide's Derived/Test/ToyasCard.lean, 'card_holds'). Laid BY PROGRAM, IN A SANDBOX (cutbox-door.mjs). By AI agents, Wed Nov 11 2026. No macro, syntax, notation, axiom, sorry.
-/
import Derived.Test.YtbahjmohodgadaaGreatDoorRows
import GoSem.ClaimSeven
namespace Go.Proofs.YtbahjmohodgadaaGreatDoor
namespace Rows

/-- THE TIED CARD OF 'bellwetherlaw27.CheckExact'. -/
def checkExactCard : Claim7 := { stood := { row := checkExactRow, standIns := [], harness := (true, "c33e0139d13033c643f776f22d2ed49f3954087d9d5d42aa87d6b1dac2dbb079"), looks := true }, kinds := [], alts := [], laidByText := true, laidKinds := [.handle], laidTests := true, laidLooks := .later }
def CheckExactCardSaid : Prop := Claim7.holds Tryz.pinned (.plain (OpenSpec.ofChange checkExactSpec)) checkExactCard

/-- THE TIED CARD OF 'bellwetherlaw27.CheckRises'. -/
def checkRisesCard : Claim7 := { stood := { row := checkRisesRow, standIns := [], harness := (true, "c33e0139d13033c643f776f22d2ed49f3954087d9d5d42aa87d6b1dac2dbb079"), looks := true }, kinds := [], alts := [], laidByText := true, laidKinds := [.handle], laidTests := true, laidLooks := .later }
def CheckRisesCardSaid : Prop := Claim7.holds Tryz.pinned (.plain (OpenSpec.ofChange checkRisesSpec)) checkRisesCard

/-- THE SECOND FORM's CARD OF 'bellwetherlaw27.CheckExact'. -/
def checkExactUptoCard : Claim7 := { stood := { row := checkExactUptoRow, standIns := [], harness := (true, "c33e0139d13033c643f776f22d2ed49f3954087d9d5d42aa87d6b1dac2dbb079"), looks := true }, kinds := [], alts := [], laidByText := true, laidKinds := [.handle], laidTests := true, laidLooks := .later }
def CheckExactUptoCardSaid : Prop := Claim7.holds Tryz.pinned (.plain (OpenSpec.upto checkExactSpec)) checkExactUptoCard

/-- THE SECOND FORM's CARD OF 'bellwetherlaw27.CheckRises'. -/
def checkRisesUptoCard : Claim7 := { stood := { row := checkRisesUptoRow, standIns := [], harness := (true, "c33e0139d13033c643f776f22d2ed49f3954087d9d5d42aa87d6b1dac2dbb079"), looks := true }, kinds := [], alts := [], laidByText := true, laidKinds := [.handle], laidTests := true, laidLooks := .later }
def CheckRisesUptoCardSaid : Prop := Claim7.holds Tryz.pinned (.plain (OpenSpec.upto checkRisesSpec)) checkRisesUptoCard
end Rows
end Go.Proofs.YtbahjmohodgadaaGreatDoor
