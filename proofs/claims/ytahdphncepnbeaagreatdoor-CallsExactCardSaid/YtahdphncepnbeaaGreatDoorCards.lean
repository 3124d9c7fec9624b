/-
  DERIVED. GIVEN WITH THE SEED: THE CARDS: each row of YtahdphncepnbeaaGreatDoorRows.lean that lists a variable, with what it lists TIED to the program's text (the seventh form; the later family's looks); each row that meets fmt, with fmt's text TOLD by the authors' own Lean function (tested against real Go, not proved from fmt's source: count such statements apart). THE CARD IS WHAT COUNTS. Prove the row's statement (the work); the ties are given (YtahdphncepnbeaaGreatDoorTie.lean); close each card by the builder's one call (the guide's Derived/Test/ToyasCard.lean, 'card_holds'). Laid BY PROGRAM, IN A SANDBOX (cutbox-door.mjs). By AI agents, Wed Nov 11 2026. No macro, syntax, notation, axiom, sorry.
-/
import Derived.Test.YtahdphncepnbeaaGreatDoorRows
import GoSem.ClaimSeven
namespace Go.Proofs.YtahdphncepnbeaaGreatDoor
namespace Rows

/-- THE TIED CARD OF 'bellwetherlaw22.BeatLeaves'. -/
def beatLeavesCard : Claim7 := { stood := { row := beatLeavesRow, standIns := [], harness := (true, "bc714a5adbe51648cc8fd42f9d2cd22571bb1f9baee83c42f7a599bf3993d275"), looks := true }, kinds := [], alts := [], laidByText := true, laidKinds := [.handle], laidTests := true, laidLooks := .later }
def BeatLeavesCardSaid : Prop := Claim7.holds Tryz.pinned (.plain (OpenSpec.ofChange beatLeavesSpec)) beatLeavesCard

/-- THE TIED CARD OF 'bellwetherlaw22.BeatSwitch'. -/
def beatSwitchCard : Claim7 := { stood := { row := beatSwitchRow, standIns := [], harness := (true, "bc714a5adbe51648cc8fd42f9d2cd22571bb1f9baee83c42f7a599bf3993d275"), looks := true }, kinds := [], alts := [], laidByText := true, laidKinds := [.handle], laidTests := true, laidLooks := .later }
def BeatSwitchCardSaid : Prop := Claim7.holds Tryz.pinned (.plain (OpenSpec.ofChange beatSwitchSpec)) beatSwitchCard

/-- THE TIED CARD OF 'bellwetherlaw24.CallsAlone'. -/
def callsAloneCard : Claim7 := { stood := { row := callsAloneRow, standIns := [], harness := (true, "bc714a5adbe51648cc8fd42f9d2cd22571bb1f9baee83c42f7a599bf3993d275"), looks := true }, kinds := [], alts := [], laidByText := true, laidKinds := [.handle], laidTests := true, laidLooks := .later }
def CallsAloneCardSaid : Prop := Claim7.holds Tryz.pinned (.plain (OpenSpec.ofChange callsAloneSpec)) callsAloneCard

/-- THE TIED CARD OF 'bellwetherlaw24.CallsExact'. -/
def callsExactCard : Claim7 := { stood := { row := callsExactRow, standIns := [], harness := (true, "bc714a5adbe51648cc8fd42f9d2cd22571bb1f9baee83c42f7a599bf3993d275"), looks := true }, kinds := [], alts := [], laidByText := true, laidKinds := [.handle], laidTests := true, laidLooks := .later }
def CallsExactCardSaid : Prop := Claim7.holds Tryz.pinned (.plain (OpenSpec.ofChange callsExactSpec)) callsExactCard

/-- THE SECOND FORM's CARD OF 'bellwetherlaw22.BeatLeaves'. -/
def beatLeavesUptoCard : Claim7 := { stood := { row := beatLeavesUptoRow, standIns := [], harness := (true, "bc714a5adbe51648cc8fd42f9d2cd22571bb1f9baee83c42f7a599bf3993d275"), looks := true }, kinds := [], alts := [], laidByText := true, laidKinds := [.handle], laidTests := true, laidLooks := .later }
def BeatLeavesUptoCardSaid : Prop := Claim7.holds Tryz.pinned (.plain (OpenSpec.upto beatLeavesSpec)) beatLeavesUptoCard

/-- THE SECOND FORM's CARD OF 'bellwetherlaw22.BeatSwitch'. -/
def beatSwitchUptoCard : Claim7 := { stood := { row := beatSwitchUptoRow, standIns := [], harness := (true, "bc714a5adbe51648cc8fd42f9d2cd22571bb1f9baee83c42f7a599bf3993d275"), looks := true }, kinds := [], alts := [], laidByText := true, laidKinds := [.handle], laidTests := true, laidLooks := .later }
def BeatSwitchUptoCardSaid : Prop := Claim7.holds Tryz.pinned (.plain (OpenSpec.upto beatSwitchSpec)) beatSwitchUptoCard

/-- THE SECOND FORM's CARD OF 'bellwetherlaw24.CallsAlone'. -/
def callsAloneUptoCard : Claim7 := { stood := { row := callsAloneUptoRow, standIns := [], harness := (true, "bc714a5adbe51648cc8fd42f9d2cd22571bb1f9baee83c42f7a599bf3993d275"), looks := true }, kinds := [], alts := [], laidByText := true, laidKinds := [.handle], laidTests := true, laidLooks := .later }
def CallsAloneUptoCardSaid : Prop := Claim7.holds Tryz.pinned (.plain (OpenSpec.upto callsAloneSpec)) callsAloneUptoCard

/-- THE SECOND FORM's CARD OF 'bellwetherlaw24.CallsExact'. -/
def callsExactUptoCard : Claim7 := { stood := { row := callsExactUptoRow, standIns := [], harness := (true, "bc714a5adbe51648cc8fd42f9d2cd22571bb1f9baee83c42f7a599bf3993d275"), looks := true }, kinds := [], alts := [], laidByText := true, laidKinds := [.handle], laidTests := true, laidLooks := .later }
def CallsExactUptoCardSaid : Prop := Claim7.holds Tryz.pinned (.plain (OpenSpec.upto callsExactSpec)) callsExactUptoCard
end Rows
end Go.Proofs.YtahdphncepnbeaaGreatDoor
