/-
  DERIVED. GIVEN WITH THE SEED: THE CARDS: each row of YtjolhiejojfkkaaGreatDoorRows.lean that lists a variable, with what it lists TIED to the program's text (the seventh form; the later family's looks); each row that meets fmt, with fmt's text TOLD by the authors' own Lean function (tested against real Go, not proved from fmt's source: count such statements apart). THE CARD IS WHAT COUNTS. Prove the row's statement (the work); the ties are given (YtjolhiejojfkkaaGreatDoorTie.lean); close each card by the builder's one call (the guide's Derived/Test/ToyasCard.lean, 'card_holds'). Laid BY PROGRAM, IN A SANDBOX (cutbox-door.mjs). By AI agents, Wed Nov 11 2026. No macro, syntax, notation, axiom, sorry.
-/
import Derived.Test.YtjolhiejojfkkaaGreatDoorRows
import GoSem.ClaimSeven
namespace Go.Proofs.YtjolhiejojfkkaaGreatDoor
namespace Rows

/-- THE TIED CARD OF 'bellwetherlaw22.BeatLeaves'. -/
def beatLeavesCard : Claim7 := { stood := { row := beatLeavesRow, standIns := [], harness := (true, "bf4c40c1f00effd6a30992f5b113f7095f5c478138ee8815c34ca87f5007e8aa"), looks := true }, kinds := [], alts := [], laidByText := true, laidKinds := [.handle], laidTests := true, laidLooks := .later }
def BeatLeavesCardSaid : Prop := Claim7.holds Tryz.pinned (.plain (OpenSpec.ofChange beatLeavesSpec)) beatLeavesCard

/-- THE TIED CARD OF 'bellwetherlaw22.BeatSwitch'. -/
def beatSwitchCard : Claim7 := { stood := { row := beatSwitchRow, standIns := [], harness := (true, "bf4c40c1f00effd6a30992f5b113f7095f5c478138ee8815c34ca87f5007e8aa"), looks := true }, kinds := [], alts := [], laidByText := true, laidKinds := [.handle], laidTests := true, laidLooks := .later }
def BeatSwitchCardSaid : Prop := Claim7.holds Tryz.pinned (.plain (OpenSpec.ofChange beatSwitchSpec)) beatSwitchCard

/-- THE TIED CARD OF 'bellwetherlaw24.CallsPolls'. -/
def callsPollsCard : Claim7 := { stood := { row := callsPollsRow, standIns := [], harness := (true, "bf4c40c1f00effd6a30992f5b113f7095f5c478138ee8815c34ca87f5007e8aa"), looks := true }, kinds := [], alts := [], laidByText := true, laidKinds := [.handle], laidTests := true, laidLooks := .later }
def CallsPollsCardSaid : Prop := Claim7.holds Tryz.pinned (.plain (OpenSpec.ofChange callsPollsSpec)) callsPollsCard

/-- THE TIED CARD OF 'bellwetherlaw24.CallsPublish'. -/
def callsPublishCard : Claim7 := { stood := { row := callsPublishRow, standIns := [], harness := (true, "bf4c40c1f00effd6a30992f5b113f7095f5c478138ee8815c34ca87f5007e8aa"), looks := true }, kinds := [], alts := [], laidByText := true, laidKinds := [.handle], laidTests := true, laidLooks := .later }
def CallsPublishCardSaid : Prop := Claim7.holds Tryz.pinned (.plain (OpenSpec.ofChange callsPublishSpec)) callsPublishCard

/-- THE TIED CARD OF 'bellwetherlaw24.CallsAlone'. -/
def callsAloneCard : Claim7 := { stood := { row := callsAloneRow, standIns := [], harness := (true, "bf4c40c1f00effd6a30992f5b113f7095f5c478138ee8815c34ca87f5007e8aa"), looks := true }, kinds := [], alts := [], laidByText := true, laidKinds := [.handle], laidTests := true, laidLooks := .later }
def CallsAloneCardSaid : Prop := Claim7.holds Tryz.pinned (.plain (OpenSpec.ofChange callsAloneSpec)) callsAloneCard

/-- THE TIED CARD OF 'bellwetherlaw24.CallsSubs'. -/
def callsSubsCard : Claim7 := { stood := { row := callsSubsRow, standIns := [], harness := (true, "bf4c40c1f00effd6a30992f5b113f7095f5c478138ee8815c34ca87f5007e8aa"), looks := true }, kinds := [], alts := [], laidByText := true, laidKinds := [.handle], laidTests := true, laidLooks := .later }
def CallsSubsCardSaid : Prop := Claim7.holds Tryz.pinned (.plain (OpenSpec.ofChange callsSubsSpec)) callsSubsCard

/-- THE TIED CARD OF 'bellwetherlaw24.CallsExact'. -/
def callsExactCard : Claim7 := { stood := { row := callsExactRow, standIns := [], harness := (true, "bf4c40c1f00effd6a30992f5b113f7095f5c478138ee8815c34ca87f5007e8aa"), looks := true }, kinds := [], alts := [], laidByText := true, laidKinds := [.handle], laidTests := true, laidLooks := .later }
def CallsExactCardSaid : Prop := Claim7.holds Tryz.pinned (.plain (OpenSpec.ofChange callsExactSpec)) callsExactCard

/-- THE TIED CARD OF 'bellwetherlaw24.CallsRight'. -/
def callsRightCard : Claim7 := { stood := { row := callsRightRow, standIns := [], harness := (true, "bf4c40c1f00effd6a30992f5b113f7095f5c478138ee8815c34ca87f5007e8aa"), looks := true }, kinds := [], alts := [], laidByText := true, laidKinds := [.handle], laidTests := true, laidLooks := .later }
def CallsRightCardSaid : Prop := Claim7.holds Tryz.pinned (.plain (OpenSpec.ofChange callsRightSpec)) callsRightCard

/-- THE SECOND FORM's CARD OF 'bellwetherlaw22.BeatLeaves'. -/
def beatLeavesUptoCard : Claim7 := { stood := { row := beatLeavesUptoRow, standIns := [], harness := (true, "bf4c40c1f00effd6a30992f5b113f7095f5c478138ee8815c34ca87f5007e8aa"), looks := true }, kinds := [], alts := [], laidByText := true, laidKinds := [.handle], laidTests := true, laidLooks := .later }
def BeatLeavesUptoCardSaid : Prop := Claim7.holds Tryz.pinned (.plain (OpenSpec.upto beatLeavesSpec)) beatLeavesUptoCard

/-- THE SECOND FORM's CARD OF 'bellwetherlaw22.BeatSwitch'. -/
def beatSwitchUptoCard : Claim7 := { stood := { row := beatSwitchUptoRow, standIns := [], harness := (true, "bf4c40c1f00effd6a30992f5b113f7095f5c478138ee8815c34ca87f5007e8aa"), looks := true }, kinds := [], alts := [], laidByText := true, laidKinds := [.handle], laidTests := true, laidLooks := .later }
def BeatSwitchUptoCardSaid : Prop := Claim7.holds Tryz.pinned (.plain (OpenSpec.upto beatSwitchSpec)) beatSwitchUptoCard

/-- THE SECOND FORM's CARD OF 'bellwetherlaw24.CallsPolls'. -/
def callsPollsUptoCard : Claim7 := { stood := { row := callsPollsUptoRow, standIns := [], harness := (true, "bf4c40c1f00effd6a30992f5b113f7095f5c478138ee8815c34ca87f5007e8aa"), looks := true }, kinds := [], alts := [], laidByText := true, laidKinds := [.handle], laidTests := true, laidLooks := .later }
def CallsPollsUptoCardSaid : Prop := Claim7.holds Tryz.pinned (.plain (OpenSpec.upto callsPollsSpec)) callsPollsUptoCard

/-- THE SECOND FORM's CARD OF 'bellwetherlaw24.CallsPublish'. -/
def callsPublishUptoCard : Claim7 := { stood := { row := callsPublishUptoRow, standIns := [], harness := (true, "bf4c40c1f00effd6a30992f5b113f7095f5c478138ee8815c34ca87f5007e8aa"), looks := true }, kinds := [], alts := [], laidByText := true, laidKinds := [.handle], laidTests := true, laidLooks := .later }
def CallsPublishUptoCardSaid : Prop := Claim7.holds Tryz.pinned (.plain (OpenSpec.upto callsPublishSpec)) callsPublishUptoCard

/-- THE SECOND FORM's CARD OF 'bellwetherlaw24.CallsAlone'. -/
def callsAloneUptoCard : Claim7 := { stood := { row := callsAloneUptoRow, standIns := [], harness := (true, "bf4c40c1f00effd6a30992f5b113f7095f5c478138ee8815c34ca87f5007e8aa"), looks := true }, kinds := [], alts := [], laidByText := true, laidKinds := [.handle], laidTests := true, laidLooks := .later }
def CallsAloneUptoCardSaid : Prop := Claim7.holds Tryz.pinned (.plain (OpenSpec.upto callsAloneSpec)) callsAloneUptoCard

/-- THE SECOND FORM's CARD OF 'bellwetherlaw24.CallsSubs'. -/
def callsSubsUptoCard : Claim7 := { stood := { row := callsSubsUptoRow, standIns := [], harness := (true, "bf4c40c1f00effd6a30992f5b113f7095f5c478138ee8815c34ca87f5007e8aa"), looks := true }, kinds := [], alts := [], laidByText := true, laidKinds := [.handle], laidTests := true, laidLooks := .later }
def CallsSubsUptoCardSaid : Prop := Claim7.holds Tryz.pinned (.plain (OpenSpec.upto callsSubsSpec)) callsSubsUptoCard

/-- THE SECOND FORM's CARD OF 'bellwetherlaw24.CallsExact'. -/
def callsExactUptoCard : Claim7 := { stood := { row := callsExactUptoRow, standIns := [], harness := (true, "bf4c40c1f00effd6a30992f5b113f7095f5c478138ee8815c34ca87f5007e8aa"), looks := true }, kinds := [], alts := [], laidByText := true, laidKinds := [.handle], laidTests := true, laidLooks := .later }
def CallsExactUptoCardSaid : Prop := Claim7.holds Tryz.pinned (.plain (OpenSpec.upto callsExactSpec)) callsExactUptoCard

/-- THE SECOND FORM's CARD OF 'bellwetherlaw24.CallsRight'. -/
def callsRightUptoCard : Claim7 := { stood := { row := callsRightUptoRow, standIns := [], harness := (true, "bf4c40c1f00effd6a30992f5b113f7095f5c478138ee8815c34ca87f5007e8aa"), looks := true }, kinds := [], alts := [], laidByText := true, laidKinds := [.handle], laidTests := true, laidLooks := .later }
def CallsRightUptoCardSaid : Prop := Claim7.holds Tryz.pinned (.plain (OpenSpec.upto callsRightSpec)) callsRightUptoCard
end Rows
end Go.Proofs.YtjolhiejojfkkaaGreatDoor
