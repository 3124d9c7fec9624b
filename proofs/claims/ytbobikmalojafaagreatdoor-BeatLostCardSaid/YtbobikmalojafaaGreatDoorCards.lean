/-
  DERIVED. GIVEN WITH THE SEED: THE CARDS: each row of YtbobikmalojafaaGreatDoorRows.lean that lists a variable, with what it lists TIED to the program's text (the seventh form; the later family's looks); each row that meets fmt, with fmt's text TOLD by the authors' own Lean function (tested against real Go, not proved from fmt's source: count such statements apart). THE CARD IS WHAT COUNTS. Prove the row's statement (the work); the ties are given (YtbobikmalojafaaGreatDoorTie.lean); close each card by the builder's one call (the guide's Derived/Test/ToyasCard.lean, 'card_holds'). Laid BY PROGRAM, IN A SANDBOX (cutbox-door.mjs). By AI agents, Wed Nov 11 2026. No macro, syntax, notation, axiom, sorry.
-/
import Derived.Test.YtbobikmalojafaaGreatDoorRows
import GoSem.ClaimSeven
namespace Go.Proofs.YtbobikmalojafaaGreatDoor
namespace Rows

/-- THE TIED CARD OF 'bellwetherlaw21.CastExact'. -/
def castExactCard : Claim7 := { stood := { row := castExactRow, standIns := [], harness := (true, "9c96838d341e26dcdeea7ad17500304895db502e24ce241086ec14f18446b29b"), looks := true }, kinds := [], alts := [], laidByText := true, laidKinds := [.handle], laidTests := true, laidLooks := .later }
def CastExactCardSaid : Prop := Claim7.holds Tryz.pinned (.plain (OpenSpec.ofChange castExactSpec)) castExactCard

/-- THE TIED CARD OF 'bellwetherlaw22.BeatExact'. -/
def beatExactCard : Claim7 := { stood := { row := beatExactRow, standIns := [], harness := (true, "9c96838d341e26dcdeea7ad17500304895db502e24ce241086ec14f18446b29b"), looks := true }, kinds := [], alts := [], laidByText := true, laidKinds := [.handle], laidTests := true, laidLooks := .later }
def BeatExactCardSaid : Prop := Claim7.holds Tryz.pinned (.plain (OpenSpec.ofChange beatExactSpec)) beatExactCard

/-- THE TIED CARD OF 'bellwetherlaw22.BeatRight'. -/
def beatRightCard : Claim7 := { stood := { row := beatRightRow, standIns := [], harness := (true, "9c96838d341e26dcdeea7ad17500304895db502e24ce241086ec14f18446b29b"), looks := true }, kinds := [], alts := [], laidByText := true, laidKinds := [.handle], laidTests := true, laidLooks := .later }
def BeatRightCardSaid : Prop := Claim7.holds Tryz.pinned (.plain (OpenSpec.ofChange beatRightSpec)) beatRightCard

/-- THE TIED CARD OF 'bellwetherlaw22.BeatTopics'. -/
def beatTopicsCard : Claim7 := { stood := { row := beatTopicsRow, standIns := [], harness := (true, "9c96838d341e26dcdeea7ad17500304895db502e24ce241086ec14f18446b29b"), looks := true }, kinds := [], alts := [], laidByText := true, laidKinds := [.handle], laidTests := true, laidLooks := .later }
def BeatTopicsCardSaid : Prop := Claim7.holds Tryz.pinned (.plain (OpenSpec.ofChange beatTopicsSpec)) beatTopicsCard

/-- THE TIED CARD OF 'bellwetherlaw22.BeatQuiet'. -/
def beatQuietCard : Claim7 := { stood := { row := beatQuietRow, standIns := [], harness := (true, "9c96838d341e26dcdeea7ad17500304895db502e24ce241086ec14f18446b29b"), looks := true }, kinds := [], alts := [], laidByText := true, laidKinds := [.handle], laidTests := true, laidLooks := .later }
def BeatQuietCardSaid : Prop := Claim7.holds Tryz.pinned (.plain (OpenSpec.ofChange beatQuietSpec)) beatQuietCard

/-- THE TIED CARD OF 'bellwetherlaw22.BeatLost'. -/
def beatLostCard : Claim7 := { stood := { row := beatLostRow, standIns := [], harness := (true, "9c96838d341e26dcdeea7ad17500304895db502e24ce241086ec14f18446b29b"), looks := true }, kinds := [], alts := [], laidByText := true, laidKinds := [.handle], laidTests := true, laidLooks := .later }
def BeatLostCardSaid : Prop := Claim7.holds Tryz.pinned (.plain (OpenSpec.ofChange beatLostSpec)) beatLostCard

/-- THE SECOND FORM's CARD OF 'bellwetherlaw21.CastExact'. -/
def castExactUptoCard : Claim7 := { stood := { row := castExactUptoRow, standIns := [], harness := (true, "9c96838d341e26dcdeea7ad17500304895db502e24ce241086ec14f18446b29b"), looks := true }, kinds := [], alts := [], laidByText := true, laidKinds := [.handle], laidTests := true, laidLooks := .later }
def CastExactUptoCardSaid : Prop := Claim7.holds Tryz.pinned (.plain (OpenSpec.upto castExactSpec)) castExactUptoCard

/-- THE SECOND FORM's CARD OF 'bellwetherlaw22.BeatExact'. -/
def beatExactUptoCard : Claim7 := { stood := { row := beatExactUptoRow, standIns := [], harness := (true, "9c96838d341e26dcdeea7ad17500304895db502e24ce241086ec14f18446b29b"), looks := true }, kinds := [], alts := [], laidByText := true, laidKinds := [.handle], laidTests := true, laidLooks := .later }
def BeatExactUptoCardSaid : Prop := Claim7.holds Tryz.pinned (.plain (OpenSpec.upto beatExactSpec)) beatExactUptoCard

/-- THE SECOND FORM's CARD OF 'bellwetherlaw22.BeatRight'. -/
def beatRightUptoCard : Claim7 := { stood := { row := beatRightUptoRow, standIns := [], harness := (true, "9c96838d341e26dcdeea7ad17500304895db502e24ce241086ec14f18446b29b"), looks := true }, kinds := [], alts := [], laidByText := true, laidKinds := [.handle], laidTests := true, laidLooks := .later }
def BeatRightUptoCardSaid : Prop := Claim7.holds Tryz.pinned (.plain (OpenSpec.upto beatRightSpec)) beatRightUptoCard

/-- THE SECOND FORM's CARD OF 'bellwetherlaw22.BeatTopics'. -/
def beatTopicsUptoCard : Claim7 := { stood := { row := beatTopicsUptoRow, standIns := [], harness := (true, "9c96838d341e26dcdeea7ad17500304895db502e24ce241086ec14f18446b29b"), looks := true }, kinds := [], alts := [], laidByText := true, laidKinds := [.handle], laidTests := true, laidLooks := .later }
def BeatTopicsUptoCardSaid : Prop := Claim7.holds Tryz.pinned (.plain (OpenSpec.upto beatTopicsSpec)) beatTopicsUptoCard

/-- THE SECOND FORM's CARD OF 'bellwetherlaw22.BeatQuiet'. -/
def beatQuietUptoCard : Claim7 := { stood := { row := beatQuietUptoRow, standIns := [], harness := (true, "9c96838d341e26dcdeea7ad17500304895db502e24ce241086ec14f18446b29b"), looks := true }, kinds := [], alts := [], laidByText := true, laidKinds := [.handle], laidTests := true, laidLooks := .later }
def BeatQuietUptoCardSaid : Prop := Claim7.holds Tryz.pinned (.plain (OpenSpec.upto beatQuietSpec)) beatQuietUptoCard

/-- THE SECOND FORM's CARD OF 'bellwetherlaw22.BeatLost'. -/
def beatLostUptoCard : Claim7 := { stood := { row := beatLostUptoRow, standIns := [], harness := (true, "9c96838d341e26dcdeea7ad17500304895db502e24ce241086ec14f18446b29b"), looks := true }, kinds := [], alts := [], laidByText := true, laidKinds := [.handle], laidTests := true, laidLooks := .later }
def BeatLostUptoCardSaid : Prop := Claim7.holds Tryz.pinned (.plain (OpenSpec.upto beatLostSpec)) beatLostUptoCard
end Rows
end Go.Proofs.YtbobikmalojafaaGreatDoor
