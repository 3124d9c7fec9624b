/-
  DERIVED. GIVEN WITH THE SEED: THE CARDS: each row of YthpnjlaaannaaaaGreatDoorRows.lean that lists a variable, with what it lists TIED to the program's text (the seventh form; the later family's looks); each row that meets fmt, with fmt's text TOLD by the authors' own Lean function (tested against real Go, not proved from fmt's source: count such statements apart). THE CARD IS WHAT COUNTS. Prove the row's statement (the work); the ties are given (YthpnjlaaannaaaaGreatDoorTie.lean); close each card by the builder's one call (the guide's Derived/Test/ToyasCard.lean, 'card_holds'). Laid BY PROGRAM, IN A SANDBOX (cutbox-door.mjs). By AI agents, Wed Nov 11 2026. No macro, syntax, notation, axiom, sorry.
-/
import Derived.Test.YthpnjlaaannaaaaGreatDoorRows
import GoSem.ClaimSeven
namespace Go.Proofs.YthpnjlaaannaaaaGreatDoor
namespace Rows

/-- THE TIED CARD OF 'bellwetherlaw21.CastCalls'. -/
def castCallsCard : Claim7 := { stood := { row := castCallsRow, standIns := [], harness := (true, "4bd87573eeb22c743326f309f2bcd0a6f0dafecc52b8d232b74fbad6ba4b3b99"), looks := true }, kinds := [], alts := [], laidByText := true, laidKinds := [.handle], laidTests := true, laidLooks := .later }
def CastCallsCardSaid : Prop := Claim7.holds Tryz.pinned (.plain (OpenSpec.ofChange castCallsSpec)) castCallsCard

/-- THE TIED CARD OF 'bellwetherlaw21.CastOnce'. -/
def castOnceCard : Claim7 := { stood := { row := castOnceRow, standIns := [], harness := (true, "4bd87573eeb22c743326f309f2bcd0a6f0dafecc52b8d232b74fbad6ba4b3b99"), looks := true }, kinds := [], alts := [], laidByText := true, laidKinds := [.handle], laidTests := true, laidLooks := .later }
def CastOnceCardSaid : Prop := Claim7.holds Tryz.pinned (.plain (OpenSpec.ofChange castOnceSpec)) castOnceCard

/-- THE TIED CARD OF 'bellwetherlaw21.CastHeard'. -/
def castHeardCard : Claim7 := { stood := { row := castHeardRow, standIns := [], harness := (true, "4bd87573eeb22c743326f309f2bcd0a6f0dafecc52b8d232b74fbad6ba4b3b99"), looks := true }, kinds := [], alts := [], laidByText := true, laidKinds := [.handle], laidTests := true, laidLooks := .later }
def CastHeardCardSaid : Prop := Claim7.holds Tryz.pinned (.plain (OpenSpec.ofChange castHeardSpec)) castHeardCard

/-- THE TIED CARD OF 'bellwetherlaw21.CastWalk'. -/
def castWalkCard : Claim7 := { stood := { row := castWalkRow, standIns := [], harness := (true, "4bd87573eeb22c743326f309f2bcd0a6f0dafecc52b8d232b74fbad6ba4b3b99"), looks := true }, kinds := [], alts := [], laidByText := true, laidKinds := [.handle], laidTests := true, laidLooks := .later }
def CastWalkCardSaid : Prop := Claim7.holds Tryz.pinned (.plain (OpenSpec.ofChange castWalkSpec)) castWalkCard

/-- THE TIED CARD OF 'bellwetherlaw21.CastExact'. -/
def castExactCard : Claim7 := { stood := { row := castExactRow, standIns := [], harness := (true, "4bd87573eeb22c743326f309f2bcd0a6f0dafecc52b8d232b74fbad6ba4b3b99"), looks := true }, kinds := [], alts := [], laidByText := true, laidKinds := [.handle], laidTests := true, laidLooks := .later }
def CastExactCardSaid : Prop := Claim7.holds Tryz.pinned (.plain (OpenSpec.ofChange castExactSpec)) castExactCard

/-- THE SECOND FORM's CARD OF 'bellwetherlaw21.CastCalls'. -/
def castCallsUptoCard : Claim7 := { stood := { row := castCallsUptoRow, standIns := [], harness := (true, "4bd87573eeb22c743326f309f2bcd0a6f0dafecc52b8d232b74fbad6ba4b3b99"), looks := true }, kinds := [], alts := [], laidByText := true, laidKinds := [.handle], laidTests := true, laidLooks := .later }
def CastCallsUptoCardSaid : Prop := Claim7.holds Tryz.pinned (.plain (OpenSpec.upto castCallsSpec)) castCallsUptoCard

/-- THE SECOND FORM's CARD OF 'bellwetherlaw21.CastOnce'. -/
def castOnceUptoCard : Claim7 := { stood := { row := castOnceUptoRow, standIns := [], harness := (true, "4bd87573eeb22c743326f309f2bcd0a6f0dafecc52b8d232b74fbad6ba4b3b99"), looks := true }, kinds := [], alts := [], laidByText := true, laidKinds := [.handle], laidTests := true, laidLooks := .later }
def CastOnceUptoCardSaid : Prop := Claim7.holds Tryz.pinned (.plain (OpenSpec.upto castOnceSpec)) castOnceUptoCard

/-- THE SECOND FORM's CARD OF 'bellwetherlaw21.CastHeard'. -/
def castHeardUptoCard : Claim7 := { stood := { row := castHeardUptoRow, standIns := [], harness := (true, "4bd87573eeb22c743326f309f2bcd0a6f0dafecc52b8d232b74fbad6ba4b3b99"), looks := true }, kinds := [], alts := [], laidByText := true, laidKinds := [.handle], laidTests := true, laidLooks := .later }
def CastHeardUptoCardSaid : Prop := Claim7.holds Tryz.pinned (.plain (OpenSpec.upto castHeardSpec)) castHeardUptoCard

/-- THE SECOND FORM's CARD OF 'bellwetherlaw21.CastWalk'. -/
def castWalkUptoCard : Claim7 := { stood := { row := castWalkUptoRow, standIns := [], harness := (true, "4bd87573eeb22c743326f309f2bcd0a6f0dafecc52b8d232b74fbad6ba4b3b99"), looks := true }, kinds := [], alts := [], laidByText := true, laidKinds := [.handle], laidTests := true, laidLooks := .later }
def CastWalkUptoCardSaid : Prop := Claim7.holds Tryz.pinned (.plain (OpenSpec.upto castWalkSpec)) castWalkUptoCard

/-- THE SECOND FORM's CARD OF 'bellwetherlaw21.CastExact'. -/
def castExactUptoCard : Claim7 := { stood := { row := castExactUptoRow, standIns := [], harness := (true, "4bd87573eeb22c743326f309f2bcd0a6f0dafecc52b8d232b74fbad6ba4b3b99"), looks := true }, kinds := [], alts := [], laidByText := true, laidKinds := [.handle], laidTests := true, laidLooks := .later }
def CastExactUptoCardSaid : Prop := Claim7.holds Tryz.pinned (.plain (OpenSpec.upto castExactSpec)) castExactUptoCard
end Rows
end Go.Proofs.YthpnjlaaannaaaaGreatDoor
