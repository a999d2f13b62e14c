/-
  DERIVED. GIVEN WITH THE SEED: THE CARDS: each row of YtbngaammbjaajaaGreatDoorRows.lean that lists a variable, with what it lists TIED to the program's text (the seventh form; the later family's looks); each row that meets fmt, with fmt's text TOLD by the authors' own Lean function (tested against real Go, not proved from fmt's source: count such statements apart). THE CARD IS WHAT COUNTS. Prove the row's statement (the work); the ties are given (YtbngaammbjaajaaGreatDoorTie.lean); close each card by the builder's one call (the guide's Derived/Test/ToyasCard.lean, 'card_holds'). Laid BY PROGRAM, IN A SANDBOX (cutbox-door.mjs). By AI agents, Wed Nov 11 2026. No macro, syntax, notation, axiom, sorry.
-/
import Derived.Test.YtbngaammbjaajaaGreatDoorRows
import GoSem.ClaimSeven
namespace Go.Proofs.YtbngaammbjaajaaGreatDoor
namespace Rows

/-- THE TIED CARD OF 'keyholdlaw.PartsSay'. -/
def partsSayCard : Claim7 := { stood := { row := partsSayRow, standIns := [], harness := (true, "f9290cddfaf47731e0108763cc9691a1e9dd71de1a323790ce390f7e562d6fa4"), looks := true }, kinds := [], alts := [], laidByText := true, laidKinds := [.handle], laidTests := true, laidLooks := .later }
def PartsSayCardSaid : Prop := Claim7.holds Tryz.pinned (.plain (OpenSpec.ofChange partsSaySpec)) partsSayCard

/-- THE SECOND FORM's CARD OF 'keyholdlaw.PartsSay'. -/
def partsSayUptoCard : Claim7 := { stood := { row := partsSayUptoRow, standIns := [], harness := (true, "f9290cddfaf47731e0108763cc9691a1e9dd71de1a323790ce390f7e562d6fa4"), looks := true }, kinds := [], alts := [], laidByText := true, laidKinds := [.handle], laidTests := true, laidLooks := .later }
def PartsSayUptoCardSaid : Prop := Claim7.holds Tryz.pinned (.plain (OpenSpec.upto partsSaySpec)) partsSayUptoCard
end Rows
end Go.Proofs.YtbngaammbjaajaaGreatDoor
