/-
  DERIVED. GIVEN WITH THE SEED: THE CARDS: each row of YthgmgkabnffniaaGreatDoorRows.lean that lists a variable, with what it lists TIED to the program's text (the seventh form; the later family's looks); each row that meets fmt, with fmt's text TOLD by the authors' own Lean function (tested against real Go, not proved from fmt's source: count such statements apart). THE CARD IS WHAT COUNTS. Prove the row's statement (the work); the ties are given (YthgmgkabnffniaaGreatDoorTie.lean); close each card by the builder's one call (the guide's Derived/Test/ToyasCard.lean, 'card_holds'). Laid BY PROGRAM, IN A SANDBOX (cutbox-door.mjs). By AI agents, Wed Nov 11 2026. No macro, syntax, notation, axiom, sorry.
-/
import Derived.Test.YthgmgkabnffniaaGreatDoorRows
import GoSem.ClaimSeven
namespace Go.Proofs.YthgmgkabnffniaaGreatDoor
namespace Rows

/-- THE TIED CARD OF 'keyholdtop.TopBell'. -/
def topBellCard : Claim7 := { stood := { row := topBellRow, standIns := [], harness := (true, "c42ee81e9d219d82f57c91fcb5bcb70b15dfcc2e28491c1e85f41234fc6d6ca8"), looks := true }, kinds := [], alts := [], laidByText := true, laidKinds := [.data, .data], laidTests := true, laidLooks := .later }
def TopBellCardSaid : Prop := Claim7.holds Tryz.pinned (.plain (OpenSpec.ofChange topBellSpec)) topBellCard

/-- THE TIED CARD OF 'keyholdtop.TopCall'. -/
def topCallCard : Claim7 := { stood := { row := topCallRow, standIns := [], harness := (true, "c42ee81e9d219d82f57c91fcb5bcb70b15dfcc2e28491c1e85f41234fc6d6ca8"), looks := true }, kinds := [], alts := [], laidByText := true, laidKinds := [.handle, .data, .data], laidTests := true, laidLooks := .later }
def TopCallCardSaid : Prop := Claim7.holds Tryz.pinned (.plain (OpenSpec.ofChange topCallSpec)) topCallCard

/-- THE SECOND FORM's CARD OF 'keyholdtop.TopBell'. -/
def topBellUptoCard : Claim7 := { stood := { row := topBellUptoRow, standIns := [], harness := (true, "c42ee81e9d219d82f57c91fcb5bcb70b15dfcc2e28491c1e85f41234fc6d6ca8"), looks := true }, kinds := [], alts := [], laidByText := true, laidKinds := [.data, .data], laidTests := true, laidLooks := .later }
def TopBellUptoCardSaid : Prop := Claim7.holds Tryz.pinned (.plain (OpenSpec.upto topBellSpec)) topBellUptoCard

/-- THE SECOND FORM's CARD OF 'keyholdtop.TopCall'. -/
def topCallUptoCard : Claim7 := { stood := { row := topCallUptoRow, standIns := [], harness := (true, "c42ee81e9d219d82f57c91fcb5bcb70b15dfcc2e28491c1e85f41234fc6d6ca8"), looks := true }, kinds := [], alts := [], laidByText := true, laidKinds := [.handle, .data, .data], laidTests := true, laidLooks := .later }
def TopCallUptoCardSaid : Prop := Claim7.holds Tryz.pinned (.plain (OpenSpec.upto topCallSpec)) topCallUptoCard
end Rows
end Go.Proofs.YthgmgkabnffniaaGreatDoor
