/-
  DERIVED. GIVEN WITH THE SEED: THE CARDS: each row of YtmieeldmfehpoaaGreatDoorRows.lean that lists a variable, with what it lists TIED to the program's text (the seventh form; the later family's looks); each row that meets fmt, with fmt's text TOLD by the authors' own Lean function (tested against real Go, not proved from fmt's source: count such statements apart). THE CARD IS WHAT COUNTS. Prove the row's statement (the work); the ties are given (YtmieeldmfehpoaaGreatDoorTie.lean); close each card by the builder's one call (the guide's Derived/Test/ToyasCard.lean, 'card_holds'). Laid BY PROGRAM, IN A SANDBOX (cutbox-door.mjs). By AI agents, Wed Nov 11 2026. No macro, syntax, notation, axiom, sorry.
-/
import Derived.Test.YtmieeldmfehpoaaGreatDoorRows
import GoSem.ClaimSeven
namespace Go.Proofs.YtmieeldmfehpoaaGreatDoor
namespace Rows

/-- THE TIED CARD OF 'keyholdlaw.TreeRevokes'. -/
def treeRevokesCard : Claim7 := { stood := { row := treeRevokesRow, standIns := [], harness := (true, "61f4a901106f27ab13a1daa8b380d0d94d751f29af5fc3cbe13881cecd7674e3"), looks := true }, kinds := [], alts := [], laidByText := true, laidKinds := [.handle], laidTests := true, laidLooks := .later }
def TreeRevokesCardSaid : Prop := Claim7.holds Tryz.pinned (.plain (OpenSpec.ofChange treeRevokesSpec)) treeRevokesCard

/-- THE SECOND FORM's CARD OF 'keyholdlaw.TreeRevokes'. -/
def treeRevokesUptoCard : Claim7 := { stood := { row := treeRevokesUptoRow, standIns := [], harness := (true, "61f4a901106f27ab13a1daa8b380d0d94d751f29af5fc3cbe13881cecd7674e3"), looks := true }, kinds := [], alts := [], laidByText := true, laidKinds := [.handle], laidTests := true, laidLooks := .later }
def TreeRevokesUptoCardSaid : Prop := Claim7.holds Tryz.pinned (.plain (OpenSpec.upto treeRevokesSpec)) treeRevokesUptoCard
end Rows
end Go.Proofs.YtmieeldmfehpoaaGreatDoor
