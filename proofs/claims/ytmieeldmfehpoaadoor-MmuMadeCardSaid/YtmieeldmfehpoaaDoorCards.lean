/-
  DERIVED. GIVEN WITH THE SEED: THE CARDS: each row of YtmieeldmfehpoaaDoorRows.lean that lists a variable, with what it lists TIED to the program's text (the seventh form; the later family's looks); each row that meets fmt, with fmt's text TOLD by the authors' own Lean function (tested against real Go, not proved from fmt's source: count such statements apart). THE CARD IS WHAT COUNTS. Prove the row's statement (the work); the ties are given (YtmieeldmfehpoaaDoorTie.lean); close each card by the builder's one call (the guide's Derived/Test/ToyasCard.lean, 'card_holds'). Laid BY PROGRAM, IN A SANDBOX (cutbox-door.mjs). By AI agents, Wed Nov 11 2026. No macro, syntax, notation, axiom, sorry.
-/
import Derived.Test.YtmieeldmfehpoaaDoorRows
import GoSem.ClaimSeven
namespace Go.Proofs.YtmieeldmfehpoaaDoor
namespace Rows

/-- THE TIED CARD OF 'keyholdlaw.MmuSays'. -/
def mmuSaysCard : Claim7 := { stood := { row := mmuSaysRow, standIns := [], harness := (true, "d435733ff39188125d89d00c01d1c47c360398dc5093bcc0bd08d37e6537a04c"), looks := true }, kinds := [], alts := [], laidByText := true, laidKinds := [.handle], laidTests := true, laidLooks := .later }
def MmuSaysCardSaid : Prop := Claim7.holds Tryd.pinned (.plain (OpenSpec.ofChange mmuSaysSpec)) mmuSaysCard

/-- THE TIED CARD OF 'keyholdlaw.MmuMade'. -/
def mmuMadeCard : Claim7 := { stood := { row := mmuMadeRow, standIns := [], harness := (true, "d435733ff39188125d89d00c01d1c47c360398dc5093bcc0bd08d37e6537a04c"), looks := true }, kinds := [], alts := [], laidByText := true, laidKinds := [.handle], laidTests := true, laidLooks := .later }
def MmuMadeCardSaid : Prop := Claim7.holds Tryd.pinned (.plain (OpenSpec.ofChange mmuMadeSpec)) mmuMadeCard

/-- THE SECOND FORM's CARD OF 'keyholdlaw.MmuSays'. -/
def mmuSaysUptoCard : Claim7 := { stood := { row := mmuSaysUptoRow, standIns := [], harness := (true, "d435733ff39188125d89d00c01d1c47c360398dc5093bcc0bd08d37e6537a04c"), looks := true }, kinds := [], alts := [], laidByText := true, laidKinds := [.handle], laidTests := true, laidLooks := .later }
def MmuSaysUptoCardSaid : Prop := Claim7.holds Tryd.pinned (.plain (OpenSpec.upto mmuSaysSpec)) mmuSaysUptoCard

/-- THE SECOND FORM's CARD OF 'keyholdlaw.MmuMade'. -/
def mmuMadeUptoCard : Claim7 := { stood := { row := mmuMadeUptoRow, standIns := [], harness := (true, "d435733ff39188125d89d00c01d1c47c360398dc5093bcc0bd08d37e6537a04c"), looks := true }, kinds := [], alts := [], laidByText := true, laidKinds := [.handle], laidTests := true, laidLooks := .later }
def MmuMadeUptoCardSaid : Prop := Claim7.holds Tryd.pinned (.plain (OpenSpec.upto mmuMadeSpec)) mmuMadeUptoCard
end Rows
end Go.Proofs.YtmieeldmfehpoaaDoor
