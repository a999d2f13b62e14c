/-
  DERIVED. GIVEN WITH THE SEED: THE CARDS: each row of YtdjilaofmdhikaaGreatDoorRows.lean that lists a variable, with what it lists TIED to the program's text (the seventh form; the later family's looks); each row that meets fmt, with fmt's text TOLD by the authors' own Lean function (tested against real Go, not proved from fmt's source: count such statements apart). THE CARD IS WHAT COUNTS. Prove the row's statement (the work); the ties are given (YtdjilaofmdhikaaGreatDoorTie.lean); close each card by the builder's one call (the guide's Derived/Test/ToyasCard.lean, 'card_holds'). Laid BY PROGRAM, IN A SANDBOX (cutbox-door.mjs). By AI agents, Wed Nov 11 2026. No macro, syntax, notation, axiom, sorry.
-/
import Derived.Test.YtdjilaofmdhikaaGreatDoorRows
import GoSem.ClaimSeven
namespace Go.Proofs.YtdjilaofmdhikaaGreatDoor
namespace Rows

/-- THE TIED CARD OF 'keyholdlaw.TreeMoves'. -/
def treeMovesCard : Claim7 := { stood := { row := treeMovesRow, standIns := [], harness := (true, "13042da8f72455566a9c21ca38543c20691413617ce85731d6d1512b93895b9a"), looks := true }, kinds := [], alts := [], laidByText := true, laidKinds := [.handle], laidTests := true, laidLooks := .later }
def TreeMovesCardSaid : Prop := Claim7.holds Tryz.pinned (.plain (OpenSpec.ofChange treeMovesSpec)) treeMovesCard

/-- THE TIED CARD OF 'keyholdlaw.TreeCopies'. -/
def treeCopiesCard : Claim7 := { stood := { row := treeCopiesRow, standIns := [], harness := (true, "13042da8f72455566a9c21ca38543c20691413617ce85731d6d1512b93895b9a"), looks := true }, kinds := [], alts := [], laidByText := true, laidKinds := [.handle], laidTests := true, laidLooks := .later }
def TreeCopiesCardSaid : Prop := Claim7.holds Tryz.pinned (.plain (OpenSpec.ofChange treeCopiesSpec)) treeCopiesCard

/-- THE TIED CARD OF 'keyholdlaw.ClayMakes'. -/
def clayMakesCard : Claim7 := { stood := { row := clayMakesRow, standIns := [], harness := (true, "13042da8f72455566a9c21ca38543c20691413617ce85731d6d1512b93895b9a"), looks := true }, kinds := [], alts := [], laidByText := true, laidKinds := [.handle], laidTests := true, laidLooks := .later }
def ClayMakesCardSaid : Prop := Claim7.holds Tryz.pinned (.plain (OpenSpec.ofChange clayMakesSpec)) clayMakesCard

/-- THE TIED CARD OF 'keyholdlaw.PartsSay'. -/
def partsSayCard : Claim7 := { stood := { row := partsSayRow, standIns := [], harness := (true, "13042da8f72455566a9c21ca38543c20691413617ce85731d6d1512b93895b9a"), looks := true }, kinds := [], alts := [], laidByText := true, laidKinds := [.handle], laidTests := true, laidLooks := .later }
def PartsSayCardSaid : Prop := Claim7.holds Tryz.pinned (.plain (OpenSpec.ofChange partsSaySpec)) partsSayCard

/-- THE TIED CARD OF 'keyholdlaw.SchedPicks'. -/
def schedPicksCard : Claim7 := { stood := { row := schedPicksRow, standIns := [], harness := (true, "13042da8f72455566a9c21ca38543c20691413617ce85731d6d1512b93895b9a"), looks := true }, kinds := [], alts := [], laidByText := true, laidKinds := [.handle], laidTests := true, laidLooks := .later }
def SchedPicksCardSaid : Prop := Claim7.holds Tryz.pinned (.plain (OpenSpec.ofChange schedPicksSpec)) schedPicksCard

/-- THE TIED CARD OF 'keyholdlaw.MailSends'. -/
def mailSendsCard : Claim7 := { stood := { row := mailSendsRow, standIns := [], harness := (true, "13042da8f72455566a9c21ca38543c20691413617ce85731d6d1512b93895b9a"), looks := true }, kinds := [], alts := [], laidByText := true, laidKinds := [.handle], laidTests := true, laidLooks := .later }
def MailSendsCardSaid : Prop := Claim7.holds Tryz.pinned (.plain (OpenSpec.ofChange mailSendsSpec)) mailSendsCard

/-- THE TIED CARD OF 'keyholdlaw.MailRings'. -/
def mailRingsCard : Claim7 := { stood := { row := mailRingsRow, standIns := [], harness := (true, "13042da8f72455566a9c21ca38543c20691413617ce85731d6d1512b93895b9a"), looks := true }, kinds := [], alts := [], laidByText := true, laidKinds := [.handle], laidTests := true, laidLooks := .later }
def MailRingsCardSaid : Prop := Claim7.holds Tryz.pinned (.plain (OpenSpec.ofChange mailRingsSpec)) mailRingsCard

/-- THE TIED CARD OF 'keyholdlaw.MailTakes'. -/
def mailTakesCard : Claim7 := { stood := { row := mailTakesRow, standIns := [], harness := (true, "13042da8f72455566a9c21ca38543c20691413617ce85731d6d1512b93895b9a"), looks := true }, kinds := [], alts := [], laidByText := true, laidKinds := [.handle], laidTests := true, laidLooks := .later }
def MailTakesCardSaid : Prop := Claim7.holds Tryz.pinned (.plain (OpenSpec.ofChange mailTakesSpec)) mailTakesCard

/-- THE TIED CARD OF 'keyholdlaw.SchedTurns'. -/
def schedTurnsCard : Claim7 := { stood := { row := schedTurnsRow, standIns := [], harness := (true, "13042da8f72455566a9c21ca38543c20691413617ce85731d6d1512b93895b9a"), looks := true }, kinds := [], alts := [], laidByText := true, laidKinds := [.handle], laidTests := true, laidLooks := .later }
def SchedTurnsCardSaid : Prop := Claim7.holds Tryz.pinned (.plain (OpenSpec.ofChange schedTurnsSpec)) schedTurnsCard

/-- THE TIED CARD OF 'keyholdlaw.TreeDrops'. -/
def treeDropsCard : Claim7 := { stood := { row := treeDropsRow, standIns := [], harness := (true, "13042da8f72455566a9c21ca38543c20691413617ce85731d6d1512b93895b9a"), looks := true }, kinds := [], alts := [], laidByText := true, laidKinds := [.handle], laidTests := true, laidLooks := .later }
def TreeDropsCardSaid : Prop := Claim7.holds Tryz.pinned (.plain (OpenSpec.ofChange treeDropsSpec)) treeDropsCard

/-- THE SECOND FORM's CARD OF 'keyholdlaw.TreeMoves'. -/
def treeMovesUptoCard : Claim7 := { stood := { row := treeMovesUptoRow, standIns := [], harness := (true, "13042da8f72455566a9c21ca38543c20691413617ce85731d6d1512b93895b9a"), looks := true }, kinds := [], alts := [], laidByText := true, laidKinds := [.handle], laidTests := true, laidLooks := .later }
def TreeMovesUptoCardSaid : Prop := Claim7.holds Tryz.pinned (.plain (OpenSpec.upto treeMovesSpec)) treeMovesUptoCard

/-- THE SECOND FORM's CARD OF 'keyholdlaw.TreeCopies'. -/
def treeCopiesUptoCard : Claim7 := { stood := { row := treeCopiesUptoRow, standIns := [], harness := (true, "13042da8f72455566a9c21ca38543c20691413617ce85731d6d1512b93895b9a"), looks := true }, kinds := [], alts := [], laidByText := true, laidKinds := [.handle], laidTests := true, laidLooks := .later }
def TreeCopiesUptoCardSaid : Prop := Claim7.holds Tryz.pinned (.plain (OpenSpec.upto treeCopiesSpec)) treeCopiesUptoCard

/-- THE SECOND FORM's CARD OF 'keyholdlaw.ClayMakes'. -/
def clayMakesUptoCard : Claim7 := { stood := { row := clayMakesUptoRow, standIns := [], harness := (true, "13042da8f72455566a9c21ca38543c20691413617ce85731d6d1512b93895b9a"), looks := true }, kinds := [], alts := [], laidByText := true, laidKinds := [.handle], laidTests := true, laidLooks := .later }
def ClayMakesUptoCardSaid : Prop := Claim7.holds Tryz.pinned (.plain (OpenSpec.upto clayMakesSpec)) clayMakesUptoCard

/-- THE SECOND FORM's CARD OF 'keyholdlaw.PartsSay'. -/
def partsSayUptoCard : Claim7 := { stood := { row := partsSayUptoRow, standIns := [], harness := (true, "13042da8f72455566a9c21ca38543c20691413617ce85731d6d1512b93895b9a"), looks := true }, kinds := [], alts := [], laidByText := true, laidKinds := [.handle], laidTests := true, laidLooks := .later }
def PartsSayUptoCardSaid : Prop := Claim7.holds Tryz.pinned (.plain (OpenSpec.upto partsSaySpec)) partsSayUptoCard

/-- THE SECOND FORM's CARD OF 'keyholdlaw.SchedPicks'. -/
def schedPicksUptoCard : Claim7 := { stood := { row := schedPicksUptoRow, standIns := [], harness := (true, "13042da8f72455566a9c21ca38543c20691413617ce85731d6d1512b93895b9a"), looks := true }, kinds := [], alts := [], laidByText := true, laidKinds := [.handle], laidTests := true, laidLooks := .later }
def SchedPicksUptoCardSaid : Prop := Claim7.holds Tryz.pinned (.plain (OpenSpec.upto schedPicksSpec)) schedPicksUptoCard

/-- THE SECOND FORM's CARD OF 'keyholdlaw.MailSends'. -/
def mailSendsUptoCard : Claim7 := { stood := { row := mailSendsUptoRow, standIns := [], harness := (true, "13042da8f72455566a9c21ca38543c20691413617ce85731d6d1512b93895b9a"), looks := true }, kinds := [], alts := [], laidByText := true, laidKinds := [.handle], laidTests := true, laidLooks := .later }
def MailSendsUptoCardSaid : Prop := Claim7.holds Tryz.pinned (.plain (OpenSpec.upto mailSendsSpec)) mailSendsUptoCard

/-- THE SECOND FORM's CARD OF 'keyholdlaw.MailRings'. -/
def mailRingsUptoCard : Claim7 := { stood := { row := mailRingsUptoRow, standIns := [], harness := (true, "13042da8f72455566a9c21ca38543c20691413617ce85731d6d1512b93895b9a"), looks := true }, kinds := [], alts := [], laidByText := true, laidKinds := [.handle], laidTests := true, laidLooks := .later }
def MailRingsUptoCardSaid : Prop := Claim7.holds Tryz.pinned (.plain (OpenSpec.upto mailRingsSpec)) mailRingsUptoCard

/-- THE SECOND FORM's CARD OF 'keyholdlaw.MailTakes'. -/
def mailTakesUptoCard : Claim7 := { stood := { row := mailTakesUptoRow, standIns := [], harness := (true, "13042da8f72455566a9c21ca38543c20691413617ce85731d6d1512b93895b9a"), looks := true }, kinds := [], alts := [], laidByText := true, laidKinds := [.handle], laidTests := true, laidLooks := .later }
def MailTakesUptoCardSaid : Prop := Claim7.holds Tryz.pinned (.plain (OpenSpec.upto mailTakesSpec)) mailTakesUptoCard

/-- THE SECOND FORM's CARD OF 'keyholdlaw.SchedTurns'. -/
def schedTurnsUptoCard : Claim7 := { stood := { row := schedTurnsUptoRow, standIns := [], harness := (true, "13042da8f72455566a9c21ca38543c20691413617ce85731d6d1512b93895b9a"), looks := true }, kinds := [], alts := [], laidByText := true, laidKinds := [.handle], laidTests := true, laidLooks := .later }
def SchedTurnsUptoCardSaid : Prop := Claim7.holds Tryz.pinned (.plain (OpenSpec.upto schedTurnsSpec)) schedTurnsUptoCard

/-- THE SECOND FORM's CARD OF 'keyholdlaw.TreeDrops'. -/
def treeDropsUptoCard : Claim7 := { stood := { row := treeDropsUptoRow, standIns := [], harness := (true, "13042da8f72455566a9c21ca38543c20691413617ce85731d6d1512b93895b9a"), looks := true }, kinds := [], alts := [], laidByText := true, laidKinds := [.handle], laidTests := true, laidLooks := .later }
def TreeDropsUptoCardSaid : Prop := Claim7.holds Tryz.pinned (.plain (OpenSpec.upto treeDropsSpec)) treeDropsUptoCard
end Rows
end Go.Proofs.YtdjilaofmdhikaaGreatDoor
