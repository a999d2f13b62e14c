/-
  DERIVED. GIVEN WITH THE SEED: THE CARDS: each row of YtbngaammbjaajaaDoorRows.lean that lists a variable, with what it lists TIED to the program's text (the seventh form; the later family's looks); each row that meets fmt, with fmt's text TOLD by the authors' own Lean function (tested against real Go, not proved from fmt's source: count such statements apart). THE CARD IS WHAT COUNTS. Prove the row's statement (the work); the ties are given (YtbngaammbjaajaaDoorTie.lean); close each card by the builder's one call (the guide's Derived/Test/ToyasCard.lean, 'card_holds'). Laid BY PROGRAM, IN A SANDBOX (cutbox-door.mjs). By AI agents, Wed Nov 11 2026. No macro, syntax, notation, axiom, sorry.
-/
import Derived.Test.YtbngaammbjaajaaDoorRows
import GoSem.ClaimSeven
namespace Go.Proofs.YtbngaammbjaajaaDoor
namespace Rows

/-- THE TIED CARD OF 'keyholdtop.TopSteps'. -/
def topStepsCard : Claim7 := { stood := { row := topStepsRow, standIns := [], harness := (true, "58f834f00eccd7a4fd55db0ae7ac540e340d61243665c71b51847f0fe619b5b4"), looks := false }, kinds := [], alts := [], laidByText := true, laidKinds := [.data], laidTests := true, laidLooks := .later }
def TopStepsCardSaid : Prop := Claim7.holds Tryd.pinned (.plain (OpenSpec.ofChange topStepsSpec)) topStepsCard

/-- THE SECOND FORM's CARD OF 'keyholdtop.TopSteps'. -/
def topStepsUptoCard : Claim7 := { stood := { row := topStepsUptoRow, standIns := [], harness := (true, "58f834f00eccd7a4fd55db0ae7ac540e340d61243665c71b51847f0fe619b5b4"), looks := false }, kinds := [], alts := [], laidByText := true, laidKinds := [.data], laidTests := true, laidLooks := .later }
def TopStepsUptoCardSaid : Prop := Claim7.holds Tryd.pinned (.plain (OpenSpec.upto topStepsSpec)) topStepsUptoCard
end Rows
end Go.Proofs.YtbngaammbjaajaaDoor
