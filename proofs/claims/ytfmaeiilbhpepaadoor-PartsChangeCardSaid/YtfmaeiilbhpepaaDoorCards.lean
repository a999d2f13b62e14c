/-
  DERIVED. GIVEN WITH THE SEED: THE CARDS: each row of YtfmaeiilbhpepaaDoorRows.lean that lists a variable, with what it lists TIED to the program's text (the seventh form; the later family's looks); each row that meets fmt, with fmt's text TOLD by the authors' own Lean function (tested against real Go, not proved from fmt's source: count such statements apart). THE CARD IS WHAT COUNTS. Prove the row's statement (the work); the ties are given (YtfmaeiilbhpepaaDoorTie.lean); close each card by the builder's one call (the guide's Derived/Test/ToyasCard.lean, 'card_holds'). Laid BY PROGRAM, IN A SANDBOX (cutbox-door.mjs). By AI agents, Wed Nov 11 2026. No macro, syntax, notation, axiom, sorry.
-/
import Derived.Test.YtfmaeiilbhpepaaDoorRows
import GoSem.ClaimSeven
namespace Go.Proofs.YtfmaeiilbhpepaaDoor
namespace Rows

/-- THE TIED CARD OF 'keyholdlaw.Names'. -/
def namesCard : Claim7 := { stood := { row := namesRow, standIns := [], harness := (true, "50259b477bce9038f419d339a4af7868793bcb6fe799780e20f62995f1493973"), looks := true }, kinds := [], alts := [], laidByText := true, laidKinds := [.handle], laidTests := true, laidLooks := .later }
def NamesCardSaid : Prop := Claim7.holds Tryd.pinned (.plain (OpenSpec.ofChange namesSpec)) namesCard

/-- THE TIED CARD OF 'keyholdlaw.IsaSays'. -/
def isaSaysCard : Claim7 := { stood := { row := isaSaysRow, standIns := [], harness := (true, "50259b477bce9038f419d339a4af7868793bcb6fe799780e20f62995f1493973"), looks := true }, kinds := [], alts := [], laidByText := true, laidKinds := [.handle, .data], laidTests := true, laidLooks := .later }
def IsaSaysCardSaid : Prop := Claim7.holds Tryd.pinned (.plain (OpenSpec.ofChange isaSaysSpec)) isaSaysCard

/-- THE TIED CARD OF 'keyholdlaw.WordSays'. -/
def wordSaysCard : Claim7 := { stood := { row := wordSaysRow, standIns := [], harness := (true, "50259b477bce9038f419d339a4af7868793bcb6fe799780e20f62995f1493973"), looks := true }, kinds := [], alts := [], laidByText := true, laidKinds := [.handle], laidTests := true, laidLooks := .later }
def WordSaysCardSaid : Prop := Claim7.holds Tryd.pinned (.plain (OpenSpec.ofChange wordSaysSpec)) wordSaysCard

/-- THE TIED CARD OF 'keyholdlaw.CpuSteps'. -/
def cpuStepsCard : Claim7 := { stood := { row := cpuStepsRow, standIns := [], harness := (true, "50259b477bce9038f419d339a4af7868793bcb6fe799780e20f62995f1493973"), looks := true }, kinds := [], alts := [], laidByText := true, laidKinds := [.data], laidTests := true, laidLooks := .later }
def CpuStepsCardSaid : Prop := Claim7.holds Tryd.pinned (.plain (OpenSpec.ofChange cpuStepsSpec)) cpuStepsCard

/-- THE TIED CARD OF 'keyholdlaw.WorldNews'. -/
def worldNewsCard : Claim7 := { stood := { row := worldNewsRow, standIns := [], harness := (true, "50259b477bce9038f419d339a4af7868793bcb6fe799780e20f62995f1493973"), looks := true }, kinds := [], alts := [], laidByText := true, laidKinds := [.handle], laidTests := true, laidLooks := .later }
def WorldNewsCardSaid : Prop := Claim7.holds Tryd.pinned (.plain (OpenSpec.ofChange worldNewsSpec)) worldNewsCard

/-- THE TIED CARD OF 'keyholdlaw.MmuSays'. -/
def mmuSaysCard : Claim7 := { stood := { row := mmuSaysRow, standIns := [], harness := (true, "50259b477bce9038f419d339a4af7868793bcb6fe799780e20f62995f1493973"), looks := true }, kinds := [], alts := [], laidByText := true, laidKinds := [.handle], laidTests := true, laidLooks := .later }
def MmuSaysCardSaid : Prop := Claim7.holds Tryd.pinned (.plain (OpenSpec.ofChange mmuSaysSpec)) mmuSaysCard

/-- THE TIED CARD OF 'keyholdlaw.MmuMade'. -/
def mmuMadeCard : Claim7 := { stood := { row := mmuMadeRow, standIns := [], harness := (true, "50259b477bce9038f419d339a4af7868793bcb6fe799780e20f62995f1493973"), looks := true }, kinds := [], alts := [], laidByText := true, laidKinds := [.handle], laidTests := true, laidLooks := .later }
def MmuMadeCardSaid : Prop := Claim7.holds Tryd.pinned (.plain (OpenSpec.ofChange mmuMadeSpec)) mmuMadeCard

/-- THE TIED CARD OF 'keyholdlaw.IsaTexts'. -/
def isaTextsCard : Claim7 := { stood := { row := isaTextsRow, standIns := [], harness := (true, "50259b477bce9038f419d339a4af7868793bcb6fe799780e20f62995f1493973"), looks := true }, kinds := [], alts := [], laidByText := true, laidKinds := [.data, .data, .data, .handle, .data, .data], laidTests := true, laidLooks := .later }
def IsaTextsCardSaid : Prop := Claim7.holds Tryd.pinned (.plain (OpenSpec.ofChange isaTextsSpec)) isaTextsCard

/-- THE TIED CARD OF 'keyholdlaw.WorldSays'. -/
def worldSaysCard : Claim7 := { stood := { row := worldSaysRow, standIns := [], harness := (true, "50259b477bce9038f419d339a4af7868793bcb6fe799780e20f62995f1493973"), looks := true }, kinds := [], alts := [], laidByText := true, laidKinds := [.handle], laidTests := true, laidLooks := .later }
def WorldSaysCardSaid : Prop := Claim7.holds Tryd.pinned (.plain (OpenSpec.ofChange worldSaysSpec)) worldSaysCard

/-- THE TIED CARD OF 'keyholdlaw.PartsChange'. -/
def partsChangeCard : Claim7 := { stood := { row := partsChangeRow, standIns := [], harness := (true, "50259b477bce9038f419d339a4af7868793bcb6fe799780e20f62995f1493973"), looks := true }, kinds := [], alts := [], laidByText := true, laidKinds := [.handle], laidTests := true, laidLooks := .later }
def PartsChangeCardSaid : Prop := Claim7.holds Tryd.pinned (.plain (OpenSpec.ofChange partsChangeSpec)) partsChangeCard

/-- THE TIED CARD OF 'keyholdlaw.SlotsSay'. -/
def slotsSayCard : Claim7 := { stood := { row := slotsSayRow, standIns := [], harness := (true, "50259b477bce9038f419d339a4af7868793bcb6fe799780e20f62995f1493973"), looks := true }, kinds := [], alts := [], laidByText := true, laidKinds := [.handle], laidTests := true, laidLooks := .later }
def SlotsSayCardSaid : Prop := Claim7.holds Tryd.pinned (.plain (OpenSpec.ofChange slotsSaySpec)) slotsSayCard

/-- THE SECOND FORM's CARD OF 'keyholdlaw.Names'. -/
def namesUptoCard : Claim7 := { stood := { row := namesUptoRow, standIns := [], harness := (true, "50259b477bce9038f419d339a4af7868793bcb6fe799780e20f62995f1493973"), looks := true }, kinds := [], alts := [], laidByText := true, laidKinds := [.handle], laidTests := true, laidLooks := .later }
def NamesUptoCardSaid : Prop := Claim7.holds Tryd.pinned (.plain (OpenSpec.upto namesSpec)) namesUptoCard

/-- THE SECOND FORM's CARD OF 'keyholdlaw.IsaSays'. -/
def isaSaysUptoCard : Claim7 := { stood := { row := isaSaysUptoRow, standIns := [], harness := (true, "50259b477bce9038f419d339a4af7868793bcb6fe799780e20f62995f1493973"), looks := true }, kinds := [], alts := [], laidByText := true, laidKinds := [.handle, .data], laidTests := true, laidLooks := .later }
def IsaSaysUptoCardSaid : Prop := Claim7.holds Tryd.pinned (.plain (OpenSpec.upto isaSaysSpec)) isaSaysUptoCard

/-- THE SECOND FORM's CARD OF 'keyholdlaw.WordSays'. -/
def wordSaysUptoCard : Claim7 := { stood := { row := wordSaysUptoRow, standIns := [], harness := (true, "50259b477bce9038f419d339a4af7868793bcb6fe799780e20f62995f1493973"), looks := true }, kinds := [], alts := [], laidByText := true, laidKinds := [.handle], laidTests := true, laidLooks := .later }
def WordSaysUptoCardSaid : Prop := Claim7.holds Tryd.pinned (.plain (OpenSpec.upto wordSaysSpec)) wordSaysUptoCard

/-- THE SECOND FORM's CARD OF 'keyholdlaw.CpuSteps'. -/
def cpuStepsUptoCard : Claim7 := { stood := { row := cpuStepsUptoRow, standIns := [], harness := (true, "50259b477bce9038f419d339a4af7868793bcb6fe799780e20f62995f1493973"), looks := true }, kinds := [], alts := [], laidByText := true, laidKinds := [.data], laidTests := true, laidLooks := .later }
def CpuStepsUptoCardSaid : Prop := Claim7.holds Tryd.pinned (.plain (OpenSpec.upto cpuStepsSpec)) cpuStepsUptoCard

/-- THE SECOND FORM's CARD OF 'keyholdlaw.WorldNews'. -/
def worldNewsUptoCard : Claim7 := { stood := { row := worldNewsUptoRow, standIns := [], harness := (true, "50259b477bce9038f419d339a4af7868793bcb6fe799780e20f62995f1493973"), looks := true }, kinds := [], alts := [], laidByText := true, laidKinds := [.handle], laidTests := true, laidLooks := .later }
def WorldNewsUptoCardSaid : Prop := Claim7.holds Tryd.pinned (.plain (OpenSpec.upto worldNewsSpec)) worldNewsUptoCard

/-- THE SECOND FORM's CARD OF 'keyholdlaw.MmuSays'. -/
def mmuSaysUptoCard : Claim7 := { stood := { row := mmuSaysUptoRow, standIns := [], harness := (true, "50259b477bce9038f419d339a4af7868793bcb6fe799780e20f62995f1493973"), looks := true }, kinds := [], alts := [], laidByText := true, laidKinds := [.handle], laidTests := true, laidLooks := .later }
def MmuSaysUptoCardSaid : Prop := Claim7.holds Tryd.pinned (.plain (OpenSpec.upto mmuSaysSpec)) mmuSaysUptoCard

/-- THE SECOND FORM's CARD OF 'keyholdlaw.MmuMade'. -/
def mmuMadeUptoCard : Claim7 := { stood := { row := mmuMadeUptoRow, standIns := [], harness := (true, "50259b477bce9038f419d339a4af7868793bcb6fe799780e20f62995f1493973"), looks := true }, kinds := [], alts := [], laidByText := true, laidKinds := [.handle], laidTests := true, laidLooks := .later }
def MmuMadeUptoCardSaid : Prop := Claim7.holds Tryd.pinned (.plain (OpenSpec.upto mmuMadeSpec)) mmuMadeUptoCard

/-- THE SECOND FORM's CARD OF 'keyholdlaw.IsaTexts'. -/
def isaTextsUptoCard : Claim7 := { stood := { row := isaTextsUptoRow, standIns := [], harness := (true, "50259b477bce9038f419d339a4af7868793bcb6fe799780e20f62995f1493973"), looks := true }, kinds := [], alts := [], laidByText := true, laidKinds := [.data, .data, .data, .handle, .data, .data], laidTests := true, laidLooks := .later }
def IsaTextsUptoCardSaid : Prop := Claim7.holds Tryd.pinned (.plain (OpenSpec.upto isaTextsSpec)) isaTextsUptoCard

/-- THE SECOND FORM's CARD OF 'keyholdlaw.WorldSays'. -/
def worldSaysUptoCard : Claim7 := { stood := { row := worldSaysUptoRow, standIns := [], harness := (true, "50259b477bce9038f419d339a4af7868793bcb6fe799780e20f62995f1493973"), looks := true }, kinds := [], alts := [], laidByText := true, laidKinds := [.handle], laidTests := true, laidLooks := .later }
def WorldSaysUptoCardSaid : Prop := Claim7.holds Tryd.pinned (.plain (OpenSpec.upto worldSaysSpec)) worldSaysUptoCard

/-- THE SECOND FORM's CARD OF 'keyholdlaw.PartsChange'. -/
def partsChangeUptoCard : Claim7 := { stood := { row := partsChangeUptoRow, standIns := [], harness := (true, "50259b477bce9038f419d339a4af7868793bcb6fe799780e20f62995f1493973"), looks := true }, kinds := [], alts := [], laidByText := true, laidKinds := [.handle], laidTests := true, laidLooks := .later }
def PartsChangeUptoCardSaid : Prop := Claim7.holds Tryd.pinned (.plain (OpenSpec.upto partsChangeSpec)) partsChangeUptoCard

/-- THE SECOND FORM's CARD OF 'keyholdlaw.SlotsSay'. -/
def slotsSayUptoCard : Claim7 := { stood := { row := slotsSayUptoRow, standIns := [], harness := (true, "50259b477bce9038f419d339a4af7868793bcb6fe799780e20f62995f1493973"), looks := true }, kinds := [], alts := [], laidByText := true, laidKinds := [.handle], laidTests := true, laidLooks := .later }
def SlotsSayUptoCardSaid : Prop := Claim7.holds Tryd.pinned (.plain (OpenSpec.upto slotsSaySpec)) slotsSayUptoCard
end Rows
end Go.Proofs.YtfmaeiilbhpepaaDoor
