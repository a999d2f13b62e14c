/-
  NARROWER THAN 'FOR EVERY INPUT', by the rows' own cells (each row's printed sentence says how): TopSteps: laid.
  DERIVED. THE GIVEN ROWS OF THIS SEAT. 1 by the template 'for every input the law returns true; each argument reads behind the call as it read before'; 0 by the template 'total and deterministic' (their statements: YtbngaammbjaajaaDoorTotals.lean).
  GIVEN WITH THE SEED: the statements are not yours to turn. If you find one false, say at which input.
  Laid BY PROGRAM, IN A SANDBOX (cutbox-rows.mjs): the forced cells as the released guide's own fill.sh prints them over the translation 896cb1a2c82e9d04… (all of the seat's roots in one cut). By AI agents, Wed Nov 11 2026. No macro, syntax, notation, axiom, sorry.
-/
import Derived.Test.YtbngaammbjaajaaDoorChecked
import GoSem.Claim
import GoSem.ClaimJoined
import GoSem.ClaimMapViews
import Derived.JoinedTies
import Derived.KernelRfl
namespace Go.Proofs.YtbngaammbjaajaaDoor
/- THE CELL 'sum', in the pinned program and in every row, IS THE sha256 OF THE DUMP (.gsa) THAT YtbngaammbjaajaaDoorProg.lean LOADS. Nothing in Lean hashes anything: it is a label: what it is worth is what the hold of that sum in a sandbox is worth. -/
noncomputable def Tryd.pinned : Pinned := { name := "ytbngaammbjaajaadoor", sum := "896cb1a2c82e9d04682d418d047372f838c930e480b912d827f9dad2e4593eb9", checked := Tryd.checked }
namespace Rows
def none {H : Type} : Left H := { results := [], args := [] }

/- WHAT THE LISTED PACKAGE-LEVEL VARIABLES READ AS WHEN THE CALL BEGINS. Each datum BY PROGRAM (the guide's laid-datum.mjs) off the statement by which the dump's own 'gosem.cut.vars' lays the variable. In a bare row this is a premise. The card (YtbngaammbjaajaaDoorCards.lean) ties it to the program's text. -/
def laid_keyhold_isa_shapes {H : Type} : DataW H := .agg [.agg [.lit (.string [104, 97, 108, 116]), .lit (.bool false), .lit (.bool false), .lit (.bool false)], .agg [.lit (.string [115, 101, 116]), .lit (.bool true), .lit (.bool false), .lit (.bool true)], .agg [.lit (.string [109, 111, 118]), .lit (.bool true), .lit (.bool true), .lit (.bool false)], .agg [.lit (.string [97, 100, 100]), .lit (.bool true), .lit (.bool true), .lit (.bool false)], .agg [.lit (.string [115, 117, 98]), .lit (.bool true), .lit (.bool true), .lit (.bool false)], .agg [.lit (.string [109, 117, 108]), .lit (.bool true), .lit (.bool true), .lit (.bool false)], .agg [.lit (.string [97, 110, 100]), .lit (.bool true), .lit (.bool true), .lit (.bool false)], .agg [.lit (.string [111, 114]), .lit (.bool true), .lit (.bool true), .lit (.bool false)], .agg [.lit (.string [120, 111, 114]), .lit (.bool true), .lit (.bool true), .lit (.bool false)], .agg [.lit (.string [108, 101, 115, 115]), .lit (.bool true), .lit (.bool true), .lit (.bool false)], .agg [.lit (.string [108, 111, 97, 100]), .lit (.bool true), .lit (.bool true), .lit (.bool true)], .agg [.lit (.string [115, 116, 111, 114, 101]), .lit (.bool true), .lit (.bool true), .lit (.bool true)], .agg [.lit (.string [106, 117, 109, 112]), .lit (.bool false), .lit (.bool false), .lit (.bool true)], .agg [.lit (.string [122, 101, 114, 111]), .lit (.bool true), .lit (.bool false), .lit (.bool true)], .agg [.lit (.string [115, 121, 115]), .lit (.bool false), .lit (.bool false), .lit (.bool true)]]

/-- 'keyholdtop.TopSteps': WHATEVER THE INPUT: true; the input reads as it did. -/
def topStepsSpec : ChangeSpec := { name := "topSteps", fn := fun _ => fun
  | [d1, d2, d3, d4] => { results := [.lit (.bool true)], args := [d1, d2, d3, d4] }
  | _ => none }
def topStepsRow : OpenClaim := { program := "ytbngaammbjaajaadoor", sum := "896cb1a2c82e9d04682d418d047372f838c930e480b912d827f9dad2e4593eb9", func := "keyhold/keyholdtop.TopSteps", spec := "topSteps", unfollowed := true, recurses := true, named := ["keyhold/isa.shapes"], apart := false, laid := [("keyhold/isa.shapes", laid_keyhold_isa_shapes)] }
def TopStepsSaid : Prop := topStepsRow.holds Tryd.pinned (OpenSpec.ofChange topStepsSpec)

/-- ITS FALSE NEIGHBOUR: 'it returns false'. Refute it at one input. -/
def topStepsWrong : ChangeSpec := { name := "topSteps", fn := fun _ => fun
  | [d1, d2, d3, d4] => { results := [.lit (.bool false)], args := [d1, d2, d3, d4] }
  | _ => none }
def TopStepsWrongFalsely : Prop := topStepsRow.holds Tryd.pinned (OpenSpec.ofChange topStepsWrong)

/- THE SECOND FORM. 'bulk': how many values and letters a reading holds, each counted each time it is reached (what is shared counts as often as it is met; a slice's spare places count too). A statement '..UptoSaid' is the law's where the arguments, and the package variables that the reading takes, are together of bulk at most 1048576: NARROWER than '..Said'. Prove '..Said' where nothing that the law and all that it calls make is longer than what came in: it says more and counts as full. Else prove '..UptoSaid'. A law counts once. -/
mutual
def uptoBulk {H : Type} : DataW H → Nat
  | .lit (.string bytes) => bytes.length + 1
  | .lit _ => 1
  | .nil => 1
  | .ptr d => uptoBulk d + 1
  | .slice elems spare => uptoBulkAll elems + uptoBulkAll spare + 1
  | .agg parts => uptoBulkAll parts + 1
  | .iface _ d => uptoBulk d + 1
  | .map entries => uptoBulkEntries entries + 1
  | .held _ => 1
def uptoBulkAll {H : Type} : List (DataW H) → Nat
  | [] => 0
  | d :: r => uptoBulk d + uptoBulkAll r
def uptoBulkEntries {H : Type} : List (Lit × DataW H) → Nat
  | [] => 0
  | x :: r => uptoBulkEntry x + uptoBulkEntries r
def uptoBulkEntry {H : Type} : Lit × DataW H → Nat
  | (.string bytes, d) => bytes.length + uptoBulk d + 1
  | (_, d) => uptoBulk d + 1
 end
def uptoSmall : (H : Type) → List (DataW H) → Bool := fun _ ds => decide (uptoBulkAll ds ≤ 1048576)
def OpenSpec.upto (s : _root_.Go.ChangeSpec) : _root_.Go.OpenSpec := { _root_.Go.OpenSpec.ofChange s with cond := some uptoSmall }

/-- 'keyholdtop.TopSteps', WHERE WHAT IT READS IS OF BULK AT MOST 1048576: true; the input reads as it did. -/
def topStepsUptoRow : OpenClaim := { program := "ytbngaammbjaajaadoor", sum := "896cb1a2c82e9d04682d418d047372f838c930e480b912d827f9dad2e4593eb9", func := "keyhold/keyholdtop.TopSteps", spec := "topSteps", unfollowed := true, recurses := true, named := ["keyhold/isa.shapes"], apart := false, laid := [("keyhold/isa.shapes", laid_keyhold_isa_shapes)], narrowed := true }
def TopStepsUptoSaid : Prop := topStepsUptoRow.holds Tryd.pinned (OpenSpec.upto topStepsSpec)

end Rows
end Go.Proofs.YtbngaammbjaajaaDoor
