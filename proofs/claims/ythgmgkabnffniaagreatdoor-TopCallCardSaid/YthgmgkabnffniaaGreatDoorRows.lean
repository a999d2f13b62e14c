/-
  NARROWER THAN 'FOR EVERY INPUT', by the rows' own cells (each row's printed sentence says how): TopBell: laid · TopCall: laid.
  DERIVED. THE GIVEN ROWS OF THIS SEAT. 2 by the template 'for every input the law returns true; each argument reads behind the call as it read before'; 0 by the template 'total and deterministic' (their statements: YthgmgkabnffniaaGreatDoorTotals.lean).
  GIVEN WITH THE SEED: the statements are not yours to turn. If you find one false, say at which input.
  Laid BY PROGRAM, IN A SANDBOX (cutbox-rows.mjs): the forced cells as the released guide's own fill.sh prints them over the translation 2201e2f375e5fe41… (all of the seat's roots in one cut). By AI agents, Wed Nov 11 2026. No macro, syntax, notation, axiom, sorry.
-/
import Derived.Test.YthgmgkabnffniaaGreatDoorChecked
import GoSem.Claim
import GoSem.ClaimJoined
import GoSem.ClaimMapViews
import Derived.JoinedTies
import Derived.KernelRfl
namespace Go.Proofs.YthgmgkabnffniaaGreatDoor
/- THE CELL 'sum', in the pinned program and in every row, IS THE sha256 OF THE DUMP (.gsa) THAT YthgmgkabnffniaaGreatDoorProg.lean LOADS. Nothing in Lean hashes anything: it is a label: what it is worth is what the hold of that sum in a sandbox is worth. -/
noncomputable def Tryz.pinned : Pinned := { name := "ythgmgkabnffniaagreatdoor", sum := "2201e2f375e5fe41b1546fb4e13b24ec453c92cc5783cd00146d620ead769569", checked := Tryz.checked }
namespace Rows
def none {H : Type} : Left H := { results := [], args := [] }

/- WHAT THE LISTED PACKAGE-LEVEL VARIABLES READ AS WHEN THE CALL BEGINS. Each datum BY PROGRAM (the guide's laid-datum.mjs) off the statement by which the dump's own 'gosem.cut.vars' lays the variable. In a bare row this is a premise. The card (YthgmgkabnffniaaGreatDoorCards.lean) ties it to the program's text. -/
def laid_keyhold_keyholdref_names {H : Type} : DataW H := .slice [.lit (.string [104, 97, 108, 116]), .lit (.string [115, 101, 116]), .lit (.string [109, 111, 118]), .lit (.string [97, 100, 100]), .lit (.string [115, 117, 98]), .lit (.string [109, 117, 108]), .lit (.string [97, 110, 100]), .lit (.string [111, 114]), .lit (.string [120, 111, 114]), .lit (.string [108, 101, 115, 115]), .lit (.string [108, 111, 97, 100]), .lit (.string [115, 116, 111, 114, 101]), .lit (.string [106, 117, 109, 112]), .lit (.string [122, 101, 114, 111]), .lit (.string [115, 121, 115])] []
def laid_keyhold_keyholdref_kindNames {H : Type} : DataW H := .slice [.lit (.string [112, 97, 103, 101]), .lit (.string [116, 97, 98, 108, 101]), .lit (.string [115, 112, 97, 99, 101]), .lit (.string [110, 111, 100, 101]), .lit (.string [116, 97, 115, 107]), .lit (.string [100, 111, 111, 114]), .lit (.string [98, 101, 108, 108])] []
def laid_errors_errorType {H : Type} : DataW H := .iface "internal/reflectlite.rtype" (.agg [.ptr (.lit (.string [101, 114, 114, 111, 114]))])

/-- 'keyholdtop.TopBell': WHATEVER THE INPUT: true; the input reads as it did. -/
def topBellSpec : ChangeSpec := { name := "topBell", fn := fun _ => fun
  | [d1, d2, d3] => { results := [.lit (.bool true)], args := [d1, d2, d3] }
  | _ => none }
def topBellRow : OpenClaim := { program := "ythgmgkabnffniaagreatdoor", sum := "2201e2f375e5fe41b1546fb4e13b24ec453c92cc5783cd00146d620ead769569", func := "keyhold/keyholdtop.TopBell", spec := "topBell", unfollowed := true, recurses := true, named := ["keyhold/keyholdref.names", "keyhold/keyholdref.kindNames"], apart := false, laid := [("keyhold/keyholdref.names", laid_keyhold_keyholdref_names), ("keyhold/keyholdref.kindNames", laid_keyhold_keyholdref_kindNames)] }
def TopBellSaid : Prop := topBellRow.holds Tryz.pinned (OpenSpec.ofChange topBellSpec)

/-- ITS FALSE NEIGHBOUR: 'it returns false'. Refute it at one input. -/
def topBellWrong : ChangeSpec := { name := "topBell", fn := fun _ => fun
  | [d1, d2, d3] => { results := [.lit (.bool false)], args := [d1, d2, d3] }
  | _ => none }
def TopBellWrongFalsely : Prop := topBellRow.holds Tryz.pinned (OpenSpec.ofChange topBellWrong)

/-- 'keyholdtop.TopCall': WHATEVER THE INPUT: true; the input reads as it did. -/
def topCallSpec : ChangeSpec := { name := "topCall", fn := fun _ => fun
  | [d1, d2, d3, d4, d5] => { results := [.lit (.bool true)], args := [d1, d2, d3, d4, d5] }
  | _ => none }
def topCallRow : OpenClaim := { program := "ythgmgkabnffniaagreatdoor", sum := "2201e2f375e5fe41b1546fb4e13b24ec453c92cc5783cd00146d620ead769569", func := "keyhold/keyholdtop.TopCall", spec := "topCall", inPlace := ["internal/reflectlite.ValueOf", "(internal/reflectlite.Value).Type", "(internal/reflectlite.Value).IsNil", "internal/reflectlite.TypeOf", "(internal/reflectlite.Value).Elem", "(internal/reflectlite.Value).Set"], unfollowed := true, recurses := true, named := ["keyhold/keyholdref.names", "keyhold/keyholdref.kindNames", "errors.errorType"], apart := false, laid := [("errors.errorType", laid_errors_errorType), ("keyhold/keyholdref.names", laid_keyhold_keyholdref_names), ("keyhold/keyholdref.kindNames", laid_keyhold_keyholdref_kindNames)] }
def TopCallSaid : Prop := topCallRow.holds Tryz.pinned (OpenSpec.ofChange topCallSpec)

/-- ITS FALSE NEIGHBOUR: 'it returns false'. Refute it at one input. -/
def topCallWrong : ChangeSpec := { name := "topCall", fn := fun _ => fun
  | [d1, d2, d3, d4, d5] => { results := [.lit (.bool false)], args := [d1, d2, d3, d4, d5] }
  | _ => none }
def TopCallWrongFalsely : Prop := topCallRow.holds Tryz.pinned (OpenSpec.ofChange topCallWrong)

/- THE SECOND FORM. 'bulk': how many values and letters a reading holds, each counted each time it is reached (what is shared counts as often as it is met; a slice's spare places count too). A statement '..UptoSaid' is the law's where the arguments, and the package variables that the reading takes, are together of bulk at most 1048576: NARROWER than '..Said'. Prove '..Said' where nothing that the law and all that it calls make is longer than what came in: it says more and counts as full. Else prove '..UptoSaid'. A law counts once. -/
mutual
def uptoBulk {H : Type} : DataW H → Nat
  | .lit (.string bytes) => bytes.length + 1
  | .lit _ => 1
  | .nil => 1
  | .ptr d => uptoBulk d + 1
  | .slice elems spare => uptoBulkAll elems + uptoBulkAll spare + 1
  | .agg parts => uptoBulkAll parts + 1
  | .iface _ d => uptoBulk d + 1
  | .map entries => uptoBulkEntries entries + 1
  | .held _ => 1
def uptoBulkAll {H : Type} : List (DataW H) → Nat
  | [] => 0
  | d :: r => uptoBulk d + uptoBulkAll r
def uptoBulkEntries {H : Type} : List (Lit × DataW H) → Nat
  | [] => 0
  | x :: r => uptoBulkEntry x + uptoBulkEntries r
def uptoBulkEntry {H : Type} : Lit × DataW H → Nat
  | (.string bytes, d) => bytes.length + uptoBulk d + 1
  | (_, d) => uptoBulk d + 1
 end
def uptoSmall : (H : Type) → List (DataW H) → Bool := fun _ ds => decide (uptoBulkAll ds ≤ 1048576)
def OpenSpec.upto (s : _root_.Go.ChangeSpec) : _root_.Go.OpenSpec := { _root_.Go.OpenSpec.ofChange s with cond := some uptoSmall }

/-- 'keyholdtop.TopBell', WHERE WHAT IT READS IS OF BULK AT MOST 1048576: true; the input reads as it did. -/
def topBellUptoRow : OpenClaim := { program := "ythgmgkabnffniaagreatdoor", sum := "2201e2f375e5fe41b1546fb4e13b24ec453c92cc5783cd00146d620ead769569", func := "keyhold/keyholdtop.TopBell", spec := "topBell", unfollowed := true, recurses := true, named := ["keyhold/keyholdref.names", "keyhold/keyholdref.kindNames"], apart := false, laid := [("keyhold/keyholdref.names", laid_keyhold_keyholdref_names), ("keyhold/keyholdref.kindNames", laid_keyhold_keyholdref_kindNames)], narrowed := true }
def TopBellUptoSaid : Prop := topBellUptoRow.holds Tryz.pinned (OpenSpec.upto topBellSpec)

/-- 'keyholdtop.TopCall', WHERE WHAT IT READS IS OF BULK AT MOST 1048576: true; the input reads as it did. -/
def topCallUptoRow : OpenClaim := { program := "ythgmgkabnffniaagreatdoor", sum := "2201e2f375e5fe41b1546fb4e13b24ec453c92cc5783cd00146d620ead769569", func := "keyhold/keyholdtop.TopCall", spec := "topCall", inPlace := ["internal/reflectlite.ValueOf", "(internal/reflectlite.Value).Type", "(internal/reflectlite.Value).IsNil", "internal/reflectlite.TypeOf", "(internal/reflectlite.Value).Elem", "(internal/reflectlite.Value).Set"], unfollowed := true, recurses := true, named := ["keyhold/keyholdref.names", "keyhold/keyholdref.kindNames", "errors.errorType"], apart := false, laid := [("errors.errorType", laid_errors_errorType), ("keyhold/keyholdref.names", laid_keyhold_keyholdref_names), ("keyhold/keyholdref.kindNames", laid_keyhold_keyholdref_kindNames)], narrowed := true }
def TopCallUptoSaid : Prop := topCallUptoRow.holds Tryz.pinned (OpenSpec.upto topCallSpec)

end Rows
end Go.Proofs.YthgmgkabnffniaaGreatDoor
