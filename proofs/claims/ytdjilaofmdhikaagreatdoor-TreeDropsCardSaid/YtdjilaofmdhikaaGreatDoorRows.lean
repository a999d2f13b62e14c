/-
  NARROWER THAN 'FOR EVERY INPUT', by the rows' own cells (each row's printed sentence says how): TreeMoves: laid · TreeCopies: laid · ClayMakes: laid · PartsSay: laid · SchedPicks: laid · MailSends: laid · MailRings: laid · MailTakes: laid · SchedTurns: laid · TreeDrops: laid.
  DERIVED. THE GIVEN ROWS OF THIS SEAT. 10 by the template 'for every input the law returns true; each argument reads behind the call as it read before'; 0 by the template 'total and deterministic' (their statements: YtdjilaofmdhikaaGreatDoorTotals.lean).
  GIVEN WITH THE SEED: the statements are not yours to turn. If you find one false, say at which input.
  Laid BY PROGRAM, IN A SANDBOX (cutbox-rows.mjs): the forced cells as the released guide's own fill.sh prints them over the translation 5e35a70ac1fbbbae… (all of the seat's roots in one cut). By AI agents, Wed Nov 11 2026. No macro, syntax, notation, axiom, sorry.
-/
import Derived.Test.YtdjilaofmdhikaaGreatDoorChecked
import GoSem.Claim
import GoSem.ClaimJoined
import GoSem.ClaimMapViews
import Derived.JoinedTies
import Derived.KernelRfl
namespace Go.Proofs.YtdjilaofmdhikaaGreatDoor
/- THE CELL 'sum', in the pinned program and in every row, IS THE sha256 OF THE DUMP (.gsa) THAT YtdjilaofmdhikaaGreatDoorProg.lean LOADS. Nothing in Lean hashes anything: it is a label: what it is worth is what the hold of that sum in a sandbox is worth. -/
noncomputable def Tryz.pinned : Pinned := { name := "ytdjilaofmdhikaagreatdoor", sum := "5e35a70ac1fbbbae401b2b44468b88f6ef50c33a2cb9ea59e05c9f36eda45df2", checked := Tryz.checked }
namespace Rows
def none {H : Type} : Left H := { results := [], args := [] }

/- WHAT THE LISTED PACKAGE-LEVEL VARIABLES READ AS WHEN THE CALL BEGINS. Each datum BY PROGRAM (the guide's laid-datum.mjs) off the statement by which the dump's own 'gosem.cut.vars' lays the variable. In a bare row this is a premise. The card (YtdjilaofmdhikaaGreatDoorCards.lean) ties it to the program's text. -/
def laid_errors_errorType {H : Type} : DataW H := .iface "internal/reflectlite.rtype" (.agg [.ptr (.lit (.string [101, 114, 114, 111, 114]))])

/-- 'keyholdlaw.TreeMoves': WHATEVER THE INPUT: true; the input reads as it did. -/
def treeMovesSpec : ChangeSpec := { name := "treeMoves", fn := fun _ => fun
  | [d1, d2, d3] => { results := [.lit (.bool true)], args := [d1, d2, d3] }
  | _ => none }
def treeMovesRow : OpenClaim := { program := "ytdjilaofmdhikaagreatdoor", sum := "5e35a70ac1fbbbae401b2b44468b88f6ef50c33a2cb9ea59e05c9f36eda45df2", func := "keyhold/keyholdlaw.TreeMoves", spec := "treeMoves", inPlace := ["internal/reflectlite.ValueOf", "(internal/reflectlite.Value).Type", "(internal/reflectlite.Value).IsNil", "internal/reflectlite.TypeOf", "(internal/reflectlite.Value).Elem", "(internal/reflectlite.Value).Set"], unfollowed := true, recurses := true, named := ["errors.errorType"], apart := false, laid := [("errors.errorType", laid_errors_errorType)] }
def TreeMovesSaid : Prop := treeMovesRow.holds Tryz.pinned (OpenSpec.ofChange treeMovesSpec)

/-- ITS FALSE NEIGHBOUR: 'it returns false'. Refute it at one input. -/
def treeMovesWrong : ChangeSpec := { name := "treeMoves", fn := fun _ => fun
  | [d1, d2, d3] => { results := [.lit (.bool false)], args := [d1, d2, d3] }
  | _ => none }
def TreeMovesWrongFalsely : Prop := treeMovesRow.holds Tryz.pinned (OpenSpec.ofChange treeMovesWrong)

/-- 'keyholdlaw.TreeCopies': WHATEVER THE INPUT: true; the input reads as it did. -/
def treeCopiesSpec : ChangeSpec := { name := "treeCopies", fn := fun _ => fun
  | [d1, d2, d3, d4, d5] => { results := [.lit (.bool true)], args := [d1, d2, d3, d4, d5] }
  | _ => none }
def treeCopiesRow : OpenClaim := { program := "ytdjilaofmdhikaagreatdoor", sum := "5e35a70ac1fbbbae401b2b44468b88f6ef50c33a2cb9ea59e05c9f36eda45df2", func := "keyhold/keyholdlaw.TreeCopies", spec := "treeCopies", inPlace := ["internal/reflectlite.ValueOf", "(internal/reflectlite.Value).Type", "(internal/reflectlite.Value).IsNil", "internal/reflectlite.TypeOf", "(internal/reflectlite.Value).Elem", "(internal/reflectlite.Value).Set"], unfollowed := true, recurses := true, named := ["errors.errorType"], apart := false, laid := [("errors.errorType", laid_errors_errorType)] }
def TreeCopiesSaid : Prop := treeCopiesRow.holds Tryz.pinned (OpenSpec.ofChange treeCopiesSpec)

/-- ITS FALSE NEIGHBOUR: 'it returns false'. Refute it at one input. -/
def treeCopiesWrong : ChangeSpec := { name := "treeCopies", fn := fun _ => fun
  | [d1, d2, d3, d4, d5] => { results := [.lit (.bool false)], args := [d1, d2, d3, d4, d5] }
  | _ => none }
def TreeCopiesWrongFalsely : Prop := treeCopiesRow.holds Tryz.pinned (OpenSpec.ofChange treeCopiesWrong)

/-- 'keyholdlaw.ClayMakes': WHATEVER THE INPUT: true; the input reads as it did. -/
def clayMakesSpec : ChangeSpec := { name := "clayMakes", fn := fun _ => fun
  | [d1, d2, d3, d4, d5] => { results := [.lit (.bool true)], args := [d1, d2, d3, d4, d5] }
  | _ => none }
def clayMakesRow : OpenClaim := { program := "ytdjilaofmdhikaagreatdoor", sum := "5e35a70ac1fbbbae401b2b44468b88f6ef50c33a2cb9ea59e05c9f36eda45df2", func := "keyhold/keyholdlaw.ClayMakes", spec := "clayMakes", inPlace := ["internal/reflectlite.ValueOf", "(internal/reflectlite.Value).Type", "(internal/reflectlite.Value).IsNil", "internal/reflectlite.TypeOf", "(internal/reflectlite.Value).Elem", "(internal/reflectlite.Value).Set"], unfollowed := true, recurses := true, named := ["errors.errorType"], apart := false, laid := [("errors.errorType", laid_errors_errorType)] }
def ClayMakesSaid : Prop := clayMakesRow.holds Tryz.pinned (OpenSpec.ofChange clayMakesSpec)

/-- ITS FALSE NEIGHBOUR: 'it returns false'. Refute it at one input. -/
def clayMakesWrong : ChangeSpec := { name := "clayMakes", fn := fun _ => fun
  | [d1, d2, d3, d4, d5] => { results := [.lit (.bool false)], args := [d1, d2, d3, d4, d5] }
  | _ => none }
def ClayMakesWrongFalsely : Prop := clayMakesRow.holds Tryz.pinned (OpenSpec.ofChange clayMakesWrong)

/-- 'keyholdlaw.PartsSay': WHATEVER THE INPUT: true; the input reads as it did. -/
def partsSaySpec : ChangeSpec := { name := "partsSay", fn := fun _ => fun
  | [d1, d2] => { results := [.lit (.bool true)], args := [d1, d2] }
  | _ => none }
def partsSayRow : OpenClaim := { program := "ytdjilaofmdhikaagreatdoor", sum := "5e35a70ac1fbbbae401b2b44468b88f6ef50c33a2cb9ea59e05c9f36eda45df2", func := "keyhold/keyholdlaw.PartsSay", spec := "partsSay", inPlace := ["internal/reflectlite.ValueOf", "(internal/reflectlite.Value).Type", "(internal/reflectlite.Value).IsNil", "internal/reflectlite.TypeOf", "(internal/reflectlite.Value).Elem", "(internal/reflectlite.Value).Set"], unfollowed := true, recurses := true, named := ["errors.errorType"], apart := false, laid := [("errors.errorType", laid_errors_errorType)] }
def PartsSaySaid : Prop := partsSayRow.holds Tryz.pinned (OpenSpec.ofChange partsSaySpec)

/-- ITS FALSE NEIGHBOUR: 'it returns false'. Refute it at one input. -/
def partsSayWrong : ChangeSpec := { name := "partsSay", fn := fun _ => fun
  | [d1, d2] => { results := [.lit (.bool false)], args := [d1, d2] }
  | _ => none }
def PartsSayWrongFalsely : Prop := partsSayRow.holds Tryz.pinned (OpenSpec.ofChange partsSayWrong)

/-- 'keyholdlaw.SchedPicks': WHATEVER THE INPUT: true; the input reads as it did. -/
def schedPicksSpec : ChangeSpec := { name := "schedPicks", fn := fun _ => fun
  | [d1, d2] => { results := [.lit (.bool true)], args := [d1, d2] }
  | _ => none }
def schedPicksRow : OpenClaim := { program := "ytdjilaofmdhikaagreatdoor", sum := "5e35a70ac1fbbbae401b2b44468b88f6ef50c33a2cb9ea59e05c9f36eda45df2", func := "keyhold/keyholdlaw.SchedPicks", spec := "schedPicks", inPlace := ["internal/reflectlite.ValueOf", "(internal/reflectlite.Value).Type", "(internal/reflectlite.Value).IsNil", "internal/reflectlite.TypeOf", "(internal/reflectlite.Value).Elem", "(internal/reflectlite.Value).Set"], unfollowed := true, recurses := true, named := ["errors.errorType"], apart := false, laid := [("errors.errorType", laid_errors_errorType)] }
def SchedPicksSaid : Prop := schedPicksRow.holds Tryz.pinned (OpenSpec.ofChange schedPicksSpec)

/-- ITS FALSE NEIGHBOUR: 'it returns false'. Refute it at one input. -/
def schedPicksWrong : ChangeSpec := { name := "schedPicks", fn := fun _ => fun
  | [d1, d2] => { results := [.lit (.bool false)], args := [d1, d2] }
  | _ => none }
def SchedPicksWrongFalsely : Prop := schedPicksRow.holds Tryz.pinned (OpenSpec.ofChange schedPicksWrong)

/-- 'keyholdlaw.MailSends': WHATEVER THE INPUT: true; the input reads as it did. -/
def mailSendsSpec : ChangeSpec := { name := "mailSends", fn := fun _ => fun
  | [d1, d2, d3, d4, d5, d6] => { results := [.lit (.bool true)], args := [d1, d2, d3, d4, d5, d6] }
  | _ => none }
def mailSendsRow : OpenClaim := { program := "ytdjilaofmdhikaagreatdoor", sum := "5e35a70ac1fbbbae401b2b44468b88f6ef50c33a2cb9ea59e05c9f36eda45df2", func := "keyhold/keyholdlaw.MailSends", spec := "mailSends", inPlace := ["internal/reflectlite.ValueOf", "(internal/reflectlite.Value).Type", "(internal/reflectlite.Value).IsNil", "internal/reflectlite.TypeOf", "(internal/reflectlite.Value).Elem", "(internal/reflectlite.Value).Set"], unfollowed := true, recurses := true, named := ["errors.errorType"], apart := false, laid := [("errors.errorType", laid_errors_errorType)] }
def MailSendsSaid : Prop := mailSendsRow.holds Tryz.pinned (OpenSpec.ofChange mailSendsSpec)

/-- ITS FALSE NEIGHBOUR: 'it returns false'. Refute it at one input. -/
def mailSendsWrong : ChangeSpec := { name := "mailSends", fn := fun _ => fun
  | [d1, d2, d3, d4, d5, d6] => { results := [.lit (.bool false)], args := [d1, d2, d3, d4, d5, d6] }
  | _ => none }
def MailSendsWrongFalsely : Prop := mailSendsRow.holds Tryz.pinned (OpenSpec.ofChange mailSendsWrong)

/-- 'keyholdlaw.MailRings': WHATEVER THE INPUT: true; the input reads as it did. -/
def mailRingsSpec : ChangeSpec := { name := "mailRings", fn := fun _ => fun
  | [d1, d2, d3, d4] => { results := [.lit (.bool true)], args := [d1, d2, d3, d4] }
  | _ => none }
def mailRingsRow : OpenClaim := { program := "ytdjilaofmdhikaagreatdoor", sum := "5e35a70ac1fbbbae401b2b44468b88f6ef50c33a2cb9ea59e05c9f36eda45df2", func := "keyhold/keyholdlaw.MailRings", spec := "mailRings", inPlace := ["internal/reflectlite.ValueOf", "(internal/reflectlite.Value).Type", "(internal/reflectlite.Value).IsNil", "internal/reflectlite.TypeOf", "(internal/reflectlite.Value).Elem", "(internal/reflectlite.Value).Set"], unfollowed := true, recurses := true, named := ["errors.errorType"], apart := false, laid := [("errors.errorType", laid_errors_errorType)] }
def MailRingsSaid : Prop := mailRingsRow.holds Tryz.pinned (OpenSpec.ofChange mailRingsSpec)

/-- ITS FALSE NEIGHBOUR: 'it returns false'. Refute it at one input. -/
def mailRingsWrong : ChangeSpec := { name := "mailRings", fn := fun _ => fun
  | [d1, d2, d3, d4] => { results := [.lit (.bool false)], args := [d1, d2, d3, d4] }
  | _ => none }
def MailRingsWrongFalsely : Prop := mailRingsRow.holds Tryz.pinned (OpenSpec.ofChange mailRingsWrong)

/-- 'keyholdlaw.MailTakes': WHATEVER THE INPUT: true; the input reads as it did. -/
def mailTakesSpec : ChangeSpec := { name := "mailTakes", fn := fun _ => fun
  | [d1, d2, d3, d4] => { results := [.lit (.bool true)], args := [d1, d2, d3, d4] }
  | _ => none }
def mailTakesRow : OpenClaim := { program := "ytdjilaofmdhikaagreatdoor", sum := "5e35a70ac1fbbbae401b2b44468b88f6ef50c33a2cb9ea59e05c9f36eda45df2", func := "keyhold/keyholdlaw.MailTakes", spec := "mailTakes", inPlace := ["internal/reflectlite.ValueOf", "(internal/reflectlite.Value).Type", "(internal/reflectlite.Value).IsNil", "internal/reflectlite.TypeOf", "(internal/reflectlite.Value).Elem", "(internal/reflectlite.Value).Set"], unfollowed := true, recurses := true, named := ["errors.errorType"], apart := false, laid := [("errors.errorType", laid_errors_errorType)] }
def MailTakesSaid : Prop := mailTakesRow.holds Tryz.pinned (OpenSpec.ofChange mailTakesSpec)

/-- ITS FALSE NEIGHBOUR: 'it returns false'. Refute it at one input. -/
def mailTakesWrong : ChangeSpec := { name := "mailTakes", fn := fun _ => fun
  | [d1, d2, d3, d4] => { results := [.lit (.bool false)], args := [d1, d2, d3, d4] }
  | _ => none }
def MailTakesWrongFalsely : Prop := mailTakesRow.holds Tryz.pinned (OpenSpec.ofChange mailTakesWrong)

/-- 'keyholdlaw.SchedTurns': WHATEVER THE INPUT: true; the input reads as it did. -/
def schedTurnsSpec : ChangeSpec := { name := "schedTurns", fn := fun _ => fun
  | [d1, d2, d3] => { results := [.lit (.bool true)], args := [d1, d2, d3] }
  | _ => none }
def schedTurnsRow : OpenClaim := { program := "ytdjilaofmdhikaagreatdoor", sum := "5e35a70ac1fbbbae401b2b44468b88f6ef50c33a2cb9ea59e05c9f36eda45df2", func := "keyhold/keyholdlaw.SchedTurns", spec := "schedTurns", inPlace := ["internal/reflectlite.ValueOf", "(internal/reflectlite.Value).Type", "(internal/reflectlite.Value).IsNil", "internal/reflectlite.TypeOf", "(internal/reflectlite.Value).Elem", "(internal/reflectlite.Value).Set"], unfollowed := true, recurses := true, named := ["errors.errorType"], apart := false, laid := [("errors.errorType", laid_errors_errorType)] }
def SchedTurnsSaid : Prop := schedTurnsRow.holds Tryz.pinned (OpenSpec.ofChange schedTurnsSpec)

/-- ITS FALSE NEIGHBOUR: 'it returns false'. Refute it at one input. -/
def schedTurnsWrong : ChangeSpec := { name := "schedTurns", fn := fun _ => fun
  | [d1, d2, d3] => { results := [.lit (.bool false)], args := [d1, d2, d3] }
  | _ => none }
def SchedTurnsWrongFalsely : Prop := schedTurnsRow.holds Tryz.pinned (OpenSpec.ofChange schedTurnsWrong)

/-- 'keyholdlaw.TreeDrops': WHATEVER THE INPUT: true; the input reads as it did. -/
def treeDropsSpec : ChangeSpec := { name := "treeDrops", fn := fun _ => fun
  | [d1, d2] => { results := [.lit (.bool true)], args := [d1, d2] }
  | _ => none }
def treeDropsRow : OpenClaim := { program := "ytdjilaofmdhikaagreatdoor", sum := "5e35a70ac1fbbbae401b2b44468b88f6ef50c33a2cb9ea59e05c9f36eda45df2", func := "keyhold/keyholdlaw.TreeDrops", spec := "treeDrops", inPlace := ["internal/reflectlite.ValueOf", "(internal/reflectlite.Value).Type", "(internal/reflectlite.Value).IsNil", "internal/reflectlite.TypeOf", "(internal/reflectlite.Value).Elem", "(internal/reflectlite.Value).Set"], unfollowed := true, recurses := true, named := ["errors.errorType"], apart := false, laid := [("errors.errorType", laid_errors_errorType)] }
def TreeDropsSaid : Prop := treeDropsRow.holds Tryz.pinned (OpenSpec.ofChange treeDropsSpec)

/-- ITS FALSE NEIGHBOUR: 'it returns false'. Refute it at one input. -/
def treeDropsWrong : ChangeSpec := { name := "treeDrops", fn := fun _ => fun
  | [d1, d2] => { results := [.lit (.bool false)], args := [d1, d2] }
  | _ => none }
def TreeDropsWrongFalsely : Prop := treeDropsRow.holds Tryz.pinned (OpenSpec.ofChange treeDropsWrong)

/- THE SECOND FORM. 'bulk': how many values and letters a reading holds, each counted each time it is reached (what is shared counts as often as it is met; a slice's spare places count too). A statement '..UptoSaid' is the law's where the arguments, and the package variables that the reading takes, are together of bulk at most 1048576: NARROWER than '..Said'. Prove '..Said' where nothing that the law and all that it calls make is longer than what came in: it says more and counts as full. Else prove '..UptoSaid'. A law counts once. -/
mutual
def uptoBulk {H : Type} : DataW H → Nat
  | .lit (.string bytes) => bytes.length + 1
  | .lit _ => 1
  | .nil => 1
  | .ptr d => uptoBulk d + 1
  | .slice elems spare => uptoBulkAll elems + uptoBulkAll spare + 1
  | .agg parts => uptoBulkAll parts + 1
  | .iface _ d => uptoBulk d + 1
  | .map entries => uptoBulkEntries entries + 1
  | .held _ => 1
def uptoBulkAll {H : Type} : List (DataW H) → Nat
  | [] => 0
  | d :: r => uptoBulk d + uptoBulkAll r
def uptoBulkEntries {H : Type} : List (Lit × DataW H) → Nat
  | [] => 0
  | x :: r => uptoBulkEntry x + uptoBulkEntries r
def uptoBulkEntry {H : Type} : Lit × DataW H → Nat
  | (.string bytes, d) => bytes.length + uptoBulk d + 1
  | (_, d) => uptoBulk d + 1
 end
def uptoSmall : (H : Type) → List (DataW H) → Bool := fun _ ds => decide (uptoBulkAll ds ≤ 1048576)
def OpenSpec.upto (s : _root_.Go.ChangeSpec) : _root_.Go.OpenSpec := { _root_.Go.OpenSpec.ofChange s with cond := some uptoSmall }

/-- 'keyholdlaw.TreeMoves', WHERE WHAT IT READS IS OF BULK AT MOST 1048576: true; the input reads as it did. -/
def treeMovesUptoRow : OpenClaim := { program := "ytdjilaofmdhikaagreatdoor", sum := "5e35a70ac1fbbbae401b2b44468b88f6ef50c33a2cb9ea59e05c9f36eda45df2", func := "keyhold/keyholdlaw.TreeMoves", spec := "treeMoves", inPlace := ["internal/reflectlite.ValueOf", "(internal/reflectlite.Value).Type", "(internal/reflectlite.Value).IsNil", "internal/reflectlite.TypeOf", "(internal/reflectlite.Value).Elem", "(internal/reflectlite.Value).Set"], unfollowed := true, recurses := true, named := ["errors.errorType"], apart := false, laid := [("errors.errorType", laid_errors_errorType)], narrowed := true }
def TreeMovesUptoSaid : Prop := treeMovesUptoRow.holds Tryz.pinned (OpenSpec.upto treeMovesSpec)

/-- 'keyholdlaw.TreeCopies', WHERE WHAT IT READS IS OF BULK AT MOST 1048576: true; the input reads as it did. -/
def treeCopiesUptoRow : OpenClaim := { program := "ytdjilaofmdhikaagreatdoor", sum := "5e35a70ac1fbbbae401b2b44468b88f6ef50c33a2cb9ea59e05c9f36eda45df2", func := "keyhold/keyholdlaw.TreeCopies", spec := "treeCopies", inPlace := ["internal/reflectlite.ValueOf", "(internal/reflectlite.Value).Type", "(internal/reflectlite.Value).IsNil", "internal/reflectlite.TypeOf", "(internal/reflectlite.Value).Elem", "(internal/reflectlite.Value).Set"], unfollowed := true, recurses := true, named := ["errors.errorType"], apart := false, laid := [("errors.errorType", laid_errors_errorType)], narrowed := true }
def TreeCopiesUptoSaid : Prop := treeCopiesUptoRow.holds Tryz.pinned (OpenSpec.upto treeCopiesSpec)

/-- 'keyholdlaw.ClayMakes', WHERE WHAT IT READS IS OF BULK AT MOST 1048576: true; the input reads as it did. -/
def clayMakesUptoRow : OpenClaim := { program := "ytdjilaofmdhikaagreatdoor", sum := "5e35a70ac1fbbbae401b2b44468b88f6ef50c33a2cb9ea59e05c9f36eda45df2", func := "keyhold/keyholdlaw.ClayMakes", spec := "clayMakes", inPlace := ["internal/reflectlite.ValueOf", "(internal/reflectlite.Value).Type", "(internal/reflectlite.Value).IsNil", "internal/reflectlite.TypeOf", "(internal/reflectlite.Value).Elem", "(internal/reflectlite.Value).Set"], unfollowed := true, recurses := true, named := ["errors.errorType"], apart := false, laid := [("errors.errorType", laid_errors_errorType)], narrowed := true }
def ClayMakesUptoSaid : Prop := clayMakesUptoRow.holds Tryz.pinned (OpenSpec.upto clayMakesSpec)

/-- 'keyholdlaw.PartsSay', WHERE WHAT IT READS IS OF BULK AT MOST 1048576: true; the input reads as it did. -/
def partsSayUptoRow : OpenClaim := { program := "ytdjilaofmdhikaagreatdoor", sum := "5e35a70ac1fbbbae401b2b44468b88f6ef50c33a2cb9ea59e05c9f36eda45df2", func := "keyhold/keyholdlaw.PartsSay", spec := "partsSay", inPlace := ["internal/reflectlite.ValueOf", "(internal/reflectlite.Value).Type", "(internal/reflectlite.Value).IsNil", "internal/reflectlite.TypeOf", "(internal/reflectlite.Value).Elem", "(internal/reflectlite.Value).Set"], unfollowed := true, recurses := true, named := ["errors.errorType"], apart := false, laid := [("errors.errorType", laid_errors_errorType)], narrowed := true }
def PartsSayUptoSaid : Prop := partsSayUptoRow.holds Tryz.pinned (OpenSpec.upto partsSaySpec)

/-- 'keyholdlaw.SchedPicks', WHERE WHAT IT READS IS OF BULK AT MOST 1048576: true; the input reads as it did. -/
def schedPicksUptoRow : OpenClaim := { program := "ytdjilaofmdhikaagreatdoor", sum := "5e35a70ac1fbbbae401b2b44468b88f6ef50c33a2cb9ea59e05c9f36eda45df2", func := "keyhold/keyholdlaw.SchedPicks", spec := "schedPicks", inPlace := ["internal/reflectlite.ValueOf", "(internal/reflectlite.Value).Type", "(internal/reflectlite.Value).IsNil", "internal/reflectlite.TypeOf", "(internal/reflectlite.Value).Elem", "(internal/reflectlite.Value).Set"], unfollowed := true, recurses := true, named := ["errors.errorType"], apart := false, laid := [("errors.errorType", laid_errors_errorType)], narrowed := true }
def SchedPicksUptoSaid : Prop := schedPicksUptoRow.holds Tryz.pinned (OpenSpec.upto schedPicksSpec)

/-- 'keyholdlaw.MailSends', WHERE WHAT IT READS IS OF BULK AT MOST 1048576: true; the input reads as it did. -/
def mailSendsUptoRow : OpenClaim := { program := "ytdjilaofmdhikaagreatdoor", sum := "5e35a70ac1fbbbae401b2b44468b88f6ef50c33a2cb9ea59e05c9f36eda45df2", func := "keyhold/keyholdlaw.MailSends", spec := "mailSends", inPlace := ["internal/reflectlite.ValueOf", "(internal/reflectlite.Value).Type", "(internal/reflectlite.Value).IsNil", "internal/reflectlite.TypeOf", "(internal/reflectlite.Value).Elem", "(internal/reflectlite.Value).Set"], unfollowed := true, recurses := true, named := ["errors.errorType"], apart := false, laid := [("errors.errorType", laid_errors_errorType)], narrowed := true }
def MailSendsUptoSaid : Prop := mailSendsUptoRow.holds Tryz.pinned (OpenSpec.upto mailSendsSpec)

/-- 'keyholdlaw.MailRings', WHERE WHAT IT READS IS OF BULK AT MOST 1048576: true; the input reads as it did. -/
def mailRingsUptoRow : OpenClaim := { program := "ytdjilaofmdhikaagreatdoor", sum := "5e35a70ac1fbbbae401b2b44468b88f6ef50c33a2cb9ea59e05c9f36eda45df2", func := "keyhold/keyholdlaw.MailRings", spec := "mailRings", inPlace := ["internal/reflectlite.ValueOf", "(internal/reflectlite.Value).Type", "(internal/reflectlite.Value).IsNil", "internal/reflectlite.TypeOf", "(internal/reflectlite.Value).Elem", "(internal/reflectlite.Value).Set"], unfollowed := true, recurses := true, named := ["errors.errorType"], apart := false, laid := [("errors.errorType", laid_errors_errorType)], narrowed := true }
def MailRingsUptoSaid : Prop := mailRingsUptoRow.holds Tryz.pinned (OpenSpec.upto mailRingsSpec)

/-- 'keyholdlaw.MailTakes', WHERE WHAT IT READS IS OF BULK AT MOST 1048576: true; the input reads as it did. -/
def mailTakesUptoRow : OpenClaim := { program := "ytdjilaofmdhikaagreatdoor", sum := "5e35a70ac1fbbbae401b2b44468b88f6ef50c33a2cb9ea59e05c9f36eda45df2", func := "keyhold/keyholdlaw.MailTakes", spec := "mailTakes", inPlace := ["internal/reflectlite.ValueOf", "(internal/reflectlite.Value).Type", "(internal/reflectlite.Value).IsNil", "internal/reflectlite.TypeOf", "(internal/reflectlite.Value).Elem", "(internal/reflectlite.Value).Set"], unfollowed := true, recurses := true, named := ["errors.errorType"], apart := false, laid := [("errors.errorType", laid_errors_errorType)], narrowed := true }
def MailTakesUptoSaid : Prop := mailTakesUptoRow.holds Tryz.pinned (OpenSpec.upto mailTakesSpec)

/-- 'keyholdlaw.SchedTurns', WHERE WHAT IT READS IS OF BULK AT MOST 1048576: true; the input reads as it did. -/
def schedTurnsUptoRow : OpenClaim := { program := "ytdjilaofmdhikaagreatdoor", sum := "5e35a70ac1fbbbae401b2b44468b88f6ef50c33a2cb9ea59e05c9f36eda45df2", func := "keyhold/keyholdlaw.SchedTurns", spec := "schedTurns", inPlace := ["internal/reflectlite.ValueOf", "(internal/reflectlite.Value).Type", "(internal/reflectlite.Value).IsNil", "internal/reflectlite.TypeOf", "(internal/reflectlite.Value).Elem", "(internal/reflectlite.Value).Set"], unfollowed := true, recurses := true, named := ["errors.errorType"], apart := false, laid := [("errors.errorType", laid_errors_errorType)], narrowed := true }
def SchedTurnsUptoSaid : Prop := schedTurnsUptoRow.holds Tryz.pinned (OpenSpec.upto schedTurnsSpec)

/-- 'keyholdlaw.TreeDrops', WHERE WHAT IT READS IS OF BULK AT MOST 1048576: true; the input reads as it did. -/
def treeDropsUptoRow : OpenClaim := { program := "ytdjilaofmdhikaagreatdoor", sum := "5e35a70ac1fbbbae401b2b44468b88f6ef50c33a2cb9ea59e05c9f36eda45df2", func := "keyhold/keyholdlaw.TreeDrops", spec := "treeDrops", inPlace := ["internal/reflectlite.ValueOf", "(internal/reflectlite.Value).Type", "(internal/reflectlite.Value).IsNil", "internal/reflectlite.TypeOf", "(internal/reflectlite.Value).Elem", "(internal/reflectlite.Value).Set"], unfollowed := true, recurses := true, named := ["errors.errorType"], apart := false, laid := [("errors.errorType", laid_errors_errorType)], narrowed := true }
def TreeDropsUptoSaid : Prop := treeDropsUptoRow.holds Tryz.pinned (OpenSpec.upto treeDropsSpec)

end Rows
end Go.Proofs.YtdjilaofmdhikaaGreatDoor
