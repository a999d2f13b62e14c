/- Proved: keyholdlaw.WordSays returns true at all arguments, whatever the world in which it is called, where the variables that its row names hold what the program's text lays there. -/
import Derived.Test.YtfmaeiilbhpepaaDoorYWord
import Derived.Test.YtfmaeiilbhpepaaDoorYF
set_option linter.unusedVariables false
set_option linter.unusedSimpArgs false
set_option linter.unusedVariables false
set_option linter.unusedSimpArgs false
set_option maxRecDepth 100000
namespace Go.Proofs.YtfmaeiilbhpepaaDoor
open Go.ChangeShapes Go.WideShapes Go.RowKit Go.Sy
theorem L.ask {H : Type} (d1 : DataW H) (d2 : DataW H) : dwfs Tryd.prog Tryd.f5.params.toList [d1, d2] → prOf (c_wordSays.g (dvals Tryd.prog Tryd.f5.params.toList [d1, d2]) []) := by
  have e : (dwfs Tryd.prog Tryd.f5.params.toList [d1, d2] → prOf (c_wordSays.g (dvals Tryd.prog Tryd.f5.params.toList [d1, d2]) [])) = ((IntKind.i64.wrap (litI (dpart d1 (0 : Nat))) = litI (dpart d1 (0 : Nat)) ∧ IntKind.i64.wrap (litI (dpart d1 ((0 : Nat) + (1 : Nat)))) = litI (dpart d1 ((0 : Nat) + (1 : Nat))) ∧ IntKind.i64.wrap (litI (dpart d1 ((0 : Nat) + (1 : Nat) + (1 : Nat)))) = litI (dpart d1 ((0 : Nat) + (1 : Nat) + (1 : Nat))) ∧ IntKind.i64.wrap (litI (dpart d1 ((0 : Nat) + (1 : Nat) + (1 : Nat) + (1 : Nat)))) = litI (dpart d1 ((0 : Nat) + (1 : Nat) + (1 : Nat) + (1 : Nat))) ∧ IntKind.i64.wrap (litI (dpart d1 ((0 : Nat) + (1 : Nat) + (1 : Nat) + (1 : Nat) + (1 : Nat)))) = litI (dpart d1 ((0 : Nat) + (1 : Nat) + (1 : Nat) + (1 : Nat) + (1 : Nat))) ∧ IntKind.i64.wrap (litI (dpart d1 ((0 : Nat) + (1 : Nat) + (1 : Nat) + (1 : Nat) + (1 : Nat) + (1 : Nat)))) = litI (dpart d1 ((0 : Nat) + (1 : Nat) + (1 : Nat) + (1 : Nat) + (1 : Nat) + (1 : Nat))) ∧ True) ∧ IntKind.u64.wrap (litI d2) = litI d2 ∧ True → (((((((True ∧ litI (dpart d1 (0 : Nat)) = litI (dpart d1 (0 : Nat))) ∧ litI (dpart d1 ((0 : Nat) + (1 : Nat))) = litI (dpart d1 ((0 : Nat) + (1 : Nat)))) ∧ litI (dpart d1 ((0 : Nat) + (1 : Nat) + (1 : Nat))) = litI (dpart d1 ((0 : Nat) + (1 : Nat) + (1 : Nat)))) ∧ litI (dpart d1 ((0 : Nat) + (1 : Nat) + (1 : Nat) + (1 : Nat))) = litI (dpart d1 ((0 : Nat) + (1 : Nat) + (1 : Nat) + (1 : Nat)))) ∧ litI (dpart d1 ((0 : Nat) + (1 : Nat) + (1 : Nat) + (1 : Nat) + (1 : Nat))) = litI (dpart d1 ((0 : Nat) + (1 : Nat) + (1 : Nat) + (1 : Nat) + (1 : Nat)))) ∧ litI (dpart d1 ((0 : Nat) + (1 : Nat) + (1 : Nat) + (1 : Nat) + (1 : Nat) + (1 : Nat))) = litI (dpart d1 ((0 : Nat) + (1 : Nat) + (1 : Nat) + (1 : Nat) + (1 : Nat) + (1 : Nat)))) ∧ litI d2 = litI d2 ∧ True) ∧ True ∧ (0 : Int) ≤ litI d2 ∧ litI d2 < (18446744073709551616 : Int)) := by kernel_rfl
  rw [e]
  clear e
  rintro ⟨_, h, _⟩
  have h2 : (0 : Int) ≤ litI d2 ∧ litI d2 < 18446744073709551616 := by rw [IntKind.wrap_u64] at h; omega
  repeat' (first | exact trivial | rfl | exact h2 | refine And.intro ?_ ?_ | intro _)
theorem L.lifted (os : Os) (started : os.Started) (H : Type) (enc : TypeId × Value → H) :
    ReturnsInHanded {} Tryd.checked os 5 .any (fun w args => (Rows.wordSaysSpec.pre enc Tryd.prog Tryd.f5 [] false w args ∧ laidMetH Tryd.prog Rows.wordSaysRow.laid w) ∧ sizedMet enc Tryd.prog Tryd.f5 (OpenSpec.ofChange Rows.wordSaysSpec) false w args)
      (Rows.wordSaysSpec.post enc Tryd.prog Tryd.f5 false true false false) := by
  refine K.lift (X := fun w => laidMetH Tryd.prog Rows.wordSaysRow.laid w) (fun _ _ hh h => h.of_heap hh) os started H enc (by kernel_rfl) Tryd.func5 (fun ds h => ?_) rfl rfl (by kernel_rfl)
    (ChangeSpec.witness_at (enc := enc) (C := Tryd.checked) (os := os) (X := fun w _ => laidMetH Tryd.prog Rows.wordSaysRow.laid w) false (K.world os) (zeros Tryd.prog Tryd.f5.params.toList) 8 rfl (by kernel_rfl) (by kernel_rfl) (by kernel_rfl) (by kernel_rfl) (by kernel_rfl) (K.met os _)) ?_
  · have h : ds.length = 2 := h
    match ds, h with
    | [d1, d2], _ => rfl
  · intro W base args ds p hval hA hL hlt
    refine law_call ok_wordSays (fun ds h hw => prOf_spec ?_) (K.gE hL (by unfold Rows.wordSaysRow; simp)) hA (K.len hA) (fun j t v e e' => hval j t v (by simpa using e) e')
    have h : ds.length = 2 := h
    match ds, h, hw with
    | [d1, d2], _, hw => exact L.ask d1 d2 hw
theorem L.holds : Rows.WordSaysSaid :=
  OpenClaim.holds_of_wide 5 Tryd.f5 rfl rfl rfl rfl rfl rfl rfl ⟨rfl, rfl, rfl, rfl, rfl⟩ rfl rfl rfl rfl rfl (by kernel_rfl) Tryd.func5 (by kernel_rfl)
    (of_decide_eq_true (by kernel_rfl)) (by unfold Func.isWrapper; rw [if_neg (of_decide_eq_false (by kernel_rfl))]; exact ⟨rfl, rfl⟩)
    (fun os started H enc _ => L.lifted os started H enc)
theorem wordSays_holds : Rows.WordSaysCardSaid :=
  Claim7.holds_tied_plain_at .later [] [.handle] true (true, "50259b477bce9038f419d339a4af7868793bcb6fe799780e20f62995f1493973") true
    L.holds (fun _ h => by cases h) (by kernel_rfl) (fun _ h => by cases h) wordSays_row_tie rfl ⟨rfl, rfl⟩ (by kernel_rfl) rfl
    (fun f fn hf hfn => by
      obtain rfl : f = 5 := Option.some.inj ((show Tryd.prog.funcNamed "keyhold/keyholdlaw.WordSays" = some 5 by kernel_rfl).symm.trans hf) |>.symm
      obtain rfl : fn = Tryd.f5 := (Option.some.inj (Tryd.func5.symm.trans hfn)).symm
      exact ⟨by kernel_rfl, fun j t ht => K.noStand (by kernel_rfl) ht⟩)
    (by kernel_rfl)
#print axioms wordSays_holds
end Go.Proofs.YtfmaeiilbhpepaaDoor
