/- Proved: keyholdlaw.TopSteps returns true at all arguments, whatever the world in which it is called, where the variables that its row names hold what the program's text lays there. -/
import Derived.Test.YtbngaammbjaajaaDoorYJ
set_option linter.unusedVariables false
set_option linter.unusedSimpArgs false
set_option linter.unusedVariables false
set_option linter.unusedSimpArgs false
set_option maxRecDepth 100000
namespace Go.Proofs.YtbngaammbjaajaaDoor
open Go.ChangeShapes Go.WideShapes Go.RowKit Go.Sy
theorem L.ask {H : Type} (d1 : DataW H) (d2 : DataW H) (d3 : DataW H) (d4 : DataW H) : nT Tryd.prog Tryd.f3.params.toList [d1, d2, d3, d4] → qy (sE.g (nw Tryd.prog Tryd.f3.params.toList [d1, d2, d3, d4]) []) := by
  have e : (nT Tryd.prog Tryd.f3.params.toList [d1, d2, d3, d4] → qy (sE.g (nw Tryd.prog Tryd.f3.params.toList [d1, d2, d3, d4]) [])) = (((↑(dt d1) : Int) ≤ (9223372036854775807 : Int) ∧ ∀ (i : Nat), i < dt d1 → IntKind.wrap IntKind.i64 (b_ (eC d1 i)) = b_ (eC d1 i)) ∧ IntKind.wrap IntKind.i64 (b_ d2) = b_ d2 ∧ ((↑(dt d3) : Int) ≤ (9223372036854775807 : Int) ∧ ∀ (i : Nat), i < dt d3 → IntKind.wrap IntKind.i64 (b_ (eC d3 i)) = b_ (eC d3 i)) ∧ IntKind.wrap IntKind.i64 (b_ d4) = b_ d4 ∧ True → ((dt d1 = dt d1 ∧ ∀ (i : Nat), i < dt d1 → True ∧ b_ (eC d1 i) = b_ (eC d1 i)) ∧ b_ d2 = b_ d2 ∧ (dt d3 = dt d3 ∧ ∀ (i : Nat), i < dt d3 → True ∧ b_ (eC d3 i) = b_ (eC d3 i)) ∧ b_ d4 = b_ d4 ∧ True) ∧ True ∧ (∀ (k : Nat), k < dt d1 → (-9223372036854775808 : Int) ≤ b_ (eC d1 k) ∧ b_ (eC d1 k) ≤ (9223372036854775807 : Int)) ∧ ((-9223372036854775808 : Int) ≤ b_ d2 ∧ b_ d2 ≤ (9223372036854775807 : Int)) ∧ (∀ (k : Nat), k < dt d3 → (-9223372036854775808 : Int) ≤ b_ (eC d3 k) ∧ b_ (eC d3 k) ≤ (9223372036854775807 : Int)) ∧ (-9223372036854775808 : Int) ≤ b_ d4 ∧ b_ d4 ≤ (9223372036854775807 : Int)) := by kernel_rfl
  rw [e]
  clear e
  rintro ⟨⟨_, U⟩, h2, ⟨_, h3⟩, h4, _⟩
  have i64 : ∀ x : Int, IntKind.i64.wrap x = x → -9223372036854775808 ≤ x ∧ x ≤ 9223372036854775807 := fun x h => by rw [IntKind.wrap_i64] at h; omega
  repeat' (first | exact trivial | rfl | refine And.intro ?_ ?_ | intro _)
  all_goals first | exact (i64 _ (U _ ‹_›)).1 | exact (i64 _ (U _ ‹_›)).2 | exact (i64 _ (h3 _ ‹_›)).1 | exact (i64 _ (h3 _ ‹_›)).2 | exact (i64 _ h2).1 | exact (i64 _ h2).2 | exact (i64 _ h4).1 | exact (i64 _ h4).2
theorem L.lifted (os : Os) (started : os.Started) (H : Type) (enc : TypeId × Value → H) :
    ReturnsInHanded {} Tryd.checked os 3 .any (fun w args => (Rows.topStepsSpec.pre enc Tryd.prog Tryd.f3 [] false w args ∧ laidMetH Tryd.prog Rows.topStepsRow.laid w) ∧ sizedMet enc Tryd.prog Tryd.f3 (OpenSpec.ofChange Rows.topStepsSpec) false w args)
      (Rows.topStepsSpec.post enc Tryd.prog Tryd.f3 false true false false) := by
  refine K.lift (X := fun w => laidMetH Tryd.prog Rows.topStepsRow.laid w) (fun _ _ hh h => h.of_heap hh) os started H enc (by kernel_rfl) Tryd.func3 (fun ds h => ?_) rfl rfl (by kernel_rfl)
    (ChangeSpec.witness_at (enc := enc) (C := Tryd.checked) (os := os) (X := fun w _ => laidMetH Tryd.prog Rows.topStepsRow.laid w) false (K.zc os) (DX Tryd.prog Tryd.f3.params.toList) 8 rfl (by kernel_rfl) (by kernel_rfl) (by kernel_rfl) (by kernel_rfl) (by kernel_rfl) (K.EA os _)) ?_
  · have h : ds.length = 4 := h
    match ds, h with
    | [d1, d2, d3, d4], _ => rfl
  · intro W base args ds p nO hA hL af
    refine B1 A3 (fun ds h hw => Bz ?_) (K.gS hL (by unfold Rows.topStepsRow; simp)) hA (K.len hA) (fun j t v e e' => nO j t v (by simpa using e) e')
    have h : ds.length = 4 := h
    match ds, h, hw with
    | [d1, d2, d3, d4], _, hw => exact L.ask d1 d2 d3 d4 hw
theorem L.holds : Rows.TopStepsSaid :=
  OpenClaim.holds_of_wide 3 Tryd.f3 rfl rfl rfl rfl rfl rfl rfl ⟨rfl, rfl, rfl, rfl, rfl⟩ rfl rfl rfl rfl rfl (by kernel_rfl) Tryd.func3 (by kernel_rfl)
    (of_decide_eq_true (by kernel_rfl)) (by unfold Func.isWrapper; rw [if_neg (of_decide_eq_false (by kernel_rfl))]; exact ⟨rfl, rfl⟩)
    (fun os started H enc _ => L.lifted os started H enc)
theorem topSteps_holds : Rows.TopStepsCardSaid :=
  Claim7.holds_tied_plain_at .later [] [.data] true (true, "58f834f00eccd7a4fd55db0ae7ac540e340d61243665c71b51847f0fe619b5b4") false
    L.holds (fun _ h => by cases h) (by kernel_rfl) (fun _ h => by cases h) topSteps_row_tie rfl ⟨rfl, rfl⟩ (by kernel_rfl) rfl
    (fun f fn hf eR => by
      obtain rfl : f = 3 := Option.some.inj ((show Tryd.prog.funcNamed "keyhold/keyholdtop.TopSteps" = some 3 by kernel_rfl).symm.trans hf) |>.symm
      obtain rfl : fn = Tryd.f3 := (Option.some.inj (Tryd.func3.symm.trans eR)).symm
      exact ⟨by kernel_rfl, fun j t ht => K.CK (by kernel_rfl) ht⟩)
    (by kernel_rfl)
#print axioms topSteps_holds
end Go.Proofs.YtbngaammbjaajaaDoor
