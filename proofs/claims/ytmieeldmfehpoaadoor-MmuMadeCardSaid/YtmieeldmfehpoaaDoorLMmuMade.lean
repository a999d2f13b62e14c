/- Proved: keyholdlaw.MmuMade returns true at all arguments, whatever the world in which it is called, where the variables that its row names hold what the program's text lays there. -/
import Derived.Test.YtmieeldmfehpoaaDoorYJ
set_option linter.unusedVariables false
set_option linter.unusedSimpArgs false
set_option linter.unusedVariables false
set_option linter.unusedSimpArgs false
set_option maxRecDepth 100000
namespace Go.Proofs.YtmieeldmfehpoaaDoor
open Go.ChangeShapes Go.WideShapes Go.RowKit Go.Sy
theorem L.ask {H : Type} (d1 : DataW H) (d2 : DataW H) (d3 : DataW H) (d4 : DataW H) : dwfs Tryd.prog Tryd.f4.params.toList [d1, d2, d3, d4] → prOf (c_mmuMade.g (dvals Tryd.prog Tryd.f4.params.toList [d1, d2, d3, d4]) []) := by
  have e : (dwfs Tryd.prog Tryd.f4.params.toList [d1, d2, d3, d4] → prOf (c_mmuMade.g (dvals Tryd.prog Tryd.f4.params.toList [d1, d2, d3, d4]) [])) = (((↑(dlen d1) : Int) ≤ (9223372036854775807 : Int) ∧ ∀ (i : Nat), i < dlen d1 → IntKind.wrap IntKind.i64 (litI (delem d1 i)) = litI (delem d1 i)) ∧ IntKind.wrap IntKind.i64 (litI d2) = litI d2 ∧ True ∧ IntKind.wrap IntKind.i64 (litI d4) = litI d4 ∧ True → ((dlen d1 = dlen d1 ∧ ∀ (i : Nat), i < dlen d1 → True ∧ litI (delem d1 i) = litI (delem d1 i)) ∧ litI d2 = litI d2 ∧ litB d3 = litB d3 ∧ litI d4 = litI d4 ∧ True) ∧ True ∧ (∀ (i : Nat), i < dlen d1 → (-9223372036854775808 : Int) ≤ litI (delem d1 i) ∧ litI (delem d1 i) ≤ (9223372036854775807 : Int)) ∧ ((-9223372036854775808 : Int) ≤ litI d2 ∧ litI d2 ≤ (9223372036854775807 : Int)) ∧ (-9223372036854775808 : Int) ≤ litI d4 ∧ litI d4 ≤ (9223372036854775807 : Int)) := by kernel_rfl
  rw [e]
  clear e
  rintro ⟨⟨_, h1⟩, h2, _, h4, _⟩
  have i64 : ∀ x : Int, IntKind.i64.wrap x = x → -9223372036854775808 ≤ x ∧ x ≤ 9223372036854775807 := fun x h => by rw [IntKind.wrap_i64] at h; omega
  repeat' (first | exact trivial | rfl | refine And.intro ?_ ?_ | intro _)
  all_goals first | exact (i64 _ (h1 _ ‹_›)).1 | exact (i64 _ (h1 _ ‹_›)).2 | exact (i64 _ h2).1 | exact (i64 _ h2).2 | exact (i64 _ h4).1 | exact (i64 _ h4).2
theorem L.lifted (os : Os) (started : os.Started) (H : Type) (enc : TypeId × Value → H) :
    ReturnsInHanded {} Tryd.checked os 4 .any (fun w args => (Rows.mmuMadeSpec.pre enc Tryd.prog Tryd.f4 [] false w args ∧ laidMetH Tryd.prog Rows.mmuMadeRow.laid w) ∧ sizedMet enc Tryd.prog Tryd.f4 (OpenSpec.ofChange Rows.mmuMadeSpec) false w args)
      (Rows.mmuMadeSpec.post enc Tryd.prog Tryd.f4 false true false false) := by
  refine K.lift (X := fun w => laidMetH Tryd.prog Rows.mmuMadeRow.laid w) (fun _ _ hh h => h.of_heap hh) os started H enc (by kernel_rfl) Tryd.func4 (fun ds h => ?_) rfl rfl (by kernel_rfl)
    (ChangeSpec.witness_at (enc := enc) (C := Tryd.checked) (os := os) (X := fun w _ => laidMetH Tryd.prog Rows.mmuMadeRow.laid w) false (K.world os) (zeros Tryd.prog Tryd.f4.params.toList) 8 rfl (by kernel_rfl) (by kernel_rfl) (by kernel_rfl) (by kernel_rfl) (by kernel_rfl) (K.met os _)) ?_
  · have h : ds.length = 4 := h
    match ds, h with
    | [d1, d2, d3, d4], _ => rfl
  · intro W base args ds p hval hA hL hlt
    refine law_call ok_mmuMade (fun ds h hw => prOf_spec ?_) (K.gE hL (by unfold Rows.mmuMadeRow; simp)) hA (K.len hA) (fun j t v e e' => hval j t v (by simpa using e) e')
    have h : ds.length = 4 := h
    match ds, h, hw with
    | [d1, d2, d3, d4], _, hw => exact L.ask d1 d2 d3 d4 hw
theorem L.holds : Rows.MmuMadeSaid :=
  OpenClaim.holds_of_wide 4 Tryd.f4 rfl rfl rfl rfl rfl rfl rfl ⟨rfl, rfl, rfl, rfl, rfl⟩ rfl rfl rfl rfl rfl (by kernel_rfl) Tryd.func4 (by kernel_rfl)
    (of_decide_eq_true (by kernel_rfl)) (by unfold Func.isWrapper; rw [if_neg (of_decide_eq_false (by kernel_rfl))]; exact ⟨rfl, rfl⟩)
    (fun os started H enc _ => L.lifted os started H enc)
theorem mmuMade_holds : Rows.MmuMadeCardSaid :=
  Claim7.holds_tied_plain_at .later [] [.handle] true (true, "d435733ff39188125d89d00c01d1c47c360398dc5093bcc0bd08d37e6537a04c") true
    L.holds (fun _ h => by cases h) (by kernel_rfl) (fun _ h => by cases h) mmuMade_row_tie rfl ⟨rfl, rfl⟩ (by kernel_rfl) rfl
    (fun f fn hf hfn => by
      obtain rfl : f = 4 := Option.some.inj ((show Tryd.prog.funcNamed "keyhold/keyholdlaw.MmuMade" = some 4 by kernel_rfl).symm.trans hf) |>.symm
      obtain rfl : fn = Tryd.f4 := (Option.some.inj (Tryd.func4.symm.trans hfn)).symm
      exact ⟨by kernel_rfl, fun j t ht => K.noStand (by kernel_rfl) ht⟩)
    (by kernel_rfl)
#print axioms mmuMade_holds
end Go.Proofs.YtmieeldmfehpoaaDoor
