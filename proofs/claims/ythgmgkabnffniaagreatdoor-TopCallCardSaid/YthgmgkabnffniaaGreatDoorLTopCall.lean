/- Proved: keyholdlaw.TopCall returns true at all arguments, whatever the world in which it is called, where the variables that its row names hold what the program's text lays there. -/
import Derived.Test.YthgmgkabnffniaaGreatDoorYT
set_option linter.unusedVariables false
set_option linter.unusedSimpArgs false
set_option linter.unusedVariables false
set_option linter.unusedSimpArgs false
set_option maxRecDepth 100000
namespace Go.Proofs.YthgmgkabnffniaaGreatDoor
open Go.ChangeShapes Go.WideShapes Go.RowKit Go.Sy
theorem L.ask {H : Type} (d1 : DataW H) (d2 : DataW H) (d3 : DataW H) (d4 : DataW H) (d5 : DataW H) : zY Tryz.prog Tryz.f4.params.toList [d1, d2, d3, d4, d5] → DD (E3.g (zE Tryz.prog Tryz.f4.params.toList [d1, d2, d3, d4, d5]) []) := by
  have e : (zY Tryz.prog Tryz.f4.params.toList [d1, d2, d3, d4, d5] → DD (E3.g (zE Tryz.prog Tryz.f4.params.toList [d1, d2, d3, d4, d5]) [])) = (((↑(lU d1) : Int) ≤ (9223372036854775807 : Int) ∧ ∀ (i : Nat), i < lU d1 → IntKind.wrap IntKind.i64 (fz (oK d1 i)) = fz (oK d1 i)) ∧ IntKind.wrap IntKind.i64 (fz d2) = fz d2 ∧ IntKind.wrap IntKind.i64 (fz d3) = fz d3 ∧ IntKind.wrap IntKind.i64 (fz d4) = fz d4 ∧ True ∧ True → ((lU d1 = lU d1 ∧ ∀ (i : Nat), i < lU d1 → True ∧ fz (oK d1 i) = fz (oK d1 i)) ∧ fz d2 = fz d2 ∧ fz d3 = fz d3 ∧ fz d4 = fz d4 ∧ Ih d5 = Ih d5 ∧ True) ∧ True ∧ (∀ (k : Nat), k < lU d1 → (-9223372036854775808 : Int) ≤ fz (oK d1 k) ∧ fz (oK d1 k) ≤ (9223372036854775807 : Int)) ∧ ((-9223372036854775808 : Int) ≤ fz d2 ∧ fz d2 ≤ (9223372036854775807 : Int)) ∧ ((-9223372036854775808 : Int) ≤ fz d3 ∧ fz d3 ≤ (9223372036854775807 : Int)) ∧ (-9223372036854775808 : Int) ≤ fz d4 ∧ fz d4 ≤ (9223372036854775807 : Int)) := by kernel_rfl
  rw [e]
  clear e
  rintro ⟨⟨_, h1⟩, h2, h3, h4, _⟩
  have i64 : ∀ x : Int, IntKind.i64.wrap x = x → -9223372036854775808 ≤ x ∧ x ≤ 9223372036854775807 := fun x h => by rw [IntKind.wrap_i64] at h; omega
  repeat' (first | exact trivial | rfl | refine And.intro ?_ ?_ | intro _)
  all_goals first | exact (i64 _ (h1 _ ‹_›)).1 | exact (i64 _ (h1 _ ‹_›)).2 | exact (i64 _ h2).1 | exact (i64 _ h2).2 | exact (i64 _ h3).1 | exact (i64 _ h3).2 | exact (i64 _ h4).1 | exact (i64 _ h4).2
theorem L.lifted (os : Os) (started : os.Started) (H : Type) (enc : TypeId × Value → H) :
    ReturnsInHanded {} Tryz.checked os 4 .any (fun w args => (Rows.topCallSpec.pre enc Tryz.prog Tryz.f4 [] false w args ∧ laidMetH Tryz.prog Rows.topCallRow.laid w) ∧ sizedMet enc Tryz.prog Tryz.f4 (OpenSpec.ofChange Rows.topCallSpec) false w args)
      (Rows.topCallSpec.post enc Tryz.prog Tryz.f4 false true false false) := by
  refine K.lift (X := fun w => laidMetH Tryz.prog Rows.topCallRow.laid w) (fun _ _ hh h => h.of_heap hh) os started H enc (by kernel_rfl) Tryz.func4 (fun ds h => ?_) rfl rfl (by kernel_rfl)
    (K.adk (enc := enc) (os := os) (X := fun w => laidMetH Tryz.prog Rows.topCallRow.laid w) (K.OJ os) (abw Tryz.prog Tryz.f4.params.toList) rfl (by kernel_rfl) (by kernel_rfl) (by kernel_rfl) (by kernel_rfl) (by kernel_rfl) (K.adl os _)) ?_
  · have h : ds.length = 5 := h
    match ds, h with
    | [d1, d2, d3, d4, d5], _ => rfl
  · intro W base args ds p adm hA hL jl
    refine VC TO (fun ds h hw => UA ?_) (K.gX hL (by unfold Rows.topCallRow; simp) (by unfold Rows.topCallRow; simp)) hA (K.len hA) (fun j t v e e' => adm j t v (by simpa using e) e')
    have h : ds.length = 5 := h
    match ds, h, hw with
    | [d1, d2, d3, d4, d5], _, hw => exact L.ask d1 d2 d3 d4 d5 hw
theorem L.holds : Rows.TopCallSaid :=
  OpenClaim.holds_of_wide 4 Tryz.f4 rfl rfl rfl rfl rfl rfl rfl ⟨rfl, rfl, rfl, rfl, rfl⟩ rfl rfl rfl rfl rfl (by kernel_rfl) Tryz.func4 (by kernel_rfl)
    (of_decide_eq_true (by kernel_rfl)) (by unfold Func.isWrapper; rw [if_neg (of_decide_eq_false (by kernel_rfl))]; exact ⟨rfl, rfl⟩)
    (fun os started H enc _ => L.lifted os started H enc)
theorem topCall_holds : Rows.TopCallCardSaid :=
  Claim7.holds_tied_plain_at .later [] [.handle, .data, .data] true (true, "c42ee81e9d219d82f57c91fcb5bcb70b15dfcc2e28491c1e85f41234fc6d6ca8") true
    L.holds (fun _ h => by cases h) (by kernel_rfl) (fun _ h => by cases h) topCall_row_tie rfl ⟨rfl, rfl⟩ (by kernel_rfl) rfl
    (fun f fn hf hfn => by
      obtain rfl : f = 4 := Option.some.inj ((show Tryz.prog.funcNamed "keyhold/keyholdtop.TopCall" = some 4 by kernel_rfl).symm.trans hf) |>.symm
      obtain rfl : fn = Tryz.f4 := (Option.some.inj (Tryz.func4.symm.trans hfn)).symm
      exact ⟨by kernel_rfl, fun j t ht => K.Xo (by kernel_rfl) ht⟩)
    (by kernel_rfl)
#print axioms topCall_holds
end Go.Proofs.YthgmgkabnffniaaGreatDoor
