/- Proved: keyholdlaw.PartsSay returns true at all arguments, whatever the world in which it is called, where the variables that its row names hold what the program's text lays there. -/
import Derived.Test.YtbngaammbjaajaaGreatDoorYN
set_option linter.unusedVariables false
set_option linter.unusedSimpArgs false
set_option linter.unusedVariables false
set_option linter.unusedSimpArgs false
set_option maxRecDepth 100000
namespace Go.Proofs.YtbngaammbjaajaaGreatDoor
open Go.ChangeShapes Go.WideShapes Go.RowKit Go.Sy
theorem L.ask {H : Type} (d1 : DataW H) (d2 : DataW H) : yb Tryz.prog Tryz.f3.params.toList [d1, d2] → CT (EA.g (xA Tryz.prog Tryz.f3.params.toList [d1, d2]) []) := by
  repeat' (first | exact trivial | rfl | refine And.intro ?_ ?_ | intro _)
theorem L.lifted (os : Os) (started : os.Started) (H : Type) (enc : TypeId × Value → H) :
    ReturnsInHanded {} Tryz.checked os 3 .any (fun w args => (Rows.partsSaySpec.pre enc Tryz.prog Tryz.f3 [] false w args ∧ laidMetH Tryz.prog Rows.partsSayRow.laid w) ∧ sizedMet enc Tryz.prog Tryz.f3 (OpenSpec.ofChange Rows.partsSaySpec) false w args)
      (Rows.partsSaySpec.post enc Tryz.prog Tryz.f3 false true false false) := by
  refine K.lift (X := fun w => laidMetH Tryz.prog Rows.partsSayRow.laid w) (fun _ _ hh h => h.of_heap hh) os started H enc (by kernel_rfl) Tryz.func3 (fun ds h => ?_) rfl rfl (by kernel_rfl)
    (ChangeSpec.witness_at (enc := enc) (C := Tryz.checked) (os := os) (X := fun w _ => laidMetH Tryz.prog Rows.partsSayRow.laid w) false (K.world os) (RU Tryz.prog Tryz.f3.params.toList) 8 rfl (by kernel_rfl) (by kernel_rfl) (by kernel_rfl) (by kernel_rfl) (by kernel_rfl) (K.met os _)) ?_
  · have h : ds.length = 2 := h
    match ds, h with
    | [d1, d2], _ => rfl
  · intro W base args ds p tW hA hL ai
    refine NZ LP (fun ds h hw => MY ?_) (K.gE hL (by unfold Rows.partsSayRow; simp)) hA (K.len hA) (fun j t v e e' => tW j t v (by simpa using e) e')
    have h : ds.length = 2 := h
    match ds, h, hw with
    | [d1, d2], _, hw => exact L.ask d1 d2 hw
theorem L.holds : Rows.PartsSaySaid :=
  OpenClaim.holds_of_wide 3 Tryz.f3 rfl rfl rfl rfl rfl rfl rfl ⟨rfl, rfl, rfl, rfl, rfl⟩ rfl rfl rfl rfl rfl (by kernel_rfl) Tryz.func3 (by kernel_rfl)
    (of_decide_eq_true (by kernel_rfl)) (by unfold Func.isWrapper; rw [if_neg (of_decide_eq_false (by kernel_rfl))]; exact ⟨rfl, rfl⟩)
    (fun os started H enc _ => L.lifted os started H enc)
theorem partsSay_holds : Rows.PartsSayCardSaid :=
  Claim7.holds_tied_plain_at .later [] [.handle] true (true, "f9290cddfaf47731e0108763cc9691a1e9dd71de1a323790ce390f7e562d6fa4") true
    L.holds (fun _ h => by cases h) (by kernel_rfl) (fun _ h => by cases h) partsSay_row_tie rfl ⟨rfl, rfl⟩ (by kernel_rfl) rfl
    (fun f fn hf gG => by
      obtain rfl : f = 3 := Option.some.inj ((show Tryz.prog.funcNamed "keyhold/keyholdlaw.PartsSay" = some 3 by kernel_rfl).symm.trans hf) |>.symm
      obtain rfl : fn = Tryz.f3 := (Option.some.inj (Tryz.func3.symm.trans gG)).symm
      exact ⟨by kernel_rfl, fun j t ht => K.Po (by kernel_rfl) ht⟩)
    (by kernel_rfl)
#print axioms partsSay_holds
end Go.Proofs.YtbngaammbjaajaaGreatDoor
