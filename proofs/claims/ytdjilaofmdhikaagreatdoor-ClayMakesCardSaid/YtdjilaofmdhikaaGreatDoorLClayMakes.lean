/- Proved: keyholdlaw.ClayMakes returns true at all arguments, whatever the world in which it is called, where the variables that its row names hold what the program's text lays there. -/
import Derived.Test.YtdjilaofmdhikaaGreatDoorYN
set_option linter.unusedVariables false
set_option linter.unusedSimpArgs false
set_option linter.unusedVariables false
set_option linter.unusedSimpArgs false
set_option maxRecDepth 100000
namespace Go.Proofs.YtdjilaofmdhikaaGreatDoor
open Go.ChangeShapes Go.WideShapes Go.RowKit Go.Sy
theorem L.ask {H : Type} (d1 : DataW H) (d2 : DataW H) (d3 : DataW H) (d4 : DataW H) (d5 : DataW H) : dwfs Tryz.prog Tryz.f5.params.toList [d1, d2, d3, d4, d5] → prOf (c_clayMakes.g (dvals Tryz.prog Tryz.f5.params.toList [d1, d2, d3, d4, d5]) []) := by
  repeat' (first | exact trivial | rfl | refine And.intro ?_ ?_ | intro _)
theorem L.lifted (os : Os) (started : os.Started) (H : Type) (enc : TypeId × Value → H) :
    ReturnsInHanded {} Tryz.checked os 5 .any (fun w args => (Rows.clayMakesSpec.pre enc Tryz.prog Tryz.f5 [] false w args ∧ laidMetH Tryz.prog Rows.clayMakesRow.laid w) ∧ sizedMet enc Tryz.prog Tryz.f5 (OpenSpec.ofChange Rows.clayMakesSpec) false w args)
      (Rows.clayMakesSpec.post enc Tryz.prog Tryz.f5 false true false false) := by
  refine K.lift (X := fun w => laidMetH Tryz.prog Rows.clayMakesRow.laid w) (fun _ _ hh h => h.of_heap hh) os started H enc (by kernel_rfl) Tryz.func5 (fun ds h => ?_) rfl rfl (by kernel_rfl)
    (ChangeSpec.witness_at (enc := enc) (C := Tryz.checked) (os := os) (X := fun w _ => laidMetH Tryz.prog Rows.clayMakesRow.laid w) false (K.world os) (zeros Tryz.prog Tryz.f5.params.toList) 8 rfl (by kernel_rfl) (by kernel_rfl) (by kernel_rfl) (by kernel_rfl) (by kernel_rfl) (K.met os _)) ?_
  · have h : ds.length = 5 := h
    match ds, h with
    | [d1, d2, d3, d4, d5], _ => rfl
  · intro W base args ds p hval hA hL hlt
    refine law_call ok_clayMakes (fun ds h hw => prOf_spec ?_) (K.gE hL (by unfold Rows.clayMakesRow; simp)) hA (K.len hA) (fun j t v e e' => hval j t v (by simpa using e) e')
    have h : ds.length = 5 := h
    match ds, h, hw with
    | [d1, d2, d3, d4, d5], _, hw => exact L.ask d1 d2 d3 d4 d5 hw
theorem L.holds : Rows.ClayMakesSaid :=
  OpenClaim.holds_of_wide 5 Tryz.f5 rfl rfl rfl rfl rfl rfl rfl ⟨rfl, rfl, rfl, rfl, rfl⟩ rfl rfl rfl rfl rfl (by kernel_rfl) Tryz.func5 (by kernel_rfl)
    (of_decide_eq_true (by kernel_rfl)) (by unfold Func.isWrapper; rw [if_neg (of_decide_eq_false (by kernel_rfl))]; exact ⟨rfl, rfl⟩)
    (fun os started H enc _ => L.lifted os started H enc)
theorem clayMakes_holds : Rows.ClayMakesCardSaid :=
  Claim7.holds_tied_plain_at .later [] [.handle] true (true, "13042da8f72455566a9c21ca38543c20691413617ce85731d6d1512b93895b9a") true
    L.holds (fun _ h => by cases h) (by kernel_rfl) (fun _ h => by cases h) clayMakes_row_tie rfl ⟨rfl, rfl⟩ (by kernel_rfl) rfl
    (fun f fn hf hfn => by
      obtain rfl : f = 5 := Option.some.inj ((show Tryz.prog.funcNamed "keyhold/keyholdlaw.ClayMakes" = some 5 by kernel_rfl).symm.trans hf) |>.symm
      obtain rfl : fn = Tryz.f5 := (Option.some.inj (Tryz.func5.symm.trans hfn)).symm
      exact ⟨by kernel_rfl, fun j t ht => K.noStand (by kernel_rfl) ht⟩)
    (by kernel_rfl)
#print axioms clayMakes_holds
end Go.Proofs.YtdjilaofmdhikaaGreatDoor
