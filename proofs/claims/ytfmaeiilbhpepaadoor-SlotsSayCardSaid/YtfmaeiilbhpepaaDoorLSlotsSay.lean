/- Proved: keyholdlaw.SlotsSay returns true at all arguments, whatever the world in which it is called, where the variables that its row names hold what the program's text lays there. -/
import Derived.Test.YtfmaeiilbhpepaaDoorYK
set_option linter.unusedVariables false
set_option linter.unusedSimpArgs false
set_option linter.unusedVariables false
set_option linter.unusedSimpArgs false
set_option maxRecDepth 100000
namespace Go.Proofs.YtfmaeiilbhpepaaDoor
open Go.ChangeShapes Go.WideShapes Go.RowKit Go.Sy
theorem L.ask {H : Type} (d1 : DataW H) (d2 : DataW H) (d3 : DataW H) (d4 : DataW H) (d5 : DataW H) : dwfs Tryd.prog Tryd.f13.params.toList [d1, d2, d3, d4, d5] → prOf (c_slotsSay.g (dvals Tryd.prog Tryd.f13.params.toList [d1, d2, d3, d4, d5]) []) := by
  repeat' (first | exact trivial | rfl | refine And.intro ?_ ?_ | intro _)
theorem L.lifted (os : Os) (started : os.Started) (H : Type) (enc : TypeId × Value → H) :
    ReturnsInHanded {} Tryd.checked os 13 .any (fun w args => (Rows.slotsSaySpec.pre enc Tryd.prog Tryd.f13 [] false w args ∧ laidMetH Tryd.prog Rows.slotsSayRow.laid w) ∧ sizedMet enc Tryd.prog Tryd.f13 (OpenSpec.ofChange Rows.slotsSaySpec) false w args)
      (Rows.slotsSaySpec.post enc Tryd.prog Tryd.f13 false true false false) := by
  refine K.lift (X := fun w => laidMetH Tryd.prog Rows.slotsSayRow.laid w) (fun _ _ hh h => h.of_heap hh) os started H enc (by kernel_rfl) Tryd.func13 (fun ds h => ?_) rfl rfl (by kernel_rfl)
    (ChangeSpec.witness_at (enc := enc) (C := Tryd.checked) (os := os) (X := fun w _ => laidMetH Tryd.prog Rows.slotsSayRow.laid w) false (K.world os) (zeros Tryd.prog Tryd.f13.params.toList) 8 rfl (by kernel_rfl) (by kernel_rfl) (by kernel_rfl) (by kernel_rfl) (by kernel_rfl) (K.met os _)) ?_
  · have h : ds.length = 5 := h
    match ds, h with
    | [d1, d2, d3, d4, d5], _ => rfl
  · intro W base args ds p hval hA hL hlt
    refine law_call ok_slotsSay (fun ds h hw => prOf_spec ?_) (K.gE hL (by unfold Rows.slotsSayRow; simp)) hA (K.len hA) (fun j t v e e' => hval j t v (by simpa using e) e')
    have h : ds.length = 5 := h
    match ds, h, hw with
    | [d1, d2, d3, d4, d5], _, hw => exact L.ask d1 d2 d3 d4 d5 hw
theorem L.holds : Rows.SlotsSaySaid :=
  OpenClaim.holds_of_wide 13 Tryd.f13 rfl rfl rfl rfl rfl rfl rfl ⟨rfl, rfl, rfl, rfl, rfl⟩ rfl rfl rfl rfl rfl (by kernel_rfl) Tryd.func13 (by kernel_rfl)
    (of_decide_eq_true (by kernel_rfl)) (by unfold Func.isWrapper; rw [if_neg (of_decide_eq_false (by kernel_rfl))]; exact ⟨rfl, rfl⟩)
    (fun os started H enc _ => L.lifted os started H enc)
theorem slotsSay_holds : Rows.SlotsSayCardSaid :=
  Claim7.holds_tied_plain_at .later [] [.handle] true (true, "50259b477bce9038f419d339a4af7868793bcb6fe799780e20f62995f1493973") true
    L.holds (fun _ h => by cases h) (by kernel_rfl) (fun _ h => by cases h) slotsSay_row_tie rfl ⟨rfl, rfl⟩ (by kernel_rfl) rfl
    (fun f fn hf hfn => by
      obtain rfl : f = 13 := Option.some.inj ((show Tryd.prog.funcNamed "keyhold/keyholdlaw.SlotsSay" = some 13 by kernel_rfl).symm.trans hf) |>.symm
      obtain rfl : fn = Tryd.f13 := (Option.some.inj (Tryd.func13.symm.trans hfn)).symm
      exact ⟨by kernel_rfl, fun j t ht => K.noStand (by kernel_rfl) ht⟩)
    (by kernel_rfl)
#print axioms slotsSay_holds
end Go.Proofs.YtfmaeiilbhpepaaDoor
