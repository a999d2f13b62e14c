/- Proved: keyholdtop.TopKeys returns true at all arguments, whatever the world in which it is called. -/
import Derived.Test.YtdjilaofmdhikaaYH
set_option linter.unusedVariables false
set_option linter.unusedSimpArgs false
set_option linter.unusedVariables false
set_option linter.unusedSimpArgs false
set_option maxRecDepth 100000
namespace Go.Proofs.Ytdjilaofmdhikaa
open Go.ChangeShapes Go.WideShapes Go.RowKit Go.Sy
theorem L.ask {H : Type} (d1 : DataW H) (d2 : DataW H) : dwfs Try.prog Try.f3.params.toList [d1, d2] → prOf (c_topKeys.g (dvals Try.prog Try.f3.params.toList [d1, d2]) []) := by
  repeat' (first | exact trivial | rfl | refine And.intro ?_ ?_ | intro _)
theorem L.lifted (os : Os) (started : os.Started) (H : Type) (enc : TypeId × Value → H) :
    ReturnsInHanded {} Try.checked os 3 .any (fun w args => (Rows.topKeysSpec.pre enc Try.prog Try.f3 [] false w args ∧ True) ∧ sizedMet enc Try.prog Try.f3 (OpenSpec.ofChange Rows.topKeysSpec) false w args)
      (Rows.topKeysSpec.post enc Try.prog Try.f3 false true false false) := by
  refine K.lift (X := fun w => True) (fun _ _ _ h => h) os started H enc (by kernel_rfl) Try.func3 (fun ds h => ?_) rfl rfl (by kernel_rfl)
    (ChangeSpec.witness_at (enc := enc) (C := Try.checked) (os := os) (X := fun w _ => True) false (K.world os) (zeros Try.prog Try.f3.params.toList) 8 rfl (by kernel_rfl) (by kernel_rfl) (by kernel_rfl) (by kernel_rfl) (by kernel_rfl) trivial) ?_
  · have h : ds.length = 2 := h
    match ds, h with
    | [d1, d2], _ => rfl
  · intro W base args ds p hval hA hL hlt
    refine law_call ok_topKeys (fun ds h hw => prOf_spec ?_) (fun g => K.gN W g) hA (K.len hA) (fun j t v e e' => hval j t v (by simpa using e) e')
    have h : ds.length = 2 := h
    match ds, h, hw with
    | [d1, d2], _, hw => exact L.ask d1 d2 hw
theorem L.lifted2 (os : Os) (started : os.Started) (H : Type) (enc : TypeId × Value → H) :
    ReturnsInHanded {} Try.checked os 3 .any (fun w args => Rows.topKeysSpec.pre enc Try.prog Try.f3 [] false w args ∧ sizedMet enc Try.prog Try.f3 (OpenSpec.ofChange Rows.topKeysSpec) false w args)
      (Rows.topKeysSpec.post enc Try.prog Try.f3 false true false false) := by
  have h := L.lifted os started H enc
  simp only [and_true] at h
  exact h
theorem topKeys_holds : Rows.TopKeysSaid :=
  OpenClaim.holds_of_wide 3 Try.f3 rfl rfl rfl rfl rfl rfl rfl ⟨rfl, rfl, rfl, rfl, rfl⟩ rfl rfl rfl rfl rfl (by kernel_rfl) Try.func3 (by kernel_rfl)
    (of_decide_eq_true (by kernel_rfl)) (by unfold Func.isWrapper; rw [if_neg (of_decide_eq_false (by kernel_rfl))]; exact ⟨rfl, rfl⟩)
    (fun os started H enc _ => L.lifted2 os started H enc)
#print axioms topKeys_holds
end Go.Proofs.Ytdjilaofmdhikaa
