/- Proved: keyholdlaw.TopBell returns true at all arguments, whatever the world in which it is called, where the variables that its row names hold what the program's text lays there. -/
import Derived.Test.YthgmgkabnffniaaGreatDoorYS
set_option linter.unusedVariables false
set_option linter.unusedSimpArgs false
set_option linter.unusedVariables false
set_option linter.unusedSimpArgs false
set_option maxRecDepth 100000
namespace Go.Proofs.YthgmgkabnffniaaGreatDoor
open Go.ChangeShapes Go.WideShapes Go.RowKit Go.Sy
theorem L.ask {H : Type} (d1 : DataW H) (d2 : DataW H) (d3 : DataW H) : B4 Tryz.prog Tryz.f3.params.toList [d1, d2, d3] → Fo (GU.g (BD Tryz.prog Tryz.f3.params.toList [d1, d2, d3]) []) := by
  have e : (B4 Tryz.prog Tryz.f3.params.toList [d1, d2, d3] → Fo (GU.g (BD Tryz.prog Tryz.f3.params.toList [d1, d2, d3]) [])) = (((↑(jW d1) : Int) ≤ (9223372036854775807 : Int) ∧ ∀ (i : Nat), i < jW d1 → IntKind.wrap IntKind.i64 (jm (lM d1 i)) = jm (lM d1 i)) ∧ ((↑(jW d2) : Int) ≤ (9223372036854775807 : Int) ∧ ∀ (i : Nat), i < jW d2 → IntKind.wrap IntKind.i64 (jm (lM d2 i)) = jm (lM d2 i)) ∧ IntKind.wrap IntKind.i64 (jm d3) = jm d3 ∧ True → ((jW d1 = jW d1 ∧ ∀ (i : Nat), i < jW d1 → True ∧ jm (lM d1 i) = jm (lM d1 i)) ∧ (jW d2 = jW d2 ∧ ∀ (i : Nat), i < jW d2 → True ∧ jm (lM d2 i) = jm (lM d2 i)) ∧ jm d3 = jm d3 ∧ True) ∧ True ∧ (∀ (k : Nat), k < jW d1 → (-9223372036854775808 : Int) ≤ jm (lM d1 k) ∧ jm (lM d1 k) ≤ (9223372036854775807 : Int)) ∧ (∀ (k : Nat), k < jW d2 → (-9223372036854775808 : Int) ≤ jm (lM d2 k) ∧ jm (lM d2 k) ≤ (9223372036854775807 : Int)) ∧ (-9223372036854775808 : Int) ≤ jm d3 ∧ jm d3 ≤ (9223372036854775807 : Int)) := by kernel_rfl
  rw [e]
  clear e
  rintro ⟨⟨_, J⟩, ⟨_, h2⟩, h3, _⟩
  have i64 : ∀ x : Int, IntKind.i64.wrap x = x → -9223372036854775808 ≤ x ∧ x ≤ 9223372036854775807 := fun x h => by rw [IntKind.wrap_i64] at h; omega
  repeat' (first | exact trivial | rfl | refine And.intro ?_ ?_ | intro _)
  all_goals first | exact (i64 _ (J _ ‹_›)).1 | exact (i64 _ (J _ ‹_›)).2 | exact (i64 _ (h2 _ ‹_›)).1 | exact (i64 _ (h2 _ ‹_›)).2 | exact (i64 _ h3).1 | exact (i64 _ h3).2
theorem L.lifted (os : Os) (started : os.Started) (H : Type) (enc : TypeId × Value → H) :
    ReturnsInHanded {} Tryz.checked os 3 .any (fun w args => (Rows.topBellSpec.pre enc Tryz.prog Tryz.f3 [] false w args ∧ laidMetH Tryz.prog Rows.topBellRow.laid w) ∧ sizedMet enc Tryz.prog Tryz.f3 (OpenSpec.ofChange Rows.topBellSpec) false w args)
      (Rows.topBellSpec.post enc Tryz.prog Tryz.f3 false true false false) := by
  refine K.lift (X := fun w => laidMetH Tryz.prog Rows.topBellRow.laid w) (fun _ _ hh h => h.of_heap hh) os started H enc (by kernel_rfl) Tryz.func3 (fun ds h => ?_) rfl rfl (by kernel_rfl)
    (K.agw (enc := enc) (os := os) (X := fun w => laidMetH Tryz.prog Rows.topBellRow.laid w) (K.Rx os) (aeU Tryz.prog Tryz.f3.params.toList) rfl (by kernel_rfl) (by kernel_rfl) (by kernel_rfl) (by kernel_rfl) (by kernel_rfl) (K.agx os _)) ?_
  · have h : ds.length = 3 := h
    match ds, h with
    | [d1, d2, d3], _ => rfl
  · intro W base args ds p BZ hA hL av
    refine Zt XD (fun ds h hw => Yr ?_) (K.gK hL (by unfold Rows.topBellRow; simp)) hA (K.len hA) (fun j t v e e' => BZ j t v (by simpa using e) e')
    have h : ds.length = 3 := h
    match ds, h, hw with
    | [d1, d2, d3], _, hw => exact L.ask d1 d2 d3 hw
theorem L.holds : Rows.TopBellSaid :=
  OpenClaim.holds_of_wide 3 Tryz.f3 rfl rfl rfl rfl rfl rfl rfl ⟨rfl, rfl, rfl, rfl, rfl⟩ rfl rfl rfl rfl rfl (by kernel_rfl) Tryz.func3 (by kernel_rfl)
    (of_decide_eq_true (by kernel_rfl)) (by unfold Func.isWrapper; rw [if_neg (of_decide_eq_false (by kernel_rfl))]; exact ⟨rfl, rfl⟩)
    (fun os started H enc _ => L.lifted os started H enc)
theorem topBell_holds : Rows.TopBellCardSaid :=
  Claim7.holds_tied_plain_at .later [] [.data, .data] true (true, "c42ee81e9d219d82f57c91fcb5bcb70b15dfcc2e28491c1e85f41234fc6d6ca8") true
    L.holds (fun _ h => by cases h) (by kernel_rfl) (fun _ h => by cases h) topBell_row_tie rfl ⟨rfl, rfl⟩ (by kernel_rfl) rfl
    (fun f fn hf mJ => by
      obtain rfl : f = 3 := Option.some.inj ((show Tryz.prog.funcNamed "keyhold/keyholdtop.TopBell" = some 3 by kernel_rfl).symm.trans hf) |>.symm
      obtain rfl : fn = Tryz.f3 := (Option.some.inj (Tryz.func3.symm.trans mJ)).symm
      exact ⟨by kernel_rfl, fun j t ht => K.aa_ (by kernel_rfl) ht⟩)
    (by kernel_rfl)
#print axioms topBell_holds
end Go.Proofs.YthgmgkabnffniaaGreatDoor
