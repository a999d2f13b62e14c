/- Proved: keyholdlaw.CpuSteps returns true at all arguments, whatever the world in which it is called, where the variables that its row names hold what the program's text lays there. -/
import Derived.Test.YtfmaeiilbhpepaaDoorYP4
import Derived.Test.YtfmaeiilbhpepaaDoorYF
set_option linter.unusedVariables false
set_option linter.unusedSimpArgs false
set_option linter.unusedVariables false
set_option linter.unusedSimpArgs false
set_option maxRecDepth 100000
namespace Go.Proofs.YtfmaeiilbhpepaaDoor
open Go.ChangeShapes Go.WideShapes Go.RowKit Go.Sy
theorem L.ask {H : Type} (d1 : DataW H) (d2 : DataW H) (d3 : DataW H) (d4 : DataW H) : dwfs Tryd.prog Tryd.f6.params.toList [d1, d2, d3, d4] → prOf (c_cpuSteps.g (dvals Tryd.prog Tryd.f6.params.toList [d1, d2, d3, d4]) []) := by
  have e : (dwfs Tryd.prog Tryd.f6.params.toList [d1, d2, d3, d4] → prOf (c_cpuSteps.g (dvals Tryd.prog Tryd.f6.params.toList [d1, d2, d3, d4]) [])) = ((∀ (i : Nat), i < (8 : Nat) → IntKind.wrap IntKind.i64 (litI (dpart d1 i)) = litI (dpart d1 i)) ∧ IntKind.wrap IntKind.i64 (litI d2) = litI d2 ∧ ((↑(dlen d3) : Int) ≤ (9223372036854775807 : Int) ∧ ∀ (i : Nat), i < dlen d3 → IntKind.wrap IntKind.i64 (litI (delem d3 i)) = litI (delem d3 i)) ∧ IntKind.wrap IntKind.i64 (litI d4) = litI d4 ∧ True → (((((((((True ∧ litI (dpart d1 (nat_lit 0 / Program.cellsOf Tryd.prog (3 : Nat))) = litI (dpart d1 ((0 : Nat) / Program.cellsOf Tryd.prog (3 : Nat)))) ∧ litI (dpart d1 (nat_lit 1 / Program.cellsOf Tryd.prog (3 : Nat))) = litI (dpart d1 ((1 : Nat) / Program.cellsOf Tryd.prog (3 : Nat)))) ∧ litI (dpart d1 (nat_lit 2 / Program.cellsOf Tryd.prog (3 : Nat))) = litI (dpart d1 ((2 : Nat) / Program.cellsOf Tryd.prog (3 : Nat)))) ∧ litI (dpart d1 (nat_lit 3 / Program.cellsOf Tryd.prog (3 : Nat))) = litI (dpart d1 ((3 : Nat) / Program.cellsOf Tryd.prog (3 : Nat)))) ∧ litI (dpart d1 (nat_lit 4 / Program.cellsOf Tryd.prog (3 : Nat))) = litI (dpart d1 ((4 : Nat) / Program.cellsOf Tryd.prog (3 : Nat)))) ∧ litI (dpart d1 (nat_lit 5 / Program.cellsOf Tryd.prog (3 : Nat))) = litI (dpart d1 ((5 : Nat) / Program.cellsOf Tryd.prog (3 : Nat)))) ∧ litI (dpart d1 (nat_lit 6 / Program.cellsOf Tryd.prog (3 : Nat))) = litI (dpart d1 ((6 : Nat) / Program.cellsOf Tryd.prog (3 : Nat)))) ∧ litI (dpart d1 (nat_lit 7 / Program.cellsOf Tryd.prog (3 : Nat))) = litI (dpart d1 ((7 : Nat) / Program.cellsOf Tryd.prog (3 : Nat)))) ∧ litI d2 = litI d2 ∧ (dlen d3 = dlen d3 ∧ ∀ (i : Nat), i < dlen d3 → True ∧ litI (delem d3 i) = litI (delem d3 i)) ∧ litI d4 = litI d4 ∧ True) ∧ True ∧ ((-9223372036854775808 : Int) ≤ litI (dpart d1 ((0 : Nat) / Program.cellsOf Tryd.prog (3 : Nat))) ∧ litI (dpart d1 ((0 : Nat) / Program.cellsOf Tryd.prog (3 : Nat))) ≤ (9223372036854775807 : Int)) ∧ ((-9223372036854775808 : Int) ≤ litI (dpart d1 ((1 : Nat) / Program.cellsOf Tryd.prog (3 : Nat))) ∧ litI (dpart d1 ((1 : Nat) / Program.cellsOf Tryd.prog (3 : Nat))) ≤ (9223372036854775807 : Int)) ∧ ((-9223372036854775808 : Int) ≤ litI (dpart d1 ((2 : Nat) / Program.cellsOf Tryd.prog (3 : Nat))) ∧ litI (dpart d1 ((2 : Nat) / Program.cellsOf Tryd.prog (3 : Nat))) ≤ (9223372036854775807 : Int)) ∧ ((-9223372036854775808 : Int) ≤ litI (dpart d1 ((3 : Nat) / Program.cellsOf Tryd.prog (3 : Nat))) ∧ litI (dpart d1 ((3 : Nat) / Program.cellsOf Tryd.prog (3 : Nat))) ≤ (9223372036854775807 : Int)) ∧ ((-9223372036854775808 : Int) ≤ litI (dpart d1 ((4 : Nat) / Program.cellsOf Tryd.prog (3 : Nat))) ∧ litI (dpart d1 ((4 : Nat) / Program.cellsOf Tryd.prog (3 : Nat))) ≤ (9223372036854775807 : Int)) ∧ ((-9223372036854775808 : Int) ≤ litI (dpart d1 ((5 : Nat) / Program.cellsOf Tryd.prog (3 : Nat))) ∧ litI (dpart d1 ((5 : Nat) / Program.cellsOf Tryd.prog (3 : Nat))) ≤ (9223372036854775807 : Int)) ∧ ((-9223372036854775808 : Int) ≤ litI (dpart d1 ((6 : Nat) / Program.cellsOf Tryd.prog (3 : Nat))) ∧ litI (dpart d1 ((6 : Nat) / Program.cellsOf Tryd.prog (3 : Nat))) ≤ (9223372036854775807 : Int)) ∧ ((-9223372036854775808 : Int) ≤ litI (dpart d1 ((7 : Nat) / Program.cellsOf Tryd.prog (3 : Nat))) ∧ litI (dpart d1 ((7 : Nat) / Program.cellsOf Tryd.prog (3 : Nat))) ≤ (9223372036854775807 : Int)) ∧ ((-9223372036854775808 : Int) ≤ litI d2 ∧ litI d2 ≤ (9223372036854775807 : Int)) ∧ ((-9223372036854775808 : Int) ≤ litI d4 ∧ litI d4 ≤ (9223372036854775807 : Int)) ∧ ∀ (i : Nat), i < dlen d3 → (-9223372036854775808 : Int) ≤ litI (delem d3 i) ∧ litI (delem d3 i) ≤ (9223372036854775807 : Int)) := by kernel_rfl
  rw [e]
  clear e
  rintro ⟨h1, h2, ⟨_, h3⟩, h4, _⟩
  have i64 : ∀ x : Int, IntKind.i64.wrap x = x → -9223372036854775808 ≤ x ∧ x ≤ 9223372036854775807 := fun x h => by rw [IntKind.wrap_i64] at h; omega
  have e : Program.cellsOf Tryd.prog 3 = 1 := by kernel_rfl
  simp only [e, Nat.div_one]
  repeat' (first | exact trivial | rfl | refine And.intro ?_ ?_ | intro _)
  all_goals first | exact (i64 _ (h1 _ (by omega))).1 | exact (i64 _ (h1 _ (by omega))).2 | exact (i64 _ h2).1 | exact (i64 _ h2).2 | exact (i64 _ h4).1 | exact (i64 _ h4).2 | exact (i64 _ (h3 _ ‹_›)).1 | exact (i64 _ (h3 _ ‹_›)).2
theorem L.lifted (os : Os) (started : os.Started) (H : Type) (enc : TypeId × Value → H) :
    ReturnsInHanded {} Tryd.checked os 6 .any (fun w args => (Rows.cpuStepsSpec.pre enc Tryd.prog Tryd.f6 [] false w args ∧ laidMetH Tryd.prog Rows.cpuStepsRow.laid w) ∧ sizedMet enc Tryd.prog Tryd.f6 (OpenSpec.ofChange Rows.cpuStepsSpec) false w args)
      (Rows.cpuStepsSpec.post enc Tryd.prog Tryd.f6 false true false false) := by
  refine K.lift (X := fun w => laidMetH Tryd.prog Rows.cpuStepsRow.laid w) (fun _ _ hh h => h.of_heap hh) os started H enc (by kernel_rfl) Tryd.func6 (fun ds h => ?_) rfl rfl (by kernel_rfl)
    (ChangeSpec.witness_at (enc := enc) (C := Tryd.checked) (os := os) (X := fun w _ => laidMetH Tryd.prog Rows.cpuStepsRow.laid w) false (K.world1 os) (zeros Tryd.prog Tryd.f6.params.toList) 8 rfl (by kernel_rfl) (by kernel_rfl) (by kernel_rfl) (by kernel_rfl) (by kernel_rfl) (K.met1 os _)) ?_
  · have h : ds.length = 4 := h
    match ds, h with
    | [d1, d2, d3, d4], _ => rfl
  · intro W base args ds p hval hA hL hlt
    refine law_call ok_cpuSteps (fun ds h hw => prOf_spec ?_) (K.gS hL (by unfold Rows.cpuStepsRow; simp)) hA (K.len hA) (fun j t v e e' => hval j t v (by simpa using e) e')
    have h : ds.length = 4 := h
    match ds, h, hw with
    | [d1, d2, d3, d4], _, hw => exact L.ask d1 d2 d3 d4 hw
theorem L.holds : Rows.CpuStepsSaid :=
  OpenClaim.holds_of_wide 6 Tryd.f6 rfl rfl rfl rfl rfl rfl rfl ⟨rfl, rfl, rfl, rfl, rfl⟩ rfl rfl rfl rfl rfl (by kernel_rfl) Tryd.func6 (by kernel_rfl)
    (of_decide_eq_true (by kernel_rfl)) (by unfold Func.isWrapper; rw [if_neg (of_decide_eq_false (by kernel_rfl))]; exact ⟨rfl, rfl⟩)
    (fun os started H enc _ => L.lifted os started H enc)
theorem cpuSteps_holds : Rows.CpuStepsCardSaid :=
  Claim7.holds_tied_plain_at .later [] [.data] true (true, "50259b477bce9038f419d339a4af7868793bcb6fe799780e20f62995f1493973") true
    L.holds (fun _ h => by cases h) (by kernel_rfl) (fun _ h => by cases h) cpuSteps_row_tie rfl ⟨rfl, rfl⟩ (by kernel_rfl) rfl
    (fun f fn hf hfn => by
      obtain rfl : f = 6 := Option.some.inj ((show Tryd.prog.funcNamed "keyhold/keyholdlaw.CpuSteps" = some 6 by kernel_rfl).symm.trans hf) |>.symm
      obtain rfl : fn = Tryd.f6 := (Option.some.inj (Tryd.func6.symm.trans hfn)).symm
      exact ⟨by kernel_rfl, fun j t ht => K.noStand (by kernel_rfl) ht⟩)
    (by kernel_rfl)
#print axioms cpuSteps_holds
end Go.Proofs.YtfmaeiilbhpepaaDoor
