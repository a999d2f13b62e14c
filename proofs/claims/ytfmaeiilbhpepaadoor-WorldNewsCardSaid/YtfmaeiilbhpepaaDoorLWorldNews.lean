/- Proved: keyholdlaw.WorldNews returns true at all arguments, whatever the world in which it is called, where the variables that its row names hold what the program's text lays there. -/
import Derived.Test.YtfmaeiilbhpepaaDoorYD3
import Derived.Test.YtfmaeiilbhpepaaDoorYF
set_option linter.unusedVariables false
set_option linter.unusedSimpArgs false
set_option linter.unusedVariables false
set_option linter.unusedSimpArgs false
set_option maxRecDepth 100000
namespace Go.Proofs.YtfmaeiilbhpepaaDoor
open Go.ChangeShapes Go.WideShapes Go.RowKit Go.Sy
theorem L.ask {H : Type} (d1 : DataW H) (d2 : DataW H) (d3 : DataW H) : dwfs Tryd.prog Tryd.f7.params.toList [d1, d2, d3] → prOf (c_worldNews.g (dvals Tryd.prog Tryd.f7.params.toList [d1, d2, d3]) []) := by
  have e : (dwfs Tryd.prog Tryd.f7.params.toList [d1, d2, d3] → prOf (c_worldNews.g (dvals Tryd.prog Tryd.f7.params.toList [d1, d2, d3]) [])) = (IntKind.wrap IntKind.i64 (litI d1) = litI d1 ∧ IntKind.wrap IntKind.i64 (litI d2) = litI d2 ∧ ((↑(dlen d3) : Int) ≤ (9223372036854775807 : Int) ∧ ∀ (i : Nat), i < dlen d3 → IntKind.wrap IntKind.i64 (litI (delem d3 i)) = litI (delem d3 i)) ∧ True → (litI d1 = litI d1 ∧ litI d2 = litI d2 ∧ (dlen d3 = dlen d3 ∧ ∀ (i : Nat), i < dlen d3 → True ∧ litI (delem d3 i) = litI (delem d3 i)) ∧ True) ∧ True ∧ True) := by kernel_rfl
  rw [e]
  clear e
  repeat' (first | exact trivial | rfl | refine And.intro ?_ ?_ | intro _)
theorem L.lifted (os : Os) (started : os.Started) (H : Type) (enc : TypeId × Value → H) :
    ReturnsInHanded {} Tryd.checked os 7 .any (fun w args => (Rows.worldNewsSpec.pre enc Tryd.prog Tryd.f7 [] false w args ∧ laidMetH Tryd.prog Rows.worldNewsRow.laid w) ∧ sizedMet enc Tryd.prog Tryd.f7 (OpenSpec.ofChange Rows.worldNewsSpec) false w args)
      (Rows.worldNewsSpec.post enc Tryd.prog Tryd.f7 false true false false) := by
  refine K.lift (X := fun w => laidMetH Tryd.prog Rows.worldNewsRow.laid w) (fun _ _ hh h => h.of_heap hh) os started H enc (by kernel_rfl) Tryd.func7 (fun ds h => ?_) rfl rfl (by kernel_rfl)
    (ChangeSpec.witness_at (enc := enc) (C := Tryd.checked) (os := os) (X := fun w _ => laidMetH Tryd.prog Rows.worldNewsRow.laid w) false (K.world os) (zeros Tryd.prog Tryd.f7.params.toList) 8 rfl (by kernel_rfl) (by kernel_rfl) (by kernel_rfl) (by kernel_rfl) (by kernel_rfl) (K.met os _)) ?_
  · have h : ds.length = 3 := h
    match ds, h with
    | [d1, d2, d3], _ => rfl
  · intro W base args ds p hval hA hL hlt
    refine law_call ok_worldNews (fun ds h hw => prOf_spec ?_) (K.gE hL (by unfold Rows.worldNewsRow; simp)) hA (K.len hA) (fun j t v e e' => hval j t v (by simpa using e) e')
    have h : ds.length = 3 := h
    match ds, h, hw with
    | [d1, d2, d3], _, hw => exact L.ask d1 d2 d3 hw
theorem L.holds : Rows.WorldNewsSaid :=
  OpenClaim.holds_of_wide 7 Tryd.f7 rfl rfl rfl rfl rfl rfl rfl ⟨rfl, rfl, rfl, rfl, rfl⟩ rfl rfl rfl rfl rfl (by kernel_rfl) Tryd.func7 (by kernel_rfl)
    (of_decide_eq_true (by kernel_rfl)) (by unfold Func.isWrapper; rw [if_neg (of_decide_eq_false (by kernel_rfl))]; exact ⟨rfl, rfl⟩)
    (fun os started H enc _ => L.lifted os started H enc)
theorem worldNews_holds : Rows.WorldNewsCardSaid :=
  Claim7.holds_tied_plain_at .later [] [.handle] true (true, "50259b477bce9038f419d339a4af7868793bcb6fe799780e20f62995f1493973") true
    L.holds (fun _ h => by cases h) (by kernel_rfl) (fun _ h => by cases h) worldNews_row_tie rfl ⟨rfl, rfl⟩ (by kernel_rfl) rfl
    (fun f fn hf hfn => by
      obtain rfl : f = 7 := Option.some.inj ((show Tryd.prog.funcNamed "keyhold/keyholdlaw.WorldNews" = some 7 by kernel_rfl).symm.trans hf) |>.symm
      obtain rfl : fn = Tryd.f7 := (Option.some.inj (Tryd.func7.symm.trans hfn)).symm
      exact ⟨by kernel_rfl, fun j t ht => K.noStand (by kernel_rfl) ht⟩)
    (by kernel_rfl)
#print axioms worldNews_holds
end Go.Proofs.YtfmaeiilbhpepaaDoor
