/- Proved: keyholdlaw.TreeDrops returns true at all arguments, whatever the world in which it is called, where the variables that its row names hold what the program's text lays there. -/
import Derived.Test.YtdjilaofmdhikaaGreatDoorYQ
set_option linter.unusedVariables false
set_option linter.unusedSimpArgs false
set_option linter.unusedVariables false
set_option linter.unusedSimpArgs false
set_option maxRecDepth 100000
namespace Go.Proofs.YtdjilaofmdhikaaGreatDoor
open Go.ChangeShapes Go.WideShapes Go.RowKit Go.Sy
theorem L.ask {H : Type} (d1 : DataW H) (d2 : DataW H) : dwfs Tryz.prog Tryz.f12.params.toList [d1, d2] → prOf (c_treeDrops.g (dvals Tryz.prog Tryz.f12.params.toList [d1, d2]) []) := by
  repeat' (first | exact trivial | rfl | refine And.intro ?_ ?_ | intro _)
theorem L.lifted (os : Os) (started : os.Started) (H : Type) (enc : TypeId × Value → H) :
    ReturnsInHanded {} Tryz.checked os 12 .any (fun w args => (Rows.treeDropsSpec.pre enc Tryz.prog Tryz.f12 [] false w args ∧ laidMetH Tryz.prog Rows.treeDropsRow.laid w) ∧ sizedMet enc Tryz.prog Tryz.f12 (OpenSpec.ofChange Rows.treeDropsSpec) false w args)
      (Rows.treeDropsSpec.post enc Tryz.prog Tryz.f12 false true false false) := by
  refine K.lift (X := fun w => laidMetH Tryz.prog Rows.treeDropsRow.laid w) (fun _ _ hh h => h.of_heap hh) os started H enc (by kernel_rfl) Tryz.func12 (fun ds h => ?_) rfl rfl (by kernel_rfl)
    (ChangeSpec.witness_at (enc := enc) (C := Tryz.checked) (os := os) (X := fun w _ => laidMetH Tryz.prog Rows.treeDropsRow.laid w) false (K.world os) (zeros Tryz.prog Tryz.f12.params.toList) 8 rfl (by kernel_rfl) (by kernel_rfl) (by kernel_rfl) (by kernel_rfl) (by kernel_rfl) (K.met os _)) ?_
  · have h : ds.length = 2 := h
    match ds, h with
    | [d1, d2], _ => rfl
  · intro W base args ds p hval hA hL hlt
    refine law_call ok_treeDrops (fun ds h hw => prOf_spec ?_) (K.gE hL (by unfold Rows.treeDropsRow; simp)) hA (K.len hA) (fun j t v e e' => hval j t v (by simpa using e) e')
    have h : ds.length = 2 := h
    match ds, h, hw with
    | [d1, d2], _, hw => exact L.ask d1 d2 hw
theorem L.holds : Rows.TreeDropsSaid :=
  OpenClaim.holds_of_wide 12 Tryz.f12 rfl rfl rfl rfl rfl rfl rfl ⟨rfl, rfl, rfl, rfl, rfl⟩ rfl rfl rfl rfl rfl (by kernel_rfl) Tryz.func12 (by kernel_rfl)
    (of_decide_eq_true (by kernel_rfl)) (by unfold Func.isWrapper; rw [if_neg (of_decide_eq_false (by kernel_rfl))]; exact ⟨rfl, rfl⟩)
    (fun os started H enc _ => L.lifted os started H enc)
theorem treeDrops_holds : Rows.TreeDropsCardSaid :=
  Claim7.holds_tied_plain_at .later [] [.handle] true (true, "13042da8f72455566a9c21ca38543c20691413617ce85731d6d1512b93895b9a") true
    L.holds (fun _ h => by cases h) (by kernel_rfl) (fun _ h => by cases h) treeDrops_row_tie rfl ⟨rfl, rfl⟩ (by kernel_rfl) rfl
    (fun f fn hf hfn => by
      obtain rfl : f = 12 := Option.some.inj ((show Tryz.prog.funcNamed "keyhold/keyholdlaw.TreeDrops" = some 12 by kernel_rfl).symm.trans hf) |>.symm
      obtain rfl : fn = Tryz.f12 := (Option.some.inj (Tryz.func12.symm.trans hfn)).symm
      exact ⟨by kernel_rfl, fun j t ht => K.noStand (by kernel_rfl) ht⟩)
    (by kernel_rfl)
#print axioms treeDrops_holds
end Go.Proofs.YtdjilaofmdhikaaGreatDoor
