/- Proved: keyholdlaw.MailSends returns true at all arguments, whatever the world in which it is called, where the variables that its row names hold what the program's text lays there. -/
import Derived.Test.YtdjilaofmdhikaaGreatDoorYP
set_option linter.unusedVariables false
set_option linter.unusedSimpArgs false
set_option linter.unusedVariables false
set_option linter.unusedSimpArgs false
set_option maxRecDepth 100000
namespace Go.Proofs.YtdjilaofmdhikaaGreatDoor
open Go.ChangeShapes Go.WideShapes Go.RowKit Go.Sy
theorem L.ask {H : Type} (d1 : DataW H) (d2 : DataW H) (d3 : DataW H) (d4 : DataW H) (d5 : DataW H) (d6 : DataW H) : dwfs Tryz.prog Tryz.f8.params.toList [d1, d2, d3, d4, d5, d6] → prOf (c_mailSends.g (dvals Tryz.prog Tryz.f8.params.toList [d1, d2, d3, d4, d5, d6]) []) := by
  repeat' (first | exact trivial | rfl | refine And.intro ?_ ?_ | intro _)
theorem L.lifted (os : Os) (started : os.Started) (H : Type) (enc : TypeId × Value → H) :
    ReturnsInHanded {} Tryz.checked os 8 .any (fun w args => (Rows.mailSendsSpec.pre enc Tryz.prog Tryz.f8 [] false w args ∧ laidMetH Tryz.prog Rows.mailSendsRow.laid w) ∧ sizedMet enc Tryz.prog Tryz.f8 (OpenSpec.ofChange Rows.mailSendsSpec) false w args)
      (Rows.mailSendsSpec.post enc Tryz.prog Tryz.f8 false true false false) := by
  refine K.lift (X := fun w => laidMetH Tryz.prog Rows.mailSendsRow.laid w) (fun _ _ hh h => h.of_heap hh) os started H enc (by kernel_rfl) Tryz.func8 (fun ds h => ?_) rfl rfl (by kernel_rfl)
    (ChangeSpec.witness_at (enc := enc) (C := Tryz.checked) (os := os) (X := fun w _ => laidMetH Tryz.prog Rows.mailSendsRow.laid w) false (K.world os) (zeros Tryz.prog Tryz.f8.params.toList) 8 rfl (by kernel_rfl) (by kernel_rfl) (by kernel_rfl) (by kernel_rfl) (by kernel_rfl) (K.met os _)) ?_
  · have h : ds.length = 6 := h
    match ds, h with
    | [d1, d2, d3, d4, d5, d6], _ => rfl
  · intro W base args ds p hval hA hL hlt
    refine law_call ok_mailSends (fun ds h hw => prOf_spec ?_) (K.gE hL (by unfold Rows.mailSendsRow; simp)) hA (K.len hA) (fun j t v e e' => hval j t v (by simpa using e) e')
    have h : ds.length = 6 := h
    match ds, h, hw with
    | [d1, d2, d3, d4, d5, d6], _, hw => exact L.ask d1 d2 d3 d4 d5 d6 hw
theorem L.holds : Rows.MailSendsSaid :=
  OpenClaim.holds_of_wide 8 Tryz.f8 rfl rfl rfl rfl rfl rfl rfl ⟨rfl, rfl, rfl, rfl, rfl⟩ rfl rfl rfl rfl rfl (by kernel_rfl) Tryz.func8 (by kernel_rfl)
    (of_decide_eq_true (by kernel_rfl)) (by unfold Func.isWrapper; rw [if_neg (of_decide_eq_false (by kernel_rfl))]; exact ⟨rfl, rfl⟩)
    (fun os started H enc _ => L.lifted os started H enc)
theorem mailSends_holds : Rows.MailSendsCardSaid :=
  Claim7.holds_tied_plain_at .later [] [.handle] true (true, "13042da8f72455566a9c21ca38543c20691413617ce85731d6d1512b93895b9a") true
    L.holds (fun _ h => by cases h) (by kernel_rfl) (fun _ h => by cases h) mailSends_row_tie rfl ⟨rfl, rfl⟩ (by kernel_rfl) rfl
    (fun f fn hf hfn => by
      obtain rfl : f = 8 := Option.some.inj ((show Tryz.prog.funcNamed "keyhold/keyholdlaw.MailSends" = some 8 by kernel_rfl).symm.trans hf) |>.symm
      obtain rfl : fn = Tryz.f8 := (Option.some.inj (Tryz.func8.symm.trans hfn)).symm
      exact ⟨by kernel_rfl, fun j t ht => K.noStand (by kernel_rfl) ht⟩)
    (by kernel_rfl)
#print axioms mailSends_holds
end Go.Proofs.YtdjilaofmdhikaaGreatDoor
