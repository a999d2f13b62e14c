/- Proved: keyholdlaw.Names returns true, whatever the world in which it is called, where the variable of package errors holds what the program's text lays there. -/
import Derived.Test.YtfmaeiilbhpepaaDoorFr1
set_option linter.unusedVariables false
set_option linter.unusedSimpArgs false
namespace Go.Proofs.YtfmaeiilbhpepaaDoor
open Go.ChangeShapes Go.WideShapes Go.RowKit Go.Ev
theorem E.sound1 : Sound Tryd.prog E.glob (mkT [(14, E.tell)]) := sound_cons (E.tell_ok rfl) sound_nil
theorem N.pure : PureFn Tryd.prog E.glob 3 [] (.v (.bool true)) :=
  pure_of E.sound1 Tryd.func3 [] (V := ((9 : Int) ≠ 0 ∧ (0 : Int) ≤ 7) ∧ True ∧ leq (.v (.bool (bif bif bif (9 : Int) == 9 then (7 : Int) == 7 else false then (0 : Int) == 0 else false then (-1 : Int) == -1 else false))) (.v (.bool true)))
    (by kernel_rfl) ⟨by decide, trivial, leq_bool (by decide)⟩
theorem N.lifted (os : Os) (started : os.Started) (H : Type) (enc : TypeId × Value → H) :
    ReturnsInHanded {} Tryd.checked os 3 .any (fun w args => (Rows.namesSpec.pre enc Tryd.prog Tryd.f3 [] false w args ∧ laidMetH Tryd.prog Rows.namesRow.laid w) ∧ sizedMet enc Tryd.prog Tryd.f3 (OpenSpec.ofChange Rows.namesSpec) false w args)
      (Rows.namesSpec.post enc Tryd.prog Tryd.f3 false true false false) := by
  refine K.lift (X := fun w => laidMetH Tryd.prog Rows.namesRow.laid w) (fun _ _ hh h => h.of_heap hh) os started H enc (by kernel_rfl) Tryd.func3 (fun ds h => ?_) rfl rfl (by kernel_rfl)
    (ChangeSpec.witness_at (enc := enc) (C := Tryd.checked) (os := os) (X := fun w _ => laidMetH Tryd.prog Rows.namesRow.laid w) false (K.world os) #[] 8 rfl (by kernel_rfl) (by kernel_rfl) (by kernel_rfl) (by kernel_rfl) (by kernel_rfl) (K.met os _)) ?_
  · have h : ds.length = 0 := h
    match ds, h with
    | [], _ => rfl
  · intro W base args ds p hval hA hL hlt
    have hg := K.handle hL (List.mem_singleton.2 rfl)
    have ha : args = #[] := Array.eq_empty_of_size_eq_zero (by simpa using K.vlen hA)
    subst ha
    refine (N.pure W (fun _ => False) #[] (K.globs hg fun _ h => h) (fun _ h => h.elim) trivial).mono ?_
    rintro e W' ⟨v, rfl, rfl, hb⟩
    exact ⟨rfl, hb⟩
theorem N.holds : Rows.NamesSaid :=
  OpenClaim.holds_of_wide 3 Tryd.f3 rfl rfl rfl rfl rfl rfl rfl ⟨rfl, rfl, rfl, rfl, rfl⟩ rfl rfl rfl rfl rfl (by kernel_rfl) Tryd.func3 (by kernel_rfl)
    (of_decide_eq_true (by kernel_rfl)) (by unfold Func.isWrapper; rw [if_neg (of_decide_eq_false (by kernel_rfl))]; exact ⟨rfl, rfl⟩)
    (fun os started H enc _ => N.lifted os started H enc)
theorem names_holds : Rows.NamesCardSaid :=
  Claim7.holds_tied_plain_at .later [] [.handle] true (true, "50259b477bce9038f419d339a4af7868793bcb6fe799780e20f62995f1493973") true
    N.holds (fun _ h => by cases h) (by kernel_rfl) (fun _ h => by cases h) names_row_tie rfl ⟨rfl, rfl⟩ (by kernel_rfl) rfl
    (fun f fn hf hfn => by
      obtain rfl : f = 3 := Option.some.inj ((show Tryd.prog.funcNamed "keyhold/keyholdlaw.Names" = some 3 by kernel_rfl).symm.trans hf) |>.symm
      obtain rfl : fn = Tryd.f3 := (Option.some.inj (Tryd.func3.symm.trans hfn)).symm
      exact ⟨by kernel_rfl, fun j t ht => K.noStand (by kernel_rfl) ht⟩)
    (by kernel_rfl)
#print axioms names_holds
end Go.Proofs.YtfmaeiilbhpepaaDoor
