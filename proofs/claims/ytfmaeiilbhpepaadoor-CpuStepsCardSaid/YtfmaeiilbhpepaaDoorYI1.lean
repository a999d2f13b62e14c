/- Contracts of the small functions that read no variable. -/
import Derived.Test.YtfmaeiilbhpepaaDoorYAs
set_option linter.unusedVariables false
set_option linter.unusedSimpArgs false
set_option linter.unusedVariables false
set_option linter.unusedSimpArgs false
set_option maxRecDepth 100000
namespace Go.Proofs.YtfmaeiilbhpepaaDoor
open Go.RowKit Go.Sy
def fitsB (v : Int) (h : Bool) (lo hi : Int) : Bool := bif h then decide (lo ≤ v) && decide (v ≤ hi) else v == 0
def insBad (o a b m : Int) : Bool := farB a 7 || farB b 7 || decide (m < -32768) || decide (32767 < m) || (!(hasA o) && a != 0) || (!(hasB o) && b != 0) || (!(hasC o) && m != 0)
def insNo (o a b m : Int) : Int := bif farB o 14 then 1 else bif insBad o a b m then 2 else 0
structure X_far where
  v : Int
  m : Int
def a_far (v : Int) (m : Int) : List SV := [.v (.int .i64 v), .v (.int .i64 m)]
def m_far (v : Int) (m : Int) : List Blk := []
def r_far (v : Int) (m : Int) : SV := .v (.bool (farB v m))
def n_far (v : Int) (m : Int) : List Blk := []
def p_far (v : Int) (m : Int) : Prop := True
def s_far : Sy.Spec where
  X := X_far
  args x_ := a_far x_.v x_.m
  mem x_ := m_far x_.v x_.m
  pre x_ := p_far x_.v x_.m
  res x_ := r_far x_.v x_.m
  mem' x_ := n_far x_.v x_.m
  dec args mem := match args with | [a0, a1] => some ⟨intD (a0), intD (a1)⟩ | _ => none
def c_far : Con := ⟨[], s_far.g, none⟩
def V_far (v : Int) (m : Int) : Prop :=
  (bif decide (v < (0 : Int)) then true else decide (m < v)) = farB v m ∧ True
theorem q_far (v : Int) (m : Int) : evBody Tryd.prog false glN (mkT []) Tryd.f53 (a_far v m) (m_far v m) [] (r_far v m) (n_far v m) = V_far v m := by kernel_rfl
theorem pf_far (v : Int) (m : Int) (hp : p_far v m) : FnC Tryd.prog glN 53 (a_far v m) (m_far v m) (r_far v m) (n_far v m) := by
  refine fn_of sound_nil false Tryd.func53 [] (q_far v m) ?_
  unfold V_far
  refine ⟨?_, trivial⟩
  unfold farB; cases decide (v < 0) <;> rfl
theorem ok_far : FnOK Tryd.prog glN 53 c_far := fnOK_of (fun l w => Tryd.call53 l w) fun x_ hp => pf_far x_.v x_.m hp
structure X_err where
  e : Int
def a_err (e : Int) : List SV := [.v (.int .i64 e)]
def m_err (e : Int) : List Blk := []
def r_err (e : Int) : SV := .ag 2 (lsv [.v (.int .i64 e), .v (.int .i64 (-1))])
def n_err (e : Int) : List Blk := []
def p_err (e : Int) : Prop := True
def s_err : Sy.Spec where
  X := X_err
  args x_ := a_err x_.e
  mem x_ := m_err x_.e
  pre x_ := p_err x_.e
  res x_ := r_err x_.e
  mem' x_ := n_err x_.e
  dec args mem := match args with | [a0] => some ⟨intD (a0)⟩ | _ => none
def c_err : Con := ⟨[], s_err.g, none⟩
def V_err (e : Int) : Prop :=
  True ∧ (True ∧ True) ∧ ((True ∧ e = e) ∧ (-1 : Int) = (-1 : Int)) ∧ True
theorem q_err (e : Int) : evBody Tryd.prog false glN (mkT []) Tryd.f20 (a_err e) (m_err e) [] (r_err e) (n_err e) = V_err e := by kernel_rfl
theorem pf_err (e : Int) (hp : p_err e) : FnC Tryd.prog glN 20 (a_err e) (m_err e) (r_err e) (n_err e) := by
  refine fn_of sound_nil false Tryd.func20 [] (q_err e) ?_
  unfold V_err
  simp
theorem ok_err : FnOK Tryd.prog glN 20 c_err := fnOK_of (fun l w => Tryd.call20 l w) fun x_ hp => pf_err x_.e hp
structure X_fine where
  unit_ : Unit
def a_fine : List SV := []
def m_fine : List Blk := []
def r_fine : SV := .ag 2 (lsv [.v (.int .i64 0), .v (.int .i64 (-1))])
def n_fine : List Blk := []
def p_fine : Prop := True
def s_fine : Sy.Spec where
  X := X_fine
  args x_ := a_fine
  mem x_ := m_fine
  pre x_ := p_fine
  res x_ := r_fine
  mem' x_ := n_fine
  dec args mem := match args with | [] => some ⟨()⟩ | _ => none
def c_fine : Con := ⟨[], s_fine.g, none⟩
def V_fine : Prop :=
  True ∧ (True ∧ True) ∧ ((True ∧ (0 : Int) = (0 : Int)) ∧ (-1 : Int) = (-1 : Int)) ∧ True
theorem q_fine : evBody Tryd.prog false glN (mkT []) Tryd.f55 (a_fine) (m_fine) [] (r_fine) (n_fine) = V_fine := by kernel_rfl
theorem pf_fine (hp : p_fine) : FnC Tryd.prog glN 55 (a_fine) (m_fine) (r_fine) (n_fine) := by
  refine fn_of sound_nil false Tryd.func55 [] (q_fine) ?_
  unfold V_fine
  simp
theorem ok_fine : FnOK Tryd.prog glN 55 c_fine := fnOK_of (fun l w => Tryd.call55 l w) fun x_ hp => pf_fine hp
structure X_fits where
  v : Int
  h : Bool
  lo : Int
  hi : Int
def a_fits (v : Int) (h : Bool) (lo : Int) (hi : Int) : List SV := [.v (.int .i64 v), .v (.bool h), .v (.int .i64 lo), .v (.int .i64 hi)]
def m_fits (v : Int) (h : Bool) (lo : Int) (hi : Int) : List Blk := []
def r_fits (v : Int) (h : Bool) (lo : Int) (hi : Int) : SV := .v (.bool (fitsB v h lo hi))
def n_fits (v : Int) (h : Bool) (lo : Int) (hi : Int) : List Blk := []
def p_fits (v : Int) (h : Bool) (lo : Int) (hi : Int) : Prop := True
def s_fits : Sy.Spec where
  X := X_fits
  args x_ := a_fits x_.v x_.h x_.lo x_.hi
  mem x_ := m_fits x_.v x_.h x_.lo x_.hi
  pre x_ := p_fits x_.v x_.h x_.lo x_.hi
  res x_ := r_fits x_.v x_.h x_.lo x_.hi
  mem' x_ := n_fits x_.v x_.h x_.lo x_.hi
  dec args mem := match args with | [a0, a1, a2, a3] => some ⟨intD (a0), boolD (a1), intD (a2), intD (a3)⟩ | _ => none
def c_fits : Con := ⟨[], s_fits.g, none⟩
def V_fits (v : Int) (h : Bool) (lo : Int) (hi : Int) : Prop :=
  ((!h) = true → (v == (0 : Int)) = fitsB v h lo hi ∧ True) ∧ ((!h) = false → (bif decide (lo ≤ v) then decide (v ≤ hi) else false) = fitsB v h lo hi ∧ True)
theorem q_fits (v : Int) (h : Bool) (lo : Int) (hi : Int) : evBody Tryd.prog false glN (mkT []) Tryd.f70 (a_fits v h lo hi) (m_fits v h lo hi) [] (r_fits v h lo hi) (n_fits v h lo hi) = V_fits v h lo hi := by kernel_rfl
theorem pf_fits (v : Int) (h : Bool) (lo : Int) (hi : Int) (hp : p_fits v h lo hi) : FnC Tryd.prog glN 70 (a_fits v h lo hi) (m_fits v h lo hi) (r_fits v h lo hi) (n_fits v h lo hi) := by
  refine fn_of sound_nil false Tryd.func70 [] (q_fits v h lo hi) ?_
  unfold V_fits
  refine ⟨fun h1 => ⟨?_, trivial⟩, fun h1 => ⟨?_, trivial⟩⟩
  · cases h <;> first | rfl | cases h1
  · cases h <;> first | (cases h1; done) | (unfold fitsB; cases decide (lo ≤ v) <;> rfl)
theorem ok_fits : FnOK Tryd.prog glN 70 c_fits := fnOK_of (fun l w => Tryd.call70 l w) fun x_ hp => pf_fits x_.v x_.h x_.lo x_.hi hp
structure X_has where
  o : Int
def a_has (o : Int) : List SV := [.v (.int .i64 o)]
def m_has (o : Int) : List Blk := []
def r_has (o : Int) : SV := .tp 3 (lsv [.v (.bool (hasA o)), .v (.bool (hasB o)), .v (.bool (hasC o))])
def n_has (o : Int) : List Blk := []
def p_has (o : Int) : Prop := True
def s_has : Sy.Spec where
  X := X_has
  args x_ := a_has x_.o
  mem x_ := m_has x_.o
  pre x_ := p_has x_.o
  res x_ := r_has x_.o
  mem' x_ := n_has x_.o
  dec args mem := match args with | [a0] => some ⟨intD (a0)⟩ | _ => none
def c_has : Con := ⟨[], s_has.g, none⟩
def V_has (o : Int) : Prop :=
  ((o == (0 : Int)) = true → (((True ∧ false = hasA o) ∧ false = hasB o) ∧ false = hasC o) ∧ True) ∧ ((o == (0 : Int)) = false → ((o == (1 : Int)) = true → ((o == (1 : Int)) = true → (((True ∧ true = hasA o) ∧ false = hasB o) ∧ true = hasC o) ∧ True) ∧ ((o == (1 : Int)) = false → ((o == (10 : Int)) = true → ((o == (10 : Int)) = true → (((True ∧ true = hasA o) ∧ true = hasB o) ∧ true = hasC o) ∧ True) ∧ ((o == (10 : Int)) = false → ((o == (12 : Int)) = true → ((o == (12 : Int)) = true → (((True ∧ false = hasA o) ∧ false = hasB o) ∧ true = hasC o) ∧ True) ∧ ((o == (12 : Int)) = false → (((True ∧ true = hasA o) ∧ true = hasB o) ∧ false = hasC o) ∧ True)) ∧ ((o == (12 : Int)) = false → ((o == (14 : Int)) = true → (((True ∧ false = hasA o) ∧ false = hasB o) ∧ true = hasC o) ∧ True) ∧ ((o == (14 : Int)) = false → (((True ∧ true = hasA o) ∧ true = hasB o) ∧ false = hasC o) ∧ True)))) ∧ ((o == (10 : Int)) = false → ((o == (11 : Int)) = true → (((True ∧ true = hasA o) ∧ true = hasB o) ∧ true = hasC o) ∧ True) ∧ ((o == (11 : Int)) = false → ((o == (12 : Int)) = true → ((o == (12 : Int)) = true → (((True ∧ false = hasA o) ∧ false = hasB o) ∧ true = hasC o) ∧ True) ∧ ((o == (12 : Int)) = false → (((True ∧ true = hasA o) ∧ true = hasB o) ∧ false = hasC o) ∧ True)) ∧ ((o == (12 : Int)) = false → ((o == (14 : Int)) = true → (((True ∧ false = hasA o) ∧ false = hasB o) ∧ true = hasC o) ∧ True) ∧ ((o == (14 : Int)) = false → (((True ∧ true = hasA o) ∧ true = hasB o) ∧ false = hasC o) ∧
    True)))))) ∧ ((o == (1 : Int)) = false → ((o == (13 : Int)) = true → (((True ∧ true = hasA o) ∧ false = hasB o) ∧ true = hasC o) ∧ True) ∧ ((o == (13 : Int)) = false → ((o == (10 : Int)) = true → ((o == (10 : Int)) = true → (((True ∧ true = hasA o) ∧ true = hasB o) ∧ true = hasC o) ∧ True) ∧ ((o == (10 : Int)) = false → ((o == (12 : Int)) = true → ((o == (12 : Int)) = true → (((True ∧ false = hasA o) ∧ false = hasB o) ∧ true = hasC o) ∧ True) ∧ ((o == (12 : Int)) = false → (((True ∧ true = hasA o) ∧ true = hasB o) ∧ false = hasC o) ∧ True)) ∧ ((o == (12 : Int)) = false → ((o == (14 : Int)) = true → (((True ∧ false = hasA o) ∧ false = hasB o) ∧ true = hasC o) ∧ True) ∧ ((o == (14 : Int)) = false → (((True ∧ true = hasA o) ∧ true = hasB o) ∧ false = hasC o) ∧ True)))) ∧ ((o == (10 : Int)) = false → ((o == (11 : Int)) = true → (((True ∧ true = hasA o) ∧ true = hasB o) ∧ true = hasC o) ∧ True) ∧ ((o == (11 : Int)) = false → ((o == (12 : Int)) = true → ((o == (12 : Int)) = true → (((True ∧ false = hasA o) ∧ false = hasB o) ∧ true = hasC o) ∧ True) ∧ ((o == (12 : Int)) = false → (((True ∧ true = hasA o) ∧ true = hasB o) ∧ false = hasC o) ∧ True)) ∧ ((o == (12 : Int)) = false → ((o == (14 : Int)) = true → (((True ∧ false = hasA o) ∧ false = hasB o) ∧ true = hasC o) ∧ True) ∧ ((o == (14 : Int)) = false → (((True ∧ true = hasA o) ∧ true = hasB o) ∧ false = hasC o) ∧ True)))))))
theorem q_has (o : Int) : evBody Tryd.prog false glN (mkT []) Tryd.f69 (a_has o) (m_has o) [] (r_has o) (n_has o) = V_has o := by kernel_rfl
theorem pf_has (o : Int) (hp : p_has o) : FnC Tryd.prog glN 69 (a_has o) (m_has o) (r_has o) (n_has o) := by
  refine fn_of sound_nil false Tryd.func69 [] (q_has o) ?_
  unfold V_has
  unfold hasA hasB hasC
  repeat' (first | exact trivial | refine And.intro ?_ ?_ | intro h)
  all_goals simp_all
theorem ok_has : FnOK Tryd.prog glN 69 c_has := fnOK_of (fun l w => Tryd.call69 l w) fun x_ hp => pf_has x_.o hp
structure X_insMay where
  o : Int
  a : Int
  b : Int
  m : Int
def a_insMay (o : Int) (a : Int) (b : Int) (m : Int) : List SV := [.ag 4 (lsv [.v (.int .i64 o), .v (.int .i64 a), .v (.int .i64 b), .v (.int .i64 m)])]
def m_insMay (o : Int) (a : Int) (b : Int) (m : Int) : List Blk := []
def r_insMay (o : Int) (a : Int) (b : Int) (m : Int) : SV := .v (.int .i64 (insNo o a b m))
def n_insMay (o : Int) (a : Int) (b : Int) (m : Int) : List Blk := []
def p_insMay (o : Int) (a : Int) (b : Int) (m : Int) : Prop := True
def s_insMay : Sy.Spec where
  X := X_insMay
  args x_ := a_insMay x_.o x_.a x_.b x_.m
  mem x_ := m_insMay x_.o x_.a x_.b x_.m
  pre x_ := p_insMay x_.o x_.a x_.b x_.m
  res x_ := r_insMay x_.o x_.a x_.b x_.m
  mem' x_ := n_insMay x_.o x_.a x_.b x_.m
  dec args mem := match args with | [a0] => some ⟨intD (agD a0 0), intD (agD a0 1), intD (agD a0 2), intD (agD a0 3)⟩ | _ => none
def c_insMay : Con := ⟨[], s_insMay.g, none⟩
def V_insMay (o : Int) (a : Int) (b : Int) (m : Int) : Prop :=
  True ∧ ((o = o ∧ (14 : Int) = (14 : Int) ∧ True) ∧ True ∧ True) ∧ (farB o (14 : Int) = true → (1 : Int) = insNo o a b m ∧ True) ∧ (farB o (14 : Int) = false → ((o = o ∧ True) ∧ True ∧ True) ∧ ((a = a ∧ (7 : Int) = (7 : Int) ∧ True) ∧ True ∧ True) ∧ (farB a (7 : Int) = false → (b = b ∧ (7 : Int) = (7 : Int) ∧ True) ∧ True ∧ True) ∧ ((bif bif bif bif bif bif farB a (7 : Int) then true else farB b (7 : Int) then true else decide (m < (-32768 : Int)) then true else decide ((32767 : Int) < m) then true else bif !hasA o then a != (0 : Int) else false then true else bif !hasB o then b != (0 : Int) else false then true else bif !hasC o then m != (0 : Int) else false) = true → (2 : Int) = insNo o a b m ∧ True) ∧ ((bif bif bif bif bif bif farB a (7 : Int) then true else farB b (7 : Int) then true else decide (m < (-32768 : Int)) then true else decide ((32767 : Int) < m) then true else bif !hasA o then a != (0 : Int) else false then true else bif !hasB o then b != (0 : Int) else false then true else bif !hasC o then m != (0 : Int) else false) = false → (0 : Int) = insNo o a b m ∧ True))
theorem q_insMay (o : Int) (a : Int) (b : Int) (m : Int) : evBody Tryd.prog false glN (mkT [(53, c_far), (69, c_has)]) Tryd.f15 (a_insMay o a b m) (m_insMay o a b m) [] (r_insMay o a b m) (n_insMay o a b m) = V_insMay o a b m := by kernel_rfl
theorem pf_insMay (o : Int) (a : Int) (b : Int) (m : Int) (hp : p_insMay o a b m) : FnC Tryd.prog glN 15 (a_insMay o a b m) (m_insMay o a b m) (r_insMay o a b m) (n_insMay o a b m) := by
  refine fn_of (sound_cons ok_far (sound_cons ok_has sound_nil)) false Tryd.func15 [] (q_insMay o a b m) ?_
  unfold V_insMay
  unfold insNo insBad
  repeat' (first | exact trivial | rfl | refine And.intro ?_ ?_ | intro h)
  all_goals simp_all [cond_eq_ite]
theorem ok_insMay : FnOK Tryd.prog glN 15 c_insMay := fnOK_of (fun l w => Tryd.call15 l w) fun x_ hp => pf_insMay x_.o x_.a x_.b x_.m hp
end Go.Proofs.YtfmaeiilbhpepaaDoor
set_option linter.unusedVariables false
set_option linter.unusedSimpArgs false
set_option maxRecDepth 100000
namespace Go.Proofs.YtfmaeiilbhpepaaDoor
open Go.RowKit Go.Sy
structure X_check where
  o : Int
  a : Int
  b : Int
  m : Int
def a_check (o : Int) (a : Int) (b : Int) (m : Int) : List SV := [.ag 4 (lsv [.v (.int .i64 o), .v (.int .i64 a), .v (.int .i64 b), .v (.int .i64 m)])]
def m_check (o : Int) (a : Int) (b : Int) (m : Int) : List Blk := []
def r_check (o : Int) (a : Int) (b : Int) (m : Int) : SV := .er 22 25 (insNo o a b m) (-1)
def n_check (o : Int) (a : Int) (b : Int) (m : Int) : List Blk := []
def p_check (o : Int) (a : Int) (b : Int) (m : Int) : Prop := True
def s_check : Sy.Spec where
  X := X_check
  args x_ := a_check x_.o x_.a x_.b x_.m
  mem x_ := m_check x_.o x_.a x_.b x_.m
  pre x_ := p_check x_.o x_.a x_.b x_.m
  res x_ := r_check x_.o x_.a x_.b x_.m
  mem' x_ := n_check x_.o x_.a x_.b x_.m
  dec args mem := match args with | [a0] => some ⟨intD (agD a0 0), intD (agD a0 1), intD (agD a0 2), intD (agD a0 3)⟩ | _ => none
def c_check : Con := ⟨[], s_check.g, none⟩
def V_check (o : Int) (a : Int) (b : Int) (m : Int) : Prop :=
  True ∧ ((bif decide (o < (0 : Int)) then true else decide ((15 : Int) ≤ o)) = true → ((1 : Int) ≠ (0 : Int) ∧ insNo o a b m = (1 : Int) ∧ (-1 : Int) = (-1 : Int)) ∧ True) ∧ ((bif decide (o < (0 : Int)) then true else decide ((15 : Int) ≤ o)) = false → ((0 : Int) ≤ o ∧ o < (↑(15 : Nat) : Int)) ∧ True ∧ (True ∧ True ∧ True ∧ True) ∧ ((a = a ∧ hasA (↑(Int.toNat o) : Int) = hasA (↑(Int.toNat o) : Int) ∧ (0 : Int) = (0 : Int) ∧ (7 : Int) = (7 : Int) ∧ True) ∧ True ∧ True) ∧ ((!fitsB a (hasA (↑(Int.toNat o) : Int)) (0 : Int) (7 : Int)) = false → (b = b ∧ hasB (↑(Int.toNat o) : Int) = hasB (↑(Int.toNat o) : Int) ∧ (0 : Int) = (0 : Int) ∧ (7 : Int) = (7 : Int) ∧ True) ∧ True ∧ True) ∧ ((bif !fitsB a (hasA (↑(Int.toNat o) : Int)) (0 : Int) (7 : Int) then true else !fitsB b (hasB (↑(Int.toNat o) : Int)) (0 : Int) (7 : Int)) = false → (m = m ∧ hasC (↑(Int.toNat o) : Int) = hasC (↑(Int.toNat o) : Int) ∧ (-32768 : Int) = (-32768 : Int) ∧ (32767 : Int) = (32767 : Int) ∧ True) ∧ True ∧ True) ∧ ((bif bif !fitsB a (hasA (↑(Int.toNat o) : Int)) (0 : Int) (7 : Int) then true else !fitsB b (hasB (↑(Int.toNat o) : Int)) (0 : Int) (7 : Int) then true else !fitsB m (hasC (↑(Int.toNat o) : Int)) (-32768 : Int) (32767 : Int)) = true → ((2 : Int) ≠ (0 : Int) ∧ insNo o a b m = (2 : Int) ∧ (-1 : Int) = (-1 : Int)) ∧ True) ∧ ((bif bif !fitsB a (hasA (↑(Int.toNat o) : Int)) (0 : Int) (7 : Int) then true else !fitsB b (hasB (↑(Int.toNat o) : Int)) (0 : Int) (7 : Int) then true else !fitsB m (hasC
    (↑(Int.toNat o) : Int)) (-32768 : Int) (32767 : Int)) = false → (insNo o a b m = (0 : Int) ∧ (-1 : Int) = (-1 : Int)) ∧ True))
theorem q_check (o : Int) (a : Int) (b : Int) (m : Int) : evBody Tryd.prog false glS (mkT [(70, c_fits)]) Tryd.f19 (a_check o a b m) (m_check o a b m) [] (r_check o a b m) (n_check o a b m) = V_check o a b m := by kernel_rfl
theorem pf_check (o : Int) (a : Int) (b : Int) (m : Int) (hp : p_check o a b m) : FnC Tryd.prog glS 19 (a_check o a b m) (m_check o a b m) (r_check o a b m) (n_check o a b m) := by
  refine fn_of (sound_cons (ok_fits.up glN_glS) sound_nil) false Tryd.func19 [] (q_check o a b m) ?_
  unfold V_check
  have hA : (bif decide (o < 0) then true else decide (15 ≤ o)) = false → 0 ≤ o ∧ o < 15 ∧ (o.toNat : Int) = o := by
    intro h1
    have h2 : ¬ o < 0 ∧ ¬ 15 ≤ o := by
      cases hd : decide (o < 0) <;> rw [hd] at h1 <;> simp_all
    exact ⟨by omega, by omega, by omega⟩
  refine ⟨trivial, fun h1 => ⟨⟨by decide, ?_, rfl⟩, trivial⟩, fun h1 => ?_⟩
  · have : farB o 14 = true := by
      unfold farB
      cases hd : decide (o < 0) <;> rw [hd] at h1 <;> simp_all
      omega
    simp [insNo, this]
  · obtain ⟨g1, g2, g3⟩ := hA h1
    have hf : farB o 14 = false := by simp [farB]; omega
    clear hA h1
    rw [g3]
    refine ⟨⟨g1, g2⟩, trivial, ⟨trivial, trivial, trivial, trivial⟩, by simp, fun _ => by simp, fun _ => by simp, fun h2 => ⟨⟨by decide, ?_, rfl⟩, trivial⟩, fun h2 => ⟨⟨?_, rfl⟩, trivial⟩⟩
    all_goals
      unfold insNo
      rw [hf]
      simp only [cond_false]
      clear hf g1 g2 g3
      unfold fitsB at h2
      unfold insBad farB
      cases hA' : hasA o <;> cases hB' : hasB o <;> cases hC' : hasC o <;> simp_all [cond_eq_ite] <;> omega
theorem ok_check : FnOK Tryd.prog glS 19 c_check := fnOK_of (fun l w => Tryd.call19 l w) fun x_ hp => pf_check x_.o x_.a x_.b x_.m hp
end Go.Proofs.YtfmaeiilbhpepaaDoor
set_option linter.unusedVariables false
set_option linter.unusedSimpArgs false
set_option maxRecDepth 100000
namespace Go.Proofs.YtfmaeiilbhpepaaDoor
open Go.RowKit Go.Sy
theorem insNo_range {o a b m : Int} (h : insNo o a b m = 0) : 0 ≤ o ∧ o ≤ 14 ∧ 0 ≤ a ∧ a ≤ 7 ∧ 0 ≤ b ∧ b ≤ 7 ∧ -32768 ≤ m ∧ m ≤ 32767 := by
  unfold insNo at h
  cases h1 : farB o 14 with
  | true => rw [h1] at h; cases h
  | false =>
    cases h2 : insBad o a b m with
    | true => rw [h1, h2] at h; cases h
    | false =>
      unfold insBad farB at h2
      unfold farB at h1
      simp at h1 h2
      omega
theorem insNo_or (o a b m : Int) : insNo o a b m = 0 ∨ insNo o a b m = 1 ∨ insNo o a b m = 2 := by
  unfold insNo
  cases farB o 14 <;> cases insBad o a b m <;> simp
def encA (o a b m : Int) : Int := bif insNo o a b m == 0 then o * 256 + a * 16 + b else 0
def encB (o a b m : Int) : Int := bif insNo o a b m == 0 then m % 65536 else 0
def immOf (y : Int) : Int := bif decide (32767 < y) then y - 65536 else y
def decOk (x y : Int) : Bool := !(farB x 65535) && !(farB y 65535) && insNo (x / 256) (x / 16 % 16) (x % 16) (immOf y) == 0
def farXY (x y : Int) : Bool := farB x 65535 || farB y 65535
structure X_codeOf where
  o : Int
  a : Int
  b : Int
  m : Int
def a_codeOf (o : Int) (a : Int) (b : Int) (m : Int) : List SV := [.ag 4 (lsv [.v (.int .i64 o), .v (.int .i64 a), .v (.int .i64 b), .v (.int .i64 m)])]
def m_codeOf (o : Int) (a : Int) (b : Int) (m : Int) : List Blk := []
def r_codeOf (o : Int) (a : Int) (b : Int) (m : Int) : SV := .ag 2 (lsv [.v (.int .i64 (o * 256 + a * 16 + b)), .v (.int .i64 (m % 65536))])
def n_codeOf (o : Int) (a : Int) (b : Int) (m : Int) : List Blk := []
def p_codeOf (o : Int) (a : Int) (b : Int) (m : Int) : Prop := insNo o a b m = 0
def s_codeOf : Sy.Spec where
  X := X_codeOf
  args x_ := a_codeOf x_.o x_.a x_.b x_.m
  mem x_ := m_codeOf x_.o x_.a x_.b x_.m
  pre x_ := p_codeOf x_.o x_.a x_.b x_.m
  res x_ := r_codeOf x_.o x_.a x_.b x_.m
  mem' x_ := n_codeOf x_.o x_.a x_.b x_.m
  dec args mem := match args with | [a0] => some ⟨intD (agD a0 0), intD (agD a0 1), intD (agD a0 2), intD (agD a0 3)⟩ | _ => none
def c_codeOf : Con := ⟨[], s_codeOf.g, none⟩
def V_codeOf (o : Int) (a : Int) (b : Int) (m : Int) : Prop :=
  True ∧ True ∧ (decide (m < (0 : Int)) = true → IntKind.wrap IntKind.i64 (m + (65536 : Int)) = m + (65536 : Int) ∧ IntKind.wrap IntKind.i64 (o * (256 : Int)) = o * (256 : Int) ∧ IntKind.wrap IntKind.i64 (a * (16 : Int)) = a * (16 : Int) ∧ IntKind.wrap IntKind.i64 (o * (256 : Int) + a * (16 : Int)) = o * (256 : Int) + a * (16 : Int) ∧ IntKind.wrap IntKind.i64 (o * (256 : Int) + a * (16 : Int) + b) = o * (256 : Int) + a * (16 : Int) + b ∧ (True ∧ True) ∧ ((True ∧ o * (256 : Int) + a * (16 : Int) + b = o * (256 : Int) + a * (16 : Int) + b) ∧ m + (65536 : Int) = m % (65536 : Int)) ∧ True) ∧ (decide (m < (0 : Int)) = false → IntKind.wrap IntKind.i64 (o * (256 : Int)) = o * (256 : Int) ∧ IntKind.wrap IntKind.i64 (a * (16 : Int)) = a * (16 : Int) ∧ IntKind.wrap IntKind.i64 (o * (256 : Int) + a * (16 : Int)) = o * (256 : Int) + a * (16 : Int) ∧ IntKind.wrap IntKind.i64 (o * (256 : Int) + a * (16 : Int) + b) = o * (256 : Int) + a * (16 : Int) + b ∧ (True ∧ True) ∧ ((True ∧ o * (256 : Int) + a * (16 : Int) + b = o * (256 : Int) + a * (16 : Int) + b) ∧ m = m % (65536 : Int)) ∧ True)
theorem q_codeOf (o : Int) (a : Int) (b : Int) (m : Int) : evBody Tryd.prog false glN (mkT []) Tryd.f16 (a_codeOf o a b m) (m_codeOf o a b m) [] (r_codeOf o a b m) (n_codeOf o a b m) = V_codeOf o a b m := by kernel_rfl
theorem pf_codeOf (o : Int) (a : Int) (b : Int) (m : Int) (hp : p_codeOf o a b m) : FnC Tryd.prog glN 16 (a_codeOf o a b m) (m_codeOf o a b m) (r_codeOf o a b m) (n_codeOf o a b m) := by
  refine fn_of sound_nil false Tryd.func16 [] (q_codeOf o a b m) ?_
  unfold V_codeOf
  unfold p_codeOf at hp
  have hr := insNo_range hp
  refine ⟨trivial, trivial, fun h => ?_, fun h => ?_⟩
  all_goals
    repeat' (first | exact trivial | rfl | refine And.intro ?_ ?_)
  all_goals (try simp only [IntKind.wrap_i64]) <;> simp at h <;> omega
theorem ok_codeOf : FnOK Tryd.prog glN 16 c_codeOf := fnOK_of (fun l w => Tryd.call16 l w) fun x_ hp => pf_codeOf x_.o x_.a x_.b x_.m hp
structure X_insOf where
  x : Int
  y : Int
def a_insOf (x : Int) (y : Int) : List SV := [.ag 2 (lsv [.v (.int .i64 x), .v (.int .i64 y)])]
def m_insOf (x : Int) (y : Int) : List Blk := []
def r_insOf (x : Int) (y : Int) : SV := .tp 2 (lsv [.ag 4 (lsv [.v (.int .i64 (bif farXY x y then 0 else x / 256)), .v (.int .i64 (bif farXY x y then 0 else x / 16 % 16)), .v (.int .i64 (bif farXY x y then 0 else x % 16)), .v (.int .i64 (bif farXY x y then 0 else immOf y))]), .v (.bool (bif farXY x y then false else insNo (x / 256) (x / 16 % 16) (x % 16) (immOf y) == 0))])
def n_insOf (x : Int) (y : Int) : List Blk := []
def p_insOf (x : Int) (y : Int) : Prop := True
def s_insOf : Sy.Spec where
  X := X_insOf
  args x_ := a_insOf x_.x x_.y
  mem x_ := m_insOf x_.x x_.y
  pre x_ := p_insOf x_.x x_.y
  res x_ := r_insOf x_.x x_.y
  mem' x_ := n_insOf x_.x x_.y
  dec args mem := match args with | [a0] => some ⟨intD (agD a0 0), intD (agD a0 1)⟩ | _ => none
def c_insOf : Con := ⟨[], s_insOf.g, none⟩
def V_insOf (x : Int) (y : Int) : Prop :=
  True ∧ True ∧ ((0 : Int) ≤ (0 : Int) ∧ (0 : Int) < (↑(2 : Nat) : Int)) ∧ ((x = x ∧ (65535 : Int) = (65535 : Int) ∧ True) ∧ True ∧ True) ∧ (farB x (65535 : Int) = false → (0 : Int) ≤ (1 : Int) ∧ (1 : Int) < (↑(2 : Nat) : Int)) ∧ (farB x (65535 : Int) = false → (y = y ∧ (65535 : Int) = (65535 : Int) ∧ True) ∧ True ∧ True) ∧ ((bif farB x (65535 : Int) then true else farB y (65535 : Int)) = true → (True ∧ True ∧ True ∧ True) ∧ ((True ∧ (((True ∧ (0 : Int) = bif farXY x y then (0 : Int) else x / (256 : Int)) ∧ (0 : Int) = bif farXY x y then (0 : Int) else x / (16 : Int) % (16 : Int)) ∧ (0 : Int) = bif farXY x y then (0 : Int) else x % (16 : Int)) ∧ (0 : Int) = bif farXY x y then (0 : Int) else immOf y) ∧ false = bif farXY x y then false else insNo (x / (256 : Int)) (x / (16 : Int) % (16 : Int)) (x % (16 : Int)) (immOf y) == (0 : Int)) ∧ True) ∧ ((bif farB x (65535 : Int) then true else farB y (65535 : Int)) = false → ((0 : Int) ≤ (0 : Int) ∧ (0 : Int) < (↑(2 : Nat) : Int)) ∧ ((0 : Int) ≤ x ∧ (0 : Int) < (256 : Int) ∧ IntKind.wrap IntKind.i64 (x / (256 : Int)) = x / (256 : Int)) ∧ ((0 : Int) ≤ (0 : Int) ∧ (0 : Int) < (↑(2 : Nat) : Int)) ∧ ((0 : Int) ≤ x ∧ (0 : Int) < (16 : Int) ∧ IntKind.wrap IntKind.i64 (x / (16 : Int)) = x / (16 : Int)) ∧ ((0 : Int) ≤ x / (16 : Int) ∧ (0 : Int) < (16 : Int)) ∧ ((0 : Int) ≤ (0 : Int) ∧ (0 : Int) < (↑(2 : Nat) : Int)) ∧ ((0 : Int) ≤ x ∧ (0 : Int) < (16 : Int)) ∧ ((0 : Int) ≤ (1 : Int) ∧ (1 : Int) < (↑(2 : Nat) : Int)) ∧ True ∧ (True ∧ True ∧ True ∧
    True) ∧ (decide ((32767 : Int) < y) = true → IntKind.wrap IntKind.i64 (y - (65536 : Int)) = y - (65536 : Int) ∧ True ∧ True ∧ True ∧ ((((((True ∧ x / (256 : Int) = x / (256 : Int)) ∧ x / (16 : Int) % (16 : Int) = x / (16 : Int) % (16 : Int)) ∧ x % (16 : Int) = x % (16 : Int)) ∧ y - (65536 : Int) = y - (65536 : Int)) ∧ True) ∧ True ∧ True) ∧ True ∧ (True ∧ True ∧ True ∧ True) ∧ ((True ∧ (((True ∧ x / (256 : Int) = bif farXY x y then (0 : Int) else x / (256 : Int)) ∧ x / (16 : Int) % (16 : Int) = bif farXY x y then (0 : Int) else x / (16 : Int) % (16 : Int)) ∧ x % (16 : Int) = bif farXY x y then (0 : Int) else x % (16 : Int)) ∧ y - (65536 : Int) = bif farXY x y then (0 : Int) else immOf y) ∧ (insNo (x / (256 : Int)) (x / (16 : Int) % (16 : Int)) (x % (16 : Int)) (y - (65536 : Int)) == (0 : Int)) = bif farXY x y then false else insNo (x / (256 : Int)) (x / (16 : Int) % (16 : Int)) (x % (16 : Int)) (immOf y) == (0 : Int)) ∧ True) ∧ (decide ((32767 : Int) < y) = false → True ∧ True ∧ ((((((True ∧ x / (256 : Int) = x / (256 : Int)) ∧ x / (16 : Int) % (16 : Int) = x / (16 : Int) % (16 : Int)) ∧ x % (16 : Int) = x % (16 : Int)) ∧ y = y) ∧ True) ∧ True ∧ True) ∧ True ∧ (True ∧ True ∧ True ∧ True) ∧ ((True ∧ (((True ∧ x / (256 : Int) = bif farXY x y then (0 : Int) else x / (256 : Int)) ∧ x / (16 : Int) % (16 : Int) = bif farXY x y then (0 : Int) else x / (16 : Int) % (16 : Int)) ∧ x % (16 : Int) = bif farXY x y then (0 : Int) else x % (16 : Int)) ∧ y = bif farXY x y then (0 : Int)
    else immOf y) ∧ (insNo (x / (256 : Int)) (x / (16 : Int) % (16 : Int)) (x % (16 : Int)) y == (0 : Int)) = bif farXY x y then false else insNo (x / (256 : Int)) (x / (16 : Int) % (16 : Int)) (x % (16 : Int)) (immOf y) == (0 : Int)) ∧ True))
theorem q_insOf (x : Int) (y : Int) : evBody Tryd.prog false glN (mkT [(15, c_insMay), (53, c_far)]) Tryd.f21 (a_insOf x y) (m_insOf x y) [] (r_insOf x y) (n_insOf x y) = V_insOf x y := by kernel_rfl
theorem pf_insOf (x : Int) (y : Int) (hp : p_insOf x y) : FnC Tryd.prog glN 21 (a_insOf x y) (m_insOf x y) (r_insOf x y) (n_insOf x y) := by
  refine fn_of (sound_cons ok_insMay (sound_cons ok_far sound_nil)) false Tryd.func21 [] (q_insOf x y) ?_
  unfold V_insOf
  have hfar : (bif farB x 65535 then true else farB y 65535) = farXY x y := by unfold farXY; cases farB x 65535 <;> rfl
  rw [hfar]
  refine ⟨trivial, trivial, by decide, by simp, fun _ => by decide, fun _ => by simp, fun hc => by rw [hc]; simp, fun hc => ?_⟩
  have hr : 0 ≤ x ∧ x ≤ 65535 ∧ 0 ≤ y ∧ y ≤ 65535 := by
    simp [farXY, farB] at hc; omega
  have hi : ∀ b, decide ((32767 : Int) < y) = b → immOf y = bif b then y - 65536 else y := fun b h => by unfold immOf; rw [h]
  rw [hc]
  repeat' (first | exact trivial | rfl | refine And.intro ?_ ?_ | intro h)
  all_goals first | omega | (rw [IntKind.wrap_i64]; omega) | (rw [hi _ h]; rfl) | (rw [hi _ h]; simp)
theorem ok_insOf : FnOK Tryd.prog glN 21 c_insOf := fnOK_of (fun l w => Tryd.call21 l w) fun x_ hp => pf_insOf x_.x x_.y hp
end Go.Proofs.YtfmaeiilbhpepaaDoor
set_option linter.unusedVariables false
set_option linter.unusedSimpArgs false
set_option maxRecDepth 100000
namespace Go.Proofs.YtfmaeiilbhpepaaDoor
open Go.RowKit Go.Sy
structure X_encode where
  o : Int
  a : Int
  b : Int
  m : Int
def a_encode (o : Int) (a : Int) (b : Int) (m : Int) : List SV := [.ag 4 (lsv [.v (.int .i64 o), .v (.int .i64 a), .v (.int .i64 b), .v (.int .i64 m)])]
def m_encode (o : Int) (a : Int) (b : Int) (m : Int) : List Blk := []
def r_encode (o : Int) (a : Int) (b : Int) (m : Int) : SV := .tp 2 (lsv [.ag 2 (lsv [.v (.int .i64 (encA o a b m)), .v (.int .i64 (encB o a b m))]), .er 22 25 (insNo o a b m) (-1)])
def n_encode (o : Int) (a : Int) (b : Int) (m : Int) : List Blk := []
def p_encode (o : Int) (a : Int) (b : Int) (m : Int) : Prop := True
def s_encode : Sy.Spec where
  X := X_encode
  args x_ := a_encode x_.o x_.a x_.b x_.m
  mem x_ := m_encode x_.o x_.a x_.b x_.m
  pre x_ := p_encode x_.o x_.a x_.b x_.m
  res x_ := r_encode x_.o x_.a x_.b x_.m
  mem' x_ := n_encode x_.o x_.a x_.b x_.m
  dec args mem := match args with | [a0] => some ⟨intD (agD a0 0), intD (agD a0 1), intD (agD a0 2), intD (agD a0 3)⟩ | _ => none
def c_encode : Con := ⟨[], s_encode.g, none⟩
def V_encode (o : Int) (a : Int) (b : Int) (m : Int) : Prop :=
  True ∧ True ∧ ((((((True ∧ o = o) ∧ a = a) ∧ b = b) ∧ m = m) ∧ True) ∧ True ∧ True) ∧ ((insNo o a b m != (0 : Int)) = true → (True ∧ True) ∧ ((True ∧ (True ∧ (0 : Int) = encA o a b m) ∧ (0 : Int) = encB o a b m) ∧ insNo o a b m = insNo o a b m ∧ (-1 : Int) = (-1 : Int)) ∧ True) ∧ ((insNo o a b m != (0 : Int)) = false → (0 : Int) ≤ (8 : Int) ∧ (0 : Int) ≤ (4 : Int) ∧ (True ∧ True) ∧ ((True ∧ (True ∧ bitsI BinOp.or IntKind.i64 (bitsI BinOp.or IntKind.i64 (IntKind.wrap IntKind.i64 (o * (2 : Int) ^ (8 : Nat))) (IntKind.wrap IntKind.i64 (a * (2 : Int) ^ (4 : Nat)))) b = encA o a b m) ∧ bitsI BinOp.and IntKind.i64 m (65535 : Int) = encB o a b m) ∧ insNo o a b m = (0 : Int) ∧ (-1 : Int) = (-1 : Int)) ∧ True)
theorem q_encode (o : Int) (a : Int) (b : Int) (m : Int) : evBody Tryd.prog false glS (mkT [(19, c_check)]) Tryd.f17 (a_encode o a b m) (m_encode o a b m) [] (r_encode o a b m) (n_encode o a b m) = V_encode o a b m := by kernel_rfl
theorem pf_encode (o : Int) (a : Int) (b : Int) (m : Int) (hp : p_encode o a b m) : FnC Tryd.prog glS 17 (a_encode o a b m) (m_encode o a b m) (r_encode o a b m) (n_encode o a b m) := by
  refine fn_of (sound_cons ok_check sound_nil) false Tryd.func17 [] (q_encode o a b m) ?_
  unfold V_encode
  refine ⟨trivial, trivial, by simp, fun h => ?_, fun h => ?_⟩
  · have hb : (insNo o a b m == 0) = false := by simpa using h
    simp [encA, encB, hb]
  · have h0 : insNo o a b m = 0 := by simpa using h
    have hr := insNo_range h0
    have e1 : bitsI BinOp.or IntKind.i64 (bitsI BinOp.or IntKind.i64 (IntKind.i64.wrap (o * (2 : Int) ^ 8)) (IntKind.i64.wrap (a * (2 : Int) ^ 4))) b = encA o a b m := by
      simp only [encA, h0, beq_self_eq_true, cond_true]
      rw [show IntKind.i64.wrap (o * 2 ^ 8) = o * 2 ^ 8 by rw [IntKind.wrap_i64]; show (_ : Int) = _; simp [IntKind.bits]; omega,
        show IntKind.i64.wrap (a * 2 ^ 4) = a * 2 ^ 4 by rw [IntKind.wrap_i64]; simp [IntKind.bits]; omega]
      rw [join64 8 rfl (by omega) (by omega) (by omega) (by omega), join64 4 (x := o * 16 + a) (by omega) (by omega) (by omega) (by omega) (by omega)]
      omega
    have e2 : bitsI BinOp.and IntKind.i64 m 65535 = encB o a b m := by
      simp only [encB, h0, beq_self_eq_true, cond_true]
      exact mask64 16 (by omega) rfl
    exact ⟨by decide, by decide, ⟨trivial, trivial⟩, ⟨⟨trivial, ⟨trivial, e1⟩, e2⟩, h0, rfl⟩, trivial⟩
theorem ok_encode : FnOK Tryd.prog glS 17 c_encode := fnOK_of (fun l w => Tryd.call17 l w) fun x_ hp => pf_encode x_.o x_.a x_.b x_.m hp
structure X_decode where
  x : Int
  y : Int
def a_decode (x : Int) (y : Int) : List SV := [.ag 2 (lsv [.v (.int .i64 x), .v (.int .i64 y)])]
def m_decode (x : Int) (y : Int) : List Blk := []
def r_decode (x : Int) (y : Int) : SV := .tp 2 (lsv [.ag 4 (lsv [.v (.int .i64 (bif decOk x y then x / 256 else 0)), .v (.int .i64 (bif decOk x y then x / 16 % 16 else 0)), .v (.int .i64 (bif decOk x y then x % 16 else 0)), .v (.int .i64 (bif decOk x y then immOf y else 0))]), .er 22 25 (bif decOk x y then 0 else 1) (-1)])
def n_decode (x : Int) (y : Int) : List Blk := []
def p_decode (x : Int) (y : Int) : Prop := True
def s_decode : Sy.Spec where
  X := X_decode
  args x_ := a_decode x_.x x_.y
  mem x_ := m_decode x_.x x_.y
  pre x_ := p_decode x_.x x_.y
  res x_ := r_decode x_.x x_.y
  mem' x_ := n_decode x_.x x_.y
  dec args mem := match args with | [a0] => some ⟨intD (agD a0 0), intD (agD a0 1)⟩ | _ => none
def c_decode : Con := ⟨[], s_decode.g, none⟩
def V_decode (x : Int) (y : Int) : Prop :=
  True ∧ True ∧ ((0 : Int) ≤ (0 : Int) ∧ (0 : Int) < (↑(2 : Nat) : Int)) ∧ ((0 : Int) ≤ (1 : Int) ∧ (1 : Int) < (↑(2 : Nat) : Int)) ∧ (decide (min x y < (0 : Int)) = false → (0 : Int) ≤ (0 : Int) ∧ (0 : Int) < (↑(2 : Nat) : Int)) ∧ (decide (min x y < (0 : Int)) = false → (0 : Int) ≤ (1 : Int) ∧ (1 : Int) < (↑(2 : Nat) : Int)) ∧ ((bif decide (min x y < (0 : Int)) then true else decide ((65535 : Int) < max x y)) = true → (True ∧ True ∧ True ∧ True) ∧ ((True ∧ (((True ∧ (0 : Int) = bif decOk x y then x / (256 : Int) else (0 : Int)) ∧ (0 : Int) = bif decOk x y then x / (16 : Int) % (16 : Int) else (0 : Int)) ∧ (0 : Int) = bif decOk x y then x % (16 : Int) else (0 : Int)) ∧ (0 : Int) = bif decOk x y then immOf y else (0 : Int)) ∧ (1 : Int) ≠ (0 : Int) ∧ (bif decOk x y then (0 : Int) else (1 : Int)) = (1 : Int) ∧ (-1 : Int) = (-1 : Int)) ∧ True) ∧ ((bif decide (min x y < (0 : Int)) then true else decide ((65535 : Int) < max x y)) = false → ((0 : Int) ≤ (0 : Int) ∧ (0 : Int) < (↑(2 : Nat) : Int)) ∧ (0 : Int) ≤ (8 : Int) ∧ ((0 : Int) ≤ (0 : Int) ∧ (0 : Int) < (↑(2 : Nat) : Int)) ∧ (0 : Int) ≤ (4 : Int) ∧ ((0 : Int) ≤ (0 : Int) ∧ (0 : Int) < (↑(2 : Nat) : Int)) ∧ ((0 : Int) ≤ (1 : Int) ∧ (1 : Int) < (↑(2 : Nat) : Int)) ∧ True ∧ (True ∧ True ∧ True ∧ True) ∧ ((((((True ∧ Int.fdiv x ((2 : Int) ^ (8 : Nat)) = Int.fdiv x ((2 : Int) ^ (8 : Nat))) ∧ bitsI BinOp.and IntKind.i64 (Int.fdiv x ((2 : Int) ^ (4 : Nat))) (15 : Int) = bitsI BinOp.and IntKind.i64 (Int.fdiv x ((2 : Int) ^ (4 : Nat)))
    (15 : Int)) ∧ bitsI BinOp.and IntKind.i64 x (15 : Int) = bitsI BinOp.and IntKind.i64 x (15 : Int)) ∧ IntKind.wrap IntKind.i64 (IntKind.wrap IntKind.i16 y) = IntKind.wrap IntKind.i64 (IntKind.wrap IntKind.i16 y)) ∧ True) ∧ True ∧ True) ∧ ((insNo (Int.fdiv x ((2 : Int) ^ (8 : Nat))) (bitsI BinOp.and IntKind.i64 (Int.fdiv x ((2 : Int) ^ (4 : Nat))) (15 : Int)) (bitsI BinOp.and IntKind.i64 x (15 : Int)) (IntKind.wrap IntKind.i64 (IntKind.wrap IntKind.i16 y)) != (0 : Int)) = true → (True ∧ True ∧ True ∧ True) ∧ ((True ∧ (((True ∧ (0 : Int) = bif decOk x y then x / (256 : Int) else (0 : Int)) ∧ (0 : Int) = bif decOk x y then x / (16 : Int) % (16 : Int) else (0 : Int)) ∧ (0 : Int) = bif decOk x y then x % (16 : Int) else (0 : Int)) ∧ (0 : Int) = bif decOk x y then immOf y else (0 : Int)) ∧ (1 : Int) ≠ (0 : Int) ∧ (bif decOk x y then (0 : Int) else (1 : Int)) = (1 : Int) ∧ (-1 : Int) = (-1 : Int)) ∧ True) ∧ ((insNo (Int.fdiv x ((2 : Int) ^ (8 : Nat))) (bitsI BinOp.and IntKind.i64 (Int.fdiv x ((2 : Int) ^ (4 : Nat))) (15 : Int)) (bitsI BinOp.and IntKind.i64 x (15 : Int)) (IntKind.wrap IntKind.i64 (IntKind.wrap IntKind.i16 y)) != (0 : Int)) = false → (True ∧ True ∧ True ∧ True) ∧ ((True ∧ (((True ∧ Int.fdiv x ((2 : Int) ^ (8 : Nat)) = bif decOk x y then x / (256 : Int) else (0 : Int)) ∧ bitsI BinOp.and IntKind.i64 (Int.fdiv x ((2 : Int) ^ (4 : Nat))) (15 : Int) = bif decOk x y then x / (16 : Int) % (16 : Int) else (0 : Int)) ∧ bitsI BinOp.and IntKind.i64 x (15 : Int) = bif decOk x
    y then x % (16 : Int) else (0 : Int)) ∧ IntKind.wrap IntKind.i64 (IntKind.wrap IntKind.i16 y) = bif decOk x y then immOf y else (0 : Int)) ∧ (bif decOk x y then (0 : Int) else (1 : Int)) = (0 : Int) ∧ (-1 : Int) = (-1 : Int)) ∧ True))
theorem q_decode (x : Int) (y : Int) : evBody Tryd.prog true glS (mkT [(19, c_check)]) Tryd.f22 (a_decode x y) (m_decode x y) [] (r_decode x y) (n_decode x y) = V_decode x y := by kernel_rfl
theorem pf_decode (x : Int) (y : Int) (hp : p_decode x y) : FnC Tryd.prog glS 22 (a_decode x y) (m_decode x y) (r_decode x y) (n_decode x y) := by
  refine fn_of (sound_cons ok_check sound_nil) true Tryd.func22 [] (q_decode x y) ?_
  unfold V_decode
  have key : ∀ {c : Bool}, decOk x y = c → True := fun _ => trivial
  refine ⟨trivial, trivial, by decide, by decide, fun _ => by decide, fun _ => by decide, fun h => ?_, fun h => ?_⟩
  · have hf : decOk x y = false := by
      have : min x y < 0 ∨ 65535 < max x y := by
        cases hd : decide (min x y < 0) <;> rw [hd] at h <;> simp_all
      unfold decOk farB
      have h2 : ((decide (x < 0) || decide (65535 < x)) || (decide (y < 0) || decide (65535 < y))) = true := by simp; omega
      revert h2
      cases (decide (x < 0) || decide (65535 < x)) <;> cases (decide (y < 0) || decide (65535 < y)) <;> simp
    rw [hf]
    simp
  · have hr : 0 ≤ x ∧ x ≤ 65535 ∧ 0 ≤ y ∧ y ≤ 65535 := by
      have : ¬ min x y < 0 ∧ ¬ 65535 < max x y := by
        cases hd : decide (min x y < 0) <;> rw [hd] at h <;> simp_all
      omega
    have e1 : x.fdiv (2 ^ 8) = x / 256 := Int.fdiv_eq_ediv_of_nonneg _ (by decide)
    have e0 : x.fdiv (2 ^ 4) = x / 16 := Int.fdiv_eq_ediv_of_nonneg _ (by decide)
    have e2 : bitsI BinOp.and IntKind.i64 (x / 16) 15 = x / 16 % 16 := mask64 4 (by omega) rfl
    have e3 : bitsI BinOp.and IntKind.i64 x 15 = x % 16 := mask64 4 (by omega) rfl
    have e4 : IntKind.i64.wrap (IntKind.i16.wrap y) = immOf y := by
      have h16 : IntKind.i16.wrap y = immOf y := by
        unfold immOf
        cases hd : decide (32767 < y) with
        | false => simp at hd; rw [IntWalk.i16_in y (by omega)]; rfl
        | true =>
          simp at hd
          simp only [IntKind.wrap, IntKind.bits, IntKind.signed]; simp; split <;> omega
      rw [h16]
      refine IntWalk.i64_in _ ?_
      unfold immOf
      cases decide (32767 < y) <;> simp <;> omega
    rw [e1, e0, e2, e3, e4]
    have hd : decOk x y = (insNo (x / 256) (x / 16 % 16) (x % 16) (immOf y) == 0) := by
      have h1 : farB x 65535 = false := by simp [farB]; omega
      have h2 : farB y 65535 = false := by simp [farB]; omega
      simp [decOk, h1, h2]
    clear e1 e0 e2 e3 e4 key
    refine ⟨by decide, by decide, by decide, by decide, by decide, by decide, trivial, ⟨trivial, trivial, trivial, trivial⟩, by simp, fun g => ?_, fun g => ?_⟩
    · have hf : decOk x y = false := by rw [hd]; simpa using g
      rw [hf]
      simp
    · have hf : decOk x y = true := by rw [hd]; simpa using g
      rw [hf]
      simp
theorem ok_decode : FnOK Tryd.prog glS 22 c_decode := fnOK_of (fun l w => Tryd.call22 l w) fun x_ hp => pf_decode x_.x x_.y hp
end Go.Proofs.YtfmaeiilbhpepaaDoor
