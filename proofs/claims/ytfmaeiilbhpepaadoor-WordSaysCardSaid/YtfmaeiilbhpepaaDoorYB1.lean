/- Contracts of the small functions that read no variable. -/
import Derived.Test.YtfmaeiilbhpepaaDoorYAs
set_option linter.unusedVariables false
set_option linter.unusedSimpArgs false
set_option linter.unusedVariables false
set_option linter.unusedSimpArgs false
set_option maxRecDepth 100000
namespace Go.Proofs.YtfmaeiilbhpepaaDoor
open Go.RowKit Go.Sy
def fitsB (v : Int) (h : Bool) (lo hi : Int) : Bool := bif h then decide (lo ≤ v) && decide (v ≤ hi) else v == 0
def insBad (o a b m : Int) : Bool := farB a 7 || farB b 7 || decide (m < -32768) || decide (32767 < m) || (!(hasA o) && a != 0) || (!(hasB o) && b != 0) || (!(hasC o) && m != 0)
def insNo (o a b m : Int) : Int := bif farB o 14 then 1 else bif insBad o a b m then 2 else 0
structure X_far where
  v : Int
  m : Int
def a_far (v : Int) (m : Int) : List SV := [.v (.int .i64 v), .v (.int .i64 m)]
def m_far (v : Int) (m : Int) : List Blk := []
def r_far (v : Int) (m : Int) : SV := .v (.bool (farB v m))
def n_far (v : Int) (m : Int) : List Blk := []
def p_far (v : Int) (m : Int) : Prop := True
def s_far : Sy.Spec where
  X := X_far
  args x_ := a_far x_.v x_.m
  mem x_ := m_far x_.v x_.m
  pre x_ := p_far x_.v x_.m
  res x_ := r_far x_.v x_.m
  mem' x_ := n_far x_.v x_.m
  dec args mem := match args with | [a0, a1] => some ⟨intD (a0), intD (a1)⟩ | _ => none
def c_far : Con := ⟨[], s_far.g, none⟩
def V_far (v : Int) (m : Int) : Prop :=
  (bif decide (v < (0 : Int)) then true else decide (m < v)) = farB v m ∧ True
theorem pf_far (v : Int) (m : Int) (hp : p_far v m) : FnC Tryd.prog glN 53 (a_far v m) (m_far v m) (r_far v m) (n_far v m) := by
  refine fn_of sound_nil false Tryd.func53 [] (V := V_far v m) (by kernel_rfl) ?_
  unfold V_far
  refine ⟨?_, trivial⟩
  unfold farB; cases decide (v < 0) <;> rfl
theorem ok_far : FnOK Tryd.prog glN 53 c_far := fnOK_of (fun l w => Tryd.call53 l w) fun x_ hp => pf_far x_.v x_.m hp
structure X_err where
  e : Int
def a_err (e : Int) : List SV := [.v (.int .i64 e)]
def m_err (e : Int) : List Blk := []
def r_err (e : Int) : SV := .ag 2 (lsv [.v (.int .i64 e), .v (.int .i64 (-1))])
def n_err (e : Int) : List Blk := []
def p_err (e : Int) : Prop := True
def s_err : Sy.Spec where
  X := X_err
  args x_ := a_err x_.e
  mem x_ := m_err x_.e
  pre x_ := p_err x_.e
  res x_ := r_err x_.e
  mem' x_ := n_err x_.e
  dec args mem := match args with | [a0] => some ⟨intD (a0)⟩ | _ => none
def c_err : Con := ⟨[], s_err.g, none⟩
def V_err (e : Int) : Prop :=
  True ∧ (True ∧ True) ∧ ((True ∧ e = e) ∧ (-1 : Int) = (-1 : Int)) ∧ True
theorem pf_err (e : Int) (hp : p_err e) : FnC Tryd.prog glN 20 (a_err e) (m_err e) (r_err e) (n_err e) := by
  refine fn_of sound_nil false Tryd.func20 [] (V := V_err e) (by kernel_rfl) ?_
  unfold V_err
  simp
theorem ok_err : FnOK Tryd.prog glN 20 c_err := fnOK_of (fun l w => Tryd.call20 l w) fun x_ hp => pf_err x_.e hp
structure X_fine where
  unit_ : Unit
def a_fine : List SV := []
def m_fine : List Blk := []
def r_fine : SV := .ag 2 (lsv [.v (.int .i64 0), .v (.int .i64 (-1))])
def n_fine : List Blk := []
def p_fine : Prop := True
def s_fine : Sy.Spec where
  X := X_fine
  args x_ := a_fine
  mem x_ := m_fine
  pre x_ := p_fine
  res x_ := r_fine
  mem' x_ := n_fine
  dec args mem := match args with | [] => some ⟨()⟩ | _ => none
def c_fine : Con := ⟨[], s_fine.g, none⟩
def V_fine : Prop :=
  True ∧ (True ∧ True) ∧ ((True ∧ (0 : Int) = (0 : Int)) ∧ (-1 : Int) = (-1 : Int)) ∧ True
theorem pf_fine (hp : p_fine) : FnC Tryd.prog glN 55 (a_fine) (m_fine) (r_fine) (n_fine) := by
  refine fn_of sound_nil false Tryd.func55 [] (V := V_fine) (by kernel_rfl) ?_
  unfold V_fine
  simp
theorem ok_fine : FnOK Tryd.prog glN 55 c_fine := fnOK_of (fun l w => Tryd.call55 l w) fun x_ hp => pf_fine hp
structure X_fits where
  v : Int
  h : Bool
  lo : Int
  hi : Int
def a_fits (v : Int) (h : Bool) (lo : Int) (hi : Int) : List SV := [.v (.int .i64 v), .v (.bool h), .v (.int .i64 lo), .v (.int .i64 hi)]
def m_fits (v : Int) (h : Bool) (lo : Int) (hi : Int) : List Blk := []
def r_fits (v : Int) (h : Bool) (lo : Int) (hi : Int) : SV := .v (.bool (fitsB v h lo hi))
def n_fits (v : Int) (h : Bool) (lo : Int) (hi : Int) : List Blk := []
def p_fits (v : Int) (h : Bool) (lo : Int) (hi : Int) : Prop := True
def s_fits : Sy.Spec where
  X := X_fits
  args x_ := a_fits x_.v x_.h x_.lo x_.hi
  mem x_ := m_fits x_.v x_.h x_.lo x_.hi
  pre x_ := p_fits x_.v x_.h x_.lo x_.hi
  res x_ := r_fits x_.v x_.h x_.lo x_.hi
  mem' x_ := n_fits x_.v x_.h x_.lo x_.hi
  dec args mem := match args with | [a0, a1, a2, a3] => some ⟨intD (a0), boolD (a1), intD (a2), intD (a3)⟩ | _ => none
def c_fits : Con := ⟨[], s_fits.g, none⟩
def V_fits (v : Int) (h : Bool) (lo : Int) (hi : Int) : Prop :=
  ((!h) = true → (v == (0 : Int)) = fitsB v h lo hi ∧ True) ∧ ((!h) = false → (bif decide (lo ≤ v) then decide (v ≤ hi) else false) = fitsB v h lo hi ∧ True)
theorem pf_fits (v : Int) (h : Bool) (lo : Int) (hi : Int) (hp : p_fits v h lo hi) : FnC Tryd.prog glN 70 (a_fits v h lo hi) (m_fits v h lo hi) (r_fits v h lo hi) (n_fits v h lo hi) := by
  refine fn_of sound_nil false Tryd.func70 [] (V := V_fits v h lo hi) (by kernel_rfl) ?_
  unfold V_fits
  refine ⟨fun h1 => ⟨?_, trivial⟩, fun h1 => ⟨?_, trivial⟩⟩
  · cases h <;> first | rfl | cases h1
  · cases h <;> first | (cases h1; done) | (unfold fitsB; cases decide (lo ≤ v) <;> rfl)
theorem ok_fits : FnOK Tryd.prog glN 70 c_fits := fnOK_of (fun l w => Tryd.call70 l w) fun x_ hp => pf_fits x_.v x_.h x_.lo x_.hi hp
structure X_has where
  o : Int
def a_has (o : Int) : List SV := [.v (.int .i64 o)]
def m_has (o : Int) : List Blk := []
def r_has (o : Int) : SV := .tp 3 (lsv [.v (.bool (hasA o)), .v (.bool (hasB o)), .v (.bool (hasC o))])
def n_has (o : Int) : List Blk := []
def p_has (o : Int) : Prop := True
def s_has : Sy.Spec where
  X := X_has
  args x_ := a_has x_.o
  mem x_ := m_has x_.o
  pre x_ := p_has x_.o
  res x_ := r_has x_.o
  mem' x_ := n_has x_.o
  dec args mem := match args with | [a0] => some ⟨intD (a0)⟩ | _ => none
def c_has : Con := ⟨[], s_has.g, none⟩
def V_has (o : Int) : Prop :=
  ((o == (0 : Int)) = true → (((True ∧ false = hasA o) ∧ false = hasB o) ∧ false = hasC o) ∧ True) ∧ ((o == (0 : Int)) = false → ((o == (1 : Int)) = true → ((o == (1 : Int)) = true → (((True ∧ true = hasA o) ∧ false = hasB o) ∧ true = hasC o) ∧ True) ∧ ((o == (1 : Int)) = false → ((o == (10 : Int)) = true → ((o == (10 : Int)) = true → (((True ∧ true = hasA o) ∧ true = hasB o) ∧ true = hasC o) ∧ True) ∧ ((o == (10 : Int)) = false → ((o == (12 : Int)) = true → ((o == (12 : Int)) = true → (((True ∧ false = hasA o) ∧ false = hasB o) ∧ true = hasC o) ∧ True) ∧ ((o == (12 : Int)) = false → (((True ∧ true = hasA o) ∧ true = hasB o) ∧ false = hasC o) ∧ True)) ∧ ((o == (12 : Int)) = false → ((o == (14 : Int)) = true → (((True ∧ false = hasA o) ∧ false = hasB o) ∧ true = hasC o) ∧ True) ∧ ((o == (14 : Int)) = false → (((True ∧ true = hasA o) ∧ true = hasB o) ∧ false = hasC o) ∧ True)))) ∧ ((o == (10 : Int)) = false → ((o == (11 : Int)) = true → (((True ∧ true = hasA o) ∧ true = hasB o) ∧ true = hasC o) ∧ True) ∧ ((o == (11 : Int)) = false → ((o == (12 : Int)) = true → ((o == (12 : Int)) = true → (((True ∧ false = hasA o) ∧ false = hasB o) ∧ true = hasC o) ∧ True) ∧ ((o == (12 : Int)) = false → (((True ∧ true = hasA o) ∧ true = hasB o) ∧ false = hasC o) ∧ True)) ∧ ((o == (12 : Int)) = false → ((o == (14 : Int)) = true → (((True ∧ false = hasA o) ∧ false = hasB o) ∧ true = hasC o) ∧ True) ∧ ((o == (14 : Int)) = false → (((True ∧ true = hasA o) ∧ true = hasB o) ∧ false = hasC o) ∧
    True)))))) ∧ ((o == (1 : Int)) = false → ((o == (13 : Int)) = true → (((True ∧ true = hasA o) ∧ false = hasB o) ∧ true = hasC o) ∧ True) ∧ ((o == (13 : Int)) = false → ((o == (10 : Int)) = true → ((o == (10 : Int)) = true → (((True ∧ true = hasA o) ∧ true = hasB o) ∧ true = hasC o) ∧ True) ∧ ((o == (10 : Int)) = false → ((o == (12 : Int)) = true → ((o == (12 : Int)) = true → (((True ∧ false = hasA o) ∧ false = hasB o) ∧ true = hasC o) ∧ True) ∧ ((o == (12 : Int)) = false → (((True ∧ true = hasA o) ∧ true = hasB o) ∧ false = hasC o) ∧ True)) ∧ ((o == (12 : Int)) = false → ((o == (14 : Int)) = true → (((True ∧ false = hasA o) ∧ false = hasB o) ∧ true = hasC o) ∧ True) ∧ ((o == (14 : Int)) = false → (((True ∧ true = hasA o) ∧ true = hasB o) ∧ false = hasC o) ∧ True)))) ∧ ((o == (10 : Int)) = false → ((o == (11 : Int)) = true → (((True ∧ true = hasA o) ∧ true = hasB o) ∧ true = hasC o) ∧ True) ∧ ((o == (11 : Int)) = false → ((o == (12 : Int)) = true → ((o == (12 : Int)) = true → (((True ∧ false = hasA o) ∧ false = hasB o) ∧ true = hasC o) ∧ True) ∧ ((o == (12 : Int)) = false → (((True ∧ true = hasA o) ∧ true = hasB o) ∧ false = hasC o) ∧ True)) ∧ ((o == (12 : Int)) = false → ((o == (14 : Int)) = true → (((True ∧ false = hasA o) ∧ false = hasB o) ∧ true = hasC o) ∧ True) ∧ ((o == (14 : Int)) = false → (((True ∧ true = hasA o) ∧ true = hasB o) ∧ false = hasC o) ∧ True)))))))
theorem pf_has (o : Int) (hp : p_has o) : FnC Tryd.prog glN 69 (a_has o) (m_has o) (r_has o) (n_has o) := by
  refine fn_of sound_nil false Tryd.func69 [] (V := V_has o) (by kernel_rfl) ?_
  unfold V_has
  unfold hasA hasB hasC
  repeat' (first | exact trivial | refine And.intro ?_ ?_ | intro h)
  all_goals simp_all
theorem ok_has : FnOK Tryd.prog glN 69 c_has := fnOK_of (fun l w => Tryd.call69 l w) fun x_ hp => pf_has x_.o hp
structure X_insMay where
  o : Int
  a : Int
  b : Int
  m : Int
def a_insMay (o : Int) (a : Int) (b : Int) (m : Int) : List SV := [.ag 4 (lsv [.v (.int .i64 o), .v (.int .i64 a), .v (.int .i64 b), .v (.int .i64 m)])]
def m_insMay (o : Int) (a : Int) (b : Int) (m : Int) : List Blk := []
def r_insMay (o : Int) (a : Int) (b : Int) (m : Int) : SV := .v (.int .i64 (insNo o a b m))
def n_insMay (o : Int) (a : Int) (b : Int) (m : Int) : List Blk := []
def p_insMay (o : Int) (a : Int) (b : Int) (m : Int) : Prop := True
def s_insMay : Sy.Spec where
  X := X_insMay
  args x_ := a_insMay x_.o x_.a x_.b x_.m
  mem x_ := m_insMay x_.o x_.a x_.b x_.m
  pre x_ := p_insMay x_.o x_.a x_.b x_.m
  res x_ := r_insMay x_.o x_.a x_.b x_.m
  mem' x_ := n_insMay x_.o x_.a x_.b x_.m
  dec args mem := match args with | [a0] => some ⟨intD (agD a0 0), intD (agD a0 1), intD (agD a0 2), intD (agD a0 3)⟩ | _ => none
def c_insMay : Con := ⟨[], s_insMay.g, none⟩
def V_insMay (o : Int) (a : Int) (b : Int) (m : Int) : Prop :=
  True ∧ ((o = o ∧ (14 : Int) = (14 : Int) ∧ True) ∧ True ∧ True) ∧ (farB o (14 : Int) = true → (1 : Int) = insNo o a b m ∧ True) ∧ (farB o (14 : Int) = false → ((o = o ∧ True) ∧ True ∧ True) ∧ ((a = a ∧ (7 : Int) = (7 : Int) ∧ True) ∧ True ∧ True) ∧ (farB a (7 : Int) = false → (b = b ∧ (7 : Int) = (7 : Int) ∧ True) ∧ True ∧ True) ∧ ((bif bif bif bif bif bif farB a (7 : Int) then true else farB b (7 : Int) then true else decide (m < (-32768 : Int)) then true else decide ((32767 : Int) < m) then true else bif !hasA o then a != (0 : Int) else false then true else bif !hasB o then b != (0 : Int) else false then true else bif !hasC o then m != (0 : Int) else false) = true → (2 : Int) = insNo o a b m ∧ True) ∧ ((bif bif bif bif bif bif farB a (7 : Int) then true else farB b (7 : Int) then true else decide (m < (-32768 : Int)) then true else decide ((32767 : Int) < m) then true else bif !hasA o then a != (0 : Int) else false then true else bif !hasB o then b != (0 : Int) else false then true else bif !hasC o then m != (0 : Int) else false) = false → (0 : Int) = insNo o a b m ∧ True))
theorem pf_insMay (o : Int) (a : Int) (b : Int) (m : Int) (hp : p_insMay o a b m) : FnC Tryd.prog glN 15 (a_insMay o a b m) (m_insMay o a b m) (r_insMay o a b m) (n_insMay o a b m) := by
  refine fn_of (sound_cons ok_far (sound_cons ok_has sound_nil)) false Tryd.func15 [] (V := V_insMay o a b m) (by kernel_rfl) ?_
  unfold V_insMay
  unfold insNo insBad
  repeat' (first | exact trivial | rfl | refine And.intro ?_ ?_ | intro h)
  all_goals simp_all [cond_eq_ite]
theorem ok_insMay : FnOK Tryd.prog glN 15 c_insMay := fnOK_of (fun l w => Tryd.call15 l w) fun x_ hp => pf_insMay x_.o x_.a x_.b x_.m hp
end Go.Proofs.YtfmaeiilbhpepaaDoor
set_option linter.unusedVariables false
set_option linter.unusedSimpArgs false
set_option maxRecDepth 100000
namespace Go.Proofs.YtfmaeiilbhpepaaDoor
open Go.RowKit Go.Sy
def keyBad1 (k b l m : Int) : Bool := decide (b < 0) || decide (24 < b) || decide (l < 1) || decide (24 < l) || decide (24 < b + l) || (k != 1 && (l != 1 || m != 0)) || (k == 1 && farB m l)
def keyBad2 (k g : Int) : Bool := farB g 65535 || (decide (0 < g) && k != 7 && k != 8)
/-- What a key that may not be is refused with. -/
def keyNo (k b l m r g : Int) : Int :=
  bif farB k 8 then 3 else
  bif k == 0 then (bif b != 0 || l != 0 || m != 0 || r != 0 || g != 0 then 2 else 0) else
  bif keyBad1 k b l m then 2 else bif farB r 7 then 4 else bif keyBad2 k g then 2 else 0
theorem keyNo_range {k b l m r g : Int} (h : keyNo k b l m r g = 0) : 0 ≤ k ∧ k ≤ 8 ∧ 0 ≤ b ∧ b ≤ 24 ∧ 0 ≤ l ∧ l ≤ 24 ∧ 0 ≤ m ∧ m ≤ 24 ∧ 0 ≤ r ∧ r ≤ 7 ∧ 0 ≤ g ∧ g ≤ 65535 := by
  unfold keyNo keyBad1 keyBad2 farB at h
  simp only [cond_eq_ite, bne, Bool.or_eq_true, Bool.and_eq_true, Bool.not_eq_true', decide_eq_true_eq, beq_iff_eq, beq_eq_false_iff_ne] at h
  repeat' split at h
  all_goals first | (cases h; done) | omega
def packed (k b l m r g : Int) : Int := ((((k * 32 + b) * 32 + l) * 32 + m) * 8 + r) * 65536 + g
structure X_keyMay where
  k : Int
  b : Int
  l : Int
  m : Int
  r : Int
  g : Int
def a_keyMay (k : Int) (b : Int) (l : Int) (m : Int) (r : Int) (g : Int) : List SV := [.ag 6 (lsv [.v (.int .i64 k), .v (.int .i64 b), .v (.int .i64 l), .v (.int .i64 m), .v (.int .i64 r), .v (.int .i64 g)])]
def m_keyMay (k : Int) (b : Int) (l : Int) (m : Int) (r : Int) (g : Int) : List Blk := []
def r_keyMay (k : Int) (b : Int) (l : Int) (m : Int) (r : Int) (g : Int) : SV := .v (.int .i64 (keyNo k b l m r g))
def n_keyMay (k : Int) (b : Int) (l : Int) (m : Int) (r : Int) (g : Int) : List Blk := []
def p_keyMay (k : Int) (b : Int) (l : Int) (m : Int) (r : Int) (g : Int) : Prop := True
def s_keyMay : Sy.Spec where
  X := X_keyMay
  args x_ := a_keyMay x_.k x_.b x_.l x_.m x_.r x_.g
  mem x_ := m_keyMay x_.k x_.b x_.l x_.m x_.r x_.g
  pre x_ := p_keyMay x_.k x_.b x_.l x_.m x_.r x_.g
  res x_ := r_keyMay x_.k x_.b x_.l x_.m x_.r x_.g
  mem' x_ := n_keyMay x_.k x_.b x_.l x_.m x_.r x_.g
  dec args mem := match args with | [a0] => some ⟨intD (agD a0 0), intD (agD a0 1), intD (agD a0 2), intD (agD a0 3), intD (agD a0 4), intD (agD a0 5)⟩ | _ => none
def c_keyMay : Con := ⟨[], s_keyMay.g, none⟩
def V_keyMay (k : Int) (b : Int) (l : Int) (m : Int) (r : Int) (g : Int) : Prop :=
  True ∧ ((k = k ∧ (8 : Int) = (8 : Int) ∧ True) ∧ True ∧ True) ∧ (farB k (8 : Int) = true → (3 : Int) = keyNo k b l m r g ∧ True) ∧ (farB k (8 : Int) = false → ((k == (0 : Int)) = true → ((bif bif bif bif b != (0 : Int) then true else l != (0 : Int) then true else m != (0 : Int) then true else r != (0 : Int) then true else g != (0 : Int)) = true → (2 : Int) = keyNo k b l m r g ∧ True) ∧ ((bif bif bif bif b != (0 : Int) then true else l != (0 : Int) then true else m != (0 : Int) then true else r != (0 : Int) then true else g != (0 : Int)) = false → (0 : Int) = keyNo k b l m r g ∧ True)) ∧ ((k == (0 : Int)) = false → ((bif bif bif bif decide (b < (0 : Int)) then true else decide ((24 : Int) < b) then true else decide (l < (1 : Int)) then true else decide ((24 : Int) < l) then true else decide ((24 : Int) < IntKind.i64.wrap (b + l))) = true → (2 : Int) = keyNo k b l m r g ∧ True) ∧ ((bif bif bif bif decide (b < (0 : Int)) then true else decide ((24 : Int) < b) then true else decide (l < (1 : Int)) then true else decide ((24 : Int) < l) then true else decide ((24 : Int) < IntKind.i64.wrap (b + l))) = false → ((k == (1 : Int)) = true → (bif k != (1 : Int) then bif l != (1 : Int) then true else m != (0 : Int) else false) = false → (m = m ∧ l = l ∧ True) ∧ True ∧ True) ∧ ((bif bif k != (1 : Int) then bif l != (1 : Int) then true else m != (0 : Int) else false then true else bif k == (1 : Int) then farB m l else false) = true → (2 : Int) = keyNo k b l m r g ∧ True) ∧ ((bif bif k != (1
    : Int) then bif l != (1 : Int) then true else m != (0 : Int) else false then true else bif k == (1 : Int) then farB m l else false) = false → ((r = r ∧ (7 : Int) = (7 : Int) ∧ True) ∧ True ∧ True) ∧ (farB r (7 : Int) = true → (4 : Int) = keyNo k b l m r g ∧ True) ∧ (farB r (7 : Int) = false → ((g = g ∧ (65535 : Int) = (65535 : Int) ∧ True) ∧ True ∧ True) ∧ ((bif farB g (65535 : Int) then true else bif bif decide ((0 : Int) < g) then k != (7 : Int) else false then k != (8 : Int) else false) = true → (2 : Int) = keyNo k b l m r g ∧ True) ∧ ((bif farB g (65535 : Int) then true else bif bif decide ((0 : Int) < g) then k != (7 : Int) else false then k != (8 : Int) else false) = false → (0 : Int) = keyNo k b l m r g ∧ True))))))
theorem pf_keyMay (k : Int) (b : Int) (l : Int) (m : Int) (r : Int) (g : Int) (hp : p_keyMay k b l m r g) : FnC Tryd.prog glN 23 (a_keyMay k b l m r g) (m_keyMay k b l m r g) (r_keyMay k b l m r g) (n_keyMay k b l m r g) := by
  refine fn_of (sound_cons ok_far sound_nil) true Tryd.func23 [] (V := V_keyMay k b l m r g) (by kernel_rfl) ?_
  unfold V_keyMay
  have hw : (bif bif bif bif decide (b < (0 : Int)) then true else decide ((24 : Int) < b) then true else decide (l < (1 : Int)) then true else decide ((24 : Int) < l) then true else decide ((24 : Int) < IntKind.i64.wrap (b + l))) =
      (decide (b < 0) || decide (24 < b) || decide (l < 1) || decide (24 < l) || decide (24 < b + l)) := by
    by_cases h : b < 0 ∨ 24 < b ∨ l < 1 ∨ 24 < l
    · rcases h with h | h | h | h <;> simp [h]
    · have e : IntKind.i64.wrap (b + l) = b + l := by rw [IntKind.wrap_i64]; omega
      rw [e]
      cases decide (b < 0) <;> cases decide (24 < b) <;> cases decide (l < 1) <;> cases decide (24 < l) <;> rfl
  rw [hw]
  unfold keyNo keyBad1 keyBad2 farB
  repeat' (first | exact trivial | refine And.intro ?_ ?_ | intro h)
  all_goals (clear hw)
  all_goals (try simp only [Bool.cond_true_left, Bool.cond_false_right] at *)
  all_goals (simp only [cond_eq_ite, farB, bne, Bool.or_eq_true, Bool.and_eq_true, Bool.not_eq_true', Bool.not_eq_false', Bool.and_eq_false_iff, decide_eq_true_eq, beq_iff_eq, beq_eq_false_iff_ne, Bool.or_eq_false_iff, decide_eq_false_iff_not, Bool.ite_eq_true_distrib, Bool.ite_eq_false_distrib] at *)
  all_goals (repeat' split)
  all_goals (first | rfl | (exfalso; simp_all <;> omega) | omega)
theorem ok_keyMay : FnOK Tryd.prog glN 23 c_keyMay := fnOK_of (fun l w => Tryd.call23 l w) fun x_ hp => pf_keyMay x_.k x_.b x_.l x_.m x_.r x_.g hp
structure X_wordCheck where
  k : Int
  b : Int
  l : Int
  m : Int
  r : Int
  g : Int
def a_wordCheck (k : Int) (b : Int) (l : Int) (m : Int) (r : Int) (g : Int) : List SV := [.ag 6 (lsv [.v (.int .i64 k), .v (.int .i64 b), .v (.int .i64 l), .v (.int .i64 m), .v (.int .i64 r), .v (.int .i64 g)])]
def m_wordCheck (k : Int) (b : Int) (l : Int) (m : Int) (r : Int) (g : Int) : List Blk := []
def r_wordCheck (k : Int) (b : Int) (l : Int) (m : Int) (r : Int) (g : Int) : SV := .er 22 25 (keyNo k b l m r g) (-1)
def n_wordCheck (k : Int) (b : Int) (l : Int) (m : Int) (r : Int) (g : Int) : List Blk := []
def p_wordCheck (k : Int) (b : Int) (l : Int) (m : Int) (r : Int) (g : Int) : Prop := True
def s_wordCheck : Sy.Spec where
  X := X_wordCheck
  args x_ := a_wordCheck x_.k x_.b x_.l x_.m x_.r x_.g
  mem x_ := m_wordCheck x_.k x_.b x_.l x_.m x_.r x_.g
  pre x_ := p_wordCheck x_.k x_.b x_.l x_.m x_.r x_.g
  res x_ := r_wordCheck x_.k x_.b x_.l x_.m x_.r x_.g
  mem' x_ := n_wordCheck x_.k x_.b x_.l x_.m x_.r x_.g
  dec args mem := match args with | [a0] => some ⟨intD (agD a0 0), intD (agD a0 1), intD (agD a0 2), intD (agD a0 3), intD (agD a0 4), intD (agD a0 5)⟩ | _ => none
def c_wordCheck : Con := ⟨[], s_wordCheck.g, none⟩
def V_wordCheck (k : Int) (b : Int) (l : Int) (m : Int) (r : Int) (g : Int) : Prop :=
  True ∧ ((bif decide (k < (0 : Int)) then true else decide ((8 : Int) < k)) = true → ((3 : Int) ≠ (0 : Int) ∧ keyNo k b l m r g = (3 : Int) ∧ (-1 : Int) = (-1 : Int)) ∧ True) ∧ ((bif decide (k < (0 : Int)) then true else decide ((8 : Int) < k)) = false → ((k == (0 : Int)) = true → ((!(k == (0 : Int) && (b == (0 : Int) && (l == (0 : Int) && (m == (0 : Int) && (r == (0 : Int) && (g == (0 : Int) && true))))))) = true → ((2 : Int) ≠ (0 : Int) ∧ keyNo k b l m r g = (2 : Int) ∧ (-1 : Int) = (-1 : Int)) ∧ True) ∧ ((!(k == (0 : Int) && (b == (0 : Int) && (l == (0 : Int) && (m == (0 : Int) && (r == (0 : Int) && (g == (0 : Int) && true))))))) = false → (keyNo k b l m r g = (0 : Int) ∧ (-1 : Int) = (-1 : Int)) ∧ True)) ∧ ((k == (0 : Int)) = false → ((bif bif bif decide (b < (0 : Int)) then true else decide ((24 : Int) ≤ b) then true else decide (l < (1 : Int)) then true else decide (IntKind.i64.wrap ((24 : Int) - b) < l)) = true → ((2 : Int) ≠ (0 : Int) ∧ keyNo k b l m r g = (2 : Int) ∧ (-1 : Int) = (-1 : Int)) ∧ True) ∧ ((bif bif bif decide (b < (0 : Int)) then true else decide ((24 : Int) ≤ b) then true else decide (l < (1 : Int)) then true else decide (IntKind.i64.wrap ((24 : Int) - b) < l)) = false → ((bif bif bif bif k != (1 : Int) then l != (1 : Int) else false then true else decide (m < (0 : Int)) then true else decide (l < m) then true else bif k != (1 : Int) then m != (0 : Int) else false) = true → ((2 : Int) ≠ (0 : Int) ∧ keyNo k b l m r g = (2 : Int) ∧ (-1 : Int) = (-1 : Int))
    ∧ True) ∧ ((bif bif bif bif k != (1 : Int) then l != (1 : Int) else false then true else decide (m < (0 : Int)) then true else decide (l < m) then true else bif k != (1 : Int) then m != (0 : Int) else false) = false → ((bif decide (r < (0 : Int)) then true else decide ((7 : Int) < r)) = true → ((4 : Int) ≠ (0 : Int) ∧ keyNo k b l m r g = (4 : Int) ∧ (-1 : Int) = (-1 : Int)) ∧ True) ∧ ((bif decide (r < (0 : Int)) then true else decide ((7 : Int) < r)) = false → ((bif bif decide (g < (0 : Int)) then true else decide ((65535 : Int) < g) then true else bif bif g != (0 : Int) then k != (7 : Int) else false then k != (8 : Int) else false) = true → ((2 : Int) ≠ (0 : Int) ∧ keyNo k b l m r g = (2 : Int) ∧ (-1 : Int) = (-1 : Int)) ∧ True) ∧ ((bif bif decide (g < (0 : Int)) then true else decide ((65535 : Int) < g) then true else bif bif g != (0 : Int) then k != (7 : Int) else false then k != (8 : Int) else false) = false → (keyNo k b l m r g = (0 : Int) ∧ (-1 : Int) = (-1 : Int)) ∧ True))))))
theorem pf_wordCheck (k : Int) (b : Int) (l : Int) (m : Int) (r : Int) (g : Int) (hp : p_wordCheck k b l m r g) : FnC Tryd.prog glN 26 (a_wordCheck k b l m r g) (m_wordCheck k b l m r g) (r_wordCheck k b l m r g) (n_wordCheck k b l m r g) := by
  refine fn_of sound_nil true Tryd.func26 [] (V := V_wordCheck k b l m r g) (by kernel_rfl) ?_
  unfold V_wordCheck
  have hw : (bif bif bif decide (b < (0 : Int)) then true else decide ((24 : Int) ≤ b) then true else decide (l < (1 : Int)) then true else decide (IntKind.i64.wrap (24 - b) < l)) =
      (decide (b < 0) || decide (24 < b) || decide (l < 1) || decide (24 < l) || decide (24 < b + l)) := by
    by_cases h : b < 0 ∨ 24 ≤ b ∨ l < 1
    · have : b < 0 ∨ 24 < b ∨ l < 1 ∨ 24 < b + l := by omega
      have h2 : (bif bif bif decide (b < (0 : Int)) then true else decide ((24 : Int) ≤ b) then true else decide (l < (1 : Int)) then true else decide (IntKind.i64.wrap (24 - b) < l)) = true := by
        rcases h with h | h | h <;> simp [h]
      rw [h2]
      rcases this with h | h | h | h <;> simp [h]
    · have e : IntKind.i64.wrap (24 - b) = 24 - b := by rw [IntKind.wrap_i64]; omega
      rw [e]
      have h1 : ¬ b < 0 := by omega
      have h2 : ¬ 24 ≤ b := by omega
      have h3 : ¬ l < 1 := by omega
      have h4 : ¬ 24 < b := by omega
      simp [h1, h2, h3, h4]
      by_cases h5 : 24 - b < l <;> simp [h5] <;> omega
  rw [hw]
  unfold keyNo keyBad1 keyBad2 farB
  repeat' (first | exact trivial | refine And.intro ?_ ?_ | intro h)
  all_goals (clear hw)
  all_goals (try simp only [Bool.cond_true_left, Bool.cond_false_right] at *)
  all_goals (simp only [cond_eq_ite, farB, bne, Bool.or_eq_true, Bool.and_eq_true, Bool.not_eq_true', Bool.not_eq_false', Bool.and_eq_false_iff, decide_eq_true_eq, beq_iff_eq, beq_eq_false_iff_ne, Bool.or_eq_false_iff, decide_eq_false_iff_not, Bool.ite_eq_true_distrib, Bool.ite_eq_false_distrib] at *)
  all_goals (repeat' split)
  all_goals (first | rfl | (exfalso; simp_all <;> omega) | omega)
theorem ok_wordCheck : FnOK Tryd.prog glN 26 c_wordCheck := fnOK_of (fun l w => Tryd.call26 l w) fun x_ hp => pf_wordCheck x_.k x_.b x_.l x_.m x_.r x_.g hp
structure X_packed where
  k : Int
  b : Int
  l : Int
  m : Int
  r : Int
  g : Int
def a_packed (k : Int) (b : Int) (l : Int) (m : Int) (r : Int) (g : Int) : List SV := [.ag 6 (lsv [.v (.int .i64 k), .v (.int .i64 b), .v (.int .i64 l), .v (.int .i64 m), .v (.int .i64 r), .v (.int .i64 g)])]
def m_packed (k : Int) (b : Int) (l : Int) (m : Int) (r : Int) (g : Int) : List Blk := []
def r_packed (k : Int) (b : Int) (l : Int) (m : Int) (r : Int) (g : Int) : SV := .v (.int .u64 (packed k b l m r g))
def n_packed (k : Int) (b : Int) (l : Int) (m : Int) (r : Int) (g : Int) : List Blk := []
def p_packed (k : Int) (b : Int) (l : Int) (m : Int) (r : Int) (g : Int) : Prop := keyNo k b l m r g = 0
def s_packed : Sy.Spec where
  X := X_packed
  args x_ := a_packed x_.k x_.b x_.l x_.m x_.r x_.g
  mem x_ := m_packed x_.k x_.b x_.l x_.m x_.r x_.g
  pre x_ := p_packed x_.k x_.b x_.l x_.m x_.r x_.g
  res x_ := r_packed x_.k x_.b x_.l x_.m x_.r x_.g
  mem' x_ := n_packed x_.k x_.b x_.l x_.m x_.r x_.g
  dec args mem := match args with | [a0] => some ⟨intD (agD a0 0), intD (agD a0 1), intD (agD a0 2), intD (agD a0 3), intD (agD a0 4), intD (agD a0 5)⟩ | _ => none
def c_packed : Con := ⟨[], s_packed.g, none⟩
def V_packed (k : Int) (b : Int) (l : Int) (m : Int) (r : Int) (g : Int) : Prop :=
  True ∧ IntKind.u64.wrap (IntKind.i64.wrap (IntKind.i64.wrap (IntKind.i64.wrap (IntKind.i64.wrap (IntKind.i64.wrap (IntKind.i64.wrap (IntKind.i64.wrap (IntKind.i64.wrap (IntKind.i64.wrap (IntKind.i64.wrap (k * (32 : Int)) + b) * (32 : Int)) + l) * (32 : Int)) + m) * (8 : Int)) + r) * (65536 : Int)) + g)) = packed k b l m r g ∧ True
theorem pf_packed (k : Int) (b : Int) (l : Int) (m : Int) (r : Int) (g : Int) (hp : p_packed k b l m r g) : FnC Tryd.prog glN 24 (a_packed k b l m r g) (m_packed k b l m r g) (r_packed k b l m r g) (n_packed k b l m r g) := by
  refine fn_of sound_nil true Tryd.func24 [] (V := V_packed k b l m r g) (by kernel_rfl) ?_
  unfold V_packed
  unfold p_packed at hp
  have hr := keyNo_range hp
  refine ⟨trivial, ?_, trivial⟩
  simp only [IntKind.wrap_i64, IntKind.wrap_u64, packed]
  omega
theorem ok_packed : FnOK Tryd.prog glN 24 c_packed := fnOK_of (fun l w => Tryd.call24 l w) fun x_ hp => pf_packed x_.k x_.b x_.l x_.m x_.r x_.g hp
end Go.Proofs.YtfmaeiilbhpepaaDoor
set_option linter.unusedVariables false
set_option linter.unusedSimpArgs false
set_option maxRecDepth 100000
namespace Go.Proofs.YtfmaeiilbhpepaaDoor
open Go.RowKit Go.Sy
/-- The fields of a key, from the lowest bits on. -/
def fldL : List SV := [.v (.int .i64 16), .fn 117 0 (fun _ => .junk), .v (.int .i64 3), .fn 118 0 (fun _ => .junk), .v (.int .i64 5), .fn 119 0 (fun _ => .junk), .v (.int .i64 5), .fn 120 0 (fun _ => .junk), .v (.int .i64 5), .fn 121 0 (fun _ => .junk), .v (.int .i64 4), .fn 122 0 (fun _ => .junk)]
def c_fld1 : Con := ⟨[], fun _ _ => none, some 5⟩
theorem ok_fld1 : FnOK Tryd.prog glN 117 c_fld1 := projOK_of (fun l w => Tryd.call117 l w) fun ad => fn_of sound_nil false Tryd.func117 [] (V := (Value.pointer (some (ad.add 5)) = Value.pointer (some (ad.add 5))) ∧ True) (by kernel_rfl) ⟨rfl, trivial⟩
def c_fld2 : Con := ⟨[], fun _ _ => none, some 4⟩
theorem ok_fld2 : FnOK Tryd.prog glN 118 c_fld2 := projOK_of (fun l w => Tryd.call118 l w) fun ad => fn_of sound_nil false Tryd.func118 [] (V := (Value.pointer (some (ad.add 4)) = Value.pointer (some (ad.add 4))) ∧ True) (by kernel_rfl) ⟨rfl, trivial⟩
def c_fld3 : Con := ⟨[], fun _ _ => none, some 3⟩
theorem ok_fld3 : FnOK Tryd.prog glN 119 c_fld3 := projOK_of (fun l w => Tryd.call119 l w) fun ad => fn_of sound_nil false Tryd.func119 [] (V := (Value.pointer (some (ad.add 3)) = Value.pointer (some (ad.add 3))) ∧ True) (by kernel_rfl) ⟨rfl, trivial⟩
def c_fld4 : Con := ⟨[], fun _ _ => none, some 2⟩
theorem ok_fld4 : FnOK Tryd.prog glN 120 c_fld4 := projOK_of (fun l w => Tryd.call120 l w) fun ad => fn_of sound_nil false Tryd.func120 [] (V := (Value.pointer (some (ad.add 2)) = Value.pointer (some (ad.add 2))) ∧ True) (by kernel_rfl) ⟨rfl, trivial⟩
def c_fld5 : Con := ⟨[], fun _ _ => none, some 1⟩
theorem ok_fld5 : FnOK Tryd.prog glN 121 c_fld5 := projOK_of (fun l w => Tryd.call121 l w) fun ad => fn_of sound_nil false Tryd.func121 [] (V := (Value.pointer (some (ad.add 1)) = Value.pointer (some (ad.add 1))) ∧ True) (by kernel_rfl) ⟨rfl, trivial⟩
def c_fld6 : Con := ⟨[], fun _ _ => none, some 0⟩
theorem ok_fld6 : FnOK Tryd.prog glN 122 c_fld6 := projOK_of (fun l w => Tryd.call122 l w) fun ad => fn_of sound_nil false Tryd.func122 [] (V := (Value.pointer (some (ad.add 0)) = Value.pointer (some (ad.add 0))) ∧ True) (by kernel_rfl) ⟨rfl, trivial⟩
structure X_fields where
  unit_ : Unit
def a_fields : List SV := []
def m_fields : List Blk := []
def r_fields : SV := .slc 0 0 none 0 6
def n_fields : List Blk := [.row 2 6 (rowOf 2 6 fldL)]
def p_fields : Prop := True
def s_fields : Sy.Spec where
  X := X_fields
  args x_ := a_fields
  mem x_ := m_fields
  pre x_ := p_fields
  res x_ := r_fields
  mem' x_ := n_fields
  dec args mem := match args with | [] => some ⟨()⟩ | _ => none
def c_fields : Con := ⟨[], s_fields.g, none⟩
def V_fields : Prop :=
  True ∧ (0 = 0 ∧ 6 = 6) ∧ (6 = 6 ∧ ∀ i, i < 6 → allJ 2 fun j => agC (mref (tellφ (ent [(100, ⟨0, 0, none, .row 2 6 (rowOf 2 6 fldL)⟩)]) [100]) false (rowOf 2 6 fldL i j)) (rowOf 2 6 fldL i j)) ∧ True
theorem pf_fields (hp : p_fields) : FnC Tryd.prog glN 71 (a_fields) (m_fields) (r_fields) (n_fields) := by
  refine fn_of sound_nil false Tryd.func71 [] (V := V_fields) (by kernel_rfl) ?_
  unfold V_fields
  refine ⟨trivial, ⟨rfl, rfl⟩, ⟨rfl, fun i hi => ?_⟩, trivial⟩
  match i, hi with
  | 0, _ | 1, _ | 2, _ | 3, _ | 4, _ | 5, _ => exact ⟨⟨trivial, rfl⟩, trivial⟩
theorem ok_fields : FnOK Tryd.prog glN 71 c_fields := fnOK_of (fun l w => Tryd.call71 l w) fun x_ hp => pf_fields hp
end Go.Proofs.YtfmaeiilbhpepaaDoor
set_option linter.unusedVariables false
set_option linter.unusedSimpArgs false
set_option maxRecDepth 100000
namespace Go.Proofs.YtfmaeiilbhpepaaDoor
open Go.RowKit Go.Sy
def pkW (k b l m r g : Int) : Int := bif keyNo k b l m r g == 0 then packed k b l m r g else 0
theorem ofInt_toNatU {x : Int} (h0 : 0 ≤ x) (h1 : x < 18446744073709551616) : (BitVec.ofInt 64 x).toNat = x.toNat := by
  rw [BitVec.toNat_ofInt]
  congr 1
  exact Int.emod_eq_of_lt h0 (by simpa using h1)
theorem wrapU_nat {n : Nat} (h : n < 18446744073709551616) : IntKind.u64.wrap (n : Int) = n := by
  rw [IntKind.wrap_u64]; omega
/-- 'y | x * 2^n' where y is below 2^n. -/
theorem joinU (n : Nat) {x y z : Int} (hz : z = x * 2 ^ n) (hx : 0 ≤ x) (hy : 0 ≤ y) (hy1 : y < 2 ^ n) (hs : x * 2 ^ n + y < 18446744073709551616) : bitsI .or .u64 y z = z + y := by
  have hc : ((2 : Int) ^ n) = ((2 ^ n : Nat) : Int) := by simp
  have hz0 : 0 ≤ z := by rw [hz]; exact Int.mul_nonneg hx (by rw [hc]; omega)
  show IntKind.u64.wrap ((BitVec.ofInt 64 y ||| BitVec.ofInt 64 z).toNat : Int) = _
  rw [BitVec.toNat_or, ofInt_toNatU hz0 (by omega), ofInt_toNatU hy (by omega), Nat.or_comm]
  have e : z.toNat = 2 ^ n * x.toNat := by
    apply Int.ofNat.inj
    show (z.toNat : Int) = ((2 ^ n * x.toNat : Nat) : Int)
    rw [Int.toNat_of_nonneg hz0, Int.natCast_mul, Int.toNat_of_nonneg hx, hz, hc, Int.mul_comm]
  rw [wrapU_nat (Nat.or_lt_two_pow (n := 64) (by omega) (by omega)), e, ← Nat.two_pow_add_eq_or_of_lt (by rw [hc] at hy1; omega), ← e]
  omega
/-- 'x & (2^n - 1)'. -/
theorem maskU (n : Nat) (hn : n ≤ 62) {x m : Int} (hm : m = 2 ^ n - 1) : bitsI .and .u64 x m = x % 2 ^ n := by
  show IntKind.u64.wrap ((BitVec.ofInt 64 x &&& BitVec.ofInt 64 m).toNat : Int) = _
  have hp : (2 : Nat) ^ n ≤ 2 ^ 62 := Nat.pow_le_pow_right (by omega) hn
  have hp1 : (1 : Nat) ≤ 2 ^ n := Nat.one_le_two_pow
  have hc : ((2 : Int) ^ n) = ((2 ^ n : Nat) : Int) := by simp
  have hm0 : 0 ≤ m := by rw [hm, hc]; omega
  have hm1 : m < 18446744073709551616 := by rw [hm, hc]; omega
  rw [BitVec.toNat_and, ofInt_toNatU hm0 hm1]
  have e : m.toNat = 2 ^ n - 1 := by rw [hm, hc]; omega
  rw [e, Nat.and_two_pow_sub_one_eq_mod, BitVec.toNat_ofInt]
  have hd : ((x % ((2 ^ 64 : Nat) : Int)).toNat % 2 ^ n : Nat) = (x % 2 ^ n).toNat := by
    apply Int.ofNat.inj
    show (((x % ((2 ^ 64 : Nat) : Int)).toNat % 2 ^ n : Nat) : Int) = ((x % 2 ^ n).toNat : Int)
    have h64 : (0 : Int) ≤ x % ((2 ^ 64 : Nat) : Int) := Int.emod_nonneg _ (by decide)
    have hn0 : (0 : Int) ≤ x % 2 ^ n := Int.emod_nonneg _ (by rw [hc]; omega)
    rw [Int.natCast_emod, Int.toNat_of_nonneg h64, Int.toNat_of_nonneg hn0, hc]
    refine Int.emod_emod_of_dvd x ?_
    exact Int.natCast_dvd_natCast.2 (Nat.pow_dvd_pow 2 (by omega))
  rw [hd]
  have hn0 : (0 : Int) ≤ x % 2 ^ n := Int.emod_nonneg _ (by rw [hc]; omega)
  have hn1 : x % 2 ^ n < 2 ^ n := Int.emod_lt_of_pos _ (by rw [hc]; omega)
  rw [Int.toNat_of_nonneg hn0, IntKind.wrap_u64]
  rw [hc] at hn0 hn1 ⊢
  omega
theorem shU {x s : Int} (n : Nat) (hs : min s.toNat IntKind.u64.bits = n) (h0 : 0 ≤ x) (h : x * 2 ^ n < 18446744073709551616) : IntKind.u64.wrap (x * 2 ^ min s.toNat IntKind.u64.bits) = x * 2 ^ n := by
  have hc : ((2 : Int) ^ n) = ((2 ^ n : Nat) : Int) := by simp
  have : 0 ≤ x * 2 ^ n := Int.mul_nonneg h0 (by rw [hc]; exact Int.natCast_nonneg _)
  rw [hs, IntKind.wrap_u64]; omega
structure X_pack where
  k : Int
  b : Int
  l : Int
  m : Int
  r : Int
  g : Int
def a_pack (k : Int) (b : Int) (l : Int) (m : Int) (r : Int) (g : Int) : List SV := [.ag 6 (lsv [.v (.int .i64 k), .v (.int .i64 b), .v (.int .i64 l), .v (.int .i64 m), .v (.int .i64 r), .v (.int .i64 g)])]
def m_pack (k : Int) (b : Int) (l : Int) (m : Int) (r : Int) (g : Int) : List Blk := []
def r_pack (k : Int) (b : Int) (l : Int) (m : Int) (r : Int) (g : Int) : SV := .tp 2 (lsv [.v (.int .u64 (pkW k b l m r g)), .er 22 25 (keyNo k b l m r g) (-1)])
def n_pack (k : Int) (b : Int) (l : Int) (m : Int) (r : Int) (g : Int) : List Blk := []
def p_pack (k : Int) (b : Int) (l : Int) (m : Int) (r : Int) (g : Int) : Prop := True
def s_pack : Sy.Spec where
  X := X_pack
  args x_ := a_pack x_.k x_.b x_.l x_.m x_.r x_.g
  mem x_ := m_pack x_.k x_.b x_.l x_.m x_.r x_.g
  pre x_ := p_pack x_.k x_.b x_.l x_.m x_.r x_.g
  res x_ := r_pack x_.k x_.b x_.l x_.m x_.r x_.g
  mem' x_ := n_pack x_.k x_.b x_.l x_.m x_.r x_.g
  dec args mem := match args with | [a0] => some ⟨intD (agD a0 0), intD (agD a0 1), intD (agD a0 2), intD (agD a0 3), intD (agD a0 4), intD (agD a0 5)⟩ | _ => none
def c_pack : Con := ⟨[], s_pack.g, none⟩
def V_pack (k : Int) (b : Int) (l : Int) (m : Int) (r : Int) (g : Int) : Prop :=
  True ∧ ((((((((True ∧ k = k) ∧ b = b) ∧ l = l) ∧ m = m) ∧ r = r) ∧ g = g) ∧ True) ∧ True ∧ True) ∧ ((keyNo k b l m r g != (0 : Int)) = true → ((True ∧ (0 : Int) = pkW k b l m r g) ∧ keyNo k b l m r g = keyNo k b l m r g ∧ (-1 : Int) = (-1 : Int)) ∧ True) ∧ ((keyNo k b l m r g != (0 : Int)) = false → (True ∧ True ∧ True) ∧ (↑(6 : Nat) ≤ (9223372036854775807 : Int) → ((0 : Int) ≤ (0 : Int) ∧ (0 : Int) < ↑(6 : Nat)) ∧ True ∧ (True ∧ True) ∧ True ∧ IntKind.u64.wrap g = g ∧ (0 : Int) ≤ (0 : Int) ∧ IntKind.i64.wrap ((0 : Int) + (16 : Int)) = (0 : Int) + (16 : Int) ∧ IntKind.i64.wrap ((0 : Int) + (1 : Int)) = (0 : Int) + (1 : Int) ∧ ((0 : Int) ≤ (0 : Int) + (1 : Int) ∧ (0 : Int) + (1 : Int) < ↑(6 : Nat)) ∧ True ∧ (True ∧ True) ∧ True ∧ IntKind.u64.wrap r = r ∧ (0 : Int) ≤ (0 : Int) + (16 : Int) ∧ IntKind.i64.wrap ((0 : Int) + (16 : Int) + (3 : Int)) = (0 : Int) + (16 : Int) + (3 : Int) ∧ IntKind.i64.wrap ((0 : Int) + (1 : Int) + (1 : Int)) = (0 : Int) + (1 : Int) + (1 : Int) ∧ ((0 : Int) ≤ (0 : Int) + (1 : Int) + (1 : Int) ∧ (0 : Int) + (1 : Int) + (1 : Int) < ↑(6 : Nat)) ∧ True ∧ (True ∧ True) ∧ True ∧ IntKind.u64.wrap m = m ∧ (0 : Int) ≤ (0 : Int) + (16 : Int) + (3 : Int) ∧ IntKind.i64.wrap ((0 : Int) + (16 : Int) + (3 : Int) + (5 : Int)) = (0 : Int) + (16 : Int) + (3 : Int) + (5 : Int) ∧ IntKind.i64.wrap ((0 : Int) + (1 : Int) + (1 : Int) + (1 : Int)) = (0 : Int) + (1 : Int) + (1 : Int) + (1 : Int) ∧ ((0 : Int) ≤ (0 : Int) + (1 : Int) + (1 : Int) + (1 : Int) ∧ (0 : Int) + (1 :
    Int) + (1 : Int) + (1 : Int) < ↑(6 : Nat)) ∧ True ∧ (True ∧ True) ∧ True ∧ IntKind.u64.wrap l = l ∧ (0 : Int) ≤ (0 : Int) + (16 : Int) + (3 : Int) + (5 : Int) ∧ IntKind.i64.wrap ((0 : Int) + (16 : Int) + (3 : Int) + (5 : Int) + (5 : Int)) = (0 : Int) + (16 : Int) + (3 : Int) + (5 : Int) + (5 : Int) ∧ IntKind.i64.wrap ((0 : Int) + (1 : Int) + (1 : Int) + (1 : Int) + (1 : Int)) = (0 : Int) + (1 : Int) + (1 : Int) + (1 : Int) + (1 : Int) ∧ ((0 : Int) ≤ (0 : Int) + (1 : Int) + (1 : Int) + (1 : Int) + (1 : Int) ∧ (0 : Int) + (1 : Int) + (1 : Int) + (1 : Int) + (1 : Int) < ↑(6 : Nat)) ∧ True ∧ (True ∧ True) ∧ True ∧ IntKind.u64.wrap b = b ∧ (0 : Int) ≤ (0 : Int) + (16 : Int) + (3 : Int) + (5 : Int) + (5 : Int) ∧ IntKind.i64.wrap ((0 : Int) + (16 : Int) + (3 : Int) + (5 : Int) + (5 : Int) + (5 : Int)) = (0 : Int) + (16 : Int) + (3 : Int) + (5 : Int) + (5 : Int) + (5 : Int) ∧ IntKind.i64.wrap ((0 : Int) + (1 : Int) + (1 : Int) + (1 : Int) + (1 : Int) + (1 : Int)) = (0 : Int) + (1 : Int) + (1 : Int) + (1 : Int) + (1 : Int) + (1 : Int) ∧ ((0 : Int) ≤ (0 : Int) + (1 : Int) + (1 : Int) + (1 : Int) + (1 : Int) + (1 : Int) ∧ (0 : Int) + (1 : Int) + (1 : Int) + (1 : Int) + (1 : Int) + (1 : Int) < ↑(6 : Nat)) ∧ True ∧ (True ∧ True) ∧ True ∧ IntKind.u64.wrap k = k ∧ (0 : Int) ≤ (0 : Int) + (16 : Int) + (3 : Int) + (5 : Int) + (5 : Int) + (5 : Int) ∧ IntKind.i64.wrap ((0 : Int) + (16 : Int) + (3 : Int) + (5 : Int) + (5 : Int) + (5 : Int) + (4 : Int)) = (0 : Int) + (16 : Int) + (3 : Int) +
    (5 : Int) + (5 : Int) + (5 : Int) + (4 : Int) ∧ IntKind.i64.wrap ((0 : Int) + (1 : Int) + (1 : Int) + (1 : Int) + (1 : Int) + (1 : Int) + (1 : Int)) = (0 : Int) + (1 : Int) + (1 : Int) + (1 : Int) + (1 : Int) + (1 : Int) + (1 : Int) ∧ ((True ∧ bitsI BinOp.or IntKind.u64 (bitsI BinOp.or IntKind.u64 (bitsI BinOp.or IntKind.u64 (bitsI BinOp.or IntKind.u64 (bitsI BinOp.or IntKind.u64 (bitsI BinOp.or IntKind.u64 (0 : Int) (IntKind.u64.wrap (g * (2 : Int) ^ min (Int.toNat (0 : Int)) IntKind.u64.bits))) (IntKind.u64.wrap (r * (2 : Int) ^ min ((0 : Int) + (16 : Int)).toNat IntKind.u64.bits))) (IntKind.u64.wrap (m * (2 : Int) ^ min ((0 : Int) + (16 : Int) + (3 : Int)).toNat IntKind.u64.bits))) (IntKind.u64.wrap (l * (2 : Int) ^ min ((0 : Int) + (16 : Int) + (3 : Int) + (5 : Int)).toNat IntKind.u64.bits))) (IntKind.u64.wrap (b * (2 : Int) ^ min ((0 : Int) + (16 : Int) + (3 : Int) + (5 : Int) + (5 : Int)).toNat IntKind.u64.bits))) (IntKind.u64.wrap (k * (2 : Int) ^ min ((0 : Int) + (16 : Int) + (3 : Int) + (5 : Int) + (5 : Int) + (5 : Int)).toNat IntKind.u64.bits)) = pkW k b l m r g) ∧ keyNo k b l m r g = (0 : Int) ∧ (-1 : Int) = (-1 : Int)) ∧ True))
theorem pf_pack (k : Int) (b : Int) (l : Int) (m : Int) (r : Int) (g : Int) (hp : p_pack k b l m r g) : FnC Tryd.prog glN 25 (a_pack k b l m r g) (m_pack k b l m r g) (r_pack k b l m r g) (n_pack k b l m r g) := by
  refine fn_of (sound_cons ok_wordCheck (sound_cons ok_fields (sound_cons ok_fld1 (sound_cons ok_fld2 (sound_cons ok_fld3 (sound_cons ok_fld4 (sound_cons ok_fld5 (sound_cons ok_fld6 sound_nil)))))))) false Tryd.func25 [.dec, .unroll 7] (V := V_pack k b l m r g) (by kernel_rfl) ?_
  unfold V_pack
  refine ⟨trivial, by simp, fun h => ?_, fun h => ?_⟩
  · have hb : (keyNo k b l m r g == 0) = false := by simpa using h
    simp [pkW, hb]
  · have h0 : keyNo k b l m r g = 0 := by simpa using h
    have hr := keyNo_range h0
    have e1 := shU (x := g) (s := 0) 0 rfl (by omega) (by omega)
    have e2 := shU (x := r) (s := 0 + 16) 16 rfl (by omega) (by omega)
    have e3 := shU (x := m) (s := 0 + 16 + 3) 19 rfl (by omega) (by omega)
    have e4 := shU (x := l) (s := 0 + 16 + 3 + 5) 24 rfl (by omega) (by omega)
    have e5 := shU (x := b) (s := 0 + 16 + 3 + 5 + 5) 29 rfl (by omega) (by omega)
    have e6 := shU (x := k) (s := 0 + 16 + 3 + 5 + 5 + 5) 34 rfl (by omega) (by omega)
    rw [e1, e2, e3, e4, e5, e6]
    rw [joinU 0 (x := g) (y := 0) rfl (by omega) (by omega) (by omega) (by omega)]
    rw [joinU 16 (x := r) rfl (by omega) (by omega) (by omega) (by omega)]
    rw [joinU 19 (x := m) rfl (by omega) (by omega) (by omega) (by omega)]
    rw [joinU 24 (x := l) rfl (by omega) (by omega) (by omega) (by omega)]
    rw [joinU 29 (x := b) rfl (by omega) (by omega) (by omega) (by omega)]
    rw [joinU 34 (x := k) rfl (by omega) (by omega) (by omega) (by omega)]
    have hp : pkW k b l m r g = packed k b l m r g := by simp [pkW, h0]
    have hw : ∀ x, 0 ≤ x → x ≤ 65535 → IntKind.u64.wrap x = x := fun x _ _ => by rw [IntKind.wrap_u64]; omega
    rw [hp, h0]
    unfold packed
    repeat' (first | exact trivial | rfl | refine And.intro ?_ ?_ | intro h)
    all_goals first | (exfalso; revert h; decide) | (exact absurd ‹_› (by decide)) | (refine hw _ ?_ ?_ <;> omega) | (simp only [IntKind.wrap_i64]; omega) | omega
theorem ok_pack : FnOK Tryd.prog glN 25 c_pack := fnOK_of (fun l w => Tryd.call25 l w) fun x_ hp => pf_pack x_.k x_.b x_.l x_.m x_.r x_.g hp
end Go.Proofs.YtfmaeiilbhpepaaDoor
set_option linter.unusedVariables false
set_option linter.unusedSimpArgs false
set_option maxRecDepth 100000
namespace Go.Proofs.YtfmaeiilbhpepaaDoor
open Go.RowKit Go.Sy
def uOk (n : Int) : Bool := decide (n < 274877906944) && keyNo (n / 17179869184) (n / 536870912 % 32) (n / 16777216 % 32) (n / 524288 % 32) (n / 65536 % 8) (n % 65536) == 0
def uKey (n : Int) : List SV := [.v (.int .i64 (bif uOk n then n / 17179869184 else 0)), .v (.int .i64 (bif uOk n then n / 536870912 % 32 else 0)), .v (.int .i64 (bif uOk n then n / 16777216 % 32 else 0)), .v (.int .i64 (bif uOk n then n / 524288 % 32 else 0)), .v (.int .i64 (bif uOk n then n / 65536 % 8 else 0)), .v (.int .i64 (bif uOk n then n % 65536 else 0))]
structure X_unpacked where
  n : Int
def a_unpacked (n : Int) : List SV := [.v (.int .u64 n)]
def m_unpacked (n : Int) : List Blk := []
def r_unpacked (n : Int) : SV := .tp 2 (lsv [.ag 6 (lsv (uKey n)), .v (.bool (uOk n))])
def n_unpacked (n : Int) : List Blk := []
def p_unpacked (n : Int) : Prop := 0 ≤ n ∧ n < 18446744073709551616
def s_unpacked : Sy.Spec where
  X := X_unpacked
  args x_ := a_unpacked x_.n
  mem x_ := m_unpacked x_.n
  pre x_ := p_unpacked x_.n
  res x_ := r_unpacked x_.n
  mem' x_ := n_unpacked x_.n
  dec args mem := match args with | [a0] => some ⟨intD (a0)⟩ | _ => none
def c_unpacked : Con := ⟨[], s_unpacked.g, none⟩
def V_unpacked (n : Int) : Prop :=
  True ∧ (decide ((274877906944 : Int) ≤ n) = true → (True ∧ True ∧ True ∧ True ∧ True ∧ True) ∧ ((True ∧ (((((True ∧ (0 : Int) = bif uOk n then n / (17179869184 : Int) else (0 : Int)) ∧ (0 : Int) = bif uOk n then n / (536870912 : Int) % (32 : Int) else (0 : Int)) ∧ (0 : Int) = bif uOk n then n / (16777216 : Int) % (32 : Int) else (0 : Int)) ∧ (0 : Int) = bif uOk n then n / (524288 : Int) % (32 : Int) else (0 : Int)) ∧ (0 : Int) = bif uOk n then n / (65536 : Int) % (8 : Int) else (0 : Int)) ∧ (0 : Int) = bif uOk n then n % (65536 : Int) else (0 : Int)) ∧ false = uOk n) ∧ True) ∧ (decide ((274877906944 : Int) ≤ n) = false → IntKind.i64.wrap n = n ∧ ((0 : Int) ≤ n ∧ (0 : Int) < (65536 : Int)) ∧ True ∧ (True ∧ True ∧ True ∧ True ∧ True ∧ True) ∧ ((0 : Int) ≤ n ∧ (0 : Int) < (65536 : Int) ∧ IntKind.i64.wrap (n / (65536 : Int)) = n / (65536 : Int)) ∧ ((0 : Int) ≤ n / (65536 : Int) ∧ (0 : Int) < (8 : Int)) ∧ True ∧ ((0 : Int) ≤ n / (65536 : Int) ∧ (0 : Int) < (8 : Int) ∧ IntKind.i64.wrap (n / (65536 : Int) / (8 : Int)) = n / (65536 : Int) / (8 : Int)) ∧ ((0 : Int) ≤ n / (65536 : Int) / (8 : Int) ∧ (0 : Int) < (32 : Int)) ∧ True ∧ ((0 : Int) ≤ n / (65536 : Int) / (8 : Int) ∧ (0 : Int) < (32 : Int) ∧ IntKind.i64.wrap (n / (65536 : Int) / (8 : Int) / (32 : Int)) = n / (65536 : Int) / (8 : Int) / (32 : Int)) ∧ ((0 : Int) ≤ n / (65536 : Int) / (8 : Int) / (32 : Int) ∧ (0 : Int) < (32 : Int)) ∧ True ∧ ((0 : Int) ≤ n / (65536 : Int) / (8 : Int) / (32 : Int) ∧ (0 : Int) < (32 : Int) ∧
    IntKind.i64.wrap (n / (65536 : Int) / (8 : Int) / (32 : Int) / (32 : Int)) = n / (65536 : Int) / (8 : Int) / (32 : Int) / (32 : Int)) ∧ ((0 : Int) ≤ n / (65536 : Int) / (8 : Int) / (32 : Int) / (32 : Int) ∧ (0 : Int) < (32 : Int)) ∧ True ∧ ((0 : Int) ≤ n / (65536 : Int) / (8 : Int) / (32 : Int) / (32 : Int) ∧ (0 : Int) < (32 : Int) ∧ IntKind.i64.wrap (n / (65536 : Int) / (8 : Int) / (32 : Int) / (32 : Int) / (32 : Int)) = n / (65536 : Int) / (8 : Int) / (32 : Int) / (32 : Int) / (32 : Int)) ∧ True ∧ ((((((((True ∧ n / (65536 : Int) / (8 : Int) / (32 : Int) / (32 : Int) / (32 : Int) = n / (65536 : Int) / (8 : Int) / (32 : Int) / (32 : Int) / (32 : Int)) ∧ n / (65536 : Int) / (8 : Int) / (32 : Int) / (32 : Int) % (32 : Int) = n / (65536 : Int) / (8 : Int) / (32 : Int) / (32 : Int) % (32 : Int)) ∧ n / (65536 : Int) / (8 : Int) / (32 : Int) % (32 : Int) = n / (65536 : Int) / (8 : Int) / (32 : Int) % (32 : Int)) ∧ n / (65536 : Int) / (8 : Int) % (32 : Int) = n / (65536 : Int) / (8 : Int) % (32 : Int)) ∧ n / (65536 : Int) % (8 : Int) = n / (65536 : Int) % (8 : Int)) ∧ n % (65536 : Int) = n % (65536 : Int)) ∧ True) ∧ True ∧ True) ∧ ((keyNo (n / (65536 : Int) / (8 : Int) / (32 : Int) / (32 : Int) / (32 : Int)) (n / (65536 : Int) / (8 : Int) / (32 : Int) / (32 : Int) % (32 : Int)) (n / (65536 : Int) / (8 : Int) / (32 : Int) % (32 : Int)) (n / (65536 : Int) / (8 : Int) % (32 : Int)) (n / (65536 : Int) % (8 : Int)) (n % (65536 : Int)) != (0 : Int)) = true → (True ∧ True ∧ True ∧
    True ∧ True ∧ True) ∧ ((True ∧ (((((True ∧ (0 : Int) = bif uOk n then n / (17179869184 : Int) else (0 : Int)) ∧ (0 : Int) = bif uOk n then n / (536870912 : Int) % (32 : Int) else (0 : Int)) ∧ (0 : Int) = bif uOk n then n / (16777216 : Int) % (32 : Int) else (0 : Int)) ∧ (0 : Int) = bif uOk n then n / (524288 : Int) % (32 : Int) else (0 : Int)) ∧ (0 : Int) = bif uOk n then n / (65536 : Int) % (8 : Int) else (0 : Int)) ∧ (0 : Int) = bif uOk n then n % (65536 : Int) else (0 : Int)) ∧ false = uOk n) ∧ True) ∧ ((keyNo (n / (65536 : Int) / (8 : Int) / (32 : Int) / (32 : Int) / (32 : Int)) (n / (65536 : Int) / (8 : Int) / (32 : Int) / (32 : Int) % (32 : Int)) (n / (65536 : Int) / (8 : Int) / (32 : Int) % (32 : Int)) (n / (65536 : Int) / (8 : Int) % (32 : Int)) (n / (65536 : Int) % (8 : Int)) (n % (65536 : Int)) != (0 : Int)) = false → (True ∧ True ∧ True ∧ True ∧ True ∧ True) ∧ ((True ∧ (((((True ∧ n / (65536 : Int) / (8 : Int) / (32 : Int) / (32 : Int) / (32 : Int) = bif uOk n then n / (17179869184 : Int) else (0 : Int)) ∧ n / (65536 : Int) / (8 : Int) / (32 : Int) / (32 : Int) % (32 : Int) = bif uOk n then n / (536870912 : Int) % (32 : Int) else (0 : Int)) ∧ n / (65536 : Int) / (8 : Int) / (32 : Int) % (32 : Int) = bif uOk n then n / (16777216 : Int) % (32 : Int) else (0 : Int)) ∧ n / (65536 : Int) / (8 : Int) % (32 : Int) = bif uOk n then n / (524288 : Int) % (32 : Int) else (0 : Int)) ∧ n / (65536 : Int) % (8 : Int) = bif uOk n then n / (65536 : Int) % (8 : Int) else (0 :
    Int)) ∧ n % (65536 : Int) = bif uOk n then n % (65536 : Int) else (0 : Int)) ∧ true = uOk n) ∧ True))
theorem pf_unpacked (n : Int) (hp : p_unpacked n) : FnC Tryd.prog glN 27 (a_unpacked n) (m_unpacked n) (r_unpacked n) (n_unpacked n) := by
  refine fn_of (sound_cons ok_keyMay sound_nil) false Tryd.func27 [] (V := V_unpacked n) (by kernel_rfl) ?_
  unfold V_unpacked
  unfold p_unpacked at hp
  obtain ⟨h0, h1⟩ := hp
  have d1 : n / 65536 / 8 = n / 524288 := by omega
  have d2 : n / 524288 / 32 = n / 16777216 := by omega
  have d3 : n / 16777216 / 32 = n / 536870912 := by omega
  have d4 : n / 536870912 / 32 = n / 17179869184 := by omega
  rw [d1, d2, d3, d4]
  refine ⟨trivial, fun h => ?_, fun h => ?_⟩
  · have hf : uOk n = false := by
      have : ¬ n < 274877906944 := by simpa using h
      simp [uOk, this]
    simp [hf]
  · have hlt : n < 274877906944 := by simpa using h
    have hk : uOk n = (keyNo (n / 17179869184) (n / 536870912 % 32) (n / 16777216 % 32) (n / 524288 % 32) (n / 65536 % 8) (n % 65536) == 0) := by simp [uOk, hlt]
    have hw : ∀ x, 0 ≤ x → x < 9223372036854775808 → IntKind.i64.wrap x = x := fun x _ _ => by rw [IntKind.wrap_i64]; omega
    simp only [bne]
    generalize (keyNo (n / 17179869184) (n / 536870912 % 32) (n / 16777216 % 32) (n / 524288 % 32) (n / 65536 % 8) (n % 65536) == 0) = q at *
    repeat' (first | exact trivial | rfl | refine And.intro ?_ ?_ | intro h)
    all_goals first | (refine hw _ ?_ ?_ <;> omega) | omega | (rw [hk]; cases q <;> simp_all)
theorem ok_unpacked : FnOK Tryd.prog glN 27 c_unpacked := fnOK_of (fun l w => Tryd.call27 l w) fun x_ hp => pf_unpacked x_.n hp
structure X_unpack where
  n : Int
def a_unpack (n : Int) : List SV := [.v (.int .u64 n)]
def m_unpack (n : Int) : List Blk := []
def r_unpack (n : Int) : SV := .tp 2 (lsv [.ag 6 (lsv (uKey n)), .er 22 25 (bif uOk n then 0 else 1) (-1)])
def n_unpack (n : Int) : List Blk := []
def p_unpack (n : Int) : Prop := 0 ≤ n ∧ n < 18446744073709551616
def s_unpack : Sy.Spec where
  X := X_unpack
  args x_ := a_unpack x_.n
  mem x_ := m_unpack x_.n
  pre x_ := p_unpack x_.n
  res x_ := r_unpack x_.n
  mem' x_ := n_unpack x_.n
  dec args mem := match args with | [a0] => some ⟨intD (a0)⟩ | _ => none
def c_unpack : Con := ⟨[], s_unpack.g, none⟩
def V_unpack (n : Int) : Prop :=
  True ∧ True ∧ (True ∧ True ∧ True) ∧ (↑(6 : Nat) ≤ (9223372036854775807 : Int) → ((0 : Int) ≤ (0 : Int) ∧ (0 : Int) < ↑(6 : Nat)) ∧ True ∧ (True ∧ True) ∧ True ∧ True ∧ True ∧ True ∧ True ∧ True ∧ (0 : Int) ≤ (16 : Int) ∧ IntKind.u64.wrap (IntKind.u64.wrap ((1 : Int) * (2 : Int) ^ min (Int.toNat (16 : Int)) IntKind.u64.bits) - (1 : Int)) = IntKind.u64.wrap ((1 : Int) * (2 : Int) ^ min (Int.toNat (16 : Int)) IntKind.u64.bits) - (1 : Int) ∧ True ∧ IntKind.i64.wrap (bitsI BinOp.and IntKind.u64 n (IntKind.u64.wrap ((1 : Int) * (2 : Int) ^ min (Int.toNat (16 : Int)) IntKind.u64.bits) - (1 : Int))) = bitsI BinOp.and IntKind.u64 n (IntKind.u64.wrap ((1 : Int) * (2 : Int) ^ min (Int.toNat (16 : Int)) IntKind.u64.bits) - (1 : Int)) ∧ True ∧ (0 : Int) ≤ (16 : Int) ∧ IntKind.i64.wrap ((0 : Int) + (1 : Int)) = (0 : Int) + (1 : Int) ∧ ((0 : Int) ≤ (0 : Int) + (1 : Int) ∧ (0 : Int) + (1 : Int) < ↑(6 : Nat)) ∧ True ∧ (True ∧ True) ∧ True ∧ True ∧ True ∧ True ∧ True ∧ True ∧ (0 : Int) ≤ (3 : Int) ∧ IntKind.u64.wrap (IntKind.u64.wrap ((1 : Int) * (2 : Int) ^ min (Int.toNat (3 : Int)) IntKind.u64.bits) - (1 : Int)) = IntKind.u64.wrap ((1 : Int) * (2 : Int) ^ min (Int.toNat (3 : Int)) IntKind.u64.bits) - (1 : Int) ∧ True ∧ IntKind.i64.wrap (bitsI BinOp.and IntKind.u64 (n.fdiv ((2 : Int) ^ min (Int.toNat (16 : Int)) IntKind.u64.bits)) (IntKind.u64.wrap ((1 : Int) * (2 : Int) ^ min (Int.toNat (3 : Int)) IntKind.u64.bits) - (1 : Int))) = bitsI BinOp.and IntKind.u64 (n.fdiv ((2 : Int) ^ min
    (Int.toNat (16 : Int)) IntKind.u64.bits)) (IntKind.u64.wrap ((1 : Int) * (2 : Int) ^ min (Int.toNat (3 : Int)) IntKind.u64.bits) - (1 : Int)) ∧ True ∧ (0 : Int) ≤ (3 : Int) ∧ IntKind.i64.wrap ((0 : Int) + (1 : Int) + (1 : Int)) = (0 : Int) + (1 : Int) + (1 : Int) ∧ ((0 : Int) ≤ (0 : Int) + (1 : Int) + (1 : Int) ∧ (0 : Int) + (1 : Int) + (1 : Int) < ↑(6 : Nat)) ∧ True ∧ (True ∧ True) ∧ True ∧ True ∧ True ∧ True ∧ True ∧ True ∧ (0 : Int) ≤ (5 : Int) ∧ IntKind.u64.wrap (IntKind.u64.wrap ((1 : Int) * (2 : Int) ^ min (Int.toNat (5 : Int)) IntKind.u64.bits) - (1 : Int)) = IntKind.u64.wrap ((1 : Int) * (2 : Int) ^ min (Int.toNat (5 : Int)) IntKind.u64.bits) - (1 : Int) ∧ True ∧ IntKind.i64.wrap (bitsI BinOp.and IntKind.u64 ((n.fdiv ((2 : Int) ^ min (Int.toNat (16 : Int)) IntKind.u64.bits)).fdiv ((2 : Int) ^ min (Int.toNat (3 : Int)) IntKind.u64.bits)) (IntKind.u64.wrap ((1 : Int) * (2 : Int) ^ min (Int.toNat (5 : Int)) IntKind.u64.bits) - (1 : Int))) = bitsI BinOp.and IntKind.u64 ((n.fdiv ((2 : Int) ^ min (Int.toNat (16 : Int)) IntKind.u64.bits)).fdiv ((2 : Int) ^ min (Int.toNat (3 : Int)) IntKind.u64.bits)) (IntKind.u64.wrap ((1 : Int) * (2 : Int) ^ min (Int.toNat (5 : Int)) IntKind.u64.bits) - (1 : Int)) ∧ True ∧ (0 : Int) ≤ (5 : Int) ∧ IntKind.i64.wrap ((0 : Int) + (1 : Int) + (1 : Int) + (1 : Int)) = (0 : Int) + (1 : Int) + (1 : Int) + (1 : Int) ∧ ((0 : Int) ≤ (0 : Int) + (1 : Int) + (1 : Int) + (1 : Int) ∧ (0 : Int) + (1 : Int) + (1 : Int) + (1 : Int) < ↑(6 : Nat)) ∧ True ∧
    (True ∧ True) ∧ True ∧ True ∧ True ∧ True ∧ True ∧ True ∧ (0 : Int) ≤ (5 : Int) ∧ IntKind.u64.wrap (IntKind.u64.wrap ((1 : Int) * (2 : Int) ^ min (Int.toNat (5 : Int)) IntKind.u64.bits) - (1 : Int)) = IntKind.u64.wrap ((1 : Int) * (2 : Int) ^ min (Int.toNat (5 : Int)) IntKind.u64.bits) - (1 : Int) ∧ True ∧ IntKind.i64.wrap (bitsI BinOp.and IntKind.u64 (((n.fdiv ((2 : Int) ^ min (Int.toNat (16 : Int)) IntKind.u64.bits)).fdiv ((2 : Int) ^ min (Int.toNat (3 : Int)) IntKind.u64.bits)).fdiv ((2 : Int) ^ min (Int.toNat (5 : Int)) IntKind.u64.bits)) (IntKind.u64.wrap ((1 : Int) * (2 : Int) ^ min (Int.toNat (5 : Int)) IntKind.u64.bits) - (1 : Int))) = bitsI BinOp.and IntKind.u64 (((n.fdiv ((2 : Int) ^ min (Int.toNat (16 : Int)) IntKind.u64.bits)).fdiv ((2 : Int) ^ min (Int.toNat (3 : Int)) IntKind.u64.bits)).fdiv ((2 : Int) ^ min (Int.toNat (5 : Int)) IntKind.u64.bits)) (IntKind.u64.wrap ((1 : Int) * (2 : Int) ^ min (Int.toNat (5 : Int)) IntKind.u64.bits) - (1 : Int)) ∧ True ∧ (0 : Int) ≤ (5 : Int) ∧ IntKind.i64.wrap ((0 : Int) + (1 : Int) + (1 : Int) + (1 : Int) + (1 : Int)) = (0 : Int) + (1 : Int) + (1 : Int) + (1 : Int) + (1 : Int) ∧ ((0 : Int) ≤ (0 : Int) + (1 : Int) + (1 : Int) + (1 : Int) + (1 : Int) ∧ (0 : Int) + (1 : Int) + (1 : Int) + (1 : Int) + (1 : Int) < ↑(6 : Nat)) ∧ True ∧ (True ∧ True) ∧ True ∧ True ∧ True ∧ True ∧ True ∧ True ∧ (0 : Int) ≤ (5 : Int) ∧ IntKind.u64.wrap (IntKind.u64.wrap ((1 : Int) * (2 : Int) ^ min (Int.toNat (5 : Int)) IntKind.u64.bits) - (1 :
    Int)) = IntKind.u64.wrap ((1 : Int) * (2 : Int) ^ min (Int.toNat (5 : Int)) IntKind.u64.bits) - (1 : Int) ∧ True ∧ IntKind.i64.wrap (bitsI BinOp.and IntKind.u64 ((((n.fdiv ((2 : Int) ^ min (Int.toNat (16 : Int)) IntKind.u64.bits)).fdiv ((2 : Int) ^ min (Int.toNat (3 : Int)) IntKind.u64.bits)).fdiv ((2 : Int) ^ min (Int.toNat (5 : Int)) IntKind.u64.bits)).fdiv ((2 : Int) ^ min (Int.toNat (5 : Int)) IntKind.u64.bits)) (IntKind.u64.wrap ((1 : Int) * (2 : Int) ^ min (Int.toNat (5 : Int)) IntKind.u64.bits) - (1 : Int))) = bitsI BinOp.and IntKind.u64 ((((n.fdiv ((2 : Int) ^ min (Int.toNat (16 : Int)) IntKind.u64.bits)).fdiv ((2 : Int) ^ min (Int.toNat (3 : Int)) IntKind.u64.bits)).fdiv ((2 : Int) ^ min (Int.toNat (5 : Int)) IntKind.u64.bits)).fdiv ((2 : Int) ^ min (Int.toNat (5 : Int)) IntKind.u64.bits)) (IntKind.u64.wrap ((1 : Int) * (2 : Int) ^ min (Int.toNat (5 : Int)) IntKind.u64.bits) - (1 : Int)) ∧ True ∧ (0 : Int) ≤ (5 : Int) ∧ IntKind.i64.wrap ((0 : Int) + (1 : Int) + (1 : Int) + (1 : Int) + (1 : Int) + (1 : Int)) = (0 : Int) + (1 : Int) + (1 : Int) + (1 : Int) + (1 : Int) + (1 : Int) ∧ ((0 : Int) ≤ (0 : Int) + (1 : Int) + (1 : Int) + (1 : Int) + (1 : Int) + (1 : Int) ∧ (0 : Int) + (1 : Int) + (1 : Int) + (1 : Int) + (1 : Int) + (1 : Int) < ↑(6 : Nat)) ∧ True ∧ (True ∧ True) ∧ True ∧ True ∧ True ∧ True ∧ True ∧ True ∧ (0 : Int) ≤ (4 : Int) ∧ IntKind.u64.wrap (IntKind.u64.wrap ((1 : Int) * (2 : Int) ^ min (Int.toNat (4 : Int)) IntKind.u64.bits) - (1 : Int)) =
    IntKind.u64.wrap ((1 : Int) * (2 : Int) ^ min (Int.toNat (4 : Int)) IntKind.u64.bits) - (1 : Int) ∧ True ∧ IntKind.i64.wrap (bitsI BinOp.and IntKind.u64 (((((n.fdiv ((2 : Int) ^ min (Int.toNat (16 : Int)) IntKind.u64.bits)).fdiv ((2 : Int) ^ min (Int.toNat (3 : Int)) IntKind.u64.bits)).fdiv ((2 : Int) ^ min (Int.toNat (5 : Int)) IntKind.u64.bits)).fdiv ((2 : Int) ^ min (Int.toNat (5 : Int)) IntKind.u64.bits)).fdiv ((2 : Int) ^ min (Int.toNat (5 : Int)) IntKind.u64.bits)) (IntKind.u64.wrap ((1 : Int) * (2 : Int) ^ min (Int.toNat (4 : Int)) IntKind.u64.bits) - (1 : Int))) = bitsI BinOp.and IntKind.u64 (((((n.fdiv ((2 : Int) ^ min (Int.toNat (16 : Int)) IntKind.u64.bits)).fdiv ((2 : Int) ^ min (Int.toNat (3 : Int)) IntKind.u64.bits)).fdiv ((2 : Int) ^ min (Int.toNat (5 : Int)) IntKind.u64.bits)).fdiv ((2 : Int) ^ min (Int.toNat (5 : Int)) IntKind.u64.bits)).fdiv ((2 : Int) ^ min (Int.toNat (5 : Int)) IntKind.u64.bits)) (IntKind.u64.wrap ((1 : Int) * (2 : Int) ^ min (Int.toNat (4 : Int)) IntKind.u64.bits) - (1 : Int)) ∧ True ∧ (0 : Int) ≤ (4 : Int) ∧ IntKind.i64.wrap ((0 : Int) + (1 : Int) + (1 : Int) + (1 : Int) + (1 : Int) + (1 : Int) + (1 : Int)) = (0 : Int) + (1 : Int) + (1 : Int) + (1 : Int) + (1 : Int) + (1 : Int) + (1 : Int) ∧ (((((((n.fdiv ((2 : Int) ^ min (Int.toNat (16 : Int)) IntKind.u64.bits)).fdiv ((2 : Int) ^ min (Int.toNat (3 : Int)) IntKind.u64.bits)).fdiv ((2 : Int) ^ min (Int.toNat (5 : Int)) IntKind.u64.bits)).fdiv ((2 : Int) ^ min (Int.toNat (5 : Int))
    IntKind.u64.bits)).fdiv ((2 : Int) ^ min (Int.toNat (5 : Int)) IntKind.u64.bits)).fdiv ((2 : Int) ^ min (Int.toNat (4 : Int)) IntKind.u64.bits) != (0 : Int)) = false → (((((((True ∧ bitsI BinOp.and IntKind.u64 (((((n.fdiv ((2 : Int) ^ min (Int.toNat (16 : Int)) IntKind.u64.bits)).fdiv ((2 : Int) ^ min (Int.toNat (3 : Int)) IntKind.u64.bits)).fdiv ((2 : Int) ^ min (Int.toNat (5 : Int)) IntKind.u64.bits)).fdiv ((2 : Int) ^ min (Int.toNat (5 : Int)) IntKind.u64.bits)).fdiv ((2 : Int) ^ min (Int.toNat (5 : Int)) IntKind.u64.bits)) (IntKind.u64.wrap ((1 : Int) * (2 : Int) ^ min (Int.toNat (4 : Int)) IntKind.u64.bits) - (1 : Int)) = bitsI BinOp.and IntKind.u64 (((((n.fdiv ((2 : Int) ^ min (Int.toNat (16 : Int)) IntKind.u64.bits)).fdiv ((2 : Int) ^ min (Int.toNat (3 : Int)) IntKind.u64.bits)).fdiv ((2 : Int) ^ min (Int.toNat (5 : Int)) IntKind.u64.bits)).fdiv ((2 : Int) ^ min (Int.toNat (5 : Int)) IntKind.u64.bits)).fdiv ((2 : Int) ^ min (Int.toNat (5 : Int)) IntKind.u64.bits)) (IntKind.u64.wrap ((1 : Int) * (2 : Int) ^ min (Int.toNat (4 : Int)) IntKind.u64.bits) - (1 : Int))) ∧ bitsI BinOp.and IntKind.u64 ((((n.fdiv ((2 : Int) ^ min (Int.toNat (16 : Int)) IntKind.u64.bits)).fdiv ((2 : Int) ^ min (Int.toNat (3 : Int)) IntKind.u64.bits)).fdiv ((2 : Int) ^ min (Int.toNat (5 : Int)) IntKind.u64.bits)).fdiv ((2 : Int) ^ min (Int.toNat (5 : Int)) IntKind.u64.bits)) (IntKind.u64.wrap ((1 : Int) * (2 : Int) ^ min (Int.toNat (5 : Int)) IntKind.u64.bits) - (1 : Int)) = bitsI BinOp.and
    IntKind.u64 ((((n.fdiv ((2 : Int) ^ min (Int.toNat (16 : Int)) IntKind.u64.bits)).fdiv ((2 : Int) ^ min (Int.toNat (3 : Int)) IntKind.u64.bits)).fdiv ((2 : Int) ^ min (Int.toNat (5 : Int)) IntKind.u64.bits)).fdiv ((2 : Int) ^ min (Int.toNat (5 : Int)) IntKind.u64.bits)) (IntKind.u64.wrap ((1 : Int) * (2 : Int) ^ min (Int.toNat (5 : Int)) IntKind.u64.bits) - (1 : Int))) ∧ bitsI BinOp.and IntKind.u64 (((n.fdiv ((2 : Int) ^ min (Int.toNat (16 : Int)) IntKind.u64.bits)).fdiv ((2 : Int) ^ min (Int.toNat (3 : Int)) IntKind.u64.bits)).fdiv ((2 : Int) ^ min (Int.toNat (5 : Int)) IntKind.u64.bits)) (IntKind.u64.wrap ((1 : Int) * (2 : Int) ^ min (Int.toNat (5 : Int)) IntKind.u64.bits) - (1 : Int)) = bitsI BinOp.and IntKind.u64 (((n.fdiv ((2 : Int) ^ min (Int.toNat (16 : Int)) IntKind.u64.bits)).fdiv ((2 : Int) ^ min (Int.toNat (3 : Int)) IntKind.u64.bits)).fdiv ((2 : Int) ^ min (Int.toNat (5 : Int)) IntKind.u64.bits)) (IntKind.u64.wrap ((1 : Int) * (2 : Int) ^ min (Int.toNat (5 : Int)) IntKind.u64.bits) - (1 : Int))) ∧ bitsI BinOp.and IntKind.u64 ((n.fdiv ((2 : Int) ^ min (Int.toNat (16 : Int)) IntKind.u64.bits)).fdiv ((2 : Int) ^ min (Int.toNat (3 : Int)) IntKind.u64.bits)) (IntKind.u64.wrap ((1 : Int) * (2 : Int) ^ min (Int.toNat (5 : Int)) IntKind.u64.bits) - (1 : Int)) = bitsI BinOp.and IntKind.u64 ((n.fdiv ((2 : Int) ^ min (Int.toNat (16 : Int)) IntKind.u64.bits)).fdiv ((2 : Int) ^ min (Int.toNat (3 : Int)) IntKind.u64.bits)) (IntKind.u64.wrap ((1 : Int) * (2 : Int) ^ min
    (Int.toNat (5 : Int)) IntKind.u64.bits) - (1 : Int))) ∧ bitsI BinOp.and IntKind.u64 (n.fdiv ((2 : Int) ^ min (Int.toNat (16 : Int)) IntKind.u64.bits)) (IntKind.u64.wrap ((1 : Int) * (2 : Int) ^ min (Int.toNat (3 : Int)) IntKind.u64.bits) - (1 : Int)) = bitsI BinOp.and IntKind.u64 (n.fdiv ((2 : Int) ^ min (Int.toNat (16 : Int)) IntKind.u64.bits)) (IntKind.u64.wrap ((1 : Int) * (2 : Int) ^ min (Int.toNat (3 : Int)) IntKind.u64.bits) - (1 : Int))) ∧ bitsI BinOp.and IntKind.u64 n (IntKind.u64.wrap ((1 : Int) * (2 : Int) ^ min (Int.toNat (16 : Int)) IntKind.u64.bits) - (1 : Int)) = bitsI BinOp.and IntKind.u64 n (IntKind.u64.wrap ((1 : Int) * (2 : Int) ^ min (Int.toNat (16 : Int)) IntKind.u64.bits) - (1 : Int))) ∧ True) ∧ True ∧ True) ∧ ((bif (((((n.fdiv ((2 : Int) ^ min (Int.toNat (16 : Int)) IntKind.u64.bits)).fdiv ((2 : Int) ^ min (Int.toNat (3 : Int)) IntKind.u64.bits)).fdiv ((2 : Int) ^ min (Int.toNat (5 : Int)) IntKind.u64.bits)).fdiv ((2 : Int) ^ min (Int.toNat (5 : Int)) IntKind.u64.bits)).fdiv ((2 : Int) ^ min (Int.toNat (5 : Int)) IntKind.u64.bits)).fdiv ((2 : Int) ^ min (Int.toNat (4 : Int)) IntKind.u64.bits) != (0 : Int) then true else keyNo (bitsI BinOp.and IntKind.u64 (((((n.fdiv ((2 : Int) ^ min (Int.toNat (16 : Int)) IntKind.u64.bits)).fdiv ((2 : Int) ^ min (Int.toNat (3 : Int)) IntKind.u64.bits)).fdiv ((2 : Int) ^ min (Int.toNat (5 : Int)) IntKind.u64.bits)).fdiv ((2 : Int) ^ min (Int.toNat (5 : Int)) IntKind.u64.bits)).fdiv ((2 : Int) ^ min (Int.toNat (5 :
    Int)) IntKind.u64.bits)) (IntKind.u64.wrap ((1 : Int) * (2 : Int) ^ min (Int.toNat (4 : Int)) IntKind.u64.bits) - (1 : Int))) (bitsI BinOp.and IntKind.u64 ((((n.fdiv ((2 : Int) ^ min (Int.toNat (16 : Int)) IntKind.u64.bits)).fdiv ((2 : Int) ^ min (Int.toNat (3 : Int)) IntKind.u64.bits)).fdiv ((2 : Int) ^ min (Int.toNat (5 : Int)) IntKind.u64.bits)).fdiv ((2 : Int) ^ min (Int.toNat (5 : Int)) IntKind.u64.bits)) (IntKind.u64.wrap ((1 : Int) * (2 : Int) ^ min (Int.toNat (5 : Int)) IntKind.u64.bits) - (1 : Int))) (bitsI BinOp.and IntKind.u64 (((n.fdiv ((2 : Int) ^ min (Int.toNat (16 : Int)) IntKind.u64.bits)).fdiv ((2 : Int) ^ min (Int.toNat (3 : Int)) IntKind.u64.bits)).fdiv ((2 : Int) ^ min (Int.toNat (5 : Int)) IntKind.u64.bits)) (IntKind.u64.wrap ((1 : Int) * (2 : Int) ^ min (Int.toNat (5 : Int)) IntKind.u64.bits) - (1 : Int))) (bitsI BinOp.and IntKind.u64 ((n.fdiv ((2 : Int) ^ min (Int.toNat (16 : Int)) IntKind.u64.bits)).fdiv ((2 : Int) ^ min (Int.toNat (3 : Int)) IntKind.u64.bits)) (IntKind.u64.wrap ((1 : Int) * (2 : Int) ^ min (Int.toNat (5 : Int)) IntKind.u64.bits) - (1 : Int))) (bitsI BinOp.and IntKind.u64 (n.fdiv ((2 : Int) ^ min (Int.toNat (16 : Int)) IntKind.u64.bits)) (IntKind.u64.wrap ((1 : Int) * (2 : Int) ^ min (Int.toNat (3 : Int)) IntKind.u64.bits) - (1 : Int))) (bitsI BinOp.and IntKind.u64 n (IntKind.u64.wrap ((1 : Int) * (2 : Int) ^ min (Int.toNat (16 : Int)) IntKind.u64.bits) - (1 : Int))) != (0 : Int)) = true → (True ∧ True ∧ True ∧ True ∧ True ∧ True)
    ∧ ((True ∧ (((((True ∧ (0 : Int) = bif uOk n then n / (17179869184 : Int) else (0 : Int)) ∧ (0 : Int) = bif uOk n then n / (536870912 : Int) % (32 : Int) else (0 : Int)) ∧ (0 : Int) = bif uOk n then n / (16777216 : Int) % (32 : Int) else (0 : Int)) ∧ (0 : Int) = bif uOk n then n / (524288 : Int) % (32 : Int) else (0 : Int)) ∧ (0 : Int) = bif uOk n then n / (65536 : Int) % (8 : Int) else (0 : Int)) ∧ (0 : Int) = bif uOk n then n % (65536 : Int) else (0 : Int)) ∧ (1 : Int) ≠ (0 : Int) ∧ (bif uOk n then (0 : Int) else (1 : Int)) = (1 : Int) ∧ (-1 : Int) = (-1 : Int)) ∧ True) ∧ ((bif (((((n.fdiv ((2 : Int) ^ min (Int.toNat (16 : Int)) IntKind.u64.bits)).fdiv ((2 : Int) ^ min (Int.toNat (3 : Int)) IntKind.u64.bits)).fdiv ((2 : Int) ^ min (Int.toNat (5 : Int)) IntKind.u64.bits)).fdiv ((2 : Int) ^ min (Int.toNat (5 : Int)) IntKind.u64.bits)).fdiv ((2 : Int) ^ min (Int.toNat (5 : Int)) IntKind.u64.bits)).fdiv ((2 : Int) ^ min (Int.toNat (4 : Int)) IntKind.u64.bits) != (0 : Int) then true else keyNo (bitsI BinOp.and IntKind.u64 (((((n.fdiv ((2 : Int) ^ min (Int.toNat (16 : Int)) IntKind.u64.bits)).fdiv ((2 : Int) ^ min (Int.toNat (3 : Int)) IntKind.u64.bits)).fdiv ((2 : Int) ^ min (Int.toNat (5 : Int)) IntKind.u64.bits)).fdiv ((2 : Int) ^ min (Int.toNat (5 : Int)) IntKind.u64.bits)).fdiv ((2 : Int) ^ min (Int.toNat (5 : Int)) IntKind.u64.bits)) (IntKind.u64.wrap ((1 : Int) * (2 : Int) ^ min (Int.toNat (4 : Int)) IntKind.u64.bits) - (1 : Int))) (bitsI BinOp.and IntKind.u64
    ((((n.fdiv ((2 : Int) ^ min (Int.toNat (16 : Int)) IntKind.u64.bits)).fdiv ((2 : Int) ^ min (Int.toNat (3 : Int)) IntKind.u64.bits)).fdiv ((2 : Int) ^ min (Int.toNat (5 : Int)) IntKind.u64.bits)).fdiv ((2 : Int) ^ min (Int.toNat (5 : Int)) IntKind.u64.bits)) (IntKind.u64.wrap ((1 : Int) * (2 : Int) ^ min (Int.toNat (5 : Int)) IntKind.u64.bits) - (1 : Int))) (bitsI BinOp.and IntKind.u64 (((n.fdiv ((2 : Int) ^ min (Int.toNat (16 : Int)) IntKind.u64.bits)).fdiv ((2 : Int) ^ min (Int.toNat (3 : Int)) IntKind.u64.bits)).fdiv ((2 : Int) ^ min (Int.toNat (5 : Int)) IntKind.u64.bits)) (IntKind.u64.wrap ((1 : Int) * (2 : Int) ^ min (Int.toNat (5 : Int)) IntKind.u64.bits) - (1 : Int))) (bitsI BinOp.and IntKind.u64 ((n.fdiv ((2 : Int) ^ min (Int.toNat (16 : Int)) IntKind.u64.bits)).fdiv ((2 : Int) ^ min (Int.toNat (3 : Int)) IntKind.u64.bits)) (IntKind.u64.wrap ((1 : Int) * (2 : Int) ^ min (Int.toNat (5 : Int)) IntKind.u64.bits) - (1 : Int))) (bitsI BinOp.and IntKind.u64 (n.fdiv ((2 : Int) ^ min (Int.toNat (16 : Int)) IntKind.u64.bits)) (IntKind.u64.wrap ((1 : Int) * (2 : Int) ^ min (Int.toNat (3 : Int)) IntKind.u64.bits) - (1 : Int))) (bitsI BinOp.and IntKind.u64 n (IntKind.u64.wrap ((1 : Int) * (2 : Int) ^ min (Int.toNat (16 : Int)) IntKind.u64.bits) - (1 : Int))) != (0 : Int)) = false → (True ∧ True ∧ True ∧ True ∧ True ∧ True) ∧ ((True ∧ (((((True ∧ bitsI BinOp.and IntKind.u64 (((((n.fdiv ((2 : Int) ^ min (Int.toNat (16 : Int)) IntKind.u64.bits)).fdiv ((2 : Int) ^ min (Int.toNat
    (3 : Int)) IntKind.u64.bits)).fdiv ((2 : Int) ^ min (Int.toNat (5 : Int)) IntKind.u64.bits)).fdiv ((2 : Int) ^ min (Int.toNat (5 : Int)) IntKind.u64.bits)).fdiv ((2 : Int) ^ min (Int.toNat (5 : Int)) IntKind.u64.bits)) (IntKind.u64.wrap ((1 : Int) * (2 : Int) ^ min (Int.toNat (4 : Int)) IntKind.u64.bits) - (1 : Int)) = bif uOk n then n / (17179869184 : Int) else (0 : Int)) ∧ bitsI BinOp.and IntKind.u64 ((((n.fdiv ((2 : Int) ^ min (Int.toNat (16 : Int)) IntKind.u64.bits)).fdiv ((2 : Int) ^ min (Int.toNat (3 : Int)) IntKind.u64.bits)).fdiv ((2 : Int) ^ min (Int.toNat (5 : Int)) IntKind.u64.bits)).fdiv ((2 : Int) ^ min (Int.toNat (5 : Int)) IntKind.u64.bits)) (IntKind.u64.wrap ((1 : Int) * (2 : Int) ^ min (Int.toNat (5 : Int)) IntKind.u64.bits) - (1 : Int)) = bif uOk n then n / (536870912 : Int) % (32 : Int) else (0 : Int)) ∧ bitsI BinOp.and IntKind.u64 (((n.fdiv ((2 : Int) ^ min (Int.toNat (16 : Int)) IntKind.u64.bits)).fdiv ((2 : Int) ^ min (Int.toNat (3 : Int)) IntKind.u64.bits)).fdiv ((2 : Int) ^ min (Int.toNat (5 : Int)) IntKind.u64.bits)) (IntKind.u64.wrap ((1 : Int) * (2 : Int) ^ min (Int.toNat (5 : Int)) IntKind.u64.bits) - (1 : Int)) = bif uOk n then n / (16777216 : Int) % (32 : Int) else (0 : Int)) ∧ bitsI BinOp.and IntKind.u64 ((n.fdiv ((2 : Int) ^ min (Int.toNat (16 : Int)) IntKind.u64.bits)).fdiv ((2 : Int) ^ min (Int.toNat (3 : Int)) IntKind.u64.bits)) (IntKind.u64.wrap ((1 : Int) * (2 : Int) ^ min (Int.toNat (5 : Int)) IntKind.u64.bits) - (1 : Int)) = bif uOk
    n then n / (524288 : Int) % (32 : Int) else (0 : Int)) ∧ bitsI BinOp.and IntKind.u64 (n.fdiv ((2 : Int) ^ min (Int.toNat (16 : Int)) IntKind.u64.bits)) (IntKind.u64.wrap ((1 : Int) * (2 : Int) ^ min (Int.toNat (3 : Int)) IntKind.u64.bits) - (1 : Int)) = bif uOk n then n / (65536 : Int) % (8 : Int) else (0 : Int)) ∧ bitsI BinOp.and IntKind.u64 n (IntKind.u64.wrap ((1 : Int) * (2 : Int) ^ min (Int.toNat (16 : Int)) IntKind.u64.bits) - (1 : Int)) = bif uOk n then n % (65536 : Int) else (0 : Int)) ∧ (bif uOk n then (0 : Int) else (1 : Int)) = (0 : Int) ∧ (-1 : Int) = (-1 : Int)) ∧ True))
theorem pf_unpack (n : Int) (hp : p_unpack n) : FnC Tryd.prog glN 28 (a_unpack n) (m_unpack n) (r_unpack n) (n_unpack n) := by
  refine fn_of (sound_cons ok_wordCheck (sound_cons ok_fields (sound_cons ok_fld1 (sound_cons ok_fld2 (sound_cons ok_fld3 (sound_cons ok_fld4 (sound_cons ok_fld5 (sound_cons ok_fld6 sound_nil)))))))) false Tryd.func28 [.dec, .unroll 7] (V := V_unpack n) (by kernel_rfl) ?_
  unfold V_unpack
  unfold p_unpack at hp
  obtain ⟨h0, h1⟩ := hp
  have s16 : ∀ x : Int, x.fdiv (2 ^ min (Int.toNat 16) IntKind.u64.bits) = x / 65536 := fun x => Int.fdiv_eq_ediv_of_nonneg _ (by decide)
  have s3 : ∀ x : Int, x.fdiv (2 ^ min (Int.toNat 3) IntKind.u64.bits) = x / 8 := fun x => Int.fdiv_eq_ediv_of_nonneg _ (by decide)
  have s5 : ∀ x : Int, x.fdiv (2 ^ min (Int.toNat 5) IntKind.u64.bits) = x / 32 := fun x => Int.fdiv_eq_ediv_of_nonneg _ (by decide)
  have s4 : ∀ x : Int, x.fdiv (2 ^ min (Int.toNat 4) IntKind.u64.bits) = x / 16 := fun x => Int.fdiv_eq_ediv_of_nonneg _ (by decide)
  have m16 : ∀ x : Int, bitsI BinOp.and IntKind.u64 x (IntKind.u64.wrap (1 * 2 ^ min (Int.toNat 16) IntKind.u64.bits) - 1) = x % 65536 := fun x => maskU 16 (by omega) (by decide)
  have m3 : ∀ x : Int, bitsI BinOp.and IntKind.u64 x (IntKind.u64.wrap (1 * 2 ^ min (Int.toNat 3) IntKind.u64.bits) - 1) = x % 8 := fun x => maskU 3 (by omega) (by decide)
  have m5 : ∀ x : Int, bitsI BinOp.and IntKind.u64 x (IntKind.u64.wrap (1 * 2 ^ min (Int.toNat 5) IntKind.u64.bits) - 1) = x % 32 := fun x => maskU 5 (by omega) (by decide)
  have m4 : ∀ x : Int, bitsI BinOp.and IntKind.u64 x (IntKind.u64.wrap (1 * 2 ^ min (Int.toNat 4) IntKind.u64.bits) - 1) = x % 16 := fun x => maskU 4 (by omega) (by decide)
  simp only [m16, m3, m5, m4, s16, s3, s5, s4]
  have d1 : n / 65536 / 8 = n / 524288 := by omega
  have d2 : n / 524288 / 32 = n / 16777216 := by omega
  have d3 : n / 16777216 / 32 = n / 536870912 := by omega
  have d4 : n / 536870912 / 32 = n / 17179869184 := by omega
  simp only [d1, d2, d3, d4]
  have hw : ∀ x, 0 ≤ x → x < 9223372036854775808 → IntKind.i64.wrap x = x := fun x _ _ => by rw [IntKind.wrap_i64]; omega
  have hc : n / 17179869184 / 16 ≠ 0 → uOk n = false := fun h => by
    have : ¬ n < 274877906944 := by omega
    simp [uOk, this]
  have hk : n / 17179869184 / 16 = 0 → uOk n = (keyNo (n / 17179869184 % 16) (n / 536870912 % 32) (n / 16777216 % 32) (n / 524288 % 32) (n / 65536 % 8) (n % 65536) == 0) ∧ n / 17179869184 % 16 = n / 17179869184 := fun h => by
    have h2 : n < 274877906944 := by omega
    have h3 : n / 17179869184 % 16 = n / 17179869184 := by omega
    rw [h3]
    exact ⟨by simp [uOk, h2], rfl⟩
  simp only [bne]
  generalize (keyNo (n / 17179869184 % 16) (n / 536870912 % 32) (n / 16777216 % 32) (n / 524288 % 32) (n / 65536 % 8) (n % 65536) == 0) = q at *
  repeat' (first | exact trivial | rfl | refine And.intro ?_ ?_ | intro h)
  all_goals first | (exact absurd ‹_› (by decide)) | decide | (refine hw _ ?_ ?_ <;> omega) | (simp only [IntKind.wrap_i64]; omega) | omega | skip
  all_goals (rcases Decidable.em (n / 17179869184 / 16 = 0) with hz | hz)
  all_goals (first | replace hk := hk hz | replace hc := hc hz)
  all_goals (cases q <;> simp_all)
theorem ok_unpack : FnOK Tryd.prog glN 28 c_unpack := fnOK_of (fun l w => Tryd.call28 l w) fun x_ hp => pf_unpack x_.n hp
end Go.Proofs.YtfmaeiilbhpepaaDoor
