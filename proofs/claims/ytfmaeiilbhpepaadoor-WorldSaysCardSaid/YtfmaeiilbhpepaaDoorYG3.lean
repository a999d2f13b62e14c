/- The program's look at a world: small functions. -/
import Derived.Test.YtfmaeiilbhpepaaDoorYG2
import Derived.Test.YtfmaeiilbhpepaaDoorYG1
set_option linter.unusedVariables false
set_option linter.unusedSimpArgs false
set_option linter.unusedVariables false
set_option linter.unusedSimpArgs false
set_option maxRecDepth 100000
namespace Go.Proofs.YtfmaeiilbhpepaaDoor
open Go.RowKit Go.Sy
def an_ix (n : Nat) (l : Nat → Int) (x : Int) : Ann where
  σ := Nat
  rt := []
  sh i := [(8, .v (.int .i64 i))]
  mh _ := []
  inv i := i ≤ n ∧ ∀ j, j < i → (x == l j) = false
  μ i := n - i
  init := 0
def an_ct1 (n : Nat) (ln : Nat → Nat) (l : Nat → Nat → Int) (x : Int) : Ann where
  σ := Nat
  rt := []
  sh i := [(12, .v (.int .i64 i)), (5, .v (.int .i64 (cntLL i ln l x : Nat)))]
  mh _ := []
  inv i := i ≤ n
  μ i := n - i
  init := 0
def an_ct2 (ln : Nat → Nat) (l : Nat → Nat → Int) (x : Int) (i c : Int) : Ann where
  σ := Nat
  rt := []
  sh k := [(18, .v (.int .i64 k)), (5, .v (.int .i64 (c + (cntB k fun q => l i.toNat q == x : Nat))))]
  mh _ := []
  inv k := k ≤ ln i.toNat
  μ k := ln i.toNat - k
  init := 0
theorem kof_int {W : Wd} {f k : Int} (hk : k ≠ -1) : (decide (0 ≤ f) && decide (f < (W.nKinds : Int)) && W.kinds f.toNat == k) = (kof W f == k) := by
  cases h1 : decide (0 ≤ f) && decide (f < (W.nKinds : Int)) with
  | true =>
    simp only [Bool.and_eq_true, decide_eq_true_eq] at h1
    rw [kof_eq h1]; rfl
  | false =>
    simp only [Bool.and_eq_false_iff, decide_eq_false_iff_not] at h1
    rw [kof_out (by omega)]
    symm
    exact beq_eq_false_iff_ne.2 fun h => hk h.symm
theorem rights_subW {r q : Int} (r0 : 0 ≤ r) (r1 : r ≤ 7) (q0 : 0 ≤ q) (q1 : q ≤ 7) : (bitsI .andNot .i64 r q == 0) = (((bitw 6 q.toNat r.toNat : Nat) : Int) == r) := by
  rw [rights_sub r0 r1 q0 q1, and64 q0 (by omega) r0 (by omega)]; rfl
structure X_wOut where
  v : Int
  m : Int
def a_wOut (v : Int) (m : Int) : List SV := [.v (.int .i64 v), .v (.int .i64 m)]
def m_wOut (v : Int) (m : Int) : List Blk := []
def r_wOut (v : Int) (m : Int) : SV := .v (.bool (farB v m))
def n_wOut (v : Int) (m : Int) : List Blk := []
def p_wOut (v : Int) (m : Int) : Prop := True
def s_wOut : Sy.Spec where
  X := X_wOut
  args x_ := a_wOut x_.v x_.m
  mem x_ := m_wOut x_.v x_.m
  pre x_ := p_wOut x_.v x_.m
  res x_ := r_wOut x_.v x_.m
  mem' x_ := n_wOut x_.v x_.m
  dec args mem := match args with | [a0, a1] => some ⟨intD (a0), intD (a1)⟩ | _ => none
def c_wOut : Con := ⟨[], s_wOut.g, none⟩
def V_wOut (v : Int) (m : Int) : Prop :=
  (bif decide (v < (0 : Int)) then true else decide (m < v)) = farB v m ∧ True
theorem q_wOut (v : Int) (m : Int) : evBody Tryd.prog false glN (mkT []) Tryd.f92 (a_wOut v m) (m_wOut v m) [] (r_wOut v m) (n_wOut v m) = V_wOut v m := by kernel_rfl
theorem pf_wOut (v : Int) (m : Int) (hp : p_wOut v m) : FnC Tryd.prog glN 92 (a_wOut v m) (m_wOut v m) (r_wOut v m) (n_wOut v m) := by
  refine fn_of sound_nil false Tryd.func92 [] (q_wOut v m) ?_
  unfold V_wOut
  simp only [true_and, and_true, and_self, implies_true, eq_self, Int.toNat_natCast, Nat.zero_add, Int.natCast_nonneg, Nat.not_lt_zero, false_implies, Nat.zero_le, Int.natCast_zero, Bool.cond_self, Bool.cond_true_left, Bool.cond_false_right, Bool.cond_true_right, Bool.cond_false_left]
  rfl
theorem ok_wOut : FnOK Tryd.prog glN 92 c_wOut := fnOK_of (fun l w => Tryd.call92 l w) fun x_ hp => pf_wOut x_.v x_.m hp
structure X_wAt where
  i : Int
  e : Int
def a_wAt (i : Int) (e : Int) : List SV := [.v (.int .i64 i), .v (.int .i64 e)]
def m_wAt (i : Int) (e : Int) : List Blk := []
def r_wAt (i : Int) (e : Int) : SV := .er 22 25 e i
def n_wAt (i : Int) (e : Int) : List Blk := []
def p_wAt (i : Int) (e : Int) : Prop := 0 ≤ i ∧ e ≠ 0
def s_wAt : Sy.Spec where
  X := X_wAt
  args x_ := a_wAt x_.i x_.e
  mem x_ := m_wAt x_.i x_.e
  pre x_ := p_wAt x_.i x_.e
  res x_ := r_wAt x_.i x_.e
  mem' x_ := n_wAt x_.i x_.e
  dec args mem := match args with | [a0, a1] => some ⟨intD (a0), intD (a1)⟩ | _ => none
def c_wAt : Con := ⟨[], s_wAt.g, none⟩
def V_wAt (i : Int) (e : Int) : Prop :=
  True ∧ (e ≠ (0 : Int) ∧ (0 : Int) ≤ i ∧ e = e ∧ i = i) ∧ True
theorem q_wAt (i : Int) (e : Int) : evBody Tryd.prog false glN (mkT []) Tryd.f158 (a_wAt i e) (m_wAt i e) [] (r_wAt i e) (n_wAt i e) = V_wAt i e := by kernel_rfl
theorem pf_wAt (i : Int) (e : Int) (hp : p_wAt i e) : FnC Tryd.prog glN 158 (a_wAt i e) (m_wAt i e) (r_wAt i e) (n_wAt i e) := by
  refine fn_of sound_nil false Tryd.func158 [] (q_wAt i e) ?_
  unfold V_wAt
  unfold p_wAt at hp
  simp only [true_and, and_true, and_self, implies_true, eq_self, Int.toNat_natCast, Nat.zero_add, Int.natCast_nonneg, Nat.not_lt_zero, false_implies, Nat.zero_le, Int.natCast_zero, Bool.cond_self, Bool.cond_true_left, Bool.cond_false_right, Bool.cond_true_right, Bool.cond_false_left]
  exact ⟨hp.2, hp.1⟩
theorem ok_wAt : FnOK Tryd.prog glN 158 c_wAt := fnOK_of (fun l w => Tryd.call158 l w) fun x_ hp => pf_wAt x_.i x_.e hp
structure X_wIs where
  W : Wd
  f : Int
  k : Int
def a_wIs (W : Wd) (f : Int) (k : Int) : List SV := [wPT W, .v (.int .i64 f), .v (.int .i64 k)]
def m_wIs (W : Wd) (f : Int) (k : Int) : List Blk := []
def r_wIs (W : Wd) (f : Int) (k : Int) : SV := .v (.bool (okF W f k))
def n_wIs (W : Wd) (f : Int) (k : Int) : List Blk := []
def p_wIs (W : Wd) (f : Int) (k : Int) : Prop := k ≠ -1
def s_wIs : Sy.Spec where
  X := X_wIs
  args x_ := a_wIs x_.W x_.f x_.k
  mem x_ := m_wIs x_.W x_.f x_.k
  pre x_ := p_wIs x_.W x_.f x_.k
  res x_ := r_wIs x_.W x_.f x_.k
  mem' x_ := n_wIs x_.W x_.f x_.k
  dec args mem := match args with | [a0, a1, a2] => some ⟨wPTD a0, intD (a1), intD (a2)⟩ | _ => none
def c_wIs : Con := ⟨[], s_wIs.g, none⟩
def V_wIs (W : Wd) (f : Int) (k : Int) : Prop :=
  ((bif decide ((0 : Int) ≤ f) then decide (f < (↑W.nKinds : Int)) else false) = true → (f == (-1 : Int)) = false → (0 : Int) ≤ f ∧ f < (↑W.nKinds : Int)) ∧ (bif f == (-1 : Int) then true else bif bif decide ((0 : Int) ≤ f) then decide (f < (↑W.nKinds : Int)) else false then W.kinds (Int.toNat f) == k else false) = okF W f k ∧ True
theorem q_wIs (W : Wd) (f : Int) (k : Int) : evBody Tryd.prog false glN (mkT []) Tryd.f136 (a_wIs W f k) (m_wIs W f k) [] (r_wIs W f k) (n_wIs W f k) = V_wIs W f k := by kernel_rfl
theorem pf_wIs (W : Wd) (f : Int) (k : Int) (hp : p_wIs W f k) : FnC Tryd.prog glN 136 (a_wIs W f k) (m_wIs W f k) (r_wIs W f k) (n_wIs W f k) := by
  refine fn_of sound_nil false Tryd.func136 [] (q_wIs W f k) ?_
  unfold V_wIs
  unfold p_wIs at hp
  simp only [true_and, and_true, and_self, implies_true, eq_self, Int.toNat_natCast, Nat.zero_add, Int.natCast_nonneg, Nat.not_lt_zero, false_implies, Nat.zero_le, Int.natCast_zero, Bool.cond_self, Bool.cond_true_left, Bool.cond_false_right, Bool.cond_true_right, Bool.cond_false_left]
  exact ⟨fun h _ => by simp only [Bool.and_eq_true, decide_eq_true_eq] at h; exact h, by rw [kof_int hp]; rfl⟩
theorem ok_wIs : FnOK Tryd.prog glN 136 c_wIs := fnOK_of (fun l w => Tryd.call136 l w) fun x_ hp => pf_wIs x_.W x_.f x_.k hp
structure X_wMade where
  k : Int
  b : Int
  l : Int
  m : Int
  r : Int
  g : Int
  k2 : Int
  b2 : Int
  l2 : Int
  m2 : Int
  r2 : Int
  g2 : Int
def a_wMade (k : Int) (b : Int) (l : Int) (m : Int) (r : Int) (g : Int) (k2 : Int) (b2 : Int) (l2 : Int) (m2 : Int) (r2 : Int) (g2 : Int) : List SV := [.ag 6 (lsv [.v (.int .i64 k), .v (.int .i64 b), .v (.int .i64 l), .v (.int .i64 m), .v (.int .i64 r), .v (.int .i64 g)]), .ag 6 (lsv [.v (.int .i64 k2), .v (.int .i64 b2), .v (.int .i64 l2), .v (.int .i64 m2), .v (.int .i64 r2), .v (.int .i64 g2)])]
def m_wMade (k : Int) (b : Int) (l : Int) (m : Int) (r : Int) (g : Int) (k2 : Int) (b2 : Int) (l2 : Int) (m2 : Int) (r2 : Int) (g2 : Int) : List Blk := []
def r_wMade (k : Int) (b : Int) (l : Int) (m : Int) (r : Int) (g : Int) (k2 : Int) (b2 : Int) (l2 : Int) (m2 : Int) (r2 : Int) (g2 : Int) : SV := .v (.bool (madeB ⟨k, b, l, m, r, g, 0⟩ ⟨k2, b2, l2, m2, r2, g2, 0⟩))
def n_wMade (k : Int) (b : Int) (l : Int) (m : Int) (r : Int) (g : Int) (k2 : Int) (b2 : Int) (l2 : Int) (m2 : Int) (r2 : Int) (g2 : Int) : List Blk := []
def p_wMade (k : Int) (b : Int) (l : Int) (m : Int) (r : Int) (g : Int) (k2 : Int) (b2 : Int) (l2 : Int) (m2 : Int) (r2 : Int) (g2 : Int) : Prop := keyNo k b l m r g = 0
def s_wMade : Sy.Spec where
  X := X_wMade
  args x_ := a_wMade x_.k x_.b x_.l x_.m x_.r x_.g x_.k2 x_.b2 x_.l2 x_.m2 x_.r2 x_.g2
  mem x_ := m_wMade x_.k x_.b x_.l x_.m x_.r x_.g x_.k2 x_.b2 x_.l2 x_.m2 x_.r2 x_.g2
  pre x_ := p_wMade x_.k x_.b x_.l x_.m x_.r x_.g x_.k2 x_.b2 x_.l2 x_.m2 x_.r2 x_.g2
  res x_ := r_wMade x_.k x_.b x_.l x_.m x_.r x_.g x_.k2 x_.b2 x_.l2 x_.m2 x_.r2 x_.g2
  mem' x_ := n_wMade x_.k x_.b x_.l x_.m x_.r x_.g x_.k2 x_.b2 x_.l2 x_.m2 x_.r2 x_.g2
  dec args mem := match args with | [a0, a1] => some ⟨intD (agD a0 0), intD (agD a0 1), intD (agD a0 2), intD (agD a0 3), intD (agD a0 4), intD (agD a0 5), intD (agD a1 0), intD (agD a1 1), intD (agD a1 2), intD (agD a1 3), intD (agD a1 4), intD (agD a1 5)⟩ | _ => none
def c_wMade : Con := ⟨[], s_wMade.g, none⟩
def V_wMade (k : Int) (b : Int) (l : Int) (m : Int) (r : Int) (g : Int) (k2 : Int) (b2 : Int) (l2 : Int) (m2 : Int) (r2 : Int) (g2 : Int) : Prop :=
  True ∧ True ∧ ((((((((True ∧ k2 = k2) ∧ b2 = b2) ∧ l2 = l2) ∧ m2 = m2) ∧ r2 = r2) ∧ g2 = g2) ∧ True) ∧ True ∧ True) ∧ ((keyNo k2 b2 l2 m2 r2 g2 != (0 : Int)) = true → false = madeB (Slt.mk k b l m r g (0 : Int)) (Slt.mk k2 b2 l2 m2 r2 g2 (0 : Int)) ∧ True) ∧ ((keyNo k2 b2 l2 m2 r2 g2 != (0 : Int)) = false → ((k2 == (1 : Int)) = true → ((bif k != (1 : Int) then decide (b2 ≤ b) else false) = true → IntKind.wrap IntKind.i64 (b2 + m2) = b2 + m2) ∧ (bif bif k != (1 : Int) then decide (b2 ≤ b) else false then decide (b < b2 + m2) else false) = madeB (Slt.mk k b l m r g (0 : Int)) (Slt.mk k2 b2 l2 m2 r2 g2 (0 : Int)) ∧ True) ∧ ((k2 == (1 : Int)) = false → (bif bif bif k == k2 then b == b2 else false then bitsI BinOp.andNot IntKind.i64 r r2 == (0 : Int) else false then bif g2 == (0 : Int) then true else g == g2 else false) = madeB (Slt.mk k b l m r g (0 : Int)) (Slt.mk k2 b2 l2 m2 r2 g2 (0 : Int)) ∧ True))
theorem q_wMade (k : Int) (b : Int) (l : Int) (m : Int) (r : Int) (g : Int) (k2 : Int) (b2 : Int) (l2 : Int) (m2 : Int) (r2 : Int) (g2 : Int) : evBody Tryd.prog false glN (mkT [(26, c_wordCheck)]) Tryd.f132 (a_wMade k b l m r g k2 b2 l2 m2 r2 g2) (m_wMade k b l m r g k2 b2 l2 m2 r2 g2) [] (r_wMade k b l m r g k2 b2 l2 m2 r2 g2) (n_wMade k b l m r g k2 b2 l2 m2 r2 g2) = V_wMade k b l m r g k2 b2 l2 m2 r2 g2 := by kernel_rfl
theorem pf_wMade (k : Int) (b : Int) (l : Int) (m : Int) (r : Int) (g : Int) (k2 : Int) (b2 : Int) (l2 : Int) (m2 : Int) (r2 : Int) (g2 : Int) (hp : p_wMade k b l m r g k2 b2 l2 m2 r2 g2) : FnC Tryd.prog glN 132 (a_wMade k b l m r g k2 b2 l2 m2 r2 g2) (m_wMade k b l m r g k2 b2 l2 m2 r2 g2) (r_wMade k b l m r g k2 b2 l2 m2 r2 g2) (n_wMade k b l m r g k2 b2 l2 m2 r2 g2) := by
  refine fn_of (sound_cons ok_wordCheck sound_nil) false Tryd.func132 [] (q_wMade k b l m r g k2 b2 l2 m2 r2 g2) ?_
  unfold V_wMade
  unfold p_wMade at hp
  simp only [true_and, and_true, and_self, implies_true, eq_self, Int.toNat_natCast, Nat.zero_add, Int.natCast_nonneg, Nat.not_lt_zero, false_implies, Nat.zero_le, Int.natCast_zero, Bool.cond_self, Bool.cond_true_left, Bool.cond_false_right, Bool.cond_true_right, Bool.cond_false_left]
  have hm : madeB ⟨k, b, l, m, r, g, 0⟩ ⟨k2, b2, l2, m2, r2, g2, 0⟩ = (keyNo k2 b2 l2 m2 r2 g2 == 0 && bif k2 == 1 then k != 1 && decide (b2 ≤ b) && decide (b - b2 < m2) else k == k2 && b == b2 && (g2 == 0 || g2 == g) && (((bitw 6 r2.toNat r.toNat : Nat) : Int) == r)) := rfl
  rw [hm]
  refine ⟨fun h => by rw [notT (b := keyNo k2 b2 l2 m2 r2 g2 == 0) h]; rfl, fun h => ?_⟩
  have h0 := notF (b := keyNo k2 b2 l2 m2 r2 g2 == 0) h
  rw [h0]
  have hr := keyNo_range hp
  have hr2 := keyNo_range (eq_of_beq h0)
  refine ⟨fun h1 => ⟨fun _ => by rw [IntKind.wrap_i64]; omega, ?_⟩, fun h1 => ?_⟩
  · rw [h1, show decide (b < b2 + m2) = decide (b - b2 < m2) from decide_eq_decide.2 (by omega)]; rfl
  · rw [h1, rights_subW (by omega) (by omega) (by omega) (by omega), show (g == g2) = (g2 == g) from Bool.beq_comm]
    cases k == k2 <;> cases b == b2 <;> cases g2 == 0 <;> cases g2 == g <;> simp
theorem ok_wMade : FnOK Tryd.prog glN 132 c_wMade := fnOK_of (fun l w => Tryd.call132 l w) fun x_ hp => pf_wMade x_.k x_.b x_.l x_.m x_.r x_.g x_.k2 x_.b2 x_.l2 x_.m2 x_.r2 x_.g2 hp
structure X_wCount where
  n : Nat
  ln : Nat → Nat
  l : Nat → Nat → Int
  x : Int
def a_wCount (n : Nat) (ln : Nat → Nat) (l : Nat → Nat → Int) (x : Int) : List SV := [.sl true 1 n (fun i _ => .sl true 1 (ln i) (iF (l i))), .v (.int .i64 x)]
def m_wCount (n : Nat) (ln : Nat → Nat) (l : Nat → Nat → Int) (x : Int) : List Blk := []
def r_wCount (n : Nat) (ln : Nat → Nat) (l : Nat → Nat → Int) (x : Int) : SV := .v (.int .i64 (cntLL n ln l x : Nat))
def n_wCount (n : Nat) (ln : Nat → Nat) (l : Nat → Nat → Int) (x : Int) : List Blk := []
def p_wCount (n : Nat) (ln : Nat → Nat) (l : Nat → Nat → Int) (x : Int) : Prop := n ≤ 1000 ∧ ∀ i, i < n → ln i ≤ 1000
def s_wCount : Sy.Spec where
  X := X_wCount
  args x_ := a_wCount x_.n x_.ln x_.l x_.x
  mem x_ := m_wCount x_.n x_.ln x_.l x_.x
  pre x_ := p_wCount x_.n x_.ln x_.l x_.x
  res x_ := r_wCount x_.n x_.ln x_.l x_.x
  mem' x_ := n_wCount x_.n x_.ln x_.l x_.x
  dec args mem := match args with | [a0, a1] => some ⟨slN a0, fun i => slN (slF a0 i 0), fun i k => intD (slF (slF a0 i 0) k 0), intD (a1)⟩ | _ => none
def c_wCount : Con := ⟨[], s_wCount.g, none⟩
def V_wCount (n : Nat) (ln : Nat → Nat) (l : Nat → Nat → Int) (x : Int) : Prop :=
  (↑n : Int) ≤ (9223372036854775807 : Int) → (0 : Int) = (↑(0 : Nat) : Int) ∧ (0 : Int) = (↑(cntLL (0 : Nat) ln l x) : Int) ∧ True ∧ (0 : Nat) ≤ n ∧ ∀ (s : Nat), s ≤ n → (decide ((↑s : Int) < (↑n : Int)) = true → ((0 : Int) ≤ (↑s : Int) ∧ (↑s : Int) < (↑n : Int)) ∧ ((↑(ln (Int.toNat (↑s : Int))) : Int) ≤ (9223372036854775807 : Int) → (0 : Int) = (↑(0 : Nat) : Int) ∧ (↑(cntLL s ln l x) : Int) = (↑(cntLL s ln l x) : Int) + (↑(cntB (0 : Nat) fun (q : Nat) => l (Int.toNat (↑s : Int)) q == x) : Int) ∧ True ∧ (0 : Nat) ≤ ln (Int.toNat (↑s : Int)) ∧ ∀ (s_1 : Nat), s_1 ≤ ln (Int.toNat (↑s : Int)) → (decide ((↑s_1 : Int) < (↑(ln (Int.toNat (↑s : Int))) : Int)) = true → ((0 : Int) ≤ (↑s_1 : Int) ∧ (↑s_1 : Int) < (↑(ln (Int.toNat (↑s : Int))) : Int)) ∧ ((l (Int.toNat (↑s : Int)) (Int.toNat (↑s_1 : Int)) == x) = true → IntKind.wrap IntKind.i64 ((↑(cntLL s ln l x) : Int) + (↑(cntB s_1 fun (q : Nat) => l (Int.toNat (↑s : Int)) q == x) : Int) + (1 : Int)) = (↑(cntLL s ln l x) : Int) + (↑(cntB s_1 fun (q : Nat) => l (Int.toNat (↑s : Int)) q == x) : Int) + (1 : Int) ∧ IntKind.wrap IntKind.i64 ((↑s_1 : Int) + (1 : Int)) = (↑s_1 : Int) + (1 : Int) ∧ ∃ (s' : Nat), (↑s_1 : Int) + (1 : Int) = (↑s' : Int) ∧ (↑(cntLL s ln l x) : Int) + (↑(cntB s_1 fun (q : Nat) => l (Int.toNat (↑s : Int)) q == x) : Int) + (1 : Int) = (↑(cntLL s ln l x) : Int) + (↑(cntB s' fun (q : Nat) => l (Int.toNat (↑s : Int)) q == x) : Int) ∧ True ∧ s' ≤ ln (Int.toNat (↑s : Int)) ∧ ln (Int.toNat (↑s : Int)) - s' < ln (Int.toNat
    (↑s : Int)) - s_1) ∧ ((l (Int.toNat (↑s : Int)) (Int.toNat (↑s_1 : Int)) == x) = false → IntKind.wrap IntKind.i64 ((↑s_1 : Int) + (1 : Int)) = (↑s_1 : Int) + (1 : Int) ∧ ∃ (s' : Nat), (↑s_1 : Int) + (1 : Int) = (↑s' : Int) ∧ (↑(cntLL s ln l x) : Int) + (↑(cntB s_1 fun (q : Nat) => l (Int.toNat (↑s : Int)) q == x) : Int) = (↑(cntLL s ln l x) : Int) + (↑(cntB s' fun (q : Nat) => l (Int.toNat (↑s : Int)) q == x) : Int) ∧ True ∧ s' ≤ ln (Int.toNat (↑s : Int)) ∧ ln (Int.toNat (↑s : Int)) - s' < ln (Int.toNat (↑s : Int)) - s_1)) ∧ (decide ((↑s_1 : Int) < (↑(ln (Int.toNat (↑s : Int))) : Int)) = false → IntKind.wrap IntKind.i64 ((↑s : Int) + (1 : Int)) = (↑s : Int) + (1 : Int) ∧ ∃ (s' : Nat), (↑s : Int) + (1 : Int) = (↑s' : Int) ∧ (↑(cntLL s ln l x) : Int) + (↑(cntB s_1 fun (q : Nat) => l (Int.toNat (↑s : Int)) q == x) : Int) = (↑(cntLL s' ln l x) : Int) ∧ True ∧ s' ≤ n ∧ n - s' < n - s))) ∧ (decide ((↑s : Int) < (↑n : Int)) = false → (↑(cntLL s ln l x) : Int) = (↑(cntLL n ln l x) : Int) ∧ True)
theorem q_wCount (n : Nat) (ln : Nat → Nat) (l : Nat → Nat → Int) (x : Int) : evBody Tryd.prog false glN (mkT []) Tryd.f137 (a_wCount n ln l x) (m_wCount n ln l x) [.inv (an_ct1 n ln l x), .invF false fun fr => an_ct2 ln l x (intD (fr 12)) (intD (fr 5))] (r_wCount n ln l x) (n_wCount n ln l x) = V_wCount n ln l x := by kernel_rfl
theorem pf_wCount (n : Nat) (ln : Nat → Nat) (l : Nat → Nat → Int) (x : Int) (hp : p_wCount n ln l x) : FnC Tryd.prog glN 137 (a_wCount n ln l x) (m_wCount n ln l x) (r_wCount n ln l x) (n_wCount n ln l x) := by
  refine fn_of sound_nil false Tryd.func137 [.inv (an_ct1 n ln l x), .invF false fun fr => an_ct2 ln l x (intD (fr 12)) (intD (fr 5))] (q_wCount n ln l x) ?_
  unfold V_wCount
  unfold p_wCount at hp
  simp only [true_and, and_true, and_self, implies_true, eq_self, Int.toNat_natCast, Nat.zero_add, Int.natCast_nonneg, Nat.not_lt_zero, false_implies, Nat.zero_le, Int.natCast_zero, Bool.cond_self, Bool.cond_true_left, Bool.cond_false_right, Bool.cond_true_right, Bool.cond_false_left]
  refine fun _ => ⟨rfl, fun s hs => ⟨fun h => ?_, fun h => ?_⟩⟩
  · have hlt := lt_of_dec h
    have hl := hp.2 s hlt
    have hc : cntLL s ln l x ≤ s * 1000 := sumN_le fun i hi => Nat.le_trans (cntB_le _ _) (hp.2 i (by omega))
    refine ⟨by omega, fun hm => ⟨by simp [cntB], fun k hk => ⟨fun h2 => ?_, fun h2 => ?_⟩⟩⟩
    · have hlt2 := lt_of_dec h2
      have hb := cntB_le (fun q => l s q == x) k
      refine ⟨by omega, fun h3 => ?_, fun h3 => ?_⟩
      · have e : (cntB (k + 1) fun q => l s q == x) = (cntB k fun q => l s q == x) + 1 := by simp [cntB, h3]
        exact ⟨by rw [IntKind.wrap_i64]; omega, by rw [IntKind.wrap_i64]; omega, exS ⟨by rw [e]; omega, by omega, by omega⟩⟩
      · have e : (cntB (k + 1) fun q => l s q == x) = (cntB k fun q => l s q == x) := by simp [cntB, h3]
        exact ⟨by rw [IntKind.wrap_i64]; omega, exS ⟨by rw [e], by omega, by omega⟩⟩
    · have hge := ge_of_dec h2
      obtain rfl : k = ln s := by omega
      refine ⟨by rw [IntKind.wrap_i64]; omega, exS ⟨?_, by omega, by omega⟩⟩
      rw [show cntLL (s + 1) ln l x = cntLL s ln l x + cntB (ln s) (fun q => l s q == x) from rfl]; omega
  · have hge := ge_of_dec h
    obtain rfl : s = n := by omega
    rfl
theorem ok_wCount : FnOK Tryd.prog glN 137 c_wCount := fnOK_of (fun l w => Tryd.call137 l w) fun x_ hp => pf_wCount x_.n x_.ln x_.l x_.x hp
structure X_indexI where
  n : Nat
  l : Nat → Int
  x : Int
def a_indexI (n : Nat) (l : Nat → Int) (x : Int) : List SV := [.sl true 1 n (fun i_ _ => .v (.int .i64 (l i_))), .v (.int .i64 x)]
def m_indexI (n : Nat) (l : Nat → Int) (x : Int) : List Blk := []
def r_indexI (n : Nat) (l : Nat → Int) (x : Int) : SV := .v (.int .i64 (idxB n fun k => x == l k))
def n_indexI (n : Nat) (l : Nat → Int) (x : Int) : List Blk := []
def p_indexI (n : Nat) (l : Nat → Int) (x : Int) : Prop := n ≤ 100000
def s_indexI : Sy.Spec where
  X := X_indexI
  args x_ := a_indexI x_.n x_.l x_.x
  mem x_ := m_indexI x_.n x_.l x_.x
  pre x_ := p_indexI x_.n x_.l x_.x
  res x_ := r_indexI x_.n x_.l x_.x
  mem' x_ := n_indexI x_.n x_.l x_.x
  dec args mem := match args with | [a0, a1] => some ⟨slN a0, fun i => intD (slF a0 i 0), intD (a1)⟩ | _ => none
def c_indexI : Con := ⟨[], s_indexI.g, none⟩
def V_indexI (n : Nat) (l : Nat → Int) (x : Int) : Prop :=
  (↑n : Int) ≤ (9223372036854775807 : Int) → (0 : Int) = (↑(0 : Nat) : Int) ∧ True ∧ ((0 : Nat) ≤ n ∧ ∀ (j : Nat), j < (0 : Nat) → (x == l j) = false) ∧ ∀ (s : Nat), (s ≤ n ∧ ∀ (j : Nat), j < s → (x == l j) = false) → (decide ((↑s : Int) < (↑n : Int)) = true → ((0 : Int) ≤ (↑s : Int) ∧ (↑s : Int) < (↑n : Int)) ∧ ((x == l (Int.toNat (↑s : Int))) = true → ((↑s : Int) = idxB n fun (k : Nat) => x == l k) ∧ True) ∧ ((x == l (Int.toNat (↑s : Int))) = false → IntKind.wrap IntKind.i64 ((↑s : Int) + (1 : Int)) = (↑s : Int) + (1 : Int) ∧ ∃ (s' : Nat), (↑s : Int) + (1 : Int) = (↑s' : Int) ∧ True ∧ (s' ≤ n ∧ ∀ (j : Nat), j < s' → (x == l j) = false) ∧ n - s' < n - s)) ∧ (decide ((↑s : Int) < (↑n : Int)) = false → ((-1 : Int) = idxB n fun (k : Nat) => x == l k) ∧ True)
theorem q_indexI (n : Nat) (l : Nat → Int) (x : Int) : evBody Tryd.prog false glN (mkT []) Tryd.f159 (a_indexI n l x) (m_indexI n l x) [.inv (an_ix n l x)] (r_indexI n l x) (n_indexI n l x) = V_indexI n l x := by kernel_rfl
theorem pf_indexI (n : Nat) (l : Nat → Int) (x : Int) (hp : p_indexI n l x) : FnC Tryd.prog glN 159 (a_indexI n l x) (m_indexI n l x) (r_indexI n l x) (n_indexI n l x) := by
  refine fn_of sound_nil false Tryd.func159 [.inv (an_ix n l x)] (q_indexI n l x) ?_
  unfold V_indexI
  unfold p_indexI at hp
  simp only [true_and, and_true, and_self, implies_true, eq_self, Int.toNat_natCast, Nat.zero_add, Int.natCast_nonneg, Nat.not_lt_zero, false_implies, Nat.zero_le, Int.natCast_zero, Bool.cond_self, Bool.cond_true_left, Bool.cond_false_right, Bool.cond_true_right, Bool.cond_false_left]
  refine fun hn s hs => ⟨fun h => ?_, fun h => ?_⟩
  · have hlt := lt_of_dec h
    exact ⟨by omega, fun h => (idxB_at (p := fun k => x == l k) hs.2 h hlt).symm, fun h => ⟨by rw [IntKind.wrap_i64]; omega, exS ⟨⟨by omega, snocF (p := fun k => x == l k) hs.2 h⟩, by omega⟩⟩⟩
  · have hge := ge_of_dec h
    obtain rfl : s = n := by omega
    exact (idxB_none (p := fun k => x == l k) hs.2).symm
theorem ok_indexI : FnOK Tryd.prog glN 159 c_indexI := fnOK_of (fun l w => Tryd.call159 l w) fun x_ hp => pf_indexI x_.n x_.l x_.x hp
structure X_containsI where
  n : Nat
  l : Nat → Int
  x : Int
def a_containsI (n : Nat) (l : Nat → Int) (x : Int) : List SV := [.sl true 1 n (fun i_ _ => .v (.int .i64 (l i_))), .v (.int .i64 x)]
def m_containsI (n : Nat) (l : Nat → Int) (x : Int) : List Blk := []
def r_containsI (n : Nat) (l : Nat → Int) (x : Int) : SV := .v (.bool (inB' n l x))
def n_containsI (n : Nat) (l : Nat → Int) (x : Int) : List Blk := []
def p_containsI (n : Nat) (l : Nat → Int) (x : Int) : Prop := n ≤ 100000
def s_containsI : Sy.Spec where
  X := X_containsI
  args x_ := a_containsI x_.n x_.l x_.x
  mem x_ := m_containsI x_.n x_.l x_.x
  pre x_ := p_containsI x_.n x_.l x_.x
  res x_ := r_containsI x_.n x_.l x_.x
  mem' x_ := n_containsI x_.n x_.l x_.x
  dec args mem := match args with | [a0, a1] => some ⟨slN a0, fun i => intD (slF a0 i 0), intD (a1)⟩ | _ => none
def c_containsI : Con := ⟨[], s_containsI.g, none⟩
def V_containsI (n : Nat) (l : Nat → Int) (x : Int) : Prop :=
  (((n = n ∧ ∀ (i : Nat), i < n → True ∧ l i = l i) ∧ x = x ∧ True) ∧ True ∧ n ≤ (100000 : Nat)) ∧ decide ((0 : Int) ≤ idxB n fun (k : Nat) => x == l k) = inB' n l x ∧ True
theorem q_containsI (n : Nat) (l : Nat → Int) (x : Int) : evBody Tryd.prog false glN (mkT [(159, c_indexI)]) Tryd.f138 (a_containsI n l x) (m_containsI n l x) [] (r_containsI n l x) (n_containsI n l x) = V_containsI n l x := by kernel_rfl
theorem pf_containsI (n : Nat) (l : Nat → Int) (x : Int) (hp : p_containsI n l x) : FnC Tryd.prog glN 138 (a_containsI n l x) (m_containsI n l x) (r_containsI n l x) (n_containsI n l x) := by
  refine fn_of (sound_cons ok_indexI sound_nil) false Tryd.func138 [] (q_containsI n l x) ?_
  unfold V_containsI
  unfold p_containsI at hp
  simp only [true_and, and_true, and_self, implies_true, eq_self, Int.toNat_natCast, Nat.zero_add, Int.natCast_nonneg, Nat.not_lt_zero, false_implies, Nat.zero_le, Int.natCast_zero, Bool.cond_self, Bool.cond_true_left, Bool.cond_false_right, Bool.cond_true_right, Bool.cond_false_left]
  refine ⟨hp, ?_⟩
  cases hq : inB' n l x with
  | false =>
    rw [idxB_none (p := fun k => x == l k) fun j hj => by have := anyB_false.1 hq j hj; rw [Bool.beq_comm]; exact this]; rfl
  | true =>
    obtain ⟨i, hi, h⟩ := anyB_iff.1 hq
    have := fstB_lt (p := fun k => x == l k) hi (by rw [Bool.beq_comm]; exact h)
    unfold idxB
    rw [blt_t this]
    exact decide_eq_true (Int.natCast_nonneg _)
theorem ok_containsI : FnOK Tryd.prog glN 138 c_containsI := fnOK_of (fun l w => Tryd.call138 l w) fun x_ hp => pf_containsI x_.n x_.l x_.x hp
structure X_wRuns where
  t : Int
  c : Int
  p : Int
  W : Wd
def a_wRuns (t : Int) (c : Int) (p : Int) (W : Wd) : List SV := [.v (.int .i64 t), .v (.int .i64 c), .v (.int .i64 p), .pt true 1 (fun _ => wPT W)]
def m_wRuns (t : Int) (c : Int) (p : Int) (W : Wd) : List Blk := []
def r_wRuns (t : Int) (c : Int) (p : Int) (W : Wd) : SV := .v (.bool (rdB W t c p))
def n_wRuns (t : Int) (c : Int) (p : Int) (W : Wd) : List Blk := []
def p_wRuns (t : Int) (c : Int) (p : Int) (W : Wd) : Prop := Szd W
def s_wRuns : Sy.Spec where
  X := X_wRuns
  args x_ := a_wRuns x_.t x_.c x_.p x_.W
  mem x_ := m_wRuns x_.t x_.c x_.p x_.W
  pre x_ := p_wRuns x_.t x_.c x_.p x_.W
  res x_ := r_wRuns x_.t x_.c x_.p x_.W
  mem' x_ := n_wRuns x_.t x_.c x_.p x_.W
  dec args mem := match args with | [a0, a1, a2, a3] => some ⟨intD (a0), intD (a1), intD (a2), wPTD (ptF a3 0)⟩ | _ => none
def c_wRuns : Con := ⟨[], s_wRuns.g, none⟩
def V_wRuns (t : Int) (c : Int) (p : Int) (W : Wd) : Prop :=
  ((bif decide ((0 : Int) ≤ t) then decide (t < (↑W.nKinds : Int)) else false) = true → (0 : Int) ≤ t ∧ t < (↑W.nKinds : Int)) ∧ ((bif bif decide ((0 : Int) ≤ t) then decide (t < (↑W.nKinds : Int)) else false then W.kinds (Int.toNat t) == (6 : Int) else false) = true → (0 : Int) ≤ t ∧ t < (↑W.nTasks : Int)) ∧ ((bif bif bif decide ((0 : Int) ≤ t) then decide (t < (↑W.nKinds : Int)) else false then W.kinds (Int.toNat t) == (6 : Int) else false then (W.tasks (Int.toNat t)).st == (1 : Int) else false) = true → (0 : Int) ≤ t ∧ t < (↑W.nTasks : Int)) ∧ (decide (p < (0 : Int)) = false → (bif bif bif bif decide ((0 : Int) ≤ t) then decide (t < (↑W.nKinds : Int)) else false then W.kinds (Int.toNat t) == (6 : Int) else false then (W.tasks (Int.toNat t)).st == (1 : Int) else false then (W.tasks (Int.toNat t)).core == c else false) = true → (0 : Int) ≤ t ∧ t < (↑W.nTasks : Int)) ∧ (bif bif bif bif bif decide ((0 : Int) ≤ t) then decide (t < (↑W.nKinds : Int)) else false then W.kinds (Int.toNat t) == (6 : Int) else false then (W.tasks (Int.toNat t)).st == (1 : Int) else false then (W.tasks (Int.toNat t)).core == c else false then bif decide (p < (0 : Int)) then true else (W.tasks (Int.toNat t)).prio == p else false) = rdB W t c p ∧ True
theorem q_wRuns (t : Int) (c : Int) (p : Int) (W : Wd) : evBody Tryd.prog false glN (mkT []) Tryd.f141 (a_wRuns t c p W) (m_wRuns t c p W) [] (r_wRuns t c p W) (n_wRuns t c p W) = V_wRuns t c p W := by kernel_rfl
theorem pf_wRuns (t : Int) (c : Int) (p : Int) (W : Wd) (hp : p_wRuns t c p W) : FnC Tryd.prog glN 141 (a_wRuns t c p W) (m_wRuns t c p W) (r_wRuns t c p W) (n_wRuns t c p W) := by
  refine fn_of sound_nil false Tryd.func141 [] (q_wRuns t c p W) ?_
  unfold V_wRuns
  unfold p_wRuns at hp
  simp only [true_and, and_true, and_self, implies_true, eq_self, Int.toNat_natCast, Nat.zero_add, Int.natCast_nonneg, Nat.not_lt_zero, false_implies, Nat.zero_le, Int.natCast_zero, Bool.cond_self, Bool.cond_true_left, Bool.cond_false_right, Bool.cond_true_right, Bool.cond_false_left]
  have hz := hp.tasks
  refine ⟨fun h => ?_, fun h => ?_, fun h => ?_, fun _ h => ?_, by rw [kof_int (k := 6) (by decide)]; rfl⟩
  all_goals simp only [Bool.and_eq_true, decide_eq_true_eq] at h
  all_goals omega
theorem ok_wRuns : FnOK Tryd.prog glN 141 c_wRuns := fnOK_of (fun l w => Tryd.call141 l w) fun x_ hp => pf_wRuns x_.t x_.c x_.p x_.W hp
structure X_words1 where
  i : Int
  x : Int
def a_words1 (i : Int) (x : Int) : List SV := [.v (.int .i64 i), .v (.int .i64 x)]
def m_words1 (i : Int) (x : Int) : List Blk := []
def r_words1 (i : Int) (x : Int) : SV := .v (.bool (farB x 65535))
def n_words1 (i : Int) (x : Int) : List Blk := []
def p_words1 (i : Int) (x : Int) : Prop := True
def s_words1 : Sy.Spec where
  X := X_words1
  args x_ := a_words1 x_.i x_.x
  mem x_ := m_words1 x_.i x_.x
  pre x_ := p_words1 x_.i x_.x
  res x_ := r_words1 x_.i x_.x
  mem' x_ := n_words1 x_.i x_.x
  dec args mem := match args with | [a0, a1] => some ⟨intD (a0), intD (a1)⟩ | _ => none
def c_words1 : Con := ⟨[], s_words1.g, none⟩
def V_words1 (i : Int) (x : Int) : Prop :=
  ((x = x ∧ (65535 : Int) = (65535 : Int) ∧ True) ∧ True ∧ True) ∧ farB x (65535 : Int) = farB x (65535 : Int) ∧ True
theorem q_words1 (i : Int) (x : Int) : evBody Tryd.prog false glN (mkT [(92, c_wOut)]) Tryd.f127 (a_words1 i x) (m_words1 i x) [] (r_words1 i x) (n_words1 i x) = V_words1 i x := by kernel_rfl
theorem pf_words1 (i : Int) (x : Int) (hp : p_words1 i x) : FnC Tryd.prog glN 127 (a_words1 i x) (m_words1 i x) (r_words1 i x) (n_words1 i x) := by
  refine fn_of (sound_cons ok_wOut sound_nil) false Tryd.func127 [] (q_words1 i x) ?_
  unfold V_words1
  simp only [true_and, and_true, and_self, implies_true, eq_self, Int.toNat_natCast, Nat.zero_add, Int.natCast_nonneg, Nat.not_lt_zero, false_implies, Nat.zero_le, Int.natCast_zero, Bool.cond_self, Bool.cond_true_left, Bool.cond_false_right, Bool.cond_true_right, Bool.cond_false_left]
theorem ok_words1 : FnOK Tryd.prog glN 127 c_words1 := fnOK_of (fun l w => Tryd.call127 l w) fun x_ hp => pf_words1 x_.i x_.x hp
structure X_words2 where
  i : Int
  x : Int
def a_words2 (i : Int) (x : Int) : List SV := [.v (.int .i64 i), .v (.int .i64 x)]
def m_words2 (i : Int) (x : Int) : List Blk := []
def r_words2 (i : Int) (x : Int) : SV := .v (.bool (farB x 8 || x == 1))
def n_words2 (i : Int) (x : Int) : List Blk := []
def p_words2 (i : Int) (x : Int) : Prop := True
def s_words2 : Sy.Spec where
  X := X_words2
  args x_ := a_words2 x_.i x_.x
  mem x_ := m_words2 x_.i x_.x
  pre x_ := p_words2 x_.i x_.x
  res x_ := r_words2 x_.i x_.x
  mem' x_ := n_words2 x_.i x_.x
  dec args mem := match args with | [a0, a1] => some ⟨intD (a0), intD (a1)⟩ | _ => none
def c_words2 : Con := ⟨[], s_words2.g, none⟩
def V_words2 (i : Int) (x : Int) : Prop :=
  ((x = x ∧ (8 : Int) = (8 : Int) ∧ True) ∧ True ∧ True) ∧ (bif farB x (8 : Int) then true else x == (1 : Int)) = (farB x (8 : Int) || x == (1 : Int)) ∧ True
theorem q_words2 (i : Int) (x : Int) : evBody Tryd.prog false glN (mkT [(92, c_wOut)]) Tryd.f128 (a_words2 i x) (m_words2 i x) [] (r_words2 i x) (n_words2 i x) = V_words2 i x := by kernel_rfl
theorem pf_words2 (i : Int) (x : Int) (hp : p_words2 i x) : FnC Tryd.prog glN 128 (a_words2 i x) (m_words2 i x) (r_words2 i x) (n_words2 i x) := by
  refine fn_of (sound_cons ok_wOut sound_nil) false Tryd.func128 [] (q_words2 i x) ?_
  unfold V_words2
  simp only [true_and, and_true, and_self, implies_true, eq_self, Int.toNat_natCast, Nat.zero_add, Int.natCast_nonneg, Nat.not_lt_zero, false_implies, Nat.zero_le, Int.natCast_zero, Bool.cond_self, Bool.cond_true_left, Bool.cond_false_right, Bool.cond_true_right, Bool.cond_false_left]
theorem ok_words2 : FnOK Tryd.prog glN 128 c_words2 := fnOK_of (fun l w => Tryd.call128 l w) fun x_ hp => pf_words2 x_.i x_.x hp
structure X_words3 where
  i : Int
  x : Int
def a_words3 (i : Int) (x : Int) : List SV := [.v (.int .i64 i), .v (.int .i64 x)]
def m_words3 (i : Int) (x : Int) : List Blk := []
def r_words3 (i : Int) (x : Int) : SV := .v (.bool (farB x 3))
def n_words3 (i : Int) (x : Int) : List Blk := []
def p_words3 (i : Int) (x : Int) : Prop := True
def s_words3 : Sy.Spec where
  X := X_words3
  args x_ := a_words3 x_.i x_.x
  mem x_ := m_words3 x_.i x_.x
  pre x_ := p_words3 x_.i x_.x
  res x_ := r_words3 x_.i x_.x
  mem' x_ := n_words3 x_.i x_.x
  dec args mem := match args with | [a0, a1] => some ⟨intD (a0), intD (a1)⟩ | _ => none
def c_words3 : Con := ⟨[], s_words3.g, none⟩
def V_words3 (i : Int) (x : Int) : Prop :=
  ((x = x ∧ (3 : Int) = (3 : Int) ∧ True) ∧ True ∧ True) ∧ farB x (3 : Int) = farB x (3 : Int) ∧ True
theorem q_words3 (i : Int) (x : Int) : evBody Tryd.prog false glN (mkT [(92, c_wOut)]) Tryd.f129 (a_words3 i x) (m_words3 i x) [] (r_words3 i x) (n_words3 i x) = V_words3 i x := by kernel_rfl
theorem pf_words3 (i : Int) (x : Int) (hp : p_words3 i x) : FnC Tryd.prog glN 129 (a_words3 i x) (m_words3 i x) (r_words3 i x) (n_words3 i x) := by
  refine fn_of (sound_cons ok_wOut sound_nil) false Tryd.func129 [] (q_words3 i x) ?_
  unfold V_words3
  simp only [true_and, and_true, and_self, implies_true, eq_self, Int.toNat_natCast, Nat.zero_add, Int.natCast_nonneg, Nat.not_lt_zero, false_implies, Nat.zero_le, Int.natCast_zero, Bool.cond_self, Bool.cond_true_left, Bool.cond_false_right, Bool.cond_true_right, Bool.cond_false_left]
theorem ok_words3 : FnOK Tryd.prog glN 129 c_words3 := fnOK_of (fun l w => Tryd.call129 l w) fun x_ hp => pf_words3 x_.i x_.x hp
end Go.Proofs.YtfmaeiilbhpepaaDoor
set_option linter.unusedVariables false
set_option linter.unusedSimpArgs false
set_option maxRecDepth 100000
namespace Go.Proofs.YtfmaeiilbhpepaaDoor
open Go.RowKit Go.Sy
def an_k1 (W : Wd) (i : Nat) : Ann where
  σ := Nat
  rt := []
  sh k := [(108, .v (.int .i64 k)), (7, .v (.int .i64 (upK W i k)))]
  mh _ := []
  inv k := k ≤ W.nSlots ∧ ∀ j, j ≤ k → inS W (upK W i j) = true
  μ k := W.nSlots - k
  init := 0
def an_m2 (W : Wd) (n : Nat) (l : Nat → Ent4) : Ann where
  σ := Nat
  rt := []
  sh i := [(15, .v (.int .i64 i))]
  mh _ := []
  inv i := i ≤ n ∧ ∀ j, j < i → tlT W l j = true
  μ i := n - i
  init := 0
def an_l1 (W : Wd) (f : Nat) : Ann where
  σ := Nat
  rt := []
  sh i := [(95, .v (.int .i64 i))]
  mh _ := []
  inv i := i ≤ W.linesN f ∧ ∀ j, j < i → lnTest W f (W.lines f j) = true
  μ i := W.linesN f - i
  init := 0
def an_rf (W : Wd) (n : Nat) (l : Nat → Int) (i : Int) : Ann where
  σ := Nat
  rt := []
  sh k := [(8, .v (.int .i64 k))]
  mh _ := []
  inv k := k ≤ n ∧ ∀ j, j < k → (!rdB W (l j) (i / 4) (i % 4)) = false
  μ k := n - k
  init := 0
theorem eqN {b : Bool} (h : b = true → False) : true = !b := by cases b <;> simp_all
theorem kofN {W : Wd} {f k : Int} (hk : k ≠ -1) : (decide (f < 0) || decide ((W.nKinds : Int) ≤ f) || W.kinds f.toNat != k) = !(kof W f == k) := by
  rw [← kof_int hk, show decide (f < 0) = !decide (0 ≤ f) by rw [← decide_not]; exact decide_eq_decide.2 (by omega), show decide ((W.nKinds : Int) ≤ f) = !decide (f < (W.nKinds : Int)) by rw [← decide_not]; exact decide_eq_decide.2 (by omega)]
  simp only [bne, Bool.not_and]
theorem kofN0 {W : Wd} {f k : Int} (hf : 0 ≤ f) (hk : k ≠ -1) : (decide ((W.nKinds : Int) ≤ f) || W.kinds f.toNat != k) = !(kof W f == k) := by
  rw [← kofN hk, show decide (f < 0) = false from decide_eq_false (by omega)]; rfl
theorem key_zero {s : Slt} (h : (s.kind == 0) = true) : (s.kind == 0 && (s.base == 0 && (s.len == 0 && (s.mark == 0 && (s.rights == 0 && (s.badge == 0 && true)))))) = (slNo s == 0) := by
  unfold slNo keyNo
  rw [eq_of_beq h]
  simp only [bne]
  cases s.base == 0 <;> cases s.len == 0 <;> cases s.mark == 0 <;> cases s.rights == 0 <;> cases s.badge == 0 <;> rfl
theorem upK_succ {W : Wd} {u : Int} : ∀ k, upK W (upS W u) k = upK W u (k + 1)
  | 0 => rfl
  | k + 1 => by show upS W (upK W (upS W u) k) = _; rw [upK_succ k]; rfl
def sN (W : Wd) (u : Int) (k : Nat) : Nat := bif inS W (upK W u k) then (upK W u k).toNat else W.nSlots
theorem up_stay {W : Wd} {u : Int} (h : ∀ j, j ≤ W.nSlots → inS W (upK W u j) = true) : ∀ j, inS W (upK W u j) = true := by
  have key : ∀ k, sN W u k < W.nSlots ↔ inS W (upK W u k) = true := fun k => by
    unfold sN
    cases hq : inS W (upK W u k) with
    | true => have := inS_iff.1 hq; simp only [cond_true, iff_true]; omega
    | false => simp
  have := stays_in W.nSlots (fun v => bif inS W (upS W (v : Int)) then (upS W (v : Int)).toNat else W.nSlots) (sN W u) (fun k hk => by
    have hin := (key k).1 hk
    have h2 := inS_iff.1 hin
    have e : ((sN W u k : Nat) : Int) = upK W u k := by unfold sN; rw [hin]; simp only [cond_true]; omega
    show sN W u (k + 1) = bif inS W (upS W ((sN W u k : Nat) : Int)) then (upS W ((sN W u k : Nat) : Int)).toNat else W.nSlots
    rw [e]; rfl) (fun k hk => (key k).2 (h k hk))
  exact fun j => (key j).1 (this j)
theorem slB_len {S : Slt} (h0 : slNo S = 0) (hk : S.kind ≠ 0) : 1 ≤ S.len := by
  have h0 : keyNo S.kind S.base S.len S.mark S.rights S.badge = 0 := h0
  unfold keyNo keyBad1 keyBad2 farB at h0
  simp only [cond_eq_ite, bne, Bool.or_eq_true, Bool.and_eq_true, Bool.not_eq_true', decide_eq_true_eq, beq_iff_eq, beq_eq_false_iff_ne] at h0
  repeat' split at h0
  all_goals first | (cases h0; done) | omega
structure X_keys1 where
  i : Int
  W : Wd
def a_keys1 (i : Int) (W : Wd) : List SV := [.v (.int .i64 i), .ag 7 (lsv (slL (W.slots i.toNat))), .pt true 1 (fun _ => wPT W)]
def m_keys1 (i : Int) (W : Wd) : List Blk := []
def r_keys1 (i : Int) (W : Wd) : SV := .v (.bool (!slB W i.toNat))
def n_keys1 (i : Int) (W : Wd) : List Blk := []
def p_keys1 (i : Int) (W : Wd) : Prop := Szd W ∧ 0 ≤ i ∧ i < W.nSlots
def s_keys1 : Sy.Spec where
  X := X_keys1
  args x_ := a_keys1 x_.i x_.W
  mem x_ := m_keys1 x_.i x_.W
  pre x_ := p_keys1 x_.i x_.W
  res x_ := r_keys1 x_.i x_.W
  mem' x_ := n_keys1 x_.i x_.W
  dec args mem := match args with | [a0, a1, a2] => some ⟨intD (a0), wPTD (ptF a2 0)⟩ | _ => none
def c_keys1 : Con := ⟨[], s_keys1.g, none⟩
def K_keys1_0 (i : Int) (W : Wd) : Prop :=
  ((((((True ∧ (W.slots (Int.toNat i)).kind = (W.slots (Int.toNat i)).kind) ∧ (W.slots (Int.toNat i)).base = (W.slots (Int.toNat i)).base) ∧ (W.slots (Int.toNat i)).len = (W.slots (Int.toNat i)).len) ∧ (W.slots (Int.toNat i)).mark = (W.slots (Int.toNat i)).mark) ∧ (W.slots (Int.toNat i)).rights = (W.slots (Int.toNat i)).rights) ∧ (W.slots (Int.toNat i)).badge = (W.slots (Int.toNat i)).badge)
def V_keys1 (i : Int) (W : Wd) : Prop :=
  True ∧ True ∧ (True ∧ True ∧ True ∧ True ∧ True ∧ True) ∧ (((W.slots (Int.toNat i)).kind == (0 : Int)) = true → (bif !((W.slots (Int.toNat i)).kind == (0 : Int) && ((W.slots (Int.toNat i)).base == (0 : Int) && ((W.slots (Int.toNat i)).len == (0 : Int) && ((W.slots (Int.toNat i)).mark == (0 : Int) && ((W.slots (Int.toNat i)).rights == (0 : Int) && ((W.slots (Int.toNat i)).badge == (0 : Int) && true)))))) then true else (W.slots (Int.toNat i)).from_ != (-1 : Int)) = !slB W (Int.toNat i) ∧ True) ∧ (((W.slots (Int.toNat i)).kind == (0 : Int)) = false → True ∧ True ∧ True ∧ True ∧ True ∧ True ∧ ((0 : Int) ≤ i ∧ (0 : Int) < (16 : Int) ∧ IntKind.wrap IntKind.i64 (i / (16 : Int)) = i / (16 : Int)) ∧ ((0 : Int) ≤ i / (16 : Int) ∧ i / (16 : Int) < (↑W.nKinds : Int)) ∧ True ∧ True ∧ True ∧ True ∧ ((W.kinds (Int.toNat (i / (16 : Int))) != (5 : Int)) = false → ((K_keys1_0 i W) ∧ True) ∧ True ∧ True) ∧ True ∧ True ∧ True ∧ True ∧ True ∧ True ∧ True ∧ ((bif W.kinds (Int.toNat (i / (16 : Int))) != (5 : Int) then true else keyNo (W.slots (Int.toNat i)).kind (W.slots (Int.toNat i)).base (W.slots (Int.toNat i)).len (W.slots (Int.toNat i)).mark (W.slots (Int.toNat i)).rights (W.slots (Int.toNat i)).badge != (0 : Int)) = false → IntKind.wrap IntKind.i64 ((W.slots (Int.toNat i)).base + (W.slots (Int.toNat i)).len) = (W.slots (Int.toNat i)).base + (W.slots (Int.toNat i)).len) ∧ True ∧ True ∧ True ∧ True ∧ True ∧ True ∧ True ∧ True ∧ True ∧ True ∧ True ∧ True ∧ True ∧ True ∧ True ∧ True ∧ True ∧
    True ∧ True ∧ True ∧ (((W.slots (Int.toNat i)).kind != (1 : Int)) = true → (bif bif W.kinds (Int.toNat (i / (16 : Int))) != (5 : Int) then true else keyNo (W.slots (Int.toNat i)).kind (W.slots (Int.toNat i)).base (W.slots (Int.toNat i)).len (W.slots (Int.toNat i)).mark (W.slots (Int.toNat i)).rights (W.slots (Int.toNat i)).badge != (0 : Int) then true else decide ((↑W.nKinds : Int) < (W.slots (Int.toNat i)).base + (W.slots (Int.toNat i)).len)) = false → (0 : Int) ≤ (W.slots (Int.toNat i)).base ∧ (W.slots (Int.toNat i)).base < (↑W.nKinds : Int)) ∧ True ∧ True ∧ True ∧ ((bif bif bif W.kinds (Int.toNat (i / (16 : Int))) != (5 : Int) then true else keyNo (W.slots (Int.toNat i)).kind (W.slots (Int.toNat i)).base (W.slots (Int.toNat i)).len (W.slots (Int.toNat i)).mark (W.slots (Int.toNat i)).rights (W.slots (Int.toNat i)).badge != (0 : Int) then true else decide ((↑W.nKinds : Int) < (W.slots (Int.toNat i)).base + (W.slots (Int.toNat i)).len) then true else bif (W.slots (Int.toNat i)).kind != (1 : Int) then W.kinds (Int.toNat (W.slots (Int.toNat i)).base) != (W.slots (Int.toNat i)).kind else false) = true → true = !slB W (Int.toNat i) ∧ True) ∧ ((bif bif bif W.kinds (Int.toNat (i / (16 : Int))) != (5 : Int) then true else keyNo (W.slots (Int.toNat i)).kind (W.slots (Int.toNat i)).base (W.slots (Int.toNat i)).len (W.slots (Int.toNat i)).mark (W.slots (Int.toNat i)).rights (W.slots (Int.toNat i)).badge != (0 : Int) then true else decide ((↑W.nKinds : Int) < (W.slots (Int.toNat
    i)).base + (W.slots (Int.toNat i)).len) then true else bif (W.slots (Int.toNat i)).kind != (1 : Int) then W.kinds (Int.toNat (W.slots (Int.toNat i)).base) != (W.slots (Int.toNat i)).kind else false) = false → (((W.slots (Int.toNat i)).from_ == (-1 : Int)) = true → false = !slB W (Int.toNat i) ∧ True) ∧ (((W.slots (Int.toNat i)).from_ == (-1 : Int)) = false → True ∧ True ∧ True ∧ True ∧ True ∧ True ∧ True ∧ True ∧ True ∧ True ∧ True ∧ True ∧ True ∧ True ∧ True ∧ True ∧ True ∧ True ∧ True ∧ True ∧ True ∧ True ∧ True ∧ ((bif decide ((W.slots (Int.toNat i)).from_ < (0 : Int)) then true else decide ((↑W.nSlots : Int) ≤ (W.slots (Int.toNat i)).from_)) = false → (0 : Int) ≤ (W.slots (Int.toNat i)).from_ ∧ (W.slots (Int.toNat i)).from_ < (↑W.nSlots : Int)) ∧ True ∧ True ∧ ((bif decide ((W.slots (Int.toNat i)).from_ < (0 : Int)) then true else decide ((↑W.nSlots : Int) ≤ (W.slots (Int.toNat i)).from_)) = false → ((K_keys1_0 i W) ∧ ((((((True ∧ (W.slots (Int.toNat (W.slots (Int.toNat i)).from_)).kind = (W.slots (Int.toNat (W.slots (Int.toNat i)).from_)).kind) ∧ (W.slots (Int.toNat (W.slots (Int.toNat i)).from_)).base = (W.slots (Int.toNat (W.slots (Int.toNat i)).from_)).base) ∧ (W.slots (Int.toNat (W.slots (Int.toNat i)).from_)).len = (W.slots (Int.toNat (W.slots (Int.toNat i)).from_)).len) ∧ (W.slots (Int.toNat (W.slots (Int.toNat i)).from_)).mark = (W.slots (Int.toNat (W.slots (Int.toNat i)).from_)).mark) ∧ (W.slots (Int.toNat (W.slots (Int.toNat i)).from_)).rights = (W.slots
    (Int.toNat (W.slots (Int.toNat i)).from_)).rights) ∧ (W.slots (Int.toNat (W.slots (Int.toNat i)).from_)).badge = (W.slots (Int.toNat (W.slots (Int.toNat i)).from_)).badge) ∧ True) ∧ True ∧ keyNo (W.slots (Int.toNat i)).kind (W.slots (Int.toNat i)).base (W.slots (Int.toNat i)).len (W.slots (Int.toNat i)).mark (W.slots (Int.toNat i)).rights (W.slots (Int.toNat i)).badge = (0 : Int)) ∧ ((bif bif decide ((W.slots (Int.toNat i)).from_ < (0 : Int)) then true else decide ((↑W.nSlots : Int) ≤ (W.slots (Int.toNat i)).from_) then true else !madeB (Slt.mk (W.slots (Int.toNat i)).kind (W.slots (Int.toNat i)).base (W.slots (Int.toNat i)).len (W.slots (Int.toNat i)).mark (W.slots (Int.toNat i)).rights (W.slots (Int.toNat i)).badge (0 : Int)) (Slt.mk (W.slots (Int.toNat (W.slots (Int.toNat i)).from_)).kind (W.slots (Int.toNat (W.slots (Int.toNat i)).from_)).base (W.slots (Int.toNat (W.slots (Int.toNat i)).from_)).len (W.slots (Int.toNat (W.slots (Int.toNat i)).from_)).mark (W.slots (Int.toNat (W.slots (Int.toNat i)).from_)).rights (W.slots (Int.toNat (W.slots (Int.toNat i)).from_)).badge (0 : Int))) = true → true = !slB W (Int.toNat i) ∧ True) ∧ ((bif bif decide ((W.slots (Int.toNat i)).from_ < (0 : Int)) then true else decide ((↑W.nSlots : Int) ≤ (W.slots (Int.toNat i)).from_) then true else !madeB (Slt.mk (W.slots (Int.toNat i)).kind (W.slots (Int.toNat i)).base (W.slots (Int.toNat i)).len (W.slots (Int.toNat i)).mark (W.slots (Int.toNat i)).rights (W.slots (Int.toNat i)).badge (0 :
    Int)) (Slt.mk (W.slots (Int.toNat (W.slots (Int.toNat i)).from_)).kind (W.slots (Int.toNat (W.slots (Int.toNat i)).from_)).base (W.slots (Int.toNat (W.slots (Int.toNat i)).from_)).len (W.slots (Int.toNat (W.slots (Int.toNat i)).from_)).mark (W.slots (Int.toNat (W.slots (Int.toNat i)).from_)).rights (W.slots (Int.toNat (W.slots (Int.toNat i)).from_)).badge (0 : Int))) = false → (↑W.nSlots : Int) ≤ (9223372036854775807 : Int) → (0 : Int) = (↑(0 : Nat) : Int) ∧ i = upK W (↑(Int.toNat i) : Int) (0 : Nat) ∧ True ∧ ((0 : Nat) ≤ W.nSlots ∧ ∀ (j : Nat), j ≤ (0 : Nat) → inS W (upK W (↑(Int.toNat i) : Int) j) = true) ∧ ∀ (s : Nat), (s ≤ W.nSlots ∧ ∀ (j : Nat), j ≤ s → inS W (upK W (↑(Int.toNat i) : Int) j) = true) → (decide ((↑s : Int) < (↑W.nSlots : Int)) = true → ((0 : Int) ≤ upK W (↑(Int.toNat i) : Int) s ∧ upK W (↑(Int.toNat i) : Int) s < (↑W.nSlots : Int)) ∧ ((bif decide ((W.slots (Int.toNat (upK W (↑(Int.toNat i) : Int) s))).from_ < (0 : Int)) then true else decide ((↑W.nSlots : Int) ≤ (W.slots (Int.toNat (upK W (↑(Int.toNat i) : Int) s))).from_)) = true → false = !slB W (Int.toNat i) ∧ True) ∧ ((bif decide ((W.slots (Int.toNat (upK W (↑(Int.toNat i) : Int) s))).from_ < (0 : Int)) then true else decide ((↑W.nSlots : Int) ≤ (W.slots (Int.toNat (upK W (↑(Int.toNat i) : Int) s))).from_)) = false → IntKind.wrap IntKind.i64 ((↑s : Int) + (1 : Int)) = (↑s : Int) + (1 : Int) ∧ ∃ (s' : Nat), (↑s : Int) + (1 : Int) = (↑s' : Int) ∧ (W.slots (Int.toNat (upK W (↑(Int.toNat i) : Int)
    s))).from_ = upK W (↑(Int.toNat i) : Int) s' ∧ True ∧ (s' ≤ W.nSlots ∧ ∀ (j : Nat), j ≤ s' → inS W (upK W (↑(Int.toNat i) : Int) j) = true) ∧ W.nSlots - s' < W.nSlots - s)) ∧ (decide ((↑s : Int) < (↑W.nSlots : Int)) = false → true = !slB W (Int.toNat i) ∧ True)))))
theorem q_keys1 (i : Int) (W : Wd) : evBody Tryd.prog false glN (mkT [(26, c_wordCheck), (132, c_wMade)]) Tryd.f131 (a_keys1 i W) (m_keys1 i W) [.inv (an_k1 W i.toNat)] (r_keys1 i W) (n_keys1 i W) = V_keys1 i W := by kernel_rfl
theorem pf_keys1 (i : Int) (W : Wd) (hp : p_keys1 i W) : FnC Tryd.prog glN 131 (a_keys1 i W) (m_keys1 i W) (r_keys1 i W) (n_keys1 i W) := by
  refine fn_of (sound_cons ok_wordCheck (sound_cons ok_wMade sound_nil)) false Tryd.func131 [.inv (an_k1 W i.toNat)] (q_keys1 i W) ?_
  unfold V_keys1
  unfold p_keys1 at hp
  obtain ⟨hz, i0, i1⟩ := hp
  obtain ⟨I, rfl⟩ : ∃ I : Nat, i = I := ⟨i.toNat, by omega⟩
  simp only [K_keys1_0, true_and, and_true, and_self, implies_true, eq_self, Int.toNat_natCast, Nat.zero_add, Int.natCast_nonneg, Nat.not_lt_zero, false_implies, Nat.zero_le, Int.natCast_zero, Bool.cond_self, Bool.cond_true_left, Bool.cond_false_right, Bool.cond_true_right, Bool.cond_false_left]
  have e16 : ((I : Int) / 16).toNat = I / 16 := by omega
  rw [e16, show slB W I = slBs W I (W.slots I) from rfl]
  simp only [keyNo_slNo]
  have hz1 := hz.slots
  have hz2 := hz.k1
  have hz3 := hz.k0
  have hI : inS W (I : Int) = true := inS_iff.2 ⟨by omega, by omega⟩
  have hup : upS W (I : Int) = (W.slots I).from_ := by rw [upS_in hI, Int.toNat_natCast]
  obtain ⟨S, hS⟩ : ∃ S, S = W.slots I := ⟨_, rfl⟩
  simp only [← hS] at hup ⊢
  refine ⟨fun h => ?_, fun h => ⟨⟨by decide, by rw [IntKind.wrap_i64]; omega⟩, by omega, fun h1 => ?_, fun h1 h2 => ?_, fun h1 => ?_, fun h1 => ?_⟩⟩
  · rw [key_zero h]; unfold slBs; rw [h]
    cases slNo S == 0 <;> cases hq : S.from_ == -1 <;> simp [bne, hq]
  · simp only [Bool.or_eq_false_iff, bne_eq_false_iff_eq] at h1
    have := slNo_range h1.2
    rw [IntKind.wrap_i64]; omega
  · simp only [Bool.or_eq_false_iff, bne_eq_false_iff_eq, decide_eq_false_iff_not] at h2
    have := slNo_range h2.1.2
    have hlen := slB_len h2.1.2 (by simpa using h)
    omega
  · refine eqN fun ht => ?_
    rw [slBs_pos h] at ht
    simp only [Bool.and_eq_true, Bool.or_eq_true, beq_iff_eq, decide_eq_true_eq, bne_iff_ne, ne_eq] at ht h1
    omega
  rw [Bool.or_eq_false_iff] at h1
  obtain ⟨h1, h2⟩ := h1
  have T : W.kinds (I / 16) = 5 ∧ slNo S = 0 ∧ S.base + S.len ≤ W.nKinds := by
    simp only [Bool.or_eq_false_iff, bne_eq_false_iff_eq, decide_eq_false_iff_not] at h1
    exact ⟨h1.1.1, h1.1.2, by omega⟩
  obtain ⟨T1, T2, T3⟩ := T
  have T4 : (S.kind == 1 || W.kinds S.base.toNat == S.kind) = true := by
    revert h2
    simp only [bne]
    cases S.kind == 1 <;> cases W.kinds S.base.toNat == S.kind <;> simp
  have core : slBs W I S = (S.from_ == -1 || (inS W S.from_ && madeB S (W.slots S.from_.toNat) && !inS W (upK W S.from_ W.nSlots))) := by
    rw [slBs_pos h, T4, show (W.kinds (I / 16) == 5) = true from beq_iff_eq.2 T1, show (slNo S == 0) = true from beq_iff_eq.2 T2, show decide (S.base + S.len ≤ W.nKinds) = true from decide_eq_true T3]
    simp
  rw [core]
  refine ⟨fun h3 => by rw [h3]; rfl, fun h3 => ?_⟩
  rw [h3, notIn]
  obtain ⟨p, hp⟩ : ∃ p, p = W.slots S.from_.toNat := ⟨_, rfl⟩
  simp only [← hp]
  rw [show madeB ⟨S.kind, S.base, S.len, S.mark, S.rights, S.badge, 0⟩ ⟨p.kind, p.base, p.len, p.mark, p.rights, p.badge, 0⟩ = madeB S p from rfl]
  refine ⟨fun h4 => ?_, fun _ => T2, fun h4 => ?_, fun h4 _ => ?_⟩
  · exact inS_iff.1 (notF h4)
  · revert h4; cases inS W S.from_ <;> cases madeB S p <;> simp
  have hin : inS W S.from_ = true := by revert h4; cases inS W S.from_ <;> simp
  have hmd : madeB S p = true := by revert h4; cases madeB S p <;> simp
  rw [hin, hmd]
  have e1 : ∀ k, upK W S.from_ k = upK W (I : Int) (k + 1) := fun k => by rw [← hup]; exact upK_succ k
  rw [e1]
  refine ⟨rfl, fun j hj => ?_, fun s hs => ⟨fun h5 => ?_, fun h5 => ?_⟩⟩
  · obtain rfl : j = 0 := by omega
    exact hI
  · have hlt := lt_of_dec h5
    have hi := hs.2 s (Nat.le_refl _)
    have hst : (W.slots (upK W (I : Int) s).toNat).from_ = upK W (I : Int) (s + 1) := (upS_in hi).symm
    simp only [hst, notIn]
    refine ⟨inS_iff.1 hi, fun h6 => ?_, fun h6 => ⟨by rw [IntKind.wrap_i64]; omega, exS ⟨rfl, ⟨by omega, fun j hj => ?_⟩, by omega⟩⟩⟩
    · have h7 := notT h6
      rw [upK_out h7 (show s + 1 ≤ W.nSlots + 1 by omega), h7]; rfl
    · rcases Nat.lt_or_ge j (s + 1) with h8 | h8
      · exact hs.2 j (by omega)
      · obtain rfl : j = s + 1 := by omega
        exact notF h6
  · have hge := ge_of_dec h5
    rw [up_stay (u := (I : Int)) (fun j hj => hs.2 j (by omega)) (W.nSlots + 1)]; rfl
theorem ok_keys1 : FnOK Tryd.prog glN 131 c_keys1 := fnOK_of (fun l w => Tryd.call131 l w) fun x_ hp => pf_keys1 x_.i x_.W hp
structure X_lines1 where
  i : Int
  W : Wd
def a_lines1 (i : Int) (W : Wd) : List SV := [.v (.int .i64 i), .sl true 1 (W.linesN i.toNat) (iF (W.lines i.toNat)), .pt true 1 (fun _ => wPT W)]
def m_lines1 (i : Int) (W : Wd) : List Blk := []
def r_lines1 (i : Int) (W : Wd) : SV := .v (.bool (!lnB W i.toNat))
def n_lines1 (i : Int) (W : Wd) : List Blk := []
def p_lines1 (i : Int) (W : Wd) : Prop := Szd W ∧ smB W ∧ 0 ≤ i ∧ i < W.nKinds
def s_lines1 : Sy.Spec where
  X := X_lines1
  args x_ := a_lines1 x_.i x_.W
  mem x_ := m_lines1 x_.i x_.W
  pre x_ := p_lines1 x_.i x_.W
  res x_ := r_lines1 x_.i x_.W
  mem' x_ := n_lines1 x_.i x_.W
  dec args mem := match args with | [a0, a1, a2] => some ⟨intD (a0), wPTD (ptF a2 0)⟩ | _ => none
def c_lines1 : Con := ⟨[], s_lines1.g, none⟩
def V_lines1 (i : Int) (W : Wd) : Prop :=
  ((0 : Int) ≤ i ∧ i < (↑W.nKinds : Int)) ∧ ((W.kinds (Int.toNat i) != (7 : Int)) = true → (0 : Int) ≤ i ∧ i < (↑W.nKinds : Int)) ∧ ((bif bif W.kinds (Int.toNat i) != (7 : Int) then W.kinds (Int.toNat i) != (8 : Int) else false then decide ((0 : Int) < (↑(W.linesN (Int.toNat i)) : Int)) else false) = false → (0 : Int) ≤ i ∧ i < (↑W.nKinds : Int)) ∧ ((W.kinds (Int.toNat i) != (8 : Int)) = true → (bif bif W.kinds (Int.toNat i) != (7 : Int) then W.kinds (Int.toNat i) != (8 : Int) else false then decide ((0 : Int) < (↑(W.linesN (Int.toNat i)) : Int)) else false) = false → (0 : Int) ≤ i ∧ i < (↑W.nBits : Int)) ∧ ((bif bif bif W.kinds (Int.toNat i) != (7 : Int) then W.kinds (Int.toNat i) != (8 : Int) else false then decide ((0 : Int) < (↑(W.linesN (Int.toNat i)) : Int)) else false then true else bif W.kinds (Int.toNat i) != (8 : Int) then W.bits (Int.toNat i) != (0 : Int) else false) = false → (0 : Int) ≤ i ∧ i < (↑W.nBits : Int)) ∧ ((bif bif bif W.kinds (Int.toNat i) != (7 : Int) then W.kinds (Int.toNat i) != (8 : Int) else false then decide ((0 : Int) < (↑(W.linesN (Int.toNat i)) : Int)) else false then true else bif W.kinds (Int.toNat i) != (8 : Int) then W.bits (Int.toNat i) != (0 : Int) else false) = false → (W.bits (Int.toNat i) = W.bits (Int.toNat i) ∧ (65535 : Int) = (65535 : Int) ∧ True) ∧ True ∧ True) ∧ ((bif bif bif bif W.kinds (Int.toNat i) != (7 : Int) then W.kinds (Int.toNat i) != (8 : Int) else false then decide ((0 : Int) < (↑(W.linesN (Int.toNat i)) : Int)) else
    false then true else bif W.kinds (Int.toNat i) != (8 : Int) then W.bits (Int.toNat i) != (0 : Int) else false then true else farB (W.bits (Int.toNat i)) (65535 : Int)) = false → (0 : Int) ≤ i ∧ i < (↑W.nKinds : Int)) ∧ ((bif W.kinds (Int.toNat i) == (8 : Int) then decide ((0 : Int) < (↑(W.linesN (Int.toNat i)) : Int)) else false) = true → (bif bif bif bif W.kinds (Int.toNat i) != (7 : Int) then W.kinds (Int.toNat i) != (8 : Int) else false then decide ((0 : Int) < (↑(W.linesN (Int.toNat i)) : Int)) else false then true else bif W.kinds (Int.toNat i) != (8 : Int) then W.bits (Int.toNat i) != (0 : Int) else false then true else farB (W.bits (Int.toNat i)) (65535 : Int)) = false → (0 : Int) ≤ i ∧ i < (↑W.nBits : Int)) ∧ ((bif bif bif bif bif W.kinds (Int.toNat i) != (7 : Int) then W.kinds (Int.toNat i) != (8 : Int) else false then decide ((0 : Int) < (↑(W.linesN (Int.toNat i)) : Int)) else false then true else bif W.kinds (Int.toNat i) != (8 : Int) then W.bits (Int.toNat i) != (0 : Int) else false then true else farB (W.bits (Int.toNat i)) (65535 : Int) then true else bif bif W.kinds (Int.toNat i) == (8 : Int) then decide ((0 : Int) < (↑(W.linesN (Int.toNat i)) : Int)) else false then W.bits (Int.toNat i) != (0 : Int) else false) = true → true = !lnB W (Int.toNat i) ∧ True) ∧ ((bif bif bif bif bif W.kinds (Int.toNat i) != (7 : Int) then W.kinds (Int.toNat i) != (8 : Int) else false then decide ((0 : Int) < (↑(W.linesN (Int.toNat i)) : Int)) else false then true else bif
    W.kinds (Int.toNat i) != (8 : Int) then W.bits (Int.toNat i) != (0 : Int) else false then true else farB (W.bits (Int.toNat i)) (65535 : Int) then true else bif bif W.kinds (Int.toNat i) == (8 : Int) then decide ((0 : Int) < (↑(W.linesN (Int.toNat i)) : Int)) else false then W.bits (Int.toNat i) != (0 : Int) else false) = false → (↑(W.linesN (Int.toNat i)) : Int) ≤ (9223372036854775807 : Int) → (0 : Int) = (↑(0 : Nat) : Int) ∧ True ∧ ((0 : Nat) ≤ W.linesN (Int.toNat i) ∧ ∀ (j : Nat), j < (0 : Nat) → lnTest W (Int.toNat i) (W.lines (Int.toNat i) j) = true) ∧ ∀ (s : Nat), (s ≤ W.linesN (Int.toNat i) ∧ ∀ (j : Nat), j < s → lnTest W (Int.toNat i) (W.lines (Int.toNat i) j) = true) → (decide ((↑s : Int) < (↑(W.linesN (Int.toNat i)) : Int)) = true → ((0 : Int) ≤ (↑s : Int) ∧ (↑s : Int) < (↑(W.linesN (Int.toNat i)) : Int)) ∧ True ∧ True ∧ True ∧ True ∧ True ∧ True ∧ True ∧ True ∧ True ∧ True ∧ True ∧ True ∧ True ∧ True ∧ True ∧ True ∧ True ∧ True ∧ True ∧ ((bif decide (W.lines (Int.toNat i) (Int.toNat (↑s : Int)) < (0 : Int)) then true else decide ((↑W.nKinds : Int) ≤ W.lines (Int.toNat i) (Int.toNat (↑s : Int)))) = false → (0 : Int) ≤ W.lines (Int.toNat i) (Int.toNat (↑s : Int)) ∧ W.lines (Int.toNat i) (Int.toNat (↑s : Int)) < (↑W.nKinds : Int)) ∧ True ∧ True ∧ True ∧ True ∧ True ∧ True ∧ True ∧ True ∧ True ∧ True ∧ ((bif bif decide (W.lines (Int.toNat i) (Int.toNat (↑s : Int)) < (0 : Int)) then true else decide ((↑W.nKinds : Int) ≤ W.lines (Int.toNat i) (Int.toNat (↑s : Int)))
    then true else W.kinds (Int.toNat (W.lines (Int.toNat i) (Int.toNat (↑s : Int)))) != (6 : Int)) = false → (0 : Int) ≤ W.lines (Int.toNat i) (Int.toNat (↑s : Int)) ∧ W.lines (Int.toNat i) (Int.toNat (↑s : Int)) < (↑W.nTasks : Int)) ∧ True ∧ True ∧ True ∧ True ∧ True ∧ True ∧ True ∧ True ∧ True ∧ True ∧ True ∧ True ∧ ((bif bif bif decide (W.lines (Int.toNat i) (Int.toNat (↑s : Int)) < (0 : Int)) then true else decide ((↑W.nKinds : Int) ≤ W.lines (Int.toNat i) (Int.toNat (↑s : Int))) then true else W.kinds (Int.toNat (W.lines (Int.toNat i) (Int.toNat (↑s : Int)))) != (6 : Int) then true else (W.tasks (Int.toNat (W.lines (Int.toNat i) (Int.toNat (↑s : Int))))).loc != i) = false → (0 : Int) ≤ W.lines (Int.toNat i) (Int.toNat (↑s : Int)) ∧ W.lines (Int.toNat i) (Int.toNat (↑s : Int)) < (↑W.nTasks : Int)) ∧ True ∧ True ∧ True ∧ True ∧ True ∧ True ∧ True ∧ True ∧ True ∧ ((bif bif bif decide (W.lines (Int.toNat i) (Int.toNat (↑s : Int)) < (0 : Int)) then true else decide ((↑W.nKinds : Int) ≤ W.lines (Int.toNat i) (Int.toNat (↑s : Int))) then true else W.kinds (Int.toNat (W.lines (Int.toNat i) (Int.toNat (↑s : Int)))) != (6 : Int) then true else (W.tasks (Int.toNat (W.lines (Int.toNat i) (Int.toNat (↑s : Int))))).loc != i) = false → (0 : Int) ≤ (0 : Int) ∧ (0 : Int) < (↑(W.linesN (Int.toNat i)) : Int)) ∧ True ∧ ((bif bif bif decide (W.lines (Int.toNat i) (Int.toNat (↑s : Int)) < (0 : Int)) then true else decide ((↑W.nKinds : Int) ≤ W.lines (Int.toNat i) (Int.toNat (↑s : Int))) then
    true else W.kinds (Int.toNat (W.lines (Int.toNat i) (Int.toNat (↑s : Int)))) != (6 : Int) then true else (W.tasks (Int.toNat (W.lines (Int.toNat i) (Int.toNat (↑s : Int))))).loc != i) = false → (0 : Int) ≤ W.lines (Int.toNat i) (Int.toNat (0 : Int)) ∧ W.lines (Int.toNat i) (Int.toNat (0 : Int)) < (↑W.nTasks : Int)) ∧ True ∧ True ∧ True ∧ ((bif bif bif bif decide (W.lines (Int.toNat i) (Int.toNat (↑s : Int)) < (0 : Int)) then true else decide ((↑W.nKinds : Int) ≤ W.lines (Int.toNat i) (Int.toNat (↑s : Int))) then true else W.kinds (Int.toNat (W.lines (Int.toNat i) (Int.toNat (↑s : Int)))) != (6 : Int) then true else (W.tasks (Int.toNat (W.lines (Int.toNat i) (Int.toNat (↑s : Int))))).loc != i then true else ((W.tasks (Int.toNat (W.lines (Int.toNat i) (Int.toNat (↑s : Int))))).st == (4 : Int)) != ((W.tasks (Int.toNat (W.lines (Int.toNat i) (Int.toNat (0 : Int))))).st == (4 : Int))) = true → true = !lnB W (Int.toNat i) ∧ True) ∧ ((bif bif bif bif decide (W.lines (Int.toNat i) (Int.toNat (↑s : Int)) < (0 : Int)) then true else decide ((↑W.nKinds : Int) ≤ W.lines (Int.toNat i) (Int.toNat (↑s : Int))) then true else W.kinds (Int.toNat (W.lines (Int.toNat i) (Int.toNat (↑s : Int)))) != (6 : Int) then true else (W.tasks (Int.toNat (W.lines (Int.toNat i) (Int.toNat (↑s : Int))))).loc != i then true else ((W.tasks (Int.toNat (W.lines (Int.toNat i) (Int.toNat (↑s : Int))))).st == (4 : Int)) != ((W.tasks (Int.toNat (W.lines (Int.toNat i) (Int.toNat (0 : Int))))).st == (4 : Int))) =
    false → IntKind.wrap IntKind.i64 ((↑s : Int) + (1 : Int)) = (↑s : Int) + (1 : Int) ∧ ∃ (s' : Nat), (↑s : Int) + (1 : Int) = (↑s' : Int) ∧ True ∧ (s' ≤ W.linesN (Int.toNat i) ∧ ∀ (j : Nat), j < s' → lnTest W (Int.toNat i) (W.lines (Int.toNat i) j) = true) ∧ W.linesN (Int.toNat i) - s' < W.linesN (Int.toNat i) - s)) ∧ (decide ((↑s : Int) < (↑(W.linesN (Int.toNat i)) : Int)) = false → false = !lnB W (Int.toNat i) ∧ True))
theorem q_lines1 (i : Int) (W : Wd) : evBody Tryd.prog false glN (mkT [(92, c_wOut)]) Tryd.f140 (a_lines1 i W) (m_lines1 i W) [.inv (an_l1 W i.toNat)] (r_lines1 i W) (n_lines1 i W) = V_lines1 i W := by kernel_rfl
theorem pf_lines1 (i : Int) (W : Wd) (hp : p_lines1 i W) : FnC Tryd.prog glN 140 (a_lines1 i W) (m_lines1 i W) (r_lines1 i W) (n_lines1 i W) := by
  refine fn_of (sound_cons ok_wOut sound_nil) false Tryd.func140 [.inv (an_l1 W i.toNat)] (q_lines1 i W) ?_
  unfold V_lines1
  unfold p_lines1 at hp
  obtain ⟨hz, hm, f0, f1⟩ := hp
  obtain ⟨F, rfl⟩ : ∃ F : Nat, i = F := ⟨i.toNat, by omega⟩
  simp only [true_and, and_true, and_self, implies_true, eq_self, Int.toNat_natCast, Nat.zero_add, Int.natCast_nonneg, Nat.not_lt_zero, false_implies, Nat.zero_le, Int.natCast_zero, Bool.cond_self, Bool.cond_true_left, Bool.cond_false_right, Bool.cond_true_right, Bool.cond_false_left]
  have hz1 := hz.tasks
  have hz2 := hz.k1
  have hz3 := hz.lines
  have hz4 := hz.bits
  have hL := hm.1 F (by omega)
  rw [show decide ((0 : Int) < (W.linesN F : Int)) = decide (0 < W.linesN F) from decide_eq_decide.2 (by omega)]
  have eA : (W.kinds F != 7 && W.kinds F != 8 && decide (0 < W.linesN F) || W.kinds F != 8 && W.bits F != 0 || farB (W.bits F) 65535 || W.kinds F == 8 && decide (0 < W.linesN F) && W.bits F != 0) = !(!(decide (0 < W.linesN F) && W.kinds F != 7 && W.kinds F != 8) && !(W.bits F != 0 && (W.kinds F != 8 || decide (0 < W.linesN F))) && !farB (W.bits F) 65535) := by
    simp only [bne]
    cases W.kinds F == 7 <;> cases W.kinds F == 8 <;> cases decide (0 < W.linesN F) <;> cases W.bits F == 0 <;> cases farB (W.bits F) 65535 <;> rfl
  rw [eA]
  refine ⟨by omega, fun _ => by omega, fun _ => by omega, fun _ _ => by omega, fun _ => by omega, fun _ => by omega, fun _ _ => by omega, fun h => ?_, fun h _ s hs => ?_⟩
  · unfold lnB; rw [notT h]; rfl
  have core : lnB W F = allB (W.linesN F) fun i => lnTest W F (W.lines F i) := by unfold lnB; rw [notF h]; rfl
  rw [core]
  refine ⟨fun h1 => ?_, fun h1 => ?_⟩
  · have hlt := lt_of_dec h1
    rw [kofN (k := 6) (by decide)]
    have hr : ∀ t, (kof W t == 6) = true → 0 ≤ t ∧ t < W.nTasks := fun t h => by rw [hz1]; exact kof_in (by rw [eq_of_beq h]; decide)
    have h00 : (kof W (W.lines F s) == 6) = true → 0 ≤ W.lines F 0 ∧ W.lines F 0 < W.nTasks := fun h6 => by
      rcases Nat.eq_zero_or_pos s with h | h
      · subst h; exact hr _ h6
      · have := hs.2 0 h
        unfold lnTest at this
        simp only [Bool.and_eq_true] at this
        exact hr _ this.1.1
    have ht : lnTest W F (W.lines F s) = !(!(kof W (W.lines F s) == 6) || (W.tasks (W.lines F s).toNat).loc != F || (((W.tasks (W.lines F s).toNat).st == 4) != ((W.tasks (W.lines F 0).toNat).st == 4))) := by
      unfold lnTest wtB; simp only [bne, Bool.not_or, Bool.not_not]
    have o1 : ∀ {a b : Bool}, (!a || b) = false → a = true := fun {a b} h => by revert h; cases a <;> cases b <;> simp
    refine ⟨by omega, fun h2 => ?_, fun h2 => hr _ (notF h2), fun h2 => hr _ (o1 h2), fun h2 => ⟨by decide, by omega⟩, fun h2 => h00 (o1 h2), fun h2 => ?_, fun h2 => ⟨by rw [IntKind.wrap_i64]; omega, exS ⟨⟨by omega, snocB hs.2 ?_⟩, by omega⟩⟩⟩
    · simp only [Bool.or_eq_false_iff, decide_eq_false_iff_not] at h2; omega
    · rw [allB_false (p := fun i => lnTest W F (W.lines F i)) hlt (by show lnTest W F (W.lines F s) = false; rw [ht]; exact congrArg (!·) h2)]; rfl
    · rw [ht]; exact congrArg (!·) h2
  · have hge := ge_of_dec h1
    obtain rfl : s = W.linesN F := by omega
    rw [allB_all hs.2]; rfl
theorem ok_lines1 : FnOK Tryd.prog glN 140 c_lines1 := fnOK_of (fun l w => Tryd.call140 l w) fun x_ hp => pf_lines1 x_.i x_.W hp
structure X_turns2 where
  i : Int
  x : Int
  W : Wd
def a_turns2 (i : Int) (x : Int) (W : Wd) : List SV := [.v (.int .i64 i), .v (.int .i64 x), .pt true 1 (fun _ => .fn 141 1 (lsv [.pt true 1 (fun _ => wPT W)]))]
def m_turns2 (i : Int) (x : Int) (W : Wd) : List Blk := []
def r_turns2 (i : Int) (x : Int) (W : Wd) : SV := .v (.bool (x != -1 && !rdB W x i (-1)))
def n_turns2 (i : Int) (x : Int) (W : Wd) : List Blk := []
def p_turns2 (i : Int) (x : Int) (W : Wd) : Prop := Szd W
def s_turns2 : Sy.Spec where
  X := X_turns2
  args x_ := a_turns2 x_.i x_.x x_.W
  mem x_ := m_turns2 x_.i x_.x x_.W
  pre x_ := p_turns2 x_.i x_.x x_.W
  res x_ := r_turns2 x_.i x_.x x_.W
  mem' x_ := n_turns2 x_.i x_.x x_.W
  dec args mem := match args with | [a0, a1, a2] => some ⟨intD (a0), intD (a1), wPTD (ptF (fnF (ptF a2 0) 0) 0)⟩ | _ => none
def c_turns2 : Con := ⟨[], s_turns2.g, none⟩
def V_turns2 (i : Int) (x : Int) (W : Wd) : Prop :=
  ((x != (-1 : Int)) = true → (x = x ∧ i = i ∧ (-1 : Int) = (-1 : Int) ∧ (True ∧ ((((((((((True ∧ W.nRam = W.nRam ∧ ∀ (i : Nat), i < W.nRam → True ∧ W.ram i = W.ram i) ∧ W.nKinds = W.nKinds ∧ ∀ (i : Nat), i < W.nKinds → True ∧ W.kinds i = W.kinds i) ∧ W.nSlots = W.nSlots ∧ ∀ (i : Nat), i < W.nSlots → ((((((True ∧ (W.slots i).kind = (W.slots i).kind) ∧ (W.slots i).base = (W.slots i).base) ∧ (W.slots i).len = (W.slots i).len) ∧ (W.slots i).mark = (W.slots i).mark) ∧ (W.slots i).rights = (W.slots i).rights) ∧ (W.slots i).badge = (W.slots i).badge) ∧ (W.slots i).from_ = (W.slots i).from_) ∧ W.nTasks = W.nTasks ∧ ∀ (i : Nat), i < W.nTasks → (((((((((((((((((((True ∧ (W.tasks i).r0 = (W.tasks i).r0) ∧ (W.tasks i).r1 = (W.tasks i).r1) ∧ (W.tasks i).r2 = (W.tasks i).r2) ∧ (W.tasks i).r3 = (W.tasks i).r3) ∧ (W.tasks i).r4 = (W.tasks i).r4) ∧ (W.tasks i).r5 = (W.tasks i).r5) ∧ (W.tasks i).r6 = (W.tasks i).r6) ∧ (W.tasks i).r7 = (W.tasks i).r7) ∧ (W.tasks i).pc = (W.tasks i).pc) ∧ (W.tasks i).st = (W.tasks i).st) ∧ (W.tasks i).prio = (W.tasks i).prio) ∧ (W.tasks i).node = (W.tasks i).node) ∧ (W.tasks i).space = (W.tasks i).space) ∧ (W.tasks i).helper = (W.tasks i).helper) ∧ (W.tasks i).loc = (W.tasks i).loc) ∧ (W.tasks i).word = (W.tasks i).word) ∧ (W.tasks i).badge = (W.tasks i).badge) ∧ (W.tasks i).owes = (W.tasks i).owes) ∧ (W.tasks i).core = (W.tasks i).core) ∧ (W.tasks i).dom = (W.tasks i).dom) ∧ W.nLines = W.nLines ∧ ∀ (i : Nat), i < W.nLines → True ∧ W.linesN i = W.linesN i ∧ ∀
    (i_1 : Nat), i_1 < W.linesN i → True ∧ W.lines i i_1 = W.lines i i_1) ∧ W.nBits = W.nBits ∧ ∀ (i : Nat), i < W.nBits → True ∧ W.bits i = W.bits i) ∧ W.nCores = W.nCores ∧ ∀ (i : Nat), i < W.nCores → True ∧ W.cores i = W.cores i) ∧ W.nReady = W.nReady ∧ ∀ (i : Nat), i < W.nReady → True ∧ W.readyN i = W.readyN i ∧ ∀ (i_1 : Nat), i_1 < W.readyN i → True ∧ W.ready i i_1 = W.ready i i_1) ∧ W.nTlbs = W.nTlbs ∧ ∀ (i : Nat), i < W.nTlbs → True ∧ W.tlbsN i = W.tlbsN i ∧ ∀ (i_1 : Nat), i_1 < W.tlbsN i → (((True ∧ (W.tlbs i i_1).sp = (W.tlbs i i_1).sp) ∧ (W.tlbs i i_1).pg = (W.tlbs i i_1).pg) ∧ (W.tlbs i i_1).fr = (W.tlbs i i_1).fr) ∧ (W.tlbs i i_1).wr = (W.tlbs i i_1).wr) ∧ W.nDoms = W.nDoms ∧ ∀ (i : Nat), i < W.nDoms → True ∧ W.doms i = W.doms i) ∧ W.time = W.time) ∧ True) ∧ True ∧ Szd W) ∧ (bif x != (-1 : Int) then !rdB W x i (-1 : Int) else false) = (x != (-1 : Int) && !rdB W x i (-1 : Int)) ∧ True
theorem q_turns2 (i : Int) (x : Int) (W : Wd) : evBody Tryd.prog false glN (mkT [(141, c_wRuns)]) Tryd.f142 (a_turns2 i x W) (m_turns2 i x W) [] (r_turns2 i x W) (n_turns2 i x W) = V_turns2 i x W := by kernel_rfl
theorem pf_turns2 (i : Int) (x : Int) (W : Wd) (hp : p_turns2 i x W) : FnC Tryd.prog glN 142 (a_turns2 i x W) (m_turns2 i x W) (r_turns2 i x W) (n_turns2 i x W) := by
  refine fn_of (sound_cons ok_wRuns sound_nil) false Tryd.func142 [] (q_turns2 i x W) ?_
  unfold V_turns2
  unfold p_turns2 at hp
  simp only [true_and, and_true, and_self, implies_true, eq_self, Int.toNat_natCast, Nat.zero_add, Int.natCast_nonneg, Nat.not_lt_zero, false_implies, Nat.zero_le, Int.natCast_zero, Bool.cond_self, Bool.cond_true_left, Bool.cond_false_right, Bool.cond_true_right, Bool.cond_false_left]
  exact fun _ => hp
theorem ok_turns2 : FnOK Tryd.prog glN 142 c_turns2 := fnOK_of (fun l w => Tryd.call142 l w) fun x_ hp => pf_turns2 x_.i x_.x x_.W hp
structure X_turns31 where
  t : Int
  W : Wd
  i : Int
def a_turns31 (t : Int) (W : Wd) (i : Int) : List SV := [.v (.int .i64 t), .pt true 1 (fun _ => .fn 141 1 (lsv [.pt true 1 (fun _ => wPT W)])), .pt true 1 (fun _ => .v (.int .i64 i))]
def m_turns31 (t : Int) (W : Wd) (i : Int) : List Blk := []
def r_turns31 (t : Int) (W : Wd) (i : Int) : SV := .v (.bool (!rdB W t (i / 4) (i % 4)))
def n_turns31 (t : Int) (W : Wd) (i : Int) : List Blk := []
def p_turns31 (t : Int) (W : Wd) (i : Int) : Prop := Szd W ∧ 0 ≤ i ∧ i ≤ 100000
def s_turns31 : Sy.Spec where
  X := X_turns31
  args x_ := a_turns31 x_.t x_.W x_.i
  mem x_ := m_turns31 x_.t x_.W x_.i
  pre x_ := p_turns31 x_.t x_.W x_.i
  res x_ := r_turns31 x_.t x_.W x_.i
  mem' x_ := n_turns31 x_.t x_.W x_.i
  dec args mem := match args with | [a0, a1, a2] => some ⟨intD (a0), wPTD (ptF (fnF (ptF a1 0) 0) 0), intD (ptF a2 0)⟩ | _ => none
def c_turns31 : Con := ⟨[], s_turns31.g, none⟩
def V_turns31 (t : Int) (W : Wd) (i : Int) : Prop :=
  ((0 : Int) ≤ i ∧ (0 : Int) < (4 : Int) ∧ IntKind.wrap IntKind.i64 (i / (4 : Int)) = i / (4 : Int)) ∧ ((0 : Int) ≤ i ∧ (0 : Int) < (4 : Int)) ∧ ((t = t ∧ i / (4 : Int) = i / (4 : Int) ∧ i % (4 : Int) = i % (4 : Int) ∧ (True ∧ ((((((((((True ∧ W.nRam = W.nRam ∧ ∀ (i : Nat), i < W.nRam → True ∧ W.ram i = W.ram i) ∧ W.nKinds = W.nKinds ∧ ∀ (i : Nat), i < W.nKinds → True ∧ W.kinds i = W.kinds i) ∧ W.nSlots = W.nSlots ∧ ∀ (i : Nat), i < W.nSlots → ((((((True ∧ (W.slots i).kind = (W.slots i).kind) ∧ (W.slots i).base = (W.slots i).base) ∧ (W.slots i).len = (W.slots i).len) ∧ (W.slots i).mark = (W.slots i).mark) ∧ (W.slots i).rights = (W.slots i).rights) ∧ (W.slots i).badge = (W.slots i).badge) ∧ (W.slots i).from_ = (W.slots i).from_) ∧ W.nTasks = W.nTasks ∧ ∀ (i : Nat), i < W.nTasks → (((((((((((((((((((True ∧ (W.tasks i).r0 = (W.tasks i).r0) ∧ (W.tasks i).r1 = (W.tasks i).r1) ∧ (W.tasks i).r2 = (W.tasks i).r2) ∧ (W.tasks i).r3 = (W.tasks i).r3) ∧ (W.tasks i).r4 = (W.tasks i).r4) ∧ (W.tasks i).r5 = (W.tasks i).r5) ∧ (W.tasks i).r6 = (W.tasks i).r6) ∧ (W.tasks i).r7 = (W.tasks i).r7) ∧ (W.tasks i).pc = (W.tasks i).pc) ∧ (W.tasks i).st = (W.tasks i).st) ∧ (W.tasks i).prio = (W.tasks i).prio) ∧ (W.tasks i).node = (W.tasks i).node) ∧ (W.tasks i).space = (W.tasks i).space) ∧ (W.tasks i).helper = (W.tasks i).helper) ∧ (W.tasks i).loc = (W.tasks i).loc) ∧ (W.tasks i).word = (W.tasks i).word) ∧ (W.tasks i).badge = (W.tasks i).badge) ∧ (W.tasks i).owes = (W.tasks i).owes) ∧ (W.tasks i).core =
    (W.tasks i).core) ∧ (W.tasks i).dom = (W.tasks i).dom) ∧ W.nLines = W.nLines ∧ ∀ (i : Nat), i < W.nLines → True ∧ W.linesN i = W.linesN i ∧ ∀ (i_1 : Nat), i_1 < W.linesN i → True ∧ W.lines i i_1 = W.lines i i_1) ∧ W.nBits = W.nBits ∧ ∀ (i : Nat), i < W.nBits → True ∧ W.bits i = W.bits i) ∧ W.nCores = W.nCores ∧ ∀ (i : Nat), i < W.nCores → True ∧ W.cores i = W.cores i) ∧ W.nReady = W.nReady ∧ ∀ (i : Nat), i < W.nReady → True ∧ W.readyN i = W.readyN i ∧ ∀ (i_1 : Nat), i_1 < W.readyN i → True ∧ W.ready i i_1 = W.ready i i_1) ∧ W.nTlbs = W.nTlbs ∧ ∀ (i : Nat), i < W.nTlbs → True ∧ W.tlbsN i = W.tlbsN i ∧ ∀ (i_1 : Nat), i_1 < W.tlbsN i → (((True ∧ (W.tlbs i i_1).sp = (W.tlbs i i_1).sp) ∧ (W.tlbs i i_1).pg = (W.tlbs i i_1).pg) ∧ (W.tlbs i i_1).fr = (W.tlbs i i_1).fr) ∧ (W.tlbs i i_1).wr = (W.tlbs i i_1).wr) ∧ W.nDoms = W.nDoms ∧ ∀ (i : Nat), i < W.nDoms → True ∧ W.doms i = W.doms i) ∧ W.time = W.time) ∧ True) ∧ True ∧ Szd W) ∧ (!rdB W t (i / (4 : Int)) (i % (4 : Int))) = !rdB W t (i / (4 : Int)) (i % (4 : Int)) ∧ True
theorem q_turns31 (t : Int) (W : Wd) (i : Int) : evBody Tryd.prog false glN (mkT [(141, c_wRuns)]) Tryd.f145 (a_turns31 t W i) (m_turns31 t W i) [] (r_turns31 t W i) (n_turns31 t W i) = V_turns31 t W i := by kernel_rfl
theorem pf_turns31 (t : Int) (W : Wd) (i : Int) (hp : p_turns31 t W i) : FnC Tryd.prog glN 145 (a_turns31 t W i) (m_turns31 t W i) (r_turns31 t W i) (n_turns31 t W i) := by
  refine fn_of (sound_cons ok_wRuns sound_nil) false Tryd.func145 [] (q_turns31 t W i) ?_
  unfold V_turns31
  unfold p_turns31 at hp
  simp only [true_and, and_true, and_self, implies_true, eq_self, Int.toNat_natCast, Nat.zero_add, Int.natCast_nonneg, Nat.not_lt_zero, false_implies, Nat.zero_le, Int.natCast_zero, Bool.cond_self, Bool.cond_true_left, Bool.cond_false_right, Bool.cond_true_right, Bool.cond_false_left]
  exact ⟨⟨hp.2.1, by decide, by rw [IntKind.wrap_i64]; omega⟩, ⟨hp.2.1, by decide⟩, hp.1⟩
theorem ok_turns31 : FnOK Tryd.prog glN 145 c_turns31 := fnOK_of (fun l w => Tryd.call145 l w) fun x_ hp => pf_turns31 x_.t x_.W x_.i hp
structure X_idxR where
  n : Nat
  l : Nat → Int
  W : Wd
  i : Int
def a_idxR (n : Nat) (l : Nat → Int) (W : Wd) (i : Int) : List SV := [.sl true 1 n (fun i_ _ => .v (.int .i64 (l i_))), .fn 145 2 (lsv [.pt true 1 (fun _ => .fn 141 1 (lsv [.pt true 1 (fun _ => wPT W)])), .pt true 1 (fun _ => .v (.int .i64 i))])]
def m_idxR (n : Nat) (l : Nat → Int) (W : Wd) (i : Int) : List Blk := []
def r_idxR (n : Nat) (l : Nat → Int) (W : Wd) (i : Int) : SV := .v (.int .i64 (idxB n fun k => !rdB W (l k) (i / 4) (i % 4)))
def n_idxR (n : Nat) (l : Nat → Int) (W : Wd) (i : Int) : List Blk := []
def p_idxR (n : Nat) (l : Nat → Int) (W : Wd) (i : Int) : Prop := Szd W ∧ 0 ≤ i ∧ i ≤ 100000 ∧ n ≤ 100000
def s_idxR : Sy.Spec where
  X := X_idxR
  args x_ := a_idxR x_.n x_.l x_.W x_.i
  mem x_ := m_idxR x_.n x_.l x_.W x_.i
  pre x_ := p_idxR x_.n x_.l x_.W x_.i
  res x_ := r_idxR x_.n x_.l x_.W x_.i
  mem' x_ := n_idxR x_.n x_.l x_.W x_.i
  dec args mem := match args with | [a0, a1] => some ⟨slN a0, fun i => intD (slF a0 i 0), wPTD (ptF (fnF (ptF (fnF a1 0) 0) 0) 0), intD (ptF (fnF a1 1) 0)⟩ | _ => none
def c_idxR : Con := ⟨[], s_idxR.g, none⟩
def V_idxR (n : Nat) (l : Nat → Int) (W : Wd) (i : Int) : Prop :=
  (↑n : Int) ≤ (9223372036854775807 : Int) → (0 : Int) = (↑(0 : Nat) : Int) ∧ True ∧ ((0 : Nat) ≤ n ∧ ∀ (j : Nat), j < (0 : Nat) → (!rdB W (l j) (i / (4 : Int)) (i % (4 : Int))) = false) ∧ ∀ (s : Nat), (s ≤ n ∧ ∀ (j : Nat), j < s → (!rdB W (l j) (i / (4 : Int)) (i % (4 : Int))) = false) → (decide ((↑s : Int) < (↑n : Int)) = true → ((0 : Int) ≤ (↑s : Int) ∧ (↑s : Int) < (↑n : Int)) ∧ ((l (Int.toNat (↑s : Int)) = l (Int.toNat (↑s : Int)) ∧ (True ∧ True ∧ True ∧ ((((((((((True ∧ W.nRam = W.nRam ∧ ∀ (i : Nat), i < W.nRam → True ∧ W.ram i = W.ram i) ∧ W.nKinds = W.nKinds ∧ ∀ (i : Nat), i < W.nKinds → True ∧ W.kinds i = W.kinds i) ∧ W.nSlots = W.nSlots ∧ ∀ (i : Nat), i < W.nSlots → ((((((True ∧ (W.slots i).kind = (W.slots i).kind) ∧ (W.slots i).base = (W.slots i).base) ∧ (W.slots i).len = (W.slots i).len) ∧ (W.slots i).mark = (W.slots i).mark) ∧ (W.slots i).rights = (W.slots i).rights) ∧ (W.slots i).badge = (W.slots i).badge) ∧ (W.slots i).from_ = (W.slots i).from_) ∧ W.nTasks = W.nTasks ∧ ∀ (i : Nat), i < W.nTasks → (((((((((((((((((((True ∧ (W.tasks i).r0 = (W.tasks i).r0) ∧ (W.tasks i).r1 = (W.tasks i).r1) ∧ (W.tasks i).r2 = (W.tasks i).r2) ∧ (W.tasks i).r3 = (W.tasks i).r3) ∧ (W.tasks i).r4 = (W.tasks i).r4) ∧ (W.tasks i).r5 = (W.tasks i).r5) ∧ (W.tasks i).r6 = (W.tasks i).r6) ∧ (W.tasks i).r7 = (W.tasks i).r7) ∧ (W.tasks i).pc = (W.tasks i).pc) ∧ (W.tasks i).st = (W.tasks i).st) ∧ (W.tasks i).prio = (W.tasks i).prio) ∧ (W.tasks i).node = (W.tasks i).node) ∧ (W.tasks i).space =
    (W.tasks i).space) ∧ (W.tasks i).helper = (W.tasks i).helper) ∧ (W.tasks i).loc = (W.tasks i).loc) ∧ (W.tasks i).word = (W.tasks i).word) ∧ (W.tasks i).badge = (W.tasks i).badge) ∧ (W.tasks i).owes = (W.tasks i).owes) ∧ (W.tasks i).core = (W.tasks i).core) ∧ (W.tasks i).dom = (W.tasks i).dom) ∧ W.nLines = W.nLines ∧ ∀ (i : Nat), i < W.nLines → True ∧ W.linesN i = W.linesN i ∧ ∀ (i_1 : Nat), i_1 < W.linesN i → True ∧ W.lines i i_1 = W.lines i i_1) ∧ W.nBits = W.nBits ∧ ∀ (i : Nat), i < W.nBits → True ∧ W.bits i = W.bits i) ∧ W.nCores = W.nCores ∧ ∀ (i : Nat), i < W.nCores → True ∧ W.cores i = W.cores i) ∧ W.nReady = W.nReady ∧ ∀ (i : Nat), i < W.nReady → True ∧ W.readyN i = W.readyN i ∧ ∀ (i_1 : Nat), i_1 < W.readyN i → True ∧ W.ready i i_1 = W.ready i i_1) ∧ W.nTlbs = W.nTlbs ∧ ∀ (i : Nat), i < W.nTlbs → True ∧ W.tlbsN i = W.tlbsN i ∧ ∀ (i_1 : Nat), i_1 < W.tlbsN i → (((True ∧ (W.tlbs i i_1).sp = (W.tlbs i i_1).sp) ∧ (W.tlbs i i_1).pg = (W.tlbs i i_1).pg) ∧ (W.tlbs i i_1).fr = (W.tlbs i i_1).fr) ∧ (W.tlbs i i_1).wr = (W.tlbs i i_1).wr) ∧ W.nDoms = W.nDoms ∧ ∀ (i : Nat), i < W.nDoms → True ∧ W.doms i = W.doms i) ∧ W.time = W.time) ∧ (True ∧ i = i) ∧ True) ∧ True ∧ Szd W ∧ (0 : Int) ≤ i ∧ i ≤ (100000 : Int)) ∧ ((!rdB W (l (Int.toNat (↑s : Int))) (i / (4 : Int)) (i % (4 : Int))) = true → ((↑s : Int) = idxB n fun (k : Nat) => !rdB W (l k) (i / (4 : Int)) (i % (4 : Int))) ∧ True) ∧ ((!rdB W (l (Int.toNat (↑s : Int))) (i / (4 : Int)) (i % (4 : Int))) = false → IntKind.wrap
    IntKind.i64 ((↑s : Int) + (1 : Int)) = (↑s : Int) + (1 : Int) ∧ ∃ (s' : Nat), (↑s : Int) + (1 : Int) = (↑s' : Int) ∧ True ∧ (s' ≤ n ∧ ∀ (j : Nat), j < s' → (!rdB W (l j) (i / (4 : Int)) (i % (4 : Int))) = false) ∧ n - s' < n - s)) ∧ (decide ((↑s : Int) < (↑n : Int)) = false → ((-1 : Int) = idxB n fun (k : Nat) => !rdB W (l k) (i / (4 : Int)) (i % (4 : Int))) ∧ True)
theorem q_idxR (n : Nat) (l : Nat → Int) (W : Wd) (i : Int) : evBody Tryd.prog false glN (mkT [(145, c_turns31)]) Tryd.f160 (a_idxR n l W i) (m_idxR n l W i) [.inv (an_rf W n l i)] (r_idxR n l W i) (n_idxR n l W i) = V_idxR n l W i := by kernel_rfl
theorem pf_idxR (n : Nat) (l : Nat → Int) (W : Wd) (i : Int) (hp : p_idxR n l W i) : FnC Tryd.prog glN 160 (a_idxR n l W i) (m_idxR n l W i) (r_idxR n l W i) (n_idxR n l W i) := by
  refine fn_of (sound_cons ok_turns31 sound_nil) false Tryd.func160 [.inv (an_rf W n l i)] (q_idxR n l W i) ?_
  unfold V_idxR
  unfold p_idxR at hp
  simp only [true_and, and_true, and_self, implies_true, eq_self, Int.toNat_natCast, Nat.zero_add, Int.natCast_nonneg, Nat.not_lt_zero, false_implies, Nat.zero_le, Int.natCast_zero, Bool.cond_self, Bool.cond_true_left, Bool.cond_false_right, Bool.cond_true_right, Bool.cond_false_left]
  refine fun hn s hs => ⟨fun h => ?_, fun h => ?_⟩
  · have hlt := lt_of_dec h
    exact ⟨by omega, ⟨hp.1, hp.2.1, hp.2.2.1⟩, fun h => (idxB_at (p := fun k => !rdB W (l k) (i / 4) (i % 4)) hs.2 h hlt).symm, fun h => ⟨by rw [IntKind.wrap_i64]; omega, exS ⟨⟨by omega, snocF (p := fun k => !rdB W (l k) (i / 4) (i % 4)) hs.2 h⟩, by omega⟩⟩⟩
  · have hge := ge_of_dec h
    obtain rfl : s = n := by omega
    exact (idxB_none (p := fun k => !rdB W (l k) (i / 4) (i % 4)) hs.2).symm
theorem ok_idxR : FnOK Tryd.prog glN 160 c_idxR := fnOK_of (fun l w => Tryd.call160 l w) fun x_ hp => pf_idxR x_.n x_.l x_.W x_.i hp
structure X_cntR where
  n : Nat
  l : Nat → Int
  W : Wd
  i : Int
def a_cntR (n : Nat) (l : Nat → Int) (W : Wd) (i : Int) : List SV := [.sl true 1 n (fun i_ _ => .v (.int .i64 (l i_))), .fn 145 2 (lsv [.pt true 1 (fun _ => .fn 141 1 (lsv [.pt true 1 (fun _ => wPT W)])), .pt true 1 (fun _ => .v (.int .i64 i))])]
def m_cntR (n : Nat) (l : Nat → Int) (W : Wd) (i : Int) : List Blk := []
def r_cntR (n : Nat) (l : Nat → Int) (W : Wd) (i : Int) : SV := .v (.bool (anyB n fun k => !rdB W (l k) (i / 4) (i % 4)))
def n_cntR (n : Nat) (l : Nat → Int) (W : Wd) (i : Int) : List Blk := []
def p_cntR (n : Nat) (l : Nat → Int) (W : Wd) (i : Int) : Prop := Szd W ∧ 0 ≤ i ∧ i ≤ 100000 ∧ n ≤ 100000
def s_cntR : Sy.Spec where
  X := X_cntR
  args x_ := a_cntR x_.n x_.l x_.W x_.i
  mem x_ := m_cntR x_.n x_.l x_.W x_.i
  pre x_ := p_cntR x_.n x_.l x_.W x_.i
  res x_ := r_cntR x_.n x_.l x_.W x_.i
  mem' x_ := n_cntR x_.n x_.l x_.W x_.i
  dec args mem := match args with | [a0, a1] => some ⟨slN a0, fun i => intD (slF a0 i 0), wPTD (ptF (fnF (ptF (fnF a1 0) 0) 0) 0), intD (ptF (fnF a1 1) 0)⟩ | _ => none
def c_cntR : Con := ⟨[], s_cntR.g, none⟩
def V_cntR (n : Nat) (l : Nat → Int) (W : Wd) (i : Int) : Prop :=
  (((n = n ∧ ∀ (i : Nat), i < n → True ∧ l i = l i) ∧ ((True ∧ True ∧ True ∧ True ∧ ((((((((((True ∧ W.nRam = W.nRam ∧ ∀ (i : Nat), i < W.nRam → True ∧ W.ram i = W.ram i) ∧ W.nKinds = W.nKinds ∧ ∀ (i : Nat), i < W.nKinds → True ∧ W.kinds i = W.kinds i) ∧ W.nSlots = W.nSlots ∧ ∀ (i : Nat), i < W.nSlots → ((((((True ∧ (W.slots i).kind = (W.slots i).kind) ∧ (W.slots i).base = (W.slots i).base) ∧ (W.slots i).len = (W.slots i).len) ∧ (W.slots i).mark = (W.slots i).mark) ∧ (W.slots i).rights = (W.slots i).rights) ∧ (W.slots i).badge = (W.slots i).badge) ∧ (W.slots i).from_ = (W.slots i).from_) ∧ W.nTasks = W.nTasks ∧ ∀ (i : Nat), i < W.nTasks → (((((((((((((((((((True ∧ (W.tasks i).r0 = (W.tasks i).r0) ∧ (W.tasks i).r1 = (W.tasks i).r1) ∧ (W.tasks i).r2 = (W.tasks i).r2) ∧ (W.tasks i).r3 = (W.tasks i).r3) ∧ (W.tasks i).r4 = (W.tasks i).r4) ∧ (W.tasks i).r5 = (W.tasks i).r5) ∧ (W.tasks i).r6 = (W.tasks i).r6) ∧ (W.tasks i).r7 = (W.tasks i).r7) ∧ (W.tasks i).pc = (W.tasks i).pc) ∧ (W.tasks i).st = (W.tasks i).st) ∧ (W.tasks i).prio = (W.tasks i).prio) ∧ (W.tasks i).node = (W.tasks i).node) ∧ (W.tasks i).space = (W.tasks i).space) ∧ (W.tasks i).helper = (W.tasks i).helper) ∧ (W.tasks i).loc = (W.tasks i).loc) ∧ (W.tasks i).word = (W.tasks i).word) ∧ (W.tasks i).badge = (W.tasks i).badge) ∧ (W.tasks i).owes = (W.tasks i).owes) ∧ (W.tasks i).core = (W.tasks i).core) ∧ (W.tasks i).dom = (W.tasks i).dom) ∧ W.nLines = W.nLines ∧ ∀ (i : Nat), i < W.nLines → True ∧ W.linesN i = W.linesN i ∧ ∀
    (i_1 : Nat), i_1 < W.linesN i → True ∧ W.lines i i_1 = W.lines i i_1) ∧ W.nBits = W.nBits ∧ ∀ (i : Nat), i < W.nBits → True ∧ W.bits i = W.bits i) ∧ W.nCores = W.nCores ∧ ∀ (i : Nat), i < W.nCores → True ∧ W.cores i = W.cores i) ∧ W.nReady = W.nReady ∧ ∀ (i : Nat), i < W.nReady → True ∧ W.readyN i = W.readyN i ∧ ∀ (i_1 : Nat), i_1 < W.readyN i → True ∧ W.ready i i_1 = W.ready i i_1) ∧ W.nTlbs = W.nTlbs ∧ ∀ (i : Nat), i < W.nTlbs → True ∧ W.tlbsN i = W.tlbsN i ∧ ∀ (i_1 : Nat), i_1 < W.tlbsN i → (((True ∧ (W.tlbs i i_1).sp = (W.tlbs i i_1).sp) ∧ (W.tlbs i i_1).pg = (W.tlbs i i_1).pg) ∧ (W.tlbs i i_1).fr = (W.tlbs i i_1).fr) ∧ (W.tlbs i i_1).wr = (W.tlbs i i_1).wr) ∧ W.nDoms = W.nDoms ∧ ∀ (i : Nat), i < W.nDoms → True ∧ W.doms i = W.doms i) ∧ W.time = W.time) ∧ True ∧ i = i) ∧ True) ∧ True ∧ Szd W ∧ (0 : Int) ≤ i ∧ i ≤ (100000 : Int) ∧ n ≤ (100000 : Nat)) ∧ (decide ((0 : Int) ≤ idxB n fun (k : Nat) => !rdB W (l k) (i / (4 : Int)) (i % (4 : Int))) = anyB n fun (k : Nat) => !rdB W (l k) (i / (4 : Int)) (i % (4 : Int))) ∧ True
theorem q_cntR (n : Nat) (l : Nat → Int) (W : Wd) (i : Int) : evBody Tryd.prog false glN (mkT [(160, c_idxR)]) Tryd.f144 (a_cntR n l W i) (m_cntR n l W i) [] (r_cntR n l W i) (n_cntR n l W i) = V_cntR n l W i := by kernel_rfl
theorem pf_cntR (n : Nat) (l : Nat → Int) (W : Wd) (i : Int) (hp : p_cntR n l W i) : FnC Tryd.prog glN 144 (a_cntR n l W i) (m_cntR n l W i) (r_cntR n l W i) (n_cntR n l W i) := by
  refine fn_of (sound_cons ok_idxR sound_nil) false Tryd.func144 [] (q_cntR n l W i) ?_
  unfold V_cntR
  unfold p_cntR at hp
  simp only [true_and, and_true, and_self, implies_true, eq_self, Int.toNat_natCast, Nat.zero_add, Int.natCast_nonneg, Nat.not_lt_zero, false_implies, Nat.zero_le, Int.natCast_zero, Bool.cond_self, Bool.cond_true_left, Bool.cond_false_right, Bool.cond_true_right, Bool.cond_false_left]
  refine ⟨hp, ?_⟩
  cases hq : anyB n fun k => !rdB W (l k) (i / 4) (i % 4) with
  | false => rw [idxB_none (anyB_false.1 hq)]; rfl
  | true =>
    obtain ⟨j, hj, h⟩ := anyB_iff.1 hq
    have := fstB_lt (p := fun k => !rdB W (l k) (i / 4) (i % 4)) hj h
    unfold idxB
    rw [blt_t this]
    exact decide_eq_true (Int.natCast_nonneg _)
theorem ok_cntR : FnOK Tryd.prog glN 144 c_cntR := fnOK_of (fun l w => Tryd.call144 l w) fun x_ hp => pf_cntR x_.n x_.l x_.W x_.i hp
structure X_turns3 where
  i : Int
  W : Wd
def a_turns3 (i : Int) (W : Wd) : List SV := [.v (.int .i64 i), .sl true 1 (W.readyN i.toNat) (iF (W.ready i.toNat)), .pt true 1 (fun _ => .fn 141 1 (lsv [.pt true 1 (fun _ => wPT W)]))]
def m_turns3 (i : Int) (W : Wd) : List Blk := []
def r_turns3 (i : Int) (W : Wd) : SV := .v (.bool (!rlB W i.toNat))
def n_turns3 (i : Int) (W : Wd) : List Blk := []
def p_turns3 (i : Int) (W : Wd) : Prop := Szd W ∧ smB W ∧ 0 ≤ i ∧ i < W.nReady
def s_turns3 : Sy.Spec where
  X := X_turns3
  args x_ := a_turns3 x_.i x_.W
  mem x_ := m_turns3 x_.i x_.W
  pre x_ := p_turns3 x_.i x_.W
  res x_ := r_turns3 x_.i x_.W
  mem' x_ := n_turns3 x_.i x_.W
  dec args mem := match args with | [a0, a1, a2] => some ⟨intD (a0), wPTD (ptF (fnF (ptF a2 0) 0) 0)⟩ | _ => none
def c_turns3 : Con := ⟨[], s_turns3.g, none⟩
def V_turns3 (i : Int) (W : Wd) : Prop :=
  True ∧ (((W.readyN (Int.toNat i) = W.readyN (Int.toNat i) ∧ ∀ (i_1 : Nat), i_1 < W.readyN (Int.toNat i) → True ∧ W.ready (Int.toNat i) i_1 = W.ready (Int.toNat i) i_1) ∧ ((True ∧ True ∧ True ∧ True ∧ ((((((((((True ∧ W.nRam = W.nRam ∧ ∀ (i : Nat), i < W.nRam → True ∧ W.ram i = W.ram i) ∧ W.nKinds = W.nKinds ∧ ∀ (i : Nat), i < W.nKinds → True ∧ W.kinds i = W.kinds i) ∧ W.nSlots = W.nSlots ∧ ∀ (i : Nat), i < W.nSlots → ((((((True ∧ (W.slots i).kind = (W.slots i).kind) ∧ (W.slots i).base = (W.slots i).base) ∧ (W.slots i).len = (W.slots i).len) ∧ (W.slots i).mark = (W.slots i).mark) ∧ (W.slots i).rights = (W.slots i).rights) ∧ (W.slots i).badge = (W.slots i).badge) ∧ (W.slots i).from_ = (W.slots i).from_) ∧ W.nTasks = W.nTasks ∧ ∀ (i : Nat), i < W.nTasks → (((((((((((((((((((True ∧ (W.tasks i).r0 = (W.tasks i).r0) ∧ (W.tasks i).r1 = (W.tasks i).r1) ∧ (W.tasks i).r2 = (W.tasks i).r2) ∧ (W.tasks i).r3 = (W.tasks i).r3) ∧ (W.tasks i).r4 = (W.tasks i).r4) ∧ (W.tasks i).r5 = (W.tasks i).r5) ∧ (W.tasks i).r6 = (W.tasks i).r6) ∧ (W.tasks i).r7 = (W.tasks i).r7) ∧ (W.tasks i).pc = (W.tasks i).pc) ∧ (W.tasks i).st = (W.tasks i).st) ∧ (W.tasks i).prio = (W.tasks i).prio) ∧ (W.tasks i).node = (W.tasks i).node) ∧ (W.tasks i).space = (W.tasks i).space) ∧ (W.tasks i).helper = (W.tasks i).helper) ∧ (W.tasks i).loc = (W.tasks i).loc) ∧ (W.tasks i).word = (W.tasks i).word) ∧ (W.tasks i).badge = (W.tasks i).badge) ∧ (W.tasks i).owes = (W.tasks i).owes) ∧ (W.tasks i).core = (W.tasks i).core) ∧
    (W.tasks i).dom = (W.tasks i).dom) ∧ W.nLines = W.nLines ∧ ∀ (i : Nat), i < W.nLines → True ∧ W.linesN i = W.linesN i ∧ ∀ (i_1 : Nat), i_1 < W.linesN i → True ∧ W.lines i i_1 = W.lines i i_1) ∧ W.nBits = W.nBits ∧ ∀ (i : Nat), i < W.nBits → True ∧ W.bits i = W.bits i) ∧ W.nCores = W.nCores ∧ ∀ (i : Nat), i < W.nCores → True ∧ W.cores i = W.cores i) ∧ W.nReady = W.nReady ∧ ∀ (i : Nat), i < W.nReady → True ∧ W.readyN i = W.readyN i ∧ ∀ (i_1 : Nat), i_1 < W.readyN i → True ∧ W.ready i i_1 = W.ready i i_1) ∧ W.nTlbs = W.nTlbs ∧ ∀ (i : Nat), i < W.nTlbs → True ∧ W.tlbsN i = W.tlbsN i ∧ ∀ (i_1 : Nat), i_1 < W.tlbsN i → (((True ∧ (W.tlbs i i_1).sp = (W.tlbs i i_1).sp) ∧ (W.tlbs i i_1).pg = (W.tlbs i i_1).pg) ∧ (W.tlbs i i_1).fr = (W.tlbs i i_1).fr) ∧ (W.tlbs i i_1).wr = (W.tlbs i i_1).wr) ∧ W.nDoms = W.nDoms ∧ ∀ (i : Nat), i < W.nDoms → True ∧ W.doms i = W.doms i) ∧ W.time = W.time) ∧ True ∧ i = i) ∧ True) ∧ True ∧ Szd W ∧ (0 : Int) ≤ i ∧ i ≤ (100000 : Int) ∧ W.readyN (Int.toNat i) ≤ (100000 : Nat)) ∧ (anyB (W.readyN (Int.toNat i)) fun (k : Nat) => !rdB W (W.ready (Int.toNat i) k) (i / (4 : Int)) (i % (4 : Int))) = !rlB W (Int.toNat i) ∧ True
theorem q_turns3 (i : Int) (W : Wd) : evBody Tryd.prog false glN (mkT [(144, c_cntR)]) Tryd.f143 (a_turns3 i W) (m_turns3 i W) [] (r_turns3 i W) (n_turns3 i W) = V_turns3 i W := by kernel_rfl
theorem pf_turns3 (i : Int) (W : Wd) (hp : p_turns3 i W) : FnC Tryd.prog glN 143 (a_turns3 i W) (m_turns3 i W) (r_turns3 i W) (n_turns3 i W) := by
  refine fn_of (sound_cons ok_cntR sound_nil) false Tryd.func143 [] (q_turns3 i W) ?_
  unfold V_turns3
  unfold p_turns3 at hp
  obtain ⟨hz, hm, i0, i1⟩ := hp
  obtain ⟨I, rfl⟩ : ∃ I : Nat, i = I := ⟨i.toNat, by omega⟩
  simp only [true_and, and_true, and_self, implies_true, eq_self, Int.toNat_natCast, Nat.zero_add, Int.natCast_nonneg, Nat.not_lt_zero, false_implies, Nat.zero_le, Int.natCast_zero, Bool.cond_self, Bool.cond_true_left, Bool.cond_false_right, Bool.cond_true_right, Bool.cond_false_left]
  have hz1 := hz.ready
  have hz2 := hz.c1
  have := hm.2.1 I (by omega)
  refine ⟨⟨hz, by omega, by omega⟩, ?_⟩
  rw [show ((I : Int) / 4) = ((I / 4 : Nat) : Int) by omega, show ((I : Int) % 4) = ((I % 4 : Nat) : Int) by omega]
  unfold anyB rlB
  simp only [Bool.not_not]
theorem ok_turns3 : FnOK Tryd.prog glN 143 c_turns3 := fnOK_of (fun l w => Tryd.call143 l w) fun x_ hp => pf_turns3 x_.i x_.W hp
structure X_maps1 where
  i : Int
  W : Wd
def a_maps1 (i : Int) (W : Wd) : List SV := [.v (.int .i64 i), .v (.int .i64 (W.ram i.toNat)), .pt true 1 (fun _ => wPT W)]
def m_maps1 (i : Int) (W : Wd) : List Blk := []
def r_maps1 (i : Int) (W : Wd) : SV := .v (.bool (!enB W i.toNat))
def n_maps1 (i : Int) (W : Wd) : List Blk := []
def p_maps1 (i : Int) (W : Wd) : Prop := Szd W ∧ 0 ≤ i ∧ i < W.nRam ∧ isW (W.ram i.toNat)
def s_maps1 : Sy.Spec where
  X := X_maps1
  args x_ := a_maps1 x_.i x_.W
  mem x_ := m_maps1 x_.i x_.W
  pre x_ := p_maps1 x_.i x_.W
  res x_ := r_maps1 x_.i x_.W
  mem' x_ := n_maps1 x_.i x_.W
  dec args mem := match args with | [a0, a1, a2] => some ⟨intD (a0), wPTD (ptF a2 0)⟩ | _ => none
def c_maps1 : Con := ⟨[], s_maps1.g, none⟩
def V_maps1 (i : Int) (W : Wd) : Prop :=
  ((0 : Int) ≤ i ∧ (0 : Int) < (16 : Int) ∧ IntKind.wrap IntKind.i64 (i / (16 : Int)) = i / (16 : Int)) ∧ ((0 : Int) ≤ i / (16 : Int) ∧ i / (16 : Int) < (↑W.nKinds : Int)) ∧ ((bif bif W.kinds (Int.toNat (i / (16 : Int))) != (3 : Int) then W.kinds (Int.toNat (i / (16 : Int))) != (4 : Int) else false then true else W.ram (Int.toNat i) == (0 : Int)) = true → false = !enB W (Int.toNat i) ∧ True) ∧ ((bif bif W.kinds (Int.toNat (i / (16 : Int))) != (3 : Int) then W.kinds (Int.toNat (i / (16 : Int))) != (4 : Int) else false then true else W.ram (Int.toNat i) == (0 : Int)) = false → ((W.kinds (Int.toNat (i / (16 : Int))) == (4 : Int)) = true → ((bif bitsI BinOp.andNot IntKind.i64 (W.ram (Int.toNat i)) (1023 : Int) != (32768 : Int) then true else decide ((↑W.nKinds : Int) ≤ bitsI BinOp.and IntKind.i64 (W.ram (Int.toNat i)) (1023 : Int))) = false → (0 : Int) ≤ bitsI BinOp.and IntKind.i64 (W.ram (Int.toNat i)) (1023 : Int) ∧ bitsI BinOp.and IntKind.i64 (W.ram (Int.toNat i)) (1023 : Int) < (↑W.nKinds : Int)) ∧ (bif bif bitsI BinOp.andNot IntKind.i64 (W.ram (Int.toNat i)) (1023 : Int) != (32768 : Int) then true else decide ((↑W.nKinds : Int) ≤ bitsI BinOp.and IntKind.i64 (W.ram (Int.toNat i)) (1023 : Int)) then true else W.kinds (Int.toNat (bitsI BinOp.and IntKind.i64 (W.ram (Int.toNat i)) (1023 : Int))) != (3 : Int)) = !enB W (Int.toNat i) ∧ True) ∧ ((W.kinds (Int.toNat (i / (16 : Int))) == (4 : Int)) = false → ((bif bitsI BinOp.andNot IntKind.i64 (W.ram (Int.toNat i)) (17407 : Int) !=
    (32768 : Int) then true else decide ((↑W.nKinds : Int) ≤ bitsI BinOp.and IntKind.i64 (W.ram (Int.toNat i)) (1023 : Int))) = false → (0 : Int) ≤ bitsI BinOp.and IntKind.i64 (W.ram (Int.toNat i)) (1023 : Int) ∧ bitsI BinOp.and IntKind.i64 (W.ram (Int.toNat i)) (1023 : Int) < (↑W.nKinds : Int)) ∧ (bif bif bitsI BinOp.andNot IntKind.i64 (W.ram (Int.toNat i)) (17407 : Int) != (32768 : Int) then true else decide ((↑W.nKinds : Int) ≤ bitsI BinOp.and IntKind.i64 (W.ram (Int.toNat i)) (1023 : Int)) then true else W.kinds (Int.toNat (bitsI BinOp.and IntKind.i64 (W.ram (Int.toNat i)) (1023 : Int))) != (2 : Int)) = !enB W (Int.toNat i) ∧ True))
theorem q_maps1 (i : Int) (W : Wd) : evBody Tryd.prog false glN (mkT []) Tryd.f146 (a_maps1 i W) (m_maps1 i W) [] (r_maps1 i W) (n_maps1 i W) = V_maps1 i W := by kernel_rfl
theorem pf_maps1 (i : Int) (W : Wd) (hp : p_maps1 i W) : FnC Tryd.prog glN 146 (a_maps1 i W) (m_maps1 i W) (r_maps1 i W) (n_maps1 i W) := by
  refine fn_of sound_nil false Tryd.func146 [] (q_maps1 i W) ?_
  unfold V_maps1
  unfold p_maps1 at hp
  obtain ⟨hz, i0, i1, hw⟩ := hp
  obtain ⟨I, rfl⟩ : ∃ I : Nat, i = I := ⟨i.toNat, by omega⟩
  simp only [true_and, and_true, and_self, implies_true, eq_self, Int.toNat_natCast, Nat.zero_add, Int.natCast_nonneg, Nat.not_lt_zero, false_implies, Nat.zero_le, Int.natCast_zero, Bool.cond_self, Bool.cond_true_left, Bool.cond_false_right, Bool.cond_true_right, Bool.cond_false_left]
  have e16 : ((I : Int) / 16).toNat = I / 16 := by omega
  rw [e16]
  rw [Int.toNat_natCast] at hw
  unfold isW at hw
  have hz1 := hz.ram
  have hz2 := hz.k1
  have hmk : bitsI .and .i64 (W.ram I) 1023 = W.ram I % 1024 := mask64 10 (x := W.ram I) (by omega) (by decide)
  simp only [andNot1023 hw.1 hw.2, andNot17407 hw.1 hw.2, hmk]
  have hy : 0 ≤ W.ram I % 1024 := by omega
  have eN : enB W I = (W.kinds (I / 16) != 3 && W.kinds (I / 16) != 4 || W.ram I == 0 || (bif W.kinds (I / 16) == 4 then W.ram I - W.ram I % 1024 == 32768 && kof W (W.ram I % 1024) == 3 else (W.ram I - W.ram I % 1024 == 32768 || W.ram I - W.ram I % 1024 == 49152) && kof W (W.ram I % 1024) == 2)) := by
    simp only [enB]; rw [Bool.or_comm (W.ram I == 0)]
  refine ⟨⟨by decide, by rw [IntKind.wrap_i64]; omega⟩, by omega, fun h => by rw [eN, h]; rfl, fun h => ⟨fun h1 => ⟨fun h2 => ?_, ?_⟩, fun h1 => ⟨fun h2 => ?_, ?_⟩⟩⟩
  · simp only [Bool.or_eq_false_iff, decide_eq_false_iff_not] at h2; omega
  · rw [eN, h, h1, Bool.or_assoc, kofN0 hy (by decide)]; simp only [bne, cond_true, Bool.false_or, Bool.not_and]
  · simp only [Bool.or_eq_false_iff, decide_eq_false_iff_not] at h2; omega
  · rw [eN, h, h1, Bool.or_assoc, kofN0 hy (by decide)]
    have ez : ((W.ram I - W.ram I % 1024 - (W.ram I - W.ram I % 1024) / 16384 % 2 * 16384) != 32768) = !(W.ram I - W.ram I % 1024 == 32768 || W.ram I - W.ram I % 1024 == 49152) := by
      rw [bne]; congr 1
      rw [Bool.eq_iff_iff]
      simp only [Bool.or_eq_true, beq_iff_eq]
      omega
    rw [ez]; simp only [cond_false, Bool.false_or, Bool.not_and]
theorem ok_maps1 : FnOK Tryd.prog glN 146 c_maps1 := fnOK_of (fun l w => Tryd.call146 l w) fun x_ hp => pf_maps1 x_.i x_.W hp
end Go.Proofs.YtfmaeiilbhpepaaDoor
set_option linter.unusedVariables false
set_option linter.unusedSimpArgs false
set_option maxRecDepth 100000
namespace Go.Proofs.YtfmaeiilbhpepaaDoor
open Go.RowKit Go.Sy
theorem anyB_fst (n : Nat) (p : Nat → Bool) : Nat.blt (fstB n p) n = anyB n p := by
  cases hq : anyB n p with
  | true => obtain ⟨i, hi, h⟩ := anyB_iff.1 hq; exact blt_t (fstB_lt hi h)
  | false => rw [fstB_none (anyB_false.1 hq)]; exact blt_f (Nat.le_refl _)
theorem tlB_false {W : Wd} {n i : Nat} {l : Nat → Ent4} (hi : i < n) (h : tlT W l i = false) : tlB W n l = false := by
  unfold tlB; rw [allB_false (p := fun i => tlT W l i) hi h]; cases decide (n ≤ 4) <;> rfl
structure X_maps2 where
  i : Int
  W : Wd
def a_maps2 (i : Int) (W : Wd) : List SV := [.v (.int .i64 i), .sl true 4 (W.tlbsN i.toNat) (rF fun k => enL (W.tlbs i.toNat k)), .pt true 1 (fun _ => wPT W)]
def m_maps2 (i : Int) (W : Wd) : List Blk := []
def r_maps2 (i : Int) (W : Wd) : SV := .v (.bool (!tlB W (W.tlbsN i.toNat) (W.tlbs i.toNat)))
def n_maps2 (i : Int) (W : Wd) : List Blk := []
def p_maps2 (i : Int) (W : Wd) : Prop := Szd W ∧ W.tlbsN i.toNat ≤ 1000 ∧ ∀ k, k < W.nRam → isW (W.ram k)
def s_maps2 : Sy.Spec where
  X := X_maps2
  args x_ := a_maps2 x_.i x_.W
  mem x_ := m_maps2 x_.i x_.W
  pre x_ := p_maps2 x_.i x_.W
  res x_ := r_maps2 x_.i x_.W
  mem' x_ := n_maps2 x_.i x_.W
  dec args mem := match args with | [a0, a1, a2] => some ⟨intD (a0), wPTD (ptF a2 0)⟩ | _ => none
def c_maps2 : Con := ⟨[], s_maps2.g, none⟩
def V_maps2 (i : Int) (W : Wd) : Prop :=
  (↑(W.tlbsN (Int.toNat i)) : Int) ≤ (9223372036854775807 : Int) → (0 : Int) = (↑(0 : Nat) : Int) ∧ True ∧ ((0 : Nat) ≤ W.tlbsN (Int.toNat i) ∧ ∀ (j : Nat), j < (0 : Nat) → tlT W (W.tlbs (Int.toNat i)) j = true) ∧ ∀ (s : Nat), (s ≤ W.tlbsN (Int.toNat i) ∧ ∀ (j : Nat), j < s → tlT W (W.tlbs (Int.toNat i)) j = true) → (decide ((↑s : Int) < (↑(W.tlbsN (Int.toNat i)) : Int)) = true → ((0 : Int) ≤ (↑s : Int) ∧ (↑s : Int) < (↑(W.tlbsN (Int.toNat i)) : Int)) ∧ True ∧ (True ∧ True ∧ True ∧ True) ∧ True ∧ True ∧ True ∧ True ∧ True ∧ True ∧ True ∧ True ∧ True ∧ True ∧ True ∧ True ∧ True ∧ True ∧ True ∧ True ∧ True ∧ True ∧ True ∧ True ∧ True ∧ True ∧ ((bif decide ((W.tlbs (Int.toNat i) (Int.toNat (↑s : Int))).sp < (0 : Int)) then true else decide ((↑W.nKinds : Int) ≤ (W.tlbs (Int.toNat i) (Int.toNat (↑s : Int))).sp)) = false → (0 : Int) ≤ (W.tlbs (Int.toNat i) (Int.toNat (↑s : Int))).sp ∧ (W.tlbs (Int.toNat i) (Int.toNat (↑s : Int))).sp < (↑W.nKinds : Int)) ∧ ((bif bif bif bif decide ((W.tlbs (Int.toNat i) (Int.toNat (↑s : Int))).sp < (0 : Int)) then true else decide ((↑W.nKinds : Int) ≤ (W.tlbs (Int.toNat i) (Int.toNat (↑s : Int))).sp) then true else W.kinds (Int.toNat (W.tlbs (Int.toNat i) (Int.toNat (↑s : Int))).sp) != (4 : Int) then true else decide ((W.tlbs (Int.toNat i) (Int.toNat (↑s : Int))).pg < (0 : Int)) then true else decide ((255 : Int) < (W.tlbs (Int.toNat i) (Int.toNat (↑s : Int))).pg)) = true → true = !tlB W (W.tlbsN (Int.toNat i)) (W.tlbs (Int.toNat i)) ∧ True) ∧ ((bif
    bif bif bif decide ((W.tlbs (Int.toNat i) (Int.toNat (↑s : Int))).sp < (0 : Int)) then true else decide ((↑W.nKinds : Int) ≤ (W.tlbs (Int.toNat i) (Int.toNat (↑s : Int))).sp) then true else W.kinds (Int.toNat (W.tlbs (Int.toNat i) (Int.toNat (↑s : Int))).sp) != (4 : Int) then true else decide ((W.tlbs (Int.toNat i) (Int.toNat (↑s : Int))).pg < (0 : Int)) then true else decide ((255 : Int) < (W.tlbs (Int.toNat i) (Int.toNat (↑s : Int))).pg)) = false → True ∧ True ∧ True ∧ True ∧ True ∧ True ∧ True ∧ True ∧ True ∧ IntKind.wrap IntKind.i64 ((16 : Int) * (W.tlbs (Int.toNat i) (Int.toNat (↑s : Int))).pg) = (16 : Int) * (W.tlbs (Int.toNat i) (Int.toNat (↑s : Int))).pg ∧ (((W.nRam = W.nRam ∧ ∀ (i : Nat), i < W.nRam → True ∧ W.ram i = W.ram i) ∧ (W.tlbs (Int.toNat i) (Int.toNat (↑s : Int))).sp = (W.tlbs (Int.toNat i) (Int.toNat (↑s : Int))).sp ∧ (16 : Int) * (W.tlbs (Int.toNat i) (Int.toNat (↑s : Int))).pg = (16 : Int) * (W.tlbs (Int.toNat i) (Int.toNat (↑s : Int))).pg ∧ True) ∧ True ∧ ∀ (i : Nat), i < W.nRam → (0 : Int) ≤ W.ram i ∧ W.ram i ≤ (65535 : Int)) ∧ True ∧ True ∧ True ∧ True ∧ True ∧ ((bif bif wkE W.nRam W.ram (W.tlbs (Int.toNat i) (Int.toNat (↑s : Int))).sp ((16 : Int) * (W.tlbs (Int.toNat i) (Int.toNat (↑s : Int))).pg) != (0 : Int) then true else wkF W.nRam W.ram (W.tlbs (Int.toNat i) (Int.toNat (↑s : Int))).sp ((16 : Int) * (W.tlbs (Int.toNat i) (Int.toNat (↑s : Int))).pg) != (W.tlbs (Int.toNat i) (Int.toNat (↑s : Int))).fr then true else wkW W.nRam W.ram (W.tlbs
    (Int.toNat i) (Int.toNat (↑s : Int))).sp ((16 : Int) * (W.tlbs (Int.toNat i) (Int.toNat (↑s : Int))).pg) != (W.tlbs (Int.toNat i) (Int.toNat (↑s : Int))).wr) = true → true = !tlB W (W.tlbsN (Int.toNat i)) (W.tlbs (Int.toNat i)) ∧ True) ∧ ((bif bif wkE W.nRam W.ram (W.tlbs (Int.toNat i) (Int.toNat (↑s : Int))).sp ((16 : Int) * (W.tlbs (Int.toNat i) (Int.toNat (↑s : Int))).pg) != (0 : Int) then true else wkF W.nRam W.ram (W.tlbs (Int.toNat i) (Int.toNat (↑s : Int))).sp ((16 : Int) * (W.tlbs (Int.toNat i) (Int.toNat (↑s : Int))).pg) != (W.tlbs (Int.toNat i) (Int.toNat (↑s : Int))).fr then true else wkW W.nRam W.ram (W.tlbs (Int.toNat i) (Int.toNat (↑s : Int))).sp ((16 : Int) * (W.tlbs (Int.toNat i) (Int.toNat (↑s : Int))).pg) != (W.tlbs (Int.toNat i) (Int.toNat (↑s : Int))).wr) = false → True ∧ True ∧ ((0 : Int) ≤ (0 : Int) ∧ (0 : Int) ≤ (↑s : Int) ∧ (↑s : Int) ≤ (↑(W.tlbsN (Int.toNat i)) : Int)) ∧ True ∧ True ∧ True ∧ True ∧ (((Int.toNat (↑s : Int) - Int.toNat (0 : Int) = Int.toNat (↑s : Int) - Int.toNat (0 : Int) ∧ ∀ (i_1 : Nat), i_1 < Int.toNat (↑s : Int) - Int.toNat (0 : Int) → (((True ∧ (W.tlbs (Int.toNat i) (Int.toNat (0 : Int) + i_1)).sp = (W.tlbs (Int.toNat i) (Int.toNat (0 : Int) + i_1)).sp) ∧ (W.tlbs (Int.toNat i) (Int.toNat (0 : Int) + i_1)).pg = (W.tlbs (Int.toNat i) (Int.toNat (0 : Int) + i_1)).pg) ∧ (W.tlbs (Int.toNat i) (Int.toNat (0 : Int) + i_1)).fr = (W.tlbs (Int.toNat i) (Int.toNat (0 : Int) + i_1)).fr) ∧ (W.tlbs (Int.toNat i) (Int.toNat (0 : Int) +
    i_1)).wr = (W.tlbs (Int.toNat i) (Int.toNat (0 : Int) + i_1)).wr) ∧ (W.tlbs (Int.toNat i) (Int.toNat (↑s : Int))).sp = (W.tlbs (Int.toNat i) (Int.toNat (↑s : Int))).sp ∧ (W.tlbs (Int.toNat i) (Int.toNat (↑s : Int))).pg = (W.tlbs (Int.toNat i) (Int.toNat (↑s : Int))).pg ∧ True) ∧ True ∧ True) ∧ True ∧ True ∧ True ∧ True ∧ (True ∧ True ∧ True ∧ True) ∧ (fdO (Int.toNat (↑s : Int) - Int.toNat (0 : Int)) (fun (a : Nat) => W.tlbs (Int.toNat i) (Int.toNat (0 : Int) + a)) (W.tlbs (Int.toNat i) (Int.toNat (↑s : Int))).sp (W.tlbs (Int.toNat i) (Int.toNat (↑s : Int))).pg = true → true = !tlB W (W.tlbsN (Int.toNat i)) (W.tlbs (Int.toNat i)) ∧ True) ∧ (fdO (Int.toNat (↑s : Int) - Int.toNat (0 : Int)) (fun (a : Nat) => W.tlbs (Int.toNat i) (Int.toNat (0 : Int) + a)) (W.tlbs (Int.toNat i) (Int.toNat (↑s : Int))).sp (W.tlbs (Int.toNat i) (Int.toNat (↑s : Int))).pg = false → IntKind.wrap IntKind.i64 ((↑s : Int) + (1 : Int)) = (↑s : Int) + (1 : Int) ∧ ∃ (s' : Nat), (↑s : Int) + (1 : Int) = (↑s' : Int) ∧ True ∧ (s' ≤ W.tlbsN (Int.toNat i) ∧ ∀ (j : Nat), j < s' → tlT W (W.tlbs (Int.toNat i)) j = true) ∧ W.tlbsN (Int.toNat i) - s' < W.tlbsN (Int.toNat i) - s)))) ∧ (decide ((↑s : Int) < (↑(W.tlbsN (Int.toNat i)) : Int)) = false → (↑(W.tlbsN (Int.toNat i)) : Int) ≤ (9223372036854775807 : Int) → decide ((4 : Int) < (↑(W.tlbsN (Int.toNat i)) : Int)) = !tlB W (W.tlbsN (Int.toNat i)) (W.tlbs (Int.toNat i)) ∧ True)
theorem q_maps2 (i : Int) (W : Wd) : evBody Tryd.prog false glN (mkT [(42, c_walk), (43, c_find)]) Tryd.f148 (a_maps2 i W) (m_maps2 i W) [.inv (an_m2 W (W.tlbsN i.toNat) (W.tlbs i.toNat))] (r_maps2 i W) (n_maps2 i W) = V_maps2 i W := by kernel_rfl
theorem pf_maps2 (i : Int) (W : Wd) (hp : p_maps2 i W) : FnC Tryd.prog glN 148 (a_maps2 i W) (m_maps2 i W) (r_maps2 i W) (n_maps2 i W) := by
  refine fn_of (sound_cons ok_walk (sound_cons ok_find sound_nil)) false Tryd.func148 [.inv (an_m2 W (W.tlbsN i.toNat) (W.tlbs i.toNat))] (q_maps2 i W) ?_
  unfold V_maps2
  unfold p_maps2 at hp
  obtain ⟨hz, hn, hw⟩ := hp
  obtain ⟨l, hl⟩ : ∃ l, l = W.tlbs i.toNat := ⟨_, rfl⟩
  obtain ⟨n, hnn⟩ : ∃ n, n = W.tlbsN i.toNat := ⟨_, rfl⟩
  simp only [true_and, and_true, and_self, implies_true, eq_self, Int.toNat_natCast, Nat.zero_add, Int.natCast_nonneg, Nat.not_lt_zero, false_implies, Nat.zero_le, Int.natCast_zero, Bool.cond_self, Bool.cond_true_left, Bool.cond_false_right, Bool.cond_true_right, Bool.cond_false_left]
  simp only [← hl, ← hnn] at hn ⊢
  have wr : ∀ z : Int, -100000 ≤ z → z ≤ 100000 → IntKind.i64.wrap z = z := fun z h1 h2 => by rw [IntKind.wrap_i64]; omega
  refine fun _ s hs => ⟨fun h => ?_, fun h _ => ?_⟩
  · have hlt := lt_of_dec h
    have eA : (decide ((l s).sp < 0) || decide ((W.nKinds : Int) ≤ (l s).sp) || W.kinds (l s).sp.toNat != 4 || decide ((l s).pg < 0) || decide (255 < (l s).pg)) = (!(kof W (l s).sp == 4) || farB (l s).pg 255) := by
      rw [kofN (by decide), Bool.or_assoc]; rfl
    have eF : fdO (s - Int.toNat 0) (fun a => l (Int.toNat 0 + a)) (l s).sp (l s).pg = anyB s (fun k => (l k).sp == (l s).sp && (l k).pg == (l s).pg) := by
      unfold fdO; rw [anyB_fst]; simp only [Int.toNat_zero, Nat.sub_zero, Nat.zero_add]; rfl
    rw [eA, eF]
    refine ⟨by omega, fun h1 => ?_, fun h1 => ?_, fun h1 => ?_⟩
    · simp only [Bool.or_eq_false_iff, decide_eq_false_iff_not] at h1; omega
    · rw [tlB_false hlt (by revert h1; unfold tlT; cases kof W (l s).sp == 4 <;> cases farB (l s).pg 255 <;> simp)]; rfl
    have hf : farB (l s).pg 255 = false := by rw [Bool.or_eq_false_iff] at h1; exact h1.2
    have hpg : 0 ≤ (l s).pg ∧ (l s).pg ≤ 255 := by simp [farB] at hf; omega
    refine ⟨wr _ (by omega) (by omega), hw, fun h2 => ?_, fun h2 => ⟨⟨by decide, by omega⟩, fun h3 => ?_, fun h3 => ⟨wr _ (by omega) (by omega), exS ⟨⟨by omega, snocB hs.2 ?_⟩, by omega⟩⟩⟩⟩
    · rw [tlB_false hlt (by revert h2; simp only [bne]; unfold tlT; cases wkE W.nRam W.ram (l s).sp (16 * (l s).pg) == 0 <;> cases wkF W.nRam W.ram (l s).sp (16 * (l s).pg) == (l s).fr <;> cases wkW W.nRam W.ram (l s).sp (16 * (l s).pg) == (l s).wr <;> simp)]; rfl
    · rw [tlB_false hlt (by unfold tlT; rw [h3]; simp)]; rfl
    · revert h1 h2
      simp only [bne]; unfold tlT
      rw [h3]
      cases kof W (l s).sp == 4 <;> cases farB (l s).pg 255 <;> cases wkE W.nRam W.ram (l s).sp (16 * (l s).pg) == 0 <;> cases wkF W.nRam W.ram (l s).sp (16 * (l s).pg) == (l s).fr <;> cases wkW W.nRam W.ram (l s).sp (16 * (l s).pg) == (l s).wr <;> simp
  · have hge := ge_of_dec h
    unfold tlB
    rw [allB_all fun j hj => hs.2 j (by omega), Bool.and_true, ← decide_not]
    exact decide_eq_decide.2 (by omega)
theorem ok_maps2 : FnOK Tryd.prog glN 148 c_maps2 := fnOK_of (fun l w => Tryd.call148 l w) fun x_ hp => pf_maps2 x_.i x_.W hp
end Go.Proofs.YtfmaeiilbhpepaaDoor
set_option linter.unusedVariables false
set_option linter.unusedSimpArgs false
set_option maxRecDepth 100000
namespace Go.Proofs.YtfmaeiilbhpepaaDoor
open Go.RowKit Go.Sy
def an_t1 (W : Wd) (f : Nat) : Ann where
  σ := Nat
  rt := [(4, 0), (37, 1)]
  sh i := [(4, pt0 0), (37, .slc 1 0 none 0 11), (39, .v (.int .i64 i))]
  mh _ := []
  inv i := i ≤ 11 ∧ ∀ j, j < i → farB (sel [(W.tasks f).r0, (W.tasks f).r1, (W.tasks f).r2, (W.tasks f).r3, (W.tasks f).r4, (W.tasks f).r5, (W.tasks f).r6, (W.tasks f).r7, (W.tasks f).pc, (W.tasks f).word, (W.tasks f).badge] j) 65535 = false
  μ i := 11 - i
  init := 0
def an_t2 (W : Wd) (f : Nat) : Ann where
  σ := Nat
  rt := [(4, 0)]
  sh i := [(4, pt0 0), (126, .v (.int .i64 i)), (8, .v (.int .i64 (cntB i fun k => (W.tasks k).owes == f : Nat)))]
  mh _ := []
  inv i := i ≤ W.nTasks
  μ i := W.nTasks - i
  init := 0
structure Bo2 where
  b : Bool
def cut_t25 (W : Wd) (f : Nat) : Cut where
  σ := Bo2
  rt := [(4, 0)]
  sh s := [(4, pt0 0), (11, .v (.int .i64 (stands W f : Nat))), (12, .v (.int .i64 (turnsN W f : Nat))), (13, .v (.int .i64 0)), (14, .v (.int .i64 0)), (171, .v (.int .i64 (W.tasks f).st)), (172, .v (.bool s.b))]
  mem _ := [.cells (runL (W.tasks f))]
  inv s := s.b = ((W.tasks f).st == 2 || (W.tasks f).st == 3 || (W.tasks f).st == 4 || (W.tasks f).st == 6)
  dec fr _ := ⟨boolD (fr 172)⟩
theorem castN0 (a : Nat) : (((a : Nat) : Int) != 0) = !(a == 0) := by rw [bne, castE0]
theorem castN1 (a : Nat) : (((a : Nat) : Int) != 1) = !(a == 1) := by rw [bne, castE1]
theorem locN {W : Wd} {f k : Int} (hk : k ≠ -1) : (decide (f < 0) || !okF W f k) = !(kof W f == k) := by
  unfold okF
  rcases Int.lt_or_le f 0 with h | h
  · rw [decide_eq_true h, kof_out (.inl h), show ((-1 : Int) == k) = false from beq_eq_false_iff_ne.2 fun e => hk e.symm]; rfl
  · rw [decide_eq_false (show ¬ f < 0 by omega), show (f == -1) = false from beq_eq_false_iff_ne.2 (by omega)]; rfl
theorem owed_ne {W : Wd} {f c : Nat} (hc : owed W f = c) : (decide (1 < (c : Int)) || (((c : Int) == 1) != ((W.tasks f).st == 5))) = !owedOK W f := by
  unfold owedOK
  rw [hc, castE1]
  rcases Nat.lt_or_ge 1 c with h | h
  · rw [decide_eq_true (show (1 : Int) < c by omega), decide_eq_false (show ¬ c ≤ 1 by omega)]; rfl
  · rw [decide_eq_false (show ¬ (1 : Int) < c by omega), decide_eq_true (show c ≤ 1 by omega)]
    cases c == 1 <;> cases (W.tasks f).st == 5 <;> rfl
theorem sel11 {t : Run} {s : Nat} : (bif s.blt 8 then [t.r0, t.r1, t.r2, t.r3, t.r4, t.r5, t.r6, t.r7].getD s 0 else [t.pc, t.word, t.badge].getD (s - 8) 0) = [t.r0, t.r1, t.r2, t.r3, t.r4, t.r5, t.r6, t.r7, t.pc, t.word, t.badge].getD s 0 := by
  rcases Nat.lt_or_ge s 8 with h | h
  · rw [blt_t h]
    have : s = 0 ∨ s = 1 ∨ s = 2 ∨ s = 3 ∨ s = 4 ∨ s = 5 ∨ s = 6 ∨ s = 7 := by omega
    rcases this with rfl | rfl | rfl | rfl | rfl | rfl | rfl | rfl <;> rfl
  · rw [blt_f h]
    obtain ⟨k, rfl⟩ : ∃ k, s = 8 + k := ⟨s - 8, by omega⟩
    rw [show 8 + k - 8 = k by omega, Nat.add_comm]; rfl
theorem all11 {W : Wd} {f : Nat} (h : ∀ j, j < 11 → farB (sel [(W.tasks f).r0, (W.tasks f).r1, (W.tasks f).r2, (W.tasks f).r3, (W.tasks f).r4, (W.tasks f).r5, (W.tasks f).r6, (W.tasks f).r7, (W.tasks f).pc, (W.tasks f).word, (W.tasks f).badge] j) 65535 = false) : regFar (W.tasks f) = false ∧ farB (W.tasks f).pc 65535 = false ∧ farB (W.tasks f).word 65535 = false ∧ farB (W.tasks f).badge 65535 = false := by
  refine ⟨reg_of fun j hj => ?_, h 8 (by omega), h 9 (by omega), h 10 (by omega)⟩
  have := h j (by omega)
  have hj' : j = 0 ∨ j = 1 ∨ j = 2 ∨ j = 3 ∨ j = 4 ∨ j = 5 ∨ j = 6 ∨ j = 7 := by omega
  rcases hj' with rfl | rfl | rfl | rfl | rfl | rfl | rfl | rfl <;> exact this
theorem not11 {W : Wd} {f s : Nat} (hs : s < 11) (h : farB ([(W.tasks f).r0, (W.tasks f).r1, (W.tasks f).r2, (W.tasks f).r3, (W.tasks f).r4, (W.tasks f).r5, (W.tasks f).r6, (W.tasks f).r7, (W.tasks f).pc, (W.tasks f).word, (W.tasks f).badge].getD s 0) 65535 = true) : (!regFar (W.tasks f) && !numFar W (W.tasks f)) = false := by
  cases h1 : regFar (W.tasks f) with
  | true => rfl
  | false =>
    cases h2 : numFar W (W.tasks f) with
    | true => rfl
    | false =>
      exfalso
      have hr := reg_to h1
      unfold numFar at h2
      simp only [Bool.or_eq_false_iff] at h2
      have : s < 8 ∨ s = 8 ∨ s = 9 ∨ s = 10 := by omega
      rcases this with h3 | rfl | rfl | rfl
      · have h4 := hr s h3
        have hj' : s = 0 ∨ s = 1 ∨ s = 2 ∨ s = 3 ∨ s = 4 ∨ s = 5 ∨ s = 6 ∨ s = 7 := by omega
        rcases hj' with rfl | rfl | rfl | rfl | rfl | rfl | rfl | rfl <;> exact Bool.false_ne_true (h4.symm.trans h)
      · exact Bool.false_ne_true (h2.1.1.1.1.1.1.symm.trans h)
      · exact Bool.false_ne_true (h2.1.1.1.1.1.2.symm.trans h)
      · exact Bool.false_ne_true (h2.1.1.1.1.2.symm.trans h)
structure X_wBlankF where
  unit_ : Unit
def a_wBlankF : List SV := []
def m_wBlankF : List Blk := []
def r_wBlankF : SV := .ag 20 (lsv (runL Run.blank))
def n_wBlankF : List Blk := []
def p_wBlankF : Prop := True
def s_wBlankF : Sy.Spec where
  X := X_wBlankF
  args x_ := a_wBlankF
  mem x_ := m_wBlankF
  pre x_ := p_wBlankF
  res x_ := r_wBlankF
  mem' x_ := n_wBlankF
  dec args mem := match args with | [] => some ⟨()⟩ | _ => none
def c_wBlankF : Con := ⟨[], s_wBlankF.g, none⟩
def V_wBlankF : Prop :=
  True ∧ (True ∧ True ∧ True ∧ True ∧ True ∧ True ∧ True ∧ True ∧ True ∧ True ∧ True ∧ True ∧ True ∧ True ∧ True ∧ True ∧ True ∧ True ∧ True ∧ True) ∧ ((((((((((((((((((((True ∧ (0 : Int) = (0 : Int)) ∧ (0 : Int) = (0 : Int)) ∧ (0 : Int) = (0 : Int)) ∧ (0 : Int) = (0 : Int)) ∧ (0 : Int) = (0 : Int)) ∧ (0 : Int) = (0 : Int)) ∧ (0 : Int) = (0 : Int)) ∧ (0 : Int) = (0 : Int)) ∧ (0 : Int) = (0 : Int)) ∧ (0 : Int) = (0 : Int)) ∧ (0 : Int) = (0 : Int)) ∧ (-1 : Int) = (-1 : Int)) ∧ (-1 : Int) = (-1 : Int)) ∧ (-1 : Int) = (-1 : Int)) ∧ (-1 : Int) = (-1 : Int)) ∧ (0 : Int) = (0 : Int)) ∧ (0 : Int) = (0 : Int)) ∧ (-1 : Int) = (-1 : Int)) ∧ (0 : Int) = (0 : Int)) ∧ (0 : Int) = (0 : Int)) ∧ True
theorem q_wBlankF : evBody Tryd.prog false glN (mkT []) Tryd.f75 (a_wBlankF) (m_wBlankF) [] (r_wBlankF) (n_wBlankF) = V_wBlankF := by kernel_rfl
theorem pf_wBlankF (hp : p_wBlankF) : FnC Tryd.prog glN 75 (a_wBlankF) (m_wBlankF) (r_wBlankF) (n_wBlankF) := by
  refine fn_of sound_nil false Tryd.func75 [] (q_wBlankF) ?_
  unfold V_wBlankF
  simp only [true_and, and_true, and_self, implies_true, eq_self, Int.toNat_natCast, Nat.zero_add, Int.natCast_nonneg, Nat.not_lt_zero, false_implies, Nat.zero_le, Int.natCast_zero, Bool.cond_self]
theorem ok_wBlankF : FnOK Tryd.prog glN 75 c_wBlankF := fnOK_of (fun l w => Tryd.call75 l w) fun x_ hp => pf_wBlankF hp
structure X_frames1 where
  i : Int
  k : Int
  nc : Nat
  cl : Nat → Int
  nk : Nat
  ky : Nat → Int
  nu : Nat
  us : Nat → Bool
def a_frames1 (i : Int) (k : Int) (nc : Nat) (cl : Nat → Int) (nk : Nat) (ky : Nat → Int) (nu : Nat) (us : Nat → Bool) : List SV := [.v (.int .i64 i), .v (.int .i64 k), .pt true 1 (fun _ => .sl true 1 nc (iF cl)), .pt true 1 (fun _ => .sl true 1 nk (iF ky)), .pt true 1 (fun _ => .sl true 1 nu (fun i _ => .v (.bool (us i))))]
def m_frames1 (i : Int) (k : Int) (nc : Nat) (cl : Nat → Int) (nk : Nat) (ky : Nat → Int) (nu : Nat) (us : Nat → Bool) : List Blk := []
def r_frames1 (i : Int) (k : Int) (nc : Nat) (cl : Nat → Int) (nk : Nat) (ky : Nat → Int) (nu : Nat) (us : Nat → Bool) : SV := .v (.bool (decide (1 < cl i.toNat) || (k != 0 && (ky i.toNat == 0 || (cl i.toNat == 1 && !us i.toNat)))))
def n_frames1 (i : Int) (k : Int) (nc : Nat) (cl : Nat → Int) (nk : Nat) (ky : Nat → Int) (nu : Nat) (us : Nat → Bool) : List Blk := []
def p_frames1 (i : Int) (k : Int) (nc : Nat) (cl : Nat → Int) (nk : Nat) (ky : Nat → Int) (nu : Nat) (us : Nat → Bool) : Prop := 0 ≤ i ∧ i < nc ∧ i < nk ∧ i < nu
def s_frames1 : Sy.Spec where
  X := X_frames1
  args x_ := a_frames1 x_.i x_.k x_.nc x_.cl x_.nk x_.ky x_.nu x_.us
  mem x_ := m_frames1 x_.i x_.k x_.nc x_.cl x_.nk x_.ky x_.nu x_.us
  pre x_ := p_frames1 x_.i x_.k x_.nc x_.cl x_.nk x_.ky x_.nu x_.us
  res x_ := r_frames1 x_.i x_.k x_.nc x_.cl x_.nk x_.ky x_.nu x_.us
  mem' x_ := n_frames1 x_.i x_.k x_.nc x_.cl x_.nk x_.ky x_.nu x_.us
  dec args mem := match args with | [a0, a1, a2, a3, a4] => some ⟨intD (a0), intD (a1), slN (ptF a2 0), fun i => intD (slF (ptF a2 0) i 0), slN (ptF a3 0), fun i => intD (slF (ptF a3 0) i 0), slN (ptF a4 0), fun i => boolD (slF (ptF a4 0) i 0)⟩ | _ => none
def c_frames1 : Con := ⟨[], s_frames1.g, none⟩
def V_frames1 (i : Int) (k : Int) (nc : Nat) (cl : Nat → Int) (nk : Nat) (ky : Nat → Int) (nu : Nat) (us : Nat → Bool) : Prop :=
  ((0 : Int) ≤ i ∧ i < (↑nc : Int)) ∧ ((k != (0 : Int)) = true → decide ((1 : Int) < cl (Int.toNat i)) = false → (0 : Int) ≤ i ∧ i < (↑nk : Int)) ∧ ((ky (Int.toNat i) == (0 : Int)) = false → (k != (0 : Int)) = true → decide ((1 : Int) < cl (Int.toNat i)) = false → (0 : Int) ≤ i ∧ i < (↑nc : Int)) ∧ ((cl (Int.toNat i) == (1 : Int)) = true → (ky (Int.toNat i) == (0 : Int)) = false → (k != (0 : Int)) = true → decide ((1 : Int) < cl (Int.toNat i)) = false → (0 : Int) ≤ i ∧ i < (↑nu : Int)) ∧ (bif decide ((1 : Int) < cl (Int.toNat i)) then true else bif k != (0 : Int) then bif ky (Int.toNat i) == (0 : Int) then true else bif cl (Int.toNat i) == (1 : Int) then !us (Int.toNat i) else false else false) = (decide ((1 : Int) < cl (Int.toNat i)) || k != (0 : Int) && (ky (Int.toNat i) == (0 : Int) || cl (Int.toNat i) == (1 : Int) && !us (Int.toNat i))) ∧ True
theorem q_frames1 (i : Int) (k : Int) (nc : Nat) (cl : Nat → Int) (nk : Nat) (ky : Nat → Int) (nu : Nat) (us : Nat → Bool) : evBody Tryd.prog false glN (mkT []) Tryd.f133 (a_frames1 i k nc cl nk ky nu us) (m_frames1 i k nc cl nk ky nu us) [] (r_frames1 i k nc cl nk ky nu us) (n_frames1 i k nc cl nk ky nu us) = V_frames1 i k nc cl nk ky nu us := by kernel_rfl
theorem pf_frames1 (i : Int) (k : Int) (nc : Nat) (cl : Nat → Int) (nk : Nat) (ky : Nat → Int) (nu : Nat) (us : Nat → Bool) (hp : p_frames1 i k nc cl nk ky nu us) : FnC Tryd.prog glN 133 (a_frames1 i k nc cl nk ky nu us) (m_frames1 i k nc cl nk ky nu us) (r_frames1 i k nc cl nk ky nu us) (n_frames1 i k nc cl nk ky nu us) := by
  refine fn_of sound_nil false Tryd.func133 [] (q_frames1 i k nc cl nk ky nu us) ?_
  unfold V_frames1
  unfold p_frames1 at hp
  simp only [true_and, and_true, and_self, implies_true, eq_self, Int.toNat_natCast, Nat.zero_add, Int.natCast_nonneg, Nat.not_lt_zero, false_implies, Nat.zero_le, Int.natCast_zero, Bool.cond_self, Bool.cond_true_left, Bool.cond_false_right, Bool.cond_true_right, Bool.cond_false_left]
  refine ⟨?_, fun _ _ => ?_, fun _ _ _ => ?_, fun _ _ _ _ => ?_⟩ <;> omega
theorem ok_frames1 : FnOK Tryd.prog glN 133 c_frames1 := fnOK_of (fun l w => Tryd.call133 l w) fun x_ hp => pf_frames1 x_.i x_.k x_.nc x_.cl x_.nk x_.ky x_.nu x_.us hp
structure X_tasks1 where
  i : Int
  W : Wd
def a_tasks1 (i : Int) (W : Wd) : List SV := [.v (.int .i64 i), .ag 20 (lsv (runL (W.tasks i.toNat))), .pt true 1 (fun _ => wPT W)]
def m_tasks1 (i : Int) (W : Wd) : List Blk := []
def r_tasks1 (i : Int) (W : Wd) : SV := .v (.bool (!tkB W i.toNat))
def n_tasks1 (i : Int) (W : Wd) : List Blk := []
def p_tasks1 (i : Int) (W : Wd) : Prop := Szd W ∧ smB W ∧ 0 ≤ i ∧ i < W.nKinds
def s_tasks1 : Sy.Spec where
  X := X_tasks1
  args x_ := a_tasks1 x_.i x_.W
  mem x_ := m_tasks1 x_.i x_.W
  pre x_ := p_tasks1 x_.i x_.W
  res x_ := r_tasks1 x_.i x_.W
  mem' x_ := n_tasks1 x_.i x_.W
  dec args mem := match args with | [a0, a1, a2] => some ⟨intD (a0), wPTD (ptF a2 0)⟩ | _ => none
def c_tasks1 : Con := ⟨[], s_tasks1.g, none⟩
def K_tasks1_0 (W : Wd) : Prop :=
  (((((((((((True ∧ W.nRam = W.nRam ∧ ∀ (i : Nat), i < W.nRam → True ∧ W.ram i = W.ram i) ∧ W.nKinds = W.nKinds ∧ ∀ (i : Nat), i < W.nKinds → True ∧ W.kinds i = W.kinds i) ∧ W.nSlots = W.nSlots ∧ ∀ (i : Nat), i < W.nSlots → ((((((True ∧ (W.slots i).kind = (W.slots i).kind) ∧ (W.slots i).base = (W.slots i).base) ∧ (W.slots i).len = (W.slots i).len) ∧ (W.slots i).mark = (W.slots i).mark) ∧ (W.slots i).rights = (W.slots i).rights) ∧ (W.slots i).badge = (W.slots i).badge) ∧ (W.slots i).from_ = (W.slots i).from_) ∧ W.nTasks = W.nTasks ∧ ∀ (i : Nat), i < W.nTasks → (((((((((((((((((((True ∧ (W.tasks i).r0 = (W.tasks i).r0) ∧ (W.tasks i).r1 = (W.tasks i).r1) ∧ (W.tasks i).r2 = (W.tasks i).r2) ∧ (W.tasks i).r3 = (W.tasks i).r3) ∧ (W.tasks i).r4 = (W.tasks i).r4) ∧ (W.tasks i).r5 = (W.tasks i).r5) ∧ (W.tasks i).r6 = (W.tasks i).r6) ∧ (W.tasks i).r7 = (W.tasks i).r7) ∧ (W.tasks i).pc = (W.tasks i).pc) ∧ (W.tasks i).st = (W.tasks i).st) ∧ (W.tasks i).prio = (W.tasks i).prio) ∧ (W.tasks i).node = (W.tasks i).node) ∧ (W.tasks i).space = (W.tasks i).space) ∧ (W.tasks i).helper = (W.tasks i).helper) ∧ (W.tasks i).loc = (W.tasks i).loc) ∧ (W.tasks i).word = (W.tasks i).word) ∧ (W.tasks i).badge = (W.tasks i).badge) ∧ (W.tasks i).owes = (W.tasks i).owes) ∧ (W.tasks i).core = (W.tasks i).core) ∧ (W.tasks i).dom = (W.tasks i).dom) ∧ W.nLines = W.nLines ∧ ∀ (i : Nat), i < W.nLines → True ∧ W.linesN i = W.linesN i ∧ ∀ (i_1 : Nat), i_1 < W.linesN i → True ∧ W.lines i i_1 = W.lines i i_1) ∧ W.nBits =
    W.nBits ∧ ∀ (i : Nat), i < W.nBits → True ∧ W.bits i = W.bits i) ∧ W.nCores = W.nCores ∧ ∀ (i : Nat), i < W.nCores → True ∧ W.cores i = W.cores i) ∧ W.nReady = W.nReady ∧ ∀ (i : Nat), i < W.nReady → True ∧ W.readyN i = W.readyN i ∧ ∀ (i_1 : Nat), i_1 < W.readyN i → True ∧ W.ready i i_1 = W.ready i i_1) ∧ W.nTlbs = W.nTlbs ∧ ∀ (i : Nat), i < W.nTlbs → True ∧ W.tlbsN i = W.tlbsN i ∧ ∀ (i_1 : Nat), i_1 < W.tlbsN i → (((True ∧ (W.tlbs i i_1).sp = (W.tlbs i i_1).sp) ∧ (W.tlbs i i_1).pg = (W.tlbs i i_1).pg) ∧ (W.tlbs i i_1).fr = (W.tlbs i i_1).fr) ∧ (W.tlbs i i_1).wr = (W.tlbs i i_1).wr) ∧ W.nDoms = W.nDoms ∧ ∀ (i : Nat), i < W.nDoms → True ∧ W.doms i = W.doms i) ∧ W.time = W.time)
def K_tasks1_1 (i : Int) (W : Wd) : Prop :=
  ((((((((((((((((((((True ∧ (W.tasks (Int.toNat i)).r0 = (W.tasks (Int.toNat i)).r0) ∧ (W.tasks (Int.toNat i)).r1 = (W.tasks (Int.toNat i)).r1) ∧ (W.tasks (Int.toNat i)).r2 = (W.tasks (Int.toNat i)).r2) ∧ (W.tasks (Int.toNat i)).r3 = (W.tasks (Int.toNat i)).r3) ∧ (W.tasks (Int.toNat i)).r4 = (W.tasks (Int.toNat i)).r4) ∧ (W.tasks (Int.toNat i)).r5 = (W.tasks (Int.toNat i)).r5) ∧ (W.tasks (Int.toNat i)).r6 = (W.tasks (Int.toNat i)).r6) ∧ (W.tasks (Int.toNat i)).r7 = (W.tasks (Int.toNat i)).r7) ∧ (W.tasks (Int.toNat i)).pc = (W.tasks (Int.toNat i)).pc) ∧ (W.tasks (Int.toNat i)).st = (W.tasks (Int.toNat i)).st) ∧ (W.tasks (Int.toNat i)).prio = (W.tasks (Int.toNat i)).prio) ∧ (W.tasks (Int.toNat i)).node = (W.tasks (Int.toNat i)).node) ∧ (W.tasks (Int.toNat i)).space = (W.tasks (Int.toNat i)).space) ∧ (W.tasks (Int.toNat i)).helper = (W.tasks (Int.toNat i)).helper) ∧ (W.tasks (Int.toNat i)).loc = (W.tasks (Int.toNat i)).loc) ∧ (W.tasks (Int.toNat i)).word = (W.tasks (Int.toNat i)).word) ∧ (W.tasks (Int.toNat i)).badge = (W.tasks (Int.toNat i)).badge) ∧ (W.tasks (Int.toNat i)).owes = (W.tasks (Int.toNat i)).owes) ∧ (W.tasks (Int.toNat i)).core = (W.tasks (Int.toNat i)).core) ∧ (W.tasks (Int.toNat i)).dom = (W.tasks (Int.toNat i)).dom)
def K_tasks1_2 (i : Int) (W : Wd) : Prop :=
  ((K_tasks1_1 i W) ∧ ((8 : Nat) + (3 : Nat) = (8 : Nat) + (3 : Nat) ∧ ∀ (i_1 : Nat), i_1 < (8 : Nat) + (3 : Nat) → True ∧ (bif Nat.blt i_1 (8 : Nat) then List.getD [(W.tasks (Int.toNat i)).r0, (W.tasks (Int.toNat i)).r1, (W.tasks (Int.toNat i)).r2, (W.tasks (Int.toNat i)).r3, (W.tasks (Int.toNat i)).r4, (W.tasks (Int.toNat i)).r5, (W.tasks (Int.toNat i)).r6, (W.tasks (Int.toNat i)).r7] i_1 (0 : Int) else List.getD [(W.tasks (Int.toNat i)).pc, (W.tasks (Int.toNat i)).word, (W.tasks (Int.toNat i)).badge] ((0 : Nat) + (i_1 - (8 : Nat))) (0 : Int)) = bif Nat.blt i_1 (8 : Nat) then List.getD [(W.tasks (Int.toNat i)).r0, (W.tasks (Int.toNat i)).r1, (W.tasks (Int.toNat i)).r2, (W.tasks (Int.toNat i)).r3, (W.tasks (Int.toNat i)).r4, (W.tasks (Int.toNat i)).r5, (W.tasks (Int.toNat i)).r6, (W.tasks (Int.toNat i)).r7] i_1 (0 : Int) else List.getD [(W.tasks (Int.toNat i)).pc, (W.tasks (Int.toNat i)).word, (W.tasks (Int.toNat i)).badge] ((0 : Nat) + (i_1 - (8 : Nat))) (0 : Int)) ∧ True)
def V_tasks1 (i : Int) (W : Wd) : Prop :=
  True ∧ ((0 : Int) ≤ i ∧ i < (↑W.nKinds : Int)) ∧ ((W.kinds (Int.toNat i) != (6 : Int)) = true → True ∧ (True ∧ True ∧ True) ∧ (!((W.tasks (Int.toNat i)).r0 == (0 : Int) && ((W.tasks (Int.toNat i)).r1 == (0 : Int) && ((W.tasks (Int.toNat i)).r2 == (0 : Int) && ((W.tasks (Int.toNat i)).r3 == (0 : Int) && ((W.tasks (Int.toNat i)).r4 == (0 : Int) && ((W.tasks (Int.toNat i)).r5 == (0 : Int) && ((W.tasks (Int.toNat i)).r6 == (0 : Int) && ((W.tasks (Int.toNat i)).r7 == (0 : Int) && true))))))) && ((W.tasks (Int.toNat i)).pc == (0 : Int) && ((W.tasks (Int.toNat i)).st == (0 : Int) && ((W.tasks (Int.toNat i)).prio == (0 : Int) && ((W.tasks (Int.toNat i)).node == (-1 : Int) && ((W.tasks (Int.toNat i)).space == (-1 : Int) && ((W.tasks (Int.toNat i)).helper == (-1 : Int) && ((W.tasks (Int.toNat i)).loc == (-1 : Int) && ((W.tasks (Int.toNat i)).word == (0 : Int) && ((W.tasks (Int.toNat i)).badge == (0 : Int) && ((W.tasks (Int.toNat i)).owes == (-1 : Int) && ((W.tasks (Int.toNat i)).core == (0 : Int) && ((W.tasks (Int.toNat i)).dom == (0 : Int) && true)))))))))))))) = !tkB W (Int.toNat i) ∧ True) ∧ ((W.kinds (Int.toNat i) != (6 : Int)) = false → True ∧ True ∧ True ∧ True ∧ True ∧ True ∧ True ∧ True ∧ True ∧ True ∧ (((8 : Nat) + (3 : Nat)) * (8 : Nat) ≤ (140737488355328 : Nat) ∧ ∀ (q : Nat), true = true) ∧ ((↑(nat_lit 11) : Int) ≤ (9223372036854775807 : Int) → SV.ptr (0 : Nat) (0 : Nat) none (nat_lit 0) (nat_lit 0) = SV.ptr (0 : Nat) (0 : Nat) none (0 : Nat) (0 : Nat) ∧ (nat_lit 0 = (0 :
    Nat) ∧ nat_lit 11 = (11 : Nat)) ∧ (0 : Int) = (↑(0 : Nat) : Int) ∧ (K_tasks1_2 i W) ∧ ((0 : Nat) ≤ (11 : Nat) ∧ ∀ (j : Nat), j < (0 : Nat) → farB (List.getD [(W.tasks (Int.toNat i)).r0, (W.tasks (Int.toNat i)).r1, (W.tasks (Int.toNat i)).r2, (W.tasks (Int.toNat i)).r3, (W.tasks (Int.toNat i)).r4, (W.tasks (Int.toNat i)).r5, (W.tasks (Int.toNat i)).r6, (W.tasks (Int.toNat i)).r7, (W.tasks (Int.toNat i)).pc, (W.tasks (Int.toNat i)).word, (W.tasks (Int.toNat i)).badge] j (0 : Int)) (65535 : Int) = false) ∧ ∀ (s : Nat), (s ≤ (11 : Nat) ∧ ∀ (j : Nat), j < s → farB (List.getD [(W.tasks (Int.toNat i)).r0, (W.tasks (Int.toNat i)).r1, (W.tasks (Int.toNat i)).r2, (W.tasks (Int.toNat i)).r3, (W.tasks (Int.toNat i)).r4, (W.tasks (Int.toNat i)).r5, (W.tasks (Int.toNat i)).r6, (W.tasks (Int.toNat i)).r7, (W.tasks (Int.toNat i)).pc, (W.tasks (Int.toNat i)).word, (W.tasks (Int.toNat i)).badge] j (0 : Int)) (65535 : Int) = false) → (decide ((↑s : Int) < (↑(nat_lit 11) : Int)) = true → ((0 : Int) ≤ (↑s : Int) ∧ (↑s : Int) < (↑(nat_lit 11) : Int)) ∧ ((((bif Nat.blt (nat_lit 0 + Int.toNat (↑s : Int)) (8 : Nat) then List.getD [(W.tasks (Int.toNat i)).r0, (W.tasks (Int.toNat i)).r1, (W.tasks (Int.toNat i)).r2, (W.tasks (Int.toNat i)).r3, (W.tasks (Int.toNat i)).r4, (W.tasks (Int.toNat i)).r5, (W.tasks (Int.toNat i)).r6, (W.tasks (Int.toNat i)).r7] (nat_lit 0 + Int.toNat (↑s : Int)) (0 : Int) else List.getD [(W.tasks (Int.toNat i)).pc, (W.tasks (Int.toNat i)).word, (W.tasks (Int.toNat
    i)).badge] ((0 : Nat) + (nat_lit 0 + Int.toNat (↑s : Int) - (8 : Nat))) (0 : Int)) = bif Nat.blt (nat_lit 0 + Int.toNat (↑s : Int)) (8 : Nat) then List.getD [(W.tasks (Int.toNat i)).r0, (W.tasks (Int.toNat i)).r1, (W.tasks (Int.toNat i)).r2, (W.tasks (Int.toNat i)).r3, (W.tasks (Int.toNat i)).r4, (W.tasks (Int.toNat i)).r5, (W.tasks (Int.toNat i)).r6, (W.tasks (Int.toNat i)).r7] (nat_lit 0 + Int.toNat (↑s : Int)) (0 : Int) else List.getD [(W.tasks (Int.toNat i)).pc, (W.tasks (Int.toNat i)).word, (W.tasks (Int.toNat i)).badge] ((0 : Nat) + (nat_lit 0 + Int.toNat (↑s : Int) - (8 : Nat))) (0 : Int)) ∧ (65535 : Int) = (65535 : Int) ∧ True) ∧ True ∧ True) ∧ (farB (bif Nat.blt (nat_lit 0 + Int.toNat (↑s : Int)) (8 : Nat) then List.getD [(W.tasks (Int.toNat i)).r0, (W.tasks (Int.toNat i)).r1, (W.tasks (Int.toNat i)).r2, (W.tasks (Int.toNat i)).r3, (W.tasks (Int.toNat i)).r4, (W.tasks (Int.toNat i)).r5, (W.tasks (Int.toNat i)).r6, (W.tasks (Int.toNat i)).r7] (nat_lit 0 + Int.toNat (↑s : Int)) (0 : Int) else List.getD [(W.tasks (Int.toNat i)).pc, (W.tasks (Int.toNat i)).word, (W.tasks (Int.toNat i)).badge] ((0 : Nat) + (nat_lit 0 + Int.toNat (↑s : Int) - (8 : Nat))) (0 : Int)) (65535 : Int) = true → true = !tkB W (Int.toNat i) ∧ True) ∧ (farB (bif Nat.blt (nat_lit 0 + Int.toNat (↑s : Int)) (8 : Nat) then List.getD [(W.tasks (Int.toNat i)).r0, (W.tasks (Int.toNat i)).r1, (W.tasks (Int.toNat i)).r2, (W.tasks (Int.toNat i)).r3, (W.tasks (Int.toNat i)).r4, (W.tasks (Int.toNat i)).r5,
    (W.tasks (Int.toNat i)).r6, (W.tasks (Int.toNat i)).r7] (nat_lit 0 + Int.toNat (↑s : Int)) (0 : Int) else List.getD [(W.tasks (Int.toNat i)).pc, (W.tasks (Int.toNat i)).word, (W.tasks (Int.toNat i)).badge] ((0 : Nat) + (nat_lit 0 + Int.toNat (↑s : Int) - (8 : Nat))) (0 : Int)) (65535 : Int) = false → IntKind.wrap IntKind.i64 ((↑s : Int) + (1 : Int)) = (↑s : Int) + (1 : Int) ∧ ∃ (s' : Nat), SV.ptr (0 : Nat) (0 : Nat) none (nat_lit 0) (nat_lit 0) = SV.ptr (0 : Nat) (0 : Nat) none (0 : Nat) (0 : Nat) ∧ (nat_lit 0 = (0 : Nat) ∧ nat_lit 11 = (11 : Nat)) ∧ (↑s : Int) + (1 : Int) = (↑s' : Int) ∧ (K_tasks1_2 i W) ∧ (s' ≤ (11 : Nat) ∧ ∀ (j : Nat), j < s' → farB (List.getD [(W.tasks (Int.toNat i)).r0, (W.tasks (Int.toNat i)).r1, (W.tasks (Int.toNat i)).r2, (W.tasks (Int.toNat i)).r3, (W.tasks (Int.toNat i)).r4, (W.tasks (Int.toNat i)).r5, (W.tasks (Int.toNat i)).r6, (W.tasks (Int.toNat i)).r7, (W.tasks (Int.toNat i)).pc, (W.tasks (Int.toNat i)).word, (W.tasks (Int.toNat i)).badge] j (0 : Int)) (65535 : Int) = false) ∧ (11 : Nat) - s' < (11 : Nat) - s)) ∧ (decide ((↑s : Int) < (↑(nat_lit 11) : Int)) = false → True ∧ True ∧ (((W.tasks (Int.toNat i)).st = (W.tasks (Int.toNat i)).st ∧ (6 : Int) = (6 : Int) ∧ True) ∧ True ∧ True) ∧ True ∧ True ∧ True ∧ (farB (W.tasks (Int.toNat i)).st (6 : Int) = false → ((W.tasks (Int.toNat i)).prio = (W.tasks (Int.toNat i)).prio ∧ (3 : Int) = (3 : Int) ∧ True) ∧ True ∧ True) ∧ True ∧ True ∧ True ∧ True ∧ True ∧ True ∧ True ∧ True ∧ True ∧ True ∧ ((bif
    farB (W.tasks (Int.toNat i)).st (6 : Int) then true else farB (W.tasks (Int.toNat i)).prio (3 : Int)) = false → IntKind.wrap IntKind.i64 ((↑W.nCores : Int) - (1 : Int)) = (↑W.nCores : Int) - (1 : Int)) ∧ ((bif farB (W.tasks (Int.toNat i)).st (6 : Int) then true else farB (W.tasks (Int.toNat i)).prio (3 : Int)) = false → ((W.tasks (Int.toNat i)).core = (W.tasks (Int.toNat i)).core ∧ (↑W.nCores : Int) - (1 : Int) = (↑W.nCores : Int) - (1 : Int) ∧ True) ∧ True ∧ True) ∧ True ∧ True ∧ True ∧ True ∧ ((bif bif farB (W.tasks (Int.toNat i)).st (6 : Int) then true else farB (W.tasks (Int.toNat i)).prio (3 : Int) then true else farB (W.tasks (Int.toNat i)).core ((↑W.nCores : Int) - (1 : Int))) = false → ((W.tasks (Int.toNat i)).dom = (W.tasks (Int.toNat i)).dom ∧ (3 : Int) = (3 : Int) ∧ True) ∧ True ∧ True) ∧ True ∧ True ∧ True ∧ True ∧ True ∧ ((bif bif bif farB (W.tasks (Int.toNat i)).st (6 : Int) then true else farB (W.tasks (Int.toNat i)).prio (3 : Int) then true else farB (W.tasks (Int.toNat i)).core ((↑W.nCores : Int) - (1 : Int)) then true else farB (W.tasks (Int.toNat i)).dom (3 : Int)) = false → ((K_tasks1_0 W) ∧ (W.tasks (Int.toNat i)).node = (W.tasks (Int.toNat i)).node ∧ (5 : Int) = (5 : Int) ∧ True) ∧ True ∧ (5 : Int) ≠ (-1 : Int)) ∧ True ∧ True ∧ True ∧ True ∧ True ∧ True ∧ ((bif bif bif bif farB (W.tasks (Int.toNat i)).st (6 : Int) then true else farB (W.tasks (Int.toNat i)).prio (3 : Int) then true else farB (W.tasks (Int.toNat i)).core ((↑W.nCores : Int) - (1 :
    Int)) then true else farB (W.tasks (Int.toNat i)).dom (3 : Int) then true else !okF W (W.tasks (Int.toNat i)).node (5 : Int)) = false → ((K_tasks1_0 W) ∧ (W.tasks (Int.toNat i)).space = (W.tasks (Int.toNat i)).space ∧ (4 : Int) = (4 : Int) ∧ True) ∧ True ∧ (4 : Int) ≠ (-1 : Int)) ∧ True ∧ True ∧ True ∧ True ∧ True ∧ True ∧ ((bif bif bif bif bif farB (W.tasks (Int.toNat i)).st (6 : Int) then true else farB (W.tasks (Int.toNat i)).prio (3 : Int) then true else farB (W.tasks (Int.toNat i)).core ((↑W.nCores : Int) - (1 : Int)) then true else farB (W.tasks (Int.toNat i)).dom (3 : Int) then true else !okF W (W.tasks (Int.toNat i)).node (5 : Int) then true else !okF W (W.tasks (Int.toNat i)).space (4 : Int)) = false → ((K_tasks1_0 W) ∧ (W.tasks (Int.toNat i)).helper = (W.tasks (Int.toNat i)).helper ∧ (7 : Int) = (7 : Int) ∧ True) ∧ True ∧ (7 : Int) ≠ (-1 : Int)) ∧ True ∧ True ∧ True ∧ True ∧ True ∧ True ∧ ((bif bif bif bif bif bif farB (W.tasks (Int.toNat i)).st (6 : Int) then true else farB (W.tasks (Int.toNat i)).prio (3 : Int) then true else farB (W.tasks (Int.toNat i)).core ((↑W.nCores : Int) - (1 : Int)) then true else farB (W.tasks (Int.toNat i)).dom (3 : Int) then true else !okF W (W.tasks (Int.toNat i)).node (5 : Int) then true else !okF W (W.tasks (Int.toNat i)).space (4 : Int) then true else !okF W (W.tasks (Int.toNat i)).helper (7 : Int)) = false → ((K_tasks1_0 W) ∧ (W.tasks (Int.toNat i)).owes = (W.tasks (Int.toNat i)).owes ∧ (6 : Int) = (6 : Int) ∧ True) ∧ True ∧ (6
    : Int) ≠ (-1 : Int)) ∧ ((bif bif bif bif bif bif bif farB (W.tasks (Int.toNat i)).st (6 : Int) then true else farB (W.tasks (Int.toNat i)).prio (3 : Int) then true else farB (W.tasks (Int.toNat i)).core ((↑W.nCores : Int) - (1 : Int)) then true else farB (W.tasks (Int.toNat i)).dom (3 : Int) then true else !okF W (W.tasks (Int.toNat i)).node (5 : Int) then true else !okF W (W.tasks (Int.toNat i)).space (4 : Int) then true else !okF W (W.tasks (Int.toNat i)).helper (7 : Int) then true else !okF W (W.tasks (Int.toNat i)).owes (6 : Int)) = true → true = !tkB W (Int.toNat i) ∧ True) ∧ ((bif bif bif bif bif bif bif farB (W.tasks (Int.toNat i)).st (6 : Int) then true else farB (W.tasks (Int.toNat i)).prio (3 : Int) then true else farB (W.tasks (Int.toNat i)).core ((↑W.nCores : Int) - (1 : Int)) then true else farB (W.tasks (Int.toNat i)).dom (3 : Int) then true else !okF W (W.tasks (Int.toNat i)).node (5 : Int) then true else !okF W (W.tasks (Int.toNat i)).space (4 : Int) then true else !okF W (W.tasks (Int.toNat i)).helper (7 : Int) then true else !okF W (W.tasks (Int.toNat i)).owes (6 : Int)) = false → True ∧ True ∧ True ∧ True ∧ True ∧ True ∧ True ∧ True ∧ True ∧ True ∧ True ∧ (decide ((0 : Int) ≤ (W.tasks (Int.toNat i)).owes) = true → (0 : Int) ≤ (W.tasks (Int.toNat i)).owes ∧ (W.tasks (Int.toNat i)).owes < (↑W.nTasks : Int)) ∧ ((bif decide ((0 : Int) ≤ (W.tasks (Int.toNat i)).owes) then bif (W.tasks (Int.toNat (W.tasks (Int.toNat i)).owes)).st != (5 : Int) then true else
    (W.tasks (Int.toNat i)).st == (4 : Int) else false) = true → true = !tkB W (Int.toNat i) ∧ True) ∧ ((bif decide ((0 : Int) ≤ (W.tasks (Int.toNat i)).owes) then bif (W.tasks (Int.toNat (W.tasks (Int.toNat i)).owes)).st != (5 : Int) then true else (W.tasks (Int.toNat i)).st == (4 : Int) else false) = false → (↑W.nTasks : Int) ≤ (9223372036854775807 : Int) → SV.ptr (0 : Nat) (0 : Nat) none (nat_lit 0) (nat_lit 0) = SV.ptr (0 : Nat) (0 : Nat) none (0 : Nat) (0 : Nat) ∧ (0 : Int) = (↑(0 : Nat) : Int) ∧ (0 : Int) = (↑(cntB (0 : Nat) fun (k : Nat) => (W.tasks k).owes == (↑(Int.toNat i) : Int)) : Int) ∧ ((K_tasks1_1 i W) ∧ True) ∧ (0 : Nat) ≤ W.nTasks ∧ ∀ (s : Nat), s ≤ W.nTasks → (decide ((↑s : Int) < (↑W.nTasks : Int)) = true → ((0 : Int) ≤ (↑s : Int) ∧ (↑s : Int) < (↑W.nTasks : Int)) ∧ True ∧ (True ∧ True ∧ True ∧ True ∧ True ∧ True ∧ True ∧ True ∧ True ∧ True ∧ True ∧ True ∧ True ∧ True ∧ True ∧ True ∧ True ∧ True ∧ True ∧ True) ∧ (((W.tasks (Int.toNat (↑s : Int))).owes == i) = true → IntKind.wrap IntKind.i64 ((↑(cntB s fun (k : Nat) => (W.tasks k).owes == (↑(Int.toNat i) : Int)) : Int) + (1 : Int)) = (↑(cntB s fun (k : Nat) => (W.tasks k).owes == (↑(Int.toNat i) : Int)) : Int) + (1 : Int) ∧ IntKind.wrap IntKind.i64 ((↑s : Int) + (1 : Int)) = (↑s : Int) + (1 : Int) ∧ ∃ (s' : Nat), SV.ptr (0 : Nat) (0 : Nat) none (nat_lit 0) (nat_lit 0) = SV.ptr (0 : Nat) (0 : Nat) none (0 : Nat) (0 : Nat) ∧ (↑s : Int) + (1 : Int) = (↑s' : Int) ∧ (↑(cntB s fun (k : Nat) => (W.tasks k).owes ==
    (↑(Int.toNat i) : Int)) : Int) + (1 : Int) = (↑(cntB s' fun (k : Nat) => (W.tasks k).owes == (↑(Int.toNat i) : Int)) : Int) ∧ ((K_tasks1_1 i W) ∧ True) ∧ s' ≤ W.nTasks ∧ W.nTasks - s' < W.nTasks - s) ∧ (((W.tasks (Int.toNat (↑s : Int))).owes == i) = false → IntKind.wrap IntKind.i64 ((↑s : Int) + (1 : Int)) = (↑s : Int) + (1 : Int) ∧ ∃ (s' : Nat), SV.ptr (0 : Nat) (0 : Nat) none (nat_lit 0) (nat_lit 0) = SV.ptr (0 : Nat) (0 : Nat) none (0 : Nat) (0 : Nat) ∧ (↑s : Int) + (1 : Int) = (↑s' : Int) ∧ (↑(cntB s fun (k : Nat) => (W.tasks k).owes == (↑(Int.toNat i) : Int)) : Int) = (↑(cntB s' fun (k : Nat) => (W.tasks k).owes == (↑(Int.toNat i) : Int)) : Int) ∧ ((K_tasks1_1 i W) ∧ True) ∧ s' ≤ W.nTasks ∧ W.nTasks - s' < W.nTasks - s)) ∧ (decide ((↑s : Int) < (↑W.nTasks : Int)) = false → ((bif decide ((1 : Int) < (↑(cntB s fun (k : Nat) => (W.tasks k).owes == (↑(Int.toNat i) : Int)) : Int)) then true else ((↑(cntB s fun (k : Nat) => (W.tasks k).owes == (↑(Int.toNat i) : Int)) : Int) == (1 : Int)) != ((W.tasks (Int.toNat i)).st == (5 : Int))) = true → true = !tkB W (Int.toNat i) ∧ True) ∧ ((bif decide ((1 : Int) < (↑(cntB s fun (k : Nat) => (W.tasks k).owes == (↑(Int.toNat i) : Int)) : Int)) then true else ((↑(cntB s fun (k : Nat) => (W.tasks k).owes == (↑(Int.toNat i) : Int)) : Int) == (1 : Int)) != ((W.tasks (Int.toNat i)).st == (5 : Int))) = false → True ∧ True ∧ True ∧ True ∧ True ∧ True ∧ (((W.nLines = W.nLines ∧ ∀ (i : Nat), i < W.nLines → True ∧ W.linesN i = W.linesN i ∧ ∀
    (i_1 : Nat), i_1 < W.linesN i → True ∧ W.lines i i_1 = W.lines i i_1) ∧ i = i ∧ True) ∧ True ∧ W.nLines ≤ (1000 : Nat) ∧ ∀ (i : Nat), i < W.nLines → W.linesN i ≤ (1000 : Nat)) ∧ True ∧ True ∧ True ∧ True ∧ True ∧ True ∧ (((W.nReady = W.nReady ∧ ∀ (i : Nat), i < W.nReady → True ∧ W.readyN i = W.readyN i ∧ ∀ (i_1 : Nat), i_1 < W.readyN i → True ∧ W.ready i i_1 = W.ready i i_1) ∧ i = i ∧ True) ∧ True ∧ W.nReady ≤ (1000 : Nat) ∧ ∀ (i : Nat), i < W.nReady → W.readyN i ≤ (1000 : Nat)) ∧ True ∧ True ∧ True ∧ True ∧ True ∧ True ∧ True ∧ ((((1 : Nat) = (1 : Nat) ∧ ∀ (i : Nat), i < (1 : Nat) → True ∧ W.nCores = W.nCores ∧ ∀ (i : Nat), i < W.nCores → True ∧ W.cores i = W.cores i) ∧ i = i ∧ True) ∧ True ∧ (1 : Nat) ≤ (1000 : Nat) ∧ ∀ (i : Nat), i < (1 : Nat) → W.nCores ≤ (1000 : Nat)) ∧ IntKind.wrap IntKind.i64 ((↑(cntLL W.nReady W.readyN W.ready i) : Int) + (↑(cntLL (1 : Nat) (fun (a : Nat) => W.nCores) (fun (a : Nat) => W.cores) i) : Int)) = (↑(cntLL W.nReady W.readyN W.ready i) : Int) + (↑(cntLL (1 : Nat) (fun (a : Nat) => W.nCores) (fun (a : Nat) => W.cores) i) : Int) ∧ True ∧ ((((W.tasks (Int.toNat i)).st == (2 : Int)) = true → SV.ptr (0 : Nat) (0 : Nat) none (nat_lit 0) (nat_lit 0) = SV.ptr (0 : Nat) (0 : Nat) none (0 : Nat) (0 : Nat) ∧ (↑(cntLL W.nLines W.linesN W.lines i) : Int) = (↑(stands W (Int.toNat i)) : Int) ∧ (↑(cntLL W.nReady W.readyN W.ready i) : Int) + (↑(cntLL (1 : Nat) (fun (a : Nat) => W.nCores) (fun (a : Nat) => W.cores) i) : Int) = (↑(turnsN W (Int.toNat i)) :
    Int) ∧ (0 : Int) = (0 : Int) ∧ (0 : Int) = (0 : Int) ∧ (W.tasks (Int.toNat i)).st = (W.tasks (Int.toNat i)).st ∧ ((W.tasks (Int.toNat i)).st == (2 : Int)) = ((W.tasks (Int.toNat i)).st == (2 : Int)) ∧ ((K_tasks1_1 i W) ∧ True) ∧ ((W.tasks (Int.toNat i)).st == (2 : Int)) = ((W.tasks (Int.toNat i)).st == (2 : Int) || (W.tasks (Int.toNat i)).st == (3 : Int) || (W.tasks (Int.toNat i)).st == (4 : Int) || (W.tasks (Int.toNat i)).st == (6 : Int))) ∧ (((W.tasks (Int.toNat i)).st == (2 : Int)) = false → (((W.tasks (Int.toNat i)).st == (3 : Int)) = true → SV.ptr (0 : Nat) (0 : Nat) none (nat_lit 0) (nat_lit 0) = SV.ptr (0 : Nat) (0 : Nat) none (0 : Nat) (0 : Nat) ∧ (↑(cntLL W.nLines W.linesN W.lines i) : Int) = (↑(stands W (Int.toNat i)) : Int) ∧ (↑(cntLL W.nReady W.readyN W.ready i) : Int) + (↑(cntLL (1 : Nat) (fun (a : Nat) => W.nCores) (fun (a : Nat) => W.cores) i) : Int) = (↑(turnsN W (Int.toNat i)) : Int) ∧ (0 : Int) = (0 : Int) ∧ (0 : Int) = (0 : Int) ∧ (W.tasks (Int.toNat i)).st = (W.tasks (Int.toNat i)).st ∧ ((W.tasks (Int.toNat i)).st == (3 : Int)) = ((W.tasks (Int.toNat i)).st == (3 : Int)) ∧ ((K_tasks1_1 i W) ∧ True) ∧ ((W.tasks (Int.toNat i)).st == (3 : Int)) = ((W.tasks (Int.toNat i)).st == (2 : Int) || (W.tasks (Int.toNat i)).st == (3 : Int) || (W.tasks (Int.toNat i)).st == (4 : Int) || (W.tasks (Int.toNat i)).st == (6 : Int))) ∧ (((W.tasks (Int.toNat i)).st == (3 : Int)) = false → (((W.tasks (Int.toNat i)).st == (4 : Int)) = true → SV.ptr (0 : Nat) (0 : Nat) none
    (nat_lit 0) (nat_lit 0) = SV.ptr (0 : Nat) (0 : Nat) none (0 : Nat) (0 : Nat) ∧ (↑(cntLL W.nLines W.linesN W.lines i) : Int) = (↑(stands W (Int.toNat i)) : Int) ∧ (↑(cntLL W.nReady W.readyN W.ready i) : Int) + (↑(cntLL (1 : Nat) (fun (a : Nat) => W.nCores) (fun (a : Nat) => W.cores) i) : Int) = (↑(turnsN W (Int.toNat i)) : Int) ∧ (0 : Int) = (0 : Int) ∧ (0 : Int) = (0 : Int) ∧ (W.tasks (Int.toNat i)).st = (W.tasks (Int.toNat i)).st ∧ ((W.tasks (Int.toNat i)).st == (4 : Int)) = ((W.tasks (Int.toNat i)).st == (4 : Int)) ∧ ((K_tasks1_1 i W) ∧ True) ∧ ((W.tasks (Int.toNat i)).st == (4 : Int)) = ((W.tasks (Int.toNat i)).st == (2 : Int) || (W.tasks (Int.toNat i)).st == (3 : Int) || (W.tasks (Int.toNat i)).st == (4 : Int) || (W.tasks (Int.toNat i)).st == (6 : Int))) ∧ (((W.tasks (Int.toNat i)).st == (4 : Int)) = false → SV.ptr (0 : Nat) (0 : Nat) none (nat_lit 0) (nat_lit 0) = SV.ptr (0 : Nat) (0 : Nat) none (0 : Nat) (0 : Nat) ∧ (↑(cntLL W.nLines W.linesN W.lines i) : Int) = (↑(stands W (Int.toNat i)) : Int) ∧ (↑(cntLL W.nReady W.readyN W.ready i) : Int) + (↑(cntLL (1 : Nat) (fun (a : Nat) => W.nCores) (fun (a : Nat) => W.cores) i) : Int) = (↑(turnsN W (Int.toNat i)) : Int) ∧ (0 : Int) = (0 : Int) ∧ (0 : Int) = (0 : Int) ∧ (W.tasks (Int.toNat i)).st = (W.tasks (Int.toNat i)).st ∧ ((W.tasks (Int.toNat i)).st == (6 : Int)) = ((W.tasks (Int.toNat i)).st == (6 : Int)) ∧ ((K_tasks1_1 i W) ∧ True) ∧ ((W.tasks (Int.toNat i)).st == (6 : Int)) = ((W.tasks (Int.toNat i)).st == (2 : Int)
    || (W.tasks (Int.toNat i)).st == (3 : Int) || (W.tasks (Int.toNat i)).st == (4 : Int) || (W.tasks (Int.toNat i)).st == (6 : Int)))))) ∧ ∀ (s : Bo2), s.b = ((W.tasks (Int.toNat i)).st == (2 : Int) || (W.tasks (Int.toNat i)).st == (3 : Int) || (W.tasks (Int.toNat i)).st == (4 : Int) || (W.tasks (Int.toNat i)).st == (6 : Int)) → (s.b = true → (((W.tasks (Int.toNat i)).st == (6 : Int)) = true → True ∧ True ∧ True ∧ True ∧ True ∧ True ∧ True ∧ True ∧ (decide ((W.tasks (Int.toNat i)).loc < (0 : Int)) = false → ((K_tasks1_0 W) ∧ (W.tasks (Int.toNat i)).loc = (W.tasks (Int.toNat i)).loc ∧ (8 : Int) = (8 : Int) ∧ True) ∧ True ∧ (8 : Int) ≠ (-1 : Int)) ∧ True ∧ True ∧ True ∧ True ∧ True ∧ True ∧ True ∧ True ∧ True ∧ True ∧ ((bif decide ((W.tasks (Int.toNat i)).loc < (0 : Int)) then true else !okF W (W.tasks (Int.toNat i)).loc (8 : Int)) = false → (0 : Int) ≤ (W.tasks (Int.toNat i)).loc ∧ (W.tasks (Int.toNat i)).loc < (↑W.nLines : Int)) ∧ True ∧ True ∧ ((bif decide ((W.tasks (Int.toNat i)).loc < (0 : Int)) then true else !okF W (W.tasks (Int.toNat i)).loc (8 : Int)) = false → ((W.linesN (Int.toNat (W.tasks (Int.toNat i)).loc) = W.linesN (Int.toNat (W.tasks (Int.toNat i)).loc) ∧ ∀ (i_1 : Nat), i_1 < W.linesN (Int.toNat (W.tasks (Int.toNat i)).loc) → True ∧ W.lines (Int.toNat (W.tasks (Int.toNat i)).loc) i_1 = W.lines (Int.toNat (W.tasks (Int.toNat i)).loc) i_1) ∧ i = i ∧ True) ∧ True ∧ W.linesN (Int.toNat (W.tasks (Int.toNat i)).loc) ≤ (100000 : Nat)) ∧ ((bif bif decide ((W.tasks
    (Int.toNat i)).loc < (0 : Int)) then true else !okF W (W.tasks (Int.toNat i)).loc (8 : Int) then true else !inB' (W.linesN (Int.toNat (W.tasks (Int.toNat i)).loc)) (W.lines (Int.toNat (W.tasks (Int.toNat i)).loc)) i) = true → true = !tkB W (Int.toNat i) ∧ True) ∧ ((bif bif decide ((W.tasks (Int.toNat i)).loc < (0 : Int)) then true else !okF W (W.tasks (Int.toNat i)).loc (8 : Int) then true else !inB' (W.linesN (Int.toNat (W.tasks (Int.toNat i)).loc)) (W.lines (Int.toNat (W.tasks (Int.toNat i)).loc)) i) = false → (bif bif bif (1 : Int) == (0 : Int) then (W.tasks (Int.toNat i)).loc != (-1 : Int) else false then true else (↑(stands W (Int.toNat i)) : Int) != (1 : Int) then true else (↑(turnsN W (Int.toNat i)) : Int) != (0 : Int)) = !tkB W (Int.toNat i) ∧ True)) ∧ (((W.tasks (Int.toNat i)).st == (6 : Int)) = false → True ∧ True ∧ True ∧ True ∧ True ∧ True ∧ True ∧ True ∧ (decide ((W.tasks (Int.toNat i)).loc < (0 : Int)) = false → ((K_tasks1_0 W) ∧ (W.tasks (Int.toNat i)).loc = (W.tasks (Int.toNat i)).loc ∧ (7 : Int) = (7 : Int) ∧ True) ∧ True ∧ (7 : Int) ≠ (-1 : Int)) ∧ True ∧ True ∧ True ∧ True ∧ True ∧ True ∧ True ∧ True ∧ True ∧ True ∧ ((bif decide ((W.tasks (Int.toNat i)).loc < (0 : Int)) then true else !okF W (W.tasks (Int.toNat i)).loc (7 : Int)) = false → (0 : Int) ≤ (W.tasks (Int.toNat i)).loc ∧ (W.tasks (Int.toNat i)).loc < (↑W.nLines : Int)) ∧ True ∧ True ∧ ((bif decide ((W.tasks (Int.toNat i)).loc < (0 : Int)) then true else !okF W (W.tasks (Int.toNat i)).loc (7 :
    Int)) = false → ((W.linesN (Int.toNat (W.tasks (Int.toNat i)).loc) = W.linesN (Int.toNat (W.tasks (Int.toNat i)).loc) ∧ ∀ (i_1 : Nat), i_1 < W.linesN (Int.toNat (W.tasks (Int.toNat i)).loc) → True ∧ W.lines (Int.toNat (W.tasks (Int.toNat i)).loc) i_1 = W.lines (Int.toNat (W.tasks (Int.toNat i)).loc) i_1) ∧ i = i ∧ True) ∧ True ∧ W.linesN (Int.toNat (W.tasks (Int.toNat i)).loc) ≤ (100000 : Nat)) ∧ ((bif bif decide ((W.tasks (Int.toNat i)).loc < (0 : Int)) then true else !okF W (W.tasks (Int.toNat i)).loc (7 : Int) then true else !inB' (W.linesN (Int.toNat (W.tasks (Int.toNat i)).loc)) (W.lines (Int.toNat (W.tasks (Int.toNat i)).loc)) i) = true → true = !tkB W (Int.toNat i) ∧ True) ∧ ((bif bif decide ((W.tasks (Int.toNat i)).loc < (0 : Int)) then true else !okF W (W.tasks (Int.toNat i)).loc (7 : Int) then true else !inB' (W.linesN (Int.toNat (W.tasks (Int.toNat i)).loc)) (W.lines (Int.toNat (W.tasks (Int.toNat i)).loc)) i) = false → (bif bif bif (1 : Int) == (0 : Int) then (W.tasks (Int.toNat i)).loc != (-1 : Int) else false then true else (↑(stands W (Int.toNat i)) : Int) != (1 : Int) then true else (↑(turnsN W (Int.toNat i)) : Int) != (0 : Int)) = !tkB W (Int.toNat i) ∧ True))) ∧ (s.b = false → (((W.tasks (Int.toNat i)).st == (1 : Int)) = true → (bif bif bif (0 : Int) == (0 : Int) then (W.tasks (Int.toNat i)).loc != (-1 : Int) else false then true else (↑(stands W (Int.toNat i)) : Int) != (0 : Int) then true else (↑(turnsN W (Int.toNat i)) : Int) != (1 : Int)) = !tkB W
    (Int.toNat i) ∧ True) ∧ (((W.tasks (Int.toNat i)).st == (1 : Int)) = false → (bif bif bif (0 : Int) == (0 : Int) then (W.tasks (Int.toNat i)).loc != (-1 : Int) else false then true else (↑(stands W (Int.toNat i)) : Int) != (0 : Int) then true else (↑(turnsN W (Int.toNat i)) : Int) != (0 : Int)) = !tkB W (Int.toNat i) ∧ True)))))))))
theorem q_tasks1 (i : Int) (W : Wd) : evBody Tryd.prog false glN (mkT [(75, c_wBlankF), (92, c_wOut), (137, c_wCount), (138, c_containsI), (136, c_wIs)]) Tryd.f135 (a_tasks1 i W) (m_tasks1 i W) [.inv (an_t1 W i.toNat), .inv (an_t2 W i.toNat), .cut 29 (cut_t25 W i.toNat)] (r_tasks1 i W) (n_tasks1 i W) = V_tasks1 i W := by kernel_rfl
set_option maxHeartbeats 1000000 in
theorem pf_tasks1 (i : Int) (W : Wd) (hp : p_tasks1 i W) : FnC Tryd.prog glN 135 (a_tasks1 i W) (m_tasks1 i W) (r_tasks1 i W) (n_tasks1 i W) := by
  refine fn_of (sound_cons ok_wBlankF (sound_cons ok_wOut (sound_cons ok_wCount (sound_cons ok_containsI (sound_cons ok_wIs sound_nil))))) false Tryd.func135 [.inv (an_t1 W i.toNat), .inv (an_t2 W i.toNat), .cut 29 (cut_t25 W i.toNat)] (q_tasks1 i W) ?_
  unfold V_tasks1
  unfold p_tasks1 at hp
  obtain ⟨hz, hm, f0, f1⟩ := hp
  obtain ⟨F, rfl⟩ : ∃ F : Nat, i = F := ⟨i.toNat, by omega⟩
  simp only [K_tasks1_0, K_tasks1_1, K_tasks1_2, true_and, and_true, and_self, implies_true, eq_self, Int.toNat_natCast, Nat.zero_add, Int.natCast_nonneg, Nat.not_lt_zero, false_implies, Nat.zero_le, Int.natCast_zero, Bool.cond_self, Bool.cond_true_left, Bool.cond_false_right, Bool.cond_true_right, Bool.cond_false_left]
  have hz1 := hz.tasks
  have hz2 := hz.k1
  have hz3 := hz.lines
  have hz4 := hz.c1
  have hz5 := hz.c0
  have hz6 := hz.ready
  simp only [sel11]
  refine ⟨by omega, fun h => ?_, fun h => ⟨by decide, fun _ s hs => ⟨fun h1 => ?_, fun h1 => ?_⟩⟩⟩
  · unfold tkB; rw [h]; rfl
  · have core := tkB_pos h
    have hlt : s < 11 := by have := of_decide_eq_true h1; omega
    refine ⟨by omega, fun h2 => ?_, fun h2 => ⟨by rw [IntKind.wrap_i64]; omega, exS ⟨⟨by omega, snocF (p := fun j => farB (sel [(W.tasks F).r0, (W.tasks F).r1, (W.tasks F).r2, (W.tasks F).r3, (W.tasks F).r4, (W.tasks F).r5, (W.tasks F).r6, (W.tasks F).r7, (W.tasks F).pc, (W.tasks F).word, (W.tasks F).badge] j) 65535) hs.2 h2⟩, by omega⟩⟩⟩
    rw [core, not11 hlt h2]; rfl
  have core := tkB_pos h
  have hs8 : s = 11 := by have := of_decide_eq_false h1; omega
  obtain ⟨hreg, hpc, hwd, hbg⟩ := all11 (W := W) (f := F) fun j hj => hs.2 j (by omega)
  rw [hreg] at core
  have eN : numFar W (W.tasks F) = (farB (W.tasks F).st 6 || farB (W.tasks F).prio 3 || farB (W.tasks F).core (W.nCores - 1) || farB (W.tasks F).dom 3) := by unfold numFar; rw [hpc, hwd, hbg]; rfl
  have eA : (farB (W.tasks F).st 6 || farB (W.tasks F).prio 3 || farB (W.tasks F).core (W.nCores - 1) || farB (W.tasks F).dom 3 || !okF W (W.tasks F).node 5 || !okF W (W.tasks F).space 4 || !okF W (W.tasks F).helper 7 || !okF W (W.tasks F).owes 6) = !(!numFar W (W.tasks F) && refOK W (W.tasks F)) := by
    rw [eN]; unfold refOK; simp only [Bool.not_and, Bool.not_or, Bool.not_not, Bool.or_assoc]
  rw [eA]
  refine ⟨fun _ => by rw [IntKind.wrap_i64]; omega, fun _ => by decide, fun _ => by decide, fun _ => by decide, fun _ => by decide, fun h2 => ?_, fun h2 => ?_⟩
  · rw [core]
    revert h2; cases numFar W (W.tasks F) <;> cases refOK W (W.tasks F) <;> simp
  have h3 := notF h2
  rw [Bool.and_eq_true] at h3
  obtain ⟨hnum, href⟩ := h3
  rw [hnum, href] at core
  have hok : okF W (W.tasks F).owes 6 = true := by unfold refOK at href; simp only [Bool.and_eq_true] at href; exact href.2
  have hO : (W.tasks F).owes = -1 ∨ (0 ≤ (W.tasks F).owes ∧ (W.tasks F).owes < W.nKinds) := by
    rcases Decidable.em ((W.tasks F).owes = -1) with h | h
    · exact .inl h
    · exact .inr (okF_in (by decide) hok (by simpa using h))
  have eB : (decide (0 ≤ (W.tasks F).owes) && ((W.tasks (W.tasks F).owes.toNat).st != 5 || (W.tasks F).st == 4)) = !owesOK W (W.tasks F) := by
    unfold owesOK
    rw [show decide (0 ≤ (W.tasks F).owes) = !((W.tasks F).owes == -1) by
      rcases hO with h | h
      · rw [h]; rfl
      · rw [decide_eq_true h.1, show ((W.tasks F).owes == -1) = false from beq_eq_false_iff_ne.2 (by omega)]; rfl]
    simp only [bne, Bool.not_and, Bool.not_or, Bool.not_not]
  rw [eB]
  refine ⟨fun h4 => ?_, fun h4 => ?_, fun h4 _ => ?_⟩
  · have := of_decide_eq_true h4; omega
  · rw [core, notT h4]; rfl
  rw [notF h4] at core
  refine ⟨rfl, fun s hs => ⟨fun h5 => ?_, fun h5 => ?_⟩⟩
  · have hlt := lt_of_dec h5
    have hb := cntB_le (fun k => (W.tasks k).owes == F) s
    refine ⟨by omega, fun h6 => ?_, fun h6 => ?_⟩
    · exact ⟨by rw [IntKind.wrap_i64]; omega, by rw [IntKind.wrap_i64]; omega, exS ⟨by simp [cntB, h6], by omega, by omega⟩⟩
    · exact ⟨by rw [IntKind.wrap_i64]; omega, exS ⟨by simp [cntB, h6], by omega, by omega⟩⟩
  have hge := ge_of_dec h5
  obtain rfl : s = W.nTasks := by omega
  rw [show (decide (1 < ((cntB W.nTasks fun k => (W.tasks k).owes == F : Nat) : Int)) || ((((cntB W.nTasks fun k => (W.tasks k).owes == F : Nat) : Int) == 1) != ((W.tasks F).st == 5))) = !owedOK W F from owed_ne (W := W) (f := F) rfl]
  refine ⟨fun h6 => ?_, fun h6 => ?_⟩
  · rw [core, notT h6]; rfl
  rw [notF h6] at core
  have core : tkB W F = stOK W F := by rw [core]; rfl
  rw [cnt1]
  have b1 : cntLL W.nReady W.readyN W.ready F ≤ W.nReady * 50 := sumN_le fun i hi => Nat.le_trans (cntB_le _ _) (hm.2.1 i hi)
  have b2 : cntL W.nCores W.cores F ≤ W.nCores := cntB_le _ _
  have et : ((cntLL W.nReady W.readyN W.ready F : Nat) : Int) + ((cntL W.nCores W.cores F : Nat) : Int) = (turnsN W F : Nat) := by unfold turnsN; omega
  rw [et]
  refine ⟨⟨by omega, fun i hi => Nat.le_trans (hm.1 i hi) (by omega)⟩, ⟨by omega, fun i hi => Nat.le_trans (hm.2.1 i hi) (by omega)⟩, ⟨by omega, fun _ _ => by omega⟩, by rw [IntKind.wrap_i64]; unfold turnsN; omega, ?_, ?_⟩
  · refine ⟨fun h => ⟨rfl, rfl, by rw [h]; rfl⟩, fun h => ⟨fun h7 => ⟨rfl, rfl, by rw [h, h7]; rfl⟩, fun h7 => ⟨fun h8 => ⟨rfl, rfl, by rw [h, h7, h8]; rfl⟩, fun h8 => ⟨rfl, rfl, by rw [h, h7, h8]; rfl⟩⟩⟩⟩
  rintro ⟨b⟩ hb
  have hb : b = ((W.tasks F).st == 2 || (W.tasks F).st == 3 || (W.tasks F).st == 4 || (W.tasks F).st == 6) := hb
  simp only [castN0, castN1]
  have hs1 : ∀ k : Int, k ≠ -1 → stOK W F = standOK W F k → (decide ((W.tasks F).loc < 0) = false → k ≠ -1) ∧ ((decide ((W.tasks F).loc < 0) || !okF W (W.tasks F).loc k) = false → 0 ≤ (W.tasks F).loc ∧ (W.tasks F).loc < W.nLines) ∧ ((decide ((W.tasks F).loc < 0) || !okF W (W.tasks F).loc k) = false → W.linesN (W.tasks F).loc.toNat ≤ 100000) ∧
      ((decide ((W.tasks F).loc < 0) || !okF W (W.tasks F).loc k || !inB' (W.linesN (W.tasks F).loc.toNat) (W.lines (W.tasks F).loc.toNat) F) = true → true = !tkB W F) ∧ ((decide ((W.tasks F).loc < 0) || !okF W (W.tasks F).loc k || !inB' (W.linesN (W.tasks F).loc.toNat) (W.lines (W.tasks F).loc.toNat) F) = false → ((1 : Int) == 0 && (W.tasks F).loc != -1 || !(stands W F == 1) || !(turnsN W F == 0)) = !tkB W F) := by
    intro k hk he
    rw [locN hk, core, he]
    have hin : (!(kof W (W.tasks F).loc == k)) = false → 0 ≤ (W.tasks F).loc ∧ (W.tasks F).loc < W.nLines := fun h => by
      rw [hz3]; exact kof_in (by rw [eq_of_beq (notF h)]; exact hk)
    refine ⟨fun _ => hk, hin, fun h => ?_, fun h => ?_, fun h => ?_⟩
    · have := hin h; have := hm.1 (W.tasks F).loc.toNat (by omega); omega
    · unfold standOK; revert h
      cases kof W (W.tasks F).loc == k <;> cases inB' (W.linesN (W.tasks F).loc.toNat) (W.lines (W.tasks F).loc.toNat) F <;> cases stands W F == 1 <;> cases turnsN W F == 0 <;> simp
    · unfold standOK; revert h
      cases kof W (W.tasks F).loc == k <;> cases inB' (W.linesN (W.tasks F).loc.toNat) (W.lines (W.tasks F).loc.toNat) F <;> cases stands W F == 1 <;> cases turnsN W F == 0 <;> simp
  refine ⟨fun h7 => ⟨fun h8 => hs1 8 (by decide) ?_, fun h8 => hs1 7 (by decide) ?_⟩, fun h7 => ?_⟩
  · have e6 := eq_of_beq h8
    simp only [stOK]; rw [e6]; rfl
  · have h7 : b = true := h7
    rw [h7, h8, Bool.or_false] at hb
    simp only [stOK]; rw [← hb]; rfl
  · have h7 : b = false := h7
    have hb := hb.symm
    rw [h7] at hb
    rw [Bool.or_eq_false_iff] at hb
    rw [core]
    simp only [stOK]; rw [hb.1, hb.2]
    refine ⟨fun h8 => ?_, fun h8 => ?_⟩
    · rw [h8]; simp only [bne]
      cases stands W F == 0 <;> cases turnsN W F == 1 <;> cases (W.tasks F).loc == -1 <;> rfl
    · rw [h8]; simp only [bne]
      cases stands W F == 0 <;> cases turnsN W F == 0 <;> cases (W.tasks F).loc == -1 <;> rfl
theorem ok_tasks1 : FnOK Tryd.prog glN 135 c_tasks1 := fnOK_of (fun l w => Tryd.call135 l w) fun x_ hp => pf_tasks1 x_.i x_.W hp
end Go.Proofs.YtfmaeiilbhpepaaDoor
