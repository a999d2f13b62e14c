/- The program's look at a world: the first that is bad. -/
import Derived.Test.YtfmaeiilbhpepaaDoorYG3
import Derived.Test.YtfmaeiilbhpepaaDoorYG1
set_option linter.unusedVariables false
set_option linter.unusedSimpArgs false
set_option linter.unusedVariables false
set_option linter.unusedSimpArgs false
set_option maxRecDepth 100000
namespace Go.Proofs.YtfmaeiilbhpepaaDoor
open Go.RowKit Go.Sy
def bE (n : Nat) (p : Nat → Bool) (e : Int) : Int := (fstE n p e (0, -1)).1
def bA (n : Nat) (p : Nat → Bool) (e : Int) : Int := (fstE n p e (0, -1)).2
def an_bad (n : Nat) (p : Nat → Bool) : Ann where
  σ := Nat
  rt := []
  sh i := [(11, .v (.int .i64 i))]
  mh _ := []
  inv i := i ≤ n ∧ ∀ j, j < i → p j = false
  μ i := n - i
  init := 0
structure X_badW1 where
  n : Nat
  l : Nat → Int
  e : Int
def a_badW1 (n : Nat) (l : Nat → Int) (e : Int) : List SV := [.sl true 1 n (fun i_ _ => .v (.int .i64 (l i_))), .v (.int .i64 e), .fn 127 0 (fun _ => .junk)]
def m_badW1 (n : Nat) (l : Nat → Int) (e : Int) : List Blk := []
def r_badW1 (n : Nat) (l : Nat → Int) (e : Int) : SV := .er 22 25 (bE n (fun i => farB (l i) 65535) e) (bA n (fun i => farB (l i) 65535) e)
def n_badW1 (n : Nat) (l : Nat → Int) (e : Int) : List Blk := []
def p_badW1 (n : Nat) (l : Nat → Int) (e : Int) : Prop := e ≠ 0 ∧ n ≤ 100000
def s_badW1 : Sy.Spec where
  X := X_badW1
  args x_ := a_badW1 x_.n x_.l x_.e
  mem x_ := m_badW1 x_.n x_.l x_.e
  pre x_ := p_badW1 x_.n x_.l x_.e
  res x_ := r_badW1 x_.n x_.l x_.e
  mem' x_ := n_badW1 x_.n x_.l x_.e
  dec args mem := match args with | [a0, a1, a2] => (match isFn 127 a2 with | true => some ⟨slN a0, fun i => intD (slF a0 i 0), intD (a1)⟩ | false => none) | _ => none
def c_badW1 : Con := ⟨[], s_badW1.g, none⟩
def V_badW1 (n : Nat) (l : Nat → Int) (e : Int) : Prop :=
  (↑n : Int) ≤ (9223372036854775807 : Int) → (0 : Int) = (↑(0 : Nat) : Int) ∧ True ∧ ((0 : Nat) ≤ n ∧ ∀ (j : Nat), j < (0 : Nat) → farB (l j) (65535 : Int) = false) ∧ ∀ (s : Nat), (s ≤ n ∧ ∀ (j : Nat), j < s → farB (l j) (65535 : Int) = false) → (decide ((↑s : Int) < (↑n : Int)) = true → ((0 : Int) ≤ (↑s : Int) ∧ (↑s : Int) < (↑n : Int)) ∧ (((↑s : Int) = (↑s : Int) ∧ l (Int.toNat (↑s : Int)) = l (Int.toNat (↑s : Int)) ∧ True) ∧ True ∧ True) ∧ (farB (l (Int.toNat (↑s : Int))) (65535 : Int) = true → (((↑s : Int) = (↑s : Int) ∧ e = e ∧ True) ∧ True ∧ (0 : Int) ≤ (↑s : Int) ∧ e ≠ (0 : Int)) ∧ (e = bE n (fun (i : Nat) => farB (l i) (65535 : Int)) e ∧ (↑s : Int) = bA n (fun (i : Nat) => farB (l i) (65535 : Int)) e) ∧ True) ∧ (farB (l (Int.toNat (↑s : Int))) (65535 : Int) = false → IntKind.wrap IntKind.i64 ((↑s : Int) + (1 : Int)) = (↑s : Int) + (1 : Int) ∧ ∃ (s' : Nat), (↑s : Int) + (1 : Int) = (↑s' : Int) ∧ True ∧ (s' ≤ n ∧ ∀ (j : Nat), j < s' → farB (l j) (65535 : Int) = false) ∧ n - s' < n - s)) ∧ (decide ((↑s : Int) < (↑n : Int)) = false → (bE n (fun (i : Nat) => farB (l i) (65535 : Int)) e = (0 : Int) ∧ bA n (fun (i : Nat) => farB (l i) (65535 : Int)) e = (-1 : Int)) ∧ True)
theorem q_badW1 (n : Nat) (l : Nat → Int) (e : Int) : evBody Tryd.prog false glN (mkT [(158, c_wAt), (127, c_words1)]) Tryd.f126 (a_badW1 n l e) (m_badW1 n l e) [.inv (an_bad n (fun i => farB (l i) 65535))] (r_badW1 n l e) (n_badW1 n l e) = V_badW1 n l e := by kernel_rfl
set_option maxHeartbeats 1000000 in
theorem pf_badW1 (n : Nat) (l : Nat → Int) (e : Int) (hp : p_badW1 n l e) : FnC Tryd.prog glN 126 (a_badW1 n l e) (m_badW1 n l e) (r_badW1 n l e) (n_badW1 n l e) := by
  refine fn_of (sound_cons ok_wAt (sound_cons ok_words1 sound_nil)) false Tryd.func126 [.inv (an_bad n (fun i => farB (l i) 65535))] (q_badW1 n l e) ?_
  unfold V_badW1
  unfold p_badW1 at hp
  obtain ⟨he, hp⟩ := hp
  simp only [true_and, and_true, and_self, implies_true, eq_self, Int.toNat_natCast, Nat.zero_add, Int.natCast_nonneg, Nat.not_lt_zero, false_implies, Nat.zero_le, Int.natCast_zero, Bool.cond_self, Bool.cond_true_left, Bool.cond_false_right, Bool.cond_true_right, Bool.cond_false_left]
  
  unfold bE bA
  refine fun _ s hs => ⟨fun h => ?_, fun h => ?_⟩
  · have hlt := lt_of_dec h
    refine ⟨by omega, fun h1 => ?_, fun h1 => ⟨by rw [IntKind.wrap_i64]; omega, exS ⟨⟨by omega, snocF (p := fun i => farB (l i) 65535) hs.2 h1⟩, by omega⟩⟩⟩
    rw [fstE_at (p := fun i => farB (l i) 65535) hs.2 h1 hlt]
    first | exact ⟨he, rfl, rfl⟩ | exact ⟨⟨by omega, he⟩, rfl, rfl⟩
  · have hge := ge_of_dec h
    rw [fstE_none (p := fun i => farB (l i) 65535) fun j hj => hs.2 j (by omega)]
    exact ⟨rfl, rfl⟩
theorem ok_badW1 : FnOK Tryd.prog glN 126 c_badW1 := fnOK_of (fun l w => Tryd.call126 l w) fun x_ hp => pf_badW1 x_.n x_.l x_.e hp
structure X_badW2 where
  n : Nat
  l : Nat → Int
  e : Int
def a_badW2 (n : Nat) (l : Nat → Int) (e : Int) : List SV := [.sl true 1 n (fun i_ _ => .v (.int .i64 (l i_))), .v (.int .i64 e), .fn 128 0 (fun _ => .junk)]
def m_badW2 (n : Nat) (l : Nat → Int) (e : Int) : List Blk := []
def r_badW2 (n : Nat) (l : Nat → Int) (e : Int) : SV := .er 22 25 (bE n (fun i => farB (l i) 8 || l i == 1) e) (bA n (fun i => farB (l i) 8 || l i == 1) e)
def n_badW2 (n : Nat) (l : Nat → Int) (e : Int) : List Blk := []
def p_badW2 (n : Nat) (l : Nat → Int) (e : Int) : Prop := e ≠ 0 ∧ n ≤ 100000
def s_badW2 : Sy.Spec where
  X := X_badW2
  args x_ := a_badW2 x_.n x_.l x_.e
  mem x_ := m_badW2 x_.n x_.l x_.e
  pre x_ := p_badW2 x_.n x_.l x_.e
  res x_ := r_badW2 x_.n x_.l x_.e
  mem' x_ := n_badW2 x_.n x_.l x_.e
  dec args mem := match args with | [a0, a1, a2] => (match isFn 128 a2 with | true => some ⟨slN a0, fun i => intD (slF a0 i 0), intD (a1)⟩ | false => none) | _ => none
def c_badW2 : Con := ⟨[], s_badW2.g, none⟩
def V_badW2 (n : Nat) (l : Nat → Int) (e : Int) : Prop :=
  (↑n : Int) ≤ (9223372036854775807 : Int) → (0 : Int) = (↑(0 : Nat) : Int) ∧ True ∧ ((0 : Nat) ≤ n ∧ ∀ (j : Nat), j < (0 : Nat) → (farB (l j) (8 : Int) || l j == (1 : Int)) = false) ∧ ∀ (s : Nat), (s ≤ n ∧ ∀ (j : Nat), j < s → (farB (l j) (8 : Int) || l j == (1 : Int)) = false) → (decide ((↑s : Int) < (↑n : Int)) = true → ((0 : Int) ≤ (↑s : Int) ∧ (↑s : Int) < (↑n : Int)) ∧ (((↑s : Int) = (↑s : Int) ∧ l (Int.toNat (↑s : Int)) = l (Int.toNat (↑s : Int)) ∧ True) ∧ True ∧ True) ∧ ((farB (l (Int.toNat (↑s : Int))) (8 : Int) || l (Int.toNat (↑s : Int)) == (1 : Int)) = true → (((↑s : Int) = (↑s : Int) ∧ e = e ∧ True) ∧ True ∧ (0 : Int) ≤ (↑s : Int) ∧ e ≠ (0 : Int)) ∧ (e = bE n (fun (i : Nat) => farB (l i) (8 : Int) || l i == (1 : Int)) e ∧ (↑s : Int) = bA n (fun (i : Nat) => farB (l i) (8 : Int) || l i == (1 : Int)) e) ∧ True) ∧ ((farB (l (Int.toNat (↑s : Int))) (8 : Int) || l (Int.toNat (↑s : Int)) == (1 : Int)) = false → IntKind.wrap IntKind.i64 ((↑s : Int) + (1 : Int)) = (↑s : Int) + (1 : Int) ∧ ∃ (s' : Nat), (↑s : Int) + (1 : Int) = (↑s' : Int) ∧ True ∧ (s' ≤ n ∧ ∀ (j : Nat), j < s' → (farB (l j) (8 : Int) || l j == (1 : Int)) = false) ∧ n - s' < n - s)) ∧ (decide ((↑s : Int) < (↑n : Int)) = false → (bE n (fun (i : Nat) => farB (l i) (8 : Int) || l i == (1 : Int)) e = (0 : Int) ∧ bA n (fun (i : Nat) => farB (l i) (8 : Int) || l i == (1 : Int)) e = (-1 : Int)) ∧ True)
theorem q_badW2 (n : Nat) (l : Nat → Int) (e : Int) : evBody Tryd.prog false glN (mkT [(158, c_wAt), (128, c_words2)]) Tryd.f126 (a_badW2 n l e) (m_badW2 n l e) [.inv (an_bad n (fun i => farB (l i) 8 || l i == 1))] (r_badW2 n l e) (n_badW2 n l e) = V_badW2 n l e := by kernel_rfl
set_option maxHeartbeats 1000000 in
theorem pf_badW2 (n : Nat) (l : Nat → Int) (e : Int) (hp : p_badW2 n l e) : FnC Tryd.prog glN 126 (a_badW2 n l e) (m_badW2 n l e) (r_badW2 n l e) (n_badW2 n l e) := by
  refine fn_of (sound_cons ok_wAt (sound_cons ok_words2 sound_nil)) false Tryd.func126 [.inv (an_bad n (fun i => farB (l i) 8 || l i == 1))] (q_badW2 n l e) ?_
  unfold V_badW2
  unfold p_badW2 at hp
  obtain ⟨he, hp⟩ := hp
  simp only [true_and, and_true, and_self, implies_true, eq_self, Int.toNat_natCast, Nat.zero_add, Int.natCast_nonneg, Nat.not_lt_zero, false_implies, Nat.zero_le, Int.natCast_zero, Bool.cond_self, Bool.cond_true_left, Bool.cond_false_right, Bool.cond_true_right, Bool.cond_false_left]
  
  unfold bE bA
  refine fun _ s hs => ⟨fun h => ?_, fun h => ?_⟩
  · have hlt := lt_of_dec h
    refine ⟨by omega, fun h1 => ?_, fun h1 => ⟨by rw [IntKind.wrap_i64]; omega, exS ⟨⟨by omega, snocF (p := fun i => farB (l i) 8 || l i == 1) hs.2 h1⟩, by omega⟩⟩⟩
    rw [fstE_at (p := fun i => farB (l i) 8 || l i == 1) hs.2 h1 hlt]
    first | exact ⟨he, rfl, rfl⟩ | exact ⟨⟨by omega, he⟩, rfl, rfl⟩
  · have hge := ge_of_dec h
    rw [fstE_none (p := fun i => farB (l i) 8 || l i == 1) fun j hj => hs.2 j (by omega)]
    exact ⟨rfl, rfl⟩
theorem ok_badW2 : FnOK Tryd.prog glN 126 c_badW2 := fnOK_of (fun l w => Tryd.call126 l w) fun x_ hp => pf_badW2 x_.n x_.l x_.e hp
structure X_badW3 where
  n : Nat
  l : Nat → Int
  e : Int
def a_badW3 (n : Nat) (l : Nat → Int) (e : Int) : List SV := [.sl true 1 n (fun i_ _ => .v (.int .i64 (l i_))), .v (.int .i64 e), .fn 129 0 (fun _ => .junk)]
def m_badW3 (n : Nat) (l : Nat → Int) (e : Int) : List Blk := []
def r_badW3 (n : Nat) (l : Nat → Int) (e : Int) : SV := .er 22 25 (bE n (fun i => farB (l i) 3) e) (bA n (fun i => farB (l i) 3) e)
def n_badW3 (n : Nat) (l : Nat → Int) (e : Int) : List Blk := []
def p_badW3 (n : Nat) (l : Nat → Int) (e : Int) : Prop := e ≠ 0 ∧ n ≤ 100000
def s_badW3 : Sy.Spec where
  X := X_badW3
  args x_ := a_badW3 x_.n x_.l x_.e
  mem x_ := m_badW3 x_.n x_.l x_.e
  pre x_ := p_badW3 x_.n x_.l x_.e
  res x_ := r_badW3 x_.n x_.l x_.e
  mem' x_ := n_badW3 x_.n x_.l x_.e
  dec args mem := match args with | [a0, a1, a2] => (match isFn 129 a2 with | true => some ⟨slN a0, fun i => intD (slF a0 i 0), intD (a1)⟩ | false => none) | _ => none
def c_badW3 : Con := ⟨[], s_badW3.g, none⟩
def V_badW3 (n : Nat) (l : Nat → Int) (e : Int) : Prop :=
  (↑n : Int) ≤ (9223372036854775807 : Int) → (0 : Int) = (↑(0 : Nat) : Int) ∧ True ∧ ((0 : Nat) ≤ n ∧ ∀ (j : Nat), j < (0 : Nat) → farB (l j) (3 : Int) = false) ∧ ∀ (s : Nat), (s ≤ n ∧ ∀ (j : Nat), j < s → farB (l j) (3 : Int) = false) → (decide ((↑s : Int) < (↑n : Int)) = true → ((0 : Int) ≤ (↑s : Int) ∧ (↑s : Int) < (↑n : Int)) ∧ (((↑s : Int) = (↑s : Int) ∧ l (Int.toNat (↑s : Int)) = l (Int.toNat (↑s : Int)) ∧ True) ∧ True ∧ True) ∧ (farB (l (Int.toNat (↑s : Int))) (3 : Int) = true → (((↑s : Int) = (↑s : Int) ∧ e = e ∧ True) ∧ True ∧ (0 : Int) ≤ (↑s : Int) ∧ e ≠ (0 : Int)) ∧ (e = bE n (fun (i : Nat) => farB (l i) (3 : Int)) e ∧ (↑s : Int) = bA n (fun (i : Nat) => farB (l i) (3 : Int)) e) ∧ True) ∧ (farB (l (Int.toNat (↑s : Int))) (3 : Int) = false → IntKind.wrap IntKind.i64 ((↑s : Int) + (1 : Int)) = (↑s : Int) + (1 : Int) ∧ ∃ (s' : Nat), (↑s : Int) + (1 : Int) = (↑s' : Int) ∧ True ∧ (s' ≤ n ∧ ∀ (j : Nat), j < s' → farB (l j) (3 : Int) = false) ∧ n - s' < n - s)) ∧ (decide ((↑s : Int) < (↑n : Int)) = false → (bE n (fun (i : Nat) => farB (l i) (3 : Int)) e = (0 : Int) ∧ bA n (fun (i : Nat) => farB (l i) (3 : Int)) e = (-1 : Int)) ∧ True)
theorem q_badW3 (n : Nat) (l : Nat → Int) (e : Int) : evBody Tryd.prog false glN (mkT [(158, c_wAt), (129, c_words3)]) Tryd.f126 (a_badW3 n l e) (m_badW3 n l e) [.inv (an_bad n (fun i => farB (l i) 3))] (r_badW3 n l e) (n_badW3 n l e) = V_badW3 n l e := by kernel_rfl
set_option maxHeartbeats 1000000 in
theorem pf_badW3 (n : Nat) (l : Nat → Int) (e : Int) (hp : p_badW3 n l e) : FnC Tryd.prog glN 126 (a_badW3 n l e) (m_badW3 n l e) (r_badW3 n l e) (n_badW3 n l e) := by
  refine fn_of (sound_cons ok_wAt (sound_cons ok_words3 sound_nil)) false Tryd.func126 [.inv (an_bad n (fun i => farB (l i) 3))] (q_badW3 n l e) ?_
  unfold V_badW3
  unfold p_badW3 at hp
  obtain ⟨he, hp⟩ := hp
  simp only [true_and, and_true, and_self, implies_true, eq_self, Int.toNat_natCast, Nat.zero_add, Int.natCast_nonneg, Nat.not_lt_zero, false_implies, Nat.zero_le, Int.natCast_zero, Bool.cond_self, Bool.cond_true_left, Bool.cond_false_right, Bool.cond_true_right, Bool.cond_false_left]
  
  unfold bE bA
  refine fun _ s hs => ⟨fun h => ?_, fun h => ?_⟩
  · have hlt := lt_of_dec h
    refine ⟨by omega, fun h1 => ?_, fun h1 => ⟨by rw [IntKind.wrap_i64]; omega, exS ⟨⟨by omega, snocF (p := fun i => farB (l i) 3) hs.2 h1⟩, by omega⟩⟩⟩
    rw [fstE_at (p := fun i => farB (l i) 3) hs.2 h1 hlt]
    first | exact ⟨he, rfl, rfl⟩ | exact ⟨⟨by omega, he⟩, rfl, rfl⟩
  · have hge := ge_of_dec h
    rw [fstE_none (p := fun i => farB (l i) 3) fun j hj => hs.2 j (by omega)]
    exact ⟨rfl, rfl⟩
theorem ok_badW3 : FnOK Tryd.prog glN 126 c_badW3 := fnOK_of (fun l w => Tryd.call126 l w) fun x_ hp => pf_badW3 x_.n x_.l x_.e hp
structure X_badF where
  n : Nat
  l : Nat → Int
  e : Int
  nc : Nat
  cl : Nat → Int
  nk : Nat
  ky : Nat → Int
  nu : Nat
  us : Nat → Bool
def a_badF (n : Nat) (l : Nat → Int) (e : Int) (nc : Nat) (cl : Nat → Int) (nk : Nat) (ky : Nat → Int) (nu : Nat) (us : Nat → Bool) : List SV := [.sl true 1 n (fun i_ _ => .v (.int .i64 (l i_))), .v (.int .i64 e), .fn 133 3 (lsv [.pt true 1 (fun _ => .sl true 1 nc (iF cl)), .pt true 1 (fun _ => .sl true 1 nk (iF ky)), .pt true 1 (fun _ => .sl true 1 nu (fun i _ => .v (.bool (us i))))])]
def m_badF (n : Nat) (l : Nat → Int) (e : Int) (nc : Nat) (cl : Nat → Int) (nk : Nat) (ky : Nat → Int) (nu : Nat) (us : Nat → Bool) : List Blk := []
def r_badF (n : Nat) (l : Nat → Int) (e : Int) (nc : Nat) (cl : Nat → Int) (nk : Nat) (ky : Nat → Int) (nu : Nat) (us : Nat → Bool) : SV := .er 22 25 (bE n (fun i => decide (1 < cl i) || (l i != 0 && (ky i == 0 || (cl i == 1 && !us i)))) e) (bA n (fun i => decide (1 < cl i) || (l i != 0 && (ky i == 0 || (cl i == 1 && !us i)))) e)
def n_badF (n : Nat) (l : Nat → Int) (e : Int) (nc : Nat) (cl : Nat → Int) (nk : Nat) (ky : Nat → Int) (nu : Nat) (us : Nat → Bool) : List Blk := []
def p_badF (n : Nat) (l : Nat → Int) (e : Int) (nc : Nat) (cl : Nat → Int) (nk : Nat) (ky : Nat → Int) (nu : Nat) (us : Nat → Bool) : Prop := e ≠ 0 ∧ n ≤ 100000 ∧ n ≤ nc ∧ n ≤ nk ∧ n ≤ nu
def s_badF : Sy.Spec where
  X := X_badF
  args x_ := a_badF x_.n x_.l x_.e x_.nc x_.cl x_.nk x_.ky x_.nu x_.us
  mem x_ := m_badF x_.n x_.l x_.e x_.nc x_.cl x_.nk x_.ky x_.nu x_.us
  pre x_ := p_badF x_.n x_.l x_.e x_.nc x_.cl x_.nk x_.ky x_.nu x_.us
  res x_ := r_badF x_.n x_.l x_.e x_.nc x_.cl x_.nk x_.ky x_.nu x_.us
  mem' x_ := n_badF x_.n x_.l x_.e x_.nc x_.cl x_.nk x_.ky x_.nu x_.us
  dec args mem := match args with | [a0, a1, a2] => (match isFn 133 a2 with | true => some ⟨slN a0, fun i => intD (slF a0 i 0), intD (a1), slN (ptF (fnF a2 0) 0), fun i => intD (slF (ptF (fnF a2 0) 0) i 0), slN (ptF (fnF a2 1) 0), fun i => intD (slF (ptF (fnF a2 1) 0) i 0), slN (ptF (fnF a2 2) 0), fun i => boolD (slF (ptF (fnF a2 2) 0) i 0)⟩ | false => none) | _ => none
def c_badF : Con := ⟨[], s_badF.g, none⟩
def V_badF (n : Nat) (l : Nat → Int) (e : Int) (nc : Nat) (cl : Nat → Int) (nk : Nat) (ky : Nat → Int) (nu : Nat) (us : Nat → Bool) : Prop :=
  (↑n : Int) ≤ (9223372036854775807 : Int) → (0 : Int) = (↑(0 : Nat) : Int) ∧ True ∧ ((0 : Nat) ≤ n ∧ ∀ (j : Nat), j < (0 : Nat) → (decide ((1 : Int) < cl j) || l j != (0 : Int) && (ky j == (0 : Int) || cl j == (1 : Int) && !us j)) = false) ∧ ∀ (s : Nat), (s ≤ n ∧ ∀ (j : Nat), j < s → (decide ((1 : Int) < cl j) || l j != (0 : Int) && (ky j == (0 : Int) || cl j == (1 : Int) && !us j)) = false) → (decide ((↑s : Int) < (↑n : Int)) = true → ((0 : Int) ≤ (↑s : Int) ∧ (↑s : Int) < (↑n : Int)) ∧ (((↑s : Int) = (↑s : Int) ∧ l (Int.toNat (↑s : Int)) = l (Int.toNat (↑s : Int)) ∧ (True ∧ nc = nc ∧ ∀ (i : Nat), i < nc → True ∧ cl i = cl i) ∧ (True ∧ nk = nk ∧ ∀ (i : Nat), i < nk → True ∧ ky i = ky i) ∧ (True ∧ nu = nu ∧ ∀ (i : Nat), i < nu → True ∧ us i = us i) ∧ True) ∧ True ∧ (0 : Int) ≤ (↑s : Int) ∧ (↑s : Int) < (↑nc : Int) ∧ (↑s : Int) < (↑nk : Int) ∧ (↑s : Int) < (↑nu : Int)) ∧ ((decide ((1 : Int) < cl (Int.toNat (↑s : Int))) || l (Int.toNat (↑s : Int)) != (0 : Int) && (ky (Int.toNat (↑s : Int)) == (0 : Int) || cl (Int.toNat (↑s : Int)) == (1 : Int) && !us (Int.toNat (↑s : Int)))) = true → (((↑s : Int) = (↑s : Int) ∧ e = e ∧ True) ∧ True ∧ (0 : Int) ≤ (↑s : Int) ∧ e ≠ (0 : Int)) ∧ (e = bE n (fun (i : Nat) => decide ((1 : Int) < cl i) || l i != (0 : Int) && (ky i == (0 : Int) || cl i == (1 : Int) && !us i)) e ∧ (↑s : Int) = bA n (fun (i : Nat) => decide ((1 : Int) < cl i) || l i != (0 : Int) && (ky i == (0 : Int) || cl i == (1 : Int) && !us i)) e) ∧ True) ∧ ((decide ((1 : Int) < cl
    (Int.toNat (↑s : Int))) || l (Int.toNat (↑s : Int)) != (0 : Int) && (ky (Int.toNat (↑s : Int)) == (0 : Int) || cl (Int.toNat (↑s : Int)) == (1 : Int) && !us (Int.toNat (↑s : Int)))) = false → IntKind.wrap IntKind.i64 ((↑s : Int) + (1 : Int)) = (↑s : Int) + (1 : Int) ∧ ∃ (s' : Nat), (↑s : Int) + (1 : Int) = (↑s' : Int) ∧ True ∧ (s' ≤ n ∧ ∀ (j : Nat), j < s' → (decide ((1 : Int) < cl j) || l j != (0 : Int) && (ky j == (0 : Int) || cl j == (1 : Int) && !us j)) = false) ∧ n - s' < n - s)) ∧ (decide ((↑s : Int) < (↑n : Int)) = false → (bE n (fun (i : Nat) => decide ((1 : Int) < cl i) || l i != (0 : Int) && (ky i == (0 : Int) || cl i == (1 : Int) && !us i)) e = (0 : Int) ∧ bA n (fun (i : Nat) => decide ((1 : Int) < cl i) || l i != (0 : Int) && (ky i == (0 : Int) || cl i == (1 : Int) && !us i)) e = (-1 : Int)) ∧ True)
theorem q_badF (n : Nat) (l : Nat → Int) (e : Int) (nc : Nat) (cl : Nat → Int) (nk : Nat) (ky : Nat → Int) (nu : Nat) (us : Nat → Bool) : evBody Tryd.prog false glN (mkT [(158, c_wAt), (133, c_frames1)]) Tryd.f126 (a_badF n l e nc cl nk ky nu us) (m_badF n l e nc cl nk ky nu us) [.inv (an_bad n (fun i => decide (1 < cl i) || (l i != 0 && (ky i == 0 || (cl i == 1 && !us i)))))] (r_badF n l e nc cl nk ky nu us) (n_badF n l e nc cl nk ky nu us) = V_badF n l e nc cl nk ky nu us := by kernel_rfl
set_option maxHeartbeats 1000000 in
theorem pf_badF (n : Nat) (l : Nat → Int) (e : Int) (nc : Nat) (cl : Nat → Int) (nk : Nat) (ky : Nat → Int) (nu : Nat) (us : Nat → Bool) (hp : p_badF n l e nc cl nk ky nu us) : FnC Tryd.prog glN 126 (a_badF n l e nc cl nk ky nu us) (m_badF n l e nc cl nk ky nu us) (r_badF n l e nc cl nk ky nu us) (n_badF n l e nc cl nk ky nu us) := by
  refine fn_of (sound_cons ok_wAt (sound_cons ok_frames1 sound_nil)) false Tryd.func126 [.inv (an_bad n (fun i => decide (1 < cl i) || (l i != 0 && (ky i == 0 || (cl i == 1 && !us i)))))] (q_badF n l e nc cl nk ky nu us) ?_
  unfold V_badF
  unfold p_badF at hp
  obtain ⟨he, hp⟩ := hp
  simp only [true_and, and_true, and_self, implies_true, eq_self, Int.toNat_natCast, Nat.zero_add, Int.natCast_nonneg, Nat.not_lt_zero, false_implies, Nat.zero_le, Int.natCast_zero, Bool.cond_self, Bool.cond_true_left, Bool.cond_false_right, Bool.cond_true_right, Bool.cond_false_left]
  
  unfold bE bA
  refine fun _ s hs => ⟨fun h => ?_, fun h => ?_⟩
  · have hlt := lt_of_dec h
    refine ⟨by omega, ⟨by omega, by omega, by omega⟩, fun h1 => ?_, fun h1 => ⟨by rw [IntKind.wrap_i64]; omega, exS ⟨⟨by omega, snocF (p := fun i => decide (1 < cl i) || (l i != 0 && (ky i == 0 || (cl i == 1 && !us i)))) hs.2 h1⟩, by omega⟩⟩⟩
    rw [fstE_at (p := fun i => decide (1 < cl i) || (l i != 0 && (ky i == 0 || (cl i == 1 && !us i)))) hs.2 h1 hlt]
    first | exact ⟨he, rfl, rfl⟩ | exact ⟨⟨by omega, he⟩, rfl, rfl⟩
  · have hge := ge_of_dec h
    rw [fstE_none (p := fun i => decide (1 < cl i) || (l i != 0 && (ky i == 0 || (cl i == 1 && !us i)))) fun j hj => hs.2 j (by omega)]
    exact ⟨rfl, rfl⟩
theorem ok_badF : FnOK Tryd.prog glN 126 c_badF := fnOK_of (fun l w => Tryd.call126 l w) fun x_ hp => pf_badF x_.n x_.l x_.e x_.nc x_.cl x_.nk x_.ky x_.nu x_.us hp
structure X_badC where
  e : Int
  W : Wd
def a_badC (e : Int) (W : Wd) : List SV := [.sl true 1 W.nCores (iF W.cores), .v (.int .i64 e), .fn 142 1 (lsv [.pt true 1 (fun _ => .fn 141 1 (lsv [.pt true 1 (fun _ => wPT W)]))])]
def m_badC (e : Int) (W : Wd) : List Blk := []
def r_badC (e : Int) (W : Wd) : SV := .er 22 25 (bE W.nCores (fun i => !coB W i) e) (bA W.nCores (fun i => !coB W i) e)
def n_badC (e : Int) (W : Wd) : List Blk := []
def p_badC (e : Int) (W : Wd) : Prop := e ≠ 0 ∧ Szd W
def s_badC : Sy.Spec where
  X := X_badC
  args x_ := a_badC x_.e x_.W
  mem x_ := m_badC x_.e x_.W
  pre x_ := p_badC x_.e x_.W
  res x_ := r_badC x_.e x_.W
  mem' x_ := n_badC x_.e x_.W
  dec args mem := match args with | [a0, a1, a2] => (match isFn 142 a2 with | true => some ⟨intD (a1), wPTD (ptF (fnF (ptF (fnF a2 0) 0) 0) 0)⟩ | false => none) | _ => none
def c_badC : Con := ⟨[], s_badC.g, none⟩
def V_badC (e : Int) (W : Wd) : Prop :=
  (↑W.nCores : Int) ≤ (9223372036854775807 : Int) → (0 : Int) = (↑(0 : Nat) : Int) ∧ True ∧ ((0 : Nat) ≤ W.nCores ∧ ∀ (j : Nat), j < (0 : Nat) → (!coB W j) = false) ∧ ∀ (s : Nat), (s ≤ W.nCores ∧ ∀ (j : Nat), j < s → (!coB W j) = false) → (decide ((↑s : Int) < (↑W.nCores : Int)) = true → ((0 : Int) ≤ (↑s : Int) ∧ (↑s : Int) < (↑W.nCores : Int)) ∧ (((↑s : Int) = (↑s : Int) ∧ W.cores (Int.toNat (↑s : Int)) = W.cores (Int.toNat (↑s : Int)) ∧ (True ∧ True ∧ True ∧ ((((((((((True ∧ W.nRam = W.nRam ∧ ∀ (i : Nat), i < W.nRam → True ∧ W.ram i = W.ram i) ∧ W.nKinds = W.nKinds ∧ ∀ (i : Nat), i < W.nKinds → True ∧ W.kinds i = W.kinds i) ∧ W.nSlots = W.nSlots ∧ ∀ (i : Nat), i < W.nSlots → ((((((True ∧ (W.slots i).kind = (W.slots i).kind) ∧ (W.slots i).base = (W.slots i).base) ∧ (W.slots i).len = (W.slots i).len) ∧ (W.slots i).mark = (W.slots i).mark) ∧ (W.slots i).rights = (W.slots i).rights) ∧ (W.slots i).badge = (W.slots i).badge) ∧ (W.slots i).from_ = (W.slots i).from_) ∧ W.nTasks = W.nTasks ∧ ∀ (i : Nat), i < W.nTasks → (((((((((((((((((((True ∧ (W.tasks i).r0 = (W.tasks i).r0) ∧ (W.tasks i).r1 = (W.tasks i).r1) ∧ (W.tasks i).r2 = (W.tasks i).r2) ∧ (W.tasks i).r3 = (W.tasks i).r3) ∧ (W.tasks i).r4 = (W.tasks i).r4) ∧ (W.tasks i).r5 = (W.tasks i).r5) ∧ (W.tasks i).r6 = (W.tasks i).r6) ∧ (W.tasks i).r7 = (W.tasks i).r7) ∧ (W.tasks i).pc = (W.tasks i).pc) ∧ (W.tasks i).st = (W.tasks i).st) ∧ (W.tasks i).prio = (W.tasks i).prio) ∧ (W.tasks i).node = (W.tasks i).node) ∧ (W.tasks i).space =
    (W.tasks i).space) ∧ (W.tasks i).helper = (W.tasks i).helper) ∧ (W.tasks i).loc = (W.tasks i).loc) ∧ (W.tasks i).word = (W.tasks i).word) ∧ (W.tasks i).badge = (W.tasks i).badge) ∧ (W.tasks i).owes = (W.tasks i).owes) ∧ (W.tasks i).core = (W.tasks i).core) ∧ (W.tasks i).dom = (W.tasks i).dom) ∧ W.nLines = W.nLines ∧ ∀ (i : Nat), i < W.nLines → True ∧ W.linesN i = W.linesN i ∧ ∀ (i_1 : Nat), i_1 < W.linesN i → True ∧ W.lines i i_1 = W.lines i i_1) ∧ W.nBits = W.nBits ∧ ∀ (i : Nat), i < W.nBits → True ∧ W.bits i = W.bits i) ∧ W.nCores = W.nCores ∧ ∀ (i : Nat), i < W.nCores → True ∧ W.cores i = W.cores i) ∧ W.nReady = W.nReady ∧ ∀ (i : Nat), i < W.nReady → True ∧ W.readyN i = W.readyN i ∧ ∀ (i_1 : Nat), i_1 < W.readyN i → True ∧ W.ready i i_1 = W.ready i i_1) ∧ W.nTlbs = W.nTlbs ∧ ∀ (i : Nat), i < W.nTlbs → True ∧ W.tlbsN i = W.tlbsN i ∧ ∀ (i_1 : Nat), i_1 < W.tlbsN i → (((True ∧ (W.tlbs i i_1).sp = (W.tlbs i i_1).sp) ∧ (W.tlbs i i_1).pg = (W.tlbs i i_1).pg) ∧ (W.tlbs i i_1).fr = (W.tlbs i i_1).fr) ∧ (W.tlbs i i_1).wr = (W.tlbs i i_1).wr) ∧ W.nDoms = W.nDoms ∧ ∀ (i : Nat), i < W.nDoms → True ∧ W.doms i = W.doms i) ∧ W.time = W.time) ∧ True) ∧ True ∧ Szd W) ∧ ((W.cores (Int.toNat (↑s : Int)) != (-1 : Int) && !rdB W (W.cores (Int.toNat (↑s : Int))) (↑s : Int) (-1 : Int)) = true → (((↑s : Int) = (↑s : Int) ∧ e = e ∧ True) ∧ True ∧ (0 : Int) ≤ (↑s : Int) ∧ e ≠ (0 : Int)) ∧ (e = bE W.nCores (fun (i : Nat) => !coB W i) e ∧ (↑s : Int) = bA W.nCores (fun (i : Nat) => !coB W i) e) ∧
    True) ∧ ((W.cores (Int.toNat (↑s : Int)) != (-1 : Int) && !rdB W (W.cores (Int.toNat (↑s : Int))) (↑s : Int) (-1 : Int)) = false → IntKind.wrap IntKind.i64 ((↑s : Int) + (1 : Int)) = (↑s : Int) + (1 : Int) ∧ ∃ (s' : Nat), (↑s : Int) + (1 : Int) = (↑s' : Int) ∧ True ∧ (s' ≤ W.nCores ∧ ∀ (j : Nat), j < s' → (!coB W j) = false) ∧ W.nCores - s' < W.nCores - s)) ∧ (decide ((↑s : Int) < (↑W.nCores : Int)) = false → (bE W.nCores (fun (i : Nat) => !coB W i) e = (0 : Int) ∧ bA W.nCores (fun (i : Nat) => !coB W i) e = (-1 : Int)) ∧ True)
theorem q_badC (e : Int) (W : Wd) : evBody Tryd.prog false glN (mkT [(158, c_wAt), (142, c_turns2)]) Tryd.f126 (a_badC e W) (m_badC e W) [.inv (an_bad W.nCores (fun i => !coB W i))] (r_badC e W) (n_badC e W) = V_badC e W := by kernel_rfl
set_option maxHeartbeats 1000000 in
theorem pf_badC (e : Int) (W : Wd) (hp : p_badC e W) : FnC Tryd.prog glN 126 (a_badC e W) (m_badC e W) (r_badC e W) (n_badC e W) := by
  refine fn_of (sound_cons ok_wAt (sound_cons ok_turns2 sound_nil)) false Tryd.func126 [.inv (an_bad W.nCores (fun i => !coB W i))] (q_badC e W) ?_
  unfold V_badC
  unfold p_badC at hp
  obtain ⟨he, hp⟩ := hp
  simp only [true_and, and_true, and_self, implies_true, eq_self, Int.toNat_natCast, Nat.zero_add, Int.natCast_nonneg, Nat.not_lt_zero, false_implies, Nat.zero_le, Int.natCast_zero, Bool.cond_self, Bool.cond_true_left, Bool.cond_false_right, Bool.cond_true_right, Bool.cond_false_left]
  have z1 := hp.c1
  simp only [coB_not]
  unfold bE bA
  refine fun _ s hs => ⟨fun h => ?_, fun h => ?_⟩
  · have hlt := lt_of_dec h
    refine ⟨by omega, hp, fun h1 => ?_, fun h1 => ⟨by rw [IntKind.wrap_i64]; omega, exS ⟨⟨by omega, snocF (p := fun i => !coB W i) hs.2 h1⟩, by omega⟩⟩⟩
    rw [fstE_at (p := fun i => !coB W i) hs.2 h1 hlt]
    first | exact ⟨he, rfl, rfl⟩ | exact ⟨⟨by omega, he⟩, rfl, rfl⟩
  · have hge := ge_of_dec h
    rw [fstE_none (p := fun i => !coB W i) fun j hj => hs.2 j (by omega)]
    exact ⟨rfl, rfl⟩
theorem ok_badC : FnOK Tryd.prog glN 126 c_badC := fnOK_of (fun l w => Tryd.call126 l w) fun x_ hp => pf_badC x_.e x_.W hp
structure X_badM where
  e : Int
  W : Wd
def a_badM (e : Int) (W : Wd) : List SV := [.sl true 1 W.nRam (iF W.ram), .v (.int .i64 e), .fn 146 1 (lsv [.pt true 1 (fun _ => wPT W)])]
def m_badM (e : Int) (W : Wd) : List Blk := []
def r_badM (e : Int) (W : Wd) : SV := .er 22 25 (bE W.nRam (fun i => !enB W i) e) (bA W.nRam (fun i => !enB W i) e)
def n_badM (e : Int) (W : Wd) : List Blk := []
def p_badM (e : Int) (W : Wd) : Prop := e ≠ 0 ∧ Szd W ∧ ∀ i, i < W.nRam → isW (W.ram i)
def s_badM : Sy.Spec where
  X := X_badM
  args x_ := a_badM x_.e x_.W
  mem x_ := m_badM x_.e x_.W
  pre x_ := p_badM x_.e x_.W
  res x_ := r_badM x_.e x_.W
  mem' x_ := n_badM x_.e x_.W
  dec args mem := match args with | [a0, a1, a2] => (match isFn 146 a2 with | true => some ⟨intD (a1), wPTD (ptF (fnF a2 0) 0)⟩ | false => none) | _ => none
def c_badM : Con := ⟨[], s_badM.g, none⟩
def V_badM (e : Int) (W : Wd) : Prop :=
  (↑W.nRam : Int) ≤ (9223372036854775807 : Int) → (0 : Int) = (↑(0 : Nat) : Int) ∧ True ∧ ((0 : Nat) ≤ W.nRam ∧ ∀ (j : Nat), j < (0 : Nat) → (!enB W j) = false) ∧ ∀ (s : Nat), (s ≤ W.nRam ∧ ∀ (j : Nat), j < s → (!enB W j) = false) → (decide ((↑s : Int) < (↑W.nRam : Int)) = true → ((0 : Int) ≤ (↑s : Int) ∧ (↑s : Int) < (↑W.nRam : Int)) ∧ (((↑s : Int) = (↑s : Int) ∧ W.ram (Int.toNat (↑s : Int)) = W.ram (Int.toNat (↑s : Int)) ∧ (True ∧ ((((((((((True ∧ W.nRam = W.nRam ∧ ∀ (i : Nat), i < W.nRam → True ∧ W.ram i = W.ram i) ∧ W.nKinds = W.nKinds ∧ ∀ (i : Nat), i < W.nKinds → True ∧ W.kinds i = W.kinds i) ∧ W.nSlots = W.nSlots ∧ ∀ (i : Nat), i < W.nSlots → ((((((True ∧ (W.slots i).kind = (W.slots i).kind) ∧ (W.slots i).base = (W.slots i).base) ∧ (W.slots i).len = (W.slots i).len) ∧ (W.slots i).mark = (W.slots i).mark) ∧ (W.slots i).rights = (W.slots i).rights) ∧ (W.slots i).badge = (W.slots i).badge) ∧ (W.slots i).from_ = (W.slots i).from_) ∧ W.nTasks = W.nTasks ∧ ∀ (i : Nat), i < W.nTasks → (((((((((((((((((((True ∧ (W.tasks i).r0 = (W.tasks i).r0) ∧ (W.tasks i).r1 = (W.tasks i).r1) ∧ (W.tasks i).r2 = (W.tasks i).r2) ∧ (W.tasks i).r3 = (W.tasks i).r3) ∧ (W.tasks i).r4 = (W.tasks i).r4) ∧ (W.tasks i).r5 = (W.tasks i).r5) ∧ (W.tasks i).r6 = (W.tasks i).r6) ∧ (W.tasks i).r7 = (W.tasks i).r7) ∧ (W.tasks i).pc = (W.tasks i).pc) ∧ (W.tasks i).st = (W.tasks i).st) ∧ (W.tasks i).prio = (W.tasks i).prio) ∧ (W.tasks i).node = (W.tasks i).node) ∧ (W.tasks i).space = (W.tasks i).space) ∧
    (W.tasks i).helper = (W.tasks i).helper) ∧ (W.tasks i).loc = (W.tasks i).loc) ∧ (W.tasks i).word = (W.tasks i).word) ∧ (W.tasks i).badge = (W.tasks i).badge) ∧ (W.tasks i).owes = (W.tasks i).owes) ∧ (W.tasks i).core = (W.tasks i).core) ∧ (W.tasks i).dom = (W.tasks i).dom) ∧ W.nLines = W.nLines ∧ ∀ (i : Nat), i < W.nLines → True ∧ W.linesN i = W.linesN i ∧ ∀ (i_1 : Nat), i_1 < W.linesN i → True ∧ W.lines i i_1 = W.lines i i_1) ∧ W.nBits = W.nBits ∧ ∀ (i : Nat), i < W.nBits → True ∧ W.bits i = W.bits i) ∧ W.nCores = W.nCores ∧ ∀ (i : Nat), i < W.nCores → True ∧ W.cores i = W.cores i) ∧ W.nReady = W.nReady ∧ ∀ (i : Nat), i < W.nReady → True ∧ W.readyN i = W.readyN i ∧ ∀ (i_1 : Nat), i_1 < W.readyN i → True ∧ W.ready i i_1 = W.ready i i_1) ∧ W.nTlbs = W.nTlbs ∧ ∀ (i : Nat), i < W.nTlbs → True ∧ W.tlbsN i = W.tlbsN i ∧ ∀ (i_1 : Nat), i_1 < W.tlbsN i → (((True ∧ (W.tlbs i i_1).sp = (W.tlbs i i_1).sp) ∧ (W.tlbs i i_1).pg = (W.tlbs i i_1).pg) ∧ (W.tlbs i i_1).fr = (W.tlbs i i_1).fr) ∧ (W.tlbs i i_1).wr = (W.tlbs i i_1).wr) ∧ W.nDoms = W.nDoms ∧ ∀ (i : Nat), i < W.nDoms → True ∧ W.doms i = W.doms i) ∧ W.time = W.time) ∧ True) ∧ True ∧ Szd W ∧ (0 : Int) ≤ (↑s : Int) ∧ (↑s : Int) < (↑W.nRam : Int) ∧ (0 : Int) ≤ W.ram (Int.toNat (↑s : Int)) ∧ W.ram (Int.toNat (↑s : Int)) ≤ (65535 : Int)) ∧ ((!enB W (Int.toNat (↑s : Int))) = true → (((↑s : Int) = (↑s : Int) ∧ e = e ∧ True) ∧ True ∧ (0 : Int) ≤ (↑s : Int) ∧ e ≠ (0 : Int)) ∧ (e = bE W.nRam (fun (i : Nat) => !enB W i) e ∧ (↑s : Int) = bA
    W.nRam (fun (i : Nat) => !enB W i) e) ∧ True) ∧ ((!enB W (Int.toNat (↑s : Int))) = false → IntKind.wrap IntKind.i64 ((↑s : Int) + (1 : Int)) = (↑s : Int) + (1 : Int) ∧ ∃ (s' : Nat), (↑s : Int) + (1 : Int) = (↑s' : Int) ∧ True ∧ (s' ≤ W.nRam ∧ ∀ (j : Nat), j < s' → (!enB W j) = false) ∧ W.nRam - s' < W.nRam - s)) ∧ (decide ((↑s : Int) < (↑W.nRam : Int)) = false → (bE W.nRam (fun (i : Nat) => !enB W i) e = (0 : Int) ∧ bA W.nRam (fun (i : Nat) => !enB W i) e = (-1 : Int)) ∧ True)
theorem q_badM (e : Int) (W : Wd) : evBody Tryd.prog false glN (mkT [(158, c_wAt), (146, c_maps1)]) Tryd.f126 (a_badM e W) (m_badM e W) [.inv (an_bad W.nRam (fun i => !enB W i))] (r_badM e W) (n_badM e W) = V_badM e W := by kernel_rfl
set_option maxHeartbeats 1000000 in
theorem pf_badM (e : Int) (W : Wd) (hp : p_badM e W) : FnC Tryd.prog glN 126 (a_badM e W) (m_badM e W) (r_badM e W) (n_badM e W) := by
  refine fn_of (sound_cons ok_wAt (sound_cons ok_maps1 sound_nil)) false Tryd.func126 [.inv (an_bad W.nRam (fun i => !enB W i))] (q_badM e W) ?_
  unfold V_badM
  unfold p_badM at hp
  obtain ⟨he, hp⟩ := hp
  simp only [true_and, and_true, and_self, implies_true, eq_self, Int.toNat_natCast, Nat.zero_add, Int.natCast_nonneg, Nat.not_lt_zero, false_implies, Nat.zero_le, Int.natCast_zero, Bool.cond_self, Bool.cond_true_left, Bool.cond_false_right, Bool.cond_true_right, Bool.cond_false_left]
  have z1 := hp.1.ram
  have z2 := hp.1.k1
  unfold bE bA
  refine fun _ s hs => ⟨fun h => ?_, fun h => ?_⟩
  · have hlt := lt_of_dec h
    refine ⟨by omega, ⟨hp.1, by omega, hp.2 s hlt⟩, fun h1 => ?_, fun h1 => ⟨by rw [IntKind.wrap_i64]; omega, exS ⟨⟨by omega, snocF (p := fun i => !enB W i) hs.2 h1⟩, by omega⟩⟩⟩
    rw [fstE_at (p := fun i => !enB W i) hs.2 h1 hlt]
    first | exact ⟨he, rfl, rfl⟩ | exact ⟨⟨by omega, he⟩, rfl, rfl⟩
  · have hge := ge_of_dec h
    rw [fstE_none (p := fun i => !enB W i) fun j hj => hs.2 j (by omega)]
    exact ⟨rfl, rfl⟩
theorem ok_badM : FnOK Tryd.prog glN 126 c_badM := fnOK_of (fun l w => Tryd.call126 l w) fun x_ hp => pf_badM x_.e x_.W hp
structure X_badK where
  e : Int
  W : Wd
def a_badK (e : Int) (W : Wd) : List SV := [.sl true 7 W.nSlots (rF fun i => slL (W.slots i)), .v (.int .i64 e), .fn 131 1 (lsv [.pt true 1 (fun _ => wPT W)])]
def m_badK (e : Int) (W : Wd) : List Blk := []
def r_badK (e : Int) (W : Wd) : SV := .er 22 25 (bE W.nSlots (fun i => !slB W i) e) (bA W.nSlots (fun i => !slB W i) e)
def n_badK (e : Int) (W : Wd) : List Blk := []
def p_badK (e : Int) (W : Wd) : Prop := e ≠ 0 ∧ Szd W
def s_badK : Sy.Spec where
  X := X_badK
  args x_ := a_badK x_.e x_.W
  mem x_ := m_badK x_.e x_.W
  pre x_ := p_badK x_.e x_.W
  res x_ := r_badK x_.e x_.W
  mem' x_ := n_badK x_.e x_.W
  dec args mem := match args with | [a0, a1, a2] => (match isFn 131 a2 with | true => some ⟨intD (a1), wPTD (ptF (fnF a2 0) 0)⟩ | false => none) | _ => none
def c_badK : Con := ⟨[], s_badK.g, none⟩
def V_badK (e : Int) (W : Wd) : Prop :=
  (↑W.nSlots : Int) ≤ (9223372036854775807 : Int) → (0 : Int) = (↑(0 : Nat) : Int) ∧ True ∧ ((0 : Nat) ≤ W.nSlots ∧ ∀ (j : Nat), j < (0 : Nat) → (!slB W j) = false) ∧ ∀ (s : Nat), (s ≤ W.nSlots ∧ ∀ (j : Nat), j < s → (!slB W j) = false) → (decide ((↑s : Int) < (↑W.nSlots : Int)) = true → ((0 : Int) ≤ (↑s : Int) ∧ (↑s : Int) < (↑W.nSlots : Int)) ∧ True ∧ (True ∧ True ∧ True ∧ True ∧ True ∧ True ∧ True) ∧ (((↑s : Int) = (↑s : Int) ∧ (((((((True ∧ (W.slots (Int.toNat (↑s : Int))).kind = (W.slots (Int.toNat (↑s : Int))).kind) ∧ (W.slots (Int.toNat (↑s : Int))).base = (W.slots (Int.toNat (↑s : Int))).base) ∧ (W.slots (Int.toNat (↑s : Int))).len = (W.slots (Int.toNat (↑s : Int))).len) ∧ (W.slots (Int.toNat (↑s : Int))).mark = (W.slots (Int.toNat (↑s : Int))).mark) ∧ (W.slots (Int.toNat (↑s : Int))).rights = (W.slots (Int.toNat (↑s : Int))).rights) ∧ (W.slots (Int.toNat (↑s : Int))).badge = (W.slots (Int.toNat (↑s : Int))).badge) ∧ (W.slots (Int.toNat (↑s : Int))).from_ = (W.slots (Int.toNat (↑s : Int))).from_) ∧ (True ∧ ((((((((((True ∧ W.nRam = W.nRam ∧ ∀ (i : Nat), i < W.nRam → True ∧ W.ram i = W.ram i) ∧ W.nKinds = W.nKinds ∧ ∀ (i : Nat), i < W.nKinds → True ∧ W.kinds i = W.kinds i) ∧ W.nSlots = W.nSlots ∧ ∀ (i : Nat), i < W.nSlots → ((((((True ∧ (W.slots i).kind = (W.slots i).kind) ∧ (W.slots i).base = (W.slots i).base) ∧ (W.slots i).len = (W.slots i).len) ∧ (W.slots i).mark = (W.slots i).mark) ∧ (W.slots i).rights = (W.slots i).rights) ∧ (W.slots i).badge = (W.slots i).badge) ∧
    (W.slots i).from_ = (W.slots i).from_) ∧ W.nTasks = W.nTasks ∧ ∀ (i : Nat), i < W.nTasks → (((((((((((((((((((True ∧ (W.tasks i).r0 = (W.tasks i).r0) ∧ (W.tasks i).r1 = (W.tasks i).r1) ∧ (W.tasks i).r2 = (W.tasks i).r2) ∧ (W.tasks i).r3 = (W.tasks i).r3) ∧ (W.tasks i).r4 = (W.tasks i).r4) ∧ (W.tasks i).r5 = (W.tasks i).r5) ∧ (W.tasks i).r6 = (W.tasks i).r6) ∧ (W.tasks i).r7 = (W.tasks i).r7) ∧ (W.tasks i).pc = (W.tasks i).pc) ∧ (W.tasks i).st = (W.tasks i).st) ∧ (W.tasks i).prio = (W.tasks i).prio) ∧ (W.tasks i).node = (W.tasks i).node) ∧ (W.tasks i).space = (W.tasks i).space) ∧ (W.tasks i).helper = (W.tasks i).helper) ∧ (W.tasks i).loc = (W.tasks i).loc) ∧ (W.tasks i).word = (W.tasks i).word) ∧ (W.tasks i).badge = (W.tasks i).badge) ∧ (W.tasks i).owes = (W.tasks i).owes) ∧ (W.tasks i).core = (W.tasks i).core) ∧ (W.tasks i).dom = (W.tasks i).dom) ∧ W.nLines = W.nLines ∧ ∀ (i : Nat), i < W.nLines → True ∧ W.linesN i = W.linesN i ∧ ∀ (i_1 : Nat), i_1 < W.linesN i → True ∧ W.lines i i_1 = W.lines i i_1) ∧ W.nBits = W.nBits ∧ ∀ (i : Nat), i < W.nBits → True ∧ W.bits i = W.bits i) ∧ W.nCores = W.nCores ∧ ∀ (i : Nat), i < W.nCores → True ∧ W.cores i = W.cores i) ∧ W.nReady = W.nReady ∧ ∀ (i : Nat), i < W.nReady → True ∧ W.readyN i = W.readyN i ∧ ∀ (i_1 : Nat), i_1 < W.readyN i → True ∧ W.ready i i_1 = W.ready i i_1) ∧ W.nTlbs = W.nTlbs ∧ ∀ (i : Nat), i < W.nTlbs → True ∧ W.tlbsN i = W.tlbsN i ∧ ∀ (i_1 : Nat), i_1 < W.tlbsN i → (((True ∧ (W.tlbs i i_1).sp = (W.tlbs i i_1).sp) ∧
    (W.tlbs i i_1).pg = (W.tlbs i i_1).pg) ∧ (W.tlbs i i_1).fr = (W.tlbs i i_1).fr) ∧ (W.tlbs i i_1).wr = (W.tlbs i i_1).wr) ∧ W.nDoms = W.nDoms ∧ ∀ (i : Nat), i < W.nDoms → True ∧ W.doms i = W.doms i) ∧ W.time = W.time) ∧ True) ∧ True ∧ Szd W ∧ (0 : Int) ≤ (↑s : Int) ∧ (↑s : Int) < (↑W.nSlots : Int)) ∧ ((!slB W (Int.toNat (↑s : Int))) = true → (((↑s : Int) = (↑s : Int) ∧ e = e ∧ True) ∧ True ∧ (0 : Int) ≤ (↑s : Int) ∧ e ≠ (0 : Int)) ∧ (e = bE W.nSlots (fun (i : Nat) => !slB W i) e ∧ (↑s : Int) = bA W.nSlots (fun (i : Nat) => !slB W i) e) ∧ True) ∧ ((!slB W (Int.toNat (↑s : Int))) = false → IntKind.wrap IntKind.i64 ((↑s : Int) + (1 : Int)) = (↑s : Int) + (1 : Int) ∧ ∃ (s' : Nat), (↑s : Int) + (1 : Int) = (↑s' : Int) ∧ True ∧ (s' ≤ W.nSlots ∧ ∀ (j : Nat), j < s' → (!slB W j) = false) ∧ W.nSlots - s' < W.nSlots - s)) ∧ (decide ((↑s : Int) < (↑W.nSlots : Int)) = false → (bE W.nSlots (fun (i : Nat) => !slB W i) e = (0 : Int) ∧ bA W.nSlots (fun (i : Nat) => !slB W i) e = (-1 : Int)) ∧ True)
theorem q_badK (e : Int) (W : Wd) : evBody Tryd.prog false glN (mkT [(158, c_wAt), (131, c_keys1)]) Tryd.f130 (a_badK e W) (m_badK e W) [.inv (an_bad W.nSlots (fun i => !slB W i))] (r_badK e W) (n_badK e W) = V_badK e W := by kernel_rfl
set_option maxHeartbeats 1000000 in
theorem pf_badK (e : Int) (W : Wd) (hp : p_badK e W) : FnC Tryd.prog glN 130 (a_badK e W) (m_badK e W) (r_badK e W) (n_badK e W) := by
  refine fn_of (sound_cons ok_wAt (sound_cons ok_keys1 sound_nil)) false Tryd.func130 [.inv (an_bad W.nSlots (fun i => !slB W i))] (q_badK e W) ?_
  unfold V_badK
  unfold p_badK at hp
  obtain ⟨he, hp⟩ := hp
  simp only [true_and, and_true, and_self, implies_true, eq_self, Int.toNat_natCast, Nat.zero_add, Int.natCast_nonneg, Nat.not_lt_zero, false_implies, Nat.zero_le, Int.natCast_zero, Bool.cond_self, Bool.cond_true_left, Bool.cond_false_right, Bool.cond_true_right, Bool.cond_false_left]
  have z1 := hp.slots
  have z2 := hp.k1
  unfold bE bA
  refine fun _ s hs => ⟨fun h => ?_, fun h => ?_⟩
  · have hlt := lt_of_dec h
    refine ⟨by omega, ⟨hp, by omega⟩, fun h1 => ?_, fun h1 => ⟨by rw [IntKind.wrap_i64]; omega, exS ⟨⟨by omega, snocF (p := fun i => !slB W i) hs.2 h1⟩, by omega⟩⟩⟩
    rw [fstE_at (p := fun i => !slB W i) hs.2 h1 hlt]
    first | exact ⟨he, rfl, rfl⟩ | exact ⟨⟨by omega, he⟩, rfl, rfl⟩
  · have hge := ge_of_dec h
    rw [fstE_none (p := fun i => !slB W i) fun j hj => hs.2 j (by omega)]
    exact ⟨rfl, rfl⟩
theorem ok_badK : FnOK Tryd.prog glN 130 c_badK := fnOK_of (fun l w => Tryd.call130 l w) fun x_ hp => pf_badK x_.e x_.W hp
structure X_badT where
  e : Int
  W : Wd
def a_badT (e : Int) (W : Wd) : List SV := [.sl true 20 W.nTasks (rF fun i => runL (W.tasks i)), .v (.int .i64 e), .fn 135 1 (lsv [.pt true 1 (fun _ => wPT W)])]
def m_badT (e : Int) (W : Wd) : List Blk := []
def r_badT (e : Int) (W : Wd) : SV := .er 22 25 (bE W.nTasks (fun i => !tkB W i) e) (bA W.nTasks (fun i => !tkB W i) e)
def n_badT (e : Int) (W : Wd) : List Blk := []
def p_badT (e : Int) (W : Wd) : Prop := e ≠ 0 ∧ Szd W ∧ smB W
def s_badT : Sy.Spec where
  X := X_badT
  args x_ := a_badT x_.e x_.W
  mem x_ := m_badT x_.e x_.W
  pre x_ := p_badT x_.e x_.W
  res x_ := r_badT x_.e x_.W
  mem' x_ := n_badT x_.e x_.W
  dec args mem := match args with | [a0, a1, a2] => (match isFn 135 a2 with | true => some ⟨intD (a1), wPTD (ptF (fnF a2 0) 0)⟩ | false => none) | _ => none
def c_badT : Con := ⟨[], s_badT.g, none⟩
def V_badT (e : Int) (W : Wd) : Prop :=
  (↑W.nTasks : Int) ≤ (9223372036854775807 : Int) → (0 : Int) = (↑(0 : Nat) : Int) ∧ True ∧ ((0 : Nat) ≤ W.nTasks ∧ ∀ (j : Nat), j < (0 : Nat) → (!tkB W j) = false) ∧ ∀ (s : Nat), (s ≤ W.nTasks ∧ ∀ (j : Nat), j < s → (!tkB W j) = false) → (decide ((↑s : Int) < (↑W.nTasks : Int)) = true → ((0 : Int) ≤ (↑s : Int) ∧ (↑s : Int) < (↑W.nTasks : Int)) ∧ True ∧ (True ∧ True ∧ True ∧ True ∧ True ∧ True ∧ True ∧ True ∧ True ∧ True ∧ True ∧ True ∧ True ∧ True ∧ True ∧ True ∧ True ∧ True ∧ True ∧ True) ∧ (((↑s : Int) = (↑s : Int) ∧ ((((((((((((((((((((True ∧ (W.tasks (Int.toNat (↑s : Int))).r0 = (W.tasks (Int.toNat (↑s : Int))).r0) ∧ (W.tasks (Int.toNat (↑s : Int))).r1 = (W.tasks (Int.toNat (↑s : Int))).r1) ∧ (W.tasks (Int.toNat (↑s : Int))).r2 = (W.tasks (Int.toNat (↑s : Int))).r2) ∧ (W.tasks (Int.toNat (↑s : Int))).r3 = (W.tasks (Int.toNat (↑s : Int))).r3) ∧ (W.tasks (Int.toNat (↑s : Int))).r4 = (W.tasks (Int.toNat (↑s : Int))).r4) ∧ (W.tasks (Int.toNat (↑s : Int))).r5 = (W.tasks (Int.toNat (↑s : Int))).r5) ∧ (W.tasks (Int.toNat (↑s : Int))).r6 = (W.tasks (Int.toNat (↑s : Int))).r6) ∧ (W.tasks (Int.toNat (↑s : Int))).r7 = (W.tasks (Int.toNat (↑s : Int))).r7) ∧ (W.tasks (Int.toNat (↑s : Int))).pc = (W.tasks (Int.toNat (↑s : Int))).pc) ∧ (W.tasks (Int.toNat (↑s : Int))).st = (W.tasks (Int.toNat (↑s : Int))).st) ∧ (W.tasks (Int.toNat (↑s : Int))).prio = (W.tasks (Int.toNat (↑s : Int))).prio) ∧ (W.tasks (Int.toNat (↑s : Int))).node = (W.tasks (Int.toNat (↑s : Int))).node) ∧ (W.tasks
    (Int.toNat (↑s : Int))).space = (W.tasks (Int.toNat (↑s : Int))).space) ∧ (W.tasks (Int.toNat (↑s : Int))).helper = (W.tasks (Int.toNat (↑s : Int))).helper) ∧ (W.tasks (Int.toNat (↑s : Int))).loc = (W.tasks (Int.toNat (↑s : Int))).loc) ∧ (W.tasks (Int.toNat (↑s : Int))).word = (W.tasks (Int.toNat (↑s : Int))).word) ∧ (W.tasks (Int.toNat (↑s : Int))).badge = (W.tasks (Int.toNat (↑s : Int))).badge) ∧ (W.tasks (Int.toNat (↑s : Int))).owes = (W.tasks (Int.toNat (↑s : Int))).owes) ∧ (W.tasks (Int.toNat (↑s : Int))).core = (W.tasks (Int.toNat (↑s : Int))).core) ∧ (W.tasks (Int.toNat (↑s : Int))).dom = (W.tasks (Int.toNat (↑s : Int))).dom) ∧ (True ∧ ((((((((((True ∧ W.nRam = W.nRam ∧ ∀ (i : Nat), i < W.nRam → True ∧ W.ram i = W.ram i) ∧ W.nKinds = W.nKinds ∧ ∀ (i : Nat), i < W.nKinds → True ∧ W.kinds i = W.kinds i) ∧ W.nSlots = W.nSlots ∧ ∀ (i : Nat), i < W.nSlots → ((((((True ∧ (W.slots i).kind = (W.slots i).kind) ∧ (W.slots i).base = (W.slots i).base) ∧ (W.slots i).len = (W.slots i).len) ∧ (W.slots i).mark = (W.slots i).mark) ∧ (W.slots i).rights = (W.slots i).rights) ∧ (W.slots i).badge = (W.slots i).badge) ∧ (W.slots i).from_ = (W.slots i).from_) ∧ W.nTasks = W.nTasks ∧ ∀ (i : Nat), i < W.nTasks → (((((((((((((((((((True ∧ (W.tasks i).r0 = (W.tasks i).r0) ∧ (W.tasks i).r1 = (W.tasks i).r1) ∧ (W.tasks i).r2 = (W.tasks i).r2) ∧ (W.tasks i).r3 = (W.tasks i).r3) ∧ (W.tasks i).r4 = (W.tasks i).r4) ∧ (W.tasks i).r5 = (W.tasks i).r5) ∧ (W.tasks i).r6 = (W.tasks i).r6) ∧ (W.tasks
    i).r7 = (W.tasks i).r7) ∧ (W.tasks i).pc = (W.tasks i).pc) ∧ (W.tasks i).st = (W.tasks i).st) ∧ (W.tasks i).prio = (W.tasks i).prio) ∧ (W.tasks i).node = (W.tasks i).node) ∧ (W.tasks i).space = (W.tasks i).space) ∧ (W.tasks i).helper = (W.tasks i).helper) ∧ (W.tasks i).loc = (W.tasks i).loc) ∧ (W.tasks i).word = (W.tasks i).word) ∧ (W.tasks i).badge = (W.tasks i).badge) ∧ (W.tasks i).owes = (W.tasks i).owes) ∧ (W.tasks i).core = (W.tasks i).core) ∧ (W.tasks i).dom = (W.tasks i).dom) ∧ W.nLines = W.nLines ∧ ∀ (i : Nat), i < W.nLines → True ∧ W.linesN i = W.linesN i ∧ ∀ (i_1 : Nat), i_1 < W.linesN i → True ∧ W.lines i i_1 = W.lines i i_1) ∧ W.nBits = W.nBits ∧ ∀ (i : Nat), i < W.nBits → True ∧ W.bits i = W.bits i) ∧ W.nCores = W.nCores ∧ ∀ (i : Nat), i < W.nCores → True ∧ W.cores i = W.cores i) ∧ W.nReady = W.nReady ∧ ∀ (i : Nat), i < W.nReady → True ∧ W.readyN i = W.readyN i ∧ ∀ (i_1 : Nat), i_1 < W.readyN i → True ∧ W.ready i i_1 = W.ready i i_1) ∧ W.nTlbs = W.nTlbs ∧ ∀ (i : Nat), i < W.nTlbs → True ∧ W.tlbsN i = W.tlbsN i ∧ ∀ (i_1 : Nat), i_1 < W.tlbsN i → (((True ∧ (W.tlbs i i_1).sp = (W.tlbs i i_1).sp) ∧ (W.tlbs i i_1).pg = (W.tlbs i i_1).pg) ∧ (W.tlbs i i_1).fr = (W.tlbs i i_1).fr) ∧ (W.tlbs i i_1).wr = (W.tlbs i i_1).wr) ∧ W.nDoms = W.nDoms ∧ ∀ (i : Nat), i < W.nDoms → True ∧ W.doms i = W.doms i) ∧ W.time = W.time) ∧ True) ∧ True ∧ Szd W ∧ ((∀ (i : Nat), i < W.nLines → W.linesN i ≤ (50 : Nat)) ∧ (∀ (i : Nat), i < W.nReady → W.readyN i ≤ (50 : Nat)) ∧ ∀ (i : Nat), i <
    W.nTlbs → W.tlbsN i ≤ (50 : Nat)) ∧ (0 : Int) ≤ (↑s : Int) ∧ (↑s : Int) < (↑W.nKinds : Int)) ∧ ((!tkB W (Int.toNat (↑s : Int))) = true → (((↑s : Int) = (↑s : Int) ∧ e = e ∧ True) ∧ True ∧ (0 : Int) ≤ (↑s : Int) ∧ e ≠ (0 : Int)) ∧ (e = bE W.nTasks (fun (i : Nat) => !tkB W i) e ∧ (↑s : Int) = bA W.nTasks (fun (i : Nat) => !tkB W i) e) ∧ True) ∧ ((!tkB W (Int.toNat (↑s : Int))) = false → IntKind.wrap IntKind.i64 ((↑s : Int) + (1 : Int)) = (↑s : Int) + (1 : Int) ∧ ∃ (s' : Nat), (↑s : Int) + (1 : Int) = (↑s' : Int) ∧ True ∧ (s' ≤ W.nTasks ∧ ∀ (j : Nat), j < s' → (!tkB W j) = false) ∧ W.nTasks - s' < W.nTasks - s)) ∧ (decide ((↑s : Int) < (↑W.nTasks : Int)) = false → (bE W.nTasks (fun (i : Nat) => !tkB W i) e = (0 : Int) ∧ bA W.nTasks (fun (i : Nat) => !tkB W i) e = (-1 : Int)) ∧ True)
theorem q_badT (e : Int) (W : Wd) : evBody Tryd.prog false glN (mkT [(158, c_wAt), (135, c_tasks1)]) Tryd.f134 (a_badT e W) (m_badT e W) [.inv (an_bad W.nTasks (fun i => !tkB W i))] (r_badT e W) (n_badT e W) = V_badT e W := by kernel_rfl
set_option maxHeartbeats 1000000 in
theorem pf_badT (e : Int) (W : Wd) (hp : p_badT e W) : FnC Tryd.prog glN 134 (a_badT e W) (m_badT e W) (r_badT e W) (n_badT e W) := by
  refine fn_of (sound_cons ok_wAt (sound_cons ok_tasks1 sound_nil)) false Tryd.func134 [.inv (an_bad W.nTasks (fun i => !tkB W i))] (q_badT e W) ?_
  unfold V_badT
  unfold p_badT at hp
  obtain ⟨he, hp⟩ := hp
  simp only [true_and, and_true, and_self, implies_true, eq_self, Int.toNat_natCast, Nat.zero_add, Int.natCast_nonneg, Nat.not_lt_zero, false_implies, Nat.zero_le, Int.natCast_zero, Bool.cond_self, Bool.cond_true_left, Bool.cond_false_right, Bool.cond_true_right, Bool.cond_false_left]
  have z1 := hp.1.tasks
  have z2 := hp.1.k1
  unfold bE bA
  refine fun _ s hs => ⟨fun h => ?_, fun h => ?_⟩
  · have hlt := lt_of_dec h
    refine ⟨by omega, ⟨hp.1, hp.2, by omega⟩, fun h1 => ?_, fun h1 => ⟨by rw [IntKind.wrap_i64]; omega, exS ⟨⟨by omega, snocF (p := fun i => !tkB W i) hs.2 h1⟩, by omega⟩⟩⟩
    rw [fstE_at (p := fun i => !tkB W i) hs.2 h1 hlt]
    first | exact ⟨he, rfl, rfl⟩ | exact ⟨⟨by omega, he⟩, rfl, rfl⟩
  · have hge := ge_of_dec h
    rw [fstE_none (p := fun i => !tkB W i) fun j hj => hs.2 j (by omega)]
    exact ⟨rfl, rfl⟩
theorem ok_badT : FnOK Tryd.prog glN 134 c_badT := fnOK_of (fun l w => Tryd.call134 l w) fun x_ hp => pf_badT x_.e x_.W hp
structure X_badL where
  e : Int
  W : Wd
def a_badL (e : Int) (W : Wd) : List SV := [.sl true 1 W.nLines (fun i _ => .sl true 1 (W.linesN i) (iF (W.lines i))), .v (.int .i64 e), .fn 140 1 (lsv [.pt true 1 (fun _ => wPT W)])]
def m_badL (e : Int) (W : Wd) : List Blk := []
def r_badL (e : Int) (W : Wd) : SV := .er 22 25 (bE W.nLines (fun i => !lnB W i) e) (bA W.nLines (fun i => !lnB W i) e)
def n_badL (e : Int) (W : Wd) : List Blk := []
def p_badL (e : Int) (W : Wd) : Prop := e ≠ 0 ∧ Szd W ∧ smB W
def s_badL : Sy.Spec where
  X := X_badL
  args x_ := a_badL x_.e x_.W
  mem x_ := m_badL x_.e x_.W
  pre x_ := p_badL x_.e x_.W
  res x_ := r_badL x_.e x_.W
  mem' x_ := n_badL x_.e x_.W
  dec args mem := match args with | [a0, a1, a2] => (match isFn 140 a2 with | true => some ⟨intD (a1), wPTD (ptF (fnF a2 0) 0)⟩ | false => none) | _ => none
def c_badL : Con := ⟨[], s_badL.g, none⟩
def V_badL (e : Int) (W : Wd) : Prop :=
  (↑W.nLines : Int) ≤ (9223372036854775807 : Int) → (0 : Int) = (↑(0 : Nat) : Int) ∧ True ∧ ((0 : Nat) ≤ W.nLines ∧ ∀ (j : Nat), j < (0 : Nat) → (!lnB W j) = false) ∧ ∀ (s : Nat), (s ≤ W.nLines ∧ ∀ (j : Nat), j < s → (!lnB W j) = false) → (decide ((↑s : Int) < (↑W.nLines : Int)) = true → ((0 : Int) ≤ (↑s : Int) ∧ (↑s : Int) < (↑W.nLines : Int)) ∧ (((↑s : Int) = (↑s : Int) ∧ (W.linesN (Int.toNat (↑s : Int)) = W.linesN (Int.toNat (↑s : Int)) ∧ ∀ (i : Nat), i < W.linesN (Int.toNat (↑s : Int)) → True ∧ W.lines (Int.toNat (↑s : Int)) i = W.lines (Int.toNat (↑s : Int)) i) ∧ (True ∧ ((((((((((True ∧ W.nRam = W.nRam ∧ ∀ (i : Nat), i < W.nRam → True ∧ W.ram i = W.ram i) ∧ W.nKinds = W.nKinds ∧ ∀ (i : Nat), i < W.nKinds → True ∧ W.kinds i = W.kinds i) ∧ W.nSlots = W.nSlots ∧ ∀ (i : Nat), i < W.nSlots → ((((((True ∧ (W.slots i).kind = (W.slots i).kind) ∧ (W.slots i).base = (W.slots i).base) ∧ (W.slots i).len = (W.slots i).len) ∧ (W.slots i).mark = (W.slots i).mark) ∧ (W.slots i).rights = (W.slots i).rights) ∧ (W.slots i).badge = (W.slots i).badge) ∧ (W.slots i).from_ = (W.slots i).from_) ∧ W.nTasks = W.nTasks ∧ ∀ (i : Nat), i < W.nTasks → (((((((((((((((((((True ∧ (W.tasks i).r0 = (W.tasks i).r0) ∧ (W.tasks i).r1 = (W.tasks i).r1) ∧ (W.tasks i).r2 = (W.tasks i).r2) ∧ (W.tasks i).r3 = (W.tasks i).r3) ∧ (W.tasks i).r4 = (W.tasks i).r4) ∧ (W.tasks i).r5 = (W.tasks i).r5) ∧ (W.tasks i).r6 = (W.tasks i).r6) ∧ (W.tasks i).r7 = (W.tasks i).r7) ∧ (W.tasks i).pc = (W.tasks i).pc) ∧ (W.tasks i).st
    = (W.tasks i).st) ∧ (W.tasks i).prio = (W.tasks i).prio) ∧ (W.tasks i).node = (W.tasks i).node) ∧ (W.tasks i).space = (W.tasks i).space) ∧ (W.tasks i).helper = (W.tasks i).helper) ∧ (W.tasks i).loc = (W.tasks i).loc) ∧ (W.tasks i).word = (W.tasks i).word) ∧ (W.tasks i).badge = (W.tasks i).badge) ∧ (W.tasks i).owes = (W.tasks i).owes) ∧ (W.tasks i).core = (W.tasks i).core) ∧ (W.tasks i).dom = (W.tasks i).dom) ∧ W.nLines = W.nLines ∧ ∀ (i : Nat), i < W.nLines → True ∧ W.linesN i = W.linesN i ∧ ∀ (i_1 : Nat), i_1 < W.linesN i → True ∧ W.lines i i_1 = W.lines i i_1) ∧ W.nBits = W.nBits ∧ ∀ (i : Nat), i < W.nBits → True ∧ W.bits i = W.bits i) ∧ W.nCores = W.nCores ∧ ∀ (i : Nat), i < W.nCores → True ∧ W.cores i = W.cores i) ∧ W.nReady = W.nReady ∧ ∀ (i : Nat), i < W.nReady → True ∧ W.readyN i = W.readyN i ∧ ∀ (i_1 : Nat), i_1 < W.readyN i → True ∧ W.ready i i_1 = W.ready i i_1) ∧ W.nTlbs = W.nTlbs ∧ ∀ (i : Nat), i < W.nTlbs → True ∧ W.tlbsN i = W.tlbsN i ∧ ∀ (i_1 : Nat), i_1 < W.tlbsN i → (((True ∧ (W.tlbs i i_1).sp = (W.tlbs i i_1).sp) ∧ (W.tlbs i i_1).pg = (W.tlbs i i_1).pg) ∧ (W.tlbs i i_1).fr = (W.tlbs i i_1).fr) ∧ (W.tlbs i i_1).wr = (W.tlbs i i_1).wr) ∧ W.nDoms = W.nDoms ∧ ∀ (i : Nat), i < W.nDoms → True ∧ W.doms i = W.doms i) ∧ W.time = W.time) ∧ True) ∧ True ∧ Szd W ∧ ((∀ (i : Nat), i < W.nLines → W.linesN i ≤ (50 : Nat)) ∧ (∀ (i : Nat), i < W.nReady → W.readyN i ≤ (50 : Nat)) ∧ ∀ (i : Nat), i < W.nTlbs → W.tlbsN i ≤ (50 : Nat)) ∧ (0 : Int) ≤ (↑s : Int) ∧ (↑s : Int) <
    (↑W.nKinds : Int)) ∧ ((!lnB W (Int.toNat (↑s : Int))) = true → (((↑s : Int) = (↑s : Int) ∧ e = e ∧ True) ∧ True ∧ (0 : Int) ≤ (↑s : Int) ∧ e ≠ (0 : Int)) ∧ (e = bE W.nLines (fun (i : Nat) => !lnB W i) e ∧ (↑s : Int) = bA W.nLines (fun (i : Nat) => !lnB W i) e) ∧ True) ∧ ((!lnB W (Int.toNat (↑s : Int))) = false → IntKind.wrap IntKind.i64 ((↑s : Int) + (1 : Int)) = (↑s : Int) + (1 : Int) ∧ ∃ (s' : Nat), (↑s : Int) + (1 : Int) = (↑s' : Int) ∧ True ∧ (s' ≤ W.nLines ∧ ∀ (j : Nat), j < s' → (!lnB W j) = false) ∧ W.nLines - s' < W.nLines - s)) ∧ (decide ((↑s : Int) < (↑W.nLines : Int)) = false → (bE W.nLines (fun (i : Nat) => !lnB W i) e = (0 : Int) ∧ bA W.nLines (fun (i : Nat) => !lnB W i) e = (-1 : Int)) ∧ True)
theorem q_badL (e : Int) (W : Wd) : evBody Tryd.prog false glN (mkT [(158, c_wAt), (140, c_lines1)]) Tryd.f139 (a_badL e W) (m_badL e W) [.inv (an_bad W.nLines (fun i => !lnB W i))] (r_badL e W) (n_badL e W) = V_badL e W := by kernel_rfl
set_option maxHeartbeats 1000000 in
theorem pf_badL (e : Int) (W : Wd) (hp : p_badL e W) : FnC Tryd.prog glN 139 (a_badL e W) (m_badL e W) (r_badL e W) (n_badL e W) := by
  refine fn_of (sound_cons ok_wAt (sound_cons ok_lines1 sound_nil)) false Tryd.func139 [.inv (an_bad W.nLines (fun i => !lnB W i))] (q_badL e W) ?_
  unfold V_badL
  unfold p_badL at hp
  obtain ⟨he, hp⟩ := hp
  simp only [true_and, and_true, and_self, implies_true, eq_self, Int.toNat_natCast, Nat.zero_add, Int.natCast_nonneg, Nat.not_lt_zero, false_implies, Nat.zero_le, Int.natCast_zero, Bool.cond_self, Bool.cond_true_left, Bool.cond_false_right, Bool.cond_true_right, Bool.cond_false_left]
  have z1 := hp.1.lines
  have z2 := hp.1.k1
  unfold bE bA
  refine fun _ s hs => ⟨fun h => ?_, fun h => ?_⟩
  · have hlt := lt_of_dec h
    refine ⟨by omega, ⟨hp.1, hp.2, by omega⟩, fun h1 => ?_, fun h1 => ⟨by rw [IntKind.wrap_i64]; omega, exS ⟨⟨by omega, snocF (p := fun i => !lnB W i) hs.2 h1⟩, by omega⟩⟩⟩
    rw [fstE_at (p := fun i => !lnB W i) hs.2 h1 hlt]
    first | exact ⟨he, rfl, rfl⟩ | exact ⟨⟨by omega, he⟩, rfl, rfl⟩
  · have hge := ge_of_dec h
    rw [fstE_none (p := fun i => !lnB W i) fun j hj => hs.2 j (by omega)]
    exact ⟨rfl, rfl⟩
theorem ok_badL : FnOK Tryd.prog glN 139 c_badL := fnOK_of (fun l w => Tryd.call139 l w) fun x_ hp => pf_badL x_.e x_.W hp
structure X_badR where
  e : Int
  W : Wd
def a_badR (e : Int) (W : Wd) : List SV := [.sl true 1 W.nReady (fun i _ => .sl true 1 (W.readyN i) (iF (W.ready i))), .v (.int .i64 e), .fn 143 1 (lsv [.pt true 1 (fun _ => .fn 141 1 (lsv [.pt true 1 (fun _ => wPT W)]))])]
def m_badR (e : Int) (W : Wd) : List Blk := []
def r_badR (e : Int) (W : Wd) : SV := .er 22 25 (bE W.nReady (fun i => !rlB W i) e) (bA W.nReady (fun i => !rlB W i) e)
def n_badR (e : Int) (W : Wd) : List Blk := []
def p_badR (e : Int) (W : Wd) : Prop := e ≠ 0 ∧ Szd W ∧ smB W
def s_badR : Sy.Spec where
  X := X_badR
  args x_ := a_badR x_.e x_.W
  mem x_ := m_badR x_.e x_.W
  pre x_ := p_badR x_.e x_.W
  res x_ := r_badR x_.e x_.W
  mem' x_ := n_badR x_.e x_.W
  dec args mem := match args with | [a0, a1, a2] => (match isFn 143 a2 with | true => some ⟨intD (a1), wPTD (ptF (fnF (ptF (fnF a2 0) 0) 0) 0)⟩ | false => none) | _ => none
def c_badR : Con := ⟨[], s_badR.g, none⟩
def V_badR (e : Int) (W : Wd) : Prop :=
  (↑W.nReady : Int) ≤ (9223372036854775807 : Int) → (0 : Int) = (↑(0 : Nat) : Int) ∧ True ∧ ((0 : Nat) ≤ W.nReady ∧ ∀ (j : Nat), j < (0 : Nat) → (!rlB W j) = false) ∧ ∀ (s : Nat), (s ≤ W.nReady ∧ ∀ (j : Nat), j < s → (!rlB W j) = false) → (decide ((↑s : Int) < (↑W.nReady : Int)) = true → ((0 : Int) ≤ (↑s : Int) ∧ (↑s : Int) < (↑W.nReady : Int)) ∧ (((↑s : Int) = (↑s : Int) ∧ (W.readyN (Int.toNat (↑s : Int)) = W.readyN (Int.toNat (↑s : Int)) ∧ ∀ (i : Nat), i < W.readyN (Int.toNat (↑s : Int)) → True ∧ W.ready (Int.toNat (↑s : Int)) i = W.ready (Int.toNat (↑s : Int)) i) ∧ (True ∧ True ∧ True ∧ ((((((((((True ∧ W.nRam = W.nRam ∧ ∀ (i : Nat), i < W.nRam → True ∧ W.ram i = W.ram i) ∧ W.nKinds = W.nKinds ∧ ∀ (i : Nat), i < W.nKinds → True ∧ W.kinds i = W.kinds i) ∧ W.nSlots = W.nSlots ∧ ∀ (i : Nat), i < W.nSlots → ((((((True ∧ (W.slots i).kind = (W.slots i).kind) ∧ (W.slots i).base = (W.slots i).base) ∧ (W.slots i).len = (W.slots i).len) ∧ (W.slots i).mark = (W.slots i).mark) ∧ (W.slots i).rights = (W.slots i).rights) ∧ (W.slots i).badge = (W.slots i).badge) ∧ (W.slots i).from_ = (W.slots i).from_) ∧ W.nTasks = W.nTasks ∧ ∀ (i : Nat), i < W.nTasks → (((((((((((((((((((True ∧ (W.tasks i).r0 = (W.tasks i).r0) ∧ (W.tasks i).r1 = (W.tasks i).r1) ∧ (W.tasks i).r2 = (W.tasks i).r2) ∧ (W.tasks i).r3 = (W.tasks i).r3) ∧ (W.tasks i).r4 = (W.tasks i).r4) ∧ (W.tasks i).r5 = (W.tasks i).r5) ∧ (W.tasks i).r6 = (W.tasks i).r6) ∧ (W.tasks i).r7 = (W.tasks i).r7) ∧ (W.tasks i).pc = (W.tasks i).pc) ∧
    (W.tasks i).st = (W.tasks i).st) ∧ (W.tasks i).prio = (W.tasks i).prio) ∧ (W.tasks i).node = (W.tasks i).node) ∧ (W.tasks i).space = (W.tasks i).space) ∧ (W.tasks i).helper = (W.tasks i).helper) ∧ (W.tasks i).loc = (W.tasks i).loc) ∧ (W.tasks i).word = (W.tasks i).word) ∧ (W.tasks i).badge = (W.tasks i).badge) ∧ (W.tasks i).owes = (W.tasks i).owes) ∧ (W.tasks i).core = (W.tasks i).core) ∧ (W.tasks i).dom = (W.tasks i).dom) ∧ W.nLines = W.nLines ∧ ∀ (i : Nat), i < W.nLines → True ∧ W.linesN i = W.linesN i ∧ ∀ (i_1 : Nat), i_1 < W.linesN i → True ∧ W.lines i i_1 = W.lines i i_1) ∧ W.nBits = W.nBits ∧ ∀ (i : Nat), i < W.nBits → True ∧ W.bits i = W.bits i) ∧ W.nCores = W.nCores ∧ ∀ (i : Nat), i < W.nCores → True ∧ W.cores i = W.cores i) ∧ W.nReady = W.nReady ∧ ∀ (i : Nat), i < W.nReady → True ∧ W.readyN i = W.readyN i ∧ ∀ (i_1 : Nat), i_1 < W.readyN i → True ∧ W.ready i i_1 = W.ready i i_1) ∧ W.nTlbs = W.nTlbs ∧ ∀ (i : Nat), i < W.nTlbs → True ∧ W.tlbsN i = W.tlbsN i ∧ ∀ (i_1 : Nat), i_1 < W.tlbsN i → (((True ∧ (W.tlbs i i_1).sp = (W.tlbs i i_1).sp) ∧ (W.tlbs i i_1).pg = (W.tlbs i i_1).pg) ∧ (W.tlbs i i_1).fr = (W.tlbs i i_1).fr) ∧ (W.tlbs i i_1).wr = (W.tlbs i i_1).wr) ∧ W.nDoms = W.nDoms ∧ ∀ (i : Nat), i < W.nDoms → True ∧ W.doms i = W.doms i) ∧ W.time = W.time) ∧ True) ∧ True ∧ Szd W ∧ ((∀ (i : Nat), i < W.nLines → W.linesN i ≤ (50 : Nat)) ∧ (∀ (i : Nat), i < W.nReady → W.readyN i ≤ (50 : Nat)) ∧ ∀ (i : Nat), i < W.nTlbs → W.tlbsN i ≤ (50 : Nat)) ∧ (0 : Int) ≤ (↑s : Int) ∧
    (↑s : Int) < (↑W.nReady : Int)) ∧ ((!rlB W (Int.toNat (↑s : Int))) = true → (((↑s : Int) = (↑s : Int) ∧ e = e ∧ True) ∧ True ∧ (0 : Int) ≤ (↑s : Int) ∧ e ≠ (0 : Int)) ∧ (e = bE W.nReady (fun (i : Nat) => !rlB W i) e ∧ (↑s : Int) = bA W.nReady (fun (i : Nat) => !rlB W i) e) ∧ True) ∧ ((!rlB W (Int.toNat (↑s : Int))) = false → IntKind.wrap IntKind.i64 ((↑s : Int) + (1 : Int)) = (↑s : Int) + (1 : Int) ∧ ∃ (s' : Nat), (↑s : Int) + (1 : Int) = (↑s' : Int) ∧ True ∧ (s' ≤ W.nReady ∧ ∀ (j : Nat), j < s' → (!rlB W j) = false) ∧ W.nReady - s' < W.nReady - s)) ∧ (decide ((↑s : Int) < (↑W.nReady : Int)) = false → (bE W.nReady (fun (i : Nat) => !rlB W i) e = (0 : Int) ∧ bA W.nReady (fun (i : Nat) => !rlB W i) e = (-1 : Int)) ∧ True)
theorem q_badR (e : Int) (W : Wd) : evBody Tryd.prog false glN (mkT [(158, c_wAt), (143, c_turns3)]) Tryd.f139 (a_badR e W) (m_badR e W) [.inv (an_bad W.nReady (fun i => !rlB W i))] (r_badR e W) (n_badR e W) = V_badR e W := by kernel_rfl
set_option maxHeartbeats 1000000 in
theorem pf_badR (e : Int) (W : Wd) (hp : p_badR e W) : FnC Tryd.prog glN 139 (a_badR e W) (m_badR e W) (r_badR e W) (n_badR e W) := by
  refine fn_of (sound_cons ok_wAt (sound_cons ok_turns3 sound_nil)) false Tryd.func139 [.inv (an_bad W.nReady (fun i => !rlB W i))] (q_badR e W) ?_
  unfold V_badR
  unfold p_badR at hp
  obtain ⟨he, hp⟩ := hp
  simp only [true_and, and_true, and_self, implies_true, eq_self, Int.toNat_natCast, Nat.zero_add, Int.natCast_nonneg, Nat.not_lt_zero, false_implies, Nat.zero_le, Int.natCast_zero, Bool.cond_self, Bool.cond_true_left, Bool.cond_false_right, Bool.cond_true_right, Bool.cond_false_left]
  have z1 := hp.1.ready
  have z2 := hp.1.c1
  unfold bE bA
  refine fun _ s hs => ⟨fun h => ?_, fun h => ?_⟩
  · have hlt := lt_of_dec h
    refine ⟨by omega, ⟨hp.1, hp.2, by omega⟩, fun h1 => ?_, fun h1 => ⟨by rw [IntKind.wrap_i64]; omega, exS ⟨⟨by omega, snocF (p := fun i => !rlB W i) hs.2 h1⟩, by omega⟩⟩⟩
    rw [fstE_at (p := fun i => !rlB W i) hs.2 h1 hlt]
    first | exact ⟨he, rfl, rfl⟩ | exact ⟨⟨by omega, he⟩, rfl, rfl⟩
  · have hge := ge_of_dec h
    rw [fstE_none (p := fun i => !rlB W i) fun j hj => hs.2 j (by omega)]
    exact ⟨rfl, rfl⟩
theorem ok_badR : FnOK Tryd.prog glN 139 c_badR := fnOK_of (fun l w => Tryd.call139 l w) fun x_ hp => pf_badR x_.e x_.W hp
structure X_badE where
  e : Int
  W : Wd
def a_badE (e : Int) (W : Wd) : List SV := [.sl true 1 W.nTlbs (fun i _ => .sl true 4 (W.tlbsN i) (rF fun k => enL (W.tlbs i k))), .v (.int .i64 e), .fn 148 1 (lsv [.pt true 1 (fun _ => wPT W)])]
def m_badE (e : Int) (W : Wd) : List Blk := []
def r_badE (e : Int) (W : Wd) : SV := .er 22 25 (bE W.nTlbs (fun i => !tlB W (W.tlbsN i) (W.tlbs i)) e) (bA W.nTlbs (fun i => !tlB W (W.tlbsN i) (W.tlbs i)) e)
def n_badE (e : Int) (W : Wd) : List Blk := []
def p_badE (e : Int) (W : Wd) : Prop := e ≠ 0 ∧ Szd W ∧ smB W ∧ ∀ i, i < W.nRam → isW (W.ram i)
def s_badE : Sy.Spec where
  X := X_badE
  args x_ := a_badE x_.e x_.W
  mem x_ := m_badE x_.e x_.W
  pre x_ := p_badE x_.e x_.W
  res x_ := r_badE x_.e x_.W
  mem' x_ := n_badE x_.e x_.W
  dec args mem := match args with | [a0, a1, a2] => (match isFn 148 a2 with | true => some ⟨intD (a1), wPTD (ptF (fnF a2 0) 0)⟩ | false => none) | _ => none
def c_badE : Con := ⟨[], s_badE.g, none⟩
def V_badE (e : Int) (W : Wd) : Prop :=
  (↑W.nTlbs : Int) ≤ (9223372036854775807 : Int) → (0 : Int) = (↑(0 : Nat) : Int) ∧ True ∧ ((0 : Nat) ≤ W.nTlbs ∧ ∀ (j : Nat), j < (0 : Nat) → (!tlB W (W.tlbsN j) (W.tlbs j)) = false) ∧ ∀ (s : Nat), (s ≤ W.nTlbs ∧ ∀ (j : Nat), j < s → (!tlB W (W.tlbsN j) (W.tlbs j)) = false) → (decide ((↑s : Int) < (↑W.nTlbs : Int)) = true → ((0 : Int) ≤ (↑s : Int) ∧ (↑s : Int) < (↑W.nTlbs : Int)) ∧ (((↑s : Int) = (↑s : Int) ∧ (W.tlbsN (Int.toNat (↑s : Int)) = W.tlbsN (Int.toNat (↑s : Int)) ∧ ∀ (i : Nat), i < W.tlbsN (Int.toNat (↑s : Int)) → (((True ∧ (W.tlbs (Int.toNat (↑s : Int)) i).sp = (W.tlbs (Int.toNat (↑s : Int)) i).sp) ∧ (W.tlbs (Int.toNat (↑s : Int)) i).pg = (W.tlbs (Int.toNat (↑s : Int)) i).pg) ∧ (W.tlbs (Int.toNat (↑s : Int)) i).fr = (W.tlbs (Int.toNat (↑s : Int)) i).fr) ∧ (W.tlbs (Int.toNat (↑s : Int)) i).wr = (W.tlbs (Int.toNat (↑s : Int)) i).wr) ∧ (True ∧ ((((((((((True ∧ W.nRam = W.nRam ∧ ∀ (i : Nat), i < W.nRam → True ∧ W.ram i = W.ram i) ∧ W.nKinds = W.nKinds ∧ ∀ (i : Nat), i < W.nKinds → True ∧ W.kinds i = W.kinds i) ∧ W.nSlots = W.nSlots ∧ ∀ (i : Nat), i < W.nSlots → ((((((True ∧ (W.slots i).kind = (W.slots i).kind) ∧ (W.slots i).base = (W.slots i).base) ∧ (W.slots i).len = (W.slots i).len) ∧ (W.slots i).mark = (W.slots i).mark) ∧ (W.slots i).rights = (W.slots i).rights) ∧ (W.slots i).badge = (W.slots i).badge) ∧ (W.slots i).from_ = (W.slots i).from_) ∧ W.nTasks = W.nTasks ∧ ∀ (i : Nat), i < W.nTasks → (((((((((((((((((((True ∧ (W.tasks i).r0 = (W.tasks i).r0) ∧ (W.tasks
    i).r1 = (W.tasks i).r1) ∧ (W.tasks i).r2 = (W.tasks i).r2) ∧ (W.tasks i).r3 = (W.tasks i).r3) ∧ (W.tasks i).r4 = (W.tasks i).r4) ∧ (W.tasks i).r5 = (W.tasks i).r5) ∧ (W.tasks i).r6 = (W.tasks i).r6) ∧ (W.tasks i).r7 = (W.tasks i).r7) ∧ (W.tasks i).pc = (W.tasks i).pc) ∧ (W.tasks i).st = (W.tasks i).st) ∧ (W.tasks i).prio = (W.tasks i).prio) ∧ (W.tasks i).node = (W.tasks i).node) ∧ (W.tasks i).space = (W.tasks i).space) ∧ (W.tasks i).helper = (W.tasks i).helper) ∧ (W.tasks i).loc = (W.tasks i).loc) ∧ (W.tasks i).word = (W.tasks i).word) ∧ (W.tasks i).badge = (W.tasks i).badge) ∧ (W.tasks i).owes = (W.tasks i).owes) ∧ (W.tasks i).core = (W.tasks i).core) ∧ (W.tasks i).dom = (W.tasks i).dom) ∧ W.nLines = W.nLines ∧ ∀ (i : Nat), i < W.nLines → True ∧ W.linesN i = W.linesN i ∧ ∀ (i_1 : Nat), i_1 < W.linesN i → True ∧ W.lines i i_1 = W.lines i i_1) ∧ W.nBits = W.nBits ∧ ∀ (i : Nat), i < W.nBits → True ∧ W.bits i = W.bits i) ∧ W.nCores = W.nCores ∧ ∀ (i : Nat), i < W.nCores → True ∧ W.cores i = W.cores i) ∧ W.nReady = W.nReady ∧ ∀ (i : Nat), i < W.nReady → True ∧ W.readyN i = W.readyN i ∧ ∀ (i_1 : Nat), i_1 < W.readyN i → True ∧ W.ready i i_1 = W.ready i i_1) ∧ W.nTlbs = W.nTlbs ∧ ∀ (i : Nat), i < W.nTlbs → True ∧ W.tlbsN i = W.tlbsN i ∧ ∀ (i_1 : Nat), i_1 < W.tlbsN i → (((True ∧ (W.tlbs i i_1).sp = (W.tlbs i i_1).sp) ∧ (W.tlbs i i_1).pg = (W.tlbs i i_1).pg) ∧ (W.tlbs i i_1).fr = (W.tlbs i i_1).fr) ∧ (W.tlbs i i_1).wr = (W.tlbs i i_1).wr) ∧ W.nDoms = W.nDoms ∧ ∀ (i : Nat), i <
    W.nDoms → True ∧ W.doms i = W.doms i) ∧ W.time = W.time) ∧ True) ∧ True ∧ Szd W ∧ W.tlbsN (Int.toNat (↑s : Int)) ≤ (1000 : Nat) ∧ ∀ (k : Nat), k < W.nRam → (0 : Int) ≤ W.ram k ∧ W.ram k ≤ (65535 : Int)) ∧ ((!tlB W (W.tlbsN (Int.toNat (↑s : Int))) (W.tlbs (Int.toNat (↑s : Int)))) = true → (((↑s : Int) = (↑s : Int) ∧ e = e ∧ True) ∧ True ∧ (0 : Int) ≤ (↑s : Int) ∧ e ≠ (0 : Int)) ∧ (e = bE W.nTlbs (fun (i : Nat) => !tlB W (W.tlbsN i) (W.tlbs i)) e ∧ (↑s : Int) = bA W.nTlbs (fun (i : Nat) => !tlB W (W.tlbsN i) (W.tlbs i)) e) ∧ True) ∧ ((!tlB W (W.tlbsN (Int.toNat (↑s : Int))) (W.tlbs (Int.toNat (↑s : Int)))) = false → IntKind.wrap IntKind.i64 ((↑s : Int) + (1 : Int)) = (↑s : Int) + (1 : Int) ∧ ∃ (s' : Nat), (↑s : Int) + (1 : Int) = (↑s' : Int) ∧ True ∧ (s' ≤ W.nTlbs ∧ ∀ (j : Nat), j < s' → (!tlB W (W.tlbsN j) (W.tlbs j)) = false) ∧ W.nTlbs - s' < W.nTlbs - s)) ∧ (decide ((↑s : Int) < (↑W.nTlbs : Int)) = false → (bE W.nTlbs (fun (i : Nat) => !tlB W (W.tlbsN i) (W.tlbs i)) e = (0 : Int) ∧ bA W.nTlbs (fun (i : Nat) => !tlB W (W.tlbsN i) (W.tlbs i)) e = (-1 : Int)) ∧ True)
theorem q_badE (e : Int) (W : Wd) : evBody Tryd.prog false glN (mkT [(158, c_wAt), (148, c_maps2)]) Tryd.f147 (a_badE e W) (m_badE e W) [.inv (an_bad W.nTlbs (fun i => !tlB W (W.tlbsN i) (W.tlbs i)))] (r_badE e W) (n_badE e W) = V_badE e W := by kernel_rfl
set_option maxHeartbeats 1000000 in
theorem pf_badE (e : Int) (W : Wd) (hp : p_badE e W) : FnC Tryd.prog glN 147 (a_badE e W) (m_badE e W) (r_badE e W) (n_badE e W) := by
  refine fn_of (sound_cons ok_wAt (sound_cons ok_maps2 sound_nil)) false Tryd.func147 [.inv (an_bad W.nTlbs (fun i => !tlB W (W.tlbsN i) (W.tlbs i)))] (q_badE e W) ?_
  unfold V_badE
  unfold p_badE at hp
  obtain ⟨he, hp⟩ := hp
  simp only [true_and, and_true, and_self, implies_true, eq_self, Int.toNat_natCast, Nat.zero_add, Int.natCast_nonneg, Nat.not_lt_zero, false_implies, Nat.zero_le, Int.natCast_zero, Bool.cond_self, Bool.cond_true_left, Bool.cond_false_right, Bool.cond_true_right, Bool.cond_false_left]
  have z1 := hp.1.tlbs
  have z2 := hp.1.c1
  unfold bE bA
  refine fun _ s hs => ⟨fun h => ?_, fun h => ?_⟩
  · have hlt := lt_of_dec h
    refine ⟨by omega, ⟨hp.1, by have := hp.2.1.2.2 s hlt; omega, hp.2.2⟩, fun h1 => ?_, fun h1 => ⟨by rw [IntKind.wrap_i64]; omega, exS ⟨⟨by omega, snocF (p := fun i => !tlB W (W.tlbsN i) (W.tlbs i)) hs.2 h1⟩, by omega⟩⟩⟩
    rw [fstE_at (p := fun i => !tlB W (W.tlbsN i) (W.tlbs i)) hs.2 h1 hlt]
    first | exact ⟨he, rfl, rfl⟩ | exact ⟨⟨by omega, he⟩, rfl, rfl⟩
  · have hge := ge_of_dec h
    rw [fstE_none (p := fun i => !tlB W (W.tlbsN i) (W.tlbs i)) fun j hj => hs.2 j (by omega)]
    exact ⟨rfl, rfl⟩
theorem ok_badE : FnOK Tryd.prog glN 147 c_badE := fnOK_of (fun l w => Tryd.call147 l w) fun x_ hp => pf_badE x_.e x_.W hp
end Go.Proofs.YtfmaeiilbhpepaaDoor
set_option linter.unusedVariables false
set_option linter.unusedSimpArgs false
set_option maxRecDepth 100000
namespace Go.Proofs.YtfmaeiilbhpepaaDoor
open Go.RowKit Go.Sy
/-- A first that is told, ahead of the rest. -/
theorem fstE_seq {n : Nat} {p : Nat → Bool} {e : Int} {r : Int × Int} (he : e ≠ 0) : ((fstE n p e (0, -1)).1 = 0 → fstE n p e r = r) ∧ ((fstE n p e (0, -1)).1 ≠ 0 → fstE n p e r = fstE n p e (0, -1)) := by
  unfold fstE
  cases Nat.blt (fstB n p) n
  · exact ⟨fun _ => rfl, fun h => absurd rfl h⟩
  · exact ⟨fun h => absurd h he, fun _ => rfl⟩
theorem seqE {n : Nat} {p : Nat → Bool} {e : Int} {r : Int × Int} (he : e ≠ 0) (h : (bE n p e != 0) = true) : bE n p e = (fstE n p e r).1 ∧ bA n p e = (fstE n p e r).2 := by
  rw [(fstE_seq he).2 (by simpa [bE] using h)]; exact ⟨rfl, rfl⟩
theorem seqE0 {n : Nat} {p : Nat → Bool} {e : Int} {r : Int × Int} (he : e ≠ 0) (h : (bE n p e != 0) = false) : fstE n p e r = r := (fstE_seq he).1 (by simpa [bE] using h)
def w1E (W : Wd) : Int := (wm1 W (0, -1)).1
def w1A (W : Wd) : Int := (wm1 W (0, -1)).2
def w2E (W : Wd) : Int := (wm2 W (0, -1)).1
def w2A (W : Wd) : Int := (wm2 W (0, -1)).2
def w3E (W : Wd) : Int := (wm3 W (0, -1)).1
def w3A (W : Wd) : Int := (wm3 W (0, -1)).2
def w4E (W : Wd) : Int := (wm4 W (0, -1)).1
def w4A (W : Wd) : Int := (wm4 W (0, -1)).2
def w5E (W : Wd) : Int := (wm5 W (0, -1)).1
def w5A (W : Wd) : Int := (wm5 W (0, -1)).2
def w6E (W : Wd) : Int := (wm6 W (0, -1)).1
def w6A (W : Wd) : Int := (wm6 W (0, -1)).2
def w7E (W : Wd) : Int := (wm7 W (0, -1)).1
def w7A (W : Wd) : Int := (wm7 W (0, -1)).2
structure X_vWords where
  W : Wd
def a_vWords (W : Wd) : List SV := [wPT W]
def m_vWords (W : Wd) : List Blk := []
def r_vWords (W : Wd) : SV := .er 22 25 (w1E W) (w1A W)
def n_vWords (W : Wd) : List Blk := []
def p_vWords (W : Wd) : Prop := Sm W
def s_vWords : Sy.Spec where
  X := X_vWords
  args x_ := a_vWords x_.W
  mem x_ := m_vWords x_.W
  pre x_ := p_vWords x_.W
  res x_ := r_vWords x_.W
  mem' x_ := n_vWords x_.W
  dec args mem := match args with | [a0] => some ⟨wPTD a0⟩ | _ => none
def c_vWords : Con := ⟨[], s_vWords.g, none⟩
def V_vWords (W : Wd) : Prop :=
  (((W.nRam = W.nRam ∧ ∀ (i : Nat), i < W.nRam → True ∧ W.ram i = W.ram i) ∧ (1 : Int) = (1 : Int) ∧ True ∧ True) ∧ True ∧ (1 : Int) ≠ (0 : Int) ∧ W.nRam ≤ (100000 : Nat)) ∧ ((bE W.nRam (fun (i : Nat) => farB (W.ram i) (65535 : Int)) (1 : Int) != (0 : Int)) = true → (bE W.nRam (fun (i : Nat) => farB (W.ram i) (65535 : Int)) (1 : Int) = w1E W ∧ bA W.nRam (fun (i : Nat) => farB (W.ram i) (65535 : Int)) (1 : Int) = w1A W) ∧ True) ∧ ((bE W.nRam (fun (i : Nat) => farB (W.ram i) (65535 : Int)) (1 : Int) != (0 : Int)) = false → (((W.nKinds = W.nKinds ∧ ∀ (i : Nat), i < W.nKinds → True ∧ W.kinds i = W.kinds i) ∧ (3 : Int) = (3 : Int) ∧ True ∧ True) ∧ True ∧ (3 : Int) ≠ (0 : Int) ∧ W.nKinds ≤ (100000 : Nat)) ∧ ((bE W.nKinds (fun (i : Nat) => farB (W.kinds i) (8 : Int) || W.kinds i == (1 : Int)) (3 : Int) != (0 : Int)) = true → (bE W.nKinds (fun (i : Nat) => farB (W.kinds i) (8 : Int) || W.kinds i == (1 : Int)) (3 : Int) = w1E W ∧ bA W.nKinds (fun (i : Nat) => farB (W.kinds i) (8 : Int) || W.kinds i == (1 : Int)) (3 : Int) = w1A W) ∧ True) ∧ ((bE W.nKinds (fun (i : Nat) => farB (W.kinds i) (8 : Int) || W.kinds i == (1 : Int)) (3 : Int) != (0 : Int)) = false → (((W.nDoms = W.nDoms ∧ ∀ (i : Nat), i < W.nDoms → True ∧ W.doms i = W.doms i) ∧ (2 : Int) = (2 : Int) ∧ True ∧ True) ∧ True ∧ (2 : Int) ≠ (0 : Int) ∧ W.nDoms ≤ (100000 : Nat)) ∧ (bE W.nDoms (fun (i : Nat) => farB (W.doms i) (3 : Int)) (2 : Int) = w1E W ∧ bA W.nDoms (fun (i : Nat) => farB (W.doms i) (3 : Int)) (2 : Int) = w1A W) ∧
    True))
theorem q_vWords (W : Wd) : evBody Tryd.prog false glN (mkT [(126, (c_badW1.or (c_badW2.or c_badW3)))]) Tryd.f93 (a_vWords W) (m_vWords W) [] (r_vWords W) (n_vWords W) = V_vWords W := by kernel_rfl
theorem pf_vWords (W : Wd) (hp : p_vWords W) : FnC Tryd.prog glN 93 (a_vWords W) (m_vWords W) (r_vWords W) (n_vWords W) := by
  refine fn_of (sound_cons (ok_badW1.or (ok_badW2.or ok_badW3)) sound_nil) false Tryd.func93 [] (q_vWords W) ?_
  unfold V_vWords
  unfold p_vWords at hp
  have b1 := hp.ram
  have b2 := hp.kinds
  have b3 := hp.doms
  simp only [true_and, and_true, and_self, implies_true, eq_self, Int.toNat_natCast, Nat.zero_add, Int.natCast_nonneg, Nat.not_lt_zero, false_implies, Nat.zero_le, Int.natCast_zero, Bool.cond_self, Bool.cond_true_left, Bool.cond_false_right, Bool.cond_true_right, Bool.cond_false_left]
  unfold w1E w1A wm1
  refine ⟨⟨by decide, by omega⟩, fun h => seqE (by decide) h, fun h => ⟨⟨by decide, by omega⟩, fun h2 => ?_, fun h2 => ⟨⟨by decide, by omega⟩, ?_⟩⟩⟩
  · rw [seqE0 (by decide) h]; exact seqE (by decide) h2
  · rw [seqE0 (by decide) h, seqE0 (by decide) h2]; exact ⟨rfl, rfl⟩
theorem ok_vWords : FnOK Tryd.prog glN 93 c_vWords := fnOK_of (fun l w => Tryd.call93 l w) fun x_ hp => pf_vWords x_.W hp
structure X_vKeys where
  W : Wd
def a_vKeys (W : Wd) : List SV := [wPT W]
def m_vKeys (W : Wd) : List Blk := []
def r_vKeys (W : Wd) : SV := .er 22 25 (w2E W) (w2A W)
def n_vKeys (W : Wd) : List Blk := []
def p_vKeys (W : Wd) : Prop := Szd W
def s_vKeys : Sy.Spec where
  X := X_vKeys
  args x_ := a_vKeys x_.W
  mem x_ := m_vKeys x_.W
  pre x_ := p_vKeys x_.W
  res x_ := r_vKeys x_.W
  mem' x_ := n_vKeys x_.W
  dec args mem := match args with | [a0] => some ⟨wPTD a0⟩ | _ => none
def c_vKeys : Con := ⟨[], s_vKeys.g, none⟩
def V_vKeys (W : Wd) : Prop :=
  True ∧ (((W.nSlots = W.nSlots ∧ ∀ (i : Nat), i < W.nSlots → ((((((True ∧ (W.slots i).kind = (W.slots i).kind) ∧ (W.slots i).base = (W.slots i).base) ∧ (W.slots i).len = (W.slots i).len) ∧ (W.slots i).mark = (W.slots i).mark) ∧ (W.slots i).rights = (W.slots i).rights) ∧ (W.slots i).badge = (W.slots i).badge) ∧ (W.slots i).from_ = (W.slots i).from_) ∧ (8 : Int) = (8 : Int) ∧ (True ∧ True ∧ ((((((((((True ∧ W.nRam = W.nRam ∧ ∀ (i : Nat), i < W.nRam → True ∧ W.ram i = W.ram i) ∧ W.nKinds = W.nKinds ∧ ∀ (i : Nat), i < W.nKinds → True ∧ W.kinds i = W.kinds i) ∧ W.nSlots = W.nSlots ∧ ∀ (i : Nat), i < W.nSlots → ((((((True ∧ (W.slots i).kind = (W.slots i).kind) ∧ (W.slots i).base = (W.slots i).base) ∧ (W.slots i).len = (W.slots i).len) ∧ (W.slots i).mark = (W.slots i).mark) ∧ (W.slots i).rights = (W.slots i).rights) ∧ (W.slots i).badge = (W.slots i).badge) ∧ (W.slots i).from_ = (W.slots i).from_) ∧ W.nTasks = W.nTasks ∧ ∀ (i : Nat), i < W.nTasks → (((((((((((((((((((True ∧ (W.tasks i).r0 = (W.tasks i).r0) ∧ (W.tasks i).r1 = (W.tasks i).r1) ∧ (W.tasks i).r2 = (W.tasks i).r2) ∧ (W.tasks i).r3 = (W.tasks i).r3) ∧ (W.tasks i).r4 = (W.tasks i).r4) ∧ (W.tasks i).r5 = (W.tasks i).r5) ∧ (W.tasks i).r6 = (W.tasks i).r6) ∧ (W.tasks i).r7 = (W.tasks i).r7) ∧ (W.tasks i).pc = (W.tasks i).pc) ∧ (W.tasks i).st = (W.tasks i).st) ∧ (W.tasks i).prio = (W.tasks i).prio) ∧ (W.tasks i).node = (W.tasks i).node) ∧ (W.tasks i).space = (W.tasks i).space) ∧ (W.tasks i).helper = (W.tasks i).helper) ∧ (W.tasks
    i).loc = (W.tasks i).loc) ∧ (W.tasks i).word = (W.tasks i).word) ∧ (W.tasks i).badge = (W.tasks i).badge) ∧ (W.tasks i).owes = (W.tasks i).owes) ∧ (W.tasks i).core = (W.tasks i).core) ∧ (W.tasks i).dom = (W.tasks i).dom) ∧ W.nLines = W.nLines ∧ ∀ (i : Nat), i < W.nLines → True ∧ W.linesN i = W.linesN i ∧ ∀ (i_1 : Nat), i_1 < W.linesN i → True ∧ W.lines i i_1 = W.lines i i_1) ∧ W.nBits = W.nBits ∧ ∀ (i : Nat), i < W.nBits → True ∧ W.bits i = W.bits i) ∧ W.nCores = W.nCores ∧ ∀ (i : Nat), i < W.nCores → True ∧ W.cores i = W.cores i) ∧ W.nReady = W.nReady ∧ ∀ (i : Nat), i < W.nReady → True ∧ W.readyN i = W.readyN i ∧ ∀ (i_1 : Nat), i_1 < W.readyN i → True ∧ W.ready i i_1 = W.ready i i_1) ∧ W.nTlbs = W.nTlbs ∧ ∀ (i : Nat), i < W.nTlbs → True ∧ W.tlbsN i = W.tlbsN i ∧ ∀ (i_1 : Nat), i_1 < W.tlbsN i → (((True ∧ (W.tlbs i i_1).sp = (W.tlbs i i_1).sp) ∧ (W.tlbs i i_1).pg = (W.tlbs i i_1).pg) ∧ (W.tlbs i i_1).fr = (W.tlbs i i_1).fr) ∧ (W.tlbs i i_1).wr = (W.tlbs i i_1).wr) ∧ W.nDoms = W.nDoms ∧ ∀ (i : Nat), i < W.nDoms → True ∧ W.doms i = W.doms i) ∧ W.time = W.time) ∧ True) ∧ True ∧ (8 : Int) ≠ (0 : Int) ∧ Szd W) ∧ (bE W.nSlots (fun (i : Nat) => !slB W i) (8 : Int) = w2E W ∧ bA W.nSlots (fun (i : Nat) => !slB W i) (8 : Int) = w2A W) ∧ True
theorem q_vKeys (W : Wd) : evBody Tryd.prog false glN (mkT [(130, c_badK)]) Tryd.f94 (a_vKeys W) (m_vKeys W) [] (r_vKeys W) (n_vKeys W) = V_vKeys W := by kernel_rfl
theorem pf_vKeys (W : Wd) (hp : p_vKeys W) : FnC Tryd.prog glN 94 (a_vKeys W) (m_vKeys W) (r_vKeys W) (n_vKeys W) := by
  refine fn_of (sound_cons ok_badK sound_nil) false Tryd.func94 [] (q_vKeys W) ?_
  unfold V_vKeys
  unfold p_vKeys at hp
  simp only [true_and, and_true, and_self, implies_true, eq_self, Int.toNat_natCast, Nat.zero_add, Int.natCast_nonneg, Nat.not_lt_zero, false_implies, Nat.zero_le, Int.natCast_zero, Bool.cond_self, Bool.cond_true_left, Bool.cond_false_right, Bool.cond_true_right, Bool.cond_false_left]
  exact ⟨⟨by decide, hp⟩, rfl, rfl⟩
theorem ok_vKeys : FnOK Tryd.prog glN 94 c_vKeys := fnOK_of (fun l w => Tryd.call94 l w) fun x_ hp => pf_vKeys x_.W hp
structure X_vTasks where
  W : Wd
def a_vTasks (W : Wd) : List SV := [wPT W]
def m_vTasks (W : Wd) : List Blk := []
def r_vTasks (W : Wd) : SV := .er 22 25 (w4E W) (w4A W)
def n_vTasks (W : Wd) : List Blk := []
def p_vTasks (W : Wd) : Prop := Szd W ∧ smB W
def s_vTasks : Sy.Spec where
  X := X_vTasks
  args x_ := a_vTasks x_.W
  mem x_ := m_vTasks x_.W
  pre x_ := p_vTasks x_.W
  res x_ := r_vTasks x_.W
  mem' x_ := n_vTasks x_.W
  dec args mem := match args with | [a0] => some ⟨wPTD a0⟩ | _ => none
def c_vTasks : Con := ⟨[], s_vTasks.g, none⟩
def V_vTasks (W : Wd) : Prop :=
  True ∧ (((W.nTasks = W.nTasks ∧ ∀ (i : Nat), i < W.nTasks → (((((((((((((((((((True ∧ (W.tasks i).r0 = (W.tasks i).r0) ∧ (W.tasks i).r1 = (W.tasks i).r1) ∧ (W.tasks i).r2 = (W.tasks i).r2) ∧ (W.tasks i).r3 = (W.tasks i).r3) ∧ (W.tasks i).r4 = (W.tasks i).r4) ∧ (W.tasks i).r5 = (W.tasks i).r5) ∧ (W.tasks i).r6 = (W.tasks i).r6) ∧ (W.tasks i).r7 = (W.tasks i).r7) ∧ (W.tasks i).pc = (W.tasks i).pc) ∧ (W.tasks i).st = (W.tasks i).st) ∧ (W.tasks i).prio = (W.tasks i).prio) ∧ (W.tasks i).node = (W.tasks i).node) ∧ (W.tasks i).space = (W.tasks i).space) ∧ (W.tasks i).helper = (W.tasks i).helper) ∧ (W.tasks i).loc = (W.tasks i).loc) ∧ (W.tasks i).word = (W.tasks i).word) ∧ (W.tasks i).badge = (W.tasks i).badge) ∧ (W.tasks i).owes = (W.tasks i).owes) ∧ (W.tasks i).core = (W.tasks i).core) ∧ (W.tasks i).dom = (W.tasks i).dom) ∧ (8 : Int) = (8 : Int) ∧ (True ∧ True ∧ ((((((((((True ∧ W.nRam = W.nRam ∧ ∀ (i : Nat), i < W.nRam → True ∧ W.ram i = W.ram i) ∧ W.nKinds = W.nKinds ∧ ∀ (i : Nat), i < W.nKinds → True ∧ W.kinds i = W.kinds i) ∧ W.nSlots = W.nSlots ∧ ∀ (i : Nat), i < W.nSlots → ((((((True ∧ (W.slots i).kind = (W.slots i).kind) ∧ (W.slots i).base = (W.slots i).base) ∧ (W.slots i).len = (W.slots i).len) ∧ (W.slots i).mark = (W.slots i).mark) ∧ (W.slots i).rights = (W.slots i).rights) ∧ (W.slots i).badge = (W.slots i).badge) ∧ (W.slots i).from_ = (W.slots i).from_) ∧ W.nTasks = W.nTasks ∧ ∀ (i : Nat), i < W.nTasks → (((((((((((((((((((True ∧ (W.tasks i).r0 = (W.tasks i).r0) ∧
    (W.tasks i).r1 = (W.tasks i).r1) ∧ (W.tasks i).r2 = (W.tasks i).r2) ∧ (W.tasks i).r3 = (W.tasks i).r3) ∧ (W.tasks i).r4 = (W.tasks i).r4) ∧ (W.tasks i).r5 = (W.tasks i).r5) ∧ (W.tasks i).r6 = (W.tasks i).r6) ∧ (W.tasks i).r7 = (W.tasks i).r7) ∧ (W.tasks i).pc = (W.tasks i).pc) ∧ (W.tasks i).st = (W.tasks i).st) ∧ (W.tasks i).prio = (W.tasks i).prio) ∧ (W.tasks i).node = (W.tasks i).node) ∧ (W.tasks i).space = (W.tasks i).space) ∧ (W.tasks i).helper = (W.tasks i).helper) ∧ (W.tasks i).loc = (W.tasks i).loc) ∧ (W.tasks i).word = (W.tasks i).word) ∧ (W.tasks i).badge = (W.tasks i).badge) ∧ (W.tasks i).owes = (W.tasks i).owes) ∧ (W.tasks i).core = (W.tasks i).core) ∧ (W.tasks i).dom = (W.tasks i).dom) ∧ W.nLines = W.nLines ∧ ∀ (i : Nat), i < W.nLines → True ∧ W.linesN i = W.linesN i ∧ ∀ (i_1 : Nat), i_1 < W.linesN i → True ∧ W.lines i i_1 = W.lines i i_1) ∧ W.nBits = W.nBits ∧ ∀ (i : Nat), i < W.nBits → True ∧ W.bits i = W.bits i) ∧ W.nCores = W.nCores ∧ ∀ (i : Nat), i < W.nCores → True ∧ W.cores i = W.cores i) ∧ W.nReady = W.nReady ∧ ∀ (i : Nat), i < W.nReady → True ∧ W.readyN i = W.readyN i ∧ ∀ (i_1 : Nat), i_1 < W.readyN i → True ∧ W.ready i i_1 = W.ready i i_1) ∧ W.nTlbs = W.nTlbs ∧ ∀ (i : Nat), i < W.nTlbs → True ∧ W.tlbsN i = W.tlbsN i ∧ ∀ (i_1 : Nat), i_1 < W.tlbsN i → (((True ∧ (W.tlbs i i_1).sp = (W.tlbs i i_1).sp) ∧ (W.tlbs i i_1).pg = (W.tlbs i i_1).pg) ∧ (W.tlbs i i_1).fr = (W.tlbs i i_1).fr) ∧ (W.tlbs i i_1).wr = (W.tlbs i i_1).wr) ∧ W.nDoms = W.nDoms ∧ ∀ (i :
    Nat), i < W.nDoms → True ∧ W.doms i = W.doms i) ∧ W.time = W.time) ∧ True) ∧ True ∧ (8 : Int) ≠ (0 : Int) ∧ Szd W ∧ (∀ (i : Nat), i < W.nLines → W.linesN i ≤ (50 : Nat)) ∧ (∀ (i : Nat), i < W.nReady → W.readyN i ≤ (50 : Nat)) ∧ ∀ (i : Nat), i < W.nTlbs → W.tlbsN i ≤ (50 : Nat)) ∧ (bE W.nTasks (fun (i : Nat) => !tkB W i) (8 : Int) = w4E W ∧ bA W.nTasks (fun (i : Nat) => !tkB W i) (8 : Int) = w4A W) ∧ True
theorem q_vTasks (W : Wd) : evBody Tryd.prog false glN (mkT [(134, c_badT)]) Tryd.f96 (a_vTasks W) (m_vTasks W) [] (r_vTasks W) (n_vTasks W) = V_vTasks W := by kernel_rfl
theorem pf_vTasks (W : Wd) (hp : p_vTasks W) : FnC Tryd.prog glN 96 (a_vTasks W) (m_vTasks W) (r_vTasks W) (n_vTasks W) := by
  refine fn_of (sound_cons ok_badT sound_nil) false Tryd.func96 [] (q_vTasks W) ?_
  unfold V_vTasks
  unfold p_vTasks at hp
  simp only [true_and, and_true, and_self, implies_true, eq_self, Int.toNat_natCast, Nat.zero_add, Int.natCast_nonneg, Nat.not_lt_zero, false_implies, Nat.zero_le, Int.natCast_zero, Bool.cond_self, Bool.cond_true_left, Bool.cond_false_right, Bool.cond_true_right, Bool.cond_false_left]
  unfold w4E w4A wm4 bE bA
  rw [hp.1.tasks]
  exact ⟨⟨by decide, hp⟩, rfl, rfl⟩
theorem ok_vTasks : FnOK Tryd.prog glN 96 c_vTasks := fnOK_of (fun l w => Tryd.call96 l w) fun x_ hp => pf_vTasks x_.W hp
structure X_vLines where
  W : Wd
def a_vLines (W : Wd) : List SV := [wPT W]
def m_vLines (W : Wd) : List Blk := []
def r_vLines (W : Wd) : SV := .er 22 25 (w5E W) (w5A W)
def n_vLines (W : Wd) : List Blk := []
def p_vLines (W : Wd) : Prop := Szd W ∧ smB W
def s_vLines : Sy.Spec where
  X := X_vLines
  args x_ := a_vLines x_.W
  mem x_ := m_vLines x_.W
  pre x_ := p_vLines x_.W
  res x_ := r_vLines x_.W
  mem' x_ := n_vLines x_.W
  dec args mem := match args with | [a0] => some ⟨wPTD a0⟩ | _ => none
def c_vLines : Con := ⟨[], s_vLines.g, none⟩
def V_vLines (W : Wd) : Prop :=
  True ∧ (((W.nLines = W.nLines ∧ ∀ (i : Nat), i < W.nLines → True ∧ W.linesN i = W.linesN i ∧ ∀ (i_1 : Nat), i_1 < W.linesN i → True ∧ W.lines i i_1 = W.lines i i_1) ∧ (8 : Int) = (8 : Int) ∧ (True ∧ True ∧ ((((((((((True ∧ W.nRam = W.nRam ∧ ∀ (i : Nat), i < W.nRam → True ∧ W.ram i = W.ram i) ∧ W.nKinds = W.nKinds ∧ ∀ (i : Nat), i < W.nKinds → True ∧ W.kinds i = W.kinds i) ∧ W.nSlots = W.nSlots ∧ ∀ (i : Nat), i < W.nSlots → ((((((True ∧ (W.slots i).kind = (W.slots i).kind) ∧ (W.slots i).base = (W.slots i).base) ∧ (W.slots i).len = (W.slots i).len) ∧ (W.slots i).mark = (W.slots i).mark) ∧ (W.slots i).rights = (W.slots i).rights) ∧ (W.slots i).badge = (W.slots i).badge) ∧ (W.slots i).from_ = (W.slots i).from_) ∧ W.nTasks = W.nTasks ∧ ∀ (i : Nat), i < W.nTasks → (((((((((((((((((((True ∧ (W.tasks i).r0 = (W.tasks i).r0) ∧ (W.tasks i).r1 = (W.tasks i).r1) ∧ (W.tasks i).r2 = (W.tasks i).r2) ∧ (W.tasks i).r3 = (W.tasks i).r3) ∧ (W.tasks i).r4 = (W.tasks i).r4) ∧ (W.tasks i).r5 = (W.tasks i).r5) ∧ (W.tasks i).r6 = (W.tasks i).r6) ∧ (W.tasks i).r7 = (W.tasks i).r7) ∧ (W.tasks i).pc = (W.tasks i).pc) ∧ (W.tasks i).st = (W.tasks i).st) ∧ (W.tasks i).prio = (W.tasks i).prio) ∧ (W.tasks i).node = (W.tasks i).node) ∧ (W.tasks i).space = (W.tasks i).space) ∧ (W.tasks i).helper = (W.tasks i).helper) ∧ (W.tasks i).loc = (W.tasks i).loc) ∧ (W.tasks i).word = (W.tasks i).word) ∧ (W.tasks i).badge = (W.tasks i).badge) ∧ (W.tasks i).owes = (W.tasks i).owes) ∧ (W.tasks i).core = (W.tasks i).core)
    ∧ (W.tasks i).dom = (W.tasks i).dom) ∧ W.nLines = W.nLines ∧ ∀ (i : Nat), i < W.nLines → True ∧ W.linesN i = W.linesN i ∧ ∀ (i_1 : Nat), i_1 < W.linesN i → True ∧ W.lines i i_1 = W.lines i i_1) ∧ W.nBits = W.nBits ∧ ∀ (i : Nat), i < W.nBits → True ∧ W.bits i = W.bits i) ∧ W.nCores = W.nCores ∧ ∀ (i : Nat), i < W.nCores → True ∧ W.cores i = W.cores i) ∧ W.nReady = W.nReady ∧ ∀ (i : Nat), i < W.nReady → True ∧ W.readyN i = W.readyN i ∧ ∀ (i_1 : Nat), i_1 < W.readyN i → True ∧ W.ready i i_1 = W.ready i i_1) ∧ W.nTlbs = W.nTlbs ∧ ∀ (i : Nat), i < W.nTlbs → True ∧ W.tlbsN i = W.tlbsN i ∧ ∀ (i_1 : Nat), i_1 < W.tlbsN i → (((True ∧ (W.tlbs i i_1).sp = (W.tlbs i i_1).sp) ∧ (W.tlbs i i_1).pg = (W.tlbs i i_1).pg) ∧ (W.tlbs i i_1).fr = (W.tlbs i i_1).fr) ∧ (W.tlbs i i_1).wr = (W.tlbs i i_1).wr) ∧ W.nDoms = W.nDoms ∧ ∀ (i : Nat), i < W.nDoms → True ∧ W.doms i = W.doms i) ∧ W.time = W.time) ∧ True) ∧ True ∧ (8 : Int) ≠ (0 : Int) ∧ Szd W ∧ (∀ (i : Nat), i < W.nLines → W.linesN i ≤ (50 : Nat)) ∧ (∀ (i : Nat), i < W.nReady → W.readyN i ≤ (50 : Nat)) ∧ ∀ (i : Nat), i < W.nTlbs → W.tlbsN i ≤ (50 : Nat)) ∧ (bE W.nLines (fun (i : Nat) => !lnB W i) (8 : Int) = w5E W ∧ bA W.nLines (fun (i : Nat) => !lnB W i) (8 : Int) = w5A W) ∧ True
theorem q_vLines (W : Wd) : evBody Tryd.prog false glN (mkT [(139, (c_badL.or c_badR))]) Tryd.f97 (a_vLines W) (m_vLines W) [] (r_vLines W) (n_vLines W) = V_vLines W := by kernel_rfl
theorem pf_vLines (W : Wd) (hp : p_vLines W) : FnC Tryd.prog glN 97 (a_vLines W) (m_vLines W) (r_vLines W) (n_vLines W) := by
  refine fn_of (sound_cons (ok_badL.or ok_badR) sound_nil) false Tryd.func97 [] (q_vLines W) ?_
  unfold V_vLines
  unfold p_vLines at hp
  simp only [true_and, and_true, and_self, implies_true, eq_self, Int.toNat_natCast, Nat.zero_add, Int.natCast_nonneg, Nat.not_lt_zero, false_implies, Nat.zero_le, Int.natCast_zero, Bool.cond_self, Bool.cond_true_left, Bool.cond_false_right, Bool.cond_true_right, Bool.cond_false_left]
  refine ⟨⟨by decide, hp⟩, ?_⟩
  unfold w5E w5A wm5 bE bA
  rw [hp.1.lines]
  exact ⟨rfl, rfl⟩
theorem ok_vLines : FnOK Tryd.prog glN 97 c_vLines := fnOK_of (fun l w => Tryd.call97 l w) fun x_ hp => pf_vLines x_.W hp
structure X_vTurns where
  W : Wd
def a_vTurns (W : Wd) : List SV := [wPT W]
def m_vTurns (W : Wd) : List Blk := []
def r_vTurns (W : Wd) : SV := .er 22 25 (w6E W) (w6A W)
def n_vTurns (W : Wd) : List Blk := []
def p_vTurns (W : Wd) : Prop := Szd W ∧ smB W
def s_vTurns : Sy.Spec where
  X := X_vTurns
  args x_ := a_vTurns x_.W
  mem x_ := m_vTurns x_.W
  pre x_ := p_vTurns x_.W
  res x_ := r_vTurns x_.W
  mem' x_ := n_vTurns x_.W
  dec args mem := match args with | [a0] => some ⟨wPTD a0⟩ | _ => none
def c_vTurns : Con := ⟨[], s_vTurns.g, none⟩
def K_vTurns_0 (W : Wd) : Prop :=
  (True ∧ True ∧ True ∧ True ∧ ((((((((((True ∧ W.nRam = W.nRam ∧ ∀ (i : Nat), i < W.nRam → True ∧ W.ram i = W.ram i) ∧ W.nKinds = W.nKinds ∧ ∀ (i : Nat), i < W.nKinds → True ∧ W.kinds i = W.kinds i) ∧ W.nSlots = W.nSlots ∧ ∀ (i : Nat), i < W.nSlots → ((((((True ∧ (W.slots i).kind = (W.slots i).kind) ∧ (W.slots i).base = (W.slots i).base) ∧ (W.slots i).len = (W.slots i).len) ∧ (W.slots i).mark = (W.slots i).mark) ∧ (W.slots i).rights = (W.slots i).rights) ∧ (W.slots i).badge = (W.slots i).badge) ∧ (W.slots i).from_ = (W.slots i).from_) ∧ W.nTasks = W.nTasks ∧ ∀ (i : Nat), i < W.nTasks → (((((((((((((((((((True ∧ (W.tasks i).r0 = (W.tasks i).r0) ∧ (W.tasks i).r1 = (W.tasks i).r1) ∧ (W.tasks i).r2 = (W.tasks i).r2) ∧ (W.tasks i).r3 = (W.tasks i).r3) ∧ (W.tasks i).r4 = (W.tasks i).r4) ∧ (W.tasks i).r5 = (W.tasks i).r5) ∧ (W.tasks i).r6 = (W.tasks i).r6) ∧ (W.tasks i).r7 = (W.tasks i).r7) ∧ (W.tasks i).pc = (W.tasks i).pc) ∧ (W.tasks i).st = (W.tasks i).st) ∧ (W.tasks i).prio = (W.tasks i).prio) ∧ (W.tasks i).node = (W.tasks i).node) ∧ (W.tasks i).space = (W.tasks i).space) ∧ (W.tasks i).helper = (W.tasks i).helper) ∧ (W.tasks i).loc = (W.tasks i).loc) ∧ (W.tasks i).word = (W.tasks i).word) ∧ (W.tasks i).badge = (W.tasks i).badge) ∧ (W.tasks i).owes = (W.tasks i).owes) ∧ (W.tasks i).core = (W.tasks i).core) ∧ (W.tasks i).dom = (W.tasks i).dom) ∧ W.nLines = W.nLines ∧ ∀ (i : Nat), i < W.nLines → True ∧ W.linesN i = W.linesN i ∧ ∀ (i_1 : Nat), i_1 < W.linesN i → True ∧ W.lines i i_1
    = W.lines i i_1) ∧ W.nBits = W.nBits ∧ ∀ (i : Nat), i < W.nBits → True ∧ W.bits i = W.bits i) ∧ W.nCores = W.nCores ∧ ∀ (i : Nat), i < W.nCores → True ∧ W.cores i = W.cores i) ∧ W.nReady = W.nReady ∧ ∀ (i : Nat), i < W.nReady → True ∧ W.readyN i = W.readyN i ∧ ∀ (i_1 : Nat), i_1 < W.readyN i → True ∧ W.ready i i_1 = W.ready i i_1) ∧ W.nTlbs = W.nTlbs ∧ ∀ (i : Nat), i < W.nTlbs → True ∧ W.tlbsN i = W.tlbsN i ∧ ∀ (i_1 : Nat), i_1 < W.tlbsN i → (((True ∧ (W.tlbs i i_1).sp = (W.tlbs i i_1).sp) ∧ (W.tlbs i i_1).pg = (W.tlbs i i_1).pg) ∧ (W.tlbs i i_1).fr = (W.tlbs i i_1).fr) ∧ (W.tlbs i i_1).wr = (W.tlbs i i_1).wr) ∧ W.nDoms = W.nDoms ∧ ∀ (i : Nat), i < W.nDoms → True ∧ W.doms i = W.doms i) ∧ W.time = W.time)
def V_vTurns (W : Wd) : Prop :=
  True ∧ True ∧ True ∧ (((W.nCores = W.nCores ∧ ∀ (i : Nat), i < W.nCores → True ∧ W.cores i = W.cores i) ∧ (8 : Int) = (8 : Int) ∧ (K_vTurns_0 W) ∧ True) ∧ True ∧ (8 : Int) ≠ (0 : Int) ∧ Szd W) ∧ ((bE W.nCores (fun (i : Nat) => !coB W i) (8 : Int) != (0 : Int)) = true → (bE W.nCores (fun (i : Nat) => !coB W i) (8 : Int) = w6E W ∧ bA W.nCores (fun (i : Nat) => !coB W i) (8 : Int) = w6A W) ∧ True) ∧ ((bE W.nCores (fun (i : Nat) => !coB W i) (8 : Int) != (0 : Int)) = false → (((W.nReady = W.nReady ∧ ∀ (i : Nat), i < W.nReady → True ∧ W.readyN i = W.readyN i ∧ ∀ (i_1 : Nat), i_1 < W.readyN i → True ∧ W.ready i i_1 = W.ready i i_1) ∧ (8 : Int) = (8 : Int) ∧ (K_vTurns_0 W) ∧ True) ∧ True ∧ (8 : Int) ≠ (0 : Int) ∧ Szd W ∧ (∀ (i : Nat), i < W.nLines → W.linesN i ≤ (50 : Nat)) ∧ (∀ (i : Nat), i < W.nReady → W.readyN i ≤ (50 : Nat)) ∧ ∀ (i : Nat), i < W.nTlbs → W.tlbsN i ≤ (50 : Nat)) ∧ (bE W.nReady (fun (i : Nat) => !rlB W i) (8 : Int) = w6E W ∧ bA W.nReady (fun (i : Nat) => !rlB W i) (8 : Int) = w6A W) ∧ True)
theorem q_vTurns (W : Wd) : evBody Tryd.prog false glN (mkT [(126, c_badC), (139, (c_badR.or c_badL))]) Tryd.f98 (a_vTurns W) (m_vTurns W) [] (r_vTurns W) (n_vTurns W) = V_vTurns W := by kernel_rfl
theorem pf_vTurns (W : Wd) (hp : p_vTurns W) : FnC Tryd.prog glN 98 (a_vTurns W) (m_vTurns W) (r_vTurns W) (n_vTurns W) := by
  refine fn_of (sound_cons ok_badC (sound_cons (ok_badR.or ok_badL) sound_nil)) false Tryd.func98 [] (q_vTurns W) ?_
  unfold V_vTurns
  unfold p_vTurns at hp
  simp only [K_vTurns_0, true_and, and_true, and_self, implies_true, eq_self, Int.toNat_natCast, Nat.zero_add, Int.natCast_nonneg, Nat.not_lt_zero, false_implies, Nat.zero_le, Int.natCast_zero, Bool.cond_self, Bool.cond_true_left, Bool.cond_false_right, Bool.cond_true_right, Bool.cond_false_left]
  unfold w6E w6A wm6
  refine ⟨⟨by decide, hp.1⟩, fun h => seqE (by decide) h, fun h => ⟨⟨by decide, hp⟩, ?_⟩⟩
  rw [seqE0 (by decide) h]; exact ⟨rfl, rfl⟩
theorem ok_vTurns : FnOK Tryd.prog glN 98 c_vTurns := fnOK_of (fun l w => Tryd.call98 l w) fun x_ hp => pf_vTurns x_.W hp
structure X_vMaps where
  W : Wd
def a_vMaps (W : Wd) : List SV := [wPT W]
def m_vMaps (W : Wd) : List Blk := []
def r_vMaps (W : Wd) : SV := .er 22 25 (w7E W) (w7A W)
def n_vMaps (W : Wd) : List Blk := []
def p_vMaps (W : Wd) : Prop := Szd W ∧ smB W ∧ ∀ i, i < W.nRam → isW (W.ram i)
def s_vMaps : Sy.Spec where
  X := X_vMaps
  args x_ := a_vMaps x_.W
  mem x_ := m_vMaps x_.W
  pre x_ := p_vMaps x_.W
  res x_ := r_vMaps x_.W
  mem' x_ := n_vMaps x_.W
  dec args mem := match args with | [a0] => some ⟨wPTD a0⟩ | _ => none
def c_vMaps : Con := ⟨[], s_vMaps.g, none⟩
def K_vMaps_0 (W : Wd) : Prop :=
  (True ∧ True ∧ ((((((((((True ∧ W.nRam = W.nRam ∧ ∀ (i : Nat), i < W.nRam → True ∧ W.ram i = W.ram i) ∧ W.nKinds = W.nKinds ∧ ∀ (i : Nat), i < W.nKinds → True ∧ W.kinds i = W.kinds i) ∧ W.nSlots = W.nSlots ∧ ∀ (i : Nat), i < W.nSlots → ((((((True ∧ (W.slots i).kind = (W.slots i).kind) ∧ (W.slots i).base = (W.slots i).base) ∧ (W.slots i).len = (W.slots i).len) ∧ (W.slots i).mark = (W.slots i).mark) ∧ (W.slots i).rights = (W.slots i).rights) ∧ (W.slots i).badge = (W.slots i).badge) ∧ (W.slots i).from_ = (W.slots i).from_) ∧ W.nTasks = W.nTasks ∧ ∀ (i : Nat), i < W.nTasks → (((((((((((((((((((True ∧ (W.tasks i).r0 = (W.tasks i).r0) ∧ (W.tasks i).r1 = (W.tasks i).r1) ∧ (W.tasks i).r2 = (W.tasks i).r2) ∧ (W.tasks i).r3 = (W.tasks i).r3) ∧ (W.tasks i).r4 = (W.tasks i).r4) ∧ (W.tasks i).r5 = (W.tasks i).r5) ∧ (W.tasks i).r6 = (W.tasks i).r6) ∧ (W.tasks i).r7 = (W.tasks i).r7) ∧ (W.tasks i).pc = (W.tasks i).pc) ∧ (W.tasks i).st = (W.tasks i).st) ∧ (W.tasks i).prio = (W.tasks i).prio) ∧ (W.tasks i).node = (W.tasks i).node) ∧ (W.tasks i).space = (W.tasks i).space) ∧ (W.tasks i).helper = (W.tasks i).helper) ∧ (W.tasks i).loc = (W.tasks i).loc) ∧ (W.tasks i).word = (W.tasks i).word) ∧ (W.tasks i).badge = (W.tasks i).badge) ∧ (W.tasks i).owes = (W.tasks i).owes) ∧ (W.tasks i).core = (W.tasks i).core) ∧ (W.tasks i).dom = (W.tasks i).dom) ∧ W.nLines = W.nLines ∧ ∀ (i : Nat), i < W.nLines → True ∧ W.linesN i = W.linesN i ∧ ∀ (i_1 : Nat), i_1 < W.linesN i → True ∧ W.lines i i_1 = W.lines i
    i_1) ∧ W.nBits = W.nBits ∧ ∀ (i : Nat), i < W.nBits → True ∧ W.bits i = W.bits i) ∧ W.nCores = W.nCores ∧ ∀ (i : Nat), i < W.nCores → True ∧ W.cores i = W.cores i) ∧ W.nReady = W.nReady ∧ ∀ (i : Nat), i < W.nReady → True ∧ W.readyN i = W.readyN i ∧ ∀ (i_1 : Nat), i_1 < W.readyN i → True ∧ W.ready i i_1 = W.ready i i_1) ∧ W.nTlbs = W.nTlbs ∧ ∀ (i : Nat), i < W.nTlbs → True ∧ W.tlbsN i = W.tlbsN i ∧ ∀ (i_1 : Nat), i_1 < W.tlbsN i → (((True ∧ (W.tlbs i i_1).sp = (W.tlbs i i_1).sp) ∧ (W.tlbs i i_1).pg = (W.tlbs i i_1).pg) ∧ (W.tlbs i i_1).fr = (W.tlbs i i_1).fr) ∧ (W.tlbs i i_1).wr = (W.tlbs i i_1).wr) ∧ W.nDoms = W.nDoms ∧ ∀ (i : Nat), i < W.nDoms → True ∧ W.doms i = W.doms i) ∧ W.time = W.time)
def V_vMaps (W : Wd) : Prop :=
  True ∧ (((W.nRam = W.nRam ∧ ∀ (i : Nat), i < W.nRam → True ∧ W.ram i = W.ram i) ∧ (9 : Int) = (9 : Int) ∧ (K_vMaps_0 W) ∧ True) ∧ True ∧ (9 : Int) ≠ (0 : Int) ∧ Szd W ∧ ∀ (i : Nat), i < W.nRam → (0 : Int) ≤ W.ram i ∧ W.ram i ≤ (65535 : Int)) ∧ ((bE W.nRam (fun (i : Nat) => !enB W i) (9 : Int) != (0 : Int)) = true → (bE W.nRam (fun (i : Nat) => !enB W i) (9 : Int) = w7E W ∧ bA W.nRam (fun (i : Nat) => !enB W i) (9 : Int) = w7A W) ∧ True) ∧ ((bE W.nRam (fun (i : Nat) => !enB W i) (9 : Int) != (0 : Int)) = false → (((W.nTlbs = W.nTlbs ∧ ∀ (i : Nat), i < W.nTlbs → True ∧ W.tlbsN i = W.tlbsN i ∧ ∀ (i_1 : Nat), i_1 < W.tlbsN i → (((True ∧ (W.tlbs i i_1).sp = (W.tlbs i i_1).sp) ∧ (W.tlbs i i_1).pg = (W.tlbs i i_1).pg) ∧ (W.tlbs i i_1).fr = (W.tlbs i i_1).fr) ∧ (W.tlbs i i_1).wr = (W.tlbs i i_1).wr) ∧ (9 : Int) = (9 : Int) ∧ (K_vMaps_0 W) ∧ True) ∧ True ∧ (9 : Int) ≠ (0 : Int) ∧ Szd W ∧ ((∀ (i : Nat), i < W.nLines → W.linesN i ≤ (50 : Nat)) ∧ (∀ (i : Nat), i < W.nReady → W.readyN i ≤ (50 : Nat)) ∧ ∀ (i : Nat), i < W.nTlbs → W.tlbsN i ≤ (50 : Nat)) ∧ ∀ (i : Nat), i < W.nRam → (0 : Int) ≤ W.ram i ∧ W.ram i ≤ (65535 : Int)) ∧ (bE W.nTlbs (fun (i : Nat) => !tlB W (W.tlbsN i) (W.tlbs i)) (9 : Int) = w7E W ∧ bA W.nTlbs (fun (i : Nat) => !tlB W (W.tlbsN i) (W.tlbs i)) (9 : Int) = w7A W) ∧ True)
theorem q_vMaps (W : Wd) : evBody Tryd.prog false glN (mkT [(126, c_badM), (147, c_badE)]) Tryd.f99 (a_vMaps W) (m_vMaps W) [] (r_vMaps W) (n_vMaps W) = V_vMaps W := by kernel_rfl
theorem pf_vMaps (W : Wd) (hp : p_vMaps W) : FnC Tryd.prog glN 99 (a_vMaps W) (m_vMaps W) (r_vMaps W) (n_vMaps W) := by
  refine fn_of (sound_cons ok_badM (sound_cons ok_badE sound_nil)) false Tryd.func99 [] (q_vMaps W) ?_
  unfold V_vMaps
  unfold p_vMaps at hp
  simp only [K_vMaps_0, true_and, and_true, and_self, implies_true, eq_self, Int.toNat_natCast, Nat.zero_add, Int.natCast_nonneg, Nat.not_lt_zero, false_implies, Nat.zero_le, Int.natCast_zero, Bool.cond_self, Bool.cond_true_left, Bool.cond_false_right, Bool.cond_true_right, Bool.cond_false_left]
  refine ⟨⟨by decide, hp.1, hp.2.2⟩, fun h => ?_, fun h => ⟨⟨by decide, hp⟩, ?_⟩⟩
  · exact seqE (by decide) h
  · unfold w7E w7A wm7
    rw [seqE0 (by decide) h, ← hp.1.tlbs]; exact ⟨rfl, rfl⟩
theorem ok_vMaps : FnOK Tryd.prog glN 99 c_vMaps := fnOK_of (fun l w => Tryd.call99 l w) fun x_ hp => pf_vMaps x_.W hp
end Go.Proofs.YtfmaeiilbhpepaaDoor
set_option linter.unusedVariables false
set_option linter.unusedSimpArgs false
set_option maxRecDepth 100000
namespace Go.Proofs.YtfmaeiilbhpepaaDoor
open Go.RowKit Go.Sy
/-- What is free for use in the last key of clay that has a frame. -/
def usedK (W : Wd) : Nat → Nat → Bool
  | 0, _ => false
  | k + 1, f => bif clayAt (W.slots k) f then decide ((f : Int) < (W.slots k).base + (W.slots k).mark) else usedK W k f
def clayN (W : Wd) (k f : Nat) : Nat := cntB k fun q => clayAt (W.slots q) f
def keysN (W : Wd) (k f : Nat) : Nat := cntB k fun q => keyAt (W.slots q) f
def inRg (b : Int) (j : Nat) (f : Nat) : Bool := decide (b ≤ f) && decide ((f : Int) < b + j)
theorem inRg0 (b : Int) (f : Nat) : inRg b 0 f = false := by
  unfold inRg
  rcases Int.lt_or_le (f : Int) b with h | h
  · rw [decide_eq_false (show ¬ b ≤ (f : Int) by omega)]; rfl
  · rw [decide_eq_false (show ¬ (f : Int) < b + ((0 : Nat) : Int) by omega), Bool.and_false]
theorem inRg_at (b : Int) (j f : Nat) (h : (f : Int) = b + j) : inRg b j f = false ∧ inRg b (j + 1) f = true := by
  unfold inRg
  rw [decide_eq_false (show ¬ (f : Int) < b + (j : Int) by omega), decide_eq_true (show b ≤ (f : Int) by omega), decide_eq_true (show (f : Int) < b + ((j + 1 : Nat) : Int) by omega)]
  exact ⟨rfl, rfl⟩
theorem inRg_ne (b : Int) (j f : Nat) (h : (f : Int) ≠ b + j) : inRg b (j + 1) f = inRg b j f := by
  unfold inRg
  rw [show decide ((f : Int) < b + ((j + 1 : Nat) : Int)) = decide ((f : Int) < b + (j : Int)) from decide_eq_decide.2 (by omega)]
theorem cl_none {W : Wd} {f : Nat} : ∀ {n : Nat}, clayN W n f = 0 → (anyB n fun i => freeAt (W.slots i) f) = false
  | 0, _ => rfl
  | n + 1, h => by
    have h : clayN W n f + (bif clayAt (W.slots n) f then 1 else 0) = 0 := h
    cases hc : clayAt (W.slots n) f with
    | true => rw [hc] at h; simp at h
    | false =>
      rw [hc] at h
      rw [anyB_succ, cl_none (n := n) (by simpa using h)]
      unfold freeAt; rw [hc]; rfl
theorem cl_one {W : Wd} {f : Nat} : ∀ {n : Nat}, clayN W n f = 1 → (anyB n fun i => freeAt (W.slots i) f) = !usedK W n f
  | 0, h => by cases h
  | n + 1, h => by
    have h : clayN W n f + (bif clayAt (W.slots n) f then 1 else 0) = 1 := h
    rw [anyB_succ]
    show _ = !(bif clayAt (W.slots n) f then decide ((f : Int) < (W.slots n).base + (W.slots n).mark) else usedK W n f)
    cases hc : clayAt (W.slots n) f with
    | true =>
      rw [hc] at h
      rw [cl_none (n := n) (by simpa using h)]
      unfold freeAt
      rw [hc]
      simp only [Bool.false_or, Bool.true_and, cond_true]
      rw [← decide_not]
      exact decide_eq_decide.2 (by omega)
    | false =>
      rw [hc] at h
      rw [cl_one (n := n) (by simpa using h)]
      unfold freeAt; rw [hc]
      simp
theorem fr_not {W : Wd} {f : Nat} : (decide (1 < ((clayN W W.nSlots f : Nat) : Int)) || W.kinds f != 0 && (((keysN W W.nSlots f : Nat) : Int) == 0 || ((clayN W W.nSlots f : Nat) : Int) == 1 && !usedK W W.nSlots f)) = !frB W f := by
  rw [castE0, castE1]
  show _ = !(decide (clayN W W.nSlots f ≤ 1) && (W.kinds f == 0 || (decide (0 < keysN W W.nSlots f) && !anyB W.nSlots fun i => freeAt (W.slots i) f)))
  rw [show decide (0 < keysN W W.nSlots f) = !(keysN W W.nSlots f == 0) by
    cases hk : keysN W W.nSlots f == 0 with
    | true => rw [eq_of_beq hk]; rfl
    | false =>
      have hk2 : keysN W W.nSlots f ≠ 0 := by simpa using hk
      rw [decide_eq_true (Nat.pos_of_ne_zero hk2)]; rfl]
  have hc : clayN W W.nSlots f = 0 ∨ clayN W W.nSlots f = 1 ∨ 2 ≤ clayN W W.nSlots f := by omega
  rcases hc with hc | hc | hc
  · rw [cl_none hc, hc]; simp only [bne]
    cases W.kinds f == 0 <;> cases keysN W W.nSlots f == 0 <;> rfl
  · rw [cl_one hc, hc]; simp only [bne]
    cases W.kinds f == 0 <;> cases keysN W W.nSlots f == 0 <;> cases usedK W W.nSlots f <;> rfl
  · rw [decide_eq_true (show (1 : Int) < ((clayN W W.nSlots f : Nat) : Int) by omega), decide_eq_false (show ¬ clayN W W.nSlots f ≤ 1 by omega)]; rfl
def an_fr1 (W : Wd) : Ann where
  σ := Nat
  rt := [(3, 0), (4, 0), (5, 0)]
  sh i := [(3, pt0 0), (4, pt0 2), (5, pt0 4), (36, .v (.int .i64 i))]
  mh i := [(1, .row 1 W.nKinds fun f _ => .v (.int .i64 (clayN W i f : Nat))), (3, .row 1 W.nKinds fun f _ => .v (.bool (usedK W i f))), (5, .row 1 W.nKinds fun f _ => .v (.int .i64 (keysN W i f : Nat)))]
  inv i := i ≤ W.nSlots
  μ i := W.nSlots - i
  init := 0
def an_fr2 (W : Wd) (i : Int) : Ann where
  σ := Nat
  rt := [(3, 0), (4, 0), (5, 0), (7, 0)]
  sh j := [(3, pt0 0), (4, pt0 2), (5, pt0 4), (7, pt0 6), (59, .v (.int .i64 j))]
  mh j := [(1, .row 1 W.nKinds fun f _ => .v (.int .i64 ((clayN W i.toNat f : Nat) + (bif inRg (W.slots i.toNat).base j f then 1 else 0)))), (3, .row 1 W.nKinds fun f _ => .v (.bool (bif inRg (W.slots i.toNat).base j f then decide ((f : Int) < (W.slots i.toNat).base + (W.slots i.toNat).mark) else usedK W i.toNat f)))]
  inv j := (j : Int) ≤ (W.slots i.toNat).len
  μ j := (W.slots i.toNat).len.toNat - j
  init := 0
structure X_vFrames where
  W : Wd
def a_vFrames (W : Wd) : List SV := [wPT W]
def m_vFrames (W : Wd) : List Blk := []
def r_vFrames (W : Wd) : SV := .er 22 25 (w3E W) (w3A W)
def n_vFrames (W : Wd) : List Blk := []
def p_vFrames (W : Wd) : Prop := Szd W ∧ ∀ i, i < W.nSlots → slB W i = true
def s_vFrames : Sy.Spec where
  X := X_vFrames
  args x_ := a_vFrames x_.W
  mem x_ := m_vFrames x_.W
  pre x_ := p_vFrames x_.W
  res x_ := r_vFrames x_.W
  mem' x_ := n_vFrames x_.W
  dec args mem := match args with | [a0] => some ⟨wPTD a0⟩ | _ => none
def c_vFrames : Con := ⟨[], s_vFrames.g, none⟩
def K_vFrames_0 (W : Wd) (s : Nat) : Prop :=
  (((((((True ∧ (W.slots (Int.toNat (↑s : Int))).kind = (W.slots (Int.toNat (↑s : Int))).kind) ∧ (W.slots (Int.toNat (↑s : Int))).base = (W.slots (Int.toNat (↑s : Int))).base) ∧ (W.slots (Int.toNat (↑s : Int))).len = (W.slots (Int.toNat (↑s : Int))).len) ∧ (W.slots (Int.toNat (↑s : Int))).mark = (W.slots (Int.toNat (↑s : Int))).mark) ∧ (W.slots (Int.toNat (↑s : Int))).rights = (W.slots (Int.toNat (↑s : Int))).rights) ∧ (W.slots (Int.toNat (↑s : Int))).badge = (W.slots (Int.toNat (↑s : Int))).badge) ∧ (W.slots (Int.toNat (↑s : Int))).from_ = (W.slots (Int.toNat (↑s : Int))).from_)
def V_vFrames (W : Wd) : Prop :=
  (↑W.nKinds : Int) ≤ (9223372036854775807 : Int) → ((0 : Int) ≤ (↑W.nKinds : Int) ∧ (↑W.nKinds : Int) ≤ (↑W.nKinds : Int) ∧ (↑(8 : Nat) : Int) * (↑W.nKinds : Int) ≤ (140737488355328 : Int)) ∧ True ∧ True ∧ ((↑W.nKinds : Int) ≤ (9223372036854775807 : Int) → ((0 : Int) ≤ (↑W.nKinds : Int) ∧ (↑W.nKinds : Int) ≤ (↑W.nKinds : Int) ∧ (↑(1 : Nat) : Int) * (↑W.nKinds : Int) ≤ (140737488355328 : Int)) ∧ True ∧ True ∧ ((↑W.nKinds : Int) ≤ (9223372036854775807 : Int) → ((0 : Int) ≤ (↑W.nKinds : Int) ∧ (↑W.nKinds : Int) ≤ (↑W.nKinds : Int) ∧ (↑(8 : Nat) : Int) * (↑W.nKinds : Int) ≤ (140737488355328 : Int)) ∧ True ∧ True ∧ ((↑W.nSlots : Int) ≤ (9223372036854775807 : Int) → SV.ptr (0 : Nat) (0 : Nat) none (nat_lit 0) (nat_lit 0) = SV.ptr (0 : Nat) (0 : Nat) none (0 : Nat) (0 : Nat) ∧ SV.ptr ((0 : Nat) + (1 : Nat) + (1 : Nat)) (0 : Nat) none (nat_lit 0) (nat_lit 0) = SV.ptr (2 : Nat) (0 : Nat) none (0 : Nat) (0 : Nat) ∧ SV.ptr ((0 : Nat) + (1 : Nat) + (1 : Nat) + (1 : Nat) + (1 : Nat)) (0 : Nat) none (nat_lit 0) (nat_lit 0) = SV.ptr (4 : Nat) (0 : Nat) none (0 : Nat) (0 : Nat) ∧ (0 : Int) = (↑(0 : Nat) : Int) ∧ ((True ∧ nat_lit 0 = nat_lit 0 ∧ Int.toNat (↑W.nKinds : Int) = Int.toNat (↑W.nKinds : Int)) ∧ (Int.toNat (↑W.nKinds : Int) = W.nKinds ∧ ∀ (i : Nat), i < W.nKinds → True ∧ (0 : Int) = (↑(clayN W (0 : Nat) i) : Int)) ∧ (True ∧ nat_lit 0 = nat_lit 0 ∧ Int.toNat (↑W.nKinds : Int) = Int.toNat (↑W.nKinds : Int)) ∧ (Int.toNat (↑W.nKinds : Int) = W.nKinds ∧ ∀ (i : Nat), i < W.nKinds → True ∧
    false = usedK W (0 : Nat) i) ∧ (True ∧ nat_lit 0 = nat_lit 0 ∧ Int.toNat (↑W.nKinds : Int) = Int.toNat (↑W.nKinds : Int)) ∧ (Int.toNat (↑W.nKinds : Int) = W.nKinds ∧ ∀ (i : Nat), i < W.nKinds → True ∧ (0 : Int) = (↑(keysN W (0 : Nat) i) : Int)) ∧ True) ∧ (0 : Nat) ≤ W.nSlots ∧ ∀ (s : Nat), s ≤ W.nSlots → (decide ((↑s : Int) < (↑W.nSlots : Int)) = true → ((0 : Int) ≤ (↑s : Int) ∧ (↑s : Int) < (↑W.nSlots : Int)) ∧ True ∧ (True ∧ True ∧ True ∧ True ∧ True ∧ True ∧ True) ∧ (((W.slots (Int.toNat (↑s : Int))).kind != (1 : Int)) = true → (((W.slots (Int.toNat (↑s : Int))).kind != (0 : Int)) = true → ((0 : Int) ≤ (W.slots (Int.toNat (↑s : Int))).base ∧ (W.slots (Int.toNat (↑s : Int))).base < (↑(Int.toNat (↑W.nKinds : Int)) : Int)) ∧ IntKind.wrap IntKind.i64 ((↑(keysN W s (nat_lit 0 + Int.toNat (W.slots (Int.toNat (↑s : Int))).base)) : Int) + (1 : Int)) = (↑(keysN W s (nat_lit 0 + Int.toNat (W.slots (Int.toNat (↑s : Int))).base)) : Int) + (1 : Int) ∧ ((0 : Int) ≤ (W.slots (Int.toNat (↑s : Int))).base ∧ (W.slots (Int.toNat (↑s : Int))).base < (↑(Int.toNat (↑W.nKinds : Int)) : Int)) ∧ (∀ (i' : Nat), false = false) ∧ IntKind.wrap IntKind.i64 ((↑s : Int) + (1 : Int)) = (↑s : Int) + (1 : Int) ∧ ∃ (s' : Nat), SV.ptr (0 : Nat) (0 : Nat) none (nat_lit 0) (nat_lit 0) = SV.ptr (0 : Nat) (0 : Nat) none (0 : Nat) (0 : Nat) ∧ SV.ptr ((0 : Nat) + (1 : Nat) + (1 : Nat)) (0 : Nat) none (nat_lit 0) (nat_lit 0) = SV.ptr (2 : Nat) (0 : Nat) none (0 : Nat) (0 : Nat) ∧ SV.ptr ((0 : Nat) + (1 : Nat) +
    (1 : Nat) + (1 : Nat) + (1 : Nat)) (0 : Nat) none (nat_lit 0) (nat_lit 0) = SV.ptr (4 : Nat) (0 : Nat) none (0 : Nat) (0 : Nat) ∧ (↑s : Int) + (1 : Int) = (↑s' : Int) ∧ ((True ∧ nat_lit 0 = nat_lit 0 ∧ Int.toNat (↑W.nKinds : Int) = Int.toNat (↑W.nKinds : Int)) ∧ (W.nKinds = W.nKinds ∧ ∀ (i : Nat), i < W.nKinds → True ∧ (↑(clayN W s i) : Int) = (↑(clayN W s' i) : Int)) ∧ (True ∧ nat_lit 0 = nat_lit 0 ∧ Int.toNat (↑W.nKinds : Int) = Int.toNat (↑W.nKinds : Int)) ∧ (W.nKinds = W.nKinds ∧ ∀ (i : Nat), i < W.nKinds → True ∧ usedK W s i = usedK W s' i) ∧ (True ∧ nat_lit 0 = nat_lit 0 ∧ Int.toNat (↑W.nKinds : Int) = Int.toNat (↑W.nKinds : Int)) ∧ (W.nKinds = W.nKinds ∧ ∀ (i : Nat), i < W.nKinds → True ∧ (bif Nat.beq i (nat_lit 0 + Int.toNat (W.slots (Int.toNat (↑s : Int))).base) then (↑(keysN W s (nat_lit 0 + Int.toNat (W.slots (Int.toNat (↑s : Int))).base)) : Int) + (1 : Int) else (↑(keysN W s i) : Int)) = (↑(keysN W s' i) : Int)) ∧ True) ∧ s' ≤ W.nSlots ∧ W.nSlots - s' < W.nSlots - s) ∧ (((W.slots (Int.toNat (↑s : Int))).kind != (0 : Int)) = false → IntKind.wrap IntKind.i64 ((↑s : Int) + (1 : Int)) = (↑s : Int) + (1 : Int) ∧ ∃ (s' : Nat), SV.ptr (0 : Nat) (0 : Nat) none (nat_lit 0) (nat_lit 0) = SV.ptr (0 : Nat) (0 : Nat) none (0 : Nat) (0 : Nat) ∧ SV.ptr ((0 : Nat) + (1 : Nat) + (1 : Nat)) (0 : Nat) none (nat_lit 0) (nat_lit 0) = SV.ptr (2 : Nat) (0 : Nat) none (0 : Nat) (0 : Nat) ∧ SV.ptr ((0 : Nat) + (1 : Nat) + (1 : Nat) + (1 : Nat) + (1 : Nat)) (0 : Nat) none (nat_lit 0)
    (nat_lit 0) = SV.ptr (4 : Nat) (0 : Nat) none (0 : Nat) (0 : Nat) ∧ (↑s : Int) + (1 : Int) = (↑s' : Int) ∧ ((True ∧ nat_lit 0 = nat_lit 0 ∧ Int.toNat (↑W.nKinds : Int) = Int.toNat (↑W.nKinds : Int)) ∧ (W.nKinds = W.nKinds ∧ ∀ (i : Nat), i < W.nKinds → True ∧ (↑(clayN W s i) : Int) = (↑(clayN W s' i) : Int)) ∧ (True ∧ nat_lit 0 = nat_lit 0 ∧ Int.toNat (↑W.nKinds : Int) = Int.toNat (↑W.nKinds : Int)) ∧ (W.nKinds = W.nKinds ∧ ∀ (i : Nat), i < W.nKinds → True ∧ usedK W s i = usedK W s' i) ∧ (True ∧ nat_lit 0 = nat_lit 0 ∧ Int.toNat (↑W.nKinds : Int) = Int.toNat (↑W.nKinds : Int)) ∧ (W.nKinds = W.nKinds ∧ ∀ (i : Nat), i < W.nKinds → True ∧ (↑(keysN W s i) : Int) = (↑(keysN W s' i) : Int)) ∧ True) ∧ s' ≤ W.nSlots ∧ W.nSlots - s' < W.nSlots - s)) ∧ (((W.slots (Int.toNat (↑s : Int))).kind != (1 : Int)) = false → SV.ptr (0 : Nat) (0 : Nat) none (nat_lit 0) (nat_lit 0) = SV.ptr (0 : Nat) (0 : Nat) none (0 : Nat) (0 : Nat) ∧ SV.ptr ((0 : Nat) + (1 : Nat) + (1 : Nat)) (0 : Nat) none (nat_lit 0) (nat_lit 0) = SV.ptr (2 : Nat) (0 : Nat) none (0 : Nat) (0 : Nat) ∧ SV.ptr ((0 : Nat) + (1 : Nat) + (1 : Nat) + (1 : Nat) + (1 : Nat)) (0 : Nat) none (nat_lit 0) (nat_lit 0) = SV.ptr (4 : Nat) (0 : Nat) none (0 : Nat) (0 : Nat) ∧ SV.ptr ((0 : Nat) + (1 : Nat) + (1 : Nat) + (1 : Nat) + (1 : Nat) + (1 : Nat) + (1 : Nat)) (0 : Nat) none (nat_lit 0) (nat_lit 0) = SV.ptr (6 : Nat) (0 : Nat) none (0 : Nat) (0 : Nat) ∧ (0 : Int) = (↑(0 : Nat) : Int) ∧ ((True ∧ nat_lit 0 = nat_lit 0 ∧ Int.toNat
    (↑W.nKinds : Int) = Int.toNat (↑W.nKinds : Int)) ∧ (W.nKinds = W.nKinds ∧ ∀ (i : Nat), i < W.nKinds → True ∧ (↑(clayN W s i) : Int) = (↑(clayN W (Int.toNat (↑s : Int)) i) : Int) + bif inRg (W.slots (Int.toNat (↑s : Int))).base (0 : Nat) i then (1 : Int) else (0 : Int)) ∧ (True ∧ nat_lit 0 = nat_lit 0 ∧ Int.toNat (↑W.nKinds : Int) = Int.toNat (↑W.nKinds : Int)) ∧ (W.nKinds = W.nKinds ∧ ∀ (i : Nat), i < W.nKinds → True ∧ usedK W s i = bif inRg (W.slots (Int.toNat (↑s : Int))).base (0 : Nat) i then decide ((↑i : Int) < (W.slots (Int.toNat (↑s : Int))).base + (W.slots (Int.toNat (↑s : Int))).mark) else usedK W (Int.toNat (↑s : Int)) i) ∧ (True ∧ nat_lit 0 = nat_lit 0 ∧ Int.toNat (↑W.nKinds : Int) = Int.toNat (↑W.nKinds : Int)) ∧ (W.nKinds = W.nKinds ∧ ∀ (i : Nat), i < W.nKinds → True ∧ (↑(keysN W s i) : Int) = (↑(keysN W s i) : Int)) ∧ (K_vFrames_0 W s) ∧ True) ∧ (↑(0 : Nat) : Int) ≤ (W.slots (Int.toNat (↑s : Int))).len ∧ ∀ (s_1 : Nat), (↑s_1 : Int) ≤ (W.slots (Int.toNat (↑s : Int))).len → (decide ((↑s_1 : Int) < (W.slots (Int.toNat (↑s : Int))).len) = true → IntKind.wrap IntKind.i64 ((W.slots (Int.toNat (↑s : Int))).base + (↑s_1 : Int)) = (W.slots (Int.toNat (↑s : Int))).base + (↑s_1 : Int) ∧ ((0 : Int) ≤ (W.slots (Int.toNat (↑s : Int))).base + (↑s_1 : Int) ∧ (W.slots (Int.toNat (↑s : Int))).base + (↑s_1 : Int) < (↑(Int.toNat (↑W.nKinds : Int)) : Int)) ∧ IntKind.wrap IntKind.i64 (((↑(clayN W (Int.toNat (↑s : Int)) (nat_lit 0 + Int.toNat ((W.slots (Int.toNat (↑s : Int))).base
    + (↑s_1 : Int)))) : Int) + bif inRg (W.slots (Int.toNat (↑s : Int))).base s_1 (nat_lit 0 + Int.toNat ((W.slots (Int.toNat (↑s : Int))).base + (↑s_1 : Int))) then (1 : Int) else (0 : Int)) + (1 : Int)) = ((↑(clayN W (Int.toNat (↑s : Int)) (nat_lit 0 + Int.toNat ((W.slots (Int.toNat (↑s : Int))).base + (↑s_1 : Int)))) : Int) + bif inRg (W.slots (Int.toNat (↑s : Int))).base s_1 (nat_lit 0 + Int.toNat ((W.slots (Int.toNat (↑s : Int))).base + (↑s_1 : Int))) then (1 : Int) else (0 : Int)) + (1 : Int) ∧ ((0 : Int) ≤ (W.slots (Int.toNat (↑s : Int))).base + (↑s_1 : Int) ∧ (W.slots (Int.toNat (↑s : Int))).base + (↑s_1 : Int) < (↑(Int.toNat (↑W.nKinds : Int)) : Int)) ∧ (∀ (i' : Nat), false = false) ∧ IntKind.wrap IntKind.i64 ((W.slots (Int.toNat (↑s : Int))).base + (↑s_1 : Int)) = (W.slots (Int.toNat (↑s : Int))).base + (↑s_1 : Int) ∧ ((0 : Int) ≤ (W.slots (Int.toNat (↑s : Int))).base + (↑s_1 : Int) ∧ (W.slots (Int.toNat (↑s : Int))).base + (↑s_1 : Int) < (↑(Int.toNat (↑W.nKinds : Int)) : Int)) ∧ (∀ (i' : Nat), false = false) ∧ IntKind.wrap IntKind.i64 ((↑s_1 : Int) + (1 : Int)) = (↑s_1 : Int) + (1 : Int) ∧ ∃ (s' : Nat), SV.ptr (0 : Nat) (0 : Nat) none (nat_lit 0) (nat_lit 0) = SV.ptr (0 : Nat) (0 : Nat) none (0 : Nat) (0 : Nat) ∧ SV.ptr ((0 : Nat) + (1 : Nat) + (1 : Nat)) (0 : Nat) none (nat_lit 0) (nat_lit 0) = SV.ptr (2 : Nat) (0 : Nat) none (0 : Nat) (0 : Nat) ∧ SV.ptr ((0 : Nat) + (1 : Nat) + (1 : Nat) + (1 : Nat) + (1 : Nat)) (0 : Nat) none (nat_lit 0) (nat_lit 0) = SV.ptr (4
    : Nat) (0 : Nat) none (0 : Nat) (0 : Nat) ∧ SV.ptr ((0 : Nat) + (1 : Nat) + (1 : Nat) + (1 : Nat) + (1 : Nat) + (1 : Nat) + (1 : Nat)) (0 : Nat) none (nat_lit 0) (nat_lit 0) = SV.ptr (6 : Nat) (0 : Nat) none (0 : Nat) (0 : Nat) ∧ (↑s_1 : Int) + (1 : Int) = (↑s' : Int) ∧ ((True ∧ nat_lit 0 = nat_lit 0 ∧ Int.toNat (↑W.nKinds : Int) = Int.toNat (↑W.nKinds : Int)) ∧ (W.nKinds = W.nKinds ∧ ∀ (i : Nat), i < W.nKinds → True ∧ (bif Nat.beq i (nat_lit 0 + Int.toNat ((W.slots (Int.toNat (↑s : Int))).base + (↑s_1 : Int))) then ((↑(clayN W (Int.toNat (↑s : Int)) (nat_lit 0 + Int.toNat ((W.slots (Int.toNat (↑s : Int))).base + (↑s_1 : Int)))) : Int) + bif inRg (W.slots (Int.toNat (↑s : Int))).base s_1 (nat_lit 0 + Int.toNat ((W.slots (Int.toNat (↑s : Int))).base + (↑s_1 : Int))) then (1 : Int) else (0 : Int)) + (1 : Int) else (↑(clayN W (Int.toNat (↑s : Int)) i) : Int) + bif inRg (W.slots (Int.toNat (↑s : Int))).base s_1 i then (1 : Int) else (0 : Int)) = (↑(clayN W (Int.toNat (↑s : Int)) i) : Int) + bif inRg (W.slots (Int.toNat (↑s : Int))).base s' i then (1 : Int) else (0 : Int)) ∧ (True ∧ nat_lit 0 = nat_lit 0 ∧ Int.toNat (↑W.nKinds : Int) = Int.toNat (↑W.nKinds : Int)) ∧ (W.nKinds = W.nKinds ∧ ∀ (i : Nat), i < W.nKinds → True ∧ (bif Nat.beq i (nat_lit 0 + Int.toNat ((W.slots (Int.toNat (↑s : Int))).base + (↑s_1 : Int))) then decide ((↑s_1 : Int) < (W.slots (Int.toNat (↑s : Int))).mark) else bif inRg (W.slots (Int.toNat (↑s : Int))).base s_1 i then decide ((↑i : Int) < (W.slots
    (Int.toNat (↑s : Int))).base + (W.slots (Int.toNat (↑s : Int))).mark) else usedK W (Int.toNat (↑s : Int)) i) = bif inRg (W.slots (Int.toNat (↑s : Int))).base s' i then decide ((↑i : Int) < (W.slots (Int.toNat (↑s : Int))).base + (W.slots (Int.toNat (↑s : Int))).mark) else usedK W (Int.toNat (↑s : Int)) i) ∧ (True ∧ nat_lit 0 = nat_lit 0 ∧ Int.toNat (↑W.nKinds : Int) = Int.toNat (↑W.nKinds : Int)) ∧ (W.nKinds = W.nKinds ∧ ∀ (i : Nat), i < W.nKinds → True ∧ (↑(keysN W s i) : Int) = (↑(keysN W s i) : Int)) ∧ (K_vFrames_0 W s) ∧ True) ∧ (↑s' : Int) ≤ (W.slots (Int.toNat (↑s : Int))).len ∧ Int.toNat (W.slots (Int.toNat (↑s : Int))).len - s' < Int.toNat (W.slots (Int.toNat (↑s : Int))).len - s_1) ∧ (decide ((↑s_1 : Int) < (W.slots (Int.toNat (↑s : Int))).len) = false → IntKind.wrap IntKind.i64 ((↑s : Int) + (1 : Int)) = (↑s : Int) + (1 : Int) ∧ ∃ (s' : Nat), SV.ptr (0 : Nat) (0 : Nat) none (nat_lit 0) (nat_lit 0) = SV.ptr (0 : Nat) (0 : Nat) none (0 : Nat) (0 : Nat) ∧ SV.ptr ((0 : Nat) + (1 : Nat) + (1 : Nat)) (0 : Nat) none (nat_lit 0) (nat_lit 0) = SV.ptr (2 : Nat) (0 : Nat) none (0 : Nat) (0 : Nat) ∧ SV.ptr ((0 : Nat) + (1 : Nat) + (1 : Nat) + (1 : Nat) + (1 : Nat)) (0 : Nat) none (nat_lit 0) (nat_lit 0) = SV.ptr (4 : Nat) (0 : Nat) none (0 : Nat) (0 : Nat) ∧ (↑s : Int) + (1 : Int) = (↑s' : Int) ∧ ((True ∧ nat_lit 0 = nat_lit 0 ∧ Int.toNat (↑W.nKinds : Int) = Int.toNat (↑W.nKinds : Int)) ∧ (W.nKinds = W.nKinds ∧ ∀ (i : Nat), i < W.nKinds → True ∧ ((↑(clayN W (Int.toNat (↑s :
    Int)) i) : Int) + bif inRg (W.slots (Int.toNat (↑s : Int))).base s_1 i then (1 : Int) else (0 : Int)) = (↑(clayN W s' i) : Int)) ∧ (True ∧ nat_lit 0 = nat_lit 0 ∧ Int.toNat (↑W.nKinds : Int) = Int.toNat (↑W.nKinds : Int)) ∧ (W.nKinds = W.nKinds ∧ ∀ (i : Nat), i < W.nKinds → True ∧ (bif inRg (W.slots (Int.toNat (↑s : Int))).base s_1 i then decide ((↑i : Int) < (W.slots (Int.toNat (↑s : Int))).base + (W.slots (Int.toNat (↑s : Int))).mark) else usedK W (Int.toNat (↑s : Int)) i) = usedK W s' i) ∧ (True ∧ nat_lit 0 = nat_lit 0 ∧ Int.toNat (↑W.nKinds : Int) = Int.toNat (↑W.nKinds : Int)) ∧ (W.nKinds = W.nKinds ∧ ∀ (i : Nat), i < W.nKinds → True ∧ (↑(keysN W s i) : Int) = (↑(keysN W s' i) : Int)) ∧ True) ∧ s' ≤ W.nSlots ∧ W.nSlots - s' < W.nSlots - s))) ∧ (decide ((↑s : Int) < (↑W.nSlots : Int)) = false → (((W.nKinds = W.nKinds ∧ ∀ (i : Nat), i < W.nKinds → True ∧ W.kinds i = W.kinds i) ∧ (8 : Int) = (8 : Int) ∧ (((True ∧ True ∧ Int.toNat (↑W.nKinds : Int) = Int.toNat (↑W.nKinds : Int) ∧ ∀ (i : Nat), i < Int.toNat (↑W.nKinds : Int) → True ∧ (↑(clayN W s (nat_lit 0 + i)) : Int) = (↑(clayN W s (nat_lit 0 + i)) : Int)) ∧ True ∧ Int.toNat (↑W.nKinds : Int) = Int.toNat (↑W.nKinds : Int) ∧ ∀ (i : Nat), i < Int.toNat (↑W.nKinds : Int) → True ∧ (↑(keysN W s (nat_lit 0 + i)) : Int) = (↑(keysN W s (nat_lit 0 + i)) : Int)) ∧ True ∧ Int.toNat (↑W.nKinds : Int) = Int.toNat (↑W.nKinds : Int) ∧ ∀ (i : Nat), i < Int.toNat (↑W.nKinds : Int) → True ∧ usedK W s (nat_lit 0 + i) = usedK W s (nat_lit
    0 + i)) ∧ True) ∧ True ∧ (8 : Int) ≠ (0 : Int) ∧ W.nKinds ≤ (100000 : Nat) ∧ W.nKinds ≤ Int.toNat (↑W.nKinds : Int) ∧ W.nKinds ≤ Int.toNat (↑W.nKinds : Int) ∧ W.nKinds ≤ Int.toNat (↑W.nKinds : Int)) ∧ (bE W.nKinds (fun (i : Nat) => decide ((1 : Int) < (↑(clayN W s (nat_lit 0 + i)) : Int)) || W.kinds i != (0 : Int) && ((↑(keysN W s (nat_lit 0 + i)) : Int) == (0 : Int) || (↑(clayN W s (nat_lit 0 + i)) : Int) == (1 : Int) && !usedK W s (nat_lit 0 + i))) (8 : Int) = w3E W ∧ bA W.nKinds (fun (i : Nat) => decide ((1 : Int) < (↑(clayN W s (nat_lit 0 + i)) : Int)) || W.kinds i != (0 : Int) && ((↑(keysN W s (nat_lit 0 + i)) : Int) == (0 : Int) || (↑(clayN W s (nat_lit 0 + i)) : Int) == (1 : Int) && !usedK W s (nat_lit 0 + i))) (8 : Int) = w3A W) ∧ True))))
theorem q_vFrames (W : Wd) : evBody Tryd.prog false glN (mkT [(126, c_badF)]) Tryd.f95 (a_vFrames W) (m_vFrames W) [.inv (an_fr1 W), .invF false fun fr => intK (fr 36) (an_fr2 W)] (r_vFrames W) (n_vFrames W) = V_vFrames W := by kernel_rfl
set_option maxHeartbeats 2000000 in
theorem pf_vFrames (W : Wd) (hp : p_vFrames W) : FnC Tryd.prog glN 95 (a_vFrames W) (m_vFrames W) (r_vFrames W) (n_vFrames W) := by
  refine fn_of (sound_cons ok_badF sound_nil) false Tryd.func95 [.inv (an_fr1 W), .invF false fun fr => intK (fr 36) (an_fr2 W)] (q_vFrames W) ?_
  unfold V_vFrames
  unfold p_vFrames at hp
  obtain ⟨hz, hs⟩ := hp
  have z1 := hz.slots
  have z2 := hz.k1
  simp only [K_vFrames_0, true_and, and_true, and_self, implies_true, eq_self, Int.toNat_natCast, Nat.zero_add, Int.natCast_nonneg, Nat.not_lt_zero, false_implies, Nat.zero_le, Int.natCast_zero, Bool.cond_self, Bool.cond_true_left, Bool.cond_false_right, Bool.cond_true_right, Bool.cond_false_left]
  have wr : ∀ z : Int, -100000 ≤ z → z ≤ 100000 → IntKind.i64.wrap z = z := fun z h1 h2 => by rw [IntKind.wrap_i64]; omega
  refine fun _ => ⟨⟨by omega, by omega⟩, fun _ => ⟨⟨by omega, by omega⟩, fun _ => ⟨⟨by omega, by omega⟩, fun _ => ⟨⟨fun _ _ => rfl, fun _ _ => rfl, fun _ _ => rfl⟩, fun s hsn => ⟨fun h => ?_, fun h => ?_⟩⟩⟩⟩⟩
  · have hlt := lt_of_dec h
    have hb := hs s hlt
    have hn := slBs_no hb
    have hr := slNo_range hn
    have c1 : ∀ f, clayN W s f ≤ s := fun f => cntB_le _ _
    have c2 : ∀ f, keysN W s f ≤ s := fun f => cntB_le _ _
    have eC : ∀ f, clayN W (s + 1) f = clayN W s f + (bif clayAt (W.slots s) f then 1 else 0) := fun f => rfl
    have eK : ∀ f, keysN W (s + 1) f = keysN W s f + (bif keyAt (W.slots s) f then 1 else 0) := fun f => rfl
    have eU : ∀ f, usedK W (s + 1) f = bif clayAt (W.slots s) f then decide ((f : Int) < (W.slots s).base + (W.slots s).mark) else usedK W s f := fun f => rfl
    have hfit : (W.slots s).kind ≠ 0 → 1 ≤ (W.slots s).len ∧ (W.slots s).base + (W.slots s).len ≤ W.nKinds := fun hk => by
      refine ⟨slB_len hn hk, ?_⟩
      have hb : slBs W s (W.slots s) = true := hb
      rw [slBs_pos (beq_eq_false_iff_ne.2 hk)] at hb
      simp only [Bool.and_eq_true, decide_eq_true_eq] at hb
      exact hb.1.1.2
    obtain ⟨S, hS⟩ : ∃ S, S = W.slots s := ⟨_, rfl⟩
    simp only [← hS] at eC eK eU hfit hr ⊢
    refine ⟨by omega, fun h1 => ?_, fun h1 => ?_⟩
    · have k1 : (S.kind == 1) = false := notT h1
      have nc : ∀ f, clayAt S f = false := fun f => by unfold clayAt; rw [k1]; rfl
      refine ⟨fun h2 => ?_, fun h2 => ?_⟩
      · have k0 : (S.kind == 0) = false := notT h2
        have hf := hfit (by simpa using k0)
        have ka : ∀ f : Nat, keyAt S f = (S.base == f) := fun f => by unfold keyAt; simp only [bne]; rw [k1, k0]; rfl
        refine ⟨by omega, wr _ (by omega) (by have := c2 S.base.toNat; omega), by omega, wr _ (by omega) (by omega), exS ⟨⟨fun i hi => ?_, fun i hi => ?_, fun i hi => ?_⟩, by omega, by omega⟩⟩
        · rw [eC, nc]; rfl
        · rw [eU, nc]; rfl
        · rw [eK, ka]
          cases hi2 : i.beq S.base.toNat with
          | true =>
            have hi3 := Nat.eq_of_beq_eq_true hi2
            subst hi3
            rw [show (S.base == ((S.base.toNat : Nat) : Int)) = true from beq_iff_eq.2 (by omega)]
            simp
          | false =>
            have hne : i ≠ S.base.toNat := fun e => by subst e; rw [Nat.beq_refl] at hi2; cases hi2
            rw [show (S.base == (i : Int)) = false from beq_eq_false_iff_ne.2 (by omega)]
            simp
      · have k0 : (S.kind == 0) = true := notF h2
        have ka : ∀ f : Nat, keyAt S f = false := fun f => by unfold keyAt; simp only [bne]; rw [k0, k1]; rfl
        refine ⟨wr _ (by omega) (by omega), exS ⟨⟨fun i hi => ?_, fun i hi => ?_, fun i hi => ?_⟩, by omega, by omega⟩⟩
        · rw [eC, nc]; rfl
        · rw [eU, nc]; rfl
        · rw [eK, ka]; rfl
    · have k1 : (S.kind == 1) = true := notF h1
      have hf := hfit (by rw [eq_of_beq k1]; decide)
      have ka : ∀ f : Nat, keyAt S f = false := fun f => by unfold keyAt; simp only [bne]; rw [k1]; rfl
      refine ⟨⟨fun i hi => by rw [inRg0]; simp, fun i hi => by rw [inRg0]; rfl⟩, by omega, fun j hj => ⟨fun h3 => ?_, fun h3 => ?_⟩⟩
      · have h4 := of_decide_eq_true h3
        have hc := c1 (S.base + (j : Int)).toNat
        have e0 : inRg S.base j (S.base + (j : Int)).toNat = false := (inRg_at S.base j _ (by omega)).1
        rw [e0]
        refine ⟨wr _ (by omega) (by omega), by omega, wr _ (by simp; omega) (by simp; omega), by omega, wr _ (by omega) (by omega), by omega, wr _ (by omega) (by omega), exS ⟨⟨fun i hi => ?_, fun i hi => ?_⟩, by omega, by omega⟩⟩
        · cases hi2 : i.beq (S.base + (j : Int)).toNat with
          | true =>
            have hi3 := Nat.eq_of_beq_eq_true hi2
            subst hi3
            rw [(inRg_at S.base j (S.base + (j : Int)).toNat (by omega)).2]; simp
          | false =>
            have hne : i ≠ (S.base + (j : Int)).toNat := fun e => by subst e; rw [Nat.beq_refl] at hi2; cases hi2
            rw [inRg_ne S.base j i (by omega)]; rfl
        · cases hi2 : i.beq (S.base + (j : Int)).toNat with
          | true =>
            have hi3 := Nat.eq_of_beq_eq_true hi2
            subst hi3
            rw [(inRg_at S.base j (S.base + (j : Int)).toNat (by omega)).2]
            exact decide_eq_decide.2 (by omega)
          | false =>
            have hne : i ≠ (S.base + (j : Int)).toNat := fun e => by subst e; rw [Nat.beq_refl] at hi2; cases hi2
            rw [inRg_ne S.base j i (by omega)]; rfl
      · have h4 := of_decide_eq_false h3
        have ej : (j : Int) = S.len := by omega
        have ec : ∀ f : Nat, inRg S.base j f = clayAt S f := fun f => by unfold inRg clayAt; rw [k1, ej]; rfl
        refine ⟨wr _ (by omega) (by omega), exS ⟨⟨fun i hi => ?_, fun i hi => ?_, fun i hi => ?_⟩, by omega, by omega⟩⟩
        · rw [eC, ec]; cases clayAt S i <;> simp
        · rw [eU, ec]
        · rw [eK, ka]; rfl
  · have hge := ge_of_dec h
    obtain rfl : s = W.nSlots := by omega
    have e := fstE_congr (n := W.nKinds) (e := 8) (r := (0, -1)) (r' := (0, -1)) (fun f (hf : f < W.nKinds) => fr_not (W := W) (f := f)) (fun _ => rfl)
    refine ⟨⟨by decide, by omega, Nat.le_refl _⟩, ?_, ?_⟩
    · exact congrArg (·.1) e
    · exact congrArg (·.2) e
theorem ok_vFrames : FnOK Tryd.prog glN 95 c_vFrames := fnOK_of (fun l w => Tryd.call95 l w) fun x_ hp => pf_vFrames x_.W hp
end Go.Proofs.YtfmaeiilbhpepaaDoor
set_option linter.unusedVariables false
set_option linter.unusedSimpArgs false
set_option maxRecDepth 100000
namespace Go.Proofs.YtfmaeiilbhpepaaDoor
open Go.RowKit Go.Sy
def Seq (f : Int × Int → Int × Int) : Prop := ∀ r, ((f (0, -1)).1 = 0 → f r = r) ∧ ((f (0, -1)).1 ≠ 0 → f r = f (0, -1))
theorem Seq.fst {n : Nat} {p : Nat → Bool} {e : Int} (he : e ≠ 0) : Seq (fstE n p e) := fun r => fstE_seq he
theorem Seq.comp {f g : Int × Int → Int × Int} (hf : Seq f) (hg : Seq g) : Seq fun r => f (g r) := by
  intro r
  show ((f (g (0, -1))).1 = 0 → f (g r) = r) ∧ ((f (g (0, -1))).1 ≠ 0 → f (g r) = f (g (0, -1)))
  rcases Decidable.em ((f (0, -1)).1 = 0) with h | h
  · rw [(hf (g r)).1 h, (hf (g (0, -1))).1 h]; exact hg r
  · rw [(hf (g r)).2 h, (hf (g (0, -1))).2 h]; exact ⟨fun h2 => absurd h2 h, fun _ => rfl⟩
theorem seq1 (W : Wd) : Seq (wm1 W) := (Seq.fst (by decide)).comp ((Seq.fst (by decide)).comp (Seq.fst (by decide)))
theorem seq2 (W : Wd) : Seq (wm2 W) := Seq.fst (by decide)
theorem seq3 (W : Wd) : Seq (wm3 W) := Seq.fst (by decide)
theorem seq4 (W : Wd) : Seq (wm4 W) := Seq.fst (by decide)
theorem seq5 (W : Wd) : Seq (wm5 W) := Seq.fst (by decide)
theorem seq6 (W : Wd) : Seq (wm6 W) := (Seq.fst (by decide)).comp (Seq.fst (by decide))
theorem seq7 (W : Wd) : Seq (wm7 W) := (Seq.fst (by decide)).comp (Seq.fst (by decide))
theorem seqW {W : Wd} {f : Int × Int → Int × Int} (hf : Seq f) {r : Int × Int} (hx : wm W = f r) : (((f (0, -1)).1 != 0) = true → (f (0, -1)).1 = wE W ∧ (f (0, -1)).2 = wA W) ∧ (((f (0, -1)).1 != 0) = false → wm W = r) := by
  refine ⟨fun h => ?_, fun h => ?_⟩
  · unfold wE wA; rw [hx, (hf r).2 (by simpa using h)]; exact ⟨rfl, rfl⟩
  · rw [hx, (hf r).1 (by simpa using h)]
theorem ram_of {W : Wd} (h : (w1E W != 0) = false) : ∀ i, i < W.nRam → isW (W.ram i) := fun i hi => by
  have h1 : (wm1 W (0, -1)).1 = 0 := by simpa [w1E] using h
  have := (fstE_zero (by decide) h1).1 i hi
  simp [farB] at this
  exact ⟨by omega, by omega⟩
theorem slots_of {W : Wd} (h : (w2E W != 0) = false) : ∀ i, i < W.nSlots → slB W i = true := fun i hi => by
  have h1 : (wm2 W (0, -1)).1 = 0 := by simpa [w2E] using h
  have := (fstE_zero (by decide) h1).1 i hi
  exact notF this
structure X_wCheck where
  W : Wd
def a_wCheck (W : Wd) : List SV := [wSV W]
def m_wCheck (W : Wd) : List Blk := []
def r_wCheck (W : Wd) : SV := .er 22 25 (wE W) (wA W)
def n_wCheck (W : Wd) : List Blk := []
def p_wCheck (W : Wd) : Prop := Sm W
def s_wCheck : Sy.Spec where
  X := X_wCheck
  args x_ := a_wCheck x_.W
  mem x_ := m_wCheck x_.W
  pre x_ := p_wCheck x_.W
  res x_ := r_wCheck x_.W
  mem' x_ := n_wCheck x_.W
  dec args mem := match args with | [a0] => some ⟨wSVD a0⟩ | _ => none
def c_wCheck : Con := ⟨[], s_wCheck.g, none⟩
def K_wCheck_0 (W : Wd) : Prop :=
  ((((((((((((True ∧ W.nRam = W.nRam ∧ ∀ (i : Nat), i < W.nRam → True ∧ W.ram i = W.ram i) ∧ W.nKinds = W.nKinds ∧ ∀ (i : Nat), i < W.nKinds → True ∧ W.kinds i = W.kinds i) ∧ W.nSlots = W.nSlots ∧ ∀ (i : Nat), i < W.nSlots → ((((((True ∧ (W.slots i).kind = (W.slots i).kind) ∧ (W.slots i).base = (W.slots i).base) ∧ (W.slots i).len = (W.slots i).len) ∧ (W.slots i).mark = (W.slots i).mark) ∧ (W.slots i).rights = (W.slots i).rights) ∧ (W.slots i).badge = (W.slots i).badge) ∧ (W.slots i).from_ = (W.slots i).from_) ∧ W.nTasks = W.nTasks ∧ ∀ (i : Nat), i < W.nTasks → (((((((((((((((((((True ∧ (W.tasks i).r0 = (W.tasks i).r0) ∧ (W.tasks i).r1 = (W.tasks i).r1) ∧ (W.tasks i).r2 = (W.tasks i).r2) ∧ (W.tasks i).r3 = (W.tasks i).r3) ∧ (W.tasks i).r4 = (W.tasks i).r4) ∧ (W.tasks i).r5 = (W.tasks i).r5) ∧ (W.tasks i).r6 = (W.tasks i).r6) ∧ (W.tasks i).r7 = (W.tasks i).r7) ∧ (W.tasks i).pc = (W.tasks i).pc) ∧ (W.tasks i).st = (W.tasks i).st) ∧ (W.tasks i).prio = (W.tasks i).prio) ∧ (W.tasks i).node = (W.tasks i).node) ∧ (W.tasks i).space = (W.tasks i).space) ∧ (W.tasks i).helper = (W.tasks i).helper) ∧ (W.tasks i).loc = (W.tasks i).loc) ∧ (W.tasks i).word = (W.tasks i).word) ∧ (W.tasks i).badge = (W.tasks i).badge) ∧ (W.tasks i).owes = (W.tasks i).owes) ∧ (W.tasks i).core = (W.tasks i).core) ∧ (W.tasks i).dom = (W.tasks i).dom) ∧ W.nLines = W.nLines ∧ ∀ (i : Nat), i < W.nLines → True ∧ W.linesN i = W.linesN i ∧ ∀ (i_1 : Nat), i_1 < W.linesN i → True ∧ W.lines i i_1 = W.lines i i_1) ∧ W.nBits
    = W.nBits ∧ ∀ (i : Nat), i < W.nBits → True ∧ W.bits i = W.bits i) ∧ W.nCores = W.nCores ∧ ∀ (i : Nat), i < W.nCores → True ∧ W.cores i = W.cores i) ∧ W.nReady = W.nReady ∧ ∀ (i : Nat), i < W.nReady → True ∧ W.readyN i = W.readyN i ∧ ∀ (i_1 : Nat), i_1 < W.readyN i → True ∧ W.ready i i_1 = W.ready i i_1) ∧ W.nTlbs = W.nTlbs ∧ ∀ (i : Nat), i < W.nTlbs → True ∧ W.tlbsN i = W.tlbsN i ∧ ∀ (i_1 : Nat), i_1 < W.tlbsN i → (((True ∧ (W.tlbs i i_1).sp = (W.tlbs i i_1).sp) ∧ (W.tlbs i i_1).pg = (W.tlbs i i_1).pg) ∧ (W.tlbs i i_1).fr = (W.tlbs i i_1).fr) ∧ (W.tlbs i i_1).wr = (W.tlbs i i_1).wr) ∧ W.nDoms = W.nDoms ∧ ∀ (i : Nat), i < W.nDoms → True ∧ W.doms i = W.doms i) ∧ W.time = W.time) ∧ True)
def K_wCheck_1 (W : Wd) : Prop :=
  ((K_wCheck_0 W) ∧ True ∧ Szd W ∧ (∀ (i : Nat), i < W.nLines → W.linesN i ≤ (50 : Nat)) ∧ (∀ (i : Nat), i < W.nReady → W.readyN i ≤ (50 : Nat)) ∧ ∀ (i : Nat), i < W.nTlbs → W.tlbsN i ≤ (50 : Nat))
def V_wCheck (W : Wd) : Prop :=
  True ∧ True ∧ True ∧ True ∧ True ∧ True ∧ True ∧ True ∧ ((bif bif bif decide ((↑W.nKinds : Int) < (1 : Int)) then true else decide ((24 : Int) < (↑W.nKinds : Int)) then true else decide ((↑W.nCores : Int) < (1 : Int)) then true else decide ((4 : Int) < (↑W.nCores : Int))) = false → IntKind.wrap IntKind.i64 ((↑W.nKinds : Int) * (16 : Int)) = (↑W.nKinds : Int) * (16 : Int)) ∧ ((bif bif bif bif decide ((↑W.nKinds : Int) < (1 : Int)) then true else decide ((24 : Int) < (↑W.nKinds : Int)) then true else decide ((↑W.nCores : Int) < (1 : Int)) then true else decide ((4 : Int) < (↑W.nCores : Int)) then true else (↑W.nRam : Int) != (↑W.nKinds : Int) * (16 : Int)) = false → IntKind.wrap IntKind.i64 ((↑W.nKinds : Int) * (16 : Int)) = (↑W.nKinds : Int) * (16 : Int)) ∧ ((bif bif bif bif bif bif bif bif decide ((↑W.nKinds : Int) < (1 : Int)) then true else decide ((24 : Int) < (↑W.nKinds : Int)) then true else decide ((↑W.nCores : Int) < (1 : Int)) then true else decide ((4 : Int) < (↑W.nCores : Int)) then true else (↑W.nRam : Int) != (↑W.nKinds : Int) * (16 : Int) then true else (↑W.nSlots : Int) != (↑W.nKinds : Int) * (16 : Int) then true else (↑W.nTasks : Int) != (↑W.nKinds : Int) then true else (↑W.nLines : Int) != (↑W.nKinds : Int) then true else (↑W.nBits : Int) != (↑W.nKinds : Int)) = false → IntKind.wrap IntKind.i64 ((↑W.nCores : Int) * (4 : Int)) = (↑W.nCores : Int) * (4 : Int)) ∧ ((bif bif bif bif bif bif bif bif bif bif bif bif decide ((↑W.nKinds : Int) < (1 : Int)) then true
    else decide ((24 : Int) < (↑W.nKinds : Int)) then true else decide ((↑W.nCores : Int) < (1 : Int)) then true else decide ((4 : Int) < (↑W.nCores : Int)) then true else (↑W.nRam : Int) != (↑W.nKinds : Int) * (16 : Int) then true else (↑W.nSlots : Int) != (↑W.nKinds : Int) * (16 : Int) then true else (↑W.nTasks : Int) != (↑W.nKinds : Int) then true else (↑W.nLines : Int) != (↑W.nKinds : Int) then true else (↑W.nBits : Int) != (↑W.nKinds : Int) then true else (↑W.nReady : Int) != (↑W.nCores : Int) * (4 : Int) then true else (↑W.nTlbs : Int) != (↑W.nCores : Int) then true else decide ((↑W.nDoms : Int) < (1 : Int)) then true else decide ((8 : Int) < (↑W.nDoms : Int))) = false → (W.time = W.time ∧ (1000000 : Int) = (1000000 : Int) ∧ True) ∧ True ∧ True) ∧ ((bif bif bif bif bif bif bif bif bif bif bif bif bif decide ((↑W.nKinds : Int) < (1 : Int)) then true else decide ((24 : Int) < (↑W.nKinds : Int)) then true else decide ((↑W.nCores : Int) < (1 : Int)) then true else decide ((4 : Int) < (↑W.nCores : Int)) then true else (↑W.nRam : Int) != (↑W.nKinds : Int) * (16 : Int) then true else (↑W.nSlots : Int) != (↑W.nKinds : Int) * (16 : Int) then true else (↑W.nTasks : Int) != (↑W.nKinds : Int) then true else (↑W.nLines : Int) != (↑W.nKinds : Int) then true else (↑W.nBits : Int) != (↑W.nKinds : Int) then true else (↑W.nReady : Int) != (↑W.nCores : Int) * (4 : Int) then true else (↑W.nTlbs : Int) != (↑W.nCores : Int) then true else decide ((↑W.nDoms : Int) < (1 : Int)) then true else
    decide ((8 : Int) < (↑W.nDoms : Int)) then true else farB W.time (1000000 : Int)) = true → ((2 : Int) ≠ (0 : Int) ∧ wE W = (2 : Int) ∧ wA W = (-1 : Int)) ∧ True) ∧ ((bif bif bif bif bif bif bif bif bif bif bif bif bif decide ((↑W.nKinds : Int) < (1 : Int)) then true else decide ((24 : Int) < (↑W.nKinds : Int)) then true else decide ((↑W.nCores : Int) < (1 : Int)) then true else decide ((4 : Int) < (↑W.nCores : Int)) then true else (↑W.nRam : Int) != (↑W.nKinds : Int) * (16 : Int) then true else (↑W.nSlots : Int) != (↑W.nKinds : Int) * (16 : Int) then true else (↑W.nTasks : Int) != (↑W.nKinds : Int) then true else (↑W.nLines : Int) != (↑W.nKinds : Int) then true else (↑W.nBits : Int) != (↑W.nKinds : Int) then true else (↑W.nReady : Int) != (↑W.nCores : Int) * (4 : Int) then true else (↑W.nTlbs : Int) != (↑W.nCores : Int) then true else decide ((↑W.nDoms : Int) < (1 : Int)) then true else decide ((8 : Int) < (↑W.nDoms : Int)) then true else farB W.time (1000000 : Int)) = false → True ∧ True ∧ ((↑(nat_lit 7) : Int) ≤ (9223372036854775807 : Int) → ((0 : Int) ≤ (0 : Int) ∧ (0 : Int) < (↑(nat_lit 7) : Int)) ∧ ((K_wCheck_0 W) ∧ True ∧ Sm W) ∧ ((w1E W != (0 : Int)) = true → (w1E W = wE W ∧ w1A W = wA W) ∧ True) ∧ ((w1E W != (0 : Int)) = false → IntKind.wrap IntKind.i64 ((0 : Int) + (1 : Int)) = (0 : Int) + (1 : Int) ∧ ((0 : Int) ≤ (0 : Int) + (1 : Int) ∧ (0 : Int) + (1 : Int) < (↑(nat_lit 7) : Int)) ∧ ((K_wCheck_0 W) ∧ True ∧ Szd W) ∧ ((w2E W != (0 : Int)) = true → (w2E W = wE W
    ∧ w2A W = wA W) ∧ True) ∧ ((w2E W != (0 : Int)) = false → IntKind.wrap IntKind.i64 ((0 : Int) + (1 : Int) + (1 : Int)) = (0 : Int) + (1 : Int) + (1 : Int) ∧ ((0 : Int) ≤ (0 : Int) + (1 : Int) + (1 : Int) ∧ (0 : Int) + (1 : Int) + (1 : Int) < (↑(nat_lit 7) : Int)) ∧ ((K_wCheck_0 W) ∧ True ∧ Szd W ∧ ∀ (i : Nat), i < W.nSlots → slB W i = true) ∧ ((w3E W != (0 : Int)) = true → (w3E W = wE W ∧ w3A W = wA W) ∧ True) ∧ ((w3E W != (0 : Int)) = false → IntKind.wrap IntKind.i64 ((0 : Int) + (1 : Int) + (1 : Int) + (1 : Int)) = (0 : Int) + (1 : Int) + (1 : Int) + (1 : Int) ∧ ((0 : Int) ≤ (0 : Int) + (1 : Int) + (1 : Int) + (1 : Int) ∧ (0 : Int) + (1 : Int) + (1 : Int) + (1 : Int) < (↑(nat_lit 7) : Int)) ∧ (K_wCheck_1 W) ∧ ((w4E W != (0 : Int)) = true → (w4E W = wE W ∧ w4A W = wA W) ∧ True) ∧ ((w4E W != (0 : Int)) = false → IntKind.wrap IntKind.i64 ((0 : Int) + (1 : Int) + (1 : Int) + (1 : Int) + (1 : Int)) = (0 : Int) + (1 : Int) + (1 : Int) + (1 : Int) + (1 : Int) ∧ ((0 : Int) ≤ (0 : Int) + (1 : Int) + (1 : Int) + (1 : Int) + (1 : Int) ∧ (0 : Int) + (1 : Int) + (1 : Int) + (1 : Int) + (1 : Int) < (↑(nat_lit 7) : Int)) ∧ (K_wCheck_1 W) ∧ ((w5E W != (0 : Int)) = true → (w5E W = wE W ∧ w5A W = wA W) ∧ True) ∧ ((w5E W != (0 : Int)) = false → IntKind.wrap IntKind.i64 ((0 : Int) + (1 : Int) + (1 : Int) + (1 : Int) + (1 : Int) + (1 : Int)) = (0 : Int) + (1 : Int) + (1 : Int) + (1 : Int) + (1 : Int) + (1 : Int) ∧ ((0 : Int) ≤ (0 : Int) + (1 : Int) + (1 : Int) + (1 : Int) + (1 : Int) + (1 :
    Int) ∧ (0 : Int) + (1 : Int) + (1 : Int) + (1 : Int) + (1 : Int) + (1 : Int) < (↑(nat_lit 7) : Int)) ∧ (K_wCheck_1 W) ∧ ((w6E W != (0 : Int)) = true → (w6E W = wE W ∧ w6A W = wA W) ∧ True) ∧ ((w6E W != (0 : Int)) = false → IntKind.wrap IntKind.i64 ((0 : Int) + (1 : Int) + (1 : Int) + (1 : Int) + (1 : Int) + (1 : Int) + (1 : Int)) = (0 : Int) + (1 : Int) + (1 : Int) + (1 : Int) + (1 : Int) + (1 : Int) + (1 : Int) ∧ ((0 : Int) ≤ (0 : Int) + (1 : Int) + (1 : Int) + (1 : Int) + (1 : Int) + (1 : Int) + (1 : Int) ∧ (0 : Int) + (1 : Int) + (1 : Int) + (1 : Int) + (1 : Int) + (1 : Int) + (1 : Int) < (↑(nat_lit 7) : Int)) ∧ ((K_wCheck_0 W) ∧ True ∧ Szd W ∧ ((∀ (i : Nat), i < W.nLines → W.linesN i ≤ (50 : Nat)) ∧ (∀ (i : Nat), i < W.nReady → W.readyN i ≤ (50 : Nat)) ∧ ∀ (i : Nat), i < W.nTlbs → W.tlbsN i ≤ (50 : Nat)) ∧ ∀ (i : Nat), i < W.nRam → (0 : Int) ≤ W.ram i ∧ W.ram i ≤ (65535 : Int)) ∧ ((w7E W != (0 : Int)) = true → (w7E W = wE W ∧ w7A W = wA W) ∧ True) ∧ ((w7E W != (0 : Int)) = false → IntKind.wrap IntKind.i64 ((0 : Int) + (1 : Int) + (1 : Int) + (1 : Int) + (1 : Int) + (1 : Int) + (1 : Int) + (1 : Int)) = (0 : Int) + (1 : Int) + (1 : Int) + (1 : Int) + (1 : Int) + (1 : Int) + (1 : Int) + (1 : Int) ∧ (wE W = (0 : Int) ∧ wA W = (-1 : Int)) ∧ True)))))))))
theorem q_wCheck (W : Wd) : evBody Tryd.prog false glN (mkT [(92, c_wOut), (93, c_vWords), (94, c_vKeys), (95, c_vFrames), (96, c_vTasks), (97, c_vLines), (98, c_vTurns), (99, c_vMaps)]) Tryd.f59 (a_wCheck W) (m_wCheck W) [.dec, .unroll 8] (r_wCheck W) (n_wCheck W) = V_wCheck W := by kernel_rfl
set_option maxHeartbeats 2000000 in
theorem pf_wCheck (W : Wd) (hp : p_wCheck W) : FnC Tryd.prog glN 59 (a_wCheck W) (m_wCheck W) (r_wCheck W) (n_wCheck W) := by
  refine fn_of (sound_cons ok_wOut (sound_cons ok_vWords (sound_cons ok_vKeys (sound_cons ok_vFrames (sound_cons ok_vTasks (sound_cons ok_vLines (sound_cons ok_vTurns (sound_cons ok_vMaps sound_nil)))))))) false Tryd.func59 [.dec, .unroll 8] (q_wCheck W) ?_
  unfold V_wCheck
  unfold p_wCheck at hp
  simp only [K_wCheck_0, K_wCheck_1, true_and, and_true, and_self, implies_true, eq_self, Int.toNat_natCast, Nat.zero_add, Int.natCast_nonneg, Nat.not_lt_zero, false_implies, Nat.zero_le, Int.natCast_zero, Bool.cond_self, Bool.cond_true_left, Bool.cond_false_right, Bool.cond_true_right, Bool.cond_false_left]
  have wr : ∀ z : Int, -100000 ≤ z → z ≤ 100000 → IntKind.i64.wrap z = z := fun z h1 h2 => by rw [IntKind.wrap_i64]; omega
  have b2 := hp.kinds
  have b4 := hp.cores
  rw [szBad_int]
  refine ⟨fun _ => wr _ (by omega) (by omega), fun _ => wr _ (by omega) (by omega), fun _ => wr _ (by omega) (by omega), fun h => ?_, fun h _ => ⟨⟨by decide, by decide⟩, hp, ?_⟩⟩
  · have : wm W = (2, -1) := by unfold wm; rw [h]; rfl
    unfold wE wA; rw [this]; exact ⟨by decide, rfl, rfl⟩
  have hz := szd_of h
  have X1 : wm W = (wm1 W (wm2 W (wm3 W (wm4 W (wm5 W (wm6 W (wm7 W (0, -1)))))))) := by unfold wm; rw [h]; rfl
  refine ⟨(seqW (seq1 W) X1).1, fun g1 => ⟨wr _ (by decide) (by decide), ⟨by decide, by decide⟩, hz, ?_⟩⟩
  have X2 := (seqW (seq1 W) X1).2 g1
  refine ⟨(seqW (seq2 W) X2).1, fun g2 => ⟨wr _ (by decide) (by decide), ⟨by decide, by decide⟩, ⟨hz, slots_of g2⟩, ?_⟩⟩
  have X3 := (seqW (seq2 W) X2).2 g2
  refine ⟨(seqW (seq3 W) X3).1, fun g3 => ⟨wr _ (by decide) (by decide), ⟨by decide, by decide⟩, ⟨hz, hp.sm⟩, ?_⟩⟩
  have X4 := (seqW (seq3 W) X3).2 g3
  refine ⟨(seqW (seq4 W) X4).1, fun g4 => ⟨wr _ (by decide) (by decide), ⟨by decide, by decide⟩, ⟨hz, hp.sm⟩, ?_⟩⟩
  have X5 := (seqW (seq4 W) X4).2 g4
  refine ⟨(seqW (seq5 W) X5).1, fun g5 => ⟨wr _ (by decide) (by decide), ⟨by decide, by decide⟩, ⟨hz, hp.sm⟩, ?_⟩⟩
  have X6 := (seqW (seq5 W) X5).2 g5
  refine ⟨(seqW (seq6 W) X6).1, fun g6 => ⟨wr _ (by decide) (by decide), ⟨by decide, by decide⟩, ⟨hz, hp.sm, ram_of g1⟩, ?_⟩⟩
  have X7 := (seqW (seq6 W) X6).2 g6
  refine ⟨(seqW (seq7 W) X7).1, fun g7 => ⟨wr _ (by decide) (by decide), ?_⟩⟩
  have X8 := (seqW (seq7 W) X7).2 g7
  unfold wE wA; rw [X8]; exact ⟨rfl, rfl⟩
theorem ok_wCheck : FnOK Tryd.prog glN 59 c_wCheck := fnOK_of (fun l w => Tryd.call59 l w) fun x_ hp => pf_wCheck x_.W hp
end Go.Proofs.YtfmaeiilbhpepaaDoor
set_option linter.unusedVariables false
set_option linter.unusedSimpArgs false
set_option maxRecDepth 100000
namespace Go.Proofs.YtfmaeiilbhpepaaDoor
open Go.RowKit Go.Sy
structure X_worldSays where
  W : Wd
def a_worldSays (W : Wd) : List SV := [wSV W]
def m_worldSays (W : Wd) : List Blk := []
def r_worldSays (W : Wd) : SV := .v (.bool true)
def n_worldSays (W : Wd) : List Blk := []
def p_worldSays (W : Wd) : Prop := True
def s_worldSays : Sy.Spec where
  X := X_worldSays
  args x_ := a_worldSays x_.W
  mem x_ := m_worldSays x_.W
  pre x_ := p_worldSays x_.W
  res x_ := r_worldSays x_.W
  mem' x_ := n_worldSays x_.W
  dec args mem := match args with | [a0] => some ⟨wSVD a0⟩ | _ => none
def c_worldSays : Con := ⟨[], s_worldSays.g, none⟩
def K_worldSays_0 (W : Wd) : Prop :=
  ((((((((((((True ∧ W.nRam = W.nRam ∧ ∀ (i : Nat), i < W.nRam → True ∧ W.ram i = W.ram i) ∧ W.nKinds = W.nKinds ∧ ∀ (i : Nat), i < W.nKinds → True ∧ W.kinds i = W.kinds i) ∧ W.nSlots = W.nSlots ∧ ∀ (i : Nat), i < W.nSlots → ((((((True ∧ (W.slots i).kind = (W.slots i).kind) ∧ (W.slots i).base = (W.slots i).base) ∧ (W.slots i).len = (W.slots i).len) ∧ (W.slots i).mark = (W.slots i).mark) ∧ (W.slots i).rights = (W.slots i).rights) ∧ (W.slots i).badge = (W.slots i).badge) ∧ (W.slots i).from_ = (W.slots i).from_) ∧ W.nTasks = W.nTasks ∧ ∀ (i : Nat), i < W.nTasks → (((((((((((((((((((True ∧ (W.tasks i).r0 = (W.tasks i).r0) ∧ (W.tasks i).r1 = (W.tasks i).r1) ∧ (W.tasks i).r2 = (W.tasks i).r2) ∧ (W.tasks i).r3 = (W.tasks i).r3) ∧ (W.tasks i).r4 = (W.tasks i).r4) ∧ (W.tasks i).r5 = (W.tasks i).r5) ∧ (W.tasks i).r6 = (W.tasks i).r6) ∧ (W.tasks i).r7 = (W.tasks i).r7) ∧ (W.tasks i).pc = (W.tasks i).pc) ∧ (W.tasks i).st = (W.tasks i).st) ∧ (W.tasks i).prio = (W.tasks i).prio) ∧ (W.tasks i).node = (W.tasks i).node) ∧ (W.tasks i).space = (W.tasks i).space) ∧ (W.tasks i).helper = (W.tasks i).helper) ∧ (W.tasks i).loc = (W.tasks i).loc) ∧ (W.tasks i).word = (W.tasks i).word) ∧ (W.tasks i).badge = (W.tasks i).badge) ∧ (W.tasks i).owes = (W.tasks i).owes) ∧ (W.tasks i).core = (W.tasks i).core) ∧ (W.tasks i).dom = (W.tasks i).dom) ∧ W.nLines = W.nLines ∧ ∀ (i : Nat), i < W.nLines → True ∧ W.linesN i = W.linesN i ∧ ∀ (i_1 : Nat), i_1 < W.linesN i → True ∧ W.lines i i_1 = W.lines i i_1) ∧ W.nBits
    = W.nBits ∧ ∀ (i : Nat), i < W.nBits → True ∧ W.bits i = W.bits i) ∧ W.nCores = W.nCores ∧ ∀ (i : Nat), i < W.nCores → True ∧ W.cores i = W.cores i) ∧ W.nReady = W.nReady ∧ ∀ (i : Nat), i < W.nReady → True ∧ W.readyN i = W.readyN i ∧ ∀ (i_1 : Nat), i_1 < W.readyN i → True ∧ W.ready i i_1 = W.ready i i_1) ∧ W.nTlbs = W.nTlbs ∧ ∀ (i : Nat), i < W.nTlbs → True ∧ W.tlbsN i = W.tlbsN i ∧ ∀ (i_1 : Nat), i_1 < W.tlbsN i → (((True ∧ (W.tlbs i i_1).sp = (W.tlbs i i_1).sp) ∧ (W.tlbs i i_1).pg = (W.tlbs i i_1).pg) ∧ (W.tlbs i i_1).fr = (W.tlbs i i_1).fr) ∧ (W.tlbs i i_1).wr = (W.tlbs i i_1).wr) ∧ W.nDoms = W.nDoms ∧ ∀ (i : Nat), i < W.nDoms → True ∧ W.doms i = W.doms i) ∧ W.time = W.time) ∧ True)
def V_worldSays (W : Wd) : Prop :=
  True ∧ True ∧ ((K_worldSays_0 W) ∧ True ∧ True) ∧ True ∧ True ∧ (hgB W = false → (K_worldSays_0 W) ∧ True ∧ Sm W) ∧ True ∧ (hgB W = false → (K_worldSays_0 W) ∧ True ∧ Sm W) ∧ (hgB W = false → ((wE W = wE W ∧ wA W = wA W) ∧ ((True ∧ wE W = wE W) ∧ wA W = wA W) ∧ True) ∧ True ∧ True) ∧ (bif hgB W then true else wE W == wE W && wA W == wA W) = true ∧ True
theorem q_worldSays (W : Wd) : evBody Tryd.prog false glE (mkT [(18, c_is), (58, c_hugeWorld), (59, c_wCheck), (60, c_worldMay)]) Tryd.f11 (a_worldSays W) (m_worldSays W) [] (r_worldSays W) (n_worldSays W) = V_worldSays W := by kernel_rfl
set_option maxHeartbeats 1000000 in
theorem pf_worldSays (W : Wd) (hp : p_worldSays W) : FnC Tryd.prog glE 11 (a_worldSays W) (m_worldSays W) (r_worldSays W) (n_worldSays W) := by
  refine fn_of (sound_cons ok_is (sound_cons (ok_hugeWorld.up glN_glE) (sound_cons (ok_wCheck.up glN_glE) (sound_cons (ok_worldMay.up glN_glE) sound_nil)))) false Tryd.func11 [] (q_worldSays W) ?_
  unfold V_worldSays
  simp only [K_worldSays_0, true_and, and_true, and_self, implies_true, eq_self, Int.toNat_natCast, Nat.zero_add, Int.natCast_nonneg, Nat.not_lt_zero, false_implies, Nat.zero_le, Int.natCast_zero, Bool.cond_self]
  exact ⟨fun h => sm_of h, fun h => sm_of h, by simp⟩
theorem ok_worldSays : FnOK Tryd.prog glE 11 c_worldSays := fnOK_of (fun l w => Tryd.call11 l w) fun x_ hp => pf_worldSays x_.W hp
end Go.Proofs.YtfmaeiilbhpepaaDoor
