/- Contracts of small functions on numbers and lists. -/
import Derived.Test.YtfmaeiilbhpepaaDoorYI1
import Derived.Test.YtfmaeiilbhpepaaDoorYAs
set_option linter.unusedVariables false
set_option linter.unusedSimpArgs false
set_option linter.unusedVariables false
set_option linter.unusedSimpArgs false
set_option maxRecDepth 100000
namespace Go.Proofs.YtfmaeiilbhpepaaDoor
open Go.RowKit Go.Sy
def I64 (x : Int) : Prop := -9223372036854775808 ≤ x ∧ x ≤ 9223372036854775807
theorem I64.wrap {x : Int} (h : I64 x) : IntKind.i64.wrap x = x := by unfold I64 at h; rw [IntKind.wrap_i64]; omega
def pickF (c n : Int) : Int := (bif decide (c < 0) then -(c + 1) else c) % n
theorem pickF_range {c n : Int} (h : 0 < n) : 0 ≤ pickF c n ∧ pickF c n < n := ⟨Int.emod_nonneg _ (by omega), Int.emod_lt_of_pos _ h⟩
def allB : Nat → (Nat → Bool) → Bool
  | 0, _ => true
  | n + 1, p => allB n p && p n
theorem allB_iff {p : Nat → Bool} : ∀ {n : Nat}, allB n p = true ↔ ∀ i, i < n → p i = true
  | 0 => by simp [allB]
  | n + 1 => by
    simp only [allB, Bool.and_eq_true, allB_iff (n := n)]
    refine ⟨fun h i hi => ?_, fun h => ⟨fun i hi => h i (by omega), h n (by omega)⟩⟩
    rcases Nat.lt_succ_iff_lt_or_eq.1 hi with h' | rfl
    · exact h.1 i h'
    · exact h.2
theorem allB_false {p : Nat → Bool} {n i : Nat} (hi : i < n) (h : p i = false) : allB n p = false := by
  cases hq : allB n p with
  | false => rfl
  | true => rw [allB_iff.1 hq i hi] at h; cases h
def sameB (n : Nat) (a : Nat → Int) (m : Nat) (b : Nat → Int) : Bool := (n == m) && allB n fun i => a i == b i
structure X_pick where
  c : Int
  n : Int
def a_pick (c : Int) (n : Int) : List SV := [.v (.int .i64 c), .v (.int .i64 n)]
def m_pick (c : Int) (n : Int) : List Blk := []
def r_pick (c : Int) (n : Int) : SV := .v (.int .i64 (pickF c n))
def n_pick (c : Int) (n : Int) : List Blk := []
def p_pick (c : Int) (n : Int) : Prop := I64 c ∧ 0 < n
def s_pick : Sy.Spec where
  X := X_pick
  args x_ := a_pick x_.c x_.n
  mem x_ := m_pick x_.c x_.n
  pre x_ := p_pick x_.c x_.n
  res x_ := r_pick x_.c x_.n
  mem' x_ := n_pick x_.c x_.n
  dec args mem := match args with | [a0, a1] => some ⟨intD (a0), intD (a1)⟩ | _ => none
def c_pick : Con := ⟨[], s_pick.g, none⟩
def V_pick (c : Int) (n : Int) : Prop :=
  (decide (c < (0 : Int)) = true → IntKind.wrap IntKind.i64 (c + (1 : Int)) = c + (1 : Int) ∧ IntKind.wrap IntKind.i64 ((0 : Int) - (c + (1 : Int))) = (0 : Int) - (c + (1 : Int)) ∧ ((0 : Int) ≤ -(c + (1 : Int)) ∧ (0 : Int) < n) ∧ -(c + (1 : Int)) % n = pickF c n ∧ True) ∧ (decide (c < (0 : Int)) = false → ((0 : Int) ≤ c ∧ (0 : Int) < n) ∧ c % n = pickF c n ∧ True)
theorem q_pick (c : Int) (n : Int) : evBody Tryd.prog false glN (mkT []) Tryd.f30 (a_pick c n) (m_pick c n) [] (r_pick c n) (n_pick c n) = V_pick c n := by kernel_rfl
theorem pf_pick (c : Int) (n : Int) (hp : p_pick c n) : FnC Tryd.prog glN 30 (a_pick c n) (m_pick c n) (r_pick c n) (n_pick c n) := by
  refine fn_of sound_nil false Tryd.func30 [] (q_pick c n) ?_
  unfold V_pick
  unfold p_pick at hp
  obtain ⟨h1, h2⟩ := hp
  unfold I64 at h1
  unfold pickF
  refine ⟨fun h => ?_, fun h => ?_⟩
  all_goals rw [h]
  all_goals simp at h
  · simp only [IntKind.wrap_i64, cond_true]
    repeat' (first | exact trivial | rfl | refine And.intro ?_ ?_)
    all_goals omega
  · simp only [cond_false]
    repeat' (first | exact trivial | rfl | refine And.intro ?_ ?_)
    all_goals omega
theorem ok_pick : FnOK Tryd.prog glN 30 c_pick := fnOK_of (fun l w => Tryd.call30 l w) fun x_ hp => pf_pick x_.c x_.n hp
structure X_words where
  n : Nat
  l : Nat → Int
def a_words (n : Nat) (l : Nat → Int) : List SV := [.sl true 1 n (fun i_ _ => .v (.int .i64 (l i_)))]
def m_words (n : Nat) (l : Nat → Int) : List Blk := []
def r_words (n : Nat) (l : Nat → Int) : SV := .slc 0 0 none 0 n
def n_words (n : Nat) (l : Nat → Int) : List Blk := [.row 1 n fun i _ => .v (.int .i64 (pickF (l i) 65536))]
def p_words (n : Nat) (l : Nat → Int) : Prop := n ≤ 1000 ∧ ∀ i, i < n → I64 (l i)
def s_words : Sy.Spec where
  X := X_words
  args x_ := a_words x_.n x_.l
  mem x_ := m_words x_.n x_.l
  pre x_ := p_words x_.n x_.l
  res x_ := r_words x_.n x_.l
  mem' x_ := n_words x_.n x_.l
  dec args mem := match args with | [a0] => some ⟨slN a0, fun i => intD (slF a0 i 0)⟩ | _ => none
def c_words : Con := ⟨[], s_words.g, none⟩
def an_words (n : Nat) (l : Nat → Int) : Ann where
  σ := Nat
  rt := [(3, 1)]
  sh i := [(3, .slc 0 0 none 0 i), (4, .v (.int .i64 i))]
  mh i := [(0, .row 1 i fun a _ => .v (.int .i64 (pickF (l a) 65536)))]
  inv i := i ≤ n
  μ i := n - i
  init := 0
def V_words (n : Nat) (l : Nat → Int) : Prop :=
  ((0 : Nat) = (0 : Nat) ∧ (0 : Nat) = (0 : Nat)) ∧ (0 : Int) = (↑(0 : Nat) : Int) ∧ (((0 : Nat) = (0 : Nat) ∧ ∀ (i : Nat), i < (0 : Nat) → True ∧ SV.junk = SV.v (Value.int IntKind.i64 (pickF (l i) (65536 : Int)))) ∧ True) ∧ (0 : Nat) ≤ n ∧ ∀ (s : Nat), s ≤ n → (↑n : Int) ≤ (9223372036854775807 : Int) → (decide ((↑s : Int) < (↑n : Int)) = true → ((0 : Int) ≤ (↑s : Int) ∧ (↑s : Int) < (↑n : Int)) ∧ ((l (Int.toNat (↑s : Int)) = l (Int.toNat (↑s : Int)) ∧ (65536 : Int) = (65536 : Int) ∧ True) ∧ True ∧ ((-9223372036854775808 : Int) ≤ l (Int.toNat (↑s : Int)) ∧ l (Int.toNat (↑s : Int)) ≤ (9223372036854775807 : Int)) ∧ (0 : Int) < (65536 : Int)) ∧ True ∧ ((s + (1 : Nat)) * (8 : Nat) ≤ (140737488355328 : Nat) ∧ ∀ (q : Nat), (true && true) = true) ∧ IntKind.wrap IntKind.i64 ((↑s : Int) + (1 : Int)) = (↑s : Int) + (1 : Int) ∧ ∃ (s' : Nat), ((0 : Nat) = (0 : Nat) ∧ s + (1 : Nat) = s') ∧ (↑s : Int) + (1 : Int) = (↑s' : Int) ∧ ((s + (1 : Nat) = s' ∧ ∀ (i : Nat), i < s' → True ∧ (bif Nat.blt i s then pickF (l ((0 : Nat) + i)) (65536 : Int) else List.getD [pickF (l (Int.toNat (↑s : Int))) (65536 : Int)] ((0 : Nat) + (i - s)) (0 : Int)) = pickF (l i) (65536 : Int)) ∧ True) ∧ s' ≤ n ∧ n - s' < n - s) ∧ (decide ((↑s : Int) < (↑n : Int)) = false → ((0 : Nat) = (0 : Nat) ∧ s = n) ∧ (s = n ∧ ∀ (i : Nat), i < n → True ∧ pickF (l i) (65536 : Int) = pickF (l i) (65536 : Int)) ∧ True)
theorem q_words (n : Nat) (l : Nat → Int) : evBody Tryd.prog false glN (mkT [(30, c_pick)]) Tryd.f31 (a_words n l) (m_words n l) [.inv (an_words n l)] (r_words n l) (n_words n l) = V_words n l := by kernel_rfl
theorem pf_words (n : Nat) (l : Nat → Int) (hp : p_words n l) : FnC Tryd.prog glN 31 (a_words n l) (m_words n l) (r_words n l) (n_words n l) := by
  refine fn_of (sound_cons ok_pick sound_nil) false Tryd.func31 [.inv (an_words n l)] (q_words n l) ?_
  unfold V_words
  unfold p_words at hp
  obtain ⟨h1, h2⟩ := hp
  refine ⟨⟨rfl, rfl⟩, rfl, ⟨⟨rfl, fun i h => absurd h (by omega)⟩, trivial⟩, by omega, fun s hs hn => ⟨fun h => ?_, fun h => ?_⟩⟩
  · have hlt : s < n := by simpa using h
    have hi := h2 s hlt
    rw [show Int.toNat (s : Int) = s from Int.toNat_natCast s]
    refine ⟨⟨by omega, by omega⟩, ⟨⟨rfl, rfl, trivial⟩, trivial, hi, by decide⟩, trivial, ⟨by omega, fun _ => rfl⟩, by rw [IntKind.wrap_i64]; omega, s + 1, ⟨rfl, rfl⟩, rfl, ⟨⟨rfl, fun i hi => ⟨trivial, ?_⟩⟩, trivial⟩, by omega, by omega⟩
    rw [Nat.zero_add]
    rcases Nat.lt_or_ge i s with h3 | h3
    · rw [show Nat.blt i s = true by simpa [nblt] using h3]; rfl
    · obtain rfl : i = s := by omega
      rw [show Nat.blt i i = false by simp [nblt]]; simp
  · have hge : ¬ s < n := by simpa using h
    obtain rfl : s = n := by omega
    exact ⟨⟨rfl, rfl⟩, ⟨rfl, fun _ _ => ⟨trivial, rfl⟩⟩, trivial⟩
theorem ok_words : FnOK Tryd.prog glN 31 c_words := fnOK_of (fun l w => Tryd.call31 l w) fun x_ hp => pf_words x_.n x_.l hp
structure X_same where
  n : Nat
  a : Nat → Int
  m : Nat
  b : Nat → Int
def a_same (n : Nat) (a : Nat → Int) (m : Nat) (b : Nat → Int) : List SV := [.sl true 1 n (fun i_ _ => .v (.int .i64 (a i_))), .sl true 1 m (fun i_ _ => .v (.int .i64 (b i_)))]
def m_same (n : Nat) (a : Nat → Int) (m : Nat) (b : Nat → Int) : List Blk := []
def r_same (n : Nat) (a : Nat → Int) (m : Nat) (b : Nat → Int) : SV := .v (.bool (sameB n a m b))
def n_same (n : Nat) (a : Nat → Int) (m : Nat) (b : Nat → Int) : List Blk := []
def p_same (n : Nat) (a : Nat → Int) (m : Nat) (b : Nat → Int) : Prop := True
def s_same : Sy.Spec where
  X := X_same
  args x_ := a_same x_.n x_.a x_.m x_.b
  mem x_ := m_same x_.n x_.a x_.m x_.b
  pre x_ := p_same x_.n x_.a x_.m x_.b
  res x_ := r_same x_.n x_.a x_.m x_.b
  mem' x_ := n_same x_.n x_.a x_.m x_.b
  dec args mem := match args with | [a0, a1] => some ⟨slN a0, fun i => intD (slF a0 i 0), slN a1, fun i => intD (slF a1 i 0)⟩ | _ => none
def c_same : Con := ⟨[], s_same.g, none⟩
def an_same (n : Nat) (a b : Nat → Int) : Ann where
  σ := Nat
  rt := []
  sh i := [(5, .v (.int .i64 i))]
  mh _ := []
  inv i := i ≤ n ∧ ∀ j, j < i → a j = b j
  μ i := n - i
  init := 0
def V_same (n : Nat) (a : Nat → Int) (m : Nat) (b : Nat → Int) : Prop :=
  (↑n : Int) ≤ (9223372036854775807 : Int) → (↑m : Int) ≤ (9223372036854775807 : Int) → (((↑n : Int) != (↑m : Int)) = true → false = sameB n a m b ∧ True) ∧ (((↑n : Int) != (↑m : Int)) = false → (0 : Int) = (↑(0 : Nat) : Int) ∧ True ∧ ((0 : Nat) ≤ n ∧ ∀ (j : Nat), j < (0 : Nat) → a j = b j) ∧ ∀ (s : Nat), (s ≤ n ∧ ∀ (j : Nat), j < s → a j = b j) → (↑n : Int) ≤ (9223372036854775807 : Int) → (decide ((↑s : Int) < (↑n : Int)) = true → True ∧ True ∧ ((0 : Int) ≤ (↑s : Int) ∧ (↑s : Int) < (↑n : Int)) ∧ True ∧ True ∧ True ∧ ((0 : Int) ≤ (↑s : Int) ∧ (↑s : Int) < (↑m : Int)) ∧ True ∧ ((a (Int.toNat (↑s : Int)) != b (Int.toNat (↑s : Int))) = true → false = sameB n a m b ∧ True) ∧ ((a (Int.toNat (↑s : Int)) != b (Int.toNat (↑s : Int))) = false → IntKind.wrap IntKind.i64 ((↑s : Int) + (1 : Int)) = (↑s : Int) + (1 : Int) ∧ ∃ (s' : Nat), (↑s : Int) + (1 : Int) = (↑s' : Int) ∧ True ∧ (s' ≤ n ∧ ∀ (j : Nat), j < s' → a j = b j) ∧ n - s' < n - s)) ∧ (decide ((↑s : Int) < (↑n : Int)) = false → true = sameB n a m b ∧ True))
theorem q_same (n : Nat) (a : Nat → Int) (m : Nat) (b : Nat → Int) : evBody Tryd.prog false glN (mkT []) Tryd.f36 (a_same n a m b) (m_same n a m b) [.inv (an_same n a b)] (r_same n a m b) (n_same n a m b) = V_same n a m b := by kernel_rfl
theorem pf_same (n : Nat) (a : Nat → Int) (m : Nat) (b : Nat → Int) (hp : p_same n a m b) : FnC Tryd.prog glN 36 (a_same n a m b) (m_same n a m b) (r_same n a m b) (n_same n a m b) := by
  refine fn_of sound_nil false Tryd.func36 [.inv (an_same n a b)] (q_same n a m b) ?_
  unfold V_same
  refine fun _ _ => ⟨fun h => ?_, fun h => ?_⟩
  · have : (n == m) = false := by simp at h; simp; omega
    simp [sameB, this]
  · have hnm : n = m := by simp at h; omega
    subst hnm
    refine ⟨rfl, trivial, ⟨by omega, fun j hj => absurd hj (by omega)⟩, fun s hs hn => ⟨fun h => ?_, fun h => ?_⟩⟩
    · have hlt : s < n := by simpa using h
      rw [show Int.toNat (s : Int) = s from Int.toNat_natCast s]
      refine ⟨trivial, trivial, by omega, trivial, trivial, trivial, by omega, trivial, fun h => ?_, fun h => ?_⟩
      · have : (a s == b s) = false := by simp at h; simpa using h
        simp [sameB, allB_false (p := fun i => a i == b i) hlt this]
      · have : a s = b s := by simpa using h
        refine ⟨by rw [IntKind.wrap_i64]; omega, s + 1, rfl, trivial, ⟨by omega, fun j hj => ?_⟩, by omega⟩
        rcases Nat.lt_or_ge j s with h3 | h3
        · exact hs.2 j h3
        · obtain rfl : j = s := by omega
          exact this
    · have hge : ¬ s < n := by simpa using h
      obtain rfl : s = n := by omega
      have : allB s (fun i => a i == b i) = true := allB_iff.2 fun i hi => by simp [hs.2 i hi]
      simp [sameB, this]
theorem ok_same : FnOK Tryd.prog glN 36 c_same := fnOK_of (fun l w => Tryd.call36 l w) fun x_ hp => pf_same x_.n x_.a x_.m x_.b hp
end Go.Proofs.YtfmaeiilbhpepaaDoor
set_option linter.unusedVariables false
set_option linter.unusedSimpArgs false
set_option maxRecDepth 100000
namespace Go.Proofs.YtfmaeiilbhpepaaDoor
open Go.RowKit Go.Sy
/-- A task, field by field. -/
structure Run where
  r0 : Int
  r1 : Int
  r2 : Int
  r3 : Int
  r4 : Int
  r5 : Int
  r6 : Int
  r7 : Int
  pc : Int
  st : Int
  prio : Int
  node : Int
  space : Int
  helper : Int
  loc : Int
  word : Int
  badge : Int
  owes : Int
  core : Int
  dom : Int
def runL (t : Run) : List SV := [.v (.int .i64 t.r0), .v (.int .i64 t.r1), .v (.int .i64 t.r2), .v (.int .i64 t.r3), .v (.int .i64 t.r4), .v (.int .i64 t.r5), .v (.int .i64 t.r6), .v (.int .i64 t.r7), .v (.int .i64 t.pc), .v (.int .i64 t.st), .v (.int .i64 t.prio), .v (.int .i64 t.node), .v (.int .i64 t.space), .v (.int .i64 t.helper), .v (.int .i64 t.loc), .v (.int .i64 t.word), .v (.int .i64 t.badge), .v (.int .i64 t.owes), .v (.int .i64 t.core), .v (.int .i64 t.dom)]
def runD (s : SV) : Run := ⟨intD (agD s 0), intD (agD s 1), intD (agD s 2), intD (agD s 3), intD (agD s 4), intD (agD s 5), intD (agD s 6), intD (agD s 7), intD (agD s 8), intD (agD s 9), intD (agD s 10), intD (agD s 11), intD (agD s 12), intD (agD s 13), intD (agD s 14), intD (agD s 15), intD (agD s 16), intD (agD s 17), intD (agD s 18), intD (agD s 19)⟩
def Run.blank : Run := ⟨0, 0, 0, 0, 0, 0, 0, 0, 0, 0, 0, -1, -1, -1, -1, 0, 0, -1, 0, 0⟩
def bitw (op : Int) (a b : Nat) : Nat := bif op == 6 then a &&& b else bif op == 7 then a ||| b else a ^^^ b
/-- One bit. -/
def bitOf (op x y : Int) : Bool := (op == 6 && x + y == 2) || (op == 7 && decide (0 < x + y)) || (op == 8 && x + y == 1)
theorem bitw_step {op : Int} (ho : op = 6 ∨ op = 7 ∨ op = 8) (a b k : Nat) : bitw op a b % 2 ^ (k + 1) = bitw op a b % 2 ^ k + (if bitOf op ((a / 2 ^ k % 2 : Nat) : Int) ((b / 2 ^ k % 2 : Nat) : Int) = true then 2 ^ k else 0) := by
  rw [Nat.mod_pow_succ]
  congr 1
  have hb : bitw op a b / 2 ^ k % 2 = if bitOf op ((a / 2 ^ k % 2 : Nat) : Int) ((b / 2 ^ k % 2 : Nat) : Int) = true then 1 else 0 := by
    have e : ∀ x : Nat, x / 2 ^ k % 2 = (x.testBit k).toNat := fun x => by rw [Nat.testBit_eq_decide_div_mod_eq]; rcases Nat.mod_two_eq_zero_or_one (x / 2 ^ k) with h | h <;> simp [h]
    rw [e, e, e]
    rcases ho with rfl | rfl | rfl <;> simp only [bitw, bitOf] <;> simp [Nat.testBit_and, Nat.testBit_or, Nat.testBit_xor] <;> cases a.testBit k <;> cases b.testBit k <;> decide
  rw [hb]; split <;> simp
theorem bitw_lt {op : Int} {a b n : Nat} (ha : a < 2 ^ n) (hb : b < 2 ^ n) : bitw op a b < 2 ^ n := by
  unfold bitw
  cases op == 6 <;> cases op == 7 <;> simp only [cond_true, cond_false]
  · exact Nat.xor_lt_two_pow ha hb
  · exact Nat.or_lt_two_pow ha hb
  · exact Nat.lt_of_le_of_lt Nat.and_le_left ha
  · exact Nat.lt_of_le_of_lt Nat.and_le_left ha
def rdOk (n : Nat) (x : Int) : Bool := decide (0 ≤ x) && decide (x < n)
def wrOk (n : Nat) (low x : Int) : Bool := decide (low ≤ x) && decide (x < n)
def wrF (ram : Nat → Int) (x v : Int) (i : Nat) : Int := bif Nat.beq i x.toNat then v else ram i
def flatM (n : Nat) (ram : Nat → Int) (low : Int) : List Blk := [.cells [.slc 1 0 none 0 n, .v (.int .i64 low)], .row 1 n fun i _ => .v (.int .i64 (ram i))]
structure X_blank where
  unit_ : Unit
def a_blank : List SV := []
def m_blank : List Blk := []
def r_blank : SV := .ag 20 (lsv (runL Run.blank))
def n_blank : List Blk := []
def p_blank : Prop := True
def s_blank : Sy.Spec where
  X := X_blank
  args x_ := a_blank
  mem x_ := m_blank
  pre x_ := p_blank
  res x_ := r_blank
  mem' x_ := n_blank
  dec args mem := match args with | [] => some ⟨()⟩ | _ => none
def c_blank : Con := ⟨[], s_blank.g, none⟩
def V_blank : Prop :=
  True ∧ (True ∧ True ∧ True ∧ True ∧ True ∧ True ∧ True ∧ True ∧ True ∧ True ∧ True ∧ True ∧ True ∧ True ∧ True ∧ True ∧ True ∧ True ∧ True ∧ True) ∧ ((((((((((((((((((((True ∧ (0 : Int) = (0 : Int)) ∧ (0 : Int) = (0 : Int)) ∧ (0 : Int) = (0 : Int)) ∧ (0 : Int) = (0 : Int)) ∧ (0 : Int) = (0 : Int)) ∧ (0 : Int) = (0 : Int)) ∧ (0 : Int) = (0 : Int)) ∧ (0 : Int) = (0 : Int)) ∧ (0 : Int) = (0 : Int)) ∧ (0 : Int) = (0 : Int)) ∧ (0 : Int) = (0 : Int)) ∧ (-1 : Int) = (-1 : Int)) ∧ (-1 : Int) = (-1 : Int)) ∧ (-1 : Int) = (-1 : Int)) ∧ (-1 : Int) = (-1 : Int)) ∧ (0 : Int) = (0 : Int)) ∧ (0 : Int) = (0 : Int)) ∧ (-1 : Int) = (-1 : Int)) ∧ (0 : Int) = (0 : Int)) ∧ (0 : Int) = (0 : Int)) ∧ True
theorem q_blank : evBody Tryd.prog false glN (mkT []) Tryd.f29 (a_blank) (m_blank) [] (r_blank) (n_blank) = V_blank := by kernel_rfl
theorem pf_blank (hp : p_blank) : FnC Tryd.prog glN 29 (a_blank) (m_blank) (r_blank) (n_blank) := by
  refine fn_of sound_nil false Tryd.func29 [] (q_blank) ?_
  unfold V_blank
  simp [Run.blank]
theorem ok_blank : FnOK Tryd.prog glN 29 c_blank := fnOK_of (fun l w => Tryd.call29 l w) fun x_ hp => pf_blank hp
structure X_bitwise where
  a : Int
  b : Int
  op : Int
def a_bitwise (a : Int) (b : Int) (op : Int) : List SV := [.v (.int .i64 a), .v (.int .i64 b), .v (.int .i64 op)]
def m_bitwise (a : Int) (b : Int) (op : Int) : List Blk := []
def r_bitwise (a : Int) (b : Int) (op : Int) : SV := .v (.int .i64 (bitw op a.toNat b.toNat : Nat))
def n_bitwise (a : Int) (b : Int) (op : Int) : List Blk := []
def p_bitwise (a : Int) (b : Int) (op : Int) : Prop := 0 ≤ a ∧ a ≤ 65535 ∧ 0 ≤ b ∧ b ≤ 65535 ∧ (op = 6 ∨ op = 7 ∨ op = 8)
def s_bitwise : Sy.Spec where
  X := X_bitwise
  args x_ := a_bitwise x_.a x_.b x_.op
  mem x_ := m_bitwise x_.a x_.b x_.op
  pre x_ := p_bitwise x_.a x_.b x_.op
  res x_ := r_bitwise x_.a x_.b x_.op
  mem' x_ := n_bitwise x_.a x_.b x_.op
  dec args mem := match args with | [a0, a1, a2] => some ⟨intD (a0), intD (a1), intD (a2)⟩ | _ => none
def c_bitwise : Con := ⟨[], s_bitwise.g, none⟩
def an_bitwise (a b op : Int) : Ann where
  σ := Nat
  rt := []
  sh k := [(8, .v (.int .i64 (2 ^ k : Nat))), (7, .v (.int .i64 (bitw op a.toNat b.toNat % 2 ^ k : Nat)))]
  mh _ := []
  inv k := k ≤ 16
  μ k := 16 - k
  init := 0
def V_bitwise (a : Int) (b : Int) (op : Int) : Prop :=
  (1 : Int) = (↑((2 : Nat) ^ (0 : Nat)) : Int) ∧ (0 : Int) = (↑(bitw op (Int.toNat a) (Int.toNat b) % (2 : Nat) ^ (0 : Nat)) : Int) ∧ True ∧ (0 : Nat) ≤ (16 : Nat) ∧ ∀ (s : Nat), s ≤ (16 : Nat) → (decide ((↑((2 : Nat) ^ s) : Int) < (65536 : Int)) = true → ((0 : Int) ≤ a ∧ (0 : Int) < (↑((2 : Nat) ^ s) : Int) ∧ IntKind.wrap IntKind.i64 (a / (↑((2 : Nat) ^ s) : Int)) = a / (↑((2 : Nat) ^ s) : Int)) ∧ ((0 : Int) ≤ a / (↑((2 : Nat) ^ s) : Int) ∧ (0 : Int) < (2 : Int)) ∧ ((0 : Int) ≤ b ∧ (0 : Int) < (↑((2 : Nat) ^ s) : Int) ∧ IntKind.wrap IntKind.i64 (b / (↑((2 : Nat) ^ s) : Int)) = b / (↑((2 : Nat) ^ s) : Int)) ∧ ((0 : Int) ≤ b / (↑((2 : Nat) ^ s) : Int) ∧ (0 : Int) < (2 : Int)) ∧ ((op == (6 : Int)) = true → IntKind.wrap IntKind.i64 (a / (↑((2 : Nat) ^ s) : Int) % (2 : Int) + b / (↑((2 : Nat) ^ s) : Int) % (2 : Int)) = a / (↑((2 : Nat) ^ s) : Int) % (2 : Int) + b / (↑((2 : Nat) ^ s) : Int) % (2 : Int)) ∧ ((op == (7 : Int)) = true → (bif op == (6 : Int) then a / (↑((2 : Nat) ^ s) : Int) % (2 : Int) + b / (↑((2 : Nat) ^ s) : Int) % (2 : Int) == (2 : Int) else false) = false → IntKind.wrap IntKind.i64 (a / (↑((2 : Nat) ^ s) : Int) % (2 : Int) + b / (↑((2 : Nat) ^ s) : Int) % (2 : Int)) = a / (↑((2 : Nat) ^ s) : Int) % (2 : Int) + b / (↑((2 : Nat) ^ s) : Int) % (2 : Int)) ∧ ((op == (8 : Int)) = true → (bif bif op == (6 : Int) then a / (↑((2 : Nat) ^ s) : Int) % (2 : Int) + b / (↑((2 : Nat) ^ s) : Int) % (2 : Int) == (2 : Int) else false then true else bif op == (7 : Int) then decide
    ((0 : Int) < a / (↑((2 : Nat) ^ s) : Int) % (2 : Int) + b / (↑((2 : Nat) ^ s) : Int) % (2 : Int)) else false) = false → IntKind.wrap IntKind.i64 (a / (↑((2 : Nat) ^ s) : Int) % (2 : Int) + b / (↑((2 : Nat) ^ s) : Int) % (2 : Int)) = a / (↑((2 : Nat) ^ s) : Int) % (2 : Int) + b / (↑((2 : Nat) ^ s) : Int) % (2 : Int)) ∧ ((bif bif bif op == (6 : Int) then a / (↑((2 : Nat) ^ s) : Int) % (2 : Int) + b / (↑((2 : Nat) ^ s) : Int) % (2 : Int) == (2 : Int) else false then true else bif op == (7 : Int) then decide ((0 : Int) < a / (↑((2 : Nat) ^ s) : Int) % (2 : Int) + b / (↑((2 : Nat) ^ s) : Int) % (2 : Int)) else false then true else bif op == (8 : Int) then a / (↑((2 : Nat) ^ s) : Int) % (2 : Int) + b / (↑((2 : Nat) ^ s) : Int) % (2 : Int) == (1 : Int) else false) = true → IntKind.wrap IntKind.i64 ((↑(bitw op (Int.toNat a) (Int.toNat b) % (2 : Nat) ^ s) : Int) + (↑((2 : Nat) ^ s) : Int)) = (↑(bitw op (Int.toNat a) (Int.toNat b) % (2 : Nat) ^ s) : Int) + (↑((2 : Nat) ^ s) : Int) ∧ IntKind.wrap IntKind.i64 ((↑((2 : Nat) ^ s) : Int) * (2 : Int)) = (↑((2 : Nat) ^ s) : Int) * (2 : Int) ∧ ∃ (s' : Nat), (↑((2 : Nat) ^ s) : Int) * (2 : Int) = (↑((2 : Nat) ^ s') : Int) ∧ (↑(bitw op (Int.toNat a) (Int.toNat b) % (2 : Nat) ^ s) : Int) + (↑((2 : Nat) ^ s) : Int) = (↑(bitw op (Int.toNat a) (Int.toNat b) % (2 : Nat) ^ s') : Int) ∧ True ∧ s' ≤ (16 : Nat) ∧ (16 : Nat) - s' < (16 : Nat) - s) ∧ ((bif bif bif op == (6 : Int) then a / (↑((2 : Nat) ^ s) : Int) % (2 : Int) + b / (↑((2 : Nat) ^ s) :
    Int) % (2 : Int) == (2 : Int) else false then true else bif op == (7 : Int) then decide ((0 : Int) < a / (↑((2 : Nat) ^ s) : Int) % (2 : Int) + b / (↑((2 : Nat) ^ s) : Int) % (2 : Int)) else false then true else bif op == (8 : Int) then a / (↑((2 : Nat) ^ s) : Int) % (2 : Int) + b / (↑((2 : Nat) ^ s) : Int) % (2 : Int) == (1 : Int) else false) = false → IntKind.wrap IntKind.i64 ((↑((2 : Nat) ^ s) : Int) * (2 : Int)) = (↑((2 : Nat) ^ s) : Int) * (2 : Int) ∧ ∃ (s' : Nat), (↑((2 : Nat) ^ s) : Int) * (2 : Int) = (↑((2 : Nat) ^ s') : Int) ∧ (↑(bitw op (Int.toNat a) (Int.toNat b) % (2 : Nat) ^ s) : Int) = (↑(bitw op (Int.toNat a) (Int.toNat b) % (2 : Nat) ^ s') : Int) ∧ True ∧ s' ≤ (16 : Nat) ∧ (16 : Nat) - s' < (16 : Nat) - s)) ∧ (decide ((↑((2 : Nat) ^ s) : Int) < (65536 : Int)) = false → (↑(bitw op (Int.toNat a) (Int.toNat b) % (2 : Nat) ^ s) : Int) = (↑(bitw op (Int.toNat a) (Int.toNat b)) : Int) ∧ True)
theorem q_bitwise (a : Int) (b : Int) (op : Int) : evBody Tryd.prog false glN (mkT []) Tryd.f72 (a_bitwise a b op) (m_bitwise a b op) [.inv (an_bitwise a b op)] (r_bitwise a b op) (n_bitwise a b op) = V_bitwise a b op := by kernel_rfl
theorem pf_bitwise (a : Int) (b : Int) (op : Int) (hp : p_bitwise a b op) : FnC Tryd.prog glN 72 (a_bitwise a b op) (m_bitwise a b op) (r_bitwise a b op) (n_bitwise a b op) := by
  refine fn_of sound_nil false Tryd.func72 [.inv (an_bitwise a b op)] (q_bitwise a b op) ?_
  unfold V_bitwise
  unfold p_bitwise at hp
  obtain ⟨a0, a1, b0, b1, ho⟩ := hp
  obtain ⟨A, rfl⟩ : ∃ A : Nat, a = A := ⟨a.toNat, by omega⟩
  obtain ⟨B, rfl⟩ : ∃ B : Nat, b = B := ⟨b.toNat, by omega⟩
  simp only [Int.toNat_natCast]
  refine ⟨by simp, by simp [Nat.mod_one], trivial, by omega, fun s hs => ⟨fun h => ?_, fun h => ?_⟩⟩
  · have h15 : s ≤ 15 := by
      rcases Nat.lt_or_ge s 16 with h1 | h1
      · omega
      · obtain rfl : s = 16 := by omega
        simp at h
    have hst := bitw_step ho A B s
    have hlt : bitw op A B % 2 ^ s < 2 ^ s := Nat.mod_lt _ (Nat.two_pow_pos s)
    have hp1 : 2 ^ (s + 1) = 2 ^ s * 2 := Nat.pow_succ 2 s
    have hp0 := Nat.two_pow_pos s
    have hp2 : 2 ^ s ≤ 2 ^ 15 := Nat.pow_le_pow_right (by omega) h15
    have ha : A / 2 ^ s ≤ A := Nat.div_le_self _ _
    have hb : B / 2 ^ s ≤ B := Nat.div_le_self _ _
    have ea : (A : Int) / ((2 ^ s : Nat) : Int) = ((A / 2 ^ s : Nat) : Int) := (Int.natCast_ediv _ _).symm
    have eb : (B : Int) / ((2 ^ s : Nat) : Int) = ((B / 2 ^ s : Nat) : Int) := (Int.natCast_ediv _ _).symm
    rw [ea, eb]
    have ea2 : ((A / 2 ^ s : Nat) : Int) % 2 = ((A / 2 ^ s % 2 : Nat) : Int) := by omega
    have eb2 : ((B / 2 ^ s : Nat) : Int) % 2 = ((B / 2 ^ s % 2 : Nat) : Int) := by omega
    rw [ea2, eb2]
    have hx : A / 2 ^ s % 2 < 2 := Nat.mod_lt _ (by omega)
    have hy : B / 2 ^ s % 2 < 2 := Nat.mod_lt _ (by omega)
    clear ea eb ea2 eb2
    generalize hX : A / 2 ^ s % 2 = X at *
    generalize hY : B / 2 ^ s % 2 = Y at *
    have hbit : (bif bif bif op == 6 then (X : Int) + (Y : Int) == 2 else false then true else bif op == 7 then decide ((0 : Int) < (X : Int) + (Y : Int)) else false then true else bif op == 8 then (X : Int) + (Y : Int) == 1 else false) = bitOf op X Y := by
      unfold bitOf
      cases op == 6 <;> cases op == 7 <;> cases op == 8 <;> simp
    rw [hbit]
    have hw : ∀ z : Int, 0 ≤ z → z ≤ 131072 → IntKind.i64.wrap z = z := fun z _ _ => by rw [IntKind.wrap_i64]; omega
    generalize bitw op A B = W at *
    generalize A / 2 ^ s = DA at *
    generalize B / 2 ^ s = DB at *
    generalize 2 ^ s = p at *
    refine ⟨⟨by omega, by omega, hw _ (by omega) (by omega)⟩, ⟨by omega, by omega⟩, ⟨by omega, by omega, hw _ (by omega) (by omega)⟩, ⟨by omega, by omega⟩, fun _ => hw _ (by omega) (by omega), fun _ _ => hw _ (by omega) (by omega), fun _ _ => hw _ (by omega) (by omega), fun hq => ?_, fun hq => ?_⟩
    · rw [hq] at hst
      exact ⟨hw _ (by omega) (by omega), hw _ (by omega) (by omega), s + 1, by rw [hp1]; omega, by rw [hst]; simp, trivial, by omega, by omega⟩
    · rw [hq] at hst
      exact ⟨hw _ (by omega) (by omega), s + 1, by rw [hp1]; omega, by rw [hst]; simp, trivial, by omega, by omega⟩
  · have h16 : s = 16 := by
      rcases Nat.lt_or_ge s 16 with h1 | h1
      · exfalso
        have hp2 : 2 ^ s ≤ 2 ^ 15 := Nat.pow_le_pow_right (by omega) (by omega)
        generalize 2 ^ s = p at *
        simp at h; omega
      · omega
    subst h16
    rw [Nat.mod_eq_of_lt (bitw_lt (by omega) (by omega))]
    exact ⟨rfl, trivial⟩
theorem ok_bitwise : FnOK Tryd.prog glN 72 c_bitwise := fnOK_of (fun l w => Tryd.call72 l w) fun x_ hp => pf_bitwise x_.a x_.b x_.op hp
structure X_fload where
  n : Nat
  ram : Nat → Int
  low : Int
  x : Int
def a_fload (n : Nat) (ram : Nat → Int) (low : Int) (x : Int) : List SV := [.pt true 2 (lsv [.sl true 1 n (fun i _ => .v (.int .i64 (ram i))), .v (.int .i64 low)]), .v (.int .i64 x)]
def m_fload (n : Nat) (ram : Nat → Int) (low : Int) (x : Int) : List Blk := []
def r_fload (n : Nat) (ram : Nat → Int) (low : Int) (x : Int) : SV := .tp 2 (lsv [.v (.int .i64 (bif rdOk n x then ram x.toNat else 0)), .v (.bool (rdOk n x))])
def n_fload (n : Nat) (ram : Nat → Int) (low : Int) (x : Int) : List Blk := []
def p_fload (n : Nat) (ram : Nat → Int) (low : Int) (x : Int) : Prop := True
def s_fload : Sy.Spec where
  X := X_fload
  args x_ := a_fload x_.n x_.ram x_.low x_.x
  mem x_ := m_fload x_.n x_.ram x_.low x_.x
  pre x_ := p_fload x_.n x_.ram x_.low x_.x
  res x_ := r_fload x_.n x_.ram x_.low x_.x
  mem' x_ := n_fload x_.n x_.ram x_.low x_.x
  dec args mem := match args with | [a0, a1] => some ⟨slN (ptF a0 0), fun i => intD (slF (ptF a0 0) i 0), intD (ptF a0 1), intD (a1)⟩ | _ => none
def c_fload : Con := ⟨[], s_fload.g, none⟩
def V_fload (n : Nat) (ram : Nat → Int) (low : Int) (x : Int) : Prop :=
  ((bif decide (x < (0 : Int)) then true else decide ((↑n : Int) ≤ x)) = true → ((True ∧ (0 : Int) = bif rdOk n x then ram (Int.toNat x) else (0 : Int)) ∧ false = rdOk n x) ∧ True) ∧ ((bif decide (x < (0 : Int)) then true else decide ((↑n : Int) ≤ x)) = false → ((0 : Int) ≤ x ∧ x < (↑n : Int)) ∧ ((True ∧ ram (Int.toNat x) = bif rdOk n x then ram (Int.toNat x) else (0 : Int)) ∧ true = rdOk n x) ∧ True)
theorem q_fload (n : Nat) (ram : Nat → Int) (low : Int) (x : Int) : evBody Tryd.prog false glN (mkT []) Tryd.f34 (a_fload n ram low x) (m_fload n ram low x) [] (r_fload n ram low x) (n_fload n ram low x) = V_fload n ram low x := by kernel_rfl
theorem pf_fload (n : Nat) (ram : Nat → Int) (low : Int) (x : Int) (hp : p_fload n ram low x) : FnC Tryd.prog glN 34 (a_fload n ram low x) (m_fload n ram low x) (r_fload n ram low x) (n_fload n ram low x) := by
  refine fn_of sound_nil false Tryd.func34 [] (q_fload n ram low x) ?_
  unfold V_fload
  have e : rdOk n x = !(bif decide (x < (0 : Int)) then true else decide ((n : Int) ≤ x)) := by
    unfold rdOk
    by_cases h1 : x < 0 <;> by_cases h2 : (n : Int) ≤ x <;> simp [h1, h2] <;> omega
  refine ⟨fun h => ?_, fun h => ?_⟩
  all_goals rw [h] at e
  · simp [e]
  · have h2 : 0 ≤ x ∧ x < n := by unfold rdOk at e; simpa using e
    simp [e, h2]
theorem ok_fload : FnOK Tryd.prog glN 34 c_fload := fnOK_of (fun l w => Tryd.call34 l w) fun x_ hp => pf_fload x_.n x_.ram x_.low x_.x hp
structure X_fstore where
  x : Int
  v : Int
  n : Nat
  ram : Nat → Int
  low : Int
def a_fstore (x : Int) (v : Int) (n : Nat) (ram : Nat → Int) (low : Int) : List SV := [.ptr 0 0 none 0 0, .v (.int .i64 x), .v (.int .i64 v)]
def m_fstore (x : Int) (v : Int) (n : Nat) (ram : Nat → Int) (low : Int) : List Blk := flatM n ram low
def r_fstore (x : Int) (v : Int) (n : Nat) (ram : Nat → Int) (low : Int) : SV := .v (.bool (wrOk n low x))
def n_fstore (x : Int) (v : Int) (n : Nat) (ram : Nat → Int) (low : Int) : List Blk := flatM n (bif wrOk n low x then wrF ram x v else ram) low
def p_fstore (x : Int) (v : Int) (n : Nat) (ram : Nat → Int) (low : Int) : Prop := 0 ≤ low
def s_fstore : Sy.Spec where
  X := X_fstore
  args x_ := a_fstore x_.x x_.v x_.n x_.ram x_.low
  mem x_ := m_fstore x_.x x_.v x_.n x_.ram x_.low
  pre x_ := p_fstore x_.x x_.v x_.n x_.ram x_.low
  res x_ := r_fstore x_.x x_.v x_.n x_.ram x_.low
  mem' x_ := n_fstore x_.x x_.v x_.n x_.ram x_.low
  dec args mem := match args with | [a0, a1, a2] => some ⟨intD (a1), intD (a2), rowN mem 1, fun i => intD (rowF mem 1 i 0), intD (celF mem 0 1)⟩ | _ => none
def c_fstore : Con := ⟨[true], s_fstore.g, none⟩
def V_fstore (x : Int) (v : Int) (n : Nat) (ram : Nat → Int) (low : Int) : Prop :=
  ((bif decide (x < low) then true else decide ((↑n : Int) ≤ x)) = true → false = wrOk n low x ∧ ((True ∧ (0 : Nat) = (0 : Nat) ∧ n = n) ∧ low = low) ∧ (n = n ∧ ∀ (i : Nat), i < n → True ∧ ram i = (bif wrOk n low x then wrF ram x v else ram) i) ∧ True) ∧ ((bif decide (x < low) then true else decide ((↑n : Int) ≤ x)) = false → ((0 : Int) ≤ x ∧ x < (↑n : Int)) ∧ (∀ (i' : Nat), false = false) ∧ true = wrOk n low x ∧ ((True ∧ (0 : Nat) = (0 : Nat) ∧ n = n) ∧ low = low) ∧ (n = n ∧ ∀ (i : Nat), i < n → True ∧ (bif Nat.beq i ((0 : Nat) + Int.toNat x) then v else ram i) = (bif wrOk n low x then wrF ram x v else ram) i) ∧ True)
theorem q_fstore (x : Int) (v : Int) (n : Nat) (ram : Nat → Int) (low : Int) : evBody Tryd.prog false glN (mkT []) Tryd.f35 (a_fstore x v n ram low) (m_fstore x v n ram low) [] (r_fstore x v n ram low) (n_fstore x v n ram low) = V_fstore x v n ram low := by kernel_rfl
theorem pf_fstore (x : Int) (v : Int) (n : Nat) (ram : Nat → Int) (low : Int) (hp : p_fstore x v n ram low) : FnC Tryd.prog glN 35 (a_fstore x v n ram low) (m_fstore x v n ram low) (r_fstore x v n ram low) (n_fstore x v n ram low) := by
  refine fn_of sound_nil false Tryd.func35 [] (q_fstore x v n ram low) ?_
  unfold V_fstore
  unfold p_fstore at hp
  have e : wrOk n low x = !(bif decide (x < low) then true else decide ((n : Int) ≤ x)) := by
    unfold wrOk
    by_cases h1 : x < low <;> by_cases h2 : (n : Int) ≤ x <;> simp [h1, h2] <;> omega
  refine ⟨fun h => ?_, fun h => ?_⟩
  all_goals rw [h] at e
  · simp [e]
  · have h2 : low ≤ x ∧ x < n := by unfold wrOk at e; simpa using e
    simp [e]
    refine ⟨by omega, fun i _ => rfl⟩
theorem ok_fstore : FnOK Tryd.prog glN 35 c_fstore := fnOK_of (fun l w => Tryd.call35 l w) fun x_ hp => pf_fstore x_.x x_.v x_.n x_.ram x_.low hp
end Go.Proofs.YtfmaeiilbhpepaaDoor
