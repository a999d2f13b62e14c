/- What a sound world is: as data. -/
import Derived.Test.YtfmaeiilbhpepaaDoorYG1
set_option linter.unusedVariables false
set_option linter.unusedSimpArgs false
set_option linter.unusedVariables false
set_option linter.unusedSimpArgs false
set_option maxRecDepth 100000
namespace Go.Proofs.YtfmaeiilbhpepaaDoor
open Go.RowKit Go.Sy
/-- How often. -/
def cntB : Nat → (Nat → Bool) → Nat
  | 0, _ => 0
  | n + 1, p => cntB n p + (bif p n then 1 else 0)
def anyB (n : Nat) (p : Nat → Bool) : Bool := !allB n fun i => !p i
theorem cntB_le (p : Nat → Bool) : ∀ n, cntB n p ≤ n
  | 0 => Nat.le_refl _
  | n + 1 => by have := cntB_le p n; unfold cntB; cases p n <;> simp <;> omega
theorem cntB_pos {p : Nat → Bool} : ∀ {n i : Nat}, i < n → p i = true → 0 < cntB n p
  | 0, i, h, _ => absurd h (by omega)
  | n + 1, i, h, hp => by
    unfold cntB
    rcases Nat.lt_or_ge i n with h1 | h1
    · have := cntB_pos h1 hp; omega
    · obtain rfl : i = n := by omega
      rw [hp]; simp
theorem anyB_iff {n : Nat} {p : Nat → Bool} : anyB n p = true ↔ ∃ i, i < n ∧ p i = true := by
  unfold anyB
  cases h : allB n fun i => !p i with
  | true =>
    simp only [Bool.not_true, Bool.false_eq_true, false_iff]
    rintro ⟨i, hi, hp⟩
    have := allB_iff.1 h i hi
    simp [hp] at this
  | false =>
    simp only [Bool.not_false, true_iff]
    refine Classical.byContradiction fun hn => ?_
    rw [allB_iff.2] at h
    · cases h
    · intro i hi
      cases hp : p i
      · rfl
      · exact absurd ⟨i, hi, hp⟩ hn
theorem anyB_false {n : Nat} {p : Nat → Bool} : anyB n p = false ↔ ∀ i, i < n → p i = false := by
  constructor
  · intro h i hi
    cases hp : p i
    · rfl
    · rw [anyB_iff.2 ⟨i, hi, hp⟩] at h; cases h
  · intro h
    cases hq : anyB n p
    · rfl
    · obtain ⟨i, hi, hp⟩ := anyB_iff.1 hq
      rw [h i hi] at hp; cases hp
theorem anyB_succ (n : Nat) (p : Nat → Bool) : anyB (n + 1) p = (anyB n p || p n) := by
  show (!(allB n (fun i => !p i) && !p n)) = (!allB n (fun i => !p i) || p n)
  cases allB n (fun i => !p i) <;> cases p n <;> rfl
def sumN : Nat → (Nat → Nat) → Nat
  | 0, _ => 0
  | n + 1, f => sumN n f + f n
theorem sumN_le {f : Nat → Nat} {b : Nat} : ∀ {n : Nat}, (∀ i, i < n → f i ≤ b) → sumN n f ≤ n * b
  | 0, _ => by simp [sumN]
  | n + 1, h => by
    have h1 := sumN_le (n := n) fun i hi => h i (by omega)
    have h2 := h n (by omega)
    unfold sumN; rw [Nat.succ_mul]; omega
/-- The first for which something holds, or else the rest. -/
def fstE (n : Nat) (p : Nat → Bool) (e : Int) (r : Int × Int) : Int × Int := bif Nat.blt (fstB n p) n then (e, ((fstB n p : Nat) : Int)) else r
theorem fstE_at {n i : Nat} {p : Nat → Bool} {e : Int} {r : Int × Int} (hb : ∀ j, j < i → p j = false) (hp : p i = true) (hi : i < n) : fstE n p e r = (e, ((i : Nat) : Int)) := by
  unfold fstE; rw [fstB_at hb hp hi, blt_t hi]; rfl
theorem fstE_none {n : Nat} {p : Nat → Bool} {e : Int} {r : Int × Int} (h : ∀ j, j < n → p j = false) : fstE n p e r = r := by
  unfold fstE; rw [fstB_none h, blt_f (Nat.le_refl _)]; rfl
theorem fstB_spec {p : Nat → Bool} : ∀ {n : Nat}, fstB n p < n → p (fstB n p) = true ∧ ∀ j, j < fstB n p → p j = false := by
  intro n h
  rcases Classical.em (∃ i, i < n ∧ p i = true) with hx | hx
  · -- the least one
    have key : ∀ k i, i ≤ k → i < n → p i = true → ∃ m, m < n ∧ p m = true ∧ ∀ j, j < m → p j = false := by
      intro k
      induction k with
      | zero =>
        intro i hi hn hp
        exact ⟨i, hn, hp, fun j hj => absurd hj (by omega)⟩
      | succ k ih =>
        intro i hi hn hp
        rcases Classical.em (∃ j, j < i ∧ p j = true) with ⟨j, hj, hpj⟩ | hno
        · exact ih j (by omega) (by omega) hpj
        · refine ⟨i, hn, hp, fun j hj => ?_⟩
          cases hq : p j
          · rfl
          · exact absurd ⟨j, hj, hq⟩ hno
    obtain ⟨i, hi, hp⟩ := hx
    obtain ⟨m, h1, h2, h3⟩ := key i i (Nat.le_refl _) hi hp
    rw [fstB_at h3 h2 h1]
    exact ⟨h2, h3⟩
  · have : ∀ j, j < n → p j = false := fun j hj => by
      cases hq : p j
      · rfl
      · exact absurd ⟨j, hj, hq⟩ hx
    rw [fstB_none this] at h
    omega
theorem fstB_lt {n i : Nat} {p : Nat → Bool} (hi : i < n) (hp : p i = true) : fstB n p < n := by
  rcases Nat.lt_or_ge (fstB n p) n with h | h
  · exact h
  · have e : fstB n p = n := Nat.le_antisymm (fstB_le p n) h
    rcases Classical.em (∃ j, j < i + 1 ∧ p j = true ∧ ∀ k, k < j → p k = false) with ⟨j, h1, h2, h3⟩ | hno
    · rw [fstB_at h3 h2 (by omega)] at h; omega
    · exfalso
      have : ∀ k, k < i + 1 → p k = false := by
        intro k
        induction k using Nat.strongRecOn with
        | _ k ih =>
          intro hk
          cases hq : p k
          · rfl
          · exact absurd ⟨k, hk, hq, fun j hj => ih j hj (by omega)⟩ hno
      rw [this i (by omega)] at hp; cases hp
theorem fstE_congr {n : Nat} {p q : Nat → Bool} {e : Int} {r r' : Int × Int} (h : ∀ i, i < n → p i = q i) (hr : (∀ i, i < n → p i = false) → r = r') : fstE n p e r = fstE n q e r' := by
  rcases Nat.lt_or_ge (fstB n p) n with h1 | h1
  · obtain ⟨h2, h3⟩ := fstB_spec h1
    rw [fstE_at h3 h2 h1, fstE_at (p := q) (fun j hj => by rw [← h j (by omega)]; exact h3 j hj) (by rw [← h _ h1]; exact h2) h1]
  · have : ∀ i, i < n → p i = false := fun i hi => by
      cases hq : p i
      · rfl
      · have := fstB_lt hi hq; omega
    rw [fstE_none this, fstE_none (fun j hj => by rw [← h j hj]; exact this j hj), hr this]
theorem fstE_zero {n : Nat} {p : Nat → Bool} {e : Int} {r : Int × Int} (he : e ≠ 0) (h : (fstE n p e r).1 = 0) : (∀ i, i < n → p i = false) ∧ r.1 = 0 := by
  rcases Nat.lt_or_ge (fstB n p) n with h1 | h1
  · obtain ⟨h2, h3⟩ := fstB_spec h1
    rw [fstE_at h3 h2 h1] at h; exact absurd h he
  · have : ∀ i, i < n → p i = false := fun i hi => by
      cases hq : p i
      · rfl
      · have := fstB_lt hi hq; omega
    rw [fstE_none this] at h
    exact ⟨this, h⟩
/-- The kind of a frame; -1: none. -/
def kof (W : Wd) (f : Int) : Int := bif decide (f < 0) || decide ((W.nKinds : Int) ≤ f) then -1 else W.kinds f.toNat
theorem kof_in {W : Wd} {f : Int} (h : kof W f ≠ -1) : 0 ≤ f ∧ f < W.nKinds := by
  unfold kof at h
  cases h1 : decide (f < 0) <;> cases h2 : decide ((W.nKinds : Int) ≤ f) <;> simp [h1, h2] at h <;> simp at h1 h2 <;> omega
theorem kof_eq {W : Wd} {f : Int} (h : 0 ≤ f ∧ f < W.nKinds) : kof W f = W.kinds f.toNat := by
  unfold kof; rw [decide_eq_false (by omega), decide_eq_false (by omega)]; rfl
theorem kof_out {W : Wd} {f : Int} (h : f < 0 ∨ W.nKinds ≤ f) : kof W f = -1 := by
  unfold kof
  rcases h with h | h
  · rw [decide_eq_true h]; rfl
  · rw [decide_eq_true h]; cases decide (f < 0) <;> rfl
/-- Sizes that do not fit. -/
def szBad (W : Wd) : Bool :=
  decide (W.nKinds < 1) || decide (24 < W.nKinds) || decide (W.nCores < 1) || decide (4 < W.nCores) || W.nRam != W.nKinds * 16 || W.nSlots != W.nKinds * 16 || W.nTasks != W.nKinds || W.nLines != W.nKinds || W.nBits != W.nKinds || W.nReady != W.nCores * 4 || W.nTlbs != W.nCores || decide (W.nDoms < 1) || decide (8 < W.nDoms) || farB W.time 1000000
structure Szd (W : Wd) : Prop where
  k0 : 1 ≤ W.nKinds
  k1 : W.nKinds ≤ 24
  c0 : 1 ≤ W.nCores
  c1 : W.nCores ≤ 4
  ram : W.nRam = W.nKinds * 16
  slots : W.nSlots = W.nKinds * 16
  tasks : W.nTasks = W.nKinds
  lines : W.nLines = W.nKinds
  bits : W.nBits = W.nKinds
  ready : W.nReady = W.nCores * 4
  tlbs : W.nTlbs = W.nCores
  d0 : 1 ≤ W.nDoms
  d1 : W.nDoms ≤ 8
  t0 : 0 ≤ W.time
  t1 : W.time ≤ 1000000
theorem szd_of {W : Wd} (h : szBad W = false) : Szd W := by
  unfold szBad farB at h
  simp only [Bool.or_eq_false_iff, decide_eq_false_iff_not, bne_eq_false_iff_eq] at h
  obtain ⟨⟨⟨⟨⟨⟨⟨⟨⟨⟨⟨⟨⟨h1, h2⟩, h3⟩, h4⟩, h5⟩, h6⟩, h7⟩, h8⟩, h9⟩, h10⟩, h11⟩, h12⟩, h13⟩, h14, h15⟩ := h
  exact ⟨by omega, by omega, by omega, by omega, h5, h6, h7, h8, h9, h10, h11, by omega, by omega, by omega, by omega⟩
/-- Lists of lists that are not huge. -/
def smB (W : Wd) : Prop := (∀ i, i < W.nLines → W.linesN i ≤ 50) ∧ (∀ i, i < W.nReady → W.readyN i ≤ 50) ∧ (∀ i, i < W.nTlbs → W.tlbsN i ≤ 50)
def slNo (s : Slt) : Int := keyNo s.kind s.base s.len s.mark s.rights s.badge
/-- Is it a slot? -/
def inS (W : Wd) (u : Int) : Bool := decide (0 ≤ u) && decide (u < W.nSlots)
def upS (W : Wd) (u : Int) : Int := bif inS W u then (W.slots u.toNat).from_ else u
def upK (W : Wd) (u : Int) : Nat → Int
  | 0 => u
  | k + 1 => upS W (upK W u k)
def madeB (k p : Slt) : Bool :=
  slNo p == 0 && bif p.kind == 1 then k.kind != 1 && decide (p.base ≤ k.base) && decide (k.base - p.base < p.mark) else k.kind == p.kind && k.base == p.base && (p.badge == 0 || p.badge == k.badge) && (((bitw 6 p.rights.toNat k.rights.toNat : Nat) : Int) == k.rights)
/-- E4. -/
def slBs (W : Wd) (i : Nat) (s : Slt) : Bool :=
  bif s.kind == 0 then slNo s == 0 && s.from_ == -1 else
  W.kinds (i / 16) == 5 && slNo s == 0 && decide (s.base + s.len ≤ W.nKinds) && (s.kind == 1 || W.kinds s.base.toNat == s.kind) &&
  (s.from_ == -1 || (inS W s.from_ && madeB s (W.slots s.from_.toNat) && !inS W (upK W s.from_ W.nSlots)))
def slB (W : Wd) (i : Nat) : Bool := slBs W i (W.slots i)
theorem slBs_no {W : Wd} {i : Nat} {s : Slt} (h : slBs W i s = true) : slNo s = 0 := by
  unfold slBs at h
  cases hk : s.kind == 0 <;> simp only [hk, cond_true, cond_false, Bool.and_eq_true, beq_iff_eq] at h
  · exact h.1.1.1.2
  · exact h.1
theorem slNo_range {s : Slt} (h : slNo s = 0) : 0 ≤ s.kind ∧ s.kind ≤ 8 ∧ 0 ≤ s.base ∧ s.base ≤ 24 ∧ 0 ≤ s.len ∧ s.len ≤ 24 ∧ 0 ≤ s.mark ∧ s.mark ≤ 24 ∧ 0 ≤ s.rights ∧ s.rights ≤ 7 ∧ 0 ≤ s.badge ∧ s.badge ≤ 65535 := keyNo_range h
theorem snocF {p : Nat → Bool} {i : Nat} (h : ∀ j, j < i → p j = false) (hi : p i = false) : ∀ j, j < i + 1 → p j = false := by
  intro j hj
  rcases Nat.lt_or_ge j i with h3 | h3
  · exact h j h3
  · obtain rfl : j = i := by omega
    exact hi
theorem upS_in {W : Wd} {u : Int} (h : inS W u = true) : upS W u = (W.slots u.toNat).from_ := by unfold upS; rw [h]; rfl
theorem upS_out {W : Wd} {u : Int} (h : inS W u = false) : upS W u = u := by unfold upS; rw [h]; rfl
theorem inS_iff {W : Wd} {u : Int} : inS W u = true ↔ 0 ≤ u ∧ u < W.nSlots := by unfold inS; simp
theorem upK_out {W : Wd} {u : Int} {k : Nat} (h : inS W (upK W u k) = false) : ∀ {m : Nat}, k ≤ m → upK W u m = upK W u k
  | m, hm => by
    induction m with
    | zero => obtain rfl : k = 0 := by omega
              rfl
    | succ m ih =>
      rcases Nat.lt_or_ge m k with h1 | h1
      · obtain rfl : k = m + 1 := by omega
        rfl
      · show upS W (upK W u m) = _
        rw [ih h1, upS_out h]
def clayAt (s : Slt) (f : Nat) : Bool := s.kind == 1 && decide (s.base ≤ f) && decide ((f : Int) < s.base + s.len)
def freeAt (s : Slt) (f : Nat) : Bool := clayAt s f && decide (s.base + s.mark ≤ f)
def keyAt (s : Slt) (f : Nat) : Bool := s.kind != 1 && s.kind != 0 && s.base == f
/-- E5. -/
def frB (W : Wd) (f : Nat) : Bool :=
  decide (cntB W.nSlots (fun i => clayAt (W.slots i) f) ≤ 1) && (W.kinds f == 0 || (decide (0 < cntB W.nSlots fun i => keyAt (W.slots i) f) && !anyB W.nSlots fun i => freeAt (W.slots i) f))
def cntL (n : Nat) (l : Nat → Int) (x : Int) : Nat := cntB n fun k => l k == x
def cntLL (n : Nat) (ln : Nat → Nat) (l : Nat → Nat → Int) (x : Int) : Nat := sumN n fun i => cntL (ln i) (l i) x
def inB' (n : Nat) (l : Nat → Int) (x : Int) : Bool := anyB n fun k => l k == x
def regFar (t : Run) : Bool := farB t.r0 65535 || farB t.r1 65535 || farB t.r2 65535 || farB t.r3 65535 || farB t.r4 65535 || farB t.r5 65535 || farB t.r6 65535 || farB t.r7 65535
def numFar (W : Wd) (t : Run) : Bool := farB t.pc 65535 || farB t.word 65535 || farB t.badge 65535 || farB t.st 6 || farB t.prio 3 || farB t.core (W.nCores - 1) || farB t.dom 3
def okF (W : Wd) (f k : Int) : Bool := f == -1 || kof W f == k
def refOK (W : Wd) (t : Run) : Bool := okF W t.node 5 && okF W t.space 4 && okF W t.helper 7 && okF W t.owes 6
def owesOK (W : Wd) (t : Run) : Bool := t.owes == -1 || ((W.tasks t.owes.toNat).st == 5 && t.st != 4)
def owed (W : Wd) (f : Nat) : Nat := cntB W.nTasks fun i => (W.tasks i).owes == f
def owedOK (W : Wd) (f : Nat) : Bool := decide (owed W f ≤ 1) && ((owed W f == 1) == ((W.tasks f).st == 5))
def stands (W : Wd) (f : Nat) : Nat := cntLL W.nLines W.linesN W.lines f
def turnsN (W : Wd) (f : Nat) : Nat := cntLL W.nReady W.readyN W.ready f + cntL W.nCores W.cores f
def standOK (W : Wd) (f : Nat) (k : Int) : Bool := (stands W f == 1) && (turnsN W f == 0) && kof W (W.tasks f).loc == k && inB' (W.linesN (W.tasks f).loc.toNat) (W.lines (W.tasks f).loc.toNat) f
def stOK (W : Wd) (f : Nat) : Bool :=
  let s := (W.tasks f).st
  bif s == 2 || s == 3 || s == 4 then standOK W f 7 else bif s == 6 then standOK W f 8 else
  bif s == 1 then (stands W f == 0) && (turnsN W f == 1) && (W.tasks f).loc == -1 else (stands W f == 0) && (turnsN W f == 0) && (W.tasks f).loc == -1
/-- E6. -/
def tkB (W : Wd) (f : Nat) : Bool :=
  let t := W.tasks f
  bif W.kinds f != 6 then runEq t Run.blank else !regFar t && !numFar W t && refOK W t && owesOK W t && owedOK W f && stOK W f
def wtB (W : Wd) (t : Int) : Bool := (W.tasks t.toNat).st == 4
def lnTest (W : Wd) (f : Nat) (t : Int) : Bool := kof W t == 6 && (W.tasks t.toNat).loc == f && (wtB W t == wtB W (W.lines f 0))
/-- E7. -/
def lnB (W : Wd) (f : Nat) : Bool :=
  !(decide (0 < W.linesN f) && W.kinds f != 7 && W.kinds f != 8) && !(W.bits f != 0 && (W.kinds f != 8 || decide (0 < W.linesN f))) && !farB (W.bits f) 65535 && allB (W.linesN f) fun i => lnTest W f (W.lines f i)
/-- E8. -/
def rdB (W : Wd) (t c p : Int) : Bool := kof W t == 6 && (W.tasks t.toNat).st == 1 && (W.tasks t.toNat).core == c && (decide (p < 0) || (W.tasks t.toNat).prio == p)
def coB (W : Wd) (c : Nat) : Bool := W.cores c == -1 || rdB W (W.cores c) c (-1)
def rlB (W : Wd) (i : Nat) : Bool := allB (W.readyN i) fun k => rdB W (W.ready i k) ((i / 4 : Nat) : Int) ((i % 4 : Nat) : Int)
/-- E9. -/
def enB (W : Wd) (i : Nat) : Bool :=
  let x := W.ram i
  let k := W.kinds (i / 16)
  x == 0 || (k != 3 && k != 4) || (bif k == 4 then x - x % 1024 == 32768 && kof W (x % 1024) == 3 else (x - x % 1024 == 32768 || x - x % 1024 == 49152) && kof W (x % 1024) == 2)
def tlT (W : Wd) (l : Nat → Ent4) (i : Nat) : Bool :=
  kof W (l i).sp == 4 && !farB (l i).pg 255 && wkE W.nRam W.ram (l i).sp (16 * (l i).pg) == 0 && wkF W.nRam W.ram (l i).sp (16 * (l i).pg) == (l i).fr && (wkW W.nRam W.ram (l i).sp (16 * (l i).pg) == (l i).wr) && !anyB i fun k => (l k).sp == (l i).sp && (l k).pg == (l i).pg
def tlB (W : Wd) (n : Nat) (l : Nat → Ent4) : Bool := decide (n ≤ 4) && allB n fun i => tlT W l i
/-- E3: the first thing that is not sound. -/
def wm1 (W : Wd) (r : Int × Int) : Int × Int := fstE W.nRam (fun i => farB (W.ram i) 65535) 1 <| fstE W.nKinds (fun i => farB (W.kinds i) 8 || W.kinds i == 1) 3 <| fstE W.nDoms (fun i => farB (W.doms i) 3) 2 r
def wm2 (W : Wd) (r : Int × Int) : Int × Int := fstE W.nSlots (fun i => !slB W i) 8 r
def wm3 (W : Wd) (r : Int × Int) : Int × Int := fstE W.nKinds (fun i => !frB W i) 8 r
def wm4 (W : Wd) (r : Int × Int) : Int × Int := fstE W.nKinds (fun i => !tkB W i) 8 r
def wm5 (W : Wd) (r : Int × Int) : Int × Int := fstE W.nKinds (fun i => !lnB W i) 8 r
def wm6 (W : Wd) (r : Int × Int) : Int × Int := fstE W.nCores (fun i => !coB W i) 8 <| fstE W.nReady (fun i => !rlB W i) 8 r
def wm7 (W : Wd) (r : Int × Int) : Int × Int := fstE W.nRam (fun i => !enB W i) 9 <| fstE W.nCores (fun i => !tlB W (W.tlbsN i) (W.tlbs i)) 9 r
def wm (W : Wd) : Int × Int := bif szBad W then (2, -1) else wm1 W (wm2 W (wm3 W (wm4 W (wm5 W (wm6 W (wm7 W (0, -1)))))))
structure S1 (W : Wd) : Prop where
  ram : ∀ i, i < W.nRam → farB (W.ram i) 65535 = false
  kinds : ∀ i, i < W.nKinds → farB (W.kinds i) 8 = false ∧ W.kinds i ≠ 1
  doms : ∀ i, i < W.nDoms → farB (W.doms i) 3 = false
end Go.Proofs.YtfmaeiilbhpepaaDoor
set_option linter.unusedVariables false
set_option linter.unusedSimpArgs false
set_option maxRecDepth 100000
namespace Go.Proofs.YtfmaeiilbhpepaaDoor
open Go.RowKit Go.Sy

def an_in (n : Nat) (l : Nat → Int) (x : Int) : Ann where
  σ := Nat
  rt := []
  sh i := [(5, .v (.int .i64 i))]
  mh _ := []
  inv i := i ≤ n ∧ ∀ j, j < i → (l j == x) = false
  μ i := n - i
  init := 0
def an_ho1 (n : Nat) (ln : Nat → Nat) (l : Nat → Nat → Int) (x : Int) : Ann where
  σ := Nat
  rt := []
  sh i := [(6, .v (.int .i64 i)), (5, .v (.int .i64 (cntLL i ln l x : Nat)))]
  mh _ := []
  inv i := i ≤ n
  μ i := n - i
  init := 0
def an_ho2 (ln : Nat → Nat) (l : Nat → Nat → Int) (x : Int) (i c : Int) : Ann where
  σ := Nat
  rt := []
  sh k := [(7, .v (.int .i64 k)), (5, .v (.int .i64 (c + (cntB k fun q => l i.toNat q == x : Nat))))]
  mh _ := []
  inv k := k ≤ ln i.toNat
  μ k := ln i.toNat - k
  init := 0
def an_fw (W : Wd) (f : Nat) : Ann where
  σ := Nat
  rt := [(2, 0)]
  sh i := [(2, pt0 0), (8, .v (.int .i64 i)), (5, .v (.int .i64 (cntB i fun k => clayAt (W.slots k) f : Nat))), (6, .v (.bool (anyB i fun k => freeAt (W.slots k) f))), (7, .v (.int .i64 (cntB i fun k => keyAt (W.slots k) f : Nat)))]
  mh _ := []
  inv i := i ≤ W.nSlots
  μ i := W.nSlots - i
  init := 0
def an_sw (W : Wd) (u : Int) : Ann where
  σ := Nat
  rt := [(2, 0)]
  sh k := [(2, pt0 0), (9, .v (.int .i64 k)), (8, .v (.int .i64 (upK W u k)))]
  mh _ := []
  inv k := k ≤ W.nSlots
  μ k := W.nSlots - k
  init := 0
structure X_kindOf where
  W : Wd
  f : Int
def a_kindOf (W : Wd) (f : Int) : List SV := [wSV W, .v (.int .i64 f)]
def m_kindOf (W : Wd) (f : Int) : List Blk := []
def r_kindOf (W : Wd) (f : Int) : SV := .v (.int .i64 (kof W f))
def n_kindOf (W : Wd) (f : Int) : List Blk := []
def p_kindOf (W : Wd) (f : Int) : Prop := True
def s_kindOf : Sy.Spec where
  X := X_kindOf
  args x_ := a_kindOf x_.W x_.f
  mem x_ := m_kindOf x_.W x_.f
  pre x_ := p_kindOf x_.W x_.f
  res x_ := r_kindOf x_.W x_.f
  mem' x_ := n_kindOf x_.W x_.f
  dec args mem := match args with | [a0, a1] => some ⟨wSVD a0, intD (a1)⟩ | _ => none
def c_kindOf : Con := ⟨[], s_kindOf.g, none⟩
def V_kindOf (W : Wd) (f : Int) : Prop :=
  True ∧ ((bif decide (f < (0 : Int)) then true else decide ((↑W.nKinds : Int) ≤ f)) = true → (-1 : Int) = kof W f ∧ True) ∧ ((bif decide (f < (0 : Int)) then true else decide ((↑W.nKinds : Int) ≤ f)) = false → ((0 : Int) ≤ f ∧ f < (↑W.nKinds : Int)) ∧ W.kinds (Int.toNat f) = kof W f ∧ True)
theorem q_kindOf (W : Wd) (f : Int) : evBody Tryd.prog false glN (mkT []) Tryd.f110 (a_kindOf W f) (m_kindOf W f) [] (r_kindOf W f) (n_kindOf W f) = V_kindOf W f := by kernel_rfl
theorem pf_kindOf (W : Wd) (f : Int) (hp : p_kindOf W f) : FnC Tryd.prog glN 110 (a_kindOf W f) (m_kindOf W f) (r_kindOf W f) (n_kindOf W f) := by
  refine fn_of sound_nil false Tryd.func110 [] (q_kindOf W f) ?_
  unfold V_kindOf
  simp only [true_and, and_true, and_self, implies_true, eq_self, Int.toNat_natCast, Nat.zero_add, Int.natCast_nonneg, Nat.not_lt_zero, false_implies, Nat.zero_le, Int.natCast_zero, Bool.cond_self, Bool.cond_true_left, Bool.cond_false_right, Bool.cond_true_right, Bool.cond_false_left]
  refine ⟨fun h => ?_, fun h => ?_⟩
  · rw [Bool.or_eq_true, decide_eq_true_eq, decide_eq_true_eq] at h; exact (kof_out h).symm
  · rw [Bool.or_eq_false_iff, decide_eq_false_iff_not, decide_eq_false_iff_not] at h
    have h2 : 0 ≤ f ∧ f < W.nKinds := by omega
    exact ⟨h2, (kof_eq h2).symm⟩
theorem ok_kindOf : FnOK Tryd.prog glN 110 c_kindOf := fnOK_of (fun l w => Tryd.call110 l w) fun x_ hp => pf_kindOf x_.W x_.f hp
structure X_inL where
  x : Int
  n : Nat
  l : Nat → Int
def a_inL (x : Int) (n : Nat) (l : Nat → Int) : List SV := [.v (.int .i64 x), .sl true 1 n (fun i_ _ => .v (.int .i64 (l i_)))]
def m_inL (x : Int) (n : Nat) (l : Nat → Int) : List Blk := []
def r_inL (x : Int) (n : Nat) (l : Nat → Int) : SV := .v (.bool (inB' n l x))
def n_inL (x : Int) (n : Nat) (l : Nat → Int) : List Blk := []
def p_inL (x : Int) (n : Nat) (l : Nat → Int) : Prop := True
def s_inL : Sy.Spec where
  X := X_inL
  args x_ := a_inL x_.x x_.n x_.l
  mem x_ := m_inL x_.x x_.n x_.l
  pre x_ := p_inL x_.x x_.n x_.l
  res x_ := r_inL x_.x x_.n x_.l
  mem' x_ := n_inL x_.x x_.n x_.l
  dec args mem := match args with | [a0, a1] => some ⟨intD (a0), slN a1, fun i => intD (slF a1 i 0)⟩ | _ => none
def c_inL : Con := ⟨[], s_inL.g, none⟩
def V_inL (x : Int) (n : Nat) (l : Nat → Int) : Prop :=
  (0 : Int) = (↑(0 : Nat) : Int) ∧ True ∧ ((0 : Nat) ≤ n ∧ ∀ (j : Nat), j < (0 : Nat) → (l j == x) = false) ∧ ∀ (s : Nat), (s ≤ n ∧ ∀ (j : Nat), j < s → (l j == x) = false) → (↑n : Int) ≤ (9223372036854775807 : Int) → (decide ((↑s : Int) < (↑n : Int)) = true → ((0 : Int) ≤ (↑s : Int) ∧ (↑s : Int) < (↑n : Int)) ∧ ((l (Int.toNat (↑s : Int)) == x) = true → true = inB' n l x ∧ True) ∧ ((l (Int.toNat (↑s : Int)) == x) = false → IntKind.wrap IntKind.i64 ((↑s : Int) + (1 : Int)) = (↑s : Int) + (1 : Int) ∧ ∃ (s' : Nat), (↑s : Int) + (1 : Int) = (↑s' : Int) ∧ True ∧ (s' ≤ n ∧ ∀ (j : Nat), j < s' → (l j == x) = false) ∧ n - s' < n - s)) ∧ (decide ((↑s : Int) < (↑n : Int)) = false → false = inB' n l x ∧ True)
theorem q_inL (x : Int) (n : Nat) (l : Nat → Int) : evBody Tryd.prog false glN (mkT []) Tryd.f150 (a_inL x n l) (m_inL x n l) [.inv (an_in n l x)] (r_inL x n l) (n_inL x n l) = V_inL x n l := by kernel_rfl
theorem pf_inL (x : Int) (n : Nat) (l : Nat → Int) (hp : p_inL x n l) : FnC Tryd.prog glN 150 (a_inL x n l) (m_inL x n l) (r_inL x n l) (n_inL x n l) := by
  refine fn_of sound_nil false Tryd.func150 [.inv (an_in n l x)] (q_inL x n l) ?_
  unfold V_inL
  simp only [true_and, and_true, and_self, implies_true, eq_self, Int.toNat_natCast, Nat.zero_add, Int.natCast_nonneg, Nat.not_lt_zero, false_implies, Nat.zero_le, Int.natCast_zero, Bool.cond_self]
  intro s hs hn
  refine ⟨fun h => ?_, fun h => ?_⟩
  · have hlt := lt_of_dec h
    refine ⟨by omega, fun h => (anyB_iff.2 ⟨s, hlt, h⟩).symm, fun h => ⟨by rw [IntKind.wrap_i64]; omega, exS ⟨⟨by omega, snocF (p := fun j => l j == x) hs.2 h⟩, by omega⟩⟩⟩
  · have hge := ge_of_dec h
    obtain rfl : s = n := by omega
    exact (anyB_false.2 hs.2).symm
theorem ok_inL : FnOK Tryd.prog glN 150 c_inL := fnOK_of (fun l w => Tryd.call150 l w) fun x_ hp => pf_inL x_.x x_.n x_.l hp
structure X_howOften where
  n : Nat
  ln : Nat → Nat
  l : Nat → Nat → Int
  x : Int
def a_howOften (n : Nat) (ln : Nat → Nat) (l : Nat → Nat → Int) (x : Int) : List SV := [.sl true 1 n (fun i _ => .sl true 1 (ln i) (iF (l i))), .v (.int .i64 x)]
def m_howOften (n : Nat) (ln : Nat → Nat) (l : Nat → Nat → Int) (x : Int) : List Blk := []
def r_howOften (n : Nat) (ln : Nat → Nat) (l : Nat → Nat → Int) (x : Int) : SV := .v (.int .i64 (cntLL n ln l x : Nat))
def n_howOften (n : Nat) (ln : Nat → Nat) (l : Nat → Nat → Int) (x : Int) : List Blk := []
def p_howOften (n : Nat) (ln : Nat → Nat) (l : Nat → Nat → Int) (x : Int) : Prop := n ≤ 1000 ∧ ∀ i, i < n → ln i ≤ 1000
def s_howOften : Sy.Spec where
  X := X_howOften
  args x_ := a_howOften x_.n x_.ln x_.l x_.x
  mem x_ := m_howOften x_.n x_.ln x_.l x_.x
  pre x_ := p_howOften x_.n x_.ln x_.l x_.x
  res x_ := r_howOften x_.n x_.ln x_.l x_.x
  mem' x_ := n_howOften x_.n x_.ln x_.l x_.x
  dec args mem := match args with | [a0, a1] => some ⟨slN a0, fun i => slN (slF a0 i 0), fun i k => intD (slF (slF a0 i 0) k 0), intD (a1)⟩ | _ => none
def c_howOften : Con := ⟨[], s_howOften.g, none⟩
def V_howOften (n : Nat) (ln : Nat → Nat) (l : Nat → Nat → Int) (x : Int) : Prop :=
  (0 : Int) = (↑(0 : Nat) : Int) ∧ (0 : Int) = (↑(cntLL (0 : Nat) ln l x) : Int) ∧ True ∧ (0 : Nat) ≤ n ∧ ∀ (s : Nat), s ≤ n → (↑n : Int) ≤ (9223372036854775807 : Int) → (decide ((↑s : Int) < (↑n : Int)) = true → (0 : Int) = (↑(0 : Nat) : Int) ∧ (↑(cntLL s ln l x) : Int) = (↑(cntLL s ln l x) : Int) + (↑(cntB (0 : Nat) fun (q : Nat) => l (Int.toNat (↑s : Int)) q == x) : Int) ∧ True ∧ (0 : Nat) ≤ ln (Int.toNat (↑s : Int)) ∧ ∀ (s_1 : Nat), s_1 ≤ ln (Int.toNat (↑s : Int)) → ((0 : Int) ≤ (↑s : Int) ∧ (↑s : Int) < (↑n : Int)) ∧ ((↑(ln (Int.toNat (↑s : Int))) : Int) ≤ (9223372036854775807 : Int) → (decide ((↑s_1 : Int) < (↑(ln (Int.toNat (↑s : Int))) : Int)) = true → ((0 : Int) ≤ (↑s : Int) ∧ (↑s : Int) < (↑n : Int)) ∧ ((0 : Int) ≤ (↑s_1 : Int) ∧ (↑s_1 : Int) < (↑(ln (Int.toNat (↑s : Int))) : Int)) ∧ ((l (Int.toNat (↑s : Int)) (Int.toNat (↑s_1 : Int)) == x) = true → IntKind.wrap IntKind.i64 ((↑(cntLL s ln l x) : Int) + (↑(cntB s_1 fun (q : Nat) => l (Int.toNat (↑s : Int)) q == x) : Int) + (1 : Int)) = (↑(cntLL s ln l x) : Int) + (↑(cntB s_1 fun (q : Nat) => l (Int.toNat (↑s : Int)) q == x) : Int) + (1 : Int) ∧ IntKind.wrap IntKind.i64 ((↑s_1 : Int) + (1 : Int)) = (↑s_1 : Int) + (1 : Int) ∧ ∃ (s' : Nat), (↑s_1 : Int) + (1 : Int) = (↑s' : Int) ∧ (↑(cntLL s ln l x) : Int) + (↑(cntB s_1 fun (q : Nat) => l (Int.toNat (↑s : Int)) q == x) : Int) + (1 : Int) = (↑(cntLL s ln l x) : Int) + (↑(cntB s' fun (q : Nat) => l (Int.toNat (↑s : Int)) q == x) : Int) ∧ True ∧ s' ≤ ln (Int.toNat (↑s :
    Int)) ∧ ln (Int.toNat (↑s : Int)) - s' < ln (Int.toNat (↑s : Int)) - s_1) ∧ ((l (Int.toNat (↑s : Int)) (Int.toNat (↑s_1 : Int)) == x) = false → IntKind.wrap IntKind.i64 ((↑s_1 : Int) + (1 : Int)) = (↑s_1 : Int) + (1 : Int) ∧ ∃ (s' : Nat), (↑s_1 : Int) + (1 : Int) = (↑s' : Int) ∧ (↑(cntLL s ln l x) : Int) + (↑(cntB s_1 fun (q : Nat) => l (Int.toNat (↑s : Int)) q == x) : Int) = (↑(cntLL s ln l x) : Int) + (↑(cntB s' fun (q : Nat) => l (Int.toNat (↑s : Int)) q == x) : Int) ∧ True ∧ s' ≤ ln (Int.toNat (↑s : Int)) ∧ ln (Int.toNat (↑s : Int)) - s' < ln (Int.toNat (↑s : Int)) - s_1)) ∧ (decide ((↑s_1 : Int) < (↑(ln (Int.toNat (↑s : Int))) : Int)) = false → IntKind.wrap IntKind.i64 ((↑s : Int) + (1 : Int)) = (↑s : Int) + (1 : Int) ∧ ∃ (s' : Nat), (↑s : Int) + (1 : Int) = (↑s' : Int) ∧ (↑(cntLL s ln l x) : Int) + (↑(cntB s_1 fun (q : Nat) => l (Int.toNat (↑s : Int)) q == x) : Int) = (↑(cntLL s' ln l x) : Int) ∧ True ∧ s' ≤ n ∧ n - s' < n - s))) ∧ (decide ((↑s : Int) < (↑n : Int)) = false → (↑(cntLL s ln l x) : Int) = (↑(cntLL n ln l x) : Int) ∧ True)
theorem q_howOften (n : Nat) (ln : Nat → Nat) (l : Nat → Nat → Int) (x : Int) : evBody Tryd.prog false glN (mkT []) Tryd.f149 (a_howOften n ln l x) (m_howOften n ln l x) [.inv (an_ho1 n ln l x), .invF false fun fr => an_ho2 ln l x (intD (fr 6)) (intD (fr 5))] (r_howOften n ln l x) (n_howOften n ln l x) = V_howOften n ln l x := by kernel_rfl
theorem pf_howOften (n : Nat) (ln : Nat → Nat) (l : Nat → Nat → Int) (x : Int) (hp : p_howOften n ln l x) : FnC Tryd.prog glN 149 (a_howOften n ln l x) (m_howOften n ln l x) (r_howOften n ln l x) (n_howOften n ln l x) := by
  refine fn_of sound_nil false Tryd.func149 [.inv (an_ho1 n ln l x), .invF false fun fr => an_ho2 ln l x (intD (fr 6)) (intD (fr 5))] (q_howOften n ln l x) ?_
  unfold V_howOften
  unfold p_howOften at hp
  simp only [true_and, and_true, and_self, implies_true, eq_self, Int.toNat_natCast, Nat.zero_add, Int.natCast_nonneg, Nat.not_lt_zero, false_implies, Nat.zero_le, Int.natCast_zero, Bool.cond_self]
  refine ⟨rfl, fun s hs hn => ⟨fun h => ?_, fun h => ?_⟩⟩
  · have hlt := lt_of_dec h
    have hl := hp.2 s hlt
    have hc : cntLL s ln l x ≤ s * 1000 := sumN_le fun i hi => Nat.le_trans (cntB_le _ _) (hp.2 i (by omega))
    refine ⟨by simp [cntB], fun k hk => ⟨by omega, fun hm => ⟨fun h2 => ?_, fun h2 => ?_⟩⟩⟩
    · have hlt2 := lt_of_dec h2
      have hb := cntB_le (fun q => l s q == x) k
      refine ⟨by omega, by omega, fun h3 => ?_, fun h3 => ?_⟩
      · have e : (cntB (k + 1) fun q => l s q == x) = (cntB k fun q => l s q == x) + 1 := by simp [cntB, h3]
        exact ⟨by rw [IntKind.wrap_i64]; omega, by rw [IntKind.wrap_i64]; omega, exS ⟨by rw [e]; omega, by omega, by omega⟩⟩
      · have e : (cntB (k + 1) fun q => l s q == x) = (cntB k fun q => l s q == x) := by simp [cntB, h3]
        exact ⟨by rw [IntKind.wrap_i64]; omega, exS ⟨by rw [e], by omega, by omega⟩⟩
    · have hge := ge_of_dec h2
      obtain rfl : k = ln s := by omega
      refine ⟨by rw [IntKind.wrap_i64]; omega, exS ⟨?_, by omega, by omega⟩⟩
      rw [show cntLL (s + 1) ln l x = cntLL s ln l x + cntB (ln s) (fun q => l s q == x) from rfl]; omega
  · have hge := ge_of_dec h
    obtain rfl : s = n := by omega
    rfl
theorem ok_howOften : FnOK Tryd.prog glN 149 c_howOften := fnOK_of (fun l w => Tryd.call149 l w) fun x_ hp => pf_howOften x_.n x_.ln x_.l x_.x hp
structure X_readyAt where
  W : Wd
  t : Int
  c : Int
  p : Int
def a_readyAt (W : Wd) (t : Int) (c : Int) (p : Int) : List SV := [wSV W, .v (.int .i64 t), .v (.int .i64 c), .v (.int .i64 p)]
def m_readyAt (W : Wd) (t : Int) (c : Int) (p : Int) : List Blk := []
def r_readyAt (W : Wd) (t : Int) (c : Int) (p : Int) : SV := .v (.bool (rdB W t c p))
def n_readyAt (W : Wd) (t : Int) (c : Int) (p : Int) : List Blk := []
def p_readyAt (W : Wd) (t : Int) (c : Int) (p : Int) : Prop := Szd W
def s_readyAt : Sy.Spec where
  X := X_readyAt
  args x_ := a_readyAt x_.W x_.t x_.c x_.p
  mem x_ := m_readyAt x_.W x_.t x_.c x_.p
  pre x_ := p_readyAt x_.W x_.t x_.c x_.p
  res x_ := r_readyAt x_.W x_.t x_.c x_.p
  mem' x_ := n_readyAt x_.W x_.t x_.c x_.p
  dec args mem := match args with | [a0, a1, a2, a3] => some ⟨wSVD a0, intD (a1), intD (a2), intD (a3)⟩ | _ => none
def c_readyAt : Con := ⟨[], s_readyAt.g, none⟩
def V_readyAt (W : Wd) (t : Int) (c : Int) (p : Int) : Prop :=
  True ∧ (((((((((((((True ∧ W.nRam = W.nRam ∧ ∀ (i : Nat), i < W.nRam → True ∧ W.ram i = W.ram i) ∧ W.nKinds = W.nKinds ∧ ∀ (i : Nat), i < W.nKinds → True ∧ W.kinds i = W.kinds i) ∧ W.nSlots = W.nSlots ∧ ∀ (i : Nat), i < W.nSlots → ((((((True ∧ (W.slots i).kind = (W.slots i).kind) ∧ (W.slots i).base = (W.slots i).base) ∧ (W.slots i).len = (W.slots i).len) ∧ (W.slots i).mark = (W.slots i).mark) ∧ (W.slots i).rights = (W.slots i).rights) ∧ (W.slots i).badge = (W.slots i).badge) ∧ (W.slots i).from_ = (W.slots i).from_) ∧ W.nTasks = W.nTasks ∧ ∀ (i : Nat), i < W.nTasks → (((((((((((((((((((True ∧ (W.tasks i).r0 = (W.tasks i).r0) ∧ (W.tasks i).r1 = (W.tasks i).r1) ∧ (W.tasks i).r2 = (W.tasks i).r2) ∧ (W.tasks i).r3 = (W.tasks i).r3) ∧ (W.tasks i).r4 = (W.tasks i).r4) ∧ (W.tasks i).r5 = (W.tasks i).r5) ∧ (W.tasks i).r6 = (W.tasks i).r6) ∧ (W.tasks i).r7 = (W.tasks i).r7) ∧ (W.tasks i).pc = (W.tasks i).pc) ∧ (W.tasks i).st = (W.tasks i).st) ∧ (W.tasks i).prio = (W.tasks i).prio) ∧ (W.tasks i).node = (W.tasks i).node) ∧ (W.tasks i).space = (W.tasks i).space) ∧ (W.tasks i).helper = (W.tasks i).helper) ∧ (W.tasks i).loc = (W.tasks i).loc) ∧ (W.tasks i).word = (W.tasks i).word) ∧ (W.tasks i).badge = (W.tasks i).badge) ∧ (W.tasks i).owes = (W.tasks i).owes) ∧ (W.tasks i).core = (W.tasks i).core) ∧ (W.tasks i).dom = (W.tasks i).dom) ∧ W.nLines = W.nLines ∧ ∀ (i : Nat), i < W.nLines → True ∧ W.linesN i = W.linesN i ∧ ∀ (i_1 : Nat), i_1 < W.linesN i → True ∧ W.lines i i_1 = W.lines i i_1) ∧
    W.nBits = W.nBits ∧ ∀ (i : Nat), i < W.nBits → True ∧ W.bits i = W.bits i) ∧ W.nCores = W.nCores ∧ ∀ (i : Nat), i < W.nCores → True ∧ W.cores i = W.cores i) ∧ W.nReady = W.nReady ∧ ∀ (i : Nat), i < W.nReady → True ∧ W.readyN i = W.readyN i ∧ ∀ (i_1 : Nat), i_1 < W.readyN i → True ∧ W.ready i i_1 = W.ready i i_1) ∧ W.nTlbs = W.nTlbs ∧ ∀ (i : Nat), i < W.nTlbs → True ∧ W.tlbsN i = W.tlbsN i ∧ ∀ (i_1 : Nat), i_1 < W.tlbsN i → (((True ∧ (W.tlbs i i_1).sp = (W.tlbs i i_1).sp) ∧ (W.tlbs i i_1).pg = (W.tlbs i i_1).pg) ∧ (W.tlbs i i_1).fr = (W.tlbs i i_1).fr) ∧ (W.tlbs i i_1).wr = (W.tlbs i i_1).wr) ∧ W.nDoms = W.nDoms ∧ ∀ (i : Nat), i < W.nDoms → True ∧ W.doms i = W.doms i) ∧ W.time = W.time) ∧ t = t ∧ True) ∧ True ∧ True) ∧ ((kof W t == (6 : Int)) = true → (0 : Int) ≤ t ∧ t < (↑W.nTasks : Int)) ∧ ((bif kof W t == (6 : Int) then (W.tasks (Int.toNat t)).st == (1 : Int) else false) = true → (0 : Int) ≤ t ∧ t < (↑W.nTasks : Int)) ∧ (decide (p < (0 : Int)) = false → (bif bif kof W t == (6 : Int) then (W.tasks (Int.toNat t)).st == (1 : Int) else false then (W.tasks (Int.toNat t)).core == c else false) = true → (0 : Int) ≤ t ∧ t < (↑W.nTasks : Int)) ∧ (bif bif bif kof W t == (6 : Int) then (W.tasks (Int.toNat t)).st == (1 : Int) else false then (W.tasks (Int.toNat t)).core == c else false then bif decide (p < (0 : Int)) then true else (W.tasks (Int.toNat t)).prio == p else false) = rdB W t c p ∧ True
theorem q_readyAt (W : Wd) (t : Int) (c : Int) (p : Int) : evBody Tryd.prog false glN (mkT [(110, c_kindOf)]) Tryd.f104 (a_readyAt W t c p) (m_readyAt W t c p) [] (r_readyAt W t c p) (n_readyAt W t c p) = V_readyAt W t c p := by kernel_rfl
theorem pf_readyAt (W : Wd) (t : Int) (c : Int) (p : Int) (hp : p_readyAt W t c p) : FnC Tryd.prog glN 104 (a_readyAt W t c p) (m_readyAt W t c p) (r_readyAt W t c p) (n_readyAt W t c p) := by
  refine fn_of (sound_cons ok_kindOf sound_nil) false Tryd.func104 [] (q_readyAt W t c p) ?_
  unfold V_readyAt
  unfold p_readyAt at hp
  simp only [true_and, and_true, and_self, implies_true, eq_self, Int.toNat_natCast, Nat.zero_add, Int.natCast_nonneg, Nat.not_lt_zero, false_implies, Nat.zero_le, Int.natCast_zero, Bool.cond_self, Bool.cond_true_left, Bool.cond_false_right, Bool.cond_true_right, Bool.cond_false_left]
  have hr : (kof W t == 6) = true → 0 ≤ t ∧ t < W.nTasks := fun h => by
    have := kof_in (W := W) (f := t) (by rw [eq_of_beq h]; decide)
    rw [hp.tasks]; exact this
  refine ⟨hr, fun h => hr (by revert h; cases kof W t == 6 <;> simp), fun _ h => hr (by revert h; cases kof W t == 6 <;> simp), rfl⟩
theorem ok_readyAt : FnOK Tryd.prog glN 104 c_readyAt := fnOK_of (fun l w => Tryd.call104 l w) fun x_ hp => pf_readyAt x_.W x_.t x_.c x_.p hp
structure X_frameWell where
  W : Wd
  f : Int
def a_frameWell (W : Wd) (f : Int) : List SV := [wSV W, .v (.int .i64 f)]
def m_frameWell (W : Wd) (f : Int) : List Blk := []
def r_frameWell (W : Wd) (f : Int) : SV := .v (.bool (frB W f.toNat))
def n_frameWell (W : Wd) (f : Int) : List Blk := []
def p_frameWell (W : Wd) (f : Int) : Prop := Szd W ∧ 0 ≤ f ∧ f < W.nKinds ∧ ∀ i, i < W.nSlots → slB W i = true
def s_frameWell : Sy.Spec where
  X := X_frameWell
  args x_ := a_frameWell x_.W x_.f
  mem x_ := m_frameWell x_.W x_.f
  pre x_ := p_frameWell x_.W x_.f
  res x_ := r_frameWell x_.W x_.f
  mem' x_ := n_frameWell x_.W x_.f
  dec args mem := match args with | [a0, a1] => some ⟨wSVD a0, intD (a1)⟩ | _ => none
def c_frameWell : Con := ⟨[], s_frameWell.g, none⟩
def K_frameWell_0 (W : Wd) : Prop :=
  ((((((((((((True ∧ W.nRam = W.nRam ∧ ∀ (i : Nat), i < W.nRam → True ∧ W.ram i = W.ram i) ∧ W.nKinds = W.nKinds ∧ ∀ (i : Nat), i < W.nKinds → True ∧ W.kinds i = W.kinds i) ∧ W.nSlots = W.nSlots ∧ ∀ (i : Nat), i < W.nSlots → ((((((True ∧ (W.slots i).kind = (W.slots i).kind) ∧ (W.slots i).base = (W.slots i).base) ∧ (W.slots i).len = (W.slots i).len) ∧ (W.slots i).mark = (W.slots i).mark) ∧ (W.slots i).rights = (W.slots i).rights) ∧ (W.slots i).badge = (W.slots i).badge) ∧ (W.slots i).from_ = (W.slots i).from_) ∧ W.nTasks = W.nTasks ∧ ∀ (i : Nat), i < W.nTasks → (((((((((((((((((((True ∧ (W.tasks i).r0 = (W.tasks i).r0) ∧ (W.tasks i).r1 = (W.tasks i).r1) ∧ (W.tasks i).r2 = (W.tasks i).r2) ∧ (W.tasks i).r3 = (W.tasks i).r3) ∧ (W.tasks i).r4 = (W.tasks i).r4) ∧ (W.tasks i).r5 = (W.tasks i).r5) ∧ (W.tasks i).r6 = (W.tasks i).r6) ∧ (W.tasks i).r7 = (W.tasks i).r7) ∧ (W.tasks i).pc = (W.tasks i).pc) ∧ (W.tasks i).st = (W.tasks i).st) ∧ (W.tasks i).prio = (W.tasks i).prio) ∧ (W.tasks i).node = (W.tasks i).node) ∧ (W.tasks i).space = (W.tasks i).space) ∧ (W.tasks i).helper = (W.tasks i).helper) ∧ (W.tasks i).loc = (W.tasks i).loc) ∧ (W.tasks i).word = (W.tasks i).word) ∧ (W.tasks i).badge = (W.tasks i).badge) ∧ (W.tasks i).owes = (W.tasks i).owes) ∧ (W.tasks i).core = (W.tasks i).core) ∧ (W.tasks i).dom = (W.tasks i).dom) ∧ W.nLines = W.nLines ∧ ∀ (i : Nat), i < W.nLines → True ∧ W.linesN i = W.linesN i ∧ ∀ (i_1 : Nat), i_1 < W.linesN i → True ∧ W.lines i i_1 = W.lines i i_1) ∧ W.nBits
    = W.nBits ∧ ∀ (i : Nat), i < W.nBits → True ∧ W.bits i = W.bits i) ∧ W.nCores = W.nCores ∧ ∀ (i : Nat), i < W.nCores → True ∧ W.cores i = W.cores i) ∧ W.nReady = W.nReady ∧ ∀ (i : Nat), i < W.nReady → True ∧ W.readyN i = W.readyN i ∧ ∀ (i_1 : Nat), i_1 < W.readyN i → True ∧ W.ready i i_1 = W.ready i i_1) ∧ W.nTlbs = W.nTlbs ∧ ∀ (i : Nat), i < W.nTlbs → True ∧ W.tlbsN i = W.tlbsN i ∧ ∀ (i_1 : Nat), i_1 < W.tlbsN i → (((True ∧ (W.tlbs i i_1).sp = (W.tlbs i i_1).sp) ∧ (W.tlbs i i_1).pg = (W.tlbs i i_1).pg) ∧ (W.tlbs i i_1).fr = (W.tlbs i i_1).fr) ∧ (W.tlbs i i_1).wr = (W.tlbs i i_1).wr) ∧ W.nDoms = W.nDoms ∧ ∀ (i : Nat), i < W.nDoms → True ∧ W.doms i = W.doms i) ∧ W.time = W.time) ∧ True)
def V_frameWell (W : Wd) (f : Int) : Prop :=
  True ∧ SV.ptr (0 : Nat) (0 : Nat) none (nat_lit 0) (nat_lit 0) = SV.ptr (0 : Nat) (0 : Nat) none (0 : Nat) (0 : Nat) ∧ (0 : Int) = (↑(0 : Nat) : Int) ∧ (0 : Int) = (↑(cntB (0 : Nat) fun (k : Nat) => clayAt (W.slots k) (Int.toNat f)) : Int) ∧ (false = anyB (0 : Nat) fun (k : Nat) => freeAt (W.slots k) (Int.toNat f)) ∧ (0 : Int) = (↑(cntB (0 : Nat) fun (k : Nat) => keyAt (W.slots k) (Int.toNat f)) : Int) ∧ (K_frameWell_0 W) ∧ (0 : Nat) ≤ W.nSlots ∧ ∀ (s : Nat), s ≤ W.nSlots → (↑W.nSlots : Int) ≤ (9223372036854775807 : Int) → (decide ((↑s : Int) < (↑W.nSlots : Int)) = true → ((0 : Int) ≤ (↑s : Int) ∧ (↑s : Int) < (↑W.nSlots : Int)) ∧ True ∧ (True ∧ True ∧ True ∧ True ∧ True ∧ True) ∧ ((bif (W.slots (Int.toNat (↑s : Int))).kind == (1 : Int) then decide ((W.slots (Int.toNat (↑s : Int))).base ≤ f) else false) = true → IntKind.wrap IntKind.i64 ((W.slots (Int.toNat (↑s : Int))).base + (W.slots (Int.toNat (↑s : Int))).len) = (W.slots (Int.toNat (↑s : Int))).base + (W.slots (Int.toNat (↑s : Int))).len) ∧ ((bif bif (W.slots (Int.toNat (↑s : Int))).kind == (1 : Int) then decide ((W.slots (Int.toNat (↑s : Int))).base ≤ f) else false then decide (f < (W.slots (Int.toNat (↑s : Int))).base + (W.slots (Int.toNat (↑s : Int))).len) else false) = true → IntKind.wrap IntKind.i64 ((↑(cntB s fun (k : Nat) => clayAt (W.slots k) (Int.toNat f)) : Int) + (1 : Int)) = (↑(cntB s fun (k : Nat) => clayAt (W.slots k) (Int.toNat f)) : Int) + (1 : Int) ∧ ((anyB s fun (k : Nat) => freeAt (W.slots k) (Int.toNat
    f)) = false → IntKind.wrap IntKind.i64 ((W.slots (Int.toNat (↑s : Int))).base + (W.slots (Int.toNat (↑s : Int))).mark) = (W.slots (Int.toNat (↑s : Int))).base + (W.slots (Int.toNat (↑s : Int))).mark) ∧ ((bif bif (W.slots (Int.toNat (↑s : Int))).kind != (1 : Int) then (W.slots (Int.toNat (↑s : Int))).kind != (0 : Int) else false then (W.slots (Int.toNat (↑s : Int))).base == f else false) = true → IntKind.wrap IntKind.i64 ((↑(cntB s fun (k : Nat) => keyAt (W.slots k) (Int.toNat f)) : Int) + (1 : Int)) = (↑(cntB s fun (k : Nat) => keyAt (W.slots k) (Int.toNat f)) : Int) + (1 : Int) ∧ IntKind.wrap IntKind.i64 ((↑s : Int) + (1 : Int)) = (↑s : Int) + (1 : Int) ∧ ∃ (s' : Nat), SV.ptr (0 : Nat) (0 : Nat) none (nat_lit 0) (nat_lit 0) = SV.ptr (0 : Nat) (0 : Nat) none (0 : Nat) (0 : Nat) ∧ (↑s : Int) + (1 : Int) = (↑s' : Int) ∧ (↑(cntB s fun (k : Nat) => clayAt (W.slots k) (Int.toNat f)) : Int) + (1 : Int) = (↑(cntB s' fun (k : Nat) => clayAt (W.slots k) (Int.toNat f)) : Int) ∧ ((bif anyB s fun (k : Nat) => freeAt (W.slots k) (Int.toNat f) then true else decide ((W.slots (Int.toNat (↑s : Int))).base + (W.slots (Int.toNat (↑s : Int))).mark ≤ f)) = anyB s' fun (k : Nat) => freeAt (W.slots k) (Int.toNat f)) ∧ (↑(cntB s fun (k : Nat) => keyAt (W.slots k) (Int.toNat f)) : Int) + (1 : Int) = (↑(cntB s' fun (k : Nat) => keyAt (W.slots k) (Int.toNat f)) : Int) ∧ (K_frameWell_0 W) ∧ s' ≤ W.nSlots ∧ W.nSlots - s' < W.nSlots - s) ∧ ((bif bif (W.slots (Int.toNat (↑s : Int))).kind != (1 : Int)
    then (W.slots (Int.toNat (↑s : Int))).kind != (0 : Int) else false then (W.slots (Int.toNat (↑s : Int))).base == f else false) = false → IntKind.wrap IntKind.i64 ((↑s : Int) + (1 : Int)) = (↑s : Int) + (1 : Int) ∧ ∃ (s' : Nat), SV.ptr (0 : Nat) (0 : Nat) none (nat_lit 0) (nat_lit 0) = SV.ptr (0 : Nat) (0 : Nat) none (0 : Nat) (0 : Nat) ∧ (↑s : Int) + (1 : Int) = (↑s' : Int) ∧ (↑(cntB s fun (k : Nat) => clayAt (W.slots k) (Int.toNat f)) : Int) + (1 : Int) = (↑(cntB s' fun (k : Nat) => clayAt (W.slots k) (Int.toNat f)) : Int) ∧ ((bif anyB s fun (k : Nat) => freeAt (W.slots k) (Int.toNat f) then true else decide ((W.slots (Int.toNat (↑s : Int))).base + (W.slots (Int.toNat (↑s : Int))).mark ≤ f)) = anyB s' fun (k : Nat) => freeAt (W.slots k) (Int.toNat f)) ∧ (↑(cntB s fun (k : Nat) => keyAt (W.slots k) (Int.toNat f)) : Int) = (↑(cntB s' fun (k : Nat) => keyAt (W.slots k) (Int.toNat f)) : Int) ∧ (K_frameWell_0 W) ∧ s' ≤ W.nSlots ∧ W.nSlots - s' < W.nSlots - s)) ∧ ((bif bif (W.slots (Int.toNat (↑s : Int))).kind == (1 : Int) then decide ((W.slots (Int.toNat (↑s : Int))).base ≤ f) else false then decide (f < (W.slots (Int.toNat (↑s : Int))).base + (W.slots (Int.toNat (↑s : Int))).len) else false) = false → ((bif bif (W.slots (Int.toNat (↑s : Int))).kind != (1 : Int) then (W.slots (Int.toNat (↑s : Int))).kind != (0 : Int) else false then (W.slots (Int.toNat (↑s : Int))).base == f else false) = true → IntKind.wrap IntKind.i64 ((↑(cntB s fun (k : Nat) => keyAt (W.slots k) (Int.toNat
    f)) : Int) + (1 : Int)) = (↑(cntB s fun (k : Nat) => keyAt (W.slots k) (Int.toNat f)) : Int) + (1 : Int) ∧ IntKind.wrap IntKind.i64 ((↑s : Int) + (1 : Int)) = (↑s : Int) + (1 : Int) ∧ ∃ (s' : Nat), SV.ptr (0 : Nat) (0 : Nat) none (nat_lit 0) (nat_lit 0) = SV.ptr (0 : Nat) (0 : Nat) none (0 : Nat) (0 : Nat) ∧ (↑s : Int) + (1 : Int) = (↑s' : Int) ∧ (↑(cntB s fun (k : Nat) => clayAt (W.slots k) (Int.toNat f)) : Int) = (↑(cntB s' fun (k : Nat) => clayAt (W.slots k) (Int.toNat f)) : Int) ∧ ((anyB s fun (k : Nat) => freeAt (W.slots k) (Int.toNat f)) = anyB s' fun (k : Nat) => freeAt (W.slots k) (Int.toNat f)) ∧ (↑(cntB s fun (k : Nat) => keyAt (W.slots k) (Int.toNat f)) : Int) + (1 : Int) = (↑(cntB s' fun (k : Nat) => keyAt (W.slots k) (Int.toNat f)) : Int) ∧ (K_frameWell_0 W) ∧ s' ≤ W.nSlots ∧ W.nSlots - s' < W.nSlots - s) ∧ ((bif bif (W.slots (Int.toNat (↑s : Int))).kind != (1 : Int) then (W.slots (Int.toNat (↑s : Int))).kind != (0 : Int) else false then (W.slots (Int.toNat (↑s : Int))).base == f else false) = false → IntKind.wrap IntKind.i64 ((↑s : Int) + (1 : Int)) = (↑s : Int) + (1 : Int) ∧ ∃ (s' : Nat), SV.ptr (0 : Nat) (0 : Nat) none (nat_lit 0) (nat_lit 0) = SV.ptr (0 : Nat) (0 : Nat) none (0 : Nat) (0 : Nat) ∧ (↑s : Int) + (1 : Int) = (↑s' : Int) ∧ (↑(cntB s fun (k : Nat) => clayAt (W.slots k) (Int.toNat f)) : Int) = (↑(cntB s' fun (k : Nat) => clayAt (W.slots k) (Int.toNat f)) : Int) ∧ ((anyB s fun (k : Nat) => freeAt (W.slots k) (Int.toNat f)) = anyB s' fun (k : Nat)
    => freeAt (W.slots k) (Int.toNat f)) ∧ (↑(cntB s fun (k : Nat) => keyAt (W.slots k) (Int.toNat f)) : Int) = (↑(cntB s' fun (k : Nat) => keyAt (W.slots k) (Int.toNat f)) : Int) ∧ (K_frameWell_0 W) ∧ s' ≤ W.nSlots ∧ W.nSlots - s' < W.nSlots - s))) ∧ (decide ((↑s : Int) < (↑W.nSlots : Int)) = false → (decide ((↑(cntB s fun (k : Nat) => clayAt (W.slots k) (Int.toNat f)) : Int) ≤ (1 : Int)) = true → (0 : Int) ≤ f ∧ f < (↑W.nKinds : Int)) ∧ (bif decide ((↑(cntB s fun (k : Nat) => clayAt (W.slots k) (Int.toNat f)) : Int) ≤ (1 : Int)) then bif W.kinds (Int.toNat f) == (0 : Int) then true else bif decide ((0 : Int) < (↑(cntB s fun (k : Nat) => keyAt (W.slots k) (Int.toNat f)) : Int)) then !anyB s fun (k : Nat) => freeAt (W.slots k) (Int.toNat f) else false else false) = frB W (Int.toNat f) ∧ True)
theorem q_frameWell (W : Wd) (f : Int) : evBody Tryd.prog false glN (mkT []) Tryd.f101 (a_frameWell W f) (m_frameWell W f) [.inv (an_fw W f.toNat)] (r_frameWell W f) (n_frameWell W f) = V_frameWell W f := by kernel_rfl
theorem pf_frameWell (W : Wd) (f : Int) (hp : p_frameWell W f) : FnC Tryd.prog glN 101 (a_frameWell W f) (m_frameWell W f) (r_frameWell W f) (n_frameWell W f) := by
  refine fn_of sound_nil false Tryd.func101 [.inv (an_fw W f.toNat)] (q_frameWell W f) ?_
  unfold V_frameWell
  unfold p_frameWell at hp
  obtain ⟨hz, f0, f1, hs⟩ := hp
  obtain ⟨F, rfl⟩ : ∃ F : Nat, f = F := ⟨f.toNat, by omega⟩
  simp only [K_frameWell_0, true_and, and_true, and_self, implies_true, eq_self, Int.toNat_natCast, Nat.zero_add, Int.natCast_nonneg, Nat.not_lt_zero, false_implies, Nat.zero_le, Int.natCast_zero, Bool.cond_self, Bool.cond_true_left, Bool.cond_false_right, Bool.cond_true_right, Bool.cond_false_left]
  refine ⟨rfl, rfl, rfl, fun s hs0 hn => ⟨fun h => ?_, fun h => ?_⟩⟩
  · have hlt := lt_of_dec h
    have hr := slNo_range (slBs_no (hs s hlt))
    have k1 : IntKind.i64.wrap ((s : Int) + 1) = s + 1 := by rw [IntKind.wrap_i64]; omega
    have hb1 := cntB_le (fun k => clayAt (W.slots k) F) s
    have hb2 := cntB_le (fun k => keyAt (W.slots k) F) s
    have kc : ((W.slots s).kind == 1 && decide ((W.slots s).base ≤ F) && decide ((F : Int) < (W.slots s).base + (W.slots s).len)) = clayAt (W.slots s) F := rfl
    have kk : ((W.slots s).kind != 1 && (W.slots s).kind != 0 && (W.slots s).base == F) = keyAt (W.slots s) F := rfl
    have ec : (cntB (s + 1) fun k => clayAt (W.slots k) F) = (cntB s fun k => clayAt (W.slots k) F) + (bif clayAt (W.slots s) F then 1 else 0) := rfl
    have ek : (cntB (s + 1) fun k => keyAt (W.slots k) F) = (cntB s fun k => keyAt (W.slots k) F) + (bif keyAt (W.slots s) F then 1 else 0) := rfl
    have ef : (anyB (s + 1) fun k => freeAt (W.slots k) F) = ((anyB s fun k => freeAt (W.slots k) F) || freeAt (W.slots s) F) := anyB_succ _ _
    rw [kc, kk]
    refine ⟨by omega, fun _ => by rw [IntKind.wrap_i64]; omega, fun hc => ?_, fun hc => ?_⟩
    · have hfr : freeAt (W.slots s) F = decide ((W.slots s).base + (W.slots s).mark ≤ F) := by unfold freeAt; rw [hc]; rfl
      refine ⟨by rw [IntKind.wrap_i64]; omega, fun _ => by rw [IntKind.wrap_i64]; omega, fun hk => ?_, fun hk => ?_⟩
      · exact ⟨by rw [IntKind.wrap_i64]; omega, k1, exS ⟨by rw [ec, hc]; simp, by rw [ef, hfr], by rw [ek, hk]; simp, by omega, by omega⟩⟩
      · exact ⟨k1, exS ⟨by rw [ec, hc]; simp, by rw [ef, hfr], by rw [ek, hk]; simp, by omega, by omega⟩⟩
    · have hfr : freeAt (W.slots s) F = false := by unfold freeAt; rw [hc]; rfl
      refine ⟨fun hk => ?_, fun hk => ?_⟩
      · exact ⟨by rw [IntKind.wrap_i64]; omega, k1, exS ⟨by rw [ec, hc]; simp, by rw [ef, hfr]; simp, by rw [ek, hk]; simp, by omega, by omega⟩⟩
      · exact ⟨k1, exS ⟨by rw [ec, hc]; simp, by rw [ef, hfr]; simp, by rw [ek, hk]; simp, by omega, by omega⟩⟩
  · have hge := ge_of_dec h
    obtain rfl : s = W.nSlots := by omega
    refine ⟨fun _ => by omega, ?_⟩
    unfold frB
    rw [show decide (((cntB W.nSlots fun k => clayAt (W.slots k) F : Nat) : Int) ≤ 1) = decide ((cntB W.nSlots fun k => clayAt (W.slots k) F) ≤ 1) from decide_eq_decide.2 (by omega), show decide (0 < ((cntB W.nSlots fun k => keyAt (W.slots k) F : Nat) : Int)) = decide (0 < cntB W.nSlots fun k => keyAt (W.slots k) F) from decide_eq_decide.2 (by omega)]
theorem ok_frameWell : FnOK Tryd.prog glN 101 c_frameWell := fnOK_of (fun l w => Tryd.call101 l w) fun x_ hp => pf_frameWell x_.W x_.f hp
end Go.Proofs.YtfmaeiilbhpepaaDoor
set_option linter.unusedVariables false
set_option linter.unusedSimpArgs false
set_option maxRecDepth 100000
namespace Go.Proofs.YtfmaeiilbhpepaaDoor
open Go.RowKit Go.Sy
theorem slBs_pos {W : Wd} {i : Nat} {s : Slt} (h : (s.kind == 0) = false) : slBs W i s = (W.kinds (i / 16) == 5 && slNo s == 0 && decide (s.base + s.len ≤ W.nKinds) && (s.kind == 1 || W.kinds s.base.toNat == s.kind) && (s.from_ == -1 || (inS W s.from_ && madeB s (W.slots s.from_.toNat) && !inS W (upK W s.from_ W.nSlots)))) := by unfold slBs; rw [h]; rfl
theorem notIn {W : Wd} {u : Int} : (decide (u < 0) || decide ((W.nSlots : Int) ≤ u)) = !inS W u := by
  cases hq : inS W u with
  | true => have := inS_iff.1 hq; rw [decide_eq_false (by omega), decide_eq_false (by omega)]; rfl
  | false =>
    have : ¬ (0 ≤ u ∧ u < W.nSlots) := fun h => by rw [inS_iff.2 h] at hq; cases hq
    rcases Int.lt_or_le u 0 with h | h
    · rw [decide_eq_true h]; rfl
    · rw [decide_eq_true (show (W.nSlots : Int) ≤ u by omega)]; simp
theorem sw_loop {W : Wd} {u : Int} {b : Bool} (hN : W.nSlots ≤ 1000) (hR : b = !inS W (upK W u W.nSlots)) : u = upK W u 0 ∧ ∀ (s : Nat), s ≤ W.nSlots → (W.nSlots : Int) ≤ 9223372036854775807 →
    ((decide ((s : Int) < (W.nSlots : Int)) && decide (0 ≤ upK W u s) && decide (upK W u s < (W.nSlots : Int))) = true → (0 ≤ upK W u s ∧ upK W u s < (W.nSlots : Int)) ∧ IntKind.i64.wrap ((s : Int) + 1) = (s : Int) + 1 ∧ ∃ s' : Nat, (s : Int) + 1 = (s' : Int) ∧ (W.slots (upK W u s).toNat).from_ = upK W u s' ∧ s' ≤ W.nSlots ∧ W.nSlots - s' < W.nSlots - s) ∧
    ((decide ((s : Int) < (W.nSlots : Int)) && decide (0 ≤ upK W u s) && decide (upK W u s < (W.nSlots : Int))) = false → (decide (upK W u s < 0) || decide ((W.nSlots : Int) ≤ upK W u s)) = b) := by
  refine ⟨rfl, fun s hs _ => ⟨fun h => ?_, fun h => ?_⟩⟩
  · simp only [Bool.and_eq_true, decide_eq_true_eq] at h
    obtain ⟨⟨h1, h2⟩, h3⟩ := h
    exact ⟨⟨h2, h3⟩, by rw [IntKind.wrap_i64]; omega, exS ⟨(upS_in (inS_iff.2 ⟨h2, h3⟩)).symm, by omega, by omega⟩⟩
  · rw [hR, notIn]
    congr 1
    cases hq : inS W (upK W u s) with
    | false => rw [upK_out hq hs, hq]
    | true =>
      have h2 := inS_iff.1 hq
      simp only [decide_eq_true h2.1, decide_eq_true h2.2, Bool.and_true] at h
      obtain rfl : s = W.nSlots := by have := of_decide_eq_false h; omega
      exact hq.symm
theorem keyNo_slNo (s : Slt) : keyNo s.kind s.base s.len s.mark s.rights s.badge = slNo s := rfl
theorem eqF {b : Bool} (h : b = true → False) : false = b := by cases b <;> simp_all
structure X_slotWell where
  W : Wd
  i : Int
def a_slotWell (W : Wd) (i : Int) : List SV := [wSV W, .v (.int .i64 i)]
def m_slotWell (W : Wd) (i : Int) : List Blk := []
def r_slotWell (W : Wd) (i : Int) : SV := .v (.bool (slB W i.toNat))
def n_slotWell (W : Wd) (i : Int) : List Blk := []
def p_slotWell (W : Wd) (i : Int) : Prop := Szd W ∧ 0 ≤ i ∧ i < W.nSlots
def s_slotWell : Sy.Spec where
  X := X_slotWell
  args x_ := a_slotWell x_.W x_.i
  mem x_ := m_slotWell x_.W x_.i
  pre x_ := p_slotWell x_.W x_.i
  res x_ := r_slotWell x_.W x_.i
  mem' x_ := n_slotWell x_.W x_.i
  dec args mem := match args with | [a0, a1] => some ⟨wSVD a0, intD (a1)⟩ | _ => none
def c_slotWell : Con := ⟨[], s_slotWell.g, none⟩
def K_slotWell_0 (W : Wd) : Prop :=
  ((((((((((((True ∧ W.nRam = W.nRam ∧ ∀ (i : Nat), i < W.nRam → True ∧ W.ram i = W.ram i) ∧ W.nKinds = W.nKinds ∧ ∀ (i : Nat), i < W.nKinds → True ∧ W.kinds i = W.kinds i) ∧ W.nSlots = W.nSlots ∧ ∀ (i : Nat), i < W.nSlots → ((((((True ∧ (W.slots i).kind = (W.slots i).kind) ∧ (W.slots i).base = (W.slots i).base) ∧ (W.slots i).len = (W.slots i).len) ∧ (W.slots i).mark = (W.slots i).mark) ∧ (W.slots i).rights = (W.slots i).rights) ∧ (W.slots i).badge = (W.slots i).badge) ∧ (W.slots i).from_ = (W.slots i).from_) ∧ W.nTasks = W.nTasks ∧ ∀ (i : Nat), i < W.nTasks → (((((((((((((((((((True ∧ (W.tasks i).r0 = (W.tasks i).r0) ∧ (W.tasks i).r1 = (W.tasks i).r1) ∧ (W.tasks i).r2 = (W.tasks i).r2) ∧ (W.tasks i).r3 = (W.tasks i).r3) ∧ (W.tasks i).r4 = (W.tasks i).r4) ∧ (W.tasks i).r5 = (W.tasks i).r5) ∧ (W.tasks i).r6 = (W.tasks i).r6) ∧ (W.tasks i).r7 = (W.tasks i).r7) ∧ (W.tasks i).pc = (W.tasks i).pc) ∧ (W.tasks i).st = (W.tasks i).st) ∧ (W.tasks i).prio = (W.tasks i).prio) ∧ (W.tasks i).node = (W.tasks i).node) ∧ (W.tasks i).space = (W.tasks i).space) ∧ (W.tasks i).helper = (W.tasks i).helper) ∧ (W.tasks i).loc = (W.tasks i).loc) ∧ (W.tasks i).word = (W.tasks i).word) ∧ (W.tasks i).badge = (W.tasks i).badge) ∧ (W.tasks i).owes = (W.tasks i).owes) ∧ (W.tasks i).core = (W.tasks i).core) ∧ (W.tasks i).dom = (W.tasks i).dom) ∧ W.nLines = W.nLines ∧ ∀ (i : Nat), i < W.nLines → True ∧ W.linesN i = W.linesN i ∧ ∀ (i_1 : Nat), i_1 < W.linesN i → True ∧ W.lines i i_1 = W.lines i i_1) ∧ W.nBits
    = W.nBits ∧ ∀ (i : Nat), i < W.nBits → True ∧ W.bits i = W.bits i) ∧ W.nCores = W.nCores ∧ ∀ (i : Nat), i < W.nCores → True ∧ W.cores i = W.cores i) ∧ W.nReady = W.nReady ∧ ∀ (i : Nat), i < W.nReady → True ∧ W.readyN i = W.readyN i ∧ ∀ (i_1 : Nat), i_1 < W.readyN i → True ∧ W.ready i i_1 = W.ready i i_1) ∧ W.nTlbs = W.nTlbs ∧ ∀ (i : Nat), i < W.nTlbs → True ∧ W.tlbsN i = W.tlbsN i ∧ ∀ (i_1 : Nat), i_1 < W.tlbsN i → (((True ∧ (W.tlbs i i_1).sp = (W.tlbs i i_1).sp) ∧ (W.tlbs i i_1).pg = (W.tlbs i i_1).pg) ∧ (W.tlbs i i_1).fr = (W.tlbs i i_1).fr) ∧ (W.tlbs i i_1).wr = (W.tlbs i i_1).wr) ∧ W.nDoms = W.nDoms ∧ ∀ (i : Nat), i < W.nDoms → True ∧ W.doms i = W.doms i) ∧ W.time = W.time) ∧ True)
def K_slotWell_1 (W : Wd) (i : Int) (s : Nat) : Prop :=
  ((bif bif decide ((↑s : Int) < (↑W.nSlots : Int)) then decide ((0 : Int) ≤ upK W (W.slots (Int.toNat i)).from_ s) else false then decide (upK W (W.slots (Int.toNat i)).from_ s < (↑W.nSlots : Int)) else false) = true → ((0 : Int) ≤ upK W (W.slots (Int.toNat i)).from_ s ∧ upK W (W.slots (Int.toNat i)).from_ s < (↑W.nSlots : Int)) ∧ IntKind.wrap IntKind.i64 ((↑s : Int) + (1 : Int)) = (↑s : Int) + (1 : Int) ∧ ∃ (s' : Nat), SV.ptr (0 : Nat) (0 : Nat) none (nat_lit 0) (nat_lit 0) = SV.ptr (0 : Nat) (0 : Nat) none (0 : Nat) (0 : Nat) ∧ (↑s : Int) + (1 : Int) = (↑s' : Int) ∧ (W.slots (Int.toNat (upK W (W.slots (Int.toNat i)).from_ s))).from_ = upK W (W.slots (Int.toNat i)).from_ s' ∧ (K_slotWell_0 W) ∧ s' ≤ W.nSlots ∧ W.nSlots - s' < W.nSlots - s)
def K_slotWell_2 (W : Wd) (i : Int) : Prop :=
  (((((((True ∧ (W.slots (Int.toNat i)).kind = (W.slots (Int.toNat i)).kind) ∧ (W.slots (Int.toNat i)).base = (W.slots (Int.toNat i)).base) ∧ (W.slots (Int.toNat i)).len = (W.slots (Int.toNat i)).len) ∧ (W.slots (Int.toNat i)).mark = (W.slots (Int.toNat i)).mark) ∧ (W.slots (Int.toNat i)).rights = (W.slots (Int.toNat i)).rights) ∧ (W.slots (Int.toNat i)).badge = (W.slots (Int.toNat i)).badge) ∧ True)
def K_slotWell_3 (W : Wd) (i : Int) (s : Nat) : Prop :=
  ((bif bif decide ((↑s : Int) < (↑W.nSlots : Int)) then decide ((0 : Int) ≤ upK W (W.slots (Int.toNat i)).from_ s) else false then decide (upK W (W.slots (Int.toNat i)).from_ s < (↑W.nSlots : Int)) else false) = false → (bif decide (upK W (W.slots (Int.toNat i)).from_ s < (0 : Int)) then true else decide ((↑W.nSlots : Int) ≤ upK W (W.slots (Int.toNat i)).from_ s)) = slB W (Int.toNat i) ∧ True)
def V_slotWell (W : Wd) (i : Int) : Prop :=
  True ∧ ((0 : Int) ≤ i ∧ i < (↑W.nSlots : Int)) ∧ True ∧ (True ∧ True ∧ True ∧ True ∧ True ∧ True ∧ True) ∧ True ∧ (True ∧ True ∧ True ∧ True ∧ True ∧ True) ∧ (((W.slots (Int.toNat i)).kind == (0 : Int)) = true → ((K_slotWell_2 W i) ∧ True ∧ True) ∧ (bif keyNo (W.slots (Int.toNat i)).kind (W.slots (Int.toNat i)).base (W.slots (Int.toNat i)).len (W.slots (Int.toNat i)).mark (W.slots (Int.toNat i)).rights (W.slots (Int.toNat i)).badge == (0 : Int) then (W.slots (Int.toNat i)).from_ == (-1 : Int) else false) = slB W (Int.toNat i) ∧ True) ∧ (((W.slots (Int.toNat i)).kind == (0 : Int)) = false → ((0 : Int) ≤ i ∧ (0 : Int) < (16 : Int) ∧ IntKind.wrap IntKind.i64 (i / (16 : Int)) = i / (16 : Int)) ∧ ((0 : Int) ≤ i / (16 : Int) ∧ i / (16 : Int) < (↑W.nKinds : Int)) ∧ ((W.kinds (Int.toNat (i / (16 : Int))) != (5 : Int)) = false → (K_slotWell_2 W i) ∧ True ∧ True) ∧ ((bif W.kinds (Int.toNat (i / (16 : Int))) != (5 : Int) then true else keyNo (W.slots (Int.toNat i)).kind (W.slots (Int.toNat i)).base (W.slots (Int.toNat i)).len (W.slots (Int.toNat i)).mark (W.slots (Int.toNat i)).rights (W.slots (Int.toNat i)).badge != (0 : Int)) = false → IntKind.wrap IntKind.i64 ((W.slots (Int.toNat i)).base + (W.slots (Int.toNat i)).len) = (W.slots (Int.toNat i)).base + (W.slots (Int.toNat i)).len) ∧ ((bif bif W.kinds (Int.toNat (i / (16 : Int))) != (5 : Int) then true else keyNo (W.slots (Int.toNat i)).kind (W.slots (Int.toNat i)).base (W.slots (Int.toNat i)).len (W.slots (Int.toNat i)).mark (W.slots
    (Int.toNat i)).rights (W.slots (Int.toNat i)).badge != (0 : Int) then true else decide ((↑W.nKinds : Int) < (W.slots (Int.toNat i)).base + (W.slots (Int.toNat i)).len)) = true → false = slB W (Int.toNat i) ∧ True) ∧ ((bif bif W.kinds (Int.toNat (i / (16 : Int))) != (5 : Int) then true else keyNo (W.slots (Int.toNat i)).kind (W.slots (Int.toNat i)).base (W.slots (Int.toNat i)).len (W.slots (Int.toNat i)).mark (W.slots (Int.toNat i)).rights (W.slots (Int.toNat i)).badge != (0 : Int) then true else decide ((↑W.nKinds : Int) < (W.slots (Int.toNat i)).base + (W.slots (Int.toNat i)).len)) = false → True ∧ True ∧ True ∧ True ∧ True ∧ True ∧ True ∧ True ∧ (((W.slots (Int.toNat i)).kind != (1 : Int)) = true → (0 : Int) ≤ (W.slots (Int.toNat i)).base ∧ (W.slots (Int.toNat i)).base < (↑W.nKinds : Int)) ∧ True ∧ True ∧ True ∧ ((bif (W.slots (Int.toNat i)).kind != (1 : Int) then W.kinds (Int.toNat (W.slots (Int.toNat i)).base) != (W.slots (Int.toNat i)).kind else false) = true → false = slB W (Int.toNat i) ∧ True) ∧ ((bif (W.slots (Int.toNat i)).kind != (1 : Int) then W.kinds (Int.toNat (W.slots (Int.toNat i)).base) != (W.slots (Int.toNat i)).kind else false) = false → (((W.slots (Int.toNat i)).from_ == (-1 : Int)) = true → true = slB W (Int.toNat i) ∧ True) ∧ (((W.slots (Int.toNat i)).from_ == (-1 : Int)) = false → ((bif decide ((W.slots (Int.toNat i)).from_ < (0 : Int)) then true else decide ((↑W.nSlots : Int) ≤ (W.slots (Int.toNat i)).from_)) = true → false = slB W (Int.toNat i) ∧
    True) ∧ ((bif decide ((W.slots (Int.toNat i)).from_ < (0 : Int)) then true else decide ((↑W.nSlots : Int) ≤ (W.slots (Int.toNat i)).from_)) = false → ((0 : Int) ≤ (W.slots (Int.toNat i)).from_ ∧ (W.slots (Int.toNat i)).from_ < (↑W.nSlots : Int)) ∧ True ∧ (True ∧ True ∧ True ∧ True ∧ True ∧ True) ∧ ((((((((True ∧ (W.slots (Int.toNat (W.slots (Int.toNat i)).from_)).kind = (W.slots (Int.toNat (W.slots (Int.toNat i)).from_)).kind) ∧ (W.slots (Int.toNat (W.slots (Int.toNat i)).from_)).base = (W.slots (Int.toNat (W.slots (Int.toNat i)).from_)).base) ∧ (W.slots (Int.toNat (W.slots (Int.toNat i)).from_)).len = (W.slots (Int.toNat (W.slots (Int.toNat i)).from_)).len) ∧ (W.slots (Int.toNat (W.slots (Int.toNat i)).from_)).mark = (W.slots (Int.toNat (W.slots (Int.toNat i)).from_)).mark) ∧ (W.slots (Int.toNat (W.slots (Int.toNat i)).from_)).rights = (W.slots (Int.toNat (W.slots (Int.toNat i)).from_)).rights) ∧ (W.slots (Int.toNat (W.slots (Int.toNat i)).from_)).badge = (W.slots (Int.toNat (W.slots (Int.toNat i)).from_)).badge) ∧ True) ∧ True ∧ True) ∧ ((keyNo (W.slots (Int.toNat (W.slots (Int.toNat i)).from_)).kind (W.slots (Int.toNat (W.slots (Int.toNat i)).from_)).base (W.slots (Int.toNat (W.slots (Int.toNat i)).from_)).len (W.slots (Int.toNat (W.slots (Int.toNat i)).from_)).mark (W.slots (Int.toNat (W.slots (Int.toNat i)).from_)).rights (W.slots (Int.toNat (W.slots (Int.toNat i)).from_)).badge != (0 : Int)) = true → false = slB W (Int.toNat i) ∧ True) ∧ ((keyNo (W.slots (Int.toNat
    (W.slots (Int.toNat i)).from_)).kind (W.slots (Int.toNat (W.slots (Int.toNat i)).from_)).base (W.slots (Int.toNat (W.slots (Int.toNat i)).from_)).len (W.slots (Int.toNat (W.slots (Int.toNat i)).from_)).mark (W.slots (Int.toNat (W.slots (Int.toNat i)).from_)).rights (W.slots (Int.toNat (W.slots (Int.toNat i)).from_)).badge != (0 : Int)) = false → (((W.slots (Int.toNat (W.slots (Int.toNat i)).from_)).kind == (1 : Int)) = true → ((bif (W.slots (Int.toNat i)).kind == (1 : Int) then true else decide ((W.slots (Int.toNat i)).base < (W.slots (Int.toNat (W.slots (Int.toNat i)).from_)).base)) = false → IntKind.wrap IntKind.i64 ((W.slots (Int.toNat i)).base - (W.slots (Int.toNat (W.slots (Int.toNat i)).from_)).base) = (W.slots (Int.toNat i)).base - (W.slots (Int.toNat (W.slots (Int.toNat i)).from_)).base) ∧ ((bif bif (W.slots (Int.toNat i)).kind == (1 : Int) then true else decide ((W.slots (Int.toNat i)).base < (W.slots (Int.toNat (W.slots (Int.toNat i)).from_)).base) then true else decide ((W.slots (Int.toNat (W.slots (Int.toNat i)).from_)).mark ≤ (W.slots (Int.toNat i)).base - (W.slots (Int.toNat (W.slots (Int.toNat i)).from_)).base)) = true → false = slB W (Int.toNat i) ∧ True) ∧ ((bif bif (W.slots (Int.toNat i)).kind == (1 : Int) then true else decide ((W.slots (Int.toNat i)).base < (W.slots (Int.toNat (W.slots (Int.toNat i)).from_)).base) then true else decide ((W.slots (Int.toNat (W.slots (Int.toNat i)).from_)).mark ≤ (W.slots (Int.toNat i)).base - (W.slots (Int.toNat
    (W.slots (Int.toNat i)).from_)).base)) = false → SV.ptr (0 : Nat) (0 : Nat) none (nat_lit 0) (nat_lit 0) = SV.ptr (0 : Nat) (0 : Nat) none (0 : Nat) (0 : Nat) ∧ (0 : Int) = (↑(0 : Nat) : Int) ∧ (W.slots (Int.toNat i)).from_ = upK W (W.slots (Int.toNat i)).from_ (0 : Nat) ∧ (K_slotWell_0 W) ∧ (0 : Nat) ≤ W.nSlots ∧ ∀ (s : Nat), s ≤ W.nSlots → (↑W.nSlots : Int) ≤ (9223372036854775807 : Int) → (K_slotWell_1 W i s) ∧ (K_slotWell_3 W i s))) ∧ (((W.slots (Int.toNat (W.slots (Int.toNat i)).from_)).kind == (1 : Int)) = false → True ∧ True ∧ True ∧ True ∧ True ∧ True ∧ True ∧ True ∧ True ∧ True ∧ True ∧ True ∧ True ∧ True ∧ True ∧ True ∧ True ∧ True ∧ True ∧ True ∧ True ∧ True ∧ True ∧ True ∧ True ∧ True ∧ True ∧ True ∧ True ∧ ((bif bif (W.slots (Int.toNat (W.slots (Int.toNat i)).from_)).kind != (W.slots (Int.toNat i)).kind then true else (W.slots (Int.toNat (W.slots (Int.toNat i)).from_)).base != (W.slots (Int.toNat i)).base then true else bif (W.slots (Int.toNat (W.slots (Int.toNat i)).from_)).badge != (0 : Int) then (W.slots (Int.toNat (W.slots (Int.toNat i)).from_)).badge != (W.slots (Int.toNat i)).badge else false) = false → ((W.slots (Int.toNat (W.slots (Int.toNat i)).from_)).rights = (W.slots (Int.toNat (W.slots (Int.toNat i)).from_)).rights ∧ (W.slots (Int.toNat i)).rights = (W.slots (Int.toNat i)).rights ∧ (6 : Int) = (6 : Int) ∧ True) ∧ True ∧ (0 : Int) ≤ (W.slots (Int.toNat (W.slots (Int.toNat i)).from_)).rights ∧ (W.slots (Int.toNat (W.slots (Int.toNat
    i)).from_)).rights ≤ (65535 : Int) ∧ (0 : Int) ≤ (W.slots (Int.toNat i)).rights ∧ (W.slots (Int.toNat i)).rights ≤ (65535 : Int) ∧ ((6 : Int) = (6 : Int) ∨ (6 : Int) = (7 : Int) ∨ (6 : Int) = (8 : Int))) ∧ True ∧ True ∧ ((bif bif bif (W.slots (Int.toNat (W.slots (Int.toNat i)).from_)).kind != (W.slots (Int.toNat i)).kind then true else (W.slots (Int.toNat (W.slots (Int.toNat i)).from_)).base != (W.slots (Int.toNat i)).base then true else bif (W.slots (Int.toNat (W.slots (Int.toNat i)).from_)).badge != (0 : Int) then (W.slots (Int.toNat (W.slots (Int.toNat i)).from_)).badge != (W.slots (Int.toNat i)).badge else false then true else (↑(bitw (6 : Int) (Int.toNat (W.slots (Int.toNat (W.slots (Int.toNat i)).from_)).rights) (Int.toNat (W.slots (Int.toNat i)).rights)) : Int) != (W.slots (Int.toNat i)).rights) = true → false = slB W (Int.toNat i) ∧ True) ∧ ((bif bif bif (W.slots (Int.toNat (W.slots (Int.toNat i)).from_)).kind != (W.slots (Int.toNat i)).kind then true else (W.slots (Int.toNat (W.slots (Int.toNat i)).from_)).base != (W.slots (Int.toNat i)).base then true else bif (W.slots (Int.toNat (W.slots (Int.toNat i)).from_)).badge != (0 : Int) then (W.slots (Int.toNat (W.slots (Int.toNat i)).from_)).badge != (W.slots (Int.toNat i)).badge else false then true else (↑(bitw (6 : Int) (Int.toNat (W.slots (Int.toNat (W.slots (Int.toNat i)).from_)).rights) (Int.toNat (W.slots (Int.toNat i)).rights)) : Int) != (W.slots (Int.toNat i)).rights) = false → SV.ptr (0 : Nat) (0 : Nat) none
    (nat_lit 0) (nat_lit 0) = SV.ptr (0 : Nat) (0 : Nat) none (0 : Nat) (0 : Nat) ∧ (0 : Int) = (↑(0 : Nat) : Int) ∧ (W.slots (Int.toNat i)).from_ = upK W (W.slots (Int.toNat i)).from_ (0 : Nat) ∧ (K_slotWell_0 W) ∧ (0 : Nat) ≤ W.nSlots ∧ ∀ (s : Nat), s ≤ W.nSlots → (↑W.nSlots : Int) ≤ (9223372036854775807 : Int) → (K_slotWell_1 W i s) ∧ (K_slotWell_3 W i s)))))))))
theorem q_slotWell (W : Wd) (i : Int) : evBody Tryd.prog false glN (mkT [(23, c_keyMay), (72, c_bitwise)]) Tryd.f100 (a_slotWell W i) (m_slotWell W i) [.inv (an_sw W (W.slots i.toNat).from_)] (r_slotWell W i) (n_slotWell W i) = V_slotWell W i := by kernel_rfl
theorem pf_slotWell (W : Wd) (i : Int) (hp : p_slotWell W i) : FnC Tryd.prog glN 100 (a_slotWell W i) (m_slotWell W i) (r_slotWell W i) (n_slotWell W i) := by
  refine fn_of (sound_cons ok_keyMay (sound_cons ok_bitwise sound_nil)) false Tryd.func100 [.inv (an_sw W (W.slots i.toNat).from_)] (q_slotWell W i) ?_
  unfold V_slotWell
  unfold p_slotWell at hp
  obtain ⟨hz, i0, i1⟩ := hp
  obtain ⟨I, rfl⟩ : ∃ I : Nat, i = I := ⟨i.toNat, by omega⟩
  simp only [K_slotWell_0, K_slotWell_1, K_slotWell_2, K_slotWell_3, true_and, and_true, and_self, implies_true, eq_self, Int.toNat_natCast, Nat.zero_add, Int.natCast_nonneg, Nat.not_lt_zero, false_implies, Nat.zero_le, Int.natCast_zero, Bool.cond_self, Bool.cond_true_left, Bool.cond_false_right, Bool.cond_true_right, Bool.cond_false_left]
  have e16 : ((I : Int) / 16).toNat = I / 16 := by omega
  unfold slB
  rw [e16]
  simp only [keyNo_slNo]
  have hz1 := hz.slots
  have hz2 := hz.k1
  have hz3 := hz.k0
  have toP : ∀ {b : Bool}, b = false → ¬ b = true := fun h => by rw [h]; exact Bool.false_ne_true
  obtain ⟨S, hS⟩ : ∃ S, S = W.slots I := ⟨_, rfl⟩
  simp only [← hS]
  refine ⟨by omega, fun h => ?_, fun h => ⟨⟨by decide, by rw [IntKind.wrap_i64]; omega⟩, ⟨by omega, by omega⟩, fun h1 => ?_, fun h1 => ?_, fun h1 => ?_⟩⟩
  · unfold slBs; rw [h]; rfl
  · simp only [Bool.or_eq_false_iff, bne_eq_false_iff_eq] at h1
    have := slNo_range h1.2
    rw [IntKind.wrap_i64]; omega
  · refine eqF fun ht => ?_
    rw [slBs_pos h] at ht
    simp only [Bool.and_eq_true, Bool.or_eq_true, beq_iff_eq, decide_eq_true_eq, bne_iff_ne, ne_eq] at ht h1
    omega
  have T : W.kinds (I / 16) = 5 ∧ slNo S = 0 ∧ S.base + S.len ≤ W.nKinds := by
    simp only [Bool.or_eq_false_iff, bne_eq_false_iff_eq, decide_eq_false_iff_not] at h1
    exact ⟨h1.1.1, h1.1.2, by omega⟩
  obtain ⟨T1, T2, T3⟩ := T
  have hr := slNo_range T2
  have hk0 : S.kind ≠ 0 := by simpa using h
  have hlen : 1 ≤ S.len := by
    have h0 : keyNo S.kind S.base S.len S.mark S.rights S.badge = 0 := T2
    unfold keyNo keyBad1 keyBad2 farB at h0
    simp only [cond_eq_ite, bne, Bool.or_eq_true, Bool.and_eq_true, Bool.not_eq_true', decide_eq_true_eq, beq_iff_eq, beq_eq_false_iff_ne] at h0
    repeat' split at h0
    all_goals first | (cases h0; done) | omega
  refine ⟨fun _ => by omega, fun h2 => ?_, fun h2 => ?_⟩
  · refine eqF fun ht => ?_
    rw [slBs_pos h] at ht
    simp only [Bool.and_eq_true, Bool.or_eq_true, beq_iff_eq, decide_eq_true_eq, bne_iff_ne, ne_eq] at ht h2
    omega
  have T4 : (S.kind == 1 || W.kinds S.base.toNat == S.kind) = true := by
    revert h2
    simp only [bne]
    cases S.kind == 1 <;> cases W.kinds S.base.toNat == S.kind <;> simp
  have core : slBs W I S = (S.from_ == -1 || (inS W S.from_ && madeB S (W.slots S.from_.toNat) && !inS W (upK W S.from_ W.nSlots))) := by
    rw [slBs_pos h, T4, show (W.kinds (I / 16) == 5) = true from beq_iff_eq.2 T1, show (slNo S == 0) = true from beq_iff_eq.2 T2, show decide (S.base + S.len ≤ W.nKinds) = true from decide_eq_true T3]
    simp
  rw [core]
  refine ⟨fun h3 => by rw [h3]; rfl, fun h3 => ?_⟩
  rw [h3, notIn]
  refine ⟨fun h4 => by rw [show inS W S.from_ = false by revert h4; cases inS W S.from_ <;> simp]; rfl, fun h4 => ?_⟩
  have hin : inS W S.from_ = true := by revert h4; cases inS W S.from_ <;> simp
  rw [hin]
  have hi2 := inS_iff.1 hin
  obtain ⟨p, hp⟩ : ∃ p, p = W.slots S.from_.toNat := ⟨_, rfl⟩
  simp only [← hp]
  refine ⟨hi2, fun h5 => ?_, fun h5 => ?_⟩
  · rw [show madeB S p = false by unfold madeB; rw [show (slNo p == 0) = false by simpa using h5]; rfl]; rfl
  have hp0 : slNo p = 0 := by simpa using h5
  have hpr := slNo_range hp0
  refine ⟨fun h6 => ?_, fun h6 => ?_⟩
  · have hm : madeB S p = (S.kind != 1 && decide (p.base ≤ S.base) && decide (S.base - p.base < p.mark)) := by unfold madeB; rw [h6, show (slNo p == 0) = true from beq_iff_eq.2 hp0]; rfl
    refine ⟨fun _ => by rw [IntKind.wrap_i64]; omega, fun h7 => ?_, fun h7 => ?_⟩
    · refine eqF fun ht => ?_
      rw [hm] at ht
      simp only [Bool.and_eq_true, Bool.or_eq_true, beq_iff_eq, decide_eq_true_eq, bne_iff_ne, ne_eq, Bool.false_eq_true, false_or] at ht h7
      omega
    · refine sw_loop (by omega) ?_
      have : madeB S p = true := by
        rw [hm]
        simp only [Bool.and_eq_true, Bool.or_eq_false_iff, beq_eq_false_iff_ne, decide_eq_true_eq, decide_eq_false_iff_not, bne_iff_ne, ne_eq] at h7 ⊢
        omega
      rw [this]; rfl
  · have hm : madeB S p = (S.kind == p.kind && S.base == p.base && (p.badge == 0 || p.badge == S.badge) && (((bitw 6 p.rights.toNat S.rights.toNat : Nat) : Int) == S.rights)) := by unfold madeB; rw [h6, show (slNo p == 0) = true from beq_iff_eq.2 hp0]; rfl
    refine ⟨fun _ => ⟨by omega, by omega, by omega, by omega, .inl trivial⟩, fun h7 => ?_, fun h7 => ?_⟩
    · refine eqF fun ht => ?_
      rw [hm] at ht
      simp only [Bool.and_eq_true, Bool.or_eq_true, beq_iff_eq, decide_eq_true_eq, bne_iff_ne, ne_eq, Bool.false_eq_true, false_or] at ht h7
      omega
    · refine sw_loop (by omega) ?_
      have : madeB S p = true := by
        rw [hm]
        simp only [Bool.and_eq_true, Bool.or_eq_true, Bool.or_eq_false_iff, Bool.and_eq_false_iff, beq_iff_eq, bne_eq_false_iff_eq, decide_eq_true_eq, decide_eq_false_iff_not, bne_iff_ne, ne_eq] at h7 ⊢
        omega
      rw [this]; rfl
theorem ok_slotWell : FnOK Tryd.prog glN 100 c_slotWell := fnOK_of (fun l w => Tryd.call100 l w) fun x_ hp => pf_slotWell x_.W x_.i hp
end Go.Proofs.YtfmaeiilbhpepaaDoor
set_option linter.unusedVariables false
set_option linter.unusedSimpArgs false
set_option maxRecDepth 100000
namespace Go.Proofs.YtfmaeiilbhpepaaDoor
open Go.RowKit Go.Sy
def wL (W : Wd) : List SV := [.sl true 1 W.nRam (iF W.ram), .sl true 1 W.nKinds (iF W.kinds), .sl true 7 W.nSlots (rF fun i => slL (W.slots i)), .sl true 20 W.nTasks (rF fun i => runL (W.tasks i)), .sl true 1 W.nLines (fun i _ => .sl true 1 (W.linesN i) (iF (W.lines i))), .sl true 1 W.nBits (iF W.bits), .sl true 1 W.nCores (iF W.cores), .sl true 1 W.nReady (fun i _ => .sl true 1 (W.readyN i) (iF (W.ready i))), .sl true 1 W.nTlbs (fun i _ => .sl true 4 (W.tlbsN i) (rF fun k => enL (W.tlbs i k))), .sl true 1 W.nDoms (iF W.doms), .v (.int .i64 W.time)]
def an_tw1 (W : Wd) (f : Nat) : Ann where
  σ := Nat
  rt := [(2, 0), (5, 0)]
  sh i := [(2, pt0 0), (5, pt0 1), (6, .v (.int .i64 i))]
  mh _ := []
  inv i := i ≤ 8 ∧ ∀ j, j < i → farB (sel [(W.tasks f).r0, (W.tasks f).r1, (W.tasks f).r2, (W.tasks f).r3, (W.tasks f).r4, (W.tasks f).r5, (W.tasks f).r6, (W.tasks f).r7] j) 65535 = false
  μ i := 8 - i
  init := 0
def an_tw2 (W : Wd) (f : Nat) : Ann where
  σ := Nat
  rt := [(2, 0), (5, 0)]
  sh i := [(2, pt0 0), (5, pt0 1), (8, .v (.int .i64 i)), (7, .v (.int .i64 (cntB i fun k => (W.tasks k).owes == f : Nat)))]
  mh _ := []
  inv i := i ≤ W.nTasks
  μ i := W.nTasks - i
  init := 0
theorem castE0 (a : Nat) : (((a : Nat) : Int) == 0) = (a == 0) := by rw [Bool.eq_iff_iff]; simp
theorem castE1 (a : Nat) : (((a : Nat) : Int) == 1) = (a == 1) := by rw [Bool.eq_iff_iff]; simp; omega
theorem tkB_pos {W : Wd} {f : Nat} (h : (W.kinds f != 6) = false) : tkB W f = (!regFar (W.tasks f) && !numFar W (W.tasks f) && refOK W (W.tasks f) && owesOK W (W.tasks f) && owedOK W f && stOK W f) := by unfold tkB; rw [h]; rfl
theorem reg_of {t : Run} (h : ∀ j, j < 8 → farB (sel [t.r0, t.r1, t.r2, t.r3, t.r4, t.r5, t.r6, t.r7] j) 65535 = false) : regFar t = false := by
  unfold regFar
  have h0 : farB t.r0 65535 = false := h 0 (by omega)
  have h1 : farB t.r1 65535 = false := h 1 (by omega)
  have h2 : farB t.r2 65535 = false := h 2 (by omega)
  have h3 : farB t.r3 65535 = false := h 3 (by omega)
  have h4 : farB t.r4 65535 = false := h 4 (by omega)
  have h5 : farB t.r5 65535 = false := h 5 (by omega)
  have h6 : farB t.r6 65535 = false := h 6 (by omega)
  have h7 : farB t.r7 65535 = false := h 7 (by omega)
  rw [h0, h1, h2, h3, h4, h5, h6, h7]; rfl
theorem reg_to {t : Run} (h : regFar t = false) : ∀ j, j < 8 → farB (sel [t.r0, t.r1, t.r2, t.r3, t.r4, t.r5, t.r6, t.r7] j) 65535 = false := by
  unfold regFar at h
  simp only [Bool.or_eq_false_iff] at h
  obtain ⟨⟨⟨⟨⟨⟨⟨h0, h1⟩, h2⟩, h3⟩, h4⟩, h5⟩, h6⟩, h7⟩ := h
  intro j hj
  have : j = 0 ∨ j = 1 ∨ j = 2 ∨ j = 3 ∨ j = 4 ∨ j = 5 ∨ j = 6 ∨ j = 7 := by omega
  rcases this with rfl | rfl | rfl | rfl | rfl | rfl | rfl | rfl
  · exact h0
  · exact h1
  · exact h2
  · exact h3
  · exact h4
  · exact h5
  · exact h6
  · exact h7
theorem okF_in {W : Wd} {f k : Int} (hk : k ≠ -1) (h : okF W f k = true) (hf : (f != -1) = true) : 0 ≤ f ∧ f < W.nKinds := by
  unfold okF at h
  have : (f == -1) = false := by revert hf; simp only [bne]; cases f == -1 <;> simp
  rw [this] at h
  have h : kof W f = k := by simpa using h
  exact kof_in (by rw [h]; exact hk)
theorem owed_eq {W : Wd} {f c : Nat} (hc : owed W f = c) : (decide (1 < (c : Int)) || ((c : Int) == 1 && (W.tasks f).st != 5) || ((c : Int) == 0 && (W.tasks f).st == 5)) = !owedOK W f := by
  unfold owedOK
  rw [hc, castE0, castE1]
  have : c = 0 ∨ c = 1 ∨ 2 ≤ c := by omega
  rcases this with rfl | rfl | h
  · cases hq : (W.tasks f).st == 5 <;> simp [bne, hq]
  · cases hq : (W.tasks f).st == 5 <;> simp [bne, hq]
  · rw [decide_eq_true (show (1 : Int) < c by omega), decide_eq_false (show ¬ c ≤ 1 by omega)]; rfl
theorem cnt1 (n : Nat) (l : Nat → Int) (x : Int) : cntLL 1 (fun _ => n) (fun _ => l) x = cntL n l x := by show 0 + cntL n l x = cntL n l x; omega
structure Bo where
  b : Bool
def cut_tw (W : Wd) (f : Nat) : Cut where
  σ := Bo
  rt := [(2, 0), (5, 0)]
  sh s := [(2, pt0 0), (5, pt0 1), (9, .v (.int .i64 (stands W f : Nat))), (10, .v (.int .i64 (turnsN W f : Nat))), (187, .v (.int .i64 (W.tasks f).st)), (188, .v (.bool s.b))]
  mem _ := [.cells (wL W), .cells (runL (W.tasks f))]
  inv s := s.b = ((W.tasks f).st == 2 || (W.tasks f).st == 3 || (W.tasks f).st == 4)
  dec fr _ := ⟨boolD (fr 188)⟩
structure X_taskWell where
  W : Wd
  f : Int
def a_taskWell (W : Wd) (f : Int) : List SV := [wSV W, .v (.int .i64 f)]
def m_taskWell (W : Wd) (f : Int) : List Blk := []
def r_taskWell (W : Wd) (f : Int) : SV := .v (.bool (tkB W f.toNat))
def n_taskWell (W : Wd) (f : Int) : List Blk := []
def p_taskWell (W : Wd) (f : Int) : Prop := Szd W ∧ smB W ∧ 0 ≤ f ∧ f < W.nKinds
def s_taskWell : Sy.Spec where
  X := X_taskWell
  args x_ := a_taskWell x_.W x_.f
  mem x_ := m_taskWell x_.W x_.f
  pre x_ := p_taskWell x_.W x_.f
  res x_ := r_taskWell x_.W x_.f
  mem' x_ := n_taskWell x_.W x_.f
  dec args mem := match args with | [a0, a1] => some ⟨wSVD a0, intD (a1)⟩ | _ => none
def c_taskWell : Con := ⟨[], s_taskWell.g, none⟩
def K_taskWell_0 (W : Wd) : Prop :=
  (((((((((((True ∧ W.nRam = W.nRam ∧ ∀ (i : Nat), i < W.nRam → True ∧ W.ram i = W.ram i) ∧ W.nKinds = W.nKinds ∧ ∀ (i : Nat), i < W.nKinds → True ∧ W.kinds i = W.kinds i) ∧ W.nSlots = W.nSlots ∧ ∀ (i : Nat), i < W.nSlots → ((((((True ∧ (W.slots i).kind = (W.slots i).kind) ∧ (W.slots i).base = (W.slots i).base) ∧ (W.slots i).len = (W.slots i).len) ∧ (W.slots i).mark = (W.slots i).mark) ∧ (W.slots i).rights = (W.slots i).rights) ∧ (W.slots i).badge = (W.slots i).badge) ∧ (W.slots i).from_ = (W.slots i).from_) ∧ W.nTasks = W.nTasks ∧ ∀ (i : Nat), i < W.nTasks → (((((((((((((((((((True ∧ (W.tasks i).r0 = (W.tasks i).r0) ∧ (W.tasks i).r1 = (W.tasks i).r1) ∧ (W.tasks i).r2 = (W.tasks i).r2) ∧ (W.tasks i).r3 = (W.tasks i).r3) ∧ (W.tasks i).r4 = (W.tasks i).r4) ∧ (W.tasks i).r5 = (W.tasks i).r5) ∧ (W.tasks i).r6 = (W.tasks i).r6) ∧ (W.tasks i).r7 = (W.tasks i).r7) ∧ (W.tasks i).pc = (W.tasks i).pc) ∧ (W.tasks i).st = (W.tasks i).st) ∧ (W.tasks i).prio = (W.tasks i).prio) ∧ (W.tasks i).node = (W.tasks i).node) ∧ (W.tasks i).space = (W.tasks i).space) ∧ (W.tasks i).helper = (W.tasks i).helper) ∧ (W.tasks i).loc = (W.tasks i).loc) ∧ (W.tasks i).word = (W.tasks i).word) ∧ (W.tasks i).badge = (W.tasks i).badge) ∧ (W.tasks i).owes = (W.tasks i).owes) ∧ (W.tasks i).core = (W.tasks i).core) ∧ (W.tasks i).dom = (W.tasks i).dom) ∧ W.nLines = W.nLines ∧ ∀ (i : Nat), i < W.nLines → True ∧ W.linesN i = W.linesN i ∧ ∀ (i_1 : Nat), i_1 < W.linesN i → True ∧ W.lines i i_1 = W.lines i i_1) ∧ W.nBits =
    W.nBits ∧ ∀ (i : Nat), i < W.nBits → True ∧ W.bits i = W.bits i) ∧ W.nCores = W.nCores ∧ ∀ (i : Nat), i < W.nCores → True ∧ W.cores i = W.cores i) ∧ W.nReady = W.nReady ∧ ∀ (i : Nat), i < W.nReady → True ∧ W.readyN i = W.readyN i ∧ ∀ (i_1 : Nat), i_1 < W.readyN i → True ∧ W.ready i i_1 = W.ready i i_1) ∧ W.nTlbs = W.nTlbs ∧ ∀ (i : Nat), i < W.nTlbs → True ∧ W.tlbsN i = W.tlbsN i ∧ ∀ (i_1 : Nat), i_1 < W.tlbsN i → (((True ∧ (W.tlbs i i_1).sp = (W.tlbs i i_1).sp) ∧ (W.tlbs i i_1).pg = (W.tlbs i i_1).pg) ∧ (W.tlbs i i_1).fr = (W.tlbs i i_1).fr) ∧ (W.tlbs i i_1).wr = (W.tlbs i i_1).wr) ∧ W.nDoms = W.nDoms ∧ ∀ (i : Nat), i < W.nDoms → True ∧ W.doms i = W.doms i) ∧ W.time = W.time)
def K_taskWell_1 (W : Wd) (f : Int) : Prop :=
  ((K_taskWell_0 W) ∧ ((((((((((((((((((((True ∧ (W.tasks (Int.toNat f)).r0 = (W.tasks (Int.toNat f)).r0) ∧ (W.tasks (Int.toNat f)).r1 = (W.tasks (Int.toNat f)).r1) ∧ (W.tasks (Int.toNat f)).r2 = (W.tasks (Int.toNat f)).r2) ∧ (W.tasks (Int.toNat f)).r3 = (W.tasks (Int.toNat f)).r3) ∧ (W.tasks (Int.toNat f)).r4 = (W.tasks (Int.toNat f)).r4) ∧ (W.tasks (Int.toNat f)).r5 = (W.tasks (Int.toNat f)).r5) ∧ (W.tasks (Int.toNat f)).r6 = (W.tasks (Int.toNat f)).r6) ∧ (W.tasks (Int.toNat f)).r7 = (W.tasks (Int.toNat f)).r7) ∧ (W.tasks (Int.toNat f)).pc = (W.tasks (Int.toNat f)).pc) ∧ (W.tasks (Int.toNat f)).st = (W.tasks (Int.toNat f)).st) ∧ (W.tasks (Int.toNat f)).prio = (W.tasks (Int.toNat f)).prio) ∧ (W.tasks (Int.toNat f)).node = (W.tasks (Int.toNat f)).node) ∧ (W.tasks (Int.toNat f)).space = (W.tasks (Int.toNat f)).space) ∧ (W.tasks (Int.toNat f)).helper = (W.tasks (Int.toNat f)).helper) ∧ (W.tasks (Int.toNat f)).loc = (W.tasks (Int.toNat f)).loc) ∧ (W.tasks (Int.toNat f)).word = (W.tasks (Int.toNat f)).word) ∧ (W.tasks (Int.toNat f)).badge = (W.tasks (Int.toNat f)).badge) ∧ (W.tasks (Int.toNat f)).owes = (W.tasks (Int.toNat f)).owes) ∧ (W.tasks (Int.toNat f)).core = (W.tasks (Int.toNat f)).core) ∧ (W.tasks (Int.toNat f)).dom = (W.tasks (Int.toNat f)).dom) ∧ True)
def V_taskWell (W : Wd) (f : Int) : Prop :=
  True ∧ ((0 : Int) ≤ f ∧ f < (↑W.nTasks : Int)) ∧ True ∧ (True ∧ True ∧ True ∧ True ∧ True ∧ True ∧ True ∧ True ∧ True ∧ True ∧ True ∧ True ∧ True ∧ True ∧ True ∧ True ∧ True ∧ True ∧ True ∧ True) ∧ ((0 : Int) ≤ f ∧ f < (↑W.nKinds : Int)) ∧ ((W.kinds (Int.toNat f) != (6 : Int)) = true → True ∧ (True ∧ True ∧ True) ∧ ((W.tasks (Int.toNat f)).r0 == (0 : Int) && ((W.tasks (Int.toNat f)).r1 == (0 : Int) && ((W.tasks (Int.toNat f)).r2 == (0 : Int) && ((W.tasks (Int.toNat f)).r3 == (0 : Int) && ((W.tasks (Int.toNat f)).r4 == (0 : Int) && ((W.tasks (Int.toNat f)).r5 == (0 : Int) && ((W.tasks (Int.toNat f)).r6 == (0 : Int) && ((W.tasks (Int.toNat f)).r7 == (0 : Int) && true))))))) && ((W.tasks (Int.toNat f)).pc == (0 : Int) && ((W.tasks (Int.toNat f)).st == (0 : Int) && ((W.tasks (Int.toNat f)).prio == (0 : Int) && ((W.tasks (Int.toNat f)).node == (-1 : Int) && ((W.tasks (Int.toNat f)).space == (-1 : Int) && ((W.tasks (Int.toNat f)).helper == (-1 : Int) && ((W.tasks (Int.toNat f)).loc == (-1 : Int) && ((W.tasks (Int.toNat f)).word == (0 : Int) && ((W.tasks (Int.toNat f)).badge == (0 : Int) && ((W.tasks (Int.toNat f)).owes == (-1 : Int) && ((W.tasks (Int.toNat f)).core == (0 : Int) && ((W.tasks (Int.toNat f)).dom == (0 : Int) && true))))))))))))) = tkB W (Int.toNat f) ∧ True) ∧ ((W.kinds (Int.toNat f) != (6 : Int)) = false → SV.ptr (0 : Nat) (0 : Nat) none (nat_lit 0) (nat_lit 0) = SV.ptr (0 : Nat) (0 : Nat) none (0 : Nat) (0 : Nat) ∧ SV.ptr ((0 : Nat) + (1 : Nat)) (0 : Nat) none
    (nat_lit 0) (nat_lit 0) = SV.ptr (1 : Nat) (0 : Nat) none (0 : Nat) (0 : Nat) ∧ (0 : Int) = (↑(0 : Nat) : Int) ∧ (K_taskWell_1 W f) ∧ ((0 : Nat) ≤ (8 : Nat) ∧ ∀ (j : Nat), j < (0 : Nat) → farB (List.getD [(W.tasks (Int.toNat f)).r0, (W.tasks (Int.toNat f)).r1, (W.tasks (Int.toNat f)).r2, (W.tasks (Int.toNat f)).r3, (W.tasks (Int.toNat f)).r4, (W.tasks (Int.toNat f)).r5, (W.tasks (Int.toNat f)).r6, (W.tasks (Int.toNat f)).r7] j (0 : Int)) (65535 : Int) = false) ∧ ∀ (s : Nat), (s ≤ (8 : Nat) ∧ ∀ (j : Nat), j < s → farB (List.getD [(W.tasks (Int.toNat f)).r0, (W.tasks (Int.toNat f)).r1, (W.tasks (Int.toNat f)).r2, (W.tasks (Int.toNat f)).r3, (W.tasks (Int.toNat f)).r4, (W.tasks (Int.toNat f)).r5, (W.tasks (Int.toNat f)).r6, (W.tasks (Int.toNat f)).r7] j (0 : Int)) (65535 : Int) = false) → (decide ((↑s : Int) < (8 : Int)) = true → ((0 : Int) ≤ (↑s : Int) ∧ (↑s : Int) < (↑(8 : Nat) : Int)) ∧ ((List.getD [(W.tasks (Int.toNat f)).r0, (W.tasks (Int.toNat f)).r1, (W.tasks (Int.toNat f)).r2, (W.tasks (Int.toNat f)).r3, (W.tasks (Int.toNat f)).r4, (W.tasks (Int.toNat f)).r5, (W.tasks (Int.toNat f)).r6, (W.tasks (Int.toNat f)).r7] (Int.toNat (↑s : Int)) (0 : Int) = List.getD [(W.tasks (Int.toNat f)).r0, (W.tasks (Int.toNat f)).r1, (W.tasks (Int.toNat f)).r2, (W.tasks (Int.toNat f)).r3, (W.tasks (Int.toNat f)).r4, (W.tasks (Int.toNat f)).r5, (W.tasks (Int.toNat f)).r6, (W.tasks (Int.toNat f)).r7] (Int.toNat (↑s : Int)) (0 : Int) ∧ (65535 : Int) = (65535 : Int) ∧ True) ∧ True ∧ True) ∧
    (farB (List.getD [(W.tasks (Int.toNat f)).r0, (W.tasks (Int.toNat f)).r1, (W.tasks (Int.toNat f)).r2, (W.tasks (Int.toNat f)).r3, (W.tasks (Int.toNat f)).r4, (W.tasks (Int.toNat f)).r5, (W.tasks (Int.toNat f)).r6, (W.tasks (Int.toNat f)).r7] (Int.toNat (↑s : Int)) (0 : Int)) (65535 : Int) = true → false = tkB W (Int.toNat f) ∧ True) ∧ (farB (List.getD [(W.tasks (Int.toNat f)).r0, (W.tasks (Int.toNat f)).r1, (W.tasks (Int.toNat f)).r2, (W.tasks (Int.toNat f)).r3, (W.tasks (Int.toNat f)).r4, (W.tasks (Int.toNat f)).r5, (W.tasks (Int.toNat f)).r6, (W.tasks (Int.toNat f)).r7] (Int.toNat (↑s : Int)) (0 : Int)) (65535 : Int) = false → IntKind.wrap IntKind.i64 ((↑s : Int) + (1 : Int)) = (↑s : Int) + (1 : Int) ∧ ∃ (s' : Nat), SV.ptr (0 : Nat) (0 : Nat) none (nat_lit 0) (nat_lit 0) = SV.ptr (0 : Nat) (0 : Nat) none (0 : Nat) (0 : Nat) ∧ SV.ptr ((0 : Nat) + (1 : Nat)) (0 : Nat) none (nat_lit 0) (nat_lit 0) = SV.ptr (1 : Nat) (0 : Nat) none (0 : Nat) (0 : Nat) ∧ (↑s : Int) + (1 : Int) = (↑s' : Int) ∧ (K_taskWell_1 W f) ∧ (s' ≤ (8 : Nat) ∧ ∀ (j : Nat), j < s' → farB (List.getD [(W.tasks (Int.toNat f)).r0, (W.tasks (Int.toNat f)).r1, (W.tasks (Int.toNat f)).r2, (W.tasks (Int.toNat f)).r3, (W.tasks (Int.toNat f)).r4, (W.tasks (Int.toNat f)).r5, (W.tasks (Int.toNat f)).r6, (W.tasks (Int.toNat f)).r7] j (0 : Int)) (65535 : Int) = false) ∧ (8 : Nat) - s' < (8 : Nat) - s)) ∧ (decide ((↑s : Int) < (8 : Int)) = false → (((W.tasks (Int.toNat f)).pc = (W.tasks (Int.toNat f)).pc ∧ (65535 : Int)
    = (65535 : Int) ∧ True) ∧ True ∧ True) ∧ (farB (W.tasks (Int.toNat f)).pc (65535 : Int) = false → ((W.tasks (Int.toNat f)).word = (W.tasks (Int.toNat f)).word ∧ (65535 : Int) = (65535 : Int) ∧ True) ∧ True ∧ True) ∧ ((bif farB (W.tasks (Int.toNat f)).pc (65535 : Int) then true else farB (W.tasks (Int.toNat f)).word (65535 : Int)) = false → ((W.tasks (Int.toNat f)).badge = (W.tasks (Int.toNat f)).badge ∧ (65535 : Int) = (65535 : Int) ∧ True) ∧ True ∧ True) ∧ ((bif bif farB (W.tasks (Int.toNat f)).pc (65535 : Int) then true else farB (W.tasks (Int.toNat f)).word (65535 : Int) then true else farB (W.tasks (Int.toNat f)).badge (65535 : Int)) = false → ((W.tasks (Int.toNat f)).st = (W.tasks (Int.toNat f)).st ∧ (6 : Int) = (6 : Int) ∧ True) ∧ True ∧ True) ∧ ((bif bif bif farB (W.tasks (Int.toNat f)).pc (65535 : Int) then true else farB (W.tasks (Int.toNat f)).word (65535 : Int) then true else farB (W.tasks (Int.toNat f)).badge (65535 : Int) then true else farB (W.tasks (Int.toNat f)).st (6 : Int)) = false → ((W.tasks (Int.toNat f)).prio = (W.tasks (Int.toNat f)).prio ∧ (3 : Int) = (3 : Int) ∧ True) ∧ True ∧ True) ∧ ((bif bif bif bif farB (W.tasks (Int.toNat f)).pc (65535 : Int) then true else farB (W.tasks (Int.toNat f)).word (65535 : Int) then true else farB (W.tasks (Int.toNat f)).badge (65535 : Int) then true else farB (W.tasks (Int.toNat f)).st (6 : Int) then true else farB (W.tasks (Int.toNat f)).prio (3 : Int)) = false → IntKind.wrap IntKind.i64 ((↑W.nCores : Int) - (1 :
    Int)) = (↑W.nCores : Int) - (1 : Int)) ∧ ((bif bif bif bif farB (W.tasks (Int.toNat f)).pc (65535 : Int) then true else farB (W.tasks (Int.toNat f)).word (65535 : Int) then true else farB (W.tasks (Int.toNat f)).badge (65535 : Int) then true else farB (W.tasks (Int.toNat f)).st (6 : Int) then true else farB (W.tasks (Int.toNat f)).prio (3 : Int)) = false → ((W.tasks (Int.toNat f)).core = (W.tasks (Int.toNat f)).core ∧ (↑W.nCores : Int) - (1 : Int) = (↑W.nCores : Int) - (1 : Int) ∧ True) ∧ True ∧ True) ∧ ((bif bif bif bif bif farB (W.tasks (Int.toNat f)).pc (65535 : Int) then true else farB (W.tasks (Int.toNat f)).word (65535 : Int) then true else farB (W.tasks (Int.toNat f)).badge (65535 : Int) then true else farB (W.tasks (Int.toNat f)).st (6 : Int) then true else farB (W.tasks (Int.toNat f)).prio (3 : Int) then true else farB (W.tasks (Int.toNat f)).core ((↑W.nCores : Int) - (1 : Int))) = false → ((W.tasks (Int.toNat f)).dom = (W.tasks (Int.toNat f)).dom ∧ (3 : Int) = (3 : Int) ∧ True) ∧ True ∧ True) ∧ ((bif bif bif bif bif bif farB (W.tasks (Int.toNat f)).pc (65535 : Int) then true else farB (W.tasks (Int.toNat f)).word (65535 : Int) then true else farB (W.tasks (Int.toNat f)).badge (65535 : Int) then true else farB (W.tasks (Int.toNat f)).st (6 : Int) then true else farB (W.tasks (Int.toNat f)).prio (3 : Int) then true else farB (W.tasks (Int.toNat f)).core ((↑W.nCores : Int) - (1 : Int)) then true else farB (W.tasks (Int.toNat f)).dom (3 : Int)) = true → false = tkB
    W (Int.toNat f) ∧ True) ∧ ((bif bif bif bif bif bif farB (W.tasks (Int.toNat f)).pc (65535 : Int) then true else farB (W.tasks (Int.toNat f)).word (65535 : Int) then true else farB (W.tasks (Int.toNat f)).badge (65535 : Int) then true else farB (W.tasks (Int.toNat f)).st (6 : Int) then true else farB (W.tasks (Int.toNat f)).prio (3 : Int) then true else farB (W.tasks (Int.toNat f)).core ((↑W.nCores : Int) - (1 : Int)) then true else farB (W.tasks (Int.toNat f)).dom (3 : Int)) = false → (((W.tasks (Int.toNat f)).node != (-1 : Int)) = true → ((K_taskWell_0 W) ∧ (W.tasks (Int.toNat f)).node = (W.tasks (Int.toNat f)).node ∧ True) ∧ True ∧ True) ∧ (((W.tasks (Int.toNat f)).space != (-1 : Int)) = true → (bif (W.tasks (Int.toNat f)).node != (-1 : Int) then kof W (W.tasks (Int.toNat f)).node != (5 : Int) else false) = false → ((K_taskWell_0 W) ∧ (W.tasks (Int.toNat f)).space = (W.tasks (Int.toNat f)).space ∧ True) ∧ True ∧ True) ∧ (((W.tasks (Int.toNat f)).helper != (-1 : Int)) = true → (bif bif (W.tasks (Int.toNat f)).node != (-1 : Int) then kof W (W.tasks (Int.toNat f)).node != (5 : Int) else false then true else bif (W.tasks (Int.toNat f)).space != (-1 : Int) then kof W (W.tasks (Int.toNat f)).space != (4 : Int) else false) = false → ((K_taskWell_0 W) ∧ (W.tasks (Int.toNat f)).helper = (W.tasks (Int.toNat f)).helper ∧ True) ∧ True ∧ True) ∧ (((W.tasks (Int.toNat f)).owes != (-1 : Int)) = true → (bif bif bif (W.tasks (Int.toNat f)).node != (-1 : Int) then kof W (W.tasks
    (Int.toNat f)).node != (5 : Int) else false then true else bif (W.tasks (Int.toNat f)).space != (-1 : Int) then kof W (W.tasks (Int.toNat f)).space != (4 : Int) else false then true else bif (W.tasks (Int.toNat f)).helper != (-1 : Int) then kof W (W.tasks (Int.toNat f)).helper != (7 : Int) else false) = false → ((K_taskWell_0 W) ∧ (W.tasks (Int.toNat f)).owes = (W.tasks (Int.toNat f)).owes ∧ True) ∧ True ∧ True) ∧ ((bif bif bif bif (W.tasks (Int.toNat f)).node != (-1 : Int) then kof W (W.tasks (Int.toNat f)).node != (5 : Int) else false then true else bif (W.tasks (Int.toNat f)).space != (-1 : Int) then kof W (W.tasks (Int.toNat f)).space != (4 : Int) else false then true else bif (W.tasks (Int.toNat f)).helper != (-1 : Int) then kof W (W.tasks (Int.toNat f)).helper != (7 : Int) else false then true else bif (W.tasks (Int.toNat f)).owes != (-1 : Int) then kof W (W.tasks (Int.toNat f)).owes != (6 : Int) else false) = true → false = tkB W (Int.toNat f) ∧ True) ∧ ((bif bif bif bif (W.tasks (Int.toNat f)).node != (-1 : Int) then kof W (W.tasks (Int.toNat f)).node != (5 : Int) else false then true else bif (W.tasks (Int.toNat f)).space != (-1 : Int) then kof W (W.tasks (Int.toNat f)).space != (4 : Int) else false then true else bif (W.tasks (Int.toNat f)).helper != (-1 : Int) then kof W (W.tasks (Int.toNat f)).helper != (7 : Int) else false then true else bif (W.tasks (Int.toNat f)).owes != (-1 : Int) then kof W (W.tasks (Int.toNat f)).owes != (6 : Int) else false) = false →
    (((W.tasks (Int.toNat f)).owes != (-1 : Int)) = true → (0 : Int) ≤ (W.tasks (Int.toNat f)).owes ∧ (W.tasks (Int.toNat f)).owes < (↑W.nTasks : Int)) ∧ ((bif (W.tasks (Int.toNat f)).owes != (-1 : Int) then bif (W.tasks (Int.toNat (W.tasks (Int.toNat f)).owes)).st != (5 : Int) then true else (W.tasks (Int.toNat f)).st == (4 : Int) else false) = true → false = tkB W (Int.toNat f) ∧ True) ∧ ((bif (W.tasks (Int.toNat f)).owes != (-1 : Int) then bif (W.tasks (Int.toNat (W.tasks (Int.toNat f)).owes)).st != (5 : Int) then true else (W.tasks (Int.toNat f)).st == (4 : Int) else false) = false → SV.ptr (0 : Nat) (0 : Nat) none (nat_lit 0) (nat_lit 0) = SV.ptr (0 : Nat) (0 : Nat) none (0 : Nat) (0 : Nat) ∧ SV.ptr ((0 : Nat) + (1 : Nat)) (0 : Nat) none (nat_lit 0) (nat_lit 0) = SV.ptr (1 : Nat) (0 : Nat) none (0 : Nat) (0 : Nat) ∧ (0 : Int) = (↑(0 : Nat) : Int) ∧ (0 : Int) = (↑(cntB (0 : Nat) fun (k : Nat) => (W.tasks k).owes == (↑(Int.toNat f) : Int)) : Int) ∧ (K_taskWell_1 W f) ∧ (0 : Nat) ≤ W.nTasks ∧ ∀ (s : Nat), s ≤ W.nTasks → (↑W.nTasks : Int) ≤ (9223372036854775807 : Int) → (decide ((↑s : Int) < (↑W.nTasks : Int)) = true → ((0 : Int) ≤ (↑s : Int) ∧ (↑s : Int) < (↑W.nTasks : Int)) ∧ (((W.tasks (Int.toNat (↑s : Int))).owes == f) = true → IntKind.wrap IntKind.i64 ((↑(cntB s fun (k : Nat) => (W.tasks k).owes == (↑(Int.toNat f) : Int)) : Int) + (1 : Int)) = (↑(cntB s fun (k : Nat) => (W.tasks k).owes == (↑(Int.toNat f) : Int)) : Int) + (1 : Int) ∧ IntKind.wrap IntKind.i64 ((↑s : Int)
    + (1 : Int)) = (↑s : Int) + (1 : Int) ∧ ∃ (s' : Nat), SV.ptr (0 : Nat) (0 : Nat) none (nat_lit 0) (nat_lit 0) = SV.ptr (0 : Nat) (0 : Nat) none (0 : Nat) (0 : Nat) ∧ SV.ptr ((0 : Nat) + (1 : Nat)) (0 : Nat) none (nat_lit 0) (nat_lit 0) = SV.ptr (1 : Nat) (0 : Nat) none (0 : Nat) (0 : Nat) ∧ (↑s : Int) + (1 : Int) = (↑s' : Int) ∧ (↑(cntB s fun (k : Nat) => (W.tasks k).owes == (↑(Int.toNat f) : Int)) : Int) + (1 : Int) = (↑(cntB s' fun (k : Nat) => (W.tasks k).owes == (↑(Int.toNat f) : Int)) : Int) ∧ (K_taskWell_1 W f) ∧ s' ≤ W.nTasks ∧ W.nTasks - s' < W.nTasks - s) ∧ (((W.tasks (Int.toNat (↑s : Int))).owes == f) = false → IntKind.wrap IntKind.i64 ((↑s : Int) + (1 : Int)) = (↑s : Int) + (1 : Int) ∧ ∃ (s' : Nat), SV.ptr (0 : Nat) (0 : Nat) none (nat_lit 0) (nat_lit 0) = SV.ptr (0 : Nat) (0 : Nat) none (0 : Nat) (0 : Nat) ∧ SV.ptr ((0 : Nat) + (1 : Nat)) (0 : Nat) none (nat_lit 0) (nat_lit 0) = SV.ptr (1 : Nat) (0 : Nat) none (0 : Nat) (0 : Nat) ∧ (↑s : Int) + (1 : Int) = (↑s' : Int) ∧ (↑(cntB s fun (k : Nat) => (W.tasks k).owes == (↑(Int.toNat f) : Int)) : Int) = (↑(cntB s' fun (k : Nat) => (W.tasks k).owes == (↑(Int.toNat f) : Int)) : Int) ∧ (K_taskWell_1 W f) ∧ s' ≤ W.nTasks ∧ W.nTasks - s' < W.nTasks - s)) ∧ (decide ((↑s : Int) < (↑W.nTasks : Int)) = false → ((bif bif decide ((1 : Int) < (↑(cntB s fun (k : Nat) => (W.tasks k).owes == (↑(Int.toNat f) : Int)) : Int)) then true else bif (↑(cntB s fun (k : Nat) => (W.tasks k).owes == (↑(Int.toNat f) : Int)) : Int) == (1 :
    Int) then (W.tasks (Int.toNat f)).st != (5 : Int) else false then true else bif (↑(cntB s fun (k : Nat) => (W.tasks k).owes == (↑(Int.toNat f) : Int)) : Int) == (0 : Int) then (W.tasks (Int.toNat f)).st == (5 : Int) else false) = true → false = tkB W (Int.toNat f) ∧ True) ∧ ((bif bif decide ((1 : Int) < (↑(cntB s fun (k : Nat) => (W.tasks k).owes == (↑(Int.toNat f) : Int)) : Int)) then true else bif (↑(cntB s fun (k : Nat) => (W.tasks k).owes == (↑(Int.toNat f) : Int)) : Int) == (1 : Int) then (W.tasks (Int.toNat f)).st != (5 : Int) else false then true else bif (↑(cntB s fun (k : Nat) => (W.tasks k).owes == (↑(Int.toNat f) : Int)) : Int) == (0 : Int) then (W.tasks (Int.toNat f)).st == (5 : Int) else false) = false → (((W.nLines = W.nLines ∧ ∀ (i : Nat), i < W.nLines → True ∧ W.linesN i = W.linesN i ∧ ∀ (i_1 : Nat), i_1 < W.linesN i → True ∧ W.lines i i_1 = W.lines i i_1) ∧ f = f ∧ True) ∧ True ∧ W.nLines ≤ (1000 : Nat) ∧ ∀ (i : Nat), i < W.nLines → W.linesN i ≤ (1000 : Nat)) ∧ True ∧ True ∧ True ∧ (((W.nReady = W.nReady ∧ ∀ (i : Nat), i < W.nReady → True ∧ W.readyN i = W.readyN i ∧ ∀ (i_1 : Nat), i_1 < W.readyN i → True ∧ W.ready i i_1 = W.ready i i_1) ∧ f = f ∧ True) ∧ True ∧ W.nReady ≤ (1000 : Nat) ∧ ∀ (i : Nat), i < W.nReady → W.readyN i ≤ (1000 : Nat)) ∧ True ∧ True ∧ True ∧ True ∧ ((((1 : Nat) = (1 : Nat) ∧ ∀ (i : Nat), i < (1 : Nat) → True ∧ W.nCores = W.nCores ∧ ∀ (i : Nat), i < W.nCores → True ∧ W.cores i = W.cores i) ∧ f = f ∧ True) ∧ True ∧ (1 : Nat) ≤ (1000 :
    Nat) ∧ ∀ (i : Nat), i < (1 : Nat) → W.nCores ≤ (1000 : Nat)) ∧ IntKind.wrap IntKind.i64 ((↑(cntLL W.nReady W.readyN W.ready f) : Int) + (↑(cntLL (1 : Nat) (fun (a : Nat) => W.nCores) (fun (a : Nat) => W.cores) f) : Int)) = (↑(cntLL W.nReady W.readyN W.ready f) : Int) + (↑(cntLL (1 : Nat) (fun (a : Nat) => W.nCores) (fun (a : Nat) => W.cores) f) : Int) ∧ ((((W.tasks (Int.toNat f)).st == (2 : Int)) = true → SV.ptr (0 : Nat) (0 : Nat) none (nat_lit 0) (nat_lit 0) = SV.ptr (0 : Nat) (0 : Nat) none (0 : Nat) (0 : Nat) ∧ SV.ptr ((0 : Nat) + (1 : Nat)) (0 : Nat) none (nat_lit 0) (nat_lit 0) = SV.ptr (1 : Nat) (0 : Nat) none (0 : Nat) (0 : Nat) ∧ (↑(cntLL W.nLines W.linesN W.lines f) : Int) = (↑(stands W (Int.toNat f)) : Int) ∧ (↑(cntLL W.nReady W.readyN W.ready f) : Int) + (↑(cntLL (1 : Nat) (fun (a : Nat) => W.nCores) (fun (a : Nat) => W.cores) f) : Int) = (↑(turnsN W (Int.toNat f)) : Int) ∧ (W.tasks (Int.toNat f)).st = (W.tasks (Int.toNat f)).st ∧ ((W.tasks (Int.toNat f)).st == (2 : Int)) = ((W.tasks (Int.toNat f)).st == (2 : Int)) ∧ (K_taskWell_1 W f) ∧ ((W.tasks (Int.toNat f)).st == (2 : Int)) = ((W.tasks (Int.toNat f)).st == (2 : Int) || (W.tasks (Int.toNat f)).st == (3 : Int) || (W.tasks (Int.toNat f)).st == (4 : Int))) ∧ (((W.tasks (Int.toNat f)).st == (2 : Int)) = false → (((W.tasks (Int.toNat f)).st == (3 : Int)) = true → SV.ptr (0 : Nat) (0 : Nat) none (nat_lit 0) (nat_lit 0) = SV.ptr (0 : Nat) (0 : Nat) none (0 : Nat) (0 : Nat) ∧ SV.ptr ((0 : Nat) + (1 : Nat)) (0 :
    Nat) none (nat_lit 0) (nat_lit 0) = SV.ptr (1 : Nat) (0 : Nat) none (0 : Nat) (0 : Nat) ∧ (↑(cntLL W.nLines W.linesN W.lines f) : Int) = (↑(stands W (Int.toNat f)) : Int) ∧ (↑(cntLL W.nReady W.readyN W.ready f) : Int) + (↑(cntLL (1 : Nat) (fun (a : Nat) => W.nCores) (fun (a : Nat) => W.cores) f) : Int) = (↑(turnsN W (Int.toNat f)) : Int) ∧ (W.tasks (Int.toNat f)).st = (W.tasks (Int.toNat f)).st ∧ ((W.tasks (Int.toNat f)).st == (3 : Int)) = ((W.tasks (Int.toNat f)).st == (3 : Int)) ∧ (K_taskWell_1 W f) ∧ ((W.tasks (Int.toNat f)).st == (3 : Int)) = ((W.tasks (Int.toNat f)).st == (2 : Int) || (W.tasks (Int.toNat f)).st == (3 : Int) || (W.tasks (Int.toNat f)).st == (4 : Int))) ∧ (((W.tasks (Int.toNat f)).st == (3 : Int)) = false → SV.ptr (0 : Nat) (0 : Nat) none (nat_lit 0) (nat_lit 0) = SV.ptr (0 : Nat) (0 : Nat) none (0 : Nat) (0 : Nat) ∧ SV.ptr ((0 : Nat) + (1 : Nat)) (0 : Nat) none (nat_lit 0) (nat_lit 0) = SV.ptr (1 : Nat) (0 : Nat) none (0 : Nat) (0 : Nat) ∧ (↑(cntLL W.nLines W.linesN W.lines f) : Int) = (↑(stands W (Int.toNat f)) : Int) ∧ (↑(cntLL W.nReady W.readyN W.ready f) : Int) + (↑(cntLL (1 : Nat) (fun (a : Nat) => W.nCores) (fun (a : Nat) => W.cores) f) : Int) = (↑(turnsN W (Int.toNat f)) : Int) ∧ (W.tasks (Int.toNat f)).st = (W.tasks (Int.toNat f)).st ∧ ((W.tasks (Int.toNat f)).st == (4 : Int)) = ((W.tasks (Int.toNat f)).st == (4 : Int)) ∧ (K_taskWell_1 W f) ∧ ((W.tasks (Int.toNat f)).st == (4 : Int)) = ((W.tasks (Int.toNat f)).st == (2 : Int) || (W.tasks
    (Int.toNat f)).st == (3 : Int) || (W.tasks (Int.toNat f)).st == (4 : Int))))) ∧ ∀ (s : Bo), s.b = ((W.tasks (Int.toNat f)).st == (2 : Int) || (W.tasks (Int.toNat f)).st == (3 : Int) || (W.tasks (Int.toNat f)).st == (4 : Int)) → (s.b = true → ((bif (↑(stands W (Int.toNat f)) : Int) == (1 : Int) then (↑(turnsN W (Int.toNat f)) : Int) == (0 : Int) else false) = true → ((K_taskWell_0 W) ∧ (W.tasks (Int.toNat f)).loc = (W.tasks (Int.toNat f)).loc ∧ True) ∧ True ∧ True) ∧ ((bif bif (↑(stands W (Int.toNat f)) : Int) == (1 : Int) then (↑(turnsN W (Int.toNat f)) : Int) == (0 : Int) else false then kof W (W.tasks (Int.toNat f)).loc == (7 : Int) else false) = true → (0 : Int) ≤ (W.tasks (Int.toNat f)).loc ∧ (W.tasks (Int.toNat f)).loc < (↑W.nLines : Int)) ∧ ((bif bif (↑(stands W (Int.toNat f)) : Int) == (1 : Int) then (↑(turnsN W (Int.toNat f)) : Int) == (0 : Int) else false then kof W (W.tasks (Int.toNat f)).loc == (7 : Int) else false) = true → (f = f ∧ (W.linesN (Int.toNat (W.tasks (Int.toNat f)).loc) = W.linesN (Int.toNat (W.tasks (Int.toNat f)).loc) ∧ ∀ (i : Nat), i < W.linesN (Int.toNat (W.tasks (Int.toNat f)).loc) → True ∧ W.lines (Int.toNat (W.tasks (Int.toNat f)).loc) i = W.lines (Int.toNat (W.tasks (Int.toNat f)).loc) i) ∧ True) ∧ True ∧ True) ∧ (bif bif bif (↑(stands W (Int.toNat f)) : Int) == (1 : Int) then (↑(turnsN W (Int.toNat f)) : Int) == (0 : Int) else false then kof W (W.tasks (Int.toNat f)).loc == (7 : Int) else false then inB' (W.linesN (Int.toNat (W.tasks
    (Int.toNat f)).loc)) (W.lines (Int.toNat (W.tasks (Int.toNat f)).loc)) f else false) = tkB W (Int.toNat f) ∧ True) ∧ (s.b = false → (((W.tasks (Int.toNat f)).st == (6 : Int)) = true → ((bif (↑(stands W (Int.toNat f)) : Int) == (1 : Int) then (↑(turnsN W (Int.toNat f)) : Int) == (0 : Int) else false) = true → ((K_taskWell_0 W) ∧ (W.tasks (Int.toNat f)).loc = (W.tasks (Int.toNat f)).loc ∧ True) ∧ True ∧ True) ∧ ((bif bif (↑(stands W (Int.toNat f)) : Int) == (1 : Int) then (↑(turnsN W (Int.toNat f)) : Int) == (0 : Int) else false then kof W (W.tasks (Int.toNat f)).loc == (8 : Int) else false) = true → (0 : Int) ≤ (W.tasks (Int.toNat f)).loc ∧ (W.tasks (Int.toNat f)).loc < (↑W.nLines : Int)) ∧ ((bif bif (↑(stands W (Int.toNat f)) : Int) == (1 : Int) then (↑(turnsN W (Int.toNat f)) : Int) == (0 : Int) else false then kof W (W.tasks (Int.toNat f)).loc == (8 : Int) else false) = true → (f = f ∧ (W.linesN (Int.toNat (W.tasks (Int.toNat f)).loc) = W.linesN (Int.toNat (W.tasks (Int.toNat f)).loc) ∧ ∀ (i : Nat), i < W.linesN (Int.toNat (W.tasks (Int.toNat f)).loc) → True ∧ W.lines (Int.toNat (W.tasks (Int.toNat f)).loc) i = W.lines (Int.toNat (W.tasks (Int.toNat f)).loc) i) ∧ True) ∧ True ∧ True) ∧ (bif bif bif (↑(stands W (Int.toNat f)) : Int) == (1 : Int) then (↑(turnsN W (Int.toNat f)) : Int) == (0 : Int) else false then kof W (W.tasks (Int.toNat f)).loc == (8 : Int) else false then inB' (W.linesN (Int.toNat (W.tasks (Int.toNat f)).loc)) (W.lines (Int.toNat (W.tasks (Int.toNat
    f)).loc)) f else false) = tkB W (Int.toNat f) ∧ True) ∧ (((W.tasks (Int.toNat f)).st == (6 : Int)) = false → (((W.tasks (Int.toNat f)).st == (1 : Int)) = true → (bif bif (↑(stands W (Int.toNat f)) : Int) == (0 : Int) then (↑(turnsN W (Int.toNat f)) : Int) == (1 : Int) else false then (W.tasks (Int.toNat f)).loc == (-1 : Int) else false) = tkB W (Int.toNat f) ∧ True) ∧ (((W.tasks (Int.toNat f)).st == (1 : Int)) = false → (bif bif (↑(stands W (Int.toNat f)) : Int) == (0 : Int) then (↑(turnsN W (Int.toNat f)) : Int) == (0 : Int) else false then (W.tasks (Int.toNat f)).loc == (-1 : Int) else false) = tkB W (Int.toNat f) ∧ True))))))))))
theorem q_taskWell (W : Wd) (f : Int) : evBody Tryd.prog false glN (mkT [(29, c_blank), (53, c_far), (110, c_kindOf), (149, c_howOften), (150, c_inL)]) Tryd.f102 (a_taskWell W f) (m_taskWell W f) [.inv (an_tw1 W f.toNat), .inv (an_tw2 W f.toNat), .cut 29 (cut_tw W f.toNat)] (r_taskWell W f) (n_taskWell W f) = V_taskWell W f := by kernel_rfl
set_option maxHeartbeats 1000000 in
theorem pf_taskWell (W : Wd) (f : Int) (hp : p_taskWell W f) : FnC Tryd.prog glN 102 (a_taskWell W f) (m_taskWell W f) (r_taskWell W f) (n_taskWell W f) := by
  refine fn_of (sound_cons ok_blank (sound_cons ok_far (sound_cons ok_kindOf (sound_cons ok_howOften (sound_cons ok_inL sound_nil))))) false Tryd.func102 [.inv (an_tw1 W f.toNat), .inv (an_tw2 W f.toNat), .cut 29 (cut_tw W f.toNat)] (q_taskWell W f) ?_
  unfold V_taskWell
  unfold p_taskWell at hp
  obtain ⟨hz, hm, f0, f1⟩ := hp
  obtain ⟨F, rfl⟩ : ∃ F : Nat, f = F := ⟨f.toNat, by omega⟩
  simp only [K_taskWell_0, K_taskWell_1, true_and, and_true, and_self, implies_true, eq_self, Int.toNat_natCast, Nat.zero_add, Int.natCast_nonneg, Nat.not_lt_zero, false_implies, Nat.zero_le, Int.natCast_zero, Bool.cond_self, Bool.cond_true_left, Bool.cond_false_right, Bool.cond_true_right, Bool.cond_false_left]
  have hz1 := hz.tasks
  have hz2 := hz.k1
  have hz3 := hz.lines
  have hz4 := hz.c1
  have hz5 := hz.c0
  have hz6 := hz.ready
  refine ⟨by omega, by omega, fun h => ?_, fun h => ?_⟩
  · unfold tkB; rw [h]; rfl
  have core := tkB_pos h
  intro s hs
  refine ⟨fun h1 => ?_, fun h1 => ?_⟩
  · have hlt : s < 8 := by have := of_decide_eq_true h1; omega
    refine ⟨by omega, fun h2 => eqF fun ht => ?_, fun h2 => ⟨by rw [IntKind.wrap_i64]; omega, exS ⟨⟨by omega, snocF (p := fun j => farB (sel [(W.tasks F).r0, (W.tasks F).r1, (W.tasks F).r2, (W.tasks F).r3, (W.tasks F).r4, (W.tasks F).r5, (W.tasks F).r6, (W.tasks F).r7] j) 65535) hs.2 h2⟩, by omega⟩⟩⟩
    rw [core] at ht
    have hq : regFar (W.tasks F) = false := by revert ht; cases regFar (W.tasks F) <;> simp
    have := reg_to hq s hlt
    exact Bool.false_ne_true (this.symm.trans h2)
  have hs8 : s = 8 := by have := of_decide_eq_false h1; omega
  have hreg : regFar (W.tasks F) = false := reg_of fun j hj => hs.2 j (by omega)
  rw [hreg] at core
  have e1 : (farB (W.tasks F).pc 65535 || farB (W.tasks F).word 65535 || farB (W.tasks F).badge 65535 || farB (W.tasks F).st 6 || farB (W.tasks F).prio 3 || farB (W.tasks F).core (W.nCores - 1) || farB (W.tasks F).dom 3) = numFar W (W.tasks F) := rfl
  have e2 : ((W.tasks F).node != -1 && kof W (W.tasks F).node != 5 || (W.tasks F).space != -1 && kof W (W.tasks F).space != 4 || (W.tasks F).helper != -1 && kof W (W.tasks F).helper != 7 || (W.tasks F).owes != -1 && kof W (W.tasks F).owes != 6) = !refOK W (W.tasks F) := by
    unfold refOK okF; simp only [bne, Bool.not_and, Bool.not_or]
  have e3 : ((W.tasks F).owes != -1 && ((W.tasks (W.tasks F).owes.toNat).st != 5 || (W.tasks F).st == 4)) = !owesOK W (W.tasks F) := by
    unfold owesOK; simp only [bne, Bool.not_and, Bool.not_or, Bool.not_not]
  rw [e1, e2, e3]
  refine ⟨fun _ => by rw [IntKind.wrap_i64]; omega, fun h2 => ?_, fun h2 => ?_⟩
  · rw [core, h2]; rfl
  rw [h2] at core
  refine ⟨fun h3 => ?_, fun h3 => ?_⟩
  · rw [core, show refOK W (W.tasks F) = false by revert h3; cases refOK W (W.tasks F) <;> simp]; rfl
  have href : refOK W (W.tasks F) = true := by revert h3; cases refOK W (W.tasks F) <;> simp
  rw [href] at core
  refine ⟨fun h4 => ?_, fun h4 => ?_, fun h4 => ?_⟩
  · have : okF W (W.tasks F).owes 6 = true := by unfold refOK at href; simp only [Bool.and_eq_true] at href; exact href.2
    have := okF_in (by decide) this h4
    omega
  · rw [core, show owesOK W (W.tasks F) = false by revert h4; cases owesOK W (W.tasks F) <;> simp]; rfl
  rw [show owesOK W (W.tasks F) = true by revert h4; cases owesOK W (W.tasks F) <;> simp] at core
  refine ⟨rfl, fun s hs _ => ⟨fun h5 => ?_, fun h5 => ?_⟩⟩
  · have hlt := lt_of_dec h5
    have hb := cntB_le (fun k => (W.tasks k).owes == F) s
    refine ⟨by omega, fun h6 => ?_, fun h6 => ?_⟩
    · exact ⟨by rw [IntKind.wrap_i64]; omega, by rw [IntKind.wrap_i64]; omega, exS ⟨by simp [cntB, h6], by omega, by omega⟩⟩
    · exact ⟨by rw [IntKind.wrap_i64]; omega, exS ⟨by simp [cntB, h6], by omega, by omega⟩⟩
  have hge := ge_of_dec h5
  obtain rfl : s = W.nTasks := by omega
  rw [show (decide (1 < ((cntB W.nTasks fun k => (W.tasks k).owes == F : Nat) : Int)) || (((cntB W.nTasks fun k => (W.tasks k).owes == F : Nat) : Int) == 1 && (W.tasks F).st != 5) || (((cntB W.nTasks fun k => (W.tasks k).owes == F : Nat) : Int) == 0 && (W.tasks F).st == 5)) = !owedOK W F from owed_eq (W := W) (f := F) rfl]
  refine ⟨fun h6 => ?_, fun h6 => ?_⟩
  · rw [core, show owedOK W F = false by revert h6; cases owedOK W F <;> simp]; rfl
  rw [show owedOK W F = true by revert h6; cases owedOK W F <;> simp] at core
  have core : tkB W F = stOK W F := by rw [core]; rfl
  rw [cnt1]
  have b1 : cntLL W.nReady W.readyN W.ready F ≤ W.nReady * 50 := sumN_le fun i hi => Nat.le_trans (cntB_le _ _) (hm.2.1 i hi)
  have b2 : cntL W.nCores W.cores F ≤ W.nCores := cntB_le _ _
  have et : ((cntLL W.nReady W.readyN W.ready F : Nat) : Int) + ((cntL W.nCores W.cores F : Nat) : Int) = (turnsN W F : Nat) := by unfold turnsN; omega
  rw [et]
  refine ⟨⟨by omega, fun i hi => Nat.le_trans (hm.1 i hi) (by omega)⟩, ⟨by omega, fun i hi => Nat.le_trans (hm.2.1 i hi) (by omega)⟩, ⟨by omega, fun _ _ => by omega⟩, by rw [IntKind.wrap_i64]; unfold turnsN; omega, ?_, ?_⟩
  · refine ⟨fun h => ⟨rfl, rfl, by rw [h]; rfl⟩, fun h => ⟨fun h7 => ⟨rfl, rfl, by rw [h, h7]; rfl⟩, fun h7 => ⟨rfl, rfl, by rw [h, h7]; rfl⟩⟩⟩
  rintro ⟨b⟩ hb
  have hb : b = ((W.tasks F).st == 2 || (W.tasks F).st == 3 || (W.tasks F).st == 4) := hb
  simp only [castE0, castE1]
  have hl : ∀ k : Int, k ≠ -1 → ((stands W F == 1) && (turnsN W F == 0) && kof W (W.tasks F).loc == k) = true → 0 ≤ (W.tasks F).loc ∧ (W.tasks F).loc < W.nLines := fun k hk h => by
    simp only [Bool.and_eq_true, beq_iff_eq] at h
    rw [hz3]
    exact kof_in (by rw [h.2]; exact hk)
  refine ⟨fun h7 => ⟨hl 7 (by decide), ?_⟩, fun h7 => ⟨fun h8 => ⟨hl 8 (by decide), ?_⟩, fun h8 => ⟨fun h9 => ?_, fun h9 => ?_⟩⟩⟩
  · have h7 : b = true := h7
    rw [core]; simp only [stOK]; rw [← hb, h7]; rfl
  · have h7 : b = false := h7
    rw [core]; simp only [stOK]; rw [← hb, h7, h8]; rfl
  · have h7 : b = false := h7
    rw [core]; simp only [stOK]; rw [← hb, h7, h8, h9]; rfl
  · have h7 : b = false := h7
    rw [core]; simp only [stOK]; rw [← hb, h7, h8, h9]; rfl
theorem ok_taskWell : FnOK Tryd.prog glN 102 c_taskWell := fnOK_of (fun l w => Tryd.call102 l w) fun x_ hp => pf_taskWell x_.W x_.f hp
end Go.Proofs.YtfmaeiilbhpepaaDoor
set_option linter.unusedVariables false
set_option linter.unusedSimpArgs false
set_option maxRecDepth 100000
namespace Go.Proofs.YtfmaeiilbhpepaaDoor
open Go.RowKit Go.Sy
/-- An annotation that wants a number. -/
def intK (s : SV) (k : Int → Ann) : Ann := match s with | .v (.int _ x) => k x | _ => k 0
def an_lw (W : Wd) (f : Nat) : Ann where
  σ := Nat
  rt := [(2, 0)]
  sh i := [(2, pt0 0), (7, .v (.int .i64 i))]
  mh _ := []
  inv i := i ≤ W.linesN f ∧ ∀ j, j < i → lnTest W f (W.lines f j) = true
  μ i := W.linesN f - i
  init := 0
def an_tl1 (W : Wd) (n : Nat) (l : Nat → Ent4) : Ann where
  σ := Nat
  rt := [(2, 0)]
  sh i := [(2, pt0 0), (5, .v (.int .i64 i))]
  mh _ := []
  inv i := i ≤ n ∧ ∀ j, j < i → tlT W l j = true
  μ i := n - i
  init := 0
def an_tl2 (l : Nat → Ent4) (i : Int) : Ann where
  σ := Nat
  rt := [(2, 0), (6, 0)]
  sh k := [(2, pt0 0), (6, pt0 1), (10, .v (.int .i64 k))]
  mh _ := []
  inv k := k ≤ i.toNat ∧ ∀ j, j < k → ((l j).sp == (l i.toNat).sp && (l j).pg == (l i.toNat).pg) = false
  μ k := i.toNat - k
  init := 0
structure X_lineWell where
  W : Wd
  f : Int
def a_lineWell (W : Wd) (f : Int) : List SV := [wSV W, .v (.int .i64 f)]
def m_lineWell (W : Wd) (f : Int) : List Blk := []
def r_lineWell (W : Wd) (f : Int) : SV := .v (.bool (lnB W f.toNat))
def n_lineWell (W : Wd) (f : Int) : List Blk := []
def p_lineWell (W : Wd) (f : Int) : Prop := Szd W ∧ smB W ∧ 0 ≤ f ∧ f < W.nKinds
def s_lineWell : Sy.Spec where
  X := X_lineWell
  args x_ := a_lineWell x_.W x_.f
  mem x_ := m_lineWell x_.W x_.f
  pre x_ := p_lineWell x_.W x_.f
  res x_ := r_lineWell x_.W x_.f
  mem' x_ := n_lineWell x_.W x_.f
  dec args mem := match args with | [a0, a1] => some ⟨wSVD a0, intD (a1)⟩ | _ => none
def c_lineWell : Con := ⟨[], s_lineWell.g, none⟩
def K_lineWell_0 (W : Wd) : Prop :=
  (((((((((((True ∧ W.nRam = W.nRam ∧ ∀ (i : Nat), i < W.nRam → True ∧ W.ram i = W.ram i) ∧ W.nKinds = W.nKinds ∧ ∀ (i : Nat), i < W.nKinds → True ∧ W.kinds i = W.kinds i) ∧ W.nSlots = W.nSlots ∧ ∀ (i : Nat), i < W.nSlots → ((((((True ∧ (W.slots i).kind = (W.slots i).kind) ∧ (W.slots i).base = (W.slots i).base) ∧ (W.slots i).len = (W.slots i).len) ∧ (W.slots i).mark = (W.slots i).mark) ∧ (W.slots i).rights = (W.slots i).rights) ∧ (W.slots i).badge = (W.slots i).badge) ∧ (W.slots i).from_ = (W.slots i).from_) ∧ W.nTasks = W.nTasks ∧ ∀ (i : Nat), i < W.nTasks → (((((((((((((((((((True ∧ (W.tasks i).r0 = (W.tasks i).r0) ∧ (W.tasks i).r1 = (W.tasks i).r1) ∧ (W.tasks i).r2 = (W.tasks i).r2) ∧ (W.tasks i).r3 = (W.tasks i).r3) ∧ (W.tasks i).r4 = (W.tasks i).r4) ∧ (W.tasks i).r5 = (W.tasks i).r5) ∧ (W.tasks i).r6 = (W.tasks i).r6) ∧ (W.tasks i).r7 = (W.tasks i).r7) ∧ (W.tasks i).pc = (W.tasks i).pc) ∧ (W.tasks i).st = (W.tasks i).st) ∧ (W.tasks i).prio = (W.tasks i).prio) ∧ (W.tasks i).node = (W.tasks i).node) ∧ (W.tasks i).space = (W.tasks i).space) ∧ (W.tasks i).helper = (W.tasks i).helper) ∧ (W.tasks i).loc = (W.tasks i).loc) ∧ (W.tasks i).word = (W.tasks i).word) ∧ (W.tasks i).badge = (W.tasks i).badge) ∧ (W.tasks i).owes = (W.tasks i).owes) ∧ (W.tasks i).core = (W.tasks i).core) ∧ (W.tasks i).dom = (W.tasks i).dom) ∧ W.nLines = W.nLines ∧ ∀ (i : Nat), i < W.nLines → True ∧ W.linesN i = W.linesN i ∧ ∀ (i_1 : Nat), i_1 < W.linesN i → True ∧ W.lines i i_1 = W.lines i i_1) ∧ W.nBits =
    W.nBits ∧ ∀ (i : Nat), i < W.nBits → True ∧ W.bits i = W.bits i) ∧ W.nCores = W.nCores ∧ ∀ (i : Nat), i < W.nCores → True ∧ W.cores i = W.cores i) ∧ W.nReady = W.nReady ∧ ∀ (i : Nat), i < W.nReady → True ∧ W.readyN i = W.readyN i ∧ ∀ (i_1 : Nat), i_1 < W.readyN i → True ∧ W.ready i i_1 = W.ready i i_1) ∧ W.nTlbs = W.nTlbs ∧ ∀ (i : Nat), i < W.nTlbs → True ∧ W.tlbsN i = W.tlbsN i ∧ ∀ (i_1 : Nat), i_1 < W.tlbsN i → (((True ∧ (W.tlbs i i_1).sp = (W.tlbs i i_1).sp) ∧ (W.tlbs i i_1).pg = (W.tlbs i i_1).pg) ∧ (W.tlbs i i_1).fr = (W.tlbs i i_1).fr) ∧ (W.tlbs i i_1).wr = (W.tlbs i i_1).wr) ∧ W.nDoms = W.nDoms ∧ ∀ (i : Nat), i < W.nDoms → True ∧ W.doms i = W.doms i) ∧ W.time = W.time)
def V_lineWell (W : Wd) (f : Int) : Prop :=
  True ∧ ((0 : Int) ≤ f ∧ f < (↑W.nLines : Int)) ∧ ((0 : Int) ≤ f ∧ f < (↑W.nKinds : Int)) ∧ ((↑(W.linesN (Int.toNat f)) : Int) ≤ (9223372036854775807 : Int) → ((bif bif decide ((0 : Int) < (↑(W.linesN (Int.toNat f)) : Int)) then W.kinds (Int.toNat f) != (7 : Int) else false then W.kinds (Int.toNat f) != (8 : Int) else false) = false → (0 : Int) ≤ f ∧ f < (↑W.nBits : Int)) ∧ ((bif bif bif decide ((0 : Int) < (↑(W.linesN (Int.toNat f)) : Int)) then W.kinds (Int.toNat f) != (7 : Int) else false then W.kinds (Int.toNat f) != (8 : Int) else false then true else bif W.bits (Int.toNat f) != (0 : Int) then bif W.kinds (Int.toNat f) != (8 : Int) then true else decide ((0 : Int) < (↑(W.linesN (Int.toNat f)) : Int)) else false) = false → (0 : Int) ≤ f ∧ f < (↑W.nBits : Int)) ∧ ((bif bif bif decide ((0 : Int) < (↑(W.linesN (Int.toNat f)) : Int)) then W.kinds (Int.toNat f) != (7 : Int) else false then W.kinds (Int.toNat f) != (8 : Int) else false then true else bif W.bits (Int.toNat f) != (0 : Int) then bif W.kinds (Int.toNat f) != (8 : Int) then true else decide ((0 : Int) < (↑(W.linesN (Int.toNat f)) : Int)) else false) = false → (W.bits (Int.toNat f) = W.bits (Int.toNat f) ∧ (65535 : Int) = (65535 : Int) ∧ True) ∧ True ∧ True) ∧ ((bif bif bif bif decide ((0 : Int) < (↑(W.linesN (Int.toNat f)) : Int)) then W.kinds (Int.toNat f) != (7 : Int) else false then W.kinds (Int.toNat f) != (8 : Int) else false then true else bif W.bits (Int.toNat f) != (0 : Int) then bif W.kinds (Int.toNat f) !=
    (8 : Int) then true else decide ((0 : Int) < (↑(W.linesN (Int.toNat f)) : Int)) else false then true else farB (W.bits (Int.toNat f)) (65535 : Int)) = true → false = lnB W (Int.toNat f) ∧ True) ∧ ((bif bif bif bif decide ((0 : Int) < (↑(W.linesN (Int.toNat f)) : Int)) then W.kinds (Int.toNat f) != (7 : Int) else false then W.kinds (Int.toNat f) != (8 : Int) else false then true else bif W.bits (Int.toNat f) != (0 : Int) then bif W.kinds (Int.toNat f) != (8 : Int) then true else decide ((0 : Int) < (↑(W.linesN (Int.toNat f)) : Int)) else false then true else farB (W.bits (Int.toNat f)) (65535 : Int)) = false → SV.ptr (0 : Nat) (0 : Nat) none (nat_lit 0) (nat_lit 0) = SV.ptr (0 : Nat) (0 : Nat) none (0 : Nat) (0 : Nat) ∧ (0 : Int) = (↑(0 : Nat) : Int) ∧ ((K_lineWell_0 W) ∧ True) ∧ ((0 : Nat) ≤ W.linesN (Int.toNat f) ∧ ∀ (j : Nat), j < (0 : Nat) → lnTest W (Int.toNat f) (W.lines (Int.toNat f) j) = true) ∧ ∀ (s : Nat), (s ≤ W.linesN (Int.toNat f) ∧ ∀ (j : Nat), j < s → lnTest W (Int.toNat f) (W.lines (Int.toNat f) j) = true) → (↑(W.linesN (Int.toNat f)) : Int) ≤ (9223372036854775807 : Int) → (decide ((↑s : Int) < (↑(W.linesN (Int.toNat f)) : Int)) = true → True ∧ True ∧ True ∧ ((0 : Int) ≤ (↑s : Int) ∧ (↑s : Int) < (↑(W.linesN (Int.toNat f)) : Int)) ∧ True ∧ (((K_lineWell_0 W) ∧ W.lines (Int.toNat f) (Int.toNat (↑s : Int)) = W.lines (Int.toNat f) (Int.toNat (↑s : Int)) ∧ True) ∧ True ∧ True) ∧ True ∧ True ∧ True ∧ True ∧ True ∧ True ∧ ((kof W (W.lines (Int.toNat f) (Int.toNat
    (↑s : Int))) != (6 : Int)) = false → (0 : Int) ≤ (↑s : Int) ∧ (↑s : Int) < (↑(W.linesN (Int.toNat f)) : Int)) ∧ True ∧ ((kof W (W.lines (Int.toNat f) (Int.toNat (↑s : Int))) != (6 : Int)) = false → (0 : Int) ≤ W.lines (Int.toNat f) (Int.toNat (↑s : Int)) ∧ W.lines (Int.toNat f) (Int.toNat (↑s : Int)) < (↑W.nTasks : Int)) ∧ True ∧ True ∧ True ∧ ((bif kof W (W.lines (Int.toNat f) (Int.toNat (↑s : Int))) != (6 : Int) then true else (W.tasks (Int.toNat (W.lines (Int.toNat f) (Int.toNat (↑s : Int))))).loc != f) = true → false = lnB W (Int.toNat f) ∧ True) ∧ ((bif kof W (W.lines (Int.toNat f) (Int.toNat (↑s : Int))) != (6 : Int) then true else (W.tasks (Int.toNat (W.lines (Int.toNat f) (Int.toNat (↑s : Int))))).loc != f) = false → True ∧ True ∧ True ∧ True ∧ ((0 : Int) ≤ (↑s : Int) ∧ (↑s : Int) < (↑(W.linesN (Int.toNat f)) : Int)) ∧ True ∧ ((0 : Int) ≤ W.lines (Int.toNat f) (Int.toNat (↑s : Int)) ∧ W.lines (Int.toNat f) (Int.toNat (↑s : Int)) < (↑W.nTasks : Int)) ∧ True ∧ True ∧ True ∧ True ∧ True ∧ True ∧ ((0 : Int) ≤ (0 : Int) ∧ (0 : Int) < (↑(W.linesN (Int.toNat f)) : Int)) ∧ True ∧ ((0 : Int) ≤ W.lines (Int.toNat f) (Int.toNat (0 : Int)) ∧ W.lines (Int.toNat f) (Int.toNat (0 : Int)) < (↑W.nTasks : Int)) ∧ True ∧ True ∧ True ∧ ((((W.tasks (Int.toNat (W.lines (Int.toNat f) (Int.toNat (↑s : Int))))).st == (4 : Int)) != ((W.tasks (Int.toNat (W.lines (Int.toNat f) (Int.toNat (0 : Int))))).st == (4 : Int))) = true → false = lnB W (Int.toNat f) ∧ True) ∧ ((((W.tasks (Int.toNat
    (W.lines (Int.toNat f) (Int.toNat (↑s : Int))))).st == (4 : Int)) != ((W.tasks (Int.toNat (W.lines (Int.toNat f) (Int.toNat (0 : Int))))).st == (4 : Int))) = false → IntKind.wrap IntKind.i64 ((↑s : Int) + (1 : Int)) = (↑s : Int) + (1 : Int) ∧ ∃ (s' : Nat), SV.ptr (0 : Nat) (0 : Nat) none (nat_lit 0) (nat_lit 0) = SV.ptr (0 : Nat) (0 : Nat) none (0 : Nat) (0 : Nat) ∧ (↑s : Int) + (1 : Int) = (↑s' : Int) ∧ ((K_lineWell_0 W) ∧ True) ∧ (s' ≤ W.linesN (Int.toNat f) ∧ ∀ (j : Nat), j < s' → lnTest W (Int.toNat f) (W.lines (Int.toNat f) j) = true) ∧ W.linesN (Int.toNat f) - s' < W.linesN (Int.toNat f) - s))) ∧ (decide ((↑s : Int) < (↑(W.linesN (Int.toNat f)) : Int)) = false → true = lnB W (Int.toNat f) ∧ True)))
theorem q_lineWell (W : Wd) (f : Int) : evBody Tryd.prog false glN (mkT [(53, c_far), (110, c_kindOf)]) Tryd.f103 (a_lineWell W f) (m_lineWell W f) [.inv (an_lw W f.toNat)] (r_lineWell W f) (n_lineWell W f) = V_lineWell W f := by kernel_rfl
theorem pf_lineWell (W : Wd) (f : Int) (hp : p_lineWell W f) : FnC Tryd.prog glN 103 (a_lineWell W f) (m_lineWell W f) (r_lineWell W f) (n_lineWell W f) := by
  refine fn_of (sound_cons ok_far (sound_cons ok_kindOf sound_nil)) false Tryd.func103 [.inv (an_lw W f.toNat)] (q_lineWell W f) ?_
  unfold V_lineWell
  unfold p_lineWell at hp
  obtain ⟨hz, hm, f0, f1⟩ := hp
  obtain ⟨F, rfl⟩ : ∃ F : Nat, f = F := ⟨f.toNat, by omega⟩
  simp only [K_lineWell_0, true_and, and_true, and_self, implies_true, eq_self, Int.toNat_natCast, Nat.zero_add, Int.natCast_nonneg, Nat.not_lt_zero, false_implies, Nat.zero_le, Int.natCast_zero, Bool.cond_self, Bool.cond_true_left, Bool.cond_false_right, Bool.cond_true_right, Bool.cond_false_left]
  have hz1 := hz.tasks
  have hz2 := hz.k1
  have hz3 := hz.lines
  have hz4 := hz.bits
  have hL := hm.1 F (by omega)
  rw [show decide ((0 : Int) < (W.linesN F : Int)) = decide (0 < W.linesN F) from decide_eq_decide.2 (by omega)]
  refine ⟨by omega, by omega, fun _ => ⟨fun _ => by omega, fun _ => by omega, fun h => eqF fun ht => ?_, fun h s hs _ => ?_⟩⟩
  · unfold lnB at ht
    simp only [Bool.and_eq_true (a := _) (b := allB _ _), Bool.not_eq_true', Bool.and_eq_true (a := !_) (b := !_), Bool.and_eq_true (a := !_ && !_) (b := !_)] at ht
    obtain ⟨⟨⟨a, b⟩, c⟩, _⟩ := ht
    rw [a, b, c] at h
    exact Bool.false_ne_true h
  have core : lnB W F = allB (W.linesN F) fun i => lnTest W F (W.lines F i) := by
    rw [Bool.or_eq_false_iff, Bool.or_eq_false_iff] at h
    obtain ⟨⟨a, b⟩, c⟩ := h
    unfold lnB; rw [a, b, c]; rfl
  rw [core]
  refine ⟨fun h1 => ?_, fun h1 => ?_⟩
  · have hlt := lt_of_dec h1
    have hk : ∀ t, (kof W t != 6) = false → 0 ≤ t ∧ t < W.nTasks := fun t h => by
      rw [hz1]; exact kof_in (by rw [show kof W t = 6 by simpa using h]; decide)
    refine ⟨by omega, fun _ => by omega, hk _, fun h2 => ?_, fun h2 => ?_⟩
    · refine (allB_false (p := fun i => lnTest W F (W.lines F i)) hlt ?_).symm
      revert h2
      show _ → lnTest W F (W.lines F s) = false
      simp only [bne]
      unfold lnTest
      cases kof W (W.lines F s) == 6 <;> cases (W.tasks (W.lines F s).toNat).loc == F <;> simp
    · have h2' := h2
      rw [Bool.or_eq_false_iff] at h2'
      have h00 : 0 ≤ W.lines F 0 ∧ W.lines F 0 < W.nTasks := by
        rcases Nat.eq_zero_or_pos s with h | h
        · subst h; exact hk _ h2'.1
        · have := hs.2 0 h
          unfold lnTest at this
          simp only [Bool.and_eq_true, beq_iff_eq] at this
          rw [hz1]; exact kof_in (by rw [this.1.1]; decide)
      have hk6 : (kof W (W.lines F s) == 6) = true := by have := h2'.1; revert this; simp only [bne]; cases kof W (W.lines F s) == 6 <;> simp
      have hl6 : ((W.tasks (W.lines F s).toNat).loc == F) = true := by have := h2'.2; revert this; simp only [bne]; cases (W.tasks (W.lines F s).toNat).loc == F <;> simp
      have ht : lnTest W F (W.lines F s) = (wtB W (W.lines F s) == wtB W (W.lines F 0)) := by unfold lnTest; rw [hk6, hl6]; rfl
      refine ⟨by omega, hk _ h2'.1, ⟨by decide, by omega⟩, h00, fun h3 => ?_, fun h3 => ⟨by rw [IntKind.wrap_i64]; omega, exS ⟨⟨by omega, snocB hs.2 ?_⟩, by omega⟩⟩⟩
      · refine (allB_false (p := fun i => lnTest W F (W.lines F i)) hlt ?_).symm
        show lnTest W F (W.lines F s) = false
        rw [ht]
        exact by simpa [bne] using (show (!(wtB W (W.lines F s) == wtB W (W.lines F 0))) = true from h3)
      · rw [ht]
        exact by simpa [bne] using (show (!(wtB W (W.lines F s) == wtB W (W.lines F 0))) = false from h3)
  · have hge := ge_of_dec h1
    obtain rfl : s = W.linesN F := by omega
    exact (allB_all hs.2).symm
theorem ok_lineWell : FnOK Tryd.prog glN 103 c_lineWell := fnOK_of (fun l w => Tryd.call103 l w) fun x_ hp => pf_lineWell x_.W x_.f hp
structure X_entryWell where
  W : Wd
  i : Int
def a_entryWell (W : Wd) (i : Int) : List SV := [wSV W, .v (.int .i64 i)]
def m_entryWell (W : Wd) (i : Int) : List Blk := []
def r_entryWell (W : Wd) (i : Int) : SV := .v (.bool (enB W i.toNat))
def n_entryWell (W : Wd) (i : Int) : List Blk := []
def p_entryWell (W : Wd) (i : Int) : Prop := Szd W ∧ 0 ≤ i ∧ i < W.nRam ∧ isW (W.ram i.toNat)
def s_entryWell : Sy.Spec where
  X := X_entryWell
  args x_ := a_entryWell x_.W x_.i
  mem x_ := m_entryWell x_.W x_.i
  pre x_ := p_entryWell x_.W x_.i
  res x_ := r_entryWell x_.W x_.i
  mem' x_ := n_entryWell x_.W x_.i
  dec args mem := match args with | [a0, a1] => some ⟨wSVD a0, intD (a1)⟩ | _ => none
def c_entryWell : Con := ⟨[], s_entryWell.g, none⟩
def K_entryWell_0 (W : Wd) (i : Int) : Prop :=
  ((((((((((((True ∧ W.nRam = W.nRam ∧ ∀ (i : Nat), i < W.nRam → True ∧ W.ram i = W.ram i) ∧ W.nKinds = W.nKinds ∧ ∀ (i : Nat), i < W.nKinds → True ∧ W.kinds i = W.kinds i) ∧ W.nSlots = W.nSlots ∧ ∀ (i : Nat), i < W.nSlots → ((((((True ∧ (W.slots i).kind = (W.slots i).kind) ∧ (W.slots i).base = (W.slots i).base) ∧ (W.slots i).len = (W.slots i).len) ∧ (W.slots i).mark = (W.slots i).mark) ∧ (W.slots i).rights = (W.slots i).rights) ∧ (W.slots i).badge = (W.slots i).badge) ∧ (W.slots i).from_ = (W.slots i).from_) ∧ W.nTasks = W.nTasks ∧ ∀ (i : Nat), i < W.nTasks → (((((((((((((((((((True ∧ (W.tasks i).r0 = (W.tasks i).r0) ∧ (W.tasks i).r1 = (W.tasks i).r1) ∧ (W.tasks i).r2 = (W.tasks i).r2) ∧ (W.tasks i).r3 = (W.tasks i).r3) ∧ (W.tasks i).r4 = (W.tasks i).r4) ∧ (W.tasks i).r5 = (W.tasks i).r5) ∧ (W.tasks i).r6 = (W.tasks i).r6) ∧ (W.tasks i).r7 = (W.tasks i).r7) ∧ (W.tasks i).pc = (W.tasks i).pc) ∧ (W.tasks i).st = (W.tasks i).st) ∧ (W.tasks i).prio = (W.tasks i).prio) ∧ (W.tasks i).node = (W.tasks i).node) ∧ (W.tasks i).space = (W.tasks i).space) ∧ (W.tasks i).helper = (W.tasks i).helper) ∧ (W.tasks i).loc = (W.tasks i).loc) ∧ (W.tasks i).word = (W.tasks i).word) ∧ (W.tasks i).badge = (W.tasks i).badge) ∧ (W.tasks i).owes = (W.tasks i).owes) ∧ (W.tasks i).core = (W.tasks i).core) ∧ (W.tasks i).dom = (W.tasks i).dom) ∧ W.nLines = W.nLines ∧ ∀ (i : Nat), i < W.nLines → True ∧ W.linesN i = W.linesN i ∧ ∀ (i_1 : Nat), i_1 < W.linesN i → True ∧ W.lines i i_1 = W.lines i i_1) ∧ W.nBits
    = W.nBits ∧ ∀ (i : Nat), i < W.nBits → True ∧ W.bits i = W.bits i) ∧ W.nCores = W.nCores ∧ ∀ (i : Nat), i < W.nCores → True ∧ W.cores i = W.cores i) ∧ W.nReady = W.nReady ∧ ∀ (i : Nat), i < W.nReady → True ∧ W.readyN i = W.readyN i ∧ ∀ (i_1 : Nat), i_1 < W.readyN i → True ∧ W.ready i i_1 = W.ready i i_1) ∧ W.nTlbs = W.nTlbs ∧ ∀ (i : Nat), i < W.nTlbs → True ∧ W.tlbsN i = W.tlbsN i ∧ ∀ (i_1 : Nat), i_1 < W.tlbsN i → (((True ∧ (W.tlbs i i_1).sp = (W.tlbs i i_1).sp) ∧ (W.tlbs i i_1).pg = (W.tlbs i i_1).pg) ∧ (W.tlbs i i_1).fr = (W.tlbs i i_1).fr) ∧ (W.tlbs i i_1).wr = (W.tlbs i i_1).wr) ∧ W.nDoms = W.nDoms ∧ ∀ (i : Nat), i < W.nDoms → True ∧ W.doms i = W.doms i) ∧ W.time = W.time) ∧ W.ram (Int.toNat i) % (1024 : Int) = W.ram (Int.toNat i) % (1024 : Int) ∧ True)
def V_entryWell (W : Wd) (i : Int) : Prop :=
  True ∧ ((0 : Int) ≤ i ∧ i < (↑W.nRam : Int)) ∧ ((0 : Int) ≤ i ∧ (0 : Int) < (16 : Int) ∧ IntKind.wrap IntKind.i64 (i / (16 : Int)) = i / (16 : Int)) ∧ ((0 : Int) ≤ i / (16 : Int) ∧ i / (16 : Int) < (↑W.nKinds : Int)) ∧ ((bif W.ram (Int.toNat i) == (0 : Int) then true else bif W.kinds (Int.toNat (i / (16 : Int))) != (3 : Int) then W.kinds (Int.toNat (i / (16 : Int))) != (4 : Int) else false) = true → true = enB W (Int.toNat i) ∧ True) ∧ ((bif W.ram (Int.toNat i) == (0 : Int) then true else bif W.kinds (Int.toNat (i / (16 : Int))) != (3 : Int) then W.kinds (Int.toNat (i / (16 : Int))) != (4 : Int) else false) = false → ((0 : Int) ≤ W.ram (Int.toNat i) ∧ (0 : Int) < (1024 : Int)) ∧ ((W.kinds (Int.toNat (i / (16 : Int))) == (4 : Int)) = true → IntKind.wrap IntKind.i64 (W.ram (Int.toNat i) - W.ram (Int.toNat i) % (1024 : Int)) = W.ram (Int.toNat i) - W.ram (Int.toNat i) % (1024 : Int) ∧ ((W.ram (Int.toNat i) - W.ram (Int.toNat i) % (1024 : Int) == (32768 : Int)) = true → (K_entryWell_0 W i) ∧ True ∧ True) ∧ (bif W.ram (Int.toNat i) - W.ram (Int.toNat i) % (1024 : Int) == (32768 : Int) then kof W (W.ram (Int.toNat i) % (1024 : Int)) == (3 : Int) else false) = enB W (Int.toNat i) ∧ True) ∧ ((W.kinds (Int.toNat (i / (16 : Int))) == (4 : Int)) = false → IntKind.wrap IntKind.i64 (W.ram (Int.toNat i) - W.ram (Int.toNat i) % (1024 : Int)) = W.ram (Int.toNat i) - W.ram (Int.toNat i) % (1024 : Int) ∧ ((W.ram (Int.toNat i) - W.ram (Int.toNat i) % (1024 : Int) == (32768 : Int)) = false →
    IntKind.wrap IntKind.i64 (W.ram (Int.toNat i) - W.ram (Int.toNat i) % (1024 : Int)) = W.ram (Int.toNat i) - W.ram (Int.toNat i) % (1024 : Int)) ∧ ((bif W.ram (Int.toNat i) - W.ram (Int.toNat i) % (1024 : Int) == (32768 : Int) then true else W.ram (Int.toNat i) - W.ram (Int.toNat i) % (1024 : Int) == (49152 : Int)) = true → (K_entryWell_0 W i) ∧ True ∧ True) ∧ (bif bif W.ram (Int.toNat i) - W.ram (Int.toNat i) % (1024 : Int) == (32768 : Int) then true else W.ram (Int.toNat i) - W.ram (Int.toNat i) % (1024 : Int) == (49152 : Int) then kof W (W.ram (Int.toNat i) % (1024 : Int)) == (2 : Int) else false) = enB W (Int.toNat i) ∧ True))
theorem q_entryWell (W : Wd) (i : Int) : evBody Tryd.prog false glN (mkT [(110, c_kindOf)]) Tryd.f105 (a_entryWell W i) (m_entryWell W i) [] (r_entryWell W i) (n_entryWell W i) = V_entryWell W i := by kernel_rfl
theorem pf_entryWell (W : Wd) (i : Int) (hp : p_entryWell W i) : FnC Tryd.prog glN 105 (a_entryWell W i) (m_entryWell W i) (r_entryWell W i) (n_entryWell W i) := by
  refine fn_of (sound_cons ok_kindOf sound_nil) false Tryd.func105 [] (q_entryWell W i) ?_
  unfold V_entryWell
  unfold p_entryWell at hp
  obtain ⟨hz, i0, i1, hw⟩ := hp
  obtain ⟨I, rfl⟩ : ∃ I : Nat, i = I := ⟨i.toNat, by omega⟩
  simp only [K_entryWell_0, true_and, and_true, and_self, implies_true, eq_self, Int.toNat_natCast, Nat.zero_add, Int.natCast_nonneg, Nat.not_lt_zero, false_implies, Nat.zero_le, Int.natCast_zero, Bool.cond_self, Bool.cond_true_left, Bool.cond_false_right, Bool.cond_true_right, Bool.cond_false_left]
  have e16 : ((I : Int) / 16).toNat = I / 16 := by omega
  rw [e16]
  rw [Int.toNat_natCast] at hw
  unfold isW at hw
  have hz1 := hz.ram
  have hz2 := hz.k1
  refine ⟨by omega, ⟨by decide, by rw [IntKind.wrap_i64]; omega⟩, by omega, fun h => ?_, fun h => ⟨⟨hw.1, by decide⟩, fun h1 => ⟨by rw [IntKind.wrap_i64]; omega, ?_⟩, fun h1 => ⟨by rw [IntKind.wrap_i64]; omega, fun _ => by rw [IntKind.wrap_i64]; omega, ?_⟩⟩⟩
  · simp only [enB]; rw [h]; rfl
  · simp only [enB]; rw [h, h1]; rfl
  · simp only [enB]; rw [h, h1]; rfl
theorem ok_entryWell : FnOK Tryd.prog glN 105 c_entryWell := fnOK_of (fun l w => Tryd.call105 l w) fun x_ hp => pf_entryWell x_.W x_.i hp
structure X_tlbWell where
  W : Wd
  n : Nat
  l : Nat → Ent4
def a_tlbWell (W : Wd) (n : Nat) (l : Nat → Ent4) : List SV := [wSV W, .sl true 4 n (rF fun i => enL (l i))]
def m_tlbWell (W : Wd) (n : Nat) (l : Nat → Ent4) : List Blk := []
def r_tlbWell (W : Wd) (n : Nat) (l : Nat → Ent4) : SV := .v (.bool (tlB W n l))
def n_tlbWell (W : Wd) (n : Nat) (l : Nat → Ent4) : List Blk := []
def p_tlbWell (W : Wd) (n : Nat) (l : Nat → Ent4) : Prop := Szd W ∧ n ≤ 1000 ∧ ∀ i, i < W.nRam → isW (W.ram i)
def s_tlbWell : Sy.Spec where
  X := X_tlbWell
  args x_ := a_tlbWell x_.W x_.n x_.l
  mem x_ := m_tlbWell x_.W x_.n x_.l
  pre x_ := p_tlbWell x_.W x_.n x_.l
  res x_ := r_tlbWell x_.W x_.n x_.l
  mem' x_ := n_tlbWell x_.W x_.n x_.l
  dec args mem := match args with | [a0, a1] => some ⟨wSVD a0, slN a1, fun i => enBD (fun j => slF a1 i j)⟩ | _ => none
def c_tlbWell : Con := ⟨[], s_tlbWell.g, none⟩
def K_tlbWell_0 (W : Wd) : Prop :=
  (((((((((((True ∧ W.nRam = W.nRam ∧ ∀ (i : Nat), i < W.nRam → True ∧ W.ram i = W.ram i) ∧ W.nKinds = W.nKinds ∧ ∀ (i : Nat), i < W.nKinds → True ∧ W.kinds i = W.kinds i) ∧ W.nSlots = W.nSlots ∧ ∀ (i : Nat), i < W.nSlots → ((((((True ∧ (W.slots i).kind = (W.slots i).kind) ∧ (W.slots i).base = (W.slots i).base) ∧ (W.slots i).len = (W.slots i).len) ∧ (W.slots i).mark = (W.slots i).mark) ∧ (W.slots i).rights = (W.slots i).rights) ∧ (W.slots i).badge = (W.slots i).badge) ∧ (W.slots i).from_ = (W.slots i).from_) ∧ W.nTasks = W.nTasks ∧ ∀ (i : Nat), i < W.nTasks → (((((((((((((((((((True ∧ (W.tasks i).r0 = (W.tasks i).r0) ∧ (W.tasks i).r1 = (W.tasks i).r1) ∧ (W.tasks i).r2 = (W.tasks i).r2) ∧ (W.tasks i).r3 = (W.tasks i).r3) ∧ (W.tasks i).r4 = (W.tasks i).r4) ∧ (W.tasks i).r5 = (W.tasks i).r5) ∧ (W.tasks i).r6 = (W.tasks i).r6) ∧ (W.tasks i).r7 = (W.tasks i).r7) ∧ (W.tasks i).pc = (W.tasks i).pc) ∧ (W.tasks i).st = (W.tasks i).st) ∧ (W.tasks i).prio = (W.tasks i).prio) ∧ (W.tasks i).node = (W.tasks i).node) ∧ (W.tasks i).space = (W.tasks i).space) ∧ (W.tasks i).helper = (W.tasks i).helper) ∧ (W.tasks i).loc = (W.tasks i).loc) ∧ (W.tasks i).word = (W.tasks i).word) ∧ (W.tasks i).badge = (W.tasks i).badge) ∧ (W.tasks i).owes = (W.tasks i).owes) ∧ (W.tasks i).core = (W.tasks i).core) ∧ (W.tasks i).dom = (W.tasks i).dom) ∧ W.nLines = W.nLines ∧ ∀ (i : Nat), i < W.nLines → True ∧ W.linesN i = W.linesN i ∧ ∀ (i_1 : Nat), i_1 < W.linesN i → True ∧ W.lines i i_1 = W.lines i i_1) ∧ W.nBits =
    W.nBits ∧ ∀ (i : Nat), i < W.nBits → True ∧ W.bits i = W.bits i) ∧ W.nCores = W.nCores ∧ ∀ (i : Nat), i < W.nCores → True ∧ W.cores i = W.cores i) ∧ W.nReady = W.nReady ∧ ∀ (i : Nat), i < W.nReady → True ∧ W.readyN i = W.readyN i ∧ ∀ (i_1 : Nat), i_1 < W.readyN i → True ∧ W.ready i i_1 = W.ready i i_1) ∧ W.nTlbs = W.nTlbs ∧ ∀ (i : Nat), i < W.nTlbs → True ∧ W.tlbsN i = W.tlbsN i ∧ ∀ (i_1 : Nat), i_1 < W.tlbsN i → (((True ∧ (W.tlbs i i_1).sp = (W.tlbs i i_1).sp) ∧ (W.tlbs i i_1).pg = (W.tlbs i i_1).pg) ∧ (W.tlbs i i_1).fr = (W.tlbs i i_1).fr) ∧ (W.tlbs i i_1).wr = (W.tlbs i i_1).wr) ∧ W.nDoms = W.nDoms ∧ ∀ (i : Nat), i < W.nDoms → True ∧ W.doms i = W.doms i) ∧ W.time = W.time)
def V_tlbWell (W : Wd) (n : Nat) (l : Nat → Ent4) : Prop :=
  True ∧ ((↑n : Int) ≤ (9223372036854775807 : Int) → (decide ((4 : Int) < (↑n : Int)) = true → false = tlB W n l ∧ True) ∧ (decide ((4 : Int) < (↑n : Int)) = false → SV.ptr (0 : Nat) (0 : Nat) none (nat_lit 0) (nat_lit 0) = SV.ptr (0 : Nat) (0 : Nat) none (0 : Nat) (0 : Nat) ∧ (0 : Int) = (↑(0 : Nat) : Int) ∧ ((K_tlbWell_0 W) ∧ True) ∧ ((0 : Nat) ≤ n ∧ ∀ (j : Nat), j < (0 : Nat) → tlT W l j = true) ∧ ∀ (s : Nat), (s ≤ n ∧ ∀ (j : Nat), j < s → tlT W l j = true) → (↑n : Int) ≤ (9223372036854775807 : Int) → (decide ((↑s : Int) < (↑n : Int)) = true → ((0 : Int) ≤ (↑s : Int) ∧ (↑s : Int) < (↑n : Int)) ∧ True ∧ (True ∧ True ∧ True ∧ True) ∧ (((K_tlbWell_0 W) ∧ (l (Int.toNat (↑s : Int))).sp = (l (Int.toNat (↑s : Int))).sp ∧ True) ∧ True ∧ True) ∧ ((kof W (l (Int.toNat (↑s : Int))).sp != (4 : Int)) = false → ((l (Int.toNat (↑s : Int))).pg = (l (Int.toNat (↑s : Int))).pg ∧ (255 : Int) = (255 : Int) ∧ True) ∧ True ∧ True) ∧ ((bif kof W (l (Int.toNat (↑s : Int))).sp != (4 : Int) then true else farB (l (Int.toNat (↑s : Int))).pg (255 : Int)) = true → false = tlB W n l ∧ True) ∧ ((bif kof W (l (Int.toNat (↑s : Int))).sp != (4 : Int) then true else farB (l (Int.toNat (↑s : Int))).pg (255 : Int)) = false → IntKind.wrap IntKind.i64 ((16 : Int) * (l (Int.toNat (↑s : Int))).pg) = (16 : Int) * (l (Int.toNat (↑s : Int))).pg ∧ (((W.nRam = W.nRam ∧ ∀ (i : Nat), i < W.nRam → True ∧ W.ram i = W.ram i) ∧ (l (Int.toNat (↑s : Int))).sp = (l (Int.toNat (↑s : Int))).sp ∧ (16 : Int) * (l (Int.toNat (↑s :
    Int))).pg = (16 : Int) * (l (Int.toNat (↑s : Int))).pg ∧ True) ∧ True ∧ ∀ (i : Nat), i < W.nRam → (0 : Int) ≤ W.ram i ∧ W.ram i ≤ (65535 : Int)) ∧ ((bif bif wkE W.nRam W.ram (l (Int.toNat (↑s : Int))).sp ((16 : Int) * (l (Int.toNat (↑s : Int))).pg) != (0 : Int) then true else wkF W.nRam W.ram (l (Int.toNat (↑s : Int))).sp ((16 : Int) * (l (Int.toNat (↑s : Int))).pg) != (l (Int.toNat (↑s : Int))).fr then true else wkW W.nRam W.ram (l (Int.toNat (↑s : Int))).sp ((16 : Int) * (l (Int.toNat (↑s : Int))).pg) != (l (Int.toNat (↑s : Int))).wr) = true → false = tlB W n l ∧ True) ∧ ((bif bif wkE W.nRam W.ram (l (Int.toNat (↑s : Int))).sp ((16 : Int) * (l (Int.toNat (↑s : Int))).pg) != (0 : Int) then true else wkF W.nRam W.ram (l (Int.toNat (↑s : Int))).sp ((16 : Int) * (l (Int.toNat (↑s : Int))).pg) != (l (Int.toNat (↑s : Int))).fr then true else wkW W.nRam W.ram (l (Int.toNat (↑s : Int))).sp ((16 : Int) * (l (Int.toNat (↑s : Int))).pg) != (l (Int.toNat (↑s : Int))).wr) = false → SV.ptr (0 : Nat) (0 : Nat) none (nat_lit 0) (nat_lit 0) = SV.ptr (0 : Nat) (0 : Nat) none (0 : Nat) (0 : Nat) ∧ SV.ptr ((0 : Nat) + (1 : Nat)) (0 : Nat) none (nat_lit 0) (nat_lit 0) = SV.ptr (1 : Nat) (0 : Nat) none (0 : Nat) (0 : Nat) ∧ (0 : Int) = (↑(0 : Nat) : Int) ∧ ((K_tlbWell_0 W) ∧ ((((True ∧ (l (Int.toNat (↑s : Int))).sp = (l (Int.toNat (↑s : Int))).sp) ∧ (l (Int.toNat (↑s : Int))).pg = (l (Int.toNat (↑s : Int))).pg) ∧ (l (Int.toNat (↑s : Int))).fr = (l (Int.toNat (↑s : Int))).fr) ∧ (l (Int.toNat
    (↑s : Int))).wr = (l (Int.toNat (↑s : Int))).wr) ∧ True) ∧ ((0 : Nat) ≤ Int.toNat (↑s : Int) ∧ ∀ (j : Nat), j < (0 : Nat) → ((l j).sp == (l (Int.toNat (↑s : Int))).sp && (l j).pg == (l (Int.toNat (↑s : Int))).pg) = false) ∧ ∀ (s_1 : Nat), (s_1 ≤ Int.toNat (↑s : Int) ∧ ∀ (j : Nat), j < s_1 → ((l j).sp == (l (Int.toNat (↑s : Int))).sp && (l j).pg == (l (Int.toNat (↑s : Int))).pg) = false) → (decide ((↑s_1 : Int) < (↑s : Int)) = true → True ∧ True ∧ ((0 : Int) ≤ (↑s_1 : Int) ∧ (↑s_1 : Int) < (↑n : Int)) ∧ True ∧ True ∧ True ∧ True ∧ True ∧ True ∧ True ∧ True ∧ (((l (Int.toNat (↑s_1 : Int))).sp == (l (Int.toNat (↑s : Int))).sp) = true → (0 : Int) ≤ (↑s_1 : Int) ∧ (↑s_1 : Int) < (↑n : Int)) ∧ True ∧ True ∧ True ∧ True ∧ ((bif (l (Int.toNat (↑s_1 : Int))).sp == (l (Int.toNat (↑s : Int))).sp then (l (Int.toNat (↑s_1 : Int))).pg == (l (Int.toNat (↑s : Int))).pg else false) = true → false = tlB W n l ∧ True) ∧ ((bif (l (Int.toNat (↑s_1 : Int))).sp == (l (Int.toNat (↑s : Int))).sp then (l (Int.toNat (↑s_1 : Int))).pg == (l (Int.toNat (↑s : Int))).pg else false) = false → IntKind.wrap IntKind.i64 ((↑s_1 : Int) + (1 : Int)) = (↑s_1 : Int) + (1 : Int) ∧ ∃ (s' : Nat), SV.ptr (0 : Nat) (0 : Nat) none (nat_lit 0) (nat_lit 0) = SV.ptr (0 : Nat) (0 : Nat) none (0 : Nat) (0 : Nat) ∧ SV.ptr ((0 : Nat) + (1 : Nat)) (0 : Nat) none (nat_lit 0) (nat_lit 0) = SV.ptr (1 : Nat) (0 : Nat) none (0 : Nat) (0 : Nat) ∧ (↑s_1 : Int) + (1 : Int) = (↑s' : Int) ∧ ((K_tlbWell_0 W) ∧ ((((True ∧ (l (Int.toNat
    (↑s : Int))).sp = (l (Int.toNat (↑s : Int))).sp) ∧ (l (Int.toNat (↑s : Int))).pg = (l (Int.toNat (↑s : Int))).pg) ∧ (l (Int.toNat (↑s : Int))).fr = (l (Int.toNat (↑s : Int))).fr) ∧ (l (Int.toNat (↑s : Int))).wr = (l (Int.toNat (↑s : Int))).wr) ∧ True) ∧ (s' ≤ Int.toNat (↑s : Int) ∧ ∀ (j : Nat), j < s' → ((l j).sp == (l (Int.toNat (↑s : Int))).sp && (l j).pg == (l (Int.toNat (↑s : Int))).pg) = false) ∧ Int.toNat (↑s : Int) - s' < Int.toNat (↑s : Int) - s_1)) ∧ (decide ((↑s_1 : Int) < (↑s : Int)) = false → IntKind.wrap IntKind.i64 ((↑s : Int) + (1 : Int)) = (↑s : Int) + (1 : Int) ∧ ∃ (s' : Nat), SV.ptr (0 : Nat) (0 : Nat) none (nat_lit 0) (nat_lit 0) = SV.ptr (0 : Nat) (0 : Nat) none (0 : Nat) (0 : Nat) ∧ (↑s : Int) + (1 : Int) = (↑s' : Int) ∧ ((K_tlbWell_0 W) ∧ True) ∧ (s' ≤ n ∧ ∀ (j : Nat), j < s' → tlT W l j = true) ∧ n - s' < n - s)))) ∧ (decide ((↑s : Int) < (↑n : Int)) = false → true = tlB W n l ∧ True)))
theorem q_tlbWell (W : Wd) (n : Nat) (l : Nat → Ent4) : evBody Tryd.prog false glN (mkT [(41, c_walked), (53, c_far), (110, c_kindOf)]) Tryd.f106 (a_tlbWell W n l) (m_tlbWell W n l) [.inv (an_tl1 W n l), .invF false fun fr => intK (fr 5) (an_tl2 l)] (r_tlbWell W n l) (n_tlbWell W n l) = V_tlbWell W n l := by kernel_rfl
theorem pf_tlbWell (W : Wd) (n : Nat) (l : Nat → Ent4) (hp : p_tlbWell W n l) : FnC Tryd.prog glN 106 (a_tlbWell W n l) (m_tlbWell W n l) (r_tlbWell W n l) (n_tlbWell W n l) := by
  refine fn_of (sound_cons ok_walked (sound_cons ok_far (sound_cons ok_kindOf sound_nil))) false Tryd.func106 [.inv (an_tl1 W n l), .invF false fun fr => intK (fr 5) (an_tl2 l)] (q_tlbWell W n l) ?_
  unfold V_tlbWell
  unfold p_tlbWell at hp
  obtain ⟨hz, hn, hw⟩ := hp
  simp only [K_tlbWell_0, true_and, and_true, and_self, implies_true, eq_self, Int.toNat_natCast, Nat.zero_add, Int.natCast_nonneg, Nat.not_lt_zero, false_implies, Nat.zero_le, Int.natCast_zero, Bool.cond_self, Bool.cond_true_left, Bool.cond_false_right, Bool.cond_true_right, Bool.cond_false_left]
  have wr : ∀ z : Int, -100000 ≤ z → z ≤ 100000 → IntKind.i64.wrap z = z := fun z h1 h2 => by rw [IntKind.wrap_i64]; omega
  refine fun _ => ⟨fun h => eqF fun ht => ?_, fun h s hs _ => ?_⟩
  · unfold tlB at ht
    simp only [Bool.and_eq_true, decide_eq_true_eq] at ht h
    omega
  have core : tlB W n l = allB n fun i => tlT W l i := by
    unfold tlB; rw [decide_eq_true (show n ≤ 4 by have := of_decide_eq_false h; omega)]; rfl
  rw [core]
  refine ⟨fun h1 => ?_, fun h1 => ?_⟩
  · have hlt := lt_of_dec h1
    refine ⟨by omega, fun h2 => ?_, fun h2 => ⟨?_, hw, fun h3 => ?_, fun h3 k hk => ⟨fun h4 => ⟨by have := lt_of_dec h4; omega, fun _ => by have := lt_of_dec h4; omega, fun h5 => ?_, fun h5 => ⟨wr _ (by have := lt_of_dec h4; omega) (by have := lt_of_dec h4; omega), exS ⟨⟨by have := lt_of_dec h4; omega, snocF (p := fun j => (l j).sp == (l s).sp && (l j).pg == (l s).pg) hk.2 h5⟩, by have := lt_of_dec h4; omega⟩⟩⟩, fun h4 => ⟨wr _ (by omega) (by omega), exS ⟨⟨by omega, snocB hs.2 ?_⟩, by omega⟩⟩⟩⟩⟩
    · refine (allB_false (p := fun i => tlT W l i) hlt ?_).symm
      show tlT W l s = false
      revert h2; simp only [bne]; unfold tlT
      cases kof W (l s).sp == 4 <;> cases farB (l s).pg 255 <;> simp
    · have hf : farB (l s).pg 255 = false := by rw [Bool.or_eq_false_iff] at h2; exact h2.2
      have : 0 ≤ (l s).pg ∧ (l s).pg ≤ 255 := by simp [farB] at hf; omega
      exact wr _ (by omega) (by omega)
    · refine (allB_false (p := fun i => tlT W l i) hlt ?_).symm
      show tlT W l s = false
      revert h3; simp only [bne]; unfold tlT
      cases wkE W.nRam W.ram (l s).sp (16 * (l s).pg) == 0 <;> cases wkF W.nRam W.ram (l s).sp (16 * (l s).pg) == (l s).fr <;> cases wkW W.nRam W.ram (l s).sp (16 * (l s).pg) == (l s).wr <;> simp
    · refine (allB_false (p := fun i => tlT W l i) hlt ?_).symm
      show tlT W l s = false
      unfold tlT
      rw [anyB_iff.2 ⟨k, lt_of_dec h4, h5⟩]
      simp
    · have hge := ge_of_dec h4
      obtain rfl : k = s := by omega
      revert h2 h3
      simp only [bne]; unfold tlT
      rw [anyB_false.2 hk.2]
      cases kof W (l k).sp == 4 <;> cases farB (l k).pg 255 <;> cases wkE W.nRam W.ram (l k).sp (16 * (l k).pg) == 0 <;> cases wkF W.nRam W.ram (l k).sp (16 * (l k).pg) == (l k).fr <;> cases wkW W.nRam W.ram (l k).sp (16 * (l k).pg) == (l k).wr <;> simp
  · have hge := ge_of_dec h1
    obtain rfl : s = n := by omega
    exact (allB_all hs.2).symm
theorem ok_tlbWell : FnOK Tryd.prog glN 106 c_tlbWell := fnOK_of (fun l w => Tryd.call106 l w) fun x_ hp => pf_tlbWell x_.W x_.n x_.l hp
end Go.Proofs.YtfmaeiilbhpepaaDoor
set_option linter.unusedVariables false
set_option linter.unusedSimpArgs false
set_option maxRecDepth 100000
namespace Go.Proofs.YtfmaeiilbhpepaaDoor
open Go.RowKit Go.Sy
/-- The first thing that is not sound: what, and where. -/
def wE (W : Wd) : Int := (wm W).1
def wA (W : Wd) : Int := (wm W).2
def an_wm (k n : Nat) (p : Nat → Bool) : Ann where
  σ := Nat
  rt := [(1, 0), (2, 0)]
  sh i := [(1, pt0 0), (2, pt0 1), (k, .v (.int .i64 i))]
  mh _ := []
  inv i := i ≤ n ∧ ∀ j, j < i → p j = false
  μ i := n - i
  init := 0
def an_wmR (W : Wd) (i : Int) : Ann where
  σ := Nat
  rt := [(1, 0), (2, 0)]
  sh k := [(1, pt0 0), (2, pt0 1), (14, .v (.int .i64 k))]
  mh _ := []
  inv k := k ≤ W.readyN i.toNat ∧ ∀ j, j < k → rdB W (W.ready i.toNat j) (i / 4) (i % 4) = true
  μ k := W.readyN i.toNat - k
  init := 0
def an_hw (k n : Nat) (p : Nat → Bool) : Ann where
  σ := Nat
  rt := [(1, 0)]
  sh i := [(1, pt0 0), (k, .v (.int .i64 i))]
  mh _ := []
  inv i := i ≤ n ∧ ∀ j, j < i → p j = false
  μ i := n - i
  init := 0
/-- Sizes that are not huge. -/
structure Sm (W : Wd) : Prop where
  ram : W.nRam ≤ 1000
  kinds : W.nKinds ≤ 100
  slots : W.nSlots ≤ 1000
  tasks : W.nTasks ≤ 100
  lines : W.nLines ≤ 100
  bits : W.nBits ≤ 100
  cores : W.nCores ≤ 50
  ready : W.nReady ≤ 100
  tlbs : W.nTlbs ≤ 50
  doms : W.nDoms ≤ 50
  sm : smB W
theorem bneC {a b : Int} {c d : Nat} (h : a = b ↔ c = d) : (a != b) = (c != d) := by rw [Bool.eq_iff_iff, bne_iff_ne, bne_iff_ne, ne_eq, ne_eq, h]
theorem szBad_int (W : Wd) : (decide ((W.nKinds : Int) < 1) || decide ((24 : Int) < (W.nKinds : Int)) || decide ((W.nCores : Int) < 1) || decide ((4 : Int) < (W.nCores : Int)) || (W.nRam : Int) != (W.nKinds : Int) * 16 || (W.nSlots : Int) != (W.nKinds : Int) * 16 || (W.nTasks : Int) != (W.nKinds : Int) || (W.nLines : Int) != (W.nKinds : Int) || (W.nBits : Int) != (W.nKinds : Int) || (W.nReady : Int) != (W.nCores : Int) * 4 || (W.nTlbs : Int) != (W.nCores : Int) || decide ((W.nDoms : Int) < 1) || decide ((8 : Int) < (W.nDoms : Int)) || farB W.time 1000000) = szBad W := by
  unfold szBad
  rw [show decide ((W.nKinds : Int) < 1) = decide (W.nKinds < 1) from decide_eq_decide.2 (by omega), show decide ((24 : Int) < (W.nKinds : Int)) = decide (24 < W.nKinds) from decide_eq_decide.2 (by omega), show decide ((W.nCores : Int) < 1) = decide (W.nCores < 1) from decide_eq_decide.2 (by omega), show decide ((4 : Int) < (W.nCores : Int)) = decide (4 < W.nCores) from decide_eq_decide.2 (by omega), show decide ((W.nDoms : Int) < 1) = decide (W.nDoms < 1) from decide_eq_decide.2 (by omega), show decide ((8 : Int) < (W.nDoms : Int)) = decide (8 < W.nDoms) from decide_eq_decide.2 (by omega),
    bneC (a := W.nRam) (c := W.nRam) (d := W.nKinds * 16) (by omega), bneC (a := W.nSlots) (c := W.nSlots) (d := W.nKinds * 16) (by omega), bneC (a := W.nTasks) (c := W.nTasks) (d := W.nKinds) (by omega), bneC (a := W.nLines) (c := W.nLines) (d := W.nKinds) (by omega), bneC (a := W.nBits) (c := W.nBits) (d := W.nKinds) (by omega), bneC (a := W.nReady) (c := W.nReady) (d := W.nCores * 4) (by omega), bneC (a := W.nTlbs) (c := W.nTlbs) (d := W.nCores) (by omega)]
theorem coB_not (W : Wd) (s : Nat) : (W.cores s != -1 && !rdB W (W.cores s) s (-1)) = !coB W s := by unfold coB; simp only [bne, Bool.not_or]
def hgB (W : Wd) : Bool := decide (1000 < W.nRam) || decide (100 < W.nKinds) || decide (1000 < W.nSlots) || decide (100 < W.nTasks) || decide (100 < W.nLines) || decide (100 < W.nBits) || decide (50 < W.nCores) || decide (100 < W.nReady) || decide (50 < W.nTlbs) || decide (50 < W.nDoms) || anyB W.nLines (fun i => decide (50 < W.linesN i)) || anyB W.nReady (fun i => decide (50 < W.readyN i)) || anyB W.nTlbs (fun i => decide (50 < W.tlbsN i))
theorem sm_of {W : Wd} (h : hgB W = false) : Sm W := by
  unfold hgB at h
  simp only [Bool.or_eq_false_iff, decide_eq_false_iff_not, Nat.not_lt, anyB_false] at h
  obtain ⟨⟨⟨⟨⟨⟨⟨⟨⟨⟨⟨⟨h1, h2⟩, h3⟩, h4⟩, h5⟩, h6⟩, h7⟩, h8⟩, h9⟩, h10⟩, h11⟩, h12⟩, h13⟩ := h
  exact ⟨h1, h2, h3, h4, h5, h6, h7, h8, h9, h10, h11, h12, h13⟩
structure X_hugeWorld where
  W : Wd
def a_hugeWorld (W : Wd) : List SV := [wSV W]
def m_hugeWorld (W : Wd) : List Blk := []
def r_hugeWorld (W : Wd) : SV := .v (.bool (hgB W))
def n_hugeWorld (W : Wd) : List Blk := []
def p_hugeWorld (W : Wd) : Prop := True
def s_hugeWorld : Sy.Spec where
  X := X_hugeWorld
  args x_ := a_hugeWorld x_.W
  mem x_ := m_hugeWorld x_.W
  pre x_ := p_hugeWorld x_.W
  res x_ := r_hugeWorld x_.W
  mem' x_ := n_hugeWorld x_.W
  dec args mem := match args with | [a0] => some ⟨wSVD a0⟩ | _ => none
def c_hugeWorld : Con := ⟨[], s_hugeWorld.g, none⟩
def K_hugeWorld_0 (W : Wd) : Prop :=
  ((((((((((((True ∧ W.nRam = W.nRam ∧ ∀ (i : Nat), i < W.nRam → True ∧ W.ram i = W.ram i) ∧ W.nKinds = W.nKinds ∧ ∀ (i : Nat), i < W.nKinds → True ∧ W.kinds i = W.kinds i) ∧ W.nSlots = W.nSlots ∧ ∀ (i : Nat), i < W.nSlots → ((((((True ∧ (W.slots i).kind = (W.slots i).kind) ∧ (W.slots i).base = (W.slots i).base) ∧ (W.slots i).len = (W.slots i).len) ∧ (W.slots i).mark = (W.slots i).mark) ∧ (W.slots i).rights = (W.slots i).rights) ∧ (W.slots i).badge = (W.slots i).badge) ∧ (W.slots i).from_ = (W.slots i).from_) ∧ W.nTasks = W.nTasks ∧ ∀ (i : Nat), i < W.nTasks → (((((((((((((((((((True ∧ (W.tasks i).r0 = (W.tasks i).r0) ∧ (W.tasks i).r1 = (W.tasks i).r1) ∧ (W.tasks i).r2 = (W.tasks i).r2) ∧ (W.tasks i).r3 = (W.tasks i).r3) ∧ (W.tasks i).r4 = (W.tasks i).r4) ∧ (W.tasks i).r5 = (W.tasks i).r5) ∧ (W.tasks i).r6 = (W.tasks i).r6) ∧ (W.tasks i).r7 = (W.tasks i).r7) ∧ (W.tasks i).pc = (W.tasks i).pc) ∧ (W.tasks i).st = (W.tasks i).st) ∧ (W.tasks i).prio = (W.tasks i).prio) ∧ (W.tasks i).node = (W.tasks i).node) ∧ (W.tasks i).space = (W.tasks i).space) ∧ (W.tasks i).helper = (W.tasks i).helper) ∧ (W.tasks i).loc = (W.tasks i).loc) ∧ (W.tasks i).word = (W.tasks i).word) ∧ (W.tasks i).badge = (W.tasks i).badge) ∧ (W.tasks i).owes = (W.tasks i).owes) ∧ (W.tasks i).core = (W.tasks i).core) ∧ (W.tasks i).dom = (W.tasks i).dom) ∧ W.nLines = W.nLines ∧ ∀ (i : Nat), i < W.nLines → True ∧ W.linesN i = W.linesN i ∧ ∀ (i_1 : Nat), i_1 < W.linesN i → True ∧ W.lines i i_1 = W.lines i i_1) ∧ W.nBits
    = W.nBits ∧ ∀ (i : Nat), i < W.nBits → True ∧ W.bits i = W.bits i) ∧ W.nCores = W.nCores ∧ ∀ (i : Nat), i < W.nCores → True ∧ W.cores i = W.cores i) ∧ W.nReady = W.nReady ∧ ∀ (i : Nat), i < W.nReady → True ∧ W.readyN i = W.readyN i ∧ ∀ (i_1 : Nat), i_1 < W.readyN i → True ∧ W.ready i i_1 = W.ready i i_1) ∧ W.nTlbs = W.nTlbs ∧ ∀ (i : Nat), i < W.nTlbs → True ∧ W.tlbsN i = W.tlbsN i ∧ ∀ (i_1 : Nat), i_1 < W.tlbsN i → (((True ∧ (W.tlbs i i_1).sp = (W.tlbs i i_1).sp) ∧ (W.tlbs i i_1).pg = (W.tlbs i i_1).pg) ∧ (W.tlbs i i_1).fr = (W.tlbs i i_1).fr) ∧ (W.tlbs i i_1).wr = (W.tlbs i i_1).wr) ∧ W.nDoms = W.nDoms ∧ ∀ (i : Nat), i < W.nDoms → True ∧ W.doms i = W.doms i) ∧ W.time = W.time) ∧ True)
def V_hugeWorld (W : Wd) : Prop :=
  True ∧ ((↑W.nRam : Int) ≤ (9223372036854775807 : Int) → ((bif bif bif bif bif bif bif bif bif decide ((1000 : Int) < (↑W.nRam : Int)) then true else decide ((100 : Int) < (↑W.nKinds : Int)) then true else decide ((1000 : Int) < (↑W.nSlots : Int)) then true else decide ((100 : Int) < (↑W.nTasks : Int)) then true else decide ((100 : Int) < (↑W.nLines : Int)) then true else decide ((100 : Int) < (↑W.nBits : Int)) then true else decide ((50 : Int) < (↑W.nCores : Int)) then true else decide ((100 : Int) < (↑W.nReady : Int)) then true else decide ((50 : Int) < (↑W.nTlbs : Int)) then true else decide ((50 : Int) < (↑W.nDoms : Int))) = true → true = hgB W ∧ True) ∧ ((bif bif bif bif bif bif bif bif bif decide ((1000 : Int) < (↑W.nRam : Int)) then true else decide ((100 : Int) < (↑W.nKinds : Int)) then true else decide ((1000 : Int) < (↑W.nSlots : Int)) then true else decide ((100 : Int) < (↑W.nTasks : Int)) then true else decide ((100 : Int) < (↑W.nLines : Int)) then true else decide ((100 : Int) < (↑W.nBits : Int)) then true else decide ((50 : Int) < (↑W.nCores : Int)) then true else decide ((100 : Int) < (↑W.nReady : Int)) then true else decide ((50 : Int) < (↑W.nTlbs : Int)) then true else decide ((50 : Int) < (↑W.nDoms : Int))) = false → SV.ptr (0 : Nat) (0 : Nat) none (nat_lit 0) (nat_lit 0) = SV.ptr (0 : Nat) (0 : Nat) none (0 : Nat) (0 : Nat) ∧ (0 : Int) = (↑(0 : Nat) : Int) ∧ (K_hugeWorld_0 W) ∧ ((0 : Nat) ≤ W.nLines ∧ ∀ (j : Nat), j < (0 : Nat) → decide ((50 : Nat) <
    W.linesN j) = false) ∧ ∀ (s : Nat), (s ≤ W.nLines ∧ ∀ (j : Nat), j < s → decide ((50 : Nat) < W.linesN j) = false) → (↑W.nLines : Int) ≤ (9223372036854775807 : Int) → (decide ((↑s : Int) < (↑W.nLines : Int)) = true → ((0 : Int) ≤ (↑s : Int) ∧ (↑s : Int) < (↑W.nLines : Int)) ∧ ((↑(W.linesN (Int.toNat (↑s : Int))) : Int) ≤ (9223372036854775807 : Int) → (decide ((50 : Int) < (↑(W.linesN (Int.toNat (↑s : Int))) : Int)) = true → true = hgB W ∧ True) ∧ (decide ((50 : Int) < (↑(W.linesN (Int.toNat (↑s : Int))) : Int)) = false → IntKind.wrap IntKind.i64 ((↑s : Int) + (1 : Int)) = (↑s : Int) + (1 : Int) ∧ ∃ (s' : Nat), SV.ptr (0 : Nat) (0 : Nat) none (nat_lit 0) (nat_lit 0) = SV.ptr (0 : Nat) (0 : Nat) none (0 : Nat) (0 : Nat) ∧ (↑s : Int) + (1 : Int) = (↑s' : Int) ∧ (K_hugeWorld_0 W) ∧ (s' ≤ W.nLines ∧ ∀ (j : Nat), j < s' → decide ((50 : Nat) < W.linesN j) = false) ∧ W.nLines - s' < W.nLines - s))) ∧ (decide ((↑s : Int) < (↑W.nLines : Int)) = false → SV.ptr (0 : Nat) (0 : Nat) none (nat_lit 0) (nat_lit 0) = SV.ptr (0 : Nat) (0 : Nat) none (0 : Nat) (0 : Nat) ∧ (0 : Int) = (↑(0 : Nat) : Int) ∧ (K_hugeWorld_0 W) ∧ ((0 : Nat) ≤ W.nReady ∧ ∀ (j : Nat), j < (0 : Nat) → decide ((50 : Nat) < W.readyN j) = false) ∧ ∀ (s : Nat), (s ≤ W.nReady ∧ ∀ (j : Nat), j < s → decide ((50 : Nat) < W.readyN j) = false) → (↑W.nReady : Int) ≤ (9223372036854775807 : Int) → (decide ((↑s : Int) < (↑W.nReady : Int)) = true → ((0 : Int) ≤ (↑s : Int) ∧ (↑s : Int) < (↑W.nReady : Int)) ∧ ((↑(W.readyN (Int.toNat
    (↑s : Int))) : Int) ≤ (9223372036854775807 : Int) → (decide ((50 : Int) < (↑(W.readyN (Int.toNat (↑s : Int))) : Int)) = true → true = hgB W ∧ True) ∧ (decide ((50 : Int) < (↑(W.readyN (Int.toNat (↑s : Int))) : Int)) = false → IntKind.wrap IntKind.i64 ((↑s : Int) + (1 : Int)) = (↑s : Int) + (1 : Int) ∧ ∃ (s' : Nat), SV.ptr (0 : Nat) (0 : Nat) none (nat_lit 0) (nat_lit 0) = SV.ptr (0 : Nat) (0 : Nat) none (0 : Nat) (0 : Nat) ∧ (↑s : Int) + (1 : Int) = (↑s' : Int) ∧ (K_hugeWorld_0 W) ∧ (s' ≤ W.nReady ∧ ∀ (j : Nat), j < s' → decide ((50 : Nat) < W.readyN j) = false) ∧ W.nReady - s' < W.nReady - s))) ∧ (decide ((↑s : Int) < (↑W.nReady : Int)) = false → SV.ptr (0 : Nat) (0 : Nat) none (nat_lit 0) (nat_lit 0) = SV.ptr (0 : Nat) (0 : Nat) none (0 : Nat) (0 : Nat) ∧ (0 : Int) = (↑(0 : Nat) : Int) ∧ (K_hugeWorld_0 W) ∧ ((0 : Nat) ≤ W.nTlbs ∧ ∀ (j : Nat), j < (0 : Nat) → decide ((50 : Nat) < W.tlbsN j) = false) ∧ ∀ (s : Nat), (s ≤ W.nTlbs ∧ ∀ (j : Nat), j < s → decide ((50 : Nat) < W.tlbsN j) = false) → (↑W.nTlbs : Int) ≤ (9223372036854775807 : Int) → (decide ((↑s : Int) < (↑W.nTlbs : Int)) = true → ((0 : Int) ≤ (↑s : Int) ∧ (↑s : Int) < (↑W.nTlbs : Int)) ∧ ((↑(W.tlbsN (Int.toNat (↑s : Int))) : Int) ≤ (9223372036854775807 : Int) → (decide ((50 : Int) < (↑(W.tlbsN (Int.toNat (↑s : Int))) : Int)) = true → true = hgB W ∧ True) ∧ (decide ((50 : Int) < (↑(W.tlbsN (Int.toNat (↑s : Int))) : Int)) = false → IntKind.wrap IntKind.i64 ((↑s : Int) + (1 : Int)) = (↑s : Int) + (1 : Int) ∧ ∃ (s' :
    Nat), SV.ptr (0 : Nat) (0 : Nat) none (nat_lit 0) (nat_lit 0) = SV.ptr (0 : Nat) (0 : Nat) none (0 : Nat) (0 : Nat) ∧ (↑s : Int) + (1 : Int) = (↑s' : Int) ∧ (K_hugeWorld_0 W) ∧ (s' ≤ W.nTlbs ∧ ∀ (j : Nat), j < s' → decide ((50 : Nat) < W.tlbsN j) = false) ∧ W.nTlbs - s' < W.nTlbs - s))) ∧ (decide ((↑s : Int) < (↑W.nTlbs : Int)) = false → false = hgB W ∧ True)))))
theorem q_hugeWorld (W : Wd) : evBody Tryd.prog false glN (mkT []) Tryd.f58 (a_hugeWorld W) (m_hugeWorld W) [.inv (an_hw 3 W.nLines fun i => decide (50 < W.linesN i)), .inv (an_hw 4 W.nReady fun i => decide (50 < W.readyN i)), .inv (an_hw 5 W.nTlbs fun i => decide (50 < W.tlbsN i))] (r_hugeWorld W) (n_hugeWorld W) = V_hugeWorld W := by kernel_rfl
theorem pf_hugeWorld (W : Wd) (hp : p_hugeWorld W) : FnC Tryd.prog glN 58 (a_hugeWorld W) (m_hugeWorld W) (r_hugeWorld W) (n_hugeWorld W) := by
  refine fn_of sound_nil false Tryd.func58 [.inv (an_hw 3 W.nLines fun i => decide (50 < W.linesN i)), .inv (an_hw 4 W.nReady fun i => decide (50 < W.readyN i)), .inv (an_hw 5 W.nTlbs fun i => decide (50 < W.tlbsN i))] (q_hugeWorld W) ?_
  unfold V_hugeWorld
  simp only [K_hugeWorld_0, true_and, and_true, and_self, implies_true, eq_self, Int.toNat_natCast, Nat.zero_add, Int.natCast_nonneg, Nat.not_lt_zero, false_implies, Nat.zero_le, Int.natCast_zero, Bool.cond_self, Bool.cond_true_left, Bool.cond_false_right, Bool.cond_true_right, Bool.cond_false_left]
  have cg : ∀ (a b : Nat), decide ((a : Int) < (b : Int)) = decide (a < b) := fun a b => decide_eq_decide.2 (by omega)
  intro _
  rw [show (decide ((1000 : Int) < W.nRam)) = decide (1000 < W.nRam) from cg _ _, show (decide ((100 : Int) < W.nKinds)) = decide (100 < W.nKinds) from cg _ _, show (decide ((1000 : Int) < W.nSlots)) = decide (1000 < W.nSlots) from cg _ _, show (decide ((100 : Int) < W.nTasks)) = decide (100 < W.nTasks) from cg _ _, show (decide ((100 : Int) < W.nLines)) = decide (100 < W.nLines) from cg _ _, show (decide ((100 : Int) < W.nBits)) = decide (100 < W.nBits) from cg _ _, show (decide ((50 : Int) < W.nCores)) = decide (50 < W.nCores) from cg _ _, show (decide ((100 : Int) < W.nReady)) = decide (100 < W.nReady) from cg _ _, show (decide ((50 : Int) < W.nTlbs)) = decide (50 < W.nTlbs) from cg _ _, show (decide ((50 : Int) < W.nDoms)) = decide (50 < W.nDoms) from cg _ _]
  refine ⟨fun h => by unfold hgB; rw [h]; rfl, fun h0 s hs _ => ⟨fun h1 => ?_, fun h1 s2 hs2 _ => ⟨fun h2 => ?_, fun h2 s3 hs3 _ => ⟨fun h3 => ?_, fun h3 => ?_⟩⟩⟩⟩
  · have hlt := lt_of_dec h1
    refine ⟨by omega, fun _ => ⟨fun h => ?_, fun h => ⟨by rw [IntKind.wrap_i64]; omega, exS ⟨⟨by omega, snocF (p := fun i => decide (50 < W.linesN i)) hs.2 (by rw [← h]; exact (cg _ _).symm)⟩, by omega⟩⟩⟩⟩
    unfold hgB; rw [h0, anyB_iff.2 ⟨s, hlt, (cg _ _).symm.trans h⟩]; rfl
  · have hlt := lt_of_dec h2
    refine ⟨by omega, fun _ => ⟨fun h => ?_, fun h => ⟨by rw [IntKind.wrap_i64]; omega, exS ⟨⟨by omega, snocF (p := fun i => decide (50 < W.readyN i)) hs2.2 (by rw [← h]; exact (cg _ _).symm)⟩, by omega⟩⟩⟩⟩
    unfold hgB; rw [h0, anyB_iff.2 ⟨s2, hlt, (cg _ _).symm.trans h⟩]
    cases anyB W.nLines fun i => decide (50 < W.linesN i) <;> rfl
  · have hlt := lt_of_dec h3
    refine ⟨by omega, fun _ => ⟨fun h => ?_, fun h => ⟨by rw [IntKind.wrap_i64]; omega, exS ⟨⟨by omega, snocF (p := fun i => decide (50 < W.tlbsN i)) hs3.2 (by rw [← h]; exact (cg _ _).symm)⟩, by omega⟩⟩⟩⟩
    unfold hgB; rw [h0, anyB_iff.2 ⟨s3, hlt, (cg _ _).symm.trans h⟩]
    cases anyB W.nLines fun i => decide (50 < W.linesN i) <;> cases anyB W.nReady fun i => decide (50 < W.readyN i) <;> rfl
  · have g1 := ge_of_dec h1
    have g2 := ge_of_dec h2
    have g3 := ge_of_dec h3
    unfold hgB
    rw [h0, anyB_false.2 (fun i hi => hs.2 i (by omega)), anyB_false.2 (fun i hi => hs2.2 i (by omega)), anyB_false.2 (fun i hi => hs3.2 i (by omega))]; rfl
theorem ok_hugeWorld : FnOK Tryd.prog glN 58 c_hugeWorld := fnOK_of (fun l w => Tryd.call58 l w) fun x_ hp => pf_hugeWorld x_.W hp
structure X_worldMay where
  W : Wd
def a_worldMay (W : Wd) : List SV := [wSV W]
def m_worldMay (W : Wd) : List Blk := []
def r_worldMay (W : Wd) : SV := .ag 2 (lsv [.v (.int .i64 (wE W)), .v (.int .i64 (wA W))])
def n_worldMay (W : Wd) : List Blk := []
def p_worldMay (W : Wd) : Prop := Sm W
def s_worldMay : Sy.Spec where
  X := X_worldMay
  args x_ := a_worldMay x_.W
  mem x_ := m_worldMay x_.W
  pre x_ := p_worldMay x_.W
  res x_ := r_worldMay x_.W
  mem' x_ := n_worldMay x_.W
  dec args mem := match args with | [a0] => some ⟨wSVD a0⟩ | _ => none
def c_worldMay : Con := ⟨[], s_worldMay.g, none⟩
def K_worldMay_0 (W : Wd) : Prop :=
  (((((((((((True ∧ W.nRam = W.nRam ∧ ∀ (i : Nat), i < W.nRam → True ∧ W.ram i = W.ram i) ∧ W.nKinds = W.nKinds ∧ ∀ (i : Nat), i < W.nKinds → True ∧ W.kinds i = W.kinds i) ∧ W.nSlots = W.nSlots ∧ ∀ (i : Nat), i < W.nSlots → ((((((True ∧ (W.slots i).kind = (W.slots i).kind) ∧ (W.slots i).base = (W.slots i).base) ∧ (W.slots i).len = (W.slots i).len) ∧ (W.slots i).mark = (W.slots i).mark) ∧ (W.slots i).rights = (W.slots i).rights) ∧ (W.slots i).badge = (W.slots i).badge) ∧ (W.slots i).from_ = (W.slots i).from_) ∧ W.nTasks = W.nTasks ∧ ∀ (i : Nat), i < W.nTasks → (((((((((((((((((((True ∧ (W.tasks i).r0 = (W.tasks i).r0) ∧ (W.tasks i).r1 = (W.tasks i).r1) ∧ (W.tasks i).r2 = (W.tasks i).r2) ∧ (W.tasks i).r3 = (W.tasks i).r3) ∧ (W.tasks i).r4 = (W.tasks i).r4) ∧ (W.tasks i).r5 = (W.tasks i).r5) ∧ (W.tasks i).r6 = (W.tasks i).r6) ∧ (W.tasks i).r7 = (W.tasks i).r7) ∧ (W.tasks i).pc = (W.tasks i).pc) ∧ (W.tasks i).st = (W.tasks i).st) ∧ (W.tasks i).prio = (W.tasks i).prio) ∧ (W.tasks i).node = (W.tasks i).node) ∧ (W.tasks i).space = (W.tasks i).space) ∧ (W.tasks i).helper = (W.tasks i).helper) ∧ (W.tasks i).loc = (W.tasks i).loc) ∧ (W.tasks i).word = (W.tasks i).word) ∧ (W.tasks i).badge = (W.tasks i).badge) ∧ (W.tasks i).owes = (W.tasks i).owes) ∧ (W.tasks i).core = (W.tasks i).core) ∧ (W.tasks i).dom = (W.tasks i).dom) ∧ W.nLines = W.nLines ∧ ∀ (i : Nat), i < W.nLines → True ∧ W.linesN i = W.linesN i ∧ ∀ (i_1 : Nat), i_1 < W.linesN i → True ∧ W.lines i i_1 = W.lines i i_1) ∧ W.nBits =
    W.nBits ∧ ∀ (i : Nat), i < W.nBits → True ∧ W.bits i = W.bits i) ∧ W.nCores = W.nCores ∧ ∀ (i : Nat), i < W.nCores → True ∧ W.cores i = W.cores i) ∧ W.nReady = W.nReady ∧ ∀ (i : Nat), i < W.nReady → True ∧ W.readyN i = W.readyN i ∧ ∀ (i_1 : Nat), i_1 < W.readyN i → True ∧ W.ready i i_1 = W.ready i i_1) ∧ W.nTlbs = W.nTlbs ∧ ∀ (i : Nat), i < W.nTlbs → True ∧ W.tlbsN i = W.tlbsN i ∧ ∀ (i_1 : Nat), i_1 < W.tlbsN i → (((True ∧ (W.tlbs i i_1).sp = (W.tlbs i i_1).sp) ∧ (W.tlbs i i_1).pg = (W.tlbs i i_1).pg) ∧ (W.tlbs i i_1).fr = (W.tlbs i i_1).fr) ∧ (W.tlbs i i_1).wr = (W.tlbs i i_1).wr) ∧ W.nDoms = W.nDoms ∧ ∀ (i : Nat), i < W.nDoms → True ∧ W.doms i = W.doms i) ∧ W.time = W.time)
def V_worldMay (W : Wd) : Prop :=
  True ∧ True ∧ ((↑W.nKinds : Int) ≤ (9223372036854775807 : Int) → (↑W.nCores : Int) ≤ (9223372036854775807 : Int) → ((bif bif bif decide ((↑W.nKinds : Int) < (1 : Int)) then true else decide ((24 : Int) < (↑W.nKinds : Int)) then true else decide ((↑W.nCores : Int) < (1 : Int)) then true else decide ((4 : Int) < (↑W.nCores : Int))) = false → IntKind.wrap IntKind.i64 ((↑W.nKinds : Int) * (16 : Int)) = (↑W.nKinds : Int) * (16 : Int)) ∧ ((bif bif bif bif decide ((↑W.nKinds : Int) < (1 : Int)) then true else decide ((24 : Int) < (↑W.nKinds : Int)) then true else decide ((↑W.nCores : Int) < (1 : Int)) then true else decide ((4 : Int) < (↑W.nCores : Int)) then true else (↑W.nRam : Int) != (↑W.nKinds : Int) * (16 : Int)) = false → IntKind.wrap IntKind.i64 ((↑W.nKinds : Int) * (16 : Int)) = (↑W.nKinds : Int) * (16 : Int)) ∧ ((bif bif bif bif bif bif bif bif decide ((↑W.nKinds : Int) < (1 : Int)) then true else decide ((24 : Int) < (↑W.nKinds : Int)) then true else decide ((↑W.nCores : Int) < (1 : Int)) then true else decide ((4 : Int) < (↑W.nCores : Int)) then true else (↑W.nRam : Int) != (↑W.nKinds : Int) * (16 : Int) then true else (↑W.nSlots : Int) != (↑W.nKinds : Int) * (16 : Int) then true else (↑W.nTasks : Int) != (↑W.nKinds : Int) then true else (↑W.nLines : Int) != (↑W.nKinds : Int) then true else (↑W.nBits : Int) != (↑W.nKinds : Int)) = false → IntKind.wrap IntKind.i64 ((↑W.nCores : Int) * (4 : Int)) = (↑W.nCores : Int) * (4 : Int)) ∧ ((bif bif bif bif bif bif bif bif bif bif
    bif bif decide ((↑W.nKinds : Int) < (1 : Int)) then true else decide ((24 : Int) < (↑W.nKinds : Int)) then true else decide ((↑W.nCores : Int) < (1 : Int)) then true else decide ((4 : Int) < (↑W.nCores : Int)) then true else (↑W.nRam : Int) != (↑W.nKinds : Int) * (16 : Int) then true else (↑W.nSlots : Int) != (↑W.nKinds : Int) * (16 : Int) then true else (↑W.nTasks : Int) != (↑W.nKinds : Int) then true else (↑W.nLines : Int) != (↑W.nKinds : Int) then true else (↑W.nBits : Int) != (↑W.nKinds : Int) then true else (↑W.nReady : Int) != (↑W.nCores : Int) * (4 : Int) then true else (↑W.nTlbs : Int) != (↑W.nCores : Int) then true else decide ((↑W.nDoms : Int) < (1 : Int)) then true else decide ((8 : Int) < (↑W.nDoms : Int))) = false → (W.time = W.time ∧ (1000000 : Int) = (1000000 : Int) ∧ True) ∧ True ∧ True) ∧ ((bif bif bif bif bif bif bif bif bif bif bif bif bif decide ((↑W.nKinds : Int) < (1 : Int)) then true else decide ((24 : Int) < (↑W.nKinds : Int)) then true else decide ((↑W.nCores : Int) < (1 : Int)) then true else decide ((4 : Int) < (↑W.nCores : Int)) then true else (↑W.nRam : Int) != (↑W.nKinds : Int) * (16 : Int) then true else (↑W.nSlots : Int) != (↑W.nKinds : Int) * (16 : Int) then true else (↑W.nTasks : Int) != (↑W.nKinds : Int) then true else (↑W.nLines : Int) != (↑W.nKinds : Int) then true else (↑W.nBits : Int) != (↑W.nKinds : Int) then true else (↑W.nReady : Int) != (↑W.nCores : Int) * (4 : Int) then true else (↑W.nTlbs : Int) != (↑W.nCores : Int) then true
    else decide ((↑W.nDoms : Int) < (1 : Int)) then true else decide ((8 : Int) < (↑W.nDoms : Int)) then true else farB W.time (1000000 : Int)) = true → (((2 : Int) = (2 : Int) ∧ True) ∧ True ∧ True) ∧ (True ∧ True) ∧ ((True ∧ (2 : Int) = wE W) ∧ (-1 : Int) = wA W) ∧ True) ∧ ((bif bif bif bif bif bif bif bif bif bif bif bif bif decide ((↑W.nKinds : Int) < (1 : Int)) then true else decide ((24 : Int) < (↑W.nKinds : Int)) then true else decide ((↑W.nCores : Int) < (1 : Int)) then true else decide ((4 : Int) < (↑W.nCores : Int)) then true else (↑W.nRam : Int) != (↑W.nKinds : Int) * (16 : Int) then true else (↑W.nSlots : Int) != (↑W.nKinds : Int) * (16 : Int) then true else (↑W.nTasks : Int) != (↑W.nKinds : Int) then true else (↑W.nLines : Int) != (↑W.nKinds : Int) then true else (↑W.nBits : Int) != (↑W.nKinds : Int) then true else (↑W.nReady : Int) != (↑W.nCores : Int) * (4 : Int) then true else (↑W.nTlbs : Int) != (↑W.nCores : Int) then true else decide ((↑W.nDoms : Int) < (1 : Int)) then true else decide ((8 : Int) < (↑W.nDoms : Int)) then true else farB W.time (1000000 : Int)) = false → SV.ptr (0 : Nat) (0 : Nat) none (nat_lit 0) (nat_lit 0) = SV.ptr (0 : Nat) (0 : Nat) none (0 : Nat) (0 : Nat) ∧ SV.ptr ((0 : Nat) + (1 : Nat)) (0 : Nat) none (nat_lit 0) (nat_lit 0) = SV.ptr (1 : Nat) (0 : Nat) none (0 : Nat) (0 : Nat) ∧ (0 : Int) = (↑(0 : Nat) : Int) ∧ ((K_worldMay_0 W) ∧ ((True ∧ (0 : Int) = (0 : Int)) ∧ (0 : Int) = (0 : Int)) ∧ True) ∧ ((0 : Nat) ≤ W.nRam ∧ ∀ (j : Nat), j <
    (0 : Nat) → farB (W.ram j) (65535 : Int) = false) ∧ ∀ (s : Nat), (s ≤ W.nRam ∧ ∀ (j : Nat), j < s → farB (W.ram j) (65535 : Int) = false) → (↑W.nRam : Int) ≤ (9223372036854775807 : Int) → (decide ((↑s : Int) < (↑W.nRam : Int)) = true → ((0 : Int) ≤ (↑s : Int) ∧ (↑s : Int) < (↑W.nRam : Int)) ∧ ((W.ram (Int.toNat (↑s : Int)) = W.ram (Int.toNat (↑s : Int)) ∧ (65535 : Int) = (65535 : Int) ∧ True) ∧ True ∧ True) ∧ (farB (W.ram (Int.toNat (↑s : Int))) (65535 : Int) = true → (True ∧ True) ∧ ((True ∧ (1 : Int) = wE W) ∧ (↑s : Int) = wA W) ∧ True) ∧ (farB (W.ram (Int.toNat (↑s : Int))) (65535 : Int) = false → IntKind.wrap IntKind.i64 ((↑s : Int) + (1 : Int)) = (↑s : Int) + (1 : Int) ∧ ∃ (s' : Nat), SV.ptr (0 : Nat) (0 : Nat) none (nat_lit 0) (nat_lit 0) = SV.ptr (0 : Nat) (0 : Nat) none (0 : Nat) (0 : Nat) ∧ SV.ptr ((0 : Nat) + (1 : Nat)) (0 : Nat) none (nat_lit 0) (nat_lit 0) = SV.ptr (1 : Nat) (0 : Nat) none (0 : Nat) (0 : Nat) ∧ (↑s : Int) + (1 : Int) = (↑s' : Int) ∧ ((K_worldMay_0 W) ∧ ((True ∧ (0 : Int) = (0 : Int)) ∧ (0 : Int) = (0 : Int)) ∧ True) ∧ (s' ≤ W.nRam ∧ ∀ (j : Nat), j < s' → farB (W.ram j) (65535 : Int) = false) ∧ W.nRam - s' < W.nRam - s)) ∧ (decide ((↑s : Int) < (↑W.nRam : Int)) = false → SV.ptr (0 : Nat) (0 : Nat) none (nat_lit 0) (nat_lit 0) = SV.ptr (0 : Nat) (0 : Nat) none (0 : Nat) (0 : Nat) ∧ SV.ptr ((0 : Nat) + (1 : Nat)) (0 : Nat) none (nat_lit 0) (nat_lit 0) = SV.ptr (1 : Nat) (0 : Nat) none (0 : Nat) (0 : Nat) ∧ (0 : Int) = (↑(0 : Nat) : Int) ∧
    ((K_worldMay_0 W) ∧ ((True ∧ (0 : Int) = (0 : Int)) ∧ (0 : Int) = (0 : Int)) ∧ True) ∧ ((0 : Nat) ≤ W.nKinds ∧ ∀ (j : Nat), j < (0 : Nat) → (farB (W.kinds j) (8 : Int) || W.kinds j == (1 : Int)) = false) ∧ ∀ (s : Nat), (s ≤ W.nKinds ∧ ∀ (j : Nat), j < s → (farB (W.kinds j) (8 : Int) || W.kinds j == (1 : Int)) = false) → (decide ((↑s : Int) < (↑W.nKinds : Int)) = true → ((0 : Int) ≤ (↑s : Int) ∧ (↑s : Int) < (↑W.nKinds : Int)) ∧ ((W.kinds (Int.toNat (↑s : Int)) = W.kinds (Int.toNat (↑s : Int)) ∧ (8 : Int) = (8 : Int) ∧ True) ∧ True ∧ True) ∧ (farB (W.kinds (Int.toNat (↑s : Int))) (8 : Int) = false → (0 : Int) ≤ (↑s : Int) ∧ (↑s : Int) < (↑W.nKinds : Int)) ∧ ((bif farB (W.kinds (Int.toNat (↑s : Int))) (8 : Int) then true else W.kinds (Int.toNat (↑s : Int)) == (1 : Int)) = true → (True ∧ True) ∧ ((True ∧ (3 : Int) = wE W) ∧ (↑s : Int) = wA W) ∧ True) ∧ ((bif farB (W.kinds (Int.toNat (↑s : Int))) (8 : Int) then true else W.kinds (Int.toNat (↑s : Int)) == (1 : Int)) = false → IntKind.wrap IntKind.i64 ((↑s : Int) + (1 : Int)) = (↑s : Int) + (1 : Int) ∧ ∃ (s' : Nat), SV.ptr (0 : Nat) (0 : Nat) none (nat_lit 0) (nat_lit 0) = SV.ptr (0 : Nat) (0 : Nat) none (0 : Nat) (0 : Nat) ∧ SV.ptr ((0 : Nat) + (1 : Nat)) (0 : Nat) none (nat_lit 0) (nat_lit 0) = SV.ptr (1 : Nat) (0 : Nat) none (0 : Nat) (0 : Nat) ∧ (↑s : Int) + (1 : Int) = (↑s' : Int) ∧ ((K_worldMay_0 W) ∧ ((True ∧ (0 : Int) = (0 : Int)) ∧ (0 : Int) = (0 : Int)) ∧ True) ∧ (s' ≤ W.nKinds ∧ ∀ (j : Nat), j < s' → (farB (W.kinds
    j) (8 : Int) || W.kinds j == (1 : Int)) = false) ∧ W.nKinds - s' < W.nKinds - s)) ∧ (decide ((↑s : Int) < (↑W.nKinds : Int)) = false → SV.ptr (0 : Nat) (0 : Nat) none (nat_lit 0) (nat_lit 0) = SV.ptr (0 : Nat) (0 : Nat) none (0 : Nat) (0 : Nat) ∧ SV.ptr ((0 : Nat) + (1 : Nat)) (0 : Nat) none (nat_lit 0) (nat_lit 0) = SV.ptr (1 : Nat) (0 : Nat) none (0 : Nat) (0 : Nat) ∧ (0 : Int) = (↑(0 : Nat) : Int) ∧ ((K_worldMay_0 W) ∧ ((True ∧ (0 : Int) = (0 : Int)) ∧ (0 : Int) = (0 : Int)) ∧ True) ∧ ((0 : Nat) ≤ W.nDoms ∧ ∀ (j : Nat), j < (0 : Nat) → farB (W.doms j) (3 : Int) = false) ∧ ∀ (s : Nat), (s ≤ W.nDoms ∧ ∀ (j : Nat), j < s → farB (W.doms j) (3 : Int) = false) → (↑W.nDoms : Int) ≤ (9223372036854775807 : Int) → (decide ((↑s : Int) < (↑W.nDoms : Int)) = true → ((0 : Int) ≤ (↑s : Int) ∧ (↑s : Int) < (↑W.nDoms : Int)) ∧ ((W.doms (Int.toNat (↑s : Int)) = W.doms (Int.toNat (↑s : Int)) ∧ (3 : Int) = (3 : Int) ∧ True) ∧ True ∧ True) ∧ (farB (W.doms (Int.toNat (↑s : Int))) (3 : Int) = true → (True ∧ True) ∧ ((True ∧ (2 : Int) = wE W) ∧ (↑s : Int) = wA W) ∧ True) ∧ (farB (W.doms (Int.toNat (↑s : Int))) (3 : Int) = false → IntKind.wrap IntKind.i64 ((↑s : Int) + (1 : Int)) = (↑s : Int) + (1 : Int) ∧ ∃ (s' : Nat), SV.ptr (0 : Nat) (0 : Nat) none (nat_lit 0) (nat_lit 0) = SV.ptr (0 : Nat) (0 : Nat) none (0 : Nat) (0 : Nat) ∧ SV.ptr ((0 : Nat) + (1 : Nat)) (0 : Nat) none (nat_lit 0) (nat_lit 0) = SV.ptr (1 : Nat) (0 : Nat) none (0 : Nat) (0 : Nat) ∧ (↑s : Int) + (1 : Int) = (↑s' : Int) ∧
    ((K_worldMay_0 W) ∧ ((True ∧ (0 : Int) = (0 : Int)) ∧ (0 : Int) = (0 : Int)) ∧ True) ∧ (s' ≤ W.nDoms ∧ ∀ (j : Nat), j < s' → farB (W.doms j) (3 : Int) = false) ∧ W.nDoms - s' < W.nDoms - s)) ∧ (decide ((↑s : Int) < (↑W.nDoms : Int)) = false → SV.ptr (0 : Nat) (0 : Nat) none (nat_lit 0) (nat_lit 0) = SV.ptr (0 : Nat) (0 : Nat) none (0 : Nat) (0 : Nat) ∧ SV.ptr ((0 : Nat) + (1 : Nat)) (0 : Nat) none (nat_lit 0) (nat_lit 0) = SV.ptr (1 : Nat) (0 : Nat) none (0 : Nat) (0 : Nat) ∧ (0 : Int) = (↑(0 : Nat) : Int) ∧ ((K_worldMay_0 W) ∧ ((True ∧ (0 : Int) = (0 : Int)) ∧ (0 : Int) = (0 : Int)) ∧ True) ∧ ((0 : Nat) ≤ W.nSlots ∧ ∀ (j : Nat), j < (0 : Nat) → (!slB W j) = false) ∧ ∀ (s : Nat), (s ≤ W.nSlots ∧ ∀ (j : Nat), j < s → (!slB W j) = false) → (↑W.nSlots : Int) ≤ (9223372036854775807 : Int) → (decide ((↑s : Int) < (↑W.nSlots : Int)) = true → (((K_worldMay_0 W) ∧ (↑s : Int) = (↑s : Int) ∧ True) ∧ True ∧ Szd W ∧ (0 : Int) ≤ (↑s : Int) ∧ (↑s : Int) < (↑W.nSlots : Int)) ∧ ((!slB W (Int.toNat (↑s : Int))) = true → (True ∧ True) ∧ ((True ∧ (8 : Int) = wE W) ∧ (↑s : Int) = wA W) ∧ True) ∧ ((!slB W (Int.toNat (↑s : Int))) = false → IntKind.wrap IntKind.i64 ((↑s : Int) + (1 : Int)) = (↑s : Int) + (1 : Int) ∧ ∃ (s' : Nat), SV.ptr (0 : Nat) (0 : Nat) none (nat_lit 0) (nat_lit 0) = SV.ptr (0 : Nat) (0 : Nat) none (0 : Nat) (0 : Nat) ∧ SV.ptr ((0 : Nat) + (1 : Nat)) (0 : Nat) none (nat_lit 0) (nat_lit 0) = SV.ptr (1 : Nat) (0 : Nat) none (0 : Nat) (0 : Nat) ∧ (↑s : Int) + (1 : Int) = (↑s' :
    Int) ∧ ((K_worldMay_0 W) ∧ ((True ∧ (0 : Int) = (0 : Int)) ∧ (0 : Int) = (0 : Int)) ∧ True) ∧ (s' ≤ W.nSlots ∧ ∀ (j : Nat), j < s' → (!slB W j) = false) ∧ W.nSlots - s' < W.nSlots - s)) ∧ (decide ((↑s : Int) < (↑W.nSlots : Int)) = false → SV.ptr (0 : Nat) (0 : Nat) none (nat_lit 0) (nat_lit 0) = SV.ptr (0 : Nat) (0 : Nat) none (0 : Nat) (0 : Nat) ∧ SV.ptr ((0 : Nat) + (1 : Nat)) (0 : Nat) none (nat_lit 0) (nat_lit 0) = SV.ptr (1 : Nat) (0 : Nat) none (0 : Nat) (0 : Nat) ∧ (0 : Int) = (↑(0 : Nat) : Int) ∧ ((K_worldMay_0 W) ∧ ((True ∧ (0 : Int) = (0 : Int)) ∧ (0 : Int) = (0 : Int)) ∧ True) ∧ ((0 : Nat) ≤ W.nKinds ∧ ∀ (j : Nat), j < (0 : Nat) → (!frB W j) = false) ∧ ∀ (s : Nat), (s ≤ W.nKinds ∧ ∀ (j : Nat), j < s → (!frB W j) = false) → (decide ((↑s : Int) < (↑W.nKinds : Int)) = true → (((K_worldMay_0 W) ∧ (↑s : Int) = (↑s : Int) ∧ True) ∧ True ∧ Szd W ∧ (0 : Int) ≤ (↑s : Int) ∧ (↑s : Int) < (↑W.nKinds : Int) ∧ ∀ (i : Nat), i < W.nSlots → slB W i = true) ∧ ((!frB W (Int.toNat (↑s : Int))) = true → (True ∧ True) ∧ ((True ∧ (8 : Int) = wE W) ∧ (↑s : Int) = wA W) ∧ True) ∧ ((!frB W (Int.toNat (↑s : Int))) = false → IntKind.wrap IntKind.i64 ((↑s : Int) + (1 : Int)) = (↑s : Int) + (1 : Int) ∧ ∃ (s' : Nat), SV.ptr (0 : Nat) (0 : Nat) none (nat_lit 0) (nat_lit 0) = SV.ptr (0 : Nat) (0 : Nat) none (0 : Nat) (0 : Nat) ∧ SV.ptr ((0 : Nat) + (1 : Nat)) (0 : Nat) none (nat_lit 0) (nat_lit 0) = SV.ptr (1 : Nat) (0 : Nat) none (0 : Nat) (0 : Nat) ∧ (↑s : Int) + (1 : Int) = (↑s' : Int) ∧
    ((K_worldMay_0 W) ∧ ((True ∧ (0 : Int) = (0 : Int)) ∧ (0 : Int) = (0 : Int)) ∧ True) ∧ (s' ≤ W.nKinds ∧ ∀ (j : Nat), j < s' → (!frB W j) = false) ∧ W.nKinds - s' < W.nKinds - s)) ∧ (decide ((↑s : Int) < (↑W.nKinds : Int)) = false → SV.ptr (0 : Nat) (0 : Nat) none (nat_lit 0) (nat_lit 0) = SV.ptr (0 : Nat) (0 : Nat) none (0 : Nat) (0 : Nat) ∧ SV.ptr ((0 : Nat) + (1 : Nat)) (0 : Nat) none (nat_lit 0) (nat_lit 0) = SV.ptr (1 : Nat) (0 : Nat) none (0 : Nat) (0 : Nat) ∧ (0 : Int) = (↑(0 : Nat) : Int) ∧ ((K_worldMay_0 W) ∧ ((True ∧ (0 : Int) = (0 : Int)) ∧ (0 : Int) = (0 : Int)) ∧ True) ∧ ((0 : Nat) ≤ W.nKinds ∧ ∀ (j : Nat), j < (0 : Nat) → (!tkB W j) = false) ∧ ∀ (s : Nat), (s ≤ W.nKinds ∧ ∀ (j : Nat), j < s → (!tkB W j) = false) → (decide ((↑s : Int) < (↑W.nKinds : Int)) = true → (((K_worldMay_0 W) ∧ (↑s : Int) = (↑s : Int) ∧ True) ∧ True ∧ Szd W ∧ ((∀ (i : Nat), i < W.nLines → W.linesN i ≤ (50 : Nat)) ∧ (∀ (i : Nat), i < W.nReady → W.readyN i ≤ (50 : Nat)) ∧ ∀ (i : Nat), i < W.nTlbs → W.tlbsN i ≤ (50 : Nat)) ∧ (0 : Int) ≤ (↑s : Int) ∧ (↑s : Int) < (↑W.nKinds : Int)) ∧ ((!tkB W (Int.toNat (↑s : Int))) = true → (True ∧ True) ∧ ((True ∧ (8 : Int) = wE W) ∧ (↑s : Int) = wA W) ∧ True) ∧ ((!tkB W (Int.toNat (↑s : Int))) = false → IntKind.wrap IntKind.i64 ((↑s : Int) + (1 : Int)) = (↑s : Int) + (1 : Int) ∧ ∃ (s' : Nat), SV.ptr (0 : Nat) (0 : Nat) none (nat_lit 0) (nat_lit 0) = SV.ptr (0 : Nat) (0 : Nat) none (0 : Nat) (0 : Nat) ∧ SV.ptr ((0 : Nat) + (1 : Nat)) (0 : Nat) none
    (nat_lit 0) (nat_lit 0) = SV.ptr (1 : Nat) (0 : Nat) none (0 : Nat) (0 : Nat) ∧ (↑s : Int) + (1 : Int) = (↑s' : Int) ∧ ((K_worldMay_0 W) ∧ ((True ∧ (0 : Int) = (0 : Int)) ∧ (0 : Int) = (0 : Int)) ∧ True) ∧ (s' ≤ W.nKinds ∧ ∀ (j : Nat), j < s' → (!tkB W j) = false) ∧ W.nKinds - s' < W.nKinds - s)) ∧ (decide ((↑s : Int) < (↑W.nKinds : Int)) = false → SV.ptr (0 : Nat) (0 : Nat) none (nat_lit 0) (nat_lit 0) = SV.ptr (0 : Nat) (0 : Nat) none (0 : Nat) (0 : Nat) ∧ SV.ptr ((0 : Nat) + (1 : Nat)) (0 : Nat) none (nat_lit 0) (nat_lit 0) = SV.ptr (1 : Nat) (0 : Nat) none (0 : Nat) (0 : Nat) ∧ (0 : Int) = (↑(0 : Nat) : Int) ∧ ((K_worldMay_0 W) ∧ ((True ∧ (0 : Int) = (0 : Int)) ∧ (0 : Int) = (0 : Int)) ∧ True) ∧ ((0 : Nat) ≤ W.nKinds ∧ ∀ (j : Nat), j < (0 : Nat) → (!lnB W j) = false) ∧ ∀ (s : Nat), (s ≤ W.nKinds ∧ ∀ (j : Nat), j < s → (!lnB W j) = false) → (decide ((↑s : Int) < (↑W.nKinds : Int)) = true → (((K_worldMay_0 W) ∧ (↑s : Int) = (↑s : Int) ∧ True) ∧ True ∧ Szd W ∧ ((∀ (i : Nat), i < W.nLines → W.linesN i ≤ (50 : Nat)) ∧ (∀ (i : Nat), i < W.nReady → W.readyN i ≤ (50 : Nat)) ∧ ∀ (i : Nat), i < W.nTlbs → W.tlbsN i ≤ (50 : Nat)) ∧ (0 : Int) ≤ (↑s : Int) ∧ (↑s : Int) < (↑W.nKinds : Int)) ∧ ((!lnB W (Int.toNat (↑s : Int))) = true → (True ∧ True) ∧ ((True ∧ (8 : Int) = wE W) ∧ (↑s : Int) = wA W) ∧ True) ∧ ((!lnB W (Int.toNat (↑s : Int))) = false → IntKind.wrap IntKind.i64 ((↑s : Int) + (1 : Int)) = (↑s : Int) + (1 : Int) ∧ ∃ (s' : Nat), SV.ptr (0 : Nat) (0 : Nat) none (nat_lit 0)
    (nat_lit 0) = SV.ptr (0 : Nat) (0 : Nat) none (0 : Nat) (0 : Nat) ∧ SV.ptr ((0 : Nat) + (1 : Nat)) (0 : Nat) none (nat_lit 0) (nat_lit 0) = SV.ptr (1 : Nat) (0 : Nat) none (0 : Nat) (0 : Nat) ∧ (↑s : Int) + (1 : Int) = (↑s' : Int) ∧ ((K_worldMay_0 W) ∧ ((True ∧ (0 : Int) = (0 : Int)) ∧ (0 : Int) = (0 : Int)) ∧ True) ∧ (s' ≤ W.nKinds ∧ ∀ (j : Nat), j < s' → (!lnB W j) = false) ∧ W.nKinds - s' < W.nKinds - s)) ∧ (decide ((↑s : Int) < (↑W.nKinds : Int)) = false → SV.ptr (0 : Nat) (0 : Nat) none (nat_lit 0) (nat_lit 0) = SV.ptr (0 : Nat) (0 : Nat) none (0 : Nat) (0 : Nat) ∧ SV.ptr ((0 : Nat) + (1 : Nat)) (0 : Nat) none (nat_lit 0) (nat_lit 0) = SV.ptr (1 : Nat) (0 : Nat) none (0 : Nat) (0 : Nat) ∧ (0 : Int) = (↑(0 : Nat) : Int) ∧ ((K_worldMay_0 W) ∧ ((True ∧ (0 : Int) = (0 : Int)) ∧ (0 : Int) = (0 : Int)) ∧ True) ∧ ((0 : Nat) ≤ W.nCores ∧ ∀ (j : Nat), j < (0 : Nat) → (!coB W j) = false) ∧ ∀ (s : Nat), (s ≤ W.nCores ∧ ∀ (j : Nat), j < s → (!coB W j) = false) → (decide ((↑s : Int) < (↑W.nCores : Int)) = true → True ∧ True ∧ True ∧ ((0 : Int) ≤ (↑s : Int) ∧ (↑s : Int) < (↑W.nCores : Int)) ∧ True ∧ True ∧ True ∧ True ∧ True ∧ True ∧ True ∧ ((W.cores (Int.toNat (↑s : Int)) != (-1 : Int)) = true → (0 : Int) ≤ (↑s : Int) ∧ (↑s : Int) < (↑W.nCores : Int)) ∧ True ∧ True ∧ ((W.cores (Int.toNat (↑s : Int)) != (-1 : Int)) = true → ((K_worldMay_0 W) ∧ W.cores (Int.toNat (↑s : Int)) = W.cores (Int.toNat (↑s : Int)) ∧ (↑s : Int) = (↑s : Int) ∧ (-1 : Int) = (-1 : Int) ∧ True) ∧ True ∧ Szd W)
    ∧ ((bif W.cores (Int.toNat (↑s : Int)) != (-1 : Int) then !rdB W (W.cores (Int.toNat (↑s : Int))) (↑s : Int) (-1 : Int) else false) = true → (True ∧ True) ∧ ((True ∧ (8 : Int) = wE W) ∧ (↑s : Int) = wA W) ∧ True) ∧ ((bif W.cores (Int.toNat (↑s : Int)) != (-1 : Int) then !rdB W (W.cores (Int.toNat (↑s : Int))) (↑s : Int) (-1 : Int) else false) = false → IntKind.wrap IntKind.i64 ((↑s : Int) + (1 : Int)) = (↑s : Int) + (1 : Int) ∧ ∃ (s' : Nat), SV.ptr (0 : Nat) (0 : Nat) none (nat_lit 0) (nat_lit 0) = SV.ptr (0 : Nat) (0 : Nat) none (0 : Nat) (0 : Nat) ∧ SV.ptr ((0 : Nat) + (1 : Nat)) (0 : Nat) none (nat_lit 0) (nat_lit 0) = SV.ptr (1 : Nat) (0 : Nat) none (0 : Nat) (0 : Nat) ∧ (↑s : Int) + (1 : Int) = (↑s' : Int) ∧ ((K_worldMay_0 W) ∧ ((True ∧ (0 : Int) = (0 : Int)) ∧ (0 : Int) = (0 : Int)) ∧ True) ∧ (s' ≤ W.nCores ∧ ∀ (j : Nat), j < s' → (!coB W j) = false) ∧ W.nCores - s' < W.nCores - s)) ∧ (decide ((↑s : Int) < (↑W.nCores : Int)) = false → SV.ptr (0 : Nat) (0 : Nat) none (nat_lit 0) (nat_lit 0) = SV.ptr (0 : Nat) (0 : Nat) none (0 : Nat) (0 : Nat) ∧ SV.ptr ((0 : Nat) + (1 : Nat)) (0 : Nat) none (nat_lit 0) (nat_lit 0) = SV.ptr (1 : Nat) (0 : Nat) none (0 : Nat) (0 : Nat) ∧ (0 : Int) = (↑(0 : Nat) : Int) ∧ ((K_worldMay_0 W) ∧ ((True ∧ (0 : Int) = (0 : Int)) ∧ (0 : Int) = (0 : Int)) ∧ True) ∧ ((0 : Nat) ≤ W.nReady ∧ ∀ (j : Nat), j < (0 : Nat) → (!rlB W j) = false) ∧ ∀ (s : Nat), (s ≤ W.nReady ∧ ∀ (j : Nat), j < s → (!rlB W j) = false) → (↑W.nReady : Int) ≤
    (9223372036854775807 : Int) → (decide ((↑s : Int) < (↑W.nReady : Int)) = true → SV.ptr (0 : Nat) (0 : Nat) none (nat_lit 0) (nat_lit 0) = SV.ptr (0 : Nat) (0 : Nat) none (0 : Nat) (0 : Nat) ∧ SV.ptr ((0 : Nat) + (1 : Nat)) (0 : Nat) none (nat_lit 0) (nat_lit 0) = SV.ptr (1 : Nat) (0 : Nat) none (0 : Nat) (0 : Nat) ∧ (0 : Int) = (↑(0 : Nat) : Int) ∧ ((K_worldMay_0 W) ∧ ((True ∧ (0 : Int) = (0 : Int)) ∧ (0 : Int) = (0 : Int)) ∧ True) ∧ ((0 : Nat) ≤ W.readyN (Int.toNat (↑s : Int)) ∧ ∀ (j : Nat), j < (0 : Nat) → rdB W (W.ready (Int.toNat (↑s : Int)) j) ((↑s : Int) / (4 : Int)) ((↑s : Int) % (4 : Int)) = true) ∧ ∀ (s_1 : Nat), (s_1 ≤ W.readyN (Int.toNat (↑s : Int)) ∧ ∀ (j : Nat), j < s_1 → rdB W (W.ready (Int.toNat (↑s : Int)) j) ((↑s : Int) / (4 : Int)) ((↑s : Int) % (4 : Int)) = true) → ((0 : Int) ≤ (↑s : Int) ∧ (↑s : Int) < (↑W.nReady : Int)) ∧ ((↑(W.readyN (Int.toNat (↑s : Int))) : Int) ≤ (9223372036854775807 : Int) → (decide ((↑s_1 : Int) < (↑(W.readyN (Int.toNat (↑s : Int))) : Int)) = true → True ∧ True ∧ True ∧ True ∧ ((0 : Int) ≤ (↑s : Int) ∧ (↑s : Int) < (↑W.nReady : Int)) ∧ True ∧ True ∧ ((0 : Int) ≤ (↑s_1 : Int) ∧ (↑s_1 : Int) < (↑(W.readyN (Int.toNat (↑s : Int))) : Int)) ∧ True ∧ True ∧ ((0 : Int) ≤ (↑s : Int) ∧ (0 : Int) < (4 : Int) ∧ IntKind.wrap IntKind.i64 ((↑s : Int) / (4 : Int)) = (↑s : Int) / (4 : Int)) ∧ True ∧ ((0 : Int) ≤ (↑s : Int) ∧ (0 : Int) < (4 : Int)) ∧ (((K_worldMay_0 W) ∧ W.ready (Int.toNat (↑s : Int)) (Int.toNat (↑s_1 : Int)) = W.ready (Int.toNat
    (↑s : Int)) (Int.toNat (↑s_1 : Int)) ∧ (↑s : Int) / (4 : Int) = (↑s : Int) / (4 : Int) ∧ (↑s : Int) % (4 : Int) = (↑s : Int) % (4 : Int) ∧ True) ∧ True ∧ Szd W) ∧ ((!rdB W (W.ready (Int.toNat (↑s : Int)) (Int.toNat (↑s_1 : Int))) ((↑s : Int) / (4 : Int)) ((↑s : Int) % (4 : Int))) = true → (True ∧ True) ∧ ((True ∧ (8 : Int) = wE W) ∧ (↑s : Int) = wA W) ∧ True) ∧ ((!rdB W (W.ready (Int.toNat (↑s : Int)) (Int.toNat (↑s_1 : Int))) ((↑s : Int) / (4 : Int)) ((↑s : Int) % (4 : Int))) = false → IntKind.wrap IntKind.i64 ((↑s_1 : Int) + (1 : Int)) = (↑s_1 : Int) + (1 : Int) ∧ ∃ (s' : Nat), SV.ptr (0 : Nat) (0 : Nat) none (nat_lit 0) (nat_lit 0) = SV.ptr (0 : Nat) (0 : Nat) none (0 : Nat) (0 : Nat) ∧ SV.ptr ((0 : Nat) + (1 : Nat)) (0 : Nat) none (nat_lit 0) (nat_lit 0) = SV.ptr (1 : Nat) (0 : Nat) none (0 : Nat) (0 : Nat) ∧ (↑s_1 : Int) + (1 : Int) = (↑s' : Int) ∧ ((K_worldMay_0 W) ∧ ((True ∧ (0 : Int) = (0 : Int)) ∧ (0 : Int) = (0 : Int)) ∧ True) ∧ (s' ≤ W.readyN (Int.toNat (↑s : Int)) ∧ ∀ (j : Nat), j < s' → rdB W (W.ready (Int.toNat (↑s : Int)) j) ((↑s : Int) / (4 : Int)) ((↑s : Int) % (4 : Int)) = true) ∧ W.readyN (Int.toNat (↑s : Int)) - s' < W.readyN (Int.toNat (↑s : Int)) - s_1)) ∧ (decide ((↑s_1 : Int) < (↑(W.readyN (Int.toNat (↑s : Int))) : Int)) = false → IntKind.wrap IntKind.i64 ((↑s : Int) + (1 : Int)) = (↑s : Int) + (1 : Int) ∧ ∃ (s' : Nat), SV.ptr (0 : Nat) (0 : Nat) none (nat_lit 0) (nat_lit 0) = SV.ptr (0 : Nat) (0 : Nat) none (0 : Nat) (0 : Nat) ∧ SV.ptr ((0 : Nat)
    + (1 : Nat)) (0 : Nat) none (nat_lit 0) (nat_lit 0) = SV.ptr (1 : Nat) (0 : Nat) none (0 : Nat) (0 : Nat) ∧ (↑s : Int) + (1 : Int) = (↑s' : Int) ∧ ((K_worldMay_0 W) ∧ ((True ∧ (0 : Int) = (0 : Int)) ∧ (0 : Int) = (0 : Int)) ∧ True) ∧ (s' ≤ W.nReady ∧ ∀ (j : Nat), j < s' → (!rlB W j) = false) ∧ W.nReady - s' < W.nReady - s))) ∧ (decide ((↑s : Int) < (↑W.nReady : Int)) = false → SV.ptr (0 : Nat) (0 : Nat) none (nat_lit 0) (nat_lit 0) = SV.ptr (0 : Nat) (0 : Nat) none (0 : Nat) (0 : Nat) ∧ SV.ptr ((0 : Nat) + (1 : Nat)) (0 : Nat) none (nat_lit 0) (nat_lit 0) = SV.ptr (1 : Nat) (0 : Nat) none (0 : Nat) (0 : Nat) ∧ (0 : Int) = (↑(0 : Nat) : Int) ∧ ((K_worldMay_0 W) ∧ ((True ∧ (0 : Int) = (0 : Int)) ∧ (0 : Int) = (0 : Int)) ∧ True) ∧ ((0 : Nat) ≤ W.nRam ∧ ∀ (j : Nat), j < (0 : Nat) → (!enB W j) = false) ∧ ∀ (s : Nat), (s ≤ W.nRam ∧ ∀ (j : Nat), j < s → (!enB W j) = false) → (↑W.nRam : Int) ≤ (9223372036854775807 : Int) → (decide ((↑s : Int) < (↑W.nRam : Int)) = true → (((K_worldMay_0 W) ∧ (↑s : Int) = (↑s : Int) ∧ True) ∧ True ∧ Szd W ∧ (0 : Int) ≤ (↑s : Int) ∧ (↑s : Int) < (↑W.nRam : Int) ∧ (0 : Int) ≤ W.ram (Int.toNat (↑s : Int)) ∧ W.ram (Int.toNat (↑s : Int)) ≤ (65535 : Int)) ∧ ((!enB W (Int.toNat (↑s : Int))) = true → (True ∧ True) ∧ ((True ∧ (9 : Int) = wE W) ∧ (↑s : Int) = wA W) ∧ True) ∧ ((!enB W (Int.toNat (↑s : Int))) = false → IntKind.wrap IntKind.i64 ((↑s : Int) + (1 : Int)) = (↑s : Int) + (1 : Int) ∧ ∃ (s' : Nat), SV.ptr (0 : Nat) (0 : Nat) none (nat_lit 0) (nat_lit
    0) = SV.ptr (0 : Nat) (0 : Nat) none (0 : Nat) (0 : Nat) ∧ SV.ptr ((0 : Nat) + (1 : Nat)) (0 : Nat) none (nat_lit 0) (nat_lit 0) = SV.ptr (1 : Nat) (0 : Nat) none (0 : Nat) (0 : Nat) ∧ (↑s : Int) + (1 : Int) = (↑s' : Int) ∧ ((K_worldMay_0 W) ∧ ((True ∧ (0 : Int) = (0 : Int)) ∧ (0 : Int) = (0 : Int)) ∧ True) ∧ (s' ≤ W.nRam ∧ ∀ (j : Nat), j < s' → (!enB W j) = false) ∧ W.nRam - s' < W.nRam - s)) ∧ (decide ((↑s : Int) < (↑W.nRam : Int)) = false → SV.ptr (0 : Nat) (0 : Nat) none (nat_lit 0) (nat_lit 0) = SV.ptr (0 : Nat) (0 : Nat) none (0 : Nat) (0 : Nat) ∧ SV.ptr ((0 : Nat) + (1 : Nat)) (0 : Nat) none (nat_lit 0) (nat_lit 0) = SV.ptr (1 : Nat) (0 : Nat) none (0 : Nat) (0 : Nat) ∧ (0 : Int) = (↑(0 : Nat) : Int) ∧ ((K_worldMay_0 W) ∧ ((True ∧ (0 : Int) = (0 : Int)) ∧ (0 : Int) = (0 : Int)) ∧ True) ∧ ((0 : Nat) ≤ W.nCores ∧ ∀ (j : Nat), j < (0 : Nat) → (!tlB W (W.tlbsN j) (W.tlbs j)) = false) ∧ ∀ (s : Nat), (s ≤ W.nCores ∧ ∀ (j : Nat), j < s → (!tlB W (W.tlbsN j) (W.tlbs j)) = false) → (decide ((↑s : Int) < (↑W.nCores : Int)) = true → True ∧ True ∧ True ∧ True ∧ ((0 : Int) ≤ (↑s : Int) ∧ (↑s : Int) < (↑W.nTlbs : Int)) ∧ True ∧ (((K_worldMay_0 W) ∧ (W.tlbsN (Int.toNat (↑s : Int)) = W.tlbsN (Int.toNat (↑s : Int)) ∧ ∀ (i : Nat), i < W.tlbsN (Int.toNat (↑s : Int)) → (((True ∧ (W.tlbs (Int.toNat (↑s : Int)) i).sp = (W.tlbs (Int.toNat (↑s : Int)) i).sp) ∧ (W.tlbs (Int.toNat (↑s : Int)) i).pg = (W.tlbs (Int.toNat (↑s : Int)) i).pg) ∧ (W.tlbs (Int.toNat (↑s : Int)) i).fr = (W.tlbs
    (Int.toNat (↑s : Int)) i).fr) ∧ (W.tlbs (Int.toNat (↑s : Int)) i).wr = (W.tlbs (Int.toNat (↑s : Int)) i).wr) ∧ True) ∧ True ∧ Szd W ∧ W.tlbsN (Int.toNat (↑s : Int)) ≤ (1000 : Nat) ∧ ∀ (i : Nat), i < W.nRam → (0 : Int) ≤ W.ram i ∧ W.ram i ≤ (65535 : Int)) ∧ ((!tlB W (W.tlbsN (Int.toNat (↑s : Int))) (W.tlbs (Int.toNat (↑s : Int)))) = true → (True ∧ True) ∧ ((True ∧ (9 : Int) = wE W) ∧ (↑s : Int) = wA W) ∧ True) ∧ ((!tlB W (W.tlbsN (Int.toNat (↑s : Int))) (W.tlbs (Int.toNat (↑s : Int)))) = false → IntKind.wrap IntKind.i64 ((↑s : Int) + (1 : Int)) = (↑s : Int) + (1 : Int) ∧ ∃ (s' : Nat), SV.ptr (0 : Nat) (0 : Nat) none (nat_lit 0) (nat_lit 0) = SV.ptr (0 : Nat) (0 : Nat) none (0 : Nat) (0 : Nat) ∧ SV.ptr ((0 : Nat) + (1 : Nat)) (0 : Nat) none (nat_lit 0) (nat_lit 0) = SV.ptr (1 : Nat) (0 : Nat) none (0 : Nat) (0 : Nat) ∧ (↑s : Int) + (1 : Int) = (↑s' : Int) ∧ ((K_worldMay_0 W) ∧ ((True ∧ (0 : Int) = (0 : Int)) ∧ (0 : Int) = (0 : Int)) ∧ True) ∧ (s' ≤ W.nCores ∧ ∀ (j : Nat), j < s' → (!tlB W (W.tlbsN j) (W.tlbs j)) = false) ∧ W.nCores - s' < W.nCores - s)) ∧ (decide ((↑s : Int) < (↑W.nCores : Int)) = false → (True ∧ True ∧ True) ∧ (True ∧ True) ∧ ((True ∧ (0 : Int) = wE W) ∧ (-1 : Int) = wA W) ∧ True)))))))))))))
theorem q_worldMay (W : Wd) : evBody Tryd.prog false glN (mkT [(20, c_err), (53, c_far), (55, c_fine), (100, c_slotWell), (101, c_frameWell), (102, c_taskWell), (103, c_lineWell), (104, c_readyAt), (105, c_entryWell), (106, c_tlbWell)]) Tryd.f60 (a_worldMay W) (m_worldMay W) [.inv (an_wm 5 W.nRam fun i => farB (W.ram i) 65535), .inv (an_wm 6 W.nKinds fun i => farB (W.kinds i) 8 || W.kinds i == 1), .inv (an_wm 7 W.nDoms fun i => farB (W.doms i) 3), .inv (an_wm 8 W.nSlots fun i => !slB W i), .inv (an_wm 9 W.nKinds fun i => !frB W i), .inv (an_wm 10 W.nKinds fun i => !tkB W i), .inv (an_wm 11 W.nKinds fun i => !lnB W i), .inv (an_wm 12 W.nCores fun i => !coB W i), .inv (an_wm 13 W.nReady fun i => !rlB W i), .invF false fun fr => intK (fr 13) (an_wmR W), .inv (an_wm 15 W.nRam fun i => !enB W i), .inv (an_wm 16 W.nCores fun i => !tlB W (W.tlbsN i) (W.tlbs i))] (r_worldMay W) (n_worldMay W) = V_worldMay W := by kernel_rfl
set_option maxHeartbeats 4000000 in
theorem pf_worldMay (W : Wd) (hp : p_worldMay W) : FnC Tryd.prog glN 60 (a_worldMay W) (m_worldMay W) (r_worldMay W) (n_worldMay W) := by
  refine fn_of (sound_cons ok_err (sound_cons ok_far (sound_cons ok_fine (sound_cons ok_slotWell (sound_cons ok_frameWell (sound_cons ok_taskWell (sound_cons ok_lineWell (sound_cons ok_readyAt (sound_cons ok_entryWell (sound_cons ok_tlbWell sound_nil)))))))))) false Tryd.func60 [.inv (an_wm 5 W.nRam fun i => farB (W.ram i) 65535), .inv (an_wm 6 W.nKinds fun i => farB (W.kinds i) 8 || W.kinds i == 1), .inv (an_wm 7 W.nDoms fun i => farB (W.doms i) 3), .inv (an_wm 8 W.nSlots fun i => !slB W i), .inv (an_wm 9 W.nKinds fun i => !frB W i), .inv (an_wm 10 W.nKinds fun i => !tkB W i), .inv (an_wm 11 W.nKinds fun i => !lnB W i), .inv (an_wm 12 W.nCores fun i => !coB W i), .inv (an_wm 13 W.nReady fun i => !rlB W i), .invF false fun fr => intK (fr 13) (an_wmR W), .inv (an_wm 15 W.nRam fun i => !enB W i), .inv (an_wm 16 W.nCores fun i => !tlB W (W.tlbsN i) (W.tlbs i))] (q_worldMay W) ?_
  unfold V_worldMay
  unfold p_worldMay at hp
  simp only [K_worldMay_0, true_and, and_true, and_self, implies_true, eq_self, Int.toNat_natCast, Nat.zero_add, Int.natCast_nonneg, Nat.not_lt_zero, false_implies, Nat.zero_le, Int.natCast_zero, Bool.cond_self, Bool.cond_true_left, Bool.cond_false_right, Bool.cond_true_right, Bool.cond_false_left]
  have wr : ∀ z : Int, -100000 ≤ z → z ≤ 100000 → IntKind.i64.wrap z = z := fun z h1 h2 => by rw [IntKind.wrap_i64]; omega
  have b1 := hp.ram
  have b2 := hp.kinds
  have b3 := hp.slots
  have b4 := hp.cores
  have b5 := hp.ready
  have b6 := hp.doms
  unfold wE wA
  refine fun _ _ => ⟨fun _ => wr _ (by omega) (by omega), fun _ => wr _ (by omega) (by omega), fun _ => wr _ (by omega) (by omega), ?_⟩
  rw [szBad_int]
  refine ⟨fun h => by rw [show wm W = (2, -1) by unfold wm; rw [h]; rfl]; exact ⟨rfl, rfl⟩, fun h => ?_⟩
  have hz := szd_of h
  have X0 : wm W = fstE W.nRam (fun i => farB (W.ram i) 65535) 1 (fstE W.nKinds (fun i => farB (W.kinds i) 8 || W.kinds i == 1) 3 (fstE W.nDoms (fun i => farB (W.doms i) 3) 2 (fstE W.nSlots (fun i => !slB W i) 8 (fstE W.nKinds (fun i => !frB W i) 8 (fstE W.nKinds (fun i => !tkB W i) 8 (fstE W.nKinds (fun i => !lnB W i) 8 (fstE W.nCores (fun i => !coB W i) 8 (fstE W.nReady (fun i => !rlB W i) 8 (fstE W.nRam (fun i => !enB W i) 9 (fstE W.nCores (fun i => !tlB W (W.tlbsN i) (W.tlbs i)) 9 ((0, -1)))))))))))) := by unfold wm; rw [h]; rfl
  clear h
  have z1 := hz.ram
  have z2 := hz.slots
  have z3 := hz.tlbs
  have z4 := hz.ready
  intro s hs _
  refine ⟨fun h1 => ?_, fun h1 => ?_⟩
  · have hlt := lt_of_dec h1
    refine ⟨by omega, fun h2 => ?_, fun h2 => ⟨wr _ (by omega) (by omega), exS ⟨⟨by omega, snocF (p := fun i => farB (W.ram i) 65535) hs.2 h2⟩, by omega⟩⟩⟩
    rw [X0, fstE_at (p := fun i => farB (W.ram i) 65535) hs.2 h2 hlt]; exact ⟨rfl, rfl⟩
  have hge := ge_of_dec h1
  have hq : ∀ j, j < W.nRam → (fun i => farB (W.ram i) 65535) j = false := fun j hj => hs.2 j (by omega)
  have X1 : wm W = fstE W.nKinds (fun i => farB (W.kinds i) 8 || W.kinds i == 1) 3 (fstE W.nDoms (fun i => farB (W.doms i) 3) 2 (fstE W.nSlots (fun i => !slB W i) 8 (fstE W.nKinds (fun i => !frB W i) 8 (fstE W.nKinds (fun i => !tkB W i) 8 (fstE W.nKinds (fun i => !lnB W i) 8 (fstE W.nCores (fun i => !coB W i) 8 (fstE W.nReady (fun i => !rlB W i) 8 (fstE W.nRam (fun i => !enB W i) 9 (fstE W.nCores (fun i => !tlB W (W.tlbsN i) (W.tlbs i)) 9 ((0, -1))))))))))) := by rw [X0, fstE_none hq]
  have hram : ∀ i, i < W.nRam → isW (W.ram i) := fun i hi => by have := hq i hi; simp [farB] at this; exact ⟨by omega, by omega⟩
  clear hge hs h1 hq
  intro s hs
  refine ⟨fun h1 => ?_, fun h1 => ?_⟩
  · have hlt := lt_of_dec h1
    refine ⟨by omega, fun _ => by omega, fun h2 => ?_, fun h2 => ⟨wr _ (by omega) (by omega), exS ⟨⟨by omega, snocF (p := fun i => farB (W.kinds i) 8 || W.kinds i == 1) hs.2 h2⟩, by omega⟩⟩⟩
    rw [X1, fstE_at (p := fun i => farB (W.kinds i) 8 || W.kinds i == 1) hs.2 h2 hlt]; exact ⟨rfl, rfl⟩
  have hge := ge_of_dec h1
  have hq : ∀ j, j < W.nKinds → (fun i => farB (W.kinds i) 8 || W.kinds i == 1) j = false := fun j hj => hs.2 j (by omega)
  have X2 : wm W = fstE W.nDoms (fun i => farB (W.doms i) 3) 2 (fstE W.nSlots (fun i => !slB W i) 8 (fstE W.nKinds (fun i => !frB W i) 8 (fstE W.nKinds (fun i => !tkB W i) 8 (fstE W.nKinds (fun i => !lnB W i) 8 (fstE W.nCores (fun i => !coB W i) 8 (fstE W.nReady (fun i => !rlB W i) 8 (fstE W.nRam (fun i => !enB W i) 9 (fstE W.nCores (fun i => !tlB W (W.tlbsN i) (W.tlbs i)) 9 ((0, -1)))))))))) := by rw [X1, fstE_none hq]
  clear hge hs h1 hq
  intro s hs _
  refine ⟨fun h1 => ?_, fun h1 => ?_⟩
  · have hlt := lt_of_dec h1
    refine ⟨by omega, fun h2 => ?_, fun h2 => ⟨wr _ (by omega) (by omega), exS ⟨⟨by omega, snocF (p := fun i => farB (W.doms i) 3) hs.2 h2⟩, by omega⟩⟩⟩
    rw [X2, fstE_at (p := fun i => farB (W.doms i) 3) hs.2 h2 hlt]; exact ⟨rfl, rfl⟩
  have hge := ge_of_dec h1
  have hq : ∀ j, j < W.nDoms → (fun i => farB (W.doms i) 3) j = false := fun j hj => hs.2 j (by omega)
  have X3 : wm W = fstE W.nSlots (fun i => !slB W i) 8 (fstE W.nKinds (fun i => !frB W i) 8 (fstE W.nKinds (fun i => !tkB W i) 8 (fstE W.nKinds (fun i => !lnB W i) 8 (fstE W.nCores (fun i => !coB W i) 8 (fstE W.nReady (fun i => !rlB W i) 8 (fstE W.nRam (fun i => !enB W i) 9 (fstE W.nCores (fun i => !tlB W (W.tlbsN i) (W.tlbs i)) 9 ((0, -1))))))))) := by rw [X2, fstE_none hq]
  clear hge hs h1 hq
  intro s hs _
  refine ⟨fun h1 => ?_, fun h1 => ?_⟩
  · have hlt := lt_of_dec h1
    refine ⟨⟨hz, by omega⟩, fun h2 => ?_, fun h2 => ⟨wr _ (by omega) (by omega), exS ⟨⟨by omega, snocF (p := fun i => !slB W i) hs.2 h2⟩, by omega⟩⟩⟩
    rw [X3, fstE_at (p := fun i => !slB W i) hs.2 h2 hlt]; exact ⟨rfl, rfl⟩
  have hge := ge_of_dec h1
  have hq : ∀ j, j < W.nSlots → (fun i => !slB W i) j = false := fun j hj => hs.2 j (by omega)
  have X4 : wm W = fstE W.nKinds (fun i => !frB W i) 8 (fstE W.nKinds (fun i => !tkB W i) 8 (fstE W.nKinds (fun i => !lnB W i) 8 (fstE W.nCores (fun i => !coB W i) 8 (fstE W.nReady (fun i => !rlB W i) 8 (fstE W.nRam (fun i => !enB W i) 9 (fstE W.nCores (fun i => !tlB W (W.tlbsN i) (W.tlbs i)) 9 ((0, -1)))))))) := by rw [X3, fstE_none hq]
  have hslots : ∀ i, i < W.nSlots → slB W i = true := fun i hi => by have := hq i hi; revert this; show (!slB W i) = false → _; cases slB W i <;> simp
  clear hge hs h1 hq
  intro s hs
  refine ⟨fun h1 => ?_, fun h1 => ?_⟩
  · have hlt := lt_of_dec h1
    refine ⟨⟨hz, by omega, hslots⟩, fun h2 => ?_, fun h2 => ⟨wr _ (by omega) (by omega), exS ⟨⟨by omega, snocF (p := fun i => !frB W i) hs.2 h2⟩, by omega⟩⟩⟩
    rw [X4, fstE_at (p := fun i => !frB W i) hs.2 h2 hlt]; exact ⟨rfl, rfl⟩
  have hge := ge_of_dec h1
  have hq : ∀ j, j < W.nKinds → (fun i => !frB W i) j = false := fun j hj => hs.2 j (by omega)
  have X5 : wm W = fstE W.nKinds (fun i => !tkB W i) 8 (fstE W.nKinds (fun i => !lnB W i) 8 (fstE W.nCores (fun i => !coB W i) 8 (fstE W.nReady (fun i => !rlB W i) 8 (fstE W.nRam (fun i => !enB W i) 9 (fstE W.nCores (fun i => !tlB W (W.tlbsN i) (W.tlbs i)) 9 ((0, -1))))))) := by rw [X4, fstE_none hq]
  clear hge hs h1 hq
  intro s hs
  refine ⟨fun h1 => ?_, fun h1 => ?_⟩
  · have hlt := lt_of_dec h1
    refine ⟨⟨hz, hp.sm, by omega⟩, fun h2 => ?_, fun h2 => ⟨wr _ (by omega) (by omega), exS ⟨⟨by omega, snocF (p := fun i => !tkB W i) hs.2 h2⟩, by omega⟩⟩⟩
    rw [X5, fstE_at (p := fun i => !tkB W i) hs.2 h2 hlt]; exact ⟨rfl, rfl⟩
  have hge := ge_of_dec h1
  have hq : ∀ j, j < W.nKinds → (fun i => !tkB W i) j = false := fun j hj => hs.2 j (by omega)
  have X6 : wm W = fstE W.nKinds (fun i => !lnB W i) 8 (fstE W.nCores (fun i => !coB W i) 8 (fstE W.nReady (fun i => !rlB W i) 8 (fstE W.nRam (fun i => !enB W i) 9 (fstE W.nCores (fun i => !tlB W (W.tlbsN i) (W.tlbs i)) 9 ((0, -1)))))) := by rw [X5, fstE_none hq]
  clear hge hs h1 hq
  intro s hs
  refine ⟨fun h1 => ?_, fun h1 => ?_⟩
  · have hlt := lt_of_dec h1
    refine ⟨⟨hz, hp.sm, by omega⟩, fun h2 => ?_, fun h2 => ⟨wr _ (by omega) (by omega), exS ⟨⟨by omega, snocF (p := fun i => !lnB W i) hs.2 h2⟩, by omega⟩⟩⟩
    rw [X6, fstE_at (p := fun i => !lnB W i) hs.2 h2 hlt]; exact ⟨rfl, rfl⟩
  have hge := ge_of_dec h1
  have hq : ∀ j, j < W.nKinds → (fun i => !lnB W i) j = false := fun j hj => hs.2 j (by omega)
  have X7 : wm W = fstE W.nCores (fun i => !coB W i) 8 (fstE W.nReady (fun i => !rlB W i) 8 (fstE W.nRam (fun i => !enB W i) 9 (fstE W.nCores (fun i => !tlB W (W.tlbsN i) (W.tlbs i)) 9 ((0, -1))))) := by rw [X6, fstE_none hq]
  clear hge hs h1 hq
  intro s hs
  rw [coB_not]
  refine ⟨fun h1 => ?_, fun h1 => ?_⟩
  · have hlt := lt_of_dec h1
    refine ⟨by omega, fun _ => by omega, fun _ => hz, fun h2 => ?_, fun h2 => ⟨wr _ (by omega) (by omega), exS ⟨⟨by omega, snocF (p := fun i => !coB W i) hs.2 h2⟩, by omega⟩⟩⟩
    rw [X7, fstE_at (p := fun i => !coB W i) hs.2 h2 hlt]; exact ⟨rfl, rfl⟩
  have hge := ge_of_dec h1
  have hq : ∀ j, j < W.nCores → (fun i => !coB W i) j = false := fun j hj => hs.2 j (by omega)
  have X8 : wm W = fstE W.nReady (fun i => !rlB W i) 8 (fstE W.nRam (fun i => !enB W i) 9 (fstE W.nCores (fun i => !tlB W (W.tlbsN i) (W.tlbs i)) 9 ((0, -1)))) := by rw [X7, fstE_none hq]
  clear hge hs h1 hq
  intro s hs _
  refine ⟨fun h1 k hk => ?_, fun h1 => ?_⟩
  · have hlt := lt_of_dec h1
    have e4 : ((s : Int) / 4) = ((s / 4 : Nat) : Int) := by omega
    have em : ((s : Int) % 4) = ((s % 4 : Nat) : Int) := by omega
    have hl := hp.sm.2.1 s hlt
    rw [e4, em] at hk ⊢
    refine ⟨by omega, fun _ => ⟨fun h2 => ?_, fun h2 => ?_⟩⟩
    · have hl2 := lt_of_dec h2
      refine ⟨by omega, by omega, ⟨by decide, wr _ (by omega) (by omega)⟩, by decide, hz, fun h3 => ?_, fun h3 => ⟨wr _ (by omega) (by omega), exS ⟨⟨by omega, snocB hk.2 (notF h3)⟩, by omega⟩⟩⟩
      have hb : rlB W s = false := allB_false (p := fun k => rdB W (W.ready s k) ((s / 4 : Nat) : Int) ((s % 4 : Nat) : Int)) hl2 (notT h3)
      rw [X8, fstE_at (p := fun i => !rlB W i) hs.2 (by simp [hb]) hlt]; exact ⟨rfl, rfl⟩
    · have hg2 := ge_of_dec h2
      have hb : rlB W s = true := allB_all fun j hj => hk.2 j (by omega)
      exact ⟨wr _ (by omega) (by omega), exS ⟨⟨by omega, snocF (p := fun i => !rlB W i) hs.2 (by simp [hb])⟩, by omega⟩⟩
  have hge := ge_of_dec h1
  have hq : ∀ j, j < W.nReady → (fun i => !rlB W i) j = false := fun j hj => hs.2 j (by omega)
  have X9 : wm W = fstE W.nRam (fun i => !enB W i) 9 (fstE W.nCores (fun i => !tlB W (W.tlbsN i) (W.tlbs i)) 9 ((0, -1))) := by rw [X8, fstE_none hq]
  clear hge hs h1 hq
  intro s hs _
  refine ⟨fun h1 => ?_, fun h1 => ?_⟩
  · have hlt := lt_of_dec h1
    refine ⟨⟨hz, by omega, hram s hlt⟩, fun h2 => ?_, fun h2 => ⟨wr _ (by omega) (by omega), exS ⟨⟨by omega, snocF (p := fun i => !enB W i) hs.2 h2⟩, by omega⟩⟩⟩
    rw [X9, fstE_at (p := fun i => !enB W i) hs.2 h2 hlt]; exact ⟨rfl, rfl⟩
  have hge := ge_of_dec h1
  have hq : ∀ j, j < W.nRam → (fun i => !enB W i) j = false := fun j hj => hs.2 j (by omega)
  have X10 : wm W = fstE W.nCores (fun i => !tlB W (W.tlbsN i) (W.tlbs i)) 9 ((0, -1)) := by rw [X9, fstE_none hq]
  clear hge hs h1 hq
  intro s hs
  refine ⟨fun h1 => ?_, fun h1 => ?_⟩
  · have hlt := lt_of_dec h1
    refine ⟨by omega, ⟨hz, by have := hp.sm.2.2 s (by omega); omega, hram⟩, fun h2 => ?_, fun h2 => ⟨wr _ (by omega) (by omega), exS ⟨⟨by omega, snocF (p := fun i => !tlB W (W.tlbsN i) (W.tlbs i)) hs.2 h2⟩, by omega⟩⟩⟩
    rw [X10, fstE_at (p := fun i => !tlB W (W.tlbsN i) (W.tlbs i)) hs.2 h2 hlt]; exact ⟨rfl, rfl⟩
  have hge := ge_of_dec h1
  have hq : ∀ j, j < W.nCores → (fun i => !tlB W (W.tlbsN i) (W.tlbs i)) j = false := fun j hj => hs.2 j (by omega)
  have X11 : wm W = (0, -1) := by rw [X10, fstE_none hq]
  clear hge hs h1 hq
  rw [X11]; exact ⟨rfl, rfl⟩
theorem ok_worldMay : FnOK Tryd.prog glN 60 c_worldMay := fnOK_of (fun l w => Tryd.call60 l w) fun x_ hp => pf_worldMay x_.W hp
end Go.Proofs.YtfmaeiilbhpepaaDoor
