/- What a sound world is: as data. -/
import Derived.Test.YtdjilaofmdhikaaGreatDoorYH
set_option linter.unusedVariables false
set_option linter.unusedSimpArgs false
set_option linter.unusedVariables false
set_option linter.unusedSimpArgs false
set_option maxRecDepth 100000
namespace Go.Proofs.YtdjilaofmdhikaaGreatDoor
open Go.RowKit Go.Sy
def cntB : Nat → (Nat → Bool) → Nat
  | 0, _ => 0
  | n + 1, p => cntB n p + (bif p n then 1 else 0)
def anyB (n : Nat) (p : Nat → Bool) : Bool := !allB n fun i => !p i
theorem cntB_le (p : Nat → Bool) : ∀ n, cntB n p ≤ n
  | 0 => Nat.le_refl _
  | n + 1 => by have := cntB_le p n; unfold cntB; cases p n <;> simp <;> omega
theorem anyB_iff {n : Nat} {p : Nat → Bool} : anyB n p = true ↔ ∃ i, i < n ∧ p i = true := by
  unfold anyB
  cases h : allB n fun i => !p i with
  | true =>
    simp only [Bool.not_true, Bool.false_eq_true, false_iff]
    rintro ⟨i, hi, hp⟩
    have := allB_iff.1 h i hi
    simp [hp] at this
  | false =>
    simp only [Bool.not_false, true_iff]
    refine Classical.byContradiction fun hn => ?_
    rw [allB_iff.2] at h
    · cases h
    · intro i hi
      cases hp : p i
      · rfl
      · exact absurd ⟨i, hi, hp⟩ hn
theorem anyB_false {n : Nat} {p : Nat → Bool} : anyB n p = false ↔ ∀ i, i < n → p i = false := by
  constructor
  · intro h i hi
    cases hp : p i
    · rfl
    · rw [anyB_iff.2 ⟨i, hi, hp⟩] at h; cases h
  · intro h
    cases hq : anyB n p
    · rfl
    · obtain ⟨i, hi, hp⟩ := anyB_iff.1 hq
      rw [h i hi] at hp; cases hp
theorem anyB_succ (n : Nat) (p : Nat → Bool) : anyB (n + 1) p = (anyB n p || p n) := by
  show (!(allB n (fun i => !p i) && !p n)) = (!allB n (fun i => !p i) || p n)
  cases allB n (fun i => !p i) <;> cases p n <;> rfl
def sumN : Nat → (Nat → Nat) → Nat
  | 0, _ => 0
  | n + 1, f => sumN n f + f n
theorem sumN_le {f : Nat → Nat} {b : Nat} : ∀ {n : Nat}, (∀ i, i < n → f i ≤ b) → sumN n f ≤ n * b
  | 0, _ => by simp [sumN]
  | n + 1, h => by
    have h1 := sumN_le (n := n) fun i hi => h i (by omega)
    have h2 := h n (by omega)
    unfold sumN; rw [Nat.succ_mul]; omega
def fstE (n : Nat) (p : Nat → Bool) (e : Int) (r : Int × Int) : Int × Int := bif Nat.blt (fstB n p) n then (e, ((fstB n p : Nat) : Int)) else r
theorem fstE_at {n i : Nat} {p : Nat → Bool} {e : Int} {r : Int × Int} (hb : ∀ j, j < i → p j = false) (hp : p i = true) (hi : i < n) : fstE n p e r = (e, ((i : Nat) : Int)) := by
  unfold fstE; rw [fstB_at hb hp hi, blt_t hi]; rfl
theorem fstE_none {n : Nat} {p : Nat → Bool} {e : Int} {r : Int × Int} (h : ∀ j, j < n → p j = false) : fstE n p e r = r := by
  unfold fstE; rw [fstB_none h, blt_f (Nat.le_refl _)]; rfl
theorem fstB_spec {p : Nat → Bool} : ∀ {n : Nat}, fstB n p < n → p (fstB n p) = true ∧ ∀ j, j < fstB n p → p j = false := by
  intro n h
  rcases Classical.em (∃ i, i < n ∧ p i = true) with hx | hx
  · -- the least one
    have key : ∀ k i, i ≤ k → i < n → p i = true → ∃ m, m < n ∧ p m = true ∧ ∀ j, j < m → p j = false := by
      intro k
      induction k with
      | zero =>
        intro i hi hn hp
        exact ⟨i, hn, hp, fun j hj => absurd hj (by omega)⟩
      | succ k ih =>
        intro i hi hn hp
        rcases Classical.em (∃ j, j < i ∧ p j = true) with ⟨j, hj, hpj⟩ | hno
        · exact ih j (by omega) (by omega) hpj
        · refine ⟨i, hn, hp, fun j hj => ?_⟩
          cases hq : p j
          · rfl
          · exact absurd ⟨j, hj, hq⟩ hno
    obtain ⟨i, hi, hp⟩ := hx
    obtain ⟨m, h1, h2, h3⟩ := key i i (Nat.le_refl _) hi hp
    rw [fstB_at h3 h2 h1]
    exact ⟨h2, h3⟩
  · have : ∀ j, j < n → p j = false := fun j hj => by
      cases hq : p j
      · rfl
      · exact absurd ⟨j, hj, hq⟩ hx
    rw [fstB_none this] at h
    omega
theorem fstB_lt {n i : Nat} {p : Nat → Bool} (hi : i < n) (hp : p i = true) : fstB n p < n := by
  rcases Nat.lt_or_ge (fstB n p) n with h | h
  · exact h
  · have e : fstB n p = n := Nat.le_antisymm (fstB_le p n) h
    rcases Classical.em (∃ j, j < i + 1 ∧ p j = true ∧ ∀ k, k < j → p k = false) with ⟨j, h1, h2, h3⟩ | hno
    · rw [fstB_at h3 h2 (by omega)] at h; omega
    · exfalso
      have : ∀ k, k < i + 1 → p k = false := by
        intro k
        induction k using Nat.strongRecOn with
        | _ k ih =>
          intro hk
          cases hq : p k
          · rfl
          · exact absurd ⟨k, hk, hq, fun j hj => ih j hj (by omega)⟩ hno
      rw [this i (by omega)] at hp; cases hp
theorem fstE_congr {n : Nat} {p q : Nat → Bool} {e : Int} {r r' : Int × Int} (h : ∀ i, i < n → p i = q i) (hr : (∀ i, i < n → p i = false) → r = r') : fstE n p e r = fstE n q e r' := by
  rcases Nat.lt_or_ge (fstB n p) n with h1 | h1
  · obtain ⟨h2, h3⟩ := fstB_spec h1
    rw [fstE_at h3 h2 h1, fstE_at (p := q) (fun j hj => by rw [← h j (by omega)]; exact h3 j hj) (by rw [← h _ h1]; exact h2) h1]
  · have : ∀ i, i < n → p i = false := fun i hi => by
      cases hq : p i
      · rfl
      · have := fstB_lt hi hq; omega
    rw [fstE_none this, fstE_none (fun j hj => by rw [← h j hj]; exact this j hj), hr this]
theorem fstE_zero {n : Nat} {p : Nat → Bool} {e : Int} {r : Int × Int} (he : e ≠ 0) (h : (fstE n p e r).1 = 0) : (∀ i, i < n → p i = false) ∧ r.1 = 0 := by
  rcases Nat.lt_or_ge (fstB n p) n with h1 | h1
  · obtain ⟨h2, h3⟩ := fstB_spec h1
    rw [fstE_at h3 h2 h1] at h; exact absurd h he
  · have : ∀ i, i < n → p i = false := fun i hi => by
      cases hq : p i
      · rfl
      · have := fstB_lt hi hq; omega
    rw [fstE_none this] at h
    exact ⟨this, h⟩
def kof (W : Wd) (f : Int) : Int := bif decide (f < 0) || decide ((W.nKinds : Int) ≤ f) then -1 else W.kinds f.toNat
theorem kof_in {W : Wd} {f : Int} (h : kof W f ≠ -1) : 0 ≤ f ∧ f < W.nKinds := by
  unfold kof at h
  cases h1 : decide (f < 0) <;> cases h2 : decide ((W.nKinds : Int) ≤ f) <;> simp [h1, h2] at h <;> simp at h1 h2 <;> omega
theorem kof_eq {W : Wd} {f : Int} (h : 0 ≤ f ∧ f < W.nKinds) : kof W f = W.kinds f.toNat := by
  unfold kof; rw [decide_eq_false (by omega), decide_eq_false (by omega)]; rfl
theorem kof_out {W : Wd} {f : Int} (h : f < 0 ∨ W.nKinds ≤ f) : kof W f = -1 := by
  unfold kof
  rcases h with h | h
  · rw [decide_eq_true h]; rfl
  · rw [decide_eq_true h]; cases decide (f < 0) <;> rfl
def szBad (W : Wd) : Bool :=
  decide (W.nKinds < 1) || decide (24 < W.nKinds) || decide (W.nCores < 1) || decide (4 < W.nCores) || W.nRam != W.nKinds * 16 || W.nSlots != W.nKinds * 16 || W.nTasks != W.nKinds || W.nLines != W.nKinds || W.nBits != W.nKinds || W.nReady != W.nCores * 4 || W.nTlbs != W.nCores || decide (W.nDoms < 1) || decide (8 < W.nDoms) || farB W.time 1000000
structure Szd (W : Wd) : Prop where
  k0 : 1 ≤ W.nKinds
  k1 : W.nKinds ≤ 24
  c0 : 1 ≤ W.nCores
  c1 : W.nCores ≤ 4
  ram : W.nRam = W.nKinds * 16
  slots : W.nSlots = W.nKinds * 16
  tasks : W.nTasks = W.nKinds
  lines : W.nLines = W.nKinds
  bits : W.nBits = W.nKinds
  ready : W.nReady = W.nCores * 4
  tlbs : W.nTlbs = W.nCores
  d0 : 1 ≤ W.nDoms
  d1 : W.nDoms ≤ 8
  t0 : 0 ≤ W.time
  t1 : W.time ≤ 1000000
theorem szd_of {W : Wd} (h : szBad W = false) : Szd W := by
  unfold szBad farB at h
  simp only [Bool.or_eq_false_iff, decide_eq_false_iff_not, bne_eq_false_iff_eq] at h
  obtain ⟨⟨⟨⟨⟨⟨⟨⟨⟨⟨⟨⟨⟨h1, h2⟩, h3⟩, h4⟩, h5⟩, h6⟩, h7⟩, h8⟩, h9⟩, h10⟩, h11⟩, h12⟩, h13⟩, h14, h15⟩ := h
  exact ⟨by omega, by omega, by omega, by omega, h5, h6, h7, h8, h9, h10, h11, by omega, by omega, by omega, by omega⟩
def smB (W : Wd) : Prop := (∀ i, i < W.nLines → W.linesN i ≤ 50) ∧ (∀ i, i < W.nReady → W.readyN i ≤ 50) ∧ (∀ i, i < W.nTlbs → W.tlbsN i ≤ 50)
def slNo (s : Slt) : Int := keyNo s.kind s.base s.len s.mark s.rights s.badge
def inS (W : Wd) (u : Int) : Bool := decide (0 ≤ u) && decide (u < W.nSlots)
def upS (W : Wd) (u : Int) : Int := bif inS W u then (W.slots u.toNat).from_ else u
def upK (W : Wd) (u : Int) : Nat → Int
  | 0 => u
  | k + 1 => upS W (upK W u k)
def madeB (k p : Slt) : Bool :=
  slNo p == 0 && bif p.kind == 1 then k.kind != 1 && decide (p.base ≤ k.base) && decide (k.base - p.base < p.mark) else k.kind == p.kind && k.base == p.base && (p.badge == 0 || p.badge == k.badge) && (((bitw 6 p.rights.toNat k.rights.toNat : Nat) : Int) == k.rights)
def slBs (W : Wd) (i : Nat) (s : Slt) : Bool :=
  bif s.kind == 0 then slNo s == 0 && s.from_ == -1 else
  W.kinds (i / 16) == 5 && slNo s == 0 && decide (s.base + s.len ≤ W.nKinds) && (s.kind == 1 || W.kinds s.base.toNat == s.kind) &&
  (s.from_ == -1 || (inS W s.from_ && madeB s (W.slots s.from_.toNat) && !inS W (upK W s.from_ W.nSlots)))
def slB (W : Wd) (i : Nat) : Bool := slBs W i (W.slots i)
theorem slBs_no {W : Wd} {i : Nat} {s : Slt} (h : slBs W i s = true) : slNo s = 0 := by
  unfold slBs at h
  cases hk : s.kind == 0 <;> simp only [hk, cond_true, cond_false, Bool.and_eq_true, beq_iff_eq] at h
  · exact h.1.1.1.2
  · exact h.1
theorem slNo_range {s : Slt} (h : slNo s = 0) : 0 ≤ s.kind ∧ s.kind ≤ 8 ∧ 0 ≤ s.base ∧ s.base ≤ 24 ∧ 0 ≤ s.len ∧ s.len ≤ 24 ∧ 0 ≤ s.mark ∧ s.mark ≤ 24 ∧ 0 ≤ s.rights ∧ s.rights ≤ 7 ∧ 0 ≤ s.badge ∧ s.badge ≤ 65535 := keyNo_range h
theorem snocF {p : Nat → Bool} {i : Nat} (h : ∀ j, j < i → p j = false) (hi : p i = false) : ∀ j, j < i + 1 → p j = false := by
  intro j hj
  rcases Nat.lt_or_ge j i with h3 | h3
  · exact h j h3
  · obtain rfl : j = i := by omega
    exact hi
theorem upS_in {W : Wd} {u : Int} (h : inS W u = true) : upS W u = (W.slots u.toNat).from_ := by unfold upS; rw [h]; rfl
theorem upS_out {W : Wd} {u : Int} (h : inS W u = false) : upS W u = u := by unfold upS; rw [h]; rfl
theorem inS_iff {W : Wd} {u : Int} : inS W u = true ↔ 0 ≤ u ∧ u < W.nSlots := by unfold inS; simp
theorem upK_out {W : Wd} {u : Int} {k : Nat} (h : inS W (upK W u k) = false) : ∀ {m : Nat}, k ≤ m → upK W u m = upK W u k
  | m, hm => by
    induction m with
    | zero => obtain rfl : k = 0 := by omega
              rfl
    | succ m ih =>
      rcases Nat.lt_or_ge m k with h1 | h1
      · obtain rfl : k = m + 1 := by omega
        rfl
      · show upS W (upK W u m) = _
        rw [ih h1, upS_out h]
def clayAt (s : Slt) (f : Nat) : Bool := s.kind == 1 && decide (s.base ≤ f) && decide ((f : Int) < s.base + s.len)
def freeAt (s : Slt) (f : Nat) : Bool := clayAt s f && decide (s.base + s.mark ≤ f)
def keyAt (s : Slt) (f : Nat) : Bool := s.kind != 1 && s.kind != 0 && s.base == f
def frB (W : Wd) (f : Nat) : Bool :=
  decide (cntB W.nSlots (fun i => clayAt (W.slots i) f) ≤ 1) && (W.kinds f == 0 || (decide (0 < cntB W.nSlots fun i => keyAt (W.slots i) f) && !anyB W.nSlots fun i => freeAt (W.slots i) f))
def cntL (n : Nat) (l : Nat → Int) (x : Int) : Nat := cntB n fun k => l k == x
def cntLL (n : Nat) (ln : Nat → Nat) (l : Nat → Nat → Int) (x : Int) : Nat := sumN n fun i => cntL (ln i) (l i) x
def inB' (n : Nat) (l : Nat → Int) (x : Int) : Bool := anyB n fun k => l k == x
def regFar (t : Run) : Bool := farB t.r0 65535 || farB t.r1 65535 || farB t.r2 65535 || farB t.r3 65535 || farB t.r4 65535 || farB t.r5 65535 || farB t.r6 65535 || farB t.r7 65535
def numFar (W : Wd) (t : Run) : Bool := farB t.pc 65535 || farB t.word 65535 || farB t.badge 65535 || farB t.st 6 || farB t.prio 3 || farB t.core (W.nCores - 1) || farB t.dom 3
def okF (W : Wd) (f k : Int) : Bool := f == -1 || kof W f == k
def refOK (W : Wd) (t : Run) : Bool := okF W t.node 5 && okF W t.space 4 && okF W t.helper 7 && okF W t.owes 6
def owesOK (W : Wd) (t : Run) : Bool := t.owes == -1 || ((W.tasks t.owes.toNat).st == 5 && t.st != 4)
def owed (W : Wd) (f : Nat) : Nat := cntB W.nTasks fun i => (W.tasks i).owes == f
def owedOK (W : Wd) (f : Nat) : Bool := decide (owed W f ≤ 1) && ((owed W f == 1) == ((W.tasks f).st == 5))
def stands (W : Wd) (f : Nat) : Nat := cntLL W.nLines W.linesN W.lines f
def turnsN (W : Wd) (f : Nat) : Nat := cntLL W.nReady W.readyN W.ready f + cntL W.nCores W.cores f
def standOK (W : Wd) (f : Nat) (k : Int) : Bool := (stands W f == 1) && (turnsN W f == 0) && kof W (W.tasks f).loc == k && inB' (W.linesN (W.tasks f).loc.toNat) (W.lines (W.tasks f).loc.toNat) f
def stOK (W : Wd) (f : Nat) : Bool :=
  let s := (W.tasks f).st
  bif s == 2 || s == 3 || s == 4 then standOK W f 7 else bif s == 6 then standOK W f 8 else
  bif s == 1 then (stands W f == 0) && (turnsN W f == 1) && (W.tasks f).loc == -1 else (stands W f == 0) && (turnsN W f == 0) && (W.tasks f).loc == -1
def tkB (W : Wd) (f : Nat) : Bool :=
  let t := W.tasks f
  bif W.kinds f != 6 then runEq t Run.blank else !regFar t && !numFar W t && refOK W t && owesOK W t && owedOK W f && stOK W f
def wtB (W : Wd) (t : Int) : Bool := (W.tasks t.toNat).st == 4
def lnTest (W : Wd) (f : Nat) (t : Int) : Bool := kof W t == 6 && (W.tasks t.toNat).loc == f && (wtB W t == wtB W (W.lines f 0))
def lnB (W : Wd) (f : Nat) : Bool :=
  !(decide (0 < W.linesN f) && W.kinds f != 7 && W.kinds f != 8) && !(W.bits f != 0 && (W.kinds f != 8 || decide (0 < W.linesN f))) && !farB (W.bits f) 65535 && allB (W.linesN f) fun i => lnTest W f (W.lines f i)
def rdB (W : Wd) (t c p : Int) : Bool := kof W t == 6 && (W.tasks t.toNat).st == 1 && (W.tasks t.toNat).core == c && (decide (p < 0) || (W.tasks t.toNat).prio == p)
def coB (W : Wd) (c : Nat) : Bool := W.cores c == -1 || rdB W (W.cores c) c (-1)
def rlB (W : Wd) (i : Nat) : Bool := allB (W.readyN i) fun k => rdB W (W.ready i k) ((i / 4 : Nat) : Int) ((i % 4 : Nat) : Int)
def enB (W : Wd) (i : Nat) : Bool :=
  let x := W.ram i
  let k := W.kinds (i / 16)
  x == 0 || (k != 3 && k != 4) || (bif k == 4 then x - x % 1024 == 32768 && kof W (x % 1024) == 3 else (x - x % 1024 == 32768 || x - x % 1024 == 49152) && kof W (x % 1024) == 2)
def tlT (W : Wd) (l : Nat → Ent4) (i : Nat) : Bool :=
  kof W (l i).sp == 4 && !farB (l i).pg 255 && wkE W.nRam W.ram (l i).sp (16 * (l i).pg) == 0 && wkF W.nRam W.ram (l i).sp (16 * (l i).pg) == (l i).fr && (wkW W.nRam W.ram (l i).sp (16 * (l i).pg) == (l i).wr) && !anyB i fun k => (l k).sp == (l i).sp && (l k).pg == (l i).pg
def tlB (W : Wd) (n : Nat) (l : Nat → Ent4) : Bool := decide (n ≤ 4) && allB n fun i => tlT W l i
def wm1 (W : Wd) (r : Int × Int) : Int × Int := fstE W.nRam (fun i => farB (W.ram i) 65535) 1 <| fstE W.nKinds (fun i => farB (W.kinds i) 8 || W.kinds i == 1) 3 <| fstE W.nDoms (fun i => farB (W.doms i) 3) 2 r
def wm2 (W : Wd) (r : Int × Int) : Int × Int := fstE W.nSlots (fun i => !slB W i) 8 r
def wm3 (W : Wd) (r : Int × Int) : Int × Int := fstE W.nKinds (fun i => !frB W i) 8 r
def wm4 (W : Wd) (r : Int × Int) : Int × Int := fstE W.nKinds (fun i => !tkB W i) 8 r
def wm5 (W : Wd) (r : Int × Int) : Int × Int := fstE W.nKinds (fun i => !lnB W i) 8 r
def wm6 (W : Wd) (r : Int × Int) : Int × Int := fstE W.nCores (fun i => !coB W i) 8 <| fstE W.nReady (fun i => !rlB W i) 8 r
def wm7 (W : Wd) (r : Int × Int) : Int × Int := fstE W.nRam (fun i => !enB W i) 9 <| fstE W.nCores (fun i => !tlB W (W.tlbsN i) (W.tlbs i)) 9 r
def wm (W : Wd) : Int × Int := bif szBad W then (2, -1) else wm1 W (wm2 W (wm3 W (wm4 W (wm5 W (wm6 W (wm7 W (0, -1)))))))
end Go.Proofs.YtdjilaofmdhikaaGreatDoor
set_option linter.unusedVariables false
set_option linter.unusedSimpArgs false
set_option maxRecDepth 100000
namespace Go.Proofs.YtdjilaofmdhikaaGreatDoor
open Go.RowKit Go.Sy
def wMJD (B : List Blk) (z : Nat) : Wd := ⟨rowN B (z + 1), fun i => intD (rowF B (z + 1) i 0), rowN B (z + 2), fun i => intD (rowF B (z + 2) i 0), rowN B (z + 3), fun i => slBD (fun j => rowF B (z + 3) i j), rowN B (z + 4), fun i => runBD (fun j => rowF B (z + 4) i j), rowN B (z + 5), fun i => ilN (rowF B (z + 5) i 0), fun i k => intD (ilF (rowF B (z + 5) i 0) k 0), rowN B (z + 6), fun i => intD (rowF B (z + 6) i 0), rowN B (z + 7), fun i => intD (rowF B (z + 7) i 0), rowN B (z + 8), fun i => ilN (rowF B (z + 8) i 0), fun i k => intD (ilF (rowF B (z + 8) i 0) k 0), rowN B (z + 9), fun i => ilN (rowF B (z + 9) i 0), fun i k => enBD (fun j => ilF (rowF B (z + 9) i 0) k j), rowN B (z + 10), fun i => intD (rowF B (z + 10) i 0), intD (celF B z 10)⟩
theorem beq_ne {a b : Nat} (h : a ≠ b) : Nat.beq a b = false := by
  cases hb : Nat.beq a b with
  | false => rfl
  | true => exact absurd (Nat.eq_of_beq_eq_true hb) h
theorem wr_in {z : Int} (h1 : -1000000 ≤ z) (h2 : z ≤ 1000000) : IntKind.i64.wrap z = z := by rw [IntKind.wrap_i64]; omega
theorem ne0 {x : Int} (h : (x != 0) = true) : (x == 0) = false := by simpa [bne] using h
theorem eq0 {x : Int} (h : (x != 0) = false) : (x == 0) = true := by simpa [bne] using h
theorem wd_eta (W : Wd) : (⟨W.nRam, W.ram, W.nKinds, W.kinds, W.nSlots, W.slots, W.nTasks, W.tasks, W.nLines, W.linesN, W.lines, W.nBits, W.bits, W.nCores, W.cores, W.nReady, W.readyN, W.ready, W.nTlbs, W.tlbsN, W.tlbs, W.nDoms, W.doms, W.time⟩ : Wd) = W := rfl
end Go.Proofs.YtdjilaofmdhikaaGreatDoor
set_option linter.unusedVariables false
set_option linter.unusedSimpArgs false
set_option maxRecDepth 100000
namespace Go.Proofs.YtdjilaofmdhikaaGreatDoor
open Go.RowKit Go.Sy
def fdB (sp pg : Int) (e : Ent4) : Bool := e.sp == sp && e.pg == pg
def zEn : Ent4 := ⟨0, 0, 0, false⟩
def fdE (n : Nat) (t : Nat → Ent4) (sp pg : Int) : Ent4 := bif Nat.blt (fstB n fun i => fdB sp pg (t i)) n then t (fstB n fun i => fdB sp pg (t i)) else zEn
def fdO (n : Nat) (t : Nat → Ent4) (sp pg : Int) : Bool := Nat.blt (fstB n fun i => fdB sp pg (t i)) n
def anQ (n : Nat) (p : Nat → Bool) : Ann where
  σ := Nat
  rt := []
  sh i := [(8, .v (.int .i64 i))]
  mh _ := []
  inv i := i ≤ n ∧ ∀ j, j < i → p j = false
  μ i := n - i
  init := 0
structure X_find1 where
  (e : Ent4) (sp pg : Int)
def s_find1 : Sy.Spec := ⟨X_find1, fun ⟨e, sp, pg⟩ => [.ag 4 (lsv (enL e)), .pt true 1 (fun _ => .v (.int .i64 sp)), .pt true 1 (fun _ => .v (.int .i64 pg))], fun _ => [], fun _ => True, fun ⟨e, sp, pg⟩ => .v (.bool (fdB sp pg e)), fun _ => [],
  fun args mem => match args with | [a0, a1, a2] => some ⟨enBD (agD a0), intD (ptF a1 0), intD (ptF a2 0)⟩ | _ => none⟩
def c_find1 : Con := ⟨[], s_find1.g, none⟩
def V_find1 : X_find1 → Prop := fun ⟨e, sp, pg⟩ => True∧cond (e.sp==sp) (e.pg==pg) false=fdB sp pg e∧True
theorem ok_find1 : FnOK Tryz.prog glN 226 c_find1 := ok_of .nil false Tryz.call226 Tryz.func226 (fun _ => []) (V := V_find1) (fun _ => by kernel_rfl) fun ⟨e, sp, pg⟩ hp => by
  dsimp only [V_find1, tn, w64]
  simp only [std, stb, eq_self, implies_true, Bool.cond_self]
  rfl
structure X_idxF where
  (n : Nat) (t : Nat → Ent4) (sp pg : Int)
def s_idxF : Sy.Spec := ⟨X_idxF, fun ⟨n, t, sp, pg⟩ => [.sl true 4 n (rF fun i => enL (t i)), .fn 226 2 (lsv [.pt true 1 (fun _ => .v (.int .i64 sp)), .pt true 1 (fun _ => .v (.int .i64 pg))])], fun _ => [], fun _ => True, fun ⟨n, t, sp, pg⟩ => .v (.int .i64 (idxB n fun i => fdB sp pg (t i))), fun _ => [],
  fun args mem => match args with | [a0, a1] => (match isFn 226 a1 with | true => some ⟨slN a0, fun i => enBD (fun j => slF a0 i j), intD (ptF (fnF a1 0) 0), intD (ptF (fnF a1 1) 0)⟩ | false => none) | _ => none⟩
def c_idxF : Con := ⟨[], s_idxF.g, none⟩
def V_idxF : X_idxF → Prop := fun ⟨n, t, sp, pg⟩ => let a0:=(n:Int);let b0:=idxB n (fun c0:Nat=>fdB sp pg (t c0));a0≤9223372036854775807→0=((0:Nat):Int)∧True∧(0≤n∧(∀d0:Nat,d0<0→fdB sp pg (t d0)=false))∧(∀e0:Nat,let g0:=(e0:Int);let h0:=decide (g0<a0);let k0:=t (Int.toNat g0);let l0:=k0.sp;let o0:=k0.pg;let q0:=k0.fr;let r0:=k0.wr;let u0:=fdB sp pg k0;let v0:Int:=g0+1;e0≤n∧(∀w0:Nat,w0<e0→fdB sp pg (t w0)=false)→(h0=true→(0≤g0∧g0<a0)∧((((((True∧l0=l0)∧o0=o0)∧q0=q0)∧r0=r0)∧(True∧sp=sp)∧(True∧pg=pg)∧True)∧True∧True)∧(u0=true→g0=b0∧True)∧(u0=false→w64 v0=v0∧(∃x0:Nat,v0=(x0:Int)∧True∧(x0≤n∧(∀y0:Nat,y0<x0→fdB sp pg (t y0)=false))∧n-x0<n-e0)))∧(h0=false→(-1)=b0∧True))
theorem ok_idxF : FnOK Tryz.prog glN 225 c_idxF := ok_of (.cons ok_find1 .nil) false Tryz.call225 Tryz.func225 (fun ⟨n, t, sp, pg⟩ => [.inv (anQ n fun i => fdB sp pg (t i))]) (V := V_idxF) (fun _ => by kernel_rfl) fun ⟨n, t, sp, pg⟩ hp => by
  dsimp only [V_idxF, tn, w64]
  simp only [std, eq_self, implies_true, Bool.cond_self]
  intro _ s hs
  refine ⟨fun h => ?_, fun h => ?_⟩
  · have hlt := lt_of_dec h
    refine ⟨by omega, fun h1 => ?_, fun h1 => ⟨by rw [IntKind.wrap_i64]; omega, exS ⟨⟨by omega, fun j hj => ?_⟩, by omega⟩⟩⟩
    · rw [idxB_at (p := fun i => fdB sp pg (t i)) hs.2 h1 hlt]
    · rcases Nat.lt_or_ge j s with h3 | h3
      · exact hs.2 j h3
      · obtain rfl : j = s := by omega
        exact h1
  · obtain rfl : s = n := by have := ge_of_dec h; omega
    rw [idxB_none (p := fun i => fdB sp pg (t i)) hs.2]
structure X_cloneE where
  (n : Nat) (t : Nat → Ent4)
def s_cloneE : Sy.Spec := ⟨X_cloneE, fun ⟨n, t⟩ => [.sl true 4 n (rF fun i => enL (t i))], fun _ => [], fun ⟨n, _⟩ => n ≤ 100000, fun ⟨n, _⟩ => .slc 0 0 none 0 n, fun ⟨n, t⟩ => [.row 4 n (rF fun i => enL (t i))],
  fun args mem => match args with | [a0] => some ⟨slN a0, fun i => enBD (fun j => slF a0 i j)⟩ | _ => none⟩
def c_cloneE : Con := ⟨[], s_cloneE.g, none⟩
def V_cloneE : X_cloneE → Prop := fun ⟨n, t⟩ => ∀a0:Bool,(a0=true→n=0)→(a0=true→(0=0∧0=n)∧(0=n∧(∀b0:Nat,b0<n→(((True∧SV.junk=SV.v (Value.int IntKind.i64 (t b0).sp))∧SV.junk=SV.v (Value.int IntKind.i64 (t b0).pg))∧SV.junk=SV.v (Value.int IntKind.i64 (t b0).fr))∧SV.junk=SV.v (Value.bool (t b0).wr)))∧True)∧(a0=false→True∧(n*32≤140737488355328∧(∀c0:Nat,true=true))∧(0=0∧n=n)∧(n=n∧(∀d0:Nat,d0<n→(((True∧(t d0).sp=(t d0).sp)∧(t d0).pg=(t d0).pg)∧(t d0).fr=(t d0).fr)∧(t d0).wr=(t d0).wr))∧True)
theorem ok_cloneE : FnOK Tryz.prog glN 216 c_cloneE := ok_of .nil false Tryz.call216 Tryz.func216 (fun _ => []) (V := V_cloneE) (fun _ => by kernel_rfl) fun ⟨n, t⟩ hp => by
  dsimp only [s_cloneE] at hp
  dsimp only [V_cloneE, tn, w64]
  simp only [std, eq_self, implies_true, Bool.cond_self]
  intro b hb
  refine ⟨fun h => ?_, fun _ => ?_⟩
  · have := hb h
    subst this
    exact ⟨rfl, rfl, fun i hi => absurd hi (by omega)⟩
  · omega
structure X_find where
  (n : Nat) (t : Nat → Ent4) (sp pg : Int)
def s_find : Sy.Spec := ⟨X_find, fun ⟨n, t, sp, pg⟩ => [.sl true 4 n (rF fun i => enL (t i)), .v (.int .i64 sp), .v (.int .i64 pg)], fun _ => [], fun _ => True, fun ⟨n, t, sp, pg⟩ => .tp 2 (lsv [.ag 4 (lsv (enL (fdE n t sp pg))), .v (.bool (fdO n t sp pg))]), fun _ => [],
  fun args mem => match args with | [a0, a1, a2] => some ⟨slN a0, fun i => enBD (fun j => slF a0 i j), intD (a1), intD (a2)⟩ | _ => none⟩
def c_find : Con := ⟨[], s_find.g, none⟩
def V_find : X_find → Prop := fun ⟨n, t, sp, pg⟩ => let a0:=idxB n (fun b0:Nat=>fdB sp pg (t b0));let c0:=decide (a0<0);let d0:=tn 3 True;let e0:=fdE n t sp pg;let g0:=e0.sp;let h0:=e0.pg;let k0:=e0.fr;let l0:=e0.wr;let o0:=fdO n t sp pg;let q0:=t (Int.toNat a0);tn 3 ((((n=n∧(∀r0:Nat,r0<n→(((True∧(t r0).sp=(t r0).sp)∧(t r0).pg=(t r0).pg)∧(t r0).fr=(t r0).fr)∧(t r0).wr=(t r0).wr))∧(tn 2 (sp=sp)∧True∧pg=pg)∧True)∧True∧True)∧(c0=true→d0∧((True∧(((True∧0=g0)∧0=h0)∧0=k0)∧false=l0)∧false=o0)∧True)∧(c0=false→(0≤a0∧a0<(n:Int))∧d0∧((True∧(((True∧q0.sp=g0)∧q0.pg=h0)∧q0.fr=k0)∧q0.wr=l0)∧true=o0)∧True))
theorem ok_find : FnOK Tryz.prog glN 206 c_find := ok_of (.cons ok_idxF .nil) false Tryz.call206 Tryz.func206 (fun _ => []) (V := V_find) (fun _ => by kernel_rfl) fun ⟨n, t, sp, pg⟩ hp => by
  dsimp only [V_find, tn, w64]
  simp only [std, eq_self, implies_true, Bool.cond_self]
  have key : ∀ b, fdO n t sp pg = b → (b = true ∧ (idxB n fun i => fdB sp pg (t i)) = (fstB n fun i => fdB sp pg (t i) : Nat) ∧ (fstB n fun i => fdB sp pg (t i)) < n ∧ fdE n t sp pg = t (fstB n fun i => fdB sp pg (t i))) ∨ (b = false ∧ (idxB n fun i => fdB sp pg (t i)) = -1 ∧ fdE n t sp pg = zEn) := by
    intro b h
    have h' : Nat.blt (fstB n fun i => fdB sp pg (t i)) n = b := h
    cases b with
    | true => left; exact ⟨rfl, by unfold idxB; rw [h']; rfl, Nat.le_of_ble_eq_true h', by unfold fdE; rw [h']; rfl⟩
    | false => right; exact ⟨rfl, by unfold idxB; rw [h']; rfl, by unfold fdE; rw [h']; rfl⟩
  rcases key _ rfl with ⟨h1, h2, h3, h4⟩ | ⟨h1, h2, h4⟩
  · rw [h1, h2, h4]
    refine ⟨fun h => by simp at h; omega, fun _ => ⟨by omega, ?_, rfl⟩⟩
    rw [Int.toNat_natCast]
    exact ⟨⟨⟨rfl, rfl⟩, rfl⟩, rfl⟩
  · rw [h1, h2, h4]
    exact ⟨fun _ => ⟨⟨⟨⟨rfl, rfl⟩, rfl⟩, rfl⟩, rfl⟩, fun h => by simp at h⟩
end Go.Proofs.YtdjilaofmdhikaaGreatDoor
set_option linter.unusedVariables false
set_option linter.unusedSimpArgs false
set_option maxRecDepth 100000
namespace Go.Proofs.YtdjilaofmdhikaaGreatDoor
open Go.RowKit Go.Sy
def cpN (f : Nat → Nat) (i j : Nat) : Nat := bif Nat.blt j i then f j else 0
theorem cpN_lt {f : Nat → Nat} {i j : Nat} (h : j < i) : cpN f i j = f j := by unfold cpN; rw [blt_t h]; rfl
theorem cpN_ge {f : Nat → Nat} {i j : Nat} (h : i ≤ j) : cpN f i j = 0 := by unfold cpN; rw [blt_f h]; rfl
theorem cpN_step {f : Nat → Nat} {i j : Nat} : (bif j.beq i then f i else cpN f i j) = cpN f (i + 1) j := by
  rcases Nat.lt_trichotomy j i with h | h | h
  · rw [beq_ne (by omega), cpN_lt h, cpN_lt (by omega : j < i + 1)]; rfl
  · subst h; rw [Nat.beq_refl, cpN_lt (Nat.lt_succ_self _)]; rfl
  · rw [beq_ne (by omega), cpN_ge (by omega), cpN_ge (by omega : i + 1 ≤ j)]; rfl
theorem beq_at {α : Type} {f : Nat → α} {i j : Nat} : (bif j.beq i then f i else f j) = f j := by
  rcases Decidable.em (j = i) with h | h
  · subst h; cases j.beq j <;> rfl
  · rw [beq_ne h]; rfl
theorem ent4b {c : Bool} {f : Nat → Ent4} {i j : Nat} (h : c = j.beq i) : (((bif c then (f i).sp else (f j).sp) = (f j).sp ∧ (bif c then (f i).pg else (f j).pg) = (f j).pg) ∧ (bif c then (f i).fr else (f j).fr) = (f j).fr) ∧ (bif c then (f i).wr else (f j).wr) = (f j).wr := by
  subst h
  exact ⟨⟨⟨beq_at (f := fun x => (f x).sp), beq_at (f := fun x => (f x).pg)⟩, beq_at (f := fun x => (f x).fr)⟩, beq_at (f := fun x => (f x).wr)⟩
def an_cpA (a b : Nat) (n : Nat) (ln : Nat → Nat) (l : Nat → Nat → Int) : Ann where
  σ := Nat
  rt := [(a, 1)]
  sh i := [(a, .slc 0 0 none 0 n), (b, .v (.int .i64 i))]
  mh i := [(0, .row 1 n fun j _ => .il 1 (cpN ln i j) (iF (l j)))]
  inv i := i ≤ n
  μ i := n - i
  init := 0
def an_cpE (a b : Nat) (n : Nat) (ln : Nat → Nat) (l : Nat → Nat → Ent4) : Ann where
  σ := Nat
  rt := [(a, 1)]
  sh i := [(a, .slc 0 0 none 0 n), (b, .v (.int .i64 i))]
  mh i := [(0, .row 1 n fun j _ => .il 4 (cpN ln i j) (rF fun k => enL (l j k)))]
  inv i := i ≤ n
  μ i := n - i
  init := 0
def an_cpW (W : Wd) : Ann where
  σ := Nat
  rt := [(1, 0), (2, 0), (3, 0)]
  sh i := [(1, pt0 0), (2, pt0 1), (3, pt0 2), (4, .v (.int .i64 i))]
  mh i := [(11, .row 1 W.nTlbs fun j _ => .il 4 (cpN W.tlbsN i j) (rF fun k => enL (W.tlbs j k)))]
  inv i := i ≤ W.nTlbs
  μ i := W.nTlbs - i
  init := 0
structure Lg (W : Wd) : Prop where
  ram : W.nRam ≤ 1000
  kinds : W.nKinds ≤ 1000
  slots : W.nSlots ≤ 1000
  tasks : W.nTasks ≤ 1000
  lines : W.nLines ≤ 1000
  bits : W.nBits ≤ 1000
  cores : W.nCores ≤ 1000
  ready : W.nReady ≤ 1000
  tlbs : W.nTlbs ≤ 1000
  doms : W.nDoms ≤ 1000
  linesN : ∀ i, i < W.nLines → W.linesN i ≤ 1000
  readyN : ∀ i, i < W.nReady → W.readyN i ≤ 1000
  tlbsN : ∀ i, i < W.nTlbs → W.tlbsN i ≤ 1000
structure X_cloneI where
  (n : Nat) (l : Nat → Int)
def s_cloneI : Sy.Spec := ⟨X_cloneI, fun ⟨n, l⟩ => [.sl true 1 n (fun i_ _ => .v (.int .i64 (l i_)))], fun _ => [], fun ⟨n, _⟩ => n ≤ 100000, fun ⟨n, _⟩ => .slc 0 0 none 0 n, fun ⟨n, l⟩ => [.row 1 n (iF l)],
  fun args mem => match args with | [a0] => some ⟨slN a0, fun i => intD (slF a0 i 0)⟩ | _ => none⟩
def c_cloneI : Con := ⟨[], s_cloneI.g, none⟩
def V_cloneI : X_cloneI → Prop := fun ⟨n, l⟩ => ∀a0:Bool,(a0=true→n=0)→(a0=true→(0=0∧0=n)∧(0=n∧(∀b0:Nat,b0<n→True∧SV.junk=SV.v (Value.int IntKind.i64 (l b0))))∧True)∧(a0=false→True∧(n*8≤140737488355328∧(∀c0:Nat,true=true))∧(0=0∧n=n)∧(n=n∧(∀d0:Nat,d0<n→True∧l d0=l d0))∧True)
theorem ok_cloneI : FnOK Tryz.prog glN 146 c_cloneI := ok_of .nil false Tryz.call146 Tryz.func146 (fun _ => []) (V := V_cloneI) (fun _ => by kernel_rfl) fun ⟨n, l⟩ hp => by
  dsimp only [s_cloneI] at hp
  dsimp only [V_cloneI, tn, w64]
  simp only [std, eq_self, implies_true, Bool.cond_self]
  intro b hb
  refine ⟨fun h => ?_, fun _ => ?_⟩
  · have := hb h
    subst this
    exact ⟨rfl, rfl, fun i hi => absurd hi (by omega)⟩
  · omega
structure X_cloneS where
  (n : Nat) (l : Nat → Slt)
def s_cloneS : Sy.Spec := ⟨X_cloneS, fun ⟨n, l⟩ => [.sl true 7 n (rF fun i => slL (l i))], fun _ => [], fun ⟨n, _⟩ => n ≤ 100000, fun ⟨n, _⟩ => .slc 0 0 none 0 n, fun ⟨n, l⟩ => [.row 7 n (rF fun i => slL (l i))],
  fun args mem => match args with | [a0] => some ⟨slN a0, fun i => slBD (fun j => slF a0 i j)⟩ | _ => none⟩
def c_cloneS : Con := ⟨[], s_cloneS.g, none⟩
def V_cloneS : X_cloneS → Prop := fun ⟨n, l⟩ => ∀a0:Bool,(a0=true→n=0)→(a0=true→(0=0∧0=n)∧(0=n∧(∀b0:Nat,let c0:=l b0;b0<n→((((((True∧SV.junk=SV.v (Value.int IntKind.i64 c0.kind))∧SV.junk=SV.v (Value.int IntKind.i64 c0.base))∧SV.junk=SV.v (Value.int IntKind.i64 c0.len))∧SV.junk=SV.v (Value.int IntKind.i64 c0.mark))∧SV.junk=SV.v (Value.int IntKind.i64 c0.rights))∧SV.junk=SV.v (Value.int IntKind.i64 c0.badge))∧SV.junk=SV.v (Value.int IntKind.i64 c0.from_)))∧True)∧(a0=false→True∧(n*56≤140737488355328∧(∀d0:Nat,true=true))∧(0=0∧n=n)∧(n=n∧(∀e0:Nat,let g0:=l e0;e0<n→((((((True∧g0.kind=g0.kind)∧g0.base=g0.base)∧g0.len=g0.len)∧g0.mark=g0.mark)∧g0.rights=g0.rights)∧g0.badge=g0.badge)∧g0.from_=g0.from_))∧True)
theorem ok_cloneS : FnOK Tryz.prog glN 163 c_cloneS := ok_of .nil false Tryz.call163 Tryz.func163 (fun _ => []) (V := V_cloneS) (fun _ => by kernel_rfl) fun ⟨n, l⟩ hp => by
  dsimp only [s_cloneS] at hp
  dsimp only [V_cloneS, tn, w64]
  simp only [std, eq_self, implies_true, Bool.cond_self]
  intro b hb
  refine ⟨fun h => ?_, fun _ => ?_⟩
  · have := hb h
    subst this
    exact ⟨rfl, rfl, fun i hi => absurd hi (by omega)⟩
  · omega
structure X_cloneR where
  (n : Nat) (l : Nat → Run)
def s_cloneR : Sy.Spec := ⟨X_cloneR, fun ⟨n, l⟩ => [.sl true 20 n (rF fun i => runL (l i))], fun _ => [], fun ⟨n, _⟩ => n ≤ 100000, fun ⟨n, _⟩ => .slc 0 0 none 0 n, fun ⟨n, l⟩ => [.row 20 n (rF fun i => runL (l i))],
  fun args mem => match args with | [a0] => some ⟨slN a0, fun i => runBD (fun j => slF a0 i j)⟩ | _ => none⟩
def c_cloneR : Con := ⟨[], s_cloneR.g, none⟩
def V_cloneR : X_cloneR → Prop := fun ⟨n, l⟩ => ∀a0:Bool,(a0=true→n=0)→(a0=true→(0=0∧0=n)∧(0=n∧(∀b0:Nat,let c0:=l b0;b0<n→(((((((((((((((((((True∧SV.junk=SV.v (Value.int IntKind.i64 c0.r0))∧SV.junk=SV.v (Value.int IntKind.i64 c0.r1))∧SV.junk=SV.v (Value.int IntKind.i64 c0.r2))∧SV.junk=SV.v (Value.int IntKind.i64 c0.r3))∧SV.junk=SV.v (Value.int IntKind.i64 c0.r4))∧SV.junk=SV.v (Value.int IntKind.i64 c0.r5))∧SV.junk=SV.v (Value.int IntKind.i64 c0.r6))∧SV.junk=SV.v (Value.int IntKind.i64 c0.r7))∧SV.junk=SV.v (Value.int IntKind.i64 c0.pc))∧SV.junk=SV.v (Value.int IntKind.i64 c0.st))∧SV.junk=SV.v (Value.int IntKind.i64 c0.prio))∧SV.junk=SV.v (Value.int IntKind.i64 c0.node))∧SV.junk=SV.v (Value.int IntKind.i64 c0.space))∧SV.junk=SV.v (Value.int IntKind.i64 c0.helper))∧SV.junk=SV.v (Value.int IntKind.i64 c0.loc))∧SV.junk=SV.v (Value.int IntKind.i64 c0.word))∧SV.junk=SV.v (Value.int IntKind.i64 c0.badge))∧SV.junk=SV.v (Value.int IntKind.i64 c0.owes))∧SV.junk=SV.v (Value.int IntKind.i64 c0.core))∧SV.junk=SV.v (Value.int IntKind.i64 c0.dom)))∧True)∧(a0=false→True∧(n*160≤140737488355328∧(∀d0:Nat,true=true))∧(0=0∧n=n)∧(n=n∧(∀e0:Nat,let g0:=l e0;e0<n→(((((((((((((((((((True∧g0.r0=g0.r0)∧g0.r1=g0.r1)∧g0.r2=g0.r2)∧g0.r3=g0.r3)∧g0.r4=g0.r4)∧g0.r5=g0.r5)∧g0.r6=g0.r6)∧g0.r7=g0.r7)∧g0.pc=g0.pc)∧g0.st=g0.st)∧g0.prio=g0.prio)∧g0.node=g0.node)∧g0.space=g0.space)∧g0.helper=g0.helper)∧g0.loc=g0.loc)∧g0.word=g0.word)∧g0.badge=g0.badge)∧g0.owes=g0.owes)∧g0.core=g0.core)∧g0.dom=g0.dom))∧True)
theorem ok_cloneR : FnOK Tryz.prog glN 164 c_cloneR := ok_of .nil false Tryz.call164 Tryz.func164 (fun _ => []) (V := V_cloneR) (fun _ => by kernel_rfl) fun ⟨n, l⟩ hp => by
  dsimp only [s_cloneR] at hp
  dsimp only [V_cloneR, tn, w64]
  simp only [std, eq_self, implies_true, Bool.cond_self]
  intro b hb
  refine ⟨fun h => ?_, fun _ => ?_⟩
  · have := hb h
    subst this
    exact ⟨rfl, rfl, fun i hi => absurd hi (by omega)⟩
  · omega
structure X_deepI where
  (n : Nat) (ln : Nat → Nat) (l : Nat → Nat → Int)
def s_deepI : Sy.Spec := ⟨X_deepI, fun ⟨n, ln, l⟩ => [.sl true 1 n (fun i _ => .sl true 1 (ln i) (iF (l i)))], fun _ => [], fun ⟨n, ln, _⟩ => n ≤ 1000 ∧ ∀ i, i < n → ln i ≤ 1000, fun ⟨n, _, _⟩ => .slc 0 0 none 0 n, fun ⟨n, ln, l⟩ => [.row 1 n fun i _ => .il 1 (ln i) (iF (l i))],
  fun args mem => match args with | [a0] => some ⟨slN a0, fun i => slN (slF a0 i 0), fun i k => intD (slF (slF a0 i 0) k 0)⟩ | _ => none⟩
def c_deepI : Con := ⟨[], s_deepI.g, none⟩
def V_deepI : X_deepI → Prop := fun ⟨n, ln, l⟩ => let a0:=(n:Int);let b0:=Int.toNat a0=n;let c0:=0=0∧n=n;a0≤9223372036854775807→(0≤a0∧a0≤a0∧((24:Nat):Int)*a0≤140737488355328)∧(a0≤9223372036854775807→(0=0∧b0)∧0=((0:Nat):Int)∧((b0∧(∀d0:Nat,d0<n→True∧0=cpN ln 0 d0∧(∀e0:Nat,e0<cpN ln 0 d0→True∧SV.junk=SV.v (Value.int IntKind.i64 (l d0 e0)))))∧True)∧0≤n∧(∀g0:Nat,let h0:=(g0:Int);let k0:=decide (h0<a0);let l0:=0≤h0∧h0<a0;let o0:=Int.toNat h0;let q0:=ln o0;let r0:Int:=h0+1;let u0:=0+o0;g0≤n→(k0=true→l0∧(((q0=q0∧(∀v0:Nat,v0<q0→True∧l o0 v0=l o0 v0))∧True)∧True∧s_cloneI.match_1 (fun w0:X_cloneI=>Prop) (X_cloneI.mk q0 (l o0)) (fun x0:Nat=>fun y0:∀z0:Nat,Int=>x0≤100000))∧l0∧(∀a1:Nat,Nat.beq 1 1=true)∧w64 r0=r0∧(∃b1:Nat,c0∧r0=(b1:Int)∧((n=n∧(∀c1:Nat,c1<n→True∧cond (Nat.beq c1 u0) q0 (cpN ln g0 c1)=cpN ln b1 c1∧(∀d1:Nat,d1<cpN ln b1 c1→True∧cond (Nat.beq c1 u0) (l o0 d1) (l c1 d1)=l c1 d1)))∧True)∧b1≤n∧n-b1<n-g0))∧(k0=false→c0∧(n=n∧(∀e1:Nat,e1<n→True∧cpN ln g0 e1=ln e1∧(∀g1:Nat,g1<ln e1→True∧l e1 g1=l e1 g1)))∧True)))
theorem ok_deepI : FnOK Tryz.prog glN 165 c_deepI := ok_of (.cons ok_cloneI .nil) false Tryz.call165 Tryz.func165 (fun ⟨n, ln, l⟩ => [.inv (an_cpA 3 11 n ln l)]) (V := V_deepI) (fun _ => by kernel_rfl) fun ⟨n, ln, l⟩ hp => by
  dsimp only [s_deepI] at hp
  dsimp only [V_deepI, tn, w64]
  simp only [std, stb, eq_self, implies_true, Bool.cond_self]
  refine fun _ => ⟨by omega, fun _ => ⟨fun j hj => ⟨(cpN_ge (Nat.zero_le _)).symm, fun k hk => by rw [cpN_ge (Nat.zero_le _)] at hk; exact absurd hk (Nat.not_lt_zero _)⟩, fun s hs => ⟨fun h => ?_, fun h => ?_⟩⟩⟩
  · have hlt := lt_of_dec h
    have := hp.2 s hlt
    exact ⟨by omega, by omega, by omega, fun _ => rfl, wr_in (by omega) (by omega), s + 1, by omega, fun j hj => ⟨cpN_step, fun k hk => beq_at (f := fun x => l x k)⟩, by omega, by omega⟩
  · have hge := ge_of_dec h
    exact fun j hj => cpN_lt (by omega)
structure X_deepE where
  (n : Nat) (ln : Nat → Nat) (l : Nat → Nat → Ent4)
def s_deepE : Sy.Spec := ⟨X_deepE, fun ⟨n, ln, l⟩ => [.sl true 1 n (fun i _ => .sl true 4 (ln i) (rF fun k => enL (l i k)))], fun _ => [], fun ⟨n, ln, _⟩ => n ≤ 1000 ∧ ∀ i, i < n → ln i ≤ 1000, fun ⟨n, _, _⟩ => .slc 0 0 none 0 n, fun ⟨n, ln, l⟩ => [.row 1 n fun i _ => .il 4 (ln i) (rF fun k => enL (l i k))],
  fun args mem => match args with | [a0] => some ⟨slN a0, fun i => slN (slF a0 i 0), fun i k => enBD (fun j => slF (slF a0 i 0) k j)⟩ | _ => none⟩
def c_deepE : Con := ⟨[], s_deepE.g, none⟩
def V_deepE : X_deepE → Prop := fun ⟨n, ln, l⟩ => let a0:=(n:Int);let b0:=Int.toNat a0=n;let c0:=0=0∧n=n;a0≤9223372036854775807→(0≤a0∧a0≤a0∧((24:Nat):Int)*a0≤140737488355328)∧(a0≤9223372036854775807→(0=0∧b0)∧0=((0:Nat):Int)∧((b0∧(∀d0:Nat,d0<n→True∧0=cpN ln 0 d0∧(∀e0:Nat,let g0:=l d0 e0;e0<cpN ln 0 d0→(((True∧SV.junk=SV.v (Value.int IntKind.i64 g0.sp))∧SV.junk=SV.v (Value.int IntKind.i64 g0.pg))∧SV.junk=SV.v (Value.int IntKind.i64 g0.fr))∧SV.junk=SV.v (Value.bool g0.wr))))∧True)∧0≤n∧(∀h0:Nat,let k0:=(h0:Int);let l0:=decide (k0<a0);let o0:=0≤k0∧k0<a0;let q0:=Int.toNat k0;let r0:=ln q0;let u0:Int:=k0+1;let v0:=0+q0;h0≤n→(l0=true→o0∧(((r0=r0∧(∀w0:Nat,let x0:=l q0 w0;w0<r0→(((True∧x0.sp=x0.sp)∧x0.pg=x0.pg)∧x0.fr=x0.fr)∧x0.wr=x0.wr))∧True)∧True∧s_cloneE.match_1 (fun y0:X_cloneE=>Prop) (X_cloneE.mk r0 (l q0)) (fun z0:Nat=>fun a1:∀b1:Nat,Ent4=>z0≤100000))∧o0∧(∀c1:Nat,Nat.beq 4 4=true)∧w64 u0=u0∧(∃d1:Nat,c0∧u0=(d1:Int)∧((n=n∧(∀e1:Nat,let g1:=Nat.beq e1 v0;e1<n→True∧cond g1 r0 (cpN ln h0 e1)=cpN ln d1 e1∧(∀h1:Nat,let k1:=l q0 h1;let l1:=l e1 h1;h1<cpN ln d1 e1→(((True∧cond g1 k1.sp l1.sp=l1.sp)∧cond g1 k1.pg l1.pg=l1.pg)∧cond g1 k1.fr l1.fr=l1.fr)∧cond g1 k1.wr l1.wr=l1.wr)))∧True)∧d1≤n∧n-d1<n-h0))∧(l0=false→c0∧(n=n∧(∀o1:Nat,o1<n→True∧cpN ln h0 o1=ln o1∧(∀q1:Nat,let r1:=l o1 q1;q1<ln o1→(((True∧r1.sp=r1.sp)∧r1.pg=r1.pg)∧r1.fr=r1.fr)∧r1.wr=r1.wr)))∧True)))
theorem ok_deepE : FnOK Tryz.prog glN 166 c_deepE := ok_of (.cons ok_cloneE .nil) false Tryz.call166 Tryz.func166 (fun ⟨n, ln, l⟩ => [.inv (an_cpE 3 11 n ln l)]) (V := V_deepE) (fun _ => by kernel_rfl) fun ⟨n, ln, l⟩ hp => by
  dsimp only [s_deepE] at hp
  dsimp only [V_deepE, tn, w64]
  simp only [std, stb, eq_self, implies_true, Bool.cond_self]
  refine fun _ => ⟨by omega, fun _ => ⟨fun j hj => ⟨(cpN_ge (Nat.zero_le _)).symm, fun k hk => by rw [cpN_ge (Nat.zero_le _)] at hk; exact absurd hk (Nat.not_lt_zero _)⟩, fun s hs => ⟨fun h => ?_, fun h => ?_⟩⟩⟩
  · have hlt := lt_of_dec h
    have := hp.2 s hlt
    exact ⟨by omega, by omega, by omega, fun _ => rfl, wr_in (by omega) (by omega), s + 1, by omega, fun j hj => ⟨cpN_step, fun k hk => ent4b (f := fun x => l x k) rfl⟩, by omega, by omega⟩
  · have hge := ge_of_dec h
    exact fun j hj => cpN_lt (by omega)
structure X_copyAll where
  (n : Nat) (ln : Nat → Nat) (l : Nat → Nat → Int)
def s_copyAll : Sy.Spec := ⟨X_copyAll, fun ⟨n, ln, l⟩ => [.sl true 1 n (fun i _ => .sl true 1 (ln i) (iF (l i)))], fun _ => [], fun ⟨n, ln, _⟩ => n ≤ 1000 ∧ ∀ i, i < n → ln i ≤ 1000, fun ⟨n, _, _⟩ => .slc 0 0 none 0 n, fun ⟨n, ln, l⟩ => [.row 1 n fun i _ => .il 1 (ln i) (iF (l i))],
  fun args mem => match args with | [a0] => some ⟨slN a0, fun i => slN (slF a0 i 0), fun i k => intD (slF (slF a0 i 0) k 0)⟩ | _ => none⟩
def c_copyAll : Con := ⟨[], s_copyAll.g, none⟩
def V_copyAll : X_copyAll → Prop := fun ⟨n, ln, l⟩ => let a0:=(n:Int);let b0:=Int.toNat a0=n;let c0:=0=0∧n=n;a0≤9223372036854775807→(0≤a0∧a0≤a0∧((24:Nat):Int)*a0≤140737488355328)∧(0=0∧b0)∧0=((0:Nat):Int)∧((b0∧(∀d0:Nat,d0<n→True∧0=cpN ln 0 d0∧(∀e0:Nat,e0<cpN ln 0 d0→True∧SV.junk=SV.v (Value.int IntKind.i64 (l d0 e0)))))∧True)∧0≤n∧(∀g0:Nat,let h0:=(g0:Int);let k0:=decide (h0<a0);let l0:=0≤h0∧h0<a0;let o0:=Int.toNat h0;let q0:=ln o0;let r0:Int:=h0+1;let u0:=0+o0;g0≤n→a0≤9223372036854775807→(k0=true→True∧l0∧(q0*8≤140737488355328∧(∀v0:Nat,true=true))∧l0∧(∀w0:Nat,Nat.beq 1 1=true)∧w64 r0=r0∧(∃x0:Nat,c0∧r0=(x0:Int)∧((n=n∧(∀y0:Nat,y0<n→True∧cond (Nat.beq y0 u0) q0 (cpN ln g0 y0)=cpN ln x0 y0∧(∀z0:Nat,z0<cpN ln x0 y0→True∧cond (Nat.beq y0 u0) (l o0 z0) (l y0 z0)=l y0 z0)))∧True)∧x0≤n∧n-x0<n-g0))∧(k0=false→c0∧(n=n∧(∀a1:Nat,a1<n→True∧cpN ln g0 a1=ln a1∧(∀b1:Nat,b1<ln a1→True∧l a1 b1=l a1 b1)))∧True))
theorem ok_copyAll : FnOK Tryz.prog glN 130 c_copyAll := ok_of .nil false Tryz.call130 Tryz.func130 (fun ⟨n, ln, l⟩ => [.inv (an_cpA 3 4 n ln l)]) (V := V_copyAll) (fun _ => by kernel_rfl) fun ⟨n, ln, l⟩ hp => by
  dsimp only [s_copyAll] at hp
  dsimp only [V_copyAll, tn, w64]
  simp only [std, stb, eq_self, implies_true, Bool.cond_self]
  refine fun _ => ⟨by omega, ⟨fun j hj => ⟨(cpN_ge (Nat.zero_le _)).symm, fun k hk => by rw [cpN_ge (Nat.zero_le _)] at hk; exact absurd hk (Nat.not_lt_zero _)⟩, fun s hs _ => ⟨fun h => ?_, fun h => ?_⟩⟩⟩
  · have hlt := lt_of_dec h
    have := hp.2 s hlt
    exact ⟨by omega, by omega, by omega, fun _ => rfl, wr_in (by omega) (by omega), s + 1, by omega, fun j hj => ⟨cpN_step, fun k hk => beq_at (f := fun x => l x k)⟩, by omega, by omega⟩
  · have hge := ge_of_dec h
    exact fun j hj => cpN_lt (by omega)
structure X_copyW where
  (W : Wd)
def s_copyW : Sy.Spec := ⟨X_copyW, fun ⟨W⟩ => [wSV W], fun _ => [], fun ⟨W⟩ => Lg W, fun ⟨W⟩ => wAG 0 W, fun ⟨W⟩ => wRows W,
  fun args mem => match args with | [a0] => some ⟨wSVD a0⟩ | _ => none⟩
def c_copyW : Con := ⟨[], s_copyW.g, none⟩
def V_copyW : X_copyW → Prop := fun ⟨W⟩ => let a0:=tn 10 True;let b0:=W.nRam;let c0:=true=true;let d0:=W.nKinds;let e0:=W.nSlots;let g0:=W.nTasks;let h0:=W.nLines;let k0:=h0=h0;let l0:=k0∧(∀o0:Nat,let q0:=W.linesN o0;o0<h0→True∧q0=q0∧(∀u0:Nat,u0<q0→True∧W.lines o0 u0=W.lines o0 u0));let v0:=W.nBits;let w0:=W.nCores;let x0:=W.nReady;let y0:=x0=x0;let z0:=y0∧(∀a1:Nat,let b1:=W.readyN a1;a1<x0→True∧b1=b1∧(∀c1:Nat,c1<b1→True∧W.ready a1 c1=W.ready a1 c1));let d1:=W.nTlbs;let e1:=(d1:Int);let g1:=e1≤9223372036854775807;let h1:=SV.ptr 0 0 none 0 0=SV.ptr 0 0 none 0 0;let k1:=SV.ptr (0+1) 0 none 0 0=SV.ptr 1 0 none 0 0;let l1:=SV.ptr (0+1+1) 0 none 0 0=SV.ptr 2 0 none 0 0;let o1:=b0=b0;let q1:=o1∧(∀u1:Nat,u1<b0→True∧W.ram u1=W.ram u1);let v1:=d0=d0;let w1:=v1∧(∀x1:Nat,x1<d0→True∧W.kinds x1=W.kinds x1);let y1:=e0=e0;let z1:=y1∧(∀a2:Nat,let b2:=W.slots a2;let c2:=b2.kind;let d2:=b2.base;let e2:=b2.len;let g2:=b2.mark;let h2:=b2.rights;let k2:=b2.badge;let l2:=b2.from_;a2<e0→((((((True∧c2=c2)∧d2=d2)∧e2=e2)∧g2=g2)∧h2=h2)∧k2=k2)∧l2=l2);let o2:=g0=g0;let q2:=o2∧(∀u2:Nat,let v2:=W.tasks u2;let w2:=v2.prio;let x2:=v2.node;let y2:=v2.space;let z2:=v2.helper;let a3:=v2.loc;let b3:=v2.word;let c3:=v2.badge;let d3:=v2.owes;let e3:=v2.core;let g3:=v2.dom;u2<g0→(((((((((((((((((((True∧v2.r0=v2.r0)∧v2.r1=v2.r1)∧v2.r2=v2.r2)∧v2.r3=v2.r3)∧v2.r4=v2.r4)∧v2.r5=v2.r5)∧v2.r6=v2.r6)∧v2.r7=v2.r7)∧v2.pc=v2.pc)∧v2.st=v2.st)∧w2=w2)∧x2=x2)∧y2=y2)∧z2=z2)∧a3=a3)∧b3=b3)∧c3=c3)∧d3=d3)∧e3=e3)∧g3=g3);let h3:=v0=v0;
    let k3:=h3∧(∀l3:Nat,l3<v0→True∧W.bits l3=W.bits l3);let o3:=w0=w0;let q3:=o3∧(∀u3:Nat,u3<w0→True∧W.cores u3=W.cores u3);let v3:=d1=d1;let w3:=W.nDoms;let x3:=w3=w3;let y3:=x3∧(∀z3:Nat,z3<w3→True∧W.doms z3=W.doms z3);let a4:=W.time=W.time;let b4:=((((((((((True∧q1)∧w1)∧z1)∧q2)∧l0)∧k3)∧q3)∧z0)∧v3∧(∀c4:Nat,let d4:=W.tlbsN c4;c4<d1→True∧d4=d4∧(∀e4:Nat,let g4:=W.tlbs c4 e4;let h4:=g4.sp;let k4:=g4.pg;let l4:=g4.fr;let o4:=g4.wr;e4<d4→(((True∧h4=h4)∧k4=k4)∧l4=l4)∧o4=o4)))∧y3)∧a4;let q4:=Value.slice none 0 0=Value.slice none 0 0;let u4:=((((((((((True∧q4)∧q4)∧q4)∧q4)∧q4)∧q4)∧q4)∧q4)∧q4)∧q4)∧(0:Int)=0;let v4:=0=0;let w4:=Int.toNat e1;let x4:=((((((((((True∧v4∧o1)∧v4∧v1)∧v4∧y1)∧v4∧o2)∧v4∧k0)∧v4∧h3)∧v4∧o3)∧v4∧y0)∧v4∧w4=w4)∧y3)∧a4;let y4:=w4=d1;let z4:=W.tlbsN;let a5:=0=0;tn 3 (a0∧True∧(b0*8≤140737488355328∧(∀b5:Nat,c0))∧tn 2 ((d0*8≤140737488355328∧(∀c5:Nat,c0))∧tn 2 ((e0*56≤140737488355328∧(∀d5:Nat,c0))∧tn 2 ((g0*160≤140737488355328∧(∀e5:Nat,c0))∧True∧((l0∧True)∧True∧h0≤1000∧(∀g5:Nat,g5<h0→W.linesN g5≤1000))∧tn 2 ((v0*8≤140737488355328∧(∀h5:Nat,c0))∧tn 2 ((w0*8≤140737488355328∧(∀k5:Nat,c0))∧True∧((z0∧True)∧True∧x0≤1000∧(∀l5:Nat,l5<x0→W.readyN l5≤1000))∧True∧(g1→(0≤e1∧e1≤e1∧((24:Nat):Int)*e1≤140737488355328)∧True∧h1∧k1∧l1∧0=((0:Nat):Int)∧(b4∧u4∧x4∧q1∧w1∧z1∧q2∧l0∧k3∧q3∧z0∧(y4∧(∀o5:Nat,o5<d1→True∧0=cpN z4 0 o5∧(∀q5:Nat,let u5:=W.tlbs o5 q5;q5<cpN z4 0 o5→(((True∧SV.junk=SV.v (Value.int IntKind.i64 u5.sp))∧SV.junk=SV.v (Value.int IntKind.i64 u5.pg))∧
    SV.junk=SV.v (Value.int IntKind.i64 u5.fr))∧SV.junk=SV.v (Value.bool u5.wr))))∧True)∧0≤d1∧(∀v5:Nat,let w5:=(v5:Int);let x5:=decide (w5<e1);let y5:=Int.toNat w5;let z5:=z4 y5;let a6:Int:=w5+1;let b6:=0+y5;v5≤d1→g1→(x5=true→tn 7 ((0≤w5∧w5<e1)∧True∧(z5*32≤140737488355328∧(∀c6:Nat,c0))∧(0≤w5∧w5<(w4:Int))∧(∀d6:Nat,Nat.beq 4 4=true)∧w64 a6=a6∧(∃e6:Nat,h1∧k1∧l1∧a6=(e6:Int)∧(b4∧u4∧x4∧q1∧w1∧z1∧q2∧l0∧k3∧q3∧z0∧(v3∧(∀g6:Nat,let h6:=Nat.beq g6 b6;g6<d1→True∧cond h6 z5 (cpN z4 v5 g6)=cpN z4 e6 g6∧(∀k6:Nat,let l6:=W.tlbs y5 k6;let o6:=W.tlbs g6 k6;let q6:=o6.sp;let u6:=o6.pg;let v6:=o6.fr;let w6:=o6.wr;k6<cpN z4 e6 g6→(((True∧cond h6 l6.sp q6=q6)∧cond h6 l6.pg u6=u6)∧cond h6 l6.fr v6=v6)∧cond h6 l6.wr w6=w6)))∧True)∧e6≤d1∧d1-e6<d1-v5)))∧(x5=false→True∧(w3*8≤140737488355328∧(∀x6:Nat,c0))∧True∧a0∧(((((((((((True∧a5∧o1)∧a5∧v1)∧a5∧y1)∧a5∧o2)∧a5∧k0)∧a5∧h3)∧a5∧o3)∧a5∧y0)∧a5∧y4)∧a5∧x3)∧a4)∧q1∧w1∧z1∧q2∧l0∧k3∧q3∧z0∧(v3∧(∀y6:Nat,y6<d1→True∧cpN z4 v5 y6=z4 y6∧(∀z6:Nat,let a7:=W.tlbs y6 z6;let b7:=a7.sp;let c7:=a7.pg;let d7:=a7.fr;let e7:=a7.wr;z6<z4 y6→(((True∧b7=b7)∧c7=c7)∧d7=d7)∧e7=e7)))∧y3∧True)))))))))
set_option maxHeartbeats 1000000 in
theorem ok_copyW : FnOK Tryz.prog glN 69 c_copyW := ok_of (.cons ok_copyAll .nil) false Tryz.call69 Tryz.func69 (fun ⟨W⟩ => [.inv (an_cpW W)]) (V := V_copyW) (fun _ => by kernel_rfl) fun ⟨W⟩ hp => by
  dsimp only [s_copyW] at hp
  dsimp only [V_copyW, tn, w64]
  simp only [std, stb, eq_self, implies_true, Bool.cond_self]
  obtain ⟨h1, h2, h3, h4, h5, h6, h7, h8, h9, h10, h11, h12, h13⟩ := hp
  refine ⟨by omega, by omega, by omega, by omega, ⟨h5, h11⟩, by omega, by omega, ⟨h8, h12⟩, fun _ => ⟨by omega, fun j hj => ⟨(cpN_ge (Nat.zero_le _)).symm, fun k hk => by rw [cpN_ge (Nat.zero_le _)] at hk; exact absurd hk (Nat.not_lt_zero _)⟩, fun s hs _ => ⟨fun h => ?_, fun h => ?_⟩⟩⟩
  · have hlt := lt_of_dec h
    have := h13 s hlt
    exact ⟨by omega, by omega, by omega, fun _ => rfl, wr_in (by omega) (by omega), s + 1, by omega, fun j hj => ⟨cpN_step, fun k hk => ent4b (f := fun x => W.tlbs x k) rfl⟩, by omega, by omega⟩
  · have hge := ge_of_dec h
    exact ⟨by omega, fun j hj => cpN_lt (by omega)⟩
structure X_cloneW where
  (W : Wd)
def s_cloneW : Sy.Spec := ⟨X_cloneW, fun ⟨W⟩ => [wSV W], fun _ => [], fun ⟨W⟩ => Lg W, fun ⟨W⟩ => wAG 0 W, fun ⟨W⟩ => wRows W,
  fun args mem => match args with | [a0] => some ⟨wSVD a0⟩ | _ => none⟩
def c_cloneW : Con := ⟨[], s_cloneW.g, none⟩
def V_cloneW : X_cloneW → Prop := fun ⟨W⟩ => let a0:=W.nRam;let b0:=a0=a0;let c0:=b0∧(∀d0:Nat,d0<a0→True∧W.ram d0=W.ram d0);let e0:=W.nKinds;let g0:=e0=e0;let h0:=g0∧(∀k0:Nat,k0<e0→True∧W.kinds k0=W.kinds k0);let l0:=W.nSlots;let o0:=l0=l0;let q0:=o0∧(∀u0:Nat,let v0:=W.slots u0;let w0:=v0.kind;let x0:=v0.base;let y0:=v0.len;let z0:=v0.mark;let a1:=v0.rights;let b1:=v0.badge;let c1:=v0.from_;u0<l0→((((((True∧w0=w0)∧x0=x0)∧y0=y0)∧z0=z0)∧a1=a1)∧b1=b1)∧c1=c1);let d1:=W.nTasks;let e1:=d1=d1;let g1:=e1∧(∀h1:Nat,let k1:=W.tasks h1;let l1:=k1.prio;let o1:=k1.node;let q1:=k1.space;let u1:=k1.helper;let v1:=k1.loc;let w1:=k1.word;let x1:=k1.badge;let y1:=k1.owes;let z1:=k1.core;let a2:=k1.dom;h1<d1→(((((((((((((((((((True∧k1.r0=k1.r0)∧k1.r1=k1.r1)∧k1.r2=k1.r2)∧k1.r3=k1.r3)∧k1.r4=k1.r4)∧k1.r5=k1.r5)∧k1.r6=k1.r6)∧k1.r7=k1.r7)∧k1.pc=k1.pc)∧k1.st=k1.st)∧l1=l1)∧o1=o1)∧q1=q1)∧u1=u1)∧v1=v1)∧w1=w1)∧x1=x1)∧y1=y1)∧z1=z1)∧a2=a2);let b2:=W.nBits;let c2:=b2=b2;let d2:=c2∧(∀e2:Nat,e2<b2→True∧W.bits e2=W.bits e2);let g2:=W.nCores;let h2:=g2=g2;let k2:=h2∧(∀l2:Nat,l2<g2→True∧W.cores l2=W.cores l2);let o2:=W.nDoms;let q2:=o2=o2;let u2:=(q2∧(∀v2:Nat,v2<o2→True∧W.doms v2=W.doms v2))∧True;let w2:=W.nLines;let x2:=w2=w2;let y2:=x2∧(∀z2:Nat,let a3:=W.linesN z2;z2<w2→True∧a3=a3∧(∀b3:Nat,b3<a3→True∧W.lines z2 b3=W.lines z2 b3));let c3:=W.nReady;let d3:=c3=c3;let e3:=d3∧(∀g3:Nat,let h3:=W.readyN g3;g3<c3→True∧h3=h3∧(∀k3:Nat,k3<h3→True∧W.ready g3 k3=W.ready g3 k3));let l3:=W.nTlbs;let o3:=l3=l3;
    let q3:=o3∧(∀u3:Nat,let v3:=W.tlbsN u3;u3<l3→True∧v3=v3∧(∀w3:Nat,let x3:=W.tlbs u3 w3;let y3:=x3.sp;let z3:=x3.pg;let a4:=x3.fr;let b4:=x3.wr;w3<v3→(((True∧y3=y3)∧z3=z3)∧a4=a4)∧b4=b4));let c4:=0=0;tn 4 (((c0∧True)∧True∧s_cloneI.match_1 (fun d4:X_cloneI=>Prop) (X_cloneI.mk a0 W.ram) (fun e4:Nat=>fun g4:∀h4:Nat,Int=>e4≤100000))∧tn 2 (((h0∧True)∧True∧s_cloneI.match_1 (fun k4:X_cloneI=>Prop) (X_cloneI.mk e0 W.kinds) (fun l4:Nat=>fun o4:∀q4:Nat,Int=>l4≤100000))∧tn 2 (((q0∧True)∧True∧s_cloneS.match_1 (fun u4:X_cloneS=>Prop) (X_cloneS.mk l0 W.slots) (fun v4:Nat=>fun w4:∀x4:Nat,Slt=>v4≤100000))∧tn 3 (((g1∧True)∧True∧s_cloneR.match_1 (fun y4:X_cloneR=>Prop) (X_cloneR.mk d1 W.tasks) (fun z4:Nat=>fun a5:∀b5:Nat,Run=>z4≤100000))∧tn 6 (((d2∧True)∧True∧s_cloneI.match_1 (fun c5:X_cloneI=>Prop) (X_cloneI.mk b2 W.bits) (fun d5:Nat=>fun e5:∀g5:Nat,Int=>d5≤100000))∧tn 2 (((k2∧True)∧True∧s_cloneI.match_1 (fun h5:X_cloneI=>Prop) (X_cloneI.mk g2 W.cores) (fun k5:Nat=>fun l5:∀o5:Nat,Int=>k5≤100000))∧tn 3 ((u2∧True∧s_cloneI.match_1 (fun q5:X_cloneI=>Prop) (X_cloneI.mk o2 W.doms) (fun u5:Nat=>fun v5:∀w5:Nat,Int=>u5≤100000))∧tn 5 (((y2∧True)∧True∧w2≤1000∧(∀x5:Nat,x5<w2→W.linesN x5≤1000))∧tn 3 (((e3∧True)∧True∧c3≤1000∧(∀y5:Nat,y5<c3→W.readyN y5≤1000))∧tn 2 (((q3∧True)∧True∧l3≤1000∧(∀z5:Nat,z5<l3→W.tlbsN z5≤1000))∧True∧tn 10 True∧(((((((((((True∧c4∧b0)∧c4∧g0)∧c4∧o0)∧c4∧e1)∧c4∧x2)∧c4∧c2)∧c4∧h2)∧c4∧d3)∧c4∧o3)∧c4∧q2)∧W.time=W.time)∧c0∧h0∧q0∧g1∧y2∧d2∧k2∧e3∧q3∧u2))))))))))
theorem ok_cloneW : FnOK Tryz.prog glN 126 c_cloneW := ok_of (.cons ok_cloneI (.cons ok_cloneS (.cons ok_cloneR (.cons ok_deepI (.cons ok_deepE .nil))))) false Tryz.call126 Tryz.func126 (fun _ => []) (V := V_cloneW) (fun _ => by kernel_rfl) fun ⟨W⟩ hp => by
  dsimp only [s_cloneW] at hp
  dsimp only [V_cloneW, tn, w64]
  simp only [std, stb, eq_self, implies_true, Bool.cond_self]
  obtain ⟨h1, h2, h3, h4, h5, h6, h7, h8, h9, h10, h11, h12, h13⟩ := hp
  exact ⟨by omega, by omega, by omega, by omega, by omega, by omega, by omega, ⟨h5, h11⟩, ⟨h8, h12⟩, h9, h13⟩
end Go.Proofs.YtdjilaofmdhikaaGreatDoor
set_option linter.unusedVariables false
set_option linter.unusedSimpArgs false
set_option maxRecDepth 100000
namespace Go.Proofs.YtdjilaofmdhikaaGreatDoor
open Go.RowKit Go.Sy
def an_in (n : Nat) (l : Nat → Int) (x : Int) : Ann where
  σ := Nat
  rt := []
  sh i := [(5, .v (.int .i64 i))]
  mh _ := []
  inv i := i ≤ n ∧ ∀ j, j < i → (l j == x) = false
  μ i := n - i
  init := 0
def an_ho1 (n : Nat) (ln : Nat → Nat) (l : Nat → Nat → Int) (x : Int) : Ann where
  σ := Nat
  rt := []
  sh i := [(6, .v (.int .i64 i)), (5, .v (.int .i64 (cntLL i ln l x : Nat)))]
  mh _ := []
  inv i := i ≤ n
  μ i := n - i
  init := 0
def an_ho2 (ln : Nat → Nat) (l : Nat → Nat → Int) (x : Int) (i c : Int) : Ann where
  σ := Nat
  rt := []
  sh k := [(7, .v (.int .i64 k)), (5, .v (.int .i64 (c + (cntB k fun q => l i.toNat q == x : Nat))))]
  mh _ := []
  inv k := k ≤ ln i.toNat
  μ k := ln i.toNat - k
  init := 0
def an_fw (W : Wd) (f : Nat) : Ann where
  σ := Nat
  rt := [(2, 0)]
  sh i := [(2, pt0 0), (8, .v (.int .i64 i)), (5, .v (.int .i64 (cntB i fun k => clayAt (W.slots k) f : Nat))), (6, .v (.bool (anyB i fun k => freeAt (W.slots k) f))), (7, .v (.int .i64 (cntB i fun k => keyAt (W.slots k) f : Nat)))]
  mh _ := []
  inv i := i ≤ W.nSlots
  μ i := W.nSlots - i
  init := 0
def an_sw (W : Wd) (u : Int) : Ann where
  σ := Nat
  rt := [(2, 0)]
  sh k := [(2, pt0 0), (9, .v (.int .i64 k)), (8, .v (.int .i64 (upK W u k)))]
  mh _ := []
  inv k := k ≤ W.nSlots
  μ k := W.nSlots - k
  init := 0
structure X_kindOf where
  (W : Wd) (f : Int)
def s_kindOf : Sy.Spec := ⟨X_kindOf, fun ⟨W, f⟩ => [wSV W, .v (.int .i64 f)], fun _ => [], fun _ => True, fun ⟨W, f⟩ => .v (.int .i64 (kof W f)), fun _ => [],
  fun args mem => match args with | [a0, a1] => some ⟨wSVD a0, intD (a1)⟩ | _ => none⟩
def c_kindOf : Con := ⟨[], s_kindOf.g, none⟩
def V_kindOf : X_kindOf → Prop := fun ⟨W, f⟩ => let a0:=cond (decide (f<0)) true (decide (((W.nKinds:Nat):Int)≤f));True∧(a0=true→(-1)=kof W f∧True)∧(a0=false→(0≤f∧f<((W.nKinds:Nat):Int))∧W.kinds (Int.toNat f)=kof W f∧True)
theorem ok_kindOf : FnOK Tryz.prog glN 218 c_kindOf := ok_of .nil false Tryz.call218 Tryz.func218 (fun _ => []) (V := V_kindOf) (fun _ => by kernel_rfl) fun ⟨W, f⟩ hp => by
  dsimp only [V_kindOf, tn, w64]
  simp only [std, stb, eq_self, implies_true, Bool.cond_self]
  refine ⟨fun h => ?_, fun h => ?_⟩
  · rw [Bool.or_eq_true, decide_eq_true_eq, decide_eq_true_eq] at h; exact (kof_out h).symm
  · rw [Bool.or_eq_false_iff, decide_eq_false_iff_not, decide_eq_false_iff_not] at h
    have h2 : 0 ≤ f ∧ f < W.nKinds := by omega
    exact ⟨h2, (kof_eq h2).symm⟩
structure X_inL where
  (x : Int) (n : Nat) (l : Nat → Int)
def s_inL : Sy.Spec := ⟨X_inL, fun ⟨x, n, l⟩ => [.v (.int .i64 x), .sl true 1 n (fun i_ _ => .v (.int .i64 (l i_)))], fun _ => [], fun _ => True, fun ⟨x, n, l⟩ => .v (.bool (inB' n l x)), fun _ => [],
  fun args mem => match args with | [a0, a1] => some ⟨intD (a0), slN a1, fun i => intD (slF a1 i 0)⟩ | _ => none⟩
def c_inL : Con := ⟨[], s_inL.g, none⟩
def V_inL : X_inL → Prop := fun ⟨x, n, l⟩ => let a0:=(n:Int);0=((0:Nat):Int)∧True∧(0≤n∧(∀b0:Nat,b0<0→(l b0==x)=false))∧(∀c0:Nat,let d0:=(c0:Int);let e0:=decide (d0<a0);let g0:=l (Int.toNat d0)==x;let h0:Int:=d0+1;c0≤n∧(∀k0:Nat,k0<c0→(l k0==x)=false)→a0≤9223372036854775807→(e0=true→(0≤d0∧d0<a0)∧(g0=true→true=inB' n l x∧True)∧(g0=false→w64 h0=h0∧(∃l0:Nat,h0=(l0:Int)∧True∧(l0≤n∧(∀o0:Nat,o0<l0→(l o0==x)=false))∧n-l0<n-c0)))∧(e0=false→false=inB' n l x∧True))
theorem ok_inL : FnOK Tryz.prog glN 101 c_inL := ok_of .nil false Tryz.call101 Tryz.func101 (fun ⟨x, n, l⟩ => [.inv (an_in n l x)]) (V := V_inL) (fun _ => by kernel_rfl) fun ⟨x, n, l⟩ hp => by
  dsimp only [V_inL, tn, w64]
  simp only [std, eq_self, implies_true, Bool.cond_self]
  intro s hs hn
  refine ⟨fun h => ?_, fun h => ?_⟩
  · have hlt := lt_of_dec h
    refine ⟨by omega, fun h => (anyB_iff.2 ⟨s, hlt, h⟩).symm, fun h => ⟨by rw [IntKind.wrap_i64]; omega, exS ⟨⟨by omega, snocF (p := fun j => l j == x) hs.2 h⟩, by omega⟩⟩⟩
  · have hge := ge_of_dec h
    obtain rfl : s = n := by omega
    exact (anyB_false.2 hs.2).symm
structure X_howOften where
  (n : Nat) (ln : Nat → Nat) (l : Nat → Nat → Int) (x : Int)
def s_howOften : Sy.Spec := ⟨X_howOften, fun ⟨n, ln, l, x⟩ => [.sl true 1 n (fun i _ => .sl true 1 (ln i) (iF (l i))), .v (.int .i64 x)], fun _ => [], fun ⟨n, ln, _, _⟩ => n ≤ 1000 ∧ ∀ i, i < n → ln i ≤ 1000, fun ⟨n, ln, l, x⟩ => .v (.int .i64 (cntLL n ln l x : Nat)), fun _ => [],
  fun args mem => match args with | [a0, a1] => some ⟨slN a0, fun i => slN (slF a0 i 0), fun i k => intD (slF (slF a0 i 0) k 0), intD (a1)⟩ | _ => none⟩
def c_howOften : Con := ⟨[], s_howOften.g, none⟩
def V_howOften : X_howOften → Prop := fun ⟨n, ln, l, x⟩ => let a0:=(n:Int);0=((0:Nat):Int)∧0=((cntLL 0 ln l x:Nat):Int)∧True∧0≤n∧(∀b0:Nat,let c0:=(b0:Int);let d0:=decide (c0<a0);let e0:=((cntLL b0 ln l x:Nat):Int);let g0:=Int.toNat c0;let h0:=ln g0;let k0:=0≤c0∧c0<a0;let l0:=(h0:Int);let o0:Int:=c0+1;b0≤n→a0≤9223372036854775807→(d0=true→0=((0:Nat):Int)∧e0=e0+((cntB 0 (fun q0:Nat=>l g0 q0==x):Nat):Int)∧True∧0≤h0∧(∀r0:Nat,let u0:=(r0:Int);let v0:=decide (u0<l0);let w0:=l g0 (Int.toNat u0)==x;let x0:Int:=e0+((cntB r0 (fun y0:Nat=>l g0 y0==x):Nat):Int);let z0:Int:=x0+1;let a1:Int:=u0+1;let b1:=w64 a1=a1;r0≤h0→k0∧(l0≤9223372036854775807→(v0=true→k0∧(0≤u0∧u0<l0)∧(w0=true→w64 z0=z0∧b1∧(∃c1:Nat,a1=(c1:Int)∧z0=e0+((cntB c1 (fun d1:Nat=>l g0 d1==x):Nat):Int)∧True∧c1≤h0∧h0-c1<h0-r0))∧(w0=false→b1∧(∃e1:Nat,a1=(e1:Int)∧x0=e0+((cntB e1 (fun g1:Nat=>l g0 g1==x):Nat):Int)∧True∧e1≤h0∧h0-e1<h0-r0)))∧(v0=false→w64 o0=o0∧(∃h1:Nat,o0=(h1:Int)∧x0=((cntLL h1 ln l x:Nat):Int)∧True∧h1≤n∧n-h1<n-b0)))))∧(d0=false→e0=((cntLL n ln l x:Nat):Int)∧True))
theorem ok_howOften : FnOK Tryz.prog glN 219 c_howOften := ok_of .nil false Tryz.call219 Tryz.func219 (fun ⟨n, ln, l, x⟩ => [.inv (an_ho1 n ln l x), .invF false fun fr => an_ho2 ln l x (intD (fr 6)) (intD (fr 5))]) (V := V_howOften) (fun _ => by kernel_rfl) fun ⟨n, ln, l, x⟩ hp => by
  dsimp only [s_howOften] at hp
  dsimp only [V_howOften, tn, w64]
  simp only [std, eq_self, implies_true, Bool.cond_self]
  refine ⟨rfl, fun s hs hn => ⟨fun h => ?_, fun h => ?_⟩⟩
  · have hlt := lt_of_dec h
    have hl := hp.2 s hlt
    have hc : cntLL s ln l x ≤ s * 1000 := sumN_le fun i hi => Nat.le_trans (cntB_le _ _) (hp.2 i (by omega))
    refine ⟨by simp [cntB], fun k hk => ⟨by omega, fun hm => ⟨fun h2 => ?_, fun h2 => ?_⟩⟩⟩
    · have hlt2 := lt_of_dec h2
      have hb := cntB_le (fun q => l s q == x) k
      refine ⟨by omega, by omega, fun h3 => ?_, fun h3 => ?_⟩
      · have e : (cntB (k + 1) fun q => l s q == x) = (cntB k fun q => l s q == x) + 1 := by simp [cntB, h3]
        exact ⟨by rw [IntKind.wrap_i64]; omega, by rw [IntKind.wrap_i64]; omega, exS ⟨by rw [e]; omega, by omega, by omega⟩⟩
      · have e : (cntB (k + 1) fun q => l s q == x) = (cntB k fun q => l s q == x) := by simp [cntB, h3]
        exact ⟨by rw [IntKind.wrap_i64]; omega, exS ⟨by rw [e], by omega, by omega⟩⟩
    · have hge := ge_of_dec h2
      obtain rfl : k = ln s := by omega
      refine ⟨by rw [IntKind.wrap_i64]; omega, exS ⟨?_, by omega, by omega⟩⟩
      rw [show cntLL (s + 1) ln l x = cntLL s ln l x + cntB (ln s) (fun q => l s q == x) from rfl]; omega
  · have hge := ge_of_dec h
    obtain rfl : s = n := by omega
    rfl
structure X_readyAt where
  (W : Wd) (t c p : Int)
def s_readyAt : Sy.Spec := ⟨X_readyAt, fun ⟨W, t, c, p⟩ => [wSV W, .v (.int .i64 t), .v (.int .i64 c), .v (.int .i64 p)], fun _ => [], fun ⟨W, _, _, _⟩ => Szd W, fun ⟨W, t, c, p⟩ => .v (.bool (rdB W t c p)), fun _ => [],
  fun args mem => match args with | [a0, a1, a2, a3] => some ⟨wSVD a0, intD (a1), intD (a2), intD (a3)⟩ | _ => none⟩
def c_readyAt : Con := ⟨[], s_readyAt.g, none⟩
def V_readyAt : X_readyAt → Prop := fun ⟨W, t, c, p⟩ => let a0:=W.nKinds;let b0:=W.nSlots;let c0:=W.nTasks;let d0:=W.nLines;let e0:=W.nCores;let g0:=W.nReady;let h0:=kof W t==6;let k0:=0≤t∧t<(c0:Int);let l0:=W.tasks (Int.toNat t);let o0:=cond h0 (l0.st==1) false;let q0:=cond o0 (l0.core==c) false;True∧(((((((((((((True∧W.nRam=W.nRam∧(∀u0:Nat,u0<W.nRam→True∧W.ram u0=W.ram u0))∧a0=a0∧(∀v0:Nat,v0<a0→True∧W.kinds v0=W.kinds v0))∧b0=b0∧(∀w0:Nat,let x0:=W.slots w0;let y0:=x0.kind;let z0:=x0.base;let a1:=x0.len;let b1:=x0.mark;let c1:=x0.rights;let d1:=x0.badge;let e1:=x0.from_;w0<b0→((((((True∧y0=y0)∧z0=z0)∧a1=a1)∧b1=b1)∧c1=c1)∧d1=d1)∧e1=e1))∧c0=c0∧(∀g1:Nat,let h1:=W.tasks g1;let k1:=h1.prio;let l1:=h1.node;let o1:=h1.space;let q1:=h1.helper;let u1:=h1.loc;let v1:=h1.word;let w1:=h1.badge;let x1:=h1.owes;let y1:=h1.core;let z1:=h1.dom;g1<c0→(((((((((((((((((((True∧h1.r0=h1.r0)∧h1.r1=h1.r1)∧h1.r2=h1.r2)∧h1.r3=h1.r3)∧h1.r4=h1.r4)∧h1.r5=h1.r5)∧h1.r6=h1.r6)∧h1.r7=h1.r7)∧h1.pc=h1.pc)∧h1.st=h1.st)∧k1=k1)∧l1=l1)∧o1=o1)∧q1=q1)∧u1=u1)∧v1=v1)∧w1=w1)∧x1=x1)∧y1=y1)∧z1=z1))∧d0=d0∧(∀a2:Nat,let b2:=W.linesN a2;a2<d0→True∧b2=b2∧(∀c2:Nat,c2<b2→True∧W.lines a2 c2=W.lines a2 c2)))∧W.nBits=W.nBits∧(∀d2:Nat,d2<W.nBits→True∧W.bits d2=W.bits d2))∧e0=e0∧(∀e2:Nat,e2<e0→True∧W.cores e2=W.cores e2))∧g0=g0∧(∀g2:Nat,let h2:=W.readyN g2;g2<g0→True∧h2=h2∧(∀k2:Nat,k2<h2→True∧W.ready g2 k2=W.ready g2 k2)))∧W.nTlbs=W.nTlbs∧(∀l2:Nat,let o2:=W.tlbsN l2;l2<W.nTlbs→True∧o2=o2∧(∀q2:Nat,let u2:=W.tlbs l2 q2;let v2:=u2.sp;let w2:=u2.pg;let x2:=u2.fr;let y2:=u2.wr;q2<o2→
    (((True∧v2=v2)∧w2=w2)∧x2=x2)∧y2=y2)))∧W.nDoms=W.nDoms∧(∀z2:Nat,z2<W.nDoms→True∧W.doms z2=W.doms z2))∧W.time=W.time)∧t=t∧True)∧True∧True)∧(h0=true→k0)∧(o0=true→k0)∧(decide (p<0)=false→q0=true→k0)∧cond q0 (cond (decide (p<0)) true (l0.prio==p)) false=rdB W t c p∧True
theorem ok_readyAt : FnOK Tryz.prog glN 172 c_readyAt := ok_of (.cons ok_kindOf .nil) false Tryz.call172 Tryz.func172 (fun _ => []) (V := V_readyAt) (fun _ => by kernel_rfl) fun ⟨W, t, c, p⟩ hp => by
  dsimp only [s_readyAt] at hp
  dsimp only [V_readyAt, tn, w64]
  simp only [std, stb, eq_self, implies_true, Bool.cond_self]
  have hr : (kof W t == 6) = true → 0 ≤ t ∧ t < W.nTasks := fun h => by
    have := kof_in (W := W) (f := t) (by rw [eq_of_beq h]; decide)
    rw [hp.tasks]; exact this
  refine ⟨hr, fun h => hr (by revert h; cases kof W t == 6 <;> simp), fun _ h => hr (by revert h; cases kof W t == 6 <;> simp), rfl⟩
structure X_frameWell where
  (W : Wd) (f : Int)
def s_frameWell : Sy.Spec := ⟨X_frameWell, fun ⟨W, f⟩ => [wSV W, .v (.int .i64 f)], fun _ => [], fun ⟨W, f⟩ => Szd W ∧ 0 ≤ f ∧ f < W.nKinds ∧ ∀ i, i < W.nSlots → slB W i = true, fun ⟨W, f⟩ => .v (.bool (frB W f.toNat)), fun _ => [],
  fun args mem => match args with | [a0, a1] => some ⟨wSVD a0, intD (a1)⟩ | _ => none⟩
def c_frameWell : Con := ⟨[], s_frameWell.g, none⟩
def V_frameWell : X_frameWell → Prop := fun ⟨W, f⟩ => let a0:=SV.ptr 0 0 none 0 0=SV.ptr 0 0 none 0 0;let b0:=Int.toNat f;let c0:=W.nKinds;let d0:=W.nSlots;let e0:=W.nTasks;let g0:=W.nLines;let h0:=W.nCores;let k0:=W.nReady;
    let l0:=(((((((((((True∧W.nRam=W.nRam∧(∀o0:Nat,o0<W.nRam→True∧W.ram o0=W.ram o0))∧c0=c0∧(∀q0:Nat,q0<c0→True∧W.kinds q0=W.kinds q0))∧d0=d0∧(∀u0:Nat,let v0:=W.slots u0;let w0:=v0.kind;let x0:=v0.base;let y0:=v0.len;let z0:=v0.mark;let a1:=v0.rights;let b1:=v0.badge;let c1:=v0.from_;u0<d0→((((((True∧w0=w0)∧x0=x0)∧y0=y0)∧z0=z0)∧a1=a1)∧b1=b1)∧c1=c1))∧e0=e0∧(∀d1:Nat,let e1:=W.tasks d1;let g1:=e1.prio;let h1:=e1.node;let k1:=e1.space;let l1:=e1.helper;let o1:=e1.loc;let q1:=e1.word;let u1:=e1.badge;let v1:=e1.owes;let w1:=e1.core;let x1:=e1.dom;d1<e0→(((((((((((((((((((True∧e1.r0=e1.r0)∧e1.r1=e1.r1)∧e1.r2=e1.r2)∧e1.r3=e1.r3)∧e1.r4=e1.r4)∧e1.r5=e1.r5)∧e1.r6=e1.r6)∧e1.r7=e1.r7)∧e1.pc=e1.pc)∧e1.st=e1.st)∧g1=g1)∧h1=h1)∧k1=k1)∧l1=l1)∧o1=o1)∧q1=q1)∧u1=u1)∧v1=v1)∧w1=w1)∧x1=x1))∧g0=g0∧(∀y1:Nat,let z1:=W.linesN y1;y1<g0→True∧z1=z1∧(∀a2:Nat,a2<z1→True∧W.lines y1 a2=W.lines y1 a2)))∧W.nBits=W.nBits∧(∀b2:Nat,b2<W.nBits→True∧W.bits b2=W.bits b2))∧h0=h0∧(∀c2:Nat,c2<h0→True∧W.cores c2=W.cores c2))∧k0=k0∧(∀d2:Nat,let e2:=W.readyN d2;d2<k0→True∧e2=e2∧(∀g2:Nat,g2<e2→True∧W.ready d2 g2=W.ready d2 g2)))∧W.nTlbs=W.nTlbs∧(∀h2:Nat,let k2:=W.tlbsN h2;h2<W.nTlbs→True∧k2=k2∧(∀l2:Nat,let o2:=W.tlbs h2 l2;let q2:=o2.sp;let u2:=o2.pg;let v2:=o2.fr;let w2:=o2.wr;l2<k2→(((True∧q2=q2)∧u2=u2)∧v2=v2)∧w2=w2)))∧W.nDoms=W.nDoms∧(∀x2:Nat,x2<W.nDoms→True∧W.doms x2=W.doms x2))∧W.time=W.time)∧True;let y2:=(d0:Int);True∧a0∧0=((0:Nat):Int)∧0=((cntB 0 (fun z2:Nat=>clayAt (W.slots z2) b0):Nat):Int)∧
    false=anyB 0 (fun a3:Nat=>freeAt (W.slots a3) b0)∧0=((cntB 0 (fun b3:Nat=>keyAt (W.slots b3) b0):Nat):Int)∧l0∧0≤d0∧(∀c3:Nat,let d3:=(c3:Int);let e3:=decide (d3<y2);let g3:=W.slots (Int.toNat d3);let h3:=g3.kind;let k3:=g3.base;let l3:=cond (h3==1) (decide (k3≤f)) false;let o3:Int:=k3+g3.len;let q3:=cond l3 (decide (f<o3)) false;let u3:=((cntB c3 (fun v3:Nat=>clayAt (W.slots v3) b0):Nat):Int);let w3:Int:=u3+1;let x3:=anyB c3 (fun y3:Nat=>freeAt (W.slots y3) b0);let z3:Int:=k3+g3.mark;let a4:=cond (cond (h3 !=1) (h3 !=0) false) (k3==f) false;let b4:=a4=true;let c4:=((cntB c3 (fun d4:Nat=>keyAt (W.slots d4) b0):Nat):Int);let e4:Int:=c4+1;let g4:=w64 e4=e4;let h4:Int:=d3+1;let k4:=w64 h4=h4;let l4:=cond x3 true (decide (z3≤f));let o4:=d0-c3;let q4:=a4=false;let u4:=decide (u3≤1);c3≤d0→y2≤9223372036854775807→(e3=true→(0≤d3∧d3<y2)∧True∧tn 5 True∧(l3=true→w64 o3=o3)∧(q3=true→w64 w3=w3∧(x3=false→w64 z3=z3)∧(b4→g4∧k4∧(∃v4:Nat,a0∧h4=(v4:Int)∧w3=((cntB v4 (fun w4:Nat=>clayAt (W.slots w4) b0):Nat):Int)∧l4=anyB v4 (fun x4:Nat=>freeAt (W.slots x4) b0)∧e4=((cntB v4 (fun y4:Nat=>keyAt (W.slots y4) b0):Nat):Int)∧l0∧v4≤d0∧d0-v4<o4))∧(q4→k4∧(∃z4:Nat,a0∧h4=(z4:Int)∧w3=((cntB z4 (fun a5:Nat=>clayAt (W.slots a5) b0):Nat):Int)∧l4=anyB z4 (fun b5:Nat=>freeAt (W.slots b5) b0)∧c4=((cntB z4 (fun c5:Nat=>keyAt (W.slots c5) b0):Nat):Int)∧l0∧z4≤d0∧d0-z4<o4)))∧(q3=false→(b4→g4∧k4∧(∃d5:Nat,a0∧h4=(d5:Int)∧u3=((cntB d5 (fun e5:Nat=>clayAt (W.slots e5) b0):Nat):Int)∧
    x3=anyB d5 (fun g5:Nat=>freeAt (W.slots g5) b0)∧e4=((cntB d5 (fun h5:Nat=>keyAt (W.slots h5) b0):Nat):Int)∧l0∧d5≤d0∧d0-d5<o4))∧(q4→k4∧(∃k5:Nat,a0∧h4=(k5:Int)∧u3=((cntB k5 (fun l5:Nat=>clayAt (W.slots l5) b0):Nat):Int)∧x3=anyB k5 (fun o5:Nat=>freeAt (W.slots o5) b0)∧c4=((cntB k5 (fun q5:Nat=>keyAt (W.slots q5) b0):Nat):Int)∧l0∧k5≤d0∧d0-k5<o4))))∧(e3=false→(u4=true→0≤f∧f<(c0:Int))∧cond u4 (cond (W.kinds b0==0) true (cond (decide (0<c4)) (!x3) false)) false=frB W b0∧True))
theorem ok_frameWell : FnOK Tryz.prog glN 169 c_frameWell := ok_of .nil false Tryz.call169 Tryz.func169 (fun ⟨W, f⟩ => [.inv (an_fw W f.toNat)]) (V := V_frameWell) (fun _ => by kernel_rfl) fun ⟨W, f⟩ hp => by
  dsimp only [s_frameWell] at hp
  dsimp only [V_frameWell, tn, w64]
  obtain ⟨hz, f0, f1, hs⟩ := hp
  obtain ⟨F, rfl⟩ : ∃ F : Nat, f = F := ⟨f.toNat, by omega⟩
  simp only [std, stb, eq_self, implies_true, Bool.cond_self]
  refine ⟨rfl, rfl, rfl, fun s hs0 hn => ⟨fun h => ?_, fun h => ?_⟩⟩
  · have hlt := lt_of_dec h
    have hr := slNo_range (slBs_no (hs s hlt))
    have k1 : IntKind.i64.wrap ((s : Int) + 1) = s + 1 := by rw [IntKind.wrap_i64]; omega
    have hb1 := cntB_le (fun k => clayAt (W.slots k) F) s
    have hb2 := cntB_le (fun k => keyAt (W.slots k) F) s
    have kc : ((W.slots s).kind == 1 && decide ((W.slots s).base ≤ F) && decide ((F : Int) < (W.slots s).base + (W.slots s).len)) = clayAt (W.slots s) F := rfl
    have kk : ((W.slots s).kind != 1 && (W.slots s).kind != 0 && (W.slots s).base == F) = keyAt (W.slots s) F := rfl
    have ec : (cntB (s + 1) fun k => clayAt (W.slots k) F) = (cntB s fun k => clayAt (W.slots k) F) + (bif clayAt (W.slots s) F then 1 else 0) := rfl
    have ek : (cntB (s + 1) fun k => keyAt (W.slots k) F) = (cntB s fun k => keyAt (W.slots k) F) + (bif keyAt (W.slots s) F then 1 else 0) := rfl
    have ef : (anyB (s + 1) fun k => freeAt (W.slots k) F) = ((anyB s fun k => freeAt (W.slots k) F) || freeAt (W.slots s) F) := anyB_succ _ _
    rw [kc, kk]
    refine ⟨by omega, fun _ => by rw [IntKind.wrap_i64]; omega, fun hc => ?_, fun hc => ?_⟩
    · have hfr : freeAt (W.slots s) F = decide ((W.slots s).base + (W.slots s).mark ≤ F) := by unfold freeAt; rw [hc]; rfl
      refine ⟨by rw [IntKind.wrap_i64]; omega, fun _ => by rw [IntKind.wrap_i64]; omega, fun hk => ?_, fun hk => ?_⟩
      · exact ⟨by rw [IntKind.wrap_i64]; omega, k1, exS ⟨by rw [ec, hc]; simp, by rw [ef, hfr], by rw [ek, hk]; simp, by omega, by omega⟩⟩
      · exact ⟨k1, exS ⟨by rw [ec, hc]; simp, by rw [ef, hfr], by rw [ek, hk]; simp, by omega, by omega⟩⟩
    · have hfr : freeAt (W.slots s) F = false := by unfold freeAt; rw [hc]; rfl
      refine ⟨fun hk => ?_, fun hk => ?_⟩
      · exact ⟨by rw [IntKind.wrap_i64]; omega, k1, exS ⟨by rw [ec, hc]; simp, by rw [ef, hfr]; simp, by rw [ek, hk]; simp, by omega, by omega⟩⟩
      · exact ⟨k1, exS ⟨by rw [ec, hc]; simp, by rw [ef, hfr]; simp, by rw [ek, hk]; simp, by omega, by omega⟩⟩
  · have hge := ge_of_dec h
    obtain rfl : s = W.nSlots := by omega
    refine ⟨fun _ => by omega, ?_⟩
    unfold frB
    rw [show decide (((cntB W.nSlots fun k => clayAt (W.slots k) F : Nat) : Int) ≤ 1) = decide ((cntB W.nSlots fun k => clayAt (W.slots k) F) ≤ 1) from decide_eq_decide.2 (by omega), show decide (0 < ((cntB W.nSlots fun k => keyAt (W.slots k) F : Nat) : Int)) = decide (0 < cntB W.nSlots fun k => keyAt (W.slots k) F) from decide_eq_decide.2 (by omega)]
end Go.Proofs.YtdjilaofmdhikaaGreatDoor
set_option linter.unusedVariables false
set_option linter.unusedSimpArgs false
set_option maxRecDepth 100000
namespace Go.Proofs.YtdjilaofmdhikaaGreatDoor
open Go.RowKit Go.Sy
theorem slBs_pos {W : Wd} {i : Nat} {s : Slt} (h : (s.kind == 0) = false) : slBs W i s = (W.kinds (i / 16) == 5 && slNo s == 0 && decide (s.base + s.len ≤ W.nKinds) && (s.kind == 1 || W.kinds s.base.toNat == s.kind) && (s.from_ == -1 || (inS W s.from_ && madeB s (W.slots s.from_.toNat) && !inS W (upK W s.from_ W.nSlots)))) := by unfold slBs; rw [h]; rfl
theorem notIn {W : Wd} {u : Int} : (decide (u < 0) || decide ((W.nSlots : Int) ≤ u)) = !inS W u := by
  cases hq : inS W u with
  | true => have := inS_iff.1 hq; rw [decide_eq_false (by omega), decide_eq_false (by omega)]; rfl
  | false =>
    have : ¬ (0 ≤ u ∧ u < W.nSlots) := fun h => by rw [inS_iff.2 h] at hq; cases hq
    rcases Int.lt_or_le u 0 with h | h
    · rw [decide_eq_true h]; rfl
    · rw [decide_eq_true (show (W.nSlots : Int) ≤ u by omega)]; simp
theorem sw_loop {W : Wd} {u : Int} {b : Bool} (hN : W.nSlots ≤ 1000) (hR : b = !inS W (upK W u W.nSlots)) : u = upK W u 0 ∧ ∀ (s : Nat), s ≤ W.nSlots → (W.nSlots : Int) ≤ 9223372036854775807 →
    ((decide ((s : Int) < (W.nSlots : Int)) && decide (0 ≤ upK W u s) && decide (upK W u s < (W.nSlots : Int))) = true → (0 ≤ upK W u s ∧ upK W u s < (W.nSlots : Int)) ∧ IntKind.i64.wrap ((s : Int) + 1) = (s : Int) + 1 ∧ ∃ s' : Nat, (s : Int) + 1 = (s' : Int) ∧ (W.slots (upK W u s).toNat).from_ = upK W u s' ∧ s' ≤ W.nSlots ∧ W.nSlots - s' < W.nSlots - s) ∧
    ((decide ((s : Int) < (W.nSlots : Int)) && decide (0 ≤ upK W u s) && decide (upK W u s < (W.nSlots : Int))) = false → (decide (upK W u s < 0) || decide ((W.nSlots : Int) ≤ upK W u s)) = b) := by
  refine ⟨rfl, fun s hs _ => ⟨fun h => ?_, fun h => ?_⟩⟩
  · simp only [Bool.and_eq_true, decide_eq_true_eq] at h
    obtain ⟨⟨h1, h2⟩, h3⟩ := h
    exact ⟨⟨h2, h3⟩, by rw [IntKind.wrap_i64]; omega, exS ⟨(upS_in (inS_iff.2 ⟨h2, h3⟩)).symm, by omega, by omega⟩⟩
  · rw [hR, notIn]
    congr 1
    cases hq : inS W (upK W u s) with
    | false => rw [upK_out hq hs, hq]
    | true =>
      have h2 := inS_iff.1 hq
      simp only [decide_eq_true h2.1, decide_eq_true h2.2, Bool.and_true] at h
      obtain rfl : s = W.nSlots := by have := of_decide_eq_false h; omega
      exact hq.symm
theorem keyNo_slNo (s : Slt) : keyNo s.kind s.base s.len s.mark s.rights s.badge = slNo s := rfl
theorem eqF {b : Bool} (h : b = true → False) : false = b := by cases b <;> simp_all
structure X_slotWell where
  (W : Wd) (i : Int)
def s_slotWell : Sy.Spec := ⟨X_slotWell, fun ⟨W, i⟩ => [wSV W, .v (.int .i64 i)], fun _ => [], fun ⟨W, i⟩ => Szd W ∧ 0 ≤ i ∧ i < W.nSlots, fun ⟨W, i⟩ => .v (.bool (slB W i.toNat)), fun _ => [],
  fun args mem => match args with | [a0, a1] => some ⟨wSVD a0, intD (a1)⟩ | _ => none⟩
def c_slotWell : Con := ⟨[], s_slotWell.g, none⟩
def V_slotWell : X_slotWell → Prop := fun ⟨W, i⟩ => let a0:=W.nSlots;let b0:=(a0:Int);let c0:=True∧True;let d0:=tn 4 c0;let e0:=W.slots (Int.toNat i);let g0:=e0.kind;let h0:=g0==0;let k0:=e0.base;let l0:=e0.len;let o0:=e0.mark;let q0:=e0.rights;let u0:=q0=q0;let v0:=e0.badge;let w0:=(((((((True∧g0=g0)∧k0=k0)∧l0=l0)∧o0=o0)∧u0)∧v0=v0)∧True)∧c0;let x0:=keyNo g0 k0 l0 o0 q0 v0;let y0:=e0.from_;let z0:=y0==(-1);let a1:=slB W (Int.toNat i);let b1:Int:=i/16;let c1:=W.nKinds;let d1:=(c1:Int);let e1:=W.kinds (Int.toNat b1) !=5;let g1:=cond e1 true (x0 !=0);let h1:Int:=k0+l0;let k1:=cond g1 true (decide (d1<h1));let l1:=false=a1∧True;let o1:=g0 !=1;let q1:=cond o1 (W.kinds (Int.toNat k0) !=g0) false;let u1:=cond (decide (y0<0)) true (decide (b0≤y0));let v1:=W.slots (Int.toNat y0);let w1:=v1.kind;let x1:=v1.base;let y1:=v1.len;let z1:=v1.mark;let a2:=v1.rights;let b2:=a2=a2;let c2:=v1.badge;let d2:=keyNo w1 x1 y1 z1 a2 c2 !=0;let e2:=w1==1;let g2:=cond (g0==1) true (decide (k0<x1));let h2:Int:=k0-x1;let k2:=cond g2 true (decide (z1≤h2));let l2:=SV.ptr 0 0 none 0 0=SV.ptr 0 0 none 0 0;let o2:=W.nTasks;let q2:=W.nLines;let u2:=W.nCores;let v2:=W.nReady;
    let w2:=(((((((((((True∧W.nRam=W.nRam∧(∀x2:Nat,x2<W.nRam→True∧W.ram x2=W.ram x2))∧c1=c1∧(∀y2:Nat,y2<c1→True∧W.kinds y2=W.kinds y2))∧a0=a0∧(∀z2:Nat,let a3:=W.slots z2;let b3:=a3.kind;let c3:=a3.base;let d3:=a3.len;let e3:=a3.mark;let g3:=a3.rights;let h3:=a3.badge;let k3:=a3.from_;z2<a0→((((((True∧b3=b3)∧c3=c3)∧d3=d3)∧e3=e3)∧g3=g3)∧h3=h3)∧k3=k3))∧o2=o2∧(∀l3:Nat,let o3:=W.tasks l3;let q3:=o3.prio;let u3:=o3.node;let v3:=o3.space;let w3:=o3.helper;let x3:=o3.loc;let y3:=o3.word;let z3:=o3.badge;let a4:=o3.owes;let b4:=o3.core;let c4:=o3.dom;l3<o2→(((((((((((((((((((True∧o3.r0=o3.r0)∧o3.r1=o3.r1)∧o3.r2=o3.r2)∧o3.r3=o3.r3)∧o3.r4=o3.r4)∧o3.r5=o3.r5)∧o3.r6=o3.r6)∧o3.r7=o3.r7)∧o3.pc=o3.pc)∧o3.st=o3.st)∧q3=q3)∧u3=u3)∧v3=v3)∧w3=w3)∧x3=x3)∧y3=y3)∧z3=z3)∧a4=a4)∧b4=b4)∧c4=c4))∧q2=q2∧(∀d4:Nat,let e4:=W.linesN d4;d4<q2→True∧e4=e4∧(∀g4:Nat,g4<e4→True∧W.lines d4 g4=W.lines d4 g4)))∧W.nBits=W.nBits∧(∀h4:Nat,h4<W.nBits→True∧W.bits h4=W.bits h4))∧u2=u2∧(∀k4:Nat,k4<u2→True∧W.cores k4=W.cores k4))∧v2=v2∧(∀l4:Nat,let o4:=W.readyN l4;l4<v2→True∧o4=o4∧(∀q4:Nat,q4<o4→True∧W.ready l4 q4=W.ready l4 q4)))∧W.nTlbs=W.nTlbs∧(∀u4:Nat,let v4:=W.tlbsN u4;u4<W.nTlbs→True∧v4=v4∧(∀w4:Nat,let x4:=W.tlbs u4 w4;let y4:=x4.sp;let z4:=x4.pg;let a5:=x4.fr;let b5:=x4.wr;w4<v4→(((True∧y4=y4)∧z4=z4)∧a5=a5)∧b5=b5)))∧W.nDoms=W.nDoms∧(∀c5:Nat,c5<W.nDoms→True∧W.doms c5=W.doms c5))∧W.time=W.time)∧True;
    let d5:=l2∧0=((0:Nat):Int)∧y0=upK W y0 0∧w2∧0≤a0∧(∀e5:Nat,let g5:=upK W y0 e5;let h5:=cond (cond (decide ((e5:Int)<b0)) (decide (0≤g5)) false) (decide (g5<b0)) false;let k5:Int:=(e5:Int)+1;e5≤a0→b0≤9223372036854775807→(h5=true→(0≤g5∧g5<b0)∧w64 k5=k5∧(∃l5:Nat,l2∧k5=(l5:Int)∧(W.slots (Int.toNat g5)).from_=upK W y0 l5∧w2∧l5≤a0∧a0-l5<a0-e5))∧(h5=false→cond (decide (g5<0)) true (decide (b0≤g5))=a1∧True));let o5:=cond (cond (w1 !=g0) true (x1 !=k0)) true (cond (c2 !=0) (c2 !=v0) false);let q5:=cond o5 true (((bitw 6 (Int.toNat a2) (Int.toNat q0):Nat):Int) !=q0);True∧(0≤i∧i<b0)∧True∧(True∧d0)∧True∧d0∧(h0=true→w0∧cond (x0==0) z0 false=a1∧True)∧(h0=false→(0≤i∧(0:Int)<16∧w64 b1=b1)∧(0≤b1∧b1<d1)∧(e1=false→w0)∧(g1=false→w64 h1=h1)∧(k1=true→l1)∧(k1=false→tn 8 ((o1=true→0≤k0∧k0<d1)∧tn 3 ((q1=true→l1)∧(q1=false→(z0=true→true=a1∧True)∧(z0=false→(u1=true→l1)∧(u1=false→(0≤y0∧y0<b0)∧True∧d0∧((((((((True∧w1=w1)∧x1=x1)∧y1=y1)∧z1=z1)∧b2)∧c2=c2)∧True)∧c0)∧(d2=true→l1)∧(d2=false→(e2=true→(g2=false→w64 h2=h2)∧(k2=true→l1)∧(k2=false→d5))∧(e2=false→tn 29 ((o5=false→(b2∧u0∧(6:Int)=6∧True)∧True∧0≤a2∧a2≤65535∧0≤q0∧q0≤65535∧((6:Int)=6∨(6:Int)=7∨(6:Int)=8))∧tn 2 ((q5=true→l1)∧(q5=false→d5))))))))))))
theorem ok_slotWell : FnOK Tryz.prog glN 168 c_slotWell := ok_of (.cons ok_bitwise (.cons ok_keyMay .nil)) false Tryz.call168 Tryz.func168 (fun ⟨W, i⟩ => [.inv (an_sw W (W.slots i.toNat).from_)]) (V := V_slotWell) (fun _ => by kernel_rfl) fun ⟨W, i⟩ hp => by
  dsimp only [s_slotWell] at hp
  dsimp only [V_slotWell, tn, w64]
  obtain ⟨hz, i0, i1⟩ := hp
  obtain ⟨I, rfl⟩ : ∃ I : Nat, i = I := ⟨i.toNat, by omega⟩
  simp only [std, stb, eq_self, implies_true, Bool.cond_self]
  have e16 : ((I : Int) / 16).toNat = I / 16 := by omega
  unfold slB
  rw [e16]
  simp only [keyNo_slNo]
  have hz1 := hz.slots
  have hz2 := hz.k1
  have hz3 := hz.k0
  have toP : ∀ {b : Bool}, b = false → ¬ b = true := fun h => by rw [h]; exact Bool.false_ne_true
  obtain ⟨S, hS⟩ : ∃ S, S = W.slots I := ⟨_, rfl⟩
  simp only [← hS]
  refine ⟨by omega, fun h => ?_, fun h => ⟨⟨by decide, by rw [IntKind.wrap_i64]; omega⟩, ⟨by omega, by omega⟩, fun h1 => ?_, fun h1 => ?_, fun h1 => ?_⟩⟩
  · unfold slBs; rw [h]; rfl
  · simp only [Bool.or_eq_false_iff, bne_eq_false_iff_eq] at h1
    have := slNo_range h1.2
    rw [IntKind.wrap_i64]; omega
  · refine eqF fun ht => ?_
    rw [slBs_pos h] at ht
    simp only [Bool.and_eq_true, Bool.or_eq_true, beq_iff_eq, decide_eq_true_eq, bne_iff_ne, ne_eq] at ht h1
    omega
  have T : W.kinds (I / 16) = 5 ∧ slNo S = 0 ∧ S.base + S.len ≤ W.nKinds := by
    simp only [Bool.or_eq_false_iff, bne_eq_false_iff_eq, decide_eq_false_iff_not] at h1
    exact ⟨h1.1.1, h1.1.2, by omega⟩
  obtain ⟨T1, T2, T3⟩ := T
  have hr := slNo_range T2
  have hk0 : S.kind ≠ 0 := by simpa using h
  have hlen : 1 ≤ S.len := by
    have h0 : keyNo S.kind S.base S.len S.mark S.rights S.badge = 0 := T2
    unfold keyNo keyBad1 keyBad2 farB at h0
    simp only [cond_eq_ite, bne, Bool.or_eq_true, Bool.and_eq_true, Bool.not_eq_true', decide_eq_true_eq, beq_iff_eq, beq_eq_false_iff_ne] at h0
    repeat' split at h0
    all_goals first | (cases h0; done) | omega
  refine ⟨fun _ => by omega, fun h2 => ?_, fun h2 => ?_⟩
  · refine eqF fun ht => ?_
    rw [slBs_pos h] at ht
    simp only [Bool.and_eq_true, Bool.or_eq_true, beq_iff_eq, decide_eq_true_eq, bne_iff_ne, ne_eq] at ht h2
    omega
  have T4 : (S.kind == 1 || W.kinds S.base.toNat == S.kind) = true := by
    revert h2
    simp only [bne]
    cases S.kind == 1 <;> cases W.kinds S.base.toNat == S.kind <;> simp
  have core : slBs W I S = (S.from_ == -1 || (inS W S.from_ && madeB S (W.slots S.from_.toNat) && !inS W (upK W S.from_ W.nSlots))) := by
    rw [slBs_pos h, T4, show (W.kinds (I / 16) == 5) = true from beq_iff_eq.2 T1, show (slNo S == 0) = true from beq_iff_eq.2 T2, show decide (S.base + S.len ≤ W.nKinds) = true from decide_eq_true T3]
    simp
  rw [core]
  refine ⟨fun h3 => by rw [h3]; rfl, fun h3 => ?_⟩
  rw [h3, notIn]
  refine ⟨fun h4 => by rw [show inS W S.from_ = false by revert h4; cases inS W S.from_ <;> simp]; rfl, fun h4 => ?_⟩
  have hin : inS W S.from_ = true := by revert h4; cases inS W S.from_ <;> simp
  rw [hin]
  have hi2 := inS_iff.1 hin
  obtain ⟨p, hp⟩ : ∃ p, p = W.slots S.from_.toNat := ⟨_, rfl⟩
  simp only [← hp]
  refine ⟨hi2, fun h5 => ?_, fun h5 => ?_⟩
  · rw [show madeB S p = false by unfold madeB; rw [show (slNo p == 0) = false by simpa using h5]; rfl]; rfl
  have hp0 : slNo p = 0 := by simpa using h5
  have hpr := slNo_range hp0
  refine ⟨fun h6 => ?_, fun h6 => ?_⟩
  · have hm : madeB S p = (S.kind != 1 && decide (p.base ≤ S.base) && decide (S.base - p.base < p.mark)) := by unfold madeB; rw [h6, show (slNo p == 0) = true from beq_iff_eq.2 hp0]; rfl
    refine ⟨fun _ => by rw [IntKind.wrap_i64]; omega, fun h7 => ?_, fun h7 => ?_⟩
    · refine eqF fun ht => ?_
      rw [hm] at ht
      simp only [Bool.and_eq_true, Bool.or_eq_true, beq_iff_eq, decide_eq_true_eq, bne_iff_ne, ne_eq, Bool.false_eq_true, false_or] at ht h7
      omega
    · refine sw_loop (by omega) ?_
      have : madeB S p = true := by
        rw [hm]
        simp only [Bool.and_eq_true, Bool.or_eq_false_iff, beq_eq_false_iff_ne, decide_eq_true_eq, decide_eq_false_iff_not, bne_iff_ne, ne_eq] at h7 ⊢
        omega
      rw [this]; rfl
  · have hm : madeB S p = (S.kind == p.kind && S.base == p.base && (p.badge == 0 || p.badge == S.badge) && (((bitw 6 p.rights.toNat S.rights.toNat : Nat) : Int) == S.rights)) := by unfold madeB; rw [h6, show (slNo p == 0) = true from beq_iff_eq.2 hp0]; rfl
    refine ⟨fun _ => ⟨by omega, by omega, by omega, by omega, .inl trivial⟩, fun h7 => ?_, fun h7 => ?_⟩
    · refine eqF fun ht => ?_
      rw [hm] at ht
      simp only [Bool.and_eq_true, Bool.or_eq_true, beq_iff_eq, decide_eq_true_eq, bne_iff_ne, ne_eq, Bool.false_eq_true, false_or] at ht h7
      omega
    · refine sw_loop (by omega) ?_
      have : madeB S p = true := by
        rw [hm]
        simp only [Bool.and_eq_true, Bool.or_eq_true, Bool.or_eq_false_iff, Bool.and_eq_false_iff, beq_iff_eq, bne_eq_false_iff_eq, decide_eq_true_eq, decide_eq_false_iff_not, bne_iff_ne, ne_eq] at h7 ⊢
        omega
      rw [this]; rfl
end Go.Proofs.YtdjilaofmdhikaaGreatDoor
set_option linter.unusedVariables false
set_option linter.unusedSimpArgs false
set_option maxRecDepth 100000
namespace Go.Proofs.YtdjilaofmdhikaaGreatDoor
open Go.RowKit Go.Sy
def wL (W : Wd) : List SV := [.sl true 1 W.nRam (iF W.ram), .sl true 1 W.nKinds (iF W.kinds), .sl true 7 W.nSlots (rF fun i => slL (W.slots i)), .sl true 20 W.nTasks (rF fun i => runL (W.tasks i)), .sl true 1 W.nLines (fun i _ => .sl true 1 (W.linesN i) (iF (W.lines i))), .sl true 1 W.nBits (iF W.bits), .sl true 1 W.nCores (iF W.cores), .sl true 1 W.nReady (fun i _ => .sl true 1 (W.readyN i) (iF (W.ready i))), .sl true 1 W.nTlbs (fun i _ => .sl true 4 (W.tlbsN i) (rF fun k => enL (W.tlbs i k))), .sl true 1 W.nDoms (iF W.doms), .v (.int .i64 W.time)]
def an_tw1 (W : Wd) (f : Nat) : Ann where
  σ := Nat
  rt := [(2, 0), (5, 0)]
  sh i := [(2, pt0 0), (5, pt0 1), (6, .v (.int .i64 i))]
  mh _ := []
  inv i := i ≤ 8 ∧ ∀ j, j < i → farB (sel [(W.tasks f).r0, (W.tasks f).r1, (W.tasks f).r2, (W.tasks f).r3, (W.tasks f).r4, (W.tasks f).r5, (W.tasks f).r6, (W.tasks f).r7] j) 65535 = false
  μ i := 8 - i
  init := 0
def an_tw2 (W : Wd) (f : Nat) : Ann where
  σ := Nat
  rt := [(2, 0), (5, 0)]
  sh i := [(2, pt0 0), (5, pt0 1), (8, .v (.int .i64 i)), (7, .v (.int .i64 (cntB i fun k => (W.tasks k).owes == f : Nat)))]
  mh _ := []
  inv i := i ≤ W.nTasks
  μ i := W.nTasks - i
  init := 0
theorem castE0 (a : Nat) : (((a : Nat) : Int) == 0) = (a == 0) := by rw [Bool.eq_iff_iff]; simp
theorem castE1 (a : Nat) : (((a : Nat) : Int) == 1) = (a == 1) := by rw [Bool.eq_iff_iff]; simp; omega
theorem tkB_pos {W : Wd} {f : Nat} (h : (W.kinds f != 6) = false) : tkB W f = (!regFar (W.tasks f) && !numFar W (W.tasks f) && refOK W (W.tasks f) && owesOK W (W.tasks f) && owedOK W f && stOK W f) := by unfold tkB; rw [h]; rfl
theorem reg_of {t : Run} (h : ∀ j, j < 8 → farB (sel [t.r0, t.r1, t.r2, t.r3, t.r4, t.r5, t.r6, t.r7] j) 65535 = false) : regFar t = false := by
  unfold regFar
  have h0 : farB t.r0 65535 = false := h 0 (by omega)
  have h1 : farB t.r1 65535 = false := h 1 (by omega)
  have h2 : farB t.r2 65535 = false := h 2 (by omega)
  have h3 : farB t.r3 65535 = false := h 3 (by omega)
  have h4 : farB t.r4 65535 = false := h 4 (by omega)
  have h5 : farB t.r5 65535 = false := h 5 (by omega)
  have h6 : farB t.r6 65535 = false := h 6 (by omega)
  have h7 : farB t.r7 65535 = false := h 7 (by omega)
  rw [h0, h1, h2, h3, h4, h5, h6, h7]; rfl
theorem reg_to {t : Run} (h : regFar t = false) : ∀ j, j < 8 → farB (sel [t.r0, t.r1, t.r2, t.r3, t.r4, t.r5, t.r6, t.r7] j) 65535 = false := by
  unfold regFar at h
  simp only [Bool.or_eq_false_iff] at h
  obtain ⟨⟨⟨⟨⟨⟨⟨h0, h1⟩, h2⟩, h3⟩, h4⟩, h5⟩, h6⟩, h7⟩ := h
  intro j hj
  have : j = 0 ∨ j = 1 ∨ j = 2 ∨ j = 3 ∨ j = 4 ∨ j = 5 ∨ j = 6 ∨ j = 7 := by omega
  rcases this with rfl | rfl | rfl | rfl | rfl | rfl | rfl | rfl
  · exact h0
  · exact h1
  · exact h2
  · exact h3
  · exact h4
  · exact h5
  · exact h6
  · exact h7
theorem okF_in {W : Wd} {f k : Int} (hk : k ≠ -1) (h : okF W f k = true) (hf : (f != -1) = true) : 0 ≤ f ∧ f < W.nKinds := by
  unfold okF at h
  have : (f == -1) = false := by revert hf; simp only [bne]; cases f == -1 <;> simp
  rw [this] at h
  have h : kof W f = k := by simpa using h
  exact kof_in (by rw [h]; exact hk)
theorem owed_eq {W : Wd} {f c : Nat} (hc : owed W f = c) : (decide (1 < (c : Int)) || ((c : Int) == 1 && (W.tasks f).st != 5) || ((c : Int) == 0 && (W.tasks f).st == 5)) = !owedOK W f := by
  unfold owedOK
  rw [hc, castE0, castE1]
  have : c = 0 ∨ c = 1 ∨ 2 ≤ c := by omega
  rcases this with rfl | rfl | h
  · cases hq : (W.tasks f).st == 5 <;> simp [bne, hq]
  · cases hq : (W.tasks f).st == 5 <;> simp [bne, hq]
  · rw [decide_eq_true (show (1 : Int) < c by omega), decide_eq_false (show ¬ c ≤ 1 by omega)]; rfl
theorem cnt1 (n : Nat) (l : Nat → Int) (x : Int) : cntLL 1 (fun _ => n) (fun _ => l) x = cntL n l x := by show 0 + cntL n l x = cntL n l x; omega
structure Bo where
  b : Bool
def cut_tw (W : Wd) (f : Nat) : Cut where
  σ := Bo
  rt := [(2, 0), (5, 0)]
  sh s := [(2, pt0 0), (5, pt0 1), (9, .v (.int .i64 (stands W f : Nat))), (10, .v (.int .i64 (turnsN W f : Nat))), (187, .v (.int .i64 (W.tasks f).st)), (188, .v (.bool s.b))]
  mem _ := [.cells (wL W), .cells (runL (W.tasks f))]
  inv s := s.b = ((W.tasks f).st == 2 || (W.tasks f).st == 3 || (W.tasks f).st == 4)
  dec fr _ := ⟨boolD (fr 188)⟩
structure X_taskWell where
  (W : Wd) (f : Int)
def s_taskWell : Sy.Spec := ⟨X_taskWell, fun ⟨W, f⟩ => [wSV W, .v (.int .i64 f)], fun _ => [], fun ⟨W, f⟩ => Szd W ∧ smB W ∧ 0 ≤ f ∧ f < W.nKinds, fun ⟨W, f⟩ => .v (.bool (tkB W f.toNat)), fun _ => [],
  fun args mem => match args with | [a0, a1] => some ⟨wSVD a0, intD (a1)⟩ | _ => none⟩
def c_taskWell : Con := ⟨[], s_taskWell.g, none⟩
def V_taskWell : X_taskWell → Prop := fun ⟨W, f⟩ => let a0:=W.nTasks;let b0:=(a0:Int);let c0:=True∧True;let d0:=True∧c0;let e0:=W.nKinds;let g0:=Int.toNat f;let h0:=W.kinds g0 !=6;let k0:=W.tasks g0;let l0:=k0.r0;let o0:=k0.r1;let q0:=k0.r2;let u0:=k0.r3;let v0:=k0.r4;let w0:=k0.r5;let x0:=k0.r6;let y0:=k0.r7;let z0:=k0.pc;let a1:=k0.st;let b1:=k0.prio;let c1:=k0.node;let d1:=k0.space;let e1:=k0.helper;let g1:=k0.loc;let h1:=g1==(-1);let k1:=k0.word;let l1:=k0.badge;let o1:=k0.owes;let q1:=k0.core;let u1:=k0.dom;let v1:=tkB W g0;let w1:=SV.ptr 0 0 none 0 0=SV.ptr 0 0 none 0 0;let x1:=SV.ptr (0+1) 0 none 0 0=SV.ptr 1 0 none 0 0;let y1:=W.nSlots;let z1:=W.nLines;let a2:=z1=z1∧(∀b2:Nat,let c2:=W.linesN b2;b2<z1→True∧c2=c2∧(∀d2:Nat,d2<c2→True∧W.lines b2 d2=W.lines b2 d2));let e2:=W.nCores;let g2:=e2=e2∧(∀h2:Nat,h2<e2→True∧W.cores h2=W.cores h2);let k2:=W.nReady;let l2:=k2=k2∧(∀o2:Nat,let q2:=W.readyN o2;o2<k2→True∧q2=q2∧(∀u2:Nat,u2<q2→True∧W.ready o2 u2=W.ready o2 u2));
    let v2:=((((((((((True∧W.nRam=W.nRam∧(∀w2:Nat,w2<W.nRam→True∧W.ram w2=W.ram w2))∧e0=e0∧(∀x2:Nat,x2<e0→True∧W.kinds x2=W.kinds x2))∧y1=y1∧(∀y2:Nat,let z2:=W.slots y2;let a3:=z2.kind;let b3:=z2.base;let c3:=z2.len;let d3:=z2.mark;let e3:=z2.rights;let g3:=z2.badge;let h3:=z2.from_;y2<y1→((((((True∧a3=a3)∧b3=b3)∧c3=c3)∧d3=d3)∧e3=e3)∧g3=g3)∧h3=h3))∧a0=a0∧(∀k3:Nat,let l3:=W.tasks k3;let o3:=l3.prio;let q3:=l3.node;let u3:=l3.space;let v3:=l3.helper;let w3:=l3.loc;let x3:=l3.word;let y3:=l3.badge;let z3:=l3.owes;let a4:=l3.core;let b4:=l3.dom;k3<a0→(((((((((((((((((((True∧l3.r0=l3.r0)∧l3.r1=l3.r1)∧l3.r2=l3.r2)∧l3.r3=l3.r3)∧l3.r4=l3.r4)∧l3.r5=l3.r5)∧l3.r6=l3.r6)∧l3.r7=l3.r7)∧l3.pc=l3.pc)∧l3.st=l3.st)∧o3=o3)∧q3=q3)∧u3=u3)∧v3=v3)∧w3=w3)∧x3=x3)∧y3=y3)∧z3=z3)∧a4=a4)∧b4=b4))∧a2)∧W.nBits=W.nBits∧(∀c4:Nat,c4<W.nBits→True∧W.bits c4=W.bits c4))∧g2)∧l2)∧W.nTlbs=W.nTlbs∧(∀d4:Nat,let e4:=W.tlbsN d4;d4<W.nTlbs→True∧e4=e4∧(∀g4:Nat,let h4:=W.tlbs d4 g4;let k4:=h4.sp;let l4:=h4.pg;let o4:=h4.fr;let q4:=h4.wr;g4<e4→(((True∧k4=k4)∧l4=l4)∧o4=o4)∧q4=q4)))∧W.nDoms=W.nDoms∧(∀u4:Nat,u4<W.nDoms→True∧W.doms u4=W.doms u4))∧W.time=W.time;let v4:=z0=z0;let w4:=a1=a1;let x4:=b1=b1;let y4:=c1=c1;let z4:=d1=d1;let a5:=e1=e1;let b5:=g1=g1;let c5:=k1=k1;let d5:=l1=l1;let e5:=o1=o1;let g5:=q1=q1;let h5:=u1=u1;let k5:=v2∧((((((((((((((((((((True∧l0=l0)∧o0=o0)∧q0=q0)∧u0=u0)∧v0=v0)∧w0=w0)∧x0=x0)∧y0=y0)∧v4)∧w4)∧x4)∧y4)∧z4)∧a5)∧b5)∧c5)∧d5)∧e5)∧g5)∧h5)∧True;let l5:=[l0,o0,q0,u0,v0,w0,x0,y0];
    let o5:=(65535:Int)=65535∧True;let q5:=false=v1∧True;let u5:=farB z0 65535;let v5:=cond u5 true (farB k1 65535);let w5:=cond v5 true (farB l1 65535);let x5:=cond w5 true (farB a1 6);let y5:=(3:Int)=3∧True;let z5:=cond x5 true (farB b1 3);let a6:=z5=false;let b6:Int:=(e2:Int)-1;let c6:=cond z5 true (farB q1 b6);let d6:=cond c6 true (farB u1 3);let e6:=c1 !=(-1);let g6:=d1 !=(-1);let h6:=cond e6 (kof W c1 !=5) false;let k6:=e1 !=(-1);let l6:=cond h6 true (cond g6 (kof W d1 !=4) false);let o6:=o1 !=(-1);let q6:=o6=true;let u6:=cond l6 true (cond k6 (kof W e1 !=7) false);let v6:=cond u6 true (cond o6 (kof W o1 !=6) false);let w6:=a1==4;let x6:=cond o6 (cond ((W.tasks (Int.toNat o1)).st !=5) true w6) false;let y6:=(g0:Int);let z6:=a1 !=5;let a7:=a1==5;let b7:=f=f∧True;let c7:Int:=((cntLL k2 W.readyN W.ready f:Nat):Int)+((cntLL 1 (fun d7:Nat=>e2) (fun e7:Nat=>W.cores) f:Nat):Int);let g7:=a1==2;let h7:=((stands W g0:Nat):Int);let k7:=((cntLL z1 W.linesN W.lines f:Nat):Int)=h7;let l7:=((turnsN W g0:Nat):Int);let o7:=c7=l7;let q7:=a1==3;let u7:=g7||q7||w6;let v7:=l7==0;let w7:=cond (h7==1) v7 false;let x7:=w7=true;let y7:=(v2∧b5∧True)∧c0;let z7:=kof W g1;let a8:=cond w7 (z7==7) false;let b8:=a8=true;let c8:=0≤g1∧g1<(z1:Int);let d8:=Int.toNat g1;let e8:=W.linesN d8;let g8:=(f=f∧(e8=e8∧(∀h8:Nat,h8<e8→True∧W.lines d8 h8=W.lines d8 h8))∧True)∧c0;let k8:=inB' e8 (W.lines d8) f;let l8:=a1==6;let o8:=cond w7 (z7==8) false;let q8:=o8=true;let r8:=a1==1;let u8:=h7==0;True∧(0≤f∧f<b0)∧True∧
    tn 17 d0∧(0≤f∧f<(e0:Int))∧(h0=true→True∧d0∧(l0==0&&(o0==0&&(q0==0&&(u0==0&&(v0==0&&(w0==0&&(x0==0&&(y0==0&&true)))))))&&(z0==0&&(a1==0&&(b1==0&&(c1==(-1)&&(d1==(-1)&&(e1==(-1)&&(h1&&(k1==0&&(l1==0&&(o1==(-1)&&(q1==0&&(u1==0&&true)))))))))))))=v1∧True)∧(h0=false→w1∧x1∧0=((0:Nat):Int)∧k5∧(0≤8∧(∀v8:Nat,v8<0→farB (List.getD l5 v8 0) 65535=false))∧(∀w8:Nat,let x8:=(w8:Int);let y8:=decide (x8<8);let z8:=List.getD l5 (Int.toNat x8) 0;let a9:=farB z8 65535;let b9:Int:=x8+1;w8≤8∧(∀c9:Nat,c9<w8→farB (List.getD l5 c9 0) 65535=false)→(y8=true→(0≤x8∧x8<((8:Nat):Int))∧((z8=z8∧o5)∧c0)∧(a9=true→q5)∧(a9=false→w64 b9=b9∧(∃d9:Nat,w1∧x1∧b9=(d9:Int)∧k5∧(d9≤8∧(∀e9:Nat,e9<d9→farB (List.getD l5 e9 0) 65535=false))∧8-d9<8-w8)))∧(y8=false→((v4∧o5)∧c0)∧(u5=false→(c5∧o5)∧c0)∧(v5=false→(d5∧o5)∧c0)∧(w5=false→(w4∧(6:Int)=6∧True)∧c0)∧(x5=false→(x4∧y5)∧c0)∧(a6→w64 b6=b6)∧(a6→(g5∧b6=b6∧True)∧c0)∧(c6=false→(h5∧y5)∧c0)∧(d6=true→q5)∧(d6=false→(e6=true→(v2∧y4∧True)∧c0)∧(g6=true→h6=false→(v2∧z4∧True)∧c0)∧(k6=true→l6=false→(v2∧a5∧True)∧c0)∧(q6→u6=false→(v2∧e5∧True)∧c0)∧(v6=true→q5)∧(v6=false→(q6→0≤o1∧o1<b0)∧(x6=true→q5)∧(x6=false→w1∧x1∧0=((0:Nat):Int)∧0=((cntB 0 (fun g9:Nat=>(W.tasks g9).owes==y6):Nat):Int)∧k5∧0≤a0∧(∀h9:Nat,let k9:=(h9:Int);let l9:=decide (k9<b0);let o9:=(W.tasks (Int.toNat k9)).owes==f;let q9:=((cntB h9 (fun r9:Nat=>(W.tasks r9).owes==y6):Nat):Int);let u9:Int:=q9+1;let v9:Int:=k9+1;let w9:=w64 v9=v9;let x9:=cond (cond (decide (1<q9)) true (cond (q9==1) z6 false)) true (cond (q9==0) a7 false);
    h9≤a0→b0≤9223372036854775807→(l9=true→(0≤k9∧k9<b0)∧(o9=true→w64 u9=u9∧w9∧(∃y9:Nat,w1∧x1∧v9=(y9:Int)∧u9=((cntB y9 (fun z9:Nat=>(W.tasks z9).owes==y6):Nat):Int)∧k5∧y9≤a0∧a0-y9<a0-h9))∧(o9=false→w9∧(∃a10:Nat,w1∧x1∧v9=(a10:Int)∧q9=((cntB a10 (fun b10:Nat=>(W.tasks b10).owes==y6):Nat):Int)∧k5∧a10≤a0∧a0-a10<a0-h9)))∧(l9=false→(x9=true→q5)∧(x9=false→((a2∧b7)∧True∧z1≤1000∧(∀c10:Nat,c10<z1→W.linesN c10≤1000))∧tn 3 (((l2∧b7)∧True∧k2≤1000∧(∀d10:Nat,d10<k2→W.readyN d10≤1000))∧tn 4 ((((1=1∧(∀e10:Nat,e10<1→True∧g2))∧b7)∧True∧1≤1000∧(∀g10:Nat,g10<1→e2≤1000))∧w64 c7=c7∧((g7=true→w1∧x1∧k7∧o7∧w4∧g7=g7∧k5∧g7=u7)∧(g7=false→(q7=true→w1∧x1∧k7∧o7∧w4∧q7=q7∧k5∧q7=u7)∧(q7=false→w1∧x1∧k7∧o7∧w4∧w6=w6∧k5∧w6=u7)))∧(∀h10:Bo,h10.b=u7→(h10.b=true→(x7→y7)∧(b8→c8)∧(b8→g8)∧cond a8 k8 false=v1∧True)∧(h10.b=false→(l8=true→(x7→y7)∧(q8→c8)∧(q8→g8)∧cond o8 k8 false=v1∧True)∧(l8=false→(r8=true→cond (cond u8 (l7==1) false) h1 false=v1∧True)∧(r8=false→cond (cond u8 v7 false) h1 false=v1∧True)))))))))))))))
set_option maxHeartbeats 1000000 in
theorem ok_taskWell : FnOK Tryz.prog glN 170 c_taskWell := ok_of (.cons ok_far (.cons ok_inL (.cons ok_blank (.cons ok_kindOf (.cons ok_howOften .nil))))) false Tryz.call170 Tryz.func170 (fun ⟨W, f⟩ => [.inv (an_tw1 W f.toNat), .inv (an_tw2 W f.toNat), .cut 29 (cut_tw W f.toNat)]) (V := V_taskWell) (fun _ => by kernel_rfl) fun ⟨W, f⟩ hp => by
  dsimp only [s_taskWell] at hp
  dsimp only [V_taskWell, tn, w64]
  obtain ⟨hz, hm, f0, f1⟩ := hp
  obtain ⟨F, rfl⟩ : ∃ F : Nat, f = F := ⟨f.toNat, by omega⟩
  simp only [std, stb, eq_self, implies_true, Bool.cond_self]
  have hz1 := hz.tasks
  have hz2 := hz.k1
  have hz3 := hz.lines
  have hz4 := hz.c1
  have hz5 := hz.c0
  have hz6 := hz.ready
  refine ⟨by omega, by omega, fun h => ?_, fun h => ?_⟩
  · unfold tkB; rw [h]; rfl
  have core := tkB_pos h
  intro s hs
  refine ⟨fun h1 => ?_, fun h1 => ?_⟩
  · have hlt : s < 8 := by have := of_decide_eq_true h1; omega
    refine ⟨by omega, fun h2 => eqF fun ht => ?_, fun h2 => ⟨by rw [IntKind.wrap_i64]; omega, exS ⟨⟨by omega, snocF (p := fun j => farB (sel [(W.tasks F).r0, (W.tasks F).r1, (W.tasks F).r2, (W.tasks F).r3, (W.tasks F).r4, (W.tasks F).r5, (W.tasks F).r6, (W.tasks F).r7] j) 65535) hs.2 h2⟩, by omega⟩⟩⟩
    rw [core] at ht
    have hq : regFar (W.tasks F) = false := by revert ht; cases regFar (W.tasks F) <;> simp
    have := reg_to hq s hlt
    exact Bool.false_ne_true (this.symm.trans h2)
  have hs8 : s = 8 := by have := of_decide_eq_false h1; omega
  have hreg : regFar (W.tasks F) = false := reg_of fun j hj => hs.2 j (by omega)
  rw [hreg] at core
  have e1 : (farB (W.tasks F).pc 65535 || farB (W.tasks F).word 65535 || farB (W.tasks F).badge 65535 || farB (W.tasks F).st 6 || farB (W.tasks F).prio 3 || farB (W.tasks F).core (W.nCores - 1) || farB (W.tasks F).dom 3) = numFar W (W.tasks F) := rfl
  have e2 : ((W.tasks F).node != -1 && kof W (W.tasks F).node != 5 || (W.tasks F).space != -1 && kof W (W.tasks F).space != 4 || (W.tasks F).helper != -1 && kof W (W.tasks F).helper != 7 || (W.tasks F).owes != -1 && kof W (W.tasks F).owes != 6) = !refOK W (W.tasks F) := by
    unfold refOK okF; simp only [bne, Bool.not_and, Bool.not_or]
  have e3 : ((W.tasks F).owes != -1 && ((W.tasks (W.tasks F).owes.toNat).st != 5 || (W.tasks F).st == 4)) = !owesOK W (W.tasks F) := by
    unfold owesOK; simp only [bne, Bool.not_and, Bool.not_or, Bool.not_not]
  rw [e1, e2, e3]
  refine ⟨fun _ => by rw [IntKind.wrap_i64]; omega, fun h2 => ?_, fun h2 => ?_⟩
  · rw [core, h2]; rfl
  rw [h2] at core
  refine ⟨fun h3 => ?_, fun h3 => ?_⟩
  · rw [core, show refOK W (W.tasks F) = false by revert h3; cases refOK W (W.tasks F) <;> simp]; rfl
  have href : refOK W (W.tasks F) = true := by revert h3; cases refOK W (W.tasks F) <;> simp
  rw [href] at core
  refine ⟨fun h4 => ?_, fun h4 => ?_, fun h4 => ?_⟩
  · have : okF W (W.tasks F).owes 6 = true := by unfold refOK at href; simp only [Bool.and_eq_true] at href; exact href.2
    have := okF_in (by decide) this h4
    omega
  · rw [core, show owesOK W (W.tasks F) = false by revert h4; cases owesOK W (W.tasks F) <;> simp]; rfl
  rw [show owesOK W (W.tasks F) = true by revert h4; cases owesOK W (W.tasks F) <;> simp] at core
  refine ⟨rfl, fun s hs _ => ⟨fun h5 => ?_, fun h5 => ?_⟩⟩
  · have hlt := lt_of_dec h5
    have hb := cntB_le (fun k => (W.tasks k).owes == F) s
    refine ⟨by omega, fun h6 => ?_, fun h6 => ?_⟩
    · exact ⟨by rw [IntKind.wrap_i64]; omega, by rw [IntKind.wrap_i64]; omega, exS ⟨by simp [cntB, h6], by omega, by omega⟩⟩
    · exact ⟨by rw [IntKind.wrap_i64]; omega, exS ⟨by simp [cntB, h6], by omega, by omega⟩⟩
  have hge := ge_of_dec h5
  obtain rfl : s = W.nTasks := by omega
  rw [show (decide (1 < ((cntB W.nTasks fun k => (W.tasks k).owes == F : Nat) : Int)) || (((cntB W.nTasks fun k => (W.tasks k).owes == F : Nat) : Int) == 1 && (W.tasks F).st != 5) || (((cntB W.nTasks fun k => (W.tasks k).owes == F : Nat) : Int) == 0 && (W.tasks F).st == 5)) = !owedOK W F from owed_eq (W := W) (f := F) rfl]
  refine ⟨fun h6 => ?_, fun h6 => ?_⟩
  · rw [core, show owedOK W F = false by revert h6; cases owedOK W F <;> simp]; rfl
  rw [show owedOK W F = true by revert h6; cases owedOK W F <;> simp] at core
  have core : tkB W F = stOK W F := by rw [core]; rfl
  rw [cnt1]
  have b1 : cntLL W.nReady W.readyN W.ready F ≤ W.nReady * 50 := sumN_le fun i hi => Nat.le_trans (cntB_le _ _) (hm.2.1 i hi)
  have b2 : cntL W.nCores W.cores F ≤ W.nCores := cntB_le _ _
  have et : ((cntLL W.nReady W.readyN W.ready F : Nat) : Int) + ((cntL W.nCores W.cores F : Nat) : Int) = (turnsN W F : Nat) := by unfold turnsN; omega
  rw [et]
  refine ⟨⟨by omega, fun i hi => Nat.le_trans (hm.1 i hi) (by omega)⟩, ⟨by omega, fun i hi => Nat.le_trans (hm.2.1 i hi) (by omega)⟩, ⟨by omega, fun _ _ => by omega⟩, by rw [IntKind.wrap_i64]; unfold turnsN; omega, ?_, ?_⟩
  · refine ⟨fun h => ⟨rfl, rfl, by rw [h]; rfl⟩, fun h => ⟨fun h7 => ⟨rfl, rfl, by rw [h, h7]; rfl⟩, fun h7 => ⟨rfl, rfl, by rw [h, h7]; rfl⟩⟩⟩
  rintro ⟨b⟩ hb
  have hb : b = ((W.tasks F).st == 2 || (W.tasks F).st == 3 || (W.tasks F).st == 4) := hb
  simp only [castE0, castE1]
  have hl : ∀ k : Int, k ≠ -1 → ((stands W F == 1) && (turnsN W F == 0) && kof W (W.tasks F).loc == k) = true → 0 ≤ (W.tasks F).loc ∧ (W.tasks F).loc < W.nLines := fun k hk h => by
    simp only [Bool.and_eq_true, beq_iff_eq] at h
    rw [hz3]
    exact kof_in (by rw [h.2]; exact hk)
  refine ⟨fun h7 => ⟨hl 7 (by decide), ?_⟩, fun h7 => ⟨fun h8 => ⟨hl 8 (by decide), ?_⟩, fun h8 => ⟨fun h9 => ?_, fun h9 => ?_⟩⟩⟩
  · have h7 : b = true := h7
    rw [core]; simp only [stOK]; rw [← hb, h7]; rfl
  · have h7 : b = false := h7
    rw [core]; simp only [stOK]; rw [← hb, h7, h8]; rfl
  · have h7 : b = false := h7
    rw [core]; simp only [stOK]; rw [← hb, h7, h8, h9]; rfl
  · have h7 : b = false := h7
    rw [core]; simp only [stOK]; rw [← hb, h7, h8, h9]; rfl
end Go.Proofs.YtdjilaofmdhikaaGreatDoor
