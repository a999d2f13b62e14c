/-
  Ev, part 1: symbolic values; what they stand for in a world; that they stand for it in a later world too.
-/
import Derived.WalkKit
import Derived.Deep.Quiet
import Derived.Lib.Hide
set_option linter.unusedVariables false
set_option linter.unusedSimpArgs false
namespace Go.Ev
open Go.RowKit

/-- A symbolic value. 'lp': an address in a block of the frame's own; 'pt': an address of cells that are only read; 'sl': a slice that is only read; 'er': an error: nil, a number, or a number at a place. -/
inductive SV where
  | junk
  | v (x : Value)
  | bl (b : Bool)
  | lp (k off : Nat)
  | pt (n : Nat) (f : Nat → SV)
  | sl (sz n : Nat) (f : Nat → Nat → SV)
  | ag (n : Nat) (f : Nat → SV)
  | tp (n : Nat) (f : Nat → SV)
  | fn (id n : Nat) (f : Nat → SV)
  | ic (t : Nat) (s : SV)
  | er (t tf : Nat) (e at_ : Int)
instance : Inhabited SV := ⟨.junk⟩
/-- Cells told one by one. -/
def lsv (l : List SV) : Nat → SV := fun j => l.getD j .junk
/-- The first 'n' of them, written out. -/
def out (n : Nat) (f : Nat → SV) : Nat → SV := lsv ((List.range n).map f)
theorem out_eq {n : Nat} {f : Nat → SV} {j : Nat} (h : j < n) : out n f j = f j := by
  simp [out, lsv, List.getD_eq_getElem?_getD, h]

def ErrAt (w : World) (A : Nat → Prop) (t tf : Nat) (e at_ : Int) (u : Value) : Prop :=
  (e = 0 ∧ at_ = -1 ∧ u = .nilIface) ∨ (e ≠ 0 ∧ at_ = -1 ∧ u = .iface t (.int .i64 e)) ∨
  (e ≠ 0 ∧ 0 ≤ at_ ∧ ∃ a, u = .iface tf (.pointer (some a)) ∧ ¬ A a.block ∧ w.cell? (a.add 0) = some (.int .i64 at_) ∧ w.cell? (a.add 1) = some (.iface t (.int .i64 e)))

/-- 'A': the blocks that are somebody's own. 'β': the frame's own ones, by their numbers in the frame. -/
def Den (w : World) (A : Nat → Prop) (β : List Nat) : SV → Value → Prop
  | .junk, _ => True
  | .v x, u => u = x
  | .bl b, u => u = .bool b
  | .lp k off, u => ∃ b, β[k]? = some b ∧ u = .pointer (some ⟨b, off, none⟩)
  | .pt n f, u => ∃ a, u = .pointer (some a) ∧ ∀ j, j < n → ∃ x, w.cell? (a.add j) = some x ∧ ¬ A a.block ∧ Den w A [] (f j) x
  | .sl sz n f, u => ∃ p cap, u = .slice p n cap ∧ n ≤ cap ∧ (n = 0 ∨ ∃ a, p = some a ∧ ∀ i, i < n → ∀ j, j < sz → ∃ x, w.cell? (a.add (i * sz + j)) = some x ∧ ¬ A a.block ∧ Den w A [] (f i j) x)
  | .ag n f, u => ∃ cs, u = .agg cs ∧ cs.size = n ∧ ∀ j, j < n → ∃ x, cs[j]? = some x ∧ Den w A β (f j) x
  | .tp n f, u => ∃ cs, u = .tuple cs ∧ cs.size = n ∧ ∀ j, j < n → ∃ x, cs[j]? = some x ∧ Den w A β (f j) x
  | .fn id n f, u => ∃ cs, u = .func (.func id) #[] cs ∧ cs.size = n ∧ ∀ j, j < n → ∃ x, cs[j]? = some x ∧ Den w A β (f j) x
  | .ic t s, u => ∃ x, u = .iface t x ∧ Den w A β s x
  | .er t tf e at_, u => ErrAt w A t tf e at_ u

/-- Blocks that are nobody's own read alike. -/
def Same (A : Nat → Prop) (w w' : World) : Prop := ∀ b, b < w.heap.size → ¬ A b → w'.heap[b]? = w.heap[b]?

theorem cell_lt {w : World} {a : Addr} {x : Value} (h : w.cell? a = some x) : a.block < w.heap.size := by
  rcases Nat.lt_or_ge a.block w.heap.size with h' | h'
  · exact h'
  · simp [World.cell?, Array.getElem?_eq_none h'] at h
theorem add_block (a : Addr) (n : Nat) : (a.add n).block = a.block := by unfold Addr.add; split <;> rfl
theorem add_add (a : Addr) (n m : Nat) : (a.add n).add m = a.add (n + m) := by
  unfold Addr.add
  by_cases h : n = 0
  · subst h; simp
  · by_cases h2 : m = 0
    · subst h2; simp [h]
    · simp only [h, h2, if_false]
      rw [if_neg (by omega)]
      simp only [Nat.add_assoc]
theorem add_mk (b o n : Nat) : (⟨b, o, none⟩ : Addr).add n = ⟨b, o + n, none⟩ := by
  unfold Addr.add; split
  · next h => subst h; rfl
  · rfl
theorem Same.cell {A : Nat → Prop} {w w' : World} (h : Same A w w') {a : Addr} {x : Value} (hf : ¬ A a.block) (hc : w.cell? a = some x) : w'.cell? a = some x := by
  have := h a.block (cell_lt hc) hf
  unfold World.cell? at *
  rw [this]; exact hc

/-- What was free stays free, and reads alike. -/
structure Later (A : Nat → Prop) (w : World) (A' : Nat → Prop) (w' : World) : Prop where
  same : Same A w w'
  free : ∀ b, b < w.heap.size → ¬ A b → ¬ A' b
/-- The own blocks keep their numbers. -/
def Keeps (β β' : List Nat) : Prop := ∀ (k b : Nat), β[k]? = some b → β'[k]? = some b
theorem Keeps.refl (β : List Nat) : Keeps β β := fun _ _ h => h
theorem Keeps.append (β γ : List Nat) : Keeps β (β ++ γ) := fun k b h => by
  have : k < β.length := (List.getElem?_eq_some_iff.1 h).1
  rw [List.getElem?_append_left this]; exact h

theorem Den.later {A A' : Nat → Prop} {β β' : List Nat} {w w' : World} (h : Later A w A' w') (hb : Keeps β β') {s : SV} {u : Value} (hd : Den w A β s u) : Den w' A' β' s u := by
  induction s generalizing β β' u with
  | junk => trivial
  | v x => exact hd
  | bl b => exact hd
  | lp k off => obtain ⟨b, h1, h2⟩ := hd; exact ⟨b, hb _ _ h1, h2⟩
  | pt n f ih =>
    obtain ⟨a, rfl, hj⟩ := hd
    refine ⟨a, rfl, fun j hjn => ?_⟩
    obtain ⟨x, hc, hf, hx⟩ := hj j hjn
    have hlt := cell_lt hc
    rw [add_block] at hlt
    exact ⟨x, h.same.cell (by rw [add_block]; exact hf) hc, h.free _ hlt hf, ih j (Keeps.refl _) hx⟩
  | sl sz n f ih =>
    obtain ⟨p, cap, rfl, hcap, hj⟩ := hd
    refine ⟨p, cap, rfl, hcap, hj.imp id ?_⟩
    intro hk
    obtain ⟨a, e, hk⟩ := hk
    refine ⟨a, e, fun i hi j hjn => ?_⟩
    obtain ⟨x, hc, hf, hx⟩ := hk i hi j hjn
    have hlt := cell_lt hc
    rw [add_block] at hlt
    exact ⟨x, h.same.cell (by rw [add_block]; exact hf) hc, h.free _ hlt hf, ih i j (Keeps.refl _) hx⟩
  | ag n f ih =>
    obtain ⟨cs, rfl, hs, hj⟩ := hd
    exact ⟨cs, rfl, hs, fun j hjn => let ⟨x, h1, h2⟩ := hj j hjn; ⟨x, h1, ih j hb h2⟩⟩
  | tp n f ih =>
    obtain ⟨cs, rfl, hs, hj⟩ := hd
    exact ⟨cs, rfl, hs, fun j hjn => let ⟨x, h1, h2⟩ := hj j hjn; ⟨x, h1, ih j hb h2⟩⟩
  | fn id n f ih =>
    obtain ⟨cs, rfl, hs, hj⟩ := hd
    exact ⟨cs, rfl, hs, fun j hjn => let ⟨x, h1, h2⟩ := hj j hjn; ⟨x, h1, ih j hb h2⟩⟩
  | ic t s ih =>
    obtain ⟨x, rfl, hx⟩ := hd
    exact ⟨x, rfl, ih hb hx⟩
  | er t tf e at_ =>
    rcases hd with hd | hd | ⟨h1, h2, a, rfl, hf, hc0, hc1⟩
    · exact .inl hd
    · exact .inr (.inl hd)
    · have hlt := cell_lt hc0
      rw [add_block] at hlt
      exact .inr (.inr ⟨h1, h2, a, rfl, h.free _ hlt hf, h.same.cell (by rw [add_block]; exact hf) hc0, h.same.cell (by rw [add_block]; exact hf) hc1⟩)

theorem Den.up {A : Nat → Prop} {β : List Nat} {w : World} {s : SV} {u : Value} (hd : Den w A [] s u) : Den w A β s u :=
  hd.later ⟨fun _ _ _ => rfl, fun _ _ h => h⟩ (fun k b h => by simp at h)

/-- Lists of values. -/
def DenL (w : World) (A : Nat → Prop) (β : List Nat) : List SV → List Value → Prop
  | [], [] => True
  | s :: r, u :: t => Den w A β s u ∧ DenL w A β r t
  | _, _ => False
theorem DenL.later {A A' : Nat → Prop} {β β' : List Nat} {w w' : World} (h : Later A w A' w') (hb : Keeps β β') : ∀ {F : List SV} {l : List Value}, DenL w A β F l → DenL w' A' β' F l
  | [], [], _ => trivial
  | _ :: _, _ :: _, ⟨h1, h2⟩ => ⟨h1.later h hb, DenL.later h hb h2⟩
  | [], _ :: _, hd => hd.elim
  | _ :: _, [], hd => hd.elim
theorem DenL.len {w : World} {A : Nat → Prop} {β : List Nat} : ∀ {F : List SV} {l : List Value}, DenL w A β F l → F.length = l.length
  | [], [], _ => rfl
  | _ :: _, _ :: _, ⟨_, h2⟩ => by simp [h2.len]
  | [], _ :: _, hd => hd.elim
  | _ :: _, [], hd => hd.elim
theorem DenL.get {w : World} {A : Nat → Prop} {β : List Nat} : ∀ {F : List SV} {l : List Value}, DenL w A β F l → ∀ (i : Nat) (d : Value), Den w A β (F.getD i .junk) (l.getD i d)
  | [], [], _, _, _ => by simp [Den]
  | _ :: _, _ :: _, ⟨h1, _⟩, 0, _ => by simpa using h1
  | _ :: _, _ :: _, ⟨_, h2⟩, i + 1, d => by simpa using h2.get i d
  | [], _ :: _, hd, _, _ => hd.elim
  | _ :: _, [], hd, _, _ => hd.elim
theorem DenL.get? {w : World} {A : Nat → Prop} {β : List Nat} : ∀ {F : List SV} {l : List Value}, DenL w A β F l → ∀ (i : Nat), i < F.length → ∃ x, l[i]? = some x ∧ Den w A β (F.getD i .junk) x
  | _ :: _, u :: _, ⟨h1, _⟩, 0, _ => ⟨u, by simp, by simpa using h1⟩
  | _ :: _, _ :: _, ⟨_, h2⟩, i + 1, hi => by simpa using h2.get? i (by simpa using hi)
  | [], [], _, _, hi => absurd hi (by simp)
  | [], _ :: _, hd, _, _ => hd.elim
  | _ :: _, [], hd, _, _ => hd.elim
theorem DenL.set {w : World} {A : Nat → Prop} {β : List Nat} {s : SV} {u : Value} (hs : Den w A β s u) : ∀ {F : List SV} {l : List Value}, DenL w A β F l → ∀ (i : Nat), DenL w A β (F.set i s) (l.set i u)
  | [], [], _, _ => by simp [DenL]
  | _ :: _, _ :: _, ⟨_, h2⟩, 0 => by simpa [DenL] using ⟨hs, h2⟩
  | _ :: _, _ :: _, ⟨h1, h2⟩, i + 1 => by simpa [DenL] using ⟨h1, h2.set hs i⟩
  | [], _ :: _, hd, _ => hd.elim
  | _ :: _, [], hd, _ => hd.elim
theorem DenL.mk {w : World} {A : Nat → Prop} {β : List Nat} : ∀ {F : List SV} {l : List Value}, F.length = l.length → (∀ i, i < F.length → ∃ x, l[i]? = some x ∧ Den w A β (F.getD i .junk) x) → DenL w A β F l
  | [], [], _, _ => trivial
  | s :: r, u :: t, hl, h => by
    refine ⟨?_, DenL.mk (by simpa using hl) fun i hi => ?_⟩
    · obtain ⟨x, h1, h2⟩ := h 0 (by simp)
      simp at h1 h2; subst h1; exact h2
    · obtain ⟨x, h1, h2⟩ := h (i + 1) (by simp; exact hi)
      exact ⟨x, by simpa using h1, by simpa using h2⟩
  | [], _ :: _, hl, _ => by simp at hl
  | _ :: _, [], hl, _ => by simp at hl
theorem DenL.append {w : World} {A : Nat → Prop} {β : List Nat} : ∀ {F G : List SV} {l m : List Value}, DenL w A β F l → DenL w A β G m → DenL w A β (F ++ G) (l ++ m)
  | [], _, [], _, _, h => by simpa using h
  | _ :: _, _, _ :: _, _, ⟨h1, h2⟩, h => ⟨h1, h2.append h⟩
  | [], _, _ :: _, _, hd, _ => hd.elim
  | _ :: _, _, [], _, hd, _ => hd.elim
theorem DenL.junks {w : World} {A : Nat → Prop} {β : List Nat} : ∀ (l : List Value), DenL w A β (List.replicate l.length .junk) l
  | [] => trivial
  | _ :: t => ⟨trivial, DenL.junks t⟩

/-- A frame: what was written to its slots, the newest first. -/
abbrev Fr := List (Nat × SV)
def look : Fr → Nat → SV
  | [], _ => .junk
  | p :: r, t => match Nat.beq p.1 t with | true => p.2 | false => look r t
theorem look_eq {d : Nat} {s : SV} {F : Fr} : look ((d, s) :: F) d = s := by
  simp [look]
theorem look_ne {d t : Nat} {s : SV} {F : Fr} (h : d ≠ t) : look ((d, s) :: F) t = look F t := by
  have : Nat.beq d t = false := by
    cases hb : Nat.beq d t
    · rfl
    · exact absurd (Nat.eq_of_beq_eq_true hb) h
  simp only [look, this]
structure FrOK (w : World) (A : Nat → Prop) (β : List Nat) (N : Nat) (F : Fr) (t : Array Value) : Prop where
  size : t.size = N
  den : ∀ (i : Nat) u, t[i]? = some u → Den w A β (look F i) u
  out : ∀ (i : Nat), N ≤ i → look F i = .junk
theorem FrOK.later {w w' : World} {A A' : Nat → Prop} {β β' : List Nat} {N : Nat} {F : Fr} {t : Array Value} (h : FrOK w A β N F t) (hl : Later A w A' w') (hb : Keeps β β') : FrOK w' A' β' N F t :=
  ⟨h.size, fun i u hu => (h.den i u hu).later hl hb, h.out⟩
theorem FrOK.get {w : World} {A : Nat → Prop} {β : List Nat} {N : Nat} {F : Fr} {t : Array Value} (h : FrOK w A β N F t) (i : Nat) : Den w A β (look F i) (t.getD i undef) := by
  rw [Array.getD_eq_getD_getElem?]
  cases hu : t[i]? with
  | none =>
    rw [h.out i (by rw [← h.size]; exact Array.getElem?_eq_none_iff.1 hu)]
    trivial
  | some u => exact h.den i u hu
def putF (N : Nat) (F : Fr) (d : Option Nat) (s : SV) : Fr :=
  match d with
  | some d => match Nat.blt d N with | true => (d, s) :: F | false => F
  | none => F
theorem FrOK.put {w : World} {A : Nat → Prop} {β : List Nat} {N : Nat} {F : Fr} {t : Array Value} (h : FrOK w A β N F t) {d : Nat} {s : SV} {v : Value} (hd : Den w A β s v) : FrOK w A β N (putF N F (some d) s) (t.setIfInBounds d v) := by
  cases hlt : Nat.blt d N with
  | true =>
    have e : putF N F (some d) s = (d, s) :: F := by simp only [putF, hlt]
    rw [e]
    have hlt : d < N := Nat.le_of_ble_eq_true hlt
    refine ⟨by simpa using h.size, fun i u hu => ?_, fun i hi => ?_⟩
    · by_cases hdi : d = i
      · subst hdi
        rw [look_eq]
        rw [Array.getElem?_setIfInBounds_self_of_lt (by rw [h.size]; exact hlt)] at hu
        obtain rfl := Option.some.inj hu
        exact hd
      · rw [look_ne hdi]
        rw [Array.getElem?_setIfInBounds_ne hdi] at hu
        exact h.den i u hu
    · rw [look_ne (by omega)]
      exact h.out i hi
  | false =>
    have hge : N ≤ d := by
      rcases Nat.lt_or_ge d N with h' | h'
      · exact absurd (Nat.ble_eq_true_of_le h') (by unfold Nat.blt at hlt; rw [hlt]; simp)
      · exact h'
    have e : t.setIfInBounds d v = t := by
      rw [Array.setIfInBounds_eq_of_size_le (by rw [h.size]; exact hge)]
    have e2 : putF N F (some d) s = F := by simp only [putF, hlt]
    rw [e, e2]; exact h
/-- What is known of a slot may be told better. -/
theorem FrOK.tell {w : World} {A : Nat → Prop} {β : List Nat} {N : Nat} {F : Fr} {t : Array Value} (h : FrOK w A β N F t) {d : Nat} {s : SV} (hlt : d < N) (hs : ∀ u, t[d]? = some u → Den w A β s u) : FrOK w A β N ((d, s) :: F) t := by
  refine ⟨h.size, fun i u hu => ?_, fun i hi => ?_⟩
  · by_cases hdi : d = i
    · subst hdi; rw [look_eq]; exact hs u hu
    · rw [look_ne hdi]; exact h.den i u hu
  · rw [look_ne (by omega)]; exact h.out i hi

/-- The frame's own blocks. -/
abbrev Mem := List (List SV)
structure RelM (w : World) (A : Nat → Prop) (β : List Nat) (M : Mem) : Prop where
  len : β.length = M.length
  nodup : β.Nodup
  own : ∀ b ∈ β, A b
  low : ∀ b, A b → b < w.heap.size
  cell : ∀ (k b : Nat) (cs : List SV), β[k]? = some b → M[k]? = some cs → ∃ (c : Array Value) (T : TypeId), w.heap[b]? = some (Obj.cells c T (0, 0)) ∧ DenL w A β cs c.toList
end Go.Ev
