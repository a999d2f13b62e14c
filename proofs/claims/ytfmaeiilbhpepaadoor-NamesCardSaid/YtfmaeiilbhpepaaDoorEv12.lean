/-
  Ev, part 12: what stands for an error.
-/
import Derived.Test.YtfmaeiilbhpepaaDoorEv11
set_option linter.unusedVariables false
set_option linter.unusedSimpArgs false
namespace Go.Ev
open Go.RowKit
def intOf : SV → Option Int
  | .v (.int .i64 a) => some a
  | _ => none
/-- The number of an error without a place. -/
def asNo (t : Nat) : SV → Option (Prop × Int)
  | .v (.iface t' (.int .i64 c)) => match Nat.beq t' t with | true => some (c ≠ 0, c) | false => none
  | .er t' _ e a => match Nat.beq t' t with | true => some (e ≠ 0 ∧ a = -1, e) | false => none
  | _ => none
/-- Whether it stands for an error, and for which. -/
def asEr (t tf : Nat) : SV → Option (Prop × Int × Int)
  | .v .nilIface => some (True, 0, -1)
  | .v (.iface t' (.int .i64 c)) => match Nat.beq t' t with | true => some (c ≠ 0, c, -1) | false => none
  | .er t' tf' e a => match Nat.beq t' t, Nat.beq tf' tf with | true, true => some (True, e, a) | _, _ => none
  | .ic t' (.pt (_ + 2) f) => match Nat.beq t' tf, intOf (f 0), asNo t (f 1) with
    | true, some a, some (p, c) => some (p ∧ 0 ≤ a, c, a)
    | _, _, _ => none
  | _ => none
theorem intOf_eq {s : SV} {a : Int} (h : intOf s = some a) : s = .v (.int .i64 a) := by
  unfold intOf at h
  split at h
  · simp only [Option.some.injEq] at h; rw [h]
  · cases h
theorem asNo_den {t : Nat} {s : SV} {p : Prop} {c : Int} (h : asNo t s = some (p, c)) (hp : p) {w : World} {A : Nat → Prop} {u : Value} (hd : Den w A [] s u) : c ≠ 0 ∧ u = .iface t (.int .i64 c) := by
  unfold asNo at h
  split at h
  · split at h
    · next hb =>
      simp only [Option.some.injEq, Prod.mk.injEq] at h
      obtain ⟨h1, h2⟩ := h
      subst h2; rw [← h1] at hp
      obtain rfl := Nat.eq_of_beq_eq_true hb
      exact ⟨hp, hd⟩
    · cases h
  · split at h
    · next hb =>
      simp only [Option.some.injEq, Prod.mk.injEq] at h
      obtain ⟨h1, h2⟩ := h
      subst h2; rw [← h1] at hp
      obtain rfl := Nat.eq_of_beq_eq_true hb
      obtain ⟨he, ha⟩ := hp
      rcases hd with ⟨h, _⟩ | ⟨_, _, h⟩ | ⟨_, h, _⟩
      · exact absurd h he
      · exact ⟨he, h⟩
      · omega
    · cases h
  · cases h
theorem asEr_leq {t tf : Nat} {s : SV} {p : Prop} {e a : Int} (h : asEr t tf s = some (p, e, a)) (hp : p) : leq s (.er t tf e a) := by
  unfold asEr at h
  split at h
  · simp only [Option.some.injEq, Prod.mk.injEq] at h
    obtain ⟨_, h2, h3⟩ := h
    exact leq_nil_er h2.symm h3.symm
  · split at h
    · next hb =>
      simp only [Option.some.injEq, Prod.mk.injEq] at h
      obtain ⟨h1, h2, h3⟩ := h
      obtain rfl := Nat.eq_of_beq_eq_true hb
      exact leq_er (by rw [h1]; exact hp) h2.symm h3.symm
    · cases h
  · split at h
    · next hb hb2 =>
      simp only [Option.some.injEq, Prod.mk.injEq] at h
      obtain ⟨h1, h2, h3⟩ := h
      obtain rfl := Nat.eq_of_beq_eq_true hb
      obtain rfl := Nat.eq_of_beq_eq_true hb2
      exact leq_er_er h2 h3
    · cases h
  · split at h
    · next a' p' c' hb hi hn =>
      simp only [Option.some.injEq, Prod.mk.injEq] at h
      obtain ⟨h1, h2, h3⟩ := h
      rw [← h1] at hp
      obtain rfl := Nat.eq_of_beq_eq_true hb
      subst h2; subst h3
      intro w A u hd
      obtain ⟨x, rfl, q, rfl, hj⟩ := hd
      obtain ⟨x0, c0, n0, d0⟩ := hj 0 (by omega)
      obtain ⟨x1, c1, _, d1⟩ := hj 1 (by omega)
      rw [intOf_eq hi] at d0
      obtain rfl := d0
      obtain ⟨hc, rfl⟩ := asNo_den hn hp.1 d1
      exact .inr (.inr ⟨hc, hp.2, q, rfl, n0, c0, c1⟩)
    · cases h
  · cases h
end Go.Ev
