/- A part of the proof. -/
import Derived.Test.YtfmaeiilbhpepaaDoorAs6
import Derived.Test.YtfmaeiilbhpepaaDoorEv12
set_option linter.unusedVariables false
set_option linter.unusedSimpArgs false
namespace Go.Proofs.YtfmaeiilbhpepaaDoor
open Go.RowKit Go.Ev
/-- What the variables hold that the texts read. -/
def E.glob : Nat → SV
  | 2 => .pt 1 fun _ => .v A.eTy
  | _ => .junk
def E.tell : Spc
  | [x] => match asEr 22 25 x with
    | some (p, e, a) => some (p, .tp 2 (lsv [.v (.int .i64 e), .v (.int .i64 a)]))
    | none => none
  | _ => none
theorem E.tell_fn {Gl : Nat → SV} (hG : Gl 2 = .pt 1 fun _ => .v A.eTy) (e a : Int) : PureFn Tryd.prog Gl 14 [.er 22 25 e a] (.tp 2 (lsv [.v (.int .i64 e), .v (.int .i64 a)])) := by
  intro w B vs hg hl hd
  obtain ⟨u, rfl⟩ : ∃ u, vs = #[u] := by
    have := hd.len
    match vs, this with
    | ⟨[u]⟩, _ => exact ⟨u, rfl⟩
  have h2 := hg 2
  rw [hG] at h2
  obtain ⟨p, hp, hj⟩ := h2
  obtain ⟨x, hc, hf, hx⟩ := hj 0 (by omega)
  cases hp
  obtain rfl := hx
  have hg2 : w.cell? ⟨2, 0, none⟩ = some A.eTy := hc
  have hr : ∀ w', Den w' B [] (.tp 2 (lsv [.v (.int .i64 e), .v (.int .i64 a)])) (.tuple #[.int .i64 e, .int .i64 a]) := fun w' => ⟨_, rfl, rfl, fun j hj => match j, hj with
    | 0, _ => ⟨_, rfl, rfl⟩
    | 1, _ => ⟨_, rfl, rfl⟩⟩
  rcases hd.1 with ⟨rfl, rfl, h⟩ | ⟨_, rfl, h⟩ | ⟨_, h0, q, h, hf, c0, c1⟩
  · rw [h]
    refine (A.tell_nil w).mono ?_
    rintro ev w' ⟨rfl, rfl⟩
    exact ⟨_, rfl, hr _, Below.refl _ _⟩
  · rw [h]
    refine (A.tell_e e w hg2).mono ?_
    rintro ev w' ⟨rfl, hb⟩
    exact ⟨_, rfl, hr _, hb⟩
  · rw [h]
    have c0 : w.cell? q = some (.int .i64 a) := c0
    have c1 : w.cell? ⟨q.block, q.off + 1, none⟩ = some (.iface 22 (.int .i64 e)) := c1
    refine (A.tell_f q a e w hg2 c0 c1).mono ?_
    rintro ev w' ⟨rfl, hb⟩
    exact ⟨_, rfl, hr _, hb⟩
theorem E.tell_ok {Gl : Nat → SV} (hG : Gl 2 = .pt 1 fun _ => .v A.eTy) : FnOK Tryd.prog Gl 14 E.tell := by
  refine ⟨fun l w => Tryd.call14 l w, ?_⟩
  intro args pre res h hp
  unfold E.tell at h
  split at h
  · split at h
    · next p e a he =>
      simp only [Option.some.injEq, Prod.mk.injEq] at h
      obtain ⟨h1, h2⟩ := h
      subst h2
      exact (E.tell_fn hG e a).args ⟨asEr_leq he (by rw [h1]; exact hp), trivial⟩
    · cases h
  · cases h
end Go.Proofs.YtfmaeiilbhpepaaDoor
