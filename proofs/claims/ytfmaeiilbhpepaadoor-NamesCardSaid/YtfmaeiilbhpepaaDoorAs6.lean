/- A part of the proof. -/
import Derived.Test.YtfmaeiilbhpepaaDoorAs4
import Derived.Test.YtfmaeiilbhpepaaDoorAs5
set_option linter.unusedVariables false
set_option linter.unusedSimpArgs false
namespace Go.Proofs.YtfmaeiilbhpepaaDoor
open Go.RowKit Go.Ev
set_option linter.unusedVariables false
set_option linter.unusedSimpArgs false
/-- What a look for an error leaves: the target set; the rest as it was. -/
structure A.Set (w : World) (t : Addr) (v : Value) (w' : World) : Prop where
  at_ : w'.cell? t = some v
  free : w'.frozen? t = w.frozen? t
  size : w.heap.size ≤ w'.heap.size
  rest : ∀ a : Addr, a.block < w.heap.size → a.block ≠ t.block → w'.cell? a = w.cell? a ∧ w'.frozen? a = w.frozen? a
  below : ∀ B, B ≤ t.block → B ≤ w.heap.size → Below B w w'
theorem A.set_of {w : World} {t : Addr} {v old : Value} {o1 o2 o3 o4 : Obj} (h : w.cell? t = some old) : A.Set w t v (((((w.alloc o1).alloc o2).alloc o3).alloc o4).setCell t v) := by
  have hlt := cell_lt h
  have s1 : (w.alloc o1).heap.size = w.heap.size + 1 := by simp
  have s2 : ((w.alloc o1).alloc o2).heap.size = w.heap.size + 1 + 1 := by simp
  have s3 : (((w.alloc o1).alloc o2).alloc o3).heap.size = w.heap.size + 1 + 1 + 1 := by simp
  have hb : ∀ B, B ≤ w.heap.size → Below B w ((((w.alloc o1).alloc o2).alloc o3).alloc o4) := fun B hB =>
    ((((Below.refl B w).alloc (by omega) o1).alloc (by omega) o2).alloc (by omega) o3).alloc (by omega) o4
  have hc : ∀ a : Addr, a.block < w.heap.size → ((((w.alloc o1).alloc o2).alloc o3).alloc o4).cell? a = w.cell? a := fun a ha => (hb _ (Nat.le_refl _)).cell ha
  have hf : ∀ a : Addr, a.block < w.heap.size → ((((w.alloc o1).alloc o2).alloc o3).alloc o4).frozen? a = w.frozen? a := fun a ha => (hb _ (Nat.le_refl _)).frozen ha
  refine ⟨?_, ?_, ?_, ?_, ?_⟩
  · exact World.cell?_setCell_same _ _ _ (by rw [hc t hlt, h])
  · rw [World.frozen?_setCell, hf t hlt]
  · simp; omega
  · intro a ha hne
    exact ⟨by rw [World.cell?_setCell_other _ _ _ _ (fun e => hne (by rw [e])), hc a ha], by rw [World.frozen?_setCell, hf a ha]⟩
  · intro B h1 h2
    exact (hb B h2).setCell h1 v
structure A.Left (w : World) (w' : World) : Prop where
  size : w.heap.size ≤ w'.heap.size
  rest : ∀ a : Addr, a.block < w.heap.size → w'.cell? a = w.cell? a ∧ w'.frozen? a = w.frozen? a
  below : ∀ B, B ≤ w.heap.size → Below B w w'
theorem A.left_of {w : World} {o1 o2 o3 : Obj} : A.Left w (((w.alloc o1).alloc o2).alloc o3) := by
  have s1 : (w.alloc o1).heap.size = w.heap.size + 1 := by simp
  have s2 : ((w.alloc o1).alloc o2).heap.size = w.heap.size + 1 + 1 := by simp
  have hb : ∀ B, B ≤ w.heap.size → Below B w (((w.alloc o1).alloc o2).alloc o3) := fun B hB =>
    (((Below.refl B w).alloc (by omega) o1).alloc (by omega) o2).alloc (by omega) o3
  exact ⟨by simp; omega, fun a ha => ⟨(hb _ (Nat.le_refl _)).cell ha, (hb _ (Nat.le_refl _)).frozen ha⟩, hb⟩
def A.eTy : Value := .iface 223 (.agg #[.pointer (some ⟨6, 27, none⟩)])
theorem A.tell_nil (w : World) : Calls Tryd.prog 14 #[.nilIface] w fun ev w' => ev = .returned (.tuple #[.int .i64 0, .int .i64 (-1)]) ∧ w' = w := by
  go_enter Tryd.func14, Tryd.ntmps14
  go_wp2
  go_ret2
  exact ⟨rfl, rfl⟩
set_option maxHeartbeats 400000 in
set_option maxRecDepth 100000 in
theorem A.tell_e (c : Int) (w : World) (hg : w.cell? ⟨2, 0, none⟩ = some A.eTy) :
    Calls Tryd.prog 14 #[.iface 22 (.int .i64 c)] w fun ev w' => ev = .returned (.tuple #[.int .i64 c, .int .i64 (-1)]) ∧ Below w.heap.size w w' := by
  have hlt : 2 < w.heap.size := cell_lt hg
  have hg1 : (w.alloc (.cells #[.pointer none] 25)).cell? ⟨2, 0, none⟩ = some A.eTy := by rw [World.cell?_alloc_lt _ _ ⟨2, 0, none⟩ hlt]; exact hg
  go_enter Tryd.func14, Tryd.ntmps14
  go_wp2_with (go_at_call 68; first
    | (have l1' := l1; refine (A.as_e c ⟨w1.heap.size, 0, none⟩ (.int .i64 0) _ hg2 (by simp) (by simp)).mono ?_; rintro e' w2 ⟨rfl, h2⟩; have l2 : A.Set _ ⟨w1.heap.size, 0, none⟩ (.int .i64 c) w2 := h2 ▸ A.set_of (by simp; rfl); clear h2; have l2a := l2.at_)
    | (refine (A.as_miss c ⟨w.heap.size, 0, none⟩ (.pointer none) _ hg1 (by simp) (by simp)).mono ?_; rintro e' w1 ⟨rfl, h1⟩; have l1 : A.Left _ w1 := h1 ▸ A.left_of; clear h1; have l1s := l1.size; simp at l1s; have hg2 : (w1.alloc (.cells #[.int .i64 0] 22)).cell? ⟨2, 0, none⟩ = some A.eTy := (by rw [World.cell?_alloc_lt _ _ ⟨2, 0, none⟩ (by show 2 < w1.heap.size; omega), (l1.rest ⟨2, 0, none⟩ (by simp; omega)).1]; exact hg1)))
  go_ret2
  refine ⟨rfl, ?_⟩
  exact (((Below.refl _ w).alloc (Nat.le_refl _) _).trans (l1.below _ (by simp))).trans (((Below.refl _ w1).alloc (by omega) _).trans (l2.below _ (by simp; omega) (by simp; omega)))
set_option maxHeartbeats 400000 in
set_option maxRecDepth 100000 in
theorem A.tell_f (e : Addr) (a c : Int) (w : World) (hg : w.cell? ⟨2, 0, none⟩ = some A.eTy) (h0 : w.cell? e = some (.int .i64 a)) (hu : w.cell? ⟨e.block, e.off + 1, none⟩ = some (.iface 22 (.int .i64 c))) :
    Calls Tryd.prog 14 #[.iface 25 (.pointer (some e))] w fun ev w' => ev = .returned (.tuple #[.int .i64 c, .int .i64 a]) ∧ Below w.heap.size w w' := by
  have hlt : 2 < w.heap.size := cell_lt hg
  have hel : e.block < w.heap.size := cell_lt h0
  have hg1 : (w.alloc (.cells #[.pointer none] 25)).cell? ⟨2, 0, none⟩ = some A.eTy := by rw [World.cell?_alloc_lt _ _ ⟨2, 0, none⟩ hlt]; exact hg
  go_enter Tryd.func14, Tryd.ntmps14
  go_wp2_with (go_at_call 68; first
    | (have l1' := l1; refine (A.as_fe e c ⟨w1.heap.size, 0, none⟩ (.int .i64 0) _ hg2 (by simp) (by simp) hu2).mono ?_; rintro e' w2 ⟨rfl, h2⟩; have l2 : A.Set _ ⟨w1.heap.size, 0, none⟩ (.int .i64 c) w2 := h2 ▸ A.set_of (by simp; rfl); clear h2; have l2a := l2.at_)
    | (refine (A.as_f e ⟨w.heap.size, 0, none⟩ (.pointer none) _ hg1 (by simp) (by simp)).mono ?_; rintro e' w1 ⟨rfl, h1⟩; have l1 : A.Set _ ⟨w.heap.size, 0, none⟩ (.pointer (some e)) w1 := h1 ▸ A.set_of (by simp; rfl); clear h1; have l1s := l1.size; simp at l1s; have l1a := l1.at_
       have hg2 : (w1.alloc (.cells #[.int .i64 0] 22)).cell? ⟨2, 0, none⟩ = some A.eTy := (by rw [World.cell?_alloc_lt _ _ ⟨2, 0, none⟩ (by show 2 < w1.heap.size; omega), (l1.rest ⟨2, 0, none⟩ (by simp; omega) (by show 2 ≠ w.heap.size; omega)).1]; exact hg1)
       have hu2 : (w1.alloc (.cells #[.int .i64 0] 22)).cell? ⟨e.block, e.off + 1, none⟩ = some (.iface 22 (.int .i64 c)) := (by rw [World.cell?_alloc_lt _ _ ⟨e.block, e.off + 1, none⟩ (by show e.block < w1.heap.size; omega), (l1.rest ⟨e.block, e.off + 1, none⟩ (by simp; omega) (by show e.block ≠ w.heap.size; omega)).1, World.cell?_alloc_lt _ _ ⟨e.block, e.off + 1, none⟩ hel]; exact hu)
       have h01 : w1.cell? e = some (.int .i64 a) := (by rw [(l1.rest e (by simp; omega) (by show e.block ≠ w.heap.size; omega)).1, World.cell?_alloc_lt _ _ e hel]; exact h0)))
  go_ret2
  refine ⟨rfl, ?_⟩
  exact (((Below.refl _ w).alloc (Nat.le_refl _) _).trans (l1.below _ (Nat.le_refl _) (by simp))).trans (((Below.refl _ w1).alloc (by omega) _).trans (l2.below _ (by simp; omega) (by simp; omega)))
end Go.Proofs.YtfmaeiilbhpepaaDoor
