/- Sending, taking, answering. -/
import Derived.Test.YtdjilaofmdhikaaGreatDoorYM
set_option linter.unusedVariables false
set_option linter.unusedSimpArgs false
set_option linter.unusedVariables false
set_option linter.unusedSimpArgs false
set_option maxRecDepth 100000
namespace Go.Proofs.YtdjilaofmdhikaaGreatDoor
open Go.RowKit Go.Sy
theorem lit_owes {f : Nat → Run} {u : Nat} {v0 : Int} : (fun x => (⟨(f x).r0, (f x).r1, (f x).r2, (f x).r3, (f x).r4, (f x).r5, (f x).r6, (f x).r7, (f x).pc, (f x).st, (f x).prio, (f x).node, (f x).space, (f x).helper, (f x).loc, (f x).word, (f x).badge, bif x.beq u then v0 else (f x).owes, (f x).core, (f x).dom⟩ : Run)) = updF f u { f u with owes := v0 } := by
  funext x
  rcases Decidable.em (x = u) with e | e
  · subst e; simp only [Nat.beq_refl, cond_true, updF_at]
  · simp only [beq_ne e, cond_false, updF_ne e]
theorem lit_wb {f : Nat → Run} {u : Nat} {v0 v1 : Int} : (fun x => (⟨(f x).r0, (f x).r1, (f x).r2, (f x).r3, (f x).r4, (f x).r5, (f x).r6, (f x).r7, (f x).pc, (f x).st, (f x).prio, (f x).node, (f x).space, (f x).helper, (f x).loc, bif x.beq u then v0 else (f x).word, bif x.beq u then v1 else (f x).badge, (f x).owes, (f x).core, (f x).dom⟩ : Run)) = updF f u { f u with word := v0, badge := v1 } := by
  funext x
  rcases Decidable.em (x = u) with e | e
  · subst e; simp only [Nat.beq_refl, cond_true, updF_at]
  · simp only [beq_ne e, cond_false, updF_ne e]
theorem lit_st {f : Nat → Run} {u : Nat} {v0 : Int} : (fun x => (⟨(f x).r0, (f x).r1, (f x).r2, (f x).r3, (f x).r4, (f x).r5, (f x).r6, (f x).r7, (f x).pc, bif x.beq u then v0 else (f x).st, (f x).prio, (f x).node, (f x).space, (f x).helper, (f x).loc, (f x).word, (f x).badge, (f x).owes, (f x).core, (f x).dom⟩ : Run)) = updF f u { f u with st := v0 } := by
  funext x
  rcases Decidable.em (x = u) with e | e
  · subst e; simp only [Nat.beq_refl, cond_true, updF_at]
  · simp only [beq_ne e, cond_false, updF_ne e]
def wbS (W : Wd) (t : Nat) (w b : Int) (i : Nat) : Run := updF W.tasks t { W.tasks t with word := w, badge := b } i
def wbW (W : Wd) (t : Nat) (w b : Int) : Wd := { W with tasks := wbS W t w b }
def akS (W : Wd) (t i : Nat) : Run := updF W.tasks t { W.tasks t with st := 5 } i
def akW (W : Wd) (t : Nat) : Wd := { W with tasks := akS W t }
def owS (W : Wd) (u : Nat) (t : Int) (i : Nat) : Run := updF W.tasks u { W.tasks u with owes := t } i
def owW (W : Wd) (u : Nat) (t : Int) : Wd := { W with tasks := owS W u t }
def isWt (s : Int) : Bool := s == 4
def sendB (W : Wd) (a : Nat) : Bool := fntB W a fun s => !isWt s
def tkV (W : Wd) (t : Int) (a : Nat) : Wd := wbW (hanW (frtW W a true) t.toNat ((frtW W a true).tasks (W.lines a 0).toNat).badge ((frtW W a true).tasks (W.lines a 0).toNat).word) (W.lines a 0).toNat 0 0
def tgW_tasks (W : Wd) (t a : Int) (i : Nat) : Run := bif (W.tasks (W.lines a.toNat 0).toNat).st == 3 then (owW (akW (tkV W t a.toNat) (W.lines a.toNat 0).toNat) t.toNat (W.lines a.toNat 0)).tasks i else (wokW (tkV W t a.toNat) (W.lines a.toNat 0).toNat).tasks i
def tgW_linesN (W : Wd) (t a : Int) (i : Nat) : Nat := bif (W.tasks (W.lines a.toNat 0).toNat).st == 3 then (owW (akW (tkV W t a.toNat) (W.lines a.toNat 0).toNat) t.toNat (W.lines a.toNat 0)).linesN i else (wokW (tkV W t a.toNat) (W.lines a.toNat 0).toNat).linesN i
def tgW_lines (W : Wd) (t a : Int) (i k : Nat) : Int := bif (W.tasks (W.lines a.toNat 0).toNat).st == 3 then (owW (akW (tkV W t a.toNat) (W.lines a.toNat 0).toNat) t.toNat (W.lines a.toNat 0)).lines i k else (wokW (tkV W t a.toNat) (W.lines a.toNat 0).toNat).lines i k
def tgW_readyN (W : Wd) (t a : Int) (i : Nat) : Nat := bif (W.tasks (W.lines a.toNat 0).toNat).st == 3 then (owW (akW (tkV W t a.toNat) (W.lines a.toNat 0).toNat) t.toNat (W.lines a.toNat 0)).readyN i else (wokW (tkV W t a.toNat) (W.lines a.toNat 0).toNat).readyN i
def tgW_ready (W : Wd) (t a : Int) (i k : Nat) : Int := bif (W.tasks (W.lines a.toNat 0).toNat).st == 3 then (owW (akW (tkV W t a.toNat) (W.lines a.toNat 0).toNat) t.toNat (W.lines a.toNat 0)).ready i k else (wokW (tkV W t a.toNat) (W.lines a.toNat 0).toNat).ready i k
def tgW (W : Wd) (t a : Int) : Wd := { W with tasks := tgW_tasks W t a, linesN := tgW_linesN W t a, lines := tgW_lines W t a, readyN := tgW_readyN W t a, ready := tgW_ready W t a }
theorem tgW_t {W : Wd} {t a : Int} (h : ((W.tasks (W.lines a.toNat 0).toNat).st == 3) = true) : tgW W t a = owW (akW (tkV W t a.toNat) (W.lines a.toNat 0).toNat) t.toNat (W.lines a.toNat 0) := by
  have e_tasks : tgW_tasks W t a = (owW (akW (tkV W t a.toNat) (W.lines a.toNat 0).toNat) t.toNat (W.lines a.toNat 0)).tasks := by
    funext i
    unfold tgW_tasks
    rw [h]
    rfl
  have e_linesN : tgW_linesN W t a = (owW (akW (tkV W t a.toNat) (W.lines a.toNat 0).toNat) t.toNat (W.lines a.toNat 0)).linesN := by
    funext i
    unfold tgW_linesN
    rw [h]
    rfl
  have e_lines : tgW_lines W t a = (owW (akW (tkV W t a.toNat) (W.lines a.toNat 0).toNat) t.toNat (W.lines a.toNat 0)).lines := by
    funext i k
    unfold tgW_lines
    rw [h]
    rfl
  have e_readyN : tgW_readyN W t a = (owW (akW (tkV W t a.toNat) (W.lines a.toNat 0).toNat) t.toNat (W.lines a.toNat 0)).readyN := by
    funext i
    unfold tgW_readyN
    rw [h]
    rfl
  have e_ready : tgW_ready W t a = (owW (akW (tkV W t a.toNat) (W.lines a.toNat 0).toNat) t.toNat (W.lines a.toNat 0)).ready := by
    funext i k
    unfold tgW_ready
    rw [h]
    rfl
  show ({ W with tasks := tgW_tasks W t a, linesN := tgW_linesN W t a, lines := tgW_lines W t a, readyN := tgW_readyN W t a, ready := tgW_ready W t a } : Wd) = _
  rw [e_tasks, e_linesN, e_lines, e_readyN, e_ready] <;> kernel_rfl
theorem tgW_f {W : Wd} {t a : Int} (h : ((W.tasks (W.lines a.toNat 0).toNat).st == 3) = false) : tgW W t a = wokW (tkV W t a.toNat) (W.lines a.toNat 0).toNat := by
  have e_tasks : tgW_tasks W t a = (wokW (tkV W t a.toNat) (W.lines a.toNat 0).toNat).tasks := by
    funext i
    unfold tgW_tasks
    rw [h]
    rfl
  have e_linesN : tgW_linesN W t a = (wokW (tkV W t a.toNat) (W.lines a.toNat 0).toNat).linesN := by
    funext i
    unfold tgW_linesN
    rw [h]
    rfl
  have e_lines : tgW_lines W t a = (wokW (tkV W t a.toNat) (W.lines a.toNat 0).toNat).lines := by
    funext i k
    unfold tgW_lines
    rw [h]
    rfl
  have e_readyN : tgW_readyN W t a = (wokW (tkV W t a.toNat) (W.lines a.toNat 0).toNat).readyN := by
    funext i
    unfold tgW_readyN
    rw [h]
    rfl
  have e_ready : tgW_ready W t a = (wokW (tkV W t a.toNat) (W.lines a.toNat 0).toNat).ready := by
    funext i k
    unfold tgW_ready
    rw [h]
    rfl
  show ({ W with tasks := tgW_tasks W t a, linesN := tgW_linesN W t a, lines := tgW_lines W t a, readyN := tgW_readyN W t a, ready := tgW_ready W t a } : Wd) = _
  rw [e_tasks, e_linesN, e_lines, e_readyN, e_ready] <;> kernel_rfl
def tsW_tasks (W : Wd) (t a : Int) (i : Nat) : Run := bif sendB W a.toNat then (tgW W t a).tasks i else (stdW W t a 4).tasks i
def tsW_linesN (W : Wd) (t a : Int) (i : Nat) : Nat := bif sendB W a.toNat then (tgW W t a).linesN i else (stdW W t a 4).linesN i
def tsW_lines (W : Wd) (t a : Int) (i k : Nat) : Int := bif sendB W a.toNat then (tgW W t a).lines i k else (stdW W t a 4).lines i k
def tsW_cores (W : Wd) (t a : Int) (i : Nat) : Int := bif sendB W a.toNat then (tgW W t a).cores i else (stdW W t a 4).cores i
def tsW_readyN (W : Wd) (t a : Int) (i : Nat) : Nat := bif sendB W a.toNat then (tgW W t a).readyN i else (stdW W t a 4).readyN i
def tsW_ready (W : Wd) (t a : Int) (i k : Nat) : Int := bif sendB W a.toNat then (tgW W t a).ready i k else (stdW W t a 4).ready i k
def tsW (W : Wd) (t a : Int) : Wd := { W with tasks := tsW_tasks W t a, linesN := tsW_linesN W t a, lines := tsW_lines W t a, cores := tsW_cores W t a, readyN := tsW_readyN W t a, ready := tsW_ready W t a }
theorem tsW_t {W : Wd} {t a : Int} (h : (sendB W a.toNat) = true) : tsW W t a = tgW W t a := by
  have e_tasks : tsW_tasks W t a = (tgW W t a).tasks := by
    funext i
    unfold tsW_tasks
    rw [h]
    rfl
  have e_linesN : tsW_linesN W t a = (tgW W t a).linesN := by
    funext i
    unfold tsW_linesN
    rw [h]
    rfl
  have e_lines : tsW_lines W t a = (tgW W t a).lines := by
    funext i k
    unfold tsW_lines
    rw [h]
    rfl
  have e_cores : tsW_cores W t a = (tgW W t a).cores := by
    funext i
    unfold tsW_cores
    rw [h]
    rfl
  have e_readyN : tsW_readyN W t a = (tgW W t a).readyN := by
    funext i
    unfold tsW_readyN
    rw [h]
    rfl
  have e_ready : tsW_ready W t a = (tgW W t a).ready := by
    funext i k
    unfold tsW_ready
    rw [h]
    rfl
  show ({ W with tasks := tsW_tasks W t a, linesN := tsW_linesN W t a, lines := tsW_lines W t a, cores := tsW_cores W t a, readyN := tsW_readyN W t a, ready := tsW_ready W t a } : Wd) = _
  rw [e_tasks, e_linesN, e_lines, e_cores, e_readyN, e_ready] <;> kernel_rfl
theorem tsW_f {W : Wd} {t a : Int} (h : (sendB W a.toNat) = false) : tsW W t a = stdW W t a 4 := by
  have e_tasks : tsW_tasks W t a = (stdW W t a 4).tasks := by
    funext i
    unfold tsW_tasks
    rw [h]
    rfl
  have e_linesN : tsW_linesN W t a = (stdW W t a 4).linesN := by
    funext i
    unfold tsW_linesN
    rw [h]
    rfl
  have e_lines : tsW_lines W t a = (stdW W t a 4).lines := by
    funext i k
    unfold tsW_lines
    rw [h]
    rfl
  have e_cores : tsW_cores W t a = (stdW W t a 4).cores := by
    funext i
    unfold tsW_cores
    rw [h]
    rfl
  have e_readyN : tsW_readyN W t a = (stdW W t a 4).readyN := by
    funext i
    unfold tsW_readyN
    rw [h]
    rfl
  have e_ready : tsW_ready W t a = (stdW W t a 4).ready := by
    funext i k
    unfold tsW_ready
    rw [h]
    rfl
  show ({ W with tasks := tsW_tasks W t a, linesN := tsW_linesN W t a, lines := tsW_lines W t a, cores := tsW_cores W t a, readyN := tsW_readyN W t a, ready := tsW_ready W t a } : Wd) = _
  rw [e_tasks, e_linesN, e_lines, e_cores, e_readyN, e_ready] <;> kernel_rfl
def takW_tasks (W : Wd) (t a : Int) (i : Nat) : Run := bif (W.tasks t.toNat).owes == -1 then (tsW W t a).tasks i else (W).tasks i
def takW_linesN (W : Wd) (t a : Int) (i : Nat) : Nat := bif (W.tasks t.toNat).owes == -1 then (tsW W t a).linesN i else (W).linesN i
def takW_lines (W : Wd) (t a : Int) (i k : Nat) : Int := bif (W.tasks t.toNat).owes == -1 then (tsW W t a).lines i k else (W).lines i k
def takW_cores (W : Wd) (t a : Int) (i : Nat) : Int := bif (W.tasks t.toNat).owes == -1 then (tsW W t a).cores i else (W).cores i
def takW_readyN (W : Wd) (t a : Int) (i : Nat) : Nat := bif (W.tasks t.toNat).owes == -1 then (tsW W t a).readyN i else (W).readyN i
def takW_ready (W : Wd) (t a : Int) (i k : Nat) : Int := bif (W.tasks t.toNat).owes == -1 then (tsW W t a).ready i k else (W).ready i k
def takW (W : Wd) (t a : Int) : Wd := { W with tasks := takW_tasks W t a, linesN := takW_linesN W t a, lines := takW_lines W t a, cores := takW_cores W t a, readyN := takW_readyN W t a, ready := takW_ready W t a }
theorem takW_t {W : Wd} {t a : Int} (h : ((W.tasks t.toNat).owes == -1) = true) : takW W t a = tsW W t a := by
  have e_tasks : takW_tasks W t a = (tsW W t a).tasks := by
    funext i
    unfold takW_tasks
    rw [h]
    rfl
  have e_linesN : takW_linesN W t a = (tsW W t a).linesN := by
    funext i
    unfold takW_linesN
    rw [h]
    rfl
  have e_lines : takW_lines W t a = (tsW W t a).lines := by
    funext i k
    unfold takW_lines
    rw [h]
    rfl
  have e_cores : takW_cores W t a = (tsW W t a).cores := by
    funext i
    unfold takW_cores
    rw [h]
    rfl
  have e_readyN : takW_readyN W t a = (tsW W t a).readyN := by
    funext i
    unfold takW_readyN
    rw [h]
    rfl
  have e_ready : takW_ready W t a = (tsW W t a).ready := by
    funext i k
    unfold takW_ready
    rw [h]
    rfl
  show ({ W with tasks := takW_tasks W t a, linesN := takW_linesN W t a, lines := takW_lines W t a, cores := takW_cores W t a, readyN := takW_readyN W t a, ready := takW_ready W t a } : Wd) = _
  rw [e_tasks, e_linesN, e_lines, e_cores, e_readyN, e_ready] <;> kernel_rfl
theorem takW_f {W : Wd} {t a : Int} (h : ((W.tasks t.toNat).owes == -1) = false) : takW W t a = W := by
  have e_tasks : takW_tasks W t a = (W).tasks := by
    funext i
    unfold takW_tasks
    rw [h]
    rfl
  have e_linesN : takW_linesN W t a = (W).linesN := by
    funext i
    unfold takW_linesN
    rw [h]
    rfl
  have e_lines : takW_lines W t a = (W).lines := by
    funext i k
    unfold takW_lines
    rw [h]
    rfl
  have e_cores : takW_cores W t a = (W).cores := by
    funext i
    unfold takW_cores
    rw [h]
    rfl
  have e_readyN : takW_readyN W t a = (W).readyN := by
    funext i
    unfold takW_readyN
    rw [h]
    rfl
  have e_ready : takW_ready W t a = (W).ready := by
    funext i k
    unfold takW_ready
    rw [h]
    rfl
  show ({ W with tasks := takW_tasks W t a, linesN := takW_linesN W t a, lines := takW_lines W t a, cores := takW_cores W t a, readyN := takW_readyN W t a, ready := takW_ready W t a } : Wd) = _
  rw [e_tasks, e_linesN, e_lines, e_cores, e_readyN, e_ready] <;> kernel_rfl
def takE (W : Wd) (t : Int) : Int := bif (W.tasks t.toNat).owes == -1 then 0 else 7
def ansW_tasks (W : Wd) (t wd : Int) (i : Nat) : Run := bif (W.tasks t.toNat).owes == -1 then (W).tasks i else (wokW (hanW (owW W t.toNat (-1)) (W.tasks t.toNat).owes.toNat 0 wd) (W.tasks t.toNat).owes.toNat).tasks i
def ansW_readyN (W : Wd) (t wd : Int) (i : Nat) : Nat := bif (W.tasks t.toNat).owes == -1 then (W).readyN i else (wokW (hanW (owW W t.toNat (-1)) (W.tasks t.toNat).owes.toNat 0 wd) (W.tasks t.toNat).owes.toNat).readyN i
def ansW_ready (W : Wd) (t wd : Int) (i k : Nat) : Int := bif (W.tasks t.toNat).owes == -1 then (W).ready i k else (wokW (hanW (owW W t.toNat (-1)) (W.tasks t.toNat).owes.toNat 0 wd) (W.tasks t.toNat).owes.toNat).ready i k
def ansW (W : Wd) (t wd : Int) : Wd := { W with tasks := ansW_tasks W t wd, readyN := ansW_readyN W t wd, ready := ansW_ready W t wd }
theorem ansW_t {W : Wd} {t wd : Int} (h : ((W.tasks t.toNat).owes == -1) = true) : ansW W t wd = W := by
  have e_tasks : ansW_tasks W t wd = (W).tasks := by
    funext i
    unfold ansW_tasks
    rw [h]
    rfl
  have e_readyN : ansW_readyN W t wd = (W).readyN := by
    funext i
    unfold ansW_readyN
    rw [h]
    rfl
  have e_ready : ansW_ready W t wd = (W).ready := by
    funext i k
    unfold ansW_ready
    rw [h]
    rfl
  show ({ W with tasks := ansW_tasks W t wd, readyN := ansW_readyN W t wd, ready := ansW_ready W t wd } : Wd) = _
  rw [e_tasks, e_readyN, e_ready] <;> kernel_rfl
theorem ansW_f {W : Wd} {t wd : Int} (h : ((W.tasks t.toNat).owes == -1) = false) : ansW W t wd = wokW (hanW (owW W t.toNat (-1)) (W.tasks t.toNat).owes.toNat 0 wd) (W.tasks t.toNat).owes.toNat := by
  have e_tasks : ansW_tasks W t wd = (wokW (hanW (owW W t.toNat (-1)) (W.tasks t.toNat).owes.toNat 0 wd) (W.tasks t.toNat).owes.toNat).tasks := by
    funext i
    unfold ansW_tasks
    rw [h]
    rfl
  have e_readyN : ansW_readyN W t wd = (wokW (hanW (owW W t.toNat (-1)) (W.tasks t.toNat).owes.toNat 0 wd) (W.tasks t.toNat).owes.toNat).readyN := by
    funext i
    unfold ansW_readyN
    rw [h]
    rfl
  have e_ready : ansW_ready W t wd = (wokW (hanW (owW W t.toNat (-1)) (W.tasks t.toNat).owes.toNat 0 wd) (W.tasks t.toNat).owes.toNat).ready := by
    funext i k
    unfold ansW_ready
    rw [h]
    rfl
  show ({ W with tasks := ansW_tasks W t wd, readyN := ansW_readyN W t wd, ready := ansW_ready W t wd } : Wd) = _
  rw [e_tasks, e_readyN, e_ready] <;> kernel_rfl
def ansE (W : Wd) (t : Int) : Int := bif (W.tasks t.toNat).owes == -1 then 6 else 0
theorem owW_at {W : Wd} {u : Nat} {t : Int} : (owW W u t).tasks u = { W.tasks u with owes := t } := updF_at
theorem owW_ne {W : Wd} {u j : Nat} {t : Int} (h : j ≠ u) : (owW W u t).tasks j = W.tasks j := updF_ne h
theorem akW_at {W : Wd} {t : Nat} : (akW W t).tasks t = { W.tasks t with st := 5 } := updF_at
theorem akW_ne {W : Wd} {t j : Nat} (h : j ≠ t) : (akW W t).tasks j = W.tasks j := updF_ne h
theorem beqT {a b : Nat} (h : a = b) : Nat.beq a b = true := by rw [h]; exact Nat.beq_refl b
theorem owW_eq {W : Wd} {u j : Nat} {t : Int} (h : j = u) : (owW W u t).tasks j = { W.tasks j with owes := t } := by subst h; exact updF_at
theorem wbW_at {W : Wd} {t : Nat} {w b : Int} : (wbW W t w b).tasks t = { W.tasks t with word := w, badge := b } := updF_at
theorem wbW_ne {W : Wd} {t j : Nat} {w b : Int} (h : j ≠ t) : (wbW W t w b).tasks j = W.tasks j := updF_ne h
theorem any2 {p : Nat → Bool} : anyB 2 p = (p 0 || p 1) := by
  rw [Bool.eq_iff_iff, anyB_iff, Bool.or_eq_true]
  constructor
  · rintro ⟨i, hi, h⟩
    rcases Nat.eq_zero_or_pos i with e | e
    · rw [e] at h; exact .inl h
    · obtain rfl : i = 1 := by omega
      exact .inr h
  · rintro (h | h)
    · exact ⟨0, by omega, h⟩
    · exact ⟨1, by omega, h⟩
theorem any23 {s : Int} (h2 : 2 ≤ s) (h4 : s ≤ 4) : (anyB 2 fun e => s == [2, 3].getD e 0) = !isWt s := by
  rw [any2]
  show ((s == 2) || (s == 3)) = !(s == 4)
  rw [Bool.eq_iff_iff]
  simp only [Bool.or_eq_true, beq_iff_eq, Bool.not_eq_true', beq_eq_false_iff_ne]
  omega
structure X_ansR where
  (t g : Int) (W : Wd)
def s_ansR : Sy.Spec := ⟨X_ansR, fun ⟨t, g, _⟩ => [.ptr 0 0 none 0 0, .v (.int .i64 t), .v (.int .i64 g)], fun ⟨_, _, W⟩ => wMem W, fun ⟨t, _, W⟩ => 0 ≤ t ∧ t < W.nTasks ∧ -1 ≤ (W.tasks t.toNat).owes ∧ ((W.tasks t.toNat).owes ≠ -1 → WkP W (W.tasks t.toNat).owes), fun ⟨t, _, W⟩ => .v (.int .i64 (ansE W t)), fun ⟨t, g, W⟩ => wMem (ansW W t g),
  fun args mem => match args with | [a0, a1, a2] => some ⟨intD (a1), intD (a2), wMJD mem 0⟩ | _ => none⟩
def c_ansR : Con := ⟨[true], s_ansR.g, none⟩
def V_ansR : X_ansR → Prop := fun ⟨t, g, W⟩ => let a0:=W.nTasks;let b0:=0≤t∧t<(a0:Int);let c0:=(W.tasks (0+Int.toNat t)).owes;let d0:=c0==(-1);let e0:=0=0;let g0:=W.nRam;let h0:=g0=g0;let k0:=W.nKinds;let l0:=k0=k0;let o0:=W.nSlots;let q0:=o0=o0;let u0:=a0=a0;let v0:=W.nLines;let w0:=v0=v0;let x0:=W.nBits;let y0:=x0=x0;let z0:=W.nCores;let a1:=z0=z0;let b1:=W.nReady;let c1:=b1=b1;let d1:=W.nTlbs;let e1:=d1=d1;let g1:=W.nDoms;let h1:=g1=g1;let k1:=((((((((((True∧e0∧h0)∧e0∧l0)∧e0∧q0)∧e0∧u0)∧e0∧w0)∧e0∧y0)∧e0∧a1)∧e0∧c1)∧e0∧e1)∧e0∧h1)∧W.time=W.time;let l1:=h0∧(∀o1:Nat,o1<g0→True∧W.ram o1=W.ram o1);let q1:=l0∧(∀u1:Nat,u1<k0→True∧W.kinds u1=W.kinds u1);let v1:=q0∧(∀w1:Nat,let x1:=W.slots w1;let y1:=x1.kind;let z1:=x1.base;let a2:=x1.len;let b2:=x1.mark;let c2:=x1.rights;let d2:=x1.badge;let e2:=x1.from_;w1<o0→((((((True∧y1=y1)∧z1=z1)∧a2=a2)∧b2=b2)∧c2=c2)∧d2=d2)∧e2=e2);let g2:=w0∧(∀h2:Nat,let k2:=W.linesN h2;h2<v0→True∧k2=k2∧(∀l2:Nat,l2<k2→True∧W.lines h2 l2=W.lines h2 l2));let o2:=y0∧(∀q2:Nat,q2<x0→True∧W.bits q2=W.bits q2);let u2:=a1∧(∀v2:Nat,v2<z0→True∧W.cores v2=W.cores v2);let w2:=(e1∧(∀x2:Nat,let y2:=W.tlbsN x2;x2<d1→True∧y2=y2∧(∀z2:Nat,let a3:=W.tlbs x2 z2;let b3:=a3.sp;let c3:=a3.pg;let d3:=a3.fr;let e3:=a3.wr;z2<y2→(((True∧b3=b3)∧c3=c3)∧d3=d3)∧e3=e3)))∧(h1∧(∀g3:Nat,g3<g1→True∧W.doms g3=W.doms g3))∧True;let h3:=SV.ptr 0 0 none 0 0=SV.ptr 0 0 none 0 0;let k3:=c0=c0;let l3:=0+Int.toNat t;let o3:=g2∧o2∧u2∧(c1∧(∀q3:Nat,let u3:=W.readyN q3;q3<b1→True∧u3=u3∧(∀v3:Nat,v3<u3→True∧W.ready q3 v3=W.ready q3 v3)))∧w2;
    let w3:=Wd.mk g0 W.ram k0 W.kinds o0 W.slots a0 (fun x3:Nat=>let y3:=W.tasks x3;Run.mk y3.r0 y3.r1 y3.r2 y3.r3 y3.r4 y3.r5 y3.r6 y3.r7 y3.pc y3.st y3.prio y3.node y3.space y3.helper y3.loc y3.word y3.badge (cond (Nat.beq x3 l3) (-1) y3.owes) y3.core y3.dom) v0 W.linesN W.lines x0 W.bits z0 W.cores b1 W.readyN W.ready d1 W.tlbsN W.tlbs g1 W.doms W.time;let z3:=Int.toNat c0;let a4:=hanW w3 z3 0 g;b0∧(d0=true→6=ansE W t∧k1∧l1∧q1∧v1∧(u0∧(∀b4:Nat,let c4:=W.tasks b4;let d4:=ansW_tasks W t g b4;b4<a0→(((((((((((((((((((True∧c4.r0=d4.r0)∧c4.r1=d4.r1)∧c4.r2=d4.r2)∧c4.r3=d4.r3)∧c4.r4=d4.r4)∧c4.r5=d4.r5)∧c4.r6=d4.r6)∧c4.r7=d4.r7)∧c4.pc=d4.pc)∧c4.st=d4.st)∧c4.prio=d4.prio)∧c4.node=d4.node)∧c4.space=d4.space)∧c4.helper=d4.helper)∧c4.loc=d4.loc)∧c4.word=d4.word)∧c4.badge=d4.badge)∧c4.owes=d4.owes)∧c4.core=d4.core)∧c4.dom=d4.dom))∧g2∧o2∧u2∧(c1∧(∀e4:Nat,let g4:=ansW_readyN W t g e4;e4<b1→True∧W.readyN e4=g4∧(∀h4:Nat,h4<g4→True∧W.ready e4 h4=ansW_ready W t g e4 h4)))∧w2)∧(d0=false→b0∧(∀k4:Nat,false=false)∧((h3∧k3∧(0:Int)=0∧g=g∧True)∧(k1∧l1∧q1∧v1∧(u0∧(∀l4:Nat,let o4:=W.tasks l4;let q4:=o4.prio;let u4:=o4.node;let v4:=o4.space;let w4:=o4.helper;let x4:=o4.loc;let y4:=o4.word;let z4:=o4.badge;let a5:Int:=cond (Nat.beq l4 l3) (-1) o4.owes;let b5:=o4.core;let c5:=o4.dom;l4<a0→(((((((((((((((((((True∧o4.r0=o4.r0)∧o4.r1=o4.r1)∧o4.r2=o4.r2)∧o4.r3=o4.r3)∧o4.r4=o4.r4)∧o4.r5=o4.r5)∧o4.r6=o4.r6)∧o4.r7=o4.r7)∧o4.pc=o4.pc)∧o4.st=o4.st)∧q4=q4)∧u4=u4)∧v4=v4)∧w4=w4)∧x4=x4)∧y4=y4)∧z4=z4)∧a5=a5)∧b5=b5)∧
    c5=c5))∧o3)∧0≤c0∧c0<(a0:Int))∧((h3∧k3∧True)∧(k1∧l1∧q1∧v1∧(u0∧(∀d5:Nat,let e5:=hnS w3 z3 0 g d5;let g5:=e5.r0;let h5:=e5.r1;let k5:=e5.r2;let l5:=e5.r3;let o5:=e5.r4;let q5:=e5.r5;let u5:=e5.r6;let v5:=e5.r7;let w5:=e5.pc;let x5:=e5.st;let y5:=e5.prio;let z5:=e5.node;let a6:=e5.space;let b6:=e5.helper;let c6:=e5.loc;let d6:=e5.word;let e6:=e5.badge;let g6:=e5.owes;let h6:=e5.core;let k6:=e5.dom;d5<a0→(((((((((((((((((((True∧g5=g5)∧h5=h5)∧k5=k5)∧l5=l5)∧o5=o5)∧q5=q5)∧u5=u5)∧v5=v5)∧w5=w5)∧x5=x5)∧y5=y5)∧z5=z5)∧a6=a6)∧b6=b6)∧c6=c6)∧d6=d6)∧e6=e6)∧g6=g6)∧h6=h6)∧k6=k6))∧o3)∧s_woken.match_1 (fun l6:X_woken=>Prop) (X_woken.mk c0 a4) (fun o6:Int=>fun q6:Wd=>WkP q6 o6))∧0=ansE W t∧k1∧l1∧q1∧v1∧(u0∧(∀u6:Nat,let v6:=wkS a4 z3 u6;let w6:=ansW_tasks W t g u6;u6<a0→(((((((((((((((((((True∧v6.r0=w6.r0)∧v6.r1=w6.r1)∧v6.r2=w6.r2)∧v6.r3=w6.r3)∧v6.r4=w6.r4)∧v6.r5=w6.r5)∧v6.r6=w6.r6)∧v6.r7=w6.r7)∧v6.pc=w6.pc)∧v6.st=w6.st)∧v6.prio=w6.prio)∧v6.node=w6.node)∧v6.space=w6.space)∧v6.helper=w6.helper)∧v6.loc=w6.loc)∧v6.word=w6.word)∧v6.badge=w6.badge)∧v6.owes=w6.owes)∧v6.core=w6.core)∧v6.dom=w6.dom))∧g2∧o2∧u2∧(c1∧(∀x6:Nat,let y6:=ansW_readyN W t g x6;x6<b1→True∧wkN a4 z3 x6=y6∧(∀z6:Nat,z6<y6→True∧wkL a4 z3 x6 z6=ansW_ready W t g x6 z6)))∧w2)
set_option maxHeartbeats 1000000 in
theorem ok_ansR : FnOK Tryz.prog glN 53 c_ansR := ok_of (.cons ok_woken (.cons ok_handed .nil)) false Tryz.call53 Tryz.func53 (fun _ => []) (V := V_ansR) (fun _ => by kernel_rfl) fun ⟨t, g, W⟩ hp => by
  dsimp only [s_ansR] at hp
  dsimp only [V_ansR, tn, w64]
  simp only [std, stb, eq_self, implies_true, Bool.cond_self]
  try simp only [wd_eta]
  simp only [lit_owes, lit_wb, lit_st]
  obtain ⟨t0, t1, o0, hf⟩ := hp
  refine ⟨⟨t0, t1⟩, fun hc => ⟨by unfold ansE; rw [hc]; rfl, ?_⟩, fun hc => ?_⟩
  · skip
    have e_tasks : ansW_tasks W t g = _ := congrArg Wd.tasks (ansW_t (wd := g) hc)
    have e_readyN : ansW_readyN W t g = _ := congrArg Wd.readyN (ansW_t (wd := g) hc)
    have e_ready : ansW_ready W t g = _ := congrArg Wd.ready (ansW_t (wd := g) hc)
    simp only [e_tasks, e_readyN, e_ready]
    clear e_tasks e_readyN e_ready
    repeat' (first | exact trivial | exact run20 rfl | rfl | refine And.intro ?_ ?_ | intro _ | fail)
  have hk := hf (by simpa using hc)
  have hk2 : WkP (owW W t.toNat (-1)) (W.tasks t.toNat).owes := hk.of rfl rfl rfl (updF_cp Run.core rfl) (updF_cp Run.prio rfl)
  refine ⟨⟨t0, t1⟩, ⟨hk.t0, hk.t1⟩, hk2.han, by unfold ansE; rw [hc]; rfl, ?_⟩
  · skip
    have e_tasks : ansW_tasks W t g = _ := congrArg Wd.tasks (ansW_f (wd := g) hc)
    have e_readyN : ansW_readyN W t g = _ := congrArg Wd.readyN (ansW_f (wd := g) hc)
    have e_ready : ansW_ready W t g = _ := congrArg Wd.ready (ansW_f (wd := g) hc)
    simp only [e_tasks, e_readyN, e_ready]
    clear e_tasks e_readyN e_ready
    repeat' (first | exact trivial | exact run20 rfl | rfl | refine And.intro ?_ ?_ | intro _ | fail)
structure X_ansP where
  (t g : Int) (W : Wd)
def s_ansP : Sy.Spec := ⟨X_ansP, fun ⟨t, g, _⟩ => [.ptr 0 0 none 0 0, .v (.int .i64 t), .v (.int .i64 g)], fun ⟨_, _, W⟩ => wMem W, fun ⟨t, _, W⟩ => 0 ≤ t ∧ t < W.nTasks ∧ -1 ≤ (W.tasks t.toNat).owes ∧ ((W.tasks t.toNat).owes ≠ -1 → WkP W (W.tasks t.toNat).owes), fun ⟨t, _, W⟩ => .er 35 116 (ansE W t) (-1), fun ⟨t, g, W⟩ => wMem (ansW W t g),
  fun args mem => match args with | [a0, a1, a2] => some ⟨intD (a1), intD (a2), wMJD mem 0⟩ | _ => none⟩
def c_ansP : Con := ⟨[true], s_ansP.g, none⟩
def V_ansP : X_ansP → Prop := fun ⟨t, g, W⟩ => let a0:=W.nTasks;let b0:=0≤t∧t<(a0:Int);let c0:=(W.tasks (0+Int.toNat t)).owes;let d0:=decide (c0<0);let e0:=0=0;let g0:=W.nRam;let h0:=g0=g0;let k0:=W.nKinds;let l0:=k0=k0;let o0:=W.nSlots;let q0:=o0=o0;let u0:=a0=a0;let v0:=W.nLines;let w0:=v0=v0;let x0:=W.nBits;let y0:=x0=x0;let z0:=W.nCores;let a1:=z0=z0;let b1:=W.nReady;let c1:=b1=b1;let d1:=W.nTlbs;let e1:=d1=d1;let g1:=W.nDoms;let h1:=g1=g1;let k1:=((((((((((True∧e0∧h0)∧e0∧l0)∧e0∧q0)∧e0∧u0)∧e0∧w0)∧e0∧y0)∧e0∧a1)∧e0∧c1)∧e0∧e1)∧e0∧h1)∧W.time=W.time;let l1:=h0∧(∀o1:Nat,o1<g0→True∧W.ram o1=W.ram o1);let q1:=l0∧(∀u1:Nat,u1<k0→True∧W.kinds u1=W.kinds u1);let v1:=q0∧(∀w1:Nat,let x1:=W.slots w1;let y1:=x1.kind;let z1:=x1.base;let a2:=x1.len;let b2:=x1.mark;let c2:=x1.rights;let d2:=x1.badge;let e2:=x1.from_;w1<o0→((((((True∧y1=y1)∧z1=z1)∧a2=a2)∧b2=b2)∧c2=c2)∧d2=d2)∧e2=e2);let g2:=w0∧(∀h2:Nat,let k2:=W.linesN h2;h2<v0→True∧k2=k2∧(∀l2:Nat,l2<k2→True∧W.lines h2 l2=W.lines h2 l2));let o2:=y0∧(∀q2:Nat,q2<x0→True∧W.bits q2=W.bits q2);let u2:=a1∧(∀v2:Nat,v2<z0→True∧W.cores v2=W.cores v2);let w2:=(e1∧(∀x2:Nat,let y2:=W.tlbsN x2;x2<d1→True∧y2=y2∧(∀z2:Nat,let a3:=W.tlbs x2 z2;let b3:=a3.sp;let c3:=a3.pg;let d3:=a3.fr;let e3:=a3.wr;z2<y2→(((True∧b3=b3)∧c3=c3)∧d3=d3)∧e3=e3)))∧(h1∧(∀g3:Nat,g3<g1→True∧W.doms g3=W.doms g3))∧True;let h3:=SV.ptr 0 0 none 0 0=SV.ptr 0 0 none 0 0;let k3:=c0=c0;let l3:=0+Int.toNat t;let o3:=g2∧o2∧u2∧(c1∧(∀q3:Nat,let u3:=W.readyN q3;q3<b1→True∧u3=u3∧(∀v3:Nat,v3<u3→True∧W.ready q3 v3=W.ready q3 v3)))∧w2;
    let w3:=Wd.mk g0 W.ram k0 W.kinds o0 W.slots a0 (fun x3:Nat=>let y3:=W.tasks x3;Run.mk y3.r0 y3.r1 y3.r2 y3.r3 y3.r4 y3.r5 y3.r6 y3.r7 y3.pc y3.st y3.prio y3.node y3.space y3.helper y3.loc y3.word y3.badge (cond (Nat.beq x3 l3) (-1) y3.owes) y3.core y3.dom) v0 W.linesN W.lines x0 W.bits z0 W.cores b1 W.readyN W.ready d1 W.tlbsN W.tlbs g1 W.doms W.time;let z3:=Int.toNat c0;let a4:=hanW w3 z3 0 g;b0∧(d0=true→((6:Int)≠0∧ansE W t=6∧((-1):Int)=(-1))∧k1∧l1∧q1∧v1∧(u0∧(∀b4:Nat,let c4:=W.tasks b4;let d4:=ansW_tasks W t g b4;b4<a0→(((((((((((((((((((True∧c4.r0=d4.r0)∧c4.r1=d4.r1)∧c4.r2=d4.r2)∧c4.r3=d4.r3)∧c4.r4=d4.r4)∧c4.r5=d4.r5)∧c4.r6=d4.r6)∧c4.r7=d4.r7)∧c4.pc=d4.pc)∧c4.st=d4.st)∧c4.prio=d4.prio)∧c4.node=d4.node)∧c4.space=d4.space)∧c4.helper=d4.helper)∧c4.loc=d4.loc)∧c4.word=d4.word)∧c4.badge=d4.badge)∧c4.owes=d4.owes)∧c4.core=d4.core)∧c4.dom=d4.dom))∧g2∧o2∧u2∧(c1∧(∀e4:Nat,let g4:=ansW_readyN W t g e4;e4<b1→True∧W.readyN e4=g4∧(∀h4:Nat,h4<g4→True∧W.ready e4 h4=ansW_ready W t g e4 h4)))∧w2)∧(d0=false→b0∧(∀k4:Nat,false=false)∧((h3∧k3∧(0:Int)=0∧g=g∧True)∧(k1∧l1∧q1∧v1∧(u0∧(∀l4:Nat,let o4:=W.tasks l4;let q4:=o4.prio;let u4:=o4.node;let v4:=o4.space;let w4:=o4.helper;let x4:=o4.loc;let y4:=o4.word;let z4:=o4.badge;let a5:Int:=cond (Nat.beq l4 l3) (-1) o4.owes;let b5:=o4.core;let c5:=o4.dom;l4<a0→(((((((((((((((((((True∧o4.r0=o4.r0)∧o4.r1=o4.r1)∧o4.r2=o4.r2)∧o4.r3=o4.r3)∧o4.r4=o4.r4)∧o4.r5=o4.r5)∧o4.r6=o4.r6)∧o4.r7=o4.r7)∧o4.pc=o4.pc)∧o4.st=o4.st)∧q4=q4)∧u4=u4)∧v4=v4)∧w4=w4)∧x4=x4)∧
    y4=y4)∧z4=z4)∧a5=a5)∧b5=b5)∧c5=c5))∧o3)∧0≤c0∧c0<(a0:Int))∧((h3∧k3∧True)∧(k1∧l1∧q1∧v1∧(u0∧(∀d5:Nat,let e5:=hnS w3 z3 0 g d5;let g5:=e5.r0;let h5:=e5.r1;let k5:=e5.r2;let l5:=e5.r3;let o5:=e5.r4;let q5:=e5.r5;let u5:=e5.r6;let v5:=e5.r7;let w5:=e5.pc;let x5:=e5.st;let y5:=e5.prio;let z5:=e5.node;let a6:=e5.space;let b6:=e5.helper;let c6:=e5.loc;let d6:=e5.word;let e6:=e5.badge;let g6:=e5.owes;let h6:=e5.core;let k6:=e5.dom;d5<a0→(((((((((((((((((((True∧g5=g5)∧h5=h5)∧k5=k5)∧l5=l5)∧o5=o5)∧q5=q5)∧u5=u5)∧v5=v5)∧w5=w5)∧x5=x5)∧y5=y5)∧z5=z5)∧a6=a6)∧b6=b6)∧c6=c6)∧d6=d6)∧e6=e6)∧g6=g6)∧h6=h6)∧k6=k6))∧o3)∧s_wake.match_1 (fun l6:X_wake=>Prop) (X_wake.mk c0 a4) (fun o6:Int=>fun q6:Wd=>WkP q6 o6))∧(ansE W t=0∧((-1):Int)=(-1))∧k1∧l1∧q1∧v1∧(u0∧(∀u6:Nat,let v6:=wkS a4 z3 u6;let w6:=ansW_tasks W t g u6;u6<a0→(((((((((((((((((((True∧v6.r0=w6.r0)∧v6.r1=w6.r1)∧v6.r2=w6.r2)∧v6.r3=w6.r3)∧v6.r4=w6.r4)∧v6.r5=w6.r5)∧v6.r6=w6.r6)∧v6.r7=w6.r7)∧v6.pc=w6.pc)∧v6.st=w6.st)∧v6.prio=w6.prio)∧v6.node=w6.node)∧v6.space=w6.space)∧v6.helper=w6.helper)∧v6.loc=w6.loc)∧v6.word=w6.word)∧v6.badge=w6.badge)∧v6.owes=w6.owes)∧v6.core=w6.core)∧v6.dom=w6.dom))∧g2∧o2∧u2∧(c1∧(∀x6:Nat,let y6:=ansW_readyN W t g x6;x6<b1→True∧wkN a4 z3 x6=y6∧(∀z6:Nat,z6<y6→True∧wkL a4 z3 x6 z6=ansW_ready W t g x6 z6)))∧w2)
set_option maxHeartbeats 1000000 in
theorem ok_ansP : FnOK Tryz.prog glN 113 c_ansP := ok_of (.cons ok_hand (.cons ok_wake .nil)) false Tryz.call113 Tryz.func113 (fun _ => []) (V := V_ansP) (fun _ => by kernel_rfl) fun ⟨t, g, W⟩ hp => by
  dsimp only [s_ansP] at hp
  dsimp only [V_ansP, tn, w64]
  simp only [std, stb, eq_self, implies_true, Bool.cond_self]
  try simp only [wd_eta]
  simp only [lit_owes, lit_wb, lit_st]
  obtain ⟨t0, t1, o0, hf⟩ := hp
  refine ⟨⟨t0, t1⟩, fun h => ?_, fun h => ?_⟩
  · have hc : ((W.tasks t.toNat).owes == -1) = true := by have := of_decide_eq_true h; simp only [beq_iff_eq]; omega
    refine ⟨⟨by decide, by unfold ansE; rw [hc]; rfl⟩, ?_⟩
    have e_tasks : ansW_tasks W t g = _ := congrArg Wd.tasks (ansW_t (wd := g) hc)
    have e_readyN : ansW_readyN W t g = _ := congrArg Wd.readyN (ansW_t (wd := g) hc)
    have e_ready : ansW_ready W t g = _ := congrArg Wd.ready (ansW_t (wd := g) hc)
    simp only [e_tasks, e_readyN, e_ready]
    clear e_tasks e_readyN e_ready
    repeat' (first | exact trivial | exact run20 rfl | rfl | refine And.intro ?_ ?_ | intro _ | fail)
  have hc : ((W.tasks t.toNat).owes == -1) = false := by have := of_decide_eq_false h; simp only [beq_eq_false_iff_ne]; omega
  have hk := hf (by simpa using hc)
  have hk2 : WkP (owW W t.toNat (-1)) (W.tasks t.toNat).owes := hk.of rfl rfl rfl (updF_cp Run.core rfl) (updF_cp Run.prio rfl)
  refine ⟨⟨t0, t1⟩, ⟨hk.t0, hk.t1⟩, hk2.han, by unfold ansE; rw [hc]; rfl, ?_⟩
  · skip
    have e_tasks : ansW_tasks W t g = _ := congrArg Wd.tasks (ansW_f (wd := g) hc)
    have e_readyN : ansW_readyN W t g = _ := congrArg Wd.readyN (ansW_f (wd := g) hc)
    have e_ready : ansW_ready W t g = _ := congrArg Wd.ready (ansW_f (wd := g) hc)
    simp only [e_tasks, e_readyN, e_ready]
    clear e_tasks e_readyN e_ready
    repeat' (first | exact trivial | exact run20 rfl | rfl | refine And.intro ?_ ?_ | intro _ | fail)
structure X_takR where
  (t a : Int) (W : Wd)
def s_takR : Sy.Spec := ⟨X_takR, fun ⟨t, a, _⟩ => [.ptr 0 0 none 0 0, .v (.int .i64 t), .v (.int .i64 a)], fun ⟨_, _, W⟩ => wMem W, fun ⟨t, a, W⟩ => DoP W t a, fun ⟨t, _, W⟩ => .v (.int .i64 (takE W t)), fun ⟨t, a, W⟩ => wMem (takW W t a),
  fun args mem => match args with | [a0, a1, a2] => some ⟨intD (a1), intD (a2), wMJD mem 0⟩ | _ => none⟩
def c_takR : Con := ⟨[true], s_takR.g, none⟩
def V_takR : X_takR → Prop := fun ⟨t, a, W⟩ => let a0:=W.nTasks;let b0:=t<(a0:Int);let c0:=0≤t∧b0;let d0:=Int.toNat t;let e0:=(W.tasks (0+d0)).owes !=(-1);let g0:=0=0;let h0:=W.nRam;let k0:=h0=h0;let l0:=W.nKinds;let o0:=l0=l0;let q0:=W.nSlots;let u0:=q0=q0;let v0:=a0=a0;let w0:=W.nLines;let x0:=w0=w0;let y0:=W.nBits;let z0:=y0=y0;let a1:=W.nCores;let b1:=a1=a1;let c1:=W.nReady;let d1:=c1=c1;let e1:=W.nTlbs;let g1:=e1=e1;let h1:=W.nDoms;let k1:=h1=h1;let l1:=((((((((((True∧g0∧k0)∧g0∧o0)∧g0∧u0)∧g0∧v0)∧g0∧x0)∧g0∧z0)∧g0∧b1)∧g0∧d1)∧g0∧g1)∧g0∧k1)∧W.time=W.time;let o1:=k0∧(∀q1:Nat,q1<h0→True∧W.ram q1=W.ram q1);let u1:=o0∧(∀v1:Nat,v1<l0→True∧W.kinds v1=W.kinds v1);let w1:=u0∧(∀x1:Nat,let y1:=W.slots x1;let z1:=y1.kind;let a2:=y1.base;let b2:=y1.len;let c2:=y1.mark;let d2:=y1.rights;let e2:=y1.badge;let g2:=y1.from_;x1<q0→((((((True∧z1=z1)∧a2=a2)∧b2=b2)∧c2=c2)∧d2=d2)∧e2=e2)∧g2=g2);let h2:=z0∧(∀k2:Nat,k2<y0→True∧W.bits k2=W.bits k2);let l2:=b1∧(∀o2:Nat,o2<a1→True∧W.cores o2=takW_cores W t a o2);let q2:=(g1∧(∀u2:Nat,let v2:=W.tlbsN u2;u2<e1→True∧v2=v2∧(∀w2:Nat,let x2:=W.tlbs u2 w2;let y2:=x2.sp;let z2:=x2.pg;let a3:=x2.fr;let b3:=x2.wr;w2<v2→(((True∧y2=y2)∧z2=z2)∧a3=a3)∧b3=b3)))∧(k1∧(∀c3:Nat,c3<h1→True∧W.doms c3=W.doms c3))∧True;let d3:=(d1∧(∀e3:Nat,let g3:=takW_readyN W t a e3;e3<c1→True∧W.readyN e3=g3∧(∀h3:Nat,h3<g3→True∧W.ready e3 h3=takW_ready W t a e3 h3)))∧q2;let k3:=h2∧l2∧d3;let l3:=SV.ptr 0 0 none 0 0=SV.ptr 0 0 none 0 0;let o3:=false=false;
    let q3:=h2∧(b1∧(∀u3:Nat,u3<a1→True∧W.cores u3=W.cores u3))∧(d1∧(∀v3:Nat,let w3:=W.readyN v3;v3<c1→True∧w3=w3∧(∀x3:Nat,x3<w3→True∧W.ready v3 x3=W.ready v3 x3)))∧q2;let y3:=Int.toNat a;let z3:=fntB W y3 (fun a4:Int=>(a4==4)==false);let b4:=frtI W y3 z3;let c4:=decide (b4<0);let d4:=(x0∧(∀e4:Nat,let g4:=frtN W y3 z3 e4;e4<w0→True∧g4=g4∧(∀h4:Nat,let k4:=frtL W y3 z3 e4 h4;h4<g4→True∧k4=k4)))∧q3;let l4:=l1∧o1∧u1∧w1∧(v0∧(∀o4:Nat,let q4:=frtS W y3 z3 o4;let u4:=q4.r0;let v4:=q4.r1;let w4:=q4.r2;let x4:=q4.r3;let y4:=q4.r4;let z4:=q4.r5;let a5:=q4.r6;let b5:=q4.r7;let c5:=q4.pc;let d5:=q4.st;let e5:=q4.prio;let g5:=q4.node;let h5:=q4.space;let k5:=q4.helper;let l5:=q4.loc;let o5:=q4.word;let q5:=q4.badge;let u5:=q4.owes;let v5:=q4.core;let w5:=q4.dom;o4<a0→(((((((((((((((((((True∧u4=u4)∧v4=v4)∧w4=w4)∧x4=x4)∧y4=y4)∧z4=z4)∧a5=a5)∧b5=b5)∧c5=c5)∧d5=d5)∧e5=e5)∧g5=g5)∧h5=h5)∧k5=k5)∧l5=l5)∧o5=o5)∧q5=q5)∧u5=u5)∧v5=v5)∧w5=w5))∧d4;let x5:=frtW W y3 z3;let y5:=0=takE W t;let z5:=0≤b4∧b4<(a0:Int);let a6:=Int.toNat b4;let b6:=0+a6;let c6:=frtS W y3 z3 b6;let d6:=c6.badge;let e6:=c6.word;let g6:=(hnS x5 d0 d6 e6 b6).st==3;let h6:=x0∧(∀k6:Nat,let l6:=takW_linesN W t a k6;k6<w0→True∧frtN W y3 z3 k6=l6∧(∀o6:Nat,o6<l6→True∧frtL W y3 z3 k6 o6=takW_lines W t a k6 o6));
    let q6:=Wd.mk h0 W.ram l0 W.kinds q0 W.slots a0 (fun u6:Nat=>let v6:=hnS x5 d0 d6 e6 u6;Run.mk v6.r0 v6.r1 v6.r2 v6.r3 v6.r4 v6.r5 v6.r6 v6.r7 v6.pc v6.st v6.prio v6.node v6.space v6.helper v6.loc (cond (Nat.beq u6 b6) 0 v6.word) (cond (Nat.beq u6 b6) 0 v6.badge) v6.owes v6.core v6.dom) w0 (frtN W y3 z3) (frtL W y3 z3) y0 W.bits a1 W.cores c1 W.readyN W.ready e1 W.tlbsN W.tlbs h1 W.doms W.time;c0∧(e0=true→7=takE W t∧l1∧o1∧u1∧w1∧(v0∧(∀w6:Nat,let x6:=W.tasks w6;let y6:=takW_tasks W t a w6;w6<a0→(((((((((((((((((((True∧x6.r0=y6.r0)∧x6.r1=y6.r1)∧x6.r2=y6.r2)∧x6.r3=y6.r3)∧x6.r4=y6.r4)∧x6.r5=y6.r5)∧x6.r6=y6.r6)∧x6.r7=y6.r7)∧x6.pc=y6.pc)∧x6.st=y6.st)∧x6.prio=y6.prio)∧x6.node=y6.node)∧x6.space=y6.space)∧x6.helper=y6.helper)∧x6.loc=y6.loc)∧x6.word=y6.word)∧x6.badge=y6.badge)∧x6.owes=y6.owes)∧x6.core=y6.core)∧x6.dom=y6.dom))∧(x0∧(∀z6:Nat,let a7:=takW_linesN W t a z6;z6<w0→True∧W.linesN z6=a7∧(∀b7:Nat,b7<a7→True∧W.lines z6 b7=takW_lines W t a z6 b7)))∧k3)∧(e0=false→((l3∧a=a∧o3∧True)∧(l1∧o1∧u1∧w1∧(v0∧(∀c7:Nat,let d7:=W.tasks c7;let e7:=d7.prio;let g7:=d7.node;let h7:=d7.space;let k7:=d7.helper;let l7:=d7.loc;let o7:=d7.word;let q7:=d7.badge;let u7:=d7.owes;let v7:=d7.core;let w7:=d7.dom;c7<a0→(((((((((((((((((((True∧d7.r0=d7.r0)∧d7.r1=d7.r1)∧d7.r2=d7.r2)∧d7.r3=d7.r3)∧d7.r4=d7.r4)∧d7.r5=d7.r5)∧d7.r6=d7.r6)∧d7.r7=d7.r7)∧d7.pc=d7.pc)∧d7.st=d7.st)∧e7=e7)∧g7=g7)∧h7=h7)∧k7=k7)∧l7=l7)∧o7=o7)∧q7=q7)∧u7=u7)∧v7=v7)∧w7=w7))∧(x0∧(∀x7:Nat,let y7:=W.linesN x7;x7<w0→True∧y7=y7∧(∀z7:Nat,z7<y7→True∧
    W.lines x7 z7=W.lines x7 z7)))∧q3)∧s_front.match_1 (fun a8:X_front=>Prop) (X_front.mk a false W) (fun b8:Int=>fun c8:Bool=>fun d8:Wd=>LnP d8 b8))∧(c4=true→((l3∧t=t∧a=a∧(4:Int)=4∧True)∧l4∧0≤t∧b0∧LnP x5 a∧a1≤100000)∧y5∧l1∧o1∧u1∧w1∧(v0∧(∀e8:Nat,let g8:=sdS x5 d0 a 4 e8;let h8:=takW_tasks W t a e8;e8<a0→(((((((((((((((((((True∧g8.r0=h8.r0)∧g8.r1=h8.r1)∧g8.r2=h8.r2)∧g8.r3=h8.r3)∧g8.r4=h8.r4)∧g8.r5=h8.r5)∧g8.r6=h8.r6)∧g8.r7=h8.r7)∧g8.pc=h8.pc)∧g8.st=h8.st)∧g8.prio=h8.prio)∧g8.node=h8.node)∧g8.space=h8.space)∧g8.helper=h8.helper)∧g8.loc=h8.loc)∧g8.word=h8.word)∧g8.badge=h8.badge)∧g8.owes=h8.owes)∧g8.core=h8.core)∧g8.dom=h8.dom))∧(x0∧(∀k8:Nat,let l8:=takW_linesN W t a k8;k8<w0→True∧sdN x5 y3 k8=l8∧(∀o8:Nat,o8<l8→True∧sdL x5 t y3 k8 o8=takW_lines W t a k8 o8)))∧h2∧(b1∧(∀q8:Nat,q8<a1→True∧ofC x5 t q8=takW_cores W t a q8))∧d3)∧(c4=false→tn 7 (z5∧tn 7 (z5∧tn 2 (((l3∧t=t∧d6=d6∧e6=e6∧True)∧l4∧c0)∧z5∧(∀r8:Nat,o3)∧z5∧(∀u8:Nat,o3)∧z5∧(g6=true→z5∧(∀v8:Nat,o3)∧c0∧(∀w8:Nat,o3)∧y5∧l1∧o1∧u1∧w1∧(v0∧(∀x8:Nat,let y8:=hnS x5 d0 d6 e6 x8;let z8:=takW_tasks W t a x8;let a9:=Nat.beq x8 b6;x8<a0→(((((((((((((((((((True∧y8.r0=z8.r0)∧y8.r1=z8.r1)∧y8.r2=z8.r2)∧y8.r3=z8.r3)∧y8.r4=z8.r4)∧y8.r5=z8.r5)∧y8.r6=z8.r6)∧y8.r7=z8.r7)∧y8.pc=z8.pc)∧cond a9 5 y8.st=z8.st)∧y8.prio=z8.prio)∧y8.node=z8.node)∧y8.space=z8.space)∧y8.helper=z8.helper)∧y8.loc=z8.loc)∧cond a9 0 y8.word=z8.word)∧cond a9 0 y8.badge=z8.badge)∧cond (Nat.beq x8 (0+d0)) b4 y8.owes=z8.owes)∧y8.core=z8.core)∧y8.dom=z8.dom))∧h6∧k3)∧(g6=false→((l3∧
    b4=b4∧True)∧(l1∧o1∧u1∧w1∧(v0∧(∀b9:Nat,let c9:=hnS x5 d0 d6 e6 b9;let d9:=c9.r0;let e9:=c9.r1;let g9:=c9.r2;let h9:=c9.r3;let k9:=c9.r4;let l9:=c9.r5;let o9:=c9.r6;let q9:=c9.r7;let r9:=c9.pc;let u9:=c9.st;let v9:=c9.prio;let w9:=c9.node;let x9:=c9.space;let y9:=c9.helper;let z9:=c9.loc;let a10:Int:=cond (Nat.beq b9 b6) 0 c9.word;let b10:Int:=cond (Nat.beq b9 b6) 0 c9.badge;let c10:=c9.owes;let d10:=c9.core;let e10:=c9.dom;b9<a0→(((((((((((((((((((True∧d9=d9)∧e9=e9)∧g9=g9)∧h9=h9)∧k9=k9)∧l9=l9)∧o9=o9)∧q9=q9)∧r9=r9)∧u9=u9)∧v9=v9)∧w9=w9)∧x9=x9)∧y9=y9)∧z9=z9)∧a10=a10)∧b10=b10)∧c10=c10)∧d10=d10)∧e10=e10))∧d4)∧s_woken.match_1 (fun g10:X_woken=>Prop) (X_woken.mk b4 q6) (fun h10:Int=>fun k10:Wd=>WkP k10 h10))∧y5∧l1∧o1∧u1∧w1∧(v0∧(∀l10:Nat,let o10:=wkS q6 a6 l10;let q10:=takW_tasks W t a l10;l10<a0→(((((((((((((((((((True∧o10.r0=q10.r0)∧o10.r1=q10.r1)∧o10.r2=q10.r2)∧o10.r3=q10.r3)∧o10.r4=q10.r4)∧o10.r5=q10.r5)∧o10.r6=q10.r6)∧o10.r7=q10.r7)∧o10.pc=q10.pc)∧o10.st=q10.st)∧o10.prio=q10.prio)∧o10.node=q10.node)∧o10.space=q10.space)∧o10.helper=q10.helper)∧o10.loc=q10.loc)∧o10.word=q10.word)∧o10.badge=q10.badge)∧o10.owes=q10.owes)∧o10.core=q10.core)∧o10.dom=q10.dom))∧h6∧h2∧l2∧(d1∧(∀r10:Nat,let u10:=takW_readyN W t a r10;r10<c1→True∧wkN q6 a6 r10=u10∧(∀v10:Nat,v10<u10→True∧wkL q6 a6 r10 v10=takW_ready W t a r10 v10)))∧q2))))))
set_option maxHeartbeats 1000000 in
theorem ok_takR : FnOK Tryz.prog glN 51 c_takR := ok_of (.cons ok_woken (.cons ok_front (.cons ok_stands (.cons ok_handed .nil)))) false Tryz.call51 Tryz.func51 (fun _ => []) (V := V_takR) (fun _ => by kernel_rfl) fun ⟨t, a, W⟩ hp => by
  dsimp only [s_takR] at hp
  dsimp only [V_takR, tn, w64]
  simp only [std, stb, eq_self, implies_true, Bool.cond_self]
  try simp only [wd_eta]
  simp only [lit_owes, lit_wb, lit_st]
  obtain ⟨hl, ho, hc, hw0, hf⟩ := hp
  have t0 := ho.t0
  have t1 := ho.t1
  have tb := And.intro t0 t1
  refine ⟨tb, fun h => ?_, fun h => ?_⟩
  · have hw : ((W.tasks t.toNat).owes == -1) = false := by simpa using h
    refine ⟨by unfold takE; rw [hw]; rfl, ?_⟩
    have e_tasks : takW_tasks W t a = _ := congrArg Wd.tasks (takW_f (t := t) (a := a) hw)
    have e_linesN : takW_linesN W t a = _ := congrArg Wd.linesN (takW_f (t := t) (a := a) hw)
    have e_lines : takW_lines W t a = _ := congrArg Wd.lines (takW_f (t := t) (a := a) hw)
    have e_cores : takW_cores W t a = _ := congrArg Wd.cores (takW_f (t := t) (a := a) hw)
    have e_readyN : takW_readyN W t a = _ := congrArg Wd.readyN (takW_f (t := t) (a := a) hw)
    have e_ready : takW_ready W t a = _ := congrArg Wd.ready (takW_f (t := t) (a := a) hw)
    simp only [e_tasks, e_linesN, e_lines, e_cores, e_readyN, e_ready]
    clear e_tasks e_linesN e_lines e_cores e_readyN e_ready
    repeat' (first | exact trivial | exact run20 rfl | rfl | refine And.intro ?_ ?_ | intro _ | fail)
  have hw : ((W.tasks t.toNat).owes == -1) = true := by simpa using h
  have he : takE W t = 0 := by unfold takE; rw [hw]; rfl
  rcases Nat.eq_zero_or_pos (W.linesN a.toNat) with h0 | h0
  · have hb : sendB W a.toNat = false := fn0 h0
    have e : (fntB W a.toNat fun a4 => (a4 == 4) == false) = false := fn0 h0
    simp only [e, show frtI W a.toNat false = -1 from rfl]
    refine ⟨hl, fun _ => ⟨⟨t0, t1, ⟨hl.a0, hl.a1, hl.n, hl.h⟩, hc⟩, he.symm, ?_⟩, fun h => absurd h (by decide)⟩
    have e_tasks : takW_tasks W t a = _ := congrArg Wd.tasks ((takW_t (t := t) (a := a) hw).trans (tsW_f (t := t) (a := a) hb))
    have e_linesN : takW_linesN W t a = _ := congrArg Wd.linesN ((takW_t (t := t) (a := a) hw).trans (tsW_f (t := t) (a := a) hb))
    have e_lines : takW_lines W t a = _ := congrArg Wd.lines ((takW_t (t := t) (a := a) hw).trans (tsW_f (t := t) (a := a) hb))
    have e_cores : takW_cores W t a = _ := congrArg Wd.cores ((takW_t (t := t) (a := a) hw).trans (tsW_f (t := t) (a := a) hb))
    have e_readyN : takW_readyN W t a = _ := congrArg Wd.readyN ((takW_t (t := t) (a := a) hw).trans (tsW_f (t := t) (a := a) hb))
    have e_ready : takW_ready W t a = _ := congrArg Wd.ready ((takW_t (t := t) (a := a) hw).trans (tsW_f (t := t) (a := a) hb))
    simp only [e_tasks, e_linesN, e_lines, e_cores, e_readyN, e_ready]
    clear e_tasks e_linesN e_lines e_cores e_readyN e_ready
    repeat' (first | exact trivial | exact run20 rfl | rfl | refine And.intro ?_ ?_ | intro _ | fail)
  have hn : W.linesN a.toNat ≠ 0 := by omega
  obtain ⟨hwk, hs2, hs4⟩ := hf h0
  cases hq : isWt (W.tasks (W.lines a.toNat 0).toNat).st with
  | true =>
    have hb : sendB W a.toNat = false := fn1 hn (by show (!isWt _) = false; rw [hq]; rfl)
    have e : (fntB W a.toNat fun a4 => (a4 == 4) == false) = false := fn1 hn (by show (((W.tasks (W.lines a.toNat 0).toNat).st == 4) == false) = false; rw [show ((W.tasks (W.lines a.toNat 0).toNat).st == 4) = true from hq]; rfl)
    simp only [e, show frtI W a.toNat false = -1 from rfl]
    refine ⟨hl, fun _ => ⟨⟨t0, t1, ⟨hl.a0, hl.a1, hl.n, hl.h⟩, hc⟩, he.symm, ?_⟩, fun h => absurd h (by decide)⟩
    have e_tasks : takW_tasks W t a = _ := congrArg Wd.tasks ((takW_t (t := t) (a := a) hw).trans (tsW_f (t := t) (a := a) hb))
    have e_linesN : takW_linesN W t a = _ := congrArg Wd.linesN ((takW_t (t := t) (a := a) hw).trans (tsW_f (t := t) (a := a) hb))
    have e_lines : takW_lines W t a = _ := congrArg Wd.lines ((takW_t (t := t) (a := a) hw).trans (tsW_f (t := t) (a := a) hb))
    have e_cores : takW_cores W t a = _ := congrArg Wd.cores ((takW_t (t := t) (a := a) hw).trans (tsW_f (t := t) (a := a) hb))
    have e_readyN : takW_readyN W t a = _ := congrArg Wd.readyN ((takW_t (t := t) (a := a) hw).trans (tsW_f (t := t) (a := a) hb))
    have e_ready : takW_ready W t a = _ := congrArg Wd.ready ((takW_t (t := t) (a := a) hw).trans (tsW_f (t := t) (a := a) hb))
    simp only [e_tasks, e_linesN, e_lines, e_cores, e_readyN, e_ready]
    clear e_tasks e_linesN e_lines e_cores e_readyN e_ready
    repeat' (first | exact trivial | exact run20 rfl | rfl | refine And.intro ?_ ?_ | intro _ | fail)
  | false =>
    have hb : sendB W a.toNat = true := fn1 hn (by show (!isWt _) = true; rw [hq]; rfl)
    have e : (fntB W a.toNat fun a4 => (a4 == 4) == false) = true := fn1 hn (by show (((W.tasks (W.lines a.toNat 0).toNat).st == 4) == false) = true; rw [show ((W.tasks (W.lines a.toNat 0).toNat).st == 4) = false from hq]; rfl)
    simp only [e, show frtI W a.toNat true = W.lines a.toNat 0 from rfl]
    have ub := And.intro hwk.t0 hwk.t1
    have hk2 : WkP (tkV W t a.toNat) (W.lines a.toNat 0) := (hwk.frt.han).of rfl rfl rfl (updF_cp Run.core rfl) (updF_cp Run.prio rfl)
    have hst : ∀ b w, (hnS (frtW W a.toNat true) t.toNat b w (W.lines a.toNat 0).toNat).st = (W.tasks (W.lines a.toNat 0).toNat).st := fun b w => (han_p Run.st (fun _ => rfl)).trans (frt_p Run.st fun _ => rfl)
    refine ⟨hl, fun h => absurd hwk.t0 (by have := of_decide_eq_true h; omega), fun _ => ?_⟩
    have g1 : ((W.tasks (W.lines a.toNat 0).toNat).st == 3) = true → takW W t a = owW (akW (tkV W t a.toNat) (W.lines a.toNat 0).toNat) t.toNat (W.lines a.toNat 0) := fun g => ((takW_t (t := t) (a := a) hw).trans (tsW_t (t := t) (a := a) hb)).trans (tgW_t (t := t) (a := a) g)
    have g2 : ((W.tasks (W.lines a.toNat 0).toNat).st == 3) = false → takW W t a = wokW (tkV W t a.toNat) (W.lines a.toNat 0).toNat := fun g => ((takW_t (t := t) (a := a) hw).trans (tsW_t (t := t) (a := a) hb)).trans (tgW_f (t := t) (a := a) g)
    refine ⟨ub, ub, tb, ub, ub, ub, ?_, ?_⟩
    · intro g
      rw [hst] at g
      refine ⟨ub, tb, he.symm, ?_⟩
      have e_tasks : takW_tasks W t a = _ := congrArg Wd.tasks (g1 g)
      have e_linesN : takW_linesN W t a = _ := congrArg Wd.linesN (g1 g)
      have e_lines : takW_lines W t a = _ := congrArg Wd.lines (g1 g)
      have e_cores : takW_cores W t a = _ := congrArg Wd.cores (g1 g)
      have e_readyN : takW_readyN W t a = _ := congrArg Wd.readyN (g1 g)
      have e_ready : takW_ready W t a = _ := congrArg Wd.ready (g1 g)
      simp only [e_tasks, e_linesN, e_lines, e_cores, e_readyN, e_ready]
      clear e_tasks e_linesN e_lines e_cores e_readyN e_ready
      refine ⟨fun j _ => ?_, ?_⟩
      · skip
        rcases Decidable.em (j = (W.lines a.toNat 0).toNat) with h1 | h1
        · subst h1
          rcases Decidable.em ((W.lines a.toNat 0).toNat = t.toNat) with h2 | h2
          · simp only [beqT h2, Nat.beq_refl, cond_true, akW_at, wbW_at, owW_eq h2, tkV]; repeat' (first | exact trivial | rfl | refine And.intro ?_ ?_)
          · simp only [beq_ne h2, Nat.beq_refl, cond_true, cond_false, akW_at, wbW_at, owW_ne h2, tkV]; repeat' (first | exact trivial | rfl | refine And.intro ?_ ?_)
        · rcases Decidable.em (j = t.toNat) with h2 | h2
          · subst h2
            simp only [beq_ne h1, Nat.beq_refl, cond_true, cond_false, akW_ne h1, wbW_ne h1, owW_at, tkV]; repeat' (first | exact trivial | rfl | refine And.intro ?_ ?_)
          · simp only [beq_ne h1, beq_ne h2, cond_false, akW_ne h1, wbW_ne h1, owW_ne h2, tkV]; repeat' (first | exact trivial | rfl | refine And.intro ?_ ?_)
      · skip
        repeat' (first | exact trivial | exact run20 rfl | rfl | refine And.intro ?_ ?_ | intro _ | fail)
    · intro g
      rw [hst] at g
      refine ⟨hk2, he.symm, ?_⟩
      have e_tasks : takW_tasks W t a = _ := congrArg Wd.tasks (g2 g)
      have e_linesN : takW_linesN W t a = _ := congrArg Wd.linesN (g2 g)
      have e_lines : takW_lines W t a = _ := congrArg Wd.lines (g2 g)
      have e_cores : takW_cores W t a = _ := congrArg Wd.cores (g2 g)
      have e_readyN : takW_readyN W t a = _ := congrArg Wd.readyN (g2 g)
      have e_ready : takW_ready W t a = _ := congrArg Wd.ready (g2 g)
      simp only [e_tasks, e_linesN, e_lines, e_cores, e_readyN, e_ready]
      clear e_tasks e_linesN e_lines e_cores e_readyN e_ready
      repeat' (first | exact trivial | exact run20 rfl | rfl | refine And.intro ?_ ?_ | intro _ | fail)
structure X_takP where
  (t a : Int) (W : Wd)
def s_takP : Sy.Spec := ⟨X_takP, fun ⟨t, a, _⟩ => [.ptr 0 0 none 0 0, .v (.int .i64 t), .v (.int .i64 a)], fun ⟨_, _, W⟩ => wMem W, fun ⟨t, a, W⟩ => DoP W t a, fun ⟨t, _, W⟩ => .er 35 116 (takE W t) (-1), fun ⟨t, a, W⟩ => wMem (takW W t a),
  fun args mem => match args with | [a0, a1, a2] => some ⟨intD (a1), intD (a2), wMJD mem 0⟩ | _ => none⟩
def c_takP : Con := ⟨[true], s_takP.g, none⟩
def V_takP : X_takP → Prop := fun ⟨t, a, W⟩ => let a0:=W.nTasks;let b0:=0≤t∧t<(a0:Int);let c0:=Int.toNat t;let d0:=decide (0≤(W.tasks (0+c0)).owes);let e0:=0=0;let g0:=W.nRam;let h0:=g0=g0;let k0:=W.nKinds;let l0:=k0=k0;let o0:=W.nSlots;let q0:=o0=o0;let u0:=a0=a0;let v0:=W.nLines;let w0:=v0=v0;let x0:=W.nBits;let y0:=x0=x0;let z0:=W.nCores;let a1:=z0=z0;let b1:=W.nReady;let c1:=b1=b1;let d1:=W.nTlbs;let e1:=d1=d1;let g1:=W.nDoms;let h1:=g1=g1;let k1:=((((((((((True∧e0∧h0)∧e0∧l0)∧e0∧q0)∧e0∧u0)∧e0∧w0)∧e0∧y0)∧e0∧a1)∧e0∧c1)∧e0∧e1)∧e0∧h1)∧W.time=W.time;let l1:=h0∧(∀o1:Nat,o1<g0→True∧W.ram o1=W.ram o1);let q1:=l0∧(∀u1:Nat,u1<k0→True∧W.kinds u1=W.kinds u1);let v1:=q0∧(∀w1:Nat,let x1:=W.slots w1;let y1:=x1.kind;let z1:=x1.base;let a2:=x1.len;let b2:=x1.mark;let c2:=x1.rights;let d2:=x1.badge;let e2:=x1.from_;w1<o0→((((((True∧y1=y1)∧z1=z1)∧a2=a2)∧b2=b2)∧c2=c2)∧d2=d2)∧e2=e2);let g2:=y0∧(∀h2:Nat,h2<x0→True∧W.bits h2=W.bits h2);let k2:=a1∧(∀l2:Nat,l2<z0→True∧W.cores l2=takW_cores W t a l2);let o2:=(e1∧(∀q2:Nat,let u2:=W.tlbsN q2;q2<d1→True∧u2=u2∧(∀v2:Nat,let w2:=W.tlbs q2 v2;let x2:=w2.sp;let y2:=w2.pg;let z2:=w2.fr;let a3:=w2.wr;v2<u2→(((True∧x2=x2)∧y2=y2)∧z2=z2)∧a3=a3)))∧(h1∧(∀b3:Nat,b3<g1→True∧W.doms b3=W.doms b3))∧True;let c3:=(c1∧(∀d3:Nat,let e3:=takW_readyN W t a d3;d3<b1→True∧W.readyN d3=e3∧(∀g3:Nat,g3<e3→True∧W.ready d3 g3=takW_ready W t a d3 g3)))∧o2;let h3:=g2∧k2∧c3;let k3:=SV.ptr 0 0 none 0 0=SV.ptr 0 0 none 0 0;let l3:=[(2:Int),3];
    let o3:=g2∧(a1∧(∀q3:Nat,q3<z0→True∧W.cores q3=W.cores q3))∧(c1∧(∀u3:Nat,let v3:=W.readyN u3;u3<b1→True∧v3=v3∧(∀w3:Nat,w3<v3→True∧W.ready u3 w3=W.ready u3 w3)))∧o2;let x3:=Int.toNat a;let y3:=fntB W x3 (fun z3:Int=>anyB 2 (fun a4:Nat=>z3==List.getD l3 (0+a4) 0));let b4:=frtI W x3 y3;let c4:=decide (b4<0);let d4:=(w0∧(∀e4:Nat,let g4:=frtN W x3 y3 e4;e4<v0→True∧g4=g4∧(∀h4:Nat,let k4:=frtL W x3 y3 e4 h4;h4<g4→True∧k4=k4)))∧o3;let l4:=k1∧l1∧q1∧v1∧(u0∧(∀o4:Nat,let q4:=frtS W x3 y3 o4;let u4:=q4.r0;let v4:=q4.r1;let w4:=q4.r2;let x4:=q4.r3;let y4:=q4.r4;let z4:=q4.r5;let a5:=q4.r6;let b5:=q4.r7;let c5:=q4.pc;let d5:=q4.st;let e5:=q4.prio;let g5:=q4.node;let h5:=q4.space;let k5:=q4.helper;let l5:=q4.loc;let o5:=q4.word;let q5:=q4.badge;let u5:=q4.owes;let v5:=q4.core;let w5:=q4.dom;o4<a0→(((((((((((((((((((True∧u4=u4)∧v4=v4)∧w4=w4)∧x4=x4)∧y4=y4)∧z4=z4)∧a5=a5)∧b5=b5)∧c5=c5)∧d5=d5)∧e5=e5)∧g5=g5)∧h5=h5)∧k5=k5)∧l5=l5)∧o5=o5)∧q5=q5)∧u5=u5)∧v5=v5)∧w5=w5))∧d4;let x5:=frtW W x3 y3;let y5:=takE W t=0∧((-1):Int)=(-1);let z5:=0≤b4∧b4<(a0:Int);let a6:=Int.toNat b4;let b6:=0+a6;let c6:=frtS W x3 y3 b6;let d6:=c6.badge;let e6:=c6.word;let g6:=false=false;let h6:=(hnS x5 c0 d6 e6 b6).st==3;let k6:=w0∧(∀l6:Nat,let o6:=takW_linesN W t a l6;l6<v0→True∧frtN W x3 y3 l6=o6∧(∀q6:Nat,q6<o6→True∧frtL W x3 y3 l6 q6=takW_lines W t a l6 q6));
    let u6:=Wd.mk g0 W.ram k0 W.kinds o0 W.slots a0 (fun v6:Nat=>let w6:=hnS x5 c0 d6 e6 v6;Run.mk w6.r0 w6.r1 w6.r2 w6.r3 w6.r4 w6.r5 w6.r6 w6.r7 w6.pc w6.st w6.prio w6.node w6.space w6.helper w6.loc (cond (Nat.beq v6 b6) 0 w6.word) (cond (Nat.beq v6 b6) 0 w6.badge) w6.owes w6.core w6.dom) v0 (frtN W x3 y3) (frtL W x3 y3) x0 W.bits z0 W.cores b1 W.readyN W.ready d1 W.tlbsN W.tlbs g1 W.doms W.time;b0∧(d0=true→((7:Int)≠0∧takE W t=7∧((-1):Int)=(-1))∧k1∧l1∧q1∧v1∧(u0∧(∀x6:Nat,let y6:=W.tasks x6;let z6:=takW_tasks W t a x6;x6<a0→(((((((((((((((((((True∧y6.r0=z6.r0)∧y6.r1=z6.r1)∧y6.r2=z6.r2)∧y6.r3=z6.r3)∧y6.r4=z6.r4)∧y6.r5=z6.r5)∧y6.r6=z6.r6)∧y6.r7=z6.r7)∧y6.pc=z6.pc)∧y6.st=z6.st)∧y6.prio=z6.prio)∧y6.node=z6.node)∧y6.space=z6.space)∧y6.helper=z6.helper)∧y6.loc=z6.loc)∧y6.word=z6.word)∧y6.badge=z6.badge)∧y6.owes=z6.owes)∧y6.core=z6.core)∧y6.dom=z6.dom))∧(w0∧(∀a7:Nat,let b7:=takW_linesN W t a a7;a7<v0→True∧W.linesN a7=b7∧(∀c7:Nat,c7<b7→True∧W.lines a7 c7=takW_lines W t a a7 c7)))∧h3)∧(d0=false→True∧((k3∧a=a∧(2=2∧(∀d7:Nat,let e7:=List.getD l3 (0+d7) 0;d7<2→True∧e7=e7))∧True)∧(k1∧l1∧q1∧v1∧(u0∧(∀g7:Nat,let h7:=W.tasks g7;let k7:=h7.prio;let l7:=h7.node;let o7:=h7.space;let q7:=h7.helper;let u7:=h7.loc;let v7:=h7.word;let w7:=h7.badge;let x7:=h7.owes;let y7:=h7.core;let z7:=h7.dom;g7<a0→(((((((((((((((((((True∧h7.r0=h7.r0)∧h7.r1=h7.r1)∧h7.r2=h7.r2)∧h7.r3=h7.r3)∧h7.r4=h7.r4)∧h7.r5=h7.r5)∧h7.r6=h7.r6)∧h7.r7=h7.r7)∧h7.pc=h7.pc)∧h7.st=h7.st)∧k7=k7)∧l7=l7)∧o7=o7)∧q7=q7)∧u7=u7)∧v7=v7)∧w7=w7)∧
    x7=x7)∧y7=y7)∧z7=z7))∧(w0∧(∀a8:Nat,let b8:=W.linesN a8;a8<v0→True∧b8=b8∧(∀c8:Nat,c8<b8→True∧W.lines a8 c8=W.lines a8 c8)))∧o3)∧LnP W a∧2≤1000)∧(c4=true→((k3∧t=t∧a=a∧(4:Int)=4∧True)∧l4∧OfP x5 t∧LnP x5 a)∧y5∧k1∧l1∧q1∧v1∧(u0∧(∀d8:Nat,let e8:=sdS x5 c0 a 4 d8;let g8:=takW_tasks W t a d8;d8<a0→(((((((((((((((((((True∧e8.r0=g8.r0)∧e8.r1=g8.r1)∧e8.r2=g8.r2)∧e8.r3=g8.r3)∧e8.r4=g8.r4)∧e8.r5=g8.r5)∧e8.r6=g8.r6)∧e8.r7=g8.r7)∧e8.pc=g8.pc)∧e8.st=g8.st)∧e8.prio=g8.prio)∧e8.node=g8.node)∧e8.space=g8.space)∧e8.helper=g8.helper)∧e8.loc=g8.loc)∧e8.word=g8.word)∧e8.badge=g8.badge)∧e8.owes=g8.owes)∧e8.core=g8.core)∧e8.dom=g8.dom))∧(w0∧(∀h8:Nat,let k8:=takW_linesN W t a h8;h8<v0→True∧sdN x5 x3 h8=k8∧(∀l8:Nat,l8<k8→True∧sdL x5 t x3 h8 l8=takW_lines W t a h8 l8)))∧g2∧(a1∧(∀o8:Nat,o8<z0→True∧ofC x5 t o8=takW_cores W t a o8))∧c3)∧(c4=false→tn 7 (z5∧tn 7 (z5∧tn 2 (((k3∧t=t∧d6=d6∧e6=e6∧True)∧l4∧b0)∧z5∧tn 10 (z5∧(∀q8:Nat,g6)∧z5∧(∀r8:Nat,g6)∧(h6=true→z5∧(∀u8:Nat,g6)∧b0∧(∀v8:Nat,g6)∧y5∧k1∧l1∧q1∧v1∧(u0∧(∀w8:Nat,let x8:=hnS x5 c0 d6 e6 w8;let y8:=takW_tasks W t a w8;let z8:=Nat.beq w8 b6;w8<a0→(((((((((((((((((((True∧x8.r0=y8.r0)∧x8.r1=y8.r1)∧x8.r2=y8.r2)∧x8.r3=y8.r3)∧x8.r4=y8.r4)∧x8.r5=y8.r5)∧x8.r6=y8.r6)∧x8.r7=y8.r7)∧x8.pc=y8.pc)∧cond z8 5 x8.st=y8.st)∧x8.prio=y8.prio)∧x8.node=y8.node)∧x8.space=y8.space)∧x8.helper=y8.helper)∧x8.loc=y8.loc)∧cond z8 0 x8.word=y8.word)∧cond z8 0 x8.badge=y8.badge)∧cond (Nat.beq w8 (0+c0)) b4 x8.owes=y8.owes)∧x8.core=y8.core)∧x8.dom=y8.dom))∧k6∧h3)∧(h6=false→((k3∧b4=b4∧
    True)∧(k1∧l1∧q1∧v1∧(u0∧(∀a9:Nat,let b9:=hnS x5 c0 d6 e6 a9;let c9:=b9.r0;let d9:=b9.r1;let e9:=b9.r2;let g9:=b9.r3;let h9:=b9.r4;let k9:=b9.r5;let l9:=b9.r6;let o9:=b9.r7;let q9:=b9.pc;let r9:=b9.st;let u9:=b9.prio;let v9:=b9.node;let w9:=b9.space;let x9:=b9.helper;let y9:=b9.loc;let z9:Int:=cond (Nat.beq a9 b6) 0 b9.word;let a10:Int:=cond (Nat.beq a9 b6) 0 b9.badge;let b10:=b9.owes;let c10:=b9.core;let d10:=b9.dom;a9<a0→(((((((((((((((((((True∧c9=c9)∧d9=d9)∧e9=e9)∧g9=g9)∧h9=h9)∧k9=k9)∧l9=l9)∧o9=o9)∧q9=q9)∧r9=r9)∧u9=u9)∧v9=v9)∧w9=w9)∧x9=x9)∧y9=y9)∧z9=z9)∧a10=a10)∧b10=b10)∧c10=c10)∧d10=d10))∧d4)∧s_wake.match_1 (fun e10:X_wake=>Prop) (X_wake.mk b4 u6) (fun g10:Int=>fun h10:Wd=>WkP h10 g10))∧y5∧k1∧l1∧q1∧v1∧(u0∧(∀k10:Nat,let l10:=wkS u6 a6 k10;let o10:=takW_tasks W t a k10;k10<a0→(((((((((((((((((((True∧l10.r0=o10.r0)∧l10.r1=o10.r1)∧l10.r2=o10.r2)∧l10.r3=o10.r3)∧l10.r4=o10.r4)∧l10.r5=o10.r5)∧l10.r6=o10.r6)∧l10.r7=o10.r7)∧l10.pc=o10.pc)∧l10.st=o10.st)∧l10.prio=o10.prio)∧l10.node=o10.node)∧l10.space=o10.space)∧l10.helper=o10.helper)∧l10.loc=o10.loc)∧l10.word=o10.word)∧l10.badge=o10.badge)∧l10.owes=o10.owes)∧l10.core=o10.core)∧l10.dom=o10.dom))∧k6∧g2∧k2∧(c1∧(∀q10:Nat,let r10:=takW_readyN W t a q10;q10<b1→True∧wkN u6 a6 q10=r10∧(∀u10:Nat,u10<r10→True∧wkL u6 a6 q10 u10=takW_ready W t a q10 u10)))∧o2)))))))
set_option maxHeartbeats 1000000 in
theorem ok_takP : FnOK Tryz.prog glN 111 c_takP := ok_of (.cons ok_first_ (.cons ok_wait_ (.cons ok_hand (.cons ok_wake .nil)))) false Tryz.call111 Tryz.func111 (fun _ => []) (V := V_takP) (fun _ => by kernel_rfl) fun ⟨t, a, W⟩ hp => by
  dsimp only [s_takP] at hp
  dsimp only [V_takP, tn, w64]
  simp only [std, stb, eq_self, implies_true, Bool.cond_self]
  try simp only [wd_eta]
  simp only [lit_owes, lit_wb, lit_st]
  obtain ⟨hl, ho, hc, hw0, hf⟩ := hp
  have t0 := ho.t0
  have t1 := ho.t1
  have tb := And.intro t0 t1
  refine ⟨tb, fun h => ?_, fun h => ?_⟩
  · have hw : ((W.tasks t.toNat).owes == -1) = false := by have := of_decide_eq_true h; simp only [beq_eq_false_iff_ne]; omega
    refine ⟨⟨by decide, by unfold takE; rw [hw]; rfl⟩, ?_⟩
    have e_tasks : takW_tasks W t a = _ := congrArg Wd.tasks (takW_f (t := t) (a := a) hw)
    have e_linesN : takW_linesN W t a = _ := congrArg Wd.linesN (takW_f (t := t) (a := a) hw)
    have e_lines : takW_lines W t a = _ := congrArg Wd.lines (takW_f (t := t) (a := a) hw)
    have e_cores : takW_cores W t a = _ := congrArg Wd.cores (takW_f (t := t) (a := a) hw)
    have e_readyN : takW_readyN W t a = _ := congrArg Wd.readyN (takW_f (t := t) (a := a) hw)
    have e_ready : takW_ready W t a = _ := congrArg Wd.ready (takW_f (t := t) (a := a) hw)
    simp only [e_tasks, e_linesN, e_lines, e_cores, e_readyN, e_ready]
    clear e_tasks e_linesN e_lines e_cores e_readyN e_ready
    repeat' (first | exact trivial | exact run20 rfl | rfl | refine And.intro ?_ ?_ | intro _ | fail)
  have hw : ((W.tasks t.toNat).owes == -1) = true := by have := of_decide_eq_false h; simp only [beq_iff_eq]; omega
  have he : takE W t = 0 := by unfold takE; rw [hw]; rfl
  rcases Nat.eq_zero_or_pos (W.linesN a.toNat) with h0 | h0
  · have hb : sendB W a.toNat = false := fn0 h0
    have e : (fntB W a.toNat fun d3 => anyB 2 fun e3 => d3 == [2, 3].getD e3 0) = false := fn0 h0
    simp only [e, show frtI W a.toNat false = -1 from rfl]
    refine ⟨⟨hl, by decide⟩, fun _ => ⟨⟨ho.frt, ⟨hl.a0, hl.a1, hl.n, hl.h⟩⟩, he, ?_⟩, fun h => absurd h (by decide)⟩
    have e_tasks : takW_tasks W t a = _ := congrArg Wd.tasks ((takW_t (t := t) (a := a) hw).trans (tsW_f (t := t) (a := a) hb))
    have e_linesN : takW_linesN W t a = _ := congrArg Wd.linesN ((takW_t (t := t) (a := a) hw).trans (tsW_f (t := t) (a := a) hb))
    have e_lines : takW_lines W t a = _ := congrArg Wd.lines ((takW_t (t := t) (a := a) hw).trans (tsW_f (t := t) (a := a) hb))
    have e_cores : takW_cores W t a = _ := congrArg Wd.cores ((takW_t (t := t) (a := a) hw).trans (tsW_f (t := t) (a := a) hb))
    have e_readyN : takW_readyN W t a = _ := congrArg Wd.readyN ((takW_t (t := t) (a := a) hw).trans (tsW_f (t := t) (a := a) hb))
    have e_ready : takW_ready W t a = _ := congrArg Wd.ready ((takW_t (t := t) (a := a) hw).trans (tsW_f (t := t) (a := a) hb))
    simp only [e_tasks, e_linesN, e_lines, e_cores, e_readyN, e_ready]
    clear e_tasks e_linesN e_lines e_cores e_readyN e_ready
    repeat' (first | exact trivial | exact run20 rfl | rfl | refine And.intro ?_ ?_ | intro _ | fail)
  have hn : W.linesN a.toNat ≠ 0 := by omega
  obtain ⟨hwk, hs2, hs4⟩ := hf h0
  cases hq : isWt (W.tasks (W.lines a.toNat 0).toNat).st with
  | true =>
    have hb : sendB W a.toNat = false := fn1 hn (by show (!isWt _) = false; rw [hq]; rfl)
    have e : (fntB W a.toNat fun d3 => anyB 2 fun e3 => d3 == [2, 3].getD e3 0) = false := fn1 hn (by exact (any23 hs2 hs4).trans (by rw [hq]; rfl))
    simp only [e, show frtI W a.toNat false = -1 from rfl]
    refine ⟨⟨hl, by decide⟩, fun _ => ⟨⟨ho.frt, ⟨hl.a0, hl.a1, hl.n, hl.h⟩⟩, he, ?_⟩, fun h => absurd h (by decide)⟩
    have e_tasks : takW_tasks W t a = _ := congrArg Wd.tasks ((takW_t (t := t) (a := a) hw).trans (tsW_f (t := t) (a := a) hb))
    have e_linesN : takW_linesN W t a = _ := congrArg Wd.linesN ((takW_t (t := t) (a := a) hw).trans (tsW_f (t := t) (a := a) hb))
    have e_lines : takW_lines W t a = _ := congrArg Wd.lines ((takW_t (t := t) (a := a) hw).trans (tsW_f (t := t) (a := a) hb))
    have e_cores : takW_cores W t a = _ := congrArg Wd.cores ((takW_t (t := t) (a := a) hw).trans (tsW_f (t := t) (a := a) hb))
    have e_readyN : takW_readyN W t a = _ := congrArg Wd.readyN ((takW_t (t := t) (a := a) hw).trans (tsW_f (t := t) (a := a) hb))
    have e_ready : takW_ready W t a = _ := congrArg Wd.ready ((takW_t (t := t) (a := a) hw).trans (tsW_f (t := t) (a := a) hb))
    simp only [e_tasks, e_linesN, e_lines, e_cores, e_readyN, e_ready]
    clear e_tasks e_linesN e_lines e_cores e_readyN e_ready
    repeat' (first | exact trivial | exact run20 rfl | rfl | refine And.intro ?_ ?_ | intro _ | fail)
  | false =>
    have hb : sendB W a.toNat = true := fn1 hn (by show (!isWt _) = true; rw [hq]; rfl)
    have e : (fntB W a.toNat fun d3 => anyB 2 fun e3 => d3 == [2, 3].getD e3 0) = true := fn1 hn (by exact (any23 hs2 hs4).trans (by rw [hq]; rfl))
    simp only [e, show frtI W a.toNat true = W.lines a.toNat 0 from rfl]
    have ub := And.intro hwk.t0 hwk.t1
    have hk2 : WkP (tkV W t a.toNat) (W.lines a.toNat 0) := (hwk.frt.han).of rfl rfl rfl (updF_cp Run.core rfl) (updF_cp Run.prio rfl)
    have hst : ∀ b w, (hnS (frtW W a.toNat true) t.toNat b w (W.lines a.toNat 0).toNat).st = (W.tasks (W.lines a.toNat 0).toNat).st := fun b w => (han_p Run.st (fun _ => rfl)).trans (frt_p Run.st fun _ => rfl)
    refine ⟨⟨hl, by decide⟩, fun h => absurd hwk.t0 (by have := of_decide_eq_true h; omega), fun _ => ?_⟩
    have g1 : ((W.tasks (W.lines a.toNat 0).toNat).st == 3) = true → takW W t a = owW (akW (tkV W t a.toNat) (W.lines a.toNat 0).toNat) t.toNat (W.lines a.toNat 0) := fun g => ((takW_t (t := t) (a := a) hw).trans (tsW_t (t := t) (a := a) hb)).trans (tgW_t (t := t) (a := a) g)
    have g2 : ((W.tasks (W.lines a.toNat 0).toNat).st == 3) = false → takW W t a = wokW (tkV W t a.toNat) (W.lines a.toNat 0).toNat := fun g => ((takW_t (t := t) (a := a) hw).trans (tsW_t (t := t) (a := a) hb)).trans (tgW_f (t := t) (a := a) g)
    refine ⟨ub, ub, tb, ub, ub, ub, ?_, ?_⟩
    · intro g
      rw [hst] at g
      refine ⟨ub, tb, he, ?_⟩
      have e_tasks : takW_tasks W t a = _ := congrArg Wd.tasks (g1 g)
      have e_linesN : takW_linesN W t a = _ := congrArg Wd.linesN (g1 g)
      have e_lines : takW_lines W t a = _ := congrArg Wd.lines (g1 g)
      have e_cores : takW_cores W t a = _ := congrArg Wd.cores (g1 g)
      have e_readyN : takW_readyN W t a = _ := congrArg Wd.readyN (g1 g)
      have e_ready : takW_ready W t a = _ := congrArg Wd.ready (g1 g)
      simp only [e_tasks, e_linesN, e_lines, e_cores, e_readyN, e_ready]
      clear e_tasks e_linesN e_lines e_cores e_readyN e_ready
      refine ⟨fun j _ => ?_, ?_⟩
      · skip
        rcases Decidable.em (j = (W.lines a.toNat 0).toNat) with h1 | h1
        · subst h1
          rcases Decidable.em ((W.lines a.toNat 0).toNat = t.toNat) with h2 | h2
          · simp only [beqT h2, Nat.beq_refl, cond_true, akW_at, wbW_at, owW_eq h2, tkV]; repeat' (first | exact trivial | rfl | refine And.intro ?_ ?_)
          · simp only [beq_ne h2, Nat.beq_refl, cond_true, cond_false, akW_at, wbW_at, owW_ne h2, tkV]; repeat' (first | exact trivial | rfl | refine And.intro ?_ ?_)
        · rcases Decidable.em (j = t.toNat) with h2 | h2
          · subst h2
            simp only [beq_ne h1, Nat.beq_refl, cond_true, cond_false, akW_ne h1, wbW_ne h1, owW_at, tkV]; repeat' (first | exact trivial | rfl | refine And.intro ?_ ?_)
          · simp only [beq_ne h1, beq_ne h2, cond_false, akW_ne h1, wbW_ne h1, owW_ne h2, tkV]; repeat' (first | exact trivial | rfl | refine And.intro ?_ ?_)
      · skip
        repeat' (first | exact trivial | exact run20 rfl | rfl | refine And.intro ?_ ?_ | intro _ | fail)
    · intro g
      rw [hst] at g
      refine ⟨hk2, he, ?_⟩
      have e_tasks : takW_tasks W t a = _ := congrArg Wd.tasks (g2 g)
      have e_linesN : takW_linesN W t a = _ := congrArg Wd.linesN (g2 g)
      have e_lines : takW_lines W t a = _ := congrArg Wd.lines (g2 g)
      have e_cores : takW_cores W t a = _ := congrArg Wd.cores (g2 g)
      have e_readyN : takW_readyN W t a = _ := congrArg Wd.readyN (g2 g)
      have e_ready : takW_ready W t a = _ := congrArg Wd.ready (g2 g)
      simp only [e_tasks, e_linesN, e_lines, e_cores, e_readyN, e_ready]
      clear e_tasks e_linesN e_lines e_cores e_readyN e_ready
      repeat' (first | exact trivial | exact run20 rfl | rfl | refine And.intro ?_ ?_ | intro _ | fail)
end Go.Proofs.YtdjilaofmdhikaaGreatDoor
set_option linter.unusedVariables false
set_option linter.unusedSimpArgs false
set_option maxRecDepth 100000
namespace Go.Proofs.YtdjilaofmdhikaaGreatDoor
open Go.RowKit Go.Sy
theorem all1 {p : Nat → Bool} : allB 1 p = p 0 := by
  rw [Bool.eq_iff_iff, allB_iff]
  exact ⟨fun h => h 0 (by omega), fun h i hi => by obtain rfl : i = 0 := by omega
                                                   exact h⟩
theorem co_uni {W : Wd} (h : Snd W) (t : Int) (j : Nat) (h0 : 0 ≤ t) (hj : j < W.nCores) (he : W.cores j = t) : (W.tasks t.toNat).core = j := by
  have hc := h.co j hj
  unfold coB at hc
  rw [he] at hc
  simp only [Bool.or_eq_true, beq_iff_eq] at hc
  rcases hc with hc | hc
  · omega
  · exact (rdB_in hc).2.2.2.1
theorem ac_of {W : Wd} (h : Snd W) (hs : Sm W) : AcP W := ⟨h.z, fun i hi => ((inv_of h hs).tk i hi).core, co_uni h⟩
theorem of_of {W : Wd} (h : Snd W) (hs : Sm W) {t : Int} (t0 : 0 ≤ t) (t1 : t < W.nTasks) : OfP W t := by
  have hc := ((inv_of h hs).tk t.toNat (by omega)).core
  exact ⟨t0, t1, hc.1, hc.2, fun j hj he => co_uni h t j t0 hj he⟩
theorem wk_of {W : Wd} (h : Snd W) (hs : Sm W) {t : Int} (t0 : 0 ≤ t) (t1 : t < W.nTasks) : WkP W t := inv_wkp (inv_of h hs) (by decide) t0 t1
theorem ln_of {W : Wd} (h : Snd W) (hs : Sm W) {a : Int} (a0 : 0 ≤ a) (a1 : a < W.nLines) : LnP W a := by
  have hl := (inv_of h hs).ln a.toNat (by omega)
  exact ⟨a0, a1, by omega, fun hn => hl.2 0 hn⟩
theorem fst_st {W : Wd} (h : Snd W) {a : Nat} (ha : a < W.nKinds) (hn : 0 < W.linesN a) : (W.kinds a = 7 ∧ 2 ≤ (W.tasks (W.lines a 0).toNat).st ∧ (W.tasks (W.lines a 0).toNat).st ≤ 4) ∨ (W.kinds a = 8 ∧ (W.tasks (W.lines a 0).toNat).st = 6) := by
  have hl := h.ln a ha
  unfold lnB at hl
  simp only [Bool.and_eq_true] at hl
  have ht := allB_iff.1 hl.2 0 hn
  unfold lnTest at ht
  simp only [Bool.and_eq_true, beq_iff_eq] at ht
  obtain ⟨⟨h1, h2⟩, _⟩ := ht
  have hi := kof_in (W := W) (f := W.lines a 0) (by rw [h1]; decide)
  rw [kof_eq hi] at h1
  have hT := h.tk (W.lines a 0).toNat (by omega)
  unfold tkB at hT
  simp only [show (W.kinds (W.lines a 0).toNat != 6) = false by rw [h1]; decide, cond_false, Bool.and_eq_true] at hT
  have hT := hT.2
  have ka : kof W (a : Int) = W.kinds a := kof_eq (W := W) (f := (a : Int)) (by omega)
  unfold stOK standOK at hT
  dsimp only at hT
  rw [h2, ka] at hT
  cases c1 : (W.tasks (W.lines a 0).toNat).st == 2 <;> cases c2 : (W.tasks (W.lines a 0).toNat).st == 3 <;> cases c3 : (W.tasks (W.lines a 0).toNat).st == 4 <;> cases c4 : (W.tasks (W.lines a 0).toNat).st == 6 <;> cases c5 : (W.tasks (W.lines a 0).toNat).st == 1 <;> simp only [c1, c2, c3, c4, c5, Bool.or_true, Bool.true_or, Bool.or_false, cond_true, cond_false, Bool.and_eq_true, beq_iff_eq] at hT <;> simp only [beq_iff_eq, beq_eq_false_iff_ne] at c1 c2 c3 c4 c5 <;> omega
theorem do_of {W : Wd} (h : Snd W) (hs : Sm W) {t a : Int} (t0 : 0 ≤ t) (t1 : t < W.nKinds) (a0 : 0 ≤ a) (a1 : a < W.nKinds) (hk : W.kinds a.toNat = 7) : DoP W t a := by
  have I := inv_of h hs
  have z1 := h.z.lines
  have z3 := h.z.tasks
  have z4 := h.z.c1
  have hl := I.ln a.toNat (by omega)
  refine ⟨ln_of h hs a0 (by omega), of_of h hs t0 (by omega), by omega, (I.tk t.toNat (by omega)).owes.1, fun hn => ?_⟩
  have hf := hl.2 0 hn
  refine ⟨wk_of h hs hf.1 hf.2, ?_⟩
  rcases fst_st h (by omega) hn with e | e
  · exact e.2
  · omega
theorem act_0 {W : Wd} {t a k : Int} (h : actE W t a k = 0) : 0 ≤ t ∧ t < W.nKinds ∧ 0 ≤ a ∧ a < W.nKinds ∧ W.kinds t.toNat = 6 ∧ W.kinds a.toNat = k := by
  unfold actE at h
  cases h1 : (decide (t < 0) || decide ((W.nKinds : Int) ≤ t) || decide (a < 0) || decide ((W.nKinds : Int) ≤ a)) with
  | true => rw [h1] at h; exact absurd (show (2 : Int) = 0 from h) (by decide)
  | false =>
    cases h2 : (W.kinds t.toNat != 6 || W.kinds a.toNat != k) with
    | true => rw [h1, h2] at h; exact absurd (show (3 : Int) = 0 from h) (by decide)
    | false =>
      simp only [Bool.or_eq_false_iff, decide_eq_false_iff_not, bne_eq_false_iff_eq] at h1 h2
      omega
end Go.Proofs.YtdjilaofmdhikaaGreatDoor
