/- Sending, taking, answering. -/
import Derived.Test.YtdjilaofmdhikaaGreatDoorYN
set_option linter.unusedVariables false
set_option linter.unusedSimpArgs false
set_option linter.unusedVariables false
set_option linter.unusedSimpArgs false
set_option maxRecDepth 100000
namespace Go.Proofs.YtdjilaofmdhikaaGreatDoor
open Go.RowKit Go.Sy
theorem lit_owes {f : Nat → Run} {u : Nat} {v0 : Int} : (fun x => (⟨(f x).r0, (f x).r1, (f x).r2, (f x).r3, (f x).r4, (f x).r5, (f x).r6, (f x).r7, (f x).pc, (f x).st, (f x).prio, (f x).node, (f x).space, (f x).helper, (f x).loc, (f x).word, (f x).badge, bif x.beq u then v0 else (f x).owes, (f x).core, (f x).dom⟩ : Run)) = updF f u { f u with owes := v0 } := by
  funext x
  rcases Decidable.em (x = u) with e | e
  · subst e; simp only [Nat.beq_refl, cond_true, updF_at]
  · simp only [beq_ne e, cond_false, updF_ne e]
theorem lit_wb {f : Nat → Run} {u : Nat} {v0 v1 : Int} : (fun x => (⟨(f x).r0, (f x).r1, (f x).r2, (f x).r3, (f x).r4, (f x).r5, (f x).r6, (f x).r7, (f x).pc, (f x).st, (f x).prio, (f x).node, (f x).space, (f x).helper, (f x).loc, bif x.beq u then v0 else (f x).word, bif x.beq u then v1 else (f x).badge, (f x).owes, (f x).core, (f x).dom⟩ : Run)) = updF f u { f u with word := v0, badge := v1 } := by
  funext x
  rcases Decidable.em (x = u) with e | e
  · subst e; simp only [Nat.beq_refl, cond_true, updF_at]
  · simp only [beq_ne e, cond_false, updF_ne e]
theorem lit_st {f : Nat → Run} {u : Nat} {v0 : Int} : (fun x => (⟨(f x).r0, (f x).r1, (f x).r2, (f x).r3, (f x).r4, (f x).r5, (f x).r6, (f x).r7, (f x).pc, bif x.beq u then v0 else (f x).st, (f x).prio, (f x).node, (f x).space, (f x).helper, (f x).loc, (f x).word, (f x).badge, (f x).owes, (f x).core, (f x).dom⟩ : Run)) = updF f u { f u with st := v0 } := by
  funext x
  rcases Decidable.em (x = u) with e | e
  · subst e; simp only [Nat.beq_refl, cond_true, updF_at]
  · simp only [beq_ne e, cond_false, updF_ne e]
def wbS (W : Wd) (t : Nat) (w b : Int) (i : Nat) : Run := updF W.tasks t { W.tasks t with word := w, badge := b } i
def wbW (W : Wd) (t : Nat) (w b : Int) : Wd := { W with tasks := wbS W t w b }
def akS (W : Wd) (t i : Nat) : Run := updF W.tasks t { W.tasks t with st := 5 } i
def akW (W : Wd) (t : Nat) : Wd := { W with tasks := akS W t }
def owS (W : Wd) (u : Nat) (t : Int) (i : Nat) : Run := updF W.tasks u { W.tasks u with owes := t } i
def owW (W : Wd) (u : Nat) (t : Int) : Wd := { W with tasks := owS W u t }
def isWt (s : Int) : Bool := s == 4
def waitB (W : Wd) (a : Nat) : Bool := fntB W a isWt
def gotW (W : Wd) (a : Nat) (bd wd : Int) : Wd := wokW (hanW (frtW W a true) (W.lines a 0).toNat bd wd) (W.lines a 0).toNat
def sgW_tasks (W : Wd) (t a bd wd : Int) (c : Bool) (i : Nat) : Run := bif c then (owW (akW (offW (gotW W a.toNat bd wd) t) t.toNat) (W.lines a.toNat 0).toNat t).tasks i else (gotW W a.toNat bd wd).tasks i
def sgW_linesN (W : Wd) (t a bd wd : Int) (c : Bool) (i : Nat) : Nat := bif c then (owW (akW (offW (gotW W a.toNat bd wd) t) t.toNat) (W.lines a.toNat 0).toNat t).linesN i else (gotW W a.toNat bd wd).linesN i
def sgW_lines (W : Wd) (t a bd wd : Int) (c : Bool) (i k : Nat) : Int := bif c then (owW (akW (offW (gotW W a.toNat bd wd) t) t.toNat) (W.lines a.toNat 0).toNat t).lines i k else (gotW W a.toNat bd wd).lines i k
def sgW_cores (W : Wd) (t a bd wd : Int) (c : Bool) (i : Nat) : Int := bif c then (owW (akW (offW (gotW W a.toNat bd wd) t) t.toNat) (W.lines a.toNat 0).toNat t).cores i else (gotW W a.toNat bd wd).cores i
def sgW_readyN (W : Wd) (t a bd wd : Int) (c : Bool) (i : Nat) : Nat := bif c then (owW (akW (offW (gotW W a.toNat bd wd) t) t.toNat) (W.lines a.toNat 0).toNat t).readyN i else (gotW W a.toNat bd wd).readyN i
def sgW_ready (W : Wd) (t a bd wd : Int) (c : Bool) (i k : Nat) : Int := bif c then (owW (akW (offW (gotW W a.toNat bd wd) t) t.toNat) (W.lines a.toNat 0).toNat t).ready i k else (gotW W a.toNat bd wd).ready i k
def sgW (W : Wd) (t a bd wd : Int) (c : Bool) : Wd := { W with tasks := sgW_tasks W t a bd wd c, linesN := sgW_linesN W t a bd wd c, lines := sgW_lines W t a bd wd c, cores := sgW_cores W t a bd wd c, readyN := sgW_readyN W t a bd wd c, ready := sgW_ready W t a bd wd c }
theorem sgW_t {W : Wd} {t a bd wd : Int} {c : Bool} (h : (c) = true) : sgW W t a bd wd c = owW (akW (offW (gotW W a.toNat bd wd) t) t.toNat) (W.lines a.toNat 0).toNat t := by
  have e_tasks : sgW_tasks W t a bd wd c = (owW (akW (offW (gotW W a.toNat bd wd) t) t.toNat) (W.lines a.toNat 0).toNat t).tasks := by
    funext i
    unfold sgW_tasks
    rw [h]
    rfl
  have e_linesN : sgW_linesN W t a bd wd c = (owW (akW (offW (gotW W a.toNat bd wd) t) t.toNat) (W.lines a.toNat 0).toNat t).linesN := by
    funext i
    unfold sgW_linesN
    rw [h]
    rfl
  have e_lines : sgW_lines W t a bd wd c = (owW (akW (offW (gotW W a.toNat bd wd) t) t.toNat) (W.lines a.toNat 0).toNat t).lines := by
    funext i k
    unfold sgW_lines
    rw [h]
    rfl
  have e_cores : sgW_cores W t a bd wd c = (owW (akW (offW (gotW W a.toNat bd wd) t) t.toNat) (W.lines a.toNat 0).toNat t).cores := by
    funext i
    unfold sgW_cores
    rw [h]
    rfl
  have e_readyN : sgW_readyN W t a bd wd c = (owW (akW (offW (gotW W a.toNat bd wd) t) t.toNat) (W.lines a.toNat 0).toNat t).readyN := by
    funext i
    unfold sgW_readyN
    rw [h]
    rfl
  have e_ready : sgW_ready W t a bd wd c = (owW (akW (offW (gotW W a.toNat bd wd) t) t.toNat) (W.lines a.toNat 0).toNat t).ready := by
    funext i k
    unfold sgW_ready
    rw [h]
    rfl
  show ({ W with tasks := sgW_tasks W t a bd wd c, linesN := sgW_linesN W t a bd wd c, lines := sgW_lines W t a bd wd c, cores := sgW_cores W t a bd wd c, readyN := sgW_readyN W t a bd wd c, ready := sgW_ready W t a bd wd c } : Wd) = _
  rw [e_tasks, e_linesN, e_lines, e_cores, e_readyN, e_ready] <;> kernel_rfl
theorem sgW_f {W : Wd} {t a bd wd : Int} {c : Bool} (h : (c) = false) : sgW W t a bd wd c = gotW W a.toNat bd wd := by
  have e_tasks : sgW_tasks W t a bd wd c = (gotW W a.toNat bd wd).tasks := by
    funext i
    unfold sgW_tasks
    rw [h]
    rfl
  have e_linesN : sgW_linesN W t a bd wd c = (gotW W a.toNat bd wd).linesN := by
    funext i
    unfold sgW_linesN
    rw [h]
    rfl
  have e_lines : sgW_lines W t a bd wd c = (gotW W a.toNat bd wd).lines := by
    funext i k
    unfold sgW_lines
    rw [h]
    rfl
  have e_cores : sgW_cores W t a bd wd c = (gotW W a.toNat bd wd).cores := by
    funext i
    unfold sgW_cores
    rw [h]
    rfl
  have e_readyN : sgW_readyN W t a bd wd c = (gotW W a.toNat bd wd).readyN := by
    funext i
    unfold sgW_readyN
    rw [h]
    rfl
  have e_ready : sgW_ready W t a bd wd c = (gotW W a.toNat bd wd).ready := by
    funext i k
    unfold sgW_ready
    rw [h]
    rfl
  show ({ W with tasks := sgW_tasks W t a bd wd c, linesN := sgW_linesN W t a bd wd c, lines := sgW_lines W t a bd wd c, cores := sgW_cores W t a bd wd c, readyN := sgW_readyN W t a bd wd c, ready := sgW_ready W t a bd wd c } : Wd) = _
  rw [e_tasks, e_linesN, e_lines, e_cores, e_readyN, e_ready] <;> kernel_rfl
def sndW_tasks (W : Wd) (t a bd wd : Int) (c : Bool) (i : Nat) : Run := bif waitB W a.toNat then (sgW W t a bd wd c).tasks i else (stdW (wbW W t.toNat wd bd) t a (bif c then 3 else 2)).tasks i
def sndW_linesN (W : Wd) (t a bd wd : Int) (c : Bool) (i : Nat) : Nat := bif waitB W a.toNat then (sgW W t a bd wd c).linesN i else (stdW (wbW W t.toNat wd bd) t a (bif c then 3 else 2)).linesN i
def sndW_lines (W : Wd) (t a bd wd : Int) (c : Bool) (i k : Nat) : Int := bif waitB W a.toNat then (sgW W t a bd wd c).lines i k else (stdW (wbW W t.toNat wd bd) t a (bif c then 3 else 2)).lines i k
def sndW_cores (W : Wd) (t a bd wd : Int) (c : Bool) (i : Nat) : Int := bif waitB W a.toNat then (sgW W t a bd wd c).cores i else (stdW (wbW W t.toNat wd bd) t a (bif c then 3 else 2)).cores i
def sndW_readyN (W : Wd) (t a bd wd : Int) (c : Bool) (i : Nat) : Nat := bif waitB W a.toNat then (sgW W t a bd wd c).readyN i else (stdW (wbW W t.toNat wd bd) t a (bif c then 3 else 2)).readyN i
def sndW_ready (W : Wd) (t a bd wd : Int) (c : Bool) (i k : Nat) : Int := bif waitB W a.toNat then (sgW W t a bd wd c).ready i k else (stdW (wbW W t.toNat wd bd) t a (bif c then 3 else 2)).ready i k
def sndW (W : Wd) (t a bd wd : Int) (c : Bool) : Wd := { W with tasks := sndW_tasks W t a bd wd c, linesN := sndW_linesN W t a bd wd c, lines := sndW_lines W t a bd wd c, cores := sndW_cores W t a bd wd c, readyN := sndW_readyN W t a bd wd c, ready := sndW_ready W t a bd wd c }
theorem sndW_t {W : Wd} {t a bd wd : Int} {c : Bool} (h : (waitB W a.toNat) = true) : sndW W t a bd wd c = sgW W t a bd wd c := by
  have e_tasks : sndW_tasks W t a bd wd c = (sgW W t a bd wd c).tasks := by
    funext i
    unfold sndW_tasks
    rw [h]
    rfl
  have e_linesN : sndW_linesN W t a bd wd c = (sgW W t a bd wd c).linesN := by
    funext i
    unfold sndW_linesN
    rw [h]
    rfl
  have e_lines : sndW_lines W t a bd wd c = (sgW W t a bd wd c).lines := by
    funext i k
    unfold sndW_lines
    rw [h]
    rfl
  have e_cores : sndW_cores W t a bd wd c = (sgW W t a bd wd c).cores := by
    funext i
    unfold sndW_cores
    rw [h]
    rfl
  have e_readyN : sndW_readyN W t a bd wd c = (sgW W t a bd wd c).readyN := by
    funext i
    unfold sndW_readyN
    rw [h]
    rfl
  have e_ready : sndW_ready W t a bd wd c = (sgW W t a bd wd c).ready := by
    funext i k
    unfold sndW_ready
    rw [h]
    rfl
  show ({ W with tasks := sndW_tasks W t a bd wd c, linesN := sndW_linesN W t a bd wd c, lines := sndW_lines W t a bd wd c, cores := sndW_cores W t a bd wd c, readyN := sndW_readyN W t a bd wd c, ready := sndW_ready W t a bd wd c } : Wd) = _
  rw [e_tasks, e_linesN, e_lines, e_cores, e_readyN, e_ready] <;> kernel_rfl
theorem sndW_f {W : Wd} {t a bd wd : Int} {c : Bool} (h : (waitB W a.toNat) = false) : sndW W t a bd wd c = stdW (wbW W t.toNat wd bd) t a (bif c then 3 else 2) := by
  have e_tasks : sndW_tasks W t a bd wd c = (stdW (wbW W t.toNat wd bd) t a (bif c then 3 else 2)).tasks := by
    funext i
    unfold sndW_tasks
    rw [h]
    rfl
  have e_linesN : sndW_linesN W t a bd wd c = (stdW (wbW W t.toNat wd bd) t a (bif c then 3 else 2)).linesN := by
    funext i
    unfold sndW_linesN
    rw [h]
    rfl
  have e_lines : sndW_lines W t a bd wd c = (stdW (wbW W t.toNat wd bd) t a (bif c then 3 else 2)).lines := by
    funext i k
    unfold sndW_lines
    rw [h]
    rfl
  have e_cores : sndW_cores W t a bd wd c = (stdW (wbW W t.toNat wd bd) t a (bif c then 3 else 2)).cores := by
    funext i
    unfold sndW_cores
    rw [h]
    rfl
  have e_readyN : sndW_readyN W t a bd wd c = (stdW (wbW W t.toNat wd bd) t a (bif c then 3 else 2)).readyN := by
    funext i
    unfold sndW_readyN
    rw [h]
    rfl
  have e_ready : sndW_ready W t a bd wd c = (stdW (wbW W t.toNat wd bd) t a (bif c then 3 else 2)).ready := by
    funext i k
    unfold sndW_ready
    rw [h]
    rfl
  show ({ W with tasks := sndW_tasks W t a bd wd c, linesN := sndW_linesN W t a bd wd c, lines := sndW_lines W t a bd wd c, cores := sndW_cores W t a bd wd c, readyN := sndW_readyN W t a bd wd c, ready := sndW_ready W t a bd wd c } : Wd) = _
  rw [e_tasks, e_linesN, e_lines, e_cores, e_readyN, e_ready] <;> kernel_rfl
theorem owW_at {W : Wd} {u : Nat} {t : Int} : (owW W u t).tasks u = { W.tasks u with owes := t } := updF_at
theorem owW_ne {W : Wd} {u j : Nat} {t : Int} (h : j ≠ u) : (owW W u t).tasks j = W.tasks j := updF_ne h
theorem akW_at {W : Wd} {t : Nat} : (akW W t).tasks t = { W.tasks t with st := 5 } := updF_at
theorem akW_ne {W : Wd} {t j : Nat} (h : j ≠ t) : (akW W t).tasks j = W.tasks j := updF_ne h
theorem beqT {a b : Nat} (h : a = b) : Nat.beq a b = true := by rw [h]; exact Nat.beq_refl b
theorem akW_eq {W : Wd} {t j : Nat} (h : j = t) : (akW W t).tasks j = { W.tasks j with st := 5 } := by subst h; exact updF_at
theorem any1 {p : Nat → Bool} : anyB 1 p = p 0 := by
  rw [Bool.eq_iff_iff, anyB_iff]
  exact ⟨fun ⟨i, hi, h⟩ => by obtain rfl : i = 0 := by omega
                              exact h, fun h => ⟨0, by omega, h⟩⟩
theorem any4 {s : Int} : (anyB 1 fun e => s == [4].getD e 0) = isWt s := any1
theorem OfP.got {W : Wd} {t : Int} {a : Nat} {b w : Int} (h : OfP W t) : OfP (gotW W a b w) t := h.frt.han.wok
structure X_sndR where
  (t a bd wd : Int) (c : Bool) (W : Wd)
def s_sndR : Sy.Spec := ⟨X_sndR, fun ⟨t, a, bd, wd, c, _⟩ => [.ptr 0 0 none 0 0, .v (.int .i64 t), .v (.int .i64 a), .v (.int .i64 bd), .v (.int .i64 wd), .v (.bool c)], fun ⟨_, _, _, _, _, W⟩ => wMem W, fun ⟨t, a, _, _, _, W⟩ => DoP W t a, fun _ => .tp 0 (lsv []), fun ⟨t, a, bd, wd, c, W⟩ => wMem (sndW W t a bd wd c),
  fun args mem => match args with | [a0, a1, a2, a3, a4, a5] => some ⟨intD (a1), intD (a2), intD (a3), intD (a4), boolD (a5), wMJD mem 0⟩ | _ => none⟩
def c_sndR : Con := ⟨[true], s_sndR.g, none⟩
def V_sndR : X_sndR → Prop := fun ⟨t, a, bd, wd, c, W⟩ => let a0:=SV.ptr 0 0 none 0 0;let b0:=0=0;let c0:=W.nRam;let d0:=c0=c0;let e0:=W.nKinds;let g0:=e0=e0;let h0:=W.nSlots;let k0:=h0=h0;let l0:=W.nTasks;let o0:=l0=l0;let q0:=W.nLines;let u0:=q0=q0;let v0:=W.nBits;let w0:=v0=v0;let x0:=W.nCores;let y0:=x0=x0;let z0:=W.nReady;let a1:=z0=z0;let b1:=W.nTlbs;let c1:=b1=b1;let d1:=W.nDoms;let e1:=d1=d1;let g1:=W.time=W.time;let h1:=d0∧(∀k1:Nat,k1<c0→True∧W.ram k1=W.ram k1);let l1:=g0∧(∀o1:Nat,o1<e0→True∧W.kinds o1=W.kinds o1);let q1:=k0∧(∀u1:Nat,let v1:=W.slots u1;let w1:=v1.kind;let x1:=v1.base;let y1:=v1.len;let z1:=v1.mark;let a2:=v1.rights;let b2:=v1.badge;let c2:=v1.from_;u1<h0→((((((True∧w1=w1)∧x1=x1)∧y1=y1)∧z1=z1)∧a2=a2)∧b2=b2)∧c2=c2);let d2:=w0∧(∀e2:Nat,e2<v0→True∧W.bits e2=W.bits e2);let g2:=y0∧(∀h2:Nat,h2<x0→True∧W.cores h2=W.cores h2);let k2:=(c1∧(∀l2:Nat,let o2:=W.tlbsN l2;l2<b1→True∧o2=o2∧(∀q2:Nat,let u2:=W.tlbs l2 q2;let v2:=u2.sp;let w2:=u2.pg;let x2:=u2.fr;let y2:=u2.wr;q2<o2→(((True∧v2=v2)∧w2=w2)∧x2=x2)∧y2=y2)))∧(e1∧(∀z2:Nat,z2<d1→True∧W.doms z2=W.doms z2))∧True;let a3:=d2∧g2∧(a1∧(∀b3:Nat,let c3:=W.readyN b3;b3<z0→True∧c3=c3∧(∀d3:Nat,d3<c3→True∧W.ready b3 d3=W.ready b3 d3)))∧k2;let e3:=Int.toNat a;let g3:=fntB W e3 (fun h3:Int=>(h3==4)==true);let k3:=frtI W e3 g3;let l3:=decide (k3<0);let o3:=t<(l0:Int);let q3:=0≤t∧o3;let u3:=false=false;let v3:=SV.ptr 0 0 none 0 0=a0;let w3:=0=0;let x3:=((((((((((True∧w3∧d0)∧w3∧g0)∧w3∧k0)∧w3∧o0)∧w3∧u0)∧w3∧w0)∧w3∧y0)∧w3∧a1)∧w3∧c1)∧w3∧e1)∧g1;let y3:=Int.toNat t;let z3:=0+y3;
    let a4:=u0∧(∀b4:Nat,let c4:=frtN W e3 g3 b4;b4<q0→True∧c4=c4∧(∀d4:Nat,let e4:=frtL W e3 g3 b4 d4;d4<c4→True∧e4=e4));let g4:=a4∧a3;let h4:=Wd.mk c0 W.ram e0 W.kinds h0 W.slots l0 (fun k4:Nat=>let l4:=frtS W e3 g3 k4;Run.mk l4.r0 l4.r1 l4.r2 l4.r3 l4.r4 l4.r5 l4.r6 l4.r7 l4.pc l4.st l4.prio l4.node l4.space l4.helper l4.loc (cond (Nat.beq k4 z3) wd l4.word) (cond (Nat.beq k4 z3) bd l4.badge) l4.owes l4.core l4.dom) q0 (frtN W e3 g3) (frtL W e3 g3) v0 W.bits x0 W.cores z0 W.readyN W.ready b1 W.tlbsN W.tlbs d1 W.doms W.time;let o4:=(x3∧h1∧l1∧q1∧(o0∧(∀q4:Nat,let u4:=frtS W e3 g3 q4;let v4:=u4.r0;let w4:=u4.r1;let x4:=u4.r2;let y4:=u4.r3;let z4:=u4.r4;let a5:=u4.r5;let b5:=u4.r6;let c5:=u4.r7;let d5:=u4.pc;let e5:=u4.st;let g5:=u4.prio;let h5:=u4.node;let k5:=u4.space;let l5:=u4.helper;let o5:=u4.loc;let q5:Int:=cond (Nat.beq q4 z3) wd u4.word;let u5:Int:=cond (Nat.beq q4 z3) bd u4.badge;let v5:=u4.owes;let w5:=u4.core;let x5:=u4.dom;q4<l0→(((((((((((((((((((True∧v4=v4)∧w4=w4)∧x4=x4)∧y4=y4)∧z4=z4)∧a5=a5)∧b5=b5)∧c5=c5)∧d5=d5)∧e5=e5)∧g5=g5)∧h5=h5)∧k5=k5)∧l5=l5)∧o5=o5)∧q5=q5)∧u5=u5)∧v5=v5)∧w5=w5)∧x5=x5))∧g4)∧0≤t∧o3∧LnP h4 a∧x0≤100000;
    let y5:=(u0∧(∀z5:Nat,let a6:=sndW_linesN W t a bd wd c z5;z5<q0→True∧sdN h4 e3 z5=a6∧(∀b6:Nat,b6<a6→True∧sdL h4 t e3 z5 b6=sndW_lines W t a bd wd c z5 b6)))∧d2∧(y0∧(∀c6:Nat,c6<x0→True∧ofC h4 t c6=sndW_cores W t a bd wd c c6))∧(a1∧(∀d6:Nat,let e6:=sndW_readyN W t a bd wd c d6;d6<z0→True∧W.readyN d6=e6∧(∀g6:Nat,g6<e6→True∧W.ready d6 g6=sndW_ready W t a bd wd c d6 g6)))∧k2;let h6:=k3=k3;let k6:=0≤k3∧k3<(l0:Int);let l6:=frtW W e3 g3;let o6:=Int.toNat k3;let q6:=hanW l6 o6 bd wd;let u6:=wokW q6 o6;let v6:=u0∧(∀w6:Nat,let x6:=sndW_linesN W t a bd wd c w6;w6<q0→True∧frtN W e3 g3 w6=x6∧(∀y6:Nat,y6<x6→True∧frtL W e3 g3 w6 y6=sndW_lines W t a bd wd c w6 y6));let z6:=(a1∧(∀a7:Nat,let b7:=sndW_readyN W t a bd wd c a7;a7<z0→True∧wkN q6 o6 a7=b7∧(∀c7:Nat,c7<b7→True∧wkL q6 o6 a7 c7=sndW_ready W t a bd wd c a7 c7)))∧k2;((a0=a0∧a=a∧true=true∧True)∧((((((((((((True∧b0∧d0)∧b0∧g0)∧b0∧k0)∧b0∧o0)∧b0∧u0)∧b0∧w0)∧b0∧y0)∧b0∧a1)∧b0∧c1)∧b0∧e1)∧g1)∧h1∧l1∧q1∧(o0∧(∀d7:Nat,let e7:=W.tasks d7;let g7:=e7.prio;let h7:=e7.node;let k7:=e7.space;let l7:=e7.helper;let o7:=e7.loc;let q7:=e7.word;let u7:=e7.badge;let v7:=e7.owes;let w7:=e7.core;let x7:=e7.dom;d7<l0→(((((((((((((((((((True∧e7.r0=e7.r0)∧e7.r1=e7.r1)∧e7.r2=e7.r2)∧e7.r3=e7.r3)∧e7.r4=e7.r4)∧e7.r5=e7.r5)∧e7.r6=e7.r6)∧e7.r7=e7.r7)∧e7.pc=e7.pc)∧e7.st=e7.st)∧g7=g7)∧h7=h7)∧k7=k7)∧l7=l7)∧o7=o7)∧q7=q7)∧u7=u7)∧v7=v7)∧w7=w7)∧x7=x7))∧(u0∧(∀y7:Nat,let z7:=W.linesN y7;y7<q0→True∧z7=z7∧(∀a8:Nat,a8<z7→True∧W.lines y7 a8=W.lines y7 a8)))∧a3)∧
    s_front.match_1 (fun b8:X_front=>Prop) (X_front.mk a true W) (fun c8:Int=>fun d8:Bool=>fun e8:Wd=>LnP e8 c8))∧(l3=true→q3∧(∀g8:Nat,u3)∧q3∧(∀h8:Nat,u3)∧(c=true→((v3∧t=t∧a=a∧(3:Int)=3∧True)∧o4)∧True∧x3∧h1∧l1∧q1∧(o0∧(∀k8:Nat,let l8:=sdS h4 y3 a 3 k8;let o8:=sndW_tasks W t a bd wd c k8;k8<l0→(((((((((((((((((((True∧l8.r0=o8.r0)∧l8.r1=o8.r1)∧l8.r2=o8.r2)∧l8.r3=o8.r3)∧l8.r4=o8.r4)∧l8.r5=o8.r5)∧l8.r6=o8.r6)∧l8.r7=o8.r7)∧l8.pc=o8.pc)∧l8.st=o8.st)∧l8.prio=o8.prio)∧l8.node=o8.node)∧l8.space=o8.space)∧l8.helper=o8.helper)∧l8.loc=o8.loc)∧l8.word=o8.word)∧l8.badge=o8.badge)∧l8.owes=o8.owes)∧l8.core=o8.core)∧l8.dom=o8.dom))∧y5)∧(c=false→((v3∧t=t∧a=a∧(2:Int)=2∧True)∧o4)∧True∧x3∧h1∧l1∧q1∧(o0∧(∀q8:Nat,let r8:=sdS h4 y3 a 2 q8;let u8:=sndW_tasks W t a bd wd c q8;q8<l0→(((((((((((((((((((True∧r8.r0=u8.r0)∧r8.r1=u8.r1)∧r8.r2=u8.r2)∧r8.r3=u8.r3)∧r8.r4=u8.r4)∧r8.r5=u8.r5)∧r8.r6=u8.r6)∧r8.r7=u8.r7)∧r8.pc=u8.pc)∧r8.st=u8.st)∧r8.prio=u8.prio)∧r8.node=u8.node)∧r8.space=u8.space)∧r8.helper=u8.helper)∧r8.loc=u8.loc)∧r8.word=u8.word)∧r8.badge=u8.badge)∧r8.owes=u8.owes)∧r8.core=u8.core)∧r8.dom=u8.dom))∧y5))∧(l3=false→((v3∧h6∧bd=bd∧wd=wd∧True)∧(x3∧h1∧l1∧q1∧(o0∧(∀v8:Nat,let w8:=frtS W e3 g3 v8;let x8:=w8.r0;let y8:=w8.r1;let z8:=w8.r2;let a9:=w8.r3;let b9:=w8.r4;let c9:=w8.r5;let d9:=w8.r6;let e9:=w8.r7;let g9:=w8.pc;let h9:=w8.st;let k9:=w8.prio;let l9:=w8.node;let o9:=w8.space;let q9:=w8.helper;let r9:=w8.loc;let u9:=w8.word;let v9:=w8.badge;let w9:=w8.owes;let x9:=w8.core;let y9:=w8.dom;v8<l0→
    (((((((((((((((((((True∧x8=x8)∧y8=y8)∧z8=z8)∧a9=a9)∧b9=b9)∧c9=c9)∧d9=d9)∧e9=e9)∧g9=g9)∧h9=h9)∧k9=k9)∧l9=l9)∧o9=o9)∧q9=q9)∧r9=r9)∧u9=u9)∧v9=v9)∧w9=w9)∧x9=x9)∧y9=y9))∧g4)∧k6)∧((v3∧h6∧True)∧(x3∧h1∧l1∧q1∧(o0∧(∀z9:Nat,let a10:=hnS l6 o6 bd wd z9;let b10:=a10.r0;let c10:=a10.r1;let d10:=a10.r2;let e10:=a10.r3;let g10:=a10.r4;let h10:=a10.r5;let k10:=a10.r6;let l10:=a10.r7;let o10:=a10.pc;let q10:=a10.st;let r10:=a10.prio;let u10:=a10.node;let v10:=a10.space;let w10:=a10.helper;let x10:=a10.loc;let y10:=a10.word;let z10:=a10.badge;let a11:=a10.owes;let b11:=a10.core;let c11:=a10.dom;z9<l0→(((((((((((((((((((True∧b10=b10)∧c10=c10)∧d10=d10)∧e10=e10)∧g10=g10)∧h10=h10)∧k10=k10)∧l10=l10)∧o10=o10)∧q10=q10)∧r10=r10)∧u10=u10)∧v10=v10)∧w10=w10)∧x10=x10)∧y10=y10)∧z10=z10)∧a11=a11)∧b11=b11)∧c11=c11))∧g4)∧s_woken.match_1 (fun d11:X_woken=>Prop) (X_woken.mk k3 q6) (fun e11:Int=>fun g11:Wd=>WkP g11 e11))∧(c=true→((v3∧t=t∧True)∧(x3∧h1∧l1∧q1∧(o0∧(∀h11:Nat,let k11:=wkS q6 o6 h11;let l11:=k11.r0;let o11:=k11.r1;let q11:=k11.r2;let r11:=k11.r3;let u11:=k11.r4;let v11:=k11.r5;let w11:=k11.r6;let x11:=k11.r7;let y11:=k11.pc;let z11:=k11.st;let a12:=k11.prio;let b12:=k11.node;let c12:=k11.space;let d12:=k11.helper;let e12:=k11.loc;let g12:=k11.word;let h12:=k11.badge;let k12:=k11.owes;let l12:=k11.core;let o12:=k11.dom;h11<l0→(((((((((((((((((((True∧l11=l11)∧o11=o11)∧q11=q11)∧r11=r11)∧u11=u11)∧v11=v11)∧w11=w11)∧x11=x11)∧y11=y11)∧z11=z11)∧a12=a12)∧b12=b12)∧c12=c12)∧d12=d12)∧e12=e12)∧g12=g12)∧h12=h12)∧
    k12=k12)∧l12=l12)∧o12=o12))∧a4∧d2∧g2∧(a1∧(∀q12:Nat,let r12:=wkN q6 o6 q12;q12<z0→True∧r12=r12∧(∀u12:Nat,let v12:=wkL q6 o6 q12 u12;u12<r12→True∧v12=v12)))∧k2)∧s_offR.match_1 (fun w12:X_offR=>Prop) (X_offR.mk t u6) (fun x12:Int=>fun y12:Wd=>y12.nCores≤100000))∧q3∧(∀z12:Nat,u3)∧k6∧(∀a13:Nat,u3)∧True∧x3∧h1∧l1∧q1∧(o0∧(∀b13:Nat,let c13:=wkS q6 o6 b13;let d13:=sndW_tasks W t a bd wd c b13;b13<l0→(((((((((((((((((((True∧c13.r0=d13.r0)∧c13.r1=d13.r1)∧c13.r2=d13.r2)∧c13.r3=d13.r3)∧c13.r4=d13.r4)∧c13.r5=d13.r5)∧c13.r6=d13.r6)∧c13.r7=d13.r7)∧c13.pc=d13.pc)∧cond (Nat.beq b13 z3) 5 c13.st=d13.st)∧c13.prio=d13.prio)∧c13.node=d13.node)∧c13.space=d13.space)∧c13.helper=d13.helper)∧c13.loc=d13.loc)∧c13.word=d13.word)∧c13.badge=d13.badge)∧cond (Nat.beq b13 (0+o6)) t c13.owes=d13.owes)∧c13.core=d13.core)∧c13.dom=d13.dom))∧v6∧d2∧(y0∧(∀e13:Nat,e13<x0→True∧ofC u6 t e13=sndW_cores W t a bd wd c e13))∧z6)∧(c=false→True∧x3∧h1∧l1∧q1∧(o0∧(∀g13:Nat,let h13:=wkS q6 o6 g13;let k13:=sndW_tasks W t a bd wd c g13;g13<l0→(((((((((((((((((((True∧h13.r0=k13.r0)∧h13.r1=k13.r1)∧h13.r2=k13.r2)∧h13.r3=k13.r3)∧h13.r4=k13.r4)∧h13.r5=k13.r5)∧h13.r6=k13.r6)∧h13.r7=k13.r7)∧h13.pc=k13.pc)∧h13.st=k13.st)∧h13.prio=k13.prio)∧h13.node=k13.node)∧h13.space=k13.space)∧h13.helper=k13.helper)∧h13.loc=k13.loc)∧h13.word=k13.word)∧h13.badge=k13.badge)∧h13.owes=k13.owes)∧h13.core=k13.core)∧h13.dom=k13.dom))∧v6∧d2∧(y0∧(∀l13:Nat,l13<x0→True∧W.cores l13=sndW_cores W t a bd wd c l13))∧z6))
set_option maxHeartbeats 1000000 in
theorem ok_sndR : FnOK Tryz.prog glN 41 c_sndR := ok_of (.cons ok_woken (.cons ok_front (.cons ok_stands (.cons ok_handed (.cons ok_offR .nil))))) false Tryz.call41 Tryz.func41 (fun _ => []) (V := V_sndR) (fun _ => by kernel_rfl) fun ⟨t, a, bd, wd, c, W⟩ hp => by
  dsimp only [s_sndR] at hp
  dsimp only [V_sndR, tn, w64]
  simp only [std, stb, eq_self, implies_true, Bool.cond_self]
  try simp only [wd_eta]
  simp only [lit_owes, lit_wb, lit_st]
  obtain ⟨hl, ho, hc, hw0, hf⟩ := hp
  have t0 := ho.t0
  have t1 := ho.t1
  rcases Nat.eq_zero_or_pos (W.linesN a.toNat) with h0 | h0
  · have hw : waitB W a.toNat = false := fn0 h0
    have e : (fntB W a.toNat fun h3 => (h3 == 4) == true) = false := fn0 h0
    simp only [e, show frtI W a.toNat false = -1 from rfl]
    refine ⟨hl, fun _ => ⟨⟨t0, t1⟩, ⟨t0, t1⟩, fun h => ⟨⟨t0, t1, ⟨hl.a0, hl.a1, hl.n, hl.h⟩, hc⟩, ?_⟩, fun h => ⟨⟨t0, t1, ⟨hl.a0, hl.a1, hl.n, hl.h⟩, hc⟩, ?_⟩⟩, fun h => absurd h (by decide)⟩
    · subst h
      have e_tasks : sndW_tasks W t a bd wd true = _ := congrArg Wd.tasks ((sndW_f (t := t) (bd := bd) (wd := wd) (c := true) hw).trans rfl)
      have e_linesN : sndW_linesN W t a bd wd true = _ := congrArg Wd.linesN ((sndW_f (t := t) (bd := bd) (wd := wd) (c := true) hw).trans rfl)
      have e_lines : sndW_lines W t a bd wd true = _ := congrArg Wd.lines ((sndW_f (t := t) (bd := bd) (wd := wd) (c := true) hw).trans rfl)
      have e_cores : sndW_cores W t a bd wd true = _ := congrArg Wd.cores ((sndW_f (t := t) (bd := bd) (wd := wd) (c := true) hw).trans rfl)
      have e_readyN : sndW_readyN W t a bd wd true = _ := congrArg Wd.readyN ((sndW_f (t := t) (bd := bd) (wd := wd) (c := true) hw).trans rfl)
      have e_ready : sndW_ready W t a bd wd true = _ := congrArg Wd.ready ((sndW_f (t := t) (bd := bd) (wd := wd) (c := true) hw).trans rfl)
      simp only [e_tasks, e_linesN, e_lines, e_cores, e_readyN, e_ready]
      clear e_tasks e_linesN e_lines e_cores e_readyN e_ready
      repeat' (first | exact trivial | exact run20 rfl | rfl | refine And.intro ?_ ?_ | intro _ | fail)
    · subst h
      have e_tasks : sndW_tasks W t a bd wd false = _ := congrArg Wd.tasks ((sndW_f (t := t) (bd := bd) (wd := wd) (c := false) hw).trans rfl)
      have e_linesN : sndW_linesN W t a bd wd false = _ := congrArg Wd.linesN ((sndW_f (t := t) (bd := bd) (wd := wd) (c := false) hw).trans rfl)
      have e_lines : sndW_lines W t a bd wd false = _ := congrArg Wd.lines ((sndW_f (t := t) (bd := bd) (wd := wd) (c := false) hw).trans rfl)
      have e_cores : sndW_cores W t a bd wd false = _ := congrArg Wd.cores ((sndW_f (t := t) (bd := bd) (wd := wd) (c := false) hw).trans rfl)
      have e_readyN : sndW_readyN W t a bd wd false = _ := congrArg Wd.readyN ((sndW_f (t := t) (bd := bd) (wd := wd) (c := false) hw).trans rfl)
      have e_ready : sndW_ready W t a bd wd false = _ := congrArg Wd.ready ((sndW_f (t := t) (bd := bd) (wd := wd) (c := false) hw).trans rfl)
      simp only [e_tasks, e_linesN, e_lines, e_cores, e_readyN, e_ready]
      clear e_tasks e_linesN e_lines e_cores e_readyN e_ready
      repeat' (first | exact trivial | exact run20 rfl | rfl | refine And.intro ?_ ?_ | intro _ | fail)
  have hn : W.linesN a.toNat ≠ 0 := by omega
  obtain ⟨hwk, hs⟩ := hf h0
  cases hb : isWt (W.tasks (W.lines a.toNat 0).toNat).st with
  | false =>
    have hw : waitB W a.toNat = false := fn1 hn hb
    have e : (fntB W a.toNat fun h3 => (h3 == 4) == true) = false := fn1 hn (by show (((W.tasks (W.lines a.toNat 0).toNat).st == 4) == true) = false; rw [show ((W.tasks (W.lines a.toNat 0).toNat).st == 4) = false from hb]; rfl)
    simp only [e, show frtI W a.toNat false = -1 from rfl]
    refine ⟨hl, fun _ => ⟨⟨t0, t1⟩, ⟨t0, t1⟩, fun h => ⟨⟨t0, t1, ⟨hl.a0, hl.a1, hl.n, hl.h⟩, hc⟩, ?_⟩, fun h => ⟨⟨t0, t1, ⟨hl.a0, hl.a1, hl.n, hl.h⟩, hc⟩, ?_⟩⟩, fun h => absurd h (by decide)⟩
    · subst h
      have e_tasks : sndW_tasks W t a bd wd true = _ := congrArg Wd.tasks ((sndW_f (t := t) (bd := bd) (wd := wd) (c := true) hw).trans rfl)
      have e_linesN : sndW_linesN W t a bd wd true = _ := congrArg Wd.linesN ((sndW_f (t := t) (bd := bd) (wd := wd) (c := true) hw).trans rfl)
      have e_lines : sndW_lines W t a bd wd true = _ := congrArg Wd.lines ((sndW_f (t := t) (bd := bd) (wd := wd) (c := true) hw).trans rfl)
      have e_cores : sndW_cores W t a bd wd true = _ := congrArg Wd.cores ((sndW_f (t := t) (bd := bd) (wd := wd) (c := true) hw).trans rfl)
      have e_readyN : sndW_readyN W t a bd wd true = _ := congrArg Wd.readyN ((sndW_f (t := t) (bd := bd) (wd := wd) (c := true) hw).trans rfl)
      have e_ready : sndW_ready W t a bd wd true = _ := congrArg Wd.ready ((sndW_f (t := t) (bd := bd) (wd := wd) (c := true) hw).trans rfl)
      simp only [e_tasks, e_linesN, e_lines, e_cores, e_readyN, e_ready]
      clear e_tasks e_linesN e_lines e_cores e_readyN e_ready
      repeat' (first | exact trivial | exact run20 rfl | rfl | refine And.intro ?_ ?_ | intro _ | fail)
    · subst h
      have e_tasks : sndW_tasks W t a bd wd false = _ := congrArg Wd.tasks ((sndW_f (t := t) (bd := bd) (wd := wd) (c := false) hw).trans rfl)
      have e_linesN : sndW_linesN W t a bd wd false = _ := congrArg Wd.linesN ((sndW_f (t := t) (bd := bd) (wd := wd) (c := false) hw).trans rfl)
      have e_lines : sndW_lines W t a bd wd false = _ := congrArg Wd.lines ((sndW_f (t := t) (bd := bd) (wd := wd) (c := false) hw).trans rfl)
      have e_cores : sndW_cores W t a bd wd false = _ := congrArg Wd.cores ((sndW_f (t := t) (bd := bd) (wd := wd) (c := false) hw).trans rfl)
      have e_readyN : sndW_readyN W t a bd wd false = _ := congrArg Wd.readyN ((sndW_f (t := t) (bd := bd) (wd := wd) (c := false) hw).trans rfl)
      have e_ready : sndW_ready W t a bd wd false = _ := congrArg Wd.ready ((sndW_f (t := t) (bd := bd) (wd := wd) (c := false) hw).trans rfl)
      simp only [e_tasks, e_linesN, e_lines, e_cores, e_readyN, e_ready]
      clear e_tasks e_linesN e_lines e_cores e_readyN e_ready
      repeat' (first | exact trivial | exact run20 rfl | rfl | refine And.intro ?_ ?_ | intro _ | fail)
  | true =>
    have hw : waitB W a.toNat = true := fn1 hn hb
    have e : (fntB W a.toNat fun h3 => (h3 == 4) == true) = true := fn1 hn (by show (((W.tasks (W.lines a.toNat 0).toNat).st == 4) == true) = true; rw [show ((W.tasks (W.lines a.toNat 0).toNat).st == 4) = true from hb]; rfl)
    simp only [e, show frtI W a.toNat true = W.lines a.toNat 0 from rfl]
    have ub := And.intro hwk.t0 hwk.t1
    refine ⟨hl, fun h => absurd hwk.t0 (by have := of_decide_eq_true h; omega), fun _ => ⟨ub, hwk.frt.han, fun h => ⟨hc, ⟨t0, t1⟩, ub, ?_⟩, fun h => ?_⟩⟩
    · subst h
      have e_tasks : sndW_tasks W t a bd wd true = _ := congrArg Wd.tasks ((sndW_t (t := t) (bd := bd) (wd := wd) (c := true) hw).trans (sgW_t rfl))
      have e_linesN : sndW_linesN W t a bd wd true = _ := congrArg Wd.linesN ((sndW_t (t := t) (bd := bd) (wd := wd) (c := true) hw).trans (sgW_t rfl))
      have e_lines : sndW_lines W t a bd wd true = _ := congrArg Wd.lines ((sndW_t (t := t) (bd := bd) (wd := wd) (c := true) hw).trans (sgW_t rfl))
      have e_cores : sndW_cores W t a bd wd true = _ := congrArg Wd.cores ((sndW_t (t := t) (bd := bd) (wd := wd) (c := true) hw).trans (sgW_t rfl))
      have e_readyN : sndW_readyN W t a bd wd true = _ := congrArg Wd.readyN ((sndW_t (t := t) (bd := bd) (wd := wd) (c := true) hw).trans (sgW_t rfl))
      have e_ready : sndW_ready W t a bd wd true = _ := congrArg Wd.ready ((sndW_t (t := t) (bd := bd) (wd := wd) (c := true) hw).trans (sgW_t rfl))
      simp only [e_tasks, e_linesN, e_lines, e_cores, e_readyN, e_ready]
      clear e_tasks e_linesN e_lines e_cores e_readyN e_ready
      refine ⟨fun j _ => ?_, ?_⟩
      · skip
        rcases Decidable.em (j = (W.lines a.toNat 0).toNat) with h1 | h1
        · subst h1
          rcases Decidable.em ((W.lines a.toNat 0).toNat = t.toNat) with h2 | h2
          · simp only [beqT h2, Nat.beq_refl, cond_true, owW_at, akW_eq h2]; repeat' (first | exact trivial | rfl | refine And.intro ?_ ?_)
          · simp only [beq_ne h2, Nat.beq_refl, cond_true, cond_false, owW_at, akW_ne h2]; repeat' (first | exact trivial | rfl | refine And.intro ?_ ?_)
        · rcases Decidable.em (j = t.toNat) with h2 | h2
          · subst h2
            simp only [beq_ne h1, Nat.beq_refl, cond_true, cond_false, owW_ne h1, akW_at]; repeat' (first | exact trivial | rfl | refine And.intro ?_ ?_)
          · simp only [beq_ne h1, beq_ne h2, cond_false, owW_ne h1, akW_ne h2]; repeat' (first | exact trivial | rfl | refine And.intro ?_ ?_)
      · skip
        repeat' (first | exact trivial | exact run20 rfl | rfl | refine And.intro ?_ ?_ | intro _ | fail)
    · subst h
      have e_tasks : sndW_tasks W t a bd wd false = _ := congrArg Wd.tasks ((sndW_t (t := t) (bd := bd) (wd := wd) (c := false) hw).trans (sgW_f rfl))
      have e_linesN : sndW_linesN W t a bd wd false = _ := congrArg Wd.linesN ((sndW_t (t := t) (bd := bd) (wd := wd) (c := false) hw).trans (sgW_f rfl))
      have e_lines : sndW_lines W t a bd wd false = _ := congrArg Wd.lines ((sndW_t (t := t) (bd := bd) (wd := wd) (c := false) hw).trans (sgW_f rfl))
      have e_cores : sndW_cores W t a bd wd false = _ := congrArg Wd.cores ((sndW_t (t := t) (bd := bd) (wd := wd) (c := false) hw).trans (sgW_f rfl))
      have e_readyN : sndW_readyN W t a bd wd false = _ := congrArg Wd.readyN ((sndW_t (t := t) (bd := bd) (wd := wd) (c := false) hw).trans (sgW_f rfl))
      have e_ready : sndW_ready W t a bd wd false = _ := congrArg Wd.ready ((sndW_t (t := t) (bd := bd) (wd := wd) (c := false) hw).trans (sgW_f rfl))
      simp only [e_tasks, e_linesN, e_lines, e_cores, e_readyN, e_ready]
      clear e_tasks e_linesN e_lines e_cores e_readyN e_ready
      repeat' (first | exact trivial | exact run20 rfl | rfl | refine And.intro ?_ ?_ | intro _ | fail)
structure X_sndP where
  (t a bd wd : Int) (c : Bool) (W : Wd)
def s_sndP : Sy.Spec := ⟨X_sndP, fun ⟨t, a, bd, wd, c, _⟩ => [.ptr 0 0 none 0 0, .v (.int .i64 t), .v (.int .i64 a), .v (.int .i64 bd), .v (.int .i64 wd), .v (.bool c)], fun ⟨_, _, _, _, _, W⟩ => wMem W, fun ⟨t, a, _, _, _, W⟩ => DoP W t a, fun _ => .tp 0 (lsv []), fun ⟨t, a, bd, wd, c, W⟩ => wMem (sndW W t a bd wd c),
  fun args mem => match args with | [a0, a1, a2, a3, a4, a5] => some ⟨intD (a1), intD (a2), intD (a3), intD (a4), boolD (a5), wMJD mem 0⟩ | _ => none⟩
def c_sndP : Con := ⟨[true], s_sndP.g, none⟩
def V_sndP : X_sndP → Prop := fun ⟨t, a, bd, wd, c, W⟩ => let a0:=SV.ptr 0 0 none 0 0=SV.ptr 0 0 none 0 0;let b0:=[(4:Int)];let c0:=0=0;let d0:=W.nRam;let e0:=d0=d0;let g0:=W.nKinds;let h0:=g0=g0;let k0:=W.nSlots;let l0:=k0=k0;let o0:=W.nTasks;let q0:=o0=o0;let u0:=W.nLines;let v0:=u0=u0;let w0:=W.nBits;let x0:=w0=w0;let y0:=W.nCores;let z0:=y0=y0;let a1:=W.nReady;let b1:=a1=a1;let c1:=W.nTlbs;let d1:=c1=c1;let e1:=W.nDoms;let g1:=e1=e1;let h1:=((((((((((True∧c0∧e0)∧c0∧h0)∧c0∧l0)∧c0∧q0)∧c0∧v0)∧c0∧x0)∧c0∧z0)∧c0∧b1)∧c0∧d1)∧c0∧g1)∧W.time=W.time;let k1:=e0∧(∀l1:Nat,l1<d0→True∧W.ram l1=W.ram l1);let o1:=h0∧(∀q1:Nat,q1<g0→True∧W.kinds q1=W.kinds q1);let u1:=l0∧(∀v1:Nat,let w1:=W.slots v1;let x1:=w1.kind;let y1:=w1.base;let z1:=w1.len;let a2:=w1.mark;let b2:=w1.rights;let c2:=w1.badge;let d2:=w1.from_;v1<k0→((((((True∧x1=x1)∧y1=y1)∧z1=z1)∧a2=a2)∧b2=b2)∧c2=c2)∧d2=d2);let e2:=x0∧(∀g2:Nat,g2<w0→True∧W.bits g2=W.bits g2);let h2:=z0∧(∀k2:Nat,k2<y0→True∧W.cores k2=W.cores k2);let l2:=(d1∧(∀o2:Nat,let q2:=W.tlbsN o2;o2<c1→True∧q2=q2∧(∀u2:Nat,let v2:=W.tlbs o2 u2;let w2:=v2.sp;let x2:=v2.pg;let y2:=v2.fr;let z2:=v2.wr;u2<q2→(((True∧w2=w2)∧x2=x2)∧y2=y2)∧z2=z2)))∧(g1∧(∀a3:Nat,a3<e1→True∧W.doms a3=W.doms a3))∧True;let b3:=e2∧h2∧(b1∧(∀c3:Nat,let d3:=W.readyN c3;c3<a1→True∧d3=d3∧(∀e3:Nat,e3<d3→True∧W.ready c3 e3=W.ready c3 e3)))∧l2;let g3:=Int.toNat a;let h3:=fntB W g3 (fun k3:Int=>anyB 1 (fun l3:Nat=>k3==List.getD b0 (0+l3) 0));let o3:=frtI W g3 h3;let q3:=decide (o3<0);let u3:=0≤t∧t<(o0:Int);let v3:=false=false;let w3:=Int.toNat t;let x3:=0+w3;
    let y3:=v0∧(∀z3:Nat,let a4:=frtN W g3 h3 z3;z3<u0→True∧a4=a4∧(∀b4:Nat,let c4:=frtL W g3 h3 z3 b4;b4<a4→True∧c4=c4));let d4:=y3∧b3;let e4:=Wd.mk d0 W.ram g0 W.kinds k0 W.slots o0 (fun g4:Nat=>let h4:=frtS W g3 h3 g4;Run.mk h4.r0 h4.r1 h4.r2 h4.r3 h4.r4 h4.r5 h4.r6 h4.r7 h4.pc h4.st h4.prio h4.node h4.space h4.helper h4.loc (cond (Nat.beq g4 x3) wd h4.word) (cond (Nat.beq g4 x3) bd h4.badge) h4.owes h4.core h4.dom) u0 (frtN W g3 h3) (frtL W g3 h3) w0 W.bits y0 W.cores a1 W.readyN W.ready c1 W.tlbsN W.tlbs e1 W.doms W.time;let k4:=(h1∧k1∧o1∧u1∧(q0∧(∀l4:Nat,let o4:=frtS W g3 h3 l4;let q4:=o4.r0;let u4:=o4.r1;let v4:=o4.r2;let w4:=o4.r3;let x4:=o4.r4;let y4:=o4.r5;let z4:=o4.r6;let a5:=o4.r7;let b5:=o4.pc;let c5:=o4.st;let d5:=o4.prio;let e5:=o4.node;let g5:=o4.space;let h5:=o4.helper;let k5:=o4.loc;let l5:Int:=cond (Nat.beq l4 x3) wd o4.word;let o5:Int:=cond (Nat.beq l4 x3) bd o4.badge;let q5:=o4.owes;let u5:=o4.core;let v5:=o4.dom;l4<o0→(((((((((((((((((((True∧q4=q4)∧u4=u4)∧v4=v4)∧w4=w4)∧x4=x4)∧y4=y4)∧z4=z4)∧a5=a5)∧b5=b5)∧c5=c5)∧d5=d5)∧e5=e5)∧g5=g5)∧h5=h5)∧k5=k5)∧l5=l5)∧o5=o5)∧q5=q5)∧u5=u5)∧v5=v5))∧d4)∧OfP e4 t∧LnP e4 a;
    let w5:=(v0∧(∀x5:Nat,let y5:=sndW_linesN W t a bd wd c x5;x5<u0→True∧sdN e4 g3 x5=y5∧(∀z5:Nat,z5<y5→True∧sdL e4 t g3 x5 z5=sndW_lines W t a bd wd c x5 z5)))∧e2∧(z0∧(∀a6:Nat,a6<y0→True∧ofC e4 t a6=sndW_cores W t a bd wd c a6))∧(b1∧(∀b6:Nat,let c6:=sndW_readyN W t a bd wd c b6;b6<a1→True∧W.readyN b6=c6∧(∀d6:Nat,d6<c6→True∧W.ready b6 d6=sndW_ready W t a bd wd c b6 d6)))∧l2;let e6:=o3=o3;let g6:=0≤o3∧o3<(o0:Int);let h6:=frtW W g3 h3;let k6:=Int.toNat o3;let l6:=hanW h6 k6 bd wd;let o6:=wokW l6 k6;let q6:=v0∧(∀u6:Nat,let v6:=sndW_linesN W t a bd wd c u6;u6<u0→True∧frtN W g3 h3 u6=v6∧(∀w6:Nat,w6<v6→True∧frtL W g3 h3 u6 w6=sndW_lines W t a bd wd c u6 w6));let x6:=(b1∧(∀y6:Nat,let z6:=sndW_readyN W t a bd wd c y6;y6<a1→True∧wkN l6 k6 y6=z6∧(∀a7:Nat,a7<z6→True∧wkL l6 k6 y6 a7=sndW_ready W t a bd wd c y6 a7)))∧l2;True∧((a0∧a=a∧(1=1∧(∀b7:Nat,let c7:=List.getD b0 (0+b7) 0;b7<1→True∧c7=c7))∧True)∧(h1∧k1∧o1∧u1∧(q0∧(∀d7:Nat,let e7:=W.tasks d7;let g7:=e7.prio;let h7:=e7.node;let k7:=e7.space;let l7:=e7.helper;let o7:=e7.loc;let q7:=e7.word;let u7:=e7.badge;let v7:=e7.owes;let w7:=e7.core;let x7:=e7.dom;d7<o0→(((((((((((((((((((True∧e7.r0=e7.r0)∧e7.r1=e7.r1)∧e7.r2=e7.r2)∧e7.r3=e7.r3)∧e7.r4=e7.r4)∧e7.r5=e7.r5)∧e7.r6=e7.r6)∧e7.r7=e7.r7)∧e7.pc=e7.pc)∧e7.st=e7.st)∧g7=g7)∧h7=h7)∧k7=k7)∧l7=l7)∧o7=o7)∧q7=q7)∧u7=u7)∧v7=v7)∧w7=w7)∧x7=x7))∧(v0∧(∀y7:Nat,let z7:=W.linesN y7;y7<u0→True∧z7=z7∧(∀a8:Nat,a8<z7→True∧W.lines y7 a8=W.lines y7 a8)))∧b3)∧LnP W a∧1≤1000)∧(q3=true→(c=true→tn 12 (u3∧(∀b8:Nat,v3)∧
    u3∧(∀c8:Nat,v3)∧((a0∧t=t∧a=a∧(3:Int)=3∧True)∧k4)∧True∧h1∧k1∧o1∧u1∧(q0∧(∀d8:Nat,let e8:=sdS e4 w3 a 3 d8;let g8:=sndW_tasks W t a bd wd c d8;d8<o0→(((((((((((((((((((True∧e8.r0=g8.r0)∧e8.r1=g8.r1)∧e8.r2=g8.r2)∧e8.r3=g8.r3)∧e8.r4=g8.r4)∧e8.r5=g8.r5)∧e8.r6=g8.r6)∧e8.r7=g8.r7)∧e8.pc=g8.pc)∧e8.st=g8.st)∧e8.prio=g8.prio)∧e8.node=g8.node)∧e8.space=g8.space)∧e8.helper=g8.helper)∧e8.loc=g8.loc)∧e8.word=g8.word)∧e8.badge=g8.badge)∧e8.owes=g8.owes)∧e8.core=g8.core)∧e8.dom=g8.dom))∧w5))∧(c=false→tn 12 (u3∧(∀h8:Nat,v3)∧u3∧(∀k8:Nat,v3)∧((a0∧t=t∧a=a∧(2:Int)=2∧True)∧k4)∧True∧h1∧k1∧o1∧u1∧(q0∧(∀l8:Nat,let o8:=sdS e4 w3 a 2 l8;let q8:=sndW_tasks W t a bd wd c l8;l8<o0→(((((((((((((((((((True∧o8.r0=q8.r0)∧o8.r1=q8.r1)∧o8.r2=q8.r2)∧o8.r3=q8.r3)∧o8.r4=q8.r4)∧o8.r5=q8.r5)∧o8.r6=q8.r6)∧o8.r7=q8.r7)∧o8.pc=q8.pc)∧o8.st=q8.st)∧o8.prio=q8.prio)∧o8.node=q8.node)∧o8.space=q8.space)∧o8.helper=q8.helper)∧o8.loc=q8.loc)∧o8.word=q8.word)∧o8.badge=q8.badge)∧o8.owes=q8.owes)∧o8.core=q8.core)∧o8.dom=q8.dom))∧w5)))∧(q3=false→((a0∧e6∧bd=bd∧wd=wd∧True)∧(h1∧k1∧o1∧u1∧(q0∧(∀r8:Nat,let u8:=frtS W g3 h3 r8;let v8:=u8.r0;let w8:=u8.r1;let x8:=u8.r2;let y8:=u8.r3;let z8:=u8.r4;let a9:=u8.r5;let b9:=u8.r6;let c9:=u8.r7;let d9:=u8.pc;let e9:=u8.st;let g9:=u8.prio;let h9:=u8.node;let k9:=u8.space;let l9:=u8.helper;let o9:=u8.loc;let q9:=u8.word;let r9:=u8.badge;let u9:=u8.owes;let v9:=u8.core;let w9:=u8.dom;r8<o0→(((((((((((((((((((True∧v8=v8)∧w8=w8)∧x8=x8)∧y8=y8)∧z8=z8)∧a9=a9)∧b9=b9)∧c9=c9)∧d9=d9)∧e9=e9)∧g9=g9)∧h9=h9)∧
    k9=k9)∧l9=l9)∧o9=o9)∧q9=q9)∧r9=r9)∧u9=u9)∧v9=v9)∧w9=w9))∧d4)∧g6)∧((a0∧e6∧True)∧(h1∧k1∧o1∧u1∧(q0∧(∀x9:Nat,let y9:=hnS h6 k6 bd wd x9;let z9:=y9.r0;let a10:=y9.r1;let b10:=y9.r2;let c10:=y9.r3;let d10:=y9.r4;let e10:=y9.r5;let g10:=y9.r6;let h10:=y9.r7;let k10:=y9.pc;let l10:=y9.st;let o10:=y9.prio;let q10:=y9.node;let r10:=y9.space;let u10:=y9.helper;let v10:=y9.loc;let w10:=y9.word;let x10:=y9.badge;let y10:=y9.owes;let z10:=y9.core;let a11:=y9.dom;x9<o0→(((((((((((((((((((True∧z9=z9)∧a10=a10)∧b10=b10)∧c10=c10)∧d10=d10)∧e10=e10)∧g10=g10)∧h10=h10)∧k10=k10)∧l10=l10)∧o10=o10)∧q10=q10)∧r10=r10)∧u10=u10)∧v10=v10)∧w10=w10)∧x10=x10)∧y10=y10)∧z10=z10)∧a11=a11))∧d4)∧s_wake.match_1 (fun b11:X_wake=>Prop) (X_wake.mk o3 l6) (fun c11:Int=>fun d11:Wd=>WkP d11 c11))∧(c=true→((a0∧t=t∧True)∧(h1∧k1∧o1∧u1∧(q0∧(∀e11:Nat,let g11:=wkS l6 k6 e11;let h11:=g11.r0;let k11:=g11.r1;let l11:=g11.r2;let o11:=g11.r3;let q11:=g11.r4;let r11:=g11.r5;let u11:=g11.r6;let v11:=g11.r7;let w11:=g11.pc;let x11:=g11.st;let y11:=g11.prio;let z11:=g11.node;let a12:=g11.space;let b12:=g11.helper;let c12:=g11.loc;let d12:=g11.word;let e12:=g11.badge;let g12:=g11.owes;let h12:=g11.core;let k12:=g11.dom;e11<o0→(((((((((((((((((((True∧h11=h11)∧k11=k11)∧l11=l11)∧o11=o11)∧q11=q11)∧r11=r11)∧u11=u11)∧v11=v11)∧w11=w11)∧x11=x11)∧y11=y11)∧z11=z11)∧a12=a12)∧b12=b12)∧c12=c12)∧d12=d12)∧e12=e12)∧g12=g12)∧h12=h12)∧k12=k12))∧y3∧e2∧h2∧(b1∧(∀l12:Nat,let o12:=wkN l6 k6 l12;l12<a1→True∧o12=o12∧(∀q12:Nat,let r12:=wkL l6 k6 l12 q12;
    q12<o12→True∧r12=r12)))∧l2)∧s_offP.match_1 (fun u12:X_offP=>Prop) (X_offP.mk t o6) (fun v12:Int=>fun w12:Wd=>OfP w12 v12))∧u3∧(∀x12:Nat,v3)∧g6∧(∀y12:Nat,v3)∧True∧h1∧k1∧o1∧u1∧(q0∧(∀z12:Nat,let a13:=wkS l6 k6 z12;let b13:=sndW_tasks W t a bd wd c z12;z12<o0→(((((((((((((((((((True∧a13.r0=b13.r0)∧a13.r1=b13.r1)∧a13.r2=b13.r2)∧a13.r3=b13.r3)∧a13.r4=b13.r4)∧a13.r5=b13.r5)∧a13.r6=b13.r6)∧a13.r7=b13.r7)∧a13.pc=b13.pc)∧cond (Nat.beq z12 x3) 5 a13.st=b13.st)∧a13.prio=b13.prio)∧a13.node=b13.node)∧a13.space=b13.space)∧a13.helper=b13.helper)∧a13.loc=b13.loc)∧a13.word=b13.word)∧a13.badge=b13.badge)∧cond (Nat.beq z12 (0+k6)) t a13.owes=b13.owes)∧a13.core=b13.core)∧a13.dom=b13.dom))∧q6∧e2∧(z0∧(∀c13:Nat,c13<y0→True∧ofC o6 t c13=sndW_cores W t a bd wd c c13))∧x6)∧(c=false→True∧h1∧k1∧o1∧u1∧(q0∧(∀d13:Nat,let e13:=wkS l6 k6 d13;let g13:=sndW_tasks W t a bd wd c d13;d13<o0→(((((((((((((((((((True∧e13.r0=g13.r0)∧e13.r1=g13.r1)∧e13.r2=g13.r2)∧e13.r3=g13.r3)∧e13.r4=g13.r4)∧e13.r5=g13.r5)∧e13.r6=g13.r6)∧e13.r7=g13.r7)∧e13.pc=g13.pc)∧e13.st=g13.st)∧e13.prio=g13.prio)∧e13.node=g13.node)∧e13.space=g13.space)∧e13.helper=g13.helper)∧e13.loc=g13.loc)∧e13.word=g13.word)∧e13.badge=g13.badge)∧e13.owes=g13.owes)∧e13.core=g13.core)∧e13.dom=g13.dom))∧q6∧e2∧(z0∧(∀h13:Nat,h13<y0→True∧W.cores h13=sndW_cores W t a bd wd c h13))∧x6))
set_option maxHeartbeats 1000000 in
theorem ok_sndP : FnOK Tryz.prog glN 100 c_sndP := ok_of (.cons ok_first_ (.cons ok_wait_ (.cons ok_hand (.cons ok_wake (.cons ok_offP .nil))))) false Tryz.call100 Tryz.func100 (fun _ => []) (V := V_sndP) (fun _ => by kernel_rfl) fun ⟨t, a, bd, wd, c, W⟩ hp => by
  dsimp only [s_sndP] at hp
  dsimp only [V_sndP, tn, w64]
  simp only [std, stb, eq_self, implies_true, Bool.cond_self]
  try simp only [wd_eta]
  simp only [lit_owes, lit_wb, lit_st]
  obtain ⟨hl, ho, hc, hw0, hf⟩ := hp
  have t0 := ho.t0
  have t1 := ho.t1
  rcases Nat.eq_zero_or_pos (W.linesN a.toNat) with h0 | h0
  · have hw : waitB W a.toNat = false := fn0 h0
    have e : (fntB W a.toNat fun d3 => anyB 1 fun e3 => d3 == [4].getD e3 0) = false := fn0 h0
    simp only [e, show frtI W a.toNat false = -1 from rfl]
    have ho2 : ∀ w b, OfP (wbW (frtW W a.toNat false) t.toNat w b) t := fun w b => ho.frt.of rfl rfl rfl (updF_cp Run.core rfl)
    have hl2 : ∀ w b, LnP (wbW (frtW W a.toNat false) t.toNat w b) a := fun w b => ⟨hl.a0, hl.a1, hl.n, hl.h⟩
    refine ⟨⟨hl, by decide⟩, fun _ => ⟨fun h => ⟨⟨t0, t1⟩, ⟨t0, t1⟩, ⟨ho2 wd bd, hl2 wd bd⟩, ?_⟩, fun h => ⟨⟨t0, t1⟩, ⟨t0, t1⟩, ⟨ho2 wd bd, hl2 wd bd⟩, ?_⟩⟩, fun h => absurd h (by decide)⟩
    · subst h
      have e_tasks : sndW_tasks W t a bd wd true = _ := congrArg Wd.tasks ((sndW_f (t := t) (bd := bd) (wd := wd) (c := true) hw).trans rfl)
      have e_linesN : sndW_linesN W t a bd wd true = _ := congrArg Wd.linesN ((sndW_f (t := t) (bd := bd) (wd := wd) (c := true) hw).trans rfl)
      have e_lines : sndW_lines W t a bd wd true = _ := congrArg Wd.lines ((sndW_f (t := t) (bd := bd) (wd := wd) (c := true) hw).trans rfl)
      have e_cores : sndW_cores W t a bd wd true = _ := congrArg Wd.cores ((sndW_f (t := t) (bd := bd) (wd := wd) (c := true) hw).trans rfl)
      have e_readyN : sndW_readyN W t a bd wd true = _ := congrArg Wd.readyN ((sndW_f (t := t) (bd := bd) (wd := wd) (c := true) hw).trans rfl)
      have e_ready : sndW_ready W t a bd wd true = _ := congrArg Wd.ready ((sndW_f (t := t) (bd := bd) (wd := wd) (c := true) hw).trans rfl)
      simp only [e_tasks, e_linesN, e_lines, e_cores, e_readyN, e_ready]
      clear e_tasks e_linesN e_lines e_cores e_readyN e_ready
      repeat' (first | exact trivial | exact run20 rfl | rfl | refine And.intro ?_ ?_ | intro _ | fail)
    · subst h
      have e_tasks : sndW_tasks W t a bd wd false = _ := congrArg Wd.tasks ((sndW_f (t := t) (bd := bd) (wd := wd) (c := false) hw).trans rfl)
      have e_linesN : sndW_linesN W t a bd wd false = _ := congrArg Wd.linesN ((sndW_f (t := t) (bd := bd) (wd := wd) (c := false) hw).trans rfl)
      have e_lines : sndW_lines W t a bd wd false = _ := congrArg Wd.lines ((sndW_f (t := t) (bd := bd) (wd := wd) (c := false) hw).trans rfl)
      have e_cores : sndW_cores W t a bd wd false = _ := congrArg Wd.cores ((sndW_f (t := t) (bd := bd) (wd := wd) (c := false) hw).trans rfl)
      have e_readyN : sndW_readyN W t a bd wd false = _ := congrArg Wd.readyN ((sndW_f (t := t) (bd := bd) (wd := wd) (c := false) hw).trans rfl)
      have e_ready : sndW_ready W t a bd wd false = _ := congrArg Wd.ready ((sndW_f (t := t) (bd := bd) (wd := wd) (c := false) hw).trans rfl)
      simp only [e_tasks, e_linesN, e_lines, e_cores, e_readyN, e_ready]
      clear e_tasks e_linesN e_lines e_cores e_readyN e_ready
      repeat' (first | exact trivial | exact run20 rfl | rfl | refine And.intro ?_ ?_ | intro _ | fail)
  have hn : W.linesN a.toNat ≠ 0 := by omega
  obtain ⟨hwk, hs⟩ := hf h0
  cases hb : isWt (W.tasks (W.lines a.toNat 0).toNat).st with
  | false =>
    have hw : waitB W a.toNat = false := fn1 hn hb
    have e : (fntB W a.toNat fun d3 => anyB 1 fun e3 => d3 == [4].getD e3 0) = false := fn1 hn (by exact any4.trans hb)
    simp only [e, show frtI W a.toNat false = -1 from rfl]
    have ho2 : ∀ w b, OfP (wbW (frtW W a.toNat false) t.toNat w b) t := fun w b => ho.frt.of rfl rfl rfl (updF_cp Run.core rfl)
    have hl2 : ∀ w b, LnP (wbW (frtW W a.toNat false) t.toNat w b) a := fun w b => ⟨hl.a0, hl.a1, hl.n, hl.h⟩
    refine ⟨⟨hl, by decide⟩, fun _ => ⟨fun h => ⟨⟨t0, t1⟩, ⟨t0, t1⟩, ⟨ho2 wd bd, hl2 wd bd⟩, ?_⟩, fun h => ⟨⟨t0, t1⟩, ⟨t0, t1⟩, ⟨ho2 wd bd, hl2 wd bd⟩, ?_⟩⟩, fun h => absurd h (by decide)⟩
    · subst h
      have e_tasks : sndW_tasks W t a bd wd true = _ := congrArg Wd.tasks ((sndW_f (t := t) (bd := bd) (wd := wd) (c := true) hw).trans rfl)
      have e_linesN : sndW_linesN W t a bd wd true = _ := congrArg Wd.linesN ((sndW_f (t := t) (bd := bd) (wd := wd) (c := true) hw).trans rfl)
      have e_lines : sndW_lines W t a bd wd true = _ := congrArg Wd.lines ((sndW_f (t := t) (bd := bd) (wd := wd) (c := true) hw).trans rfl)
      have e_cores : sndW_cores W t a bd wd true = _ := congrArg Wd.cores ((sndW_f (t := t) (bd := bd) (wd := wd) (c := true) hw).trans rfl)
      have e_readyN : sndW_readyN W t a bd wd true = _ := congrArg Wd.readyN ((sndW_f (t := t) (bd := bd) (wd := wd) (c := true) hw).trans rfl)
      have e_ready : sndW_ready W t a bd wd true = _ := congrArg Wd.ready ((sndW_f (t := t) (bd := bd) (wd := wd) (c := true) hw).trans rfl)
      simp only [e_tasks, e_linesN, e_lines, e_cores, e_readyN, e_ready]
      clear e_tasks e_linesN e_lines e_cores e_readyN e_ready
      repeat' (first | exact trivial | exact run20 rfl | rfl | refine And.intro ?_ ?_ | intro _ | fail)
    · subst h
      have e_tasks : sndW_tasks W t a bd wd false = _ := congrArg Wd.tasks ((sndW_f (t := t) (bd := bd) (wd := wd) (c := false) hw).trans rfl)
      have e_linesN : sndW_linesN W t a bd wd false = _ := congrArg Wd.linesN ((sndW_f (t := t) (bd := bd) (wd := wd) (c := false) hw).trans rfl)
      have e_lines : sndW_lines W t a bd wd false = _ := congrArg Wd.lines ((sndW_f (t := t) (bd := bd) (wd := wd) (c := false) hw).trans rfl)
      have e_cores : sndW_cores W t a bd wd false = _ := congrArg Wd.cores ((sndW_f (t := t) (bd := bd) (wd := wd) (c := false) hw).trans rfl)
      have e_readyN : sndW_readyN W t a bd wd false = _ := congrArg Wd.readyN ((sndW_f (t := t) (bd := bd) (wd := wd) (c := false) hw).trans rfl)
      have e_ready : sndW_ready W t a bd wd false = _ := congrArg Wd.ready ((sndW_f (t := t) (bd := bd) (wd := wd) (c := false) hw).trans rfl)
      simp only [e_tasks, e_linesN, e_lines, e_cores, e_readyN, e_ready]
      clear e_tasks e_linesN e_lines e_cores e_readyN e_ready
      repeat' (first | exact trivial | exact run20 rfl | rfl | refine And.intro ?_ ?_ | intro _ | fail)
  | true =>
    have hw : waitB W a.toNat = true := fn1 hn hb
    have e : (fntB W a.toNat fun d3 => anyB 1 fun e3 => d3 == [4].getD e3 0) = true := fn1 hn (by exact any4.trans hb)
    simp only [e, show frtI W a.toNat true = W.lines a.toNat 0 from rfl]
    have ub := And.intro hwk.t0 hwk.t1
    refine ⟨⟨hl, by decide⟩, fun h => absurd hwk.t0 (by have := of_decide_eq_true h; omega), fun _ => ⟨ub, hwk.frt.han, fun h => ⟨ho.got, ⟨t0, t1⟩, ub, ?_⟩, fun h => ?_⟩⟩
    · subst h
      have e_tasks : sndW_tasks W t a bd wd true = _ := congrArg Wd.tasks ((sndW_t (t := t) (bd := bd) (wd := wd) (c := true) hw).trans (sgW_t rfl))
      have e_linesN : sndW_linesN W t a bd wd true = _ := congrArg Wd.linesN ((sndW_t (t := t) (bd := bd) (wd := wd) (c := true) hw).trans (sgW_t rfl))
      have e_lines : sndW_lines W t a bd wd true = _ := congrArg Wd.lines ((sndW_t (t := t) (bd := bd) (wd := wd) (c := true) hw).trans (sgW_t rfl))
      have e_cores : sndW_cores W t a bd wd true = _ := congrArg Wd.cores ((sndW_t (t := t) (bd := bd) (wd := wd) (c := true) hw).trans (sgW_t rfl))
      have e_readyN : sndW_readyN W t a bd wd true = _ := congrArg Wd.readyN ((sndW_t (t := t) (bd := bd) (wd := wd) (c := true) hw).trans (sgW_t rfl))
      have e_ready : sndW_ready W t a bd wd true = _ := congrArg Wd.ready ((sndW_t (t := t) (bd := bd) (wd := wd) (c := true) hw).trans (sgW_t rfl))
      simp only [e_tasks, e_linesN, e_lines, e_cores, e_readyN, e_ready]
      clear e_tasks e_linesN e_lines e_cores e_readyN e_ready
      refine ⟨fun j _ => ?_, ?_⟩
      · skip
        rcases Decidable.em (j = (W.lines a.toNat 0).toNat) with h1 | h1
        · subst h1
          rcases Decidable.em ((W.lines a.toNat 0).toNat = t.toNat) with h2 | h2
          · simp only [beqT h2, Nat.beq_refl, cond_true, owW_at, akW_eq h2]; repeat' (first | exact trivial | rfl | refine And.intro ?_ ?_)
          · simp only [beq_ne h2, Nat.beq_refl, cond_true, cond_false, owW_at, akW_ne h2]; repeat' (first | exact trivial | rfl | refine And.intro ?_ ?_)
        · rcases Decidable.em (j = t.toNat) with h2 | h2
          · subst h2
            simp only [beq_ne h1, Nat.beq_refl, cond_true, cond_false, owW_ne h1, akW_at]; repeat' (first | exact trivial | rfl | refine And.intro ?_ ?_)
          · simp only [beq_ne h1, beq_ne h2, cond_false, owW_ne h1, akW_ne h2]; repeat' (first | exact trivial | rfl | refine And.intro ?_ ?_)
      · skip
        repeat' (first | exact trivial | exact run20 rfl | rfl | refine And.intro ?_ ?_ | intro _ | fail)
    · subst h
      have e_tasks : sndW_tasks W t a bd wd false = _ := congrArg Wd.tasks ((sndW_t (t := t) (bd := bd) (wd := wd) (c := false) hw).trans (sgW_f rfl))
      have e_linesN : sndW_linesN W t a bd wd false = _ := congrArg Wd.linesN ((sndW_t (t := t) (bd := bd) (wd := wd) (c := false) hw).trans (sgW_f rfl))
      have e_lines : sndW_lines W t a bd wd false = _ := congrArg Wd.lines ((sndW_t (t := t) (bd := bd) (wd := wd) (c := false) hw).trans (sgW_f rfl))
      have e_cores : sndW_cores W t a bd wd false = _ := congrArg Wd.cores ((sndW_t (t := t) (bd := bd) (wd := wd) (c := false) hw).trans (sgW_f rfl))
      have e_readyN : sndW_readyN W t a bd wd false = _ := congrArg Wd.readyN ((sndW_t (t := t) (bd := bd) (wd := wd) (c := false) hw).trans (sgW_f rfl))
      have e_ready : sndW_ready W t a bd wd false = _ := congrArg Wd.ready ((sndW_t (t := t) (bd := bd) (wd := wd) (c := false) hw).trans (sgW_f rfl))
      simp only [e_tasks, e_linesN, e_lines, e_cores, e_readyN, e_ready]
      clear e_tasks e_linesN e_lines e_cores e_readyN e_ready
      repeat' (first | exact trivial | exact run20 rfl | rfl | refine And.intro ?_ ?_ | intro _ | fail)
end Go.Proofs.YtdjilaofmdhikaaGreatDoor
set_option linter.unusedVariables false
set_option linter.unusedSimpArgs false
set_option maxRecDepth 100000
namespace Go.Proofs.YtdjilaofmdhikaaGreatDoor
open Go.RowKit Go.Sy
theorem all2 {p : Nat → Bool} : allB 2 p = (p 0 && p 1) := by
  rw [Bool.eq_iff_iff, allB_iff, Bool.and_eq_true]
  refine ⟨fun h => ⟨h 0 (by omega), h 1 (by omega)⟩, fun h i hi => ?_⟩
  rcases Nat.eq_zero_or_pos i with e | e
  · rw [e]; exact h.1
  · obtain rfl : i = 1 := by omega
    exact h.2
theorem co_uni {W : Wd} (h : Snd W) (t : Int) (j : Nat) (h0 : 0 ≤ t) (hj : j < W.nCores) (he : W.cores j = t) : (W.tasks t.toNat).core = j := by
  have hc := h.co j hj
  unfold coB at hc
  rw [he] at hc
  simp only [Bool.or_eq_true, beq_iff_eq] at hc
  rcases hc with hc | hc
  · omega
  · exact (rdB_in hc).2.2.2.1
theorem ac_of {W : Wd} (h : Snd W) (hs : Sm W) : AcP W := ⟨h.z, fun i hi => ((inv_of h hs).tk i hi).core, co_uni h⟩
theorem of_of {W : Wd} (h : Snd W) (hs : Sm W) {t : Int} (t0 : 0 ≤ t) (t1 : t < W.nTasks) : OfP W t := by
  have hc := ((inv_of h hs).tk t.toNat (by omega)).core
  exact ⟨t0, t1, hc.1, hc.2, fun j hj he => co_uni h t j t0 hj he⟩
theorem wk_of {W : Wd} (h : Snd W) (hs : Sm W) {t : Int} (t0 : 0 ≤ t) (t1 : t < W.nTasks) : WkP W t := inv_wkp (inv_of h hs) (by decide) t0 t1
theorem ln_of {W : Wd} (h : Snd W) (hs : Sm W) {a : Int} (a0 : 0 ≤ a) (a1 : a < W.nLines) : LnP W a := by
  have hl := (inv_of h hs).ln a.toNat (by omega)
  exact ⟨a0, a1, by omega, fun hn => hl.2 0 hn⟩
theorem fst_st {W : Wd} (h : Snd W) {a : Nat} (ha : a < W.nKinds) (hn : 0 < W.linesN a) : (W.kinds a = 7 ∧ 2 ≤ (W.tasks (W.lines a 0).toNat).st ∧ (W.tasks (W.lines a 0).toNat).st ≤ 4) ∨ (W.kinds a = 8 ∧ (W.tasks (W.lines a 0).toNat).st = 6) := by
  have hl := h.ln a ha
  unfold lnB at hl
  simp only [Bool.and_eq_true] at hl
  have ht := allB_iff.1 hl.2 0 hn
  unfold lnTest at ht
  simp only [Bool.and_eq_true, beq_iff_eq] at ht
  obtain ⟨⟨h1, h2⟩, _⟩ := ht
  have hi := kof_in (W := W) (f := W.lines a 0) (by rw [h1]; decide)
  rw [kof_eq hi] at h1
  have hT := h.tk (W.lines a 0).toNat (by omega)
  unfold tkB at hT
  simp only [show (W.kinds (W.lines a 0).toNat != 6) = false by rw [h1]; decide, cond_false, Bool.and_eq_true] at hT
  have hT := hT.2
  have ka : kof W (a : Int) = W.kinds a := kof_eq (W := W) (f := (a : Int)) (by omega)
  unfold stOK standOK at hT
  dsimp only at hT
  rw [h2, ka] at hT
  cases c1 : (W.tasks (W.lines a 0).toNat).st == 2 <;> cases c2 : (W.tasks (W.lines a 0).toNat).st == 3 <;> cases c3 : (W.tasks (W.lines a 0).toNat).st == 4 <;> cases c4 : (W.tasks (W.lines a 0).toNat).st == 6 <;> cases c5 : (W.tasks (W.lines a 0).toNat).st == 1 <;> simp only [c1, c2, c3, c4, c5, Bool.or_true, Bool.true_or, Bool.or_false, cond_true, cond_false, Bool.and_eq_true, beq_iff_eq] at hT <;> simp only [beq_iff_eq, beq_eq_false_iff_ne] at c1 c2 c3 c4 c5 <;> omega
theorem do_of {W : Wd} (h : Snd W) (hs : Sm W) {t a : Int} (t0 : 0 ≤ t) (t1 : t < W.nKinds) (a0 : 0 ≤ a) (a1 : a < W.nKinds) (hk : W.kinds a.toNat = 7) : DoP W t a := by
  have I := inv_of h hs
  have z1 := h.z.lines
  have z3 := h.z.tasks
  have z4 := h.z.c1
  have hl := I.ln a.toNat (by omega)
  refine ⟨ln_of h hs a0 (by omega), of_of h hs t0 (by omega), by omega, (I.tk t.toNat (by omega)).owes.1, fun hn => ?_⟩
  have hf := hl.2 0 hn
  refine ⟨wk_of h hs hf.1 hf.2, ?_⟩
  rcases fst_st h (by omega) hn with e | e
  · exact e.2
  · omega
theorem act_0 {W : Wd} {t a k : Int} (h : actE W t a k = 0) : 0 ≤ t ∧ t < W.nKinds ∧ 0 ≤ a ∧ a < W.nKinds ∧ W.kinds t.toNat = 6 ∧ W.kinds a.toNat = k := by
  unfold actE at h
  cases h1 : (decide (t < 0) || decide ((W.nKinds : Int) ≤ t) || decide (a < 0) || decide ((W.nKinds : Int) ≤ a)) with
  | true => rw [h1] at h; exact absurd (show (2 : Int) = 0 from h) (by decide)
  | false =>
    cases h2 : (W.kinds t.toNat != 6 || W.kinds a.toNat != k) with
    | true => rw [h1, h2] at h; exact absurd (show (3 : Int) = 0 from h) (by decide)
    | false =>
      simp only [Bool.or_eq_false_iff, decide_eq_false_iff_not, bne_eq_false_iff_eq] at h1 h2
      omega
end Go.Proofs.YtdjilaofmdhikaaGreatDoor
