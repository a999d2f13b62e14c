/- Deeds in a sound world, and in one that is not. -/
import Derived.Test.YtdjilaofmdhikaaGreatDoorYH
import Derived.Test.YtdjilaofmdhikaaGreatDoorYK
import Derived.Test.YtdjilaofmdhikaaGreatDoorYG
import Derived.OpenShut
import Derived.ChangeArms
import Derived.MakeChecks
import Derived.Lay
import Derived.Test.YtdjilaofmdhikaaGreatDoorTie
import Derived.ChangeSame
import Derived.ChangeVars
import Derived.JoinedOf
import Derived.RowKit
import Derived.LaidLaws
import Derived.LaidHandle
import Derived.Stop.Joined
import Derived.SevenTiedAt
import Derived.OpenVars
import Derived.Test.YtdjilaofmdhikaaGreatDoorCards
set_option linter.unusedVariables false
set_option linter.unusedSimpArgs false
set_option linter.unusedVariables false
set_option linter.unusedSimpArgs false
set_option maxRecDepth 100000
namespace Go.Proofs.YtdjilaofmdhikaaGreatDoor
open Go.RowKit Go.Sy
def wRd (W : Wd) : SV := .ag 11 (lsv [.sl false 1 W.nRam (iF W.ram), .sl false 1 W.nKinds (iF W.kinds), .sl false 7 W.nSlots (rF fun i => slL (W.slots i)), .sl false 20 W.nTasks (rF fun i => runL (W.tasks i)), .sl false 1 W.nLines (fun i _ => .sl false 1 (W.linesN i) (iF (W.lines i))), .sl false 1 W.nBits (iF W.bits), .sl false 1 W.nCores (iF W.cores), .sl false 1 W.nReady (fun i _ => .sl false 1 (W.readyN i) (iF (W.ready i))), .sl false 1 W.nTlbs (fun i _ => .sl false 4 (W.tlbsN i) (rF fun k => enL (W.tlbs i k))), .sl false 1 W.nDoms (iF W.doms), .v (.int .i64 W.time)])
def oW : Wd := ⟨0, fun _ => 0, 0, fun _ => 0, 0, fun _ => zSl, 0, fun _ => Run.blank, 0, fun _ => 0, fun _ _ => 0, 0, fun _ => 0, 0, fun _ => 0, 0, fun _ => 0, fun _ _ => 0, 0, fun _ => 0, fun _ _ => zEn, 0, fun _ => 0, 0⟩
def gdW (e : Int) (W : Wd) : Wd := bif e == 0 then W else oW
theorem gdW_no {e : Int} (W : Wd) (h : (e == 0) = false) : gdW e W = oW := by unfold gdW; rw [h]; rfl
theorem gdW_yes {e : Int} (W : Wd) (h : (e == 0) = true) : gdW e W = W := by unfold gdW; rw [h]; rfl
theorem sameB_refl (n : Nat) (f : Nat → Int) : sameB n f n f = true := by simp [sameB, allB_iff]
theorem sameLL_refl (n : Nat) (k : Nat → Nat) (f : Nat → Nat → Int) : sameLL n k f n k f = true := by simp [sameLL, allB_iff, sameB_refl]
theorem sameEn_refl (n : Nat) (f : Nat → Ent4) : sameEn n f n f = true := by simp [sameEn, allB_iff, enEq]
theorem sameW_refl (W : Wd) : sameW W W = true := by simp [sameW, sameB_refl, sameLL_refl, sameEn_refl, allB_iff, slEq, runEq]
theorem lg_sm {W : Wd} (h : Sm W) : Lg W := by
  obtain ⟨h1, h2, h3, h4, h5, h6, h7, h8, h9, h10, h11, h12, h13⟩ := h
  exact ⟨h1, by omega, h3, by omega, by omega, by omega, by omega, by omega, by omega, by omega, fun i hi => by have := h11 i hi; omega, fun i hi => by have := h12 i hi; omega, fun i hi => by have := h13 i hi; omega⟩
theorem snd0 {W : Wd} (h : Snd W) : wE W = 0 := Snd.iff.2 h
structure X_nothing where
  (A : Wd)
def s_nothing : Sy.Spec := ⟨X_nothing, fun ⟨A⟩ => [wSV A], fun _ => [], fun ⟨A⟩ => A.nRam = 0 ∧ A.nKinds = 0 ∧ A.nSlots = 0 ∧ A.nTasks = 0 ∧ A.nLines = 0 ∧ A.nBits = 0 ∧ A.nCores = 0 ∧ A.nReady = 0 ∧ A.nTlbs = 0 ∧ A.nDoms = 0 ∧ A.time = 0, fun _ => .v (.bool true), fun _ => [],
  fun args mem => match args with | [a0] => some ⟨wSVD a0⟩ | _ => none⟩
def c_nothing : Con := ⟨[], s_nothing.g, none⟩
def V_nothing : X_nothing → Prop := fun ⟨A⟩ => let a0:Int:=((A.nRam:Nat):Int)+((A.nKinds:Nat):Int);let b0:Int:=a0+((A.nSlots:Nat):Int);let c0:Int:=b0+((A.nTasks:Nat):Int);let d0:Int:=c0+((A.nLines:Nat):Int);let e0:Int:=d0+((A.nBits:Nat):Int);let g0:Int:=e0+((A.nCores:Nat):Int);let h0:Int:=g0+((A.nReady:Nat):Int);let k0:Int:=h0+((A.nTlbs:Nat):Int);let l0:Int:=k0+((A.nDoms:Nat):Int);let o0:Int:=l0+A.time;True∧(((A.nRam:Nat):Int)≤9223372036854775807→((A.nKinds:Nat):Int)≤9223372036854775807→w64 a0=a0∧(((A.nSlots:Nat):Int)≤9223372036854775807→w64 b0=b0∧(((A.nTasks:Nat):Int)≤9223372036854775807→w64 c0=c0∧(((A.nLines:Nat):Int)≤9223372036854775807→w64 d0=d0∧(((A.nBits:Nat):Int)≤9223372036854775807→w64 e0=e0∧(((A.nCores:Nat):Int)≤9223372036854775807→w64 g0=g0∧(((A.nReady:Nat):Int)≤9223372036854775807→w64 h0=h0∧(((A.nTlbs:Nat):Int)≤9223372036854775807→w64 k0=k0∧(((A.nDoms:Nat):Int)≤9223372036854775807→w64 l0=l0∧w64 o0=o0∧(o0==0)=true∧True)))))))))
theorem ok_nothing : FnOK Tryz.prog glE 70 c_nothing := ok_of .nil false Tryz.call70 Tryz.func70 (fun _ => []) (V := V_nothing) (fun _ => by kernel_rfl) fun ⟨A⟩ hp => by
  dsimp only [s_nothing] at hp
  dsimp only [V_nothing, tn, w64]
  obtain ⟨h1, h2, h3, h4, h5, h6, h7, h8, h9, h10, h11⟩ := hp
  simp [h1, h2, h3, h4, h5, h6, h7, h8, h9, h10, h11, IntKind.wrap_i64]
structure X_soundR where
  (W : Wd)
def s_soundR : Sy.Spec := ⟨X_soundR, fun ⟨W⟩ => [wSV W], fun _ => [], fun ⟨W⟩ => Sm W, fun ⟨W⟩ => .v (.bool (wE W == 0)), fun _ => [],
  fun args mem => match args with | [a0] => some ⟨wSVD a0⟩ | _ => none⟩
def c_soundR : Con := ⟨[], s_soundR.g, none⟩
def V_soundR : X_soundR → Prop := fun ⟨W⟩ => let a0:=W.nKinds;let b0:=W.nSlots;let c0:=W.nTasks;let d0:=W.nLines;let e0:=W.nCores;let g0:=W.nReady;True∧(((((((((((((True∧W.nRam=W.nRam∧(∀h0:Nat,h0<W.nRam→True∧W.ram h0=W.ram h0))∧a0=a0∧(∀k0:Nat,k0<a0→True∧W.kinds k0=W.kinds k0))∧b0=b0∧(∀l0:Nat,let o0:=W.slots l0;let q0:=o0.kind;let u0:=o0.base;let v0:=o0.len;let w0:=o0.mark;let x0:=o0.rights;let y0:=o0.badge;let z0:=o0.from_;l0<b0→((((((True∧q0=q0)∧u0=u0)∧v0=v0)∧w0=w0)∧x0=x0)∧y0=y0)∧z0=z0))∧c0=c0∧(∀a1:Nat,let b1:=W.tasks a1;let c1:=b1.prio;let d1:=b1.node;let e1:=b1.space;let g1:=b1.helper;let h1:=b1.loc;let k1:=b1.word;let l1:=b1.badge;let o1:=b1.owes;let q1:=b1.core;let u1:=b1.dom;a1<c0→(((((((((((((((((((True∧b1.r0=b1.r0)∧b1.r1=b1.r1)∧b1.r2=b1.r2)∧b1.r3=b1.r3)∧b1.r4=b1.r4)∧b1.r5=b1.r5)∧b1.r6=b1.r6)∧b1.r7=b1.r7)∧b1.pc=b1.pc)∧b1.st=b1.st)∧c1=c1)∧d1=d1)∧e1=e1)∧g1=g1)∧h1=h1)∧k1=k1)∧l1=l1)∧o1=o1)∧q1=q1)∧u1=u1))∧d0=d0∧(∀v1:Nat,let w1:=W.linesN v1;v1<d0→True∧w1=w1∧(∀x1:Nat,x1<w1→True∧W.lines v1 x1=W.lines v1 x1)))∧W.nBits=W.nBits∧(∀y1:Nat,y1<W.nBits→True∧W.bits y1=W.bits y1))∧e0=e0∧(∀z1:Nat,z1<e0→True∧W.cores z1=W.cores z1))∧g0=g0∧(∀a2:Nat,let b2:=W.readyN a2;a2<g0→True∧b2=b2∧(∀c2:Nat,c2<b2→True∧W.ready a2 c2=W.ready a2 c2)))∧W.nTlbs=W.nTlbs∧(∀d2:Nat,let e2:=W.tlbsN d2;d2<W.nTlbs→True∧e2=e2∧(∀g2:Nat,let h2:=W.tlbs d2 g2;let k2:=h2.sp;let l2:=h2.pg;let o2:=h2.fr;let q2:=h2.wr;g2<e2→(((True∧k2=k2)∧l2=l2)∧o2=o2)∧q2=q2)))∧W.nDoms=W.nDoms∧(∀u2:Nat,u2<W.nDoms→True∧W.doms u2=W.doms u2))∧W.time=W.time)∧True)∧True∧
    s_worldMay.match_1 (fun v2:X_worldMay=>Prop) (X_worldMay.mk W) (fun w2:Wd=>Sm w2))∧(wE W==0)=(wE W==0)∧True
set_option maxHeartbeats 1000000 in
theorem ok_soundR : FnOK Tryz.prog glE 72 c_soundR := ok_of (.cons (ok_worldMay.up glN_glE) .nil) false Tryz.call72 Tryz.func72 (fun _ => []) (V := V_soundR) (fun _ => by kernel_rfl) fun ⟨W⟩ hp => by
  dsimp only [s_soundR] at hp
  dsimp only [V_soundR, tn, w64]
  simp only [std, stb, eq_self, implies_true, Bool.cond_self]
  exact hp
structure X_sound0 where
  (W : Wd)
def s_sound0 : Sy.Spec := ⟨X_sound0, fun ⟨W⟩ => [wSV W], fun _ => [], fun ⟨W⟩ => Sm W ∧ Snd W, fun _ => .v (.int .i64 0), fun _ => [],
  fun args mem => match args with | [a0] => some ⟨wSVD a0⟩ | _ => none⟩
def c_sound0 : Con := ⟨[], s_sound0.g, none⟩
def V_sound0 : X_sound0 → Prop := fun ⟨W⟩ => let a0:=W.nKinds;let b0:=W.nSlots;let c0:=W.nTasks;let d0:=W.nLines;let e0:=W.nCores;let g0:=W.nReady;True∧(((((((((((((True∧W.nRam=W.nRam∧(∀h0:Nat,h0<W.nRam→True∧W.ram h0=W.ram h0))∧a0=a0∧(∀k0:Nat,k0<a0→True∧W.kinds k0=W.kinds k0))∧b0=b0∧(∀l0:Nat,let o0:=W.slots l0;let q0:=o0.kind;let u0:=o0.base;let v0:=o0.len;let w0:=o0.mark;let x0:=o0.rights;let y0:=o0.badge;let z0:=o0.from_;l0<b0→((((((True∧q0=q0)∧u0=u0)∧v0=v0)∧w0=w0)∧x0=x0)∧y0=y0)∧z0=z0))∧c0=c0∧(∀a1:Nat,let b1:=W.tasks a1;let c1:=b1.prio;let d1:=b1.node;let e1:=b1.space;let g1:=b1.helper;let h1:=b1.loc;let k1:=b1.word;let l1:=b1.badge;let o1:=b1.owes;let q1:=b1.core;let u1:=b1.dom;a1<c0→(((((((((((((((((((True∧b1.r0=b1.r0)∧b1.r1=b1.r1)∧b1.r2=b1.r2)∧b1.r3=b1.r3)∧b1.r4=b1.r4)∧b1.r5=b1.r5)∧b1.r6=b1.r6)∧b1.r7=b1.r7)∧b1.pc=b1.pc)∧b1.st=b1.st)∧c1=c1)∧d1=d1)∧e1=e1)∧g1=g1)∧h1=h1)∧k1=k1)∧l1=l1)∧o1=o1)∧q1=q1)∧u1=u1))∧d0=d0∧(∀v1:Nat,let w1:=W.linesN v1;v1<d0→True∧w1=w1∧(∀x1:Nat,x1<w1→True∧W.lines v1 x1=W.lines v1 x1)))∧W.nBits=W.nBits∧(∀y1:Nat,y1<W.nBits→True∧W.bits y1=W.bits y1))∧e0=e0∧(∀z1:Nat,z1<e0→True∧W.cores z1=W.cores z1))∧g0=g0∧(∀a2:Nat,let b2:=W.readyN a2;a2<g0→True∧b2=b2∧(∀c2:Nat,c2<b2→True∧W.ready a2 c2=W.ready a2 c2)))∧W.nTlbs=W.nTlbs∧(∀d2:Nat,let e2:=W.tlbsN d2;d2<W.nTlbs→True∧e2=e2∧(∀g2:Nat,let h2:=W.tlbs d2 g2;let k2:=h2.sp;let l2:=h2.pg;let o2:=h2.fr;let q2:=h2.wr;g2<e2→(((True∧k2=k2)∧l2=l2)∧o2=o2)∧q2=q2)))∧W.nDoms=W.nDoms∧(∀u2:Nat,u2<W.nDoms→True∧W.doms u2=W.doms u2))∧W.time=W.time)∧True)∧True∧
    s_soundR.match_1 (fun v2:X_soundR=>Prop) (X_soundR.mk W) (fun w2:Wd=>Sm w2))∧((wE W==0)=true→(0:Int)=0∧True)∧((wE W==0)=false→(8:Int)=0∧True)
set_option maxHeartbeats 1000000 in
theorem ok_sound0 : FnOK Tryz.prog glE 16 c_sound0 := ok_of (.cons ok_soundR .nil) false Tryz.call16 Tryz.func16 (fun _ => []) (V := V_sound0) (fun _ => by kernel_rfl) fun ⟨W⟩ hp => by
  dsimp only [s_sound0] at hp
  dsimp only [V_sound0, tn, w64]
  simp only [std, stb, eq_self, implies_true, Bool.cond_self]
  exact ⟨hp.1, fun h => by rw [snd0 hp.2] at h; exact absurd h (by decide)⟩
structure X_sound8 where
  (W : Wd)
def s_sound8 : Sy.Spec := ⟨X_sound8, fun ⟨W⟩ => [wSV W], fun _ => [], fun ⟨W⟩ => Sm W ∧ wE W ≠ 0, fun _ => .v (.int .i64 8), fun _ => [],
  fun args mem => match args with | [a0] => some ⟨wSVD a0⟩ | _ => none⟩
def c_sound8 : Con := ⟨[], s_sound8.g, none⟩
def V_sound8 : X_sound8 → Prop := fun ⟨W⟩ => let a0:=W.nKinds;let b0:=W.nSlots;let c0:=W.nTasks;let d0:=W.nLines;let e0:=W.nCores;let g0:=W.nReady;True∧(((((((((((((True∧W.nRam=W.nRam∧(∀h0:Nat,h0<W.nRam→True∧W.ram h0=W.ram h0))∧a0=a0∧(∀k0:Nat,k0<a0→True∧W.kinds k0=W.kinds k0))∧b0=b0∧(∀l0:Nat,let o0:=W.slots l0;let q0:=o0.kind;let u0:=o0.base;let v0:=o0.len;let w0:=o0.mark;let x0:=o0.rights;let y0:=o0.badge;let z0:=o0.from_;l0<b0→((((((True∧q0=q0)∧u0=u0)∧v0=v0)∧w0=w0)∧x0=x0)∧y0=y0)∧z0=z0))∧c0=c0∧(∀a1:Nat,let b1:=W.tasks a1;let c1:=b1.prio;let d1:=b1.node;let e1:=b1.space;let g1:=b1.helper;let h1:=b1.loc;let k1:=b1.word;let l1:=b1.badge;let o1:=b1.owes;let q1:=b1.core;let u1:=b1.dom;a1<c0→(((((((((((((((((((True∧b1.r0=b1.r0)∧b1.r1=b1.r1)∧b1.r2=b1.r2)∧b1.r3=b1.r3)∧b1.r4=b1.r4)∧b1.r5=b1.r5)∧b1.r6=b1.r6)∧b1.r7=b1.r7)∧b1.pc=b1.pc)∧b1.st=b1.st)∧c1=c1)∧d1=d1)∧e1=e1)∧g1=g1)∧h1=h1)∧k1=k1)∧l1=l1)∧o1=o1)∧q1=q1)∧u1=u1))∧d0=d0∧(∀v1:Nat,let w1:=W.linesN v1;v1<d0→True∧w1=w1∧(∀x1:Nat,x1<w1→True∧W.lines v1 x1=W.lines v1 x1)))∧W.nBits=W.nBits∧(∀y1:Nat,y1<W.nBits→True∧W.bits y1=W.bits y1))∧e0=e0∧(∀z1:Nat,z1<e0→True∧W.cores z1=W.cores z1))∧g0=g0∧(∀a2:Nat,let b2:=W.readyN a2;a2<g0→True∧b2=b2∧(∀c2:Nat,c2<b2→True∧W.ready a2 c2=W.ready a2 c2)))∧W.nTlbs=W.nTlbs∧(∀d2:Nat,let e2:=W.tlbsN d2;d2<W.nTlbs→True∧e2=e2∧(∀g2:Nat,let h2:=W.tlbs d2 g2;let k2:=h2.sp;let l2:=h2.pg;let o2:=h2.fr;let q2:=h2.wr;g2<e2→(((True∧k2=k2)∧l2=l2)∧o2=o2)∧q2=q2)))∧W.nDoms=W.nDoms∧(∀u2:Nat,u2<W.nDoms→True∧W.doms u2=W.doms u2))∧W.time=W.time)∧True)∧True∧
    s_soundR.match_1 (fun v2:X_soundR=>Prop) (X_soundR.mk W) (fun w2:Wd=>Sm w2))∧((wE W==0)=true→(0:Int)=8∧True)∧((wE W==0)=false→(8:Int)=8∧True)
set_option maxHeartbeats 1000000 in
theorem ok_sound8 : FnOK Tryz.prog glE 16 c_sound8 := ok_of (.cons ok_soundR .nil) false Tryz.call16 Tryz.func16 (fun _ => []) (V := V_sound8) (fun _ => by kernel_rfl) fun ⟨W⟩ hp => by
  dsimp only [s_sound8] at hp
  dsimp only [V_sound8, tn, w64]
  simp only [std, stb, eq_self, implies_true, Bool.cond_self]
  exact ⟨hp.1, fun h => absurd (eq_of_beq h) hp.2⟩
structure X_done8 where
  (W : Wd)
def s_done8 : Sy.Spec := ⟨X_done8, fun ⟨W⟩ => [wSV W, .junk], fun _ => [], fun ⟨W⟩ => Sm W ∧ wE W ≠ 0, fun _ => .tp 2 (lsv [wRd oW, .er 35 116 8 (-1)]), fun _ => [],
  fun args mem => match args with | [a0, a1] => some ⟨wSVD a0⟩ | _ => none⟩
def c_done8 : Con := ⟨[], s_done8.g, none⟩
def V_done8 : X_done8 → Prop := fun ⟨W⟩ => let a0:=W.nKinds;let b0:=W.nSlots;let c0:=W.nTasks;let d0:=W.nLines;let e0:=W.nCores;let g0:=W.nReady;let h0:=0=0;tn 2 ((((((((((((((True∧W.nRam=W.nRam∧(∀k0:Nat,k0<W.nRam→True∧W.ram k0=W.ram k0))∧a0=a0∧(∀l0:Nat,l0<a0→True∧W.kinds l0=W.kinds l0))∧b0=b0∧(∀o0:Nat,let q0:=W.slots o0;let u0:=q0.kind;let v0:=q0.base;let w0:=q0.len;let x0:=q0.mark;let y0:=q0.rights;let z0:=q0.badge;let a1:=q0.from_;o0<b0→((((((True∧u0=u0)∧v0=v0)∧w0=w0)∧x0=x0)∧y0=y0)∧z0=z0)∧a1=a1))∧c0=c0∧(∀b1:Nat,let c1:=W.tasks b1;let d1:=c1.prio;let e1:=c1.node;let g1:=c1.space;let h1:=c1.helper;let k1:=c1.loc;let l1:=c1.word;let o1:=c1.badge;let q1:=c1.owes;let u1:=c1.core;let v1:=c1.dom;b1<c0→(((((((((((((((((((True∧c1.r0=c1.r0)∧c1.r1=c1.r1)∧c1.r2=c1.r2)∧c1.r3=c1.r3)∧c1.r4=c1.r4)∧c1.r5=c1.r5)∧c1.r6=c1.r6)∧c1.r7=c1.r7)∧c1.pc=c1.pc)∧c1.st=c1.st)∧d1=d1)∧e1=e1)∧g1=g1)∧h1=h1)∧k1=k1)∧l1=l1)∧o1=o1)∧q1=q1)∧u1=u1)∧v1=v1))∧d0=d0∧(∀w1:Nat,let x1:=W.linesN w1;w1<d0→True∧x1=x1∧(∀y1:Nat,y1<x1→True∧W.lines w1 y1=W.lines w1 y1)))∧W.nBits=W.nBits∧(∀z1:Nat,z1<W.nBits→True∧W.bits z1=W.bits z1))∧e0=e0∧(∀a2:Nat,a2<e0→True∧W.cores a2=W.cores a2))∧g0=g0∧(∀b2:Nat,let c2:=W.readyN b2;b2<g0→True∧c2=c2∧(∀d2:Nat,d2<c2→True∧W.ready b2 d2=W.ready b2 d2)))∧W.nTlbs=W.nTlbs∧(∀e2:Nat,let g2:=W.tlbsN e2;e2<W.nTlbs→True∧g2=g2∧(∀h2:Nat,let k2:=W.tlbs e2 h2;let l2:=k2.sp;let o2:=k2.pg;let q2:=k2.fr;let u2:=k2.wr;h2<g2→(((True∧l2=l2)∧o2=o2)∧q2=q2)∧u2=u2)))∧W.nDoms=W.nDoms∧(∀v2:Nat,v2<W.nDoms→True∧W.doms v2=W.doms v2))∧W.time=W.time)∧True)∧True∧
    s_wCheck.match_1 (fun w2:X_wCheck=>Prop) (X_wCheck.mk W) (fun x2:Wd=>Sm x2))∧((wE W !=0)=true→tn 10 True∧((True∧((((((((((True∧h0)∧h0)∧h0)∧h0)∧h0)∧h0)∧h0)∧h0)∧h0)∧h0)∧(0:Int)=0)∧(8:Int)≠0∧(8:Int)=8∧((-1):Int)=(-1))∧True)∧((wE W !=0)=false→False))
set_option maxHeartbeats 1000000 in
theorem ok_done8 : FnOK Tryz.prog glE 66 c_done8 := ok_of (.cons (ok_wCheck.up glN_glE) .nil) false Tryz.call66 Tryz.func66 (fun _ => []) (V := V_done8) (fun _ => by kernel_rfl) fun ⟨W⟩ hp => by
  dsimp only [s_done8] at hp
  dsimp only [V_done8, tn, w64]
  simp only [std, stb, eq_self, implies_true, Bool.cond_self]
  exact ⟨hp.1, fun _ => by decide, fun h => absurd (by simpa using h) hp.2⟩
structure X_did8 where
  (W : Wd)
def s_did8 : Sy.Spec := ⟨X_did8, fun ⟨W⟩ => [wRd oW, .er 35 116 8 (-1), wSV W, .v (.int .i64 8), .junk], fun _ => [], fun ⟨W⟩ => Lg W, fun _ => .v (.bool true), fun _ => [],
  fun args mem => match args with | [a0, a1, a2, a3, a4] => some ⟨wSVD a2⟩ | _ => none⟩
def c_did8 : Con := ⟨[], s_did8.g, none⟩
def V_did8 : X_did8 → Prop := fun ⟨W⟩ => let a0:=W.nRam;let b0:=a0=a0;let c0:=W.nKinds;let d0:=c0=c0;let e0:=W.nSlots;let g0:=e0=e0;let h0:=W.nTasks;let k0:=h0=h0;let l0:=W.nLines;let o0:=l0=l0;let q0:=W.nBits;let u0:=q0=q0;let v0:=W.nCores;let w0:=v0=v0;let x0:=W.nReady;let y0:=x0=x0;let z0:=W.nTlbs;let a1:=z0=z0;let b1:=W.nDoms;let c1:=b1=b1;let d1:=W.time=W.time;let e1:=True∧True;let g1:=(8:Int)==0;let h1:=g1=true;let k1:=(8:Int)=8;let l1:=((-1):Int)=(-1);let o1:=(8:Int)==8&&((-1):Int)==(-1);let q1:=0=0;let u1:=(0:Int)=0;let v1:=True∧u1;let w1:=q1∧(∀x1:Nat,x1<0→v1);let y1:=True∧w1;let z1:=(v1∧u1)∧u1;let a2:=(((z1∧u1)∧u1)∧u1)∧u1;let b2:=q1∧(∀c2:Nat,c2<0→y1);let d2:=(((((((((y1∧w1)∧q1∧(∀e2:Nat,e2<0→a2))∧q1∧(∀g2:Nat,g2<0→((((((((((((a2∧u1)∧u1)∧u1)∧u1)∧l1)∧l1)∧l1)∧l1)∧u1)∧u1)∧l1)∧u1)∧u1))∧b2)∧w1)∧w1)∧b2)∧q1∧(∀h2:Nat,h2<0→True∧q1∧(∀k2:Nat,k2<0→z1∧false=false)))∧w1)∧u1;tn 2 ((((((((((((((True∧b0∧(∀l2:Nat,l2<a0→True∧W.ram l2=W.ram l2))∧d0∧(∀o2:Nat,o2<c0→True∧W.kinds o2=W.kinds o2))∧g0∧(∀q2:Nat,let u2:=W.slots q2;let v2:=u2.kind;let w2:=u2.base;let x2:=u2.len;let y2:=u2.mark;let z2:=u2.rights;let a3:=u2.badge;let b3:=u2.from_;q2<e0→((((((True∧v2=v2)∧w2=w2)∧x2=x2)∧y2=y2)∧z2=z2)∧a3=a3)∧b3=b3))∧k0∧(∀c3:Nat,let d3:=W.tasks c3;let e3:=d3.prio;let g3:=d3.node;let h3:=d3.space;let k3:=d3.helper;let l3:=d3.loc;let o3:=d3.word;let q3:=d3.badge;let u3:=d3.owes;let v3:=d3.core;let w3:=d3.dom;c3<h0→(((((((((((((((((((True∧d3.r0=d3.r0)∧d3.r1=d3.r1)∧d3.r2=d3.r2)∧d3.r3=d3.r3)∧d3.r4=d3.r4)∧d3.r5=d3.r5)∧d3.r6=d3.r6)∧d3.r7=d3.r7)∧
    d3.pc=d3.pc)∧d3.st=d3.st)∧e3=e3)∧g3=g3)∧h3=h3)∧k3=k3)∧l3=l3)∧o3=o3)∧q3=q3)∧u3=u3)∧v3=v3)∧w3=w3))∧o0∧(∀x3:Nat,let y3:=W.linesN x3;x3<l0→True∧y3=y3∧(∀z3:Nat,z3<y3→True∧W.lines x3 z3=W.lines x3 z3)))∧u0∧(∀a4:Nat,a4<q0→True∧W.bits a4=W.bits a4))∧w0∧(∀b4:Nat,b4<v0→True∧W.cores b4=W.cores b4))∧y0∧(∀c4:Nat,let d4:=W.readyN c4;c4<x0→True∧d4=d4∧(∀e4:Nat,e4<d4→True∧W.ready c4 e4=W.ready c4 e4)))∧a1∧(∀g4:Nat,let h4:=W.tlbsN g4;g4<z0→True∧h4=h4∧(∀k4:Nat,let l4:=W.tlbs g4 k4;let o4:=l4.sp;let q4:=l4.pg;let u4:=l4.fr;let v4:=l4.wr;k4<h4→(((True∧o4=o4)∧q4=q4)∧u4=u4)∧v4=v4)))∧c1∧(∀w4:Nat,w4<b1→True∧W.doms w4=W.doms w4))∧d1)∧True)∧True∧s_copyW.match_1 (fun x4:X_copyW=>Prop) (X_copyW.mk W) (fun y4:Wd=>Lg y4))∧True∧tn 9 e1∧(h1→False)∧(g1=false→(((8:Int) !=0)=true→((k1∧True)∧e1)∧(((k1∧l1)∧((True∧k1)∧l1)∧True)∧e1)∧(o1=true→(d2∧True)∧True∧q1∧q1∧q1∧q1∧q1∧q1∧q1∧q1∧q1∧q1∧u1)∧cond o1 true false=true∧True)∧(((8:Int) !=0)=false→(h1→(d2∧(((((((((((True∧b0∧(∀z4:Nat,z4<a0→True∧W.ram (0+z4)=W.ram (0+z4)))∧d0∧(∀a5:Nat,let b5:=W.kinds (0+a5);a5<c0→True∧b5=b5))∧g0∧(∀c5:Nat,let d5:=W.slots (0+c5);let e5:=d5.kind;let g5:=d5.base;let h5:=d5.len;let k5:=d5.mark;let l5:=d5.rights;let o5:=d5.badge;let q5:=d5.from_;c5<e0→((((((True∧e5=e5)∧g5=g5)∧h5=h5)∧k5=k5)∧l5=l5)∧o5=o5)∧q5=q5))∧k0∧(∀u5:Nat,let v5:=W.tasks (0+u5);let w5:=v5.r0;let x5:=v5.r1;let y5:=v5.r2;let z5:=v5.r3;let a6:=v5.r4;let b6:=v5.r5;let c6:=v5.r6;let d6:=v5.r7;let e6:=v5.pc;let g6:=v5.st;let h6:=v5.prio;let k6:=v5.node;let l6:=v5.space;
    let o6:=v5.helper;let q6:=v5.loc;let u6:=v5.word;let v6:=v5.badge;let w6:=v5.owes;let x6:=v5.core;let y6:=v5.dom;u5<h0→(((((((((((((((((((True∧w5=w5)∧x5=x5)∧y5=y5)∧z5=z5)∧a6=a6)∧b6=b6)∧c6=c6)∧d6=d6)∧e6=e6)∧g6=g6)∧h6=h6)∧k6=k6)∧l6=l6)∧o6=o6)∧q6=q6)∧u6=u6)∧v6=v6)∧w6=w6)∧x6=x6)∧y6=y6))∧o0∧(∀z6:Nat,let a7:=W.linesN (0+z6);z6<l0→True∧a7=a7∧(∀b7:Nat,let c7:=W.lines (0+z6) (0+b7);b7<a7→True∧c7=c7)))∧u0∧(∀d7:Nat,d7<q0→True∧W.bits (0+d7)=W.bits (0+d7)))∧w0∧(∀e7:Nat,let g7:=W.cores (0+e7);e7<v0→True∧g7=g7))∧y0∧(∀h7:Nat,let k7:=W.readyN (0+h7);h7<x0→True∧k7=k7∧(∀l7:Nat,let o7:=W.ready (0+h7) (0+l7);l7<k7→True∧o7=o7)))∧a1∧(∀q7:Nat,let u7:=0+q7;let v7:=W.tlbsN u7;q7<z0→True∧v7=v7∧(∀w7:Nat,let x7:=W.tlbs u7 (0+w7);let y7:=x7.sp;let z7:=x7.pg;let a8:=x7.fr;let b8:=x7.wr;w7<v7→(((True∧y7=y7)∧z7=z7)∧a8=a8)∧b8=b8)))∧c1∧(∀c8:Nat,c8<b1→True∧W.doms (0+c8)=W.doms (0+c8)))∧d1)∧True)∧e1)∧
    cond g1 (sameW (Wd.mk 0 (fun d8:Nat=>0) 0 (fun e8:Nat=>0) 0 (fun g8:Nat=>Slt.mk 0 0 0 0 0 0 0) 0 (fun h8:Nat=>Run.mk 0 0 0 0 0 0 0 0 0 0 0 (-1) (-1) (-1) (-1) 0 0 (-1) 0 0) 0 (fun k8:Nat=>0) (fun l8:Nat=>fun o8:Nat=>0) 0 (fun q8:Nat=>0) 0 (fun r8:Nat=>0) 0 (fun u8:Nat=>0) (fun v8:Nat=>fun w8:Nat=>0) 0 (fun x8:Nat=>0) (fun y8:Nat=>fun z8:Nat=>Ent4.mk 0 0 0 false) 0 (fun a9:Nat=>0) 0) (Wd.mk a0 (fun b9:Nat=>W.ram (0+b9)) c0 (fun c9:Nat=>W.kinds (0+c9)) e0 (fun d9:Nat=>W.slots (0+d9)) h0 (fun e9:Nat=>W.tasks (0+e9)) l0 (fun g9:Nat=>W.linesN (0+g9)) (fun h9:Nat=>fun k9:Nat=>W.lines (0+h9) (0+k9)) q0 (fun l9:Nat=>W.bits (0+l9)) v0 (fun o9:Nat=>W.cores (0+o9)) x0 (fun q9:Nat=>W.readyN (0+q9)) (fun r9:Nat=>fun u9:Nat=>W.ready (0+r9) (0+u9)) z0 (fun v9:Nat=>W.tlbsN (0+v9)) (fun w9:Nat=>fun x9:Nat=>W.tlbs (0+w9) (0+x9)) b1 (fun y9:Nat=>W.doms (0+y9)) W.time)) false=true∧True)))
set_option maxHeartbeats 1000000 in
theorem ok_did8 : FnOK Tryz.prog glE 15 c_did8 := ok_of (.cons ok_is (.cons (ok_err.up glN_glE) (.cons (ok_copyW.up glN_glE) (.cons ok_nothing (.cons (ok_sameWorld.up glN_glE) .nil))))) false Tryz.call15 Tryz.func15 (fun _ => []) (V := V_did8) (fun _ => by kernel_rfl) fun ⟨W⟩ hp => by
  dsimp only [s_did8] at hp
  dsimp only [V_did8, tn, w64]
  simp only [std, stb, eq_self, implies_true, Bool.cond_self]
  exact ⟨hp, fun h => absurd h (by decide), fun _ => ⟨fun _ => by decide, fun h => absurd h (by decide)⟩⟩
end Go.Proofs.YtdjilaofmdhikaaGreatDoor
set_option linter.unusedVariables false
set_option linter.unusedSimpArgs false
set_option maxRecDepth 100000
namespace Go.Proofs.YtdjilaofmdhikaaGreatDoor
open Go.RowKit Go.Sy
def cpE (W : Wd) (a b r g : Int) : Int := bif bthE W a b == 0 then (bif (W.slots a.toNat).kind == 1 then 3 else bif farB r 7 || farB g 65535 then 2 else bif decide (0 < g) && (decide (0 < (W.slots a.toNat).badge) || ((W.slots a.toNat).kind != 7 && (W.slots a.toNat).kind != 8)) then 4 else 0) else bthE W a b
def cpK (s : Slt) (a r g : Int) : Slt := { s with badge := bif decide (0 < g) then g else s.badge, rights := ((bitw 6 s.rights.toNat r.toNat : Nat) : Int), from_ := a }
def cpS (W : Wd) (a b r g : Int) (j : Nat) : Slt := bif cpE W a b r g == 0 && Nat.beq j b.toNat then cpK (W.slots a.toNat) a r g else W.slots j
def cpW (W : Wd) (a b r g : Int) : Wd := { W with slots := fun j => cpS W a b r g j }
theorem cpS_no {W : Wd} {a b r g : Int} {j : Nat} (h : cpE W a b r g ≠ 0) : W.slots j = cpS W a b r g j := by
  unfold cpS; rw [beq_eq_false_iff_ne.2 h]; rfl
theorem cpS_yes {W : Wd} {a b r g : Int} {j : Nat} (h : cpE W a b r g = 0) : (bif Nat.beq j b.toNat then cpK (W.slots a.toNat) a r g else W.slots j) = cpS W a b r g j := by
  unfold cpS; rw [h]; rfl
structure X_copyKey where
  (a b r g : Int) (W : Wd)
def s_copyKey : Sy.Spec := ⟨X_copyKey, fun ⟨a, b, r, g, _⟩ => [.ptr 0 0 none 0 0, .v (.int .i64 a), .v (.int .i64 b), .v (.int .i64 r), .v (.int .i64 g)], fun ⟨_, _, _, _, W⟩ => wMem W, fun ⟨_, _, _, _, W⟩ => Snd W, fun ⟨a, b, r, g, W⟩ => .v (.int .i64 (cpE W a b r g)), fun ⟨a, b, r, g, W⟩ => wMem (cpW W a b r g),
  fun args mem => match args with | [a0, a1, a2, a3, a4] => some ⟨intD (a1), intD (a2), intD (a3), intD (a4), wMJD mem 0⟩ | _ => none⟩
def c_copyKey : Con := ⟨[true], s_copyKey.g, none⟩
def V_copyKey : X_copyKey → Prop := fun ⟨a, b, r, g, W⟩ => let a0:=W.nRam;let b0:=a0=a0;let c0:=W.nKinds;let d0:=c0=c0;let e0:=W.nSlots;let g0:=e0=e0;let h0:=W.nTasks;let k0:=h0=h0;let l0:=W.nLines;let o0:=l0=l0;let q0:=W.nBits;let u0:=q0=q0;let v0:=W.nCores;let w0:=v0=v0;let x0:=W.nReady;let y0:=x0=x0;let z0:=W.nTlbs;let a1:=z0=z0;let b1:=W.nDoms;let c1:=b1=b1;let d1:=W.time;let e1:=d1=d1;let g1:=bthE (Wd.mk a0 (fun h1:Nat=>W.ram (0+h1)) c0 (fun k1:Nat=>W.kinds (0+k1)) e0 (fun l1:Nat=>W.slots (0+l1)) h0 (fun o1:Nat=>W.tasks (0+o1)) l0 (fun q1:Nat=>W.linesN (0+q1)) (fun u1:Nat=>fun v1:Nat=>W.lines (0+u1) (0+v1)) q0 (fun w1:Nat=>W.bits (0+w1)) v0 (fun x1:Nat=>W.cores (0+x1)) x0 (fun y1:Nat=>W.readyN (0+y1)) (fun z1:Nat=>fun a2:Nat=>W.ready (0+z1) (0+a2)) z0 (fun b2:Nat=>W.tlbsN (0+b2)) (fun c2:Nat=>fun d2:Nat=>W.tlbs (0+c2) (0+d2)) b1 (fun e2:Nat=>W.doms (0+e2)) d1) a b;let g2:=g1 !=0;let h2:=cpE W a b r g;let k2:=0=0;let l2:=((((((((((True∧k2∧b0)∧k2∧d0)∧k2∧g0)∧k2∧k0)∧k2∧o0)∧k2∧u0)∧k2∧w0)∧k2∧y0)∧k2∧a1)∧k2∧c1)∧e1;let o2:=b0∧(∀q2:Nat,q2<a0→True∧W.ram q2=W.ram q2);let u2:=d0∧(∀v2:Nat,v2<c0→True∧W.kinds v2=W.kinds v2);let w2:=Wd.mk a0 W.ram c0 W.kinds e0 (cpS W a b r g) h0 W.tasks l0 W.linesN W.lines q0 W.bits v0 W.cores x0 W.readyN W.ready z0 W.tlbsN W.tlbs b1 W.doms d1;
    let x2:=(k0∧(∀y2:Nat,let z2:=W.tasks y2;let a3:=w2.tasks y2;y2<h0→(((((((((((((((((((True∧z2.r0=a3.r0)∧z2.r1=a3.r1)∧z2.r2=a3.r2)∧z2.r3=a3.r3)∧z2.r4=a3.r4)∧z2.r5=a3.r5)∧z2.r6=a3.r6)∧z2.r7=a3.r7)∧z2.pc=a3.pc)∧z2.st=a3.st)∧z2.prio=a3.prio)∧z2.node=a3.node)∧z2.space=a3.space)∧z2.helper=a3.helper)∧z2.loc=a3.loc)∧z2.word=a3.word)∧z2.badge=a3.badge)∧z2.owes=a3.owes)∧z2.core=a3.core)∧z2.dom=a3.dom))∧(o0∧(∀b3:Nat,let c3:=W.linesN b3;b3<l0→True∧c3=c3∧(∀d3:Nat,d3<c3→True∧W.lines b3 d3=W.lines b3 d3)))∧(u0∧(∀e3:Nat,e3<q0→True∧W.bits e3=W.bits e3))∧(w0∧(∀g3:Nat,g3<v0→True∧W.cores g3=W.cores g3))∧(y0∧(∀h3:Nat,let k3:=W.readyN h3;h3<x0→True∧k3=k3∧(∀l3:Nat,l3<k3→True∧W.ready h3 l3=W.ready h3 l3)))∧(a1∧(∀o3:Nat,let q3:=W.tlbsN o3;o3<z0→True∧q3=q3∧(∀u3:Nat,let v3:=W.tlbs o3 u3;let w3:=w2.tlbs o3 u3;u3<q3→(((True∧v3.sp=w3.sp)∧v3.pg=w3.pg)∧v3.fr=w3.fr)∧v3.wr=w3.wr)))∧(c1∧(∀x3:Nat,x3<b1→True∧W.doms x3=W.doms x3))∧True;let y3:=l2∧o2∧u2∧(g0∧(∀z3:Nat,let a4:=W.slots z3;let b4:=w2.slots z3;z3<e0→((((((True∧a4.kind=b4.kind)∧a4.base=b4.base)∧a4.len=b4.len)∧a4.mark=b4.mark)∧a4.rights=b4.rights)∧a4.badge=b4.badge)∧a4.from_=b4.from_))∧x2;let c4:=True∧True;let d4:=W.slots (0+Int.toNat a);let e4:=d4.kind;let g4:=e4==1;let h4:=cond (farB r 7) true (farB g 65535);let k4:=d4.badge;let l4:=cond (decide (0<k4)) true (cond (e4 !=7) (e4 !=8) false);let o4:=d4.rights;let q4:=(o4=o4∧r=r∧(6:Int)=6∧True)∧True∧0≤o4∧o4≤65535∧0≤r∧r≤65535∧((6:Int)=6∨(6:Int)=7∨(6:Int)=8);let u4:=0≤b∧b<(e0:Int);let v4:=false=false;
    let w4:=(∀x4:Nat,v4)∧(∀y4:Nat,v4)∧(∀z4:Nat,v4)∧(∀a5:Nat,v4)∧(∀b5:Nat,v4)∧(∀c5:Nat,v4)∧(∀d5:Nat,v4);let e5:=0=h2;let g5:=0+Int.toNat b;let h5:=d4.base;let k5:=d4.len;let l5:=d4.mark;let o5:=((bitw 6 (Int.toNat o4) (Int.toNat r):Nat):Int);(((((((((((((True∧b0∧(∀q5:Nat,q5<a0→True∧W.ram (0+q5)=W.ram (0+q5)))∧d0∧(∀u5:Nat,let v5:=W.kinds (0+u5);u5<c0→True∧v5=v5))∧g0∧(∀w5:Nat,let x5:=W.slots (0+w5);let y5:=x5.kind;let z5:=x5.base;let a6:=x5.len;let b6:=x5.mark;let c6:=x5.rights;let d6:=x5.badge;let e6:=x5.from_;w5<e0→((((((True∧y5=y5)∧z5=z5)∧a6=a6)∧b6=b6)∧c6=c6)∧d6=d6)∧e6=e6))∧k0∧(∀g6:Nat,let h6:=W.tasks (0+g6);let k6:=h6.r0;let l6:=h6.r1;let o6:=h6.r2;let q6:=h6.r3;let u6:=h6.r4;let v6:=h6.r5;let w6:=h6.r6;let x6:=h6.r7;let y6:=h6.pc;let z6:=h6.st;let a7:=h6.prio;let b7:=h6.node;let c7:=h6.space;let d7:=h6.helper;let e7:=h6.loc;let g7:=h6.word;let h7:=h6.badge;let k7:=h6.owes;let l7:=h6.core;let o7:=h6.dom;g6<h0→(((((((((((((((((((True∧k6=k6)∧l6=l6)∧o6=o6)∧q6=q6)∧u6=u6)∧v6=v6)∧w6=w6)∧x6=x6)∧y6=y6)∧z6=z6)∧a7=a7)∧b7=b7)∧c7=c7)∧d7=d7)∧e7=e7)∧g7=g7)∧h7=h7)∧k7=k7)∧l7=l7)∧o7=o7))∧o0∧(∀q7:Nat,let u7:=W.linesN (0+q7);q7<l0→True∧u7=u7∧(∀v7:Nat,let w7:=W.lines (0+q7) (0+v7);v7<u7→True∧w7=w7)))∧u0∧(∀x7:Nat,x7<q0→True∧W.bits (0+x7)=W.bits (0+x7)))∧w0∧(∀y7:Nat,let z7:=W.cores (0+y7);y7<v0→True∧z7=z7))∧y0∧(∀a8:Nat,let b8:=W.readyN (0+a8);a8<x0→True∧b8=b8∧(∀c8:Nat,let d8:=W.ready (0+a8) (0+c8);c8<b8→True∧d8=d8)))∧a1∧(∀e8:Nat,let g8:=0+e8;let h8:=W.tlbsN g8;e8<z0→True∧h8=h8∧(∀k8:Nat,
    let l8:=W.tlbs g8 (0+k8);let o8:=l8.sp;let q8:=l8.pg;let r8:=l8.fr;let u8:=l8.wr;k8<h8→(((True∧o8=o8)∧q8=q8)∧r8=r8)∧u8=u8)))∧c1∧(∀v8:Nat,v8<b1→True∧W.doms (0+v8)=W.doms (0+v8)))∧e1)∧a=a∧b=b∧True)∧True∧e0≤100000∧e0≤c0*16)∧(g2=true→g1=h2∧y3)∧(g2=false→(0≤a∧a<(e0:Int))∧True∧tn 4 c4∧(g4=true→3=h2∧y3)∧(g4=false→((r=r∧(7:Int)=7∧True)∧c4)∧(farB r 7=false→(g=g∧(65535:Int)=65535∧True)∧c4)∧(h4=true→2=h2∧y3)∧(h4=false→(decide (0<g)=true→(l4=true→4=h2∧y3)∧(l4=false→True∧q4∧tn 9 (u4∧w4∧e5∧l2∧o2∧u2∧(g0∧(∀w8:Nat,let x8:=Nat.beq w8 g5;let y8:=W.slots w8;let z8:=w2.slots w8;w8<e0→((((((True∧cond x8 e4 y8.kind=z8.kind)∧cond x8 h5 y8.base=z8.base)∧cond x8 k5 y8.len=z8.len)∧cond x8 l5 y8.mark=z8.mark)∧cond x8 o5 y8.rights=z8.rights)∧cond x8 g y8.badge=z8.badge)∧cond x8 a y8.from_=z8.from_))∧x2)))∧(decide (0<g)=false→q4∧tn 9 (u4∧w4∧e5∧l2∧o2∧u2∧(g0∧(∀a9:Nat,let b9:=Nat.beq a9 g5;let c9:=W.slots a9;let d9:=w2.slots a9;a9<e0→((((((True∧cond b9 e4 c9.kind=d9.kind)∧cond b9 h5 c9.base=d9.base)∧cond b9 k5 c9.len=d9.len)∧cond b9 l5 c9.mark=d9.mark)∧cond b9 o5 c9.rights=d9.rights)∧cond b9 k4 c9.badge=d9.badge)∧cond b9 a c9.from_=d9.from_))∧x2)))))
theorem ok_copyKey : FnOK Tryz.prog glN 21 c_copyKey := ok_of (.cons ok_far (.cons ok_both (.cons ok_bitwise .nil))) false Tryz.call21 Tryz.func21 (fun _ => []) (V := V_copyKey) (fun _ => by kernel_rfl) fun ⟨a, b, r, g, W⟩ hp => by
  dsimp only [s_copyKey] at hp
  dsimp only [V_copyKey, tn, w64]
  simp only [std, stb, eq_self, implies_true, Bool.cond_self]
  try simp only [wd_eta]
  refine ⟨snd_pre hp, fun h => ?_, fun h => ?_⟩
  · have e : cpE W a b r g = bthE W a b := by unfold cpE; rw [ne0 h]; rfl
    exact ⟨e.symm, fun j _ => slt7 (cpS_no (by rw [e]; exact bne_iff_ne.1 h))⟩
  · have q := eq0 h
    obtain ⟨ha, hb, _, _, _⟩ := bth_in q
    have hsl := slNo_range (slBs_no (hp.sl a.toNat (by omega)))
    refine ⟨ha, fun h1 => ?_, fun h1 => ⟨fun h2 => ?_, fun h2 => ?_⟩⟩
    · have e : cpE W a b r g = 3 := by unfold cpE; rw [q, h1]; rfl
      exact ⟨e.symm, fun j _ => slt7 (cpS_no (by rw [e]; decide))⟩
    · have e : cpE W a b r g = 2 := by unfold cpE; rw [q, h1, h2]; rfl
      exact ⟨e.symm, fun j _ => slt7 (cpS_no (by rw [e]; decide))⟩
    have hf := Bool.or_eq_false_iff.1 h2
    have hr := farB_in hf.1
    have hg := farB_in hf.2
    refine ⟨fun h3 => ⟨fun h4 => ?_, fun h4 => ?_⟩, fun h3 => ?_⟩
    · have e : cpE W a b r g = 4 := by unfold cpE; rw [q, h1, h2, h3, h4]; rfl
      exact ⟨e.symm, fun j _ => slt7 (cpS_no (by rw [e]; decide))⟩
    · have e : cpE W a b r g = 0 := by unfold cpE; rw [q, h1, h2, h3, h4]; rfl
      refine ⟨⟨by omega, by omega, by omega, by omega, .inl trivial⟩, hb, e.symm, fun j _ => ?_⟩
      rw [← cpS_yes e]
      unfold cpK
      rw [h3]
      cases j.beq b.toNat <;> (repeat' (first | rfl | refine And.intro ?_ ?_))
    · have e : cpE W a b r g = 0 := by unfold cpE; rw [q, h1, h2, h3]; rfl
      refine ⟨⟨by omega, by omega, by omega, by omega, .inl trivial⟩, hb, e.symm, fun j _ => ?_⟩
      rw [← cpS_yes e]
      unfold cpK
      rw [h3]
      cases j.beq b.toNat <;> (repeat' (first | rfl | refine And.intro ?_ ?_))
structure X_doCopy where
  (a b r g : Int) (W : Wd)
def s_doCopy : Sy.Spec := ⟨X_doCopy, fun ⟨a, b, r, g, _⟩ => [.ptr 0 0 none 0 0, .v (.int .i64 a), .v (.int .i64 b), .v (.int .i64 r), .v (.int .i64 g)], fun ⟨_, _, _, _, W⟩ => wMem W, fun ⟨_, _, _, _, W⟩ => Snd W, fun ⟨a, b, r, g, W⟩ => .er 35 116 (cpE W a b r g) (-1), fun ⟨a, b, r, g, W⟩ => wMem (cpW W a b r g),
  fun args mem => match args with | [a0, a1, a2, a3, a4] => some ⟨intD (a1), intD (a2), intD (a3), intD (a4), wMJD mem 0⟩ | _ => none⟩
def c_doCopy : Con := ⟨[true], s_doCopy.g, none⟩
def V_doCopy : X_doCopy → Prop := fun ⟨a, b, r, g, W⟩ => let a0:=W.nRam;let b0:=a0=a0;let c0:=W.nKinds;let d0:=c0=c0;let e0:=W.nSlots;let g0:=e0=e0;let h0:=W.nTasks;let k0:=h0=h0;let l0:=W.nLines;let o0:=l0=l0;let q0:=W.nBits;let u0:=q0=q0;let v0:=W.nCores;let w0:=v0=v0;let x0:=W.nReady;let y0:=x0=x0;let z0:=W.nTlbs;let a1:=z0=z0;let b1:=W.nDoms;let c1:=b1=b1;let d1:=W.time;let e1:=d1=d1;let g1:=hasE (Wd.mk a0 (fun h1:Nat=>W.ram (0+h1)) c0 (fun k1:Nat=>W.kinds (0+k1)) e0 (fun l1:Nat=>W.slots (0+l1)) h0 (fun o1:Nat=>W.tasks (0+o1)) l0 (fun q1:Nat=>W.linesN (0+q1)) (fun u1:Nat=>fun v1:Nat=>W.lines (0+u1) (0+v1)) q0 (fun w1:Nat=>W.bits (0+w1)) v0 (fun x1:Nat=>W.cores (0+x1)) x0 (fun y1:Nat=>W.readyN (0+y1)) (fun z1:Nat=>fun a2:Nat=>W.ready (0+z1) (0+a2)) z0 (fun b2:Nat=>W.tlbsN (0+b2)) (fun c2:Nat=>fun d2:Nat=>W.tlbs (0+c2) (0+d2)) b1 (fun e2:Nat=>W.doms (0+e2)) d1) a;let g2:=g1 !=0;let h2:=cpE W a b r g;let k2:=((-1):Int)=(-1);let l2:=0=0;let o2:=((((((((((True∧l2∧b0)∧l2∧d0)∧l2∧g0)∧l2∧k0)∧l2∧o0)∧l2∧u0)∧l2∧w0)∧l2∧y0)∧l2∧a1)∧l2∧c1)∧e1;let q2:=b0∧(∀u2:Nat,u2<a0→True∧W.ram u2=W.ram u2);let v2:=d0∧(∀w2:Nat,w2<c0→True∧W.kinds w2=W.kinds w2);let x2:=Wd.mk a0 W.ram c0 W.kinds e0 (cpS W a b r g) h0 W.tasks l0 W.linesN W.lines q0 W.bits v0 W.cores x0 W.readyN W.ready z0 W.tlbsN W.tlbs b1 W.doms d1;
    let y2:=(k0∧(∀z2:Nat,let a3:=W.tasks z2;let b3:=x2.tasks z2;z2<h0→(((((((((((((((((((True∧a3.r0=b3.r0)∧a3.r1=b3.r1)∧a3.r2=b3.r2)∧a3.r3=b3.r3)∧a3.r4=b3.r4)∧a3.r5=b3.r5)∧a3.r6=b3.r6)∧a3.r7=b3.r7)∧a3.pc=b3.pc)∧a3.st=b3.st)∧a3.prio=b3.prio)∧a3.node=b3.node)∧a3.space=b3.space)∧a3.helper=b3.helper)∧a3.loc=b3.loc)∧a3.word=b3.word)∧a3.badge=b3.badge)∧a3.owes=b3.owes)∧a3.core=b3.core)∧a3.dom=b3.dom))∧(o0∧(∀c3:Nat,let d3:=W.linesN c3;c3<l0→True∧d3=d3∧(∀e3:Nat,e3<d3→True∧W.lines c3 e3=W.lines c3 e3)))∧(u0∧(∀g3:Nat,g3<q0→True∧W.bits g3=W.bits g3))∧(w0∧(∀h3:Nat,h3<v0→True∧W.cores h3=W.cores h3))∧(y0∧(∀k3:Nat,let l3:=W.readyN k3;k3<x0→True∧l3=l3∧(∀o3:Nat,o3<l3→True∧W.ready k3 o3=W.ready k3 o3)))∧(a1∧(∀q3:Nat,let u3:=W.tlbsN q3;q3<z0→True∧u3=u3∧(∀v3:Nat,let w3:=W.tlbs q3 v3;let x3:=x2.tlbs q3 v3;v3<u3→(((True∧w3.sp=x3.sp)∧w3.pg=x3.pg)∧w3.fr=x3.fr)∧w3.wr=x3.wr)))∧(c1∧(∀y3:Nat,y3<b1→True∧W.doms y3=W.doms y3))∧True;let z3:=o2∧q2∧v2∧(g0∧(∀a4:Nat,let b4:=W.slots a4;let c4:=x2.slots a4;a4<e0→((((((True∧b4.kind=c4.kind)∧b4.base=c4.base)∧b4.len=c4.len)∧b4.mark=c4.mark)∧b4.rights=c4.rights)∧b4.badge=c4.badge)∧b4.from_=c4.from_))∧y2;
    let d4:=opnE (Wd.mk a0 (fun e4:Nat=>W.ram (0+e4)) c0 (fun g4:Nat=>W.kinds (0+g4)) e0 (fun h4:Nat=>W.slots (0+h4)) h0 (fun k4:Nat=>W.tasks (0+k4)) l0 (fun l4:Nat=>W.linesN (0+l4)) (fun o4:Nat=>fun q4:Nat=>W.lines (0+o4) (0+q4)) q0 (fun u4:Nat=>W.bits (0+u4)) v0 (fun v4:Nat=>W.cores (0+v4)) x0 (fun w4:Nat=>W.readyN (0+w4)) (fun x4:Nat=>fun y4:Nat=>W.ready (0+x4) (0+y4)) z0 (fun z4:Nat=>W.tlbsN (0+z4)) (fun a5:Nat=>fun b5:Nat=>W.tlbs (0+a5) (0+b5)) b1 (fun c5:Nat=>W.doms (0+c5)) d1) b;let d5:=d4 !=0;let e5:=W.slots (0+Int.toNat a);let g5:=e5.kind;let h5:=g5==1;let k5:=cond (cond (cond (decide (r<0)) true (decide (7<r))) true (decide (g<0))) true (decide (65535<g));let l5:=e5.badge;let o5:=cond (cond (g5 !=7) (g5 !=8) false) true (l5 !=0);let q5:=0≤b∧b<(e0:Int);let u5:=false=false;let v5:=(∀w5:Nat,u5)∧(∀x5:Nat,u5)∧(∀y5:Nat,u5)∧(∀z5:Nat,u5)∧(∀a6:Nat,u5)∧(∀b6:Nat,u5)∧(∀c6:Nat,u5);let d6:=h2=0∧k2;let e6:=0+Int.toNat b;let g6:=e5.base;let h6:=e5.len;let k6:=e5.mark;let l6:=bitsI BinOp.and IntKind.i64 e5.rights r;(((((((((((((True∧b0∧(∀o6:Nat,o6<a0→True∧W.ram (0+o6)=W.ram (0+o6)))∧d0∧(∀q6:Nat,let u6:=W.kinds (0+q6);q6<c0→True∧u6=u6))∧g0∧(∀v6:Nat,let w6:=W.slots (0+v6);let x6:=w6.kind;let y6:=w6.base;let z6:=w6.len;let a7:=w6.mark;let b7:=w6.rights;let c7:=w6.badge;let d7:=w6.from_;v6<e0→((((((True∧x6=x6)∧y6=y6)∧z6=z6)∧a7=a7)∧b7=b7)∧c7=c7)∧d7=d7))∧k0∧(∀e7:Nat,let g7:=W.tasks (0+e7);let h7:=g7.r0;let k7:=g7.r1;let l7:=g7.r2;let o7:=g7.r3;let q7:=g7.r4;let u7:=g7.r5;let v7:=g7.r6;
    let w7:=g7.r7;let x7:=g7.pc;let y7:=g7.st;let z7:=g7.prio;let a8:=g7.node;let b8:=g7.space;let c8:=g7.helper;let d8:=g7.loc;let e8:=g7.word;let g8:=g7.badge;let h8:=g7.owes;let k8:=g7.core;let l8:=g7.dom;e7<h0→(((((((((((((((((((True∧h7=h7)∧k7=k7)∧l7=l7)∧o7=o7)∧q7=q7)∧u7=u7)∧v7=v7)∧w7=w7)∧x7=x7)∧y7=y7)∧z7=z7)∧a8=a8)∧b8=b8)∧c8=c8)∧d8=d8)∧e8=e8)∧g8=g8)∧h8=h8)∧k8=k8)∧l8=l8))∧o0∧(∀o8:Nat,let q8:=W.linesN (0+o8);o8<l0→True∧q8=q8∧(∀r8:Nat,let u8:=W.lines (0+o8) (0+r8);r8<q8→True∧u8=u8)))∧u0∧(∀v8:Nat,v8<q0→True∧W.bits (0+v8)=W.bits (0+v8)))∧w0∧(∀w8:Nat,let x8:=W.cores (0+w8);w8<v0→True∧x8=x8))∧y0∧(∀y8:Nat,let z8:=W.readyN (0+y8);y8<x0→True∧z8=z8∧(∀a9:Nat,let b9:=W.ready (0+y8) (0+a9);a9<z8→True∧b9=b9)))∧a1∧(∀c9:Nat,let d9:=0+c9;let e9:=W.tlbsN d9;c9<z0→True∧e9=e9∧(∀g9:Nat,let h9:=W.tlbs d9 (0+g9);let k9:=h9.sp;let l9:=h9.pg;let o9:=h9.fr;let q9:=h9.wr;g9<e9→(((True∧k9=k9)∧l9=l9)∧o9=o9)∧q9=q9)))∧c1∧(∀r9:Nat,r9<b1→True∧W.doms (0+r9)=W.doms (0+r9)))∧e1)∧a=a∧True)∧True∧True)∧(g2=true→(g1=h2∧k2)∧z3)∧(g2=false→(((((((((((((True∧b0∧(∀u9:Nat,u9<a0→True∧W.ram (0+u9)=W.ram (0+u9)))∧d0∧(∀v9:Nat,let w9:=W.kinds (0+v9);v9<c0→True∧w9=w9))∧g0∧(∀x9:Nat,let y9:=W.slots (0+x9);let z9:=y9.kind;let a10:=y9.base;let b10:=y9.len;let c10:=y9.mark;let d10:=y9.rights;let e10:=y9.badge;let g10:=y9.from_;x9<e0→((((((True∧z9=z9)∧a10=a10)∧b10=b10)∧c10=c10)∧d10=d10)∧e10=e10)∧g10=g10))∧k0∧(∀h10:Nat,let k10:=W.tasks (0+h10);let l10:=k10.r0;let o10:=k10.r1;let q10:=k10.r2;let r10:=k10.r3;let u10:=k10.r4;
    let v10:=k10.r5;let w10:=k10.r6;let x10:=k10.r7;let y10:=k10.pc;let z10:=k10.st;let a11:=k10.prio;let b11:=k10.node;let c11:=k10.space;let d11:=k10.helper;let e11:=k10.loc;let g11:=k10.word;let h11:=k10.badge;let k11:=k10.owes;let l11:=k10.core;let o11:=k10.dom;h10<h0→(((((((((((((((((((True∧l10=l10)∧o10=o10)∧q10=q10)∧r10=r10)∧u10=u10)∧v10=v10)∧w10=w10)∧x10=x10)∧y10=y10)∧z10=z10)∧a11=a11)∧b11=b11)∧c11=c11)∧d11=d11)∧e11=e11)∧g11=g11)∧h11=h11)∧k11=k11)∧l11=l11)∧o11=o11))∧o0∧(∀q11:Nat,let r11:=W.linesN (0+q11);q11<l0→True∧r11=r11∧(∀u11:Nat,let v11:=W.lines (0+q11) (0+u11);u11<r11→True∧v11=v11)))∧u0∧(∀w11:Nat,w11<q0→True∧W.bits (0+w11)=W.bits (0+w11)))∧w0∧(∀x11:Nat,let y11:=W.cores (0+x11);x11<v0→True∧y11=y11))∧y0∧(∀z11:Nat,let a12:=W.readyN (0+z11);z11<x0→True∧a12=a12∧(∀b12:Nat,let c12:=W.ready (0+z11) (0+b12);b12<a12→True∧c12=c12)))∧a1∧(∀d12:Nat,let e12:=0+d12;let g12:=W.tlbsN e12;d12<z0→True∧g12=g12∧(∀h12:Nat,let k12:=W.tlbs e12 (0+h12);let l12:=k12.sp;let o12:=k12.pg;let q12:=k12.fr;let r12:=k12.wr;h12<g12→(((True∧l12=l12)∧o12=o12)∧q12=q12)∧r12=r12)))∧c1∧(∀u12:Nat,u12<b1→True∧W.doms (0+u12)=W.doms (0+u12)))∧e1)∧b=b∧True)∧True∧e0≤100000∧e0≤c0*16)∧(d5=true→(d4=h2∧k2)∧z3)∧(d5=false→(0≤a∧a<(e0:Int))∧True∧tn 5 True∧(h5=true→((3:Int)≠0∧h2=3∧k2)∧z3)∧(h5=false→(k5=true→((2:Int)≠0∧h2=2∧k2)∧z3)∧(k5=false→((g !=0)=true→(o5=true→((4:Int)≠0∧h2=4∧k2)∧z3)∧(o5=false→tn 10 (q5∧v5∧d6∧o2∧q2∧v2∧(g0∧(∀v12:Nat,let w12:=Nat.beq v12 e6;let x12:=W.slots v12;let y12:=x2.slots v12;v12<e0→
    ((((((True∧cond w12 g5 x12.kind=y12.kind)∧cond w12 g6 x12.base=y12.base)∧cond w12 h6 x12.len=y12.len)∧cond w12 k6 x12.mark=y12.mark)∧cond w12 l6 x12.rights=y12.rights)∧cond w12 g x12.badge=y12.badge)∧cond w12 a x12.from_=y12.from_))∧y2)))∧((g !=0)=false→tn 9 (q5∧v5∧d6∧o2∧q2∧v2∧(g0∧(∀z12:Nat,let a13:=Nat.beq z12 e6;let b13:=W.slots z12;let c13:=x2.slots z12;z12<e0→((((((True∧cond a13 g5 b13.kind=c13.kind)∧cond a13 g6 b13.base=c13.base)∧cond a13 h6 b13.len=c13.len)∧cond a13 k6 b13.mark=c13.mark)∧cond a13 l6 b13.rights=c13.rights)∧cond a13 l5 b13.badge=c13.badge)∧cond a13 a b13.from_=c13.from_))∧y2))))))
theorem ok_doCopy : FnOK Tryz.prog glN 76 c_doCopy := ok_of (.cons ok_full (.cons ok_free .nil)) false Tryz.call76 Tryz.func76 (fun _ => []) (V := V_doCopy) (fun _ => by kernel_rfl) fun ⟨a, b, r, g, W⟩ hp => by
  dsimp only [s_doCopy] at hp
  dsimp only [V_doCopy, tn, w64]
  simp only [std, stb, eq_self, implies_true, Bool.cond_self]
  try simp only [wd_eta]
  refine ⟨fun h => ?_, fun h => ⟨snd_pre hp, fun h' => ?_, fun h' => ?_⟩⟩
  · obtain ⟨e1, e2⟩ := bth_l (b := b) h
    have e : cpE W a b r g = hasE W a := by unfold cpE; rw [e2, ← e1]; rfl
    exact ⟨e.symm, fun j _ => slt7 (cpS_no (by rw [e]; exact bne_iff_ne.1 h))⟩
  · have e1 := bth_r (b := b) h
    have e : cpE W a b r g = opnE W b := by unfold cpE; rw [e1, ne0 h']; rfl
    exact ⟨e.symm, fun j _ => slt7 (cpS_no (by rw [e]; exact bne_iff_ne.1 h'))⟩
  · have q : (bthE W a b == 0) = true := by rw [bth_r (b := b) h]; exact eq0 h'
    obtain ⟨ha, hb, _, _, _⟩ := bth_in q
    have hsl := slNo_range (slBs_no (hp.sl a.toNat (by omega)))
    refine ⟨ha, fun h1 => ?_, fun h1 => ⟨fun h2 => ?_, fun h2 => ?_⟩⟩
    · have e : cpE W a b r g = 3 := by unfold cpE; rw [q, h1]; rfl
      exact ⟨⟨by decide, e⟩, fun j _ => slt7 (cpS_no (by rw [e]; decide))⟩
    · have h2' : (farB r 7 || farB g 65535) = true := by rw [← h2]; unfold farB; simp only [Bool.or_assoc]
      have e : cpE W a b r g = 2 := by unfold cpE; rw [q, h1, h2']; rfl
      exact ⟨⟨by decide, e⟩, fun j _ => slt7 (cpS_no (by rw [e]; decide))⟩
    have h2' : (farB r 7 || farB g 65535) = false := by rw [← h2]; unfold farB; simp only [Bool.or_assoc]
    have hf := Bool.or_eq_false_iff.1 h2'
    have hr := farB_in hf.1
    have hg := farB_in hf.2
    have gg : (g != 0) = decide (0 < g) := by rw [Bool.eq_iff_iff, bne_iff_ne, decide_eq_true_eq]; omega
    have kk : ((W.slots a.toNat).kind != 7 && (W.slots a.toNat).kind != 8 || (W.slots a.toNat).badge != 0) = (decide (0 < (W.slots a.toNat).badge) || ((W.slots a.toNat).kind != 7 && (W.slots a.toNat).kind != 8)) := by
      rw [show ((W.slots a.toNat).badge != 0) = decide (0 < (W.slots a.toNat).badge) by rw [Bool.eq_iff_iff, bne_iff_ne, decide_eq_true_eq]; omega, Bool.or_comm]
    have ba : bitsI .and .i64 (W.slots a.toNat).rights r = ((bitw 6 (W.slots a.toNat).rights.toNat r.toNat : Nat) : Int) := and64 (by omega) (by omega) (by omega) (by omega)
    rw [gg, kk, ba]
    refine ⟨fun h3 => ⟨fun h4 => ?_, fun h4 => ?_⟩, fun h3 => ?_⟩
    · have e : cpE W a b r g = 4 := by unfold cpE; rw [q, h1, h2', h3, h4]; rfl
      exact ⟨⟨by decide, e⟩, fun j _ => slt7 (cpS_no (by rw [e]; decide))⟩
    · have e : cpE W a b r g = 0 := by unfold cpE; rw [q, h1, h2', h3, h4]; rfl
      refine ⟨hb, e, fun j _ => ?_⟩
      rw [← cpS_yes e]
      unfold cpK
      rw [h3]
      cases j.beq b.toNat <;> (repeat' (first | rfl | refine And.intro ?_ ?_))
    · have e : cpE W a b r g = 0 := by unfold cpE; rw [q, h1, h2', h3]; rfl
      refine ⟨hb, e, fun j _ => ?_⟩
      rw [← cpS_yes e]
      unfold cpK
      rw [h3]
      cases j.beq b.toNat <;> (repeat' (first | rfl | refine And.intro ?_ ?_))
end Go.Proofs.YtdjilaofmdhikaaGreatDoor
set_option linter.unusedVariables false
set_option linter.unusedSimpArgs false
set_option maxRecDepth 100000
namespace Go.Proofs.YtdjilaofmdhikaaGreatDoor
open Go.RowKit Go.Sy
structure X_tcpC where
  (a b r g : Int) (W : Wd)
def s_tcpC : Sy.Spec := ⟨X_tcpC, fun ⟨a, b, r, g, _⟩ => [.ptr 0 0 none 0 0, .pt true 1 (fun _ => .v (.int .i64 a)), .pt true 1 (fun _ => .v (.int .i64 b)), .pt true 1 (fun _ => .v (.int .i64 r)), .pt true 1 (fun _ => .v (.int .i64 g))], fun ⟨_, _, _, _, W⟩ => wMem W, fun ⟨_, _, _, _, W⟩ => Snd W, fun ⟨a, b, r, g, W⟩ => .er 35 116 (cpE W a b r g) (-1), fun ⟨a, b, r, g, W⟩ => wMem (cpW W a b r g),
  fun args mem => match args with | [a0, a1, a2, a3, a4] => some ⟨intD (ptF a1 0), intD (ptF a2 0), intD (ptF a3 0), intD (ptF a4 0), wMJD mem 0⟩ | _ => none⟩
def c_tcpC : Con := ⟨[true], s_tcpC.g, none⟩
def V_tcpC : X_tcpC → Prop := fun ⟨a, b, r, g, W⟩ => let a0:=SV.ptr 0 0 none 0 0;let b0:=0=0;let c0:=W.nRam;let d0:=c0=c0;let e0:=W.nKinds;let g0:=e0=e0;let h0:=W.nSlots;let k0:=h0=h0;let l0:=W.nTasks;let o0:=l0=l0;let q0:=W.nLines;let u0:=q0=q0;let v0:=W.nBits;let w0:=v0=v0;let x0:=W.nCores;let y0:=x0=x0;let z0:=W.nReady;let a1:=z0=z0;let b1:=W.nTlbs;let c1:=b1=b1;let d1:=W.nDoms;let e1:=d1=d1;let g1:=W.time=W.time;let h1:=d0∧(∀k1:Nat,k1<c0→True∧W.ram k1=W.ram k1);let l1:=g0∧(∀o1:Nat,o1<e0→True∧W.kinds o1=W.kinds o1);let q1:=u0∧(∀u1:Nat,let v1:=W.linesN u1;u1<q0→True∧v1=v1∧(∀w1:Nat,w1<v1→True∧W.lines u1 w1=W.lines u1 w1));let x1:=w0∧(∀y1:Nat,y1<v0→True∧W.bits y1=W.bits y1);let z1:=y0∧(∀a2:Nat,a2<x0→True∧W.cores a2=W.cores a2);let b2:=a1∧(∀c2:Nat,let d2:=W.readyN c2;c2<z0→True∧d2=d2∧(∀e2:Nat,e2<d2→True∧W.ready c2 e2=W.ready c2 e2));let g2:=(e1∧(∀h2:Nat,h2<d1→True∧W.doms h2=W.doms h2))∧True;let k2:=cpE W a b r g;let l2:=0=0;let o2:=Wd.mk c0 W.ram e0 W.kinds h0 (cpS W a b r g) l0 W.tasks q0 W.linesN W.lines v0 W.bits x0 W.cores z0 W.readyN W.ready b1 W.tlbsN W.tlbs d1 W.doms W.time;((a0=a0∧a=a∧b=b∧r=r∧g=g∧True)∧((((((((((((True∧b0∧d0)∧b0∧g0)∧b0∧k0)∧b0∧o0)∧b0∧u0)∧b0∧w0)∧b0∧y0)∧b0∧a1)∧b0∧c1)∧b0∧e1)∧g1)∧h1∧l1∧(k0∧(∀q2:Nat,let u2:=W.slots q2;let v2:=u2.kind;let w2:=u2.base;let x2:=u2.len;let y2:=u2.mark;let z2:=u2.rights;let a3:=u2.badge;let b3:=u2.from_;q2<h0→((((((True∧v2=v2)∧w2=w2)∧x2=x2)∧y2=y2)∧z2=z2)∧a3=a3)∧b3=b3))∧(o0∧(∀c3:Nat,let d3:=W.tasks c3;let e3:=d3.prio;let g3:=d3.node;let h3:=d3.space;let k3:=d3.helper;let l3:=d3.loc;
    let o3:=d3.word;let q3:=d3.badge;let u3:=d3.owes;let v3:=d3.core;let w3:=d3.dom;c3<l0→(((((((((((((((((((True∧d3.r0=d3.r0)∧d3.r1=d3.r1)∧d3.r2=d3.r2)∧d3.r3=d3.r3)∧d3.r4=d3.r4)∧d3.r5=d3.r5)∧d3.r6=d3.r6)∧d3.r7=d3.r7)∧d3.pc=d3.pc)∧d3.st=d3.st)∧e3=e3)∧g3=g3)∧h3=h3)∧k3=k3)∧l3=l3)∧o3=o3)∧q3=q3)∧u3=u3)∧v3=v3)∧w3=w3))∧q1∧x1∧z1∧b2∧(c1∧(∀x3:Nat,let y3:=W.tlbsN x3;x3<b1→True∧y3=y3∧(∀z3:Nat,let a4:=W.tlbs x3 z3;let b4:=a4.sp;let c4:=a4.pg;let d4:=a4.fr;let e4:=a4.wr;z3<y3→(((True∧b4=b4)∧c4=c4)∧d4=d4)∧e4=e4)))∧g2)∧s_doCopy.match_1 (fun g4:X_doCopy=>Prop) (X_doCopy.mk a b r g W) (fun h4:Int=>fun k4:Int=>fun l4:Int=>fun o4:Int=>fun q4:Wd=>Snd q4))∧(k2=k2∧((-1):Int)=(-1))∧(((((((((((True∧l2∧d0)∧l2∧g0)∧l2∧k0)∧l2∧o0)∧l2∧u0)∧l2∧w0)∧l2∧y0)∧l2∧a1)∧l2∧c1)∧l2∧e1)∧g1)∧h1∧l1∧(k0∧(∀u4:Nat,let v4:=o2.slots u4;let w4:=v4.kind;let x4:=v4.base;let y4:=v4.len;let z4:=v4.mark;let a5:=v4.rights;let b5:=v4.badge;let c5:=v4.from_;u4<h0→((((((True∧w4=w4)∧x4=x4)∧y4=y4)∧z4=z4)∧a5=a5)∧b5=b5)∧c5=c5))∧(o0∧(∀d5:Nat,let e5:=W.tasks d5;let g5:=o2.tasks d5;d5<l0→(((((((((((((((((((True∧e5.r0=g5.r0)∧e5.r1=g5.r1)∧e5.r2=g5.r2)∧e5.r3=g5.r3)∧e5.r4=g5.r4)∧e5.r5=g5.r5)∧e5.r6=g5.r6)∧e5.r7=g5.r7)∧e5.pc=g5.pc)∧e5.st=g5.st)∧e5.prio=g5.prio)∧e5.node=g5.node)∧e5.space=g5.space)∧e5.helper=g5.helper)∧e5.loc=g5.loc)∧e5.word=g5.word)∧e5.badge=g5.badge)∧e5.owes=g5.owes)∧e5.core=g5.core)∧e5.dom=g5.dom))∧q1∧x1∧z1∧b2∧(c1∧(∀h5:Nat,let k5:=W.tlbsN h5;h5<b1→True∧k5=k5∧(∀l5:Nat,let o5:=W.tlbs h5 l5;let q5:=o2.tlbs h5 l5;l5<k5→(((True∧
    o5.sp=q5.sp)∧o5.pg=q5.pg)∧o5.fr=q5.fr)∧o5.wr=q5.wr)))∧g2
theorem ok_tcpC : FnOK Tryz.prog glE 75 c_tcpC := ok_of (.cons (ok_doCopy.up glN_glE) .nil) false Tryz.call75 Tryz.func75 (fun _ => []) (V := V_tcpC) (fun _ => by kernel_rfl) fun ⟨a, b, r, g, W⟩ hp => by
  dsimp only [s_tcpC] at hp
  dsimp only [V_tcpC, tn, w64]
  simp only [std, stb, eq_self, implies_true, Bool.cond_self]
  try simp only [wd_eta]
  exact hp
structure X_tcpD where
  (W : Wd) (a b r g : Int)
def s_tcpD : Sy.Spec := ⟨X_tcpD, fun ⟨W, a, b, r, g⟩ => [wSV W, .fn 75 4 (lsv [.pt true 1 (fun _ => .v (.int .i64 a)), .pt true 1 (fun _ => .v (.int .i64 b)), .pt true 1 (fun _ => .v (.int .i64 r)), .pt true 1 (fun _ => .v (.int .i64 g))])], fun _ => [], fun ⟨W, _, _, _, _⟩ => Sm W ∧ Snd W, fun ⟨W, a, b, r, g⟩ => .tp 2 (lsv [wRd (gdW (cpE W a b r g) (cpW W a b r g)), .er 35 116 (cpE W a b r g) (-1)]), fun _ => [],
  fun args mem => match args with | [a0, a1] => some ⟨wSVD a0, intD (ptF (fnF a1 0) 0), intD (ptF (fnF a1 1) 0), intD (ptF (fnF a1 2) 0), intD (ptF (fnF a1 3) 0)⟩ | _ => none⟩
def c_tcpD : Con := ⟨[], s_tcpD.g, none⟩
def V_tcpD : X_tcpD → Prop := fun ⟨W, a, b, r, g⟩ => let a0:=W.nRam;let b0:=a0=a0;let c0:=b0∧(∀d0:Nat,d0<a0→True∧W.ram d0=W.ram d0);let e0:=W.nKinds;let g0:=e0=e0;let h0:=g0∧(∀k0:Nat,k0<e0→True∧W.kinds k0=W.kinds k0);let l0:=W.nSlots;let o0:=l0=l0;let q0:=o0∧(∀u0:Nat,let v0:=W.slots u0;let w0:=v0.kind;let x0:=v0.base;let y0:=v0.len;let z0:=v0.mark;let a1:=v0.rights;let b1:=v0.badge;let c1:=v0.from_;u0<l0→((((((True∧w0=w0)∧x0=x0)∧y0=y0)∧z0=z0)∧a1=a1)∧b1=b1)∧c1=c1);let d1:=W.nTasks;let e1:=d1=d1;let g1:=e1∧(∀h1:Nat,let k1:=W.tasks h1;let l1:=k1.prio;let o1:=k1.node;let q1:=k1.space;let u1:=k1.helper;let v1:=k1.loc;let w1:=k1.word;let x1:=k1.badge;let y1:=k1.owes;let z1:=k1.core;let a2:=k1.dom;h1<d1→(((((((((((((((((((True∧k1.r0=k1.r0)∧k1.r1=k1.r1)∧k1.r2=k1.r2)∧k1.r3=k1.r3)∧k1.r4=k1.r4)∧k1.r5=k1.r5)∧k1.r6=k1.r6)∧k1.r7=k1.r7)∧k1.pc=k1.pc)∧k1.st=k1.st)∧l1=l1)∧o1=o1)∧q1=q1)∧u1=u1)∧v1=v1)∧w1=w1)∧x1=x1)∧y1=y1)∧z1=z1)∧a2=a2);let b2:=W.nLines;let c2:=b2=b2;let d2:=c2∧(∀e2:Nat,let g2:=W.linesN e2;e2<b2→True∧g2=g2∧(∀h2:Nat,h2<g2→True∧W.lines e2 h2=W.lines e2 h2));let k2:=W.nBits;let l2:=k2=k2;let o2:=l2∧(∀q2:Nat,q2<k2→True∧W.bits q2=W.bits q2);let u2:=W.nCores;let v2:=u2=u2;let w2:=v2∧(∀x2:Nat,x2<u2→True∧W.cores x2=W.cores x2);let y2:=W.nReady;let z2:=y2=y2;let a3:=z2∧(∀b3:Nat,let c3:=W.readyN b3;b3<y2→True∧c3=c3∧(∀d3:Nat,d3<c3→True∧W.ready b3 d3=W.ready b3 d3));let e3:=W.nTlbs;let g3:=e3=e3;
    let h3:=g3∧(∀k3:Nat,let l3:=W.tlbsN k3;k3<e3→True∧l3=l3∧(∀o3:Nat,let q3:=W.tlbs k3 o3;let u3:=q3.sp;let v3:=q3.pg;let w3:=q3.fr;let x3:=q3.wr;o3<l3→(((True∧u3=u3)∧v3=v3)∧w3=w3)∧x3=x3));let y3:=W.nDoms;let z3:=y3=y3;let a4:=z3∧(∀b4:Nat,b4<y3→True∧W.doms b4=W.doms b4);let c4:=W.time;let d4:=c4=c4;let e4:=(((((((((((True∧c0)∧h0)∧q0)∧g1)∧d2)∧o2)∧w2)∧a3)∧h3)∧a4)∧d4)∧True;let g4:=tn 10 True;let h4:=cpE W a b r g;let k4:=Wd.mk a0 W.ram e0 W.kinds l0 (cpS W a b r g) d1 W.tasks b2 W.linesN W.lines k2 W.bits u2 W.cores y2 W.readyN W.ready e3 W.tlbsN W.tlbs y3 W.doms c4;let l4:=gdW h4 k4;let o4:=l4.nRam;let q4:=l4.nKinds;let u4:=l4.nSlots;let v4:=l4.nTasks;let w4:=l4.nLines;let x4:=l4.nBits;let y4:=l4.nCores;let z4:=l4.nReady;let a5:=l4.nTlbs;let b5:=l4.nDoms;let c5:=l4.time;let d5:=True∧((((((((((True∧o4=0)∧q4=0)∧u4=0)∧v4=0)∧w4=0)∧x4=0)∧y4=0)∧z4=0)∧a5=0)∧b5=0)∧0=c5;let e5:=((-1):Int)=(-1);let g5:=0=0;let h5:=h4 !=0;tn 2 ((e4∧True∧s_wCheck.match_1 (fun k5:X_wCheck=>Prop) (X_wCheck.mk W) (fun l5:Wd=>Sm l5))∧((wE W !=0)=true→g4∧(d5∧(8:Int)≠0∧h4=8∧e5)∧True)∧((wE W !=0)=false→(e4∧True∧s_cloneW.match_1 (fun o5:X_cloneW=>Prop) (X_cloneW.mk W) (fun q5:Wd=>Lg q5))∧g4∧((SV.ptr 0 0 none 0 0=SV.ptr 0 0 none 0 0∧(True∧a=a)∧(True∧b=b)∧(True∧r=r)∧(True∧g=g)∧True)∧((((((((((((True∧g5∧b0)∧g5∧g0)∧g5∧o0)∧g5∧e1)∧g5∧c2)∧g5∧l2)∧g5∧v2)∧g5∧z2)∧g5∧g3)∧g5∧z3)∧d4)∧c0∧h0∧q0∧g1∧d2∧o2∧w2∧a3∧h3∧a4∧True)∧
    s_tcpC.match_1 (fun u5:X_tcpC=>Prop) (X_tcpC.mk a b r g W) (fun v5:Int=>fun w5:Int=>fun x5:Int=>fun y5:Int=>fun z5:Wd=>Snd z5))∧(h5=true→g4∧(d5∧h4=h4∧e5)∧True)∧(h5=false→g4∧((True∧((((((((((True∧a0=o4∧(∀a6:Nat,a6<o4→True∧W.ram (0+a6)=l4.ram a6))∧e0=q4∧(∀b6:Nat,b6<q4→True∧W.kinds (0+b6)=l4.kinds b6))∧l0=u4∧(∀c6:Nat,let d6:=k4.slots (0+c6);let e6:=l4.slots c6;c6<u4→((((((True∧d6.kind=e6.kind)∧d6.base=e6.base)∧d6.len=e6.len)∧d6.mark=e6.mark)∧d6.rights=e6.rights)∧d6.badge=e6.badge)∧d6.from_=e6.from_))∧d1=v4∧(∀g6:Nat,let h6:=W.tasks (0+g6);let k6:=l4.tasks g6;g6<v4→(((((((((((((((((((True∧h6.r0=k6.r0)∧h6.r1=k6.r1)∧h6.r2=k6.r2)∧h6.r3=k6.r3)∧h6.r4=k6.r4)∧h6.r5=k6.r5)∧h6.r6=k6.r6)∧h6.r7=k6.r7)∧h6.pc=k6.pc)∧h6.st=k6.st)∧h6.prio=k6.prio)∧h6.node=k6.node)∧h6.space=k6.space)∧h6.helper=k6.helper)∧h6.loc=k6.loc)∧h6.word=k6.word)∧h6.badge=k6.badge)∧h6.owes=k6.owes)∧h6.core=k6.core)∧h6.dom=k6.dom))∧b2=w4∧(∀l6:Nat,l6<w4→True∧W.linesN (0+l6)=l4.linesN l6∧(∀o6:Nat,o6<l4.linesN l6→True∧W.lines (0+l6) (0+o6)=l4.lines l6 o6)))∧k2=x4∧(∀q6:Nat,q6<x4→True∧W.bits (0+q6)=l4.bits q6))∧u2=y4∧(∀u6:Nat,u6<y4→True∧W.cores (0+u6)=l4.cores u6))∧y2=z4∧(∀v6:Nat,v6<z4→True∧W.readyN (0+v6)=l4.readyN v6∧(∀w6:Nat,w6<l4.readyN v6→True∧W.ready (0+v6) (0+w6)=l4.ready v6 w6)))∧e3=a5∧(∀x6:Nat,let y6:=0+x6;x6<a5→True∧W.tlbsN y6=l4.tlbsN x6∧(∀z6:Nat,let a7:=W.tlbs y6 (0+z6);let b7:=l4.tlbs x6 z6;z6<l4.tlbsN x6→(((True∧a7.sp=b7.sp)∧a7.pg=b7.pg)∧a7.fr=b7.fr)∧a7.wr=b7.wr)))∧y3=b5∧(∀c7:Nat,c7<b5→True∧
    W.doms (0+c7)=l4.doms c7))∧c4=c5)∧h4=0∧e5)∧True)))
set_option maxHeartbeats 2000000 in
theorem ok_tcpD : FnOK Tryz.prog glE 66 c_tcpD := ok_of (.cons (ok_wCheck.up glN_glE) (.cons (ok_cloneW.up glN_glE) (.cons ok_tcpC .nil))) false Tryz.call66 Tryz.func66 (fun _ => []) (V := V_tcpD) (fun _ => by kernel_rfl) fun ⟨W, a, b, r, g⟩ hp => by
  dsimp only [s_tcpD] at hp
  dsimp only [V_tcpD, tn, w64]
  simp only [std, stb, eq_self, implies_true, Bool.cond_self]
  obtain ⟨hs, hw⟩ := hp
  have h0 := snd0 hw
  refine ⟨hs, fun h => absurd (by simpa using h0) (by simpa using h), fun _ => ⟨lg_sm hs, hw, fun h2 => ?_, fun h2 => ?_⟩⟩
  · simp only [fun X => gdW_no X (ne0 h2)]
    repeat' (first | exact trivial | rfl | refine And.intro ?_ ?_ | intro _ | exact absurd ‹_› (Nat.not_lt_zero _) | fail)
  · simp only [fun X => gdW_yes X (eq0 h2)]
    repeat' (first | exact trivial | rfl | refine And.intro ?_ ?_ | intro _ | exact absurd ‹_› (Nat.not_lt_zero _) | fail)
    exact eq_of_beq (eq0 h2)
structure X_tcpX where
  (W : Wd) (a b r g : Int)
def s_tcpX : Sy.Spec := ⟨X_tcpX, fun ⟨W, a, b, r, g⟩ => [wSV W, .v (.int .i64 a), .v (.int .i64 b), .v (.int .i64 r), .v (.int .i64 g)], fun _ => [], fun ⟨W, _, _, _, _⟩ => Sm W ∧ Snd W, fun ⟨W, a, b, r, g⟩ => .tp 2 (lsv [wRd (gdW (cpE W a b r g) (cpW W a b r g)), .er 35 116 (cpE W a b r g) (-1)]), fun _ => [],
  fun args mem => match args with | [a0, a1, a2, a3, a4] => some ⟨wSVD a0, intD (a1), intD (a2), intD (a3), intD (a4)⟩ | _ => none⟩
def c_tcpX : Con := ⟨[], s_tcpX.g, none⟩
def V_tcpX : X_tcpX → Prop := fun ⟨W, a, b, r, g⟩ => let a0:=W.nRam;let b0:=W.nKinds;let c0:=W.nSlots;let d0:=W.nTasks;let e0:=W.nLines;let g0:=W.nBits;let h0:=W.nCores;let k0:=W.nReady;let l0:=W.nTlbs;let o0:=W.nDoms;let q0:=cpE W a b r g;let u0:=gdW q0 (Wd.mk a0 W.ram b0 W.kinds c0 (cpS W a b r g) d0 W.tasks e0 W.linesN W.lines g0 W.bits h0 W.cores k0 W.readyN W.ready l0 W.tlbsN W.tlbs o0 W.doms W.time);let v0:=u0.nRam;let w0:=u0.nKinds;let x0:=u0.nSlots;let y0:=u0.nTasks;let z0:=u0.nLines;let a1:=u0.nBits;let b1:=u0.nCores;let c1:=u0.nReady;let d1:=u0.nTlbs;let e1:=u0.nDoms;let g1:=u0.time;tn 6 ((((((((((((((True∧a0=a0∧(∀h1:Nat,h1<a0→True∧W.ram h1=W.ram h1))∧b0=b0∧(∀k1:Nat,k1<b0→True∧W.kinds k1=W.kinds k1))∧c0=c0∧(∀l1:Nat,let o1:=W.slots l1;let q1:=o1.kind;let u1:=o1.base;let v1:=o1.len;let w1:=o1.mark;let x1:=o1.rights;let y1:=o1.badge;let z1:=o1.from_;l1<c0→((((((True∧q1=q1)∧u1=u1)∧v1=v1)∧w1=w1)∧x1=x1)∧y1=y1)∧z1=z1))∧d0=d0∧(∀a2:Nat,let b2:=W.tasks a2;let c2:=b2.prio;let d2:=b2.node;let e2:=b2.space;let g2:=b2.helper;let h2:=b2.loc;let k2:=b2.word;let l2:=b2.badge;let o2:=b2.owes;let q2:=b2.core;let u2:=b2.dom;a2<d0→(((((((((((((((((((True∧b2.r0=b2.r0)∧b2.r1=b2.r1)∧b2.r2=b2.r2)∧b2.r3=b2.r3)∧b2.r4=b2.r4)∧b2.r5=b2.r5)∧b2.r6=b2.r6)∧b2.r7=b2.r7)∧b2.pc=b2.pc)∧b2.st=b2.st)∧c2=c2)∧d2=d2)∧e2=e2)∧g2=g2)∧h2=h2)∧k2=k2)∧l2=l2)∧o2=o2)∧q2=q2)∧u2=u2))∧e0=e0∧(∀v2:Nat,let w2:=W.linesN v2;v2<e0→True∧w2=w2∧(∀x2:Nat,x2<w2→True∧W.lines v2 x2=W.lines v2 x2)))∧g0=g0∧(∀y2:Nat,y2<g0→True∧W.bits y2=W.bits y2))∧h0=h0∧(∀z2:Nat,z2<h0→True∧
    W.cores z2=W.cores z2))∧k0=k0∧(∀a3:Nat,let b3:=W.readyN a3;a3<k0→True∧b3=b3∧(∀c3:Nat,c3<b3→True∧W.ready a3 c3=W.ready a3 c3)))∧l0=l0∧(∀d3:Nat,let e3:=W.tlbsN d3;d3<l0→True∧e3=e3∧(∀g3:Nat,let h3:=W.tlbs d3 g3;let k3:=h3.sp;let l3:=h3.pg;let o3:=h3.fr;let q3:=h3.wr;g3<e3→(((True∧k3=k3)∧l3=l3)∧o3=o3)∧q3=q3)))∧o0=o0∧(∀u3:Nat,u3<o0→True∧W.doms u3=W.doms u3))∧W.time=W.time)∧(((tn 2 (a=a)∧True∧b=b)∧True∧r=r)∧True∧g=g)∧True)∧True∧Sm W∧Snd W)∧tn 10 True∧((True∧((((((((((True∧v0=v0∧(∀v3:Nat,v3<v0→True∧u0.ram v3=u0.ram v3))∧w0=w0∧(∀w3:Nat,w3<w0→True∧u0.kinds w3=u0.kinds w3))∧x0=x0∧(∀x3:Nat,let y3:=u0.slots x3;let z3:=y3.kind;let a4:=y3.base;let b4:=y3.len;let c4:=y3.mark;let d4:=y3.rights;let e4:=y3.badge;let g4:=y3.from_;x3<x0→((((((True∧z3=z3)∧a4=a4)∧b4=b4)∧c4=c4)∧d4=d4)∧e4=e4)∧g4=g4))∧y0=y0∧(∀h4:Nat,let k4:=u0.tasks h4;let l4:=k4.prio;let o4:=k4.node;let q4:=k4.space;let u4:=k4.helper;let v4:=k4.loc;let w4:=k4.word;let x4:=k4.badge;let y4:=k4.owes;let z4:=k4.core;let a5:=k4.dom;h4<y0→(((((((((((((((((((True∧k4.r0=k4.r0)∧k4.r1=k4.r1)∧k4.r2=k4.r2)∧k4.r3=k4.r3)∧k4.r4=k4.r4)∧k4.r5=k4.r5)∧k4.r6=k4.r6)∧k4.r7=k4.r7)∧k4.pc=k4.pc)∧k4.st=k4.st)∧l4=l4)∧o4=o4)∧q4=q4)∧u4=u4)∧v4=v4)∧w4=w4)∧x4=x4)∧y4=y4)∧z4=z4)∧a5=a5))∧z0=z0∧(∀b5:Nat,let c5:=u0.linesN b5;b5<z0→True∧c5=c5∧(∀d5:Nat,d5<c5→True∧u0.lines b5 d5=u0.lines b5 d5)))∧a1=a1∧(∀e5:Nat,e5<a1→True∧u0.bits e5=u0.bits e5))∧b1=b1∧(∀g5:Nat,g5<b1→True∧u0.cores g5=u0.cores g5))∧c1=c1∧(∀h5:Nat,let k5:=u0.readyN h5;h5<c1→True∧k5=k5∧(∀l5:Nat,l5<k5→
    True∧u0.ready h5 l5=u0.ready h5 l5)))∧d1=d1∧(∀o5:Nat,let q5:=u0.tlbsN o5;o5<d1→True∧q5=q5∧(∀u5:Nat,let v5:=u0.tlbs o5 u5;let w5:=v5.sp;let x5:=v5.pg;let y5:=v5.fr;let z5:=v5.wr;u5<q5→(((True∧w5=w5)∧x5=x5)∧y5=y5)∧z5=z5)))∧e1=e1∧(∀a6:Nat,a6<e1→True∧u0.doms a6=u0.doms a6))∧g1=g1)∧q0=q0∧((-1):Int)=(-1))∧True)
set_option maxHeartbeats 2000000 in
theorem ok_tcpX : FnOK Tryz.prog glE 19 c_tcpX := ok_of (.cons ok_tcpD .nil) false Tryz.call19 Tryz.func19 (fun _ => []) (V := V_tcpX) (fun _ => by kernel_rfl) fun ⟨W, a, b, r, g⟩ hp => by
  dsimp only [s_tcpX] at hp
  dsimp only [V_tcpX, tn, w64]
  simp only [std, stb, eq_self, implies_true, Bool.cond_self]
  try simp only [wd_eta]
  exact hp
structure X_tcpY where
  (W : Wd) (a b r g : Int)
def s_tcpY : Sy.Spec := ⟨X_tcpY, fun ⟨W, a, b, r, g⟩ => [wSV W, .v (.int .i64 a), .v (.int .i64 b), .v (.int .i64 r), .v (.int .i64 g)], fun _ => [], fun ⟨W, _, _, _, _⟩ => Sm W ∧ wE W ≠ 0, fun _ => .tp 2 (lsv [wRd oW, .er 35 116 8 (-1)]), fun _ => [],
  fun args mem => match args with | [a0, a1, a2, a3, a4] => some ⟨wSVD a0, intD (a1), intD (a2), intD (a3), intD (a4)⟩ | _ => none⟩
def c_tcpY : Con := ⟨[], s_tcpY.g, none⟩
def V_tcpY : X_tcpY → Prop := fun ⟨W, _, _, _, _⟩ => let a0:=W.nKinds;let b0:=W.nSlots;let c0:=W.nTasks;let d0:=W.nLines;let e0:=W.nCores;let g0:=W.nReady;let h0:=(0:Int)=0;let k0:=True∧h0;let l0:=0=0∧(∀o0:Nat,o0<0→k0);let q0:=True∧l0;let u0:=(k0∧h0)∧h0;let v0:=(((u0∧h0)∧h0)∧h0)∧h0;let w0:=((-1):Int)=(-1);let x0:=0=0∧(∀y0:Nat,y0<0→q0);tn 6 ((((((((((((((True∧W.nRam=W.nRam∧(∀z0:Nat,z0<W.nRam→True∧W.ram z0=W.ram z0))∧a0=a0∧(∀a1:Nat,a1<a0→True∧W.kinds a1=W.kinds a1))∧b0=b0∧(∀b1:Nat,let c1:=W.slots b1;let d1:=c1.kind;let e1:=c1.base;let g1:=c1.len;let h1:=c1.mark;let k1:=c1.rights;let l1:=c1.badge;let o1:=c1.from_;b1<b0→((((((True∧d1=d1)∧e1=e1)∧g1=g1)∧h1=h1)∧k1=k1)∧l1=l1)∧o1=o1))∧c0=c0∧(∀q1:Nat,let u1:=W.tasks q1;let v1:=u1.prio;let w1:=u1.node;let x1:=u1.space;let y1:=u1.helper;let z1:=u1.loc;let a2:=u1.word;let b2:=u1.badge;let c2:=u1.owes;let d2:=u1.core;let e2:=u1.dom;q1<c0→(((((((((((((((((((True∧u1.r0=u1.r0)∧u1.r1=u1.r1)∧u1.r2=u1.r2)∧u1.r3=u1.r3)∧u1.r4=u1.r4)∧u1.r5=u1.r5)∧u1.r6=u1.r6)∧u1.r7=u1.r7)∧u1.pc=u1.pc)∧u1.st=u1.st)∧v1=v1)∧w1=w1)∧x1=x1)∧y1=y1)∧z1=z1)∧a2=a2)∧b2=b2)∧c2=c2)∧d2=d2)∧e2=e2))∧d0=d0∧(∀g2:Nat,let h2:=W.linesN g2;g2<d0→True∧h2=h2∧(∀k2:Nat,k2<h2→True∧W.lines g2 k2=W.lines g2 k2)))∧W.nBits=W.nBits∧(∀l2:Nat,l2<W.nBits→True∧W.bits l2=W.bits l2))∧e0=e0∧(∀o2:Nat,o2<e0→True∧W.cores o2=W.cores o2))∧g0=g0∧(∀q2:Nat,let u2:=W.readyN q2;q2<g0→True∧u2=u2∧(∀v2:Nat,v2<u2→True∧W.ready q2 v2=W.ready q2 v2)))∧W.nTlbs=W.nTlbs∧(∀w2:Nat,let x2:=W.tlbsN w2;w2<W.nTlbs→True∧x2=x2∧(∀y2:Nat,let z2:=W.tlbs w2 y2;let a3:=z2.sp;
    let b3:=z2.pg;let c3:=z2.fr;let d3:=z2.wr;y2<x2→(((True∧a3=a3)∧b3=b3)∧c3=c3)∧d3=d3)))∧W.nDoms=W.nDoms∧(∀e3:Nat,e3<W.nDoms→True∧W.doms e3=W.doms e3))∧W.time=W.time)∧True∧True)∧True∧Sm W∧wE W≠0)∧tn 10 True∧((True∧(((((((((q0∧l0)∧0=0∧(∀g3:Nat,g3<0→v0))∧0=0∧(∀h3:Nat,h3<0→((((((((((((v0∧h0)∧h0)∧h0)∧h0)∧w0)∧w0)∧w0)∧w0)∧h0)∧h0)∧w0)∧h0)∧h0))∧x0)∧l0)∧l0)∧x0)∧0=0∧(∀k3:Nat,k3<0→True∧0=0∧(∀l3:Nat,l3<0→u0∧false=false)))∧l0)∧h0)∧(8:Int)=8∧w0)∧True)
set_option maxHeartbeats 2000000 in
theorem ok_tcpY : FnOK Tryz.prog glE 19 c_tcpY := ok_of (.cons ok_done8 .nil) false Tryz.call19 Tryz.func19 (fun _ => []) (V := V_tcpY) (fun _ => by kernel_rfl) fun ⟨W, a, b, r, g⟩ hp => by
  dsimp only [s_tcpY] at hp
  dsimp only [V_tcpY, tn, w64]
  simp only [std, stb, eq_self, implies_true, Bool.cond_self]
  try simp only [wd_eta]
  exact hp
structure X_tcpR where
  (a b r g : Int) (W : Wd)
def s_tcpR : Sy.Spec := ⟨X_tcpR, fun ⟨a, b, r, g, _⟩ => [.ptr 0 0 none 0 0, .pt true 1 (fun _ => .v (.int .i64 a)), .pt true 1 (fun _ => .v (.int .i64 b)), .pt true 1 (fun _ => .v (.int .i64 r)), .pt true 1 (fun _ => .v (.int .i64 g))], fun ⟨_, _, _, _, W⟩ => wMem W, fun ⟨_, _, _, _, W⟩ => Snd W, fun ⟨a, b, r, g, W⟩ => .v (.int .i64 (cpE W a b r g)), fun ⟨a, b, r, g, W⟩ => wMem (cpW W a b r g),
  fun args mem => match args with | [a0, a1, a2, a3, a4] => some ⟨intD (ptF a1 0), intD (ptF a2 0), intD (ptF a3 0), intD (ptF a4 0), wMJD mem 0⟩ | _ => none⟩
def c_tcpR : Con := ⟨[true], s_tcpR.g, none⟩
def V_tcpR : X_tcpR → Prop := fun ⟨a, b, r, g, W⟩ => let a0:=SV.ptr 0 0 none 0 0;let b0:=0=0;let c0:=W.nRam;let d0:=c0=c0;let e0:=W.nKinds;let g0:=e0=e0;let h0:=W.nSlots;let k0:=h0=h0;let l0:=W.nTasks;let o0:=l0=l0;let q0:=W.nLines;let u0:=q0=q0;let v0:=W.nBits;let w0:=v0=v0;let x0:=W.nCores;let y0:=x0=x0;let z0:=W.nReady;let a1:=z0=z0;let b1:=W.nTlbs;let c1:=b1=b1;let d1:=W.nDoms;let e1:=d1=d1;let g1:=W.time=W.time;let h1:=d0∧(∀k1:Nat,k1<c0→True∧W.ram k1=W.ram k1);let l1:=g0∧(∀o1:Nat,o1<e0→True∧W.kinds o1=W.kinds o1);let q1:=u0∧(∀u1:Nat,let v1:=W.linesN u1;u1<q0→True∧v1=v1∧(∀w1:Nat,w1<v1→True∧W.lines u1 w1=W.lines u1 w1));let x1:=w0∧(∀y1:Nat,y1<v0→True∧W.bits y1=W.bits y1);let z1:=y0∧(∀a2:Nat,a2<x0→True∧W.cores a2=W.cores a2);let b2:=a1∧(∀c2:Nat,let d2:=W.readyN c2;c2<z0→True∧d2=d2∧(∀e2:Nat,e2<d2→True∧W.ready c2 e2=W.ready c2 e2));let g2:=(e1∧(∀h2:Nat,h2<d1→True∧W.doms h2=W.doms h2))∧True;let k2:=cpE W a b r g;let l2:=0=0;let o2:=Wd.mk c0 W.ram e0 W.kinds h0 (cpS W a b r g) l0 W.tasks q0 W.linesN W.lines v0 W.bits x0 W.cores z0 W.readyN W.ready b1 W.tlbsN W.tlbs d1 W.doms W.time;((a0=a0∧a=a∧b=b∧r=r∧g=g∧True)∧((((((((((((True∧b0∧d0)∧b0∧g0)∧b0∧k0)∧b0∧o0)∧b0∧u0)∧b0∧w0)∧b0∧y0)∧b0∧a1)∧b0∧c1)∧b0∧e1)∧g1)∧h1∧l1∧(k0∧(∀q2:Nat,let u2:=W.slots q2;let v2:=u2.kind;let w2:=u2.base;let x2:=u2.len;let y2:=u2.mark;let z2:=u2.rights;let a3:=u2.badge;let b3:=u2.from_;q2<h0→((((((True∧v2=v2)∧w2=w2)∧x2=x2)∧y2=y2)∧z2=z2)∧a3=a3)∧b3=b3))∧(o0∧(∀c3:Nat,let d3:=W.tasks c3;let e3:=d3.prio;let g3:=d3.node;let h3:=d3.space;let k3:=d3.helper;let l3:=d3.loc;
    let o3:=d3.word;let q3:=d3.badge;let u3:=d3.owes;let v3:=d3.core;let w3:=d3.dom;c3<l0→(((((((((((((((((((True∧d3.r0=d3.r0)∧d3.r1=d3.r1)∧d3.r2=d3.r2)∧d3.r3=d3.r3)∧d3.r4=d3.r4)∧d3.r5=d3.r5)∧d3.r6=d3.r6)∧d3.r7=d3.r7)∧d3.pc=d3.pc)∧d3.st=d3.st)∧e3=e3)∧g3=g3)∧h3=h3)∧k3=k3)∧l3=l3)∧o3=o3)∧q3=q3)∧u3=u3)∧v3=v3)∧w3=w3))∧q1∧x1∧z1∧b2∧(c1∧(∀x3:Nat,let y3:=W.tlbsN x3;x3<b1→True∧y3=y3∧(∀z3:Nat,let a4:=W.tlbs x3 z3;let b4:=a4.sp;let c4:=a4.pg;let d4:=a4.fr;let e4:=a4.wr;z3<y3→(((True∧b4=b4)∧c4=c4)∧d4=d4)∧e4=e4)))∧g2)∧s_copyKey.match_1 (fun g4:X_copyKey=>Prop) (X_copyKey.mk a b r g W) (fun h4:Int=>fun k4:Int=>fun l4:Int=>fun o4:Int=>fun q4:Wd=>Snd q4))∧k2=k2∧(((((((((((True∧l2∧d0)∧l2∧g0)∧l2∧k0)∧l2∧o0)∧l2∧u0)∧l2∧w0)∧l2∧y0)∧l2∧a1)∧l2∧c1)∧l2∧e1)∧g1)∧h1∧l1∧(k0∧(∀u4:Nat,let v4:=o2.slots u4;let w4:=v4.kind;let x4:=v4.base;let y4:=v4.len;let z4:=v4.mark;let a5:=v4.rights;let b5:=v4.badge;let c5:=v4.from_;u4<h0→((((((True∧w4=w4)∧x4=x4)∧y4=y4)∧z4=z4)∧a5=a5)∧b5=b5)∧c5=c5))∧(o0∧(∀d5:Nat,let e5:=W.tasks d5;let g5:=o2.tasks d5;d5<l0→(((((((((((((((((((True∧e5.r0=g5.r0)∧e5.r1=g5.r1)∧e5.r2=g5.r2)∧e5.r3=g5.r3)∧e5.r4=g5.r4)∧e5.r5=g5.r5)∧e5.r6=g5.r6)∧e5.r7=g5.r7)∧e5.pc=g5.pc)∧e5.st=g5.st)∧e5.prio=g5.prio)∧e5.node=g5.node)∧e5.space=g5.space)∧e5.helper=g5.helper)∧e5.loc=g5.loc)∧e5.word=g5.word)∧e5.badge=g5.badge)∧e5.owes=g5.owes)∧e5.core=g5.core)∧e5.dom=g5.dom))∧q1∧x1∧z1∧b2∧(c1∧(∀h5:Nat,let k5:=W.tlbsN h5;h5<b1→True∧k5=k5∧(∀l5:Nat,let o5:=W.tlbs h5 l5;let q5:=o2.tlbs h5 l5;l5<k5→(((True∧o5.sp=q5.sp)∧
    o5.pg=q5.pg)∧o5.fr=q5.fr)∧o5.wr=q5.wr)))∧g2
theorem ok_tcpR : FnOK Tryz.prog glE 20 c_tcpR := ok_of (.cons (ok_copyKey.up glN_glE) .nil) false Tryz.call20 Tryz.func20 (fun _ => []) (V := V_tcpR) (fun _ => by kernel_rfl) fun ⟨a, b, r, g, W⟩ hp => by
  dsimp only [s_tcpR] at hp
  dsimp only [V_tcpR, tn, w64]
  simp only [std, stb, eq_self, implies_true, Bool.cond_self]
  try simp only [wd_eta]
  exact hp
structure X_tcpL where
  (W : Wd) (a b r g : Int)
def s_tcpL : Sy.Spec := ⟨X_tcpL, fun ⟨W, a, b, r, g⟩ => [wRd (gdW (cpE W a b r g) (cpW W a b r g)), .er 35 116 (cpE W a b r g) (-1), wSV W, .v (.int .i64 0), .fn 20 4 (lsv [.pt true 1 (fun _ => .v (.int .i64 a)), .pt true 1 (fun _ => .v (.int .i64 b)), .pt true 1 (fun _ => .v (.int .i64 r)), .pt true 1 (fun _ => .v (.int .i64 g))])], fun _ => [], fun ⟨W, _, _, _, _⟩ => Sm W ∧ Snd W, fun _ => .v (.bool true), fun _ => [],
  fun args mem => match args with | [a0, a1, a2, a3, a4] => some ⟨wSVD a2, intD (ptF (fnF a4 0) 0), intD (ptF (fnF a4 1) 0), intD (ptF (fnF a4 2) 0), intD (ptF (fnF a4 3) 0)⟩ | _ => none⟩
def c_tcpL : Con := ⟨[], s_tcpL.g, none⟩
def V_tcpL : X_tcpL → Prop := fun ⟨W, a, b, r, g⟩ => let a0:=W.nRam;let b0:=a0=a0;let c0:=b0∧(∀d0:Nat,d0<a0→True∧W.ram d0=W.ram d0);let e0:=W.nKinds;let g0:=e0=e0;let h0:=g0∧(∀k0:Nat,k0<e0→True∧W.kinds k0=W.kinds k0);let l0:=W.nSlots;let o0:=l0=l0;let q0:=o0∧(∀u0:Nat,let v0:=W.slots u0;let w0:=v0.kind;let x0:=v0.base;let y0:=v0.len;let z0:=v0.mark;let a1:=v0.rights;let b1:=v0.badge;let c1:=v0.from_;u0<l0→((((((True∧w0=w0)∧x0=x0)∧y0=y0)∧z0=z0)∧a1=a1)∧b1=b1)∧c1=c1);let d1:=W.nTasks;let e1:=d1=d1;let g1:=e1∧(∀h1:Nat,let k1:=W.tasks h1;let l1:=k1.prio;let o1:=k1.node;let q1:=k1.space;let u1:=k1.helper;let v1:=k1.loc;let w1:=k1.word;let x1:=k1.badge;let y1:=k1.owes;let z1:=k1.core;let a2:=k1.dom;h1<d1→(((((((((((((((((((True∧k1.r0=k1.r0)∧k1.r1=k1.r1)∧k1.r2=k1.r2)∧k1.r3=k1.r3)∧k1.r4=k1.r4)∧k1.r5=k1.r5)∧k1.r6=k1.r6)∧k1.r7=k1.r7)∧k1.pc=k1.pc)∧k1.st=k1.st)∧l1=l1)∧o1=o1)∧q1=q1)∧u1=u1)∧v1=v1)∧w1=w1)∧x1=x1)∧y1=y1)∧z1=z1)∧a2=a2);let b2:=W.nLines;let c2:=b2=b2;let d2:=c2∧(∀e2:Nat,let g2:=W.linesN e2;e2<b2→True∧g2=g2∧(∀h2:Nat,h2<g2→True∧W.lines e2 h2=W.lines e2 h2));let k2:=W.nBits;let l2:=k2=k2;let o2:=l2∧(∀q2:Nat,q2<k2→True∧W.bits q2=W.bits q2);let u2:=W.nCores;let v2:=u2=u2;let w2:=v2∧(∀x2:Nat,x2<u2→True∧W.cores x2=W.cores x2);let y2:=W.nReady;let z2:=y2=y2;let a3:=z2∧(∀b3:Nat,let c3:=W.readyN b3;b3<y2→True∧c3=c3∧(∀d3:Nat,d3<c3→True∧W.ready b3 d3=W.ready b3 d3));let e3:=W.nTlbs;let g3:=e3=e3;
    let h3:=g3∧(∀k3:Nat,let l3:=W.tlbsN k3;k3<e3→True∧l3=l3∧(∀o3:Nat,let q3:=W.tlbs k3 o3;let u3:=q3.sp;let v3:=q3.pg;let w3:=q3.fr;let x3:=q3.wr;o3<l3→(((True∧u3=u3)∧v3=v3)∧w3=w3)∧x3=x3));let y3:=W.nDoms;let z3:=y3=y3;let a4:=z3∧(∀b4:Nat,b4<y3→True∧W.doms b4=W.doms b4);let c4:=W.time;let d4:=c4=c4;let e4:=True∧True;let g4:=0=0;let h4:=cpE W a b r g;let k4:=h4 !=0;let l4:=h4=h4;let o4:=((-1):Int)=(-1);let q4:=l4∧o4;let u4:=h4==h4&&((-1):Int)==(-1);let v4:=Wd.mk a0 W.ram e0 W.kinds l0 (cpS W a b r g) d1 W.tasks b2 W.linesN W.lines k2 W.bits u2 W.cores y2 W.readyN W.ready e3 W.tlbsN W.tlbs y3 W.doms c4;let w4:=gdW h4 v4;let x4:=w4.nRam;let y4:=w4.nKinds;let z4:=w4.nSlots;let a5:=w4.nTasks;let b5:=w4.nLines;let c5:=w4.nBits;let d5:=w4.nCores;let e5:=w4.nReady;let g5:=w4.nTlbs;let h5:=w4.nDoms;let k5:=w4.time;
    let l5:=((((((((((True∧x4=x4∧(∀o5:Nat,o5<x4→True∧w4.ram o5=w4.ram o5))∧y4=y4∧(∀q5:Nat,q5<y4→True∧w4.kinds q5=w4.kinds q5))∧z4=z4∧(∀u5:Nat,let v5:=w4.slots u5;let w5:=v5.kind;let x5:=v5.base;let y5:=v5.len;let z5:=v5.mark;let a6:=v5.rights;let b6:=v5.badge;let c6:=v5.from_;u5<z4→((((((True∧w5=w5)∧x5=x5)∧y5=y5)∧z5=z5)∧a6=a6)∧b6=b6)∧c6=c6))∧a5=a5∧(∀d6:Nat,let e6:=w4.tasks d6;let g6:=e6.prio;let h6:=e6.node;let k6:=e6.space;let l6:=e6.helper;let o6:=e6.loc;let q6:=e6.word;let u6:=e6.badge;let v6:=e6.owes;let w6:=e6.core;let x6:=e6.dom;d6<a5→(((((((((((((((((((True∧e6.r0=e6.r0)∧e6.r1=e6.r1)∧e6.r2=e6.r2)∧e6.r3=e6.r3)∧e6.r4=e6.r4)∧e6.r5=e6.r5)∧e6.r6=e6.r6)∧e6.r7=e6.r7)∧e6.pc=e6.pc)∧e6.st=e6.st)∧g6=g6)∧h6=h6)∧k6=k6)∧l6=l6)∧o6=o6)∧q6=q6)∧u6=u6)∧v6=v6)∧w6=w6)∧x6=x6))∧b5=b5∧(∀y6:Nat,let z6:=w4.linesN y6;y6<b5→True∧z6=z6∧(∀a7:Nat,a7<z6→True∧w4.lines y6 a7=w4.lines y6 a7)))∧c5=c5∧(∀b7:Nat,b7<c5→True∧w4.bits b7=w4.bits b7))∧d5=d5∧(∀c7:Nat,c7<d5→True∧w4.cores c7=w4.cores c7))∧e5=e5∧(∀d7:Nat,let e7:=w4.readyN d7;d7<e5→True∧e7=e7∧(∀g7:Nat,g7<e7→True∧w4.ready d7 g7=w4.ready d7 g7)))∧g5=g5∧(∀h7:Nat,let k7:=w4.tlbsN h7;h7<g5→True∧k7=k7∧(∀l7:Nat,let o7:=w4.tlbs h7 l7;let q7:=o7.sp;let u7:=o7.pg;let v7:=o7.fr;let w7:=o7.wr;l7<k7→(((True∧q7=q7)∧u7=u7)∧v7=v7)∧w7=w7)))∧h5=h5∧(∀x7:Nat,x7<h5→True∧w4.doms x7=w4.doms x7))∧k5=k5;let y7:=(l5∧True)∧True∧x4=0∧y4=0∧z4=0∧a5=0∧b5=0∧c5=0∧d5=0∧e5=0∧g5=0∧h5=0∧k5=0;let z7:=h4==0;let a8:=z7=true;
    let b8:=(True∧b0∧(∀c8:Nat,c8<a0→True∧W.ram (0+c8)=W.ram (0+c8)))∧g0∧(∀d8:Nat,let e8:=W.kinds (0+d8);d8<e0→True∧e8=e8);let g8:=e1∧(∀h8:Nat,let k8:=W.tasks (0+h8);let l8:=k8.r0;let o8:=k8.r1;let q8:=k8.r2;let r8:=k8.r3;let u8:=k8.r4;let v8:=k8.r5;let w8:=k8.r6;let x8:=k8.r7;let y8:=k8.pc;let z8:=k8.st;let a9:=k8.prio;let b9:=k8.node;let c9:=k8.space;let d9:=k8.helper;let e9:=k8.loc;let g9:=k8.word;let h9:=k8.badge;let k9:=k8.owes;let l9:=k8.core;let o9:=k8.dom;h8<d1→(((((((((((((((((((True∧l8=l8)∧o8=o8)∧q8=q8)∧r8=r8)∧u8=u8)∧v8=v8)∧w8=w8)∧x8=x8)∧y8=y8)∧z8=z8)∧a9=a9)∧b9=b9)∧c9=c9)∧d9=d9)∧e9=e9)∧g9=g9)∧h9=h9)∧k9=k9)∧l9=l9)∧o9=o9);let q9:=c2∧(∀r9:Nat,let u9:=W.linesN (0+r9);r9<b2→True∧u9=u9∧(∀v9:Nat,let w9:=W.lines (0+r9) (0+v9);v9<u9→True∧w9=w9));let x9:=l2∧(∀y9:Nat,y9<k2→True∧W.bits (0+y9)=W.bits (0+y9));let z9:=v2∧(∀a10:Nat,let b10:=W.cores (0+a10);a10<u2→True∧b10=b10);let c10:=z2∧(∀d10:Nat,let e10:=W.readyN (0+d10);d10<y2→True∧e10=e10∧(∀g10:Nat,let h10:=W.ready (0+d10) (0+g10);g10<e10→True∧h10=h10));let k10:=g3∧(∀l10:Nat,let o10:=0+l10;let q10:=W.tlbsN o10;l10<e3→True∧q10=q10∧(∀r10:Nat,let u10:=W.tlbs o10 (0+r10);let v10:=u10.sp;let w10:=u10.pg;let x10:=u10.fr;let y10:=u10.wr;r10<q10→(((True∧v10=v10)∧w10=w10)∧x10=x10)∧y10=y10));let z10:=z3∧(∀a11:Nat,a11<y3→True∧W.doms (0+a11)=W.doms (0+a11));let b11:=z7&&((-1):Int)==(-1);tn 2 ((((((((((((((True∧c0)∧h0)∧q0)∧g1)∧d2)∧o2)∧w2)∧a3)∧h3)∧a4)∧d4)∧True)∧True∧
    s_copyW.match_1 (fun c11:X_copyW=>Prop) (X_copyW.mk W) (fun d11:Wd=>Lg d11))∧True∧tn 9 e4∧(((0:Int)==0)=true→((SV.ptr 0 0 none 0 0=SV.ptr 0 0 none 0 0∧(True∧a=a)∧(True∧b=b)∧(True∧r=r)∧(True∧g=g)∧True)∧((((((((((((True∧g4∧b0)∧g4∧g0)∧g4∧o0)∧g4∧e1)∧g4∧c2)∧g4∧l2)∧g4∧v2)∧g4∧z2)∧g4∧g3)∧g4∧z3)∧d4)∧c0∧h0∧q0∧g1∧d2∧o2∧w2∧a3∧h3∧a4∧True)∧s_tcpR.match_1 (fun e11:X_tcpR=>Prop) (X_tcpR.mk a b r g W) (fun g11:Int=>fun h11:Int=>fun k11:Int=>fun l11:Int=>fun o11:Wd=>Snd o11))∧(k4=true→((l4∧True)∧e4)∧((q4∧((True∧l4)∧o4)∧True)∧e4)∧(u4=true→y7)∧cond u4 true false=true∧True)∧(k4=false→(a8→(l5∧(((((((((b8∧o0∧(∀q11:Nat,let r11:=v4.slots (0+q11);let u11:=r11.kind;let v11:=r11.base;let w11:=r11.len;let x11:=r11.mark;let y11:=r11.rights;let z11:=r11.badge;let a12:=r11.from_;q11<l0→((((((True∧u11=u11)∧v11=v11)∧w11=w11)∧x11=x11)∧y11=y11)∧z11=z11)∧a12=a12))∧g8)∧q9)∧x9)∧z9)∧c10)∧k10)∧z10)∧d4)∧True)∧e4)∧cond z7 (sameW w4 (Wd.mk a0 (fun b12:Nat=>W.ram (0+b12)) e0 (fun c12:Nat=>W.kinds (0+c12)) l0 (fun d12:Nat=>v4.slots (0+d12)) d1 (fun e12:Nat=>W.tasks (0+e12)) b2 (fun g12:Nat=>W.linesN (0+g12)) (fun h12:Nat=>fun k12:Nat=>W.lines (0+h12) (0+k12)) k2 (fun l12:Nat=>W.bits (0+l12)) u2 (fun o12:Nat=>W.cores (0+o12)) y2 (fun q12:Nat=>W.readyN (0+q12)) (fun r12:Nat=>fun u12:Nat=>W.ready (0+r12) (0+u12)) e3 (fun v12:Nat=>W.tlbsN (0+v12)) (fun w12:Nat=>fun x12:Nat=>W.tlbs (0+w12) (0+x12)) y3 (fun y12:Nat=>W.doms (0+y12)) c4)) false=true∧True))∧(((0:Int)==0)=false→(((0:Int) !=0)=true→(((0:Int)=0∧True)∧e4)∧((q4∧
    ((True∧(0:Int)=0)∧o4)∧True)∧e4)∧(b11=true→y7)∧cond b11 true false=true∧True)∧(((0:Int) !=0)=false→(a8→(l5∧(((((((((b8∧o0∧(∀z12:Nat,let a13:=W.slots (0+z12);let b13:=a13.kind;let c13:=a13.base;let d13:=a13.len;let e13:=a13.mark;let g13:=a13.rights;let h13:=a13.badge;let k13:=a13.from_;z12<l0→((((((True∧b13=b13)∧c13=c13)∧d13=d13)∧e13=e13)∧g13=g13)∧h13=h13)∧k13=k13))∧g8)∧q9)∧x9)∧z9)∧c10)∧k10)∧z10)∧d4)∧True)∧e4)∧cond z7 (sameW w4 (Wd.mk a0 (fun l13:Nat=>W.ram (0+l13)) e0 (fun o13:Nat=>W.kinds (0+o13)) l0 (fun q13:Nat=>W.slots (0+q13)) d1 (fun r13:Nat=>W.tasks (0+r13)) b2 (fun u13:Nat=>W.linesN (0+u13)) (fun v13:Nat=>fun w13:Nat=>W.lines (0+v13) (0+w13)) k2 (fun x13:Nat=>W.bits (0+x13)) u2 (fun y13:Nat=>W.cores (0+y13)) y2 (fun z13:Nat=>W.readyN (0+z13)) (fun a14:Nat=>fun b14:Nat=>W.ready (0+a14) (0+b14)) e3 (fun c14:Nat=>W.tlbsN (0+c14)) (fun d14:Nat=>fun e14:Nat=>W.tlbs (0+d14) (0+e14)) y3 (fun g14:Nat=>W.doms (0+g14)) c4)) false=true∧True)))
set_option maxHeartbeats 2000000 in
theorem ok_tcpL : FnOK Tryz.prog glE 15 c_tcpL := ok_of (.cons ok_is (.cons (ok_err.up glN_glE) (.cons (ok_copyW.up glN_glE) (.cons ok_nothing (.cons (ok_sameWorld.up glN_glE) (.cons ok_tcpR .nil)))))) false Tryz.call15 Tryz.func15 (fun _ => []) (V := V_tcpL) (fun _ => by kernel_rfl) fun ⟨W, a, b, r, g⟩ hp => by
  dsimp only [s_tcpL] at hp
  dsimp only [V_tcpL, tn, w64]
  simp only [std, stb, eq_self, implies_true, Bool.cond_self]
  obtain ⟨hs, hw⟩ := hp
  refine ⟨lg_sm hs, fun _ => ⟨hw, fun h2 => ?_, fun h2 => ?_⟩, fun h => absurd h (by decide)⟩
  · simp only [fun X => gdW_no X (ne0 h2)]
    repeat' (first | exact trivial | rfl | refine And.intro ?_ ?_ | intro _ | exact absurd ‹_› (Nat.not_lt_zero _) | fail)
    simp
  · simp only [fun X => gdW_yes X (eq0 h2)]
    simp only [eq0 h2, Bool.true_and]
    exact sameW_refl _
structure X_treeCopies0 where
  (W : Wd) (a b r g : Int)
def s_treeCopies0 : Sy.Spec := ⟨X_treeCopies0, fun ⟨W, a, b, r, g⟩ => [wSV W, .v (.int .i64 a), .v (.int .i64 b), .v (.int .i64 r), .v (.int .i64 g)], fun _ => [], fun ⟨W, _, _, _, _⟩ => Snd W, fun _ => .v (.bool true), fun _ => [],
  fun args mem => match args with | [a0, a1, a2, a3, a4] => some ⟨wSVD a0, intD (a1), intD (a2), intD (a3), intD (a4)⟩ | _ => none⟩
def V_treeCopies0 : X_treeCopies0 → Prop := fun ⟨W, a, b, r, g⟩ => let a0:=W.nRam;let b0:=W.nKinds;let c0:=W.nSlots;let d0:=W.nTasks;let e0:=W.nLines;let g0:=W.nBits;let h0:=W.nCores;let k0:=W.nReady;let l0:=W.nTlbs;let o0:=W.nDoms;let q0:=((((((((((True∧a0=a0∧(∀u0:Nat,u0<a0→True∧W.ram u0=W.ram u0))∧b0=b0∧(∀v0:Nat,v0<b0→True∧W.kinds v0=W.kinds v0))∧c0=c0∧(∀w0:Nat,let x0:=W.slots w0;let y0:=x0.kind;let z0:=x0.base;let a1:=x0.len;let b1:=x0.mark;let c1:=x0.rights;let d1:=x0.badge;let e1:=x0.from_;w0<c0→((((((True∧y0=y0)∧z0=z0)∧a1=a1)∧b1=b1)∧c1=c1)∧d1=d1)∧e1=e1))∧d0=d0∧(∀g1:Nat,let h1:=W.tasks g1;let k1:=h1.prio;let l1:=h1.node;let o1:=h1.space;let q1:=h1.helper;let u1:=h1.loc;let v1:=h1.word;let w1:=h1.badge;let x1:=h1.owes;let y1:=h1.core;let z1:=h1.dom;g1<d0→(((((((((((((((((((True∧h1.r0=h1.r0)∧h1.r1=h1.r1)∧h1.r2=h1.r2)∧h1.r3=h1.r3)∧h1.r4=h1.r4)∧h1.r5=h1.r5)∧h1.r6=h1.r6)∧h1.r7=h1.r7)∧h1.pc=h1.pc)∧h1.st=h1.st)∧k1=k1)∧l1=l1)∧o1=o1)∧q1=q1)∧u1=u1)∧v1=v1)∧w1=w1)∧x1=x1)∧y1=y1)∧z1=z1))∧e0=e0∧(∀a2:Nat,let b2:=W.linesN a2;a2<e0→True∧b2=b2∧(∀c2:Nat,c2<b2→True∧W.lines a2 c2=W.lines a2 c2)))∧g0=g0∧(∀d2:Nat,d2<g0→True∧W.bits d2=W.bits d2))∧h0=h0∧(∀e2:Nat,e2<h0→True∧W.cores e2=W.cores e2))∧k0=k0∧(∀g2:Nat,let h2:=W.readyN g2;g2<k0→True∧h2=h2∧(∀k2:Nat,k2<h2→True∧W.ready g2 k2=W.ready g2 k2)))∧l0=l0∧(∀l2:Nat,let o2:=W.tlbsN l2;l2<l0→True∧o2=o2∧(∀q2:Nat,let u2:=W.tlbs l2 q2;let v2:=u2.sp;let w2:=u2.pg;let x2:=u2.fr;let y2:=u2.wr;q2<o2→(((True∧v2=v2)∧w2=w2)∧x2=x2)∧y2=y2)))∧o0=o0∧(∀z2:Nat,z2<o0→True∧W.doms z2=W.doms z2))∧W.time=W.time;let a3:=q0∧True;
    let b3:=true=true∧True;let c3:=True∧Sm W∧Snd W;let d3:=cpE W a b r g;let e3:=gdW d3 (Wd.mk a0 W.ram b0 W.kinds c0 (cpS W a b r g) d0 W.tasks e0 W.linesN W.lines g0 W.bits h0 W.cores k0 W.readyN W.ready l0 W.tlbsN W.tlbs o0 W.doms W.time);let g3:=e3.nRam;let h3:=e3.nKinds;let k3:=e3.nSlots;let l3:=e3.nTasks;let o3:=e3.nLines;let q3:=e3.nBits;let u3:=e3.nCores;let v3:=e3.nReady;let w3:=e3.nTlbs;let x3:=e3.nDoms;let y3:=e3.time;tn 5 ((a3∧True∧True)∧(hgB W=true→b3)∧(hgB W=false→((q0∧a=a∧b=b∧r=r∧g=g∧True)∧c3)∧True∧tn 10 True∧tn 4 ((a3∧c3)∧True∧(((((((((((((True∧g3=g3∧(∀z3:Nat,z3<g3→True∧e3.ram z3=e3.ram z3))∧h3=h3∧(∀a4:Nat,a4<h3→True∧e3.kinds a4=e3.kinds a4))∧k3=k3∧(∀b4:Nat,let c4:=e3.slots b4;let d4:=c4.kind;let e4:=c4.base;let g4:=c4.len;let h4:=c4.mark;let k4:=c4.rights;let l4:=c4.badge;let o4:=c4.from_;b4<k3→((((((True∧d4=d4)∧e4=e4)∧g4=g4)∧h4=h4)∧k4=k4)∧l4=l4)∧o4=o4))∧l3=l3∧(∀q4:Nat,let u4:=e3.tasks q4;let v4:=u4.prio;let w4:=u4.node;let x4:=u4.space;let y4:=u4.helper;let z4:=u4.loc;let a5:=u4.word;let b5:=u4.badge;let c5:=u4.owes;let d5:=u4.core;let e5:=u4.dom;q4<l3→(((((((((((((((((((True∧u4.r0=u4.r0)∧u4.r1=u4.r1)∧u4.r2=u4.r2)∧u4.r3=u4.r3)∧u4.r4=u4.r4)∧u4.r5=u4.r5)∧u4.r6=u4.r6)∧u4.r7=u4.r7)∧u4.pc=u4.pc)∧u4.st=u4.st)∧v4=v4)∧w4=w4)∧x4=x4)∧y4=y4)∧z4=z4)∧a5=a5)∧b5=b5)∧c5=c5)∧d5=d5)∧e5=e5))∧o3=o3∧(∀g5:Nat,let h5:=e3.linesN g5;g5<o3→True∧h5=h5∧(∀k5:Nat,k5<h5→True∧e3.lines g5 k5=e3.lines g5 k5)))∧q3=q3∧(∀l5:Nat,l5<q3→True∧e3.bits l5=e3.bits l5))∧u3=u3∧(∀o5:Nat,o5<u3→True∧
    e3.cores o5=e3.cores o5))∧v3=v3∧(∀q5:Nat,let u5:=e3.readyN q5;q5<v3→True∧u5=u5∧(∀v5:Nat,v5<u5→True∧e3.ready q5 v5=e3.ready q5 v5)))∧w3=w3∧(∀w5:Nat,let x5:=e3.tlbsN w5;w5<w3→True∧x5=x5∧(∀y5:Nat,let z5:=e3.tlbs w5 y5;let a6:=z5.sp;let b6:=z5.pg;let c6:=z5.fr;let d6:=z5.wr;y5<x5→(((True∧a6=a6)∧b6=b6)∧c6=c6)∧d6=d6)))∧x3=x3∧(∀e6:Nat,e6<x3→True∧e3.doms e6=e3.doms e6))∧y3=y3)∧(d3=d3∧((-1):Int)=(-1))∧q0∧(0:Int)=0∧(((tn 2 (a=a)∧True∧b=b)∧True∧r=r)∧True∧g=g)∧True)∧c3)∧b3)))
set_option maxHeartbeats 2000000 in
theorem fc_treeCopies0 : ∀ x, s_treeCopies0.pre x → FnC Tryz.prog glE 4 (s_treeCopies0.args x) (s_treeCopies0.mem x) (s_treeCopies0.res x) (s_treeCopies0.mem' x) := fun x hp => fn_of (.cons (ok_hugeWorld.up glN_glE) (.cons ok_tcpL (.cons ok_sound0 (.cons ok_tcpX .nil)))) false Tryz.func4 ((fun _ => []) x) (V := V_treeCopies0 x) (by kernel_rfl) <| (fun ⟨W, a, b, r, g⟩ hp => by
  dsimp only [s_treeCopies0] at hp
  dsimp only [V_treeCopies0, tn, w64]
  simp only [std, stb, eq_self, implies_true, Bool.cond_self]
  try simp only [wd_eta]
  intro h0
  have h0 := sm_of h0
  repeat' (first | exact h0 | exact hp | exact lg_sm h0 | exact trivial | rfl | refine And.intro ?_ ?_ | fail)
  : ∀ x, s_treeCopies0.pre x → V_treeCopies0 x) x hp
structure X_treeCopies8 where
  (W : Wd) (a b r g : Int)
def s_treeCopies8 : Sy.Spec := ⟨X_treeCopies8, fun ⟨W, a, b, r, g⟩ => [wSV W, .v (.int .i64 a), .v (.int .i64 b), .v (.int .i64 r), .v (.int .i64 g)], fun _ => [], fun ⟨W, _, _, _, _⟩ => wE W ≠ 0, fun _ => .v (.bool true), fun _ => [],
  fun args mem => match args with | [a0, a1, a2, a3, a4] => some ⟨wSVD a0, intD (a1), intD (a2), intD (a3), intD (a4)⟩ | _ => none⟩
def V_treeCopies8 : X_treeCopies8 → Prop := fun ⟨W, a, b, r, g⟩ => let a0:=W.nKinds;let b0:=W.nSlots;let c0:=W.nTasks;let d0:=W.nLines;let e0:=W.nCores;let g0:=W.nReady;let h0:=((((((((((True∧W.nRam=W.nRam∧(∀k0:Nat,k0<W.nRam→True∧W.ram k0=W.ram k0))∧a0=a0∧(∀l0:Nat,l0<a0→True∧W.kinds l0=W.kinds l0))∧b0=b0∧(∀o0:Nat,let q0:=W.slots o0;let u0:=q0.kind;let v0:=q0.base;let w0:=q0.len;let x0:=q0.mark;let y0:=q0.rights;let z0:=q0.badge;let a1:=q0.from_;o0<b0→((((((True∧u0=u0)∧v0=v0)∧w0=w0)∧x0=x0)∧y0=y0)∧z0=z0)∧a1=a1))∧c0=c0∧(∀b1:Nat,let c1:=W.tasks b1;let d1:=c1.prio;let e1:=c1.node;let g1:=c1.space;let h1:=c1.helper;let k1:=c1.loc;let l1:=c1.word;let o1:=c1.badge;let q1:=c1.owes;let u1:=c1.core;let v1:=c1.dom;b1<c0→(((((((((((((((((((True∧c1.r0=c1.r0)∧c1.r1=c1.r1)∧c1.r2=c1.r2)∧c1.r3=c1.r3)∧c1.r4=c1.r4)∧c1.r5=c1.r5)∧c1.r6=c1.r6)∧c1.r7=c1.r7)∧c1.pc=c1.pc)∧c1.st=c1.st)∧d1=d1)∧e1=e1)∧g1=g1)∧h1=h1)∧k1=k1)∧l1=l1)∧o1=o1)∧q1=q1)∧u1=u1)∧v1=v1))∧d0=d0∧(∀w1:Nat,let x1:=W.linesN w1;w1<d0→True∧x1=x1∧(∀y1:Nat,y1<x1→True∧W.lines w1 y1=W.lines w1 y1)))∧W.nBits=W.nBits∧(∀z1:Nat,z1<W.nBits→True∧W.bits z1=W.bits z1))∧e0=e0∧(∀a2:Nat,a2<e0→True∧W.cores a2=W.cores a2))∧g0=g0∧(∀b2:Nat,let c2:=W.readyN b2;b2<g0→True∧c2=c2∧(∀d2:Nat,d2<c2→True∧W.ready b2 d2=W.ready b2 d2)))∧W.nTlbs=W.nTlbs∧(∀e2:Nat,let g2:=W.tlbsN e2;e2<W.nTlbs→True∧g2=g2∧(∀h2:Nat,let k2:=W.tlbs e2 h2;let l2:=k2.sp;let o2:=k2.pg;let q2:=k2.fr;let u2:=k2.wr;h2<g2→(((True∧l2=l2)∧o2=o2)∧q2=q2)∧u2=u2)))∧W.nDoms=W.nDoms∧(∀v2:Nat,v2<W.nDoms→True∧W.doms v2=W.doms v2))∧W.time=W.time;let w2:=h0∧True;
    let x2:=True∧True;let y2:=true=true∧True;let z2:=True∧Sm W∧wE W≠0;let a3:=(0:Int)=0;let b3:=True∧a3;let c3:=0=0∧(∀d3:Nat,d3<0→b3);let e3:=True∧c3;let g3:=(b3∧a3)∧a3;let h3:=(((g3∧a3)∧a3)∧a3)∧a3;let k3:=((-1):Int)=(-1);let l3:=0=0∧(∀o3:Nat,o3<0→e3);tn 5 ((w2∧x2)∧(hgB W=true→y2)∧(hgB W=false→((h0∧a=a∧b=b∧r=r∧g=g∧True)∧z2)∧True∧tn 9 x2∧tn 4 ((w2∧z2)∧True∧((((((((((((e3∧c3)∧0=0∧(∀q3:Nat,q3<0→h3))∧0=0∧(∀u3:Nat,u3<0→((((((((((((h3∧a3)∧a3)∧a3)∧a3)∧k3)∧k3)∧k3)∧k3)∧a3)∧a3)∧k3)∧a3)∧a3))∧l3)∧c3)∧c3)∧l3)∧0=0∧(∀v3:Nat,v3<0→True∧0=0∧(∀w3:Nat,w3<0→g3∧false=false)))∧c3)∧a3)∧((8:Int)=8∧k3)∧h0∧(8:Int)=8∧x2)∧True∧s_did8.match_1 (fun x3:X_did8=>Prop) (X_did8.mk W) (fun y3:Wd=>Lg y3))∧y2)))
set_option maxHeartbeats 2000000 in
theorem fc_treeCopies8 : ∀ x, s_treeCopies8.pre x → FnC Tryz.prog glE 4 (s_treeCopies8.args x) (s_treeCopies8.mem x) (s_treeCopies8.res x) (s_treeCopies8.mem' x) := fun x hp => fn_of (.cons (ok_hugeWorld.up glN_glE) (.cons ok_sound8 (.cons ok_tcpY (.cons ok_did8 .nil)))) false Tryz.func4 ((fun _ => []) x) (V := V_treeCopies8 x) (by kernel_rfl) <| (fun ⟨W, a, b, r, g⟩ hp => by
  dsimp only [s_treeCopies8] at hp
  dsimp only [V_treeCopies8, tn, w64]
  simp only [std, stb, eq_self, implies_true, Bool.cond_self]
  try simp only [wd_eta]
  intro h0
  have h0 := sm_of h0
  repeat' (first | exact h0 | exact hp | exact lg_sm h0 | exact trivial | rfl | refine And.intro ?_ ?_ | fail)
  : ∀ x, s_treeCopies8.pre x → V_treeCopies8 x) x hp
structure X_treeCopies where
  (W : Wd) (a b r g : Int)
def s_treeCopies : Sy.Spec := ⟨X_treeCopies, fun ⟨W, a, b, r, g⟩ => [wSV W, .v (.int .i64 a), .v (.int .i64 b), .v (.int .i64 r), .v (.int .i64 g)], fun _ => [], fun _ => True, fun _ => .v (.bool true), fun _ => [],
  fun args mem => match args with | [a0, a1, a2, a3, a4] => some ⟨wSVD a0, intD (a1), intD (a2), intD (a3), intD (a4)⟩ | _ => none⟩
def c_treeCopies : Con := ⟨[], s_treeCopies.g, none⟩
theorem ok_treeCopies : FnOK Tryz.prog glE 4 c_treeCopies := fnOK_of Tryz.call4 fun ⟨W, a, b, r, g⟩ _ => if h : wE W = 0 then fc_treeCopies0 ⟨W, a, b, r, g⟩ (Snd.iff.1 h) else fc_treeCopies8 ⟨W, a, b, r, g⟩ h
end Go.Proofs.YtdjilaofmdhikaaGreatDoor
namespace Go.Proofs.YtdjilaofmdhikaaGreatDoor
open Go.ChangeShapes Go.WideShapes Go.RowKit Go.Sy
theorem K.own : ownKnob Tryz.prog.godebug = none := by kernel_rfl
theorem K.et : Tryz.prog.globalNamed "errors.errorType" = some 0 := by kernel_rfl
theorem K.rt : (Tryz.prog.cutTypes.find? (·.1 == "internal/reflectlite.rtype")).map (·.2) = some 182 := by kernel_rfl
theorem K.oneRow : ((List.range Tryz.prog.types.size).filter fun t => Tryz.prog.rowNamed t [101, 114, 114, 111, 114]) = [31] := by kernel_rfl
theorem K.handle {laid : List (String × DataW Unit)} {W : World} (h : laidMetH Tryz.prog laid W) (hm : ("errors.errorType", Rows.laid_errors_errorType) ∈ laid) : W.cell? ⟨0, 0, none⟩ = some A.eTy := by
  have hf : ("errors.errorType", Rows.laid_errors_errorType) ∈ laid.filter fun x => x.2.handleName?.isSome := List.mem_filter.2 ⟨hm, by rfl⟩
  unfold laidMetH at h
  split at h
  · next e => rw [e] at hf; cases hf
  next x r e =>
  rw [e] at hf
  obtain ⟨name, u, ty, e1, e2, e3, e4, e5⟩ := h.2 _ hf
  have en : name = [101, 114, 114, 111, 114] := (Option.some.inj e1).symm
  subst en
  obtain rfl := Option.some.inj (K.rt.symm.trans e2)
  have hm : ty ∈ (List.range Tryz.prog.types.size).filter fun t => Tryz.prog.rowNamed t [101, 114, 114, 111, 114] := List.mem_filter.2 ⟨List.mem_range.2 e3, e4⟩
  rw [K.oneRow] at hm
  obtain rfl := List.mem_singleton.1 hm
  have hh : typeHandle Tryz.prog 31 = .pointer (some ⟨1, 31, none⟩) := by kernel_rfl
  rw [hh] at e5
  unfold A.eTy
  simpa using World.var?_cell K.et e5 0
noncomputable def K.world (os : Os) : World :=
  let w0 := World.holding Tryz.prog os ⟨#[], #[], []⟩
  { w0 with heap := w0.heap.modify 0 fun
      | .cells _ t frozen => .cells #[A.eTy] t frozen
      | o => o }
theorem K.met (os : Os) (args : Array Value) : laidMetH Tryz.prog [("errors.errorType", Rows.laid_errors_errorType)] ((K.world os).forCall (fun _ _ => 0) ⟨#[], args, []⟩).memory :=
  laidMetH_of_parts (laidMet_nil _ _) (by kernel_rfl)
theorem K.laidOut : laidOutB Tryz.prog = true := by kernel_rfl
theorem K.trodAll {H : Type} {enc : TypeId × Value → H} {P : Program} (hl : laidOutB P = true) {W W' : World} (hb : Below W.heap.size W W') : ∀ {ts : List TypeId} {vs : List Value} {ds : List (DataW H)} {ps : List MemPlace},
    (ts.all fun t => P.readableRec t && decide (t < P.types.size)) = true → DataW.TrodAll enc P W 0 (fun _ => true) true ts vs ds ps → (∀ x ∈ ps, x.block < W.heap.size) → DataW.TrodAll enc P W' 0 (fun b => decide (b < W.heap.size)) true ts vs ds ps
  | [], [], [], _, _, h, _ => h
  | t :: ts, v :: vs, d :: ds, ps, hr, ⟨p, q, h1, h2, e⟩, hlt => by
    subst e
    simp only [List.all_cons, Bool.and_eq_true, decide_eq_true_eq] at hr
    exact ⟨p, q, Below.trod hl hr.1.1 hr.1.2 h1 hb (fun x hx => hlt x (List.mem_append_left _ hx)), K.trodAll hl hb hr.2 h2 (fun x hx => hlt x (List.mem_append_right _ hx)), rfl⟩
theorem K.underlying4 : Tryz.prog.underlying 4 = some .bool := by kernel_rfl
theorem K.len {H : Type} {enc : TypeId × Value → H} {P : Program} {w : World} {base : Nat} {spare : Nat → Bool} {held : Bool} : ∀ {ts : List TypeId} {vs : List Value} {ds : List (DataW H)} {ps : List MemPlace}, DataW.TrodAll enc P w base spare held ts vs ds ps → ds.length = ts.length
  | [], [], [], _, _ => rfl
  | _ :: _, _ :: _, _ :: _, _, ⟨_, _, _, h, _⟩ => by simp [K.len h]
theorem K.noStand {ps : Array TypeId} (h : (ps.toList.all fun t => !Tryz.prog.wantsStandIn t) = true) {j : Nat} {t : TypeId} (ht : ps[j]? = some t) : Tryz.prog.wantsStandIn t = false := by
  have := List.all_eq_true.1 h t (by rw [Array.mem_toList_iff]; exact Array.mem_of_getElem? ht)
  simpa using this
set_option maxRecDepth 100000 in
theorem K.lift {f : FuncId} {fn : Func} {s : ChangeSpec} {X : World → Prop} (hX : ∀ (w w' : World), w.heap = w'.heap → X w → X w') (os : Os) (started : os.Started) (H : Type) (enc : TypeId × Value → H)
    (noInit : Tryz.checked.prog.inits.idxOf? f = none) (hfn : Tryz.checked.prog.funcs[f]? = some fn)
    (hs : ∀ ds : List (DataW H), ds.length = fn.params.toList.length → s.fn H (ds ++ []) = { results := [.lit (.bool true)], args := ds }) (hv : s.vars = []) (hr : fn.resultTypes = #[4])
    (hrow : (fn.params.toList.all fun t => Tryz.prog.readableRec t && decide (t < Tryz.prog.types.size)) = true)
    (witness : ∃ (w : World) (tape : Tape) (i : Input), w.os = os ∧ (w.forCall tape i).Shaped Tryz.prog ∧ i.vars = [] ∧ Input.okWide Tryz.prog (w.forCall tape i) .any w.heap.size f i ∧
      ((s.pre enc Tryz.prog fn [] false (w.forCall tape i).memory i.args ∧ X (w.forCall tape i).memory) ∧ sizedMet enc Tryz.prog fn (OpenSpec.ofChange s) false (w.forCall tape i).memory i.args) ∧ ({} : Assume).holds Tryz.prog (lone (Frame.enter Tryz.prog f i.args .normal) [] (w.forCall tape i)))
    (contract : ∀ (W : World) (base : Nat) (args : Array Value) (ds : List (DataW H)) (p : List MemPlace),
      (∀ (j : Nat) t v, fn.params[j]? = some t → args[j]? = some v → Value.okWide Tryz.prog W .any base t v) →
      DataW.TrodAll enc Tryz.prog W 0 (fun _ => true) true fn.params.toList args.toList ds p → X W → (∀ x ∈ p, x.block < W.heap.size) →
      Calls Tryz.prog f args W fun e W' => e = .returned (.bool true) ∧ Below W.heap.size W W') :
    ReturnsInHanded {} Tryz.checked os f .any (fun w args => (s.pre enc Tryz.prog fn [] false w args ∧ X w) ∧ sizedMet enc Tryz.prog fn (OpenSpec.ofChange s) false w args) (s.post enc Tryz.prog fn false true false false) := by
  refine returnsInHanded_of_change_and (C := Tryz.checked) (X := fun w _ => X w) (fun w w' _ hh h => hX w w' hh h) K.own started noInit hfn witness ?_
  intro W base args ds gs before hval hW _ _ hL _
  have hW' := hW
  obtain ⟨p, q, hA, hV, rfl, hfz, _⟩ := hW
  have hlt : ∀ x ∈ p, x.block < W.heap.size := fun x hx => by simpa using hW'.lt x (List.mem_append_left _ hx)
  obtain ⟨rfl, rfl⟩ : gs = [] ∧ q = [] := by
    rw [hv] at hV
    cases gs with
    | nil => exact ⟨rfl, hV⟩
    | cons g r => exact absurd hV (by intro h; cases h)
  refine (contract W base args ds p hval hA hL hlt).mono fun e W' ⟨he, hb⟩ => ?_
  have e1 := hs ds (K.len hA)
  refine ⟨_, he, _, _, _, [], p, [], hW', ?_, ?_, ?_, hb.frame _, fun h => by cases h⟩
  · rw [e1, hr]; exact trodAll_mk1 (shut_bool K.underlying4 true)
  · rw [e1]; exact K.trodAll K.laidOut hb hrow hA hlt
  · rw [e1, hv]; rfl
theorem K.eT {laid : List (String × DataW Unit)} {W : World} (h : laidMetH Tryz.prog laid W) (hm : ("errors.errorType", Rows.laid_errors_errorType) ∈ laid) : Den W o0.bare (.pt false 1 fun _ => .v A.eTy) (.pointer (some ⟨0, 0, none⟩)) :=
  ⟨_, rfl, fun j hj => ⟨_, by obtain rfl : j = 0 := by omega
                              exact K.handle h hm, ⟨id, fun _ => id⟩, rfl⟩⟩
theorem K.gE {laid : List (String × DataW Unit)} {W : World} (h : laidMetH Tryz.prog laid W) (hm : ("errors.errorType", Rows.laid_errors_errorType) ∈ laid) (g : Nat) : Den W o0.bare (glE g) (.pointer (some ⟨g, 0, none⟩)) := by
  unfold glE
  split
  · exact K.eT h hm
  · trivial
end Go.Proofs.YtdjilaofmdhikaaGreatDoor
