/- Sound worlds: all of it; numbers within bounds. -/
import Derived.Test.YtdjilaofmdhikaaGreatDoorYH
import Derived.Test.YtdjilaofmdhikaaGreatDoorYK
import Derived.Test.YtdjilaofmdhikaaGreatDoorYG
import Derived.Test.YtdjilaofmdhikaaGreatDoorYI
import Derived.OpenShut
import Derived.ChangeArms
import Derived.MakeChecks
import Derived.Lay
import Derived.Test.YtdjilaofmdhikaaGreatDoorTie
import Derived.ChangeSame
import Derived.ChangeVars
import Derived.JoinedOf
import Derived.RowKit
import Derived.LaidLaws
import Derived.LaidHandle
import Derived.Stop.Joined
import Derived.SevenTiedAt
import Derived.OpenVars
import Derived.Test.YtdjilaofmdhikaaGreatDoorCards
set_option linter.unusedVariables false
set_option linter.unusedSimpArgs false
set_option linter.unusedVariables false
set_option linter.unusedSimpArgs false
set_option maxRecDepth 100000
namespace Go.Proofs.YtdjilaofmdhikaaGreatDoor
open Go.RowKit Go.Sy
structure Snd (W : Wd) : Prop where
  z : Szd W
  ram : ∀ i, i < W.nRam → farB (W.ram i) 65535 = false
  kd : ∀ i, i < W.nKinds → (farB (W.kinds i) 8 || W.kinds i == 1) = false
  dm : ∀ i, i < W.nDoms → farB (W.doms i) 3 = false
  sl : ∀ i, i < W.nSlots → slB W i = true
  fr : ∀ i, i < W.nKinds → frB W i = true
  tk : ∀ i, i < W.nKinds → tkB W i = true
  ln : ∀ i, i < W.nKinds → lnB W i = true
  co : ∀ i, i < W.nCores → coB W i = true
  rl : ∀ i, i < W.nReady → rlB W i = true
  en : ∀ i, i < W.nRam → enB W i = true
  tl : ∀ i, i < W.nCores → tlB W (W.tlbsN i) (W.tlbs i) = true
theorem szBad_of {W : Wd} (h : Szd W) : szBad W = false := by
  obtain ⟨h1, h2, h3, h4, h5, h6, h7, h8, h9, h10, h11, h12, h13, h14, h15⟩ := h
  unfold szBad farB
  simp only [Bool.or_eq_false_iff, decide_eq_false_iff_not, bne_eq_false_iff_eq]
  refine ⟨⟨⟨⟨⟨⟨⟨⟨⟨⟨⟨⟨⟨?_, ?_⟩, ?_⟩, ?_⟩, h5⟩, h6⟩, h7⟩, h8⟩, h9⟩, h10⟩, h11⟩, ?_⟩, ?_⟩, ?_, ?_⟩ <;> omega
theorem notN {b : Bool} (h : b = true) : (!b) = false := by rw [h]; rfl
theorem Snd.iff {W : Wd} : wE W = 0 ↔ Snd W := by
  constructor
  · intro h
    unfold wE wm at h
    cases hs : szBad W with
    | true => rw [hs] at h; exact absurd (show (2 : Int) = 0 from h) (by decide)
    | false =>
      rw [hs] at h
      have h : (wm1 W (wm2 W (wm3 W (wm4 W (wm5 W (wm6 W (wm7 W (0, -1)))))))).1 = 0 := h
      have a1 := fstE_zero (by decide) h
      have a2 := fstE_zero (by decide) a1.2
      have a3 := fstE_zero (by decide) a2.2
      have a4 := fstE_zero (by decide) a3.2
      have a5 := fstE_zero (by decide) a4.2
      have a6 := fstE_zero (by decide) a5.2
      have a7 := fstE_zero (by decide) a6.2
      have a8 := fstE_zero (by decide) a7.2
      have a9 := fstE_zero (by decide) a8.2
      have a10 := fstE_zero (by decide) a9.2
      have a11 := fstE_zero (by decide) a10.2
      exact ⟨szd_of hs, a1.1, a2.1, a3.1, fun i hi => notF (a4.1 i hi), fun i hi => notF (a5.1 i hi), fun i hi => notF (a6.1 i hi), fun i hi => notF (a7.1 i hi), fun i hi => notF (a8.1 i hi), fun i hi => notF (a9.1 i hi), fun i hi => notF (a10.1 i hi), fun i hi => notF (a11.1 i hi)⟩
  · intro h
    obtain ⟨z, ram, kd, dm, sl, fr, tk, ln, co, rl, en, tl⟩ := h
    unfold wE wm wm1 wm2 wm3 wm4 wm5 wm6 wm7
    rw [szBad_of z]
    rw [fstE_none ram, fstE_none kd, fstE_none dm, fstE_none fun i hi => notN (sl i hi), fstE_none fun i hi => notN (fr i hi), fstE_none fun i hi => notN (tk i hi), fstE_none fun i hi => notN (ln i hi), fstE_none fun i hi => notN (co i hi), fstE_none fun i hi => notN (rl i hi), fstE_none fun i hi => notN (en i hi), fstE_none fun i hi => notN (tl i hi)]
    rfl
structure TkR (W : Wd) (t : Run) : Prop where
  reg : regFar t = false
  pc : 0 ≤ t.pc ∧ t.pc ≤ 65535
  word : 0 ≤ t.word ∧ t.word ≤ 65535
  badge : 0 ≤ t.badge ∧ t.badge ≤ 65535
  st : 0 ≤ t.st ∧ t.st ≤ 6
  prio : 0 ≤ t.prio ∧ t.prio ≤ 3
  core : 0 ≤ t.core ∧ t.core < W.nCores
  dom : 0 ≤ t.dom ∧ t.dom ≤ 3
  node : -1 ≤ t.node ∧ t.node < W.nKinds
  space : -1 ≤ t.space ∧ t.space < W.nKinds
  helper : -1 ≤ t.helper ∧ t.helper < W.nKinds
  loc : -1 ≤ t.loc ∧ t.loc < W.nKinds
  owes : -1 ≤ t.owes ∧ t.owes < W.nKinds
structure Inv (L : Nat) (W : Wd) : Prop where
  z : Szd W
  ram : ∀ i, i < W.nRam → isW (W.ram i)
  kd : ∀ i, i < W.nKinds → 0 ≤ W.kinds i ∧ W.kinds i ≤ 8
  dm : ∀ i, i < W.nDoms → 0 ≤ W.doms i ∧ W.doms i ≤ 3
  sl : ∀ i, i < W.nSlots → slNo (W.slots i) = 0 ∧ ((W.slots i).kind ≠ 0 → (W.slots i).base + (W.slots i).len ≤ W.nKinds) ∧ -1 ≤ (W.slots i).from_ ∧ (W.slots i).from_ < W.nSlots
  tk : ∀ i, i < W.nTasks → TkR W (W.tasks i)
  ln : ∀ i, i < W.nLines → W.linesN i ≤ L ∧ ∀ k, k < W.linesN i → 0 ≤ W.lines i k ∧ W.lines i k < W.nTasks
  rd : ∀ i, i < W.nReady → W.readyN i ≤ L ∧ ∀ k, k < W.readyN i → 0 ≤ W.ready i k ∧ W.ready i k < W.nTasks
  co : ∀ c, c < W.nCores → -1 ≤ W.cores c ∧ W.cores c < W.nTasks
  bt : ∀ i, i < W.nBits → 0 ≤ W.bits i ∧ W.bits i ≤ 65535
  tl : ∀ c, c < W.nTlbs → W.tlbsN c ≤ L
end Go.Proofs.YtdjilaofmdhikaaGreatDoor
set_option linter.unusedVariables false
set_option linter.unusedSimpArgs false
set_option maxRecDepth 100000
namespace Go.Proofs.YtdjilaofmdhikaaGreatDoor
open Go.RowKit Go.Sy
structure X_is where
  (e a x y : Int)
def s_is : Sy.Spec := ⟨X_is, fun ⟨e, a, x, y⟩ => [.er 35 116 e a, .ag 2 (lsv [.v (.int .i64 x), .v (.int .i64 y)])], fun _ => [], fun _ => True, fun ⟨e, a, x, y⟩ => .v (.bool (e == x && a == y)), fun _ => [],
  fun args mem => match args with | [a0, a1] => some ⟨erE a0, erA a0, intD (agD a1 0), intD (agD a1 1)⟩ | _ => none⟩
def c_is : Con := ⟨[], s_is.g, none⟩
def V_is : X_is → Prop := fun ⟨e, a, x, y⟩ => True∧(((e=e∧a=a)∧True)∧True∧True)∧cond (e==x) (a==y) false=(e==x&&a==y)∧True
theorem ok_is : FnOK Tryz.prog glE 27 c_is := ok_of (.cons ok_tell .nil) false Tryz.call27 Tryz.func27 (fun _ => []) (V := V_is) (fun _ => by kernel_rfl) fun ⟨e, a, x, y⟩ hp => by
  dsimp only [V_is, tn, w64]
  exact ⟨trivial, by simp, by cases e == x <;> rfl, trivial⟩
end Go.Proofs.YtdjilaofmdhikaaGreatDoor
set_option linter.unusedVariables false
set_option linter.unusedSimpArgs false
set_option maxRecDepth 100000
namespace Go.Proofs.YtdjilaofmdhikaaGreatDoor
open Go.RowKit Go.Sy
def wRd (W : Wd) : SV := .ag 11 (lsv [.sl false 1 W.nRam (iF W.ram), .sl false 1 W.nKinds (iF W.kinds), .sl false 7 W.nSlots (rF fun i => slL (W.slots i)), .sl false 20 W.nTasks (rF fun i => runL (W.tasks i)), .sl false 1 W.nLines (fun i _ => .sl false 1 (W.linesN i) (iF (W.lines i))), .sl false 1 W.nBits (iF W.bits), .sl false 1 W.nCores (iF W.cores), .sl false 1 W.nReady (fun i _ => .sl false 1 (W.readyN i) (iF (W.ready i))), .sl false 1 W.nTlbs (fun i _ => .sl false 4 (W.tlbsN i) (rF fun k => enL (W.tlbs i k))), .sl false 1 W.nDoms (iF W.doms), .v (.int .i64 W.time)])
def oW : Wd := ⟨0, fun _ => 0, 0, fun _ => 0, 0, fun _ => zSl, 0, fun _ => Run.blank, 0, fun _ => 0, fun _ _ => 0, 0, fun _ => 0, 0, fun _ => 0, 0, fun _ => 0, fun _ _ => 0, 0, fun _ => 0, fun _ _ => zEn, 0, fun _ => 0, 0⟩
def gdW (e : Int) (W : Wd) : Wd := bif e == 0 then W else oW
theorem gdW_no {e : Int} (W : Wd) (h : (e == 0) = false) : gdW e W = oW := by unfold gdW; rw [h]; rfl
theorem gdW_yes {e : Int} (W : Wd) (h : (e == 0) = true) : gdW e W = W := by unfold gdW; rw [h]; rfl
theorem sameB_refl (n : Nat) (f : Nat → Int) : sameB n f n f = true := by simp [sameB, allB_iff]
theorem sameLL_refl (n : Nat) (k : Nat → Nat) (f : Nat → Nat → Int) : sameLL n k f n k f = true := by simp [sameLL, allB_iff, sameB_refl]
theorem sameEn_refl (n : Nat) (f : Nat → Ent4) : sameEn n f n f = true := by simp [sameEn, allB_iff, enEq]
theorem sameW_refl (W : Wd) : sameW W W = true := by simp [sameW, sameB_refl, sameLL_refl, sameEn_refl, allB_iff, slEq, runEq]
theorem lg_sm {W : Wd} (h : Sm W) : Lg W := by
  obtain ⟨h1, h2, h3, h4, h5, h6, h7, h8, h9, h10, h11, h12, h13⟩ := h
  exact ⟨h1, by omega, h3, by omega, by omega, by omega, by omega, by omega, by omega, by omega, fun i hi => by have := h11 i hi; omega, fun i hi => by have := h12 i hi; omega, fun i hi => by have := h13 i hi; omega⟩
theorem pre_snd {W : Wd} (h : Snd W) : W.nSlots ≤ 100000 ∧ W.nSlots ≤ W.nKinds * 16 := by
  have hz := h.z
  have h1 := hz.k1
  have h2 := hz.slots
  omega
theorem snd0 {W : Wd} (h : Snd W) : wE W = 0 := Snd.iff.2 h
structure X_nothing where
  (A : Wd)
def s_nothing : Sy.Spec := ⟨X_nothing, fun ⟨A⟩ => [wSV A], fun _ => [], fun ⟨A⟩ => A.nRam = 0 ∧ A.nKinds = 0 ∧ A.nSlots = 0 ∧ A.nTasks = 0 ∧ A.nLines = 0 ∧ A.nBits = 0 ∧ A.nCores = 0 ∧ A.nReady = 0 ∧ A.nTlbs = 0 ∧ A.nDoms = 0 ∧ A.time = 0, fun _ => .v (.bool true), fun _ => [],
  fun args mem => match args with | [a0] => some ⟨wSVD a0⟩ | _ => none⟩
def c_nothing : Con := ⟨[], s_nothing.g, none⟩
def V_nothing : X_nothing → Prop := fun ⟨A⟩ => let a0:Int:=((A.nRam:Nat):Int)+((A.nKinds:Nat):Int);let b0:Int:=a0+((A.nSlots:Nat):Int);let c0:Int:=b0+((A.nTasks:Nat):Int);let d0:Int:=c0+((A.nLines:Nat):Int);let e0:Int:=d0+((A.nBits:Nat):Int);let g0:Int:=e0+((A.nCores:Nat):Int);let h0:Int:=g0+((A.nReady:Nat):Int);let k0:Int:=h0+((A.nTlbs:Nat):Int);let l0:Int:=k0+((A.nDoms:Nat):Int);let o0:Int:=l0+A.time;True∧(((A.nRam:Nat):Int)≤9223372036854775807→((A.nKinds:Nat):Int)≤9223372036854775807→w64 a0=a0∧(((A.nSlots:Nat):Int)≤9223372036854775807→w64 b0=b0∧(((A.nTasks:Nat):Int)≤9223372036854775807→w64 c0=c0∧(((A.nLines:Nat):Int)≤9223372036854775807→w64 d0=d0∧(((A.nBits:Nat):Int)≤9223372036854775807→w64 e0=e0∧(((A.nCores:Nat):Int)≤9223372036854775807→w64 g0=g0∧(((A.nReady:Nat):Int)≤9223372036854775807→w64 h0=h0∧(((A.nTlbs:Nat):Int)≤9223372036854775807→w64 k0=k0∧(((A.nDoms:Nat):Int)≤9223372036854775807→w64 l0=l0∧w64 o0=o0∧(o0==0)=true∧True)))))))))
theorem ok_nothing : FnOK Tryz.prog glE 70 c_nothing := ok_of .nil false Tryz.call70 Tryz.func70 (fun _ => []) (V := V_nothing) (fun _ => by kernel_rfl) fun ⟨A⟩ hp => by
  dsimp only [s_nothing] at hp
  dsimp only [V_nothing, tn, w64]
  obtain ⟨h1, h2, h3, h4, h5, h6, h7, h8, h9, h10, h11⟩ := hp
  simp [h1, h2, h3, h4, h5, h6, h7, h8, h9, h10, h11, IntKind.wrap_i64]
structure X_soundR where
  (W : Wd)
def s_soundR : Sy.Spec := ⟨X_soundR, fun ⟨W⟩ => [wSV W], fun _ => [], fun ⟨W⟩ => Sm W, fun ⟨W⟩ => .v (.bool (wE W == 0)), fun _ => [],
  fun args mem => match args with | [a0] => some ⟨wSVD a0⟩ | _ => none⟩
def c_soundR : Con := ⟨[], s_soundR.g, none⟩
def V_soundR : X_soundR → Prop := fun ⟨W⟩ => let a0:=W.nKinds;let b0:=W.nSlots;let c0:=W.nTasks;let d0:=W.nLines;let e0:=W.nCores;let g0:=W.nReady;True∧(((((((((((((True∧W.nRam=W.nRam∧(∀h0:Nat,h0<W.nRam→True∧W.ram h0=W.ram h0))∧a0=a0∧(∀k0:Nat,k0<a0→True∧W.kinds k0=W.kinds k0))∧b0=b0∧(∀l0:Nat,let o0:=W.slots l0;let q0:=o0.kind;let u0:=o0.base;let v0:=o0.len;let w0:=o0.mark;let x0:=o0.rights;let y0:=o0.badge;let z0:=o0.from_;l0<b0→((((((True∧q0=q0)∧u0=u0)∧v0=v0)∧w0=w0)∧x0=x0)∧y0=y0)∧z0=z0))∧c0=c0∧(∀a1:Nat,let b1:=W.tasks a1;let c1:=b1.prio;let d1:=b1.node;let e1:=b1.space;let g1:=b1.helper;let h1:=b1.loc;let k1:=b1.word;let l1:=b1.badge;let o1:=b1.owes;let q1:=b1.core;let u1:=b1.dom;a1<c0→(((((((((((((((((((True∧b1.r0=b1.r0)∧b1.r1=b1.r1)∧b1.r2=b1.r2)∧b1.r3=b1.r3)∧b1.r4=b1.r4)∧b1.r5=b1.r5)∧b1.r6=b1.r6)∧b1.r7=b1.r7)∧b1.pc=b1.pc)∧b1.st=b1.st)∧c1=c1)∧d1=d1)∧e1=e1)∧g1=g1)∧h1=h1)∧k1=k1)∧l1=l1)∧o1=o1)∧q1=q1)∧u1=u1))∧d0=d0∧(∀v1:Nat,let w1:=W.linesN v1;v1<d0→True∧w1=w1∧(∀x1:Nat,x1<w1→True∧W.lines v1 x1=W.lines v1 x1)))∧W.nBits=W.nBits∧(∀y1:Nat,y1<W.nBits→True∧W.bits y1=W.bits y1))∧e0=e0∧(∀z1:Nat,z1<e0→True∧W.cores z1=W.cores z1))∧g0=g0∧(∀a2:Nat,let b2:=W.readyN a2;a2<g0→True∧b2=b2∧(∀c2:Nat,c2<b2→True∧W.ready a2 c2=W.ready a2 c2)))∧W.nTlbs=W.nTlbs∧(∀d2:Nat,let e2:=W.tlbsN d2;d2<W.nTlbs→True∧e2=e2∧(∀g2:Nat,let h2:=W.tlbs d2 g2;let k2:=h2.sp;let l2:=h2.pg;let o2:=h2.fr;let q2:=h2.wr;g2<e2→(((True∧k2=k2)∧l2=l2)∧o2=o2)∧q2=q2)))∧W.nDoms=W.nDoms∧(∀u2:Nat,u2<W.nDoms→True∧W.doms u2=W.doms u2))∧W.time=W.time)∧True)∧True∧
    s_worldMay.match_1 (fun v2:X_worldMay=>Prop) (X_worldMay.mk W) (fun w2:Wd=>Sm w2))∧(wE W==0)=(wE W==0)∧True
set_option maxHeartbeats 1000000 in
theorem ok_soundR : FnOK Tryz.prog glE 72 c_soundR := ok_of (.cons (ok_worldMay.up glN_glE) .nil) false Tryz.call72 Tryz.func72 (fun _ => []) (V := V_soundR) (fun _ => by kernel_rfl) fun ⟨W⟩ hp => by
  dsimp only [s_soundR] at hp
  dsimp only [V_soundR, tn, w64]
  simp only [std, stb, eq_self, implies_true, Bool.cond_self]
  exact hp
structure X_sound0 where
  (W : Wd)
def s_sound0 : Sy.Spec := ⟨X_sound0, fun ⟨W⟩ => [wSV W], fun _ => [], fun ⟨W⟩ => Sm W ∧ Snd W, fun _ => .v (.int .i64 0), fun _ => [],
  fun args mem => match args with | [a0] => some ⟨wSVD a0⟩ | _ => none⟩
def c_sound0 : Con := ⟨[], s_sound0.g, none⟩
def V_sound0 : X_sound0 → Prop := fun ⟨W⟩ => let a0:=W.nKinds;let b0:=W.nSlots;let c0:=W.nTasks;let d0:=W.nLines;let e0:=W.nCores;let g0:=W.nReady;True∧(((((((((((((True∧W.nRam=W.nRam∧(∀h0:Nat,h0<W.nRam→True∧W.ram h0=W.ram h0))∧a0=a0∧(∀k0:Nat,k0<a0→True∧W.kinds k0=W.kinds k0))∧b0=b0∧(∀l0:Nat,let o0:=W.slots l0;let q0:=o0.kind;let u0:=o0.base;let v0:=o0.len;let w0:=o0.mark;let x0:=o0.rights;let y0:=o0.badge;let z0:=o0.from_;l0<b0→((((((True∧q0=q0)∧u0=u0)∧v0=v0)∧w0=w0)∧x0=x0)∧y0=y0)∧z0=z0))∧c0=c0∧(∀a1:Nat,let b1:=W.tasks a1;let c1:=b1.prio;let d1:=b1.node;let e1:=b1.space;let g1:=b1.helper;let h1:=b1.loc;let k1:=b1.word;let l1:=b1.badge;let o1:=b1.owes;let q1:=b1.core;let u1:=b1.dom;a1<c0→(((((((((((((((((((True∧b1.r0=b1.r0)∧b1.r1=b1.r1)∧b1.r2=b1.r2)∧b1.r3=b1.r3)∧b1.r4=b1.r4)∧b1.r5=b1.r5)∧b1.r6=b1.r6)∧b1.r7=b1.r7)∧b1.pc=b1.pc)∧b1.st=b1.st)∧c1=c1)∧d1=d1)∧e1=e1)∧g1=g1)∧h1=h1)∧k1=k1)∧l1=l1)∧o1=o1)∧q1=q1)∧u1=u1))∧d0=d0∧(∀v1:Nat,let w1:=W.linesN v1;v1<d0→True∧w1=w1∧(∀x1:Nat,x1<w1→True∧W.lines v1 x1=W.lines v1 x1)))∧W.nBits=W.nBits∧(∀y1:Nat,y1<W.nBits→True∧W.bits y1=W.bits y1))∧e0=e0∧(∀z1:Nat,z1<e0→True∧W.cores z1=W.cores z1))∧g0=g0∧(∀a2:Nat,let b2:=W.readyN a2;a2<g0→True∧b2=b2∧(∀c2:Nat,c2<b2→True∧W.ready a2 c2=W.ready a2 c2)))∧W.nTlbs=W.nTlbs∧(∀d2:Nat,let e2:=W.tlbsN d2;d2<W.nTlbs→True∧e2=e2∧(∀g2:Nat,let h2:=W.tlbs d2 g2;let k2:=h2.sp;let l2:=h2.pg;let o2:=h2.fr;let q2:=h2.wr;g2<e2→(((True∧k2=k2)∧l2=l2)∧o2=o2)∧q2=q2)))∧W.nDoms=W.nDoms∧(∀u2:Nat,u2<W.nDoms→True∧W.doms u2=W.doms u2))∧W.time=W.time)∧True)∧True∧
    s_soundR.match_1 (fun v2:X_soundR=>Prop) (X_soundR.mk W) (fun w2:Wd=>Sm w2))∧((wE W==0)=true→(0:Int)=0∧True)∧((wE W==0)=false→(8:Int)=0∧True)
set_option maxHeartbeats 1000000 in
theorem ok_sound0 : FnOK Tryz.prog glE 16 c_sound0 := ok_of (.cons ok_soundR .nil) false Tryz.call16 Tryz.func16 (fun _ => []) (V := V_sound0) (fun _ => by kernel_rfl) fun ⟨W⟩ hp => by
  dsimp only [s_sound0] at hp
  dsimp only [V_sound0, tn, w64]
  simp only [std, stb, eq_self, implies_true, Bool.cond_self]
  exact ⟨hp.1, fun h => by rw [snd0 hp.2] at h; exact absurd h (by decide)⟩
structure X_sound8 where
  (W : Wd)
def s_sound8 : Sy.Spec := ⟨X_sound8, fun ⟨W⟩ => [wSV W], fun _ => [], fun ⟨W⟩ => Sm W ∧ wE W ≠ 0, fun _ => .v (.int .i64 8), fun _ => [],
  fun args mem => match args with | [a0] => some ⟨wSVD a0⟩ | _ => none⟩
def c_sound8 : Con := ⟨[], s_sound8.g, none⟩
def V_sound8 : X_sound8 → Prop := fun ⟨W⟩ => let a0:=W.nKinds;let b0:=W.nSlots;let c0:=W.nTasks;let d0:=W.nLines;let e0:=W.nCores;let g0:=W.nReady;True∧(((((((((((((True∧W.nRam=W.nRam∧(∀h0:Nat,h0<W.nRam→True∧W.ram h0=W.ram h0))∧a0=a0∧(∀k0:Nat,k0<a0→True∧W.kinds k0=W.kinds k0))∧b0=b0∧(∀l0:Nat,let o0:=W.slots l0;let q0:=o0.kind;let u0:=o0.base;let v0:=o0.len;let w0:=o0.mark;let x0:=o0.rights;let y0:=o0.badge;let z0:=o0.from_;l0<b0→((((((True∧q0=q0)∧u0=u0)∧v0=v0)∧w0=w0)∧x0=x0)∧y0=y0)∧z0=z0))∧c0=c0∧(∀a1:Nat,let b1:=W.tasks a1;let c1:=b1.prio;let d1:=b1.node;let e1:=b1.space;let g1:=b1.helper;let h1:=b1.loc;let k1:=b1.word;let l1:=b1.badge;let o1:=b1.owes;let q1:=b1.core;let u1:=b1.dom;a1<c0→(((((((((((((((((((True∧b1.r0=b1.r0)∧b1.r1=b1.r1)∧b1.r2=b1.r2)∧b1.r3=b1.r3)∧b1.r4=b1.r4)∧b1.r5=b1.r5)∧b1.r6=b1.r6)∧b1.r7=b1.r7)∧b1.pc=b1.pc)∧b1.st=b1.st)∧c1=c1)∧d1=d1)∧e1=e1)∧g1=g1)∧h1=h1)∧k1=k1)∧l1=l1)∧o1=o1)∧q1=q1)∧u1=u1))∧d0=d0∧(∀v1:Nat,let w1:=W.linesN v1;v1<d0→True∧w1=w1∧(∀x1:Nat,x1<w1→True∧W.lines v1 x1=W.lines v1 x1)))∧W.nBits=W.nBits∧(∀y1:Nat,y1<W.nBits→True∧W.bits y1=W.bits y1))∧e0=e0∧(∀z1:Nat,z1<e0→True∧W.cores z1=W.cores z1))∧g0=g0∧(∀a2:Nat,let b2:=W.readyN a2;a2<g0→True∧b2=b2∧(∀c2:Nat,c2<b2→True∧W.ready a2 c2=W.ready a2 c2)))∧W.nTlbs=W.nTlbs∧(∀d2:Nat,let e2:=W.tlbsN d2;d2<W.nTlbs→True∧e2=e2∧(∀g2:Nat,let h2:=W.tlbs d2 g2;let k2:=h2.sp;let l2:=h2.pg;let o2:=h2.fr;let q2:=h2.wr;g2<e2→(((True∧k2=k2)∧l2=l2)∧o2=o2)∧q2=q2)))∧W.nDoms=W.nDoms∧(∀u2:Nat,u2<W.nDoms→True∧W.doms u2=W.doms u2))∧W.time=W.time)∧True)∧True∧
    s_soundR.match_1 (fun v2:X_soundR=>Prop) (X_soundR.mk W) (fun w2:Wd=>Sm w2))∧((wE W==0)=true→(0:Int)=8∧True)∧((wE W==0)=false→(8:Int)=8∧True)
set_option maxHeartbeats 1000000 in
theorem ok_sound8 : FnOK Tryz.prog glE 16 c_sound8 := ok_of (.cons ok_soundR .nil) false Tryz.call16 Tryz.func16 (fun _ => []) (V := V_sound8) (fun _ => by kernel_rfl) fun ⟨W⟩ hp => by
  dsimp only [s_sound8] at hp
  dsimp only [V_sound8, tn, w64]
  simp only [std, stb, eq_self, implies_true, Bool.cond_self]
  exact ⟨hp.1, fun h => absurd (eq_of_beq h) hp.2⟩
structure X_done8 where
  (W : Wd)
def s_done8 : Sy.Spec := ⟨X_done8, fun ⟨W⟩ => [wSV W, .junk], fun _ => [], fun ⟨W⟩ => Sm W ∧ wE W ≠ 0, fun _ => .tp 2 (lsv [wRd oW, .er 35 116 8 (-1)]), fun _ => [],
  fun args mem => match args with | [a0, a1] => some ⟨wSVD a0⟩ | _ => none⟩
def c_done8 : Con := ⟨[], s_done8.g, none⟩
def V_done8 : X_done8 → Prop := fun ⟨W⟩ => let a0:=W.nKinds;let b0:=W.nSlots;let c0:=W.nTasks;let d0:=W.nLines;let e0:=W.nCores;let g0:=W.nReady;let h0:=0=0;tn 2 ((((((((((((((True∧W.nRam=W.nRam∧(∀k0:Nat,k0<W.nRam→True∧W.ram k0=W.ram k0))∧a0=a0∧(∀l0:Nat,l0<a0→True∧W.kinds l0=W.kinds l0))∧b0=b0∧(∀o0:Nat,let q0:=W.slots o0;let u0:=q0.kind;let v0:=q0.base;let w0:=q0.len;let x0:=q0.mark;let y0:=q0.rights;let z0:=q0.badge;let a1:=q0.from_;o0<b0→((((((True∧u0=u0)∧v0=v0)∧w0=w0)∧x0=x0)∧y0=y0)∧z0=z0)∧a1=a1))∧c0=c0∧(∀b1:Nat,let c1:=W.tasks b1;let d1:=c1.prio;let e1:=c1.node;let g1:=c1.space;let h1:=c1.helper;let k1:=c1.loc;let l1:=c1.word;let o1:=c1.badge;let q1:=c1.owes;let u1:=c1.core;let v1:=c1.dom;b1<c0→(((((((((((((((((((True∧c1.r0=c1.r0)∧c1.r1=c1.r1)∧c1.r2=c1.r2)∧c1.r3=c1.r3)∧c1.r4=c1.r4)∧c1.r5=c1.r5)∧c1.r6=c1.r6)∧c1.r7=c1.r7)∧c1.pc=c1.pc)∧c1.st=c1.st)∧d1=d1)∧e1=e1)∧g1=g1)∧h1=h1)∧k1=k1)∧l1=l1)∧o1=o1)∧q1=q1)∧u1=u1)∧v1=v1))∧d0=d0∧(∀w1:Nat,let x1:=W.linesN w1;w1<d0→True∧x1=x1∧(∀y1:Nat,y1<x1→True∧W.lines w1 y1=W.lines w1 y1)))∧W.nBits=W.nBits∧(∀z1:Nat,z1<W.nBits→True∧W.bits z1=W.bits z1))∧e0=e0∧(∀a2:Nat,a2<e0→True∧W.cores a2=W.cores a2))∧g0=g0∧(∀b2:Nat,let c2:=W.readyN b2;b2<g0→True∧c2=c2∧(∀d2:Nat,d2<c2→True∧W.ready b2 d2=W.ready b2 d2)))∧W.nTlbs=W.nTlbs∧(∀e2:Nat,let g2:=W.tlbsN e2;e2<W.nTlbs→True∧g2=g2∧(∀h2:Nat,let k2:=W.tlbs e2 h2;let l2:=k2.sp;let o2:=k2.pg;let q2:=k2.fr;let u2:=k2.wr;h2<g2→(((True∧l2=l2)∧o2=o2)∧q2=q2)∧u2=u2)))∧W.nDoms=W.nDoms∧(∀v2:Nat,v2<W.nDoms→True∧W.doms v2=W.doms v2))∧W.time=W.time)∧True)∧True∧
    s_wCheck.match_1 (fun w2:X_wCheck=>Prop) (X_wCheck.mk W) (fun x2:Wd=>Sm x2))∧((wE W !=0)=true→tn 10 True∧((True∧((((((((((True∧h0)∧h0)∧h0)∧h0)∧h0)∧h0)∧h0)∧h0)∧h0)∧h0)∧(0:Int)=0)∧(8:Int)≠0∧(8:Int)=8∧((-1):Int)=(-1))∧True)∧((wE W !=0)=false→False))
set_option maxHeartbeats 1000000 in
theorem ok_done8 : FnOK Tryz.prog glE 66 c_done8 := ok_of (.cons (ok_wCheck.up glN_glE) .nil) false Tryz.call66 Tryz.func66 (fun _ => []) (V := V_done8) (fun _ => by kernel_rfl) fun ⟨W⟩ hp => by
  dsimp only [s_done8] at hp
  dsimp only [V_done8, tn, w64]
  simp only [std, stb, eq_self, implies_true, Bool.cond_self]
  exact ⟨hp.1, fun _ => by decide, fun h => absurd (by simpa using h) hp.2⟩
structure X_did8 where
  (W : Wd)
def s_did8 : Sy.Spec := ⟨X_did8, fun ⟨W⟩ => [wRd oW, .er 35 116 8 (-1), wSV W, .v (.int .i64 8), .junk], fun _ => [], fun ⟨W⟩ => Lg W, fun _ => .v (.bool true), fun _ => [],
  fun args mem => match args with | [a0, a1, a2, a3, a4] => some ⟨wSVD a2⟩ | _ => none⟩
def c_did8 : Con := ⟨[], s_did8.g, none⟩
def V_did8 : X_did8 → Prop := fun ⟨W⟩ => let a0:=W.nRam;let b0:=a0=a0;let c0:=W.nKinds;let d0:=c0=c0;let e0:=W.nSlots;let g0:=e0=e0;let h0:=W.nTasks;let k0:=h0=h0;let l0:=W.nLines;let o0:=l0=l0;let q0:=W.nBits;let u0:=q0=q0;let v0:=W.nCores;let w0:=v0=v0;let x0:=W.nReady;let y0:=x0=x0;let z0:=W.nTlbs;let a1:=z0=z0;let b1:=W.nDoms;let c1:=b1=b1;let d1:=W.time=W.time;let e1:=True∧True;let g1:=(8:Int)==0;let h1:=g1=true;let k1:=(8:Int)=8;let l1:=((-1):Int)=(-1);let o1:=(8:Int)==8&&((-1):Int)==(-1);let q1:=0=0;let u1:=(0:Int)=0;let v1:=True∧u1;let w1:=q1∧(∀x1:Nat,x1<0→v1);let y1:=True∧w1;let z1:=(v1∧u1)∧u1;let a2:=(((z1∧u1)∧u1)∧u1)∧u1;let b2:=q1∧(∀c2:Nat,c2<0→y1);let d2:=(((((((((y1∧w1)∧q1∧(∀e2:Nat,e2<0→a2))∧q1∧(∀g2:Nat,g2<0→((((((((((((a2∧u1)∧u1)∧u1)∧u1)∧l1)∧l1)∧l1)∧l1)∧u1)∧u1)∧l1)∧u1)∧u1))∧b2)∧w1)∧w1)∧b2)∧q1∧(∀h2:Nat,h2<0→True∧q1∧(∀k2:Nat,k2<0→z1∧false=false)))∧w1)∧u1;tn 2 ((((((((((((((True∧b0∧(∀l2:Nat,l2<a0→True∧W.ram l2=W.ram l2))∧d0∧(∀o2:Nat,o2<c0→True∧W.kinds o2=W.kinds o2))∧g0∧(∀q2:Nat,let u2:=W.slots q2;let v2:=u2.kind;let w2:=u2.base;let x2:=u2.len;let y2:=u2.mark;let z2:=u2.rights;let a3:=u2.badge;let b3:=u2.from_;q2<e0→((((((True∧v2=v2)∧w2=w2)∧x2=x2)∧y2=y2)∧z2=z2)∧a3=a3)∧b3=b3))∧k0∧(∀c3:Nat,let d3:=W.tasks c3;let e3:=d3.prio;let g3:=d3.node;let h3:=d3.space;let k3:=d3.helper;let l3:=d3.loc;let o3:=d3.word;let q3:=d3.badge;let u3:=d3.owes;let v3:=d3.core;let w3:=d3.dom;c3<h0→(((((((((((((((((((True∧d3.r0=d3.r0)∧d3.r1=d3.r1)∧d3.r2=d3.r2)∧d3.r3=d3.r3)∧d3.r4=d3.r4)∧d3.r5=d3.r5)∧d3.r6=d3.r6)∧d3.r7=d3.r7)∧
    d3.pc=d3.pc)∧d3.st=d3.st)∧e3=e3)∧g3=g3)∧h3=h3)∧k3=k3)∧l3=l3)∧o3=o3)∧q3=q3)∧u3=u3)∧v3=v3)∧w3=w3))∧o0∧(∀x3:Nat,let y3:=W.linesN x3;x3<l0→True∧y3=y3∧(∀z3:Nat,z3<y3→True∧W.lines x3 z3=W.lines x3 z3)))∧u0∧(∀a4:Nat,a4<q0→True∧W.bits a4=W.bits a4))∧w0∧(∀b4:Nat,b4<v0→True∧W.cores b4=W.cores b4))∧y0∧(∀c4:Nat,let d4:=W.readyN c4;c4<x0→True∧d4=d4∧(∀e4:Nat,e4<d4→True∧W.ready c4 e4=W.ready c4 e4)))∧a1∧(∀g4:Nat,let h4:=W.tlbsN g4;g4<z0→True∧h4=h4∧(∀k4:Nat,let l4:=W.tlbs g4 k4;let o4:=l4.sp;let q4:=l4.pg;let u4:=l4.fr;let v4:=l4.wr;k4<h4→(((True∧o4=o4)∧q4=q4)∧u4=u4)∧v4=v4)))∧c1∧(∀w4:Nat,w4<b1→True∧W.doms w4=W.doms w4))∧d1)∧True)∧True∧s_copyW.match_1 (fun x4:X_copyW=>Prop) (X_copyW.mk W) (fun y4:Wd=>Lg y4))∧True∧tn 9 e1∧(h1→False)∧(g1=false→(((8:Int) !=0)=true→((k1∧True)∧e1)∧(((k1∧l1)∧((True∧k1)∧l1)∧True)∧e1)∧(o1=true→(d2∧True)∧True∧q1∧q1∧q1∧q1∧q1∧q1∧q1∧q1∧q1∧q1∧u1)∧cond o1 true false=true∧True)∧(((8:Int) !=0)=false→(h1→(d2∧(((((((((((True∧b0∧(∀z4:Nat,z4<a0→True∧W.ram (0+z4)=W.ram (0+z4)))∧d0∧(∀a5:Nat,let b5:=W.kinds (0+a5);a5<c0→True∧b5=b5))∧g0∧(∀c5:Nat,let d5:=W.slots (0+c5);let e5:=d5.kind;let g5:=d5.base;let h5:=d5.len;let k5:=d5.mark;let l5:=d5.rights;let o5:=d5.badge;let q5:=d5.from_;c5<e0→((((((True∧e5=e5)∧g5=g5)∧h5=h5)∧k5=k5)∧l5=l5)∧o5=o5)∧q5=q5))∧k0∧(∀u5:Nat,let v5:=W.tasks (0+u5);let w5:=v5.r0;let x5:=v5.r1;let y5:=v5.r2;let z5:=v5.r3;let a6:=v5.r4;let b6:=v5.r5;let c6:=v5.r6;let d6:=v5.r7;let e6:=v5.pc;let g6:=v5.st;let h6:=v5.prio;let k6:=v5.node;let l6:=v5.space;
    let o6:=v5.helper;let q6:=v5.loc;let u6:=v5.word;let v6:=v5.badge;let w6:=v5.owes;let x6:=v5.core;let y6:=v5.dom;u5<h0→(((((((((((((((((((True∧w5=w5)∧x5=x5)∧y5=y5)∧z5=z5)∧a6=a6)∧b6=b6)∧c6=c6)∧d6=d6)∧e6=e6)∧g6=g6)∧h6=h6)∧k6=k6)∧l6=l6)∧o6=o6)∧q6=q6)∧u6=u6)∧v6=v6)∧w6=w6)∧x6=x6)∧y6=y6))∧o0∧(∀z6:Nat,let a7:=W.linesN (0+z6);z6<l0→True∧a7=a7∧(∀b7:Nat,let c7:=W.lines (0+z6) (0+b7);b7<a7→True∧c7=c7)))∧u0∧(∀d7:Nat,d7<q0→True∧W.bits (0+d7)=W.bits (0+d7)))∧w0∧(∀e7:Nat,let g7:=W.cores (0+e7);e7<v0→True∧g7=g7))∧y0∧(∀h7:Nat,let k7:=W.readyN (0+h7);h7<x0→True∧k7=k7∧(∀l7:Nat,let o7:=W.ready (0+h7) (0+l7);l7<k7→True∧o7=o7)))∧a1∧(∀q7:Nat,let u7:=0+q7;let v7:=W.tlbsN u7;q7<z0→True∧v7=v7∧(∀w7:Nat,let x7:=W.tlbs u7 (0+w7);let y7:=x7.sp;let z7:=x7.pg;let a8:=x7.fr;let b8:=x7.wr;w7<v7→(((True∧y7=y7)∧z7=z7)∧a8=a8)∧b8=b8)))∧c1∧(∀c8:Nat,c8<b1→True∧W.doms (0+c8)=W.doms (0+c8)))∧d1)∧True)∧e1)∧
    cond g1 (sameW (Wd.mk 0 (fun d8:Nat=>0) 0 (fun e8:Nat=>0) 0 (fun g8:Nat=>Slt.mk 0 0 0 0 0 0 0) 0 (fun h8:Nat=>Run.mk 0 0 0 0 0 0 0 0 0 0 0 (-1) (-1) (-1) (-1) 0 0 (-1) 0 0) 0 (fun k8:Nat=>0) (fun l8:Nat=>fun o8:Nat=>0) 0 (fun q8:Nat=>0) 0 (fun r8:Nat=>0) 0 (fun u8:Nat=>0) (fun v8:Nat=>fun w8:Nat=>0) 0 (fun x8:Nat=>0) (fun y8:Nat=>fun z8:Nat=>Ent4.mk 0 0 0 false) 0 (fun a9:Nat=>0) 0) (Wd.mk a0 (fun b9:Nat=>W.ram (0+b9)) c0 (fun c9:Nat=>W.kinds (0+c9)) e0 (fun d9:Nat=>W.slots (0+d9)) h0 (fun e9:Nat=>W.tasks (0+e9)) l0 (fun g9:Nat=>W.linesN (0+g9)) (fun h9:Nat=>fun k9:Nat=>W.lines (0+h9) (0+k9)) q0 (fun l9:Nat=>W.bits (0+l9)) v0 (fun o9:Nat=>W.cores (0+o9)) x0 (fun q9:Nat=>W.readyN (0+q9)) (fun r9:Nat=>fun u9:Nat=>W.ready (0+r9) (0+u9)) z0 (fun v9:Nat=>W.tlbsN (0+v9)) (fun w9:Nat=>fun x9:Nat=>W.tlbs (0+w9) (0+x9)) b1 (fun y9:Nat=>W.doms (0+y9)) W.time)) false=true∧True)))
set_option maxHeartbeats 1000000 in
theorem ok_did8 : FnOK Tryz.prog glE 15 c_did8 := ok_of (.cons ok_is (.cons (ok_err.up glN_glE) (.cons (ok_copyW.up glN_glE) (.cons ok_nothing (.cons (ok_sameWorld.up glN_glE) .nil))))) false Tryz.call15 Tryz.func15 (fun _ => []) (V := V_did8) (fun _ => by kernel_rfl) fun ⟨W⟩ hp => by
  dsimp only [s_did8] at hp
  dsimp only [V_did8, tn, w64]
  simp only [std, stb, eq_self, implies_true, Bool.cond_self]
  exact ⟨hp, fun h => absurd h (by decide), fun _ => ⟨fun _ => by decide, fun h => absurd h (by decide)⟩⟩
end Go.Proofs.YtdjilaofmdhikaaGreatDoor
set_option linter.unusedVariables false
set_option linter.unusedSimpArgs false
set_option maxRecDepth 100000
namespace Go.Proofs.YtdjilaofmdhikaaGreatDoor
open Go.RowKit Go.Sy
structure X_tmvC where
  (a b : Int) (W : Wd)
def s_tmvC : Sy.Spec := ⟨X_tmvC, fun ⟨a, b, _⟩ => [.ptr 0 0 none 0 0, .pt true 1 (fun _ => .v (.int .i64 a)), .pt true 1 (fun _ => .v (.int .i64 b))], fun ⟨_, _, W⟩ => wMem W, fun ⟨_, _, W⟩ => W.nSlots ≤ 100000 ∧ W.nSlots ≤ W.nKinds * 16, fun ⟨a, b, W⟩ => .er 35 116 (bthE W a b) (-1), fun ⟨a, b, W⟩ => wMem (mvW W a b),
  fun args mem => match args with | [a0, a1, a2] => some ⟨intD (ptF a1 0), intD (ptF a2 0), wMJD mem 0⟩ | _ => none⟩
def c_tmvC : Con := ⟨[true], s_tmvC.g, none⟩
def V_tmvC : X_tmvC → Prop := fun ⟨a, b, W⟩ => let a0:=SV.ptr 0 0 none 0 0;let b0:=0=0;let c0:=W.nRam;let d0:=c0=c0;let e0:=W.nKinds;let g0:=e0=e0;let h0:=W.nSlots;let k0:=h0=h0;let l0:=W.nTasks;let o0:=l0=l0;let q0:=W.nLines;let u0:=q0=q0;let v0:=W.nBits;let w0:=v0=v0;let x0:=W.nCores;let y0:=x0=x0;let z0:=W.nReady;let a1:=z0=z0;let b1:=W.nTlbs;let c1:=b1=b1;let d1:=W.nDoms;let e1:=d1=d1;let g1:=W.time=W.time;let h1:=d0∧(∀k1:Nat,k1<c0→True∧W.ram k1=W.ram k1);let l1:=g0∧(∀o1:Nat,o1<e0→True∧W.kinds o1=W.kinds o1);let q1:=u0∧(∀u1:Nat,let v1:=W.linesN u1;u1<q0→True∧v1=v1∧(∀w1:Nat,w1<v1→True∧W.lines u1 w1=W.lines u1 w1));let x1:=w0∧(∀y1:Nat,y1<v0→True∧W.bits y1=W.bits y1);let z1:=y0∧(∀a2:Nat,a2<x0→True∧W.cores a2=W.cores a2);let b2:=a1∧(∀c2:Nat,let d2:=W.readyN c2;c2<z0→True∧d2=d2∧(∀e2:Nat,e2<d2→True∧W.ready c2 e2=W.ready c2 e2));let g2:=(e1∧(∀h2:Nat,h2<d1→True∧W.doms h2=W.doms h2))∧True;let k2:=bthE W a b;let l2:=0=0;let o2:=Wd.mk c0 W.ram e0 W.kinds h0 (fun q2:Nat=>cond (k2==0) (trn a b (mvS W.slots (Int.toNat a) (Int.toNat b) q2)) (W.slots q2)) l0 W.tasks q0 W.linesN W.lines v0 W.bits x0 W.cores z0 W.readyN W.ready b1 W.tlbsN W.tlbs d1 W.doms W.time;((a0=a0∧a=a∧b=b∧True)∧((((((((((((True∧b0∧d0)∧b0∧g0)∧b0∧k0)∧b0∧o0)∧b0∧u0)∧b0∧w0)∧b0∧y0)∧b0∧a1)∧b0∧c1)∧b0∧e1)∧g1)∧h1∧l1∧(k0∧(∀u2:Nat,let v2:=W.slots u2;let w2:=v2.kind;let x2:=v2.base;let y2:=v2.len;let z2:=v2.mark;let a3:=v2.rights;let b3:=v2.badge;let c3:=v2.from_;u2<h0→((((((True∧w2=w2)∧x2=x2)∧y2=y2)∧z2=z2)∧a3=a3)∧b3=b3)∧c3=c3))∧(o0∧(∀d3:Nat,let e3:=W.tasks d3;
    let g3:=e3.prio;let h3:=e3.node;let k3:=e3.space;let l3:=e3.helper;let o3:=e3.loc;let q3:=e3.word;let u3:=e3.badge;let v3:=e3.owes;let w3:=e3.core;let x3:=e3.dom;d3<l0→(((((((((((((((((((True∧e3.r0=e3.r0)∧e3.r1=e3.r1)∧e3.r2=e3.r2)∧e3.r3=e3.r3)∧e3.r4=e3.r4)∧e3.r5=e3.r5)∧e3.r6=e3.r6)∧e3.r7=e3.r7)∧e3.pc=e3.pc)∧e3.st=e3.st)∧g3=g3)∧h3=h3)∧k3=k3)∧l3=l3)∧o3=o3)∧q3=q3)∧u3=u3)∧v3=v3)∧w3=w3)∧x3=x3))∧q1∧x1∧z1∧b2∧(c1∧(∀y3:Nat,let z3:=W.tlbsN y3;y3<b1→True∧z3=z3∧(∀a4:Nat,let b4:=W.tlbs y3 a4;let c4:=b4.sp;let d4:=b4.pg;let e4:=b4.fr;let g4:=b4.wr;a4<z3→(((True∧c4=c4)∧d4=d4)∧e4=e4)∧g4=g4)))∧g2)∧h0≤100000∧h0≤e0*16)∧(k2=k2∧((-1):Int)=(-1))∧(((((((((((True∧l2∧d0)∧l2∧g0)∧l2∧k0)∧l2∧o0)∧l2∧u0)∧l2∧w0)∧l2∧y0)∧l2∧a1)∧l2∧c1)∧l2∧e1)∧g1)∧h1∧l1∧(k0∧(∀h4:Nat,let k4:=o2.slots h4;let l4:=k4.kind;let o4:=k4.base;let q4:=k4.len;let u4:=k4.mark;let v4:=k4.rights;let w4:=k4.badge;let x4:=k4.from_;h4<h0→((((((True∧l4=l4)∧o4=o4)∧q4=q4)∧u4=u4)∧v4=v4)∧w4=w4)∧x4=x4))∧(o0∧(∀y4:Nat,let z4:=W.tasks y4;let a5:=o2.tasks y4;y4<l0→(((((((((((((((((((True∧z4.r0=a5.r0)∧z4.r1=a5.r1)∧z4.r2=a5.r2)∧z4.r3=a5.r3)∧z4.r4=a5.r4)∧z4.r5=a5.r5)∧z4.r6=a5.r6)∧z4.r7=a5.r7)∧z4.pc=a5.pc)∧z4.st=a5.st)∧z4.prio=a5.prio)∧z4.node=a5.node)∧z4.space=a5.space)∧z4.helper=a5.helper)∧z4.loc=a5.loc)∧z4.word=a5.word)∧z4.badge=a5.badge)∧z4.owes=a5.owes)∧z4.core=a5.core)∧z4.dom=a5.dom))∧q1∧x1∧z1∧b2∧(c1∧(∀b5:Nat,let c5:=W.tlbsN b5;b5<b1→True∧c5=c5∧(∀d5:Nat,let e5:=W.tlbs b5 d5;let g5:=o2.tlbs b5 d5;d5<c5→(((True∧e5.sp=g5.sp)∧e5.pg=g5.pg)∧e5.fr=g5.fr)∧
    e5.wr=g5.wr)))∧g2
theorem ok_tmvC : FnOK Tryz.prog glE 67 c_tmvC := ok_of (.cons (ok_doMove.up glN_glE) .nil) false Tryz.call67 Tryz.func67 (fun _ => []) (V := V_tmvC) (fun _ => by kernel_rfl) fun ⟨a, b, W⟩ hp => by
  dsimp only [s_tmvC] at hp
  dsimp only [V_tmvC, tn, w64]
  simp only [std, stb, eq_self, implies_true, Bool.cond_self]
  try simp only [wd_eta]
  exact hp
structure X_tmvD where
  (W : Wd) (a b : Int)
def s_tmvD : Sy.Spec := ⟨X_tmvD, fun ⟨W, a, b⟩ => [wSV W, .fn 67 2 (lsv [.pt true 1 (fun _ => .v (.int .i64 a)), .pt true 1 (fun _ => .v (.int .i64 b))])], fun _ => [], fun ⟨W, _, _⟩ => Sm W ∧ Snd W, fun ⟨W, a, b⟩ => .tp 2 (lsv [wRd (gdW (bthE W a b) (mvW W a b)), .er 35 116 (bthE W a b) (-1)]), fun _ => [],
  fun args mem => match args with | [a0, a1] => some ⟨wSVD a0, intD (ptF (fnF a1 0) 0), intD (ptF (fnF a1 1) 0)⟩ | _ => none⟩
def c_tmvD : Con := ⟨[], s_tmvD.g, none⟩
def V_tmvD : X_tmvD → Prop := fun ⟨W, a, b⟩ => let a0:=W.nRam;let b0:=a0=a0;let c0:=b0∧(∀d0:Nat,d0<a0→True∧W.ram d0=W.ram d0);let e0:=W.nKinds;let g0:=e0=e0;let h0:=g0∧(∀k0:Nat,k0<e0→True∧W.kinds k0=W.kinds k0);let l0:=W.nSlots;let o0:=l0=l0;let q0:=o0∧(∀u0:Nat,let v0:=W.slots u0;let w0:=v0.kind;let x0:=v0.base;let y0:=v0.len;let z0:=v0.mark;let a1:=v0.rights;let b1:=v0.badge;let c1:=v0.from_;u0<l0→((((((True∧w0=w0)∧x0=x0)∧y0=y0)∧z0=z0)∧a1=a1)∧b1=b1)∧c1=c1);let d1:=W.nTasks;let e1:=d1=d1;let g1:=e1∧(∀h1:Nat,let k1:=W.tasks h1;let l1:=k1.prio;let o1:=k1.node;let q1:=k1.space;let u1:=k1.helper;let v1:=k1.loc;let w1:=k1.word;let x1:=k1.badge;let y1:=k1.owes;let z1:=k1.core;let a2:=k1.dom;h1<d1→(((((((((((((((((((True∧k1.r0=k1.r0)∧k1.r1=k1.r1)∧k1.r2=k1.r2)∧k1.r3=k1.r3)∧k1.r4=k1.r4)∧k1.r5=k1.r5)∧k1.r6=k1.r6)∧k1.r7=k1.r7)∧k1.pc=k1.pc)∧k1.st=k1.st)∧l1=l1)∧o1=o1)∧q1=q1)∧u1=u1)∧v1=v1)∧w1=w1)∧x1=x1)∧y1=y1)∧z1=z1)∧a2=a2);let b2:=W.nLines;let c2:=b2=b2;let d2:=c2∧(∀e2:Nat,let g2:=W.linesN e2;e2<b2→True∧g2=g2∧(∀h2:Nat,h2<g2→True∧W.lines e2 h2=W.lines e2 h2));let k2:=W.nBits;let l2:=k2=k2;let o2:=l2∧(∀q2:Nat,q2<k2→True∧W.bits q2=W.bits q2);let u2:=W.nCores;let v2:=u2=u2;let w2:=v2∧(∀x2:Nat,x2<u2→True∧W.cores x2=W.cores x2);let y2:=W.nReady;let z2:=y2=y2;let a3:=z2∧(∀b3:Nat,let c3:=W.readyN b3;b3<y2→True∧c3=c3∧(∀d3:Nat,d3<c3→True∧W.ready b3 d3=W.ready b3 d3));let e3:=W.nTlbs;let g3:=e3=e3;
    let h3:=g3∧(∀k3:Nat,let l3:=W.tlbsN k3;k3<e3→True∧l3=l3∧(∀o3:Nat,let q3:=W.tlbs k3 o3;let u3:=q3.sp;let v3:=q3.pg;let w3:=q3.fr;let x3:=q3.wr;o3<l3→(((True∧u3=u3)∧v3=v3)∧w3=w3)∧x3=x3));let y3:=W.nDoms;let z3:=y3=y3;let a4:=z3∧(∀b4:Nat,b4<y3→True∧W.doms b4=W.doms b4);let c4:=W.time;let d4:=c4=c4;let e4:=(((((((((((True∧c0)∧h0)∧q0)∧g1)∧d2)∧o2)∧w2)∧a3)∧h3)∧a4)∧d4)∧True;let g4:=tn 10 True;let h4:=bthE W a b;let k4:=Wd.mk a0 W.ram e0 W.kinds l0 (fun l4:Nat=>cond (h4==0) (trn a b (mvS W.slots (Int.toNat a) (Int.toNat b) l4)) (W.slots l4)) d1 W.tasks b2 W.linesN W.lines k2 W.bits u2 W.cores y2 W.readyN W.ready e3 W.tlbsN W.tlbs y3 W.doms c4;let o4:=gdW h4 k4;let q4:=o4.nRam;let u4:=o4.nKinds;let v4:=o4.nSlots;let w4:=o4.nTasks;let x4:=o4.nLines;let y4:=o4.nBits;let z4:=o4.nCores;let a5:=o4.nReady;let b5:=o4.nTlbs;let c5:=o4.nDoms;let d5:=o4.time;let e5:=True∧((((((((((True∧q4=0)∧u4=0)∧v4=0)∧w4=0)∧x4=0)∧y4=0)∧z4=0)∧a5=0)∧b5=0)∧c5=0)∧0=d5;let g5:=((-1):Int)=(-1);let h5:=0=0;let k5:=h4 !=0;tn 2 ((e4∧True∧s_wCheck.match_1 (fun l5:X_wCheck=>Prop) (X_wCheck.mk W) (fun o5:Wd=>Sm o5))∧((wE W !=0)=true→g4∧(e5∧(8:Int)≠0∧h4=8∧g5)∧True)∧((wE W !=0)=false→(e4∧True∧s_cloneW.match_1 (fun q5:X_cloneW=>Prop) (X_cloneW.mk W) (fun u5:Wd=>Lg u5))∧g4∧((SV.ptr 0 0 none 0 0=SV.ptr 0 0 none 0 0∧(True∧a=a)∧(True∧b=b)∧True)∧((((((((((((True∧h5∧b0)∧h5∧g0)∧h5∧o0)∧h5∧e1)∧h5∧c2)∧h5∧l2)∧h5∧v2)∧h5∧z2)∧h5∧g3)∧h5∧z3)∧d4)∧c0∧h0∧q0∧g1∧d2∧o2∧w2∧a3∧h3∧a4∧True)∧l0≤100000∧l0≤e0*16)∧(k5=true→g4∧(e5∧h4=h4∧g5)∧True)∧
    (k5=false→g4∧((True∧((((((((((True∧a0=q4∧(∀v5:Nat,v5<q4→True∧W.ram (0+v5)=o4.ram v5))∧e0=u4∧(∀w5:Nat,w5<u4→True∧W.kinds (0+w5)=o4.kinds w5))∧l0=v4∧(∀x5:Nat,let y5:=k4.slots (0+x5);let z5:=o4.slots x5;x5<v4→((((((True∧y5.kind=z5.kind)∧y5.base=z5.base)∧y5.len=z5.len)∧y5.mark=z5.mark)∧y5.rights=z5.rights)∧y5.badge=z5.badge)∧y5.from_=z5.from_))∧d1=w4∧(∀a6:Nat,let b6:=W.tasks (0+a6);let c6:=o4.tasks a6;a6<w4→(((((((((((((((((((True∧b6.r0=c6.r0)∧b6.r1=c6.r1)∧b6.r2=c6.r2)∧b6.r3=c6.r3)∧b6.r4=c6.r4)∧b6.r5=c6.r5)∧b6.r6=c6.r6)∧b6.r7=c6.r7)∧b6.pc=c6.pc)∧b6.st=c6.st)∧b6.prio=c6.prio)∧b6.node=c6.node)∧b6.space=c6.space)∧b6.helper=c6.helper)∧b6.loc=c6.loc)∧b6.word=c6.word)∧b6.badge=c6.badge)∧b6.owes=c6.owes)∧b6.core=c6.core)∧b6.dom=c6.dom))∧b2=x4∧(∀d6:Nat,d6<x4→True∧W.linesN (0+d6)=o4.linesN d6∧(∀e6:Nat,e6<o4.linesN d6→True∧W.lines (0+d6) (0+e6)=o4.lines d6 e6)))∧k2=y4∧(∀g6:Nat,g6<y4→True∧W.bits (0+g6)=o4.bits g6))∧u2=z4∧(∀h6:Nat,h6<z4→True∧W.cores (0+h6)=o4.cores h6))∧y2=a5∧(∀k6:Nat,k6<a5→True∧W.readyN (0+k6)=o4.readyN k6∧(∀l6:Nat,l6<o4.readyN k6→True∧W.ready (0+k6) (0+l6)=o4.ready k6 l6)))∧e3=b5∧(∀o6:Nat,let q6:=0+o6;o6<b5→True∧W.tlbsN q6=o4.tlbsN o6∧(∀u6:Nat,let v6:=W.tlbs q6 (0+u6);let w6:=o4.tlbs o6 u6;u6<o4.tlbsN o6→(((True∧v6.sp=w6.sp)∧v6.pg=w6.pg)∧v6.fr=w6.fr)∧v6.wr=w6.wr)))∧y3=c5∧(∀x6:Nat,x6<c5→True∧W.doms (0+x6)=o4.doms x6))∧c4=d5)∧h4=0∧g5)∧True)))
set_option maxHeartbeats 2000000 in
theorem ok_tmvD : FnOK Tryz.prog glE 66 c_tmvD := ok_of (.cons (ok_wCheck.up glN_glE) (.cons (ok_cloneW.up glN_glE) (.cons ok_tmvC .nil))) false Tryz.call66 Tryz.func66 (fun _ => []) (V := V_tmvD) (fun _ => by kernel_rfl) fun ⟨W, a, b⟩ hp => by
  dsimp only [s_tmvD] at hp
  dsimp only [V_tmvD, tn, w64]
  simp only [std, stb, eq_self, implies_true, Bool.cond_self]
  obtain ⟨hs, hw⟩ := hp
  have h0 := snd0 hw
  refine ⟨hs, fun h => absurd (by simpa using h0) (by simpa using h), fun _ => ⟨lg_sm hs, pre_snd hw, fun h2 => ?_, fun h2 => ?_⟩⟩
  · simp only [fun X => gdW_no X (ne0 h2)]
    repeat' (first | exact trivial | rfl | refine And.intro ?_ ?_ | intro _ | exact absurd ‹_› (Nat.not_lt_zero _) | fail)
  · simp only [fun X => gdW_yes X (eq0 h2)]
    repeat' (first | exact trivial | rfl | refine And.intro ?_ ?_ | intro _ | exact absurd ‹_› (Nat.not_lt_zero _) | fail)
    exact eq_of_beq (eq0 h2)
structure X_tmvX where
  (W : Wd) (a b : Int)
def s_tmvX : Sy.Spec := ⟨X_tmvX, fun ⟨W, a, b⟩ => [wSV W, .v (.int .i64 a), .v (.int .i64 b)], fun _ => [], fun ⟨W, _, _⟩ => Sm W ∧ Snd W, fun ⟨W, a, b⟩ => .tp 2 (lsv [wRd (gdW (bthE W a b) (mvW W a b)), .er 35 116 (bthE W a b) (-1)]), fun _ => [],
  fun args mem => match args with | [a0, a1, a2] => some ⟨wSVD a0, intD (a1), intD (a2)⟩ | _ => none⟩
def c_tmvX : Con := ⟨[], s_tmvX.g, none⟩
def V_tmvX : X_tmvX → Prop := fun ⟨W, a, b⟩ => let a0:=W.nRam;let b0:=W.nKinds;let c0:=W.nSlots;let d0:=W.nTasks;let e0:=W.nLines;let g0:=W.nBits;let h0:=W.nCores;let k0:=W.nReady;let l0:=W.nTlbs;let o0:=W.nDoms;let q0:=bthE W a b;let u0:=gdW q0 (Wd.mk a0 W.ram b0 W.kinds c0 (fun v0:Nat=>cond (q0==0) (trn a b (mvS W.slots (Int.toNat a) (Int.toNat b) v0)) (W.slots v0)) d0 W.tasks e0 W.linesN W.lines g0 W.bits h0 W.cores k0 W.readyN W.ready l0 W.tlbsN W.tlbs o0 W.doms W.time);let w0:=u0.nRam;let x0:=u0.nKinds;let y0:=u0.nSlots;let z0:=u0.nTasks;let a1:=u0.nLines;let b1:=u0.nBits;let c1:=u0.nCores;let d1:=u0.nReady;let e1:=u0.nTlbs;let g1:=u0.nDoms;let h1:=u0.time;tn 4 ((((((((((((((True∧a0=a0∧(∀k1:Nat,k1<a0→True∧W.ram k1=W.ram k1))∧b0=b0∧(∀l1:Nat,l1<b0→True∧W.kinds l1=W.kinds l1))∧c0=c0∧(∀o1:Nat,let q1:=W.slots o1;let u1:=q1.kind;let v1:=q1.base;let w1:=q1.len;let x1:=q1.mark;let y1:=q1.rights;let z1:=q1.badge;let a2:=q1.from_;o1<c0→((((((True∧u1=u1)∧v1=v1)∧w1=w1)∧x1=x1)∧y1=y1)∧z1=z1)∧a2=a2))∧d0=d0∧(∀b2:Nat,let c2:=W.tasks b2;let d2:=c2.prio;let e2:=c2.node;let g2:=c2.space;let h2:=c2.helper;let k2:=c2.loc;let l2:=c2.word;let o2:=c2.badge;let q2:=c2.owes;let u2:=c2.core;let v2:=c2.dom;b2<d0→(((((((((((((((((((True∧c2.r0=c2.r0)∧c2.r1=c2.r1)∧c2.r2=c2.r2)∧c2.r3=c2.r3)∧c2.r4=c2.r4)∧c2.r5=c2.r5)∧c2.r6=c2.r6)∧c2.r7=c2.r7)∧c2.pc=c2.pc)∧c2.st=c2.st)∧d2=d2)∧e2=e2)∧g2=g2)∧h2=h2)∧k2=k2)∧l2=l2)∧o2=o2)∧q2=q2)∧u2=u2)∧v2=v2))∧e0=e0∧(∀w2:Nat,let x2:=W.linesN w2;w2<e0→True∧x2=x2∧(∀y2:Nat,y2<x2→True∧W.lines w2 y2=W.lines w2 y2)))∧g0=g0∧
    (∀z2:Nat,z2<g0→True∧W.bits z2=W.bits z2))∧h0=h0∧(∀a3:Nat,a3<h0→True∧W.cores a3=W.cores a3))∧k0=k0∧(∀b3:Nat,let c3:=W.readyN b3;b3<k0→True∧c3=c3∧(∀d3:Nat,d3<c3→True∧W.ready b3 d3=W.ready b3 d3)))∧l0=l0∧(∀e3:Nat,let g3:=W.tlbsN e3;e3<l0→True∧g3=g3∧(∀h3:Nat,let k3:=W.tlbs e3 h3;let l3:=k3.sp;let o3:=k3.pg;let q3:=k3.fr;let u3:=k3.wr;h3<g3→(((True∧l3=l3)∧o3=o3)∧q3=q3)∧u3=u3)))∧o0=o0∧(∀v3:Nat,v3<o0→True∧W.doms v3=W.doms v3))∧W.time=W.time)∧(tn 2 (a=a)∧True∧b=b)∧True)∧True∧Sm W∧Snd W)∧tn 10 True∧((True∧((((((((((True∧w0=w0∧(∀w3:Nat,w3<w0→True∧u0.ram w3=u0.ram w3))∧x0=x0∧(∀x3:Nat,x3<x0→True∧u0.kinds x3=u0.kinds x3))∧y0=y0∧(∀y3:Nat,let z3:=u0.slots y3;let a4:=z3.kind;let b4:=z3.base;let c4:=z3.len;let d4:=z3.mark;let e4:=z3.rights;let g4:=z3.badge;let h4:=z3.from_;y3<y0→((((((True∧a4=a4)∧b4=b4)∧c4=c4)∧d4=d4)∧e4=e4)∧g4=g4)∧h4=h4))∧z0=z0∧(∀k4:Nat,let l4:=u0.tasks k4;let o4:=l4.prio;let q4:=l4.node;let u4:=l4.space;let v4:=l4.helper;let w4:=l4.loc;let x4:=l4.word;let y4:=l4.badge;let z4:=l4.owes;let a5:=l4.core;let b5:=l4.dom;k4<z0→(((((((((((((((((((True∧l4.r0=l4.r0)∧l4.r1=l4.r1)∧l4.r2=l4.r2)∧l4.r3=l4.r3)∧l4.r4=l4.r4)∧l4.r5=l4.r5)∧l4.r6=l4.r6)∧l4.r7=l4.r7)∧l4.pc=l4.pc)∧l4.st=l4.st)∧o4=o4)∧q4=q4)∧u4=u4)∧v4=v4)∧w4=w4)∧x4=x4)∧y4=y4)∧z4=z4)∧a5=a5)∧b5=b5))∧a1=a1∧(∀c5:Nat,let d5:=u0.linesN c5;c5<a1→True∧d5=d5∧(∀e5:Nat,e5<d5→True∧u0.lines c5 e5=u0.lines c5 e5)))∧b1=b1∧(∀g5:Nat,g5<b1→True∧u0.bits g5=u0.bits g5))∧c1=c1∧(∀h5:Nat,h5<c1→True∧u0.cores h5=u0.cores h5))∧d1=d1∧(∀k5:Nat,
    let l5:=u0.readyN k5;k5<d1→True∧l5=l5∧(∀o5:Nat,o5<l5→True∧u0.ready k5 o5=u0.ready k5 o5)))∧e1=e1∧(∀q5:Nat,let u5:=u0.tlbsN q5;q5<e1→True∧u5=u5∧(∀v5:Nat,let w5:=u0.tlbs q5 v5;let x5:=w5.sp;let y5:=w5.pg;let z5:=w5.fr;let a6:=w5.wr;v5<u5→(((True∧x5=x5)∧y5=y5)∧z5=z5)∧a6=a6)))∧g1=g1∧(∀b6:Nat,b6<g1→True∧u0.doms b6=u0.doms b6))∧h1=h1)∧q0=q0∧((-1):Int)=(-1))∧True)
set_option maxHeartbeats 2000000 in
theorem ok_tmvX : FnOK Tryz.prog glE 14 c_tmvX := ok_of (.cons ok_tmvD .nil) false Tryz.call14 Tryz.func14 (fun _ => []) (V := V_tmvX) (fun _ => by kernel_rfl) fun ⟨W, a, b⟩ hp => by
  dsimp only [s_tmvX] at hp
  dsimp only [V_tmvX, tn, w64]
  simp only [std, stb, eq_self, implies_true, Bool.cond_self]
  try simp only [wd_eta]
  exact hp
structure X_tmvY where
  (W : Wd) (a b : Int)
def s_tmvY : Sy.Spec := ⟨X_tmvY, fun ⟨W, a, b⟩ => [wSV W, .v (.int .i64 a), .v (.int .i64 b)], fun _ => [], fun ⟨W, _, _⟩ => Sm W ∧ wE W ≠ 0, fun _ => .tp 2 (lsv [wRd oW, .er 35 116 8 (-1)]), fun _ => [],
  fun args mem => match args with | [a0, a1, a2] => some ⟨wSVD a0, intD (a1), intD (a2)⟩ | _ => none⟩
def c_tmvY : Con := ⟨[], s_tmvY.g, none⟩
def V_tmvY : X_tmvY → Prop := fun ⟨W, _, _⟩ => let a0:=W.nKinds;let b0:=W.nSlots;let c0:=W.nTasks;let d0:=W.nLines;let e0:=W.nCores;let g0:=W.nReady;let h0:=(0:Int)=0;let k0:=True∧h0;let l0:=0=0∧(∀o0:Nat,o0<0→k0);let q0:=True∧l0;let u0:=(k0∧h0)∧h0;let v0:=(((u0∧h0)∧h0)∧h0)∧h0;let w0:=((-1):Int)=(-1);let x0:=0=0∧(∀y0:Nat,y0<0→q0);tn 4 ((((((((((((((True∧W.nRam=W.nRam∧(∀z0:Nat,z0<W.nRam→True∧W.ram z0=W.ram z0))∧a0=a0∧(∀a1:Nat,a1<a0→True∧W.kinds a1=W.kinds a1))∧b0=b0∧(∀b1:Nat,let c1:=W.slots b1;let d1:=c1.kind;let e1:=c1.base;let g1:=c1.len;let h1:=c1.mark;let k1:=c1.rights;let l1:=c1.badge;let o1:=c1.from_;b1<b0→((((((True∧d1=d1)∧e1=e1)∧g1=g1)∧h1=h1)∧k1=k1)∧l1=l1)∧o1=o1))∧c0=c0∧(∀q1:Nat,let u1:=W.tasks q1;let v1:=u1.prio;let w1:=u1.node;let x1:=u1.space;let y1:=u1.helper;let z1:=u1.loc;let a2:=u1.word;let b2:=u1.badge;let c2:=u1.owes;let d2:=u1.core;let e2:=u1.dom;q1<c0→(((((((((((((((((((True∧u1.r0=u1.r0)∧u1.r1=u1.r1)∧u1.r2=u1.r2)∧u1.r3=u1.r3)∧u1.r4=u1.r4)∧u1.r5=u1.r5)∧u1.r6=u1.r6)∧u1.r7=u1.r7)∧u1.pc=u1.pc)∧u1.st=u1.st)∧v1=v1)∧w1=w1)∧x1=x1)∧y1=y1)∧z1=z1)∧a2=a2)∧b2=b2)∧c2=c2)∧d2=d2)∧e2=e2))∧d0=d0∧(∀g2:Nat,let h2:=W.linesN g2;g2<d0→True∧h2=h2∧(∀k2:Nat,k2<h2→True∧W.lines g2 k2=W.lines g2 k2)))∧W.nBits=W.nBits∧(∀l2:Nat,l2<W.nBits→True∧W.bits l2=W.bits l2))∧e0=e0∧(∀o2:Nat,o2<e0→True∧W.cores o2=W.cores o2))∧g0=g0∧(∀q2:Nat,let u2:=W.readyN q2;q2<g0→True∧u2=u2∧(∀v2:Nat,v2<u2→True∧W.ready q2 v2=W.ready q2 v2)))∧W.nTlbs=W.nTlbs∧(∀w2:Nat,let x2:=W.tlbsN w2;w2<W.nTlbs→True∧x2=x2∧(∀y2:Nat,let z2:=W.tlbs w2 y2;let a3:=z2.sp;
    let b3:=z2.pg;let c3:=z2.fr;let d3:=z2.wr;y2<x2→(((True∧a3=a3)∧b3=b3)∧c3=c3)∧d3=d3)))∧W.nDoms=W.nDoms∧(∀e3:Nat,e3<W.nDoms→True∧W.doms e3=W.doms e3))∧W.time=W.time)∧True∧True)∧True∧Sm W∧wE W≠0)∧tn 10 True∧((True∧(((((((((q0∧l0)∧0=0∧(∀g3:Nat,g3<0→v0))∧0=0∧(∀h3:Nat,h3<0→((((((((((((v0∧h0)∧h0)∧h0)∧h0)∧w0)∧w0)∧w0)∧w0)∧h0)∧h0)∧w0)∧h0)∧h0))∧x0)∧l0)∧l0)∧x0)∧0=0∧(∀k3:Nat,k3<0→True∧0=0∧(∀l3:Nat,l3<0→u0∧false=false)))∧l0)∧h0)∧(8:Int)=8∧w0)∧True)
set_option maxHeartbeats 2000000 in
theorem ok_tmvY : FnOK Tryz.prog glE 14 c_tmvY := ok_of (.cons ok_done8 .nil) false Tryz.call14 Tryz.func14 (fun _ => []) (V := V_tmvY) (fun _ => by kernel_rfl) fun ⟨W, a, b⟩ hp => by
  dsimp only [s_tmvY] at hp
  dsimp only [V_tmvY, tn, w64]
  simp only [std, stb, eq_self, implies_true, Bool.cond_self]
  try simp only [wd_eta]
  exact hp
structure X_tmvR where
  (a b : Int) (W : Wd)
def s_tmvR : Sy.Spec := ⟨X_tmvR, fun ⟨a, b, _⟩ => [.ptr 0 0 none 0 0, .pt true 1 (fun _ => .v (.int .i64 a)), .pt true 1 (fun _ => .v (.int .i64 b))], fun ⟨_, _, W⟩ => wMem W, fun ⟨_, _, W⟩ => W.nSlots ≤ 100000 ∧ W.nSlots ≤ W.nKinds * 16, fun ⟨a, b, W⟩ => .v (.int .i64 (bthE W a b)), fun ⟨a, b, W⟩ => wMem (mvW W a b),
  fun args mem => match args with | [a0, a1, a2] => some ⟨intD (ptF a1 0), intD (ptF a2 0), wMJD mem 0⟩ | _ => none⟩
def c_tmvR : Con := ⟨[true], s_tmvR.g, none⟩
def V_tmvR : X_tmvR → Prop := fun ⟨a, b, W⟩ => let a0:=SV.ptr 0 0 none 0 0;let b0:=0=0;let c0:=W.nRam;let d0:=c0=c0;let e0:=W.nKinds;let g0:=e0=e0;let h0:=W.nSlots;let k0:=h0=h0;let l0:=W.nTasks;let o0:=l0=l0;let q0:=W.nLines;let u0:=q0=q0;let v0:=W.nBits;let w0:=v0=v0;let x0:=W.nCores;let y0:=x0=x0;let z0:=W.nReady;let a1:=z0=z0;let b1:=W.nTlbs;let c1:=b1=b1;let d1:=W.nDoms;let e1:=d1=d1;let g1:=W.time=W.time;let h1:=d0∧(∀k1:Nat,k1<c0→True∧W.ram k1=W.ram k1);let l1:=g0∧(∀o1:Nat,o1<e0→True∧W.kinds o1=W.kinds o1);let q1:=u0∧(∀u1:Nat,let v1:=W.linesN u1;u1<q0→True∧v1=v1∧(∀w1:Nat,w1<v1→True∧W.lines u1 w1=W.lines u1 w1));let x1:=w0∧(∀y1:Nat,y1<v0→True∧W.bits y1=W.bits y1);let z1:=y0∧(∀a2:Nat,a2<x0→True∧W.cores a2=W.cores a2);let b2:=a1∧(∀c2:Nat,let d2:=W.readyN c2;c2<z0→True∧d2=d2∧(∀e2:Nat,e2<d2→True∧W.ready c2 e2=W.ready c2 e2));let g2:=(e1∧(∀h2:Nat,h2<d1→True∧W.doms h2=W.doms h2))∧True;let k2:=bthE W a b;let l2:=0=0;let o2:=Wd.mk c0 W.ram e0 W.kinds h0 (fun q2:Nat=>cond (k2==0) (trn a b (mvS W.slots (Int.toNat a) (Int.toNat b) q2)) (W.slots q2)) l0 W.tasks q0 W.linesN W.lines v0 W.bits x0 W.cores z0 W.readyN W.ready b1 W.tlbsN W.tlbs d1 W.doms W.time;((a0=a0∧a=a∧b=b∧True)∧((((((((((((True∧b0∧d0)∧b0∧g0)∧b0∧k0)∧b0∧o0)∧b0∧u0)∧b0∧w0)∧b0∧y0)∧b0∧a1)∧b0∧c1)∧b0∧e1)∧g1)∧h1∧l1∧(k0∧(∀u2:Nat,let v2:=W.slots u2;let w2:=v2.kind;let x2:=v2.base;let y2:=v2.len;let z2:=v2.mark;let a3:=v2.rights;let b3:=v2.badge;let c3:=v2.from_;u2<h0→((((((True∧w2=w2)∧x2=x2)∧y2=y2)∧z2=z2)∧a3=a3)∧b3=b3)∧c3=c3))∧(o0∧(∀d3:Nat,let e3:=W.tasks d3;
    let g3:=e3.prio;let h3:=e3.node;let k3:=e3.space;let l3:=e3.helper;let o3:=e3.loc;let q3:=e3.word;let u3:=e3.badge;let v3:=e3.owes;let w3:=e3.core;let x3:=e3.dom;d3<l0→(((((((((((((((((((True∧e3.r0=e3.r0)∧e3.r1=e3.r1)∧e3.r2=e3.r2)∧e3.r3=e3.r3)∧e3.r4=e3.r4)∧e3.r5=e3.r5)∧e3.r6=e3.r6)∧e3.r7=e3.r7)∧e3.pc=e3.pc)∧e3.st=e3.st)∧g3=g3)∧h3=h3)∧k3=k3)∧l3=l3)∧o3=o3)∧q3=q3)∧u3=u3)∧v3=v3)∧w3=w3)∧x3=x3))∧q1∧x1∧z1∧b2∧(c1∧(∀y3:Nat,let z3:=W.tlbsN y3;y3<b1→True∧z3=z3∧(∀a4:Nat,let b4:=W.tlbs y3 a4;let c4:=b4.sp;let d4:=b4.pg;let e4:=b4.fr;let g4:=b4.wr;a4<z3→(((True∧c4=c4)∧d4=d4)∧e4=e4)∧g4=g4)))∧g2)∧h0≤100000∧h0≤e0*16)∧k2=k2∧(((((((((((True∧l2∧d0)∧l2∧g0)∧l2∧k0)∧l2∧o0)∧l2∧u0)∧l2∧w0)∧l2∧y0)∧l2∧a1)∧l2∧c1)∧l2∧e1)∧g1)∧h1∧l1∧(k0∧(∀h4:Nat,let k4:=o2.slots h4;let l4:=k4.kind;let o4:=k4.base;let q4:=k4.len;let u4:=k4.mark;let v4:=k4.rights;let w4:=k4.badge;let x4:=k4.from_;h4<h0→((((((True∧l4=l4)∧o4=o4)∧q4=q4)∧u4=u4)∧v4=v4)∧w4=w4)∧x4=x4))∧(o0∧(∀y4:Nat,let z4:=W.tasks y4;let a5:=o2.tasks y4;y4<l0→(((((((((((((((((((True∧z4.r0=a5.r0)∧z4.r1=a5.r1)∧z4.r2=a5.r2)∧z4.r3=a5.r3)∧z4.r4=a5.r4)∧z4.r5=a5.r5)∧z4.r6=a5.r6)∧z4.r7=a5.r7)∧z4.pc=a5.pc)∧z4.st=a5.st)∧z4.prio=a5.prio)∧z4.node=a5.node)∧z4.space=a5.space)∧z4.helper=a5.helper)∧z4.loc=a5.loc)∧z4.word=a5.word)∧z4.badge=a5.badge)∧z4.owes=a5.owes)∧z4.core=a5.core)∧z4.dom=a5.dom))∧q1∧x1∧z1∧b2∧(c1∧(∀b5:Nat,let c5:=W.tlbsN b5;b5<b1→True∧c5=c5∧(∀d5:Nat,let e5:=W.tlbs b5 d5;let g5:=o2.tlbs b5 d5;d5<c5→(((True∧e5.sp=g5.sp)∧e5.pg=g5.pg)∧e5.fr=g5.fr)∧e5.wr=g5.wr)))∧g2
theorem ok_tmvR : FnOK Tryz.prog glE 17 c_tmvR := ok_of (.cons (ok_moveKey.up glN_glE) .nil) false Tryz.call17 Tryz.func17 (fun _ => []) (V := V_tmvR) (fun _ => by kernel_rfl) fun ⟨a, b, W⟩ hp => by
  dsimp only [s_tmvR] at hp
  dsimp only [V_tmvR, tn, w64]
  simp only [std, stb, eq_self, implies_true, Bool.cond_self]
  try simp only [wd_eta]
  exact hp
structure X_tmvL where
  (W : Wd) (a b : Int)
def s_tmvL : Sy.Spec := ⟨X_tmvL, fun ⟨W, a, b⟩ => [wRd (gdW (bthE W a b) (mvW W a b)), .er 35 116 (bthE W a b) (-1), wSV W, .v (.int .i64 0), .fn 17 2 (lsv [.pt true 1 (fun _ => .v (.int .i64 a)), .pt true 1 (fun _ => .v (.int .i64 b))])], fun _ => [], fun ⟨W, _, _⟩ => Sm W ∧ Snd W, fun _ => .v (.bool true), fun _ => [],
  fun args mem => match args with | [a0, a1, a2, a3, a4] => some ⟨wSVD a2, intD (ptF (fnF a4 0) 0), intD (ptF (fnF a4 1) 0)⟩ | _ => none⟩
def c_tmvL : Con := ⟨[], s_tmvL.g, none⟩
def V_tmvL : X_tmvL → Prop := fun ⟨W, a, b⟩ => let a0:=W.nRam;let b0:=a0=a0;let c0:=b0∧(∀d0:Nat,d0<a0→True∧W.ram d0=W.ram d0);let e0:=W.nKinds;let g0:=e0=e0;let h0:=g0∧(∀k0:Nat,k0<e0→True∧W.kinds k0=W.kinds k0);let l0:=W.nSlots;let o0:=l0=l0;let q0:=o0∧(∀u0:Nat,let v0:=W.slots u0;let w0:=v0.kind;let x0:=v0.base;let y0:=v0.len;let z0:=v0.mark;let a1:=v0.rights;let b1:=v0.badge;let c1:=v0.from_;u0<l0→((((((True∧w0=w0)∧x0=x0)∧y0=y0)∧z0=z0)∧a1=a1)∧b1=b1)∧c1=c1);let d1:=W.nTasks;let e1:=d1=d1;let g1:=e1∧(∀h1:Nat,let k1:=W.tasks h1;let l1:=k1.prio;let o1:=k1.node;let q1:=k1.space;let u1:=k1.helper;let v1:=k1.loc;let w1:=k1.word;let x1:=k1.badge;let y1:=k1.owes;let z1:=k1.core;let a2:=k1.dom;h1<d1→(((((((((((((((((((True∧k1.r0=k1.r0)∧k1.r1=k1.r1)∧k1.r2=k1.r2)∧k1.r3=k1.r3)∧k1.r4=k1.r4)∧k1.r5=k1.r5)∧k1.r6=k1.r6)∧k1.r7=k1.r7)∧k1.pc=k1.pc)∧k1.st=k1.st)∧l1=l1)∧o1=o1)∧q1=q1)∧u1=u1)∧v1=v1)∧w1=w1)∧x1=x1)∧y1=y1)∧z1=z1)∧a2=a2);let b2:=W.nLines;let c2:=b2=b2;let d2:=c2∧(∀e2:Nat,let g2:=W.linesN e2;e2<b2→True∧g2=g2∧(∀h2:Nat,h2<g2→True∧W.lines e2 h2=W.lines e2 h2));let k2:=W.nBits;let l2:=k2=k2;let o2:=l2∧(∀q2:Nat,q2<k2→True∧W.bits q2=W.bits q2);let u2:=W.nCores;let v2:=u2=u2;let w2:=v2∧(∀x2:Nat,x2<u2→True∧W.cores x2=W.cores x2);let y2:=W.nReady;let z2:=y2=y2;let a3:=z2∧(∀b3:Nat,let c3:=W.readyN b3;b3<y2→True∧c3=c3∧(∀d3:Nat,d3<c3→True∧W.ready b3 d3=W.ready b3 d3));let e3:=W.nTlbs;let g3:=e3=e3;
    let h3:=g3∧(∀k3:Nat,let l3:=W.tlbsN k3;k3<e3→True∧l3=l3∧(∀o3:Nat,let q3:=W.tlbs k3 o3;let u3:=q3.sp;let v3:=q3.pg;let w3:=q3.fr;let x3:=q3.wr;o3<l3→(((True∧u3=u3)∧v3=v3)∧w3=w3)∧x3=x3));let y3:=W.nDoms;let z3:=y3=y3;let a4:=z3∧(∀b4:Nat,b4<y3→True∧W.doms b4=W.doms b4);let c4:=W.time;let d4:=c4=c4;let e4:=True∧True;let g4:=0=0;let h4:=bthE W a b;let k4:=h4 !=0;let l4:=h4=h4;let o4:=((-1):Int)=(-1);let q4:=l4∧o4;let u4:=h4==h4&&((-1):Int)==(-1);let v4:=h4==0;let w4:=Wd.mk a0 W.ram e0 W.kinds l0 (fun x4:Nat=>cond v4 (trn a b (mvS W.slots (Int.toNat a) (Int.toNat b) x4)) (W.slots x4)) d1 W.tasks b2 W.linesN W.lines k2 W.bits u2 W.cores y2 W.readyN W.ready e3 W.tlbsN W.tlbs y3 W.doms c4;let y4:=gdW h4 w4;let z4:=y4.nRam;let a5:=y4.nKinds;let b5:=y4.nSlots;let c5:=y4.nTasks;let d5:=y4.nLines;let e5:=y4.nBits;let g5:=y4.nCores;let h5:=y4.nReady;let k5:=y4.nTlbs;let l5:=y4.nDoms;let o5:=y4.time;
    let q5:=((((((((((True∧z4=z4∧(∀u5:Nat,u5<z4→True∧y4.ram u5=y4.ram u5))∧a5=a5∧(∀v5:Nat,v5<a5→True∧y4.kinds v5=y4.kinds v5))∧b5=b5∧(∀w5:Nat,let x5:=y4.slots w5;let y5:=x5.kind;let z5:=x5.base;let a6:=x5.len;let b6:=x5.mark;let c6:=x5.rights;let d6:=x5.badge;let e6:=x5.from_;w5<b5→((((((True∧y5=y5)∧z5=z5)∧a6=a6)∧b6=b6)∧c6=c6)∧d6=d6)∧e6=e6))∧c5=c5∧(∀g6:Nat,let h6:=y4.tasks g6;let k6:=h6.prio;let l6:=h6.node;let o6:=h6.space;let q6:=h6.helper;let u6:=h6.loc;let v6:=h6.word;let w6:=h6.badge;let x6:=h6.owes;let y6:=h6.core;let z6:=h6.dom;g6<c5→(((((((((((((((((((True∧h6.r0=h6.r0)∧h6.r1=h6.r1)∧h6.r2=h6.r2)∧h6.r3=h6.r3)∧h6.r4=h6.r4)∧h6.r5=h6.r5)∧h6.r6=h6.r6)∧h6.r7=h6.r7)∧h6.pc=h6.pc)∧h6.st=h6.st)∧k6=k6)∧l6=l6)∧o6=o6)∧q6=q6)∧u6=u6)∧v6=v6)∧w6=w6)∧x6=x6)∧y6=y6)∧z6=z6))∧d5=d5∧(∀a7:Nat,let b7:=y4.linesN a7;a7<d5→True∧b7=b7∧(∀c7:Nat,c7<b7→True∧y4.lines a7 c7=y4.lines a7 c7)))∧e5=e5∧(∀d7:Nat,d7<e5→True∧y4.bits d7=y4.bits d7))∧g5=g5∧(∀e7:Nat,e7<g5→True∧y4.cores e7=y4.cores e7))∧h5=h5∧(∀g7:Nat,let h7:=y4.readyN g7;g7<h5→True∧h7=h7∧(∀k7:Nat,k7<h7→True∧y4.ready g7 k7=y4.ready g7 k7)))∧k5=k5∧(∀l7:Nat,let o7:=y4.tlbsN l7;l7<k5→True∧o7=o7∧(∀q7:Nat,let u7:=y4.tlbs l7 q7;let v7:=u7.sp;let w7:=u7.pg;let x7:=u7.fr;let y7:=u7.wr;q7<o7→(((True∧v7=v7)∧w7=w7)∧x7=x7)∧y7=y7)))∧l5=l5∧(∀z7:Nat,z7<l5→True∧y4.doms z7=y4.doms z7))∧o5=o5;let a8:=(q5∧True)∧True∧z4=0∧a5=0∧b5=0∧c5=0∧d5=0∧e5=0∧g5=0∧h5=0∧k5=0∧l5=0∧o5=0;let b8:=v4=true;
    let c8:=(True∧b0∧(∀d8:Nat,d8<a0→True∧W.ram (0+d8)=W.ram (0+d8)))∧g0∧(∀e8:Nat,let g8:=W.kinds (0+e8);e8<e0→True∧g8=g8);let h8:=e1∧(∀k8:Nat,let l8:=W.tasks (0+k8);let o8:=l8.r0;let q8:=l8.r1;let r8:=l8.r2;let u8:=l8.r3;let v8:=l8.r4;let w8:=l8.r5;let x8:=l8.r6;let y8:=l8.r7;let z8:=l8.pc;let a9:=l8.st;let b9:=l8.prio;let c9:=l8.node;let d9:=l8.space;let e9:=l8.helper;let g9:=l8.loc;let h9:=l8.word;let k9:=l8.badge;let l9:=l8.owes;let o9:=l8.core;let q9:=l8.dom;k8<d1→(((((((((((((((((((True∧o8=o8)∧q8=q8)∧r8=r8)∧u8=u8)∧v8=v8)∧w8=w8)∧x8=x8)∧y8=y8)∧z8=z8)∧a9=a9)∧b9=b9)∧c9=c9)∧d9=d9)∧e9=e9)∧g9=g9)∧h9=h9)∧k9=k9)∧l9=l9)∧o9=o9)∧q9=q9);let r9:=c2∧(∀u9:Nat,let v9:=W.linesN (0+u9);u9<b2→True∧v9=v9∧(∀w9:Nat,let x9:=W.lines (0+u9) (0+w9);w9<v9→True∧x9=x9));let y9:=l2∧(∀z9:Nat,z9<k2→True∧W.bits (0+z9)=W.bits (0+z9));let a10:=v2∧(∀b10:Nat,let c10:=W.cores (0+b10);b10<u2→True∧c10=c10);let d10:=z2∧(∀e10:Nat,let g10:=W.readyN (0+e10);e10<y2→True∧g10=g10∧(∀h10:Nat,let k10:=W.ready (0+e10) (0+h10);h10<g10→True∧k10=k10));let l10:=g3∧(∀o10:Nat,let q10:=0+o10;let r10:=W.tlbsN q10;o10<e3→True∧r10=r10∧(∀u10:Nat,let v10:=W.tlbs q10 (0+u10);let w10:=v10.sp;let x10:=v10.pg;let y10:=v10.fr;let z10:=v10.wr;u10<r10→(((True∧w10=w10)∧x10=x10)∧y10=y10)∧z10=z10));let a11:=z3∧(∀b11:Nat,b11<y3→True∧W.doms (0+b11)=W.doms (0+b11));let c11:=v4&&((-1):Int)==(-1);tn 2 ((((((((((((((True∧c0)∧h0)∧q0)∧g1)∧d2)∧o2)∧w2)∧a3)∧h3)∧a4)∧d4)∧True)∧True∧
    s_copyW.match_1 (fun d11:X_copyW=>Prop) (X_copyW.mk W) (fun e11:Wd=>Lg e11))∧True∧tn 9 e4∧(((0:Int)==0)=true→((SV.ptr 0 0 none 0 0=SV.ptr 0 0 none 0 0∧(True∧a=a)∧(True∧b=b)∧True)∧((((((((((((True∧g4∧b0)∧g4∧g0)∧g4∧o0)∧g4∧e1)∧g4∧c2)∧g4∧l2)∧g4∧v2)∧g4∧z2)∧g4∧g3)∧g4∧z3)∧d4)∧c0∧h0∧q0∧g1∧d2∧o2∧w2∧a3∧h3∧a4∧True)∧l0≤100000∧l0≤e0*16)∧(k4=true→((l4∧True)∧e4)∧((q4∧((True∧l4)∧o4)∧True)∧e4)∧(u4=true→a8)∧cond u4 true false=true∧True)∧(k4=false→(b8→(q5∧(((((((((c8∧o0∧(∀g11:Nat,let h11:=w4.slots (0+g11);let k11:=h11.kind;let l11:=h11.base;let o11:=h11.len;let q11:=h11.mark;let r11:=h11.rights;let u11:=h11.badge;let v11:=h11.from_;g11<l0→((((((True∧k11=k11)∧l11=l11)∧o11=o11)∧q11=q11)∧r11=r11)∧u11=u11)∧v11=v11))∧h8)∧r9)∧y9)∧a10)∧d10)∧l10)∧a11)∧d4)∧True)∧e4)∧cond v4 (sameW y4 (Wd.mk a0 (fun w11:Nat=>W.ram (0+w11)) e0 (fun x11:Nat=>W.kinds (0+x11)) l0 (fun y11:Nat=>w4.slots (0+y11)) d1 (fun z11:Nat=>W.tasks (0+z11)) b2 (fun a12:Nat=>W.linesN (0+a12)) (fun b12:Nat=>fun c12:Nat=>W.lines (0+b12) (0+c12)) k2 (fun d12:Nat=>W.bits (0+d12)) u2 (fun e12:Nat=>W.cores (0+e12)) y2 (fun g12:Nat=>W.readyN (0+g12)) (fun h12:Nat=>fun k12:Nat=>W.ready (0+h12) (0+k12)) e3 (fun l12:Nat=>W.tlbsN (0+l12)) (fun o12:Nat=>fun q12:Nat=>W.tlbs (0+o12) (0+q12)) y3 (fun r12:Nat=>W.doms (0+r12)) c4)) false=true∧True))∧(((0:Int)==0)=false→(((0:Int) !=0)=true→(((0:Int)=0∧True)∧e4)∧((q4∧((True∧(0:Int)=0)∧o4)∧True)∧e4)∧(c11=true→a8)∧cond c11 true false=true∧True)∧(((0:Int) !=0)=false→(b8→(q5∧(((((((((c8∧o0∧(∀u12:Nat,
    let v12:=W.slots (0+u12);let w12:=v12.kind;let x12:=v12.base;let y12:=v12.len;let z12:=v12.mark;let a13:=v12.rights;let b13:=v12.badge;let c13:=v12.from_;u12<l0→((((((True∧w12=w12)∧x12=x12)∧y12=y12)∧z12=z12)∧a13=a13)∧b13=b13)∧c13=c13))∧h8)∧r9)∧y9)∧a10)∧d10)∧l10)∧a11)∧d4)∧True)∧e4)∧cond v4 (sameW y4 (Wd.mk a0 (fun d13:Nat=>W.ram (0+d13)) e0 (fun e13:Nat=>W.kinds (0+e13)) l0 (fun g13:Nat=>W.slots (0+g13)) d1 (fun h13:Nat=>W.tasks (0+h13)) b2 (fun k13:Nat=>W.linesN (0+k13)) (fun l13:Nat=>fun o13:Nat=>W.lines (0+l13) (0+o13)) k2 (fun q13:Nat=>W.bits (0+q13)) u2 (fun r13:Nat=>W.cores (0+r13)) y2 (fun u13:Nat=>W.readyN (0+u13)) (fun v13:Nat=>fun w13:Nat=>W.ready (0+v13) (0+w13)) e3 (fun x13:Nat=>W.tlbsN (0+x13)) (fun y13:Nat=>fun z13:Nat=>W.tlbs (0+y13) (0+z13)) y3 (fun a14:Nat=>W.doms (0+a14)) c4)) false=true∧True)))
set_option maxHeartbeats 2000000 in
theorem ok_tmvL : FnOK Tryz.prog glE 15 c_tmvL := ok_of (.cons ok_is (.cons (ok_err.up glN_glE) (.cons (ok_copyW.up glN_glE) (.cons ok_nothing (.cons (ok_sameWorld.up glN_glE) (.cons ok_tmvR .nil)))))) false Tryz.call15 Tryz.func15 (fun _ => []) (V := V_tmvL) (fun _ => by kernel_rfl) fun ⟨W, a, b⟩ hp => by
  dsimp only [s_tmvL] at hp
  dsimp only [V_tmvL, tn, w64]
  simp only [std, stb, eq_self, implies_true, Bool.cond_self]
  obtain ⟨hs, hw⟩ := hp
  refine ⟨lg_sm hs, fun _ => ⟨pre_snd hw, fun h2 => ?_, fun h2 => ?_⟩, fun h => absurd h (by decide)⟩
  · simp only [fun X => gdW_no X (ne0 h2)]
    repeat' (first | exact trivial | rfl | refine And.intro ?_ ?_ | intro _ | exact absurd ‹_› (Nat.not_lt_zero _) | fail)
    simp
  · simp only [fun X => gdW_yes X (eq0 h2)]
    simp only [eq0 h2, Bool.true_and]
    exact sameW_refl _
structure X_treeMoves0 where
  (W : Wd) (a b : Int)
def s_treeMoves0 : Sy.Spec := ⟨X_treeMoves0, fun ⟨W, a, b⟩ => [wSV W, .v (.int .i64 a), .v (.int .i64 b)], fun _ => [], fun ⟨W, _, _⟩ => Snd W, fun _ => .v (.bool true), fun _ => [],
  fun args mem => match args with | [a0, a1, a2] => some ⟨wSVD a0, intD (a1), intD (a2)⟩ | _ => none⟩
def V_treeMoves0 : X_treeMoves0 → Prop := fun ⟨W, a, b⟩ => let a0:=W.nRam;let b0:=W.nKinds;let c0:=W.nSlots;let d0:=W.nTasks;let e0:=W.nLines;let g0:=W.nBits;let h0:=W.nCores;let k0:=W.nReady;let l0:=W.nTlbs;let o0:=W.nDoms;let q0:=((((((((((True∧a0=a0∧(∀u0:Nat,u0<a0→True∧W.ram u0=W.ram u0))∧b0=b0∧(∀v0:Nat,v0<b0→True∧W.kinds v0=W.kinds v0))∧c0=c0∧(∀w0:Nat,let x0:=W.slots w0;let y0:=x0.kind;let z0:=x0.base;let a1:=x0.len;let b1:=x0.mark;let c1:=x0.rights;let d1:=x0.badge;let e1:=x0.from_;w0<c0→((((((True∧y0=y0)∧z0=z0)∧a1=a1)∧b1=b1)∧c1=c1)∧d1=d1)∧e1=e1))∧d0=d0∧(∀g1:Nat,let h1:=W.tasks g1;let k1:=h1.prio;let l1:=h1.node;let o1:=h1.space;let q1:=h1.helper;let u1:=h1.loc;let v1:=h1.word;let w1:=h1.badge;let x1:=h1.owes;let y1:=h1.core;let z1:=h1.dom;g1<d0→(((((((((((((((((((True∧h1.r0=h1.r0)∧h1.r1=h1.r1)∧h1.r2=h1.r2)∧h1.r3=h1.r3)∧h1.r4=h1.r4)∧h1.r5=h1.r5)∧h1.r6=h1.r6)∧h1.r7=h1.r7)∧h1.pc=h1.pc)∧h1.st=h1.st)∧k1=k1)∧l1=l1)∧o1=o1)∧q1=q1)∧u1=u1)∧v1=v1)∧w1=w1)∧x1=x1)∧y1=y1)∧z1=z1))∧e0=e0∧(∀a2:Nat,let b2:=W.linesN a2;a2<e0→True∧b2=b2∧(∀c2:Nat,c2<b2→True∧W.lines a2 c2=W.lines a2 c2)))∧g0=g0∧(∀d2:Nat,d2<g0→True∧W.bits d2=W.bits d2))∧h0=h0∧(∀e2:Nat,e2<h0→True∧W.cores e2=W.cores e2))∧k0=k0∧(∀g2:Nat,let h2:=W.readyN g2;g2<k0→True∧h2=h2∧(∀k2:Nat,k2<h2→True∧W.ready g2 k2=W.ready g2 k2)))∧l0=l0∧(∀l2:Nat,let o2:=W.tlbsN l2;l2<l0→True∧o2=o2∧(∀q2:Nat,let u2:=W.tlbs l2 q2;let v2:=u2.sp;let w2:=u2.pg;let x2:=u2.fr;let y2:=u2.wr;q2<o2→(((True∧v2=v2)∧w2=w2)∧x2=x2)∧y2=y2)))∧o0=o0∧(∀z2:Nat,z2<o0→True∧W.doms z2=W.doms z2))∧W.time=W.time;let a3:=q0∧True;
    let b3:=true=true∧True;let c3:=True∧Sm W∧Snd W;let d3:=bthE W a b;let e3:=gdW d3 (Wd.mk a0 W.ram b0 W.kinds c0 (fun g3:Nat=>cond (d3==0) (trn a b (mvS W.slots (Int.toNat a) (Int.toNat b) g3)) (W.slots g3)) d0 W.tasks e0 W.linesN W.lines g0 W.bits h0 W.cores k0 W.readyN W.ready l0 W.tlbsN W.tlbs o0 W.doms W.time);let h3:=e3.nRam;let k3:=e3.nKinds;let l3:=e3.nSlots;let o3:=e3.nTasks;let q3:=e3.nLines;let u3:=e3.nBits;let v3:=e3.nCores;let w3:=e3.nReady;let x3:=e3.nTlbs;let y3:=e3.nDoms;let z3:=e3.time;tn 3 ((a3∧True∧True)∧(hgB W=true→b3)∧(hgB W=false→((q0∧a=a∧b=b∧True)∧c3)∧True∧tn 10 True∧tn 4 ((a3∧c3)∧True∧(((((((((((((True∧h3=h3∧(∀a4:Nat,a4<h3→True∧e3.ram a4=e3.ram a4))∧k3=k3∧(∀b4:Nat,b4<k3→True∧e3.kinds b4=e3.kinds b4))∧l3=l3∧(∀c4:Nat,let d4:=e3.slots c4;let e4:=d4.kind;let g4:=d4.base;let h4:=d4.len;let k4:=d4.mark;let l4:=d4.rights;let o4:=d4.badge;let q4:=d4.from_;c4<l3→((((((True∧e4=e4)∧g4=g4)∧h4=h4)∧k4=k4)∧l4=l4)∧o4=o4)∧q4=q4))∧o3=o3∧(∀u4:Nat,let v4:=e3.tasks u4;let w4:=v4.prio;let x4:=v4.node;let y4:=v4.space;let z4:=v4.helper;let a5:=v4.loc;let b5:=v4.word;let c5:=v4.badge;let d5:=v4.owes;let e5:=v4.core;let g5:=v4.dom;u4<o3→(((((((((((((((((((True∧v4.r0=v4.r0)∧v4.r1=v4.r1)∧v4.r2=v4.r2)∧v4.r3=v4.r3)∧v4.r4=v4.r4)∧v4.r5=v4.r5)∧v4.r6=v4.r6)∧v4.r7=v4.r7)∧v4.pc=v4.pc)∧v4.st=v4.st)∧w4=w4)∧x4=x4)∧y4=y4)∧z4=z4)∧a5=a5)∧b5=b5)∧c5=c5)∧d5=d5)∧e5=e5)∧g5=g5))∧q3=q3∧(∀h5:Nat,let k5:=e3.linesN h5;h5<q3→True∧k5=k5∧(∀l5:Nat,l5<k5→True∧e3.lines h5 l5=e3.lines h5 l5)))∧u3=u3∧
    (∀o5:Nat,o5<u3→True∧e3.bits o5=e3.bits o5))∧v3=v3∧(∀q5:Nat,q5<v3→True∧e3.cores q5=e3.cores q5))∧w3=w3∧(∀u5:Nat,let v5:=e3.readyN u5;u5<w3→True∧v5=v5∧(∀w5:Nat,w5<v5→True∧e3.ready u5 w5=e3.ready u5 w5)))∧x3=x3∧(∀x5:Nat,let y5:=e3.tlbsN x5;x5<x3→True∧y5=y5∧(∀z5:Nat,let a6:=e3.tlbs x5 z5;let b6:=a6.sp;let c6:=a6.pg;let d6:=a6.fr;let e6:=a6.wr;z5<y5→(((True∧b6=b6)∧c6=c6)∧d6=d6)∧e6=e6)))∧y3=y3∧(∀g6:Nat,g6<y3→True∧e3.doms g6=e3.doms g6))∧z3=z3)∧(d3=d3∧((-1):Int)=(-1))∧q0∧(0:Int)=0∧(tn 2 (a=a)∧True∧b=b)∧True)∧c3)∧b3)))
set_option maxHeartbeats 2000000 in
theorem fc_treeMoves0 : ∀ x, s_treeMoves0.pre x → FnC Tryz.prog glE 3 (s_treeMoves0.args x) (s_treeMoves0.mem x) (s_treeMoves0.res x) (s_treeMoves0.mem' x) := fun x hp => fn_of (.cons (ok_hugeWorld.up glN_glE) (.cons ok_tmvL (.cons ok_sound0 (.cons ok_tmvX .nil)))) false Tryz.func3 ((fun _ => []) x) (V := V_treeMoves0 x) (by kernel_rfl) <| (fun ⟨W, a, b⟩ hp => by
  dsimp only [s_treeMoves0] at hp
  dsimp only [V_treeMoves0, tn, w64]
  simp only [std, stb, eq_self, implies_true, Bool.cond_self]
  try simp only [wd_eta]
  intro h0
  have h0 := sm_of h0
  repeat' (first | exact h0 | exact hp | exact lg_sm h0 | exact trivial | rfl | refine And.intro ?_ ?_ | fail)
  : ∀ x, s_treeMoves0.pre x → V_treeMoves0 x) x hp
structure X_treeMoves8 where
  (W : Wd) (a b : Int)
def s_treeMoves8 : Sy.Spec := ⟨X_treeMoves8, fun ⟨W, a, b⟩ => [wSV W, .v (.int .i64 a), .v (.int .i64 b)], fun _ => [], fun ⟨W, _, _⟩ => wE W ≠ 0, fun _ => .v (.bool true), fun _ => [],
  fun args mem => match args with | [a0, a1, a2] => some ⟨wSVD a0, intD (a1), intD (a2)⟩ | _ => none⟩
def V_treeMoves8 : X_treeMoves8 → Prop := fun ⟨W, a, b⟩ => let a0:=W.nKinds;let b0:=W.nSlots;let c0:=W.nTasks;let d0:=W.nLines;let e0:=W.nCores;let g0:=W.nReady;let h0:=((((((((((True∧W.nRam=W.nRam∧(∀k0:Nat,k0<W.nRam→True∧W.ram k0=W.ram k0))∧a0=a0∧(∀l0:Nat,l0<a0→True∧W.kinds l0=W.kinds l0))∧b0=b0∧(∀o0:Nat,let q0:=W.slots o0;let u0:=q0.kind;let v0:=q0.base;let w0:=q0.len;let x0:=q0.mark;let y0:=q0.rights;let z0:=q0.badge;let a1:=q0.from_;o0<b0→((((((True∧u0=u0)∧v0=v0)∧w0=w0)∧x0=x0)∧y0=y0)∧z0=z0)∧a1=a1))∧c0=c0∧(∀b1:Nat,let c1:=W.tasks b1;let d1:=c1.prio;let e1:=c1.node;let g1:=c1.space;let h1:=c1.helper;let k1:=c1.loc;let l1:=c1.word;let o1:=c1.badge;let q1:=c1.owes;let u1:=c1.core;let v1:=c1.dom;b1<c0→(((((((((((((((((((True∧c1.r0=c1.r0)∧c1.r1=c1.r1)∧c1.r2=c1.r2)∧c1.r3=c1.r3)∧c1.r4=c1.r4)∧c1.r5=c1.r5)∧c1.r6=c1.r6)∧c1.r7=c1.r7)∧c1.pc=c1.pc)∧c1.st=c1.st)∧d1=d1)∧e1=e1)∧g1=g1)∧h1=h1)∧k1=k1)∧l1=l1)∧o1=o1)∧q1=q1)∧u1=u1)∧v1=v1))∧d0=d0∧(∀w1:Nat,let x1:=W.linesN w1;w1<d0→True∧x1=x1∧(∀y1:Nat,y1<x1→True∧W.lines w1 y1=W.lines w1 y1)))∧W.nBits=W.nBits∧(∀z1:Nat,z1<W.nBits→True∧W.bits z1=W.bits z1))∧e0=e0∧(∀a2:Nat,a2<e0→True∧W.cores a2=W.cores a2))∧g0=g0∧(∀b2:Nat,let c2:=W.readyN b2;b2<g0→True∧c2=c2∧(∀d2:Nat,d2<c2→True∧W.ready b2 d2=W.ready b2 d2)))∧W.nTlbs=W.nTlbs∧(∀e2:Nat,let g2:=W.tlbsN e2;e2<W.nTlbs→True∧g2=g2∧(∀h2:Nat,let k2:=W.tlbs e2 h2;let l2:=k2.sp;let o2:=k2.pg;let q2:=k2.fr;let u2:=k2.wr;h2<g2→(((True∧l2=l2)∧o2=o2)∧q2=q2)∧u2=u2)))∧W.nDoms=W.nDoms∧(∀v2:Nat,v2<W.nDoms→True∧W.doms v2=W.doms v2))∧W.time=W.time;let w2:=h0∧True;
    let x2:=True∧True;let y2:=true=true∧True;let z2:=True∧Sm W∧wE W≠0;let a3:=(0:Int)=0;let b3:=True∧a3;let c3:=0=0∧(∀d3:Nat,d3<0→b3);let e3:=True∧c3;let g3:=(b3∧a3)∧a3;let h3:=(((g3∧a3)∧a3)∧a3)∧a3;let k3:=((-1):Int)=(-1);let l3:=0=0∧(∀o3:Nat,o3<0→e3);tn 3 ((w2∧x2)∧(hgB W=true→y2)∧(hgB W=false→((h0∧a=a∧b=b∧True)∧z2)∧True∧tn 9 x2∧tn 4 ((w2∧z2)∧True∧((((((((((((e3∧c3)∧0=0∧(∀q3:Nat,q3<0→h3))∧0=0∧(∀u3:Nat,u3<0→((((((((((((h3∧a3)∧a3)∧a3)∧a3)∧k3)∧k3)∧k3)∧k3)∧a3)∧a3)∧k3)∧a3)∧a3))∧l3)∧c3)∧c3)∧l3)∧0=0∧(∀v3:Nat,v3<0→True∧0=0∧(∀w3:Nat,w3<0→g3∧false=false)))∧c3)∧a3)∧((8:Int)=8∧k3)∧h0∧(8:Int)=8∧x2)∧True∧s_did8.match_1 (fun x3:X_did8=>Prop) (X_did8.mk W) (fun y3:Wd=>Lg y3))∧y2)))
set_option maxHeartbeats 2000000 in
theorem fc_treeMoves8 : ∀ x, s_treeMoves8.pre x → FnC Tryz.prog glE 3 (s_treeMoves8.args x) (s_treeMoves8.mem x) (s_treeMoves8.res x) (s_treeMoves8.mem' x) := fun x hp => fn_of (.cons (ok_hugeWorld.up glN_glE) (.cons ok_tmvY (.cons ok_sound8 (.cons ok_did8 .nil)))) false Tryz.func3 ((fun _ => []) x) (V := V_treeMoves8 x) (by kernel_rfl) <| (fun ⟨W, a, b⟩ hp => by
  dsimp only [s_treeMoves8] at hp
  dsimp only [V_treeMoves8, tn, w64]
  simp only [std, stb, eq_self, implies_true, Bool.cond_self]
  try simp only [wd_eta]
  intro h0
  have h0 := sm_of h0
  repeat' (first | exact h0 | exact hp | exact lg_sm h0 | exact trivial | rfl | refine And.intro ?_ ?_ | fail)
  : ∀ x, s_treeMoves8.pre x → V_treeMoves8 x) x hp
structure X_treeMoves where
  (W : Wd) (a b : Int)
def s_treeMoves : Sy.Spec := ⟨X_treeMoves, fun ⟨W, a, b⟩ => [wSV W, .v (.int .i64 a), .v (.int .i64 b)], fun _ => [], fun _ => True, fun _ => .v (.bool true), fun _ => [],
  fun args mem => match args with | [a0, a1, a2] => some ⟨wSVD a0, intD (a1), intD (a2)⟩ | _ => none⟩
def c_treeMoves : Con := ⟨[], s_treeMoves.g, none⟩
theorem ok_treeMoves : FnOK Tryz.prog glE 3 c_treeMoves := fnOK_of Tryz.call3 fun ⟨W, a, b⟩ _ => if h : wE W = 0 then fc_treeMoves0 ⟨W, a, b⟩ (Snd.iff.1 h) else fc_treeMoves8 ⟨W, a, b⟩ h
end Go.Proofs.YtdjilaofmdhikaaGreatDoor
namespace Go.Proofs.YtdjilaofmdhikaaGreatDoor
open Go.ChangeShapes Go.WideShapes Go.RowKit Go.Sy
theorem K.own : ownKnob Tryz.prog.godebug = none := by kernel_rfl
theorem K.et : Tryz.prog.globalNamed "errors.errorType" = some 0 := by kernel_rfl
theorem K.rt : (Tryz.prog.cutTypes.find? (·.1 == "internal/reflectlite.rtype")).map (·.2) = some 182 := by kernel_rfl
theorem K.oneRow : ((List.range Tryz.prog.types.size).filter fun t => Tryz.prog.rowNamed t [101, 114, 114, 111, 114]) = [31] := by kernel_rfl
theorem K.handle {laid : List (String × DataW Unit)} {W : World} (h : laidMetH Tryz.prog laid W) (hm : ("errors.errorType", Rows.laid_errors_errorType) ∈ laid) : W.cell? ⟨0, 0, none⟩ = some A.eTy := by
  have hf : ("errors.errorType", Rows.laid_errors_errorType) ∈ laid.filter fun x => x.2.handleName?.isSome := List.mem_filter.2 ⟨hm, by rfl⟩
  unfold laidMetH at h
  split at h
  · next e => rw [e] at hf; cases hf
  next x r e =>
  rw [e] at hf
  obtain ⟨name, u, ty, e1, e2, e3, e4, e5⟩ := h.2 _ hf
  have en : name = [101, 114, 114, 111, 114] := (Option.some.inj e1).symm
  subst en
  obtain rfl := Option.some.inj (K.rt.symm.trans e2)
  have hm : ty ∈ (List.range Tryz.prog.types.size).filter fun t => Tryz.prog.rowNamed t [101, 114, 114, 111, 114] := List.mem_filter.2 ⟨List.mem_range.2 e3, e4⟩
  rw [K.oneRow] at hm
  obtain rfl := List.mem_singleton.1 hm
  have hh : typeHandle Tryz.prog 31 = .pointer (some ⟨1, 31, none⟩) := by kernel_rfl
  rw [hh] at e5
  unfold A.eTy
  simpa using World.var?_cell K.et e5 0
noncomputable def K.world (os : Os) : World :=
  let w0 := World.holding Tryz.prog os ⟨#[], #[], []⟩
  { w0 with heap := w0.heap.modify 0 fun
      | .cells _ t frozen => .cells #[A.eTy] t frozen
      | o => o }
theorem K.met (os : Os) (args : Array Value) : laidMetH Tryz.prog [("errors.errorType", Rows.laid_errors_errorType)] ((K.world os).forCall (fun _ _ => 0) ⟨#[], args, []⟩).memory :=
  laidMetH_of_parts (laidMet_nil _ _) (by kernel_rfl)
theorem K.laidOut : laidOutB Tryz.prog = true := by kernel_rfl
theorem K.trodAll {H : Type} {enc : TypeId × Value → H} {P : Program} (hl : laidOutB P = true) {W W' : World} (hb : Below W.heap.size W W') : ∀ {ts : List TypeId} {vs : List Value} {ds : List (DataW H)} {ps : List MemPlace},
    (ts.all fun t => P.readableRec t && decide (t < P.types.size)) = true → DataW.TrodAll enc P W 0 (fun _ => true) true ts vs ds ps → (∀ x ∈ ps, x.block < W.heap.size) → DataW.TrodAll enc P W' 0 (fun b => decide (b < W.heap.size)) true ts vs ds ps
  | [], [], [], _, _, h, _ => h
  | t :: ts, v :: vs, d :: ds, ps, hr, ⟨p, q, h1, h2, e⟩, hlt => by
    subst e
    simp only [List.all_cons, Bool.and_eq_true, decide_eq_true_eq] at hr
    exact ⟨p, q, Below.trod hl hr.1.1 hr.1.2 h1 hb (fun x hx => hlt x (List.mem_append_left _ hx)), K.trodAll hl hb hr.2 h2 (fun x hx => hlt x (List.mem_append_right _ hx)), rfl⟩
theorem K.underlying4 : Tryz.prog.underlying 4 = some .bool := by kernel_rfl
theorem K.len {H : Type} {enc : TypeId × Value → H} {P : Program} {w : World} {base : Nat} {spare : Nat → Bool} {held : Bool} : ∀ {ts : List TypeId} {vs : List Value} {ds : List (DataW H)} {ps : List MemPlace}, DataW.TrodAll enc P w base spare held ts vs ds ps → ds.length = ts.length
  | [], [], [], _, _ => rfl
  | _ :: _, _ :: _, _ :: _, _, ⟨_, _, _, h, _⟩ => by simp [K.len h]
theorem K.noStand {ps : Array TypeId} (h : (ps.toList.all fun t => !Tryz.prog.wantsStandIn t) = true) {j : Nat} {t : TypeId} (ht : ps[j]? = some t) : Tryz.prog.wantsStandIn t = false := by
  have := List.all_eq_true.1 h t (by rw [Array.mem_toList_iff]; exact Array.mem_of_getElem? ht)
  simpa using this
set_option maxRecDepth 100000 in
theorem K.lift {f : FuncId} {fn : Func} {s : ChangeSpec} {X : World → Prop} (hX : ∀ (w w' : World), w.heap = w'.heap → X w → X w') (os : Os) (started : os.Started) (H : Type) (enc : TypeId × Value → H)
    (noInit : Tryz.checked.prog.inits.idxOf? f = none) (hfn : Tryz.checked.prog.funcs[f]? = some fn)
    (hs : ∀ ds : List (DataW H), ds.length = fn.params.toList.length → s.fn H (ds ++ []) = { results := [.lit (.bool true)], args := ds }) (hv : s.vars = []) (hr : fn.resultTypes = #[4])
    (hrow : (fn.params.toList.all fun t => Tryz.prog.readableRec t && decide (t < Tryz.prog.types.size)) = true)
    (witness : ∃ (w : World) (tape : Tape) (i : Input), w.os = os ∧ (w.forCall tape i).Shaped Tryz.prog ∧ i.vars = [] ∧ Input.okWide Tryz.prog (w.forCall tape i) .any w.heap.size f i ∧
      ((s.pre enc Tryz.prog fn [] false (w.forCall tape i).memory i.args ∧ X (w.forCall tape i).memory) ∧ sizedMet enc Tryz.prog fn (OpenSpec.ofChange s) false (w.forCall tape i).memory i.args) ∧ ({} : Assume).holds Tryz.prog (lone (Frame.enter Tryz.prog f i.args .normal) [] (w.forCall tape i)))
    (contract : ∀ (W : World) (base : Nat) (args : Array Value) (ds : List (DataW H)) (p : List MemPlace),
      (∀ (j : Nat) t v, fn.params[j]? = some t → args[j]? = some v → Value.okWide Tryz.prog W .any base t v) →
      DataW.TrodAll enc Tryz.prog W 0 (fun _ => true) true fn.params.toList args.toList ds p → X W → (∀ x ∈ p, x.block < W.heap.size) →
      Calls Tryz.prog f args W fun e W' => e = .returned (.bool true) ∧ Below W.heap.size W W') :
    ReturnsInHanded {} Tryz.checked os f .any (fun w args => (s.pre enc Tryz.prog fn [] false w args ∧ X w) ∧ sizedMet enc Tryz.prog fn (OpenSpec.ofChange s) false w args) (s.post enc Tryz.prog fn false true false false) := by
  refine returnsInHanded_of_change_and (C := Tryz.checked) (X := fun w _ => X w) (fun w w' _ hh h => hX w w' hh h) K.own started noInit hfn witness ?_
  intro W base args ds gs before hval hW _ _ hL _
  have hW' := hW
  obtain ⟨p, q, hA, hV, rfl, hfz, _⟩ := hW
  have hlt : ∀ x ∈ p, x.block < W.heap.size := fun x hx => by simpa using hW'.lt x (List.mem_append_left _ hx)
  obtain ⟨rfl, rfl⟩ : gs = [] ∧ q = [] := by
    rw [hv] at hV
    cases gs with
    | nil => exact ⟨rfl, hV⟩
    | cons g r => exact absurd hV (by intro h; cases h)
  refine (contract W base args ds p hval hA hL hlt).mono fun e W' ⟨he, hb⟩ => ?_
  have e1 := hs ds (K.len hA)
  refine ⟨_, he, _, _, _, [], p, [], hW', ?_, ?_, ?_, hb.frame _, fun h => by cases h⟩
  · rw [e1, hr]; exact trodAll_mk1 (shut_bool K.underlying4 true)
  · rw [e1]; exact K.trodAll K.laidOut hb hrow hA hlt
  · rw [e1, hv]; rfl
theorem K.eT {laid : List (String × DataW Unit)} {W : World} (h : laidMetH Tryz.prog laid W) (hm : ("errors.errorType", Rows.laid_errors_errorType) ∈ laid) : Den W o0.bare (.pt false 1 fun _ => .v A.eTy) (.pointer (some ⟨0, 0, none⟩)) :=
  ⟨_, rfl, fun j hj => ⟨_, by obtain rfl : j = 0 := by omega
                              exact K.handle h hm, ⟨id, fun _ => id⟩, rfl⟩⟩
theorem K.gE {laid : List (String × DataW Unit)} {W : World} (h : laidMetH Tryz.prog laid W) (hm : ("errors.errorType", Rows.laid_errors_errorType) ∈ laid) (g : Nat) : Den W o0.bare (glE g) (.pointer (some ⟨g, 0, none⟩)) := by
  unfold glE
  split
  · exact K.eT h hm
  · trivial
end Go.Proofs.YtdjilaofmdhikaaGreatDoor
