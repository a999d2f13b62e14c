/- The law MailRings. -/
import Derived.Test.YtdjilaofmdhikaaGreatDoorYL
import Derived.Test.YtdjilaofmdhikaaGreatDoorYM
import Derived.Test.YtdjilaofmdhikaaGreatDoorYH
import Derived.OpenShut
import Derived.ChangeArms
import Derived.MakeChecks
import Derived.Lay
import Derived.Test.YtdjilaofmdhikaaGreatDoorTie
import Derived.ChangeSame
import Derived.ChangeVars
import Derived.JoinedOf
import Derived.RowKit
import Derived.LaidLaws
import Derived.LaidHandle
import Derived.Stop.Joined
import Derived.SevenTiedAt
import Derived.OpenVars
import Derived.Test.YtdjilaofmdhikaaGreatDoorCards
set_option linter.unusedVariables false
set_option linter.unusedSimpArgs false
set_option linter.unusedVariables false
set_option linter.unusedSimpArgs false
set_option maxRecDepth 100000
namespace Go.Proofs.YtdjilaofmdhikaaGreatDoor
open Go.RowKit Go.Sy
def rgE (W : Wd) (b g : Int) : Int := bif decide (b < 0) || decide ((W.nKinds : Int) ≤ b) then 2 else bif W.kinds b.toNat != 8 then 3 else bif farB g 65535 then 1 else 0
def rgX_tasks (W : Wd) (b g : Int) (i : Nat) : Run := bif rgE W b g == 0 then (rngW W b.toNat g).tasks i else (W).tasks i
def rgX_linesN (W : Wd) (b g : Int) (i : Nat) : Nat := bif rgE W b g == 0 then (rngW W b.toNat g).linesN i else (W).linesN i
def rgX_lines (W : Wd) (b g : Int) (i k : Nat) : Int := bif rgE W b g == 0 then (rngW W b.toNat g).lines i k else (W).lines i k
def rgX_bits (W : Wd) (b g : Int) (i : Nat) : Int := bif rgE W b g == 0 then (rngW W b.toNat g).bits i else (W).bits i
def rgX_readyN (W : Wd) (b g : Int) (i : Nat) : Nat := bif rgE W b g == 0 then (rngW W b.toNat g).readyN i else (W).readyN i
def rgX_ready (W : Wd) (b g : Int) (i k : Nat) : Int := bif rgE W b g == 0 then (rngW W b.toNat g).ready i k else (W).ready i k
def rgX (W : Wd) (b g : Int) : Wd := { W with tasks := rgX_tasks W b g, linesN := rgX_linesN W b g, lines := rgX_lines W b g, bits := rgX_bits W b g, readyN := rgX_readyN W b g, ready := rgX_ready W b g }
theorem rgX_t {W : Wd} {b g : Int} (h : (rgE W b g == 0) = true) : rgX W b g = rngW W b.toNat g := by
  have e_tasks : rgX_tasks W b g = (rngW W b.toNat g).tasks := by
    funext i
    unfold rgX_tasks
    rw [h]
    rfl
  have e_linesN : rgX_linesN W b g = (rngW W b.toNat g).linesN := by
    funext i
    unfold rgX_linesN
    rw [h]
    rfl
  have e_lines : rgX_lines W b g = (rngW W b.toNat g).lines := by
    funext i k
    unfold rgX_lines
    rw [h]
    rfl
  have e_bits : rgX_bits W b g = (rngW W b.toNat g).bits := by
    funext i
    unfold rgX_bits
    rw [h]
    rfl
  have e_readyN : rgX_readyN W b g = (rngW W b.toNat g).readyN := by
    funext i
    unfold rgX_readyN
    rw [h]
    rfl
  have e_ready : rgX_ready W b g = (rngW W b.toNat g).ready := by
    funext i k
    unfold rgX_ready
    rw [h]
    rfl
  show ({ W with tasks := rgX_tasks W b g, linesN := rgX_linesN W b g, lines := rgX_lines W b g, bits := rgX_bits W b g, readyN := rgX_readyN W b g, ready := rgX_ready W b g } : Wd) = _
  rw [e_tasks, e_linesN, e_lines, e_bits, e_readyN, e_ready] <;> kernel_rfl
theorem rgX_f {W : Wd} {b g : Int} (h : (rgE W b g == 0) = false) : rgX W b g = W := by
  have e_tasks : rgX_tasks W b g = (W).tasks := by
    funext i
    unfold rgX_tasks
    rw [h]
    rfl
  have e_linesN : rgX_linesN W b g = (W).linesN := by
    funext i
    unfold rgX_linesN
    rw [h]
    rfl
  have e_lines : rgX_lines W b g = (W).lines := by
    funext i k
    unfold rgX_lines
    rw [h]
    rfl
  have e_bits : rgX_bits W b g = (W).bits := by
    funext i
    unfold rgX_bits
    rw [h]
    rfl
  have e_readyN : rgX_readyN W b g = (W).readyN := by
    funext i
    unfold rgX_readyN
    rw [h]
    rfl
  have e_ready : rgX_ready W b g = (W).ready := by
    funext i k
    unfold rgX_ready
    rw [h]
    rfl
  show ({ W with tasks := rgX_tasks W b g, linesN := rgX_linesN W b g, lines := rgX_lines W b g, bits := rgX_bits W b g, readyN := rgX_readyN W b g, ready := rgX_ready W b g } : Wd) = _
  rw [e_tasks, e_linesN, e_lines, e_bits, e_readyN, e_ready] <;> kernel_rfl
def heE (W : Wd) (t b : Int) : Int := actE W t b 8
def heX_tasks (W : Wd) (t b : Int) (i : Nat) : Run := bif heE W t b == 0 then (herW W t b).tasks i else (W).tasks i
def heX_linesN (W : Wd) (t b : Int) (i : Nat) : Nat := bif heE W t b == 0 then (herW W t b).linesN i else (W).linesN i
def heX_lines (W : Wd) (t b : Int) (i k : Nat) : Int := bif heE W t b == 0 then (herW W t b).lines i k else (W).lines i k
def heX_bits (W : Wd) (t b : Int) (i : Nat) : Int := bif heE W t b == 0 then (herW W t b).bits i else (W).bits i
def heX_cores (W : Wd) (t b : Int) (i : Nat) : Int := bif heE W t b == 0 then (herW W t b).cores i else (W).cores i
def heX (W : Wd) (t b : Int) : Wd := { W with tasks := heX_tasks W t b, linesN := heX_linesN W t b, lines := heX_lines W t b, bits := heX_bits W t b, cores := heX_cores W t b }
theorem heX_t {W : Wd} {t b : Int} (h : (heE W t b == 0) = true) : heX W t b = herW W t b := by
  have e_tasks : heX_tasks W t b = (herW W t b).tasks := by
    funext i
    unfold heX_tasks
    rw [h]
    rfl
  have e_linesN : heX_linesN W t b = (herW W t b).linesN := by
    funext i
    unfold heX_linesN
    rw [h]
    rfl
  have e_lines : heX_lines W t b = (herW W t b).lines := by
    funext i k
    unfold heX_lines
    rw [h]
    rfl
  have e_bits : heX_bits W t b = (herW W t b).bits := by
    funext i
    unfold heX_bits
    rw [h]
    rfl
  have e_cores : heX_cores W t b = (herW W t b).cores := by
    funext i
    unfold heX_cores
    rw [h]
    rfl
  show ({ W with tasks := heX_tasks W t b, linesN := heX_linesN W t b, lines := heX_lines W t b, bits := heX_bits W t b, cores := heX_cores W t b } : Wd) = _
  rw [e_tasks, e_linesN, e_lines, e_bits, e_cores] <;> kernel_rfl
theorem heX_f {W : Wd} {t b : Int} (h : (heE W t b == 0) = false) : heX W t b = W := by
  have e_tasks : heX_tasks W t b = (W).tasks := by
    funext i
    unfold heX_tasks
    rw [h]
    rfl
  have e_linesN : heX_linesN W t b = (W).linesN := by
    funext i
    unfold heX_linesN
    rw [h]
    rfl
  have e_lines : heX_lines W t b = (W).lines := by
    funext i k
    unfold heX_lines
    rw [h]
    rfl
  have e_bits : heX_bits W t b = (W).bits := by
    funext i
    unfold heX_bits
    rw [h]
    rfl
  have e_cores : heX_cores W t b = (W).cores := by
    funext i
    unfold heX_cores
    rw [h]
    rfl
  show ({ W with tasks := heX_tasks W t b, linesN := heX_linesN W t b, lines := heX_lines W t b, bits := heX_bits W t b, cores := heX_cores W t b } : Wd) = _
  rw [e_tasks, e_linesN, e_lines, e_bits, e_cores] <;> kernel_rfl
structure X_rngC where
  (b g : Int) (W : Wd)
def s_rngC : Sy.Spec := ⟨X_rngC, fun ⟨b, g, _⟩ => [.ptr 0 0 none 0 0, .pt true 1 (fun _ => .v (.int .i64 b)), .pt true 1 (fun _ => .v (.int .i64 g))], fun ⟨_, _, W⟩ => wMem W, fun ⟨_, _, W⟩ => Sm W ∧ Snd W, fun ⟨b, g, W⟩ => .er 35 116 (rgE W b g) (-1), fun ⟨b, g, W⟩ => wMem (rgX W b g),
  fun args mem => match args with | [a0, a1, a2] => some ⟨intD (ptF a1 0), intD (ptF a2 0), wMJD mem 0⟩ | _ => none⟩
def c_rngC : Con := ⟨[true], s_rngC.g, none⟩
def V_rngC : X_rngC → Prop := fun ⟨b, g, W⟩ => let a0:=W.nKinds;let b0:=cond (decide (b<0)) true (decide ((a0:Int)≤b));let c0:=rgE W b g;let d0:=((-1):Int)=(-1);let e0:=0=0;let g0:=W.nRam=W.nRam;let h0:=a0=a0;let k0:=W.nSlots;let l0:=k0=k0;let o0:=W.nTasks;let q0:=o0=o0;let u0:=W.nLines;let v0:=u0=u0;let w0:=W.nBits;let x0:=w0=w0;let y0:=W.nCores;let z0:=y0=y0;let a1:=W.nReady;let b1:=a1=a1;let c1:=W.nTlbs=W.nTlbs;let d1:=W.nDoms=W.nDoms;let e1:=((((((((((True∧e0∧g0)∧e0∧h0)∧e0∧l0)∧e0∧q0)∧e0∧v0)∧e0∧x0)∧e0∧z0)∧e0∧b1)∧e0∧c1)∧e0∧d1)∧W.time=W.time;let g1:=g0∧(∀h1:Nat,h1<W.nRam→True∧W.ram h1=W.ram h1);let k1:=h0∧(∀l1:Nat,l1<a0→True∧W.kinds l1=W.kinds l1);let o1:=l0∧(∀q1:Nat,let u1:=W.slots q1;let v1:=u1.kind;let w1:=u1.base;let x1:=u1.len;let y1:=u1.mark;let z1:=u1.rights;let a2:=u1.badge;let b2:=u1.from_;q1<k0→((((((True∧v1=v1)∧w1=w1)∧x1=x1)∧y1=y1)∧z1=z1)∧a2=a2)∧b2=b2);let c2:=z0∧(∀d2:Nat,d2<y0→True∧W.cores d2=W.cores d2);let e2:=(c1∧(∀g2:Nat,let h2:=W.tlbsN g2;g2<W.nTlbs→True∧h2=h2∧(∀k2:Nat,let l2:=W.tlbs g2 k2;let o2:=l2.sp;let q2:=l2.pg;let u2:=l2.fr;let v2:=l2.wr;k2<h2→(((True∧o2=o2)∧q2=q2)∧u2=u2)∧v2=v2)))∧(d1∧(∀w2:Nat,w2<W.nDoms→True∧W.doms w2=W.doms w2))∧True;
    let x2:=e1∧g1∧k1∧o1∧(q0∧(∀y2:Nat,let z2:=W.tasks y2;let a3:=rgX_tasks W b g y2;y2<o0→(((((((((((((((((((True∧z2.r0=a3.r0)∧z2.r1=a3.r1)∧z2.r2=a3.r2)∧z2.r3=a3.r3)∧z2.r4=a3.r4)∧z2.r5=a3.r5)∧z2.r6=a3.r6)∧z2.r7=a3.r7)∧z2.pc=a3.pc)∧z2.st=a3.st)∧z2.prio=a3.prio)∧z2.node=a3.node)∧z2.space=a3.space)∧z2.helper=a3.helper)∧z2.loc=a3.loc)∧z2.word=a3.word)∧z2.badge=a3.badge)∧z2.owes=a3.owes)∧z2.core=a3.core)∧z2.dom=a3.dom))∧(v0∧(∀b3:Nat,let c3:=rgX_linesN W b g b3;b3<u0→True∧W.linesN b3=c3∧(∀d3:Nat,d3<c3→True∧W.lines b3 d3=rgX_lines W b g b3 d3)))∧(x0∧(∀e3:Nat,e3<w0→True∧W.bits e3=rgX_bits W b g e3))∧c2∧(b1∧(∀g3:Nat,let h3:=rgX_readyN W b g g3;g3<a1→True∧W.readyN g3=h3∧(∀k3:Nat,k3<h3→True∧W.ready g3 k3=rgX_ready W b g g3 k3)))∧e2;let l3:=Int.toNat b;let o3:=W.kinds (0+l3) !=8;let q3:=[g];let u3:Int:=cond (allB 1 (fun v3:Nat=>!farB (List.getD q3 (0+v3) 0) 65535)) 0 1;let w3:=u3 !=0;tn 9 ((b0=true→((2:Int)≠0∧c0=2∧d0)∧x2)∧(b0=false→tn 5 ((0≤b∧b<(a0:Int))∧(o3=true→((3:Int)≠0∧c0=3∧d0)∧x2)∧(o3=false→True∧(((1=1∧(∀x3:Nat,let y3:=List.getD q3 (0+x3) 0;x3<1→True∧y3=y3))∧True)∧True∧s_wordsP.match_1 (fun z3:X_wordsP=>Prop) (X_wordsP.mk 1 (fun a4:Nat=>List.getD q3 (0+a4) 0)) (fun b4:Nat=>fun c4:∀d4:Nat,Int=>b4≤1000))∧(w3=true→(u3=c0∧d0)∧x2)∧(w3=false→((SV.ptr 0 0 none 0 0=SV.ptr 0 0 none 0 0∧b=b∧g=g∧True)∧(e1∧g1∧k1∧o1∧(q0∧(∀e4:Nat,let g4:=W.tasks e4;let h4:=g4.prio;let k4:=g4.node;let l4:=g4.space;let o4:=g4.helper;let q4:=g4.loc;let u4:=g4.word;let v4:=g4.badge;let w4:=g4.owes;let x4:=g4.core;
    let y4:=g4.dom;e4<o0→(((((((((((((((((((True∧g4.r0=g4.r0)∧g4.r1=g4.r1)∧g4.r2=g4.r2)∧g4.r3=g4.r3)∧g4.r4=g4.r4)∧g4.r5=g4.r5)∧g4.r6=g4.r6)∧g4.r7=g4.r7)∧g4.pc=g4.pc)∧g4.st=g4.st)∧h4=h4)∧k4=k4)∧l4=l4)∧o4=o4)∧q4=q4)∧u4=u4)∧v4=v4)∧w4=w4)∧x4=x4)∧y4=y4))∧(v0∧(∀z4:Nat,let a5:=W.linesN z4;z4<u0→True∧a5=a5∧(∀b5:Nat,b5<a5→True∧W.lines z4 b5=W.lines z4 b5)))∧(x0∧(∀c5:Nat,c5<w0→True∧W.bits c5=W.bits c5))∧c2∧(b1∧(∀d5:Nat,let e5:=W.readyN d5;d5<a1→True∧e5=e5∧(∀g5:Nat,g5<e5→True∧W.ready d5 g5=W.ready d5 g5)))∧e2)∧BlP W b∧0≤g∧g≤65535)∧(c0=0∧d0)∧e1∧g1∧k1∧o1∧(q0∧(∀h5:Nat,let k5:=rngW_tasks W l3 g h5;let l5:=rgX_tasks W b g h5;h5<o0→(((((((((((((((((((True∧k5.r0=l5.r0)∧k5.r1=l5.r1)∧k5.r2=l5.r2)∧k5.r3=l5.r3)∧k5.r4=l5.r4)∧k5.r5=l5.r5)∧k5.r6=l5.r6)∧k5.r7=l5.r7)∧k5.pc=l5.pc)∧k5.st=l5.st)∧k5.prio=l5.prio)∧k5.node=l5.node)∧k5.space=l5.space)∧k5.helper=l5.helper)∧k5.loc=l5.loc)∧k5.word=l5.word)∧k5.badge=l5.badge)∧k5.owes=l5.owes)∧k5.core=l5.core)∧k5.dom=l5.dom))∧(v0∧(∀o5:Nat,let q5:=rgX_linesN W b g o5;o5<u0→True∧rngW_linesN W l3 g o5=q5∧(∀u5:Nat,u5<q5→True∧rngW_lines W l3 g o5 u5=rgX_lines W b g o5 u5)))∧(x0∧(∀v5:Nat,v5<w0→True∧rngW_bits W l3 g v5=rgX_bits W b g v5))∧c2∧(b1∧(∀w5:Nat,let x5:=rgX_readyN W b g w5;w5<a1→True∧rngW_readyN W l3 g w5=x5∧(∀y5:Nat,y5<x5→True∧rngW_ready W l3 g w5 y5=rgX_ready W b g w5 y5)))∧e2)))))
set_option maxHeartbeats 2000000 in
theorem ok_rngC : FnOK Tryz.prog glE 106 c_rngC := ok_of (.cons (ok_wordsP.up glN_glE) (.cons (ok_ringP.up glN_glE) .nil)) false Tryz.call106 Tryz.func106 (fun _ => []) (V := V_rngC) (fun _ => by kernel_rfl) fun ⟨b, g, W⟩ hp => by
  dsimp only [s_rngC] at hp
  dsimp only [V_rngC, tn, w64]
  simp only [std, stb, eq_self, implies_true, Bool.cond_self]
  try simp only [wd_eta]
  obtain ⟨hs, hw⟩ := hp
  refine ⟨fun h => ?_, fun h => ?_⟩
  · skip
    have e : rgE W b g = 2 := by unfold rgE; rw [h]; rfl
    refine ⟨⟨by decide, e⟩, ?_⟩
    have hc : (rgE W b g == 0) = false := by rw [e]; rfl
    have e_ := rgX_f hc
    have e_tasks : rgX_tasks W b g = _ := congrArg Wd.tasks e_
    have e_linesN : rgX_linesN W b g = _ := congrArg Wd.linesN e_
    have e_lines : rgX_lines W b g = _ := congrArg Wd.lines e_
    have e_bits : rgX_bits W b g = _ := congrArg Wd.bits e_
    have e_readyN : rgX_readyN W b g = _ := congrArg Wd.readyN e_
    have e_ready : rgX_ready W b g = _ := congrArg Wd.ready e_
    simp only [e_tasks, e_linesN, e_lines, e_bits, e_readyN, e_ready]
    clear e_ e_tasks e_linesN e_lines e_bits e_readyN e_ready
    repeat' (first | exact trivial | exact run20 rfl | rfl | refine And.intro ?_ ?_ | intro _ | fail)
  have hb : 0 ≤ b ∧ b < W.nKinds := by
    have h' := h
    simp only [Bool.or_eq_false_iff, decide_eq_false_iff_not] at h'
    omega
  refine ⟨hb, fun h2 => ?_, fun h2 => ⟨by decide, ?_⟩⟩
  · skip
    have e : rgE W b g = 3 := by unfold rgE; rw [h, h2]; rfl
    refine ⟨⟨by decide, e⟩, ?_⟩
    have hc : (rgE W b g == 0) = false := by rw [e]; rfl
    have e_ := rgX_f hc
    have e_tasks : rgX_tasks W b g = _ := congrArg Wd.tasks e_
    have e_linesN : rgX_linesN W b g = _ := congrArg Wd.linesN e_
    have e_lines : rgX_lines W b g = _ := congrArg Wd.lines e_
    have e_bits : rgX_bits W b g = _ := congrArg Wd.bits e_
    have e_readyN : rgX_readyN W b g = _ := congrArg Wd.readyN e_
    have e_ready : rgX_ready W b g = _ := congrArg Wd.ready e_
    simp only [e_tasks, e_linesN, e_lines, e_bits, e_readyN, e_ready]
    clear e_ e_tasks e_linesN e_lines e_bits e_readyN e_ready
    repeat' (first | exact trivial | exact run20 rfl | rfl | refine And.intro ?_ ?_ | intro _ | fail)
  have q : (bif allB 1 fun v3 => !farB ([g].getD v3 0) 65535 then (0 : Int) else 1) = bif farB g 65535 then 1 else 0 := by
    rw [all1]
    show (bif !farB g 65535 then (0 : Int) else 1) = _
    cases farB g 65535 <;> rfl
  rw [q]
  cases hf : farB g 65535 with
  | true =>
    refine ⟨fun _ => ?_, fun hh => absurd hh (by decide)⟩
    have e : rgE W b g = 1 := by unfold rgE; rw [h, h2, hf]; rfl
    refine ⟨e.symm, ?_⟩
    have hc : (rgE W b g == 0) = false := by rw [e]; rfl
    have e_ := rgX_f hc
    have e_tasks : rgX_tasks W b g = _ := congrArg Wd.tasks e_
    have e_linesN : rgX_linesN W b g = _ := congrArg Wd.linesN e_
    have e_lines : rgX_lines W b g = _ := congrArg Wd.lines e_
    have e_bits : rgX_bits W b g = _ := congrArg Wd.bits e_
    have e_readyN : rgX_readyN W b g = _ := congrArg Wd.readyN e_
    have e_ready : rgX_ready W b g = _ := congrArg Wd.ready e_
    simp only [e_tasks, e_linesN, e_lines, e_bits, e_readyN, e_ready]
    clear e_ e_tasks e_linesN e_lines e_bits e_readyN e_ready
    repeat' (first | exact trivial | exact run20 rfl | rfl | refine And.intro ?_ ?_ | intro _ | fail)
  | false =>
    have e : rgE W b g = 0 := by unfold rgE; rw [h, h2, hf]; rfl
    have hc : (rgE W b g == 0) = true := by rw [e]; rfl
    refine ⟨fun hh => absurd hh (by decide), fun _ => ⟨⟨bl_of hw hs hb.1 hb.2 (by simpa using h2), (farB_in hf).1, (farB_in hf).2⟩, e, ?_⟩⟩
    have e_ := rgX_t hc
    have e_tasks : rgX_tasks W b g = _ := congrArg Wd.tasks e_
    have e_linesN : rgX_linesN W b g = _ := congrArg Wd.linesN e_
    have e_lines : rgX_lines W b g = _ := congrArg Wd.lines e_
    have e_bits : rgX_bits W b g = _ := congrArg Wd.bits e_
    have e_readyN : rgX_readyN W b g = _ := congrArg Wd.readyN e_
    have e_ready : rgX_ready W b g = _ := congrArg Wd.ready e_
    simp only [e_tasks, e_linesN, e_lines, e_bits, e_readyN, e_ready]
    clear e_ e_tasks e_linesN e_lines e_bits e_readyN e_ready
    repeat' (first | exact trivial | exact run20 rfl | rfl | refine And.intro ?_ ?_ | intro _ | fail)
structure X_rngD where
  (W : Wd) (b g : Int)
def s_rngD : Sy.Spec := ⟨X_rngD, fun ⟨W, b, g⟩ => [wSV W, .fn 106 2 (lsv [.pt true 1 (fun _ => .v (.int .i64 b)), .pt true 1 (fun _ => .v (.int .i64 g))])], fun _ => [], fun ⟨W, _, _⟩ => Sm W ∧ Snd W, fun ⟨W, b, g⟩ => .tp 2 (lsv [wRd (gdW (rgE W b g) (rgX W b g)), .er 35 116 (rgE W b g) (-1)]), fun _ => [],
  fun args mem => match args with | [a0, a1] => (match isFn 106 a1 with | true => some ⟨wSVD a0, intD (ptF (fnF a1 0) 0), intD (ptF (fnF a1 1) 0)⟩ | false => none) | _ => none⟩
def c_rngD : Con := ⟨[], s_rngD.g, none⟩
def V_rngD : X_rngD → Prop := fun ⟨W, b, g⟩ => let a0:=W.nRam;let b0:=a0=a0;let c0:=b0∧(∀d0:Nat,d0<a0→True∧W.ram d0=W.ram d0);let e0:=W.nKinds;let g0:=e0=e0;let h0:=g0∧(∀k0:Nat,k0<e0→True∧W.kinds k0=W.kinds k0);let l0:=W.nSlots;let o0:=l0=l0;let q0:=o0∧(∀u0:Nat,let v0:=W.slots u0;let w0:=v0.kind;let x0:=v0.base;let y0:=v0.len;let z0:=v0.mark;let a1:=v0.rights;let b1:=v0.badge;let c1:=v0.from_;u0<l0→((((((True∧w0=w0)∧x0=x0)∧y0=y0)∧z0=z0)∧a1=a1)∧b1=b1)∧c1=c1);let d1:=W.nTasks;let e1:=d1=d1;let g1:=e1∧(∀h1:Nat,let k1:=W.tasks h1;let l1:=k1.prio;let o1:=k1.node;let q1:=k1.space;let u1:=k1.helper;let v1:=k1.loc;let w1:=k1.word;let x1:=k1.badge;let y1:=k1.owes;let z1:=k1.core;let a2:=k1.dom;h1<d1→(((((((((((((((((((True∧k1.r0=k1.r0)∧k1.r1=k1.r1)∧k1.r2=k1.r2)∧k1.r3=k1.r3)∧k1.r4=k1.r4)∧k1.r5=k1.r5)∧k1.r6=k1.r6)∧k1.r7=k1.r7)∧k1.pc=k1.pc)∧k1.st=k1.st)∧l1=l1)∧o1=o1)∧q1=q1)∧u1=u1)∧v1=v1)∧w1=w1)∧x1=x1)∧y1=y1)∧z1=z1)∧a2=a2);let b2:=W.nLines;let c2:=b2=b2;let d2:=c2∧(∀e2:Nat,let g2:=W.linesN e2;e2<b2→True∧g2=g2∧(∀h2:Nat,h2<g2→True∧W.lines e2 h2=W.lines e2 h2));let k2:=W.nBits;let l2:=k2=k2;let o2:=l2∧(∀q2:Nat,q2<k2→True∧W.bits q2=W.bits q2);let u2:=W.nCores;let v2:=u2=u2;let w2:=v2∧(∀x2:Nat,x2<u2→True∧W.cores x2=W.cores x2);let y2:=W.nReady;let z2:=y2=y2;let a3:=z2∧(∀b3:Nat,let c3:=W.readyN b3;b3<y2→True∧c3=c3∧(∀d3:Nat,d3<c3→True∧W.ready b3 d3=W.ready b3 d3));let e3:=W.nTlbs;let g3:=e3=e3;
    let h3:=g3∧(∀k3:Nat,let l3:=W.tlbsN k3;k3<e3→True∧l3=l3∧(∀o3:Nat,let q3:=W.tlbs k3 o3;let u3:=q3.sp;let v3:=q3.pg;let w3:=q3.fr;let x3:=q3.wr;o3<l3→(((True∧u3=u3)∧v3=v3)∧w3=w3)∧x3=x3));let y3:=W.nDoms;let z3:=y3=y3;let a4:=z3∧(∀b4:Nat,b4<y3→True∧W.doms b4=W.doms b4);let c4:=W.time=W.time;let d4:=(((((((((((True∧c0)∧h0)∧q0)∧g1)∧d2)∧o2)∧w2)∧a3)∧h3)∧a4)∧c4)∧True;let e4:=tn 10 True;let g4:=rgE W b g;let h4:=gdW g4 (rgX W b g);let k4:=h4.nRam;let l4:=h4.nKinds;let o4:=h4.nSlots;let q4:=h4.nTasks;let u4:=h4.nLines;let v4:=h4.nBits;let w4:=h4.nCores;let x4:=h4.nReady;let y4:=h4.nTlbs;let z4:=h4.nDoms;let a5:=h4.time;let b5:=True∧((((((((((True∧k4=0)∧l4=0)∧o4=0)∧q4=0)∧u4=0)∧v4=0)∧w4=0)∧x4=0)∧y4=0)∧z4=0)∧0=a5;let c5:=((-1):Int)=(-1);let d5:=0=0;let e5:=g4 !=0;tn 2 ((d4∧True∧s_wCheck.match_1 (fun g5:X_wCheck=>Prop) (X_wCheck.mk W) (fun h5:Wd=>Sm h5))∧((wE W !=0)=true→e4∧(b5∧(8:Int)≠0∧g4=8∧c5)∧True)∧((wE W !=0)=false→(d4∧True∧s_cloneW.match_1 (fun k5:X_cloneW=>Prop) (X_cloneW.mk W) (fun l5:Wd=>Lg l5))∧e4∧((SV.ptr 0 0 none 0 0=SV.ptr 0 0 none 0 0∧(True∧b=b)∧(True∧g=g)∧True)∧((((((((((((True∧d5∧b0)∧d5∧g0)∧d5∧o0)∧d5∧e1)∧d5∧c2)∧d5∧l2)∧d5∧v2)∧d5∧z2)∧d5∧g3)∧d5∧z3)∧c4)∧c0∧h0∧q0∧g1∧d2∧o2∧w2∧a3∧h3∧a4∧True)∧Sm W∧Snd W)∧(e5=true→e4∧(b5∧g4=g4∧c5)∧True)∧(e5=false→e4∧((True∧((((((((((True∧a0=k4∧(∀o5:Nat,o5<k4→True∧W.ram (0+o5)=h4.ram o5))∧e0=l4∧(∀q5:Nat,q5<l4→True∧W.kinds (0+q5)=h4.kinds q5))∧l0=o4∧(∀u5:Nat,let v5:=W.slots (0+u5);let w5:=h4.slots u5;u5<o4→((((((True∧v5.kind=w5.kind)∧
    v5.base=w5.base)∧v5.len=w5.len)∧v5.mark=w5.mark)∧v5.rights=w5.rights)∧v5.badge=w5.badge)∧v5.from_=w5.from_))∧d1=q4∧(∀x5:Nat,let y5:=rgX_tasks W b g (0+x5);let z5:=h4.tasks x5;x5<q4→(((((((((((((((((((True∧y5.r0=z5.r0)∧y5.r1=z5.r1)∧y5.r2=z5.r2)∧y5.r3=z5.r3)∧y5.r4=z5.r4)∧y5.r5=z5.r5)∧y5.r6=z5.r6)∧y5.r7=z5.r7)∧y5.pc=z5.pc)∧y5.st=z5.st)∧y5.prio=z5.prio)∧y5.node=z5.node)∧y5.space=z5.space)∧y5.helper=z5.helper)∧y5.loc=z5.loc)∧y5.word=z5.word)∧y5.badge=z5.badge)∧y5.owes=z5.owes)∧y5.core=z5.core)∧y5.dom=z5.dom))∧b2=u4∧(∀a6:Nat,a6<u4→True∧rgX_linesN W b g (0+a6)=h4.linesN a6∧(∀b6:Nat,b6<h4.linesN a6→True∧rgX_lines W b g (0+a6) (0+b6)=h4.lines a6 b6)))∧k2=v4∧(∀c6:Nat,c6<v4→True∧rgX_bits W b g (0+c6)=h4.bits c6))∧u2=w4∧(∀d6:Nat,d6<w4→True∧W.cores (0+d6)=h4.cores d6))∧y2=x4∧(∀e6:Nat,e6<x4→True∧rgX_readyN W b g (0+e6)=h4.readyN e6∧(∀g6:Nat,g6<h4.readyN e6→True∧rgX_ready W b g (0+e6) (0+g6)=h4.ready e6 g6)))∧e3=y4∧(∀h6:Nat,let k6:=0+h6;h6<y4→True∧W.tlbsN k6=h4.tlbsN h6∧(∀l6:Nat,let o6:=W.tlbs k6 (0+l6);let q6:=h4.tlbs h6 l6;l6<h4.tlbsN h6→(((True∧o6.sp=q6.sp)∧o6.pg=q6.pg)∧o6.fr=q6.fr)∧o6.wr=q6.wr)))∧y3=z4∧(∀u6:Nat,u6<z4→True∧W.doms (0+u6)=h4.doms u6))∧W.time=a5)∧g4=0∧c5)∧True)))
set_option maxHeartbeats 2000000 in
theorem ok_rngD : FnOK Tryz.prog glE 66 c_rngD := ok_of (.cons (ok_wCheck.up glN_glE) (.cons (ok_cloneW.up glN_glE) (.cons ok_rngC .nil))) false Tryz.call66 Tryz.func66 (fun _ => []) (V := V_rngD) (fun _ => by kernel_rfl) fun ⟨W, b, g⟩ hp => by
  dsimp only [s_rngD] at hp
  dsimp only [V_rngD, tn, w64]
  simp only [std, stb, eq_self, implies_true, Bool.cond_self]
  obtain ⟨hs, hw⟩ := hp
  have h0 := snd0 hw
  refine ⟨hs, fun h => absurd (by simpa using h0) (by simpa using h), fun _ => ⟨lg_sm hs, ⟨hs, hw⟩, fun h2 => ?_, fun h2 => ?_⟩⟩
  · simp only [fun X => gdW_no X (ne0 h2)]
    repeat' (first | exact trivial | rfl | refine And.intro ?_ ?_ | intro _ | exact absurd ‹_› (Nat.not_lt_zero _) | fail)
  · simp only [fun X => gdW_yes X (eq0 h2)]
    repeat' (first | exact trivial | rfl | refine And.intro ?_ ?_ | intro _ | exact absurd ‹_› (Nat.not_lt_zero _) | fail)
    exact eq_of_beq (eq0 h2)
structure X_rngX where
  (W : Wd) (b g : Int)
def s_rngX : Sy.Spec := ⟨X_rngX, fun ⟨W, b, g⟩ => [wSV W, .v (.int .i64 b), .v (.int .i64 g)], fun _ => [], fun ⟨W, _, _⟩ => Sm W ∧ Snd W, fun ⟨W, b, g⟩ => .tp 2 (lsv [wRd (gdW (rgE W b g) (rgX W b g)), .er 35 116 (rgE W b g) (-1)]), fun _ => [],
  fun args mem => match args with | [a0, a1, a2] => some ⟨wSVD a0, intD (a1), intD (a2)⟩ | _ => none⟩
def c_rngX : Con := ⟨[], s_rngX.g, none⟩
def V_rngX : X_rngX → Prop := fun ⟨W, b, g⟩ => let a0:=W.nKinds;let b0:=W.nSlots;let c0:=W.nTasks;let d0:=W.nLines;let e0:=W.nCores;let g0:=W.nReady;let h0:=rgE W b g;let k0:=gdW h0 (rgX W b g);let l0:=k0.nRam;let o0:=k0.nKinds;let q0:=k0.nSlots;let u0:=k0.nTasks;let v0:=k0.nLines;let w0:=k0.nBits;let x0:=k0.nCores;let y0:=k0.nReady;let z0:=k0.nTlbs;let a1:=k0.nDoms;let b1:=k0.time;tn 4 ((((((((((((((True∧W.nRam=W.nRam∧(∀c1:Nat,c1<W.nRam→True∧W.ram c1=W.ram c1))∧a0=a0∧(∀d1:Nat,d1<a0→True∧W.kinds d1=W.kinds d1))∧b0=b0∧(∀e1:Nat,let g1:=W.slots e1;let h1:=g1.kind;let k1:=g1.base;let l1:=g1.len;let o1:=g1.mark;let q1:=g1.rights;let u1:=g1.badge;let v1:=g1.from_;e1<b0→((((((True∧h1=h1)∧k1=k1)∧l1=l1)∧o1=o1)∧q1=q1)∧u1=u1)∧v1=v1))∧c0=c0∧(∀w1:Nat,let x1:=W.tasks w1;let y1:=x1.prio;let z1:=x1.node;let a2:=x1.space;let b2:=x1.helper;let c2:=x1.loc;let d2:=x1.word;let e2:=x1.badge;let g2:=x1.owes;let h2:=x1.core;let k2:=x1.dom;w1<c0→(((((((((((((((((((True∧x1.r0=x1.r0)∧x1.r1=x1.r1)∧x1.r2=x1.r2)∧x1.r3=x1.r3)∧x1.r4=x1.r4)∧x1.r5=x1.r5)∧x1.r6=x1.r6)∧x1.r7=x1.r7)∧x1.pc=x1.pc)∧x1.st=x1.st)∧y1=y1)∧z1=z1)∧a2=a2)∧b2=b2)∧c2=c2)∧d2=d2)∧e2=e2)∧g2=g2)∧h2=h2)∧k2=k2))∧d0=d0∧(∀l2:Nat,let o2:=W.linesN l2;l2<d0→True∧o2=o2∧(∀q2:Nat,q2<o2→True∧W.lines l2 q2=W.lines l2 q2)))∧W.nBits=W.nBits∧(∀u2:Nat,u2<W.nBits→True∧W.bits u2=W.bits u2))∧e0=e0∧(∀v2:Nat,v2<e0→True∧W.cores v2=W.cores v2))∧g0=g0∧(∀w2:Nat,let x2:=W.readyN w2;w2<g0→True∧x2=x2∧(∀y2:Nat,y2<x2→True∧W.ready w2 y2=W.ready w2 y2)))∧W.nTlbs=W.nTlbs∧(∀z2:Nat,let a3:=W.tlbsN z2;z2<W.nTlbs→True∧a3=a3∧
    (∀b3:Nat,let c3:=W.tlbs z2 b3;let d3:=c3.sp;let e3:=c3.pg;let g3:=c3.fr;let h3:=c3.wr;b3<a3→(((True∧d3=d3)∧e3=e3)∧g3=g3)∧h3=h3)))∧W.nDoms=W.nDoms∧(∀k3:Nat,k3<W.nDoms→True∧W.doms k3=W.doms k3))∧W.time=W.time)∧(tn 2 (b=b)∧True∧g=g)∧True)∧True∧Sm W∧Snd W)∧tn 10 True∧((True∧((((((((((True∧l0=l0∧(∀l3:Nat,l3<l0→True∧k0.ram l3=k0.ram l3))∧o0=o0∧(∀o3:Nat,o3<o0→True∧k0.kinds o3=k0.kinds o3))∧q0=q0∧(∀q3:Nat,let u3:=k0.slots q3;let v3:=u3.kind;let w3:=u3.base;let x3:=u3.len;let y3:=u3.mark;let z3:=u3.rights;let a4:=u3.badge;let b4:=u3.from_;q3<q0→((((((True∧v3=v3)∧w3=w3)∧x3=x3)∧y3=y3)∧z3=z3)∧a4=a4)∧b4=b4))∧u0=u0∧(∀c4:Nat,let d4:=k0.tasks c4;let e4:=d4.prio;let g4:=d4.node;let h4:=d4.space;let k4:=d4.helper;let l4:=d4.loc;let o4:=d4.word;let q4:=d4.badge;let u4:=d4.owes;let v4:=d4.core;let w4:=d4.dom;c4<u0→(((((((((((((((((((True∧d4.r0=d4.r0)∧d4.r1=d4.r1)∧d4.r2=d4.r2)∧d4.r3=d4.r3)∧d4.r4=d4.r4)∧d4.r5=d4.r5)∧d4.r6=d4.r6)∧d4.r7=d4.r7)∧d4.pc=d4.pc)∧d4.st=d4.st)∧e4=e4)∧g4=g4)∧h4=h4)∧k4=k4)∧l4=l4)∧o4=o4)∧q4=q4)∧u4=u4)∧v4=v4)∧w4=w4))∧v0=v0∧(∀x4:Nat,let y4:=k0.linesN x4;x4<v0→True∧y4=y4∧(∀z4:Nat,z4<y4→True∧k0.lines x4 z4=k0.lines x4 z4)))∧w0=w0∧(∀a5:Nat,a5<w0→True∧k0.bits a5=k0.bits a5))∧x0=x0∧(∀b5:Nat,b5<x0→True∧k0.cores b5=k0.cores b5))∧y0=y0∧(∀c5:Nat,let d5:=k0.readyN c5;c5<y0→True∧d5=d5∧(∀e5:Nat,e5<d5→True∧k0.ready c5 e5=k0.ready c5 e5)))∧z0=z0∧(∀g5:Nat,let h5:=k0.tlbsN g5;g5<z0→True∧h5=h5∧(∀k5:Nat,let l5:=k0.tlbs g5 k5;let o5:=l5.sp;let q5:=l5.pg;let u5:=l5.fr;let v5:=l5.wr;k5<h5→
    (((True∧o5=o5)∧q5=q5)∧u5=u5)∧v5=v5)))∧a1=a1∧(∀w5:Nat,w5<a1→True∧k0.doms w5=k0.doms w5))∧b1=b1)∧h0=h0∧((-1):Int)=(-1))∧True)
set_option maxHeartbeats 2000000 in
theorem ok_rngX : FnOK Tryz.prog glE 42 c_rngX := ok_of (.cons ok_rngD .nil) false Tryz.call42 Tryz.func42 (fun _ => []) (V := V_rngX) (fun _ => by kernel_rfl) fun ⟨W, b, g⟩ hp => by
  dsimp only [s_rngX] at hp
  dsimp only [V_rngX, tn, w64]
  simp only [std, stb, eq_self, implies_true, Bool.cond_self]
  try simp only [wd_eta]
  exact hp
structure X_rngY where
  (W : Wd) (b g : Int)
def s_rngY : Sy.Spec := ⟨X_rngY, fun ⟨W, b, g⟩ => [wSV W, .v (.int .i64 b), .v (.int .i64 g)], fun _ => [], fun ⟨W, _, _⟩ => Sm W ∧ wE W ≠ 0, fun _ => .tp 2 (lsv [wRd oW, .er 35 116 8 (-1)]), fun _ => [],
  fun args mem => match args with | [a0, a1, a2] => some ⟨wSVD a0, intD (a1), intD (a2)⟩ | _ => none⟩
def c_rngY : Con := ⟨[], s_rngY.g, none⟩
def V_rngY : X_rngY → Prop := fun ⟨W, _, _⟩ => let a0:=W.nKinds;let b0:=W.nSlots;let c0:=W.nTasks;let d0:=W.nLines;let e0:=W.nCores;let g0:=W.nReady;let h0:=(0:Int)=0;let k0:=True∧h0;let l0:=0=0∧(∀o0:Nat,o0<0→k0);let q0:=True∧l0;let u0:=(k0∧h0)∧h0;let v0:=(((u0∧h0)∧h0)∧h0)∧h0;let w0:=((-1):Int)=(-1);let x0:=0=0∧(∀y0:Nat,y0<0→q0);tn 4 ((((((((((((((True∧W.nRam=W.nRam∧(∀z0:Nat,z0<W.nRam→True∧W.ram z0=W.ram z0))∧a0=a0∧(∀a1:Nat,a1<a0→True∧W.kinds a1=W.kinds a1))∧b0=b0∧(∀b1:Nat,let c1:=W.slots b1;let d1:=c1.kind;let e1:=c1.base;let g1:=c1.len;let h1:=c1.mark;let k1:=c1.rights;let l1:=c1.badge;let o1:=c1.from_;b1<b0→((((((True∧d1=d1)∧e1=e1)∧g1=g1)∧h1=h1)∧k1=k1)∧l1=l1)∧o1=o1))∧c0=c0∧(∀q1:Nat,let u1:=W.tasks q1;let v1:=u1.prio;let w1:=u1.node;let x1:=u1.space;let y1:=u1.helper;let z1:=u1.loc;let a2:=u1.word;let b2:=u1.badge;let c2:=u1.owes;let d2:=u1.core;let e2:=u1.dom;q1<c0→(((((((((((((((((((True∧u1.r0=u1.r0)∧u1.r1=u1.r1)∧u1.r2=u1.r2)∧u1.r3=u1.r3)∧u1.r4=u1.r4)∧u1.r5=u1.r5)∧u1.r6=u1.r6)∧u1.r7=u1.r7)∧u1.pc=u1.pc)∧u1.st=u1.st)∧v1=v1)∧w1=w1)∧x1=x1)∧y1=y1)∧z1=z1)∧a2=a2)∧b2=b2)∧c2=c2)∧d2=d2)∧e2=e2))∧d0=d0∧(∀g2:Nat,let h2:=W.linesN g2;g2<d0→True∧h2=h2∧(∀k2:Nat,k2<h2→True∧W.lines g2 k2=W.lines g2 k2)))∧W.nBits=W.nBits∧(∀l2:Nat,l2<W.nBits→True∧W.bits l2=W.bits l2))∧e0=e0∧(∀o2:Nat,o2<e0→True∧W.cores o2=W.cores o2))∧g0=g0∧(∀q2:Nat,let u2:=W.readyN q2;q2<g0→True∧u2=u2∧(∀v2:Nat,v2<u2→True∧W.ready q2 v2=W.ready q2 v2)))∧W.nTlbs=W.nTlbs∧(∀w2:Nat,let x2:=W.tlbsN w2;w2<W.nTlbs→True∧x2=x2∧(∀y2:Nat,let z2:=W.tlbs w2 y2;let a3:=z2.sp;
    let b3:=z2.pg;let c3:=z2.fr;let d3:=z2.wr;y2<x2→(((True∧a3=a3)∧b3=b3)∧c3=c3)∧d3=d3)))∧W.nDoms=W.nDoms∧(∀e3:Nat,e3<W.nDoms→True∧W.doms e3=W.doms e3))∧W.time=W.time)∧True∧True)∧True∧Sm W∧wE W≠0)∧tn 10 True∧((True∧(((((((((q0∧l0)∧0=0∧(∀g3:Nat,g3<0→v0))∧0=0∧(∀h3:Nat,h3<0→((((((((((((v0∧h0)∧h0)∧h0)∧h0)∧w0)∧w0)∧w0)∧w0)∧h0)∧h0)∧w0)∧h0)∧h0))∧x0)∧l0)∧l0)∧x0)∧0=0∧(∀k3:Nat,k3<0→True∧0=0∧(∀l3:Nat,l3<0→u0∧false=false)))∧l0)∧h0)∧(8:Int)=8∧w0)∧True)
set_option maxHeartbeats 2000000 in
theorem ok_rngY : FnOK Tryz.prog glE 42 c_rngY := ok_of (.cons ok_done8 .nil) false Tryz.call42 Tryz.func42 (fun _ => []) (V := V_rngY) (fun _ => by kernel_rfl) fun ⟨W, b, g⟩ hp => by
  dsimp only [s_rngY] at hp
  dsimp only [V_rngY, tn, w64]
  simp only [std, stb, eq_self, implies_true, Bool.cond_self]
  try simp only [wd_eta]
  exact hp
structure X_rngR where
  (b g : Int) (W : Wd)
def s_rngR : Sy.Spec := ⟨X_rngR, fun ⟨b, g, _⟩ => [.ptr 0 0 none 0 0, .pt true 1 (fun _ => .v (.int .i64 b)), .pt true 1 (fun _ => .v (.int .i64 g))], fun ⟨_, _, W⟩ => wMem W, fun ⟨_, _, W⟩ => Sm W ∧ Snd W, fun ⟨b, g, W⟩ => .v (.int .i64 (rgE W b g)), fun ⟨b, g, W⟩ => wMem (rgX W b g),
  fun args mem => match args with | [a0, a1, a2] => some ⟨intD (ptF a1 0), intD (ptF a2 0), wMJD mem 0⟩ | _ => none⟩
def c_rngR : Con := ⟨[true], s_rngR.g, none⟩
def V_rngR : X_rngR → Prop := fun ⟨b, g, W⟩ => let a0:=W.nKinds;let b0:=cond (decide (b<0)) true (decide ((a0:Int)≤b));let c0:=rgE W b g;let d0:=0=0;let e0:=W.nRam=W.nRam;let g0:=a0=a0;let h0:=W.nSlots;let k0:=h0=h0;let l0:=W.nTasks;let o0:=l0=l0;let q0:=W.nLines;let u0:=q0=q0;let v0:=W.nBits;let w0:=v0=v0;let x0:=W.nCores;let y0:=x0=x0;let z0:=W.nReady;let a1:=z0=z0;let b1:=W.nTlbs=W.nTlbs;let c1:=W.nDoms=W.nDoms;let d1:=((((((((((True∧d0∧e0)∧d0∧g0)∧d0∧k0)∧d0∧o0)∧d0∧u0)∧d0∧w0)∧d0∧y0)∧d0∧a1)∧d0∧b1)∧d0∧c1)∧W.time=W.time;let e1:=e0∧(∀g1:Nat,g1<W.nRam→True∧W.ram g1=W.ram g1);let h1:=g0∧(∀k1:Nat,k1<a0→True∧W.kinds k1=W.kinds k1);let l1:=k0∧(∀o1:Nat,let q1:=W.slots o1;let u1:=q1.kind;let v1:=q1.base;let w1:=q1.len;let x1:=q1.mark;let y1:=q1.rights;let z1:=q1.badge;let a2:=q1.from_;o1<h0→((((((True∧u1=u1)∧v1=v1)∧w1=w1)∧x1=x1)∧y1=y1)∧z1=z1)∧a2=a2);let b2:=y0∧(∀c2:Nat,c2<x0→True∧W.cores c2=W.cores c2);let d2:=(b1∧(∀e2:Nat,let g2:=W.tlbsN e2;e2<W.nTlbs→True∧g2=g2∧(∀h2:Nat,let k2:=W.tlbs e2 h2;let l2:=k2.sp;let o2:=k2.pg;let q2:=k2.fr;let u2:=k2.wr;h2<g2→(((True∧l2=l2)∧o2=o2)∧q2=q2)∧u2=u2)))∧(c1∧(∀v2:Nat,v2<W.nDoms→True∧W.doms v2=W.doms v2))∧True;
    let w2:=d1∧e1∧h1∧l1∧(o0∧(∀x2:Nat,let y2:=W.tasks x2;let z2:=rgX_tasks W b g x2;x2<l0→(((((((((((((((((((True∧y2.r0=z2.r0)∧y2.r1=z2.r1)∧y2.r2=z2.r2)∧y2.r3=z2.r3)∧y2.r4=z2.r4)∧y2.r5=z2.r5)∧y2.r6=z2.r6)∧y2.r7=z2.r7)∧y2.pc=z2.pc)∧y2.st=z2.st)∧y2.prio=z2.prio)∧y2.node=z2.node)∧y2.space=z2.space)∧y2.helper=z2.helper)∧y2.loc=z2.loc)∧y2.word=z2.word)∧y2.badge=z2.badge)∧y2.owes=z2.owes)∧y2.core=z2.core)∧y2.dom=z2.dom))∧(u0∧(∀a3:Nat,let b3:=rgX_linesN W b g a3;a3<q0→True∧W.linesN a3=b3∧(∀c3:Nat,c3<b3→True∧W.lines a3 c3=rgX_lines W b g a3 c3)))∧(w0∧(∀d3:Nat,d3<v0→True∧W.bits d3=rgX_bits W b g d3))∧b2∧(a1∧(∀e3:Nat,let g3:=rgX_readyN W b g e3;e3<z0→True∧W.readyN e3=g3∧(∀h3:Nat,h3<g3→True∧W.ready e3 h3=rgX_ready W b g e3 h3)))∧d2;let k3:=Int.toNat b;let l3:=W.kinds (0+k3) !=8;tn 9 ((b0=true→2=c0∧w2)∧(b0=false→tn 5 ((0≤b∧b<(a0:Int))∧(l3=true→3=c0∧w2)∧(l3=false→((g=g∧(65535:Int)=65535∧True)∧True∧True)∧(farB g 65535=true→1=c0∧w2)∧(farB g 65535=false→((SV.ptr 0 0 none 0 0=SV.ptr 0 0 none 0 0∧b=b∧g=g∧True)∧(d1∧e1∧h1∧l1∧(o0∧(∀o3:Nat,let q3:=W.tasks o3;let u3:=q3.prio;let v3:=q3.node;let w3:=q3.space;let x3:=q3.helper;let y3:=q3.loc;let z3:=q3.word;let a4:=q3.badge;let b4:=q3.owes;let c4:=q3.core;let d4:=q3.dom;o3<l0→(((((((((((((((((((True∧q3.r0=q3.r0)∧q3.r1=q3.r1)∧q3.r2=q3.r2)∧q3.r3=q3.r3)∧q3.r4=q3.r4)∧q3.r5=q3.r5)∧q3.r6=q3.r6)∧q3.r7=q3.r7)∧q3.pc=q3.pc)∧q3.st=q3.st)∧u3=u3)∧v3=v3)∧w3=w3)∧x3=x3)∧y3=y3)∧z3=z3)∧a4=a4)∧b4=b4)∧c4=c4)∧d4=d4))∧(u0∧(∀e4:Nat,let g4:=W.linesN e4;e4<q0→True∧g4=g4∧
    (∀h4:Nat,h4<g4→True∧W.lines e4 h4=W.lines e4 h4)))∧(w0∧(∀k4:Nat,k4<v0→True∧W.bits k4=W.bits k4))∧b2∧(a1∧(∀l4:Nat,let o4:=W.readyN l4;l4<z0→True∧o4=o4∧(∀q4:Nat,q4<o4→True∧W.ready l4 q4=W.ready l4 q4)))∧d2)∧BlP W b∧0≤g∧g≤65535)∧0=c0∧d1∧e1∧h1∧l1∧(o0∧(∀u4:Nat,let v4:=rngW_tasks W k3 g u4;let w4:=rgX_tasks W b g u4;u4<l0→(((((((((((((((((((True∧v4.r0=w4.r0)∧v4.r1=w4.r1)∧v4.r2=w4.r2)∧v4.r3=w4.r3)∧v4.r4=w4.r4)∧v4.r5=w4.r5)∧v4.r6=w4.r6)∧v4.r7=w4.r7)∧v4.pc=w4.pc)∧v4.st=w4.st)∧v4.prio=w4.prio)∧v4.node=w4.node)∧v4.space=w4.space)∧v4.helper=w4.helper)∧v4.loc=w4.loc)∧v4.word=w4.word)∧v4.badge=w4.badge)∧v4.owes=w4.owes)∧v4.core=w4.core)∧v4.dom=w4.dom))∧(u0∧(∀x4:Nat,let y4:=rgX_linesN W b g x4;x4<q0→True∧rngW_linesN W k3 g x4=y4∧(∀z4:Nat,z4<y4→True∧rngW_lines W k3 g x4 z4=rgX_lines W b g x4 z4)))∧(w0∧(∀a5:Nat,a5<v0→True∧rngW_bits W k3 g a5=rgX_bits W b g a5))∧b2∧(a1∧(∀b5:Nat,let c5:=rgX_readyN W b g b5;b5<z0→True∧rngW_readyN W k3 g b5=c5∧(∀d5:Nat,d5<c5→True∧rngW_ready W k3 g b5 d5=rgX_ready W b g b5 d5)))∧d2)))))
set_option maxHeartbeats 2000000 in
theorem ok_rngR : FnOK Tryz.prog glE 44 c_rngR := ok_of (.cons (ok_far.up glN_glE) (.cons (ok_ringR.up glN_glE) .nil)) false Tryz.call44 Tryz.func44 (fun _ => []) (V := V_rngR) (fun _ => by kernel_rfl) fun ⟨b, g, W⟩ hp => by
  dsimp only [s_rngR] at hp
  dsimp only [V_rngR, tn, w64]
  simp only [std, stb, eq_self, implies_true, Bool.cond_self]
  try simp only [wd_eta]
  obtain ⟨hs, hw⟩ := hp
  refine ⟨fun h => ?_, fun h => ?_⟩
  · skip
    have e : rgE W b g = 2 := by unfold rgE; rw [h]; rfl
    refine ⟨e.symm, ?_⟩
    have hc : (rgE W b g == 0) = false := by rw [e]; rfl
    have e_ := rgX_f hc
    have e_tasks : rgX_tasks W b g = _ := congrArg Wd.tasks e_
    have e_linesN : rgX_linesN W b g = _ := congrArg Wd.linesN e_
    have e_lines : rgX_lines W b g = _ := congrArg Wd.lines e_
    have e_bits : rgX_bits W b g = _ := congrArg Wd.bits e_
    have e_readyN : rgX_readyN W b g = _ := congrArg Wd.readyN e_
    have e_ready : rgX_ready W b g = _ := congrArg Wd.ready e_
    simp only [e_tasks, e_linesN, e_lines, e_bits, e_readyN, e_ready]
    clear e_ e_tasks e_linesN e_lines e_bits e_readyN e_ready
    repeat' (first | exact trivial | exact run20 rfl | rfl | refine And.intro ?_ ?_ | intro _ | fail)
  have hb : 0 ≤ b ∧ b < W.nKinds := by
    have h' := h
    simp only [Bool.or_eq_false_iff, decide_eq_false_iff_not] at h'
    omega
  refine ⟨hb, fun h2 => ?_, fun h2 => ⟨fun hf => ?_, fun hf => ?_⟩⟩
  · skip
    have e : rgE W b g = 3 := by unfold rgE; rw [h, h2]; rfl
    refine ⟨e.symm, ?_⟩
    have hc : (rgE W b g == 0) = false := by rw [e]; rfl
    have e_ := rgX_f hc
    have e_tasks : rgX_tasks W b g = _ := congrArg Wd.tasks e_
    have e_linesN : rgX_linesN W b g = _ := congrArg Wd.linesN e_
    have e_lines : rgX_lines W b g = _ := congrArg Wd.lines e_
    have e_bits : rgX_bits W b g = _ := congrArg Wd.bits e_
    have e_readyN : rgX_readyN W b g = _ := congrArg Wd.readyN e_
    have e_ready : rgX_ready W b g = _ := congrArg Wd.ready e_
    simp only [e_tasks, e_linesN, e_lines, e_bits, e_readyN, e_ready]
    clear e_ e_tasks e_linesN e_lines e_bits e_readyN e_ready
    repeat' (first | exact trivial | exact run20 rfl | rfl | refine And.intro ?_ ?_ | intro _ | fail)
  · skip
    have e : rgE W b g = 1 := by unfold rgE; rw [h, h2, hf]; rfl
    refine ⟨e.symm, ?_⟩
    have hc : (rgE W b g == 0) = false := by rw [e]; rfl
    have e_ := rgX_f hc
    have e_tasks : rgX_tasks W b g = _ := congrArg Wd.tasks e_
    have e_linesN : rgX_linesN W b g = _ := congrArg Wd.linesN e_
    have e_lines : rgX_lines W b g = _ := congrArg Wd.lines e_
    have e_bits : rgX_bits W b g = _ := congrArg Wd.bits e_
    have e_readyN : rgX_readyN W b g = _ := congrArg Wd.readyN e_
    have e_ready : rgX_ready W b g = _ := congrArg Wd.ready e_
    simp only [e_tasks, e_linesN, e_lines, e_bits, e_readyN, e_ready]
    clear e_ e_tasks e_linesN e_lines e_bits e_readyN e_ready
    repeat' (first | exact trivial | exact run20 rfl | rfl | refine And.intro ?_ ?_ | intro _ | fail)
  · have e : rgE W b g = 0 := by unfold rgE; rw [h, h2, hf]; rfl
    have hc : (rgE W b g == 0) = true := by rw [e]; rfl
    refine ⟨⟨bl_of hw hs hb.1 hb.2 (by simpa using h2), (farB_in hf).1, (farB_in hf).2⟩, e.symm, ?_⟩
    have e_ := rgX_t hc
    have e_tasks : rgX_tasks W b g = _ := congrArg Wd.tasks e_
    have e_linesN : rgX_linesN W b g = _ := congrArg Wd.linesN e_
    have e_lines : rgX_lines W b g = _ := congrArg Wd.lines e_
    have e_bits : rgX_bits W b g = _ := congrArg Wd.bits e_
    have e_readyN : rgX_readyN W b g = _ := congrArg Wd.readyN e_
    have e_ready : rgX_ready W b g = _ := congrArg Wd.ready e_
    simp only [e_tasks, e_linesN, e_lines, e_bits, e_readyN, e_ready]
    clear e_ e_tasks e_linesN e_lines e_bits e_readyN e_ready
    repeat' (first | exact trivial | exact run20 rfl | rfl | refine And.intro ?_ ?_ | intro _ | fail)
structure X_rngL where
  (W : Wd) (b g : Int)
def s_rngL : Sy.Spec := ⟨X_rngL, fun ⟨W, b, g⟩ => [wRd (gdW (rgE W b g) (rgX W b g)), .er 35 116 (rgE W b g) (-1), wSV W, .v (.int .i64 0), .fn 44 2 (lsv [.pt true 1 (fun _ => .v (.int .i64 b)), .pt true 1 (fun _ => .v (.int .i64 g))])], fun _ => [], fun ⟨W, _, _⟩ => Sm W ∧ Snd W, fun _ => .v (.bool true), fun _ => [],
  fun args mem => match args with | [a0, a1, a2, a3, a4] => (match isFn 44 a4 with | true => some ⟨wSVD a2, intD (ptF (fnF a4 0) 0), intD (ptF (fnF a4 1) 0)⟩ | false => none) | _ => none⟩
def c_rngL : Con := ⟨[], s_rngL.g, none⟩
def V_rngL : X_rngL → Prop := fun ⟨W, b, g⟩ => let a0:=W.nRam;let b0:=a0=a0;let c0:=b0∧(∀d0:Nat,d0<a0→True∧W.ram d0=W.ram d0);let e0:=W.nKinds;let g0:=e0=e0;let h0:=g0∧(∀k0:Nat,k0<e0→True∧W.kinds k0=W.kinds k0);let l0:=W.nSlots;let o0:=l0=l0;let q0:=o0∧(∀u0:Nat,let v0:=W.slots u0;let w0:=v0.kind;let x0:=v0.base;let y0:=v0.len;let z0:=v0.mark;let a1:=v0.rights;let b1:=v0.badge;let c1:=v0.from_;u0<l0→((((((True∧w0=w0)∧x0=x0)∧y0=y0)∧z0=z0)∧a1=a1)∧b1=b1)∧c1=c1);let d1:=W.nTasks;let e1:=d1=d1;let g1:=e1∧(∀h1:Nat,let k1:=W.tasks h1;let l1:=k1.prio;let o1:=k1.node;let q1:=k1.space;let u1:=k1.helper;let v1:=k1.loc;let w1:=k1.word;let x1:=k1.badge;let y1:=k1.owes;let z1:=k1.core;let a2:=k1.dom;h1<d1→(((((((((((((((((((True∧k1.r0=k1.r0)∧k1.r1=k1.r1)∧k1.r2=k1.r2)∧k1.r3=k1.r3)∧k1.r4=k1.r4)∧k1.r5=k1.r5)∧k1.r6=k1.r6)∧k1.r7=k1.r7)∧k1.pc=k1.pc)∧k1.st=k1.st)∧l1=l1)∧o1=o1)∧q1=q1)∧u1=u1)∧v1=v1)∧w1=w1)∧x1=x1)∧y1=y1)∧z1=z1)∧a2=a2);let b2:=W.nLines;let c2:=b2=b2;let d2:=c2∧(∀e2:Nat,let g2:=W.linesN e2;e2<b2→True∧g2=g2∧(∀h2:Nat,h2<g2→True∧W.lines e2 h2=W.lines e2 h2));let k2:=W.nBits;let l2:=k2=k2;let o2:=l2∧(∀q2:Nat,q2<k2→True∧W.bits q2=W.bits q2);let u2:=W.nCores;let v2:=u2=u2;let w2:=v2∧(∀x2:Nat,x2<u2→True∧W.cores x2=W.cores x2);let y2:=W.nReady;let z2:=y2=y2;let a3:=z2∧(∀b3:Nat,let c3:=W.readyN b3;b3<y2→True∧c3=c3∧(∀d3:Nat,d3<c3→True∧W.ready b3 d3=W.ready b3 d3));let e3:=W.nTlbs;let g3:=e3=e3;
    let h3:=g3∧(∀k3:Nat,let l3:=W.tlbsN k3;k3<e3→True∧l3=l3∧(∀o3:Nat,let q3:=W.tlbs k3 o3;let u3:=q3.sp;let v3:=q3.pg;let w3:=q3.fr;let x3:=q3.wr;o3<l3→(((True∧u3=u3)∧v3=v3)∧w3=w3)∧x3=x3));let y3:=W.nDoms;let z3:=y3=y3;let a4:=z3∧(∀b4:Nat,b4<y3→True∧W.doms b4=W.doms b4);let c4:=W.time;let d4:=c4=c4;let e4:=True∧True;let g4:=0=0;let h4:=rgE W b g;let k4:=h4 !=0;let l4:=h4=h4;let o4:=((-1):Int)=(-1);let q4:=l4∧o4;let u4:=h4==h4&&((-1):Int)==(-1);let v4:=gdW h4 (rgX W b g);let w4:=v4.nRam;let x4:=v4.nKinds;let y4:=v4.nSlots;let z4:=v4.nTasks;let a5:=v4.nLines;let b5:=v4.nBits;let c5:=v4.nCores;let d5:=v4.nReady;let e5:=v4.nTlbs;let g5:=v4.nDoms;let h5:=v4.time;
    let k5:=((((((((((True∧w4=w4∧(∀l5:Nat,l5<w4→True∧v4.ram l5=v4.ram l5))∧x4=x4∧(∀o5:Nat,o5<x4→True∧v4.kinds o5=v4.kinds o5))∧y4=y4∧(∀q5:Nat,let u5:=v4.slots q5;let v5:=u5.kind;let w5:=u5.base;let x5:=u5.len;let y5:=u5.mark;let z5:=u5.rights;let a6:=u5.badge;let b6:=u5.from_;q5<y4→((((((True∧v5=v5)∧w5=w5)∧x5=x5)∧y5=y5)∧z5=z5)∧a6=a6)∧b6=b6))∧z4=z4∧(∀c6:Nat,let d6:=v4.tasks c6;let e6:=d6.prio;let g6:=d6.node;let h6:=d6.space;let k6:=d6.helper;let l6:=d6.loc;let o6:=d6.word;let q6:=d6.badge;let u6:=d6.owes;let v6:=d6.core;let w6:=d6.dom;c6<z4→(((((((((((((((((((True∧d6.r0=d6.r0)∧d6.r1=d6.r1)∧d6.r2=d6.r2)∧d6.r3=d6.r3)∧d6.r4=d6.r4)∧d6.r5=d6.r5)∧d6.r6=d6.r6)∧d6.r7=d6.r7)∧d6.pc=d6.pc)∧d6.st=d6.st)∧e6=e6)∧g6=g6)∧h6=h6)∧k6=k6)∧l6=l6)∧o6=o6)∧q6=q6)∧u6=u6)∧v6=v6)∧w6=w6))∧a5=a5∧(∀x6:Nat,let y6:=v4.linesN x6;x6<a5→True∧y6=y6∧(∀z6:Nat,z6<y6→True∧v4.lines x6 z6=v4.lines x6 z6)))∧b5=b5∧(∀a7:Nat,a7<b5→True∧v4.bits a7=v4.bits a7))∧c5=c5∧(∀b7:Nat,b7<c5→True∧v4.cores b7=v4.cores b7))∧d5=d5∧(∀c7:Nat,let d7:=v4.readyN c7;c7<d5→True∧d7=d7∧(∀e7:Nat,e7<d7→True∧v4.ready c7 e7=v4.ready c7 e7)))∧e5=e5∧(∀g7:Nat,let h7:=v4.tlbsN g7;g7<e5→True∧h7=h7∧(∀k7:Nat,let l7:=v4.tlbs g7 k7;let o7:=l7.sp;let q7:=l7.pg;let u7:=l7.fr;let v7:=l7.wr;k7<h7→(((True∧o7=o7)∧q7=q7)∧u7=u7)∧v7=v7)))∧g5=g5∧(∀w7:Nat,w7<g5→True∧v4.doms w7=v4.doms w7))∧h5=h5;let x7:=(k5∧True)∧True∧w4=0∧x4=0∧y4=0∧z4=0∧a5=0∧b5=0∧c5=0∧d5=0∧e5=0∧g5=0∧h5=0;let y7:=h4==0;let z7:=y7=true;
    let a8:=((True∧b0∧(∀b8:Nat,b8<a0→True∧W.ram (0+b8)=W.ram (0+b8)))∧g0∧(∀c8:Nat,let d8:=W.kinds (0+c8);c8<e0→True∧d8=d8))∧o0∧(∀e8:Nat,let g8:=W.slots (0+e8);let h8:=g8.kind;let k8:=g8.base;let l8:=g8.len;let o8:=g8.mark;let q8:=g8.rights;let r8:=g8.badge;let u8:=g8.from_;e8<l0→((((((True∧h8=h8)∧k8=k8)∧l8=l8)∧o8=o8)∧q8=q8)∧r8=r8)∧u8=u8);let v8:=v2∧(∀w8:Nat,let x8:=W.cores (0+w8);w8<u2→True∧x8=x8);let y8:=g3∧(∀z8:Nat,let a9:=0+z8;let b9:=W.tlbsN a9;z8<e3→True∧b9=b9∧(∀c9:Nat,let d9:=W.tlbs a9 (0+c9);let e9:=d9.sp;let g9:=d9.pg;let h9:=d9.fr;let k9:=d9.wr;c9<b9→(((True∧e9=e9)∧g9=g9)∧h9=h9)∧k9=k9));let l9:=z3∧(∀o9:Nat,o9<y3→True∧W.doms (0+o9)=W.doms (0+o9));let q9:=y7&&((-1):Int)==(-1);tn 2 ((((((((((((((True∧c0)∧h0)∧q0)∧g1)∧d2)∧o2)∧w2)∧a3)∧h3)∧a4)∧d4)∧True)∧True∧s_copyW.match_1 (fun r9:X_copyW=>Prop) (X_copyW.mk W) (fun u9:Wd=>Lg u9))∧True∧tn 9 e4∧(((0:Int)==0)=true→((SV.ptr 0 0 none 0 0=SV.ptr 0 0 none 0 0∧(True∧b=b)∧(True∧g=g)∧True)∧((((((((((((True∧g4∧b0)∧g4∧g0)∧g4∧o0)∧g4∧e1)∧g4∧c2)∧g4∧l2)∧g4∧v2)∧g4∧z2)∧g4∧g3)∧g4∧z3)∧d4)∧c0∧h0∧q0∧g1∧d2∧o2∧w2∧a3∧h3∧a4∧True)∧Sm W∧Snd W)∧(k4=true→((l4∧True)∧e4)∧((q4∧((True∧l4)∧o4)∧True)∧e4)∧(u4=true→x7)∧cond u4 true false=true∧True)∧(k4=false→(z7→(k5∧((((((((a8∧e1∧(∀v9:Nat,let w9:=rgX_tasks W b g (0+v9);let x9:=w9.r0;let y9:=w9.r1;let z9:=w9.r2;let a10:=w9.r3;let b10:=w9.r4;let c10:=w9.r5;let d10:=w9.r6;let e10:=w9.r7;let g10:=w9.pc;let h10:=w9.st;let k10:=w9.prio;let l10:=w9.node;let o10:=w9.space;let q10:=w9.helper;let r10:=w9.loc;
    let u10:=w9.word;let v10:=w9.badge;let w10:=w9.owes;let x10:=w9.core;let y10:=w9.dom;v9<d1→(((((((((((((((((((True∧x9=x9)∧y9=y9)∧z9=z9)∧a10=a10)∧b10=b10)∧c10=c10)∧d10=d10)∧e10=e10)∧g10=g10)∧h10=h10)∧k10=k10)∧l10=l10)∧o10=o10)∧q10=q10)∧r10=r10)∧u10=u10)∧v10=v10)∧w10=w10)∧x10=x10)∧y10=y10))∧c2∧(∀z10:Nat,let a11:=rgX_linesN W b g (0+z10);z10<b2→True∧a11=a11∧(∀b11:Nat,let c11:=rgX_lines W b g (0+z10) (0+b11);b11<a11→True∧c11=c11)))∧l2∧(∀d11:Nat,let e11:=rgX_bits W b g (0+d11);d11<k2→True∧e11=e11))∧v8)∧z2∧(∀g11:Nat,let h11:=rgX_readyN W b g (0+g11);g11<y2→True∧h11=h11∧(∀k11:Nat,let l11:=rgX_ready W b g (0+g11) (0+k11);k11<h11→True∧l11=l11)))∧y8)∧l9)∧d4)∧True)∧e4)∧cond y7 (sameW v4 (Wd.mk a0 (fun o11:Nat=>W.ram (0+o11)) e0 (fun q11:Nat=>W.kinds (0+q11)) l0 (fun r11:Nat=>W.slots (0+r11)) d1 (fun u11:Nat=>rgX_tasks W b g (0+u11)) b2 (fun v11:Nat=>rgX_linesN W b g (0+v11)) (fun w11:Nat=>fun x11:Nat=>rgX_lines W b g (0+w11) (0+x11)) k2 (fun y11:Nat=>rgX_bits W b g (0+y11)) u2 (fun z11:Nat=>W.cores (0+z11)) y2 (fun a12:Nat=>rgX_readyN W b g (0+a12)) (fun b12:Nat=>fun c12:Nat=>rgX_ready W b g (0+b12) (0+c12)) e3 (fun d12:Nat=>W.tlbsN (0+d12)) (fun e12:Nat=>fun g12:Nat=>W.tlbs (0+e12) (0+g12)) y3 (fun h12:Nat=>W.doms (0+h12)) c4)) false=true∧True))∧(((0:Int)==0)=false→(((0:Int) !=0)=true→(((0:Int)=0∧True)∧e4)∧((q4∧((True∧(0:Int)=0)∧o4)∧True)∧e4)∧(q9=true→x7)∧cond q9 true false=true∧True)∧(((0:Int) !=0)=false→(z7→(k5∧((((((((a8∧e1∧(∀k12:Nat,let l12:=W.tasks (0+k12);let o12:=l12.r0;
    let q12:=l12.r1;let r12:=l12.r2;let u12:=l12.r3;let v12:=l12.r4;let w12:=l12.r5;let x12:=l12.r6;let y12:=l12.r7;let z12:=l12.pc;let a13:=l12.st;let b13:=l12.prio;let c13:=l12.node;let d13:=l12.space;let e13:=l12.helper;let g13:=l12.loc;let h13:=l12.word;let k13:=l12.badge;let l13:=l12.owes;let o13:=l12.core;let q13:=l12.dom;k12<d1→(((((((((((((((((((True∧o12=o12)∧q12=q12)∧r12=r12)∧u12=u12)∧v12=v12)∧w12=w12)∧x12=x12)∧y12=y12)∧z12=z12)∧a13=a13)∧b13=b13)∧c13=c13)∧d13=d13)∧e13=e13)∧g13=g13)∧h13=h13)∧k13=k13)∧l13=l13)∧o13=o13)∧q13=q13))∧c2∧(∀r13:Nat,let u13:=W.linesN (0+r13);r13<b2→True∧u13=u13∧(∀v13:Nat,let w13:=W.lines (0+r13) (0+v13);v13<u13→True∧w13=w13)))∧l2∧(∀x13:Nat,x13<k2→True∧W.bits (0+x13)=W.bits (0+x13)))∧v8)∧z2∧(∀y13:Nat,let z13:=W.readyN (0+y13);y13<y2→True∧z13=z13∧(∀a14:Nat,let b14:=W.ready (0+y13) (0+a14);a14<z13→True∧b14=b14)))∧y8)∧l9)∧d4)∧True)∧e4)∧cond y7 (sameW v4 (Wd.mk a0 (fun c14:Nat=>W.ram (0+c14)) e0 (fun d14:Nat=>W.kinds (0+d14)) l0 (fun e14:Nat=>W.slots (0+e14)) d1 (fun g14:Nat=>W.tasks (0+g14)) b2 (fun h14:Nat=>W.linesN (0+h14)) (fun k14:Nat=>fun l14:Nat=>W.lines (0+k14) (0+l14)) k2 (fun o14:Nat=>W.bits (0+o14)) u2 (fun q14:Nat=>W.cores (0+q14)) y2 (fun r14:Nat=>W.readyN (0+r14)) (fun u14:Nat=>fun v14:Nat=>W.ready (0+u14) (0+v14)) e3 (fun w14:Nat=>W.tlbsN (0+w14)) (fun x14:Nat=>fun y14:Nat=>W.tlbs (0+x14) (0+y14)) y3 (fun z14:Nat=>W.doms (0+z14)) c4)) false=true∧True)))
set_option maxHeartbeats 2000000 in
theorem ok_rngL : FnOK Tryz.prog glE 15 c_rngL := ok_of (.cons ok_is (.cons (ok_err.up glN_glE) (.cons (ok_copyW.up glN_glE) (.cons ok_nothing (.cons (ok_sameWorld.up glN_glE) (.cons ok_rngR .nil)))))) false Tryz.call15 Tryz.func15 (fun _ => []) (V := V_rngL) (fun _ => by kernel_rfl) fun ⟨W, b, g⟩ hp => by
  dsimp only [s_rngL] at hp
  dsimp only [V_rngL, tn, w64]
  simp only [std, stb, eq_self, implies_true, Bool.cond_self]
  obtain ⟨hs, hw⟩ := hp
  refine ⟨lg_sm hs, fun _ => ⟨⟨hs, hw⟩, fun h2 => ?_, fun h2 => ?_⟩, fun h => absurd h (by decide)⟩
  · simp only [fun X => gdW_no X (ne0 h2)]
    repeat' (first | exact trivial | rfl | refine And.intro ?_ ?_ | intro _ | exact absurd ‹_› (Nat.not_lt_zero _) | fail)
    simp
  · simp only [fun X => gdW_yes X (eq0 h2)]
    simp only [eq0 h2, Bool.true_and]
    exact sameW_refl _
structure X_herC where
  (t b : Int) (W : Wd)
def s_herC : Sy.Spec := ⟨X_herC, fun ⟨t, b, _⟩ => [.ptr 0 0 none 0 0, .pt true 1 (fun _ => .v (.int .i64 t)), .pt true 1 (fun _ => .v (.int .i64 b))], fun ⟨_, _, W⟩ => wMem W, fun ⟨_, _, W⟩ => Sm W ∧ Snd W, fun ⟨t, b, W⟩ => .er 35 116 (heE W t b) (-1), fun ⟨t, b, W⟩ => wMem (heX W t b),
  fun args mem => match args with | [a0, a1, a2] => some ⟨intD (ptF a1 0), intD (ptF a2 0), wMJD mem 0⟩ | _ => none⟩
def c_herC : Con := ⟨[true], s_herC.g, none⟩
def V_herC : X_herC → Prop := fun ⟨t, b, W⟩ => let a0:=W.nRam;let b0:=a0=a0;let c0:=W.nKinds;let d0:=c0=c0;let e0:=W.nSlots;let g0:=e0=e0;let h0:=W.nTasks;let k0:=h0=h0;let l0:=W.nLines;let o0:=l0=l0;let q0:=W.nBits;let u0:=q0=q0;let v0:=W.nCores;let w0:=v0=v0;let x0:=W.nReady;let y0:=x0=x0;let z0:=W.nTlbs;let a1:=z0=z0;let b1:=W.nDoms;let c1:=b1=b1;let d1:=W.time=W.time;let e1:=Wd.mk a0 (fun g1:Nat=>W.ram (0+g1)) c0 (fun h1:Nat=>W.kinds (0+h1)) e0 (fun k1:Nat=>W.slots (0+k1)) h0 (fun l1:Nat=>W.tasks (0+l1)) l0 (fun o1:Nat=>W.linesN (0+o1)) (fun q1:Nat=>fun u1:Nat=>W.lines (0+q1) (0+u1)) q0 (fun v1:Nat=>W.bits (0+v1)) v0 (fun w1:Nat=>W.cores (0+w1)) x0 (fun x1:Nat=>W.readyN (0+x1)) (fun y1:Nat=>fun z1:Nat=>W.ready (0+y1) (0+z1)) z0 (fun a2:Nat=>W.tlbsN (0+a2)) (fun b2:Nat=>fun c2:Nat=>W.tlbs (0+b2) (0+c2)) b1 (fun d2:Nat=>W.doms (0+d2)) W.time;let e2:=actE e1 t b 8;let g2:=e2 !=0;let h2:=0=0;let k2:=((((((((((True∧h2∧b0)∧h2∧d0)∧h2∧g0)∧h2∧k0)∧h2∧o0)∧h2∧u0)∧h2∧w0)∧h2∧y0)∧h2∧a1)∧h2∧c1)∧d1;let l2:=b0∧(∀o2:Nat,o2<a0→True∧W.ram o2=W.ram o2);let q2:=d0∧(∀u2:Nat,u2<c0→True∧W.kinds u2=W.kinds u2);let v2:=g0∧(∀w2:Nat,let x2:=W.slots w2;let y2:=x2.kind;let z2:=x2.base;let a3:=x2.len;let b3:=x2.mark;let c3:=x2.rights;let d3:=x2.badge;let e3:=x2.from_;w2<e0→((((((True∧y2=y2)∧z2=z2)∧a3=a3)∧b3=b3)∧c3=c3)∧d3=d3)∧e3=e3);
    let g3:=(y0∧(∀h3:Nat,let k3:=W.readyN h3;h3<x0→True∧k3=k3∧(∀l3:Nat,l3<k3→True∧W.ready h3 l3=W.ready h3 l3)))∧(a1∧(∀o3:Nat,let q3:=W.tlbsN o3;o3<z0→True∧q3=q3∧(∀u3:Nat,let v3:=W.tlbs o3 u3;let w3:=v3.sp;let x3:=v3.pg;let y3:=v3.fr;let z3:=v3.wr;u3<q3→(((True∧w3=w3)∧x3=x3)∧y3=y3)∧z3=z3)))∧(c1∧(∀a4:Nat,a4<b1→True∧W.doms a4=W.doms a4))∧True;(((((((((((((True∧b0∧(∀b4:Nat,b4<a0→True∧W.ram (0+b4)=W.ram (0+b4)))∧d0∧(∀c4:Nat,let d4:=W.kinds (0+c4);c4<c0→True∧d4=d4))∧g0∧(∀e4:Nat,let g4:=W.slots (0+e4);let h4:=g4.kind;let k4:=g4.base;let l4:=g4.len;let o4:=g4.mark;let q4:=g4.rights;let u4:=g4.badge;let v4:=g4.from_;e4<e0→((((((True∧h4=h4)∧k4=k4)∧l4=l4)∧o4=o4)∧q4=q4)∧u4=u4)∧v4=v4))∧k0∧(∀w4:Nat,let x4:=W.tasks (0+w4);let y4:=x4.r0;let z4:=x4.r1;let a5:=x4.r2;let b5:=x4.r3;let c5:=x4.r4;let d5:=x4.r5;let e5:=x4.r6;let g5:=x4.r7;let h5:=x4.pc;let k5:=x4.st;let l5:=x4.prio;let o5:=x4.node;let q5:=x4.space;let u5:=x4.helper;let v5:=x4.loc;let w5:=x4.word;let x5:=x4.badge;let y5:=x4.owes;let z5:=x4.core;let a6:=x4.dom;w4<h0→(((((((((((((((((((True∧y4=y4)∧z4=z4)∧a5=a5)∧b5=b5)∧c5=c5)∧d5=d5)∧e5=e5)∧g5=g5)∧h5=h5)∧k5=k5)∧l5=l5)∧o5=o5)∧q5=q5)∧u5=u5)∧v5=v5)∧w5=w5)∧x5=x5)∧y5=y5)∧z5=z5)∧a6=a6))∧o0∧(∀b6:Nat,let c6:=W.linesN (0+b6);b6<l0→True∧c6=c6∧(∀d6:Nat,let e6:=W.lines (0+b6) (0+d6);d6<c6→True∧e6=e6)))∧u0∧(∀g6:Nat,g6<q0→True∧W.bits (0+g6)=W.bits (0+g6)))∧w0∧(∀h6:Nat,let k6:=W.cores (0+h6);h6<v0→True∧k6=k6))∧y0∧(∀l6:Nat,let o6:=W.readyN (0+l6);l6<x0→True∧o6=o6∧(∀q6:Nat,
    let u6:=W.ready (0+l6) (0+q6);q6<o6→True∧u6=u6)))∧a1∧(∀v6:Nat,let w6:=0+v6;let x6:=W.tlbsN w6;v6<z0→True∧x6=x6∧(∀y6:Nat,let z6:=W.tlbs w6 (0+y6);let a7:=z6.sp;let b7:=z6.pg;let c7:=z6.fr;let d7:=z6.wr;y6<x6→(((True∧a7=a7)∧b7=b7)∧c7=c7)∧d7=d7)))∧c1∧(∀e7:Nat,e7<b1→True∧W.doms (0+e7)=W.doms (0+e7)))∧d1)∧t=t∧b=b∧(8:Int)=8∧True)∧True∧s_actP.match_1 (fun g7:X_actP=>Prop) (X_actP.mk e1 t b 8) (fun h7:Wd=>fun k7:Int=>fun l7:Int=>fun o7:Int=>AcP h7))∧(g2=true→(e2=heE W t b∧((-1):Int)=(-1))∧k2∧l2∧q2∧v2∧(k0∧(∀q7:Nat,let u7:=W.tasks q7;let v7:=heX_tasks W t b q7;q7<h0→(((((((((((((((((((True∧u7.r0=v7.r0)∧u7.r1=v7.r1)∧u7.r2=v7.r2)∧u7.r3=v7.r3)∧u7.r4=v7.r4)∧u7.r5=v7.r5)∧u7.r6=v7.r6)∧u7.r7=v7.r7)∧u7.pc=v7.pc)∧u7.st=v7.st)∧u7.prio=v7.prio)∧u7.node=v7.node)∧u7.space=v7.space)∧u7.helper=v7.helper)∧u7.loc=v7.loc)∧u7.word=v7.word)∧u7.badge=v7.badge)∧u7.owes=v7.owes)∧u7.core=v7.core)∧u7.dom=v7.dom))∧(o0∧(∀w7:Nat,let x7:=heX_linesN W t b w7;w7<l0→True∧W.linesN w7=x7∧(∀y7:Nat,y7<x7→True∧W.lines w7 y7=heX_lines W t b w7 y7)))∧(u0∧(∀z7:Nat,z7<q0→True∧W.bits z7=heX_bits W t b z7))∧(w0∧(∀a8:Nat,a8<v0→True∧W.cores a8=heX_cores W t b a8))∧g3)∧(g2=false→((SV.ptr 0 0 none 0 0=SV.ptr 0 0 none 0 0∧t=t∧b=b∧True)∧(k2∧l2∧q2∧v2∧(k0∧(∀b8:Nat,let c8:=W.tasks b8;let d8:=c8.prio;let e8:=c8.node;let g8:=c8.space;let h8:=c8.helper;let k8:=c8.loc;let l8:=c8.word;let o8:=c8.badge;let q8:=c8.owes;let r8:=c8.core;let u8:=c8.dom;b8<h0→(((((((((((((((((((True∧c8.r0=c8.r0)∧c8.r1=c8.r1)∧c8.r2=c8.r2)∧c8.r3=c8.r3)∧
    c8.r4=c8.r4)∧c8.r5=c8.r5)∧c8.r6=c8.r6)∧c8.r7=c8.r7)∧c8.pc=c8.pc)∧c8.st=c8.st)∧d8=d8)∧e8=e8)∧g8=g8)∧h8=h8)∧k8=k8)∧l8=l8)∧o8=o8)∧q8=q8)∧r8=r8)∧u8=u8))∧(o0∧(∀v8:Nat,let w8:=W.linesN v8;v8<l0→True∧w8=w8∧(∀x8:Nat,x8<w8→True∧W.lines v8 x8=W.lines v8 x8)))∧(u0∧(∀y8:Nat,y8<q0→True∧W.bits y8=W.bits y8))∧(w0∧(∀z8:Nat,z8<v0→True∧W.cores z8=W.cores z8))∧g3)∧OfP W t∧BlP W b∧v0≤100000)∧(heE W t b=0∧((-1):Int)=(-1))∧k2∧l2∧q2∧v2∧(k0∧(∀a9:Nat,let b9:=herW_tasks W t b a9;let c9:=heX_tasks W t b a9;a9<h0→(((((((((((((((((((True∧b9.r0=c9.r0)∧b9.r1=c9.r1)∧b9.r2=c9.r2)∧b9.r3=c9.r3)∧b9.r4=c9.r4)∧b9.r5=c9.r5)∧b9.r6=c9.r6)∧b9.r7=c9.r7)∧b9.pc=c9.pc)∧b9.st=c9.st)∧b9.prio=c9.prio)∧b9.node=c9.node)∧b9.space=c9.space)∧b9.helper=c9.helper)∧b9.loc=c9.loc)∧b9.word=c9.word)∧b9.badge=c9.badge)∧b9.owes=c9.owes)∧b9.core=c9.core)∧b9.dom=c9.dom))∧(o0∧(∀d9:Nat,let e9:=heX_linesN W t b d9;d9<l0→True∧herW_linesN W t b d9=e9∧(∀g9:Nat,g9<e9→True∧herW_lines W t b d9 g9=heX_lines W t b d9 g9)))∧(u0∧(∀h9:Nat,h9<q0→True∧herW_bits W t b h9=heX_bits W t b h9))∧(w0∧(∀k9:Nat,k9<v0→True∧herW_cores W t b k9=heX_cores W t b k9))∧g3)
set_option maxHeartbeats 2000000 in
theorem ok_herC : FnOK Tryz.prog glE 108 c_herC := ok_of (.cons (ok_actP.up glN_glE) (.cons (ok_hearP.up glN_glE) .nil)) false Tryz.call108 Tryz.func108 (fun _ => []) (V := V_herC) (fun _ => by kernel_rfl) fun ⟨t, b, W⟩ hp => by
  dsimp only [s_herC] at hp
  dsimp only [V_herC, tn, w64]
  simp only [std, stb, eq_self, implies_true, Bool.cond_self]
  try simp only [wd_eta]
  obtain ⟨hs, hw⟩ := hp
  refine ⟨ac_of hw hs, fun h => ?_, fun h => ?_⟩
  · skip
    have hc : (heE W t b == 0) = false := by show (actE W t b 8 == 0) = false; simpa using h
    refine ⟨rfl, ?_⟩
    have e_ := heX_f hc
    have e_tasks : heX_tasks W t b = _ := congrArg Wd.tasks e_
    have e_linesN : heX_linesN W t b = _ := congrArg Wd.linesN e_
    have e_lines : heX_lines W t b = _ := congrArg Wd.lines e_
    have e_bits : heX_bits W t b = _ := congrArg Wd.bits e_
    have e_cores : heX_cores W t b = _ := congrArg Wd.cores e_
    simp only [e_tasks, e_linesN, e_lines, e_bits, e_cores]
    clear e_ e_tasks e_linesN e_lines e_bits e_cores
    repeat' (first | exact trivial | exact run20 rfl | rfl | refine And.intro ?_ ?_ | intro _ | fail)
  · skip
    have e : actE W t b 8 = 0 := by simpa using h
    have hc : (heE W t b == 0) = true := by show (actE W t b 8 == 0) = true; rw [e]; rfl
    obtain ⟨t0, t1, b0, b1, k1, k2⟩ := act_0 e
    have z1 := hw.z.tasks
    have z2 := hw.z.c1
    refine ⟨⟨of_of hw hs t0 (by omega), bl_of hw hs b0 b1 k2, by omega⟩, e, ?_⟩
    have e_ := heX_t hc
    have e_tasks : heX_tasks W t b = _ := congrArg Wd.tasks e_
    have e_linesN : heX_linesN W t b = _ := congrArg Wd.linesN e_
    have e_lines : heX_lines W t b = _ := congrArg Wd.lines e_
    have e_bits : heX_bits W t b = _ := congrArg Wd.bits e_
    have e_cores : heX_cores W t b = _ := congrArg Wd.cores e_
    simp only [e_tasks, e_linesN, e_lines, e_bits, e_cores]
    clear e_ e_tasks e_linesN e_lines e_bits e_cores
    repeat' (first | exact trivial | exact run20 rfl | rfl | refine And.intro ?_ ?_ | intro _ | fail)
structure X_herD where
  (W : Wd) (t b : Int)
def s_herD : Sy.Spec := ⟨X_herD, fun ⟨W, t, b⟩ => [wSV W, .fn 108 2 (lsv [.pt true 1 (fun _ => .v (.int .i64 t)), .pt true 1 (fun _ => .v (.int .i64 b))])], fun _ => [], fun ⟨W, _, _⟩ => Sm W ∧ Snd W, fun ⟨W, t, b⟩ => .tp 2 (lsv [wRd (gdW (heE W t b) (heX W t b)), .er 35 116 (heE W t b) (-1)]), fun _ => [],
  fun args mem => match args with | [a0, a1] => (match isFn 108 a1 with | true => some ⟨wSVD a0, intD (ptF (fnF a1 0) 0), intD (ptF (fnF a1 1) 0)⟩ | false => none) | _ => none⟩
def c_herD : Con := ⟨[], s_herD.g, none⟩
def V_herD : X_herD → Prop := fun ⟨W, t, b⟩ => let a0:=W.nRam;let b0:=a0=a0;let c0:=b0∧(∀d0:Nat,d0<a0→True∧W.ram d0=W.ram d0);let e0:=W.nKinds;let g0:=e0=e0;let h0:=g0∧(∀k0:Nat,k0<e0→True∧W.kinds k0=W.kinds k0);let l0:=W.nSlots;let o0:=l0=l0;let q0:=o0∧(∀u0:Nat,let v0:=W.slots u0;let w0:=v0.kind;let x0:=v0.base;let y0:=v0.len;let z0:=v0.mark;let a1:=v0.rights;let b1:=v0.badge;let c1:=v0.from_;u0<l0→((((((True∧w0=w0)∧x0=x0)∧y0=y0)∧z0=z0)∧a1=a1)∧b1=b1)∧c1=c1);let d1:=W.nTasks;let e1:=d1=d1;let g1:=e1∧(∀h1:Nat,let k1:=W.tasks h1;let l1:=k1.prio;let o1:=k1.node;let q1:=k1.space;let u1:=k1.helper;let v1:=k1.loc;let w1:=k1.word;let x1:=k1.badge;let y1:=k1.owes;let z1:=k1.core;let a2:=k1.dom;h1<d1→(((((((((((((((((((True∧k1.r0=k1.r0)∧k1.r1=k1.r1)∧k1.r2=k1.r2)∧k1.r3=k1.r3)∧k1.r4=k1.r4)∧k1.r5=k1.r5)∧k1.r6=k1.r6)∧k1.r7=k1.r7)∧k1.pc=k1.pc)∧k1.st=k1.st)∧l1=l1)∧o1=o1)∧q1=q1)∧u1=u1)∧v1=v1)∧w1=w1)∧x1=x1)∧y1=y1)∧z1=z1)∧a2=a2);let b2:=W.nLines;let c2:=b2=b2;let d2:=c2∧(∀e2:Nat,let g2:=W.linesN e2;e2<b2→True∧g2=g2∧(∀h2:Nat,h2<g2→True∧W.lines e2 h2=W.lines e2 h2));let k2:=W.nBits;let l2:=k2=k2;let o2:=l2∧(∀q2:Nat,q2<k2→True∧W.bits q2=W.bits q2);let u2:=W.nCores;let v2:=u2=u2;let w2:=v2∧(∀x2:Nat,x2<u2→True∧W.cores x2=W.cores x2);let y2:=W.nReady;let z2:=y2=y2;let a3:=z2∧(∀b3:Nat,let c3:=W.readyN b3;b3<y2→True∧c3=c3∧(∀d3:Nat,d3<c3→True∧W.ready b3 d3=W.ready b3 d3));let e3:=W.nTlbs;let g3:=e3=e3;
    let h3:=g3∧(∀k3:Nat,let l3:=W.tlbsN k3;k3<e3→True∧l3=l3∧(∀o3:Nat,let q3:=W.tlbs k3 o3;let u3:=q3.sp;let v3:=q3.pg;let w3:=q3.fr;let x3:=q3.wr;o3<l3→(((True∧u3=u3)∧v3=v3)∧w3=w3)∧x3=x3));let y3:=W.nDoms;let z3:=y3=y3;let a4:=z3∧(∀b4:Nat,b4<y3→True∧W.doms b4=W.doms b4);let c4:=W.time=W.time;let d4:=(((((((((((True∧c0)∧h0)∧q0)∧g1)∧d2)∧o2)∧w2)∧a3)∧h3)∧a4)∧c4)∧True;let e4:=tn 10 True;let g4:=heE W t b;let h4:=gdW g4 (heX W t b);let k4:=h4.nRam;let l4:=h4.nKinds;let o4:=h4.nSlots;let q4:=h4.nTasks;let u4:=h4.nLines;let v4:=h4.nBits;let w4:=h4.nCores;let x4:=h4.nReady;let y4:=h4.nTlbs;let z4:=h4.nDoms;let a5:=h4.time;let b5:=True∧((((((((((True∧k4=0)∧l4=0)∧o4=0)∧q4=0)∧u4=0)∧v4=0)∧w4=0)∧x4=0)∧y4=0)∧z4=0)∧0=a5;let c5:=((-1):Int)=(-1);let d5:=0=0;let e5:=g4 !=0;tn 2 ((d4∧True∧s_wCheck.match_1 (fun g5:X_wCheck=>Prop) (X_wCheck.mk W) (fun h5:Wd=>Sm h5))∧((wE W !=0)=true→e4∧(b5∧(8:Int)≠0∧g4=8∧c5)∧True)∧((wE W !=0)=false→(d4∧True∧s_cloneW.match_1 (fun k5:X_cloneW=>Prop) (X_cloneW.mk W) (fun l5:Wd=>Lg l5))∧e4∧((SV.ptr 0 0 none 0 0=SV.ptr 0 0 none 0 0∧(True∧t=t)∧(True∧b=b)∧True)∧((((((((((((True∧d5∧b0)∧d5∧g0)∧d5∧o0)∧d5∧e1)∧d5∧c2)∧d5∧l2)∧d5∧v2)∧d5∧z2)∧d5∧g3)∧d5∧z3)∧c4)∧c0∧h0∧q0∧g1∧d2∧o2∧w2∧a3∧h3∧a4∧True)∧Sm W∧Snd W)∧(e5=true→e4∧(b5∧g4=g4∧c5)∧True)∧(e5=false→e4∧((True∧((((((((((True∧a0=k4∧(∀o5:Nat,o5<k4→True∧W.ram (0+o5)=h4.ram o5))∧e0=l4∧(∀q5:Nat,q5<l4→True∧W.kinds (0+q5)=h4.kinds q5))∧l0=o4∧(∀u5:Nat,let v5:=W.slots (0+u5);let w5:=h4.slots u5;u5<o4→((((((True∧v5.kind=w5.kind)∧
    v5.base=w5.base)∧v5.len=w5.len)∧v5.mark=w5.mark)∧v5.rights=w5.rights)∧v5.badge=w5.badge)∧v5.from_=w5.from_))∧d1=q4∧(∀x5:Nat,let y5:=heX_tasks W t b (0+x5);let z5:=h4.tasks x5;x5<q4→(((((((((((((((((((True∧y5.r0=z5.r0)∧y5.r1=z5.r1)∧y5.r2=z5.r2)∧y5.r3=z5.r3)∧y5.r4=z5.r4)∧y5.r5=z5.r5)∧y5.r6=z5.r6)∧y5.r7=z5.r7)∧y5.pc=z5.pc)∧y5.st=z5.st)∧y5.prio=z5.prio)∧y5.node=z5.node)∧y5.space=z5.space)∧y5.helper=z5.helper)∧y5.loc=z5.loc)∧y5.word=z5.word)∧y5.badge=z5.badge)∧y5.owes=z5.owes)∧y5.core=z5.core)∧y5.dom=z5.dom))∧b2=u4∧(∀a6:Nat,a6<u4→True∧heX_linesN W t b (0+a6)=h4.linesN a6∧(∀b6:Nat,b6<h4.linesN a6→True∧heX_lines W t b (0+a6) (0+b6)=h4.lines a6 b6)))∧k2=v4∧(∀c6:Nat,c6<v4→True∧heX_bits W t b (0+c6)=h4.bits c6))∧u2=w4∧(∀d6:Nat,d6<w4→True∧heX_cores W t b (0+d6)=h4.cores d6))∧y2=x4∧(∀e6:Nat,e6<x4→True∧W.readyN (0+e6)=h4.readyN e6∧(∀g6:Nat,g6<h4.readyN e6→True∧W.ready (0+e6) (0+g6)=h4.ready e6 g6)))∧e3=y4∧(∀h6:Nat,let k6:=0+h6;h6<y4→True∧W.tlbsN k6=h4.tlbsN h6∧(∀l6:Nat,let o6:=W.tlbs k6 (0+l6);let q6:=h4.tlbs h6 l6;l6<h4.tlbsN h6→(((True∧o6.sp=q6.sp)∧o6.pg=q6.pg)∧o6.fr=q6.fr)∧o6.wr=q6.wr)))∧y3=z4∧(∀u6:Nat,u6<z4→True∧W.doms (0+u6)=h4.doms u6))∧W.time=a5)∧g4=0∧c5)∧True)))
set_option maxHeartbeats 2000000 in
theorem ok_herD : FnOK Tryz.prog glE 66 c_herD := ok_of (.cons (ok_wCheck.up glN_glE) (.cons (ok_cloneW.up glN_glE) (.cons ok_herC .nil))) false Tryz.call66 Tryz.func66 (fun _ => []) (V := V_herD) (fun _ => by kernel_rfl) fun ⟨W, t, b⟩ hp => by
  dsimp only [s_herD] at hp
  dsimp only [V_herD, tn, w64]
  simp only [std, stb, eq_self, implies_true, Bool.cond_self]
  obtain ⟨hs, hw⟩ := hp
  have h0 := snd0 hw
  refine ⟨hs, fun h => absurd (by simpa using h0) (by simpa using h), fun _ => ⟨lg_sm hs, ⟨hs, hw⟩, fun h2 => ?_, fun h2 => ?_⟩⟩
  · simp only [fun X => gdW_no X (ne0 h2)]
    repeat' (first | exact trivial | rfl | refine And.intro ?_ ?_ | intro _ | exact absurd ‹_› (Nat.not_lt_zero _) | fail)
  · simp only [fun X => gdW_yes X (eq0 h2)]
    repeat' (first | exact trivial | rfl | refine And.intro ?_ ?_ | intro _ | exact absurd ‹_› (Nat.not_lt_zero _) | fail)
    exact eq_of_beq (eq0 h2)
structure X_herX where
  (W : Wd) (t b : Int)
def s_herX : Sy.Spec := ⟨X_herX, fun ⟨W, t, b⟩ => [wSV W, .v (.int .i64 t), .v (.int .i64 b)], fun _ => [], fun ⟨W, _, _⟩ => Sm W ∧ Snd W, fun ⟨W, t, b⟩ => .tp 2 (lsv [wRd (gdW (heE W t b) (heX W t b)), .er 35 116 (heE W t b) (-1)]), fun _ => [],
  fun args mem => match args with | [a0, a1, a2] => some ⟨wSVD a0, intD (a1), intD (a2)⟩ | _ => none⟩
def c_herX : Con := ⟨[], s_herX.g, none⟩
def V_herX : X_herX → Prop := fun ⟨W, t, b⟩ => let a0:=W.nKinds;let b0:=W.nSlots;let c0:=W.nTasks;let d0:=W.nLines;let e0:=W.nCores;let g0:=W.nReady;let h0:=heE W t b;let k0:=gdW h0 (heX W t b);let l0:=k0.nRam;let o0:=k0.nKinds;let q0:=k0.nSlots;let u0:=k0.nTasks;let v0:=k0.nLines;let w0:=k0.nBits;let x0:=k0.nCores;let y0:=k0.nReady;let z0:=k0.nTlbs;let a1:=k0.nDoms;let b1:=k0.time;tn 4 ((((((((((((((True∧W.nRam=W.nRam∧(∀c1:Nat,c1<W.nRam→True∧W.ram c1=W.ram c1))∧a0=a0∧(∀d1:Nat,d1<a0→True∧W.kinds d1=W.kinds d1))∧b0=b0∧(∀e1:Nat,let g1:=W.slots e1;let h1:=g1.kind;let k1:=g1.base;let l1:=g1.len;let o1:=g1.mark;let q1:=g1.rights;let u1:=g1.badge;let v1:=g1.from_;e1<b0→((((((True∧h1=h1)∧k1=k1)∧l1=l1)∧o1=o1)∧q1=q1)∧u1=u1)∧v1=v1))∧c0=c0∧(∀w1:Nat,let x1:=W.tasks w1;let y1:=x1.prio;let z1:=x1.node;let a2:=x1.space;let b2:=x1.helper;let c2:=x1.loc;let d2:=x1.word;let e2:=x1.badge;let g2:=x1.owes;let h2:=x1.core;let k2:=x1.dom;w1<c0→(((((((((((((((((((True∧x1.r0=x1.r0)∧x1.r1=x1.r1)∧x1.r2=x1.r2)∧x1.r3=x1.r3)∧x1.r4=x1.r4)∧x1.r5=x1.r5)∧x1.r6=x1.r6)∧x1.r7=x1.r7)∧x1.pc=x1.pc)∧x1.st=x1.st)∧y1=y1)∧z1=z1)∧a2=a2)∧b2=b2)∧c2=c2)∧d2=d2)∧e2=e2)∧g2=g2)∧h2=h2)∧k2=k2))∧d0=d0∧(∀l2:Nat,let o2:=W.linesN l2;l2<d0→True∧o2=o2∧(∀q2:Nat,q2<o2→True∧W.lines l2 q2=W.lines l2 q2)))∧W.nBits=W.nBits∧(∀u2:Nat,u2<W.nBits→True∧W.bits u2=W.bits u2))∧e0=e0∧(∀v2:Nat,v2<e0→True∧W.cores v2=W.cores v2))∧g0=g0∧(∀w2:Nat,let x2:=W.readyN w2;w2<g0→True∧x2=x2∧(∀y2:Nat,y2<x2→True∧W.ready w2 y2=W.ready w2 y2)))∧W.nTlbs=W.nTlbs∧(∀z2:Nat,let a3:=W.tlbsN z2;z2<W.nTlbs→True∧a3=a3∧
    (∀b3:Nat,let c3:=W.tlbs z2 b3;let d3:=c3.sp;let e3:=c3.pg;let g3:=c3.fr;let h3:=c3.wr;b3<a3→(((True∧d3=d3)∧e3=e3)∧g3=g3)∧h3=h3)))∧W.nDoms=W.nDoms∧(∀k3:Nat,k3<W.nDoms→True∧W.doms k3=W.doms k3))∧W.time=W.time)∧(tn 2 (t=t)∧True∧b=b)∧True)∧True∧Sm W∧Snd W)∧tn 10 True∧((True∧((((((((((True∧l0=l0∧(∀l3:Nat,l3<l0→True∧k0.ram l3=k0.ram l3))∧o0=o0∧(∀o3:Nat,o3<o0→True∧k0.kinds o3=k0.kinds o3))∧q0=q0∧(∀q3:Nat,let u3:=k0.slots q3;let v3:=u3.kind;let w3:=u3.base;let x3:=u3.len;let y3:=u3.mark;let z3:=u3.rights;let a4:=u3.badge;let b4:=u3.from_;q3<q0→((((((True∧v3=v3)∧w3=w3)∧x3=x3)∧y3=y3)∧z3=z3)∧a4=a4)∧b4=b4))∧u0=u0∧(∀c4:Nat,let d4:=k0.tasks c4;let e4:=d4.prio;let g4:=d4.node;let h4:=d4.space;let k4:=d4.helper;let l4:=d4.loc;let o4:=d4.word;let q4:=d4.badge;let u4:=d4.owes;let v4:=d4.core;let w4:=d4.dom;c4<u0→(((((((((((((((((((True∧d4.r0=d4.r0)∧d4.r1=d4.r1)∧d4.r2=d4.r2)∧d4.r3=d4.r3)∧d4.r4=d4.r4)∧d4.r5=d4.r5)∧d4.r6=d4.r6)∧d4.r7=d4.r7)∧d4.pc=d4.pc)∧d4.st=d4.st)∧e4=e4)∧g4=g4)∧h4=h4)∧k4=k4)∧l4=l4)∧o4=o4)∧q4=q4)∧u4=u4)∧v4=v4)∧w4=w4))∧v0=v0∧(∀x4:Nat,let y4:=k0.linesN x4;x4<v0→True∧y4=y4∧(∀z4:Nat,z4<y4→True∧k0.lines x4 z4=k0.lines x4 z4)))∧w0=w0∧(∀a5:Nat,a5<w0→True∧k0.bits a5=k0.bits a5))∧x0=x0∧(∀b5:Nat,b5<x0→True∧k0.cores b5=k0.cores b5))∧y0=y0∧(∀c5:Nat,let d5:=k0.readyN c5;c5<y0→True∧d5=d5∧(∀e5:Nat,e5<d5→True∧k0.ready c5 e5=k0.ready c5 e5)))∧z0=z0∧(∀g5:Nat,let h5:=k0.tlbsN g5;g5<z0→True∧h5=h5∧(∀k5:Nat,let l5:=k0.tlbs g5 k5;let o5:=l5.sp;let q5:=l5.pg;let u5:=l5.fr;let v5:=l5.wr;k5<h5→
    (((True∧o5=o5)∧q5=q5)∧u5=u5)∧v5=v5)))∧a1=a1∧(∀w5:Nat,w5<a1→True∧k0.doms w5=k0.doms w5))∧b1=b1)∧h0=h0∧((-1):Int)=(-1))∧True)
set_option maxHeartbeats 2000000 in
theorem ok_herX : FnOK Tryz.prog glE 43 c_herX := ok_of (.cons ok_herD .nil) false Tryz.call43 Tryz.func43 (fun _ => []) (V := V_herX) (fun _ => by kernel_rfl) fun ⟨W, t, b⟩ hp => by
  dsimp only [s_herX] at hp
  dsimp only [V_herX, tn, w64]
  simp only [std, stb, eq_self, implies_true, Bool.cond_self]
  try simp only [wd_eta]
  exact hp
structure X_herY where
  (W : Wd) (t b : Int)
def s_herY : Sy.Spec := ⟨X_herY, fun ⟨W, t, b⟩ => [wSV W, .v (.int .i64 t), .v (.int .i64 b)], fun _ => [], fun ⟨W, _, _⟩ => Sm W ∧ wE W ≠ 0, fun _ => .tp 2 (lsv [wRd oW, .er 35 116 8 (-1)]), fun _ => [],
  fun args mem => match args with | [a0, a1, a2] => some ⟨wSVD a0, intD (a1), intD (a2)⟩ | _ => none⟩
def c_herY : Con := ⟨[], s_herY.g, none⟩
def V_herY : X_herY → Prop := fun ⟨W, _, _⟩ => let a0:=W.nKinds;let b0:=W.nSlots;let c0:=W.nTasks;let d0:=W.nLines;let e0:=W.nCores;let g0:=W.nReady;let h0:=(0:Int)=0;let k0:=True∧h0;let l0:=0=0∧(∀o0:Nat,o0<0→k0);let q0:=True∧l0;let u0:=(k0∧h0)∧h0;let v0:=(((u0∧h0)∧h0)∧h0)∧h0;let w0:=((-1):Int)=(-1);let x0:=0=0∧(∀y0:Nat,y0<0→q0);tn 4 ((((((((((((((True∧W.nRam=W.nRam∧(∀z0:Nat,z0<W.nRam→True∧W.ram z0=W.ram z0))∧a0=a0∧(∀a1:Nat,a1<a0→True∧W.kinds a1=W.kinds a1))∧b0=b0∧(∀b1:Nat,let c1:=W.slots b1;let d1:=c1.kind;let e1:=c1.base;let g1:=c1.len;let h1:=c1.mark;let k1:=c1.rights;let l1:=c1.badge;let o1:=c1.from_;b1<b0→((((((True∧d1=d1)∧e1=e1)∧g1=g1)∧h1=h1)∧k1=k1)∧l1=l1)∧o1=o1))∧c0=c0∧(∀q1:Nat,let u1:=W.tasks q1;let v1:=u1.prio;let w1:=u1.node;let x1:=u1.space;let y1:=u1.helper;let z1:=u1.loc;let a2:=u1.word;let b2:=u1.badge;let c2:=u1.owes;let d2:=u1.core;let e2:=u1.dom;q1<c0→(((((((((((((((((((True∧u1.r0=u1.r0)∧u1.r1=u1.r1)∧u1.r2=u1.r2)∧u1.r3=u1.r3)∧u1.r4=u1.r4)∧u1.r5=u1.r5)∧u1.r6=u1.r6)∧u1.r7=u1.r7)∧u1.pc=u1.pc)∧u1.st=u1.st)∧v1=v1)∧w1=w1)∧x1=x1)∧y1=y1)∧z1=z1)∧a2=a2)∧b2=b2)∧c2=c2)∧d2=d2)∧e2=e2))∧d0=d0∧(∀g2:Nat,let h2:=W.linesN g2;g2<d0→True∧h2=h2∧(∀k2:Nat,k2<h2→True∧W.lines g2 k2=W.lines g2 k2)))∧W.nBits=W.nBits∧(∀l2:Nat,l2<W.nBits→True∧W.bits l2=W.bits l2))∧e0=e0∧(∀o2:Nat,o2<e0→True∧W.cores o2=W.cores o2))∧g0=g0∧(∀q2:Nat,let u2:=W.readyN q2;q2<g0→True∧u2=u2∧(∀v2:Nat,v2<u2→True∧W.ready q2 v2=W.ready q2 v2)))∧W.nTlbs=W.nTlbs∧(∀w2:Nat,let x2:=W.tlbsN w2;w2<W.nTlbs→True∧x2=x2∧(∀y2:Nat,let z2:=W.tlbs w2 y2;let a3:=z2.sp;
    let b3:=z2.pg;let c3:=z2.fr;let d3:=z2.wr;y2<x2→(((True∧a3=a3)∧b3=b3)∧c3=c3)∧d3=d3)))∧W.nDoms=W.nDoms∧(∀e3:Nat,e3<W.nDoms→True∧W.doms e3=W.doms e3))∧W.time=W.time)∧True∧True)∧True∧Sm W∧wE W≠0)∧tn 10 True∧((True∧(((((((((q0∧l0)∧0=0∧(∀g3:Nat,g3<0→v0))∧0=0∧(∀h3:Nat,h3<0→((((((((((((v0∧h0)∧h0)∧h0)∧h0)∧w0)∧w0)∧w0)∧w0)∧h0)∧h0)∧w0)∧h0)∧h0))∧x0)∧l0)∧l0)∧x0)∧0=0∧(∀k3:Nat,k3<0→True∧0=0∧(∀l3:Nat,l3<0→u0∧false=false)))∧l0)∧h0)∧(8:Int)=8∧w0)∧True)
set_option maxHeartbeats 2000000 in
theorem ok_herY : FnOK Tryz.prog glE 43 c_herY := ok_of (.cons ok_done8 .nil) false Tryz.call43 Tryz.func43 (fun _ => []) (V := V_herY) (fun _ => by kernel_rfl) fun ⟨W, t, b⟩ hp => by
  dsimp only [s_herY] at hp
  dsimp only [V_herY, tn, w64]
  simp only [std, stb, eq_self, implies_true, Bool.cond_self]
  try simp only [wd_eta]
  exact hp
structure X_herR where
  (t b : Int) (W : Wd)
def s_herR : Sy.Spec := ⟨X_herR, fun ⟨t, b, _⟩ => [.ptr 0 0 none 0 0, .pt true 1 (fun _ => .v (.int .i64 t)), .pt true 1 (fun _ => .v (.int .i64 b))], fun ⟨_, _, W⟩ => wMem W, fun ⟨_, _, W⟩ => Sm W ∧ Snd W, fun ⟨t, b, W⟩ => .v (.int .i64 (heE W t b)), fun ⟨t, b, W⟩ => wMem (heX W t b),
  fun args mem => match args with | [a0, a1, a2] => some ⟨intD (ptF a1 0), intD (ptF a2 0), wMJD mem 0⟩ | _ => none⟩
def c_herR : Con := ⟨[true], s_herR.g, none⟩
def V_herR : X_herR → Prop := fun ⟨t, b, W⟩ => let a0:=W.nRam;let b0:=a0=a0;let c0:=W.nKinds;let d0:=c0=c0;let e0:=W.nSlots;let g0:=e0=e0;let h0:=W.nTasks;let k0:=h0=h0;let l0:=W.nLines;let o0:=l0=l0;let q0:=W.nBits;let u0:=q0=q0;let v0:=W.nCores;let w0:=v0=v0;let x0:=W.nReady;let y0:=x0=x0;let z0:=W.nTlbs;let a1:=z0=z0;let b1:=W.nDoms;let c1:=b1=b1;let d1:=W.time=W.time;let e1:=Wd.mk a0 (fun g1:Nat=>W.ram (0+g1)) c0 (fun h1:Nat=>W.kinds (0+h1)) e0 (fun k1:Nat=>W.slots (0+k1)) h0 (fun l1:Nat=>W.tasks (0+l1)) l0 (fun o1:Nat=>W.linesN (0+o1)) (fun q1:Nat=>fun u1:Nat=>W.lines (0+q1) (0+u1)) q0 (fun v1:Nat=>W.bits (0+v1)) v0 (fun w1:Nat=>W.cores (0+w1)) x0 (fun x1:Nat=>W.readyN (0+x1)) (fun y1:Nat=>fun z1:Nat=>W.ready (0+y1) (0+z1)) z0 (fun a2:Nat=>W.tlbsN (0+a2)) (fun b2:Nat=>fun c2:Nat=>W.tlbs (0+b2) (0+c2)) b1 (fun d2:Nat=>W.doms (0+d2)) W.time;let e2:=actE e1 t b 8;let g2:=e2==0;let h2:=0=0;let k2:=((((((((((True∧h2∧b0)∧h2∧d0)∧h2∧g0)∧h2∧k0)∧h2∧o0)∧h2∧u0)∧h2∧w0)∧h2∧y0)∧h2∧a1)∧h2∧c1)∧d1;let l2:=b0∧(∀o2:Nat,o2<a0→True∧W.ram o2=W.ram o2);let q2:=d0∧(∀u2:Nat,u2<c0→True∧W.kinds u2=W.kinds u2);let v2:=g0∧(∀w2:Nat,let x2:=W.slots w2;let y2:=x2.kind;let z2:=x2.base;let a3:=x2.len;let b3:=x2.mark;let c3:=x2.rights;let d3:=x2.badge;let e3:=x2.from_;w2<e0→((((((True∧y2=y2)∧z2=z2)∧a3=a3)∧b3=b3)∧c3=c3)∧d3=d3)∧e3=e3);
    let g3:=(y0∧(∀h3:Nat,let k3:=W.readyN h3;h3<x0→True∧k3=k3∧(∀l3:Nat,l3<k3→True∧W.ready h3 l3=W.ready h3 l3)))∧(a1∧(∀o3:Nat,let q3:=W.tlbsN o3;o3<z0→True∧q3=q3∧(∀u3:Nat,let v3:=W.tlbs o3 u3;let w3:=v3.sp;let x3:=v3.pg;let y3:=v3.fr;let z3:=v3.wr;u3<q3→(((True∧w3=w3)∧x3=x3)∧y3=y3)∧z3=z3)))∧(c1∧(∀a4:Nat,a4<b1→True∧W.doms a4=W.doms a4))∧True;let b4:=e2=heE W t b;(((((((((((((True∧b0∧(∀c4:Nat,c4<a0→True∧W.ram (0+c4)=W.ram (0+c4)))∧d0∧(∀d4:Nat,let e4:=W.kinds (0+d4);d4<c0→True∧e4=e4))∧g0∧(∀g4:Nat,let h4:=W.slots (0+g4);let k4:=h4.kind;let l4:=h4.base;let o4:=h4.len;let q4:=h4.mark;let u4:=h4.rights;let v4:=h4.badge;let w4:=h4.from_;g4<e0→((((((True∧k4=k4)∧l4=l4)∧o4=o4)∧q4=q4)∧u4=u4)∧v4=v4)∧w4=w4))∧k0∧(∀x4:Nat,let y4:=W.tasks (0+x4);let z4:=y4.r0;let a5:=y4.r1;let b5:=y4.r2;let c5:=y4.r3;let d5:=y4.r4;let e5:=y4.r5;let g5:=y4.r6;let h5:=y4.r7;let k5:=y4.pc;let l5:=y4.st;let o5:=y4.prio;let q5:=y4.node;let u5:=y4.space;let v5:=y4.helper;let w5:=y4.loc;let x5:=y4.word;let y5:=y4.badge;let z5:=y4.owes;let a6:=y4.core;let b6:=y4.dom;x4<h0→(((((((((((((((((((True∧z4=z4)∧a5=a5)∧b5=b5)∧c5=c5)∧d5=d5)∧e5=e5)∧g5=g5)∧h5=h5)∧k5=k5)∧l5=l5)∧o5=o5)∧q5=q5)∧u5=u5)∧v5=v5)∧w5=w5)∧x5=x5)∧y5=y5)∧z5=z5)∧a6=a6)∧b6=b6))∧o0∧(∀c6:Nat,let d6:=W.linesN (0+c6);c6<l0→True∧d6=d6∧(∀e6:Nat,let g6:=W.lines (0+c6) (0+e6);e6<d6→True∧g6=g6)))∧u0∧(∀h6:Nat,h6<q0→True∧W.bits (0+h6)=W.bits (0+h6)))∧w0∧(∀k6:Nat,let l6:=W.cores (0+k6);k6<v0→True∧l6=l6))∧y0∧(∀o6:Nat,let q6:=W.readyN (0+o6);o6<x0→True∧q6=q6∧(∀u6:Nat,
    let v6:=W.ready (0+o6) (0+u6);u6<q6→True∧v6=v6)))∧a1∧(∀w6:Nat,let x6:=0+w6;let y6:=W.tlbsN x6;w6<z0→True∧y6=y6∧(∀z6:Nat,let a7:=W.tlbs x6 (0+z6);let b7:=a7.sp;let c7:=a7.pg;let d7:=a7.fr;let e7:=a7.wr;z6<y6→(((True∧b7=b7)∧c7=c7)∧d7=d7)∧e7=e7)))∧c1∧(∀g7:Nat,g7<b1→True∧W.doms (0+g7)=W.doms (0+g7)))∧d1)∧t=t∧b=b∧(8:Int)=8∧True)∧True∧s_actR.match_1 (fun h7:X_actR=>Prop) (X_actR.mk e1 t b 8) (fun k7:Wd=>fun l7:Int=>fun o7:Int=>fun q7:Int=>AcP k7))∧(g2=true→((SV.ptr 0 0 none 0 0=SV.ptr 0 0 none 0 0∧t=t∧b=b∧True)∧(k2∧l2∧q2∧v2∧(k0∧(∀u7:Nat,let v7:=W.tasks u7;let w7:=v7.prio;let x7:=v7.node;let y7:=v7.space;let z7:=v7.helper;let a8:=v7.loc;let b8:=v7.word;let c8:=v7.badge;let d8:=v7.owes;let e8:=v7.core;let g8:=v7.dom;u7<h0→(((((((((((((((((((True∧v7.r0=v7.r0)∧v7.r1=v7.r1)∧v7.r2=v7.r2)∧v7.r3=v7.r3)∧v7.r4=v7.r4)∧v7.r5=v7.r5)∧v7.r6=v7.r6)∧v7.r7=v7.r7)∧v7.pc=v7.pc)∧v7.st=v7.st)∧w7=w7)∧x7=x7)∧y7=y7)∧z7=z7)∧a8=a8)∧b8=b8)∧c8=c8)∧d8=d8)∧e8=e8)∧g8=g8))∧(o0∧(∀h8:Nat,let k8:=W.linesN h8;h8<l0→True∧k8=k8∧(∀l8:Nat,l8<k8→True∧W.lines h8 l8=W.lines h8 l8)))∧(u0∧(∀o8:Nat,o8<q0→True∧W.bits o8=W.bits o8))∧(w0∧(∀q8:Nat,q8<v0→True∧W.cores q8=W.cores q8))∧g3)∧OfP W t∧BlP W b∧v0≤100000)∧b4∧k2∧l2∧q2∧v2∧(k0∧(∀r8:Nat,let u8:=herW_tasks W t b r8;let v8:=heX_tasks W t b r8;r8<h0→(((((((((((((((((((True∧u8.r0=v8.r0)∧u8.r1=v8.r1)∧u8.r2=v8.r2)∧u8.r3=v8.r3)∧u8.r4=v8.r4)∧u8.r5=v8.r5)∧u8.r6=v8.r6)∧u8.r7=v8.r7)∧u8.pc=v8.pc)∧u8.st=v8.st)∧u8.prio=v8.prio)∧u8.node=v8.node)∧u8.space=v8.space)∧u8.helper=v8.helper)∧
    u8.loc=v8.loc)∧u8.word=v8.word)∧u8.badge=v8.badge)∧u8.owes=v8.owes)∧u8.core=v8.core)∧u8.dom=v8.dom))∧(o0∧(∀w8:Nat,let x8:=heX_linesN W t b w8;w8<l0→True∧herW_linesN W t b w8=x8∧(∀y8:Nat,y8<x8→True∧herW_lines W t b w8 y8=heX_lines W t b w8 y8)))∧(u0∧(∀z8:Nat,z8<q0→True∧herW_bits W t b z8=heX_bits W t b z8))∧(w0∧(∀a9:Nat,a9<v0→True∧herW_cores W t b a9=heX_cores W t b a9))∧g3)∧(g2=false→b4∧k2∧l2∧q2∧v2∧(k0∧(∀b9:Nat,let c9:=W.tasks b9;let d9:=heX_tasks W t b b9;b9<h0→(((((((((((((((((((True∧c9.r0=d9.r0)∧c9.r1=d9.r1)∧c9.r2=d9.r2)∧c9.r3=d9.r3)∧c9.r4=d9.r4)∧c9.r5=d9.r5)∧c9.r6=d9.r6)∧c9.r7=d9.r7)∧c9.pc=d9.pc)∧c9.st=d9.st)∧c9.prio=d9.prio)∧c9.node=d9.node)∧c9.space=d9.space)∧c9.helper=d9.helper)∧c9.loc=d9.loc)∧c9.word=d9.word)∧c9.badge=d9.badge)∧c9.owes=d9.owes)∧c9.core=d9.core)∧c9.dom=d9.dom))∧(o0∧(∀e9:Nat,let g9:=heX_linesN W t b e9;e9<l0→True∧W.linesN e9=g9∧(∀h9:Nat,h9<g9→True∧W.lines e9 h9=heX_lines W t b e9 h9)))∧(u0∧(∀k9:Nat,k9<q0→True∧W.bits k9=heX_bits W t b k9))∧(w0∧(∀l9:Nat,l9<v0→True∧W.cores l9=heX_cores W t b l9))∧g3)
set_option maxHeartbeats 2000000 in
theorem ok_herR : FnOK Tryz.prog glE 46 c_herR := ok_of (.cons (ok_actR.up glN_glE) (.cons (ok_hearR.up glN_glE) .nil)) false Tryz.call46 Tryz.func46 (fun _ => []) (V := V_herR) (fun _ => by kernel_rfl) fun ⟨t, b, W⟩ hp => by
  dsimp only [s_herR] at hp
  dsimp only [V_herR, tn, w64]
  simp only [std, stb, eq_self, implies_true, Bool.cond_self]
  try simp only [wd_eta]
  obtain ⟨hs, hw⟩ := hp
  refine ⟨ac_of hw hs, fun h => ?_, fun h => ?_⟩
  · skip
    have e : actE W t b 8 = 0 := by simpa using h
    have hc : (heE W t b == 0) = true := by show (actE W t b 8 == 0) = true; rw [e]; rfl
    obtain ⟨t0, t1, b0, b1, k1, k2⟩ := act_0 e
    have z1 := hw.z.tasks
    have z2 := hw.z.c1
    refine ⟨⟨of_of hw hs t0 (by omega), bl_of hw hs b0 b1 k2, by omega⟩, rfl, ?_⟩
    have e_ := heX_t hc
    have e_tasks : heX_tasks W t b = _ := congrArg Wd.tasks e_
    have e_linesN : heX_linesN W t b = _ := congrArg Wd.linesN e_
    have e_lines : heX_lines W t b = _ := congrArg Wd.lines e_
    have e_bits : heX_bits W t b = _ := congrArg Wd.bits e_
    have e_cores : heX_cores W t b = _ := congrArg Wd.cores e_
    simp only [e_tasks, e_linesN, e_lines, e_bits, e_cores]
    clear e_ e_tasks e_linesN e_lines e_bits e_cores
    repeat' (first | exact trivial | exact run20 rfl | rfl | refine And.intro ?_ ?_ | intro _ | fail)
  · skip
    have hc : (heE W t b == 0) = false := by show (actE W t b 8 == 0) = false; simpa using h
    refine ⟨rfl, ?_⟩
    have e_ := heX_f hc
    have e_tasks : heX_tasks W t b = _ := congrArg Wd.tasks e_
    have e_linesN : heX_linesN W t b = _ := congrArg Wd.linesN e_
    have e_lines : heX_lines W t b = _ := congrArg Wd.lines e_
    have e_bits : heX_bits W t b = _ := congrArg Wd.bits e_
    have e_cores : heX_cores W t b = _ := congrArg Wd.cores e_
    simp only [e_tasks, e_linesN, e_lines, e_bits, e_cores]
    clear e_ e_tasks e_linesN e_lines e_bits e_cores
    repeat' (first | exact trivial | exact run20 rfl | rfl | refine And.intro ?_ ?_ | intro _ | fail)
structure X_herL where
  (W : Wd) (t b : Int)
def s_herL : Sy.Spec := ⟨X_herL, fun ⟨W, t, b⟩ => [wRd (gdW (heE W t b) (heX W t b)), .er 35 116 (heE W t b) (-1), wSV W, .v (.int .i64 0), .fn 46 2 (lsv [.pt true 1 (fun _ => .v (.int .i64 t)), .pt true 1 (fun _ => .v (.int .i64 b))])], fun _ => [], fun ⟨W, _, _⟩ => Sm W ∧ Snd W, fun _ => .v (.bool true), fun _ => [],
  fun args mem => match args with | [a0, a1, a2, a3, a4] => (match isFn 46 a4 with | true => some ⟨wSVD a2, intD (ptF (fnF a4 0) 0), intD (ptF (fnF a4 1) 0)⟩ | false => none) | _ => none⟩
def c_herL : Con := ⟨[], s_herL.g, none⟩
def V_herL : X_herL → Prop := fun ⟨W, t, b⟩ => let a0:=W.nRam;let b0:=a0=a0;let c0:=b0∧(∀d0:Nat,d0<a0→True∧W.ram d0=W.ram d0);let e0:=W.nKinds;let g0:=e0=e0;let h0:=g0∧(∀k0:Nat,k0<e0→True∧W.kinds k0=W.kinds k0);let l0:=W.nSlots;let o0:=l0=l0;let q0:=o0∧(∀u0:Nat,let v0:=W.slots u0;let w0:=v0.kind;let x0:=v0.base;let y0:=v0.len;let z0:=v0.mark;let a1:=v0.rights;let b1:=v0.badge;let c1:=v0.from_;u0<l0→((((((True∧w0=w0)∧x0=x0)∧y0=y0)∧z0=z0)∧a1=a1)∧b1=b1)∧c1=c1);let d1:=W.nTasks;let e1:=d1=d1;let g1:=e1∧(∀h1:Nat,let k1:=W.tasks h1;let l1:=k1.prio;let o1:=k1.node;let q1:=k1.space;let u1:=k1.helper;let v1:=k1.loc;let w1:=k1.word;let x1:=k1.badge;let y1:=k1.owes;let z1:=k1.core;let a2:=k1.dom;h1<d1→(((((((((((((((((((True∧k1.r0=k1.r0)∧k1.r1=k1.r1)∧k1.r2=k1.r2)∧k1.r3=k1.r3)∧k1.r4=k1.r4)∧k1.r5=k1.r5)∧k1.r6=k1.r6)∧k1.r7=k1.r7)∧k1.pc=k1.pc)∧k1.st=k1.st)∧l1=l1)∧o1=o1)∧q1=q1)∧u1=u1)∧v1=v1)∧w1=w1)∧x1=x1)∧y1=y1)∧z1=z1)∧a2=a2);let b2:=W.nLines;let c2:=b2=b2;let d2:=c2∧(∀e2:Nat,let g2:=W.linesN e2;e2<b2→True∧g2=g2∧(∀h2:Nat,h2<g2→True∧W.lines e2 h2=W.lines e2 h2));let k2:=W.nBits;let l2:=k2=k2;let o2:=l2∧(∀q2:Nat,q2<k2→True∧W.bits q2=W.bits q2);let u2:=W.nCores;let v2:=u2=u2;let w2:=v2∧(∀x2:Nat,x2<u2→True∧W.cores x2=W.cores x2);let y2:=W.nReady;let z2:=y2=y2;let a3:=z2∧(∀b3:Nat,let c3:=W.readyN b3;b3<y2→True∧c3=c3∧(∀d3:Nat,d3<c3→True∧W.ready b3 d3=W.ready b3 d3));let e3:=W.nTlbs;let g3:=e3=e3;
    let h3:=g3∧(∀k3:Nat,let l3:=W.tlbsN k3;k3<e3→True∧l3=l3∧(∀o3:Nat,let q3:=W.tlbs k3 o3;let u3:=q3.sp;let v3:=q3.pg;let w3:=q3.fr;let x3:=q3.wr;o3<l3→(((True∧u3=u3)∧v3=v3)∧w3=w3)∧x3=x3));let y3:=W.nDoms;let z3:=y3=y3;let a4:=z3∧(∀b4:Nat,b4<y3→True∧W.doms b4=W.doms b4);let c4:=W.time;let d4:=c4=c4;let e4:=True∧True;let g4:=0=0;let h4:=heE W t b;let k4:=h4 !=0;let l4:=h4=h4;let o4:=((-1):Int)=(-1);let q4:=l4∧o4;let u4:=h4==h4&&((-1):Int)==(-1);let v4:=gdW h4 (heX W t b);let w4:=v4.nRam;let x4:=v4.nKinds;let y4:=v4.nSlots;let z4:=v4.nTasks;let a5:=v4.nLines;let b5:=v4.nBits;let c5:=v4.nCores;let d5:=v4.nReady;let e5:=v4.nTlbs;let g5:=v4.nDoms;let h5:=v4.time;
    let k5:=((((((((((True∧w4=w4∧(∀l5:Nat,l5<w4→True∧v4.ram l5=v4.ram l5))∧x4=x4∧(∀o5:Nat,o5<x4→True∧v4.kinds o5=v4.kinds o5))∧y4=y4∧(∀q5:Nat,let u5:=v4.slots q5;let v5:=u5.kind;let w5:=u5.base;let x5:=u5.len;let y5:=u5.mark;let z5:=u5.rights;let a6:=u5.badge;let b6:=u5.from_;q5<y4→((((((True∧v5=v5)∧w5=w5)∧x5=x5)∧y5=y5)∧z5=z5)∧a6=a6)∧b6=b6))∧z4=z4∧(∀c6:Nat,let d6:=v4.tasks c6;let e6:=d6.prio;let g6:=d6.node;let h6:=d6.space;let k6:=d6.helper;let l6:=d6.loc;let o6:=d6.word;let q6:=d6.badge;let u6:=d6.owes;let v6:=d6.core;let w6:=d6.dom;c6<z4→(((((((((((((((((((True∧d6.r0=d6.r0)∧d6.r1=d6.r1)∧d6.r2=d6.r2)∧d6.r3=d6.r3)∧d6.r4=d6.r4)∧d6.r5=d6.r5)∧d6.r6=d6.r6)∧d6.r7=d6.r7)∧d6.pc=d6.pc)∧d6.st=d6.st)∧e6=e6)∧g6=g6)∧h6=h6)∧k6=k6)∧l6=l6)∧o6=o6)∧q6=q6)∧u6=u6)∧v6=v6)∧w6=w6))∧a5=a5∧(∀x6:Nat,let y6:=v4.linesN x6;x6<a5→True∧y6=y6∧(∀z6:Nat,z6<y6→True∧v4.lines x6 z6=v4.lines x6 z6)))∧b5=b5∧(∀a7:Nat,a7<b5→True∧v4.bits a7=v4.bits a7))∧c5=c5∧(∀b7:Nat,b7<c5→True∧v4.cores b7=v4.cores b7))∧d5=d5∧(∀c7:Nat,let d7:=v4.readyN c7;c7<d5→True∧d7=d7∧(∀e7:Nat,e7<d7→True∧v4.ready c7 e7=v4.ready c7 e7)))∧e5=e5∧(∀g7:Nat,let h7:=v4.tlbsN g7;g7<e5→True∧h7=h7∧(∀k7:Nat,let l7:=v4.tlbs g7 k7;let o7:=l7.sp;let q7:=l7.pg;let u7:=l7.fr;let v7:=l7.wr;k7<h7→(((True∧o7=o7)∧q7=q7)∧u7=u7)∧v7=v7)))∧g5=g5∧(∀w7:Nat,w7<g5→True∧v4.doms w7=v4.doms w7))∧h5=h5;let x7:=(k5∧True)∧True∧w4=0∧x4=0∧y4=0∧z4=0∧a5=0∧b5=0∧c5=0∧d5=0∧e5=0∧g5=0∧h5=0;let y7:=h4==0;let z7:=y7=true;
    let a8:=((True∧b0∧(∀b8:Nat,b8<a0→True∧W.ram (0+b8)=W.ram (0+b8)))∧g0∧(∀c8:Nat,let d8:=W.kinds (0+c8);c8<e0→True∧d8=d8))∧o0∧(∀e8:Nat,let g8:=W.slots (0+e8);let h8:=g8.kind;let k8:=g8.base;let l8:=g8.len;let o8:=g8.mark;let q8:=g8.rights;let r8:=g8.badge;let u8:=g8.from_;e8<l0→((((((True∧h8=h8)∧k8=k8)∧l8=l8)∧o8=o8)∧q8=q8)∧r8=r8)∧u8=u8);let v8:=z2∧(∀w8:Nat,let x8:=W.readyN (0+w8);w8<y2→True∧x8=x8∧(∀y8:Nat,let z8:=W.ready (0+w8) (0+y8);y8<x8→True∧z8=z8));let a9:=g3∧(∀b9:Nat,let c9:=0+b9;let d9:=W.tlbsN c9;b9<e3→True∧d9=d9∧(∀e9:Nat,let g9:=W.tlbs c9 (0+e9);let h9:=g9.sp;let k9:=g9.pg;let l9:=g9.fr;let o9:=g9.wr;e9<d9→(((True∧h9=h9)∧k9=k9)∧l9=l9)∧o9=o9));let q9:=z3∧(∀r9:Nat,r9<y3→True∧W.doms (0+r9)=W.doms (0+r9));let u9:=y7&&((-1):Int)==(-1);tn 2 ((((((((((((((True∧c0)∧h0)∧q0)∧g1)∧d2)∧o2)∧w2)∧a3)∧h3)∧a4)∧d4)∧True)∧True∧s_copyW.match_1 (fun v9:X_copyW=>Prop) (X_copyW.mk W) (fun w9:Wd=>Lg w9))∧True∧tn 9 e4∧(((0:Int)==0)=true→((SV.ptr 0 0 none 0 0=SV.ptr 0 0 none 0 0∧(True∧t=t)∧(True∧b=b)∧True)∧((((((((((((True∧g4∧b0)∧g4∧g0)∧g4∧o0)∧g4∧e1)∧g4∧c2)∧g4∧l2)∧g4∧v2)∧g4∧z2)∧g4∧g3)∧g4∧z3)∧d4)∧c0∧h0∧q0∧g1∧d2∧o2∧w2∧a3∧h3∧a4∧True)∧Sm W∧Snd W)∧(k4=true→((l4∧True)∧e4)∧((q4∧((True∧l4)∧o4)∧True)∧e4)∧(u4=true→x7)∧cond u4 true false=true∧True)∧(k4=false→(z7→(k5∧((((((((a8∧e1∧(∀x9:Nat,let y9:=heX_tasks W t b (0+x9);let z9:=y9.r0;let a10:=y9.r1;let b10:=y9.r2;let c10:=y9.r3;let d10:=y9.r4;let e10:=y9.r5;let g10:=y9.r6;let h10:=y9.r7;let k10:=y9.pc;let l10:=y9.st;let o10:=y9.prio;let q10:=y9.node;
    let r10:=y9.space;let u10:=y9.helper;let v10:=y9.loc;let w10:=y9.word;let x10:=y9.badge;let y10:=y9.owes;let z10:=y9.core;let a11:=y9.dom;x9<d1→(((((((((((((((((((True∧z9=z9)∧a10=a10)∧b10=b10)∧c10=c10)∧d10=d10)∧e10=e10)∧g10=g10)∧h10=h10)∧k10=k10)∧l10=l10)∧o10=o10)∧q10=q10)∧r10=r10)∧u10=u10)∧v10=v10)∧w10=w10)∧x10=x10)∧y10=y10)∧z10=z10)∧a11=a11))∧c2∧(∀b11:Nat,let c11:=heX_linesN W t b (0+b11);b11<b2→True∧c11=c11∧(∀d11:Nat,let e11:=heX_lines W t b (0+b11) (0+d11);d11<c11→True∧e11=e11)))∧l2∧(∀g11:Nat,let h11:=heX_bits W t b (0+g11);g11<k2→True∧h11=h11))∧v2∧(∀k11:Nat,let l11:=heX_cores W t b (0+k11);k11<u2→True∧l11=l11))∧v8)∧a9)∧q9)∧d4)∧True)∧e4)∧cond y7 (sameW v4 (Wd.mk a0 (fun o11:Nat=>W.ram (0+o11)) e0 (fun q11:Nat=>W.kinds (0+q11)) l0 (fun r11:Nat=>W.slots (0+r11)) d1 (fun u11:Nat=>heX_tasks W t b (0+u11)) b2 (fun v11:Nat=>heX_linesN W t b (0+v11)) (fun w11:Nat=>fun x11:Nat=>heX_lines W t b (0+w11) (0+x11)) k2 (fun y11:Nat=>heX_bits W t b (0+y11)) u2 (fun z11:Nat=>heX_cores W t b (0+z11)) y2 (fun a12:Nat=>W.readyN (0+a12)) (fun b12:Nat=>fun c12:Nat=>W.ready (0+b12) (0+c12)) e3 (fun d12:Nat=>W.tlbsN (0+d12)) (fun e12:Nat=>fun g12:Nat=>W.tlbs (0+e12) (0+g12)) y3 (fun h12:Nat=>W.doms (0+h12)) c4)) false=true∧True))∧(((0:Int)==0)=false→(((0:Int) !=0)=true→(((0:Int)=0∧True)∧e4)∧((q4∧((True∧(0:Int)=0)∧o4)∧True)∧e4)∧(u9=true→x7)∧cond u9 true false=true∧True)∧(((0:Int) !=0)=false→(z7→(k5∧((((((((a8∧e1∧(∀k12:Nat,let l12:=W.tasks (0+k12);let o12:=l12.r0;let q12:=l12.r1;
    let r12:=l12.r2;let u12:=l12.r3;let v12:=l12.r4;let w12:=l12.r5;let x12:=l12.r6;let y12:=l12.r7;let z12:=l12.pc;let a13:=l12.st;let b13:=l12.prio;let c13:=l12.node;let d13:=l12.space;let e13:=l12.helper;let g13:=l12.loc;let h13:=l12.word;let k13:=l12.badge;let l13:=l12.owes;let o13:=l12.core;let q13:=l12.dom;k12<d1→(((((((((((((((((((True∧o12=o12)∧q12=q12)∧r12=r12)∧u12=u12)∧v12=v12)∧w12=w12)∧x12=x12)∧y12=y12)∧z12=z12)∧a13=a13)∧b13=b13)∧c13=c13)∧d13=d13)∧e13=e13)∧g13=g13)∧h13=h13)∧k13=k13)∧l13=l13)∧o13=o13)∧q13=q13))∧c2∧(∀r13:Nat,let u13:=W.linesN (0+r13);r13<b2→True∧u13=u13∧(∀v13:Nat,let w13:=W.lines (0+r13) (0+v13);v13<u13→True∧w13=w13)))∧l2∧(∀x13:Nat,x13<k2→True∧W.bits (0+x13)=W.bits (0+x13)))∧v2∧(∀y13:Nat,let z13:=W.cores (0+y13);y13<u2→True∧z13=z13))∧v8)∧a9)∧q9)∧d4)∧True)∧e4)∧cond y7 (sameW v4 (Wd.mk a0 (fun a14:Nat=>W.ram (0+a14)) e0 (fun b14:Nat=>W.kinds (0+b14)) l0 (fun c14:Nat=>W.slots (0+c14)) d1 (fun d14:Nat=>W.tasks (0+d14)) b2 (fun e14:Nat=>W.linesN (0+e14)) (fun g14:Nat=>fun h14:Nat=>W.lines (0+g14) (0+h14)) k2 (fun k14:Nat=>W.bits (0+k14)) u2 (fun l14:Nat=>W.cores (0+l14)) y2 (fun o14:Nat=>W.readyN (0+o14)) (fun q14:Nat=>fun r14:Nat=>W.ready (0+q14) (0+r14)) e3 (fun u14:Nat=>W.tlbsN (0+u14)) (fun v14:Nat=>fun w14:Nat=>W.tlbs (0+v14) (0+w14)) y3 (fun x14:Nat=>W.doms (0+x14)) c4)) false=true∧True)))
set_option maxHeartbeats 2000000 in
theorem ok_herL : FnOK Tryz.prog glE 15 c_herL := ok_of (.cons ok_is (.cons (ok_err.up glN_glE) (.cons (ok_copyW.up glN_glE) (.cons ok_nothing (.cons (ok_sameWorld.up glN_glE) (.cons ok_herR .nil)))))) false Tryz.call15 Tryz.func15 (fun _ => []) (V := V_herL) (fun _ => by kernel_rfl) fun ⟨W, t, b⟩ hp => by
  dsimp only [s_herL] at hp
  dsimp only [V_herL, tn, w64]
  simp only [std, stb, eq_self, implies_true, Bool.cond_self]
  obtain ⟨hs, hw⟩ := hp
  refine ⟨lg_sm hs, fun _ => ⟨⟨hs, hw⟩, fun h2 => ?_, fun h2 => ?_⟩, fun h => absurd h (by decide)⟩
  · simp only [fun X => gdW_no X (ne0 h2)]
    repeat' (first | exact trivial | rfl | refine And.intro ?_ ?_ | intro _ | exact absurd ‹_› (Nat.not_lt_zero _) | fail)
    simp
  · simp only [fun X => gdW_yes X (eq0 h2)]
    simp only [eq0 h2, Bool.true_and]
    exact sameW_refl _
structure X_mailRings0 where
  (W : Wd) (t b g : Int)
def s_mailRings0 : Sy.Spec := ⟨X_mailRings0, fun ⟨W, t, b, g⟩ => [wSV W, .v (.int .i64 t), .v (.int .i64 b), .v (.int .i64 g)], fun _ => [], fun ⟨W, _, _, _⟩ => Snd W, fun _ => .v (.bool true), fun _ => [],
  fun args mem => match args with | [a0, a1, a2, a3] => some ⟨wSVD a0, intD (a1), intD (a2), intD (a3)⟩ | _ => none⟩
def V_mailRings0 : X_mailRings0 → Prop := fun ⟨W, t, b, g⟩ => let a0:=W.nKinds;let b0:=W.nSlots;let c0:=W.nTasks;let d0:=W.nLines;let e0:=W.nCores;let g0:=W.nReady;let h0:=((((((((((True∧W.nRam=W.nRam∧(∀k0:Nat,k0<W.nRam→True∧W.ram k0=W.ram k0))∧a0=a0∧(∀l0:Nat,l0<a0→True∧W.kinds l0=W.kinds l0))∧b0=b0∧(∀o0:Nat,let q0:=W.slots o0;let u0:=q0.kind;let v0:=q0.base;let w0:=q0.len;let x0:=q0.mark;let y0:=q0.rights;let z0:=q0.badge;let a1:=q0.from_;o0<b0→((((((True∧u0=u0)∧v0=v0)∧w0=w0)∧x0=x0)∧y0=y0)∧z0=z0)∧a1=a1))∧c0=c0∧(∀b1:Nat,let c1:=W.tasks b1;let d1:=c1.prio;let e1:=c1.node;let g1:=c1.space;let h1:=c1.helper;let k1:=c1.loc;let l1:=c1.word;let o1:=c1.badge;let q1:=c1.owes;let u1:=c1.core;let v1:=c1.dom;b1<c0→(((((((((((((((((((True∧c1.r0=c1.r0)∧c1.r1=c1.r1)∧c1.r2=c1.r2)∧c1.r3=c1.r3)∧c1.r4=c1.r4)∧c1.r5=c1.r5)∧c1.r6=c1.r6)∧c1.r7=c1.r7)∧c1.pc=c1.pc)∧c1.st=c1.st)∧d1=d1)∧e1=e1)∧g1=g1)∧h1=h1)∧k1=k1)∧l1=l1)∧o1=o1)∧q1=q1)∧u1=u1)∧v1=v1))∧d0=d0∧(∀w1:Nat,let x1:=W.linesN w1;w1<d0→True∧x1=x1∧(∀y1:Nat,y1<x1→True∧W.lines w1 y1=W.lines w1 y1)))∧W.nBits=W.nBits∧(∀z1:Nat,z1<W.nBits→True∧W.bits z1=W.bits z1))∧e0=e0∧(∀a2:Nat,a2<e0→True∧W.cores a2=W.cores a2))∧g0=g0∧(∀b2:Nat,let c2:=W.readyN b2;b2<g0→True∧c2=c2∧(∀d2:Nat,d2<c2→True∧W.ready b2 d2=W.ready b2 d2)))∧W.nTlbs=W.nTlbs∧(∀e2:Nat,let g2:=W.tlbsN e2;e2<W.nTlbs→True∧g2=g2∧(∀h2:Nat,let k2:=W.tlbs e2 h2;let l2:=k2.sp;let o2:=k2.pg;let q2:=k2.fr;let u2:=k2.wr;h2<g2→(((True∧l2=l2)∧o2=o2)∧q2=q2)∧u2=u2)))∧W.nDoms=W.nDoms∧(∀v2:Nat,v2<W.nDoms→True∧W.doms v2=W.doms v2))∧W.time=W.time;let w2:=h0∧True;
    let x2:=True∧Sm W∧Snd W;let y2:=tn 10 True;let z2:=w2∧x2;let a3:=rgE W b g;let b3:=gdW a3 (rgX W b g);let c3:=b3.nRam;let d3:=b3.nKinds;let e3:=b3.nSlots;let g3:=b3.nTasks;let h3:=b3.nLines;let k3:=b3.nBits;let l3:=b3.nCores;let o3:=b3.nReady;let q3:=b3.nTlbs;let u3:=b3.nDoms;let v3:=b3.time;let w3:=heE W t b;let x3:=gdW w3 (heX W t b);let y3:=x3.nRam;let z3:=x3.nKinds;let a4:=x3.nSlots;let b4:=x3.nTasks;let c4:=x3.nLines;let d4:=x3.nBits;let e4:=x3.nCores;let g4:=x3.nReady;let h4:=x3.nTlbs;let k4:=x3.nDoms;let l4:=x3.time;tn 4 ((w2∧True∧True)∧(hgB W=true→true=true∧True)∧(hgB W=false→((h0∧b=b∧g=g∧True)∧x2)∧True∧y2∧((h0∧t=t∧b=b∧True)∧x2)∧True∧y2∧tn 4 (z2∧True∧(((((((((((((True∧c3=c3∧(∀o4:Nat,o4<c3→True∧b3.ram o4=b3.ram o4))∧d3=d3∧(∀q4:Nat,q4<d3→True∧b3.kinds q4=b3.kinds q4))∧e3=e3∧(∀u4:Nat,let v4:=b3.slots u4;let w4:=v4.kind;let x4:=v4.base;let y4:=v4.len;let z4:=v4.mark;let a5:=v4.rights;let b5:=v4.badge;let c5:=v4.from_;u4<e3→((((((True∧w4=w4)∧x4=x4)∧y4=y4)∧z4=z4)∧a5=a5)∧b5=b5)∧c5=c5))∧g3=g3∧(∀d5:Nat,let e5:=b3.tasks d5;let g5:=e5.prio;let h5:=e5.node;let k5:=e5.space;let l5:=e5.helper;let o5:=e5.loc;let q5:=e5.word;let u5:=e5.badge;let v5:=e5.owes;let w5:=e5.core;let x5:=e5.dom;d5<g3→(((((((((((((((((((True∧e5.r0=e5.r0)∧e5.r1=e5.r1)∧e5.r2=e5.r2)∧e5.r3=e5.r3)∧e5.r4=e5.r4)∧e5.r5=e5.r5)∧e5.r6=e5.r6)∧e5.r7=e5.r7)∧e5.pc=e5.pc)∧e5.st=e5.st)∧g5=g5)∧h5=h5)∧k5=k5)∧l5=l5)∧o5=o5)∧q5=q5)∧u5=u5)∧v5=v5)∧w5=w5)∧x5=x5))∧h3=h3∧(∀y5:Nat,let z5:=b3.linesN y5;y5<h3→True∧z5=z5∧(∀a6:Nat,
    a6<z5→True∧b3.lines y5 a6=b3.lines y5 a6)))∧k3=k3∧(∀b6:Nat,b6<k3→True∧b3.bits b6=b3.bits b6))∧l3=l3∧(∀c6:Nat,c6<l3→True∧b3.cores c6=b3.cores c6))∧o3=o3∧(∀d6:Nat,let e6:=b3.readyN d6;d6<o3→True∧e6=e6∧(∀g6:Nat,g6<e6→True∧b3.ready d6 g6=b3.ready d6 g6)))∧q3=q3∧(∀h6:Nat,let k6:=b3.tlbsN h6;h6<q3→True∧k6=k6∧(∀l6:Nat,let o6:=b3.tlbs h6 l6;let q6:=o6.sp;let u6:=o6.pg;let v6:=o6.fr;let w6:=o6.wr;l6<k6→(((True∧q6=q6)∧u6=u6)∧v6=v6)∧w6=w6)))∧u3=u3∧(∀x6:Nat,x6<u3→True∧b3.doms x6=b3.doms x6))∧v3=v3)∧(a3=a3∧((-1):Int)=(-1))∧h0∧(0:Int)=0∧(tn 2 (b=b)∧True∧g=g)∧True)∧x2)∧tn 4 (z2∧True∧(((((((((((((True∧y3=y3∧(∀y6:Nat,y6<y3→True∧x3.ram y6=x3.ram y6))∧z3=z3∧(∀z6:Nat,z6<z3→True∧x3.kinds z6=x3.kinds z6))∧a4=a4∧(∀a7:Nat,let b7:=x3.slots a7;let c7:=b7.kind;let d7:=b7.base;let e7:=b7.len;let g7:=b7.mark;let h7:=b7.rights;let k7:=b7.badge;let l7:=b7.from_;a7<a4→((((((True∧c7=c7)∧d7=d7)∧e7=e7)∧g7=g7)∧h7=h7)∧k7=k7)∧l7=l7))∧b4=b4∧(∀o7:Nat,let q7:=x3.tasks o7;let u7:=q7.prio;let v7:=q7.node;let w7:=q7.space;let x7:=q7.helper;let y7:=q7.loc;let z7:=q7.word;let a8:=q7.badge;let b8:=q7.owes;let c8:=q7.core;let d8:=q7.dom;o7<b4→(((((((((((((((((((True∧q7.r0=q7.r0)∧q7.r1=q7.r1)∧q7.r2=q7.r2)∧q7.r3=q7.r3)∧q7.r4=q7.r4)∧q7.r5=q7.r5)∧q7.r6=q7.r6)∧q7.r7=q7.r7)∧q7.pc=q7.pc)∧q7.st=q7.st)∧u7=u7)∧v7=v7)∧w7=w7)∧x7=x7)∧y7=y7)∧z7=z7)∧a8=a8)∧b8=b8)∧c8=c8)∧d8=d8))∧c4=c4∧(∀e8:Nat,let g8:=x3.linesN e8;e8<c4→True∧g8=g8∧(∀h8:Nat,h8<g8→True∧x3.lines e8 h8=x3.lines e8 h8)))∧d4=d4∧(∀k8:Nat,k8<d4→True∧x3.bits k8=x3.bits k8))∧
    e4=e4∧(∀l8:Nat,l8<e4→True∧x3.cores l8=x3.cores l8))∧g4=g4∧(∀o8:Nat,let q8:=x3.readyN o8;o8<g4→True∧q8=q8∧(∀r8:Nat,r8<q8→True∧x3.ready o8 r8=x3.ready o8 r8)))∧h4=h4∧(∀u8:Nat,let v8:=x3.tlbsN u8;u8<h4→True∧v8=v8∧(∀w8:Nat,let x8:=x3.tlbs u8 w8;let y8:=x8.sp;let z8:=x8.pg;let a9:=x8.fr;let b9:=x8.wr;w8<v8→(((True∧y8=y8)∧z8=z8)∧a9=a9)∧b9=b9)))∧k4=k4∧(∀c9:Nat,c9<k4→True∧x3.doms c9=x3.doms c9))∧l4=l4)∧(w3=w3∧((-1):Int)=(-1))∧h0∧(0:Int)=0∧(tn 2 (t=t)∧True∧b=b)∧True)∧x2)∧cond true true false=true∧True))))
set_option maxHeartbeats 2000000 in
theorem fc_mailRings0 : ∀ x, s_mailRings0.pre x → FnC Tryz.prog glE 9 (s_mailRings0.args x) (s_mailRings0.mem x) (s_mailRings0.res x) (s_mailRings0.mem' x) := fun x hp => fn_of (.cons (ok_rngL.or ok_herL) (.cons (ok_hugeWorld.up glN_glE) (.cons ok_sound0 (.cons ok_rngX (.cons ok_herX .nil))))) false Tryz.func9 ((fun _ => []) x) (V := V_mailRings0 x) (by kernel_rfl) <| (fun ⟨W, t, b, g⟩ hp => by
  dsimp only [s_mailRings0] at hp
  dsimp only [V_mailRings0, tn, w64]
  simp only [std, stb, eq_self, implies_true, Bool.cond_self]
  try simp only [wd_eta]
  intro h0
  have h0 := sm_of h0
  repeat' (first | exact h0 | exact hp | exact lg_sm h0 | exact trivial | rfl | refine And.intro ?_ ?_ | fail)
  : ∀ x, s_mailRings0.pre x → V_mailRings0 x) x hp
structure X_mailRings8 where
  (W : Wd) (t b g : Int)
def s_mailRings8 : Sy.Spec := ⟨X_mailRings8, fun ⟨W, t, b, g⟩ => [wSV W, .v (.int .i64 t), .v (.int .i64 b), .v (.int .i64 g)], fun _ => [], fun ⟨W, _, _, _⟩ => wE W ≠ 0, fun _ => .v (.bool true), fun _ => [],
  fun args mem => match args with | [a0, a1, a2, a3] => some ⟨wSVD a0, intD (a1), intD (a2), intD (a3)⟩ | _ => none⟩
def V_mailRings8 : X_mailRings8 → Prop := fun ⟨W, t, b, g⟩ => let a0:=W.nKinds;let b0:=W.nSlots;let c0:=W.nTasks;let d0:=W.nLines;let e0:=W.nCores;let g0:=W.nReady;let h0:=((((((((((True∧W.nRam=W.nRam∧(∀k0:Nat,k0<W.nRam→True∧W.ram k0=W.ram k0))∧a0=a0∧(∀l0:Nat,l0<a0→True∧W.kinds l0=W.kinds l0))∧b0=b0∧(∀o0:Nat,let q0:=W.slots o0;let u0:=q0.kind;let v0:=q0.base;let w0:=q0.len;let x0:=q0.mark;let y0:=q0.rights;let z0:=q0.badge;let a1:=q0.from_;o0<b0→((((((True∧u0=u0)∧v0=v0)∧w0=w0)∧x0=x0)∧y0=y0)∧z0=z0)∧a1=a1))∧c0=c0∧(∀b1:Nat,let c1:=W.tasks b1;let d1:=c1.prio;let e1:=c1.node;let g1:=c1.space;let h1:=c1.helper;let k1:=c1.loc;let l1:=c1.word;let o1:=c1.badge;let q1:=c1.owes;let u1:=c1.core;let v1:=c1.dom;b1<c0→(((((((((((((((((((True∧c1.r0=c1.r0)∧c1.r1=c1.r1)∧c1.r2=c1.r2)∧c1.r3=c1.r3)∧c1.r4=c1.r4)∧c1.r5=c1.r5)∧c1.r6=c1.r6)∧c1.r7=c1.r7)∧c1.pc=c1.pc)∧c1.st=c1.st)∧d1=d1)∧e1=e1)∧g1=g1)∧h1=h1)∧k1=k1)∧l1=l1)∧o1=o1)∧q1=q1)∧u1=u1)∧v1=v1))∧d0=d0∧(∀w1:Nat,let x1:=W.linesN w1;w1<d0→True∧x1=x1∧(∀y1:Nat,y1<x1→True∧W.lines w1 y1=W.lines w1 y1)))∧W.nBits=W.nBits∧(∀z1:Nat,z1<W.nBits→True∧W.bits z1=W.bits z1))∧e0=e0∧(∀a2:Nat,a2<e0→True∧W.cores a2=W.cores a2))∧g0=g0∧(∀b2:Nat,let c2:=W.readyN b2;b2<g0→True∧c2=c2∧(∀d2:Nat,d2<c2→True∧W.ready b2 d2=W.ready b2 d2)))∧W.nTlbs=W.nTlbs∧(∀e2:Nat,let g2:=W.tlbsN e2;e2<W.nTlbs→True∧g2=g2∧(∀h2:Nat,let k2:=W.tlbs e2 h2;let l2:=k2.sp;let o2:=k2.pg;let q2:=k2.fr;let u2:=k2.wr;h2<g2→(((True∧l2=l2)∧o2=o2)∧q2=q2)∧u2=u2)))∧W.nDoms=W.nDoms∧(∀v2:Nat,v2<W.nDoms→True∧W.doms v2=W.doms v2))∧W.time=W.time;let w2:=h0∧True;
    let x2:=True∧True;let y2:=True∧Sm W∧wE W≠0;let z2:=tn 9 x2;let a3:=w2∧y2;let b3:=(0:Int)=0;let c3:=True∧b3;let d3:=0=0∧(∀e3:Nat,e3<0→c3);let g3:=True∧d3;let h3:=(c3∧b3)∧b3;let k3:=(((h3∧b3)∧b3)∧b3)∧b3;let l3:=((-1):Int)=(-1);let o3:=0=0∧(∀q3:Nat,q3<0→g3);let u3:=(((((((((((g3∧d3)∧0=0∧(∀v3:Nat,v3<0→k3))∧0=0∧(∀w3:Nat,w3<0→((((((((((((k3∧b3)∧b3)∧b3)∧b3)∧l3)∧l3)∧l3)∧l3)∧b3)∧b3)∧l3)∧b3)∧b3))∧o3)∧d3)∧d3)∧o3)∧0=0∧(∀x3:Nat,x3<0→True∧0=0∧(∀y3:Nat,y3<0→h3∧false=false)))∧d3)∧b3)∧((8:Int)=8∧l3)∧h0∧(8:Int)=8∧x2)∧True∧s_did8.match_1 (fun z3:X_did8=>Prop) (X_did8.mk W) (fun a4:Wd=>Lg a4);tn 4 ((w2∧x2)∧(hgB W=true→true=true∧True)∧(hgB W=false→((h0∧b=b∧g=g∧True)∧y2)∧True∧z2∧((h0∧t=t∧b=b∧True)∧y2)∧True∧z2∧tn 4 (a3∧True∧u3∧tn 4 (a3∧True∧u3∧cond true true false=true∧True))))
set_option maxHeartbeats 2000000 in
theorem fc_mailRings8 : ∀ x, s_mailRings8.pre x → FnC Tryz.prog glE 9 (s_mailRings8.args x) (s_mailRings8.mem x) (s_mailRings8.res x) (s_mailRings8.mem' x) := fun x hp => fn_of (.cons (ok_hugeWorld.up glN_glE) (.cons ok_sound8 (.cons ok_did8 (.cons ok_rngY (.cons ok_herY .nil))))) false Tryz.func9 ((fun _ => []) x) (V := V_mailRings8 x) (by kernel_rfl) <| (fun ⟨W, t, b, g⟩ hp => by
  dsimp only [s_mailRings8] at hp
  dsimp only [V_mailRings8, tn, w64]
  simp only [std, stb, eq_self, implies_true, Bool.cond_self]
  try simp only [wd_eta]
  intro h0
  have h0 := sm_of h0
  repeat' (first | exact h0 | exact hp | exact lg_sm h0 | exact trivial | rfl | refine And.intro ?_ ?_ | fail)
  : ∀ x, s_mailRings8.pre x → V_mailRings8 x) x hp
structure X_mailRings where
  (W : Wd) (t b g : Int)
def s_mailRings : Sy.Spec := ⟨X_mailRings, fun ⟨W, t, b, g⟩ => [wSV W, .v (.int .i64 t), .v (.int .i64 b), .v (.int .i64 g)], fun _ => [], fun _ => True, fun _ => .v (.bool true), fun _ => [],
  fun args mem => match args with | [a0, a1, a2, a3] => some ⟨wSVD a0, intD (a1), intD (a2), intD (a3)⟩ | _ => none⟩
def c_mailRings : Con := ⟨[], s_mailRings.g, none⟩
theorem ok_mailRings : FnOK Tryz.prog glE 9 c_mailRings := fnOK_of Tryz.call9 fun ⟨W, t, b, g⟩ _ => if h : wE W = 0 then fc_mailRings0 ⟨W, t, b, g⟩ (Snd.iff.1 h) else fc_mailRings8 ⟨W, t, b, g⟩ h
end Go.Proofs.YtdjilaofmdhikaaGreatDoor
namespace Go.Proofs.YtdjilaofmdhikaaGreatDoor
open Go.ChangeShapes Go.WideShapes Go.RowKit Go.Sy
theorem K.own : ownKnob Tryz.prog.godebug = none := by kernel_rfl
theorem K.et : Tryz.prog.globalNamed "errors.errorType" = some 0 := by kernel_rfl
theorem K.rt : (Tryz.prog.cutTypes.find? (·.1 == "internal/reflectlite.rtype")).map (·.2) = some 182 := by kernel_rfl
theorem K.oneRow : ((List.range Tryz.prog.types.size).filter fun t => Tryz.prog.rowNamed t [101, 114, 114, 111, 114]) = [31] := by kernel_rfl
theorem K.handle {laid : List (String × DataW Unit)} {W : World} (h : laidMetH Tryz.prog laid W) (hm : ("errors.errorType", Rows.laid_errors_errorType) ∈ laid) : W.cell? ⟨0, 0, none⟩ = some A.eTy := by
  have hf : ("errors.errorType", Rows.laid_errors_errorType) ∈ laid.filter fun x => x.2.handleName?.isSome := List.mem_filter.2 ⟨hm, by rfl⟩
  unfold laidMetH at h
  split at h
  · next e => rw [e] at hf; cases hf
  next x r e =>
  rw [e] at hf
  obtain ⟨name, u, ty, e1, e2, e3, e4, e5⟩ := h.2 _ hf
  have en : name = [101, 114, 114, 111, 114] := (Option.some.inj e1).symm
  subst en
  obtain rfl := Option.some.inj (K.rt.symm.trans e2)
  have hm : ty ∈ (List.range Tryz.prog.types.size).filter fun t => Tryz.prog.rowNamed t [101, 114, 114, 111, 114] := List.mem_filter.2 ⟨List.mem_range.2 e3, e4⟩
  rw [K.oneRow] at hm
  obtain rfl := List.mem_singleton.1 hm
  have hh : typeHandle Tryz.prog 31 = .pointer (some ⟨1, 31, none⟩) := by kernel_rfl
  rw [hh] at e5
  unfold A.eTy
  simpa using World.var?_cell K.et e5 0
noncomputable def K.world (os : Os) : World :=
  let w0 := World.holding Tryz.prog os ⟨#[], #[], []⟩
  { w0 with heap := w0.heap.modify 0 fun
      | .cells _ t frozen => .cells #[A.eTy] t frozen
      | o => o }
theorem K.met (os : Os) (args : Array Value) : laidMetH Tryz.prog [("errors.errorType", Rows.laid_errors_errorType)] ((K.world os).forCall (fun _ _ => 0) ⟨#[], args, []⟩).memory :=
  laidMetH_of_parts (laidMet_nil _ _) (by kernel_rfl)
theorem K.laidOut : laidOutB Tryz.prog = true := by kernel_rfl
theorem K.trodAll {H : Type} {enc : TypeId × Value → H} {P : Program} (hl : laidOutB P = true) {W W' : World} (hb : Below W.heap.size W W') : ∀ {ts : List TypeId} {vs : List Value} {ds : List (DataW H)} {ps : List MemPlace},
    (ts.all fun t => P.readableRec t && decide (t < P.types.size)) = true → DataW.TrodAll enc P W 0 (fun _ => true) true ts vs ds ps → (∀ x ∈ ps, x.block < W.heap.size) → DataW.TrodAll enc P W' 0 (fun b => decide (b < W.heap.size)) true ts vs ds ps
  | [], [], [], _, _, h, _ => h
  | t :: ts, v :: vs, d :: ds, ps, hr, ⟨p, q, h1, h2, e⟩, hlt => by
    subst e
    simp only [List.all_cons, Bool.and_eq_true, decide_eq_true_eq] at hr
    exact ⟨p, q, Below.trod hl hr.1.1 hr.1.2 h1 hb (fun x hx => hlt x (List.mem_append_left _ hx)), K.trodAll hl hb hr.2 h2 (fun x hx => hlt x (List.mem_append_right _ hx)), rfl⟩
theorem K.underlying4 : Tryz.prog.underlying 4 = some .bool := by kernel_rfl
theorem K.len {H : Type} {enc : TypeId × Value → H} {P : Program} {w : World} {base : Nat} {spare : Nat → Bool} {held : Bool} : ∀ {ts : List TypeId} {vs : List Value} {ds : List (DataW H)} {ps : List MemPlace}, DataW.TrodAll enc P w base spare held ts vs ds ps → ds.length = ts.length
  | [], [], [], _, _ => rfl
  | _ :: _, _ :: _, _ :: _, _, ⟨_, _, _, h, _⟩ => by simp [K.len h]
theorem K.noStand {ps : Array TypeId} (h : (ps.toList.all fun t => !Tryz.prog.wantsStandIn t) = true) {j : Nat} {t : TypeId} (ht : ps[j]? = some t) : Tryz.prog.wantsStandIn t = false := by
  have := List.all_eq_true.1 h t (by rw [Array.mem_toList_iff]; exact Array.mem_of_getElem? ht)
  simpa using this
set_option maxRecDepth 100000 in
theorem K.lift {f : FuncId} {fn : Func} {s : ChangeSpec} {X : World → Prop} (hX : ∀ (w w' : World), w.heap = w'.heap → X w → X w') (os : Os) (started : os.Started) (H : Type) (enc : TypeId × Value → H)
    (noInit : Tryz.checked.prog.inits.idxOf? f = none) (hfn : Tryz.checked.prog.funcs[f]? = some fn)
    (hs : ∀ ds : List (DataW H), ds.length = fn.params.toList.length → s.fn H (ds ++ []) = { results := [.lit (.bool true)], args := ds }) (hv : s.vars = []) (hr : fn.resultTypes = #[4])
    (hrow : (fn.params.toList.all fun t => Tryz.prog.readableRec t && decide (t < Tryz.prog.types.size)) = true)
    (witness : ∃ (w : World) (tape : Tape) (i : Input), w.os = os ∧ (w.forCall tape i).Shaped Tryz.prog ∧ i.vars = [] ∧ Input.okWide Tryz.prog (w.forCall tape i) .any w.heap.size f i ∧
      ((s.pre enc Tryz.prog fn [] false (w.forCall tape i).memory i.args ∧ X (w.forCall tape i).memory) ∧ sizedMet enc Tryz.prog fn (OpenSpec.ofChange s) false (w.forCall tape i).memory i.args) ∧ ({} : Assume).holds Tryz.prog (lone (Frame.enter Tryz.prog f i.args .normal) [] (w.forCall tape i)))
    (contract : ∀ (W : World) (base : Nat) (args : Array Value) (ds : List (DataW H)) (p : List MemPlace),
      (∀ (j : Nat) t v, fn.params[j]? = some t → args[j]? = some v → Value.okWide Tryz.prog W .any base t v) →
      DataW.TrodAll enc Tryz.prog W 0 (fun _ => true) true fn.params.toList args.toList ds p → X W → (∀ x ∈ p, x.block < W.heap.size) →
      Calls Tryz.prog f args W fun e W' => e = .returned (.bool true) ∧ Below W.heap.size W W') :
    ReturnsInHanded {} Tryz.checked os f .any (fun w args => (s.pre enc Tryz.prog fn [] false w args ∧ X w) ∧ sizedMet enc Tryz.prog fn (OpenSpec.ofChange s) false w args) (s.post enc Tryz.prog fn false true false false) := by
  refine returnsInHanded_of_change_and (C := Tryz.checked) (X := fun w _ => X w) (fun w w' _ hh h => hX w w' hh h) K.own started noInit hfn witness ?_
  intro W base args ds gs before hval hW _ _ hL _
  have hW' := hW
  obtain ⟨p, q, hA, hV, rfl, hfz, _⟩ := hW
  have hlt : ∀ x ∈ p, x.block < W.heap.size := fun x hx => by simpa using hW'.lt x (List.mem_append_left _ hx)
  obtain ⟨rfl, rfl⟩ : gs = [] ∧ q = [] := by
    rw [hv] at hV
    cases gs with
    | nil => exact ⟨rfl, hV⟩
    | cons g r => exact absurd hV (by intro h; cases h)
  refine (contract W base args ds p hval hA hL hlt).mono fun e W' ⟨he, hb⟩ => ?_
  have e1 := hs ds (K.len hA)
  refine ⟨_, he, _, _, _, [], p, [], hW', ?_, ?_, ?_, hb.frame _, fun h => by cases h⟩
  · rw [e1, hr]; exact trodAll_mk1 (shut_bool K.underlying4 true)
  · rw [e1]; exact K.trodAll K.laidOut hb hrow hA hlt
  · rw [e1, hv]; rfl
theorem K.eT {laid : List (String × DataW Unit)} {W : World} (h : laidMetH Tryz.prog laid W) (hm : ("errors.errorType", Rows.laid_errors_errorType) ∈ laid) : Den W o0.bare (.pt false 1 fun _ => .v A.eTy) (.pointer (some ⟨0, 0, none⟩)) :=
  ⟨_, rfl, fun j hj => ⟨_, by obtain rfl : j = 0 := by omega
                              exact K.handle h hm, ⟨id, fun _ => id⟩, rfl⟩⟩
theorem K.gE {laid : List (String × DataW Unit)} {W : World} (h : laidMetH Tryz.prog laid W) (hm : ("errors.errorType", Rows.laid_errors_errorType) ∈ laid) (g : Nat) : Den W o0.bare (glE g) (.pointer (some ⟨g, 0, none⟩)) := by
  unfold glE
  split
  · exact K.eT h hm
  · trivial
end Go.Proofs.YtdjilaofmdhikaaGreatDoor
