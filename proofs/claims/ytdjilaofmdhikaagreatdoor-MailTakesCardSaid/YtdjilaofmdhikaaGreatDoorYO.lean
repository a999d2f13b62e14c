/- The law MailTakes. -/
import Derived.Test.YtdjilaofmdhikaaGreatDoorYL
import Derived.Test.YtdjilaofmdhikaaGreatDoorYN
import Derived.Test.YtdjilaofmdhikaaGreatDoorYH
import Derived.OpenShut
import Derived.ChangeArms
import Derived.MakeChecks
import Derived.Lay
import Derived.Test.YtdjilaofmdhikaaGreatDoorTie
import Derived.ChangeSame
import Derived.ChangeVars
import Derived.JoinedOf
import Derived.RowKit
import Derived.LaidLaws
import Derived.LaidHandle
import Derived.Stop.Joined
import Derived.SevenTiedAt
import Derived.OpenVars
import Derived.Test.YtdjilaofmdhikaaGreatDoorCards
set_option linter.unusedVariables false
set_option linter.unusedSimpArgs false
set_option linter.unusedVariables false
set_option linter.unusedSimpArgs false
set_option maxRecDepth 100000
namespace Go.Proofs.YtdjilaofmdhikaaGreatDoor
open Go.RowKit Go.Sy
def tkE (W : Wd) (t d : Int) : Int := bif actE W t d 7 == 0 then takE W t else actE W t d 7
def tkX_tasks (W : Wd) (t d : Int) (i : Nat) : Run := bif actE W t d 7 == 0 then (takW W t d).tasks i else (W).tasks i
def tkX_linesN (W : Wd) (t d : Int) (i : Nat) : Nat := bif actE W t d 7 == 0 then (takW W t d).linesN i else (W).linesN i
def tkX_lines (W : Wd) (t d : Int) (i k : Nat) : Int := bif actE W t d 7 == 0 then (takW W t d).lines i k else (W).lines i k
def tkX_cores (W : Wd) (t d : Int) (i : Nat) : Int := bif actE W t d 7 == 0 then (takW W t d).cores i else (W).cores i
def tkX_readyN (W : Wd) (t d : Int) (i : Nat) : Nat := bif actE W t d 7 == 0 then (takW W t d).readyN i else (W).readyN i
def tkX_ready (W : Wd) (t d : Int) (i k : Nat) : Int := bif actE W t d 7 == 0 then (takW W t d).ready i k else (W).ready i k
def tkX (W : Wd) (t d : Int) : Wd := { W with tasks := tkX_tasks W t d, linesN := tkX_linesN W t d, lines := tkX_lines W t d, cores := tkX_cores W t d, readyN := tkX_readyN W t d, ready := tkX_ready W t d }
theorem tkX_t {W : Wd} {t d : Int} (h : (actE W t d 7 == 0) = true) : tkX W t d = takW W t d := by
  have e_tasks : tkX_tasks W t d = (takW W t d).tasks := by
    funext i
    unfold tkX_tasks
    rw [h]
    rfl
  have e_linesN : tkX_linesN W t d = (takW W t d).linesN := by
    funext i
    unfold tkX_linesN
    rw [h]
    rfl
  have e_lines : tkX_lines W t d = (takW W t d).lines := by
    funext i k
    unfold tkX_lines
    rw [h]
    rfl
  have e_cores : tkX_cores W t d = (takW W t d).cores := by
    funext i
    unfold tkX_cores
    rw [h]
    rfl
  have e_readyN : tkX_readyN W t d = (takW W t d).readyN := by
    funext i
    unfold tkX_readyN
    rw [h]
    rfl
  have e_ready : tkX_ready W t d = (takW W t d).ready := by
    funext i k
    unfold tkX_ready
    rw [h]
    rfl
  show ({ W with tasks := tkX_tasks W t d, linesN := tkX_linesN W t d, lines := tkX_lines W t d, cores := tkX_cores W t d, readyN := tkX_readyN W t d, ready := tkX_ready W t d } : Wd) = _
  rw [e_tasks, e_linesN, e_lines, e_cores, e_readyN, e_ready] <;> kernel_rfl
theorem tkX_f {W : Wd} {t d : Int} (h : (actE W t d 7 == 0) = false) : tkX W t d = W := by
  have e_tasks : tkX_tasks W t d = (W).tasks := by
    funext i
    unfold tkX_tasks
    rw [h]
    rfl
  have e_linesN : tkX_linesN W t d = (W).linesN := by
    funext i
    unfold tkX_linesN
    rw [h]
    rfl
  have e_lines : tkX_lines W t d = (W).lines := by
    funext i k
    unfold tkX_lines
    rw [h]
    rfl
  have e_cores : tkX_cores W t d = (W).cores := by
    funext i
    unfold tkX_cores
    rw [h]
    rfl
  have e_readyN : tkX_readyN W t d = (W).readyN := by
    funext i
    unfold tkX_readyN
    rw [h]
    rfl
  have e_ready : tkX_ready W t d = (W).ready := by
    funext i k
    unfold tkX_ready
    rw [h]
    rfl
  show ({ W with tasks := tkX_tasks W t d, linesN := tkX_linesN W t d, lines := tkX_lines W t d, cores := tkX_cores W t d, readyN := tkX_readyN W t d, ready := tkX_ready W t d } : Wd) = _
  rw [e_tasks, e_linesN, e_lines, e_cores, e_readyN, e_ready] <;> kernel_rfl
def anE0 (W : Wd) (t w : Int) : Int := bif actE W t t 6 == 0 then bif farB w 65535 then 1 else 0 else actE W t t 6
def anE (W : Wd) (t w : Int) : Int := bif actE W t t 6 == 0 then bif farB w 65535 then 1 else ansE W t else actE W t t 6
def anX_tasks (W : Wd) (t w : Int) (i : Nat) : Run := bif anE0 W t w == 0 then (ansW W t w).tasks i else (W).tasks i
def anX_readyN (W : Wd) (t w : Int) (i : Nat) : Nat := bif anE0 W t w == 0 then (ansW W t w).readyN i else (W).readyN i
def anX_ready (W : Wd) (t w : Int) (i k : Nat) : Int := bif anE0 W t w == 0 then (ansW W t w).ready i k else (W).ready i k
def anX (W : Wd) (t w : Int) : Wd := { W with tasks := anX_tasks W t w, readyN := anX_readyN W t w, ready := anX_ready W t w }
theorem anX_t {W : Wd} {t w : Int} (h : (anE0 W t w == 0) = true) : anX W t w = ansW W t w := by
  have e_tasks : anX_tasks W t w = (ansW W t w).tasks := by
    funext i
    unfold anX_tasks
    rw [h]
    rfl
  have e_readyN : anX_readyN W t w = (ansW W t w).readyN := by
    funext i
    unfold anX_readyN
    rw [h]
    rfl
  have e_ready : anX_ready W t w = (ansW W t w).ready := by
    funext i k
    unfold anX_ready
    rw [h]
    rfl
  show ({ W with tasks := anX_tasks W t w, readyN := anX_readyN W t w, ready := anX_ready W t w } : Wd) = _
  rw [e_tasks, e_readyN, e_ready] <;> kernel_rfl
theorem anX_f {W : Wd} {t w : Int} (h : (anE0 W t w == 0) = false) : anX W t w = W := by
  have e_tasks : anX_tasks W t w = (W).tasks := by
    funext i
    unfold anX_tasks
    rw [h]
    rfl
  have e_readyN : anX_readyN W t w = (W).readyN := by
    funext i
    unfold anX_readyN
    rw [h]
    rfl
  have e_ready : anX_ready W t w = (W).ready := by
    funext i k
    unfold anX_ready
    rw [h]
    rfl
  show ({ W with tasks := anX_tasks W t w, readyN := anX_readyN W t w, ready := anX_ready W t w } : Wd) = _
  rw [e_tasks, e_readyN, e_ready] <;> kernel_rfl
structure X_tknC where
  (t d : Int) (W : Wd)
def s_tknC : Sy.Spec := ⟨X_tknC, fun ⟨t, d, _⟩ => [.ptr 0 0 none 0 0, .pt true 1 (fun _ => .v (.int .i64 t)), .pt true 1 (fun _ => .v (.int .i64 d))], fun ⟨_, _, W⟩ => wMem W, fun ⟨_, _, W⟩ => Sm W ∧ Snd W, fun ⟨t, d, W⟩ => .er 35 116 (tkE W t d) (-1), fun ⟨t, d, W⟩ => wMem (tkX W t d),
  fun args mem => match args with | [a0, a1, a2] => some ⟨intD (ptF a1 0), intD (ptF a2 0), wMJD mem 0⟩ | _ => none⟩
def c_tknC : Con := ⟨[true], s_tknC.g, none⟩
def V_tknC : X_tknC → Prop := fun ⟨t, d, W⟩ => let a0:=W.nRam;let b0:=a0=a0;let c0:=W.nKinds;let d0:=c0=c0;let e0:=W.nSlots;let g0:=e0=e0;let h0:=W.nTasks;let k0:=h0=h0;let l0:=W.nLines;let o0:=l0=l0;let q0:=W.nBits;let u0:=q0=q0;let v0:=W.nCores;let w0:=v0=v0;let x0:=W.nReady;let y0:=x0=x0;let z0:=W.nTlbs;let a1:=z0=z0;let b1:=W.nDoms;let c1:=b1=b1;let d1:=W.time=W.time;let e1:=Wd.mk a0 (fun g1:Nat=>W.ram (0+g1)) c0 (fun h1:Nat=>W.kinds (0+h1)) e0 (fun k1:Nat=>W.slots (0+k1)) h0 (fun l1:Nat=>W.tasks (0+l1)) l0 (fun o1:Nat=>W.linesN (0+o1)) (fun q1:Nat=>fun u1:Nat=>W.lines (0+q1) (0+u1)) q0 (fun v1:Nat=>W.bits (0+v1)) v0 (fun w1:Nat=>W.cores (0+w1)) x0 (fun x1:Nat=>W.readyN (0+x1)) (fun y1:Nat=>fun z1:Nat=>W.ready (0+y1) (0+z1)) z0 (fun a2:Nat=>W.tlbsN (0+a2)) (fun b2:Nat=>fun c2:Nat=>W.tlbs (0+b2) (0+c2)) b1 (fun d2:Nat=>W.doms (0+d2)) W.time;let e2:=actE e1 t d 7;let g2:=e2 !=0;let h2:=0=0;let k2:=((((((((((True∧h2∧b0)∧h2∧d0)∧h2∧g0)∧h2∧k0)∧h2∧o0)∧h2∧u0)∧h2∧w0)∧h2∧y0)∧h2∧a1)∧h2∧c1)∧d1;let l2:=b0∧(∀o2:Nat,o2<a0→True∧W.ram o2=W.ram o2);let q2:=d0∧(∀u2:Nat,u2<c0→True∧W.kinds u2=W.kinds u2);let v2:=g0∧(∀w2:Nat,let x2:=W.slots w2;let y2:=x2.kind;let z2:=x2.base;let a3:=x2.len;let b3:=x2.mark;let c3:=x2.rights;let d3:=x2.badge;let e3:=x2.from_;w2<e0→((((((True∧y2=y2)∧z2=z2)∧a3=a3)∧b3=b3)∧c3=c3)∧d3=d3)∧e3=e3);let g3:=u0∧(∀h3:Nat,h3<q0→True∧W.bits h3=W.bits h3);
    let k3:=(a1∧(∀l3:Nat,let o3:=W.tlbsN l3;l3<z0→True∧o3=o3∧(∀q3:Nat,let u3:=W.tlbs l3 q3;let v3:=u3.sp;let w3:=u3.pg;let x3:=u3.fr;let y3:=u3.wr;q3<o3→(((True∧v3=v3)∧w3=w3)∧x3=x3)∧y3=y3)))∧(c1∧(∀z3:Nat,z3<b1→True∧W.doms z3=W.doms z3))∧True;(((((((((((((True∧b0∧(∀a4:Nat,a4<a0→True∧W.ram (0+a4)=W.ram (0+a4)))∧d0∧(∀b4:Nat,let c4:=W.kinds (0+b4);b4<c0→True∧c4=c4))∧g0∧(∀d4:Nat,let e4:=W.slots (0+d4);let g4:=e4.kind;let h4:=e4.base;let k4:=e4.len;let l4:=e4.mark;let o4:=e4.rights;let q4:=e4.badge;let u4:=e4.from_;d4<e0→((((((True∧g4=g4)∧h4=h4)∧k4=k4)∧l4=l4)∧o4=o4)∧q4=q4)∧u4=u4))∧k0∧(∀v4:Nat,let w4:=W.tasks (0+v4);let x4:=w4.r0;let y4:=w4.r1;let z4:=w4.r2;let a5:=w4.r3;let b5:=w4.r4;let c5:=w4.r5;let d5:=w4.r6;let e5:=w4.r7;let g5:=w4.pc;let h5:=w4.st;let k5:=w4.prio;let l5:=w4.node;let o5:=w4.space;let q5:=w4.helper;let u5:=w4.loc;let v5:=w4.word;let w5:=w4.badge;let x5:=w4.owes;let y5:=w4.core;let z5:=w4.dom;v4<h0→(((((((((((((((((((True∧x4=x4)∧y4=y4)∧z4=z4)∧a5=a5)∧b5=b5)∧c5=c5)∧d5=d5)∧e5=e5)∧g5=g5)∧h5=h5)∧k5=k5)∧l5=l5)∧o5=o5)∧q5=q5)∧u5=u5)∧v5=v5)∧w5=w5)∧x5=x5)∧y5=y5)∧z5=z5))∧o0∧(∀a6:Nat,let b6:=W.linesN (0+a6);a6<l0→True∧b6=b6∧(∀c6:Nat,let d6:=W.lines (0+a6) (0+c6);c6<b6→True∧d6=d6)))∧u0∧(∀e6:Nat,e6<q0→True∧W.bits (0+e6)=W.bits (0+e6)))∧w0∧(∀g6:Nat,let h6:=W.cores (0+g6);g6<v0→True∧h6=h6))∧y0∧(∀k6:Nat,let l6:=W.readyN (0+k6);k6<x0→True∧l6=l6∧(∀o6:Nat,let q6:=W.ready (0+k6) (0+o6);o6<l6→True∧q6=q6)))∧a1∧(∀u6:Nat,let v6:=0+u6;let w6:=W.tlbsN v6;u6<z0→True∧w6=w6∧(∀x6:Nat,
    let y6:=W.tlbs v6 (0+x6);let z6:=y6.sp;let a7:=y6.pg;let b7:=y6.fr;let c7:=y6.wr;x6<w6→(((True∧z6=z6)∧a7=a7)∧b7=b7)∧c7=c7)))∧c1∧(∀d7:Nat,d7<b1→True∧W.doms (0+d7)=W.doms (0+d7)))∧d1)∧t=t∧d=d∧(7:Int)=7∧True)∧True∧s_actP.match_1 (fun e7:X_actP=>Prop) (X_actP.mk e1 t d 7) (fun g7:Wd=>fun h7:Int=>fun k7:Int=>fun l7:Int=>AcP g7))∧(g2=true→(e2=tkE W t d∧((-1):Int)=(-1))∧k2∧l2∧q2∧v2∧(k0∧(∀o7:Nat,let q7:=W.tasks o7;let u7:=tkX_tasks W t d o7;o7<h0→(((((((((((((((((((True∧q7.r0=u7.r0)∧q7.r1=u7.r1)∧q7.r2=u7.r2)∧q7.r3=u7.r3)∧q7.r4=u7.r4)∧q7.r5=u7.r5)∧q7.r6=u7.r6)∧q7.r7=u7.r7)∧q7.pc=u7.pc)∧q7.st=u7.st)∧q7.prio=u7.prio)∧q7.node=u7.node)∧q7.space=u7.space)∧q7.helper=u7.helper)∧q7.loc=u7.loc)∧q7.word=u7.word)∧q7.badge=u7.badge)∧q7.owes=u7.owes)∧q7.core=u7.core)∧q7.dom=u7.dom))∧(o0∧(∀v7:Nat,let w7:=tkX_linesN W t d v7;v7<l0→True∧W.linesN v7=w7∧(∀x7:Nat,x7<w7→True∧W.lines v7 x7=tkX_lines W t d v7 x7)))∧g3∧(w0∧(∀y7:Nat,y7<v0→True∧W.cores y7=tkX_cores W t d y7))∧(y0∧(∀z7:Nat,let a8:=tkX_readyN W t d z7;z7<x0→True∧W.readyN z7=a8∧(∀b8:Nat,b8<a8→True∧W.ready z7 b8=tkX_ready W t d z7 b8)))∧k3)∧(g2=false→((SV.ptr 0 0 none 0 0=SV.ptr 0 0 none 0 0∧t=t∧d=d∧True)∧(k2∧l2∧q2∧v2∧(k0∧(∀c8:Nat,let d8:=W.tasks c8;let e8:=d8.prio;let g8:=d8.node;let h8:=d8.space;let k8:=d8.helper;let l8:=d8.loc;let o8:=d8.word;let q8:=d8.badge;let r8:=d8.owes;let u8:=d8.core;let v8:=d8.dom;c8<h0→(((((((((((((((((((True∧d8.r0=d8.r0)∧d8.r1=d8.r1)∧d8.r2=d8.r2)∧d8.r3=d8.r3)∧d8.r4=d8.r4)∧d8.r5=d8.r5)∧d8.r6=d8.r6)∧d8.r7=d8.r7)∧
    d8.pc=d8.pc)∧d8.st=d8.st)∧e8=e8)∧g8=g8)∧h8=h8)∧k8=k8)∧l8=l8)∧o8=o8)∧q8=q8)∧r8=r8)∧u8=u8)∧v8=v8))∧(o0∧(∀w8:Nat,let x8:=W.linesN w8;w8<l0→True∧x8=x8∧(∀y8:Nat,y8<x8→True∧W.lines w8 y8=W.lines w8 y8)))∧g3∧(w0∧(∀z8:Nat,z8<v0→True∧W.cores z8=W.cores z8))∧(y0∧(∀a9:Nat,let b9:=W.readyN a9;a9<x0→True∧b9=b9∧(∀c9:Nat,c9<b9→True∧W.ready a9 c9=W.ready a9 c9)))∧k3)∧s_takP.match_1 (fun d9:X_takP=>Prop) (X_takP.mk t d W) (fun e9:Int=>fun g9:Int=>fun h9:Wd=>DoP h9 e9 g9))∧(takE W t=tkE W t d∧((-1):Int)=(-1))∧k2∧l2∧q2∧v2∧(k0∧(∀k9:Nat,let l9:=takW_tasks W t d k9;let o9:=tkX_tasks W t d k9;k9<h0→(((((((((((((((((((True∧l9.r0=o9.r0)∧l9.r1=o9.r1)∧l9.r2=o9.r2)∧l9.r3=o9.r3)∧l9.r4=o9.r4)∧l9.r5=o9.r5)∧l9.r6=o9.r6)∧l9.r7=o9.r7)∧l9.pc=o9.pc)∧l9.st=o9.st)∧l9.prio=o9.prio)∧l9.node=o9.node)∧l9.space=o9.space)∧l9.helper=o9.helper)∧l9.loc=o9.loc)∧l9.word=o9.word)∧l9.badge=o9.badge)∧l9.owes=o9.owes)∧l9.core=o9.core)∧l9.dom=o9.dom))∧(o0∧(∀q9:Nat,let r9:=tkX_linesN W t d q9;q9<l0→True∧takW_linesN W t d q9=r9∧(∀u9:Nat,u9<r9→True∧takW_lines W t d q9 u9=tkX_lines W t d q9 u9)))∧g3∧(w0∧(∀v9:Nat,v9<v0→True∧takW_cores W t d v9=tkX_cores W t d v9))∧(y0∧(∀w9:Nat,let x9:=tkX_readyN W t d w9;w9<x0→True∧takW_readyN W t d w9=x9∧(∀y9:Nat,y9<x9→True∧takW_ready W t d w9 y9=tkX_ready W t d w9 y9)))∧k3)
set_option maxHeartbeats 2000000 in
theorem ok_tknC : FnOK Tryz.prog glE 110 c_tknC := ok_of (.cons (ok_actP.up glN_glE) (.cons (ok_takP.up glN_glE) .nil)) false Tryz.call110 Tryz.func110 (fun _ => []) (V := V_tknC) (fun _ => by kernel_rfl) fun ⟨t, d, W⟩ hp => by
  dsimp only [s_tknC] at hp
  dsimp only [V_tknC, tn, w64]
  simp only [std, stb, eq_self, implies_true, Bool.cond_self]
  try simp only [wd_eta]
  obtain ⟨hs, hw⟩ := hp
  refine ⟨ac_of hw hs, fun h => ?_, fun h => ?_⟩
  · skip
    have hc : (actE W t d 7 == 0) = false := by simpa using h
    refine ⟨by unfold tkE; rw [hc]; rfl, ?_⟩
    have e_ := tkX_f hc
    have e_tasks : tkX_tasks W t d = _ := congrArg Wd.tasks e_
    have e_linesN : tkX_linesN W t d = _ := congrArg Wd.linesN e_
    have e_lines : tkX_lines W t d = _ := congrArg Wd.lines e_
    have e_cores : tkX_cores W t d = _ := congrArg Wd.cores e_
    have e_readyN : tkX_readyN W t d = _ := congrArg Wd.readyN e_
    have e_ready : tkX_ready W t d = _ := congrArg Wd.ready e_
    simp only [e_tasks, e_linesN, e_lines, e_cores, e_readyN, e_ready]
    clear e_ e_tasks e_linesN e_lines e_cores e_readyN e_ready
    repeat' (first | exact trivial | exact run20 rfl | rfl | refine And.intro ?_ ?_ | intro _ | fail)
  · skip
    have hc : (actE W t d 7 == 0) = true := by simpa using h
    obtain ⟨t0, t1, a0, a1, k1, k2⟩ := act_0 (eq_of_beq hc)
    refine ⟨do_of hw hs t0 t1 a0 a1 k2, by unfold tkE; rw [hc]; rfl, ?_⟩
    have e_ := tkX_t hc
    have e_tasks : tkX_tasks W t d = _ := congrArg Wd.tasks e_
    have e_linesN : tkX_linesN W t d = _ := congrArg Wd.linesN e_
    have e_lines : tkX_lines W t d = _ := congrArg Wd.lines e_
    have e_cores : tkX_cores W t d = _ := congrArg Wd.cores e_
    have e_readyN : tkX_readyN W t d = _ := congrArg Wd.readyN e_
    have e_ready : tkX_ready W t d = _ := congrArg Wd.ready e_
    simp only [e_tasks, e_linesN, e_lines, e_cores, e_readyN, e_ready]
    clear e_ e_tasks e_linesN e_lines e_cores e_readyN e_ready
    repeat' (first | exact trivial | exact run20 rfl | rfl | refine And.intro ?_ ?_ | intro _ | fail)
structure X_tknD where
  (W : Wd) (t d : Int)
def s_tknD : Sy.Spec := ⟨X_tknD, fun ⟨W, t, d⟩ => [wSV W, .fn 110 2 (lsv [.pt true 1 (fun _ => .v (.int .i64 t)), .pt true 1 (fun _ => .v (.int .i64 d))])], fun _ => [], fun ⟨W, _, _⟩ => Sm W ∧ Snd W, fun ⟨W, t, d⟩ => .tp 2 (lsv [wRd (gdW (tkE W t d) (tkX W t d)), .er 35 116 (tkE W t d) (-1)]), fun _ => [],
  fun args mem => match args with | [a0, a1] => (match isFn 110 a1 with | true => some ⟨wSVD a0, intD (ptF (fnF a1 0) 0), intD (ptF (fnF a1 1) 0)⟩ | false => none) | _ => none⟩
def c_tknD : Con := ⟨[], s_tknD.g, none⟩
def V_tknD : X_tknD → Prop := fun ⟨W, t, d⟩ => let a0:=W.nRam;let b0:=a0=a0;let c0:=b0∧(∀d0:Nat,d0<a0→True∧W.ram d0=W.ram d0);let e0:=W.nKinds;let g0:=e0=e0;let h0:=g0∧(∀k0:Nat,k0<e0→True∧W.kinds k0=W.kinds k0);let l0:=W.nSlots;let o0:=l0=l0;let q0:=o0∧(∀u0:Nat,let v0:=W.slots u0;let w0:=v0.kind;let x0:=v0.base;let y0:=v0.len;let z0:=v0.mark;let a1:=v0.rights;let b1:=v0.badge;let c1:=v0.from_;u0<l0→((((((True∧w0=w0)∧x0=x0)∧y0=y0)∧z0=z0)∧a1=a1)∧b1=b1)∧c1=c1);let d1:=W.nTasks;let e1:=d1=d1;let g1:=e1∧(∀h1:Nat,let k1:=W.tasks h1;let l1:=k1.prio;let o1:=k1.node;let q1:=k1.space;let u1:=k1.helper;let v1:=k1.loc;let w1:=k1.word;let x1:=k1.badge;let y1:=k1.owes;let z1:=k1.core;let a2:=k1.dom;h1<d1→(((((((((((((((((((True∧k1.r0=k1.r0)∧k1.r1=k1.r1)∧k1.r2=k1.r2)∧k1.r3=k1.r3)∧k1.r4=k1.r4)∧k1.r5=k1.r5)∧k1.r6=k1.r6)∧k1.r7=k1.r7)∧k1.pc=k1.pc)∧k1.st=k1.st)∧l1=l1)∧o1=o1)∧q1=q1)∧u1=u1)∧v1=v1)∧w1=w1)∧x1=x1)∧y1=y1)∧z1=z1)∧a2=a2);let b2:=W.nLines;let c2:=b2=b2;let d2:=c2∧(∀e2:Nat,let g2:=W.linesN e2;e2<b2→True∧g2=g2∧(∀h2:Nat,h2<g2→True∧W.lines e2 h2=W.lines e2 h2));let k2:=W.nBits;let l2:=k2=k2;let o2:=l2∧(∀q2:Nat,q2<k2→True∧W.bits q2=W.bits q2);let u2:=W.nCores;let v2:=u2=u2;let w2:=v2∧(∀x2:Nat,x2<u2→True∧W.cores x2=W.cores x2);let y2:=W.nReady;let z2:=y2=y2;let a3:=z2∧(∀b3:Nat,let c3:=W.readyN b3;b3<y2→True∧c3=c3∧(∀d3:Nat,d3<c3→True∧W.ready b3 d3=W.ready b3 d3));let e3:=W.nTlbs;let g3:=e3=e3;
    let h3:=g3∧(∀k3:Nat,let l3:=W.tlbsN k3;k3<e3→True∧l3=l3∧(∀o3:Nat,let q3:=W.tlbs k3 o3;let u3:=q3.sp;let v3:=q3.pg;let w3:=q3.fr;let x3:=q3.wr;o3<l3→(((True∧u3=u3)∧v3=v3)∧w3=w3)∧x3=x3));let y3:=W.nDoms;let z3:=y3=y3;let a4:=z3∧(∀b4:Nat,b4<y3→True∧W.doms b4=W.doms b4);let c4:=W.time=W.time;let d4:=(((((((((((True∧c0)∧h0)∧q0)∧g1)∧d2)∧o2)∧w2)∧a3)∧h3)∧a4)∧c4)∧True;let e4:=tn 10 True;let g4:=tkE W t d;let h4:=gdW g4 (tkX W t d);let k4:=h4.nRam;let l4:=h4.nKinds;let o4:=h4.nSlots;let q4:=h4.nTasks;let u4:=h4.nLines;let v4:=h4.nBits;let w4:=h4.nCores;let x4:=h4.nReady;let y4:=h4.nTlbs;let z4:=h4.nDoms;let a5:=h4.time;let b5:=True∧((((((((((True∧k4=0)∧l4=0)∧o4=0)∧q4=0)∧u4=0)∧v4=0)∧w4=0)∧x4=0)∧y4=0)∧z4=0)∧0=a5;let c5:=((-1):Int)=(-1);let d5:=0=0;let e5:=g4 !=0;tn 2 ((d4∧True∧s_wCheck.match_1 (fun g5:X_wCheck=>Prop) (X_wCheck.mk W) (fun h5:Wd=>Sm h5))∧((wE W !=0)=true→e4∧(b5∧(8:Int)≠0∧g4=8∧c5)∧True)∧((wE W !=0)=false→(d4∧True∧s_cloneW.match_1 (fun k5:X_cloneW=>Prop) (X_cloneW.mk W) (fun l5:Wd=>Lg l5))∧e4∧((SV.ptr 0 0 none 0 0=SV.ptr 0 0 none 0 0∧(True∧t=t)∧(True∧d=d)∧True)∧((((((((((((True∧d5∧b0)∧d5∧g0)∧d5∧o0)∧d5∧e1)∧d5∧c2)∧d5∧l2)∧d5∧v2)∧d5∧z2)∧d5∧g3)∧d5∧z3)∧c4)∧c0∧h0∧q0∧g1∧d2∧o2∧w2∧a3∧h3∧a4∧True)∧Sm W∧Snd W)∧(e5=true→e4∧(b5∧g4=g4∧c5)∧True)∧(e5=false→e4∧((True∧((((((((((True∧a0=k4∧(∀o5:Nat,o5<k4→True∧W.ram (0+o5)=h4.ram o5))∧e0=l4∧(∀q5:Nat,q5<l4→True∧W.kinds (0+q5)=h4.kinds q5))∧l0=o4∧(∀u5:Nat,let v5:=W.slots (0+u5);let w5:=h4.slots u5;u5<o4→((((((True∧v5.kind=w5.kind)∧
    v5.base=w5.base)∧v5.len=w5.len)∧v5.mark=w5.mark)∧v5.rights=w5.rights)∧v5.badge=w5.badge)∧v5.from_=w5.from_))∧d1=q4∧(∀x5:Nat,let y5:=tkX_tasks W t d (0+x5);let z5:=h4.tasks x5;x5<q4→(((((((((((((((((((True∧y5.r0=z5.r0)∧y5.r1=z5.r1)∧y5.r2=z5.r2)∧y5.r3=z5.r3)∧y5.r4=z5.r4)∧y5.r5=z5.r5)∧y5.r6=z5.r6)∧y5.r7=z5.r7)∧y5.pc=z5.pc)∧y5.st=z5.st)∧y5.prio=z5.prio)∧y5.node=z5.node)∧y5.space=z5.space)∧y5.helper=z5.helper)∧y5.loc=z5.loc)∧y5.word=z5.word)∧y5.badge=z5.badge)∧y5.owes=z5.owes)∧y5.core=z5.core)∧y5.dom=z5.dom))∧b2=u4∧(∀a6:Nat,a6<u4→True∧tkX_linesN W t d (0+a6)=h4.linesN a6∧(∀b6:Nat,b6<h4.linesN a6→True∧tkX_lines W t d (0+a6) (0+b6)=h4.lines a6 b6)))∧k2=v4∧(∀c6:Nat,c6<v4→True∧W.bits (0+c6)=h4.bits c6))∧u2=w4∧(∀d6:Nat,d6<w4→True∧tkX_cores W t d (0+d6)=h4.cores d6))∧y2=x4∧(∀e6:Nat,e6<x4→True∧tkX_readyN W t d (0+e6)=h4.readyN e6∧(∀g6:Nat,g6<h4.readyN e6→True∧tkX_ready W t d (0+e6) (0+g6)=h4.ready e6 g6)))∧e3=y4∧(∀h6:Nat,let k6:=0+h6;h6<y4→True∧W.tlbsN k6=h4.tlbsN h6∧(∀l6:Nat,let o6:=W.tlbs k6 (0+l6);let q6:=h4.tlbs h6 l6;l6<h4.tlbsN h6→(((True∧o6.sp=q6.sp)∧o6.pg=q6.pg)∧o6.fr=q6.fr)∧o6.wr=q6.wr)))∧y3=z4∧(∀u6:Nat,u6<z4→True∧W.doms (0+u6)=h4.doms u6))∧W.time=a5)∧g4=0∧c5)∧True)))
set_option maxHeartbeats 2000000 in
theorem ok_tknD : FnOK Tryz.prog glE 66 c_tknD := ok_of (.cons (ok_wCheck.up glN_glE) (.cons (ok_cloneW.up glN_glE) (.cons ok_tknC .nil))) false Tryz.call66 Tryz.func66 (fun _ => []) (V := V_tknD) (fun _ => by kernel_rfl) fun ⟨W, t, d⟩ hp => by
  dsimp only [s_tknD] at hp
  dsimp only [V_tknD, tn, w64]
  simp only [std, stb, eq_self, implies_true, Bool.cond_self]
  obtain ⟨hs, hw⟩ := hp
  have h0 := snd0 hw
  refine ⟨hs, fun h => absurd (by simpa using h0) (by simpa using h), fun _ => ⟨lg_sm hs, ⟨hs, hw⟩, fun h2 => ?_, fun h2 => ?_⟩⟩
  · simp only [fun X => gdW_no X (ne0 h2)]
    repeat' (first | exact trivial | rfl | refine And.intro ?_ ?_ | intro _ | exact absurd ‹_› (Nat.not_lt_zero _) | fail)
  · simp only [fun X => gdW_yes X (eq0 h2)]
    repeat' (first | exact trivial | rfl | refine And.intro ?_ ?_ | intro _ | exact absurd ‹_› (Nat.not_lt_zero _) | fail)
    exact eq_of_beq (eq0 h2)
structure X_tknX where
  (W : Wd) (t d : Int)
def s_tknX : Sy.Spec := ⟨X_tknX, fun ⟨W, t, d⟩ => [wSV W, .v (.int .i64 t), .v (.int .i64 d)], fun _ => [], fun ⟨W, _, _⟩ => Sm W ∧ Snd W, fun ⟨W, t, d⟩ => .tp 2 (lsv [wRd (gdW (tkE W t d) (tkX W t d)), .er 35 116 (tkE W t d) (-1)]), fun _ => [],
  fun args mem => match args with | [a0, a1, a2] => some ⟨wSVD a0, intD (a1), intD (a2)⟩ | _ => none⟩
def c_tknX : Con := ⟨[], s_tknX.g, none⟩
def V_tknX : X_tknX → Prop := fun ⟨W, t, d⟩ => let a0:=W.nKinds;let b0:=W.nSlots;let c0:=W.nTasks;let d0:=W.nLines;let e0:=W.nCores;let g0:=W.nReady;let h0:=tkE W t d;let k0:=gdW h0 (tkX W t d);let l0:=k0.nRam;let o0:=k0.nKinds;let q0:=k0.nSlots;let u0:=k0.nTasks;let v0:=k0.nLines;let w0:=k0.nBits;let x0:=k0.nCores;let y0:=k0.nReady;let z0:=k0.nTlbs;let a1:=k0.nDoms;let b1:=k0.time;tn 4 ((((((((((((((True∧W.nRam=W.nRam∧(∀c1:Nat,c1<W.nRam→True∧W.ram c1=W.ram c1))∧a0=a0∧(∀d1:Nat,d1<a0→True∧W.kinds d1=W.kinds d1))∧b0=b0∧(∀e1:Nat,let g1:=W.slots e1;let h1:=g1.kind;let k1:=g1.base;let l1:=g1.len;let o1:=g1.mark;let q1:=g1.rights;let u1:=g1.badge;let v1:=g1.from_;e1<b0→((((((True∧h1=h1)∧k1=k1)∧l1=l1)∧o1=o1)∧q1=q1)∧u1=u1)∧v1=v1))∧c0=c0∧(∀w1:Nat,let x1:=W.tasks w1;let y1:=x1.prio;let z1:=x1.node;let a2:=x1.space;let b2:=x1.helper;let c2:=x1.loc;let d2:=x1.word;let e2:=x1.badge;let g2:=x1.owes;let h2:=x1.core;let k2:=x1.dom;w1<c0→(((((((((((((((((((True∧x1.r0=x1.r0)∧x1.r1=x1.r1)∧x1.r2=x1.r2)∧x1.r3=x1.r3)∧x1.r4=x1.r4)∧x1.r5=x1.r5)∧x1.r6=x1.r6)∧x1.r7=x1.r7)∧x1.pc=x1.pc)∧x1.st=x1.st)∧y1=y1)∧z1=z1)∧a2=a2)∧b2=b2)∧c2=c2)∧d2=d2)∧e2=e2)∧g2=g2)∧h2=h2)∧k2=k2))∧d0=d0∧(∀l2:Nat,let o2:=W.linesN l2;l2<d0→True∧o2=o2∧(∀q2:Nat,q2<o2→True∧W.lines l2 q2=W.lines l2 q2)))∧W.nBits=W.nBits∧(∀u2:Nat,u2<W.nBits→True∧W.bits u2=W.bits u2))∧e0=e0∧(∀v2:Nat,v2<e0→True∧W.cores v2=W.cores v2))∧g0=g0∧(∀w2:Nat,let x2:=W.readyN w2;w2<g0→True∧x2=x2∧(∀y2:Nat,y2<x2→True∧W.ready w2 y2=W.ready w2 y2)))∧W.nTlbs=W.nTlbs∧(∀z2:Nat,let a3:=W.tlbsN z2;z2<W.nTlbs→True∧a3=a3∧
    (∀b3:Nat,let c3:=W.tlbs z2 b3;let d3:=c3.sp;let e3:=c3.pg;let g3:=c3.fr;let h3:=c3.wr;b3<a3→(((True∧d3=d3)∧e3=e3)∧g3=g3)∧h3=h3)))∧W.nDoms=W.nDoms∧(∀k3:Nat,k3<W.nDoms→True∧W.doms k3=W.doms k3))∧W.time=W.time)∧(tn 2 (t=t)∧True∧d=d)∧True)∧True∧Sm W∧Snd W)∧tn 10 True∧((True∧((((((((((True∧l0=l0∧(∀l3:Nat,l3<l0→True∧k0.ram l3=k0.ram l3))∧o0=o0∧(∀o3:Nat,o3<o0→True∧k0.kinds o3=k0.kinds o3))∧q0=q0∧(∀q3:Nat,let u3:=k0.slots q3;let v3:=u3.kind;let w3:=u3.base;let x3:=u3.len;let y3:=u3.mark;let z3:=u3.rights;let a4:=u3.badge;let b4:=u3.from_;q3<q0→((((((True∧v3=v3)∧w3=w3)∧x3=x3)∧y3=y3)∧z3=z3)∧a4=a4)∧b4=b4))∧u0=u0∧(∀c4:Nat,let d4:=k0.tasks c4;let e4:=d4.prio;let g4:=d4.node;let h4:=d4.space;let k4:=d4.helper;let l4:=d4.loc;let o4:=d4.word;let q4:=d4.badge;let u4:=d4.owes;let v4:=d4.core;let w4:=d4.dom;c4<u0→(((((((((((((((((((True∧d4.r0=d4.r0)∧d4.r1=d4.r1)∧d4.r2=d4.r2)∧d4.r3=d4.r3)∧d4.r4=d4.r4)∧d4.r5=d4.r5)∧d4.r6=d4.r6)∧d4.r7=d4.r7)∧d4.pc=d4.pc)∧d4.st=d4.st)∧e4=e4)∧g4=g4)∧h4=h4)∧k4=k4)∧l4=l4)∧o4=o4)∧q4=q4)∧u4=u4)∧v4=v4)∧w4=w4))∧v0=v0∧(∀x4:Nat,let y4:=k0.linesN x4;x4<v0→True∧y4=y4∧(∀z4:Nat,z4<y4→True∧k0.lines x4 z4=k0.lines x4 z4)))∧w0=w0∧(∀a5:Nat,a5<w0→True∧k0.bits a5=k0.bits a5))∧x0=x0∧(∀b5:Nat,b5<x0→True∧k0.cores b5=k0.cores b5))∧y0=y0∧(∀c5:Nat,let d5:=k0.readyN c5;c5<y0→True∧d5=d5∧(∀e5:Nat,e5<d5→True∧k0.ready c5 e5=k0.ready c5 e5)))∧z0=z0∧(∀g5:Nat,let h5:=k0.tlbsN g5;g5<z0→True∧h5=h5∧(∀k5:Nat,let l5:=k0.tlbs g5 k5;let o5:=l5.sp;let q5:=l5.pg;let u5:=l5.fr;let v5:=l5.wr;k5<h5→
    (((True∧o5=o5)∧q5=q5)∧u5=u5)∧v5=v5)))∧a1=a1∧(∀w5:Nat,w5<a1→True∧k0.doms w5=k0.doms w5))∧b1=b1)∧h0=h0∧((-1):Int)=(-1))∧True)
set_option maxHeartbeats 2000000 in
theorem ok_tknX : FnOK Tryz.prog glE 48 c_tknX := ok_of (.cons ok_tknD .nil) false Tryz.call48 Tryz.func48 (fun _ => []) (V := V_tknX) (fun _ => by kernel_rfl) fun ⟨W, t, d⟩ hp => by
  dsimp only [s_tknX] at hp
  dsimp only [V_tknX, tn, w64]
  simp only [std, stb, eq_self, implies_true, Bool.cond_self]
  try simp only [wd_eta]
  exact hp
structure X_tknY where
  (W : Wd) (t d : Int)
def s_tknY : Sy.Spec := ⟨X_tknY, fun ⟨W, t, d⟩ => [wSV W, .v (.int .i64 t), .v (.int .i64 d)], fun _ => [], fun ⟨W, _, _⟩ => Sm W ∧ wE W ≠ 0, fun _ => .tp 2 (lsv [wRd oW, .er 35 116 8 (-1)]), fun _ => [],
  fun args mem => match args with | [a0, a1, a2] => some ⟨wSVD a0, intD (a1), intD (a2)⟩ | _ => none⟩
def c_tknY : Con := ⟨[], s_tknY.g, none⟩
def V_tknY : X_tknY → Prop := fun ⟨W, _, _⟩ => let a0:=W.nKinds;let b0:=W.nSlots;let c0:=W.nTasks;let d0:=W.nLines;let e0:=W.nCores;let g0:=W.nReady;let h0:=(0:Int)=0;let k0:=True∧h0;let l0:=0=0∧(∀o0:Nat,o0<0→k0);let q0:=True∧l0;let u0:=(k0∧h0)∧h0;let v0:=(((u0∧h0)∧h0)∧h0)∧h0;let w0:=((-1):Int)=(-1);let x0:=0=0∧(∀y0:Nat,y0<0→q0);tn 4 ((((((((((((((True∧W.nRam=W.nRam∧(∀z0:Nat,z0<W.nRam→True∧W.ram z0=W.ram z0))∧a0=a0∧(∀a1:Nat,a1<a0→True∧W.kinds a1=W.kinds a1))∧b0=b0∧(∀b1:Nat,let c1:=W.slots b1;let d1:=c1.kind;let e1:=c1.base;let g1:=c1.len;let h1:=c1.mark;let k1:=c1.rights;let l1:=c1.badge;let o1:=c1.from_;b1<b0→((((((True∧d1=d1)∧e1=e1)∧g1=g1)∧h1=h1)∧k1=k1)∧l1=l1)∧o1=o1))∧c0=c0∧(∀q1:Nat,let u1:=W.tasks q1;let v1:=u1.prio;let w1:=u1.node;let x1:=u1.space;let y1:=u1.helper;let z1:=u1.loc;let a2:=u1.word;let b2:=u1.badge;let c2:=u1.owes;let d2:=u1.core;let e2:=u1.dom;q1<c0→(((((((((((((((((((True∧u1.r0=u1.r0)∧u1.r1=u1.r1)∧u1.r2=u1.r2)∧u1.r3=u1.r3)∧u1.r4=u1.r4)∧u1.r5=u1.r5)∧u1.r6=u1.r6)∧u1.r7=u1.r7)∧u1.pc=u1.pc)∧u1.st=u1.st)∧v1=v1)∧w1=w1)∧x1=x1)∧y1=y1)∧z1=z1)∧a2=a2)∧b2=b2)∧c2=c2)∧d2=d2)∧e2=e2))∧d0=d0∧(∀g2:Nat,let h2:=W.linesN g2;g2<d0→True∧h2=h2∧(∀k2:Nat,k2<h2→True∧W.lines g2 k2=W.lines g2 k2)))∧W.nBits=W.nBits∧(∀l2:Nat,l2<W.nBits→True∧W.bits l2=W.bits l2))∧e0=e0∧(∀o2:Nat,o2<e0→True∧W.cores o2=W.cores o2))∧g0=g0∧(∀q2:Nat,let u2:=W.readyN q2;q2<g0→True∧u2=u2∧(∀v2:Nat,v2<u2→True∧W.ready q2 v2=W.ready q2 v2)))∧W.nTlbs=W.nTlbs∧(∀w2:Nat,let x2:=W.tlbsN w2;w2<W.nTlbs→True∧x2=x2∧(∀y2:Nat,let z2:=W.tlbs w2 y2;let a3:=z2.sp;
    let b3:=z2.pg;let c3:=z2.fr;let d3:=z2.wr;y2<x2→(((True∧a3=a3)∧b3=b3)∧c3=c3)∧d3=d3)))∧W.nDoms=W.nDoms∧(∀e3:Nat,e3<W.nDoms→True∧W.doms e3=W.doms e3))∧W.time=W.time)∧True∧True)∧True∧Sm W∧wE W≠0)∧tn 10 True∧((True∧(((((((((q0∧l0)∧0=0∧(∀g3:Nat,g3<0→v0))∧0=0∧(∀h3:Nat,h3<0→((((((((((((v0∧h0)∧h0)∧h0)∧h0)∧w0)∧w0)∧w0)∧w0)∧h0)∧h0)∧w0)∧h0)∧h0))∧x0)∧l0)∧l0)∧x0)∧0=0∧(∀k3:Nat,k3<0→True∧0=0∧(∀l3:Nat,l3<0→u0∧false=false)))∧l0)∧h0)∧(8:Int)=8∧w0)∧True)
set_option maxHeartbeats 2000000 in
theorem ok_tknY : FnOK Tryz.prog glE 48 c_tknY := ok_of (.cons ok_done8 .nil) false Tryz.call48 Tryz.func48 (fun _ => []) (V := V_tknY) (fun _ => by kernel_rfl) fun ⟨W, t, d⟩ hp => by
  dsimp only [s_tknY] at hp
  dsimp only [V_tknY, tn, w64]
  simp only [std, stb, eq_self, implies_true, Bool.cond_self]
  try simp only [wd_eta]
  exact hp
structure X_tknR where
  (t d : Int) (W : Wd)
def s_tknR : Sy.Spec := ⟨X_tknR, fun ⟨t, d, _⟩ => [.ptr 0 0 none 0 0, .pt true 1 (fun _ => .v (.int .i64 t)), .pt true 1 (fun _ => .v (.int .i64 d))], fun ⟨_, _, W⟩ => wMem W, fun ⟨_, _, W⟩ => Sm W ∧ Snd W, fun ⟨t, d, W⟩ => .v (.int .i64 (tkE W t d)), fun ⟨t, d, W⟩ => wMem (tkX W t d),
  fun args mem => match args with | [a0, a1, a2] => some ⟨intD (ptF a1 0), intD (ptF a2 0), wMJD mem 0⟩ | _ => none⟩
def c_tknR : Con := ⟨[true], s_tknR.g, none⟩
def V_tknR : X_tknR → Prop := fun ⟨t, d, W⟩ => let a0:=W.nRam;let b0:=a0=a0;let c0:=W.nKinds;let d0:=c0=c0;let e0:=W.nSlots;let g0:=e0=e0;let h0:=W.nTasks;let k0:=h0=h0;let l0:=W.nLines;let o0:=l0=l0;let q0:=W.nBits;let u0:=q0=q0;let v0:=W.nCores;let w0:=v0=v0;let x0:=W.nReady;let y0:=x0=x0;let z0:=W.nTlbs;let a1:=z0=z0;let b1:=W.nDoms;let c1:=b1=b1;let d1:=W.time=W.time;let e1:=Wd.mk a0 (fun g1:Nat=>W.ram (0+g1)) c0 (fun h1:Nat=>W.kinds (0+h1)) e0 (fun k1:Nat=>W.slots (0+k1)) h0 (fun l1:Nat=>W.tasks (0+l1)) l0 (fun o1:Nat=>W.linesN (0+o1)) (fun q1:Nat=>fun u1:Nat=>W.lines (0+q1) (0+u1)) q0 (fun v1:Nat=>W.bits (0+v1)) v0 (fun w1:Nat=>W.cores (0+w1)) x0 (fun x1:Nat=>W.readyN (0+x1)) (fun y1:Nat=>fun z1:Nat=>W.ready (0+y1) (0+z1)) z0 (fun a2:Nat=>W.tlbsN (0+a2)) (fun b2:Nat=>fun c2:Nat=>W.tlbs (0+b2) (0+c2)) b1 (fun d2:Nat=>W.doms (0+d2)) W.time;let e2:=actE e1 t d 7;let g2:=e2==0;let h2:=0=0;let k2:=((((((((((True∧h2∧b0)∧h2∧d0)∧h2∧g0)∧h2∧k0)∧h2∧o0)∧h2∧u0)∧h2∧w0)∧h2∧y0)∧h2∧a1)∧h2∧c1)∧d1;let l2:=b0∧(∀o2:Nat,o2<a0→True∧W.ram o2=W.ram o2);let q2:=d0∧(∀u2:Nat,u2<c0→True∧W.kinds u2=W.kinds u2);let v2:=g0∧(∀w2:Nat,let x2:=W.slots w2;let y2:=x2.kind;let z2:=x2.base;let a3:=x2.len;let b3:=x2.mark;let c3:=x2.rights;let d3:=x2.badge;let e3:=x2.from_;w2<e0→((((((True∧y2=y2)∧z2=z2)∧a3=a3)∧b3=b3)∧c3=c3)∧d3=d3)∧e3=e3);let g3:=u0∧(∀h3:Nat,h3<q0→True∧W.bits h3=W.bits h3);
    let k3:=(a1∧(∀l3:Nat,let o3:=W.tlbsN l3;l3<z0→True∧o3=o3∧(∀q3:Nat,let u3:=W.tlbs l3 q3;let v3:=u3.sp;let w3:=u3.pg;let x3:=u3.fr;let y3:=u3.wr;q3<o3→(((True∧v3=v3)∧w3=w3)∧x3=x3)∧y3=y3)))∧(c1∧(∀z3:Nat,z3<b1→True∧W.doms z3=W.doms z3))∧True;(((((((((((((True∧b0∧(∀a4:Nat,a4<a0→True∧W.ram (0+a4)=W.ram (0+a4)))∧d0∧(∀b4:Nat,let c4:=W.kinds (0+b4);b4<c0→True∧c4=c4))∧g0∧(∀d4:Nat,let e4:=W.slots (0+d4);let g4:=e4.kind;let h4:=e4.base;let k4:=e4.len;let l4:=e4.mark;let o4:=e4.rights;let q4:=e4.badge;let u4:=e4.from_;d4<e0→((((((True∧g4=g4)∧h4=h4)∧k4=k4)∧l4=l4)∧o4=o4)∧q4=q4)∧u4=u4))∧k0∧(∀v4:Nat,let w4:=W.tasks (0+v4);let x4:=w4.r0;let y4:=w4.r1;let z4:=w4.r2;let a5:=w4.r3;let b5:=w4.r4;let c5:=w4.r5;let d5:=w4.r6;let e5:=w4.r7;let g5:=w4.pc;let h5:=w4.st;let k5:=w4.prio;let l5:=w4.node;let o5:=w4.space;let q5:=w4.helper;let u5:=w4.loc;let v5:=w4.word;let w5:=w4.badge;let x5:=w4.owes;let y5:=w4.core;let z5:=w4.dom;v4<h0→(((((((((((((((((((True∧x4=x4)∧y4=y4)∧z4=z4)∧a5=a5)∧b5=b5)∧c5=c5)∧d5=d5)∧e5=e5)∧g5=g5)∧h5=h5)∧k5=k5)∧l5=l5)∧o5=o5)∧q5=q5)∧u5=u5)∧v5=v5)∧w5=w5)∧x5=x5)∧y5=y5)∧z5=z5))∧o0∧(∀a6:Nat,let b6:=W.linesN (0+a6);a6<l0→True∧b6=b6∧(∀c6:Nat,let d6:=W.lines (0+a6) (0+c6);c6<b6→True∧d6=d6)))∧u0∧(∀e6:Nat,e6<q0→True∧W.bits (0+e6)=W.bits (0+e6)))∧w0∧(∀g6:Nat,let h6:=W.cores (0+g6);g6<v0→True∧h6=h6))∧y0∧(∀k6:Nat,let l6:=W.readyN (0+k6);k6<x0→True∧l6=l6∧(∀o6:Nat,let q6:=W.ready (0+k6) (0+o6);o6<l6→True∧q6=q6)))∧a1∧(∀u6:Nat,let v6:=0+u6;let w6:=W.tlbsN v6;u6<z0→True∧w6=w6∧(∀x6:Nat,
    let y6:=W.tlbs v6 (0+x6);let z6:=y6.sp;let a7:=y6.pg;let b7:=y6.fr;let c7:=y6.wr;x6<w6→(((True∧z6=z6)∧a7=a7)∧b7=b7)∧c7=c7)))∧c1∧(∀d7:Nat,d7<b1→True∧W.doms (0+d7)=W.doms (0+d7)))∧d1)∧t=t∧d=d∧(7:Int)=7∧True)∧True∧s_actR.match_1 (fun e7:X_actR=>Prop) (X_actR.mk e1 t d 7) (fun g7:Wd=>fun h7:Int=>fun k7:Int=>fun l7:Int=>AcP g7))∧(g2=true→((SV.ptr 0 0 none 0 0=SV.ptr 0 0 none 0 0∧t=t∧d=d∧True)∧(k2∧l2∧q2∧v2∧(k0∧(∀o7:Nat,let q7:=W.tasks o7;let u7:=q7.prio;let v7:=q7.node;let w7:=q7.space;let x7:=q7.helper;let y7:=q7.loc;let z7:=q7.word;let a8:=q7.badge;let b8:=q7.owes;let c8:=q7.core;let d8:=q7.dom;o7<h0→(((((((((((((((((((True∧q7.r0=q7.r0)∧q7.r1=q7.r1)∧q7.r2=q7.r2)∧q7.r3=q7.r3)∧q7.r4=q7.r4)∧q7.r5=q7.r5)∧q7.r6=q7.r6)∧q7.r7=q7.r7)∧q7.pc=q7.pc)∧q7.st=q7.st)∧u7=u7)∧v7=v7)∧w7=w7)∧x7=x7)∧y7=y7)∧z7=z7)∧a8=a8)∧b8=b8)∧c8=c8)∧d8=d8))∧(o0∧(∀e8:Nat,let g8:=W.linesN e8;e8<l0→True∧g8=g8∧(∀h8:Nat,h8<g8→True∧W.lines e8 h8=W.lines e8 h8)))∧g3∧(w0∧(∀k8:Nat,k8<v0→True∧W.cores k8=W.cores k8))∧(y0∧(∀l8:Nat,let o8:=W.readyN l8;l8<x0→True∧o8=o8∧(∀q8:Nat,q8<o8→True∧W.ready l8 q8=W.ready l8 q8)))∧k3)∧s_takR.match_1 (fun r8:X_takR=>Prop) (X_takR.mk t d W) (fun u8:Int=>fun v8:Int=>fun w8:Wd=>DoP w8 u8 v8))∧takE W t=tkE W t d∧k2∧l2∧q2∧v2∧(k0∧(∀x8:Nat,let y8:=takW_tasks W t d x8;let z8:=tkX_tasks W t d x8;x8<h0→(((((((((((((((((((True∧y8.r0=z8.r0)∧y8.r1=z8.r1)∧y8.r2=z8.r2)∧y8.r3=z8.r3)∧y8.r4=z8.r4)∧y8.r5=z8.r5)∧y8.r6=z8.r6)∧y8.r7=z8.r7)∧y8.pc=z8.pc)∧y8.st=z8.st)∧y8.prio=z8.prio)∧y8.node=z8.node)∧
    y8.space=z8.space)∧y8.helper=z8.helper)∧y8.loc=z8.loc)∧y8.word=z8.word)∧y8.badge=z8.badge)∧y8.owes=z8.owes)∧y8.core=z8.core)∧y8.dom=z8.dom))∧(o0∧(∀a9:Nat,let b9:=tkX_linesN W t d a9;a9<l0→True∧takW_linesN W t d a9=b9∧(∀c9:Nat,c9<b9→True∧takW_lines W t d a9 c9=tkX_lines W t d a9 c9)))∧g3∧(w0∧(∀d9:Nat,d9<v0→True∧takW_cores W t d d9=tkX_cores W t d d9))∧(y0∧(∀e9:Nat,let g9:=tkX_readyN W t d e9;e9<x0→True∧takW_readyN W t d e9=g9∧(∀h9:Nat,h9<g9→True∧takW_ready W t d e9 h9=tkX_ready W t d e9 h9)))∧k3)∧(g2=false→e2=tkE W t d∧k2∧l2∧q2∧v2∧(k0∧(∀k9:Nat,let l9:=W.tasks k9;let o9:=tkX_tasks W t d k9;k9<h0→(((((((((((((((((((True∧l9.r0=o9.r0)∧l9.r1=o9.r1)∧l9.r2=o9.r2)∧l9.r3=o9.r3)∧l9.r4=o9.r4)∧l9.r5=o9.r5)∧l9.r6=o9.r6)∧l9.r7=o9.r7)∧l9.pc=o9.pc)∧l9.st=o9.st)∧l9.prio=o9.prio)∧l9.node=o9.node)∧l9.space=o9.space)∧l9.helper=o9.helper)∧l9.loc=o9.loc)∧l9.word=o9.word)∧l9.badge=o9.badge)∧l9.owes=o9.owes)∧l9.core=o9.core)∧l9.dom=o9.dom))∧(o0∧(∀q9:Nat,let r9:=tkX_linesN W t d q9;q9<l0→True∧W.linesN q9=r9∧(∀u9:Nat,u9<r9→True∧W.lines q9 u9=tkX_lines W t d q9 u9)))∧g3∧(w0∧(∀v9:Nat,v9<v0→True∧W.cores v9=tkX_cores W t d v9))∧(y0∧(∀w9:Nat,let x9:=tkX_readyN W t d w9;w9<x0→True∧W.readyN w9=x9∧(∀y9:Nat,y9<x9→True∧W.ready w9 y9=tkX_ready W t d w9 y9)))∧k3)
set_option maxHeartbeats 2000000 in
theorem ok_tknR : FnOK Tryz.prog glE 50 c_tknR := ok_of (.cons (ok_actR.up glN_glE) (.cons (ok_takR.up glN_glE) .nil)) false Tryz.call50 Tryz.func50 (fun _ => []) (V := V_tknR) (fun _ => by kernel_rfl) fun ⟨t, d, W⟩ hp => by
  dsimp only [s_tknR] at hp
  dsimp only [V_tknR, tn, w64]
  simp only [std, stb, eq_self, implies_true, Bool.cond_self]
  try simp only [wd_eta]
  obtain ⟨hs, hw⟩ := hp
  refine ⟨ac_of hw hs, fun h => ?_, fun h => ?_⟩
  · skip
    have hc : (actE W t d 7 == 0) = true := by simpa using h
    obtain ⟨t0, t1, a0, a1, k1, k2⟩ := act_0 (eq_of_beq hc)
    refine ⟨do_of hw hs t0 t1 a0 a1 k2, by unfold tkE; rw [hc]; rfl, ?_⟩
    have e_ := tkX_t hc
    have e_tasks : tkX_tasks W t d = _ := congrArg Wd.tasks e_
    have e_linesN : tkX_linesN W t d = _ := congrArg Wd.linesN e_
    have e_lines : tkX_lines W t d = _ := congrArg Wd.lines e_
    have e_cores : tkX_cores W t d = _ := congrArg Wd.cores e_
    have e_readyN : tkX_readyN W t d = _ := congrArg Wd.readyN e_
    have e_ready : tkX_ready W t d = _ := congrArg Wd.ready e_
    simp only [e_tasks, e_linesN, e_lines, e_cores, e_readyN, e_ready]
    clear e_ e_tasks e_linesN e_lines e_cores e_readyN e_ready
    repeat' (first | exact trivial | exact run20 rfl | rfl | refine And.intro ?_ ?_ | intro _ | fail)
  · skip
    have hc : (actE W t d 7 == 0) = false := by simpa using h
    refine ⟨by unfold tkE; rw [hc]; rfl, ?_⟩
    have e_ := tkX_f hc
    have e_tasks : tkX_tasks W t d = _ := congrArg Wd.tasks e_
    have e_linesN : tkX_linesN W t d = _ := congrArg Wd.linesN e_
    have e_lines : tkX_lines W t d = _ := congrArg Wd.lines e_
    have e_cores : tkX_cores W t d = _ := congrArg Wd.cores e_
    have e_readyN : tkX_readyN W t d = _ := congrArg Wd.readyN e_
    have e_ready : tkX_ready W t d = _ := congrArg Wd.ready e_
    simp only [e_tasks, e_linesN, e_lines, e_cores, e_readyN, e_ready]
    clear e_ e_tasks e_linesN e_lines e_cores e_readyN e_ready
    repeat' (first | exact trivial | exact run20 rfl | rfl | refine And.intro ?_ ?_ | intro _ | fail)
structure X_tknL where
  (W : Wd) (t d : Int)
def s_tknL : Sy.Spec := ⟨X_tknL, fun ⟨W, t, d⟩ => [wRd (gdW (tkE W t d) (tkX W t d)), .er 35 116 (tkE W t d) (-1), wSV W, .v (.int .i64 0), .fn 50 2 (lsv [.pt true 1 (fun _ => .v (.int .i64 t)), .pt true 1 (fun _ => .v (.int .i64 d))])], fun _ => [], fun ⟨W, _, _⟩ => Sm W ∧ Snd W, fun _ => .v (.bool true), fun _ => [],
  fun args mem => match args with | [a0, a1, a2, a3, a4] => (match isFn 50 a4 with | true => some ⟨wSVD a2, intD (ptF (fnF a4 0) 0), intD (ptF (fnF a4 1) 0)⟩ | false => none) | _ => none⟩
def c_tknL : Con := ⟨[], s_tknL.g, none⟩
def V_tknL : X_tknL → Prop := fun ⟨W, t, d⟩ => let a0:=W.nRam;let b0:=a0=a0;let c0:=b0∧(∀d0:Nat,d0<a0→True∧W.ram d0=W.ram d0);let e0:=W.nKinds;let g0:=e0=e0;let h0:=g0∧(∀k0:Nat,k0<e0→True∧W.kinds k0=W.kinds k0);let l0:=W.nSlots;let o0:=l0=l0;let q0:=o0∧(∀u0:Nat,let v0:=W.slots u0;let w0:=v0.kind;let x0:=v0.base;let y0:=v0.len;let z0:=v0.mark;let a1:=v0.rights;let b1:=v0.badge;let c1:=v0.from_;u0<l0→((((((True∧w0=w0)∧x0=x0)∧y0=y0)∧z0=z0)∧a1=a1)∧b1=b1)∧c1=c1);let d1:=W.nTasks;let e1:=d1=d1;let g1:=e1∧(∀h1:Nat,let k1:=W.tasks h1;let l1:=k1.prio;let o1:=k1.node;let q1:=k1.space;let u1:=k1.helper;let v1:=k1.loc;let w1:=k1.word;let x1:=k1.badge;let y1:=k1.owes;let z1:=k1.core;let a2:=k1.dom;h1<d1→(((((((((((((((((((True∧k1.r0=k1.r0)∧k1.r1=k1.r1)∧k1.r2=k1.r2)∧k1.r3=k1.r3)∧k1.r4=k1.r4)∧k1.r5=k1.r5)∧k1.r6=k1.r6)∧k1.r7=k1.r7)∧k1.pc=k1.pc)∧k1.st=k1.st)∧l1=l1)∧o1=o1)∧q1=q1)∧u1=u1)∧v1=v1)∧w1=w1)∧x1=x1)∧y1=y1)∧z1=z1)∧a2=a2);let b2:=W.nLines;let c2:=b2=b2;let d2:=c2∧(∀e2:Nat,let g2:=W.linesN e2;e2<b2→True∧g2=g2∧(∀h2:Nat,h2<g2→True∧W.lines e2 h2=W.lines e2 h2));let k2:=W.nBits;let l2:=k2=k2;let o2:=l2∧(∀q2:Nat,q2<k2→True∧W.bits q2=W.bits q2);let u2:=W.nCores;let v2:=u2=u2;let w2:=v2∧(∀x2:Nat,x2<u2→True∧W.cores x2=W.cores x2);let y2:=W.nReady;let z2:=y2=y2;let a3:=z2∧(∀b3:Nat,let c3:=W.readyN b3;b3<y2→True∧c3=c3∧(∀d3:Nat,d3<c3→True∧W.ready b3 d3=W.ready b3 d3));let e3:=W.nTlbs;let g3:=e3=e3;
    let h3:=g3∧(∀k3:Nat,let l3:=W.tlbsN k3;k3<e3→True∧l3=l3∧(∀o3:Nat,let q3:=W.tlbs k3 o3;let u3:=q3.sp;let v3:=q3.pg;let w3:=q3.fr;let x3:=q3.wr;o3<l3→(((True∧u3=u3)∧v3=v3)∧w3=w3)∧x3=x3));let y3:=W.nDoms;let z3:=y3=y3;let a4:=z3∧(∀b4:Nat,b4<y3→True∧W.doms b4=W.doms b4);let c4:=W.time;let d4:=c4=c4;let e4:=True∧True;let g4:=0=0;let h4:=tkE W t d;let k4:=h4 !=0;let l4:=h4=h4;let o4:=((-1):Int)=(-1);let q4:=l4∧o4;let u4:=h4==h4&&((-1):Int)==(-1);let v4:=gdW h4 (tkX W t d);let w4:=v4.nRam;let x4:=v4.nKinds;let y4:=v4.nSlots;let z4:=v4.nTasks;let a5:=v4.nLines;let b5:=v4.nBits;let c5:=v4.nCores;let d5:=v4.nReady;let e5:=v4.nTlbs;let g5:=v4.nDoms;let h5:=v4.time;
    let k5:=((((((((((True∧w4=w4∧(∀l5:Nat,l5<w4→True∧v4.ram l5=v4.ram l5))∧x4=x4∧(∀o5:Nat,o5<x4→True∧v4.kinds o5=v4.kinds o5))∧y4=y4∧(∀q5:Nat,let u5:=v4.slots q5;let v5:=u5.kind;let w5:=u5.base;let x5:=u5.len;let y5:=u5.mark;let z5:=u5.rights;let a6:=u5.badge;let b6:=u5.from_;q5<y4→((((((True∧v5=v5)∧w5=w5)∧x5=x5)∧y5=y5)∧z5=z5)∧a6=a6)∧b6=b6))∧z4=z4∧(∀c6:Nat,let d6:=v4.tasks c6;let e6:=d6.prio;let g6:=d6.node;let h6:=d6.space;let k6:=d6.helper;let l6:=d6.loc;let o6:=d6.word;let q6:=d6.badge;let u6:=d6.owes;let v6:=d6.core;let w6:=d6.dom;c6<z4→(((((((((((((((((((True∧d6.r0=d6.r0)∧d6.r1=d6.r1)∧d6.r2=d6.r2)∧d6.r3=d6.r3)∧d6.r4=d6.r4)∧d6.r5=d6.r5)∧d6.r6=d6.r6)∧d6.r7=d6.r7)∧d6.pc=d6.pc)∧d6.st=d6.st)∧e6=e6)∧g6=g6)∧h6=h6)∧k6=k6)∧l6=l6)∧o6=o6)∧q6=q6)∧u6=u6)∧v6=v6)∧w6=w6))∧a5=a5∧(∀x6:Nat,let y6:=v4.linesN x6;x6<a5→True∧y6=y6∧(∀z6:Nat,z6<y6→True∧v4.lines x6 z6=v4.lines x6 z6)))∧b5=b5∧(∀a7:Nat,a7<b5→True∧v4.bits a7=v4.bits a7))∧c5=c5∧(∀b7:Nat,b7<c5→True∧v4.cores b7=v4.cores b7))∧d5=d5∧(∀c7:Nat,let d7:=v4.readyN c7;c7<d5→True∧d7=d7∧(∀e7:Nat,e7<d7→True∧v4.ready c7 e7=v4.ready c7 e7)))∧e5=e5∧(∀g7:Nat,let h7:=v4.tlbsN g7;g7<e5→True∧h7=h7∧(∀k7:Nat,let l7:=v4.tlbs g7 k7;let o7:=l7.sp;let q7:=l7.pg;let u7:=l7.fr;let v7:=l7.wr;k7<h7→(((True∧o7=o7)∧q7=q7)∧u7=u7)∧v7=v7)))∧g5=g5∧(∀w7:Nat,w7<g5→True∧v4.doms w7=v4.doms w7))∧h5=h5;let x7:=(k5∧True)∧True∧w4=0∧x4=0∧y4=0∧z4=0∧a5=0∧b5=0∧c5=0∧d5=0∧e5=0∧g5=0∧h5=0;let y7:=h4==0;let z7:=y7=true;
    let a8:=((True∧b0∧(∀b8:Nat,b8<a0→True∧W.ram (0+b8)=W.ram (0+b8)))∧g0∧(∀c8:Nat,let d8:=W.kinds (0+c8);c8<e0→True∧d8=d8))∧o0∧(∀e8:Nat,let g8:=W.slots (0+e8);let h8:=g8.kind;let k8:=g8.base;let l8:=g8.len;let o8:=g8.mark;let q8:=g8.rights;let r8:=g8.badge;let u8:=g8.from_;e8<l0→((((((True∧h8=h8)∧k8=k8)∧l8=l8)∧o8=o8)∧q8=q8)∧r8=r8)∧u8=u8);let v8:=l2∧(∀w8:Nat,w8<k2→True∧W.bits (0+w8)=W.bits (0+w8));let x8:=g3∧(∀y8:Nat,let z8:=0+y8;let a9:=W.tlbsN z8;y8<e3→True∧a9=a9∧(∀b9:Nat,let c9:=W.tlbs z8 (0+b9);let d9:=c9.sp;let e9:=c9.pg;let g9:=c9.fr;let h9:=c9.wr;b9<a9→(((True∧d9=d9)∧e9=e9)∧g9=g9)∧h9=h9));let k9:=z3∧(∀l9:Nat,l9<y3→True∧W.doms (0+l9)=W.doms (0+l9));let o9:=y7&&((-1):Int)==(-1);tn 2 ((((((((((((((True∧c0)∧h0)∧q0)∧g1)∧d2)∧o2)∧w2)∧a3)∧h3)∧a4)∧d4)∧True)∧True∧s_copyW.match_1 (fun q9:X_copyW=>Prop) (X_copyW.mk W) (fun r9:Wd=>Lg r9))∧True∧tn 9 e4∧(((0:Int)==0)=true→((SV.ptr 0 0 none 0 0=SV.ptr 0 0 none 0 0∧(True∧t=t)∧(True∧d=d)∧True)∧((((((((((((True∧g4∧b0)∧g4∧g0)∧g4∧o0)∧g4∧e1)∧g4∧c2)∧g4∧l2)∧g4∧v2)∧g4∧z2)∧g4∧g3)∧g4∧z3)∧d4)∧c0∧h0∧q0∧g1∧d2∧o2∧w2∧a3∧h3∧a4∧True)∧Sm W∧Snd W)∧(k4=true→((l4∧True)∧e4)∧((q4∧((True∧l4)∧o4)∧True)∧e4)∧(u4=true→x7)∧cond u4 true false=true∧True)∧(k4=false→(z7→(k5∧((((((((a8∧e1∧(∀u9:Nat,let v9:=tkX_tasks W t d (0+u9);let w9:=v9.r0;let x9:=v9.r1;let y9:=v9.r2;let z9:=v9.r3;let a10:=v9.r4;let b10:=v9.r5;let c10:=v9.r6;let d10:=v9.r7;let e10:=v9.pc;let g10:=v9.st;let h10:=v9.prio;let k10:=v9.node;let l10:=v9.space;let o10:=v9.helper;let q10:=v9.loc;
    let r10:=v9.word;let u10:=v9.badge;let v10:=v9.owes;let w10:=v9.core;let x10:=v9.dom;u9<d1→(((((((((((((((((((True∧w9=w9)∧x9=x9)∧y9=y9)∧z9=z9)∧a10=a10)∧b10=b10)∧c10=c10)∧d10=d10)∧e10=e10)∧g10=g10)∧h10=h10)∧k10=k10)∧l10=l10)∧o10=o10)∧q10=q10)∧r10=r10)∧u10=u10)∧v10=v10)∧w10=w10)∧x10=x10))∧c2∧(∀y10:Nat,let z10:=tkX_linesN W t d (0+y10);y10<b2→True∧z10=z10∧(∀a11:Nat,let b11:=tkX_lines W t d (0+y10) (0+a11);a11<z10→True∧b11=b11)))∧v8)∧v2∧(∀c11:Nat,let d11:=tkX_cores W t d (0+c11);c11<u2→True∧d11=d11))∧z2∧(∀e11:Nat,let g11:=tkX_readyN W t d (0+e11);e11<y2→True∧g11=g11∧(∀h11:Nat,let k11:=tkX_ready W t d (0+e11) (0+h11);h11<g11→True∧k11=k11)))∧x8)∧k9)∧d4)∧True)∧e4)∧cond y7 (sameW v4 (Wd.mk a0 (fun l11:Nat=>W.ram (0+l11)) e0 (fun o11:Nat=>W.kinds (0+o11)) l0 (fun q11:Nat=>W.slots (0+q11)) d1 (fun r11:Nat=>tkX_tasks W t d (0+r11)) b2 (fun u11:Nat=>tkX_linesN W t d (0+u11)) (fun v11:Nat=>fun w11:Nat=>tkX_lines W t d (0+v11) (0+w11)) k2 (fun x11:Nat=>W.bits (0+x11)) u2 (fun y11:Nat=>tkX_cores W t d (0+y11)) y2 (fun z11:Nat=>tkX_readyN W t d (0+z11)) (fun a12:Nat=>fun b12:Nat=>tkX_ready W t d (0+a12) (0+b12)) e3 (fun c12:Nat=>W.tlbsN (0+c12)) (fun d12:Nat=>fun e12:Nat=>W.tlbs (0+d12) (0+e12)) y3 (fun g12:Nat=>W.doms (0+g12)) c4)) false=true∧True))∧(((0:Int)==0)=false→(((0:Int) !=0)=true→(((0:Int)=0∧True)∧e4)∧((q4∧((True∧(0:Int)=0)∧o4)∧True)∧e4)∧(o9=true→x7)∧cond o9 true false=true∧True)∧(((0:Int) !=0)=false→(z7→(k5∧((((((((a8∧e1∧(∀h12:Nat,let k12:=W.tasks (0+h12);let l12:=k12.r0;
    let o12:=k12.r1;let q12:=k12.r2;let r12:=k12.r3;let u12:=k12.r4;let v12:=k12.r5;let w12:=k12.r6;let x12:=k12.r7;let y12:=k12.pc;let z12:=k12.st;let a13:=k12.prio;let b13:=k12.node;let c13:=k12.space;let d13:=k12.helper;let e13:=k12.loc;let g13:=k12.word;let h13:=k12.badge;let k13:=k12.owes;let l13:=k12.core;let o13:=k12.dom;h12<d1→(((((((((((((((((((True∧l12=l12)∧o12=o12)∧q12=q12)∧r12=r12)∧u12=u12)∧v12=v12)∧w12=w12)∧x12=x12)∧y12=y12)∧z12=z12)∧a13=a13)∧b13=b13)∧c13=c13)∧d13=d13)∧e13=e13)∧g13=g13)∧h13=h13)∧k13=k13)∧l13=l13)∧o13=o13))∧c2∧(∀q13:Nat,let r13:=W.linesN (0+q13);q13<b2→True∧r13=r13∧(∀u13:Nat,let v13:=W.lines (0+q13) (0+u13);u13<r13→True∧v13=v13)))∧v8)∧v2∧(∀w13:Nat,let x13:=W.cores (0+w13);w13<u2→True∧x13=x13))∧z2∧(∀y13:Nat,let z13:=W.readyN (0+y13);y13<y2→True∧z13=z13∧(∀a14:Nat,let b14:=W.ready (0+y13) (0+a14);a14<z13→True∧b14=b14)))∧x8)∧k9)∧d4)∧True)∧e4)∧cond y7 (sameW v4 (Wd.mk a0 (fun c14:Nat=>W.ram (0+c14)) e0 (fun d14:Nat=>W.kinds (0+d14)) l0 (fun e14:Nat=>W.slots (0+e14)) d1 (fun g14:Nat=>W.tasks (0+g14)) b2 (fun h14:Nat=>W.linesN (0+h14)) (fun k14:Nat=>fun l14:Nat=>W.lines (0+k14) (0+l14)) k2 (fun o14:Nat=>W.bits (0+o14)) u2 (fun q14:Nat=>W.cores (0+q14)) y2 (fun r14:Nat=>W.readyN (0+r14)) (fun u14:Nat=>fun v14:Nat=>W.ready (0+u14) (0+v14)) e3 (fun w14:Nat=>W.tlbsN (0+w14)) (fun x14:Nat=>fun y14:Nat=>W.tlbs (0+x14) (0+y14)) y3 (fun z14:Nat=>W.doms (0+z14)) c4)) false=true∧True)))
set_option maxHeartbeats 2000000 in
theorem ok_tknL : FnOK Tryz.prog glE 15 c_tknL := ok_of (.cons ok_is (.cons (ok_err.up glN_glE) (.cons (ok_copyW.up glN_glE) (.cons ok_nothing (.cons (ok_sameWorld.up glN_glE) (.cons ok_tknR .nil)))))) false Tryz.call15 Tryz.func15 (fun _ => []) (V := V_tknL) (fun _ => by kernel_rfl) fun ⟨W, t, d⟩ hp => by
  dsimp only [s_tknL] at hp
  dsimp only [V_tknL, tn, w64]
  simp only [std, stb, eq_self, implies_true, Bool.cond_self]
  obtain ⟨hs, hw⟩ := hp
  refine ⟨lg_sm hs, fun _ => ⟨⟨hs, hw⟩, fun h2 => ?_, fun h2 => ?_⟩, fun h => absurd h (by decide)⟩
  · simp only [fun X => gdW_no X (ne0 h2)]
    repeat' (first | exact trivial | rfl | refine And.intro ?_ ?_ | intro _ | exact absurd ‹_› (Nat.not_lt_zero _) | fail)
    simp
  · simp only [fun X => gdW_yes X (eq0 h2)]
    simp only [eq0 h2, Bool.true_and]
    exact sameW_refl _
structure X_anwC where
  (t w : Int) (W : Wd)
def s_anwC : Sy.Spec := ⟨X_anwC, fun ⟨t, w, _⟩ => [.ptr 0 0 none 0 0, .pt true 1 (fun _ => .v (.int .i64 t)), .pt true 1 (fun _ => .v (.int .i64 w))], fun ⟨_, _, W⟩ => wMem W, fun ⟨_, _, W⟩ => Sm W ∧ Snd W, fun ⟨t, w, W⟩ => .er 35 116 (anE W t w) (-1), fun ⟨t, w, W⟩ => wMem (anX W t w),
  fun args mem => match args with | [a0, a1, a2] => some ⟨intD (ptF a1 0), intD (ptF a2 0), wMJD mem 0⟩ | _ => none⟩
def c_anwC : Con := ⟨[true], s_anwC.g, none⟩
def V_anwC : X_anwC → Prop := fun ⟨t, w, W⟩ => let a0:=W.nRam;let b0:=a0=a0;let c0:=W.nKinds;let d0:=c0=c0;let e0:=W.nSlots;let g0:=e0=e0;let h0:=W.nTasks;let k0:=h0=h0;let l0:=W.nLines;let o0:=l0=l0;let q0:=W.nBits;let u0:=q0=q0;let v0:=W.nCores;let w0:=v0=v0;let x0:=W.nReady;let y0:=x0=x0;let z0:=W.nTlbs;let a1:=z0=z0;let b1:=W.nDoms;let c1:=b1=b1;let d1:=W.time=W.time;let e1:=Wd.mk a0 (fun g1:Nat=>W.ram (0+g1)) c0 (fun h1:Nat=>W.kinds (0+h1)) e0 (fun k1:Nat=>W.slots (0+k1)) h0 (fun l1:Nat=>W.tasks (0+l1)) l0 (fun o1:Nat=>W.linesN (0+o1)) (fun q1:Nat=>fun u1:Nat=>W.lines (0+q1) (0+u1)) q0 (fun v1:Nat=>W.bits (0+v1)) v0 (fun w1:Nat=>W.cores (0+w1)) x0 (fun x1:Nat=>W.readyN (0+x1)) (fun y1:Nat=>fun z1:Nat=>W.ready (0+y1) (0+z1)) z0 (fun a2:Nat=>W.tlbsN (0+a2)) (fun b2:Nat=>fun c2:Nat=>W.tlbs (0+b2) (0+c2)) b1 (fun d2:Nat=>W.doms (0+d2)) W.time;let e2:=actE e1 t t 6;let g2:=e2 !=0;let h2:=anE W t w;let k2:=((-1):Int)=(-1);let l2:=0=0;let o2:=((((((((((True∧l2∧b0)∧l2∧d0)∧l2∧g0)∧l2∧k0)∧l2∧o0)∧l2∧u0)∧l2∧w0)∧l2∧y0)∧l2∧a1)∧l2∧c1)∧d1;let q2:=b0∧(∀u2:Nat,u2<a0→True∧W.ram u2=W.ram u2);let v2:=d0∧(∀w2:Nat,w2<c0→True∧W.kinds w2=W.kinds w2);let x2:=g0∧(∀y2:Nat,let z2:=W.slots y2;let a3:=z2.kind;let b3:=z2.base;let c3:=z2.len;let d3:=z2.mark;let e3:=z2.rights;let g3:=z2.badge;let h3:=z2.from_;y2<e0→((((((True∧a3=a3)∧b3=b3)∧c3=c3)∧d3=d3)∧e3=e3)∧g3=g3)∧h3=h3);let k3:=o0∧(∀l3:Nat,let o3:=W.linesN l3;l3<l0→True∧o3=o3∧(∀q3:Nat,q3<o3→True∧W.lines l3 q3=W.lines l3 q3));let u3:=u0∧(∀v3:Nat,v3<q0→True∧W.bits v3=W.bits v3);
    let w3:=w0∧(∀x3:Nat,x3<v0→True∧W.cores x3=W.cores x3);let y3:=(a1∧(∀z3:Nat,let a4:=W.tlbsN z3;z3<z0→True∧a4=a4∧(∀b4:Nat,let c4:=W.tlbs z3 b4;let d4:=c4.sp;let e4:=c4.pg;let g4:=c4.fr;let h4:=c4.wr;b4<a4→(((True∧d4=d4)∧e4=e4)∧g4=g4)∧h4=h4)))∧(c1∧(∀k4:Nat,k4<b1→True∧W.doms k4=W.doms k4))∧True;let l4:=o2∧q2∧v2∧x2∧(k0∧(∀o4:Nat,let q4:=W.tasks o4;let u4:=anX_tasks W t w o4;o4<h0→(((((((((((((((((((True∧q4.r0=u4.r0)∧q4.r1=u4.r1)∧q4.r2=u4.r2)∧q4.r3=u4.r3)∧q4.r4=u4.r4)∧q4.r5=u4.r5)∧q4.r6=u4.r6)∧q4.r7=u4.r7)∧q4.pc=u4.pc)∧q4.st=u4.st)∧q4.prio=u4.prio)∧q4.node=u4.node)∧q4.space=u4.space)∧q4.helper=u4.helper)∧q4.loc=u4.loc)∧q4.word=u4.word)∧q4.badge=u4.badge)∧q4.owes=u4.owes)∧q4.core=u4.core)∧q4.dom=u4.dom))∧k3∧u3∧w3∧(y0∧(∀v4:Nat,let w4:=anX_readyN W t w v4;v4<x0→True∧W.readyN v4=w4∧(∀x4:Nat,x4<w4→True∧W.ready v4 x4=anX_ready W t w v4 x4)))∧y3;let y4:=[w];let z4:Int:=cond (allB 1 (fun a5:Nat=>!farB (List.getD y4 (0+a5) 0) 65535)) 0 1;let b5:=z4 !=0;let c5:=(W.tasks (Int.toNat t)).owes;(((((((((((((True∧b0∧(∀d5:Nat,d5<a0→True∧W.ram (0+d5)=W.ram (0+d5)))∧d0∧(∀e5:Nat,let g5:=W.kinds (0+e5);e5<c0→True∧g5=g5))∧g0∧(∀h5:Nat,let k5:=W.slots (0+h5);let l5:=k5.kind;let o5:=k5.base;let q5:=k5.len;let u5:=k5.mark;let v5:=k5.rights;let w5:=k5.badge;let x5:=k5.from_;h5<e0→((((((True∧l5=l5)∧o5=o5)∧q5=q5)∧u5=u5)∧v5=v5)∧w5=w5)∧x5=x5))∧k0∧(∀y5:Nat,let z5:=W.tasks (0+y5);let a6:=z5.r0;let b6:=z5.r1;let c6:=z5.r2;let d6:=z5.r3;let e6:=z5.r4;let g6:=z5.r5;let h6:=z5.r6;let k6:=z5.r7;let l6:=z5.pc;
    let o6:=z5.st;let q6:=z5.prio;let u6:=z5.node;let v6:=z5.space;let w6:=z5.helper;let x6:=z5.loc;let y6:=z5.word;let z6:=z5.badge;let a7:=z5.owes;let b7:=z5.core;let c7:=z5.dom;y5<h0→(((((((((((((((((((True∧a6=a6)∧b6=b6)∧c6=c6)∧d6=d6)∧e6=e6)∧g6=g6)∧h6=h6)∧k6=k6)∧l6=l6)∧o6=o6)∧q6=q6)∧u6=u6)∧v6=v6)∧w6=w6)∧x6=x6)∧y6=y6)∧z6=z6)∧a7=a7)∧b7=b7)∧c7=c7))∧o0∧(∀d7:Nat,let e7:=W.linesN (0+d7);d7<l0→True∧e7=e7∧(∀g7:Nat,let h7:=W.lines (0+d7) (0+g7);g7<e7→True∧h7=h7)))∧u0∧(∀k7:Nat,k7<q0→True∧W.bits (0+k7)=W.bits (0+k7)))∧w0∧(∀l7:Nat,let o7:=W.cores (0+l7);l7<v0→True∧o7=o7))∧y0∧(∀q7:Nat,let u7:=W.readyN (0+q7);q7<x0→True∧u7=u7∧(∀v7:Nat,let w7:=W.ready (0+q7) (0+v7);v7<u7→True∧w7=w7)))∧a1∧(∀x7:Nat,let y7:=0+x7;let z7:=W.tlbsN y7;x7<z0→True∧z7=z7∧(∀a8:Nat,let b8:=W.tlbs y7 (0+a8);let c8:=b8.sp;let d8:=b8.pg;let e8:=b8.fr;let g8:=b8.wr;a8<z7→(((True∧c8=c8)∧d8=d8)∧e8=e8)∧g8=g8)))∧c1∧(∀h8:Nat,h8<b1→True∧W.doms (0+h8)=W.doms (0+h8)))∧d1)∧t=t∧t=t∧(6:Int)=6∧True)∧True∧s_actP.match_1 (fun k8:X_actP=>Prop) (X_actP.mk e1 t t 6) (fun l8:Wd=>fun o8:Int=>fun q8:Int=>fun r8:Int=>AcP l8))∧(g2=true→(e2=h2∧k2)∧l4)∧(g2=false→True∧(((1=1∧(∀u8:Nat,let v8:=List.getD y4 (0+u8) 0;u8<1→True∧v8=v8))∧True)∧True∧s_wordsP.match_1 (fun w8:X_wordsP=>Prop) (X_wordsP.mk 1 (fun x8:Nat=>List.getD y4 (0+x8) 0)) (fun y8:Nat=>fun z8:∀a9:Nat,Int=>y8≤1000))∧(b5=true→(z4=h2∧k2)∧l4)∧(b5=false→((SV.ptr 0 0 none 0 0=SV.ptr 0 0 none 0 0∧t=t∧w=w∧True)∧(o2∧q2∧v2∧x2∧(k0∧(∀b9:Nat,let c9:=W.tasks b9;let d9:=c9.prio;let e9:=c9.node;
    let g9:=c9.space;let h9:=c9.helper;let k9:=c9.loc;let l9:=c9.word;let o9:=c9.badge;let q9:=c9.owes;let r9:=c9.core;let u9:=c9.dom;b9<h0→(((((((((((((((((((True∧c9.r0=c9.r0)∧c9.r1=c9.r1)∧c9.r2=c9.r2)∧c9.r3=c9.r3)∧c9.r4=c9.r4)∧c9.r5=c9.r5)∧c9.r6=c9.r6)∧c9.r7=c9.r7)∧c9.pc=c9.pc)∧c9.st=c9.st)∧d9=d9)∧e9=e9)∧g9=g9)∧h9=h9)∧k9=k9)∧l9=l9)∧o9=o9)∧q9=q9)∧r9=r9)∧u9=u9))∧k3∧u3∧w3∧(y0∧(∀v9:Nat,let w9:=W.readyN v9;v9<x0→True∧w9=w9∧(∀x9:Nat,x9<w9→True∧W.ready v9 x9=W.ready v9 x9)))∧y3)∧0≤t∧t<(h0:Int)∧(-1)≤c5∧(c5≠(-1)→WkP W c5))∧(ansE W t=h2∧k2)∧o2∧q2∧v2∧x2∧(k0∧(∀y9:Nat,let z9:=ansW_tasks W t w y9;let a10:=anX_tasks W t w y9;y9<h0→(((((((((((((((((((True∧z9.r0=a10.r0)∧z9.r1=a10.r1)∧z9.r2=a10.r2)∧z9.r3=a10.r3)∧z9.r4=a10.r4)∧z9.r5=a10.r5)∧z9.r6=a10.r6)∧z9.r7=a10.r7)∧z9.pc=a10.pc)∧z9.st=a10.st)∧z9.prio=a10.prio)∧z9.node=a10.node)∧z9.space=a10.space)∧z9.helper=a10.helper)∧z9.loc=a10.loc)∧z9.word=a10.word)∧z9.badge=a10.badge)∧z9.owes=a10.owes)∧z9.core=a10.core)∧z9.dom=a10.dom))∧k3∧u3∧w3∧(y0∧(∀b10:Nat,let c10:=anX_readyN W t w b10;b10<x0→True∧ansW_readyN W t w b10=c10∧(∀d10:Nat,d10<c10→True∧ansW_ready W t w b10 d10=anX_ready W t w b10 d10)))∧y3))
set_option maxHeartbeats 2000000 in
theorem ok_anwC : FnOK Tryz.prog glE 112 c_anwC := ok_of (.cons (ok_actP.up glN_glE) (.cons (ok_wordsP.up glN_glE) (.cons (ok_ansP.up glN_glE) .nil))) false Tryz.call112 Tryz.func112 (fun _ => []) (V := V_anwC) (fun _ => by kernel_rfl) fun ⟨t, w, W⟩ hp => by
  dsimp only [s_anwC] at hp
  dsimp only [V_anwC, tn, w64]
  simp only [std, stb, eq_self, implies_true, Bool.cond_self]
  try simp only [wd_eta]
  obtain ⟨hs, hw⟩ := hp
  refine ⟨ac_of hw hs, fun h => ?_, fun h => ⟨by decide, ?_⟩⟩
  · skip
    have h0 : (actE W t t 6 == 0) = false := by simpa using h
    have hc : (anE0 W t w == 0) = false := by unfold anE0; rw [h0]; exact h0
    refine ⟨by unfold anE; rw [h0]; rfl, ?_⟩
    have e_ := anX_f hc
    have e_tasks : anX_tasks W t w = _ := congrArg Wd.tasks e_
    have e_readyN : anX_readyN W t w = _ := congrArg Wd.readyN e_
    have e_ready : anX_ready W t w = _ := congrArg Wd.ready e_
    simp only [e_tasks, e_readyN, e_ready]
    clear e_ e_tasks e_readyN e_ready
    repeat' (first | exact trivial | exact run20 rfl | rfl | refine And.intro ?_ ?_ | intro _ | fail)
  have h0 : (actE W t t 6 == 0) = true := by simpa using h
  have q : (bif allB 1 fun v3 => !farB ([w].getD v3 0) 65535 then (0 : Int) else 1) = bif farB w 65535 then 1 else 0 := by
    rw [all1]
    show (bif !farB w 65535 then (0 : Int) else 1) = _
    cases farB w 65535 <;> rfl
  rw [q]
  cases hf : farB w 65535 with
  | true =>
    refine ⟨fun _ => ?_, fun hh => absurd hh (by decide)⟩
    have hc : (anE0 W t w == 0) = false := by unfold anE0; rw [h0, hf]; rfl
    refine ⟨by unfold anE; rw [h0, hf]; rfl, ?_⟩
    have e_ := anX_f hc
    have e_tasks : anX_tasks W t w = _ := congrArg Wd.tasks e_
    have e_readyN : anX_readyN W t w = _ := congrArg Wd.readyN e_
    have e_ready : anX_ready W t w = _ := congrArg Wd.ready e_
    simp only [e_tasks, e_readyN, e_ready]
    clear e_ e_tasks e_readyN e_ready
    repeat' (first | exact trivial | exact run20 rfl | rfl | refine And.intro ?_ ?_ | intro _ | fail)
  | false =>
    refine ⟨fun hh => absurd hh (by decide), fun _ => ?_⟩
    have hc : (anE0 W t w == 0) = true := by unfold anE0; rw [h0, hf]; rfl
    obtain ⟨t0, t1, a0, a1, k1, k2⟩ := act_0 (eq_of_beq h0)
    have z3 := hw.z.tasks
    have ho := ((inv_of hw hs).tk t.toNat (by omega)).owes
    refine ⟨⟨t0, by omega, ho.1, fun hn => wk_of hw hs (by omega) (by omega)⟩, by unfold anE; rw [h0, hf]; rfl, ?_⟩
    have e_ := anX_t hc
    have e_tasks : anX_tasks W t w = _ := congrArg Wd.tasks e_
    have e_readyN : anX_readyN W t w = _ := congrArg Wd.readyN e_
    have e_ready : anX_ready W t w = _ := congrArg Wd.ready e_
    simp only [e_tasks, e_readyN, e_ready]
    clear e_ e_tasks e_readyN e_ready
    repeat' (first | exact trivial | exact run20 rfl | rfl | refine And.intro ?_ ?_ | intro _ | fail)
structure X_anwD where
  (W : Wd) (t w : Int)
def s_anwD : Sy.Spec := ⟨X_anwD, fun ⟨W, t, w⟩ => [wSV W, .fn 112 2 (lsv [.pt true 1 (fun _ => .v (.int .i64 t)), .pt true 1 (fun _ => .v (.int .i64 w))])], fun _ => [], fun ⟨W, _, _⟩ => Sm W ∧ Snd W, fun ⟨W, t, w⟩ => .tp 2 (lsv [wRd (gdW (anE W t w) (anX W t w)), .er 35 116 (anE W t w) (-1)]), fun _ => [],
  fun args mem => match args with | [a0, a1] => (match isFn 112 a1 with | true => some ⟨wSVD a0, intD (ptF (fnF a1 0) 0), intD (ptF (fnF a1 1) 0)⟩ | false => none) | _ => none⟩
def c_anwD : Con := ⟨[], s_anwD.g, none⟩
def V_anwD : X_anwD → Prop := fun ⟨W, t, w⟩ => let a0:=W.nRam;let b0:=a0=a0;let c0:=b0∧(∀d0:Nat,d0<a0→True∧W.ram d0=W.ram d0);let e0:=W.nKinds;let g0:=e0=e0;let h0:=g0∧(∀k0:Nat,k0<e0→True∧W.kinds k0=W.kinds k0);let l0:=W.nSlots;let o0:=l0=l0;let q0:=o0∧(∀u0:Nat,let v0:=W.slots u0;let w0:=v0.kind;let x0:=v0.base;let y0:=v0.len;let z0:=v0.mark;let a1:=v0.rights;let b1:=v0.badge;let c1:=v0.from_;u0<l0→((((((True∧w0=w0)∧x0=x0)∧y0=y0)∧z0=z0)∧a1=a1)∧b1=b1)∧c1=c1);let d1:=W.nTasks;let e1:=d1=d1;let g1:=e1∧(∀h1:Nat,let k1:=W.tasks h1;let l1:=k1.prio;let o1:=k1.node;let q1:=k1.space;let u1:=k1.helper;let v1:=k1.loc;let w1:=k1.word;let x1:=k1.badge;let y1:=k1.owes;let z1:=k1.core;let a2:=k1.dom;h1<d1→(((((((((((((((((((True∧k1.r0=k1.r0)∧k1.r1=k1.r1)∧k1.r2=k1.r2)∧k1.r3=k1.r3)∧k1.r4=k1.r4)∧k1.r5=k1.r5)∧k1.r6=k1.r6)∧k1.r7=k1.r7)∧k1.pc=k1.pc)∧k1.st=k1.st)∧l1=l1)∧o1=o1)∧q1=q1)∧u1=u1)∧v1=v1)∧w1=w1)∧x1=x1)∧y1=y1)∧z1=z1)∧a2=a2);let b2:=W.nLines;let c2:=b2=b2;let d2:=c2∧(∀e2:Nat,let g2:=W.linesN e2;e2<b2→True∧g2=g2∧(∀h2:Nat,h2<g2→True∧W.lines e2 h2=W.lines e2 h2));let k2:=W.nBits;let l2:=k2=k2;let o2:=l2∧(∀q2:Nat,q2<k2→True∧W.bits q2=W.bits q2);let u2:=W.nCores;let v2:=u2=u2;let w2:=v2∧(∀x2:Nat,x2<u2→True∧W.cores x2=W.cores x2);let y2:=W.nReady;let z2:=y2=y2;let a3:=z2∧(∀b3:Nat,let c3:=W.readyN b3;b3<y2→True∧c3=c3∧(∀d3:Nat,d3<c3→True∧W.ready b3 d3=W.ready b3 d3));let e3:=W.nTlbs;let g3:=e3=e3;
    let h3:=g3∧(∀k3:Nat,let l3:=W.tlbsN k3;k3<e3→True∧l3=l3∧(∀o3:Nat,let q3:=W.tlbs k3 o3;let u3:=q3.sp;let v3:=q3.pg;let w3:=q3.fr;let x3:=q3.wr;o3<l3→(((True∧u3=u3)∧v3=v3)∧w3=w3)∧x3=x3));let y3:=W.nDoms;let z3:=y3=y3;let a4:=z3∧(∀b4:Nat,b4<y3→True∧W.doms b4=W.doms b4);let c4:=W.time=W.time;let d4:=(((((((((((True∧c0)∧h0)∧q0)∧g1)∧d2)∧o2)∧w2)∧a3)∧h3)∧a4)∧c4)∧True;let e4:=tn 10 True;let g4:=anE W t w;let h4:=gdW g4 (anX W t w);let k4:=h4.nRam;let l4:=h4.nKinds;let o4:=h4.nSlots;let q4:=h4.nTasks;let u4:=h4.nLines;let v4:=h4.nBits;let w4:=h4.nCores;let x4:=h4.nReady;let y4:=h4.nTlbs;let z4:=h4.nDoms;let a5:=h4.time;let b5:=True∧((((((((((True∧k4=0)∧l4=0)∧o4=0)∧q4=0)∧u4=0)∧v4=0)∧w4=0)∧x4=0)∧y4=0)∧z4=0)∧0=a5;let c5:=((-1):Int)=(-1);let d5:=0=0;let e5:=g4 !=0;tn 2 ((d4∧True∧s_wCheck.match_1 (fun g5:X_wCheck=>Prop) (X_wCheck.mk W) (fun h5:Wd=>Sm h5))∧((wE W !=0)=true→e4∧(b5∧(8:Int)≠0∧g4=8∧c5)∧True)∧((wE W !=0)=false→(d4∧True∧s_cloneW.match_1 (fun k5:X_cloneW=>Prop) (X_cloneW.mk W) (fun l5:Wd=>Lg l5))∧e4∧((SV.ptr 0 0 none 0 0=SV.ptr 0 0 none 0 0∧(True∧t=t)∧(True∧w=w)∧True)∧((((((((((((True∧d5∧b0)∧d5∧g0)∧d5∧o0)∧d5∧e1)∧d5∧c2)∧d5∧l2)∧d5∧v2)∧d5∧z2)∧d5∧g3)∧d5∧z3)∧c4)∧c0∧h0∧q0∧g1∧d2∧o2∧w2∧a3∧h3∧a4∧True)∧Sm W∧Snd W)∧(e5=true→e4∧(b5∧g4=g4∧c5)∧True)∧(e5=false→e4∧((True∧((((((((((True∧a0=k4∧(∀o5:Nat,o5<k4→True∧W.ram (0+o5)=h4.ram o5))∧e0=l4∧(∀q5:Nat,q5<l4→True∧W.kinds (0+q5)=h4.kinds q5))∧l0=o4∧(∀u5:Nat,let v5:=W.slots (0+u5);let w5:=h4.slots u5;u5<o4→((((((True∧v5.kind=w5.kind)∧
    v5.base=w5.base)∧v5.len=w5.len)∧v5.mark=w5.mark)∧v5.rights=w5.rights)∧v5.badge=w5.badge)∧v5.from_=w5.from_))∧d1=q4∧(∀x5:Nat,let y5:=anX_tasks W t w (0+x5);let z5:=h4.tasks x5;x5<q4→(((((((((((((((((((True∧y5.r0=z5.r0)∧y5.r1=z5.r1)∧y5.r2=z5.r2)∧y5.r3=z5.r3)∧y5.r4=z5.r4)∧y5.r5=z5.r5)∧y5.r6=z5.r6)∧y5.r7=z5.r7)∧y5.pc=z5.pc)∧y5.st=z5.st)∧y5.prio=z5.prio)∧y5.node=z5.node)∧y5.space=z5.space)∧y5.helper=z5.helper)∧y5.loc=z5.loc)∧y5.word=z5.word)∧y5.badge=z5.badge)∧y5.owes=z5.owes)∧y5.core=z5.core)∧y5.dom=z5.dom))∧b2=u4∧(∀a6:Nat,a6<u4→True∧W.linesN (0+a6)=h4.linesN a6∧(∀b6:Nat,b6<h4.linesN a6→True∧W.lines (0+a6) (0+b6)=h4.lines a6 b6)))∧k2=v4∧(∀c6:Nat,c6<v4→True∧W.bits (0+c6)=h4.bits c6))∧u2=w4∧(∀d6:Nat,d6<w4→True∧W.cores (0+d6)=h4.cores d6))∧y2=x4∧(∀e6:Nat,e6<x4→True∧anX_readyN W t w (0+e6)=h4.readyN e6∧(∀g6:Nat,g6<h4.readyN e6→True∧anX_ready W t w (0+e6) (0+g6)=h4.ready e6 g6)))∧e3=y4∧(∀h6:Nat,let k6:=0+h6;h6<y4→True∧W.tlbsN k6=h4.tlbsN h6∧(∀l6:Nat,let o6:=W.tlbs k6 (0+l6);let q6:=h4.tlbs h6 l6;l6<h4.tlbsN h6→(((True∧o6.sp=q6.sp)∧o6.pg=q6.pg)∧o6.fr=q6.fr)∧o6.wr=q6.wr)))∧y3=z4∧(∀u6:Nat,u6<z4→True∧W.doms (0+u6)=h4.doms u6))∧W.time=a5)∧g4=0∧c5)∧True)))
set_option maxHeartbeats 2000000 in
theorem ok_anwD : FnOK Tryz.prog glE 66 c_anwD := ok_of (.cons (ok_wCheck.up glN_glE) (.cons (ok_cloneW.up glN_glE) (.cons ok_anwC .nil))) false Tryz.call66 Tryz.func66 (fun _ => []) (V := V_anwD) (fun _ => by kernel_rfl) fun ⟨W, t, w⟩ hp => by
  dsimp only [s_anwD] at hp
  dsimp only [V_anwD, tn, w64]
  simp only [std, stb, eq_self, implies_true, Bool.cond_self]
  obtain ⟨hs, hw⟩ := hp
  have h0 := snd0 hw
  refine ⟨hs, fun h => absurd (by simpa using h0) (by simpa using h), fun _ => ⟨lg_sm hs, ⟨hs, hw⟩, fun h2 => ?_, fun h2 => ?_⟩⟩
  · simp only [fun X => gdW_no X (ne0 h2)]
    repeat' (first | exact trivial | rfl | refine And.intro ?_ ?_ | intro _ | exact absurd ‹_› (Nat.not_lt_zero _) | fail)
  · simp only [fun X => gdW_yes X (eq0 h2)]
    repeat' (first | exact trivial | rfl | refine And.intro ?_ ?_ | intro _ | exact absurd ‹_› (Nat.not_lt_zero _) | fail)
    exact eq_of_beq (eq0 h2)
structure X_anwX where
  (W : Wd) (t w : Int)
def s_anwX : Sy.Spec := ⟨X_anwX, fun ⟨W, t, w⟩ => [wSV W, .v (.int .i64 t), .v (.int .i64 w)], fun _ => [], fun ⟨W, _, _⟩ => Sm W ∧ Snd W, fun ⟨W, t, w⟩ => .tp 2 (lsv [wRd (gdW (anE W t w) (anX W t w)), .er 35 116 (anE W t w) (-1)]), fun _ => [],
  fun args mem => match args with | [a0, a1, a2] => some ⟨wSVD a0, intD (a1), intD (a2)⟩ | _ => none⟩
def c_anwX : Con := ⟨[], s_anwX.g, none⟩
def V_anwX : X_anwX → Prop := fun ⟨W, t, w⟩ => let a0:=W.nKinds;let b0:=W.nSlots;let c0:=W.nTasks;let d0:=W.nLines;let e0:=W.nCores;let g0:=W.nReady;let h0:=anE W t w;let k0:=gdW h0 (anX W t w);let l0:=k0.nRam;let o0:=k0.nKinds;let q0:=k0.nSlots;let u0:=k0.nTasks;let v0:=k0.nLines;let w0:=k0.nBits;let x0:=k0.nCores;let y0:=k0.nReady;let z0:=k0.nTlbs;let a1:=k0.nDoms;let b1:=k0.time;tn 4 ((((((((((((((True∧W.nRam=W.nRam∧(∀c1:Nat,c1<W.nRam→True∧W.ram c1=W.ram c1))∧a0=a0∧(∀d1:Nat,d1<a0→True∧W.kinds d1=W.kinds d1))∧b0=b0∧(∀e1:Nat,let g1:=W.slots e1;let h1:=g1.kind;let k1:=g1.base;let l1:=g1.len;let o1:=g1.mark;let q1:=g1.rights;let u1:=g1.badge;let v1:=g1.from_;e1<b0→((((((True∧h1=h1)∧k1=k1)∧l1=l1)∧o1=o1)∧q1=q1)∧u1=u1)∧v1=v1))∧c0=c0∧(∀w1:Nat,let x1:=W.tasks w1;let y1:=x1.prio;let z1:=x1.node;let a2:=x1.space;let b2:=x1.helper;let c2:=x1.loc;let d2:=x1.word;let e2:=x1.badge;let g2:=x1.owes;let h2:=x1.core;let k2:=x1.dom;w1<c0→(((((((((((((((((((True∧x1.r0=x1.r0)∧x1.r1=x1.r1)∧x1.r2=x1.r2)∧x1.r3=x1.r3)∧x1.r4=x1.r4)∧x1.r5=x1.r5)∧x1.r6=x1.r6)∧x1.r7=x1.r7)∧x1.pc=x1.pc)∧x1.st=x1.st)∧y1=y1)∧z1=z1)∧a2=a2)∧b2=b2)∧c2=c2)∧d2=d2)∧e2=e2)∧g2=g2)∧h2=h2)∧k2=k2))∧d0=d0∧(∀l2:Nat,let o2:=W.linesN l2;l2<d0→True∧o2=o2∧(∀q2:Nat,q2<o2→True∧W.lines l2 q2=W.lines l2 q2)))∧W.nBits=W.nBits∧(∀u2:Nat,u2<W.nBits→True∧W.bits u2=W.bits u2))∧e0=e0∧(∀v2:Nat,v2<e0→True∧W.cores v2=W.cores v2))∧g0=g0∧(∀w2:Nat,let x2:=W.readyN w2;w2<g0→True∧x2=x2∧(∀y2:Nat,y2<x2→True∧W.ready w2 y2=W.ready w2 y2)))∧W.nTlbs=W.nTlbs∧(∀z2:Nat,let a3:=W.tlbsN z2;z2<W.nTlbs→True∧a3=a3∧
    (∀b3:Nat,let c3:=W.tlbs z2 b3;let d3:=c3.sp;let e3:=c3.pg;let g3:=c3.fr;let h3:=c3.wr;b3<a3→(((True∧d3=d3)∧e3=e3)∧g3=g3)∧h3=h3)))∧W.nDoms=W.nDoms∧(∀k3:Nat,k3<W.nDoms→True∧W.doms k3=W.doms k3))∧W.time=W.time)∧(tn 2 (t=t)∧True∧w=w)∧True)∧True∧Sm W∧Snd W)∧tn 10 True∧((True∧((((((((((True∧l0=l0∧(∀l3:Nat,l3<l0→True∧k0.ram l3=k0.ram l3))∧o0=o0∧(∀o3:Nat,o3<o0→True∧k0.kinds o3=k0.kinds o3))∧q0=q0∧(∀q3:Nat,let u3:=k0.slots q3;let v3:=u3.kind;let w3:=u3.base;let x3:=u3.len;let y3:=u3.mark;let z3:=u3.rights;let a4:=u3.badge;let b4:=u3.from_;q3<q0→((((((True∧v3=v3)∧w3=w3)∧x3=x3)∧y3=y3)∧z3=z3)∧a4=a4)∧b4=b4))∧u0=u0∧(∀c4:Nat,let d4:=k0.tasks c4;let e4:=d4.prio;let g4:=d4.node;let h4:=d4.space;let k4:=d4.helper;let l4:=d4.loc;let o4:=d4.word;let q4:=d4.badge;let u4:=d4.owes;let v4:=d4.core;let w4:=d4.dom;c4<u0→(((((((((((((((((((True∧d4.r0=d4.r0)∧d4.r1=d4.r1)∧d4.r2=d4.r2)∧d4.r3=d4.r3)∧d4.r4=d4.r4)∧d4.r5=d4.r5)∧d4.r6=d4.r6)∧d4.r7=d4.r7)∧d4.pc=d4.pc)∧d4.st=d4.st)∧e4=e4)∧g4=g4)∧h4=h4)∧k4=k4)∧l4=l4)∧o4=o4)∧q4=q4)∧u4=u4)∧v4=v4)∧w4=w4))∧v0=v0∧(∀x4:Nat,let y4:=k0.linesN x4;x4<v0→True∧y4=y4∧(∀z4:Nat,z4<y4→True∧k0.lines x4 z4=k0.lines x4 z4)))∧w0=w0∧(∀a5:Nat,a5<w0→True∧k0.bits a5=k0.bits a5))∧x0=x0∧(∀b5:Nat,b5<x0→True∧k0.cores b5=k0.cores b5))∧y0=y0∧(∀c5:Nat,let d5:=k0.readyN c5;c5<y0→True∧d5=d5∧(∀e5:Nat,e5<d5→True∧k0.ready c5 e5=k0.ready c5 e5)))∧z0=z0∧(∀g5:Nat,let h5:=k0.tlbsN g5;g5<z0→True∧h5=h5∧(∀k5:Nat,let l5:=k0.tlbs g5 k5;let o5:=l5.sp;let q5:=l5.pg;let u5:=l5.fr;let v5:=l5.wr;k5<h5→
    (((True∧o5=o5)∧q5=q5)∧u5=u5)∧v5=v5)))∧a1=a1∧(∀w5:Nat,w5<a1→True∧k0.doms w5=k0.doms w5))∧b1=b1)∧h0=h0∧((-1):Int)=(-1))∧True)
set_option maxHeartbeats 2000000 in
theorem ok_anwX : FnOK Tryz.prog glE 49 c_anwX := ok_of (.cons ok_anwD .nil) false Tryz.call49 Tryz.func49 (fun _ => []) (V := V_anwX) (fun _ => by kernel_rfl) fun ⟨W, t, w⟩ hp => by
  dsimp only [s_anwX] at hp
  dsimp only [V_anwX, tn, w64]
  simp only [std, stb, eq_self, implies_true, Bool.cond_self]
  try simp only [wd_eta]
  exact hp
structure X_anwY where
  (W : Wd) (t w : Int)
def s_anwY : Sy.Spec := ⟨X_anwY, fun ⟨W, t, w⟩ => [wSV W, .v (.int .i64 t), .v (.int .i64 w)], fun _ => [], fun ⟨W, _, _⟩ => Sm W ∧ wE W ≠ 0, fun _ => .tp 2 (lsv [wRd oW, .er 35 116 8 (-1)]), fun _ => [],
  fun args mem => match args with | [a0, a1, a2] => some ⟨wSVD a0, intD (a1), intD (a2)⟩ | _ => none⟩
def c_anwY : Con := ⟨[], s_anwY.g, none⟩
def V_anwY : X_anwY → Prop := fun ⟨W, _, _⟩ => let a0:=W.nKinds;let b0:=W.nSlots;let c0:=W.nTasks;let d0:=W.nLines;let e0:=W.nCores;let g0:=W.nReady;let h0:=(0:Int)=0;let k0:=True∧h0;let l0:=0=0∧(∀o0:Nat,o0<0→k0);let q0:=True∧l0;let u0:=(k0∧h0)∧h0;let v0:=(((u0∧h0)∧h0)∧h0)∧h0;let w0:=((-1):Int)=(-1);let x0:=0=0∧(∀y0:Nat,y0<0→q0);tn 4 ((((((((((((((True∧W.nRam=W.nRam∧(∀z0:Nat,z0<W.nRam→True∧W.ram z0=W.ram z0))∧a0=a0∧(∀a1:Nat,a1<a0→True∧W.kinds a1=W.kinds a1))∧b0=b0∧(∀b1:Nat,let c1:=W.slots b1;let d1:=c1.kind;let e1:=c1.base;let g1:=c1.len;let h1:=c1.mark;let k1:=c1.rights;let l1:=c1.badge;let o1:=c1.from_;b1<b0→((((((True∧d1=d1)∧e1=e1)∧g1=g1)∧h1=h1)∧k1=k1)∧l1=l1)∧o1=o1))∧c0=c0∧(∀q1:Nat,let u1:=W.tasks q1;let v1:=u1.prio;let w1:=u1.node;let x1:=u1.space;let y1:=u1.helper;let z1:=u1.loc;let a2:=u1.word;let b2:=u1.badge;let c2:=u1.owes;let d2:=u1.core;let e2:=u1.dom;q1<c0→(((((((((((((((((((True∧u1.r0=u1.r0)∧u1.r1=u1.r1)∧u1.r2=u1.r2)∧u1.r3=u1.r3)∧u1.r4=u1.r4)∧u1.r5=u1.r5)∧u1.r6=u1.r6)∧u1.r7=u1.r7)∧u1.pc=u1.pc)∧u1.st=u1.st)∧v1=v1)∧w1=w1)∧x1=x1)∧y1=y1)∧z1=z1)∧a2=a2)∧b2=b2)∧c2=c2)∧d2=d2)∧e2=e2))∧d0=d0∧(∀g2:Nat,let h2:=W.linesN g2;g2<d0→True∧h2=h2∧(∀k2:Nat,k2<h2→True∧W.lines g2 k2=W.lines g2 k2)))∧W.nBits=W.nBits∧(∀l2:Nat,l2<W.nBits→True∧W.bits l2=W.bits l2))∧e0=e0∧(∀o2:Nat,o2<e0→True∧W.cores o2=W.cores o2))∧g0=g0∧(∀q2:Nat,let u2:=W.readyN q2;q2<g0→True∧u2=u2∧(∀v2:Nat,v2<u2→True∧W.ready q2 v2=W.ready q2 v2)))∧W.nTlbs=W.nTlbs∧(∀w2:Nat,let x2:=W.tlbsN w2;w2<W.nTlbs→True∧x2=x2∧(∀y2:Nat,let z2:=W.tlbs w2 y2;let a3:=z2.sp;
    let b3:=z2.pg;let c3:=z2.fr;let d3:=z2.wr;y2<x2→(((True∧a3=a3)∧b3=b3)∧c3=c3)∧d3=d3)))∧W.nDoms=W.nDoms∧(∀e3:Nat,e3<W.nDoms→True∧W.doms e3=W.doms e3))∧W.time=W.time)∧True∧True)∧True∧Sm W∧wE W≠0)∧tn 10 True∧((True∧(((((((((q0∧l0)∧0=0∧(∀g3:Nat,g3<0→v0))∧0=0∧(∀h3:Nat,h3<0→((((((((((((v0∧h0)∧h0)∧h0)∧h0)∧w0)∧w0)∧w0)∧w0)∧h0)∧h0)∧w0)∧h0)∧h0))∧x0)∧l0)∧l0)∧x0)∧0=0∧(∀k3:Nat,k3<0→True∧0=0∧(∀l3:Nat,l3<0→u0∧false=false)))∧l0)∧h0)∧(8:Int)=8∧w0)∧True)
set_option maxHeartbeats 2000000 in
theorem ok_anwY : FnOK Tryz.prog glE 49 c_anwY := ok_of (.cons ok_done8 .nil) false Tryz.call49 Tryz.func49 (fun _ => []) (V := V_anwY) (fun _ => by kernel_rfl) fun ⟨W, t, w⟩ hp => by
  dsimp only [s_anwY] at hp
  dsimp only [V_anwY, tn, w64]
  simp only [std, stb, eq_self, implies_true, Bool.cond_self]
  try simp only [wd_eta]
  exact hp
structure X_anwR where
  (t w : Int) (W : Wd)
def s_anwR : Sy.Spec := ⟨X_anwR, fun ⟨t, w, _⟩ => [.ptr 0 0 none 0 0, .pt true 1 (fun _ => .v (.int .i64 t)), .pt true 1 (fun _ => .v (.int .i64 w))], fun ⟨_, _, W⟩ => wMem W, fun ⟨_, _, W⟩ => Sm W ∧ Snd W, fun ⟨t, w, W⟩ => .v (.int .i64 (anE W t w)), fun ⟨t, w, W⟩ => wMem (anX W t w),
  fun args mem => match args with | [a0, a1, a2] => some ⟨intD (ptF a1 0), intD (ptF a2 0), wMJD mem 0⟩ | _ => none⟩
def c_anwR : Con := ⟨[true], s_anwR.g, none⟩
def V_anwR : X_anwR → Prop := fun ⟨t, w, W⟩ => let a0:=W.nRam;let b0:=a0=a0;let c0:=W.nKinds;let d0:=c0=c0;let e0:=W.nSlots;let g0:=e0=e0;let h0:=W.nTasks;let k0:=h0=h0;let l0:=W.nLines;let o0:=l0=l0;let q0:=W.nBits;let u0:=q0=q0;let v0:=W.nCores;let w0:=v0=v0;let x0:=W.nReady;let y0:=x0=x0;let z0:=W.nTlbs;let a1:=z0=z0;let b1:=W.nDoms;let c1:=b1=b1;let d1:=W.time=W.time;let e1:=Wd.mk a0 (fun g1:Nat=>W.ram (0+g1)) c0 (fun h1:Nat=>W.kinds (0+h1)) e0 (fun k1:Nat=>W.slots (0+k1)) h0 (fun l1:Nat=>W.tasks (0+l1)) l0 (fun o1:Nat=>W.linesN (0+o1)) (fun q1:Nat=>fun u1:Nat=>W.lines (0+q1) (0+u1)) q0 (fun v1:Nat=>W.bits (0+v1)) v0 (fun w1:Nat=>W.cores (0+w1)) x0 (fun x1:Nat=>W.readyN (0+x1)) (fun y1:Nat=>fun z1:Nat=>W.ready (0+y1) (0+z1)) z0 (fun a2:Nat=>W.tlbsN (0+a2)) (fun b2:Nat=>fun c2:Nat=>W.tlbs (0+b2) (0+c2)) b1 (fun d2:Nat=>W.doms (0+d2)) W.time;let e2:=actE e1 t t 6;let g2:=e2==0;let h2:=g2=true;let k2:=cond g2 (farB w 65535) false;let l2:=0=0;let o2:=((((((((((True∧l2∧b0)∧l2∧d0)∧l2∧g0)∧l2∧k0)∧l2∧o0)∧l2∧u0)∧l2∧w0)∧l2∧y0)∧l2∧a1)∧l2∧c1)∧d1;let q2:=b0∧(∀u2:Nat,u2<a0→True∧W.ram u2=W.ram u2);let v2:=d0∧(∀w2:Nat,w2<c0→True∧W.kinds w2=W.kinds w2);let x2:=g0∧(∀y2:Nat,let z2:=W.slots y2;let a3:=z2.kind;let b3:=z2.base;let c3:=z2.len;let d3:=z2.mark;let e3:=z2.rights;let g3:=z2.badge;let h3:=z2.from_;y2<e0→((((((True∧a3=a3)∧b3=b3)∧c3=c3)∧d3=d3)∧e3=e3)∧g3=g3)∧h3=h3);let k3:=o0∧(∀l3:Nat,let o3:=W.linesN l3;l3<l0→True∧o3=o3∧(∀q3:Nat,q3<o3→True∧W.lines l3 q3=W.lines l3 q3));let u3:=u0∧(∀v3:Nat,v3<q0→True∧W.bits v3=W.bits v3);
    let w3:=w0∧(∀x3:Nat,x3<v0→True∧W.cores x3=W.cores x3);let y3:=(a1∧(∀z3:Nat,let a4:=W.tlbsN z3;z3<z0→True∧a4=a4∧(∀b4:Nat,let c4:=W.tlbs z3 b4;let d4:=c4.sp;let e4:=c4.pg;let g4:=c4.fr;let h4:=c4.wr;b4<a4→(((True∧d4=d4)∧e4=e4)∧g4=g4)∧h4=h4)))∧(c1∧(∀k4:Nat,k4<b1→True∧W.doms k4=W.doms k4))∧True;let l4:=(W.tasks (Int.toNat t)).owes;let o4:=anE W t w;
    let q4:=((SV.ptr 0 0 none 0 0=SV.ptr 0 0 none 0 0∧t=t∧w=w∧True)∧(o2∧q2∧v2∧x2∧(k0∧(∀u4:Nat,let v4:=W.tasks u4;let w4:=v4.prio;let x4:=v4.node;let y4:=v4.space;let z4:=v4.helper;let a5:=v4.loc;let b5:=v4.word;let c5:=v4.badge;let d5:=v4.owes;let e5:=v4.core;let g5:=v4.dom;u4<h0→(((((((((((((((((((True∧v4.r0=v4.r0)∧v4.r1=v4.r1)∧v4.r2=v4.r2)∧v4.r3=v4.r3)∧v4.r4=v4.r4)∧v4.r5=v4.r5)∧v4.r6=v4.r6)∧v4.r7=v4.r7)∧v4.pc=v4.pc)∧v4.st=v4.st)∧w4=w4)∧x4=x4)∧y4=y4)∧z4=z4)∧a5=a5)∧b5=b5)∧c5=c5)∧d5=d5)∧e5=e5)∧g5=g5))∧k3∧u3∧w3∧(y0∧(∀h5:Nat,let k5:=W.readyN h5;h5<x0→True∧k5=k5∧(∀l5:Nat,l5<k5→True∧W.ready h5 l5=W.ready h5 l5)))∧y3)∧0≤t∧t<(h0:Int)∧(-1)≤l4∧(l4≠(-1)→WkP W l4))∧ansE W t=o4∧o2∧q2∧v2∧x2∧(k0∧(∀o5:Nat,let q5:=ansW_tasks W t w o5;let u5:=anX_tasks W t w o5;o5<h0→(((((((((((((((((((True∧q5.r0=u5.r0)∧q5.r1=u5.r1)∧q5.r2=u5.r2)∧q5.r3=u5.r3)∧q5.r4=u5.r4)∧q5.r5=u5.r5)∧q5.r6=u5.r6)∧q5.r7=u5.r7)∧q5.pc=u5.pc)∧q5.st=u5.st)∧q5.prio=u5.prio)∧q5.node=u5.node)∧q5.space=u5.space)∧q5.helper=u5.helper)∧q5.loc=u5.loc)∧q5.word=u5.word)∧q5.badge=u5.badge)∧q5.owes=u5.owes)∧q5.core=u5.core)∧q5.dom=u5.dom))∧k3∧u3∧w3∧(y0∧(∀v5:Nat,let w5:=anX_readyN W t w v5;v5<x0→True∧ansW_readyN W t w v5=w5∧(∀x5:Nat,x5<w5→True∧ansW_ready W t w v5 x5=anX_ready W t w v5 x5)))∧y3;
    let y5:=o2∧q2∧v2∧x2∧(k0∧(∀z5:Nat,let a6:=W.tasks z5;let b6:=anX_tasks W t w z5;z5<h0→(((((((((((((((((((True∧a6.r0=b6.r0)∧a6.r1=b6.r1)∧a6.r2=b6.r2)∧a6.r3=b6.r3)∧a6.r4=b6.r4)∧a6.r5=b6.r5)∧a6.r6=b6.r6)∧a6.r7=b6.r7)∧a6.pc=b6.pc)∧a6.st=b6.st)∧a6.prio=b6.prio)∧a6.node=b6.node)∧a6.space=b6.space)∧a6.helper=b6.helper)∧a6.loc=b6.loc)∧a6.word=b6.word)∧a6.badge=b6.badge)∧a6.owes=b6.owes)∧a6.core=b6.core)∧a6.dom=b6.dom))∧k3∧u3∧w3∧(y0∧(∀c6:Nat,let d6:=anX_readyN W t w c6;c6<x0→True∧W.readyN c6=d6∧(∀e6:Nat,e6<d6→True∧W.ready c6 e6=anX_ready W t w c6 e6)))∧y3;(((((((((((((True∧b0∧(∀g6:Nat,g6<a0→True∧W.ram (0+g6)=W.ram (0+g6)))∧d0∧(∀h6:Nat,let k6:=W.kinds (0+h6);h6<c0→True∧k6=k6))∧g0∧(∀l6:Nat,let o6:=W.slots (0+l6);let q6:=o6.kind;let u6:=o6.base;let v6:=o6.len;let w6:=o6.mark;let x6:=o6.rights;let y6:=o6.badge;let z6:=o6.from_;l6<e0→((((((True∧q6=q6)∧u6=u6)∧v6=v6)∧w6=w6)∧x6=x6)∧y6=y6)∧z6=z6))∧k0∧(∀a7:Nat,let b7:=W.tasks (0+a7);let c7:=b7.r0;let d7:=b7.r1;let e7:=b7.r2;let g7:=b7.r3;let h7:=b7.r4;let k7:=b7.r5;let l7:=b7.r6;let o7:=b7.r7;let q7:=b7.pc;let u7:=b7.st;let v7:=b7.prio;let w7:=b7.node;let x7:=b7.space;let y7:=b7.helper;let z7:=b7.loc;let a8:=b7.word;let b8:=b7.badge;let c8:=b7.owes;let d8:=b7.core;let e8:=b7.dom;a7<h0→(((((((((((((((((((True∧c7=c7)∧d7=d7)∧e7=e7)∧g7=g7)∧h7=h7)∧k7=k7)∧l7=l7)∧o7=o7)∧q7=q7)∧u7=u7)∧v7=v7)∧w7=w7)∧x7=x7)∧y7=y7)∧z7=z7)∧a8=a8)∧b8=b8)∧c8=c8)∧d8=d8)∧e8=e8))∧o0∧(∀g8:Nat,let h8:=W.linesN (0+g8);g8<l0→True∧h8=h8∧(∀k8:Nat,let l8:=W.lines (0+g8) (0+k8);
    k8<h8→True∧l8=l8)))∧u0∧(∀o8:Nat,o8<q0→True∧W.bits (0+o8)=W.bits (0+o8)))∧w0∧(∀q8:Nat,let r8:=W.cores (0+q8);q8<v0→True∧r8=r8))∧y0∧(∀u8:Nat,let v8:=W.readyN (0+u8);u8<x0→True∧v8=v8∧(∀w8:Nat,let x8:=W.ready (0+u8) (0+w8);w8<v8→True∧x8=x8)))∧a1∧(∀y8:Nat,let z8:=0+y8;let a9:=W.tlbsN z8;y8<z0→True∧a9=a9∧(∀b9:Nat,let c9:=W.tlbs z8 (0+b9);let d9:=c9.sp;let e9:=c9.pg;let g9:=c9.fr;let h9:=c9.wr;b9<a9→(((True∧d9=d9)∧e9=e9)∧g9=g9)∧h9=h9)))∧c1∧(∀k9:Nat,k9<b1→True∧W.doms (0+k9)=W.doms (0+k9)))∧d1)∧t=t∧t=t∧(6:Int)=6∧True)∧True∧s_actR.match_1 (fun l9:X_actR=>Prop) (X_actR.mk e1 t t 6) (fun o9:Wd=>fun q9:Int=>fun r9:Int=>fun u9:Int=>AcP o9))∧(h2→(w=w∧(65535:Int)=65535∧True)∧True∧True)∧(k2=true→(((1:Int)==0)=true→q4)∧(((1:Int)==0)=false→1=o4∧y5))∧(k2=false→(h2→q4)∧(g2=false→e2=o4∧y5))
set_option maxHeartbeats 2000000 in
theorem ok_anwR : FnOK Tryz.prog glE 52 c_anwR := ok_of (.cons (ok_actR.up glN_glE) (.cons (ok_far.up glN_glE) (.cons (ok_ansR.up glN_glE) .nil))) false Tryz.call52 Tryz.func52 (fun _ => []) (V := V_anwR) (fun _ => by kernel_rfl) fun ⟨t, w, W⟩ hp => by
  dsimp only [s_anwR] at hp
  dsimp only [V_anwR, tn, w64]
  simp only [std, stb, eq_self, implies_true, Bool.cond_self]
  try simp only [wd_eta]
  obtain ⟨hs, hw⟩ := hp
  refine ⟨ac_of hw hs, fun h => ?_, fun h => ?_⟩
  · have h0 : (actE W t t 6 == 0) = true := by cases q : (actE W t t 6 == 0) <;> simp [q] at h ⊢
    have hf : farB w 65535 = true := by rw [h0] at h; simpa using h
    first
      | skip
        have hc : (anE0 W t w == 0) = false := by unfold anE0; rw [h0, hf]; rfl
        refine ⟨by unfold anE; rw [h0, hf]; rfl, ?_⟩
        have e_ := anX_f hc
        have e_tasks : anX_tasks W t w = _ := congrArg Wd.tasks e_
        have e_readyN : anX_readyN W t w = _ := congrArg Wd.readyN e_
        have e_ready : anX_ready W t w = _ := congrArg Wd.ready e_
        simp only [e_tasks, e_readyN, e_ready]
        clear e_ e_tasks e_readyN e_ready
        repeat' (first | exact trivial | exact run20 rfl | rfl | refine And.intro ?_ ?_ | intro _ | fail)
      | refine ⟨fun hh => absurd hh (by decide), fun _ => ?_⟩
        have hc : (anE0 W t w == 0) = false := by unfold anE0; rw [h0, hf]; rfl
        refine ⟨by unfold anE; rw [h0, hf]; rfl, ?_⟩
        have e_ := anX_f hc
        have e_tasks : anX_tasks W t w = _ := congrArg Wd.tasks e_
        have e_readyN : anX_readyN W t w = _ := congrArg Wd.readyN e_
        have e_ready : anX_ready W t w = _ := congrArg Wd.ready e_
        simp only [e_tasks, e_readyN, e_ready]
        clear e_ e_tasks e_readyN e_ready
        repeat' (first | exact trivial | exact run20 rfl | rfl | refine And.intro ?_ ?_ | intro _ | fail)
  refine ⟨fun h0 => ?_, fun h => ?_⟩
  · have hf : farB w 65535 = false := by rw [h0] at h; simpa using h
    have hc : (anE0 W t w == 0) = true := by unfold anE0; rw [h0, hf]; rfl
    obtain ⟨t0, t1, a0, a1, k1, k2⟩ := act_0 (eq_of_beq h0)
    have z3 := hw.z.tasks
    have ho := ((inv_of hw hs).tk t.toNat (by omega)).owes
    refine ⟨⟨t0, by omega, ho.1, fun hn => wk_of hw hs (by omega) (by omega)⟩, by unfold anE; rw [h0, hf]; rfl, ?_⟩
    have e_ := anX_t hc
    have e_tasks : anX_tasks W t w = _ := congrArg Wd.tasks e_
    have e_readyN : anX_readyN W t w = _ := congrArg Wd.readyN e_
    have e_ready : anX_ready W t w = _ := congrArg Wd.ready e_
    simp only [e_tasks, e_readyN, e_ready]
    clear e_ e_tasks e_readyN e_ready
    repeat' (first | exact trivial | exact run20 rfl | rfl | refine And.intro ?_ ?_ | intro _ | fail)
  · skip
    have h0 : (actE W t t 6 == 0) = false := by simpa using h
    have hc : (anE0 W t w == 0) = false := by unfold anE0; rw [h0]; exact h0
    refine ⟨by unfold anE; rw [h0]; rfl, ?_⟩
    have e_ := anX_f hc
    have e_tasks : anX_tasks W t w = _ := congrArg Wd.tasks e_
    have e_readyN : anX_readyN W t w = _ := congrArg Wd.readyN e_
    have e_ready : anX_ready W t w = _ := congrArg Wd.ready e_
    simp only [e_tasks, e_readyN, e_ready]
    clear e_ e_tasks e_readyN e_ready
    repeat' (first | exact trivial | exact run20 rfl | rfl | refine And.intro ?_ ?_ | intro _ | fail)
structure X_anwL where
  (W : Wd) (t w : Int)
def s_anwL : Sy.Spec := ⟨X_anwL, fun ⟨W, t, w⟩ => [wRd (gdW (anE W t w) (anX W t w)), .er 35 116 (anE W t w) (-1), wSV W, .v (.int .i64 0), .fn 52 2 (lsv [.pt true 1 (fun _ => .v (.int .i64 t)), .pt true 1 (fun _ => .v (.int .i64 w))])], fun _ => [], fun ⟨W, _, _⟩ => Sm W ∧ Snd W, fun _ => .v (.bool true), fun _ => [],
  fun args mem => match args with | [a0, a1, a2, a3, a4] => (match isFn 52 a4 with | true => some ⟨wSVD a2, intD (ptF (fnF a4 0) 0), intD (ptF (fnF a4 1) 0)⟩ | false => none) | _ => none⟩
def c_anwL : Con := ⟨[], s_anwL.g, none⟩
def V_anwL : X_anwL → Prop := fun ⟨W, t, w⟩ => let a0:=W.nRam;let b0:=a0=a0;let c0:=b0∧(∀d0:Nat,d0<a0→True∧W.ram d0=W.ram d0);let e0:=W.nKinds;let g0:=e0=e0;let h0:=g0∧(∀k0:Nat,k0<e0→True∧W.kinds k0=W.kinds k0);let l0:=W.nSlots;let o0:=l0=l0;let q0:=o0∧(∀u0:Nat,let v0:=W.slots u0;let w0:=v0.kind;let x0:=v0.base;let y0:=v0.len;let z0:=v0.mark;let a1:=v0.rights;let b1:=v0.badge;let c1:=v0.from_;u0<l0→((((((True∧w0=w0)∧x0=x0)∧y0=y0)∧z0=z0)∧a1=a1)∧b1=b1)∧c1=c1);let d1:=W.nTasks;let e1:=d1=d1;let g1:=e1∧(∀h1:Nat,let k1:=W.tasks h1;let l1:=k1.prio;let o1:=k1.node;let q1:=k1.space;let u1:=k1.helper;let v1:=k1.loc;let w1:=k1.word;let x1:=k1.badge;let y1:=k1.owes;let z1:=k1.core;let a2:=k1.dom;h1<d1→(((((((((((((((((((True∧k1.r0=k1.r0)∧k1.r1=k1.r1)∧k1.r2=k1.r2)∧k1.r3=k1.r3)∧k1.r4=k1.r4)∧k1.r5=k1.r5)∧k1.r6=k1.r6)∧k1.r7=k1.r7)∧k1.pc=k1.pc)∧k1.st=k1.st)∧l1=l1)∧o1=o1)∧q1=q1)∧u1=u1)∧v1=v1)∧w1=w1)∧x1=x1)∧y1=y1)∧z1=z1)∧a2=a2);let b2:=W.nLines;let c2:=b2=b2;let d2:=c2∧(∀e2:Nat,let g2:=W.linesN e2;e2<b2→True∧g2=g2∧(∀h2:Nat,h2<g2→True∧W.lines e2 h2=W.lines e2 h2));let k2:=W.nBits;let l2:=k2=k2;let o2:=l2∧(∀q2:Nat,q2<k2→True∧W.bits q2=W.bits q2);let u2:=W.nCores;let v2:=u2=u2;let w2:=v2∧(∀x2:Nat,x2<u2→True∧W.cores x2=W.cores x2);let y2:=W.nReady;let z2:=y2=y2;let a3:=z2∧(∀b3:Nat,let c3:=W.readyN b3;b3<y2→True∧c3=c3∧(∀d3:Nat,d3<c3→True∧W.ready b3 d3=W.ready b3 d3));let e3:=W.nTlbs;let g3:=e3=e3;
    let h3:=g3∧(∀k3:Nat,let l3:=W.tlbsN k3;k3<e3→True∧l3=l3∧(∀o3:Nat,let q3:=W.tlbs k3 o3;let u3:=q3.sp;let v3:=q3.pg;let w3:=q3.fr;let x3:=q3.wr;o3<l3→(((True∧u3=u3)∧v3=v3)∧w3=w3)∧x3=x3));let y3:=W.nDoms;let z3:=y3=y3;let a4:=z3∧(∀b4:Nat,b4<y3→True∧W.doms b4=W.doms b4);let c4:=W.time;let d4:=c4=c4;let e4:=True∧True;let g4:=0=0;let h4:=anE W t w;let k4:=h4 !=0;let l4:=h4=h4;let o4:=((-1):Int)=(-1);let q4:=l4∧o4;let u4:=h4==h4&&((-1):Int)==(-1);let v4:=gdW h4 (anX W t w);let w4:=v4.nRam;let x4:=v4.nKinds;let y4:=v4.nSlots;let z4:=v4.nTasks;let a5:=v4.nLines;let b5:=v4.nBits;let c5:=v4.nCores;let d5:=v4.nReady;let e5:=v4.nTlbs;let g5:=v4.nDoms;let h5:=v4.time;
    let k5:=((((((((((True∧w4=w4∧(∀l5:Nat,l5<w4→True∧v4.ram l5=v4.ram l5))∧x4=x4∧(∀o5:Nat,o5<x4→True∧v4.kinds o5=v4.kinds o5))∧y4=y4∧(∀q5:Nat,let u5:=v4.slots q5;let v5:=u5.kind;let w5:=u5.base;let x5:=u5.len;let y5:=u5.mark;let z5:=u5.rights;let a6:=u5.badge;let b6:=u5.from_;q5<y4→((((((True∧v5=v5)∧w5=w5)∧x5=x5)∧y5=y5)∧z5=z5)∧a6=a6)∧b6=b6))∧z4=z4∧(∀c6:Nat,let d6:=v4.tasks c6;let e6:=d6.prio;let g6:=d6.node;let h6:=d6.space;let k6:=d6.helper;let l6:=d6.loc;let o6:=d6.word;let q6:=d6.badge;let u6:=d6.owes;let v6:=d6.core;let w6:=d6.dom;c6<z4→(((((((((((((((((((True∧d6.r0=d6.r0)∧d6.r1=d6.r1)∧d6.r2=d6.r2)∧d6.r3=d6.r3)∧d6.r4=d6.r4)∧d6.r5=d6.r5)∧d6.r6=d6.r6)∧d6.r7=d6.r7)∧d6.pc=d6.pc)∧d6.st=d6.st)∧e6=e6)∧g6=g6)∧h6=h6)∧k6=k6)∧l6=l6)∧o6=o6)∧q6=q6)∧u6=u6)∧v6=v6)∧w6=w6))∧a5=a5∧(∀x6:Nat,let y6:=v4.linesN x6;x6<a5→True∧y6=y6∧(∀z6:Nat,z6<y6→True∧v4.lines x6 z6=v4.lines x6 z6)))∧b5=b5∧(∀a7:Nat,a7<b5→True∧v4.bits a7=v4.bits a7))∧c5=c5∧(∀b7:Nat,b7<c5→True∧v4.cores b7=v4.cores b7))∧d5=d5∧(∀c7:Nat,let d7:=v4.readyN c7;c7<d5→True∧d7=d7∧(∀e7:Nat,e7<d7→True∧v4.ready c7 e7=v4.ready c7 e7)))∧e5=e5∧(∀g7:Nat,let h7:=v4.tlbsN g7;g7<e5→True∧h7=h7∧(∀k7:Nat,let l7:=v4.tlbs g7 k7;let o7:=l7.sp;let q7:=l7.pg;let u7:=l7.fr;let v7:=l7.wr;k7<h7→(((True∧o7=o7)∧q7=q7)∧u7=u7)∧v7=v7)))∧g5=g5∧(∀w7:Nat,w7<g5→True∧v4.doms w7=v4.doms w7))∧h5=h5;let x7:=(k5∧True)∧True∧w4=0∧x4=0∧y4=0∧z4=0∧a5=0∧b5=0∧c5=0∧d5=0∧e5=0∧g5=0∧h5=0;let y7:=h4==0;let z7:=y7=true;
    let a8:=((True∧b0∧(∀b8:Nat,b8<a0→True∧W.ram (0+b8)=W.ram (0+b8)))∧g0∧(∀c8:Nat,let d8:=W.kinds (0+c8);c8<e0→True∧d8=d8))∧o0∧(∀e8:Nat,let g8:=W.slots (0+e8);let h8:=g8.kind;let k8:=g8.base;let l8:=g8.len;let o8:=g8.mark;let q8:=g8.rights;let r8:=g8.badge;let u8:=g8.from_;e8<l0→((((((True∧h8=h8)∧k8=k8)∧l8=l8)∧o8=o8)∧q8=q8)∧r8=r8)∧u8=u8);let v8:=c2∧(∀w8:Nat,let x8:=W.linesN (0+w8);w8<b2→True∧x8=x8∧(∀y8:Nat,let z8:=W.lines (0+w8) (0+y8);y8<x8→True∧z8=z8));let a9:=l2∧(∀b9:Nat,b9<k2→True∧W.bits (0+b9)=W.bits (0+b9));let c9:=v2∧(∀d9:Nat,let e9:=W.cores (0+d9);d9<u2→True∧e9=e9);let g9:=g3∧(∀h9:Nat,let k9:=0+h9;let l9:=W.tlbsN k9;h9<e3→True∧l9=l9∧(∀o9:Nat,let q9:=W.tlbs k9 (0+o9);let r9:=q9.sp;let u9:=q9.pg;let v9:=q9.fr;let w9:=q9.wr;o9<l9→(((True∧r9=r9)∧u9=u9)∧v9=v9)∧w9=w9));let x9:=z3∧(∀y9:Nat,y9<y3→True∧W.doms (0+y9)=W.doms (0+y9));let z9:=y7&&((-1):Int)==(-1);tn 2 ((((((((((((((True∧c0)∧h0)∧q0)∧g1)∧d2)∧o2)∧w2)∧a3)∧h3)∧a4)∧d4)∧True)∧True∧s_copyW.match_1 (fun a10:X_copyW=>Prop) (X_copyW.mk W) (fun b10:Wd=>Lg b10))∧True∧tn 9 e4∧(((0:Int)==0)=true→((SV.ptr 0 0 none 0 0=SV.ptr 0 0 none 0 0∧(True∧t=t)∧(True∧w=w)∧True)∧((((((((((((True∧g4∧b0)∧g4∧g0)∧g4∧o0)∧g4∧e1)∧g4∧c2)∧g4∧l2)∧g4∧v2)∧g4∧z2)∧g4∧g3)∧g4∧z3)∧d4)∧c0∧h0∧q0∧g1∧d2∧o2∧w2∧a3∧h3∧a4∧True)∧Sm W∧Snd W)∧(k4=true→((l4∧True)∧e4)∧((q4∧((True∧l4)∧o4)∧True)∧e4)∧(u4=true→x7)∧cond u4 true false=true∧True)∧(k4=false→(z7→(k5∧((((((((a8∧e1∧(∀c10:Nat,let d10:=anX_tasks W t w (0+c10);let e10:=d10.r0;let g10:=d10.r1;let h10:=d10.r2;
    let k10:=d10.r3;let l10:=d10.r4;let o10:=d10.r5;let q10:=d10.r6;let r10:=d10.r7;let u10:=d10.pc;let v10:=d10.st;let w10:=d10.prio;let x10:=d10.node;let y10:=d10.space;let z10:=d10.helper;let a11:=d10.loc;let b11:=d10.word;let c11:=d10.badge;let d11:=d10.owes;let e11:=d10.core;let g11:=d10.dom;c10<d1→(((((((((((((((((((True∧e10=e10)∧g10=g10)∧h10=h10)∧k10=k10)∧l10=l10)∧o10=o10)∧q10=q10)∧r10=r10)∧u10=u10)∧v10=v10)∧w10=w10)∧x10=x10)∧y10=y10)∧z10=z10)∧a11=a11)∧b11=b11)∧c11=c11)∧d11=d11)∧e11=e11)∧g11=g11))∧v8)∧a9)∧c9)∧z2∧(∀h11:Nat,let k11:=anX_readyN W t w (0+h11);h11<y2→True∧k11=k11∧(∀l11:Nat,let o11:=anX_ready W t w (0+h11) (0+l11);l11<k11→True∧o11=o11)))∧g9)∧x9)∧d4)∧True)∧e4)∧cond y7 (sameW v4 (Wd.mk a0 (fun q11:Nat=>W.ram (0+q11)) e0 (fun r11:Nat=>W.kinds (0+r11)) l0 (fun u11:Nat=>W.slots (0+u11)) d1 (fun v11:Nat=>anX_tasks W t w (0+v11)) b2 (fun w11:Nat=>W.linesN (0+w11)) (fun x11:Nat=>fun y11:Nat=>W.lines (0+x11) (0+y11)) k2 (fun z11:Nat=>W.bits (0+z11)) u2 (fun a12:Nat=>W.cores (0+a12)) y2 (fun b12:Nat=>anX_readyN W t w (0+b12)) (fun c12:Nat=>fun d12:Nat=>anX_ready W t w (0+c12) (0+d12)) e3 (fun e12:Nat=>W.tlbsN (0+e12)) (fun g12:Nat=>fun h12:Nat=>W.tlbs (0+g12) (0+h12)) y3 (fun k12:Nat=>W.doms (0+k12)) c4)) false=true∧True))∧(((0:Int)==0)=false→(((0:Int) !=0)=true→(((0:Int)=0∧True)∧e4)∧((q4∧((True∧(0:Int)=0)∧o4)∧True)∧e4)∧(z9=true→x7)∧cond z9 true false=true∧True)∧(((0:Int) !=0)=false→(z7→(k5∧((((((((a8∧e1∧(∀l12:Nat,let o12:=W.tasks (0+l12);let q12:=o12.r0;
    let r12:=o12.r1;let u12:=o12.r2;let v12:=o12.r3;let w12:=o12.r4;let x12:=o12.r5;let y12:=o12.r6;let z12:=o12.r7;let a13:=o12.pc;let b13:=o12.st;let c13:=o12.prio;let d13:=o12.node;let e13:=o12.space;let g13:=o12.helper;let h13:=o12.loc;let k13:=o12.word;let l13:=o12.badge;let o13:=o12.owes;let q13:=o12.core;let r13:=o12.dom;l12<d1→(((((((((((((((((((True∧q12=q12)∧r12=r12)∧u12=u12)∧v12=v12)∧w12=w12)∧x12=x12)∧y12=y12)∧z12=z12)∧a13=a13)∧b13=b13)∧c13=c13)∧d13=d13)∧e13=e13)∧g13=g13)∧h13=h13)∧k13=k13)∧l13=l13)∧o13=o13)∧q13=q13)∧r13=r13))∧v8)∧a9)∧c9)∧z2∧(∀u13:Nat,let v13:=W.readyN (0+u13);u13<y2→True∧v13=v13∧(∀w13:Nat,let x13:=W.ready (0+u13) (0+w13);w13<v13→True∧x13=x13)))∧g9)∧x9)∧d4)∧True)∧e4)∧cond y7 (sameW v4 (Wd.mk a0 (fun y13:Nat=>W.ram (0+y13)) e0 (fun z13:Nat=>W.kinds (0+z13)) l0 (fun a14:Nat=>W.slots (0+a14)) d1 (fun b14:Nat=>W.tasks (0+b14)) b2 (fun c14:Nat=>W.linesN (0+c14)) (fun d14:Nat=>fun e14:Nat=>W.lines (0+d14) (0+e14)) k2 (fun g14:Nat=>W.bits (0+g14)) u2 (fun h14:Nat=>W.cores (0+h14)) y2 (fun k14:Nat=>W.readyN (0+k14)) (fun l14:Nat=>fun o14:Nat=>W.ready (0+l14) (0+o14)) e3 (fun q14:Nat=>W.tlbsN (0+q14)) (fun r14:Nat=>fun u14:Nat=>W.tlbs (0+r14) (0+u14)) y3 (fun v14:Nat=>W.doms (0+v14)) c4)) false=true∧True)))
set_option maxHeartbeats 2000000 in
theorem ok_anwL : FnOK Tryz.prog glE 15 c_anwL := ok_of (.cons ok_is (.cons (ok_err.up glN_glE) (.cons (ok_copyW.up glN_glE) (.cons ok_nothing (.cons (ok_sameWorld.up glN_glE) (.cons ok_anwR .nil)))))) false Tryz.call15 Tryz.func15 (fun _ => []) (V := V_anwL) (fun _ => by kernel_rfl) fun ⟨W, t, w⟩ hp => by
  dsimp only [s_anwL] at hp
  dsimp only [V_anwL, tn, w64]
  simp only [std, stb, eq_self, implies_true, Bool.cond_self]
  obtain ⟨hs, hw⟩ := hp
  refine ⟨lg_sm hs, fun _ => ⟨⟨hs, hw⟩, fun h2 => ?_, fun h2 => ?_⟩, fun h => absurd h (by decide)⟩
  · simp only [fun X => gdW_no X (ne0 h2)]
    repeat' (first | exact trivial | rfl | refine And.intro ?_ ?_ | intro _ | exact absurd ‹_› (Nat.not_lt_zero _) | fail)
    simp
  · simp only [fun X => gdW_yes X (eq0 h2)]
    simp only [eq0 h2, Bool.true_and]
    exact sameW_refl _
structure X_mailTakes0 where
  (W : Wd) (t d w : Int)
def s_mailTakes0 : Sy.Spec := ⟨X_mailTakes0, fun ⟨W, t, d, w⟩ => [wSV W, .v (.int .i64 t), .v (.int .i64 d), .v (.int .i64 w)], fun _ => [], fun ⟨W, _, _, _⟩ => Snd W, fun _ => .v (.bool true), fun _ => [],
  fun args mem => match args with | [a0, a1, a2, a3] => some ⟨wSVD a0, intD (a1), intD (a2), intD (a3)⟩ | _ => none⟩
def V_mailTakes0 : X_mailTakes0 → Prop := fun ⟨W, t, d, w⟩ => let a0:=W.nKinds;let b0:=W.nSlots;let c0:=W.nTasks;let d0:=W.nLines;let e0:=W.nCores;let g0:=W.nReady;let h0:=((((((((((True∧W.nRam=W.nRam∧(∀k0:Nat,k0<W.nRam→True∧W.ram k0=W.ram k0))∧a0=a0∧(∀l0:Nat,l0<a0→True∧W.kinds l0=W.kinds l0))∧b0=b0∧(∀o0:Nat,let q0:=W.slots o0;let u0:=q0.kind;let v0:=q0.base;let w0:=q0.len;let x0:=q0.mark;let y0:=q0.rights;let z0:=q0.badge;let a1:=q0.from_;o0<b0→((((((True∧u0=u0)∧v0=v0)∧w0=w0)∧x0=x0)∧y0=y0)∧z0=z0)∧a1=a1))∧c0=c0∧(∀b1:Nat,let c1:=W.tasks b1;let d1:=c1.prio;let e1:=c1.node;let g1:=c1.space;let h1:=c1.helper;let k1:=c1.loc;let l1:=c1.word;let o1:=c1.badge;let q1:=c1.owes;let u1:=c1.core;let v1:=c1.dom;b1<c0→(((((((((((((((((((True∧c1.r0=c1.r0)∧c1.r1=c1.r1)∧c1.r2=c1.r2)∧c1.r3=c1.r3)∧c1.r4=c1.r4)∧c1.r5=c1.r5)∧c1.r6=c1.r6)∧c1.r7=c1.r7)∧c1.pc=c1.pc)∧c1.st=c1.st)∧d1=d1)∧e1=e1)∧g1=g1)∧h1=h1)∧k1=k1)∧l1=l1)∧o1=o1)∧q1=q1)∧u1=u1)∧v1=v1))∧d0=d0∧(∀w1:Nat,let x1:=W.linesN w1;w1<d0→True∧x1=x1∧(∀y1:Nat,y1<x1→True∧W.lines w1 y1=W.lines w1 y1)))∧W.nBits=W.nBits∧(∀z1:Nat,z1<W.nBits→True∧W.bits z1=W.bits z1))∧e0=e0∧(∀a2:Nat,a2<e0→True∧W.cores a2=W.cores a2))∧g0=g0∧(∀b2:Nat,let c2:=W.readyN b2;b2<g0→True∧c2=c2∧(∀d2:Nat,d2<c2→True∧W.ready b2 d2=W.ready b2 d2)))∧W.nTlbs=W.nTlbs∧(∀e2:Nat,let g2:=W.tlbsN e2;e2<W.nTlbs→True∧g2=g2∧(∀h2:Nat,let k2:=W.tlbs e2 h2;let l2:=k2.sp;let o2:=k2.pg;let q2:=k2.fr;let u2:=k2.wr;h2<g2→(((True∧l2=l2)∧o2=o2)∧q2=q2)∧u2=u2)))∧W.nDoms=W.nDoms∧(∀v2:Nat,v2<W.nDoms→True∧W.doms v2=W.doms v2))∧W.time=W.time;let w2:=h0∧True;
    let x2:=True∧Sm W∧Snd W;let y2:=tn 10 True;let z2:=w2∧x2;let a3:=tkE W t d;let b3:=gdW a3 (tkX W t d);let c3:=b3.nRam;let d3:=b3.nKinds;let e3:=b3.nSlots;let g3:=b3.nTasks;let h3:=b3.nLines;let k3:=b3.nBits;let l3:=b3.nCores;let o3:=b3.nReady;let q3:=b3.nTlbs;let u3:=b3.nDoms;let v3:=b3.time;let w3:=tn 2 (t=t);let x3:=anE W t w;let y3:=gdW x3 (anX W t w);let z3:=y3.nRam;let a4:=y3.nKinds;let b4:=y3.nSlots;let c4:=y3.nTasks;let d4:=y3.nLines;let e4:=y3.nBits;let g4:=y3.nCores;let h4:=y3.nReady;let k4:=y3.nTlbs;let l4:=y3.nDoms;let o4:=y3.time;tn 4 ((w2∧True∧True)∧(hgB W=true→true=true∧True)∧(hgB W=false→((h0∧t=t∧d=d∧True)∧x2)∧True∧y2∧((h0∧t=t∧w=w∧True)∧x2)∧True∧y2∧tn 4 (z2∧True∧(((((((((((((True∧c3=c3∧(∀q4:Nat,q4<c3→True∧b3.ram q4=b3.ram q4))∧d3=d3∧(∀u4:Nat,u4<d3→True∧b3.kinds u4=b3.kinds u4))∧e3=e3∧(∀v4:Nat,let w4:=b3.slots v4;let x4:=w4.kind;let y4:=w4.base;let z4:=w4.len;let a5:=w4.mark;let b5:=w4.rights;let c5:=w4.badge;let d5:=w4.from_;v4<e3→((((((True∧x4=x4)∧y4=y4)∧z4=z4)∧a5=a5)∧b5=b5)∧c5=c5)∧d5=d5))∧g3=g3∧(∀e5:Nat,let g5:=b3.tasks e5;let h5:=g5.prio;let k5:=g5.node;let l5:=g5.space;let o5:=g5.helper;let q5:=g5.loc;let u5:=g5.word;let v5:=g5.badge;let w5:=g5.owes;let x5:=g5.core;let y5:=g5.dom;e5<g3→(((((((((((((((((((True∧g5.r0=g5.r0)∧g5.r1=g5.r1)∧g5.r2=g5.r2)∧g5.r3=g5.r3)∧g5.r4=g5.r4)∧g5.r5=g5.r5)∧g5.r6=g5.r6)∧g5.r7=g5.r7)∧g5.pc=g5.pc)∧g5.st=g5.st)∧h5=h5)∧k5=k5)∧l5=l5)∧o5=o5)∧q5=q5)∧u5=u5)∧v5=v5)∧w5=w5)∧x5=x5)∧y5=y5))∧h3=h3∧(∀z5:Nat,let a6:=b3.linesN z5;z5<h3→True∧
    a6=a6∧(∀b6:Nat,b6<a6→True∧b3.lines z5 b6=b3.lines z5 b6)))∧k3=k3∧(∀c6:Nat,c6<k3→True∧b3.bits c6=b3.bits c6))∧l3=l3∧(∀d6:Nat,d6<l3→True∧b3.cores d6=b3.cores d6))∧o3=o3∧(∀e6:Nat,let g6:=b3.readyN e6;e6<o3→True∧g6=g6∧(∀h6:Nat,h6<g6→True∧b3.ready e6 h6=b3.ready e6 h6)))∧q3=q3∧(∀k6:Nat,let l6:=b3.tlbsN k6;k6<q3→True∧l6=l6∧(∀o6:Nat,let q6:=b3.tlbs k6 o6;let u6:=q6.sp;let v6:=q6.pg;let w6:=q6.fr;let x6:=q6.wr;o6<l6→(((True∧u6=u6)∧v6=v6)∧w6=w6)∧x6=x6)))∧u3=u3∧(∀y6:Nat,y6<u3→True∧b3.doms y6=b3.doms y6))∧v3=v3)∧(a3=a3∧((-1):Int)=(-1))∧h0∧(0:Int)=0∧(w3∧True∧d=d)∧True)∧x2)∧tn 4 (z2∧True∧(((((((((((((True∧z3=z3∧(∀z6:Nat,z6<z3→True∧y3.ram z6=y3.ram z6))∧a4=a4∧(∀a7:Nat,a7<a4→True∧y3.kinds a7=y3.kinds a7))∧b4=b4∧(∀b7:Nat,let c7:=y3.slots b7;let d7:=c7.kind;let e7:=c7.base;let g7:=c7.len;let h7:=c7.mark;let k7:=c7.rights;let l7:=c7.badge;let o7:=c7.from_;b7<b4→((((((True∧d7=d7)∧e7=e7)∧g7=g7)∧h7=h7)∧k7=k7)∧l7=l7)∧o7=o7))∧c4=c4∧(∀q7:Nat,let u7:=y3.tasks q7;let v7:=u7.prio;let w7:=u7.node;let x7:=u7.space;let y7:=u7.helper;let z7:=u7.loc;let a8:=u7.word;let b8:=u7.badge;let c8:=u7.owes;let d8:=u7.core;let e8:=u7.dom;q7<c4→(((((((((((((((((((True∧u7.r0=u7.r0)∧u7.r1=u7.r1)∧u7.r2=u7.r2)∧u7.r3=u7.r3)∧u7.r4=u7.r4)∧u7.r5=u7.r5)∧u7.r6=u7.r6)∧u7.r7=u7.r7)∧u7.pc=u7.pc)∧u7.st=u7.st)∧v7=v7)∧w7=w7)∧x7=x7)∧y7=y7)∧z7=z7)∧a8=a8)∧b8=b8)∧c8=c8)∧d8=d8)∧e8=e8))∧d4=d4∧(∀g8:Nat,let h8:=y3.linesN g8;g8<d4→True∧h8=h8∧(∀k8:Nat,k8<h8→True∧y3.lines g8 k8=y3.lines g8 k8)))∧e4=e4∧(∀l8:Nat,l8<e4→True∧
    y3.bits l8=y3.bits l8))∧g4=g4∧(∀o8:Nat,o8<g4→True∧y3.cores o8=y3.cores o8))∧h4=h4∧(∀q8:Nat,let r8:=y3.readyN q8;q8<h4→True∧r8=r8∧(∀u8:Nat,u8<r8→True∧y3.ready q8 u8=y3.ready q8 u8)))∧k4=k4∧(∀v8:Nat,let w8:=y3.tlbsN v8;v8<k4→True∧w8=w8∧(∀x8:Nat,let y8:=y3.tlbs v8 x8;let z8:=y8.sp;let a9:=y8.pg;let b9:=y8.fr;let c9:=y8.wr;x8<w8→(((True∧z8=z8)∧a9=a9)∧b9=b9)∧c9=c9)))∧l4=l4∧(∀d9:Nat,d9<l4→True∧y3.doms d9=y3.doms d9))∧o4=o4)∧(x3=x3∧((-1):Int)=(-1))∧h0∧(0:Int)=0∧(w3∧True∧w=w)∧True)∧x2)∧cond true true false=true∧True))))
set_option maxHeartbeats 2000000 in
theorem fc_mailTakes0 : ∀ x, s_mailTakes0.pre x → FnC Tryz.prog glE 10 (s_mailTakes0.args x) (s_mailTakes0.mem x) (s_mailTakes0.res x) (s_mailTakes0.mem' x) := fun x hp => fn_of (.cons (ok_tknL.or ok_anwL) (.cons (ok_hugeWorld.up glN_glE) (.cons ok_sound0 (.cons ok_tknX (.cons ok_anwX .nil))))) false Tryz.func10 ((fun _ => []) x) (V := V_mailTakes0 x) (by kernel_rfl) <| (fun ⟨W, t, d, w⟩ hp => by
  dsimp only [s_mailTakes0] at hp
  dsimp only [V_mailTakes0, tn, w64]
  simp only [std, stb, eq_self, implies_true, Bool.cond_self]
  try simp only [wd_eta]
  intro h0
  have h0 := sm_of h0
  repeat' (first | exact h0 | exact hp | exact lg_sm h0 | exact trivial | rfl | refine And.intro ?_ ?_ | fail)
  : ∀ x, s_mailTakes0.pre x → V_mailTakes0 x) x hp
structure X_mailTakes8 where
  (W : Wd) (t d w : Int)
def s_mailTakes8 : Sy.Spec := ⟨X_mailTakes8, fun ⟨W, t, d, w⟩ => [wSV W, .v (.int .i64 t), .v (.int .i64 d), .v (.int .i64 w)], fun _ => [], fun ⟨W, _, _, _⟩ => wE W ≠ 0, fun _ => .v (.bool true), fun _ => [],
  fun args mem => match args with | [a0, a1, a2, a3] => some ⟨wSVD a0, intD (a1), intD (a2), intD (a3)⟩ | _ => none⟩
def V_mailTakes8 : X_mailTakes8 → Prop := fun ⟨W, t, d, w⟩ => let a0:=W.nKinds;let b0:=W.nSlots;let c0:=W.nTasks;let d0:=W.nLines;let e0:=W.nCores;let g0:=W.nReady;let h0:=((((((((((True∧W.nRam=W.nRam∧(∀k0:Nat,k0<W.nRam→True∧W.ram k0=W.ram k0))∧a0=a0∧(∀l0:Nat,l0<a0→True∧W.kinds l0=W.kinds l0))∧b0=b0∧(∀o0:Nat,let q0:=W.slots o0;let u0:=q0.kind;let v0:=q0.base;let w0:=q0.len;let x0:=q0.mark;let y0:=q0.rights;let z0:=q0.badge;let a1:=q0.from_;o0<b0→((((((True∧u0=u0)∧v0=v0)∧w0=w0)∧x0=x0)∧y0=y0)∧z0=z0)∧a1=a1))∧c0=c0∧(∀b1:Nat,let c1:=W.tasks b1;let d1:=c1.prio;let e1:=c1.node;let g1:=c1.space;let h1:=c1.helper;let k1:=c1.loc;let l1:=c1.word;let o1:=c1.badge;let q1:=c1.owes;let u1:=c1.core;let v1:=c1.dom;b1<c0→(((((((((((((((((((True∧c1.r0=c1.r0)∧c1.r1=c1.r1)∧c1.r2=c1.r2)∧c1.r3=c1.r3)∧c1.r4=c1.r4)∧c1.r5=c1.r5)∧c1.r6=c1.r6)∧c1.r7=c1.r7)∧c1.pc=c1.pc)∧c1.st=c1.st)∧d1=d1)∧e1=e1)∧g1=g1)∧h1=h1)∧k1=k1)∧l1=l1)∧o1=o1)∧q1=q1)∧u1=u1)∧v1=v1))∧d0=d0∧(∀w1:Nat,let x1:=W.linesN w1;w1<d0→True∧x1=x1∧(∀y1:Nat,y1<x1→True∧W.lines w1 y1=W.lines w1 y1)))∧W.nBits=W.nBits∧(∀z1:Nat,z1<W.nBits→True∧W.bits z1=W.bits z1))∧e0=e0∧(∀a2:Nat,a2<e0→True∧W.cores a2=W.cores a2))∧g0=g0∧(∀b2:Nat,let c2:=W.readyN b2;b2<g0→True∧c2=c2∧(∀d2:Nat,d2<c2→True∧W.ready b2 d2=W.ready b2 d2)))∧W.nTlbs=W.nTlbs∧(∀e2:Nat,let g2:=W.tlbsN e2;e2<W.nTlbs→True∧g2=g2∧(∀h2:Nat,let k2:=W.tlbs e2 h2;let l2:=k2.sp;let o2:=k2.pg;let q2:=k2.fr;let u2:=k2.wr;h2<g2→(((True∧l2=l2)∧o2=o2)∧q2=q2)∧u2=u2)))∧W.nDoms=W.nDoms∧(∀v2:Nat,v2<W.nDoms→True∧W.doms v2=W.doms v2))∧W.time=W.time;let w2:=h0∧True;
    let x2:=True∧True;let y2:=True∧Sm W∧wE W≠0;let z2:=tn 9 x2;let a3:=w2∧y2;let b3:=(0:Int)=0;let c3:=True∧b3;let d3:=0=0∧(∀e3:Nat,e3<0→c3);let g3:=True∧d3;let h3:=(c3∧b3)∧b3;let k3:=(((h3∧b3)∧b3)∧b3)∧b3;let l3:=((-1):Int)=(-1);let o3:=0=0∧(∀q3:Nat,q3<0→g3);let u3:=(((((((((((g3∧d3)∧0=0∧(∀v3:Nat,v3<0→k3))∧0=0∧(∀w3:Nat,w3<0→((((((((((((k3∧b3)∧b3)∧b3)∧b3)∧l3)∧l3)∧l3)∧l3)∧b3)∧b3)∧l3)∧b3)∧b3))∧o3)∧d3)∧d3)∧o3)∧0=0∧(∀x3:Nat,x3<0→True∧0=0∧(∀y3:Nat,y3<0→h3∧false=false)))∧d3)∧b3)∧((8:Int)=8∧l3)∧h0∧(8:Int)=8∧x2)∧True∧s_did8.match_1 (fun z3:X_did8=>Prop) (X_did8.mk W) (fun a4:Wd=>Lg a4);tn 4 ((w2∧x2)∧(hgB W=true→true=true∧True)∧(hgB W=false→((h0∧t=t∧d=d∧True)∧y2)∧True∧z2∧((h0∧t=t∧w=w∧True)∧y2)∧True∧z2∧tn 4 (a3∧True∧u3∧tn 4 (a3∧True∧u3∧cond true true false=true∧True))))
set_option maxHeartbeats 2000000 in
theorem fc_mailTakes8 : ∀ x, s_mailTakes8.pre x → FnC Tryz.prog glE 10 (s_mailTakes8.args x) (s_mailTakes8.mem x) (s_mailTakes8.res x) (s_mailTakes8.mem' x) := fun x hp => fn_of (.cons (ok_hugeWorld.up glN_glE) (.cons ok_sound8 (.cons ok_did8 (.cons ok_tknY (.cons ok_anwY .nil))))) false Tryz.func10 ((fun _ => []) x) (V := V_mailTakes8 x) (by kernel_rfl) <| (fun ⟨W, t, d, w⟩ hp => by
  dsimp only [s_mailTakes8] at hp
  dsimp only [V_mailTakes8, tn, w64]
  simp only [std, stb, eq_self, implies_true, Bool.cond_self]
  try simp only [wd_eta]
  intro h0
  have h0 := sm_of h0
  repeat' (first | exact h0 | exact hp | exact lg_sm h0 | exact trivial | rfl | refine And.intro ?_ ?_ | fail)
  : ∀ x, s_mailTakes8.pre x → V_mailTakes8 x) x hp
structure X_mailTakes where
  (W : Wd) (t d w : Int)
def s_mailTakes : Sy.Spec := ⟨X_mailTakes, fun ⟨W, t, d, w⟩ => [wSV W, .v (.int .i64 t), .v (.int .i64 d), .v (.int .i64 w)], fun _ => [], fun _ => True, fun _ => .v (.bool true), fun _ => [],
  fun args mem => match args with | [a0, a1, a2, a3] => some ⟨wSVD a0, intD (a1), intD (a2), intD (a3)⟩ | _ => none⟩
def c_mailTakes : Con := ⟨[], s_mailTakes.g, none⟩
theorem ok_mailTakes : FnOK Tryz.prog glE 10 c_mailTakes := fnOK_of Tryz.call10 fun ⟨W, t, d, w⟩ _ => if h : wE W = 0 then fc_mailTakes0 ⟨W, t, d, w⟩ (Snd.iff.1 h) else fc_mailTakes8 ⟨W, t, d, w⟩ h
end Go.Proofs.YtdjilaofmdhikaaGreatDoor
namespace Go.Proofs.YtdjilaofmdhikaaGreatDoor
open Go.ChangeShapes Go.WideShapes Go.RowKit Go.Sy
theorem K.own : ownKnob Tryz.prog.godebug = none := by kernel_rfl
theorem K.et : Tryz.prog.globalNamed "errors.errorType" = some 0 := by kernel_rfl
theorem K.rt : (Tryz.prog.cutTypes.find? (·.1 == "internal/reflectlite.rtype")).map (·.2) = some 182 := by kernel_rfl
theorem K.oneRow : ((List.range Tryz.prog.types.size).filter fun t => Tryz.prog.rowNamed t [101, 114, 114, 111, 114]) = [31] := by kernel_rfl
theorem K.handle {laid : List (String × DataW Unit)} {W : World} (h : laidMetH Tryz.prog laid W) (hm : ("errors.errorType", Rows.laid_errors_errorType) ∈ laid) : W.cell? ⟨0, 0, none⟩ = some A.eTy := by
  have hf : ("errors.errorType", Rows.laid_errors_errorType) ∈ laid.filter fun x => x.2.handleName?.isSome := List.mem_filter.2 ⟨hm, by rfl⟩
  unfold laidMetH at h
  split at h
  · next e => rw [e] at hf; cases hf
  next x r e =>
  rw [e] at hf
  obtain ⟨name, u, ty, e1, e2, e3, e4, e5⟩ := h.2 _ hf
  have en : name = [101, 114, 114, 111, 114] := (Option.some.inj e1).symm
  subst en
  obtain rfl := Option.some.inj (K.rt.symm.trans e2)
  have hm : ty ∈ (List.range Tryz.prog.types.size).filter fun t => Tryz.prog.rowNamed t [101, 114, 114, 111, 114] := List.mem_filter.2 ⟨List.mem_range.2 e3, e4⟩
  rw [K.oneRow] at hm
  obtain rfl := List.mem_singleton.1 hm
  have hh : typeHandle Tryz.prog 31 = .pointer (some ⟨1, 31, none⟩) := by kernel_rfl
  rw [hh] at e5
  unfold A.eTy
  simpa using World.var?_cell K.et e5 0
noncomputable def K.world (os : Os) : World :=
  let w0 := World.holding Tryz.prog os ⟨#[], #[], []⟩
  { w0 with heap := w0.heap.modify 0 fun
      | .cells _ t frozen => .cells #[A.eTy] t frozen
      | o => o }
theorem K.met (os : Os) (args : Array Value) : laidMetH Tryz.prog [("errors.errorType", Rows.laid_errors_errorType)] ((K.world os).forCall (fun _ _ => 0) ⟨#[], args, []⟩).memory :=
  laidMetH_of_parts (laidMet_nil _ _) (by kernel_rfl)
theorem K.laidOut : laidOutB Tryz.prog = true := by kernel_rfl
theorem K.trodAll {H : Type} {enc : TypeId × Value → H} {P : Program} (hl : laidOutB P = true) {W W' : World} (hb : Below W.heap.size W W') : ∀ {ts : List TypeId} {vs : List Value} {ds : List (DataW H)} {ps : List MemPlace},
    (ts.all fun t => P.readableRec t && decide (t < P.types.size)) = true → DataW.TrodAll enc P W 0 (fun _ => true) true ts vs ds ps → (∀ x ∈ ps, x.block < W.heap.size) → DataW.TrodAll enc P W' 0 (fun b => decide (b < W.heap.size)) true ts vs ds ps
  | [], [], [], _, _, h, _ => h
  | t :: ts, v :: vs, d :: ds, ps, hr, ⟨p, q, h1, h2, e⟩, hlt => by
    subst e
    simp only [List.all_cons, Bool.and_eq_true, decide_eq_true_eq] at hr
    exact ⟨p, q, Below.trod hl hr.1.1 hr.1.2 h1 hb (fun x hx => hlt x (List.mem_append_left _ hx)), K.trodAll hl hb hr.2 h2 (fun x hx => hlt x (List.mem_append_right _ hx)), rfl⟩
theorem K.underlying4 : Tryz.prog.underlying 4 = some .bool := by kernel_rfl
theorem K.len {H : Type} {enc : TypeId × Value → H} {P : Program} {w : World} {base : Nat} {spare : Nat → Bool} {held : Bool} : ∀ {ts : List TypeId} {vs : List Value} {ds : List (DataW H)} {ps : List MemPlace}, DataW.TrodAll enc P w base spare held ts vs ds ps → ds.length = ts.length
  | [], [], [], _, _ => rfl
  | _ :: _, _ :: _, _ :: _, _, ⟨_, _, _, h, _⟩ => by simp [K.len h]
theorem K.noStand {ps : Array TypeId} (h : (ps.toList.all fun t => !Tryz.prog.wantsStandIn t) = true) {j : Nat} {t : TypeId} (ht : ps[j]? = some t) : Tryz.prog.wantsStandIn t = false := by
  have := List.all_eq_true.1 h t (by rw [Array.mem_toList_iff]; exact Array.mem_of_getElem? ht)
  simpa using this
set_option maxRecDepth 100000 in
theorem K.lift {f : FuncId} {fn : Func} {s : ChangeSpec} {X : World → Prop} (hX : ∀ (w w' : World), w.heap = w'.heap → X w → X w') (os : Os) (started : os.Started) (H : Type) (enc : TypeId × Value → H)
    (noInit : Tryz.checked.prog.inits.idxOf? f = none) (hfn : Tryz.checked.prog.funcs[f]? = some fn)
    (hs : ∀ ds : List (DataW H), ds.length = fn.params.toList.length → s.fn H (ds ++ []) = { results := [.lit (.bool true)], args := ds }) (hv : s.vars = []) (hr : fn.resultTypes = #[4])
    (hrow : (fn.params.toList.all fun t => Tryz.prog.readableRec t && decide (t < Tryz.prog.types.size)) = true)
    (witness : ∃ (w : World) (tape : Tape) (i : Input), w.os = os ∧ (w.forCall tape i).Shaped Tryz.prog ∧ i.vars = [] ∧ Input.okWide Tryz.prog (w.forCall tape i) .any w.heap.size f i ∧
      ((s.pre enc Tryz.prog fn [] false (w.forCall tape i).memory i.args ∧ X (w.forCall tape i).memory) ∧ sizedMet enc Tryz.prog fn (OpenSpec.ofChange s) false (w.forCall tape i).memory i.args) ∧ ({} : Assume).holds Tryz.prog (lone (Frame.enter Tryz.prog f i.args .normal) [] (w.forCall tape i)))
    (contract : ∀ (W : World) (base : Nat) (args : Array Value) (ds : List (DataW H)) (p : List MemPlace),
      (∀ (j : Nat) t v, fn.params[j]? = some t → args[j]? = some v → Value.okWide Tryz.prog W .any base t v) →
      DataW.TrodAll enc Tryz.prog W 0 (fun _ => true) true fn.params.toList args.toList ds p → X W → (∀ x ∈ p, x.block < W.heap.size) →
      Calls Tryz.prog f args W fun e W' => e = .returned (.bool true) ∧ Below W.heap.size W W') :
    ReturnsInHanded {} Tryz.checked os f .any (fun w args => (s.pre enc Tryz.prog fn [] false w args ∧ X w) ∧ sizedMet enc Tryz.prog fn (OpenSpec.ofChange s) false w args) (s.post enc Tryz.prog fn false true false false) := by
  refine returnsInHanded_of_change_and (C := Tryz.checked) (X := fun w _ => X w) (fun w w' _ hh h => hX w w' hh h) K.own started noInit hfn witness ?_
  intro W base args ds gs before hval hW _ _ hL _
  have hW' := hW
  obtain ⟨p, q, hA, hV, rfl, hfz, _⟩ := hW
  have hlt : ∀ x ∈ p, x.block < W.heap.size := fun x hx => by simpa using hW'.lt x (List.mem_append_left _ hx)
  obtain ⟨rfl, rfl⟩ : gs = [] ∧ q = [] := by
    rw [hv] at hV
    cases gs with
    | nil => exact ⟨rfl, hV⟩
    | cons g r => exact absurd hV (by intro h; cases h)
  refine (contract W base args ds p hval hA hL hlt).mono fun e W' ⟨he, hb⟩ => ?_
  have e1 := hs ds (K.len hA)
  refine ⟨_, he, _, _, _, [], p, [], hW', ?_, ?_, ?_, hb.frame _, fun h => by cases h⟩
  · rw [e1, hr]; exact trodAll_mk1 (shut_bool K.underlying4 true)
  · rw [e1]; exact K.trodAll K.laidOut hb hrow hA hlt
  · rw [e1, hv]; rfl
theorem K.eT {laid : List (String × DataW Unit)} {W : World} (h : laidMetH Tryz.prog laid W) (hm : ("errors.errorType", Rows.laid_errors_errorType) ∈ laid) : Den W o0.bare (.pt false 1 fun _ => .v A.eTy) (.pointer (some ⟨0, 0, none⟩)) :=
  ⟨_, rfl, fun j hj => ⟨_, by obtain rfl : j = 0 := by omega
                              exact K.handle h hm, ⟨id, fun _ => id⟩, rfl⟩⟩
theorem K.gE {laid : List (String × DataW Unit)} {W : World} (h : laidMetH Tryz.prog laid W) (hm : ("errors.errorType", Rows.laid_errors_errorType) ∈ laid) (g : Nat) : Den W o0.bare (glE g) (.pointer (some ⟨g, 0, none⟩)) := by
  unfold glE
  split
  · exact K.eT h hm
  · trivial
end Go.Proofs.YtdjilaofmdhikaaGreatDoor
