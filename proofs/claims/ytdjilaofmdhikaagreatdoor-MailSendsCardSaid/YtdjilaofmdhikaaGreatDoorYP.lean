/- The law MailSends. -/
import Derived.Test.YtdjilaofmdhikaaGreatDoorYL
import Derived.Test.YtdjilaofmdhikaaGreatDoorYO
import Derived.Test.YtdjilaofmdhikaaGreatDoorYH
import Derived.OpenShut
import Derived.ChangeArms
import Derived.MakeChecks
import Derived.Lay
import Derived.Test.YtdjilaofmdhikaaGreatDoorTie
import Derived.ChangeSame
import Derived.ChangeVars
import Derived.JoinedOf
import Derived.RowKit
import Derived.LaidLaws
import Derived.LaidHandle
import Derived.Stop.Joined
import Derived.SevenTiedAt
import Derived.OpenVars
import Derived.Test.YtdjilaofmdhikaaGreatDoorCards
set_option linter.unusedVariables false
set_option linter.unusedSimpArgs false
set_option linter.unusedVariables false
set_option linter.unusedSimpArgs false
set_option maxRecDepth 100000
namespace Go.Proofs.YtdjilaofmdhikaaGreatDoor
open Go.RowKit Go.Sy
def snE (W : Wd) (t d b w : Int) : Int := bif actE W t d 7 == 0 then bif farB b 65535 || farB w 65535 then 1 else 0 else actE W t d 7
def snX_tasks (W : Wd) (t d b w : Int) (c : Bool) (i : Nat) : Run := bif snE W t d b w == 0 then (sndW W t d b w c).tasks i else (W).tasks i
def snX_linesN (W : Wd) (t d b w : Int) (c : Bool) (i : Nat) : Nat := bif snE W t d b w == 0 then (sndW W t d b w c).linesN i else (W).linesN i
def snX_lines (W : Wd) (t d b w : Int) (c : Bool) (i k : Nat) : Int := bif snE W t d b w == 0 then (sndW W t d b w c).lines i k else (W).lines i k
def snX_cores (W : Wd) (t d b w : Int) (c : Bool) (i : Nat) : Int := bif snE W t d b w == 0 then (sndW W t d b w c).cores i else (W).cores i
def snX_readyN (W : Wd) (t d b w : Int) (c : Bool) (i : Nat) : Nat := bif snE W t d b w == 0 then (sndW W t d b w c).readyN i else (W).readyN i
def snX_ready (W : Wd) (t d b w : Int) (c : Bool) (i k : Nat) : Int := bif snE W t d b w == 0 then (sndW W t d b w c).ready i k else (W).ready i k
def snX (W : Wd) (t d b w : Int) (c : Bool) : Wd := { W with tasks := snX_tasks W t d b w c, linesN := snX_linesN W t d b w c, lines := snX_lines W t d b w c, cores := snX_cores W t d b w c, readyN := snX_readyN W t d b w c, ready := snX_ready W t d b w c }
theorem snX_t {W : Wd} {t d b w : Int} {c : Bool} (h : (snE W t d b w == 0) = true) : snX W t d b w c = sndW W t d b w c := by
  have e_tasks : snX_tasks W t d b w c = (sndW W t d b w c).tasks := by
    funext i
    unfold snX_tasks
    rw [h]
    rfl
  have e_linesN : snX_linesN W t d b w c = (sndW W t d b w c).linesN := by
    funext i
    unfold snX_linesN
    rw [h]
    rfl
  have e_lines : snX_lines W t d b w c = (sndW W t d b w c).lines := by
    funext i k
    unfold snX_lines
    rw [h]
    rfl
  have e_cores : snX_cores W t d b w c = (sndW W t d b w c).cores := by
    funext i
    unfold snX_cores
    rw [h]
    rfl
  have e_readyN : snX_readyN W t d b w c = (sndW W t d b w c).readyN := by
    funext i
    unfold snX_readyN
    rw [h]
    rfl
  have e_ready : snX_ready W t d b w c = (sndW W t d b w c).ready := by
    funext i k
    unfold snX_ready
    rw [h]
    rfl
  show ({ W with tasks := snX_tasks W t d b w c, linesN := snX_linesN W t d b w c, lines := snX_lines W t d b w c, cores := snX_cores W t d b w c, readyN := snX_readyN W t d b w c, ready := snX_ready W t d b w c } : Wd) = _
  rw [e_tasks, e_linesN, e_lines, e_cores, e_readyN, e_ready] <;> kernel_rfl
theorem snX_f {W : Wd} {t d b w : Int} {c : Bool} (h : (snE W t d b w == 0) = false) : snX W t d b w c = W := by
  have e_tasks : snX_tasks W t d b w c = (W).tasks := by
    funext i
    unfold snX_tasks
    rw [h]
    rfl
  have e_linesN : snX_linesN W t d b w c = (W).linesN := by
    funext i
    unfold snX_linesN
    rw [h]
    rfl
  have e_lines : snX_lines W t d b w c = (W).lines := by
    funext i k
    unfold snX_lines
    rw [h]
    rfl
  have e_cores : snX_cores W t d b w c = (W).cores := by
    funext i
    unfold snX_cores
    rw [h]
    rfl
  have e_readyN : snX_readyN W t d b w c = (W).readyN := by
    funext i
    unfold snX_readyN
    rw [h]
    rfl
  have e_ready : snX_ready W t d b w c = (W).ready := by
    funext i k
    unfold snX_ready
    rw [h]
    rfl
  show ({ W with tasks := snX_tasks W t d b w c, linesN := snX_linesN W t d b w c, lines := snX_lines W t d b w c, cores := snX_cores W t d b w c, readyN := snX_readyN W t d b w c, ready := snX_ready W t d b w c } : Wd) = _
  rw [e_tasks, e_linesN, e_lines, e_cores, e_readyN, e_ready] <;> kernel_rfl
structure X_msnC where
  (t d b w : Int) (c : Bool) (W : Wd)
def s_msnC : Sy.Spec := ⟨X_msnC, fun ⟨t, d, b, w, c, _⟩ => [.ptr 0 0 none 0 0, .pt true 1 (fun _ => .v (.int .i64 t)), .pt true 1 (fun _ => .v (.int .i64 d)), .pt true 1 (fun _ => .v (.int .i64 b)), .pt true 1 (fun _ => .v (.int .i64 w)), .pt true 1 (fun _ => .v (.bool c))], fun ⟨_, _, _, _, _, W⟩ => wMem W, fun ⟨_, _, _, _, _, W⟩ => Sm W ∧ Snd W, fun ⟨t, d, b, w, _, W⟩ => .er 35 116 (snE W t d b w) (-1), fun ⟨t, d, b, w, c, W⟩ => wMem (snX W t d b w c),
  fun args mem => match args with | [a0, a1, a2, a3, a4, a5] => some ⟨intD (ptF a1 0), intD (ptF a2 0), intD (ptF a3 0), intD (ptF a4 0), boolD (ptF a5 0), wMJD mem 0⟩ | _ => none⟩
def c_msnC : Con := ⟨[true], s_msnC.g, none⟩
def V_msnC : X_msnC → Prop := fun ⟨t, d, b, w, c, W⟩ => let a0:=W.nRam;let b0:=a0=a0;let c0:=W.nKinds;let d0:=c0=c0;let e0:=W.nSlots;let g0:=e0=e0;let h0:=W.nTasks;let k0:=h0=h0;let l0:=W.nLines;let o0:=l0=l0;let q0:=W.nBits;let u0:=q0=q0;let v0:=W.nCores;let w0:=v0=v0;let x0:=W.nReady;let y0:=x0=x0;let z0:=W.nTlbs;let a1:=z0=z0;let b1:=W.nDoms;let c1:=b1=b1;let d1:=W.time=W.time;let e1:=Wd.mk a0 (fun g1:Nat=>W.ram (0+g1)) c0 (fun h1:Nat=>W.kinds (0+h1)) e0 (fun k1:Nat=>W.slots (0+k1)) h0 (fun l1:Nat=>W.tasks (0+l1)) l0 (fun o1:Nat=>W.linesN (0+o1)) (fun q1:Nat=>fun u1:Nat=>W.lines (0+q1) (0+u1)) q0 (fun v1:Nat=>W.bits (0+v1)) v0 (fun w1:Nat=>W.cores (0+w1)) x0 (fun x1:Nat=>W.readyN (0+x1)) (fun y1:Nat=>fun z1:Nat=>W.ready (0+y1) (0+z1)) z0 (fun a2:Nat=>W.tlbsN (0+a2)) (fun b2:Nat=>fun c2:Nat=>W.tlbs (0+b2) (0+c2)) b1 (fun d2:Nat=>W.doms (0+d2)) W.time;let e2:=actE e1 t d 7;let g2:=e2 !=0;let h2:=snE W t d b w;let k2:=((-1):Int)=(-1);let l2:=0=0;let o2:=((((((((((True∧l2∧b0)∧l2∧d0)∧l2∧g0)∧l2∧k0)∧l2∧o0)∧l2∧u0)∧l2∧w0)∧l2∧y0)∧l2∧a1)∧l2∧c1)∧d1;let q2:=b0∧(∀u2:Nat,u2<a0→True∧W.ram u2=W.ram u2);let v2:=d0∧(∀w2:Nat,w2<c0→True∧W.kinds w2=W.kinds w2);let x2:=g0∧(∀y2:Nat,let z2:=W.slots y2;let a3:=z2.kind;let b3:=z2.base;let c3:=z2.len;let d3:=z2.mark;let e3:=z2.rights;let g3:=z2.badge;let h3:=z2.from_;y2<e0→((((((True∧a3=a3)∧b3=b3)∧c3=c3)∧d3=d3)∧e3=e3)∧g3=g3)∧h3=h3);let k3:=u0∧(∀l3:Nat,l3<q0→True∧W.bits l3=W.bits l3);
    let o3:=(a1∧(∀q3:Nat,let u3:=W.tlbsN q3;q3<z0→True∧u3=u3∧(∀v3:Nat,let w3:=W.tlbs q3 v3;let x3:=w3.sp;let y3:=w3.pg;let z3:=w3.fr;let a4:=w3.wr;v3<u3→(((True∧x3=x3)∧y3=y3)∧z3=z3)∧a4=a4)))∧(c1∧(∀b4:Nat,b4<b1→True∧W.doms b4=W.doms b4))∧True;let c4:=o2∧q2∧v2∧x2∧(k0∧(∀d4:Nat,let e4:=W.tasks d4;let g4:=snX_tasks W t d b w c d4;d4<h0→(((((((((((((((((((True∧e4.r0=g4.r0)∧e4.r1=g4.r1)∧e4.r2=g4.r2)∧e4.r3=g4.r3)∧e4.r4=g4.r4)∧e4.r5=g4.r5)∧e4.r6=g4.r6)∧e4.r7=g4.r7)∧e4.pc=g4.pc)∧e4.st=g4.st)∧e4.prio=g4.prio)∧e4.node=g4.node)∧e4.space=g4.space)∧e4.helper=g4.helper)∧e4.loc=g4.loc)∧e4.word=g4.word)∧e4.badge=g4.badge)∧e4.owes=g4.owes)∧e4.core=g4.core)∧e4.dom=g4.dom))∧(o0∧(∀h4:Nat,let k4:=snX_linesN W t d b w c h4;h4<l0→True∧W.linesN h4=k4∧(∀l4:Nat,l4<k4→True∧W.lines h4 l4=snX_lines W t d b w c h4 l4)))∧k3∧(w0∧(∀o4:Nat,o4<v0→True∧W.cores o4=snX_cores W t d b w c o4))∧(y0∧(∀q4:Nat,let u4:=snX_readyN W t d b w c q4;q4<x0→True∧W.readyN q4=u4∧(∀v4:Nat,v4<u4→True∧W.ready q4 v4=snX_ready W t d b w c q4 v4)))∧o3;let w4:=[b,w];let x4:Int:=cond (allB 2 (fun y4:Nat=>!farB (List.getD w4 (0+y4) 0) 65535)) 0 1;let z4:=x4 !=0;(((((((((((((True∧b0∧(∀a5:Nat,a5<a0→True∧W.ram (0+a5)=W.ram (0+a5)))∧d0∧(∀b5:Nat,let c5:=W.kinds (0+b5);b5<c0→True∧c5=c5))∧g0∧(∀d5:Nat,let e5:=W.slots (0+d5);let g5:=e5.kind;let h5:=e5.base;let k5:=e5.len;let l5:=e5.mark;let o5:=e5.rights;let q5:=e5.badge;let u5:=e5.from_;d5<e0→((((((True∧g5=g5)∧h5=h5)∧k5=k5)∧l5=l5)∧o5=o5)∧q5=q5)∧u5=u5))∧k0∧(∀v5:Nat,let w5:=W.tasks (0+v5);
    let x5:=w5.r0;let y5:=w5.r1;let z5:=w5.r2;let a6:=w5.r3;let b6:=w5.r4;let c6:=w5.r5;let d6:=w5.r6;let e6:=w5.r7;let g6:=w5.pc;let h6:=w5.st;let k6:=w5.prio;let l6:=w5.node;let o6:=w5.space;let q6:=w5.helper;let u6:=w5.loc;let v6:=w5.word;let w6:=w5.badge;let x6:=w5.owes;let y6:=w5.core;let z6:=w5.dom;v5<h0→(((((((((((((((((((True∧x5=x5)∧y5=y5)∧z5=z5)∧a6=a6)∧b6=b6)∧c6=c6)∧d6=d6)∧e6=e6)∧g6=g6)∧h6=h6)∧k6=k6)∧l6=l6)∧o6=o6)∧q6=q6)∧u6=u6)∧v6=v6)∧w6=w6)∧x6=x6)∧y6=y6)∧z6=z6))∧o0∧(∀a7:Nat,let b7:=W.linesN (0+a7);a7<l0→True∧b7=b7∧(∀c7:Nat,let d7:=W.lines (0+a7) (0+c7);c7<b7→True∧d7=d7)))∧u0∧(∀e7:Nat,e7<q0→True∧W.bits (0+e7)=W.bits (0+e7)))∧w0∧(∀g7:Nat,let h7:=W.cores (0+g7);g7<v0→True∧h7=h7))∧y0∧(∀k7:Nat,let l7:=W.readyN (0+k7);k7<x0→True∧l7=l7∧(∀o7:Nat,let q7:=W.ready (0+k7) (0+o7);o7<l7→True∧q7=q7)))∧a1∧(∀u7:Nat,let v7:=0+u7;let w7:=W.tlbsN v7;u7<z0→True∧w7=w7∧(∀x7:Nat,let y7:=W.tlbs v7 (0+x7);let z7:=y7.sp;let a8:=y7.pg;let b8:=y7.fr;let c8:=y7.wr;x7<w7→(((True∧z7=z7)∧a8=a8)∧b8=b8)∧c8=c8)))∧c1∧(∀d8:Nat,d8<b1→True∧W.doms (0+d8)=W.doms (0+d8)))∧d1)∧t=t∧d=d∧(7:Int)=7∧True)∧True∧s_actP.match_1 (fun e8:X_actP=>Prop) (X_actP.mk e1 t d 7) (fun g8:Wd=>fun h8:Int=>fun k8:Int=>fun l8:Int=>AcP g8))∧(g2=true→(e2=h2∧k2)∧c4)∧(g2=false→True∧(((2=2∧(∀o8:Nat,let q8:=List.getD w4 (0+o8) 0;o8<2→True∧q8=q8))∧True)∧True∧s_wordsP.match_1 (fun r8:X_wordsP=>Prop) (X_wordsP.mk 2 (fun u8:Nat=>List.getD w4 (0+u8) 0)) (fun v8:Nat=>fun w8:∀x8:Nat,Int=>v8≤1000))∧(z4=true→(x4=h2∧k2)∧c4)∧(z4=false→
    ((SV.ptr 0 0 none 0 0=SV.ptr 0 0 none 0 0∧t=t∧d=d∧b=b∧w=w∧c=c∧True)∧(o2∧q2∧v2∧x2∧(k0∧(∀y8:Nat,let z8:=W.tasks y8;let a9:=z8.prio;let b9:=z8.node;let c9:=z8.space;let d9:=z8.helper;let e9:=z8.loc;let g9:=z8.word;let h9:=z8.badge;let k9:=z8.owes;let l9:=z8.core;let o9:=z8.dom;y8<h0→(((((((((((((((((((True∧z8.r0=z8.r0)∧z8.r1=z8.r1)∧z8.r2=z8.r2)∧z8.r3=z8.r3)∧z8.r4=z8.r4)∧z8.r5=z8.r5)∧z8.r6=z8.r6)∧z8.r7=z8.r7)∧z8.pc=z8.pc)∧z8.st=z8.st)∧a9=a9)∧b9=b9)∧c9=c9)∧d9=d9)∧e9=e9)∧g9=g9)∧h9=h9)∧k9=k9)∧l9=l9)∧o9=o9))∧(o0∧(∀q9:Nat,let r9:=W.linesN q9;q9<l0→True∧r9=r9∧(∀u9:Nat,u9<r9→True∧W.lines q9 u9=W.lines q9 u9)))∧k3∧(w0∧(∀v9:Nat,v9<v0→True∧W.cores v9=W.cores v9))∧(y0∧(∀w9:Nat,let x9:=W.readyN w9;w9<x0→True∧x9=x9∧(∀y9:Nat,y9<x9→True∧W.ready w9 y9=W.ready w9 y9)))∧o3)∧s_sndP.match_1 (fun z9:X_sndP=>Prop) (X_sndP.mk t d b w c W) (fun a10:Int=>fun b10:Int=>fun c10:Int=>fun d10:Int=>fun e10:Bool=>fun g10:Wd=>DoP g10 a10 b10))∧(h2=0∧k2)∧o2∧q2∧v2∧x2∧(k0∧(∀h10:Nat,let k10:=sndW_tasks W t d b w c h10;let l10:=snX_tasks W t d b w c h10;h10<h0→(((((((((((((((((((True∧k10.r0=l10.r0)∧k10.r1=l10.r1)∧k10.r2=l10.r2)∧k10.r3=l10.r3)∧k10.r4=l10.r4)∧k10.r5=l10.r5)∧k10.r6=l10.r6)∧k10.r7=l10.r7)∧k10.pc=l10.pc)∧k10.st=l10.st)∧k10.prio=l10.prio)∧k10.node=l10.node)∧k10.space=l10.space)∧k10.helper=l10.helper)∧k10.loc=l10.loc)∧k10.word=l10.word)∧k10.badge=l10.badge)∧k10.owes=l10.owes)∧k10.core=l10.core)∧k10.dom=l10.dom))∧(o0∧(∀o10:Nat,let q10:=snX_linesN W t d b w c o10;o10<l0→True∧
    sndW_linesN W t d b w c o10=q10∧(∀r10:Nat,r10<q10→True∧sndW_lines W t d b w c o10 r10=snX_lines W t d b w c o10 r10)))∧k3∧(w0∧(∀u10:Nat,u10<v0→True∧sndW_cores W t d b w c u10=snX_cores W t d b w c u10))∧(y0∧(∀v10:Nat,let w10:=snX_readyN W t d b w c v10;v10<x0→True∧sndW_readyN W t d b w c v10=w10∧(∀x10:Nat,x10<w10→True∧sndW_ready W t d b w c v10 x10=snX_ready W t d b w c v10 x10)))∧o3))
set_option maxHeartbeats 2000000 in
theorem ok_msnC : FnOK Tryz.prog glE 97 c_msnC := ok_of (.cons (ok_actP.up glN_glE) (.cons (ok_wordsP.up glN_glE) (.cons (ok_sndP.up glN_glE) .nil))) false Tryz.call97 Tryz.func97 (fun _ => []) (V := V_msnC) (fun _ => by kernel_rfl) fun ⟨t, d, b, w, c, W⟩ hp => by
  dsimp only [s_msnC] at hp
  dsimp only [V_msnC, tn, w64]
  simp only [std, stb, eq_self, implies_true, Bool.cond_self]
  try simp only [wd_eta]
  obtain ⟨hs, hw⟩ := hp
  refine ⟨ac_of hw hs, fun h => ?_, fun h => ⟨by decide, ?_⟩⟩
  · skip
    have h0 : (actE W t d 7 == 0) = false := by simpa using h
    have hc : (snE W t d b w == 0) = false := by unfold snE; rw [h0]; exact h0
    refine ⟨by unfold snE; rw [h0]; rfl, ?_⟩
    have e_ := snX_f (c := c) hc
    have e_tasks : snX_tasks W t d b w c = _ := congrArg Wd.tasks e_
    have e_linesN : snX_linesN W t d b w c = _ := congrArg Wd.linesN e_
    have e_lines : snX_lines W t d b w c = _ := congrArg Wd.lines e_
    have e_cores : snX_cores W t d b w c = _ := congrArg Wd.cores e_
    have e_readyN : snX_readyN W t d b w c = _ := congrArg Wd.readyN e_
    have e_ready : snX_ready W t d b w c = _ := congrArg Wd.ready e_
    simp only [e_tasks, e_linesN, e_lines, e_cores, e_readyN, e_ready]
    clear e_ e_tasks e_linesN e_lines e_cores e_readyN e_ready
    repeat' (first | exact trivial | exact run20 rfl | rfl | refine And.intro ?_ ?_ | intro _ | fail)
  have h0 : (actE W t d 7 == 0) = true := by simpa using h
  have q : (bif allB 2 fun v3 => !farB ([b, w].getD v3 0) 65535 then (0 : Int) else 1) = bif farB b 65535 || farB w 65535 then 1 else 0 := by
    rw [all2]
    show (bif !farB b 65535 && !farB w 65535 then (0 : Int) else 1) = _
    cases farB b 65535 <;> cases farB w 65535 <;> rfl
  rw [q]
  cases hf : farB b 65535 || farB w 65535 with
  | true =>
    refine ⟨fun _ => ?_, fun hh => absurd hh (by decide)⟩
    have hc : (snE W t d b w == 0) = false := by unfold snE; rw [h0, hf]; rfl
    refine ⟨by unfold snE; rw [h0, hf]; rfl, ?_⟩
    have e_ := snX_f (c := c) hc
    have e_tasks : snX_tasks W t d b w c = _ := congrArg Wd.tasks e_
    have e_linesN : snX_linesN W t d b w c = _ := congrArg Wd.linesN e_
    have e_lines : snX_lines W t d b w c = _ := congrArg Wd.lines e_
    have e_cores : snX_cores W t d b w c = _ := congrArg Wd.cores e_
    have e_readyN : snX_readyN W t d b w c = _ := congrArg Wd.readyN e_
    have e_ready : snX_ready W t d b w c = _ := congrArg Wd.ready e_
    simp only [e_tasks, e_linesN, e_lines, e_cores, e_readyN, e_ready]
    clear e_ e_tasks e_linesN e_lines e_cores e_readyN e_ready
    repeat' (first | exact trivial | exact run20 rfl | rfl | refine And.intro ?_ ?_ | intro _ | fail)
  | false =>
    refine ⟨fun hh => absurd hh (by decide), fun _ => ?_⟩
    have he : snE W t d b w = 0 := by unfold snE; rw [h0, hf]; rfl
    have hc : (snE W t d b w == 0) = true := by rw [he]; rfl
    obtain ⟨t0, t1, a0, a1, k1, k2⟩ := act_0 (eq_of_beq h0)
    refine ⟨do_of hw hs t0 t1 a0 a1 k2, he, ?_⟩
    have e_ := snX_t (c := c) hc
    have e_tasks : snX_tasks W t d b w c = _ := congrArg Wd.tasks e_
    have e_linesN : snX_linesN W t d b w c = _ := congrArg Wd.linesN e_
    have e_lines : snX_lines W t d b w c = _ := congrArg Wd.lines e_
    have e_cores : snX_cores W t d b w c = _ := congrArg Wd.cores e_
    have e_readyN : snX_readyN W t d b w c = _ := congrArg Wd.readyN e_
    have e_ready : snX_ready W t d b w c = _ := congrArg Wd.ready e_
    simp only [e_tasks, e_linesN, e_lines, e_cores, e_readyN, e_ready]
    clear e_ e_tasks e_linesN e_lines e_cores e_readyN e_ready
    repeat' (first | exact trivial | exact run20 rfl | rfl | refine And.intro ?_ ?_ | intro _ | fail)
structure X_msnD where
  (W : Wd) (t d b w : Int) (c : Bool)
def s_msnD : Sy.Spec := ⟨X_msnD, fun ⟨W, t, d, b, w, c⟩ => [wSV W, .fn 97 5 (lsv [.pt true 1 (fun _ => .v (.int .i64 t)), .pt true 1 (fun _ => .v (.int .i64 d)), .pt true 1 (fun _ => .v (.int .i64 b)), .pt true 1 (fun _ => .v (.int .i64 w)), .pt true 1 (fun _ => .v (.bool c))])], fun _ => [], fun ⟨W, _, _, _, _, _⟩ => Sm W ∧ Snd W, fun ⟨W, t, d, b, w, c⟩ => .tp 2 (lsv [wRd (gdW (snE W t d b w) (snX W t d b w c)), .er 35 116 (snE W t d b w) (-1)]), fun _ => [],
  fun args mem => match args with | [a0, a1] => (match isFn 97 a1 with | true => some ⟨wSVD a0, intD (ptF (fnF a1 0) 0), intD (ptF (fnF a1 1) 0), intD (ptF (fnF a1 2) 0), intD (ptF (fnF a1 3) 0), boolD (ptF (fnF a1 4) 0)⟩ | false => none) | _ => none⟩
def c_msnD : Con := ⟨[], s_msnD.g, none⟩
def V_msnD : X_msnD → Prop := fun ⟨W, t, d, b, w, c⟩ => let a0:=W.nRam;let b0:=a0=a0;let c0:=b0∧(∀d0:Nat,d0<a0→True∧W.ram d0=W.ram d0);let e0:=W.nKinds;let g0:=e0=e0;let h0:=g0∧(∀k0:Nat,k0<e0→True∧W.kinds k0=W.kinds k0);let l0:=W.nSlots;let o0:=l0=l0;let q0:=o0∧(∀u0:Nat,let v0:=W.slots u0;let w0:=v0.kind;let x0:=v0.base;let y0:=v0.len;let z0:=v0.mark;let a1:=v0.rights;let b1:=v0.badge;let c1:=v0.from_;u0<l0→((((((True∧w0=w0)∧x0=x0)∧y0=y0)∧z0=z0)∧a1=a1)∧b1=b1)∧c1=c1);let d1:=W.nTasks;let e1:=d1=d1;let g1:=e1∧(∀h1:Nat,let k1:=W.tasks h1;let l1:=k1.prio;let o1:=k1.node;let q1:=k1.space;let u1:=k1.helper;let v1:=k1.loc;let w1:=k1.word;let x1:=k1.badge;let y1:=k1.owes;let z1:=k1.core;let a2:=k1.dom;h1<d1→(((((((((((((((((((True∧k1.r0=k1.r0)∧k1.r1=k1.r1)∧k1.r2=k1.r2)∧k1.r3=k1.r3)∧k1.r4=k1.r4)∧k1.r5=k1.r5)∧k1.r6=k1.r6)∧k1.r7=k1.r7)∧k1.pc=k1.pc)∧k1.st=k1.st)∧l1=l1)∧o1=o1)∧q1=q1)∧u1=u1)∧v1=v1)∧w1=w1)∧x1=x1)∧y1=y1)∧z1=z1)∧a2=a2);let b2:=W.nLines;let c2:=b2=b2;let d2:=c2∧(∀e2:Nat,let g2:=W.linesN e2;e2<b2→True∧g2=g2∧(∀h2:Nat,h2<g2→True∧W.lines e2 h2=W.lines e2 h2));let k2:=W.nBits;let l2:=k2=k2;let o2:=l2∧(∀q2:Nat,q2<k2→True∧W.bits q2=W.bits q2);let u2:=W.nCores;let v2:=u2=u2;let w2:=v2∧(∀x2:Nat,x2<u2→True∧W.cores x2=W.cores x2);let y2:=W.nReady;let z2:=y2=y2;let a3:=z2∧(∀b3:Nat,let c3:=W.readyN b3;b3<y2→True∧c3=c3∧(∀d3:Nat,d3<c3→True∧W.ready b3 d3=W.ready b3 d3));let e3:=W.nTlbs;let g3:=e3=e3;
    let h3:=g3∧(∀k3:Nat,let l3:=W.tlbsN k3;k3<e3→True∧l3=l3∧(∀o3:Nat,let q3:=W.tlbs k3 o3;let u3:=q3.sp;let v3:=q3.pg;let w3:=q3.fr;let x3:=q3.wr;o3<l3→(((True∧u3=u3)∧v3=v3)∧w3=w3)∧x3=x3));let y3:=W.nDoms;let z3:=y3=y3;let a4:=z3∧(∀b4:Nat,b4<y3→True∧W.doms b4=W.doms b4);let c4:=W.time=W.time;let d4:=(((((((((((True∧c0)∧h0)∧q0)∧g1)∧d2)∧o2)∧w2)∧a3)∧h3)∧a4)∧c4)∧True;let e4:=tn 10 True;let g4:=snE W t d b w;let h4:=gdW g4 (snX W t d b w c);let k4:=h4.nRam;let l4:=h4.nKinds;let o4:=h4.nSlots;let q4:=h4.nTasks;let u4:=h4.nLines;let v4:=h4.nBits;let w4:=h4.nCores;let x4:=h4.nReady;let y4:=h4.nTlbs;let z4:=h4.nDoms;let a5:=h4.time;let b5:=True∧((((((((((True∧k4=0)∧l4=0)∧o4=0)∧q4=0)∧u4=0)∧v4=0)∧w4=0)∧x4=0)∧y4=0)∧z4=0)∧0=a5;let c5:=((-1):Int)=(-1);let d5:=0=0;let e5:=g4 !=0;tn 2 ((d4∧True∧s_wCheck.match_1 (fun g5:X_wCheck=>Prop) (X_wCheck.mk W) (fun h5:Wd=>Sm h5))∧((wE W !=0)=true→e4∧(b5∧(8:Int)≠0∧g4=8∧c5)∧True)∧((wE W !=0)=false→(d4∧True∧s_cloneW.match_1 (fun k5:X_cloneW=>Prop) (X_cloneW.mk W) (fun l5:Wd=>Lg l5))∧e4∧((SV.ptr 0 0 none 0 0=SV.ptr 0 0 none 0 0∧(True∧t=t)∧(True∧d=d)∧(True∧b=b)∧(True∧w=w)∧(True∧c=c)∧True)∧((((((((((((True∧d5∧b0)∧d5∧g0)∧d5∧o0)∧d5∧e1)∧d5∧c2)∧d5∧l2)∧d5∧v2)∧d5∧z2)∧d5∧g3)∧d5∧z3)∧c4)∧c0∧h0∧q0∧g1∧d2∧o2∧w2∧a3∧h3∧a4∧True)∧Sm W∧Snd W)∧(e5=true→e4∧(b5∧g4=g4∧c5)∧True)∧(e5=false→e4∧((True∧((((((((((True∧a0=k4∧(∀o5:Nat,o5<k4→True∧W.ram (0+o5)=h4.ram o5))∧e0=l4∧(∀q5:Nat,q5<l4→True∧W.kinds (0+q5)=h4.kinds q5))∧l0=o4∧(∀u5:Nat,let v5:=W.slots (0+u5);let w5:=h4.slots u5;
    u5<o4→((((((True∧v5.kind=w5.kind)∧v5.base=w5.base)∧v5.len=w5.len)∧v5.mark=w5.mark)∧v5.rights=w5.rights)∧v5.badge=w5.badge)∧v5.from_=w5.from_))∧d1=q4∧(∀x5:Nat,let y5:=snX_tasks W t d b w c (0+x5);let z5:=h4.tasks x5;x5<q4→(((((((((((((((((((True∧y5.r0=z5.r0)∧y5.r1=z5.r1)∧y5.r2=z5.r2)∧y5.r3=z5.r3)∧y5.r4=z5.r4)∧y5.r5=z5.r5)∧y5.r6=z5.r6)∧y5.r7=z5.r7)∧y5.pc=z5.pc)∧y5.st=z5.st)∧y5.prio=z5.prio)∧y5.node=z5.node)∧y5.space=z5.space)∧y5.helper=z5.helper)∧y5.loc=z5.loc)∧y5.word=z5.word)∧y5.badge=z5.badge)∧y5.owes=z5.owes)∧y5.core=z5.core)∧y5.dom=z5.dom))∧b2=u4∧(∀a6:Nat,a6<u4→True∧snX_linesN W t d b w c (0+a6)=h4.linesN a6∧(∀b6:Nat,b6<h4.linesN a6→True∧snX_lines W t d b w c (0+a6) (0+b6)=h4.lines a6 b6)))∧k2=v4∧(∀c6:Nat,c6<v4→True∧W.bits (0+c6)=h4.bits c6))∧u2=w4∧(∀d6:Nat,d6<w4→True∧snX_cores W t d b w c (0+d6)=h4.cores d6))∧y2=x4∧(∀e6:Nat,e6<x4→True∧snX_readyN W t d b w c (0+e6)=h4.readyN e6∧(∀g6:Nat,g6<h4.readyN e6→True∧snX_ready W t d b w c (0+e6) (0+g6)=h4.ready e6 g6)))∧e3=y4∧(∀h6:Nat,let k6:=0+h6;h6<y4→True∧W.tlbsN k6=h4.tlbsN h6∧(∀l6:Nat,let o6:=W.tlbs k6 (0+l6);let q6:=h4.tlbs h6 l6;l6<h4.tlbsN h6→(((True∧o6.sp=q6.sp)∧o6.pg=q6.pg)∧o6.fr=q6.fr)∧o6.wr=q6.wr)))∧y3=z4∧(∀u6:Nat,u6<z4→True∧W.doms (0+u6)=h4.doms u6))∧W.time=a5)∧g4=0∧c5)∧True)))
set_option maxHeartbeats 2000000 in
theorem ok_msnD : FnOK Tryz.prog glE 66 c_msnD := ok_of (.cons (ok_wCheck.up glN_glE) (.cons (ok_cloneW.up glN_glE) (.cons ok_msnC .nil))) false Tryz.call66 Tryz.func66 (fun _ => []) (V := V_msnD) (fun _ => by kernel_rfl) fun ⟨W, t, d, b, w, c⟩ hp => by
  dsimp only [s_msnD] at hp
  dsimp only [V_msnD, tn, w64]
  simp only [std, stb, eq_self, implies_true, Bool.cond_self]
  obtain ⟨hs, hw⟩ := hp
  have h0 := snd0 hw
  refine ⟨hs, fun h => absurd (by simpa using h0) (by simpa using h), fun _ => ⟨lg_sm hs, ⟨hs, hw⟩, fun h2 => ?_, fun h2 => ?_⟩⟩
  · simp only [fun X => gdW_no X (ne0 h2)]
    repeat' (first | exact trivial | rfl | refine And.intro ?_ ?_ | intro _ | exact absurd ‹_› (Nat.not_lt_zero _) | fail)
  · simp only [fun X => gdW_yes X (eq0 h2)]
    repeat' (first | exact trivial | rfl | refine And.intro ?_ ?_ | intro _ | exact absurd ‹_› (Nat.not_lt_zero _) | fail)
    exact eq_of_beq (eq0 h2)
structure X_msnX where
  (W : Wd) (t d b w : Int) (c : Bool)
def s_msnX : Sy.Spec := ⟨X_msnX, fun ⟨W, t, d, b, w, c⟩ => [wSV W, .v (.int .i64 t), .v (.int .i64 d), .v (.int .i64 b), .v (.int .i64 w), .v (.bool c)], fun _ => [], fun ⟨W, _, _, _, _, _⟩ => Sm W ∧ Snd W, fun ⟨W, t, d, b, w, c⟩ => .tp 2 (lsv [wRd (gdW (snE W t d b w) (snX W t d b w c)), .er 35 116 (snE W t d b w) (-1)]), fun _ => [],
  fun args mem => match args with | [a0, a1, a2, a3, a4, a5] => some ⟨wSVD a0, intD (a1), intD (a2), intD (a3), intD (a4), boolD (a5)⟩ | _ => none⟩
def c_msnX : Con := ⟨[], s_msnX.g, none⟩
def V_msnX : X_msnX → Prop := fun ⟨W, t, d, b, w, c⟩ => let a0:=W.nKinds;let b0:=W.nSlots;let c0:=W.nTasks;let d0:=W.nLines;let e0:=W.nCores;let g0:=W.nReady;let h0:=snE W t d b w;let k0:=gdW h0 (snX W t d b w c);let l0:=k0.nRam;let o0:=k0.nKinds;let q0:=k0.nSlots;let u0:=k0.nTasks;let v0:=k0.nLines;let w0:=k0.nBits;let x0:=k0.nCores;let y0:=k0.nReady;let z0:=k0.nTlbs;let a1:=k0.nDoms;let b1:=k0.time;tn 7 ((((((((((((((True∧W.nRam=W.nRam∧(∀c1:Nat,c1<W.nRam→True∧W.ram c1=W.ram c1))∧a0=a0∧(∀d1:Nat,d1<a0→True∧W.kinds d1=W.kinds d1))∧b0=b0∧(∀e1:Nat,let g1:=W.slots e1;let h1:=g1.kind;let k1:=g1.base;let l1:=g1.len;let o1:=g1.mark;let q1:=g1.rights;let u1:=g1.badge;let v1:=g1.from_;e1<b0→((((((True∧h1=h1)∧k1=k1)∧l1=l1)∧o1=o1)∧q1=q1)∧u1=u1)∧v1=v1))∧c0=c0∧(∀w1:Nat,let x1:=W.tasks w1;let y1:=x1.prio;let z1:=x1.node;let a2:=x1.space;let b2:=x1.helper;let c2:=x1.loc;let d2:=x1.word;let e2:=x1.badge;let g2:=x1.owes;let h2:=x1.core;let k2:=x1.dom;w1<c0→(((((((((((((((((((True∧x1.r0=x1.r0)∧x1.r1=x1.r1)∧x1.r2=x1.r2)∧x1.r3=x1.r3)∧x1.r4=x1.r4)∧x1.r5=x1.r5)∧x1.r6=x1.r6)∧x1.r7=x1.r7)∧x1.pc=x1.pc)∧x1.st=x1.st)∧y1=y1)∧z1=z1)∧a2=a2)∧b2=b2)∧c2=c2)∧d2=d2)∧e2=e2)∧g2=g2)∧h2=h2)∧k2=k2))∧d0=d0∧(∀l2:Nat,let o2:=W.linesN l2;l2<d0→True∧o2=o2∧(∀q2:Nat,q2<o2→True∧W.lines l2 q2=W.lines l2 q2)))∧W.nBits=W.nBits∧(∀u2:Nat,u2<W.nBits→True∧W.bits u2=W.bits u2))∧e0=e0∧(∀v2:Nat,v2<e0→True∧W.cores v2=W.cores v2))∧g0=g0∧(∀w2:Nat,let x2:=W.readyN w2;w2<g0→True∧x2=x2∧(∀y2:Nat,y2<x2→True∧W.ready w2 y2=W.ready w2 y2)))∧W.nTlbs=W.nTlbs∧(∀z2:Nat,let a3:=W.tlbsN z2;z2<W.nTlbs→
    True∧a3=a3∧(∀b3:Nat,let c3:=W.tlbs z2 b3;let d3:=c3.sp;let e3:=c3.pg;let g3:=c3.fr;let h3:=c3.wr;b3<a3→(((True∧d3=d3)∧e3=e3)∧g3=g3)∧h3=h3)))∧W.nDoms=W.nDoms∧(∀k3:Nat,k3<W.nDoms→True∧W.doms k3=W.doms k3))∧W.time=W.time)∧((((tn 2 (t=t)∧True∧d=d)∧True∧b=b)∧True∧w=w)∧True∧c=c)∧True)∧True∧Sm W∧Snd W)∧tn 10 True∧((True∧((((((((((True∧l0=l0∧(∀l3:Nat,l3<l0→True∧k0.ram l3=k0.ram l3))∧o0=o0∧(∀o3:Nat,o3<o0→True∧k0.kinds o3=k0.kinds o3))∧q0=q0∧(∀q3:Nat,let u3:=k0.slots q3;let v3:=u3.kind;let w3:=u3.base;let x3:=u3.len;let y3:=u3.mark;let z3:=u3.rights;let a4:=u3.badge;let b4:=u3.from_;q3<q0→((((((True∧v3=v3)∧w3=w3)∧x3=x3)∧y3=y3)∧z3=z3)∧a4=a4)∧b4=b4))∧u0=u0∧(∀c4:Nat,let d4:=k0.tasks c4;let e4:=d4.prio;let g4:=d4.node;let h4:=d4.space;let k4:=d4.helper;let l4:=d4.loc;let o4:=d4.word;let q4:=d4.badge;let u4:=d4.owes;let v4:=d4.core;let w4:=d4.dom;c4<u0→(((((((((((((((((((True∧d4.r0=d4.r0)∧d4.r1=d4.r1)∧d4.r2=d4.r2)∧d4.r3=d4.r3)∧d4.r4=d4.r4)∧d4.r5=d4.r5)∧d4.r6=d4.r6)∧d4.r7=d4.r7)∧d4.pc=d4.pc)∧d4.st=d4.st)∧e4=e4)∧g4=g4)∧h4=h4)∧k4=k4)∧l4=l4)∧o4=o4)∧q4=q4)∧u4=u4)∧v4=v4)∧w4=w4))∧v0=v0∧(∀x4:Nat,let y4:=k0.linesN x4;x4<v0→True∧y4=y4∧(∀z4:Nat,z4<y4→True∧k0.lines x4 z4=k0.lines x4 z4)))∧w0=w0∧(∀a5:Nat,a5<w0→True∧k0.bits a5=k0.bits a5))∧x0=x0∧(∀b5:Nat,b5<x0→True∧k0.cores b5=k0.cores b5))∧y0=y0∧(∀c5:Nat,let d5:=k0.readyN c5;c5<y0→True∧d5=d5∧(∀e5:Nat,e5<d5→True∧k0.ready c5 e5=k0.ready c5 e5)))∧z0=z0∧(∀g5:Nat,let h5:=k0.tlbsN g5;g5<z0→True∧h5=h5∧(∀k5:Nat,let l5:=k0.tlbs g5 k5;let o5:=l5.sp;
    let q5:=l5.pg;let u5:=l5.fr;let v5:=l5.wr;k5<h5→(((True∧o5=o5)∧q5=q5)∧u5=u5)∧v5=v5)))∧a1=a1∧(∀w5:Nat,w5<a1→True∧k0.doms w5=k0.doms w5))∧b1=b1)∧h0=h0∧((-1):Int)=(-1))∧True)
set_option maxHeartbeats 2000000 in
theorem ok_msnX : FnOK Tryz.prog glE 37 c_msnX := ok_of (.cons ok_msnD .nil) false Tryz.call37 Tryz.func37 (fun _ => []) (V := V_msnX) (fun _ => by kernel_rfl) fun ⟨W, t, d, b, w, c⟩ hp => by
  dsimp only [s_msnX] at hp
  dsimp only [V_msnX, tn, w64]
  simp only [std, stb, eq_self, implies_true, Bool.cond_self]
  try simp only [wd_eta]
  exact hp
structure X_msnY where
  (W : Wd) (t d b w : Int) (c : Bool)
def s_msnY : Sy.Spec := ⟨X_msnY, fun ⟨W, t, d, b, w, c⟩ => [wSV W, .v (.int .i64 t), .v (.int .i64 d), .v (.int .i64 b), .v (.int .i64 w), .v (.bool c)], fun _ => [], fun ⟨W, _, _, _, _, _⟩ => Sm W ∧ wE W ≠ 0, fun _ => .tp 2 (lsv [wRd oW, .er 35 116 8 (-1)]), fun _ => [],
  fun args mem => match args with | [a0, a1, a2, a3, a4, a5] => some ⟨wSVD a0, intD (a1), intD (a2), intD (a3), intD (a4), boolD (a5)⟩ | _ => none⟩
def c_msnY : Con := ⟨[], s_msnY.g, none⟩
def V_msnY : X_msnY → Prop := fun ⟨W, _, _, _, _, _⟩ => let a0:=W.nKinds;let b0:=W.nSlots;let c0:=W.nTasks;let d0:=W.nLines;let e0:=W.nCores;let g0:=W.nReady;let h0:=(0:Int)=0;let k0:=True∧h0;let l0:=0=0∧(∀o0:Nat,o0<0→k0);let q0:=True∧l0;let u0:=(k0∧h0)∧h0;let v0:=(((u0∧h0)∧h0)∧h0)∧h0;let w0:=((-1):Int)=(-1);let x0:=0=0∧(∀y0:Nat,y0<0→q0);tn 7 ((((((((((((((True∧W.nRam=W.nRam∧(∀z0:Nat,z0<W.nRam→True∧W.ram z0=W.ram z0))∧a0=a0∧(∀a1:Nat,a1<a0→True∧W.kinds a1=W.kinds a1))∧b0=b0∧(∀b1:Nat,let c1:=W.slots b1;let d1:=c1.kind;let e1:=c1.base;let g1:=c1.len;let h1:=c1.mark;let k1:=c1.rights;let l1:=c1.badge;let o1:=c1.from_;b1<b0→((((((True∧d1=d1)∧e1=e1)∧g1=g1)∧h1=h1)∧k1=k1)∧l1=l1)∧o1=o1))∧c0=c0∧(∀q1:Nat,let u1:=W.tasks q1;let v1:=u1.prio;let w1:=u1.node;let x1:=u1.space;let y1:=u1.helper;let z1:=u1.loc;let a2:=u1.word;let b2:=u1.badge;let c2:=u1.owes;let d2:=u1.core;let e2:=u1.dom;q1<c0→(((((((((((((((((((True∧u1.r0=u1.r0)∧u1.r1=u1.r1)∧u1.r2=u1.r2)∧u1.r3=u1.r3)∧u1.r4=u1.r4)∧u1.r5=u1.r5)∧u1.r6=u1.r6)∧u1.r7=u1.r7)∧u1.pc=u1.pc)∧u1.st=u1.st)∧v1=v1)∧w1=w1)∧x1=x1)∧y1=y1)∧z1=z1)∧a2=a2)∧b2=b2)∧c2=c2)∧d2=d2)∧e2=e2))∧d0=d0∧(∀g2:Nat,let h2:=W.linesN g2;g2<d0→True∧h2=h2∧(∀k2:Nat,k2<h2→True∧W.lines g2 k2=W.lines g2 k2)))∧W.nBits=W.nBits∧(∀l2:Nat,l2<W.nBits→True∧W.bits l2=W.bits l2))∧e0=e0∧(∀o2:Nat,o2<e0→True∧W.cores o2=W.cores o2))∧g0=g0∧(∀q2:Nat,let u2:=W.readyN q2;q2<g0→True∧u2=u2∧(∀v2:Nat,v2<u2→True∧W.ready q2 v2=W.ready q2 v2)))∧W.nTlbs=W.nTlbs∧(∀w2:Nat,let x2:=W.tlbsN w2;w2<W.nTlbs→True∧x2=x2∧(∀y2:Nat,let z2:=W.tlbs w2 y2;let a3:=z2.sp;
    let b3:=z2.pg;let c3:=z2.fr;let d3:=z2.wr;y2<x2→(((True∧a3=a3)∧b3=b3)∧c3=c3)∧d3=d3)))∧W.nDoms=W.nDoms∧(∀e3:Nat,e3<W.nDoms→True∧W.doms e3=W.doms e3))∧W.time=W.time)∧True∧True)∧True∧Sm W∧wE W≠0)∧tn 10 True∧((True∧(((((((((q0∧l0)∧0=0∧(∀g3:Nat,g3<0→v0))∧0=0∧(∀h3:Nat,h3<0→((((((((((((v0∧h0)∧h0)∧h0)∧h0)∧w0)∧w0)∧w0)∧w0)∧h0)∧h0)∧w0)∧h0)∧h0))∧x0)∧l0)∧l0)∧x0)∧0=0∧(∀k3:Nat,k3<0→True∧0=0∧(∀l3:Nat,l3<0→u0∧false=false)))∧l0)∧h0)∧(8:Int)=8∧w0)∧True)
set_option maxHeartbeats 2000000 in
theorem ok_msnY : FnOK Tryz.prog glE 37 c_msnY := ok_of (.cons ok_done8 .nil) false Tryz.call37 Tryz.func37 (fun _ => []) (V := V_msnY) (fun _ => by kernel_rfl) fun ⟨W, t, d, b, w, c⟩ hp => by
  dsimp only [s_msnY] at hp
  dsimp only [V_msnY, tn, w64]
  simp only [std, stb, eq_self, implies_true, Bool.cond_self]
  try simp only [wd_eta]
  exact hp
structure X_msnR where
  (t d b w : Int) (c : Bool) (W : Wd)
def s_msnR : Sy.Spec := ⟨X_msnR, fun ⟨t, d, b, w, c, _⟩ => [.ptr 0 0 none 0 0, .pt true 1 (fun _ => .v (.int .i64 t)), .pt true 1 (fun _ => .v (.int .i64 d)), .pt true 1 (fun _ => .v (.int .i64 b)), .pt true 1 (fun _ => .v (.int .i64 w)), .pt true 1 (fun _ => .v (.bool c))], fun ⟨_, _, _, _, _, W⟩ => wMem W, fun ⟨_, _, _, _, _, W⟩ => Sm W ∧ Snd W, fun ⟨t, d, b, w, _, W⟩ => .v (.int .i64 (snE W t d b w)), fun ⟨t, d, b, w, c, W⟩ => wMem (snX W t d b w c),
  fun args mem => match args with | [a0, a1, a2, a3, a4, a5] => some ⟨intD (ptF a1 0), intD (ptF a2 0), intD (ptF a3 0), intD (ptF a4 0), boolD (ptF a5 0), wMJD mem 0⟩ | _ => none⟩
def c_msnR : Con := ⟨[true], s_msnR.g, none⟩
def V_msnR : X_msnR → Prop := fun ⟨t, d, b, w, c, W⟩ => let a0:=W.nRam;let b0:=a0=a0;let c0:=W.nKinds;let d0:=c0=c0;let e0:=W.nSlots;let g0:=e0=e0;let h0:=W.nTasks;let k0:=h0=h0;let l0:=W.nLines;let o0:=l0=l0;let q0:=W.nBits;let u0:=q0=q0;let v0:=W.nCores;let w0:=v0=v0;let x0:=W.nReady;let y0:=x0=x0;let z0:=W.nTlbs;let a1:=z0=z0;let b1:=W.nDoms;let c1:=b1=b1;let d1:=W.time=W.time;let e1:=Wd.mk a0 (fun g1:Nat=>W.ram (0+g1)) c0 (fun h1:Nat=>W.kinds (0+h1)) e0 (fun k1:Nat=>W.slots (0+k1)) h0 (fun l1:Nat=>W.tasks (0+l1)) l0 (fun o1:Nat=>W.linesN (0+o1)) (fun q1:Nat=>fun u1:Nat=>W.lines (0+q1) (0+u1)) q0 (fun v1:Nat=>W.bits (0+v1)) v0 (fun w1:Nat=>W.cores (0+w1)) x0 (fun x1:Nat=>W.readyN (0+x1)) (fun y1:Nat=>fun z1:Nat=>W.ready (0+y1) (0+z1)) z0 (fun a2:Nat=>W.tlbsN (0+a2)) (fun b2:Nat=>fun c2:Nat=>W.tlbs (0+b2) (0+c2)) b1 (fun d2:Nat=>W.doms (0+d2)) W.time;let e2:=actE e1 t d 7;let g2:=e2==0;let h2:=g2=true;let k2:=(65535:Int)=65535∧True;let l2:=cond g2 (cond (farB b 65535) true (farB w 65535)) false;let o2:=0=0;let q2:=((((((((((True∧o2∧b0)∧o2∧d0)∧o2∧g0)∧o2∧k0)∧o2∧o0)∧o2∧u0)∧o2∧w0)∧o2∧y0)∧o2∧a1)∧o2∧c1)∧d1;let u2:=b0∧(∀v2:Nat,v2<a0→True∧W.ram v2=W.ram v2);let w2:=d0∧(∀x2:Nat,x2<c0→True∧W.kinds x2=W.kinds x2);let y2:=g0∧(∀z2:Nat,let a3:=W.slots z2;let b3:=a3.kind;let c3:=a3.base;let d3:=a3.len;let e3:=a3.mark;let g3:=a3.rights;let h3:=a3.badge;let k3:=a3.from_;z2<e0→((((((True∧b3=b3)∧c3=c3)∧d3=d3)∧e3=e3)∧g3=g3)∧h3=h3)∧k3=k3);let l3:=u0∧(∀o3:Nat,o3<q0→True∧W.bits o3=W.bits o3);
    let q3:=(a1∧(∀u3:Nat,let v3:=W.tlbsN u3;u3<z0→True∧v3=v3∧(∀w3:Nat,let x3:=W.tlbs u3 w3;let y3:=x3.sp;let z3:=x3.pg;let a4:=x3.fr;let b4:=x3.wr;w3<v3→(((True∧y3=y3)∧z3=z3)∧a4=a4)∧b4=b4)))∧(c1∧(∀c4:Nat,c4<b1→True∧W.doms c4=W.doms c4))∧True;let d4:=(SV.ptr 0 0 none 0 0=SV.ptr 0 0 none 0 0∧t=t∧d=d∧b=b∧w=w∧c=c∧True)∧(q2∧u2∧w2∧y2∧(k0∧(∀e4:Nat,let g4:=W.tasks e4;let h4:=g4.prio;let k4:=g4.node;let l4:=g4.space;let o4:=g4.helper;let q4:=g4.loc;let u4:=g4.word;let v4:=g4.badge;let w4:=g4.owes;let x4:=g4.core;let y4:=g4.dom;e4<h0→(((((((((((((((((((True∧g4.r0=g4.r0)∧g4.r1=g4.r1)∧g4.r2=g4.r2)∧g4.r3=g4.r3)∧g4.r4=g4.r4)∧g4.r5=g4.r5)∧g4.r6=g4.r6)∧g4.r7=g4.r7)∧g4.pc=g4.pc)∧g4.st=g4.st)∧h4=h4)∧k4=k4)∧l4=l4)∧o4=o4)∧q4=q4)∧u4=u4)∧v4=v4)∧w4=w4)∧x4=x4)∧y4=y4))∧(o0∧(∀z4:Nat,let a5:=W.linesN z4;z4<l0→True∧a5=a5∧(∀b5:Nat,b5<a5→True∧W.lines z4 b5=W.lines z4 b5)))∧l3∧(w0∧(∀c5:Nat,c5<v0→True∧W.cores c5=W.cores c5))∧(y0∧(∀d5:Nat,let e5:=W.readyN d5;d5<x0→True∧e5=e5∧(∀g5:Nat,g5<e5→True∧W.ready d5 g5=W.ready d5 g5)))∧q3)∧s_sndR.match_1 (fun h5:X_sndR=>Prop) (X_sndR.mk t d b w c W) (fun k5:Int=>fun l5:Int=>fun o5:Int=>fun q5:Int=>fun u5:Bool=>fun v5:Wd=>DoP v5 k5 l5);let w5:=snE W t d b w;let x5:=1=w5;
    let y5:=q2∧u2∧w2∧y2∧(k0∧(∀z5:Nat,let a6:=sndW_tasks W t d b w c z5;let b6:=snX_tasks W t d b w c z5;z5<h0→(((((((((((((((((((True∧a6.r0=b6.r0)∧a6.r1=b6.r1)∧a6.r2=b6.r2)∧a6.r3=b6.r3)∧a6.r4=b6.r4)∧a6.r5=b6.r5)∧a6.r6=b6.r6)∧a6.r7=b6.r7)∧a6.pc=b6.pc)∧a6.st=b6.st)∧a6.prio=b6.prio)∧a6.node=b6.node)∧a6.space=b6.space)∧a6.helper=b6.helper)∧a6.loc=b6.loc)∧a6.word=b6.word)∧a6.badge=b6.badge)∧a6.owes=b6.owes)∧a6.core=b6.core)∧a6.dom=b6.dom))∧(o0∧(∀c6:Nat,let d6:=snX_linesN W t d b w c c6;c6<l0→True∧sndW_linesN W t d b w c c6=d6∧(∀e6:Nat,e6<d6→True∧sndW_lines W t d b w c c6 e6=snX_lines W t d b w c c6 e6)))∧l3∧(w0∧(∀g6:Nat,g6<v0→True∧sndW_cores W t d b w c g6=snX_cores W t d b w c g6))∧(y0∧(∀h6:Nat,let k6:=snX_readyN W t d b w c h6;h6<x0→True∧sndW_readyN W t d b w c h6=k6∧(∀l6:Nat,l6<k6→True∧sndW_ready W t d b w c h6 l6=snX_ready W t d b w c h6 l6)))∧q3;
    let o6:=q2∧u2∧w2∧y2∧(k0∧(∀q6:Nat,let u6:=W.tasks q6;let v6:=snX_tasks W t d b w c q6;q6<h0→(((((((((((((((((((True∧u6.r0=v6.r0)∧u6.r1=v6.r1)∧u6.r2=v6.r2)∧u6.r3=v6.r3)∧u6.r4=v6.r4)∧u6.r5=v6.r5)∧u6.r6=v6.r6)∧u6.r7=v6.r7)∧u6.pc=v6.pc)∧u6.st=v6.st)∧u6.prio=v6.prio)∧u6.node=v6.node)∧u6.space=v6.space)∧u6.helper=v6.helper)∧u6.loc=v6.loc)∧u6.word=v6.word)∧u6.badge=v6.badge)∧u6.owes=v6.owes)∧u6.core=v6.core)∧u6.dom=v6.dom))∧(o0∧(∀w6:Nat,let x6:=snX_linesN W t d b w c w6;w6<l0→True∧W.linesN w6=x6∧(∀y6:Nat,y6<x6→True∧W.lines w6 y6=snX_lines W t d b w c w6 y6)))∧l3∧(w0∧(∀z6:Nat,z6<v0→True∧W.cores z6=snX_cores W t d b w c z6))∧(y0∧(∀a7:Nat,let b7:=snX_readyN W t d b w c a7;a7<x0→True∧W.readyN a7=b7∧(∀c7:Nat,c7<b7→True∧W.ready a7 c7=snX_ready W t d b w c a7 c7)))∧q3;let d7:=e2=w5;(((((((((((((True∧b0∧(∀e7:Nat,e7<a0→True∧W.ram (0+e7)=W.ram (0+e7)))∧d0∧(∀g7:Nat,let h7:=W.kinds (0+g7);g7<c0→True∧h7=h7))∧g0∧(∀k7:Nat,let l7:=W.slots (0+k7);let o7:=l7.kind;let q7:=l7.base;let u7:=l7.len;let v7:=l7.mark;let w7:=l7.rights;let x7:=l7.badge;let y7:=l7.from_;k7<e0→((((((True∧o7=o7)∧q7=q7)∧u7=u7)∧v7=v7)∧w7=w7)∧x7=x7)∧y7=y7))∧k0∧(∀z7:Nat,let a8:=W.tasks (0+z7);let b8:=a8.r0;let c8:=a8.r1;let d8:=a8.r2;let e8:=a8.r3;let g8:=a8.r4;let h8:=a8.r5;let k8:=a8.r6;let l8:=a8.r7;let o8:=a8.pc;let q8:=a8.st;let r8:=a8.prio;let u8:=a8.node;let v8:=a8.space;let w8:=a8.helper;let x8:=a8.loc;let y8:=a8.word;let z8:=a8.badge;let a9:=a8.owes;let b9:=a8.core;let c9:=a8.dom;z7<h0→(((((((((((((((((((True∧b8=b8)∧
    c8=c8)∧d8=d8)∧e8=e8)∧g8=g8)∧h8=h8)∧k8=k8)∧l8=l8)∧o8=o8)∧q8=q8)∧r8=r8)∧u8=u8)∧v8=v8)∧w8=w8)∧x8=x8)∧y8=y8)∧z8=z8)∧a9=a9)∧b9=b9)∧c9=c9))∧o0∧(∀d9:Nat,let e9:=W.linesN (0+d9);d9<l0→True∧e9=e9∧(∀g9:Nat,let h9:=W.lines (0+d9) (0+g9);g9<e9→True∧h9=h9)))∧u0∧(∀k9:Nat,k9<q0→True∧W.bits (0+k9)=W.bits (0+k9)))∧w0∧(∀l9:Nat,let o9:=W.cores (0+l9);l9<v0→True∧o9=o9))∧y0∧(∀q9:Nat,let r9:=W.readyN (0+q9);q9<x0→True∧r9=r9∧(∀u9:Nat,let v9:=W.ready (0+q9) (0+u9);u9<r9→True∧v9=v9)))∧a1∧(∀w9:Nat,let x9:=0+w9;let y9:=W.tlbsN x9;w9<z0→True∧y9=y9∧(∀z9:Nat,let a10:=W.tlbs x9 (0+z9);let b10:=a10.sp;let c10:=a10.pg;let d10:=a10.fr;let e10:=a10.wr;z9<y9→(((True∧b10=b10)∧c10=c10)∧d10=d10)∧e10=e10)))∧c1∧(∀g10:Nat,g10<b1→True∧W.doms (0+g10)=W.doms (0+g10)))∧d1)∧t=t∧d=d∧(7:Int)=7∧True)∧True∧s_actR.match_1 (fun h10:X_actR=>Prop) (X_actR.mk e1 t d 7) (fun k10:Wd=>fun l10:Int=>fun o10:Int=>fun q10:Int=>AcP k10))∧(h2→(b=b∧k2)∧True∧True)∧(farB b 65535=false→h2→(w=w∧k2)∧True∧True)∧(l2=true→(((1:Int)==0)=true→d4∧x5∧y5)∧(((1:Int)==0)=false→x5∧o6))∧(l2=false→(h2→d4∧d7∧y5)∧(g2=false→d7∧o6))
set_option maxHeartbeats 2000000 in
theorem ok_msnR : FnOK Tryz.prog glE 38 c_msnR := ok_of (.cons (ok_actR.up glN_glE) (.cons (ok_far.up glN_glE) (.cons (ok_sndR.up glN_glE) .nil))) false Tryz.call38 Tryz.func38 (fun _ => []) (V := V_msnR) (fun _ => by kernel_rfl) fun ⟨t, d, b, w, c, W⟩ hp => by
  dsimp only [s_msnR] at hp
  dsimp only [V_msnR, tn, w64]
  simp only [std, stb, eq_self, implies_true, Bool.cond_self]
  try simp only [wd_eta]
  obtain ⟨hs, hw⟩ := hp
  refine ⟨ac_of hw hs, fun h => ?_, fun h => ?_⟩
  · have h0 : (actE W t d 7 == 0) = true := by cases q : (actE W t d 7 == 0) <;> simp [q] at h ⊢
    have hf : (farB b 65535 || farB w 65535) = true := by rw [h0] at h; simpa using h
    refine ⟨fun hh => absurd hh (by decide), fun _ => ?_⟩
    have hc : (snE W t d b w == 0) = false := by unfold snE; rw [h0, hf]; rfl
    refine ⟨by unfold snE; rw [h0, hf]; rfl, ?_⟩
    have e_ := snX_f (c := c) hc
    have e_tasks : snX_tasks W t d b w c = _ := congrArg Wd.tasks e_
    have e_linesN : snX_linesN W t d b w c = _ := congrArg Wd.linesN e_
    have e_lines : snX_lines W t d b w c = _ := congrArg Wd.lines e_
    have e_cores : snX_cores W t d b w c = _ := congrArg Wd.cores e_
    have e_readyN : snX_readyN W t d b w c = _ := congrArg Wd.readyN e_
    have e_ready : snX_ready W t d b w c = _ := congrArg Wd.ready e_
    simp only [e_tasks, e_linesN, e_lines, e_cores, e_readyN, e_ready]
    clear e_ e_tasks e_linesN e_lines e_cores e_readyN e_ready
    repeat' (first | exact trivial | exact run20 rfl | rfl | refine And.intro ?_ ?_ | intro _ | fail)
  refine ⟨fun h0 => ?_, fun h => ?_⟩
  · have hf : (farB b 65535 || farB w 65535) = false := by rw [h0] at h; simpa using h
    have he : snE W t d b w = 0 := by unfold snE; rw [h0, hf]; rfl
    have hc : (snE W t d b w == 0) = true := by rw [he]; rfl
    obtain ⟨t0, t1, a0, a1, k1, k2⟩ := act_0 (eq_of_beq h0)
    refine ⟨do_of hw hs t0 t1 a0 a1 k2, eq_of_beq h0 |>.trans he.symm, ?_⟩
    have e_ := snX_t (c := c) hc
    have e_tasks : snX_tasks W t d b w c = _ := congrArg Wd.tasks e_
    have e_linesN : snX_linesN W t d b w c = _ := congrArg Wd.linesN e_
    have e_lines : snX_lines W t d b w c = _ := congrArg Wd.lines e_
    have e_cores : snX_cores W t d b w c = _ := congrArg Wd.cores e_
    have e_readyN : snX_readyN W t d b w c = _ := congrArg Wd.readyN e_
    have e_ready : snX_ready W t d b w c = _ := congrArg Wd.ready e_
    simp only [e_tasks, e_linesN, e_lines, e_cores, e_readyN, e_ready]
    clear e_ e_tasks e_linesN e_lines e_cores e_readyN e_ready
    repeat' (first | exact trivial | exact run20 rfl | rfl | refine And.intro ?_ ?_ | intro _ | fail)
  · skip
    have h0 : (actE W t d 7 == 0) = false := by simpa using h
    have hc : (snE W t d b w == 0) = false := by unfold snE; rw [h0]; exact h0
    refine ⟨by unfold snE; rw [h0]; rfl, ?_⟩
    have e_ := snX_f (c := c) hc
    have e_tasks : snX_tasks W t d b w c = _ := congrArg Wd.tasks e_
    have e_linesN : snX_linesN W t d b w c = _ := congrArg Wd.linesN e_
    have e_lines : snX_lines W t d b w c = _ := congrArg Wd.lines e_
    have e_cores : snX_cores W t d b w c = _ := congrArg Wd.cores e_
    have e_readyN : snX_readyN W t d b w c = _ := congrArg Wd.readyN e_
    have e_ready : snX_ready W t d b w c = _ := congrArg Wd.ready e_
    simp only [e_tasks, e_linesN, e_lines, e_cores, e_readyN, e_ready]
    clear e_ e_tasks e_linesN e_lines e_cores e_readyN e_ready
    repeat' (first | exact trivial | exact run20 rfl | rfl | refine And.intro ?_ ?_ | intro _ | fail)
structure X_msnL where
  (W : Wd) (t d b w : Int) (c : Bool)
def s_msnL : Sy.Spec := ⟨X_msnL, fun ⟨W, t, d, b, w, c⟩ => [wRd (gdW (snE W t d b w) (snX W t d b w c)), .er 35 116 (snE W t d b w) (-1), wSV W, .v (.int .i64 0), .fn 38 5 (lsv [.pt true 1 (fun _ => .v (.int .i64 t)), .pt true 1 (fun _ => .v (.int .i64 d)), .pt true 1 (fun _ => .v (.int .i64 b)), .pt true 1 (fun _ => .v (.int .i64 w)), .pt true 1 (fun _ => .v (.bool c))])], fun _ => [], fun ⟨W, _, _, _, _, _⟩ => Sm W ∧ Snd W, fun _ => .v (.bool true), fun _ => [],
  fun args mem => match args with | [a0, a1, a2, a3, a4] => (match isFn 38 a4 with | true => some ⟨wSVD a2, intD (ptF (fnF a4 0) 0), intD (ptF (fnF a4 1) 0), intD (ptF (fnF a4 2) 0), intD (ptF (fnF a4 3) 0), boolD (ptF (fnF a4 4) 0)⟩ | false => none) | _ => none⟩
def c_msnL : Con := ⟨[], s_msnL.g, none⟩
def V_msnL : X_msnL → Prop := fun ⟨W, t, d, b, w, c⟩ => let a0:=W.nRam;let b0:=a0=a0;let c0:=b0∧(∀d0:Nat,d0<a0→True∧W.ram d0=W.ram d0);let e0:=W.nKinds;let g0:=e0=e0;let h0:=g0∧(∀k0:Nat,k0<e0→True∧W.kinds k0=W.kinds k0);let l0:=W.nSlots;let o0:=l0=l0;let q0:=o0∧(∀u0:Nat,let v0:=W.slots u0;let w0:=v0.kind;let x0:=v0.base;let y0:=v0.len;let z0:=v0.mark;let a1:=v0.rights;let b1:=v0.badge;let c1:=v0.from_;u0<l0→((((((True∧w0=w0)∧x0=x0)∧y0=y0)∧z0=z0)∧a1=a1)∧b1=b1)∧c1=c1);let d1:=W.nTasks;let e1:=d1=d1;let g1:=e1∧(∀h1:Nat,let k1:=W.tasks h1;let l1:=k1.prio;let o1:=k1.node;let q1:=k1.space;let u1:=k1.helper;let v1:=k1.loc;let w1:=k1.word;let x1:=k1.badge;let y1:=k1.owes;let z1:=k1.core;let a2:=k1.dom;h1<d1→(((((((((((((((((((True∧k1.r0=k1.r0)∧k1.r1=k1.r1)∧k1.r2=k1.r2)∧k1.r3=k1.r3)∧k1.r4=k1.r4)∧k1.r5=k1.r5)∧k1.r6=k1.r6)∧k1.r7=k1.r7)∧k1.pc=k1.pc)∧k1.st=k1.st)∧l1=l1)∧o1=o1)∧q1=q1)∧u1=u1)∧v1=v1)∧w1=w1)∧x1=x1)∧y1=y1)∧z1=z1)∧a2=a2);let b2:=W.nLines;let c2:=b2=b2;let d2:=c2∧(∀e2:Nat,let g2:=W.linesN e2;e2<b2→True∧g2=g2∧(∀h2:Nat,h2<g2→True∧W.lines e2 h2=W.lines e2 h2));let k2:=W.nBits;let l2:=k2=k2;let o2:=l2∧(∀q2:Nat,q2<k2→True∧W.bits q2=W.bits q2);let u2:=W.nCores;let v2:=u2=u2;let w2:=v2∧(∀x2:Nat,x2<u2→True∧W.cores x2=W.cores x2);let y2:=W.nReady;let z2:=y2=y2;let a3:=z2∧(∀b3:Nat,let c3:=W.readyN b3;b3<y2→True∧c3=c3∧(∀d3:Nat,d3<c3→True∧W.ready b3 d3=W.ready b3 d3));let e3:=W.nTlbs;let g3:=e3=e3;
    let h3:=g3∧(∀k3:Nat,let l3:=W.tlbsN k3;k3<e3→True∧l3=l3∧(∀o3:Nat,let q3:=W.tlbs k3 o3;let u3:=q3.sp;let v3:=q3.pg;let w3:=q3.fr;let x3:=q3.wr;o3<l3→(((True∧u3=u3)∧v3=v3)∧w3=w3)∧x3=x3));let y3:=W.nDoms;let z3:=y3=y3;let a4:=z3∧(∀b4:Nat,b4<y3→True∧W.doms b4=W.doms b4);let c4:=W.time;let d4:=c4=c4;let e4:=True∧True;let g4:=0=0;let h4:=snE W t d b w;let k4:=h4 !=0;let l4:=h4=h4;let o4:=((-1):Int)=(-1);let q4:=l4∧o4;let u4:=h4==h4&&((-1):Int)==(-1);let v4:=gdW h4 (snX W t d b w c);let w4:=v4.nRam;let x4:=v4.nKinds;let y4:=v4.nSlots;let z4:=v4.nTasks;let a5:=v4.nLines;let b5:=v4.nBits;let c5:=v4.nCores;let d5:=v4.nReady;let e5:=v4.nTlbs;let g5:=v4.nDoms;let h5:=v4.time;
    let k5:=((((((((((True∧w4=w4∧(∀l5:Nat,l5<w4→True∧v4.ram l5=v4.ram l5))∧x4=x4∧(∀o5:Nat,o5<x4→True∧v4.kinds o5=v4.kinds o5))∧y4=y4∧(∀q5:Nat,let u5:=v4.slots q5;let v5:=u5.kind;let w5:=u5.base;let x5:=u5.len;let y5:=u5.mark;let z5:=u5.rights;let a6:=u5.badge;let b6:=u5.from_;q5<y4→((((((True∧v5=v5)∧w5=w5)∧x5=x5)∧y5=y5)∧z5=z5)∧a6=a6)∧b6=b6))∧z4=z4∧(∀c6:Nat,let d6:=v4.tasks c6;let e6:=d6.prio;let g6:=d6.node;let h6:=d6.space;let k6:=d6.helper;let l6:=d6.loc;let o6:=d6.word;let q6:=d6.badge;let u6:=d6.owes;let v6:=d6.core;let w6:=d6.dom;c6<z4→(((((((((((((((((((True∧d6.r0=d6.r0)∧d6.r1=d6.r1)∧d6.r2=d6.r2)∧d6.r3=d6.r3)∧d6.r4=d6.r4)∧d6.r5=d6.r5)∧d6.r6=d6.r6)∧d6.r7=d6.r7)∧d6.pc=d6.pc)∧d6.st=d6.st)∧e6=e6)∧g6=g6)∧h6=h6)∧k6=k6)∧l6=l6)∧o6=o6)∧q6=q6)∧u6=u6)∧v6=v6)∧w6=w6))∧a5=a5∧(∀x6:Nat,let y6:=v4.linesN x6;x6<a5→True∧y6=y6∧(∀z6:Nat,z6<y6→True∧v4.lines x6 z6=v4.lines x6 z6)))∧b5=b5∧(∀a7:Nat,a7<b5→True∧v4.bits a7=v4.bits a7))∧c5=c5∧(∀b7:Nat,b7<c5→True∧v4.cores b7=v4.cores b7))∧d5=d5∧(∀c7:Nat,let d7:=v4.readyN c7;c7<d5→True∧d7=d7∧(∀e7:Nat,e7<d7→True∧v4.ready c7 e7=v4.ready c7 e7)))∧e5=e5∧(∀g7:Nat,let h7:=v4.tlbsN g7;g7<e5→True∧h7=h7∧(∀k7:Nat,let l7:=v4.tlbs g7 k7;let o7:=l7.sp;let q7:=l7.pg;let u7:=l7.fr;let v7:=l7.wr;k7<h7→(((True∧o7=o7)∧q7=q7)∧u7=u7)∧v7=v7)))∧g5=g5∧(∀w7:Nat,w7<g5→True∧v4.doms w7=v4.doms w7))∧h5=h5;let x7:=(k5∧True)∧True∧w4=0∧x4=0∧y4=0∧z4=0∧a5=0∧b5=0∧c5=0∧d5=0∧e5=0∧g5=0∧h5=0;let y7:=h4==0;let z7:=y7=true;
    let a8:=((True∧b0∧(∀b8:Nat,b8<a0→True∧W.ram (0+b8)=W.ram (0+b8)))∧g0∧(∀c8:Nat,let d8:=W.kinds (0+c8);c8<e0→True∧d8=d8))∧o0∧(∀e8:Nat,let g8:=W.slots (0+e8);let h8:=g8.kind;let k8:=g8.base;let l8:=g8.len;let o8:=g8.mark;let q8:=g8.rights;let r8:=g8.badge;let u8:=g8.from_;e8<l0→((((((True∧h8=h8)∧k8=k8)∧l8=l8)∧o8=o8)∧q8=q8)∧r8=r8)∧u8=u8);let v8:=l2∧(∀w8:Nat,w8<k2→True∧W.bits (0+w8)=W.bits (0+w8));let x8:=g3∧(∀y8:Nat,let z8:=0+y8;let a9:=W.tlbsN z8;y8<e3→True∧a9=a9∧(∀b9:Nat,let c9:=W.tlbs z8 (0+b9);let d9:=c9.sp;let e9:=c9.pg;let g9:=c9.fr;let h9:=c9.wr;b9<a9→(((True∧d9=d9)∧e9=e9)∧g9=g9)∧h9=h9));let k9:=z3∧(∀l9:Nat,l9<y3→True∧W.doms (0+l9)=W.doms (0+l9));let o9:=y7&&((-1):Int)==(-1);tn 2 ((((((((((((((True∧c0)∧h0)∧q0)∧g1)∧d2)∧o2)∧w2)∧a3)∧h3)∧a4)∧d4)∧True)∧True∧s_copyW.match_1 (fun q9:X_copyW=>Prop) (X_copyW.mk W) (fun r9:Wd=>Lg r9))∧True∧tn 9 e4∧(((0:Int)==0)=true→((SV.ptr 0 0 none 0 0=SV.ptr 0 0 none 0 0∧(True∧t=t)∧(True∧d=d)∧(True∧b=b)∧(True∧w=w)∧(True∧c=c)∧True)∧((((((((((((True∧g4∧b0)∧g4∧g0)∧g4∧o0)∧g4∧e1)∧g4∧c2)∧g4∧l2)∧g4∧v2)∧g4∧z2)∧g4∧g3)∧g4∧z3)∧d4)∧c0∧h0∧q0∧g1∧d2∧o2∧w2∧a3∧h3∧a4∧True)∧Sm W∧Snd W)∧(k4=true→((l4∧True)∧e4)∧((q4∧((True∧l4)∧o4)∧True)∧e4)∧(u4=true→x7)∧cond u4 true false=true∧True)∧(k4=false→(z7→(k5∧((((((((a8∧e1∧(∀u9:Nat,let v9:=snX_tasks W t d b w c (0+u9);let w9:=v9.r0;let x9:=v9.r1;let y9:=v9.r2;let z9:=v9.r3;let a10:=v9.r4;let b10:=v9.r5;let c10:=v9.r6;let d10:=v9.r7;let e10:=v9.pc;let g10:=v9.st;let h10:=v9.prio;let k10:=v9.node;let l10:=v9.space;
    let o10:=v9.helper;let q10:=v9.loc;let r10:=v9.word;let u10:=v9.badge;let v10:=v9.owes;let w10:=v9.core;let x10:=v9.dom;u9<d1→(((((((((((((((((((True∧w9=w9)∧x9=x9)∧y9=y9)∧z9=z9)∧a10=a10)∧b10=b10)∧c10=c10)∧d10=d10)∧e10=e10)∧g10=g10)∧h10=h10)∧k10=k10)∧l10=l10)∧o10=o10)∧q10=q10)∧r10=r10)∧u10=u10)∧v10=v10)∧w10=w10)∧x10=x10))∧c2∧(∀y10:Nat,let z10:=snX_linesN W t d b w c (0+y10);y10<b2→True∧z10=z10∧(∀a11:Nat,let b11:=snX_lines W t d b w c (0+y10) (0+a11);a11<z10→True∧b11=b11)))∧v8)∧v2∧(∀c11:Nat,let d11:=snX_cores W t d b w c (0+c11);c11<u2→True∧d11=d11))∧z2∧(∀e11:Nat,let g11:=snX_readyN W t d b w c (0+e11);e11<y2→True∧g11=g11∧(∀h11:Nat,let k11:=snX_ready W t d b w c (0+e11) (0+h11);h11<g11→True∧k11=k11)))∧x8)∧k9)∧d4)∧True)∧e4)∧cond y7 (sameW v4 (Wd.mk a0 (fun l11:Nat=>W.ram (0+l11)) e0 (fun o11:Nat=>W.kinds (0+o11)) l0 (fun q11:Nat=>W.slots (0+q11)) d1 (fun r11:Nat=>snX_tasks W t d b w c (0+r11)) b2 (fun u11:Nat=>snX_linesN W t d b w c (0+u11)) (fun v11:Nat=>fun w11:Nat=>snX_lines W t d b w c (0+v11) (0+w11)) k2 (fun x11:Nat=>W.bits (0+x11)) u2 (fun y11:Nat=>snX_cores W t d b w c (0+y11)) y2 (fun z11:Nat=>snX_readyN W t d b w c (0+z11)) (fun a12:Nat=>fun b12:Nat=>snX_ready W t d b w c (0+a12) (0+b12)) e3 (fun c12:Nat=>W.tlbsN (0+c12)) (fun d12:Nat=>fun e12:Nat=>W.tlbs (0+d12) (0+e12)) y3 (fun g12:Nat=>W.doms (0+g12)) c4)) false=true∧True))∧(((0:Int)==0)=false→(((0:Int) !=0)=true→(((0:Int)=0∧True)∧e4)∧((q4∧((True∧(0:Int)=0)∧o4)∧True)∧e4)∧(o9=true→x7)∧cond o9 true false=true∧
    True)∧(((0:Int) !=0)=false→(z7→(k5∧((((((((a8∧e1∧(∀h12:Nat,let k12:=W.tasks (0+h12);let l12:=k12.r0;let o12:=k12.r1;let q12:=k12.r2;let r12:=k12.r3;let u12:=k12.r4;let v12:=k12.r5;let w12:=k12.r6;let x12:=k12.r7;let y12:=k12.pc;let z12:=k12.st;let a13:=k12.prio;let b13:=k12.node;let c13:=k12.space;let d13:=k12.helper;let e13:=k12.loc;let g13:=k12.word;let h13:=k12.badge;let k13:=k12.owes;let l13:=k12.core;let o13:=k12.dom;h12<d1→(((((((((((((((((((True∧l12=l12)∧o12=o12)∧q12=q12)∧r12=r12)∧u12=u12)∧v12=v12)∧w12=w12)∧x12=x12)∧y12=y12)∧z12=z12)∧a13=a13)∧b13=b13)∧c13=c13)∧d13=d13)∧e13=e13)∧g13=g13)∧h13=h13)∧k13=k13)∧l13=l13)∧o13=o13))∧c2∧(∀q13:Nat,let r13:=W.linesN (0+q13);q13<b2→True∧r13=r13∧(∀u13:Nat,let v13:=W.lines (0+q13) (0+u13);u13<r13→True∧v13=v13)))∧v8)∧v2∧(∀w13:Nat,let x13:=W.cores (0+w13);w13<u2→True∧x13=x13))∧z2∧(∀y13:Nat,let z13:=W.readyN (0+y13);y13<y2→True∧z13=z13∧(∀a14:Nat,let b14:=W.ready (0+y13) (0+a14);a14<z13→True∧b14=b14)))∧x8)∧k9)∧d4)∧True)∧e4)∧
    cond y7 (sameW v4 (Wd.mk a0 (fun c14:Nat=>W.ram (0+c14)) e0 (fun d14:Nat=>W.kinds (0+d14)) l0 (fun e14:Nat=>W.slots (0+e14)) d1 (fun g14:Nat=>W.tasks (0+g14)) b2 (fun h14:Nat=>W.linesN (0+h14)) (fun k14:Nat=>fun l14:Nat=>W.lines (0+k14) (0+l14)) k2 (fun o14:Nat=>W.bits (0+o14)) u2 (fun q14:Nat=>W.cores (0+q14)) y2 (fun r14:Nat=>W.readyN (0+r14)) (fun u14:Nat=>fun v14:Nat=>W.ready (0+u14) (0+v14)) e3 (fun w14:Nat=>W.tlbsN (0+w14)) (fun x14:Nat=>fun y14:Nat=>W.tlbs (0+x14) (0+y14)) y3 (fun z14:Nat=>W.doms (0+z14)) c4)) false=true∧True)))
set_option maxHeartbeats 2000000 in
theorem ok_msnL : FnOK Tryz.prog glE 15 c_msnL := ok_of (.cons ok_is (.cons (ok_err.up glN_glE) (.cons (ok_copyW.up glN_glE) (.cons ok_nothing (.cons (ok_sameWorld.up glN_glE) (.cons ok_msnR .nil)))))) false Tryz.call15 Tryz.func15 (fun _ => []) (V := V_msnL) (fun _ => by kernel_rfl) fun ⟨W, t, d, b, w, c⟩ hp => by
  dsimp only [s_msnL] at hp
  dsimp only [V_msnL, tn, w64]
  simp only [std, stb, eq_self, implies_true, Bool.cond_self]
  obtain ⟨hs, hw⟩ := hp
  refine ⟨lg_sm hs, fun _ => ⟨⟨hs, hw⟩, fun h2 => ?_, fun h2 => ?_⟩, fun h => absurd h (by decide)⟩
  · simp only [fun X => gdW_no X (ne0 h2)]
    repeat' (first | exact trivial | rfl | refine And.intro ?_ ?_ | intro _ | exact absurd ‹_› (Nat.not_lt_zero _) | fail)
    simp
  · simp only [fun X => gdW_yes X (eq0 h2)]
    simp only [eq0 h2, Bool.true_and]
    exact sameW_refl _
structure X_mailSends0 where
  (W : Wd) (t d b w : Int) (c : Bool)
def s_mailSends0 : Sy.Spec := ⟨X_mailSends0, fun ⟨W, t, d, b, w, c⟩ => [wSV W, .v (.int .i64 t), .v (.int .i64 d), .v (.int .i64 b), .v (.int .i64 w), .v (.bool c)], fun _ => [], fun ⟨W, _, _, _, _, _⟩ => Snd W, fun _ => .v (.bool true), fun _ => [],
  fun args mem => match args with | [a0, a1, a2, a3, a4, a5] => some ⟨wSVD a0, intD (a1), intD (a2), intD (a3), intD (a4), boolD (a5)⟩ | _ => none⟩
def V_mailSends0 : X_mailSends0 → Prop := fun ⟨W, t, d, b, w, c⟩ => let a0:=W.nKinds;let b0:=W.nSlots;let c0:=W.nTasks;let d0:=W.nLines;let e0:=W.nCores;let g0:=W.nReady;let h0:=((((((((((True∧W.nRam=W.nRam∧(∀k0:Nat,k0<W.nRam→True∧W.ram k0=W.ram k0))∧a0=a0∧(∀l0:Nat,l0<a0→True∧W.kinds l0=W.kinds l0))∧b0=b0∧(∀o0:Nat,let q0:=W.slots o0;let u0:=q0.kind;let v0:=q0.base;let w0:=q0.len;let x0:=q0.mark;let y0:=q0.rights;let z0:=q0.badge;let a1:=q0.from_;o0<b0→((((((True∧u0=u0)∧v0=v0)∧w0=w0)∧x0=x0)∧y0=y0)∧z0=z0)∧a1=a1))∧c0=c0∧(∀b1:Nat,let c1:=W.tasks b1;let d1:=c1.prio;let e1:=c1.node;let g1:=c1.space;let h1:=c1.helper;let k1:=c1.loc;let l1:=c1.word;let o1:=c1.badge;let q1:=c1.owes;let u1:=c1.core;let v1:=c1.dom;b1<c0→(((((((((((((((((((True∧c1.r0=c1.r0)∧c1.r1=c1.r1)∧c1.r2=c1.r2)∧c1.r3=c1.r3)∧c1.r4=c1.r4)∧c1.r5=c1.r5)∧c1.r6=c1.r6)∧c1.r7=c1.r7)∧c1.pc=c1.pc)∧c1.st=c1.st)∧d1=d1)∧e1=e1)∧g1=g1)∧h1=h1)∧k1=k1)∧l1=l1)∧o1=o1)∧q1=q1)∧u1=u1)∧v1=v1))∧d0=d0∧(∀w1:Nat,let x1:=W.linesN w1;w1<d0→True∧x1=x1∧(∀y1:Nat,y1<x1→True∧W.lines w1 y1=W.lines w1 y1)))∧W.nBits=W.nBits∧(∀z1:Nat,z1<W.nBits→True∧W.bits z1=W.bits z1))∧e0=e0∧(∀a2:Nat,a2<e0→True∧W.cores a2=W.cores a2))∧g0=g0∧(∀b2:Nat,let c2:=W.readyN b2;b2<g0→True∧c2=c2∧(∀d2:Nat,d2<c2→True∧W.ready b2 d2=W.ready b2 d2)))∧W.nTlbs=W.nTlbs∧(∀e2:Nat,let g2:=W.tlbsN e2;e2<W.nTlbs→True∧g2=g2∧(∀h2:Nat,let k2:=W.tlbs e2 h2;let l2:=k2.sp;let o2:=k2.pg;let q2:=k2.fr;let u2:=k2.wr;h2<g2→(((True∧l2=l2)∧o2=o2)∧q2=q2)∧u2=u2)))∧W.nDoms=W.nDoms∧(∀v2:Nat,v2<W.nDoms→True∧W.doms v2=W.doms v2))∧W.time=W.time;let w2:=h0∧True;
    let x2:=true=true∧True;let y2:=True∧Sm W∧Snd W;let z2:=snE W t d b w;let a3:=gdW z2 (snX W t d b w c);let b3:=a3.nRam;let c3:=a3.nKinds;let d3:=a3.nSlots;let e3:=a3.nTasks;let g3:=a3.nLines;let h3:=a3.nBits;let k3:=a3.nCores;let l3:=a3.nReady;let o3:=a3.nTlbs;let q3:=a3.nDoms;let u3:=a3.time;tn 6 ((w2∧True∧True)∧(hgB W=true→x2)∧(hgB W=false→((h0∧t=t∧d=d∧b=b∧w=w∧c=c∧True)∧y2)∧True∧tn 10 True∧tn 4 ((w2∧y2)∧True∧(((((((((((((True∧b3=b3∧(∀v3:Nat,v3<b3→True∧a3.ram v3=a3.ram v3))∧c3=c3∧(∀w3:Nat,w3<c3→True∧a3.kinds w3=a3.kinds w3))∧d3=d3∧(∀x3:Nat,let y3:=a3.slots x3;let z3:=y3.kind;let a4:=y3.base;let b4:=y3.len;let c4:=y3.mark;let d4:=y3.rights;let e4:=y3.badge;let g4:=y3.from_;x3<d3→((((((True∧z3=z3)∧a4=a4)∧b4=b4)∧c4=c4)∧d4=d4)∧e4=e4)∧g4=g4))∧e3=e3∧(∀h4:Nat,let k4:=a3.tasks h4;let l4:=k4.prio;let o4:=k4.node;let q4:=k4.space;let u4:=k4.helper;let v4:=k4.loc;let w4:=k4.word;let x4:=k4.badge;let y4:=k4.owes;let z4:=k4.core;let a5:=k4.dom;h4<e3→(((((((((((((((((((True∧k4.r0=k4.r0)∧k4.r1=k4.r1)∧k4.r2=k4.r2)∧k4.r3=k4.r3)∧k4.r4=k4.r4)∧k4.r5=k4.r5)∧k4.r6=k4.r6)∧k4.r7=k4.r7)∧k4.pc=k4.pc)∧k4.st=k4.st)∧l4=l4)∧o4=o4)∧q4=q4)∧u4=u4)∧v4=v4)∧w4=w4)∧x4=x4)∧y4=y4)∧z4=z4)∧a5=a5))∧g3=g3∧(∀b5:Nat,let c5:=a3.linesN b5;b5<g3→True∧c5=c5∧(∀d5:Nat,d5<c5→True∧a3.lines b5 d5=a3.lines b5 d5)))∧h3=h3∧(∀e5:Nat,e5<h3→True∧a3.bits e5=a3.bits e5))∧k3=k3∧(∀g5:Nat,g5<k3→True∧a3.cores g5=a3.cores g5))∧l3=l3∧(∀h5:Nat,let k5:=a3.readyN h5;h5<l3→True∧k5=k5∧(∀l5:Nat,l5<k5→True∧a3.ready h5 l5=a3.ready h5 l5)))∧o3=o3∧
    (∀o5:Nat,let q5:=a3.tlbsN o5;o5<o3→True∧q5=q5∧(∀u5:Nat,let v5:=a3.tlbs o5 u5;let w5:=v5.sp;let x5:=v5.pg;let y5:=v5.fr;let z5:=v5.wr;u5<q5→(((True∧w5=w5)∧x5=x5)∧y5=y5)∧z5=z5)))∧q3=q3∧(∀a6:Nat,a6<q3→True∧a3.doms a6=a3.doms a6))∧u3=u3)∧(z2=z2∧((-1):Int)=(-1))∧h0∧(0:Int)=0∧((((tn 2 (t=t)∧True∧d=d)∧True∧b=b)∧True∧w=w)∧True∧c=c)∧True)∧y2)∧x2)))
set_option maxHeartbeats 2000000 in
theorem fc_mailSends0 : ∀ x, s_mailSends0.pre x → FnC Tryz.prog glE 8 (s_mailSends0.args x) (s_mailSends0.mem x) (s_mailSends0.res x) (s_mailSends0.mem' x) := fun x hp => fn_of (.cons ok_msnL (.cons (ok_hugeWorld.up glN_glE) (.cons ok_sound0 (.cons ok_msnX .nil)))) false Tryz.func8 ((fun _ => []) x) (V := V_mailSends0 x) (by kernel_rfl) <| (fun ⟨W, t, d, b, w, c⟩ hp => by
  dsimp only [s_mailSends0] at hp
  dsimp only [V_mailSends0, tn, w64]
  simp only [std, stb, eq_self, implies_true, Bool.cond_self]
  try simp only [wd_eta]
  intro h0
  have h0 := sm_of h0
  repeat' (first | exact h0 | exact hp | exact lg_sm h0 | exact trivial | rfl | refine And.intro ?_ ?_ | fail)
  : ∀ x, s_mailSends0.pre x → V_mailSends0 x) x hp
structure X_mailSends8 where
  (W : Wd) (t d b w : Int) (c : Bool)
def s_mailSends8 : Sy.Spec := ⟨X_mailSends8, fun ⟨W, t, d, b, w, c⟩ => [wSV W, .v (.int .i64 t), .v (.int .i64 d), .v (.int .i64 b), .v (.int .i64 w), .v (.bool c)], fun _ => [], fun ⟨W, _, _, _, _, _⟩ => wE W ≠ 0, fun _ => .v (.bool true), fun _ => [],
  fun args mem => match args with | [a0, a1, a2, a3, a4, a5] => some ⟨wSVD a0, intD (a1), intD (a2), intD (a3), intD (a4), boolD (a5)⟩ | _ => none⟩
def V_mailSends8 : X_mailSends8 → Prop := fun ⟨W, t, d, b, w, c⟩ => let a0:=W.nKinds;let b0:=W.nSlots;let c0:=W.nTasks;let d0:=W.nLines;let e0:=W.nCores;let g0:=W.nReady;let h0:=((((((((((True∧W.nRam=W.nRam∧(∀k0:Nat,k0<W.nRam→True∧W.ram k0=W.ram k0))∧a0=a0∧(∀l0:Nat,l0<a0→True∧W.kinds l0=W.kinds l0))∧b0=b0∧(∀o0:Nat,let q0:=W.slots o0;let u0:=q0.kind;let v0:=q0.base;let w0:=q0.len;let x0:=q0.mark;let y0:=q0.rights;let z0:=q0.badge;let a1:=q0.from_;o0<b0→((((((True∧u0=u0)∧v0=v0)∧w0=w0)∧x0=x0)∧y0=y0)∧z0=z0)∧a1=a1))∧c0=c0∧(∀b1:Nat,let c1:=W.tasks b1;let d1:=c1.prio;let e1:=c1.node;let g1:=c1.space;let h1:=c1.helper;let k1:=c1.loc;let l1:=c1.word;let o1:=c1.badge;let q1:=c1.owes;let u1:=c1.core;let v1:=c1.dom;b1<c0→(((((((((((((((((((True∧c1.r0=c1.r0)∧c1.r1=c1.r1)∧c1.r2=c1.r2)∧c1.r3=c1.r3)∧c1.r4=c1.r4)∧c1.r5=c1.r5)∧c1.r6=c1.r6)∧c1.r7=c1.r7)∧c1.pc=c1.pc)∧c1.st=c1.st)∧d1=d1)∧e1=e1)∧g1=g1)∧h1=h1)∧k1=k1)∧l1=l1)∧o1=o1)∧q1=q1)∧u1=u1)∧v1=v1))∧d0=d0∧(∀w1:Nat,let x1:=W.linesN w1;w1<d0→True∧x1=x1∧(∀y1:Nat,y1<x1→True∧W.lines w1 y1=W.lines w1 y1)))∧W.nBits=W.nBits∧(∀z1:Nat,z1<W.nBits→True∧W.bits z1=W.bits z1))∧e0=e0∧(∀a2:Nat,a2<e0→True∧W.cores a2=W.cores a2))∧g0=g0∧(∀b2:Nat,let c2:=W.readyN b2;b2<g0→True∧c2=c2∧(∀d2:Nat,d2<c2→True∧W.ready b2 d2=W.ready b2 d2)))∧W.nTlbs=W.nTlbs∧(∀e2:Nat,let g2:=W.tlbsN e2;e2<W.nTlbs→True∧g2=g2∧(∀h2:Nat,let k2:=W.tlbs e2 h2;let l2:=k2.sp;let o2:=k2.pg;let q2:=k2.fr;let u2:=k2.wr;h2<g2→(((True∧l2=l2)∧o2=o2)∧q2=q2)∧u2=u2)))∧W.nDoms=W.nDoms∧(∀v2:Nat,v2<W.nDoms→True∧W.doms v2=W.doms v2))∧W.time=W.time;let w2:=h0∧True;
    let x2:=True∧True;let y2:=true=true∧True;let z2:=True∧Sm W∧wE W≠0;let a3:=(0:Int)=0;let b3:=True∧a3;let c3:=0=0∧(∀d3:Nat,d3<0→b3);let e3:=True∧c3;let g3:=(b3∧a3)∧a3;let h3:=(((g3∧a3)∧a3)∧a3)∧a3;let k3:=((-1):Int)=(-1);let l3:=0=0∧(∀o3:Nat,o3<0→e3);tn 6 ((w2∧x2)∧(hgB W=true→y2)∧(hgB W=false→((h0∧t=t∧d=d∧b=b∧w=w∧c=c∧True)∧z2)∧True∧tn 9 x2∧tn 4 ((w2∧z2)∧True∧((((((((((((e3∧c3)∧0=0∧(∀q3:Nat,q3<0→h3))∧0=0∧(∀u3:Nat,u3<0→((((((((((((h3∧a3)∧a3)∧a3)∧a3)∧k3)∧k3)∧k3)∧k3)∧a3)∧a3)∧k3)∧a3)∧a3))∧l3)∧c3)∧c3)∧l3)∧0=0∧(∀v3:Nat,v3<0→True∧0=0∧(∀w3:Nat,w3<0→g3∧false=false)))∧c3)∧a3)∧((8:Int)=8∧k3)∧h0∧(8:Int)=8∧x2)∧True∧s_did8.match_1 (fun x3:X_did8=>Prop) (X_did8.mk W) (fun y3:Wd=>Lg y3))∧y2)))
set_option maxHeartbeats 2000000 in
theorem fc_mailSends8 : ∀ x, s_mailSends8.pre x → FnC Tryz.prog glE 8 (s_mailSends8.args x) (s_mailSends8.mem x) (s_mailSends8.res x) (s_mailSends8.mem' x) := fun x hp => fn_of (.cons (ok_hugeWorld.up glN_glE) (.cons ok_sound8 (.cons ok_did8 (.cons ok_msnY .nil)))) false Tryz.func8 ((fun _ => []) x) (V := V_mailSends8 x) (by kernel_rfl) <| (fun ⟨W, t, d, b, w, c⟩ hp => by
  dsimp only [s_mailSends8] at hp
  dsimp only [V_mailSends8, tn, w64]
  simp only [std, stb, eq_self, implies_true, Bool.cond_self]
  try simp only [wd_eta]
  intro h0
  have h0 := sm_of h0
  repeat' (first | exact h0 | exact hp | exact lg_sm h0 | exact trivial | rfl | refine And.intro ?_ ?_ | fail)
  : ∀ x, s_mailSends8.pre x → V_mailSends8 x) x hp
structure X_mailSends where
  (W : Wd) (t d b w : Int) (c : Bool)
def s_mailSends : Sy.Spec := ⟨X_mailSends, fun ⟨W, t, d, b, w, c⟩ => [wSV W, .v (.int .i64 t), .v (.int .i64 d), .v (.int .i64 b), .v (.int .i64 w), .v (.bool c)], fun _ => [], fun _ => True, fun _ => .v (.bool true), fun _ => [],
  fun args mem => match args with | [a0, a1, a2, a3, a4, a5] => some ⟨wSVD a0, intD (a1), intD (a2), intD (a3), intD (a4), boolD (a5)⟩ | _ => none⟩
def c_mailSends : Con := ⟨[], s_mailSends.g, none⟩
theorem ok_mailSends : FnOK Tryz.prog glE 8 c_mailSends := fnOK_of Tryz.call8 fun ⟨W, t, d, b, w, c⟩ _ => if h : wE W = 0 then fc_mailSends0 ⟨W, t, d, b, w, c⟩ (Snd.iff.1 h) else fc_mailSends8 ⟨W, t, d, b, w, c⟩ h
end Go.Proofs.YtdjilaofmdhikaaGreatDoor
namespace Go.Proofs.YtdjilaofmdhikaaGreatDoor
open Go.ChangeShapes Go.WideShapes Go.RowKit Go.Sy
theorem K.own : ownKnob Tryz.prog.godebug = none := by kernel_rfl
theorem K.et : Tryz.prog.globalNamed "errors.errorType" = some 0 := by kernel_rfl
theorem K.rt : (Tryz.prog.cutTypes.find? (·.1 == "internal/reflectlite.rtype")).map (·.2) = some 182 := by kernel_rfl
theorem K.oneRow : ((List.range Tryz.prog.types.size).filter fun t => Tryz.prog.rowNamed t [101, 114, 114, 111, 114]) = [31] := by kernel_rfl
theorem K.handle {laid : List (String × DataW Unit)} {W : World} (h : laidMetH Tryz.prog laid W) (hm : ("errors.errorType", Rows.laid_errors_errorType) ∈ laid) : W.cell? ⟨0, 0, none⟩ = some A.eTy := by
  have hf : ("errors.errorType", Rows.laid_errors_errorType) ∈ laid.filter fun x => x.2.handleName?.isSome := List.mem_filter.2 ⟨hm, by rfl⟩
  unfold laidMetH at h
  split at h
  · next e => rw [e] at hf; cases hf
  next x r e =>
  rw [e] at hf
  obtain ⟨name, u, ty, e1, e2, e3, e4, e5⟩ := h.2 _ hf
  have en : name = [101, 114, 114, 111, 114] := (Option.some.inj e1).symm
  subst en
  obtain rfl := Option.some.inj (K.rt.symm.trans e2)
  have hm : ty ∈ (List.range Tryz.prog.types.size).filter fun t => Tryz.prog.rowNamed t [101, 114, 114, 111, 114] := List.mem_filter.2 ⟨List.mem_range.2 e3, e4⟩
  rw [K.oneRow] at hm
  obtain rfl := List.mem_singleton.1 hm
  have hh : typeHandle Tryz.prog 31 = .pointer (some ⟨1, 31, none⟩) := by kernel_rfl
  rw [hh] at e5
  unfold A.eTy
  simpa using World.var?_cell K.et e5 0
noncomputable def K.world (os : Os) : World :=
  let w0 := World.holding Tryz.prog os ⟨#[], #[], []⟩
  { w0 with heap := w0.heap.modify 0 fun
      | .cells _ t frozen => .cells #[A.eTy] t frozen
      | o => o }
theorem K.met (os : Os) (args : Array Value) : laidMetH Tryz.prog [("errors.errorType", Rows.laid_errors_errorType)] ((K.world os).forCall (fun _ _ => 0) ⟨#[], args, []⟩).memory :=
  laidMetH_of_parts (laidMet_nil _ _) (by kernel_rfl)
theorem K.laidOut : laidOutB Tryz.prog = true := by kernel_rfl
theorem K.trodAll {H : Type} {enc : TypeId × Value → H} {P : Program} (hl : laidOutB P = true) {W W' : World} (hb : Below W.heap.size W W') : ∀ {ts : List TypeId} {vs : List Value} {ds : List (DataW H)} {ps : List MemPlace},
    (ts.all fun t => P.readableRec t && decide (t < P.types.size)) = true → DataW.TrodAll enc P W 0 (fun _ => true) true ts vs ds ps → (∀ x ∈ ps, x.block < W.heap.size) → DataW.TrodAll enc P W' 0 (fun b => decide (b < W.heap.size)) true ts vs ds ps
  | [], [], [], _, _, h, _ => h
  | t :: ts, v :: vs, d :: ds, ps, hr, ⟨p, q, h1, h2, e⟩, hlt => by
    subst e
    simp only [List.all_cons, Bool.and_eq_true, decide_eq_true_eq] at hr
    exact ⟨p, q, Below.trod hl hr.1.1 hr.1.2 h1 hb (fun x hx => hlt x (List.mem_append_left _ hx)), K.trodAll hl hb hr.2 h2 (fun x hx => hlt x (List.mem_append_right _ hx)), rfl⟩
theorem K.underlying4 : Tryz.prog.underlying 4 = some .bool := by kernel_rfl
theorem K.len {H : Type} {enc : TypeId × Value → H} {P : Program} {w : World} {base : Nat} {spare : Nat → Bool} {held : Bool} : ∀ {ts : List TypeId} {vs : List Value} {ds : List (DataW H)} {ps : List MemPlace}, DataW.TrodAll enc P w base spare held ts vs ds ps → ds.length = ts.length
  | [], [], [], _, _ => rfl
  | _ :: _, _ :: _, _ :: _, _, ⟨_, _, _, h, _⟩ => by simp [K.len h]
theorem K.noStand {ps : Array TypeId} (h : (ps.toList.all fun t => !Tryz.prog.wantsStandIn t) = true) {j : Nat} {t : TypeId} (ht : ps[j]? = some t) : Tryz.prog.wantsStandIn t = false := by
  have := List.all_eq_true.1 h t (by rw [Array.mem_toList_iff]; exact Array.mem_of_getElem? ht)
  simpa using this
set_option maxRecDepth 100000 in
theorem K.lift {f : FuncId} {fn : Func} {s : ChangeSpec} {X : World → Prop} (hX : ∀ (w w' : World), w.heap = w'.heap → X w → X w') (os : Os) (started : os.Started) (H : Type) (enc : TypeId × Value → H)
    (noInit : Tryz.checked.prog.inits.idxOf? f = none) (hfn : Tryz.checked.prog.funcs[f]? = some fn)
    (hs : ∀ ds : List (DataW H), ds.length = fn.params.toList.length → s.fn H (ds ++ []) = { results := [.lit (.bool true)], args := ds }) (hv : s.vars = []) (hr : fn.resultTypes = #[4])
    (hrow : (fn.params.toList.all fun t => Tryz.prog.readableRec t && decide (t < Tryz.prog.types.size)) = true)
    (witness : ∃ (w : World) (tape : Tape) (i : Input), w.os = os ∧ (w.forCall tape i).Shaped Tryz.prog ∧ i.vars = [] ∧ Input.okWide Tryz.prog (w.forCall tape i) .any w.heap.size f i ∧
      ((s.pre enc Tryz.prog fn [] false (w.forCall tape i).memory i.args ∧ X (w.forCall tape i).memory) ∧ sizedMet enc Tryz.prog fn (OpenSpec.ofChange s) false (w.forCall tape i).memory i.args) ∧ ({} : Assume).holds Tryz.prog (lone (Frame.enter Tryz.prog f i.args .normal) [] (w.forCall tape i)))
    (contract : ∀ (W : World) (base : Nat) (args : Array Value) (ds : List (DataW H)) (p : List MemPlace),
      (∀ (j : Nat) t v, fn.params[j]? = some t → args[j]? = some v → Value.okWide Tryz.prog W .any base t v) →
      DataW.TrodAll enc Tryz.prog W 0 (fun _ => true) true fn.params.toList args.toList ds p → X W → (∀ x ∈ p, x.block < W.heap.size) →
      Calls Tryz.prog f args W fun e W' => e = .returned (.bool true) ∧ Below W.heap.size W W') :
    ReturnsInHanded {} Tryz.checked os f .any (fun w args => (s.pre enc Tryz.prog fn [] false w args ∧ X w) ∧ sizedMet enc Tryz.prog fn (OpenSpec.ofChange s) false w args) (s.post enc Tryz.prog fn false true false false) := by
  refine returnsInHanded_of_change_and (C := Tryz.checked) (X := fun w _ => X w) (fun w w' _ hh h => hX w w' hh h) K.own started noInit hfn witness ?_
  intro W base args ds gs before hval hW _ _ hL _
  have hW' := hW
  obtain ⟨p, q, hA, hV, rfl, hfz, _⟩ := hW
  have hlt : ∀ x ∈ p, x.block < W.heap.size := fun x hx => by simpa using hW'.lt x (List.mem_append_left _ hx)
  obtain ⟨rfl, rfl⟩ : gs = [] ∧ q = [] := by
    rw [hv] at hV
    cases gs with
    | nil => exact ⟨rfl, hV⟩
    | cons g r => exact absurd hV (by intro h; cases h)
  refine (contract W base args ds p hval hA hL hlt).mono fun e W' ⟨he, hb⟩ => ?_
  have e1 := hs ds (K.len hA)
  refine ⟨_, he, _, _, _, [], p, [], hW', ?_, ?_, ?_, hb.frame _, fun h => by cases h⟩
  · rw [e1, hr]; exact trodAll_mk1 (shut_bool K.underlying4 true)
  · rw [e1]; exact K.trodAll K.laidOut hb hrow hA hlt
  · rw [e1, hv]; rfl
theorem K.eT {laid : List (String × DataW Unit)} {W : World} (h : laidMetH Tryz.prog laid W) (hm : ("errors.errorType", Rows.laid_errors_errorType) ∈ laid) : Den W o0.bare (.pt false 1 fun _ => .v A.eTy) (.pointer (some ⟨0, 0, none⟩)) :=
  ⟨_, rfl, fun j hj => ⟨_, by obtain rfl : j = 0 := by omega
                              exact K.handle h hm, ⟨id, fun _ => id⟩, rfl⟩⟩
theorem K.gE {laid : List (String × DataW Unit)} {W : World} (h : laidMetH Tryz.prog laid W) (hm : ("errors.errorType", Rows.laid_errors_errorType) ∈ laid) (g : Nat) : Den W o0.bare (glE g) (.pointer (some ⟨g, 0, none⟩)) := by
  unfold glE
  split
  · exact K.eT h hm
  · trivial
end Go.Proofs.YtdjilaofmdhikaaGreatDoor
