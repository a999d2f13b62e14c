/- The law ClayMakes. -/
import Derived.Test.YtdjilaofmdhikaaGreatDoorYL
import Derived.Test.YtdjilaofmdhikaaGreatDoorYM
import Derived.Test.YtdjilaofmdhikaaGreatDoorYH
import Derived.OpenShut
import Derived.ChangeArms
import Derived.MakeChecks
import Derived.Lay
import Derived.Test.YtdjilaofmdhikaaGreatDoorTie
import Derived.ChangeSame
import Derived.ChangeVars
import Derived.JoinedOf
import Derived.RowKit
import Derived.LaidLaws
import Derived.LaidHandle
import Derived.Stop.Joined
import Derived.SevenTiedAt
import Derived.OpenVars
import Derived.Test.YtdjilaofmdhikaaGreatDoorCards
set_option linter.unusedVariables false
set_option linter.unusedSimpArgs false
set_option linter.unusedVariables false
set_option linter.unusedSimpArgs false
set_option maxRecDepth 100000
namespace Go.Proofs.YtdjilaofmdhikaaGreatDoor
open Go.RowKit Go.Sy
theorem mk_of {W : Wd} (h : Snd W) (hs : Sm W) : MkP W := by
  have I := inv_of h hs
  refine ⟨h.z.k0, h.z.k1, h.z.ram, h.z.slots, fun i hi hk => ?_⟩
  obtain ⟨g1, g2, _⟩ := I.sl i hi
  have hr := slNo_range g1
  have := g2 (by omega)
  omega
def rmE (W : Wd) (s : Int) : Int := bif decide (s < 0) || decide ((W.nSlots : Int) ≤ s) then 2 else bif (W.slots s.toNat).kind == 0 then 6 else bif (W.slots s.toNat).kind == 1 then 0 else 3
def rmN (W : Wd) (s : Int) : Int := bif rmE W s == 0 then bif frmB W.nSlots W.slots s then (W.slots s.toNat).len - (W.slots s.toNat).mark else (W.slots s.toNat).len else 0
def rmZ (W : Wd) (s z : Int) : Int := bif rmE W s == 0 then rmN W s else z
structure X_mktC where
  (s k n to : Int) (W : Wd)
def s_mktC : Sy.Spec := ⟨X_mktC, fun ⟨s, k, n, to, _⟩ => [.ptr 0 0 none 0 0, .pt true 1 (fun _ => .v (.int .i64 s)), .pt true 1 (fun _ => .v (.int .i64 k)), .pt true 1 (fun _ => .v (.int .i64 n)), .pt true 1 (fun _ => .v (.int .i64 to))], fun ⟨_, _, _, _, W⟩ => wMem W, fun ⟨_, _, _, _, W⟩ => Sm W ∧ Snd W, fun ⟨s, k, n, to, W⟩ => .er 35 116 (mkE W s k n to) (-1), fun ⟨s, k, n, to, W⟩ => wMem (mkX W s k n to),
  fun args mem => match args with | [a0, a1, a2, a3, a4] => some ⟨intD (ptF a1 0), intD (ptF a2 0), intD (ptF a3 0), intD (ptF a4 0), wMJD mem 0⟩ | _ => none⟩
def c_mktC : Con := ⟨[true], s_mktC.g, none⟩
def V_mktC : X_mktC → Prop := fun ⟨s, k, n, to, W⟩ => let a0:=SV.ptr 0 0 none 0 0;let b0:=0=0;let c0:=W.nRam;let d0:=c0=c0;let e0:=W.nKinds;let g0:=e0=e0;let h0:=W.nSlots;let k0:=h0=h0;let l0:=W.nTasks;let o0:=l0=l0;let q0:=W.nLines;let u0:=q0=q0;let v0:=W.nBits=W.nBits;let w0:=W.nCores;let x0:=w0=w0;let y0:=W.nReady;let z0:=y0=y0;let a1:=W.nTlbs=W.nTlbs;let b1:=W.nDoms=W.nDoms;let c1:=W.time=W.time;let d1:=(o0∧(∀e1:Nat,let g1:=W.tasks e1;let h1:=g1.prio;let k1:=g1.node;let l1:=g1.space;let o1:=g1.helper;let q1:=g1.loc;let u1:=g1.word;let v1:=g1.badge;let w1:=g1.owes;let x1:=g1.core;let y1:=g1.dom;e1<l0→(((((((((((((((((((True∧g1.r0=g1.r0)∧g1.r1=g1.r1)∧g1.r2=g1.r2)∧g1.r3=g1.r3)∧g1.r4=g1.r4)∧g1.r5=g1.r5)∧g1.r6=g1.r6)∧g1.r7=g1.r7)∧g1.pc=g1.pc)∧g1.st=g1.st)∧h1=h1)∧k1=k1)∧l1=l1)∧o1=o1)∧q1=q1)∧u1=u1)∧v1=v1)∧w1=w1)∧x1=x1)∧y1=y1))∧(u0∧(∀z1:Nat,let a2:=W.linesN z1;z1<q0→True∧a2=a2∧(∀b2:Nat,b2<a2→True∧W.lines z1 b2=W.lines z1 b2)))∧(v0∧(∀c2:Nat,c2<W.nBits→True∧W.bits c2=W.bits c2))∧(x0∧(∀d2:Nat,d2<w0→True∧W.cores d2=W.cores d2))∧(z0∧(∀e2:Nat,let g2:=W.readyN e2;e2<y0→True∧g2=g2∧(∀h2:Nat,h2<g2→True∧W.ready e2 h2=W.ready e2 h2)))∧(a1∧(∀k2:Nat,let l2:=W.tlbsN k2;k2<W.nTlbs→True∧l2=l2∧(∀o2:Nat,let q2:=W.tlbs k2 o2;let u2:=q2.sp;let v2:=q2.pg;let w2:=q2.fr;let x2:=q2.wr;o2<l2→(((True∧u2=u2)∧v2=v2)∧w2=w2)∧x2=x2)))∧(b1∧(∀y2:Nat,y2<W.nDoms→True∧W.doms y2=W.doms y2))∧True;let z2:=mkE W s k n to;let a3:=0=0;((a0=a0∧s=s∧k=k∧n=n∧to=to∧True)∧((((((((((((True∧b0∧d0)∧b0∧g0)∧b0∧k0)∧b0∧o0)∧b0∧u0)∧b0∧v0)∧b0∧x0)∧b0∧z0)∧b0∧a1)∧b0∧b1)∧c1)∧(d0∧(∀b3:Nat,b3<c0→
    True∧W.ram b3=W.ram b3))∧(g0∧(∀c3:Nat,c3<e0→True∧W.kinds c3=W.kinds c3))∧(k0∧(∀d3:Nat,let e3:=W.slots d3;let g3:=e3.kind;let h3:=e3.base;let k3:=e3.len;let l3:=e3.mark;let o3:=e3.rights;let q3:=e3.badge;let u3:=e3.from_;d3<h0→((((((True∧g3=g3)∧h3=h3)∧k3=k3)∧l3=l3)∧o3=o3)∧q3=q3)∧u3=u3))∧d1)∧s_makeP.match_1 (fun v3:X_makeP=>Prop) (X_makeP.mk s k n to W) (fun w3:Int=>fun x3:Int=>fun y3:Int=>fun z3:Int=>fun a4:Wd=>MkP a4))∧(z2=z2∧((-1):Int)=(-1))∧(((((((((((True∧a3∧d0)∧a3∧g0)∧a3∧k0)∧a3∧o0)∧a3∧u0)∧a3∧v0)∧a3∧x0)∧a3∧z0)∧a3∧a1)∧a3∧b1)∧c1)∧(d0∧(∀b4:Nat,let c4:=mkXr W s k n to b4;b4<c0→True∧c4=c4))∧(g0∧(∀d4:Nat,let e4:=mkXk W s k n to d4;d4<e0→True∧e4=e4))∧(k0∧(∀g4:Nat,let h4:=mkXs W s k n to g4;let k4:=h4.kind;let l4:=h4.base;let o4:=h4.len;let q4:=h4.mark;let u4:=h4.rights;let v4:=h4.badge;let w4:=h4.from_;g4<h0→((((((True∧k4=k4)∧l4=l4)∧o4=o4)∧q4=q4)∧u4=u4)∧v4=v4)∧w4=w4))∧d1
set_option maxHeartbeats 2000000 in
theorem ok_mktC : FnOK Tryz.prog glE 78 c_mktC := ok_of (.cons (ok_makeP.up glN_glE) .nil) false Tryz.call78 Tryz.func78 (fun _ => []) (V := V_mktC) (fun _ => by kernel_rfl) fun ⟨s, k, n, to, W⟩ hp => by
  dsimp only [s_mktC] at hp
  dsimp only [V_mktC, tn, w64]
  simp only [std, stb, eq_self, implies_true, Bool.cond_self]
  try simp only [wd_eta]
  exact mk_of hp.2 hp.1
structure X_mktD where
  (W : Wd) (s k n to : Int)
def s_mktD : Sy.Spec := ⟨X_mktD, fun ⟨W, s, k, n, to⟩ => [wSV W, .fn 78 4 (lsv [.pt true 1 (fun _ => .v (.int .i64 s)), .pt true 1 (fun _ => .v (.int .i64 k)), .pt true 1 (fun _ => .v (.int .i64 n)), .pt true 1 (fun _ => .v (.int .i64 to))])], fun _ => [], fun ⟨W, _, _, _, _⟩ => Sm W ∧ Snd W, fun ⟨W, s, k, n, to⟩ => .tp 2 (lsv [wRd (gdW (mkE W s k n to) (mkX W s k n to)), .er 35 116 (mkE W s k n to) (-1)]), fun _ => [],
  fun args mem => match args with | [a0, a1] => (match isFn 78 a1 with | true => some ⟨wSVD a0, intD (ptF (fnF a1 0) 0), intD (ptF (fnF a1 1) 0), intD (ptF (fnF a1 2) 0), intD (ptF (fnF a1 3) 0)⟩ | false => none) | _ => none⟩
def c_mktD : Con := ⟨[], s_mktD.g, none⟩
def V_mktD : X_mktD → Prop := fun ⟨W, s, k, n, to⟩ => let a0:=W.nRam;let b0:=a0=a0;let c0:=b0∧(∀d0:Nat,d0<a0→True∧W.ram d0=W.ram d0);let e0:=W.nKinds;let g0:=e0=e0;let h0:=g0∧(∀k0:Nat,k0<e0→True∧W.kinds k0=W.kinds k0);let l0:=W.nSlots;let o0:=l0=l0;let q0:=o0∧(∀u0:Nat,let v0:=W.slots u0;let w0:=v0.kind;let x0:=v0.base;let y0:=v0.len;let z0:=v0.mark;let a1:=v0.rights;let b1:=v0.badge;let c1:=v0.from_;u0<l0→((((((True∧w0=w0)∧x0=x0)∧y0=y0)∧z0=z0)∧a1=a1)∧b1=b1)∧c1=c1);let d1:=W.nTasks;let e1:=d1=d1;let g1:=e1∧(∀h1:Nat,let k1:=W.tasks h1;let l1:=k1.prio;let o1:=k1.node;let q1:=k1.space;let u1:=k1.helper;let v1:=k1.loc;let w1:=k1.word;let x1:=k1.badge;let y1:=k1.owes;let z1:=k1.core;let a2:=k1.dom;h1<d1→(((((((((((((((((((True∧k1.r0=k1.r0)∧k1.r1=k1.r1)∧k1.r2=k1.r2)∧k1.r3=k1.r3)∧k1.r4=k1.r4)∧k1.r5=k1.r5)∧k1.r6=k1.r6)∧k1.r7=k1.r7)∧k1.pc=k1.pc)∧k1.st=k1.st)∧l1=l1)∧o1=o1)∧q1=q1)∧u1=u1)∧v1=v1)∧w1=w1)∧x1=x1)∧y1=y1)∧z1=z1)∧a2=a2);let b2:=W.nLines;let c2:=b2=b2;let d2:=c2∧(∀e2:Nat,let g2:=W.linesN e2;e2<b2→True∧g2=g2∧(∀h2:Nat,h2<g2→True∧W.lines e2 h2=W.lines e2 h2));let k2:=W.nBits;let l2:=k2=k2;let o2:=l2∧(∀q2:Nat,q2<k2→True∧W.bits q2=W.bits q2);let u2:=W.nCores;let v2:=u2=u2;let w2:=v2∧(∀x2:Nat,x2<u2→True∧W.cores x2=W.cores x2);let y2:=W.nReady;let z2:=y2=y2;let a3:=z2∧(∀b3:Nat,let c3:=W.readyN b3;b3<y2→True∧c3=c3∧(∀d3:Nat,d3<c3→True∧W.ready b3 d3=W.ready b3 d3));let e3:=W.nTlbs;let g3:=e3=e3;
    let h3:=g3∧(∀k3:Nat,let l3:=W.tlbsN k3;k3<e3→True∧l3=l3∧(∀o3:Nat,let q3:=W.tlbs k3 o3;let u3:=q3.sp;let v3:=q3.pg;let w3:=q3.fr;let x3:=q3.wr;o3<l3→(((True∧u3=u3)∧v3=v3)∧w3=w3)∧x3=x3));let y3:=W.nDoms;let z3:=y3=y3;let a4:=z3∧(∀b4:Nat,b4<y3→True∧W.doms b4=W.doms b4);let c4:=W.time=W.time;let d4:=(((((((((((True∧c0)∧h0)∧q0)∧g1)∧d2)∧o2)∧w2)∧a3)∧h3)∧a4)∧c4)∧True;let e4:=tn 10 True;let g4:=mkE W s k n to;let h4:=gdW g4 (mkX W s k n to);let k4:=h4.nRam;let l4:=h4.nKinds;let o4:=h4.nSlots;let q4:=h4.nTasks;let u4:=h4.nLines;let v4:=h4.nBits;let w4:=h4.nCores;let x4:=h4.nReady;let y4:=h4.nTlbs;let z4:=h4.nDoms;let a5:=h4.time;let b5:=True∧((((((((((True∧k4=0)∧l4=0)∧o4=0)∧q4=0)∧u4=0)∧v4=0)∧w4=0)∧x4=0)∧y4=0)∧z4=0)∧0=a5;let c5:=((-1):Int)=(-1);let d5:=0=0;let e5:=g4 !=0;tn 2 ((d4∧True∧s_wCheck.match_1 (fun g5:X_wCheck=>Prop) (X_wCheck.mk W) (fun h5:Wd=>Sm h5))∧((wE W !=0)=true→e4∧(b5∧(8:Int)≠0∧g4=8∧c5)∧True)∧((wE W !=0)=false→(d4∧True∧s_cloneW.match_1 (fun k5:X_cloneW=>Prop) (X_cloneW.mk W) (fun l5:Wd=>Lg l5))∧e4∧((SV.ptr 0 0 none 0 0=SV.ptr 0 0 none 0 0∧(True∧s=s)∧(True∧k=k)∧(True∧n=n)∧(True∧to=to)∧True)∧((((((((((((True∧d5∧b0)∧d5∧g0)∧d5∧o0)∧d5∧e1)∧d5∧c2)∧d5∧l2)∧d5∧v2)∧d5∧z2)∧d5∧g3)∧d5∧z3)∧c4)∧c0∧h0∧q0∧g1∧d2∧o2∧w2∧a3∧h3∧a4∧True)∧Sm W∧Snd W)∧(e5=true→e4∧(b5∧g4=g4∧c5)∧True)∧(e5=false→e4∧((True∧((((((((((True∧a0=k4∧(∀o5:Nat,o5<k4→True∧mkXr W s k n to (0+o5)=h4.ram o5))∧e0=l4∧(∀q5:Nat,q5<l4→True∧mkXk W s k n to (0+q5)=h4.kinds q5))∧l0=o4∧(∀u5:Nat,let v5:=mkXs W s k n to (0+u5);
    let w5:=h4.slots u5;u5<o4→((((((True∧v5.kind=w5.kind)∧v5.base=w5.base)∧v5.len=w5.len)∧v5.mark=w5.mark)∧v5.rights=w5.rights)∧v5.badge=w5.badge)∧v5.from_=w5.from_))∧d1=q4∧(∀x5:Nat,let y5:=W.tasks (0+x5);let z5:=h4.tasks x5;x5<q4→(((((((((((((((((((True∧y5.r0=z5.r0)∧y5.r1=z5.r1)∧y5.r2=z5.r2)∧y5.r3=z5.r3)∧y5.r4=z5.r4)∧y5.r5=z5.r5)∧y5.r6=z5.r6)∧y5.r7=z5.r7)∧y5.pc=z5.pc)∧y5.st=z5.st)∧y5.prio=z5.prio)∧y5.node=z5.node)∧y5.space=z5.space)∧y5.helper=z5.helper)∧y5.loc=z5.loc)∧y5.word=z5.word)∧y5.badge=z5.badge)∧y5.owes=z5.owes)∧y5.core=z5.core)∧y5.dom=z5.dom))∧b2=u4∧(∀a6:Nat,a6<u4→True∧W.linesN (0+a6)=h4.linesN a6∧(∀b6:Nat,b6<h4.linesN a6→True∧W.lines (0+a6) (0+b6)=h4.lines a6 b6)))∧k2=v4∧(∀c6:Nat,c6<v4→True∧W.bits (0+c6)=h4.bits c6))∧u2=w4∧(∀d6:Nat,d6<w4→True∧W.cores (0+d6)=h4.cores d6))∧y2=x4∧(∀e6:Nat,e6<x4→True∧W.readyN (0+e6)=h4.readyN e6∧(∀g6:Nat,g6<h4.readyN e6→True∧W.ready (0+e6) (0+g6)=h4.ready e6 g6)))∧e3=y4∧(∀h6:Nat,let k6:=0+h6;h6<y4→True∧W.tlbsN k6=h4.tlbsN h6∧(∀l6:Nat,let o6:=W.tlbs k6 (0+l6);let q6:=h4.tlbs h6 l6;l6<h4.tlbsN h6→(((True∧o6.sp=q6.sp)∧o6.pg=q6.pg)∧o6.fr=q6.fr)∧o6.wr=q6.wr)))∧y3=z4∧(∀u6:Nat,u6<z4→True∧W.doms (0+u6)=h4.doms u6))∧W.time=a5)∧g4=0∧c5)∧True)))
set_option maxHeartbeats 2000000 in
theorem ok_mktD : FnOK Tryz.prog glE 66 c_mktD := ok_of (.cons (ok_wCheck.up glN_glE) (.cons (ok_cloneW.up glN_glE) (.cons ok_mktC .nil))) false Tryz.call66 Tryz.func66 (fun _ => []) (V := V_mktD) (fun _ => by kernel_rfl) fun ⟨W, s, k, n, to⟩ hp => by
  dsimp only [s_mktD] at hp
  dsimp only [V_mktD, tn, w64]
  simp only [std, stb, eq_self, implies_true, Bool.cond_self]
  obtain ⟨hs, hw⟩ := hp
  have h0 := snd0 hw
  refine ⟨hs, fun h => absurd (by simpa using h0) (by simpa using h), fun _ => ⟨lg_sm hs, ⟨hs, hw⟩, fun h2 => ?_, fun h2 => ?_⟩⟩
  · simp only [fun X => gdW_no X (ne0 h2)]
    repeat' (first | exact trivial | rfl | refine And.intro ?_ ?_ | intro _ | exact absurd ‹_› (Nat.not_lt_zero _) | fail)
  · simp only [fun X => gdW_yes X (eq0 h2)]
    repeat' (first | exact trivial | rfl | refine And.intro ?_ ?_ | intro _ | exact absurd ‹_› (Nat.not_lt_zero _) | fail)
    exact eq_of_beq (eq0 h2)
structure X_mktX where
  (W : Wd) (s k n to : Int)
def s_mktX : Sy.Spec := ⟨X_mktX, fun ⟨W, s, k, n, to⟩ => [wSV W, .v (.int .i64 s), .v (.int .i64 k), .v (.int .i64 n), .v (.int .i64 to)], fun _ => [], fun ⟨W, _, _, _, _⟩ => Sm W ∧ Snd W, fun ⟨W, s, k, n, to⟩ => .tp 2 (lsv [wRd (gdW (mkE W s k n to) (mkX W s k n to)), .er 35 116 (mkE W s k n to) (-1)]), fun _ => [],
  fun args mem => match args with | [a0, a1, a2, a3, a4] => some ⟨wSVD a0, intD (a1), intD (a2), intD (a3), intD (a4)⟩ | _ => none⟩
def c_mktX : Con := ⟨[], s_mktX.g, none⟩
def V_mktX : X_mktX → Prop := fun ⟨W, s, k, n, to⟩ => let a0:=W.nKinds;let b0:=W.nSlots;let c0:=W.nTasks;let d0:=W.nLines;let e0:=W.nCores;let g0:=W.nReady;let h0:=mkE W s k n to;let k0:=gdW h0 (mkX W s k n to);let l0:=k0.nRam;let o0:=k0.nKinds;let q0:=k0.nSlots;let u0:=k0.nTasks;let v0:=k0.nLines;let w0:=k0.nBits;let x0:=k0.nCores;let y0:=k0.nReady;let z0:=k0.nTlbs;let a1:=k0.nDoms;let b1:=k0.time;tn 6 ((((((((((((((True∧W.nRam=W.nRam∧(∀c1:Nat,c1<W.nRam→True∧W.ram c1=W.ram c1))∧a0=a0∧(∀d1:Nat,d1<a0→True∧W.kinds d1=W.kinds d1))∧b0=b0∧(∀e1:Nat,let g1:=W.slots e1;let h1:=g1.kind;let k1:=g1.base;let l1:=g1.len;let o1:=g1.mark;let q1:=g1.rights;let u1:=g1.badge;let v1:=g1.from_;e1<b0→((((((True∧h1=h1)∧k1=k1)∧l1=l1)∧o1=o1)∧q1=q1)∧u1=u1)∧v1=v1))∧c0=c0∧(∀w1:Nat,let x1:=W.tasks w1;let y1:=x1.prio;let z1:=x1.node;let a2:=x1.space;let b2:=x1.helper;let c2:=x1.loc;let d2:=x1.word;let e2:=x1.badge;let g2:=x1.owes;let h2:=x1.core;let k2:=x1.dom;w1<c0→(((((((((((((((((((True∧x1.r0=x1.r0)∧x1.r1=x1.r1)∧x1.r2=x1.r2)∧x1.r3=x1.r3)∧x1.r4=x1.r4)∧x1.r5=x1.r5)∧x1.r6=x1.r6)∧x1.r7=x1.r7)∧x1.pc=x1.pc)∧x1.st=x1.st)∧y1=y1)∧z1=z1)∧a2=a2)∧b2=b2)∧c2=c2)∧d2=d2)∧e2=e2)∧g2=g2)∧h2=h2)∧k2=k2))∧d0=d0∧(∀l2:Nat,let o2:=W.linesN l2;l2<d0→True∧o2=o2∧(∀q2:Nat,q2<o2→True∧W.lines l2 q2=W.lines l2 q2)))∧W.nBits=W.nBits∧(∀u2:Nat,u2<W.nBits→True∧W.bits u2=W.bits u2))∧e0=e0∧(∀v2:Nat,v2<e0→True∧W.cores v2=W.cores v2))∧g0=g0∧(∀w2:Nat,let x2:=W.readyN w2;w2<g0→True∧x2=x2∧(∀y2:Nat,y2<x2→True∧W.ready w2 y2=W.ready w2 y2)))∧W.nTlbs=W.nTlbs∧(∀z2:Nat,let a3:=W.tlbsN z2;z2<W.nTlbs→
    True∧a3=a3∧(∀b3:Nat,let c3:=W.tlbs z2 b3;let d3:=c3.sp;let e3:=c3.pg;let g3:=c3.fr;let h3:=c3.wr;b3<a3→(((True∧d3=d3)∧e3=e3)∧g3=g3)∧h3=h3)))∧W.nDoms=W.nDoms∧(∀k3:Nat,k3<W.nDoms→True∧W.doms k3=W.doms k3))∧W.time=W.time)∧(((tn 2 (s=s)∧True∧k=k)∧True∧n=n)∧True∧to=to)∧True)∧True∧Sm W∧Snd W)∧tn 10 True∧((True∧((((((((((True∧l0=l0∧(∀l3:Nat,l3<l0→True∧k0.ram l3=k0.ram l3))∧o0=o0∧(∀o3:Nat,o3<o0→True∧k0.kinds o3=k0.kinds o3))∧q0=q0∧(∀q3:Nat,let u3:=k0.slots q3;let v3:=u3.kind;let w3:=u3.base;let x3:=u3.len;let y3:=u3.mark;let z3:=u3.rights;let a4:=u3.badge;let b4:=u3.from_;q3<q0→((((((True∧v3=v3)∧w3=w3)∧x3=x3)∧y3=y3)∧z3=z3)∧a4=a4)∧b4=b4))∧u0=u0∧(∀c4:Nat,let d4:=k0.tasks c4;let e4:=d4.prio;let g4:=d4.node;let h4:=d4.space;let k4:=d4.helper;let l4:=d4.loc;let o4:=d4.word;let q4:=d4.badge;let u4:=d4.owes;let v4:=d4.core;let w4:=d4.dom;c4<u0→(((((((((((((((((((True∧d4.r0=d4.r0)∧d4.r1=d4.r1)∧d4.r2=d4.r2)∧d4.r3=d4.r3)∧d4.r4=d4.r4)∧d4.r5=d4.r5)∧d4.r6=d4.r6)∧d4.r7=d4.r7)∧d4.pc=d4.pc)∧d4.st=d4.st)∧e4=e4)∧g4=g4)∧h4=h4)∧k4=k4)∧l4=l4)∧o4=o4)∧q4=q4)∧u4=u4)∧v4=v4)∧w4=w4))∧v0=v0∧(∀x4:Nat,let y4:=k0.linesN x4;x4<v0→True∧y4=y4∧(∀z4:Nat,z4<y4→True∧k0.lines x4 z4=k0.lines x4 z4)))∧w0=w0∧(∀a5:Nat,a5<w0→True∧k0.bits a5=k0.bits a5))∧x0=x0∧(∀b5:Nat,b5<x0→True∧k0.cores b5=k0.cores b5))∧y0=y0∧(∀c5:Nat,let d5:=k0.readyN c5;c5<y0→True∧d5=d5∧(∀e5:Nat,e5<d5→True∧k0.ready c5 e5=k0.ready c5 e5)))∧z0=z0∧(∀g5:Nat,let h5:=k0.tlbsN g5;g5<z0→True∧h5=h5∧(∀k5:Nat,let l5:=k0.tlbs g5 k5;let o5:=l5.sp;let q5:=l5.pg;
    let u5:=l5.fr;let v5:=l5.wr;k5<h5→(((True∧o5=o5)∧q5=q5)∧u5=u5)∧v5=v5)))∧a1=a1∧(∀w5:Nat,w5<a1→True∧k0.doms w5=k0.doms w5))∧b1=b1)∧h0=h0∧((-1):Int)=(-1))∧True)
set_option maxHeartbeats 2000000 in
theorem ok_mktX : FnOK Tryz.prog glE 22 c_mktX := ok_of (.cons ok_mktD .nil) false Tryz.call22 Tryz.func22 (fun _ => []) (V := V_mktX) (fun _ => by kernel_rfl) fun ⟨W, s, k, n, to⟩ hp => by
  dsimp only [s_mktX] at hp
  dsimp only [V_mktX, tn, w64]
  simp only [std, stb, eq_self, implies_true, Bool.cond_self]
  try simp only [wd_eta]
  exact hp
structure X_mktY where
  (W : Wd) (s k n to : Int)
def s_mktY : Sy.Spec := ⟨X_mktY, fun ⟨W, s, k, n, to⟩ => [wSV W, .v (.int .i64 s), .v (.int .i64 k), .v (.int .i64 n), .v (.int .i64 to)], fun _ => [], fun ⟨W, _, _, _, _⟩ => Sm W ∧ wE W ≠ 0, fun _ => .tp 2 (lsv [wRd oW, .er 35 116 8 (-1)]), fun _ => [],
  fun args mem => match args with | [a0, a1, a2, a3, a4] => some ⟨wSVD a0, intD (a1), intD (a2), intD (a3), intD (a4)⟩ | _ => none⟩
def c_mktY : Con := ⟨[], s_mktY.g, none⟩
def V_mktY : X_mktY → Prop := fun ⟨W, _, _, _, _⟩ => let a0:=W.nKinds;let b0:=W.nSlots;let c0:=W.nTasks;let d0:=W.nLines;let e0:=W.nCores;let g0:=W.nReady;let h0:=(0:Int)=0;let k0:=True∧h0;let l0:=0=0∧(∀o0:Nat,o0<0→k0);let q0:=True∧l0;let u0:=(k0∧h0)∧h0;let v0:=(((u0∧h0)∧h0)∧h0)∧h0;let w0:=((-1):Int)=(-1);let x0:=0=0∧(∀y0:Nat,y0<0→q0);tn 6 ((((((((((((((True∧W.nRam=W.nRam∧(∀z0:Nat,z0<W.nRam→True∧W.ram z0=W.ram z0))∧a0=a0∧(∀a1:Nat,a1<a0→True∧W.kinds a1=W.kinds a1))∧b0=b0∧(∀b1:Nat,let c1:=W.slots b1;let d1:=c1.kind;let e1:=c1.base;let g1:=c1.len;let h1:=c1.mark;let k1:=c1.rights;let l1:=c1.badge;let o1:=c1.from_;b1<b0→((((((True∧d1=d1)∧e1=e1)∧g1=g1)∧h1=h1)∧k1=k1)∧l1=l1)∧o1=o1))∧c0=c0∧(∀q1:Nat,let u1:=W.tasks q1;let v1:=u1.prio;let w1:=u1.node;let x1:=u1.space;let y1:=u1.helper;let z1:=u1.loc;let a2:=u1.word;let b2:=u1.badge;let c2:=u1.owes;let d2:=u1.core;let e2:=u1.dom;q1<c0→(((((((((((((((((((True∧u1.r0=u1.r0)∧u1.r1=u1.r1)∧u1.r2=u1.r2)∧u1.r3=u1.r3)∧u1.r4=u1.r4)∧u1.r5=u1.r5)∧u1.r6=u1.r6)∧u1.r7=u1.r7)∧u1.pc=u1.pc)∧u1.st=u1.st)∧v1=v1)∧w1=w1)∧x1=x1)∧y1=y1)∧z1=z1)∧a2=a2)∧b2=b2)∧c2=c2)∧d2=d2)∧e2=e2))∧d0=d0∧(∀g2:Nat,let h2:=W.linesN g2;g2<d0→True∧h2=h2∧(∀k2:Nat,k2<h2→True∧W.lines g2 k2=W.lines g2 k2)))∧W.nBits=W.nBits∧(∀l2:Nat,l2<W.nBits→True∧W.bits l2=W.bits l2))∧e0=e0∧(∀o2:Nat,o2<e0→True∧W.cores o2=W.cores o2))∧g0=g0∧(∀q2:Nat,let u2:=W.readyN q2;q2<g0→True∧u2=u2∧(∀v2:Nat,v2<u2→True∧W.ready q2 v2=W.ready q2 v2)))∧W.nTlbs=W.nTlbs∧(∀w2:Nat,let x2:=W.tlbsN w2;w2<W.nTlbs→True∧x2=x2∧(∀y2:Nat,let z2:=W.tlbs w2 y2;let a3:=z2.sp;
    let b3:=z2.pg;let c3:=z2.fr;let d3:=z2.wr;y2<x2→(((True∧a3=a3)∧b3=b3)∧c3=c3)∧d3=d3)))∧W.nDoms=W.nDoms∧(∀e3:Nat,e3<W.nDoms→True∧W.doms e3=W.doms e3))∧W.time=W.time)∧True∧True)∧True∧Sm W∧wE W≠0)∧tn 10 True∧((True∧(((((((((q0∧l0)∧0=0∧(∀g3:Nat,g3<0→v0))∧0=0∧(∀h3:Nat,h3<0→((((((((((((v0∧h0)∧h0)∧h0)∧h0)∧w0)∧w0)∧w0)∧w0)∧h0)∧h0)∧w0)∧h0)∧h0))∧x0)∧l0)∧l0)∧x0)∧0=0∧(∀k3:Nat,k3<0→True∧0=0∧(∀l3:Nat,l3<0→u0∧false=false)))∧l0)∧h0)∧(8:Int)=8∧w0)∧True)
set_option maxHeartbeats 2000000 in
theorem ok_mktY : FnOK Tryz.prog glE 22 c_mktY := ok_of (.cons ok_done8 .nil) false Tryz.call22 Tryz.func22 (fun _ => []) (V := V_mktY) (fun _ => by kernel_rfl) fun ⟨W, s, k, n, to⟩ hp => by
  dsimp only [s_mktY] at hp
  dsimp only [V_mktY, tn, w64]
  simp only [std, stb, eq_self, implies_true, Bool.cond_self]
  try simp only [wd_eta]
  exact hp
structure X_mktR where
  (s k n to : Int) (W : Wd)
def s_mktR : Sy.Spec := ⟨X_mktR, fun ⟨s, k, n, to, _⟩ => [.ptr 0 0 none 0 0, .pt true 1 (fun _ => .v (.int .i64 s)), .pt true 1 (fun _ => .v (.int .i64 k)), .pt true 1 (fun _ => .v (.int .i64 n)), .pt true 1 (fun _ => .v (.int .i64 to))], fun ⟨_, _, _, _, W⟩ => wMem W, fun ⟨_, _, _, _, W⟩ => Sm W ∧ Snd W, fun ⟨s, k, n, to, W⟩ => .v (.int .i64 (mkE W s k n to)), fun ⟨s, k, n, to, W⟩ => wMem (mkX W s k n to),
  fun args mem => match args with | [a0, a1, a2, a3, a4] => some ⟨intD (ptF a1 0), intD (ptF a2 0), intD (ptF a3 0), intD (ptF a4 0), wMJD mem 0⟩ | _ => none⟩
def c_mktR : Con := ⟨[true], s_mktR.g, none⟩
def V_mktR : X_mktR → Prop := fun ⟨s, k, n, to, W⟩ => let a0:=SV.ptr 0 0 none 0 0;let b0:=0=0;let c0:=W.nRam;let d0:=c0=c0;let e0:=W.nKinds;let g0:=e0=e0;let h0:=W.nSlots;let k0:=h0=h0;let l0:=W.nTasks;let o0:=l0=l0;let q0:=W.nLines;let u0:=q0=q0;let v0:=W.nBits=W.nBits;let w0:=W.nCores;let x0:=w0=w0;let y0:=W.nReady;let z0:=y0=y0;let a1:=W.nTlbs=W.nTlbs;let b1:=W.nDoms=W.nDoms;let c1:=W.time=W.time;let d1:=(o0∧(∀e1:Nat,let g1:=W.tasks e1;let h1:=g1.prio;let k1:=g1.node;let l1:=g1.space;let o1:=g1.helper;let q1:=g1.loc;let u1:=g1.word;let v1:=g1.badge;let w1:=g1.owes;let x1:=g1.core;let y1:=g1.dom;e1<l0→(((((((((((((((((((True∧g1.r0=g1.r0)∧g1.r1=g1.r1)∧g1.r2=g1.r2)∧g1.r3=g1.r3)∧g1.r4=g1.r4)∧g1.r5=g1.r5)∧g1.r6=g1.r6)∧g1.r7=g1.r7)∧g1.pc=g1.pc)∧g1.st=g1.st)∧h1=h1)∧k1=k1)∧l1=l1)∧o1=o1)∧q1=q1)∧u1=u1)∧v1=v1)∧w1=w1)∧x1=x1)∧y1=y1))∧(u0∧(∀z1:Nat,let a2:=W.linesN z1;z1<q0→True∧a2=a2∧(∀b2:Nat,b2<a2→True∧W.lines z1 b2=W.lines z1 b2)))∧(v0∧(∀c2:Nat,c2<W.nBits→True∧W.bits c2=W.bits c2))∧(x0∧(∀d2:Nat,d2<w0→True∧W.cores d2=W.cores d2))∧(z0∧(∀e2:Nat,let g2:=W.readyN e2;e2<y0→True∧g2=g2∧(∀h2:Nat,h2<g2→True∧W.ready e2 h2=W.ready e2 h2)))∧(a1∧(∀k2:Nat,let l2:=W.tlbsN k2;k2<W.nTlbs→True∧l2=l2∧(∀o2:Nat,let q2:=W.tlbs k2 o2;let u2:=q2.sp;let v2:=q2.pg;let w2:=q2.fr;let x2:=q2.wr;o2<l2→(((True∧u2=u2)∧v2=v2)∧w2=w2)∧x2=x2)))∧(b1∧(∀y2:Nat,y2<W.nDoms→True∧W.doms y2=W.doms y2))∧True;let z2:=mkE W s k n to;let a3:=0=0;((a0=a0∧s=s∧k=k∧n=n∧to=to∧True)∧((((((((((((True∧b0∧d0)∧b0∧g0)∧b0∧k0)∧b0∧o0)∧b0∧u0)∧b0∧v0)∧b0∧x0)∧b0∧z0)∧b0∧a1)∧b0∧b1)∧c1)∧(d0∧(∀b3:Nat,b3<c0→
    True∧W.ram b3=W.ram b3))∧(g0∧(∀c3:Nat,c3<e0→True∧W.kinds c3=W.kinds c3))∧(k0∧(∀d3:Nat,let e3:=W.slots d3;let g3:=e3.kind;let h3:=e3.base;let k3:=e3.len;let l3:=e3.mark;let o3:=e3.rights;let q3:=e3.badge;let u3:=e3.from_;d3<h0→((((((True∧g3=g3)∧h3=h3)∧k3=k3)∧l3=l3)∧o3=o3)∧q3=q3)∧u3=u3))∧d1)∧s_makeR.match_1 (fun v3:X_makeR=>Prop) (X_makeR.mk s k n to W) (fun w3:Int=>fun x3:Int=>fun y3:Int=>fun z3:Int=>fun a4:Wd=>MkP a4))∧z2=z2∧(((((((((((True∧a3∧d0)∧a3∧g0)∧a3∧k0)∧a3∧o0)∧a3∧u0)∧a3∧v0)∧a3∧x0)∧a3∧z0)∧a3∧a1)∧a3∧b1)∧c1)∧(d0∧(∀b4:Nat,let c4:=mkXr W s k n to b4;b4<c0→True∧c4=c4))∧(g0∧(∀d4:Nat,let e4:=mkXk W s k n to d4;d4<e0→True∧e4=e4))∧(k0∧(∀g4:Nat,let h4:=mkXs W s k n to g4;let k4:=h4.kind;let l4:=h4.base;let o4:=h4.len;let q4:=h4.mark;let u4:=h4.rights;let v4:=h4.badge;let w4:=h4.from_;g4<h0→((((((True∧k4=k4)∧l4=l4)∧o4=o4)∧q4=q4)∧u4=u4)∧v4=v4)∧w4=w4))∧d1
set_option maxHeartbeats 2000000 in
theorem ok_mktR : FnOK Tryz.prog glE 23 c_mktR := ok_of (.cons (ok_makeR.up glN_glE) .nil) false Tryz.call23 Tryz.func23 (fun _ => []) (V := V_mktR) (fun _ => by kernel_rfl) fun ⟨s, k, n, to, W⟩ hp => by
  dsimp only [s_mktR] at hp
  dsimp only [V_mktR, tn, w64]
  simp only [std, stb, eq_self, implies_true, Bool.cond_self]
  try simp only [wd_eta]
  exact mk_of hp.2 hp.1
structure X_mktL where
  (W : Wd) (s k n to : Int)
def s_mktL : Sy.Spec := ⟨X_mktL, fun ⟨W, s, k, n, to⟩ => [wRd (gdW (mkE W s k n to) (mkX W s k n to)), .er 35 116 (mkE W s k n to) (-1), wSV W, .v (.int .i64 0), .fn 23 4 (lsv [.pt true 1 (fun _ => .v (.int .i64 s)), .pt true 1 (fun _ => .v (.int .i64 k)), .pt true 1 (fun _ => .v (.int .i64 n)), .pt true 1 (fun _ => .v (.int .i64 to))])], fun _ => [], fun ⟨W, _, _, _, _⟩ => Sm W ∧ Snd W, fun _ => .v (.bool true), fun _ => [],
  fun args mem => match args with | [a0, a1, a2, a3, a4] => (match isFn 23 a4 with | true => some ⟨wSVD a2, intD (ptF (fnF a4 0) 0), intD (ptF (fnF a4 1) 0), intD (ptF (fnF a4 2) 0), intD (ptF (fnF a4 3) 0)⟩ | false => none) | _ => none⟩
def c_mktL : Con := ⟨[], s_mktL.g, none⟩
def V_mktL : X_mktL → Prop := fun ⟨W, s, k, n, to⟩ => let a0:=W.nRam;let b0:=a0=a0;let c0:=b0∧(∀d0:Nat,d0<a0→True∧W.ram d0=W.ram d0);let e0:=W.nKinds;let g0:=e0=e0;let h0:=g0∧(∀k0:Nat,k0<e0→True∧W.kinds k0=W.kinds k0);let l0:=W.nSlots;let o0:=l0=l0;let q0:=o0∧(∀u0:Nat,let v0:=W.slots u0;let w0:=v0.kind;let x0:=v0.base;let y0:=v0.len;let z0:=v0.mark;let a1:=v0.rights;let b1:=v0.badge;let c1:=v0.from_;u0<l0→((((((True∧w0=w0)∧x0=x0)∧y0=y0)∧z0=z0)∧a1=a1)∧b1=b1)∧c1=c1);let d1:=W.nTasks;let e1:=d1=d1;let g1:=e1∧(∀h1:Nat,let k1:=W.tasks h1;let l1:=k1.prio;let o1:=k1.node;let q1:=k1.space;let u1:=k1.helper;let v1:=k1.loc;let w1:=k1.word;let x1:=k1.badge;let y1:=k1.owes;let z1:=k1.core;let a2:=k1.dom;h1<d1→(((((((((((((((((((True∧k1.r0=k1.r0)∧k1.r1=k1.r1)∧k1.r2=k1.r2)∧k1.r3=k1.r3)∧k1.r4=k1.r4)∧k1.r5=k1.r5)∧k1.r6=k1.r6)∧k1.r7=k1.r7)∧k1.pc=k1.pc)∧k1.st=k1.st)∧l1=l1)∧o1=o1)∧q1=q1)∧u1=u1)∧v1=v1)∧w1=w1)∧x1=x1)∧y1=y1)∧z1=z1)∧a2=a2);let b2:=W.nLines;let c2:=b2=b2;let d2:=c2∧(∀e2:Nat,let g2:=W.linesN e2;e2<b2→True∧g2=g2∧(∀h2:Nat,h2<g2→True∧W.lines e2 h2=W.lines e2 h2));let k2:=W.nBits;let l2:=k2=k2;let o2:=l2∧(∀q2:Nat,q2<k2→True∧W.bits q2=W.bits q2);let u2:=W.nCores;let v2:=u2=u2;let w2:=v2∧(∀x2:Nat,x2<u2→True∧W.cores x2=W.cores x2);let y2:=W.nReady;let z2:=y2=y2;let a3:=z2∧(∀b3:Nat,let c3:=W.readyN b3;b3<y2→True∧c3=c3∧(∀d3:Nat,d3<c3→True∧W.ready b3 d3=W.ready b3 d3));let e3:=W.nTlbs;let g3:=e3=e3;
    let h3:=g3∧(∀k3:Nat,let l3:=W.tlbsN k3;k3<e3→True∧l3=l3∧(∀o3:Nat,let q3:=W.tlbs k3 o3;let u3:=q3.sp;let v3:=q3.pg;let w3:=q3.fr;let x3:=q3.wr;o3<l3→(((True∧u3=u3)∧v3=v3)∧w3=w3)∧x3=x3));let y3:=W.nDoms;let z3:=y3=y3;let a4:=z3∧(∀b4:Nat,b4<y3→True∧W.doms b4=W.doms b4);let c4:=W.time;let d4:=c4=c4;let e4:=True∧True;let g4:=0=0;let h4:=mkE W s k n to;let k4:=h4 !=0;let l4:=h4=h4;let o4:=((-1):Int)=(-1);let q4:=l4∧o4;let u4:=h4==h4&&((-1):Int)==(-1);let v4:=gdW h4 (mkX W s k n to);let w4:=v4.nRam;let x4:=v4.nKinds;let y4:=v4.nSlots;let z4:=v4.nTasks;let a5:=v4.nLines;let b5:=v4.nBits;let c5:=v4.nCores;let d5:=v4.nReady;let e5:=v4.nTlbs;let g5:=v4.nDoms;let h5:=v4.time;
    let k5:=((((((((((True∧w4=w4∧(∀l5:Nat,l5<w4→True∧v4.ram l5=v4.ram l5))∧x4=x4∧(∀o5:Nat,o5<x4→True∧v4.kinds o5=v4.kinds o5))∧y4=y4∧(∀q5:Nat,let u5:=v4.slots q5;let v5:=u5.kind;let w5:=u5.base;let x5:=u5.len;let y5:=u5.mark;let z5:=u5.rights;let a6:=u5.badge;let b6:=u5.from_;q5<y4→((((((True∧v5=v5)∧w5=w5)∧x5=x5)∧y5=y5)∧z5=z5)∧a6=a6)∧b6=b6))∧z4=z4∧(∀c6:Nat,let d6:=v4.tasks c6;let e6:=d6.prio;let g6:=d6.node;let h6:=d6.space;let k6:=d6.helper;let l6:=d6.loc;let o6:=d6.word;let q6:=d6.badge;let u6:=d6.owes;let v6:=d6.core;let w6:=d6.dom;c6<z4→(((((((((((((((((((True∧d6.r0=d6.r0)∧d6.r1=d6.r1)∧d6.r2=d6.r2)∧d6.r3=d6.r3)∧d6.r4=d6.r4)∧d6.r5=d6.r5)∧d6.r6=d6.r6)∧d6.r7=d6.r7)∧d6.pc=d6.pc)∧d6.st=d6.st)∧e6=e6)∧g6=g6)∧h6=h6)∧k6=k6)∧l6=l6)∧o6=o6)∧q6=q6)∧u6=u6)∧v6=v6)∧w6=w6))∧a5=a5∧(∀x6:Nat,let y6:=v4.linesN x6;x6<a5→True∧y6=y6∧(∀z6:Nat,z6<y6→True∧v4.lines x6 z6=v4.lines x6 z6)))∧b5=b5∧(∀a7:Nat,a7<b5→True∧v4.bits a7=v4.bits a7))∧c5=c5∧(∀b7:Nat,b7<c5→True∧v4.cores b7=v4.cores b7))∧d5=d5∧(∀c7:Nat,let d7:=v4.readyN c7;c7<d5→True∧d7=d7∧(∀e7:Nat,e7<d7→True∧v4.ready c7 e7=v4.ready c7 e7)))∧e5=e5∧(∀g7:Nat,let h7:=v4.tlbsN g7;g7<e5→True∧h7=h7∧(∀k7:Nat,let l7:=v4.tlbs g7 k7;let o7:=l7.sp;let q7:=l7.pg;let u7:=l7.fr;let v7:=l7.wr;k7<h7→(((True∧o7=o7)∧q7=q7)∧u7=u7)∧v7=v7)))∧g5=g5∧(∀w7:Nat,w7<g5→True∧v4.doms w7=v4.doms w7))∧h5=h5;let x7:=(k5∧True)∧True∧w4=0∧x4=0∧y4=0∧z4=0∧a5=0∧b5=0∧c5=0∧d5=0∧e5=0∧g5=0∧h5=0;let y7:=h4==0;let z7:=y7=true;
    let a8:=e1∧(∀b8:Nat,let c8:=W.tasks (0+b8);let d8:=c8.r0;let e8:=c8.r1;let g8:=c8.r2;let h8:=c8.r3;let k8:=c8.r4;let l8:=c8.r5;let o8:=c8.r6;let q8:=c8.r7;let r8:=c8.pc;let u8:=c8.st;let v8:=c8.prio;let w8:=c8.node;let x8:=c8.space;let y8:=c8.helper;let z8:=c8.loc;let a9:=c8.word;let b9:=c8.badge;let c9:=c8.owes;let d9:=c8.core;let e9:=c8.dom;b8<d1→(((((((((((((((((((True∧d8=d8)∧e8=e8)∧g8=g8)∧h8=h8)∧k8=k8)∧l8=l8)∧o8=o8)∧q8=q8)∧r8=r8)∧u8=u8)∧v8=v8)∧w8=w8)∧x8=x8)∧y8=y8)∧z8=z8)∧a9=a9)∧b9=b9)∧c9=c9)∧d9=d9)∧e9=e9);let g9:=c2∧(∀h9:Nat,let k9:=W.linesN (0+h9);h9<b2→True∧k9=k9∧(∀l9:Nat,let o9:=W.lines (0+h9) (0+l9);l9<k9→True∧o9=o9));let q9:=l2∧(∀r9:Nat,r9<k2→True∧W.bits (0+r9)=W.bits (0+r9));let u9:=v2∧(∀v9:Nat,let w9:=W.cores (0+v9);v9<u2→True∧w9=w9);let x9:=z2∧(∀y9:Nat,let z9:=W.readyN (0+y9);y9<y2→True∧z9=z9∧(∀a10:Nat,let b10:=W.ready (0+y9) (0+a10);a10<z9→True∧b10=b10));let c10:=g3∧(∀d10:Nat,let e10:=0+d10;let g10:=W.tlbsN e10;d10<e3→True∧g10=g10∧(∀h10:Nat,let k10:=W.tlbs e10 (0+h10);let l10:=k10.sp;let o10:=k10.pg;let q10:=k10.fr;let r10:=k10.wr;h10<g10→(((True∧l10=l10)∧o10=o10)∧q10=q10)∧r10=r10));let u10:=z3∧(∀v10:Nat,v10<y3→True∧W.doms (0+v10)=W.doms (0+v10));let w10:=y7&&((-1):Int)==(-1);tn 2 ((((((((((((((True∧c0)∧h0)∧q0)∧g1)∧d2)∧o2)∧w2)∧a3)∧h3)∧a4)∧d4)∧True)∧True∧s_copyW.match_1 (fun x10:X_copyW=>Prop) (X_copyW.mk W) (fun y10:Wd=>Lg y10))∧True∧tn 9 e4∧(((0:Int)==0)=true→((SV.ptr 0 0 none 0 0=SV.ptr 0 0 none 0 0∧(True∧s=s)∧(True∧k=k)∧(True∧n=n)∧(True∧to=to)∧True)∧
    ((((((((((((True∧g4∧b0)∧g4∧g0)∧g4∧o0)∧g4∧e1)∧g4∧c2)∧g4∧l2)∧g4∧v2)∧g4∧z2)∧g4∧g3)∧g4∧z3)∧d4)∧c0∧h0∧q0∧g1∧d2∧o2∧w2∧a3∧h3∧a4∧True)∧Sm W∧Snd W)∧(k4=true→((l4∧True)∧e4)∧((q4∧((True∧l4)∧o4)∧True)∧e4)∧(u4=true→x7)∧cond u4 true false=true∧True)∧(k4=false→(z7→(k5∧(((((((((((True∧b0∧(∀z10:Nat,let a11:=mkXr W s k n to (0+z10);z10<a0→True∧a11=a11))∧g0∧(∀b11:Nat,let c11:=mkXk W s k n to (0+b11);b11<e0→True∧c11=c11))∧o0∧(∀d11:Nat,let e11:=mkXs W s k n to (0+d11);let g11:=e11.kind;let h11:=e11.base;let k11:=e11.len;let l11:=e11.mark;let o11:=e11.rights;let q11:=e11.badge;let r11:=e11.from_;d11<l0→((((((True∧g11=g11)∧h11=h11)∧k11=k11)∧l11=l11)∧o11=o11)∧q11=q11)∧r11=r11))∧a8)∧g9)∧q9)∧u9)∧x9)∧c10)∧u10)∧d4)∧True)∧e4)∧cond y7 (sameW v4 (Wd.mk a0 (fun u11:Nat=>mkXr W s k n to (0+u11)) e0 (fun v11:Nat=>mkXk W s k n to (0+v11)) l0 (fun w11:Nat=>mkXs W s k n to (0+w11)) d1 (fun x11:Nat=>W.tasks (0+x11)) b2 (fun y11:Nat=>W.linesN (0+y11)) (fun z11:Nat=>fun a12:Nat=>W.lines (0+z11) (0+a12)) k2 (fun b12:Nat=>W.bits (0+b12)) u2 (fun c12:Nat=>W.cores (0+c12)) y2 (fun d12:Nat=>W.readyN (0+d12)) (fun e12:Nat=>fun g12:Nat=>W.ready (0+e12) (0+g12)) e3 (fun h12:Nat=>W.tlbsN (0+h12)) (fun k12:Nat=>fun l12:Nat=>W.tlbs (0+k12) (0+l12)) y3 (fun o12:Nat=>W.doms (0+o12)) c4)) false=true∧True))∧(((0:Int)==0)=false→(((0:Int) !=0)=true→(((0:Int)=0∧True)∧e4)∧((q4∧((True∧(0:Int)=0)∧o4)∧True)∧e4)∧(w10=true→x7)∧cond w10 true false=true∧True)∧(((0:Int) !=0)=false→(z7→(k5∧(((((((((((True∧b0∧(∀q12:Nat,q12<a0→True∧
    W.ram (0+q12)=W.ram (0+q12)))∧g0∧(∀r12:Nat,let u12:=W.kinds (0+r12);r12<e0→True∧u12=u12))∧o0∧(∀v12:Nat,let w12:=W.slots (0+v12);let x12:=w12.kind;let y12:=w12.base;let z12:=w12.len;let a13:=w12.mark;let b13:=w12.rights;let c13:=w12.badge;let d13:=w12.from_;v12<l0→((((((True∧x12=x12)∧y12=y12)∧z12=z12)∧a13=a13)∧b13=b13)∧c13=c13)∧d13=d13))∧a8)∧g9)∧q9)∧u9)∧x9)∧c10)∧u10)∧d4)∧True)∧e4)∧cond y7 (sameW v4 (Wd.mk a0 (fun e13:Nat=>W.ram (0+e13)) e0 (fun g13:Nat=>W.kinds (0+g13)) l0 (fun h13:Nat=>W.slots (0+h13)) d1 (fun k13:Nat=>W.tasks (0+k13)) b2 (fun l13:Nat=>W.linesN (0+l13)) (fun o13:Nat=>fun q13:Nat=>W.lines (0+o13) (0+q13)) k2 (fun r13:Nat=>W.bits (0+r13)) u2 (fun u13:Nat=>W.cores (0+u13)) y2 (fun v13:Nat=>W.readyN (0+v13)) (fun w13:Nat=>fun x13:Nat=>W.ready (0+w13) (0+x13)) e3 (fun y13:Nat=>W.tlbsN (0+y13)) (fun z13:Nat=>fun a14:Nat=>W.tlbs (0+z13) (0+a14)) y3 (fun b14:Nat=>W.doms (0+b14)) c4)) false=true∧True)))
set_option maxHeartbeats 2000000 in
theorem ok_mktL : FnOK Tryz.prog glE 15 c_mktL := ok_of (.cons ok_is (.cons (ok_err.up glN_glE) (.cons (ok_copyW.up glN_glE) (.cons ok_nothing (.cons (ok_sameWorld.up glN_glE) (.cons ok_mktR .nil)))))) false Tryz.call15 Tryz.func15 (fun _ => []) (V := V_mktL) (fun _ => by kernel_rfl) fun ⟨W, s, k, n, to⟩ hp => by
  dsimp only [s_mktL] at hp
  dsimp only [V_mktL, tn, w64]
  simp only [std, stb, eq_self, implies_true, Bool.cond_self]
  obtain ⟨hs, hw⟩ := hp
  refine ⟨lg_sm hs, fun _ => ⟨⟨hs, hw⟩, fun h2 => ?_, fun h2 => ?_⟩, fun h => absurd h (by decide)⟩
  · simp only [fun X => gdW_no X (ne0 h2)]
    repeat' (first | exact trivial | rfl | refine And.intro ?_ ?_ | intro _ | exact absurd ‹_› (Nat.not_lt_zero _) | fail)
    simp
  · simp only [fun X => gdW_yes X (eq0 h2)]
    simp only [eq0 h2, Bool.true_and]
    exact sameW_refl _
structure X_roomR where
  (W : Wd) (s : Int)
def s_roomR : Sy.Spec := ⟨X_roomR, fun ⟨W, s⟩ => [wPT W, .v (.int .i64 s)], fun _ => [], fun ⟨W, _⟩ => MkP W, fun ⟨W, s⟩ => .tp 2 (lsv [.v (.int .i64 (rmN W s)), .v (.int .i64 (rmE W s))]), fun _ => [],
  fun args mem => match args with | [a0, a1] => some ⟨wPTD a0, intD (a1)⟩ | _ => none⟩
def c_roomR : Con := ⟨[], s_roomR.g, none⟩
def V_roomR : X_roomR → Prop := fun ⟨W, s⟩ => let a0:=W.nKinds;let b0:=W.nSlots;let c0:=W.nTasks;let d0:=W.nLines;let e0:=W.nCores;let g0:=W.nReady;let h0:=(((((((((((True∧W.nRam=W.nRam∧(∀k0:Nat,k0<W.nRam→True∧W.ram k0=W.ram k0))∧a0=a0∧(∀l0:Nat,l0<a0→True∧W.kinds l0=W.kinds l0))∧b0=b0∧(∀o0:Nat,let q0:=W.slots o0;let u0:=q0.kind;let v0:=q0.base;let w0:=q0.len;let x0:=q0.mark;let y0:=q0.rights;let z0:=q0.badge;let a1:=q0.from_;o0<b0→((((((True∧u0=u0)∧v0=v0)∧w0=w0)∧x0=x0)∧y0=y0)∧z0=z0)∧a1=a1))∧c0=c0∧(∀b1:Nat,let c1:=W.tasks b1;let d1:=c1.prio;let e1:=c1.node;let g1:=c1.space;let h1:=c1.helper;let k1:=c1.loc;let l1:=c1.word;let o1:=c1.badge;let q1:=c1.owes;let u1:=c1.core;let v1:=c1.dom;b1<c0→(((((((((((((((((((True∧c1.r0=c1.r0)∧c1.r1=c1.r1)∧c1.r2=c1.r2)∧c1.r3=c1.r3)∧c1.r4=c1.r4)∧c1.r5=c1.r5)∧c1.r6=c1.r6)∧c1.r7=c1.r7)∧c1.pc=c1.pc)∧c1.st=c1.st)∧d1=d1)∧e1=e1)∧g1=g1)∧h1=h1)∧k1=k1)∧l1=l1)∧o1=o1)∧q1=q1)∧u1=u1)∧v1=v1))∧d0=d0∧(∀w1:Nat,let x1:=W.linesN w1;w1<d0→True∧x1=x1∧(∀y1:Nat,y1<x1→True∧W.lines w1 y1=W.lines w1 y1)))∧W.nBits=W.nBits∧(∀z1:Nat,z1<W.nBits→True∧W.bits z1=W.bits z1))∧e0=e0∧(∀a2:Nat,a2<e0→True∧W.cores a2=W.cores a2))∧g0=g0∧(∀b2:Nat,let c2:=W.readyN b2;b2<g0→True∧c2=c2∧(∀d2:Nat,d2<c2→True∧W.ready b2 d2=W.ready b2 d2)))∧W.nTlbs=W.nTlbs∧(∀e2:Nat,let g2:=W.tlbsN e2;e2<W.nTlbs→True∧g2=g2∧(∀h2:Nat,let k2:=W.tlbs e2 h2;let l2:=k2.sp;let o2:=k2.pg;let q2:=k2.fr;let u2:=k2.wr;h2<g2→(((True∧l2=l2)∧o2=o2)∧q2=q2)∧u2=u2)))∧W.nDoms=W.nDoms∧(∀v2:Nat,v2<W.nDoms→True∧W.doms v2=W.doms v2))∧W.time=W.time)∧s=s∧True;let w2:=hasE W s !=0;
    let x2:=rmN W s;let y2:=True∧0=x2;let z2:=rmE W s;let a3:=W.slots (Int.toNat s);let b3:=a3.kind !=1;let c3:=frmB b0 W.slots s;let d3:=a3.len;let e3:Int:=d3-a3.mark;let g3:=0=z2;(h0∧True∧True)∧(w2=true→(y2∧hasE W s=z2)∧True)∧(w2=false→(0≤s∧s<(b0:Int))∧True∧tn 5 True∧(b3=true→(y2∧3=z2)∧True)∧(b3=false→(h0∧True∧s_anyFrom.match_1 (fun h3:X_anyFrom=>Prop) (X_anyFrom.mk W s) (fun k3:Wd=>fun l3:Int=>k3.nSlots≤100000))∧(c3=true→w64 e3=e3∧((True∧e3=x2)∧g3)∧True)∧(c3=false→((True∧d3=x2)∧g3)∧True)))
set_option maxHeartbeats 1000000 in
theorem ok_roomR : FnOK Tryz.prog glE 25 c_roomR := ok_of (.cons (ok_has_.up glN_glE) (.cons (ok_anyFrom.up glN_glE) .nil)) false Tryz.call25 Tryz.func25 (fun _ => []) (V := V_roomR) (fun _ => by kernel_rfl) fun ⟨W, s⟩ hp => by
  dsimp only [s_roomR] at hp
  dsimp only [V_roomR, tn, w64]
  simp only [std, stb, eq_self, implies_true, Bool.cond_self]
  try simp only [wd_eta]
  obtain ⟨k0, k1, hr, hs, hsl⟩ := hp
  cases hd : (decide (s < 0) || decide ((W.nSlots : Int) ≤ s)) with
  | true =>
    have e : hasE W s = 2 := by unfold hasE; rw [hd]; rfl
    have r : rmE W s = 2 := by unfold rmE; rw [hd]; rfl
    have n0 : rmN W s = 0 := by unfold rmN; rw [r]; rfl
    rw [e, r, n0]; exact ⟨fun _ => ⟨rfl, rfl⟩, fun h => absurd h (by decide)⟩
  | false =>
    have hb : 0 ≤ s ∧ s < W.nSlots := by
      have h' := hd
      simp only [Bool.or_eq_false_iff, decide_eq_false_iff_not] at h'
      omega
    cases h0 : (W.slots s.toNat).kind == 0 with
    | true =>
      have e : hasE W s = 6 := by unfold hasE; rw [hd, h0]; rfl
      have r : rmE W s = 6 := by unfold rmE; rw [hd, h0]; rfl
      have n0 : rmN W s = 0 := by unfold rmN; rw [r]; rfl
      rw [e, r, n0]; exact ⟨fun _ => ⟨rfl, rfl⟩, fun h => absurd h (by decide)⟩
    | false =>
      have e : hasE W s = 0 := by unfold hasE; rw [hd, h0]; rfl
      rw [e]
      refine ⟨fun h => absurd h (by decide), fun _ => ⟨hb, fun h1 => ?_, fun h1 => ?_⟩⟩
      · have h1' : ((W.slots s.toNat).kind == 1) = false := by simpa using h1
        have r : rmE W s = 3 := by unfold rmE; rw [hd, h0, h1']; rfl
        have n0 : rmN W s = 0 := by unfold rmN; rw [r]; rfl
        exact ⟨n0.symm, r.symm⟩
      · have h1' : ((W.slots s.toNat).kind == 1) = true := by simpa using h1
        have r : rmE W s = 0 := by unfold rmE; rw [hd, h0, h1']; rfl
        obtain ⟨b0, m0, m1, l0, bl⟩ := hsl s.toNat (by omega) (eq_of_beq h1')
        exact ⟨by omega, fun hf => ⟨wr_in (by omega) (by omega), by unfold rmN; rw [r, hf]; rfl, r.symm⟩, fun hf => ⟨by unfold rmN; rw [r, hf]; rfl, r.symm⟩⟩
structure X_rmC where
  (s : Int) (W : Wd) (z : Int)
def s_rmC : Sy.Spec := ⟨X_rmC, fun ⟨s, _, _⟩ => [.ptr 0 0 none 0 0, .pt true 1 (fun _ => .v (.int .i64 s)), .ptr 11 0 none 0 0], fun ⟨_, W, z⟩ => wMem W ++ [.cells [.v (.int .i64 (z))]], fun ⟨_, W, _⟩ => MkP W, fun ⟨s, W, _⟩ => .er 35 116 (rmE W s) (-1), fun ⟨s, W, z⟩ => wMem W ++ [.cells [.v (.int .i64 (rmZ W s z))]],
  fun args mem => match args with | [a0, a1, a2] => some ⟨intD (ptF a1 0), wMJD mem 0, intD (celF mem 11 0)⟩ | _ => none⟩
def c_rmC : Con := ⟨[true, false, true], s_rmC.g, none⟩
def V_rmC : X_rmC → Prop := fun ⟨s, W, z⟩ => let a0:=W.nSlots;let b0:=cond (decide (s<0)) true (decide ((a0:Int)≤s));let c0:=rmE W s;let d0:=((-1):Int)=(-1);let e0:=0=0;let g0:=W.nRam=W.nRam;let h0:=W.nKinds;let k0:=h0=h0;let l0:=a0=a0;let o0:=W.nTasks;let q0:=o0=o0;let u0:=W.nLines;let v0:=u0=u0;let w0:=W.nBits=W.nBits;let x0:=W.nCores;let y0:=x0=x0;let z0:=W.nReady;let a1:=z0=z0;let b1:=W.nTlbs=W.nTlbs;let c1:=W.nDoms=W.nDoms;let d1:=((((((((((True∧e0∧g0)∧e0∧k0)∧e0∧l0)∧e0∧q0)∧e0∧v0)∧e0∧w0)∧e0∧y0)∧e0∧a1)∧e0∧b1)∧e0∧c1)∧W.time=W.time;let e1:=g0∧(∀g1:Nat,g1<W.nRam→True∧W.ram g1=W.ram g1);let h1:=k0∧(∀k1:Nat,k1<h0→True∧W.kinds k1=W.kinds k1);let l1:=l0∧(∀o1:Nat,let q1:=W.slots o1;let u1:=q1.kind;let v1:=q1.base;let w1:=q1.len;let x1:=q1.mark;let y1:=q1.rights;let z1:=q1.badge;let a2:=q1.from_;o1<a0→((((((True∧u1=u1)∧v1=v1)∧w1=w1)∧x1=x1)∧y1=y1)∧z1=z1)∧a2=a2);let b2:=q0∧(∀c2:Nat,let d2:=W.tasks c2;let e2:=d2.prio;let g2:=d2.node;let h2:=d2.space;let k2:=d2.helper;let l2:=d2.loc;let o2:=d2.word;let q2:=d2.badge;let u2:=d2.owes;let v2:=d2.core;let w2:=d2.dom;c2<o0→(((((((((((((((((((True∧d2.r0=d2.r0)∧d2.r1=d2.r1)∧d2.r2=d2.r2)∧d2.r3=d2.r3)∧d2.r4=d2.r4)∧d2.r5=d2.r5)∧d2.r6=d2.r6)∧d2.r7=d2.r7)∧d2.pc=d2.pc)∧d2.st=d2.st)∧e2=e2)∧g2=g2)∧h2=h2)∧k2=k2)∧l2=l2)∧o2=o2)∧q2=q2)∧u2=u2)∧v2=v2)∧w2=w2);let x2:=v0∧(∀y2:Nat,let z2:=W.linesN y2;y2<u0→True∧z2=z2∧(∀a3:Nat,a3<z2→True∧W.lines y2 a3=W.lines y2 a3));let b3:=w0∧(∀c3:Nat,c3<W.nBits→True∧W.bits c3=W.bits c3);let d3:=y0∧(∀e3:Nat,e3<x0→True∧W.cores e3=W.cores e3);
    let g3:=a1∧(∀h3:Nat,let k3:=W.readyN h3;h3<z0→True∧k3=k3∧(∀l3:Nat,l3<k3→True∧W.ready h3 l3=W.ready h3 l3));let o3:=b1∧(∀q3:Nat,let u3:=W.tlbsN q3;q3<W.nTlbs→True∧u3=u3∧(∀v3:Nat,let w3:=W.tlbs q3 v3;let x3:=w3.sp;let y3:=w3.pg;let z3:=w3.fr;let a4:=w3.wr;v3<u3→(((True∧x3=x3)∧y3=y3)∧z3=z3)∧a4=a4));let b4:=c1∧(∀c4:Nat,c4<W.nDoms→True∧W.doms c4=W.doms c4);let d4:=rmZ W s z;let e4:=d1∧e1∧h1∧l1∧b2∧x2∧b3∧d3∧g3∧o3∧b4∧(True∧z=d4)∧True;let g4:=W.slots (0+Int.toNat s);let h4:=g4.kind;let k4:=h4==0;let l4:=h4==1;let o4:=frmB a0 (fun q4:Nat=>W.slots (0+q4)) s;let u4:=g4.len;let v4:Int:=u4-g4.mark;let w4:=c0=0∧d0;tn 9 ((b0=true→((2:Int)≠0∧c0=2∧d0)∧e4)∧(b0=false→tn 5 ((0≤s∧s<(a0:Int))∧tn 3 (tn 5 True∧(k4=true→((6:Int)≠0∧c0=6∧d0)∧e4)∧(k4=false→(l4=true→True∧(((l0∧(∀x4:Nat,let y4:=W.slots (0+x4);let z4:=y4.kind;let a5:=y4.base;let b5:=y4.len;let c5:=y4.mark;let d5:=y4.rights;let e5:=y4.badge;let g5:=y4.from_;x4<a0→((((((True∧z4=z4)∧a5=a5)∧b5=b5)∧c5=c5)∧d5=d5)∧e5=e5)∧g5=g5))∧tn 2 (s=s)∧True)∧True∧s_cnSr.match_1 (fun h5:X_cnSr=>Prop) (X_cnSr.mk a0 (fun k5:Nat=>W.slots (0+k5)) s) (fun l5:Nat=>fun o5:∀q5:Nat,Slt=>fun u5:Int=>l5≤100000))∧(o4=true→w64 v4=v4∧True∧w4∧d1∧e1∧h1∧l1∧b2∧x2∧b3∧d3∧g3∧o3∧b4∧(True∧v4=d4)∧True)∧(o4=false→w4∧d1∧e1∧h1∧l1∧b2∧x2∧b3∧d3∧g3∧o3∧b4∧(True∧u4=d4)∧True))∧(l4=false→((3:Int)≠0∧c0=3∧d0)∧e4))))))
set_option maxHeartbeats 2000000 in
theorem ok_rmC : FnOK Tryz.prog glE 82 c_rmC := ok_of (.cons (ok_cnSr.up glN_glE) .nil) false Tryz.call82 Tryz.func82 (fun _ => []) (V := V_rmC) (fun _ => by kernel_rfl) fun ⟨s, W, z⟩ hp => by
  dsimp only [s_rmC] at hp
  dsimp only [V_rmC, tn, w64]
  simp only [std, stb, eq_self, implies_true, Bool.cond_self]
  try simp only [wd_eta]
  obtain ⟨k0, k1, hr, hs, hsl⟩ := hp
  refine ⟨fun hd => ?_, fun hd => ?_⟩
  · have r : rmE W s = 2 := by unfold rmE; rw [hd]; rfl
    exact ⟨⟨by decide, r⟩, by unfold rmZ; rw [r]; rfl⟩
  have hb : 0 ≤ s ∧ s < W.nSlots := by
    have h' := hd
    simp only [Bool.or_eq_false_iff, decide_eq_false_iff_not] at h'
    omega
  refine ⟨hb, fun h0 => ?_, fun h0 => ⟨fun h1 => ?_, fun h1 => ?_⟩⟩
  · have r : rmE W s = 6 := by unfold rmE; rw [hd, h0]; rfl
    exact ⟨⟨by decide, r⟩, by unfold rmZ; rw [r]; rfl⟩
  · have r : rmE W s = 0 := by unfold rmE; rw [hd, h0, h1]; rfl
    have zz : rmZ W s z = rmN W s := by unfold rmZ; rw [r]; rfl
    obtain ⟨b0, m0, m1, l0, bl⟩ := hsl s.toNat (by omega) (eq_of_beq h1)
    refine ⟨by omega, fun hf => ⟨wr_in (by omega) (by omega), r, ?_⟩, fun hf => ⟨r, ?_⟩⟩
    · have hf : frmB W.nSlots W.slots s = true := hf
      rw [zz]; unfold rmN; rw [r, hf]; rfl
    · have hf : frmB W.nSlots W.slots s = false := hf
      rw [zz]; unfold rmN; rw [r, hf]; rfl
  · have r : rmE W s = 3 := by unfold rmE; rw [hd, h0, h1]; rfl
    exact ⟨⟨by decide, r⟩, by unfold rmZ; rw [r]; rfl⟩
structure X_rmD where
  (W : Wd) (s z : Int)
def s_rmD : Sy.Spec := ⟨X_rmD, fun ⟨W, _, _⟩ => [wSV W, .fn 82 2 (lsv [.ptr 0 0 none 0 0, .ptr 1 0 none 0 0])], fun ⟨_, s, z⟩ => [.cells [.v (.int .i64 (s))], .cells [.v (.int .i64 (z))]], fun ⟨W, _, _⟩ => Sm W ∧ Snd W, fun ⟨W, s, _⟩ => .tp 2 (lsv [wRd (gdW (rmE W s) W), .er 35 116 (rmE W s) (-1)]), fun ⟨W, s, z⟩ => [.cells [.v (.int .i64 (s))], .cells [.v (.int .i64 (rmZ W s z))]],
  fun args mem => match args with | [a0, a1] => (match isFn 82 a1 with | true => some ⟨wSVD a0, intD (celF mem 0 0), intD (celF mem 1 0)⟩ | false => none) | _ => none⟩
def c_rmD : Con := ⟨[false, true], s_rmD.g, none⟩
def V_rmD : X_rmD → Prop := fun ⟨W, s, z⟩ => let a0:=W.nRam;let b0:=a0=a0;let c0:=b0∧(∀d0:Nat,d0<a0→True∧W.ram d0=W.ram d0);let e0:=W.nKinds;let g0:=e0=e0;let h0:=g0∧(∀k0:Nat,k0<e0→True∧W.kinds k0=W.kinds k0);let l0:=W.nSlots;let o0:=l0=l0;let q0:=o0∧(∀u0:Nat,let v0:=W.slots u0;let w0:=v0.kind;let x0:=v0.base;let y0:=v0.len;let z0:=v0.mark;let a1:=v0.rights;let b1:=v0.badge;let c1:=v0.from_;u0<l0→((((((True∧w0=w0)∧x0=x0)∧y0=y0)∧z0=z0)∧a1=a1)∧b1=b1)∧c1=c1);let d1:=W.nTasks;let e1:=d1=d1;let g1:=e1∧(∀h1:Nat,let k1:=W.tasks h1;let l1:=k1.prio;let o1:=k1.node;let q1:=k1.space;let u1:=k1.helper;let v1:=k1.loc;let w1:=k1.word;let x1:=k1.badge;let y1:=k1.owes;let z1:=k1.core;let a2:=k1.dom;h1<d1→(((((((((((((((((((True∧k1.r0=k1.r0)∧k1.r1=k1.r1)∧k1.r2=k1.r2)∧k1.r3=k1.r3)∧k1.r4=k1.r4)∧k1.r5=k1.r5)∧k1.r6=k1.r6)∧k1.r7=k1.r7)∧k1.pc=k1.pc)∧k1.st=k1.st)∧l1=l1)∧o1=o1)∧q1=q1)∧u1=u1)∧v1=v1)∧w1=w1)∧x1=x1)∧y1=y1)∧z1=z1)∧a2=a2);let b2:=W.nLines;let c2:=b2=b2;let d2:=c2∧(∀e2:Nat,let g2:=W.linesN e2;e2<b2→True∧g2=g2∧(∀h2:Nat,h2<g2→True∧W.lines e2 h2=W.lines e2 h2));let k2:=W.nBits;let l2:=k2=k2;let o2:=l2∧(∀q2:Nat,q2<k2→True∧W.bits q2=W.bits q2);let u2:=W.nCores;let v2:=u2=u2;let w2:=v2∧(∀x2:Nat,x2<u2→True∧W.cores x2=W.cores x2);let y2:=W.nReady;let z2:=y2=y2;let a3:=z2∧(∀b3:Nat,let c3:=W.readyN b3;b3<y2→True∧c3=c3∧(∀d3:Nat,d3<c3→True∧W.ready b3 d3=W.ready b3 d3));let e3:=W.nTlbs;let g3:=e3=e3;
    let h3:=g3∧(∀k3:Nat,let l3:=W.tlbsN k3;k3<e3→True∧l3=l3∧(∀o3:Nat,let q3:=W.tlbs k3 o3;let u3:=q3.sp;let v3:=q3.pg;let w3:=q3.fr;let x3:=q3.wr;o3<l3→(((True∧u3=u3)∧v3=v3)∧w3=w3)∧x3=x3));let y3:=W.nDoms;let z3:=y3=y3;let a4:=z3∧(∀b4:Nat,b4<y3→True∧W.doms b4=W.doms b4);let c4:=W.time=W.time;let d4:=(((((((((((True∧c0)∧h0)∧q0)∧g1)∧d2)∧o2)∧w2)∧a3)∧h3)∧a4)∧c4)∧True;let e4:=tn 10 True;let g4:=rmE W s;let h4:=gdW g4 W;let k4:=h4.nRam;let l4:=h4.nKinds;let o4:=h4.nSlots;let q4:=h4.nTasks;let u4:=h4.nLines;let v4:=h4.nBits;let w4:=h4.nCores;let x4:=h4.nReady;let y4:=h4.nTlbs;let z4:=h4.nDoms;let a5:=h4.time;let b5:=True∧((((((((((True∧k4=0)∧l4=0)∧o4=0)∧q4=0)∧u4=0)∧v4=0)∧w4=0)∧x4=0)∧y4=0)∧z4=0)∧0=a5;let c5:=((-1):Int)=(-1);let d5:=True∧s=s;let e5:=rmZ W s z;let g5:=0=0;let h5:=g4 !=0;let k5:=d5∧(True∧e5=e5)∧True;tn 2 ((d4∧True∧s_wCheck.match_1 (fun l5:X_wCheck=>Prop) (X_wCheck.mk W) (fun o5:Wd=>Sm o5))∧((wE W !=0)=true→e4∧(b5∧(8:Int)≠0∧g4=8∧c5)∧d5∧(True∧z=e5)∧True)∧((wE W !=0)=false→(d4∧True∧s_cloneW.match_1 (fun q5:X_cloneW=>Prop) (X_cloneW.mk W) (fun u5:Wd=>Lg u5))∧e4∧((SV.ptr 0 0 none 0 0=SV.ptr 0 0 none 0 0∧d5∧SV.ptr (0+1+1+1+1+1+1+1+1+1+1+1) 0 none 0 0=SV.ptr 11 0 none 0 0∧True)∧((((((((((((True∧g5∧b0)∧g5∧g0)∧g5∧o0)∧g5∧e1)∧g5∧c2)∧g5∧l2)∧g5∧v2)∧g5∧z2)∧g5∧g3)∧g5∧z3)∧c4)∧c0∧h0∧q0∧g1∧d2∧o2∧w2∧a3∧h3∧a4∧(True∧z=z)∧True)∧s_rmC.match_1 (fun v5:X_rmC=>Prop) (X_rmC.mk s W z) (fun w5:Int=>fun x5:Wd=>fun y5:Int=>MkP x5))∧(h5=true→e4∧(b5∧g4=g4∧c5)∧k5)∧(h5=false→e4∧((True∧((((((((((True∧
    a0=k4∧(∀z5:Nat,z5<k4→True∧W.ram (0+z5)=h4.ram z5))∧e0=l4∧(∀a6:Nat,a6<l4→True∧W.kinds (0+a6)=h4.kinds a6))∧l0=o4∧(∀b6:Nat,let c6:=W.slots (0+b6);let d6:=h4.slots b6;b6<o4→((((((True∧c6.kind=d6.kind)∧c6.base=d6.base)∧c6.len=d6.len)∧c6.mark=d6.mark)∧c6.rights=d6.rights)∧c6.badge=d6.badge)∧c6.from_=d6.from_))∧d1=q4∧(∀e6:Nat,let g6:=W.tasks (0+e6);let h6:=h4.tasks e6;e6<q4→(((((((((((((((((((True∧g6.r0=h6.r0)∧g6.r1=h6.r1)∧g6.r2=h6.r2)∧g6.r3=h6.r3)∧g6.r4=h6.r4)∧g6.r5=h6.r5)∧g6.r6=h6.r6)∧g6.r7=h6.r7)∧g6.pc=h6.pc)∧g6.st=h6.st)∧g6.prio=h6.prio)∧g6.node=h6.node)∧g6.space=h6.space)∧g6.helper=h6.helper)∧g6.loc=h6.loc)∧g6.word=h6.word)∧g6.badge=h6.badge)∧g6.owes=h6.owes)∧g6.core=h6.core)∧g6.dom=h6.dom))∧b2=u4∧(∀k6:Nat,k6<u4→True∧W.linesN (0+k6)=h4.linesN k6∧(∀l6:Nat,l6<h4.linesN k6→True∧W.lines (0+k6) (0+l6)=h4.lines k6 l6)))∧k2=v4∧(∀o6:Nat,o6<v4→True∧W.bits (0+o6)=h4.bits o6))∧u2=w4∧(∀q6:Nat,q6<w4→True∧W.cores (0+q6)=h4.cores q6))∧y2=x4∧(∀u6:Nat,u6<x4→True∧W.readyN (0+u6)=h4.readyN u6∧(∀v6:Nat,v6<h4.readyN u6→True∧W.ready (0+u6) (0+v6)=h4.ready u6 v6)))∧e3=y4∧(∀w6:Nat,let x6:=0+w6;w6<y4→True∧W.tlbsN x6=h4.tlbsN w6∧(∀y6:Nat,let z6:=W.tlbs x6 (0+y6);let a7:=h4.tlbs w6 y6;y6<h4.tlbsN w6→(((True∧z6.sp=a7.sp)∧z6.pg=a7.pg)∧z6.fr=a7.fr)∧z6.wr=a7.wr)))∧y3=z4∧(∀b7:Nat,b7<z4→True∧W.doms (0+b7)=h4.doms b7))∧W.time=a5)∧g4=0∧c5)∧k5)))
set_option maxHeartbeats 2000000 in
theorem ok_rmD : FnOK Tryz.prog glE 66 c_rmD := ok_of (.cons (ok_wCheck.up glN_glE) (.cons (ok_cloneW.up glN_glE) (.cons ok_rmC .nil))) false Tryz.call66 Tryz.func66 (fun _ => []) (V := V_rmD) (fun _ => by kernel_rfl) fun ⟨W, s, z⟩ hp => by
  dsimp only [s_rmD] at hp
  dsimp only [V_rmD, tn, w64]
  simp only [std, stb, eq_self, implies_true, Bool.cond_self]
  try simp only [wd_eta]
  obtain ⟨hs, hw⟩ := hp
  have h0 := snd0 hw
  refine ⟨hs, fun h => by rw [h0] at h; exact absurd h (by decide), fun _ => ⟨lg_sm hs, mk_of hw hs, fun h2 => ?_, fun h2 => ?_⟩⟩
  · simp only [fun X => gdW_no X (ne0 h2)]
    repeat' (first | exact trivial | rfl | refine And.intro ?_ ?_ | intro _ | exact absurd ‹_› (Nat.not_lt_zero _) | fail)
  · simp only [fun X => gdW_yes X (eq0 h2)]
    repeat' (first | exact trivial | rfl | refine And.intro ?_ ?_ | intro _ | exact absurd ‹_› (Nat.not_lt_zero _) | fail)
    exact eq_of_beq (eq0 h2)
structure X_rmX where
  (W : Wd) (s : Int)
def s_rmX : Sy.Spec := ⟨X_rmX, fun ⟨W, s⟩ => [wSV W, .v (.int .i64 s)], fun _ => [], fun ⟨W, _⟩ => Sm W ∧ Snd W, fun ⟨W, s⟩ => .tp 2 (lsv [.v (.int .i64 (rmN W s)), .er 35 116 (rmE W s) (-1)]), fun _ => [],
  fun args mem => match args with | [a0, a1] => some ⟨wSVD a0, intD (a1)⟩ | _ => none⟩
def c_rmX : Con := ⟨[], s_rmX.g, none⟩
def V_rmX : X_rmX → Prop := fun ⟨W, s⟩ => let a0:=W.nKinds;let b0:=W.nSlots;let c0:=W.nTasks;let d0:=W.nLines;let e0:=W.nCores;let g0:=W.nReady;tn 4 ((((((((((((((True∧W.nRam=W.nRam∧(∀h0:Nat,h0<W.nRam→True∧W.ram h0=W.ram h0))∧a0=a0∧(∀k0:Nat,k0<a0→True∧W.kinds k0=W.kinds k0))∧b0=b0∧(∀l0:Nat,let o0:=W.slots l0;let q0:=o0.kind;let u0:=o0.base;let v0:=o0.len;let w0:=o0.mark;let x0:=o0.rights;let y0:=o0.badge;let z0:=o0.from_;l0<b0→((((((True∧q0=q0)∧u0=u0)∧v0=v0)∧w0=w0)∧x0=x0)∧y0=y0)∧z0=z0))∧c0=c0∧(∀a1:Nat,let b1:=W.tasks a1;let c1:=b1.prio;let d1:=b1.node;let e1:=b1.space;let g1:=b1.helper;let h1:=b1.loc;let k1:=b1.word;let l1:=b1.badge;let o1:=b1.owes;let q1:=b1.core;let u1:=b1.dom;a1<c0→(((((((((((((((((((True∧b1.r0=b1.r0)∧b1.r1=b1.r1)∧b1.r2=b1.r2)∧b1.r3=b1.r3)∧b1.r4=b1.r4)∧b1.r5=b1.r5)∧b1.r6=b1.r6)∧b1.r7=b1.r7)∧b1.pc=b1.pc)∧b1.st=b1.st)∧c1=c1)∧d1=d1)∧e1=e1)∧g1=g1)∧h1=h1)∧k1=k1)∧l1=l1)∧o1=o1)∧q1=q1)∧u1=u1))∧d0=d0∧(∀v1:Nat,let w1:=W.linesN v1;v1<d0→True∧w1=w1∧(∀x1:Nat,x1<w1→True∧W.lines v1 x1=W.lines v1 x1)))∧W.nBits=W.nBits∧(∀y1:Nat,y1<W.nBits→True∧W.bits y1=W.bits y1))∧e0=e0∧(∀z1:Nat,z1<e0→True∧W.cores z1=W.cores z1))∧g0=g0∧(∀a2:Nat,let b2:=W.readyN a2;a2<g0→True∧b2=b2∧(∀c2:Nat,c2<b2→True∧W.ready a2 c2=W.ready a2 c2)))∧W.nTlbs=W.nTlbs∧(∀d2:Nat,let e2:=W.tlbsN d2;d2<W.nTlbs→True∧e2=e2∧(∀g2:Nat,let h2:=W.tlbs d2 g2;let k2:=h2.sp;let l2:=h2.pg;let o2:=h2.fr;let q2:=h2.wr;g2<e2→(((True∧k2=k2)∧l2=l2)∧o2=o2)∧q2=q2)))∧W.nDoms=W.nDoms∧(∀u2:Nat,u2<W.nDoms→True∧W.doms u2=W.doms u2))∧W.time=W.time)∧((True∧
    SV.ptr 0 0 none 0 0=SV.ptr 0 0 none 0 0)∧SV.ptr (0+1) 0 none 0 0=SV.ptr 1 0 none 0 0)∧True)∧((True∧s=s)∧(True∧(0:Int)=0)∧True)∧Sm W∧Snd W)∧True∧tn 10 True∧((True∧rmZ W s 0=rmN W s)∧rmE W s=rmE W s∧((-1):Int)=(-1))∧True)
set_option maxHeartbeats 2000000 in
theorem ok_rmX : FnOK Tryz.prog glE 26 c_rmX := ok_of (.cons ok_rmD .nil) false Tryz.call26 Tryz.func26 (fun _ => []) (V := V_rmX) (fun _ => by kernel_rfl) fun ⟨W, s⟩ hp => by
  dsimp only [s_rmX] at hp
  dsimp only [V_rmX, tn, w64]
  simp only [std, stb, eq_self, implies_true, Bool.cond_self]
  try simp only [wd_eta]
  refine ⟨hp, ?_⟩
  unfold rmZ
  unfold rmN
  cases rmE W s == 0 <;> rfl
structure X_rmY where
  (W : Wd) (s : Int)
def s_rmY : Sy.Spec := ⟨X_rmY, fun ⟨W, s⟩ => [wSV W, .v (.int .i64 s)], fun _ => [], fun ⟨W, _⟩ => Sm W ∧ wE W ≠ 0, fun _ => .tp 2 (lsv [.v (.int .i64 0), .er 35 116 8 (-1)]), fun _ => [],
  fun args mem => match args with | [a0, a1] => some ⟨wSVD a0, intD (a1)⟩ | _ => none⟩
def c_rmY : Con := ⟨[], s_rmY.g, none⟩
def V_rmY : X_rmY → Prop := fun ⟨W, _⟩ => let a0:=W.nKinds;let b0:=W.nSlots;let c0:=W.nTasks;let d0:=W.nLines;let e0:=W.nCores;let g0:=W.nReady;tn 4 ((((((((((((((True∧W.nRam=W.nRam∧(∀h0:Nat,h0<W.nRam→True∧W.ram h0=W.ram h0))∧a0=a0∧(∀k0:Nat,k0<a0→True∧W.kinds k0=W.kinds k0))∧b0=b0∧(∀l0:Nat,let o0:=W.slots l0;let q0:=o0.kind;let u0:=o0.base;let v0:=o0.len;let w0:=o0.mark;let x0:=o0.rights;let y0:=o0.badge;let z0:=o0.from_;l0<b0→((((((True∧q0=q0)∧u0=u0)∧v0=v0)∧w0=w0)∧x0=x0)∧y0=y0)∧z0=z0))∧c0=c0∧(∀a1:Nat,let b1:=W.tasks a1;let c1:=b1.prio;let d1:=b1.node;let e1:=b1.space;let g1:=b1.helper;let h1:=b1.loc;let k1:=b1.word;let l1:=b1.badge;let o1:=b1.owes;let q1:=b1.core;let u1:=b1.dom;a1<c0→(((((((((((((((((((True∧b1.r0=b1.r0)∧b1.r1=b1.r1)∧b1.r2=b1.r2)∧b1.r3=b1.r3)∧b1.r4=b1.r4)∧b1.r5=b1.r5)∧b1.r6=b1.r6)∧b1.r7=b1.r7)∧b1.pc=b1.pc)∧b1.st=b1.st)∧c1=c1)∧d1=d1)∧e1=e1)∧g1=g1)∧h1=h1)∧k1=k1)∧l1=l1)∧o1=o1)∧q1=q1)∧u1=u1))∧d0=d0∧(∀v1:Nat,let w1:=W.linesN v1;v1<d0→True∧w1=w1∧(∀x1:Nat,x1<w1→True∧W.lines v1 x1=W.lines v1 x1)))∧W.nBits=W.nBits∧(∀y1:Nat,y1<W.nBits→True∧W.bits y1=W.bits y1))∧e0=e0∧(∀z1:Nat,z1<e0→True∧W.cores z1=W.cores z1))∧g0=g0∧(∀a2:Nat,let b2:=W.readyN a2;a2<g0→True∧b2=b2∧(∀c2:Nat,c2<b2→True∧W.ready a2 c2=W.ready a2 c2)))∧W.nTlbs=W.nTlbs∧(∀d2:Nat,let e2:=W.tlbsN d2;d2<W.nTlbs→True∧e2=e2∧(∀g2:Nat,let h2:=W.tlbs d2 g2;let k2:=h2.sp;let l2:=h2.pg;let o2:=h2.fr;let q2:=h2.wr;g2<e2→(((True∧k2=k2)∧l2=l2)∧o2=o2)∧q2=q2)))∧W.nDoms=W.nDoms∧(∀u2:Nat,u2<W.nDoms→True∧W.doms u2=W.doms u2))∧W.time=W.time)∧True∧True)∧True∧Sm W∧wE W≠0)∧
    True∧tn 10 True∧((True∧(0:Int)=0)∧(8:Int)=8∧((-1):Int)=(-1))∧True)
set_option maxHeartbeats 2000000 in
theorem ok_rmY : FnOK Tryz.prog glE 26 c_rmY := ok_of (.cons ok_done8 .nil) false Tryz.call26 Tryz.func26 (fun _ => []) (V := V_rmY) (fun _ => by kernel_rfl) fun ⟨W, s⟩ hp => by
  dsimp only [s_rmY] at hp
  dsimp only [V_rmY, tn, w64]
  simp only [std, stb, eq_self, implies_true, Bool.cond_self]
  try simp only [wd_eta]
  exact hp
structure X_clayMakes0 where
  (W : Wd) (s k n to : Int)
def s_clayMakes0 : Sy.Spec := ⟨X_clayMakes0, fun ⟨W, s, k, n, to⟩ => [wSV W, .v (.int .i64 s), .v (.int .i64 k), .v (.int .i64 n), .v (.int .i64 to)], fun _ => [], fun ⟨W, _, _, _, _⟩ => Snd W, fun _ => .v (.bool true), fun _ => [],
  fun args mem => match args with | [a0, a1, a2, a3, a4] => some ⟨wSVD a0, intD (a1), intD (a2), intD (a3), intD (a4)⟩ | _ => none⟩
def V_clayMakes0 : X_clayMakes0 → Prop := fun ⟨W, s, k, n, to⟩ => let a0:=W.nKinds;let b0:=W.nSlots;let c0:=W.nTasks;let d0:=W.nLines;let e0:=W.nCores;let g0:=W.nReady;let h0:=((((((((((True∧W.nRam=W.nRam∧(∀k0:Nat,k0<W.nRam→True∧W.ram k0=W.ram k0))∧a0=a0∧(∀l0:Nat,l0<a0→True∧W.kinds l0=W.kinds l0))∧b0=b0∧(∀o0:Nat,let q0:=W.slots o0;let u0:=q0.kind;let v0:=q0.base;let w0:=q0.len;let x0:=q0.mark;let y0:=q0.rights;let z0:=q0.badge;let a1:=q0.from_;o0<b0→((((((True∧u0=u0)∧v0=v0)∧w0=w0)∧x0=x0)∧y0=y0)∧z0=z0)∧a1=a1))∧c0=c0∧(∀b1:Nat,let c1:=W.tasks b1;let d1:=c1.prio;let e1:=c1.node;let g1:=c1.space;let h1:=c1.helper;let k1:=c1.loc;let l1:=c1.word;let o1:=c1.badge;let q1:=c1.owes;let u1:=c1.core;let v1:=c1.dom;b1<c0→(((((((((((((((((((True∧c1.r0=c1.r0)∧c1.r1=c1.r1)∧c1.r2=c1.r2)∧c1.r3=c1.r3)∧c1.r4=c1.r4)∧c1.r5=c1.r5)∧c1.r6=c1.r6)∧c1.r7=c1.r7)∧c1.pc=c1.pc)∧c1.st=c1.st)∧d1=d1)∧e1=e1)∧g1=g1)∧h1=h1)∧k1=k1)∧l1=l1)∧o1=o1)∧q1=q1)∧u1=u1)∧v1=v1))∧d0=d0∧(∀w1:Nat,let x1:=W.linesN w1;w1<d0→True∧x1=x1∧(∀y1:Nat,y1<x1→True∧W.lines w1 y1=W.lines w1 y1)))∧W.nBits=W.nBits∧(∀z1:Nat,z1<W.nBits→True∧W.bits z1=W.bits z1))∧e0=e0∧(∀a2:Nat,a2<e0→True∧W.cores a2=W.cores a2))∧g0=g0∧(∀b2:Nat,let c2:=W.readyN b2;b2<g0→True∧c2=c2∧(∀d2:Nat,d2<c2→True∧W.ready b2 d2=W.ready b2 d2)))∧W.nTlbs=W.nTlbs∧(∀e2:Nat,let g2:=W.tlbsN e2;e2<W.nTlbs→True∧g2=g2∧(∀h2:Nat,let k2:=W.tlbs e2 h2;let l2:=k2.sp;let o2:=k2.pg;let q2:=k2.fr;let u2:=k2.wr;h2<g2→(((True∧l2=l2)∧o2=o2)∧q2=q2)∧u2=u2)))∧W.nDoms=W.nDoms∧(∀v2:Nat,v2<W.nDoms→True∧W.doms v2=W.doms v2))∧W.time=W.time;let w2:=h0∧True;
    let x2:=True∧True;let y2:=True∧Sm W∧Snd W;let z2:=w2∧y2;let a3:=mkE W s k n to;let b3:=gdW a3 (mkX W s k n to);let c3:=b3.nRam;let d3:=b3.nKinds;let e3:=b3.nSlots;let g3:=b3.nTasks;let h3:=b3.nLines;let k3:=b3.nBits;let l3:=b3.nCores;let o3:=b3.nReady;let q3:=b3.nTlbs;let u3:=b3.nDoms;let v3:=b3.time;let w3:=((-1):Int)=(-1);let x3:=(0:Int)=0;let y3:=h0∧s=s∧True;let z3:=y3∧y2;let a4:=rmE W s;let b4:=a4=a4;let c4:=b4∧w3;let d4:=rmN W s;tn 5 ((w2∧x2)∧(hgB W=true→true=true∧True)∧(hgB W=false→((h0∧s=s∧k=k∧n=n∧to=to∧True)∧y2)∧True∧tn 9 x2∧tn 4 (z2∧True∧(((((((((((((True∧c3=c3∧(∀e4:Nat,e4<c3→True∧b3.ram e4=b3.ram e4))∧d3=d3∧(∀g4:Nat,g4<d3→True∧b3.kinds g4=b3.kinds g4))∧e3=e3∧(∀h4:Nat,let k4:=b3.slots h4;let l4:=k4.kind;let o4:=k4.base;let q4:=k4.len;let u4:=k4.mark;let v4:=k4.rights;let w4:=k4.badge;let x4:=k4.from_;h4<e3→((((((True∧l4=l4)∧o4=o4)∧q4=q4)∧u4=u4)∧v4=v4)∧w4=w4)∧x4=x4))∧g3=g3∧(∀y4:Nat,let z4:=b3.tasks y4;let a5:=z4.prio;let b5:=z4.node;let c5:=z4.space;let d5:=z4.helper;let e5:=z4.loc;let g5:=z4.word;let h5:=z4.badge;let k5:=z4.owes;let l5:=z4.core;let o5:=z4.dom;y4<g3→(((((((((((((((((((True∧z4.r0=z4.r0)∧z4.r1=z4.r1)∧z4.r2=z4.r2)∧z4.r3=z4.r3)∧z4.r4=z4.r4)∧z4.r5=z4.r5)∧z4.r6=z4.r6)∧z4.r7=z4.r7)∧z4.pc=z4.pc)∧z4.st=z4.st)∧a5=a5)∧b5=b5)∧c5=c5)∧d5=d5)∧e5=e5)∧g5=g5)∧h5=h5)∧k5=k5)∧l5=l5)∧o5=o5))∧h3=h3∧(∀q5:Nat,let u5:=b3.linesN q5;q5<h3→True∧u5=u5∧(∀v5:Nat,v5<u5→True∧b3.lines q5 v5=b3.lines q5 v5)))∧k3=k3∧(∀w5:Nat,w5<k3→True∧b3.bits w5=b3.bits w5))∧l3=l3∧(∀x5:Nat,x5<l3→
    True∧b3.cores x5=b3.cores x5))∧o3=o3∧(∀y5:Nat,let z5:=b3.readyN y5;y5<o3→True∧z5=z5∧(∀a6:Nat,a6<z5→True∧b3.ready y5 a6=b3.ready y5 a6)))∧q3=q3∧(∀b6:Nat,let c6:=b3.tlbsN b6;b6<q3→True∧c6=c6∧(∀d6:Nat,let e6:=b3.tlbs b6 d6;let g6:=e6.sp;let h6:=e6.pg;let k6:=e6.fr;let l6:=e6.wr;d6<c6→(((True∧g6=g6)∧h6=h6)∧k6=k6)∧l6=l6)))∧u3=u3∧(∀o6:Nat,o6<u3→True∧b3.doms o6=b3.doms o6))∧v3=v3)∧(a3=a3∧w3)∧h0∧x3∧(((tn 2 (s=s)∧True∧k=k)∧True∧n=n)∧True∧to=to)∧True)∧y2)∧((!true)=true→false=true∧True)∧((!true)=false→z2∧(((0:Int)==0)=true→(y3∧True∧s_roomR.match_1 (fun q6:X_roomR=>Prop) (X_roomR.mk W s) (fun u6:Wd=>fun v6:Int=>MkP u6))∧z3∧((b4∧True)∧x2)∧((c4∧((True∧b4)∧w3)∧True)∧x2)∧cond (a4==a4&&((-1):Int)==(-1)) (d4==d4) false=true∧True)∧(((0:Int)==0)=false→z3∧((x3∧True)∧x2)∧((c4∧((True∧x3)∧w3)∧True)∧x2)∧cond (a4==0&&((-1):Int)==(-1)) (d4==0) false=true∧True)))))
set_option maxHeartbeats 2000000 in
theorem fc_clayMakes0 : ∀ x, s_clayMakes0.pre x → FnC Tryz.prog glE 5 (s_clayMakes0.args x) (s_clayMakes0.mem x) (s_clayMakes0.res x) (s_clayMakes0.mem' x) := fun x hp => fn_of (.cons ok_is (.cons (ok_err.up glN_glE) (.cons (ok_hugeWorld.up glN_glE) (.cons ok_sound0 (.cons ok_mktX (.cons ok_mktL (.cons ok_roomR (.cons ok_rmX .nil)))))))) false Tryz.func5 ((fun _ => []) x) (V := V_clayMakes0 x) (by kernel_rfl) <| (fun ⟨W, s, k, n, to⟩ hp => by
  dsimp only [s_clayMakes0] at hp
  dsimp only [V_clayMakes0, tn, w64]
  simp only [std, stb, eq_self, implies_true, Bool.cond_self]
  try simp only [wd_eta]
  intro h0
  have hs := sm_of h0
  exact ⟨⟨hs, hp⟩, ⟨hs, hp⟩, ⟨hs, hp⟩, fun h => absurd h (by decide), fun _ => ⟨⟨hs, hp⟩, fun _ => ⟨mk_of hp hs, ⟨hs, hp⟩, by simp⟩, fun h => absurd h (by decide)⟩⟩
  : ∀ x, s_clayMakes0.pre x → V_clayMakes0 x) x hp
structure X_clayMakes8 where
  (W : Wd) (s k n to : Int)
def s_clayMakes8 : Sy.Spec := ⟨X_clayMakes8, fun ⟨W, s, k, n, to⟩ => [wSV W, .v (.int .i64 s), .v (.int .i64 k), .v (.int .i64 n), .v (.int .i64 to)], fun _ => [], fun ⟨W, _, _, _, _⟩ => wE W ≠ 0, fun _ => .v (.bool true), fun _ => [],
  fun args mem => match args with | [a0, a1, a2, a3, a4] => some ⟨wSVD a0, intD (a1), intD (a2), intD (a3), intD (a4)⟩ | _ => none⟩
def V_clayMakes8 : X_clayMakes8 → Prop := fun ⟨W, s, k, n, to⟩ => let a0:=W.nKinds;let b0:=W.nSlots;let c0:=W.nTasks;let d0:=W.nLines;let e0:=W.nCores;let g0:=W.nReady;let h0:=((((((((((True∧W.nRam=W.nRam∧(∀k0:Nat,k0<W.nRam→True∧W.ram k0=W.ram k0))∧a0=a0∧(∀l0:Nat,l0<a0→True∧W.kinds l0=W.kinds l0))∧b0=b0∧(∀o0:Nat,let q0:=W.slots o0;let u0:=q0.kind;let v0:=q0.base;let w0:=q0.len;let x0:=q0.mark;let y0:=q0.rights;let z0:=q0.badge;let a1:=q0.from_;o0<b0→((((((True∧u0=u0)∧v0=v0)∧w0=w0)∧x0=x0)∧y0=y0)∧z0=z0)∧a1=a1))∧c0=c0∧(∀b1:Nat,let c1:=W.tasks b1;let d1:=c1.prio;let e1:=c1.node;let g1:=c1.space;let h1:=c1.helper;let k1:=c1.loc;let l1:=c1.word;let o1:=c1.badge;let q1:=c1.owes;let u1:=c1.core;let v1:=c1.dom;b1<c0→(((((((((((((((((((True∧c1.r0=c1.r0)∧c1.r1=c1.r1)∧c1.r2=c1.r2)∧c1.r3=c1.r3)∧c1.r4=c1.r4)∧c1.r5=c1.r5)∧c1.r6=c1.r6)∧c1.r7=c1.r7)∧c1.pc=c1.pc)∧c1.st=c1.st)∧d1=d1)∧e1=e1)∧g1=g1)∧h1=h1)∧k1=k1)∧l1=l1)∧o1=o1)∧q1=q1)∧u1=u1)∧v1=v1))∧d0=d0∧(∀w1:Nat,let x1:=W.linesN w1;w1<d0→True∧x1=x1∧(∀y1:Nat,y1<x1→True∧W.lines w1 y1=W.lines w1 y1)))∧W.nBits=W.nBits∧(∀z1:Nat,z1<W.nBits→True∧W.bits z1=W.bits z1))∧e0=e0∧(∀a2:Nat,a2<e0→True∧W.cores a2=W.cores a2))∧g0=g0∧(∀b2:Nat,let c2:=W.readyN b2;b2<g0→True∧c2=c2∧(∀d2:Nat,d2<c2→True∧W.ready b2 d2=W.ready b2 d2)))∧W.nTlbs=W.nTlbs∧(∀e2:Nat,let g2:=W.tlbsN e2;e2<W.nTlbs→True∧g2=g2∧(∀h2:Nat,let k2:=W.tlbs e2 h2;let l2:=k2.sp;let o2:=k2.pg;let q2:=k2.fr;let u2:=k2.wr;h2<g2→(((True∧l2=l2)∧o2=o2)∧q2=q2)∧u2=u2)))∧W.nDoms=W.nDoms∧(∀v2:Nat,v2<W.nDoms→True∧W.doms v2=W.doms v2))∧W.time=W.time;let w2:=h0∧True;
    let x2:=True∧True;let y2:=True∧Sm W∧wE W≠0;let z2:=w2∧y2;let a3:=(0:Int)=0;let b3:=True∧a3;let c3:=0=0∧(∀d3:Nat,d3<0→b3);let e3:=True∧c3;let g3:=(b3∧a3)∧a3;let h3:=(((g3∧a3)∧a3)∧a3)∧a3;let k3:=((-1):Int)=(-1);let l3:=0=0∧(∀o3:Nat,o3<0→e3);let q3:=(8:Int)=8;let u3:=q3∧k3;let v3:=h0∧s=s∧True;let w3:=v3∧y2;let x3:=rmE W s;let y3:=x3=x3;tn 5 ((w2∧x2)∧(hgB W=true→true=true∧True)∧(hgB W=false→((h0∧s=s∧k=k∧n=n∧to=to∧True)∧y2)∧True∧tn 9 x2∧tn 4 (z2∧True∧((((((((((((e3∧c3)∧0=0∧(∀z3:Nat,z3<0→h3))∧0=0∧(∀a4:Nat,a4<0→((((((((((((h3∧a3)∧a3)∧a3)∧a3)∧k3)∧k3)∧k3)∧k3)∧a3)∧a3)∧k3)∧a3)∧a3))∧l3)∧c3)∧c3)∧l3)∧0=0∧(∀b4:Nat,b4<0→True∧0=0∧(∀c4:Nat,c4<0→g3∧false=false)))∧c3)∧a3)∧u3∧h0∧q3∧x2)∧True∧s_did8.match_1 (fun d4:X_did8=>Prop) (X_did8.mk W) (fun e4:Wd=>Lg e4))∧((!true)=true→false=true∧True)∧((!true)=false→z2∧(((8:Int)==0)=true→(v3∧True∧s_roomR.match_1 (fun g4:X_roomR=>Prop) (X_roomR.mk W s) (fun h4:Wd=>fun k4:Int=>MkP h4))∧w3∧((y3∧True)∧x2)∧((u3∧((True∧y3)∧k3)∧True)∧x2)∧cond (8==x3&&((-1):Int)==(-1)) (0==rmN W s) false=true∧True)∧(((8:Int)==0)=false→w3∧((q3∧True)∧x2)∧((u3∧((True∧q3)∧k3)∧True)∧x2)∧cond ((8:Int)==8&&((-1):Int)==(-1)) ((0:Int)==0) false=true∧True)))))
set_option maxHeartbeats 2000000 in
theorem fc_clayMakes8 : ∀ x, s_clayMakes8.pre x → FnC Tryz.prog glE 5 (s_clayMakes8.args x) (s_clayMakes8.mem x) (s_clayMakes8.res x) (s_clayMakes8.mem' x) := fun x hp => fn_of (.cons ok_roomR (.cons ok_is (.cons (ok_err.up glN_glE) (.cons (ok_hugeWorld.up glN_glE) (.cons ok_sound8 (.cons ok_mktY (.cons ok_did8 (.cons ok_rmY .nil)))))))) false Tryz.func5 ((fun _ => []) x) (V := V_clayMakes8 x) (by kernel_rfl) <| (fun ⟨W, s, k, n, to⟩ hp => by
  dsimp only [s_clayMakes8] at hp
  dsimp only [V_clayMakes8, tn, w64]
  simp only [std, stb, eq_self, implies_true, Bool.cond_self]
  try simp only [wd_eta]
  intro h0
  have hs := sm_of h0
  exact ⟨⟨hs, hp⟩, ⟨hs, hp⟩, lg_sm hs, fun h => absurd h (by decide), fun _ => ⟨⟨hs, hp⟩, fun h => absurd h (by decide), fun _ => ⟨⟨hs, hp⟩, by decide⟩⟩⟩
  : ∀ x, s_clayMakes8.pre x → V_clayMakes8 x) x hp
structure X_clayMakes where
  (W : Wd) (s k n to : Int)
def s_clayMakes : Sy.Spec := ⟨X_clayMakes, fun ⟨W, s, k, n, to⟩ => [wSV W, .v (.int .i64 s), .v (.int .i64 k), .v (.int .i64 n), .v (.int .i64 to)], fun _ => [], fun _ => True, fun _ => .v (.bool true), fun _ => [],
  fun args mem => match args with | [a0, a1, a2, a3, a4] => some ⟨wSVD a0, intD (a1), intD (a2), intD (a3), intD (a4)⟩ | _ => none⟩
def c_clayMakes : Con := ⟨[], s_clayMakes.g, none⟩
theorem ok_clayMakes : FnOK Tryz.prog glE 5 c_clayMakes := fnOK_of Tryz.call5 fun ⟨W, s, k, n, to⟩ _ => if h : wE W = 0 then fc_clayMakes0 ⟨W, s, k, n, to⟩ (Snd.iff.1 h) else fc_clayMakes8 ⟨W, s, k, n, to⟩ h
end Go.Proofs.YtdjilaofmdhikaaGreatDoor
namespace Go.Proofs.YtdjilaofmdhikaaGreatDoor
open Go.ChangeShapes Go.WideShapes Go.RowKit Go.Sy
theorem K.own : ownKnob Tryz.prog.godebug = none := by kernel_rfl
theorem K.et : Tryz.prog.globalNamed "errors.errorType" = some 0 := by kernel_rfl
theorem K.rt : (Tryz.prog.cutTypes.find? (·.1 == "internal/reflectlite.rtype")).map (·.2) = some 182 := by kernel_rfl
theorem K.oneRow : ((List.range Tryz.prog.types.size).filter fun t => Tryz.prog.rowNamed t [101, 114, 114, 111, 114]) = [31] := by kernel_rfl
theorem K.handle {laid : List (String × DataW Unit)} {W : World} (h : laidMetH Tryz.prog laid W) (hm : ("errors.errorType", Rows.laid_errors_errorType) ∈ laid) : W.cell? ⟨0, 0, none⟩ = some A.eTy := by
  have hf : ("errors.errorType", Rows.laid_errors_errorType) ∈ laid.filter fun x => x.2.handleName?.isSome := List.mem_filter.2 ⟨hm, by rfl⟩
  unfold laidMetH at h
  split at h
  · next e => rw [e] at hf; cases hf
  next x r e =>
  rw [e] at hf
  obtain ⟨name, u, ty, e1, e2, e3, e4, e5⟩ := h.2 _ hf
  have en : name = [101, 114, 114, 111, 114] := (Option.some.inj e1).symm
  subst en
  obtain rfl := Option.some.inj (K.rt.symm.trans e2)
  have hm : ty ∈ (List.range Tryz.prog.types.size).filter fun t => Tryz.prog.rowNamed t [101, 114, 114, 111, 114] := List.mem_filter.2 ⟨List.mem_range.2 e3, e4⟩
  rw [K.oneRow] at hm
  obtain rfl := List.mem_singleton.1 hm
  have hh : typeHandle Tryz.prog 31 = .pointer (some ⟨1, 31, none⟩) := by kernel_rfl
  rw [hh] at e5
  unfold A.eTy
  simpa using World.var?_cell K.et e5 0
noncomputable def K.world (os : Os) : World :=
  let w0 := World.holding Tryz.prog os ⟨#[], #[], []⟩
  { w0 with heap := w0.heap.modify 0 fun
      | .cells _ t frozen => .cells #[A.eTy] t frozen
      | o => o }
theorem K.met (os : Os) (args : Array Value) : laidMetH Tryz.prog [("errors.errorType", Rows.laid_errors_errorType)] ((K.world os).forCall (fun _ _ => 0) ⟨#[], args, []⟩).memory :=
  laidMetH_of_parts (laidMet_nil _ _) (by kernel_rfl)
theorem K.laidOut : laidOutB Tryz.prog = true := by kernel_rfl
theorem K.trodAll {H : Type} {enc : TypeId × Value → H} {P : Program} (hl : laidOutB P = true) {W W' : World} (hb : Below W.heap.size W W') : ∀ {ts : List TypeId} {vs : List Value} {ds : List (DataW H)} {ps : List MemPlace},
    (ts.all fun t => P.readableRec t && decide (t < P.types.size)) = true → DataW.TrodAll enc P W 0 (fun _ => true) true ts vs ds ps → (∀ x ∈ ps, x.block < W.heap.size) → DataW.TrodAll enc P W' 0 (fun b => decide (b < W.heap.size)) true ts vs ds ps
  | [], [], [], _, _, h, _ => h
  | t :: ts, v :: vs, d :: ds, ps, hr, ⟨p, q, h1, h2, e⟩, hlt => by
    subst e
    simp only [List.all_cons, Bool.and_eq_true, decide_eq_true_eq] at hr
    exact ⟨p, q, Below.trod hl hr.1.1 hr.1.2 h1 hb (fun x hx => hlt x (List.mem_append_left _ hx)), K.trodAll hl hb hr.2 h2 (fun x hx => hlt x (List.mem_append_right _ hx)), rfl⟩
theorem K.underlying4 : Tryz.prog.underlying 4 = some .bool := by kernel_rfl
theorem K.len {H : Type} {enc : TypeId × Value → H} {P : Program} {w : World} {base : Nat} {spare : Nat → Bool} {held : Bool} : ∀ {ts : List TypeId} {vs : List Value} {ds : List (DataW H)} {ps : List MemPlace}, DataW.TrodAll enc P w base spare held ts vs ds ps → ds.length = ts.length
  | [], [], [], _, _ => rfl
  | _ :: _, _ :: _, _ :: _, _, ⟨_, _, _, h, _⟩ => by simp [K.len h]
theorem K.noStand {ps : Array TypeId} (h : (ps.toList.all fun t => !Tryz.prog.wantsStandIn t) = true) {j : Nat} {t : TypeId} (ht : ps[j]? = some t) : Tryz.prog.wantsStandIn t = false := by
  have := List.all_eq_true.1 h t (by rw [Array.mem_toList_iff]; exact Array.mem_of_getElem? ht)
  simpa using this
set_option maxRecDepth 100000 in
theorem K.lift {f : FuncId} {fn : Func} {s : ChangeSpec} {X : World → Prop} (hX : ∀ (w w' : World), w.heap = w'.heap → X w → X w') (os : Os) (started : os.Started) (H : Type) (enc : TypeId × Value → H)
    (noInit : Tryz.checked.prog.inits.idxOf? f = none) (hfn : Tryz.checked.prog.funcs[f]? = some fn)
    (hs : ∀ ds : List (DataW H), ds.length = fn.params.toList.length → s.fn H (ds ++ []) = { results := [.lit (.bool true)], args := ds }) (hv : s.vars = []) (hr : fn.resultTypes = #[4])
    (hrow : (fn.params.toList.all fun t => Tryz.prog.readableRec t && decide (t < Tryz.prog.types.size)) = true)
    (witness : ∃ (w : World) (tape : Tape) (i : Input), w.os = os ∧ (w.forCall tape i).Shaped Tryz.prog ∧ i.vars = [] ∧ Input.okWide Tryz.prog (w.forCall tape i) .any w.heap.size f i ∧
      ((s.pre enc Tryz.prog fn [] false (w.forCall tape i).memory i.args ∧ X (w.forCall tape i).memory) ∧ sizedMet enc Tryz.prog fn (OpenSpec.ofChange s) false (w.forCall tape i).memory i.args) ∧ ({} : Assume).holds Tryz.prog (lone (Frame.enter Tryz.prog f i.args .normal) [] (w.forCall tape i)))
    (contract : ∀ (W : World) (base : Nat) (args : Array Value) (ds : List (DataW H)) (p : List MemPlace),
      (∀ (j : Nat) t v, fn.params[j]? = some t → args[j]? = some v → Value.okWide Tryz.prog W .any base t v) →
      DataW.TrodAll enc Tryz.prog W 0 (fun _ => true) true fn.params.toList args.toList ds p → X W → (∀ x ∈ p, x.block < W.heap.size) →
      Calls Tryz.prog f args W fun e W' => e = .returned (.bool true) ∧ Below W.heap.size W W') :
    ReturnsInHanded {} Tryz.checked os f .any (fun w args => (s.pre enc Tryz.prog fn [] false w args ∧ X w) ∧ sizedMet enc Tryz.prog fn (OpenSpec.ofChange s) false w args) (s.post enc Tryz.prog fn false true false false) := by
  refine returnsInHanded_of_change_and (C := Tryz.checked) (X := fun w _ => X w) (fun w w' _ hh h => hX w w' hh h) K.own started noInit hfn witness ?_
  intro W base args ds gs before hval hW _ _ hL _
  have hW' := hW
  obtain ⟨p, q, hA, hV, rfl, hfz, _⟩ := hW
  have hlt : ∀ x ∈ p, x.block < W.heap.size := fun x hx => by simpa using hW'.lt x (List.mem_append_left _ hx)
  obtain ⟨rfl, rfl⟩ : gs = [] ∧ q = [] := by
    rw [hv] at hV
    cases gs with
    | nil => exact ⟨rfl, hV⟩
    | cons g r => exact absurd hV (by intro h; cases h)
  refine (contract W base args ds p hval hA hL hlt).mono fun e W' ⟨he, hb⟩ => ?_
  have e1 := hs ds (K.len hA)
  refine ⟨_, he, _, _, _, [], p, [], hW', ?_, ?_, ?_, hb.frame _, fun h => by cases h⟩
  · rw [e1, hr]; exact trodAll_mk1 (shut_bool K.underlying4 true)
  · rw [e1]; exact K.trodAll K.laidOut hb hrow hA hlt
  · rw [e1, hv]; rfl
theorem K.eT {laid : List (String × DataW Unit)} {W : World} (h : laidMetH Tryz.prog laid W) (hm : ("errors.errorType", Rows.laid_errors_errorType) ∈ laid) : Den W o0.bare (.pt false 1 fun _ => .v A.eTy) (.pointer (some ⟨0, 0, none⟩)) :=
  ⟨_, rfl, fun j hj => ⟨_, by obtain rfl : j = 0 := by omega
                              exact K.handle h hm, ⟨id, fun _ => id⟩, rfl⟩⟩
theorem K.gE {laid : List (String × DataW Unit)} {W : World} (h : laidMetH Tryz.prog laid W) (hm : ("errors.errorType", Rows.laid_errors_errorType) ∈ laid) (g : Nat) : Den W o0.bare (glE g) (.pointer (some ⟨g, 0, none⟩)) := by
  unfold glE
  split
  · exact K.eT h hm
  · trivial
end Go.Proofs.YtdjilaofmdhikaaGreatDoor
