/- The program's look at a world: its parts. -/
import Derived.Test.YtdjilaofmdhikaaGreatDoorYL
import Derived.Test.YtdjilaofmdhikaaGreatDoorYJ
import Derived.Test.YtdjilaofmdhikaaGreatDoorYI
set_option linter.unusedVariables false
set_option linter.unusedSimpArgs false
set_option linter.unusedVariables false
set_option linter.unusedSimpArgs false
set_option maxRecDepth 100000
namespace Go.Proofs.YtdjilaofmdhikaaGreatDoor
open Go.RowKit Go.Sy
theorem fstE_seq {n:Nat} {p:Nat→Bool} {e:Int} {r:Int×Int} (he:e≠0):((fstE n p e (0,-1)).1=0→fstE n p e r=r)∧((fstE n p e (0,-1)).1≠0→fstE n p e r=fstE n p e (0,-1)):=by
  unfold fstE
  cases Nat.blt (fstB n p) n
  · exact ⟨fun _=>rfl,fun h=>absurd rfl h⟩
  · exact ⟨fun h=>absurd h he,fun _=>rfl⟩
theorem seqE {n:Nat} {p:Nat→Bool} {e:Int} {r:Int×Int} (he:e≠0) (h:(bE n p e !=0)=true):bE n p e=(fstE n p e r).1∧bA n p e=(fstE n p e r).2:=by
  rw [(fstE_seq he).2 (by simpa [bE] using h)];exact ⟨rfl,rfl⟩
theorem seqE0 {n:Nat} {p:Nat→Bool} {e:Int} {r:Int×Int} (he:e≠0) (h:(bE n p e !=0)=false):fstE n p e r=r:=(fstE_seq he).1 (by simpa [bE] using h)
def w1E (W:Wd):Int:=(wm1 W (0,-1)).1
def w1A (W:Wd):Int:=(wm1 W (0,-1)).2
def w2E (W:Wd):Int:=(wm2 W (0,-1)).1
def w2A (W:Wd):Int:=(wm2 W (0,-1)).2
def w3E (W:Wd):Int:=(wm3 W (0,-1)).1
def w3A (W:Wd):Int:=(wm3 W (0,-1)).2
def w4E (W:Wd):Int:=(wm4 W (0,-1)).1
def w4A (W:Wd):Int:=(wm4 W (0,-1)).2
def w5E (W:Wd):Int:=(wm5 W (0,-1)).1
def w5A (W:Wd):Int:=(wm5 W (0,-1)).2
def w6E (W:Wd):Int:=(wm6 W (0,-1)).1
def w6A (W:Wd):Int:=(wm6 W (0,-1)).2
def w7E (W:Wd):Int:=(wm7 W (0,-1)).1
def w7A (W:Wd):Int:=(wm7 W (0,-1)).2
structure X_vWords where
  (W:Wd)
def s_vWords:Sy.Spec:=⟨X_vWords,fun ⟨W⟩=> [wPT W],fun _=> [],fun ⟨W⟩=>Sm W,fun ⟨W⟩=> .er 35 116 (w1E W) (w1A W),fun _=> [],
  fun args mem=>match args with| [a0]=>some ⟨wPTD a0⟩|_=>none⟩
def c_vWords:Con:=⟨[],s_vWords.g,none⟩
def V_vWords:X_vWords→Prop:=fun ⟨W⟩=>let a0:=W.nRam;let b0:=True∧True;let c0:=bE a0 (fun d0:Nat=>farB (W.ram d0) 65535) 1;let e0:=c0 !=0;let g0:=W.nKinds;let h0:=bE g0 (fun k0:Nat=>farB (W.kinds k0) 8||W.kinds k0==1) 3;let l0:=h0 !=0;let o0:=W.nDoms;(((a0=a0∧(∀q0:Nat,q0<a0→True∧W.ram q0=W.ram q0))∧(1:Int)=1∧b0)∧True∧(1:Int)≠0∧a0≤100000)∧(e0=true→(c0=w1E W∧bA a0 (fun r0:Nat=>farB (W.ram r0) 65535) 1=w1A W)∧True)∧(e0=false→(((g0=g0∧(∀u0:Nat,u0<g0→True∧W.kinds u0=W.kinds u0))∧(3:Int)=3∧b0)∧True∧(3:Int)≠0∧g0≤100000)∧(l0=true→(h0=w1E W∧bA g0 (fun v0:Nat=>farB (W.kinds v0) 8||W.kinds v0==1) 3=w1A W)∧True)∧(l0=false→(((o0=o0∧(∀w0:Nat,w0<o0→True∧W.doms w0=W.doms w0))∧(2:Int)=2∧b0)∧True∧(2:Int)≠0∧o0≤100000)∧(bE o0 (fun x0:Nat=>farB (W.doms x0) 3) 2=w1E W∧bA o0 (fun y0:Nat=>farB (W.doms y0) 3) 2=w1A W)∧True))
theorem ok_vWords:FnOK Tryz.prog glN 139 c_vWords:=ok_of (.cons (ok_badW1.or (ok_badW2.or ok_badW3)) .nil) false Tryz.call139 Tryz.func139 (fun _=> []) (V:=V_vWords) (fun _=>by kernel_rfl) fun ⟨W⟩ hp=>by
  dsimp only [s_vWords] at hp
  dsimp only [V_vWords,tn,w64]
  have b1:=hp.ram
  have b2:=hp.kinds
  have b3:=hp.doms
  simp only [std,stb,eq_self,implies_true,Bool.cond_self]
  unfold w1E w1A wm1
  refine ⟨⟨by decide,by omega⟩,fun h=>seqE (by decide) h,fun h=>⟨⟨by decide,by omega⟩,fun h2=>?_,fun h2=>⟨⟨by decide,by omega⟩,?_⟩⟩⟩
  · rw [seqE0 (by decide) h];exact seqE (by decide) h2
  · rw [seqE0 (by decide) h,seqE0 (by decide) h2];exact ⟨rfl,rfl⟩
structure X_vKeys where
  (W:Wd)
def s_vKeys:Sy.Spec:=⟨X_vKeys,fun ⟨W⟩=> [wPT W],fun _=> [],fun ⟨W⟩=>Szd W,fun ⟨W⟩=> .er 35 116 (w2E W) (w2A W),fun _=> [],
  fun args mem=>match args with| [a0]=>some ⟨wPTD a0⟩|_=>none⟩
def c_vKeys:Con:=⟨[],s_vKeys.g,none⟩
def V_vKeys:X_vKeys→Prop:=fun ⟨W⟩=>let a0:=W.nSlots;let b0:=a0=a0∧(∀c0:Nat,let d0:=W.slots c0;let e0:=d0.kind;let g0:=d0.base;let h0:=d0.len;let k0:=d0.mark;let l0:=d0.rights;let o0:=d0.badge;let q0:=d0.from_;c0<a0→((((((True∧e0=e0)∧g0=g0)∧h0=h0)∧k0=k0)∧l0=l0)∧o0=o0)∧q0=q0);let u0:=W.nKinds;let v0:=W.nTasks;let w0:=W.nLines;let x0:=W.nCores;let y0:=W.nReady;True∧((b0∧(8:Int)=8∧tn 2 (((((((((((True∧W.nRam=W.nRam∧(∀z0:Nat,z0<W.nRam→True∧W.ram z0=W.ram z0))∧u0=u0∧(∀a1:Nat,a1<u0→True∧W.kinds a1=W.kinds a1))∧b0)∧v0=v0∧(∀b1:Nat,let c1:=W.tasks b1;let d1:=c1.prio;let e1:=c1.node;let g1:=c1.space;let h1:=c1.helper;let k1:=c1.loc;let l1:=c1.word;let o1:=c1.badge;let q1:=c1.owes;let u1:=c1.core;let v1:=c1.dom;b1<v0→(((((((((((((((((((True∧c1.r0=c1.r0)∧c1.r1=c1.r1)∧c1.r2=c1.r2)∧c1.r3=c1.r3)∧c1.r4=c1.r4)∧c1.r5=c1.r5)∧c1.r6=c1.r6)∧c1.r7=c1.r7)∧c1.pc=c1.pc)∧c1.st=c1.st)∧d1=d1)∧e1=e1)∧g1=g1)∧h1=h1)∧k1=k1)∧l1=l1)∧o1=o1)∧q1=q1)∧u1=u1)∧v1=v1))∧w0=w0∧(∀w1:Nat,let x1:=W.linesN w1;w1<w0→True∧x1=x1∧(∀y1:Nat,y1<x1→True∧W.lines w1 y1=W.lines w1 y1)))∧W.nBits=W.nBits∧(∀z1:Nat,z1<W.nBits→True∧W.bits z1=W.bits z1))∧x0=x0∧(∀a2:Nat,a2<x0→True∧W.cores a2=W.cores a2))∧y0=y0∧(∀b2:Nat,let c2:=W.readyN b2;b2<y0→True∧c2=c2∧(∀d2:Nat,d2<c2→True∧W.ready b2 d2=W.ready b2 d2)))∧W.nTlbs=W.nTlbs∧(∀e2:Nat,let g2:=W.tlbsN e2;e2<W.nTlbs→True∧g2=g2∧(∀h2:Nat,let k2:=W.tlbs e2 h2;let l2:=k2.sp;let o2:=k2.pg;let q2:=k2.fr;let u2:=k2.wr;h2<g2→(((True∧l2=l2)∧o2=o2)∧q2=q2)∧u2=u2)))∧W.nDoms=W.nDoms∧(∀v2:Nat,v2<W.nDoms→True∧W.doms v2=W.doms v2))∧W.time=W.time)∧
    True)∧True∧(8:Int)≠0∧Szd W)∧(bE a0 (fun w2:Nat=>!slB W w2) 8=w2E W∧bA a0 (fun x2:Nat=>!slB W x2) 8=w2A W)∧True
theorem ok_vKeys:FnOK Tryz.prog glN 140 c_vKeys:=ok_of (.cons ok_badK .nil) false Tryz.call140 Tryz.func140 (fun _=> []) (V:=V_vKeys) (fun _=>by kernel_rfl) fun ⟨W⟩ hp=>by
  dsimp only [s_vKeys] at hp
  dsimp only [V_vKeys,tn,w64]
  simp only [std,stb,eq_self,implies_true,Bool.cond_self]
  exact ⟨⟨by decide,hp⟩,rfl,rfl⟩
structure X_vTasks where
  (W:Wd)
def s_vTasks:Sy.Spec:=⟨X_vTasks,fun ⟨W⟩=> [wPT W],fun _=> [],fun ⟨W⟩=>Szd W∧smB W,fun ⟨W⟩=> .er 35 116 (w4E W) (w4A W),fun _=> [],
  fun args mem=>match args with| [a0]=>some ⟨wPTD a0⟩|_=>none⟩
def c_vTasks:Con:=⟨[],s_vTasks.g,none⟩
def V_vTasks:X_vTasks→Prop:=fun ⟨W⟩=>let a0:=W.nTasks;let b0:=a0=a0∧(∀c0:Nat,let d0:=W.tasks c0;let e0:=d0.prio;let g0:=d0.node;let h0:=d0.space;let k0:=d0.helper;let l0:=d0.loc;let o0:=d0.word;let q0:=d0.badge;let u0:=d0.owes;let v0:=d0.core;let w0:=d0.dom;c0<a0→(((((((((((((((((((True∧d0.r0=d0.r0)∧d0.r1=d0.r1)∧d0.r2=d0.r2)∧d0.r3=d0.r3)∧d0.r4=d0.r4)∧d0.r5=d0.r5)∧d0.r6=d0.r6)∧d0.r7=d0.r7)∧d0.pc=d0.pc)∧d0.st=d0.st)∧e0=e0)∧g0=g0)∧h0=h0)∧k0=k0)∧l0=l0)∧o0=o0)∧q0=q0)∧u0=u0)∧v0=v0)∧w0=w0);let x0:=W.nKinds;let y0:=W.nSlots;let z0:=W.nLines;let a1:=W.nCores;let b1:=W.nReady;let c1:=W.nTlbs;True∧((b0∧(8:Int)=8∧tn 2 (((((((((((True∧W.nRam=W.nRam∧(∀d1:Nat,d1<W.nRam→True∧W.ram d1=W.ram d1))∧x0=x0∧(∀e1:Nat,e1<x0→True∧W.kinds e1=W.kinds e1))∧y0=y0∧(∀g1:Nat,let h1:=W.slots g1;let k1:=h1.kind;let l1:=h1.base;let o1:=h1.len;let q1:=h1.mark;let u1:=h1.rights;let v1:=h1.badge;let w1:=h1.from_;g1<y0→((((((True∧k1=k1)∧l1=l1)∧o1=o1)∧q1=q1)∧u1=u1)∧v1=v1)∧w1=w1))∧b0)∧z0=z0∧(∀x1:Nat,let y1:=W.linesN x1;x1<z0→True∧y1=y1∧(∀z1:Nat,z1<y1→True∧W.lines x1 z1=W.lines x1 z1)))∧W.nBits=W.nBits∧(∀a2:Nat,a2<W.nBits→True∧W.bits a2=W.bits a2))∧a1=a1∧(∀b2:Nat,b2<a1→True∧W.cores b2=W.cores b2))∧b1=b1∧(∀c2:Nat,let d2:=W.readyN c2;c2<b1→True∧d2=d2∧(∀e2:Nat,e2<d2→True∧W.ready c2 e2=W.ready c2 e2)))∧c1=c1∧(∀g2:Nat,let h2:=W.tlbsN g2;g2<c1→True∧h2=h2∧(∀k2:Nat,let l2:=W.tlbs g2 k2;let o2:=l2.sp;let q2:=l2.pg;let u2:=l2.fr;let v2:=l2.wr;k2<h2→(((True∧o2=o2)∧q2=q2)∧u2=u2)∧v2=v2)))∧W.nDoms=W.nDoms∧(∀w2:Nat,w2<W.nDoms→True∧W.doms w2=W.doms w2))∧W.time=W.time)∧
    True)∧True∧(8:Int)≠0∧Szd W∧(∀x2:Nat,x2<z0→W.linesN x2≤50)∧(∀y2:Nat,y2<b1→W.readyN y2≤50)∧(∀z2:Nat,z2<c1→W.tlbsN z2≤50))∧(bE a0 (fun a3:Nat=>!tkB W a3) 8=w4E W∧bA a0 (fun b3:Nat=>!tkB W b3) 8=w4A W)∧True
theorem ok_vTasks:FnOK Tryz.prog glN 142 c_vTasks:=ok_of (.cons ok_badT .nil) false Tryz.call142 Tryz.func142 (fun _=> []) (V:=V_vTasks) (fun _=>by kernel_rfl) fun ⟨W⟩ hp=>by
  dsimp only [s_vTasks] at hp
  dsimp only [V_vTasks,tn,w64]
  simp only [std,stb,eq_self,implies_true,Bool.cond_self]
  unfold w4E w4A wm4 bE bA
  rw [hp.1.tasks]
  exact ⟨⟨by decide,hp⟩,rfl,rfl⟩
structure X_vLines where
  (W:Wd)
def s_vLines:Sy.Spec:=⟨X_vLines,fun ⟨W⟩=> [wPT W],fun _=> [],fun ⟨W⟩=>Szd W∧smB W,fun ⟨W⟩=> .er 35 116 (w5E W) (w5A W),fun _=> [],
  fun args mem=>match args with| [a0]=>some ⟨wPTD a0⟩|_=>none⟩
def c_vLines:Con:=⟨[],s_vLines.g,none⟩
def V_vLines:X_vLines→Prop:=fun ⟨W⟩=>let a0:=W.nLines;let b0:=a0=a0∧(∀c0:Nat,let d0:=W.linesN c0;c0<a0→True∧d0=d0∧(∀e0:Nat,e0<d0→True∧W.lines c0 e0=W.lines c0 e0));let g0:=W.nKinds;let h0:=W.nSlots;let k0:=W.nTasks;let l0:=W.nCores;let o0:=W.nReady;let q0:=W.nTlbs;True∧((b0∧(8:Int)=8∧tn 2 (((((((((((True∧W.nRam=W.nRam∧(∀u0:Nat,u0<W.nRam→True∧W.ram u0=W.ram u0))∧g0=g0∧(∀v0:Nat,v0<g0→True∧W.kinds v0=W.kinds v0))∧h0=h0∧(∀w0:Nat,let x0:=W.slots w0;let y0:=x0.kind;let z0:=x0.base;let a1:=x0.len;let b1:=x0.mark;let c1:=x0.rights;let d1:=x0.badge;let e1:=x0.from_;w0<h0→((((((True∧y0=y0)∧z0=z0)∧a1=a1)∧b1=b1)∧c1=c1)∧d1=d1)∧e1=e1))∧k0=k0∧(∀g1:Nat,let h1:=W.tasks g1;let k1:=h1.prio;let l1:=h1.node;let o1:=h1.space;let q1:=h1.helper;let u1:=h1.loc;let v1:=h1.word;let w1:=h1.badge;let x1:=h1.owes;let y1:=h1.core;let z1:=h1.dom;g1<k0→(((((((((((((((((((True∧h1.r0=h1.r0)∧h1.r1=h1.r1)∧h1.r2=h1.r2)∧h1.r3=h1.r3)∧h1.r4=h1.r4)∧h1.r5=h1.r5)∧h1.r6=h1.r6)∧h1.r7=h1.r7)∧h1.pc=h1.pc)∧h1.st=h1.st)∧k1=k1)∧l1=l1)∧o1=o1)∧q1=q1)∧u1=u1)∧v1=v1)∧w1=w1)∧x1=x1)∧y1=y1)∧z1=z1))∧b0)∧W.nBits=W.nBits∧(∀a2:Nat,a2<W.nBits→True∧W.bits a2=W.bits a2))∧l0=l0∧(∀b2:Nat,b2<l0→True∧W.cores b2=W.cores b2))∧o0=o0∧(∀c2:Nat,let d2:=W.readyN c2;c2<o0→True∧d2=d2∧(∀e2:Nat,e2<d2→True∧W.ready c2 e2=W.ready c2 e2)))∧q0=q0∧(∀g2:Nat,let h2:=W.tlbsN g2;g2<q0→True∧h2=h2∧(∀k2:Nat,let l2:=W.tlbs g2 k2;let o2:=l2.sp;let q2:=l2.pg;let u2:=l2.fr;let v2:=l2.wr;k2<h2→(((True∧o2=o2)∧q2=q2)∧u2=u2)∧v2=v2)))∧W.nDoms=W.nDoms∧(∀w2:Nat,w2<W.nDoms→True∧W.doms w2=W.doms w2))∧W.time=W.time)∧
    True)∧True∧(8:Int)≠0∧Szd W∧(∀x2:Nat,x2<a0→W.linesN x2≤50)∧(∀y2:Nat,y2<o0→W.readyN y2≤50)∧(∀z2:Nat,z2<q0→W.tlbsN z2≤50))∧(bE a0 (fun a3:Nat=>!lnB W a3) 8=w5E W∧bA a0 (fun b3:Nat=>!lnB W b3) 8=w5A W)∧True
theorem ok_vLines:FnOK Tryz.prog glN 143 c_vLines:=ok_of (.cons (ok_badL.or ok_badR) .nil) false Tryz.call143 Tryz.func143 (fun _=> []) (V:=V_vLines) (fun _=>by kernel_rfl) fun ⟨W⟩ hp=>by
  dsimp only [s_vLines] at hp
  dsimp only [V_vLines,tn,w64]
  simp only [std,stb,eq_self,implies_true,Bool.cond_self]
  refine ⟨⟨by decide,hp⟩,?_⟩
  unfold w5E w5A wm5 bE bA
  rw [hp.1.lines]
  exact ⟨rfl,rfl⟩
structure X_vTurns where
  (W:Wd)
def s_vTurns:Sy.Spec:=⟨X_vTurns,fun ⟨W⟩=> [wPT W],fun _=> [],fun ⟨W⟩=>Szd W∧smB W,fun ⟨W⟩=> .er 35 116 (w6E W) (w6A W),fun _=> [],
  fun args mem=>match args with| [a0]=>some ⟨wPTD a0⟩|_=>none⟩
def c_vTurns:Con:=⟨[],s_vTurns.g,none⟩
def V_vTurns:X_vTurns→Prop:=fun ⟨W⟩=>let a0:=W.nCores;let b0:=a0=a0∧(∀c0:Nat,c0<a0→True∧W.cores c0=W.cores c0);let d0:=W.nKinds;let e0:=W.nSlots;let g0:=W.nTasks;let h0:=W.nLines;let k0:=W.nReady;let l0:=k0=k0∧(∀o0:Nat,let q0:=W.readyN o0;o0<k0→True∧q0=q0∧(∀u0:Nat,u0<q0→True∧W.ready o0 u0=W.ready o0 u0));let v0:=W.nTlbs;
    let w0:=(8:Int)=8∧tn 4 (((((((((((True∧W.nRam=W.nRam∧(∀x0:Nat,x0<W.nRam→True∧W.ram x0=W.ram x0))∧d0=d0∧(∀y0:Nat,y0<d0→True∧W.kinds y0=W.kinds y0))∧e0=e0∧(∀z0:Nat,let a1:=W.slots z0;let b1:=a1.kind;let c1:=a1.base;let d1:=a1.len;let e1:=a1.mark;let g1:=a1.rights;let h1:=a1.badge;let k1:=a1.from_;z0<e0→((((((True∧b1=b1)∧c1=c1)∧d1=d1)∧e1=e1)∧g1=g1)∧h1=h1)∧k1=k1))∧g0=g0∧(∀l1:Nat,let o1:=W.tasks l1;let q1:=o1.prio;let u1:=o1.node;let v1:=o1.space;let w1:=o1.helper;let x1:=o1.loc;let y1:=o1.word;let z1:=o1.badge;let a2:=o1.owes;let b2:=o1.core;let c2:=o1.dom;l1<g0→(((((((((((((((((((True∧o1.r0=o1.r0)∧o1.r1=o1.r1)∧o1.r2=o1.r2)∧o1.r3=o1.r3)∧o1.r4=o1.r4)∧o1.r5=o1.r5)∧o1.r6=o1.r6)∧o1.r7=o1.r7)∧o1.pc=o1.pc)∧o1.st=o1.st)∧q1=q1)∧u1=u1)∧v1=v1)∧w1=w1)∧x1=x1)∧y1=y1)∧z1=z1)∧a2=a2)∧b2=b2)∧c2=c2))∧h0=h0∧(∀d2:Nat,let e2:=W.linesN d2;d2<h0→True∧e2=e2∧(∀g2:Nat,g2<e2→True∧W.lines d2 g2=W.lines d2 g2)))∧W.nBits=W.nBits∧(∀h2:Nat,h2<W.nBits→True∧W.bits h2=W.bits h2))∧b0)∧l0)∧v0=v0∧(∀k2:Nat,let l2:=W.tlbsN k2;k2<v0→True∧l2=l2∧(∀o2:Nat,let q2:=W.tlbs k2 o2;let u2:=q2.sp;let v2:=q2.pg;let w2:=q2.fr;let x2:=q2.wr;o2<l2→(((True∧u2=u2)∧v2=v2)∧w2=w2)∧x2=x2)))∧W.nDoms=W.nDoms∧(∀y2:Nat,y2<W.nDoms→True∧W.doms y2=W.doms y2))∧W.time=W.time)∧True;let z2:=bE a0 (fun a3:Nat=>!coB W a3) 8;let b3:=z2 !=0;tn 3 (((b0∧w0)∧True∧(8:Int)≠0∧Szd W)∧(b3=true→(z2=w6E W∧bA a0 (fun c3:Nat=>!coB W c3) 8=w6A W)∧True)∧(b3=false→((l0∧w0)∧True∧(8:Int)≠0∧Szd W∧(∀d3:Nat,d3<h0→W.linesN d3≤50)∧(∀e3:Nat,e3<k0→W.readyN e3≤50)∧(∀g3:Nat,
    g3<v0→W.tlbsN g3≤50))∧(bE k0 (fun h3:Nat=>!rlB W h3) 8=w6E W∧bA k0 (fun k3:Nat=>!rlB W k3) 8=w6A W)∧True))
theorem ok_vTurns:FnOK Tryz.prog glN 144 c_vTurns:=ok_of (.cons ok_badC (.cons (ok_badR.or ok_badL) .nil)) false Tryz.call144 Tryz.func144 (fun _=> []) (V:=V_vTurns) (fun _=>by kernel_rfl) fun ⟨W⟩ hp=>by
  dsimp only [s_vTurns] at hp
  dsimp only [V_vTurns,tn,w64]
  simp only [std,stb,eq_self,implies_true,Bool.cond_self]
  unfold w6E w6A wm6
  refine ⟨⟨by decide,hp.1⟩,fun h=>seqE (by decide) h,fun h=>⟨⟨by decide,hp⟩,?_⟩⟩
  rw [seqE0 (by decide) h];exact ⟨rfl,rfl⟩
structure X_vMaps where
  (W:Wd)
def s_vMaps:Sy.Spec:=⟨X_vMaps,fun ⟨W⟩=> [wPT W],fun _=> [],fun ⟨W⟩=>Szd W∧smB W∧ ∀i,i<W.nRam→isW (W.ram i),fun ⟨W⟩=> .er 35 116 (w7E W) (w7A W),fun _=> [],
  fun args mem=>match args with| [a0]=>some ⟨wPTD a0⟩|_=>none⟩
def c_vMaps:Con:=⟨[],s_vMaps.g,none⟩
def V_vMaps:X_vMaps→Prop:=fun ⟨W⟩=>let a0:=W.nRam;let b0:=a0=a0∧(∀c0:Nat,c0<a0→True∧W.ram c0=W.ram c0);let d0:=W.nKinds;let e0:=W.nSlots;let g0:=W.nTasks;let h0:=W.nLines;let k0:=W.nCores;let l0:=W.nReady;let o0:=W.nTlbs;let q0:=o0=o0∧(∀u0:Nat,let v0:=W.tlbsN u0;u0<o0→True∧v0=v0∧(∀w0:Nat,let x0:=W.tlbs u0 w0;let y0:=x0.sp;let z0:=x0.pg;let a1:=x0.fr;let b1:=x0.wr;w0<v0→(((True∧y0=y0)∧z0=z0)∧a1=a1)∧b1=b1));
    let c1:=(9:Int)=9∧tn 2 (((((((((((True∧b0)∧d0=d0∧(∀d1:Nat,d1<d0→True∧W.kinds d1=W.kinds d1))∧e0=e0∧(∀e1:Nat,let g1:=W.slots e1;let h1:=g1.kind;let k1:=g1.base;let l1:=g1.len;let o1:=g1.mark;let q1:=g1.rights;let u1:=g1.badge;let v1:=g1.from_;e1<e0→((((((True∧h1=h1)∧k1=k1)∧l1=l1)∧o1=o1)∧q1=q1)∧u1=u1)∧v1=v1))∧g0=g0∧(∀w1:Nat,let x1:=W.tasks w1;let y1:=x1.prio;let z1:=x1.node;let a2:=x1.space;let b2:=x1.helper;let c2:=x1.loc;let d2:=x1.word;let e2:=x1.badge;let g2:=x1.owes;let h2:=x1.core;let k2:=x1.dom;w1<g0→(((((((((((((((((((True∧x1.r0=x1.r0)∧x1.r1=x1.r1)∧x1.r2=x1.r2)∧x1.r3=x1.r3)∧x1.r4=x1.r4)∧x1.r5=x1.r5)∧x1.r6=x1.r6)∧x1.r7=x1.r7)∧x1.pc=x1.pc)∧x1.st=x1.st)∧y1=y1)∧z1=z1)∧a2=a2)∧b2=b2)∧c2=c2)∧d2=d2)∧e2=e2)∧g2=g2)∧h2=h2)∧k2=k2))∧h0=h0∧(∀l2:Nat,let o2:=W.linesN l2;l2<h0→True∧o2=o2∧(∀q2:Nat,q2<o2→True∧W.lines l2 q2=W.lines l2 q2)))∧W.nBits=W.nBits∧(∀u2:Nat,u2<W.nBits→True∧W.bits u2=W.bits u2))∧k0=k0∧(∀v2:Nat,v2<k0→True∧W.cores v2=W.cores v2))∧l0=l0∧(∀w2:Nat,let x2:=W.readyN w2;w2<l0→True∧x2=x2∧(∀y2:Nat,y2<x2→True∧W.ready w2 y2=W.ready w2 y2)))∧q0)∧W.nDoms=W.nDoms∧(∀z2:Nat,z2<W.nDoms→True∧W.doms z2=W.doms z2))∧W.time=W.time)∧True;let a3:=bE a0 (fun b3:Nat=>!enB W b3) 9;let c3:=a3 !=0;True∧((b0∧c1)∧True∧(9:Int)≠0∧Szd W∧(∀d3:Nat,d3<a0→0≤W.ram d3∧W.ram d3≤65535))∧(c3=true→(a3=w7E W∧bA a0 (fun e3:Nat=>!enB W e3) 9=w7A W)∧True)∧(c3=false→((q0∧c1)∧True∧(9:Int)≠0∧Szd W∧((∀g3:Nat,g3<h0→W.linesN g3≤50)∧(∀h3:Nat,h3<l0→W.readyN h3≤50)∧(∀k3:Nat,k3<o0→W.tlbsN k3≤50))∧(∀l3:Nat,l3<a0→
    0≤W.ram l3∧W.ram l3≤65535))∧(bE o0 (fun o3:Nat=>!tlB W (W.tlbsN o3) (W.tlbs o3)) 9=w7E W∧bA o0 (fun q3:Nat=>!tlB W (W.tlbsN q3) (W.tlbs q3)) 9=w7A W)∧True)
theorem ok_vMaps:FnOK Tryz.prog glN 145 c_vMaps:=ok_of (.cons ok_badM (.cons ok_badE .nil)) false Tryz.call145 Tryz.func145 (fun _=> []) (V:=V_vMaps) (fun _=>by kernel_rfl) fun ⟨W⟩ hp=>by
  dsimp only [s_vMaps] at hp
  dsimp only [V_vMaps,tn,w64]
  simp only [std,stb,eq_self,implies_true,Bool.cond_self]
  refine ⟨⟨by decide,hp.1,hp.2.2⟩,fun h=>?_,fun h=>⟨⟨by decide,hp⟩,?_⟩⟩
  · exact seqE (by decide) h
  · unfold w7E w7A wm7
    rw [seqE0 (by decide) h,←hp.1.tlbs];exact ⟨rfl,rfl⟩
end Go.Proofs.YtdjilaofmdhikaaGreatDoor
set_option linter.unusedVariables false
set_option linter.unusedSimpArgs false
set_option maxRecDepth 100000
namespace Go.Proofs.YtdjilaofmdhikaaGreatDoor
open Go.RowKit Go.Sy
def usedK (W:Wd):Nat→Nat→Bool
  |0,_=>false
  |k+1,f=>bif clayAt (W.slots k) f then decide ((f:Int)<(W.slots k).base+(W.slots k).mark) else usedK W k f
def clayN (W:Wd) (k f:Nat):Nat:=cntB k fun q=>clayAt (W.slots q) f
def keysN (W:Wd) (k f:Nat):Nat:=cntB k fun q=>keyAt (W.slots q) f
def inRg (b:Int) (j:Nat) (f:Nat):Bool:=decide (b≤f)&&decide ((f:Int)<b+j)
theorem inRg0 (b:Int) (f:Nat):inRg b 0 f=false:=by
  unfold inRg
  rcases Int.lt_or_le (f:Int) b with h|h
  · rw [decide_eq_false (show¬b≤(f:Int) by omega)];rfl
  · rw [decide_eq_false (show¬(f:Int)<b+((0:Nat):Int) by omega),Bool.and_false]
theorem inRg_at (b:Int) (j f:Nat) (h:(f:Int)=b+j):inRg b j f=false∧inRg b (j+1) f=true:=by
  unfold inRg
  rw [decide_eq_false (show¬(f:Int)<b+(j:Int) by omega),decide_eq_true (show b≤(f:Int) by omega),decide_eq_true (show (f:Int)<b+((j+1:Nat):Int) by omega)]
  exact ⟨rfl,rfl⟩
theorem inRg_ne (b:Int) (j f:Nat) (h:(f:Int)≠b+j):inRg b (j+1) f=inRg b j f:=by
  unfold inRg
  rw [show decide ((f:Int)<b+((j+1:Nat):Int))=decide ((f:Int)<b+(j:Int)) from decide_eq_decide.2 (by omega)]
theorem cl_none {W:Wd} {f:Nat}: ∀{n:Nat},clayN W n f=0→(anyB n fun i=>freeAt (W.slots i) f)=false
  |0,_=>rfl
  |n+1,h=>by
   have h:clayN W n f+(bif clayAt (W.slots n) f then 1 else 0)=0:=h
   cases hc:clayAt (W.slots n) f with
   |true=>rw [hc] at h;simp at h
   |false=>
    rw [hc] at h
    rw [anyB_succ,cl_none (n:=n) (by simpa using h)]
    unfold freeAt;rw [hc];rfl
theorem cl_one {W:Wd} {f:Nat}: ∀{n:Nat},clayN W n f=1→(anyB n fun i=>freeAt (W.slots i) f)=!usedK W n f
  |0,h=>by cases h
  |n+1,h=>by
   have h:clayN W n f+(bif clayAt (W.slots n) f then 1 else 0)=1:=h
   rw [anyB_succ]
   show _=!(bif clayAt (W.slots n) f then decide ((f:Int)<(W.slots n).base+(W.slots n).mark) else usedK W n f)
   cases hc:clayAt (W.slots n) f with
   |true=>
    rw [hc] at h
    rw [cl_none (n:=n) (by simpa using h)]
    unfold freeAt
    rw [hc]
    simp only [Bool.false_or,Bool.true_and,cond_true]
    rw [←decide_not]
    exact decide_eq_decide.2 (by omega)
   |false=>
    rw [hc] at h
    rw [cl_one (n:=n) (by simpa using h)]
    unfold freeAt;rw [hc]
    simp
theorem fr_not {W:Wd} {f:Nat}:(decide (1<((clayN W W.nSlots f:Nat):Int))||W.kinds f !=0&&(((keysN W W.nSlots f:Nat):Int)==0||((clayN W W.nSlots f:Nat):Int)==1&&!usedK W W.nSlots f))=!frB W f:=by
  rw [castE0,castE1]
  show _=!(decide (clayN W W.nSlots f≤1)&&(W.kinds f==0||(decide (0<keysN W W.nSlots f)&&!anyB W.nSlots fun i=>freeAt (W.slots i) f)))
  rw [show decide (0<keysN W W.nSlots f)=!(keysN W W.nSlots f==0) by
   cases hk:keysN W W.nSlots f==0 with
   |true=>rw [eq_of_beq hk];rfl
   |false=>
    have hk2:keysN W W.nSlots f≠0:=by simpa using hk
    rw [decide_eq_true (Nat.pos_of_ne_zero hk2)];rfl]
  have hc:clayN W W.nSlots f=0∨clayN W W.nSlots f=1∨2≤clayN W W.nSlots f:=by omega
  rcases hc with hc|hc|hc
  · rw [cl_none hc,hc];simp only [bne]
    cases W.kinds f==0<;>cases keysN W W.nSlots f==0<;>rfl
  · rw [cl_one hc,hc];simp only [bne]
    cases W.kinds f==0<;>cases keysN W W.nSlots f==0<;>cases usedK W W.nSlots f<;>rfl
  · rw [decide_eq_true (show (1:Int)<((clayN W W.nSlots f:Nat):Int) by omega),decide_eq_false (show¬clayN W W.nSlots f≤1 by omega)];rfl
def an_fr1 (W:Wd):Ann where
  σ:=Nat
  rt:= [(3,0),(4,0),(5,0)]
  sh i:= [(3,pt0 0),(4,pt0 2),(5,pt0 4),(36,.v (.int .i64 i))]
  mh i:= [(1,.row 1 W.nKinds fun f _=> .v (.int .i64 (clayN W i f:Nat))),(3,.row 1 W.nKinds fun f _=> .v (.bool (usedK W i f))),(5,.row 1 W.nKinds fun f _=> .v (.int .i64 (keysN W i f:Nat)))]
  inv i:=i≤W.nSlots
  μ i:=W.nSlots -i
  init:=0
def an_fr2 (W:Wd) (i:Int):Ann where
  σ:=Nat
  rt:= [(3,0),(4,0),(5,0),(7,0)]
  sh j:= [(3,pt0 0),(4,pt0 2),(5,pt0 4),(7,pt0 6),(59,.v (.int .i64 j))]
  mh j:= [(1,.row 1 W.nKinds fun f _=> .v (.int .i64 ((clayN W i.toNat f:Nat)+(bif inRg (W.slots i.toNat).base j f then 1 else 0)))),(3,.row 1 W.nKinds fun f _=> .v (.bool (bif inRg (W.slots i.toNat).base j f then decide ((f:Int)<(W.slots i.toNat).base+(W.slots i.toNat).mark) else usedK W i.toNat f)))]
  inv j:=(j:Int)≤(W.slots i.toNat).len
  μ j:=(W.slots i.toNat).len.toNat -j
  init:=0
structure X_vFrames where
  (W:Wd)
def s_vFrames:Sy.Spec:=⟨X_vFrames,fun ⟨W⟩=> [wPT W],fun _=> [],fun ⟨W⟩=>Szd W∧ ∀i,i<W.nSlots→slB W i=true,fun ⟨W⟩=> .er 35 116 (w3E W) (w3A W),fun _=> [],
  fun args mem=>match args with| [a0]=>some ⟨wPTD a0⟩|_=>none⟩
def c_vFrames:Con:=⟨[],s_vFrames.g,none⟩
def V_vFrames:X_vFrames→Prop:=fun ⟨W⟩=>let a0:=W.nKinds;let b0:=(a0:Int);let c0:=b0≤9223372036854775807;let d0:=0≤b0;let e0:=b0≤b0;let g0:=d0∧e0∧((8:Nat):Int)*b0≤140737488355328;let h0:=W.nSlots;let k0:=(h0:Int);let l0:=SV.ptr 0 0 none 0 0=SV.ptr 0 0 none 0 0;let o0:=SV.ptr (0+1+1) 0 none 0 0=SV.ptr 2 0 none 0 0;let q0:=0+1+1+1+1;let r0:=SV.ptr q0 0 none 0 0=SV.ptr 4 0 none 0 0;let u0:=Int.toNat b0;let v0:=u0=u0;let w0:=True∧0=0∧v0;let x0:=u0=a0;let y0:=(u0:Int);let z0:=false=false;let a1:=a0=a0;let b1:=SV.ptr (q0+1+1) 0 none 0 0=SV.ptr 6 0 none 0 0;let c1:=a0≤u0;c0→g0∧tn 2 (c0→(d0∧e0∧((1:Nat):Int)*b0≤140737488355328)∧tn 2 (c0→g0∧tn 2 (k0≤9223372036854775807→l0∧o0∧r0∧0=((0:Nat):Int)∧(w0∧(x0∧(∀d1:Nat,d1<a0→True∧0=((clayN W 0 d1:Nat):Int)))∧w0∧(x0∧(∀e1:Nat,e1<a0→True∧false=usedK W 0 e1))∧w0∧(x0∧(∀g1:Nat,g1<a0→True∧0=((keysN W 0 g1:Nat):Int)))∧True)∧0≤h0∧(∀h1:Nat,let k1:=(h1:Int);let l1:=decide (k1<k0);let o1:=Int.toNat k1;let q1:=W.slots o1;let r1:=q1.kind;let u1:=r1 !=1;let v1:=r1 !=0;let w1:=q1.base;let x1:=0≤w1∧w1<y0;let y1:=0+Int.toNat w1;let z1:Int:=((keysN W h1 y1:Nat):Int)+1;let a2:Int:=k1+1;let b2:=w64 a2=a2;let c2:=q1.mark;let d2:Int:=w1+c2;let e2:=q1.len;let g2:=q1.rights;let h2:=q1.badge;let k2:=q1.from_;let l2:=w0∧(a1∧(∀o2:Nat,let q2:=((keysN W h1 o2:Nat):Int);o2<a0→True∧q2=q2))∧(((((((True∧r1=r1)∧w1=w1)∧e2=e2)∧c2=c2)∧g2=g2)∧h2=h2)∧k2=k2)∧True;let r2:=Int.toNat e2;h1≤h0→(l1=true→(0≤k1∧k1<k0)∧True∧tn 6 True∧(u1=true→(v1=true→x1∧w64 z1=z1∧x1∧(∀u2:Nat,z0)∧b2∧(∃v2:Nat,l0∧o0∧r0∧a2=(v2:Int)∧(w0∧(a1∧(∀w2:Nat,
    w2<a0→True∧((clayN W h1 w2:Nat):Int)=((clayN W v2 w2:Nat):Int)))∧w0∧(a1∧(∀x2:Nat,x2<a0→True∧usedK W h1 x2=usedK W v2 x2))∧w0∧(a1∧(∀y2:Nat,y2<a0→True∧cond (Nat.beq y2 y1) z1 ((keysN W h1 y2:Nat):Int)=((keysN W v2 y2:Nat):Int)))∧True)∧v2≤h0∧h0-v2<h0-h1))∧(v1=false→b2∧(∃z2:Nat,l0∧o0∧r0∧a2=(z2:Int)∧(w0∧(a1∧(∀a3:Nat,a3<a0→True∧((clayN W h1 a3:Nat):Int)=((clayN W z2 a3:Nat):Int)))∧w0∧(a1∧(∀b3:Nat,b3<a0→True∧usedK W h1 b3=usedK W z2 b3))∧w0∧(a1∧(∀c3:Nat,c3<a0→True∧((keysN W h1 c3:Nat):Int)=((keysN W z2 c3:Nat):Int)))∧True)∧z2≤h0∧h0-z2<h0-h1)))∧(u1=false→l0∧o0∧r0∧b1∧0=((0:Nat):Int)∧(w0∧(a1∧(∀d3:Nat,d3<a0→True∧((clayN W h1 d3:Nat):Int)=((clayN W o1 d3:Nat):Int)+cond (inRg w1 0 d3) 1 0))∧w0∧(a1∧(∀e3:Nat,e3<a0→True∧usedK W h1 e3=cond (inRg w1 0 e3) (decide ((e3:Int)<d2)) (usedK W o1 e3)))∧l2)∧((0:Nat):Int)≤e2∧(∀g3:Nat,let h3:=(g3:Int);let k3:=decide (h3<e2);let l3:Int:=w1+h3;let o3:=w64 l3=l3;let q3:=0≤l3∧l3<y0;let r3:=0+Int.toNat l3;let u3:Int:=((clayN W o1 r3:Nat):Int)+cond (inRg w1 g3 r3) 1 0+1;let v3:Int:=h3+1;h3≤e2→(k3=true→o3∧q3∧w64 u3=u3∧q3∧(∀w3:Nat,z0)∧o3∧q3∧(∀x3:Nat,z0)∧w64 v3=v3∧(∃y3:Nat,l0∧o0∧r0∧b1∧v3=(y3:Int)∧(w0∧(a1∧(∀z3:Nat,let a4:=((clayN W o1 z3:Nat):Int);z3<a0→True∧cond (Nat.beq z3 r3) u3 (a4+cond (inRg w1 g3 z3) 1 0)=a4+cond (inRg w1 y3 z3) 1 0))∧w0∧(a1∧(∀b4:Nat,let c4:=decide ((b4:Int)<d2);b4<a0→True∧cond (Nat.beq b4 r3) (decide (h3<c2)) (cond (inRg w1 g3 b4) c4 (usedK W o1 b4))=cond (inRg w1 y3 b4) c4 (usedK W o1 b4)))∧l2)∧(y3:Int)≤e2∧r2-y3<r2-g3))∧(k3=false→b2∧
    (∃d4:Nat,l0∧o0∧r0∧a2=(d4:Int)∧(w0∧(a1∧(∀e4:Nat,e4<a0→True∧((clayN W o1 e4:Nat):Int)+cond (inRg w1 g3 e4) 1 0=((clayN W d4 e4:Nat):Int)))∧w0∧(a1∧(∀g4:Nat,g4<a0→True∧cond (inRg w1 g3 g4) (decide ((g4:Int)<d2)) (usedK W o1 g4)=usedK W d4 g4))∧w0∧(a1∧(∀h4:Nat,h4<a0→True∧((keysN W h1 h4:Nat):Int)=((keysN W d4 h4:Nat):Int)))∧True)∧d4≤h0∧h0-d4<h0-h1)))))∧(l1=false→(((a1∧(∀k4:Nat,k4<a0→True∧W.kinds k4=W.kinds k4))∧(8:Int)=8∧((tn 2 (v0∧(∀l4:Nat,let o4:=((clayN W h1 (0+l4):Nat):Int);l4<u0→True∧o4=o4))∧True∧v0∧(∀q4:Nat,let r4:=((keysN W h1 (0+q4):Nat):Int);q4<u0→True∧r4=r4))∧True∧v0∧(∀u4:Nat,let v4:=usedK W h1 (0+u4);u4<u0→True∧v4=v4))∧True)∧True∧(8:Int)≠0∧a0≤100000∧c1∧c1∧c1)∧(bE a0 (fun w4:Nat=>let x4:=((clayN W h1 (0+w4):Nat):Int);decide (1<x4)||W.kinds w4 !=0&&(((keysN W h1 (0+w4):Nat):Int)==0||x4==1&&!usedK W h1 (0+w4))) 8=w3E W∧bA a0 (fun y4:Nat=>let z4:=((clayN W h1 (0+y4):Nat):Int);decide (1<z4)||W.kinds y4 !=0&&(((keysN W h1 (0+y4):Nat):Int)==0||z4==1&&!usedK W h1 (0+y4))) 8=w3A W)∧True)))))
set_option maxHeartbeats 2000000 in
theorem ok_vFrames:FnOK Tryz.prog glN 141 c_vFrames:=ok_of (.cons ok_badF .nil) false Tryz.call141 Tryz.func141 (fun ⟨W⟩=> [.inv (an_fr1 W),.invF false fun fr=>intK (fr 36) (an_fr2 W)]) (V:=V_vFrames) (fun _=>by kernel_rfl) fun ⟨W⟩ hp=>by
  dsimp only [s_vFrames] at hp
  dsimp only [V_vFrames,tn,w64]
  obtain ⟨hz,hs⟩:=hp
  have z1:=hz.slots
  have z2:=hz.k1
  simp only [std,stb,eq_self,implies_true,Bool.cond_self]
  have wr: ∀z:Int,-100000≤z→z≤100000→IntKind.i64.wrap z=z:=fun z h1 h2=>by rw [IntKind.wrap_i64];omega
  refine fun _=>⟨⟨by omega,by omega⟩,fun _=>⟨⟨by omega,by omega⟩,fun _=>⟨⟨by omega,by omega⟩,fun _=>⟨⟨fun _ _=>rfl,fun _ _=>rfl,fun _ _=>rfl⟩,fun s hsn=>⟨fun h=>?_,fun h=>?_⟩⟩⟩⟩⟩
  · have hlt:=lt_of_dec h
    have hb:=hs s hlt
    have hn:=slBs_no hb
    have hr:=slNo_range hn
    have c1: ∀f,clayN W s f≤s:=fun f=>cntB_le _ _
    have c2: ∀f,keysN W s f≤s:=fun f=>cntB_le _ _
    have eC: ∀f,clayN W (s+1) f=clayN W s f+(bif clayAt (W.slots s) f then 1 else 0):=fun f=>rfl
    have eK: ∀f,keysN W (s+1) f=keysN W s f+(bif keyAt (W.slots s) f then 1 else 0):=fun f=>rfl
    have eU: ∀f,usedK W (s+1) f=bif clayAt (W.slots s) f then decide ((f:Int)<(W.slots s).base+(W.slots s).mark) else usedK W s f:=fun f=>rfl
    have hfit:(W.slots s).kind≠0→1≤(W.slots s).len∧(W.slots s).base+(W.slots s).len≤W.nKinds:=fun hk=>by
      refine ⟨slB_len hn hk,?_⟩
      have hb:slBs W s (W.slots s)=true:=hb
      rw [slBs_pos (beq_eq_false_iff_ne.2 hk)] at hb
      simp only [Bool.and_eq_true,decide_eq_true_eq] at hb
      exact hb.1.1.2
    obtain ⟨S,hS⟩: ∃S,S=W.slots s:=⟨_,rfl⟩
    simp only [←hS] at eC eK eU hfit hr⊢
    refine ⟨by omega,fun h1=>?_,fun h1=>?_⟩
    · have k1:(S.kind==1)=false:=notT h1
      have nc: ∀f,clayAt S f=false:=fun f=>by unfold clayAt;rw [k1];rfl
      refine ⟨fun h2=>?_,fun h2=>?_⟩
      · have k0:(S.kind==0)=false:=notT h2
        have hf:=hfit (by simpa using k0)
        have ka: ∀f:Nat,keyAt S f=(S.base==f):=fun f=>by unfold keyAt;simp only [bne];rw [k1,k0];rfl
        refine ⟨by omega,wr _ (by omega) (by have:=c2 S.base.toNat;omega),by omega,wr _ (by omega) (by omega),exS ⟨⟨fun i hi=>?_,fun i hi=>?_,fun i hi=>?_⟩,by omega,by omega⟩⟩
        · rw [eC,nc];rfl
        · rw [eU,nc];rfl
        · rw [eK,ka]
          cases hi2:i.beq S.base.toNat with
          |true=>
           have hi3:=Nat.eq_of_beq_eq_true hi2
           subst hi3
           rw [show (S.base==((S.base.toNat:Nat):Int))=true from beq_iff_eq.2 (by omega)]
           simp
          |false=>
           have hne:i≠S.base.toNat:=fun e=>by subst e;rw [Nat.beq_refl] at hi2;cases hi2
           rw [show (S.base==(i:Int))=false from beq_eq_false_iff_ne.2 (by omega)]
           simp
      · have k0:(S.kind==0)=true:=notF h2
        have ka: ∀f:Nat,keyAt S f=false:=fun f=>by unfold keyAt;simp only [bne];rw [k0,k1];rfl
        refine ⟨wr _ (by omega) (by omega),exS ⟨⟨fun i hi=>?_,fun i hi=>?_,fun i hi=>?_⟩,by omega,by omega⟩⟩
        · rw [eC,nc];rfl
        · rw [eU,nc];rfl
        · rw [eK,ka];rfl
    · have k1:(S.kind==1)=true:=notF h1
      have hf:=hfit (by rw [eq_of_beq k1];decide)
      have ka: ∀f:Nat,keyAt S f=false:=fun f=>by unfold keyAt;simp only [bne];rw [k1];rfl
      refine ⟨⟨fun i hi=>by rw [inRg0];simp,fun i hi=>by rw [inRg0];rfl⟩,by omega,fun j hj=>⟨fun h3=>?_,fun h3=>?_⟩⟩
      · have h4:=of_decide_eq_true h3
        have hc:=c1 (S.base+(j:Int)).toNat
        have e0:inRg S.base j (S.base+(j:Int)).toNat=false:=(inRg_at S.base j _ (by omega)).1
        rw [e0]
        refine ⟨wr _ (by omega) (by omega),by omega,wr _ (by simp;omega) (by simp;omega),by omega,wr _ (by omega) (by omega),by omega,wr _ (by omega) (by omega),exS ⟨⟨fun i hi=>?_,fun i hi=>?_⟩,by omega,by omega⟩⟩
        · cases hi2:i.beq (S.base+(j:Int)).toNat with
          |true=>
           have hi3:=Nat.eq_of_beq_eq_true hi2
           subst hi3
           rw [(inRg_at S.base j (S.base+(j:Int)).toNat (by omega)).2];simp
          |false=>
           have hne:i≠(S.base+(j:Int)).toNat:=fun e=>by subst e;rw [Nat.beq_refl] at hi2;cases hi2
           rw [inRg_ne S.base j i (by omega)];rfl
        · cases hi2:i.beq (S.base+(j:Int)).toNat with
          |true=>
           have hi3:=Nat.eq_of_beq_eq_true hi2
           subst hi3
           rw [(inRg_at S.base j (S.base+(j:Int)).toNat (by omega)).2]
           exact decide_eq_decide.2 (by omega)
          |false=>
           have hne:i≠(S.base+(j:Int)).toNat:=fun e=>by subst e;rw [Nat.beq_refl] at hi2;cases hi2
           rw [inRg_ne S.base j i (by omega)];rfl
      · have h4:=of_decide_eq_false h3
        have ej:(j:Int)=S.len:=by omega
        have ec: ∀f:Nat,inRg S.base j f=clayAt S f:=fun f=>by unfold inRg clayAt;rw [k1,ej];rfl
        refine ⟨wr _ (by omega) (by omega),exS ⟨⟨fun i hi=>?_,fun i hi=>?_,fun i hi=>?_⟩,by omega,by omega⟩⟩
        · rw [eC,ec];cases clayAt S i<;>simp
        · rw [eU,ec]
        · rw [eK,ka];rfl
  · have hge:=ge_of_dec h
    obtain rfl:s=W.nSlots:=by omega
    have e:=fstE_congr (n:=W.nKinds) (e:=8) (r:=(0,-1)) (r':=(0,-1)) (fun f (hf:f<W.nKinds)=>fr_not (W:=W) (f:=f)) (fun _=>rfl)
    refine ⟨⟨by decide,by omega,Nat.le_refl _⟩,?_,?_⟩
    · exact congrArg (·.1) e
    · exact congrArg (·.2) e
end Go.Proofs.YtdjilaofmdhikaaGreatDoor
set_option linter.unusedVariables false
set_option linter.unusedSimpArgs false
set_option maxRecDepth 100000
namespace Go.Proofs.YtdjilaofmdhikaaGreatDoor
open Go.RowKit Go.Sy
def Seq (f:Int×Int→Int×Int):Prop:= ∀r,((f (0,-1)).1=0→f r=r)∧((f (0,-1)).1≠0→f r=f (0,-1))
theorem Seq.fst {n:Nat} {p:Nat→Bool} {e:Int} (he:e≠0):Seq (fstE n p e):=fun r=>fstE_seq he
theorem Seq.comp {f g:Int×Int→Int×Int} (hf:Seq f) (hg:Seq g):Seq fun r=>f (g r):=by
  intro r
  show ((f (g (0,-1))).1=0→f (g r)=r)∧((f (g (0,-1))).1≠0→f (g r)=f (g (0,-1)))
  rcases Decidable.em ((f (0,-1)).1=0) with h|h
  · rw [(hf (g r)).1 h,(hf (g (0,-1))).1 h];exact hg r
  · rw [(hf (g r)).2 h,(hf (g (0,-1))).2 h];exact ⟨fun h2=>absurd h2 h,fun _=>rfl⟩
theorem seq1 (W:Wd):Seq (wm1 W):=(Seq.fst (by decide)).comp ((Seq.fst (by decide)).comp (Seq.fst (by decide)))
theorem seq2 (W:Wd):Seq (wm2 W):=Seq.fst (by decide)
theorem seq3 (W:Wd):Seq (wm3 W):=Seq.fst (by decide)
theorem seq4 (W:Wd):Seq (wm4 W):=Seq.fst (by decide)
theorem seq5 (W:Wd):Seq (wm5 W):=Seq.fst (by decide)
theorem seq6 (W:Wd):Seq (wm6 W):=(Seq.fst (by decide)).comp (Seq.fst (by decide))
theorem seq7 (W:Wd):Seq (wm7 W):=(Seq.fst (by decide)).comp (Seq.fst (by decide))
theorem seqW {W:Wd} {f:Int×Int→Int×Int} (hf:Seq f) {r:Int×Int} (hx:wm W=f r):(((f (0,-1)).1 !=0)=true→(f (0,-1)).1=wE W∧(f (0,-1)).2=wA W)∧(((f (0,-1)).1 !=0)=false→wm W=r):=by
  refine ⟨fun h=>?_,fun h=>?_⟩
  · unfold wE wA;rw [hx,(hf r).2 (by simpa using h)];exact ⟨rfl,rfl⟩
  · rw [hx,(hf r).1 (by simpa using h)]
theorem ram_of {W:Wd} (h:(w1E W !=0)=false): ∀i,i<W.nRam→isW (W.ram i):=fun i hi=>by
  have h1:(wm1 W (0,-1)).1=0:=by simpa [w1E] using h
  have:=(fstE_zero (by decide) h1).1 i hi
  simp [farB] at this
  exact ⟨by omega,by omega⟩
theorem slots_of {W:Wd} (h:(w2E W !=0)=false): ∀i,i<W.nSlots→slB W i=true:=fun i hi=>by
  have h1:(wm2 W (0,-1)).1=0:=by simpa [w2E] using h
  have:=(fstE_zero (by decide) h1).1 i hi
  exact notF this
structure X_wCheck where
  (W:Wd)
def s_wCheck:Sy.Spec:=⟨X_wCheck,fun ⟨W⟩=> [wSV W],fun _=> [],fun ⟨W⟩=>Sm W,fun ⟨W⟩=> .er 35 116 (wE W) (wA W),fun _=> [],
  fun args mem=>match args with| [a0]=>some ⟨wSVD a0⟩|_=>none⟩
def c_wCheck:Con:=⟨[],s_wCheck.g,none⟩
def V_wCheck:X_wCheck→Prop:=fun ⟨W⟩=>let a0:=W.nKinds;let b0:=(a0:Int);let c0:=W.nCores;let d0:=(c0:Int);let e0:=cond (cond (cond (decide (b0<1)) true (decide (24<b0))) true (decide (d0<1))) true (decide (4<d0));let g0:Int:=b0*16;let h0:=w64 g0=g0;let k0:=W.nRam;let l0:=cond e0 true ((k0:Int) !=g0);let o0:=W.nSlots;let q0:=W.nTasks;let u0:=W.nLines;let v0:=W.nBits;let w0:=cond (cond (cond (cond l0 true ((o0:Int) !=g0)) true ((q0:Int) !=b0)) true ((u0:Int) !=b0)) true ((v0:Int) !=b0);let x0:Int:=d0*4;let y0:=W.nReady;let z0:=W.nTlbs;let a1:=W.nDoms;let b1:=cond (cond (cond (cond w0 true ((y0:Int) !=x0)) true ((z0:Int) !=d0)) true (decide ((a1:Int)<1))) true (decide (8<(a1:Int)));let c1:=W.time=W.time;let d1:=cond b1 true (farB W.time 1000000);let e1:=wE W;let g1:=wA W;let h1:=((7:Nat):Int);
    let k1:=(((((((((((True∧k0=k0∧(∀l1:Nat,l1<k0→True∧W.ram l1=W.ram l1))∧a0=a0∧(∀o1:Nat,o1<a0→True∧W.kinds o1=W.kinds o1))∧o0=o0∧(∀q1:Nat,let u1:=W.slots q1;let v1:=u1.kind;let w1:=u1.base;let x1:=u1.len;let y1:=u1.mark;let z1:=u1.rights;let a2:=u1.badge;let b2:=u1.from_;q1<o0→((((((True∧v1=v1)∧w1=w1)∧x1=x1)∧y1=y1)∧z1=z1)∧a2=a2)∧b2=b2))∧q0=q0∧(∀c2:Nat,let d2:=W.tasks c2;let e2:=d2.prio;let g2:=d2.node;let h2:=d2.space;let k2:=d2.helper;let l2:=d2.loc;let o2:=d2.word;let q2:=d2.badge;let u2:=d2.owes;let v2:=d2.core;let w2:=d2.dom;c2<q0→(((((((((((((((((((True∧d2.r0=d2.r0)∧d2.r1=d2.r1)∧d2.r2=d2.r2)∧d2.r3=d2.r3)∧d2.r4=d2.r4)∧d2.r5=d2.r5)∧d2.r6=d2.r6)∧d2.r7=d2.r7)∧d2.pc=d2.pc)∧d2.st=d2.st)∧e2=e2)∧g2=g2)∧h2=h2)∧k2=k2)∧l2=l2)∧o2=o2)∧q2=q2)∧u2=u2)∧v2=v2)∧w2=w2))∧u0=u0∧(∀x2:Nat,let y2:=W.linesN x2;x2<u0→True∧y2=y2∧(∀z2:Nat,z2<y2→True∧W.lines x2 z2=W.lines x2 z2)))∧v0=v0∧(∀a3:Nat,a3<v0→True∧W.bits a3=W.bits a3))∧c0=c0∧(∀b3:Nat,b3<c0→True∧W.cores b3=W.cores b3))∧y0=y0∧(∀c3:Nat,let d3:=W.readyN c3;c3<y0→True∧d3=d3∧(∀e3:Nat,e3<d3→True∧W.ready c3 e3=W.ready c3 e3)))∧z0=z0∧(∀g3:Nat,let h3:=W.tlbsN g3;g3<z0→True∧h3=h3∧(∀k3:Nat,let l3:=W.tlbs g3 k3;let o3:=l3.sp;let q3:=l3.pg;let u3:=l3.fr;let v3:=l3.wr;k3<h3→(((True∧o3=o3)∧q3=q3)∧u3=u3)∧v3=v3)))∧a1=a1∧(∀w3:Nat,w3<a1→True∧W.doms w3=W.doms w3))∧c1)∧True;let x3:Int:=0+1;let y3:Int:=x3+1;let z3:Int:=y3+1;let a4:=(∀b4:Nat,b4<u0→W.linesN b4≤50)∧(∀c4:Nat,c4<y0→W.readyN c4≤50)∧(∀d4:Nat,d4<z0→W.tlbsN d4≤50);let e4:=k1∧True∧Szd W∧a4;
    let g4:Int:=z3+1;let h4:Int:=g4+1;let k4:Int:=h4+1;let l4:Int:=k4+1;tn 8 ((e0=false→h0)∧(l0=false→h0)∧(w0=false→w64 x0=x0)∧(b1=false→(c1∧(1000000:Int)=1000000∧True)∧True∧True)∧(d1=true→((2:Int)≠0∧e1=2∧g1=(-1))∧True)∧(d1=false→tn 2 (h1≤9223372036854775807→((0:Int)≤0∧0<h1)∧(k1∧True∧s_vWords.match_1 (fun o4:X_vWords=>Prop) (X_vWords.mk W) (fun q4:Wd=>Sm q4))∧((w1E W !=0)=true→(w1E W=e1∧w1A W=g1)∧True)∧((w1E W !=0)=false→w64 x3=x3∧(0≤x3∧x3<h1)∧(k1∧True∧s_vKeys.match_1 (fun u4:X_vKeys=>Prop) (X_vKeys.mk W) (fun v4:Wd=>Szd v4))∧((w2E W !=0)=true→(w2E W=e1∧w2A W=g1)∧True)∧((w2E W !=0)=false→w64 y3=y3∧(0≤y3∧y3<h1)∧(k1∧True∧Szd W∧(∀w4:Nat,w4<o0→slB W w4=true))∧((w3E W !=0)=true→(w3E W=e1∧w3A W=g1)∧True)∧((w3E W !=0)=false→w64 z3=z3∧(0≤z3∧z3<h1)∧e4∧((w4E W !=0)=true→(w4E W=e1∧w4A W=g1)∧True)∧((w4E W !=0)=false→w64 g4=g4∧(0≤g4∧g4<h1)∧e4∧((w5E W !=0)=true→(w5E W=e1∧w5A W=g1)∧True)∧((w5E W !=0)=false→w64 h4=h4∧(0≤h4∧h4<h1)∧e4∧((w6E W !=0)=true→(w6E W=e1∧w6A W=g1)∧True)∧((w6E W !=0)=false→w64 k4=k4∧(0≤k4∧k4<h1)∧(k1∧True∧Szd W∧a4∧(∀x4:Nat,x4<k0→0≤W.ram x4∧W.ram x4≤65535))∧((w7E W !=0)=true→(w7E W=e1∧w7A W=g1)∧True)∧((w7E W !=0)=false→w64 l4=l4∧(e1=0∧g1=(-1))∧True))))))))))
set_option maxHeartbeats 2000000 in
theorem ok_wCheck:FnOK Tryz.prog glN 87 c_wCheck:=ok_of (.cons ok_wOut (.cons ok_vWords (.cons ok_vKeys (.cons ok_vFrames (.cons ok_vTasks (.cons ok_vLines (.cons ok_vTurns (.cons ok_vMaps .nil)))))))) false Tryz.call87 Tryz.func87 (fun _=> [.dec,.unroll 8]) (V:=V_wCheck) (fun _=>by kernel_rfl) fun ⟨W⟩ hp=>by
  dsimp only [s_wCheck] at hp
  dsimp only [V_wCheck,tn,w64]
  simp only [std,stb,eq_self,implies_true,Bool.cond_self]
  have wr: ∀z:Int,-100000≤z→z≤100000→IntKind.i64.wrap z=z:=fun z h1 h2=>by rw [IntKind.wrap_i64];omega
  have b2:=hp.kinds
  have b4:=hp.cores
  rw [szBad_int]
  refine ⟨fun _=>wr _ (by omega) (by omega),fun _=>wr _ (by omega) (by omega),fun _=>wr _ (by omega) (by omega),fun h=>?_,fun h _=>⟨⟨by decide,by decide⟩,hp,?_⟩⟩
  · have:wm W=(2,-1):=by unfold wm;rw [h];rfl
    unfold wE wA;rw [this];exact ⟨by decide,rfl,rfl⟩
  have hz:=szd_of h
  have X1:wm W=(wm1 W (wm2 W (wm3 W (wm4 W (wm5 W (wm6 W (wm7 W (0,-1)))))))):=by unfold wm;rw [h];rfl
  refine ⟨(seqW (seq1 W) X1).1,fun g1=>⟨wr _ (by decide) (by decide),⟨by decide,by decide⟩,hz,?_⟩⟩
  have X2:=(seqW (seq1 W) X1).2 g1
  refine ⟨(seqW (seq2 W) X2).1,fun g2=>⟨wr _ (by decide) (by decide),⟨by decide,by decide⟩,⟨hz,slots_of g2⟩,?_⟩⟩
  have X3:=(seqW (seq2 W) X2).2 g2
  refine ⟨(seqW (seq3 W) X3).1,fun g3=>⟨wr _ (by decide) (by decide),⟨by decide,by decide⟩,⟨hz,hp.sm⟩,?_⟩⟩
  have X4:=(seqW (seq3 W) X3).2 g3
  refine ⟨(seqW (seq4 W) X4).1,fun g4=>⟨wr _ (by decide) (by decide),⟨by decide,by decide⟩,⟨hz,hp.sm⟩,?_⟩⟩
  have X5:=(seqW (seq4 W) X4).2 g4
  refine ⟨(seqW (seq5 W) X5).1,fun g5=>⟨wr _ (by decide) (by decide),⟨by decide,by decide⟩,⟨hz,hp.sm⟩,?_⟩⟩
  have X6:=(seqW (seq5 W) X5).2 g5
  refine ⟨(seqW (seq6 W) X6).1,fun g6=>⟨wr _ (by decide) (by decide),⟨by decide,by decide⟩,⟨hz,hp.sm,ram_of g1⟩,?_⟩⟩
  have X7:=(seqW (seq6 W) X6).2 g6
  refine ⟨(seqW (seq7 W) X7).1,fun g7=>⟨wr _ (by decide) (by decide),?_⟩⟩
  have X8:=(seqW (seq7 W) X7).2 g7
  unfold wE wA;rw [X8];exact ⟨rfl,rfl⟩
end Go.Proofs.YtdjilaofmdhikaaGreatDoor
set_option linter.unusedVariables false
set_option linter.unusedSimpArgs false
set_option maxRecDepth 100000
namespace Go.Proofs.YtdjilaofmdhikaaGreatDoor
open Go.RowKit Go.Sy
def zSl:Slt:=⟨0,0,0,0,0,0,0⟩
end Go.Proofs.YtdjilaofmdhikaaGreatDoor
set_option linter.unusedVariables false
set_option linter.unusedSimpArgs false
set_option maxRecDepth 100000
namespace Go.Proofs.YtdjilaofmdhikaaGreatDoor
open Go.RowKit Go.Sy
def updF {α:Type} (f:Nat→α) (i:Nat) (v:α) (j:Nat):α:=bif Nat.beq j i then v else f j
def apF (n:Nat) (f:Nat→Int) (x:Int) (k:Nat):Int:=bif Nat.blt k n then f k else x
def delF (f:Nat→Int) (i k:Nat):Int:=bif Nat.blt k i then f k else f (k+1)
theorem updF_at {α:Type} {f:Nat→α} {i:Nat} {v:α}:updF f i v i=v:=by unfold updF;rw [Nat.beq_refl];rfl
theorem updF_ne {α:Type} {f:Nat→α} {i j:Nat} {v:α} (h:j≠i):updF f i v j=f j:=by unfold updF;rw [beq_ne h];rfl
theorem runEq_eq {a b:Run} (h:runEq a b=true):a=b:=by
  unfold runEq at h
  simp only [Bool.and_eq_true,beq_iff_eq,and_true] at h
  cases a;cases b
  simp only at h
  obtain ⟨⟨h1,h2,h3,h4,h5,h6,h7,h8⟩,h9,h10,h11,h12,h13,h14,h15,h16,h17,h18,h19,h20⟩:=h
  subst h1 h2 h3 h4 h5 h6 h7 h8 h9 h10 h11 h12 h13 h14 h15 h16 h17 h18 h19 h20
  rfl
structure Snd (W:Wd):Prop where
  z:Szd W
  ram: ∀i,i<W.nRam→farB (W.ram i) 65535=false
  kd: ∀i,i<W.nKinds→(farB (W.kinds i) 8||W.kinds i==1)=false
  dm: ∀i,i<W.nDoms→farB (W.doms i) 3=false
  sl: ∀i,i<W.nSlots→slB W i=true
  fr: ∀i,i<W.nKinds→frB W i=true
  tk: ∀i,i<W.nKinds→tkB W i=true
  ln: ∀i,i<W.nKinds→lnB W i=true
  co: ∀i,i<W.nCores→coB W i=true
  rl: ∀i,i<W.nReady→rlB W i=true
  en: ∀i,i<W.nRam→enB W i=true
  tl: ∀i,i<W.nCores→tlB W (W.tlbsN i) (W.tlbs i)=true
theorem szBad_of {W:Wd} (h:Szd W):szBad W=false:=by
  obtain ⟨h1,h2,h3,h4,h5,h6,h7,h8,h9,h10,h11,h12,h13,h14,h15⟩:=h
  unfold szBad farB
  simp only [Bool.or_eq_false_iff,decide_eq_false_iff_not,bne_eq_false_iff_eq]
  refine ⟨⟨⟨⟨⟨⟨⟨⟨⟨⟨⟨⟨⟨?_,?_⟩,?_⟩,?_⟩,h5⟩,h6⟩,h7⟩,h8⟩,h9⟩,h10⟩,h11⟩,?_⟩,?_⟩,?_,?_⟩<;>omega
theorem notN {b:Bool} (h:b=true):(!b)=false:=by rw [h];rfl
theorem Snd.iff {W:Wd}:wE W=0↔Snd W:=by
  constructor
  · intro h
    unfold wE wm at h
    cases hs:szBad W with
    |true=>rw [hs] at h;exact absurd (show (2:Int)=0 from h) (by decide)
    |false=>
     rw [hs] at h
     have h:(wm1 W (wm2 W (wm3 W (wm4 W (wm5 W (wm6 W (wm7 W (0,-1)))))))).1=0:=h
     have a1:=fstE_zero (by decide) h
     have a2:=fstE_zero (by decide) a1.2
     have a3:=fstE_zero (by decide) a2.2
     have a4:=fstE_zero (by decide) a3.2
     have a5:=fstE_zero (by decide) a4.2
     have a6:=fstE_zero (by decide) a5.2
     have a7:=fstE_zero (by decide) a6.2
     have a8:=fstE_zero (by decide) a7.2
     have a9:=fstE_zero (by decide) a8.2
     have a10:=fstE_zero (by decide) a9.2
     have a11:=fstE_zero (by decide) a10.2
     exact ⟨szd_of hs,a1.1,a2.1,a3.1,fun i hi=>notF (a4.1 i hi),fun i hi=>notF (a5.1 i hi),fun i hi=>notF (a6.1 i hi),fun i hi=>notF (a7.1 i hi),fun i hi=>notF (a8.1 i hi),fun i hi=>notF (a9.1 i hi),fun i hi=>notF (a10.1 i hi),fun i hi=>notF (a11.1 i hi)⟩
  · intro h
    obtain ⟨z,ram,kd,dm,sl,fr,tk,ln,co,rl,en,tl⟩:=h
    unfold wE wm wm1 wm2 wm3 wm4 wm5 wm6 wm7
    rw [szBad_of z]
    rw [fstE_none ram,fstE_none kd,fstE_none dm,fstE_none fun i hi=>notN (sl i hi),fstE_none fun i hi=>notN (fr i hi),fstE_none fun i hi=>notN (tk i hi),fstE_none fun i hi=>notN (ln i hi),fstE_none fun i hi=>notN (co i hi),fstE_none fun i hi=>notN (rl i hi),fstE_none fun i hi=>notN (en i hi),fstE_none fun i hi=>notN (tl i hi)]
    rfl
structure TkR (W:Wd) (t:Run):Prop where
  reg:regFar t=false
  pc:0≤t.pc∧t.pc≤65535
  word:0≤t.word∧t.word≤65535
  badge:0≤t.badge∧t.badge≤65535
  st:0≤t.st∧t.st≤6
  prio:0≤t.prio∧t.prio≤3
  core:0≤t.core∧t.core<W.nCores
  dom:0≤t.dom∧t.dom≤3
  node: -1≤t.node∧t.node<W.nKinds
  space: -1≤t.space∧t.space<W.nKinds
  helper: -1≤t.helper∧t.helper<W.nKinds
  loc: -1≤t.loc∧t.loc<W.nKinds
  owes: -1≤t.owes∧t.owes<W.nKinds
structure Inv (L:Nat) (W:Wd):Prop where
  z:Szd W
  ram: ∀i,i<W.nRam→isW (W.ram i)
  kd: ∀i,i<W.nKinds→0≤W.kinds i∧W.kinds i≤8
  dm: ∀i,i<W.nDoms→0≤W.doms i∧W.doms i≤3
  sl: ∀i,i<W.nSlots→slNo (W.slots i)=0∧((W.slots i).kind≠0→(W.slots i).base+(W.slots i).len≤W.nKinds)∧ -1≤(W.slots i).from_∧(W.slots i).from_<W.nSlots
  tk: ∀i,i<W.nTasks→TkR W (W.tasks i)
  ln: ∀i,i<W.nLines→W.linesN i≤L∧ ∀k,k<W.linesN i→0≤W.lines i k∧W.lines i k<W.nTasks
  rd: ∀i,i<W.nReady→W.readyN i≤L∧ ∀k,k<W.readyN i→0≤W.ready i k∧W.ready i k<W.nTasks
  co: ∀c,c<W.nCores→ -1≤W.cores c∧W.cores c<W.nTasks
  bt: ∀i,i<W.nBits→0≤W.bits i∧W.bits i≤65535
  tl: ∀c,c<W.nTlbs→W.tlbsN c≤L
theorem farB_in {v m:Int} (h:farB v m=false):0≤v∧v≤m:=by
  unfold farB at h
  simp only [Bool.or_eq_false_iff,decide_eq_false_iff_not] at h
  omega
theorem okF_rng {W:Wd} {f k:Int} (hk:k≠ -1) (h:okF W f k=true): -1≤f∧f<W.nKinds:=by
  unfold okF at h
  simp only [Bool.or_eq_true,beq_iff_eq] at h
  rcases h with h|h
  · omega
  · have:=kof_in (W:=W) (f:=f) (by rw [h];exact hk);omega
theorem stOK_loc {W:Wd} {f:Nat} (h:stOK W f=true):(W.tasks f).loc= -1∨kof W (W.tasks f).loc=7∨kof W (W.tasks f).loc=8:=by
  unfold stOK standOK at h
  dsimp only at h
  generalize ((W.tasks f).st==2||(W.tasks f).st==3||(W.tasks f).st==4)=a at h
  generalize ((W.tasks f).st==6)=b at h
  generalize ((W.tasks f).st==1)=c at h
  cases a<;>cases b<;>cases c<;>simp only [cond_true,cond_false,Bool.and_eq_true,beq_iff_eq] at h<;>first|exact .inl h.2|exact .inr (.inl h.1.2)|exact .inr (.inr h.1.2)
theorem rdB_in {W:Wd} {t c p:Int} (h:rdB W t c p=true):(0≤t∧t<W.nKinds)∧kof W t=6∧(W.tasks t.toNat).st=1∧(W.tasks t.toNat).core=c∧(0≤p→(W.tasks t.toNat).prio=p):=by
  unfold rdB at h
  simp only [Bool.and_eq_true,Bool.or_eq_true,beq_iff_eq,decide_eq_true_eq] at h
  obtain ⟨⟨⟨h1,h2⟩,h3⟩,h4⟩:=h
  exact ⟨kof_in (by rw [h1];decide),h1,h2,h3,fun hp=>h4.resolve_left (by omega)⟩
theorem inv_of {W:Wd} (h:Snd W) (hs:Sm W):Inv 50 W:=by
  obtain ⟨z,ram,kd,dm,sl,fr,tk,ln,co,rl,en,tl⟩:=h
  have zt:=z.tasks
  refine ⟨z,fun i hi=>farB_in (ram i hi),fun i hi=>farB_in (Bool.or_eq_false_iff.1 (kd i hi)).1,fun i hi=>farB_in (dm i hi),fun i hi=>?_,fun i hi=>?_,fun i hi=>⟨hs.sm.1 i hi,fun k hk=>?_⟩,fun i hi=>⟨hs.sm.2.1 i hi,fun k hk=>?_⟩,fun c hc=>?_,fun i hi=>?_,fun c hc=>hs.sm.2.2 c hc⟩
  · have h:=sl i hi
    have hn:=slBs_no h
    have hr:=slNo_range hn
    unfold slB slBs at h
    cases hk:(W.slots i).kind==0 with
    |true=>
     rw [hk] at h
     simp only [cond_true,Bool.and_eq_true,beq_iff_eq] at h
     refine ⟨hn,fun h0=>absurd (eq_of_beq hk) h0,?_,?_⟩<;>omega
    |false=>
     rw [hk] at h
     simp only [cond_false,Bool.and_eq_true,Bool.or_eq_true,beq_iff_eq,decide_eq_true_eq] at h
     refine ⟨hn,fun _=>h.1.1.2,?_⟩
     rcases h.2 with h2|h2
     · omega
     · have:=inS_iff.1 h2.1.1;omega
  · have h:=tk i (by omega)
    unfold tkB at h
    cases hk:W.kinds i !=6 with
    |true=>
     have h:runEq (W.tasks i) Run.blank=true:=by simpa [hk] using h
     rw [runEq_eq h]
     have:=z.c0
     have:=z.k0
     refine ⟨by decide,by decide,by decide,by decide,by decide,by decide,?_,by decide,?_,?_,?_,?_,?_⟩<;>simp only [Run.blank]<;>omega
    |false=>
     simp only [hk,cond_false,Bool.and_eq_true,Bool.not_eq_true'] at h
     obtain ⟨⟨⟨⟨⟨h1,h2⟩,h3⟩,h4⟩,h5⟩,h6⟩:=h
     unfold numFar at h2
     simp only [Bool.or_eq_false_iff] at h2
     obtain ⟨⟨⟨⟨⟨⟨g1,g2⟩,g3⟩,g4⟩,g5⟩,g6⟩,g7⟩:=h2
     unfold refOK at h3
     simp only [Bool.and_eq_true] at h3
     obtain ⟨⟨⟨r1,r2⟩,r3⟩,r4⟩:=h3
     have g6:=farB_in g6
     refine ⟨h1,farB_in g1,farB_in g2,farB_in g3,farB_in g4,farB_in g5,⟨g6.1,by omega⟩,farB_in g7,okF_rng (by decide) r1,okF_rng (by decide) r2,okF_rng (by decide) r3,?_,okF_rng (by decide) r4⟩
     rcases stOK_loc h6 with h|h|h
     · have:=z.k0;omega
     · have:=kof_in (W:=W) (f:=(W.tasks i).loc) (by rw [h];decide);omega
     · have:=kof_in (W:=W) (f:=(W.tasks i).loc) (by rw [h];decide);omega
  · have h:=ln i (by have:=z.lines;omega)
    unfold lnB at h
    simp only [Bool.and_eq_true] at h
    have h:=allB_iff.1 h.2 k hk
    unfold lnTest at h
    simp only [Bool.and_eq_true,beq_iff_eq] at h
    have:=kof_in (W:=W) (f:=W.lines i k) (by rw [h.1.1];decide)
    omega
  · have h:=allB_iff.1 (rl i hi) k hk
    have:=(rdB_in h).1
    omega
  · have h:=co c hc
    unfold coB at h
    simp only [Bool.or_eq_true,beq_iff_eq] at h
    rcases h with h|h
    · have:=z.k0;omega
    · have:=(rdB_in h).1;omega
  · have h:=ln i (by have:=z.bits;omega)
    unfold lnB at h
    simp only [Bool.and_eq_true,Bool.not_eq_true'] at h
    exact farB_in h.1.2
end Go.Proofs.YtdjilaofmdhikaaGreatDoor
set_option linter.unusedVariables false
set_option linter.unusedSimpArgs false
set_option maxRecDepth 100000
namespace Go.Proofs.YtdjilaofmdhikaaGreatDoor
open Go.RowKit Go.Sy
structure X_is where
  (e a x y:Int)
def s_is:Sy.Spec:=⟨X_is,fun ⟨e,a,x,y⟩=> [.er 35 116 e a,.ag 2 (lsv [.v (.int .i64 x),.v (.int .i64 y)])],fun _=> [],fun _=>True,fun ⟨e,a,x,y⟩=> .v (.bool (e==x&&a==y)),fun _=> [],
  fun args mem=>match args with| [a0,a1]=>some ⟨erE a0,erA a0,intD (agD a1 0),intD (agD a1 1)⟩|_=>none⟩
def c_is:Con:=⟨[],s_is.g,none⟩
def V_is:X_is→Prop:=fun ⟨e,a,x,y⟩=>True∧(((e=e∧a=a)∧True)∧True∧True)∧cond (e==x) (a==y) false=(e==x&&a==y)∧True
theorem ok_is:FnOK Tryz.prog glE 27 c_is:=ok_of (.cons ok_tell .nil) false Tryz.call27 Tryz.func27 (fun _=> []) (V:=V_is) (fun _=>by kernel_rfl) fun ⟨e,a,x,y⟩ hp=>by
  dsimp only [V_is,tn,w64]
  exact ⟨trivial,by simp,by cases e==x<;>rfl,trivial⟩
end Go.Proofs.YtdjilaofmdhikaaGreatDoor
set_option linter.unusedVariables false
set_option linter.unusedSimpArgs false
set_option maxRecDepth 100000
namespace Go.Proofs.YtdjilaofmdhikaaGreatDoor
open Go.RowKit Go.Sy
def wRd (W:Wd):SV:= .ag 11 (lsv [.sl false 1 W.nRam (iF W.ram),.sl false 1 W.nKinds (iF W.kinds),.sl false 7 W.nSlots (rF fun i=>slL (W.slots i)),.sl false 20 W.nTasks (rF fun i=>runL (W.tasks i)),.sl false 1 W.nLines (fun i _=> .sl false 1 (W.linesN i) (iF (W.lines i))),.sl false 1 W.nBits (iF W.bits),.sl false 1 W.nCores (iF W.cores),.sl false 1 W.nReady (fun i _=> .sl false 1 (W.readyN i) (iF (W.ready i))),.sl false 1 W.nTlbs (fun i _=> .sl false 4 (W.tlbsN i) (rF fun k=>enL (W.tlbs i k))),.sl false 1 W.nDoms (iF W.doms),.v (.int .i64 W.time)])
def oW:Wd:=⟨0,fun _=>0,0,fun _=>0,0,fun _=>zSl,0,fun _=>Run.blank,0,fun _=>0,fun _ _=>0,0,fun _=>0,0,fun _=>0,0,fun _=>0,fun _ _=>0,0,fun _=>0,fun _ _=>zEn,0,fun _=>0,0⟩
def gdW (e:Int) (W:Wd):Wd:=bif e==0 then W else oW
theorem gdW_no {e:Int} (W:Wd) (h:(e==0)=false):gdW e W=oW:=by unfold gdW;rw [h];rfl
theorem gdW_yes {e:Int} (W:Wd) (h:(e==0)=true):gdW e W=W:=by unfold gdW;rw [h];rfl
theorem sameB_refl (n:Nat) (f:Nat→Int):sameB n f n f=true:=by simp [sameB,allB_iff]
theorem sameLL_refl (n:Nat) (k:Nat→Nat) (f:Nat→Nat→Int):sameLL n k f n k f=true:=by simp [sameLL,allB_iff,sameB_refl]
theorem sameEn_refl (n:Nat) (f:Nat→Ent4):sameEn n f n f=true:=by simp [sameEn,allB_iff,enEq]
theorem sameW_refl (W:Wd):sameW W W=true:=by simp [sameW,sameB_refl,sameLL_refl,sameEn_refl,allB_iff,slEq,runEq]
theorem lg_sm {W:Wd} (h:Sm W):Lg W:=by
  obtain ⟨h1,h2,h3,h4,h5,h6,h7,h8,h9,h10,h11,h12,h13⟩:=h
  exact ⟨h1,by omega,h3,by omega,by omega,by omega,by omega,by omega,by omega,by omega,fun i hi=>by have:=h11 i hi;omega,fun i hi=>by have:=h12 i hi;omega,fun i hi=>by have:=h13 i hi;omega⟩
theorem snd0 {W:Wd} (h:Snd W):wE W=0:=Snd.iff.2 h
structure X_nothing where
  (A:Wd)
def s_nothing:Sy.Spec:=⟨X_nothing,fun ⟨A⟩=> [wSV A],fun _=> [],fun ⟨A⟩=>A.nRam=0∧A.nKinds=0∧A.nSlots=0∧A.nTasks=0∧A.nLines=0∧A.nBits=0∧A.nCores=0∧A.nReady=0∧A.nTlbs=0∧A.nDoms=0∧A.time=0,fun _=> .v (.bool true),fun _=> [],
  fun args mem=>match args with| [a0]=>some ⟨wSVD a0⟩|_=>none⟩
def c_nothing:Con:=⟨[],s_nothing.g,none⟩
def V_nothing:X_nothing→Prop:=fun ⟨A⟩=>let a0:Int:=((A.nRam:Nat):Int)+((A.nKinds:Nat):Int);let b0:Int:=a0+((A.nSlots:Nat):Int);let c0:Int:=b0+((A.nTasks:Nat):Int);let d0:Int:=c0+((A.nLines:Nat):Int);let e0:Int:=d0+((A.nBits:Nat):Int);let g0:Int:=e0+((A.nCores:Nat):Int);let h0:Int:=g0+((A.nReady:Nat):Int);let k0:Int:=h0+((A.nTlbs:Nat):Int);let l0:Int:=k0+((A.nDoms:Nat):Int);let o0:Int:=l0+A.time;True∧(((A.nRam:Nat):Int)≤9223372036854775807→((A.nKinds:Nat):Int)≤9223372036854775807→w64 a0=a0∧(((A.nSlots:Nat):Int)≤9223372036854775807→w64 b0=b0∧(((A.nTasks:Nat):Int)≤9223372036854775807→w64 c0=c0∧(((A.nLines:Nat):Int)≤9223372036854775807→w64 d0=d0∧(((A.nBits:Nat):Int)≤9223372036854775807→w64 e0=e0∧(((A.nCores:Nat):Int)≤9223372036854775807→w64 g0=g0∧(((A.nReady:Nat):Int)≤9223372036854775807→w64 h0=h0∧(((A.nTlbs:Nat):Int)≤9223372036854775807→w64 k0=k0∧(((A.nDoms:Nat):Int)≤9223372036854775807→w64 l0=l0∧w64 o0=o0∧(o0==0)=true∧True)))))))))
theorem ok_nothing:FnOK Tryz.prog glE 70 c_nothing:=ok_of .nil false Tryz.call70 Tryz.func70 (fun _=> []) (V:=V_nothing) (fun _=>by kernel_rfl) fun ⟨A⟩ hp=>by
  dsimp only [s_nothing] at hp
  dsimp only [V_nothing,tn,w64]
  obtain ⟨h1,h2,h3,h4,h5,h6,h7,h8,h9,h10,h11⟩:=hp
  simp [h1,h2,h3,h4,h5,h6,h7,h8,h9,h10,h11,IntKind.wrap_i64]
structure X_soundR where
  (W:Wd)
def s_soundR:Sy.Spec:=⟨X_soundR,fun ⟨W⟩=> [wSV W],fun _=> [],fun ⟨W⟩=>Sm W,fun ⟨W⟩=> .v (.bool (wE W==0)),fun _=> [],
  fun args mem=>match args with| [a0]=>some ⟨wSVD a0⟩|_=>none⟩
def c_soundR:Con:=⟨[],s_soundR.g,none⟩
def V_soundR:X_soundR→Prop:=fun ⟨W⟩=>let a0:=W.nKinds;let b0:=W.nSlots;let c0:=W.nTasks;let d0:=W.nLines;let e0:=W.nCores;let g0:=W.nReady;True∧(((((((((((((True∧W.nRam=W.nRam∧(∀h0:Nat,h0<W.nRam→True∧W.ram h0=W.ram h0))∧a0=a0∧(∀k0:Nat,k0<a0→True∧W.kinds k0=W.kinds k0))∧b0=b0∧(∀l0:Nat,let o0:=W.slots l0;let q0:=o0.kind;let u0:=o0.base;let v0:=o0.len;let w0:=o0.mark;let x0:=o0.rights;let y0:=o0.badge;let z0:=o0.from_;l0<b0→((((((True∧q0=q0)∧u0=u0)∧v0=v0)∧w0=w0)∧x0=x0)∧y0=y0)∧z0=z0))∧c0=c0∧(∀a1:Nat,let b1:=W.tasks a1;let c1:=b1.prio;let d1:=b1.node;let e1:=b1.space;let g1:=b1.helper;let h1:=b1.loc;let k1:=b1.word;let l1:=b1.badge;let o1:=b1.owes;let q1:=b1.core;let u1:=b1.dom;a1<c0→(((((((((((((((((((True∧b1.r0=b1.r0)∧b1.r1=b1.r1)∧b1.r2=b1.r2)∧b1.r3=b1.r3)∧b1.r4=b1.r4)∧b1.r5=b1.r5)∧b1.r6=b1.r6)∧b1.r7=b1.r7)∧b1.pc=b1.pc)∧b1.st=b1.st)∧c1=c1)∧d1=d1)∧e1=e1)∧g1=g1)∧h1=h1)∧k1=k1)∧l1=l1)∧o1=o1)∧q1=q1)∧u1=u1))∧d0=d0∧(∀v1:Nat,let w1:=W.linesN v1;v1<d0→True∧w1=w1∧(∀x1:Nat,x1<w1→True∧W.lines v1 x1=W.lines v1 x1)))∧W.nBits=W.nBits∧(∀y1:Nat,y1<W.nBits→True∧W.bits y1=W.bits y1))∧e0=e0∧(∀z1:Nat,z1<e0→True∧W.cores z1=W.cores z1))∧g0=g0∧(∀a2:Nat,let b2:=W.readyN a2;a2<g0→True∧b2=b2∧(∀c2:Nat,c2<b2→True∧W.ready a2 c2=W.ready a2 c2)))∧W.nTlbs=W.nTlbs∧(∀d2:Nat,let e2:=W.tlbsN d2;d2<W.nTlbs→True∧e2=e2∧(∀g2:Nat,let h2:=W.tlbs d2 g2;let k2:=h2.sp;let l2:=h2.pg;let o2:=h2.fr;let q2:=h2.wr;g2<e2→(((True∧k2=k2)∧l2=l2)∧o2=o2)∧q2=q2)))∧W.nDoms=W.nDoms∧(∀u2:Nat,u2<W.nDoms→True∧W.doms u2=W.doms u2))∧W.time=W.time)∧True)∧True∧
    s_worldMay.match_1 (fun v2:X_worldMay=>Prop) (X_worldMay.mk W) (fun w2:Wd=>Sm w2))∧(wE W==0)=(wE W==0)∧True
set_option maxHeartbeats 1000000 in
theorem ok_soundR:FnOK Tryz.prog glE 72 c_soundR:=ok_of (.cons (ok_worldMay.up glN_glE) .nil) false Tryz.call72 Tryz.func72 (fun _=> []) (V:=V_soundR) (fun _=>by kernel_rfl) fun ⟨W⟩ hp=>by
  dsimp only [s_soundR] at hp
  dsimp only [V_soundR,tn,w64]
  simp only [std,stb,eq_self,implies_true,Bool.cond_self]
  exact hp
structure X_sound0 where
  (W:Wd)
def s_sound0:Sy.Spec:=⟨X_sound0,fun ⟨W⟩=> [wSV W],fun _=> [],fun ⟨W⟩=>Sm W∧Snd W,fun _=> .v (.int .i64 0),fun _=> [],
  fun args mem=>match args with| [a0]=>some ⟨wSVD a0⟩|_=>none⟩
def c_sound0:Con:=⟨[],s_sound0.g,none⟩
def V_sound0:X_sound0→Prop:=fun ⟨W⟩=>let a0:=W.nKinds;let b0:=W.nSlots;let c0:=W.nTasks;let d0:=W.nLines;let e0:=W.nCores;let g0:=W.nReady;True∧(((((((((((((True∧W.nRam=W.nRam∧(∀h0:Nat,h0<W.nRam→True∧W.ram h0=W.ram h0))∧a0=a0∧(∀k0:Nat,k0<a0→True∧W.kinds k0=W.kinds k0))∧b0=b0∧(∀l0:Nat,let o0:=W.slots l0;let q0:=o0.kind;let u0:=o0.base;let v0:=o0.len;let w0:=o0.mark;let x0:=o0.rights;let y0:=o0.badge;let z0:=o0.from_;l0<b0→((((((True∧q0=q0)∧u0=u0)∧v0=v0)∧w0=w0)∧x0=x0)∧y0=y0)∧z0=z0))∧c0=c0∧(∀a1:Nat,let b1:=W.tasks a1;let c1:=b1.prio;let d1:=b1.node;let e1:=b1.space;let g1:=b1.helper;let h1:=b1.loc;let k1:=b1.word;let l1:=b1.badge;let o1:=b1.owes;let q1:=b1.core;let u1:=b1.dom;a1<c0→(((((((((((((((((((True∧b1.r0=b1.r0)∧b1.r1=b1.r1)∧b1.r2=b1.r2)∧b1.r3=b1.r3)∧b1.r4=b1.r4)∧b1.r5=b1.r5)∧b1.r6=b1.r6)∧b1.r7=b1.r7)∧b1.pc=b1.pc)∧b1.st=b1.st)∧c1=c1)∧d1=d1)∧e1=e1)∧g1=g1)∧h1=h1)∧k1=k1)∧l1=l1)∧o1=o1)∧q1=q1)∧u1=u1))∧d0=d0∧(∀v1:Nat,let w1:=W.linesN v1;v1<d0→True∧w1=w1∧(∀x1:Nat,x1<w1→True∧W.lines v1 x1=W.lines v1 x1)))∧W.nBits=W.nBits∧(∀y1:Nat,y1<W.nBits→True∧W.bits y1=W.bits y1))∧e0=e0∧(∀z1:Nat,z1<e0→True∧W.cores z1=W.cores z1))∧g0=g0∧(∀a2:Nat,let b2:=W.readyN a2;a2<g0→True∧b2=b2∧(∀c2:Nat,c2<b2→True∧W.ready a2 c2=W.ready a2 c2)))∧W.nTlbs=W.nTlbs∧(∀d2:Nat,let e2:=W.tlbsN d2;d2<W.nTlbs→True∧e2=e2∧(∀g2:Nat,let h2:=W.tlbs d2 g2;let k2:=h2.sp;let l2:=h2.pg;let o2:=h2.fr;let q2:=h2.wr;g2<e2→(((True∧k2=k2)∧l2=l2)∧o2=o2)∧q2=q2)))∧W.nDoms=W.nDoms∧(∀u2:Nat,u2<W.nDoms→True∧W.doms u2=W.doms u2))∧W.time=W.time)∧True)∧True∧
    s_soundR.match_1 (fun v2:X_soundR=>Prop) (X_soundR.mk W) (fun w2:Wd=>Sm w2))∧((wE W==0)=true→(0:Int)=0∧True)∧((wE W==0)=false→(8:Int)=0∧True)
set_option maxHeartbeats 1000000 in
theorem ok_sound0:FnOK Tryz.prog glE 16 c_sound0:=ok_of (.cons ok_soundR .nil) false Tryz.call16 Tryz.func16 (fun _=> []) (V:=V_sound0) (fun _=>by kernel_rfl) fun ⟨W⟩ hp=>by
  dsimp only [s_sound0] at hp
  dsimp only [V_sound0,tn,w64]
  simp only [std,stb,eq_self,implies_true,Bool.cond_self]
  exact ⟨hp.1,fun h=>by rw [snd0 hp.2] at h;exact absurd h (by decide)⟩
structure X_sound8 where
  (W:Wd)
def s_sound8:Sy.Spec:=⟨X_sound8,fun ⟨W⟩=> [wSV W],fun _=> [],fun ⟨W⟩=>Sm W∧wE W≠0,fun _=> .v (.int .i64 8),fun _=> [],
  fun args mem=>match args with| [a0]=>some ⟨wSVD a0⟩|_=>none⟩
def c_sound8:Con:=⟨[],s_sound8.g,none⟩
def V_sound8:X_sound8→Prop:=fun ⟨W⟩=>let a0:=W.nKinds;let b0:=W.nSlots;let c0:=W.nTasks;let d0:=W.nLines;let e0:=W.nCores;let g0:=W.nReady;True∧(((((((((((((True∧W.nRam=W.nRam∧(∀h0:Nat,h0<W.nRam→True∧W.ram h0=W.ram h0))∧a0=a0∧(∀k0:Nat,k0<a0→True∧W.kinds k0=W.kinds k0))∧b0=b0∧(∀l0:Nat,let o0:=W.slots l0;let q0:=o0.kind;let u0:=o0.base;let v0:=o0.len;let w0:=o0.mark;let x0:=o0.rights;let y0:=o0.badge;let z0:=o0.from_;l0<b0→((((((True∧q0=q0)∧u0=u0)∧v0=v0)∧w0=w0)∧x0=x0)∧y0=y0)∧z0=z0))∧c0=c0∧(∀a1:Nat,let b1:=W.tasks a1;let c1:=b1.prio;let d1:=b1.node;let e1:=b1.space;let g1:=b1.helper;let h1:=b1.loc;let k1:=b1.word;let l1:=b1.badge;let o1:=b1.owes;let q1:=b1.core;let u1:=b1.dom;a1<c0→(((((((((((((((((((True∧b1.r0=b1.r0)∧b1.r1=b1.r1)∧b1.r2=b1.r2)∧b1.r3=b1.r3)∧b1.r4=b1.r4)∧b1.r5=b1.r5)∧b1.r6=b1.r6)∧b1.r7=b1.r7)∧b1.pc=b1.pc)∧b1.st=b1.st)∧c1=c1)∧d1=d1)∧e1=e1)∧g1=g1)∧h1=h1)∧k1=k1)∧l1=l1)∧o1=o1)∧q1=q1)∧u1=u1))∧d0=d0∧(∀v1:Nat,let w1:=W.linesN v1;v1<d0→True∧w1=w1∧(∀x1:Nat,x1<w1→True∧W.lines v1 x1=W.lines v1 x1)))∧W.nBits=W.nBits∧(∀y1:Nat,y1<W.nBits→True∧W.bits y1=W.bits y1))∧e0=e0∧(∀z1:Nat,z1<e0→True∧W.cores z1=W.cores z1))∧g0=g0∧(∀a2:Nat,let b2:=W.readyN a2;a2<g0→True∧b2=b2∧(∀c2:Nat,c2<b2→True∧W.ready a2 c2=W.ready a2 c2)))∧W.nTlbs=W.nTlbs∧(∀d2:Nat,let e2:=W.tlbsN d2;d2<W.nTlbs→True∧e2=e2∧(∀g2:Nat,let h2:=W.tlbs d2 g2;let k2:=h2.sp;let l2:=h2.pg;let o2:=h2.fr;let q2:=h2.wr;g2<e2→(((True∧k2=k2)∧l2=l2)∧o2=o2)∧q2=q2)))∧W.nDoms=W.nDoms∧(∀u2:Nat,u2<W.nDoms→True∧W.doms u2=W.doms u2))∧W.time=W.time)∧True)∧True∧
    s_soundR.match_1 (fun v2:X_soundR=>Prop) (X_soundR.mk W) (fun w2:Wd=>Sm w2))∧((wE W==0)=true→(0:Int)=8∧True)∧((wE W==0)=false→(8:Int)=8∧True)
set_option maxHeartbeats 1000000 in
theorem ok_sound8:FnOK Tryz.prog glE 16 c_sound8:=ok_of (.cons ok_soundR .nil) false Tryz.call16 Tryz.func16 (fun _=> []) (V:=V_sound8) (fun _=>by kernel_rfl) fun ⟨W⟩ hp=>by
  dsimp only [s_sound8] at hp
  dsimp only [V_sound8,tn,w64]
  simp only [std,stb,eq_self,implies_true,Bool.cond_self]
  exact ⟨hp.1,fun h=>absurd (eq_of_beq h) hp.2⟩
structure X_done8 where
  (W:Wd)
def s_done8:Sy.Spec:=⟨X_done8,fun ⟨W⟩=> [wSV W,.junk],fun _=> [],fun ⟨W⟩=>Sm W∧wE W≠0,fun _=> .tp 2 (lsv [wRd oW,.er 35 116 8 (-1)]),fun _=> [],
  fun args mem=>match args with| [a0,a1]=>some ⟨wSVD a0⟩|_=>none⟩
def c_done8:Con:=⟨[],s_done8.g,none⟩
def V_done8:X_done8→Prop:=fun ⟨W⟩=>let a0:=W.nKinds;let b0:=W.nSlots;let c0:=W.nTasks;let d0:=W.nLines;let e0:=W.nCores;let g0:=W.nReady;let h0:=0=0;tn 2 ((((((((((((((True∧W.nRam=W.nRam∧(∀k0:Nat,k0<W.nRam→True∧W.ram k0=W.ram k0))∧a0=a0∧(∀l0:Nat,l0<a0→True∧W.kinds l0=W.kinds l0))∧b0=b0∧(∀o0:Nat,let q0:=W.slots o0;let u0:=q0.kind;let v0:=q0.base;let w0:=q0.len;let x0:=q0.mark;let y0:=q0.rights;let z0:=q0.badge;let a1:=q0.from_;o0<b0→((((((True∧u0=u0)∧v0=v0)∧w0=w0)∧x0=x0)∧y0=y0)∧z0=z0)∧a1=a1))∧c0=c0∧(∀b1:Nat,let c1:=W.tasks b1;let d1:=c1.prio;let e1:=c1.node;let g1:=c1.space;let h1:=c1.helper;let k1:=c1.loc;let l1:=c1.word;let o1:=c1.badge;let q1:=c1.owes;let u1:=c1.core;let v1:=c1.dom;b1<c0→(((((((((((((((((((True∧c1.r0=c1.r0)∧c1.r1=c1.r1)∧c1.r2=c1.r2)∧c1.r3=c1.r3)∧c1.r4=c1.r4)∧c1.r5=c1.r5)∧c1.r6=c1.r6)∧c1.r7=c1.r7)∧c1.pc=c1.pc)∧c1.st=c1.st)∧d1=d1)∧e1=e1)∧g1=g1)∧h1=h1)∧k1=k1)∧l1=l1)∧o1=o1)∧q1=q1)∧u1=u1)∧v1=v1))∧d0=d0∧(∀w1:Nat,let x1:=W.linesN w1;w1<d0→True∧x1=x1∧(∀y1:Nat,y1<x1→True∧W.lines w1 y1=W.lines w1 y1)))∧W.nBits=W.nBits∧(∀z1:Nat,z1<W.nBits→True∧W.bits z1=W.bits z1))∧e0=e0∧(∀a2:Nat,a2<e0→True∧W.cores a2=W.cores a2))∧g0=g0∧(∀b2:Nat,let c2:=W.readyN b2;b2<g0→True∧c2=c2∧(∀d2:Nat,d2<c2→True∧W.ready b2 d2=W.ready b2 d2)))∧W.nTlbs=W.nTlbs∧(∀e2:Nat,let g2:=W.tlbsN e2;e2<W.nTlbs→True∧g2=g2∧(∀h2:Nat,let k2:=W.tlbs e2 h2;let l2:=k2.sp;let o2:=k2.pg;let q2:=k2.fr;let u2:=k2.wr;h2<g2→(((True∧l2=l2)∧o2=o2)∧q2=q2)∧u2=u2)))∧W.nDoms=W.nDoms∧(∀v2:Nat,v2<W.nDoms→True∧W.doms v2=W.doms v2))∧W.time=W.time)∧True)∧True∧
    s_wCheck.match_1 (fun w2:X_wCheck=>Prop) (X_wCheck.mk W) (fun x2:Wd=>Sm x2))∧((wE W !=0)=true→tn 10 True∧((True∧((((((((((True∧h0)∧h0)∧h0)∧h0)∧h0)∧h0)∧h0)∧h0)∧h0)∧h0)∧(0:Int)=0)∧(8:Int)≠0∧(8:Int)=8∧((-1):Int)=(-1))∧True)∧((wE W !=0)=false→False))
set_option maxHeartbeats 1000000 in
theorem ok_done8:FnOK Tryz.prog glE 66 c_done8:=ok_of (.cons (ok_wCheck.up glN_glE) .nil) false Tryz.call66 Tryz.func66 (fun _=> []) (V:=V_done8) (fun _=>by kernel_rfl) fun ⟨W⟩ hp=>by
  dsimp only [s_done8] at hp
  dsimp only [V_done8,tn,w64]
  simp only [std,stb,eq_self,implies_true,Bool.cond_self]
  exact ⟨hp.1,fun _=>by decide,fun h=>absurd (by simpa using h) hp.2⟩
structure X_did8 where
  (W:Wd)
def s_did8:Sy.Spec:=⟨X_did8,fun ⟨W⟩=> [wRd oW,.er 35 116 8 (-1),wSV W,.v (.int .i64 8),.junk],fun _=> [],fun ⟨W⟩=>Lg W,fun _=> .v (.bool true),fun _=> [],
  fun args mem=>match args with| [a0,a1,a2,a3,a4]=>some ⟨wSVD a2⟩|_=>none⟩
def c_did8:Con:=⟨[],s_did8.g,none⟩
def V_did8:X_did8→Prop:=fun ⟨W⟩=>let a0:=W.nRam;let b0:=a0=a0;let c0:=W.nKinds;let d0:=c0=c0;let e0:=W.nSlots;let g0:=e0=e0;let h0:=W.nTasks;let k0:=h0=h0;let l0:=W.nLines;let o0:=l0=l0;let q0:=W.nBits;let u0:=q0=q0;let v0:=W.nCores;let w0:=v0=v0;let x0:=W.nReady;let y0:=x0=x0;let z0:=W.nTlbs;let a1:=z0=z0;let b1:=W.nDoms;let c1:=b1=b1;let d1:=W.time=W.time;let e1:=True∧True;let g1:=(8:Int)==0;let h1:=g1=true;let k1:=(8:Int)=8;let l1:=((-1):Int)=(-1);let o1:=(8:Int)==8&&((-1):Int)==(-1);let q1:=0=0;let u1:=(0:Int)=0;let v1:=True∧u1;let w1:=q1∧(∀x1:Nat,x1<0→v1);let y1:=True∧w1;let z1:=(v1∧u1)∧u1;let a2:=(((z1∧u1)∧u1)∧u1)∧u1;let b2:=q1∧(∀c2:Nat,c2<0→y1);let d2:=(((((((((y1∧w1)∧q1∧(∀e2:Nat,e2<0→a2))∧q1∧(∀g2:Nat,g2<0→((((((((((((a2∧u1)∧u1)∧u1)∧u1)∧l1)∧l1)∧l1)∧l1)∧u1)∧u1)∧l1)∧u1)∧u1))∧b2)∧w1)∧w1)∧b2)∧q1∧(∀h2:Nat,h2<0→True∧q1∧(∀k2:Nat,k2<0→z1∧false=false)))∧w1)∧u1;tn 2 ((((((((((((((True∧b0∧(∀l2:Nat,l2<a0→True∧W.ram l2=W.ram l2))∧d0∧(∀o2:Nat,o2<c0→True∧W.kinds o2=W.kinds o2))∧g0∧(∀q2:Nat,let u2:=W.slots q2;let v2:=u2.kind;let w2:=u2.base;let x2:=u2.len;let y2:=u2.mark;let z2:=u2.rights;let a3:=u2.badge;let b3:=u2.from_;q2<e0→((((((True∧v2=v2)∧w2=w2)∧x2=x2)∧y2=y2)∧z2=z2)∧a3=a3)∧b3=b3))∧k0∧(∀c3:Nat,let d3:=W.tasks c3;let e3:=d3.prio;let g3:=d3.node;let h3:=d3.space;let k3:=d3.helper;let l3:=d3.loc;let o3:=d3.word;let q3:=d3.badge;let u3:=d3.owes;let v3:=d3.core;let w3:=d3.dom;c3<h0→(((((((((((((((((((True∧d3.r0=d3.r0)∧d3.r1=d3.r1)∧d3.r2=d3.r2)∧d3.r3=d3.r3)∧d3.r4=d3.r4)∧d3.r5=d3.r5)∧d3.r6=d3.r6)∧d3.r7=d3.r7)∧
    d3.pc=d3.pc)∧d3.st=d3.st)∧e3=e3)∧g3=g3)∧h3=h3)∧k3=k3)∧l3=l3)∧o3=o3)∧q3=q3)∧u3=u3)∧v3=v3)∧w3=w3))∧o0∧(∀x3:Nat,let y3:=W.linesN x3;x3<l0→True∧y3=y3∧(∀z3:Nat,z3<y3→True∧W.lines x3 z3=W.lines x3 z3)))∧u0∧(∀a4:Nat,a4<q0→True∧W.bits a4=W.bits a4))∧w0∧(∀b4:Nat,b4<v0→True∧W.cores b4=W.cores b4))∧y0∧(∀c4:Nat,let d4:=W.readyN c4;c4<x0→True∧d4=d4∧(∀e4:Nat,e4<d4→True∧W.ready c4 e4=W.ready c4 e4)))∧a1∧(∀g4:Nat,let h4:=W.tlbsN g4;g4<z0→True∧h4=h4∧(∀k4:Nat,let l4:=W.tlbs g4 k4;let o4:=l4.sp;let q4:=l4.pg;let u4:=l4.fr;let v4:=l4.wr;k4<h4→(((True∧o4=o4)∧q4=q4)∧u4=u4)∧v4=v4)))∧c1∧(∀w4:Nat,w4<b1→True∧W.doms w4=W.doms w4))∧d1)∧True)∧True∧s_copyW.match_1 (fun x4:X_copyW=>Prop) (X_copyW.mk W) (fun y4:Wd=>Lg y4))∧True∧tn 9 e1∧(h1→False)∧(g1=false→(((8:Int) !=0)=true→((k1∧True)∧e1)∧(((k1∧l1)∧((True∧k1)∧l1)∧True)∧e1)∧(o1=true→(d2∧True)∧True∧q1∧q1∧q1∧q1∧q1∧q1∧q1∧q1∧q1∧q1∧u1)∧cond o1 true false=true∧True)∧(((8:Int) !=0)=false→(h1→(d2∧(((((((((((True∧b0∧(∀z4:Nat,z4<a0→True∧W.ram (0+z4)=W.ram (0+z4)))∧d0∧(∀a5:Nat,let b5:=W.kinds (0+a5);a5<c0→True∧b5=b5))∧g0∧(∀c5:Nat,let d5:=W.slots (0+c5);let e5:=d5.kind;let g5:=d5.base;let h5:=d5.len;let k5:=d5.mark;let l5:=d5.rights;let o5:=d5.badge;let q5:=d5.from_;c5<e0→((((((True∧e5=e5)∧g5=g5)∧h5=h5)∧k5=k5)∧l5=l5)∧o5=o5)∧q5=q5))∧k0∧(∀u5:Nat,let v5:=W.tasks (0+u5);let w5:=v5.r0;let x5:=v5.r1;let y5:=v5.r2;let z5:=v5.r3;let a6:=v5.r4;let b6:=v5.r5;let c6:=v5.r6;let d6:=v5.r7;let e6:=v5.pc;let g6:=v5.st;let h6:=v5.prio;let k6:=v5.node;let l6:=v5.space;
    let o6:=v5.helper;let q6:=v5.loc;let u6:=v5.word;let v6:=v5.badge;let w6:=v5.owes;let x6:=v5.core;let y6:=v5.dom;u5<h0→(((((((((((((((((((True∧w5=w5)∧x5=x5)∧y5=y5)∧z5=z5)∧a6=a6)∧b6=b6)∧c6=c6)∧d6=d6)∧e6=e6)∧g6=g6)∧h6=h6)∧k6=k6)∧l6=l6)∧o6=o6)∧q6=q6)∧u6=u6)∧v6=v6)∧w6=w6)∧x6=x6)∧y6=y6))∧o0∧(∀z6:Nat,let a7:=W.linesN (0+z6);z6<l0→True∧a7=a7∧(∀b7:Nat,let c7:=W.lines (0+z6) (0+b7);b7<a7→True∧c7=c7)))∧u0∧(∀d7:Nat,d7<q0→True∧W.bits (0+d7)=W.bits (0+d7)))∧w0∧(∀e7:Nat,let g7:=W.cores (0+e7);e7<v0→True∧g7=g7))∧y0∧(∀h7:Nat,let k7:=W.readyN (0+h7);h7<x0→True∧k7=k7∧(∀l7:Nat,let o7:=W.ready (0+h7) (0+l7);l7<k7→True∧o7=o7)))∧a1∧(∀q7:Nat,let u7:=0+q7;let v7:=W.tlbsN u7;q7<z0→True∧v7=v7∧(∀w7:Nat,let x7:=W.tlbs u7 (0+w7);let y7:=x7.sp;let z7:=x7.pg;let a8:=x7.fr;let b8:=x7.wr;w7<v7→(((True∧y7=y7)∧z7=z7)∧a8=a8)∧b8=b8)))∧c1∧(∀c8:Nat,c8<b1→True∧W.doms (0+c8)=W.doms (0+c8)))∧d1)∧True)∧e1)∧
    cond g1 (sameW (Wd.mk 0 (fun d8:Nat=>0) 0 (fun e8:Nat=>0) 0 (fun g8:Nat=>Slt.mk 0 0 0 0 0 0 0) 0 (fun h8:Nat=>Run.mk 0 0 0 0 0 0 0 0 0 0 0 (-1) (-1) (-1) (-1) 0 0 (-1) 0 0) 0 (fun k8:Nat=>0) (fun l8:Nat=>fun o8:Nat=>0) 0 (fun q8:Nat=>0) 0 (fun r8:Nat=>0) 0 (fun u8:Nat=>0) (fun v8:Nat=>fun w8:Nat=>0) 0 (fun x8:Nat=>0) (fun y8:Nat=>fun z8:Nat=>Ent4.mk 0 0 0 false) 0 (fun a9:Nat=>0) 0) (Wd.mk a0 (fun b9:Nat=>W.ram (0+b9)) c0 (fun c9:Nat=>W.kinds (0+c9)) e0 (fun d9:Nat=>W.slots (0+d9)) h0 (fun e9:Nat=>W.tasks (0+e9)) l0 (fun g9:Nat=>W.linesN (0+g9)) (fun h9:Nat=>fun k9:Nat=>W.lines (0+h9) (0+k9)) q0 (fun l9:Nat=>W.bits (0+l9)) v0 (fun o9:Nat=>W.cores (0+o9)) x0 (fun q9:Nat=>W.readyN (0+q9)) (fun r9:Nat=>fun u9:Nat=>W.ready (0+r9) (0+u9)) z0 (fun v9:Nat=>W.tlbsN (0+v9)) (fun w9:Nat=>fun x9:Nat=>W.tlbs (0+w9) (0+x9)) b1 (fun y9:Nat=>W.doms (0+y9)) W.time)) false=true∧True)))
set_option maxHeartbeats 1000000 in
theorem ok_did8:FnOK Tryz.prog glE 15 c_did8:=ok_of (.cons ok_is (.cons (ok_err.up glN_glE) (.cons (ok_copyW.up glN_glE) (.cons ok_nothing (.cons (ok_sameWorld.up glN_glE) .nil))))) false Tryz.call15 Tryz.func15 (fun _=> []) (V:=V_did8) (fun _=>by kernel_rfl) fun ⟨W⟩ hp=>by
  dsimp only [s_did8] at hp
  dsimp only [V_did8,tn,w64]
  simp only [std,stb,eq_self,implies_true,Bool.cond_self]
  exact ⟨hp,fun h=>absurd h (by decide),fun _=>⟨fun _=>by decide,fun h=>absurd h (by decide)⟩⟩
end Go.Proofs.YtdjilaofmdhikaaGreatDoor
