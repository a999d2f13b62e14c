/- The program's look at a world: its parts. -/
import Derived.Test.YtdjilaofmdhikaaGreatDoorYM
import Derived.Test.YtdjilaofmdhikaaGreatDoorYK
import Derived.Shelf.Slices.Cells
import Derived.Test.YtdjilaofmdhikaaGreatDoorYL
set_option linter.unusedVariables false
set_option linter.unusedSimpArgs false
set_option linter.unusedVariables false
set_option linter.unusedSimpArgs false
set_option maxRecDepth 100000
namespace Go.Proofs.YtdjilaofmdhikaaGreatDoor
open Go.RowKit Go.Sy
theorem fstE_seq {n:Nat} {p:Nat→Bool} {e:Int} {r:Int×Int} (he:e≠0):((fstE n p e (0,-1)).1=0→fstE n p e r=r)∧((fstE n p e (0,-1)).1≠0→fstE n p e r=fstE n p e (0,-1)):=by
  unfold fstE
  cases Nat.blt (fstB n p) n
  · exact ⟨fun _=>rfl,fun h=>absurd rfl h⟩
  · exact ⟨fun h=>absurd h he,fun _=>rfl⟩
theorem seqE {n:Nat} {p:Nat→Bool} {e:Int} {r:Int×Int} (he:e≠0) (h:(bE n p e !=0)=true):bE n p e=(fstE n p e r).1∧bA n p e=(fstE n p e r).2:=by
  rw [(fstE_seq he).2 (by simpa [bE] using h)];exact ⟨rfl,rfl⟩
theorem seqE0 {n:Nat} {p:Nat→Bool} {e:Int} {r:Int×Int} (he:e≠0) (h:(bE n p e !=0)=false):fstE n p e r=r:=(fstE_seq he).1 (by simpa [bE] using h)
def w1E (W:Wd):Int:=(wm1 W (0,-1)).1
def w1A (W:Wd):Int:=(wm1 W (0,-1)).2
def w2E (W:Wd):Int:=(wm2 W (0,-1)).1
def w2A (W:Wd):Int:=(wm2 W (0,-1)).2
def w3E (W:Wd):Int:=(wm3 W (0,-1)).1
def w3A (W:Wd):Int:=(wm3 W (0,-1)).2
def w4E (W:Wd):Int:=(wm4 W (0,-1)).1
def w4A (W:Wd):Int:=(wm4 W (0,-1)).2
def w5E (W:Wd):Int:=(wm5 W (0,-1)).1
def w5A (W:Wd):Int:=(wm5 W (0,-1)).2
def w6E (W:Wd):Int:=(wm6 W (0,-1)).1
def w6A (W:Wd):Int:=(wm6 W (0,-1)).2
def w7E (W:Wd):Int:=(wm7 W (0,-1)).1
def w7A (W:Wd):Int:=(wm7 W (0,-1)).2
structure X_vWords where
  (W:Wd)
def s_vWords:Sy.Spec:=⟨X_vWords,fun ⟨W⟩=> [wPT W],fun _=> [],fun ⟨W⟩=>Sm W,fun ⟨W⟩=> .er 35 116 (w1E W) (w1A W),fun _=> [],
  fun args mem=>match args with| [a0]=>some ⟨wPTD a0⟩|_=>none⟩
def c_vWords:Con:=⟨[],s_vWords.g,none⟩
def V_vWords:X_vWords→Prop:=fun ⟨W⟩=>let a0:=W.nRam;let b0:=True∧True;let c0:=bE a0 (fun d0:Nat=>farB (W.ram d0) 65535) 1;let e0:=c0 !=0;let g0:=W.nKinds;let h0:=bE g0 (fun k0:Nat=>farB (W.kinds k0) 8||W.kinds k0==1) 3;let l0:=h0 !=0;let o0:=W.nDoms;(((a0=a0∧(∀q0:Nat,q0<a0→True∧W.ram q0=W.ram q0))∧(1:Int)=1∧b0)∧True∧(1:Int)≠0∧a0≤100000)∧(e0=true→(c0=w1E W∧bA a0 (fun r0:Nat=>farB (W.ram r0) 65535) 1=w1A W)∧True)∧(e0=false→(((g0=g0∧(∀u0:Nat,u0<g0→True∧W.kinds u0=W.kinds u0))∧(3:Int)=3∧b0)∧True∧(3:Int)≠0∧g0≤100000)∧(l0=true→(h0=w1E W∧bA g0 (fun v0:Nat=>farB (W.kinds v0) 8||W.kinds v0==1) 3=w1A W)∧True)∧(l0=false→(((o0=o0∧(∀w0:Nat,w0<o0→True∧W.doms w0=W.doms w0))∧(2:Int)=2∧b0)∧True∧(2:Int)≠0∧o0≤100000)∧(bE o0 (fun x0:Nat=>farB (W.doms x0) 3) 2=w1E W∧bA o0 (fun y0:Nat=>farB (W.doms y0) 3) 2=w1A W)∧True))
theorem ok_vWords:FnOK Tryz.prog glN 139 c_vWords:=ok_of (.cons (ok_badW1.or (ok_badW2.or ok_badW3)) .nil) false Tryz.call139 Tryz.func139 (fun _=> []) (V:=V_vWords) (fun _=>by kernel_rfl) fun ⟨W⟩ hp=>by
  dsimp only [s_vWords] at hp
  dsimp only [V_vWords,tn,w64]
  have b1:=hp.ram
  have b2:=hp.kinds
  have b3:=hp.doms
  simp only [std,stb,eq_self,implies_true,Bool.cond_self]
  unfold w1E w1A wm1
  refine ⟨⟨by decide,by omega⟩,fun h=>seqE (by decide) h,fun h=>⟨⟨by decide,by omega⟩,fun h2=>?_,fun h2=>⟨⟨by decide,by omega⟩,?_⟩⟩⟩
  · rw [seqE0 (by decide) h];exact seqE (by decide) h2
  · rw [seqE0 (by decide) h,seqE0 (by decide) h2];exact ⟨rfl,rfl⟩
structure X_vKeys where
  (W:Wd)
def s_vKeys:Sy.Spec:=⟨X_vKeys,fun ⟨W⟩=> [wPT W],fun _=> [],fun ⟨W⟩=>Szd W,fun ⟨W⟩=> .er 35 116 (w2E W) (w2A W),fun _=> [],
  fun args mem=>match args with| [a0]=>some ⟨wPTD a0⟩|_=>none⟩
def c_vKeys:Con:=⟨[],s_vKeys.g,none⟩
def V_vKeys:X_vKeys→Prop:=fun ⟨W⟩=>let a0:=W.nSlots;let b0:=a0=a0∧(∀c0:Nat,let d0:=W.slots c0;let e0:=d0.kind;let g0:=d0.base;let h0:=d0.len;let k0:=d0.mark;let l0:=d0.rights;let o0:=d0.badge;let q0:=d0.from_;c0<a0→((((((True∧e0=e0)∧g0=g0)∧h0=h0)∧k0=k0)∧l0=l0)∧o0=o0)∧q0=q0);let u0:=W.nKinds;let v0:=W.nTasks;let w0:=W.nLines;let x0:=W.nCores;let y0:=W.nReady;True∧((b0∧(8:Int)=8∧tn 2 (((((((((((True∧W.nRam=W.nRam∧(∀z0:Nat,z0<W.nRam→True∧W.ram z0=W.ram z0))∧u0=u0∧(∀a1:Nat,a1<u0→True∧W.kinds a1=W.kinds a1))∧b0)∧v0=v0∧(∀b1:Nat,let c1:=W.tasks b1;let d1:=c1.prio;let e1:=c1.node;let g1:=c1.space;let h1:=c1.helper;let k1:=c1.loc;let l1:=c1.word;let o1:=c1.badge;let q1:=c1.owes;let u1:=c1.core;let v1:=c1.dom;b1<v0→(((((((((((((((((((True∧c1.r0=c1.r0)∧c1.r1=c1.r1)∧c1.r2=c1.r2)∧c1.r3=c1.r3)∧c1.r4=c1.r4)∧c1.r5=c1.r5)∧c1.r6=c1.r6)∧c1.r7=c1.r7)∧c1.pc=c1.pc)∧c1.st=c1.st)∧d1=d1)∧e1=e1)∧g1=g1)∧h1=h1)∧k1=k1)∧l1=l1)∧o1=o1)∧q1=q1)∧u1=u1)∧v1=v1))∧w0=w0∧(∀w1:Nat,let x1:=W.linesN w1;w1<w0→True∧x1=x1∧(∀y1:Nat,y1<x1→True∧W.lines w1 y1=W.lines w1 y1)))∧W.nBits=W.nBits∧(∀z1:Nat,z1<W.nBits→True∧W.bits z1=W.bits z1))∧x0=x0∧(∀a2:Nat,a2<x0→True∧W.cores a2=W.cores a2))∧y0=y0∧(∀b2:Nat,let c2:=W.readyN b2;b2<y0→True∧c2=c2∧(∀d2:Nat,d2<c2→True∧W.ready b2 d2=W.ready b2 d2)))∧W.nTlbs=W.nTlbs∧(∀e2:Nat,let g2:=W.tlbsN e2;e2<W.nTlbs→True∧g2=g2∧(∀h2:Nat,let k2:=W.tlbs e2 h2;let l2:=k2.sp;let o2:=k2.pg;let q2:=k2.fr;let u2:=k2.wr;h2<g2→(((True∧l2=l2)∧o2=o2)∧q2=q2)∧u2=u2)))∧W.nDoms=W.nDoms∧(∀v2:Nat,v2<W.nDoms→True∧W.doms v2=W.doms v2))∧W.time=W.time)∧
    True)∧True∧(8:Int)≠0∧Szd W)∧(bE a0 (fun w2:Nat=>!slB W w2) 8=w2E W∧bA a0 (fun x2:Nat=>!slB W x2) 8=w2A W)∧True
theorem ok_vKeys:FnOK Tryz.prog glN 140 c_vKeys:=ok_of (.cons ok_badK .nil) false Tryz.call140 Tryz.func140 (fun _=> []) (V:=V_vKeys) (fun _=>by kernel_rfl) fun ⟨W⟩ hp=>by
  dsimp only [s_vKeys] at hp
  dsimp only [V_vKeys,tn,w64]
  simp only [std,stb,eq_self,implies_true,Bool.cond_self]
  exact ⟨⟨by decide,hp⟩,rfl,rfl⟩
structure X_vTasks where
  (W:Wd)
def s_vTasks:Sy.Spec:=⟨X_vTasks,fun ⟨W⟩=> [wPT W],fun _=> [],fun ⟨W⟩=>Szd W∧smB W,fun ⟨W⟩=> .er 35 116 (w4E W) (w4A W),fun _=> [],
  fun args mem=>match args with| [a0]=>some ⟨wPTD a0⟩|_=>none⟩
def c_vTasks:Con:=⟨[],s_vTasks.g,none⟩
def V_vTasks:X_vTasks→Prop:=fun ⟨W⟩=>let a0:=W.nTasks;let b0:=a0=a0∧(∀c0:Nat,let d0:=W.tasks c0;let e0:=d0.prio;let g0:=d0.node;let h0:=d0.space;let k0:=d0.helper;let l0:=d0.loc;let o0:=d0.word;let q0:=d0.badge;let u0:=d0.owes;let v0:=d0.core;let w0:=d0.dom;c0<a0→(((((((((((((((((((True∧d0.r0=d0.r0)∧d0.r1=d0.r1)∧d0.r2=d0.r2)∧d0.r3=d0.r3)∧d0.r4=d0.r4)∧d0.r5=d0.r5)∧d0.r6=d0.r6)∧d0.r7=d0.r7)∧d0.pc=d0.pc)∧d0.st=d0.st)∧e0=e0)∧g0=g0)∧h0=h0)∧k0=k0)∧l0=l0)∧o0=o0)∧q0=q0)∧u0=u0)∧v0=v0)∧w0=w0);let x0:=W.nKinds;let y0:=W.nSlots;let z0:=W.nLines;let a1:=W.nCores;let b1:=W.nReady;let c1:=W.nTlbs;True∧((b0∧(8:Int)=8∧tn 2 (((((((((((True∧W.nRam=W.nRam∧(∀d1:Nat,d1<W.nRam→True∧W.ram d1=W.ram d1))∧x0=x0∧(∀e1:Nat,e1<x0→True∧W.kinds e1=W.kinds e1))∧y0=y0∧(∀g1:Nat,let h1:=W.slots g1;let k1:=h1.kind;let l1:=h1.base;let o1:=h1.len;let q1:=h1.mark;let u1:=h1.rights;let v1:=h1.badge;let w1:=h1.from_;g1<y0→((((((True∧k1=k1)∧l1=l1)∧o1=o1)∧q1=q1)∧u1=u1)∧v1=v1)∧w1=w1))∧b0)∧z0=z0∧(∀x1:Nat,let y1:=W.linesN x1;x1<z0→True∧y1=y1∧(∀z1:Nat,z1<y1→True∧W.lines x1 z1=W.lines x1 z1)))∧W.nBits=W.nBits∧(∀a2:Nat,a2<W.nBits→True∧W.bits a2=W.bits a2))∧a1=a1∧(∀b2:Nat,b2<a1→True∧W.cores b2=W.cores b2))∧b1=b1∧(∀c2:Nat,let d2:=W.readyN c2;c2<b1→True∧d2=d2∧(∀e2:Nat,e2<d2→True∧W.ready c2 e2=W.ready c2 e2)))∧c1=c1∧(∀g2:Nat,let h2:=W.tlbsN g2;g2<c1→True∧h2=h2∧(∀k2:Nat,let l2:=W.tlbs g2 k2;let o2:=l2.sp;let q2:=l2.pg;let u2:=l2.fr;let v2:=l2.wr;k2<h2→(((True∧o2=o2)∧q2=q2)∧u2=u2)∧v2=v2)))∧W.nDoms=W.nDoms∧(∀w2:Nat,w2<W.nDoms→True∧W.doms w2=W.doms w2))∧W.time=W.time)∧
    True)∧True∧(8:Int)≠0∧Szd W∧(∀x2:Nat,x2<z0→W.linesN x2≤50)∧(∀y2:Nat,y2<b1→W.readyN y2≤50)∧(∀z2:Nat,z2<c1→W.tlbsN z2≤50))∧(bE a0 (fun a3:Nat=>!tkB W a3) 8=w4E W∧bA a0 (fun b3:Nat=>!tkB W b3) 8=w4A W)∧True
theorem ok_vTasks:FnOK Tryz.prog glN 142 c_vTasks:=ok_of (.cons ok_badT .nil) false Tryz.call142 Tryz.func142 (fun _=> []) (V:=V_vTasks) (fun _=>by kernel_rfl) fun ⟨W⟩ hp=>by
  dsimp only [s_vTasks] at hp
  dsimp only [V_vTasks,tn,w64]
  simp only [std,stb,eq_self,implies_true,Bool.cond_self]
  unfold w4E w4A wm4 bE bA
  rw [hp.1.tasks]
  exact ⟨⟨by decide,hp⟩,rfl,rfl⟩
structure X_vLines where
  (W:Wd)
def s_vLines:Sy.Spec:=⟨X_vLines,fun ⟨W⟩=> [wPT W],fun _=> [],fun ⟨W⟩=>Szd W∧smB W,fun ⟨W⟩=> .er 35 116 (w5E W) (w5A W),fun _=> [],
  fun args mem=>match args with| [a0]=>some ⟨wPTD a0⟩|_=>none⟩
def c_vLines:Con:=⟨[],s_vLines.g,none⟩
def V_vLines:X_vLines→Prop:=fun ⟨W⟩=>let a0:=W.nLines;let b0:=a0=a0∧(∀c0:Nat,let d0:=W.linesN c0;c0<a0→True∧d0=d0∧(∀e0:Nat,e0<d0→True∧W.lines c0 e0=W.lines c0 e0));let g0:=W.nKinds;let h0:=W.nSlots;let k0:=W.nTasks;let l0:=W.nCores;let o0:=W.nReady;let q0:=W.nTlbs;True∧((b0∧(8:Int)=8∧tn 2 (((((((((((True∧W.nRam=W.nRam∧(∀u0:Nat,u0<W.nRam→True∧W.ram u0=W.ram u0))∧g0=g0∧(∀v0:Nat,v0<g0→True∧W.kinds v0=W.kinds v0))∧h0=h0∧(∀w0:Nat,let x0:=W.slots w0;let y0:=x0.kind;let z0:=x0.base;let a1:=x0.len;let b1:=x0.mark;let c1:=x0.rights;let d1:=x0.badge;let e1:=x0.from_;w0<h0→((((((True∧y0=y0)∧z0=z0)∧a1=a1)∧b1=b1)∧c1=c1)∧d1=d1)∧e1=e1))∧k0=k0∧(∀g1:Nat,let h1:=W.tasks g1;let k1:=h1.prio;let l1:=h1.node;let o1:=h1.space;let q1:=h1.helper;let u1:=h1.loc;let v1:=h1.word;let w1:=h1.badge;let x1:=h1.owes;let y1:=h1.core;let z1:=h1.dom;g1<k0→(((((((((((((((((((True∧h1.r0=h1.r0)∧h1.r1=h1.r1)∧h1.r2=h1.r2)∧h1.r3=h1.r3)∧h1.r4=h1.r4)∧h1.r5=h1.r5)∧h1.r6=h1.r6)∧h1.r7=h1.r7)∧h1.pc=h1.pc)∧h1.st=h1.st)∧k1=k1)∧l1=l1)∧o1=o1)∧q1=q1)∧u1=u1)∧v1=v1)∧w1=w1)∧x1=x1)∧y1=y1)∧z1=z1))∧b0)∧W.nBits=W.nBits∧(∀a2:Nat,a2<W.nBits→True∧W.bits a2=W.bits a2))∧l0=l0∧(∀b2:Nat,b2<l0→True∧W.cores b2=W.cores b2))∧o0=o0∧(∀c2:Nat,let d2:=W.readyN c2;c2<o0→True∧d2=d2∧(∀e2:Nat,e2<d2→True∧W.ready c2 e2=W.ready c2 e2)))∧q0=q0∧(∀g2:Nat,let h2:=W.tlbsN g2;g2<q0→True∧h2=h2∧(∀k2:Nat,let l2:=W.tlbs g2 k2;let o2:=l2.sp;let q2:=l2.pg;let u2:=l2.fr;let v2:=l2.wr;k2<h2→(((True∧o2=o2)∧q2=q2)∧u2=u2)∧v2=v2)))∧W.nDoms=W.nDoms∧(∀w2:Nat,w2<W.nDoms→True∧W.doms w2=W.doms w2))∧W.time=W.time)∧
    True)∧True∧(8:Int)≠0∧Szd W∧(∀x2:Nat,x2<a0→W.linesN x2≤50)∧(∀y2:Nat,y2<o0→W.readyN y2≤50)∧(∀z2:Nat,z2<q0→W.tlbsN z2≤50))∧(bE a0 (fun a3:Nat=>!lnB W a3) 8=w5E W∧bA a0 (fun b3:Nat=>!lnB W b3) 8=w5A W)∧True
theorem ok_vLines:FnOK Tryz.prog glN 143 c_vLines:=ok_of (.cons (ok_badL.or ok_badR) .nil) false Tryz.call143 Tryz.func143 (fun _=> []) (V:=V_vLines) (fun _=>by kernel_rfl) fun ⟨W⟩ hp=>by
  dsimp only [s_vLines] at hp
  dsimp only [V_vLines,tn,w64]
  simp only [std,stb,eq_self,implies_true,Bool.cond_self]
  refine ⟨⟨by decide,hp⟩,?_⟩
  unfold w5E w5A wm5 bE bA
  rw [hp.1.lines]
  exact ⟨rfl,rfl⟩
structure X_vTurns where
  (W:Wd)
def s_vTurns:Sy.Spec:=⟨X_vTurns,fun ⟨W⟩=> [wPT W],fun _=> [],fun ⟨W⟩=>Szd W∧smB W,fun ⟨W⟩=> .er 35 116 (w6E W) (w6A W),fun _=> [],
  fun args mem=>match args with| [a0]=>some ⟨wPTD a0⟩|_=>none⟩
def c_vTurns:Con:=⟨[],s_vTurns.g,none⟩
def V_vTurns:X_vTurns→Prop:=fun ⟨W⟩=>let a0:=W.nCores;let b0:=a0=a0∧(∀c0:Nat,c0<a0→True∧W.cores c0=W.cores c0);let d0:=W.nKinds;let e0:=W.nSlots;let g0:=W.nTasks;let h0:=W.nLines;let k0:=W.nReady;let l0:=k0=k0∧(∀o0:Nat,let q0:=W.readyN o0;o0<k0→True∧q0=q0∧(∀u0:Nat,u0<q0→True∧W.ready o0 u0=W.ready o0 u0));let v0:=W.nTlbs;
    let w0:=(8:Int)=8∧tn 4 (((((((((((True∧W.nRam=W.nRam∧(∀x0:Nat,x0<W.nRam→True∧W.ram x0=W.ram x0))∧d0=d0∧(∀y0:Nat,y0<d0→True∧W.kinds y0=W.kinds y0))∧e0=e0∧(∀z0:Nat,let a1:=W.slots z0;let b1:=a1.kind;let c1:=a1.base;let d1:=a1.len;let e1:=a1.mark;let g1:=a1.rights;let h1:=a1.badge;let k1:=a1.from_;z0<e0→((((((True∧b1=b1)∧c1=c1)∧d1=d1)∧e1=e1)∧g1=g1)∧h1=h1)∧k1=k1))∧g0=g0∧(∀l1:Nat,let o1:=W.tasks l1;let q1:=o1.prio;let u1:=o1.node;let v1:=o1.space;let w1:=o1.helper;let x1:=o1.loc;let y1:=o1.word;let z1:=o1.badge;let a2:=o1.owes;let b2:=o1.core;let c2:=o1.dom;l1<g0→(((((((((((((((((((True∧o1.r0=o1.r0)∧o1.r1=o1.r1)∧o1.r2=o1.r2)∧o1.r3=o1.r3)∧o1.r4=o1.r4)∧o1.r5=o1.r5)∧o1.r6=o1.r6)∧o1.r7=o1.r7)∧o1.pc=o1.pc)∧o1.st=o1.st)∧q1=q1)∧u1=u1)∧v1=v1)∧w1=w1)∧x1=x1)∧y1=y1)∧z1=z1)∧a2=a2)∧b2=b2)∧c2=c2))∧h0=h0∧(∀d2:Nat,let e2:=W.linesN d2;d2<h0→True∧e2=e2∧(∀g2:Nat,g2<e2→True∧W.lines d2 g2=W.lines d2 g2)))∧W.nBits=W.nBits∧(∀h2:Nat,h2<W.nBits→True∧W.bits h2=W.bits h2))∧b0)∧l0)∧v0=v0∧(∀k2:Nat,let l2:=W.tlbsN k2;k2<v0→True∧l2=l2∧(∀o2:Nat,let q2:=W.tlbs k2 o2;let u2:=q2.sp;let v2:=q2.pg;let w2:=q2.fr;let x2:=q2.wr;o2<l2→(((True∧u2=u2)∧v2=v2)∧w2=w2)∧x2=x2)))∧W.nDoms=W.nDoms∧(∀y2:Nat,y2<W.nDoms→True∧W.doms y2=W.doms y2))∧W.time=W.time)∧True;let z2:=bE a0 (fun a3:Nat=>!coB W a3) 8;let b3:=z2 !=0;tn 3 (((b0∧w0)∧True∧(8:Int)≠0∧Szd W)∧(b3=true→(z2=w6E W∧bA a0 (fun c3:Nat=>!coB W c3) 8=w6A W)∧True)∧(b3=false→((l0∧w0)∧True∧(8:Int)≠0∧Szd W∧(∀d3:Nat,d3<h0→W.linesN d3≤50)∧(∀e3:Nat,e3<k0→W.readyN e3≤50)∧(∀g3:Nat,
    g3<v0→W.tlbsN g3≤50))∧(bE k0 (fun h3:Nat=>!rlB W h3) 8=w6E W∧bA k0 (fun k3:Nat=>!rlB W k3) 8=w6A W)∧True))
theorem ok_vTurns:FnOK Tryz.prog glN 144 c_vTurns:=ok_of (.cons ok_badC (.cons (ok_badR.or ok_badL) .nil)) false Tryz.call144 Tryz.func144 (fun _=> []) (V:=V_vTurns) (fun _=>by kernel_rfl) fun ⟨W⟩ hp=>by
  dsimp only [s_vTurns] at hp
  dsimp only [V_vTurns,tn,w64]
  simp only [std,stb,eq_self,implies_true,Bool.cond_self]
  unfold w6E w6A wm6
  refine ⟨⟨by decide,hp.1⟩,fun h=>seqE (by decide) h,fun h=>⟨⟨by decide,hp⟩,?_⟩⟩
  rw [seqE0 (by decide) h];exact ⟨rfl,rfl⟩
structure X_vMaps where
  (W:Wd)
def s_vMaps:Sy.Spec:=⟨X_vMaps,fun ⟨W⟩=> [wPT W],fun _=> [],fun ⟨W⟩=>Szd W∧smB W∧ ∀i,i<W.nRam→isW (W.ram i),fun ⟨W⟩=> .er 35 116 (w7E W) (w7A W),fun _=> [],
  fun args mem=>match args with| [a0]=>some ⟨wPTD a0⟩|_=>none⟩
def c_vMaps:Con:=⟨[],s_vMaps.g,none⟩
def V_vMaps:X_vMaps→Prop:=fun ⟨W⟩=>let a0:=W.nRam;let b0:=a0=a0∧(∀c0:Nat,c0<a0→True∧W.ram c0=W.ram c0);let d0:=W.nKinds;let e0:=W.nSlots;let g0:=W.nTasks;let h0:=W.nLines;let k0:=W.nCores;let l0:=W.nReady;let o0:=W.nTlbs;let q0:=o0=o0∧(∀u0:Nat,let v0:=W.tlbsN u0;u0<o0→True∧v0=v0∧(∀w0:Nat,let x0:=W.tlbs u0 w0;let y0:=x0.sp;let z0:=x0.pg;let a1:=x0.fr;let b1:=x0.wr;w0<v0→(((True∧y0=y0)∧z0=z0)∧a1=a1)∧b1=b1));
    let c1:=(9:Int)=9∧tn 2 (((((((((((True∧b0)∧d0=d0∧(∀d1:Nat,d1<d0→True∧W.kinds d1=W.kinds d1))∧e0=e0∧(∀e1:Nat,let g1:=W.slots e1;let h1:=g1.kind;let k1:=g1.base;let l1:=g1.len;let o1:=g1.mark;let q1:=g1.rights;let u1:=g1.badge;let v1:=g1.from_;e1<e0→((((((True∧h1=h1)∧k1=k1)∧l1=l1)∧o1=o1)∧q1=q1)∧u1=u1)∧v1=v1))∧g0=g0∧(∀w1:Nat,let x1:=W.tasks w1;let y1:=x1.prio;let z1:=x1.node;let a2:=x1.space;let b2:=x1.helper;let c2:=x1.loc;let d2:=x1.word;let e2:=x1.badge;let g2:=x1.owes;let h2:=x1.core;let k2:=x1.dom;w1<g0→(((((((((((((((((((True∧x1.r0=x1.r0)∧x1.r1=x1.r1)∧x1.r2=x1.r2)∧x1.r3=x1.r3)∧x1.r4=x1.r4)∧x1.r5=x1.r5)∧x1.r6=x1.r6)∧x1.r7=x1.r7)∧x1.pc=x1.pc)∧x1.st=x1.st)∧y1=y1)∧z1=z1)∧a2=a2)∧b2=b2)∧c2=c2)∧d2=d2)∧e2=e2)∧g2=g2)∧h2=h2)∧k2=k2))∧h0=h0∧(∀l2:Nat,let o2:=W.linesN l2;l2<h0→True∧o2=o2∧(∀q2:Nat,q2<o2→True∧W.lines l2 q2=W.lines l2 q2)))∧W.nBits=W.nBits∧(∀u2:Nat,u2<W.nBits→True∧W.bits u2=W.bits u2))∧k0=k0∧(∀v2:Nat,v2<k0→True∧W.cores v2=W.cores v2))∧l0=l0∧(∀w2:Nat,let x2:=W.readyN w2;w2<l0→True∧x2=x2∧(∀y2:Nat,y2<x2→True∧W.ready w2 y2=W.ready w2 y2)))∧q0)∧W.nDoms=W.nDoms∧(∀z2:Nat,z2<W.nDoms→True∧W.doms z2=W.doms z2))∧W.time=W.time)∧True;let a3:=bE a0 (fun b3:Nat=>!enB W b3) 9;let c3:=a3 !=0;True∧((b0∧c1)∧True∧(9:Int)≠0∧Szd W∧(∀d3:Nat,d3<a0→0≤W.ram d3∧W.ram d3≤65535))∧(c3=true→(a3=w7E W∧bA a0 (fun e3:Nat=>!enB W e3) 9=w7A W)∧True)∧(c3=false→((q0∧c1)∧True∧(9:Int)≠0∧Szd W∧((∀g3:Nat,g3<h0→W.linesN g3≤50)∧(∀h3:Nat,h3<l0→W.readyN h3≤50)∧(∀k3:Nat,k3<o0→W.tlbsN k3≤50))∧(∀l3:Nat,l3<a0→
    0≤W.ram l3∧W.ram l3≤65535))∧(bE o0 (fun o3:Nat=>!tlB W (W.tlbsN o3) (W.tlbs o3)) 9=w7E W∧bA o0 (fun q3:Nat=>!tlB W (W.tlbsN q3) (W.tlbs q3)) 9=w7A W)∧True)
theorem ok_vMaps:FnOK Tryz.prog glN 145 c_vMaps:=ok_of (.cons ok_badM (.cons ok_badE .nil)) false Tryz.call145 Tryz.func145 (fun _=> []) (V:=V_vMaps) (fun _=>by kernel_rfl) fun ⟨W⟩ hp=>by
  dsimp only [s_vMaps] at hp
  dsimp only [V_vMaps,tn,w64]
  simp only [std,stb,eq_self,implies_true,Bool.cond_self]
  refine ⟨⟨by decide,hp.1,hp.2.2⟩,fun h=>?_,fun h=>⟨⟨by decide,hp⟩,?_⟩⟩
  · exact seqE (by decide) h
  · unfold w7E w7A wm7
    rw [seqE0 (by decide) h,←hp.1.tlbs];exact ⟨rfl,rfl⟩
end Go.Proofs.YtdjilaofmdhikaaGreatDoor
set_option linter.unusedVariables false
set_option linter.unusedSimpArgs false
set_option maxRecDepth 100000
namespace Go.Proofs.YtdjilaofmdhikaaGreatDoor
open Go.RowKit Go.Sy
def usedK (W:Wd):Nat→Nat→Bool
  |0,_=>false
  |k+1,f=>bif clayAt (W.slots k) f then decide ((f:Int)<(W.slots k).base+(W.slots k).mark) else usedK W k f
def clayN (W:Wd) (k f:Nat):Nat:=cntB k fun q=>clayAt (W.slots q) f
def keysN (W:Wd) (k f:Nat):Nat:=cntB k fun q=>keyAt (W.slots q) f
def inRg (b:Int) (j:Nat) (f:Nat):Bool:=decide (b≤f)&&decide ((f:Int)<b+j)
theorem inRg0 (b:Int) (f:Nat):inRg b 0 f=false:=by
  unfold inRg
  rcases Int.lt_or_le (f:Int) b with h|h
  · rw [decide_eq_false (show¬b≤(f:Int) by omega)];rfl
  · rw [decide_eq_false (show¬(f:Int)<b+((0:Nat):Int) by omega),Bool.and_false]
theorem inRg_at (b:Int) (j f:Nat) (h:(f:Int)=b+j):inRg b j f=false∧inRg b (j+1) f=true:=by
  unfold inRg
  rw [decide_eq_false (show¬(f:Int)<b+(j:Int) by omega),decide_eq_true (show b≤(f:Int) by omega),decide_eq_true (show (f:Int)<b+((j+1:Nat):Int) by omega)]
  exact ⟨rfl,rfl⟩
theorem inRg_ne (b:Int) (j f:Nat) (h:(f:Int)≠b+j):inRg b (j+1) f=inRg b j f:=by
  unfold inRg
  rw [show decide ((f:Int)<b+((j+1:Nat):Int))=decide ((f:Int)<b+(j:Int)) from decide_eq_decide.2 (by omega)]
theorem cl_none {W:Wd} {f:Nat}: ∀{n:Nat},clayN W n f=0→(anyB n fun i=>freeAt (W.slots i) f)=false
  |0,_=>rfl
  |n+1,h=>by
   have h:clayN W n f+(bif clayAt (W.slots n) f then 1 else 0)=0:=h
   cases hc:clayAt (W.slots n) f with
   |true=>rw [hc] at h;simp at h
   |false=>
    rw [hc] at h
    rw [anyB_succ,cl_none (n:=n) (by simpa using h)]
    unfold freeAt;rw [hc];rfl
theorem cl_one {W:Wd} {f:Nat}: ∀{n:Nat},clayN W n f=1→(anyB n fun i=>freeAt (W.slots i) f)=!usedK W n f
  |0,h=>by cases h
  |n+1,h=>by
   have h:clayN W n f+(bif clayAt (W.slots n) f then 1 else 0)=1:=h
   rw [anyB_succ]
   show _=!(bif clayAt (W.slots n) f then decide ((f:Int)<(W.slots n).base+(W.slots n).mark) else usedK W n f)
   cases hc:clayAt (W.slots n) f with
   |true=>
    rw [hc] at h
    rw [cl_none (n:=n) (by simpa using h)]
    unfold freeAt
    rw [hc]
    simp only [Bool.false_or,Bool.true_and,cond_true]
    rw [←decide_not]
    exact decide_eq_decide.2 (by omega)
   |false=>
    rw [hc] at h
    rw [cl_one (n:=n) (by simpa using h)]
    unfold freeAt;rw [hc]
    simp
theorem fr_not {W:Wd} {f:Nat}:(decide (1<((clayN W W.nSlots f:Nat):Int))||W.kinds f !=0&&(((keysN W W.nSlots f:Nat):Int)==0||((clayN W W.nSlots f:Nat):Int)==1&&!usedK W W.nSlots f))=!frB W f:=by
  rw [castE0,castE1]
  show _=!(decide (clayN W W.nSlots f≤1)&&(W.kinds f==0||(decide (0<keysN W W.nSlots f)&&!anyB W.nSlots fun i=>freeAt (W.slots i) f)))
  rw [show decide (0<keysN W W.nSlots f)=!(keysN W W.nSlots f==0) by
   cases hk:keysN W W.nSlots f==0 with
   |true=>rw [eq_of_beq hk];rfl
   |false=>
    have hk2:keysN W W.nSlots f≠0:=by simpa using hk
    rw [decide_eq_true (Nat.pos_of_ne_zero hk2)];rfl]
  have hc:clayN W W.nSlots f=0∨clayN W W.nSlots f=1∨2≤clayN W W.nSlots f:=by omega
  rcases hc with hc|hc|hc
  · rw [cl_none hc,hc];simp only [bne]
    cases W.kinds f==0<;>cases keysN W W.nSlots f==0<;>rfl
  · rw [cl_one hc,hc];simp only [bne]
    cases W.kinds f==0<;>cases keysN W W.nSlots f==0<;>cases usedK W W.nSlots f<;>rfl
  · rw [decide_eq_true (show (1:Int)<((clayN W W.nSlots f:Nat):Int) by omega),decide_eq_false (show¬clayN W W.nSlots f≤1 by omega)];rfl
def an_fr1 (W:Wd):Ann where
  σ:=Nat
  rt:= [(3,0),(4,0),(5,0)]
  sh i:= [(3,pt0 0),(4,pt0 2),(5,pt0 4),(36,.v (.int .i64 i))]
  mh i:= [(1,.row 1 W.nKinds fun f _=> .v (.int .i64 (clayN W i f:Nat))),(3,.row 1 W.nKinds fun f _=> .v (.bool (usedK W i f))),(5,.row 1 W.nKinds fun f _=> .v (.int .i64 (keysN W i f:Nat)))]
  inv i:=i≤W.nSlots
  μ i:=W.nSlots -i
  init:=0
def an_fr2 (W:Wd) (i:Int):Ann where
  σ:=Nat
  rt:= [(3,0),(4,0),(5,0),(7,0)]
  sh j:= [(3,pt0 0),(4,pt0 2),(5,pt0 4),(7,pt0 6),(59,.v (.int .i64 j))]
  mh j:= [(1,.row 1 W.nKinds fun f _=> .v (.int .i64 ((clayN W i.toNat f:Nat)+(bif inRg (W.slots i.toNat).base j f then 1 else 0)))),(3,.row 1 W.nKinds fun f _=> .v (.bool (bif inRg (W.slots i.toNat).base j f then decide ((f:Int)<(W.slots i.toNat).base+(W.slots i.toNat).mark) else usedK W i.toNat f)))]
  inv j:=(j:Int)≤(W.slots i.toNat).len
  μ j:=(W.slots i.toNat).len.toNat -j
  init:=0
structure X_vFrames where
  (W:Wd)
def s_vFrames:Sy.Spec:=⟨X_vFrames,fun ⟨W⟩=> [wPT W],fun _=> [],fun ⟨W⟩=>Szd W∧ ∀i,i<W.nSlots→slB W i=true,fun ⟨W⟩=> .er 35 116 (w3E W) (w3A W),fun _=> [],
  fun args mem=>match args with| [a0]=>some ⟨wPTD a0⟩|_=>none⟩
def c_vFrames:Con:=⟨[],s_vFrames.g,none⟩
def V_vFrames:X_vFrames→Prop:=fun ⟨W⟩=>let a0:=W.nKinds;let b0:=(a0:Int);let c0:=b0≤9223372036854775807;let d0:=0≤b0;let e0:=b0≤b0;let g0:=d0∧e0∧((8:Nat):Int)*b0≤140737488355328;let h0:=W.nSlots;let k0:=(h0:Int);let l0:=SV.ptr 0 0 none 0 0=SV.ptr 0 0 none 0 0;let o0:=SV.ptr (0+1+1) 0 none 0 0=SV.ptr 2 0 none 0 0;let q0:=0+1+1+1+1;let r0:=SV.ptr q0 0 none 0 0=SV.ptr 4 0 none 0 0;let u0:=Int.toNat b0;let v0:=u0=u0;let w0:=True∧0=0∧v0;let x0:=u0=a0;let y0:=(u0:Int);let z0:=false=false;let a1:=a0=a0;let b1:=SV.ptr (q0+1+1) 0 none 0 0=SV.ptr 6 0 none 0 0;let c1:=a0≤u0;c0→g0∧tn 2 (c0→(d0∧e0∧((1:Nat):Int)*b0≤140737488355328)∧tn 2 (c0→g0∧tn 2 (k0≤9223372036854775807→l0∧o0∧r0∧0=((0:Nat):Int)∧(w0∧(x0∧(∀d1:Nat,d1<a0→True∧0=((clayN W 0 d1:Nat):Int)))∧w0∧(x0∧(∀e1:Nat,e1<a0→True∧false=usedK W 0 e1))∧w0∧(x0∧(∀g1:Nat,g1<a0→True∧0=((keysN W 0 g1:Nat):Int)))∧True)∧0≤h0∧(∀h1:Nat,let k1:=(h1:Int);let l1:=decide (k1<k0);let o1:=Int.toNat k1;let q1:=W.slots o1;let r1:=q1.kind;let u1:=r1 !=1;let v1:=r1 !=0;let w1:=q1.base;let x1:=0≤w1∧w1<y0;let y1:=0+Int.toNat w1;let z1:Int:=((keysN W h1 y1:Nat):Int)+1;let a2:Int:=k1+1;let b2:=w64 a2=a2;let c2:=q1.mark;let d2:Int:=w1+c2;let e2:=q1.len;let g2:=q1.rights;let h2:=q1.badge;let k2:=q1.from_;let l2:=w0∧(a1∧(∀o2:Nat,let q2:=((keysN W h1 o2:Nat):Int);o2<a0→True∧q2=q2))∧(((((((True∧r1=r1)∧w1=w1)∧e2=e2)∧c2=c2)∧g2=g2)∧h2=h2)∧k2=k2)∧True;let r2:=Int.toNat e2;h1≤h0→(l1=true→(0≤k1∧k1<k0)∧True∧tn 6 True∧(u1=true→(v1=true→x1∧w64 z1=z1∧x1∧(∀u2:Nat,z0)∧b2∧(∃v2:Nat,l0∧o0∧r0∧a2=(v2:Int)∧(w0∧(a1∧(∀w2:Nat,
    w2<a0→True∧((clayN W h1 w2:Nat):Int)=((clayN W v2 w2:Nat):Int)))∧w0∧(a1∧(∀x2:Nat,x2<a0→True∧usedK W h1 x2=usedK W v2 x2))∧w0∧(a1∧(∀y2:Nat,y2<a0→True∧cond (Nat.beq y2 y1) z1 ((keysN W h1 y2:Nat):Int)=((keysN W v2 y2:Nat):Int)))∧True)∧v2≤h0∧h0-v2<h0-h1))∧(v1=false→b2∧(∃z2:Nat,l0∧o0∧r0∧a2=(z2:Int)∧(w0∧(a1∧(∀a3:Nat,a3<a0→True∧((clayN W h1 a3:Nat):Int)=((clayN W z2 a3:Nat):Int)))∧w0∧(a1∧(∀b3:Nat,b3<a0→True∧usedK W h1 b3=usedK W z2 b3))∧w0∧(a1∧(∀c3:Nat,c3<a0→True∧((keysN W h1 c3:Nat):Int)=((keysN W z2 c3:Nat):Int)))∧True)∧z2≤h0∧h0-z2<h0-h1)))∧(u1=false→l0∧o0∧r0∧b1∧0=((0:Nat):Int)∧(w0∧(a1∧(∀d3:Nat,d3<a0→True∧((clayN W h1 d3:Nat):Int)=((clayN W o1 d3:Nat):Int)+cond (inRg w1 0 d3) 1 0))∧w0∧(a1∧(∀e3:Nat,e3<a0→True∧usedK W h1 e3=cond (inRg w1 0 e3) (decide ((e3:Int)<d2)) (usedK W o1 e3)))∧l2)∧((0:Nat):Int)≤e2∧(∀g3:Nat,let h3:=(g3:Int);let k3:=decide (h3<e2);let l3:Int:=w1+h3;let o3:=w64 l3=l3;let q3:=0≤l3∧l3<y0;let r3:=0+Int.toNat l3;let u3:Int:=((clayN W o1 r3:Nat):Int)+cond (inRg w1 g3 r3) 1 0+1;let v3:Int:=h3+1;h3≤e2→(k3=true→o3∧q3∧w64 u3=u3∧q3∧(∀w3:Nat,z0)∧o3∧q3∧(∀x3:Nat,z0)∧w64 v3=v3∧(∃y3:Nat,l0∧o0∧r0∧b1∧v3=(y3:Int)∧(w0∧(a1∧(∀z3:Nat,let a4:=((clayN W o1 z3:Nat):Int);z3<a0→True∧cond (Nat.beq z3 r3) u3 (a4+cond (inRg w1 g3 z3) 1 0)=a4+cond (inRg w1 y3 z3) 1 0))∧w0∧(a1∧(∀b4:Nat,let c4:=decide ((b4:Int)<d2);b4<a0→True∧cond (Nat.beq b4 r3) (decide (h3<c2)) (cond (inRg w1 g3 b4) c4 (usedK W o1 b4))=cond (inRg w1 y3 b4) c4 (usedK W o1 b4)))∧l2)∧(y3:Int)≤e2∧r2-y3<r2-g3))∧(k3=false→b2∧
    (∃d4:Nat,l0∧o0∧r0∧a2=(d4:Int)∧(w0∧(a1∧(∀e4:Nat,e4<a0→True∧((clayN W o1 e4:Nat):Int)+cond (inRg w1 g3 e4) 1 0=((clayN W d4 e4:Nat):Int)))∧w0∧(a1∧(∀g4:Nat,g4<a0→True∧cond (inRg w1 g3 g4) (decide ((g4:Int)<d2)) (usedK W o1 g4)=usedK W d4 g4))∧w0∧(a1∧(∀h4:Nat,h4<a0→True∧((keysN W h1 h4:Nat):Int)=((keysN W d4 h4:Nat):Int)))∧True)∧d4≤h0∧h0-d4<h0-h1)))))∧(l1=false→(((a1∧(∀k4:Nat,k4<a0→True∧W.kinds k4=W.kinds k4))∧(8:Int)=8∧((tn 2 (v0∧(∀l4:Nat,let o4:=((clayN W h1 (0+l4):Nat):Int);l4<u0→True∧o4=o4))∧True∧v0∧(∀q4:Nat,let r4:=((keysN W h1 (0+q4):Nat):Int);q4<u0→True∧r4=r4))∧True∧v0∧(∀u4:Nat,let v4:=usedK W h1 (0+u4);u4<u0→True∧v4=v4))∧True)∧True∧(8:Int)≠0∧a0≤100000∧c1∧c1∧c1)∧(bE a0 (fun w4:Nat=>let x4:=((clayN W h1 (0+w4):Nat):Int);decide (1<x4)||W.kinds w4 !=0&&(((keysN W h1 (0+w4):Nat):Int)==0||x4==1&&!usedK W h1 (0+w4))) 8=w3E W∧bA a0 (fun y4:Nat=>let z4:=((clayN W h1 (0+y4):Nat):Int);decide (1<z4)||W.kinds y4 !=0&&(((keysN W h1 (0+y4):Nat):Int)==0||z4==1&&!usedK W h1 (0+y4))) 8=w3A W)∧True)))))
set_option maxHeartbeats 2000000 in
theorem ok_vFrames:FnOK Tryz.prog glN 141 c_vFrames:=ok_of (.cons ok_badF .nil) false Tryz.call141 Tryz.func141 (fun ⟨W⟩=> [.inv (an_fr1 W),.invF false fun fr=>intK (fr 36) (an_fr2 W)]) (V:=V_vFrames) (fun _=>by kernel_rfl) fun ⟨W⟩ hp=>by
  dsimp only [s_vFrames] at hp
  dsimp only [V_vFrames,tn,w64]
  obtain ⟨hz,hs⟩:=hp
  have z1:=hz.slots
  have z2:=hz.k1
  simp only [std,stb,eq_self,implies_true,Bool.cond_self]
  have wr: ∀z:Int,-100000≤z→z≤100000→IntKind.i64.wrap z=z:=fun z h1 h2=>by rw [IntKind.wrap_i64];omega
  refine fun _=>⟨⟨by omega,by omega⟩,fun _=>⟨⟨by omega,by omega⟩,fun _=>⟨⟨by omega,by omega⟩,fun _=>⟨⟨fun _ _=>rfl,fun _ _=>rfl,fun _ _=>rfl⟩,fun s hsn=>⟨fun h=>?_,fun h=>?_⟩⟩⟩⟩⟩
  · have hlt:=lt_of_dec h
    have hb:=hs s hlt
    have hn:=slBs_no hb
    have hr:=slNo_range hn
    have c1: ∀f,clayN W s f≤s:=fun f=>cntB_le _ _
    have c2: ∀f,keysN W s f≤s:=fun f=>cntB_le _ _
    have eC: ∀f,clayN W (s+1) f=clayN W s f+(bif clayAt (W.slots s) f then 1 else 0):=fun f=>rfl
    have eK: ∀f,keysN W (s+1) f=keysN W s f+(bif keyAt (W.slots s) f then 1 else 0):=fun f=>rfl
    have eU: ∀f,usedK W (s+1) f=bif clayAt (W.slots s) f then decide ((f:Int)<(W.slots s).base+(W.slots s).mark) else usedK W s f:=fun f=>rfl
    have hfit:(W.slots s).kind≠0→1≤(W.slots s).len∧(W.slots s).base+(W.slots s).len≤W.nKinds:=fun hk=>by
      refine ⟨slB_len hn hk,?_⟩
      have hb:slBs W s (W.slots s)=true:=hb
      rw [slBs_pos (beq_eq_false_iff_ne.2 hk)] at hb
      simp only [Bool.and_eq_true,decide_eq_true_eq] at hb
      exact hb.1.1.2
    obtain ⟨S,hS⟩: ∃S,S=W.slots s:=⟨_,rfl⟩
    simp only [←hS] at eC eK eU hfit hr⊢
    refine ⟨by omega,fun h1=>?_,fun h1=>?_⟩
    · have k1:(S.kind==1)=false:=notT h1
      have nc: ∀f,clayAt S f=false:=fun f=>by unfold clayAt;rw [k1];rfl
      refine ⟨fun h2=>?_,fun h2=>?_⟩
      · have k0:(S.kind==0)=false:=notT h2
        have hf:=hfit (by simpa using k0)
        have ka: ∀f:Nat,keyAt S f=(S.base==f):=fun f=>by unfold keyAt;simp only [bne];rw [k1,k0];rfl
        refine ⟨by omega,wr _ (by omega) (by have:=c2 S.base.toNat;omega),by omega,wr _ (by omega) (by omega),exS ⟨⟨fun i hi=>?_,fun i hi=>?_,fun i hi=>?_⟩,by omega,by omega⟩⟩
        · rw [eC,nc];rfl
        · rw [eU,nc];rfl
        · rw [eK,ka]
          cases hi2:i.beq S.base.toNat with
          |true=>
           have hi3:=Nat.eq_of_beq_eq_true hi2
           subst hi3
           rw [show (S.base==((S.base.toNat:Nat):Int))=true from beq_iff_eq.2 (by omega)]
           simp
          |false=>
           have hne:i≠S.base.toNat:=fun e=>by subst e;rw [Nat.beq_refl] at hi2;cases hi2
           rw [show (S.base==(i:Int))=false from beq_eq_false_iff_ne.2 (by omega)]
           simp
      · have k0:(S.kind==0)=true:=notF h2
        have ka: ∀f:Nat,keyAt S f=false:=fun f=>by unfold keyAt;simp only [bne];rw [k0,k1];rfl
        refine ⟨wr _ (by omega) (by omega),exS ⟨⟨fun i hi=>?_,fun i hi=>?_,fun i hi=>?_⟩,by omega,by omega⟩⟩
        · rw [eC,nc];rfl
        · rw [eU,nc];rfl
        · rw [eK,ka];rfl
    · have k1:(S.kind==1)=true:=notF h1
      have hf:=hfit (by rw [eq_of_beq k1];decide)
      have ka: ∀f:Nat,keyAt S f=false:=fun f=>by unfold keyAt;simp only [bne];rw [k1];rfl
      refine ⟨⟨fun i hi=>by rw [inRg0];simp,fun i hi=>by rw [inRg0];rfl⟩,by omega,fun j hj=>⟨fun h3=>?_,fun h3=>?_⟩⟩
      · have h4:=of_decide_eq_true h3
        have hc:=c1 (S.base+(j:Int)).toNat
        have e0:inRg S.base j (S.base+(j:Int)).toNat=false:=(inRg_at S.base j _ (by omega)).1
        rw [e0]
        refine ⟨wr _ (by omega) (by omega),by omega,wr _ (by simp;omega) (by simp;omega),by omega,wr _ (by omega) (by omega),by omega,wr _ (by omega) (by omega),exS ⟨⟨fun i hi=>?_,fun i hi=>?_⟩,by omega,by omega⟩⟩
        · cases hi2:i.beq (S.base+(j:Int)).toNat with
          |true=>
           have hi3:=Nat.eq_of_beq_eq_true hi2
           subst hi3
           rw [(inRg_at S.base j (S.base+(j:Int)).toNat (by omega)).2];simp
          |false=>
           have hne:i≠(S.base+(j:Int)).toNat:=fun e=>by subst e;rw [Nat.beq_refl] at hi2;cases hi2
           rw [inRg_ne S.base j i (by omega)];rfl
        · cases hi2:i.beq (S.base+(j:Int)).toNat with
          |true=>
           have hi3:=Nat.eq_of_beq_eq_true hi2
           subst hi3
           rw [(inRg_at S.base j (S.base+(j:Int)).toNat (by omega)).2]
           exact decide_eq_decide.2 (by omega)
          |false=>
           have hne:i≠(S.base+(j:Int)).toNat:=fun e=>by subst e;rw [Nat.beq_refl] at hi2;cases hi2
           rw [inRg_ne S.base j i (by omega)];rfl
      · have h4:=of_decide_eq_false h3
        have ej:(j:Int)=S.len:=by omega
        have ec: ∀f:Nat,inRg S.base j f=clayAt S f:=fun f=>by unfold inRg clayAt;rw [k1,ej];rfl
        refine ⟨wr _ (by omega) (by omega),exS ⟨⟨fun i hi=>?_,fun i hi=>?_,fun i hi=>?_⟩,by omega,by omega⟩⟩
        · rw [eC,ec];cases clayAt S i<;>simp
        · rw [eU,ec]
        · rw [eK,ka];rfl
  · have hge:=ge_of_dec h
    obtain rfl:s=W.nSlots:=by omega
    have e:=fstE_congr (n:=W.nKinds) (e:=8) (r:=(0,-1)) (r':=(0,-1)) (fun f (hf:f<W.nKinds)=>fr_not (W:=W) (f:=f)) (fun _=>rfl)
    refine ⟨⟨by decide,by omega,Nat.le_refl _⟩,?_,?_⟩
    · exact congrArg (·.1) e
    · exact congrArg (·.2) e
end Go.Proofs.YtdjilaofmdhikaaGreatDoor
set_option linter.unusedVariables false
set_option linter.unusedSimpArgs false
set_option maxRecDepth 100000
namespace Go.Proofs.YtdjilaofmdhikaaGreatDoor
open Go.RowKit Go.Sy
def Seq (f:Int×Int→Int×Int):Prop:= ∀r,((f (0,-1)).1=0→f r=r)∧((f (0,-1)).1≠0→f r=f (0,-1))
theorem Seq.fst {n:Nat} {p:Nat→Bool} {e:Int} (he:e≠0):Seq (fstE n p e):=fun r=>fstE_seq he
theorem Seq.comp {f g:Int×Int→Int×Int} (hf:Seq f) (hg:Seq g):Seq fun r=>f (g r):=by
  intro r
  show ((f (g (0,-1))).1=0→f (g r)=r)∧((f (g (0,-1))).1≠0→f (g r)=f (g (0,-1)))
  rcases Decidable.em ((f (0,-1)).1=0) with h|h
  · rw [(hf (g r)).1 h,(hf (g (0,-1))).1 h];exact hg r
  · rw [(hf (g r)).2 h,(hf (g (0,-1))).2 h];exact ⟨fun h2=>absurd h2 h,fun _=>rfl⟩
theorem seq1 (W:Wd):Seq (wm1 W):=(Seq.fst (by decide)).comp ((Seq.fst (by decide)).comp (Seq.fst (by decide)))
theorem seq2 (W:Wd):Seq (wm2 W):=Seq.fst (by decide)
theorem seq3 (W:Wd):Seq (wm3 W):=Seq.fst (by decide)
theorem seq4 (W:Wd):Seq (wm4 W):=Seq.fst (by decide)
theorem seq5 (W:Wd):Seq (wm5 W):=Seq.fst (by decide)
theorem seq6 (W:Wd):Seq (wm6 W):=(Seq.fst (by decide)).comp (Seq.fst (by decide))
theorem seq7 (W:Wd):Seq (wm7 W):=(Seq.fst (by decide)).comp (Seq.fst (by decide))
theorem seqW {W:Wd} {f:Int×Int→Int×Int} (hf:Seq f) {r:Int×Int} (hx:wm W=f r):(((f (0,-1)).1 !=0)=true→(f (0,-1)).1=wE W∧(f (0,-1)).2=wA W)∧(((f (0,-1)).1 !=0)=false→wm W=r):=by
  refine ⟨fun h=>?_,fun h=>?_⟩
  · unfold wE wA;rw [hx,(hf r).2 (by simpa using h)];exact ⟨rfl,rfl⟩
  · rw [hx,(hf r).1 (by simpa using h)]
theorem ram_of {W:Wd} (h:(w1E W !=0)=false): ∀i,i<W.nRam→isW (W.ram i):=fun i hi=>by
  have h1:(wm1 W (0,-1)).1=0:=by simpa [w1E] using h
  have:=(fstE_zero (by decide) h1).1 i hi
  simp [farB] at this
  exact ⟨by omega,by omega⟩
theorem slots_of {W:Wd} (h:(w2E W !=0)=false): ∀i,i<W.nSlots→slB W i=true:=fun i hi=>by
  have h1:(wm2 W (0,-1)).1=0:=by simpa [w2E] using h
  have:=(fstE_zero (by decide) h1).1 i hi
  exact notF this
structure X_wCheck where
  (W:Wd)
def s_wCheck:Sy.Spec:=⟨X_wCheck,fun ⟨W⟩=> [wSV W],fun _=> [],fun ⟨W⟩=>Sm W,fun ⟨W⟩=> .er 35 116 (wE W) (wA W),fun _=> [],
  fun args mem=>match args with| [a0]=>some ⟨wSVD a0⟩|_=>none⟩
def c_wCheck:Con:=⟨[],s_wCheck.g,none⟩
def V_wCheck:X_wCheck→Prop:=fun ⟨W⟩=>let a0:=W.nKinds;let b0:=(a0:Int);let c0:=W.nCores;let d0:=(c0:Int);let e0:=cond (cond (cond (decide (b0<1)) true (decide (24<b0))) true (decide (d0<1))) true (decide (4<d0));let g0:Int:=b0*16;let h0:=w64 g0=g0;let k0:=W.nRam;let l0:=cond e0 true ((k0:Int) !=g0);let o0:=W.nSlots;let q0:=W.nTasks;let u0:=W.nLines;let v0:=W.nBits;let w0:=cond (cond (cond (cond l0 true ((o0:Int) !=g0)) true ((q0:Int) !=b0)) true ((u0:Int) !=b0)) true ((v0:Int) !=b0);let x0:Int:=d0*4;let y0:=W.nReady;let z0:=W.nTlbs;let a1:=W.nDoms;let b1:=cond (cond (cond (cond w0 true ((y0:Int) !=x0)) true ((z0:Int) !=d0)) true (decide ((a1:Int)<1))) true (decide (8<(a1:Int)));let c1:=W.time=W.time;let d1:=cond b1 true (farB W.time 1000000);let e1:=wE W;let g1:=wA W;let h1:=((7:Nat):Int);
    let k1:=(((((((((((True∧k0=k0∧(∀l1:Nat,l1<k0→True∧W.ram l1=W.ram l1))∧a0=a0∧(∀o1:Nat,o1<a0→True∧W.kinds o1=W.kinds o1))∧o0=o0∧(∀q1:Nat,let u1:=W.slots q1;let v1:=u1.kind;let w1:=u1.base;let x1:=u1.len;let y1:=u1.mark;let z1:=u1.rights;let a2:=u1.badge;let b2:=u1.from_;q1<o0→((((((True∧v1=v1)∧w1=w1)∧x1=x1)∧y1=y1)∧z1=z1)∧a2=a2)∧b2=b2))∧q0=q0∧(∀c2:Nat,let d2:=W.tasks c2;let e2:=d2.prio;let g2:=d2.node;let h2:=d2.space;let k2:=d2.helper;let l2:=d2.loc;let o2:=d2.word;let q2:=d2.badge;let u2:=d2.owes;let v2:=d2.core;let w2:=d2.dom;c2<q0→(((((((((((((((((((True∧d2.r0=d2.r0)∧d2.r1=d2.r1)∧d2.r2=d2.r2)∧d2.r3=d2.r3)∧d2.r4=d2.r4)∧d2.r5=d2.r5)∧d2.r6=d2.r6)∧d2.r7=d2.r7)∧d2.pc=d2.pc)∧d2.st=d2.st)∧e2=e2)∧g2=g2)∧h2=h2)∧k2=k2)∧l2=l2)∧o2=o2)∧q2=q2)∧u2=u2)∧v2=v2)∧w2=w2))∧u0=u0∧(∀x2:Nat,let y2:=W.linesN x2;x2<u0→True∧y2=y2∧(∀z2:Nat,z2<y2→True∧W.lines x2 z2=W.lines x2 z2)))∧v0=v0∧(∀a3:Nat,a3<v0→True∧W.bits a3=W.bits a3))∧c0=c0∧(∀b3:Nat,b3<c0→True∧W.cores b3=W.cores b3))∧y0=y0∧(∀c3:Nat,let d3:=W.readyN c3;c3<y0→True∧d3=d3∧(∀e3:Nat,e3<d3→True∧W.ready c3 e3=W.ready c3 e3)))∧z0=z0∧(∀g3:Nat,let h3:=W.tlbsN g3;g3<z0→True∧h3=h3∧(∀k3:Nat,let l3:=W.tlbs g3 k3;let o3:=l3.sp;let q3:=l3.pg;let u3:=l3.fr;let v3:=l3.wr;k3<h3→(((True∧o3=o3)∧q3=q3)∧u3=u3)∧v3=v3)))∧a1=a1∧(∀w3:Nat,w3<a1→True∧W.doms w3=W.doms w3))∧c1)∧True;let x3:Int:=0+1;let y3:Int:=x3+1;let z3:Int:=y3+1;let a4:=(∀b4:Nat,b4<u0→W.linesN b4≤50)∧(∀c4:Nat,c4<y0→W.readyN c4≤50)∧(∀d4:Nat,d4<z0→W.tlbsN d4≤50);let e4:=k1∧True∧Szd W∧a4;
    let g4:Int:=z3+1;let h4:Int:=g4+1;let k4:Int:=h4+1;let l4:Int:=k4+1;tn 8 ((e0=false→h0)∧(l0=false→h0)∧(w0=false→w64 x0=x0)∧(b1=false→(c1∧(1000000:Int)=1000000∧True)∧True∧True)∧(d1=true→((2:Int)≠0∧e1=2∧g1=(-1))∧True)∧(d1=false→tn 2 (h1≤9223372036854775807→((0:Int)≤0∧0<h1)∧(k1∧True∧s_vWords.match_1 (fun o4:X_vWords=>Prop) (X_vWords.mk W) (fun q4:Wd=>Sm q4))∧((w1E W !=0)=true→(w1E W=e1∧w1A W=g1)∧True)∧((w1E W !=0)=false→w64 x3=x3∧(0≤x3∧x3<h1)∧(k1∧True∧s_vKeys.match_1 (fun u4:X_vKeys=>Prop) (X_vKeys.mk W) (fun v4:Wd=>Szd v4))∧((w2E W !=0)=true→(w2E W=e1∧w2A W=g1)∧True)∧((w2E W !=0)=false→w64 y3=y3∧(0≤y3∧y3<h1)∧(k1∧True∧Szd W∧(∀w4:Nat,w4<o0→slB W w4=true))∧((w3E W !=0)=true→(w3E W=e1∧w3A W=g1)∧True)∧((w3E W !=0)=false→w64 z3=z3∧(0≤z3∧z3<h1)∧e4∧((w4E W !=0)=true→(w4E W=e1∧w4A W=g1)∧True)∧((w4E W !=0)=false→w64 g4=g4∧(0≤g4∧g4<h1)∧e4∧((w5E W !=0)=true→(w5E W=e1∧w5A W=g1)∧True)∧((w5E W !=0)=false→w64 h4=h4∧(0≤h4∧h4<h1)∧e4∧((w6E W !=0)=true→(w6E W=e1∧w6A W=g1)∧True)∧((w6E W !=0)=false→w64 k4=k4∧(0≤k4∧k4<h1)∧(k1∧True∧Szd W∧a4∧(∀x4:Nat,x4<k0→0≤W.ram x4∧W.ram x4≤65535))∧((w7E W !=0)=true→(w7E W=e1∧w7A W=g1)∧True)∧((w7E W !=0)=false→w64 l4=l4∧(e1=0∧g1=(-1))∧True))))))))))
set_option maxHeartbeats 2000000 in
theorem ok_wCheck:FnOK Tryz.prog glN 87 c_wCheck:=ok_of (.cons ok_wOut (.cons ok_vWords (.cons ok_vKeys (.cons ok_vFrames (.cons ok_vTasks (.cons ok_vLines (.cons ok_vTurns (.cons ok_vMaps .nil)))))))) false Tryz.call87 Tryz.func87 (fun _=> [.dec,.unroll 8]) (V:=V_wCheck) (fun _=>by kernel_rfl) fun ⟨W⟩ hp=>by
  dsimp only [s_wCheck] at hp
  dsimp only [V_wCheck,tn,w64]
  simp only [std,stb,eq_self,implies_true,Bool.cond_self]
  have wr: ∀z:Int,-100000≤z→z≤100000→IntKind.i64.wrap z=z:=fun z h1 h2=>by rw [IntKind.wrap_i64];omega
  have b2:=hp.kinds
  have b4:=hp.cores
  rw [szBad_int]
  refine ⟨fun _=>wr _ (by omega) (by omega),fun _=>wr _ (by omega) (by omega),fun _=>wr _ (by omega) (by omega),fun h=>?_,fun h _=>⟨⟨by decide,by decide⟩,hp,?_⟩⟩
  · have:wm W=(2,-1):=by unfold wm;rw [h];rfl
    unfold wE wA;rw [this];exact ⟨by decide,rfl,rfl⟩
  have hz:=szd_of h
  have X1:wm W=(wm1 W (wm2 W (wm3 W (wm4 W (wm5 W (wm6 W (wm7 W (0,-1)))))))):=by unfold wm;rw [h];rfl
  refine ⟨(seqW (seq1 W) X1).1,fun g1=>⟨wr _ (by decide) (by decide),⟨by decide,by decide⟩,hz,?_⟩⟩
  have X2:=(seqW (seq1 W) X1).2 g1
  refine ⟨(seqW (seq2 W) X2).1,fun g2=>⟨wr _ (by decide) (by decide),⟨by decide,by decide⟩,⟨hz,slots_of g2⟩,?_⟩⟩
  have X3:=(seqW (seq2 W) X2).2 g2
  refine ⟨(seqW (seq3 W) X3).1,fun g3=>⟨wr _ (by decide) (by decide),⟨by decide,by decide⟩,⟨hz,hp.sm⟩,?_⟩⟩
  have X4:=(seqW (seq3 W) X3).2 g3
  refine ⟨(seqW (seq4 W) X4).1,fun g4=>⟨wr _ (by decide) (by decide),⟨by decide,by decide⟩,⟨hz,hp.sm⟩,?_⟩⟩
  have X5:=(seqW (seq4 W) X4).2 g4
  refine ⟨(seqW (seq5 W) X5).1,fun g5=>⟨wr _ (by decide) (by decide),⟨by decide,by decide⟩,⟨hz,hp.sm⟩,?_⟩⟩
  have X6:=(seqW (seq5 W) X5).2 g5
  refine ⟨(seqW (seq6 W) X6).1,fun g6=>⟨wr _ (by decide) (by decide),⟨by decide,by decide⟩,⟨hz,hp.sm,ram_of g1⟩,?_⟩⟩
  have X7:=(seqW (seq6 W) X6).2 g6
  refine ⟨(seqW (seq7 W) X7).1,fun g7=>⟨wr _ (by decide) (by decide),?_⟩⟩
  have X8:=(seqW (seq7 W) X7).2 g7
  unfold wE wA;rw [X8];exact ⟨rfl,rfl⟩
end Go.Proofs.YtdjilaofmdhikaaGreatDoor
set_option linter.unusedVariables false
set_option linter.unusedSimpArgs false
set_option maxRecDepth 100000
namespace Go.Proofs.YtdjilaofmdhikaaGreatDoor
open Go.RowKit Go.Sy
def zSl:Slt:=⟨0,0,0,0,0,0,0⟩
end Go.Proofs.YtdjilaofmdhikaaGreatDoor
set_option linter.unusedVariables false
set_option linter.unusedSimpArgs false
set_option maxRecDepth 100000
namespace Go.Proofs.YtdjilaofmdhikaaGreatDoor
open Go.RowKit Go.Sy
def updF {α:Type} (f:Nat→α) (i:Nat) (v:α) (j:Nat):α:=bif Nat.beq j i then v else f j
theorem updF_at {α:Type} {f:Nat→α} {i:Nat} {v:α}:updF f i v i=v:=by unfold updF;rw [Nat.beq_refl];rfl
theorem updF_ne {α:Type} {f:Nat→α} {i j:Nat} {v:α} (h:j≠i):updF f i v j=f j:=by unfold updF;rw [beq_ne h];rfl
theorem runEq_eq {a b:Run} (h:runEq a b=true):a=b:=by
  unfold runEq at h
  simp only [Bool.and_eq_true,beq_iff_eq,and_true] at h
  cases a;cases b
  simp only at h
  obtain ⟨⟨h1,h2,h3,h4,h5,h6,h7,h8⟩,h9,h10,h11,h12,h13,h14,h15,h16,h17,h18,h19,h20⟩:=h
  subst h1 h2 h3 h4 h5 h6 h7 h8 h9 h10 h11 h12 h13 h14 h15 h16 h17 h18 h19 h20
  rfl
structure Snd (W:Wd):Prop where
  z:Szd W
  ram: ∀i,i<W.nRam→farB (W.ram i) 65535=false
  kd: ∀i,i<W.nKinds→(farB (W.kinds i) 8||W.kinds i==1)=false
  dm: ∀i,i<W.nDoms→farB (W.doms i) 3=false
  sl: ∀i,i<W.nSlots→slB W i=true
  fr: ∀i,i<W.nKinds→frB W i=true
  tk: ∀i,i<W.nKinds→tkB W i=true
  ln: ∀i,i<W.nKinds→lnB W i=true
  co: ∀i,i<W.nCores→coB W i=true
  rl: ∀i,i<W.nReady→rlB W i=true
  en: ∀i,i<W.nRam→enB W i=true
  tl: ∀i,i<W.nCores→tlB W (W.tlbsN i) (W.tlbs i)=true
theorem szBad_of {W:Wd} (h:Szd W):szBad W=false:=by
  obtain ⟨h1,h2,h3,h4,h5,h6,h7,h8,h9,h10,h11,h12,h13,h14,h15⟩:=h
  unfold szBad farB
  simp only [Bool.or_eq_false_iff,decide_eq_false_iff_not,bne_eq_false_iff_eq]
  refine ⟨⟨⟨⟨⟨⟨⟨⟨⟨⟨⟨⟨⟨?_,?_⟩,?_⟩,?_⟩,h5⟩,h6⟩,h7⟩,h8⟩,h9⟩,h10⟩,h11⟩,?_⟩,?_⟩,?_,?_⟩<;>omega
theorem notN {b:Bool} (h:b=true):(!b)=false:=by rw [h];rfl
theorem Snd.iff {W:Wd}:wE W=0↔Snd W:=by
  constructor
  · intro h
    unfold wE wm at h
    cases hs:szBad W with
    |true=>rw [hs] at h;exact absurd (show (2:Int)=0 from h) (by decide)
    |false=>
     rw [hs] at h
     have h:(wm1 W (wm2 W (wm3 W (wm4 W (wm5 W (wm6 W (wm7 W (0,-1)))))))).1=0:=h
     have a1:=fstE_zero (by decide) h
     have a2:=fstE_zero (by decide) a1.2
     have a3:=fstE_zero (by decide) a2.2
     have a4:=fstE_zero (by decide) a3.2
     have a5:=fstE_zero (by decide) a4.2
     have a6:=fstE_zero (by decide) a5.2
     have a7:=fstE_zero (by decide) a6.2
     have a8:=fstE_zero (by decide) a7.2
     have a9:=fstE_zero (by decide) a8.2
     have a10:=fstE_zero (by decide) a9.2
     have a11:=fstE_zero (by decide) a10.2
     exact ⟨szd_of hs,a1.1,a2.1,a3.1,fun i hi=>notF (a4.1 i hi),fun i hi=>notF (a5.1 i hi),fun i hi=>notF (a6.1 i hi),fun i hi=>notF (a7.1 i hi),fun i hi=>notF (a8.1 i hi),fun i hi=>notF (a9.1 i hi),fun i hi=>notF (a10.1 i hi),fun i hi=>notF (a11.1 i hi)⟩
  · intro h
    obtain ⟨z,ram,kd,dm,sl,fr,tk,ln,co,rl,en,tl⟩:=h
    unfold wE wm wm1 wm2 wm3 wm4 wm5 wm6 wm7
    rw [szBad_of z]
    rw [fstE_none ram,fstE_none kd,fstE_none dm,fstE_none fun i hi=>notN (sl i hi),fstE_none fun i hi=>notN (fr i hi),fstE_none fun i hi=>notN (tk i hi),fstE_none fun i hi=>notN (ln i hi),fstE_none fun i hi=>notN (co i hi),fstE_none fun i hi=>notN (rl i hi),fstE_none fun i hi=>notN (en i hi),fstE_none fun i hi=>notN (tl i hi)]
    rfl
structure TkR (W:Wd) (t:Run):Prop where
  reg:regFar t=false
  pc:0≤t.pc∧t.pc≤65535
  word:0≤t.word∧t.word≤65535
  badge:0≤t.badge∧t.badge≤65535
  st:0≤t.st∧t.st≤6
  prio:0≤t.prio∧t.prio≤3
  core:0≤t.core∧t.core<W.nCores
  dom:0≤t.dom∧t.dom≤3
  node: -1≤t.node∧t.node<W.nKinds
  space: -1≤t.space∧t.space<W.nKinds
  helper: -1≤t.helper∧t.helper<W.nKinds
  loc: -1≤t.loc∧t.loc<W.nKinds
  owes: -1≤t.owes∧t.owes<W.nKinds
structure Inv (L:Nat) (W:Wd):Prop where
  z:Szd W
  ram: ∀i,i<W.nRam→isW (W.ram i)
  kd: ∀i,i<W.nKinds→0≤W.kinds i∧W.kinds i≤8
  dm: ∀i,i<W.nDoms→0≤W.doms i∧W.doms i≤3
  sl: ∀i,i<W.nSlots→slNo (W.slots i)=0∧((W.slots i).kind≠0→(W.slots i).base+(W.slots i).len≤W.nKinds)∧ -1≤(W.slots i).from_∧(W.slots i).from_<W.nSlots
  tk: ∀i,i<W.nTasks→TkR W (W.tasks i)
  ln: ∀i,i<W.nLines→W.linesN i≤L∧ ∀k,k<W.linesN i→0≤W.lines i k∧W.lines i k<W.nTasks
  rd: ∀i,i<W.nReady→W.readyN i≤L∧ ∀k,k<W.readyN i→0≤W.ready i k∧W.ready i k<W.nTasks
  co: ∀c,c<W.nCores→ -1≤W.cores c∧W.cores c<W.nTasks
  bt: ∀i,i<W.nBits→0≤W.bits i∧W.bits i≤65535
  tl: ∀c,c<W.nTlbs→W.tlbsN c≤L
theorem farB_in {v m:Int} (h:farB v m=false):0≤v∧v≤m:=by
  unfold farB at h
  simp only [Bool.or_eq_false_iff,decide_eq_false_iff_not] at h
  omega
theorem okF_rng {W:Wd} {f k:Int} (hk:k≠ -1) (h:okF W f k=true): -1≤f∧f<W.nKinds:=by
  unfold okF at h
  simp only [Bool.or_eq_true,beq_iff_eq] at h
  rcases h with h|h
  · omega
  · have:=kof_in (W:=W) (f:=f) (by rw [h];exact hk);omega
theorem stOK_loc {W:Wd} {f:Nat} (h:stOK W f=true):(W.tasks f).loc= -1∨kof W (W.tasks f).loc=7∨kof W (W.tasks f).loc=8:=by
  unfold stOK standOK at h
  dsimp only at h
  generalize ((W.tasks f).st==2||(W.tasks f).st==3||(W.tasks f).st==4)=a at h
  generalize ((W.tasks f).st==6)=b at h
  generalize ((W.tasks f).st==1)=c at h
  cases a<;>cases b<;>cases c<;>simp only [cond_true,cond_false,Bool.and_eq_true,beq_iff_eq] at h<;>first|exact .inl h.2|exact .inr (.inl h.1.2)|exact .inr (.inr h.1.2)
theorem rdB_in {W:Wd} {t c p:Int} (h:rdB W t c p=true):(0≤t∧t<W.nKinds)∧kof W t=6∧(W.tasks t.toNat).st=1∧(W.tasks t.toNat).core=c∧(0≤p→(W.tasks t.toNat).prio=p):=by
  unfold rdB at h
  simp only [Bool.and_eq_true,Bool.or_eq_true,beq_iff_eq,decide_eq_true_eq] at h
  obtain ⟨⟨⟨h1,h2⟩,h3⟩,h4⟩:=h
  exact ⟨kof_in (by rw [h1];decide),h1,h2,h3,fun hp=>h4.resolve_left (by omega)⟩
theorem inv_of {W:Wd} (h:Snd W) (hs:Sm W):Inv 50 W:=by
  obtain ⟨z,ram,kd,dm,sl,fr,tk,ln,co,rl,en,tl⟩:=h
  have zt:=z.tasks
  refine ⟨z,fun i hi=>farB_in (ram i hi),fun i hi=>farB_in (Bool.or_eq_false_iff.1 (kd i hi)).1,fun i hi=>farB_in (dm i hi),fun i hi=>?_,fun i hi=>?_,fun i hi=>⟨hs.sm.1 i hi,fun k hk=>?_⟩,fun i hi=>⟨hs.sm.2.1 i hi,fun k hk=>?_⟩,fun c hc=>?_,fun i hi=>?_,fun c hc=>hs.sm.2.2 c hc⟩
  · have h:=sl i hi
    have hn:=slBs_no h
    have hr:=slNo_range hn
    unfold slB slBs at h
    cases hk:(W.slots i).kind==0 with
    |true=>
     rw [hk] at h
     simp only [cond_true,Bool.and_eq_true,beq_iff_eq] at h
     refine ⟨hn,fun h0=>absurd (eq_of_beq hk) h0,?_,?_⟩<;>omega
    |false=>
     rw [hk] at h
     simp only [cond_false,Bool.and_eq_true,Bool.or_eq_true,beq_iff_eq,decide_eq_true_eq] at h
     refine ⟨hn,fun _=>h.1.1.2,?_⟩
     rcases h.2 with h2|h2
     · omega
     · have:=inS_iff.1 h2.1.1;omega
  · have h:=tk i (by omega)
    unfold tkB at h
    cases hk:W.kinds i !=6 with
    |true=>
     have h:runEq (W.tasks i) Run.blank=true:=by simpa [hk] using h
     rw [runEq_eq h]
     have:=z.c0
     have:=z.k0
     refine ⟨by decide,by decide,by decide,by decide,by decide,by decide,?_,by decide,?_,?_,?_,?_,?_⟩<;>simp only [Run.blank]<;>omega
    |false=>
     simp only [hk,cond_false,Bool.and_eq_true,Bool.not_eq_true'] at h
     obtain ⟨⟨⟨⟨⟨h1,h2⟩,h3⟩,h4⟩,h5⟩,h6⟩:=h
     unfold numFar at h2
     simp only [Bool.or_eq_false_iff] at h2
     obtain ⟨⟨⟨⟨⟨⟨g1,g2⟩,g3⟩,g4⟩,g5⟩,g6⟩,g7⟩:=h2
     unfold refOK at h3
     simp only [Bool.and_eq_true] at h3
     obtain ⟨⟨⟨r1,r2⟩,r3⟩,r4⟩:=h3
     have g6:=farB_in g6
     refine ⟨h1,farB_in g1,farB_in g2,farB_in g3,farB_in g4,farB_in g5,⟨g6.1,by omega⟩,farB_in g7,okF_rng (by decide) r1,okF_rng (by decide) r2,okF_rng (by decide) r3,?_,okF_rng (by decide) r4⟩
     rcases stOK_loc h6 with h|h|h
     · have:=z.k0;omega
     · have:=kof_in (W:=W) (f:=(W.tasks i).loc) (by rw [h];decide);omega
     · have:=kof_in (W:=W) (f:=(W.tasks i).loc) (by rw [h];decide);omega
  · have h:=ln i (by have:=z.lines;omega)
    unfold lnB at h
    simp only [Bool.and_eq_true] at h
    have h:=allB_iff.1 h.2 k hk
    unfold lnTest at h
    simp only [Bool.and_eq_true,beq_iff_eq] at h
    have:=kof_in (W:=W) (f:=W.lines i k) (by rw [h.1.1];decide)
    omega
  · have h:=allB_iff.1 (rl i hi) k hk
    have:=(rdB_in h).1
    omega
  · have h:=co c hc
    unfold coB at h
    simp only [Bool.or_eq_true,beq_iff_eq] at h
    rcases h with h|h
    · have:=z.k0;omega
    · have:=(rdB_in h).1;omega
  · have h:=ln i (by have:=z.bits;omega)
    unfold lnB at h
    simp only [Bool.and_eq_true,Bool.not_eq_true'] at h
    exact farB_in h.1.2
end Go.Proofs.YtdjilaofmdhikaaGreatDoor
set_option linter.unusedVariables false
set_option linter.unusedSimpArgs false
set_option maxRecDepth 100000
namespace Go.Proofs.YtdjilaofmdhikaaGreatDoor
open Go.RowKit Go.Sy
def rkZ (t:Run):Int:=t.core*4+t.prio
def rkOf (t:Run):Nat:=(rkZ t).toNat
theorem run20 {x y:Run} (h:x=y):((((((((((((((((((((x.r0=y.r0∧x.r1=y.r1)∧x.r2=y.r2)∧x.r3=y.r3)∧x.r4=y.r4)∧x.r5=y.r5)∧x.r6=y.r6)∧x.r7=y.r7)∧x.pc=y.pc)∧x.st=y.st)∧x.prio=y.prio)∧x.node=y.node)∧x.space=y.space)∧x.helper=y.helper)∧x.loc=y.loc)∧x.word=y.word)∧x.badge=y.badge)∧x.owes=y.owes)∧x.core=y.core)∧x.dom=y.dom)):=by
  subst h;exact ⟨⟨⟨⟨⟨⟨⟨⟨⟨⟨⟨⟨⟨⟨⟨⟨⟨⟨⟨rfl,rfl⟩,rfl⟩,rfl⟩,rfl⟩,rfl⟩,rfl⟩,rfl⟩,rfl⟩,rfl⟩,rfl⟩,rfl⟩,rfl⟩,rfl⟩,rfl⟩,rfl⟩,rfl⟩,rfl⟩,rfl⟩,rfl⟩
structure WkP (W:Wd) (t:Int):Prop where
  t0:0≤t
  t1:t<W.nTasks
  r0:0≤rkZ (W.tasks t.toNat)
  r1:rkZ (W.tasks t.toNat)<W.nReady
  c0:0≤(W.tasks t.toNat).core
  c1:(W.tasks t.toNat).core≤100
  p0:0≤(W.tasks t.toNat).prio
  p1:(W.tasks t.toNat).prio≤100
  n:W.readyN (rkOf (W.tasks t.toNat))≤100000
end Go.Proofs.YtdjilaofmdhikaaGreatDoor
set_option linter.unusedVariables false
set_option linter.unusedSimpArgs false
set_option maxRecDepth 100000
namespace Go.Proofs.YtdjilaofmdhikaaGreatDoor
open Go.RowKit Go.Sy
end Go.Proofs.YtdjilaofmdhikaaGreatDoor
set_option linter.unusedVariables false
set_option linter.unusedSimpArgs false
set_option maxRecDepth 100000
namespace Go.Proofs.YtdjilaofmdhikaaGreatDoor
open Go.RowKit Go.Sy
theorem Inv.mono {L L':Nat} {W:Wd} (h:Inv L W) (hl:L≤L'):Inv L' W:=
  ⟨h.z,h.ram,h.kd,h.dm,h.sl,h.tk,fun i hi=>⟨Nat.le_trans (h.ln i hi).1 hl,(h.ln i hi).2⟩,fun i hi=>⟨Nat.le_trans (h.rd i hi).1 hl,(h.rd i hi).2⟩,h.co,h.bt,fun c hc=>Nat.le_trans (h.tl c hc) hl⟩
theorem Szd.of {W W':Wd} (h:Szd W) (e:W'.nKinds=W.nKinds∧W'.nCores=W.nCores∧W'.nRam=W.nRam∧W'.nSlots=W.nSlots∧W'.nTasks=W.nTasks∧W'.nLines=W.nLines∧W'.nBits=W.nBits∧W'.nReady=W.nReady∧W'.nTlbs=W.nTlbs∧W'.nDoms=W.nDoms∧W'.time=W.time):Szd W':=by
  obtain ⟨e1,e2,e3,e4,e5,e6,e7,e8,e9,e10,e11⟩:=e
  obtain ⟨h1,h2,h3,h4,h5,h6,h7,h8,h9,h10,h11,h12,h13,h14,h15⟩:=h
  exact ⟨by rw [e1];exact h1,by rw [e1];exact h2,by rw [e2];exact h3,by rw [e2];exact h4,by rw [e3,e1];exact h5,by rw [e4,e1];exact h6,by rw [e5,e1];exact h7,by rw [e6,e1];exact h8,by rw [e7,e1];exact h9,by rw [e8,e2];exact h10,by rw [e9,e2];exact h11,by rw [e10];exact h12,by rw [e10];exact h13,by rw [e11];exact h14,by rw [e11];exact h15⟩
theorem TkR.of {W W':Wd} {t:Run} (h:TkR W t) (e1:W'.nKinds=W.nKinds) (e2:W'.nCores=W.nCores):TkR W' t:=
  ⟨h.reg,h.pc,h.word,h.badge,h.st,h.prio,by rw [e2];exact h.core,h.dom,by rw [e1];exact h.node,by rw [e1];exact h.space,by rw [e1];exact h.helper,by rw [e1];exact h.loc,by rw [e1];exact h.owes⟩
end Go.Proofs.YtdjilaofmdhikaaGreatDoor
set_option linter.unusedVariables false
set_option linter.unusedSimpArgs false
set_option maxRecDepth 100000
namespace Go.Proofs.YtdjilaofmdhikaaGreatDoor
open Go.RowKit Go.Sy
def hnS (W:Wd) (t:Nat) (b g:Int) (i:Nat):Run:=updF W.tasks t {W.tasks t with r1:=b,r2:=g} i
def hanW (W:Wd) (t:Nat) (b g:Int):Wd:={W with tasks:=hnS W t b g}
def ofC (W:Wd) (t:Int) (j:Nat):Int:=bif W.cores j==t then -1 else W.cores j
def sdS (W:Wd) (t:Nat) (a s:Int) (i:Nat):Run:=updF W.tasks t {W.tasks t with st:=s,loc:=a} i
def ofS (W:Wd) (t:Int) (i j:Nat):Int:=bif Nat.blt j i then ofC W t j else W.cores j
theorem ofS_lt {W:Wd} {t:Int} {i j:Nat} (h:j<i):ofS W t i j=ofC W t j:=by unfold ofS;rw [blt_t h];rfl
theorem ofS_ge {W:Wd} {t:Int} {i j:Nat} (h:i≤j):ofS W t i j=W.cores j:=by unfold ofS;rw [blt_f h];rfl
structure OfP (W:Wd) (t:Int):Prop where
  t0:0≤t
  t1:t<W.nTasks
  c0:0≤(W.tasks t.toNat).core
  c1:(W.tasks t.toNat).core<W.nCores
  u: ∀j:Nat,j<W.nCores→W.cores j=t→(W.tasks t.toNat).core=j
theorem updF_cp {f:Nat→Run} {t i:Nat} {v:Run} (p:Run→Int) (h:p v=p (f t)):p (updF f t v i)=p (f i):=by
  rcases Decidable.em (i=t) with e|e
  · subst e;rw [updF_at];exact h
  · rw [updF_ne e]
end Go.Proofs.YtdjilaofmdhikaaGreatDoor
set_option linter.unusedVariables false
set_option linter.unusedSimpArgs false
set_option maxRecDepth 100000
namespace Go.Proofs.YtdjilaofmdhikaaGreatDoor
open Go.RowKit Go.Sy
theorem WkP.of {W W':Wd} {t:Int} (h:WkP W t) (e1:W'.nTasks=W.nTasks) (e2:W'.nReady=W.nReady) (e3:W'.readyN=W.readyN) (e4:(W'.tasks t.toNat).core=(W.tasks t.toNat).core) (e5:(W'.tasks t.toNat).prio=(W.tasks t.toNat).prio):WkP W' t:=by
  obtain ⟨t0,t1,r0,r1,c0,c1,p0,p1,n⟩:=h
  have ez:rkZ (W'.tasks t.toNat)=rkZ (W.tasks t.toNat):=by unfold rkZ;rw [e4,e5]
  exact ⟨t0,by rw [e1];exact t1,by rw [ez];exact r0,by rw [ez,e2];exact r1,by rw [e4];exact c0,by rw [e4];exact c1,by rw [e5];exact p0,by rw [e5];exact p1,by unfold rkOf;rw [ez,e3];exact n⟩
theorem OfP.of {W W':Wd} {t:Int} (h:OfP W t) (e1:W'.nTasks=W.nTasks) (e2:W'.nCores=W.nCores) (e3:W'.cores=W.cores) (e4:(W'.tasks t.toNat).core=(W.tasks t.toNat).core):OfP W' t:=by
  obtain ⟨t0,t1,c0,c1,u⟩:=h
  exact ⟨t0,by rw [e1];exact t1,by rw [e4];exact c0,by rw [e4,e2];exact c1,by rw [e2,e3,e4];exact u⟩
theorem han_p {W:Wd} {t i:Nat} {b g:Int} (p:Run→Int) (h: ∀r:Run,p {r with r1:=b,r2:=g}=p r):p ((hanW W t b g).tasks i)=p (W.tasks i):=updF_cp p (h _)
theorem WkP.han {W:Wd} {t:Int} {u:Nat} {b g:Int} (h:WkP W t):WkP (hanW W u b g) t:=h.of rfl rfl rfl (han_p Run.core fun _=>rfl) (han_p Run.prio fun _=>rfl)
theorem OfP.han {W:Wd} {t:Int} {u:Nat} {b g:Int} (h:OfP W t):OfP (hanW W u b g) t:=h.of rfl rfl rfl (han_p Run.core fun _=>rfl)
end Go.Proofs.YtdjilaofmdhikaaGreatDoor
set_option linter.unusedVariables false
set_option linter.unusedSimpArgs false
set_option maxRecDepth 100000
namespace Go.Proofs.YtdjilaofmdhikaaGreatDoor
open Go.RowKit Go.Sy
def oweF (x:Run) (t:Int):Run:={x with owes:=bif x.owes==t then -1 else x.owes}
def lvS (W:Wd) (t:Int) (i:Nat):Run:=oweF (sdS W t.toNat (-1) 0 i) t
def lvLN (W:Wd) (t:Int) (i:Nat):Nat:=woN (W.linesN i) (W.lines i) t
def lvL (W:Wd) (t:Int) (i:Nat):Nat→Int:=woF (W.linesN i) (W.lines i) t
def lvRN (W:Wd) (t:Int) (i:Nat):Nat:=woN (W.readyN i) (W.ready i) t
def lvR (W:Wd) (t:Int) (i:Nat):Nat→Int:=woF (W.readyN i) (W.ready i) t
def stpW (W:Wd) (t:Int):Wd:={W with tasks:=lvS W t,linesN:=lvLN W t,lines:=lvL W t,cores:=ofC W t,readyN:=lvRN W t,ready:=lvR W t}
def lv1N (W:Wd) (t:Int) (i q:Nat):Nat:=bif Nat.blt q i then lvLN W t q else W.linesN q
def lv1L (W:Wd) (t:Int) (i q:Nat):Nat→Int:=bif Nat.blt q i then lvL W t q else W.lines q
def lv2N (W:Wd) (t:Int) (i q:Nat):Nat:=bif Nat.blt q i then lvRN W t q else W.readyN q
def lv2L (W:Wd) (t:Int) (i q:Nat):Nat→Int:=bif Nat.blt q i then lvR W t q else W.ready q
def lv4 (f:Nat→Run) (t:Int) (i q:Nat):Run:=bif Nat.blt q i then oweF (f q) t else f q
def an_lv1 (W:Wd) (t:Int) (l:List (Nat×SV)) (r:List (Nat×Nat)) (z:Nat):Ann where
  σ:=Nat
  rt:=r
  sh i:=l++ [(z,.v (.int .i64 i))]
  mh i:= [(5,.row 1 W.nLines (fun q _=> .il 1 (lv1N W t i q) (iF (lv1L W t i q))))]
  inv i:=i≤W.nLines
  μ i:=W.nLines -i
  init:=0
def an_lv2 (W:Wd) (t:Int) (l:List (Nat×SV)) (r:List (Nat×Nat)) (z:Nat):Ann where
  σ:=Nat
  rt:=r
  sh i:=l++ [(z,.v (.int .i64 i))]
  mh i:= [(8,.row 1 W.nReady (fun q _=> .il 1 (lv2N W t i q) (iF (lv2L W t i q))))]
  inv i:=i≤W.nReady
  μ i:=W.nReady -i
  init:=0
def an_lv3 (W:Wd) (t:Int) (l:List (Nat×SV)) (r:List (Nat×Nat)) (z:Nat):Ann where
  σ:=Nat
  rt:=r
  sh i:=l++ [(z,.v (.int .i64 i))]
  mh i:= [(7,.row 1 W.nCores (iF (ofS W t i)))]
  inv i:=i≤W.nCores
  μ i:=W.nCores -i
  init:=0
def an_lv4 (W:Wd) (f:Nat→Run) (t:Int) (l:List (Nat×SV)) (r:List (Nat×Nat)) (z:Nat):Ann where
  σ:=Nat
  rt:=r
  sh i:=l++ [(z,.v (.int .i64 i))]
  mh i:= [(4,.row 20 W.nTasks (rF fun q=>runL (lv4 f t i q)))]
  inv i:=i≤W.nTasks
  μ i:=W.nTasks -i
  init:=0
theorem lv1N_lt {W:Wd} {t:Int} {i q:Nat} (h:q<i):lv1N W t i q=lvLN W t q:=by unfold lv1N;rw [blt_t h];rfl
theorem lv1N_ge {W:Wd} {t:Int} {i q:Nat} (h:i≤q):lv1N W t i q=W.linesN q:=by unfold lv1N;rw [blt_f h];rfl
theorem lv1L_lt {W:Wd} {t:Int} {i q:Nat} (h:q<i):lv1L W t i q=lvL W t q:=by unfold lv1L;rw [blt_t h];rfl
theorem lv1L_ge {W:Wd} {t:Int} {i q:Nat} (h:i≤q):lv1L W t i q=W.lines q:=by unfold lv1L;rw [blt_f h];rfl
theorem lv1N_s {W:Wd} {t:Int} {s q:Nat}:(bif Nat.beq q s then woN (lv1N W t s s) (lv1L W t s s) t else lv1N W t s q)=lv1N W t (s+1) q:=by
  rw [lv1N_ge (Nat.le_refl s),lv1L_ge (Nat.le_refl s)]
  rcases Nat.lt_trichotomy q s with e|e|e
  · rw [beq_ne (by omega),lv1N_lt e,lv1N_lt (by omega:q<s+1)];rfl
  · subst e;rw [Nat.beq_refl,lv1N_lt (Nat.lt_succ_self _)];rfl
  · rw [beq_ne (by omega),lv1N_ge (by omega:s≤q),lv1N_ge (by omega:s+1≤q)];rfl
theorem lv1L_s {W:Wd} {t:Int} {s q v:Nat}:(bif Nat.beq q s then woF (lv1N W t s s) (lv1L W t s s) t v else lv1L W t s q v)=lv1L W t (s+1) q v:=by
  rw [lv1N_ge (Nat.le_refl s),lv1L_ge (Nat.le_refl s)]
  rcases Nat.lt_trichotomy q s with e|e|e
  · rw [beq_ne (by omega),lv1L_lt e,lv1L_lt (by omega:q<s+1)];rfl
  · subst e;rw [Nat.beq_refl,lv1L_lt (Nat.lt_succ_self _)];rfl
  · rw [beq_ne (by omega),lv1L_ge (by omega:s≤q),lv1L_ge (by omega:s+1≤q)];rfl
theorem lv2N_lt {W:Wd} {t:Int} {i q:Nat} (h:q<i):lv2N W t i q=lvRN W t q:=by unfold lv2N;rw [blt_t h];rfl
theorem lv2N_ge {W:Wd} {t:Int} {i q:Nat} (h:i≤q):lv2N W t i q=W.readyN q:=by unfold lv2N;rw [blt_f h];rfl
theorem lv2L_lt {W:Wd} {t:Int} {i q:Nat} (h:q<i):lv2L W t i q=lvR W t q:=by unfold lv2L;rw [blt_t h];rfl
theorem lv2L_ge {W:Wd} {t:Int} {i q:Nat} (h:i≤q):lv2L W t i q=W.ready q:=by unfold lv2L;rw [blt_f h];rfl
theorem lv2N_s {W:Wd} {t:Int} {s q:Nat}:(bif Nat.beq q s then woN (lv2N W t s s) (lv2L W t s s) t else lv2N W t s q)=lv2N W t (s+1) q:=by
  rw [lv2N_ge (Nat.le_refl s),lv2L_ge (Nat.le_refl s)]
  rcases Nat.lt_trichotomy q s with e|e|e
  · rw [beq_ne (by omega),lv2N_lt e,lv2N_lt (by omega:q<s+1)];rfl
  · subst e;rw [Nat.beq_refl,lv2N_lt (Nat.lt_succ_self _)];rfl
  · rw [beq_ne (by omega),lv2N_ge (by omega:s≤q),lv2N_ge (by omega:s+1≤q)];rfl
theorem lv2L_s {W:Wd} {t:Int} {s q v:Nat}:(bif Nat.beq q s then woF (lv2N W t s s) (lv2L W t s s) t v else lv2L W t s q v)=lv2L W t (s+1) q v:=by
  rw [lv2N_ge (Nat.le_refl s),lv2L_ge (Nat.le_refl s)]
  rcases Nat.lt_trichotomy q s with e|e|e
  · rw [beq_ne (by omega),lv2L_lt e,lv2L_lt (by omega:q<s+1)];rfl
  · subst e;rw [Nat.beq_refl,lv2L_lt (Nat.lt_succ_self _)];rfl
  · rw [beq_ne (by omega),lv2L_ge (by omega:s≤q),lv2L_ge (by omega:s+1≤q)];rfl
theorem lv4_lt {f:Nat→Run} {t:Int} {i q:Nat} (h:q<i):lv4 f t i q=oweF (f q) t:=by unfold lv4;rw [blt_t h];rfl
theorem lv4_ge {f:Nat→Run} {t:Int} {i q:Nat} (h:i≤q):lv4 f t i q=f q:=by unfold lv4;rw [blt_f h];rfl
theorem oweF_y {x:Run} {t:Int} (h:(x.owes==t)=true):oweF x t={x with owes:= -1}:=by unfold oweF;rw [h];rfl
theorem oweF_n {x:Run} {t:Int} (h:(x.owes==t)=false):oweF x t=x:=by unfold oweF;rw [h];rfl
structure X_stopped where
  (t:Int) (W:Wd)
def s_stopped:Sy.Spec:=⟨X_stopped,fun ⟨t,_⟩=> [.ptr 0 0 none 0 0,.v (.int .i64 t)],fun ⟨_,W⟩=>wMem W,fun ⟨t,W⟩=>0≤t∧t<W.nTasks∧Inv 1000 W,fun _=> .tp 0 (lsv []),fun ⟨t,W⟩=>wMem (stpW W t),
  fun args mem=>match args with| [a0,a1]=>some ⟨intD (a1),wMJD mem 0⟩|_=>none⟩
def c_stopped:Con:=⟨[true],s_stopped.g,none⟩
def V_stopped:X_stopped→Prop:=fun ⟨t,W⟩=>let a0:=SV.ptr 0 0 none 0 0;let b0:=0=((0:Nat):Int);let c0:=0=0;let d0:=W.nRam=W.nRam;let e0:=W.nKinds;let g0:=e0=e0;let h0:=W.nSlots;let k0:=h0=h0;let l0:=W.nTasks;let o0:=l0=l0;let q0:=W.nLines;let u0:=q0=q0;let v0:=W.nBits=W.nBits;let w0:=W.nCores;let x0:=w0=w0;let y0:=W.nReady;let z0:=y0=y0;let a1:=W.nTlbs=W.nTlbs;let b1:=W.nDoms=W.nDoms;let c1:=W.time=W.time;let d1:=d0∧(∀e1:Nat,e1<W.nRam→True∧W.ram e1=W.ram e1);let g1:=g0∧(∀h1:Nat,h1<e0→True∧W.kinds h1=W.kinds h1);let k1:=k0∧(∀l1:Nat,let o1:=W.slots l1;let q1:=o1.kind;let u1:=o1.base;let v1:=o1.len;let w1:=o1.mark;let x1:=o1.rights;let y1:=o1.badge;let z1:=o1.from_;l1<h0→((((((True∧q1=q1)∧u1=u1)∧v1=v1)∧w1=w1)∧x1=x1)∧y1=y1)∧z1=z1);let a2:=o0∧(∀b2:Nat,let c2:=W.tasks b2;let d2:=c2.prio;let e2:=c2.node;let g2:=c2.space;let h2:=c2.helper;let k2:=c2.loc;let l2:=c2.word;let o2:=c2.badge;let q2:=c2.owes;let u2:=c2.core;let v2:=c2.dom;b2<l0→(((((((((((((((((((True∧c2.r0=c2.r0)∧c2.r1=c2.r1)∧c2.r2=c2.r2)∧c2.r3=c2.r3)∧c2.r4=c2.r4)∧c2.r5=c2.r5)∧c2.r6=c2.r6)∧c2.r7=c2.r7)∧c2.pc=c2.pc)∧c2.st=c2.st)∧d2=d2)∧e2=e2)∧g2=g2)∧h2=h2)∧k2=k2)∧l2=l2)∧o2=o2)∧q2=q2)∧u2=u2)∧v2=v2);let w2:=v0∧(∀x2:Nat,x2<W.nBits→True∧W.bits x2=W.bits x2);let y2:=x0∧(∀z2:Nat,z2<w0→True∧W.cores z2=W.cores z2);let a3:=(a1∧(∀b3:Nat,let c3:=W.tlbsN b3;b3<W.nTlbs→True∧c3=c3∧(∀d3:Nat,let e3:=W.tlbs b3 d3;let g3:=e3.sp;let h3:=e3.pg;let k3:=e3.fr;let l3:=e3.wr;d3<c3→(((True∧g3=g3)∧h3=h3)∧k3=k3)∧l3=l3)))∧(b1∧(∀o3:Nat,o3<W.nDoms→True∧W.doms o3=W.doms o3))∧True;
    let q3:=w2∧y2∧(z0∧(∀u3:Nat,let v3:=W.readyN u3;u3<y0→True∧v3=v3∧(∀w3:Nat,w3<v3→True∧W.ready u3 w3=W.ready u3 w3)))∧a3;let x3:=(q0:Int);let y3:=SV.ptr 0 0 none 0 0=a0;let z3:=0=0;let a4:=((((((((((True∧z3∧d0)∧z3∧g0)∧z3∧k0)∧z3∧o0)∧z3∧u0)∧z3∧v0)∧z3∧x0)∧z3∧z0)∧z3∧a1)∧z3∧b1)∧c1;let b4:=0=0;let c4:=((((((((((True∧b4∧d0)∧b4∧g0)∧b4∧k0)∧b4∧o0)∧b4∧u0)∧b4∧v0)∧b4∧x0)∧b4∧z0)∧b4∧a1)∧b4∧b1)∧c1;let d4:=(y0:Int);let e4:=(w0:Int);let g4:=false=false;let h4:=W.tasks;let k4:=(l0:Int);let l4:=0≤t∧t<k4;let o4:=Int.toNat t;a0=a0∧b0∧((((((((((((True∧c0∧d0)∧c0∧g0)∧c0∧k0)∧c0∧o0)∧c0∧u0)∧c0∧v0)∧c0∧x0)∧c0∧z0)∧c0∧a1)∧c0∧b1)∧c1)∧d1∧g1∧k1∧a2∧(u0∧(∀q4:Nat,let u4:=lv1N W t 0 q4;q4<q0→True∧W.linesN q4=u4∧(∀v4:Nat,v4<u4→True∧W.lines q4 v4=lv1L W t 0 q4 v4)))∧q3)∧0≤q0∧(∀w4:Nat,let x4:=(w4:Int);let y4:=decide (x4<x3);let z4:=0≤x4∧x4<x3;let a5:=0+Int.toNat x4;let b5:=lv1N W t w4 a5;let c5:Int:=x4+1;let d5:=u0∧(∀e5:Nat,let g5:=lv1N W t w4 e5;e5<q0→True∧g5=g5∧(∀h5:Nat,let k5:=lv1L W t w4 e5 h5;h5<g5→True∧k5=k5));w4≤q0→x3≤9223372036854775807→(y4=true→tn 10 (z4∧tn 2 ((((b5=b5∧(∀l5:Nat,let o5:=lv1L W t w4 a5 (0+l5);l5<b5→True∧o5=o5))∧t=t∧True)∧True∧s_without.match_1 (fun q5:X_without=>Prop) (X_without.mk b5 (fun u5:Nat=>lv1L W t w4 a5 (0+u5)) t) (fun v5:Nat=>fun w5:∀x5:Nat,Int=>fun y5:Int=>v5≤100000))∧z4∧(∀z5:Nat,Nat.beq 1 1=true)∧w64 c5=c5∧(∃a6:Nat,y3∧c5=(a6:Int)∧(a4∧d1∧g1∧k1∧a2∧(u0∧(∀b6:Nat,let c6:=lv1N W t a6 b6;b6<q0→True∧cond (Nat.beq b6 a5) (woN b5 (fun d6:Nat=>lv1L W t w4 a5 (0+d6)) t) (lv1N W t w4 b6)=c6∧
    (∀e6:Nat,e6<c6→True∧cond (Nat.beq b6 a5) (woF b5 (fun g6:Nat=>lv1L W t w4 a5 (0+g6)) t e6) (lv1L W t w4 b6 e6)=lv1L W t a6 b6 e6)))∧q3)∧a6≤q0∧q0-a6<q0-w4))))∧(y4=false→y3∧b0∧(c4∧d1∧g1∧k1∧a2∧d5∧w2∧y2∧(z0∧(∀h6:Nat,let k6:=lv2N W t 0 h6;h6<y0→True∧W.readyN h6=k6∧(∀l6:Nat,l6<k6→True∧W.ready h6 l6=lv2L W t 0 h6 l6)))∧a3)∧0≤y0∧(∀o6:Nat,let q6:=(o6:Int);let u6:=decide (q6<d4);let v6:=0≤q6∧q6<d4;let w6:=0+Int.toNat q6;let x6:=lv2N W t o6 w6;let y6:Int:=q6+1;let z6:=(z0∧(∀a7:Nat,let b7:=lv2N W t o6 a7;a7<y0→True∧b7=b7∧(∀c7:Nat,let d7:=lv2L W t o6 a7 c7;c7<b7→True∧d7=d7)))∧a3;o6≤y0→d4≤9223372036854775807→(u6=true→tn 10 (v6∧tn 2 ((((x6=x6∧(∀e7:Nat,let g7:=lv2L W t o6 w6 (0+e7);e7<x6→True∧g7=g7))∧t=t∧True)∧True∧s_without.match_1 (fun h7:X_without=>Prop) (X_without.mk x6 (fun k7:Nat=>lv2L W t o6 w6 (0+k7)) t) (fun l7:Nat=>fun o7:∀q7:Nat,Int=>fun u7:Int=>l7≤100000))∧v6∧(∀v7:Nat,Nat.beq 1 1=true)∧w64 y6=y6∧(∃w7:Nat,y3∧y6=(w7:Int)∧(c4∧d1∧g1∧k1∧a2∧d5∧w2∧y2∧(z0∧(∀x7:Nat,let y7:=lv2N W t w7 x7;x7<y0→True∧cond (Nat.beq x7 w6) (woN x6 (fun z7:Nat=>lv2L W t o6 w6 (0+z7)) t) (lv2N W t o6 x7)=y7∧(∀a8:Nat,a8<y7→True∧cond (Nat.beq x7 w6) (woF x6 (fun b8:Nat=>lv2L W t o6 w6 (0+b8)) t a8) (lv2L W t o6 x7 a8)=lv2L W t w7 x7 a8)))∧a3)∧w7≤y0∧y0-w7<y0-o6))))∧(u6=false→y3∧b0∧(c4∧d1∧g1∧k1∧a2∧d5∧w2∧(x0∧(∀c8:Nat,c8<w0→True∧W.cores c8=ofS W t 0 c8))∧z6)∧0≤w0∧(∀d8:Nat,let e8:=(d8:Int);let g8:=decide (e8<e4);let h8:=0≤e8∧e8<e4;let k8:=0+Int.toNat e8;let l8:=ofS W t d8 k8==t;let o8:Int:=e8+1;let q8:=w64 o8=o8;
    let r8:=d5∧w2∧(x0∧(∀u8:Nat,let v8:=ofS W t d8 u8;u8<w0→True∧v8=v8))∧z6;d8≤w0→e4≤9223372036854775807→(g8=true→h8∧(l8=true→h8∧(∀w8:Nat,g4)∧q8∧(∃x8:Nat,y3∧o8=(x8:Int)∧(c4∧d1∧g1∧k1∧a2∧d5∧w2∧(x0∧(∀y8:Nat,y8<w0→True∧cond (Nat.beq y8 k8) (-1) (ofS W t d8 y8)=ofS W t x8 y8))∧z6)∧x8≤w0∧w0-x8<w0-d8))∧(l8=false→q8∧(∃z8:Nat,y3∧o8=(z8:Int)∧(c4∧d1∧g1∧k1∧a2∧d5∧w2∧(x0∧(∀a9:Nat,a9<w0→True∧ofS W t d8 a9=ofS W t z8 a9))∧z6)∧z8≤w0∧w0-z8<w0-d8)))∧(g8=false→y3∧b0∧(c4∧d1∧g1∧k1∧(o0∧(∀b9:Nat,let c9:=h4 b9;let d9:=lv4 h4 t 0 b9;b9<l0→(((((((((((((((((((True∧c9.r0=d9.r0)∧c9.r1=d9.r1)∧c9.r2=d9.r2)∧c9.r3=d9.r3)∧c9.r4=d9.r4)∧c9.r5=d9.r5)∧c9.r6=d9.r6)∧c9.r7=d9.r7)∧c9.pc=d9.pc)∧c9.st=d9.st)∧c9.prio=d9.prio)∧c9.node=d9.node)∧c9.space=d9.space)∧c9.helper=d9.helper)∧c9.loc=d9.loc)∧c9.word=d9.word)∧c9.badge=d9.badge)∧c9.owes=d9.owes)∧c9.core=d9.core)∧c9.dom=d9.dom))∧r8)∧0≤l0∧(∀e9:Nat,let g9:=(e9:Int);let h9:=decide (g9<k4);let k9:=0≤g9∧g9<k4;let l9:=0+Int.toNat g9;let o9:=(lv4 h4 t e9 l9).owes==t;let q9:Int:=g9+1;let r9:=w64 q9=q9;e9≤l0→k4≤9223372036854775807→(h9=true→k9∧(o9=true→k9∧(∀u9:Nat,g4)∧r9∧(∃v9:Nat,y3∧q9=(v9:Int)∧(c4∧d1∧g1∧k1∧(o0∧(∀w9:Nat,let x9:=lv4 h4 t e9 w9;let y9:=lv4 h4 t v9 w9;w9<l0→(((((((((((((((((((True∧x9.r0=y9.r0)∧x9.r1=y9.r1)∧x9.r2=y9.r2)∧x9.r3=y9.r3)∧x9.r4=y9.r4)∧x9.r5=y9.r5)∧x9.r6=y9.r6)∧x9.r7=y9.r7)∧x9.pc=y9.pc)∧x9.st=y9.st)∧x9.prio=y9.prio)∧x9.node=y9.node)∧x9.space=y9.space)∧x9.helper=y9.helper)∧x9.loc=y9.loc)∧x9.word=y9.word)∧x9.badge=y9.badge)∧
    cond (Nat.beq w9 l9) (-1) x9.owes=y9.owes)∧x9.core=y9.core)∧x9.dom=y9.dom))∧r8)∧v9≤l0∧l0-v9<l0-e9))∧(o9=false→r9∧(∃z9:Nat,y3∧q9=(z9:Int)∧(c4∧d1∧g1∧k1∧(o0∧(∀a10:Nat,let b10:=lv4 h4 t e9 a10;let c10:=lv4 h4 t z9 a10;a10<l0→(((((((((((((((((((True∧b10.r0=c10.r0)∧b10.r1=c10.r1)∧b10.r2=c10.r2)∧b10.r3=c10.r3)∧b10.r4=c10.r4)∧b10.r5=c10.r5)∧b10.r6=c10.r6)∧b10.r7=c10.r7)∧b10.pc=c10.pc)∧b10.st=c10.st)∧b10.prio=c10.prio)∧b10.node=c10.node)∧b10.space=c10.space)∧b10.helper=c10.helper)∧b10.loc=c10.loc)∧b10.word=c10.word)∧b10.badge=c10.badge)∧b10.owes=c10.owes)∧b10.core=c10.core)∧b10.dom=c10.dom))∧r8)∧z9≤l0∧l0-z9<l0-e9)))∧(h9=false→l4∧(∀d10:Nat,g4)∧l4∧(∀e10:Nat,g4)∧True∧a4∧d1∧g1∧k1∧(o0∧(∀g10:Nat,let h10:=lv4 h4 t e9 g10;let k10:=sdS W o4 (-1) 0 g10;let l10:=k10.owes;g10<l0→(((((((((((((((((((True∧h10.r0=k10.r0)∧h10.r1=k10.r1)∧h10.r2=k10.r2)∧h10.r3=k10.r3)∧h10.r4=k10.r4)∧h10.r5=k10.r5)∧h10.r6=k10.r6)∧h10.r7=k10.r7)∧h10.pc=k10.pc)∧cond (Nat.beq g10 (0+o4)) 0 h10.st=k10.st)∧h10.prio=k10.prio)∧h10.node=k10.node)∧h10.space=k10.space)∧h10.helper=k10.helper)∧cond (Nat.beq g10 (0+o4)) (-1) h10.loc=k10.loc)∧h10.word=k10.word)∧h10.badge=k10.badge)∧h10.owes=cond (l10==t) (-1) l10)∧h10.core=k10.core)∧h10.dom=k10.dom))∧(u0∧(∀o10:Nat,o10<q0→True∧lv1N W t w4 o10=lvLN W t o10∧(∀q10:Nat,q10<lvLN W t o10→True∧lv1L W t w4 o10 q10=lvL W t o10 q10)))∧w2∧(x0∧(∀r10:Nat,r10<w0→True∧ofS W t d8 r10=ofC W t r10))∧(z0∧(∀u10:Nat,u10<y0→True∧lv2N W t o6 u10=lvRN W t u10∧(∀v10:Nat,v10<lvRN W t u10→True∧
    lv2L W t o6 u10 v10=lvR W t u10 v10)))∧a3))))))))
set_option maxHeartbeats 2000000 in
theorem ok_stopped:FnOK Tryz.prog glN 121 c_stopped:=ok_of (.cons ok_without .nil) false Tryz.call121 Tryz.func121 (fun ⟨t,W⟩=> [.inv (an_lv1 W t [(0,pt0 0)] [] 4),.inv (an_lv2 W t [(0,pt0 0)] [] 5),.inv (an_lv3 W t [(0,pt0 0)] [] 6),.inv (an_lv4 W W.tasks t [(0,pt0 0)] [] 7)]) (V:=V_stopped) (fun _=>by kernel_rfl) fun ⟨t,W⟩ hp=>by
  dsimp only [s_stopped] at hp
  dsimp only [V_stopped,tn,w64]
  simp only [std,stb,eq_self,implies_true,Bool.cond_self]
  try simp only [wd_eta]
  obtain ⟨t0,t1,hI⟩:=hp
  have z1:=hI.z.lines
  have z2:=hI.z.ready
  have z3:=hI.z.tasks
  have z4:=hI.z.k1
  have z5:=hI.z.c1
  refine ⟨fun q _=>⟨(lv1N_ge (Nat.zero_le _)).symm,fun v _=>by rw [lv1L_ge (Nat.zero_le _)]⟩,fun s hs _=>⟨fun h=>?_,fun h=>?_⟩⟩
  · have hlt:=lt_of_dec h
    have hl:=(hI.ln s (by omega)).1
    exact ⟨by omega,by rw [lv1N_ge (Nat.le_refl _)];omega,by omega,fun _=>rfl,wr_in (by omega) (by omega),s+1,by omega,fun q _=>⟨lv1N_s,fun v _=>lv1L_s⟩,by omega,by omega⟩
  have hge:=ge_of_dec h
  obtain rfl:s=W.nLines:=by omega
  clear h hge
  refine ⟨fun q _=>⟨(lv2N_ge (Nat.zero_le _)).symm,fun v _=>by rw [lv2L_ge (Nat.zero_le _)]⟩,fun s hs _=>⟨fun h=>?_,fun h=>?_⟩⟩
  · have hlt:=lt_of_dec h
    have hl:=(hI.rd s (by omega)).1
    exact ⟨by omega,by rw [lv2N_ge (Nat.le_refl _)];omega,by omega,fun _=>rfl,wr_in (by omega) (by omega),s+1,by omega,fun q _=>⟨lv2N_s,fun v _=>lv2L_s⟩,by omega,by omega⟩
  have hge:=ge_of_dec h
  obtain rfl:s=W.nReady:=by omega
  clear h hge
  refine ⟨fun j _=>(ofS_ge (Nat.zero_le _)).symm,fun s hs _=>⟨fun h=>?_,fun h=>?_⟩⟩
  · have hlt:=lt_of_dec h
    refine ⟨by omega,fun h1=>⟨by omega,wr_in (by omega) (by omega),s+1,by omega,fun j _=>?_,by omega,by omega⟩,fun h1=>⟨wr_in (by omega) (by omega),s+1,by omega,fun j _=>?_,by omega,by omega⟩⟩
    · rw [ofS_ge (Nat.le_refl _)] at h1
      rcases Nat.lt_trichotomy j s with e|e|e
      · rw [beq_ne (by omega),ofS_lt e,ofS_lt (by omega:j<s+1)];rfl
      · subst e;rw [Nat.beq_refl,ofS_lt (Nat.lt_succ_self _)];unfold ofC;rw [h1];rfl
      · rw [beq_ne (by omega),ofS_ge (by omega),ofS_ge (by omega:s+1≤j)];rfl
    · rw [ofS_ge (Nat.le_refl _)] at h1
      rcases Nat.lt_trichotomy j s with e|e|e
      · rw [ofS_lt e,ofS_lt (by omega:j<s+1)]
      · subst e;rw [ofS_ge (Nat.le_refl _),ofS_lt (Nat.lt_succ_self _)];unfold ofC;rw [h1];rfl
      · rw [ofS_ge (by omega),ofS_ge (by omega:s+1≤j)]
  have hge:=ge_of_dec h
  obtain rfl:s=W.nCores:=by omega
  clear h hge
  refine ⟨fun j _=>run20 (lv4_ge (Nat.zero_le _)).symm,fun s hs _=>⟨fun h=>?_,fun h=>?_⟩⟩
  · have hlt:=lt_of_dec h
    refine ⟨by omega,fun h1=>⟨by omega,wr_in (by omega) (by omega),s+1,by omega,fun j _=>?_,by omega,by omega⟩,fun h1=>⟨wr_in (by omega) (by omega),s+1,by omega,fun j _=>?_,by omega,by omega⟩⟩
    · rw [lv4_ge (Nat.le_refl _)] at h1
      rcases Nat.lt_trichotomy j s with e|e|e
      · rw [beq_ne (by omega),lv4_lt e,lv4_lt (by omega:j<s+1)];exact run20 rfl
      · subst e
        rw [Nat.beq_refl,lv4_lt (Nat.lt_succ_self _),lv4_ge (Nat.le_refl _),oweF_y h1]
        simp only [cond_true]
        repeat' (first|exact trivial|rfl|refine And.intro ?_ ?_)
      · rw [beq_ne (by omega),lv4_ge (by omega),lv4_ge (by omega:s+1≤j)];exact run20 rfl
    · rw [lv4_ge (Nat.le_refl _)] at h1
      rcases Nat.lt_trichotomy j s with e|e|e
      · rw [lv4_lt e,lv4_lt (by omega:j<s+1)];exact run20 rfl
      · subst e;rw [lv4_ge (Nat.le_refl _),lv4_lt (Nat.lt_succ_self _),oweF_n h1];exact run20 rfl
      · rw [lv4_ge (by omega),lv4_ge (by omega:s+1≤j)];exact run20 rfl
  have hge:=ge_of_dec h
  obtain rfl:s=W.nTasks:=by omega
  clear h hge
  refine ⟨⟨t0,t1⟩,⟨t0,t1⟩,fun j hj=>?_,fun j hj=>⟨lv1N_lt hj,fun v _=>by rw [lv1L_lt hj]⟩,fun j hj=>ofS_lt hj,fun j hj=>⟨lv2N_lt hj,fun v _=>by rw [lv2L_lt hj]⟩⟩
  rcases Decidable.em (j=t.toNat) with e|e
  · subst e
    simp only [Nat.beq_refl,cond_true,lv4_lt hj]
    unfold sdS
    rw [updF_at]
    repeat' (first|exact trivial|rfl|refine And.intro ?_ ?_)
  · simp only [beq_ne e,cond_false,lv4_lt hj]
    unfold sdS
    rw [updF_ne e]
    repeat' (first|exact trivial|rfl|refine And.intro ?_ ?_)
end Go.Proofs.YtdjilaofmdhikaaGreatDoor
set_option linter.unusedVariables false
set_option linter.unusedSimpArgs false
set_option maxRecDepth 100000
namespace Go.Proofs.YtdjilaofmdhikaaGreatDoor
open Go.RowKit Go.Sy
theorem lv1L_sd {W:Wd} {t:Int} {s q v:Nat} (hv:v<lv1N W t (s+1) q):(bif Nat.beq q s then wdF (lv1N W t s s) (lv1L W t s s) t v else lv1L W t s q v)=lv1L W t (s+1) q v:=by
  rw [←lv1L_s]
  rw [←lv1N_s] at hv
  rcases Decidable.em (q=s) with e|e
  · subst e
    rw [Nat.beq_refl,cond_true] at hv⊢
    unfold wdF
    rw [blt_t hv];rfl
  · rw [beq_ne e];rfl
theorem lv2L_sd {W:Wd} {t:Int} {s q v:Nat} (hv:v<lv2N W t (s+1) q):(bif Nat.beq q s then wdF (lv2N W t s s) (lv2L W t s s) t v else lv2L W t s q v)=lv2L W t (s+1) q v:=by
  rw [←lv2L_s]
  rw [←lv2N_s] at hv
  rcases Decidable.em (q=s) with e|e
  · subst e
    rw [Nat.beq_refl,cond_true] at hv⊢
    unfold wdF
    rw [blt_t hv];rfl
  · rw [beq_ne e];rfl
structure X_leave where
  (t:Int) (W:Wd)
def s_leave:Sy.Spec:=⟨X_leave,fun ⟨t,_⟩=> [.ptr 0 0 none 0 0,.v (.int .i64 t)],fun ⟨_,W⟩=>wMem W,fun ⟨t,W⟩=>0≤t∧t<W.nTasks∧Inv 1000 W,fun _=> .tp 0 (lsv []),fun ⟨t,W⟩=>wMem (stpW W t),
  fun args mem=>match args with| [a0,a1]=>some ⟨intD (a1),wMJD mem 0⟩|_=>none⟩
def c_leave:Con:=⟨[true],s_leave.g,none⟩
def V_leave:X_leave→Prop:=fun ⟨t,W⟩=>let a0:=W.nLines;let b0:=(a0:Int);let c0:=SV.ptr 0 0 none 0 0=SV.ptr 0 0 none 0 0;let d0:=0+1+1+1+1+1+1+1+1+1+1+1;let e0:=SV.ptr 11 0 none 0 0;let g0:=SV.ptr d0 0 none 0 0=e0;let h0:=0=((0:Nat):Int);let k0:=0=0;let l0:=W.nRam=W.nRam;let o0:=W.nKinds;let q0:=o0=o0;let u0:=W.nSlots;let v0:=u0=u0;let w0:=W.nTasks;let x0:=w0=w0;let y0:=a0=a0;let z0:=W.nBits=W.nBits;let a1:=W.nCores;let b1:=a1=a1;let c1:=W.nReady;let d1:=c1=c1;let e1:=W.nTlbs=W.nTlbs;let g1:=W.nDoms=W.nDoms;let h1:=W.time=W.time;let k1:=((((((((((True∧k0∧l0)∧k0∧q0)∧k0∧v0)∧k0∧x0)∧k0∧y0)∧k0∧z0)∧k0∧b1)∧k0∧d1)∧k0∧e1)∧k0∧g1)∧h1;let l1:=l0∧(∀o1:Nat,o1<W.nRam→True∧W.ram o1=W.ram o1);let q1:=q0∧(∀u1:Nat,u1<o0→True∧W.kinds u1=W.kinds u1);let v1:=v0∧(∀w1:Nat,let x1:=W.slots w1;let y1:=x1.kind;let z1:=x1.base;let a2:=x1.len;let b2:=x1.mark;let c2:=x1.rights;let d2:=x1.badge;let e2:=x1.from_;w1<u0→((((((True∧y1=y1)∧z1=z1)∧a2=a2)∧b2=b2)∧c2=c2)∧d2=d2)∧e2=e2);let g2:=x0∧(∀h2:Nat,let k2:=W.tasks h2;let l2:=k2.prio;let o2:=k2.node;let q2:=k2.space;let u2:=k2.helper;let v2:=k2.loc;let w2:=k2.word;let x2:=k2.badge;let y2:=k2.owes;let z2:=k2.core;let a3:=k2.dom;h2<w0→(((((((((((((((((((True∧k2.r0=k2.r0)∧k2.r1=k2.r1)∧k2.r2=k2.r2)∧k2.r3=k2.r3)∧k2.r4=k2.r4)∧k2.r5=k2.r5)∧k2.r6=k2.r6)∧k2.r7=k2.r7)∧k2.pc=k2.pc)∧k2.st=k2.st)∧l2=l2)∧o2=o2)∧q2=q2)∧u2=u2)∧v2=v2)∧w2=w2)∧x2=x2)∧y2=y2)∧z2=z2)∧a3=a3);let b3:=z0∧(∀c3:Nat,c3<W.nBits→True∧W.bits c3=W.bits c3);let d3:=b1∧(∀e3:Nat,e3<a1→True∧W.cores e3=W.cores e3);
    let g3:=e1∧(∀h3:Nat,let k3:=W.tlbsN h3;h3<W.nTlbs→True∧k3=k3∧(∀l3:Nat,let o3:=W.tlbs h3 l3;let q3:=o3.sp;let u3:=o3.pg;let v3:=o3.fr;let w3:=o3.wr;l3<k3→(((True∧q3=q3)∧u3=u3)∧v3=v3)∧w3=w3));let x3:=g1∧(∀y3:Nat,y3<W.nDoms→True∧W.doms y3=W.doms y3);let z3:=(True∧t=t)∧True;let a4:=g3∧x3∧z3;let b4:=b3∧d3∧(d1∧(∀c4:Nat,let d4:=W.readyN c4;c4<c1→True∧d4=d4∧(∀e4:Nat,e4<d4→True∧W.ready c4 e4=W.ready c4 e4)))∧a4;let g4:=tn 2 True;let h4:=True∧SV.ptr d0 0 none 0 0=e0;let k4:=(c1:Int);let l4:=(a1:Int);let o4:=false=false;let q4:=(w0:Int);let u4:=0≤t∧t<q4;let v4:=Int.toNat t;let w4:=sdS W v4 (-1) 0;let x4:=0=0;True∧(b0≤9223372036854775807→c0∧g0∧(True∧g0)∧h0∧(k1∧l1∧q1∧v1∧g2∧(y0∧(∀y4:Nat,let z4:=lv1N W t 0 y4;y4<a0→True∧W.linesN y4=z4∧(∀a5:Nat,a5<z4→True∧W.lines y4 a5=lv1L W t 0 y4 a5)))∧b4)∧0≤a0∧(∀b5:Nat,let c5:=(b5:Int);let d5:=decide (c5<b0);let e5:=0≤c5∧c5<b0;let g5:=0+Int.toNat c5;let h5:=lv1N W t b5 g5;let k5:=h5=h5;let l5:=lv1L W t b5 g5;let o5:Int:=c5+1;let q5:=y0∧(∀u5:Nat,let v5:=lv1N W t b5 u5;u5<a0→True∧v5=v5∧(∀w5:Nat,let x5:=lv1L W t b5 u5 w5;w5<v5→True∧x5=x5));b5≤a0→(d5=true→tn 11 (e5∧True∧g4∧(((0=0∧k5)∧z3)∧((k5∧(∀y5:Nat,y5<h5→True∧l5 y5=l5 y5))∧True)∧s_lvC.match_1 (fun z5:X_lvC=>Prop) (X_lvC.mk t h5 l5) (fun a6:Int=>fun b6:Nat=>fun c6:∀d6:Nat,Int=>b6≤100000))∧e5∧(g5=g5∧(∀e6:Nat,Nat.beq 1 1=true))∧w64 o5=o5∧(∃g6:Nat,c0∧g0∧h4∧o5=(g6:Int)∧(k1∧l1∧q1∧v1∧g2∧(y0∧(∀h6:Nat,let k6:=lv1N W t g6 h6;h6<a0→True∧cond (Nat.beq h6 g5) (woN h5 l5 t) (lv1N W t b5 h6)=k6∧(∀l6:Nat,l6<k6→True∧
    cond (Nat.beq h6 g5) (wdF h5 l5 t l6) (lv1L W t b5 h6 l6)=lv1L W t g6 h6 l6)))∧b4)∧g6≤a0∧a0-g6<a0-b5)))∧(d5=false→k4≤9223372036854775807→c0∧g0∧h4∧h0∧(k1∧l1∧q1∧v1∧g2∧q5∧b3∧d3∧(d1∧(∀o6:Nat,let q6:=lv2N W t 0 o6;o6<c1→True∧W.readyN o6=q6∧(∀u6:Nat,u6<q6→True∧W.ready o6 u6=lv2L W t 0 o6 u6)))∧a4)∧0≤c1∧(∀v6:Nat,let w6:=(v6:Int);let x6:=decide (w6<k4);let y6:=0≤w6∧w6<k4;let z6:=0+Int.toNat w6;let a7:=lv2N W t v6 z6;let b7:=a7=a7;let c7:=lv2L W t v6 z6;let d7:Int:=w6+1;let e7:=(d1∧(∀g7:Nat,let h7:=lv2N W t v6 g7;g7<c1→True∧h7=h7∧(∀k7:Nat,let l7:=lv2L W t v6 g7 k7;k7<h7→True∧l7=l7)))∧a4;v6≤c1→(x6=true→tn 11 (y6∧True∧g4∧(((0=0∧b7)∧z3)∧((b7∧(∀o7:Nat,o7<a7→True∧c7 o7=c7 o7))∧True)∧s_lvC.match_1 (fun q7:X_lvC=>Prop) (X_lvC.mk t a7 c7) (fun u7:Int=>fun v7:Nat=>fun w7:∀x7:Nat,Int=>v7≤100000))∧y6∧(z6=z6∧(∀y7:Nat,Nat.beq 1 1=true))∧w64 d7=d7∧(∃z7:Nat,c0∧g0∧h4∧d7=(z7:Int)∧(k1∧l1∧q1∧v1∧g2∧q5∧b3∧d3∧(d1∧(∀a8:Nat,let b8:=lv2N W t z7 a8;a8<c1→True∧cond (Nat.beq a8 z6) (woN a7 c7 t) (lv2N W t v6 a8)=b8∧(∀c8:Nat,c8<b8→True∧cond (Nat.beq a8 z6) (wdF a7 c7 t c8) (lv2L W t v6 a8 c8)=lv2L W t z7 a8 c8)))∧a4)∧z7≤c1∧c1-z7<c1-v6)))∧(x6=false→l4≤9223372036854775807→c0∧g0∧h0∧(k1∧l1∧q1∧v1∧g2∧q5∧b3∧(b1∧(∀d8:Nat,d8<a1→True∧W.cores d8=ofS W t 0 d8))∧e7)∧0≤a1∧(∀e8:Nat,let g8:=(e8:Int);let h8:=decide (g8<l4);let k8:=0≤g8∧g8<l4;let l8:=0+Int.toNat g8;let o8:=ofS W t e8 l8==t;let q8:Int:=g8+1;let r8:=w64 q8=q8;let u8:=q5∧b3∧(b1∧(∀v8:Nat,let w8:=ofS W t e8 v8;v8<a1→True∧w8=w8))∧e7;e8≤a1→(h8=true→tn 5 (k8∧
    tn 2 ((o8=true→k8∧(∀x8:Nat,o4)∧r8∧(∃y8:Nat,c0∧g0∧q8=(y8:Int)∧(k1∧l1∧q1∧v1∧g2∧q5∧b3∧(b1∧(∀z8:Nat,z8<a1→True∧cond (Nat.beq z8 l8) (-1) (ofS W t e8 z8)=ofS W t y8 z8))∧e7)∧y8≤a1∧a1-y8<a1-e8))∧(o8=false→r8∧(∃a9:Nat,c0∧g0∧q8=(a9:Int)∧(k1∧l1∧q1∧v1∧g2∧q5∧b3∧(b1∧(∀b9:Nat,b9<a1→True∧ofS W t e8 b9=ofS W t a9 b9))∧e7)∧a9≤a1∧a1-a9<a1-e8)))))∧(h8=false→tn 10 (u4∧True∧(True∧True)∧(∀c9:Nat,o4)∧u4∧(∀d9:Nat,o4)∧(q4≤9223372036854775807→c0∧g0∧h0∧(k1∧l1∧q1∧v1∧(x0∧(∀e9:Nat,let g9:=W.tasks e9;let h9:=lv4 w4 t 0 e9;e9<w0→(((((((((((((((((((True∧g9.r0=h9.r0)∧g9.r1=h9.r1)∧g9.r2=h9.r2)∧g9.r3=h9.r3)∧g9.r4=h9.r4)∧g9.r5=h9.r5)∧g9.r6=h9.r6)∧g9.r7=h9.r7)∧g9.pc=h9.pc)∧cond (Nat.beq e9 (0+v4)) 0 g9.st=h9.st)∧g9.prio=h9.prio)∧g9.node=h9.node)∧g9.space=h9.space)∧g9.helper=h9.helper)∧cond (Nat.beq e9 (0+v4)) (-1) g9.loc=h9.loc)∧g9.word=h9.word)∧g9.badge=h9.badge)∧g9.owes=h9.owes)∧g9.core=h9.core)∧g9.dom=h9.dom))∧u8)∧0≤w0∧(∀k9:Nat,let l9:=(k9:Int);let o9:=decide (l9<q4);let q9:=0≤l9∧l9<q4;let r9:=0+Int.toNat l9;let u9:=(lv4 w4 t k9 r9).owes==t;let v9:Int:=l9+1;let w9:=w64 v9=v9;k9≤w0→(o9=true→tn 5 (q9∧tn 3 ((u9=true→q9∧(∀x9:Nat,o4)∧w9∧(∃y9:Nat,c0∧g0∧v9=(y9:Int)∧(k1∧l1∧q1∧v1∧(x0∧(∀z9:Nat,let a10:=lv4 w4 t k9 z9;let b10:=lv4 w4 t y9 z9;z9<w0→(((((((((((((((((((True∧a10.r0=b10.r0)∧a10.r1=b10.r1)∧a10.r2=b10.r2)∧a10.r3=b10.r3)∧a10.r4=b10.r4)∧a10.r5=b10.r5)∧a10.r6=b10.r6)∧a10.r7=b10.r7)∧a10.pc=b10.pc)∧a10.st=b10.st)∧a10.prio=b10.prio)∧a10.node=b10.node)∧a10.space=b10.space)∧a10.helper=b10.helper)∧a10.loc=b10.loc)∧
    a10.word=b10.word)∧a10.badge=b10.badge)∧cond (Nat.beq z9 r9) (-1) a10.owes=b10.owes)∧a10.core=b10.core)∧a10.dom=b10.dom))∧u8)∧y9≤w0∧w0-y9<w0-k9))∧(u9=false→w9∧(∃c10:Nat,c0∧g0∧v9=(c10:Int)∧(k1∧l1∧q1∧v1∧(x0∧(∀d10:Nat,let e10:=lv4 w4 t k9 d10;let g10:=lv4 w4 t c10 d10;d10<w0→(((((((((((((((((((True∧e10.r0=g10.r0)∧e10.r1=g10.r1)∧e10.r2=g10.r2)∧e10.r3=g10.r3)∧e10.r4=g10.r4)∧e10.r5=g10.r5)∧e10.r6=g10.r6)∧e10.r7=g10.r7)∧e10.pc=g10.pc)∧e10.st=g10.st)∧e10.prio=g10.prio)∧e10.node=g10.node)∧e10.space=g10.space)∧e10.helper=g10.helper)∧e10.loc=g10.loc)∧e10.word=g10.word)∧e10.badge=g10.badge)∧e10.owes=g10.owes)∧e10.core=g10.core)∧e10.dom=g10.dom))∧u8)∧c10≤w0∧w0-c10<w0-k9)))))∧(o9=false→True∧(((((((((((True∧x4∧l0)∧x4∧q0)∧x4∧v0)∧x4∧x0)∧x4∧y0)∧x4∧z0)∧x4∧b1)∧x4∧d1)∧x4∧e1)∧x4∧g1)∧h1)∧l1∧q1∧v1∧(x0∧(∀h10:Nat,let k10:=lv4 w4 t k9 h10;let l10:=w4 h10;h10<w0→(((((((((((((((((((True∧k10.r0=l10.r0)∧k10.r1=l10.r1)∧k10.r2=l10.r2)∧k10.r3=l10.r3)∧k10.r4=l10.r4)∧k10.r5=l10.r5)∧k10.r6=l10.r6)∧k10.r7=l10.r7)∧k10.pc=l10.pc)∧k10.st=l10.st)∧k10.prio=l10.prio)∧k10.node=l10.node)∧k10.space=l10.space)∧k10.helper=l10.helper)∧k10.loc=l10.loc)∧k10.word=l10.word)∧k10.badge=l10.badge)∧k10.owes=cond (l10.owes==t) (-1) l10.owes)∧k10.core=l10.core)∧k10.dom=l10.dom))∧(y0∧(∀o10:Nat,o10<a0→True∧lv1N W t b5 o10=lvLN W t o10∧(∀q10:Nat,q10<lvLN W t o10→True∧lv1L W t b5 o10 q10=lvL W t o10 q10)))∧b3∧(b1∧(∀r10:Nat,r10<a1→True∧ofS W t e8 r10=ofC W t r10))∧(d1∧(∀u10:Nat,u10<c1→True∧lv2N W t v6 u10=lvRN W t u10∧(∀v10:Nat,
    v10<lvRN W t u10→True∧lv2L W t v6 u10 v10=lvR W t u10 v10)))∧g3∧x3∧True)))))))))))
set_option maxHeartbeats 2000000 in
theorem ok_leave:FnOK Tryz.prog glN 156 c_leave:=ok_of (.cons ok_lvC .nil) false Tryz.call156 Tryz.func156 (fun ⟨t,W⟩=> [.inv (an_lv1 W t [(0,pt0 0),(3,pt0 11),(4,.fn 209 1 (lsv [pt0 11]))] [(3,0)] 15),.inv (an_lv2 W t [(0,pt0 0),(3,pt0 11),(4,.fn 209 1 (lsv [pt0 11]))] [(3,0)] 39),.inv (an_lv3 W t [(0,pt0 0),(3,pt0 11)] [(3,0)] 63),.inv (an_lv4 W (sdS W t.toNat (-1) 0) t [(0,pt0 0),(3,pt0 11)] [(3,0)] 101)]) (V:=V_leave) (fun _=>by kernel_rfl) fun ⟨t,W⟩ hp=>by
  dsimp only [s_leave] at hp
  dsimp only [V_leave,tn,w64]
  simp only [std,stb,eq_self,implies_true,Bool.cond_self]
  try simp only [wd_eta]
  obtain ⟨t0,t1,hI⟩:=hp
  have z1:=hI.z.lines
  have z2:=hI.z.ready
  have z3:=hI.z.tasks
  have z4:=hI.z.k1
  have z5:=hI.z.c1
  intro _
  refine ⟨fun q _=>⟨(lv1N_ge (Nat.zero_le _)).symm,fun v _=>by rw [lv1L_ge (Nat.zero_le _)]⟩,fun s hs=>⟨fun h=>?_,fun h=>?_⟩⟩
  · have hlt:=lt_of_dec h
    have hl:=(hI.ln s (by omega)).1
    exact ⟨by omega,by rw [lv1N_ge (Nat.le_refl _)];omega,by omega,fun _=>rfl,wr_in (by omega) (by omega),s+1,by omega,fun q _=>⟨lv1N_s,fun v hv=>lv1L_sd hv⟩,by omega,by omega⟩
  have hge:=ge_of_dec h
  obtain rfl:s=W.nLines:=by omega
  clear h hge
  intro _
  refine ⟨fun q _=>⟨(lv2N_ge (Nat.zero_le _)).symm,fun v _=>by rw [lv2L_ge (Nat.zero_le _)]⟩,fun s hs=>⟨fun h=>?_,fun h=>?_⟩⟩
  · have hlt:=lt_of_dec h
    have hl:=(hI.rd s (by omega)).1
    exact ⟨by omega,by rw [lv2N_ge (Nat.le_refl _)];omega,by omega,fun _=>rfl,wr_in (by omega) (by omega),s+1,by omega,fun q _=>⟨lv2N_s,fun v hv=>lv2L_sd hv⟩,by omega,by omega⟩
  have hge:=ge_of_dec h
  obtain rfl:s=W.nReady:=by omega
  clear h hge
  intro _
  refine ⟨fun j _=>(ofS_ge (Nat.zero_le _)).symm,fun s hs=>⟨fun h=>?_,fun h=>?_⟩⟩
  · have hlt:=lt_of_dec h
    refine ⟨by omega,fun h1=>⟨by omega,wr_in (by omega) (by omega),s+1,by omega,fun j _=>?_,by omega,by omega⟩,fun h1=>⟨wr_in (by omega) (by omega),s+1,by omega,fun j _=>?_,by omega,by omega⟩⟩
    · rw [ofS_ge (Nat.le_refl _)] at h1
      rcases Nat.lt_trichotomy j s with e|e|e
      · rw [beq_ne (by omega),ofS_lt e,ofS_lt (by omega:j<s+1)];rfl
      · subst e;rw [Nat.beq_refl,ofS_lt (Nat.lt_succ_self _)];unfold ofC;rw [h1];rfl
      · rw [beq_ne (by omega),ofS_ge (by omega),ofS_ge (by omega:s+1≤j)];rfl
    · rw [ofS_ge (Nat.le_refl _)] at h1
      rcases Nat.lt_trichotomy j s with e|e|e
      · rw [ofS_lt e,ofS_lt (by omega:j<s+1)]
      · subst e;rw [ofS_ge (Nat.le_refl _),ofS_lt (Nat.lt_succ_self _)];unfold ofC;rw [h1];rfl
      · rw [ofS_ge (by omega),ofS_ge (by omega:s+1≤j)]
  have hge:=ge_of_dec h
  obtain rfl:s=W.nCores:=by omega
  clear h hge
  refine ⟨⟨t0,t1⟩,⟨t0,t1⟩,fun _=>⟨fun j _=>?_,fun s hs=>⟨fun h=>?_,fun h=>?_⟩⟩⟩
  · rcases Decidable.em (j=t.toNat) with e|e
    · subst e
      simp only [Nat.beq_refl,cond_true,lv4_ge (Nat.zero_le _)]
      unfold sdS
      rw [updF_at]
      repeat' (first|exact trivial|rfl|refine And.intro ?_ ?_)
    · simp only [beq_ne e,cond_false,lv4_ge (Nat.zero_le _)]
      unfold sdS
      rw [updF_ne e]
      repeat' (first|exact trivial|rfl|refine And.intro ?_ ?_)
  · have hlt:=lt_of_dec h
    refine ⟨by omega,fun h1=>⟨by omega,wr_in (by omega) (by omega),s+1,by omega,fun j _=>?_,by omega,by omega⟩,fun h1=>⟨wr_in (by omega) (by omega),s+1,by omega,fun j _=>?_,by omega,by omega⟩⟩
    · rw [lv4_ge (Nat.le_refl _)] at h1
      rcases Nat.lt_trichotomy j s with e|e|e
      · rw [beq_ne (by omega),lv4_lt e,lv4_lt (by omega:j<s+1)];exact run20 rfl
      · subst e
        rw [Nat.beq_refl,lv4_lt (Nat.lt_succ_self _),lv4_ge (Nat.le_refl _),oweF_y h1]
        simp only [cond_true]
        repeat' (first|exact trivial|rfl|refine And.intro ?_ ?_)
      · rw [beq_ne (by omega),lv4_ge (by omega),lv4_ge (by omega:s+1≤j)];exact run20 rfl
    · rw [lv4_ge (Nat.le_refl _)] at h1
      rcases Nat.lt_trichotomy j s with e|e|e
      · rw [lv4_lt e,lv4_lt (by omega:j<s+1)];exact run20 rfl
      · subst e;rw [lv4_ge (Nat.le_refl _),lv4_lt (Nat.lt_succ_self _),oweF_n h1];exact run20 rfl
      · rw [lv4_ge (by omega),lv4_ge (by omega:s+1≤j)];exact run20 rfl
  have hge:=ge_of_dec h
  obtain rfl:s=W.nTasks:=by omega
  refine ⟨fun j hj=>?_,fun j hj=>⟨lv1N_lt hj,fun v _=>by rw [lv1L_lt hj]⟩,fun j hj=>ofS_lt hj,fun j hj=>⟨lv2N_lt hj,fun v _=>by rw [lv2L_lt hj]⟩⟩
  rw [lv4_lt hj]
  exact run20 rfl
end Go.Proofs.YtdjilaofmdhikaaGreatDoor
set_option linter.unusedVariables false
set_option linter.unusedSimpArgs false
set_option maxRecDepth 100000
namespace Go.Proofs.YtdjilaofmdhikaaGreatDoor
open Go.RowKit Go.Sy
structure JW (W:Wd):Prop where
  i:Inv 1000 W
  pg: ∀c,c<W.nTlbs→ ∀k,k<W.tlbsN c→0≤(W.tlbs c k).pg∧(W.tlbs c k).pg≤255
  hp: ∀i,i<W.nTasks→ ∀f,f<W.nKinds→(W.tasks i).helper=f→W.kinds f=7
def TlO (W:Wd):Prop:= ∀c,c<W.nTlbs→ ∀k,k<W.tlbsN c→wrB W.nRam W.ram (W.tlbs c k)=false
structure JJ (W:Wd):Prop where
  w:JW W
  t:TlO W
theorem JW.tl {W:Wd} (h:JW W):TlR W:=⟨h.i.z,h.i.ram,h.i.tl,h.pg⟩
theorem Szd.kn {W:Wd} (h:Szd W) (g:Nat→Int):Szd {W with kinds:=g}:=⟨h.k0,h.k1,h.c0,h.c1,h.ram,h.slots,h.tasks,h.lines,h.bits,h.ready,h.tlbs,h.d0,h.d1,h.t0,h.t1⟩
def cntF (W:Wd):Nat:=cntB W.nSlots fun i=>(W.slots i).kind !=0
def kz (W:Wd) (f:Int):Wd:={W with kinds:=updF W.kinds f.toNat 0}
def pgW (W:Wd) (f:Int):Wd:=umW (kz W f) f
def spT (f:Int) (x:Run):Run:={x with space:=bif x.space==f then -1 else x.space}
def ndT (f:Int) (x:Run):Run:={x with node:=bif x.node==f then -1 else x.node}
def hpT (k f:Int) (x:Run):Run:={x with helper:=bif k==7&&x.helper==f then -1 else x.helper}
def spW (W:Wd) (f:Int):Wd:={W with kinds:=updF W.kinds f.toNat 0,tasks:=fun i=>spT f (W.tasks i),tlbsN:=fgN (spB f) W,tlbs:=fgT (spB f) W}
def nd0 (W:Wd) (f:Int):Wd:={W with kinds:=updF W.kinds f.toNat 0,tasks:=fun i=>ndT f (W.tasks i)}
def ndK (D:Wd→Int→Wd) (W:Wd) (f:Int):Nat→Wd
  |0=>nd0 W f
  |i+1=>D (ndK D W f i) (f*16+(15 -i))
def tdT (S:Wd) (f:Int) (i:Nat):Run:=bif Nat.beq i f.toNat then Run.blank else bif decide (0≤(S.tasks f.toNat).owes)&&Nat.beq i (S.tasks f.toNat).owes.toNat then {S.tasks i with st:=0} else S.tasks i
def tdW (W:Wd) (f:Int):Wd:={stpW (kz W f) f with tasks:=tdT (stpW (kz W f) f) f}
def drT (W:Wd) (f:Int) (i:Nat):Run:=hpT (W.kinds f.toNat) f (bif inB' (W.linesN f.toNat) (W.lines f.toNat) i then {W.tasks i with st:=0,loc:= -1} else W.tasks i)
def drW (W:Wd) (f:Int):Wd:={W with kinds:=updF W.kinds f.toNat 0,tasks:=drT W f,linesN:=updF W.linesN f.toNat 0,bits:=updF W.bits f.toNat 0}
def goneW (D:Wd→Int→Wd) (W:Wd) (f:Int):Wd:=
  bif W.kinds f.toNat==2||W.kinds f.toNat==3 then pgW W f else bif W.kinds f.toNat==4 then spW W f else bif W.kinds f.toNat==5 then ndK D W f 16 else
  bif W.kinds f.toNat==6 then tdW W f else bif W.kinds f.toNat==7||W.kinds f.toNat==8 then drW W f else kz W f
def clrW (W:Wd) (s:Int):Wd:={W with slots:=updF (fun j=>trn s (W.slots s.toNat).from_ (W.slots j)) s.toNat blS}
def sameK (W:Wd) (k:Slt):Bool:=anyB W.nSlots fun i=>(W.slots i).kind==k.kind&&(W.slots i).base==k.base
def dropBy (G:Wd→Int→Wd) (W:Wd) (s:Int):Wd:=
  bif hasE W s==0 then (bif (W.slots s.toNat).kind==1||sameK (clrW W s) (W.slots s.toNat) then clrW W s else G (clrW W s) (W.slots s.toNat).base) else W
def bur:Nat→Wd→Int→Wd
  |0=>goneW fun W _=>W
  |n+1=>goneW (dropBy (bur n))
theorem gone_pg {D:Wd→Int→Wd} {W:Wd} {f:Int} (h:W.kinds f.toNat=2∨W.kinds f.toNat=3):goneW D W f=pgW W f:=by unfold goneW;rcases h with h|h<;>rw [h]<;>rfl
theorem gone_sp {D:Wd→Int→Wd} {W:Wd} {f:Int} (h:W.kinds f.toNat=4):goneW D W f=spW W f:=by unfold goneW;rw [h];rfl
theorem gone_nd {D:Wd→Int→Wd} {W:Wd} {f:Int} (h:W.kinds f.toNat=5):goneW D W f=ndK D W f 16:=by unfold goneW;rw [h];rfl
theorem gone_td {D:Wd→Int→Wd} {W:Wd} {f:Int} (h:W.kinds f.toNat=6):goneW D W f=tdW W f:=by unfold goneW;rw [h];rfl
theorem gone_dr {D:Wd→Int→Wd} {W:Wd} {f:Int} (h:W.kinds f.toNat=7∨W.kinds f.toNat=8):goneW D W f=drW W f:=by unfold goneW;rcases h with h|h<;>rw [h]<;>rfl
theorem gone_no {D:Wd→Int→Wd} {W:Wd} {f:Int} (h:W.kinds f.toNat=0∨W.kinds f.toNat=1):goneW D W f=kz W f:=by unfold goneW;rcases h with h|h<;>rw [h]<;>rfl
theorem TkR.sp {W:Wd} {x:Run} {f:Int} (h:TkR W x):TkR W (spT f x):=by
  refine ⟨h.reg,h.pc,h.word,h.badge,h.st,h.prio,h.core,h.dom,h.node,?_,h.helper,h.loc,h.owes⟩
  unfold spT
  have:=h.space
  cases x.space==f
  · exact this
  · exact ⟨Int.le_refl _,show (-1:Int)<_ by omega⟩
theorem TkR.nd {W:Wd} {x:Run} {f:Int} (h:TkR W x):TkR W (ndT f x):=by
  refine ⟨h.reg,h.pc,h.word,h.badge,h.st,h.prio,h.core,h.dom,?_,h.space,h.helper,h.loc,h.owes⟩
  unfold ndT
  have:=h.node
  cases x.node==f
  · exact this
  · exact ⟨Int.le_refl _,show (-1:Int)<_ by omega⟩
theorem TkR.hp {W:Wd} {x:Run} {k f:Int} (h:TkR W x):TkR W (hpT k f x):=by
  refine ⟨h.reg,h.pc,h.word,h.badge,h.st,h.prio,h.core,h.dom,h.node,h.space,?_,h.loc,h.owes⟩
  unfold hpT
  have:=h.helper
  cases k==7&&x.helper==f
  · exact this
  · exact ⟨Int.le_refl _,show (-1:Int)<_ by omega⟩
theorem TkR.still {W:Wd} {x:Run} (h:TkR W x):TkR W {x with st:=0}:=⟨h.reg,h.pc,h.word,h.badge,⟨Int.le_refl 0,show (0:Int)≤6 by decide⟩,h.prio,h.core,h.dom,h.node,h.space,h.helper,h.loc,h.owes⟩
theorem TkR.off {W:Wd} {x:Run} (h:TkR W x):TkR W {x with loc:= -1}:=⟨h.reg,h.pc,h.word,h.badge,h.st,h.prio,h.core,h.dom,h.node,h.space,h.helper,⟨Int.le_refl _,show (-1:Int)<_ by have:=h.loc;omega⟩,h.owes⟩
theorem TkR.owe {W:Wd} {x:Run} {t:Int} (h:TkR W x):TkR W (oweF x t):=by
  refine ⟨h.reg,h.pc,h.word,h.badge,h.st,h.prio,h.core,h.dom,h.node,h.space,h.helper,h.loc,?_⟩
  unfold oweF
  have:=h.owes
  cases x.owes==t
  · exact this
  · exact ⟨Int.le_refl _,show (-1:Int)<_ by omega⟩
theorem TkR.blk {W:Wd} (h:Szd W):TkR W Run.blank:=by
  have:=h.c0
  have:=h.k0
  refine ⟨by decide,by decide,by decide,by decide,by decide,by decide,?_,by decide,?_,?_,?_,?_,?_⟩<;>simp only [Run.blank]<;>omega
theorem inv_kd {W:Wd} (h:Inv 1000 W) {g:Nat→Int} (hg: ∀i,i<W.nKinds→0≤g i∧g i≤8):Inv 1000 {W with kinds:=g}:=
  ⟨h.z.kn g,h.ram,hg,h.dm,h.sl,fun i hi=>(h.tk i hi).of rfl rfl,h.ln,h.rd,h.co,h.bt,h.tl⟩
theorem inv_ram {W:Wd} (h:Inv 1000 W) {g:Nat→Int} (hg: ∀i,i<W.nRam→isW (g i)):Inv 1000 {W with ram:=g}:=
  ⟨⟨h.z.k0,h.z.k1,h.z.c0,h.z.c1,h.z.ram,h.z.slots,h.z.tasks,h.z.lines,h.z.bits,h.z.ready,h.z.tlbs,h.z.d0,h.z.d1,h.z.t0,h.z.t1⟩,hg,h.kd,h.dm,h.sl,fun i hi=>(h.tk i hi).of rfl rfl,h.ln,h.rd,h.co,h.bt,h.tl⟩
theorem inv_tk {W:Wd} (h:Inv 1000 W) {g:Nat→Run} (hg: ∀i,i<W.nTasks→TkR W (g i)):Inv 1000 {W with tasks:=g}:=
  ⟨⟨h.z.k0,h.z.k1,h.z.c0,h.z.c1,h.z.ram,h.z.slots,h.z.tasks,h.z.lines,h.z.bits,h.z.ready,h.z.tlbs,h.z.d0,h.z.d1,h.z.t0,h.z.t1⟩,h.ram,h.kd,h.dm,h.sl,fun i hi=>(hg i hi).of rfl rfl,h.ln,h.rd,h.co,h.bt,h.tl⟩
theorem inv_tl {W:Wd} (h:Inv 1000 W) {p:Nat→Nat} {g:Nat→Nat→Ent4} (hg: ∀i,i<W.nTlbs→p i≤1000):Inv 1000 {W with tlbsN:=p,tlbs:=g}:=
  ⟨⟨h.z.k0,h.z.k1,h.z.c0,h.z.c1,h.z.ram,h.z.slots,h.z.tasks,h.z.lines,h.z.bits,h.z.ready,h.z.tlbs,h.z.d0,h.z.d1,h.z.t0,h.z.t1⟩,h.ram,h.kd,h.dm,h.sl,fun i hi=>(h.tk i hi).of rfl rfl,h.ln,h.rd,h.co,h.bt,hg⟩
theorem inv_sl {W:Wd} (h:Inv 1000 W) {g:Nat→Slt} (hg: ∀i,i<W.nSlots→slNo (g i)=0∧((g i).kind≠0→(g i).base+(g i).len≤W.nKinds)∧ -1≤(g i).from_∧(g i).from_<W.nSlots):Inv 1000 {W with slots:=g}:=
  ⟨⟨h.z.k0,h.z.k1,h.z.c0,h.z.c1,h.z.ram,h.z.slots,h.z.tasks,h.z.lines,h.z.bits,h.z.ready,h.z.tlbs,h.z.d0,h.z.d1,h.z.t0,h.z.t1⟩,h.ram,h.kd,h.dm,hg,fun i hi=>(h.tk i hi).of rfl rfl,h.ln,h.rd,h.co,h.bt,h.tl⟩
theorem inv_lb {W:Wd} (h:Inv 1000 W) {p:Nat→Nat} {b:Nat→Int} (hp: ∀i,i<W.nLines→p i≤W.linesN i) (hb: ∀i,i<W.nBits→0≤b i∧b i≤65535):Inv 1000 {W with linesN:=p,bits:=b}:=
  ⟨⟨h.z.k0,h.z.k1,h.z.c0,h.z.c1,h.z.ram,h.z.slots,h.z.tasks,h.z.lines,h.z.bits,h.z.ready,h.z.tlbs,h.z.d0,h.z.d1,h.z.t0,h.z.t1⟩,h.ram,h.kd,h.dm,h.sl,fun i hi=>(h.tk i hi).of rfl rfl,fun i hi=>⟨Nat.le_trans (hp i hi) (h.ln i hi).1,fun k hk=>(h.ln i hi).2 k (Nat.lt_of_lt_of_le hk (hp i hi))⟩,h.rd,h.co,hb,h.tl⟩
end Go.Proofs.YtdjilaofmdhikaaGreatDoor
