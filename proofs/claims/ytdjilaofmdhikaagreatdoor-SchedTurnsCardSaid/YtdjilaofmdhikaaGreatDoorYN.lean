/- Who is ready. -/
import Derived.Test.YtdjilaofmdhikaaGreatDoorYM
import Derived.Shelf.Slices.Cells
import Derived.Test.YtdjilaofmdhikaaGreatDoorYK
import Derived.Test.YtdjilaofmdhikaaGreatDoorYJ
set_option linter.unusedVariables false
set_option linter.unusedSimpArgs false
set_option linter.unusedVariables false
set_option linter.unusedSimpArgs false
set_option maxRecDepth 100000
namespace Go.Proofs.YtdjilaofmdhikaaGreatDoor
open Go.RowKit Go.Sy
def rkZ (t:Run):Int:=t.core*4+t.prio
def rkOf (t:Run):Nat:=(rkZ t).toNat
def wkS (W:Wd) (t i:Nat):Run:=updF W.tasks t {W.tasks t with st:=1,loc:= -1} i
def wkN (W:Wd) (t i:Nat):Nat:=updF W.readyN (rkOf (W.tasks t)) (W.readyN (rkOf (W.tasks t))+1) i
def wkL (W:Wd) (t i k:Nat):Int:=updF W.ready (rkOf (W.tasks t)) (apF (W.readyN (rkOf (W.tasks t))) (W.ready (rkOf (W.tasks t))) t) i k
def wokW (W:Wd) (t:Nat):Wd:={W with tasks:=wkS W t,readyN:=wkN W t,ready:=wkL W t}
theorem ap_one {n k:Nat} {f:Nat→Int} {x:Int} (h:k<n+1):(bif k.blt n then f k else [x].getD (k -n) 0)=apF n f x k:=by
  unfold apF
  rcases Nat.lt_or_ge k n with h1|h1
  · rw [blt_t h1];rfl
  · obtain rfl:k=n:=by omega
    rw [blt_f (Nat.le_refl _),Nat.sub_self];rfl
theorem run20 {x y:Run} (h:x=y):((((((((((((((((((((x.r0=y.r0∧x.r1=y.r1)∧x.r2=y.r2)∧x.r3=y.r3)∧x.r4=y.r4)∧x.r5=y.r5)∧x.r6=y.r6)∧x.r7=y.r7)∧x.pc=y.pc)∧x.st=y.st)∧x.prio=y.prio)∧x.node=y.node)∧x.space=y.space)∧x.helper=y.helper)∧x.loc=y.loc)∧x.word=y.word)∧x.badge=y.badge)∧x.owes=y.owes)∧x.core=y.core)∧x.dom=y.dom)):=by
  subst h;exact ⟨⟨⟨⟨⟨⟨⟨⟨⟨⟨⟨⟨⟨⟨⟨⟨⟨⟨⟨rfl,rfl⟩,rfl⟩,rfl⟩,rfl⟩,rfl⟩,rfl⟩,rfl⟩,rfl⟩,rfl⟩,rfl⟩,rfl⟩,rfl⟩,rfl⟩,rfl⟩,rfl⟩,rfl⟩,rfl⟩,rfl⟩,rfl⟩
theorem wkN_eq {W:Wd} {t j:Nat}:(bif j.beq (rkOf (W.tasks t)) then W.readyN (rkOf (W.tasks t))+1 else W.readyN j)=wkN W t j:=rfl
theorem wkL_eq {W:Wd} {t j k:Nat} {x:Int} (hx:x=(t:Int)) (h:k<wkN W t j):(bif j.beq (rkOf (W.tasks t)) then bif k.blt (W.readyN (rkOf (W.tasks t))) then W.ready (rkOf (W.tasks t)) k else [x].getD (k -W.readyN (rkOf (W.tasks t))) 0 else W.ready j k)=wkL W t j k:=by
  subst hx
  unfold wkL
  rcases Decidable.em (j=rkOf (W.tasks t)) with e|e
  · rw [e] at h⊢
    rw [Nat.beq_refl,updF_at]
    refine ap_one ?_
    unfold wkN at h;rw [updF_at] at h;exact h
  · rw [beq_ne e,updF_ne e];rfl
structure WkP (W:Wd) (t:Int):Prop where
  t0:0≤t
  t1:t<W.nTasks
  r0:0≤rkZ (W.tasks t.toNat)
  r1:rkZ (W.tasks t.toNat)<W.nReady
  c0:0≤(W.tasks t.toNat).core
  c1:(W.tasks t.toNat).core≤100
  p0:0≤(W.tasks t.toNat).prio
  p1:(W.tasks t.toNat).prio≤100
  n:W.readyN (rkOf (W.tasks t.toNat))≤100000
structure X_woken where
  (t:Int) (W:Wd)
def s_woken:Sy.Spec:=⟨X_woken,fun ⟨t,_⟩=> [.ptr 0 0 none 0 0,.v (.int .i64 t)],fun ⟨_,W⟩=>wMem W,fun ⟨t,W⟩=>WkP W t,fun _=> .tp 0 (lsv []),fun ⟨t,W⟩=>wMem (wokW W t.toNat),
  fun args mem=>match args with| [a0,a1]=>some ⟨intD (a1),wMJD mem 0⟩|_=>none⟩
def c_woken:Con:=⟨[true],s_woken.g,none⟩
def V_woken:X_woken→Prop:=fun ⟨t,W⟩=>let a0:=W.nTasks;let b0:=0≤t∧t<(a0:Int);let c0:=Int.toNat t;let d0:=W.tasks (0+c0);let e0:Int:=d0.core*4;let g0:Int:=e0+d0.prio;let h0:=W.nReady;let k0:=0≤g0∧g0<(h0:Int);let l0:=0+Int.toNat g0;let o0:=W.readyN l0;let q0:=true=true;let u0:=True∧q0;let v0:=o0+1;let w0:=0=0;let x0:=W.nRam;let y0:=x0=x0;let z0:=W.nKinds;let a1:=z0=z0;let b1:=W.nSlots;let c1:=b1=b1;let d1:=a0=a0;let e1:=W.nLines;let g1:=e1=e1;let h1:=W.nBits;let k1:=h1=h1;let l1:=W.nCores;let o1:=l1=l1;let q1:=h0=h0;let u1:=W.nTlbs;let v1:=u1=u1;let w1:=W.nDoms;let x1:=w1=w1;let y1:=Wd.mk x0 W.ram z0 W.kinds b1 W.slots a0 (wkS W c0) e1 W.linesN W.lines h1 W.bits l1 W.cores h0 (wkN W c0) (wkL W c0) u1 W.tlbsN W.tlbs w1 W.doms W.time;b0∧(∀z1:Nat,false=false)∧b0∧(∀a2:Nat,false=false)∧tn 5 (b0∧tn 2 (w64 e0=e0∧tn 5 (b0∧tn 2 (w64 g0=g0∧tn 11 (k0∧True∧(o0*8≤140737488355328∧(∀b2:Nat,q0))∧tn 2 (tn 2 True∧(((∀c2:Nat,u0)∧(∀d2:Nat,u0)∧True)∧(o0+1)*8≤140737488355328∧(∀e2:Nat,q0))∧(v0*8≤140737488355328∧(∀g2:Nat,q0))∧k0∧(∀h2:Nat,Nat.beq 1 1=true)∧True∧(((((((((((True∧w0∧y0)∧w0∧a1)∧w0∧c1)∧w0∧d1)∧w0∧g1)∧w0∧k1)∧w0∧o1)∧w0∧q1)∧w0∧v1)∧w0∧x1)∧W.time=W.time)∧(y0∧(∀k2:Nat,k2<x0→True∧W.ram k2=W.ram k2))∧(a1∧(∀l2:Nat,l2<z0→True∧W.kinds l2=W.kinds l2))∧(c1∧(∀o2:Nat,let q2:=W.slots o2;let u2:=y1.slots o2;o2<b1→((((((True∧q2.kind=u2.kind)∧q2.base=u2.base)∧q2.len=u2.len)∧q2.mark=u2.mark)∧q2.rights=u2.rights)∧q2.badge=u2.badge)∧q2.from_=u2.from_))∧(d1∧(∀v2:Nat,let w2:=W.tasks v2;let x2:=y1.tasks v2;v2<a0→(((((((((((((((((((True∧w2.r0=x2.r0)∧
    w2.r1=x2.r1)∧w2.r2=x2.r2)∧w2.r3=x2.r3)∧w2.r4=x2.r4)∧w2.r5=x2.r5)∧w2.r6=x2.r6)∧w2.r7=x2.r7)∧w2.pc=x2.pc)∧cond (Nat.beq v2 (0+c0)) 1 w2.st=x2.st)∧w2.prio=x2.prio)∧w2.node=x2.node)∧w2.space=x2.space)∧w2.helper=x2.helper)∧cond (Nat.beq v2 (0+c0)) (-1) w2.loc=x2.loc)∧w2.word=x2.word)∧w2.badge=x2.badge)∧w2.owes=x2.owes)∧w2.core=x2.core)∧w2.dom=x2.dom))∧(g1∧(∀y2:Nat,let z2:=W.linesN y2;y2<e1→True∧z2=z2∧(∀a3:Nat,a3<z2→True∧W.lines y2 a3=W.lines y2 a3)))∧(k1∧(∀b3:Nat,b3<h1→True∧W.bits b3=W.bits b3))∧(o1∧(∀c3:Nat,c3<l1→True∧W.cores c3=W.cores c3))∧(q1∧(∀d3:Nat,d3<h0→True∧cond (Nat.beq d3 l0) v0 (W.readyN d3)=wkN W c0 d3∧(∀e3:Nat,e3<wkN W c0 d3→True∧cond (Nat.beq d3 l0) (cond (Nat.blt e3 o0) (W.ready l0 (0+(0+e3))) (List.getD [t] (0+(e3-o0)) 0)) (W.ready d3 e3)=wkL W c0 d3 e3)))∧(v1∧(∀g3:Nat,let h3:=W.tlbsN g3;g3<u1→True∧h3=h3∧(∀k3:Nat,let l3:=W.tlbs g3 k3;let o3:=y1.tlbs g3 k3;k3<h3→(((True∧l3.sp=o3.sp)∧l3.pg=o3.pg)∧l3.fr=o3.fr)∧l3.wr=o3.wr)))∧(x1∧(∀q3:Nat,q3<w1→True∧W.doms q3=W.doms q3))∧True))))))
theorem ok_woken:FnOK Tryz.prog glN 96 c_woken:=ok_of .nil false Tryz.call96 Tryz.func96 (fun _=> []) (V:=V_woken) (fun _=>by kernel_rfl) fun ⟨t,W⟩ hp=>by
  dsimp only [s_woken] at hp
  dsimp only [V_woken,tn,w64]
  simp only [std,stb,eq_self,implies_true,Bool.cond_self]
  try simp only [wd_eta]
  obtain ⟨t0,t1,r0,r1,c0,c1,p0,p1,hn⟩:=hp
  have et:t=(t.toNat:Int):=by omega
  have w1:IntKind.i64.wrap ((W.tasks t.toNat).core*4)=(W.tasks t.toNat).core*4:=wr_in (by omega) (by omega)
  have w2:IntKind.i64.wrap ((W.tasks t.toNat).core*4+(W.tasks t.toNat).prio)=(W.tasks t.toNat).core*4+(W.tasks t.toNat).prio:=wr_in (by omega) (by omega)
  have n1:W.readyN ((W.tasks t.toNat).core*4+(W.tasks t.toNat).prio).toNat≤100000:=hn
  have ls: ∀j,j<W.nReady→_:=fun j _=>And.intro (wkN_eq (W:=W) (t:=t.toNat) (j:=j)) (fun k hk=>wkL_eq (W:=W) (t:=t.toNat) (j:=j) (k:=k) et hk)
  refine ⟨⟨t0,t1⟩,⟨t0,t1⟩,⟨t0,t1⟩,w1,⟨t0,t1⟩,w2,⟨r0,r1⟩,by omega,by omega,by omega,⟨r0,r1⟩,fun _=>rfl,fun j _=>by
    rcases Decidable.em (j=t.toNat) with h|h
    · subst h;simp only [Nat.beq_refl,cond_true];unfold wkS;rw [updF_at];exact ⟨⟨⟨⟨⟨⟨⟨⟨⟨⟨⟨⟨⟨⟨⟨⟨⟨⟨⟨rfl,rfl⟩,rfl⟩,rfl⟩,rfl⟩,rfl⟩,rfl⟩,rfl⟩,rfl⟩,rfl⟩,rfl⟩,rfl⟩,rfl⟩,rfl⟩,rfl⟩,rfl⟩,rfl⟩,rfl⟩,rfl⟩,rfl⟩
    · simp only [beq_ne h,cond_false];unfold wkS;rw [updF_ne h];exact run20 rfl,fun j hj=>ls j hj⟩
structure X_wake where
  (t:Int) (W:Wd)
def s_wake:Sy.Spec:=⟨X_wake,fun ⟨t,_⟩=> [.ptr 0 0 none 0 0,.v (.int .i64 t)],fun ⟨_,W⟩=>wMem W,fun ⟨t,W⟩=>WkP W t,fun _=> .tp 0 (lsv []),fun ⟨t,W⟩=>wMem (wokW W t.toNat),
  fun args mem=>match args with| [a0,a1]=>some ⟨intD (a1),wMJD mem 0⟩|_=>none⟩
def c_wake:Con:=⟨[true],s_wake.g,none⟩
def V_wake:X_wake→Prop:=fun ⟨t,W⟩=>let a0:=W.nTasks;let b0:=Int.toNat t;let c0:=0+b0;let d0:=W.tasks c0;let e0:Int:=d0.core*4;let g0:Int:=e0+d0.prio;let h0:=W.nReady;let k0:=0+Int.toNat g0;let l0:=W.readyN k0;let o0:=l0+1;let q0:=0=0;let u0:=W.nRam;let v0:=u0=u0;let w0:=W.nKinds;let x0:=w0=w0;let y0:=W.nSlots;let z0:=y0=y0;let a1:=a0=a0;let b1:=W.nLines;let c1:=b1=b1;let d1:=W.nBits;let e1:=d1=d1;let g1:=W.nCores;let h1:=g1=g1;let k1:=h0=h0;let l1:=W.nTlbs;let o1:=l1=l1;let q1:=W.nDoms;let u1:=q1=q1;let v1:=Wd.mk u0 W.ram w0 W.kinds y0 W.slots a0 (wkS W b0) b1 W.linesN W.lines d1 W.bits g1 W.cores h0 (wkN W b0) (wkL W b0) l1 W.tlbsN W.tlbs q1 W.doms W.time;(0≤t∧t<(a0:Int))∧(∀w1:Nat,false=false)∧(∀x1:Nat,false=false)∧tn 8 (w64 e0=e0∧tn 4 (w64 g0=g0∧(0≤g0∧g0<(h0:Int))∧True∧(True∧o0*8≤140737488355328∧(∀y1:Nat,true=true))∧(k0=k0∧(∀z1:Nat,Nat.beq 1 1=true))∧True∧(((((((((((True∧q0∧v0)∧q0∧x0)∧q0∧z0)∧q0∧a1)∧q0∧c1)∧q0∧e1)∧q0∧h1)∧q0∧k1)∧q0∧o1)∧q0∧u1)∧W.time=W.time)∧(v0∧(∀a2:Nat,a2<u0→True∧W.ram a2=W.ram a2))∧(x0∧(∀b2:Nat,b2<w0→True∧W.kinds b2=W.kinds b2))∧(z0∧(∀c2:Nat,let d2:=W.slots c2;let e2:=v1.slots c2;c2<y0→((((((True∧d2.kind=e2.kind)∧d2.base=e2.base)∧d2.len=e2.len)∧d2.mark=e2.mark)∧d2.rights=e2.rights)∧d2.badge=e2.badge)∧d2.from_=e2.from_))∧(a1∧(∀g2:Nat,let h2:=W.tasks g2;let k2:=v1.tasks g2;g2<a0→(((((((((((((((((((True∧h2.r0=k2.r0)∧h2.r1=k2.r1)∧h2.r2=k2.r2)∧h2.r3=k2.r3)∧h2.r4=k2.r4)∧h2.r5=k2.r5)∧h2.r6=k2.r6)∧h2.r7=k2.r7)∧h2.pc=k2.pc)∧cond (Nat.beq g2 c0) 1 h2.st=k2.st)∧h2.prio=k2.prio)∧h2.node=k2.node)∧
    h2.space=k2.space)∧h2.helper=k2.helper)∧cond (Nat.beq g2 c0) (-1) h2.loc=k2.loc)∧h2.word=k2.word)∧h2.badge=k2.badge)∧h2.owes=k2.owes)∧h2.core=k2.core)∧h2.dom=k2.dom))∧(c1∧(∀l2:Nat,let o2:=W.linesN l2;l2<b1→True∧o2=o2∧(∀q2:Nat,q2<o2→True∧W.lines l2 q2=W.lines l2 q2)))∧(e1∧(∀u2:Nat,u2<d1→True∧W.bits u2=W.bits u2))∧(h1∧(∀v2:Nat,v2<g1→True∧W.cores v2=W.cores v2))∧(k1∧(∀w2:Nat,w2<h0→True∧cond (Nat.beq w2 k0) o0 (W.readyN w2)=wkN W b0 w2∧(∀x2:Nat,x2<wkN W b0 w2→True∧cond (Nat.beq w2 k0) (cond (Nat.blt x2 l0) (W.ready k0 (0+x2)) (List.getD [t] (0+(x2-l0)) 0)) (W.ready w2 x2)=wkL W b0 w2 x2)))∧(o1∧(∀y2:Nat,let z2:=W.tlbsN y2;y2<l1→True∧z2=z2∧(∀a3:Nat,let b3:=W.tlbs y2 a3;let c3:=v1.tlbs y2 a3;a3<z2→(((True∧b3.sp=c3.sp)∧b3.pg=c3.pg)∧b3.fr=c3.fr)∧b3.wr=c3.wr)))∧(u1∧(∀d3:Nat,d3<q1→True∧W.doms d3=W.doms d3))∧True))
theorem ok_wake:FnOK Tryz.prog glN 153 c_wake:=ok_of .nil false Tryz.call153 Tryz.func153 (fun _=> []) (V:=V_wake) (fun _=>by kernel_rfl) fun ⟨t,W⟩ hp=>by
  dsimp only [s_wake] at hp
  dsimp only [V_wake,tn,w64]
  simp only [std,stb,eq_self,implies_true,Bool.cond_self]
  try simp only [wd_eta]
  obtain ⟨t0,t1,r0,r1,c0,c1,p0,p1,hn⟩:=hp
  have et:t=(t.toNat:Int):=by omega
  have w1:IntKind.i64.wrap ((W.tasks t.toNat).core*4)=(W.tasks t.toNat).core*4:=wr_in (by omega) (by omega)
  have w2:IntKind.i64.wrap ((W.tasks t.toNat).core*4+(W.tasks t.toNat).prio)=(W.tasks t.toNat).core*4+(W.tasks t.toNat).prio:=wr_in (by omega) (by omega)
  have n1:W.readyN ((W.tasks t.toNat).core*4+(W.tasks t.toNat).prio).toNat≤100000:=hn
  have ls: ∀j,j<W.nReady→_:=fun j _=>And.intro (wkN_eq (W:=W) (t:=t.toNat) (j:=j)) (fun k hk=>wkL_eq (W:=W) (t:=t.toNat) (j:=j) (k:=k) et hk)
  refine ⟨⟨t0,t1⟩,w1,w2,⟨r0,r1⟩,by omega,fun _=>rfl,fun j _=>by
    rcases Decidable.em (j=t.toNat) with h|h
    · subst h;simp only [Nat.beq_refl,cond_true];unfold wkS;rw [updF_at];exact ⟨⟨⟨⟨⟨⟨⟨⟨⟨⟨⟨⟨⟨⟨⟨⟨⟨⟨⟨rfl,rfl⟩,rfl⟩,rfl⟩,rfl⟩,rfl⟩,rfl⟩,rfl⟩,rfl⟩,rfl⟩,rfl⟩,rfl⟩,rfl⟩,rfl⟩,rfl⟩,rfl⟩,rfl⟩,rfl⟩,rfl⟩,rfl⟩
    · simp only [beq_ne h,cond_false];unfold wkS;rw [updF_ne h];exact run20 rfl,fun j hj=>ls j hj⟩
end Go.Proofs.YtdjilaofmdhikaaGreatDoor
set_option linter.unusedVariables false
set_option linter.unusedSimpArgs false
set_option maxRecDepth 100000
namespace Go.Proofs.YtdjilaofmdhikaaGreatDoor
open Go.RowKit Go.Sy
def sh_laysNm223_ren:Go.Shelf.Ren:=⟨fun|23=>158|n=>n,fun|22=>22|3=>3|4=>4|0=>0|n=>n,fun|n=>n⟩
theorem sh_laysNm223:Go.Proofs.Lays2.n23 Tryz.prog sh_laysNm223_ren:={
  mixed:=by kernel_rfl
  f23:=Tryz.func158.trans (congrArg some (by kernel_rfl))
  t0:=Tryz.underlying0
  a0:=Tryz.isAgg0
  z0:=Tryz.sizeOf0
  v0:=Tryz.zeroValue0
  t3:=Tryz.underlying3
  a3:=Tryz.isAgg3
  z3:=Tryz.sizeOf3
  v3:=Tryz.zeroValue3
  t4:=Tryz.underlying4
  a4:=Tryz.isAgg4
  z4:=Tryz.sizeOf4
  v4:=Tryz.zeroValue4
  t22:=Tryz.underlying22
  a22:=Tryz.isAgg22
  z22:=Tryz.sizeOf22
  v22:=Tryz.zeroValue22
  i3:=by kernel_rfl}
open Go.RowKit Go.Lib Go.Sort in
theorem sh_slices_Delete_int_cells (b off n c i j:Nat) (zs:List Int) (w:World) (hz:n≤zs.length) (hcap:n≤c) (hm:c≤9223372036854775807) (hij:i≤j) (hj:j≤n) (hc: ∀j,j<zs.length→w.cell? ⟨b,off+j,none⟩=some (.int .i64 (zs.getD j 0))) (hf: ∀j,j<n→w.frozen? ⟨b,off+j,none⟩=false):
    Calls Tryz.prog 158 #[.slice (some ⟨b,off,none⟩) n c,.int .i64 i,.int .i64 j] w fun e w'=>e= .returned (.slice (some ⟨b,off,none⟩) (n -(j -i)) c)∧ ∃q,w'=(w.drewN q).setCells b off (((zs.take n).take i++(zs.take n).drop j++List.replicate (j -i) 0).map (Value.int .i64)):=Any.slices_Delete_int_cells sh_laysNm223 b off n c i j zs w hz hcap hm hij hj hc hf
def dlF (n:Nat) (f:Nat→Int) (i k:Nat):Int:=bif Nat.blt k (n -1) then delF f i k else 0
theorem dl_list {n i:Nat} {f:Nat→Int} (hi:i<n) {k:Nat} (hk:k<n):(((List.range n).map f).take i++((List.range n).map f).drop (i+1)++List.replicate (i+1 -i) 0)[k]? =some (dlF n f i k):=by
  unfold dlF delF
  rcases Nat.lt_or_ge k i with h|h
  · rw [blt_t (show k<n -1 by omega),blt_t h]
    rw [List.getElem?_append_left (by simp;omega),List.getElem?_append_left (by simp;omega)]
    simp [List.getElem?_take,h,hk]
  · rcases Nat.lt_or_ge k (n -1) with h2|h2
    · rw [blt_t h2,blt_f h]
      rw [List.getElem?_append_left (by simp;omega),List.getElem?_append_right (by simp;omega)]
      simp only [List.length_take,List.length_map,List.length_range,List.getElem?_drop,Nat.min_eq_left (Nat.le_of_lt hi)]
      rw [show i+1+(k -i)=k+1 by omega]
      simp [show k+1<n by omega]
    · rw [blt_f h2]
      obtain rfl:k=n -1:=by omega
      rw [List.getElem?_append_right (by simp;omega)]
      simp only [List.length_append,List.length_take,List.length_drop,List.length_map,List.length_range,Nat.min_eq_left (Nat.le_of_lt hi)]
      rw [show n -1 -(i+(n -(i+1)))=0 by omega,show i+1 -i=1 by omega]
      rfl
structure X_delI where
  (n i:Nat) (f:Nat→Int)
def s_delI:Sy.Spec:=⟨X_delI,fun ⟨n,i,_⟩=> [.slc 0 0 none 0 n,.v (.int .i64 i),.v (.int .i64 (i+1))],fun ⟨n,_,f⟩=> [.row 1 n (iF f)],fun ⟨n,i,_⟩=>i<n,fun ⟨n,_,_⟩=> .slc 0 0 none 0 (n -1),fun ⟨n,i,f⟩=> [.row 1 n (iF (dlF n f i))],
  fun args mem=>match args with| [a0,a1,a2]=>some ⟨rowN mem 0,(intD a1).toNat,fun i=>intD (rowF mem 0 i 0)⟩|_=>none⟩
def c_delI:Con:=⟨[true],s_delI.g,none⟩
theorem ok_delI:FnOK Tryz.prog glN 158 c_delI:=fnOK_of Tryz.call158 fun ⟨n,i,f⟩ hi w ω vs hG hm hd=>by
  have hi:i<n:=hi
  obtain ⟨l⟩:=vs
  match l,hd with
  | [u0,u1,u2],hd=>
    obtain ⟨h0,h1,h2,_⟩:=hd
    have h1:u1= .int .i64 i:=h1
    have h2:u2= .int .i64 (i+1):=h2
    subst h1 h2
    rcases h0 with h0|⟨_,q,cap,rfl,c1,c2,h0⟩
    · rw [hm.cur] at h0;exact absurd h0 (Nat.not_lt_zero _)
    rcases h0 with h0|⟨L,hL,rfl,c3,c4⟩
    · omega
    obtain ⟨r,e1,e2,e3,c,T,e4,e5,e6,e7⟩:=hm.row _ _ _ hL
    obtain rfl:r=⟨1,n,iF f⟩:=(Option.some.inj e1).symm
    have e2:1=L.sz:=e2
    have e3:n=L.cnt:=e3
    have cell: ∀k,k<n→c[L.o+k]? =some (.int .i64 (f k)):=fun k hk=>by
      obtain ⟨x,x1,x2⟩:=e7 k (by omega) 0 (by omega)
      have x2:x= .int .i64 (f k):=x2
      rw [←e2] at x1
      simpa [x2] using x1
    have hin: ∀k,k<n→L.o+k<c.size:=fun k hk=>(Array.getElem?_eq_some_iff.1 (cell k hk)).1
    have hcall:=sh_slices_Delete_int_cells L.b L.o n cap i (i+1) ((List.range n).map f) w (by simp) c1 (by simpa [maxLen] using c2) (by omega) (by omega)
      (fun k hk=>by
        have hk:k<n:=by simpa using hk
        simp [World.cell?,e4,cell k hk,List.getD_eq_getElem?_getD,hk])
      (fun k hk=>by simp [World.frozen?,e4])
    have ht:((List.range n).map f).take n=(List.range n).map f:=List.take_of_length_le (by simp)
    rw [ht] at hcall
    rw [show L.o+0*L.sz=L.o by omega]
    refine hcall.mono ?_
    rintro e w' ⟨rfl,d,rfl⟩
    have hcw:Cw w (w.drewN d):=⟨rfl,rfl,rfl,Nat.le_refl _,fun _ _=>rfl⟩
    have hm1:=(Stp.more hm hcw).mem
    generalize hxs:(((List.range n).map f).take i++((List.range n).map f).drop (i+1)++List.replicate (i+1 -i) 0).map (Value.int .i64)=xs
    have hlen:xs.length=n:=by rw [←hxs];simp;omega
    have hone: ∀v∈xs,v.oneCell'=true:=by
      intro v hv
      rw [←hxs] at hv
      obtain ⟨x,_,rfl⟩:=List.mem_map.1 hv
      rfl
    have hx: ∀k,k<n→xs[k]? =some (.int .i64 (dlF n f i k)):=fun k hk=>by
      rw [←hxs,List.getElem?_map,dl_list hi hk];rfl
    obtain ⟨q,cap',w2,g1,g2,_,g4⟩:=over_ok (P:=Tryz.prog) hm1 (k:=0) (st:=0) (e:=0) (n:=n) (sz:=1) (nn:=n) (f:=iF f) (g:=iF (dlF n f i)) (u:= .slice (some ⟨L.b,L.o,none⟩) n cap) rfl rfl
      (.inr ⟨by rw [hm1.cur];rfl,_,cap,rfl,c1,c2,.inr ⟨L,hL,by simp,c3,c4⟩⟩) (c:=n) (Nat.le_refl _) (by omega) (fun _ _ _=>rfl) (xs:=xs) (by omega) hone (fun k hk j hj=>⟨_,by
        obtain rfl:j=0:=by omega
        simpa using hx k hk,rfl⟩)
    obtain ⟨rfl,_,rfl⟩:=Value.slice.inj g1
    have hrun:=g2 _ rfl
    have hrun2:=run_storeCells_cells (P:=Tryz.prog) L.b L.o xs 0 (w.drewN d) (fun k hk=>by
      rw [hlen] at hk
      simp [World.cell?,e4,cell k hk]) (fun k hk=>by simp [World.frozen?,e4]) hone
    rw [hrun] at hrun2
    have hw:w2=(w.drewN d).setCells L.b L.o xs:=by simpa using (Result.ok.inj hrun2).2
    subst hw
    have hext:=((hcw.ext ω).trans g4.ext)
    have hcell: ∀k,k<n→overF 1 0 n (iF (dlF n f i)) (iF f) k 0= .v (.int .i64 (dlF n f i k)):=fun k hk=>by
      have e:inB 0 n k=true:=inB_iff.2 ⟨Nat.zero_le _,by omega⟩
      show (match Nat.blt 0 1 with|true=>iteSV (inB 0 n k) (flatS (iF (dlF n f i) (k -0) 0)) (iF f k 0)|false=>iF f k 0)=_
      rw [e];rfl
    have hmem:MemOK ((w.drewN d).setCells L.b L.o xs) ω (memOf 0 [.row 1 n (iF (dlF n f i))]):=by
      refine (g4.mem.reb (k:=0) (e':=⟨0,0,none,.row 1 n (iF (dlF n f i))⟩) ⟨rfl,rfl,rfl⟩ (fun _ h=>nomatch h) (fun q L' hL' r hr=>?_)).congr (fun k=>?_)
      · cases q with
        |none=>
         obtain rfl:r=⟨1,n,overF 1 0 n (iF (dlF n f i)) (iF f)⟩:=(Option.some.inj hr).symm
         refine ⟨⟨1,n,iF (dlF n f i)⟩,rfl,rfl,rfl,fun a ha b hb y hy=>?_⟩
         obtain rfl:b=0:=by have:b<1:=hb
                            omega
         show LeafOK _ _ _ 0 none a 0 (.v (.int .i64 (dlF n f i a))) y
         rw [←hcell a ha]
         exact hy
        |some ij=>
         exfalso
         have hm4:=g4.mem.row 0 (some ij) L' hL'
         have:=hm.row 0 (some ij) L' hL'
         obtain ⟨r0,h0,_⟩:=this
         cases h0
      · rcases Nat.eq_zero_or_pos k with h|h
        · subst h;rfl
        · have h1:ent (memOf 0 [.row 1 n (iF (dlF n f i))]) k=⟨0,0,none,.dead⟩:=by
            rw [memOf_ent,List.getElem?_eq_none (by simp;omega)]
          rw [h1,ent_ne (by omega),ent_ne (by omega)]
          show _=ent (memOf 0 [.row 1 n (iF f)]) k
          rw [memOf_ent,List.getElem?_eq_none (by simp;omega)]
    refine ⟨_,ω,rfl,⟨hext.os,hext.tape,hext.output,hext.same,hext.free,fun _ h=>h,hext.size⟩,hmem,.inr ⟨by rw [hmem.cur];rfl,_,cap,by rw [show i+1 -i=1 by omega],by omega,c2,.inr ⟨L,hL,by simp,c3,by omega⟩⟩,fun k l hk=>rfl⟩
end Go.Proofs.YtdjilaofmdhikaaGreatDoor
set_option linter.unusedVariables false
set_option linter.unusedSimpArgs false
set_option maxRecDepth 100000
namespace Go.Proofs.YtdjilaofmdhikaaGreatDoor
open Go.RowKit Go.Sy
theorem Inv.mono {L L':Nat} {W:Wd} (h:Inv L W) (hl:L≤L'):Inv L' W:=
  ⟨h.z,h.ram,h.kd,h.dm,h.sl,h.tk,fun i hi=>⟨Nat.le_trans (h.ln i hi).1 hl,(h.ln i hi).2⟩,fun i hi=>⟨Nat.le_trans (h.rd i hi).1 hl,(h.rd i hi).2⟩,h.co,h.bt,fun c hc=>Nat.le_trans (h.tl c hc) hl⟩
theorem inv_wkp {L:Nat} {W:Wd} {t:Int} (h:Inv L W) (hl:L≤1000) (h0:0≤t) (h1:t<W.nTasks):WkP W t:=by
  have hk:=h.tk t.toNat (by omega)
  have z1:=h.z.ready
  have z2:=h.z.c1
  have h2:=hk.core
  have h3:=hk.prio
  have r0:0≤rkZ (W.tasks t.toNat):=by unfold rkZ;omega
  have r1:rkZ (W.tasks t.toNat)<W.nReady:=by unfold rkZ;omega
  exact ⟨h0,h1,r0,r1,h2.1,by omega,h3.1,by omega,by have:=(h.rd (rkOf (W.tasks t.toNat)) (by unfold rkOf;omega)).1;omega⟩
theorem Szd.of {W W':Wd} (h:Szd W) (e:W'.nKinds=W.nKinds∧W'.nCores=W.nCores∧W'.nRam=W.nRam∧W'.nSlots=W.nSlots∧W'.nTasks=W.nTasks∧W'.nLines=W.nLines∧W'.nBits=W.nBits∧W'.nReady=W.nReady∧W'.nTlbs=W.nTlbs∧W'.nDoms=W.nDoms∧W'.time=W.time):Szd W':=by
  obtain ⟨e1,e2,e3,e4,e5,e6,e7,e8,e9,e10,e11⟩:=e
  obtain ⟨h1,h2,h3,h4,h5,h6,h7,h8,h9,h10,h11,h12,h13,h14,h15⟩:=h
  exact ⟨by rw [e1];exact h1,by rw [e1];exact h2,by rw [e2];exact h3,by rw [e2];exact h4,by rw [e3,e1];exact h5,by rw [e4,e1];exact h6,by rw [e5,e1];exact h7,by rw [e6,e1];exact h8,by rw [e7,e1];exact h9,by rw [e8,e2];exact h10,by rw [e9,e2];exact h11,by rw [e10];exact h12,by rw [e10];exact h13,by rw [e11];exact h14,by rw [e11];exact h15⟩
theorem TkR.of {W W':Wd} {t:Run} (h:TkR W t) (e1:W'.nKinds=W.nKinds) (e2:W'.nCores=W.nCores):TkR W' t:=
  ⟨h.reg,h.pc,h.word,h.badge,h.st,h.prio,by rw [e2];exact h.core,h.dom,by rw [e1];exact h.node,by rw [e1];exact h.space,by rw [e1];exact h.helper,by rw [e1];exact h.loc,by rw [e1];exact h.owes⟩
end Go.Proofs.YtdjilaofmdhikaaGreatDoor
set_option linter.unusedVariables false
set_option linter.unusedSimpArgs false
set_option maxRecDepth 100000
namespace Go.Proofs.YtdjilaofmdhikaaGreatDoor
open Go.RowKit Go.Sy
def hnS (W:Wd) (t:Nat) (b g:Int) (i:Nat):Run:=updF W.tasks t {W.tasks t with r1:=b,r2:=g} i
def hanW (W:Wd) (t:Nat) (b g:Int):Wd:={W with tasks:=hnS W t b g}
def ofC (W:Wd) (t:Int) (j:Nat):Int:=bif W.cores j==t then -1 else W.cores j
def sdS (W:Wd) (t:Nat) (a s:Int) (i:Nat):Run:=updF W.tasks t {W.tasks t with st:=s,loc:=a} i
def ofS (W:Wd) (t:Int) (i j:Nat):Int:=bif Nat.blt j i then ofC W t j else W.cores j
theorem ofS_lt {W:Wd} {t:Int} {i j:Nat} (h:j<i):ofS W t i j=ofC W t j:=by unfold ofS;rw [blt_t h];rfl
theorem ofS_ge {W:Wd} {t:Int} {i j:Nat} (h:i≤j):ofS W t i j=W.cores j:=by unfold ofS;rw [blt_f h];rfl
structure OfP (W:Wd) (t:Int):Prop where
  t0:0≤t
  t1:t<W.nTasks
  c0:0≤(W.tasks t.toNat).core
  c1:(W.tasks t.toNat).core<W.nCores
  u: ∀j:Nat,j<W.nCores→W.cores j=t→(W.tasks t.toNat).core=j
theorem updF_cp {f:Nat→Run} {t i:Nat} {v:Run} (p:Run→Int) (h:p v=p (f t)):p (updF f t v i)=p (f i):=by
  rcases Decidable.em (i=t) with e|e
  · subst e;rw [updF_at];exact h
  · rw [updF_ne e]
end Go.Proofs.YtdjilaofmdhikaaGreatDoor
set_option linter.unusedVariables false
set_option linter.unusedSimpArgs false
set_option maxRecDepth 100000
namespace Go.Proofs.YtdjilaofmdhikaaGreatDoor
open Go.RowKit Go.Sy
theorem WkP.of {W W':Wd} {t:Int} (h:WkP W t) (e1:W'.nTasks=W.nTasks) (e2:W'.nReady=W.nReady) (e3:W'.readyN=W.readyN) (e4:(W'.tasks t.toNat).core=(W.tasks t.toNat).core) (e5:(W'.tasks t.toNat).prio=(W.tasks t.toNat).prio):WkP W' t:=by
  obtain ⟨t0,t1,r0,r1,c0,c1,p0,p1,n⟩:=h
  have ez:rkZ (W'.tasks t.toNat)=rkZ (W.tasks t.toNat):=by unfold rkZ;rw [e4,e5]
  exact ⟨t0,by rw [e1];exact t1,by rw [ez];exact r0,by rw [ez,e2];exact r1,by rw [e4];exact c0,by rw [e4];exact c1,by rw [e5];exact p0,by rw [e5];exact p1,by unfold rkOf;rw [ez,e3];exact n⟩
theorem OfP.of {W W':Wd} {t:Int} (h:OfP W t) (e1:W'.nTasks=W.nTasks) (e2:W'.nCores=W.nCores) (e3:W'.cores=W.cores) (e4:(W'.tasks t.toNat).core=(W.tasks t.toNat).core):OfP W' t:=by
  obtain ⟨t0,t1,c0,c1,u⟩:=h
  exact ⟨t0,by rw [e1];exact t1,by rw [e4];exact c0,by rw [e4,e2];exact c1,by rw [e2,e3,e4];exact u⟩
theorem han_p {W:Wd} {t i:Nat} {b g:Int} (p:Run→Int) (h: ∀r:Run,p {r with r1:=b,r2:=g}=p r):p ((hanW W t b g).tasks i)=p (W.tasks i):=updF_cp p (h _)
theorem WkP.han {W:Wd} {t:Int} {u:Nat} {b g:Int} (h:WkP W t):WkP (hanW W u b g) t:=h.of rfl rfl rfl (han_p Run.core fun _=>rfl) (han_p Run.prio fun _=>rfl)
theorem OfP.han {W:Wd} {t:Int} {u:Nat} {b g:Int} (h:OfP W t):OfP (hanW W u b g) t:=h.of rfl rfl rfl (han_p Run.core fun _=>rfl)
end Go.Proofs.YtdjilaofmdhikaaGreatDoor
set_option linter.unusedVariables false
set_option linter.unusedSimpArgs false
set_option maxRecDepth 100000
namespace Go.Proofs.YtdjilaofmdhikaaGreatDoor
open Go.RowKit Go.Sy
def kpN (p:Nat→Bool):Nat→Nat
  |0=>0
  |i+1=>bif p i then kpN p i else kpN p i+1
def kpT {α:Type} (z:α) (p:Nat→Bool) (t:Nat→α):Nat→Nat→α
  |0,_=>z
  |i+1,a=>bif !p i&&Nat.beq a (kpN p i) then t i else kpT z p t i a
theorem kpN_le (p:Nat→Bool): ∀i,kpN p i≤i
  |0=>Nat.le_refl _
  |i+1=>by have:=kpN_le p i;simp only [kpN];cases p i<;>simp<;>omega
theorem kpN_pre {p:Nat→Bool}: ∀{i},(∀j,j<i→p j=false)→kpN p i=i
  |0,_=>rfl
  |i+1,h=>by rw [kpN,h i (by omega),kpN_pre fun j hj=>h j (by omega)];rfl
theorem kpT_pre {α:Type} {z:α} {p:Nat→Bool} {t:Nat→α}: ∀{i a},(∀j,j<i→p j=false)→a<i→kpT z p t i a=t a
  |0,a,_,h=>absurd h (by omega)
  |i+1,a,h,ha=>by
   rw [kpT,h i (by omega),kpN_pre fun j hj=>h j (by omega)]
   rcases Nat.lt_or_ge a i with h1|h1
   · have hb:Nat.beq a i=false:=by
       cases hb:Nat.beq a i with
       |false=>rfl
       |true=>have:=Nat.eq_of_beq_eq_true hb;omega
     rw [hb]
     simpa using kpT_pre (fun j hj=>h j (by omega)) h1
   · obtain rfl:a=i:=by omega
     simp
theorem kpN_lt {p:Nat→Bool} {k:Nat} (hk:p k=true): ∀{i},k<i→kpN p i<i
  |0,h=>absurd h (by omega)
  |i+1,h=>by
   simp only [kpN]
   rcases Nat.lt_or_ge k i with h1|h1
   · have:=kpN_lt hk h1;cases p i<;>simp<;>omega
   · obtain rfl:k=i:=by omega
     rw [hk];have:=kpN_le p k;simp;omega
theorem fst_sp (p:Nat→Bool): ∀n,(∀j,j<fstB n p→p j=false)∧(fstB n p<n→p (fstB n p)=true)
  |0=>⟨fun j h=>absurd h (by simp [fstB]),fun h=>absurd h (by omega)⟩
  |n+1=>by
   obtain ⟨h1,h2⟩:=fst_sp p n
   have hle:=fstB_le p n
   unfold fstB
   rcases Nat.lt_or_ge (fstB n p) n with h|h
   · rw [nblt,decide_eq_true h];exact ⟨h1,fun _=>h2 h⟩
   · have e:fstB n p=n:=by omega
     rw [nblt,decide_eq_false (by omega)]
     rw [e] at h1
     cases hp:p n with
     |true=>exact ⟨h1,fun _=>hp⟩
     |false=>
      refine ⟨fun j hj=>?_,fun h=>absurd h (by simp)⟩
      have hj:j<n+1:=hj
      rcases Nat.lt_or_ge j n with h3|h3
      · exact h1 j h3
      · obtain rfl:j=n:=by omega
        exact hp
def isX (l:Nat→Int) (x:Int) (k:Nat):Bool:=l k==x
def woN (n:Nat) (l:Nat→Int) (x:Int):Nat:=kpN (isX l x) n
def woF (n:Nat) (l:Nat→Int) (x:Int):Nat→Int:=kpT 0 (isX l x) l n
def wdF (n:Nat) (l:Nat→Int) (x:Int) (a:Nat):Int:=bif Nat.blt a (woN n l x) then woF n l x a else 0
def an_idx2 (z n:Nat) (p:Nat→Bool):Ann where
  σ:=Nat
  rt:= []
  sh i:= [(z,.v (.int .i64 i))]
  mh _:= []
  inv i:=i≤n∧ ∀j,j<i→p j=false
  μ i:=n -i
  init:=0
def dwF (p:Nat→Bool) (t:Nat→Int) (j a:Nat):Int:=bif Nat.blt a (kpN p j) then kpT 0 p t j a else t a
def an_dl (n:Nat) (t:Nat→Int) (p:Nat→Bool):Ann where
  σ:=Nat
  rt:= []
  sh j:= [(0,.slc 0 0 none 0 n),(5,.v (.int .i64 (kpN p j))),(6,.v (.int .i64 j))]
  mh j:= [(0,.row 1 n (iF (dwF p t j)))]
  inv j:=fstB n p<j∧j≤n
  μ j:=n -j
  init:=fstB n p+1
def an_wo (n:Nat) (t:Nat→Int) (p:Nat→Bool) (q:Nat):Ann where
  σ:=Nat
  rt:= [(q,1)]
  sh j:= [(q,.slc 0 0 none 0 (kpN p j)),(q+1,.v (.int .i64 j))]
  mh j:= [(0,.row 1 (kpN p j) (iF (kpT 0 p t j)))]
  inv j:=j≤n
  μ j:=n -j
  init:=0
structure X_lvC1 where
  (x t:Int)
def s_lvC1:Sy.Spec:=⟨X_lvC1,fun ⟨x,t⟩=> [.v (.int .i64 x),.pt true 1 (fun _=> .v (.int .i64 t))],fun _=> [],fun _=>True,fun ⟨x,t⟩=> .v (.bool (x==t)),fun _=> [],
  fun args mem=>match args with| [a0,a1]=>some ⟨intD (a0),intD (ptF a1 0)⟩|_=>none⟩
def c_lvC1:Con:=⟨[],s_lvC1.g,none⟩
def V_lvC1:X_lvC1→Prop:=fun ⟨x,t⟩=>(x==t)=(x==t)∧True
theorem ok_lvC1:FnOK Tryz.prog glN 211 c_lvC1:=ok_of .nil false Tryz.call211 Tryz.func211 (fun _=> []) (V:=V_lvC1) (fun _=>by kernel_rfl) fun ⟨x,t⟩ hp=>by
  dsimp only [V_lvC1,tn,w64]
  simp only [std,stb,eq_self,implies_true,Bool.cond_self]
  try simp only [wd_eta]
structure X_idxL where
  (n:Nat) (l:Nat→Int) (t:Int)
def s_idxL:Sy.Spec:=⟨X_idxL,fun ⟨n,l,t⟩=> [.sl true 1 n (fun i_ _=> .v (.int .i64 (l i_))),.fn 211 1 (lsv [.pt true 1 (fun _=> .v (.int .i64 t))])],fun _=> [],fun ⟨n,_,_⟩=>n≤100000,fun ⟨n,l,t⟩=> .v (.int .i64 (idxB n (isX l t))),fun _=> [],
  fun args mem=>match args with| [a0,a1]=>(match isFn 211 a1 with|true=>some ⟨slN a0,fun i=>intD (slF a0 i 0),intD (ptF (fnF a1 0) 0)⟩|false=>none)|_=>none⟩
def c_idxL:Con:=⟨[],s_idxL.g,none⟩
def V_idxL:X_idxL→Prop:=fun ⟨n,l,t⟩=>let a0:=(n:Int);let b0:=idxB n (isX l t);a0≤9223372036854775807→0=((0:Nat):Int)∧True∧(0≤n∧(∀c0:Nat,c0<0→isX l t c0=false))∧(∀d0:Nat,let e0:=(d0:Int);let g0:=decide (e0<a0);let h0:Int:=l (Int.toNat e0);let k0:=h0==t;let l0:Int:=e0+1;d0≤n∧(∀o0:Nat,o0<d0→isX l t o0=false)→(g0=true→(0≤e0∧e0<a0)∧((h0=h0∧(True∧t=t)∧True)∧True∧True)∧(k0=true→e0=b0∧True)∧(k0=false→w64 l0=l0∧(∃q0:Nat,l0=(q0:Int)∧True∧(q0≤n∧(∀r0:Nat,r0<q0→isX l t r0=false))∧n-q0<n-d0)))∧(g0=false→(-1)=b0∧True))
theorem ok_idxL:FnOK Tryz.prog glN 207 c_idxL:=ok_of (.cons ok_lvC1 .nil) false Tryz.call207 Tryz.func207 (fun ⟨n,l,t⟩=> [.inv (an_idx2 8 n (isX l t))]) (V:=V_idxL) (fun _=>by kernel_rfl) fun ⟨n,l,t⟩ hp=>by
  dsimp only [s_idxL] at hp
  dsimp only [V_idxL,tn,w64]
  simp only [std,stb,eq_self,implies_true,Bool.cond_self]
  try simp only [wd_eta]
  refine fun _ s hs=>⟨fun h=>?_,fun h=>?_⟩
  · have hlt:=lt_of_dec h
    exact ⟨by omega,fun h=>(idxB_at (p:=isX l t) hs.2 h hlt).symm,fun h=>⟨wr_in (by omega) (by omega),exS ⟨⟨by omega,snocF (p:=isX l t) hs.2 h⟩,by omega⟩⟩⟩
  · have hge:=ge_of_dec h
    obtain rfl:s=n:=by omega
    exact (idxB_none (p:=isX l t) hs.2).symm
structure X_delL where
  (t:Int) (n:Nat) (l:Nat→Int)
def s_delL:Sy.Spec:=⟨X_delL,fun ⟨t,n,_⟩=> [.slc 0 0 none 0 n,.fn 211 1 (lsv [.pt true 1 (fun _=> .v (.int .i64 t))])],fun ⟨_,n,l⟩=> [.row 1 n (iF l)],fun ⟨_,n,_⟩=>n≤100000,fun ⟨t,n,l⟩=> .slc 0 0 none 0 (woN n l t),fun ⟨t,n,l⟩=> [.row 1 n (iF (wdF n l t))],
  fun args mem=>match args with| [a0,a1]=>(match isFn 211 a1 with|true=>some ⟨intD (ptF (fnF a1 0) 0),rowN mem 0,fun i=>intD (rowF mem 0 i 0)⟩|false=>none)|_=>none⟩
def c_delL:Con:=⟨[true,false],s_delL.g,none⟩
def V_delL:X_delL→Prop:=fun ⟨t,n,l⟩=>let a0:=n=n;let b0:=idxB n (isX (fun c0:Nat=>l (0+c0)) t);let d0:=b0==(-1);let e0:Int:=b0+1;let g0:=0=0∧a0;let h0:=isX l t;let k0:=fstB n h0;let l0:=k0+1;let o0:=(n:Int);(((a0∧(∀q0:Nat,q0<n→True∧l (0+q0)=l (0+q0)))∧tn 2 (t=t)∧True)∧True∧s_idxL.match_1 (fun r0:X_idxL=>Prop) (X_idxL.mk n (fun u0:Nat=>l (0+u0)) t) (fun v0:Nat=>fun w0:∀x0:Nat,Int=>fun y0:Int=>v0≤100000))∧(d0=true→(0=0∧n=woN n l t)∧(a0∧(∀z0:Nat,z0<n→True∧l z0=wdF n l t z0))∧True)∧(d0=false→w64 e0=e0∧g0∧b0=((kpN h0 l0:Nat):Int)∧e0=(l0:Int)∧((a0∧(∀a1:Nat,a1<n→True∧l a1=dwF h0 l l0 a1))∧True)∧(k0<l0∧l0≤n)∧(∀b1:Nat,let c1:=(b1:Int);let d1:=decide (c1<o0);let e1:=dwF h0 l b1 (0+Int.toNat c1);let g1:=!e1==t;let h1:=((kpN h0 b1:Nat):Int);let k1:=0≤h1;let l1:Int:=h1+1;let o1:Int:=c1+1;let q1:=w64 o1=o1;let r1:=Int.toNat h1;let u1:=0+r1;let v1:=h1≤o0;let w1:=u1+(Int.toNat o0-r1);k0<b1∧b1≤n→o0≤9223372036854775807→(d1=true→(0≤c1∧c1<o0)∧((e1=e1∧(True∧t=t)∧True)∧True∧True)∧(g1=true→(k1∧h1<o0)∧(∀x1:Nat,false=false)∧w64 l1=l1∧q1∧(∃y1:Nat,g0∧l1=((kpN h0 y1:Nat):Int)∧o1=(y1:Int)∧((a0∧(∀z1:Nat,z1<n→True∧cond (Nat.beq z1 u1) e1 (dwF h0 l b1 z1)=dwF h0 l y1 z1))∧True)∧(k0<y1∧y1≤n)∧n-y1<n-b1))∧(g1=false→q1∧(∃a2:Nat,g0∧h1=((kpN h0 a2:Nat):Int)∧o1=(a2:Int)∧((a0∧(∀b2:Nat,b2<n→True∧dwF h0 l b1 b2=dwF h0 l a2 b2))∧True)∧(k0<a2∧a2≤n)∧n-a2<n-b1)))∧(d1=false→(k1∧v1∧o0≤o0)∧((∀c2:Nat,true=true)∧w1≤n)∧((0:Int)≤0∧k1∧v1)∧(0=0∧r1-Int.toNat 0=woN n l t)∧(a0∧(∀d2:Nat,d2<n→True∧cond (Nat.ble u1 d2&&Nat.blt d2 w1) 0 (dwF h0 l b1 d2)=wdF n l t d2))∧
    True)))
set_option maxHeartbeats 1000000 in
theorem ok_delL:FnOK Tryz.prog glN 210 c_delL:=ok_of (.cons ok_idxL (.cons ok_lvC1 .nil)) false Tryz.call210 Tryz.func210 (fun ⟨t,n,l⟩=> [.inv (an_dl n l (isX l t))]) (V:=V_delL) (fun _=>by kernel_rfl) fun ⟨t,n,l⟩ hp=>by
  dsimp only [s_delL] at hp
  dsimp only [V_delL,tn,w64]
  simp only [std,stb,eq_self,implies_true,Bool.cond_self]
  try simp only [wd_eta]
  refine ⟨hp,?_⟩
  simp only [show (isX (fun c0=>l c0) t)=isX l t from rfl]
  obtain ⟨P,hP⟩: ∃P:Nat→Bool,P=isX l t:=⟨_,rfl⟩
  have hPs: ∀i,(l i==t)=P i:=fun i=>by rw [hP];rfl
  have hW:woN n l t=kpN P n:=by rw [hP];rfl
  have hF: ∀a,wdF n l t a=bif Nat.blt a (kpN P n) then kpT 0 P l n a else 0:=fun a=>by rw [hP];rfl
  simp only [hW,hF]
  rw [←hP]
  obtain ⟨f1,f2⟩:=fst_sp P n
  have hle:=fstB_le P n
  have wr: ∀z:Int,-1≤z→z≤200000→IntKind.i64.wrap z=z:=fun z h1 h2=>by rw [IntKind.wrap_i64];omega
  rcases Nat.lt_or_ge (fstB n P) n with hm|hm
  · have hi:idxB n P=(fstB n P:Nat):=by unfold idxB;rw [nblt,decide_eq_true hm];rfl
    have hk:=f2 hm
    have hN:kpN P (fstB n P+1)=fstB n P:=by rw [kpN,hk,kpN_pre f1];rfl
    have hT: ∀a,a<fstB n P→kpT 0 P l (fstB n P+1) a=l a:=fun a ha=>by rw [kpT,hk];simpa using kpT_pre f1 ha
    rw [hi,hN]
    refine ⟨fun h=>by have:=eq_of_beq h;omega,fun _=>⟨wr _ (by omega) (by omega),rfl,by omega,fun i hi=>?_,by omega,fun s hs _=>⟨fun h=>?_,fun h=>?_⟩⟩⟩
    · unfold dwF
      rw [hN]
      rcases Nat.lt_or_ge i (fstB n P) with h|h
      · rw [blt_t h,hT i h];rfl
      · rw [blt_f h];rfl
    · have hlt:=lt_of_dec h
      have hks:=kpN_lt hk hs.1
      have e1:dwF P l s s=l s:=by unfold dwF;rw [blt_f (by omega)];rfl
      rw [e1]
      simp only [hPs]
      refine ⟨by omega,fun hn=>?_,fun hn=>?_⟩
      · have hps:P s=false:=notT hn
        have hn1:kpN P (s+1)=kpN P s+1:=by rw [kpN,hps];rfl
        refine ⟨by omega,wr _ (by omega) (by omega),wr _ (by omega) (by omega),s+1,by rw [hn1];rfl,rfl,fun i hi=>?_,by omega,by omega⟩
        unfold dwF
        rw [hn1]
        rcases Nat.lt_trichotomy i (kpN P s) with h3|h3|h3
        · have e:kpT 0 P l (s+1) i=kpT 0 P l s i:=by rw [kpT,beq_ne (by omega:i≠kpN P s)];simp
          rw [beq_ne (by omega:i≠kpN P s),blt_t h3,blt_t (by omega:i<kpN P s+1),e]
          rfl
        · subst h3
          have e:kpT 0 P l (s+1) (kpN P s)=l s:=by rw [kpT,hps,Nat.beq_refl];rfl
          rw [Nat.beq_refl,blt_t (by omega:kpN P s<kpN P s+1),e]
          rfl
        · rw [beq_ne (by omega:i≠kpN P s),blt_f (by omega:kpN P s≤i),blt_f (by omega:kpN P s+1≤i)]
          rfl
      · have hps:P s=true:=notF hn
        have hn1:kpN P (s+1)=kpN P s:=by rw [kpN,hps];rfl
        refine ⟨wr _ (by omega) (by omega),s+1,by rw [hn1],rfl,fun i hi=>?_,by omega,by omega⟩
        have e:kpT 0 P l (s+1) i=kpT 0 P l s i:=by rw [kpT,hps];rfl
        unfold dwF
        rw [hn1,e]
    · obtain rfl:s=n:=by have:=ge_of_dec h;omega
      have hks:=kpN_lt hk hs.1
      refine ⟨by omega,by omega,by omega,rfl,fun i hi=>?_⟩
      unfold dwF
      rcases Nat.lt_or_ge i (kpN P s) with h3|h3
      · rw [ble_f h3,blt_t h3];rfl
      · rw [ble_t h3,blt_f h3,blt_t (by omega:i<kpN P s+(s -kpN P s))];rfl
  · have hN:kpN P n=n:=kpN_pre fun j hj=>f1 j (by omega)
    have hi:idxB n P= -1:=by unfold idxB;rw [nblt,decide_eq_false (by omega)];rfl
    rw [hi,hN]
    refine ⟨fun _=>⟨rfl,fun i hi=>?_⟩,fun h=>by simp at h⟩
    rw [blt_t hi,kpT_pre (fun j hj=>f1 j (by omega)) hi];rfl
structure X_lvC where
  (t:Int) (n:Nat) (l:Nat→Int)
def s_lvC:Sy.Spec:=⟨X_lvC,fun ⟨t,n,_⟩=> [.slc 0 0 none 0 n,.pt true 1 (fun _=> .v (.int .i64 t))],fun ⟨_,n,l⟩=> [.row 1 n (iF l)],fun ⟨_,n,_⟩=>n≤100000,fun ⟨t,n,l⟩=> .slc 0 0 none 0 (woN n l t),fun ⟨t,n,l⟩=> [.row 1 n (iF (wdF n l t))],
  fun args mem=>match args with| [a0,a1]=>some ⟨intD (ptF a1 0),rowN mem 0,fun i=>intD (rowF mem 0 i 0)⟩|_=>none⟩
def c_lvC:Con:=⟨[true,false],s_lvC.g,none⟩
def V_lvC:X_lvC→Prop:=fun ⟨t,n,l⟩=>(((0=0∧n=n)∧tn 2 (t=t)∧True)∧((n=n∧(∀a0:Nat,a0<n→True∧l a0=l a0))∧True)∧s_delL.match_1 (fun b0:X_delL=>Prop) (X_delL.mk t n l) (fun c0:Int=>fun d0:Nat=>fun e0:∀g0:Nat,Int=>d0≤100000))∧(0=0∧woN n l t=woN n l t)∧(n=n∧(∀h0:Nat,let k0:=wdF n l t h0;h0<n→True∧k0=k0))∧True
set_option maxHeartbeats 1000000 in
theorem ok_lvC:FnOK Tryz.prog glN 209 c_lvC:=ok_of (.cons ok_delL .nil) false Tryz.call209 Tryz.func209 (fun _=> []) (V:=V_lvC) (fun _=>by kernel_rfl) fun ⟨t,n,l⟩ hp=>by
  dsimp only [s_lvC] at hp
  dsimp only [V_lvC,tn,w64]
  simp only [std,stb,eq_self,implies_true,Bool.cond_self]
  try simp only [wd_eta]
  exact hp
structure X_without where
  (n:Nat) (l:Nat→Int) (x:Int)
def s_without:Sy.Spec:=⟨X_without,fun ⟨n,l,x⟩=> [.sl true 1 n (fun i_ _=> .v (.int .i64 (l i_))),.v (.int .i64 x)],fun _=> [],fun ⟨n,_,_⟩=>n≤100000,fun ⟨n,l,x⟩=> .slc 0 0 none 0 (woN n l x),fun ⟨n,l,x⟩=> [.row 1 (woN n l x) (iF (woF n l x))],
  fun args mem=>match args with| [a0,a1]=>some ⟨slN a0,fun i=>intD (slF a0 i 0),intD (a1)⟩|_=>none⟩
def c_without:Con:=⟨[],s_without.g,none⟩
def V_without:X_without→Prop:=fun ⟨n,l,x⟩=>let a0:=isX l x;let b0:=kpN a0 0;let c0:=0=b0;let d0:=(n:Int);let e0:=woN n l x;(0=0∧c0)∧0=((0:Nat):Int)∧((c0∧(∀g0:Nat,g0<b0→True∧SV.junk=SV.v (Value.int IntKind.i64 (kpT 0 a0 l 0 g0))))∧True)∧0≤n∧(∀h0:Nat,let k0:=(h0:Int);let l0:=decide (k0<d0);let o0:=0≤k0∧k0<d0;let q0:Int:=l (Int.toNat k0);let r0:=q0 !=x;let u0:=kpN a0 h0;let v0:=u0+1;let w0:Int:=k0+1;let x0:=w64 w0=w0;h0≤n→d0≤9223372036854775807→(l0=true→o0∧(r0=true→o0∧True∧(v0*8≤140737488355328∧(∀y0:Nat,true=true))∧x0∧(∃z0:Nat,(0=0∧v0=kpN a0 z0)∧w0=(z0:Int)∧((v0=kpN a0 z0∧(∀a1:Nat,a1<kpN a0 z0→True∧cond (Nat.blt a1 u0) (kpT 0 a0 l h0 (0+a1)) (List.getD [q0] (0+(a1-u0)) 0)=kpT 0 a0 l z0 a1))∧True)∧z0≤n∧n-z0<n-h0))∧(r0=false→x0∧(∃b1:Nat,(0=0∧u0=kpN a0 b1)∧w0=(b1:Int)∧((u0=kpN a0 b1∧(∀c1:Nat,c1<kpN a0 b1→True∧kpT 0 a0 l h0 c1=kpT 0 a0 l b1 c1))∧True)∧b1≤n∧n-b1<n-h0)))∧(l0=false→(0=0∧u0=e0)∧(u0=e0∧(∀d1:Nat,d1<e0→True∧kpT 0 a0 l h0 d1=woF n l x d1))∧True))
set_option maxHeartbeats 1000000 in
theorem ok_without:FnOK Tryz.prog glN 122 c_without:=ok_of .nil false Tryz.call122 Tryz.func122 (fun ⟨n,l,x⟩=> [.inv (an_wo n l (isX l x) 5)]) (V:=V_without) (fun _=>by kernel_rfl) fun ⟨n,l,x⟩ hp=>by
  dsimp only [s_without] at hp
  dsimp only [V_without,tn,w64]
  simp only [std,stb,eq_self,implies_true,Bool.cond_self]
  try simp only [wd_eta]
  obtain ⟨P,hP⟩: ∃P:Nat→Bool,P=isX l x:=⟨_,rfl⟩
  have hc: ∀i,(l i !=x)=!P i:=fun i=>by rw [hP];rfl
  have hW:woN n l x=kpN P n:=by rw [hP];rfl
  have hF: ∀a,woF n l x a=kpT 0 P l n a:=fun a=>by rw [hP];rfl
  simp only [hW,hF]
  rw [←hP]
  have wr: ∀z:Int,-1≤z→z≤200000→IntKind.i64.wrap z=z:=fun z h1 h2=>by rw [IntKind.wrap_i64];omega
  refine ⟨rfl,⟨rfl,fun i hi=>absurd hi (by simp [kpN])⟩,fun s hs _=>⟨fun h=>?_,fun h=>?_⟩⟩
  · have hlt:=lt_of_dec h
    have hks:=kpN_le P s
    rw [hc]
    refine ⟨by omega,fun hn=>?_,fun hn=>?_⟩
    · have hps:P s=false:=notT hn
      have hn1:kpN P (s+1)=kpN P s+1:=by rw [kpN,hps];rfl
      refine ⟨by omega,by omega,wr _ (by omega) (by omega),s+1,hn1.symm,rfl,⟨hn1.symm,fun i hi=>?_⟩,by omega,by omega⟩
      rw [hn1] at hi
      rcases Nat.lt_or_ge i (kpN P s) with h3|h3
      · have e:kpT 0 P l (s+1) i=kpT 0 P l s i:=by rw [kpT,beq_ne (by omega:i≠kpN P s)];simp
        rw [blt_t h3,e];rfl
      · obtain rfl:i=kpN P s:=by omega
        have e:kpT 0 P l (s+1) (kpN P s)=l s:=by rw [kpT,hps,Nat.beq_refl];rfl
        rw [blt_f (Nat.le_refl _),e,Nat.sub_self];rfl
    · have hps:P s=true:=notF hn
      have hn1:kpN P (s+1)=kpN P s:=by rw [kpN,hps];rfl
      refine ⟨wr _ (by omega) (by omega),s+1,hn1.symm,rfl,⟨hn1.symm,fun i hi=>?_⟩,by omega,by omega⟩
      have e:kpT 0 P l (s+1) i=kpT 0 P l s i:=by rw [kpT,hps];rfl
      rw [e]
  · obtain rfl:s=n:=by have:=ge_of_dec h;omega
    exact ⟨rfl,rfl,fun _ _=>rfl⟩
end Go.Proofs.YtdjilaofmdhikaaGreatDoor
set_option linter.unusedVariables false
set_option linter.unusedSimpArgs false
set_option maxRecDepth 100000
namespace Go.Proofs.YtdjilaofmdhikaaGreatDoor
open Go.RowKit Go.Sy
def oweF (x:Run) (t:Int):Run:={x with owes:=bif x.owes==t then -1 else x.owes}
def lvS (W:Wd) (t:Int) (i:Nat):Run:=oweF (sdS W t.toNat (-1) 0 i) t
def lvLN (W:Wd) (t:Int) (i:Nat):Nat:=woN (W.linesN i) (W.lines i) t
def lvL (W:Wd) (t:Int) (i:Nat):Nat→Int:=woF (W.linesN i) (W.lines i) t
def lvRN (W:Wd) (t:Int) (i:Nat):Nat:=woN (W.readyN i) (W.ready i) t
def lvR (W:Wd) (t:Int) (i:Nat):Nat→Int:=woF (W.readyN i) (W.ready i) t
def stpW (W:Wd) (t:Int):Wd:={W with tasks:=lvS W t,linesN:=lvLN W t,lines:=lvL W t,cores:=ofC W t,readyN:=lvRN W t,ready:=lvR W t}
def lv1N (W:Wd) (t:Int) (i q:Nat):Nat:=bif Nat.blt q i then lvLN W t q else W.linesN q
def lv1L (W:Wd) (t:Int) (i q:Nat):Nat→Int:=bif Nat.blt q i then lvL W t q else W.lines q
def lv2N (W:Wd) (t:Int) (i q:Nat):Nat:=bif Nat.blt q i then lvRN W t q else W.readyN q
def lv2L (W:Wd) (t:Int) (i q:Nat):Nat→Int:=bif Nat.blt q i then lvR W t q else W.ready q
def lv4 (f:Nat→Run) (t:Int) (i q:Nat):Run:=bif Nat.blt q i then oweF (f q) t else f q
def an_lv1 (W:Wd) (t:Int) (l:List (Nat×SV)) (r:List (Nat×Nat)) (z:Nat):Ann where
  σ:=Nat
  rt:=r
  sh i:=l++ [(z,.v (.int .i64 i))]
  mh i:= [(5,.row 1 W.nLines (fun q _=> .il 1 (lv1N W t i q) (iF (lv1L W t i q))))]
  inv i:=i≤W.nLines
  μ i:=W.nLines -i
  init:=0
def an_lv2 (W:Wd) (t:Int) (l:List (Nat×SV)) (r:List (Nat×Nat)) (z:Nat):Ann where
  σ:=Nat
  rt:=r
  sh i:=l++ [(z,.v (.int .i64 i))]
  mh i:= [(8,.row 1 W.nReady (fun q _=> .il 1 (lv2N W t i q) (iF (lv2L W t i q))))]
  inv i:=i≤W.nReady
  μ i:=W.nReady -i
  init:=0
def an_lv3 (W:Wd) (t:Int) (l:List (Nat×SV)) (r:List (Nat×Nat)) (z:Nat):Ann where
  σ:=Nat
  rt:=r
  sh i:=l++ [(z,.v (.int .i64 i))]
  mh i:= [(7,.row 1 W.nCores (iF (ofS W t i)))]
  inv i:=i≤W.nCores
  μ i:=W.nCores -i
  init:=0
def an_lv4 (W:Wd) (f:Nat→Run) (t:Int) (l:List (Nat×SV)) (r:List (Nat×Nat)) (z:Nat):Ann where
  σ:=Nat
  rt:=r
  sh i:=l++ [(z,.v (.int .i64 i))]
  mh i:= [(4,.row 20 W.nTasks (rF fun q=>runL (lv4 f t i q)))]
  inv i:=i≤W.nTasks
  μ i:=W.nTasks -i
  init:=0
theorem lv1N_lt {W:Wd} {t:Int} {i q:Nat} (h:q<i):lv1N W t i q=lvLN W t q:=by unfold lv1N;rw [blt_t h];rfl
theorem lv1N_ge {W:Wd} {t:Int} {i q:Nat} (h:i≤q):lv1N W t i q=W.linesN q:=by unfold lv1N;rw [blt_f h];rfl
theorem lv1L_lt {W:Wd} {t:Int} {i q:Nat} (h:q<i):lv1L W t i q=lvL W t q:=by unfold lv1L;rw [blt_t h];rfl
theorem lv1L_ge {W:Wd} {t:Int} {i q:Nat} (h:i≤q):lv1L W t i q=W.lines q:=by unfold lv1L;rw [blt_f h];rfl
theorem lv1N_s {W:Wd} {t:Int} {s q:Nat}:(bif Nat.beq q s then woN (lv1N W t s s) (lv1L W t s s) t else lv1N W t s q)=lv1N W t (s+1) q:=by
  rw [lv1N_ge (Nat.le_refl s),lv1L_ge (Nat.le_refl s)]
  rcases Nat.lt_trichotomy q s with e|e|e
  · rw [beq_ne (by omega),lv1N_lt e,lv1N_lt (by omega:q<s+1)];rfl
  · subst e;rw [Nat.beq_refl,lv1N_lt (Nat.lt_succ_self _)];rfl
  · rw [beq_ne (by omega),lv1N_ge (by omega:s≤q),lv1N_ge (by omega:s+1≤q)];rfl
theorem lv1L_s {W:Wd} {t:Int} {s q v:Nat}:(bif Nat.beq q s then woF (lv1N W t s s) (lv1L W t s s) t v else lv1L W t s q v)=lv1L W t (s+1) q v:=by
  rw [lv1N_ge (Nat.le_refl s),lv1L_ge (Nat.le_refl s)]
  rcases Nat.lt_trichotomy q s with e|e|e
  · rw [beq_ne (by omega),lv1L_lt e,lv1L_lt (by omega:q<s+1)];rfl
  · subst e;rw [Nat.beq_refl,lv1L_lt (Nat.lt_succ_self _)];rfl
  · rw [beq_ne (by omega),lv1L_ge (by omega:s≤q),lv1L_ge (by omega:s+1≤q)];rfl
theorem lv2N_lt {W:Wd} {t:Int} {i q:Nat} (h:q<i):lv2N W t i q=lvRN W t q:=by unfold lv2N;rw [blt_t h];rfl
theorem lv2N_ge {W:Wd} {t:Int} {i q:Nat} (h:i≤q):lv2N W t i q=W.readyN q:=by unfold lv2N;rw [blt_f h];rfl
theorem lv2L_lt {W:Wd} {t:Int} {i q:Nat} (h:q<i):lv2L W t i q=lvR W t q:=by unfold lv2L;rw [blt_t h];rfl
theorem lv2L_ge {W:Wd} {t:Int} {i q:Nat} (h:i≤q):lv2L W t i q=W.ready q:=by unfold lv2L;rw [blt_f h];rfl
theorem lv2N_s {W:Wd} {t:Int} {s q:Nat}:(bif Nat.beq q s then woN (lv2N W t s s) (lv2L W t s s) t else lv2N W t s q)=lv2N W t (s+1) q:=by
  rw [lv2N_ge (Nat.le_refl s),lv2L_ge (Nat.le_refl s)]
  rcases Nat.lt_trichotomy q s with e|e|e
  · rw [beq_ne (by omega),lv2N_lt e,lv2N_lt (by omega:q<s+1)];rfl
  · subst e;rw [Nat.beq_refl,lv2N_lt (Nat.lt_succ_self _)];rfl
  · rw [beq_ne (by omega),lv2N_ge (by omega:s≤q),lv2N_ge (by omega:s+1≤q)];rfl
theorem lv2L_s {W:Wd} {t:Int} {s q v:Nat}:(bif Nat.beq q s then woF (lv2N W t s s) (lv2L W t s s) t v else lv2L W t s q v)=lv2L W t (s+1) q v:=by
  rw [lv2N_ge (Nat.le_refl s),lv2L_ge (Nat.le_refl s)]
  rcases Nat.lt_trichotomy q s with e|e|e
  · rw [beq_ne (by omega),lv2L_lt e,lv2L_lt (by omega:q<s+1)];rfl
  · subst e;rw [Nat.beq_refl,lv2L_lt (Nat.lt_succ_self _)];rfl
  · rw [beq_ne (by omega),lv2L_ge (by omega:s≤q),lv2L_ge (by omega:s+1≤q)];rfl
theorem lv4_lt {f:Nat→Run} {t:Int} {i q:Nat} (h:q<i):lv4 f t i q=oweF (f q) t:=by unfold lv4;rw [blt_t h];rfl
theorem lv4_ge {f:Nat→Run} {t:Int} {i q:Nat} (h:i≤q):lv4 f t i q=f q:=by unfold lv4;rw [blt_f h];rfl
theorem oweF_y {x:Run} {t:Int} (h:(x.owes==t)=true):oweF x t={x with owes:= -1}:=by unfold oweF;rw [h];rfl
theorem oweF_n {x:Run} {t:Int} (h:(x.owes==t)=false):oweF x t=x:=by unfold oweF;rw [h];rfl
structure X_stopped where
  (t:Int) (W:Wd)
def s_stopped:Sy.Spec:=⟨X_stopped,fun ⟨t,_⟩=> [.ptr 0 0 none 0 0,.v (.int .i64 t)],fun ⟨_,W⟩=>wMem W,fun ⟨t,W⟩=>0≤t∧t<W.nTasks∧Inv 1000 W,fun _=> .tp 0 (lsv []),fun ⟨t,W⟩=>wMem (stpW W t),
  fun args mem=>match args with| [a0,a1]=>some ⟨intD (a1),wMJD mem 0⟩|_=>none⟩
def c_stopped:Con:=⟨[true],s_stopped.g,none⟩
def V_stopped:X_stopped→Prop:=fun ⟨t,W⟩=>let a0:=SV.ptr 0 0 none 0 0;let b0:=0=((0:Nat):Int);let c0:=0=0;let d0:=W.nRam=W.nRam;let e0:=W.nKinds;let g0:=e0=e0;let h0:=W.nSlots;let k0:=h0=h0;let l0:=W.nTasks;let o0:=l0=l0;let q0:=W.nLines;let u0:=q0=q0;let v0:=W.nBits=W.nBits;let w0:=W.nCores;let x0:=w0=w0;let y0:=W.nReady;let z0:=y0=y0;let a1:=W.nTlbs=W.nTlbs;let b1:=W.nDoms=W.nDoms;let c1:=W.time=W.time;let d1:=d0∧(∀e1:Nat,e1<W.nRam→True∧W.ram e1=W.ram e1);let g1:=g0∧(∀h1:Nat,h1<e0→True∧W.kinds h1=W.kinds h1);let k1:=k0∧(∀l1:Nat,let o1:=W.slots l1;let q1:=o1.kind;let u1:=o1.base;let v1:=o1.len;let w1:=o1.mark;let x1:=o1.rights;let y1:=o1.badge;let z1:=o1.from_;l1<h0→((((((True∧q1=q1)∧u1=u1)∧v1=v1)∧w1=w1)∧x1=x1)∧y1=y1)∧z1=z1);let a2:=o0∧(∀b2:Nat,let c2:=W.tasks b2;let d2:=c2.prio;let e2:=c2.node;let g2:=c2.space;let h2:=c2.helper;let k2:=c2.loc;let l2:=c2.word;let o2:=c2.badge;let q2:=c2.owes;let u2:=c2.core;let v2:=c2.dom;b2<l0→(((((((((((((((((((True∧c2.r0=c2.r0)∧c2.r1=c2.r1)∧c2.r2=c2.r2)∧c2.r3=c2.r3)∧c2.r4=c2.r4)∧c2.r5=c2.r5)∧c2.r6=c2.r6)∧c2.r7=c2.r7)∧c2.pc=c2.pc)∧c2.st=c2.st)∧d2=d2)∧e2=e2)∧g2=g2)∧h2=h2)∧k2=k2)∧l2=l2)∧o2=o2)∧q2=q2)∧u2=u2)∧v2=v2);let w2:=v0∧(∀x2:Nat,x2<W.nBits→True∧W.bits x2=W.bits x2);let y2:=x0∧(∀z2:Nat,z2<w0→True∧W.cores z2=W.cores z2);let a3:=(a1∧(∀b3:Nat,let c3:=W.tlbsN b3;b3<W.nTlbs→True∧c3=c3∧(∀d3:Nat,let e3:=W.tlbs b3 d3;let g3:=e3.sp;let h3:=e3.pg;let k3:=e3.fr;let l3:=e3.wr;d3<c3→(((True∧g3=g3)∧h3=h3)∧k3=k3)∧l3=l3)))∧(b1∧(∀o3:Nat,o3<W.nDoms→True∧W.doms o3=W.doms o3))∧True;
    let q3:=w2∧y2∧(z0∧(∀u3:Nat,let v3:=W.readyN u3;u3<y0→True∧v3=v3∧(∀w3:Nat,w3<v3→True∧W.ready u3 w3=W.ready u3 w3)))∧a3;let x3:=(q0:Int);let y3:=SV.ptr 0 0 none 0 0=a0;let z3:=0=0;let a4:=((((((((((True∧z3∧d0)∧z3∧g0)∧z3∧k0)∧z3∧o0)∧z3∧u0)∧z3∧v0)∧z3∧x0)∧z3∧z0)∧z3∧a1)∧z3∧b1)∧c1;let b4:=0=0;let c4:=((((((((((True∧b4∧d0)∧b4∧g0)∧b4∧k0)∧b4∧o0)∧b4∧u0)∧b4∧v0)∧b4∧x0)∧b4∧z0)∧b4∧a1)∧b4∧b1)∧c1;let d4:=(y0:Int);let e4:=(w0:Int);let g4:=false=false;let h4:=W.tasks;let k4:=(l0:Int);let l4:=0≤t∧t<k4;let o4:=Int.toNat t;a0=a0∧b0∧((((((((((((True∧c0∧d0)∧c0∧g0)∧c0∧k0)∧c0∧o0)∧c0∧u0)∧c0∧v0)∧c0∧x0)∧c0∧z0)∧c0∧a1)∧c0∧b1)∧c1)∧d1∧g1∧k1∧a2∧(u0∧(∀q4:Nat,let u4:=lv1N W t 0 q4;q4<q0→True∧W.linesN q4=u4∧(∀v4:Nat,v4<u4→True∧W.lines q4 v4=lv1L W t 0 q4 v4)))∧q3)∧0≤q0∧(∀w4:Nat,let x4:=(w4:Int);let y4:=decide (x4<x3);let z4:=0≤x4∧x4<x3;let a5:=0+Int.toNat x4;let b5:=lv1N W t w4 a5;let c5:Int:=x4+1;let d5:=u0∧(∀e5:Nat,let g5:=lv1N W t w4 e5;e5<q0→True∧g5=g5∧(∀h5:Nat,let k5:=lv1L W t w4 e5 h5;h5<g5→True∧k5=k5));w4≤q0→x3≤9223372036854775807→(y4=true→tn 10 (z4∧tn 2 ((((b5=b5∧(∀l5:Nat,let o5:=lv1L W t w4 a5 (0+l5);l5<b5→True∧o5=o5))∧t=t∧True)∧True∧s_without.match_1 (fun q5:X_without=>Prop) (X_without.mk b5 (fun u5:Nat=>lv1L W t w4 a5 (0+u5)) t) (fun v5:Nat=>fun w5:∀x5:Nat,Int=>fun y5:Int=>v5≤100000))∧z4∧(∀z5:Nat,Nat.beq 1 1=true)∧w64 c5=c5∧(∃a6:Nat,y3∧c5=(a6:Int)∧(a4∧d1∧g1∧k1∧a2∧(u0∧(∀b6:Nat,let c6:=lv1N W t a6 b6;b6<q0→True∧cond (Nat.beq b6 a5) (woN b5 (fun d6:Nat=>lv1L W t w4 a5 (0+d6)) t) (lv1N W t w4 b6)=c6∧
    (∀e6:Nat,e6<c6→True∧cond (Nat.beq b6 a5) (woF b5 (fun g6:Nat=>lv1L W t w4 a5 (0+g6)) t e6) (lv1L W t w4 b6 e6)=lv1L W t a6 b6 e6)))∧q3)∧a6≤q0∧q0-a6<q0-w4))))∧(y4=false→y3∧b0∧(c4∧d1∧g1∧k1∧a2∧d5∧w2∧y2∧(z0∧(∀h6:Nat,let k6:=lv2N W t 0 h6;h6<y0→True∧W.readyN h6=k6∧(∀l6:Nat,l6<k6→True∧W.ready h6 l6=lv2L W t 0 h6 l6)))∧a3)∧0≤y0∧(∀o6:Nat,let q6:=(o6:Int);let u6:=decide (q6<d4);let v6:=0≤q6∧q6<d4;let w6:=0+Int.toNat q6;let x6:=lv2N W t o6 w6;let y6:Int:=q6+1;let z6:=(z0∧(∀a7:Nat,let b7:=lv2N W t o6 a7;a7<y0→True∧b7=b7∧(∀c7:Nat,let d7:=lv2L W t o6 a7 c7;c7<b7→True∧d7=d7)))∧a3;o6≤y0→d4≤9223372036854775807→(u6=true→tn 10 (v6∧tn 2 ((((x6=x6∧(∀e7:Nat,let g7:=lv2L W t o6 w6 (0+e7);e7<x6→True∧g7=g7))∧t=t∧True)∧True∧s_without.match_1 (fun h7:X_without=>Prop) (X_without.mk x6 (fun k7:Nat=>lv2L W t o6 w6 (0+k7)) t) (fun l7:Nat=>fun o7:∀q7:Nat,Int=>fun u7:Int=>l7≤100000))∧v6∧(∀v7:Nat,Nat.beq 1 1=true)∧w64 y6=y6∧(∃w7:Nat,y3∧y6=(w7:Int)∧(c4∧d1∧g1∧k1∧a2∧d5∧w2∧y2∧(z0∧(∀x7:Nat,let y7:=lv2N W t w7 x7;x7<y0→True∧cond (Nat.beq x7 w6) (woN x6 (fun z7:Nat=>lv2L W t o6 w6 (0+z7)) t) (lv2N W t o6 x7)=y7∧(∀a8:Nat,a8<y7→True∧cond (Nat.beq x7 w6) (woF x6 (fun b8:Nat=>lv2L W t o6 w6 (0+b8)) t a8) (lv2L W t o6 x7 a8)=lv2L W t w7 x7 a8)))∧a3)∧w7≤y0∧y0-w7<y0-o6))))∧(u6=false→y3∧b0∧(c4∧d1∧g1∧k1∧a2∧d5∧w2∧(x0∧(∀c8:Nat,c8<w0→True∧W.cores c8=ofS W t 0 c8))∧z6)∧0≤w0∧(∀d8:Nat,let e8:=(d8:Int);let g8:=decide (e8<e4);let h8:=0≤e8∧e8<e4;let k8:=0+Int.toNat e8;let l8:=ofS W t d8 k8==t;let o8:Int:=e8+1;let q8:=w64 o8=o8;
    let r8:=d5∧w2∧(x0∧(∀u8:Nat,let v8:=ofS W t d8 u8;u8<w0→True∧v8=v8))∧z6;d8≤w0→e4≤9223372036854775807→(g8=true→h8∧(l8=true→h8∧(∀w8:Nat,g4)∧q8∧(∃x8:Nat,y3∧o8=(x8:Int)∧(c4∧d1∧g1∧k1∧a2∧d5∧w2∧(x0∧(∀y8:Nat,y8<w0→True∧cond (Nat.beq y8 k8) (-1) (ofS W t d8 y8)=ofS W t x8 y8))∧z6)∧x8≤w0∧w0-x8<w0-d8))∧(l8=false→q8∧(∃z8:Nat,y3∧o8=(z8:Int)∧(c4∧d1∧g1∧k1∧a2∧d5∧w2∧(x0∧(∀a9:Nat,a9<w0→True∧ofS W t d8 a9=ofS W t z8 a9))∧z6)∧z8≤w0∧w0-z8<w0-d8)))∧(g8=false→y3∧b0∧(c4∧d1∧g1∧k1∧(o0∧(∀b9:Nat,let c9:=h4 b9;let d9:=lv4 h4 t 0 b9;b9<l0→(((((((((((((((((((True∧c9.r0=d9.r0)∧c9.r1=d9.r1)∧c9.r2=d9.r2)∧c9.r3=d9.r3)∧c9.r4=d9.r4)∧c9.r5=d9.r5)∧c9.r6=d9.r6)∧c9.r7=d9.r7)∧c9.pc=d9.pc)∧c9.st=d9.st)∧c9.prio=d9.prio)∧c9.node=d9.node)∧c9.space=d9.space)∧c9.helper=d9.helper)∧c9.loc=d9.loc)∧c9.word=d9.word)∧c9.badge=d9.badge)∧c9.owes=d9.owes)∧c9.core=d9.core)∧c9.dom=d9.dom))∧r8)∧0≤l0∧(∀e9:Nat,let g9:=(e9:Int);let h9:=decide (g9<k4);let k9:=0≤g9∧g9<k4;let l9:=0+Int.toNat g9;let o9:=(lv4 h4 t e9 l9).owes==t;let q9:Int:=g9+1;let r9:=w64 q9=q9;e9≤l0→k4≤9223372036854775807→(h9=true→k9∧(o9=true→k9∧(∀u9:Nat,g4)∧r9∧(∃v9:Nat,y3∧q9=(v9:Int)∧(c4∧d1∧g1∧k1∧(o0∧(∀w9:Nat,let x9:=lv4 h4 t e9 w9;let y9:=lv4 h4 t v9 w9;w9<l0→(((((((((((((((((((True∧x9.r0=y9.r0)∧x9.r1=y9.r1)∧x9.r2=y9.r2)∧x9.r3=y9.r3)∧x9.r4=y9.r4)∧x9.r5=y9.r5)∧x9.r6=y9.r6)∧x9.r7=y9.r7)∧x9.pc=y9.pc)∧x9.st=y9.st)∧x9.prio=y9.prio)∧x9.node=y9.node)∧x9.space=y9.space)∧x9.helper=y9.helper)∧x9.loc=y9.loc)∧x9.word=y9.word)∧x9.badge=y9.badge)∧
    cond (Nat.beq w9 l9) (-1) x9.owes=y9.owes)∧x9.core=y9.core)∧x9.dom=y9.dom))∧r8)∧v9≤l0∧l0-v9<l0-e9))∧(o9=false→r9∧(∃z9:Nat,y3∧q9=(z9:Int)∧(c4∧d1∧g1∧k1∧(o0∧(∀a10:Nat,let b10:=lv4 h4 t e9 a10;let c10:=lv4 h4 t z9 a10;a10<l0→(((((((((((((((((((True∧b10.r0=c10.r0)∧b10.r1=c10.r1)∧b10.r2=c10.r2)∧b10.r3=c10.r3)∧b10.r4=c10.r4)∧b10.r5=c10.r5)∧b10.r6=c10.r6)∧b10.r7=c10.r7)∧b10.pc=c10.pc)∧b10.st=c10.st)∧b10.prio=c10.prio)∧b10.node=c10.node)∧b10.space=c10.space)∧b10.helper=c10.helper)∧b10.loc=c10.loc)∧b10.word=c10.word)∧b10.badge=c10.badge)∧b10.owes=c10.owes)∧b10.core=c10.core)∧b10.dom=c10.dom))∧r8)∧z9≤l0∧l0-z9<l0-e9)))∧(h9=false→l4∧(∀d10:Nat,g4)∧l4∧(∀e10:Nat,g4)∧True∧a4∧d1∧g1∧k1∧(o0∧(∀g10:Nat,let h10:=lv4 h4 t e9 g10;let k10:=sdS W o4 (-1) 0 g10;let l10:=k10.owes;g10<l0→(((((((((((((((((((True∧h10.r0=k10.r0)∧h10.r1=k10.r1)∧h10.r2=k10.r2)∧h10.r3=k10.r3)∧h10.r4=k10.r4)∧h10.r5=k10.r5)∧h10.r6=k10.r6)∧h10.r7=k10.r7)∧h10.pc=k10.pc)∧cond (Nat.beq g10 (0+o4)) 0 h10.st=k10.st)∧h10.prio=k10.prio)∧h10.node=k10.node)∧h10.space=k10.space)∧h10.helper=k10.helper)∧cond (Nat.beq g10 (0+o4)) (-1) h10.loc=k10.loc)∧h10.word=k10.word)∧h10.badge=k10.badge)∧h10.owes=cond (l10==t) (-1) l10)∧h10.core=k10.core)∧h10.dom=k10.dom))∧(u0∧(∀o10:Nat,o10<q0→True∧lv1N W t w4 o10=lvLN W t o10∧(∀q10:Nat,q10<lvLN W t o10→True∧lv1L W t w4 o10 q10=lvL W t o10 q10)))∧w2∧(x0∧(∀r10:Nat,r10<w0→True∧ofS W t d8 r10=ofC W t r10))∧(z0∧(∀u10:Nat,u10<y0→True∧lv2N W t o6 u10=lvRN W t u10∧(∀v10:Nat,v10<lvRN W t u10→True∧
    lv2L W t o6 u10 v10=lvR W t u10 v10)))∧a3))))))))
set_option maxHeartbeats 2000000 in
theorem ok_stopped:FnOK Tryz.prog glN 121 c_stopped:=ok_of (.cons ok_without .nil) false Tryz.call121 Tryz.func121 (fun ⟨t,W⟩=> [.inv (an_lv1 W t [(0,pt0 0)] [] 4),.inv (an_lv2 W t [(0,pt0 0)] [] 5),.inv (an_lv3 W t [(0,pt0 0)] [] 6),.inv (an_lv4 W W.tasks t [(0,pt0 0)] [] 7)]) (V:=V_stopped) (fun _=>by kernel_rfl) fun ⟨t,W⟩ hp=>by
  dsimp only [s_stopped] at hp
  dsimp only [V_stopped,tn,w64]
  simp only [std,stb,eq_self,implies_true,Bool.cond_self]
  try simp only [wd_eta]
  obtain ⟨t0,t1,hI⟩:=hp
  have z1:=hI.z.lines
  have z2:=hI.z.ready
  have z3:=hI.z.tasks
  have z4:=hI.z.k1
  have z5:=hI.z.c1
  refine ⟨fun q _=>⟨(lv1N_ge (Nat.zero_le _)).symm,fun v _=>by rw [lv1L_ge (Nat.zero_le _)]⟩,fun s hs _=>⟨fun h=>?_,fun h=>?_⟩⟩
  · have hlt:=lt_of_dec h
    have hl:=(hI.ln s (by omega)).1
    exact ⟨by omega,by rw [lv1N_ge (Nat.le_refl _)];omega,by omega,fun _=>rfl,wr_in (by omega) (by omega),s+1,by omega,fun q _=>⟨lv1N_s,fun v _=>lv1L_s⟩,by omega,by omega⟩
  have hge:=ge_of_dec h
  obtain rfl:s=W.nLines:=by omega
  clear h hge
  refine ⟨fun q _=>⟨(lv2N_ge (Nat.zero_le _)).symm,fun v _=>by rw [lv2L_ge (Nat.zero_le _)]⟩,fun s hs _=>⟨fun h=>?_,fun h=>?_⟩⟩
  · have hlt:=lt_of_dec h
    have hl:=(hI.rd s (by omega)).1
    exact ⟨by omega,by rw [lv2N_ge (Nat.le_refl _)];omega,by omega,fun _=>rfl,wr_in (by omega) (by omega),s+1,by omega,fun q _=>⟨lv2N_s,fun v _=>lv2L_s⟩,by omega,by omega⟩
  have hge:=ge_of_dec h
  obtain rfl:s=W.nReady:=by omega
  clear h hge
  refine ⟨fun j _=>(ofS_ge (Nat.zero_le _)).symm,fun s hs _=>⟨fun h=>?_,fun h=>?_⟩⟩
  · have hlt:=lt_of_dec h
    refine ⟨by omega,fun h1=>⟨by omega,wr_in (by omega) (by omega),s+1,by omega,fun j _=>?_,by omega,by omega⟩,fun h1=>⟨wr_in (by omega) (by omega),s+1,by omega,fun j _=>?_,by omega,by omega⟩⟩
    · rw [ofS_ge (Nat.le_refl _)] at h1
      rcases Nat.lt_trichotomy j s with e|e|e
      · rw [beq_ne (by omega),ofS_lt e,ofS_lt (by omega:j<s+1)];rfl
      · subst e;rw [Nat.beq_refl,ofS_lt (Nat.lt_succ_self _)];unfold ofC;rw [h1];rfl
      · rw [beq_ne (by omega),ofS_ge (by omega),ofS_ge (by omega:s+1≤j)];rfl
    · rw [ofS_ge (Nat.le_refl _)] at h1
      rcases Nat.lt_trichotomy j s with e|e|e
      · rw [ofS_lt e,ofS_lt (by omega:j<s+1)]
      · subst e;rw [ofS_ge (Nat.le_refl _),ofS_lt (Nat.lt_succ_self _)];unfold ofC;rw [h1];rfl
      · rw [ofS_ge (by omega),ofS_ge (by omega:s+1≤j)]
  have hge:=ge_of_dec h
  obtain rfl:s=W.nCores:=by omega
  clear h hge
  refine ⟨fun j _=>run20 (lv4_ge (Nat.zero_le _)).symm,fun s hs _=>⟨fun h=>?_,fun h=>?_⟩⟩
  · have hlt:=lt_of_dec h
    refine ⟨by omega,fun h1=>⟨by omega,wr_in (by omega) (by omega),s+1,by omega,fun j _=>?_,by omega,by omega⟩,fun h1=>⟨wr_in (by omega) (by omega),s+1,by omega,fun j _=>?_,by omega,by omega⟩⟩
    · rw [lv4_ge (Nat.le_refl _)] at h1
      rcases Nat.lt_trichotomy j s with e|e|e
      · rw [beq_ne (by omega),lv4_lt e,lv4_lt (by omega:j<s+1)];exact run20 rfl
      · subst e
        rw [Nat.beq_refl,lv4_lt (Nat.lt_succ_self _),lv4_ge (Nat.le_refl _),oweF_y h1]
        simp only [cond_true]
        repeat' (first|exact trivial|rfl|refine And.intro ?_ ?_)
      · rw [beq_ne (by omega),lv4_ge (by omega),lv4_ge (by omega:s+1≤j)];exact run20 rfl
    · rw [lv4_ge (Nat.le_refl _)] at h1
      rcases Nat.lt_trichotomy j s with e|e|e
      · rw [lv4_lt e,lv4_lt (by omega:j<s+1)];exact run20 rfl
      · subst e;rw [lv4_ge (Nat.le_refl _),lv4_lt (Nat.lt_succ_self _),oweF_n h1];exact run20 rfl
      · rw [lv4_ge (by omega),lv4_ge (by omega:s+1≤j)];exact run20 rfl
  have hge:=ge_of_dec h
  obtain rfl:s=W.nTasks:=by omega
  clear h hge
  refine ⟨⟨t0,t1⟩,⟨t0,t1⟩,fun j hj=>?_,fun j hj=>⟨lv1N_lt hj,fun v _=>by rw [lv1L_lt hj]⟩,fun j hj=>ofS_lt hj,fun j hj=>⟨lv2N_lt hj,fun v _=>by rw [lv2L_lt hj]⟩⟩
  rcases Decidable.em (j=t.toNat) with e|e
  · subst e
    simp only [Nat.beq_refl,cond_true,lv4_lt hj]
    unfold sdS
    rw [updF_at]
    repeat' (first|exact trivial|rfl|refine And.intro ?_ ?_)
  · simp only [beq_ne e,cond_false,lv4_lt hj]
    unfold sdS
    rw [updF_ne e]
    repeat' (first|exact trivial|rfl|refine And.intro ?_ ?_)
end Go.Proofs.YtdjilaofmdhikaaGreatDoor
