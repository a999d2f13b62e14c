/- What a sound world is: lines, tables. -/
import Derived.Test.YtdjilaofmdhikaaGreatDoorYJ
set_option linter.unusedVariables false
set_option linter.unusedSimpArgs false
set_option linter.unusedVariables false
set_option linter.unusedSimpArgs false
set_option maxRecDepth 100000
namespace Go.Proofs.YtdjilaofmdhikaaGreatDoor
open Go.RowKit Go.Sy
def intK (s:SV) (k:Int→Ann):Ann:=match s with| .v (.int _ x)=>k x|_=>k 0
def an_lw (W:Wd) (f:Nat):Ann where
  σ:=Nat
  rt:= [(2,0)]
  sh i:= [(2,pt0 0),(7,.v (.int .i64 i))]
  mh _:= []
  inv i:=i≤W.linesN f∧ ∀j,j<i→lnTest W f (W.lines f j)=true
  μ i:=W.linesN f -i
  init:=0
def an_tl1 (W:Wd) (n:Nat) (l:Nat→Ent4):Ann where
  σ:=Nat
  rt:= [(2,0)]
  sh i:= [(2,pt0 0),(5,.v (.int .i64 i))]
  mh _:= []
  inv i:=i≤n∧ ∀j,j<i→tlT W l j=true
  μ i:=n -i
  init:=0
def an_tl2 (l:Nat→Ent4) (i:Int):Ann where
  σ:=Nat
  rt:= [(2,0),(6,0)]
  sh k:= [(2,pt0 0),(6,pt0 1),(10,.v (.int .i64 k))]
  mh _:= []
  inv k:=k≤i.toNat∧ ∀j,j<k→((l j).sp==(l i.toNat).sp&&(l j).pg==(l i.toNat).pg)=false
  μ k:=i.toNat -k
  init:=0
structure X_lineWell where
  (W:Wd) (f:Int)
def s_lineWell:Sy.Spec:=⟨X_lineWell,fun ⟨W,f⟩=> [wSV W,.v (.int .i64 f)],fun _=> [],fun ⟨W,f⟩=>Szd W∧smB W∧0≤f∧f<W.nKinds,fun ⟨W,f⟩=> .v (.bool (lnB W f.toNat)),fun _=> [],
  fun args mem=>match args with| [a0,a1]=>some ⟨wSVD a0,intD (a1)⟩|_=>none⟩
def c_lineWell:Con:=⟨[],(s_lineWell).g,none⟩
def V_lineWell:X_lineWell→Prop:=fun ⟨W,f⟩=>let a0:=W.nLines;let b0:=W.nKinds;let c0:=Int.toNat f;let d0:=W.linesN c0;let e0:=(d0:Int);let g0:=e0≤9223372036854775807;let h0:=decide (0<e0);let k0:=W.kinds c0;let l0:=k0 !=8;let o0:=cond (cond h0 (k0 !=7) false) l0 false;let q0:=W.nBits;let u0:=0≤f∧f<(q0:Int);let v0:=W.bits c0;let w0:=cond o0 true (cond (v0 !=0) (cond l0 true h0) false);let x0:=w0=false;let y0:=cond w0 true (farB v0 65535);let z0:=lnB W c0;let a1:=false=z0∧True;let b1:=SV.ptr 0 0 none 0 0=SV.ptr 0 0 none 0 0;let c1:=W.nSlots;let d1:=W.nTasks;let e1:=W.nCores;let g1:=W.nReady;
    let h1:=((((((((((True∧W.nRam=W.nRam∧(∀k1:Nat,k1<W.nRam→True∧W.ram k1=W.ram k1))∧b0=b0∧(∀l1:Nat,l1<b0→True∧W.kinds l1=W.kinds l1))∧c1=c1∧(∀o1:Nat,let q1:=W.slots o1;let u1:=q1.kind;let v1:=q1.base;let w1:=q1.len;let x1:=q1.mark;let y1:=q1.rights;let z1:=q1.badge;let a2:=q1.from_;o1<c1→((((((True∧u1=u1)∧v1=v1)∧w1=w1)∧x1=x1)∧y1=y1)∧z1=z1)∧a2=a2))∧d1=d1∧(∀b2:Nat,let c2:=W.tasks b2;let d2:=c2.prio;let e2:=c2.node;let g2:=c2.space;let h2:=c2.helper;let k2:=c2.loc;let l2:=c2.word;let o2:=c2.badge;let q2:=c2.owes;let u2:=c2.core;let v2:=c2.dom;b2<d1→(((((((((((((((((((True∧c2.r0=c2.r0)∧c2.r1=c2.r1)∧c2.r2=c2.r2)∧c2.r3=c2.r3)∧c2.r4=c2.r4)∧c2.r5=c2.r5)∧c2.r6=c2.r6)∧c2.r7=c2.r7)∧c2.pc=c2.pc)∧c2.st=c2.st)∧d2=d2)∧e2=e2)∧g2=g2)∧h2=h2)∧k2=k2)∧l2=l2)∧o2=o2)∧q2=q2)∧u2=u2)∧v2=v2))∧a0=a0∧(∀w2:Nat,let x2:=W.linesN w2;w2<a0→True∧x2=x2∧(∀y2:Nat,y2<x2→True∧W.lines w2 y2=W.lines w2 y2)))∧q0=q0∧(∀z2:Nat,z2<q0→True∧W.bits z2=W.bits z2))∧e1=e1∧(∀a3:Nat,a3<e1→True∧W.cores a3=W.cores a3))∧g1=g1∧(∀b3:Nat,let c3:=W.readyN b3;b3<g1→True∧c3=c3∧(∀d3:Nat,d3<c3→True∧W.ready b3 d3=W.ready b3 d3)))∧W.nTlbs=W.nTlbs∧(∀e3:Nat,let g3:=W.tlbsN e3;e3<W.nTlbs→True∧g3=g3∧(∀h3:Nat,let k3:=W.tlbs e3 h3;let l3:=k3.sp;let o3:=k3.pg;let q3:=k3.fr;let u3:=k3.wr;h3<g3→(((True∧l3=l3)∧o3=o3)∧q3=q3)∧u3=u3)))∧W.nDoms=W.nDoms∧(∀v3:Nat,v3<W.nDoms→True∧W.doms v3=W.doms v3))∧W.time=W.time;let w3:=h1∧True;let x3:=(d1:Int);let y3:=W.lines c0 (Int.toNat 0);let z3:=(W.tasks (Int.toNat y3)).st==4;True∧(0≤f∧f<(a0:Int))∧(0≤f∧f<(b0:Int))∧
    (g0→(o0=false→u0)∧(x0→u0)∧(x0→(v0=v0∧(65535:Int)=65535∧True)∧True∧True)∧(y0=true→a1)∧(y0=false→b1∧0=((0:Nat):Int)∧w3∧(0≤d0∧(∀a4:Nat,a4<0→lnTest W c0 (W.lines c0 a4)=true))∧(∀b4:Nat,let c4:=(b4:Int);let d4:=decide (c4<e0);let e4:=0≤c4∧c4<e0;let g4:=W.lines c0 (Int.toNat c4);let h4:=kof W g4 !=6;let k4:=h4=false;let l4:=0≤g4∧g4<x3;let o4:=W.tasks (Int.toNat g4);let q4:=cond h4 true (o4.loc !=f);let u4:=(o4.st==4) !=z3;let v4:Int:=c4+1;b4≤d0∧(∀w4:Nat,w4<b4→lnTest W c0 (W.lines c0 w4)=true)→g0→(d4=true→tn 3 (e4∧True∧((h1∧g4=g4∧True)∧True∧True)∧tn 6 ((k4→e4)∧True∧(k4→l4)∧tn 3 ((q4=true→a1)∧(q4=false→tn 4 (e4∧True∧l4∧tn 6 (((0:Int)≤0∧0<e0)∧True∧(0≤y3∧y3<x3)∧tn 3 ((u4=true→a1)∧(u4=false→w64 v4=v4∧(∃x4:Nat,b1∧v4=(x4:Int)∧w3∧(x4≤d0∧(∀y4:Nat,y4<x4→lnTest W c0 (W.lines c0 y4)=true))∧d0-x4<d0-b4))))))))))∧(d4=false→true=z0∧True))))
theorem ok_lineWell:FnOK Tryz.prog glN 171 c_lineWell:=ok_of (.cons ok_far (.cons ok_kindOf .nil)) false Tryz.call171 Tryz.func171 (fun ⟨W,f⟩=> [.inv (an_lw W f.toNat)]) (V:=V_lineWell) (fun _=>by kernel_rfl) fun ⟨W,f⟩ hp=>by
  dsimp only [s_lineWell] at hp
  dsimp only [V_lineWell,tn,w64]
  obtain ⟨hz,hm,f0,f1⟩:=hp
  obtain ⟨F,rfl⟩: ∃F:Nat,f=F:=⟨f.toNat,by omega⟩
  simp only [std,stb,eq_self,implies_true,Bool.cond_self]
  have hz1:=hz.tasks
  have hz2:=hz.k1
  have hz3:=hz.lines
  have hz4:=hz.bits
  have hL:=hm.1 F (by omega)
  rw [show decide ((0:Int)<(W.linesN F:Int))=decide (0<W.linesN F) from decide_eq_decide.2 (by omega)]
  refine ⟨by omega,by omega,fun _=>⟨fun _=>by omega,fun _=>by omega,fun h=>eqF fun ht=>?_,fun h s hs _=>?_⟩⟩
  · unfold lnB at ht
    simp only [Bool.and_eq_true (a:=_) (b:=allB _ _),Bool.not_eq_true',Bool.and_eq_true (a:=!_) (b:=!_),Bool.and_eq_true (a:=!_&&!_) (b:=!_)] at ht
    obtain ⟨⟨⟨a,b⟩,c⟩,_⟩:=ht
    rw [a,b,c] at h
    exact Bool.false_ne_true h
  have core:lnB W F=allB (W.linesN F) fun i=>lnTest W F (W.lines F i):=by
    rw [Bool.or_eq_false_iff,Bool.or_eq_false_iff] at h
    obtain ⟨⟨a,b⟩,c⟩:=h
    unfold lnB;rw [a,b,c];rfl
  rw [core]
  refine ⟨fun h1=>?_,fun h1=>?_⟩
  · have hlt:=lt_of_dec h1
    have hk: ∀t,(kof W t !=6)=false→0≤t∧t<W.nTasks:=fun t h=>by
      rw [hz1];exact kof_in (by rw [show kof W t=6 by simpa using h];decide)
    refine ⟨by omega,fun _=>by omega,hk _,fun h2=>?_,fun h2=>?_⟩
    · refine (allB_false (p:=fun i=>lnTest W F (W.lines F i)) hlt ?_).symm
      revert h2
      show _→lnTest W F (W.lines F s)=false
      simp only [bne]
      unfold lnTest
      cases kof W (W.lines F s)==6<;>cases (W.tasks (W.lines F s).toNat).loc==F<;>simp
    · have h2':=h2
      rw [Bool.or_eq_false_iff] at h2'
      have h00:0≤W.lines F 0∧W.lines F 0<W.nTasks:=by
        rcases Nat.eq_zero_or_pos s with h|h
        · subst h;exact hk _ h2'.1
        · have:=hs.2 0 h
          unfold lnTest at this
          simp only [Bool.and_eq_true,beq_iff_eq] at this
          rw [hz1];exact kof_in (by rw [this.1.1];decide)
      have hk6:(kof W (W.lines F s)==6)=true:=by have:=h2'.1;revert this;simp only [bne];cases kof W (W.lines F s)==6<;>simp
      have hl6:((W.tasks (W.lines F s).toNat).loc==F)=true:=by have:=h2'.2;revert this;simp only [bne];cases (W.tasks (W.lines F s).toNat).loc==F<;>simp
      have ht:lnTest W F (W.lines F s)=(wtB W (W.lines F s)==wtB W (W.lines F 0)):=by unfold lnTest;rw [hk6,hl6];rfl
      refine ⟨by omega,hk _ h2'.1,⟨by decide,by omega⟩,h00,fun h3=>?_,fun h3=>⟨by rw [IntKind.wrap_i64];omega,exS ⟨⟨by omega,snocB hs.2 ?_⟩,by omega⟩⟩⟩
      · refine (allB_false (p:=fun i=>lnTest W F (W.lines F i)) hlt ?_).symm
        show lnTest W F (W.lines F s)=false
        rw [ht]
        exact by simpa [bne] using (show (!(wtB W (W.lines F s)==wtB W (W.lines F 0)))=true from h3)
      · rw [ht]
        exact by simpa [bne] using (show (!(wtB W (W.lines F s)==wtB W (W.lines F 0)))=false from h3)
  · have hge:=ge_of_dec h1
    obtain rfl:s=W.linesN F:=by omega
    exact (allB_all hs.2).symm
structure X_entryWell where
  (W:Wd) (i:Int)
def s_entryWell:Sy.Spec:=⟨X_entryWell,fun ⟨W,i⟩=> [wSV W,.v (.int .i64 i)],fun _=> [],fun ⟨W,i⟩=>Szd W∧0≤i∧i<W.nRam∧isW (W.ram i.toNat),fun ⟨W,i⟩=> .v (.bool (enB W i.toNat)),fun _=> [],
  fun args mem=>match args with| [a0,a1]=>some ⟨wSVD a0,intD (a1)⟩|_=>none⟩
def c_entryWell:Con:=⟨[],(s_entryWell).g,none⟩
def V_entryWell:X_entryWell→Prop:=fun ⟨W,i⟩=>let a0:=W.nRam;let b0:Int:=i/16;let c0:=W.nKinds;let d0:=W.ram (Int.toNat i);let e0:=W.kinds (Int.toNat b0);let g0:=cond (d0==0) true (cond (e0 !=3) (e0 !=4) false);let h0:=enB W (Int.toNat i);let k0:=e0==4;let l0:Int:=d0%1024;let o0:Int:=d0-l0;let q0:=w64 o0=o0;let u0:=o0==32768;let v0:=W.nSlots;let w0:=W.nTasks;let x0:=W.nLines;let y0:=W.nCores;let z0:=W.nReady;
    let a1:=((((((((((((True∧a0=a0∧(∀b1:Nat,b1<a0→True∧W.ram b1=W.ram b1))∧c0=c0∧(∀c1:Nat,c1<c0→True∧W.kinds c1=W.kinds c1))∧v0=v0∧(∀d1:Nat,let e1:=W.slots d1;let g1:=e1.kind;let h1:=e1.base;let k1:=e1.len;let l1:=e1.mark;let o1:=e1.rights;let q1:=e1.badge;let u1:=e1.from_;d1<v0→((((((True∧g1=g1)∧h1=h1)∧k1=k1)∧l1=l1)∧o1=o1)∧q1=q1)∧u1=u1))∧w0=w0∧(∀v1:Nat,let w1:=W.tasks v1;let x1:=w1.prio;let y1:=w1.node;let z1:=w1.space;let a2:=w1.helper;let b2:=w1.loc;let c2:=w1.word;let d2:=w1.badge;let e2:=w1.owes;let g2:=w1.core;let h2:=w1.dom;v1<w0→(((((((((((((((((((True∧w1.r0=w1.r0)∧w1.r1=w1.r1)∧w1.r2=w1.r2)∧w1.r3=w1.r3)∧w1.r4=w1.r4)∧w1.r5=w1.r5)∧w1.r6=w1.r6)∧w1.r7=w1.r7)∧w1.pc=w1.pc)∧w1.st=w1.st)∧x1=x1)∧y1=y1)∧z1=z1)∧a2=a2)∧b2=b2)∧c2=c2)∧d2=d2)∧e2=e2)∧g2=g2)∧h2=h2))∧x0=x0∧(∀k2:Nat,let l2:=W.linesN k2;k2<x0→True∧l2=l2∧(∀o2:Nat,o2<l2→True∧W.lines k2 o2=W.lines k2 o2)))∧W.nBits=W.nBits∧(∀q2:Nat,q2<W.nBits→True∧W.bits q2=W.bits q2))∧y0=y0∧(∀u2:Nat,u2<y0→True∧W.cores u2=W.cores u2))∧z0=z0∧(∀v2:Nat,let w2:=W.readyN v2;v2<z0→True∧w2=w2∧(∀x2:Nat,x2<w2→True∧W.ready v2 x2=W.ready v2 x2)))∧W.nTlbs=W.nTlbs∧(∀y2:Nat,let z2:=W.tlbsN y2;y2<W.nTlbs→True∧z2=z2∧(∀a3:Nat,let b3:=W.tlbs y2 a3;let c3:=b3.sp;let d3:=b3.pg;let e3:=b3.fr;let g3:=b3.wr;a3<z2→(((True∧c3=c3)∧d3=d3)∧e3=e3)∧g3=g3)))∧W.nDoms=W.nDoms∧(∀h3:Nat,h3<W.nDoms→True∧W.doms h3=W.doms h3))∧W.time=W.time)∧l0=l0∧True)∧True∧True;let k3:=kof W l0;let l3:=cond u0 true (o0==49152);True∧(0≤i∧i<(a0:Int))∧(0≤i∧(0:Int)<16∧w64 b0=b0)∧(0≤b0∧
    b0<(c0:Int))∧(g0=true→true=h0∧True)∧(g0=false→(0≤d0∧(0:Int)<1024)∧(k0=true→q0∧(u0=true→a1)∧cond u0 (k3==3) false=h0∧True)∧(k0=false→q0∧(u0=false→q0)∧(l3=true→a1)∧cond l3 (k3==2) false=h0∧True))
theorem ok_entryWell:FnOK Tryz.prog glN 173 c_entryWell:=ok_of (.cons ok_kindOf .nil) false Tryz.call173 Tryz.func173 (fun _=> []) (V:=V_entryWell) (fun _=>by kernel_rfl) fun ⟨W,i⟩ hp=>by
  dsimp only [s_entryWell] at hp
  dsimp only [V_entryWell,tn,w64]
  obtain ⟨hz,i0,i1,hw⟩:=hp
  obtain ⟨I,rfl⟩: ∃I:Nat,i=I:=⟨i.toNat,by omega⟩
  simp only [std,stb,eq_self,implies_true,Bool.cond_self]
  have e16:((I:Int)/16).toNat=I/16:=by omega
  rw [e16]
  rw [Int.toNat_natCast] at hw
  unfold isW at hw
  have hz1:=hz.ram
  have hz2:=hz.k1
  refine ⟨by omega,⟨by decide,by rw [IntKind.wrap_i64];omega⟩,by omega,fun h=>?_,fun h=>⟨⟨hw.1,by decide⟩,fun h1=>⟨by rw [IntKind.wrap_i64];omega,?_⟩,fun h1=>⟨by rw [IntKind.wrap_i64];omega,fun _=>by rw [IntKind.wrap_i64];omega,?_⟩⟩⟩
  · simp only [enB];rw [h];rfl
  · simp only [enB];rw [h,h1];rfl
  · simp only [enB];rw [h,h1];rfl
structure X_tlbWell where
  (W:Wd) (n:Nat) (l:Nat→Ent4)
def s_tlbWell:Sy.Spec:=⟨X_tlbWell,fun ⟨W,n,l⟩=> [wSV W,.sl true 4 n (rF fun i=>enL (l i))],fun _=> [],fun ⟨W,n,_⟩=>Szd W∧n≤1000∧ ∀i,i<W.nRam→isW (W.ram i),fun ⟨W,n,l⟩=> .v (.bool (tlB W n l)),fun _=> [],
  fun args mem=>match args with| [a0,a1]=>some ⟨wSVD a0,slN a1,fun i=>enBD (fun j=>slF a1 i j)⟩|_=>none⟩
def c_tlbWell:Con:=⟨[],(s_tlbWell).g,none⟩
def V_tlbWell:X_tlbWell→Prop:=fun ⟨W,n,l⟩=>let a0:=(n:Int);let b0:=decide (4<a0);let c0:=false=tlB W n l∧True;let d0:=SV.ptr 0 0 none 0 0=SV.ptr 0 0 none 0 0;let e0:=W.nRam;let g0:=e0=e0∧(∀h0:Nat,h0<e0→True∧W.ram h0=W.ram h0);let k0:=W.nKinds;let l0:=W.nSlots;let o0:=W.nTasks;let q0:=W.nLines;let u0:=W.nCores;let v0:=W.nReady;
    let w0:=((((((((((True∧g0)∧k0=k0∧(∀x0:Nat,x0<k0→True∧W.kinds x0=W.kinds x0))∧l0=l0∧(∀y0:Nat,let z0:=W.slots y0;let a1:=z0.kind;let b1:=z0.base;let c1:=z0.len;let d1:=z0.mark;let e1:=z0.rights;let g1:=z0.badge;let h1:=z0.from_;y0<l0→((((((True∧a1=a1)∧b1=b1)∧c1=c1)∧d1=d1)∧e1=e1)∧g1=g1)∧h1=h1))∧o0=o0∧(∀k1:Nat,let l1:=W.tasks k1;let o1:=l1.prio;let q1:=l1.node;let u1:=l1.space;let v1:=l1.helper;let w1:=l1.loc;let x1:=l1.word;let y1:=l1.badge;let z1:=l1.owes;let a2:=l1.core;let b2:=l1.dom;k1<o0→(((((((((((((((((((True∧l1.r0=l1.r0)∧l1.r1=l1.r1)∧l1.r2=l1.r2)∧l1.r3=l1.r3)∧l1.r4=l1.r4)∧l1.r5=l1.r5)∧l1.r6=l1.r6)∧l1.r7=l1.r7)∧l1.pc=l1.pc)∧l1.st=l1.st)∧o1=o1)∧q1=q1)∧u1=u1)∧v1=v1)∧w1=w1)∧x1=x1)∧y1=y1)∧z1=z1)∧a2=a2)∧b2=b2))∧q0=q0∧(∀c2:Nat,let d2:=W.linesN c2;c2<q0→True∧d2=d2∧(∀e2:Nat,e2<d2→True∧W.lines c2 e2=W.lines c2 e2)))∧W.nBits=W.nBits∧(∀g2:Nat,g2<W.nBits→True∧W.bits g2=W.bits g2))∧u0=u0∧(∀h2:Nat,h2<u0→True∧W.cores h2=W.cores h2))∧v0=v0∧(∀k2:Nat,let l2:=W.readyN k2;k2<v0→True∧l2=l2∧(∀o2:Nat,o2<l2→True∧W.ready k2 o2=W.ready k2 o2)))∧W.nTlbs=W.nTlbs∧(∀q2:Nat,let u2:=W.tlbsN q2;q2<W.nTlbs→True∧u2=u2∧(∀v2:Nat,let w2:=W.tlbs q2 v2;let x2:=w2.sp;let y2:=w2.pg;let z2:=w2.fr;let a3:=w2.wr;v2<u2→(((True∧x2=x2)∧y2=y2)∧z2=z2)∧a3=a3)))∧W.nDoms=W.nDoms∧(∀b3:Nat,b3<W.nDoms→True∧W.doms b3=W.doms b3))∧W.time=W.time;let c3:=w0∧True;let d3:=True∧True;let e3:=W.ram;let g3:=SV.ptr (0+1) 0 none 0 0=SV.ptr 1 0 none 0 0;True∧(a0≤9223372036854775807→(b0=true→c0)∧(b0=false→d0∧0=((0:Nat):Int)∧c3∧(0≤n∧
    (∀h3:Nat,h3<0→tlT W l h3=true))∧(∀k3:Nat,let l3:=(k3:Int);let o3:=decide (l3<a0);let q3:=Int.toNat l3;let u3:=l q3;let v3:=u3.sp;let w3:=v3=v3;let x3:=kof W v3 !=4;let y3:=u3.pg;let z3:=y3=y3;let a4:=cond x3 true (farB y3 255);let b4:Int:=16*y3;let c4:=u3.fr;let d4:=u3.wr;let e4:=cond (cond (wkE e0 e3 v3 b4 !=0) true (wkF e0 e3 v3 b4 !=c4)) true (wkW e0 e3 v3 b4 !=d4);let g4:=w0∧((((True∧w3)∧z3)∧c4=c4)∧d4=d4)∧True;let h4:Int:=l3+1;k3≤n∧(∀k4:Nat,k4<k3→tlT W l k4=true)→a0≤9223372036854775807→(o3=true→(0≤l3∧l3<a0)∧True∧tn 2 d3∧((w0∧w3∧True)∧d3)∧(x3=false→(z3∧(255:Int)=255∧True)∧d3)∧(a4=true→c0)∧(a4=false→w64 b4=b4∧((g0∧w3∧b4=b4∧True)∧True∧(∀l4:Nat,l4<e0→0≤e3 l4∧e3 l4≤65535))∧(e4=true→c0)∧(e4=false→d0∧g3∧0=((0:Nat):Int)∧g4∧(0≤q3∧(∀o4:Nat,o4<0→((l o4).sp==v3&&(l o4).pg==y3)=false))∧(∀q4:Nat,let u4:=(q4:Int);let v4:=decide (u4<l3);let w4:=0≤u4∧u4<a0;let x4:=l (Int.toNat u4);let y4:=x4.sp==v3;let z4:=cond y4 (x4.pg==y3) false;let a5:Int:=u4+1;q4≤q3∧(∀b5:Nat,b5<q4→((l b5).sp==v3&&(l b5).pg==y3)=false)→(v4=true→tn 2 (w4∧tn 8 ((y4=true→w4)∧tn 4 ((z4=true→c0)∧(z4=false→w64 a5=a5∧(∃c5:Nat,d0∧g3∧a5=(c5:Int)∧g4∧(c5≤q3∧(∀d5:Nat,d5<c5→((l d5).sp==v3&&(l d5).pg==y3)=false))∧q3-c5<q3-q4))))))∧(v4=false→w64 h4=h4∧(∃e5:Nat,d0∧h4=(e5:Int)∧c3∧(e5≤n∧(∀g5:Nat,g5<e5→tlT W l g5=true))∧n-e5<n-k3))))))∧(o3=false→true=tlB W n l∧True))))
theorem ok_tlbWell:FnOK Tryz.prog glN 174 c_tlbWell:=ok_of (.cons ok_far (.cons ok_walked (.cons ok_kindOf .nil))) false Tryz.call174 Tryz.func174 (fun ⟨W,n,l⟩=> [.inv (an_tl1 W n l),.invF false fun fr=>intK (fr 5) (an_tl2 l)]) (V:=V_tlbWell) (fun _=>by kernel_rfl) fun ⟨W,n,l⟩ hp=>by
  dsimp only [s_tlbWell] at hp
  dsimp only [V_tlbWell,tn,w64]
  obtain ⟨hz,hn,hw⟩:=hp
  simp only [std,stb,eq_self,implies_true,Bool.cond_self]
  have wr: ∀z:Int,-100000≤z→z≤100000→IntKind.i64.wrap z=z:=fun z h1 h2=>by rw [IntKind.wrap_i64];omega
  refine fun _=>⟨fun h=>eqF fun ht=>?_,fun h s hs _=>?_⟩
  · unfold tlB at ht
    simp only [Bool.and_eq_true,decide_eq_true_eq] at ht h
    omega
  have core:tlB W n l=allB n fun i=>tlT W l i:=by
    unfold tlB;rw [decide_eq_true (show n≤4 by have:=of_decide_eq_false h;omega)];rfl
  rw [core]
  refine ⟨fun h1=>?_,fun h1=>?_⟩
  · have hlt:=lt_of_dec h1
    refine ⟨by omega,fun h2=>?_,fun h2=>⟨?_,hw,fun h3=>?_,fun h3 k hk=>⟨fun h4=>⟨by have:=lt_of_dec h4;omega,fun _=>by have:=lt_of_dec h4;omega,fun h5=>?_,fun h5=>⟨wr _ (by have:=lt_of_dec h4;omega) (by have:=lt_of_dec h4;omega),exS ⟨⟨by have:=lt_of_dec h4;omega,snocF (p:=fun j=>(l j).sp==(l s).sp&&(l j).pg==(l s).pg) hk.2 h5⟩,by have:=lt_of_dec h4;omega⟩⟩⟩,fun h4=>⟨wr _ (by omega) (by omega),exS ⟨⟨by omega,snocB hs.2 ?_⟩,by omega⟩⟩⟩⟩⟩
    · refine (allB_false (p:=fun i=>tlT W l i) hlt ?_).symm
      show tlT W l s=false
      revert h2;simp only [bne];unfold tlT
      cases kof W (l s).sp==4<;>cases farB (l s).pg 255<;>simp
    · have hf:farB (l s).pg 255=false:=by rw [Bool.or_eq_false_iff] at h2;exact h2.2
      have:0≤(l s).pg∧(l s).pg≤255:=by simp [farB] at hf;omega
      exact wr _ (by omega) (by omega)
    · refine (allB_false (p:=fun i=>tlT W l i) hlt ?_).symm
      show tlT W l s=false
      revert h3;simp only [bne];unfold tlT
      cases wkE W.nRam W.ram (l s).sp (16*(l s).pg)==0<;>cases wkF W.nRam W.ram (l s).sp (16*(l s).pg)==(l s).fr<;>cases wkW W.nRam W.ram (l s).sp (16*(l s).pg)==(l s).wr<;>simp
    · refine (allB_false (p:=fun i=>tlT W l i) hlt ?_).symm
      show tlT W l s=false
      unfold tlT
      rw [anyB_iff.2 ⟨k,lt_of_dec h4,h5⟩]
      simp
    · have hge:=ge_of_dec h4
      obtain rfl:k=s:=by omega
      revert h2 h3
      simp only [bne];unfold tlT
      rw [anyB_false.2 hk.2]
      cases kof W (l k).sp==4<;>cases farB (l k).pg 255<;>cases wkE W.nRam W.ram (l k).sp (16*(l k).pg)==0<;>cases wkF W.nRam W.ram (l k).sp (16*(l k).pg)==(l k).fr<;>cases wkW W.nRam W.ram (l k).sp (16*(l k).pg)==(l k).wr<;>simp
  · have hge:=ge_of_dec h1
    obtain rfl:s=n:=by omega
    exact (allB_all hs.2).symm
end Go.Proofs.YtdjilaofmdhikaaGreatDoor
set_option linter.unusedVariables false
set_option linter.unusedSimpArgs false
set_option maxRecDepth 100000
namespace Go.Proofs.YtdjilaofmdhikaaGreatDoor
open Go.RowKit Go.Sy
def wE (W:Wd):Int:=(wm W).1
def wA (W:Wd):Int:=(wm W).2
def an_wm (k n:Nat) (p:Nat→Bool):Ann where
  σ:=Nat
  rt:= [(1,0),(2,0)]
  sh i:= [(1,pt0 0),(2,pt0 1),(k,.v (.int .i64 i))]
  mh _:= []
  inv i:=i≤n∧ ∀j,j<i→p j=false
  μ i:=n -i
  init:=0
def an_wmR (W:Wd) (i:Int):Ann where
  σ:=Nat
  rt:= [(1,0),(2,0)]
  sh k:= [(1,pt0 0),(2,pt0 1),(14,.v (.int .i64 k))]
  mh _:= []
  inv k:=k≤W.readyN i.toNat∧ ∀j,j<k→rdB W (W.ready i.toNat j) (i/4) (i%4)=true
  μ k:=W.readyN i.toNat -k
  init:=0
def an_hw (k n:Nat) (p:Nat→Bool):Ann where
  σ:=Nat
  rt:= [(1,0)]
  sh i:= [(1,pt0 0),(k,.v (.int .i64 i))]
  mh _:= []
  inv i:=i≤n∧ ∀j,j<i→p j=false
  μ i:=n -i
  init:=0
structure Sm (W:Wd):Prop where
  ram:W.nRam≤1000
  kinds:W.nKinds≤100
  slots:W.nSlots≤1000
  tasks:W.nTasks≤100
  lines:W.nLines≤100
  bits:W.nBits≤100
  cores:W.nCores≤50
  ready:W.nReady≤100
  tlbs:W.nTlbs≤50
  doms:W.nDoms≤50
  sm:smB W
theorem bneC {a b:Int} {c d:Nat} (h:a=b↔c=d):(a !=b)=(c !=d):=by rw [Bool.eq_iff_iff,bne_iff_ne,bne_iff_ne,ne_eq,ne_eq,h]
theorem szBad_int (W:Wd):(decide ((W.nKinds:Int)<1)||decide ((24:Int)<(W.nKinds:Int))||decide ((W.nCores:Int)<1)||decide ((4:Int)<(W.nCores:Int))||(W.nRam:Int) !=(W.nKinds:Int)*16||(W.nSlots:Int) !=(W.nKinds:Int)*16||(W.nTasks:Int) !=(W.nKinds:Int)||(W.nLines:Int) !=(W.nKinds:Int)||(W.nBits:Int) !=(W.nKinds:Int)||(W.nReady:Int) !=(W.nCores:Int)*4||(W.nTlbs:Int) !=(W.nCores:Int)||decide ((W.nDoms:Int)<1)||decide ((8:Int)<(W.nDoms:Int))||farB W.time 1000000)=szBad W:=by
  unfold szBad
  rw [show decide ((W.nKinds:Int)<1)=decide (W.nKinds<1) from decide_eq_decide.2 (by omega),show decide ((24:Int)<(W.nKinds:Int))=decide (24<W.nKinds) from decide_eq_decide.2 (by omega),show decide ((W.nCores:Int)<1)=decide (W.nCores<1) from decide_eq_decide.2 (by omega),show decide ((4:Int)<(W.nCores:Int))=decide (4<W.nCores) from decide_eq_decide.2 (by omega),show decide ((W.nDoms:Int)<1)=decide (W.nDoms<1) from decide_eq_decide.2 (by omega),show decide ((8:Int)<(W.nDoms:Int))=decide (8<W.nDoms) from decide_eq_decide.2 (by omega),
   bneC (a:=W.nRam) (c:=W.nRam) (d:=W.nKinds*16) (by omega),bneC (a:=W.nSlots) (c:=W.nSlots) (d:=W.nKinds*16) (by omega),bneC (a:=W.nTasks) (c:=W.nTasks) (d:=W.nKinds) (by omega),bneC (a:=W.nLines) (c:=W.nLines) (d:=W.nKinds) (by omega),bneC (a:=W.nBits) (c:=W.nBits) (d:=W.nKinds) (by omega),bneC (a:=W.nReady) (c:=W.nReady) (d:=W.nCores*4) (by omega),bneC (a:=W.nTlbs) (c:=W.nTlbs) (d:=W.nCores) (by omega)]
theorem coB_not (W:Wd) (s:Nat):(W.cores s != -1&&!rdB W (W.cores s) s (-1))=!coB W s:=by unfold coB;simp only [bne,Bool.not_or]
def hgB (W:Wd):Bool:=decide (1000<W.nRam)||decide (100<W.nKinds)||decide (1000<W.nSlots)||decide (100<W.nTasks)||decide (100<W.nLines)||decide (100<W.nBits)||decide (50<W.nCores)||decide (100<W.nReady)||decide (50<W.nTlbs)||decide (50<W.nDoms)||anyB W.nLines (fun i=>decide (50<W.linesN i))||anyB W.nReady (fun i=>decide (50<W.readyN i))||anyB W.nTlbs (fun i=>decide (50<W.tlbsN i))
theorem sm_of {W:Wd} (h:hgB W=false):Sm W:=by
  unfold hgB at h
  simp only [Bool.or_eq_false_iff,decide_eq_false_iff_not,Nat.not_lt,anyB_false] at h
  obtain ⟨⟨⟨⟨⟨⟨⟨⟨⟨⟨⟨⟨h1,h2⟩,h3⟩,h4⟩,h5⟩,h6⟩,h7⟩,h8⟩,h9⟩,h10⟩,h11⟩,h12⟩,h13⟩:=h
  exact ⟨h1,h2,h3,h4,h5,h6,h7,h8,h9,h10,h11,h12,h13⟩
structure X_hugeWorld where
  (W:Wd)
def s_hugeWorld:Sy.Spec:=⟨X_hugeWorld,fun ⟨W⟩=> [wSV W],fun _=> [],fun _=>True,fun ⟨W⟩=> .v (.bool (hgB W)),fun _=> [],
  fun args mem=>match args with| [a0]=>some ⟨wSVD a0⟩|_=>none⟩
def c_hugeWorld:Con:=⟨[],(s_hugeWorld).g,none⟩
def V_hugeWorld:X_hugeWorld→Prop:=fun ⟨W⟩=>let a0:=W.nRam;let b0:=W.nKinds;let c0:=W.nSlots;let d0:=W.nTasks;let e0:=W.nLines;let g0:=(e0:Int);let h0:=W.nBits;let k0:=W.nCores;let l0:=W.nReady;let o0:=(l0:Int);let q0:=W.nTlbs;let u0:=(q0:Int);let v0:=W.nDoms;let w0:=cond (cond (cond (cond (cond (cond (cond (cond (cond (decide (1000<(a0:Int))) true (decide (100<(b0:Int)))) true (decide (1000<(c0:Int)))) true (decide (100<(d0:Int)))) true (decide (100<g0))) true (decide (100<(h0:Int)))) true (decide (50<(k0:Int)))) true (decide (100<o0))) true (decide (50<u0))) true (decide (50<(v0:Int)));let x0:=true=hgB W∧True;let y0:=SV.ptr 0 0 none 0 0=SV.ptr 0 0 none 0 0;let z0:=0=((0:Nat):Int);
    let a1:=(((((((((((True∧a0=a0∧(∀b1:Nat,b1<a0→True∧W.ram b1=W.ram b1))∧b0=b0∧(∀c1:Nat,c1<b0→True∧W.kinds c1=W.kinds c1))∧c0=c0∧(∀d1:Nat,let e1:=W.slots d1;let g1:=e1.kind;let h1:=e1.base;let k1:=e1.len;let l1:=e1.mark;let o1:=e1.rights;let q1:=e1.badge;let u1:=e1.from_;d1<c0→((((((True∧g1=g1)∧h1=h1)∧k1=k1)∧l1=l1)∧o1=o1)∧q1=q1)∧u1=u1))∧d0=d0∧(∀v1:Nat,let w1:=W.tasks v1;let x1:=w1.prio;let y1:=w1.node;let z1:=w1.space;let a2:=w1.helper;let b2:=w1.loc;let c2:=w1.word;let d2:=w1.badge;let e2:=w1.owes;let g2:=w1.core;let h2:=w1.dom;v1<d0→(((((((((((((((((((True∧w1.r0=w1.r0)∧w1.r1=w1.r1)∧w1.r2=w1.r2)∧w1.r3=w1.r3)∧w1.r4=w1.r4)∧w1.r5=w1.r5)∧w1.r6=w1.r6)∧w1.r7=w1.r7)∧w1.pc=w1.pc)∧w1.st=w1.st)∧x1=x1)∧y1=y1)∧z1=z1)∧a2=a2)∧b2=b2)∧c2=c2)∧d2=d2)∧e2=e2)∧g2=g2)∧h2=h2))∧e0=e0∧(∀k2:Nat,let l2:=W.linesN k2;k2<e0→True∧l2=l2∧(∀o2:Nat,o2<l2→True∧W.lines k2 o2=W.lines k2 o2)))∧h0=h0∧(∀q2:Nat,q2<h0→True∧W.bits q2=W.bits q2))∧k0=k0∧(∀u2:Nat,u2<k0→True∧W.cores u2=W.cores u2))∧l0=l0∧(∀v2:Nat,let w2:=W.readyN v2;v2<l0→True∧w2=w2∧(∀x2:Nat,x2<w2→True∧W.ready v2 x2=W.ready v2 x2)))∧q0=q0∧(∀y2:Nat,let z2:=W.tlbsN y2;y2<q0→True∧z2=z2∧(∀a3:Nat,let b3:=W.tlbs y2 a3;let c3:=b3.sp;let d3:=b3.pg;let e3:=b3.fr;let g3:=b3.wr;a3<z2→(((True∧c3=c3)∧d3=d3)∧e3=e3)∧g3=g3)))∧v0=v0∧(∀h3:Nat,h3<v0→True∧W.doms h3=W.doms h3))∧W.time=W.time)∧True;True∧((a0:Int)≤9223372036854775807→(w0=true→x0)∧(w0=false→y0∧z0∧a1∧(0≤e0∧(∀k3:Nat,k3<0→decide (50<W.linesN k3)=false))∧(∀l3:Nat,let o3:=(l3:Int);let q3:=decide (o3<g0);
    let u3:=((W.linesN (Int.toNat o3):Nat):Int);let v3:=decide (50<u3);let w3:Int:=o3+1;l3≤e0∧(∀x3:Nat,x3<l3→decide (50<W.linesN x3)=false)→g0≤9223372036854775807→(q3=true→(0≤o3∧o3<g0)∧(u3≤9223372036854775807→(v3=true→x0)∧(v3=false→w64 w3=w3∧(∃y3:Nat,y0∧w3=(y3:Int)∧a1∧(y3≤e0∧(∀z3:Nat,z3<y3→decide (50<W.linesN z3)=false))∧e0-y3<e0-l3))))∧(q3=false→y0∧z0∧a1∧(0≤l0∧(∀a4:Nat,a4<0→decide (50<W.readyN a4)=false))∧(∀b4:Nat,let c4:=(b4:Int);let d4:=decide (c4<o0);let e4:=((W.readyN (Int.toNat c4):Nat):Int);let g4:=decide (50<e4);let h4:Int:=c4+1;b4≤l0∧(∀k4:Nat,k4<b4→decide (50<W.readyN k4)=false)→o0≤9223372036854775807→(d4=true→(0≤c4∧c4<o0)∧(e4≤9223372036854775807→(g4=true→x0)∧(g4=false→w64 h4=h4∧(∃l4:Nat,y0∧h4=(l4:Int)∧a1∧(l4≤l0∧(∀o4:Nat,o4<l4→decide (50<W.readyN o4)=false))∧l0-l4<l0-b4))))∧(d4=false→y0∧z0∧a1∧(0≤q0∧(∀q4:Nat,q4<0→decide (50<W.tlbsN q4)=false))∧(∀u4:Nat,let v4:=(u4:Int);let w4:=decide (v4<u0);let x4:=((W.tlbsN (Int.toNat v4):Nat):Int);let y4:=decide (50<x4);let z4:Int:=v4+1;u4≤q0∧(∀a5:Nat,a5<u4→decide (50<W.tlbsN a5)=false)→u0≤9223372036854775807→(w4=true→(0≤v4∧v4<u0)∧(x4≤9223372036854775807→(y4=true→x0)∧(y4=false→w64 z4=z4∧(∃b5:Nat,y0∧z4=(b5:Int)∧a1∧(b5≤q0∧(∀c5:Nat,c5<b5→decide (50<W.tlbsN c5)=false))∧q0-b5<q0-u4))))∧(w4=false→false=hgB W∧True))))))))
theorem ok_hugeWorld:FnOK Tryz.prog glN 13 c_hugeWorld:=ok_of .nil false Tryz.call13 Tryz.func13 (fun ⟨W⟩=> [.inv (an_hw 3 W.nLines fun i=>decide (50<W.linesN i)),.inv (an_hw 4 W.nReady fun i=>decide (50<W.readyN i)),.inv (an_hw 5 W.nTlbs fun i=>decide (50<W.tlbsN i))]) (V:=V_hugeWorld) (fun _=>by kernel_rfl) fun ⟨W⟩ hp=>by
  dsimp only [V_hugeWorld,tn,w64]
  simp only [std,stb,eq_self,implies_true,Bool.cond_self]
  have cg: ∀(a b:Nat),decide ((a:Int)<(b:Int))=decide (a<b):=fun a b=>decide_eq_decide.2 (by omega)
  intro _
  rw [show (decide ((1000:Int)<W.nRam))=decide (1000<W.nRam) from cg _ _,show (decide ((100:Int)<W.nKinds))=decide (100<W.nKinds) from cg _ _,show (decide ((1000:Int)<W.nSlots))=decide (1000<W.nSlots) from cg _ _,show (decide ((100:Int)<W.nTasks))=decide (100<W.nTasks) from cg _ _,show (decide ((100:Int)<W.nLines))=decide (100<W.nLines) from cg _ _,show (decide ((100:Int)<W.nBits))=decide (100<W.nBits) from cg _ _,show (decide ((50:Int)<W.nCores))=decide (50<W.nCores) from cg _ _,show (decide ((100:Int)<W.nReady))=decide (100<W.nReady) from cg _ _,show (decide ((50:Int)<W.nTlbs))=decide (50<W.nTlbs) from cg _ _,show (decide ((50:Int)<W.nDoms))=decide (50<W.nDoms) from cg _ _]
  refine ⟨fun h=>by unfold hgB;rw [h];rfl,fun h0 s hs _=>⟨fun h1=>?_,fun h1 s2 hs2 _=>⟨fun h2=>?_,fun h2 s3 hs3 _=>⟨fun h3=>?_,fun h3=>?_⟩⟩⟩⟩
  · have hlt:=lt_of_dec h1
    refine ⟨by omega,fun _=>⟨fun h=>?_,fun h=>⟨by rw [IntKind.wrap_i64];omega,exS ⟨⟨by omega,snocF (p:=fun i=>decide (50<W.linesN i)) hs.2 (by rw [←h];exact (cg _ _).symm)⟩,by omega⟩⟩⟩⟩
    unfold hgB;rw [h0,anyB_iff.2 ⟨s,hlt,(cg _ _).symm.trans h⟩];rfl
  · have hlt:=lt_of_dec h2
    refine ⟨by omega,fun _=>⟨fun h=>?_,fun h=>⟨by rw [IntKind.wrap_i64];omega,exS ⟨⟨by omega,snocF (p:=fun i=>decide (50<W.readyN i)) hs2.2 (by rw [←h];exact (cg _ _).symm)⟩,by omega⟩⟩⟩⟩
    unfold hgB;rw [h0,anyB_iff.2 ⟨s2,hlt,(cg _ _).symm.trans h⟩]
    cases anyB W.nLines fun i=>decide (50<W.linesN i)<;>rfl
  · have hlt:=lt_of_dec h3
    refine ⟨by omega,fun _=>⟨fun h=>?_,fun h=>⟨by rw [IntKind.wrap_i64];omega,exS ⟨⟨by omega,snocF (p:=fun i=>decide (50<W.tlbsN i)) hs3.2 (by rw [←h];exact (cg _ _).symm)⟩,by omega⟩⟩⟩⟩
    unfold hgB;rw [h0,anyB_iff.2 ⟨s3,hlt,(cg _ _).symm.trans h⟩]
    cases anyB W.nLines fun i=>decide (50<W.linesN i)<;>cases anyB W.nReady fun i=>decide (50<W.readyN i)<;>rfl
  · have g1:=ge_of_dec h1
    have g2:=ge_of_dec h2
    have g3:=ge_of_dec h3
    unfold hgB
    rw [h0,anyB_false.2 (fun i hi=>hs.2 i (by omega)),anyB_false.2 (fun i hi=>hs2.2 i (by omega)),anyB_false.2 (fun i hi=>hs3.2 i (by omega))];rfl
structure X_worldMay where
  (W:Wd)
def s_worldMay:Sy.Spec:=⟨X_worldMay,fun ⟨W⟩=> [wSV W],fun _=> [],fun ⟨W⟩=>Sm W,fun ⟨W⟩=> .ag 2 (lsv [.v (.int .i64 (wE W)),.v (.int .i64 (wA W))]),fun _=> [],
  fun args mem=>match args with| [a0]=>some ⟨wSVD a0⟩|_=>none⟩
def c_worldMay:Con:=⟨[],(s_worldMay).g,none⟩
def V_worldMay:X_worldMay→Prop:=fun ⟨W⟩=>let a0:=W.nKinds;let b0:=(a0:Int);let c0:=W.nCores;let d0:=(c0:Int);let e0:=cond (cond (cond (decide (b0<1)) true (decide (24<b0))) true (decide (d0<1))) true (decide (4<d0));let g0:Int:=b0*16;let h0:=w64 g0=g0;let k0:=W.nRam;let l0:=(k0:Int);let o0:=cond e0 true (l0 !=g0);let q0:=W.nSlots;let u0:=(q0:Int);let v0:=W.nTasks;let w0:=W.nLines;let x0:=W.nBits;let y0:=cond (cond (cond (cond o0 true (u0 !=g0)) true ((v0:Int) !=b0)) true ((w0:Int) !=b0)) true ((x0:Int) !=b0);let z0:Int:=d0*4;let a1:=W.nReady;let b1:=(a1:Int);let c1:=W.nTlbs;let d1:=W.nDoms;let e1:=(d1:Int);let g1:=cond (cond (cond (cond y0 true (b1 !=z0)) true ((c1:Int) !=d0)) true (decide (e1<1))) true (decide (8<e1));let h1:=W.time=W.time;let k1:=True∧True;let l1:=cond g1 true (farB W.time 1000000);let o1:=True∧2=wE W;let q1:=wA W;let u1:=SV.ptr 0 0 none 0 0=SV.ptr 0 0 none 0 0;let v1:=SV.ptr (0+1) 0 none 0 0=SV.ptr 1 0 none 0 0;let w1:=0=((0:Nat):Int);
    let x1:=((((((((((True∧k0=k0∧(∀y1:Nat,y1<k0→True∧W.ram y1=W.ram y1))∧a0=a0∧(∀z1:Nat,z1<a0→True∧W.kinds z1=W.kinds z1))∧q0=q0∧(∀a2:Nat,let b2:=W.slots a2;let c2:=b2.kind;let d2:=b2.base;let e2:=b2.len;let g2:=b2.mark;let h2:=b2.rights;let k2:=b2.badge;let l2:=b2.from_;a2<q0→((((((True∧c2=c2)∧d2=d2)∧e2=e2)∧g2=g2)∧h2=h2)∧k2=k2)∧l2=l2))∧v0=v0∧(∀o2:Nat,let q2:=W.tasks o2;let u2:=q2.prio;let v2:=q2.node;let w2:=q2.space;let x2:=q2.helper;let y2:=q2.loc;let z2:=q2.word;let a3:=q2.badge;let b3:=q2.owes;let c3:=q2.core;let d3:=q2.dom;o2<v0→(((((((((((((((((((True∧q2.r0=q2.r0)∧q2.r1=q2.r1)∧q2.r2=q2.r2)∧q2.r3=q2.r3)∧q2.r4=q2.r4)∧q2.r5=q2.r5)∧q2.r6=q2.r6)∧q2.r7=q2.r7)∧q2.pc=q2.pc)∧q2.st=q2.st)∧u2=u2)∧v2=v2)∧w2=w2)∧x2=x2)∧y2=y2)∧z2=z2)∧a3=a3)∧b3=b3)∧c3=c3)∧d3=d3))∧w0=w0∧(∀e3:Nat,let g3:=W.linesN e3;e3<w0→True∧g3=g3∧(∀h3:Nat,h3<g3→True∧W.lines e3 h3=W.lines e3 h3)))∧x0=x0∧(∀k3:Nat,k3<x0→True∧W.bits k3=W.bits k3))∧c0=c0∧(∀l3:Nat,l3<c0→True∧W.cores l3=W.cores l3))∧a1=a1∧(∀o3:Nat,let q3:=W.readyN o3;o3<a1→True∧q3=q3∧(∀u3:Nat,u3<q3→True∧W.ready o3 u3=W.ready o3 u3)))∧c1=c1∧(∀v3:Nat,let w3:=W.tlbsN v3;v3<c1→True∧w3=w3∧(∀x3:Nat,let y3:=W.tlbs v3 x3;let z3:=y3.sp;let a4:=y3.pg;let b4:=y3.fr;let c4:=y3.wr;x3<w3→(((True∧z3=z3)∧a4=a4)∧b4=b4)∧c4=c4)))∧d1=d1∧(∀d4:Nat,d4<d1→True∧W.doms d4=W.doms d4))∧h1;let e4:=x1∧((True∧(0:Int)=0)∧(0:Int)=0)∧True;let g4:=l0≤9223372036854775807;let h4:=0≤a0;let k4:=Szd W;let l4:=True∧8=wE W;
    let o4:=(∀q4:Nat,q4<w0→W.linesN q4≤50)∧(∀u4:Nat,u4<a1→W.readyN u4≤50)∧(∀v4:Nat,v4<c1→W.tlbsN v4≤50);let w4:=True∧9=wE W;tn 2 (b0≤9223372036854775807→d0≤9223372036854775807→(e0=false→h0)∧(o0=false→h0)∧(y0=false→w64 z0=z0)∧(g1=false→(h1∧(1000000:Int)=1000000∧True)∧k1)∧(l1=true→(((2:Int)=2∧True)∧k1)∧k1∧(o1∧(-1)=q1)∧True)∧(l1=false→u1∧v1∧w1∧e4∧(0≤k0∧(∀x4:Nat,x4<0→farB (W.ram x4) 65535=false))∧(∀y4:Nat,let z4:=(y4:Int);let a5:=decide (z4<l0);let b5:=W.ram (Int.toNat z4);let c5:=farB b5 65535;let d5:Int:=z4+1;y4≤k0∧(∀e5:Nat,e5<y4→farB (W.ram e5) 65535=false)→g4→(a5=true→(0≤z4∧z4<l0)∧((b5=b5∧(65535:Int)=65535∧True)∧k1)∧(c5=true→k1∧((True∧1=wE W)∧z4=q1)∧True)∧(c5=false→w64 d5=d5∧(∃g5:Nat,u1∧v1∧d5=(g5:Int)∧e4∧(g5≤k0∧(∀h5:Nat,h5<g5→farB (W.ram h5) 65535=false))∧k0-g5<k0-y4)))∧(a5=false→u1∧v1∧w1∧e4∧(h4∧(∀k5:Nat,k5<0→(farB (W.kinds k5) 8||W.kinds k5==1)=false))∧(∀l5:Nat,let o5:=(l5:Int);let q5:=decide (o5<b0);let u5:=0≤o5∧o5<b0;let v5:=W.kinds (Int.toNat o5);let w5:=farB v5 8;let x5:=cond w5 true (v5==1);let y5:Int:=o5+1;l5≤a0∧(∀z5:Nat,z5<l5→(farB (W.kinds z5) 8||W.kinds z5==1)=false)→(q5=true→u5∧((v5=v5∧(8:Int)=8∧True)∧k1)∧(w5=false→u5)∧(x5=true→k1∧((True∧3=wE W)∧o5=q1)∧True)∧(x5=false→w64 y5=y5∧(∃a6:Nat,u1∧v1∧y5=(a6:Int)∧e4∧(a6≤a0∧(∀b6:Nat,b6<a6→(farB (W.kinds b6) 8||W.kinds b6==1)=false))∧a0-a6<a0-l5)))∧(q5=false→u1∧v1∧w1∧e4∧(0≤d1∧(∀c6:Nat,c6<0→farB (W.doms c6) 3=false))∧(∀d6:Nat,let e6:=(d6:Int);let g6:=decide (e6<e1);let h6:=W.doms (Int.toNat e6);let k6:=farB h6 3;
    let l6:Int:=e6+1;d6≤d1∧(∀o6:Nat,o6<d6→farB (W.doms o6) 3=false)→e1≤9223372036854775807→(g6=true→(0≤e6∧e6<e1)∧((h6=h6∧(3:Int)=3∧True)∧k1)∧(k6=true→k1∧(o1∧e6=q1)∧True)∧(k6=false→w64 l6=l6∧(∃q6:Nat,u1∧v1∧l6=(q6:Int)∧e4∧(q6≤d1∧(∀u6:Nat,u6<q6→farB (W.doms u6) 3=false))∧d1-q6<d1-d6)))∧(g6=false→u1∧v1∧w1∧e4∧(0≤q0∧(∀v6:Nat,v6<0→(!slB W v6)=false))∧(∀w6:Nat,let x6:=(w6:Int);let y6:=decide (x6<u0);let z6:=!slB W (Int.toNat x6);let a7:Int:=x6+1;w6≤q0∧(∀b7:Nat,b7<w6→(!slB W b7)=false)→u0≤9223372036854775807→(y6=true→((x1∧x6=x6∧True)∧True∧k4∧0≤x6∧x6<u0)∧(z6=true→k1∧(l4∧x6=q1)∧True)∧(z6=false→w64 a7=a7∧(∃c7:Nat,u1∧v1∧a7=(c7:Int)∧e4∧(c7≤q0∧(∀d7:Nat,d7<c7→(!slB W d7)=false))∧q0-c7<q0-w6)))∧(y6=false→u1∧v1∧w1∧e4∧(h4∧(∀e7:Nat,e7<0→(!frB W e7)=false))∧(∀g7:Nat,let h7:=(g7:Int);let k7:=decide (h7<b0);let l7:=!frB W (Int.toNat h7);let o7:Int:=h7+1;g7≤a0∧(∀q7:Nat,q7<g7→(!frB W q7)=false)→(k7=true→((x1∧h7=h7∧True)∧True∧k4∧0≤h7∧h7<b0∧(∀u7:Nat,u7<q0→slB W u7=true))∧(l7=true→k1∧(l4∧h7=q1)∧True)∧(l7=false→w64 o7=o7∧(∃v7:Nat,u1∧v1∧o7=(v7:Int)∧e4∧(v7≤a0∧(∀w7:Nat,w7<v7→(!frB W w7)=false))∧a0-v7<a0-g7)))∧(k7=false→u1∧v1∧w1∧e4∧(h4∧(∀x7:Nat,x7<0→(!tkB W x7)=false))∧(∀y7:Nat,let z7:=(y7:Int);let a8:=decide (z7<b0);let b8:=!tkB W (Int.toNat z7);let c8:Int:=z7+1;y7≤a0∧(∀d8:Nat,d8<y7→(!tkB W d8)=false)→(a8=true→((x1∧z7=z7∧True)∧True∧k4∧o4∧0≤z7∧z7<b0)∧(b8=true→k1∧(l4∧z7=q1)∧True)∧(b8=false→w64 c8=c8∧(∃e8:Nat,u1∧v1∧c8=(e8:Int)∧e4∧(e8≤a0∧(∀g8:Nat,g8<e8→(!tkB W g8)=false))∧a0-e8<a0-y7)))∧(a8=false→u1∧v1∧w1∧e4∧
    (h4∧(∀h8:Nat,h8<0→(!lnB W h8)=false))∧(∀k8:Nat,let l8:=(k8:Int);let o8:=decide (l8<b0);let q8:=!lnB W (Int.toNat l8);let r8:Int:=l8+1;k8≤a0∧(∀u8:Nat,u8<k8→(!lnB W u8)=false)→(o8=true→((x1∧l8=l8∧True)∧True∧k4∧o4∧0≤l8∧l8<b0)∧(q8=true→k1∧(l4∧l8=q1)∧True)∧(q8=false→w64 r8=r8∧(∃v8:Nat,u1∧v1∧r8=(v8:Int)∧e4∧(v8≤a0∧(∀w8:Nat,w8<v8→(!lnB W w8)=false))∧a0-v8<a0-k8)))∧(o8=false→u1∧v1∧w1∧e4∧(0≤c0∧(∀x8:Nat,x8<0→(!coB W x8)=false))∧(∀y8:Nat,let z8:=(y8:Int);let a9:=decide (z8<d0);let b9:=0≤z8∧z8<d0;let c9:=W.cores (Int.toNat z8);let d9:=c9 !=(-1);let e9:=d9=true;let g9:=cond d9 (!rdB W c9 z8 (-1)) false;let h9:Int:=z8+1;y8≤c0∧(∀k9:Nat,k9<y8→(!coB W k9)=false)→(a9=true→tn 3 (b9∧tn 7 ((e9→b9)∧tn 2 ((e9→(x1∧c9=c9∧z8=z8∧((-1):Int)=(-1)∧True)∧True∧s_readyAt.match_1 (fun l9:X_readyAt=>Prop) (X_readyAt.mk W c9 z8 (-1)) (fun o9:Wd=>fun q9:Int=>fun r9:Int=>fun u9:Int=>Szd o9))∧(g9=true→k1∧(l4∧z8=q1)∧True)∧(g9=false→w64 h9=h9∧(∃v9:Nat,u1∧v1∧h9=(v9:Int)∧e4∧(v9≤c0∧(∀w9:Nat,w9<v9→(!coB W w9)=false))∧c0-v9<c0-y8))))))∧(a9=false→u1∧v1∧w1∧e4∧(0≤a1∧(∀x9:Nat,x9<0→(!rlB W x9)=false))∧(∀y9:Nat,let z9:=(y9:Int);let a10:=decide (z9<b1);let b10:=Int.toNat z9;let c10:=W.readyN b10;let d10:Int:=z9/4;let e10:Int:=z9%4;let g10:=0≤z9;let h10:=g10∧z9<b1;let k10:=(c10:Int);let l10:Int:=z9+1;y9≤a1∧(∀o10:Nat,o10<y9→(!rlB W o10)=false)→b1≤9223372036854775807→(a10=true→u1∧v1∧w1∧e4∧(0≤c10∧(∀q10:Nat,q10<0→rdB W (W.ready b10 q10) d10 e10=true))∧(∀r10:Nat,let u10:=(r10:Int);let v10:=decide (u10<k10);
    let w10:=W.ready b10 (Int.toNat u10);let x10:=!rdB W w10 d10 e10;let y10:Int:=u10+1;r10≤c10∧(∀z10:Nat,z10<r10→rdB W (W.ready b10 z10) d10 e10=true)→h10∧(k10≤9223372036854775807→(v10=true→tn 4 (h10∧tn 2 ((0≤u10∧u10<k10)∧tn 2 ((g10∧(0:Int)<4∧w64 d10=d10)∧True∧(g10∧(0:Int)<4)∧((x1∧w10=w10∧d10=d10∧e10=e10∧True)∧True∧s_readyAt.match_1 (fun a11:X_readyAt=>Prop) (X_readyAt.mk W w10 d10 e10) (fun b11:Wd=>fun c11:Int=>fun d11:Int=>fun e11:Int=>Szd b11))∧(x10=true→k1∧(l4∧z9=q1)∧True)∧(x10=false→w64 y10=y10∧(∃g11:Nat,u1∧v1∧y10=(g11:Int)∧e4∧(g11≤c10∧(∀h11:Nat,h11<g11→rdB W (W.ready b10 h11) d10 e10=true))∧c10-g11<c10-r10))))))∧(v10=false→w64 l10=l10∧(∃k11:Nat,u1∧v1∧l10=(k11:Int)∧e4∧(k11≤a1∧(∀l11:Nat,l11<k11→(!rlB W l11)=false))∧a1-k11<a1-y9)))))∧(a10=false→u1∧v1∧w1∧e4∧(0≤k0∧(∀o11:Nat,o11<0→(!enB W o11)=false))∧(∀q11:Nat,let r11:=(q11:Int);let u11:=decide (r11<l0);let v11:=W.ram (Int.toNat r11);let w11:=!enB W (Int.toNat r11);let x11:Int:=r11+1;q11≤k0∧(∀y11:Nat,y11<q11→(!enB W y11)=false)→g4→(u11=true→((x1∧r11=r11∧True)∧True∧k4∧0≤r11∧r11<l0∧0≤v11∧v11≤65535)∧(w11=true→k1∧(w4∧r11=q1)∧True)∧(w11=false→w64 x11=x11∧(∃z11:Nat,u1∧v1∧x11=(z11:Int)∧e4∧(z11≤k0∧(∀a12:Nat,a12<z11→(!enB W a12)=false))∧k0-z11<k0-q11)))∧(u11=false→u1∧v1∧w1∧e4∧(0≤c0∧(∀b12:Nat,b12<0→(!tlB W (W.tlbsN b12) (W.tlbs b12))=false))∧(∀c12:Nat,let d12:=(c12:Int);let e12:=decide (d12<d0);let g12:=Int.toNat d12;let h12:=W.tlbsN g12;let k12:=!tlB W h12 (W.tlbs g12);let l12:Int:=d12+1;c12≤c0∧(∀o12:Nat,o12<c12→
    (!tlB W (W.tlbsN o12) (W.tlbs o12))=false)→(e12=true→tn 4 ((0≤d12∧d12<(c1:Int))∧True∧((x1∧(h12=h12∧(∀q12:Nat,let r12:=W.tlbs g12 q12;let u12:=r12.sp;let v12:=r12.pg;let w12:=r12.fr;let x12:=r12.wr;q12<h12→(((True∧u12=u12)∧v12=v12)∧w12=w12)∧x12=x12))∧True)∧True∧k4∧h12≤1000∧(∀y12:Nat,y12<k0→0≤W.ram y12∧W.ram y12≤65535))∧(k12=true→k1∧(w4∧d12=q1)∧True)∧(k12=false→w64 l12=l12∧(∃z12:Nat,u1∧v1∧l12=(z12:Int)∧e4∧(z12≤c0∧(∀a13:Nat,a13<z12→(!tlB W (W.tlbsN a13) (W.tlbs a13))=false))∧c0-z12<c0-c12))))∧(e12=false→(True∧k1)∧k1∧((True∧0=wE W)∧(-1)=q1)∧True))))))))))))))))))))))))
set_option maxHeartbeats 4000000 in
theorem ok_worldMay:FnOK Tryz.prog glN 133 c_worldMay:=ok_of (.cons ok_err (.cons ok_far (.cons ok_slotWell (.cons ok_frameWell (.cons ok_taskWell (.cons ok_lineWell (.cons ok_readyAt (.cons ok_entryWell (.cons ok_tlbWell (.cons ok_fine .nil)))))))))) false Tryz.call133 Tryz.func133 (fun ⟨W⟩=> [.inv (an_wm 5 W.nRam fun i=>farB (W.ram i) 65535),.inv (an_wm 6 W.nKinds fun i=>farB (W.kinds i) 8||W.kinds i==1),.inv (an_wm 7 W.nDoms fun i=>farB (W.doms i) 3),.inv (an_wm 8 W.nSlots fun i=>!slB W i),.inv (an_wm 9 W.nKinds fun i=>!frB W i),.inv (an_wm 10 W.nKinds fun i=>!tkB W i),.inv (an_wm 11 W.nKinds fun i=>!lnB W i),.inv (an_wm 12 W.nCores fun i=>!coB W i),.inv (an_wm 13 W.nReady fun i=>!rlB W i),.invF false fun fr=>intK (fr 13) (an_wmR W),.inv (an_wm 15 W.nRam fun i=>!enB W i),.inv (an_wm 16 W.nCores fun i=>!tlB W (W.tlbsN i) (W.tlbs i))]) (V:=V_worldMay) (fun _=>by kernel_rfl) fun ⟨W⟩ hp=>by
  dsimp only [s_worldMay] at hp
  dsimp only [V_worldMay,tn,w64]
  simp only [std,stb,eq_self,implies_true,Bool.cond_self]
  have wr: ∀z:Int,-100000≤z→z≤100000→IntKind.i64.wrap z=z:=fun z h1 h2=>by rw [IntKind.wrap_i64];omega
  have b1:=hp.ram
  have b2:=hp.kinds
  have b3:=hp.slots
  have b4:=hp.cores
  have b5:=hp.ready
  have b6:=hp.doms
  unfold wE wA
  refine fun _ _=>⟨fun _=>wr _ (by omega) (by omega),fun _=>wr _ (by omega) (by omega),fun _=>wr _ (by omega) (by omega),?_⟩
  rw [szBad_int]
  refine ⟨fun h=>by rw [show wm W=(2,-1) by unfold wm;rw [h];rfl];exact ⟨rfl,rfl⟩,fun h=>?_⟩
  have hz:=szd_of h
  have X0:wm W=fstE W.nRam (fun i=>farB (W.ram i) 65535) 1 (fstE W.nKinds (fun i=>farB (W.kinds i) 8||W.kinds i==1) 3 (fstE W.nDoms (fun i=>farB (W.doms i) 3) 2 (fstE W.nSlots (fun i=>!slB W i) 8 (fstE W.nKinds (fun i=>!frB W i) 8 (fstE W.nKinds (fun i=>!tkB W i) 8 (fstE W.nKinds (fun i=>!lnB W i) 8 (fstE W.nCores (fun i=>!coB W i) 8 (fstE W.nReady (fun i=>!rlB W i) 8 (fstE W.nRam (fun i=>!enB W i) 9 (fstE W.nCores (fun i=>!tlB W (W.tlbsN i) (W.tlbs i)) 9 ((0,-1)))))))))))):=by unfold wm;rw [h];rfl
  clear h
  have z1:=hz.ram
  have z2:=hz.slots
  have z3:=hz.tlbs
  have z4:=hz.ready
  intro s hs _
  refine ⟨fun h1=>?_,fun h1=>?_⟩
  · have hlt:=lt_of_dec h1
    refine ⟨by omega,fun h2=>?_,fun h2=>⟨wr _ (by omega) (by omega),exS ⟨⟨by omega,snocF (p:=fun i=>farB (W.ram i) 65535) hs.2 h2⟩,by omega⟩⟩⟩
    rw [X0,fstE_at (p:=fun i=>farB (W.ram i) 65535) hs.2 h2 hlt];exact ⟨rfl,rfl⟩
  have hge:=ge_of_dec h1
  have hq: ∀j,j<W.nRam→(fun i=>farB (W.ram i) 65535) j=false:=fun j hj=>hs.2 j (by omega)
  have X1:wm W=fstE W.nKinds (fun i=>farB (W.kinds i) 8||W.kinds i==1) 3 (fstE W.nDoms (fun i=>farB (W.doms i) 3) 2 (fstE W.nSlots (fun i=>!slB W i) 8 (fstE W.nKinds (fun i=>!frB W i) 8 (fstE W.nKinds (fun i=>!tkB W i) 8 (fstE W.nKinds (fun i=>!lnB W i) 8 (fstE W.nCores (fun i=>!coB W i) 8 (fstE W.nReady (fun i=>!rlB W i) 8 (fstE W.nRam (fun i=>!enB W i) 9 (fstE W.nCores (fun i=>!tlB W (W.tlbsN i) (W.tlbs i)) 9 ((0,-1))))))))))):=by rw [X0,fstE_none hq]
  have hram: ∀i,i<W.nRam→isW (W.ram i):=fun i hi=>by have:=hq i hi;simp [farB] at this;exact ⟨by omega,by omega⟩
  clear hge hs h1 hq
  intro s hs
  refine ⟨fun h1=>?_,fun h1=>?_⟩
  · have hlt:=lt_of_dec h1
    refine ⟨by omega,fun _=>by omega,fun h2=>?_,fun h2=>⟨wr _ (by omega) (by omega),exS ⟨⟨by omega,snocF (p:=fun i=>farB (W.kinds i) 8||W.kinds i==1) hs.2 h2⟩,by omega⟩⟩⟩
    rw [X1,fstE_at (p:=fun i=>farB (W.kinds i) 8||W.kinds i==1) hs.2 h2 hlt];exact ⟨rfl,rfl⟩
  have hge:=ge_of_dec h1
  have hq: ∀j,j<W.nKinds→(fun i=>farB (W.kinds i) 8||W.kinds i==1) j=false:=fun j hj=>hs.2 j (by omega)
  have X2:wm W=fstE W.nDoms (fun i=>farB (W.doms i) 3) 2 (fstE W.nSlots (fun i=>!slB W i) 8 (fstE W.nKinds (fun i=>!frB W i) 8 (fstE W.nKinds (fun i=>!tkB W i) 8 (fstE W.nKinds (fun i=>!lnB W i) 8 (fstE W.nCores (fun i=>!coB W i) 8 (fstE W.nReady (fun i=>!rlB W i) 8 (fstE W.nRam (fun i=>!enB W i) 9 (fstE W.nCores (fun i=>!tlB W (W.tlbsN i) (W.tlbs i)) 9 ((0,-1)))))))))):=by rw [X1,fstE_none hq]
  clear hge hs h1 hq
  intro s hs _
  refine ⟨fun h1=>?_,fun h1=>?_⟩
  · have hlt:=lt_of_dec h1
    refine ⟨by omega,fun h2=>?_,fun h2=>⟨wr _ (by omega) (by omega),exS ⟨⟨by omega,snocF (p:=fun i=>farB (W.doms i) 3) hs.2 h2⟩,by omega⟩⟩⟩
    rw [X2,fstE_at (p:=fun i=>farB (W.doms i) 3) hs.2 h2 hlt];exact ⟨rfl,rfl⟩
  have hge:=ge_of_dec h1
  have hq: ∀j,j<W.nDoms→(fun i=>farB (W.doms i) 3) j=false:=fun j hj=>hs.2 j (by omega)
  have X3:wm W=fstE W.nSlots (fun i=>!slB W i) 8 (fstE W.nKinds (fun i=>!frB W i) 8 (fstE W.nKinds (fun i=>!tkB W i) 8 (fstE W.nKinds (fun i=>!lnB W i) 8 (fstE W.nCores (fun i=>!coB W i) 8 (fstE W.nReady (fun i=>!rlB W i) 8 (fstE W.nRam (fun i=>!enB W i) 9 (fstE W.nCores (fun i=>!tlB W (W.tlbsN i) (W.tlbs i)) 9 ((0,-1))))))))):=by rw [X2,fstE_none hq]
  clear hge hs h1 hq
  intro s hs _
  refine ⟨fun h1=>?_,fun h1=>?_⟩
  · have hlt:=lt_of_dec h1
    refine ⟨⟨hz,by omega⟩,fun h2=>?_,fun h2=>⟨wr _ (by omega) (by omega),exS ⟨⟨by omega,snocF (p:=fun i=>!slB W i) hs.2 h2⟩,by omega⟩⟩⟩
    rw [X3,fstE_at (p:=fun i=>!slB W i) hs.2 h2 hlt];exact ⟨rfl,rfl⟩
  have hge:=ge_of_dec h1
  have hq: ∀j,j<W.nSlots→(fun i=>!slB W i) j=false:=fun j hj=>hs.2 j (by omega)
  have X4:wm W=fstE W.nKinds (fun i=>!frB W i) 8 (fstE W.nKinds (fun i=>!tkB W i) 8 (fstE W.nKinds (fun i=>!lnB W i) 8 (fstE W.nCores (fun i=>!coB W i) 8 (fstE W.nReady (fun i=>!rlB W i) 8 (fstE W.nRam (fun i=>!enB W i) 9 (fstE W.nCores (fun i=>!tlB W (W.tlbsN i) (W.tlbs i)) 9 ((0,-1)))))))):=by rw [X3,fstE_none hq]
  have hslots: ∀i,i<W.nSlots→slB W i=true:=fun i hi=>by have:=hq i hi;revert this;show (!slB W i)=false→_;cases slB W i<;>simp
  clear hge hs h1 hq
  intro s hs
  refine ⟨fun h1=>?_,fun h1=>?_⟩
  · have hlt:=lt_of_dec h1
    refine ⟨⟨hz,by omega,hslots⟩,fun h2=>?_,fun h2=>⟨wr _ (by omega) (by omega),exS ⟨⟨by omega,snocF (p:=fun i=>!frB W i) hs.2 h2⟩,by omega⟩⟩⟩
    rw [X4,fstE_at (p:=fun i=>!frB W i) hs.2 h2 hlt];exact ⟨rfl,rfl⟩
  have hge:=ge_of_dec h1
  have hq: ∀j,j<W.nKinds→(fun i=>!frB W i) j=false:=fun j hj=>hs.2 j (by omega)
  have X5:wm W=fstE W.nKinds (fun i=>!tkB W i) 8 (fstE W.nKinds (fun i=>!lnB W i) 8 (fstE W.nCores (fun i=>!coB W i) 8 (fstE W.nReady (fun i=>!rlB W i) 8 (fstE W.nRam (fun i=>!enB W i) 9 (fstE W.nCores (fun i=>!tlB W (W.tlbsN i) (W.tlbs i)) 9 ((0,-1))))))):=by rw [X4,fstE_none hq]
  clear hge hs h1 hq
  intro s hs
  refine ⟨fun h1=>?_,fun h1=>?_⟩
  · have hlt:=lt_of_dec h1
    refine ⟨⟨hz,hp.sm,by omega⟩,fun h2=>?_,fun h2=>⟨wr _ (by omega) (by omega),exS ⟨⟨by omega,snocF (p:=fun i=>!tkB W i) hs.2 h2⟩,by omega⟩⟩⟩
    rw [X5,fstE_at (p:=fun i=>!tkB W i) hs.2 h2 hlt];exact ⟨rfl,rfl⟩
  have hge:=ge_of_dec h1
  have hq: ∀j,j<W.nKinds→(fun i=>!tkB W i) j=false:=fun j hj=>hs.2 j (by omega)
  have X6:wm W=fstE W.nKinds (fun i=>!lnB W i) 8 (fstE W.nCores (fun i=>!coB W i) 8 (fstE W.nReady (fun i=>!rlB W i) 8 (fstE W.nRam (fun i=>!enB W i) 9 (fstE W.nCores (fun i=>!tlB W (W.tlbsN i) (W.tlbs i)) 9 ((0,-1)))))):=by rw [X5,fstE_none hq]
  clear hge hs h1 hq
  intro s hs
  refine ⟨fun h1=>?_,fun h1=>?_⟩
  · have hlt:=lt_of_dec h1
    refine ⟨⟨hz,hp.sm,by omega⟩,fun h2=>?_,fun h2=>⟨wr _ (by omega) (by omega),exS ⟨⟨by omega,snocF (p:=fun i=>!lnB W i) hs.2 h2⟩,by omega⟩⟩⟩
    rw [X6,fstE_at (p:=fun i=>!lnB W i) hs.2 h2 hlt];exact ⟨rfl,rfl⟩
  have hge:=ge_of_dec h1
  have hq: ∀j,j<W.nKinds→(fun i=>!lnB W i) j=false:=fun j hj=>hs.2 j (by omega)
  have X7:wm W=fstE W.nCores (fun i=>!coB W i) 8 (fstE W.nReady (fun i=>!rlB W i) 8 (fstE W.nRam (fun i=>!enB W i) 9 (fstE W.nCores (fun i=>!tlB W (W.tlbsN i) (W.tlbs i)) 9 ((0,-1))))):=by rw [X6,fstE_none hq]
  clear hge hs h1 hq
  intro s hs
  rw [coB_not]
  refine ⟨fun h1=>?_,fun h1=>?_⟩
  · have hlt:=lt_of_dec h1
    refine ⟨by omega,fun _=>by omega,fun _=>hz,fun h2=>?_,fun h2=>⟨wr _ (by omega) (by omega),exS ⟨⟨by omega,snocF (p:=fun i=>!coB W i) hs.2 h2⟩,by omega⟩⟩⟩
    rw [X7,fstE_at (p:=fun i=>!coB W i) hs.2 h2 hlt];exact ⟨rfl,rfl⟩
  have hge:=ge_of_dec h1
  have hq: ∀j,j<W.nCores→(fun i=>!coB W i) j=false:=fun j hj=>hs.2 j (by omega)
  have X8:wm W=fstE W.nReady (fun i=>!rlB W i) 8 (fstE W.nRam (fun i=>!enB W i) 9 (fstE W.nCores (fun i=>!tlB W (W.tlbsN i) (W.tlbs i)) 9 ((0,-1)))):=by rw [X7,fstE_none hq]
  clear hge hs h1 hq
  intro s hs _
  refine ⟨fun h1 k hk=>?_,fun h1=>?_⟩
  · have hlt:=lt_of_dec h1
    have e4:((s:Int)/4)=((s/4:Nat):Int):=by omega
    have em:((s:Int)%4)=((s%4:Nat):Int):=by omega
    have hl:=hp.sm.2.1 s hlt
    rw [e4,em] at hk⊢
    refine ⟨by omega,fun _=>⟨fun h2=>?_,fun h2=>?_⟩⟩
    · have hl2:=lt_of_dec h2
      refine ⟨by omega,by omega,⟨by decide,wr _ (by omega) (by omega)⟩,by decide,hz,fun h3=>?_,fun h3=>⟨wr _ (by omega) (by omega),exS ⟨⟨by omega,snocB hk.2 (notF h3)⟩,by omega⟩⟩⟩
      have hb:rlB W s=false:=allB_false (p:=fun k=>rdB W (W.ready s k) ((s/4:Nat):Int) ((s%4:Nat):Int)) hl2 (notT h3)
      rw [X8,fstE_at (p:=fun i=>!rlB W i) hs.2 (by simp [hb]) hlt];exact ⟨rfl,rfl⟩
    · have hg2:=ge_of_dec h2
      have hb:rlB W s=true:=allB_all fun j hj=>hk.2 j (by omega)
      exact ⟨wr _ (by omega) (by omega),exS ⟨⟨by omega,snocF (p:=fun i=>!rlB W i) hs.2 (by simp [hb])⟩,by omega⟩⟩
  have hge:=ge_of_dec h1
  have hq: ∀j,j<W.nReady→(fun i=>!rlB W i) j=false:=fun j hj=>hs.2 j (by omega)
  have X9:wm W=fstE W.nRam (fun i=>!enB W i) 9 (fstE W.nCores (fun i=>!tlB W (W.tlbsN i) (W.tlbs i)) 9 ((0,-1))):=by rw [X8,fstE_none hq]
  clear hge hs h1 hq
  intro s hs _
  refine ⟨fun h1=>?_,fun h1=>?_⟩
  · have hlt:=lt_of_dec h1
    refine ⟨⟨hz,by omega,hram s hlt⟩,fun h2=>?_,fun h2=>⟨wr _ (by omega) (by omega),exS ⟨⟨by omega,snocF (p:=fun i=>!enB W i) hs.2 h2⟩,by omega⟩⟩⟩
    rw [X9,fstE_at (p:=fun i=>!enB W i) hs.2 h2 hlt];exact ⟨rfl,rfl⟩
  have hge:=ge_of_dec h1
  have hq: ∀j,j<W.nRam→(fun i=>!enB W i) j=false:=fun j hj=>hs.2 j (by omega)
  have X10:wm W=fstE W.nCores (fun i=>!tlB W (W.tlbsN i) (W.tlbs i)) 9 ((0,-1)):=by rw [X9,fstE_none hq]
  clear hge hs h1 hq
  intro s hs
  refine ⟨fun h1=>?_,fun h1=>?_⟩
  · have hlt:=lt_of_dec h1
    refine ⟨by omega,⟨hz,by have:=hp.sm.2.2 s (by omega);omega,hram⟩,fun h2=>?_,fun h2=>⟨wr _ (by omega) (by omega),exS ⟨⟨by omega,snocF (p:=fun i=>!tlB W (W.tlbsN i) (W.tlbs i)) hs.2 h2⟩,by omega⟩⟩⟩
    rw [X10,fstE_at (p:=fun i=>!tlB W (W.tlbsN i) (W.tlbs i)) hs.2 h2 hlt];exact ⟨rfl,rfl⟩
  have hge:=ge_of_dec h1
  have hq: ∀j,j<W.nCores→(fun i=>!tlB W (W.tlbsN i) (W.tlbs i)) j=false:=fun j hj=>hs.2 j (by omega)
  have X11:wm W=(0,-1):=by rw [X10,fstE_none hq]
  clear hge hs h1 hq
  rw [X11];exact ⟨rfl,rfl⟩
end Go.Proofs.YtdjilaofmdhikaaGreatDoor
set_option linter.unusedVariables false
set_option linter.unusedSimpArgs false
set_option maxRecDepth 100000
namespace Go.Proofs.YtdjilaofmdhikaaGreatDoor
open Go.RowKit Go.Sy
def an_ix (n:Nat) (l:Nat→Int) (x:Int):Ann where
  σ:=Nat
  rt:= []
  sh i:= [(8,.v (.int .i64 i))]
  mh _:= []
  inv i:=i≤n∧ ∀j,j<i→(x==l j)=false
  μ i:=n -i
  init:=0
def an_ct1 (n:Nat) (ln:Nat→Nat) (l:Nat→Nat→Int) (x:Int):Ann where
  σ:=Nat
  rt:= []
  sh i:= [(12,.v (.int .i64 i)),(5,.v (.int .i64 (cntLL i ln l x:Nat)))]
  mh _:= []
  inv i:=i≤n
  μ i:=n -i
  init:=0
def an_ct2 (ln:Nat→Nat) (l:Nat→Nat→Int) (x:Int) (i c:Int):Ann where
  σ:=Nat
  rt:= []
  sh k:= [(18,.v (.int .i64 k)),(5,.v (.int .i64 (c+(cntB k fun q=>l i.toNat q==x:Nat))))]
  mh _:= []
  inv k:=k≤ln i.toNat
  μ k:=ln i.toNat -k
  init:=0
theorem kof_int {W:Wd} {f k:Int} (hk:k≠ -1):(decide (0≤f)&&decide (f<(W.nKinds:Int))&&W.kinds f.toNat==k)=(kof W f==k):=by
  cases h1:decide (0≤f)&&decide (f<(W.nKinds:Int)) with
  |true=>
   simp only [Bool.and_eq_true,decide_eq_true_eq] at h1
   rw [kof_eq h1];rfl
  |false=>
   simp only [Bool.and_eq_false_iff,decide_eq_false_iff_not] at h1
   rw [kof_out (by omega)]
   symm
   exact beq_eq_false_iff_ne.2 fun h=>hk h.symm
theorem rights_subW {r q:Int} (r0:0≤r) (r1:r≤7) (q0:0≤q) (q1:q≤7):(bitsI .andNot .i64 r q==0)=(((bitw 6 q.toNat r.toNat:Nat):Int)==r):=by
  rw [rights_sub r0 r1 q0 q1,and64 q0 (by omega) r0 (by omega)];rfl
structure X_wOut where
  (v m:Int)
def s_wOut:Sy.Spec:=⟨X_wOut,fun ⟨v,m⟩=> [.v (.int .i64 v),.v (.int .i64 m)],fun _=> [],fun _=>True,fun ⟨v,m⟩=> .v (.bool (farB v m)),fun _=> [],
  fun args mem=>match args with| [a0,a1]=>some ⟨intD (a0),intD (a1)⟩|_=>none⟩
def c_wOut:Con:=⟨[],(s_wOut).g,none⟩
def V_wOut:X_wOut→Prop:=fun ⟨v,m⟩=>cond (decide (v<0)) true (decide (m<v))=farB v m∧True
theorem ok_wOut:FnOK Tryz.prog glN 138 c_wOut:=ok_of .nil false Tryz.call138 Tryz.func138 (fun _=> []) (V:=V_wOut) (fun _=>by kernel_rfl) fun ⟨v,m⟩ hp=>by
  dsimp only [V_wOut,tn,w64]
  simp only [std,stb,eq_self,implies_true,Bool.cond_self]
  rfl
structure X_wAt where
  (i e:Int)
def s_wAt:Sy.Spec:=⟨X_wAt,fun ⟨i,e⟩=> [.v (.int .i64 i),.v (.int .i64 e)],fun _=> [],fun ⟨i,e⟩=>0≤i∧e≠0,fun ⟨i,e⟩=> .er 35 116 e i,fun _=> [],
  fun args mem=>match args with| [a0,a1]=>some ⟨intD (a0),intD (a1)⟩|_=>none⟩
def c_wAt:Con:=⟨[],(s_wAt).g,none⟩
def V_wAt:X_wAt→Prop:=fun ⟨i,e⟩=>True∧(e≠0∧0≤i∧e=e∧i=i)∧True
theorem ok_wAt:FnOK Tryz.prog glN 223 c_wAt:=ok_of .nil false Tryz.call223 Tryz.func223 (fun _=> []) (V:=V_wAt) (fun _=>by kernel_rfl) fun ⟨i,e⟩ hp=>by
  dsimp only [s_wAt] at hp
  dsimp only [V_wAt,tn,w64]
  simp only [std,stb,eq_self,implies_true,Bool.cond_self]
  exact ⟨hp.2,hp.1⟩
structure X_wIs where
  (W:Wd) (f k:Int)
def s_wIs:Sy.Spec:=⟨X_wIs,fun ⟨W,f,k⟩=> [wPT W,.v (.int .i64 f),.v (.int .i64 k)],fun _=> [],fun ⟨_,_,k⟩=>k≠ -1,fun ⟨W,f,k⟩=> .v (.bool (okF W f k)),fun _=> [],
  fun args mem=>match args with| [a0,a1,a2]=>some ⟨wPTD a0,intD (a1),intD (a2)⟩|_=>none⟩
def c_wIs:Con:=⟨[],(s_wIs).g,none⟩
def V_wIs:X_wIs→Prop:=fun ⟨W,f,k⟩=>let a0:=cond (decide (0≤f)) (decide (f<((W.nKinds:Nat):Int))) false;(a0=true→(f==(-1))=false→0≤f∧f<((W.nKinds:Nat):Int))∧cond (f==(-1)) true (cond a0 (W.kinds (Int.toNat f)==k) false)=okF W f k∧True
theorem ok_wIs:FnOK Tryz.prog glN 192 c_wIs:=ok_of .nil false Tryz.call192 Tryz.func192 (fun _=> []) (V:=V_wIs) (fun _=>by kernel_rfl) fun ⟨W,f,k⟩ hp=>by
  dsimp only [s_wIs] at hp
  dsimp only [V_wIs,tn,w64]
  simp only [std,stb,eq_self,implies_true,Bool.cond_self]
  exact ⟨fun h _=>by simp only [Bool.and_eq_true,decide_eq_true_eq] at h;exact h,by rw [kof_int hp];rfl⟩
structure X_wMade where
  (k b l m r g k2 b2 l2 m2 r2 g2:Int)
def s_wMade:Sy.Spec:=⟨X_wMade,fun ⟨k,b,l,m,r,g,k2,b2,l2,m2,r2,g2⟩=> [.ag 6 (lsv [.v (.int .i64 k),.v (.int .i64 b),.v (.int .i64 l),.v (.int .i64 m),.v (.int .i64 r),.v (.int .i64 g)]),.ag 6 (lsv [.v (.int .i64 k2),.v (.int .i64 b2),.v (.int .i64 l2),.v (.int .i64 m2),.v (.int .i64 r2),.v (.int .i64 g2)])],fun _=> [],fun ⟨k,b,l,m,r,g,_,_,_,_,_,_⟩=>keyNo k b l m r g=0,fun ⟨k,b,l,m,r,g,k2,b2,l2,m2,r2,g2⟩=> .v (.bool (madeB ⟨k,b,l,m,r,g,0⟩ ⟨k2,b2,l2,m2,r2,g2,0⟩)),fun _=> [],
  fun args mem=>match args with| [a0,a1]=>some ⟨intD (agD a0 0),intD (agD a0 1),intD (agD a0 2),intD (agD a0 3),intD (agD a0 4),intD (agD a0 5),intD (agD a1 0),intD (agD a1 1),intD (agD a1 2),intD (agD a1 3),intD (agD a1 4),intD (agD a1 5)⟩|_=>none⟩
def c_wMade:Con:=⟨[],(s_wMade).g,none⟩
def V_wMade:X_wMade→Prop:=fun ⟨k,b,l,m,r,g,k2,b2,l2,m2,r2,g2⟩=>let a0:=keyNo k2 b2 l2 m2 r2 g2 !=0;let b0:=madeB (Slt.mk k b l m r g 0) (Slt.mk k2 b2 l2 m2 r2 g2 0);let c0:=cond (k !=1) (decide (b2≤b)) false;tn 2 (((((((((True∧k2=k2)∧b2=b2)∧l2=l2)∧m2=m2)∧r2=r2)∧g2=g2)∧True)∧True∧True)∧(a0=true→false=b0∧True)∧(a0=false→((k2==1)=true→(c0=true→w64 (b2+m2)=b2+m2)∧cond c0 (decide (b<b2+m2)) false=b0∧True)∧((k2==1)=false→cond (cond (cond (k==k2) (b==b2) false) (bitsI BinOp.andNot IntKind.i64 r r2==0) false) (cond (g2==0) true (g==g2)) false=b0∧True)))
theorem ok_wMade:FnOK Tryz.prog glN 187 c_wMade:=ok_of (.cons ok_wordCheck .nil) false Tryz.call187 Tryz.func187 (fun _=> []) (V:=V_wMade) (fun _=>by kernel_rfl) fun ⟨k,b,l,m,r,g,k2,b2,l2,m2,r2,g2⟩ hp=>by
  dsimp only [s_wMade] at hp
  dsimp only [V_wMade,tn,w64]
  simp only [std,stb,eq_self,implies_true,Bool.cond_self]
  have hm:madeB ⟨k,b,l,m,r,g,0⟩ ⟨k2,b2,l2,m2,r2,g2,0⟩=(keyNo k2 b2 l2 m2 r2 g2==0&&bif k2==1 then k !=1&&decide (b2≤b)&&decide (b -b2<m2) else k==k2&&b==b2&&(g2==0||g2==g)&&(((bitw 6 r2.toNat r.toNat:Nat):Int)==r)):=rfl
  rw [hm]
  refine ⟨fun h=>by rw [notT (b:=keyNo k2 b2 l2 m2 r2 g2==0) h];rfl,fun h=>?_⟩
  have h0:=notF (b:=keyNo k2 b2 l2 m2 r2 g2==0) h
  rw [h0]
  have hr:=keyNo_range hp
  have hr2:=keyNo_range (eq_of_beq h0)
  refine ⟨fun h1=>⟨fun _=>by rw [IntKind.wrap_i64];omega,?_⟩,fun h1=>?_⟩
  · rw [h1,show decide (b<b2+m2)=decide (b -b2<m2) from decide_eq_decide.2 (by omega)];rfl
  · rw [h1,rights_subW (by omega) (by omega) (by omega) (by omega),show (g==g2)=(g2==g) from Bool.beq_comm]
    cases k==k2<;>cases b==b2<;>cases g2==0<;>cases g2==g<;>simp
structure X_wCount where
  (n:Nat) (ln:Nat→Nat) (l:Nat→Nat→Int) (x:Int)
def s_wCount:Sy.Spec:=⟨X_wCount,fun ⟨n,ln,l,x⟩=> [.sl true 1 n (fun i _=> .sl true 1 (ln i) (iF (l i))),.v (.int .i64 x)],fun _=> [],fun ⟨n,ln,_,_⟩=>n≤1000∧ ∀i,i<n→ln i≤1000,fun ⟨n,ln,l,x⟩=> .v (.int .i64 (cntLL n ln l x:Nat)),fun _=> [],
  fun args mem=>match args with| [a0,a1]=>some ⟨slN a0,fun i=>slN (slF a0 i 0),fun i k=>intD (slF (slF a0 i 0) k 0),intD (a1)⟩|_=>none⟩
def c_wCount:Con:=⟨[],(s_wCount).g,none⟩
def V_wCount:X_wCount→Prop:=fun ⟨n,ln,l,x⟩=>let a0:=(n:Int);a0≤9223372036854775807→0=((0:Nat):Int)∧0=((cntLL 0 ln l x:Nat):Int)∧True∧0≤n∧(∀b0:Nat,let c0:=(b0:Int);let d0:=decide (c0<a0);let e0:=Int.toNat c0;let g0:=ln e0;let h0:=(g0:Int);let k0:=((cntLL b0 ln l x:Nat):Int);let l0:Int:=c0+1;b0≤n→(d0=true→(0≤c0∧c0<a0)∧(h0≤9223372036854775807→0=((0:Nat):Int)∧k0=k0+((cntB 0 (fun o0:Nat=>l e0 o0==x):Nat):Int)∧True∧0≤g0∧(∀q0:Nat,let r0:=(q0:Int);let u0:=decide (r0<h0);let v0:=l e0 (Int.toNat r0)==x;let w0:Int:=k0+((cntB q0 (fun x0:Nat=>l e0 x0==x):Nat):Int);let y0:Int:=w0+1;let z0:Int:=r0+1;let a1:=w64 z0=z0;q0≤g0→(u0=true→(0≤r0∧r0<h0)∧(v0=true→w64 y0=y0∧a1∧(∃b1:Nat,z0=(b1:Int)∧y0=k0+((cntB b1 (fun c1:Nat=>l e0 c1==x):Nat):Int)∧True∧b1≤g0∧g0-b1<g0-q0))∧(v0=false→a1∧(∃d1:Nat,z0=(d1:Int)∧w0=k0+((cntB d1 (fun e1:Nat=>l e0 e1==x):Nat):Int)∧True∧d1≤g0∧g0-d1<g0-q0)))∧(u0=false→w64 l0=l0∧(∃g1:Nat,l0=(g1:Int)∧w0=((cntLL g1 ln l x:Nat):Int)∧True∧g1≤n∧n-g1<n-b0)))))∧(d0=false→k0=((cntLL n ln l x:Nat):Int)∧True))
theorem ok_wCount:FnOK Tryz.prog glN 193 c_wCount:=ok_of .nil false Tryz.call193 Tryz.func193 (fun ⟨n,ln,l,x⟩=> [.inv (an_ct1 n ln l x),.invF false fun fr=>an_ct2 ln l x (intD (fr 12)) (intD (fr 5))]) (V:=V_wCount) (fun _=>by kernel_rfl) fun ⟨n,ln,l,x⟩ hp=>by
  dsimp only [s_wCount] at hp
  dsimp only [V_wCount,tn,w64]
  simp only [std,stb,eq_self,implies_true,Bool.cond_self]
  refine fun _=>⟨rfl,fun s hs=>⟨fun h=>?_,fun h=>?_⟩⟩
  · have hlt:=lt_of_dec h
    have hl:=hp.2 s hlt
    have hc:cntLL s ln l x≤s*1000:=sumN_le fun i hi=>Nat.le_trans (cntB_le _ _) (hp.2 i (by omega))
    refine ⟨by omega,fun hm=>⟨by simp [cntB],fun k hk=>⟨fun h2=>?_,fun h2=>?_⟩⟩⟩
    · have hlt2:=lt_of_dec h2
      have hb:=cntB_le (fun q=>l s q==x) k
      refine ⟨by omega,fun h3=>?_,fun h3=>?_⟩
      · have e:(cntB (k+1) fun q=>l s q==x)=(cntB k fun q=>l s q==x)+1:=by simp [cntB,h3]
        exact ⟨by rw [IntKind.wrap_i64];omega,by rw [IntKind.wrap_i64];omega,exS ⟨by rw [e];omega,by omega,by omega⟩⟩
      · have e:(cntB (k+1) fun q=>l s q==x)=(cntB k fun q=>l s q==x):=by simp [cntB,h3]
        exact ⟨by rw [IntKind.wrap_i64];omega,exS ⟨by rw [e],by omega,by omega⟩⟩
    · have hge:=ge_of_dec h2
      obtain rfl:k=ln s:=by omega
      refine ⟨by rw [IntKind.wrap_i64];omega,exS ⟨?_,by omega,by omega⟩⟩
      rw [show cntLL (s+1) ln l x=cntLL s ln l x+cntB (ln s) (fun q=>l s q==x) from rfl];omega
  · have hge:=ge_of_dec h
    obtain rfl:s=n:=by omega
    rfl
structure X_indexI where
  (n:Nat) (l:Nat→Int) (x:Int)
def s_indexI:Sy.Spec:=⟨X_indexI,fun ⟨n,l,x⟩=> [.sl true 1 n (fun i_ _=> .v (.int .i64 (l i_))),.v (.int .i64 x)],fun _=> [],fun ⟨n,_,_⟩=>n≤100000,fun ⟨n,l,x⟩=> .v (.int .i64 (idxB n fun k=>x==l k)),fun _=> [],
  fun args mem=>match args with| [a0,a1]=>some ⟨slN a0,fun i=>intD (slF a0 i 0),intD (a1)⟩|_=>none⟩
def c_indexI:Con:=⟨[],(s_indexI).g,none⟩
def V_indexI:X_indexI→Prop:=fun ⟨n,l,x⟩=>let a0:=(n:Int);let b0:=idxB n (fun c0:Nat=>x==l c0);a0≤9223372036854775807→0=((0:Nat):Int)∧True∧(0≤n∧(∀d0:Nat,d0<0→(x==l d0)=false))∧(∀e0:Nat,let g0:=(e0:Int);let h0:=decide (g0<a0);let k0:=x==l (Int.toNat g0);let l0:Int:=g0+1;e0≤n∧(∀o0:Nat,o0<e0→(x==l o0)=false)→(h0=true→(0≤g0∧g0<a0)∧(k0=true→g0=b0∧True)∧(k0=false→w64 l0=l0∧(∃q0:Nat,l0=(q0:Int)∧True∧(q0≤n∧(∀r0:Nat,r0<q0→(x==l r0)=false))∧n-q0<n-e0)))∧(h0=false→(-1)=b0∧True))
theorem ok_indexI:FnOK Tryz.prog glN 157 c_indexI:=ok_of .nil false Tryz.call157 Tryz.func157 (fun ⟨n,l,x⟩=> [.inv (an_ix n l x)]) (V:=V_indexI) (fun _=>by kernel_rfl) fun ⟨n,l,x⟩ hp=>by
  dsimp only [s_indexI] at hp
  dsimp only [V_indexI,tn,w64]
  simp only [std,stb,eq_self,implies_true,Bool.cond_self]
  refine fun hn s hs=>⟨fun h=>?_,fun h=>?_⟩
  · have hlt:=lt_of_dec h
    exact ⟨by omega,fun h=>(idxB_at (p:=fun k=>x==l k) hs.2 h hlt).symm,fun h=>⟨by rw [IntKind.wrap_i64];omega,exS ⟨⟨by omega,snocF (p:=fun k=>x==l k) hs.2 h⟩,by omega⟩⟩⟩
  · have hge:=ge_of_dec h
    obtain rfl:s=n:=by omega
    exact (idxB_none (p:=fun k=>x==l k) hs.2).symm
structure X_containsI where
  (n:Nat) (l:Nat→Int) (x:Int)
def s_containsI:Sy.Spec:=⟨X_containsI,fun ⟨n,l,x⟩=> [.sl true 1 n (fun i_ _=> .v (.int .i64 (l i_))),.v (.int .i64 x)],fun _=> [],fun ⟨n,_,_⟩=>n≤100000,fun ⟨n,l,x⟩=> .v (.bool (inB' n l x)),fun _=> [],
  fun args mem=>match args with| [a0,a1]=>some ⟨slN a0,fun i=>intD (slF a0 i 0),intD (a1)⟩|_=>none⟩
def c_containsI:Con:=⟨[],(s_containsI).g,none⟩
def V_containsI:X_containsI→Prop:=fun ⟨n,l,x⟩=>(((n=n∧(∀a0:Nat,a0<n→True∧l a0=l a0))∧x=x∧True)∧True∧s_indexI.match_1 (fun b0:X_indexI=>Prop) (X_indexI.mk n l x) (fun c0:Nat=>fun d0:∀e0:Nat,Int=>fun g0:Int=>c0≤100000))∧decide (0≤idxB n (fun h0:Nat=>x==l h0))=inB' n l x∧True
theorem ok_containsI:FnOK Tryz.prog glN 194 c_containsI:=ok_of (.cons ok_indexI .nil) false Tryz.call194 Tryz.func194 (fun _=> []) (V:=V_containsI) (fun _=>by kernel_rfl) fun ⟨n,l,x⟩ hp=>by
  dsimp only [s_containsI] at hp
  dsimp only [V_containsI,tn,w64]
  simp only [std,stb,eq_self,implies_true,Bool.cond_self]
  refine ⟨hp,?_⟩
  cases hq:inB' n l x with
  |false=>
   rw [idxB_none (p:=fun k=>x==l k) fun j hj=>by have:=anyB_false.1 hq j hj;rw [Bool.beq_comm];exact this];rfl
  |true=>
   obtain ⟨i,hi,h⟩:=anyB_iff.1 hq
   have:=fstB_lt (p:=fun k=>x==l k) hi (by rw [Bool.beq_comm];exact h)
   unfold idxB
   rw [blt_t this]
   exact decide_eq_true (Int.natCast_nonneg _)
structure X_wRuns where
  (t c p:Int) (W:Wd)
def s_wRuns:Sy.Spec:=⟨X_wRuns,fun ⟨t,c,p,W⟩=> [.v (.int .i64 t),.v (.int .i64 c),.v (.int .i64 p),.pt true 1 (fun _=>wPT W)],fun _=> [],fun ⟨_,_,_,W⟩=>Szd W,fun ⟨t,c,p,W⟩=> .v (.bool (rdB W t c p)),fun _=> [],
  fun args mem=>match args with| [a0,a1,a2,a3]=>some ⟨intD (a0),intD (a1),intD (a2),wPTD (ptF a3 0)⟩|_=>none⟩
def c_wRuns:Con:=⟨[],(s_wRuns).g,none⟩
def V_wRuns:X_wRuns→Prop:=fun ⟨t,c,p,W⟩=>let a0:=cond (decide (0≤t)) (decide (t<((W.nKinds:Nat):Int))) false;let b0:=cond a0 (W.kinds (Int.toNat t)==6) false;let c0:=0≤t∧t<((W.nTasks:Nat):Int);let d0:=W.tasks (Int.toNat t);let e0:=cond b0 (d0.st==1) false;let g0:=cond e0 (d0.core==c) false;(a0=true→0≤t∧t<((W.nKinds:Nat):Int))∧(b0=true→c0)∧(e0=true→c0)∧(decide (p<0)=false→g0=true→c0)∧cond g0 (cond (decide (p<0)) true (d0.prio==p)) false=rdB W t c p∧True
theorem ok_wRuns:FnOK Tryz.prog glN 197 c_wRuns:=ok_of .nil false Tryz.call197 Tryz.func197 (fun _=> []) (V:=V_wRuns) (fun _=>by kernel_rfl) fun ⟨t,c,p,W⟩ hp=>by
  dsimp only [s_wRuns] at hp
  dsimp only [V_wRuns,tn,w64]
  simp only [std,stb,eq_self,implies_true,Bool.cond_self]
  have hz:=hp.tasks
  refine ⟨fun h=>?_,fun h=>?_,fun h=>?_,fun _ h=>?_,by rw [kof_int (k:=6) (by decide)];rfl⟩
  all_goals simp only [Bool.and_eq_true,decide_eq_true_eq] at h
  all_goals omega
structure X_words1 where
  (i x:Int)
def s_words1:Sy.Spec:=⟨X_words1,fun ⟨i,x⟩=> [.v (.int .i64 i),.v (.int .i64 x)],fun _=> [],fun _=>True,fun ⟨_,x⟩=> .v (.bool (farB x 65535)),fun _=> [],
  fun args mem=>match args with| [a0,a1]=>some ⟨intD (a0),intD (a1)⟩|_=>none⟩
def c_words1:Con:=⟨[],(s_words1).g,none⟩
def V_words1:X_words1→Prop:=fun ⟨_,x⟩=>((x=x∧(65535:Int)=65535∧True)∧True∧True)∧farB x 65535=farB x 65535∧True
theorem ok_words1:FnOK Tryz.prog glN 181 c_words1:=ok_of (.cons ok_wOut .nil) false Tryz.call181 Tryz.func181 (fun _=> []) (V:=V_words1) (fun _=>by kernel_rfl) fun ⟨i,x⟩ hp=>by
  dsimp only [V_words1,tn,w64]
  simp only [std,stb,eq_self,implies_true,Bool.cond_self]
structure X_words2 where
  (i x:Int)
def s_words2:Sy.Spec:=⟨X_words2,fun ⟨i,x⟩=> [.v (.int .i64 i),.v (.int .i64 x)],fun _=> [],fun _=>True,fun ⟨_,x⟩=> .v (.bool (farB x 8||x==1)),fun _=> [],
  fun args mem=>match args with| [a0,a1]=>some ⟨intD (a0),intD (a1)⟩|_=>none⟩
def c_words2:Con:=⟨[],(s_words2).g,none⟩
def V_words2:X_words2→Prop:=fun ⟨_,x⟩=>((x=x∧(8:Int)=8∧True)∧True∧True)∧cond (farB x 8) true (x==1)=(farB x 8||x==1)∧True
theorem ok_words2:FnOK Tryz.prog glN 182 c_words2:=ok_of (.cons ok_wOut .nil) false Tryz.call182 Tryz.func182 (fun _=> []) (V:=V_words2) (fun _=>by kernel_rfl) fun ⟨i,x⟩ hp=>by
  dsimp only [V_words2,tn,w64]
  simp only [std,stb,eq_self,implies_true,Bool.cond_self]
structure X_words3 where
  (i x:Int)
def s_words3:Sy.Spec:=⟨X_words3,fun ⟨i,x⟩=> [.v (.int .i64 i),.v (.int .i64 x)],fun _=> [],fun _=>True,fun ⟨_,x⟩=> .v (.bool (farB x 3)),fun _=> [],
  fun args mem=>match args with| [a0,a1]=>some ⟨intD (a0),intD (a1)⟩|_=>none⟩
def c_words3:Con:=⟨[],(s_words3).g,none⟩
def V_words3:X_words3→Prop:=fun ⟨_,x⟩=>((x=x∧(3:Int)=3∧True)∧True∧True)∧farB x 3=farB x 3∧True
theorem ok_words3:FnOK Tryz.prog glN 183 c_words3:=ok_of (.cons ok_wOut .nil) false Tryz.call183 Tryz.func183 (fun _=> []) (V:=V_words3) (fun _=>by kernel_rfl) fun ⟨i,x⟩ hp=>by
  dsimp only [V_words3,tn,w64]
  simp only [std,stb,eq_self,implies_true,Bool.cond_self]
end Go.Proofs.YtdjilaofmdhikaaGreatDoor
set_option linter.unusedVariables false
set_option linter.unusedSimpArgs false
set_option maxRecDepth 100000
namespace Go.Proofs.YtdjilaofmdhikaaGreatDoor
open Go.RowKit Go.Sy
def wMJD (B:List Blk) (z:Nat):Wd:=⟨rowN B (z+1),fun i=>intD (rowF B (z+1) i 0),rowN B (z+2),fun i=>intD (rowF B (z+2) i 0),rowN B (z+3),fun i=>slBD (fun j=>rowF B (z+3) i j),rowN B (z+4),fun i=>runBD (fun j=>rowF B (z+4) i j),rowN B (z+5),fun i=>ilN (rowF B (z+5) i 0),fun i k=>intD (ilF (rowF B (z+5) i 0) k 0),rowN B (z+6),fun i=>intD (rowF B (z+6) i 0),rowN B (z+7),fun i=>intD (rowF B (z+7) i 0),rowN B (z+8),fun i=>ilN (rowF B (z+8) i 0),fun i k=>intD (ilF (rowF B (z+8) i 0) k 0),rowN B (z+9),fun i=>ilN (rowF B (z+9) i 0),fun i k=>enBD (fun j=>ilF (rowF B (z+9) i 0) k j),rowN B (z+10),fun i=>intD (rowF B (z+10) i 0),intD (celF B z 10)⟩
def hasE (W:Wd) (s:Int):Int:=bif decide (s<0)||decide ((W.nSlots:Int)≤s) then 2 else bif (W.slots s.toNat).kind==0 then 6 else 0
def trn (a b:Int) (s:Slt):Slt:=bif s.from_==a then {s with from_:=b} else s
def trS (f:Nat→Slt) (a b:Int) (i j:Nat):Slt:=bif Nat.blt j i then trn a b (f j) else f j
def trnW (W:Wd) (a b:Int):Wd:={W with slots:=fun j=>trn a b (W.slots j)}
def blS:Slt:=⟨0,0,0,0,0,0,-1⟩
theorem trS_lt {f:Nat→Slt} {a b:Int} {i j:Nat} (h:j<i):trS f a b i j=trn a b (f j):=by unfold trS;rw [blt_t h];rfl
theorem trS_ge {f:Nat→Slt} {a b:Int} {i j:Nat} (h:i≤j):trS f a b i j=f j:=by unfold trS;rw [blt_f h];rfl
theorem slt7 {x y:Slt} (h:x=y):((((((x.kind=y.kind∧x.base=y.base)∧x.len=y.len)∧x.mark=y.mark)∧x.rights=y.rights)∧x.badge=y.badge)∧x.from_=y.from_):=by subst h;exact ⟨⟨⟨⟨⟨⟨rfl,rfl⟩,rfl⟩,rfl⟩,rfl⟩,rfl⟩,rfl⟩
theorem beq_ne {a b:Nat} (h:a≠b):Nat.beq a b=false:=by
  cases hb:Nat.beq a b with
  |false=>rfl
  |true=>exact absurd (Nat.eq_of_beq_eq_true hb) h
theorem wr_in {z:Int} (h1: -1000000≤z) (h2:z≤1000000):IntKind.i64.wrap z=z:=by rw [IntKind.wrap_i64];omega
theorem trS_yes {f:Nat→Slt} {a b:Int} {i j:Nat} (h:((trS f a b i i).from_==a)=true):((((((trS f a b i j).kind=(trS f a b (i+1) j).kind∧(trS f a b i j).base=(trS f a b (i+1) j).base)∧(trS f a b i j).len=(trS f a b (i+1) j).len)∧(trS f a b i j).mark=(trS f a b (i+1) j).mark)∧(trS f a b i j).rights=(trS f a b (i+1) j).rights)∧(trS f a b i j).badge=(trS f a b (i+1) j).badge)∧(bif j.beq i then b else (trS f a b i j).from_)=(trS f a b (i+1) j).from_:=by
  rw [trS_ge (Nat.le_refl _)] at h
  rcases Nat.lt_trichotomy j i with h1|h1|h1
  · rw [beq_ne (by omega),trS_lt h1,trS_lt (by omega:j<i+1)];exact slt7 rfl
  · subst h1
    rw [Nat.beq_refl,trS_ge (Nat.le_refl _),trS_lt (Nat.lt_succ_self _)]
    unfold trn;rw [h];exact ⟨⟨⟨⟨⟨⟨rfl,rfl⟩,rfl⟩,rfl⟩,rfl⟩,rfl⟩,rfl⟩
  · rw [beq_ne (by omega),trS_ge (by omega),trS_ge (by omega:i+1≤j)];exact slt7 rfl
theorem trS_no {f:Nat→Slt} {a b:Int} {i j:Nat} (h:((trS f a b i i).from_==a)=false):trS f a b i j=trS f a b (i+1) j:=by
  rw [trS_ge (Nat.le_refl _)] at h
  rcases Nat.lt_trichotomy j i with h1|h1|h1
  · rw [trS_lt h1,trS_lt (by omega:j<i+1)]
  · subst h1
    rw [trS_ge (Nat.le_refl _),trS_lt (Nat.lt_succ_self _)]
    unfold trn;rw [h];rfl
  · rw [trS_ge (by omega),trS_ge (by omega:i+1≤j)]
theorem trS_all {f:Nat→Slt} {a b:Int} {i j:Nat} (h:j<i):trS f a b i j=trn a b (f j):=trS_lt h
theorem ne0 {x:Int} (h:(x !=0)=true):(x==0)=false:=by simpa [bne] using h
theorem eq0 {x:Int} (h:(x !=0)=false):(x==0)=true:=by simpa [bne] using h
theorem wd_eta (W:Wd):(⟨W.nRam,W.ram,W.nKinds,W.kinds,W.nSlots,W.slots,W.nTasks,W.tasks,W.nLines,W.linesN,W.lines,W.nBits,W.bits,W.nCores,W.cores,W.nReady,W.readyN,W.ready,W.nTlbs,W.tlbsN,W.tlbs,W.nDoms,W.doms,W.time⟩:Wd)=W:=rfl
def an_trn (W:Wd) (a b:Int) (z:Nat):Ann where
  σ:=Nat
  rt:= []
  sh i:= [(0,pt0 0),(z,.v (.int .i64 i))]
  mh i:= [(3,.row 7 W.nSlots (rF fun j=>slL (trS W.slots a b i j)))]
  inv i:=i≤W.nSlots
  μ i:=W.nSlots -i
  init:=0
structure X_has_ where
  (W:Wd) (s:Int)
def s_has_:Sy.Spec:=⟨X_has_,fun ⟨W,s⟩=> [wPT W,.v (.int .i64 s)],fun _=> [],fun _=>True,fun ⟨W,s⟩=> .v (.int .i64 (hasE W s)),fun _=> [],
  fun args mem=>match args with| [a0,a1]=>some ⟨wPTD a0,intD (a1)⟩|_=>none⟩
def c_has_:Con:=⟨[],(s_has_).g,none⟩
def V_has_:X_has_→Prop:=fun ⟨W,s⟩=>let a0:=cond (decide (s<0)) true (decide (((W.nSlots:Nat):Int)≤s));let b0:=hasE W s;let c0:=(W.slots (Int.toNat s)).kind==0;(a0=true→2=b0∧True)∧(a0=false→(0≤s∧s<((W.nSlots:Nat):Int))∧(c0=true→6=b0∧True)∧(c0=false→0=b0∧True))
theorem ok_has_:FnOK Tryz.prog glN 80 c_has_:=ok_of .nil false Tryz.call80 Tryz.func80 (fun _=> []) (V:=V_has_) (fun _=>by kernel_rfl) fun ⟨W,s⟩ hp=>by
  dsimp only [V_has_,tn,w64]
  simp only [std,stb,eq_self,implies_true,Bool.cond_self]
  refine ⟨fun h=>?_,fun h=>?_⟩
  · unfold hasE;rw [h];rfl
  · have h':=h
    rw [Bool.or_eq_false_iff] at h'
    have h1:=of_decide_eq_false h'.1
    have h2:=of_decide_eq_false h'.2
    refine ⟨by omega,fun h3=>?_,fun h3=>?_⟩<;>(unfold hasE;rw [h,h3];rfl)
structure X_turn where
  (a b:Int) (W:Wd)
def s_turn:Sy.Spec:=⟨X_turn,fun ⟨a,b,_⟩=> [.ptr 0 0 none 0 0,.v (.int .i64 a),.v (.int .i64 b)],fun ⟨_,_,W⟩=>wMem W,fun ⟨_,_,W⟩=>W.nSlots≤100000,fun _=> .tp 0 (lsv []),fun ⟨a,b,W⟩=>wMem (trnW W a b),
  fun args mem=>match args with| [a0,a1,a2]=>some ⟨intD (a1),intD (a2),wMJD mem 0⟩|_=>none⟩
def c_turn:Con:=⟨[true],(s_turn).g,none⟩
def V_turn:X_turn→Prop:=fun ⟨a,b,W⟩=>let a0:=SV.ptr 0 0 none 0 0;let b0:=0=0;let c0:=W.nRam;let d0:=c0=c0;let e0:=W.nKinds;let g0:=e0=e0;let h0:=W.nSlots;let k0:=h0=h0;let l0:=W.nTasks;let o0:=l0=l0;let q0:=W.nLines;let u0:=q0=q0;let v0:=W.nBits;let w0:=v0=v0;let x0:=W.nCores;let y0:=x0=x0;let z0:=W.nReady;let a1:=z0=z0;let b1:=W.nTlbs;let c1:=b1=b1;let d1:=W.nDoms;let e1:=d1=d1;let g1:=W.time=W.time;let h1:=d0∧(∀k1:Nat,k1<c0→True∧W.ram k1=W.ram k1);let l1:=g0∧(∀o1:Nat,o1<e0→True∧W.kinds o1=W.kinds o1);let q1:=W.slots;let u1:=u0∧(∀v1:Nat,let w1:=W.linesN v1;v1<q0→True∧w1=w1∧(∀x1:Nat,x1<w1→True∧W.lines v1 x1=W.lines v1 x1));let y1:=w0∧(∀z1:Nat,z1<v0→True∧W.bits z1=W.bits z1);let a2:=y0∧(∀b2:Nat,b2<x0→True∧W.cores b2=W.cores b2);let c2:=a1∧(∀d2:Nat,let e2:=W.readyN d2;d2<z0→True∧e2=e2∧(∀g2:Nat,g2<e2→True∧W.ready d2 g2=W.ready d2 g2));let h2:=(e1∧(∀k2:Nat,k2<d1→True∧W.doms k2=W.doms k2))∧True;let l2:=(o0∧(∀o2:Nat,let q2:=W.tasks o2;let u2:=q2.prio;let v2:=q2.node;let w2:=q2.space;let x2:=q2.helper;let y2:=q2.loc;let z2:=q2.word;let a3:=q2.badge;let b3:=q2.owes;let c3:=q2.core;let d3:=q2.dom;o2<l0→(((((((((((((((((((True∧q2.r0=q2.r0)∧q2.r1=q2.r1)∧q2.r2=q2.r2)∧q2.r3=q2.r3)∧q2.r4=q2.r4)∧q2.r5=q2.r5)∧q2.r6=q2.r6)∧q2.r7=q2.r7)∧q2.pc=q2.pc)∧q2.st=q2.st)∧u2=u2)∧v2=v2)∧w2=w2)∧x2=x2)∧y2=y2)∧z2=z2)∧a3=a3)∧b3=b3)∧c3=c3)∧d3=d3))∧u1∧y1∧a2∧c2∧(c1∧(∀e3:Nat,let g3:=W.tlbsN e3;e3<b1→True∧g3=g3∧(∀h3:Nat,let k3:=W.tlbs e3 h3;let l3:=k3.sp;let o3:=k3.pg;let q3:=k3.fr;let u3:=k3.wr;h3<g3→(((True∧l3=l3)∧o3=o3)∧q3=q3)∧u3=u3)))∧h2;
    let v3:=(h0:Int);let w3:=SV.ptr 0 0 none 0 0=a0;let x3:=0=0;let y3:=((((((((((True∧x3∧d0)∧x3∧g0)∧x3∧k0)∧x3∧o0)∧x3∧u0)∧x3∧w0)∧x3∧y0)∧x3∧a1)∧x3∧c1)∧x3∧e1)∧g1;let z3:=Wd.mk c0 W.ram e0 W.kinds h0 (fun a4:Nat=>trn a b (q1 a4)) l0 W.tasks q0 W.linesN W.lines v0 W.bits x0 W.cores z0 W.readyN W.ready b1 W.tlbsN W.tlbs d1 W.doms W.time;a0=a0∧0=((0:Nat):Int)∧((((((((((((True∧b0∧d0)∧b0∧g0)∧b0∧k0)∧b0∧o0)∧b0∧u0)∧b0∧w0)∧b0∧y0)∧b0∧a1)∧b0∧c1)∧b0∧e1)∧g1)∧h1∧l1∧(k0∧(∀b4:Nat,let c4:=q1 b4;let d4:=trS q1 a b 0 b4;b4<h0→((((((True∧c4.kind=d4.kind)∧c4.base=d4.base)∧c4.len=d4.len)∧c4.mark=d4.mark)∧c4.rights=d4.rights)∧c4.badge=d4.badge)∧c4.from_=d4.from_))∧l2)∧0≤h0∧(∀e4:Nat,let g4:=(e4:Int);let h4:=decide (g4<v3);let k4:=0≤g4∧g4<v3;let l4:=0+Int.toNat g4;let o4:=(trS q1 a b e4 l4).from_==a;let q4:Int:=g4+1;let u4:=w64 q4=q4;e4≤h0→v3≤9223372036854775807→(h4=true→k4∧(o4=true→k4∧(∀v4:Nat,false=false)∧u4∧(∃w4:Nat,w3∧q4=(w4:Int)∧(y3∧h1∧l1∧(k0∧(∀x4:Nat,let y4:=trS q1 a b e4 x4;let z4:=trS q1 a b w4 x4;x4<h0→((((((True∧y4.kind=z4.kind)∧y4.base=z4.base)∧y4.len=z4.len)∧y4.mark=z4.mark)∧y4.rights=z4.rights)∧y4.badge=z4.badge)∧cond (Nat.beq x4 l4) b y4.from_=z4.from_))∧l2)∧w4≤h0∧h0-w4<h0-e4))∧(o4=false→u4∧(∃a5:Nat,w3∧q4=(a5:Int)∧(y3∧h1∧l1∧(k0∧(∀b5:Nat,let c5:=trS q1 a b e4 b5;let d5:=trS q1 a b a5 b5;b5<h0→((((((True∧c5.kind=d5.kind)∧c5.base=d5.base)∧c5.len=d5.len)∧c5.mark=d5.mark)∧c5.rights=d5.rights)∧c5.badge=d5.badge)∧c5.from_=d5.from_))∧l2)∧a5≤h0∧h0-a5<h0-e4)))∧(h4=false→True∧y3∧h1∧l1∧(k0∧(∀e5:Nat,
    let g5:=trS q1 a b e4 e5;let h5:=z3.slots e5;e5<h0→((((((True∧g5.kind=h5.kind)∧g5.base=h5.base)∧g5.len=h5.len)∧g5.mark=h5.mark)∧g5.rights=h5.rights)∧g5.badge=h5.badge)∧g5.from_=h5.from_))∧(o0∧(∀k5:Nat,let l5:=W.tasks k5;let o5:=z3.tasks k5;k5<l0→(((((((((((((((((((True∧l5.r0=o5.r0)∧l5.r1=o5.r1)∧l5.r2=o5.r2)∧l5.r3=o5.r3)∧l5.r4=o5.r4)∧l5.r5=o5.r5)∧l5.r6=o5.r6)∧l5.r7=o5.r7)∧l5.pc=o5.pc)∧l5.st=o5.st)∧l5.prio=o5.prio)∧l5.node=o5.node)∧l5.space=o5.space)∧l5.helper=o5.helper)∧l5.loc=o5.loc)∧l5.word=o5.word)∧l5.badge=o5.badge)∧l5.owes=o5.owes)∧l5.core=o5.core)∧l5.dom=o5.dom))∧u1∧y1∧a2∧c2∧(c1∧(∀q5:Nat,let u5:=W.tlbsN q5;q5<b1→True∧u5=u5∧(∀v5:Nat,let w5:=W.tlbs q5 v5;let x5:=z3.tlbs q5 v5;v5<u5→(((True∧w5.sp=x5.sp)∧w5.pg=x5.pg)∧w5.fr=x5.fr)∧w5.wr=x5.wr)))∧h2))
theorem ok_turn:FnOK Tryz.prog glN 74 c_turn:=ok_of .nil false Tryz.call74 Tryz.func74 (fun ⟨a,b,W⟩=> [.inv (an_trn W a b 6)]) (V:=V_turn) (fun _=>by kernel_rfl) fun ⟨a,b,W⟩ hp=>by
  dsimp only [s_turn] at hp
  dsimp only [V_turn,tn,w64]
  simp only [std,stb,eq_self,implies_true,Bool.cond_self]
  refine ⟨fun j _=>slt7 (trS_ge (Nat.zero_le _)).symm,fun s hs _=>⟨fun h=>?_,fun h=>fun j hj=>?_⟩⟩
  · have hlt:=lt_of_dec h
    refine ⟨by omega,fun h1=>⟨by omega,wr_in (by omega) (by omega),s+1,by omega,fun j _=>trS_yes h1,by omega,by omega⟩,fun h1=>⟨wr_in (by omega) (by omega),s+1,by omega,fun j _=>slt7 (trS_no h1),by omega,by omega⟩⟩
  · have hge:=ge_of_dec h
    exact slt7 (trS_all (by omega))
structure X_tin where
  (W:Wd) (s:Int)
def s_tin:Sy.Spec:=⟨X_tin,fun ⟨W,s⟩=> [wPT W,.v (.int .i64 s)],fun _=> [],fun _=>True,fun ⟨W,s⟩=> .v (.bool (decide (0≤s)&&decide (s<W.nSlots))),fun _=> [],
  fun args mem=>match args with| [a0,a1]=>some ⟨wPTD a0,intD (a1)⟩|_=>none⟩
def c_tin:Con:=⟨[],(s_tin).g,none⟩
def V_tin:X_tin→Prop:=fun ⟨W,s⟩=>let a0:=decide (s<((W.nSlots:Nat):Int));cond (decide (0≤s)) a0 false=(decide (0≤s)&&a0)∧True
theorem ok_tin:FnOK Tryz.prog glN 167 c_tin:=ok_of .nil false Tryz.call167 Tryz.func167 (fun _=> []) (V:=V_tin) (fun _=>by kernel_rfl) fun ⟨W,s⟩ hp=>by
  dsimp only [V_tin,tn,w64]
  simp only [std,stb,eq_self,implies_true,Bool.cond_self]
structure X_full where
  (W:Wd) (s:Int)
def s_full:Sy.Spec:=⟨X_full,fun ⟨W,s⟩=> [wPT W,.v (.int .i64 s)],fun _=> [],fun _=>True,fun ⟨W,s⟩=> .er 35 116 (hasE W s) (-1),fun _=> [],
  fun args mem=>match args with| [a0,a1]=>some ⟨wPTD a0,intD (a1)⟩|_=>none⟩
def c_full:Con:=⟨[],(s_full).g,none⟩
def V_full:X_full→Prop:=fun ⟨W,s⟩=>let a0:=W.nKinds;let b0:=W.nSlots;let c0:=W.nTasks;let d0:=W.nLines;let e0:=W.nCores;let g0:=W.nReady;let h0:=!(decide (0≤s)&&decide (s<(b0:Int)));let k0:=hasE W s;let l0:=((-1):Int)=(-1);let o0:=(W.slots (Int.toNat s)).kind==0;(((((((((((((True∧W.nRam=W.nRam∧(∀q0:Nat,q0<W.nRam→True∧W.ram q0=W.ram q0))∧a0=a0∧(∀u0:Nat,u0<a0→True∧W.kinds u0=W.kinds u0))∧b0=b0∧(∀v0:Nat,let w0:=W.slots v0;let x0:=w0.kind;let y0:=w0.base;let z0:=w0.len;let a1:=w0.mark;let b1:=w0.rights;let c1:=w0.badge;let d1:=w0.from_;v0<b0→((((((True∧x0=x0)∧y0=y0)∧z0=z0)∧a1=a1)∧b1=b1)∧c1=c1)∧d1=d1))∧c0=c0∧(∀e1:Nat,let g1:=W.tasks e1;let h1:=g1.prio;let k1:=g1.node;let l1:=g1.space;let o1:=g1.helper;let q1:=g1.loc;let u1:=g1.word;let v1:=g1.badge;let w1:=g1.owes;let x1:=g1.core;let y1:=g1.dom;e1<c0→(((((((((((((((((((True∧g1.r0=g1.r0)∧g1.r1=g1.r1)∧g1.r2=g1.r2)∧g1.r3=g1.r3)∧g1.r4=g1.r4)∧g1.r5=g1.r5)∧g1.r6=g1.r6)∧g1.r7=g1.r7)∧g1.pc=g1.pc)∧g1.st=g1.st)∧h1=h1)∧k1=k1)∧l1=l1)∧o1=o1)∧q1=q1)∧u1=u1)∧v1=v1)∧w1=w1)∧x1=x1)∧y1=y1))∧d0=d0∧(∀z1:Nat,let a2:=W.linesN z1;z1<d0→True∧a2=a2∧(∀b2:Nat,b2<a2→True∧W.lines z1 b2=W.lines z1 b2)))∧W.nBits=W.nBits∧(∀c2:Nat,c2<W.nBits→True∧W.bits c2=W.bits c2))∧e0=e0∧(∀d2:Nat,d2<e0→True∧W.cores d2=W.cores d2))∧g0=g0∧(∀e2:Nat,let g2:=W.readyN e2;e2<g0→True∧g2=g2∧(∀h2:Nat,h2<g2→True∧W.ready e2 h2=W.ready e2 h2)))∧W.nTlbs=W.nTlbs∧(∀k2:Nat,let l2:=W.tlbsN k2;k2<W.nTlbs→True∧l2=l2∧(∀o2:Nat,let q2:=W.tlbs k2 o2;let u2:=q2.sp;let v2:=q2.pg;let w2:=q2.fr;let x2:=q2.wr;o2<l2→(((True∧u2=u2)∧v2=v2)∧
    w2=w2)∧x2=x2)))∧W.nDoms=W.nDoms∧(∀y2:Nat,y2<W.nDoms→True∧W.doms y2=W.doms y2))∧W.time=W.time)∧s=s∧True)∧True∧True)∧(h0=true→((2:Int)≠0∧k0=2∧l0)∧True)∧(h0=false→(0≤s∧s<(b0:Int))∧(o0=true→((6:Int)≠0∧k0=6∧l0)∧True)∧(o0=false→(k0=0∧l0)∧True))
theorem ok_full:FnOK Tryz.prog glN 127 c_full:=ok_of (.cons ok_tin .nil) false Tryz.call127 Tryz.func127 (fun _=> []) (V:=V_full) (fun _=>by kernel_rfl) fun ⟨W,s⟩ hp=>by
  dsimp only [V_full,tn,w64]
  simp only [std,stb,eq_self,implies_true,Bool.cond_self]
  have inq:(decide (0≤s)&&decide (s<W.nSlots))=!(decide (s<0)||decide ((W.nSlots:Int)≤s)):=by
    rcases Int.lt_or_le s 0 with h|h
    · rw [decide_eq_false (by omega),decide_eq_true h];rfl
    · rcases Int.lt_or_le s W.nSlots with h2|h2
      · rw [decide_eq_true h,decide_eq_true h2,decide_eq_false (by omega),decide_eq_false (by omega)];rfl
      · rw [decide_eq_true h,decide_eq_false (by omega),decide_eq_false (show¬s<0 by omega),decide_eq_true h2];rfl
  rw [inq,Bool.not_not]
  refine ⟨fun h=>?_,fun h=>?_⟩
  · exact ⟨by decide,by unfold hasE;rw [h];rfl⟩
  · have h':=h
    rw [Bool.or_eq_false_iff] at h'
    have h1:=of_decide_eq_false h'.1
    have h2:=of_decide_eq_false h'.2
    exact ⟨by omega,fun h3=>⟨by decide,by unfold hasE;rw [h,h3];rfl⟩,fun h3=>by unfold hasE;rw [h,h3];rfl⟩
structure X_heir where
  (a b:Int) (W:Wd)
def s_heir:Sy.Spec:=⟨X_heir,fun ⟨a,b,_⟩=> [.ptr 0 0 none 0 0,.v (.int .i64 a),.v (.int .i64 b)],fun ⟨_,_,W⟩=>wMem W,fun ⟨_,_,W⟩=>W.nSlots≤100000,fun _=> .tp 0 (lsv []),fun ⟨a,b,W⟩=>wMem (trnW W a b),
  fun args mem=>match args with| [a0,a1,a2]=>some ⟨intD (a1),intD (a2),wMJD mem 0⟩|_=>none⟩
def c_heir:Con:=⟨[true],(s_heir).g,none⟩
def V_heir:X_heir→Prop:=fun ⟨a,b,W⟩=>let a0:=W.nSlots;let b0:=(a0:Int);let c0:=SV.ptr 0 0 none 0 0=SV.ptr 0 0 none 0 0;let d0:=0=0;let e0:=W.nRam;let g0:=e0=e0;let h0:=W.nKinds;let k0:=h0=h0;let l0:=a0=a0;let o0:=W.nTasks;let q0:=o0=o0;let u0:=W.nLines;let v0:=u0=u0;let w0:=W.nBits;let x0:=w0=w0;let y0:=W.nCores;let z0:=y0=y0;let a1:=W.nReady;let b1:=a1=a1;let c1:=W.nTlbs;let d1:=c1=c1;let e1:=W.nDoms;let g1:=e1=e1;let h1:=W.time=W.time;let k1:=((((((((((True∧d0∧g0)∧d0∧k0)∧d0∧l0)∧d0∧q0)∧d0∧v0)∧d0∧x0)∧d0∧z0)∧d0∧b1)∧d0∧d1)∧d0∧g1)∧h1;let l1:=g0∧(∀o1:Nat,o1<e0→True∧W.ram o1=W.ram o1);let q1:=k0∧(∀u1:Nat,u1<h0→True∧W.kinds u1=W.kinds u1);let v1:=W.slots;let w1:=v0∧(∀x1:Nat,let y1:=W.linesN x1;x1<u0→True∧y1=y1∧(∀z1:Nat,z1<y1→True∧W.lines x1 z1=W.lines x1 z1));let a2:=x0∧(∀b2:Nat,b2<w0→True∧W.bits b2=W.bits b2);let c2:=z0∧(∀d2:Nat,d2<y0→True∧W.cores d2=W.cores d2);let e2:=b1∧(∀g2:Nat,let h2:=W.readyN g2;g2<a1→True∧h2=h2∧(∀k2:Nat,k2<h2→True∧W.ready g2 k2=W.ready g2 k2));let l2:=(g1∧(∀o2:Nat,o2<e1→True∧W.doms o2=W.doms o2))∧True;
    let q2:=(q0∧(∀u2:Nat,let v2:=W.tasks u2;let w2:=v2.prio;let x2:=v2.node;let y2:=v2.space;let z2:=v2.helper;let a3:=v2.loc;let b3:=v2.word;let c3:=v2.badge;let d3:=v2.owes;let e3:=v2.core;let g3:=v2.dom;u2<o0→(((((((((((((((((((True∧v2.r0=v2.r0)∧v2.r1=v2.r1)∧v2.r2=v2.r2)∧v2.r3=v2.r3)∧v2.r4=v2.r4)∧v2.r5=v2.r5)∧v2.r6=v2.r6)∧v2.r7=v2.r7)∧v2.pc=v2.pc)∧v2.st=v2.st)∧w2=w2)∧x2=x2)∧y2=y2)∧z2=z2)∧a3=a3)∧b3=b3)∧c3=c3)∧d3=d3)∧e3=e3)∧g3=g3))∧w1∧a2∧c2∧e2∧(d1∧(∀h3:Nat,let k3:=W.tlbsN h3;h3<c1→True∧k3=k3∧(∀l3:Nat,let o3:=W.tlbs h3 l3;let q3:=o3.sp;let u3:=o3.pg;let v3:=o3.fr;let w3:=o3.wr;l3<k3→(((True∧q3=q3)∧u3=u3)∧v3=v3)∧w3=w3)))∧l2;let x3:=0=0;let y3:=Wd.mk e0 W.ram h0 W.kinds a0 (fun z3:Nat=>trn a b (v1 z3)) o0 W.tasks u0 W.linesN W.lines w0 W.bits y0 W.cores a1 W.readyN W.ready c1 W.tlbsN W.tlbs e1 W.doms W.time;b0≤9223372036854775807→c0∧0=((0:Nat):Int)∧(k1∧l1∧q1∧(l0∧(∀a4:Nat,let b4:=v1 a4;let c4:=trS v1 a b 0 a4;a4<a0→((((((True∧b4.kind=c4.kind)∧b4.base=c4.base)∧b4.len=c4.len)∧b4.mark=c4.mark)∧b4.rights=c4.rights)∧b4.badge=c4.badge)∧b4.from_=c4.from_))∧q2)∧0≤a0∧(∀d4:Nat,let e4:=(d4:Int);let g4:=decide (e4<b0);let h4:=0≤e4∧e4<b0;let k4:=0+Int.toNat e4;let l4:=(trS v1 a b d4 k4).from_==a;let o4:Int:=e4+1;let q4:=w64 o4=o4;d4≤a0→(g4=true→h4∧(l4=true→h4∧(∀u4:Nat,false=false)∧q4∧(∃v4:Nat,c0∧o4=(v4:Int)∧(k1∧l1∧q1∧(l0∧(∀w4:Nat,let x4:=trS v1 a b d4 w4;let y4:=trS v1 a b v4 w4;w4<a0→((((((True∧x4.kind=y4.kind)∧x4.base=y4.base)∧x4.len=y4.len)∧x4.mark=y4.mark)∧x4.rights=y4.rights)∧
    x4.badge=y4.badge)∧cond (Nat.beq w4 k4) b x4.from_=y4.from_))∧q2)∧v4≤a0∧a0-v4<a0-d4))∧(l4=false→q4∧(∃z4:Nat,c0∧o4=(z4:Int)∧(k1∧l1∧q1∧(l0∧(∀a5:Nat,let b5:=trS v1 a b d4 a5;let c5:=trS v1 a b z4 a5;a5<a0→((((((True∧b5.kind=c5.kind)∧b5.base=c5.base)∧b5.len=c5.len)∧b5.mark=c5.mark)∧b5.rights=c5.rights)∧b5.badge=c5.badge)∧b5.from_=c5.from_))∧q2)∧z4≤a0∧a0-z4<a0-d4)))∧(g4=false→True∧(((((((((((True∧x3∧g0)∧x3∧k0)∧x3∧l0)∧x3∧q0)∧x3∧v0)∧x3∧x0)∧x3∧z0)∧x3∧b1)∧x3∧d1)∧x3∧g1)∧h1)∧l1∧q1∧(l0∧(∀d5:Nat,let e5:=trS v1 a b d4 d5;let g5:=y3.slots d5;d5<a0→((((((True∧e5.kind=g5.kind)∧e5.base=g5.base)∧e5.len=g5.len)∧e5.mark=g5.mark)∧e5.rights=g5.rights)∧e5.badge=g5.badge)∧e5.from_=g5.from_))∧(q0∧(∀h5:Nat,let k5:=W.tasks h5;let l5:=y3.tasks h5;h5<o0→(((((((((((((((((((True∧k5.r0=l5.r0)∧k5.r1=l5.r1)∧k5.r2=l5.r2)∧k5.r3=l5.r3)∧k5.r4=l5.r4)∧k5.r5=l5.r5)∧k5.r6=l5.r6)∧k5.r7=l5.r7)∧k5.pc=l5.pc)∧k5.st=l5.st)∧k5.prio=l5.prio)∧k5.node=l5.node)∧k5.space=l5.space)∧k5.helper=l5.helper)∧k5.loc=l5.loc)∧k5.word=l5.word)∧k5.badge=l5.badge)∧k5.owes=l5.owes)∧k5.core=l5.core)∧k5.dom=l5.dom))∧w1∧a2∧c2∧e2∧(d1∧(∀o5:Nat,let q5:=W.tlbsN o5;o5<c1→True∧q5=q5∧(∀u5:Nat,let v5:=W.tlbs o5 u5;let w5:=y3.tlbs o5 u5;u5<q5→(((True∧v5.sp=w5.sp)∧v5.pg=w5.pg)∧v5.fr=w5.fr)∧v5.wr=w5.wr)))∧l2))
theorem ok_heir:FnOK Tryz.prog glN 129 c_heir:=ok_of .nil false Tryz.call129 Tryz.func129 (fun ⟨a,b,W⟩=> [.inv (an_trn W a b 12)]) (V:=V_heir) (fun _=>by kernel_rfl) fun ⟨a,b,W⟩ hp=>by
  dsimp only [s_heir] at hp
  dsimp only [V_heir,tn,w64]
  simp only [std,stb,eq_self,implies_true,Bool.cond_self]
  intro _
  refine ⟨fun j _=>slt7 (trS_ge (Nat.zero_le _)).symm,fun s hs=>⟨fun h=>?_,fun h=>fun j hj=>?_⟩⟩
  · have hlt:=lt_of_dec h
    refine ⟨by omega,fun h1=>⟨by omega,wr_in (by omega) (by omega),s+1,by omega,fun j _=>trS_yes h1,by omega,by omega⟩,fun h1=>⟨wr_in (by omega) (by omega),s+1,by omega,fun j _=>slt7 (trS_no h1),by omega,by omega⟩⟩
  · have hge:=ge_of_dec h
    exact slt7 (trS_all (by omega))
end Go.Proofs.YtdjilaofmdhikaaGreatDoor
