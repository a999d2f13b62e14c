/- What a sound world is: lines, tables. -/
import Derived.Test.YtmieeldmfehpoaaGreatDoorYJ
set_option linter.unusedVariables false
set_option linter.unusedSimpArgs false
set_option linter.unusedVariables false
set_option linter.unusedSimpArgs false
set_option maxRecDepth 100000
namespace Go.Proofs.YtmieeldmfehpoaaGreatDoor
open Go.RowKit Go.Sy
def Fz (s:SV) (k:Int->bS):bS:=match s with| .v (.int _ x)=>k x|_=>k 0
def Zl (W:Wd) (f:Nat):bS where
  σ:=Nat
  rt:= [(2,0)]
  sh i:= [(2,bd 0),(7,.v (.int .i64 i))]
  mh _:= []
  inv i:=i<=W.ao f/\ ∀j,j<i->fA W f (W.lines f j)=true
  μ i:=W.ao f -i
  init:=0
def Xz (W:Wd) (n:Nat) (l:Nat->bI):bS where
  σ:=Nat
  rt:= [(2,0)]
  sh i:= [(2,bd 0),(5,.v (.int .i64 i))]
  mh _:= []
  inv i:=i<=n/\ ∀j,j<i->eX W l j=true
  μ i:=n -i
  init:=0
def XA (l:Nat->bI) (i:Int):bS where
  σ:=Nat
  rt:= [(2,0),(6,0)]
  sh k:= [(2,bd 0),(6,bd 1),(10,.v (.int .i64 k))]
  mh _:= []
  inv k:=k<=i.toNat/\ ∀j,j<k->((l j).sp==(l i.toNat).sp&&(l j).pg==(l i.toNat).pg)=false
  μ k:=i.toNat -k
  init:=0
structure HF where
  (W:Wd) (f:Int)
def HG:Sy.Spec:=⟨HF,λ⟨W,f⟩=> [eY W,.v (.int .i64 f)],λ_=> [],λ⟨W,f⟩=>bW W/\kv W/\0<=f/\f<W.ar,λ⟨W,f⟩=> .v (.bool (cU W f.toNat)),λ_=> [],
  λargs mem=>match args with| [a0,a1]=>some ⟨eP a0,av (a1)⟩|_=>none⟩
def RN:aQ:=⟨[],(HG).g,none⟩
def HH:HF->Prop:=λ⟨W,f⟩=>let a0:=W.ba;let b0:=W.ar;let c0:=Int.toNat f;let d0:=W.ao c0;let e0:=(d0:Int);let g0:=e0<=9223372036854775807;let h0:=decide (0<e0);let k0:=W.kinds c0;let l0:=k0 !=8;let o0:=cond (cond h0 (k0 !=7) false) l0 false;let q0:=W.aN;let r0:=0<=f/\f<(q0:Int);let u0:=W.bits c0;let v0:=cond o0 true (cond (u0 !=0) (cond l0 true h0) false);let w0:=v0=false;let x0:=cond v0 true (aB u0 65535);let y0:=cU W c0;let z0:=false=y0/\True;let a1:=SV.ptr 0 0 none 0 0=SV.ptr 0 0 none 0 0;let b1:=W.aw;let c1:=W.az;let d1:=W.aP;let e1:=W.aT;let g1:=((((((((((True/\W.aq=W.aq/\(∀J:Nat,J<W.aq->True/\W.aa J=W.aa J))/\b0=b0/\(∀k1:Nat,k1<b0->True/\W.kinds k1=W.kinds k1))/\b1=b1/\(∀l1:Nat,l1<b1->aD (W.af l1) (W.af l1)))/\c1=c1/\(∀o1:Nat,o1<c1->aE (W.tasks o1) (W.tasks o1)))/\a0=a0/\(∀q1:Nat,let r1:=W.ao q1;q1<a0->True/\r1=r1/\(∀u1:Nat,u1<r1->True/\W.lines q1 u1=W.lines q1 u1)))/\q0=q0/\(∀v1:Nat,v1<q0->True/\W.bits v1=W.bits v1))/\d1=d1/\(∀w1:Nat,w1<d1->True/\W.aF w1=W.aF w1))/\e1=e1/\(∀x1:Nat,let y1:=W.aJ x1;x1<e1->True/\y1=y1/\(∀z1:Nat,z1<y1->True/\W.ready x1 z1=W.ready x1 z1)))/\W.aG=W.aG/\(∀a2:Nat,let b2:=W.aA a2;a2<W.aG->True/\b2=b2/\(∀c2:Nat,c2<b2->ay (W.aj a2 c2) (W.aj a2 c2))))/\W.aI=W.aI/\(∀d2:Nat,d2<W.aI->True/\W.aM d2=W.aM d2))/\W.time=W.time;let e2:=g1/\True;let g2:=(c1:Int);let U:=W.lines c0 (Int.toNat 0);let k2:=(W.tasks (Int.toNat U)).st==4;True/\(0<=f/\f<(a0:Int))/\(0<=f/\f<(b0:Int))/\(g0->(o0=false->r0)/\(w0->r0)/\(w0->(u0=u0/\(65535:Int)=65535/\True)/\True/\
    True)/\(x0=true->z0)/\(x0=false->a1/\0=((0:Nat):Int)/\e2/\(0<=d0/\(∀l2:Nat,l2<0->fA W c0 (W.lines c0 l2)=true))/\(∀o2:Nat,let q2:=(o2:Int);let r2:=decide (q2<e0);let u2:=0<=q2/\q2<e0;let v2:=W.lines c0 (Int.toNat q2);let w2:=cm W v2 !=6;let x2:=w2=false;let y2:=0<=v2/\v2<g2;let z2:=W.tasks (Int.toNat v2);let a3:=cond w2 true (z2.loc !=f);let b3:=(z2.st==4) !=k2;let c3:Int:=q2+1;o2<=d0/\(∀d3:Nat,d3<o2->fA W c0 (W.lines c0 d3)=true)->g0->(r2=true->tn 3 (u2/\True/\((g1/\v2=v2/\True)/\True/\True)/\tn 6 ((x2->u2)/\True/\(x2->y2)/\tn 3 ((a3=true->z0)/\(a3=false->tn 4 (u2/\True/\y2/\tn 6 (((0:Int)<=0/\0<e0)/\True/\(0<=U/\U<g2)/\tn 3 ((b3=true->z0)/\(b3=false->ah c3=c3/\(∃e3:Nat,a1/\c3=(e3:Int)/\e2/\(e3<=d0/\(∀g3:Nat,g3<e3->fA W c0 (W.lines c0 g3)=true))/\d0-e3<d0-o2))))))))))/\(r2=false->true=y0/\True))))
theorem Rk:aL Tryz.prog aO 60 RN:=aW (.cons sX (.cons uz .nil)) false Tryz.call60 Tryz.func60 (λ⟨W,f⟩=> [.inv (Zl W f.toNat)]) (V:=HH) (λ_=>by kernel_rfl) λ⟨W,f⟩ hp=>by
  dsimp only[HG]at hp
  dsimp only[HH,tn,ah,ak,aE,aD,ay]
  obtain⟨hz,hm,f0,f1⟩:=hp
  obtain⟨F,rfl⟩: ∃F:Nat,f=F:=⟨f.toNat,by omega⟩
  simp only[aS,aZ,eq_self,implies_true,Bool.cond_self]
  have mF:=hz.tasks
  have m_:=hz.k1
  have rO:=hz.lines
  have GG:=hz.bits
  have hL:=hm.1 F (by omega)
  rw[show decide ((0:Int)<(W.ao F:Int))=decide (0<W.ao F)from decide_eq_decide.2 (by omega)]
  refine⟨by omega,by omega,λ_=>⟨λ_=>by omega,λ_=>by omega,λh=>rP λht=>?_,λh s hs _=>?_⟩⟩
  · unfold cU at ht
    simp only[Bool.and_eq_true (a:=_) (b:=fe _ _),Bool.not_eq_true',Bool.and_eq_true (a:=!_) (b:=!_),Bool.and_eq_true (a:=!_&&!_) (b:=!_)]at ht
    obtain⟨⟨⟨a,b⟩,c⟩,_⟩:=ht
    rw[a,b,c]at h
    exact Bool.false_ne_true h
  have core:cU W F=fe (W.ao F) λi=>fA W F (W.lines F i):=by
    rw[Bool.or_eq_false_iff,Bool.or_eq_false_iff]at h
    obtain⟨⟨a,b⟩,c⟩:=h
    unfold cU;rw[a,b,c];rfl
  rw[core]
  refine⟨λJ=>?_,λJ=>?_⟩
  · have ai:=aY J
    have hk: ∀t,(cm W t !=6)=false->0<=t/\t<W.az:=λt h=>by
      rw[mF];exact ll (by rw[show cm W t=6 by simpa using h];decide)
    refine⟨by omega,λ_=>by omega,hk _,λU=>?_,λU=>?_⟩
    · refine(j3 (p:=λi=>fA W F (W.lines F i)) ai ?_).symm
      revert U
      show _->fA W F (W.lines F s)=false
      simp only[bne]
      unfold fA
      cases cm W (W.lines F s)==6<;>cases (W.tasks (W.lines F s).toNat).loc==F<;>simp
    · have oe:=U
      rw[Bool.or_eq_false_iff]at oe
      have GH:0<=W.lines F 0/\W.lines F 0<W.az:=by
        rcases Nat.eq_zero_or_pos s with h|h
        · subst h;exact hk _ oe.1
        · have:=hs.2 0 h
          unfold fA at this
          simp only[Bool.and_eq_true,beq_iff_eq]at this
          rw[mF];exact ll (by rw[this.1.1];decide)
      have hk6:(cm W (W.lines F s)==6)=true:=by have:=oe.1;revert this;simp only[bne];cases cm W (W.lines F s)==6<;>simp
      have hl6:((W.tasks (W.lines F s).toNat).loc==F)=true:=by have:=oe.2;revert this;simp only[bne];cases (W.tasks (W.lines F s).toNat).loc==F<;>simp
      have ht:fA W F (W.lines F s)=(oz W (W.lines F s)==oz W (W.lines F 0)):=by unfold fA;rw[hk6,hl6];rfl
      refine⟨by omega,hk _ oe.1,⟨by decide,by omega⟩,GH,λh3=>?_,λh3=>⟨by rw[IntKind.wrap_i64];omega,bZ ⟨⟨by omega,mZ hs.2 ?_⟩,by omega⟩⟩⟩
      · refine(j3 (p:=λi=>fA W F (W.lines F i)) ai ?_).symm
        show fA W F (W.lines F s)=false
        rw[ht]
        exact by simpa [bne]using (show(!(oz W (W.lines F s)==oz W (W.lines F 0)))=true from h3)
      · rw[ht]
        exact by simpa [bne]using (show(!(oz W (W.lines F s)==oz W (W.lines F 0)))=false from h3)
  · have bo:=bD J
    obtain rfl:s=W.ao F:=by omega
    exact(mJ hs.2).symm
structure He where
  (W:Wd) (i:Int)
def Hf:Sy.Spec:=⟨He,λ⟨W,i⟩=> [eY W,.v (.int .i64 i)],λ_=> [],λ⟨W,i⟩=>bW W/\0<=i/\i<W.aq/\fp (W.aa i.toNat),λ⟨W,i⟩=> .v (.bool (cV W i.toNat)),λ_=> [],
  λargs mem=>match args with| [a0,a1]=>some ⟨eP a0,av (a1)⟩|_=>none⟩
def Rl:aQ:=⟨[],(Hf).g,none⟩
def Hg:He->Prop:=λ⟨W,i⟩=>let a0:=W.aq;let b0:Int:=i/16;let c0:=W.ar;let d0:=W.aa (Int.toNat i);let e0:=W.kinds (Int.toNat b0);let g0:=cond (d0==0) true (cond (e0 !=3) (e0 !=4) false);let h0:=cV W (Int.toNat i);let k0:=e0==4;let l0:Int:=d0%1024;let o0:Int:=d0-l0;let q0:=ah o0=o0;let r0:=o0==32768;let u0:=W.aw;let v0:=W.az;let w0:=W.ba;let x0:=W.aP;let y0:=W.aT;let z0:=((((((((((((True/\a0=a0/\(∀a1:Nat,a1<a0->True/\W.aa a1=W.aa a1))/\c0=c0/\(∀b1:Nat,b1<c0->True/\W.kinds b1=W.kinds b1))/\u0=u0/\(∀c1:Nat,c1<u0->aD (W.af c1) (W.af c1)))/\v0=v0/\(∀d1:Nat,d1<v0->aE (W.tasks d1) (W.tasks d1)))/\w0=w0/\(∀e1:Nat,let g1:=W.ao e1;e1<w0->True/\g1=g1/\(∀J:Nat,J<g1->True/\W.lines e1 J=W.lines e1 J)))/\W.aN=W.aN/\(∀k1:Nat,k1<W.aN->True/\W.bits k1=W.bits k1))/\x0=x0/\(∀l1:Nat,l1<x0->True/\W.aF l1=W.aF l1))/\y0=y0/\(∀o1:Nat,let q1:=W.aJ o1;o1<y0->True/\q1=q1/\(∀r1:Nat,r1<q1->True/\W.ready o1 r1=W.ready o1 r1)))/\W.aG=W.aG/\(∀u1:Nat,let v1:=W.aA u1;u1<W.aG->True/\v1=v1/\(∀w1:Nat,w1<v1->ay (W.aj u1 w1) (W.aj u1 w1))))/\W.aI=W.aI/\(∀x1:Nat,x1<W.aI->True/\W.aM x1=W.aM x1))/\W.time=W.time)/\l0=l0/\True)/\True/\True;let y1:=cm W l0;let z1:=cond r0 true (o0==49152);True/\(0<=i/\i<(a0:Int))/\(0<=i/\(0:Int)<16/\ah b0=b0)/\(0<=b0/\b0<(c0:Int))/\(g0=true->true=h0/\True)/\(g0=false->(0<=d0/\(0:Int)<1024)/\(k0=true->q0/\(r0=true->z0)/\cond r0 (y1==3) false=h0/\True)/\(k0=false->q0/\(r0=false->q0)/\(z1=true->z0)/\cond z1 (y1==2) false=h0/\True))
theorem Q1:aL Tryz.prog aO 62 Rl:=aW (.cons uz .nil) false Tryz.call62 Tryz.func62 (λ_=> []) (V:=Hg) (λ_=>by kernel_rfl) λ⟨W,i⟩ hp=>by
  dsimp only[Hf]at hp
  dsimp only[Hg,tn,ah,ak,aE,aD,ay]
  obtain⟨hz,i0,i1,hw⟩:=hp
  obtain⟨I,rfl⟩: ∃I:Nat,i=I:=⟨i.toNat,by omega⟩
  simp only[aS,aZ,eq_self,implies_true,Bool.cond_self]
  have rQ:((I:Int)/16).toNat=I/16:=by omega
  rw[rQ]
  rw[Int.toNat_natCast]at hw
  unfold fp at hw
  have mF:=hz.aa
  have m_:=hz.k1
  refine⟨by omega,⟨by decide,by rw[IntKind.wrap_i64];omega⟩,by omega,λh=>?_,λh=>⟨⟨hw.1,by decide⟩,λJ=>⟨by rw[IntKind.wrap_i64];omega,?_⟩,λJ=>⟨by rw[IntKind.wrap_i64];omega,λ_=>by rw[IntKind.wrap_i64];omega,?_⟩⟩⟩
  · simp only[cV];rw[h];rfl
  · simp only[cV];rw[h,J];rfl
  · simp only[cV];rw[h,J];rfl
structure Il where
  (W:Wd) (n:Nat) (l:Nat->bI)
def Im:Sy.Spec:=⟨Il,λ⟨W,n,l⟩=> [eY W,.sl true 4 n (rF λi=>eG (l i))],λ_=> [],λ⟨W,n,_⟩=>bW W/\n<=1000/\ ∀i,i<W.aq->fp (W.aa i),λ⟨W,n,l⟩=> .v (.bool (cI W n l)),λ_=> [],
  λargs mem=>match args with| [a0,a1]=>some ⟨eP a0,bO a1,λi=>jf (λj=>bF a1 i j)⟩|_=>none⟩
def SE:aQ:=⟨[],(Im).g,none⟩
def Io:Il->Prop:=λ⟨W,n,l⟩=>let a0:=(n:Int);let b0:=decide (4<a0);let c0:=false=cI W n l/\True;let d0:=SV.ptr 0 0 none 0 0=SV.ptr 0 0 none 0 0;let e0:=W.aq;let g0:=e0=e0/\(∀h0:Nat,h0<e0->True/\W.aa h0=W.aa h0);let k0:=W.ar;let l0:=W.aw;let o0:=W.az;let q0:=W.ba;let r0:=W.aP;let u0:=W.aT;let v0:=((((((((((True/\g0)/\k0=k0/\(∀w0:Nat,w0<k0->True/\W.kinds w0=W.kinds w0))/\l0=l0/\(∀x0:Nat,x0<l0->aD (W.af x0) (W.af x0)))/\o0=o0/\(∀y0:Nat,y0<o0->aE (W.tasks y0) (W.tasks y0)))/\q0=q0/\(∀z0:Nat,let a1:=W.ao z0;z0<q0->True/\a1=a1/\(∀b1:Nat,b1<a1->True/\W.lines z0 b1=W.lines z0 b1)))/\W.aN=W.aN/\(∀c1:Nat,c1<W.aN->True/\W.bits c1=W.bits c1))/\r0=r0/\(∀d1:Nat,d1<r0->True/\W.aF d1=W.aF d1))/\u0=u0/\(∀e1:Nat,let g1:=W.aJ e1;e1<u0->True/\g1=g1/\(∀J:Nat,J<g1->True/\W.ready e1 J=W.ready e1 J)))/\W.aG=W.aG/\(∀k1:Nat,let l1:=W.aA k1;k1<W.aG->True/\l1=l1/\(∀o1:Nat,o1<l1->ay (W.aj k1 o1) (W.aj k1 o1))))/\W.aI=W.aI/\(∀q1:Nat,q1<W.aI->True/\W.aM q1=W.aM q1))/\W.time=W.time;let r1:=v0/\True;let u1:=True/\True;let v1:=W.aa;let w1:=SV.ptr (0+1) 0 none 0 0=SV.ptr 1 0 none 0 0;True/\(a0<=9223372036854775807->(b0=true->c0)/\(b0=false->d0/\0=((0:Nat):Int)/\r1/\(0<=n/\(∀x1:Nat,x1<0->eX W l x1=true))/\(∀y1:Nat,let z1:=(y1:Int);let a2:=decide (z1<a0);let b2:=Int.toNat z1;let c2:=l b2;let d2:=c2.sp;let e2:=d2=d2;let g2:=cm W d2 !=4;let U:=c2.pg;let k2:=cond g2 true (aB U 255);let l2:Int:=16*U;let o2:=cond (cond (dN e0 v1 d2 l2 !=0) true (eZ e0 v1 d2 l2 !=c2.fr)) true (e_ e0 v1 d2 l2 !=c2.wr);
    let q2:=v0/\ay c2 c2/\True;let r2:Int:=z1+1;y1<=n/\(∀u2:Nat,u2<y1->eX W l u2=true)->a0<=9223372036854775807->(a2=true->(0<=z1/\z1<a0)/\True/\tn 2 u1/\((v0/\e2/\True)/\u1)/\(g2=false->(U=U/\(255:Int)=255/\True)/\u1)/\(k2=true->c0)/\(k2=false->ah l2=l2/\((g0/\e2/\l2=l2/\True)/\True/\(∀v2:Nat,v2<e0->0<=v1 v2/\v1 v2<=65535))/\(o2=true->c0)/\(o2=false->d0/\w1/\0=((0:Nat):Int)/\q2/\(0<=b2/\(∀w2:Nat,w2<0->((l w2).sp==d2&&(l w2).pg==U)=false))/\(∀x2:Nat,let y2:=(x2:Int);let z2:=decide (y2<z1);let a3:=0<=y2/\y2<a0;let b3:=l (Int.toNat y2);let c3:=b3.sp==d2;let d3:=cond c3 (b3.pg==U) false;let e3:Int:=y2+1;x2<=b2/\(∀g3:Nat,g3<x2->((l g3).sp==d2&&(l g3).pg==U)=false)->(z2=true->tn 2 (a3/\tn 8 ((c3=true->a3)/\tn 4 ((d3=true->c0)/\(d3=false->ah e3=e3/\(∃h3:Nat,d0/\w1/\e3=(h3:Int)/\q2/\(h3<=b2/\(∀k3:Nat,k3<h3->((l k3).sp==d2&&(l k3).pg==U)=false))/\b2-h3<b2-x2))))))/\(z2=false->ah r2=r2/\(∃l3:Nat,d0/\r2=(l3:Int)/\r1/\(l3<=n/\(∀o3:Nat,o3<l3->eX W l o3=true))/\n-l3<n-y1))))))/\(a2=false->true=cI W n l/\True))))
theorem RM:aL Tryz.prog aO 63 SE:=aW (.cons sX (.cons uz (.cons Ii .nil))) false Tryz.call63 Tryz.func63 (λ⟨W,n,l⟩=> [.inv (Xz W n l),.ph false λfr=>Fz (fr 5) (XA l)]) (V:=Io) (λ_=>by kernel_rfl) λ⟨W,n,l⟩ hp=>by
  dsimp only[Im]at hp
  dsimp only[Io,tn,ah,ak,aE,aD,ay]
  obtain⟨hz,hn,hw⟩:=hp
  simp only[aS,aZ,eq_self,implies_true,Bool.cond_self]
  have wr: ∀z:Int,-100000<=z->z<=100000->IntKind.i64.wrap z=z:=λz J U=>by rw[IntKind.wrap_i64];omega
  refineλ_=>⟨λh=>rP λht=>?_,λh s hs _=>?_⟩
  · unfold cI at ht
    simp only[Bool.and_eq_true,decide_eq_true_eq]at ht h
    omega
  have core:cI W n l=fe n λi=>eX W l i:=by
    unfold cI;rw[decide_eq_true (show n<=4 by have:=of_decide_eq_false h;omega)];rfl
  rw[core]
  refine⟨λJ=>?_,λJ=>?_⟩
  · have ai:=aY J
    refine⟨by omega,λU=>?_,λU=>⟨?_,hw,λh3=>?_,λh3 k hk=>⟨λh4=>⟨by have:=aY h4;omega,λ_=>by have:=aY h4;omega,λh5=>?_,λh5=>⟨wr _ (by have:=aY h4;omega) (by have:=aY h4;omega),bZ ⟨⟨by have:=aY h4;omega,dT (p:=λj=>(l j).sp==(l s).sp&&(l j).pg==(l s).pg) hk.2 h5⟩,by have:=aY h4;omega⟩⟩⟩,λh4=>⟨wr _ (by omega) (by omega),bZ ⟨⟨by omega,mZ hs.2 ?_⟩,by omega⟩⟩⟩⟩⟩
    · refine(j3 (p:=λi=>eX W l i) ai ?_).symm
      show eX W l s=false
      revert U;simp only[bne];unfold eX
      cases cm W (l s).sp==4<;>cases aB (l s).pg 255<;>simp
    · have hf:aB (l s).pg 255=false:=by rw[Bool.or_eq_false_iff]at U;exact U.2
      have:0<=(l s).pg/\(l s).pg<=255:=by simp[aB]at hf;omega
      exact wr _ (by omega) (by omega)
    · refine(j3 (p:=λi=>eX W l i) ai ?_).symm
      show eX W l s=false
      revert h3;simp only[bne];unfold eX
      cases dN W.aq W.aa (l s).sp (16*(l s).pg)==0<;>cases eZ W.aq W.aa (l s).sp (16*(l s).pg)==(l s).fr<;>cases e_ W.aq W.aa (l s).sp (16*(l s).pg)==(l s).wr<;>simp
    · refine(j3 (p:=λi=>eX W l i) ai ?_).symm
      show eX W l s=false
      unfold eX
      rw[kE.2 ⟨k,aY h4,h5⟩]
      simp
    · have bo:=bD h4
      obtain rfl:k=s:=by omega
      revert U h3
      simp only[bne];unfold eX
      rw[ld.2 hk.2]
      cases cm W (l k).sp==4<;>cases aB (l k).pg 255<;>cases dN W.aq W.aa (l k).sp (16*(l k).pg)==0<;>cases eZ W.aq W.aa (l k).sp (16*(l k).pg)==(l k).fr<;>cases e_ W.aq W.aa (l k).sp (16*(l k).pg)==(l k).wr<;>simp
  · have bo:=bD J
    obtain rfl:s=n:=by omega
    exact(mJ hs.2).symm
end Go.Proofs.YtmieeldmfehpoaaGreatDoor
set_option linter.unusedVariables false
set_option linter.unusedSimpArgs false
set_option maxRecDepth 100000
namespace Go.Proofs.YtmieeldmfehpoaaGreatDoor
open Go.RowKit Go.Sy
def wE (W:Wd):Int:=(wm W).1
def wA (W:Wd):Int:=(wm W).2
def ml (k n:Nat) (p:Nat->Bool):bS where
  σ:=Nat
  rt:= [(1,0),(2,0)]
  sh i:= [(1,bd 0),(2,bd 1),(k,.v (.int .i64 i))]
  mh _:= []
  inv i:=i<=n/\ ∀j,j<i->p j=false
  μ i:=n -i
  init:=0
def Xx (W:Wd) (i:Int):bS where
  σ:=Nat
  rt:= [(1,0),(2,0)]
  sh k:= [(1,bd 0),(2,bd 1),(14,.v (.int .i64 k))]
  mh _:= []
  inv k:=k<=W.aJ i.toNat/\ ∀j,j<k->dB W (W.ready i.toNat j) (i/4) (i%4)=true
  μ k:=W.aJ i.toNat -k
  init:=0
def EI (k n:Nat) (p:Nat->Bool):bS where
  σ:=Nat
  rt:= [(1,0)]
  sh i:= [(1,bd 0),(k,.v (.int .i64 i))]
  mh _:= []
  inv i:=i<=n/\ ∀j,j<i->p j=false
  μ i:=n -i
  init:=0
structure Sm (W:Wd):Prop where
  aa:W.aq<=1000
  kinds:W.ar<=100
  af:W.aw<=1000
  tasks:W.az<=100
  lines:W.ba<=100
  bits:W.aN<=100
  aF:W.aP<=50
  ready:W.aT<=100
  aj:W.aG<=50
  aM:W.aI<=50
  sm:kv W
theorem rb {a b:Int} {c d:Nat} (h:a=b↔c=d):(a !=b)=(c !=d):=by rw[Bool.eq_iff_iff,bne_iff_ne,bne_iff_ne,ne_eq,ne_eq,h]
theorem Ik (W:Wd):(decide ((W.ar:Int)<1)||decide ((24:Int)<(W.ar:Int))||decide ((W.aP:Int)<1)||decide ((4:Int)<(W.aP:Int))||(W.aq:Int) !=(W.ar:Int)*16||(W.aw:Int) !=(W.ar:Int)*16||(W.az:Int) !=(W.ar:Int)||(W.ba:Int) !=(W.ar:Int)||(W.aN:Int) !=(W.ar:Int)||(W.aT:Int) !=(W.aP:Int)*4||(W.aG:Int) !=(W.aP:Int)||decide ((W.aI:Int)<1)||decide ((8:Int)<(W.aI:Int))||aB W.time 1000000)=pf W:=by
  unfold pf
  rw[show decide ((W.ar:Int)<1)=decide (W.ar<1)from decide_eq_decide.2 (by omega),show decide ((24:Int)<(W.ar:Int))=decide (24<W.ar)from decide_eq_decide.2 (by omega),show decide ((W.aP:Int)<1)=decide (W.aP<1)from decide_eq_decide.2 (by omega),show decide ((4:Int)<(W.aP:Int))=decide (4<W.aP)from decide_eq_decide.2 (by omega),show decide ((W.aI:Int)<1)=decide (W.aI<1)from decide_eq_decide.2 (by omega),show decide ((8:Int)<(W.aI:Int))=decide (8<W.aI)from decide_eq_decide.2 (by omega),
   rb (a:=W.aq) (c:=W.aq) (d:=W.ar*16) (by omega),rb (a:=W.aw) (c:=W.aw) (d:=W.ar*16) (by omega),rb (a:=W.az) (c:=W.az) (d:=W.ar) (by omega),rb (a:=W.ba) (c:=W.ba) (d:=W.ar) (by omega),rb (a:=W.aN) (c:=W.aN) (d:=W.ar) (by omega),rb (a:=W.aT) (c:=W.aT) (d:=W.aP*4) (by omega),rb (a:=W.aG) (c:=W.aG) (d:=W.aP) (by omega)]
theorem K7 (W:Wd) (s:Nat):(W.aF s != -1&&!dB W (W.aF s) s (-1))=!dg W s:=by unfold dg;simp only[bne,Bool.not_or]
def jI (W:Wd):Bool:=decide (1000<W.aq)||decide (100<W.ar)||decide (1000<W.aw)||decide (100<W.az)||decide (100<W.ba)||decide (100<W.aN)||decide (50<W.aP)||decide (100<W.aT)||decide (50<W.aG)||decide (50<W.aI)||dp W.ba (λi=>decide (50<W.ao i))||dp W.aT (λi=>decide (50<W.aJ i))||dp W.aG (λi=>decide (50<W.aA i))
theorem OV {W:Wd} (h:jI W=false):Sm W:=by
  unfold jI at h
  simp only[Bool.or_eq_false_iff,decide_eq_false_iff_not,Nat.not_lt,ld]at h
  obtain⟨⟨⟨⟨⟨⟨⟨⟨⟨⟨⟨⟨J,U⟩,h3⟩,h4⟩,h5⟩,h6⟩,h7⟩,h8⟩,h9⟩,dU⟩,fm⟩,iK⟩,jq⟩:=h
  exact⟨J,U,h3,h4,h5,h6,h7,h8,h9,dU,fm,iK,jq⟩
structure Hb where
  (W:Wd)
def Rf:Sy.Spec:=⟨Hb,λ⟨W⟩=> [eY W],λ_=> [],λ_=>True,λ⟨W⟩=> .v (.bool (jI W)),λ_=> [],
  λargs mem=>match args with| [a0]=>some ⟨eP a0⟩|_=>none⟩
def Rg:aQ:=⟨[],(Rf).g,none⟩
def Hc:Hb->Prop:=λ⟨W⟩=>let a0:=W.aq;let b0:=W.ar;let c0:=W.aw;let d0:=W.az;let e0:=W.ba;let g0:=(e0:Int);let h0:=W.aN;let k0:=W.aP;let l0:=W.aT;let o0:=(l0:Int);let q0:=W.aG;let r0:=(q0:Int);let u0:=W.aI;let v0:=cond (cond (cond (cond (cond (cond (cond (cond (cond (decide (1000<(a0:Int))) true (decide (100<(b0:Int)))) true (decide (1000<(c0:Int)))) true (decide (100<(d0:Int)))) true (decide (100<g0))) true (decide (100<(h0:Int)))) true (decide (50<(k0:Int)))) true (decide (100<o0))) true (decide (50<r0))) true (decide (50<(u0:Int)));let w0:=true=jI W/\True;let x0:=SV.ptr 0 0 none 0 0=SV.ptr 0 0 none 0 0;let y0:=0=((0:Nat):Int);let z0:=(((((((((((True/\a0=a0/\(∀a1:Nat,a1<a0->True/\W.aa a1=W.aa a1))/\b0=b0/\(∀b1:Nat,b1<b0->True/\W.kinds b1=W.kinds b1))/\c0=c0/\(∀c1:Nat,c1<c0->aD (W.af c1) (W.af c1)))/\d0=d0/\(∀d1:Nat,d1<d0->aE (W.tasks d1) (W.tasks d1)))/\e0=e0/\(∀e1:Nat,let g1:=W.ao e1;e1<e0->True/\g1=g1/\(∀J:Nat,J<g1->True/\W.lines e1 J=W.lines e1 J)))/\h0=h0/\(∀k1:Nat,k1<h0->True/\W.bits k1=W.bits k1))/\k0=k0/\(∀l1:Nat,l1<k0->True/\W.aF l1=W.aF l1))/\l0=l0/\(∀o1:Nat,let q1:=W.aJ o1;o1<l0->True/\q1=q1/\(∀r1:Nat,r1<q1->True/\W.ready o1 r1=W.ready o1 r1)))/\q0=q0/\(∀u1:Nat,let v1:=W.aA u1;u1<q0->True/\v1=v1/\(∀w1:Nat,w1<v1->ay (W.aj u1 w1) (W.aj u1 w1))))/\u0=u0/\(∀x1:Nat,x1<u0->True/\W.aM x1=W.aM x1))/\W.time=W.time)/\True;True/\((a0:Int)<=9223372036854775807->(v0=true->w0)/\(v0=false->x0/\y0/\z0/\(0<=e0/\(∀y1:Nat,y1<0->decide (50<W.ao y1)=false))/\(∀z1:Nat,let a2:=(z1:Int);
    let b2:=decide (a2<g0);let c2:=((W.ao (Int.toNat a2):Nat):Int);let d2:=decide (50<c2);let e2:Int:=a2+1;z1<=e0/\(∀g2:Nat,g2<z1->decide (50<W.ao g2)=false)->g0<=9223372036854775807->(b2=true->(0<=a2/\a2<g0)/\(c2<=9223372036854775807->(d2=true->w0)/\(d2=false->ah e2=e2/\(∃U:Nat,x0/\e2=(U:Int)/\z0/\(U<=e0/\(∀k2:Nat,k2<U->decide (50<W.ao k2)=false))/\e0-U<e0-z1))))/\(b2=false->x0/\y0/\z0/\(0<=l0/\(∀l2:Nat,l2<0->decide (50<W.aJ l2)=false))/\(∀o2:Nat,let q2:=(o2:Int);let r2:=decide (q2<o0);let u2:=((W.aJ (Int.toNat q2):Nat):Int);let v2:=decide (50<u2);let w2:Int:=q2+1;o2<=l0/\(∀x2:Nat,x2<o2->decide (50<W.aJ x2)=false)->o0<=9223372036854775807->(r2=true->(0<=q2/\q2<o0)/\(u2<=9223372036854775807->(v2=true->w0)/\(v2=false->ah w2=w2/\(∃y2:Nat,x0/\w2=(y2:Int)/\z0/\(y2<=l0/\(∀z2:Nat,z2<y2->decide (50<W.aJ z2)=false))/\l0-y2<l0-o2))))/\(r2=false->x0/\y0/\z0/\(0<=q0/\(∀a3:Nat,a3<0->decide (50<W.aA a3)=false))/\(∀b3:Nat,let c3:=(b3:Int);let d3:=decide (c3<r0);let e3:=((W.aA (Int.toNat c3):Nat):Int);let g3:=decide (50<e3);let h3:Int:=c3+1;b3<=q0/\(∀k3:Nat,k3<b3->decide (50<W.aA k3)=false)->r0<=9223372036854775807->(d3=true->(0<=c3/\c3<r0)/\(e3<=9223372036854775807->(g3=true->w0)/\(g3=false->ah h3=h3/\(∃l3:Nat,x0/\h3=(l3:Int)/\z0/\(l3<=q0/\(∀o3:Nat,o3<l3->decide (50<W.aA o3)=false))/\q0-l3<q0-b3))))/\(d3=false->false=jI W/\True))))))))
theorem G0:aL Tryz.prog aO 4 Rg:=aW .nil false Tryz.call4 Tryz.func4 (λ⟨W⟩=> [.inv (EI 3 W.ba λi=>decide (50<W.ao i)),.inv (EI 4 W.aT λi=>decide (50<W.aJ i)),.inv (EI 5 W.aG λi=>decide (50<W.aA i))]) (V:=Hc) (λ_=>by kernel_rfl) λ⟨W⟩ hp=>by
  dsimp only[Hc,tn,ah,ak,aE,aD,ay]
  simp only[aS,aZ,eq_self,implies_true,Bool.cond_self]
  have cg: ∀(a b:Nat),decide ((a:Int)<(b:Int))=decide (a<b):=λa b=>decide_eq_decide.2 (by omega)
  intro _
  rw[show(decide ((1000:Int)<W.aq))=decide (1000<W.aq)from cg _ _,show(decide ((100:Int)<W.ar))=decide (100<W.ar)from cg _ _,show(decide ((1000:Int)<W.aw))=decide (1000<W.aw)from cg _ _,show(decide ((100:Int)<W.az))=decide (100<W.az)from cg _ _,show(decide ((100:Int)<W.ba))=decide (100<W.ba)from cg _ _,show(decide ((100:Int)<W.aN))=decide (100<W.aN)from cg _ _,show(decide ((50:Int)<W.aP))=decide (50<W.aP)from cg _ _,show(decide ((100:Int)<W.aT))=decide (100<W.aT)from cg _ _,show(decide ((50:Int)<W.aG))=decide (50<W.aG)from cg _ _,show(decide ((50:Int)<W.aI))=decide (50<W.aI)from cg _ _]
  refine⟨λh=>by unfold jI;rw[h];rfl,λh0 s hs _=>⟨λJ=>?_,λJ s2 eo _=>⟨λU=>?_,λU s3 xc _=>⟨λh3=>?_,λh3=>?_⟩⟩⟩⟩
  · have ai:=aY J
    refine⟨by omega,λ_=>⟨λh=>?_,λh=>⟨by rw[IntKind.wrap_i64];omega,bZ ⟨⟨by omega,dT (p:=λi=>decide (50<W.ao i)) hs.2 (by rw[<-h];exact(cg _ _).symm)⟩,by omega⟩⟩⟩⟩
    unfold jI;rw[h0,kE.2 ⟨s,ai,(cg _ _).symm.trans h⟩];rfl
  · have ai:=aY U
    refine⟨by omega,λ_=>⟨λh=>?_,λh=>⟨by rw[IntKind.wrap_i64];omega,bZ ⟨⟨by omega,dT (p:=λi=>decide (50<W.aJ i)) eo.2 (by rw[<-h];exact(cg _ _).symm)⟩,by omega⟩⟩⟩⟩
    unfold jI;rw[h0,kE.2 ⟨s2,ai,(cg _ _).symm.trans h⟩]
    cases dp W.ba λi=>decide (50<W.ao i)<;>rfl
  · have ai:=aY h3
    refine⟨by omega,λ_=>⟨λh=>?_,λh=>⟨by rw[IntKind.wrap_i64];omega,bZ ⟨⟨by omega,dT (p:=λi=>decide (50<W.aA i)) xc.2 (by rw[<-h];exact(cg _ _).symm)⟩,by omega⟩⟩⟩⟩
    unfold jI;rw[h0,kE.2 ⟨s3,ai,(cg _ _).symm.trans h⟩]
    cases dp W.ba λi=>decide (50<W.ao i)<;>cases dp W.aT λi=>decide (50<W.aJ i)<;>rfl
  · have g1:=bD J
    have g2:=bD U
    have g3:=bD h3
    unfold jI
    rw[h0,ld.2 (λi hi=>hs.2 i (by omega)),ld.2 (λi hi=>eo.2 i (by omega)),ld.2 (λi hi=>xc.2 i (by omega))];rfl
structure xy where
  (W:Wd)
def BB:Sy.Spec:=⟨xy,λ⟨W⟩=> [eY W],λ_=> [],λ⟨W⟩=>Sm W,λ⟨W⟩=> .ag 2 (aH [.v (.int .i64 (wE W)),.v (.int .i64 (wA W))]),λ_=> [],
  λargs mem=>match args with| [a0]=>some ⟨eP a0⟩|_=>none⟩
def RK:aQ:=⟨[],(BB).g,none⟩
def HE:xy->Prop:=λ⟨W⟩=>let a0:=W.ar;let b0:=(a0:Int);let c0:=W.aP;let d0:=(c0:Int);let e0:=cond (cond (cond (decide (b0<1)) true (decide (24<b0))) true (decide (d0<1))) true (decide (4<d0));let g0:Int:=b0*16;let h0:=ah g0=g0;let k0:=W.aq;let l0:=(k0:Int);let o0:=cond e0 true (l0 !=g0);let q0:=W.aw;let r0:=(q0:Int);let u0:=W.az;let v0:=W.ba;let w0:=W.aN;let x0:=cond (cond (cond (cond o0 true (r0 !=g0)) true ((u0:Int) !=b0)) true ((v0:Int) !=b0)) true ((w0:Int) !=b0);let y0:Int:=d0*4;let z0:=W.aT;let a1:=(z0:Int);let b1:=W.aG;let c1:=W.aI;let d1:=(c1:Int);let e1:=cond (cond (cond (cond x0 true (a1 !=y0)) true ((b1:Int) !=d0)) true (decide (d1<1))) true (decide (8<d1));let g1:=W.time=W.time;let J:=True/\True;let k1:=cond e1 true (aB W.time 1000000);let l1:=True/\2=wE W;let o1:=wA W;let q1:=SV.ptr 0 0 none 0 0=SV.ptr 0 0 none 0 0;let r1:=SV.ptr (0+1) 0 none 0 0=SV.ptr 1 0 none 0 0;let u1:=0=((0:Nat):Int);
    let v1:=((((((((((True/\k0=k0/\(∀w1:Nat,w1<k0->True/\W.aa w1=W.aa w1))/\a0=a0/\(∀x1:Nat,x1<a0->True/\W.kinds x1=W.kinds x1))/\q0=q0/\(∀y1:Nat,y1<q0->aD (W.af y1) (W.af y1)))/\u0=u0/\(∀z1:Nat,z1<u0->aE (W.tasks z1) (W.tasks z1)))/\v0=v0/\(∀a2:Nat,let b2:=W.ao a2;a2<v0->True/\b2=b2/\(∀c2:Nat,c2<b2->True/\W.lines a2 c2=W.lines a2 c2)))/\w0=w0/\(∀d2:Nat,d2<w0->True/\W.bits d2=W.bits d2))/\c0=c0/\(∀e2:Nat,e2<c0->True/\W.aF e2=W.aF e2))/\z0=z0/\(∀g2:Nat,let U:=W.aJ g2;g2<z0->True/\U=U/\(∀k2:Nat,k2<U->True/\W.ready g2 k2=W.ready g2 k2)))/\b1=b1/\(∀l2:Nat,let o2:=W.aA l2;l2<b1->True/\o2=o2/\(∀q2:Nat,q2<o2->ay (W.aj l2 q2) (W.aj l2 q2))))/\c1=c1/\(∀r2:Nat,r2<c1->True/\W.aM r2=W.aM r2))/\g1;let u2:=v1/\((True/\(0:Int)=0)/\(0:Int)=0)/\True;let v2:=l0<=9223372036854775807;let w2:=0<=a0;let x2:=bW W;let y2:=True/\8=wE W;let z2:=(∀a3:Nat,a3<v0->W.ao a3<=50)/\(∀b3:Nat,b3<z0->W.aJ b3<=50)/\(∀c3:Nat,c3<b1->W.aA c3<=50);let d3:=True/\9=wE W;tn 2 (b0<=9223372036854775807->d0<=9223372036854775807->(e0=false->h0)/\(o0=false->h0)/\(x0=false->ah y0=y0)/\(e1=false->(g1/\(1000000:Int)=1000000/\True)/\J)/\(k1=true->(((2:Int)=2/\True)/\J)/\J/\(l1/\(-1)=o1)/\True)/\(k1=false->q1/\r1/\u1/\u2/\(0<=k0/\(∀e3:Nat,e3<0->aB (W.aa e3) 65535=false))/\(∀g3:Nat,let h3:=(g3:Int);let k3:=decide (h3<l0);let l3:=W.aa (Int.toNat h3);let o3:=aB l3 65535;let q3:Int:=h3+1;g3<=k0/\(∀r3:Nat,r3<g3->aB (W.aa r3) 65535=false)->v2->(k3=true->(0<=h3/\h3<l0)/\((l3=l3/\(65535:Int)=65535/\True)/\J)/\(o3=true->J/\((True/\1=wE W)/\h3=o1)/\True)/\(o3=false->ah q3=q3/\(∃u3:Nat,
    q1/\r1/\q3=(u3:Int)/\u2/\(u3<=k0/\(∀v3:Nat,v3<u3->aB (W.aa v3) 65535=false))/\k0-u3<k0-g3)))/\(k3=false->q1/\r1/\u1/\u2/\(w2/\(∀w3:Nat,w3<0->(aB (W.kinds w3) 8||W.kinds w3==1)=false))/\(∀x3:Nat,let y3:=(x3:Int);let z3:=decide (y3<b0);let a4:=0<=y3/\y3<b0;let b4:=W.kinds (Int.toNat y3);let c4:=aB b4 8;let d4:=cond c4 true (b4==1);let e4:Int:=y3+1;x3<=a0/\(∀g4:Nat,g4<x3->(aB (W.kinds g4) 8||W.kinds g4==1)=false)->(z3=true->a4/\((b4=b4/\(8:Int)=8/\True)/\J)/\(c4=false->a4)/\(d4=true->J/\((True/\3=wE W)/\y3=o1)/\True)/\(d4=false->ah e4=e4/\(∃h4:Nat,q1/\r1/\e4=(h4:Int)/\u2/\(h4<=a0/\(∀k4:Nat,k4<h4->(aB (W.kinds k4) 8||W.kinds k4==1)=false))/\a0-h4<a0-x3)))/\(z3=false->q1/\r1/\u1/\u2/\(0<=c1/\(∀l4:Nat,l4<0->aB (W.aM l4) 3=false))/\(∀o4:Nat,let q4:=(o4:Int);let r4:=decide (q4<d1);let u4:=W.aM (Int.toNat q4);let v4:=aB u4 3;let w4:Int:=q4+1;o4<=c1/\(∀x4:Nat,x4<o4->aB (W.aM x4) 3=false)->d1<=9223372036854775807->(r4=true->(0<=q4/\q4<d1)/\((u4=u4/\(3:Int)=3/\True)/\J)/\(v4=true->J/\(l1/\q4=o1)/\True)/\(v4=false->ah w4=w4/\(∃y4:Nat,q1/\r1/\w4=(y4:Int)/\u2/\(y4<=c1/\(∀z4:Nat,z4<y4->aB (W.aM z4) 3=false))/\c1-y4<c1-o4)))/\(r4=false->q1/\r1/\u1/\u2/\(0<=q0/\(∀a5:Nat,a5<0->(!cT W a5)=false))/\(∀b5:Nat,let c5:=(b5:Int);let d5:=decide (c5<r0);let e5:=!cT W (Int.toNat c5);let g5:Int:=c5+1;b5<=q0/\(∀h5:Nat,h5<b5->(!cT W h5)=false)->r0<=9223372036854775807->(d5=true->((v1/\c5=c5/\True)/\True/\x2/\0<=c5/\c5<r0)/\(e5=true->J/\(y2/\c5=o1)/\True)/\(e5=false->ah g5=g5/\(∃k5:Nat,q1/\r1/\g5=(k5:Int)/\u2/\(k5<=q0/\(∀l5:Nat,l5<k5->(!cT W l5)=false))/\q0-k5<q0-b5)))/\(d5=false->q1/\r1/\u1/\
    u2/\(w2/\(∀o5:Nat,o5<0->(!iL W o5)=false))/\(∀q5:Nat,let r5:=(q5:Int);let u5:=decide (r5<b0);let v5:=!iL W (Int.toNat r5);let w5:Int:=r5+1;q5<=a0/\(∀x5:Nat,x5<q5->(!iL W x5)=false)->(u5=true->((v1/\r5=r5/\True)/\True/\x2/\0<=r5/\r5<b0/\(∀y5:Nat,y5<q0->cT W y5=true))/\(v5=true->J/\(y2/\r5=o1)/\True)/\(v5=false->ah w5=w5/\(∃z5:Nat,q1/\r1/\w5=(z5:Int)/\u2/\(z5<=a0/\(∀a6:Nat,a6<z5->(!iL W a6)=false))/\a0-z5<a0-q5)))/\(u5=false->q1/\r1/\u1/\u2/\(w2/\(∀b6:Nat,b6<0->(!cS W b6)=false))/\(∀c6:Nat,let d6:=(c6:Int);let e6:=decide (d6<b0);let g6:=!cS W (Int.toNat d6);let h6:Int:=d6+1;c6<=a0/\(∀k6:Nat,k6<c6->(!cS W k6)=false)->(e6=true->((v1/\d6=d6/\True)/\True/\x2/\z2/\0<=d6/\d6<b0)/\(g6=true->J/\(y2/\d6=o1)/\True)/\(g6=false->ah h6=h6/\(∃l6:Nat,q1/\r1/\h6=(l6:Int)/\u2/\(l6<=a0/\(∀o6:Nat,o6<l6->(!cS W o6)=false))/\a0-l6<a0-c6)))/\(e6=false->q1/\r1/\u1/\u2/\(w2/\(∀q6:Nat,q6<0->(!cU W q6)=false))/\(∀r6:Nat,let u6:=(r6:Int);let v6:=decide (u6<b0);let w6:=!cU W (Int.toNat u6);let x6:Int:=u6+1;r6<=a0/\(∀y6:Nat,y6<r6->(!cU W y6)=false)->(v6=true->((v1/\u6=u6/\True)/\True/\x2/\z2/\0<=u6/\u6<b0)/\(w6=true->J/\(y2/\u6=o1)/\True)/\(w6=false->ah x6=x6/\(∃z6:Nat,q1/\r1/\x6=(z6:Int)/\u2/\(z6<=a0/\(∀a7:Nat,a7<z6->(!cU W a7)=false))/\a0-z6<a0-r6)))/\(v6=false->q1/\r1/\u1/\u2/\(0<=c0/\(∀b7:Nat,b7<0->(!dg W b7)=false))/\(∀c7:Nat,let d7:=(c7:Int);let e7:=decide (d7<d0);let g7:=0<=d7/\d7<d0;let h7:=W.aF (Int.toNat d7);let k7:=h7 !=(-1);let l7:=k7=true;let o7:=cond k7 (!dB W h7 d7 (-1)) false;let q7:Int:=d7+1;c7<=c0/\(∀r7:Nat,r7<c7->(!dg W r7)=false)->(e7=true->tn 3 (g7/\tn 7 ((l7->g7)/\tn 2 ((l7->(v1/\
    h7=h7/\d7=d7/\((-1):Int)=(-1)/\True)/\True/\xL.match_1 (λu7:si=>Prop) (si.mk W h7 d7 (-1)) (λv7:Wd=>λw7:Int=>λx7:Int=>λy7:Int=>bW v7))/\(o7=true->J/\(y2/\d7=o1)/\True)/\(o7=false->ah q7=q7/\(∃z7:Nat,q1/\r1/\q7=(z7:Int)/\u2/\(z7<=c0/\(∀a8:Nat,a8<z7->(!dg W a8)=false))/\c0-z7<c0-c7))))))/\(e7=false->q1/\r1/\u1/\u2/\(0<=z0/\(∀b8:Nat,b8<0->(!dC W b8)=false))/\(∀c8:Nat,let d8:=(c8:Int);let e8:=decide (d8<a1);let g8:=Int.toNat d8;let h8:=W.aJ g8;let k8:Int:=d8/4;let l8:Int:=d8%4;let o8:=0<=d8;let q8:=o8/\d8<a1;let r8:=(h8:Int);let u8:Int:=d8+1;c8<=z0/\(∀v8:Nat,v8<c8->(!dC W v8)=false)->a1<=9223372036854775807->(e8=true->q1/\r1/\u1/\u2/\(0<=h8/\(∀w8:Nat,w8<0->dB W (W.ready g8 w8) k8 l8=true))/\(∀x8:Nat,let y8:=(x8:Int);let z8:=decide (y8<r8);let a9:=W.ready g8 (Int.toNat y8);let b9:=!dB W a9 k8 l8;let c9:Int:=y8+1;x8<=h8/\(∀d9:Nat,d9<x8->dB W (W.ready g8 d9) k8 l8=true)->q8/\(r8<=9223372036854775807->(z8=true->tn 4 (q8/\tn 2 ((0<=y8/\y8<r8)/\tn 2 ((o8/\(0:Int)<4/\ah k8=k8)/\True/\(o8/\(0:Int)<4)/\((v1/\a9=a9/\k8=k8/\l8=l8/\True)/\True/\xL.match_1 (λe9:si=>Prop) (si.mk W a9 k8 l8) (λg9:Wd=>λh9:Int=>λk9:Int=>λl9:Int=>bW g9))/\(b9=true->J/\(y2/\d8=o1)/\True)/\(b9=false->ah c9=c9/\(∃o9:Nat,q1/\r1/\c9=(o9:Int)/\u2/\(o9<=h8/\(∀q9:Nat,q9<o9->dB W (W.ready g8 q9) k8 l8=true))/\h8-o9<h8-x8))))))/\(z8=false->ah u8=u8/\(∃r9:Nat,q1/\r1/\u8=(r9:Int)/\u2/\(r9<=z0/\(∀u9:Nat,u9<r9->(!dC W u9)=false))/\z0-r9<z0-c8)))))/\(e8=false->q1/\r1/\u1/\u2/\(0<=k0/\(∀v9:Nat,v9<0->(!cV W v9)=false))/\(∀w9:Nat,
    let x9:=(w9:Int);let y9:=decide (x9<l0);let z9:=W.aa (Int.toNat x9);let ox:=!cV W (Int.toNat x9);let tW:Int:=x9+1;w9<=k0/\(∀tX:Nat,tX<w9->(!cV W tX)=false)->v2->(y9=true->((v1/\x9=x9/\True)/\True/\x2/\0<=x9/\x9<l0/\0<=z9/\z9<=65535)/\(ox=true->J/\(d3/\x9=o1)/\True)/\(ox=false->ah tW=tW/\(∃d10:Nat,q1/\r1/\tW=(d10:Int)/\u2/\(d10<=k0/\(∀lI:Nat,lI<d10->(!cV W lI)=false))/\k0-d10<k0-w9)))/\(y9=false->q1/\r1/\u1/\u2/\(0<=c0/\(∀g10:Nat,g10<0->(!cI W (W.aA g10) (W.aj g10))=false))/\(∀dU:Nat,let oy:=(dU:Int);let QD:=decide (oy<d0);let A_:=Int.toNat oy;let xd:=W.aA A_;let QE:=!cI W xd (W.aj A_);let GB:Int:=oy+1;dU<=c0/\(∀v10:Nat,v10<dU->(!cI W (W.aA v10) (W.aj v10))=false)->(QD=true->tn 4 ((0<=oy/\oy<(b1:Int))/\True/\((v1/\(xd=xd/\(∀GC:Nat,GC<xd->ay (W.aj A_ GC) (W.aj A_ GC)))/\True)/\True/\x2/\xd<=1000/\(∀GD:Nat,GD<k0->0<=W.aa GD/\W.aa GD<=65535))/\(QE=true->J/\(d3/\oy=o1)/\True)/\(QE=false->ah GB=GB/\(∃A':Nat,q1/\r1/\GB=(A':Int)/\u2/\(A'<=c0/\(∀GF:Nat,GF<A'->(!cI W (W.aA GF) (W.aj GF))=false))/\c0-A'<c0-dU))))/\(QD=false->(True/\J)/\J/\((True/\0=wE W)/\(-1)=o1)/\True))))))))))))))))))))))))
set_option maxHeartbeats 4000000 in
theorem Rh:aL Tryz.prog aO 34 RK:=aW (.cons vk (.cons sX (.cons Ri (.cons Q0 (.cons Rj (.cons Rk (.cons RL (.cons Q1 (.cons RM (.cons VU .nil)))))))))) false Tryz.call34 Tryz.func34 (λ⟨W⟩=> [.inv (ml 5 W.aq λi=>aB (W.aa i) 65535),.inv (ml 6 W.ar λi=>aB (W.kinds i) 8||W.kinds i==1),.inv (ml 7 W.aI λi=>aB (W.aM i) 3),.inv (ml 8 W.aw λi=>!cT W i),.inv (ml 9 W.ar λi=>!iL W i),.inv (ml 10 W.ar λi=>!cS W i),.inv (ml 11 W.ar λi=>!cU W i),.inv (ml 12 W.aP λi=>!dg W i),.inv (ml 13 W.aT λi=>!dC W i),.ph false λfr=>Fz (fr 13) (Xx W),.inv (ml 15 W.aq λi=>!cV W i),.inv (ml 16 W.aP λi=>!cI W (W.aA i) (W.aj i))]) (V:=HE) (λ_=>by kernel_rfl) λ⟨W⟩ hp=>by
  dsimp only[BB]at hp
  dsimp only[HE,tn,ah,ak,aE,aD,ay]
  simp only[aS,aZ,eq_self,implies_true,Bool.cond_self]
  have wr: ∀z:Int,-100000<=z->z<=100000->IntKind.i64.wrap z=z:=λz J U=>by rw[IntKind.wrap_i64];omega
  have b1:=hp.aa
  have b2:=hp.kinds
  have b3:=hp.af
  have b4:=hp.aF
  have b5:=hp.ready
  have b6:=hp.aM
  unfold wE wA
  refineλ_ _=>⟨λ_=>wr _ (by omega) (by omega),λ_=>wr _ (by omega) (by omega),λ_=>wr _ (by omega) (by omega),?_⟩
  rw[Ik]
  refine⟨λh=>by rw[show wm W=(2,-1) by unfold wm;rw[h];rfl];exact⟨rfl,rfl⟩,λh=>?_⟩
  have hz:=D2 h
  have X0:wm W=bB W.aq (λi=>aB (W.aa i) 65535) 1 (bB W.ar (λi=>aB (W.kinds i) 8||W.kinds i==1) 3 (bB W.aI (λi=>aB (W.aM i) 3) 2 (bB W.aw (λi=>!cT W i) 8 (bB W.ar (λi=>!iL W i) 8 (bB W.ar (λi=>!cS W i) 8 (bB W.ar (λi=>!cU W i) 8 (bB W.aP (λi=>!dg W i) 8 (bB W.aT (λi=>!dC W i) 8 (bB W.aq (λi=>!cV W i) 9 (bB W.aP (λi=>!cI W (W.aA i) (W.aj i)) 9 ((0,-1)))))))))))):=by unfold wm;rw[h];rfl
  clear h
  have z1:=hz.aa
  have z2:=hz.af
  have z3:=hz.aj
  have z4:=hz.ready
  intro s hs _
  refine⟨λJ=>?_,λJ=>?_⟩
  · have ai:=aY J
    refine⟨by omega,λU=>?_,λU=>⟨wr _ (by omega) (by omega),bZ ⟨⟨by omega,dT (p:=λi=>aB (W.aa i) 65535) hs.2 U⟩,by omega⟩⟩⟩
    rw[X0,fy (p:=λi=>aB (W.aa i) 65535) hs.2 U ai];exact⟨rfl,rfl⟩
  have bo:=bD J
  have hq: ∀j,j<W.aq->(λi=>aB (W.aa i) 65535) j=false:=λj hj=>hs.2 j (by omega)
  have X1:wm W=bB W.ar (λi=>aB (W.kinds i) 8||W.kinds i==1) 3 (bB W.aI (λi=>aB (W.aM i) 3) 2 (bB W.aw (λi=>!cT W i) 8 (bB W.ar (λi=>!iL W i) 8 (bB W.ar (λi=>!cS W i) 8 (bB W.ar (λi=>!cU W i) 8 (bB W.aP (λi=>!dg W i) 8 (bB W.aT (λi=>!dC W i) 8 (bB W.aq (λi=>!cV W i) 9 (bB W.aP (λi=>!cI W (W.aA i) (W.aj i)) 9 ((0,-1))))))))))):=by rw[X0,dD hq]
  have PU: ∀i,i<W.aq->fp (W.aa i):=λi hi=>by have:=hq i hi;simp[aB]at this;exact⟨by omega,by omega⟩
  clear bo hs J hq
  intro s hs
  refine⟨λJ=>?_,λJ=>?_⟩
  · have ai:=aY J
    refine⟨by omega,λ_=>by omega,λU=>?_,λU=>⟨wr _ (by omega) (by omega),bZ ⟨⟨by omega,dT (p:=λi=>aB (W.kinds i) 8||W.kinds i==1) hs.2 U⟩,by omega⟩⟩⟩
    rw[X1,fy (p:=λi=>aB (W.kinds i) 8||W.kinds i==1) hs.2 U ai];exact⟨rfl,rfl⟩
  have bo:=bD J
  have hq: ∀j,j<W.ar->(λi=>aB (W.kinds i) 8||W.kinds i==1) j=false:=λj hj=>hs.2 j (by omega)
  have X2:wm W=bB W.aI (λi=>aB (W.aM i) 3) 2 (bB W.aw (λi=>!cT W i) 8 (bB W.ar (λi=>!iL W i) 8 (bB W.ar (λi=>!cS W i) 8 (bB W.ar (λi=>!cU W i) 8 (bB W.aP (λi=>!dg W i) 8 (bB W.aT (λi=>!dC W i) 8 (bB W.aq (λi=>!cV W i) 9 (bB W.aP (λi=>!cI W (W.aA i) (W.aj i)) 9 ((0,-1)))))))))):=by rw[X1,dD hq]
  clear bo hs J hq
  intro s hs _
  refine⟨λJ=>?_,λJ=>?_⟩
  · have ai:=aY J
    refine⟨by omega,λU=>?_,λU=>⟨wr _ (by omega) (by omega),bZ ⟨⟨by omega,dT (p:=λi=>aB (W.aM i) 3) hs.2 U⟩,by omega⟩⟩⟩
    rw[X2,fy (p:=λi=>aB (W.aM i) 3) hs.2 U ai];exact⟨rfl,rfl⟩
  have bo:=bD J
  have hq: ∀j,j<W.aI->(λi=>aB (W.aM i) 3) j=false:=λj hj=>hs.2 j (by omega)
  have X3:wm W=bB W.aw (λi=>!cT W i) 8 (bB W.ar (λi=>!iL W i) 8 (bB W.ar (λi=>!cS W i) 8 (bB W.ar (λi=>!cU W i) 8 (bB W.aP (λi=>!dg W i) 8 (bB W.aT (λi=>!dC W i) 8 (bB W.aq (λi=>!cV W i) 9 (bB W.aP (λi=>!cI W (W.aA i) (W.aj i)) 9 ((0,-1))))))))):=by rw[X2,dD hq]
  clear bo hs J hq
  intro s hs _
  refine⟨λJ=>?_,λJ=>?_⟩
  · have ai:=aY J
    refine⟨⟨hz,by omega⟩,λU=>?_,λU=>⟨wr _ (by omega) (by omega),bZ ⟨⟨by omega,dT (p:=λi=>!cT W i) hs.2 U⟩,by omega⟩⟩⟩
    rw[X3,fy (p:=λi=>!cT W i) hs.2 U ai];exact⟨rfl,rfl⟩
  have bo:=bD J
  have hq: ∀j,j<W.aw->(λi=>!cT W i) j=false:=λj hj=>hs.2 j (by omega)
  have X4:wm W=bB W.ar (λi=>!iL W i) 8 (bB W.ar (λi=>!cS W i) 8 (bB W.ar (λi=>!cU W i) 8 (bB W.aP (λi=>!dg W i) 8 (bB W.aT (λi=>!dC W i) 8 (bB W.aq (λi=>!cV W i) 9 (bB W.aP (λi=>!cI W (W.aA i) (W.aj i)) 9 ((0,-1)))))))):=by rw[X3,dD hq]
  have Xy: ∀i,i<W.aw->cT W i=true:=λi hi=>by have:=hq i hi;revert this;show(!cT W i)=false->_;cases cT W i<;>simp
  clear bo hs J hq
  intro s hs
  refine⟨λJ=>?_,λJ=>?_⟩
  · have ai:=aY J
    refine⟨⟨hz,by omega,Xy⟩,λU=>?_,λU=>⟨wr _ (by omega) (by omega),bZ ⟨⟨by omega,dT (p:=λi=>!iL W i) hs.2 U⟩,by omega⟩⟩⟩
    rw[X4,fy (p:=λi=>!iL W i) hs.2 U ai];exact⟨rfl,rfl⟩
  have bo:=bD J
  have hq: ∀j,j<W.ar->(λi=>!iL W i) j=false:=λj hj=>hs.2 j (by omega)
  have X5:wm W=bB W.ar (λi=>!cS W i) 8 (bB W.ar (λi=>!cU W i) 8 (bB W.aP (λi=>!dg W i) 8 (bB W.aT (λi=>!dC W i) 8 (bB W.aq (λi=>!cV W i) 9 (bB W.aP (λi=>!cI W (W.aA i) (W.aj i)) 9 ((0,-1))))))):=by rw[X4,dD hq]
  clear bo hs J hq
  intro s hs
  refine⟨λJ=>?_,λJ=>?_⟩
  · have ai:=aY J
    refine⟨⟨hz,hp.sm,by omega⟩,λU=>?_,λU=>⟨wr _ (by omega) (by omega),bZ ⟨⟨by omega,dT (p:=λi=>!cS W i) hs.2 U⟩,by omega⟩⟩⟩
    rw[X5,fy (p:=λi=>!cS W i) hs.2 U ai];exact⟨rfl,rfl⟩
  have bo:=bD J
  have hq: ∀j,j<W.ar->(λi=>!cS W i) j=false:=λj hj=>hs.2 j (by omega)
  have X6:wm W=bB W.ar (λi=>!cU W i) 8 (bB W.aP (λi=>!dg W i) 8 (bB W.aT (λi=>!dC W i) 8 (bB W.aq (λi=>!cV W i) 9 (bB W.aP (λi=>!cI W (W.aA i) (W.aj i)) 9 ((0,-1)))))):=by rw[X5,dD hq]
  clear bo hs J hq
  intro s hs
  refine⟨λJ=>?_,λJ=>?_⟩
  · have ai:=aY J
    refine⟨⟨hz,hp.sm,by omega⟩,λU=>?_,λU=>⟨wr _ (by omega) (by omega),bZ ⟨⟨by omega,dT (p:=λi=>!cU W i) hs.2 U⟩,by omega⟩⟩⟩
    rw[X6,fy (p:=λi=>!cU W i) hs.2 U ai];exact⟨rfl,rfl⟩
  have bo:=bD J
  have hq: ∀j,j<W.ar->(λi=>!cU W i) j=false:=λj hj=>hs.2 j (by omega)
  have X7:wm W=bB W.aP (λi=>!dg W i) 8 (bB W.aT (λi=>!dC W i) 8 (bB W.aq (λi=>!cV W i) 9 (bB W.aP (λi=>!cI W (W.aA i) (W.aj i)) 9 ((0,-1))))):=by rw[X6,dD hq]
  clear bo hs J hq
  intro s hs
  rw[K7]
  refine⟨λJ=>?_,λJ=>?_⟩
  · have ai:=aY J
    refine⟨by omega,λ_=>by omega,λ_=>hz,λU=>?_,λU=>⟨wr _ (by omega) (by omega),bZ ⟨⟨by omega,dT (p:=λi=>!dg W i) hs.2 U⟩,by omega⟩⟩⟩
    rw[X7,fy (p:=λi=>!dg W i) hs.2 U ai];exact⟨rfl,rfl⟩
  have bo:=bD J
  have hq: ∀j,j<W.aP->(λi=>!dg W i) j=false:=λj hj=>hs.2 j (by omega)
  have X8:wm W=bB W.aT (λi=>!dC W i) 8 (bB W.aq (λi=>!cV W i) 9 (bB W.aP (λi=>!cI W (W.aA i) (W.aj i)) 9 ((0,-1)))):=by rw[X7,dD hq]
  clear bo hs J hq
  intro s hs _
  refine⟨λJ k hk=>?_,λJ=>?_⟩
  · have ai:=aY J
    have e4:((s:Int)/4)=((s/4:Nat):Int):=by omega
    have em:((s:Int)%4)=((s%4:Nat):Int):=by omega
    have hl:=hp.sm.2.1 s ai
    rw[e4,em]at hk⊢
    refine⟨by omega,λ_=>⟨λU=>?_,λU=>?_⟩⟩
    · have wW:=aY U
      refine⟨by omega,by omega,⟨by decide,wr _ (by omega) (by omega)⟩,by decide,hz,λh3=>?_,λh3=>⟨wr _ (by omega) (by omega),bZ ⟨⟨by omega,mZ hk.2 (dy h3)⟩,by omega⟩⟩⟩
      have hb:dC W s=false:=j3 (p:=λk=>dB W (W.ready s k) ((s/4:Nat):Int) ((s%4:Nat):Int)) wW (gM h3)
      rw[X8,fy (p:=λi=>!dC W i) hs.2 (by simp[hb]) ai];exact⟨rfl,rfl⟩
    · have mE:=bD U
      have hb:dC W s=true:=mJ λj hj=>hk.2 j (by omega)
      exact⟨wr _ (by omega) (by omega),bZ ⟨⟨by omega,dT (p:=λi=>!dC W i) hs.2 (by simp[hb])⟩,by omega⟩⟩
  have bo:=bD J
  have hq: ∀j,j<W.aT->(λi=>!dC W i) j=false:=λj hj=>hs.2 j (by omega)
  have X9:wm W=bB W.aq (λi=>!cV W i) 9 (bB W.aP (λi=>!cI W (W.aA i) (W.aj i)) 9 ((0,-1))):=by rw[X8,dD hq]
  clear bo hs J hq
  intro s hs _
  refine⟨λJ=>?_,λJ=>?_⟩
  · have ai:=aY J
    refine⟨⟨hz,by omega,PU s ai⟩,λU=>?_,λU=>⟨wr _ (by omega) (by omega),bZ ⟨⟨by omega,dT (p:=λi=>!cV W i) hs.2 U⟩,by omega⟩⟩⟩
    rw[X9,fy (p:=λi=>!cV W i) hs.2 U ai];exact⟨rfl,rfl⟩
  have bo:=bD J
  have hq: ∀j,j<W.aq->(λi=>!cV W i) j=false:=λj hj=>hs.2 j (by omega)
  have QF:wm W=bB W.aP (λi=>!cI W (W.aA i) (W.aj i)) 9 ((0,-1)):=by rw[X9,dD hq]
  clear bo hs J hq
  intro s hs
  refine⟨λJ=>?_,λJ=>?_⟩
  · have ai:=aY J
    refine⟨by omega,⟨hz,by have:=hp.sm.2.2 s (by omega);omega,PU⟩,λU=>?_,λU=>⟨wr _ (by omega) (by omega),bZ ⟨⟨by omega,dT (p:=λi=>!cI W (W.aA i) (W.aj i)) hs.2 U⟩,by omega⟩⟩⟩
    rw[QF,fy (p:=λi=>!cI W (W.aA i) (W.aj i)) hs.2 U ai];exact⟨rfl,rfl⟩
  have bo:=bD J
  have hq: ∀j,j<W.aP->(λi=>!cI W (W.aA i) (W.aj i)) j=false:=λj hj=>hs.2 j (by omega)
  have X11:wm W=(0,-1):=by rw[QF,dD hq]
  clear bo hs J hq
  rw[X11];exact⟨rfl,rfl⟩
end Go.Proofs.YtmieeldmfehpoaaGreatDoor
set_option linter.unusedVariables false
set_option linter.unusedSimpArgs false
set_option maxRecDepth 100000
namespace Go.Proofs.YtmieeldmfehpoaaGreatDoor
open Go.RowKit Go.Sy
def Zi (n:Nat) (l:Nat->Int) (x:Int):bS where
  σ:=Nat
  rt:= []
  sh i:= [(8,.v (.int .i64 i))]
  mh _:= []
  inv i:=i<=n/\ ∀j,j<i->(x==l j)=false
  μ i:=n -i
  init:=0
def Xs (n:Nat) (ln:Nat->Nat) (l:Nat->Nat->Int) (x:Int):bS where
  σ:=Nat
  rt:= []
  sh i:= [(12,.v (.int .i64 i)),(5,.v (.int .i64 (eJ i ln l x:Nat)))]
  mh _:= []
  inv i:=i<=n
  μ i:=n -i
  init:=0
def Xt (ln:Nat->Nat) (l:Nat->Nat->Int) (x:Int) (i c:Int):bS where
  σ:=Nat
  rt:= []
  sh k:= [(18,.v (.int .i64 k)),(5,.v (.int .i64 (c+(bL k λq=>l i.toNat q==x:Nat))))]
  mh _:= []
  inv k:=k<=ln i.toNat
  μ k:=ln i.toNat -k
  init:=0
theorem CZ {W:Wd} {f k:Int} (hk:k≠ -1):(decide (0<=f)&&decide (f<(W.ar:Int))&&W.kinds f.toNat==k)=(cm W f==k):=by
  cases J:decide (0<=f)&&decide (f<(W.ar:Int))with
  |true=>
   simp only[Bool.and_eq_true,decide_eq_true_eq]at J
   rw[DR J];rfl
  |false=>
   simp only[Bool.and_eq_false_iff,decide_eq_false_iff_not]at J
   rw[C0 (by omega)]
   symm
   exact beq_eq_false_iff_ne.2 λh=>hk h.symm
theorem Rd {r q:Int} (r0:0<=r) (r1:r<=7) (q0:0<=q) (q1:q<=7):(dF .andNot .i64 r q==0)=(((jC 6 q.toNat r.toNat:Nat):Int)==r):=by
  rw[RJ r0 r1 q0 q1,EH q0 (by omega) r0 (by omega)];rfl
structure Ns where
  (v m:Int)
def Xu:Sy.Spec:=⟨Ns,λ⟨v,m⟩=> [.v (.int .i64 v),.v (.int .i64 m)],λ_=> [],λ_=>True,λ⟨v,m⟩=> .v (.bool (aB v m)),λ_=> [],
  λargs mem=>match args with| [a0,a1]=>some ⟨av (a0),av (a1)⟩|_=>none⟩
def Xv:aQ:=⟨[],(Xu).g,none⟩
def Nt:Ns->Prop:=λ⟨v,m⟩=>cond (decide (v<0)) true (decide (m<v))=aB v m/\True
theorem sI:aL Tryz.prog aO 37 Xv:=aW .nil false Tryz.call37 Tryz.func37 (λ_=> []) (V:=Nt) (λ_=>by kernel_rfl) λ⟨v,m⟩ hp=>by
  dsimp only[Nt,tn,ah,ak,aE,aD,ay]
  simp only[aS,aZ,eq_self,implies_true,Bool.cond_self]
  rfl
structure O9 where
  (i e:Int)
def O_:Sy.Spec:=⟨O9,λ⟨i,e⟩=> [.v (.int .i64 i),.v (.int .i64 e)],λ_=> [],λ⟨i,e⟩=>0<=i/\e≠0,λ⟨i,e⟩=> .er 35 79 e i,λ_=> [],
  λargs mem=>match args with| [a0,a1]=>some ⟨av (a0),av (a1)⟩|_=>none⟩
def Zj:aQ:=⟨[],(O_).g,none⟩
def O':O9->Prop:=λ⟨i,e⟩=>True/\(e≠0/\0<=i/\e=e/\i=i)/\True
theorem lY:aL Tryz.prog aO 112 Zj:=aW .nil false Tryz.call112 Tryz.func112 (λ_=> []) (V:=O') (λ_=>by kernel_rfl) λ⟨i,e⟩ hp=>by
  dsimp only[O_]at hp
  dsimp only[O',tn,ah,ak,aE,aD,ay]
  simp only[aS,aZ,eq_self,implies_true,Bool.cond_self]
  exact⟨hp.2,hp.1⟩
structure Pa where
  (W:Wd) (f k:Int)
def Pb:Sy.Spec:=⟨Pa,λ⟨W,f,k⟩=> [eD W,.v (.int .i64 f),.v (.int .i64 k)],λ_=> [],λ⟨_,_,k⟩=>k≠ -1,λ⟨W,f,k⟩=> .v (.bool (okF W f k)),λ_=> [],
  λargs mem=>match args with| [a0,a1,a2]=>some ⟨d' a0,av (a1),av (a2)⟩|_=>none⟩
def Zk:aQ:=⟨[],(Pb).g,none⟩
def Pc:Pa->Prop:=λ⟨W,f,k⟩=>let a0:=cond (decide (0<=f)) (decide (f<((W.ar:Nat):Int))) false;(a0=true->(f==(-1))=false->0<=f/\f<((W.ar:Nat):Int))/\cond (f==(-1)) true (cond a0 (W.kinds (Int.toNat f)==k) false)=okF W f k/\True
theorem Xw:aL Tryz.prog aO 80 Zk:=aW .nil false Tryz.call80 Tryz.func80 (λ_=> []) (V:=Pc) (λ_=>by kernel_rfl) λ⟨W,f,k⟩ hp=>by
  dsimp only[Pb]at hp
  dsimp only[Pc,tn,ah,ak,aE,aD,ay]
  simp only[aS,aZ,eq_self,implies_true,Bool.cond_self]
  exact⟨λh _=>by simp only[Bool.and_eq_true,decide_eq_true_eq]at h;exact h,by rw[CZ hp];rfl⟩
structure K3 where
  (k b l m r g k2 b2 l2 m2 r2 g2:Int)
def K4:Sy.Spec:=⟨K3,λ⟨k,b,l,m,r,g,k2,b2,l2,m2,r2,g2⟩=> [.ag 6 (aH [.v (.int .i64 k),.v (.int .i64 b),.v (.int .i64 l),.v (.int .i64 m),.v (.int .i64 r),.v (.int .i64 g)]),.ag 6 (aH [.v (.int .i64 k2),.v (.int .i64 b2),.v (.int .i64 l2),.v (.int .i64 m2),.v (.int .i64 r2),.v (.int .i64 g2)])],λ_=> [],λ⟨k,b,l,m,r,g,_,_,_,_,_,_⟩=>fU k b l m r g=0,λ⟨k,b,l,m,r,g,k2,b2,l2,m2,r2,g2⟩=> .v (.bool (gI ⟨k,b,l,m,r,g,0⟩ ⟨k2,b2,l2,m2,r2,g2,0⟩)),λ_=> [],
  λargs mem=>match args with| [a0,a1]=>some ⟨av (cy a0 0),av (cy a0 1),av (cy a0 2),av (cy a0 3),av (cy a0 4),av (cy a0 5),av (cy a1 0),av (cy a1 1),av (cy a1 2),av (cy a1 3),av (cy a1 4),av (cy a1 5)⟩|_=>none⟩
def VS:aQ:=⟨[],(K4).g,none⟩
def K5:K3->Prop:=λ⟨k,b,l,m,r,g,k2,b2,l2,m2,r2,g2⟩=>let a0:=fU k2 b2 l2 m2 r2 g2 !=0;let b0:=gI (cp.mk k b l m r g 0) (cp.mk k2 b2 l2 m2 r2 g2 0);let c0:=cond (k !=1) (decide (b2<=b)) false;tn 2 (((((((((True/\k2=k2)/\b2=b2)/\l2=l2)/\m2=m2)/\r2=r2)/\g2=g2)/\True)/\True/\True)/\(a0=true->false=b0/\True)/\(a0=false->((k2==1)=true->(c0=true->ah (b2+m2)=b2+m2)/\cond c0 (decide (b<b2+m2)) false=b0/\True)/\((k2==1)=false->cond (cond (cond (k==k2) (b==b2) false) (dF BinOp.andNot IntKind.i64 r r2==0) false) (cond (g2==0) true (g==g2)) false=b0/\True)))
theorem TK:aL Tryz.prog aO 75 VS:=aW (.cons G1 .nil) false Tryz.call75 Tryz.func75 (λ_=> []) (V:=K5) (λ_=>by kernel_rfl) λ⟨k,b,l,m,r,g,k2,b2,l2,m2,r2,g2⟩ hp=>by
  dsimp only[K4]at hp
  dsimp only[K5,tn,ah,ak,aE,aD,ay]
  simp only[aS,aZ,eq_self,implies_true,Bool.cond_self]
  have hm:gI ⟨k,b,l,m,r,g,0⟩ ⟨k2,b2,l2,m2,r2,g2,0⟩=(fU k2 b2 l2 m2 r2 g2==0&&bif k2==1 then k !=1&&decide (b2<=b)&&decide (b -b2<m2)else k==k2&&b==b2&&(g2==0||g2==g)&&(((jC 6 r2.toNat r.toNat:Nat):Int)==r)):=rfl
  rw[hm]
  refine⟨λh=>by rw[gM (b:=fU k2 b2 l2 m2 r2 g2==0) h];rfl,λh=>?_⟩
  have h0:=dy (b:=fU k2 b2 l2 m2 r2 g2==0) h
  rw[h0]
  have hr:=Bq hp
  have hr2:=Bq (eq_of_beq h0)
  refine⟨λJ=>⟨λ_=>by rw[IntKind.wrap_i64];omega,?_⟩,λJ=>?_⟩
  · rw[J,show decide (b<b2+m2)=decide (b -b2<m2)from decide_eq_decide.2 (by omega)];rfl
  · rw[J,Rd (by omega) (by omega) (by omega) (by omega),show(g==g2)=(g2==g)from Bool.beq_comm]
    cases k==k2<;>cases b==b2<;>cases g2==0<;>cases g2==g<;>simp
structure Jg where
  (n:Nat) (ln:Nat->Nat) (l:Nat->Nat->Int) (x:Int)
def Jh:Sy.Spec:=⟨Jg,λ⟨n,ln,l,x⟩=> [.sl true 1 n (λi _=> .sl true 1 (ln i) (iF (l i))),.v (.int .i64 x)],λ_=> [],λ⟨n,ln,_,_⟩=>n<=1000/\ ∀i,i<n->ln i<=1000,λ⟨n,ln,l,x⟩=> .v (.int .i64 (eJ n ln l x:Nat)),λ_=> [],
  λargs mem=>match args with| [a0,a1]=>some ⟨bO a0,λi=>bO (bF a0 i 0),λi k=>av (bF (bF a0 i 0) k 0),av (a1)⟩|_=>none⟩
def TL:aQ:=⟨[],(Jh).g,none⟩
def Ji:Jg->Prop:=λ⟨n,ln,l,x⟩=>let a0:=(n:Int);a0<=9223372036854775807->0=((0:Nat):Int)/\0=((eJ 0 ln l x:Nat):Int)/\True/\0<=n/\(∀b0:Nat,let c0:=(b0:Int);let d0:=decide (c0<a0);let e0:=Int.toNat c0;let g0:=ln e0;let h0:=(g0:Int);let k0:=((eJ b0 ln l x:Nat):Int);let l0:Int:=c0+1;b0<=n->(d0=true->(0<=c0/\c0<a0)/\(h0<=9223372036854775807->0=((0:Nat):Int)/\k0=k0+((bL 0 (λo0:Nat=>l e0 o0==x):Nat):Int)/\True/\0<=g0/\(∀q0:Nat,let r0:=(q0:Int);let u0:=decide (r0<h0);let v0:=l e0 (Int.toNat r0)==x;let w0:Int:=k0+((bL q0 (λx0:Nat=>l e0 x0==x):Nat):Int);let y0:Int:=w0+1;let z0:Int:=r0+1;let a1:=ah z0=z0;q0<=g0->(u0=true->(0<=r0/\r0<h0)/\(v0=true->ah y0=y0/\a1/\(∃b1:Nat,z0=(b1:Int)/\y0=k0+((bL b1 (λc1:Nat=>l e0 c1==x):Nat):Int)/\True/\b1<=g0/\g0-b1<g0-q0))/\(v0=false->a1/\(∃d1:Nat,z0=(d1:Int)/\w0=k0+((bL d1 (λe1:Nat=>l e0 e1==x):Nat):Int)/\True/\d1<=g0/\g0-d1<g0-q0)))/\(u0=false->ah l0=l0/\(∃g1:Nat,l0=(g1:Int)/\w0=((eJ g1 ln l x:Nat):Int)/\True/\g1<=n/\n-g1<n-b0)))))/\(d0=false->k0=((eJ n ln l x:Nat):Int)/\True))
theorem Sz:aL Tryz.prog aO 81 TL:=aW .nil false Tryz.call81 Tryz.func81 (λ⟨n,ln,l,x⟩=> [.inv (Xs n ln l x),.ph false λfr=>Xt ln l x (av (fr 12)) (av (fr 5))]) (V:=Ji) (λ_=>by kernel_rfl) λ⟨n,ln,l,x⟩ hp=>by
  dsimp only[Jh]at hp
  dsimp only[Ji,tn,ah,ak,aE,aD,ay]
  simp only[aS,aZ,eq_self,implies_true,Bool.cond_self]
  refineλ_=>⟨rfl,λs hs=>⟨λh=>?_,λh=>?_⟩⟩
  · have ai:=aY h
    have hl:=hp.2 s ai
    have hc:eJ s ln l x<=s*1000:=uX λi hi=>Nat.le_trans (jt _ _) (hp.2 i (by omega))
    refine⟨by omega,λhm=>⟨by simp[bL],λk hk=>⟨λU=>?_,λU=>?_⟩⟩⟩
    · have Fh:=aY U
      have hb:=jt (λq=>l s q==x) k
      refine⟨by omega,λh3=>?_,λh3=>?_⟩
      · have e:(bL (k+1) λq=>l s q==x)=(bL k λq=>l s q==x)+1:=by simp[bL,h3]
        exact⟨by rw[IntKind.wrap_i64];omega,by rw[IntKind.wrap_i64];omega,bZ ⟨by rw[e];omega,by omega,by omega⟩⟩
      · have e:(bL (k+1) λq=>l s q==x)=(bL k λq=>l s q==x):=by simp[bL,h3]
        exact⟨by rw[IntKind.wrap_i64];omega,bZ ⟨by rw[e],by omega,by omega⟩⟩
    · have bo:=bD U
      obtain rfl:k=ln s:=by omega
      refine⟨by rw[IntKind.wrap_i64];omega,bZ ⟨?_,by omega,by omega⟩⟩
      rw[show eJ (s+1) ln l x=eJ s ln l x+bL (ln s) (λq=>l s q==x)from rfl];omega
  · have bo:=bD h
    obtain rfl:s=n:=by omega
    rfl
structure xZ where
  (n:Nat) (l:Nat->Int) (x:Int)
def Cg:Sy.Spec:=⟨xZ,λ⟨n,l,x⟩=> [.sl true 1 n (λi_ _=> .v (.int .i64 (l i_))),.v (.int .i64 x)],λ_=> [],λ⟨n,_,_⟩=>n<=100000,λ⟨n,l,x⟩=> .v (.int .i64 (cN n λk=>x==l k)),λ_=> [],
  λargs mem=>match args with| [a0,a1]=>some ⟨bO a0,λi=>av (bF a0 i 0),av (a1)⟩|_=>none⟩
def TM:aQ:=⟨[],(Cg).g,none⟩
def Jj:xZ->Prop:=λ⟨n,l,x⟩=>let a0:=(n:Int);let b0:=cN n (λc0:Nat=>x==l c0);a0<=9223372036854775807->0=((0:Nat):Int)/\True/\(0<=n/\(∀d0:Nat,d0<0->(x==l d0)=false))/\(∀e0:Nat,let g0:=(e0:Int);let h0:=decide (g0<a0);let k0:=x==l (Int.toNat g0);let l0:Int:=g0+1;e0<=n/\(∀o0:Nat,o0<e0->(x==l o0)=false)->(h0=true->(0<=g0/\g0<a0)/\(k0=true->g0=b0/\True)/\(k0=false->ah l0=l0/\(∃q0:Nat,l0=(q0:Int)/\True/\(q0<=n/\(∀r0:Nat,r0<q0->(x==l r0)=false))/\n-q0<n-e0)))/\(h0=false->(-1)=b0/\True))
theorem SA:aL Tryz.prog aO 113 TM:=aW .nil false Tryz.call113 Tryz.func113 (λ⟨n,l,x⟩=> [.inv (Zi n l x)]) (V:=Jj) (λ_=>by kernel_rfl) λ⟨n,l,x⟩ hp=>by
  dsimp only[Cg]at hp
  dsimp only[Jj,tn,ah,ak,aE,aD,ay]
  simp only[aS,aZ,eq_self,implies_true,Bool.cond_self]
  refineλhn s hs=>⟨λh=>?_,λh=>?_⟩
  · have ai:=aY h
    exact⟨by omega,λh=>(qc (p:=λk=>x==l k) hs.2 h ai).symm,λh=>⟨by rw[IntKind.wrap_i64];omega,bZ ⟨⟨by omega,dT (p:=λk=>x==l k) hs.2 h⟩,by omega⟩⟩⟩
  · have bo:=bD h
    obtain rfl:s=n:=by omega
    exact(mI (p:=λk=>x==l k) hs.2).symm
structure xq where
  (n:Nat) (l:Nat->Int) (x:Int)
def Br:Sy.Spec:=⟨xq,λ⟨n,l,x⟩=> [.sl true 1 n (λi_ _=> .v (.int .i64 (l i_))),.v (.int .i64 x)],λ_=> [],λ⟨n,_,_⟩=>n<=100000,λ⟨n,l,x⟩=> .v (.bool (fF n l x)),λ_=> [],
  λargs mem=>match args with| [a0,a1]=>some ⟨bO a0,λi=>av (bF a0 i 0),av (a1)⟩|_=>none⟩
def Re:aQ:=⟨[],(Br).g,none⟩
def Ha:xq->Prop:=λ⟨n,l,x⟩=>(((n=n/\(∀a0:Nat,a0<n->True/\l a0=l a0))/\x=x/\True)/\True/\Cg.match_1 (λb0:xZ=>Prop) (xZ.mk n l x) (λc0:Nat=>λd0:∀e0:Nat,Int=>λg0:Int=>c0<=100000))/\decide (0<=cN n (λh0:Nat=>x==l h0))=fF n l x/\True
theorem QZ:aL Tryz.prog aO 82 Re:=aW (.cons SA .nil) false Tryz.call82 Tryz.func82 (λ_=> []) (V:=Ha) (λ_=>by kernel_rfl) λ⟨n,l,x⟩ hp=>by
  dsimp only[Br]at hp
  dsimp only[Ha,tn,ah,ak,aE,aD,ay]
  simp only[aS,aZ,eq_self,implies_true,Bool.cond_self]
  refine⟨hp,?_⟩
  cases hq:fF n l x with
  |false=>
   rw[mI (p:=λk=>x==l k) λj hj=>by have:=ld.1 hq j hj;rw[Bool.beq_comm];exact this];rfl
  |true=>
   obtain⟨i,hi,h⟩:=kE.1 hq
   have:=p_ (p:=λk=>x==l k) hi (by rw[Bool.beq_comm];exact h)
   unfold cN
   rw[cD this]
   exact decide_eq_true (Int.natCast_nonneg _)
structure sJ where
  (t c p:Int) (W:Wd)
def yC:Sy.Spec:=⟨sJ,λ⟨t,c,p,W⟩=> [.v (.int .i64 t),.v (.int .i64 c),.v (.int .i64 p),.pt true 1 (λ_=>eD W)],λ_=> [],λ⟨_,_,_,W⟩=>bW W,λ⟨t,c,p,W⟩=> .v (.bool (dB W t c p)),λ_=> [],
  λargs mem=>match args with| [a0,a1,a2,a3]=>some ⟨av (a0),av (a1),av (a2),d' (bx a3 0)⟩|_=>none⟩
def VT:aQ:=⟨[],(yC).g,none⟩
def K6:sJ->Prop:=λ⟨t,c,p,W⟩=>let a0:=cond (decide (0<=t)) (decide (t<((W.ar:Nat):Int))) false;let b0:=cond a0 (W.kinds (Int.toNat t)==6) false;let c0:=0<=t/\t<((W.az:Nat):Int);let d0:=W.tasks (Int.toNat t);let e0:=cond b0 (d0.st==1) false;let g0:=cond e0 (d0.core==c) false;(a0=true->0<=t/\t<((W.ar:Nat):Int))/\(b0=true->c0)/\(e0=true->c0)/\(decide (p<0)=false->g0=true->c0)/\cond g0 (cond (decide (p<0)) true (d0.prio==p)) false=dB W t c p/\True
theorem Jk:aL Tryz.prog aO 85 VT:=aW .nil false Tryz.call85 Tryz.func85 (λ_=> []) (V:=K6) (λ_=>by kernel_rfl) λ⟨t,c,p,W⟩ hp=>by
  dsimp only[yC]at hp
  dsimp only[K6,tn,ah,ak,aE,aD,ay]
  simp only[aS,aZ,eq_self,implies_true,Bool.cond_self]
  have hz:=hp.tasks
  refine⟨λh=>?_,λh=>?_,λh=>?_,λ_ h=>?_,by rw[CZ (k:=6) (by decide)];rfl⟩
  all_goals simp only[Bool.and_eq_true,decide_eq_true_eq]at h
  all_goals omega
structure Jl where
  (i x:Int)
def TN:Sy.Spec:=⟨Jl,λ⟨i,x⟩=> [.v (.int .i64 i),.v (.int .i64 x)],λ_=> [],λ_=>True,λ⟨_,x⟩=> .v (.bool (aB x 65535)),λ_=> [],
  λargs mem=>match args with| [a0,a1]=>some ⟨av (a0),av (a1)⟩|_=>none⟩
def TO:aQ:=⟨[],(TN).g,none⟩
def Jm:Jl->Prop:=λ⟨_,x⟩=>((x=x/\(65535:Int)=65535/\True)/\True/\True)/\aB x 65535=aB x 65535/\True
theorem SB:aL Tryz.prog aO 69 TO:=aW (.cons sI .nil) false Tryz.call69 Tryz.func69 (λ_=> []) (V:=Jm) (λ_=>by kernel_rfl) λ⟨i,x⟩ hp=>by
  dsimp only[Jm,tn,ah,ak,aE,aD,ay]
  simp only[aS,aZ,eq_self,implies_true,Bool.cond_self]
structure Jn where
  (i x:Int)
def TP:Sy.Spec:=⟨Jn,λ⟨i,x⟩=> [.v (.int .i64 i),.v (.int .i64 x)],λ_=> [],λ_=>True,λ⟨_,x⟩=> .v (.bool (aB x 8||x==1)),λ_=> [],
  λargs mem=>match args with| [a0,a1]=>some ⟨av (a0),av (a1)⟩|_=>none⟩
def TQ:aQ:=⟨[],(TP).g,none⟩
def Jo:Jn->Prop:=λ⟨_,x⟩=>((x=x/\(8:Int)=8/\True)/\True/\True)/\cond (aB x 8) true (x==1)=(aB x 8||x==1)/\True
theorem SC:aL Tryz.prog aO 70 TQ:=aW (.cons sI .nil) false Tryz.call70 Tryz.func70 (λ_=> []) (V:=Jo) (λ_=>by kernel_rfl) λ⟨i,x⟩ hp=>by
  dsimp only[Jo,tn,ah,ak,aE,aD,ay]
  simp only[aS,aZ,eq_self,implies_true,Bool.cond_self]
structure Jp where
  (i x:Int)
def TR:Sy.Spec:=⟨Jp,λ⟨i,x⟩=> [.v (.int .i64 i),.v (.int .i64 x)],λ_=> [],λ_=>True,λ⟨_,x⟩=> .v (.bool (aB x 3)),λ_=> [],
  λargs mem=>match args with| [a0,a1]=>some ⟨av (a0),av (a1)⟩|_=>none⟩
def TS:aQ:=⟨[],(TR).g,none⟩
def Jq:Jp->Prop:=λ⟨_,x⟩=>((x=x/\(3:Int)=3/\True)/\True/\True)/\aB x 3=aB x 3/\True
theorem SD:aL Tryz.prog aO 71 TS:=aW (.cons sI .nil) false Tryz.call71 Tryz.func71 (λ_=> []) (V:=Jq) (λ_=>by kernel_rfl) λ⟨i,x⟩ hp=>by
  dsimp only[Jq,tn,ah,ak,aE,aD,ay]
  simp only[aS,aZ,eq_self,implies_true,Bool.cond_self]
end Go.Proofs.YtmieeldmfehpoaaGreatDoor
set_option linter.unusedVariables false
set_option linter.unusedSimpArgs false
set_option maxRecDepth 100000
namespace Go.Proofs.YtmieeldmfehpoaaGreatDoor
open Go.RowKit Go.Sy
def dL (B:List bh) (z:Nat):Wd:=⟨ki B (z+1),λi=>av (jc B (z+1) i 0),ki B (z+2),λi=>av (jc B (z+2) i 0),ki B (z+3),λi=>rf (λj=>jc B (z+3) i j),ki B (z+4),λi=>zM (λj=>jc B (z+4) i j),ki B (z+5),λi=>FF (jc B (z+5) i 0),λi k=>av (FG (jc B (z+5) i 0) k 0),ki B (z+6),λi=>av (jc B (z+6) i 0),ki B (z+7),λi=>av (jc B (z+7) i 0),ki B (z+8),λi=>FF (jc B (z+8) i 0),λi k=>av (FG (jc B (z+8) i 0) k 0),ki B (z+9),λi=>FF (jc B (z+9) i 0),λi k=>jf (λj=>FG (jc B (z+9) i 0) k j),ki B (z+10),λi=>av (jc B (z+10) i 0),av (ZO B z 10)⟩
def bR (W:Wd) (s:Int):Int:=bif decide (s<0)||decide ((W.aw:Int)<=s)then 2 else bif (W.af s.toNat).kind==0 then 6 else 0
def cd (a b:Int) (s:cp):cp:=bif s.from_==a then{s with from_:=b}else s
def dI (f:Nat->cp) (a b:Int) (i j:Nat):cp:=bif Nat.blt j i then cd a b (f j)else f j
def PX (W:Wd) (a b:Int):Wd:={W with af:=λj=>cd a b (W.af j)}
def rM:cp:=⟨0,0,0,0,0,0,-1⟩
theorem qN {f:Nat->cp} {a b:Int} {i j:Nat} (h:j<i):dI f a b i j=cd a b (f j):=by unfold dI;rw[cD h];rfl
theorem mS {f:Nat->cp} {a b:Int} {i j:Nat} (h:i<=j):dI f a b i j=f j:=by unfold dI;rw[eI h];rfl
theorem dM {x y:cp} (h:x=y):((((((x.kind=y.kind/\x.base=y.base)/\x.len=y.len)/\x.mark=y.mark)/\x.cQ=y.cQ)/\x.bJ=y.bJ)/\x.from_=y.from_):=by subst h;exact⟨⟨⟨⟨⟨⟨rfl,rfl⟩,rfl⟩,rfl⟩,rfl⟩,rfl⟩,rfl⟩
theorem ca {a b:Nat} (h:a≠b):Nat.beq a b=false:=by
  cases hb:Nat.beq a b with
  |false=>rfl
  |true=>exact absurd (Nat.eq_of_beq_eq_true hb) h
theorem bM {z:Int} (J: -1000000<=z) (U:z<=1000000):IntKind.i64.wrap z=z:=by rw[IntKind.wrap_i64];omega
theorem Le {f:Nat->cp} {a b:Int} {i j:Nat} (h:((dI f a b i i).from_==a)=true):((((((dI f a b i j).kind=(dI f a b (i+1) j).kind/\(dI f a b i j).base=(dI f a b (i+1) j).base)/\(dI f a b i j).len=(dI f a b (i+1) j).len)/\(dI f a b i j).mark=(dI f a b (i+1) j).mark)/\(dI f a b i j).cQ=(dI f a b (i+1) j).cQ)/\(dI f a b i j).bJ=(dI f a b (i+1) j).bJ)/\(bif j.beq i then b else(dI f a b i j).from_)=(dI f a b (i+1) j).from_:=by
  rw[mS (Nat.le_refl _)]at h
  rcases Nat.lt_trichotomy j i with J|J|J
  · rw[ca (by omega),qN J,qN (by omega:j<i+1)];exact dM rfl
  · subst J
    rw[Nat.beq_refl,mS (Nat.le_refl _),qN (Nat.lt_succ_self _)]
    unfold cd;rw[h];exact⟨⟨⟨⟨⟨⟨rfl,rfl⟩,rfl⟩,rfl⟩,rfl⟩,rfl⟩,rfl⟩
  · rw[ca (by omega),mS (by omega),mS (by omega:i+1<=j)];exact dM rfl
theorem NG {f:Nat->cp} {a b:Int} {i j:Nat} (h:((dI f a b i i).from_==a)=false):dI f a b i j=dI f a b (i+1) j:=by
  rw[mS (Nat.le_refl _)]at h
  rcases Nat.lt_trichotomy j i with J|J|J
  · rw[qN J,qN (by omega:j<i+1)]
  · subst J
    rw[mS (Nat.le_refl _),qN (Nat.lt_succ_self _)]
    unfold cd;rw[h];rfl
  · rw[mS (by omega),mS (by omega:i+1<=j)]
theorem Lf {f:Nat->cp} {a b:Int} {i j:Nat} (h:j<i):dI f a b i j=cd a b (f j):=qN h
theorem A6 {x:Int} (h:(x !=0)=true):(x==0)=false:=by simpa [bne]using h
theorem tV {x:Int} (h:(x !=0)=false):(x==0)=true:=by simpa [bne]using h
theorem cu (W:Wd):(⟨W.aq,W.aa,W.ar,W.kinds,W.aw,W.af,W.az,W.tasks,W.ba,W.ao,W.lines,W.aN,W.bits,W.aP,W.aF,W.aT,W.aJ,W.ready,W.aG,W.aA,W.aj,W.aI,W.aM,W.time⟩:Wd)=W:=rfl
def NH (W:Wd) (a b:Int) (z:Nat):bS where
  σ:=Nat
  rt:= []
  sh i:= [(0,bd 0),(z,.v (.int .i64 i))]
  mh i:= [(3,.row 7 W.aw (rF λj=>kx (dI W.af a b i j)))]
  inv i:=i<=W.aw
  μ i:=W.aw -i
  init:=0
structure NI where
  (W:Wd) (s:Int)
def XS:Sy.Spec:=⟨NI,λ⟨W,s⟩=> [eD W,.v (.int .i64 s)],λ_=> [],λ_=>True,λ⟨W,s⟩=> .v (.int .i64 (bR W s)),λ_=> [],
  λargs mem=>match args with| [a0,a1]=>some ⟨d' a0,av (a1)⟩|_=>none⟩
def XT:aQ:=⟨[],(XS).g,none⟩
def NJ:NI->Prop:=λ⟨W,s⟩=>let a0:=cond (decide (s<0)) true (decide (((W.aw:Nat):Int)<=s));let b0:=bR W s;let c0:=(W.af (Int.toNat s)).kind==0;(a0=true->2=b0/\True)/\(a0=false->(0<=s/\s<((W.aw:Nat):Int))/\(c0=true->6=b0/\True)/\(c0=false->0=b0/\True))
theorem KH:aL Tryz.prog aO 22 XT:=aW .nil false Tryz.call22 Tryz.func22 (λ_=> []) (V:=NJ) (λ_=>by kernel_rfl) λ⟨W,s⟩ hp=>by
  dsimp only[NJ,tn,ah,ak,aE,aD,ay]
  simp only[aS,aZ,eq_self,implies_true,Bool.cond_self]
  refine⟨λh=>?_,λh=>?_⟩
  · unfold bR;rw[h];rfl
  · have h':=h
    rw[Bool.or_eq_false_iff]at h'
    have J:=of_decide_eq_false h'.1
    have U:=of_decide_eq_false h'.2
    refine⟨by omega,λh3=>?_,λh3=>?_⟩<;>(unfold bR;rw[h,h3];rfl)
structure zj where
  (a b:Int) (W:Wd)
def Ec:Sy.Spec:=⟨zj,λ⟨a,b,_⟩=> [.ptr 0 0 none 0 0,.v (.int .i64 a),.v (.int .i64 b)],λ⟨_,_,W⟩=>bQ W,λ⟨_,_,W⟩=>W.aw<=100000,λ_=> .tp 0 (aH []),λ⟨a,b,W⟩=>bQ (PX W a b),
  λargs mem=>match args with| [a0,a1,a2]=>some ⟨av (a1),av (a2),dL mem 0⟩|_=>none⟩
def XU:aQ:=⟨[true],(Ec).g,none⟩
def NK:zj->Prop:=λ⟨a,b,W⟩=>let a0:=SV.ptr 0 0 none 0 0;let b0:=W.af;let c0:=W.aw;let d0:=(c0:Int);let e0:=SV.ptr 0 0 none 0 0=a0;a0=a0/\0=((0:Nat):Int)/\ak W {W with af:=dI b0 a b 0} True/\0<=c0/\(∀g0:Nat,let h0:=(g0:Int);let k0:=decide (h0<d0);let l0:=0<=h0/\h0<d0;let o0:=0+Int.toNat h0;let q0:=(dI b0 a b g0 o0).from_==a;let r0:Int:=h0+1;let u0:=ah r0=r0;let v0:={W with af:=dI b0 a b g0};g0<=c0->d0<=9223372036854775807->(k0=true->l0/\(q0=true->l0/\(∀w0:Nat,false=false)/\u0/\(∃x0:Nat,e0/\r0=(x0:Int)/\ak {W with af:=λy0:Nat=>let z0:=dI b0 a b g0 y0;{z0 with from_:=cond (Nat.beq y0 o0) b z0.from_}} {W with af:=dI b0 a b x0} True/\x0<=c0/\c0-x0<c0-g0))/\(q0=false->u0/\(∃a1:Nat,e0/\r0=(a1:Int)/\ak v0 {W with af:=dI b0 a b a1} True/\a1<=c0/\c0-a1<c0-g0)))/\(k0=false->True/\ak v0 {W with af:=λb1:Nat=>cd a b (b0 b1)} True))
theorem V8:aL Tryz.prog aO 35 XU:=aW .nil false Tryz.call35 Tryz.func35 (λ⟨a,b,W⟩=> [.inv (NH W a b 6)]) (V:=NK) (λ_=>by kernel_rfl) λ⟨a,b,W⟩ hp=>by
  dsimp only[Ec]at hp
  dsimp only[NK,tn,ah,ak,aE,aD,ay]
  simp only[aS,aZ,eq_self,implies_true,Bool.cond_self]
  refine⟨λj _=>dM (mS (Nat.zero_le _)).symm,λs hs _=>⟨λh=>?_,λh=>λj hj=>?_⟩⟩
  · have ai:=aY h
    refine⟨by omega,λJ=>⟨by omega,bM (by omega) (by omega),s+1,by omega,λj _=>Le J,by omega,by omega⟩,λJ=>⟨bM (by omega) (by omega),s+1,by omega,λj _=>dM (NG J),by omega,by omega⟩⟩
  · have bo:=bD h
    exact dM (Lf (by omega))
structure Po where
  (W:Wd) (s:Int)
def Zx:Sy.Spec:=⟨Po,λ⟨W,s⟩=> [eD W,.v (.int .i64 s)],λ_=> [],λ_=>True,λ⟨W,s⟩=> .v (.bool (decide (0<=s)&&decide (s<W.aw))),λ_=> [],
  λargs mem=>match args with| [a0,a1]=>some ⟨d' a0,av (a1)⟩|_=>none⟩
def Zy:aQ:=⟨[],(Zx).g,none⟩
def Pp:Po->Prop:=λ⟨W,s⟩=>let a0:=decide (s<((W.aw:Nat):Int));cond (decide (0<=s)) a0 false=(decide (0<=s)&&a0)/\True
theorem XV:aL Tryz.prog aO 45 Zy:=aW .nil false Tryz.call45 Tryz.func45 (λ_=> []) (V:=Pp) (λ_=>by kernel_rfl) λ⟨W,s⟩ hp=>by
  dsimp only[Pp,tn,ah,ak,aE,aD,ay]
  simp only[aS,aZ,eq_self,implies_true,Bool.cond_self]
structure NL where
  (W:Wd) (s:Int)
def XW:Sy.Spec:=⟨NL,λ⟨W,s⟩=> [eD W,.v (.int .i64 s)],λ_=> [],λ_=>True,λ⟨W,s⟩=> .er 35 79 (bR W s) (-1),λ_=> [],
  λargs mem=>match args with| [a0,a1]=>some ⟨d' a0,av (a1)⟩|_=>none⟩
def XX:aQ:=⟨[],(XW).g,none⟩
def NM:NL->Prop:=λ⟨W,s⟩=>let a0:=W.ar;let b0:=W.aw;let c0:=W.az;let d0:=W.ba;let e0:=W.aP;let g0:=W.aT;let h0:=!(decide (0<=s)&&decide (s<(b0:Int)));let k0:=bR W s;let l0:=((-1):Int)=(-1);let o0:=(W.af (Int.toNat s)).kind==0;(((((((((((((True/\W.aq=W.aq/\(∀q0:Nat,q0<W.aq->True/\W.aa q0=W.aa q0))/\a0=a0/\(∀r0:Nat,r0<a0->True/\W.kinds r0=W.kinds r0))/\b0=b0/\(∀u0:Nat,u0<b0->aD (W.af u0) (W.af u0)))/\c0=c0/\(∀v0:Nat,v0<c0->aE (W.tasks v0) (W.tasks v0)))/\d0=d0/\(∀w0:Nat,let x0:=W.ao w0;w0<d0->True/\x0=x0/\(∀y0:Nat,y0<x0->True/\W.lines w0 y0=W.lines w0 y0)))/\W.aN=W.aN/\(∀z0:Nat,z0<W.aN->True/\W.bits z0=W.bits z0))/\e0=e0/\(∀a1:Nat,a1<e0->True/\W.aF a1=W.aF a1))/\g0=g0/\(∀b1:Nat,let c1:=W.aJ b1;b1<g0->True/\c1=c1/\(∀d1:Nat,d1<c1->True/\W.ready b1 d1=W.ready b1 d1)))/\W.aG=W.aG/\(∀e1:Nat,let g1:=W.aA e1;e1<W.aG->True/\g1=g1/\(∀J:Nat,J<g1->ay (W.aj e1 J) (W.aj e1 J))))/\W.aI=W.aI/\(∀k1:Nat,k1<W.aI->True/\W.aM k1=W.aM k1))/\W.time=W.time)/\s=s/\True)/\True/\True)/\(h0=true->((2:Int)≠0/\k0=2/\l0)/\True)/\(h0=false->(0<=s/\s<(b0:Int))/\(o0=true->((6:Int)≠0/\k0=6/\l0)/\True)/\(o0=false->(k0=0/\l0)/\True))
theorem CQ:aL Tryz.prog aO 27 XX:=aW (.cons XV .nil) false Tryz.call27 Tryz.func27 (λ_=> []) (V:=NM) (λ_=>by kernel_rfl) λ⟨W,s⟩ hp=>by
  dsimp only[NM,tn,ah,ak,aE,aD,ay]
  simp only[aS,aZ,eq_self,implies_true,Bool.cond_self]
  have inq:(decide (0<=s)&&decide (s<W.aw))=!(decide (s<0)||decide ((W.aw:Int)<=s)):=by
    rcases Int.lt_or_le s 0 with h|h
    · rw[decide_eq_false (by omega),decide_eq_true h];rfl
    · rcases Int.lt_or_le s W.aw with U|U
      · rw[decide_eq_true h,decide_eq_true U,decide_eq_false (by omega),decide_eq_false (by omega)];rfl
      · rw[decide_eq_true h,decide_eq_false (by omega),decide_eq_false (show¬s<0 by omega),decide_eq_true U];rfl
  rw[inq,Bool.not_not]
  refine⟨λh=>?_,λh=>?_⟩
  · exact⟨by decide,by unfold bR;rw[h];rfl⟩
  · have h':=h
    rw[Bool.or_eq_false_iff]at h'
    have J:=of_decide_eq_false h'.1
    have U:=of_decide_eq_false h'.2
    exact⟨by omega,λh3=>⟨by decide,by unfold bR;rw[h,h3];rfl⟩,λh3=>by unfold bR;rw[h,h3];rfl⟩
structure zk where
  (a b:Int) (W:Wd)
def Ed:Sy.Spec:=⟨zk,λ⟨a,b,_⟩=> [.ptr 0 0 none 0 0,.v (.int .i64 a),.v (.int .i64 b)],λ⟨_,_,W⟩=>bQ W,λ⟨_,_,W⟩=>W.aw<=100000,λ_=> .tp 0 (aH []),λ⟨a,b,W⟩=>bQ (PX W a b),
  λargs mem=>match args with| [a0,a1,a2]=>some ⟨av (a1),av (a2),dL mem 0⟩|_=>none⟩
def XY:aQ:=⟨[true],(Ed).g,none⟩
def NN:zk->Prop:=λ⟨a,b,W⟩=>let a0:=W.aw;let b0:=(a0:Int);let c0:=SV.ptr 0 0 none 0 0=SV.ptr 0 0 none 0 0;let d0:=W.af;b0<=9223372036854775807->c0/\0=((0:Nat):Int)/\ak W {W with af:=dI d0 a b 0} True/\0<=a0/\(∀e0:Nat,let g0:=(e0:Int);let h0:=decide (g0<b0);let k0:=0<=g0/\g0<b0;let l0:=0+Int.toNat g0;let o0:=(dI d0 a b e0 l0).from_==a;let q0:Int:=g0+1;let r0:=ah q0=q0;let u0:={W with af:=dI d0 a b e0};e0<=a0->(h0=true->k0/\(o0=true->k0/\(∀v0:Nat,false=false)/\r0/\(∃w0:Nat,c0/\q0=(w0:Int)/\ak {W with af:=λx0:Nat=>let y0:=dI d0 a b e0 x0;{y0 with from_:=cond (Nat.beq x0 l0) b y0.from_}} {W with af:=dI d0 a b w0} True/\w0<=a0/\a0-w0<a0-e0))/\(o0=false->r0/\(∃z0:Nat,c0/\q0=(z0:Int)/\ak u0 {W with af:=dI d0 a b z0} True/\z0<=a0/\a0-z0<a0-e0)))/\(h0=false->True/\ak u0 {W with af:=λa1:Nat=>cd a b (d0 a1)} True))
theorem V9:aL Tryz.prog aO 52 XY:=aW .nil false Tryz.call52 Tryz.func52 (λ⟨a,b,W⟩=> [.inv (NH W a b 12)]) (V:=NN) (λ_=>by kernel_rfl) λ⟨a,b,W⟩ hp=>by
  dsimp only[Ed]at hp
  dsimp only[NN,tn,ah,ak,aE,aD,ay]
  simp only[aS,aZ,eq_self,implies_true,Bool.cond_self]
  intro _
  refine⟨λj _=>dM (mS (Nat.zero_le _)).symm,λs hs=>⟨λh=>?_,λh=>λj hj=>?_⟩⟩
  · have ai:=aY h
    refine⟨by omega,λJ=>⟨by omega,bM (by omega) (by omega),s+1,by omega,λj _=>Le J,by omega,by omega⟩,λJ=>⟨bM (by omega) (by omega),s+1,by omega,λj _=>dM (NG J),by omega,by omega⟩⟩
  · have bo:=bD h
    exact dM (Lf (by omega))
end Go.Proofs.YtmieeldmfehpoaaGreatDoor
set_option linter.unusedVariables false
set_option linter.unusedSimpArgs false
set_option maxRecDepth 100000
namespace Go.Proofs.YtmieeldmfehpoaaGreatDoor
open Go.RowKit Go.Sy
def aC (p:Nat->Bool):Nat->Nat
  |0=>0
  |i+1=>bif p i then aC p i else aC p i+1
def aU {α:Type} (z:α) (p:Nat->Bool) (t:Nat->α):Nat->Nat->α
  |0,_=>z
  |i+1,a=>bif !p i&&Nat.beq a (aC p i)then t i else aU z p t i a
theorem lX (p:Nat->Bool): ∀i,aC p i<=i
  |0=>Nat.le_refl _
  |i+1=>by have:=lX p i;simp only[aC];cases p i<;>simp<;>omega
theorem nF {p:Nat->Bool}: ∀{i},(∀j,j<i->p j=false)->aC p i=i
  |0,_=>rfl
  |i+1,h=>by rw[aC,h i (by omega),nF λj hj=>h j (by omega)];rfl
theorem oL {α:Type} {z:α} {p:Nat->Bool} {t:Nat->α}: ∀{i a},(∀j,j<i->p j=false)->a<i->aU z p t i a=t a
  |0,a,_,h=>absurd h (by omega)
  |i+1,a,h,ha=>by
   rw[aU,h i (by omega),nF λj hj=>h j (by omega)]
   rcases Nat.lt_or_ge a i with J|J
   · have hb:Nat.beq a i=false:=by
       cases hb:Nat.beq a i with
       |false=>rfl
       |true=>have:=Nat.eq_of_beq_eq_true hb;omega
     rw[hb]
     simpa using oL (λj hj=>h j (by omega)) J
   · obtain rfl:a=i:=by omega
     simp
theorem qM {p:Nat->Bool} {k:Nat} (hk:p k=true): ∀{i},k<i->aC p i<i
  |0,h=>absurd h (by omega)
  |i+1,h=>by
   simp only[aC]
   rcases Nat.lt_or_ge k i with J|J
   · have:=qM hk J;cases p i<;>simp<;>omega
   · obtain rfl:k=i:=by omega
     rw[hk];have:=lX p k;simp;omega
theorem zd (p:Nat->Bool): ∀n,(∀j,j<bU n p->p j=false)/\(bU n p<n->p (bU n p)=true)
  |0=>⟨λj h=>absurd h (by simp[bU]),λh=>absurd h (by omega)⟩
  |n+1=>by
   obtain⟨J,U⟩:=zd p n
   have hle:=p9 p n
   unfold bU
   rcases Nat.lt_or_ge (bU n p) n with h|h
   · rw[fw,decide_eq_true h];exact⟨J,λ_=>U h⟩
   · have e:bU n p=n:=by omega
     rw[fw,decide_eq_false (by omega)]
     rw[e]at J
     cases hp:p n with
     |true=>exact⟨J,λ_=>hp⟩
     |false=>
      refine⟨λj hj=>?_,λh=>absurd h (by simp)⟩
      have hj:j<n+1:=hj
      rcases Nat.lt_or_ge j n with h3|h3
      · exact J j h3
      · obtain rfl:j=n:=by omega
        exact hp
def gk (l:Nat->Int) (x:Int) (k:Nat):Bool:=l k==x
def gT (n:Nat) (l:Nat->Int) (x:Int):Nat:=aC (gk l x) n
def jX (n:Nat) (l:Nat->Int) (x:Int):Nat->Int:=aU 0 (gk l x) l n
def lK (n:Nat) (l:Nat->Int) (x:Int) (a:Nat):Int:=bif Nat.blt a (gT n l x)then jX n l x a else 0
def VP (z n:Nat) (p:Nat->Bool):bS where
  σ:=Nat
  rt:= []
  sh i:= [(z,.v (.int .i64 i))]
  mh _:= []
  inv i:=i<=n/\ ∀j,j<i->p j=false
  μ i:=n -i
  init:=0
def ku (p:Nat->Bool) (t:Nat->Int) (j a:Nat):Int:=bif Nat.blt a (aC p j)then aU 0 p t j a else t a
def Zf (n:Nat) (t:Nat->Int) (p:Nat->Bool):bS where
  σ:=Nat
  rt:= []
  sh j:= [(0,.aV 0 0 none 0 n),(5,.v (.int .i64 (aC p j))),(6,.v (.int .i64 j))]
  mh j:= [(0,.row 1 n (iF (ku p t j)))]
  inv j:=bU n p<j/\j<=n
  μ j:=n -j
  init:=bU n p+1
def Zg (n:Nat) (t:Nat->Int) (p:Nat->Bool) (q:Nat):bS where
  σ:=Nat
  rt:= [(q,1)]
  sh j:= [(q,.aV 0 0 none 0 (aC p j)),(q+1,.v (.int .i64 j))]
  mh j:= [(0,.row 1 (aC p j) (iF (aU 0 p t j)))]
  inv j:=j<=n
  μ j:=n -j
  init:=0
structure No where
  (x t:Int)
def Xn:Sy.Spec:=⟨No,λ⟨x,t⟩=> [.v (.int .i64 x),.pt true 1 (λ_=> .v (.int .i64 t))],λ_=> [],λ_=>True,λ⟨x,t⟩=> .v (.bool (x==t)),λ_=> [],
  λargs mem=>match args with| [a0,a1]=>some ⟨av (a0),av (bx a1 0)⟩|_=>none⟩
def Xo:aQ:=⟨[],(Xn).g,none⟩
def Np:No->Prop:=λ⟨x,t⟩=>(x==t)=(x==t)/\True
theorem K2:aL Tryz.prog aO 125 Xo:=aW .nil false Tryz.call125 Tryz.func125 (λ_=> []) (V:=Np) (λ_=>by kernel_rfl) λ⟨x,t⟩ hp=>by
  dsimp only[Np,tn,ah,ak,aE,aD,ay]
  simp only[aS,aZ,eq_self,implies_true,Bool.cond_self]
  try simp only[cu]
structure ze where
  (n:Nat) (l:Nat->Int) (t:Int)
def D0:Sy.Spec:=⟨ze,λ⟨n,l,t⟩=> [.sl true 1 n (λi_ _=> .v (.int .i64 (l i_))),.fn 125 1 (aH [.pt true 1 (λ_=> .v (.int .i64 t))])],λ_=> [],λ⟨n,_,_⟩=>n<=100000,λ⟨n,l,t⟩=> .v (.int .i64 (cN n (gk l t))),λ_=> [],
  λargs mem=>match args with| [a0,a1]=>(match fN 125 a1 with|true=>some ⟨bO a0,λi=>av (bF a0 i 0),av (bx (dc a1 0) 0)⟩|false=>none)|_=>none⟩
def Xp:aQ:=⟨[],(D0).g,none⟩
def Nq:ze->Prop:=λ⟨n,l,t⟩=>let a0:=(n:Int);let b0:=cN n (gk l t);a0<=9223372036854775807->0=((0:Nat):Int)/\True/\(0<=n/\(∀c0:Nat,c0<0->gk l t c0=false))/\(∀d0:Nat,let e0:=(d0:Int);let g0:=decide (e0<a0);let h0:Int:=l (Int.toNat e0);let k0:=h0==t;let l0:Int:=e0+1;d0<=n/\(∀o0:Nat,o0<d0->gk l t o0=false)->(g0=true->(0<=e0/\e0<a0)/\((h0=h0/\(True/\t=t)/\True)/\True/\True)/\(k0=true->e0=b0/\True)/\(k0=false->ah l0=l0/\(∃q0:Nat,l0=(q0:Int)/\True/\(q0<=n/\(∀r0:Nat,r0<q0->gk l t r0=false))/\n-q0<n-d0)))/\(g0=false->(-1)=b0/\True))
theorem VQ:aL Tryz.prog aO 114 Xp:=aW (.cons K2 .nil) false Tryz.call114 Tryz.func114 (λ⟨n,l,t⟩=> [.inv (VP 8 n (gk l t))]) (V:=Nq) (λ_=>by kernel_rfl) λ⟨n,l,t⟩ hp=>by
  dsimp only[D0]at hp
  dsimp only[Nq,tn,ah,ak,aE,aD,ay]
  simp only[aS,aZ,eq_self,implies_true,Bool.cond_self]
  try simp only[cu]
  refineλ_ s hs=>⟨λh=>?_,λh=>?_⟩
  · have ai:=aY h
    exact⟨by omega,λh=>(qc (p:=gk l t) hs.2 h ai).symm,λh=>⟨bM (by omega) (by omega),bZ ⟨⟨by omega,dT (p:=gk l t) hs.2 h⟩,by omega⟩⟩⟩
  · have bo:=bD h
    obtain rfl:s=n:=by omega
    exact(mI (p:=gk l t) hs.2).symm
structure zf where
  (t:Int) (n:Nat) (l:Nat->Int)
def D1:Sy.Spec:=⟨zf,λ⟨t,n,_⟩=> [.aV 0 0 none 0 n,.fn 125 1 (aH [.pt true 1 (λ_=> .v (.int .i64 t))])],λ⟨_,n,l⟩=> [.row 1 n (iF l)],λ⟨_,n,_⟩=>n<=100000,λ⟨t,n,l⟩=> .aV 0 0 none 0 (gT n l t),λ⟨t,n,l⟩=> [.row 1 n (iF (lK n l t))],
  λargs mem=>match args with| [a0,a1]=>(match fN 125 a1 with|true=>some ⟨av (bx (dc a1 0) 0),ki mem 0,λi=>av (jc mem 0 i 0)⟩|false=>none)|_=>none⟩
def Xq:aQ:=⟨[true,false],(D1).g,none⟩
def Nr:zf->Prop:=λ⟨t,n,l⟩=>let a0:=n=n;let b0:=cN n (gk (λc0:Nat=>l (0+c0)) t);let d0:=b0==(-1);let e0:Int:=b0+1;let g0:=0=0/\a0;let h0:=gk l t;let k0:=bU n h0;let l0:=k0+1;let o0:=(n:Int);(((a0/\(∀q0:Nat,q0<n->True/\l (0+q0)=l (0+q0)))/\tn 2 (t=t)/\True)/\True/\D0.match_1 (λr0:ze=>Prop) (ze.mk n (λu0:Nat=>l (0+u0)) t) (λv0:Nat=>λw0:∀x0:Nat,Int=>λy0:Int=>v0<=100000))/\(d0=true->(0=0/\n=gT n l t)/\(a0/\(∀z0:Nat,z0<n->True/\l z0=lK n l t z0))/\True)/\(d0=false->ah e0=e0/\g0/\b0=((aC h0 l0:Nat):Int)/\e0=(l0:Int)/\((a0/\(∀a1:Nat,a1<n->True/\l a1=ku h0 l l0 a1))/\True)/\(k0<l0/\l0<=n)/\(∀b1:Nat,let c1:=(b1:Int);let d1:=decide (c1<o0);let e1:=ku h0 l b1 (0+Int.toNat c1);let g1:=!e1==t;let J:=((aC h0 b1:Nat):Int);let k1:=0<=J;let l1:Int:=J+1;let o1:Int:=c1+1;let q1:=ah o1=o1;let r1:=Int.toNat J;let u1:=0+r1;let v1:=J<=o0;let w1:=u1+(Int.toNat o0-r1);k0<b1/\b1<=n->o0<=9223372036854775807->(d1=true->(0<=c1/\c1<o0)/\((e1=e1/\(True/\t=t)/\True)/\True/\True)/\(g1=true->(k1/\J<o0)/\(∀x1:Nat,false=false)/\ah l1=l1/\q1/\(∃y1:Nat,g0/\l1=((aC h0 y1:Nat):Int)/\o1=(y1:Int)/\((a0/\(∀z1:Nat,z1<n->True/\cond (Nat.beq z1 u1) e1 (ku h0 l b1 z1)=ku h0 l y1 z1))/\True)/\(k0<y1/\y1<=n)/\n-y1<n-b1))/\(g1=false->q1/\(∃a2:Nat,g0/\J=((aC h0 a2:Nat):Int)/\o1=(a2:Int)/\((a0/\(∀b2:Nat,b2<n->True/\ku h0 l b1 b2=ku h0 l a2 b2))/\True)/\(k0<a2/\a2<=n)/\n-a2<n-b1)))/\(d1=false->(k1/\v1/\o0<=o0)/\((∀c2:Nat,true=true)/\w1<=n)/\((0:Int)<=0/\k1/\v1)/\(0=0/\r1-Int.toNat 0=gT n l t)/\(a0/\(∀d2:Nat,d2<n->True/\cond (Nat.ble u1 d2&&Nat.blt d2 w1) 0 (ku h0 l b1 d2)=lK n l t d2))/\
    True)))
set_option maxHeartbeats 1000000 in
theorem VR:aL Tryz.prog aO 124 Xq:=aW (.cons VQ (.cons K2 .nil)) false Tryz.call124 Tryz.func124 (λ⟨t,n,l⟩=> [.inv (Zf n l (gk l t))]) (V:=Nr) (λ_=>by kernel_rfl) λ⟨t,n,l⟩ hp=>by
  dsimp only[D1]at hp
  dsimp only[Nr,tn,ah,ak,aE,aD,ay]
  simp only[aS,aZ,eq_self,implies_true,Bool.cond_self]
  try simp only[cu]
  refine⟨hp,?_⟩
  simp only[show(gk (λc0=>l c0) t)=gk l t from rfl]
  obtain⟨P,hP⟩: ∃P:Nat->Bool,P=gk l t:=⟨_,rfl⟩
  have xb: ∀i,(l i==t)=P i:=λi=>by rw[hP];rfl
  have hW:gT n l t=aC P n:=by rw[hP];rfl
  have hF: ∀a,lK n l t a=bif Nat.blt a (aC P n)then aU 0 P l n a else 0:=λa=>by rw[hP];rfl
  simp only[hW,hF]
  rw[<-hP]
  obtain⟨f1,f2⟩:=zd P n
  have hle:=p9 P n
  have wr: ∀z:Int,-1<=z->z<=200000->IntKind.i64.wrap z=z:=λz J U=>by rw[IntKind.wrap_i64];omega
  rcases Nat.lt_or_ge (bU n P) n with hm|hm
  · have hi:cN n P=(bU n P:Nat):=by unfold cN;rw[fw,decide_eq_true hm];rfl
    have hk:=f2 hm
    have hN:aC P (bU n P+1)=bU n P:=by rw[aC,hk,nF f1];rfl
    have hT: ∀a,a<bU n P->aU 0 P l (bU n P+1) a=l a:=λa ha=>by rw[aU,hk];simpa using oL f1 ha
    rw[hi,hN]
    refine⟨λh=>by have:=eq_of_beq h;omega,λ_=>⟨wr _ (by omega) (by omega),rfl,by omega,λi hi=>?_,by omega,λs hs _=>⟨λh=>?_,λh=>?_⟩⟩⟩
    · unfold ku
      rw[hN]
      rcases Nat.lt_or_ge i (bU n P)with h|h
      · rw[cD h,hT i h];rfl
      · rw[eI h];rfl
    · have ai:=aY h
      have lF:=qM hk hs.1
      have e1:ku P l s s=l s:=by unfold ku;rw[eI (by omega)];rfl
      rw[e1]
      simp only[xb]
      refine⟨by omega,λhn=>?_,λhn=>?_⟩
      · have fa:P s=false:=gM hn
        have dW:aC P (s+1)=aC P s+1:=by rw[aC,fa];rfl
        refine⟨by omega,wr _ (by omega) (by omega),wr _ (by omega) (by omega),s+1,by rw[dW];rfl,rfl,λi hi=>?_,by omega,by omega⟩
        unfold ku
        rw[dW]
        rcases Nat.lt_trichotomy i (aC P s)with h3|h3|h3
        · have e:aU 0 P l (s+1) i=aU 0 P l s i:=by rw[aU,ca (by omega:i≠aC P s)];simp
          rw[ca (by omega:i≠aC P s),cD h3,cD (by omega:i<aC P s+1),e]
          rfl
        · subst h3
          have e:aU 0 P l (s+1) (aC P s)=l s:=by rw[aU,fa,Nat.beq_refl];rfl
          rw[Nat.beq_refl,cD (by omega:aC P s<aC P s+1),e]
          rfl
        · rw[ca (by omega:i≠aC P s),eI (by omega:aC P s<=i),eI (by omega:aC P s+1<=i)]
          rfl
      · have fa:P s=true:=dy hn
        have dW:aC P (s+1)=aC P s:=by rw[aC,fa];rfl
        refine⟨wr _ (by omega) (by omega),s+1,by rw[dW],rfl,λi hi=>?_,by omega,by omega⟩
        have e:aU 0 P l (s+1) i=aU 0 P l s i:=by rw[aU,fa];rfl
        unfold ku
        rw[dW,e]
    · obtain rfl:s=n:=by have:=bD h;omega
      have lF:=qM hk hs.1
      refine⟨by omega,by omega,by omega,rfl,λi hi=>?_⟩
      unfold ku
      rcases Nat.lt_or_ge i (aC P s)with h3|h3
      · rw[EF h3,cD h3];rfl
      · rw[EG h3,eI h3,cD (by omega:i<aC P s+(s -aC P s))];rfl
  · have hN:aC P n=n:=nF λj hj=>f1 j (by omega)
    have hi:cN n P= -1:=by unfold cN;rw[fw,decide_eq_false (by omega)];rfl
    rw[hi,hN]
    refine⟨λ_=>⟨rfl,λi hi=>?_⟩,λh=>by simp at h⟩
    rw[cD hi,oL (λj hj=>f1 j (by omega)) hi];rfl
structure td where
  (t:Int) (n:Nat) (l:Nat->Int)
def zK:Sy.Spec:=⟨td,λ⟨t,n,_⟩=> [.aV 0 0 none 0 n,.pt true 1 (λ_=> .v (.int .i64 t))],λ⟨_,n,l⟩=> [.row 1 n (iF l)],λ⟨_,n,_⟩=>n<=100000,λ⟨t,n,l⟩=> .aV 0 0 none 0 (gT n l t),λ⟨t,n,l⟩=> [.row 1 n (iF (lK n l t))],
  λargs mem=>match args with| [a0,a1]=>some ⟨av (bx a1 0),ki mem 0,λi=>av (jc mem 0 i 0)⟩|_=>none⟩
def Zh:aQ:=⟨[true,false],(zK).g,none⟩
def O8:td->Prop:=λ⟨t,n,l⟩=>(((0=0/\n=n)/\tn 2 (t=t)/\True)/\((n=n/\(∀a0:Nat,a0<n->True/\l a0=l a0))/\True)/\D1.match_1 (λb0:zf=>Prop) (zf.mk t n l) (λc0:Int=>λd0:Nat=>λe0:∀g0:Nat,Int=>d0<=100000))/\(0=0/\gT n l t=gT n l t)/\(n=n/\(∀h0:Nat,let k0:=lK n l t h0;h0<n->True/\k0=k0))/\True
set_option maxHeartbeats 1000000 in
theorem Xr:aL Tryz.prog aO 123 Zh:=aW (.cons VR .nil) false Tryz.call123 Tryz.func123 (λ_=> []) (V:=O8) (λ_=>by kernel_rfl) λ⟨t,n,l⟩ hp=>by
  dsimp only[zK]at hp
  dsimp only[O8,tn,ah,ak,aE,aD,ay]
  simp only[aS,aZ,eq_self,implies_true,Bool.cond_self]
  try simp only[cu]
  exact hp
structure sf where
  (n:Nat) (l:Nat->Int) (x:Int)
def xK:Sy.Spec:=⟨sf,λ⟨n,l,x⟩=> [.sl true 1 n (λi_ _=> .v (.int .i64 (l i_))),.v (.int .i64 x)],λ_=> [],λ⟨n,_,_⟩=>n<=100000,λ⟨n,l,x⟩=> .aV 0 0 none 0 (gT n l x),λ⟨n,l,x⟩=> [.row 1 (gT n l x) (iF (jX n l x))],
  λargs mem=>match args with| [a0,a1]=>some ⟨bO a0,λi=>av (bF a0 i 0),av (a1)⟩|_=>none⟩
def Sx:aQ:=⟨[],(xK).g,none⟩
def Ij:sf->Prop:=λ⟨n,l,x⟩=>let a0:=gk l x;let b0:=aC a0 0;let c0:=0=b0;let d0:=(n:Int);let e0:=gT n l x;(0=0/\c0)/\0=((0:Nat):Int)/\((c0/\(∀g0:Nat,g0<b0->True/\SV.aK=SV.v (Value.int IntKind.i64 (aU 0 a0 l 0 g0))))/\True)/\0<=n/\(∀h0:Nat,let k0:=(h0:Int);let l0:=decide (k0<d0);let o0:=0<=k0/\k0<d0;let q0:Int:=l (Int.toNat k0);let r0:=q0 !=x;let u0:=aC a0 h0;let v0:=u0+1;let w0:Int:=k0+1;let x0:=ah w0=w0;h0<=n->d0<=9223372036854775807->(l0=true->o0/\(r0=true->o0/\True/\(v0*8<=140737488355328/\(∀y0:Nat,true=true))/\x0/\(∃z0:Nat,(0=0/\v0=aC a0 z0)/\w0=(z0:Int)/\((v0=aC a0 z0/\(∀a1:Nat,a1<aC a0 z0->True/\cond (Nat.blt a1 u0) (aU 0 a0 l h0 (0+a1)) (List.getD [q0] (0+(a1-u0)) 0)=aU 0 a0 l z0 a1))/\True)/\z0<=n/\n-z0<n-h0))/\(r0=false->x0/\(∃b1:Nat,(0=0/\u0=aC a0 b1)/\w0=(b1:Int)/\((u0=aC a0 b1/\(∀c1:Nat,c1<aC a0 b1->True/\aU 0 a0 l h0 c1=aU 0 a0 l b1 c1))/\True)/\b1<=n/\n-b1<n-h0)))/\(l0=false->(0=0/\u0=e0)/\(u0=e0/\(∀d1:Nat,d1<e0->True/\aU 0 a0 l h0 d1=jX n l x d1))/\True))
set_option maxHeartbeats 1000000 in
theorem RI:aL Tryz.prog aO 111 Sx:=aW .nil false Tryz.call111 Tryz.func111 (λ⟨n,l,x⟩=> [.inv (Zg n l (gk l x) 5)]) (V:=Ij) (λ_=>by kernel_rfl) λ⟨n,l,x⟩ hp=>by
  dsimp only[xK]at hp
  dsimp only[Ij,tn,ah,ak,aE,aD,ay]
  simp only[aS,aZ,eq_self,implies_true,Bool.cond_self]
  try simp only[cu]
  obtain⟨P,hP⟩: ∃P:Nat->Bool,P=gk l x:=⟨_,rfl⟩
  have hc: ∀i,(l i !=x)=!P i:=λi=>by rw[hP];rfl
  have hW:gT n l x=aC P n:=by rw[hP];rfl
  have hF: ∀a,jX n l x a=aU 0 P l n a:=λa=>by rw[hP];rfl
  simp only[hW,hF]
  rw[<-hP]
  have wr: ∀z:Int,-1<=z->z<=200000->IntKind.i64.wrap z=z:=λz J U=>by rw[IntKind.wrap_i64];omega
  refine⟨rfl,⟨rfl,λi hi=>absurd hi (by simp[aC])⟩,λs hs _=>⟨λh=>?_,λh=>?_⟩⟩
  · have ai:=aY h
    have lF:=lX P s
    rw[hc]
    refine⟨by omega,λhn=>?_,λhn=>?_⟩
    · have fa:P s=false:=gM hn
      have dW:aC P (s+1)=aC P s+1:=by rw[aC,fa];rfl
      refine⟨by omega,by omega,wr _ (by omega) (by omega),s+1,dW.symm,rfl,⟨dW.symm,λi hi=>?_⟩,by omega,by omega⟩
      rw[dW]at hi
      rcases Nat.lt_or_ge i (aC P s)with h3|h3
      · have e:aU 0 P l (s+1) i=aU 0 P l s i:=by rw[aU,ca (by omega:i≠aC P s)];simp
        rw[cD h3,e];rfl
      · obtain rfl:i=aC P s:=by omega
        have e:aU 0 P l (s+1) (aC P s)=l s:=by rw[aU,fa,Nat.beq_refl];rfl
        rw[eI (Nat.le_refl _),e,Nat.sub_self];rfl
    · have fa:P s=true:=dy hn
      have dW:aC P (s+1)=aC P s:=by rw[aC,fa];rfl
      refine⟨wr _ (by omega) (by omega),s+1,dW.symm,rfl,⟨dW.symm,λi hi=>?_⟩,by omega,by omega⟩
      have e:aU 0 P l (s+1) i=aU 0 P l s i:=by rw[aU,fa];rfl
      rw[e]
  · obtain rfl:s=n:=by have:=bD h;omega
    exact⟨rfl,rfl,λ_ _=>rfl⟩
end Go.Proofs.YtmieeldmfehpoaaGreatDoor
set_option linter.unusedVariables false
set_option linter.unusedSimpArgs false
set_option maxRecDepth 100000
namespace Go.Proofs.YtmieeldmfehpoaaGreatDoor
open Go.RowKit Go.Sy
def gU (sp pg:Int) (e:bI):Bool:=e.sp==sp&&e.pg==pg
def fo:bI:=⟨0,0,0,false⟩
def ub (n:Nat) (t:Nat->bI) (sp pg:Int):bI:=bif Nat.blt (bU n λi=>gU sp pg (t i)) n then t (bU n λi=>gU sp pg (t i))else fo
def uc (n:Nat) (t:Nat->bI) (sp pg:Int):Bool:=Nat.blt (bU n λi=>gU sp pg (t i)) n
def GA (n:Nat) (p:Nat->Bool):bS where
  σ:=Nat
  rt:= []
  sh i:= [(8,.v (.int .i64 i))]
  mh _:= []
  inv i:=i<=n/\ ∀j,j<i->p j=false
  μ i:=n -i
  init:=0
structure Lh where
  (e:bI) (sp pg:Int)
def V_:Sy.Spec:=⟨Lh,λ⟨e,sp,pg⟩=> [.ag 4 (aH (eG e)),.pt true 1 (λ_=> .v (.int .i64 sp)),.pt true 1 (λ_=> .v (.int .i64 pg))],λ_=> [],λ_=>True,λ⟨e,sp,pg⟩=> .v (.bool (gU sp pg e)),λ_=> [],
  λargs mem=>match args with| [a0,a1,a2]=>some ⟨jf (cy a0),av (bx a1 0),av (bx a2 0)⟩|_=>none⟩
def V':aQ:=⟨[],(V_).g,none⟩
def Li:Lh->Prop:=λ⟨e,sp,pg⟩=>True/\cond (e.sp==sp) (e.pg==pg) false=gU sp pg e/\True
theorem Ue:aL Tryz.prog aO 117 V':=aW .nil false Tryz.call117 Tryz.func117 (λ_=> []) (V:=Li) (λ_=>by kernel_rfl) λ⟨e,sp,pg⟩ hp=>by
  dsimp only[Li,tn,ah,ak,aE,aD,ay]
  simp only[aS,aZ,eq_self,implies_true,Bool.cond_self]
  rfl
structure NO where
  (n:Nat) (t:Nat->bI) (sp pg:Int)
def XZ:Sy.Spec:=⟨NO,λ⟨n,t,sp,pg⟩=> [.sl true 4 n (rF λi=>eG (t i)),.fn 117 2 (aH [.pt true 1 (λ_=> .v (.int .i64 sp)),.pt true 1 (λ_=> .v (.int .i64 pg))])],λ_=> [],λ_=>True,λ⟨n,t,sp,pg⟩=> .v (.int .i64 (cN n λi=>gU sp pg (t i))),λ_=> [],
  λargs mem=>match args with| [a0,a1]=>(match fN 117 a1 with|true=>some ⟨bO a0,λi=>jf (λj=>bF a0 i j),av (bx (dc a1 0) 0),av (bx (dc a1 1) 0)⟩|false=>none)|_=>none⟩
def X_:aQ:=⟨[],(XZ).g,none⟩
def NP:NO->Prop:=λ⟨n,t,sp,pg⟩=>let a0:=(n:Int);let b0:=cN n (λc0:Nat=>gU sp pg (t c0));a0<=9223372036854775807->0=((0:Nat):Int)/\True/\(0<=n/\(∀d0:Nat,d0<0->gU sp pg (t d0)=false))/\(∀e0:Nat,let g0:=(e0:Int);let h0:=decide (g0<a0);let k0:=t (Int.toNat g0);let l0:=gU sp pg k0;let o0:Int:=g0+1;e0<=n/\(∀q0:Nat,q0<e0->gU sp pg (t q0)=false)->(h0=true->(0<=g0/\g0<a0)/\((ay k0 k0/\(True/\sp=sp)/\(True/\pg=pg)/\True)/\True/\True)/\(l0=true->g0=b0/\True)/\(l0=false->ah o0=o0/\(∃r0:Nat,o0=(r0:Int)/\True/\(r0<=n/\(∀u0:Nat,u0<r0->gU sp pg (t u0)=false))/\n-r0<n-e0)))/\(h0=false->(-1)=b0/\True))
theorem Wa:aL Tryz.prog aO 116 X_:=aW (.cons Ue .nil) false Tryz.call116 Tryz.func116 (λ⟨n,t,sp,pg⟩=> [.inv (GA n λi=>gU sp pg (t i))]) (V:=NP) (λ_=>by kernel_rfl) λ⟨n,t,sp,pg⟩ hp=>by
  dsimp only[NP,tn,ah,ak,aE,aD,ay]
  simp only[aS,eq_self,implies_true,Bool.cond_self]
  intro _ s hs
  refine⟨λh=>?_,λh=>?_⟩
  · have ai:=aY h
    refine⟨by omega,λJ=>?_,λJ=>⟨by rw[IntKind.wrap_i64];omega,bZ ⟨⟨by omega,λj hj=>?_⟩,by omega⟩⟩⟩
    · rw[qc (p:=λi=>gU sp pg (t i)) hs.2 J ai]
    · rcases Nat.lt_or_ge j s with h3|h3
      · exact hs.2 j h3
      · obtain rfl:j=s:=by omega
        exact J
  · obtain rfl:s=n:=by have:=bD h;omega
    rw[mI (p:=λi=>gU sp pg (t i)) hs.2]
structure ye where
  (n:Nat) (t:Nat->bI)
def Ci:Sy.Spec:=⟨ye,λ⟨n,t⟩=> [.sl true 4 n (rF λi=>eG (t i))],λ_=> [],λ⟨n,_⟩=>n<=100000,λ⟨n,_⟩=> .aV 0 0 none 0 n,λ⟨n,t⟩=> [.row 4 n (rF λi=>eG (t i))],
  λargs mem=>match args with| [a0]=>some ⟨bO a0,λi=>jf (λj=>bF a0 i j)⟩|_=>none⟩
def Uf:aQ:=⟨[],(Ci).g,none⟩
def JG:ye->Prop:=λ⟨n,t⟩=> ∀a0:Bool,(a0=true->n=0)->(a0=true->(0=0/\0=n)/\(0=n/\(∀b0:Nat,b0<n->(((True/\SV.aK=SV.v (Value.int IntKind.i64 (t b0).sp))/\SV.aK=SV.v (Value.int IntKind.i64 (t b0).pg))/\SV.aK=SV.v (Value.int IntKind.i64 (t b0).fr))/\SV.aK=SV.v (Value.bool (t b0).wr)))/\True)/\(a0=false->True/\(n*32<=140737488355328/\(∀c0:Nat,true=true))/\(0=0/\n=n)/\(n=n/\(∀d0:Nat,d0<n->ay (t d0) (t d0)))/\True)
theorem SW:aL Tryz.prog aO 99 Uf:=aW .nil false Tryz.call99 Tryz.func99 (λ_=> []) (V:=JG) (λ_=>by kernel_rfl) λ⟨n,t⟩ hp=>by
  dsimp only[Ci]at hp
  dsimp only[JG,tn,ah,ak,aE,aD,ay]
  simp only[aS,eq_self,implies_true,Bool.cond_self]
  intro b hb
  refine⟨λh=>?_,λ_=>?_⟩
  · have:=hb h
    subst this
    exact⟨rfl,rfl,λi hi=>absurd hi (by omega)⟩
  · omega
structure NQ where
  (n:Nat) (t:Nat->bI) (sp pg:Int)
def X':Sy.Spec:=⟨NQ,λ⟨n,t,sp,pg⟩=> [.sl true 4 n (rF λi=>eG (t i)),.v (.int .i64 sp),.v (.int .i64 pg)],λ_=> [],λ_=>True,λ⟨n,t,sp,pg⟩=> .tp 2 (aH [.ag 4 (aH (eG (ub n t sp pg))),.v (.bool (uc n t sp pg))]),λ_=> [],
  λargs mem=>match args with| [a0,a1,a2]=>some ⟨bO a0,λi=>jf (λj=>bF a0 i j),av (a1),av (a2)⟩|_=>none⟩
def Ya:aQ:=⟨[],(X').g,none⟩
def NR:NQ->Prop:=λ⟨n,t,sp,pg⟩=>let a0:=cN n (λb0:Nat=>gU sp pg (t b0));let c0:=decide (a0<0);let d0:=tn 3 True;let e0:=ub n t sp pg;let g0:=uc n t sp pg;tn 3 ((((n=n/\(∀h0:Nat,h0<n->ay (t h0) (t h0)))/\(tn 2 (sp=sp)/\True/\pg=pg)/\True)/\True/\True)/\(c0=true->d0/\((True/\ay (bI.mk 0 0 0 false) e0)/\false=g0)/\True)/\(c0=false->(0<=a0/\a0<(n:Int))/\d0/\((True/\ay (t (Int.toNat a0)) e0)/\true=g0)/\True))
theorem Wb:aL Tryz.prog aO 94 Ya:=aW (.cons Wa .nil) false Tryz.call94 Tryz.func94 (λ_=> []) (V:=NR) (λ_=>by kernel_rfl) λ⟨n,t,sp,pg⟩ hp=>by
  dsimp only[NR,tn,ah,ak,aE,aD,ay]
  simp only[aS,eq_self,implies_true,Bool.cond_self]
  have key: ∀b,uc n t sp pg=b->(b=true/\(cN n λi=>gU sp pg (t i))=(bU n λi=>gU sp pg (t i):Nat)/\(bU n λi=>gU sp pg (t i))<n/\ub n t sp pg=t (bU n λi=>gU sp pg (t i)))\/(b=false/\(cN n λi=>gU sp pg (t i))= -1/\ub n t sp pg=fo):=by
    intro b h
    have h':Nat.blt (bU n λi=>gU sp pg (t i)) n=b:=h
    cases b with
    |true=>left;exact⟨rfl,by unfold cN;rw[h'];rfl,Nat.le_of_ble_eq_true h',by unfold ub;rw[h'];rfl⟩
    |false=>right;exact⟨rfl,by unfold cN;rw[h'];rfl,by unfold ub;rw[h'];rfl⟩
  rcases key _ rfl with⟨J,U,h3,h4⟩|⟨J,U,h4⟩
  · rw[J,U,h4]
    refine⟨λh=>by simp at h;omega,λ_=>⟨by omega,?_,rfl⟩⟩
    rw[Int.toNat_natCast]
    exact⟨⟨⟨rfl,rfl⟩,rfl⟩,rfl⟩
  · rw[J,U,h4]
    exact⟨λ_=>⟨⟨⟨⟨rfl,rfl⟩,rfl⟩,rfl⟩,rfl⟩,λh=>by simp at h⟩
end Go.Proofs.YtmieeldmfehpoaaGreatDoor
