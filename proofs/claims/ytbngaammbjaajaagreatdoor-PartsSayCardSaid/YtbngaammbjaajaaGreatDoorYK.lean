/- What a sound world is: lines, tables. -/
import Derived.Test.YtbngaammbjaajaaGreatDoorYJ
set_option linter.unusedVariables false
set_option linter.unusedSimpArgs false
set_option linter.unusedVariables false
set_option linter.unusedSimpArgs false
set_option maxRecDepth 100000
namespace Go.Proofs.YtbngaammbjaajaaGreatDoor
open Go.RowKit Go.Sy
def CW (s:SV) (k:Int->bH):bH:=match s with| .v (.int _ x)=>k x|_=>k 0
def SM (W:Wd) (f:Nat):bH where
  σ:=Nat
  rt:= [(2,0)]
  sh i:= [(2,bk 0),(7,.v (.int .i64 i))]
  mh _:= []
  inv i:=i<=W.aD f/\ ∀j,j<i->dZ W f (W.lines f j)=true
  μ i:=W.aD f -i
  init:=0
def Re (W:Wd) (n:Nat) (l:Nat->fS):bH where
  σ:=Nat
  rt:= [(2,0)]
  sh i:= [(2,bk 0),(5,.v (.int .i64 i))]
  mh _:= []
  inv i:=i<=n/\ ∀j,j<i->dW W l j=true
  μ i:=n -i
  init:=0
def Rf (l:Nat->fS) (i:Int):bH where
  σ:=Nat
  rt:= [(2,0),(6,0)]
  sh k:= [(2,bk 0),(6,bk 1),(10,.v (.int .i64 k))]
  mh _:= []
  inv k:=k<=i.toNat/\ ∀j,j<k->((l j).sp==(l i.toNat).sp&&(l j).pg==(l i.toNat).pg)=false
  μ k:=i.toNat -k
  init:=0
structure EJ where
  (W:Wd) (f:Int)
def EK:Sy.Spec:=⟨EJ,λ⟨W,f⟩=> [gq W,.v (.int .i64 f)],λ_=> [],λ⟨W,f⟩=>bL W/\js W/\0<=f/\f<W.ae,λ⟨W,f⟩=> .v (.bool (ct W f.toNat)),λ_=> [],
  λargs mem=>match args with| [a0,a1]=>some ⟨gf a0,ao (a1)⟩|_=>none⟩
def My:aX:=⟨[],(EK).g,none⟩
def EL:EJ->Prop:=λ⟨W,f⟩=>let a0:=W.bz;let b0:=W.ae;let c0:=Int.toNat f;let d0:=W.aD c0;let e0:=(d0:Int);let g0:=e0<=9223372036854775807;let h0:=decide (0<e0);let k0:=W.kinds c0;let l0:=k0 !=8;let o0:=cond (cond h0 (k0 !=7) false) l0 false;let q0:=W.aI;let r0:=0<=f/\f<(q0:Int);let u0:=W.bits c0;let v0:=cond o0 true (cond (u0 !=0) (cond l0 true h0) false);let w0:=v0=false;let x0:=cond v0 true (al u0 65535);let y0:=ct W c0;let z0:=false=y0/\True;let a1:=SV.ptr 0 0 none 0 0=SV.ptr 0 0 none 0 0;let b1:=W.av;let c1:=W.aV;let d1:=W.aE;let e1:=W.aY;let g1:=((((((((((True/\W.ar=W.ar/\(∀J:Nat,J<W.ar->True/\W.af J=W.af J))/\b0=b0/\(∀k1:Nat,k1<b0->True/\W.kinds k1=W.kinds k1))/\b1=b1/\(∀l1:Nat,l1<b1->aF (W.aj l1) (W.aj l1)))/\c1=c1/\(∀o1:Nat,o1<c1->aG (W.tasks o1) (W.tasks o1)))/\a0=a0/\(∀q1:Nat,let r1:=W.aD q1;q1<a0->True/\r1=r1/\(∀u1:Nat,u1<r1->True/\W.lines q1 u1=W.lines q1 u1)))/\q0=q0/\(∀v1:Nat,v1<q0->True/\W.bits v1=W.bits v1))/\d1=d1/\(∀w1:Nat,w1<d1->True/\W.aM w1=W.aM w1))/\e1=e1/\(∀x1:Nat,let y1:=W.aL x1;x1<e1->True/\y1=y1/\(∀z1:Nat,z1<y1->True/\W.ready x1 z1=W.ready x1 z1)))/\W.aK=W.aK/\(∀a2:Nat,let b2:=W.aQ a2;a2<W.aK->True/\b2=b2/\(∀c2:Nat,c2<b2->aH (W.aB a2 c2) (W.aB a2 c2))))/\W.az=W.az/\(∀d2:Nat,d2<W.az->True/\W.aU d2=W.aU d2))/\W.time=W.time;let e2:=g1/\True;let g2:=(c1:Int);let U:=W.lines c0 (Int.toNat 0);let k2:=(W.tasks (Int.toNat U)).st==4;True/\(0<=f/\f<(a0:Int))/\(0<=f/\f<(b0:Int))/\(g0->(o0=false->r0)/\(w0->r0)/\(w0->(u0=u0/\(65535:Int)=65535/\True)/\True/\
    True)/\(x0=true->z0)/\(x0=false->a1/\0=((0:Nat):Int)/\e2/\(0<=d0/\(∀l2:Nat,l2<0->dZ W c0 (W.lines c0 l2)=true))/\(∀o2:Nat,let q2:=(o2:Int);let r2:=decide (q2<e0);let u2:=0<=q2/\q2<e0;let v2:=W.lines c0 (Int.toNat q2);let w2:=bM W v2 !=6;let x2:=w2=false;let y2:=0<=v2/\v2<g2;let z2:=W.tasks (Int.toNat v2);let a3:=cond w2 true (z2.loc !=f);let b3:=(z2.st==4) !=k2;let c3:Int:=q2+1;o2<=d0/\(∀d3:Nat,d3<o2->dZ W c0 (W.lines c0 d3)=true)->g0->(r2=true->tn 3 (u2/\True/\((g1/\v2=v2/\True)/\True/\True)/\tn 6 ((x2->u2)/\True/\(x2->y2)/\tn 3 ((a3=true->z0)/\(a3=false->tn 4 (u2/\True/\y2/\tn 6 (((0:Int)<=0/\0<e0)/\True/\(0<=U/\U<g2)/\tn 3 ((b3=true->z0)/\(b3=false->ak c3=c3/\(∃e3:Nat,a1/\c3=(e3:Int)/\e2/\(e3<=d0/\(∀g3:Nat,g3<e3->dZ W c0 (W.lines c0 g3)=true))/\d0-e3<d0-o2))))))))))/\(r2=false->true=y0/\True))))
theorem L6:aW Tryz.prog bf 36 My:=bd (.cons qK (.cons sw .nil)) false Tryz.call36 Tryz.func36 (λ⟨W,f⟩=> [.inv (SM W f.toNat)]) (V:=EL) (λ_=>by kernel_rfl) λ⟨W,f⟩ hp=>by
  dsimp only[EK]at hp
  dsimp only[EL,tn,ak,bx,aG,aF,aH]
  obtain⟨hz,hm,f0,f1⟩:=hp
  obtain⟨F,rfl⟩: ∃F:Nat,f=F:=⟨f.toNat,by omega⟩
  simp only[bn,bG,eq_self,implies_true,Bool.cond_self]
  have lD:=hz.tasks
  have lV:=hz.k1
  have p_:=hz.lines
  have DT:=hz.bits
  have hL:=hm.1 F (by omega)
  rw[show decide ((0:Int)<(W.aD F:Int))=decide (0<W.aD F)from decide_eq_decide.2 (by omega)]
  refine⟨by omega,by omega,λ_=>⟨λ_=>by omega,λ_=>by omega,λh=>qa λht=>?_,λh s hs _=>?_⟩⟩
  · unfold ct at ht
    simp only[Bool.and_eq_true (a:=_) (b:=fj _ _),Bool.not_eq_true',Bool.and_eq_true (a:=!_) (b:=!_),Bool.and_eq_true (a:=!_&&!_) (b:=!_)]at ht
    obtain⟨⟨⟨a,b⟩,c⟩,_⟩:=ht
    rw[a,b,c]at h
    exact Bool.false_ne_true h
  have core:ct W F=fj (W.aD F) λi=>dZ W F (W.lines F i):=by
    rw[Bool.or_eq_false_iff,Bool.or_eq_false_iff]at h
    obtain⟨⟨a,b⟩,c⟩:=h
    unfold ct;rw[a,b,c];rfl
  rw[core]
  refine⟨λJ=>?_,λJ=>?_⟩
  · have ai:=br J
    have hk: ∀t,(bM W t !=6)=false->0<=t/\t<W.aV:=λt h=>by
      rw[lD];exact jB (by rw[show bM W t=6 by simpa using h];decide)
    refine⟨by omega,λ_=>by omega,hk _,λU=>?_,λU=>?_⟩
    · refine(mr (p:=λi=>dZ W F (W.lines F i)) ai ?_).symm
      revert U
      show _->dZ W F (W.lines F s)=false
      simp only[bne]
      unfold dZ
      cases bM W (W.lines F s)==6<;>cases (W.tasks (W.lines F s).toNat).loc==F<;>simp
    · have mW:=U
      rw[Bool.or_eq_false_iff]at mW
      have DU:0<=W.lines F 0/\W.lines F 0<W.aV:=by
        rcases Nat.eq_zero_or_pos s with h|h
        · subst h;exact hk _ mW.1
        · have:=hs.2 0 h
          unfold dZ at this
          simp only[Bool.and_eq_true,beq_iff_eq]at this
          rw[lD];exact jB (by rw[this.1.1];decide)
      have Va:(bM W (W.lines F s)==6)=true:=by have:=mW.1;revert this;simp only[bne];cases bM W (W.lines F s)==6<;>simp
      have Vb:((W.tasks (W.lines F s).toNat).loc==F)=true:=by have:=mW.2;revert this;simp only[bne];cases (W.tasks (W.lines F s).toNat).loc==F<;>simp
      have ht:dZ W F (W.lines F s)=(nf W (W.lines F s)==nf W (W.lines F 0)):=by unfold dZ;rw[Va,Vb];rfl
      refine⟨by omega,hk _ mW.1,⟨by decide,by omega⟩,DU,λh3=>?_,λh3=>⟨by rw[IntKind.wrap_i64];omega,bP ⟨⟨by omega,tD hs.2 ?_⟩,by omega⟩⟩⟩
      · refine(mr (p:=λi=>dZ W F (W.lines F i)) ai ?_).symm
        show dZ W F (W.lines F s)=false
        rw[ht]
        exact by simpa [bne]using (show(!(nf W (W.lines F s)==nf W (W.lines F 0)))=true from h3)
      · rw[ht]
        exact by simpa [bne]using (show(!(nf W (W.lines F s)==nf W (W.lines F 0)))=false from h3)
  · have bI:=bJ J
    obtain rfl:s=W.aD F:=by omega
    exact(sO hs.2).symm
structure Ej where
  (W:Wd) (i:Int)
def Ek:Sy.Spec:=⟨Ej,λ⟨W,i⟩=> [gq W,.v (.int .i64 i)],λ_=> [],λ⟨W,i⟩=>bL W/\0<=i/\i<W.ar/\gN (W.af i.toNat),λ⟨W,i⟩=> .v (.bool (cm W i.toNat)),λ_=> [],
  λargs mem=>match args with| [a0,a1]=>some ⟨gf a0,ao (a1)⟩|_=>none⟩
def L7:aX:=⟨[],(Ek).g,none⟩
def El:Ej->Prop:=λ⟨W,i⟩=>let a0:=W.ar;let b0:Int:=i/16;let c0:=W.ae;let d0:=W.af (Int.toNat i);let e0:=W.kinds (Int.toNat b0);let g0:=cond (d0==0) true (cond (e0 !=3) (e0 !=4) false);let h0:=cm W (Int.toNat i);let k0:=e0==4;let l0:Int:=d0%1024;let o0:Int:=d0-l0;let q0:=ak o0=o0;let r0:=o0==32768;let u0:=W.av;let v0:=W.aV;let w0:=W.bz;let x0:=W.aE;let y0:=W.aY;let z0:=((((((((((((True/\a0=a0/\(∀a1:Nat,a1<a0->True/\W.af a1=W.af a1))/\c0=c0/\(∀b1:Nat,b1<c0->True/\W.kinds b1=W.kinds b1))/\u0=u0/\(∀c1:Nat,c1<u0->aF (W.aj c1) (W.aj c1)))/\v0=v0/\(∀d1:Nat,d1<v0->aG (W.tasks d1) (W.tasks d1)))/\w0=w0/\(∀e1:Nat,let g1:=W.aD e1;e1<w0->True/\g1=g1/\(∀J:Nat,J<g1->True/\W.lines e1 J=W.lines e1 J)))/\W.aI=W.aI/\(∀k1:Nat,k1<W.aI->True/\W.bits k1=W.bits k1))/\x0=x0/\(∀l1:Nat,l1<x0->True/\W.aM l1=W.aM l1))/\y0=y0/\(∀o1:Nat,let q1:=W.aL o1;o1<y0->True/\q1=q1/\(∀r1:Nat,r1<q1->True/\W.ready o1 r1=W.ready o1 r1)))/\W.aK=W.aK/\(∀u1:Nat,let v1:=W.aQ u1;u1<W.aK->True/\v1=v1/\(∀w1:Nat,w1<v1->aH (W.aB u1 w1) (W.aB u1 w1))))/\W.az=W.az/\(∀x1:Nat,x1<W.az->True/\W.aU x1=W.aU x1))/\W.time=W.time)/\l0=l0/\True)/\True/\True;let y1:=bM W l0;let z1:=cond r0 true (o0==49152);True/\(0<=i/\i<(a0:Int))/\(0<=i/\(0:Int)<16/\ak b0=b0)/\(0<=b0/\b0<(c0:Int))/\(g0=true->true=h0/\True)/\(g0=false->(0<=d0/\(0:Int)<1024)/\(k0=true->q0/\(r0=true->z0)/\cond r0 (y1==3) false=h0/\True)/\(k0=false->q0/\(r0=false->q0)/\(z1=true->z0)/\cond z1 (y1==2) false=h0/\True))
theorem LF:aW Tryz.prog bf 38 L7:=bd (.cons sw .nil) false Tryz.call38 Tryz.func38 (λ_=> []) (V:=El) (λ_=>by kernel_rfl) λ⟨W,i⟩ hp=>by
  dsimp only[Ek]at hp
  dsimp only[El,tn,ak,bx,aG,aF,aH]
  obtain⟨hz,i0,i1,hw⟩:=hp
  obtain⟨I,rfl⟩: ∃I:Nat,i=I:=⟨i.toNat,by omega⟩
  simp only[bn,bG,eq_self,implies_true,Bool.cond_self]
  have lC:((I:Int)/16).toNat=I/16:=by omega
  rw[lC]
  rw[Int.toNat_natCast]at hw
  unfold gN at hw
  have lD:=hz.af
  have lV:=hz.k1
  refine⟨by omega,⟨by decide,by rw[IntKind.wrap_i64];omega⟩,by omega,λh=>?_,λh=>⟨⟨hw.1,by decide⟩,λJ=>⟨by rw[IntKind.wrap_i64];omega,?_⟩,λJ=>⟨by rw[IntKind.wrap_i64];omega,λ_=>by rw[IntKind.wrap_i64];omega,?_⟩⟩⟩
  · simp only[cm];rw[h];rfl
  · simp only[cm];rw[h,J];rfl
  · simp only[cm];rw[h,J];rfl
structure Fz where
  (W:Wd) (n:Nat) (l:Nat->fS)
def FA:Sy.Spec:=⟨Fz,λ⟨W,n,l⟩=> [gq W,.sl true 4 n (rF λi=>lu (l i))],λ_=> [],λ⟨W,n,_⟩=>bL W/\n<=1000/\ ∀i,i<W.ar->gN (W.af i),λ⟨W,n,l⟩=> .v (.bool (b_ W n l)),λ_=> [],
  λargs mem=>match args with| [a0,a1]=>some ⟨gf a0,bN a1,λi=>rp (λj=>bD a1 i j)⟩|_=>none⟩
def Ny:aX:=⟨[],(FA).g,none⟩
def FB:Fz->Prop:=λ⟨W,n,l⟩=>let a0:=(n:Int);let b0:=decide (4<a0);let c0:=false=b_ W n l/\True;let d0:=SV.ptr 0 0 none 0 0=SV.ptr 0 0 none 0 0;let e0:=W.ar;let g0:=e0=e0/\(∀h0:Nat,h0<e0->True/\W.af h0=W.af h0);let k0:=W.ae;let l0:=W.av;let o0:=W.aV;let q0:=W.bz;let r0:=W.aE;let u0:=W.aY;let v0:=((((((((((True/\g0)/\k0=k0/\(∀w0:Nat,w0<k0->True/\W.kinds w0=W.kinds w0))/\l0=l0/\(∀x0:Nat,x0<l0->aF (W.aj x0) (W.aj x0)))/\o0=o0/\(∀y0:Nat,y0<o0->aG (W.tasks y0) (W.tasks y0)))/\q0=q0/\(∀z0:Nat,let a1:=W.aD z0;z0<q0->True/\a1=a1/\(∀b1:Nat,b1<a1->True/\W.lines z0 b1=W.lines z0 b1)))/\W.aI=W.aI/\(∀c1:Nat,c1<W.aI->True/\W.bits c1=W.bits c1))/\r0=r0/\(∀d1:Nat,d1<r0->True/\W.aM d1=W.aM d1))/\u0=u0/\(∀e1:Nat,let g1:=W.aL e1;e1<u0->True/\g1=g1/\(∀J:Nat,J<g1->True/\W.ready e1 J=W.ready e1 J)))/\W.aK=W.aK/\(∀k1:Nat,let l1:=W.aQ k1;k1<W.aK->True/\l1=l1/\(∀o1:Nat,o1<l1->aH (W.aB k1 o1) (W.aB k1 o1))))/\W.az=W.az/\(∀q1:Nat,q1<W.az->True/\W.aU q1=W.aU q1))/\W.time=W.time;let r1:=v0/\True;let u1:=True/\True;let v1:=W.af;let w1:=SV.ptr (0+1) 0 none 0 0=SV.ptr 1 0 none 0 0;True/\(a0<=9223372036854775807->(b0=true->c0)/\(b0=false->d0/\0=((0:Nat):Int)/\r1/\(0<=n/\(∀x1:Nat,x1<0->dW W l x1=true))/\(∀y1:Nat,let z1:=(y1:Int);let a2:=decide (z1<a0);let b2:=Int.toNat z1;let c2:=l b2;let d2:=c2.sp;let e2:=d2=d2;let g2:=bM W d2 !=4;let U:=c2.pg;let k2:=cond g2 true (al U 255);let l2:Int:=16*U;let o2:=cond (cond (dC e0 v1 d2 l2 !=0) true (ff e0 v1 d2 l2 !=c2.fr)) true (fg e0 v1 d2 l2 !=c2.wr);
    let q2:=v0/\aH c2 c2/\True;let r2:Int:=z1+1;y1<=n/\(∀u2:Nat,u2<y1->dW W l u2=true)->a0<=9223372036854775807->(a2=true->(0<=z1/\z1<a0)/\True/\tn 2 u1/\((v0/\e2/\True)/\u1)/\(g2=false->(U=U/\(255:Int)=255/\True)/\u1)/\(k2=true->c0)/\(k2=false->ak l2=l2/\((g0/\e2/\l2=l2/\True)/\True/\(∀v2:Nat,v2<e0->0<=v1 v2/\v1 v2<=65535))/\(o2=true->c0)/\(o2=false->d0/\w1/\0=((0:Nat):Int)/\q2/\(0<=b2/\(∀w2:Nat,w2<0->((l w2).sp==d2&&(l w2).pg==U)=false))/\(∀x2:Nat,let y2:=(x2:Int);let z2:=decide (y2<z1);let a3:=0<=y2/\y2<a0;let b3:=l (Int.toNat y2);let c3:=b3.sp==d2;let d3:=cond c3 (b3.pg==U) false;let e3:Int:=y2+1;x2<=b2/\(∀g3:Nat,g3<x2->((l g3).sp==d2&&(l g3).pg==U)=false)->(z2=true->tn 2 (a3/\tn 8 ((c3=true->a3)/\tn 4 ((d3=true->c0)/\(d3=false->ak e3=e3/\(∃h3:Nat,d0/\w1/\e3=(h3:Int)/\q2/\(h3<=b2/\(∀k3:Nat,k3<h3->((l k3).sp==d2&&(l k3).pg==U)=false))/\b2-h3<b2-x2))))))/\(z2=false->ak r2=r2/\(∃l3:Nat,d0/\r2=(l3:Int)/\r1/\(l3<=n/\(∀o3:Nat,o3<l3->dW W l o3=true))/\n-l3<n-y1))))))/\(a2=false->true=b_ W n l/\True))))
theorem Mx:aW Tryz.prog bf 39 Ny:=bd (.cons qK (.cons sw (.cons Nb .nil))) false Tryz.call39 Tryz.func39 (λ⟨W,n,l⟩=> [.inv (Re W n l),.pk false λfr=>CW (fr 5) (Rf l)]) (V:=FB) (λ_=>by kernel_rfl) λ⟨W,n,l⟩ hp=>by
  dsimp only[FA]at hp
  dsimp only[FB,tn,ak,bx,aG,aF,aH]
  obtain⟨hz,hn,hw⟩:=hp
  simp only[bn,bG,eq_self,implies_true,Bool.cond_self]
  have wr: ∀z:Int,-100000<=z->z<=100000->IntKind.i64.wrap z=z:=λz J U=>by rw[IntKind.wrap_i64];omega
  refineλ_=>⟨λh=>qa λht=>?_,λh s hs _=>?_⟩
  · unfold b_ at ht
    simp only[Bool.and_eq_true,decide_eq_true_eq]at ht h
    omega
  have core:b_ W n l=fj n λi=>dW W l i:=by
    unfold b_;rw[decide_eq_true (show n<=4 by have:=of_decide_eq_false h;omega)];rfl
  rw[core]
  refine⟨λJ=>?_,λJ=>?_⟩
  · have ai:=br J
    refine⟨by omega,λU=>?_,λU=>⟨?_,hw,λh3=>?_,λh3 k hk=>⟨λh4=>⟨by have:=br h4;omega,λ_=>by have:=br h4;omega,λh5=>?_,λh5=>⟨wr _ (by have:=br h4;omega) (by have:=br h4;omega),bP ⟨⟨by have:=br h4;omega,dn (p:=λj=>(l j).sp==(l s).sp&&(l j).pg==(l s).pg) hk.2 h5⟩,by have:=br h4;omega⟩⟩⟩,λh4=>⟨wr _ (by omega) (by omega),bP ⟨⟨by omega,tD hs.2 ?_⟩,by omega⟩⟩⟩⟩⟩
    · refine(mr (p:=λi=>dW W l i) ai ?_).symm
      show dW W l s=false
      revert U;simp only[bne];unfold dW
      cases bM W (l s).sp==4<;>cases al (l s).pg 255<;>simp
    · have hf:al (l s).pg 255=false:=by rw[Bool.or_eq_false_iff]at U;exact U.2
      have:0<=(l s).pg/\(l s).pg<=255:=by simp[al]at hf;omega
      exact wr _ (by omega) (by omega)
    · refine(mr (p:=λi=>dW W l i) ai ?_).symm
      show dW W l s=false
      revert h3;simp only[bne];unfold dW
      cases dC W.ar W.af (l s).sp (16*(l s).pg)==0<;>cases ff W.ar W.af (l s).sp (16*(l s).pg)==(l s).fr<;>cases fg W.ar W.af (l s).sp (16*(l s).pg)==(l s).wr<;>simp
    · refine(mr (p:=λi=>dW W l i) ai ?_).symm
      show dW W l s=false
      unfold dW
      rw[lE.2 ⟨k,br h4,h5⟩]
      simp
    · have bI:=bJ h4
      obtain rfl:k=s:=by omega
      revert U h3
      simp only[bne];unfold dW
      rw[mu.2 hk.2]
      cases bM W (l k).sp==4<;>cases al (l k).pg 255<;>cases dC W.ar W.af (l k).sp (16*(l k).pg)==0<;>cases ff W.ar W.af (l k).sp (16*(l k).pg)==(l k).fr<;>cases fg W.ar W.af (l k).sp (16*(l k).pg)==(l k).wr<;>simp
  · have bI:=bJ J
    obtain rfl:s=n:=by omega
    exact(sO hs.2).symm
end Go.Proofs.YtbngaammbjaajaaGreatDoor
set_option linter.unusedVariables false
set_option linter.unusedSimpArgs false
set_option maxRecDepth 100000
namespace Go.Proofs.YtbngaammbjaajaaGreatDoor
open Go.RowKit Go.Sy
def wE (W:Wd):Int:=(wm W).1
def wA (W:Wd):Int:=(wm W).2
def k_ (k n:Nat) (p:Nat->Bool):bH where
  σ:=Nat
  rt:= [(1,0),(2,0)]
  sh i:= [(1,bk 0),(2,bk 1),(k,.v (.int .i64 i))]
  mh _:= []
  inv i:=i<=n/\ ∀j,j<i->p j=false
  μ i:=n -i
  init:=0
def Rb (W:Wd) (i:Int):bH where
  σ:=Nat
  rt:= [(1,0),(2,0)]
  sh k:= [(1,bk 0),(2,bk 1),(14,.v (.int .i64 k))]
  mh _:= []
  inv k:=k<=W.aL i.toNat/\ ∀j,j<k->cP W (W.ready i.toNat j) (i/4) (i%4)=true
  μ k:=W.aL i.toNat -k
  init:=0
def Cr (k n:Nat) (p:Nat->Bool):bH where
  σ:=Nat
  rt:= [(1,0)]
  sh i:= [(1,bk 0),(k,.v (.int .i64 i))]
  mh _:= []
  inv i:=i<=n/\ ∀j,j<i->p j=false
  μ i:=n -i
  init:=0
structure Sm (W:Wd):Prop where
  af:W.ar<=1000
  kinds:W.ae<=100
  aj:W.av<=1000
  tasks:W.aV<=100
  lines:W.bz<=100
  bits:W.aI<=100
  aM:W.aE<=50
  ready:W.aY<=100
  aB:W.aK<=50
  aU:W.az<=50
  sm:js W
theorem pz {a b:Int} {c d:Nat} (h:a=b↔c=d):(a !=b)=(c !=d):=by rw[Bool.eq_iff_iff,bne_iff_ne,bne_iff_ne,ne_eq,ne_eq,h]
theorem Fl (W:Wd):(decide ((W.ae:Int)<1)||decide ((24:Int)<(W.ae:Int))||decide ((W.aE:Int)<1)||decide ((4:Int)<(W.aE:Int))||(W.ar:Int) !=(W.ae:Int)*16||(W.av:Int) !=(W.ae:Int)*16||(W.aV:Int) !=(W.ae:Int)||(W.bz:Int) !=(W.ae:Int)||(W.aI:Int) !=(W.ae:Int)||(W.aY:Int) !=(W.aE:Int)*4||(W.aK:Int) !=(W.aE:Int)||decide ((W.az:Int)<1)||decide ((8:Int)<(W.az:Int))||al W.time 1000000)=nL W:=by
  unfold nL
  rw[show decide ((W.ae:Int)<1)=decide (W.ae<1)from decide_eq_decide.2 (by omega),show decide ((24:Int)<(W.ae:Int))=decide (24<W.ae)from decide_eq_decide.2 (by omega),show decide ((W.aE:Int)<1)=decide (W.aE<1)from decide_eq_decide.2 (by omega),show decide ((4:Int)<(W.aE:Int))=decide (4<W.aE)from decide_eq_decide.2 (by omega),show decide ((W.az:Int)<1)=decide (W.az<1)from decide_eq_decide.2 (by omega),show decide ((8:Int)<(W.az:Int))=decide (8<W.az)from decide_eq_decide.2 (by omega),
   pz (a:=W.ar) (c:=W.ar) (d:=W.ae*16) (by omega),pz (a:=W.av) (c:=W.av) (d:=W.ae*16) (by omega),pz (a:=W.aV) (c:=W.aV) (d:=W.ae) (by omega),pz (a:=W.bz) (c:=W.bz) (d:=W.ae) (by omega),pz (a:=W.aI) (c:=W.aI) (d:=W.ae) (by omega),pz (a:=W.aY) (c:=W.aY) (d:=W.aE*4) (by omega),pz (a:=W.aK) (c:=W.aK) (d:=W.aE) (by omega)]
theorem HS (W:Wd) (s:Nat):(W.aM s != -1&&!cP W (W.aM s) s (-1))=!cE W s:=by unfold cE;simp only[bne,Bool.not_or]
def jl (W:Wd):Bool:=decide (1000<W.ar)||decide (100<W.ae)||decide (1000<W.av)||decide (100<W.aV)||decide (100<W.bz)||decide (100<W.aI)||decide (50<W.aE)||decide (100<W.aY)||decide (50<W.aK)||decide (50<W.az)||cX W.bz (λi=>decide (50<W.aD i))||cX W.aY (λi=>decide (50<W.aL i))||cX W.aK (λi=>decide (50<W.aQ i))
theorem RW {W:Wd} (h:jl W=false):Sm W:=by
  unfold jl at h
  simp only[Bool.or_eq_false_iff,decide_eq_false_iff_not,Nat.not_lt,mu]at h
  obtain⟨⟨⟨⟨⟨⟨⟨⟨⟨⟨⟨⟨J,U⟩,h3⟩,h4⟩,h5⟩,h6⟩,h7⟩,h8⟩,h9⟩,cv⟩,dM⟩,ib⟩,gJ⟩:=h
  exact⟨J,U,h3,h4,h5,h6,h7,h8,h9,cv,dM,ib,gJ⟩
structure Eh where
  (W:Wd)
def LY:Sy.Spec:=⟨Eh,λ⟨W⟩=> [gq W],λ_=> [],λ_=>True,λ⟨W⟩=> .v (.bool (jl W)),λ_=> [],
  λargs mem=>match args with| [a0]=>some ⟨gf a0⟩|_=>none⟩
def LZ:aX:=⟨[],(LY).g,none⟩
def Ei:Eh->Prop:=λ⟨W⟩=>let a0:=W.ar;let b0:=W.ae;let c0:=W.av;let d0:=W.aV;let e0:=W.bz;let g0:=(e0:Int);let h0:=W.aI;let k0:=W.aE;let l0:=W.aY;let o0:=(l0:Int);let q0:=W.aK;let r0:=(q0:Int);let u0:=W.az;let v0:=cond (cond (cond (cond (cond (cond (cond (cond (cond (decide (1000<(a0:Int))) true (decide (100<(b0:Int)))) true (decide (1000<(c0:Int)))) true (decide (100<(d0:Int)))) true (decide (100<g0))) true (decide (100<(h0:Int)))) true (decide (50<(k0:Int)))) true (decide (100<o0))) true (decide (50<r0))) true (decide (50<(u0:Int)));let w0:=true=jl W/\True;let x0:=SV.ptr 0 0 none 0 0=SV.ptr 0 0 none 0 0;let y0:=0=((0:Nat):Int);let z0:=(((((((((((True/\a0=a0/\(∀a1:Nat,a1<a0->True/\W.af a1=W.af a1))/\b0=b0/\(∀b1:Nat,b1<b0->True/\W.kinds b1=W.kinds b1))/\c0=c0/\(∀c1:Nat,c1<c0->aF (W.aj c1) (W.aj c1)))/\d0=d0/\(∀d1:Nat,d1<d0->aG (W.tasks d1) (W.tasks d1)))/\e0=e0/\(∀e1:Nat,let g1:=W.aD e1;e1<e0->True/\g1=g1/\(∀J:Nat,J<g1->True/\W.lines e1 J=W.lines e1 J)))/\h0=h0/\(∀k1:Nat,k1<h0->True/\W.bits k1=W.bits k1))/\k0=k0/\(∀l1:Nat,l1<k0->True/\W.aM l1=W.aM l1))/\l0=l0/\(∀o1:Nat,let q1:=W.aL o1;o1<l0->True/\q1=q1/\(∀r1:Nat,r1<q1->True/\W.ready o1 r1=W.ready o1 r1)))/\q0=q0/\(∀u1:Nat,let v1:=W.aQ u1;u1<q0->True/\v1=v1/\(∀w1:Nat,w1<v1->aH (W.aB u1 w1) (W.aB u1 w1))))/\u0=u0/\(∀x1:Nat,x1<u0->True/\W.aU x1=W.aU x1))/\W.time=W.time)/\True;True/\((a0:Int)<=9223372036854775807->(v0=true->w0)/\(v0=false->x0/\y0/\z0/\(0<=e0/\(∀y1:Nat,y1<0->decide (50<W.aD y1)=false))/\(∀z1:Nat,let a2:=(z1:Int);
    let b2:=decide (a2<g0);let c2:=((W.aD (Int.toNat a2):Nat):Int);let d2:=decide (50<c2);let e2:Int:=a2+1;z1<=e0/\(∀g2:Nat,g2<z1->decide (50<W.aD g2)=false)->g0<=9223372036854775807->(b2=true->(0<=a2/\a2<g0)/\(c2<=9223372036854775807->(d2=true->w0)/\(d2=false->ak e2=e2/\(∃U:Nat,x0/\e2=(U:Int)/\z0/\(U<=e0/\(∀k2:Nat,k2<U->decide (50<W.aD k2)=false))/\e0-U<e0-z1))))/\(b2=false->x0/\y0/\z0/\(0<=l0/\(∀l2:Nat,l2<0->decide (50<W.aL l2)=false))/\(∀o2:Nat,let q2:=(o2:Int);let r2:=decide (q2<o0);let u2:=((W.aL (Int.toNat q2):Nat):Int);let v2:=decide (50<u2);let w2:Int:=q2+1;o2<=l0/\(∀x2:Nat,x2<o2->decide (50<W.aL x2)=false)->o0<=9223372036854775807->(r2=true->(0<=q2/\q2<o0)/\(u2<=9223372036854775807->(v2=true->w0)/\(v2=false->ak w2=w2/\(∃y2:Nat,x0/\w2=(y2:Int)/\z0/\(y2<=l0/\(∀z2:Nat,z2<y2->decide (50<W.aL z2)=false))/\l0-y2<l0-o2))))/\(r2=false->x0/\y0/\z0/\(0<=q0/\(∀a3:Nat,a3<0->decide (50<W.aQ a3)=false))/\(∀b3:Nat,let c3:=(b3:Int);let d3:=decide (c3<r0);let e3:=((W.aQ (Int.toNat c3):Nat):Int);let g3:=decide (50<e3);let h3:Int:=c3+1;b3<=q0/\(∀k3:Nat,k3<b3->decide (50<W.aQ k3)=false)->r0<=9223372036854775807->(d3=true->(0<=c3/\c3<r0)/\(e3<=9223372036854775807->(g3=true->w0)/\(g3=false->ak h3=h3/\(∃l3:Nat,x0/\h3=(l3:Int)/\z0/\(l3<=q0/\(∀o3:Nat,o3<l3->decide (50<W.aQ o3)=false))/\q0-l3<q0-b3))))/\(d3=false->false=jl W/\True))))))))
theorem LB:aW Tryz.prog bf 4 LZ:=bd .nil false Tryz.call4 Tryz.func4 (λ⟨W⟩=> [.inv (Cr 3 W.bz λi=>decide (50<W.aD i)),.inv (Cr 4 W.aY λi=>decide (50<W.aL i)),.inv (Cr 5 W.aK λi=>decide (50<W.aQ i))]) (V:=Ei) (λ_=>by kernel_rfl) λ⟨W⟩ hp=>by
  dsimp only[Ei,tn,ak,bx,aG,aF,aH]
  simp only[bn,bG,eq_self,implies_true,Bool.cond_self]
  have cg: ∀(a b:Nat),decide ((a:Int)<(b:Int))=decide (a<b):=λa b=>decide_eq_decide.2 (by omega)
  intro _
  rw[show(decide ((1000:Int)<W.ar))=decide (1000<W.ar)from cg _ _,show(decide ((100:Int)<W.ae))=decide (100<W.ae)from cg _ _,show(decide ((1000:Int)<W.av))=decide (1000<W.av)from cg _ _,show(decide ((100:Int)<W.aV))=decide (100<W.aV)from cg _ _,show(decide ((100:Int)<W.bz))=decide (100<W.bz)from cg _ _,show(decide ((100:Int)<W.aI))=decide (100<W.aI)from cg _ _,show(decide ((50:Int)<W.aE))=decide (50<W.aE)from cg _ _,show(decide ((100:Int)<W.aY))=decide (100<W.aY)from cg _ _,show(decide ((50:Int)<W.aK))=decide (50<W.aK)from cg _ _,show(decide ((50:Int)<W.az))=decide (50<W.az)from cg _ _]
  refine⟨λh=>by unfold jl;rw[h];rfl,λh0 s hs _=>⟨λJ=>?_,λJ s2 cY _=>⟨λU=>?_,λU s3 Lr _=>⟨λh3=>?_,λh3=>?_⟩⟩⟩⟩
  · have ai:=br J
    refine⟨by omega,λ_=>⟨λh=>?_,λh=>⟨by rw[IntKind.wrap_i64];omega,bP ⟨⟨by omega,dn (p:=λi=>decide (50<W.aD i)) hs.2 (by rw[<-h];exact(cg _ _).symm)⟩,by omega⟩⟩⟩⟩
    unfold jl;rw[h0,lE.2 ⟨s,ai,(cg _ _).symm.trans h⟩];rfl
  · have ai:=br U
    refine⟨by omega,λ_=>⟨λh=>?_,λh=>⟨by rw[IntKind.wrap_i64];omega,bP ⟨⟨by omega,dn (p:=λi=>decide (50<W.aL i)) cY.2 (by rw[<-h];exact(cg _ _).symm)⟩,by omega⟩⟩⟩⟩
    unfold jl;rw[h0,lE.2 ⟨s2,ai,(cg _ _).symm.trans h⟩]
    cases cX W.bz λi=>decide (50<W.aD i)<;>rfl
  · have ai:=br h3
    refine⟨by omega,λ_=>⟨λh=>?_,λh=>⟨by rw[IntKind.wrap_i64];omega,bP ⟨⟨by omega,dn (p:=λi=>decide (50<W.aQ i)) Lr.2 (by rw[<-h];exact(cg _ _).symm)⟩,by omega⟩⟩⟩⟩
    unfold jl;rw[h0,lE.2 ⟨s3,ai,(cg _ _).symm.trans h⟩]
    cases cX W.bz λi=>decide (50<W.aD i)<;>cases cX W.aY λi=>decide (50<W.aL i)<;>rfl
  · have g1:=bJ J
    have g2:=bJ U
    have g3:=bJ h3
    unfold jl
    rw[h0,mu.2 (λi hi=>hs.2 i (by omega)),mu.2 (λi hi=>cY.2 i (by omega)),mu.2 (λi hi=>Lr.2 i (by omega))];rfl
structure vu where
  (W:Wd)
def zw:Sy.Spec:=⟨vu,λ⟨W⟩=> [gq W],λ_=> [],λ⟨W⟩=>Sm W,λ⟨W⟩=> .ag 2 (aA [.v (.int .i64 (wE W)),.v (.int .i64 (wA W))]),λ_=> [],
  λargs mem=>match args with| [a0]=>some ⟨gf a0⟩|_=>none⟩
def Mv:aX:=⟨[],(zw).g,none⟩
def EI:vu->Prop:=λ⟨W⟩=>let a0:=W.ae;let b0:=(a0:Int);let c0:=W.aE;let d0:=(c0:Int);let e0:=cond (cond (cond (decide (b0<1)) true (decide (24<b0))) true (decide (d0<1))) true (decide (4<d0));let g0:Int:=b0*16;let h0:=ak g0=g0;let k0:=W.ar;let l0:=(k0:Int);let o0:=cond e0 true (l0 !=g0);let q0:=W.av;let r0:=(q0:Int);let u0:=W.aV;let v0:=W.bz;let w0:=W.aI;let x0:=cond (cond (cond (cond o0 true (r0 !=g0)) true ((u0:Int) !=b0)) true ((v0:Int) !=b0)) true ((w0:Int) !=b0);let y0:Int:=d0*4;let z0:=W.aY;let a1:=(z0:Int);let b1:=W.aK;let c1:=W.az;let d1:=(c1:Int);let e1:=cond (cond (cond (cond x0 true (a1 !=y0)) true ((b1:Int) !=d0)) true (decide (d1<1))) true (decide (8<d1));let g1:=W.time=W.time;let J:=True/\True;let k1:=cond e1 true (al W.time 1000000);let l1:=True/\2=wE W;let o1:=wA W;let q1:=SV.ptr 0 0 none 0 0=SV.ptr 0 0 none 0 0;let r1:=SV.ptr (0+1) 0 none 0 0=SV.ptr 1 0 none 0 0;let u1:=0=((0:Nat):Int);
    let v1:=((((((((((True/\k0=k0/\(∀w1:Nat,w1<k0->True/\W.af w1=W.af w1))/\a0=a0/\(∀x1:Nat,x1<a0->True/\W.kinds x1=W.kinds x1))/\q0=q0/\(∀y1:Nat,y1<q0->aF (W.aj y1) (W.aj y1)))/\u0=u0/\(∀z1:Nat,z1<u0->aG (W.tasks z1) (W.tasks z1)))/\v0=v0/\(∀a2:Nat,let b2:=W.aD a2;a2<v0->True/\b2=b2/\(∀c2:Nat,c2<b2->True/\W.lines a2 c2=W.lines a2 c2)))/\w0=w0/\(∀d2:Nat,d2<w0->True/\W.bits d2=W.bits d2))/\c0=c0/\(∀e2:Nat,e2<c0->True/\W.aM e2=W.aM e2))/\z0=z0/\(∀g2:Nat,let U:=W.aL g2;g2<z0->True/\U=U/\(∀k2:Nat,k2<U->True/\W.ready g2 k2=W.ready g2 k2)))/\b1=b1/\(∀l2:Nat,let o2:=W.aQ l2;l2<b1->True/\o2=o2/\(∀q2:Nat,q2<o2->aH (W.aB l2 q2) (W.aB l2 q2))))/\c1=c1/\(∀r2:Nat,r2<c1->True/\W.aU r2=W.aU r2))/\g1;let u2:=v1/\((True/\(0:Int)=0)/\(0:Int)=0)/\True;let v2:=l0<=9223372036854775807;let w2:=0<=a0;let x2:=bL W;let y2:=True/\8=wE W;let z2:=(∀a3:Nat,a3<v0->W.aD a3<=50)/\(∀b3:Nat,b3<z0->W.aL b3<=50)/\(∀c3:Nat,c3<b1->W.aQ c3<=50);let d3:=True/\9=wE W;tn 2 (b0<=9223372036854775807->d0<=9223372036854775807->(e0=false->h0)/\(o0=false->h0)/\(x0=false->ak y0=y0)/\(e1=false->(g1/\(1000000:Int)=1000000/\True)/\J)/\(k1=true->(((2:Int)=2/\True)/\J)/\J/\(l1/\(-1)=o1)/\True)/\(k1=false->q1/\r1/\u1/\u2/\(0<=k0/\(∀e3:Nat,e3<0->al (W.af e3) 65535=false))/\(∀g3:Nat,let h3:=(g3:Int);let k3:=decide (h3<l0);let l3:=W.af (Int.toNat h3);let o3:=al l3 65535;let q3:Int:=h3+1;g3<=k0/\(∀r3:Nat,r3<g3->al (W.af r3) 65535=false)->v2->(k3=true->(0<=h3/\h3<l0)/\((l3=l3/\(65535:Int)=65535/\True)/\J)/\(o3=true->J/\((True/\1=wE W)/\h3=o1)/\True)/\(o3=false->ak q3=q3/\(∃u3:Nat,
    q1/\r1/\q3=(u3:Int)/\u2/\(u3<=k0/\(∀v3:Nat,v3<u3->al (W.af v3) 65535=false))/\k0-u3<k0-g3)))/\(k3=false->q1/\r1/\u1/\u2/\(w2/\(∀w3:Nat,w3<0->(al (W.kinds w3) 8||W.kinds w3==1)=false))/\(∀x3:Nat,let y3:=(x3:Int);let z3:=decide (y3<b0);let a4:=0<=y3/\y3<b0;let b4:=W.kinds (Int.toNat y3);let c4:=al b4 8;let d4:=cond c4 true (b4==1);let e4:Int:=y3+1;x3<=a0/\(∀g4:Nat,g4<x3->(al (W.kinds g4) 8||W.kinds g4==1)=false)->(z3=true->a4/\((b4=b4/\(8:Int)=8/\True)/\J)/\(c4=false->a4)/\(d4=true->J/\((True/\3=wE W)/\y3=o1)/\True)/\(d4=false->ak e4=e4/\(∃h4:Nat,q1/\r1/\e4=(h4:Int)/\u2/\(h4<=a0/\(∀k4:Nat,k4<h4->(al (W.kinds k4) 8||W.kinds k4==1)=false))/\a0-h4<a0-x3)))/\(z3=false->q1/\r1/\u1/\u2/\(0<=c1/\(∀l4:Nat,l4<0->al (W.aU l4) 3=false))/\(∀o4:Nat,let q4:=(o4:Int);let r4:=decide (q4<d1);let u4:=W.aU (Int.toNat q4);let v4:=al u4 3;let w4:Int:=q4+1;o4<=c1/\(∀x4:Nat,x4<o4->al (W.aU x4) 3=false)->d1<=9223372036854775807->(r4=true->(0<=q4/\q4<d1)/\((u4=u4/\(3:Int)=3/\True)/\J)/\(v4=true->J/\(l1/\q4=o1)/\True)/\(v4=false->ak w4=w4/\(∃y4:Nat,q1/\r1/\w4=(y4:Int)/\u2/\(y4<=c1/\(∀z4:Nat,z4<y4->al (W.aU z4) 3=false))/\c1-y4<c1-o4)))/\(r4=false->q1/\r1/\u1/\u2/\(0<=q0/\(∀a5:Nat,a5<0->(!cp W a5)=false))/\(∀b5:Nat,let c5:=(b5:Int);let d5:=decide (c5<r0);let e5:=!cp W (Int.toNat c5);let g5:Int:=c5+1;b5<=q0/\(∀h5:Nat,h5<b5->(!cp W h5)=false)->r0<=9223372036854775807->(d5=true->((v1/\c5=c5/\True)/\True/\x2/\0<=c5/\c5<r0)/\(e5=true->J/\(y2/\c5=o1)/\True)/\(e5=false->ak g5=g5/\(∃k5:Nat,q1/\r1/\g5=(k5:Int)/\u2/\(k5<=q0/\(∀l5:Nat,l5<k5->(!cp W l5)=false))/\q0-k5<q0-b5)))/\(d5=false->q1/\r1/\u1/\
    u2/\(w2/\(∀o5:Nat,o5<0->(!gu W o5)=false))/\(∀q5:Nat,let r5:=(q5:Int);let u5:=decide (r5<b0);let v5:=!gu W (Int.toNat r5);let w5:Int:=r5+1;q5<=a0/\(∀x5:Nat,x5<q5->(!gu W x5)=false)->(u5=true->((v1/\r5=r5/\True)/\True/\x2/\0<=r5/\r5<b0/\(∀y5:Nat,y5<q0->cp W y5=true))/\(v5=true->J/\(y2/\r5=o1)/\True)/\(v5=false->ak w5=w5/\(∃z5:Nat,q1/\r1/\w5=(z5:Int)/\u2/\(z5<=a0/\(∀a6:Nat,a6<z5->(!gu W a6)=false))/\a0-z5<a0-q5)))/\(u5=false->q1/\r1/\u1/\u2/\(w2/\(∀b6:Nat,b6<0->(!cr W b6)=false))/\(∀c6:Nat,let d6:=(c6:Int);let e6:=decide (d6<b0);let g6:=!cr W (Int.toNat d6);let h6:Int:=d6+1;c6<=a0/\(∀k6:Nat,k6<c6->(!cr W k6)=false)->(e6=true->((v1/\d6=d6/\True)/\True/\x2/\z2/\0<=d6/\d6<b0)/\(g6=true->J/\(y2/\d6=o1)/\True)/\(g6=false->ak h6=h6/\(∃l6:Nat,q1/\r1/\h6=(l6:Int)/\u2/\(l6<=a0/\(∀o6:Nat,o6<l6->(!cr W o6)=false))/\a0-l6<a0-c6)))/\(e6=false->q1/\r1/\u1/\u2/\(w2/\(∀q6:Nat,q6<0->(!ct W q6)=false))/\(∀r6:Nat,let u6:=(r6:Int);let v6:=decide (u6<b0);let w6:=!ct W (Int.toNat u6);let x6:Int:=u6+1;r6<=a0/\(∀y6:Nat,y6<r6->(!ct W y6)=false)->(v6=true->((v1/\u6=u6/\True)/\True/\x2/\z2/\0<=u6/\u6<b0)/\(w6=true->J/\(y2/\u6=o1)/\True)/\(w6=false->ak x6=x6/\(∃z6:Nat,q1/\r1/\x6=(z6:Int)/\u2/\(z6<=a0/\(∀a7:Nat,a7<z6->(!ct W a7)=false))/\a0-z6<a0-r6)))/\(v6=false->q1/\r1/\u1/\u2/\(0<=c0/\(∀b7:Nat,b7<0->(!cE W b7)=false))/\(∀c7:Nat,let d7:=(c7:Int);let e7:=decide (d7<d0);let g7:=0<=d7/\d7<d0;let h7:=W.aM (Int.toNat d7);let k7:=h7 !=(-1);let l7:=k7=true;let o7:=cond k7 (!cP W h7 d7 (-1)) false;let q7:Int:=d7+1;c7<=c0/\(∀r7:Nat,r7<c7->(!cE W r7)=false)->(e7=true->tn 3 (g7/\tn 7 ((l7->g7)/\tn 2 ((l7->(v1/\
    h7=h7/\d7=d7/\((-1):Int)=(-1)/\True)/\True/\vJ.match_1 (λu7:ql=>Prop) (ql.mk W h7 d7 (-1)) (λv7:Wd=>λw7:Int=>λx7:Int=>λy7:Int=>bL v7))/\(o7=true->J/\(y2/\d7=o1)/\True)/\(o7=false->ak q7=q7/\(∃z7:Nat,q1/\r1/\q7=(z7:Int)/\u2/\(z7<=c0/\(∀a8:Nat,a8<z7->(!cE W a8)=false))/\c0-z7<c0-c7))))))/\(e7=false->q1/\r1/\u1/\u2/\(0<=z0/\(∀b8:Nat,b8<0->(!cO W b8)=false))/\(∀c8:Nat,let d8:=(c8:Int);let e8:=decide (d8<a1);let g8:=Int.toNat d8;let h8:=W.aL g8;let k8:Int:=d8/4;let l8:Int:=d8%4;let o8:=0<=d8;let q8:=o8/\d8<a1;let r8:=(h8:Int);let u8:Int:=d8+1;c8<=z0/\(∀v8:Nat,v8<c8->(!cO W v8)=false)->a1<=9223372036854775807->(e8=true->q1/\r1/\u1/\u2/\(0<=h8/\(∀w8:Nat,w8<0->cP W (W.ready g8 w8) k8 l8=true))/\(∀x8:Nat,let y8:=(x8:Int);let z8:=decide (y8<r8);let a9:=W.ready g8 (Int.toNat y8);let b9:=!cP W a9 k8 l8;let c9:Int:=y8+1;x8<=h8/\(∀d9:Nat,d9<x8->cP W (W.ready g8 d9) k8 l8=true)->q8/\(r8<=9223372036854775807->(z8=true->tn 4 (q8/\tn 2 ((0<=y8/\y8<r8)/\tn 2 ((o8/\(0:Int)<4/\ak k8=k8)/\True/\(o8/\(0:Int)<4)/\((v1/\a9=a9/\k8=k8/\l8=l8/\True)/\True/\vJ.match_1 (λe9:ql=>Prop) (ql.mk W a9 k8 l8) (λg9:Wd=>λh9:Int=>λk9:Int=>λl9:Int=>bL g9))/\(b9=true->J/\(y2/\d8=o1)/\True)/\(b9=false->ak c9=c9/\(∃o9:Nat,q1/\r1/\c9=(o9:Int)/\u2/\(o9<=h8/\(∀q9:Nat,q9<o9->cP W (W.ready g8 q9) k8 l8=true))/\h8-o9<h8-x8))))))/\(z8=false->ak u8=u8/\(∃r9:Nat,q1/\r1/\u8=(r9:Int)/\u2/\(r9<=z0/\(∀u9:Nat,u9<r9->(!cO W u9)=false))/\z0-r9<z0-c8)))))/\(e8=false->q1/\r1/\u1/\u2/\(0<=k0/\(∀v9:Nat,v9<0->(!cm W v9)=false))/\(∀w9:Nat,
    let x9:=(w9:Int);let y9:=decide (x9<l0);let z9:=W.af (Int.toNat x9);let jq:=!cm W (Int.toNat x9);let ku:Int:=x9+1;w9<=k0/\(∀cZ:Nat,cZ<w9->(!cm W cZ)=false)->v2->(y9=true->((v1/\x9=x9/\True)/\True/\x2/\0<=x9/\x9<l0/\0<=z9/\z9<=65535)/\(jq=true->J/\(d3/\x9=o1)/\True)/\(jq=false->ak ku=ku/\(∃d10:Nat,q1/\r1/\ku=(d10:Int)/\u2/\(d10<=k0/\(∀iE:Nat,iE<d10->(!cm W iE)=false))/\k0-d10<k0-w9)))/\(y9=false->q1/\r1/\u1/\u2/\(0<=c0/\(∀jT:Nat,jT<0->(!b_ W (W.aQ jT) (W.aB jT))=false))/\(∀cv:Nat,let dt:=(cv:Int);let lv:=decide (dt<d0);let im:=Int.toNat dt;let gL:=W.aQ im;let kv:=!b_ W gL (W.aB im);let kx:Int:=dt+1;cv<=c0/\(∀v10:Nat,v10<cv->(!b_ W (W.aQ v10) (W.aB v10))=false)->(lv=true->tn 4 ((0<=dt/\dt<(b1:Int))/\True/\((v1/\(gL=gL/\(∀lx:Nat,lx<gL->aH (W.aB im lx) (W.aB im lx)))/\True)/\True/\x2/\gL<=1000/\(∀kz:Nat,kz<k0->0<=W.af kz/\W.af kz<=65535))/\(kv=true->J/\(d3/\dt=o1)/\True)/\(kv=false->ak kx=kx/\(∃iS:Nat,q1/\r1/\kx=(iS:Int)/\u2/\(iS<=c0/\(∀lY:Nat,lY<iS->(!b_ W (W.aQ lY) (W.aB lY))=false))/\c0-iS<c0-cv))))/\(lv=false->(True/\J)/\J/\((True/\0=wE W)/\(-1)=o1)/\True))))))))))))))))))))))))
set_option maxHeartbeats 4000000 in
theorem LV:aW Tryz.prog bf 21 Mv:=bd (.cons Iz (.cons qK (.cons L4 (.cons LD (.cons L5 (.cons L6 (.cons Mw (.cons LF (.cons Mx (.cons PC .nil)))))))))) false Tryz.call21 Tryz.func21 (λ⟨W⟩=> [.inv (k_ 5 W.ar λi=>al (W.af i) 65535),.inv (k_ 6 W.ae λi=>al (W.kinds i) 8||W.kinds i==1),.inv (k_ 7 W.az λi=>al (W.aU i) 3),.inv (k_ 8 W.av λi=>!cp W i),.inv (k_ 9 W.ae λi=>!gu W i),.inv (k_ 10 W.ae λi=>!cr W i),.inv (k_ 11 W.ae λi=>!ct W i),.inv (k_ 12 W.aE λi=>!cE W i),.inv (k_ 13 W.aY λi=>!cO W i),.pk false λfr=>CW (fr 13) (Rb W),.inv (k_ 15 W.ar λi=>!cm W i),.inv (k_ 16 W.aE λi=>!b_ W (W.aQ i) (W.aB i))]) (V:=EI) (λ_=>by kernel_rfl) λ⟨W⟩ hp=>by
  dsimp only[zw]at hp
  dsimp only[EI,tn,ak,bx,aG,aF,aH]
  simp only[bn,bG,eq_self,implies_true,Bool.cond_self]
  have wr: ∀z:Int,-100000<=z->z<=100000->IntKind.i64.wrap z=z:=λz J U=>by rw[IntKind.wrap_i64];omega
  have b1:=hp.af
  have b2:=hp.kinds
  have b3:=hp.aj
  have b4:=hp.aM
  have b5:=hp.ready
  have b6:=hp.aU
  unfold wE wA
  refineλ_ _=>⟨λ_=>wr _ (by omega) (by omega),λ_=>wr _ (by omega) (by omega),λ_=>wr _ (by omega) (by omega),?_⟩
  rw[Fl]
  refine⟨λh=>by rw[show wm W=(2,-1) by unfold wm;rw[h];rfl];exact⟨rfl,rfl⟩,λh=>?_⟩
  have hz:=BI h
  have X0:wm W=a_ W.ar (λi=>al (W.af i) 65535) 1 (a_ W.ae (λi=>al (W.kinds i) 8||W.kinds i==1) 3 (a_ W.az (λi=>al (W.aU i) 3) 2 (a_ W.av (λi=>!cp W i) 8 (a_ W.ae (λi=>!gu W i) 8 (a_ W.ae (λi=>!cr W i) 8 (a_ W.ae (λi=>!ct W i) 8 (a_ W.aE (λi=>!cE W i) 8 (a_ W.aY (λi=>!cO W i) 8 (a_ W.ar (λi=>!cm W i) 9 (a_ W.aE (λi=>!b_ W (W.aQ i) (W.aB i)) 9 ((0,-1)))))))))))):=by unfold wm;rw[h];rfl
  clear h
  have z1:=hz.af
  have z2:=hz.aj
  have z3:=hz.aB
  have z4:=hz.ready
  intro s hs _
  refine⟨λJ=>?_,λJ=>?_⟩
  · have ai:=br J
    refine⟨by omega,λU=>?_,λU=>⟨wr _ (by omega) (by omega),bP ⟨⟨by omega,dn (p:=λi=>al (W.af i) 65535) hs.2 U⟩,by omega⟩⟩⟩
    rw[X0,dY (p:=λi=>al (W.af i) 65535) hs.2 U ai];exact⟨rfl,rfl⟩
  have bI:=bJ J
  have hq: ∀j,j<W.ar->(λi=>al (W.af i) 65535) j=false:=λj hj=>hs.2 j (by omega)
  have X1:wm W=a_ W.ae (λi=>al (W.kinds i) 8||W.kinds i==1) 3 (a_ W.az (λi=>al (W.aU i) 3) 2 (a_ W.av (λi=>!cp W i) 8 (a_ W.ae (λi=>!gu W i) 8 (a_ W.ae (λi=>!cr W i) 8 (a_ W.ae (λi=>!ct W i) 8 (a_ W.aE (λi=>!cE W i) 8 (a_ W.aY (λi=>!cO W i) 8 (a_ W.ar (λi=>!cm W i) 9 (a_ W.aE (λi=>!b_ W (W.aQ i) (W.aB i)) 9 ((0,-1))))))))))):=by rw[X0,cR hq]
  have KL: ∀i,i<W.ar->gN (W.af i):=λi hi=>by have:=hq i hi;simp[al]at this;exact⟨by omega,by omega⟩
  clear bI hs J hq
  intro s hs
  refine⟨λJ=>?_,λJ=>?_⟩
  · have ai:=br J
    refine⟨by omega,λ_=>by omega,λU=>?_,λU=>⟨wr _ (by omega) (by omega),bP ⟨⟨by omega,dn (p:=λi=>al (W.kinds i) 8||W.kinds i==1) hs.2 U⟩,by omega⟩⟩⟩
    rw[X1,dY (p:=λi=>al (W.kinds i) 8||W.kinds i==1) hs.2 U ai];exact⟨rfl,rfl⟩
  have bI:=bJ J
  have hq: ∀j,j<W.ae->(λi=>al (W.kinds i) 8||W.kinds i==1) j=false:=λj hj=>hs.2 j (by omega)
  have X2:wm W=a_ W.az (λi=>al (W.aU i) 3) 2 (a_ W.av (λi=>!cp W i) 8 (a_ W.ae (λi=>!gu W i) 8 (a_ W.ae (λi=>!cr W i) 8 (a_ W.ae (λi=>!ct W i) 8 (a_ W.aE (λi=>!cE W i) 8 (a_ W.aY (λi=>!cO W i) 8 (a_ W.ar (λi=>!cm W i) 9 (a_ W.aE (λi=>!b_ W (W.aQ i) (W.aB i)) 9 ((0,-1)))))))))):=by rw[X1,cR hq]
  clear bI hs J hq
  intro s hs _
  refine⟨λJ=>?_,λJ=>?_⟩
  · have ai:=br J
    refine⟨by omega,λU=>?_,λU=>⟨wr _ (by omega) (by omega),bP ⟨⟨by omega,dn (p:=λi=>al (W.aU i) 3) hs.2 U⟩,by omega⟩⟩⟩
    rw[X2,dY (p:=λi=>al (W.aU i) 3) hs.2 U ai];exact⟨rfl,rfl⟩
  have bI:=bJ J
  have hq: ∀j,j<W.az->(λi=>al (W.aU i) 3) j=false:=λj hj=>hs.2 j (by omega)
  have X3:wm W=a_ W.av (λi=>!cp W i) 8 (a_ W.ae (λi=>!gu W i) 8 (a_ W.ae (λi=>!cr W i) 8 (a_ W.ae (λi=>!ct W i) 8 (a_ W.aE (λi=>!cE W i) 8 (a_ W.aY (λi=>!cO W i) 8 (a_ W.ar (λi=>!cm W i) 9 (a_ W.aE (λi=>!b_ W (W.aQ i) (W.aB i)) 9 ((0,-1))))))))):=by rw[X2,cR hq]
  clear bI hs J hq
  intro s hs _
  refine⟨λJ=>?_,λJ=>?_⟩
  · have ai:=br J
    refine⟨⟨hz,by omega⟩,λU=>?_,λU=>⟨wr _ (by omega) (by omega),bP ⟨⟨by omega,dn (p:=λi=>!cp W i) hs.2 U⟩,by omega⟩⟩⟩
    rw[X3,dY (p:=λi=>!cp W i) hs.2 U ai];exact⟨rfl,rfl⟩
  have bI:=bJ J
  have hq: ∀j,j<W.av->(λi=>!cp W i) j=false:=λj hj=>hs.2 j (by omega)
  have X4:wm W=a_ W.ae (λi=>!gu W i) 8 (a_ W.ae (λi=>!cr W i) 8 (a_ W.ae (λi=>!ct W i) 8 (a_ W.aE (λi=>!cE W i) 8 (a_ W.aY (λi=>!cO W i) 8 (a_ W.ar (λi=>!cm W i) 9 (a_ W.aE (λi=>!b_ W (W.aQ i) (W.aB i)) 9 ((0,-1)))))))):=by rw[X3,cR hq]
  have Rd: ∀i,i<W.av->cp W i=true:=λi hi=>by have:=hq i hi;revert this;show(!cp W i)=false->_;cases cp W i<;>simp
  clear bI hs J hq
  intro s hs
  refine⟨λJ=>?_,λJ=>?_⟩
  · have ai:=br J
    refine⟨⟨hz,by omega,Rd⟩,λU=>?_,λU=>⟨wr _ (by omega) (by omega),bP ⟨⟨by omega,dn (p:=λi=>!gu W i) hs.2 U⟩,by omega⟩⟩⟩
    rw[X4,dY (p:=λi=>!gu W i) hs.2 U ai];exact⟨rfl,rfl⟩
  have bI:=bJ J
  have hq: ∀j,j<W.ae->(λi=>!gu W i) j=false:=λj hj=>hs.2 j (by omega)
  have X5:wm W=a_ W.ae (λi=>!cr W i) 8 (a_ W.ae (λi=>!ct W i) 8 (a_ W.aE (λi=>!cE W i) 8 (a_ W.aY (λi=>!cO W i) 8 (a_ W.ar (λi=>!cm W i) 9 (a_ W.aE (λi=>!b_ W (W.aQ i) (W.aB i)) 9 ((0,-1))))))):=by rw[X4,cR hq]
  clear bI hs J hq
  intro s hs
  refine⟨λJ=>?_,λJ=>?_⟩
  · have ai:=br J
    refine⟨⟨hz,hp.sm,by omega⟩,λU=>?_,λU=>⟨wr _ (by omega) (by omega),bP ⟨⟨by omega,dn (p:=λi=>!cr W i) hs.2 U⟩,by omega⟩⟩⟩
    rw[X5,dY (p:=λi=>!cr W i) hs.2 U ai];exact⟨rfl,rfl⟩
  have bI:=bJ J
  have hq: ∀j,j<W.ae->(λi=>!cr W i) j=false:=λj hj=>hs.2 j (by omega)
  have X6:wm W=a_ W.ae (λi=>!ct W i) 8 (a_ W.aE (λi=>!cE W i) 8 (a_ W.aY (λi=>!cO W i) 8 (a_ W.ar (λi=>!cm W i) 9 (a_ W.aE (λi=>!b_ W (W.aQ i) (W.aB i)) 9 ((0,-1)))))):=by rw[X5,cR hq]
  clear bI hs J hq
  intro s hs
  refine⟨λJ=>?_,λJ=>?_⟩
  · have ai:=br J
    refine⟨⟨hz,hp.sm,by omega⟩,λU=>?_,λU=>⟨wr _ (by omega) (by omega),bP ⟨⟨by omega,dn (p:=λi=>!ct W i) hs.2 U⟩,by omega⟩⟩⟩
    rw[X6,dY (p:=λi=>!ct W i) hs.2 U ai];exact⟨rfl,rfl⟩
  have bI:=bJ J
  have hq: ∀j,j<W.ae->(λi=>!ct W i) j=false:=λj hj=>hs.2 j (by omega)
  have X7:wm W=a_ W.aE (λi=>!cE W i) 8 (a_ W.aY (λi=>!cO W i) 8 (a_ W.ar (λi=>!cm W i) 9 (a_ W.aE (λi=>!b_ W (W.aQ i) (W.aB i)) 9 ((0,-1))))):=by rw[X6,cR hq]
  clear bI hs J hq
  intro s hs
  rw[HS]
  refine⟨λJ=>?_,λJ=>?_⟩
  · have ai:=br J
    refine⟨by omega,λ_=>by omega,λ_=>hz,λU=>?_,λU=>⟨wr _ (by omega) (by omega),bP ⟨⟨by omega,dn (p:=λi=>!cE W i) hs.2 U⟩,by omega⟩⟩⟩
    rw[X7,dY (p:=λi=>!cE W i) hs.2 U ai];exact⟨rfl,rfl⟩
  have bI:=bJ J
  have hq: ∀j,j<W.aE->(λi=>!cE W i) j=false:=λj hj=>hs.2 j (by omega)
  have X8:wm W=a_ W.aY (λi=>!cO W i) 8 (a_ W.ar (λi=>!cm W i) 9 (a_ W.aE (λi=>!b_ W (W.aQ i) (W.aB i)) 9 ((0,-1)))):=by rw[X7,cR hq]
  clear bI hs J hq
  intro s hs _
  refine⟨λJ k hk=>?_,λJ=>?_⟩
  · have ai:=br J
    have e4:((s:Int)/4)=((s/4:Nat):Int):=by omega
    have em:((s:Int)%4)=((s%4:Nat):Int):=by omega
    have hl:=hp.sm.2.1 s ai
    rw[e4,em]at hk⊢
    refine⟨by omega,λ_=>⟨λU=>?_,λU=>?_⟩⟩
    · have uP:=br U
      refine⟨by omega,by omega,⟨by decide,wr _ (by omega) (by omega)⟩,by decide,hz,λh3=>?_,λh3=>⟨wr _ (by omega) (by omega),bP ⟨⟨by omega,tD hk.2 (eJ h3)⟩,by omega⟩⟩⟩
      have hb:cO W s=false:=mr (p:=λk=>cP W (W.ready s k) ((s/4:Nat):Int) ((s%4:Nat):Int)) uP (j9 h3)
      rw[X8,dY (p:=λi=>!cO W i) hs.2 (by simp[hb]) ai];exact⟨rfl,rfl⟩
    · have jW:=bJ U
      have hb:cO W s=true:=sO λj hj=>hk.2 j (by omega)
      exact⟨wr _ (by omega) (by omega),bP ⟨⟨by omega,dn (p:=λi=>!cO W i) hs.2 (by simp[hb])⟩,by omega⟩⟩
  have bI:=bJ J
  have hq: ∀j,j<W.aY->(λi=>!cO W i) j=false:=λj hj=>hs.2 j (by omega)
  have X9:wm W=a_ W.ar (λi=>!cm W i) 9 (a_ W.aE (λi=>!b_ W (W.aQ i) (W.aB i)) 9 ((0,-1))):=by rw[X8,cR hq]
  clear bI hs J hq
  intro s hs _
  refine⟨λJ=>?_,λJ=>?_⟩
  · have ai:=br J
    refine⟨⟨hz,by omega,KL s ai⟩,λU=>?_,λU=>⟨wr _ (by omega) (by omega),bP ⟨⟨by omega,dn (p:=λi=>!cm W i) hs.2 U⟩,by omega⟩⟩⟩
    rw[X9,dY (p:=λi=>!cm W i) hs.2 U ai];exact⟨rfl,rfl⟩
  have bI:=bJ J
  have hq: ∀j,j<W.ar->(λi=>!cm W i) j=false:=λj hj=>hs.2 j (by omega)
  have Ls:wm W=a_ W.aE (λi=>!b_ W (W.aQ i) (W.aB i)) 9 ((0,-1)):=by rw[X9,cR hq]
  clear bI hs J hq
  intro s hs
  refine⟨λJ=>?_,λJ=>?_⟩
  · have ai:=br J
    refine⟨by omega,⟨hz,by have:=hp.sm.2.2 s (by omega);omega,KL⟩,λU=>?_,λU=>⟨wr _ (by omega) (by omega),bP ⟨⟨by omega,dn (p:=λi=>!b_ W (W.aQ i) (W.aB i)) hs.2 U⟩,by omega⟩⟩⟩
    rw[Ls,dY (p:=λi=>!b_ W (W.aQ i) (W.aB i)) hs.2 U ai];exact⟨rfl,rfl⟩
  have bI:=bJ J
  have hq: ∀j,j<W.aE->(λi=>!b_ W (W.aQ i) (W.aB i)) j=false:=λj hj=>hs.2 j (by omega)
  have U':wm W=(0,-1):=by rw[Ls,cR hq]
  clear bI hs J hq
  rw[U'];exact⟨rfl,rfl⟩
end Go.Proofs.YtbngaammbjaajaaGreatDoor
set_option linter.unusedVariables false
set_option linter.unusedSimpArgs false
set_option maxRecDepth 100000
namespace Go.Proofs.YtbngaammbjaajaaGreatDoor
open Go.RowKit Go.Sy
def SI (n:Nat) (l:Nat->Int) (x:Int):bH where
  σ:=Nat
  rt:= []
  sh i:= [(8,.v (.int .i64 i))]
  mh _:= []
  inv i:=i<=n/\ ∀j,j<i->(x==l j)=false
  μ i:=n -i
  init:=0
def Q9 (n:Nat) (ln:Nat->Nat) (l:Nat->Nat->Int) (x:Int):bH where
  σ:=Nat
  rt:= []
  sh i:= [(12,.v (.int .i64 i)),(5,.v (.int .i64 (dp i ln l x:Nat)))]
  mh _:= []
  inv i:=i<=n
  μ i:=n -i
  init:=0
def Q_ (ln:Nat->Nat) (l:Nat->Nat->Int) (x:Int) (i c:Int):bH where
  σ:=Nat
  rt:= []
  sh k:= [(18,.v (.int .i64 k)),(5,.v (.int .i64 (c+(bj k λq=>l i.toNat q==x:Nat))))]
  mh _:= []
  inv k:=k<=ln i.toNat
  μ k:=ln i.toNat -k
  init:=0
theorem A1 {W:Wd} {f k:Int} (hk:k≠ -1):(decide (0<=f)&&decide (f<(W.ae:Int))&&W.kinds f.toNat==k)=(bM W f==k):=by
  cases J:decide (0<=f)&&decide (f<(W.ae:Int))with
  |true=>
   simp only[Bool.and_eq_true,decide_eq_true_eq]at J
   rw[IQ J];rfl
  |false=>
   simp only[Bool.and_eq_false_iff,decide_eq_false_iff_not]at J
   rw[AV (by omega)]
   symm
   exact beq_eq_false_iff_ne.2 λh=>hk h.symm
theorem LW {r q:Int} (r0:0<=r) (r1:r<=7) (q0:0<=q) (q1:q<=7):(cT .andNot .i64 r q==0)=(((iz 6 q.toNat r.toNat:Nat):Int)==r):=by
  rw[Mp r0 r1 q0 q1,Cq q0 (by omega) r0 (by omega)];rfl
structure Js where
  (v m:Int)
def Q':Sy.Spec:=⟨Js,λ⟨v,m⟩=> [.v (.int .i64 v),.v (.int .i64 m)],λ_=> [],λ_=>True,λ⟨v,m⟩=> .v (.bool (al v m)),λ_=> [],
  λargs mem=>match args with| [a0,a1]=>some ⟨ao (a0),ao (a1)⟩|_=>none⟩
def Ra:aX:=⟨[],(Q').g,none⟩
def Jt:Js->Prop:=λ⟨v,m⟩=>cond (decide (v<0)) true (decide (m<v))=al v m/\True
theorem qz:aW Tryz.prog bf 22 Ra:=bd .nil false Tryz.call22 Tryz.func22 (λ_=> []) (V:=Jt) (λ_=>by kernel_rfl) λ⟨v,m⟩ hp=>by
  dsimp only[Jt,tn,ak,bx,aG,aF,aH]
  simp only[bn,bG,eq_self,implies_true,Bool.cond_self]
  rfl
structure J' where
  (i e:Int)
def Ka:Sy.Spec:=⟨J',λ⟨i,e⟩=> [.v (.int .i64 i),.v (.int .i64 e)],λ_=> [],λ⟨i,e⟩=>0<=i/\e≠0,λ⟨i,e⟩=> .er 30 73 e i,λ_=> [],
  λargs mem=>match args with| [a0,a1]=>some ⟨ao (a0),ao (a1)⟩|_=>none⟩
def SK:aX:=⟨[],(Ka).g,none⟩
def Kb:J'->Prop:=λ⟨i,e⟩=>True/\(e≠0/\0<=i/\e=e/\i=i)/\True
theorem kP:aW Tryz.prog bf 79 SK:=bd .nil false Tryz.call79 Tryz.func79 (λ_=> []) (V:=Kb) (λ_=>by kernel_rfl) λ⟨i,e⟩ hp=>by
  dsimp only[Ka]at hp
  dsimp only[Kb,tn,ak,bx,aG,aF,aH]
  simp only[bn,bG,eq_self,implies_true,Bool.cond_self]
  exact⟨hp.2,hp.1⟩
structure Kc where
  (W:Wd) (f k:Int)
def Kd:Sy.Spec:=⟨Kc,λ⟨W,f,k⟩=> [dV W,.v (.int .i64 f),.v (.int .i64 k)],λ_=> [],λ⟨_,_,k⟩=>k≠ -1,λ⟨W,f,k⟩=> .v (.bool (okF W f k)),λ_=> [],
  λargs mem=>match args with| [a0,a1,a2]=>some ⟨dR a0,ao (a1),ao (a2)⟩|_=>none⟩
def SL:aX:=⟨[],(Kd).g,none⟩
def Ke:Kc->Prop:=λ⟨W,f,k⟩=>let a0:=cond (decide (0<=f)) (decide (f<((W.ae:Nat):Int))) false;(a0=true->(f==(-1))=false->0<=f/\f<((W.ae:Nat):Int))/\cond (f==(-1)) true (cond a0 (W.kinds (Int.toNat f)==k) false)=okF W f k/\True
theorem Q6:aW Tryz.prog bf 53 SL:=bd .nil false Tryz.call53 Tryz.func53 (λ_=> []) (V:=Ke) (λ_=>by kernel_rfl) λ⟨W,f,k⟩ hp=>by
  dsimp only[Kd]at hp
  dsimp only[Ke,tn,ak,bx,aG,aF,aH]
  simp only[bn,bG,eq_self,implies_true,Bool.cond_self]
  exact⟨λh _=>by simp only[Bool.and_eq_true,decide_eq_true_eq]at h;exact h,by rw[A1 hp];rfl⟩
structure H3 where
  (k b l m r g k2 b2 l2 m2 r2 g2:Int)
def H4:Sy.Spec:=⟨H3,λ⟨k,b,l,m,r,g,k2,b2,l2,m2,r2,g2⟩=> [.ag 6 (aA [.v (.int .i64 k),.v (.int .i64 b),.v (.int .i64 l),.v (.int .i64 m),.v (.int .i64 r),.v (.int .i64 g)]),.ag 6 (aA [.v (.int .i64 k2),.v (.int .i64 b2),.v (.int .i64 l2),.v (.int .i64 m2),.v (.int .i64 r2),.v (.int .i64 g2)])],λ_=> [],λ⟨k,b,l,m,r,g,_,_,_,_,_,_⟩=>d' k b l m r g=0,λ⟨k,b,l,m,r,g,k2,b2,l2,m2,r2,g2⟩=> .v (.bool (fB ⟨k,b,l,m,r,g,0⟩ ⟨k2,b2,l2,m2,r2,g2,0⟩)),λ_=> [],
  λargs mem=>match args with| [a0,a1]=>some ⟨ao (bU a0 0),ao (bU a0 1),ao (bU a0 2),ao (bU a0 3),ao (bU a0 4),ao (bU a0 5),ao (bU a1 0),ao (bU a1 1),ao (bU a1 2),ao (bU a1 3),ao (bU a1 4),ao (bU a1 5)⟩|_=>none⟩
def P8:aX:=⟨[],(H4).g,none⟩
def H5:H3->Prop:=λ⟨k,b,l,m,r,g,k2,b2,l2,m2,r2,g2⟩=>let a0:=d' k2 b2 l2 m2 r2 g2 !=0;let b0:=fB (fM.mk k b l m r g 0) (fM.mk k2 b2 l2 m2 r2 g2 0);let c0:=cond (k !=1) (decide (b2<=b)) false;tn 2 (((((((((True/\k2=k2)/\b2=b2)/\l2=l2)/\m2=m2)/\r2=r2)/\g2=g2)/\True)/\True/\True)/\(a0=true->false=b0/\True)/\(a0=false->((k2==1)=true->(c0=true->ak (b2+m2)=b2+m2)/\cond c0 (decide (b<b2+m2)) false=b0/\True)/\((k2==1)=false->cond (cond (cond (k==k2) (b==b2) false) (cT BinOp.andNot IntKind.i64 r r2==0) false) (cond (g2==0) true (g==g2)) false=b0/\True)))
theorem OH:aW Tryz.prog bf 48 P8:=bd (.cons D8 .nil) false Tryz.call48 Tryz.func48 (λ_=> []) (V:=H5) (λ_=>by kernel_rfl) λ⟨k,b,l,m,r,g,k2,b2,l2,m2,r2,g2⟩ hp=>by
  dsimp only[H4]at hp
  dsimp only[H5,tn,ak,bx,aG,aF,aH]
  simp only[bn,bG,eq_self,implies_true,Bool.cond_self]
  have hm:fB ⟨k,b,l,m,r,g,0⟩ ⟨k2,b2,l2,m2,r2,g2,0⟩=(d' k2 b2 l2 m2 r2 g2==0&&bif k2==1 then k !=1&&decide (b2<=b)&&decide (b -b2<m2)else k==k2&&b==b2&&(g2==0||g2==g)&&(((iz 6 r2.toNat r.toNat:Nat):Int)==r)):=rfl
  rw[hm]
  refine⟨λh=>by rw[j9 (b:=d' k2 b2 l2 m2 r2 g2==0) h];rfl,λh=>?_⟩
  have h0:=eJ (b:=d' k2 b2 l2 m2 r2 g2==0) h
  rw[h0]
  have hr:=zl hp
  have hr2:=zl (eq_of_beq h0)
  refine⟨λJ=>⟨λ_=>by rw[IntKind.wrap_i64];omega,?_⟩,λJ=>?_⟩
  · rw[J,show decide (b<b2+m2)=decide (b -b2<m2)from decide_eq_decide.2 (by omega)];rfl
  · rw[J,LW (by omega) (by omega) (by omega) (by omega),show(g==g2)=(g2==g)from Bool.beq_comm]
    cases k==k2<;>cases b==b2<;>cases g2==0<;>cases g2==g<;>simp
structure GH where
  (n:Nat) (ln:Nat->Nat) (l:Nat->Nat->Int) (x:Int)
def GI:Sy.Spec:=⟨GH,λ⟨n,ln,l,x⟩=> [.sl true 1 n (λi _=> .sl true 1 (ln i) (iF (l i))),.v (.int .i64 x)],λ_=> [],λ⟨n,ln,_,_⟩=>n<=1000/\ ∀i,i<n->ln i<=1000,λ⟨n,ln,l,x⟩=> .v (.int .i64 (dp n ln l x:Nat)),λ_=> [],
  λargs mem=>match args with| [a0,a1]=>some ⟨bN a0,λi=>bN (bD a0 i 0),λi k=>ao (bD (bD a0 i 0) k 0),ao (a1)⟩|_=>none⟩
def OL:aX:=⟨[],(GI).g,none⟩
def GJ:GH->Prop:=λ⟨n,ln,l,x⟩=>let a0:=(n:Int);a0<=9223372036854775807->0=((0:Nat):Int)/\0=((dp 0 ln l x:Nat):Int)/\True/\0<=n/\(∀b0:Nat,let c0:=(b0:Int);let d0:=decide (c0<a0);let e0:=Int.toNat c0;let g0:=ln e0;let h0:=(g0:Int);let k0:=((dp b0 ln l x:Nat):Int);let l0:Int:=c0+1;b0<=n->(d0=true->(0<=c0/\c0<a0)/\(h0<=9223372036854775807->0=((0:Nat):Int)/\k0=k0+((bj 0 (λo0:Nat=>l e0 o0==x):Nat):Int)/\True/\0<=g0/\(∀q0:Nat,let r0:=(q0:Int);let u0:=decide (r0<h0);let v0:=l e0 (Int.toNat r0)==x;let w0:Int:=k0+((bj q0 (λx0:Nat=>l e0 x0==x):Nat):Int);let y0:Int:=w0+1;let z0:Int:=r0+1;let a1:=ak z0=z0;q0<=g0->(u0=true->(0<=r0/\r0<h0)/\(v0=true->ak y0=y0/\a1/\(∃b1:Nat,z0=(b1:Int)/\y0=k0+((bj b1 (λc1:Nat=>l e0 c1==x):Nat):Int)/\True/\b1<=g0/\g0-b1<g0-q0))/\(v0=false->a1/\(∃d1:Nat,z0=(d1:Int)/\w0=k0+((bj d1 (λe1:Nat=>l e0 e1==x):Nat):Int)/\True/\d1<=g0/\g0-d1<g0-q0)))/\(u0=false->ak l0=l0/\(∃g1:Nat,l0=(g1:Int)/\w0=((dp g1 ln l x:Nat):Int)/\True/\g1<=n/\n-g1<n-b0)))))/\(d0=false->k0=((dp n ln l x:Nat):Int)/\True))
theorem Nv:aW Tryz.prog bf 54 OL:=bd .nil false Tryz.call54 Tryz.func54 (λ⟨n,ln,l,x⟩=> [.inv (Q9 n ln l x),.pk false λfr=>Q_ ln l x (ao (fr 12)) (ao (fr 5))]) (V:=GJ) (λ_=>by kernel_rfl) λ⟨n,ln,l,x⟩ hp=>by
  dsimp only[GI]at hp
  dsimp only[GJ,tn,ak,bx,aG,aF,aH]
  simp only[bn,bG,eq_self,implies_true,Bool.cond_self]
  refineλ_=>⟨rfl,λs hs=>⟨λh=>?_,λh=>?_⟩⟩
  · have ai:=br h
    have hl:=hp.2 s ai
    have hc:dp s ln l x<=s*1000:=sW λi hi=>Nat.le_trans (iI _ _) (hp.2 i (by omega))
    refine⟨by omega,λhm=>⟨by simp[bj],λk hk=>⟨λU=>?_,λU=>?_⟩⟩⟩
    · have Ks:=br U
      have hb:=iI (λq=>l s q==x) k
      refine⟨by omega,λh3=>?_,λh3=>?_⟩
      · have e:(bj (k+1) λq=>l s q==x)=(bj k λq=>l s q==x)+1:=by simp[bj,h3]
        exact⟨by rw[IntKind.wrap_i64];omega,by rw[IntKind.wrap_i64];omega,bP ⟨by rw[e];omega,by omega,by omega⟩⟩
      · have e:(bj (k+1) λq=>l s q==x)=(bj k λq=>l s q==x):=by simp[bj,h3]
        exact⟨by rw[IntKind.wrap_i64];omega,bP ⟨by rw[e],by omega,by omega⟩⟩
    · have bI:=bJ U
      obtain rfl:k=ln s:=by omega
      refine⟨by rw[IntKind.wrap_i64];omega,bP ⟨?_,by omega,by omega⟩⟩
      rw[show dp (s+1) ln l x=dp s ln l x+bj (ln s) (λq=>l s q==x)from rfl];omega
  · have bI:=bJ h
    obtain rfl:s=n:=by omega
    rfl
structure wy where
  (n:Nat) (l:Nat->Int) (x:Int)
def Aq:Sy.Spec:=⟨wy,λ⟨n,l,x⟩=> [.sl true 1 n (λi_ _=> .v (.int .i64 (l i_))),.v (.int .i64 x)],λ_=> [],λ⟨n,_,_⟩=>n<=100000,λ⟨n,l,x⟩=> .v (.int .i64 (gj n λk=>x==l k)),λ_=> [],
  λargs mem=>match args with| [a0,a1]=>some ⟨bN a0,λi=>ao (bD a0 i 0),ao (a1)⟩|_=>none⟩
def OM:aX:=⟨[],(Aq).g,none⟩
def GK:wy->Prop:=λ⟨n,l,x⟩=>let a0:=(n:Int);let b0:=gj n (λc0:Nat=>x==l c0);a0<=9223372036854775807->0=((0:Nat):Int)/\True/\(0<=n/\(∀d0:Nat,d0<0->(x==l d0)=false))/\(∀e0:Nat,let g0:=(e0:Int);let h0:=decide (g0<a0);let k0:=x==l (Int.toNat g0);let l0:Int:=g0+1;e0<=n/\(∀o0:Nat,o0<e0->(x==l o0)=false)->(h0=true->(0<=g0/\g0<a0)/\(k0=true->g0=b0/\True)/\(k0=false->ak l0=l0/\(∃q0:Nat,l0=(q0:Int)/\True/\(q0<=n/\(∀r0:Nat,r0<q0->(x==l r0)=false))/\n-q0<n-e0)))/\(h0=false->(-1)=b0/\True))
theorem Nx:aW Tryz.prog bf 80 OM:=bd .nil false Tryz.call80 Tryz.func80 (λ⟨n,l,x⟩=> [.inv (SI n l x)]) (V:=GK) (λ_=>by kernel_rfl) λ⟨n,l,x⟩ hp=>by
  dsimp only[Aq]at hp
  dsimp only[GK,tn,ak,bx,aG,aF,aH]
  simp only[bn,bG,eq_self,implies_true,Bool.cond_self]
  refineλhn s hs=>⟨λh=>?_,λh=>?_⟩
  · have ai:=br h
    exact⟨by omega,λh=>(AR (p:=λk=>x==l k) hs.2 h ai).symm,λh=>⟨by rw[IntKind.wrap_i64];omega,bP ⟨⟨by omega,dn (p:=λk=>x==l k) hs.2 h⟩,by omega⟩⟩⟩
  · have bI:=bJ h
    obtain rfl:s=n:=by omega
    exact(sv (p:=λk=>x==l k) hs.2).symm
structure vm where
  (n:Nat) (l:Nat->Int) (x:Int)
def zm:Sy.Spec:=⟨vm,λ⟨n,l,x⟩=> [.sl true 1 n (λi_ _=> .v (.int .i64 (l i_))),.v (.int .i64 x)],λ_=> [],λ⟨n,_,_⟩=>n<=100000,λ⟨n,l,x⟩=> .v (.bool (jO n l x)),λ_=> [],
  λargs mem=>match args with| [a0,a1]=>some ⟨bN a0,λi=>ao (bD a0 i 0),ao (a1)⟩|_=>none⟩
def LX:aX:=⟨[],(zm).g,none⟩
def Eg:vm->Prop:=λ⟨n,l,x⟩=>(((n=n/\(∀a0:Nat,a0<n->True/\l a0=l a0))/\x=x/\True)/\True/\Aq.match_1 (λb0:wy=>Prop) (wy.mk n l x) (λc0:Nat=>λd0:∀e0:Nat,Int=>λg0:Int=>c0<=100000))/\decide (0<=gj n (λh0:Nat=>x==l h0))=jO n l x/\True
theorem LC:aW Tryz.prog bf 55 LX:=bd (.cons Nx .nil) false Tryz.call55 Tryz.func55 (λ_=> []) (V:=Eg) (λ_=>by kernel_rfl) λ⟨n,l,x⟩ hp=>by
  dsimp only[zm]at hp
  dsimp only[Eg,tn,ak,bx,aG,aF,aH]
  simp only[bn,bG,eq_self,implies_true,Bool.cond_self]
  refine⟨hp,?_⟩
  cases hq:jO n l x with
  |false=>
   rw[sv (p:=λk=>x==l k) λj hj=>by have:=mu.1 hq j hj;rw[Bool.beq_comm];exact this];rfl
  |true=>
   obtain⟨i,hi,h⟩:=lE.1 hq
   have:=sX (p:=λk=>x==l k) hi (by rw[Bool.beq_comm];exact h)
   unfold gj
   rw[da this]
   exact decide_eq_true (Int.natCast_nonneg _)
structure qA where
  (t c p:Int) (W:Wd)
def wO:Sy.Spec:=⟨qA,λ⟨t,c,p,W⟩=> [.v (.int .i64 t),.v (.int .i64 c),.v (.int .i64 p),.pt true 1 (λ_=>dV W)],λ_=> [],λ⟨_,_,_,W⟩=>bL W,λ⟨t,c,p,W⟩=> .v (.bool (cP W t c p)),λ_=> [],
  λargs mem=>match args with| [a0,a1,a2,a3]=>some ⟨ao (a0),ao (a1),ao (a2),dR (bp a3 0)⟩|_=>none⟩
def P9:aX:=⟨[],(wO).g,none⟩
def H6:qA->Prop:=λ⟨t,c,p,W⟩=>let a0:=cond (decide (0<=t)) (decide (t<((W.ae:Nat):Int))) false;let b0:=cond a0 (W.kinds (Int.toNat t)==6) false;let c0:=0<=t/\t<((W.aV:Nat):Int);let d0:=W.tasks (Int.toNat t);let e0:=cond b0 (d0.st==1) false;let g0:=cond e0 (d0.core==c) false;(a0=true->0<=t/\t<((W.ae:Nat):Int))/\(b0=true->c0)/\(e0=true->c0)/\(decide (p<0)=false->g0=true->c0)/\cond g0 (cond (decide (p<0)) true (d0.prio==p)) false=cP W t c p/\True
theorem GC:aW Tryz.prog bf 58 P9:=bd .nil false Tryz.call58 Tryz.func58 (λ_=> []) (V:=H6) (λ_=>by kernel_rfl) λ⟨t,c,p,W⟩ hp=>by
  dsimp only[wO]at hp
  dsimp only[H6,tn,ak,bx,aG,aF,aH]
  simp only[bn,bG,eq_self,implies_true,Bool.cond_self]
  have hz:=hp.tasks
  refine⟨λh=>?_,λh=>?_,λh=>?_,λ_ h=>?_,by rw[A1 (k:=6) (by decide)];rfl⟩
  all_goals simp only[Bool.and_eq_true,decide_eq_true_eq]at h
  all_goals omega
structure GL where
  (i x:Int)
def ON:Sy.Spec:=⟨GL,λ⟨i,x⟩=> [.v (.int .i64 i),.v (.int .i64 x)],λ_=> [],λ_=>True,λ⟨_,x⟩=> .v (.bool (al x 65535)),λ_=> [],
  λargs mem=>match args with| [a0,a1]=>some ⟨ao (a0),ao (a1)⟩|_=>none⟩
def OO:aX:=⟨[],(ON).g,none⟩
def GM:GL->Prop:=λ⟨_,x⟩=>((x=x/\(65535:Int)=65535/\True)/\True/\True)/\al x 65535=al x 65535/\True
theorem Nl:aW Tryz.prog bf 42 OO:=bd (.cons qz .nil) false Tryz.call42 Tryz.func42 (λ_=> []) (V:=GM) (λ_=>by kernel_rfl) λ⟨i,x⟩ hp=>by
  dsimp only[GM,tn,ak,bx,aG,aF,aH]
  simp only[bn,bG,eq_self,implies_true,Bool.cond_self]
structure GN where
  (i x:Int)
def OP:Sy.Spec:=⟨GN,λ⟨i,x⟩=> [.v (.int .i64 i),.v (.int .i64 x)],λ_=> [],λ_=>True,λ⟨_,x⟩=> .v (.bool (al x 8||x==1)),λ_=> [],
  λargs mem=>match args with| [a0,a1]=>some ⟨ao (a0),ao (a1)⟩|_=>none⟩
def OQ:aX:=⟨[],(OP).g,none⟩
def GO:GN->Prop:=λ⟨_,x⟩=>((x=x/\(8:Int)=8/\True)/\True/\True)/\cond (al x 8) true (x==1)=(al x 8||x==1)/\True
theorem Nm:aW Tryz.prog bf 43 OQ:=bd (.cons qz .nil) false Tryz.call43 Tryz.func43 (λ_=> []) (V:=GO) (λ_=>by kernel_rfl) λ⟨i,x⟩ hp=>by
  dsimp only[GO,tn,ak,bx,aG,aF,aH]
  simp only[bn,bG,eq_self,implies_true,Bool.cond_self]
structure GP where
  (i x:Int)
def OR:Sy.Spec:=⟨GP,λ⟨i,x⟩=> [.v (.int .i64 i),.v (.int .i64 x)],λ_=> [],λ_=>True,λ⟨_,x⟩=> .v (.bool (al x 3)),λ_=> [],
  λargs mem=>match args with| [a0,a1]=>some ⟨ao (a0),ao (a1)⟩|_=>none⟩
def OS:aX:=⟨[],(OR).g,none⟩
def GQ:GP->Prop:=λ⟨_,x⟩=>((x=x/\(3:Int)=3/\True)/\True/\True)/\al x 3=al x 3/\True
theorem Nn:aW Tryz.prog bf 44 OS:=bd (.cons qz .nil) false Tryz.call44 Tryz.func44 (λ_=> []) (V:=GQ) (λ_=>by kernel_rfl) λ⟨i,x⟩ hp=>by
  dsimp only[GQ,tn,ak,bx,aG,aF,aH]
  simp only[bn,bG,eq_self,implies_true,Bool.cond_self]
end Go.Proofs.YtbngaammbjaajaaGreatDoor
set_option linter.unusedVariables false
set_option linter.unusedSimpArgs false
set_option maxRecDepth 100000
namespace Go.Proofs.YtbngaammbjaajaaGreatDoor
open Go.RowKit Go.Sy
def SD (W:Wd) (i:Nat):bH where
  σ:=Nat
  rt:= []
  sh k:= [(108,.v (.int .i64 k)),(7,.v (.int .i64 (bX W i k)))]
  mh _:= []
  inv k:=k<=W.av/\ ∀j,j<=k->cQ W (bX W i j)=true
  μ k:=W.av -k
  init:=0
def SC (W:Wd) (n:Nat) (l:Nat->fS):bH where
  σ:=Nat
  rt:= []
  sh i:= [(15,.v (.int .i64 i))]
  mh _:= []
  inv i:=i<=n/\ ∀j,j<i->dW W l j=true
  μ i:=n -i
  init:=0
def SE (W:Wd) (f:Nat):bH where
  σ:=Nat
  rt:= []
  sh i:= [(95,.v (.int .i64 i))]
  mh _:= []
  inv i:=i<=W.aD f/\ ∀j,j<i->dZ W f (W.lines f j)=true
  μ i:=W.aD f -i
  init:=0
def SH (W:Wd) (n:Nat) (l:Nat->Int) (i:Int):bH where
  σ:=Nat
  rt:= []
  sh k:= [(8,.v (.int .i64 k))]
  mh _:= []
  inv k:=k<=n/\ ∀j,j<k->(!cP W (l j) (i/4) (i%4))=false
  μ k:=n -k
  init:=0
theorem U_ {b:Bool} (h:b=true->False):true=!b:=by cases b<;>simp_all
theorem CX {W:Wd} {f k:Int} (hk:k≠ -1):(decide (f<0)||decide ((W.ae:Int)<=f)||W.kinds f.toNat !=k)=!(bM W f==k):=by
  rw[<-A1 hk,show decide (f<0)=!decide (0<=f) by rw[<-decide_not];exact decide_eq_decide.2 (by omega),show decide ((W.ae:Int)<=f)=!decide (f<(W.ae:Int)) by rw[<-decide_not];exact decide_eq_decide.2 (by omega)]
  simp only[bne,Bool.not_and]
theorem J_ {W:Wd} {f k:Int} (hf:0<=f) (hk:k≠ -1):(decide ((W.ae:Int)<=f)||W.kinds f.toNat !=k)=!(bM W f==k):=by
  rw[<-CX hk,show decide (f<0)=false from decide_eq_false (by omega)];rfl
theorem OG {s:fM} (h:(s.kind==0)=true):(s.kind==0&&(s.base==0&&(s.len==0&&(s.mark==0&&(s.dx==0&&(s.bS==0&&true))))))=(fE s==0):=by
  unfold fE d'
  rw[eq_of_beq h]
  simp only[bne]
  cases s.base==0<;>cases s.len==0<;>cases s.mark==0<;>cases s.dx==0<;>cases s.bS==0<;>rfl
theorem Gx {W:Wd} {u:Int}: ∀k,bX W (jt W u) k=bX W u (k+1)
  |0=>rfl
  |k+1=>by show jt W (bX W (jt W u) k)=_;rw[Gx k];rfl
def sN (W:Wd) (u:Int) (k:Nat):Nat:=bif cQ W (bX W u k)then(bX W u k).toNat else W.av
theorem P3 {W:Wd} {u:Int} (h: ∀j,j<=W.av->cQ W (bX W u j)=true): ∀j,cQ W (bX W u j)=true:=by
  have key: ∀k,sN W u k<W.av↔cQ W (bX W u k)=true:=λk=>by
    unfold sN
    cases hq:cQ W (bX W u k)with
    |true=>have:=kI.1 hq;simp only[cond_true,iff_true];omega
    |false=>simp
  have:=Ok W.av (λv=>bif cQ W (jt W (v:Int))then(jt W (v:Int)).toNat else W.av) (sN W u) (λk hk=>by
    have bo:=(key k).1 hk
    have U:=kI.1 bo
    have e:((sN W u k:Nat):Int)=bX W u k:=by unfold sN;rw[bo];simp only[cond_true];omega
    show sN W u (k+1)=bif cQ W (jt W ((sN W u k:Nat):Int))then(jt W ((sN W u k:Nat):Int)).toNat else W.av
    rw[e];rfl) (λk hk=>(key k).2 (h k hk))
  exactλj=>(key j).1 (this j)
theorem HC {S:fM} (h0:fE S=0) (hk:S.kind≠0):1<=S.len:=by
  have h0:d' S.kind S.base S.len S.mark S.dx S.bS=0:=h0
  unfold d' oK oL al at h0
  simp only[cond_eq_ite,bne,Bool.or_eq_true,Bool.and_eq_true,Bool.not_eq_true',decide_eq_true_eq,beq_iff_eq,beq_eq_false_iff_ne]at h0
  repeat' split at h0
  all_goals first|(cases h0;done)|omega
structure HW where
  (i:Int) (W:Wd)
def HX:Sy.Spec:=⟨HW,λ⟨i,W⟩=> [.v (.int .i64 i),.ag 7 (aA (lW (W.aj i.toNat))),.pt true 1 (λ_=>dV W)],λ_=> [],λ⟨i,W⟩=>bL W/\0<=i/\i<W.av,λ⟨i,W⟩=> .v (.bool (!cp W i.toNat)),λ_=> [],
  λargs mem=>match args with| [a0,a1,a2]=>some ⟨ao (a0),dR (bp a2 0)⟩|_=>none⟩
def P4:aX:=⟨[],(HX).g,none⟩
def HY:HW->Prop:=λ⟨i,W⟩=>let a0:=W.aj (Int.toNat i);let b0:=a0.kind;let c0:=b0==0;let d0:=a0.base;let e0:=a0.len;let g0:=a0.mark;let h0:=a0.dx;let k0:=a0.bS;let l0:=a0.from_;let o0:=!cp W (Int.toNat i);let q0:Int:=i/16;let r0:=((W.ae:Nat):Int);let u0:=W.kinds (Int.toNat q0) !=5;let v0:=(((((True/\b0=b0)/\d0=d0)/\e0=e0)/\g0=g0)/\h0=h0)/\k0=k0;let w0:=d' b0 d0 e0 g0 h0 k0;let x0:=cond u0 true (w0 !=0);let y0:Int:=d0+e0;let z0:=b0 !=1;let a1:=cond x0 true (decide (r0<y0));let b1:=cond a1 true (cond z0 (W.kinds (Int.toNat d0) !=b0) false);let c1:=true=o0/\True;let d1:=l0==(-1);let e1:=false=o0/\True;let g1:=W.av;let J:=(g1:Int);let k1:=cond (decide (l0<0)) true (decide (J<=l0));let l1:=k1=false;let o1:=W.aj (Int.toNat l0);let q1:=o1.kind;let r1:=o1.base;let u1:=o1.len;let v1:=o1.mark;let w1:=o1.dx;let x1:=o1.bS;let y1:=cond k1 true (!fB {a0 with from_:=0} {o1 with from_:=0});let z1:=((Int.toNat i:Nat):Int);tn 2 (tn 5 True/\(c0=true->cond (!(c0&&(d0==0&&(e0==0&&(g0==0&&(h0==0&&(k0==0&&true))))))) true (l0 !=(-1))=o0/\True)/\(c0=false->tn 6 ((0<=i/\(0:Int)<16/\ak q0=q0)/\(0<=q0/\q0<r0)/\tn 4 ((u0=false->(v0/\True)/\True/\True)/\tn 7 ((x0=false->ak y0=y0)/\tn 20 ((z0=true->a1=false->0<=d0/\d0<r0)/\tn 3 ((b1=true->c1)/\(b1=false->(d1=true->e1)/\(d1=false->tn 23 ((l1->0<=l0/\l0<J)/\tn 2 ((l1->(v0/\((((((True/\q1=q1)/\r1=r1)/\u1=u1)/\v1=v1)/\w1=w1)/\x1=x1)/\True)/\True/\w0=0)/\(y1=true->c1)/\(y1=false->J<=9223372036854775807->0=((0:Nat):Int)/\i=bX W z1 0/\True/\(0<=g1/\(∀a2:Nat,a2<=0->cQ W (bX W z1 a2)=true))/\(∀b2:Nat,
    let c2:=decide ((b2:Int)<J);let d2:=bX W z1 b2;let e2:=(W.aj (Int.toNat d2)).from_;let g2:=cond (decide (e2<0)) true (decide (J<=e2));let U:Int:=(b2:Int)+1;b2<=g1/\(∀k2:Nat,k2<=b2->cQ W (bX W z1 k2)=true)->(c2=true->(0<=d2/\d2<J)/\(g2=true->e1)/\(g2=false->ak U=U/\(∃l2:Nat,U=(l2:Int)/\e2=bX W z1 l2/\True/\(l2<=g1/\(∀o2:Nat,o2<=l2->cQ W (bX W z1 o2)=true))/\g1-l2<g1-b2)))/\(c2=false->c1))))))))))))))
theorem OC:aW Tryz.prog bf 46 P4:=bd (.cons D8 (.cons OH .nil)) false Tryz.call46 Tryz.func46 (λ⟨i,W⟩=> [.inv (SD W i.toNat)]) (V:=HY) (λ_=>by kernel_rfl) λ⟨i,W⟩ hp=>by
  dsimp only[HX]at hp
  dsimp only[HY,tn,ak,bx,aG,aF,aH]
  obtain⟨hz,i0,i1⟩:=hp
  obtain⟨I,rfl⟩: ∃I:Nat,i=I:=⟨i.toNat,by omega⟩
  simp only[bn,bG,eq_self,implies_true,Bool.cond_self]
  have lC:((I:Int)/16).toNat=I/16:=by omega
  rw[lC,show cp W I=j_ W I (W.aj I)from rfl]
  simp only[EH]
  have lD:=hz.aj
  have lV:=hz.k1
  have p_:=hz.k0
  have hI:cQ W (I:Int)=true:=kI.2 ⟨by omega,by omega⟩
  have Lq:jt W (I:Int)=(W.aj I).from_:=by rw[BJ hI,Int.toNat_natCast]
  obtain⟨S,hS⟩: ∃S,S=W.aj I:=⟨_,rfl⟩
  simp only[<-hS]at Lq⊢
  refine⟨λh=>?_,λh=>⟨⟨by decide,by rw[IntKind.wrap_i64];omega⟩,by omega,λJ=>?_,λJ U=>?_,λJ=>?_,λJ=>?_⟩⟩
  · rw[OG h];unfold j_;rw[h]
    cases fE S==0<;>cases hq:S.from_== -1<;>simp[bne,hq]
  · simp only[Bool.or_eq_false_iff,bne_eq_false_iff_eq]at J
    have:=kC J.2
    rw[IntKind.wrap_i64];omega
  · simp only[Bool.or_eq_false_iff,bne_eq_false_iff_eq,decide_eq_false_iff_not]at U
    have:=kC U.1.2
    have hlen:=HC U.1.2 (by simpa using h)
    omega
  · refine U_ λht=>?_
    rw[qp h]at ht
    simp only[Bool.and_eq_true,Bool.or_eq_true,beq_iff_eq,decide_eq_true_eq,bne_iff_ne,ne_eq]at ht J
    omega
  rw[Bool.or_eq_false_iff]at J
  obtain⟨J,U⟩:=J
  have T:W.kinds (I/16)=5/\fE S=0/\S.base+S.len<=W.ae:=by
    simp only[Bool.or_eq_false_iff,bne_eq_false_iff_eq,decide_eq_false_iff_not]at J
    exact⟨J.1.1,J.1.2,by omega⟩
  obtain⟨T1,T2,T3⟩:=T
  have T4:(S.kind==1||W.kinds S.base.toNat==S.kind)=true:=by
    revert U
    simp only[bne]
    cases S.kind==1<;>cases W.kinds S.base.toNat==S.kind<;>simp
  have core:j_ W I S=(S.from_== -1||(cQ W S.from_&&fB S (W.aj S.from_.toNat)&&!cQ W (bX W S.from_ W.av))):=by
    rw[qp h,T4,show(W.kinds (I/16)==5)=true from beq_iff_eq.2 T1,show(fE S==0)=true from beq_iff_eq.2 T2,show decide (S.base+S.len<=W.ae)=true from decide_eq_true T3]
    simp
  rw[core]
  refine⟨λh3=>by rw[h3];rfl,λh3=>?_⟩
  rw[h3,xQ]
  obtain⟨p,hp⟩: ∃p,p=W.aj S.from_.toNat:=⟨_,rfl⟩
  simp only[<-hp]
  rw[show fB ⟨S.kind,S.base,S.len,S.mark,S.dx,S.bS,0⟩ ⟨p.kind,p.base,p.len,p.mark,p.dx,p.bS,0⟩=fB S p from rfl]
  refine⟨λh4=>?_,λ_=>T2,λh4=>?_,λh4 _=>?_⟩
  · exact kI.1 (eJ h4)
  · revert h4;cases cQ W S.from_<;>cases fB S p<;>simp
  have bo:cQ W S.from_=true:=by revert h4;cases cQ W S.from_<;>simp
  have Dq:fB S p=true:=by revert h4;cases fB S p<;>simp
  rw[bo,Dq]
  have e1: ∀k,bX W S.from_ k=bX W (I:Int) (k+1):=λk=>by rw[<-Lq];exact Gx k
  rw[e1]
  refine⟨rfl,λj hj=>?_,λs hs=>⟨λh5=>?_,λh5=>?_⟩⟩
  · obtain rfl:j=0:=by omega
    exact hI
  · have ai:=br h5
    have hi:=hs.2 s (Nat.le_refl _)
    have bc:(W.aj (bX W (I:Int) s).toNat).from_=bX W (I:Int) (s+1):=(BJ hi).symm
    simp only[bc,xQ]
    refine⟨kI.1 hi,λh6=>?_,λh6=>⟨by rw[IntKind.wrap_i64];omega,bP ⟨rfl,⟨by omega,λj hj=>?_⟩,by omega⟩⟩⟩
    · have h7:=j9 h6
      rw[Hx h7 (show s+1<=W.av+1 by omega),h7];rfl
    · rcases Nat.lt_or_ge j (s+1)with h8|h8
      · exact hs.2 j (by omega)
      · obtain rfl:j=s+1:=by omega
        exact eJ h6
  · have bI:=bJ h5
    rw[P3 (u:=(I:Int)) (λj hj=>hs.2 j (by omega)) (W.av+1)];rfl
structure Gy where
  (i:Int) (W:Wd)
def Gz:Sy.Spec:=⟨Gy,λ⟨i,W⟩=> [.v (.int .i64 i),.sl true 1 (W.aD i.toNat) (iF (W.lines i.toNat)),.pt true 1 (λ_=>dV W)],λ_=> [],λ⟨i,W⟩=>bL W/\js W/\0<=i/\i<W.ae,λ⟨i,W⟩=> .v (.bool (!ct W i.toNat)),λ_=> [],
  λargs mem=>match args with| [a0,a1,a2]=>some ⟨ao (a0),dR (bp a2 0)⟩|_=>none⟩
def OI:aX:=⟨[],(Gz).g,none⟩
def GA:Gy->Prop:=λ⟨i,W⟩=>let a0:=((W.ae:Nat):Int);let b0:=0<=i/\i<a0;let c0:=Int.toNat i;let d0:=W.kinds c0;let e0:=d0 !=7;let g0:=d0 !=8;let h0:=W.aD c0;let k0:=(h0:Int);let l0:=decide (0<k0);let o0:=cond (cond e0 g0 false) l0 false;let q0:=o0=false;let r0:=0<=i/\i<((W.aI:Nat):Int);let u0:=W.bits c0;let v0:=u0 !=0;let w0:=cond o0 true (cond g0 v0 false);let x0:=w0=false;let y0:=cond w0 true (al u0 65535);let z0:=y0=false;let a1:=cond (d0==8) l0 false;let b1:=cond y0 true (cond a1 v0 false);let c1:=!ct W c0;let d1:=true=c1/\True;let e1:=((W.aV:Nat):Int);let g1:=W.lines c0 (Int.toNat 0);let J:=(W.tasks (Int.toNat g1)).st==4;b0/\(e0=true->b0)/\(q0->b0)/\(g0=true->q0->r0)/\(x0->r0)/\(x0->(u0=u0/\(65535:Int)=65535/\True)/\True/\True)/\(z0->b0)/\(a1=true->z0->r0)/\(b1=true->d1)/\(b1=false->k0<=9223372036854775807->0=((0:Nat):Int)/\True/\(0<=h0/\(∀k1:Nat,k1<0->dZ W c0 (W.lines c0 k1)=true))/\(∀l1:Nat,let o1:=(l1:Int);let q1:=decide (o1<k0);let r1:=W.lines c0 (Int.toNat o1);let u1:=cond (decide (r1<0)) true (decide (a0<=r1));let v1:=0<=r1;let w1:=Int.toNat r1;let x1:=cond u1 true (W.kinds w1 !=6);let y1:=v1/\r1<e1;let z1:=W.tasks w1;let a2:=cond x1 true (z1.loc !=i);let b2:=a2=false;let c2:=cond a2 true ((z1.st==4) !=J);let d2:Int:=o1+1;l1<=h0/\(∀e2:Nat,e2<l1->dZ W c0 (W.lines c0 e2)=true)->(q1=true->(0<=o1/\o1<k0)/\tn 19 ((u1=false->v1/\r1<a0)/\tn 10 ((x1=false->y1)/\tn 12 ((b2->y1)/\tn 9 ((b2->(0:Int)<=0/\0<k0)/\True/\(b2->0<=g1/\g1<e1)/\tn 3 ((c2=true->d1)/\(c2=false->ak d2=d2/\(∃g2:Nat,d2=(g2:Int)/\True/\(g2<=h0/\(∀U:Nat,U<g2->
    dZ W c0 (W.lines c0 U)=true))/\h0-g2<h0-l1))))))))/\(q1=false->false=c1/\True)))
theorem Nq:aW Tryz.prog bf 57 OI:=bd (.cons qz .nil) false Tryz.call57 Tryz.func57 (λ⟨i,W⟩=> [.inv (SE W i.toNat)]) (V:=GA) (λ_=>by kernel_rfl) λ⟨i,W⟩ hp=>by
  dsimp only[Gz]at hp
  dsimp only[GA,tn,ak,bx,aG,aF,aH]
  obtain⟨hz,hm,f0,f1⟩:=hp
  obtain⟨F,rfl⟩: ∃F:Nat,i=F:=⟨i.toNat,by omega⟩
  simp only[bn,bG,eq_self,implies_true,Bool.cond_self]
  have lD:=hz.tasks
  have lV:=hz.k1
  have p_:=hz.lines
  have DT:=hz.bits
  have hL:=hm.1 F (by omega)
  rw[show decide ((0:Int)<(W.aD F:Int))=decide (0<W.aD F)from decide_eq_decide.2 (by omega)]
  have eA:(W.kinds F !=7&&W.kinds F !=8&&decide (0<W.aD F)||W.kinds F !=8&&W.bits F !=0||al (W.bits F) 65535||W.kinds F==8&&decide (0<W.aD F)&&W.bits F !=0)=!(!(decide (0<W.aD F)&&W.kinds F !=7&&W.kinds F !=8)&&!(W.bits F !=0&&(W.kinds F !=8||decide (0<W.aD F)))&&!al (W.bits F) 65535):=by
    simp only[bne]
    cases W.kinds F==7<;>cases W.kinds F==8<;>cases decide (0<W.aD F)<;>cases W.bits F==0<;>cases al (W.bits F) 65535<;>rfl
  rw[eA]
  refine⟨by omega,λ_=>by omega,λ_=>by omega,λ_ _=>by omega,λ_=>by omega,λ_=>by omega,λ_ _=>by omega,λh=>?_,λh _ s hs=>?_⟩
  · unfold ct;rw[j9 h];rfl
  have core:ct W F=fj (W.aD F) λi=>dZ W F (W.lines F i):=by unfold ct;rw[eJ h];rfl
  rw[core]
  refine⟨λJ=>?_,λJ=>?_⟩
  · have ai:=br J
    rw[CX (k:=6) (by decide)]
    have hr: ∀t,(bM W t==6)=true->0<=t/\t<W.aV:=λt h=>by rw[lD];exact jB (by rw[eq_of_beq h];decide)
    have DU:(bM W (W.lines F s)==6)=true->0<=W.lines F 0/\W.lines F 0<W.aV:=λh6=>by
      rcases Nat.eq_zero_or_pos s with h|h
      · subst h;exact hr _ h6
      · have:=hs.2 0 h
        unfold dZ at this
        simp only[Bool.and_eq_true]at this
        exact hr _ this.1.1
    have ht:dZ W F (W.lines F s)=!(!(bM W (W.lines F s)==6)||(W.tasks (W.lines F s).toNat).loc !=F||(((W.tasks (W.lines F s).toNat).st==4) !=((W.tasks (W.lines F 0).toNat).st==4))):=by
      unfold dZ nf;simp only[bne,Bool.not_or,Bool.not_not]
    have o1: ∀{a b:Bool},(!a||b)=false->a=true:=λ{a b} h=>by revert h;cases a<;>cases b<;>simp
    refine⟨by omega,λU=>?_,λU=>hr _ (eJ U),λU=>hr _ (o1 U),λU=>⟨by decide,by omega⟩,λU=>DU (o1 U),λU=>?_,λU=>⟨by rw[IntKind.wrap_i64];omega,bP ⟨⟨by omega,tD hs.2 ?_⟩,by omega⟩⟩⟩
    · simp only[Bool.or_eq_false_iff,decide_eq_false_iff_not]at U;omega
    · rw[mr (p:=λi=>dZ W F (W.lines F i)) ai (by show dZ W F (W.lines F s)=false;rw[ht];exact congrArg (!·) U)];rfl
    · rw[ht];exact congrArg (!·) U
  · have bI:=bJ J
    obtain rfl:s=W.aD F:=by omega
    rw[sO hs.2];rfl
structure wx where
  (i x:Int) (W:Wd)
def Ap:Sy.Spec:=⟨wx,λ⟨i,x,W⟩=> [.v (.int .i64 i),.v (.int .i64 x),.pt true 1 (λ_=> .fn 58 1 (aA [.pt true 1 (λ_=>dV W)]))],λ_=> [],λ⟨_,_,W⟩=>bL W,λ⟨i,x,W⟩=> .v (.bool (x != -1&&!cP W x i (-1))),λ_=> [],
  λargs mem=>match args with| [a0,a1,a2]=>some ⟨ao (a0),ao (a1),dR (bp (dA (bp a2 0) 0) 0)⟩|_=>none⟩
def OJ:aX:=⟨[],(Ap).g,none⟩
def GB:wx->Prop:=λ⟨i,x,W⟩=>let a0:=W.ae;let b0:=W.av;let c0:=W.aV;let d0:=W.bz;let e0:=W.aE;let g0:=W.aY;let h0:=!cP W x i (-1);((x !=(-1))=true->(x=x/\i=i/\((-1):Int)=(-1)/\(True/\((((((((((True/\W.ar=W.ar/\(∀k0:Nat,k0<W.ar->True/\W.af k0=W.af k0))/\a0=a0/\(∀l0:Nat,l0<a0->True/\W.kinds l0=W.kinds l0))/\b0=b0/\(∀o0:Nat,o0<b0->aF (W.aj o0) (W.aj o0)))/\c0=c0/\(∀q0:Nat,q0<c0->aG (W.tasks q0) (W.tasks q0)))/\d0=d0/\(∀r0:Nat,let u0:=W.aD r0;r0<d0->True/\u0=u0/\(∀v0:Nat,v0<u0->True/\W.lines r0 v0=W.lines r0 v0)))/\W.aI=W.aI/\(∀w0:Nat,w0<W.aI->True/\W.bits w0=W.bits w0))/\e0=e0/\(∀x0:Nat,x0<e0->True/\W.aM x0=W.aM x0))/\g0=g0/\(∀y0:Nat,let z0:=W.aL y0;y0<g0->True/\z0=z0/\(∀a1:Nat,a1<z0->True/\W.ready y0 a1=W.ready y0 a1)))/\W.aK=W.aK/\(∀b1:Nat,let c1:=W.aQ b1;b1<W.aK->True/\c1=c1/\(∀d1:Nat,d1<c1->aH (W.aB b1 d1) (W.aB b1 d1))))/\W.az=W.az/\(∀e1:Nat,e1<W.az->True/\W.aU e1=W.aU e1))/\W.time=W.time)/\True)/\True/\wO.match_1 (λg1:qA=>Prop) (qA.mk x i (-1) W) (λJ:Int=>λk1:Int=>λl1:Int=>λo1:Wd=>bL o1))/\cond (x !=(-1)) h0 false=(x !=(-1)&&h0)/\True
theorem No:aW Tryz.prog bf 59 OJ:=bd (.cons GC .nil) false Tryz.call59 Tryz.func59 (λ_=> []) (V:=GB) (λ_=>by kernel_rfl) λ⟨i,x,W⟩ hp=>by
  dsimp only[Ap]at hp
  dsimp only[GB,tn,ak,bx,aG,aF,aH]
  simp only[bn,bG,eq_self,implies_true,Bool.cond_self]
  exactλ_=>hp
structure Fw where
  (t:Int) (W:Wd) (i:Int)
def Fx:Sy.Spec:=⟨Fw,λ⟨t,W,i⟩=> [.v (.int .i64 t),.pt true 1 (λ_=> .fn 58 1 (aA [.pt true 1 (λ_=>dV W)])),.pt true 1 (λ_=> .v (.int .i64 i))],λ_=> [],λ⟨_,W,i⟩=>bL W/\0<=i/\i<=100000,λ⟨t,W,i⟩=> .v (.bool (!cP W t (i/4) (i%4))),λ_=> [],
  λargs mem=>match args with| [a0,a1,a2]=>some ⟨ao (a0),dR (bp (dA (bp a1 0) 0) 0),ao (bp a2 0)⟩|_=>none⟩
def Nw:aX:=⟨[],(Fx).g,none⟩
def Fy:Fw->Prop:=λ⟨t,W,i⟩=>let a0:Int:=i/4;let b0:Int:=i%4;let c0:=W.ae;let d0:=W.av;let e0:=W.aV;let g0:=W.bz;let h0:=W.aE;let k0:=W.aY;let l0:=!cP W t a0 b0;(0<=i/\(0:Int)<4/\ak a0=a0)/\(0<=i/\(0:Int)<4)/\((t=t/\a0=a0/\b0=b0/\(True/\((((((((((True/\W.ar=W.ar/\(∀o0:Nat,o0<W.ar->True/\W.af o0=W.af o0))/\c0=c0/\(∀q0:Nat,q0<c0->True/\W.kinds q0=W.kinds q0))/\d0=d0/\(∀r0:Nat,r0<d0->aF (W.aj r0) (W.aj r0)))/\e0=e0/\(∀u0:Nat,u0<e0->aG (W.tasks u0) (W.tasks u0)))/\g0=g0/\(∀v0:Nat,let w0:=W.aD v0;v0<g0->True/\w0=w0/\(∀x0:Nat,x0<w0->True/\W.lines v0 x0=W.lines v0 x0)))/\W.aI=W.aI/\(∀y0:Nat,y0<W.aI->True/\W.bits y0=W.bits y0))/\h0=h0/\(∀z0:Nat,z0<h0->True/\W.aM z0=W.aM z0))/\k0=k0/\(∀a1:Nat,let b1:=W.aL a1;a1<k0->True/\b1=b1/\(∀c1:Nat,c1<b1->True/\W.ready a1 c1=W.ready a1 c1)))/\W.aK=W.aK/\(∀d1:Nat,let e1:=W.aQ d1;d1<W.aK->True/\e1=e1/\(∀g1:Nat,g1<e1->aH (W.aB d1 g1) (W.aB d1 g1))))/\W.az=W.az/\(∀J:Nat,J<W.az->True/\W.aU J=W.aU J))/\W.time=W.time)/\True)/\True/\wO.match_1 (λk1:qA=>Prop) (qA.mk t a0 b0 W) (λl1:Int=>λo1:Int=>λq1:Int=>λr1:Wd=>bL r1))/\l0=l0/\True
theorem Mu:aW Tryz.prog bf 62 Nw:=bd (.cons GC .nil) false Tryz.call62 Tryz.func62 (λ_=> []) (V:=Fy) (λ_=>by kernel_rfl) λ⟨t,W,i⟩ hp=>by
  dsimp only[Fx]at hp
  dsimp only[Fy,tn,ak,bx,aG,aF,aH]
  simp only[bn,bG,eq_self,implies_true,Bool.cond_self]
  exact⟨⟨hp.2.1,by decide,by rw[IntKind.wrap_i64];omega⟩,⟨hp.2.1,by decide⟩,hp.1⟩
structure Jm where
  (n:Nat) (l:Nat->Int) (W:Wd) (i:Int)
def Jn:Sy.Spec:=⟨Jm,λ⟨n,l,W,i⟩=> [.sl true 1 n (λi_ _=> .v (.int .i64 (l i_))),.fn 62 2 (aA [.pt true 1 (λ_=> .fn 58 1 (aA [.pt true 1 (λ_=>dV W)])),.pt true 1 (λ_=> .v (.int .i64 i))])],λ_=> [],λ⟨n,_,W,i⟩=>bL W/\0<=i/\i<=100000/\n<=100000,λ⟨n,l,W,i⟩=> .v (.int .i64 (gj n λk=>!cP W (l k) (i/4) (i%4))),λ_=> [],
  λargs mem=>match args with| [a0,a1]=>some ⟨bN a0,λi=>ao (bD a0 i 0),dR (bp (dA (bp (dA a1 0) 0) 0) 0),ao (bp (dA a1 1) 0)⟩|_=>none⟩
def Q7:aX:=⟨[],(Jn).g,none⟩
def Jo:Jm->Prop:=λ⟨n,l,W,i⟩=>let a0:=(n:Int);let b0:Int:=i/4;let c0:Int:=i%4;let d0:=W.ae;let e0:=W.av;let g0:=W.aV;let h0:=W.bz;let k0:=W.aE;let l0:=W.aY;let o0:=gj n (λq0:Nat=>!cP W (l q0) b0 c0);a0<=9223372036854775807->0=((0:Nat):Int)/\True/\(0<=n/\(∀r0:Nat,r0<0->(!cP W (l r0) b0 c0)=false))/\(∀u0:Nat,let v0:=(u0:Int);let w0:=decide (v0<a0);let x0:Int:=l (Int.toNat v0);let y0:=!cP W x0 b0 c0;let z0:Int:=v0+1;u0<=n/\(∀a1:Nat,a1<u0->(!cP W (l a1) b0 c0)=false)->(w0=true->(0<=v0/\v0<a0)/\((x0=x0/\tn 3 (((((((((((True/\W.ar=W.ar/\(∀b1:Nat,b1<W.ar->True/\W.af b1=W.af b1))/\d0=d0/\(∀c1:Nat,c1<d0->True/\W.kinds c1=W.kinds c1))/\e0=e0/\(∀d1:Nat,d1<e0->aF (W.aj d1) (W.aj d1)))/\g0=g0/\(∀e1:Nat,e1<g0->aG (W.tasks e1) (W.tasks e1)))/\h0=h0/\(∀g1:Nat,let J:=W.aD g1;g1<h0->True/\J=J/\(∀k1:Nat,k1<J->True/\W.lines g1 k1=W.lines g1 k1)))/\W.aI=W.aI/\(∀l1:Nat,l1<W.aI->True/\W.bits l1=W.bits l1))/\k0=k0/\(∀o1:Nat,o1<k0->True/\W.aM o1=W.aM o1))/\l0=l0/\(∀q1:Nat,let r1:=W.aL q1;q1<l0->True/\r1=r1/\(∀u1:Nat,u1<r1->True/\W.ready q1 u1=W.ready q1 u1)))/\W.aK=W.aK/\(∀v1:Nat,let w1:=W.aQ v1;v1<W.aK->True/\w1=w1/\(∀x1:Nat,x1<w1->aH (W.aB v1 x1) (W.aB v1 x1))))/\W.az=W.az/\(∀y1:Nat,y1<W.az->True/\W.aU y1=W.aU y1))/\W.time=W.time)/\(True/\i=i)/\True)/\True/\bL W/\0<=i/\i<=100000)/\(y0=true->v0=o0/\True)/\(y0=false->ak z0=z0/\(∃z1:Nat,z0=(z1:Int)/\True/\(z1<=n/\(∀a2:Nat,a2<z1->(!cP W (l a2) b0 c0)=false))/\n-z1<n-u0)))/\(w0=false->(-1)=o0/\True))
theorem P5:aW Tryz.prog bf 81 Q7:=bd (.cons Mu .nil) false Tryz.call81 Tryz.func81 (λ⟨n,l,W,i⟩=> [.inv (SH W n l i)]) (V:=Jo) (λ_=>by kernel_rfl) λ⟨n,l,W,i⟩ hp=>by
  dsimp only[Jn]at hp
  dsimp only[Jo,tn,ak,bx,aG,aF,aH]
  simp only[bn,bG,eq_self,implies_true,Bool.cond_self]
  refineλhn s hs=>⟨λh=>?_,λh=>?_⟩
  · have ai:=br h
    exact⟨by omega,⟨hp.1,hp.2.1,hp.2.2.1⟩,λh=>(AR (p:=λk=>!cP W (l k) (i/4) (i%4)) hs.2 h ai).symm,λh=>⟨by rw[IntKind.wrap_i64];omega,bP ⟨⟨by omega,dn (p:=λk=>!cP W (l k) (i/4) (i%4)) hs.2 h⟩,by omega⟩⟩⟩
  · have bI:=bJ h
    obtain rfl:s=n:=by omega
    exact(sv (p:=λk=>!cP W (l k) (i/4) (i%4)) hs.2).symm
structure Jp where
  (n:Nat) (l:Nat->Int) (W:Wd) (i:Int)
def Jq:Sy.Spec:=⟨Jp,λ⟨n,l,W,i⟩=> [.sl true 1 n (λi_ _=> .v (.int .i64 (l i_))),.fn 62 2 (aA [.pt true 1 (λ_=> .fn 58 1 (aA [.pt true 1 (λ_=>dV W)])),.pt true 1 (λ_=> .v (.int .i64 i))])],λ_=> [],λ⟨n,_,W,i⟩=>bL W/\0<=i/\i<=100000/\n<=100000,λ⟨n,l,W,i⟩=> .v (.bool (cX n λk=>!cP W (l k) (i/4) (i%4))),λ_=> [],
  λargs mem=>match args with| [a0,a1]=>some ⟨bN a0,λi=>ao (bD a0 i 0),dR (bp (dA (bp (dA a1 0) 0) 0) 0),ao (bp (dA a1 1) 0)⟩|_=>none⟩
def Q8:aX:=⟨[],(Jq).g,none⟩
def Jr:Jp->Prop:=λ⟨n,l,W,i⟩=>let a0:=W.ae;let b0:=W.av;let c0:=W.aV;let d0:=W.bz;let e0:=W.aE;let g0:=W.aY;(((n=n/\(∀h0:Nat,h0<n->True/\l h0=l h0))/\(tn 4 (((((((((((True/\W.ar=W.ar/\(∀k0:Nat,k0<W.ar->True/\W.af k0=W.af k0))/\a0=a0/\(∀l0:Nat,l0<a0->True/\W.kinds l0=W.kinds l0))/\b0=b0/\(∀o0:Nat,o0<b0->aF (W.aj o0) (W.aj o0)))/\c0=c0/\(∀q0:Nat,q0<c0->aG (W.tasks q0) (W.tasks q0)))/\d0=d0/\(∀r0:Nat,let u0:=W.aD r0;r0<d0->True/\u0=u0/\(∀v0:Nat,v0<u0->True/\W.lines r0 v0=W.lines r0 v0)))/\W.aI=W.aI/\(∀w0:Nat,w0<W.aI->True/\W.bits w0=W.bits w0))/\e0=e0/\(∀x0:Nat,x0<e0->True/\W.aM x0=W.aM x0))/\g0=g0/\(∀y0:Nat,let z0:=W.aL y0;y0<g0->True/\z0=z0/\(∀a1:Nat,a1<z0->True/\W.ready y0 a1=W.ready y0 a1)))/\W.aK=W.aK/\(∀b1:Nat,let c1:=W.aQ b1;b1<W.aK->True/\c1=c1/\(∀d1:Nat,d1<c1->aH (W.aB b1 d1) (W.aB b1 d1))))/\W.az=W.az/\(∀e1:Nat,e1<W.az->True/\W.aU e1=W.aU e1))/\W.time=W.time)/\True/\i=i)/\True)/\True/\bL W/\0<=i/\i<=100000/\n<=100000)/\decide (0<=gj n (λg1:Nat=>!cP W (l g1) (i/4) (i%4)))=cX n (λJ:Nat=>!cP W (l J) (i/4) (i%4))/\True
theorem P6:aW Tryz.prog bf 61 Q8:=bd (.cons P5 .nil) false Tryz.call61 Tryz.func61 (λ_=> []) (V:=Jr) (λ_=>by kernel_rfl) λ⟨n,l,W,i⟩ hp=>by
  dsimp only[Jq]at hp
  dsimp only[Jr,tn,ak,bx,aG,aF,aH]
  simp only[bn,bG,eq_self,implies_true,Bool.cond_self]
  refine⟨hp,?_⟩
  cases hq:cX n λk=>!cP W (l k) (i/4) (i%4)with
  |false=>rw[sv (mu.1 hq)];rfl
  |true=>
   obtain⟨j,hj,h⟩:=lE.1 hq
   have:=sX (p:=λk=>!cP W (l k) (i/4) (i%4)) hj h
   unfold gj
   rw[da this]
   exact decide_eq_true (Int.natCast_nonneg _)
structure GD where
  (i:Int) (W:Wd)
def GF:Sy.Spec:=⟨GD,λ⟨i,W⟩=> [.v (.int .i64 i),.sl true 1 (W.aL i.toNat) (iF (W.ready i.toNat)),.pt true 1 (λ_=> .fn 58 1 (aA [.pt true 1 (λ_=>dV W)]))],λ_=> [],λ⟨i,W⟩=>bL W/\js W/\0<=i/\i<W.aY,λ⟨i,W⟩=> .v (.bool (!cO W i.toNat)),λ_=> [],
  λargs mem=>match args with| [a0,a1,a2]=>some ⟨ao (a0),dR (bp (dA (bp a2 0) 0) 0)⟩|_=>none⟩
def OK:aX:=⟨[],(GF).g,none⟩
def GG:GD->Prop:=λ⟨i,W⟩=>let a0:=Int.toNat i;let b0:=W.aL a0;let c0:=W.ae;let d0:=W.av;let e0:=W.aV;let g0:=W.bz;let h0:=W.aE;let k0:=W.aY;True/\(((b0=b0/\(∀l0:Nat,l0<b0->True/\W.ready a0 l0=W.ready a0 l0))/\(tn 4 (((((((((((True/\W.ar=W.ar/\(∀o0:Nat,o0<W.ar->True/\W.af o0=W.af o0))/\c0=c0/\(∀q0:Nat,q0<c0->True/\W.kinds q0=W.kinds q0))/\d0=d0/\(∀r0:Nat,r0<d0->aF (W.aj r0) (W.aj r0)))/\e0=e0/\(∀u0:Nat,u0<e0->aG (W.tasks u0) (W.tasks u0)))/\g0=g0/\(∀v0:Nat,let w0:=W.aD v0;v0<g0->True/\w0=w0/\(∀x0:Nat,x0<w0->True/\W.lines v0 x0=W.lines v0 x0)))/\W.aI=W.aI/\(∀y0:Nat,y0<W.aI->True/\W.bits y0=W.bits y0))/\h0=h0/\(∀z0:Nat,z0<h0->True/\W.aM z0=W.aM z0))/\k0=k0/\(∀a1:Nat,let b1:=W.aL a1;a1<k0->True/\b1=b1/\(∀c1:Nat,c1<b1->True/\W.ready a1 c1=W.ready a1 c1)))/\W.aK=W.aK/\(∀d1:Nat,let e1:=W.aQ d1;d1<W.aK->True/\e1=e1/\(∀g1:Nat,g1<e1->aH (W.aB d1 g1) (W.aB d1 g1))))/\W.az=W.az/\(∀J:Nat,J<W.az->True/\W.aU J=W.aU J))/\W.time=W.time)/\True/\i=i)/\True)/\True/\bL W/\0<=i/\i<=100000/\b0<=100000)/\cX b0 (λk1:Nat=>!cP W (W.ready a0 k1) (i/4) (i%4))=(!cO W a0)/\True
theorem Nr:aW Tryz.prog bf 60 OK:=bd (.cons P6 .nil) false Tryz.call60 Tryz.func60 (λ_=> []) (V:=GG) (λ_=>by kernel_rfl) λ⟨i,W⟩ hp=>by
  dsimp only[GF]at hp
  dsimp only[GG,tn,ak,bx,aG,aF,aH]
  obtain⟨hz,hm,i0,i1⟩:=hp
  obtain⟨I,rfl⟩: ∃I:Nat,i=I:=⟨i.toNat,by omega⟩
  simp only[bn,bG,eq_self,implies_true,Bool.cond_self]
  have lD:=hz.ready
  have lV:=hz.c1
  have:=hm.2.1 I (by omega)
  refine⟨⟨hz,by omega,by omega⟩,?_⟩
  rw[show((I:Int)/4)=((I/4:Nat):Int) by omega,show((I:Int)%4)=((I%4:Nat):Int) by omega]
  unfold cX cO
  simp only[Bool.not_not]
structure HZ where
  (i:Int) (W:Wd)
def H0:Sy.Spec:=⟨HZ,λ⟨i,W⟩=> [.v (.int .i64 i),.v (.int .i64 (W.af i.toNat)),.pt true 1 (λ_=>dV W)],λ_=> [],λ⟨i,W⟩=>bL W/\0<=i/\i<W.ar/\gN (W.af i.toNat),λ⟨i,W⟩=> .v (.bool (!cm W i.toNat)),λ_=> [],
  λargs mem=>match args with| [a0,a1,a2]=>some ⟨ao (a0),dR (bp a2 0)⟩|_=>none⟩
def P7:aX:=⟨[],(H0).g,none⟩
def H2:HZ->Prop:=λ⟨i,W⟩=>let a0:Int:=i/16;let b0:=((W.ae:Nat):Int);let c0:=W.kinds (Int.toNat a0);let d0:=W.af (Int.toNat i);let e0:=cond (cond (c0 !=3) (c0 !=4) false) true (d0==0);let g0:=!cm W (Int.toNat i);let h0:=c0==4;let k0:=cT BinOp.and IntKind.i64 d0 1023;let l0:=decide (b0<=k0);let o0:=cond (cT BinOp.andNot IntKind.i64 d0 1023 !=32768) true l0;let q0:=0<=k0/\k0<b0;let r0:=W.kinds (Int.toNat k0);let u0:=cond (cT BinOp.andNot IntKind.i64 d0 17407 !=32768) true l0;(0<=i/\(0:Int)<16/\ak a0=a0)/\(0<=a0/\a0<b0)/\(e0=true->false=g0/\True)/\(e0=false->(h0=true->(o0=false->q0)/\cond o0 true (r0 !=3)=g0/\True)/\(h0=false->(u0=false->q0)/\cond u0 true (r0 !=2)=g0/\True))
theorem OB:aW Tryz.prog bf 63 P7:=bd .nil false Tryz.call63 Tryz.func63 (λ_=> []) (V:=H2) (λ_=>by kernel_rfl) λ⟨i,W⟩ hp=>by
  dsimp only[H0]at hp
  dsimp only[H2,tn,ak,bx,aG,aF,aH]
  obtain⟨hz,i0,i1,hw⟩:=hp
  obtain⟨I,rfl⟩: ∃I:Nat,i=I:=⟨i.toNat,by omega⟩
  simp only[bn,bG,eq_self,implies_true,Bool.cond_self]
  have lC:((I:Int)/16).toNat=I/16:=by omega
  rw[lC]
  rw[Int.toNat_natCast]at hw
  unfold gN at hw
  have lD:=hz.af
  have lV:=hz.k1
  have rq:cT .and .i64 (W.af I) 1023=W.af I%1024:=xe 10 (x:=W.af I) (by omega) (by decide)
  simp only[EG hw.1 hw.2,LU hw.1 hw.2,rq]
  have hy:0<=W.af I%1024:=by omega
  have eN:cm W I=(W.kinds (I/16) !=3&&W.kinds (I/16) !=4||W.af I==0||(bif W.kinds (I/16)==4 then W.af I -W.af I%1024==32768&&bM W (W.af I%1024)==3 else(W.af I -W.af I%1024==32768||W.af I -W.af I%1024==49152)&&bM W (W.af I%1024)==2)):=by
    simp only[cm];rw[Bool.or_comm (W.af I==0)]
  refine⟨⟨by decide,by rw[IntKind.wrap_i64];omega⟩,by omega,λh=>by rw[eN,h];rfl,λh=>⟨λJ=>⟨λU=>?_,?_⟩,λJ=>⟨λU=>?_,?_⟩⟩⟩
  · simp only[Bool.or_eq_false_iff,decide_eq_false_iff_not]at U;omega
  · rw[eN,h,J,Bool.or_assoc,J_ hy (by decide)];simp only[bne,cond_true,Bool.false_or,Bool.not_and]
  · simp only[Bool.or_eq_false_iff,decide_eq_false_iff_not]at U;omega
  · rw[eN,h,J,Bool.or_assoc,J_ hy (by decide)]
    have ez:((W.af I -W.af I%1024 -(W.af I -W.af I%1024)/16384%2*16384) !=32768)=!(W.af I -W.af I%1024==32768||W.af I -W.af I%1024==49152):=by
      rw[bne];congr 1
      rw[Bool.eq_iff_iff]
      simp only[Bool.or_eq_true,beq_iff_eq]
      omega
    rw[ez];simp only[cond_false,Bool.false_or,Bool.not_and]
end Go.Proofs.YtbngaammbjaajaaGreatDoor
set_option linter.unusedVariables false
set_option linter.unusedSimpArgs false
set_option maxRecDepth 100000
namespace Go.Proofs.YtbngaammbjaajaaGreatDoor
open Go.RowKit Go.Sy
def fN (sp pg:Int) (e:fS):Bool:=e.sp==sp&&e.pg==pg
def Lt:fS:=⟨0,0,0,false⟩
def sc (n:Nat) (t:Nat->fS) (sp pg:Int):fS:=bif Nat.blt (cA n λi=>fN sp pg (t i)) n then t (cA n λi=>fN sp pg (t i))else Lt
def sb (n:Nat) (t:Nat->fS) (sp pg:Int):Bool:=Nat.blt (cA n λi=>fN sp pg (t i)) n
def Vc (n:Nat) (p:Nat->Bool):bH where
  σ:=Nat
  rt:= []
  sh i:= [(8,.v (.int .i64 i))]
  mh _:= []
  inv i:=i<=n/\ ∀j,j<i->p j=false
  μ i:=n -i
  init:=0
structure H8 where
  (e:fS) (sp pg:Int)
def P':Sy.Spec:=⟨H8,λ⟨e,sp,pg⟩=> [.ag 4 (aA (lu e)),.pt true 1 (λ_=> .v (.int .i64 sp)),.pt true 1 (λ_=> .v (.int .i64 pg))],λ_=> [],λ_=>True,λ⟨e,sp,pg⟩=> .v (.bool (fN sp pg e)),λ_=> [],
  λargs mem=>match args with| [a0,a1,a2]=>some ⟨rp (bU a0),ao (bp a1 0),ao (bp a2 0)⟩|_=>none⟩
def Qa:aX:=⟨[],(P').g,none⟩
def H9:H8->Prop:=λ⟨e,sp,pg⟩=>True/\cond (e.sp==sp) (e.pg==pg) false=fN sp pg e/\True
theorem OV:aW Tryz.prog bf 84 Qa:=bd .nil false Tryz.call84 Tryz.func84 (λ_=> []) (V:=H9) (λ_=>by kernel_rfl) λ⟨e,sp,pg⟩ hp=>by
  dsimp only[H9,tn,ak,bx,aG,aF,aH]
  simp only[bn,bG,eq_self,implies_true,Bool.cond_self]
  rfl
structure Ju where
  (n:Nat) (t:Nat->fS) (sp pg:Int)
def Rm:Sy.Spec:=⟨Ju,λ⟨n,t,sp,pg⟩=> [.sl true 4 n (rF λi=>lu (t i)),.fn 84 2 (aA [.pt true 1 (λ_=> .v (.int .i64 sp)),.pt true 1 (λ_=> .v (.int .i64 pg))])],λ_=> [],λ_=>True,λ⟨n,t,sp,pg⟩=> .v (.int .i64 (gj n λi=>fN sp pg (t i))),λ_=> [],
  λargs mem=>match args with| [a0,a1]=>(match jG 84 a1 with|true=>some ⟨bN a0,λi=>rp (λj=>bD a0 i j),ao (bp (dA a1 0) 0),ao (bp (dA a1 1) 0)⟩|false=>none)|_=>none⟩
def Rn:aX:=⟨[],(Rm).g,none⟩
def Jv:Ju->Prop:=λ⟨n,t,sp,pg⟩=>let a0:=(n:Int);let b0:=gj n (λc0:Nat=>fN sp pg (t c0));a0<=9223372036854775807->0=((0:Nat):Int)/\True/\(0<=n/\(∀d0:Nat,d0<0->fN sp pg (t d0)=false))/\(∀e0:Nat,let g0:=(e0:Int);let h0:=decide (g0<a0);let k0:=t (Int.toNat g0);let l0:=fN sp pg k0;let o0:Int:=g0+1;e0<=n/\(∀q0:Nat,q0<e0->fN sp pg (t q0)=false)->(h0=true->(0<=g0/\g0<a0)/\((aH k0 k0/\(True/\sp=sp)/\(True/\pg=pg)/\True)/\True/\True)/\(l0=true->g0=b0/\True)/\(l0=false->ak o0=o0/\(∃r0:Nat,o0=(r0:Int)/\True/\(r0<=n/\(∀u0:Nat,u0<r0->fN sp pg (t u0)=false))/\n-r0<n-e0)))/\(h0=false->(-1)=b0/\True))
theorem Qb:aW Tryz.prog bf 83 Rn:=bd (.cons OV .nil) false Tryz.call83 Tryz.func83 (λ⟨n,t,sp,pg⟩=> [.inv (Vc n λi=>fN sp pg (t i))]) (V:=Jv) (λ_=>by kernel_rfl) λ⟨n,t,sp,pg⟩ hp=>by
  dsimp only[Jv,tn,ak,bx,aG,aF,aH]
  simp only[bn,eq_self,implies_true,Bool.cond_self]
  intro _ s hs
  refine⟨λh=>?_,λh=>?_⟩
  · have ai:=br h
    refine⟨by omega,λJ=>?_,λJ=>⟨by rw[IntKind.wrap_i64];omega,bP ⟨⟨by omega,λj hj=>?_⟩,by omega⟩⟩⟩
    · rw[AR (p:=λi=>fN sp pg (t i)) hs.2 J ai]
    · rcases Nat.lt_or_ge j s with h3|h3
      · exact hs.2 j h3
      · obtain rfl:j=s:=by omega
        exact J
  · obtain rfl:s=n:=by have:=bJ h;omega
    rw[sv (p:=λi=>fN sp pg (t i)) hs.2]
structure Jw where
  (n:Nat) (t:Nat->fS) (sp pg:Int)
def Ro:Sy.Spec:=⟨Jw,λ⟨n,t,sp,pg⟩=> [.sl true 4 n (rF λi=>lu (t i)),.v (.int .i64 sp),.v (.int .i64 pg)],λ_=> [],λ_=>True,λ⟨n,t,sp,pg⟩=> .tp 2 (aA [.ag 4 (aA (lu (sc n t sp pg))),.v (.bool (sb n t sp pg))]),λ_=> [],
  λargs mem=>match args with| [a0,a1,a2]=>some ⟨bN a0,λi=>rp (λj=>bD a0 i j),ao (a1),ao (a2)⟩|_=>none⟩
def Rp:aX:=⟨[],(Ro).g,none⟩
def Jx:Jw->Prop:=λ⟨n,t,sp,pg⟩=>let a0:=gj n (λb0:Nat=>fN sp pg (t b0));let c0:=decide (a0<0);let d0:=tn 3 True;let e0:=sc n t sp pg;let g0:=sb n t sp pg;tn 3 ((((n=n/\(∀h0:Nat,h0<n->aH (t h0) (t h0)))/\(tn 2 (sp=sp)/\True/\pg=pg)/\True)/\True/\True)/\(c0=true->d0/\((True/\aH (fS.mk 0 0 0 false) e0)/\false=g0)/\True)/\(c0=false->(0<=a0/\a0<(n:Int))/\d0/\((True/\aH (t (Int.toNat a0)) e0)/\true=g0)/\True))
theorem P2:aW Tryz.prog bf 67 Rp:=bd (.cons Qb .nil) false Tryz.call67 Tryz.func67 (λ_=> []) (V:=Jx) (λ_=>by kernel_rfl) λ⟨n,t,sp,pg⟩ hp=>by
  dsimp only[Jx,tn,ak,bx,aG,aF,aH]
  simp only[bn,eq_self,implies_true,Bool.cond_self]
  have key: ∀b,sb n t sp pg=b->(b=true/\(gj n λi=>fN sp pg (t i))=(cA n λi=>fN sp pg (t i):Nat)/\(cA n λi=>fN sp pg (t i))<n/\sc n t sp pg=t (cA n λi=>fN sp pg (t i)))\/(b=false/\(gj n λi=>fN sp pg (t i))= -1/\sc n t sp pg=Lt):=by
    intro b h
    have h':Nat.blt (cA n λi=>fN sp pg (t i)) n=b:=h
    cases b with
    |true=>left;exact⟨rfl,by unfold gj;rw[h'];rfl,Nat.le_of_ble_eq_true h',by unfold sc;rw[h'];rfl⟩
    |false=>right;exact⟨rfl,by unfold gj;rw[h'];rfl,by unfold sc;rw[h'];rfl⟩
  rcases key _ rfl with⟨J,U,h3,h4⟩|⟨J,U,h4⟩
  · rw[J,U,h4]
    refine⟨λh=>by simp at h;omega,λ_=>⟨by omega,?_,rfl⟩⟩
    rw[Int.toNat_natCast]
    exact⟨⟨⟨rfl,rfl⟩,rfl⟩,rfl⟩
  · rw[J,U,h4]
    exact⟨λ_=>⟨⟨⟨⟨rfl,rfl⟩,rfl⟩,rfl⟩,rfl⟩,λh=>by simp at h⟩
end Go.Proofs.YtbngaammbjaajaaGreatDoor
