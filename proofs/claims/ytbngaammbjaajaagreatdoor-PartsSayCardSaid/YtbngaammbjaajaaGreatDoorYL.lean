/- The program's look at a world: keys, tables, turns. -/
import Derived.Test.YtbngaammbjaajaaGreatDoorYK
set_option linter.unusedVariables false
set_option linter.unusedSimpArgs false
set_option linter.unusedVariables false
set_option linter.unusedSimpArgs false
set_option maxRecDepth 100000
namespace Go.Proofs.YtbngaammbjaajaaGreatDoor
open Go.RowKit Go.Sy
theorem OF (n:Nat) (p:Nat->Bool):Nat.blt (cA n p) n=cX n p:=by
  cases hq:cX n p with
  |true=>obtain⟨i,hi,h⟩:=lE.1 hq;exact da (sX hi h)
  |false=>rw[qk (mu.1 hq)];exact dy (Nat.le_refl _)
theorem zP {W:Wd} {n i:Nat} {l:Nat->fS} (hi:i<n) (h:dW W l i=false):b_ W n l=false:=by
  unfold b_;rw[mr (p:=λi=>dW W l i) hi h];cases decide (n<=4)<;>rfl
structure HT where
  (i:Int) (W:Wd)
def HU:Sy.Spec:=⟨HT,λ⟨i,W⟩=> [.v (.int .i64 i),.sl true 4 (W.aQ i.toNat) (rF λk=>lu (W.aB i.toNat k)),.pt true 1 (λ_=>dV W)],λ_=> [],λ⟨i,W⟩=>bL W/\W.aQ i.toNat<=1000/\ ∀k,k<W.ar->gN (W.af k),λ⟨i,W⟩=> .v (.bool (!b_ W (W.aQ i.toNat) (W.aB i.toNat))),λ_=> [],
  λargs mem=>match args with| [a0,a1,a2]=>some ⟨ao (a0),dR (bp a2 0)⟩|_=>none⟩
def P1:aX:=⟨[],(HU).g,none⟩
def HV:HT->Prop:=λ⟨i,W⟩=>let a0:=Int.toNat i;let b0:=W.aQ a0;let c0:=(b0:Int);let d0:=c0<=9223372036854775807;let e0:=W.aB a0;let g0:=tn 3 True;let h0:=((W.ae:Nat):Int);let k0:=!b_ W b0 e0;let l0:=true=k0/\True;let o0:=W.ar;let q0:=W.af;let r0:=Int.toNat 0;d0->0=((0:Nat):Int)/\True/\(0<=b0/\(∀u0:Nat,u0<0->dW W e0 u0=true))/\(∀v0:Nat,let w0:=(v0:Int);let x0:=decide (w0<c0);let y0:=e0 (Int.toNat w0);let z0:=y0.sp;let a1:=cond (decide (z0<0)) true (decide (h0<=z0));let b1:=y0.pg;let c1:=cond (cond (cond a1 true (W.kinds (Int.toNat z0) !=4)) true (decide (b1<0))) true (decide (255<b1));let d1:Int:=16*b1;let e1:=z0=z0;let g1:=cond (cond (dC o0 q0 z0 d1 !=0) true (ff o0 q0 z0 d1 !=y0.fr)) true (fg o0 q0 z0 d1 !=y0.wr);let J:=Int.toNat w0-r0;let k1:=sb J (λl1:Nat=>e0 (r0+l1)) z0 b1;let o1:Int:=w0+1;v0<=b0/\(∀q1:Nat,q1<v0->dW W e0 q1=true)->(x0=true->(0<=w0/\w0<c0)/\True/\g0/\tn 22 ((a1=false->0<=z0/\z0<h0)/\(c1=true->l0)/\(c1=false->tn 9 (ak d1=d1/\(((o0=o0/\(∀r1:Nat,r1<o0->True/\q0 r1=q0 r1))/\e1/\d1=d1/\True)/\True/\(∀u1:Nat,u1<o0->0<=q0 u1/\q0 u1<=65535))/\tn 5 ((g1=true->l0)/\(g1=false->tn 2 (((0:Int)<=0/\0<=w0/\w0<=c0)/\tn 4 ((((J=J/\(∀v1:Nat,v1<J->aH (e0 (r0+v1)) (e0 (r0+v1))))/\e1/\b1=b1/\True)/\True/\True)/\tn 4 (g0/\(k1=true->l0)/\(k1=false->ak o1=o1/\(∃w1:Nat,o1=(w1:Int)/\True/\(w1<=b0/\(∀x1:Nat,x1<w1->dW W e0 x1=true))/\b0-w1<b0-v0)))))))))))/\(x0=false->d0->decide (4<c0)=k0/\True))
theorem OD:aW Tryz.prog bf 65 P1:=bd (.cons PL (.cons P2 .nil)) false Tryz.call65 Tryz.func65 (λ⟨i,W⟩=> [.inv (SC W (W.aQ i.toNat) (W.aB i.toNat))]) (V:=HV) (λ_=>by kernel_rfl) λ⟨i,W⟩ hp=>by
  dsimp only[HU]at hp
  dsimp only[HV,tn,ak,bx,aG,aF,aH]
  obtain⟨hz,hn,hw⟩:=hp
  obtain⟨l,hl⟩: ∃l,l=W.aB i.toNat:=⟨_,rfl⟩
  obtain⟨n,yU⟩: ∃n,n=W.aQ i.toNat:=⟨_,rfl⟩
  simp only[bn,bG,eq_self,implies_true,Bool.cond_self]
  simp only[<-hl,<-yU]at hn⊢
  have wr: ∀z:Int,-100000<=z->z<=100000->IntKind.i64.wrap z=z:=λz J U=>by rw[IntKind.wrap_i64];omega
  refineλ_ s hs=>⟨λh=>?_,λh _=>?_⟩
  · have ai:=br h
    have eA:(decide ((l s).sp<0)||decide ((W.ae:Int)<=(l s).sp)||W.kinds (l s).sp.toNat !=4||decide ((l s).pg<0)||decide (255<(l s).pg))=(!(bM W (l s).sp==4)||al (l s).pg 255):=by
      rw[CX (by decide),Bool.or_assoc];rfl
    have eF:sb (s -Int.toNat 0) (λa=>l (Int.toNat 0+a)) (l s).sp (l s).pg=cX s (λk=>(l k).sp==(l s).sp&&(l k).pg==(l s).pg):=by
      unfold sb;rw[OF];simp only[Int.toNat_zero,Nat.sub_zero,Nat.zero_add];rfl
    rw[eA,eF]
    refine⟨by omega,λJ=>?_,λJ=>?_,λJ=>?_⟩
    · simp only[Bool.or_eq_false_iff,decide_eq_false_iff_not]at J;omega
    · rw[zP ai (by revert J;unfold dW;cases bM W (l s).sp==4<;>cases al (l s).pg 255<;>simp)];rfl
    have hf:al (l s).pg 255=false:=by rw[Bool.or_eq_false_iff]at J;exact J.2
    have hpg:0<=(l s).pg/\(l s).pg<=255:=by simp[al]at hf;omega
    refine⟨wr _ (by omega) (by omega),hw,λU=>?_,λU=>⟨⟨by decide,by omega⟩,λh3=>?_,λh3=>⟨wr _ (by omega) (by omega),bP ⟨⟨by omega,tD hs.2 ?_⟩,by omega⟩⟩⟩⟩
    · rw[zP ai (by revert U;simp only[bne];unfold dW;cases dC W.ar W.af (l s).sp (16*(l s).pg)==0<;>cases ff W.ar W.af (l s).sp (16*(l s).pg)==(l s).fr<;>cases fg W.ar W.af (l s).sp (16*(l s).pg)==(l s).wr<;>simp)];rfl
    · rw[zP ai (by unfold dW;rw[h3];simp)];rfl
    · revert J U
      simp only[bne];unfold dW
      rw[h3]
      cases bM W (l s).sp==4<;>cases al (l s).pg 255<;>cases dC W.ar W.af (l s).sp (16*(l s).pg)==0<;>cases ff W.ar W.af (l s).sp (16*(l s).pg)==(l s).fr<;>cases fg W.ar W.af (l s).sp (16*(l s).pg)==(l s).wr<;>simp
  · have bI:=bJ h
    unfold b_
    rw[sO λj hj=>hs.2 j (by omega),Bool.and_true,<-decide_not]
    exact decide_eq_decide.2 (by omega)
end Go.Proofs.YtbngaammbjaajaaGreatDoor
set_option linter.unusedVariables false
set_option linter.unusedSimpArgs false
set_option maxRecDepth 100000
namespace Go.Proofs.YtbngaammbjaajaaGreatDoor
open Go.RowKit Go.Sy
def Sw (W:Wd) (f:Nat):bH where
  σ:=Nat
  rt:= [(4,0),(37,1)]
  sh i:= [(4,bk 0),(37,.aw 1 0 none 0 11),(39,.v (.int .i64 i))]
  mh _:= []
  inv i:=i<=11/\ ∀j,j<i->al (dK [(W.tasks f).r0,(W.tasks f).r1,(W.tasks f).r2,(W.tasks f).r3,(W.tasks f).r4,(W.tasks f).r5,(W.tasks f).r6,(W.tasks f).r7,(W.tasks f).pc,(W.tasks f).word,(W.tasks f).bS] j) 65535=false
  μ i:=11 -i
  init:=0
def Sx (W:Wd) (f:Nat):bH where
  σ:=Nat
  rt:= [(4,0)]
  sh i:= [(4,bk 0),(126,.v (.int .i64 i)),(8,.v (.int .i64 (bj i λk=>(W.tasks k).bK==f:Nat)))]
  mh _:= []
  inv i:=i<=W.aV
  μ i:=W.aV -i
  init:=0
structure Lp where
  b:Bool
def PZ (W:Wd) (f:Nat):Cut where
  σ:=Lp
  rt:= [(4,0)]
  sh s:= [(4,bk 0),(11,.v (.int .i64 (jD W f:Nat))),(12,.v (.int .i64 (f_ W f:Nat))),(13,.v (.int .i64 0)),(14,.v (.int .i64 0)),(171,.v (.int .i64 (W.tasks f).st)),(172,.v (.bool s.b))]
  mem _:= [.cells (jf (W.tasks f))]
  inv s:=s.b=((W.tasks f).st==2||(W.tasks f).st==3||(W.tasks f).st==4||(W.tasks f).st==6)
  dec fr _:=⟨qL (fr 172)⟩
theorem Q4 (a:Nat):(((a:Nat):Int) !=0)=!(a==0):=by rw[bne,xh]
theorem Q5 (a:Nat):(((a:Nat):Int) !=1)=!(a==1):=by rw[bne,td]
theorem TP {W:Wd} {f k:Int} (hk:k≠ -1):(decide (f<0)||!okF W f k)=!(bM W f==k):=by
  unfold okF
  rcases Int.lt_or_le f 0 with h|h
  · rw[decide_eq_true h,AV (.inl h),show((-1:Int)==k)=false from beq_eq_false_iff_ne.2 λe=>hk e.symm];rfl
  · rw[decide_eq_false (show¬f<0 by omega),show(f== -1)=false from beq_eq_false_iff_ne.2 (by omega)];rfl
theorem P0 {W:Wd} {f c:Nat} (hc:yy W f=c):(decide (1<(c:Int))||(((c:Int)==1) !=((W.tasks f).st==5)))=!j3 W f:=by
  unfold j3
  rw[hc,td]
  rcases Nat.lt_or_ge 1 c with h|h
  · rw[decide_eq_true (show(1:Int)<c by omega),decide_eq_false (show¬c<=1 by omega)];rfl
  · rw[decide_eq_false (show¬(1:Int)<c by omega),decide_eq_true (show c<=1 by omega)]
    cases c==1<;>cases (W.tasks f).st==5<;>rfl
theorem Sz {t:dN} {s:Nat}:(bif s.blt 8 then[t.r0,t.r1,t.r2,t.r3,t.r4,t.r5,t.r6,t.r7].getD s 0 else[t.pc,t.word,t.bS].getD (s -8) 0)= [t.r0,t.r1,t.r2,t.r3,t.r4,t.r5,t.r6,t.r7,t.pc,t.word,t.bS].getD s 0:=by
  rcases Nat.lt_or_ge s 8 with h|h
  · rw[da h]
    have:s=0\/s=1\/s=2\/s=3\/s=4\/s=5\/s=6\/s=7:=by omega
    rcases this with rfl|rfl|rfl|rfl|rfl|rfl|rfl|rfl<;>rfl
  · rw[dy h]
    obtain⟨k,rfl⟩: ∃k,s=8+k:=⟨s -8,by omega⟩
    rw[show 8+k -8=k by omega,Nat.add_comm];rfl
theorem SA {W:Wd} {f:Nat} (h: ∀j,j<11->al (dK [(W.tasks f).r0,(W.tasks f).r1,(W.tasks f).r2,(W.tasks f).r3,(W.tasks f).r4,(W.tasks f).r5,(W.tasks f).r6,(W.tasks f).r7,(W.tasks f).pc,(W.tasks f).word,(W.tasks f).bS] j) 65535=false):jC (W.tasks f)=false/\al (W.tasks f).pc 65535=false/\al (W.tasks f).word 65535=false/\al (W.tasks f).bS 65535=false:=by
  refine⟨Jj λj hj=>?_,h 8 (by omega),h 9 (by omega),h 10 (by omega)⟩
  have:=h j (by omega)
  have gZ:j=0\/j=1\/j=2\/j=3\/j=4\/j=5\/j=6\/j=7:=by omega
  rcases gZ with rfl|rfl|rfl|rfl|rfl|rfl|rfl|rfl<;>exact this
theorem SB {W:Wd} {f s:Nat} (hs:s<11) (h:al ([(W.tasks f).r0,(W.tasks f).r1,(W.tasks f).r2,(W.tasks f).r3,(W.tasks f).r4,(W.tasks f).r5,(W.tasks f).r6,(W.tasks f).r7,(W.tasks f).pc,(W.tasks f).word,(W.tasks f).bS].getD s 0) 65535=true):(!jC (W.tasks f)&&!kM W (W.tasks f))=false:=by
  cases J:jC (W.tasks f)with
  |true=>rfl
  |false=>
   cases U:kM W (W.tasks f)with
   |true=>rfl
   |false=>
    exfalso
    have hr:=Jk J
    unfold kM at U
    simp only[Bool.or_eq_false_iff]at U
    have:s<8\/s=8\/s=9\/s=10:=by omega
    rcases this with h3|rfl|rfl|rfl
    · have h4:=hr s h3
      have gZ:s=0\/s=1\/s=2\/s=3\/s=4\/s=5\/s=6\/s=7:=by omega
      rcases gZ with rfl|rfl|rfl|rfl|rfl|rfl|rfl|rfl<;>exact Bool.false_ne_true (h4.symm.trans h)
    · exact Bool.false_ne_true (U.1.1.1.1.1.1.symm.trans h)
    · exact Bool.false_ne_true (U.1.1.1.1.1.2.symm.trans h)
    · exact Bool.false_ne_true (U.1.1.1.1.2.symm.trans h)
structure Fq where
  (J1:Unit)
def Ns:Sy.Spec:=⟨Fq,λ_=> [],λ_=> [],λ_=>True,λ_=> .ag 20 (aA (jf dN.blank)),λ_=> [],
  λargs mem=>match args with| []=>some ⟨()⟩|_=>none⟩
def Nt:aX:=⟨[],(Ns).g,none⟩
def Fs:Fq->Prop:=λ_=>let a0:=dN.mk 0 0 0 0 0 0 0 0 0 0 0 (-1) (-1) (-1) (-1) 0 0 (-1) 0 0;True/\tn 19 True/\aG a0 a0/\True
theorem Mt:aW Tryz.prog bf 52 Nt:=bd .nil false Tryz.call52 Tryz.func52 (λ_=> []) (V:=Fs) (λ_=>by kernel_rfl) λ_ hp=>by
  dsimp only[Fs,tn,ak,bx,aG,aF,aH]
  simp only[bn,eq_self,implies_true,Bool.cond_self]
structure Ft where
  (i k:Int) (nc:Nat) (cl:Nat->Int) (nk:Nat) (ky:Nat->Int) (nu:Nat) (us:Nat->Bool)
def Fu:Sy.Spec:=⟨Ft,λ⟨i,k,nc,cl,nk,ky,nu,us⟩=> [.v (.int .i64 i),.v (.int .i64 k),.pt true 1 (λ_=> .sl true 1 nc (iF cl)),.pt true 1 (λ_=> .sl true 1 nk (iF ky)),.pt true 1 (λ_=> .sl true 1 nu (λi _=> .v (.bool (us i))))],λ_=> [],λ⟨i,_,nc,_,nk,_,nu,_⟩=>0<=i/\i<nc/\i<nk/\i<nu,λ⟨i,k,_,cl,_,ky,_,us⟩=> .v (.bool (decide (1<cl i.toNat)||(k !=0&&(ky i.toNat==0||(cl i.toNat==1&&!us i.toNat))))),λ_=> [],
  λargs mem=>match args with| [a0,a1,a2,a3,a4]=>some ⟨ao (a0),ao (a1),bN (bp a2 0),λi=>ao (bD (bp a2 0) i 0),bN (bp a3 0),λi=>ao (bD (bp a3 0) i 0),bN (bp a4 0),λi=>qL (bD (bp a4 0) i 0)⟩|_=>none⟩
def Nu:aX:=⟨[],(Fu).g,none⟩
def Fv:Ft->Prop:=λ⟨i,k,nc,cl,nk,ky,nu,us⟩=>let a0:=0<=i/\i<(nc:Int);let b0:=(k !=0)=true;let c0:=decide (1<cl (Int.toNat i));let d0:=c0=false;let e0:=ky (Int.toNat i)==0;let g0:=e0=false;let h0:=cl (Int.toNat i)==1;let k0:=!us (Int.toNat i);a0/\(b0->d0->0<=i/\i<(nk:Int))/\(g0->b0->d0->a0)/\(h0=true->g0->b0->d0->0<=i/\i<(nu:Int))/\cond c0 true (cond (k !=0) (cond e0 true (cond h0 k0 false)) false)=(c0||k !=0&&(e0||h0&&k0))/\True
theorem Ms:aW Tryz.prog bf 49 Nu:=bd .nil false Tryz.call49 Tryz.func49 (λ_=> []) (V:=Fv) (λ_=>by kernel_rfl) λ⟨i,k,nc,cl,nk,ky,nu,us⟩ hp=>by
  dsimp only[Fu]at hp
  dsimp only[Fv,tn,ak,bx,aG,aF,aH]
  simp only[bn,bG,eq_self,implies_true,Bool.cond_self]
  refine⟨?_,λ_ _=>?_,λ_ _ _=>?_,λ_ _ _ _=>?_⟩<;>omega
structure Gu where
  (i:Int) (W:Wd)
def Gv:Sy.Spec:=⟨Gu,λ⟨i,W⟩=> [.v (.int .i64 i),.ag 20 (aA (jf (W.tasks i.toNat))),.pt true 1 (λ_=>dV W)],λ_=> [],λ⟨i,W⟩=>bL W/\js W/\0<=i/\i<W.ae,λ⟨i,W⟩=> .v (.bool (!cr W i.toNat)),λ_=> [],
  λargs mem=>match args with| [a0,a1,a2]=>some ⟨ao (a0),dR (bp a2 0)⟩|_=>none⟩
def OE:aX:=⟨[],(Gv).g,none⟩
def Gw:Gu->Prop:=λ⟨i,W⟩=>let a0:=W.ae;let b0:=Int.toNat i;let c0:=W.kinds b0 !=6;let d0:=True/\True;let e0:=True/\d0;let g0:=W.tasks b0;let h0:=g0.r0;let k0:=g0.r1;let l0:=g0.r2;let o0:=g0.r3;let q0:=g0.r4;let u0:=g0.r5;let v0:=g0.r6;let w0:=g0.r7;let x0:=g0.pc;let y0:=g0.st;let z0:=g0.prio;let a1:=g0.node;let b1:=g0.space;let c1:=g0.helper;let d1:=g0.loc;let e1:=g0.word;let g1:=g0.bS;let J:=g0.bK;let k1:=g0.core;let l1:=g0.gr;let o1:=!cr W b0;let q1:=((11:Nat):Int);let u1:=SV.ptr 0 0 none 0 0=SV.ptr 0 0 none 0 0;let v1:=aG g0 g0;let w1:=[h0,k0,l0,o0,q0,u0,v0,w0];let x1:=[x0,e1,g1];let y1:=v1/\(8+3=8+3/\(∀z1:Nat,let a2:Int:=cond (Nat.blt z1 8) (List.getD w1 z1 0) (List.getD x1 (0+(z1-8)) 0);z1<8+3->True/\a2=a2))/\True;let b2:=(h0::k0::l0::o0::q0::u0::v0::w0::x1);let c2:=true=o1/\True;let d2:=y0=y0;let e2:=(6:Int)=6/\True;let g2:=al y0 6;let U:=(3:Int)=3/\True;let k2:=cond g2 true (al z0 3);let l2:=k2=false;let o2:=W.aE;let q2:Int:=(o2:Int)-1;let u2:=cond k2 true (al k1 q2);let v2:=cond u2 true (al l1 3);let w2:=W.av;let x2:=W.aV;let y2:=W.bz;let z2:=y2=y2/\(∀a3:Nat,let b3:=W.aD a3;a3<y2->True/\b3=b3/\(∀c3:Nat,c3<b3->True/\W.lines a3 c3=W.lines a3 c3));let d3:=o2=o2/\(∀e3:Nat,e3<o2->True/\W.aM e3=W.aM e3);let g3:=W.aY;let h3:=g3=g3/\(∀k3:Nat,let l3:=W.aL k3;k3<g3->True/\l3=l3/\(∀o3:Nat,o3<l3->True/\W.ready k3 o3=W.ready k3 o3));
    let q3:=((((((((((True/\W.ar=W.ar/\(∀u3:Nat,u3<W.ar->True/\W.af u3=W.af u3))/\a0=a0/\(∀v3:Nat,v3<a0->True/\W.kinds v3=W.kinds v3))/\w2=w2/\(∀w3:Nat,w3<w2->aF (W.aj w3) (W.aj w3)))/\x2=x2/\(∀x3:Nat,x3<x2->aG (W.tasks x3) (W.tasks x3)))/\z2)/\W.aI=W.aI/\(∀y3:Nat,y3<W.aI->True/\W.bits y3=W.bits y3))/\d3)/\h3)/\W.aK=W.aK/\(∀z3:Nat,let a4:=W.aQ z3;z3<W.aK->True/\a4=a4/\(∀b4:Nat,b4<a4->aH (W.aB z3 b4) (W.aB z3 b4))))/\W.az=W.az/\(∀c4:Nat,c4<W.az->True/\W.aU c4=W.aU c4))/\W.time=W.time;let d4:=cond v2 true (!okF W a1 5);let e4:=cond d4 true (!okF W b1 4);let g4:=(7:Int)=7/\True;let h4:=True/\((7:Int)=(-1)->False);let k4:=cond e4 true (!okF W c1 7);let l4:=cond k4 true (!okF W J 6);let o4:=decide (0<=J);let q4:=(x2:Int);let u4:=y0==4;let v4:=cond o4 (cond ((W.tasks (Int.toNat J)).st !=5) true u4) false;let w4:=(b0:Int);let x4:=v1/\True;let y4:=y0==5;let z4:=i=i/\True;let a5:Int:=((dp g3 W.aL W.ready i:Nat):Int)+((dp 1 (λb5:Nat=>o2) (λc5:Nat=>W.aM) i:Nat):Int);let d5:=y0==2;let e5:=((jD W b0:Nat):Int);let g5:=((dp y2 W.aD W.lines i:Nat):Int)=e5;let h5:=((f_ W b0:Nat):Int);let k5:=a5=h5;let l5:=(0:Int)=0;let o5:=y0==3;let q5:=y0==6;let u5:=d5||o5||u4||q5;let v5:=decide (d1<0);let w5:=v5=false;let x5:=d1=d1;let y5:=cond v5 true (!okF W d1 8);let z5:=y5=false;let a6:=0<=d1/\d1<(y2:Int);let b6:=Int.toNat d1;let c6:=W.aD b6;let d6:=W.lines b6;
    let e6:=((c6=c6/\(∀g6:Nat,g6<c6->True/\d6 g6=d6 g6))/\z4)/\True/\zm.match_1 (λh6:vm=>Prop) (vm.mk c6 d6 i) (λk6:Nat=>λl6:∀o6:Nat,Int=>λq6:Int=>k6<=100000);let u6:=!jO c6 d6 i;let v6:=cond y5 true u6;let w6:=d1 !=(-1);let x6:=h5 !=0;let y6:=cond (cond (cond ((1:Int)==0) w6 false) true (e5 !=1)) true x6=o1/\True;let z6:=cond v5 true (!okF W d1 7);let a7:=z6=false;let b7:=cond z6 true u6;let c7:=y0==1;let d7:=cond (cond ((0:Int)==0) w6 false) true (e5 !=0);True/\(0<=i/\i<(a0:Int))/\(c0=true->True/\e0/\(!(h0==0&&(k0==0&&(l0==0&&(o0==0&&(q0==0&&(u0==0&&(v0==0&&(w0==0&&true)))))))&&(x0==0&&(y0==0&&(z0==0&&(a1==(-1)&&(b1==(-1)&&(c1==(-1)&&(d1==(-1)&&(e1==0&&(g1==0&&(J==(-1)&&(k1==0&&(l1==0&&true))))))))))))))=o1/\True)/\(c0=false->tn 10 (((8+3)*8<=140737488355328/\(∀e7:Nat,true=true))/\(q1<=9223372036854775807->u1/\(0=0/\11=11)/\0=((0:Nat):Int)/\y1/\(0<=11/\(∀g7:Nat,g7<0->al (List.getD b2 g7 0) 65535=false))/\(∀h7:Nat,let k7:=(h7:Int);let l7:=decide (k7<q1);let o7:=0+Int.toNat k7;let q7:Int:=cond (Nat.blt o7 8) (List.getD w1 o7 0) (List.getD x1 (0+(o7-8)) 0);let u7:=al q7 65535;let v7:Int:=k7+1;h7<=11/\(∀w7:Nat,w7<h7->al (List.getD b2 w7 0) 65535=false)->(l7=true->(0<=k7/\k7<q1)/\((q7=q7/\(65535:Int)=65535/\True)/\d0)/\(u7=true->c2)/\(u7=false->ak v7=v7/\(∃x7:Nat,u1/\(0=0/\11=11)/\v7=(x7:Int)/\y1/\(x7<=11/\(∀y7:Nat,y7<x7->al (List.getD b2 y7 0) 65535=false))/\11-x7<11-h7)))/\(l7=false->tn 2 (((d2/\e2)/\d0)/\tn 3 ((g2=false->(z0=z0/\U)/\d0)/\tn 10 ((l2->ak q2=q2)/\(l2->(k1=k1/\q2=q2/\True)/\d0)/\
    tn 4 ((u2=false->(l1=l1/\U)/\d0)/\tn 5 ((v2=false->(q3/\a1=a1/\(5:Int)=5/\True)/\True/\((5:Int)=(-1)->False))/\tn 6 ((d4=false->(q3/\b1=b1/\(4:Int)=4/\True)/\True/\((4:Int)=(-1)->False))/\tn 6 ((e4=false->(q3/\c1=c1/\g4)/\h4)/\tn 6 ((k4=false->(q3/\J=J/\e2)/\True/\((6:Int)=(-1)->False))/\(l4=true->c2)/\(l4=false->tn 11 ((o4=true->0<=J/\J<q4)/\(v4=true->c2)/\(v4=false->q4<=9223372036854775807->u1/\0=((0:Nat):Int)/\0=((bj 0 (λz7:Nat=>(W.tasks z7).bK==w4):Nat):Int)/\x4/\0<=x2/\(∀a8:Nat,let b8:=(a8:Int);let c8:=decide (b8<q4);let d8:=(W.tasks (Int.toNat b8)).bK==i;let e8:=((bj a8 (λg8:Nat=>(W.tasks g8).bK==w4):Nat):Int);let h8:Int:=e8+1;let k8:Int:=b8+1;let l8:=ak k8=k8;let o8:=cond (decide (1<e8)) true ((e8==1) !=y4);a8<=x2->(c8=true->(0<=b8/\b8<q4)/\True/\tn 17 e0/\(d8=true->ak h8=h8/\l8/\(∃q8:Nat,u1/\k8=(q8:Int)/\h8=((bj q8 (λr8:Nat=>(W.tasks r8).bK==w4):Nat):Int)/\x4/\q8<=x2/\x2-q8<x2-a8))/\(d8=false->l8/\(∃u8:Nat,u1/\k8=(u8:Int)/\e8=((bj u8 (λv8:Nat=>(W.tasks v8).bK==w4):Nat):Int)/\x4/\u8<=x2/\x2-u8<x2-a8)))/\(c8=false->(o8=true->c2)/\(o8=false->tn 6 (((z2/\z4)/\True/\y2<=1000/\(∀w8:Nat,w8<y2->W.aD w8<=1000))/\tn 6 (((h3/\z4)/\True/\g3<=1000/\(∀x8:Nat,x8<g3->W.aL x8<=1000))/\tn 7 ((((1=1/\(∀y8:Nat,y8<1->True/\d3))/\z4)/\True/\1<=1000/\(∀z8:Nat,z8<1->o2<=1000))/\ak a5=a5/\True/\((d5=true->u1/\g5/\k5/\l5/\l5/\d2/\d5=d5/\x4/\d5=u5)/\(d5=false->(o5=true->u1/\g5/\k5/\l5/\l5/\d2/\o5=o5/\x4/\o5=u5)/\(o5=false->(u4=true->u1/\g5/\k5/\l5/\l5/\d2/\u4=u4/\x4/\u4=u5)/\(u4=false->u1/\g5/\k5/\l5/\l5/\d2/\q5=q5/\x4/\q5=u5))))/\(∀a9:Lp,a9.b=u5->(a9.b=true->(q5=true->tn 8 ((w5->(q3/\x5/\(8:Int)=8/\
    True)/\True/\((8:Int)=(-1)->False))/\tn 10 ((z5->a6)/\tn 2 ((z5->e6)/\(v6=true->c2)/\(v6=false->y6)))))/\(q5=false->tn 8 ((w5->(q3/\x5/\g4)/\h4)/\tn 10 ((a7->a6)/\tn 2 ((a7->e6)/\(b7=true->c2)/\(b7=false->y6))))))/\(a9.b=false->(c7=true->cond d7 true (h5 !=1)=o1/\True)/\(c7=false->cond d7 true x6=o1/\True)))))))))))))))))))))))))
set_option maxHeartbeats 1000000 in
theorem Np:aW Tryz.prog bf 51 OE:=bd (.cons qz (.cons Mt (.cons Nv (.cons LC (.cons Q6 .nil))))) false Tryz.call51 Tryz.func51 (λ⟨i,W⟩=> [.inv (Sw W i.toNat),.inv (Sx W i.toNat),.cut 29 (PZ W i.toNat)]) (V:=Gw) (λ_=>by kernel_rfl) λ⟨i,W⟩ hp=>by
  dsimp only[Gv]at hp
  dsimp only[Gw,tn,ak,bx,aG,aF,aH]
  obtain⟨hz,hm,f0,f1⟩:=hp
  obtain⟨F,rfl⟩: ∃F:Nat,i=F:=⟨i.toNat,by omega⟩
  simp only[bn,bG,eq_self,implies_true,Bool.cond_self]
  have lD:=hz.tasks
  have lV:=hz.k1
  have p_:=hz.lines
  have DT:=hz.c1
  have U4:=hz.c0
  have U5:=hz.ready
  simp only[Sz]
  refine⟨by omega,λh=>?_,λh=>⟨by decide,λ_ s hs=>⟨λJ=>?_,λJ=>?_⟩⟩⟩
  · unfold cr;rw[h];rfl
  · have core:=AZ h
    have ai:s<11:=by have:=of_decide_eq_true J;omega
    refine⟨by omega,λU=>?_,λU=>⟨by rw[IntKind.wrap_i64];omega,bP ⟨⟨by omega,dn (p:=λj=>al (dK [(W.tasks F).r0,(W.tasks F).r1,(W.tasks F).r2,(W.tasks F).r3,(W.tasks F).r4,(W.tasks F).r5,(W.tasks F).r6,(W.tasks F).r7,(W.tasks F).pc,(W.tasks F).word,(W.tasks F).bS] j) 65535) hs.2 U⟩,by omega⟩⟩⟩
    rw[core,SB ai U];rfl
  have core:=AZ h
  have U6:s=11:=by have:=of_decide_eq_false J;omega
  obtain⟨fi,U7,U8,U9⟩:=SA (W:=W) (f:=F) λj hj=>hs.2 j (by omega)
  rw[fi]at core
  have eN:kM W (W.tasks F)=(al (W.tasks F).st 6||al (W.tasks F).prio 3||al (W.tasks F).core (W.aE -1)||al (W.tasks F).gr 3):=by unfold kM;rw[U7,U8,U9];rfl
  have eA:(al (W.tasks F).st 6||al (W.tasks F).prio 3||al (W.tasks F).core (W.aE -1)||al (W.tasks F).gr 3||!okF W (W.tasks F).node 5||!okF W (W.tasks F).space 4||!okF W (W.tasks F).helper 7||!okF W (W.tasks F).bK 6)=!(!kM W (W.tasks F)&&jb W (W.tasks F)):=by
    rw[eN];unfold jb;simp only[Bool.not_and,Bool.not_or,Bool.not_not,Bool.or_assoc]
  rw[eA]
  refine⟨λ_=>by rw[IntKind.wrap_i64];omega,λ_=>by decide,λ_=>by decide,λ_=>by decide,λ_=>by decide,λU=>?_,λU=>?_⟩
  · rw[core]
    revert U;cases kM W (W.tasks F)<;>cases jb W (W.tasks F)<;>simp
  have h3:=eJ U
  rw[Bool.and_eq_true]at h3
  obtain⟨TQ,mV⟩:=h3
  rw[TQ,mV]at core
  have aZ:okF W (W.tasks F).bK 6=true:=by unfold jb at mV;simp only[Bool.and_eq_true]at mV;exact mV.2
  have hO:(W.tasks F).bK= -1\/(0<=(W.tasks F).bK/\(W.tasks F).bK<W.ae):=by
    rcases Decidable.em ((W.tasks F).bK= -1)with h|h
    · exact .inl h
    · exact .inr (Jl (by decide) aZ (by simpa using h))
  have eB:(decide (0<=(W.tasks F).bK)&&((W.tasks (W.tasks F).bK.toNat).st !=5||(W.tasks F).st==4))=!lK W (W.tasks F):=by
    unfold lK
    rw[show decide (0<=(W.tasks F).bK)=!((W.tasks F).bK== -1) by
     rcases hO with h|h
     · rw[h];rfl
     · rw[decide_eq_true h.1,show((W.tasks F).bK== -1)=false from beq_eq_false_iff_ne.2 (by omega)];rfl]
    simp only[bne,Bool.not_and,Bool.not_or,Bool.not_not]
  rw[eB]
  refine⟨λh4=>?_,λh4=>?_,λh4 _=>?_⟩
  · have:=of_decide_eq_true h4;omega
  · rw[core,j9 h4];rfl
  rw[eJ h4]at core
  refine⟨rfl,λs hs=>⟨λh5=>?_,λh5=>?_⟩⟩
  · have ai:=br h5
    have hb:=iI (λk=>(W.tasks k).bK==F) s
    refine⟨by omega,λh6=>?_,λh6=>?_⟩
    · exact⟨by rw[IntKind.wrap_i64];omega,by rw[IntKind.wrap_i64];omega,bP ⟨by simp[bj,h6],by omega,by omega⟩⟩
    · exact⟨by rw[IntKind.wrap_i64];omega,bP ⟨by simp[bj,h6],by omega,by omega⟩⟩
  have bI:=bJ h5
  obtain rfl:s=W.aV:=by omega
  rw[show(decide (1<((bj W.aV λk=>(W.tasks k).bK==F:Nat):Int))||((((bj W.aV λk=>(W.tasks k).bK==F:Nat):Int)==1) !=((W.tasks F).st==5)))=!j3 W F from P0 (W:=W) (f:=F) rfl]
  refine⟨λh6=>?_,λh6=>?_⟩
  · rw[core,j9 h6];rfl
  rw[eJ h6]at core
  have core:cr W F=jg W F:=by rw[core];rfl
  rw[KJ]
  have b1:dp W.aY W.aL W.ready F<=W.aY*50:=sW λi hi=>Nat.le_trans (iI _ _) (hm.2.1 i hi)
  have b2:mU W.aE W.aM F<=W.aE:=iI _ _
  have et:((dp W.aY W.aL W.ready F:Nat):Int)+((mU W.aE W.aM F:Nat):Int)=(f_ W F:Nat):=by unfold f_;omega
  rw[et]
  refine⟨⟨by omega,λi hi=>Nat.le_trans (hm.1 i hi) (by omega)⟩,⟨by omega,λi hi=>Nat.le_trans (hm.2.1 i hi) (by omega)⟩,⟨by omega,λ_ _=>by omega⟩,by rw[IntKind.wrap_i64];unfold f_;omega,?_,?_⟩
  · refine⟨λh=>⟨rfl,rfl,by rw[h];rfl⟩,λh=>⟨λh7=>⟨rfl,rfl,by rw[h,h7];rfl⟩,λh7=>⟨λh8=>⟨rfl,rfl,by rw[h,h7,h8];rfl⟩,λh8=>⟨rfl,rfl,by rw[h,h7,h8];rfl⟩⟩⟩⟩
  rintro ⟨b⟩ hb
  have hb:b=((W.tasks F).st==2||(W.tasks F).st==3||(W.tasks F).st==4||(W.tasks F).st==6):=hb
  simp only[Q4,Q5]
  have dT: ∀k:Int,k≠ -1->jg W F=qy W F k->(decide ((W.tasks F).loc<0)=false->k≠ -1)/\((decide ((W.tasks F).loc<0)||!okF W (W.tasks F).loc k)=false->0<=(W.tasks F).loc/\(W.tasks F).loc<W.bz)/\((decide ((W.tasks F).loc<0)||!okF W (W.tasks F).loc k)=false->W.aD (W.tasks F).loc.toNat<=100000)/\
   ((decide ((W.tasks F).loc<0)||!okF W (W.tasks F).loc k||!jO (W.aD (W.tasks F).loc.toNat) (W.lines (W.tasks F).loc.toNat) F)=true->true=!cr W F)/\((decide ((W.tasks F).loc<0)||!okF W (W.tasks F).loc k||!jO (W.aD (W.tasks F).loc.toNat) (W.lines (W.tasks F).loc.toNat) F)=false->((1:Int)==0&&(W.tasks F).loc != -1||!(jD W F==1)||!(f_ W F==0))=!cr W F):=by
    intro k hk he
    rw[TP hk,core,he]
    have bo:(!(bM W (W.tasks F).loc==k))=false->0<=(W.tasks F).loc/\(W.tasks F).loc<W.bz:=λh=>by
      rw[p_];exact jB (by rw[eq_of_beq (eJ h)];exact hk)
    refine⟨λ_=>hk,bo,λh=>?_,λh=>?_,λh=>?_⟩
    · have:=bo h;have:=hm.1 (W.tasks F).loc.toNat (by omega);omega
    · unfold qy;revert h
      cases bM W (W.tasks F).loc==k<;>cases jO (W.aD (W.tasks F).loc.toNat) (W.lines (W.tasks F).loc.toNat) F<;>cases jD W F==1<;>cases f_ W F==0<;>simp
    · unfold qy;revert h
      cases bM W (W.tasks F).loc==k<;>cases jO (W.aD (W.tasks F).loc.toNat) (W.lines (W.tasks F).loc.toNat) F<;>cases jD W F==1<;>cases f_ W F==0<;>simp
  refine⟨λh7=>⟨λh8=>dT 8 (by decide) ?_,λh8=>dT 7 (by decide) ?_⟩,λh7=>?_⟩
  · have e6:=eq_of_beq h8
    simp only[jg];rw[e6];rfl
  · have h7:b=true:=h7
    rw[h7,h8,Bool.or_false]at hb
    simp only[jg];rw[<-hb];rfl
  · have h7:b=false:=h7
    have hb:=hb.symm
    rw[h7]at hb
    rw[Bool.or_eq_false_iff]at hb
    rw[core]
    simp only[jg];rw[hb.1,hb.2]
    refine⟨λh8=>?_,λh8=>?_⟩
    · rw[h8];simp only[bne]
      cases jD W F==0<;>cases f_ W F==1<;>cases (W.tasks F).loc== -1<;>rfl
    · rw[h8];simp only[bne]
      cases jD W F==0<;>cases f_ W F==0<;>cases (W.tasks F).loc== -1<;>rfl
end Go.Proofs.YtbngaammbjaajaaGreatDoor
set_option linter.unusedVariables false
set_option linter.unusedSimpArgs false
set_option maxRecDepth 100000
namespace Go.Proofs.YtbngaammbjaajaaGreatDoor
open Go.RowKit Go.Sy
def bE (n:Nat) (p:Nat->Bool) (e:Int):Int:=(a_ n p e (0,-1)).1
def bA (n:Nat) (p:Nat->Bool) (e:Int):Int:=(a_ n p e (0,-1)).2
def kO (n:Nat) (p:Nat->Bool):bH where
  σ:=Nat
  rt:= []
  sh i:= [(11,.v (.int .i64 i))]
  mh _:= []
  inv i:=i<=n/\ ∀j,j<i->p j=false
  μ i:=n -i
  init:=0
structure HJ where
  (n:Nat) (l:Nat->Int) (e:Int)
def HK:Sy.Spec:=⟨HJ,λ⟨n,l,e⟩=> [.sl true 1 n (λi_ _=> .v (.int .i64 (l i_))),.v (.int .i64 e),.fn 42 0 (λ_=> .aq)],λ_=> [],λ⟨n,_,e⟩=>e≠0/\n<=100000,λ⟨n,l,e⟩=> .er 30 73 (bE n (λi=>al (l i) 65535) e) (bA n (λi=>al (l i) 65535) e),λ_=> [],
  λargs mem=>match args with| [a0,a1,a2]=>(match jG 42 a2 with|true=>some ⟨bN a0,λi=>ao (bD a0 i 0),ao (a1)⟩|false=>none)|_=>none⟩
def PW:aX:=⟨[],(HK).g,none⟩
def HL:HJ->Prop:=λ⟨n,l,e⟩=>let a0:=(n:Int);let b0:=bE n (λc0:Nat=>al (l c0) 65535) e;let d0:=bA n (λe0:Nat=>al (l e0) 65535) e;a0<=9223372036854775807->0=((0:Nat):Int)/\True/\(0<=n/\(∀g0:Nat,g0<0->al (l g0) 65535=false))/\(∀h0:Nat,let k0:=(h0:Int);let l0:=decide (k0<a0);let o0:=k0=k0;let q0:Int:=l (Int.toNat k0);let r0:=al q0 65535;let u0:Int:=k0+1;h0<=n/\(∀v0:Nat,v0<h0->al (l v0) 65535=false)->(l0=true->(0<=k0/\k0<a0)/\((o0/\q0=q0/\True)/\True/\True)/\(r0=true->((o0/\e=e/\True)/\True/\0<=k0/\e≠0)/\(e=b0/\k0=d0)/\True)/\(r0=false->ak u0=u0/\(∃w0:Nat,u0=(w0:Int)/\True/\(w0<=n/\(∀x0:Nat,x0<w0->al (l x0) 65535=false))/\n-w0<n-h0)))/\(l0=false->(b0=0/\d0=(-1))/\True))
set_option maxHeartbeats 1000000 in
theorem Ou:aW Tryz.prog bf 41 PW:=bd (.cons kP (.cons Nl .nil)) false Tryz.call41 Tryz.func41 (λ⟨n,l,_⟩=> [.inv (kO n (λi=>al (l i) 65535))]) (V:=HL) (λ_=>by kernel_rfl) λ⟨n,l,e⟩ hp=>by
  dsimp only[HK]at hp
  dsimp only[HL,tn,ak,bx,aG,aF,aH]
  obtain⟨he,hp⟩:=hp
  simp only[bn,bG,eq_self,implies_true,Bool.cond_self]
  unfold bE bA
  refineλ_ s hs=>⟨λh=>?_,λh=>?_⟩
  · have ai:=br h
    refine⟨by omega,λJ=>?_,λJ=>⟨by rw[IntKind.wrap_i64];omega,bP ⟨⟨by omega,dn (p:=λi=>al (l i) 65535) hs.2 J⟩,by omega⟩⟩⟩
    rw[dY (p:=λi=>al (l i) 65535) hs.2 J ai]
    first|exact⟨he,rfl,rfl⟩|exact⟨⟨by omega,he⟩,rfl,rfl⟩
  · have bI:=bJ h
    rw[cR (p:=λi=>al (l i) 65535) λj hj=>hs.2 j (by omega)]
    exact⟨rfl,rfl⟩
structure HM where
  (n:Nat) (l:Nat->Int) (e:Int)
def HN:Sy.Spec:=⟨HM,λ⟨n,l,e⟩=> [.sl true 1 n (λi_ _=> .v (.int .i64 (l i_))),.v (.int .i64 e),.fn 43 0 (λ_=> .aq)],λ_=> [],λ⟨n,_,e⟩=>e≠0/\n<=100000,λ⟨n,l,e⟩=> .er 30 73 (bE n (λi=>al (l i) 8||l i==1) e) (bA n (λi=>al (l i) 8||l i==1) e),λ_=> [],
  λargs mem=>match args with| [a0,a1,a2]=>(match jG 43 a2 with|true=>some ⟨bN a0,λi=>ao (bD a0 i 0),ao (a1)⟩|false=>none)|_=>none⟩
def PX:aX:=⟨[],(HN).g,none⟩
def HO:HM->Prop:=λ⟨n,l,e⟩=>let a0:=(n:Int);let b0:=bE n (λc0:Nat=>al (l c0) 8||l c0==1) e;let d0:=bA n (λe0:Nat=>al (l e0) 8||l e0==1) e;a0<=9223372036854775807->0=((0:Nat):Int)/\True/\(0<=n/\(∀g0:Nat,g0<0->(al (l g0) 8||l g0==1)=false))/\(∀h0:Nat,let k0:=(h0:Int);let l0:=decide (k0<a0);let o0:=k0=k0;let q0:Int:=l (Int.toNat k0);let r0:=al q0 8||q0==1;let u0:Int:=k0+1;h0<=n/\(∀v0:Nat,v0<h0->(al (l v0) 8||l v0==1)=false)->(l0=true->(0<=k0/\k0<a0)/\((o0/\q0=q0/\True)/\True/\True)/\(r0=true->((o0/\e=e/\True)/\True/\0<=k0/\e≠0)/\(e=b0/\k0=d0)/\True)/\(r0=false->ak u0=u0/\(∃w0:Nat,u0=(w0:Int)/\True/\(w0<=n/\(∀x0:Nat,x0<w0->(al (l x0) 8||l x0==1)=false))/\n-w0<n-h0)))/\(l0=false->(b0=0/\d0=(-1))/\True))
set_option maxHeartbeats 1000000 in
theorem Ov:aW Tryz.prog bf 41 PX:=bd (.cons kP (.cons Nm .nil)) false Tryz.call41 Tryz.func41 (λ⟨n,l,_⟩=> [.inv (kO n (λi=>al (l i) 8||l i==1))]) (V:=HO) (λ_=>by kernel_rfl) λ⟨n,l,e⟩ hp=>by
  dsimp only[HN]at hp
  dsimp only[HO,tn,ak,bx,aG,aF,aH]
  obtain⟨he,hp⟩:=hp
  simp only[bn,bG,eq_self,implies_true,Bool.cond_self]
  unfold bE bA
  refineλ_ s hs=>⟨λh=>?_,λh=>?_⟩
  · have ai:=br h
    refine⟨by omega,λJ=>?_,λJ=>⟨by rw[IntKind.wrap_i64];omega,bP ⟨⟨by omega,dn (p:=λi=>al (l i) 8||l i==1) hs.2 J⟩,by omega⟩⟩⟩
    rw[dY (p:=λi=>al (l i) 8||l i==1) hs.2 J ai]
    first|exact⟨he,rfl,rfl⟩|exact⟨⟨by omega,he⟩,rfl,rfl⟩
  · have bI:=bJ h
    rw[cR (p:=λi=>al (l i) 8||l i==1) λj hj=>hs.2 j (by omega)]
    exact⟨rfl,rfl⟩
structure HP where
  (n:Nat) (l:Nat->Int) (e:Int)
def HQ:Sy.Spec:=⟨HP,λ⟨n,l,e⟩=> [.sl true 1 n (λi_ _=> .v (.int .i64 (l i_))),.v (.int .i64 e),.fn 44 0 (λ_=> .aq)],λ_=> [],λ⟨n,_,e⟩=>e≠0/\n<=100000,λ⟨n,l,e⟩=> .er 30 73 (bE n (λi=>al (l i) 3) e) (bA n (λi=>al (l i) 3) e),λ_=> [],
  λargs mem=>match args with| [a0,a1,a2]=>(match jG 44 a2 with|true=>some ⟨bN a0,λi=>ao (bD a0 i 0),ao (a1)⟩|false=>none)|_=>none⟩
def PY:aX:=⟨[],(HQ).g,none⟩
def HR:HP->Prop:=λ⟨n,l,e⟩=>let a0:=(n:Int);let b0:=bE n (λc0:Nat=>al (l c0) 3) e;let d0:=bA n (λe0:Nat=>al (l e0) 3) e;a0<=9223372036854775807->0=((0:Nat):Int)/\True/\(0<=n/\(∀g0:Nat,g0<0->al (l g0) 3=false))/\(∀h0:Nat,let k0:=(h0:Int);let l0:=decide (k0<a0);let o0:=k0=k0;let q0:Int:=l (Int.toNat k0);let r0:=al q0 3;let u0:Int:=k0+1;h0<=n/\(∀v0:Nat,v0<h0->al (l v0) 3=false)->(l0=true->(0<=k0/\k0<a0)/\((o0/\q0=q0/\True)/\True/\True)/\(r0=true->((o0/\e=e/\True)/\True/\0<=k0/\e≠0)/\(e=b0/\k0=d0)/\True)/\(r0=false->ak u0=u0/\(∃w0:Nat,u0=(w0:Int)/\True/\(w0<=n/\(∀x0:Nat,x0<w0->al (l x0) 3=false))/\n-w0<n-h0)))/\(l0=false->(b0=0/\d0=(-1))/\True))
set_option maxHeartbeats 1000000 in
theorem Ox:aW Tryz.prog bf 41 PY:=bd (.cons kP (.cons Nn .nil)) false Tryz.call41 Tryz.func41 (λ⟨n,l,_⟩=> [.inv (kO n (λi=>al (l i) 3))]) (V:=HR) (λ_=>by kernel_rfl) λ⟨n,l,e⟩ hp=>by
  dsimp only[HQ]at hp
  dsimp only[HR,tn,ak,bx,aG,aF,aH]
  obtain⟨he,hp⟩:=hp
  simp only[bn,bG,eq_self,implies_true,Bool.cond_self]
  unfold bE bA
  refineλ_ s hs=>⟨λh=>?_,λh=>?_⟩
  · have ai:=br h
    refine⟨by omega,λJ=>?_,λJ=>⟨by rw[IntKind.wrap_i64];omega,bP ⟨⟨by omega,dn (p:=λi=>al (l i) 3) hs.2 J⟩,by omega⟩⟩⟩
    rw[dY (p:=λi=>al (l i) 3) hs.2 J ai]
    first|exact⟨he,rfl,rfl⟩|exact⟨⟨by omega,he⟩,rfl,rfl⟩
  · have bI:=bJ h
    rw[cR (p:=λi=>al (l i) 3) λj hj=>hs.2 j (by omega)]
    exact⟨rfl,rfl⟩
structure IW where
  (n:Nat) (l:Nat->Int) (e:Int) (nc:Nat) (cl:Nat->Int) (nk:Nat) (ky:Nat->Int) (nu:Nat) (us:Nat->Bool)
def IX:Sy.Spec:=⟨IW,λ⟨n,l,e,nc,cl,nk,ky,nu,us⟩=> [.sl true 1 n (λi_ _=> .v (.int .i64 (l i_))),.v (.int .i64 e),.fn 49 3 (aA [.pt true 1 (λ_=> .sl true 1 nc (iF cl)),.pt true 1 (λ_=> .sl true 1 nk (iF ky)),.pt true 1 (λ_=> .sl true 1 nu (λi _=> .v (.bool (us i))))])],λ_=> [],λ⟨n,_,e,nc,_,nk,_,nu,_⟩=>e≠0/\n<=100000/\n<=nc/\n<=nk/\n<=nu,λ⟨n,l,e,_,cl,_,ky,_,us⟩=> .er 30 73 (bE n (λi=>decide (1<cl i)||(l i !=0&&(ky i==0||(cl i==1&&!us i)))) e) (bA n (λi=>decide (1<cl i)||(l i !=0&&(ky i==0||(cl i==1&&!us i)))) e),λ_=> [],
  λargs mem=>match args with| [a0,a1,a2]=>(match jG 49 a2 with|true=>some ⟨bN a0,λi=>ao (bD a0 i 0),ao (a1),bN (bp (dA a2 0) 0),λi=>ao (bD (bp (dA a2 0) 0) i 0),bN (bp (dA a2 1) 0),λi=>ao (bD (bp (dA a2 1) 0) i 0),bN (bp (dA a2 2) 0),λi=>qL (bD (bp (dA a2 2) 0) i 0)⟩|false=>none)|_=>none⟩
def QW:aX:=⟨[],(IX).g,none⟩
def IY:IW->Prop:=λ⟨n,l,e,nc,cl,nk,ky,nu,us⟩=>let a0:=(n:Int);let b0:=bE n (λc0:Nat=>decide (1<cl c0)||l c0 !=0&&(ky c0==0||cl c0==1&&!us c0)) e;let d0:=bA n (λe0:Nat=>decide (1<cl e0)||l e0 !=0&&(ky e0==0||cl e0==1&&!us e0)) e;a0<=9223372036854775807->0=((0:Nat):Int)/\True/\(0<=n/\(∀g0:Nat,g0<0->(decide (1<cl g0)||l g0 !=0&&(ky g0==0||cl g0==1&&!us g0))=false))/\(∀h0:Nat,let k0:=(h0:Int);let l0:=decide (k0<a0);let o0:=0<=k0;let q0:=k0=k0;let r0:=Int.toNat k0;let u0:Int:=l r0;let v0:Int:=cl r0;let w0:=decide (1<v0)||u0 !=0&&(ky r0==0||v0==1&&!us r0);let x0:Int:=k0+1;h0<=n/\(∀y0:Nat,y0<h0->(decide (1<cl y0)||l y0 !=0&&(ky y0==0||cl y0==1&&!us y0))=false)->(l0=true->(o0/\k0<a0)/\((q0/\u0=u0/\(True/\nc=nc/\(∀z0:Nat,z0<nc->True/\cl z0=cl z0))/\(True/\nk=nk/\(∀a1:Nat,a1<nk->True/\ky a1=ky a1))/\(True/\nu=nu/\(∀b1:Nat,b1<nu->True/\us b1=us b1))/\True)/\True/\o0/\k0<(nc:Int)/\k0<(nk:Int)/\k0<(nu:Int))/\(w0=true->((q0/\e=e/\True)/\True/\o0/\e≠0)/\(e=b0/\k0=d0)/\True)/\(w0=false->ak x0=x0/\(∃c1:Nat,x0=(c1:Int)/\True/\(c1<=n/\(∀d1:Nat,d1<c1->(decide (1<cl d1)||l d1 !=0&&(ky d1==0||cl d1==1&&!us d1))=false))/\n-c1<n-h0)))/\(l0=false->(b0=0/\d0=(-1))/\True))
set_option maxHeartbeats 1000000 in
theorem PM:aW Tryz.prog bf 41 QW:=bd (.cons kP (.cons Ms .nil)) false Tryz.call41 Tryz.func41 (λ⟨n,l,_,_,cl,_,ky,_,us⟩=> [.inv (kO n (λi=>decide (1<cl i)||(l i !=0&&(ky i==0||(cl i==1&&!us i)))))]) (V:=IY) (λ_=>by kernel_rfl) λ⟨n,l,e,nc,cl,nk,ky,nu,us⟩ hp=>by
  dsimp only[IX]at hp
  dsimp only[IY,tn,ak,bx,aG,aF,aH]
  obtain⟨he,hp⟩:=hp
  simp only[bn,bG,eq_self,implies_true,Bool.cond_self]
  unfold bE bA
  refineλ_ s hs=>⟨λh=>?_,λh=>?_⟩
  · have ai:=br h
    refine⟨by omega,⟨by omega,by omega,by omega⟩,λJ=>?_,λJ=>⟨by rw[IntKind.wrap_i64];omega,bP ⟨⟨by omega,dn (p:=λi=>decide (1<cl i)||(l i !=0&&(ky i==0||(cl i==1&&!us i)))) hs.2 J⟩,by omega⟩⟩⟩
    rw[dY (p:=λi=>decide (1<cl i)||(l i !=0&&(ky i==0||(cl i==1&&!us i)))) hs.2 J ai]
    first|exact⟨he,rfl,rfl⟩|exact⟨⟨by omega,he⟩,rfl,rfl⟩
  · have bI:=bJ h
    rw[cR (p:=λi=>decide (1<cl i)||(l i !=0&&(ky i==0||(cl i==1&&!us i)))) λj hj=>hs.2 j (by omega)]
    exact⟨rfl,rfl⟩
structure IZ where
  (e:Int) (W:Wd)
def I0:Sy.Spec:=⟨IZ,λ⟨e,W⟩=> [.sl true 1 W.aE (iF W.aM),.v (.int .i64 e),.fn 59 1 (aA [.pt true 1 (λ_=> .fn 58 1 (aA [.pt true 1 (λ_=>dV W)]))])],λ_=> [],λ⟨e,W⟩=>e≠0/\bL W,λ⟨e,W⟩=> .er 30 73 (bE W.aE (λi=>!cE W i) e) (bA W.aE (λi=>!cE W i) e),λ_=> [],
  λargs mem=>match args with| [a0,a1,a2]=>(match jG 59 a2 with|true=>some ⟨ao (a1),dR (bp (dA (bp (dA a2 0) 0) 0) 0)⟩|false=>none)|_=>none⟩
def QX:aX:=⟨[],(I0).g,none⟩
def I1:IZ->Prop:=λ⟨e,W⟩=>let a0:=W.aE;let b0:=(a0:Int);let c0:=W.ae;let d0:=W.av;let e0:=W.aV;let g0:=W.bz;let h0:=W.aY;let k0:=bE a0 (λl0:Nat=>!cE W l0) e;let o0:=bA a0 (λq0:Nat=>!cE W q0) e;b0<=9223372036854775807->0=((0:Nat):Int)/\True/\(0<=a0/\(∀r0:Nat,r0<0->(!cE W r0)=false))/\(∀u0:Nat,let v0:=(u0:Int);let w0:=decide (v0<b0);let x0:=v0=v0;let y0:=W.aM (Int.toNat v0);let z0:=y0 !=(-1)&&!cP W y0 v0 (-1);let a1:Int:=v0+1;u0<=a0/\(∀b1:Nat,b1<u0->(!cE W b1)=false)->(w0=true->(0<=v0/\v0<b0)/\((x0/\y0=y0/\tn 3 (((((((((((True/\W.ar=W.ar/\(∀c1:Nat,c1<W.ar->True/\W.af c1=W.af c1))/\c0=c0/\(∀d1:Nat,d1<c0->True/\W.kinds d1=W.kinds d1))/\d0=d0/\(∀e1:Nat,e1<d0->aF (W.aj e1) (W.aj e1)))/\e0=e0/\(∀g1:Nat,g1<e0->aG (W.tasks g1) (W.tasks g1)))/\g0=g0/\(∀J:Nat,let k1:=W.aD J;J<g0->True/\k1=k1/\(∀l1:Nat,l1<k1->True/\W.lines J l1=W.lines J l1)))/\W.aI=W.aI/\(∀o1:Nat,o1<W.aI->True/\W.bits o1=W.bits o1))/\a0=a0/\(∀q1:Nat,q1<a0->True/\W.aM q1=W.aM q1))/\h0=h0/\(∀r1:Nat,let u1:=W.aL r1;r1<h0->True/\u1=u1/\(∀v1:Nat,v1<u1->True/\W.ready r1 v1=W.ready r1 v1)))/\W.aK=W.aK/\(∀w1:Nat,let x1:=W.aQ w1;w1<W.aK->True/\x1=x1/\(∀y1:Nat,y1<x1->aH (W.aB w1 y1) (W.aB w1 y1))))/\W.az=W.az/\(∀z1:Nat,z1<W.az->True/\W.aU z1=W.aU z1))/\W.time=W.time)/\True)/\True/\Ap.match_1 (λa2:wx=>Prop) (wx.mk v0 y0 W) (λb2:Int=>λc2:Int=>λd2:Wd=>bL d2))/\(z0=true->((x0/\e=e/\True)/\True/\0<=v0/\e≠0)/\(e=k0/\v0=o0)/\True)/\(z0=false->ak a1=a1/\(∃e2:Nat,a1=(e2:Int)/\True/\(e2<=a0/\(∀g2:Nat,g2<e2->
    (!cE W g2)=false))/\a0-e2<a0-u0)))/\(w0=false->(k0=0/\o0=(-1))/\True))
set_option maxHeartbeats 1000000 in
theorem PS:aW Tryz.prog bf 41 QX:=bd (.cons kP (.cons No .nil)) false Tryz.call41 Tryz.func41 (λ⟨_,W⟩=> [.inv (kO W.aE (λi=>!cE W i))]) (V:=I1) (λ_=>by kernel_rfl) λ⟨e,W⟩ hp=>by
  dsimp only[I0]at hp
  dsimp only[I1,tn,ak,bx,aG,aF,aH]
  obtain⟨he,hp⟩:=hp
  simp only[bn,bG,eq_self,implies_true,Bool.cond_self]
  have z1:=hp.c1
  simp only[HS]
  unfold bE bA
  refineλ_ s hs=>⟨λh=>?_,λh=>?_⟩
  · have ai:=br h
    refine⟨by omega,hp,λJ=>?_,λJ=>⟨by rw[IntKind.wrap_i64];omega,bP ⟨⟨by omega,dn (p:=λi=>!cE W i) hs.2 J⟩,by omega⟩⟩⟩
    rw[dY (p:=λi=>!cE W i) hs.2 J ai]
    first|exact⟨he,rfl,rfl⟩|exact⟨⟨by omega,he⟩,rfl,rfl⟩
  · have bI:=bJ h
    rw[cR (p:=λi=>!cE W i) λj hj=>hs.2 j (by omega)]
    exact⟨rfl,rfl⟩
structure I2 where
  (e:Int) (W:Wd)
def I3:Sy.Spec:=⟨I2,λ⟨e,W⟩=> [.sl true 1 W.ar (iF W.af),.v (.int .i64 e),.fn 63 1 (aA [.pt true 1 (λ_=>dV W)])],λ_=> [],λ⟨e,W⟩=>e≠0/\bL W/\ ∀i,i<W.ar->gN (W.af i),λ⟨e,W⟩=> .er 30 73 (bE W.ar (λi=>!cm W i) e) (bA W.ar (λi=>!cm W i) e),λ_=> [],
  λargs mem=>match args with| [a0,a1,a2]=>(match jG 63 a2 with|true=>some ⟨ao (a1),dR (bp (dA a2 0) 0)⟩|false=>none)|_=>none⟩
def QY:aX:=⟨[],(I3).g,none⟩
def I4:I2->Prop:=λ⟨e,W⟩=>let a0:=W.ar;let b0:=(a0:Int);let c0:=W.ae;let d0:=W.av;let e0:=W.aV;let g0:=W.bz;let h0:=W.aE;let k0:=W.aY;let l0:=bE a0 (λo0:Nat=>!cm W o0) e;let q0:=bA a0 (λr0:Nat=>!cm W r0) e;b0<=9223372036854775807->0=((0:Nat):Int)/\True/\(0<=a0/\(∀u0:Nat,u0<0->(!cm W u0)=false))/\(∀v0:Nat,let w0:=(v0:Int);let x0:=decide (w0<b0);let y0:=0<=w0;let z0:=w0=w0;let a1:=W.af (Int.toNat w0);let b1:=!cm W (Int.toNat w0);let c1:Int:=w0+1;v0<=a0/\(∀d1:Nat,d1<v0->(!cm W d1)=false)->(x0=true->(y0/\w0<b0)/\((z0/\a1=a1/\(True/\((((((((((True/\a0=a0/\(∀e1:Nat,e1<a0->True/\W.af e1=W.af e1))/\c0=c0/\(∀g1:Nat,g1<c0->True/\W.kinds g1=W.kinds g1))/\d0=d0/\(∀J:Nat,J<d0->aF (W.aj J) (W.aj J)))/\e0=e0/\(∀k1:Nat,k1<e0->aG (W.tasks k1) (W.tasks k1)))/\g0=g0/\(∀l1:Nat,let o1:=W.aD l1;l1<g0->True/\o1=o1/\(∀q1:Nat,q1<o1->True/\W.lines l1 q1=W.lines l1 q1)))/\W.aI=W.aI/\(∀r1:Nat,r1<W.aI->True/\W.bits r1=W.bits r1))/\h0=h0/\(∀u1:Nat,u1<h0->True/\W.aM u1=W.aM u1))/\k0=k0/\(∀v1:Nat,let w1:=W.aL v1;v1<k0->True/\w1=w1/\(∀x1:Nat,x1<w1->True/\W.ready v1 x1=W.ready v1 x1)))/\W.aK=W.aK/\(∀y1:Nat,let z1:=W.aQ y1;y1<W.aK->True/\z1=z1/\(∀a2:Nat,a2<z1->aH (W.aB y1 a2) (W.aB y1 a2))))/\W.az=W.az/\(∀b2:Nat,b2<W.az->True/\W.aU b2=W.aU b2))/\W.time=W.time)/\True)/\True/\bL W/\y0/\w0<b0/\0<=a1/\a1<=65535)/\(b1=true->((z0/\e=e/\True)/\True/\y0/\e≠0)/\(e=l0/\w0=q0)/\True)/\(b1=false->ak c1=c1/\(∃c2:Nat,c1=(c2:Int)/\True/\(c2<=a0/\(∀d2:Nat,d2<c2->(!cm W d2)=false))/\a0-c2<a0-v0)))/\(x0=false->(l0=0/\q0=(-1))/\True))
set_option maxHeartbeats 1000000 in
theorem PU:aW Tryz.prog bf 41 QY:=bd (.cons kP (.cons OB .nil)) false Tryz.call41 Tryz.func41 (λ⟨_,W⟩=> [.inv (kO W.ar (λi=>!cm W i))]) (V:=I4) (λ_=>by kernel_rfl) λ⟨e,W⟩ hp=>by
  dsimp only[I3]at hp
  dsimp only[I4,tn,ak,bx,aG,aF,aH]
  obtain⟨he,hp⟩:=hp
  simp only[bn,bG,eq_self,implies_true,Bool.cond_self]
  have z1:=hp.1.af
  have z2:=hp.1.k1
  unfold bE bA
  refineλ_ s hs=>⟨λh=>?_,λh=>?_⟩
  · have ai:=br h
    refine⟨by omega,⟨hp.1,by omega,hp.2 s ai⟩,λJ=>?_,λJ=>⟨by rw[IntKind.wrap_i64];omega,bP ⟨⟨by omega,dn (p:=λi=>!cm W i) hs.2 J⟩,by omega⟩⟩⟩
    rw[dY (p:=λi=>!cm W i) hs.2 J ai]
    first|exact⟨he,rfl,rfl⟩|exact⟨⟨by omega,he⟩,rfl,rfl⟩
  · have bI:=bJ h
    rw[cR (p:=λi=>!cm W i) λj hj=>hs.2 j (by omega)]
    exact⟨rfl,rfl⟩
structure I5 where
  (e:Int) (W:Wd)
def I6:Sy.Spec:=⟨I5,λ⟨e,W⟩=> [.sl true 7 W.av (rF λi=>lW (W.aj i)),.v (.int .i64 e),.fn 46 1 (aA [.pt true 1 (λ_=>dV W)])],λ_=> [],λ⟨e,W⟩=>e≠0/\bL W,λ⟨e,W⟩=> .er 30 73 (bE W.av (λi=>!cp W i) e) (bA W.av (λi=>!cp W i) e),λ_=> [],
  λargs mem=>match args with| [a0,a1,a2]=>(match jG 46 a2 with|true=>some ⟨ao (a1),dR (bp (dA a2 0) 0)⟩|false=>none)|_=>none⟩
def QZ:aX:=⟨[],(I6).g,none⟩
def I7:I5->Prop:=λ⟨e,W⟩=>let a0:=W.av;let b0:=(a0:Int);let c0:=W.ae;let d0:=W.aV;let e0:=W.bz;let g0:=W.aE;let h0:=W.aY;let k0:=bE a0 (λl0:Nat=>!cp W l0) e;let o0:=bA a0 (λq0:Nat=>!cp W q0) e;b0<=9223372036854775807->0=((0:Nat):Int)/\True/\(0<=a0/\(∀r0:Nat,r0<0->(!cp W r0)=false))/\(∀u0:Nat,let v0:=(u0:Int);let w0:=decide (v0<b0);let x0:=0<=v0/\v0<b0;let y0:=v0=v0;let z0:=W.aj (Int.toNat v0);let a1:=!cp W (Int.toNat v0);let b1:Int:=v0+1;u0<=a0/\(∀c1:Nat,c1<u0->(!cp W c1)=false)->(w0=true->x0/\True/\tn 6 True/\((y0/\aF z0 z0/\(True/\((((((((((True/\W.ar=W.ar/\(∀d1:Nat,d1<W.ar->True/\W.af d1=W.af d1))/\c0=c0/\(∀e1:Nat,e1<c0->True/\W.kinds e1=W.kinds e1))/\a0=a0/\(∀g1:Nat,g1<a0->aF (W.aj g1) (W.aj g1)))/\d0=d0/\(∀J:Nat,J<d0->aG (W.tasks J) (W.tasks J)))/\e0=e0/\(∀k1:Nat,let l1:=W.aD k1;k1<e0->True/\l1=l1/\(∀o1:Nat,o1<l1->True/\W.lines k1 o1=W.lines k1 o1)))/\W.aI=W.aI/\(∀q1:Nat,q1<W.aI->True/\W.bits q1=W.bits q1))/\g0=g0/\(∀r1:Nat,r1<g0->True/\W.aM r1=W.aM r1))/\h0=h0/\(∀u1:Nat,let v1:=W.aL u1;u1<h0->True/\v1=v1/\(∀w1:Nat,w1<v1->True/\W.ready u1 w1=W.ready u1 w1)))/\W.aK=W.aK/\(∀x1:Nat,let y1:=W.aQ x1;x1<W.aK->True/\y1=y1/\(∀z1:Nat,z1<y1->aH (W.aB x1 z1) (W.aB x1 z1))))/\W.az=W.az/\(∀a2:Nat,a2<W.az->True/\W.aU a2=W.aU a2))/\W.time=W.time)/\True)/\True/\bL W/\x0)/\(a1=true->((y0/\e=e/\True)/\True/\0<=v0/\e≠0)/\(e=k0/\v0=o0)/\True)/\(a1=false->ak b1=b1/\(∃b2:Nat,b1=(b2:Int)/\True/\(b2<=a0/\(∀c2:Nat,c2<b2->(!cp W c2)=false))/\a0-b2<a0-u0)))/\(w0=false->(k0=0/\o0=(-1))/\True))
set_option maxHeartbeats 1000000 in
theorem PO:aW Tryz.prog bf 45 QZ:=bd (.cons kP (.cons OC .nil)) false Tryz.call45 Tryz.func45 (λ⟨_,W⟩=> [.inv (kO W.av (λi=>!cp W i))]) (V:=I7) (λ_=>by kernel_rfl) λ⟨e,W⟩ hp=>by
  dsimp only[I6]at hp
  dsimp only[I7,tn,ak,bx,aG,aF,aH]
  obtain⟨he,hp⟩:=hp
  simp only[bn,bG,eq_self,implies_true,Bool.cond_self]
  have z1:=hp.aj
  have z2:=hp.k1
  unfold bE bA
  refineλ_ s hs=>⟨λh=>?_,λh=>?_⟩
  · have ai:=br h
    refine⟨by omega,⟨hp,by omega⟩,λJ=>?_,λJ=>⟨by rw[IntKind.wrap_i64];omega,bP ⟨⟨by omega,dn (p:=λi=>!cp W i) hs.2 J⟩,by omega⟩⟩⟩
    rw[dY (p:=λi=>!cp W i) hs.2 J ai]
    first|exact⟨he,rfl,rfl⟩|exact⟨⟨by omega,he⟩,rfl,rfl⟩
  · have bI:=bJ h
    rw[cR (p:=λi=>!cp W i) λj hj=>hs.2 j (by omega)]
    exact⟨rfl,rfl⟩
structure I8 where
  (e:Int) (W:Wd)
def I9:Sy.Spec:=⟨I8,λ⟨e,W⟩=> [.sl true 20 W.aV (rF λi=>jf (W.tasks i)),.v (.int .i64 e),.fn 51 1 (aA [.pt true 1 (λ_=>dV W)])],λ_=> [],λ⟨e,W⟩=>e≠0/\bL W/\js W,λ⟨e,W⟩=> .er 30 73 (bE W.aV (λi=>!cr W i) e) (bA W.aV (λi=>!cr W i) e),λ_=> [],
  λargs mem=>match args with| [a0,a1,a2]=>(match jG 51 a2 with|true=>some ⟨ao (a1),dR (bp (dA a2 0) 0)⟩|false=>none)|_=>none⟩
def Q0:aX:=⟨[],(I9).g,none⟩
def I_:I8->Prop:=λ⟨e,W⟩=>let a0:=W.aV;let b0:=(a0:Int);let c0:=W.ae;let d0:=W.av;let e0:=W.bz;let g0:=W.aE;let h0:=W.aY;let k0:=W.aK;let l0:=bE a0 (λo0:Nat=>!cr W o0) e;let q0:=bA a0 (λr0:Nat=>!cr W r0) e;b0<=9223372036854775807->0=((0:Nat):Int)/\True/\(0<=a0/\(∀u0:Nat,u0<0->(!cr W u0)=false))/\(∀v0:Nat,let w0:=(v0:Int);let x0:=decide (w0<b0);let y0:=0<=w0;let z0:=w0=w0;let a1:=W.tasks (Int.toNat w0);let b1:=!cr W (Int.toNat w0);let c1:Int:=w0+1;v0<=a0/\(∀d1:Nat,d1<v0->(!cr W d1)=false)->(x0=true->(y0/\w0<b0)/\True/\tn 19 True/\((z0/\aG a1 a1/\(True/\((((((((((True/\W.ar=W.ar/\(∀e1:Nat,e1<W.ar->True/\W.af e1=W.af e1))/\c0=c0/\(∀g1:Nat,g1<c0->True/\W.kinds g1=W.kinds g1))/\d0=d0/\(∀J:Nat,J<d0->aF (W.aj J) (W.aj J)))/\a0=a0/\(∀k1:Nat,k1<a0->aG (W.tasks k1) (W.tasks k1)))/\e0=e0/\(∀l1:Nat,let o1:=W.aD l1;l1<e0->True/\o1=o1/\(∀q1:Nat,q1<o1->True/\W.lines l1 q1=W.lines l1 q1)))/\W.aI=W.aI/\(∀r1:Nat,r1<W.aI->True/\W.bits r1=W.bits r1))/\g0=g0/\(∀u1:Nat,u1<g0->True/\W.aM u1=W.aM u1))/\h0=h0/\(∀v1:Nat,let w1:=W.aL v1;v1<h0->True/\w1=w1/\(∀x1:Nat,x1<w1->True/\W.ready v1 x1=W.ready v1 x1)))/\k0=k0/\(∀y1:Nat,let z1:=W.aQ y1;y1<k0->True/\z1=z1/\(∀a2:Nat,a2<z1->aH (W.aB y1 a2) (W.aB y1 a2))))/\W.az=W.az/\(∀b2:Nat,b2<W.az->True/\W.aU b2=W.aU b2))/\W.time=W.time)/\True)/\True/\bL W/\((∀c2:Nat,c2<e0->W.aD c2<=50)/\(∀d2:Nat,d2<h0->W.aL d2<=50)/\(∀e2:Nat,e2<k0->W.aQ e2<=50))/\y0/\w0<(c0:Int))/\(b1=true->((z0/\e=e/\True)/\True/\y0/\e≠0)/\(e=l0/\w0=q0)/\True)/\(b1=false->ak c1=c1/\(∃g2:Nat,
    c1=(g2:Int)/\True/\(g2<=a0/\(∀U:Nat,U<g2->(!cr W U)=false))/\a0-g2<a0-v0)))/\(x0=false->(l0=0/\q0=(-1))/\True))
set_option maxHeartbeats 1000000 in
theorem PQ:aW Tryz.prog bf 50 Q0:=bd (.cons kP (.cons Np .nil)) false Tryz.call50 Tryz.func50 (λ⟨_,W⟩=> [.inv (kO W.aV (λi=>!cr W i))]) (V:=I_) (λ_=>by kernel_rfl) λ⟨e,W⟩ hp=>by
  dsimp only[I9]at hp
  dsimp only[I_,tn,ak,bx,aG,aF,aH]
  obtain⟨he,hp⟩:=hp
  simp only[bn,bG,eq_self,implies_true,Bool.cond_self]
  have z1:=hp.1.tasks
  have z2:=hp.1.k1
  unfold bE bA
  refineλ_ s hs=>⟨λh=>?_,λh=>?_⟩
  · have ai:=br h
    refine⟨by omega,⟨hp.1,hp.2,by omega⟩,λJ=>?_,λJ=>⟨by rw[IntKind.wrap_i64];omega,bP ⟨⟨by omega,dn (p:=λi=>!cr W i) hs.2 J⟩,by omega⟩⟩⟩
    rw[dY (p:=λi=>!cr W i) hs.2 J ai]
    first|exact⟨he,rfl,rfl⟩|exact⟨⟨by omega,he⟩,rfl,rfl⟩
  · have bI:=bJ h
    rw[cR (p:=λi=>!cr W i) λj hj=>hs.2 j (by omega)]
    exact⟨rfl,rfl⟩
structure Ja where
  (e:Int) (W:Wd)
def Jb:Sy.Spec:=⟨Ja,λ⟨e,W⟩=> [.sl true 1 W.bz (λi _=> .sl true 1 (W.aD i) (iF (W.lines i))),.v (.int .i64 e),.fn 57 1 (aA [.pt true 1 (λ_=>dV W)])],λ_=> [],λ⟨e,W⟩=>e≠0/\bL W/\js W,λ⟨e,W⟩=> .er 30 73 (bE W.bz (λi=>!ct W i) e) (bA W.bz (λi=>!ct W i) e),λ_=> [],
  λargs mem=>match args with| [a0,a1,a2]=>(match jG 57 a2 with|true=>some ⟨ao (a1),dR (bp (dA a2 0) 0)⟩|false=>none)|_=>none⟩
def Q1:aX:=⟨[],(Jb).g,none⟩
def Jc:Ja->Prop:=λ⟨e,W⟩=>let a0:=W.bz;let b0:=(a0:Int);let c0:=W.ae;let d0:=W.av;let e0:=W.aV;let g0:=W.aE;let h0:=W.aY;let k0:=W.aK;let l0:=bE a0 (λo0:Nat=>!ct W o0) e;let q0:=bA a0 (λr0:Nat=>!ct W r0) e;b0<=9223372036854775807->0=((0:Nat):Int)/\True/\(0<=a0/\(∀u0:Nat,u0<0->(!ct W u0)=false))/\(∀v0:Nat,let w0:=(v0:Int);let x0:=decide (w0<b0);let y0:=0<=w0;let z0:=w0=w0;let a1:=Int.toNat w0;let b1:=W.aD a1;let c1:=!ct W a1;let d1:Int:=w0+1;v0<=a0/\(∀e1:Nat,e1<v0->(!ct W e1)=false)->(x0=true->(y0/\w0<b0)/\((z0/\(b1=b1/\(∀g1:Nat,g1<b1->True/\W.lines a1 g1=W.lines a1 g1))/\(True/\((((((((((True/\W.ar=W.ar/\(∀J:Nat,J<W.ar->True/\W.af J=W.af J))/\c0=c0/\(∀k1:Nat,k1<c0->True/\W.kinds k1=W.kinds k1))/\d0=d0/\(∀l1:Nat,l1<d0->aF (W.aj l1) (W.aj l1)))/\e0=e0/\(∀o1:Nat,o1<e0->aG (W.tasks o1) (W.tasks o1)))/\a0=a0/\(∀q1:Nat,let r1:=W.aD q1;q1<a0->True/\r1=r1/\(∀u1:Nat,u1<r1->True/\W.lines q1 u1=W.lines q1 u1)))/\W.aI=W.aI/\(∀v1:Nat,v1<W.aI->True/\W.bits v1=W.bits v1))/\g0=g0/\(∀w1:Nat,w1<g0->True/\W.aM w1=W.aM w1))/\h0=h0/\(∀x1:Nat,let y1:=W.aL x1;x1<h0->True/\y1=y1/\(∀z1:Nat,z1<y1->True/\W.ready x1 z1=W.ready x1 z1)))/\k0=k0/\(∀a2:Nat,let b2:=W.aQ a2;a2<k0->True/\b2=b2/\(∀c2:Nat,c2<b2->aH (W.aB a2 c2) (W.aB a2 c2))))/\W.az=W.az/\(∀d2:Nat,d2<W.az->True/\W.aU d2=W.aU d2))/\W.time=W.time)/\True)/\True/\bL W/\((∀e2:Nat,e2<a0->W.aD e2<=50)/\(∀g2:Nat,g2<h0->W.aL g2<=50)/\(∀U:Nat,U<k0->W.aQ U<=50))/\y0/\w0<(c0:Int))/\(c1=true->((z0/\e=e/\True)/\True/\y0/\e≠0)/\(e=l0/\w0=q0)/\True)/\
    (c1=false->ak d1=d1/\(∃k2:Nat,d1=(k2:Int)/\True/\(k2<=a0/\(∀l2:Nat,l2<k2->(!ct W l2)=false))/\a0-k2<a0-v0)))/\(x0=false->(l0=0/\q0=(-1))/\True))
set_option maxHeartbeats 1000000 in
theorem HE:aW Tryz.prog bf 56 Q1:=bd (.cons kP (.cons Nq .nil)) false Tryz.call56 Tryz.func56 (λ⟨_,W⟩=> [.inv (kO W.bz (λi=>!ct W i))]) (V:=Jc) (λ_=>by kernel_rfl) λ⟨e,W⟩ hp=>by
  dsimp only[Jb]at hp
  dsimp only[Jc,tn,ak,bx,aG,aF,aH]
  obtain⟨he,hp⟩:=hp
  simp only[bn,bG,eq_self,implies_true,Bool.cond_self]
  have z1:=hp.1.lines
  have z2:=hp.1.k1
  unfold bE bA
  refineλ_ s hs=>⟨λh=>?_,λh=>?_⟩
  · have ai:=br h
    refine⟨by omega,⟨hp.1,hp.2,by omega⟩,λJ=>?_,λJ=>⟨by rw[IntKind.wrap_i64];omega,bP ⟨⟨by omega,dn (p:=λi=>!ct W i) hs.2 J⟩,by omega⟩⟩⟩
    rw[dY (p:=λi=>!ct W i) hs.2 J ai]
    first|exact⟨he,rfl,rfl⟩|exact⟨⟨by omega,he⟩,rfl,rfl⟩
  · have bI:=bJ h
    rw[cR (p:=λi=>!ct W i) λj hj=>hs.2 j (by omega)]
    exact⟨rfl,rfl⟩
structure Jd where
  (e:Int) (W:Wd)
def Je:Sy.Spec:=⟨Jd,λ⟨e,W⟩=> [.sl true 1 W.aY (λi _=> .sl true 1 (W.aL i) (iF (W.ready i))),.v (.int .i64 e),.fn 60 1 (aA [.pt true 1 (λ_=> .fn 58 1 (aA [.pt true 1 (λ_=>dV W)]))])],λ_=> [],λ⟨e,W⟩=>e≠0/\bL W/\js W,λ⟨e,W⟩=> .er 30 73 (bE W.aY (λi=>!cO W i) e) (bA W.aY (λi=>!cO W i) e),λ_=> [],
  λargs mem=>match args with| [a0,a1,a2]=>(match jG 60 a2 with|true=>some ⟨ao (a1),dR (bp (dA (bp (dA a2 0) 0) 0) 0)⟩|false=>none)|_=>none⟩
def Q2:aX:=⟨[],(Je).g,none⟩
def Jf:Jd->Prop:=λ⟨e,W⟩=>let a0:=W.aY;let b0:=(a0:Int);let c0:=W.ae;let d0:=W.av;let e0:=W.aV;let g0:=W.bz;let h0:=W.aE;let k0:=W.aK;let l0:=bE a0 (λo0:Nat=>!cO W o0) e;let q0:=bA a0 (λr0:Nat=>!cO W r0) e;b0<=9223372036854775807->0=((0:Nat):Int)/\True/\(0<=a0/\(∀u0:Nat,u0<0->(!cO W u0)=false))/\(∀v0:Nat,let w0:=(v0:Int);let x0:=decide (w0<b0);let y0:=0<=w0/\w0<b0;let z0:=w0=w0;let a1:=Int.toNat w0;let b1:=W.aL a1;let c1:=!cO W a1;let d1:Int:=w0+1;v0<=a0/\(∀e1:Nat,e1<v0->(!cO W e1)=false)->(x0=true->y0/\((z0/\(b1=b1/\(∀g1:Nat,g1<b1->True/\W.ready a1 g1=W.ready a1 g1))/\tn 3 (((((((((((True/\W.ar=W.ar/\(∀J:Nat,J<W.ar->True/\W.af J=W.af J))/\c0=c0/\(∀k1:Nat,k1<c0->True/\W.kinds k1=W.kinds k1))/\d0=d0/\(∀l1:Nat,l1<d0->aF (W.aj l1) (W.aj l1)))/\e0=e0/\(∀o1:Nat,o1<e0->aG (W.tasks o1) (W.tasks o1)))/\g0=g0/\(∀q1:Nat,let r1:=W.aD q1;q1<g0->True/\r1=r1/\(∀u1:Nat,u1<r1->True/\W.lines q1 u1=W.lines q1 u1)))/\W.aI=W.aI/\(∀v1:Nat,v1<W.aI->True/\W.bits v1=W.bits v1))/\h0=h0/\(∀w1:Nat,w1<h0->True/\W.aM w1=W.aM w1))/\a0=a0/\(∀x1:Nat,let y1:=W.aL x1;x1<a0->True/\y1=y1/\(∀z1:Nat,z1<y1->True/\W.ready x1 z1=W.ready x1 z1)))/\k0=k0/\(∀a2:Nat,let b2:=W.aQ a2;a2<k0->True/\b2=b2/\(∀c2:Nat,c2<b2->aH (W.aB a2 c2) (W.aB a2 c2))))/\W.az=W.az/\(∀d2:Nat,d2<W.az->True/\W.aU d2=W.aU d2))/\W.time=W.time)/\True)/\True/\bL W/\((∀e2:Nat,e2<g0->W.aD e2<=50)/\(∀g2:Nat,g2<a0->W.aL g2<=50)/\(∀U:Nat,U<k0->W.aQ U<=50))/\y0)/\(c1=true->((z0/\e=e/\True)/\True/\0<=w0/\e≠0)/\(e=l0/\w0=q0)/\True)/\(c1=false->ak d1=d1/\
    (∃k2:Nat,d1=(k2:Int)/\True/\(k2<=a0/\(∀l2:Nat,l2<k2->(!cO W l2)=false))/\a0-k2<a0-v0)))/\(x0=false->(l0=0/\q0=(-1))/\True))
set_option maxHeartbeats 1000000 in
theorem HF:aW Tryz.prog bf 56 Q2:=bd (.cons kP (.cons Nr .nil)) false Tryz.call56 Tryz.func56 (λ⟨_,W⟩=> [.inv (kO W.aY (λi=>!cO W i))]) (V:=Jf) (λ_=>by kernel_rfl) λ⟨e,W⟩ hp=>by
  dsimp only[Je]at hp
  dsimp only[Jf,tn,ak,bx,aG,aF,aH]
  obtain⟨he,hp⟩:=hp
  simp only[bn,bG,eq_self,implies_true,Bool.cond_self]
  have z1:=hp.1.ready
  have z2:=hp.1.c1
  unfold bE bA
  refineλ_ s hs=>⟨λh=>?_,λh=>?_⟩
  · have ai:=br h
    refine⟨by omega,⟨hp.1,hp.2,by omega⟩,λJ=>?_,λJ=>⟨by rw[IntKind.wrap_i64];omega,bP ⟨⟨by omega,dn (p:=λi=>!cO W i) hs.2 J⟩,by omega⟩⟩⟩
    rw[dY (p:=λi=>!cO W i) hs.2 J ai]
    first|exact⟨he,rfl,rfl⟩|exact⟨⟨by omega,he⟩,rfl,rfl⟩
  · have bI:=bJ h
    rw[cR (p:=λi=>!cO W i) λj hj=>hs.2 j (by omega)]
    exact⟨rfl,rfl⟩
structure Jg where
  (e:Int) (W:Wd)
def Jh:Sy.Spec:=⟨Jg,λ⟨e,W⟩=> [.sl true 1 W.aK (λi _=> .sl true 4 (W.aQ i) (rF λk=>lu (W.aB i k))),.v (.int .i64 e),.fn 65 1 (aA [.pt true 1 (λ_=>dV W)])],λ_=> [],λ⟨e,W⟩=>e≠0/\bL W/\js W/\ ∀i,i<W.ar->gN (W.af i),λ⟨e,W⟩=> .er 30 73 (bE W.aK (λi=>!b_ W (W.aQ i) (W.aB i)) e) (bA W.aK (λi=>!b_ W (W.aQ i) (W.aB i)) e),λ_=> [],
  λargs mem=>match args with| [a0,a1,a2]=>(match jG 65 a2 with|true=>some ⟨ao (a1),dR (bp (dA a2 0) 0)⟩|false=>none)|_=>none⟩
def Q3:aX:=⟨[],(Jh).g,none⟩
def Ji:Jg->Prop:=λ⟨e,W⟩=>let a0:=W.aK;let b0:=(a0:Int);let c0:=W.ar;let d0:=W.ae;let e0:=W.av;let g0:=W.aV;let h0:=W.bz;let k0:=W.aE;let l0:=W.aY;let o0:=bE a0 (λq0:Nat=>!b_ W (W.aQ q0) (W.aB q0)) e;let r0:=bA a0 (λu0:Nat=>!b_ W (W.aQ u0) (W.aB u0)) e;b0<=9223372036854775807->0=((0:Nat):Int)/\True/\(0<=a0/\(∀v0:Nat,v0<0->(!b_ W (W.aQ v0) (W.aB v0))=false))/\(∀w0:Nat,let x0:=(w0:Int);let y0:=decide (x0<b0);let z0:=x0=x0;let a1:=Int.toNat x0;let b1:=W.aQ a1;let c1:=!b_ W b1 (W.aB a1);let d1:Int:=x0+1;w0<=a0/\(∀e1:Nat,e1<w0->(!b_ W (W.aQ e1) (W.aB e1))=false)->(y0=true->(0<=x0/\x0<b0)/\((z0/\(b1=b1/\(∀g1:Nat,g1<b1->aH (W.aB a1 g1) (W.aB a1 g1)))/\(True/\((((((((((True/\c0=c0/\(∀J:Nat,J<c0->True/\W.af J=W.af J))/\d0=d0/\(∀k1:Nat,k1<d0->True/\W.kinds k1=W.kinds k1))/\e0=e0/\(∀l1:Nat,l1<e0->aF (W.aj l1) (W.aj l1)))/\g0=g0/\(∀o1:Nat,o1<g0->aG (W.tasks o1) (W.tasks o1)))/\h0=h0/\(∀q1:Nat,let r1:=W.aD q1;q1<h0->True/\r1=r1/\(∀u1:Nat,u1<r1->True/\W.lines q1 u1=W.lines q1 u1)))/\W.aI=W.aI/\(∀v1:Nat,v1<W.aI->True/\W.bits v1=W.bits v1))/\k0=k0/\(∀w1:Nat,w1<k0->True/\W.aM w1=W.aM w1))/\l0=l0/\(∀x1:Nat,let y1:=W.aL x1;x1<l0->True/\y1=y1/\(∀z1:Nat,z1<y1->True/\W.ready x1 z1=W.ready x1 z1)))/\a0=a0/\(∀a2:Nat,let b2:=W.aQ a2;a2<a0->True/\b2=b2/\(∀c2:Nat,c2<b2->aH (W.aB a2 c2) (W.aB a2 c2))))/\W.az=W.az/\(∀d2:Nat,d2<W.az->True/\W.aU d2=W.aU d2))/\W.time=W.time)/\True)/\True/\bL W/\b1<=1000/\(∀e2:Nat,e2<c0->0<=W.af e2/\W.af e2<=65535))/\(c1=true->((z0/\e=e/\True)/\True/\
    0<=x0/\e≠0)/\(e=o0/\x0=r0)/\True)/\(c1=false->ak d1=d1/\(∃g2:Nat,d1=(g2:Int)/\True/\(g2<=a0/\(∀U:Nat,U<g2->(!b_ W (W.aQ U) (W.aB U))=false))/\a0-g2<a0-w0)))/\(y0=false->(o0=0/\r0=(-1))/\True))
set_option maxHeartbeats 1000000 in
theorem PV:aW Tryz.prog bf 64 Q3:=bd (.cons kP (.cons OD .nil)) false Tryz.call64 Tryz.func64 (λ⟨_,W⟩=> [.inv (kO W.aK (λi=>!b_ W (W.aQ i) (W.aB i)))]) (V:=Ji) (λ_=>by kernel_rfl) λ⟨e,W⟩ hp=>by
  dsimp only[Jh]at hp
  dsimp only[Ji,tn,ak,bx,aG,aF,aH]
  obtain⟨he,hp⟩:=hp
  simp only[bn,bG,eq_self,implies_true,Bool.cond_self]
  have z1:=hp.1.aB
  have z2:=hp.1.c1
  unfold bE bA
  refineλ_ s hs=>⟨λh=>?_,λh=>?_⟩
  · have ai:=br h
    refine⟨by omega,⟨hp.1,by have:=hp.2.1.2.2 s ai;omega,hp.2.2⟩,λJ=>?_,λJ=>⟨by rw[IntKind.wrap_i64];omega,bP ⟨⟨by omega,dn (p:=λi=>!b_ W (W.aQ i) (W.aB i)) hs.2 J⟩,by omega⟩⟩⟩
    rw[dY (p:=λi=>!b_ W (W.aQ i) (W.aB i)) hs.2 J ai]
    first|exact⟨he,rfl,rfl⟩|exact⟨⟨by omega,he⟩,rfl,rfl⟩
  · have bI:=bJ h
    rw[cR (p:=λi=>!b_ W (W.aQ i) (W.aB i)) λj hj=>hs.2 j (by omega)]
    exact⟨rfl,rfl⟩
end Go.Proofs.YtbngaammbjaajaaGreatDoor
set_option linter.unusedVariables false
set_option linter.unusedSimpArgs false
set_option maxRecDepth 100000
namespace Go.Proofs.YtbngaammbjaajaaGreatDoor
open Go.RowKit Go.Sy
theorem Am {n:Nat} {p:Nat->Bool} {e:Int} {r:Int×Int} (he:e≠0):((a_ n p e (0,-1)).1=0->a_ n p e r=r)/\((a_ n p e (0,-1)).1≠0->a_ n p e r=a_ n p e (0,-1)):=by
  unfold a_
  cases Nat.blt (cA n p) n
  · exact⟨λ_=>rfl,λh=>absurd rfl h⟩
  · exact⟨λh=>absurd h he,λ_=>rfl⟩
theorem yz {n:Nat} {p:Nat->Bool} {e:Int} {r:Int×Int} (he:e≠0) (h:(bE n p e !=0)=true):bE n p e=(a_ n p e r).1/\bA n p e=(a_ n p e r).2:=by
  rw[(Am he).2 (by simpa [bE]using h)];exact⟨rfl,rfl⟩
theorem tF {n:Nat} {p:Nat->Bool} {e:Int} {r:Int×Int} (he:e≠0) (h:(bE n p e !=0)=false):a_ n p e r=r:=(Am he).1 (by simpa [bE]using h)
def mi (W:Wd):Int:=(na W (0,-1)).1
def rY (W:Wd):Int:=(na W (0,-1)).2
def p7 (W:Wd):Int:=(oo W (0,-1)).1
def DR (W:Wd):Int:=(oo W (0,-1)).2
def uZ (W:Wd):Int:=(p6 W (0,-1)).1
def DS (W:Wd):Int:=(p6 W (0,-1)).2
def rZ (W:Wd):Int:=(ot W (0,-1)).1
def ze (W:Wd):Int:=(ot W (0,-1)).2
def r_ (W:Wd):Int:=(ou W (0,-1)).1
def zf (W:Wd):Int:=(ou W (0,-1)).2
def p8 (W:Wd):Int:=(ow W (0,-1)).1
def u_ (W:Wd):Int:=(ow W (0,-1)).2
def p9 (W:Wd):Int:=(ox W (0,-1)).1
def va (W:Wd):Int:=(ox W (0,-1)).2
structure wv where
  (W:Wd)
def Ao:Sy.Spec:=⟨wv,λ⟨W⟩=> [dV W],λ_=> [],λ⟨W⟩=>Sm W,λ⟨W⟩=> .er 30 73 (mi W) (rY W),λ_=> [],
  λargs mem=>match args with| [a0]=>some ⟨dR a0⟩|_=>none⟩
def Ot:aX:=⟨[],(Ao).g,none⟩
def Gi:wv->Prop:=λ⟨W⟩=>let a0:=W.ar;let b0:=True/\True;let c0:=bE a0 (λd0:Nat=>al (W.af d0) 65535) 1;let e0:=c0 !=0;let g0:=W.ae;let h0:=bE g0 (λk0:Nat=>al (W.kinds k0) 8||W.kinds k0==1) 3;let l0:=h0 !=0;let o0:=W.az;(((a0=a0/\(∀q0:Nat,q0<a0->True/\W.af q0=W.af q0))/\(1:Int)=1/\b0)/\True/\(1:Int)≠0/\a0<=100000)/\(e0=true->(c0=mi W/\bA a0 (λr0:Nat=>al (W.af r0) 65535) 1=rY W)/\True)/\(e0=false->(((g0=g0/\(∀u0:Nat,u0<g0->True/\W.kinds u0=W.kinds u0))/\(3:Int)=3/\b0)/\True/\(3:Int)≠0/\g0<=100000)/\(l0=true->(h0=mi W/\bA g0 (λv0:Nat=>al (W.kinds v0) 8||W.kinds v0==1) 3=rY W)/\True)/\(l0=false->(((o0=o0/\(∀w0:Nat,w0<o0->True/\W.aU w0=W.aU w0))/\(2:Int)=2/\b0)/\True/\(2:Int)≠0/\o0<=100000)/\(bE o0 (λx0:Nat=>al (W.aU x0) 3) 2=mi W/\bA o0 (λy0:Nat=>al (W.aU y0) 3) 2=rY W)/\True))
theorem Ng:aW Tryz.prog bf 23 Ot:=bd (.cons (Ou.or (Ov.or Ox)) .nil) false Tryz.call23 Tryz.func23 (λ_=> []) (V:=Gi) (λ_=>by kernel_rfl) λ⟨W⟩ hp=>by
  dsimp only[Ao]at hp
  dsimp only[Gi,tn,ak,bx,aG,aF,aH]
  have b1:=hp.af
  have b2:=hp.kinds
  have b3:=hp.aU
  simp only[bn,bG,eq_self,implies_true,Bool.cond_self]
  unfold mi rY na
  refine⟨⟨by decide,by omega⟩,λh=>yz (by decide) h,λh=>⟨⟨by decide,by omega⟩,λU=>?_,λU=>⟨⟨by decide,by omega⟩,?_⟩⟩⟩
  · rw[tF (by decide) h];exact yz (by decide) U
  · rw[tF (by decide) h,tF (by decide) U];exact⟨rfl,rfl⟩
structure wN where
  (W:Wd)
def AW:Sy.Spec:=⟨wN,λ⟨W⟩=> [dV W],λ_=> [],λ⟨W⟩=>bL W,λ⟨W⟩=> .er 30 73 (p7 W) (DR W),λ_=> [],
  λargs mem=>match args with| [a0]=>some ⟨dR a0⟩|_=>none⟩
def PN:aX:=⟨[],(AW).g,none⟩
def HD:wN->Prop:=λ⟨W⟩=>let a0:=W.av;let b0:=a0=a0/\(∀c0:Nat,c0<a0->aF (W.aj c0) (W.aj c0));let d0:=W.ae;let e0:=W.aV;let g0:=W.bz;let h0:=W.aE;let k0:=W.aY;True/\((b0/\(8:Int)=8/\tn 2 (((((((((((True/\W.ar=W.ar/\(∀l0:Nat,l0<W.ar->True/\W.af l0=W.af l0))/\d0=d0/\(∀o0:Nat,o0<d0->True/\W.kinds o0=W.kinds o0))/\b0)/\e0=e0/\(∀q0:Nat,q0<e0->aG (W.tasks q0) (W.tasks q0)))/\g0=g0/\(∀r0:Nat,let u0:=W.aD r0;r0<g0->True/\u0=u0/\(∀v0:Nat,v0<u0->True/\W.lines r0 v0=W.lines r0 v0)))/\W.aI=W.aI/\(∀w0:Nat,w0<W.aI->True/\W.bits w0=W.bits w0))/\h0=h0/\(∀x0:Nat,x0<h0->True/\W.aM x0=W.aM x0))/\k0=k0/\(∀y0:Nat,let z0:=W.aL y0;y0<k0->True/\z0=z0/\(∀a1:Nat,a1<z0->True/\W.ready y0 a1=W.ready y0 a1)))/\W.aK=W.aK/\(∀b1:Nat,let c1:=W.aQ b1;b1<W.aK->True/\c1=c1/\(∀d1:Nat,d1<c1->aH (W.aB b1 d1) (W.aB b1 d1))))/\W.az=W.az/\(∀e1:Nat,e1<W.az->True/\W.aU e1=W.aU e1))/\W.time=W.time)/\True)/\True/\(8:Int)≠0/\bL W)/\(bE a0 (λg1:Nat=>!cp W g1) 8=p7 W/\bA a0 (λJ:Nat=>!cp W J) 8=DR W)/\True
theorem Oo:aW Tryz.prog bf 24 PN:=bd (.cons PO .nil) false Tryz.call24 Tryz.func24 (λ_=> []) (V:=HD) (λ_=>by kernel_rfl) λ⟨W⟩ hp=>by
  dsimp only[AW]at hp
  dsimp only[HD,tn,ak,bx,aG,aF,aH]
  simp only[bn,bG,eq_self,implies_true,Bool.cond_self]
  exact⟨⟨by decide,hp⟩,rfl,rfl⟩
structure Gj where
  (W:Wd)
def Gk:Sy.Spec:=⟨Gj,λ⟨W⟩=> [dV W],λ_=> [],λ⟨W⟩=>bL W/\js W,λ⟨W⟩=> .er 30 73 (rZ W) (ze W),λ_=> [],
  λargs mem=>match args with| [a0]=>some ⟨dR a0⟩|_=>none⟩
def Oy:aX:=⟨[],(Gk).g,none⟩
def Gm:Gj->Prop:=λ⟨W⟩=>let a0:=W.aV;let b0:=a0=a0/\(∀c0:Nat,c0<a0->aG (W.tasks c0) (W.tasks c0));let d0:=W.ae;let e0:=W.av;let g0:=W.bz;let h0:=W.aE;let k0:=W.aY;let l0:=W.aK;True/\((b0/\(8:Int)=8/\tn 2 (((((((((((True/\W.ar=W.ar/\(∀o0:Nat,o0<W.ar->True/\W.af o0=W.af o0))/\d0=d0/\(∀q0:Nat,q0<d0->True/\W.kinds q0=W.kinds q0))/\e0=e0/\(∀r0:Nat,r0<e0->aF (W.aj r0) (W.aj r0)))/\b0)/\g0=g0/\(∀u0:Nat,let v0:=W.aD u0;u0<g0->True/\v0=v0/\(∀w0:Nat,w0<v0->True/\W.lines u0 w0=W.lines u0 w0)))/\W.aI=W.aI/\(∀x0:Nat,x0<W.aI->True/\W.bits x0=W.bits x0))/\h0=h0/\(∀y0:Nat,y0<h0->True/\W.aM y0=W.aM y0))/\k0=k0/\(∀z0:Nat,let a1:=W.aL z0;z0<k0->True/\a1=a1/\(∀b1:Nat,b1<a1->True/\W.ready z0 b1=W.ready z0 b1)))/\l0=l0/\(∀c1:Nat,let d1:=W.aQ c1;c1<l0->True/\d1=d1/\(∀e1:Nat,e1<d1->aH (W.aB c1 e1) (W.aB c1 e1))))/\W.az=W.az/\(∀g1:Nat,g1<W.az->True/\W.aU g1=W.aU g1))/\W.time=W.time)/\True)/\True/\(8:Int)≠0/\bL W/\(∀J:Nat,J<g0->W.aD J<=50)/\(∀k1:Nat,k1<k0->W.aL k1<=50)/\(∀l1:Nat,l1<l0->W.aQ l1<=50))/\(bE a0 (λo1:Nat=>!cr W o1) 8=rZ W/\bA a0 (λq1:Nat=>!cr W q1) 8=ze W)/\True
theorem Nh:aW Tryz.prog bf 26 Oy:=bd (.cons PQ .nil) false Tryz.call26 Tryz.func26 (λ_=> []) (V:=Gm) (λ_=>by kernel_rfl) λ⟨W⟩ hp=>by
  dsimp only[Gk]at hp
  dsimp only[Gm,tn,ak,bx,aG,aF,aH]
  simp only[bn,bG,eq_self,implies_true,Bool.cond_self]
  unfold rZ ze ot bE bA
  rw[hp.1.tasks]
  exact⟨⟨by decide,hp⟩,rfl,rfl⟩
structure Gn where
  (W:Wd)
def Gp:Sy.Spec:=⟨Gn,λ⟨W⟩=> [dV W],λ_=> [],λ⟨W⟩=>bL W/\js W,λ⟨W⟩=> .er 30 73 (r_ W) (zf W),λ_=> [],
  λargs mem=>match args with| [a0]=>some ⟨dR a0⟩|_=>none⟩
def Oz:aX:=⟨[],(Gp).g,none⟩
def Gq:Gn->Prop:=λ⟨W⟩=>let a0:=W.bz;let b0:=a0=a0/\(∀c0:Nat,let d0:=W.aD c0;c0<a0->True/\d0=d0/\(∀e0:Nat,e0<d0->True/\W.lines c0 e0=W.lines c0 e0));let g0:=W.ae;let h0:=W.av;let k0:=W.aV;let l0:=W.aE;let o0:=W.aY;let q0:=W.aK;True/\((b0/\(8:Int)=8/\tn 2 (((((((((((True/\W.ar=W.ar/\(∀r0:Nat,r0<W.ar->True/\W.af r0=W.af r0))/\g0=g0/\(∀u0:Nat,u0<g0->True/\W.kinds u0=W.kinds u0))/\h0=h0/\(∀v0:Nat,v0<h0->aF (W.aj v0) (W.aj v0)))/\k0=k0/\(∀w0:Nat,w0<k0->aG (W.tasks w0) (W.tasks w0)))/\b0)/\W.aI=W.aI/\(∀x0:Nat,x0<W.aI->True/\W.bits x0=W.bits x0))/\l0=l0/\(∀y0:Nat,y0<l0->True/\W.aM y0=W.aM y0))/\o0=o0/\(∀z0:Nat,let a1:=W.aL z0;z0<o0->True/\a1=a1/\(∀b1:Nat,b1<a1->True/\W.ready z0 b1=W.ready z0 b1)))/\q0=q0/\(∀c1:Nat,let d1:=W.aQ c1;c1<q0->True/\d1=d1/\(∀e1:Nat,e1<d1->aH (W.aB c1 e1) (W.aB c1 e1))))/\W.az=W.az/\(∀g1:Nat,g1<W.az->True/\W.aU g1=W.aU g1))/\W.time=W.time)/\True)/\True/\(8:Int)≠0/\bL W/\(∀J:Nat,J<a0->W.aD J<=50)/\(∀k1:Nat,k1<o0->W.aL k1<=50)/\(∀l1:Nat,l1<q0->W.aQ l1<=50))/\(bE a0 (λo1:Nat=>!ct W o1) 8=r_ W/\bA a0 (λq1:Nat=>!ct W q1) 8=zf W)/\True
theorem Ni:aW Tryz.prog bf 27 Oz:=bd (.cons (HE.or HF) .nil) false Tryz.call27 Tryz.func27 (λ_=> []) (V:=Gq) (λ_=>by kernel_rfl) λ⟨W⟩ hp=>by
  dsimp only[Gp]at hp
  dsimp only[Gq,tn,ak,bx,aG,aF,aH]
  simp only[bn,bG,eq_self,implies_true,Bool.cond_self]
  refine⟨⟨by decide,hp⟩,?_⟩
  unfold r_ zf ou bE bA
  rw[hp.1.lines]
  exact⟨rfl,rfl⟩
structure Gr where
  (W:Wd)
def Gs:Sy.Spec:=⟨Gr,λ⟨W⟩=> [dV W],λ_=> [],λ⟨W⟩=>bL W/\js W,λ⟨W⟩=> .er 30 73 (p8 W) (u_ W),λ_=> [],
  λargs mem=>match args with| [a0]=>some ⟨dR a0⟩|_=>none⟩
def OA:aX:=⟨[],(Gs).g,none⟩
def Gt:Gr->Prop:=λ⟨W⟩=>let a0:=W.aE;let b0:=a0=a0/\(∀c0:Nat,c0<a0->True/\W.aM c0=W.aM c0);let d0:=W.ae;let e0:=W.av;let g0:=W.aV;let h0:=W.bz;let k0:=W.aY;let l0:=k0=k0/\(∀o0:Nat,let q0:=W.aL o0;o0<k0->True/\q0=q0/\(∀r0:Nat,r0<q0->True/\W.ready o0 r0=W.ready o0 r0));let u0:=W.aK;let v0:=(8:Int)=8/\tn 4 (((((((((((True/\W.ar=W.ar/\(∀w0:Nat,w0<W.ar->True/\W.af w0=W.af w0))/\d0=d0/\(∀x0:Nat,x0<d0->True/\W.kinds x0=W.kinds x0))/\e0=e0/\(∀y0:Nat,y0<e0->aF (W.aj y0) (W.aj y0)))/\g0=g0/\(∀z0:Nat,z0<g0->aG (W.tasks z0) (W.tasks z0)))/\h0=h0/\(∀a1:Nat,let b1:=W.aD a1;a1<h0->True/\b1=b1/\(∀c1:Nat,c1<b1->True/\W.lines a1 c1=W.lines a1 c1)))/\W.aI=W.aI/\(∀d1:Nat,d1<W.aI->True/\W.bits d1=W.bits d1))/\b0)/\l0)/\u0=u0/\(∀e1:Nat,let g1:=W.aQ e1;e1<u0->True/\g1=g1/\(∀J:Nat,J<g1->aH (W.aB e1 J) (W.aB e1 J))))/\W.az=W.az/\(∀k1:Nat,k1<W.az->True/\W.aU k1=W.aU k1))/\W.time=W.time)/\True;let l1:=bE a0 (λo1:Nat=>!cE W o1) 8;let q1:=l1 !=0;tn 3 (((b0/\v0)/\True/\(8:Int)≠0/\bL W)/\(q1=true->(l1=p8 W/\bA a0 (λr1:Nat=>!cE W r1) 8=u_ W)/\True)/\(q1=false->((l0/\v0)/\True/\(8:Int)≠0/\bL W/\(∀u1:Nat,u1<h0->W.aD u1<=50)/\(∀v1:Nat,v1<k0->W.aL v1<=50)/\(∀w1:Nat,w1<u0->W.aQ w1<=50))/\(bE k0 (λx1:Nat=>!cO W x1) 8=p8 W/\bA k0 (λy1:Nat=>!cO W y1) 8=u_ W)/\True))
theorem Nj:aW Tryz.prog bf 28 OA:=bd (.cons PS (.cons (HF.or HE) .nil)) false Tryz.call28 Tryz.func28 (λ_=> []) (V:=Gt) (λ_=>by kernel_rfl) λ⟨W⟩ hp=>by
  dsimp only[Gs]at hp
  dsimp only[Gt,tn,ak,bx,aG,aF,aH]
  simp only[bn,bG,eq_self,implies_true,Bool.cond_self]
  unfold p8 u_ ow
  refine⟨⟨by decide,hp.1⟩,λh=>yz (by decide) h,λh=>⟨⟨by decide,hp⟩,?_⟩⟩
  rw[tF (by decide) h];exact⟨rfl,rfl⟩
structure HG where
  (W:Wd)
def HH:Sy.Spec:=⟨HG,λ⟨W⟩=> [dV W],λ_=> [],λ⟨W⟩=>bL W/\js W/\ ∀i,i<W.ar->gN (W.af i),λ⟨W⟩=> .er 30 73 (p9 W) (va W),λ_=> [],
  λargs mem=>match args with| [a0]=>some ⟨dR a0⟩|_=>none⟩
def PT:aX:=⟨[],(HH).g,none⟩
def HI:HG->Prop:=λ⟨W⟩=>let a0:=W.ar;let b0:=a0=a0/\(∀c0:Nat,c0<a0->True/\W.af c0=W.af c0);let d0:=W.ae;let e0:=W.av;let g0:=W.aV;let h0:=W.bz;let k0:=W.aE;let l0:=W.aY;let o0:=W.aK;let q0:=o0=o0/\(∀r0:Nat,let u0:=W.aQ r0;r0<o0->True/\u0=u0/\(∀v0:Nat,v0<u0->aH (W.aB r0 v0) (W.aB r0 v0)));let w0:=(9:Int)=9/\tn 2 (((((((((((True/\b0)/\d0=d0/\(∀x0:Nat,x0<d0->True/\W.kinds x0=W.kinds x0))/\e0=e0/\(∀y0:Nat,y0<e0->aF (W.aj y0) (W.aj y0)))/\g0=g0/\(∀z0:Nat,z0<g0->aG (W.tasks z0) (W.tasks z0)))/\h0=h0/\(∀a1:Nat,let b1:=W.aD a1;a1<h0->True/\b1=b1/\(∀c1:Nat,c1<b1->True/\W.lines a1 c1=W.lines a1 c1)))/\W.aI=W.aI/\(∀d1:Nat,d1<W.aI->True/\W.bits d1=W.bits d1))/\k0=k0/\(∀e1:Nat,e1<k0->True/\W.aM e1=W.aM e1))/\l0=l0/\(∀g1:Nat,let J:=W.aL g1;g1<l0->True/\J=J/\(∀k1:Nat,k1<J->True/\W.ready g1 k1=W.ready g1 k1)))/\q0)/\W.az=W.az/\(∀l1:Nat,l1<W.az->True/\W.aU l1=W.aU l1))/\W.time=W.time)/\True;let o1:=bE a0 (λq1:Nat=>!cm W q1) 9;let r1:=o1 !=0;True/\((b0/\w0)/\True/\(9:Int)≠0/\bL W/\(∀u1:Nat,u1<a0->0<=W.af u1/\W.af u1<=65535))/\(r1=true->(o1=p9 W/\bA a0 (λv1:Nat=>!cm W v1) 9=va W)/\True)/\(r1=false->((q0/\w0)/\True/\(9:Int)≠0/\bL W/\((∀w1:Nat,w1<h0->W.aD w1<=50)/\(∀x1:Nat,x1<l0->W.aL x1<=50)/\(∀y1:Nat,y1<o0->W.aQ y1<=50))/\(∀z1:Nat,z1<a0->0<=W.af z1/\W.af z1<=65535))/\(bE o0 (λa2:Nat=>!b_ W (W.aQ a2) (W.aB a2)) 9=p9 W/\bA o0 (λb2:Nat=>!b_ W (W.aQ b2) (W.aB b2)) 9=va W)/\True)
theorem Oq:aW Tryz.prog bf 29 PT:=bd (.cons PU (.cons PV .nil)) false Tryz.call29 Tryz.func29 (λ_=> []) (V:=HI) (λ_=>by kernel_rfl) λ⟨W⟩ hp=>by
  dsimp only[HH]at hp
  dsimp only[HI,tn,ak,bx,aG,aF,aH]
  simp only[bn,bG,eq_self,implies_true,Bool.cond_self]
  refine⟨⟨by decide,hp.1,hp.2.2⟩,λh=>?_,λh=>⟨⟨by decide,hp⟩,?_⟩⟩
  · exact yz (by decide) h
  · unfold p9 va ox
    rw[tF (by decide) h,<-hp.1.aB];exact⟨rfl,rfl⟩
end Go.Proofs.YtbngaammbjaajaaGreatDoor
set_option linter.unusedVariables false
set_option linter.unusedSimpArgs false
set_option maxRecDepth 100000
namespace Go.Proofs.YtbngaammbjaajaaGreatDoor
open Go.RowKit Go.Sy
def eV (W:Wd):Nat->Nat->Bool
  |0,_=>false
  |k+1,f=>bif dr (W.aj k) f then decide ((f:Int)<(W.aj k).base+(W.aj k).mark)else eV W k f
def dq (W:Wd) (k f:Nat):Nat:=bj k λq=>dr (W.aj q) f
def eG (W:Wd) (k f:Nat):Nat:=bj k λq=>eR (W.aj q) f
def fk (b:Int) (j:Nat) (f:Nat):Bool:=decide (b<=f)&&decide ((f:Int)<b+j)
theorem J9 (b:Int) (f:Nat):fk b 0 f=false:=by
  unfold fk
  rcases Int.lt_or_le (f:Int) b with h|h
  · rw[decide_eq_false (show¬b<=(f:Int) by omega)];rfl
  · rw[decide_eq_false (show¬(f:Int)<b+((0:Nat):Int) by omega),Bool.and_false]
theorem AX (b:Int) (j f:Nat) (h:(f:Int)=b+j):fk b j f=false/\fk b (j+1) f=true:=by
  unfold fk
  rw[decide_eq_false (show¬(f:Int)<b+(j:Int) by omega),decide_eq_true (show b<=(f:Int) by omega),decide_eq_true (show(f:Int)<b+((j+1:Nat):Int) by omega)]
  exact⟨rfl,rfl⟩
theorem HB (b:Int) (j f:Nat) (h:(f:Int)≠b+j):fk b (j+1) f=fk b j f:=by
  unfold fk
  rw[show decide ((f:Int)<b+((j+1:Nat):Int))=decide ((f:Int)<b+(j:Int))from decide_eq_decide.2 (by omega)]
theorem AY {W:Wd} {f:Nat}: ∀{n:Nat},dq W n f=0->(cX n λi=>fy (W.aj i) f)=false
  |0,_=>rfl
  |n+1,h=>by
   have h:dq W n f+(bif dr (W.aj n) f then 1 else 0)=0:=h
   cases hc:dr (W.aj n) f with
   |true=>rw[hc]at h;simp at h
   |false=>
    rw[hc]at h
    rw[zN,AY (n:=n) (by simpa using h)]
    unfold fy;rw[hc];rfl
theorem IV {W:Wd} {f:Nat}: ∀{n:Nat},dq W n f=1->(cX n λi=>fy (W.aj i) f)=!eV W n f
  |0,h=>by cases h
  |n+1,h=>by
   have h:dq W n f+(bif dr (W.aj n) f then 1 else 0)=1:=h
   rw[zN]
   show _=!(bif dr (W.aj n) f then decide ((f:Int)<(W.aj n).base+(W.aj n).mark)else eV W n f)
   cases hc:dr (W.aj n) f with
   |true=>
    rw[hc]at h
    rw[AY (n:=n) (by simpa using h)]
    unfold fy
    rw[hc]
    simp only[Bool.false_or,Bool.true_and,cond_true]
    rw[<-decide_not]
    exact decide_eq_decide.2 (by omega)
   |false=>
    rw[hc]at h
    rw[IV (n:=n) (by simpa using h)]
    unfold fy;rw[hc]
    simp
theorem QT {W:Wd} {f:Nat}:(decide (1<((dq W W.av f:Nat):Int))||W.kinds f !=0&&(((eG W W.av f:Nat):Int)==0||((dq W W.av f:Nat):Int)==1&&!eV W W.av f))=!gu W f:=by
  rw[xh,td]
  show _=!(decide (dq W W.av f<=1)&&(W.kinds f==0||(decide (0<eG W W.av f)&&!cX W.av λi=>fy (W.aj i) f)))
  rw[show decide (0<eG W W.av f)=!(eG W W.av f==0) by
   cases hk:eG W W.av f==0 with
   |true=>rw[eq_of_beq hk];rfl
   |false=>
    have iR:eG W W.av f≠0:=by simpa using hk
    rw[decide_eq_true (Nat.pos_of_ne_zero iR)];rfl]
  have hc:dq W W.av f=0\/dq W W.av f=1\/2<=dq W W.av f:=by omega
  rcases hc with hc|hc|hc
  · rw[AY hc,hc];simp only[bne]
    cases W.kinds f==0<;>cases eG W W.av f==0<;>rfl
  · rw[IV hc,hc];simp only[bne]
    cases W.kinds f==0<;>cases eG W W.av f==0<;>cases eV W W.av f<;>rfl
  · rw[decide_eq_true (show(1:Int)<((dq W W.av f:Nat):Int) by omega),decide_eq_false (show¬dq W W.av f<=1 by omega)];rfl
def QU (W:Wd):bH where
  σ:=Nat
  rt:= [(3,0),(4,0),(5,0)]
  sh i:= [(3,bk 0),(4,bk 2),(5,bk 4),(36,.v (.int .i64 i))]
  mh i:= [(1,.row 1 W.ae λf _=> .v (.int .i64 (dq W i f:Nat))),(3,.row 1 W.ae λf _=> .v (.bool (eV W i f))),(5,.row 1 W.ae λf _=> .v (.int .i64 (eG W i f:Nat)))]
  inv i:=i<=W.av
  μ i:=W.av -i
  init:=0
def QV (W:Wd) (i:Int):bH where
  σ:=Nat
  rt:= [(3,0),(4,0),(5,0),(7,0)]
  sh j:= [(3,bk 0),(4,bk 2),(5,bk 4),(7,bk 6),(59,.v (.int .i64 j))]
  mh j:= [(1,.row 1 W.ae λf _=> .v (.int .i64 ((dq W i.toNat f:Nat)+(bif fk (W.aj i.toNat).base j f then 1 else 0)))),(3,.row 1 W.ae λf _=> .v (.bool (bif fk (W.aj i.toNat).base j f then decide ((f:Int)<(W.aj i.toNat).base+(W.aj i.toNat).mark)else eV W i.toNat f)))]
  inv j:=(j:Int)<=(W.aj i.toNat).len
  μ j:=(W.aj i.toNat).len.toNat -j
  init:=0
structure Fm where
  (W:Wd)
def Fo:Sy.Spec:=⟨Fm,λ⟨W⟩=> [dV W],λ_=> [],λ⟨W⟩=>bL W/\ ∀i,i<W.av->cp W i=true,λ⟨W⟩=> .er 30 73 (uZ W) (DS W),λ_=> [],
  λargs mem=>match args with| [a0]=>some ⟨dR a0⟩|_=>none⟩
def Nk:aX:=⟨[],(Fo).g,none⟩
def Fp:Fm->Prop:=λ⟨W⟩=>let a0:=W.ae;let b0:=(a0:Int);let c0:=b0<=9223372036854775807;let d0:=0<=b0;let e0:=b0<=b0;let g0:=d0/\e0/\((8:Nat):Int)*b0<=140737488355328;let h0:=W.av;let k0:=(h0:Int);let l0:=SV.ptr 0 0 none 0 0=SV.ptr 0 0 none 0 0;let o0:=SV.ptr (0+1+1) 0 none 0 0=SV.ptr 2 0 none 0 0;let q0:=0+1+1+1+1;let r0:=SV.ptr q0 0 none 0 0=SV.ptr 4 0 none 0 0;let u0:=Int.toNat b0;let v0:=u0=u0;let w0:=True/\0=0/\v0;let x0:=u0=a0;let y0:=(u0:Int);let z0:=false=false;let a1:=a0=a0;let b1:=SV.ptr (q0+1+1) 0 none 0 0=SV.ptr 6 0 none 0 0;let c1:=a0<=u0;c0->g0/\tn 2 (c0->(d0/\e0/\((1:Nat):Int)*b0<=140737488355328)/\tn 2 (c0->g0/\tn 2 (k0<=9223372036854775807->l0/\o0/\r0/\0=((0:Nat):Int)/\(w0/\(x0/\(∀d1:Nat,d1<a0->True/\0=((dq W 0 d1:Nat):Int)))/\w0/\(x0/\(∀e1:Nat,e1<a0->True/\false=eV W 0 e1))/\w0/\(x0/\(∀g1:Nat,g1<a0->True/\0=((eG W 0 g1:Nat):Int)))/\True)/\0<=h0/\(∀J:Nat,let k1:=(J:Int);let l1:=decide (k1<k0);let o1:=Int.toNat k1;let q1:=W.aj o1;let r1:=q1.kind;let u1:=r1 !=1;let v1:=r1 !=0;let w1:=q1.base;let x1:=0<=w1/\w1<y0;let y1:=0+Int.toNat w1;let z1:Int:=((eG W J y1:Nat):Int)+1;let a2:Int:=k1+1;let b2:=ak a2=a2;let c2:=q1.mark;let d2:Int:=w1+c2;let e2:=w0/\(a1/\(∀g2:Nat,let U:=((eG W J g2:Nat):Int);g2<a0->True/\U=U))/\aF q1 q1/\True;let k2:=q1.len;let l2:=Int.toNat k2;J<=h0->(l1=true->(0<=k1/\k1<k0)/\True/\tn 6 True/\(u1=true->(v1=true->x1/\ak z1=z1/\x1/\(∀o2:Nat,z0)/\b2/\(∃q2:Nat,l0/\o0/\r0/\a2=(q2:Int)/\(w0/\(a1/\(∀r2:Nat,r2<a0->True/\((dq W J r2:Nat):Int)=((dq W q2 r2:Nat):Int)))/\w0/\(a1/\(∀u2:Nat,u2<a0->True/\
    eV W J u2=eV W q2 u2))/\w0/\(a1/\(∀v2:Nat,v2<a0->True/\cond (Nat.beq v2 y1) z1 ((eG W J v2:Nat):Int)=((eG W q2 v2:Nat):Int)))/\True)/\q2<=h0/\h0-q2<h0-J))/\(v1=false->b2/\(∃w2:Nat,l0/\o0/\r0/\a2=(w2:Int)/\(w0/\(a1/\(∀x2:Nat,x2<a0->True/\((dq W J x2:Nat):Int)=((dq W w2 x2:Nat):Int)))/\w0/\(a1/\(∀y2:Nat,y2<a0->True/\eV W J y2=eV W w2 y2))/\w0/\(a1/\(∀z2:Nat,z2<a0->True/\((eG W J z2:Nat):Int)=((eG W w2 z2:Nat):Int)))/\True)/\w2<=h0/\h0-w2<h0-J)))/\(u1=false->l0/\o0/\r0/\b1/\0=((0:Nat):Int)/\(w0/\(a1/\(∀a3:Nat,a3<a0->True/\((dq W J a3:Nat):Int)=((dq W o1 a3:Nat):Int)+cond (fk w1 0 a3) 1 0))/\w0/\(a1/\(∀b3:Nat,b3<a0->True/\eV W J b3=cond (fk w1 0 b3) (decide ((b3:Int)<d2)) (eV W o1 b3)))/\e2)/\((0:Nat):Int)<=k2/\(∀c3:Nat,let d3:=(c3:Int);let e3:=decide (d3<k2);let g3:Int:=w1+d3;let h3:=ak g3=g3;let k3:=0<=g3/\g3<y0;let l3:=0+Int.toNat g3;let o3:Int:=((dq W o1 l3:Nat):Int)+cond (fk w1 c3 l3) 1 0+1;let q3:Int:=d3+1;d3<=k2->(e3=true->h3/\k3/\ak o3=o3/\k3/\(∀r3:Nat,z0)/\h3/\k3/\(∀u3:Nat,z0)/\ak q3=q3/\(∃v3:Nat,l0/\o0/\r0/\b1/\q3=(v3:Int)/\(w0/\(a1/\(∀w3:Nat,let x3:=((dq W o1 w3:Nat):Int);w3<a0->True/\cond (Nat.beq w3 l3) o3 (x3+cond (fk w1 c3 w3) 1 0)=x3+cond (fk w1 v3 w3) 1 0))/\w0/\(a1/\(∀y3:Nat,let z3:=decide ((y3:Int)<d2);y3<a0->True/\cond (Nat.beq y3 l3) (decide (d3<c2)) (cond (fk w1 c3 y3) z3 (eV W o1 y3))=cond (fk w1 v3 y3) z3 (eV W o1 y3)))/\e2)/\(v3:Int)<=k2/\l2-v3<l2-c3))/\(e3=false->b2/\(∃a4:Nat,l0/\o0/\r0/\a2=(a4:Int)/\(w0/\(a1/\(∀b4:Nat,b4<a0->True/\
    ((dq W o1 b4:Nat):Int)+cond (fk w1 c3 b4) 1 0=((dq W a4 b4:Nat):Int)))/\w0/\(a1/\(∀c4:Nat,c4<a0->True/\cond (fk w1 c3 c4) (decide ((c4:Int)<d2)) (eV W o1 c4)=eV W a4 c4))/\w0/\(a1/\(∀d4:Nat,d4<a0->True/\((eG W J d4:Nat):Int)=((eG W a4 d4:Nat):Int)))/\True)/\a4<=h0/\h0-a4<h0-J)))))/\(l1=false->(((a1/\(∀e4:Nat,e4<a0->True/\W.kinds e4=W.kinds e4))/\(8:Int)=8/\((tn 2 (v0/\(∀g4:Nat,let h4:=((dq W J (0+g4):Nat):Int);g4<u0->True/\h4=h4))/\True/\v0/\(∀k4:Nat,let l4:=((eG W J (0+k4):Nat):Int);k4<u0->True/\l4=l4))/\True/\v0/\(∀o4:Nat,let q4:=eV W J (0+o4);o4<u0->True/\q4=q4))/\True)/\True/\(8:Int)≠0/\a0<=100000/\c1/\c1/\c1)/\(bE a0 (λr4:Nat=>let u4:=((dq W J (0+r4):Nat):Int);decide (1<u4)||W.kinds r4 !=0&&(((eG W J (0+r4):Nat):Int)==0||u4==1&&!eV W J (0+r4))) 8=uZ W/\bA a0 (λv4:Nat=>let w4:=((dq W J (0+v4):Nat):Int);decide (1<w4)||W.kinds v4 !=0&&(((eG W J (0+v4):Nat):Int)==0||w4==1&&!eV W J (0+v4))) 8=DS W)/\True)))))
set_option maxHeartbeats 2000000 in
theorem Mr:aW Tryz.prog bf 25 Nk:=bd (.cons PM .nil) false Tryz.call25 Tryz.func25 (λ⟨W⟩=> [.inv (QU W),.pk false λfr=>CW (fr 36) (QV W)]) (V:=Fp) (λ_=>by kernel_rfl) λ⟨W⟩ hp=>by
  dsimp only[Fo]at hp
  dsimp only[Fp,tn,ak,bx,aG,aF,aH]
  obtain⟨hz,hs⟩:=hp
  have z1:=hz.aj
  have z2:=hz.k1
  simp only[bn,bG,eq_self,implies_true,Bool.cond_self]
  have wr: ∀z:Int,-100000<=z->z<=100000->IntKind.i64.wrap z=z:=λz J U=>by rw[IntKind.wrap_i64];omega
  refineλ_=>⟨⟨by omega,by omega⟩,λ_=>⟨⟨by omega,by omega⟩,λ_=>⟨⟨by omega,by omega⟩,λ_=>⟨⟨λ_ _=>rfl,λ_ _=>rfl,λ_ _=>rfl⟩,λs hsn=>⟨λh=>?_,λh=>?_⟩⟩⟩⟩⟩
  · have ai:=br h
    have hb:=hs s ai
    have hn:=AU hb
    have hr:=kC hn
    have c1: ∀f,dq W s f<=s:=λf=>iI _ _
    have c2: ∀f,eG W s f<=s:=λf=>iI _ _
    have eC: ∀f,dq W (s+1) f=dq W s f+(bif dr (W.aj s) f then 1 else 0):=λf=>rfl
    have eK: ∀f,eG W (s+1) f=eG W s f+(bif eR (W.aj s) f then 1 else 0):=λf=>rfl
    have eU: ∀f,eV W (s+1) f=bif dr (W.aj s) f then decide ((f:Int)<(W.aj s).base+(W.aj s).mark)else eV W s f:=λf=>rfl
    have nO:(W.aj s).kind≠0->1<=(W.aj s).len/\(W.aj s).base+(W.aj s).len<=W.ae:=λhk=>by
      refine⟨HC hn hk,?_⟩
      have hb:j_ W s (W.aj s)=true:=hb
      rw[qp (beq_eq_false_iff_ne.2 hk)]at hb
      simp only[Bool.and_eq_true,decide_eq_true_eq]at hb
      exact hb.1.1.2
    obtain⟨S,hS⟩: ∃S,S=W.aj s:=⟨_,rfl⟩
    simp only[<-hS]at eC eK eU nO hr⊢
    refine⟨by omega,λJ=>?_,λJ=>?_⟩
    · have k1:(S.kind==1)=false:=j9 J
      have nc: ∀f,dr S f=false:=λf=>by unfold dr;rw[k1];rfl
      refine⟨λU=>?_,λU=>?_⟩
      · have k0:(S.kind==0)=false:=j9 U
        have hf:=nO (by simpa using k0)
        have ka: ∀f:Nat,eR S f=(S.base==f):=λf=>by unfold eR;simp only[bne];rw[k1,k0];rfl
        refine⟨by omega,wr _ (by omega) (by have:=c2 S.base.toNat;omega),by omega,wr _ (by omega) (by omega),bP ⟨⟨λi hi=>?_,λi hi=>?_,λi hi=>?_⟩,by omega,by omega⟩⟩
        · rw[eC,nc];rfl
        · rw[eU,nc];rfl
        · rw[eK,ka]
          cases fL:i.beq S.base.toNat with
          |true=>
           have vb:=Nat.eq_of_beq_eq_true fL
           subst vb
           rw[show(S.base==((S.base.toNat:Nat):Int))=true from beq_iff_eq.2 (by omega)]
           simp
          |false=>
           have bq:i≠S.base.toNat:=λe=>by subst e;rw[Nat.beq_refl]at fL;cases fL
           rw[show(S.base==(i:Int))=false from beq_eq_false_iff_ne.2 (by omega)]
           simp
      · have k0:(S.kind==0)=true:=eJ U
        have ka: ∀f:Nat,eR S f=false:=λf=>by unfold eR;simp only[bne];rw[k0,k1];rfl
        refine⟨wr _ (by omega) (by omega),bP ⟨⟨λi hi=>?_,λi hi=>?_,λi hi=>?_⟩,by omega,by omega⟩⟩
        · rw[eC,nc];rfl
        · rw[eU,nc];rfl
        · rw[eK,ka];rfl
    · have k1:(S.kind==1)=true:=eJ J
      have hf:=nO (by rw[eq_of_beq k1];decide)
      have ka: ∀f:Nat,eR S f=false:=λf=>by unfold eR;simp only[bne];rw[k1];rfl
      refine⟨⟨λi hi=>by rw[J9];simp,λi hi=>by rw[J9];rfl⟩,by omega,λj hj=>⟨λh3=>?_,λh3=>?_⟩⟩
      · have h4:=of_decide_eq_true h3
        have hc:=c1 (S.base+(j:Int)).toNat
        have e0:fk S.base j (S.base+(j:Int)).toNat=false:=(AX S.base j _ (by omega)).1
        rw[e0]
        refine⟨wr _ (by omega) (by omega),by omega,wr _ (by simp;omega) (by simp;omega),by omega,wr _ (by omega) (by omega),by omega,wr _ (by omega) (by omega),bP ⟨⟨λi hi=>?_,λi hi=>?_⟩,by omega,by omega⟩⟩
        · cases fL:i.beq (S.base+(j:Int)).toNat with
          |true=>
           have vb:=Nat.eq_of_beq_eq_true fL
           subst vb
           rw[(AX S.base j (S.base+(j:Int)).toNat (by omega)).2];simp
          |false=>
           have bq:i≠(S.base+(j:Int)).toNat:=λe=>by subst e;rw[Nat.beq_refl]at fL;cases fL
           rw[HB S.base j i (by omega)];rfl
        · cases fL:i.beq (S.base+(j:Int)).toNat with
          |true=>
           have vb:=Nat.eq_of_beq_eq_true fL
           subst vb
           rw[(AX S.base j (S.base+(j:Int)).toNat (by omega)).2]
           exact decide_eq_decide.2 (by omega)
          |false=>
           have bq:i≠(S.base+(j:Int)).toNat:=λe=>by subst e;rw[Nat.beq_refl]at fL;cases fL
           rw[HB S.base j i (by omega)];rfl
      · have h4:=of_decide_eq_false h3
        have ej:(j:Int)=S.len:=by omega
        have ec: ∀f:Nat,fk S.base j f=dr S f:=λf=>by unfold fk dr;rw[k1,ej];rfl
        refine⟨wr _ (by omega) (by omega),bP ⟨⟨λi hi=>?_,λi hi=>?_,λi hi=>?_⟩,by omega,by omega⟩⟩
        · rw[eC,ec];cases dr S i<;>simp
        · rw[eU,ec]
        · rw[eK,ka];rfl
  · have bI:=bJ h
    obtain rfl:s=W.av:=by omega
    have e:=Mm (n:=W.ae) (e:=8) (r:=(0,-1)) (r':=(0,-1)) (λf (hf:f<W.ae)=>QT (W:=W) (f:=f)) (λ_=>rfl)
    refine⟨⟨by decide,by omega,Nat.le_refl _⟩,?_,?_⟩
    · exact congrArg (·.1) e
    · exact congrArg (·.2) e
end Go.Proofs.YtbngaammbjaajaaGreatDoor
set_option linter.unusedVariables false
set_option linter.unusedSimpArgs false
set_option maxRecDepth 100000
namespace Go.Proofs.YtbngaammbjaajaaGreatDoor
open Go.RowKit Go.Sy
def Seq (f:Int×Int->Int×Int):Prop:= ∀r,((f (0,-1)).1=0->f r=r)/\((f (0,-1)).1≠0->f r=f (0,-1))
theorem Seq.fst {n:Nat} {p:Nat->Bool} {e:Int} (he:e≠0):Seq (a_ n p e):=λr=>Am he
theorem Seq.comp {f g:Int×Int->Int×Int} (hf:Seq f) (hg:Seq g):Seq λr=>f (g r):=by
  intro r
  show((f (g (0,-1))).1=0->f (g r)=r)/\((f (g (0,-1))).1≠0->f (g r)=f (g (0,-1)))
  rcases Decidable.em ((f (0,-1)).1=0)with h|h
  · rw[(hf (g r)).1 h,(hf (g (0,-1))).1 h];exact hg r
  · rw[(hf (g r)).2 h,(hf (g (0,-1))).2 h];exact⟨λU=>absurd U h,λ_=>rfl⟩
theorem seq1 (W:Wd):Seq (na W):=(Seq.fst (by decide)).comp ((Seq.fst (by decide)).comp (Seq.fst (by decide)))
theorem KD (W:Wd):Seq (oo W):=Seq.fst (by decide)
theorem KE (W:Wd):Seq (p6 W):=Seq.fst (by decide)
theorem KF (W:Wd):Seq (ot W):=Seq.fst (by decide)
theorem KG (W:Wd):Seq (ou W):=Seq.fst (by decide)
theorem KH (W:Wd):Seq (ow W):=(Seq.fst (by decide)).comp (Seq.fst (by decide))
theorem KI (W:Wd):Seq (ox W):=(Seq.fst (by decide)).comp (Seq.fst (by decide))
theorem jh {W:Wd} {f:Int×Int->Int×Int} (hf:Seq f) {r:Int×Int} (hx:wm W=f r):(((f (0,-1)).1 !=0)=true->(f (0,-1)).1=wE W/\(f (0,-1)).2=wA W)/\(((f (0,-1)).1 !=0)=false->wm W=r):=by
  refine⟨λh=>?_,λh=>?_⟩
  · unfold wE wA;rw[hx,(hf r).2 (by simpa using h)];exact⟨rfl,rfl⟩
  · rw[hx,(hf r).1 (by simpa using h)]
theorem QS {W:Wd} (h:(mi W !=0)=false): ∀i,i<W.ar->gN (W.af i):=λi hi=>by
  have J:(na W (0,-1)).1=0:=by simpa [mi]using h
  have:=(jv (by decide) J).1 i hi
  simp[al]at this
  exact⟨by omega,by omega⟩
theorem Om {W:Wd} (h:(p7 W !=0)=false): ∀i,i<W.av->cp W i=true:=λi hi=>by
  have J:(oo W (0,-1)).1=0:=by simpa [p7]using h
  have:=(jv (by decide) J).1 i hi
  exact eJ this
structure vZ where
  (W:Wd)
def Ak:Sy.Spec:=⟨vZ,λ⟨W⟩=> [gq W],λ_=> [],λ⟨W⟩=>Sm W,λ⟨W⟩=> .er 30 73 (wE W) (wA W),λ_=> [],
  λargs mem=>match args with| [a0]=>some ⟨gf a0⟩|_=>none⟩
def On:aX:=⟨[],(Ak).g,none⟩
def Gh:vZ->Prop:=λ⟨W⟩=>let a0:=W.ae;let b0:=(a0:Int);let c0:=W.aE;let d0:=(c0:Int);let e0:=cond (cond (cond (decide (b0<1)) true (decide (24<b0))) true (decide (d0<1))) true (decide (4<d0));let g0:Int:=b0*16;let h0:=ak g0=g0;let k0:=W.ar;let l0:=cond e0 true ((k0:Int) !=g0);let o0:=W.av;let q0:=W.aV;let r0:=W.bz;let u0:=W.aI;let v0:=cond (cond (cond (cond l0 true ((o0:Int) !=g0)) true ((q0:Int) !=b0)) true ((r0:Int) !=b0)) true ((u0:Int) !=b0);let w0:Int:=d0*4;let x0:=W.aY;let y0:=W.aK;let z0:=W.az;let a1:=cond (cond (cond (cond v0 true ((x0:Int) !=w0)) true ((y0:Int) !=d0)) true (decide ((z0:Int)<1))) true (decide (8<(z0:Int)));let b1:=W.time=W.time;let c1:=cond a1 true (al W.time 1000000);let d1:=wE W;let e1:=wA W;let g1:=((7:Nat):Int);let J:=(((((((((((True/\k0=k0/\(∀k1:Nat,k1<k0->True/\W.af k1=W.af k1))/\a0=a0/\(∀l1:Nat,l1<a0->True/\W.kinds l1=W.kinds l1))/\o0=o0/\(∀o1:Nat,o1<o0->aF (W.aj o1) (W.aj o1)))/\q0=q0/\(∀q1:Nat,q1<q0->aG (W.tasks q1) (W.tasks q1)))/\r0=r0/\(∀r1:Nat,let u1:=W.aD r1;r1<r0->True/\u1=u1/\(∀v1:Nat,v1<u1->True/\W.lines r1 v1=W.lines r1 v1)))/\u0=u0/\(∀w1:Nat,w1<u0->True/\W.bits w1=W.bits w1))/\c0=c0/\(∀x1:Nat,x1<c0->True/\W.aM x1=W.aM x1))/\x0=x0/\(∀y1:Nat,let z1:=W.aL y1;y1<x0->True/\z1=z1/\(∀a2:Nat,a2<z1->True/\W.ready y1 a2=W.ready y1 a2)))/\y0=y0/\(∀b2:Nat,let c2:=W.aQ b2;b2<y0->True/\c2=c2/\(∀d2:Nat,d2<c2->aH (W.aB b2 d2) (W.aB b2 d2))))/\z0=z0/\(∀e2:Nat,e2<z0->True/\W.aU e2=W.aU e2))/\b1)/\True;let g2:Int:=0+1;let U:Int:=g2+1;
    let k2:Int:=U+1;let l2:=(∀o2:Nat,o2<r0->W.aD o2<=50)/\(∀q2:Nat,q2<x0->W.aL q2<=50)/\(∀r2:Nat,r2<y0->W.aQ r2<=50);let u2:=J/\True/\bL W/\l2;let v2:Int:=k2+1;let w2:Int:=v2+1;let x2:Int:=w2+1;let y2:Int:=x2+1;tn 8 ((e0=false->h0)/\(l0=false->h0)/\(v0=false->ak w0=w0)/\(a1=false->(b1/\(1000000:Int)=1000000/\True)/\True/\True)/\(c1=true->((2:Int)≠0/\d1=2/\e1=(-1))/\True)/\(c1=false->tn 2 (g1<=9223372036854775807->((0:Int)<=0/\0<g1)/\(J/\True/\Ao.match_1 (λz2:wv=>Prop) (wv.mk W) (λa3:Wd=>Sm a3))/\((mi W !=0)=true->(mi W=d1/\rY W=e1)/\True)/\((mi W !=0)=false->ak g2=g2/\(0<=g2/\g2<g1)/\(J/\True/\AW.match_1 (λb3:wN=>Prop) (wN.mk W) (λc3:Wd=>bL c3))/\((p7 W !=0)=true->(p7 W=d1/\DR W=e1)/\True)/\((p7 W !=0)=false->ak U=U/\(0<=U/\U<g1)/\(J/\True/\bL W/\(∀d3:Nat,d3<o0->cp W d3=true))/\((uZ W !=0)=true->(uZ W=d1/\DS W=e1)/\True)/\((uZ W !=0)=false->ak k2=k2/\(0<=k2/\k2<g1)/\u2/\((rZ W !=0)=true->(rZ W=d1/\ze W=e1)/\True)/\((rZ W !=0)=false->ak v2=v2/\(0<=v2/\v2<g1)/\u2/\((r_ W !=0)=true->(r_ W=d1/\zf W=e1)/\True)/\((r_ W !=0)=false->ak w2=w2/\(0<=w2/\w2<g1)/\u2/\((p8 W !=0)=true->(p8 W=d1/\u_ W=e1)/\True)/\((p8 W !=0)=false->ak x2=x2/\(0<=x2/\x2<g1)/\(J/\True/\bL W/\l2/\(∀e3:Nat,e3<k0->0<=W.af e3/\W.af e3<=65535))/\((p9 W !=0)=true->(p9 W=d1/\va W=e1)/\True)/\((p9 W !=0)=false->ak y2=y2/\(d1=0/\e1=(-1))/\True))))))))))
set_option maxHeartbeats 2000000 in
theorem M7:aW Tryz.prog bf 15 On:=bd (.cons qz (.cons Ng (.cons Oo (.cons Mr (.cons Nh (.cons Ni (.cons Nj (.cons Oq .nil)))))))) false Tryz.call15 Tryz.func15 (λ_=> [.dec,.kJ 8]) (V:=Gh) (λ_=>by kernel_rfl) λ⟨W⟩ hp=>by
  dsimp only[Ak]at hp
  dsimp only[Gh,tn,ak,bx,aG,aF,aH]
  simp only[bn,bG,eq_self,implies_true,Bool.cond_self]
  have wr: ∀z:Int,-100000<=z->z<=100000->IntKind.i64.wrap z=z:=λz J U=>by rw[IntKind.wrap_i64];omega
  have b2:=hp.kinds
  have b4:=hp.aM
  rw[Fl]
  refine⟨λ_=>wr _ (by omega) (by omega),λ_=>wr _ (by omega) (by omega),λ_=>wr _ (by omega) (by omega),λh=>?_,λh _=>⟨⟨by decide,by decide⟩,hp,?_⟩⟩
  · have:wm W=(2,-1):=by unfold wm;rw[h];rfl
    unfold wE wA;rw[this];exact⟨by decide,rfl,rfl⟩
  have hz:=BI h
  have X1:wm W=(na W (oo W (p6 W (ot W (ou W (ow W (ox W (0,-1)))))))):=by unfold wm;rw[h];rfl
  refine⟨(jh (seq1 W) X1).1,λg1=>⟨wr _ (by decide) (by decide),⟨by decide,by decide⟩,hz,?_⟩⟩
  have X2:=(jh (seq1 W) X1).2 g1
  refine⟨(jh (KD W) X2).1,λg2=>⟨wr _ (by decide) (by decide),⟨by decide,by decide⟩,⟨hz,Om g2⟩,?_⟩⟩
  have X3:=(jh (KD W) X2).2 g2
  refine⟨(jh (KE W) X3).1,λg3=>⟨wr _ (by decide) (by decide),⟨by decide,by decide⟩,⟨hz,hp.sm⟩,?_⟩⟩
  have X4:=(jh (KE W) X3).2 g3
  refine⟨(jh (KF W) X4).1,λg4=>⟨wr _ (by decide) (by decide),⟨by decide,by decide⟩,⟨hz,hp.sm⟩,?_⟩⟩
  have X5:=(jh (KF W) X4).2 g4
  refine⟨(jh (KG W) X5).1,λg5=>⟨wr _ (by decide) (by decide),⟨by decide,by decide⟩,⟨hz,hp.sm⟩,?_⟩⟩
  have X6:=(jh (KG W) X5).2 g5
  refine⟨(jh (KH W) X6).1,λg6=>⟨wr _ (by decide) (by decide),⟨by decide,by decide⟩,⟨hz,hp.sm,QS g1⟩,?_⟩⟩
  have X7:=(jh (KH W) X6).2 g6
  refine⟨(jh (KI W) X7).1,λg7=>⟨wr _ (by decide) (by decide),?_⟩⟩
  have X8:=(jh (KI W) X7).2 g7
  unfold wE wA;rw[X8];exact⟨rfl,rfl⟩
end Go.Proofs.YtbngaammbjaajaaGreatDoor
set_option linter.unusedVariables false
set_option linter.unusedSimpArgs false
set_option maxRecDepth 100000
namespace Go.Proofs.YtbngaammbjaajaaGreatDoor
open Go.RowKit Go.Sy
structure vI where
  (W:Wd)
def zO:Sy.Spec:=⟨vI,λ⟨W⟩=> [gq W],λ_=> [],λ⟨W⟩=>Sm W,λ⟨W⟩=> .v (.bool (wE W==0)),λ_=> [],
  λargs mem=>match args with| [a0]=>some ⟨gf a0⟩|_=>none⟩
def Nf:aX:=⟨[],(zO).g,none⟩
def Fk:vI->Prop:=λ⟨W⟩=>let a0:=W.ae;let b0:=W.av;let c0:=W.aV;let d0:=W.bz;let e0:=W.aE;let g0:=W.aY;True/\(((((((((((((True/\W.ar=W.ar/\(∀h0:Nat,h0<W.ar->True/\W.af h0=W.af h0))/\a0=a0/\(∀k0:Nat,k0<a0->True/\W.kinds k0=W.kinds k0))/\b0=b0/\(∀l0:Nat,l0<b0->aF (W.aj l0) (W.aj l0)))/\c0=c0/\(∀o0:Nat,o0<c0->aG (W.tasks o0) (W.tasks o0)))/\d0=d0/\(∀q0:Nat,let r0:=W.aD q0;q0<d0->True/\r0=r0/\(∀u0:Nat,u0<r0->True/\W.lines q0 u0=W.lines q0 u0)))/\W.aI=W.aI/\(∀v0:Nat,v0<W.aI->True/\W.bits v0=W.bits v0))/\e0=e0/\(∀w0:Nat,w0<e0->True/\W.aM w0=W.aM w0))/\g0=g0/\(∀x0:Nat,let y0:=W.aL x0;x0<g0->True/\y0=y0/\(∀z0:Nat,z0<y0->True/\W.ready x0 z0=W.ready x0 z0)))/\W.aK=W.aK/\(∀a1:Nat,let b1:=W.aQ a1;a1<W.aK->True/\b1=b1/\(∀c1:Nat,c1<b1->aH (W.aB a1 c1) (W.aB a1 c1))))/\W.az=W.az/\(∀d1:Nat,d1<W.az->True/\W.aU d1=W.aU d1))/\W.time=W.time)/\True)/\True/\zw.match_1 (λe1:vu=>Prop) (vu.mk W) (λg1:Wd=>Sm g1))/\(wE W==0)=(wE W==0)/\True
theorem Mq:aW Tryz.prog bf 13 Nf:=bd (.cons LV .nil) false Tryz.call13 Tryz.func13 (λ_=> []) (V:=Fk) (λ_=>by kernel_rfl) λ⟨W⟩ hp=>by
  dsimp only[zO]at hp
  dsimp only[Fk,tn,ak,bx,aG,aF,aH]
  simp only[bn,bG,eq_self,implies_true,Bool.cond_self]
  exact hp
structure vW where
  (W:Wd)
def Ai:Sy.Spec:=⟨vW,λ⟨W⟩=> [gq W],λ_=> [],λ⟨W⟩=>Sm W,λ⟨W⟩=> .v (.int .i64 (bif wE W==0 then 0 else 8)),λ_=> [],
  λargs mem=>match args with| [a0]=>some ⟨gf a0⟩|_=>none⟩
def Ol:aX:=⟨[],(Ai).g,none⟩
def Gg:vW->Prop:=λ⟨W⟩=>let a0:=W.ae;let b0:=W.av;let c0:=W.aV;let d0:=W.bz;let e0:=W.aE;let g0:=W.aY;let h0:=wE W==0;let k0:Int:=cond h0 0 8;True/\(((((((((((((True/\W.ar=W.ar/\(∀l0:Nat,l0<W.ar->True/\W.af l0=W.af l0))/\a0=a0/\(∀o0:Nat,o0<a0->True/\W.kinds o0=W.kinds o0))/\b0=b0/\(∀q0:Nat,q0<b0->aF (W.aj q0) (W.aj q0)))/\c0=c0/\(∀r0:Nat,r0<c0->aG (W.tasks r0) (W.tasks r0)))/\d0=d0/\(∀u0:Nat,let v0:=W.aD u0;u0<d0->True/\v0=v0/\(∀w0:Nat,w0<v0->True/\W.lines u0 w0=W.lines u0 w0)))/\W.aI=W.aI/\(∀x0:Nat,x0<W.aI->True/\W.bits x0=W.bits x0))/\e0=e0/\(∀y0:Nat,y0<e0->True/\W.aM y0=W.aM y0))/\g0=g0/\(∀z0:Nat,let a1:=W.aL z0;z0<g0->True/\a1=a1/\(∀b1:Nat,b1<a1->True/\W.ready z0 b1=W.ready z0 b1)))/\W.aK=W.aK/\(∀c1:Nat,let d1:=W.aQ c1;c1<W.aK->True/\d1=d1/\(∀e1:Nat,e1<d1->aH (W.aB c1 e1) (W.aB c1 e1))))/\W.az=W.az/\(∀g1:Nat,g1<W.az->True/\W.aU g1=W.aU g1))/\W.time=W.time)/\True)/\True/\zO.match_1 (λJ:vI=>Prop) (vI.mk W) (λk1:Wd=>Sm k1))/\(h0=true->0=k0/\True)/\(h0=false->8=k0/\True)
theorem MZ:aW Tryz.prog bf 5 Ol:=bd (.cons Mq .nil) false Tryz.call5 Tryz.func5 (λ_=> []) (V:=Gg) (λ_=>by kernel_rfl) λ⟨W⟩ hp=>by
  dsimp only[Ai]at hp
  dsimp only[Gg,tn,ak,bx,aG,aF,aH]
  simp only[bn,bG,eq_self,implies_true,Bool.cond_self]
  exact⟨hp,λh=>by rw[h];rfl,λh=>by rw[h];rfl⟩
end Go.Proofs.YtbngaammbjaajaaGreatDoor
