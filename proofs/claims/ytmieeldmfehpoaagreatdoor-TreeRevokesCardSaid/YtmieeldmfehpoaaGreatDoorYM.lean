/- The program's look at a world: keys, tables, turns. -/
import Derived.Test.YtmieeldmfehpoaaGreatDoorYL
import Derived.Test.YtmieeldmfehpoaaGreatDoorYK
set_option linter.unusedVariables false
set_option linter.unusedSimpArgs false
set_option linter.unusedVariables false
set_option linter.unusedSimpArgs false
set_option maxRecDepth 100000
namespace Go.Proofs.YtmieeldmfehpoaaGreatDoor
open Go.RowKit Go.Sy
theorem UD (n:Nat) (p:Nat->Bool):Nat.blt (bU n p) n=dp n p:=by
  cases hq:dp n p with
  |true=>obtain⟨i,hi,h⟩:=kE.1 hq;exact cD (p_ hi h)
  |false=>rw[sj (ld.1 hq)];exact eI (Nat.le_refl _)
theorem BT {W:Wd} {n i:Nat} {l:Nat->bI} (hi:i<n) (h:eX W l i=false):cI W n l=false:=by
  unfold cI;rw[j3 (p:=λi=>eX W l i) hi h];cases decide (n<=4)<;>rfl
structure LK where
  (i:Int) (W:Wd)
def LL:Sy.Spec:=⟨LK,λ⟨i,W⟩=> [.v (.int .i64 i),.sl true 4 (W.aA i.toNat) (rF λk=>eG (W.aj i.toNat k)),.pt true 1 (λ_=>eD W)],λ_=> [],λ⟨i,W⟩=>bW W/\W.aA i.toNat<=1000/\ ∀k,k<W.aq->fp (W.aa k),λ⟨i,W⟩=> .v (.bool (!cI W (W.aA i.toNat) (W.aj i.toNat))),λ_=> [],
  λargs mem=>match args with| [a0,a1,a2]=>some ⟨av (a0),d' (bx a2 0)⟩|_=>none⟩
def Wy:aQ:=⟨[],(LL).g,none⟩
def LM:LK->Prop:=λ⟨i,W⟩=>let a0:=Int.toNat i;let b0:=W.aA a0;let c0:=(b0:Int);let d0:=c0<=9223372036854775807;let e0:=W.aj a0;let g0:=tn 3 True;let h0:=((W.ar:Nat):Int);let k0:=!cI W b0 e0;let l0:=true=k0/\True;let o0:=W.aq;let q0:=W.aa;let r0:=Int.toNat 0;d0->0=((0:Nat):Int)/\True/\(0<=b0/\(∀u0:Nat,u0<0->eX W e0 u0=true))/\(∀v0:Nat,let w0:=(v0:Int);let x0:=decide (w0<c0);let y0:=e0 (Int.toNat w0);let z0:=y0.sp;let a1:=cond (decide (z0<0)) true (decide (h0<=z0));let b1:=y0.pg;let c1:=cond (cond (cond a1 true (W.kinds (Int.toNat z0) !=4)) true (decide (b1<0))) true (decide (255<b1));let d1:Int:=16*b1;let e1:=z0=z0;let g1:=cond (cond (dN o0 q0 z0 d1 !=0) true (eZ o0 q0 z0 d1 !=y0.fr)) true (e_ o0 q0 z0 d1 !=y0.wr);let J:=Int.toNat w0-r0;let k1:=uc J (λl1:Nat=>e0 (r0+l1)) z0 b1;let o1:Int:=w0+1;v0<=b0/\(∀q1:Nat,q1<v0->eX W e0 q1=true)->(x0=true->(0<=w0/\w0<c0)/\True/\g0/\tn 22 ((a1=false->0<=z0/\z0<h0)/\(c1=true->l0)/\(c1=false->tn 9 (ah d1=d1/\(((o0=o0/\(∀r1:Nat,r1<o0->True/\q0 r1=q0 r1))/\e1/\d1=d1/\True)/\True/\(∀u1:Nat,u1<o0->0<=q0 u1/\q0 u1<=65535))/\tn 5 ((g1=true->l0)/\(g1=false->tn 2 (((0:Int)<=0/\0<=w0/\w0<=c0)/\tn 4 ((((J=J/\(∀v1:Nat,v1<J->ay (e0 (r0+v1)) (e0 (r0+v1))))/\e1/\b1=b1/\True)/\True/\True)/\tn 4 (g0/\(k1=true->l0)/\(k1=false->ah o1=o1/\(∃w1:Nat,o1=(w1:Int)/\True/\(w1<=b0/\(∀x1:Nat,x1<w1->eX W e0 x1=true))/\b0-w1<b0-v0)))))))))))/\(x0=false->d0->decide (4<c0)=k0/\True))
theorem UB:aL Tryz.prog aO 92 Wy:=aW (.cons K0 (.cons Wb .nil)) false Tryz.call92 Tryz.func92 (λ⟨i,W⟩=> [.inv (ZE W (W.aA i.toNat) (W.aj i.toNat))]) (V:=LM) (λ_=>by kernel_rfl) λ⟨i,W⟩ hp=>by
  dsimp only[LL]at hp
  dsimp only[LM,tn,ah,ak,aE,aD,ay]
  obtain⟨hz,hn,hw⟩:=hp
  obtain⟨l,hl⟩: ∃l,l=W.aj i.toNat:=⟨_,rfl⟩
  obtain⟨n,A4⟩: ∃n,n=W.aA i.toNat:=⟨_,rfl⟩
  simp only[aS,aZ,eq_self,implies_true,Bool.cond_self]
  simp only[<-hl,<-A4]at hn⊢
  have wr: ∀z:Int,-100000<=z->z<=100000->IntKind.i64.wrap z=z:=λz J U=>by rw[IntKind.wrap_i64];omega
  refineλ_ s hs=>⟨λh=>?_,λh _=>?_⟩
  · have ai:=aY h
    have eA:(decide ((l s).sp<0)||decide ((W.ar:Int)<=(l s).sp)||W.kinds (l s).sp.toNat !=4||decide ((l s).pg<0)||decide (255<(l s).pg))=(!(cm W (l s).sp==4)||aB (l s).pg 255):=by
      rw[FD (by decide),Bool.or_assoc];rfl
    have eF:uc (s -Int.toNat 0) (λa=>l (Int.toNat 0+a)) (l s).sp (l s).pg=dp s (λk=>(l k).sp==(l s).sp&&(l k).pg==(l s).pg):=by
      unfold uc;rw[UD];simp only[Int.toNat_zero,Nat.sub_zero,Nat.zero_add];rfl
    rw[eA,eF]
    refine⟨by omega,λJ=>?_,λJ=>?_,λJ=>?_⟩
    · simp only[Bool.or_eq_false_iff,decide_eq_false_iff_not]at J;omega
    · rw[BT ai (by revert J;unfold eX;cases cm W (l s).sp==4<;>cases aB (l s).pg 255<;>simp)];rfl
    have hf:aB (l s).pg 255=false:=by rw[Bool.or_eq_false_iff]at J;exact J.2
    have xa:0<=(l s).pg/\(l s).pg<=255:=by simp[aB]at hf;omega
    refine⟨wr _ (by omega) (by omega),hw,λU=>?_,λU=>⟨⟨by decide,by omega⟩,λh3=>?_,λh3=>⟨wr _ (by omega) (by omega),bZ ⟨⟨by omega,mZ hs.2 ?_⟩,by omega⟩⟩⟩⟩
    · rw[BT ai (by revert U;simp only[bne];unfold eX;cases dN W.aq W.aa (l s).sp (16*(l s).pg)==0<;>cases eZ W.aq W.aa (l s).sp (16*(l s).pg)==(l s).fr<;>cases e_ W.aq W.aa (l s).sp (16*(l s).pg)==(l s).wr<;>simp)];rfl
    · rw[BT ai (by unfold eX;rw[h3];simp)];rfl
    · revert J U
      simp only[bne];unfold eX
      rw[h3]
      cases cm W (l s).sp==4<;>cases aB (l s).pg 255<;>cases dN W.aq W.aa (l s).sp (16*(l s).pg)==0<;>cases eZ W.aq W.aa (l s).sp (16*(l s).pg)==(l s).fr<;>cases e_ W.aq W.aa (l s).sp (16*(l s).pg)==(l s).wr<;>simp
  · have bo:=bD h
    unfold cI
    rw[mJ λj hj=>hs.2 j (by omega),Bool.and_true,<-decide_not]
    exact decide_eq_decide.2 (by omega)
end Go.Proofs.YtmieeldmfehpoaaGreatDoor
set_option linter.unusedVariables false
set_option linter.unusedSimpArgs false
set_option maxRecDepth 100000
namespace Go.Proofs.YtmieeldmfehpoaaGreatDoor
open Go.RowKit Go.Sy
def Zz (W:Wd) (f:Nat):bS where
  σ:=Nat
  rt:= [(4,0),(37,1)]
  sh i:= [(4,bd 0),(37,.aV 1 0 none 0 11),(39,.v (.int .i64 i))]
  mh _:= []
  inv i:=i<=11/\ ∀j,j<i->aB (fj [(W.tasks f).r0,(W.tasks f).r1,(W.tasks f).r2,(W.tasks f).r3,(W.tasks f).r4,(W.tasks f).r5,(W.tasks f).r6,(W.tasks f).r7,(W.tasks f).pc,(W.tasks f).word,(W.tasks f).bJ] j) 65535=false
  μ i:=11 -i
  init:=0
def ZA (W:Wd) (f:Nat):bS where
  σ:=Nat
  rt:= [(4,0)]
  sh i:= [(4,bd 0),(126,.v (.int .i64 i)),(8,.v (.int .i64 (bL i λk=>(W.tasks k).aX==f:Nat)))]
  mh _:= []
  inv i:=i<=W.az
  μ i:=W.az -i
  init:=0
structure QM where
  b:Bool
def Ww (W:Wd) (f:Nat):Cut where
  σ:=QM
  rt:= [(4,0)]
  sh s:= [(4,bd 0),(11,.v (.int .i64 (kN W f:Nat))),(12,.v (.int .i64 (im W f:Nat))),(13,.v (.int .i64 0)),(14,.v (.int .i64 0)),(171,.v (.int .i64 (W.tasks f).st)),(172,.v (.bool s.b))]
  mem _:= [.cells (gZ (W.tasks f))]
  inv s:=s.b=((W.tasks f).st==2||(W.tasks f).st==3||(W.tasks f).st==4||(W.tasks f).st==6)
  dec fr _:=⟨vm (fr 172)⟩
theorem Yp (a:Nat):(((a:Nat):Int) !=0)=!(a==0):=by rw[bne,zg]
theorem Yq (a:Nat):(((a:Nat):Int) !=1)=!(a==1):=by rw[bne,vl]
theorem aan {W:Wd} {f k:Int} (hk:k≠ -1):(decide (f<0)||!okF W f k)=!(cm W f==k):=by
  unfold okF
  rcases Int.lt_or_le f 0 with h|h
  · rw[decide_eq_true h,C0 (.inl h),show((-1:Int)==k)=false from beq_eq_false_iff_ne.2 λe=>hk e.symm];rfl
  · rw[decide_eq_false (show¬f<0 by omega),show(f== -1)=false from beq_eq_false_iff_ne.2 (by omega)];rfl
theorem Wx {W:Wd} {f c:Nat} (hc:Ak W f=c):(decide (1<(c:Int))||(((c:Int)==1) !=((W.tasks f).st==5)))=!lp W f:=by
  unfold lp
  rw[hc,vl]
  rcases Nat.lt_or_ge 1 c with h|h
  · rw[decide_eq_true (show(1:Int)<c by omega),decide_eq_false (show¬c<=1 by omega)];rfl
  · rw[decide_eq_false (show¬(1:Int)<c by omega),decide_eq_true (show c<=1 by omega)]
    cases c==1<;>cases (W.tasks f).st==5<;>rfl
theorem ZB {t:bu} {s:Nat}:(bif s.blt 8 then[t.r0,t.r1,t.r2,t.r3,t.r4,t.r5,t.r6,t.r7].getD s 0 else[t.pc,t.word,t.bJ].getD (s -8) 0)= [t.r0,t.r1,t.r2,t.r3,t.r4,t.r5,t.r6,t.r7,t.pc,t.word,t.bJ].getD s 0:=by
  rcases Nat.lt_or_ge s 8 with h|h
  · rw[cD h]
    have:s=0\/s=1\/s=2\/s=3\/s=4\/s=5\/s=6\/s=7:=by omega
    rcases this with rfl|rfl|rfl|rfl|rfl|rfl|rfl|rfl<;>rfl
  · rw[eI h]
    obtain⟨k,rfl⟩: ∃k,s=8+k:=⟨s -8,by omega⟩
    rw[show 8+k -8=k by omega,Nat.add_comm];rfl
theorem ZC {W:Wd} {f:Nat} (h: ∀j,j<11->aB (fj [(W.tasks f).r0,(W.tasks f).r1,(W.tasks f).r2,(W.tasks f).r3,(W.tasks f).r4,(W.tasks f).r5,(W.tasks f).r6,(W.tasks f).r7,(W.tasks f).pc,(W.tasks f).word,(W.tasks f).bJ] j) 65535=false):kM (W.tasks f)=false/\aB (W.tasks f).pc 65535=false/\aB (W.tasks f).word 65535=false/\aB (W.tasks f).bJ 65535=false:=by
  refine⟨Nu λj hj=>?_,h 8 (by omega),h 9 (by omega),h 10 (by omega)⟩
  have:=h j (by omega)
  have jj:j=0\/j=1\/j=2\/j=3\/j=4\/j=5\/j=6\/j=7:=by omega
  rcases jj with rfl|rfl|rfl|rfl|rfl|rfl|rfl|rfl<;>exact this
theorem ZD {W:Wd} {f s:Nat} (hs:s<11) (h:aB ([(W.tasks f).r0,(W.tasks f).r1,(W.tasks f).r2,(W.tasks f).r3,(W.tasks f).r4,(W.tasks f).r5,(W.tasks f).r6,(W.tasks f).r7,(W.tasks f).pc,(W.tasks f).word,(W.tasks f).bJ].getD s 0) 65535=true):(!kM (W.tasks f)&&!lZ W (W.tasks f))=false:=by
  cases J:kM (W.tasks f)with
  |true=>rfl
  |false=>
   cases U:lZ W (W.tasks f)with
   |true=>rfl
   |false=>
    exfalso
    have hr:=Nv J
    unfold lZ at U
    simp only[Bool.or_eq_false_iff]at U
    have:s<8\/s=8\/s=9\/s=10:=by omega
    rcases this with h3|rfl|rfl|rfl
    · have h4:=hr s h3
      have jj:s=0\/s=1\/s=2\/s=3\/s=4\/s=5\/s=6\/s=7:=by omega
      rcases jj with rfl|rfl|rfl|rfl|rfl|rfl|rfl|rfl<;>exact Bool.false_ne_true (h4.symm.trans h)
    · exact Bool.false_ne_true (U.1.1.1.1.1.1.symm.trans h)
    · exact Bool.false_ne_true (U.1.1.1.1.1.2.symm.trans h)
    · exact Bool.false_ne_true (U.1.1.1.1.2.symm.trans h)
structure IH where
  (Pf:Unit)
def S_:Sy.Spec:=⟨IH,λ_=> [],λ_=> [],λ_=>True,λ_=> .ag 20 (aH (gZ bu.blank)),λ_=> [],
  λargs mem=>match args with| []=>some ⟨()⟩|_=>none⟩
def Ta:aQ:=⟨[],(S_).g,none⟩
def II:IH->Prop:=λ_=>let a0:=bu.mk 0 0 0 0 0 0 0 0 0 0 0 (-1) (-1) (-1) (-1) 0 0 (-1) 0 0;True/\tn 19 True/\aE a0 a0/\True
theorem mH:aL Tryz.prog aO 79 Ta:=aW .nil false Tryz.call79 Tryz.func79 (λ_=> []) (V:=II) (λ_=>by kernel_rfl) λ_ hp=>by
  dsimp only[II,tn,ah,ak,aE,aD,ay]
  simp only[aS,eq_self,implies_true,Bool.cond_self]
structure IJ where
  (i k:Int) (nc:Nat) (cl:Nat->Int) (nk:Nat) (ky:Nat->Int) (nu:Nat) (us:Nat->Bool)
def IK:Sy.Spec:=⟨IJ,λ⟨i,k,nc,cl,nk,ky,nu,us⟩=> [.v (.int .i64 i),.v (.int .i64 k),.pt true 1 (λ_=> .sl true 1 nc (iF cl)),.pt true 1 (λ_=> .sl true 1 nk (iF ky)),.pt true 1 (λ_=> .sl true 1 nu (λi _=> .v (.bool (us i))))],λ_=> [],λ⟨i,_,nc,_,nk,_,nu,_⟩=>0<=i/\i<nc/\i<nk/\i<nu,λ⟨i,k,_,cl,_,ky,_,us⟩=> .v (.bool (decide (1<cl i.toNat)||(k !=0&&(ky i.toNat==0||(cl i.toNat==1&&!us i.toNat))))),λ_=> [],
  λargs mem=>match args with| [a0,a1,a2,a3,a4]=>some ⟨av (a0),av (a1),bO (bx a2 0),λi=>av (bF (bx a2 0) i 0),bO (bx a3 0),λi=>av (bF (bx a3 0) i 0),bO (bx a4 0),λi=>vm (bF (bx a4 0) i 0)⟩|_=>none⟩
def Tb:aQ:=⟨[],(IK).g,none⟩
def IL:IJ->Prop:=λ⟨i,k,nc,cl,nk,ky,nu,us⟩=>let a0:=0<=i/\i<(nc:Int);let b0:=(k !=0)=true;let c0:=decide (1<cl (Int.toNat i));let d0:=c0=false;let e0:=ky (Int.toNat i)==0;let g0:=e0=false;let h0:=cl (Int.toNat i)==1;let k0:=!us (Int.toNat i);a0/\(b0->d0->0<=i/\i<(nk:Int))/\(g0->b0->d0->a0)/\(h0=true->g0->b0->d0->0<=i/\i<(nu:Int))/\cond c0 true (cond (k !=0) (cond e0 true (cond h0 k0 false)) false)=(c0||k !=0&&(e0||h0&&k0))/\True
theorem R1:aL Tryz.prog aO 76 Tb:=aW .nil false Tryz.call76 Tryz.func76 (λ_=> []) (V:=IL) (λ_=>by kernel_rfl) λ⟨i,k,nc,cl,nk,ky,nu,us⟩ hp=>by
  dsimp only[IK]at hp
  dsimp only[IL,tn,ah,ak,aE,aD,ay]
  simp only[aS,aZ,eq_self,implies_true,Bool.cond_self]
  refine⟨?_,λ_ _=>?_,λ_ _ _=>?_,λ_ _ _ _=>?_⟩<;>omega
structure JY where
  (i:Int) (W:Wd)
def JZ:Sy.Spec:=⟨JY,λ⟨i,W⟩=> [.v (.int .i64 i),.ag 20 (aH (gZ (W.tasks i.toNat))),.pt true 1 (λ_=>eD W)],λ_=> [],λ⟨i,W⟩=>bW W/\kv W/\0<=i/\i<W.ar,λ⟨i,W⟩=> .v (.bool (!cS W i.toNat)),λ_=> [],
  λargs mem=>match args with| [a0,a1,a2]=>some ⟨av (a0),d' (bx a2 0)⟩|_=>none⟩
def UC:aQ:=⟨[],(JZ).g,none⟩
def J0:JY->Prop:=λ⟨i,W⟩=>let a0:=W.ar;let b0:=Int.toNat i;let c0:=W.kinds b0 !=6;let d0:=True/\True;let e0:=True/\d0;let g0:=W.tasks b0;let h0:=g0.r0;let k0:=g0.r1;let l0:=g0.r2;let o0:=g0.r3;let q0:=g0.r4;let u0:=g0.r5;let v0:=g0.r6;let w0:=g0.r7;let x0:=g0.pc;let y0:=g0.st;let z0:=g0.prio;let a1:=g0.node;let b1:=g0.space;let c1:=g0.helper;let d1:=g0.loc;let e1:=g0.word;let g1:=g0.bJ;let J:=g0.aX;let k1:=g0.core;let l1:=g0.dH;let o1:=!cS W b0;let q1:=((11:Nat):Int);let u1:=SV.ptr 0 0 none 0 0=SV.ptr 0 0 none 0 0;let v1:=aE g0 g0;let w1:=[h0,k0,l0,o0,q0,u0,v0,w0];let x1:=[x0,e1,g1];let y1:=v1/\(8+3=8+3/\(∀z1:Nat,let a2:Int:=cond (Nat.blt z1 8) (List.getD w1 z1 0) (List.getD x1 (0+(z1-8)) 0);z1<8+3->True/\a2=a2))/\True;let b2:=(h0::k0::l0::o0::q0::u0::v0::w0::x1);let c2:=true=o1/\True;let d2:=y0=y0;let e2:=(6:Int)=6/\True;let g2:=aB y0 6;let U:=(3:Int)=3/\True;let k2:=cond g2 true (aB z0 3);let l2:=k2=false;let o2:=W.aP;let q2:Int:=(o2:Int)-1;let u2:=cond k2 true (aB k1 q2);let v2:=cond u2 true (aB l1 3);let w2:=W.aw;let x2:=W.az;let y2:=W.ba;let z2:=y2=y2/\(∀a3:Nat,let b3:=W.ao a3;a3<y2->True/\b3=b3/\(∀c3:Nat,c3<b3->True/\W.lines a3 c3=W.lines a3 c3));let d3:=o2=o2/\(∀e3:Nat,e3<o2->True/\W.aF e3=W.aF e3);let g3:=W.aT;let h3:=g3=g3/\(∀k3:Nat,let l3:=W.aJ k3;k3<g3->True/\l3=l3/\(∀o3:Nat,o3<l3->True/\W.ready k3 o3=W.ready k3 o3));
    let q3:=((((((((((True/\W.aq=W.aq/\(∀u3:Nat,u3<W.aq->True/\W.aa u3=W.aa u3))/\a0=a0/\(∀v3:Nat,v3<a0->True/\W.kinds v3=W.kinds v3))/\w2=w2/\(∀w3:Nat,w3<w2->aD (W.af w3) (W.af w3)))/\x2=x2/\(∀x3:Nat,x3<x2->aE (W.tasks x3) (W.tasks x3)))/\z2)/\W.aN=W.aN/\(∀y3:Nat,y3<W.aN->True/\W.bits y3=W.bits y3))/\d3)/\h3)/\W.aG=W.aG/\(∀z3:Nat,let a4:=W.aA z3;z3<W.aG->True/\a4=a4/\(∀b4:Nat,b4<a4->ay (W.aj z3 b4) (W.aj z3 b4))))/\W.aI=W.aI/\(∀c4:Nat,c4<W.aI->True/\W.aM c4=W.aM c4))/\W.time=W.time;let d4:=cond v2 true (!okF W a1 5);let e4:=cond d4 true (!okF W b1 4);let g4:=(7:Int)=7/\True;let h4:=True/\((7:Int)=(-1)->False);let k4:=cond e4 true (!okF W c1 7);let l4:=cond k4 true (!okF W J 6);let o4:=decide (0<=J);let q4:=(x2:Int);let u4:=y0==4;let v4:=cond o4 (cond ((W.tasks (Int.toNat J)).st !=5) true u4) false;let w4:=(b0:Int);let x4:=v1/\True;let y4:=y0==5;let z4:=i=i/\True;let a5:Int:=((eJ g3 W.aJ W.ready i:Nat):Int)+((eJ 1 (λb5:Nat=>o2) (λc5:Nat=>W.aF) i:Nat):Int);let d5:=y0==2;let e5:=((kN W b0:Nat):Int);let g5:=((eJ y2 W.ao W.lines i:Nat):Int)=e5;let h5:=((im W b0:Nat):Int);let k5:=a5=h5;let l5:=(0:Int)=0;let o5:=y0==3;let q5:=y0==6;let u5:=d5||o5||u4||q5;let v5:=decide (d1<0);let w5:=v5=false;let x5:=d1=d1;let y5:=cond v5 true (!okF W d1 8);let z5:=y5=false;let a6:=0<=d1/\d1<(y2:Int);let b6:=Int.toNat d1;let c6:=W.ao b6;let d6:=W.lines b6;
    let e6:=((c6=c6/\(∀g6:Nat,g6<c6->True/\d6 g6=d6 g6))/\z4)/\True/\Br.match_1 (λh6:xq=>Prop) (xq.mk c6 d6 i) (λk6:Nat=>λl6:∀o6:Nat,Int=>λq6:Int=>k6<=100000);let u6:=!fF c6 d6 i;let v6:=cond y5 true u6;let w6:=d1 !=(-1);let x6:=h5 !=0;let y6:=cond (cond (cond ((1:Int)==0) w6 false) true (e5 !=1)) true x6=o1/\True;let z6:=cond v5 true (!okF W d1 7);let a7:=z6=false;let b7:=cond z6 true u6;let c7:=y0==1;let d7:=cond (cond ((0:Int)==0) w6 false) true (e5 !=0);True/\(0<=i/\i<(a0:Int))/\(c0=true->True/\e0/\(!(h0==0&&(k0==0&&(l0==0&&(o0==0&&(q0==0&&(u0==0&&(v0==0&&(w0==0&&true)))))))&&(x0==0&&(y0==0&&(z0==0&&(a1==(-1)&&(b1==(-1)&&(c1==(-1)&&(d1==(-1)&&(e1==0&&(g1==0&&(J==(-1)&&(k1==0&&(l1==0&&true))))))))))))))=o1/\True)/\(c0=false->tn 10 (((8+3)*8<=140737488355328/\(∀e7:Nat,true=true))/\(q1<=9223372036854775807->u1/\(0=0/\11=11)/\0=((0:Nat):Int)/\y1/\(0<=11/\(∀g7:Nat,g7<0->aB (List.getD b2 g7 0) 65535=false))/\(∀h7:Nat,let k7:=(h7:Int);let l7:=decide (k7<q1);let o7:=0+Int.toNat k7;let q7:Int:=cond (Nat.blt o7 8) (List.getD w1 o7 0) (List.getD x1 (0+(o7-8)) 0);let u7:=aB q7 65535;let v7:Int:=k7+1;h7<=11/\(∀w7:Nat,w7<h7->aB (List.getD b2 w7 0) 65535=false)->(l7=true->(0<=k7/\k7<q1)/\((q7=q7/\(65535:Int)=65535/\True)/\d0)/\(u7=true->c2)/\(u7=false->ah v7=v7/\(∃x7:Nat,u1/\(0=0/\11=11)/\v7=(x7:Int)/\y1/\(x7<=11/\(∀y7:Nat,y7<x7->aB (List.getD b2 y7 0) 65535=false))/\11-x7<11-h7)))/\(l7=false->tn 2 (((d2/\e2)/\d0)/\tn 3 ((g2=false->(z0=z0/\U)/\d0)/\tn 10 ((l2->ah q2=q2)/\(l2->(k1=k1/\q2=q2/\True)/\d0)/\
    tn 4 ((u2=false->(l1=l1/\U)/\d0)/\tn 5 ((v2=false->(q3/\a1=a1/\(5:Int)=5/\True)/\True/\((5:Int)=(-1)->False))/\tn 6 ((d4=false->(q3/\b1=b1/\(4:Int)=4/\True)/\True/\((4:Int)=(-1)->False))/\tn 6 ((e4=false->(q3/\c1=c1/\g4)/\h4)/\tn 6 ((k4=false->(q3/\J=J/\e2)/\True/\((6:Int)=(-1)->False))/\(l4=true->c2)/\(l4=false->tn 11 ((o4=true->0<=J/\J<q4)/\(v4=true->c2)/\(v4=false->q4<=9223372036854775807->u1/\0=((0:Nat):Int)/\0=((bL 0 (λz7:Nat=>(W.tasks z7).aX==w4):Nat):Int)/\x4/\0<=x2/\(∀a8:Nat,let b8:=(a8:Int);let c8:=decide (b8<q4);let d8:=(W.tasks (Int.toNat b8)).aX==i;let e8:=((bL a8 (λg8:Nat=>(W.tasks g8).aX==w4):Nat):Int);let h8:Int:=e8+1;let k8:Int:=b8+1;let l8:=ah k8=k8;let o8:=cond (decide (1<e8)) true ((e8==1) !=y4);a8<=x2->(c8=true->(0<=b8/\b8<q4)/\True/\tn 17 e0/\(d8=true->ah h8=h8/\l8/\(∃q8:Nat,u1/\k8=(q8:Int)/\h8=((bL q8 (λr8:Nat=>(W.tasks r8).aX==w4):Nat):Int)/\x4/\q8<=x2/\x2-q8<x2-a8))/\(d8=false->l8/\(∃u8:Nat,u1/\k8=(u8:Int)/\e8=((bL u8 (λv8:Nat=>(W.tasks v8).aX==w4):Nat):Int)/\x4/\u8<=x2/\x2-u8<x2-a8)))/\(c8=false->(o8=true->c2)/\(o8=false->tn 6 (((z2/\z4)/\True/\y2<=1000/\(∀w8:Nat,w8<y2->W.ao w8<=1000))/\tn 6 (((h3/\z4)/\True/\g3<=1000/\(∀x8:Nat,x8<g3->W.aJ x8<=1000))/\tn 7 ((((1=1/\(∀y8:Nat,y8<1->True/\d3))/\z4)/\True/\1<=1000/\(∀z8:Nat,z8<1->o2<=1000))/\ah a5=a5/\True/\((d5=true->u1/\g5/\k5/\l5/\l5/\d2/\d5=d5/\x4/\d5=u5)/\(d5=false->(o5=true->u1/\g5/\k5/\l5/\l5/\d2/\o5=o5/\x4/\o5=u5)/\(o5=false->(u4=true->u1/\g5/\k5/\l5/\l5/\d2/\u4=u4/\x4/\u4=u5)/\(u4=false->u1/\g5/\k5/\l5/\l5/\d2/\q5=q5/\x4/\q5=u5))))/\(∀a9:QM,a9.b=u5->(a9.b=true->(q5=true->tn 8 ((w5->(q3/\x5/\(8:Int)=8/\
    True)/\True/\((8:Int)=(-1)->False))/\tn 10 ((z5->a6)/\tn 2 ((z5->e6)/\(v6=true->c2)/\(v6=false->y6)))))/\(q5=false->tn 8 ((w5->(q3/\x5/\g4)/\h4)/\tn 10 ((a7->a6)/\tn 2 ((a7->e6)/\(b7=true->c2)/\(b7=false->y6))))))/\(a9.b=false->(c7=true->cond d7 true (h5 !=1)=o1/\True)/\(c7=false->cond d7 true x6=o1/\True)))))))))))))))))))))))))
set_option maxHeartbeats 1000000 in
theorem S7:aL Tryz.prog aO 78 UC:=aW (.cons sI (.cons mH (.cons Sz (.cons QZ (.cons Xw .nil))))) false Tryz.call78 Tryz.func78 (λ⟨i,W⟩=> [.inv (Zz W i.toNat),.inv (ZA W i.toNat),.cut 29 (Ww W i.toNat)]) (V:=J0) (λ_=>by kernel_rfl) λ⟨i,W⟩ hp=>by
  dsimp only[JZ]at hp
  dsimp only[J0,tn,ah,ak,aE,aD,ay]
  obtain⟨hz,hm,f0,f1⟩:=hp
  obtain⟨F,rfl⟩: ∃F:Nat,i=F:=⟨i.toNat,by omega⟩
  simp only[aS,aZ,eq_self,implies_true,Bool.cond_self]
  have mF:=hz.tasks
  have m_:=hz.k1
  have rO:=hz.lines
  have GG:=hz.c1
  have hz5:=hz.c0
  have hz6:=hz.ready
  simp only[ZB]
  refine⟨by omega,λh=>?_,λh=>⟨by decide,λ_ s hs=>⟨λJ=>?_,λJ=>?_⟩⟩⟩
  · unfold cS;rw[h];rfl
  · have core:=C1 h
    have ai:s<11:=by have:=of_decide_eq_true J;omega
    refine⟨by omega,λU=>?_,λU=>⟨by rw[IntKind.wrap_i64];omega,bZ ⟨⟨by omega,dT (p:=λj=>aB (fj [(W.tasks F).r0,(W.tasks F).r1,(W.tasks F).r2,(W.tasks F).r3,(W.tasks F).r4,(W.tasks F).r5,(W.tasks F).r6,(W.tasks F).r7,(W.tasks F).pc,(W.tasks F).word,(W.tasks F).bJ] j) 65535) hs.2 U⟩,by omega⟩⟩⟩
    rw[core,ZD ai U];rfl
  have core:=C1 h
  have hs8:s=11:=by have:=of_decide_eq_false J;omega
  obtain⟨gq,hpc,hwd,hbg⟩:=ZC (W:=W) (f:=F) λj hj=>hs.2 j (by omega)
  rw[gq]at core
  have eN:lZ W (W.tasks F)=(aB (W.tasks F).st 6||aB (W.tasks F).prio 3||aB (W.tasks F).core (W.aP -1)||aB (W.tasks F).dH 3):=by unfold lZ;rw[hpc,hwd,hbg];rfl
  have eA:(aB (W.tasks F).st 6||aB (W.tasks F).prio 3||aB (W.tasks F).core (W.aP -1)||aB (W.tasks F).dH 3||!okF W (W.tasks F).node 5||!okF W (W.tasks F).space 4||!okF W (W.tasks F).helper 7||!okF W (W.tasks F).aX 6)=!(!lZ W (W.tasks F)&&jO W (W.tasks F)):=by
    rw[eN];unfold jO;simp only[Bool.not_and,Bool.not_or,Bool.not_not,Bool.or_assoc]
  rw[eA]
  refine⟨λ_=>by rw[IntKind.wrap_i64];omega,λ_=>by decide,λ_=>by decide,λ_=>by decide,λ_=>by decide,λU=>?_,λU=>?_⟩
  · rw[core]
    revert U;cases lZ W (W.tasks F)<;>cases jO W (W.tasks F)<;>simp
  have h3:=dy U
  rw[Bool.and_eq_true]at h3
  obtain⟨aao,n_⟩:=h3
  rw[aao,n_]at core
  have bC:okF W (W.tasks F).aX 6=true:=by unfold jO at n_;simp only[Bool.and_eq_true]at n_;exact n_.2
  have hO:(W.tasks F).aX= -1\/(0<=(W.tasks F).aX/\(W.tasks F).aX<W.ar):=by
    rcases Decidable.em ((W.tasks F).aX= -1)with h|h
    · exact .inl h
    · exact .inr (Nw (by decide) bC (by simpa using h))
  have eB:(decide (0<=(W.tasks F).aX)&&((W.tasks (W.tasks F).aX.toNat).st !=5||(W.tasks F).st==4))=!mR W (W.tasks F):=by
    unfold mR
    rw[show decide (0<=(W.tasks F).aX)=!((W.tasks F).aX== -1) by
     rcases hO with h|h
     · rw[h];rfl
     · rw[decide_eq_true h.1,show((W.tasks F).aX== -1)=false from beq_eq_false_iff_ne.2 (by omega)];rfl]
    simp only[bne,Bool.not_and,Bool.not_or,Bool.not_not]
  rw[eB]
  refine⟨λh4=>?_,λh4=>?_,λh4 _=>?_⟩
  · have:=of_decide_eq_true h4;omega
  · rw[core,gM h4];rfl
  rw[dy h4]at core
  refine⟨rfl,λs hs=>⟨λh5=>?_,λh5=>?_⟩⟩
  · have ai:=aY h5
    have hb:=jt (λk=>(W.tasks k).aX==F) s
    refine⟨by omega,λh6=>?_,λh6=>?_⟩
    · exact⟨by rw[IntKind.wrap_i64];omega,by rw[IntKind.wrap_i64];omega,bZ ⟨by simp[bL,h6],by omega,by omega⟩⟩
    · exact⟨by rw[IntKind.wrap_i64];omega,bZ ⟨by simp[bL,h6],by omega,by omega⟩⟩
  have bo:=bD h5
  obtain rfl:s=W.az:=by omega
  rw[show(decide (1<((bL W.az λk=>(W.tasks k).aX==F:Nat):Int))||((((bL W.az λk=>(W.tasks k).aX==F:Nat):Int)==1) !=((W.tasks F).st==5)))=!lp W F from Wx (W:=W) (f:=F) rfl]
  refine⟨λh6=>?_,λh6=>?_⟩
  · rw[core,gM h6];rfl
  rw[dy h6]at core
  have core:cS W F=km W F:=by rw[core];rfl
  rw[PV]
  have b1:eJ W.aT W.aJ W.ready F<=W.aT*50:=uX λi hi=>Nat.le_trans (jt _ _) (hm.2.1 i hi)
  have b2:n9 W.aP W.aF F<=W.aP:=jt _ _
  have et:((eJ W.aT W.aJ W.ready F:Nat):Int)+((n9 W.aP W.aF F:Nat):Int)=(im W F:Nat):=by unfold im;omega
  rw[et]
  refine⟨⟨by omega,λi hi=>Nat.le_trans (hm.1 i hi) (by omega)⟩,⟨by omega,λi hi=>Nat.le_trans (hm.2.1 i hi) (by omega)⟩,⟨by omega,λ_ _=>by omega⟩,by rw[IntKind.wrap_i64];unfold im;omega,?_,?_⟩
  · refine⟨λh=>⟨rfl,rfl,by rw[h];rfl⟩,λh=>⟨λh7=>⟨rfl,rfl,by rw[h,h7];rfl⟩,λh7=>⟨λh8=>⟨rfl,rfl,by rw[h,h7,h8];rfl⟩,λh8=>⟨rfl,rfl,by rw[h,h7,h8];rfl⟩⟩⟩⟩
  rintro ⟨b⟩ hb
  have hb:b=((W.tasks F).st==2||(W.tasks F).st==3||(W.tasks F).st==4||(W.tasks F).st==6):=hb
  simp only[Yp,Yq]
  have eV: ∀k:Int,k≠ -1->km W F=sM W F k->(decide ((W.tasks F).loc<0)=false->k≠ -1)/\((decide ((W.tasks F).loc<0)||!okF W (W.tasks F).loc k)=false->0<=(W.tasks F).loc/\(W.tasks F).loc<W.ba)/\((decide ((W.tasks F).loc<0)||!okF W (W.tasks F).loc k)=false->W.ao (W.tasks F).loc.toNat<=100000)/\
   ((decide ((W.tasks F).loc<0)||!okF W (W.tasks F).loc k||!fF (W.ao (W.tasks F).loc.toNat) (W.lines (W.tasks F).loc.toNat) F)=true->true=!cS W F)/\((decide ((W.tasks F).loc<0)||!okF W (W.tasks F).loc k||!fF (W.ao (W.tasks F).loc.toNat) (W.lines (W.tasks F).loc.toNat) F)=false->((1:Int)==0&&(W.tasks F).loc != -1||!(kN W F==1)||!(im W F==0))=!cS W F):=by
    intro k hk he
    rw[aan hk,core,he]
    have bT:(!(cm W (W.tasks F).loc==k))=false->0<=(W.tasks F).loc/\(W.tasks F).loc<W.ba:=λh=>by
      rw[rO];exact ll (by rw[eq_of_beq (dy h)];exact hk)
    refine⟨λ_=>hk,bT,λh=>?_,λh=>?_,λh=>?_⟩
    · have:=bT h;have:=hm.1 (W.tasks F).loc.toNat (by omega);omega
    · unfold sM;revert h
      cases cm W (W.tasks F).loc==k<;>cases fF (W.ao (W.tasks F).loc.toNat) (W.lines (W.tasks F).loc.toNat) F<;>cases kN W F==1<;>cases im W F==0<;>simp
    · unfold sM;revert h
      cases cm W (W.tasks F).loc==k<;>cases fF (W.ao (W.tasks F).loc.toNat) (W.lines (W.tasks F).loc.toNat) F<;>cases kN W F==1<;>cases im W F==0<;>simp
  refine⟨λh7=>⟨λh8=>eV 8 (by decide) ?_,λh8=>eV 7 (by decide) ?_⟩,λh7=>?_⟩
  · have e6:=eq_of_beq h8
    simp only[km];rw[e6];rfl
  · have h7:b=true:=h7
    rw[h7,h8,Bool.or_false]at hb
    simp only[km];rw[<-hb];rfl
  · have h7:b=false:=h7
    have hb:=hb.symm
    rw[h7]at hb
    rw[Bool.or_eq_false_iff]at hb
    rw[core]
    simp only[km];rw[hb.1,hb.2]
    refine⟨λh8=>?_,λh8=>?_⟩
    · rw[h8];simp only[bne]
      cases kN W F==0<;>cases im W F==1<;>cases (W.tasks F).loc== -1<;>rfl
    · rw[h8];simp only[bne]
      cases kN W F==0<;>cases im W F==0<;>cases (W.tasks F).loc== -1<;>rfl
end Go.Proofs.YtmieeldmfehpoaaGreatDoor
set_option linter.unusedVariables false
set_option linter.unusedSimpArgs false
set_option maxRecDepth 100000
namespace Go.Proofs.YtmieeldmfehpoaaGreatDoor
open Go.RowKit Go.Sy
def bE (n:Nat) (p:Nat->Bool) (e:Int):Int:=(bB n p e (0,-1)).1
def bA (n:Nat) (p:Nat->Bool) (e:Int):Int:=(bB n p e (0,-1)).2
def l_ (n:Nat) (p:Nat->Bool):bS where
  σ:=Nat
  rt:= []
  sh i:= [(11,.v (.int .i64 i))]
  mh _:= []
  inv i:=i<=n/\ ∀j,j<i->p j=false
  μ i:=n -i
  init:=0
structure LA where
  (n:Nat) (l:Nat->Int) (e:Int)
def LB:Sy.Spec:=⟨LA,λ⟨n,l,e⟩=> [.sl true 1 n (λi_ _=> .v (.int .i64 (l i_))),.v (.int .i64 e),.fn 69 0 (λ_=> .aK)],λ_=> [],λ⟨n,_,e⟩=>e≠0/\n<=100000,λ⟨n,l,e⟩=> .er 35 79 (bE n (λi=>aB (l i) 65535) e) (bA n (λi=>aB (l i) 65535) e),λ_=> [],
  λargs mem=>match args with| [a0,a1,a2]=>(match fN 69 a2 with|true=>some ⟨bO a0,λi=>av (bF a0 i 0),av (a1)⟩|false=>none)|_=>none⟩
def Wt:aQ:=⟨[],(LB).g,none⟩
def LC:LA->Prop:=λ⟨n,l,e⟩=>let a0:=(n:Int);let b0:=bE n (λc0:Nat=>aB (l c0) 65535) e;let d0:=bA n (λe0:Nat=>aB (l e0) 65535) e;a0<=9223372036854775807->0=((0:Nat):Int)/\True/\(0<=n/\(∀g0:Nat,g0<0->aB (l g0) 65535=false))/\(∀h0:Nat,let k0:=(h0:Int);let l0:=decide (k0<a0);let o0:=k0=k0;let q0:Int:=l (Int.toNat k0);let r0:=aB q0 65535;let u0:Int:=k0+1;h0<=n/\(∀v0:Nat,v0<h0->aB (l v0) 65535=false)->(l0=true->(0<=k0/\k0<a0)/\((o0/\q0=q0/\True)/\True/\True)/\(r0=true->((o0/\e=e/\True)/\True/\0<=k0/\e≠0)/\(e=b0/\k0=d0)/\True)/\(r0=false->ah u0=u0/\(∃w0:Nat,u0=(w0:Int)/\True/\(w0<=n/\(∀x0:Nat,x0<w0->aB (l x0) 65535=false))/\n-w0<n-h0)))/\(l0=false->(b0=0/\d0=(-1))/\True))
set_option maxHeartbeats 1000000 in
theorem Ut:aL Tryz.prog aO 68 Wt:=aW (.cons lY (.cons SB .nil)) false Tryz.call68 Tryz.func68 (λ⟨n,l,_⟩=> [.inv (l_ n (λi=>aB (l i) 65535))]) (V:=LC) (λ_=>by kernel_rfl) λ⟨n,l,e⟩ hp=>by
  dsimp only[LB]at hp
  dsimp only[LC,tn,ah,ak,aE,aD,ay]
  obtain⟨he,hp⟩:=hp
  simp only[aS,aZ,eq_self,implies_true,Bool.cond_self]
  unfold bE bA
  refineλ_ s hs=>⟨λh=>?_,λh=>?_⟩
  · have ai:=aY h
    refine⟨by omega,λJ=>?_,λJ=>⟨by rw[IntKind.wrap_i64];omega,bZ ⟨⟨by omega,dT (p:=λi=>aB (l i) 65535) hs.2 J⟩,by omega⟩⟩⟩
    rw[fy (p:=λi=>aB (l i) 65535) hs.2 J ai]
    first|exact⟨he,rfl,rfl⟩|exact⟨⟨by omega,he⟩,rfl,rfl⟩
  · have bo:=bD h
    rw[dD (p:=λi=>aB (l i) 65535) λj hj=>hs.2 j (by omega)]
    exact⟨rfl,rfl⟩
structure LD where
  (n:Nat) (l:Nat->Int) (e:Int)
def LF:Sy.Spec:=⟨LD,λ⟨n,l,e⟩=> [.sl true 1 n (λi_ _=> .v (.int .i64 (l i_))),.v (.int .i64 e),.fn 70 0 (λ_=> .aK)],λ_=> [],λ⟨n,_,e⟩=>e≠0/\n<=100000,λ⟨n,l,e⟩=> .er 35 79 (bE n (λi=>aB (l i) 8||l i==1) e) (bA n (λi=>aB (l i) 8||l i==1) e),λ_=> [],
  λargs mem=>match args with| [a0,a1,a2]=>(match fN 70 a2 with|true=>some ⟨bO a0,λi=>av (bF a0 i 0),av (a1)⟩|false=>none)|_=>none⟩
def Wu:aQ:=⟨[],(LF).g,none⟩
def LG:LD->Prop:=λ⟨n,l,e⟩=>let a0:=(n:Int);let b0:=bE n (λc0:Nat=>aB (l c0) 8||l c0==1) e;let d0:=bA n (λe0:Nat=>aB (l e0) 8||l e0==1) e;a0<=9223372036854775807->0=((0:Nat):Int)/\True/\(0<=n/\(∀g0:Nat,g0<0->(aB (l g0) 8||l g0==1)=false))/\(∀h0:Nat,let k0:=(h0:Int);let l0:=decide (k0<a0);let o0:=k0=k0;let q0:Int:=l (Int.toNat k0);let r0:=aB q0 8||q0==1;let u0:Int:=k0+1;h0<=n/\(∀v0:Nat,v0<h0->(aB (l v0) 8||l v0==1)=false)->(l0=true->(0<=k0/\k0<a0)/\((o0/\q0=q0/\True)/\True/\True)/\(r0=true->((o0/\e=e/\True)/\True/\0<=k0/\e≠0)/\(e=b0/\k0=d0)/\True)/\(r0=false->ah u0=u0/\(∃w0:Nat,u0=(w0:Int)/\True/\(w0<=n/\(∀x0:Nat,x0<w0->(aB (l x0) 8||l x0==1)=false))/\n-w0<n-h0)))/\(l0=false->(b0=0/\d0=(-1))/\True))
set_option maxHeartbeats 1000000 in
theorem Uu:aL Tryz.prog aO 68 Wu:=aW (.cons lY (.cons SC .nil)) false Tryz.call68 Tryz.func68 (λ⟨n,l,_⟩=> [.inv (l_ n (λi=>aB (l i) 8||l i==1))]) (V:=LG) (λ_=>by kernel_rfl) λ⟨n,l,e⟩ hp=>by
  dsimp only[LF]at hp
  dsimp only[LG,tn,ah,ak,aE,aD,ay]
  obtain⟨he,hp⟩:=hp
  simp only[aS,aZ,eq_self,implies_true,Bool.cond_self]
  unfold bE bA
  refineλ_ s hs=>⟨λh=>?_,λh=>?_⟩
  · have ai:=aY h
    refine⟨by omega,λJ=>?_,λJ=>⟨by rw[IntKind.wrap_i64];omega,bZ ⟨⟨by omega,dT (p:=λi=>aB (l i) 8||l i==1) hs.2 J⟩,by omega⟩⟩⟩
    rw[fy (p:=λi=>aB (l i) 8||l i==1) hs.2 J ai]
    first|exact⟨he,rfl,rfl⟩|exact⟨⟨by omega,he⟩,rfl,rfl⟩
  · have bo:=bD h
    rw[dD (p:=λi=>aB (l i) 8||l i==1) λj hj=>hs.2 j (by omega)]
    exact⟨rfl,rfl⟩
structure LH where
  (n:Nat) (l:Nat->Int) (e:Int)
def LI:Sy.Spec:=⟨LH,λ⟨n,l,e⟩=> [.sl true 1 n (λi_ _=> .v (.int .i64 (l i_))),.v (.int .i64 e),.fn 71 0 (λ_=> .aK)],λ_=> [],λ⟨n,_,e⟩=>e≠0/\n<=100000,λ⟨n,l,e⟩=> .er 35 79 (bE n (λi=>aB (l i) 3) e) (bA n (λi=>aB (l i) 3) e),λ_=> [],
  λargs mem=>match args with| [a0,a1,a2]=>(match fN 71 a2 with|true=>some ⟨bO a0,λi=>av (bF a0 i 0),av (a1)⟩|false=>none)|_=>none⟩
def Wv:aQ:=⟨[],(LI).g,none⟩
def LJ:LH->Prop:=λ⟨n,l,e⟩=>let a0:=(n:Int);let b0:=bE n (λc0:Nat=>aB (l c0) 3) e;let d0:=bA n (λe0:Nat=>aB (l e0) 3) e;a0<=9223372036854775807->0=((0:Nat):Int)/\True/\(0<=n/\(∀g0:Nat,g0<0->aB (l g0) 3=false))/\(∀h0:Nat,let k0:=(h0:Int);let l0:=decide (k0<a0);let o0:=k0=k0;let q0:Int:=l (Int.toNat k0);let r0:=aB q0 3;let u0:Int:=k0+1;h0<=n/\(∀v0:Nat,v0<h0->aB (l v0) 3=false)->(l0=true->(0<=k0/\k0<a0)/\((o0/\q0=q0/\True)/\True/\True)/\(r0=true->((o0/\e=e/\True)/\True/\0<=k0/\e≠0)/\(e=b0/\k0=d0)/\True)/\(r0=false->ah u0=u0/\(∃w0:Nat,u0=(w0:Int)/\True/\(w0<=n/\(∀x0:Nat,x0<w0->aB (l x0) 3=false))/\n-w0<n-h0)))/\(l0=false->(b0=0/\d0=(-1))/\True))
set_option maxHeartbeats 1000000 in
theorem Uv:aL Tryz.prog aO 68 Wv:=aW (.cons lY (.cons SD .nil)) false Tryz.call68 Tryz.func68 (λ⟨n,l,_⟩=> [.inv (l_ n (λi=>aB (l i) 3))]) (V:=LJ) (λ_=>by kernel_rfl) λ⟨n,l,e⟩ hp=>by
  dsimp only[LI]at hp
  dsimp only[LJ,tn,ah,ak,aE,aD,ay]
  obtain⟨he,hp⟩:=hp
  simp only[aS,aZ,eq_self,implies_true,Bool.cond_self]
  unfold bE bA
  refineλ_ s hs=>⟨λh=>?_,λh=>?_⟩
  · have ai:=aY h
    refine⟨by omega,λJ=>?_,λJ=>⟨by rw[IntKind.wrap_i64];omega,bZ ⟨⟨by omega,dT (p:=λi=>aB (l i) 3) hs.2 J⟩,by omega⟩⟩⟩
    rw[fy (p:=λi=>aB (l i) 3) hs.2 J ai]
    first|exact⟨he,rfl,rfl⟩|exact⟨⟨by omega,he⟩,rfl,rfl⟩
  · have bo:=bD h
    rw[dD (p:=λi=>aB (l i) 3) λj hj=>hs.2 j (by omega)]
    exact⟨rfl,rfl⟩
structure N4 where
  (n:Nat) (l:Nat->Int) (e:Int) (nc:Nat) (cl:Nat->Int) (nk:Nat) (ky:Nat->Int) (nu:Nat) (us:Nat->Bool)
def N5:Sy.Spec:=⟨N4,λ⟨n,l,e,nc,cl,nk,ky,nu,us⟩=> [.sl true 1 n (λi_ _=> .v (.int .i64 (l i_))),.v (.int .i64 e),.fn 76 3 (aH [.pt true 1 (λ_=> .sl true 1 nc (iF cl)),.pt true 1 (λ_=> .sl true 1 nk (iF ky)),.pt true 1 (λ_=> .sl true 1 nu (λi _=> .v (.bool (us i))))])],λ_=> [],λ⟨n,_,e,nc,_,nk,_,nu,_⟩=>e≠0/\n<=100000/\n<=nc/\n<=nk/\n<=nu,λ⟨n,l,e,_,cl,_,ky,_,us⟩=> .er 35 79 (bE n (λi=>decide (1<cl i)||(l i !=0&&(ky i==0||(cl i==1&&!us i)))) e) (bA n (λi=>decide (1<cl i)||(l i !=0&&(ky i==0||(cl i==1&&!us i)))) e),λ_=> [],
  λargs mem=>match args with| [a0,a1,a2]=>(match fN 76 a2 with|true=>some ⟨bO a0,λi=>av (bF a0 i 0),av (a1),bO (bx (dc a2 0) 0),λi=>av (bF (bx (dc a2 0) 0) i 0),bO (bx (dc a2 1) 0),λi=>av (bF (bx (dc a2 1) 0) i 0),bO (bx (dc a2 2) 0),λi=>vm (bF (bx (dc a2 2) 0) i 0)⟩|false=>none)|_=>none⟩
def Yh:aQ:=⟨[],(N5).g,none⟩
def N6:N4->Prop:=λ⟨n,l,e,nc,cl,nk,ky,nu,us⟩=>let a0:=(n:Int);let b0:=bE n (λc0:Nat=>decide (1<cl c0)||l c0 !=0&&(ky c0==0||cl c0==1&&!us c0)) e;let d0:=bA n (λe0:Nat=>decide (1<cl e0)||l e0 !=0&&(ky e0==0||cl e0==1&&!us e0)) e;a0<=9223372036854775807->0=((0:Nat):Int)/\True/\(0<=n/\(∀g0:Nat,g0<0->(decide (1<cl g0)||l g0 !=0&&(ky g0==0||cl g0==1&&!us g0))=false))/\(∀h0:Nat,let k0:=(h0:Int);let l0:=decide (k0<a0);let o0:=0<=k0;let q0:=k0=k0;let r0:=Int.toNat k0;let u0:Int:=l r0;let v0:Int:=cl r0;let w0:=decide (1<v0)||u0 !=0&&(ky r0==0||v0==1&&!us r0);let x0:Int:=k0+1;h0<=n/\(∀y0:Nat,y0<h0->(decide (1<cl y0)||l y0 !=0&&(ky y0==0||cl y0==1&&!us y0))=false)->(l0=true->(o0/\k0<a0)/\((q0/\u0=u0/\(True/\nc=nc/\(∀z0:Nat,z0<nc->True/\cl z0=cl z0))/\(True/\nk=nk/\(∀a1:Nat,a1<nk->True/\ky a1=ky a1))/\(True/\nu=nu/\(∀b1:Nat,b1<nu->True/\us b1=us b1))/\True)/\True/\o0/\k0<(nc:Int)/\k0<(nk:Int)/\k0<(nu:Int))/\(w0=true->((q0/\e=e/\True)/\True/\o0/\e≠0)/\(e=b0/\k0=d0)/\True)/\(w0=false->ah x0=x0/\(∃c1:Nat,x0=(c1:Int)/\True/\(c1<=n/\(∀d1:Nat,d1<c1->(decide (1<cl d1)||l d1 !=0&&(ky d1==0||cl d1==1&&!us d1))=false))/\n-c1<n-h0)))/\(l0=false->(b0=0/\d0=(-1))/\True))
set_option maxHeartbeats 1000000 in
theorem Wk:aL Tryz.prog aO 68 Yh:=aW (.cons lY (.cons R1 .nil)) false Tryz.call68 Tryz.func68 (λ⟨n,l,_,_,cl,_,ky,_,us⟩=> [.inv (l_ n (λi=>decide (1<cl i)||(l i !=0&&(ky i==0||(cl i==1&&!us i)))))]) (V:=N6) (λ_=>by kernel_rfl) λ⟨n,l,e,nc,cl,nk,ky,nu,us⟩ hp=>by
  dsimp only[N5]at hp
  dsimp only[N6,tn,ah,ak,aE,aD,ay]
  obtain⟨he,hp⟩:=hp
  simp only[aS,aZ,eq_self,implies_true,Bool.cond_self]
  unfold bE bA
  refineλ_ s hs=>⟨λh=>?_,λh=>?_⟩
  · have ai:=aY h
    refine⟨by omega,⟨by omega,by omega,by omega⟩,λJ=>?_,λJ=>⟨by rw[IntKind.wrap_i64];omega,bZ ⟨⟨by omega,dT (p:=λi=>decide (1<cl i)||(l i !=0&&(ky i==0||(cl i==1&&!us i)))) hs.2 J⟩,by omega⟩⟩⟩
    rw[fy (p:=λi=>decide (1<cl i)||(l i !=0&&(ky i==0||(cl i==1&&!us i)))) hs.2 J ai]
    first|exact⟨he,rfl,rfl⟩|exact⟨⟨by omega,he⟩,rfl,rfl⟩
  · have bo:=bD h
    rw[dD (p:=λi=>decide (1<cl i)||(l i !=0&&(ky i==0||(cl i==1&&!us i)))) λj hj=>hs.2 j (by omega)]
    exact⟨rfl,rfl⟩
structure N7 where
  (e:Int) (W:Wd)
def N8:Sy.Spec:=⟨N7,λ⟨e,W⟩=> [.sl true 1 W.aP (iF W.aF),.v (.int .i64 e),.fn 86 1 (aH [.pt true 1 (λ_=> .fn 85 1 (aH [.pt true 1 (λ_=>eD W)]))])],λ_=> [],λ⟨e,W⟩=>e≠0/\bW W,λ⟨e,W⟩=> .er 35 79 (bE W.aP (λi=>!dg W i) e) (bA W.aP (λi=>!dg W i) e),λ_=> [],
  λargs mem=>match args with| [a0,a1,a2]=>(match fN 86 a2 with|true=>some ⟨av (a1),d' (bx (dc (bx (dc a2 0) 0) 0) 0)⟩|false=>none)|_=>none⟩
def Yi:aQ:=⟨[],(N8).g,none⟩
def N9:N7->Prop:=λ⟨e,W⟩=>let a0:=W.aP;let b0:=(a0:Int);let c0:=W.ar;let d0:=W.aw;let e0:=W.az;let g0:=W.ba;let h0:=W.aT;let k0:=bE a0 (λl0:Nat=>!dg W l0) e;let o0:=bA a0 (λq0:Nat=>!dg W q0) e;b0<=9223372036854775807->0=((0:Nat):Int)/\True/\(0<=a0/\(∀r0:Nat,r0<0->(!dg W r0)=false))/\(∀u0:Nat,let v0:=(u0:Int);let w0:=decide (v0<b0);let x0:=v0=v0;let y0:=W.aF (Int.toNat v0);let z0:=y0 !=(-1)&&!dB W y0 v0 (-1);let a1:Int:=v0+1;u0<=a0/\(∀b1:Nat,b1<u0->(!dg W b1)=false)->(w0=true->(0<=v0/\v0<b0)/\((x0/\y0=y0/\tn 3 (((((((((((True/\W.aq=W.aq/\(∀c1:Nat,c1<W.aq->True/\W.aa c1=W.aa c1))/\c0=c0/\(∀d1:Nat,d1<c0->True/\W.kinds d1=W.kinds d1))/\d0=d0/\(∀e1:Nat,e1<d0->aD (W.af e1) (W.af e1)))/\e0=e0/\(∀g1:Nat,g1<e0->aE (W.tasks g1) (W.tasks g1)))/\g0=g0/\(∀J:Nat,let k1:=W.ao J;J<g0->True/\k1=k1/\(∀l1:Nat,l1<k1->True/\W.lines J l1=W.lines J l1)))/\W.aN=W.aN/\(∀o1:Nat,o1<W.aN->True/\W.bits o1=W.bits o1))/\a0=a0/\(∀q1:Nat,q1<a0->True/\W.aF q1=W.aF q1))/\h0=h0/\(∀r1:Nat,let u1:=W.aJ r1;r1<h0->True/\u1=u1/\(∀v1:Nat,v1<u1->True/\W.ready r1 v1=W.ready r1 v1)))/\W.aG=W.aG/\(∀w1:Nat,let x1:=W.aA w1;w1<W.aG->True/\x1=x1/\(∀y1:Nat,y1<x1->ay (W.aj w1 y1) (W.aj w1 y1))))/\W.aI=W.aI/\(∀z1:Nat,z1<W.aI->True/\W.aM z1=W.aM z1))/\W.time=W.time)/\True)/\True/\Cn.match_1 (λa2:yj=>Prop) (yj.mk v0 y0 W) (λb2:Int=>λc2:Int=>λd2:Wd=>bW d2))/\(z0=true->((x0/\e=e/\True)/\True/\0<=v0/\e≠0)/\(e=k0/\v0=o0)/\True)/\(z0=false->ah a1=a1/\(∃e2:Nat,a1=(e2:Int)/\True/\(e2<=a0/\(∀g2:Nat,g2<e2->
    (!dg W g2)=false))/\a0-e2<a0-u0)))/\(w0=false->(k0=0/\o0=(-1))/\True))
set_option maxHeartbeats 1000000 in
theorem Wo:aL Tryz.prog aO 68 Yi:=aW (.cons lY (.cons S6 .nil)) false Tryz.call68 Tryz.func68 (λ⟨_,W⟩=> [.inv (l_ W.aP (λi=>!dg W i))]) (V:=N9) (λ_=>by kernel_rfl) λ⟨e,W⟩ hp=>by
  dsimp only[N8]at hp
  dsimp only[N9,tn,ah,ak,aE,aD,ay]
  obtain⟨he,hp⟩:=hp
  simp only[aS,aZ,eq_self,implies_true,Bool.cond_self]
  have z1:=hp.c1
  simp only[K7]
  unfold bE bA
  refineλ_ s hs=>⟨λh=>?_,λh=>?_⟩
  · have ai:=aY h
    refine⟨by omega,hp,λJ=>?_,λJ=>⟨by rw[IntKind.wrap_i64];omega,bZ ⟨⟨by omega,dT (p:=λi=>!dg W i) hs.2 J⟩,by omega⟩⟩⟩
    rw[fy (p:=λi=>!dg W i) hs.2 J ai]
    first|exact⟨he,rfl,rfl⟩|exact⟨⟨by omega,he⟩,rfl,rfl⟩
  · have bo:=bD h
    rw[dD (p:=λi=>!dg W i) λj hj=>hs.2 j (by omega)]
    exact⟨rfl,rfl⟩
structure N' where
  (e:Int) (W:Wd)
def Oa:Sy.Spec:=⟨N',λ⟨e,W⟩=> [.sl true 1 W.aq (iF W.aa),.v (.int .i64 e),.fn 90 1 (aH [.pt true 1 (λ_=>eD W)])],λ_=> [],λ⟨e,W⟩=>e≠0/\bW W/\ ∀i,i<W.aq->fp (W.aa i),λ⟨e,W⟩=> .er 35 79 (bE W.aq (λi=>!cV W i) e) (bA W.aq (λi=>!cV W i) e),λ_=> [],
  λargs mem=>match args with| [a0,a1,a2]=>(match fN 90 a2 with|true=>some ⟨av (a1),d' (bx (dc a2 0) 0)⟩|false=>none)|_=>none⟩
def Yj:aQ:=⟨[],(Oa).g,none⟩
def Ob:N'->Prop:=λ⟨e,W⟩=>let a0:=W.aq;let b0:=(a0:Int);let c0:=W.ar;let d0:=W.aw;let e0:=W.az;let g0:=W.ba;let h0:=W.aP;let k0:=W.aT;let l0:=bE a0 (λo0:Nat=>!cV W o0) e;let q0:=bA a0 (λr0:Nat=>!cV W r0) e;b0<=9223372036854775807->0=((0:Nat):Int)/\True/\(0<=a0/\(∀u0:Nat,u0<0->(!cV W u0)=false))/\(∀v0:Nat,let w0:=(v0:Int);let x0:=decide (w0<b0);let y0:=0<=w0;let z0:=w0=w0;let a1:=W.aa (Int.toNat w0);let b1:=!cV W (Int.toNat w0);let c1:Int:=w0+1;v0<=a0/\(∀d1:Nat,d1<v0->(!cV W d1)=false)->(x0=true->(y0/\w0<b0)/\((z0/\a1=a1/\(True/\((((((((((True/\a0=a0/\(∀e1:Nat,e1<a0->True/\W.aa e1=W.aa e1))/\c0=c0/\(∀g1:Nat,g1<c0->True/\W.kinds g1=W.kinds g1))/\d0=d0/\(∀J:Nat,J<d0->aD (W.af J) (W.af J)))/\e0=e0/\(∀k1:Nat,k1<e0->aE (W.tasks k1) (W.tasks k1)))/\g0=g0/\(∀l1:Nat,let o1:=W.ao l1;l1<g0->True/\o1=o1/\(∀q1:Nat,q1<o1->True/\W.lines l1 q1=W.lines l1 q1)))/\W.aN=W.aN/\(∀r1:Nat,r1<W.aN->True/\W.bits r1=W.bits r1))/\h0=h0/\(∀u1:Nat,u1<h0->True/\W.aF u1=W.aF u1))/\k0=k0/\(∀v1:Nat,let w1:=W.aJ v1;v1<k0->True/\w1=w1/\(∀x1:Nat,x1<w1->True/\W.ready v1 x1=W.ready v1 x1)))/\W.aG=W.aG/\(∀y1:Nat,let z1:=W.aA y1;y1<W.aG->True/\z1=z1/\(∀a2:Nat,a2<z1->ay (W.aj y1 a2) (W.aj y1 a2))))/\W.aI=W.aI/\(∀b2:Nat,b2<W.aI->True/\W.aM b2=W.aM b2))/\W.time=W.time)/\True)/\True/\bW W/\y0/\w0<b0/\0<=a1/\a1<=65535)/\(b1=true->((z0/\e=e/\True)/\True/\y0/\e≠0)/\(e=l0/\w0=q0)/\True)/\(b1=false->ah c1=c1/\(∃c2:Nat,c1=(c2:Int)/\True/\(c2<=a0/\(∀d2:Nat,d2<c2->(!cV W d2)=false))/\a0-c2<a0-v0)))/\(x0=false->(l0=0/\q0=(-1))/\True))
set_option maxHeartbeats 1000000 in
theorem Wq:aL Tryz.prog aO 68 Yj:=aW (.cons lY (.cons Uz .nil)) false Tryz.call68 Tryz.func68 (λ⟨_,W⟩=> [.inv (l_ W.aq (λi=>!cV W i))]) (V:=Ob) (λ_=>by kernel_rfl) λ⟨e,W⟩ hp=>by
  dsimp only[Oa]at hp
  dsimp only[Ob,tn,ah,ak,aE,aD,ay]
  obtain⟨he,hp⟩:=hp
  simp only[aS,aZ,eq_self,implies_true,Bool.cond_self]
  have z1:=hp.1.aa
  have z2:=hp.1.k1
  unfold bE bA
  refineλ_ s hs=>⟨λh=>?_,λh=>?_⟩
  · have ai:=aY h
    refine⟨by omega,⟨hp.1,by omega,hp.2 s ai⟩,λJ=>?_,λJ=>⟨by rw[IntKind.wrap_i64];omega,bZ ⟨⟨by omega,dT (p:=λi=>!cV W i) hs.2 J⟩,by omega⟩⟩⟩
    rw[fy (p:=λi=>!cV W i) hs.2 J ai]
    first|exact⟨he,rfl,rfl⟩|exact⟨⟨by omega,he⟩,rfl,rfl⟩
  · have bo:=bD h
    rw[dD (p:=λi=>!cV W i) λj hj=>hs.2 j (by omega)]
    exact⟨rfl,rfl⟩
structure Oc where
  (e:Int) (W:Wd)
def Od:Sy.Spec:=⟨Oc,λ⟨e,W⟩=> [.sl true 7 W.aw (rF λi=>kx (W.af i)),.v (.int .i64 e),.fn 73 1 (aH [.pt true 1 (λ_=>eD W)])],λ_=> [],λ⟨e,W⟩=>e≠0/\bW W,λ⟨e,W⟩=> .er 35 79 (bE W.aw (λi=>!cT W i) e) (bA W.aw (λi=>!cT W i) e),λ_=> [],
  λargs mem=>match args with| [a0,a1,a2]=>(match fN 73 a2 with|true=>some ⟨av (a1),d' (bx (dc a2 0) 0)⟩|false=>none)|_=>none⟩
def Yk:aQ:=⟨[],(Od).g,none⟩
def Oe:Oc->Prop:=λ⟨e,W⟩=>let a0:=W.aw;let b0:=(a0:Int);let c0:=W.ar;let d0:=W.az;let e0:=W.ba;let g0:=W.aP;let h0:=W.aT;let k0:=bE a0 (λl0:Nat=>!cT W l0) e;let o0:=bA a0 (λq0:Nat=>!cT W q0) e;b0<=9223372036854775807->0=((0:Nat):Int)/\True/\(0<=a0/\(∀r0:Nat,r0<0->(!cT W r0)=false))/\(∀u0:Nat,let v0:=(u0:Int);let w0:=decide (v0<b0);let x0:=0<=v0/\v0<b0;let y0:=v0=v0;let z0:=W.af (Int.toNat v0);let a1:=!cT W (Int.toNat v0);let b1:Int:=v0+1;u0<=a0/\(∀c1:Nat,c1<u0->(!cT W c1)=false)->(w0=true->x0/\True/\tn 6 True/\((y0/\aD z0 z0/\(True/\((((((((((True/\W.aq=W.aq/\(∀d1:Nat,d1<W.aq->True/\W.aa d1=W.aa d1))/\c0=c0/\(∀e1:Nat,e1<c0->True/\W.kinds e1=W.kinds e1))/\a0=a0/\(∀g1:Nat,g1<a0->aD (W.af g1) (W.af g1)))/\d0=d0/\(∀J:Nat,J<d0->aE (W.tasks J) (W.tasks J)))/\e0=e0/\(∀k1:Nat,let l1:=W.ao k1;k1<e0->True/\l1=l1/\(∀o1:Nat,o1<l1->True/\W.lines k1 o1=W.lines k1 o1)))/\W.aN=W.aN/\(∀q1:Nat,q1<W.aN->True/\W.bits q1=W.bits q1))/\g0=g0/\(∀r1:Nat,r1<g0->True/\W.aF r1=W.aF r1))/\h0=h0/\(∀u1:Nat,let v1:=W.aJ u1;u1<h0->True/\v1=v1/\(∀w1:Nat,w1<v1->True/\W.ready u1 w1=W.ready u1 w1)))/\W.aG=W.aG/\(∀x1:Nat,let y1:=W.aA x1;x1<W.aG->True/\y1=y1/\(∀z1:Nat,z1<y1->ay (W.aj x1 z1) (W.aj x1 z1))))/\W.aI=W.aI/\(∀a2:Nat,a2<W.aI->True/\W.aM a2=W.aM a2))/\W.time=W.time)/\True)/\True/\bW W/\x0)/\(a1=true->((y0/\e=e/\True)/\True/\0<=v0/\e≠0)/\(e=k0/\v0=o0)/\True)/\(a1=false->ah b1=b1/\(∃b2:Nat,b1=(b2:Int)/\True/\(b2<=a0/\(∀c2:Nat,c2<b2->(!cT W c2)=false))/\a0-b2<a0-u0)))/\(w0=false->(k0=0/\o0=(-1))/\True))
set_option maxHeartbeats 1000000 in
theorem Wm:aL Tryz.prog aO 72 Yk:=aW (.cons lY (.cons UA .nil)) false Tryz.call72 Tryz.func72 (λ⟨_,W⟩=> [.inv (l_ W.aw (λi=>!cT W i))]) (V:=Oe) (λ_=>by kernel_rfl) λ⟨e,W⟩ hp=>by
  dsimp only[Od]at hp
  dsimp only[Oe,tn,ah,ak,aE,aD,ay]
  obtain⟨he,hp⟩:=hp
  simp only[aS,aZ,eq_self,implies_true,Bool.cond_self]
  have z1:=hp.af
  have z2:=hp.k1
  unfold bE bA
  refineλ_ s hs=>⟨λh=>?_,λh=>?_⟩
  · have ai:=aY h
    refine⟨by omega,⟨hp,by omega⟩,λJ=>?_,λJ=>⟨by rw[IntKind.wrap_i64];omega,bZ ⟨⟨by omega,dT (p:=λi=>!cT W i) hs.2 J⟩,by omega⟩⟩⟩
    rw[fy (p:=λi=>!cT W i) hs.2 J ai]
    first|exact⟨he,rfl,rfl⟩|exact⟨⟨by omega,he⟩,rfl,rfl⟩
  · have bo:=bD h
    rw[dD (p:=λi=>!cT W i) λj hj=>hs.2 j (by omega)]
    exact⟨rfl,rfl⟩
structure Of where
  (e:Int) (W:Wd)
def Og:Sy.Spec:=⟨Of,λ⟨e,W⟩=> [.sl true 20 W.az (rF λi=>gZ (W.tasks i)),.v (.int .i64 e),.fn 78 1 (aH [.pt true 1 (λ_=>eD W)])],λ_=> [],λ⟨e,W⟩=>e≠0/\bW W/\kv W,λ⟨e,W⟩=> .er 35 79 (bE W.az (λi=>!cS W i) e) (bA W.az (λi=>!cS W i) e),λ_=> [],
  λargs mem=>match args with| [a0,a1,a2]=>(match fN 78 a2 with|true=>some ⟨av (a1),d' (bx (dc a2 0) 0)⟩|false=>none)|_=>none⟩
def Yl:aQ:=⟨[],(Og).g,none⟩
def Oh:Of->Prop:=λ⟨e,W⟩=>let a0:=W.az;let b0:=(a0:Int);let c0:=W.ar;let d0:=W.aw;let e0:=W.ba;let g0:=W.aP;let h0:=W.aT;let k0:=W.aG;let l0:=bE a0 (λo0:Nat=>!cS W o0) e;let q0:=bA a0 (λr0:Nat=>!cS W r0) e;b0<=9223372036854775807->0=((0:Nat):Int)/\True/\(0<=a0/\(∀u0:Nat,u0<0->(!cS W u0)=false))/\(∀v0:Nat,let w0:=(v0:Int);let x0:=decide (w0<b0);let y0:=0<=w0;let z0:=w0=w0;let a1:=W.tasks (Int.toNat w0);let b1:=!cS W (Int.toNat w0);let c1:Int:=w0+1;v0<=a0/\(∀d1:Nat,d1<v0->(!cS W d1)=false)->(x0=true->(y0/\w0<b0)/\True/\tn 19 True/\((z0/\aE a1 a1/\(True/\((((((((((True/\W.aq=W.aq/\(∀e1:Nat,e1<W.aq->True/\W.aa e1=W.aa e1))/\c0=c0/\(∀g1:Nat,g1<c0->True/\W.kinds g1=W.kinds g1))/\d0=d0/\(∀J:Nat,J<d0->aD (W.af J) (W.af J)))/\a0=a0/\(∀k1:Nat,k1<a0->aE (W.tasks k1) (W.tasks k1)))/\e0=e0/\(∀l1:Nat,let o1:=W.ao l1;l1<e0->True/\o1=o1/\(∀q1:Nat,q1<o1->True/\W.lines l1 q1=W.lines l1 q1)))/\W.aN=W.aN/\(∀r1:Nat,r1<W.aN->True/\W.bits r1=W.bits r1))/\g0=g0/\(∀u1:Nat,u1<g0->True/\W.aF u1=W.aF u1))/\h0=h0/\(∀v1:Nat,let w1:=W.aJ v1;v1<h0->True/\w1=w1/\(∀x1:Nat,x1<w1->True/\W.ready v1 x1=W.ready v1 x1)))/\k0=k0/\(∀y1:Nat,let z1:=W.aA y1;y1<k0->True/\z1=z1/\(∀a2:Nat,a2<z1->ay (W.aj y1 a2) (W.aj y1 a2))))/\W.aI=W.aI/\(∀b2:Nat,b2<W.aI->True/\W.aM b2=W.aM b2))/\W.time=W.time)/\True)/\True/\bW W/\((∀c2:Nat,c2<e0->W.ao c2<=50)/\(∀d2:Nat,d2<h0->W.aJ d2<=50)/\(∀e2:Nat,e2<k0->W.aA e2<=50))/\y0/\w0<(c0:Int))/\(b1=true->((z0/\e=e/\True)/\True/\y0/\e≠0)/\(e=l0/\w0=q0)/\True)/\(b1=false->ah c1=c1/\(∃g2:Nat,
    c1=(g2:Int)/\True/\(g2<=a0/\(∀U:Nat,U<g2->(!cS W U)=false))/\a0-g2<a0-v0)))/\(x0=false->(l0=0/\q0=(-1))/\True))
set_option maxHeartbeats 1000000 in
theorem Wn:aL Tryz.prog aO 77 Yl:=aW (.cons lY (.cons S7 .nil)) false Tryz.call77 Tryz.func77 (λ⟨_,W⟩=> [.inv (l_ W.az (λi=>!cS W i))]) (V:=Oh) (λ_=>by kernel_rfl) λ⟨e,W⟩ hp=>by
  dsimp only[Og]at hp
  dsimp only[Oh,tn,ah,ak,aE,aD,ay]
  obtain⟨he,hp⟩:=hp
  simp only[aS,aZ,eq_self,implies_true,Bool.cond_self]
  have z1:=hp.1.tasks
  have z2:=hp.1.k1
  unfold bE bA
  refineλ_ s hs=>⟨λh=>?_,λh=>?_⟩
  · have ai:=aY h
    refine⟨by omega,⟨hp.1,hp.2,by omega⟩,λJ=>?_,λJ=>⟨by rw[IntKind.wrap_i64];omega,bZ ⟨⟨by omega,dT (p:=λi=>!cS W i) hs.2 J⟩,by omega⟩⟩⟩
    rw[fy (p:=λi=>!cS W i) hs.2 J ai]
    first|exact⟨he,rfl,rfl⟩|exact⟨⟨by omega,he⟩,rfl,rfl⟩
  · have bo:=bD h
    rw[dD (p:=λi=>!cS W i) λj hj=>hs.2 j (by omega)]
    exact⟨rfl,rfl⟩
structure Oi where
  (e:Int) (W:Wd)
def Oj:Sy.Spec:=⟨Oi,λ⟨e,W⟩=> [.sl true 1 W.ba (λi _=> .sl true 1 (W.ao i) (iF (W.lines i))),.v (.int .i64 e),.fn 84 1 (aH [.pt true 1 (λ_=>eD W)])],λ_=> [],λ⟨e,W⟩=>e≠0/\bW W/\kv W,λ⟨e,W⟩=> .er 35 79 (bE W.ba (λi=>!cU W i) e) (bA W.ba (λi=>!cU W i) e),λ_=> [],
  λargs mem=>match args with| [a0,a1,a2]=>(match fN 84 a2 with|true=>some ⟨av (a1),d' (bx (dc a2 0) 0)⟩|false=>none)|_=>none⟩
def Ym:aQ:=⟨[],(Oj).g,none⟩
def Ok:Oi->Prop:=λ⟨e,W⟩=>let a0:=W.ba;let b0:=(a0:Int);let c0:=W.ar;let d0:=W.aw;let e0:=W.az;let g0:=W.aP;let h0:=W.aT;let k0:=W.aG;let l0:=bE a0 (λo0:Nat=>!cU W o0) e;let q0:=bA a0 (λr0:Nat=>!cU W r0) e;b0<=9223372036854775807->0=((0:Nat):Int)/\True/\(0<=a0/\(∀u0:Nat,u0<0->(!cU W u0)=false))/\(∀v0:Nat,let w0:=(v0:Int);let x0:=decide (w0<b0);let y0:=0<=w0;let z0:=w0=w0;let a1:=Int.toNat w0;let b1:=W.ao a1;let c1:=!cU W a1;let d1:Int:=w0+1;v0<=a0/\(∀e1:Nat,e1<v0->(!cU W e1)=false)->(x0=true->(y0/\w0<b0)/\((z0/\(b1=b1/\(∀g1:Nat,g1<b1->True/\W.lines a1 g1=W.lines a1 g1))/\(True/\((((((((((True/\W.aq=W.aq/\(∀J:Nat,J<W.aq->True/\W.aa J=W.aa J))/\c0=c0/\(∀k1:Nat,k1<c0->True/\W.kinds k1=W.kinds k1))/\d0=d0/\(∀l1:Nat,l1<d0->aD (W.af l1) (W.af l1)))/\e0=e0/\(∀o1:Nat,o1<e0->aE (W.tasks o1) (W.tasks o1)))/\a0=a0/\(∀q1:Nat,let r1:=W.ao q1;q1<a0->True/\r1=r1/\(∀u1:Nat,u1<r1->True/\W.lines q1 u1=W.lines q1 u1)))/\W.aN=W.aN/\(∀v1:Nat,v1<W.aN->True/\W.bits v1=W.bits v1))/\g0=g0/\(∀w1:Nat,w1<g0->True/\W.aF w1=W.aF w1))/\h0=h0/\(∀x1:Nat,let y1:=W.aJ x1;x1<h0->True/\y1=y1/\(∀z1:Nat,z1<y1->True/\W.ready x1 z1=W.ready x1 z1)))/\k0=k0/\(∀a2:Nat,let b2:=W.aA a2;a2<k0->True/\b2=b2/\(∀c2:Nat,c2<b2->ay (W.aj a2 c2) (W.aj a2 c2))))/\W.aI=W.aI/\(∀d2:Nat,d2<W.aI->True/\W.aM d2=W.aM d2))/\W.time=W.time)/\True)/\True/\bW W/\((∀e2:Nat,e2<a0->W.ao e2<=50)/\(∀g2:Nat,g2<h0->W.aJ g2<=50)/\(∀U:Nat,U<k0->W.aA U<=50))/\y0/\w0<(c0:Int))/\(c1=true->((z0/\e=e/\True)/\True/\y0/\e≠0)/\(e=l0/\w0=q0)/\True)/\
    (c1=false->ah d1=d1/\(∃k2:Nat,d1=(k2:Int)/\True/\(k2<=a0/\(∀l2:Nat,l2<k2->(!cU W l2)=false))/\a0-k2<a0-v0)))/\(x0=false->(l0=0/\q0=(-1))/\True))
set_option maxHeartbeats 1000000 in
theorem Lv:aL Tryz.prog aO 83 Ym:=aW (.cons lY (.cons S8 .nil)) false Tryz.call83 Tryz.func83 (λ⟨_,W⟩=> [.inv (l_ W.ba (λi=>!cU W i))]) (V:=Ok) (λ_=>by kernel_rfl) λ⟨e,W⟩ hp=>by
  dsimp only[Oj]at hp
  dsimp only[Ok,tn,ah,ak,aE,aD,ay]
  obtain⟨he,hp⟩:=hp
  simp only[aS,aZ,eq_self,implies_true,Bool.cond_self]
  have z1:=hp.1.lines
  have z2:=hp.1.k1
  unfold bE bA
  refineλ_ s hs=>⟨λh=>?_,λh=>?_⟩
  · have ai:=aY h
    refine⟨by omega,⟨hp.1,hp.2,by omega⟩,λJ=>?_,λJ=>⟨by rw[IntKind.wrap_i64];omega,bZ ⟨⟨by omega,dT (p:=λi=>!cU W i) hs.2 J⟩,by omega⟩⟩⟩
    rw[fy (p:=λi=>!cU W i) hs.2 J ai]
    first|exact⟨he,rfl,rfl⟩|exact⟨⟨by omega,he⟩,rfl,rfl⟩
  · have bo:=bD h
    rw[dD (p:=λi=>!cU W i) λj hj=>hs.2 j (by omega)]
    exact⟨rfl,rfl⟩
structure Ol where
  (e:Int) (W:Wd)
def Om:Sy.Spec:=⟨Ol,λ⟨e,W⟩=> [.sl true 1 W.aT (λi _=> .sl true 1 (W.aJ i) (iF (W.ready i))),.v (.int .i64 e),.fn 87 1 (aH [.pt true 1 (λ_=> .fn 85 1 (aH [.pt true 1 (λ_=>eD W)]))])],λ_=> [],λ⟨e,W⟩=>e≠0/\bW W/\kv W,λ⟨e,W⟩=> .er 35 79 (bE W.aT (λi=>!dC W i) e) (bA W.aT (λi=>!dC W i) e),λ_=> [],
  λargs mem=>match args with| [a0,a1,a2]=>(match fN 87 a2 with|true=>some ⟨av (a1),d' (bx (dc (bx (dc a2 0) 0) 0) 0)⟩|false=>none)|_=>none⟩
def Yn:aQ:=⟨[],(Om).g,none⟩
def On:Ol->Prop:=λ⟨e,W⟩=>let a0:=W.aT;let b0:=(a0:Int);let c0:=W.ar;let d0:=W.aw;let e0:=W.az;let g0:=W.ba;let h0:=W.aP;let k0:=W.aG;let l0:=bE a0 (λo0:Nat=>!dC W o0) e;let q0:=bA a0 (λr0:Nat=>!dC W r0) e;b0<=9223372036854775807->0=((0:Nat):Int)/\True/\(0<=a0/\(∀u0:Nat,u0<0->(!dC W u0)=false))/\(∀v0:Nat,let w0:=(v0:Int);let x0:=decide (w0<b0);let y0:=0<=w0/\w0<b0;let z0:=w0=w0;let a1:=Int.toNat w0;let b1:=W.aJ a1;let c1:=!dC W a1;let d1:Int:=w0+1;v0<=a0/\(∀e1:Nat,e1<v0->(!dC W e1)=false)->(x0=true->y0/\((z0/\(b1=b1/\(∀g1:Nat,g1<b1->True/\W.ready a1 g1=W.ready a1 g1))/\tn 3 (((((((((((True/\W.aq=W.aq/\(∀J:Nat,J<W.aq->True/\W.aa J=W.aa J))/\c0=c0/\(∀k1:Nat,k1<c0->True/\W.kinds k1=W.kinds k1))/\d0=d0/\(∀l1:Nat,l1<d0->aD (W.af l1) (W.af l1)))/\e0=e0/\(∀o1:Nat,o1<e0->aE (W.tasks o1) (W.tasks o1)))/\g0=g0/\(∀q1:Nat,let r1:=W.ao q1;q1<g0->True/\r1=r1/\(∀u1:Nat,u1<r1->True/\W.lines q1 u1=W.lines q1 u1)))/\W.aN=W.aN/\(∀v1:Nat,v1<W.aN->True/\W.bits v1=W.bits v1))/\h0=h0/\(∀w1:Nat,w1<h0->True/\W.aF w1=W.aF w1))/\a0=a0/\(∀x1:Nat,let y1:=W.aJ x1;x1<a0->True/\y1=y1/\(∀z1:Nat,z1<y1->True/\W.ready x1 z1=W.ready x1 z1)))/\k0=k0/\(∀a2:Nat,let b2:=W.aA a2;a2<k0->True/\b2=b2/\(∀c2:Nat,c2<b2->ay (W.aj a2 c2) (W.aj a2 c2))))/\W.aI=W.aI/\(∀d2:Nat,d2<W.aI->True/\W.aM d2=W.aM d2))/\W.time=W.time)/\True)/\True/\bW W/\((∀e2:Nat,e2<g0->W.ao e2<=50)/\(∀g2:Nat,g2<a0->W.aJ g2<=50)/\(∀U:Nat,U<k0->W.aA U<=50))/\y0)/\(c1=true->((z0/\e=e/\True)/\True/\0<=w0/\e≠0)/\(e=l0/\w0=q0)/\True)/\(c1=false->ah d1=d1/\
    (∃k2:Nat,d1=(k2:Int)/\True/\(k2<=a0/\(∀l2:Nat,l2<k2->(!dC W l2)=false))/\a0-k2<a0-v0)))/\(x0=false->(l0=0/\q0=(-1))/\True))
set_option maxHeartbeats 1000000 in
theorem Lw:aL Tryz.prog aO 83 Yn:=aW (.cons lY (.cons S9 .nil)) false Tryz.call83 Tryz.func83 (λ⟨_,W⟩=> [.inv (l_ W.aT (λi=>!dC W i))]) (V:=On) (λ_=>by kernel_rfl) λ⟨e,W⟩ hp=>by
  dsimp only[Om]at hp
  dsimp only[On,tn,ah,ak,aE,aD,ay]
  obtain⟨he,hp⟩:=hp
  simp only[aS,aZ,eq_self,implies_true,Bool.cond_self]
  have z1:=hp.1.ready
  have z2:=hp.1.c1
  unfold bE bA
  refineλ_ s hs=>⟨λh=>?_,λh=>?_⟩
  · have ai:=aY h
    refine⟨by omega,⟨hp.1,hp.2,by omega⟩,λJ=>?_,λJ=>⟨by rw[IntKind.wrap_i64];omega,bZ ⟨⟨by omega,dT (p:=λi=>!dC W i) hs.2 J⟩,by omega⟩⟩⟩
    rw[fy (p:=λi=>!dC W i) hs.2 J ai]
    first|exact⟨he,rfl,rfl⟩|exact⟨⟨by omega,he⟩,rfl,rfl⟩
  · have bo:=bD h
    rw[dD (p:=λi=>!dC W i) λj hj=>hs.2 j (by omega)]
    exact⟨rfl,rfl⟩
structure Oo where
  (e:Int) (W:Wd)
def Oq:Sy.Spec:=⟨Oo,λ⟨e,W⟩=> [.sl true 1 W.aG (λi _=> .sl true 4 (W.aA i) (rF λk=>eG (W.aj i k))),.v (.int .i64 e),.fn 92 1 (aH [.pt true 1 (λ_=>eD W)])],λ_=> [],λ⟨e,W⟩=>e≠0/\bW W/\kv W/\ ∀i,i<W.aq->fp (W.aa i),λ⟨e,W⟩=> .er 35 79 (bE W.aG (λi=>!cI W (W.aA i) (W.aj i)) e) (bA W.aG (λi=>!cI W (W.aA i) (W.aj i)) e),λ_=> [],
  λargs mem=>match args with| [a0,a1,a2]=>(match fN 92 a2 with|true=>some ⟨av (a1),d' (bx (dc a2 0) 0)⟩|false=>none)|_=>none⟩
def Yo:aQ:=⟨[],(Oq).g,none⟩
def Ot:Oo->Prop:=λ⟨e,W⟩=>let a0:=W.aG;let b0:=(a0:Int);let c0:=W.aq;let d0:=W.ar;let e0:=W.aw;let g0:=W.az;let h0:=W.ba;let k0:=W.aP;let l0:=W.aT;let o0:=bE a0 (λq0:Nat=>!cI W (W.aA q0) (W.aj q0)) e;let r0:=bA a0 (λu0:Nat=>!cI W (W.aA u0) (W.aj u0)) e;b0<=9223372036854775807->0=((0:Nat):Int)/\True/\(0<=a0/\(∀v0:Nat,v0<0->(!cI W (W.aA v0) (W.aj v0))=false))/\(∀w0:Nat,let x0:=(w0:Int);let y0:=decide (x0<b0);let z0:=x0=x0;let a1:=Int.toNat x0;let b1:=W.aA a1;let c1:=!cI W b1 (W.aj a1);let d1:Int:=x0+1;w0<=a0/\(∀e1:Nat,e1<w0->(!cI W (W.aA e1) (W.aj e1))=false)->(y0=true->(0<=x0/\x0<b0)/\((z0/\(b1=b1/\(∀g1:Nat,g1<b1->ay (W.aj a1 g1) (W.aj a1 g1)))/\(True/\((((((((((True/\c0=c0/\(∀J:Nat,J<c0->True/\W.aa J=W.aa J))/\d0=d0/\(∀k1:Nat,k1<d0->True/\W.kinds k1=W.kinds k1))/\e0=e0/\(∀l1:Nat,l1<e0->aD (W.af l1) (W.af l1)))/\g0=g0/\(∀o1:Nat,o1<g0->aE (W.tasks o1) (W.tasks o1)))/\h0=h0/\(∀q1:Nat,let r1:=W.ao q1;q1<h0->True/\r1=r1/\(∀u1:Nat,u1<r1->True/\W.lines q1 u1=W.lines q1 u1)))/\W.aN=W.aN/\(∀v1:Nat,v1<W.aN->True/\W.bits v1=W.bits v1))/\k0=k0/\(∀w1:Nat,w1<k0->True/\W.aF w1=W.aF w1))/\l0=l0/\(∀x1:Nat,let y1:=W.aJ x1;x1<l0->True/\y1=y1/\(∀z1:Nat,z1<y1->True/\W.ready x1 z1=W.ready x1 z1)))/\a0=a0/\(∀a2:Nat,let b2:=W.aA a2;a2<a0->True/\b2=b2/\(∀c2:Nat,c2<b2->ay (W.aj a2 c2) (W.aj a2 c2))))/\W.aI=W.aI/\(∀d2:Nat,d2<W.aI->True/\W.aM d2=W.aM d2))/\W.time=W.time)/\True)/\True/\bW W/\b1<=1000/\(∀e2:Nat,e2<c0->0<=W.aa e2/\W.aa e2<=65535))/\(c1=true->((z0/\e=e/\True)/\True/\
    0<=x0/\e≠0)/\(e=o0/\x0=r0)/\True)/\(c1=false->ah d1=d1/\(∃g2:Nat,d1=(g2:Int)/\True/\(g2<=a0/\(∀U:Nat,U<g2->(!cI W (W.aA U) (W.aj U))=false))/\a0-g2<a0-w0)))/\(y0=false->(o0=0/\r0=(-1))/\True))
set_option maxHeartbeats 1000000 in
theorem Ws:aL Tryz.prog aO 91 Yo:=aW (.cons lY (.cons UB .nil)) false Tryz.call91 Tryz.func91 (λ⟨_,W⟩=> [.inv (l_ W.aG (λi=>!cI W (W.aA i) (W.aj i)))]) (V:=Ot) (λ_=>by kernel_rfl) λ⟨e,W⟩ hp=>by
  dsimp only[Oq]at hp
  dsimp only[Ot,tn,ah,ak,aE,aD,ay]
  obtain⟨he,hp⟩:=hp
  simp only[aS,aZ,eq_self,implies_true,Bool.cond_self]
  have z1:=hp.1.aj
  have z2:=hp.1.c1
  unfold bE bA
  refineλ_ s hs=>⟨λh=>?_,λh=>?_⟩
  · have ai:=aY h
    refine⟨by omega,⟨hp.1,by have:=hp.2.1.2.2 s ai;omega,hp.2.2⟩,λJ=>?_,λJ=>⟨by rw[IntKind.wrap_i64];omega,bZ ⟨⟨by omega,dT (p:=λi=>!cI W (W.aA i) (W.aj i)) hs.2 J⟩,by omega⟩⟩⟩
    rw[fy (p:=λi=>!cI W (W.aA i) (W.aj i)) hs.2 J ai]
    first|exact⟨he,rfl,rfl⟩|exact⟨⟨by omega,he⟩,rfl,rfl⟩
  · have bo:=bD h
    rw[dD (p:=λi=>!cI W (W.aA i) (W.aj i)) λj hj=>hs.2 j (by omega)]
    exact⟨rfl,rfl⟩
end Go.Proofs.YtmieeldmfehpoaaGreatDoor
set_option linter.unusedVariables false
set_option linter.unusedSimpArgs false
set_option maxRecDepth 100000
namespace Go.Proofs.YtmieeldmfehpoaaGreatDoor
open Go.RowKit Go.Sy
theorem Cl {n:Nat} {p:Nat->Bool} {e:Int} {r:Int×Int} (he:e≠0):((bB n p e (0,-1)).1=0->bB n p e r=r)/\((bB n p e (0,-1)).1≠0->bB n p e r=bB n p e (0,-1)):=by
  unfold bB
  cases Nat.blt (bU n p) n
  · exact⟨λ_=>rfl,λh=>absurd rfl h⟩
  · exact⟨λh=>absurd h he,λ_=>rfl⟩
theorem AJ {n:Nat} {p:Nat->Bool} {e:Int} {r:Int×Int} (he:e≠0) (h:(bE n p e !=0)=true):bE n p e=(bB n p e r).1/\bA n p e=(bB n p e r).2:=by
  rw[(Cl he).2 (by simpa [bE]using h)];exact⟨rfl,rfl⟩
theorem vB {n:Nat} {p:Nat->Bool} {e:Int} {r:Int×Int} (he:e≠0) (h:(bE n p e !=0)=false):bB n p e r=r:=(Cl he).1 (by simpa [bE]using h)
def ni (W:Wd):Int:=(oA W (0,-1)).1
def ug (W:Wd):Int:=(oA W (0,-1)).2
def rU (W:Wd):Int:=(pO W (0,-1)).1
def GM (W:Wd):Int:=(pO W (0,-1)).2
def xh (W:Wd):Int:=(rR W (0,-1)).1
def GN (W:Wd):Int:=(rR W (0,-1)).2
def uh (W:Wd):Int:=(pP W (0,-1)).1
def Bf (W:Wd):Int:=(pP W (0,-1)).2
def ui (W:Wd):Int:=(pQ W (0,-1)).1
def Bg (W:Wd):Int:=(pQ W (0,-1)).2
def rV (W:Wd):Int:=(pR W (0,-1)).1
def xi (W:Wd):Int:=(pR W (0,-1)).2
def rW (W:Wd):Int:=(pS W (0,-1)).1
def xj (W:Wd):Int:=(pS W (0,-1)).2
structure yi where
  (W:Wd)
def Cm:Sy.Spec:=⟨yi,λ⟨W⟩=> [eD W],λ_=> [],λ⟨W⟩=>Sm W,λ⟨W⟩=> .er 35 79 (ni W) (ug W),λ_=> [],
  λargs mem=>match args with| [a0]=>some ⟨d' a0⟩|_=>none⟩
def Us:aQ:=⟨[],(Cm).g,none⟩
def JN:yi->Prop:=λ⟨W⟩=>let a0:=W.aq;let b0:=True/\True;let c0:=bE a0 (λd0:Nat=>aB (W.aa d0) 65535) 1;let e0:=c0 !=0;let g0:=W.ar;let h0:=bE g0 (λk0:Nat=>aB (W.kinds k0) 8||W.kinds k0==1) 3;let l0:=h0 !=0;let o0:=W.aI;(((a0=a0/\(∀q0:Nat,q0<a0->True/\W.aa q0=W.aa q0))/\(1:Int)=1/\b0)/\True/\(1:Int)≠0/\a0<=100000)/\(e0=true->(c0=ni W/\bA a0 (λr0:Nat=>aB (W.aa r0) 65535) 1=ug W)/\True)/\(e0=false->(((g0=g0/\(∀u0:Nat,u0<g0->True/\W.kinds u0=W.kinds u0))/\(3:Int)=3/\b0)/\True/\(3:Int)≠0/\g0<=100000)/\(l0=true->(h0=ni W/\bA g0 (λv0:Nat=>aB (W.kinds v0) 8||W.kinds v0==1) 3=ug W)/\True)/\(l0=false->(((o0=o0/\(∀w0:Nat,w0<o0->True/\W.aM w0=W.aM w0))/\(2:Int)=2/\b0)/\True/\(2:Int)≠0/\o0<=100000)/\(bE o0 (λx0:Nat=>aB (W.aM x0) 3) 2=ni W/\bA o0 (λy0:Nat=>aB (W.aM y0) 3) 2=ug W)/\True))
theorem S1:aL Tryz.prog aO 38 Us:=aW (.cons (Ut.or (Uu.or Uv)) .nil) false Tryz.call38 Tryz.func38 (λ_=> []) (V:=JN) (λ_=>by kernel_rfl) λ⟨W⟩ hp=>by
  dsimp only[Cm]at hp
  dsimp only[JN,tn,ah,ak,aE,aD,ay]
  have b1:=hp.aa
  have b2:=hp.kinds
  have b3:=hp.aM
  simp only[aS,aZ,eq_self,implies_true,Bool.cond_self]
  unfold ni ug oA
  refine⟨⟨by decide,by omega⟩,λh=>AJ (by decide) h,λh=>⟨⟨by decide,by omega⟩,λU=>?_,λU=>⟨⟨by decide,by omega⟩,?_⟩⟩⟩
  · rw[vB (by decide) h];exact AJ (by decide) U
  · rw[vB (by decide) h,vB (by decide) U];exact⟨rfl,rfl⟩
structure yF where
  (W:Wd)
def C5:Sy.Spec:=⟨yF,λ⟨W⟩=> [eD W],λ_=> [],λ⟨W⟩=>bW W,λ⟨W⟩=> .er 35 79 (rU W) (GM W),λ_=> [],
  λargs mem=>match args with| [a0]=>some ⟨d' a0⟩|_=>none⟩
def Wl:aQ:=⟨[],(C5).g,none⟩
def Lu:yF->Prop:=λ⟨W⟩=>let a0:=W.aw;let b0:=a0=a0/\(∀c0:Nat,c0<a0->aD (W.af c0) (W.af c0));let d0:=W.ar;let e0:=W.az;let g0:=W.ba;let h0:=W.aP;let k0:=W.aT;True/\((b0/\(8:Int)=8/\tn 2 (((((((((((True/\W.aq=W.aq/\(∀l0:Nat,l0<W.aq->True/\W.aa l0=W.aa l0))/\d0=d0/\(∀o0:Nat,o0<d0->True/\W.kinds o0=W.kinds o0))/\b0)/\e0=e0/\(∀q0:Nat,q0<e0->aE (W.tasks q0) (W.tasks q0)))/\g0=g0/\(∀r0:Nat,let u0:=W.ao r0;r0<g0->True/\u0=u0/\(∀v0:Nat,v0<u0->True/\W.lines r0 v0=W.lines r0 v0)))/\W.aN=W.aN/\(∀w0:Nat,w0<W.aN->True/\W.bits w0=W.bits w0))/\h0=h0/\(∀x0:Nat,x0<h0->True/\W.aF x0=W.aF x0))/\k0=k0/\(∀y0:Nat,let z0:=W.aJ y0;y0<k0->True/\z0=z0/\(∀a1:Nat,a1<z0->True/\W.ready y0 a1=W.ready y0 a1)))/\W.aG=W.aG/\(∀b1:Nat,let c1:=W.aA b1;b1<W.aG->True/\c1=c1/\(∀d1:Nat,d1<c1->ay (W.aj b1 d1) (W.aj b1 d1))))/\W.aI=W.aI/\(∀e1:Nat,e1<W.aI->True/\W.aM e1=W.aM e1))/\W.time=W.time)/\True)/\True/\(8:Int)≠0/\bW W)/\(bE a0 (λg1:Nat=>!cT W g1) 8=rU W/\bA a0 (λJ:Nat=>!cT W J) 8=GM W)/\True
theorem Uq:aL Tryz.prog aO 39 Wl:=aW (.cons Wm .nil) false Tryz.call39 Tryz.func39 (λ_=> []) (V:=Lu) (λ_=>by kernel_rfl) λ⟨W⟩ hp=>by
  dsimp only[C5]at hp
  dsimp only[Lu,tn,ah,ak,aE,aD,ay]
  simp only[aS,aZ,eq_self,implies_true,Bool.cond_self]
  exact⟨⟨by decide,hp⟩,rfl,rfl⟩
structure JO where
  (W:Wd)
def JP:Sy.Spec:=⟨JO,λ⟨W⟩=> [eD W],λ_=> [],λ⟨W⟩=>bW W/\kv W,λ⟨W⟩=> .er 35 79 (uh W) (Bf W),λ_=> [],
  λargs mem=>match args with| [a0]=>some ⟨d' a0⟩|_=>none⟩
def Uw:aQ:=⟨[],(JP).g,none⟩
def JQ:JO->Prop:=λ⟨W⟩=>let a0:=W.az;let b0:=a0=a0/\(∀c0:Nat,c0<a0->aE (W.tasks c0) (W.tasks c0));let d0:=W.ar;let e0:=W.aw;let g0:=W.ba;let h0:=W.aP;let k0:=W.aT;let l0:=W.aG;True/\((b0/\(8:Int)=8/\tn 2 (((((((((((True/\W.aq=W.aq/\(∀o0:Nat,o0<W.aq->True/\W.aa o0=W.aa o0))/\d0=d0/\(∀q0:Nat,q0<d0->True/\W.kinds q0=W.kinds q0))/\e0=e0/\(∀r0:Nat,r0<e0->aD (W.af r0) (W.af r0)))/\b0)/\g0=g0/\(∀u0:Nat,let v0:=W.ao u0;u0<g0->True/\v0=v0/\(∀w0:Nat,w0<v0->True/\W.lines u0 w0=W.lines u0 w0)))/\W.aN=W.aN/\(∀x0:Nat,x0<W.aN->True/\W.bits x0=W.bits x0))/\h0=h0/\(∀y0:Nat,y0<h0->True/\W.aF y0=W.aF y0))/\k0=k0/\(∀z0:Nat,let a1:=W.aJ z0;z0<k0->True/\a1=a1/\(∀b1:Nat,b1<a1->True/\W.ready z0 b1=W.ready z0 b1)))/\l0=l0/\(∀c1:Nat,let d1:=W.aA c1;c1<l0->True/\d1=d1/\(∀e1:Nat,e1<d1->ay (W.aj c1 e1) (W.aj c1 e1))))/\W.aI=W.aI/\(∀g1:Nat,g1<W.aI->True/\W.aM g1=W.aM g1))/\W.time=W.time)/\True)/\True/\(8:Int)≠0/\bW W/\(∀J:Nat,J<g0->W.ao J<=50)/\(∀k1:Nat,k1<k0->W.aJ k1<=50)/\(∀l1:Nat,l1<l0->W.aA l1<=50))/\(bE a0 (λo1:Nat=>!cS W o1) 8=uh W/\bA a0 (λq1:Nat=>!cS W q1) 8=Bf W)/\True
theorem S2:aL Tryz.prog aO 41 Uw:=aW (.cons Wn .nil) false Tryz.call41 Tryz.func41 (λ_=> []) (V:=JQ) (λ_=>by kernel_rfl) λ⟨W⟩ hp=>by
  dsimp only[JP]at hp
  dsimp only[JQ,tn,ah,ak,aE,aD,ay]
  simp only[aS,aZ,eq_self,implies_true,Bool.cond_self]
  unfold uh Bf pP bE bA
  rw[hp.1.tasks]
  exact⟨⟨by decide,hp⟩,rfl,rfl⟩
structure JR where
  (W:Wd)
def JS:Sy.Spec:=⟨JR,λ⟨W⟩=> [eD W],λ_=> [],λ⟨W⟩=>bW W/\kv W,λ⟨W⟩=> .er 35 79 (ui W) (Bg W),λ_=> [],
  λargs mem=>match args with| [a0]=>some ⟨d' a0⟩|_=>none⟩
def Ux:aQ:=⟨[],(JS).g,none⟩
def JT:JR->Prop:=λ⟨W⟩=>let a0:=W.ba;let b0:=a0=a0/\(∀c0:Nat,let d0:=W.ao c0;c0<a0->True/\d0=d0/\(∀e0:Nat,e0<d0->True/\W.lines c0 e0=W.lines c0 e0));let g0:=W.ar;let h0:=W.aw;let k0:=W.az;let l0:=W.aP;let o0:=W.aT;let q0:=W.aG;True/\((b0/\(8:Int)=8/\tn 2 (((((((((((True/\W.aq=W.aq/\(∀r0:Nat,r0<W.aq->True/\W.aa r0=W.aa r0))/\g0=g0/\(∀u0:Nat,u0<g0->True/\W.kinds u0=W.kinds u0))/\h0=h0/\(∀v0:Nat,v0<h0->aD (W.af v0) (W.af v0)))/\k0=k0/\(∀w0:Nat,w0<k0->aE (W.tasks w0) (W.tasks w0)))/\b0)/\W.aN=W.aN/\(∀x0:Nat,x0<W.aN->True/\W.bits x0=W.bits x0))/\l0=l0/\(∀y0:Nat,y0<l0->True/\W.aF y0=W.aF y0))/\o0=o0/\(∀z0:Nat,let a1:=W.aJ z0;z0<o0->True/\a1=a1/\(∀b1:Nat,b1<a1->True/\W.ready z0 b1=W.ready z0 b1)))/\q0=q0/\(∀c1:Nat,let d1:=W.aA c1;c1<q0->True/\d1=d1/\(∀e1:Nat,e1<d1->ay (W.aj c1 e1) (W.aj c1 e1))))/\W.aI=W.aI/\(∀g1:Nat,g1<W.aI->True/\W.aM g1=W.aM g1))/\W.time=W.time)/\True)/\True/\(8:Int)≠0/\bW W/\(∀J:Nat,J<a0->W.ao J<=50)/\(∀k1:Nat,k1<o0->W.aJ k1<=50)/\(∀l1:Nat,l1<q0->W.aA l1<=50))/\(bE a0 (λo1:Nat=>!cU W o1) 8=ui W/\bA a0 (λq1:Nat=>!cU W q1) 8=Bg W)/\True
theorem S3:aL Tryz.prog aO 42 Ux:=aW (.cons (Lv.or Lw) .nil) false Tryz.call42 Tryz.func42 (λ_=> []) (V:=JT) (λ_=>by kernel_rfl) λ⟨W⟩ hp=>by
  dsimp only[JS]at hp
  dsimp only[JT,tn,ah,ak,aE,aD,ay]
  simp only[aS,aZ,eq_self,implies_true,Bool.cond_self]
  refine⟨⟨by decide,hp⟩,?_⟩
  unfold ui Bg pQ bE bA
  rw[hp.1.lines]
  exact⟨rfl,rfl⟩
structure JU where
  (W:Wd)
def JV:Sy.Spec:=⟨JU,λ⟨W⟩=> [eD W],λ_=> [],λ⟨W⟩=>bW W/\kv W,λ⟨W⟩=> .er 35 79 (rV W) (xi W),λ_=> [],
  λargs mem=>match args with| [a0]=>some ⟨d' a0⟩|_=>none⟩
def Uy:aQ:=⟨[],(JV).g,none⟩
def JX:JU->Prop:=λ⟨W⟩=>let a0:=W.aP;let b0:=a0=a0/\(∀c0:Nat,c0<a0->True/\W.aF c0=W.aF c0);let d0:=W.ar;let e0:=W.aw;let g0:=W.az;let h0:=W.ba;let k0:=W.aT;let l0:=k0=k0/\(∀o0:Nat,let q0:=W.aJ o0;o0<k0->True/\q0=q0/\(∀r0:Nat,r0<q0->True/\W.ready o0 r0=W.ready o0 r0));let u0:=W.aG;let v0:=(8:Int)=8/\tn 4 (((((((((((True/\W.aq=W.aq/\(∀w0:Nat,w0<W.aq->True/\W.aa w0=W.aa w0))/\d0=d0/\(∀x0:Nat,x0<d0->True/\W.kinds x0=W.kinds x0))/\e0=e0/\(∀y0:Nat,y0<e0->aD (W.af y0) (W.af y0)))/\g0=g0/\(∀z0:Nat,z0<g0->aE (W.tasks z0) (W.tasks z0)))/\h0=h0/\(∀a1:Nat,let b1:=W.ao a1;a1<h0->True/\b1=b1/\(∀c1:Nat,c1<b1->True/\W.lines a1 c1=W.lines a1 c1)))/\W.aN=W.aN/\(∀d1:Nat,d1<W.aN->True/\W.bits d1=W.bits d1))/\b0)/\l0)/\u0=u0/\(∀e1:Nat,let g1:=W.aA e1;e1<u0->True/\g1=g1/\(∀J:Nat,J<g1->ay (W.aj e1 J) (W.aj e1 J))))/\W.aI=W.aI/\(∀k1:Nat,k1<W.aI->True/\W.aM k1=W.aM k1))/\W.time=W.time)/\True;let l1:=bE a0 (λo1:Nat=>!dg W o1) 8;let q1:=l1 !=0;tn 3 (((b0/\v0)/\True/\(8:Int)≠0/\bW W)/\(q1=true->(l1=rV W/\bA a0 (λr1:Nat=>!dg W r1) 8=xi W)/\True)/\(q1=false->((l0/\v0)/\True/\(8:Int)≠0/\bW W/\(∀u1:Nat,u1<h0->W.ao u1<=50)/\(∀v1:Nat,v1<k0->W.aJ v1<=50)/\(∀w1:Nat,w1<u0->W.aA w1<=50))/\(bE k0 (λx1:Nat=>!dC W x1) 8=rV W/\bA k0 (λy1:Nat=>!dC W y1) 8=xi W)/\True))
theorem S4:aL Tryz.prog aO 43 Uy:=aW (.cons Wo (.cons (Lw.or Lv) .nil)) false Tryz.call43 Tryz.func43 (λ_=> []) (V:=JX) (λ_=>by kernel_rfl) λ⟨W⟩ hp=>by
  dsimp only[JV]at hp
  dsimp only[JX,tn,ah,ak,aE,aD,ay]
  simp only[aS,aZ,eq_self,implies_true,Bool.cond_self]
  unfold rV xi pR
  refine⟨⟨by decide,hp.1⟩,λh=>AJ (by decide) h,λh=>⟨⟨by decide,hp⟩,?_⟩⟩
  rw[vB (by decide) h];exact⟨rfl,rfl⟩
structure Lx where
  (W:Wd)
def Ly:Sy.Spec:=⟨Lx,λ⟨W⟩=> [eD W],λ_=> [],λ⟨W⟩=>bW W/\kv W/\ ∀i,i<W.aq->fp (W.aa i),λ⟨W⟩=> .er 35 79 (rW W) (xj W),λ_=> [],
  λargs mem=>match args with| [a0]=>some ⟨d' a0⟩|_=>none⟩
def Wp:aQ:=⟨[],(Ly).g,none⟩
def Lz:Lx->Prop:=λ⟨W⟩=>let a0:=W.aq;let b0:=a0=a0/\(∀c0:Nat,c0<a0->True/\W.aa c0=W.aa c0);let d0:=W.ar;let e0:=W.aw;let g0:=W.az;let h0:=W.ba;let k0:=W.aP;let l0:=W.aT;let o0:=W.aG;let q0:=o0=o0/\(∀r0:Nat,let u0:=W.aA r0;r0<o0->True/\u0=u0/\(∀v0:Nat,v0<u0->ay (W.aj r0 v0) (W.aj r0 v0)));let w0:=(9:Int)=9/\tn 2 (((((((((((True/\b0)/\d0=d0/\(∀x0:Nat,x0<d0->True/\W.kinds x0=W.kinds x0))/\e0=e0/\(∀y0:Nat,y0<e0->aD (W.af y0) (W.af y0)))/\g0=g0/\(∀z0:Nat,z0<g0->aE (W.tasks z0) (W.tasks z0)))/\h0=h0/\(∀a1:Nat,let b1:=W.ao a1;a1<h0->True/\b1=b1/\(∀c1:Nat,c1<b1->True/\W.lines a1 c1=W.lines a1 c1)))/\W.aN=W.aN/\(∀d1:Nat,d1<W.aN->True/\W.bits d1=W.bits d1))/\k0=k0/\(∀e1:Nat,e1<k0->True/\W.aF e1=W.aF e1))/\l0=l0/\(∀g1:Nat,let J:=W.aJ g1;g1<l0->True/\J=J/\(∀k1:Nat,k1<J->True/\W.ready g1 k1=W.ready g1 k1)))/\q0)/\W.aI=W.aI/\(∀l1:Nat,l1<W.aI->True/\W.aM l1=W.aM l1))/\W.time=W.time)/\True;let o1:=bE a0 (λq1:Nat=>!cV W q1) 9;let r1:=o1 !=0;True/\((b0/\w0)/\True/\(9:Int)≠0/\bW W/\(∀u1:Nat,u1<a0->0<=W.aa u1/\W.aa u1<=65535))/\(r1=true->(o1=rW W/\bA a0 (λv1:Nat=>!cV W v1) 9=xj W)/\True)/\(r1=false->((q0/\w0)/\True/\(9:Int)≠0/\bW W/\((∀w1:Nat,w1<h0->W.ao w1<=50)/\(∀x1:Nat,x1<l0->W.aJ x1<=50)/\(∀y1:Nat,y1<o0->W.aA y1<=50))/\(∀z1:Nat,z1<a0->0<=W.aa z1/\W.aa z1<=65535))/\(bE o0 (λa2:Nat=>!cI W (W.aA a2) (W.aj a2)) 9=rW W/\bA o0 (λb2:Nat=>!cI W (W.aA b2) (W.aj b2)) 9=xj W)/\True)
theorem Ur:aL Tryz.prog aO 44 Wp:=aW (.cons Wq (.cons Ws .nil)) false Tryz.call44 Tryz.func44 (λ_=> []) (V:=Lz) (λ_=>by kernel_rfl) λ⟨W⟩ hp=>by
  dsimp only[Ly]at hp
  dsimp only[Lz,tn,ah,ak,aE,aD,ay]
  simp only[aS,aZ,eq_self,implies_true,Bool.cond_self]
  refine⟨⟨by decide,hp.1,hp.2.2⟩,λh=>?_,λh=>⟨⟨by decide,hp⟩,?_⟩⟩
  · exact AJ (by decide) h
  · unfold rW xj pS
    rw[vB (by decide) h,<-hp.1.aj];exact⟨rfl,rfl⟩
end Go.Proofs.YtmieeldmfehpoaaGreatDoor
set_option linter.unusedVariables false
set_option linter.unusedSimpArgs false
set_option maxRecDepth 100000
namespace Go.Proofs.YtmieeldmfehpoaaGreatDoor
open Go.RowKit Go.Sy
def fY (W:Wd):Nat->Nat->Bool
  |0,_=>false
  |k+1,f=>bif eO (W.af k) f then decide ((f:Int)<(W.af k).base+(W.af k).mark)else fY W k f
def eL (W:Wd) (k f:Nat):Nat:=bL k λq=>eO (W.af q) f
def fM (W:Wd) (k f:Nat):Nat:=bL k λq=>fW (W.af q) f
def gr (b:Int) (j:Nat) (f:Nat):Bool:=decide (b<=f)&&decide ((f:Int)<b+j)
theorem Pr (b:Int) (f:Nat):gr b 0 f=false:=by
  unfold gr
  rcases Int.lt_or_le (f:Int) b with h|h
  · rw[decide_eq_false (show¬b<=(f:Int) by omega)];rfl
  · rw[decide_eq_false (show¬(f:Int)<b+((0:Nat):Int) by omega),Bool.and_false]
theorem C6 (b:Int) (j f:Nat) (h:(f:Int)=b+j):gr b j f=false/\gr b (j+1) f=true:=by
  unfold gr
  rw[decide_eq_false (show¬(f:Int)<b+(j:Int) by omega),decide_eq_true (show b<=(f:Int) by omega),decide_eq_true (show(f:Int)<b+((j+1:Nat):Int) by omega)]
  exact⟨rfl,rfl⟩
theorem Lt (b:Int) (j f:Nat) (h:(f:Int)≠b+j):gr b (j+1) f=gr b j f:=by
  unfold gr
  rw[show decide ((f:Int)<b+((j+1:Nat):Int))=decide ((f:Int)<b+(j:Int))from decide_eq_decide.2 (by omega)]
theorem C7 {W:Wd} {f:Nat}: ∀{n:Nat},eL W n f=0->(dp n λi=>gF (W.af i) f)=false
  |0,_=>rfl
  |n+1,h=>by
   have h:eL W n f+(bif eO (W.af n) f then 1 else 0)=0:=h
   cases hc:eO (W.af n) f with
   |true=>rw[hc]at h;simp at h
   |false=>
    rw[hc]at h
    rw[uA,C7 (n:=n) (by simpa using h)]
    unfold gF;rw[hc];rfl
theorem N3 {W:Wd} {f:Nat}: ∀{n:Nat},eL W n f=1->(dp n λi=>gF (W.af i) f)=!fY W n f
  |0,h=>by cases h
  |n+1,h=>by
   have h:eL W n f+(bif eO (W.af n) f then 1 else 0)=1:=h
   rw[uA]
   show _=!(bif eO (W.af n) f then decide ((f:Int)<(W.af n).base+(W.af n).mark)else fY W n f)
   cases hc:eO (W.af n) f with
   |true=>
    rw[hc]at h
    rw[C7 (n:=n) (by simpa using h)]
    unfold gF
    rw[hc]
    simp only[Bool.false_or,Bool.true_and,cond_true]
    rw[<-decide_not]
    exact decide_eq_decide.2 (by omega)
   |false=>
    rw[hc]at h
    rw[N3 (n:=n) (by simpa using h)]
    unfold gF;rw[hc]
    simp
theorem Ye {W:Wd} {f:Nat}:(decide (1<((eL W W.aw f:Nat):Int))||W.kinds f !=0&&(((fM W W.aw f:Nat):Int)==0||((eL W W.aw f:Nat):Int)==1&&!fY W W.aw f))=!iL W f:=by
  rw[zg,vl]
  show _=!(decide (eL W W.aw f<=1)&&(W.kinds f==0||(decide (0<fM W W.aw f)&&!dp W.aw λi=>gF (W.af i) f)))
  rw[show decide (0<fM W W.aw f)=!(fM W W.aw f==0) by
   cases hk:fM W W.aw f==0 with
   |true=>rw[eq_of_beq hk];rfl
   |false=>
    have hk2:fM W W.aw f≠0:=by simpa using hk
    rw[decide_eq_true (Nat.pos_of_ne_zero hk2)];rfl]
  have hc:eL W W.aw f=0\/eL W W.aw f=1\/2<=eL W W.aw f:=by omega
  rcases hc with hc|hc|hc
  · rw[C7 hc,hc];simp only[bne]
    cases W.kinds f==0<;>cases fM W W.aw f==0<;>rfl
  · rw[N3 hc,hc];simp only[bne]
    cases W.kinds f==0<;>cases fM W W.aw f==0<;>cases fY W W.aw f<;>rfl
  · rw[decide_eq_true (show(1:Int)<((eL W W.aw f:Nat):Int) by omega),decide_eq_false (show¬eL W W.aw f<=1 by omega)];rfl
def Yf (W:Wd):bS where
  σ:=Nat
  rt:= [(3,0),(4,0),(5,0)]
  sh i:= [(3,bd 0),(4,bd 2),(5,bd 4),(36,.v (.int .i64 i))]
  mh i:= [(1,.row 1 W.ar λf _=> .v (.int .i64 (eL W i f:Nat))),(3,.row 1 W.ar λf _=> .v (.bool (fY W i f))),(5,.row 1 W.ar λf _=> .v (.int .i64 (fM W i f:Nat)))]
  inv i:=i<=W.aw
  μ i:=W.aw -i
  init:=0
def Yg (W:Wd) (i:Int):bS where
  σ:=Nat
  rt:= [(3,0),(4,0),(5,0),(7,0)]
  sh j:= [(3,bd 0),(4,bd 2),(5,bd 4),(7,bd 6),(59,.v (.int .i64 j))]
  mh j:= [(1,.row 1 W.ar λf _=> .v (.int .i64 ((eL W i.toNat f:Nat)+(bif gr (W.af i.toNat).base j f then 1 else 0)))),(3,.row 1 W.ar λf _=> .v (.bool (bif gr (W.af i.toNat).base j f then decide ((f:Int)<(W.af i.toNat).base+(W.af i.toNat).mark)else fY W i.toNat f)))]
  inv j:=(j:Int)<=(W.af i.toNat).len
  μ j:=(W.af i.toNat).len.toNat -j
  init:=0
structure IE where
  (W:Wd)
def IF:Sy.Spec:=⟨IE,λ⟨W⟩=> [eD W],λ_=> [],λ⟨W⟩=>bW W/\ ∀i,i<W.aw->cT W i=true,λ⟨W⟩=> .er 35 79 (xh W) (GN W),λ_=> [],
  λargs mem=>match args with| [a0]=>some ⟨d' a0⟩|_=>none⟩
def S5:aQ:=⟨[],(IF).g,none⟩
def IG:IE->Prop:=λ⟨W⟩=>let a0:=W.ar;let b0:=(a0:Int);let c0:=b0<=9223372036854775807;let d0:=0<=b0;let e0:=b0<=b0;let g0:=d0/\e0/\((8:Nat):Int)*b0<=140737488355328;let h0:=W.aw;let k0:=(h0:Int);let l0:=SV.ptr 0 0 none 0 0=SV.ptr 0 0 none 0 0;let o0:=SV.ptr (0+1+1) 0 none 0 0=SV.ptr 2 0 none 0 0;let q0:=0+1+1+1+1;let r0:=SV.ptr q0 0 none 0 0=SV.ptr 4 0 none 0 0;let u0:=Int.toNat b0;let v0:=u0=u0;let w0:=True/\0=0/\v0;let x0:=u0=a0;let y0:=(u0:Int);let z0:=false=false;let a1:=a0=a0;let b1:=SV.ptr (q0+1+1) 0 none 0 0=SV.ptr 6 0 none 0 0;let c1:=a0<=u0;c0->g0/\tn 2 (c0->(d0/\e0/\((1:Nat):Int)*b0<=140737488355328)/\tn 2 (c0->g0/\tn 2 (k0<=9223372036854775807->l0/\o0/\r0/\0=((0:Nat):Int)/\(w0/\(x0/\(∀d1:Nat,d1<a0->True/\0=((eL W 0 d1:Nat):Int)))/\w0/\(x0/\(∀e1:Nat,e1<a0->True/\false=fY W 0 e1))/\w0/\(x0/\(∀g1:Nat,g1<a0->True/\0=((fM W 0 g1:Nat):Int)))/\True)/\0<=h0/\(∀J:Nat,let k1:=(J:Int);let l1:=decide (k1<k0);let o1:=Int.toNat k1;let q1:=W.af o1;let r1:=q1.kind;let u1:=r1 !=1;let v1:=r1 !=0;let w1:=q1.base;let x1:=0<=w1/\w1<y0;let y1:=0+Int.toNat w1;let z1:Int:=((fM W J y1:Nat):Int)+1;let a2:Int:=k1+1;let b2:=ah a2=a2;let c2:=q1.mark;let d2:Int:=w1+c2;let e2:=w0/\(a1/\(∀g2:Nat,let U:=((fM W J g2:Nat):Int);g2<a0->True/\U=U))/\aD q1 q1/\True;let k2:=q1.len;let l2:=Int.toNat k2;J<=h0->(l1=true->(0<=k1/\k1<k0)/\True/\tn 6 True/\(u1=true->(v1=true->x1/\ah z1=z1/\x1/\(∀o2:Nat,z0)/\b2/\(∃q2:Nat,l0/\o0/\r0/\a2=(q2:Int)/\(w0/\(a1/\(∀r2:Nat,r2<a0->True/\((eL W J r2:Nat):Int)=((eL W q2 r2:Nat):Int)))/\w0/\(a1/\(∀u2:Nat,u2<a0->True/\
    fY W J u2=fY W q2 u2))/\w0/\(a1/\(∀v2:Nat,v2<a0->True/\cond (Nat.beq v2 y1) z1 ((fM W J v2:Nat):Int)=((fM W q2 v2:Nat):Int)))/\True)/\q2<=h0/\h0-q2<h0-J))/\(v1=false->b2/\(∃w2:Nat,l0/\o0/\r0/\a2=(w2:Int)/\(w0/\(a1/\(∀x2:Nat,x2<a0->True/\((eL W J x2:Nat):Int)=((eL W w2 x2:Nat):Int)))/\w0/\(a1/\(∀y2:Nat,y2<a0->True/\fY W J y2=fY W w2 y2))/\w0/\(a1/\(∀z2:Nat,z2<a0->True/\((fM W J z2:Nat):Int)=((fM W w2 z2:Nat):Int)))/\True)/\w2<=h0/\h0-w2<h0-J)))/\(u1=false->l0/\o0/\r0/\b1/\0=((0:Nat):Int)/\(w0/\(a1/\(∀a3:Nat,a3<a0->True/\((eL W J a3:Nat):Int)=((eL W o1 a3:Nat):Int)+cond (gr w1 0 a3) 1 0))/\w0/\(a1/\(∀b3:Nat,b3<a0->True/\fY W J b3=cond (gr w1 0 b3) (decide ((b3:Int)<d2)) (fY W o1 b3)))/\e2)/\((0:Nat):Int)<=k2/\(∀c3:Nat,let d3:=(c3:Int);let e3:=decide (d3<k2);let g3:Int:=w1+d3;let h3:=ah g3=g3;let k3:=0<=g3/\g3<y0;let l3:=0+Int.toNat g3;let o3:Int:=((eL W o1 l3:Nat):Int)+cond (gr w1 c3 l3) 1 0+1;let q3:Int:=d3+1;d3<=k2->(e3=true->h3/\k3/\ah o3=o3/\k3/\(∀r3:Nat,z0)/\h3/\k3/\(∀u3:Nat,z0)/\ah q3=q3/\(∃v3:Nat,l0/\o0/\r0/\b1/\q3=(v3:Int)/\(w0/\(a1/\(∀w3:Nat,let x3:=((eL W o1 w3:Nat):Int);w3<a0->True/\cond (Nat.beq w3 l3) o3 (x3+cond (gr w1 c3 w3) 1 0)=x3+cond (gr w1 v3 w3) 1 0))/\w0/\(a1/\(∀y3:Nat,let z3:=decide ((y3:Int)<d2);y3<a0->True/\cond (Nat.beq y3 l3) (decide (d3<c2)) (cond (gr w1 c3 y3) z3 (fY W o1 y3))=cond (gr w1 v3 y3) z3 (fY W o1 y3)))/\e2)/\(v3:Int)<=k2/\l2-v3<l2-c3))/\(e3=false->b2/\(∃a4:Nat,l0/\o0/\r0/\a2=(a4:Int)/\(w0/\(a1/\(∀b4:Nat,b4<a0->True/\
    ((eL W o1 b4:Nat):Int)+cond (gr w1 c3 b4) 1 0=((eL W a4 b4:Nat):Int)))/\w0/\(a1/\(∀c4:Nat,c4<a0->True/\cond (gr w1 c3 c4) (decide ((c4:Int)<d2)) (fY W o1 c4)=fY W a4 c4))/\w0/\(a1/\(∀d4:Nat,d4<a0->True/\((fM W J d4:Nat):Int)=((fM W a4 d4:Nat):Int)))/\True)/\a4<=h0/\h0-a4<h0-J)))))/\(l1=false->(((a1/\(∀e4:Nat,e4<a0->True/\W.kinds e4=W.kinds e4))/\(8:Int)=8/\((tn 2 (v0/\(∀g4:Nat,let h4:=((eL W J (0+g4):Nat):Int);g4<u0->True/\h4=h4))/\True/\v0/\(∀k4:Nat,let l4:=((fM W J (0+k4):Nat):Int);k4<u0->True/\l4=l4))/\True/\v0/\(∀o4:Nat,let q4:=fY W J (0+o4);o4<u0->True/\q4=q4))/\True)/\True/\(8:Int)≠0/\a0<=100000/\c1/\c1/\c1)/\(bE a0 (λr4:Nat=>let u4:=((eL W J (0+r4):Nat):Int);decide (1<u4)||W.kinds r4 !=0&&(((fM W J (0+r4):Nat):Int)==0||u4==1&&!fY W J (0+r4))) 8=xh W/\bA a0 (λv4:Nat=>let w4:=((eL W J (0+v4):Nat):Int);decide (1<w4)||W.kinds v4 !=0&&(((fM W J (0+v4):Nat):Int)==0||w4==1&&!fY W J (0+v4))) 8=GN W)/\True)))))
set_option maxHeartbeats 2000000 in
theorem R0:aL Tryz.prog aO 40 S5:=aW (.cons Wk .nil) false Tryz.call40 Tryz.func40 (λ⟨W⟩=> [.inv (Yf W),.ph false λfr=>Fz (fr 36) (Yg W)]) (V:=IG) (λ_=>by kernel_rfl) λ⟨W⟩ hp=>by
  dsimp only[IF]at hp
  dsimp only[IG,tn,ah,ak,aE,aD,ay]
  obtain⟨hz,hs⟩:=hp
  have z1:=hz.af
  have z2:=hz.k1
  simp only[aS,aZ,eq_self,implies_true,Bool.cond_self]
  have wr: ∀z:Int,-100000<=z->z<=100000->IntKind.i64.wrap z=z:=λz J U=>by rw[IntKind.wrap_i64];omega
  refineλ_=>⟨⟨by omega,by omega⟩,λ_=>⟨⟨by omega,by omega⟩,λ_=>⟨⟨by omega,by omega⟩,λ_=>⟨⟨λ_ _=>rfl,λ_ _=>rfl,λ_ _=>rfl⟩,λs rN=>⟨λh=>?_,λh=>?_⟩⟩⟩⟩⟩
  · have ai:=aY h
    have hb:=hs s ai
    have hn:=C2 hb
    have hr:=nt hn
    have c1: ∀f,eL W s f<=s:=λf=>jt _ _
    have c2: ∀f,fM W s f<=s:=λf=>jt _ _
    have eC: ∀f,eL W (s+1) f=eL W s f+(bif eO (W.af s) f then 1 else 0):=λf=>rfl
    have eK: ∀f,fM W (s+1) f=fM W s f+(bif fW (W.af s) f then 1 else 0):=λf=>rfl
    have eU: ∀f,fY W (s+1) f=bif eO (W.af s) f then decide ((f:Int)<(W.af s).base+(W.af s).mark)else fY W s f:=λf=>rfl
    have pq:(W.af s).kind≠0->1<=(W.af s).len/\(W.af s).base+(W.af s).len<=W.ar:=λhk=>by
      refine⟨CV hn hk,?_⟩
      have hb:kU W s (W.af s)=true:=hb
      rw[sr (beq_eq_false_iff_ne.2 hk)]at hb
      simp only[Bool.and_eq_true,decide_eq_true_eq]at hb
      exact hb.1.1.2
    obtain⟨S,hS⟩: ∃S,S=W.af s:=⟨_,rfl⟩
    simp only[<-hS]at eC eK eU pq hr⊢
    refine⟨by omega,λJ=>?_,λJ=>?_⟩
    · have k1:(S.kind==1)=false:=gM J
      have nc: ∀f,eO S f=false:=λf=>by unfold eO;rw[k1];rfl
      refine⟨λU=>?_,λU=>?_⟩
      · have k0:(S.kind==0)=false:=gM U
        have hf:=pq (by simpa using k0)
        have ka: ∀f:Nat,fW S f=(S.base==f):=λf=>by unfold fW;simp only[bne];rw[k1,k0];rfl
        refine⟨by omega,wr _ (by omega) (by have:=c2 S.base.toNat;omega),by omega,wr _ (by omega) (by omega),bZ ⟨⟨λi hi=>?_,λi hi=>?_,λi hi=>?_⟩,by omega,by omega⟩⟩
        · rw[eC,nc];rfl
        · rw[eU,nc];rfl
        · rw[eK,ka]
          cases gS:i.beq S.base.toNat with
          |true=>
           have xk:=Nat.eq_of_beq_eq_true gS
           subst xk
           rw[show(S.base==((S.base.toNat:Nat):Int))=true from beq_iff_eq.2 (by omega)]
           simp
          |false=>
           have cf:i≠S.base.toNat:=λe=>by subst e;rw[Nat.beq_refl]at gS;cases gS
           rw[show(S.base==(i:Int))=false from beq_eq_false_iff_ne.2 (by omega)]
           simp
      · have k0:(S.kind==0)=true:=dy U
        have ka: ∀f:Nat,fW S f=false:=λf=>by unfold fW;simp only[bne];rw[k0,k1];rfl
        refine⟨wr _ (by omega) (by omega),bZ ⟨⟨λi hi=>?_,λi hi=>?_,λi hi=>?_⟩,by omega,by omega⟩⟩
        · rw[eC,nc];rfl
        · rw[eU,nc];rfl
        · rw[eK,ka];rfl
    · have k1:(S.kind==1)=true:=dy J
      have hf:=pq (by rw[eq_of_beq k1];decide)
      have ka: ∀f:Nat,fW S f=false:=λf=>by unfold fW;simp only[bne];rw[k1];rfl
      refine⟨⟨λi hi=>by rw[Pr];simp,λi hi=>by rw[Pr];rfl⟩,by omega,λj hj=>⟨λh3=>?_,λh3=>?_⟩⟩
      · have h4:=of_decide_eq_true h3
        have hc:=c1 (S.base+(j:Int)).toNat
        have e0:gr S.base j (S.base+(j:Int)).toNat=false:=(C6 S.base j _ (by omega)).1
        rw[e0]
        refine⟨wr _ (by omega) (by omega),by omega,wr _ (by simp;omega) (by simp;omega),by omega,wr _ (by omega) (by omega),by omega,wr _ (by omega) (by omega),bZ ⟨⟨λi hi=>?_,λi hi=>?_⟩,by omega,by omega⟩⟩
        · cases gS:i.beq (S.base+(j:Int)).toNat with
          |true=>
           have xk:=Nat.eq_of_beq_eq_true gS
           subst xk
           rw[(C6 S.base j (S.base+(j:Int)).toNat (by omega)).2];simp
          |false=>
           have cf:i≠(S.base+(j:Int)).toNat:=λe=>by subst e;rw[Nat.beq_refl]at gS;cases gS
           rw[Lt S.base j i (by omega)];rfl
        · cases gS:i.beq (S.base+(j:Int)).toNat with
          |true=>
           have xk:=Nat.eq_of_beq_eq_true gS
           subst xk
           rw[(C6 S.base j (S.base+(j:Int)).toNat (by omega)).2]
           exact decide_eq_decide.2 (by omega)
          |false=>
           have cf:i≠(S.base+(j:Int)).toNat:=λe=>by subst e;rw[Nat.beq_refl]at gS;cases gS
           rw[Lt S.base j i (by omega)];rfl
      · have h4:=of_decide_eq_false h3
        have ej:(j:Int)=S.len:=by omega
        have ec: ∀f:Nat,gr S.base j f=eO S f:=λf=>by unfold gr eO;rw[k1,ej];rfl
        refine⟨wr _ (by omega) (by omega),bZ ⟨⟨λi hi=>?_,λi hi=>?_,λi hi=>?_⟩,by omega,by omega⟩⟩
        · rw[eC,ec];cases eO S i<;>simp
        · rw[eU,ec]
        · rw[eK,ka];rfl
  · have bo:=bD h
    obtain rfl:s=W.aw:=by omega
    have e:=RS (n:=W.ar) (e:=8) (r:=(0,-1)) (r':=(0,-1)) (λf (hf:f<W.ar)=>Ye (W:=W) (f:=f)) (λ_=>rfl)
    refine⟨⟨by decide,by omega,Nat.le_refl _⟩,?_,?_⟩
    · exact congrArg (·.1) e
    · exact congrArg (·.2) e
end Go.Proofs.YtmieeldmfehpoaaGreatDoor
set_option linter.unusedVariables false
set_option linter.unusedSimpArgs false
set_option maxRecDepth 100000
namespace Go.Proofs.YtmieeldmfehpoaaGreatDoor
open Go.RowKit Go.Sy
def Seq (f:Int×Int->Int×Int):Prop:= ∀r,((f (0,-1)).1=0->f r=r)/\((f (0,-1)).1≠0->f r=f (0,-1))
theorem Seq.fst {n:Nat} {p:Nat->Bool} {e:Int} (he:e≠0):Seq (bB n p e):=λr=>Cl he
theorem Seq.comp {f g:Int×Int->Int×Int} (hf:Seq f) (hg:Seq g):Seq λr=>f (g r):=by
  intro r
  show((f (g (0,-1))).1=0->f (g r)=r)/\((f (g (0,-1))).1≠0->f (g r)=f (g (0,-1)))
  rcases Decidable.em ((f (0,-1)).1=0)with h|h
  · rw[(hf (g r)).1 h,(hf (g (0,-1))).1 h];exact hg r
  · rw[(hf (g r)).2 h,(hf (g (0,-1))).2 h];exact⟨λU=>absurd U h,λ_=>rfl⟩
theorem seq1 (W:Wd):Seq (oA W):=(Seq.fst (by decide)).comp ((Seq.fst (by decide)).comp (Seq.fst (by decide)))
theorem PZ (W:Wd):Seq (pO W):=Seq.fst (by decide)
theorem P0 (W:Wd):Seq (rR W):=Seq.fst (by decide)
theorem P1 (W:Wd):Seq (pP W):=Seq.fst (by decide)
theorem P2 (W:Wd):Seq (pQ W):=Seq.fst (by decide)
theorem P3 (W:Wd):Seq (pR W):=(Seq.fst (by decide)).comp (Seq.fst (by decide))
theorem P4 (W:Wd):Seq (pS W):=(Seq.fst (by decide)).comp (Seq.fst (by decide))
theorem kp {W:Wd} {f:Int×Int->Int×Int} (hf:Seq f) {r:Int×Int} (hx:wm W=f r):(((f (0,-1)).1 !=0)=true->(f (0,-1)).1=wE W/\(f (0,-1)).2=wA W)/\(((f (0,-1)).1 !=0)=false->wm W=r):=by
  refine⟨λh=>?_,λh=>?_⟩
  · unfold wE wA;rw[hx,(hf r).2 (by simpa using h)];exact⟨rfl,rfl⟩
  · rw[hx,(hf r).1 (by simpa using h)]
theorem Yd {W:Wd} (h:(ni W !=0)=false): ∀i,i<W.aq->fp (W.aa i):=λi hi=>by
  have J:(oA W (0,-1)).1=0:=by simpa [ni]using h
  have:=(kD (by decide) J).1 i hi
  simp[aB]at this
  exact⟨by omega,by omega⟩
theorem Uo {W:Wd} (h:(rU W !=0)=false): ∀i,i<W.aw->cT W i=true:=λi hi=>by
  have J:(pO W (0,-1)).1=0:=by simpa [rU]using h
  have:=(kD (by decide) J).1 i hi
  exact dy this
structure oH where
  (W:Wd)
def uM:Sy.Spec:=⟨oH,λ⟨W⟩=> [eY W],λ_=> [],λ⟨W⟩=>Sm W,λ⟨W⟩=> .er 35 79 (wE W) (wA W),λ_=> [],
  λargs mem=>match args with| [a0]=>some ⟨eP a0⟩|_=>none⟩
def Up:aQ:=⟨[],(uM).g,none⟩
def JM:oH->Prop:=λ⟨W⟩=>let a0:=W.ar;let b0:=(a0:Int);let c0:=W.aP;let d0:=(c0:Int);let e0:=cond (cond (cond (decide (b0<1)) true (decide (24<b0))) true (decide (d0<1))) true (decide (4<d0));let g0:Int:=b0*16;let h0:=ah g0=g0;let k0:=W.aq;let l0:=cond e0 true ((k0:Int) !=g0);let o0:=W.aw;let q0:=W.az;let r0:=W.ba;let u0:=W.aN;let v0:=cond (cond (cond (cond l0 true ((o0:Int) !=g0)) true ((q0:Int) !=b0)) true ((r0:Int) !=b0)) true ((u0:Int) !=b0);let w0:Int:=d0*4;let x0:=W.aT;let y0:=W.aG;let z0:=W.aI;let a1:=cond (cond (cond (cond v0 true ((x0:Int) !=w0)) true ((y0:Int) !=d0)) true (decide ((z0:Int)<1))) true (decide (8<(z0:Int)));let b1:=W.time=W.time;let c1:=cond a1 true (aB W.time 1000000);let d1:=wE W;let e1:=wA W;let g1:=((7:Nat):Int);let J:=(((((((((((True/\k0=k0/\(∀k1:Nat,k1<k0->True/\W.aa k1=W.aa k1))/\a0=a0/\(∀l1:Nat,l1<a0->True/\W.kinds l1=W.kinds l1))/\o0=o0/\(∀o1:Nat,o1<o0->aD (W.af o1) (W.af o1)))/\q0=q0/\(∀q1:Nat,q1<q0->aE (W.tasks q1) (W.tasks q1)))/\r0=r0/\(∀r1:Nat,let u1:=W.ao r1;r1<r0->True/\u1=u1/\(∀v1:Nat,v1<u1->True/\W.lines r1 v1=W.lines r1 v1)))/\u0=u0/\(∀w1:Nat,w1<u0->True/\W.bits w1=W.bits w1))/\c0=c0/\(∀x1:Nat,x1<c0->True/\W.aF x1=W.aF x1))/\x0=x0/\(∀y1:Nat,let z1:=W.aJ y1;y1<x0->True/\z1=z1/\(∀a2:Nat,a2<z1->True/\W.ready y1 a2=W.ready y1 a2)))/\y0=y0/\(∀b2:Nat,let c2:=W.aA b2;b2<y0->True/\c2=c2/\(∀d2:Nat,d2<c2->ay (W.aj b2 d2) (W.aj b2 d2))))/\z0=z0/\(∀e2:Nat,e2<z0->True/\W.aM e2=W.aM e2))/\b1)/\True;let g2:Int:=0+1;let U:Int:=g2+1;
    let k2:Int:=U+1;let l2:=(∀o2:Nat,o2<r0->W.ao o2<=50)/\(∀q2:Nat,q2<x0->W.aJ q2<=50)/\(∀r2:Nat,r2<y0->W.aA r2<=50);let u2:=J/\True/\bW W/\l2;let v2:Int:=k2+1;let w2:Int:=v2+1;let x2:Int:=w2+1;let y2:Int:=x2+1;tn 8 ((e0=false->h0)/\(l0=false->h0)/\(v0=false->ah w0=w0)/\(a1=false->(b1/\(1000000:Int)=1000000/\True)/\True/\True)/\(c1=true->((2:Int)≠0/\d1=2/\e1=(-1))/\True)/\(c1=false->tn 2 (g1<=9223372036854775807->((0:Int)<=0/\0<g1)/\(J/\True/\Cm.match_1 (λz2:yi=>Prop) (yi.mk W) (λa3:Wd=>Sm a3))/\((ni W !=0)=true->(ni W=d1/\ug W=e1)/\True)/\((ni W !=0)=false->ah g2=g2/\(0<=g2/\g2<g1)/\(J/\True/\C5.match_1 (λb3:yF=>Prop) (yF.mk W) (λc3:Wd=>bW c3))/\((rU W !=0)=true->(rU W=d1/\GM W=e1)/\True)/\((rU W !=0)=false->ah U=U/\(0<=U/\U<g1)/\(J/\True/\bW W/\(∀d3:Nat,d3<o0->cT W d3=true))/\((xh W !=0)=true->(xh W=d1/\GN W=e1)/\True)/\((xh W !=0)=false->ah k2=k2/\(0<=k2/\k2<g1)/\u2/\((uh W !=0)=true->(uh W=d1/\Bf W=e1)/\True)/\((uh W !=0)=false->ah v2=v2/\(0<=v2/\v2<g1)/\u2/\((ui W !=0)=true->(ui W=d1/\Bg W=e1)/\True)/\((ui W !=0)=false->ah w2=w2/\(0<=w2/\w2<g1)/\u2/\((rV W !=0)=true->(rV W=d1/\xi W=e1)/\True)/\((rV W !=0)=false->ah x2=x2/\(0<=x2/\x2<g1)/\(J/\True/\bW W/\l2/\(∀e3:Nat,e3<k0->0<=W.aa e3/\W.aa e3<=65535))/\((rW W !=0)=true->(rW W=d1/\xj W=e1)/\True)/\((rW W !=0)=false->ah y2=y2/\(d1=0/\e1=(-1))/\True))))))))))
set_option maxHeartbeats 2000000 in
theorem BM:aL Tryz.prog aO 26 Up:=aW (.cons sI (.cons S1 (.cons Uq (.cons R0 (.cons S2 (.cons S3 (.cons S4 (.cons Ur .nil)))))))) false Tryz.call26 Tryz.func26 (λ_=> [.dec,.Dq 8]) (V:=JM) (λ_=>by kernel_rfl) λ⟨W⟩ hp=>by
  dsimp only[uM]at hp
  dsimp only[JM,tn,ah,ak,aE,aD,ay]
  simp only[aS,aZ,eq_self,implies_true,Bool.cond_self]
  have wr: ∀z:Int,-100000<=z->z<=100000->IntKind.i64.wrap z=z:=λz J U=>by rw[IntKind.wrap_i64];omega
  have b2:=hp.kinds
  have b4:=hp.aF
  rw[Ik]
  refine⟨λ_=>wr _ (by omega) (by omega),λ_=>wr _ (by omega) (by omega),λ_=>wr _ (by omega) (by omega),λh=>?_,λh _=>⟨⟨by decide,by decide⟩,hp,?_⟩⟩
  · have:wm W=(2,-1):=by unfold wm;rw[h];rfl
    unfold wE wA;rw[this];exact⟨by decide,rfl,rfl⟩
  have hz:=D2 h
  have X1:wm W=(oA W (pO W (rR W (pP W (pQ W (pR W (pS W (0,-1)))))))):=by unfold wm;rw[h];rfl
  refine⟨(kp (seq1 W) X1).1,λg1=>⟨wr _ (by decide) (by decide),⟨by decide,by decide⟩,hz,?_⟩⟩
  have X2:=(kp (seq1 W) X1).2 g1
  refine⟨(kp (PZ W) X2).1,λg2=>⟨wr _ (by decide) (by decide),⟨by decide,by decide⟩,⟨hz,Uo g2⟩,?_⟩⟩
  have X3:=(kp (PZ W) X2).2 g2
  refine⟨(kp (P0 W) X3).1,λg3=>⟨wr _ (by decide) (by decide),⟨by decide,by decide⟩,⟨hz,hp.sm⟩,?_⟩⟩
  have X4:=(kp (P0 W) X3).2 g3
  refine⟨(kp (P1 W) X4).1,λg4=>⟨wr _ (by decide) (by decide),⟨by decide,by decide⟩,⟨hz,hp.sm⟩,?_⟩⟩
  have X5:=(kp (P1 W) X4).2 g4
  refine⟨(kp (P2 W) X5).1,λg5=>⟨wr _ (by decide) (by decide),⟨by decide,by decide⟩,⟨hz,hp.sm⟩,?_⟩⟩
  have X6:=(kp (P2 W) X5).2 g5
  refine⟨(kp (P3 W) X6).1,λg6=>⟨wr _ (by decide) (by decide),⟨by decide,by decide⟩,⟨hz,hp.sm,Yd g1⟩,?_⟩⟩
  have X7:=(kp (P3 W) X6).2 g6
  refine⟨(kp (P4 W) X7).1,λg7=>⟨wr _ (by decide) (by decide),?_⟩⟩
  have X8:=(kp (P4 W) X7).2 g7
  unfold wE wA;rw[X8];exact⟨rfl,rfl⟩
end Go.Proofs.YtmieeldmfehpoaaGreatDoor
set_option linter.unusedVariables false
set_option linter.unusedSimpArgs false
set_option maxRecDepth 100000
namespace Go.Proofs.YtmieeldmfehpoaaGreatDoor
open Go.RowKit Go.Sy
def zSl:cp:=⟨0,0,0,0,0,0,0⟩
end Go.Proofs.YtmieeldmfehpoaaGreatDoor
