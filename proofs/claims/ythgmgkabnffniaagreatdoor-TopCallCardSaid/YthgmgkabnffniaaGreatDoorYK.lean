/- The program's look at a world: frames, tasks. -/
import Derived.Test.YthgmgkabnffniaaGreatDoorYJ
set_option linter.unusedVariables false
set_option linter.unusedSimpArgs false
set_option maxRecDepth 100000
namespace Go.Proofs.YthgmgkabnffniaaGreatDoor
open Go.RowKit Go.Sy
def ab1 (W:Wd) (f:Nat):cQ where
 σ:=Nat
 rt:= [(4,0),(37,1)]
 sh i:= [(4,cm 0),(37,.aS 1 0 none 0 11),(39,.v (.int .i64 i))]
 mh _:= []
 inv i:=i<=11/\∀j,j<i->az (fX [(W.tasks f).r0,(W.tasks f).r1,(W.tasks f).r2,(W.tasks f).r3,(W.tasks f).r4,(W.tasks f).r5,(W.tasks f).r6,(W.tasks f).r7,(W.tasks f).pc,(W.tasks f).word,(W.tasks f).aH] j) 65535=false
 μ i:=11 -i
 init:=0
def ab2 (W:Wd) (f:Nat):cQ where
 σ:=Nat
 rt:= [(4,0)]
 sh i:= [(4,cm 0),(126,.v (.int .i64 i)),(8,.v (.int .i64 (bD i λk=>(W.tasks k).ar==f:Nat)))]
 mh _:= []
 inv i:=i<=W.aO
 μ i:=W.aO -i
 init:=0
structure S4 where
 b:Bool
def XX (W:Wd) (f:Nat):Cut where
 σ:=S4
 rt:= [(4,0)]
 sh s:= [(4,cm 0),(11,.v (.int .i64 (cB W f:Nat))),(12,.v (.int .i64 (cu W f:Nat))),(13,.v (.int .i64 0)),(14,.v (.int .i64 0)),(171,.v (.int .i64 (W.tasks f).st)),(172,.v (.bool s.b))]
 mem _:= [.cells (la (W.tasks f))]
 inv s:=s.b=((W.tasks f).st==2||(W.tasks f).st==3||(W.tasks f).st==4||(W.tasks f).st==6)
 dec fr _:=⟨oH (fr 172)⟩
theorem Zy (a:Nat):(((a:Nat):Int) !=0)=!(a==0):=by rw[bne,O9]
theorem Zz (a:Nat):(((a:Nat):Int) !=1)=!(a==1):=by rw[bne,Hn]
theorem adx {W:Wd} {f k:Int} (b:k≠ -1):(decide (f<0)||!okF W f k)=!(bK W f==k):=by
 unfold okF;rcases tv f 0 with h|h
 ·rw[decide_eq_true h,M3 (.inl h),show((-1:Int)==k)=false from beq_eq_false_iff_ne.2 λe=>b e.symm];rfl
 ·rw[decide_eq_false (show¬f<0 by omega),show(f== -1)=false from beq_eq_false_iff_ne.2 (by omega)];rfl
theorem XY {W:Wd} {f c:Nat} (b:bV W f=c):(decide (1<(c:Int))||(((c:Int)==1) !=((W.tasks f).st==5)))=!pO W f:=by
 unfold pO;rw[b,Hn];rcases bR 1 c with h|h
 ·rw[decide_eq_true (show(1:Int)<c by omega),decide_eq_false (show¬c<=1 by omega)];rfl
 ·rw[decide_eq_false (show¬(1:Int)<c by omega),decide_eq_true (show c<=1 by omega)];cases c==1<;>cases (W.tasks f).st==5<;>rfl
theorem ab3 {t:aF} {s:Nat}:(bif s.blt 8 then[t.r0,t.r1,t.r2,t.r3,t.r4,t.r5,t.r6,t.r7].getD s 0 else[t.pc,t.word,t.aH].getD (s -8) 0)= [t.r0,t.r1,t.r2,t.r3,t.r4,t.r5,t.r6,t.r7,t.pc,t.word,t.aH].getD s 0:=by
 rcases bR s 8 with h|h
 ·rw[gY h];have:s=0\/s=1\/s=2\/s=3\/s=4\/s=5\/s=6\/s=7:=by omega
  rcases this with rfl|rfl|rfl|rfl|rfl|rfl|rfl|rfl<;>rfl
 ·rw[kZ h];obtain⟨k,rfl⟩:∃k,s=8+k:=⟨s -8,by omega⟩;rw[show 8+k -8=k by omega,jZ];rfl
theorem ab4 {W:Wd} {f:Nat} (h:∀j,j<11->az (fX [(W.tasks f).r0,(W.tasks f).r1,(W.tasks f).r2,(W.tasks f).r3,(W.tasks f).r4,(W.tasks f).r5,(W.tasks f).r6,(W.tasks f).r7,(W.tasks f).pc,(W.tasks f).word,(W.tasks f).aH] j) 65535=false):gV (W.tasks f)=false/\az (W.tasks f).pc 65535=false/\az (W.tasks f).word 65535=false/\az (W.tasks f).aH 65535=false:=by
 refine⟨ZA λj c=>?_,h 8 (by omega),h 9 (by omega),h 10 (by omega)⟩;have:=h j (by omega);have b:j=0\/j=1\/j=2\/j=3\/j=4\/j=5\/j=6\/j=7:=by omega
 rcases b with rfl|rfl|rfl|rfl|rfl|rfl|rfl|rfl<;>exact this
theorem ab5 {W:Wd} {f s:Nat} (hs:s<11) (h:az ([(W.tasks f).r0,(W.tasks f).r1,(W.tasks f).r2,(W.tasks f).r3,(W.tasks f).r4,(W.tasks f).r5,(W.tasks f).r6,(W.tasks f).r7,(W.tasks f).pc,(W.tasks f).word,(W.tasks f).aH].getD s 0) 65535=true):(!gV (W.tasks f)&&!fk W (W.tasks f))=false:=by
 cases h1:gV (W.tasks f)with
 |true=>rfl
 |false=>
  cases h2:fk W (W.tasks f)with
  |true=>rfl
  |false=>
   exfalso;have c:=ZB h1;unfold fk at h2;simp only[bX]at h2;have:s<8\/s=8\/s=9\/s=10:=by omega
   rcases this with d|rfl|rfl|rfl
   ·have e:=c s d;have b:s=0\/s=1\/s=2\/s=3\/s=4\/s=5\/s=6\/s=7:=by omega
    rcases b with rfl|rfl|rfl|rfl|rfl|rfl|rfl|rfl<;>exact nE (e.symm.trans h)
   ·exact nE (h2.1.1.1.1.1.1.symm.trans h)
   ·exact nE (h2.1.1.1.1.1.2.symm.trans h)
   ·exact nE (h2.1.1.1.1.2.symm.trans h)
structure Ks where
 (HO:Unit)
def U0:Sy.Spec:=⟨Ks,λ_=> [],λ_=> [],λ_=>True,λ_=> .ag 20 (aN (la aF.blank)),λ_=> [],
 λargs mem=>match args with| []=>some ⟨()⟩|_=>none⟩
def U1:aZ:=⟨[],(U0).g,none⟩
def Kt:Ks->Prop:=λ_=>let a0:=aF.mk 0 0 0 0 0 0 0 0 0 0 0 (-1) (-1) (-1) (-1) 0 0 (-1) 0 0;True/\tn 19 True/\aJ a0 a0/\True
theorem T3:aY Tryz.prog bk 113 U1:=bn .nil false Tryz.call113 Tryz.func113 (λ_=> []) (V:=Kt) (λ_=>by kernel_rfl) λ_ hp=>by dsimp only[Kt,tn,aw,aB,aJ,aK,aG];simp only[bq,eq_self,implies_true,bo]
structure Ku where
 (i k:Int) (nc:Nat) (cl:Nat->Int) (nk:Nat) (ky:Nat->Int) (nu:Nat) (us:Nat->Bool)
def Kv:Sy.Spec:=⟨Ku,λ⟨i,k,nc,cl,nk,ky,nu,us⟩=> [.v (.int .i64 i),.v (.int .i64 k),.pt true 1 (λ_=> .sl true 1 nc (iF cl)),.pt true 1 (λ_=> .sl true 1 nk (iF ky)),.pt true 1 (λ_=> .sl true 1 nu (λi _=> .v (.bool (us i))))],λ_=> [],λ⟨i,_,nc,_,nk,_,nu,_⟩=>0<=i/\i<nc/\i<nk/\i<nu,λ⟨i,k,_,cl,_,ky,_,us⟩=> .v (.bool (decide (1<cl i.toNat)||(k !=0&&(ky i.toNat==0||(cl i.toNat==1&&!us i.toNat))))),λ_=> [],
 λargs mem=>match args with| [a0,a1,b,a3,a4]=>some ⟨av (a0),av (a1),bT (bN b 0),λi=>av (bO (bN b 0) i 0),bT (bN a3 0),λi=>av (bO (bN a3 0) i 0),bT (bN a4 0),λi=>oH (bO (bN a4 0) i 0)⟩|_=>none⟩
def U2:aZ:=⟨[],(Kv).g,none⟩
def Kw:Ku->Prop:=λ⟨i,k,nc,cl,nk,ky,nu,us⟩=>let a0:=0<=i/\i<(nc:Int);let b0:=(k !=0)=true;let c0:=decide (1<cl (Int.toNat i));let d0:=c0=false;let e0:=ky (Int.toNat i)==0;let b:=e0=false;let h0:=cl (Int.toNat i)==1;let k0:=!us (Int.toNat i);a0/\(b0->d0->0<=i/\i<(nk:Int))/\(b->b0->d0->a0)/\(h0=true->b->b0->d0->0<=i/\i<(nu:Int))/\cond c0 true (cond (k !=0) (cond e0 true (cond h0 k0 false)) false)=(c0||k !=0&&(e0||h0&&k0))/\True
theorem T2:aY Tryz.prog bk 110 U2:=bn .nil false Tryz.call110 Tryz.func110 (λ_=> []) (V:=Kw) (λ_=>by kernel_rfl) λ⟨i,k,nc,cl,nk,ky,nu,us⟩ hp=>by dsimp only[Kv]at hp;dsimp only[Kw,tn,aw,aB,aJ,aK,aG];simp only[bq,bx,eq_self,implies_true,bo];refine⟨?_,λ_ _=>?_,λ_ _ _=>?_,λ_ _ _ _=>?_⟩<;>omega
structure Lw where
 (i:Int) (W:Wd)
def Lx:Sy.Spec:=⟨Lw,λ⟨i,W⟩=> [.v (.int .i64 i),.ag 20 (aN (la (W.tasks i.toNat))),.pt true 1 (λ_=>dN W)],λ_=> [],λ⟨i,W⟩=>bQ W/\m8 W/\0<=i/\i<W.ak,λ⟨i,W⟩=> .v (.bool (!eN W i.toNat)),λ_=> [],
 λargs mem=>match args with| [a0,a1,b]=>some ⟨av (a0),dJ (bN b 0)⟩|_=>none⟩
def Wb:aZ:=⟨[],(Lx).g,none⟩
def Ly:Lw->Prop:=λ⟨i,W⟩=>let a0:=W.ak;let b0:=Int.toNat i;let c0:=W.kinds b0 !=6;let d0:=True/\True;let e0:=True/\d0;let c:=W.tasks b0;let h0:=c.r0;let k0:=c.r1;let Z:=c.r2;let o0:=c.r3;let q0:=c.r4;let u0:=c.r5;let v0:=c.r6;let w0:=c.r7;let x0:=c.pc;let e:=c.st;let z0:=c.prio;let a1:=c.node;let b1:=c.space;let c1:=c.helper;let d1:=c.loc;let e1:=c.word;let g1:=c.aH;let h1:=c.ar;let k1:=c.core;let A:=c.cI;let o1:=!eN W b0;let q1:=((11:Nat):Int);let u1:=SV.ptr 0 0 none 0 0;let v1:=u1=u1;let w1:=aJ c c;let x1:=[h0,k0,Z,o0,q0,u0,v0,w0];let y1:=[x0,e1,g1];let z1:=w1/\(8+3=8+3/\(∀B:Nat,let b2:Int:=cond (Nat.blt B 8) (List.getD x1 B 0) (List.getD y1 (0+(B-8)) 0);B<8+3->True/\b2=b2))/\True;let c2:=(h0::k0::Z::o0::q0::u0::v0::w0::y1);let d2:=true=o1/\True;let r:=e=e;let g2:=(6:Int)=6/\True;let h2:=az e 6;let k2:=(3:Int)=3/\True;let l2:=cond h2 true (az z0 3);let o2:=l2=false;let k:=W.aC;let t:Int:=(k:Int)-1;let v2:=cond l2 true (az k1 t);let w2:=cond v2 true (az A 3);let x2:=W.ao;let d:=W.aO;let h:=W.aX;let a3:=h=h/\(∀C:Nat,let c3:=W.ah C;C<h->True/\c3=c3/\(∀d3:Nat,d3<c3->True/\W.lines C d3=W.lines C d3));let e3:=k=k/\(∀g3:Nat,g3<k->True/\W.ai g3=W.ai g3);let l:=W.aR;let k3:=l=l/\(∀E:Nat,let o3:=W.al E;E<l->True/\o3=o3/\(∀q3:Nat,q3<o3->True/\W.ready E q3=W.ready E q3));
 let n:=((((((((((True/\W.ay=W.ay/\(∀v3:Nat,v3<W.ay->True/\W.af v3=W.af v3))/\a0=a0/\(∀w3:Nat,w3<a0->True/\W.kinds w3=W.kinds w3))/\x2=x2/\(∀x3:Nat,x3<x2->aK (W.aa x3) (W.aa x3)))/\d=d/\(∀y3:Nat,y3<d->aJ (W.tasks y3) (W.tasks y3)))/\a3)/\W.aP=W.aP/\(∀z3:Nat,z3<W.aP->True/\W.bits z3=W.bits z3))/\e3)/\k3)/\W.aQ=W.aQ/\(∀a4:Nat,let b4:=W.aD a4;a4<W.aQ->True/\b4=b4/\(∀c4:Nat,c4<b4->aG (W.ax a4 c4) (W.ax a4 c4))))/\W.aL=W.aL/\(∀d4:Nat,d4<W.aL->True/\W.aA d4=W.aA d4))/\W.time=W.time;let e4:=cond w2 true (!okF W a1 5);let g4:=cond e4 true (!okF W b1 4);let h4:=(7:Int)=7/\True;let k4:=True/\((7:Int)=(-1)->False);let l4:=cond g4 true (!okF W c1 7);let o4:=cond l4 true (!okF W h1 6);let q4:=decide (0<=h1);let G:=(d:Int);let v4:=e==4;let w4:=cond q4 (cond ((W.tasks (Int.toNat h1)).st !=5) true v4) false;let I:=(b0:Int);let j:=w1/\True;let z4:=e==5;let J:=i=i/\True;let b5:Int:=((cP l W.al W.ready i:Nat):Int)+((cP 1 (λc5:Nat=>k) (λd5:Nat=>W.ai) i:Nat):Int);let o:=e==2;let g5:=((cB W b0:Nat):Int);let K:=((cP h W.ah W.lines i:Nat):Int)=g5;let k5:=((cu W b0:Nat):Int);let O:=b5=k5;let g:=(0:Int)=0;let p:=e==3;let q:=e==6;let u:=o||p||v4||q;let w5:=decide (d1<0);let x5:=w5=false;let y5:=d1=d1;let z5:=cond w5 true (!okF W d1 8);let a6:=z5=false;let b6:=0<=d1/\d1<(h:Int);let c6:=Int.toNat d1;let v:=W.ah c6;let R:=W.lines c6;
 let g6:=((v=v/\(∀h6:Nat,h6<v->True/\R h6=R h6))/\J)/\True/\EE.match_1 (λk6:A4=>Prop) (A4.mk v R i) (λl6:Nat=>λo6:∀q6:Nat,Int=>λu6:Int=>l6<=100000);let v6:=!cK v R i;let w6:=cond z5 true v6;let x6:=d1 !=(-1);let y6:=k5 !=0;let z6:=cond (cond (cond ((1:Int)==0) x6 false) true (g5 !=1)) true y6=o1/\True;let a7:=cond w5 true (!okF W d1 7);let b7:=a7=false;let c7:=cond a7 true v6;let d7:=e==1;let e7:=cond (cond ((0:Int)==0) x6 false) true (g5 !=0);True/\(0<=i/\i<(a0:Int))/\(c0=true->True/\e0/\(!(h0==0&&(k0==0&&(Z==0&&(o0==0&&(q0==0&&(u0==0&&(v0==0&&(w0==0&&true)))))))&&(x0==0&&(e==0&&(z0==0&&(a1==(-1)&&(b1==(-1)&&(c1==(-1)&&(d1==(-1)&&(e1==0&&(g1==0&&(h1==(-1)&&(k1==0&&(A==0&&true))))))))))))))=o1/\True)/\(c0=false->tn 10 (((8+3)*8<=140737488355328/\(∀g7:Nat,true=true))/\(q1<=9223372036854775807->v1/\(0=0/\11=11)/\0=((0:Nat):Int)/\z1/\(0<=11/\(∀h7:Nat,h7<0->az (List.getD c2 h7 0) 65535=false))/\(∀S:Nat,let x:=(S:Int);let o7:=decide (x<q1);let q7:=0+Int.toNat x;let u7:Int:=cond (Nat.blt q7 8) (List.getD x1 q7 0) (List.getD y1 (0+(q7-8)) 0);let v7:=az u7 65535;let w7:Int:=x+1;S<=11/\(∀x7:Nat,x7<S->az (List.getD c2 x7 0) 65535=false)->(o7=true->(0<=x/\x<q1)/\((u7=u7/\(65535:Int)=65535/\True)/\d0)/\(v7=true->d2)/\(v7=false->aw w7=w7/\(∃T:Nat,v1/\(0=0/\11=11)/\w7=(T:Int)/\z1/\(T<=11/\(∀z7:Nat,z7<T->az (List.getD c2 z7 0) 65535=false))/\11-T<11-S)))/\(o7=false->tn 2 (((r/\g2)/\d0)/\tn 3 ((h2=false->(z0=z0/\k2)/\d0)/\tn 10 ((o2->aw t=t)/\(o2->(k1=k1/\t=t/\True)/\d0)/\
 tn 4 ((v2=false->(A=A/\k2)/\d0)/\tn 5 ((w2=false->(n/\a1=a1/\(5:Int)=5/\True)/\True/\((5:Int)=(-1)->False))/\tn 6 ((e4=false->(n/\b1=b1/\(4:Int)=4/\True)/\True/\((4:Int)=(-1)->False))/\tn 6 ((g4=false->(n/\c1=c1/\h4)/\k4)/\tn 6 ((l4=false->(n/\h1=h1/\g2)/\True/\((6:Int)=(-1)->False))/\(o4=true->d2)/\(o4=false->tn 11 ((q4=true->0<=h1/\h1<G)/\(w4=true->d2)/\(w4=false->G<=9223372036854775807->v1/\0=((0:Nat):Int)/\0=((bD 0 (λa8:Nat=>(W.tasks a8).ar==I):Nat):Int)/\j/\0<=d/\(∀y:Nat,let z:=(y:Int);let d8:=decide (z<G);let e8:=(W.tasks (Int.toNat z)).ar==i;let U:=((bD y (λh8:Nat=>(W.tasks h8).ar==I):Nat):Int);let k8:Int:=U+1;let V:Int:=z+1;let o8:=aw V=V;let q8:=cond (decide (1<U)) true ((U==1) !=z4);y<=d->(d8=true->(0<=z/\z<G)/\True/\tn 17 e0/\(e8=true->aw k8=k8/\o8/\(∃X:Nat,v1/\V=(X:Int)/\k8=((bD X (λu8:Nat=>(W.tasks u8).ar==I):Nat):Int)/\j/\X<=d/\d-X<d-y))/\(e8=false->o8/\(∃Y:Nat,v1/\V=(Y:Int)/\U=((bD Y (λw8:Nat=>(W.tasks w8).ar==I):Nat):Int)/\j/\Y<=d/\d-Y<d-y)))/\(d8=false->(q8=true->d2)/\(q8=false->tn 6 (((a3/\J)/\True/\h<=1000/\(∀x8:Nat,x8<h->W.ah x8<=1000))/\tn 6 (((k3/\J)/\True/\l<=1000/\(∀y8:Nat,y8<l->W.al y8<=1000))/\tn 7 ((((1=1/\(∀z8:Nat,z8<1->True/\e3))/\J)/\True/\1<=1000/\(∀a9:Nat,a9<1->k<=1000))/\aw b5=b5/\True/\((o=true->v1/\K/\O/\g/\g/\r/\o=o/\j/\o=u)/\(o=false->(p=true->v1/\K/\O/\g/\g/\r/\p=p/\j/\p=u)/\(p=false->(v4=true->v1/\K/\O/\g/\g/\r/\v4=v4/\j/\v4=u)/\(v4=false->v1/\K/\O/\g/\g/\r/\q=q/\j/\q=u))))/\(∀b9:S4,b9.b=u->(b9.b=true->(q=true->tn 8 ((x5->(n/\y5/\(8:Int)=8/\
 True)/\True/\((8:Int)=(-1)->False))/\tn 10 ((a6->b6)/\tn 2 ((a6->g6)/\(w6=true->d2)/\(w6=false->z6)))))/\(q=false->tn 8 ((x5->(n/\y5/\h4)/\k4)/\tn 10 ((b7->b6)/\tn 2 ((b7->g6)/\(c7=true->d2)/\(c7=false->z6))))))/\(b9.b=false->(d7=true->cond e7 true (k5 !=1)=o1/\True)/\(d7=false->cond e7 true y6=o1/\True)))))))))))))))))))))))))
set_option maxHeartbeats 1000000 in
theorem UX:aY Tryz.prog bk 112 Wb:=bn (.cons wF (.cons T3 (.cons U3 (.cons Tg (.cons ZC .nil))))) false Tryz.call112 Tryz.func112 (λ⟨i,W⟩=> [.inv (ab1 W i.toNat),.inv (ab2 W i.toNat),.cut 29 (XX W i.toNat)]) (V:=Ly) (λ_=>by kernel_rfl) λ⟨i,W⟩ hp=>by
 dsimp only[Lx]at hp;dsimp only[Ly,tn,aw,aB,aJ,aK,aG];obtain⟨n,hm,f0,f1⟩:=hp;obtain⟨F,rfl⟩:∃F:Nat,i=F:=⟨i.toNat,by omega⟩;simp only[bq,bx,eq_self,implies_true,bo];have J:=n.tasks;have K:=n.k1;have y:=n.lines;have O:=n.c1;have R:=n.c0;have S:=n.ready;simp only[ab3];refine⟨by omega,λh=>?_,λh=>⟨by decide,λ_ s hs=>⟨λh1=>?_,λh1=>?_⟩⟩⟩
 ·unfold eN;rw[h];rfl
 ·have core:=Ns h;have o:s<11:=by have:=of_decide_eq_true h1;omega
  refine⟨by omega,λh2=>?_,λh2=>⟨by rw[IntKind.wrap_i64];omega,eU ⟨⟨by omega,ir (p:=λj=>az (fX [(W.tasks F).r0,(W.tasks F).r1,(W.tasks F).r2,(W.tasks F).r3,(W.tasks F).r4,(W.tasks F).r5,(W.tasks F).r6,(W.tasks F).r7,(W.tasks F).pc,(W.tasks F).word,(W.tasks F).aH] j) 65535) hs.2 h2⟩,by omega⟩⟩⟩;rw[core,ab5 o h2];rfl
 have core:=Ns h;have T:s=11:=by have:=of_decide_eq_false h1;omega
 obtain⟨q,z,A,B⟩:=ab4 (W:=W) (f:=F) λj hj=>hs.2 j (by omega);rw[q]at core;have U:fk W (W.tasks F)=(az (W.tasks F).st 6||az (W.tasks F).prio 3||az (W.tasks F).core (W.aC -1)||az (W.tasks F).cI 3):=by unfold fk;rw[z,A,B];rfl
 have X:(az (W.tasks F).st 6||az (W.tasks F).prio 3||az (W.tasks F).core (W.aC -1)||az (W.tasks F).cI 3||!okF W (W.tasks F).node 5||!okF W (W.tasks F).space 4||!okF W (W.tasks F).helper 7||!okF W (W.tasks F).ar 6)=!(!fk W (W.tasks F)&&fx W (W.tasks F)):=by rw[U];unfold fx;simp only[zo,zf,CV,CW]
 rw[X];refine⟨λ_=>by rw[IntKind.wrap_i64];omega,λ_=>by decide,λ_=>by decide,λ_=>by decide,λ_=>by decide,λh2=>?_,λh2=>?_⟩
 ·rw[core]
  revert h2;cases fk W (W.tasks F)<;>cases fx W (W.tasks F)<;>simp
 have I:=hC h2;rw[aW]at I;obtain⟨r,c⟩:=I;rw[r,c]at core;have C:okF W (W.tasks F).ar 6=true:=by unfold fx at c;simp only[aW]at c;exact c.2
 have Y:(W.tasks F).ar= -1\/(0<=(W.tasks F).ar/\(W.tasks F).ar<W.ak):=by
  rcases aT ((W.tasks F).ar= -1)with h|h
  ·exact .inl h
  ·exact .inr (ZD (by decide) C (by simpa using h))
 have Z:(decide (0<=(W.tasks F).ar)&&((W.tasks (W.tasks F).ar.toNat).st !=5||(W.tasks F).st==4))=!qP W (W.tasks F):=by
  unfold qP;rw[show decide (0<=(W.tasks F).ar)=!((W.tasks F).ar== -1) by
   rcases Y with h|h
   ·rw[h];rfl
   ·rw[decide_eq_true h.1,show((W.tasks F).ar== -1)=false from beq_eq_false_iff_ne.2 (by omega)];rfl]
  simp only[bne,zo,zf,CV]
 rw[Z];refine⟨λt=>?_,λt=>?_,λt _=>?_⟩
 ·have:=of_decide_eq_true t;omega
 ·rw[core,tR t];rfl
 rw[hC t]at core;refine⟨rfl,λs hs=>⟨λE=>?_,λE=>?_⟩⟩
 ·have o:=fh E;have e:=pD (λk=>(W.tasks k).ar==F) s;refine⟨by omega,λl=>?_,λl=>?_⟩
  ·exact⟨by rw[IntKind.wrap_i64];omega,by rw[IntKind.wrap_i64];omega,eU ⟨by simp[bD,l],by omega,by omega⟩⟩
  ·exact⟨by rw[IntKind.wrap_i64];omega,eU ⟨by simp[bD,l],by omega,by omega⟩⟩
 have xG:=fq E;obtain rfl:s=W.aO:=by omega
 rw[show(decide (1<((bD W.aO λk=>(W.tasks k).ar==F:Nat):Int))||((((bD W.aO λk=>(W.tasks k).ar==F:Nat):Int)==1) !=((W.tasks F).st==5)))=!pO W F from XY (W:=W) (f:=F) rfl];refine⟨λl=>?_,λl=>?_⟩
 ·rw[core,tR l];rfl
 rw[hC l]at core;have core:eN W F=lW W F:=by rw[core];rfl
 rw[ady];have b1:cP W.aR W.al W.ready F<=W.aR*50:=Gk λi u=>ft (pD _ _) (hm.2.1 i u);have b2:cf W.aC W.ai F<=W.aC:=pD _ _;have et:((cP W.aR W.al W.ready F:Nat):Int)+((cf W.aC W.ai F:Nat):Int)=(cu W F:Nat):=by unfold cu;omega
 rw[et];refine⟨⟨by omega,λi u=>ft (hm.1 i u) (by omega)⟩,⟨by omega,λi u=>ft (hm.2.1 i u) (by omega)⟩,⟨by omega,λ_ _=>by omega⟩,by rw[IntKind.wrap_i64];unfold cu;omega,?_,?_⟩
 ·refine⟨λh=>⟨rfl,rfl,by rw[h];rfl⟩,λh=>⟨λd=>⟨rfl,rfl,by rw[h,d];rfl⟩,λd=>⟨λg=>⟨rfl,rfl,by rw[h,d,g];rfl⟩,λg=>⟨rfl,rfl,by rw[h,d,g];rfl⟩⟩⟩⟩
 rintro ⟨b⟩ e;have e:b=((W.tasks F).st==2||(W.tasks F).st==3||(W.tasks F).st==4||(W.tasks F).st==6):=e;simp only[Zy,Zz];have v:∀k:Int,k≠ -1->lW W F=qD W F k->(decide ((W.tasks F).loc<0)=false->k≠ -1)/\((decide ((W.tasks F).loc<0)||!okF W (W.tasks F).loc k)=false->0<=(W.tasks F).loc/\(W.tasks F).loc<W.aX)/\((decide ((W.tasks F).loc<0)||!okF W (W.tasks F).loc k)=false->W.ah (W.tasks F).loc.toNat<=100000)/\
  ((decide ((W.tasks F).loc<0)||!okF W (W.tasks F).loc k||!cK (W.ah (W.tasks F).loc.toNat) (W.lines (W.tasks F).loc.toNat) F)=true->true=!eN W F)/\((decide ((W.tasks F).loc<0)||!okF W (W.tasks F).loc k||!cK (W.ah (W.tasks F).loc.toNat) (W.lines (W.tasks F).loc.toNat) F)=false->((1:Int)==0&&(W.tasks F).loc != -1||!(cB W F==1)||!(cu W F==0))=!eN W F):=by
  intro k G he;rw[adx G,core,he];have x:(!(bK W (W.tasks F).loc==k))=false->0<=(W.tasks F).loc/\(W.tasks F).loc<W.aX:=λh=>by rw[y];exact gv (by rw[eq_of_beq (hC h)];exact G)
  refine⟨λ_=>G,x,λh=>?_,λh=>?_,λh=>?_⟩
  ·have:=x h;have:=hm.1 (W.tasks F).loc.toNat (by omega);omega
  ·unfold qD;revert h;cases bK W (W.tasks F).loc==k<;>cases cK (W.ah (W.tasks F).loc.toNat) (W.lines (W.tasks F).loc.toNat) F<;>cases cB W F==1<;>cases cu W F==0<;>simp
  ·unfold qD;revert h;cases bK W (W.tasks F).loc==k<;>cases cK (W.ah (W.tasks F).loc.toNat) (W.lines (W.tasks F).loc.toNat) F<;>cases cB W F==1<;>cases cu W F==0<;>simp
 refine⟨λd=>⟨λg=>v 8 (by decide) ?_,λg=>v 7 (by decide) ?_⟩,λd=>?_⟩
 ·have e6:=eq_of_beq g;simp only[lW];rw[e6];rfl
 ·have d:b=true:=d;rw[d,g,iI]at e;simp only[lW];rw[<-e];rfl
 ·have d:b=false:=d;have e:=e.symm;rw[d]at e;rw[bX]at e;rw[core];simp only[lW];rw[e.1,e.2];refine⟨λg=>?_,λg=>?_⟩
  ·rw[g];simp only[bne];cases cB W F==0<;>cases cu W F==1<;>cases (W.tasks F).loc== -1<;>rfl
  ·rw[g];simp only[bne];cases cB W F==0<;>cases cu W F==0<;>cases (W.tasks F).loc== -1<;>rfl
def bE (n:Nat) (p:Nat->Bool) (e:Int):Int:=(eP n p e (0,-1)).1
def bA (n:Nat) (p:Nat->Bool) (e:Int):Int:=(eP n p e (0,-1)).2
def nK (n:Nat) (p:Nat->Bool):cQ where
 σ:=Nat
 rt:= []
 sh i:= [(11,.v (.int .i64 i))]
 mh _:= []
 inv i:=i<=n/\∀j,j<i->p j=false
 μ i:=n -i
 init:=0
structure Ni where
 (n:Nat) (l:Nat->Int) (e:Int)
def Nj:Sy.Spec:=⟨Ni,λ⟨n,l,e⟩=> [.sl true 1 n (λb _=> .v (.int .i64 (l b))),.v (.int .i64 e),.fn 103 0 (λ_=> .aI)],λ_=> [],λ⟨n,_,e⟩=>e≠0/\n<=100000,λ⟨n,l,e⟩=> .er 43 66 (bE n (λi=>az (l i) 65535) e) (bA n (λi=>az (l i) 65535) e),λ_=> [],
 λargs mem=>match args with| [a0,a1,c]=>(match jC 103 c with|true=>some ⟨bT a0,λi=>av (bO a0 i 0),av (a1)⟩|false=>none)|_=>none⟩
def XT:aZ:=⟨[],(Nj).g,none⟩
def Nk:Ni->Prop:=λ⟨n,l,e⟩=>let a0:=(n:Int);let b0:=bE n (λc0:Nat=>az (l c0) 65535) e;let d0:=bA n (λe0:Nat=>az (l e0) 65535) e;a0<=9223372036854775807->0=((0:Nat):Int)/\True/\(0<=n/\(∀d:Nat,d<0->az (l d) 65535=false))/\(∀h0:Nat,let k0:=(h0:Int);let g:=decide (k0<a0);let o0:=k0=k0;let b:Int:=l (Int.toNat k0);let r0:=az b 65535;let c:Int:=k0+1;h0<=n/\(∀v0:Nat,v0<h0->az (l v0) 65535=false)->(g=true->(0<=k0/\k0<a0)/\((o0/\b=b/\True)/\True/\True)/\(r0=true->((o0/\e=e/\True)/\True/\0<=k0/\e≠0)/\(e=b0/\k0=d0)/\True)/\(r0=false->aw c=c/\(∃w0:Nat,c=(w0:Int)/\True/\(w0<=n/\(∀h:Nat,h<w0->az (l h) 65535=false))/\n-w0<n-h0)))/\(g=false->(b0=0/\d0=(-1))/\True))
set_option maxHeartbeats 1000000 in
theorem V4:aY Tryz.prog bk 102 XT:=bn (.cons nL (.cons US .nil)) false Tryz.call102 Tryz.func102 (λ⟨n,l,_⟩=> [.inv (nK n (λi=>az (l i) 65535))]) (V:=Nk) (λ_=>by kernel_rfl) λ⟨n,l,e⟩ hp=>by
 dsimp only[Nj]at hp;dsimp only[Nk,tn,aw,aB,aJ,aK,aG];obtain⟨c,hp⟩:=hp;simp only[bq,bx,eq_self,implies_true,bo];unfold bE bA;refineλ_ s hs=>⟨λh=>?_,λh=>?_⟩
 ·have b:=fh h;refine⟨by omega,λh1=>?_,λh1=>⟨by rw[IntKind.wrap_i64];omega,eU ⟨⟨by omega,ir (p:=λi=>az (l i) 65535) hs.2 h1⟩,by omega⟩⟩⟩;rw[kR (p:=λi=>az (l i) 65535) hs.2 h1 b]
  first|exact⟨c,rfl,rfl⟩|exact⟨⟨by omega,c⟩,rfl,rfl⟩
 ·have d:=fq h;rw[fK (p:=λi=>az (l i) 65535) λj g=>hs.2 j (by omega)];exact⟨rfl,rfl⟩
structure Nl where
 (n:Nat) (l:Nat->Int) (e:Int)
def Nn:Sy.Spec:=⟨Nl,λ⟨n,l,e⟩=> [.sl true 1 n (λb _=> .v (.int .i64 (l b))),.v (.int .i64 e),.fn 104 0 (λ_=> .aI)],λ_=> [],λ⟨n,_,e⟩=>e≠0/\n<=100000,λ⟨n,l,e⟩=> .er 43 66 (bE n (λi=>az (l i) 8||l i==1) e) (bA n (λi=>az (l i) 8||l i==1) e),λ_=> [],
 λargs mem=>match args with| [a0,a1,c]=>(match jC 104 c with|true=>some ⟨bT a0,λi=>av (bO a0 i 0),av (a1)⟩|false=>none)|_=>none⟩
def XU:aZ:=⟨[],(Nn).g,none⟩
def No:Nl->Prop:=λ⟨n,l,e⟩=>let a0:=(n:Int);let b0:=bE n (λc0:Nat=>az (l c0) 8||l c0==1) e;let d0:=bA n (λe0:Nat=>az (l e0) 8||l e0==1) e;a0<=9223372036854775807->0=((0:Nat):Int)/\True/\(0<=n/\(∀c:Nat,c<0->(az (l c) 8||l c==1)=false))/\(∀h0:Nat,let k0:=(h0:Int);let h:=decide (k0<a0);let o0:=k0=k0;let b:Int:=l (Int.toNat k0);let r0:=az b 8||b==1;let d:Int:=k0+1;h0<=n/\(∀v0:Nat,v0<h0->(az (l v0) 8||l v0==1)=false)->(h=true->(0<=k0/\k0<a0)/\((o0/\b=b/\True)/\True/\True)/\(r0=true->((o0/\e=e/\True)/\True/\0<=k0/\e≠0)/\(e=b0/\k0=d0)/\True)/\(r0=false->aw d=d/\(∃w0:Nat,d=(w0:Int)/\True/\(w0<=n/\(∀g:Nat,g<w0->(az (l g) 8||l g==1)=false))/\n-w0<n-h0)))/\(h=false->(b0=0/\d0=(-1))/\True))
set_option maxHeartbeats 1000000 in
theorem V5:aY Tryz.prog bk 102 XU:=bn (.cons nL (.cons UT .nil)) false Tryz.call102 Tryz.func102 (λ⟨n,l,_⟩=> [.inv (nK n (λi=>az (l i) 8||l i==1))]) (V:=No) (λ_=>by kernel_rfl) λ⟨n,l,e⟩ hp=>by
 dsimp only[Nn]at hp;dsimp only[No,tn,aw,aB,aJ,aK,aG];obtain⟨c,hp⟩:=hp;simp only[bq,bx,eq_self,implies_true,bo];unfold bE bA;refineλ_ s hs=>⟨λh=>?_,λh=>?_⟩
 ·have b:=fh h;refine⟨by omega,λh1=>?_,λh1=>⟨by rw[IntKind.wrap_i64];omega,eU ⟨⟨by omega,ir (p:=λi=>az (l i) 8||l i==1) hs.2 h1⟩,by omega⟩⟩⟩;rw[kR (p:=λi=>az (l i) 8||l i==1) hs.2 h1 b]
  first|exact⟨c,rfl,rfl⟩|exact⟨⟨by omega,c⟩,rfl,rfl⟩
 ·have d:=fq h;rw[fK (p:=λi=>az (l i) 8||l i==1) λj g=>hs.2 j (by omega)];exact⟨rfl,rfl⟩
structure Np where
 (n:Nat) (l:Nat->Int) (e:Int)
def Nq:Sy.Spec:=⟨Np,λ⟨n,l,e⟩=> [.sl true 1 n (λb _=> .v (.int .i64 (l b))),.v (.int .i64 e),.fn 105 0 (λ_=> .aI)],λ_=> [],λ⟨n,_,e⟩=>e≠0/\n<=100000,λ⟨n,l,e⟩=> .er 43 66 (bE n (λi=>az (l i) 3) e) (bA n (λi=>az (l i) 3) e),λ_=> [],
 λargs mem=>match args with| [a0,a1,c]=>(match jC 105 c with|true=>some ⟨bT a0,λi=>av (bO a0 i 0),av (a1)⟩|false=>none)|_=>none⟩
def XV:aZ:=⟨[],(Nq).g,none⟩
def Nr:Np->Prop:=λ⟨n,l,e⟩=>let a0:=(n:Int);let b0:=bE n (λc0:Nat=>az (l c0) 3) e;let d0:=bA n (λe0:Nat=>az (l e0) 3) e;a0<=9223372036854775807->0=((0:Nat):Int)/\True/\(0<=n/\(∀d:Nat,d<0->az (l d) 3=false))/\(∀h0:Nat,let k0:=(h0:Int);let g:=decide (k0<a0);let o0:=k0=k0;let b:Int:=l (Int.toNat k0);let r0:=az b 3;let c:Int:=k0+1;h0<=n/\(∀v0:Nat,v0<h0->az (l v0) 3=false)->(g=true->(0<=k0/\k0<a0)/\((o0/\b=b/\True)/\True/\True)/\(r0=true->((o0/\e=e/\True)/\True/\0<=k0/\e≠0)/\(e=b0/\k0=d0)/\True)/\(r0=false->aw c=c/\(∃w0:Nat,c=(w0:Int)/\True/\(w0<=n/\(∀h:Nat,h<w0->az (l h) 3=false))/\n-w0<n-h0)))/\(g=false->(b0=0/\d0=(-1))/\True))
set_option maxHeartbeats 1000000 in
theorem V6:aY Tryz.prog bk 102 XV:=bn (.cons nL (.cons UU .nil)) false Tryz.call102 Tryz.func102 (λ⟨n,l,_⟩=> [.inv (nK n (λi=>az (l i) 3))]) (V:=Nr) (λ_=>by kernel_rfl) λ⟨n,l,e⟩ hp=>by
 dsimp only[Nq]at hp;dsimp only[Nr,tn,aw,aB,aJ,aK,aG];obtain⟨c,hp⟩:=hp;simp only[bq,bx,eq_self,implies_true,bo];unfold bE bA;refineλ_ s hs=>⟨λh=>?_,λh=>?_⟩
 ·have b:=fh h;refine⟨by omega,λh1=>?_,λh1=>⟨by rw[IntKind.wrap_i64];omega,eU ⟨⟨by omega,ir (p:=λi=>az (l i) 3) hs.2 h1⟩,by omega⟩⟩⟩;rw[kR (p:=λi=>az (l i) 3) hs.2 h1 b]
  first|exact⟨c,rfl,rfl⟩|exact⟨⟨by omega,c⟩,rfl,rfl⟩
 ·have d:=fq h;rw[fK (p:=λi=>az (l i) 3) λj g=>hs.2 j (by omega)];exact⟨rfl,rfl⟩
structure O_ where
 (n:Nat) (l:Nat->Int) (e:Int) (nc:Nat) (cl:Nat->Int) (nk:Nat) (ky:Nat->Int) (nu:Nat) (us:Nat->Bool)
def O':Sy.Spec:=⟨O_,λ⟨n,l,e,nc,cl,nk,ky,nu,us⟩=> [.sl true 1 n (λc _=> .v (.int .i64 (l c))),.v (.int .i64 e),.fn 110 3 (aN [.pt true 1 (λ_=> .sl true 1 nc (iF cl)),.pt true 1 (λ_=> .sl true 1 nk (iF ky)),.pt true 1 (λ_=> .sl true 1 nu (λi _=> .v (.bool (us i))))])],λ_=> [],λ⟨n,_,e,nc,_,nk,_,nu,_⟩=>e≠0/\n<=100000/\n<=nc/\n<=nk/\n<=nu,λ⟨n,l,e,_,cl,_,ky,_,us⟩=> .er 43 66 (bE n (λi=>decide (1<cl i)||(l i !=0&&(ky i==0||(cl i==1&&!us i)))) e) (bA n (λi=>decide (1<cl i)||(l i !=0&&(ky i==0||(cl i==1&&!us i)))) e),λ_=> [],
 λargs mem=>match args with| [a0,a1,b]=>(match jC 110 b with|true=>some ⟨bT a0,λi=>av (bO a0 i 0),av (a1),bT (bN (dK b 0) 0),λi=>av (bO (bN (dK b 0) 0) i 0),bT (bN (dK b 1) 0),λi=>av (bO (bN (dK b 1) 0) i 0),bT (bN (dK b 2) 0),λi=>oH (bO (bN (dK b 2) 0) i 0)⟩|false=>none)|_=>none⟩
def Zq:aZ:=⟨[],(O').g,none⟩
def Pa:O_->Prop:=λ⟨n,l,e,nc,cl,nk,ky,nu,us⟩=>let a0:=(n:Int);let b0:=bE n (λc0:Nat=>decide (1<cl c0)||l c0 !=0&&(ky c0==0||cl c0==1&&!us c0)) e;let d0:=bA n (λe0:Nat=>decide (1<cl e0)||l e0 !=0&&(ky e0==0||cl e0==1&&!us e0)) e;a0<=9223372036854775807->0=((0:Nat):Int)/\True/\(0<=n/\(∀b:Nat,b<0->(decide (1<cl b)||l b !=0&&(ky b==0||cl b==1&&!us b))=false))/\(∀h0:Nat,let k0:=(h0:Int);let h:=decide (k0<a0);let o0:=0<=k0;let i:=k0=k0;let r0:=Int.toNat k0;let d:Int:=l r0;let v0:Int:=cl r0;let w0:=decide (1<v0)||d !=0&&(ky r0==0||v0==1&&!us r0);let g:Int:=k0+1;h0<=n/\(∀c:Nat,c<h0->(decide (1<cl c)||l c !=0&&(ky c==0||cl c==1&&!us c))=false)->(h=true->(o0/\k0<a0)/\((i/\d=d/\(True/\nc=nc/\(∀z0:Nat,z0<nc->True/\cl z0=cl z0))/\(True/\nk=nk/\(∀a1:Nat,a1<nk->True/\ky a1=ky a1))/\(True/\nu=nu/\(∀b1:Nat,b1<nu->True/\us b1=us b1))/\True)/\True/\o0/\k0<(nc:Int)/\k0<(nk:Int)/\k0<(nu:Int))/\(w0=true->((i/\e=e/\True)/\True/\o0/\e≠0)/\(e=b0/\k0=d0)/\True)/\(w0=false->aw g=g/\(∃c1:Nat,g=(c1:Int)/\True/\(c1<=n/\(∀d1:Nat,d1<c1->(decide (1<cl d1)||l d1 !=0&&(ky d1==0||cl d1==1&&!us d1))=false))/\n-c1<n-h0)))/\(h=false->(b0=0/\d0=(-1))/\True))
set_option maxHeartbeats 1000000 in
theorem XL:aY Tryz.prog bk 102 Zq:=bn (.cons nL (.cons T2 .nil)) false Tryz.call102 Tryz.func102 (λ⟨n,l,_,_,cl,_,ky,_,us⟩=> [.inv (nK n (λi=>decide (1<cl i)||(l i !=0&&(ky i==0||(cl i==1&&!us i)))))]) (V:=Pa) (λ_=>by kernel_rfl) λ⟨n,l,e,nc,cl,nk,ky,nu,us⟩ hp=>by
 dsimp only[O']at hp;dsimp only[Pa,tn,aw,aB,aJ,aK,aG];obtain⟨c,hp⟩:=hp;simp only[bq,bx,eq_self,implies_true,bo];unfold bE bA;refineλ_ s hs=>⟨λh=>?_,λh=>?_⟩
 ·have b:=fh h;refine⟨by omega,⟨by omega,by omega,by omega⟩,λh1=>?_,λh1=>⟨by rw[IntKind.wrap_i64];omega,eU ⟨⟨by omega,ir (p:=λi=>decide (1<cl i)||(l i !=0&&(ky i==0||(cl i==1&&!us i)))) hs.2 h1⟩,by omega⟩⟩⟩;rw[kR (p:=λi=>decide (1<cl i)||(l i !=0&&(ky i==0||(cl i==1&&!us i)))) hs.2 h1 b]
  first|exact⟨c,rfl,rfl⟩|exact⟨⟨by omega,c⟩,rfl,rfl⟩
 ·have d:=fq h;rw[fK (p:=λi=>decide (1<cl i)||(l i !=0&&(ky i==0||(cl i==1&&!us i)))) λj g=>hs.2 j (by omega)];exact⟨rfl,rfl⟩
structure Pb where
 (e:Int) (W:Wd)
def Pc:Sy.Spec:=⟨Pb,λ⟨e,W⟩=> [.sl true 1 W.aC (iF W.ai),.v (.int .i64 e),.fn 120 1 (aN [.pt true 1 (λ_=> .fn 119 1 (aN [.pt true 1 (λ_=>dN W)]))])],λ_=> [],λ⟨e,W⟩=>e≠0/\bQ W,λ⟨e,W⟩=> .er 43 66 (bE W.aC (λi=>!eK W i) e) (bA W.aC (λi=>!eK W i) e),λ_=> [],
 λargs mem=>match args with| [a0,a1,b]=>(match jC 120 b with|true=>some ⟨av (a1),dJ (bN (dK (bN (dK b 0) 0) 0) 0)⟩|false=>none)|_=>none⟩
def Zr:aZ:=⟨[],(Pc).g,none⟩
def Pd:Pb->Prop:=λ⟨e,W⟩=>let a0:=W.aC;let b0:=(a0:Int);let c0:=W.ak;let d0:=W.ao;let e0:=W.aO;let g:=W.aX;let h0:=W.aR;let k0:=bE a0 (λr:Nat=>!eK W r) e;let o0:=bA a0 (λt:Nat=>!eK W t) e;b0<=9223372036854775807->0=((0:Nat):Int)/\True/\(0<=a0/\(∀r0:Nat,r0<0->(!eK W r0)=false))/\(∀c:Nat,let v0:=(c:Int);let w0:=decide (v0<b0);let q:=v0=v0;let b:=W.ai (Int.toNat v0);let z0:=b !=(-1)&&!eS W b v0 (-1);let a1:Int:=v0+1;c<=a0/\(∀b1:Nat,b1<c->(!eK W b1)=false)->(w0=true->(0<=v0/\v0<b0)/\((q/\b=b/\tn 3 (((((((((((True/\W.ay=W.ay/\(∀c1:Nat,c1<W.ay->True/\W.af c1=W.af c1))/\c0=c0/\(∀d1:Nat,d1<c0->True/\W.kinds d1=W.kinds d1))/\d0=d0/\(∀h:Nat,h<d0->aK (W.aa h) (W.aa h)))/\e0=e0/\(∀i:Nat,i<e0->aJ (W.tasks i) (W.tasks i)))/\g=g/\(∀h1:Nat,let k1:=W.ah h1;h1<g->True/\k1=k1/\(∀j:Nat,j<k1->True/\W.lines h1 j=W.lines h1 j)))/\W.aP=W.aP/\(∀o1:Nat,o1<W.aP->True/\W.bits o1=W.bits o1))/\a0=a0/\(∀k:Nat,k<a0->True/\W.ai k=W.ai k))/\h0=h0/\(∀r1:Nat,let l:=W.al r1;r1<h0->True/\l=l/\(∀v1:Nat,v1<l->True/\W.ready r1 v1=W.ready r1 v1)))/\W.aQ=W.aQ/\(∀w1:Nat,let n:=W.aD w1;w1<W.aQ->True/\n=n/\(∀o:Nat,o<n->aG (W.ax w1 o) (W.ax w1 o))))/\W.aL=W.aL/\(∀p:Nat,p<W.aL->True/\W.aA p=W.aA p))/\W.time=W.time)/\True)/\True/\FD.match_1 (λu:BN=>Prop) (BN.mk v0 b W) (λb2:Int=>λv:Int=>λd2:Wd=>bQ d2))/\(z0=true->((q/\e=e/\True)/\True/\0<=v0/\e≠0)/\(e=k0/\v0=o0)/\True)/\(z0=false->aw a1=a1/\(∃d:Nat,a1=(d:Int)/\True/\(d<=a0/\(∀g2:Nat,g2<d->
 (!eK W g2)=false))/\a0-d<a0-c)))/\(w0=false->(k0=0/\o0=(-1))/\True))
set_option maxHeartbeats 1000000 in
theorem XP:aY Tryz.prog bk 102 Zr:=bn (.cons nL (.cons UW .nil)) false Tryz.call102 Tryz.func102 (λ⟨_,W⟩=> [.inv (nK W.aC (λi=>!eK W i))]) (V:=Pd) (λ_=>by kernel_rfl) λ⟨e,W⟩ hp=>by
 dsimp only[Pc]at hp;dsimp only[Pd,tn,aw,aB,aJ,aK,aG];obtain⟨c,hp⟩:=hp;simp only[bq,bx,eq_self,implies_true,bo];have g:=hp.c1;simp only[XW];unfold bE bA;refineλ_ s hs=>⟨λh=>?_,λh=>?_⟩
 ·have b:=fh h;refine⟨by omega,hp,λh1=>?_,λh1=>⟨by rw[IntKind.wrap_i64];omega,eU ⟨⟨by omega,ir (p:=λi=>!eK W i) hs.2 h1⟩,by omega⟩⟩⟩;rw[kR (p:=λi=>!eK W i) hs.2 h1 b]
  first|exact⟨c,rfl,rfl⟩|exact⟨⟨by omega,c⟩,rfl,rfl⟩
 ·have d:=fq h;rw[fK (p:=λi=>!eK W i) λj k=>hs.2 j (by omega)];exact⟨rfl,rfl⟩
structure Pe where
 (e:Int) (W:Wd)
def Pf:Sy.Spec:=⟨Pe,λ⟨e,W⟩=> [.sl true 1 W.ay (iF W.af),.v (.int .i64 e),.fn 124 1 (aN [.pt true 1 (λ_=>dN W)])],λ_=> [],λ⟨e,W⟩=>e≠0/\bQ W/\∀i,i<W.ay->m6 (W.af i),λ⟨e,W⟩=> .er 43 66 (bE W.ay (λi=>!f' W i) e) (bA W.ay (λi=>!f' W i) e),λ_=> [],
 λargs mem=>match args with| [a0,a1,b]=>(match jC 124 b with|true=>some ⟨av (a1),dJ (bN (dK b 0) 0)⟩|false=>none)|_=>none⟩
def Zs:aZ:=⟨[],(Pf).g,none⟩
def Pg:Pe->Prop:=λ⟨e,W⟩=>let a0:=W.ay;let b0:=(a0:Int);let c0:=W.ak;let d0:=W.ao;let e0:=W.aO;let g:=W.aX;let h0:=W.aC;let k0:=W.aR;let q:=bE a0 (λo0:Nat=>!f' W o0) e;let r:=bA a0 (λr0:Nat=>!f' W r0) e;b0<=9223372036854775807->0=((0:Nat):Int)/\True/\(0<=a0/\(∀t:Nat,t<0->(!f' W t)=false))/\(∀v0:Nat,let w0:=(v0:Int);let u:=decide (w0<b0);let h:=0<=w0;let z0:=w0=w0;let a1:=W.af (Int.toNat w0);let b1:=!f' W (Int.toNat w0);let c1:Int:=w0+1;v0<=a0/\(∀d1:Nat,d1<v0->(!f' W d1)=false)->(u=true->(h/\w0<b0)/\((z0/\a1=a1/\(True/\((((((((((True/\a0=a0/\(∀i:Nat,i<a0->True/\W.af i=W.af i))/\c0=c0/\(∀j:Nat,j<c0->True/\W.kinds j=W.kinds j))/\d0=d0/\(∀h1:Nat,h1<d0->aK (W.aa h1) (W.aa h1)))/\e0=e0/\(∀k1:Nat,k1<e0->aJ (W.tasks k1) (W.tasks k1)))/\g=g/\(∀b:Nat,let o1:=W.ah b;b<g->True/\o1=o1/\(∀k:Nat,k<o1->True/\W.lines b k=W.lines b k)))/\W.aP=W.aP/\(∀r1:Nat,r1<W.aP->True/\W.bits r1=W.bits r1))/\h0=h0/\(∀l:Nat,l<h0->True/\W.ai l=W.ai l))/\k0=k0/\(∀v1:Nat,let w1:=W.al v1;v1<k0->True/\w1=w1/\(∀n:Nat,n<w1->True/\W.ready v1 n=W.ready v1 n)))/\W.aQ=W.aQ/\(∀c:Nat,let o:=W.aD c;c<W.aQ->True/\o=o/\(∀p:Nat,p<o->aG (W.ax c p) (W.ax c p))))/\W.aL=W.aL/\(∀b2:Nat,b2<W.aL->True/\W.aA b2=W.aA b2))/\W.time=W.time)/\True)/\True/\bQ W/\h/\w0<b0/\0<=a1/\a1<=65535)/\(b1=true->((z0/\e=e/\True)/\True/\h/\e≠0)/\(e=q/\w0=r)/\True)/\(b1=false->aw c1=c1/\(∃d:Nat,c1=(d:Int)/\True/\(d<=a0/\(∀d2:Nat,d2<d->(!f' W d2)=false))/\a0-d<a0-v0)))/\(u=false->(q=0/\r=(-1))/\True))
set_option maxHeartbeats 1000000 in
theorem XR:aY Tryz.prog bk 102 Zs:=bn (.cons nL (.cons V_ .nil)) false Tryz.call102 Tryz.func102 (λ⟨_,W⟩=> [.inv (nK W.ay (λi=>!f' W i))]) (V:=Pg) (λ_=>by kernel_rfl) λ⟨e,W⟩ hp=>by
 dsimp only[Pf]at hp;dsimp only[Pg,tn,aw,aB,aJ,aK,aG];obtain⟨c,hp⟩:=hp;simp only[bq,bx,eq_self,implies_true,bo];have g:=hp.1.af;have k:=hp.1.k1;unfold bE bA;refineλ_ s hs=>⟨λh=>?_,λh=>?_⟩
 ·have b:=fh h;refine⟨by omega,⟨hp.1,by omega,hp.2 s b⟩,λh1=>?_,λh1=>⟨by rw[IntKind.wrap_i64];omega,eU ⟨⟨by omega,ir (p:=λi=>!f' W i) hs.2 h1⟩,by omega⟩⟩⟩;rw[kR (p:=λi=>!f' W i) hs.2 h1 b]
  first|exact⟨c,rfl,rfl⟩|exact⟨⟨by omega,c⟩,rfl,rfl⟩
 ·have d:=fq h;rw[fK (p:=λi=>!f' W i) λj l=>hs.2 j (by omega)];exact⟨rfl,rfl⟩
structure Ph where
 (e:Int) (W:Wd)
def Pj:Sy.Spec:=⟨Ph,λ⟨e,W⟩=> [.sl true 7 W.ao (rF λi=>mU (W.aa i)),.v (.int .i64 e),.fn 107 1 (aN [.pt true 1 (λ_=>dN W)])],λ_=> [],λ⟨e,W⟩=>e≠0/\bQ W,λ⟨e,W⟩=> .er 43 66 (bE W.ao (λi=>!eR W i) e) (bA W.ao (λi=>!eR W i) e),λ_=> [],
 λargs mem=>match args with| [a0,a1,b]=>(match jC 107 b with|true=>some ⟨av (a1),dJ (bN (dK b 0) 0)⟩|false=>none)|_=>none⟩
def Zt:aZ:=⟨[],(Pj).g,none⟩
def Pk:Ph->Prop:=λ⟨e,W⟩=>let a0:=W.ao;let b0:=(a0:Int);let c0:=W.ak;let d0:=W.aO;let e0:=W.aX;let g:=W.aC;let h0:=W.aR;let k0:=bE a0 (λt:Nat=>!eR W t) e;let o0:=bA a0 (λu:Nat=>!eR W u) e;b0<=9223372036854775807->0=((0:Nat):Int)/\True/\(0<=a0/\(∀r0:Nat,r0<0->(!eR W r0)=false))/\(∀b:Nat,let v0:=(b:Int);let w0:=decide (v0<b0);let p:=0<=v0/\v0<b0;let q:=v0=v0;let z0:=W.aa (Int.toNat v0);let a1:=!eR W (Int.toNat v0);let b1:Int:=v0+1;b<=a0/\(∀c1:Nat,c1<b->(!eR W c1)=false)->(w0=true->p/\True/\tn 6 True/\((q/\aK z0 z0/\(True/\((((((((((True/\W.ay=W.ay/\(∀d1:Nat,d1<W.ay->True/\W.af d1=W.af d1))/\c0=c0/\(∀h:Nat,h<c0->True/\W.kinds h=W.kinds h))/\a0=a0/\(∀i:Nat,i<a0->aK (W.aa i) (W.aa i)))/\d0=d0/\(∀h1:Nat,h1<d0->aJ (W.tasks h1) (W.tasks h1)))/\e0=e0/\(∀k1:Nat,let j:=W.ah k1;k1<e0->True/\j=j/\(∀o1:Nat,o1<j->True/\W.lines k1 o1=W.lines k1 o1)))/\W.aP=W.aP/\(∀k:Nat,k<W.aP->True/\W.bits k=W.bits k))/\g=g/\(∀r1:Nat,r1<g->True/\W.ai r1=W.ai r1))/\h0=h0/\(∀c:Nat,let v1:=W.al c;c<h0->True/\v1=v1/\(∀w1:Nat,w1<v1->True/\W.ready c w1=W.ready c w1)))/\W.aQ=W.aQ/\(∀d:Nat,let l:=W.aD d;d<W.aQ->True/\l=l/\(∀n:Nat,n<l->aG (W.ax d n) (W.ax d n))))/\W.aL=W.aL/\(∀o:Nat,o<W.aL->True/\W.aA o=W.aA o))/\W.time=W.time)/\True)/\True/\bQ W/\p)/\(a1=true->((q/\e=e/\True)/\True/\0<=v0/\e≠0)/\(e=k0/\v0=o0)/\True)/\(a1=false->aw b1=b1/\(∃b2:Nat,b1=(b2:Int)/\True/\(b2<=a0/\(∀r:Nat,r<b2->(!eR W r)=false))/\a0-b2<a0-b)))/\(w0=false->(k0=0/\o0=(-1))/\True))
set_option maxHeartbeats 1000000 in
theorem XN:aY Tryz.prog bk 106 Zt:=bn (.cons nL (.cons V' .nil)) false Tryz.call106 Tryz.func106 (λ⟨_,W⟩=> [.inv (nK W.ao (λi=>!eR W i))]) (V:=Pk) (λ_=>by kernel_rfl) λ⟨e,W⟩ hp=>by
 dsimp only[Pj]at hp;dsimp only[Pk,tn,aw,aB,aJ,aK,aG];obtain⟨c,hp⟩:=hp;simp only[bq,bx,eq_self,implies_true,bo];have g:=hp.aa;have k:=hp.k1;unfold bE bA;refineλ_ s hs=>⟨λh=>?_,λh=>?_⟩
 ·have b:=fh h;refine⟨by omega,⟨hp,by omega⟩,λh1=>?_,λh1=>⟨by rw[IntKind.wrap_i64];omega,eU ⟨⟨by omega,ir (p:=λi=>!eR W i) hs.2 h1⟩,by omega⟩⟩⟩;rw[kR (p:=λi=>!eR W i) hs.2 h1 b]
  first|exact⟨c,rfl,rfl⟩|exact⟨⟨by omega,c⟩,rfl,rfl⟩
 ·have d:=fq h;rw[fK (p:=λi=>!eR W i) λj l=>hs.2 j (by omega)];exact⟨rfl,rfl⟩
structure Pl where
 (e:Int) (W:Wd)
def Pm:Sy.Spec:=⟨Pl,λ⟨e,W⟩=> [.sl true 20 W.aO (rF λi=>la (W.tasks i)),.v (.int .i64 e),.fn 112 1 (aN [.pt true 1 (λ_=>dN W)])],λ_=> [],λ⟨e,W⟩=>e≠0/\bQ W/\m8 W,λ⟨e,W⟩=> .er 43 66 (bE W.aO (λi=>!eN W i) e) (bA W.aO (λi=>!eN W i) e),λ_=> [],
 λargs mem=>match args with| [a0,a1,b]=>(match jC 112 b with|true=>some ⟨av (a1),dJ (bN (dK b 0) 0)⟩|false=>none)|_=>none⟩
def Zu:aZ:=⟨[],(Pm).g,none⟩
def Pn:Pl->Prop:=λ⟨e,W⟩=>let a0:=W.aO;let b0:=(a0:Int);let c0:=W.ak;let d0:=W.ao;let e0:=W.aX;let d:=W.aC;let h0:=W.aR;let k0:=W.aQ;let p:=bE a0 (λo0:Nat=>!eN W o0) e;let q:=bA a0 (λr0:Nat=>!eN W r0) e;b0<=9223372036854775807->0=((0:Nat):Int)/\True/\(0<=a0/\(∀r:Nat,r<0->(!eN W r)=false))/\(∀v0:Nat,let w0:=(v0:Int);let t:=decide (w0<b0);let g:=0<=w0;let z0:=w0=w0;let a1:=W.tasks (Int.toNat w0);let b1:=!eN W (Int.toNat w0);let c1:Int:=w0+1;v0<=a0/\(∀d1:Nat,d1<v0->(!eN W d1)=false)->(t=true->(g/\w0<b0)/\True/\tn 19 True/\((z0/\aJ a1 a1/\(True/\((((((((((True/\W.ay=W.ay/\(∀h:Nat,h<W.ay->True/\W.af h=W.af h))/\c0=c0/\(∀i:Nat,i<c0->True/\W.kinds i=W.kinds i))/\d0=d0/\(∀h1:Nat,h1<d0->aK (W.aa h1) (W.aa h1)))/\a0=a0/\(∀k1:Nat,k1<a0->aJ (W.tasks k1) (W.tasks k1)))/\e0=e0/\(∀b:Nat,let o1:=W.ah b;b<e0->True/\o1=o1/\(∀j:Nat,j<o1->True/\W.lines b j=W.lines b j)))/\W.aP=W.aP/\(∀r1:Nat,r1<W.aP->True/\W.bits r1=W.bits r1))/\d=d/\(∀k:Nat,k<d->True/\W.ai k=W.ai k))/\h0=h0/\(∀v1:Nat,let w1:=W.al v1;v1<h0->True/\w1=w1/\(∀l:Nat,l<w1->True/\W.ready v1 l=W.ready v1 l)))/\k0=k0/\(∀c:Nat,let n:=W.aD c;c<k0->True/\n=n/\(∀o:Nat,o<n->aG (W.ax c o) (W.ax c o))))/\W.aL=W.aL/\(∀b2:Nat,b2<W.aL->True/\W.aA b2=W.aA b2))/\W.time=W.time)/\True)/\True/\bQ W/\((∀u:Nat,u<e0->W.ah u<=50)/\(∀d2:Nat,d2<h0->W.al d2<=50)/\(∀v:Nat,v<k0->W.aD v<=50))/\g/\w0<(c0:Int))/\(b1=true->((z0/\e=e/\True)/\True/\g/\e≠0)/\(e=p/\w0=q)/\True)/\(b1=false->aw c1=c1/\(∃g2:Nat,
 c1=(g2:Int)/\True/\(g2<=a0/\(∀h2:Nat,h2<g2->(!eN W h2)=false))/\a0-g2<a0-v0)))/\(t=false->(p=0/\q=(-1))/\True))
set_option maxHeartbeats 1000000 in
theorem XO:aY Tryz.prog bk 111 Zu:=bn (.cons nL (.cons UX .nil)) false Tryz.call111 Tryz.func111 (λ⟨_,W⟩=> [.inv (nK W.aO (λi=>!eN W i))]) (V:=Pn) (λ_=>by kernel_rfl) λ⟨e,W⟩ hp=>by
 dsimp only[Pm]at hp;dsimp only[Pn,tn,aw,aB,aJ,aK,aG];obtain⟨c,hp⟩:=hp;simp only[bq,bx,eq_self,implies_true,bo];have g:=hp.1.tasks;have k:=hp.1.k1;unfold bE bA;refineλ_ s hs=>⟨λh=>?_,λh=>?_⟩
 ·have b:=fh h;refine⟨by omega,⟨hp.1,hp.2,by omega⟩,λh1=>?_,λh1=>⟨by rw[IntKind.wrap_i64];omega,eU ⟨⟨by omega,ir (p:=λi=>!eN W i) hs.2 h1⟩,by omega⟩⟩⟩;rw[kR (p:=λi=>!eN W i) hs.2 h1 b]
  first|exact⟨c,rfl,rfl⟩|exact⟨⟨by omega,c⟩,rfl,rfl⟩
 ·have d:=fq h;rw[fK (p:=λi=>!eN W i) λj l=>hs.2 j (by omega)];exact⟨rfl,rfl⟩
structure Po where
 (e:Int) (W:Wd)
def Pp:Sy.Spec:=⟨Po,λ⟨e,W⟩=> [.sl true 1 W.aX (λi _=> .sl true 1 (W.ah i) (iF (W.lines i))),.v (.int .i64 e),.fn 118 1 (aN [.pt true 1 (λ_=>dN W)])],λ_=> [],λ⟨e,W⟩=>e≠0/\bQ W/\m8 W,λ⟨e,W⟩=> .er 43 66 (bE W.aX (λi=>!fg W i) e) (bA W.aX (λi=>!fg W i) e),λ_=> [],
 λargs mem=>match args with| [a0,a1,b]=>(match jC 118 b with|true=>some ⟨av (a1),dJ (bN (dK b 0) 0)⟩|false=>none)|_=>none⟩
def Zv:aZ:=⟨[],(Pp).g,none⟩
def Pq:Po->Prop:=λ⟨e,W⟩=>let a0:=W.aX;let b0:=(a0:Int);let c0:=W.ak;let d0:=W.ao;let e0:=W.aO;let g:=W.aC;let h0:=W.aR;let k0:=W.aQ;let p:=bE a0 (λo0:Nat=>!fg W o0) e;let q:=bA a0 (λr0:Nat=>!fg W r0) e;b0<=9223372036854775807->0=((0:Nat):Int)/\True/\(0<=a0/\(∀r:Nat,r<0->(!fg W r)=false))/\(∀v0:Nat,let w0:=(v0:Int);let t:=decide (w0<b0);let h:=0<=w0;let z0:=w0=w0;let a1:=Int.toNat w0;let b1:=W.ah a1;let c1:=!fg W a1;let d1:Int:=w0+1;v0<=a0/\(∀u:Nat,u<v0->(!fg W u)=false)->(t=true->(h/\w0<b0)/\((z0/\(b1=b1/\(∀i:Nat,i<b1->True/\W.lines a1 i=W.lines a1 i))/\(True/\((((((((((True/\W.ay=W.ay/\(∀h1:Nat,h1<W.ay->True/\W.af h1=W.af h1))/\c0=c0/\(∀k1:Nat,k1<c0->True/\W.kinds k1=W.kinds k1))/\d0=d0/\(∀j:Nat,j<d0->aK (W.aa j) (W.aa j)))/\e0=e0/\(∀o1:Nat,o1<e0->aJ (W.tasks o1) (W.tasks o1)))/\a0=a0/\(∀b:Nat,let r1:=W.ah b;b<a0->True/\r1=r1/\(∀k:Nat,k<r1->True/\W.lines b k=W.lines b k)))/\W.aP=W.aP/\(∀v1:Nat,v1<W.aP->True/\W.bits v1=W.bits v1))/\g=g/\(∀w1:Nat,w1<g->True/\W.ai w1=W.ai w1))/\h0=h0/\(∀c:Nat,let l:=W.al c;c<h0->True/\l=l/\(∀n:Nat,n<l->True/\W.ready c n=W.ready c n)))/\k0=k0/\(∀d:Nat,let b2:=W.aD d;d<k0->True/\b2=b2/\(∀o:Nat,o<b2->aG (W.ax d o) (W.ax d o))))/\W.aL=W.aL/\(∀d2:Nat,d2<W.aL->True/\W.aA d2=W.aA d2))/\W.time=W.time)/\True)/\True/\bQ W/\((∀v:Nat,v<a0->W.ah v<=50)/\(∀g2:Nat,g2<h0->W.al g2<=50)/\(∀h2:Nat,h2<k0->W.aD h2<=50))/\h/\w0<(c0:Int))/\(c1=true->((z0/\e=e/\True)/\True/\h/\e≠0)/\(e=p/\w0=q)/\True)/\
 (c1=false->aw d1=d1/\(∃k2:Nat,d1=(k2:Int)/\True/\(k2<=a0/\(∀l2:Nat,l2<k2->(!fg W l2)=false))/\a0-k2<a0-v0)))/\(t=false->(p=0/\q=(-1))/\True))
set_option maxHeartbeats 1000000 in
theorem Nc:aY Tryz.prog bk 117 Zv:=bn (.cons nL (.cons UY .nil)) false Tryz.call117 Tryz.func117 (λ⟨_,W⟩=> [.inv (nK W.aX (λi=>!fg W i))]) (V:=Pq) (λ_=>by kernel_rfl) λ⟨e,W⟩ hp=>by
 dsimp only[Pp]at hp;dsimp only[Pq,tn,aw,aB,aJ,aK,aG];obtain⟨c,hp⟩:=hp;simp only[bq,bx,eq_self,implies_true,bo];have g:=hp.1.lines;have k:=hp.1.k1;unfold bE bA;refineλ_ s hs=>⟨λh=>?_,λh=>?_⟩
 ·have b:=fh h;refine⟨by omega,⟨hp.1,hp.2,by omega⟩,λh1=>?_,λh1=>⟨by rw[IntKind.wrap_i64];omega,eU ⟨⟨by omega,ir (p:=λi=>!fg W i) hs.2 h1⟩,by omega⟩⟩⟩;rw[kR (p:=λi=>!fg W i) hs.2 h1 b]
  first|exact⟨c,rfl,rfl⟩|exact⟨⟨by omega,c⟩,rfl,rfl⟩
 ·have d:=fq h;rw[fK (p:=λi=>!fg W i) λj l=>hs.2 j (by omega)];exact⟨rfl,rfl⟩
structure Pr where
 (e:Int) (W:Wd)
def Ps:Sy.Spec:=⟨Pr,λ⟨e,W⟩=> [.sl true 1 W.aR (λi _=> .sl true 1 (W.al i) (iF (W.ready i))),.v (.int .i64 e),.fn 121 1 (aN [.pt true 1 (λ_=> .fn 119 1 (aN [.pt true 1 (λ_=>dN W)]))])],λ_=> [],λ⟨e,W⟩=>e≠0/\bQ W/\m8 W,λ⟨e,W⟩=> .er 43 66 (bE W.aR (λi=>!gn W i) e) (bA W.aR (λi=>!gn W i) e),λ_=> [],
 λargs mem=>match args with| [a0,a1,b]=>(match jC 121 b with|true=>some ⟨av (a1),dJ (bN (dK (bN (dK b 0) 0) 0) 0)⟩|false=>none)|_=>none⟩
def Zw:aZ:=⟨[],(Ps).g,none⟩
def Pt:Pr->Prop:=λ⟨e,W⟩=>let a0:=W.aR;let b0:=(a0:Int);let c0:=W.ak;let d0:=W.ao;let e0:=W.aO;let b:=W.aX;let h0:=W.aC;let k0:=W.aQ;let o:=bE a0 (λo0:Nat=>!gn W o0) e;let p:=bA a0 (λr0:Nat=>!gn W r0) e;b0<=9223372036854775807->0=((0:Nat):Int)/\True/\(0<=a0/\(∀q:Nat,q<0->(!gn W q)=false))/\(∀v0:Nat,let w0:=(v0:Int);let r:=decide (w0<b0);let t:=0<=w0/\w0<b0;let z0:=w0=w0;let a1:=Int.toNat w0;let b1:=W.al a1;let c1:=!gn W a1;let d1:Int:=w0+1;v0<=a0/\(∀u:Nat,u<v0->(!gn W u)=false)->(r=true->t/\((z0/\(b1=b1/\(∀h:Nat,h<b1->True/\W.ready a1 h=W.ready a1 h))/\tn 3 (((((((((((True/\W.ay=W.ay/\(∀h1:Nat,h1<W.ay->True/\W.af h1=W.af h1))/\c0=c0/\(∀k1:Nat,k1<c0->True/\W.kinds k1=W.kinds k1))/\d0=d0/\(∀i:Nat,i<d0->aK (W.aa i) (W.aa i)))/\e0=e0/\(∀o1:Nat,o1<e0->aJ (W.tasks o1) (W.tasks o1)))/\b=b/\(∀c:Nat,let r1:=W.ah c;c<b->True/\r1=r1/\(∀j:Nat,j<r1->True/\W.lines c j=W.lines c j)))/\W.aP=W.aP/\(∀v1:Nat,v1<W.aP->True/\W.bits v1=W.bits v1))/\h0=h0/\(∀w1:Nat,w1<h0->True/\W.ai w1=W.ai w1))/\a0=a0/\(∀d:Nat,let k:=W.al d;d<a0->True/\k=k/\(∀l:Nat,l<k->True/\W.ready d l=W.ready d l)))/\k0=k0/\(∀g:Nat,let b2:=W.aD g;g<k0->True/\b2=b2/\(∀n:Nat,n<b2->aG (W.ax g n) (W.ax g n))))/\W.aL=W.aL/\(∀d2:Nat,d2<W.aL->True/\W.aA d2=W.aA d2))/\W.time=W.time)/\True)/\True/\bQ W/\((∀v:Nat,v<b->W.ah v<=50)/\(∀g2:Nat,g2<a0->W.al g2<=50)/\(∀h2:Nat,h2<k0->W.aD h2<=50))/\t)/\(c1=true->((z0/\e=e/\True)/\True/\0<=w0/\e≠0)/\(e=o/\w0=p)/\True)/\(c1=false->aw d1=d1/\
 (∃k2:Nat,d1=(k2:Int)/\True/\(k2<=a0/\(∀l2:Nat,l2<k2->(!gn W l2)=false))/\a0-k2<a0-v0)))/\(r=false->(o=0/\p=(-1))/\True))
set_option maxHeartbeats 1000000 in
theorem Nd:aY Tryz.prog bk 117 Zw:=bn (.cons nL (.cons UZ .nil)) false Tryz.call117 Tryz.func117 (λ⟨_,W⟩=> [.inv (nK W.aR (λi=>!gn W i))]) (V:=Pt) (λ_=>by kernel_rfl) λ⟨e,W⟩ hp=>by
 dsimp only[Ps]at hp;dsimp only[Pt,tn,aw,aB,aJ,aK,aG];obtain⟨c,hp⟩:=hp;simp only[bq,bx,eq_self,implies_true,bo];have g:=hp.1.ready;have k:=hp.1.c1;unfold bE bA;refineλ_ s hs=>⟨λh=>?_,λh=>?_⟩
 ·have b:=fh h;refine⟨by omega,⟨hp.1,hp.2,by omega⟩,λh1=>?_,λh1=>⟨by rw[IntKind.wrap_i64];omega,eU ⟨⟨by omega,ir (p:=λi=>!gn W i) hs.2 h1⟩,by omega⟩⟩⟩;rw[kR (p:=λi=>!gn W i) hs.2 h1 b]
  first|exact⟨c,rfl,rfl⟩|exact⟨⟨by omega,c⟩,rfl,rfl⟩
 ·have d:=fq h;rw[fK (p:=λi=>!gn W i) λj l=>hs.2 j (by omega)];exact⟨rfl,rfl⟩
structure Pu where
 (e:Int) (W:Wd)
def Pv:Sy.Spec:=⟨Pu,λ⟨e,W⟩=> [.sl true 1 W.aQ (λi _=> .sl true 4 (W.aD i) (rF λk=>iO (W.ax i k))),.v (.int .i64 e),.fn 126 1 (aN [.pt true 1 (λ_=>dN W)])],λ_=> [],λ⟨e,W⟩=>e≠0/\bQ W/\m8 W/\∀i,i<W.ay->m6 (W.af i),λ⟨e,W⟩=> .er 43 66 (bE W.aQ (λi=>!ga W (W.aD i) (W.ax i)) e) (bA W.aQ (λi=>!ga W (W.aD i) (W.ax i)) e),λ_=> [],
 λargs mem=>match args with| [a0,a1,b]=>(match jC 126 b with|true=>some ⟨av (a1),dJ (bN (dK b 0) 0)⟩|false=>none)|_=>none⟩
def Zx:aZ:=⟨[],(Pv).g,none⟩
def Pw:Pu->Prop:=λ⟨e,W⟩=>let a0:=W.aQ;let b0:=(a0:Int);let c0:=W.ay;let d0:=W.ak;let e0:=W.ao;let h:=W.aO;let h0:=W.aX;let k0:=W.aC;let i:=W.aR;let o0:=bE a0 (λt:Nat=>!ga W (W.aD t) (W.ax t)) e;let r0:=bA a0 (λu:Nat=>!ga W (W.aD u) (W.ax u)) e;b0<=9223372036854775807->0=((0:Nat):Int)/\True/\(0<=a0/\(∀v0:Nat,v0<0->(!ga W (W.aD v0) (W.ax v0))=false))/\(∀w0:Nat,let b:=(w0:Int);let v:=decide (b<b0);let z0:=b=b;let a1:=Int.toNat b;let b1:=W.aD a1;let c1:=!ga W b1 (W.ax a1);let d1:Int:=b+1;w0<=a0/\(∀j:Nat,j<w0->(!ga W (W.aD j) (W.ax j))=false)->(v=true->(0<=b/\b<b0)/\((z0/\(b1=b1/\(∀k:Nat,k<b1->aG (W.ax a1 k) (W.ax a1 k)))/\(True/\((((((((((True/\c0=c0/\(∀h1:Nat,h1<c0->True/\W.af h1=W.af h1))/\d0=d0/\(∀k1:Nat,k1<d0->True/\W.kinds k1=W.kinds k1))/\e0=e0/\(∀l:Nat,l<e0->aK (W.aa l) (W.aa l)))/\h=h/\(∀o1:Nat,o1<h->aJ (W.tasks o1) (W.tasks o1)))/\h0=h0/\(∀c:Nat,let r1:=W.ah c;c<h0->True/\r1=r1/\(∀n:Nat,n<r1->True/\W.lines c n=W.lines c n)))/\W.aP=W.aP/\(∀v1:Nat,v1<W.aP->True/\W.bits v1=W.bits v1))/\k0=k0/\(∀w1:Nat,w1<k0->True/\W.ai w1=W.ai w1))/\i=i/\(∀d:Nat,let o:=W.al d;d<i->True/\o=o/\(∀p:Nat,p<o->True/\W.ready d p=W.ready d p)))/\a0=a0/\(∀g:Nat,let b2:=W.aD g;g<a0->True/\b2=b2/\(∀q:Nat,q<b2->aG (W.ax g q) (W.ax g q))))/\W.aL=W.aL/\(∀d2:Nat,d2<W.aL->True/\W.aA d2=W.aA d2))/\W.time=W.time)/\True)/\True/\bQ W/\b1<=1000/\(∀r:Nat,r<c0->0<=W.af r/\W.af r<=65535))/\(c1=true->((z0/\e=e/\True)/\True/\
 0<=b/\e≠0)/\(e=o0/\b=r0)/\True)/\(c1=false->aw d1=d1/\(∃g2:Nat,d1=(g2:Int)/\True/\(g2<=a0/\(∀h2:Nat,h2<g2->(!ga W (W.aD h2) (W.ax h2))=false))/\a0-g2<a0-w0)))/\(v=false->(o0=0/\r0=(-1))/\True))
set_option maxHeartbeats 1000000 in
theorem XS:aY Tryz.prog bk 125 Zx:=bn (.cons nL (.cons Wa .nil)) false Tryz.call125 Tryz.func125 (λ⟨_,W⟩=> [.inv (nK W.aQ (λi=>!ga W (W.aD i) (W.ax i)))]) (V:=Pw) (λ_=>by kernel_rfl) λ⟨e,W⟩ hp=>by
 dsimp only[Pv]at hp;dsimp only[Pw,tn,aw,aB,aJ,aK,aG];obtain⟨c,hp⟩:=hp;simp only[bq,bx,eq_self,implies_true,bo];have g:=hp.1.ax;have k:=hp.1.c1;unfold bE bA;refineλ_ s hs=>⟨λh=>?_,λh=>?_⟩
 ·have b:=fh h;refine⟨by omega,⟨hp.1,by have:=hp.2.1.2.2 s b;omega,hp.2.2⟩,λh1=>?_,λh1=>⟨by rw[IntKind.wrap_i64];omega,eU ⟨⟨by omega,ir (p:=λi=>!ga W (W.aD i) (W.ax i)) hs.2 h1⟩,by omega⟩⟩⟩;rw[kR (p:=λi=>!ga W (W.aD i) (W.ax i)) hs.2 h1 b]
  first|exact⟨c,rfl,rfl⟩|exact⟨⟨by omega,c⟩,rfl,rfl⟩
 ·have d:=fq h;rw[fK (p:=λi=>!ga W (W.aD i) (W.ax i)) λj l=>hs.2 j (by omega)];exact⟨rfl,rfl⟩
theorem FA {n:Nat} {p:Nat->Bool} {e:Int} {r:Int×Int} (b:e≠0):((eP n p e (0,-1)).1=0->eP n p e r=r)/\((eP n p e (0,-1)).1≠0->eP n p e r=eP n p e (0,-1)):=by
 unfold eP;cases Nat.blt (dz n p) n
 ·exact⟨λ_=>rfl,λh=>absurd rfl h⟩
 ·exact⟨λh=>absurd h b,λ_=>rfl⟩
theorem D1 {n:Nat} {p:Nat->Bool} {e:Int} {r:Int×Int} (b:e≠0) (h:(bE n p e !=0)=true):bE n p e=(eP n p e r).1/\bA n p e=(eP n p e r).2:=by rw[(FA b).2 (by simpa [bE]using h)];exact⟨rfl,rfl⟩
theorem zK {n:Nat} {p:Nat->Bool} {e:Int} {r:Int×Int} (b:e≠0) (h:(bE n p e !=0)=false):eP n p e r=r:=(FA b).1 (by simpa [bE]using h)
def ph (W:Wd):Int:=(qj W (0,-1)).1
def xS (W:Wd):Int:=(qj W (0,-1)).2
def vN (W:Wd):Int:=(rL W (0,-1)).1
def I7 (W:Wd):Int:=(rL W (0,-1)).2
def AN (W:Wd):Int:=(vK W (0,-1)).1
def I8 (W:Wd):Int:=(vK W (0,-1)).2
def xT (W:Wd):Int:=(rM W (0,-1)).1
def Eu (W:Wd):Int:=(rM W (0,-1)).2
def xU (W:Wd):Int:=(rN W (0,-1)).1
def Ev (W:Wd):Int:=(rN W (0,-1)).2
def vO (W:Wd):Int:=(rO W (0,-1)).1
def AO (W:Wd):Int:=(rO W (0,-1)).2
def vP (W:Wd):Int:=(rP W (0,-1)).1
def AP (W:Wd):Int:=(rP W (0,-1)).2
structure BM where
 (W:Wd)
def FB:Sy.Spec:=⟨BM,λ⟨W⟩=> [dN W],λ_=> [],λ⟨W⟩=>Sm W,λ⟨W⟩=> .er 43 66 (ph W) (xS W),λ_=> [],
 λargs mem=>match args with| [a0]=>some ⟨dJ a0⟩|_=>none⟩
def V3:aZ:=⟨[],(FB).g,none⟩
def Lm:BM->Prop:=λ⟨W⟩=>let a0:=W.ay;let b0:=True/\True;let c0:=bE a0 (λd0:Nat=>az (W.af d0) 65535) 1;let e0:=c0 !=0;let b:=W.ak;let h0:=bE b (λk0:Nat=>az (W.kinds k0) 8||W.kinds k0==1) 3;let e:=h0 !=0;let o0:=W.aL;(((a0=a0/\(∀c:Nat,c<a0->True/\W.af c=W.af c))/\(1:Int)=1/\b0)/\True/\(1:Int)≠0/\a0<=100000)/\(e0=true->(c0=ph W/\bA a0 (λr0:Nat=>az (W.af r0) 65535) 1=xS W)/\True)/\(e0=false->(((b=b/\(∀d:Nat,d<b->True/\W.kinds d=W.kinds d))/\(3:Int)=3/\b0)/\True/\(3:Int)≠0/\b<=100000)/\(e=true->(h0=ph W/\bA b (λv0:Nat=>az (W.kinds v0) 8||W.kinds v0==1) 3=xS W)/\True)/\(e=false->(((o0=o0/\(∀w0:Nat,w0<o0->True/\W.aA w0=W.aA w0))/\(2:Int)=2/\b0)/\True/\(2:Int)≠0/\o0<=100000)/\(bE o0 (λg:Nat=>az (W.aA g) 3) 2=ph W/\bA o0 (λh:Nat=>az (W.aA h) 3) 2=xS W)/\True))
theorem UM:aY Tryz.prog bk 73 V3:=bn (.cons (V4.or (V5.or V6)) .nil) false Tryz.call73 Tryz.func73 (λ_=> []) (V:=Lm) (λ_=>by kernel_rfl) λ⟨W⟩ hp=>by
 dsimp only[FB]at hp;dsimp only[Lm,tn,aw,aB,aJ,aK,aG];have b1:=hp.af;have b2:=hp.kinds;have b:=hp.aA;simp only[bq,bx,eq_self,implies_true,bo];unfold ph xS qj;refine⟨⟨by decide,by omega⟩,λh=>D1 (by decide) h,λh=>⟨⟨by decide,by omega⟩,λh2=>?_,λh2=>⟨⟨by decide,by omega⟩,?_⟩⟩⟩
 ·rw[zK (by decide) h];exact D1 (by decide) h2
 ·rw[zK (by decide) h,zK (by decide) h2];exact⟨rfl,rfl⟩
structure Cj where
 (W:Wd)
def Gr:Sy.Spec:=⟨Cj,λ⟨W⟩=> [dN W],λ_=> [],λ⟨W⟩=>bQ W,λ⟨W⟩=> .er 43 66 (vN W) (I7 W),λ_=> [],
 λargs mem=>match args with| [a0]=>some ⟨dJ a0⟩|_=>none⟩
def XM:aZ:=⟨[],(Gr).g,none⟩
def Nb:Cj->Prop:=λ⟨W⟩=>let a0:=W.ao;let b0:=a0=a0/\(∀c0:Nat,c0<a0->aK (W.aa c0) (W.aa c0));let d0:=W.ak;let e0:=W.aO;let c:=W.aX;let h0:=W.aC;let k0:=W.aR;True/\((b0/\(8:Int)=8/\tn 2 (((((((((((True/\W.ay=W.ay/\(∀d:Nat,d<W.ay->True/\W.af d=W.af d))/\d0=d0/\(∀o0:Nat,o0<d0->True/\W.kinds o0=W.kinds o0))/\b0)/\e0=e0/\(∀e:Nat,e<e0->aJ (W.tasks e) (W.tasks e)))/\c=c/\(∀r0:Nat,let g:=W.ah r0;r0<c->True/\g=g/\(∀v0:Nat,v0<g->True/\W.lines r0 v0=W.lines r0 v0)))/\W.aP=W.aP/\(∀w0:Nat,w0<W.aP->True/\W.bits w0=W.bits w0))/\h0=h0/\(∀h:Nat,h<h0->True/\W.ai h=W.ai h))/\k0=k0/\(∀b:Nat,let z0:=W.al b;b<k0->True/\z0=z0/\(∀a1:Nat,a1<z0->True/\W.ready b a1=W.ready b a1)))/\W.aQ=W.aQ/\(∀b1:Nat,let c1:=W.aD b1;b1<W.aQ->True/\c1=c1/\(∀d1:Nat,d1<c1->aG (W.ax b1 d1) (W.ax b1 d1))))/\W.aL=W.aL/\(∀i:Nat,i<W.aL->True/\W.aA i=W.aA i))/\W.time=W.time)/\True)/\True/\(8:Int)≠0/\bQ W)/\(bE a0 (λj:Nat=>!eR W j) 8=vN W/\bA a0 (λh1:Nat=>!eR W h1) 8=I7 W)/\True
theorem V1:aY Tryz.prog bk 74 XM:=bn (.cons XN .nil) false Tryz.call74 Tryz.func74 (λ_=> []) (V:=Nb) (λ_=>by kernel_rfl) λ⟨W⟩ hp=>by dsimp only[Gr]at hp;dsimp only[Nb,tn,aw,aB,aJ,aK,aG];simp only[bq,bx,eq_self,implies_true,bo];exact⟨⟨by decide,hp⟩,rfl,rfl⟩
structure Ln where
 (W:Wd)
def Lo:Sy.Spec:=⟨Ln,λ⟨W⟩=> [dN W],λ_=> [],λ⟨W⟩=>bQ W/\m8 W,λ⟨W⟩=> .er 43 66 (xT W) (Eu W),λ_=> [],
 λargs mem=>match args with| [a0]=>some ⟨dJ a0⟩|_=>none⟩
def V7:aZ:=⟨[],(Lo).g,none⟩
def Lp:Ln->Prop:=λ⟨W⟩=>let a0:=W.aO;let b0:=a0=a0/\(∀c0:Nat,c0<a0->aJ (W.tasks c0) (W.tasks c0));let d0:=W.ak;let e0:=W.ao;let b:=W.aX;let h0:=W.aC;let k0:=W.aR;let c:=W.aQ;True/\((b0/\(8:Int)=8/\tn 2 (((((((((((True/\W.ay=W.ay/\(∀o0:Nat,o0<W.ay->True/\W.af o0=W.af o0))/\d0=d0/\(∀e:Nat,e<d0->True/\W.kinds e=W.kinds e))/\e0=e0/\(∀r0:Nat,r0<e0->aK (W.aa r0) (W.aa r0)))/\b0)/\b=b/\(∀d:Nat,let v0:=W.ah d;d<b->True/\v0=v0/\(∀w0:Nat,w0<v0->True/\W.lines d w0=W.lines d w0)))/\W.aP=W.aP/\(∀g:Nat,g<W.aP->True/\W.bits g=W.bits g))/\h0=h0/\(∀h:Nat,h<h0->True/\W.ai h=W.ai h))/\k0=k0/\(∀z0:Nat,let a1:=W.al z0;z0<k0->True/\a1=a1/\(∀b1:Nat,b1<a1->True/\W.ready z0 b1=W.ready z0 b1)))/\c=c/\(∀c1:Nat,let d1:=W.aD c1;c1<c->True/\d1=d1/\(∀i:Nat,i<d1->aG (W.ax c1 i) (W.ax c1 i))))/\W.aL=W.aL/\(∀j:Nat,j<W.aL->True/\W.aA j=W.aA j))/\W.time=W.time)/\True)/\True/\(8:Int)≠0/\bQ W/\(∀h1:Nat,h1<b->W.ah h1<=50)/\(∀k1:Nat,k1<k0->W.al k1<=50)/\(∀k:Nat,k<c->W.aD k<=50))/\(bE a0 (λo1:Nat=>!eN W o1) 8=xT W/\bA a0 (λl:Nat=>!eN W l) 8=Eu W)/\True
theorem UN:aY Tryz.prog bk 76 V7:=bn (.cons XO .nil) false Tryz.call76 Tryz.func76 (λ_=> []) (V:=Lp) (λ_=>by kernel_rfl) λ⟨W⟩ hp=>by dsimp only[Lo]at hp;dsimp only[Lp,tn,aw,aB,aJ,aK,aG];simp only[bq,bx,eq_self,implies_true,bo];unfold xT Eu rM bE bA;rw[hp.1.tasks];exact⟨⟨by decide,hp⟩,rfl,rfl⟩
structure Lq where
 (W:Wd)
def Lr:Sy.Spec:=⟨Lq,λ⟨W⟩=> [dN W],λ_=> [],λ⟨W⟩=>bQ W/\m8 W,λ⟨W⟩=> .er 43 66 (xU W) (Ev W),λ_=> [],
 λargs mem=>match args with| [a0]=>some ⟨dJ a0⟩|_=>none⟩
def V8:aZ:=⟨[],(Lr).g,none⟩
def Ls:Lq->Prop:=λ⟨W⟩=>let a0:=W.aX;let b0:=a0=a0/\(∀c0:Nat,let d0:=W.ah c0;c0<a0->True/\d0=d0/\(∀e0:Nat,e0<d0->True/\W.lines c0 e0=W.lines c0 e0));let c:=W.ak;let h0:=W.ao;let k0:=W.aO;let d:=W.aC;let o0:=W.aR;let b:=W.aQ;True/\((b0/\(8:Int)=8/\tn 2 (((((((((((True/\W.ay=W.ay/\(∀r0:Nat,r0<W.ay->True/\W.af r0=W.af r0))/\c=c/\(∀e:Nat,e<c->True/\W.kinds e=W.kinds e))/\h0=h0/\(∀v0:Nat,v0<h0->aK (W.aa v0) (W.aa v0)))/\k0=k0/\(∀w0:Nat,w0<k0->aJ (W.tasks w0) (W.tasks w0)))/\b0)/\W.aP=W.aP/\(∀g:Nat,g<W.aP->True/\W.bits g=W.bits g))/\d=d/\(∀h:Nat,h<d->True/\W.ai h=W.ai h))/\o0=o0/\(∀z0:Nat,let a1:=W.al z0;z0<o0->True/\a1=a1/\(∀b1:Nat,b1<a1->True/\W.ready z0 b1=W.ready z0 b1)))/\b=b/\(∀c1:Nat,let d1:=W.aD c1;c1<b->True/\d1=d1/\(∀i:Nat,i<d1->aG (W.ax c1 i) (W.ax c1 i))))/\W.aL=W.aL/\(∀j:Nat,j<W.aL->True/\W.aA j=W.aA j))/\W.time=W.time)/\True)/\True/\(8:Int)≠0/\bQ W/\(∀h1:Nat,h1<a0->W.ah h1<=50)/\(∀k1:Nat,k1<o0->W.al k1<=50)/\(∀k:Nat,k<b->W.aD k<=50))/\(bE a0 (λo1:Nat=>!fg W o1) 8=xU W/\bA a0 (λl:Nat=>!fg W l) 8=Ev W)/\True
theorem UO:aY Tryz.prog bk 77 V8:=bn (.cons (Nc.or Nd) .nil) false Tryz.call77 Tryz.func77 (λ_=> []) (V:=Ls) (λ_=>by kernel_rfl) λ⟨W⟩ hp=>by dsimp only[Lr]at hp;dsimp only[Ls,tn,aw,aB,aJ,aK,aG];simp only[bq,bx,eq_self,implies_true,bo];refine⟨⟨by decide,hp⟩,?_⟩;unfold xU Ev rN bE bA;rw[hp.1.lines];exact⟨rfl,rfl⟩
structure Lt where
 (W:Wd)
def Lu:Sy.Spec:=⟨Lt,λ⟨W⟩=> [dN W],λ_=> [],λ⟨W⟩=>bQ W/\m8 W,λ⟨W⟩=> .er 43 66 (vO W) (AO W),λ_=> [],
 λargs mem=>match args with| [a0]=>some ⟨dJ a0⟩|_=>none⟩
def V9:aZ:=⟨[],(Lu).g,none⟩
def Lv:Lt->Prop:=λ⟨W⟩=>let a0:=W.aC;let b0:=a0=a0/\(∀c0:Nat,c0<a0->True/\W.ai c0=W.ai c0);let d0:=W.ak;let e0:=W.ao;let d:=W.aO;let h0:=W.aX;let k0:=W.aR;let j:=k0=k0/\(∀o0:Nat,let e:=W.al o0;o0<k0->True/\e=e/\(∀r0:Nat,r0<e->True/\W.ready o0 r0=W.ready o0 r0));let b:=W.aQ;let v0:=(8:Int)=8/\tn 4 (((((((((((True/\W.ay=W.ay/\(∀w0:Nat,w0<W.ay->True/\W.af w0=W.af w0))/\d0=d0/\(∀g:Nat,g<d0->True/\W.kinds g=W.kinds g))/\e0=e0/\(∀h:Nat,h<e0->aK (W.aa h) (W.aa h)))/\d=d/\(∀z0:Nat,z0<d->aJ (W.tasks z0) (W.tasks z0)))/\h0=h0/\(∀a1:Nat,let b1:=W.ah a1;a1<h0->True/\b1=b1/\(∀c1:Nat,c1<b1->True/\W.lines a1 c1=W.lines a1 c1)))/\W.aP=W.aP/\(∀d1:Nat,d1<W.aP->True/\W.bits d1=W.bits d1))/\b0)/\j)/\b=b/\(∀c:Nat,let i:=W.aD c;c<b->True/\i=i/\(∀h1:Nat,h1<i->aG (W.ax c h1) (W.ax c h1))))/\W.aL=W.aL/\(∀k1:Nat,k1<W.aL->True/\W.aA k1=W.aA k1))/\W.time=W.time)/\True;let k:=bE a0 (λo1:Nat=>!eK W o1) 8;let l:=k !=0;tn 3 (((b0/\v0)/\True/\(8:Int)≠0/\bQ W)/\(l=true->(k=vO W/\bA a0 (λr1:Nat=>!eK W r1) 8=AO W)/\True)/\(l=false->((j/\v0)/\True/\(8:Int)≠0/\bQ W/\(∀n:Nat,n<h0->W.ah n<=50)/\(∀v1:Nat,v1<k0->W.al v1<=50)/\(∀w1:Nat,w1<b->W.aD w1<=50))/\(bE k0 (λo:Nat=>!gn W o) 8=vO W/\bA k0 (λp:Nat=>!gn W p) 8=AO W)/\True))
theorem UP:aY Tryz.prog bk 78 V9:=bn (.cons XP (.cons (Nd.or Nc) .nil)) false Tryz.call78 Tryz.func78 (λ_=> []) (V:=Lv) (λ_=>by kernel_rfl) λ⟨W⟩ hp=>by dsimp only[Lu]at hp;dsimp only[Lv,tn,aw,aB,aJ,aK,aG];simp only[bq,bx,eq_self,implies_true,bo];unfold vO AO rO;refine⟨⟨by decide,hp.1⟩,λh=>D1 (by decide) h,λh=>⟨⟨by decide,hp⟩,?_⟩⟩;rw[zK (by decide) h];exact⟨rfl,rfl⟩
structure Nf where
 (W:Wd)
def Ng:Sy.Spec:=⟨Nf,λ⟨W⟩=> [dN W],λ_=> [],λ⟨W⟩=>bQ W/\m8 W/\∀i,i<W.ay->m6 (W.af i),λ⟨W⟩=> .er 43 66 (vP W) (AP W),λ_=> [],
 λargs mem=>match args with| [a0]=>some ⟨dJ a0⟩|_=>none⟩
def XQ:aZ:=⟨[],(Ng).g,none⟩
def Nh:Nf->Prop:=λ⟨W⟩=>let a0:=W.ay;let b0:=a0=a0/\(∀c0:Nat,c0<a0->True/\W.af c0=W.af c0);let d0:=W.ak;let e0:=W.ao;let d:=W.aO;let h0:=W.aX;let k0:=W.aC;let b:=W.aR;let o0:=W.aQ;let n:=o0=o0/\(∀r0:Nat,let e:=W.aD r0;r0<o0->True/\e=e/\(∀v0:Nat,v0<e->aG (W.ax r0 v0) (W.ax r0 v0)));let w0:=(9:Int)=9/\tn 2 (((((((((((True/\b0)/\d0=d0/\(∀g:Nat,g<d0->True/\W.kinds g=W.kinds g))/\e0=e0/\(∀h:Nat,h<e0->aK (W.aa h) (W.aa h)))/\d=d/\(∀z0:Nat,z0<d->aJ (W.tasks z0) (W.tasks z0)))/\h0=h0/\(∀a1:Nat,let b1:=W.ah a1;a1<h0->True/\b1=b1/\(∀c1:Nat,c1<b1->True/\W.lines a1 c1=W.lines a1 c1)))/\W.aP=W.aP/\(∀d1:Nat,d1<W.aP->True/\W.bits d1=W.bits d1))/\k0=k0/\(∀i:Nat,i<k0->True/\W.ai i=W.ai i))/\b=b/\(∀c:Nat,let h1:=W.al c;c<b->True/\h1=h1/\(∀k1:Nat,k1<h1->True/\W.ready c k1=W.ready c k1)))/\n)/\W.aL=W.aL/\(∀j:Nat,j<W.aL->True/\W.aA j=W.aA j))/\W.time=W.time)/\True;let o1:=bE a0 (λr:Nat=>!f' W r) 9;let r1:=o1 !=0;True/\((b0/\w0)/\True/\(9:Int)≠0/\bQ W/\(∀k:Nat,k<a0->0<=W.af k/\W.af k<=65535))/\(r1=true->(o1=vP W/\bA a0 (λv1:Nat=>!f' W v1) 9=AP W)/\True)/\(r1=false->((n/\w0)/\True/\(9:Int)≠0/\bQ W/\((∀w1:Nat,w1<h0->W.ah w1<=50)/\(∀o:Nat,o<b->W.al o<=50)/\(∀p:Nat,p<o0->W.aD p<=50))/\(∀l:Nat,l<a0->0<=W.af l/\W.af l<=65535))/\(bE o0 (λq:Nat=>!ga W (W.aD q) (W.ax q)) 9=vP W/\bA o0 (λb2:Nat=>!ga W (W.aD b2) (W.ax b2)) 9=AP W)/\True)
theorem V2:aY Tryz.prog bk 79 XQ:=bn (.cons XR (.cons XS .nil)) false Tryz.call79 Tryz.func79 (λ_=> []) (V:=Nh) (λ_=>by kernel_rfl) λ⟨W⟩ hp=>by
 dsimp only[Ng]at hp;dsimp only[Nh,tn,aw,aB,aJ,aK,aG];simp only[bq,bx,eq_self,implies_true,bo];refine⟨⟨by decide,hp.1,hp.2.2⟩,λh=>?_,λh=>⟨⟨by decide,hp⟩,?_⟩⟩
 ·exact D1 (by decide) h
 ·unfold vP AP rP;rw[zK (by decide) h,<-hp.1.ax];exact⟨rfl,rfl⟩
def gw (W:Wd):Nat->Nat->Bool
 |0,_=>false
 |k+1,f=>bif bU (W.aa k) f then decide ((f:Int)<(W.aa k).base+(W.aa k).mark)else gw W k f
def eI (W:Wd) (k f:Nat):Nat:=bD k λq=>bU (W.aa q) f
def gj (W:Wd) (k f:Nat):Nat:=bD k λq=>cJ (W.aa q) f
def gN (b:Int) (j:Nat) (f:Nat):Bool:=decide (b<=f)&&decide ((f:Int)<b+j)
theorem Ro (b:Int) (f:Nat):gN b 0 f=false:=by
 unfold gN;rcases tv (f:Int) b with h|h
 ·rw[decide_eq_false (show¬b<=(f:Int) by omega)];rfl
 ·rw[decide_eq_false (show¬(f:Int)<b+((0:Nat):Int) by omega),qI]
theorem Gs (b:Int) (j f:Nat) (h:(f:Int)=b+j):gN b j f=false/\gN b (j+1) f=true:=by unfold gN;rw[decide_eq_false (show¬(f:Int)<b+(j:Int) by omega),decide_eq_true (show b<=(f:Int) by omega),decide_eq_true (show(f:Int)<b+((j+1:Nat):Int) by omega)];exact⟨rfl,rfl⟩
theorem Na (b:Int) (j f:Nat) (h:(f:Int)≠b+j):gN b (j+1) f=gN b j f:=by unfold gN;rw[show decide ((f:Int)<b+((j+1:Nat):Int))=decide ((f:Int)<b+(j:Int))from decide_eq_decide.2 (by omega)]
theorem Gt {W:Wd} {f:Nat}:∀{n:Nat},eI W n f=0->(da n λi=>gL (W.aa i) f)=false
 |0,_=>rfl
 |n+1,h=>by
  have h:eI W n f+(bif bU (W.aa n) f then 1 else 0)=0:=h;cases b:bU (W.aa n) f with
  |true=>rw[b]at h;simp at h
  |false=>rw[b]at h;rw[Kl,Gt (n:=n) (by simpa using h)];unfold gL;rw[b];rfl
theorem O8 {W:Wd} {f:Nat}:∀{n:Nat},eI W n f=1->(da n λi=>gL (W.aa i) f)=!gw W n f
 |0,h=>by cases h
 |n+1,h=>by
  have h:eI W n f+(bif bU (W.aa n) f then 1 else 0)=1:=h;rw[Kl];show _=!(bif bU (W.aa n) f then decide ((f:Int)<(W.aa n).base+(W.aa n).mark)else gw W n f);cases b:bU (W.aa n) f with
  |true=>rw[b]at h;rw[Gt (n:=n) (by simpa using h)];unfold gL;rw[b];simp only[jw,qO,cond_true];rw[<-decide_not];exact decide_eq_decide.2 (by omega)
  |false=>rw[b]at h;rw[O8 (n:=n) (by simpa using h)];unfold gL;rw[b];simp
theorem Zn {W:Wd} {f:Nat}:(decide (1<((eI W W.ao f:Nat):Int))||W.kinds f !=0&&(((gj W W.ao f:Nat):Int)==0||((eI W W.ao f:Nat):Int)==1&&!gw W W.ao f))=!rJ W f:=by
 rw[O9,Hn];show _=!(decide (eI W W.ao f<=1)&&(W.kinds f==0||(decide (0<gj W W.ao f)&&!da W.ao λi=>gL (W.aa i) f)));rw[show decide (0<gj W W.ao f)=!(gj W W.ao f==0) by
  cases d:gj W W.ao f==0 with
  |true=>rw[eq_of_beq d];rfl
  |false=>
   have c:gj W W.ao f≠0:=by simpa using d
   rw[decide_eq_true (yO c)];rfl]
 have b:eI W W.ao f=0\/eI W W.ao f=1\/2<=eI W W.ao f:=by omega
 rcases b with b|b|b
 ·rw[Gt b,b];simp only[bne];cases W.kinds f==0<;>cases gj W W.ao f==0<;>rfl
 ·rw[O8 b,b];simp only[bne];cases W.kinds f==0<;>cases gj W W.ao f==0<;>cases gw W W.ao f<;>rfl
 ·rw[decide_eq_true (show(1:Int)<((eI W W.ao f:Nat):Int) by omega),decide_eq_false (show¬eI W W.ao f<=1 by omega)];rfl
def Zo (W:Wd):cQ where
 σ:=Nat
 rt:= [(3,0),(4,0),(5,0)]
 sh i:= [(3,cm 0),(4,cm 2),(5,cm 4),(36,.v (.int .i64 i))]
 mh i:= [(1,.row 1 W.ak λf _=> .v (.int .i64 (eI W i f:Nat))),(3,.row 1 W.ak λf _=> .v (.bool (gw W i f))),(5,.row 1 W.ak λf _=> .v (.int .i64 (gj W i f:Nat)))]
 inv i:=i<=W.ao
 μ i:=W.ao -i
 init:=0
def Zp (W:Wd) (i:Int):cQ where
 σ:=Nat
 rt:= [(3,0),(4,0),(5,0),(7,0)]
 sh j:= [(3,cm 0),(4,cm 2),(5,cm 4),(7,cm 6),(59,.v (.int .i64 j))]
 mh j:= [(1,.row 1 W.ak λf _=> .v (.int .i64 ((eI W i.toNat f:Nat)+(bif gN (W.aa i.toNat).base j f then 1 else 0)))),(3,.row 1 W.ak λf _=> .v (.bool (bif gN (W.aa i.toNat).base j f then decide ((f:Int)<(W.aa i.toNat).base+(W.aa i.toNat).mark)else gw W i.toNat f)))]
 inv j:=(j:Int)<=(W.aa i.toNat).len
 μ j:=(W.aa i.toNat).len.toNat -j
 init:=0
structure Kp where
 (W:Wd)
def Kq:Sy.Spec:=⟨Kp,λ⟨W⟩=> [dN W],λ_=> [],λ⟨W⟩=>bQ W/\∀i,i<W.ao->eR W i=true,λ⟨W⟩=> .er 43 66 (AN W) (I8 W),λ_=> [],
 λargs mem=>match args with| [a0]=>some ⟨dJ a0⟩|_=>none⟩
def UR:aZ:=⟨[],(Kq).g,none⟩
def Kr:Kp->Prop:=λ⟨W⟩=>let a0:=W.ak;let b0:=(a0:Int);let c0:=b0<=9223372036854775807;let d0:=0<=b0;let e0:=b0<=b0;let R:=d0/\e0/\((8:Nat):Int)*b0<=140737488355328;let h0:=W.ao;let k0:=(h0:Int);let S:=SV.ptr 0 0 none 0 0;let o0:=S=S;let T:=SV.ptr 2 0 none 0 0;let r0:=T=T;let U:=SV.ptr 4 0 none 0 0;let v0:=U=U;let w0:=Int.toNat b0;let r:=w0=w0;let b:=True/\0=0/\r;let z0:=w0=a0;let a1:=(w0:Int);let b1:=false=false;let c1:=a0=a0;let d1:=SV.ptr 6 0 none 0 0;let V:=d1=d1;let y:=a0<=w0;c0->R/\tn 2 (c0->(d0/\e0/\((1:Nat):Int)*b0<=140737488355328)/\tn 2 (c0->R/\tn 2 (k0<=9223372036854775807->o0/\r0/\v0/\0=((0:Nat):Int)/\(b/\(z0/\(∀h1:Nat,h1<a0->True/\0=((eI W 0 h1:Nat):Int)))/\b/\(z0/\(∀k1:Nat,k1<a0->True/\false=gw W 0 k1))/\b/\(z0/\(∀X:Nat,X<a0->True/\0=((gj W 0 X:Nat):Int)))/\True)/\0<=h0/\(∀o1:Nat,let k:=(o1:Int);let r1:=decide (k<k0);let d:=Int.toNat k;let v1:=W.aa d;let w1:=v1.kind;let Y:=w1 !=1;let Z:=w1 !=0;let c:=v1.base;let a2:=0<=c/\c<a1;let b2:=0+Int.toNat c;let z:Int:=((gj W o1 b2:Nat):Int)+1;let d2:Int:=k+1;let A:=aw d2=d2;let g2:=v1.mark;let h2:Int:=c+g2;let k2:=b/\(c1/\(∀l2:Nat,let o2:=((gj W o1 l2:Nat):Int);l2<a0->True/\o2=o2))/\aK v1 v1/\True;let l:=v1.len;let r2:=Int.toNat l;o1<=h0->(r1=true->(0<=k/\k<k0)/\True/\tn 6 True/\(Y=true->(Z=true->a2/\aw z=z/\a2/\(∀u2:Nat,b1)/\A/\(∃h:Nat,o0/\r0/\v0/\d2=(h:Int)/\(b/\(c1/\(∀B:Nat,B<a0->True/\((eI W o1 B:Nat):Int)=((eI W h B:Nat):Int)))/\b/\(c1/\(∀C:Nat,C<a0->True/\gw W o1 C=gw W h C))/\b/\(c1/\(∀t:Nat,t<a0->True/\
 cond (Nat.beq t b2) z ((gj W o1 t:Nat):Int)=((gj W h t:Nat):Int)))/\True)/\h<=h0/\h0-h<h0-o1))/\(Z=false->A/\(∃i:Nat,o0/\r0/\v0/\d2=(i:Int)/\(b/\(c1/\(∀a3:Nat,a3<a0->True/\((eI W o1 a3:Nat):Int)=((eI W i a3:Nat):Int)))/\b/\(c1/\(∀E:Nat,E<a0->True/\gw W o1 E=gw W i E))/\b/\(c1/\(∀G:Nat,G<a0->True/\((gj W o1 G:Nat):Int)=((gj W i G:Nat):Int)))/\True)/\i<=h0/\h0-i<h0-o1)))/\(Y=false->o0/\r0/\v0/\V/\0=((0:Nat):Int)/\(b/\(c1/\(∀u:Nat,u<a0->True/\((eI W o1 u:Nat):Int)=((eI W d u:Nat):Int)+cond (gN c 0 u) 1 0))/\b/\(c1/\(∀e3:Nat,e3<a0->True/\gw W o1 e3=cond (gN c 0 e3) (decide ((e3:Int)<h2)) (gw W d e3)))/\k2)/\((0:Nat):Int)<=l/\(∀e:Nat,let n:=(e:Int);let k3:=decide (n<l);let o:Int:=c+n;let o3:=aw o=o;let I:=0<=o/\o<a1;let r3:=0+Int.toNat o;let J:Int:=((eI W d r3:Nat):Int)+cond (gN c e r3) 1 0+1;let v3:Int:=n+1;n<=l->(k3=true->o3/\I/\aw J=J/\I/\(∀w3:Nat,b1)/\o3/\I/\(∀x3:Nat,b1)/\aw v3=v3/\(∃p:Nat,o0/\r0/\v0/\V/\v3=(p:Int)/\(b/\(c1/\(∀z3:Nat,let a4:=((eI W d z3:Nat):Int);z3<a0->True/\cond (Nat.beq z3 r3) J (a4+cond (gN c e z3) 1 0)=a4+cond (gN c p z3) 1 0))/\b/\(c1/\(∀g:Nat,let c4:=decide ((g:Int)<h2);g<a0->True/\cond (Nat.beq g r3) (decide (n<g2)) (cond (gN c e g) c4 (gw W d g))=cond (gN c p g) c4 (gw W d g)))/\k2)/\(p:Int)<=l/\r2-p<r2-e))/\(k3=false->A/\(∃j:Nat,o0/\r0/\v0/\d2=(j:Int)/\(b/\(c1/\(∀e4:Nat,e4<a0->True/\((eI W d e4:Nat):Int)+cond (gN c e e4) 1 0=((eI W j e4:Nat):Int)))/\b/\(c1/\
 (∀q:Nat,q<a0->True/\cond (gN c e q) (decide ((q:Int)<h2)) (gw W d q)=gw W j q))/\b/\(c1/\(∀K:Nat,K<a0->True/\((gj W o1 K:Nat):Int)=((gj W j K:Nat):Int)))/\True)/\j<=h0/\h0-j<h0-o1)))))/\(r1=false->(((c1/\(∀O:Nat,O<a0->True/\W.kinds O=W.kinds O))/\(8:Int)=8/\((tn 2 (r/\(∀l4:Nat,let o4:=((eI W o1 (0+l4):Nat):Int);l4<w0->True/\o4=o4))/\True/\r/\(∀q4:Nat,let r4:=((gj W o1 (0+q4):Nat):Int);q4<w0->True/\r4=r4))/\True/\r/\(∀u4:Nat,let v4:=gw W o1 (0+u4);u4<w0->True/\v4=v4))/\True)/\True/\(8:Int)≠0/\a0<=100000/\y/\y/\y)/\(bE a0 (λv:Nat=>let x4:=((eI W o1 (0+v):Nat):Int);decide (1<x4)||W.kinds v !=0&&(((gj W o1 (0+v):Nat):Int)==0||x4==1&&!gw W o1 (0+v))) 8=AN W/\bA a0 (λx:Nat=>let z4:=((eI W o1 (0+x):Nat):Int);decide (1<z4)||W.kinds x !=0&&(((gj W o1 (0+x):Nat):Int)==0||z4==1&&!gw W o1 (0+x))) 8=I8 W)/\True)))))
set_option maxHeartbeats 2000000 in
theorem TZ:aY Tryz.prog bk 75 UR:=bn (.cons XL .nil) false Tryz.call75 Tryz.func75 (λ⟨W⟩=> [.inv (Zo W),.zL false λfr=>adw (fr 36) (Zp W)]) (V:=Kr) (λ_=>by kernel_rfl) λ⟨W⟩ hp=>by
 dsimp only[Kq]at hp;dsimp only[Kr,tn,aw,aB,aJ,aK,aG];obtain⟨x,hs⟩:=hp;have R:=x.aa;have T:=x.k1;simp only[bq,bx,eq_self,implies_true,bo];have wr:∀z:Int,-100000<=z->z<=100000->IntKind.i64.wrap z=z:=λz h1 h2=>by rw[IntKind.wrap_i64];omega
 refineλ_=>⟨⟨by omega,by omega⟩,λ_=>⟨⟨by omega,by omega⟩,λ_=>⟨⟨by omega,by omega⟩,λ_=>⟨⟨λ_ _=>rfl,λ_ _=>rfl,λ_ _=>rfl⟩,λs C=>⟨λh=>?_,λh=>?_⟩⟩⟩⟩⟩
 ·have u:=fh h;have k:=hs s u;have y:=Ce k;have E:=iY y;have c1:∀f,eI W s f<=s:=λf=>pD _ _;have G:∀f,gj W s f<=s:=λf=>pD _ _;have p:∀f,eI W (s+1) f=eI W s f+(bif bU (W.aa s) f then 1 else 0):=λf=>rfl;have q:∀f,gj W (s+1) f=gj W s f+(bif cJ (W.aa s) f then 1 else 0):=λf=>rfl;have t:∀f,gw W (s+1) f=bif bU (W.aa s) f then decide ((f:Int)<(W.aa s).base+(W.aa s).mark)else gw W s f:=λf=>rfl;have d:(W.aa s).kind≠0->1<=(W.aa s).len/\(W.aa s).base+(W.aa s).len<=W.ak:=λA=>by refine⟨Gi y A,?_⟩;have k:ki W s (W.aa s)=true:=k;rw[FC (beq_eq_false_iff_ne.2 A)]at k;simp only[aW,decide_eq_true_eq]at k;exact k.1.1.2
  obtain⟨S,I⟩:∃S,S=W.aa s:=⟨_,rfl⟩;simp only[<-I]at p q t d E⊢;refine⟨by omega,λh1=>?_,λh1=>?_⟩
  ·have k1:(S.kind==1)=false:=tR h1;have nc:∀f,bU S f=false:=λf=>by unfold bU;rw[k1];rfl
   refine⟨λh2=>?_,λh2=>?_⟩
   ·have k0:(S.kind==0)=false:=tR h2;have B:=d (by simpa using k0);have l:∀f:Nat,cJ S f=(S.base==f):=λf=>by unfold cJ;simp only[bne];rw[k1,k0];rfl
    refine⟨by omega,wr _ (by omega) (by have:=G S.base.toNat;omega),by omega,wr _ (by omega) (by omega),eU ⟨⟨λi c=>?_,λi c=>?_,λi c=>?_⟩,by omega,by omega⟩⟩
    ·rw[p,nc];rfl
    ·rw[t,nc];rfl
    ·rw[q,l];cases b:i.beq S.base.toNat with
     |true=>have g:=a_ b;subst g;rw[show(S.base==((S.base.toNat:Nat):Int))=true from beq_iff_eq.2 (by omega)];simp
     |false=>
      have o:i≠S.base.toNat:=λe=>by subst e;rw[cy]at b;cases b
      rw[show(S.base==(i:Int))=false from beq_eq_false_iff_ne.2 (by omega)];simp
   ·have k0:(S.kind==0)=true:=hC h2;have l:∀f:Nat,cJ S f=false:=λf=>by unfold cJ;simp only[bne];rw[k0,k1];rfl
    refine⟨wr _ (by omega) (by omega),eU ⟨⟨λi c=>?_,λi c=>?_,λi c=>?_⟩,by omega,by omega⟩⟩
    ·rw[p,nc];rfl
    ·rw[t,nc];rfl
    ·rw[q,l];rfl
  ·have k1:(S.kind==1)=true:=hC h1;have B:=d (by rw[eq_of_beq k1];decide);have l:∀f:Nat,cJ S f=false:=λf=>by unfold cJ;simp only[bne];rw[k1];rfl
   refine⟨⟨λi c=>by rw[Ro];simp,λi c=>by rw[Ro];rfl⟩,by omega,λj U=>⟨λv=>?_,λv=>?_⟩⟩
   ·have J:=of_decide_eq_true v;have X:=c1 (S.base+(j:Int)).toNat
    have e0:gN S.base j (S.base+(j:Int)).toNat=false:=(Gs S.base j _ (by omega)).1;rw[e0];refine⟨wr _ (by omega) (by omega),by omega,wr _ (by simp;omega) (by simp;omega),by omega,wr _ (by omega) (by omega),by omega,wr _ (by omega) (by omega),eU ⟨⟨λi c=>?_,λi c=>?_⟩,by omega,by omega⟩⟩
    ·cases b:i.beq (S.base+(j:Int)).toNat with
     |true=>have g:=a_ b;subst g;rw[(Gs S.base j (S.base+(j:Int)).toNat (by omega)).2];simp
     |false=>
      have o:i≠(S.base+(j:Int)).toNat:=λe=>by subst e;rw[cy]at b;cases b
      rw[Na S.base j i (by omega)];rfl
    ·cases b:i.beq (S.base+(j:Int)).toNat with
     |true=>have g:=a_ b;subst g;rw[(Gs S.base j (S.base+(j:Int)).toNat (by omega)).2];exact decide_eq_decide.2 (by omega)
     |false=>
      have o:i≠(S.base+(j:Int)).toNat:=λe=>by subst e;rw[cy]at b;cases b
      rw[Na S.base j i (by omega)];rfl
   ·have J:=of_decide_eq_false v;have K:(j:Int)=S.len:=by omega
    have ec:∀f:Nat,gN S.base j f=bU S f:=λf=>by unfold gN bU;rw[k1,K];rfl
    refine⟨wr _ (by omega) (by omega),eU ⟨⟨λi c=>?_,λi c=>?_,λi c=>?_⟩,by omega,by omega⟩⟩
    ·rw[p,ec];cases bU S i<;>simp
    ·rw[t,ec]
    ·rw[q,l];rfl
 ·have O:=fq h;obtain rfl:s=W.ao:=by omega
  have e:=TU (n:=W.ak) (e:=8) (r:=(0,-1)) (r':=(0,-1)) (λf (B:f<W.ak)=>Zn (W:=W) (f:=f)) (λ_=>rfl);refine⟨⟨by decide,by omega,bc _⟩,?_,?_⟩
  ·exact congrArg (·.1) e
  ·exact congrArg (·.2) e
def Seq (f:Int×Int->Int×Int):Prop:=∀r,((f (0,-1)).1=0->f r=r)/\((f (0,-1)).1≠0->f r=f (0,-1))
theorem Seq.fst {n:Nat} {p:Nat->Bool} {e:Int} (b:e≠0):Seq (eP n p e):=λr=>FA b
theorem Seq.comp {f g:Int×Int->Int×Int} (b:Seq f) (c:Seq g):Seq λr=>f (g r):=by
 intro r;show((f (g (0,-1))).1=0->f (g r)=r)/\((f (g (0,-1))).1≠0->f (g r)=f (g (0,-1)));rcases aT ((f (0,-1)).1=0)with h|h
 ·rw[(b (g r)).1 h,(b (g (0,-1))).1 h];exact c r
 ·rw[(b (g r)).2 h,(b (g (0,-1))).2 h];exact⟨λh2=>absurd h2 h,λ_=>rfl⟩
theorem seq1 (W:Wd):Seq (qj W):=(Seq.fst (by decide)).comp ((Seq.fst (by decide)).comp (Seq.fst (by decide)))
theorem Sc (W:Wd):Seq (rL W):=Seq.fst (by decide)
theorem Sd (W:Wd):Seq (vK W):=Seq.fst (by decide)
theorem Se (W:Wd):Seq (rM W):=Seq.fst (by decide)
theorem Sf (W:Wd):Seq (rN W):=Seq.fst (by decide)
theorem Sg (W:Wd):Seq (rO W):=(Seq.fst (by decide)).comp (Seq.fst (by decide))
theorem Sh (W:Wd):Seq (rP W):=(Seq.fst (by decide)).comp (Seq.fst (by decide))
theorem lg {W:Wd} {f:Int×Int->Int×Int} (b:Seq f) {r:Int×Int} (c:wm W=f r):(((f (0,-1)).1 !=0)=true->(f (0,-1)).1=wE W/\(f (0,-1)).2=wA W)/\(((f (0,-1)).1 !=0)=false->wm W=r):=by
 refine⟨λh=>?_,λh=>?_⟩
 ·unfold wE wA;rw[c,(b r).2 (by simpa using h)];exact⟨rfl,rfl⟩
 ·rw[c,(b r).1 (by simpa using h)]
theorem Zm {W:Wd} (h:(ph W !=0)=false):∀i,i<W.ay->m6 (W.af i):=λi b=>by
 have h1:(qj W (0,-1)).1=0:=by simpa [ph]using h
 have:=(lu (by decide) h1).1 i b;simp[az]at this;exact⟨by omega,by omega⟩
theorem VZ {W:Wd} (h:(vN W !=0)=false):∀i,i<W.ao->eR W i=true:=λi b=>by
 have h1:(rL W (0,-1)).1=0:=by simpa [vN]using h
 have:=(lu (by decide) h1).1 i b;exact hC this
structure my where
 (W:Wd)
def sL:Sy.Spec:=⟨my,λ⟨W⟩=> [hK W],λ_=> [],λ⟨W⟩=>Sm W,λ⟨W⟩=> .er 43 66 (wE W) (wA W),λ_=> [],
 λargs mem=>match args with| [a0]=>some ⟨jj a0⟩|_=>none⟩
def V0:aZ:=⟨[],(sL).g,none⟩
def Ll:my->Prop:=λ⟨W⟩=>let a0:=W.ak;let b0:=(a0:Int);let c0:=W.aC;let d0:=(c0:Int);let e0:=cond (cond (cond (decide (b0<1)) true (decide (24<b0))) true (decide (d0<1))) true (decide (4<d0));let j:Int:=b0*16;let h0:=aw j=j;let k0:=W.ay;let z:=cond e0 true ((k0:Int) !=j);let o0:=W.ao;let k:=W.aO;let r0:=W.aX;let l:=W.aP;let v0:=cond (cond (cond (cond z true ((o0:Int) !=j)) true ((k:Int) !=b0)) true ((r0:Int) !=b0)) true ((l:Int) !=b0);let w0:Int:=d0*4;let d:=W.aR;let e:=W.aQ;let z0:=W.aL;let a1:=cond (cond (cond (cond v0 true ((d:Int) !=w0)) true ((e:Int) !=d0)) true (decide ((z0:Int)<1))) true (decide (8<(z0:Int)));let b1:=W.time=W.time;let c1:=cond a1 true (az W.time 1000000);let d1:=wE W;let b:=wA W;let c:=((7:Nat):Int);let h1:=(((((((((((True/\k0=k0/\(∀k1:Nat,k1<k0->True/\W.af k1=W.af k1))/\a0=a0/\(∀o:Nat,o<a0->True/\W.kinds o=W.kinds o))/\o0=o0/\(∀o1:Nat,o1<o0->aK (W.aa o1) (W.aa o1)))/\k=k/\(∀p:Nat,p<k->aJ (W.tasks p) (W.tasks p)))/\r0=r0/\(∀r1:Nat,let q:=W.ah r1;r1<r0->True/\q=q/\(∀v1:Nat,v1<q->True/\W.lines r1 v1=W.lines r1 v1)))/\l=l/\(∀w1:Nat,w1<l->True/\W.bits w1=W.bits w1))/\c0=c0/\(∀r:Nat,r<c0->True/\W.ai r=W.ai r))/\d=d/\(∀n:Nat,let t:=W.al n;n<d->True/\t=t/\(∀u:Nat,u<t->True/\W.ready n u=W.ready n u)))/\e=e/\(∀b2:Nat,let v:=W.aD b2;b2<e->True/\v=v/\(∀d2:Nat,d2<v->aG (W.ax b2 d2) (W.ax b2 d2))))/\z0=z0/\(∀x:Nat,x<z0->True/\W.aA x=W.aA x))/\b1)/\True;let g2:Int:=0+1;let h2:Int:=g2+1;
 let k2:Int:=h2+1;let l2:=(∀A:Nat,A<r0->W.ah A<=50)/\(∀B:Nat,B<d->W.al B<=50)/\(∀r2:Nat,r2<e->W.aD r2<=50);let y:=h1/\True/\bQ W/\l2;let g:Int:=k2+1;let h:Int:=g+1;let i:Int:=h+1;let C:Int:=i+1;tn 8 ((e0=false->h0)/\(z=false->h0)/\(v0=false->aw w0=w0)/\(a1=false->(b1/\(1000000:Int)=1000000/\True)/\True/\True)/\(c1=true->((2:Int)≠0/\d1=2/\b=(-1))/\True)/\(c1=false->tn 2 (c<=9223372036854775807->((0:Int)<=0/\0<c)/\(h1/\True/\FB.match_1 (λI:BM=>Prop) (BM.mk W) (λa3:Wd=>Sm a3))/\((ph W !=0)=true->(ph W=d1/\xS W=b)/\True)/\((ph W !=0)=false->aw g2=g2/\(0<=g2/\g2<c)/\(h1/\True/\Gr.match_1 (λJ:Cj=>Prop) (Cj.mk W) (λG:Wd=>bQ G))/\((vN W !=0)=true->(vN W=d1/\I7 W=b)/\True)/\((vN W !=0)=false->aw h2=h2/\(0<=h2/\h2<c)/\(h1/\True/\bQ W/\(∀E:Nat,E<o0->eR W E=true))/\((AN W !=0)=true->(AN W=d1/\I8 W=b)/\True)/\((AN W !=0)=false->aw k2=k2/\(0<=k2/\k2<c)/\y/\((xT W !=0)=true->(xT W=d1/\Eu W=b)/\True)/\((xT W !=0)=false->aw g=g/\(0<=g/\g<c)/\y/\((xU W !=0)=true->(xU W=d1/\Ev W=b)/\True)/\((xU W !=0)=false->aw h=h/\(0<=h/\h<c)/\y/\((vO W !=0)=true->(vO W=d1/\AO W=b)/\True)/\((vO W !=0)=false->aw i=i/\(0<=i/\i<c)/\(h1/\True/\bQ W/\l2/\(∀e3:Nat,e3<k0->0<=W.af e3/\W.af e3<=65535))/\((vP W !=0)=true->(vP W=d1/\AP W=b)/\True)/\((vP W !=0)=false->aw C=C/\(d1=0/\b=(-1))/\True))))))))))
set_option maxHeartbeats 2000000 in
theorem yl:aY Tryz.prog bk 48 V0:=bn (.cons wF (.cons UM (.cons V1 (.cons TZ (.cons UN (.cons UO (.cons UP (.cons V2 .nil)))))))) false Tryz.call48 Tryz.func48 (λ_=> [.dec,.GD 8]) (V:=Ll) (λ_=>by kernel_rfl) λ⟨W⟩ hp=>by
 dsimp only[sL]at hp;dsimp only[Ll,tn,aw,aB,aJ,aK,aG];simp only[bq,bx,eq_self,implies_true,bo];have wr:∀z:Int,-100000<=z->z<=100000->IntKind.i64.wrap z=z:=λz h1 h2=>by rw[IntKind.wrap_i64];omega
 have b2:=hp.kinds;have u:=hp.ai;rw[UQ];refine⟨λ_=>wr _ (by omega) (by omega),λ_=>wr _ (by omega) (by omega),λ_=>wr _ (by omega) (by omega),λh=>?_,λh _=>⟨⟨by decide,by decide⟩,hp,?_⟩⟩
 ·have:wm W=(2,-1):=by unfold wm;rw[h];rfl
  unfold wE wA;rw[this];exact⟨by decide,rfl,rfl⟩
 have b:=OS h;have c:wm W=(qj W (rL W (vK W (rM W (rN W (rO W (rP W (0,-1)))))))):=by unfold wm;rw[h];rfl
 refine⟨(lg (seq1 W) c).1,λd=>⟨wr _ (by decide) (by decide),⟨by decide,by decide⟩,b,?_⟩⟩;have e:=(lg (seq1 W) c).2 d;refine⟨(lg (Sc W) e).1,λg2=>⟨wr _ (by decide) (by decide),⟨by decide,by decide⟩,⟨b,VZ g2⟩,?_⟩⟩;have g:=(lg (Sc W) e).2 g2;refine⟨(lg (Sd W) g).1,λn=>⟨wr _ (by decide) (by decide),⟨by decide,by decide⟩,⟨b,hp.sm⟩,?_⟩⟩;have i:=(lg (Sd W) g).2 n;refine⟨(lg (Se W) i).1,λo=>⟨wr _ (by decide) (by decide),⟨by decide,by decide⟩,⟨b,hp.sm⟩,?_⟩⟩;have j:=(lg (Se W) i).2 o;refine⟨(lg (Sf W) j).1,λp=>⟨wr _ (by decide) (by decide),⟨by decide,by decide⟩,⟨b,hp.sm⟩,?_⟩⟩;have k:=(lg (Sf W) j).2 p;refine⟨(lg (Sg W) k).1,λq=>⟨wr _ (by decide) (by decide),⟨by decide,by decide⟩,⟨b,hp.sm,Zm d⟩,?_⟩⟩;have l:=(lg (Sg W) k).2 q;refine⟨(lg (Sh W) l).1,λr=>⟨wr _ (by decide) (by decide),?_⟩⟩;have t:=(lg (Sh W) l).2 r;unfold wE wA;rw[t];exact⟨rfl,rfl⟩
def snd (W:Wd):Prop:=bQ W/\∀i,i<W.ao->eR W i=true
def zSl:bM:=⟨0,0,0,0,0,0,0⟩
def aj {b:Type} (f:Nat->b) (i:Nat) (v:b) (j:Nat):b:=bif Nat.beq j i then v else f j
def hO (n:Nat) (f:Nat->Int) (x:Int) (k:Nat):Int:=bif Nat.blt k n then f k else x
def lV (f:Nat->Int) (i k:Nat):Int:=bif Nat.blt k i then f k else f (k+1)
theorem bg {b:Type} {f:Nat->b} {i:Nat} {v:b}:aj f i v i=v:=by unfold aj;rw[cy];rfl
theorem bh {b:Type} {f:Nat->b} {i j:Nat} {v:b} (h:j≠i):aj f i v j=f j:=by unfold aj;rw[dt h];rfl
theorem E4 {b:Type} {f:Nat->b} {i:Nat}:aj f i (f i)=f:=by
 funext j;rcases aT (j=i)with h|h
 ·subst h;exact bg
 ·exact bh h
theorem K6 {a b:aF} (h:xj a b=true):a=b:=by unfold xj at h;simp only[aW,beq_iff_eq,and_true]at h;cases a;cases b;simp only at h;obtain⟨⟨h1,h2,q,r,t,u,v,x⟩,y,c,d,e,g,i,j,k,l,n,o,p⟩:=h;subst h1 h2 q r t u v x y c d e g i j k l n o p;rfl
theorem TR (a:aF):xj a a=true:=by simp[xj]
structure bI (W:Wd):Prop where
 z:bQ W
 af:∀i,i<W.ay->az (W.af i) 65535=false
 kd:∀i,i<W.ak->(az (W.kinds i) 8||W.kinds i==1)=false
 dm:∀i,i<W.aL->az (W.aA i) 3=false
 sl:∀i,i<W.ao->eR W i=true
 fr:∀i,i<W.ak->rJ W i=true
 tk:∀i,i<W.ak->eN W i=true
 ln:∀i,i<W.ak->fg W i=true
 co:∀i,i<W.aC->eK W i=true
 rl:∀i,i<W.aR->gn W i=true
 en:∀i,i<W.ay->f' W i=true
 tl:∀i,i<W.aC->ga W (W.aD i) (W.ax i)=true
theorem VL {W:Wd} (h:bQ W):qZ W=false:=by obtain⟨h1,h2,p,q,d,e,g,i,j,b,c,k,l,n,o⟩:=h;unfold qZ az;simp only[bX,decide_eq_false_iff_not,bne_eq_false_iff_eq];refine⟨⟨⟨⟨⟨⟨⟨⟨⟨⟨⟨⟨⟨?_,?_⟩,?_⟩,?_⟩,d⟩,e⟩,g⟩,i⟩,j⟩,b⟩,c⟩,?_⟩,?_⟩,?_,?_⟩<;>omega
theorem ri {b:Bool} (h:b=true):(!b)=false:=by rw[h];rfl
theorem bI.iff {W:Wd}:wE W=0↔bI W:=by
 constructor
 ·intro h;unfold wE wm at h;cases hs:qZ W with
  |true=>rw[hs]at h;exact absurd (show(2:Int)=0 from h) (by decide)
  |false=>rw[hs]at h;have h:(qj W (rL W (vK W (rM W (rN W (rO W (rP W (0,-1)))))))).1=0:=h;have a1:=lu (by decide) h;have e:=lu (by decide) a1.2;have a3:=lu (by decide) e.2;have a4:=lu (by decide) a3.2;have g:=lu (by decide) a4.2;have j:=lu (by decide) g.2;have k:=lu (by decide) j.2;have l:=lu (by decide) k.2;have n:=lu (by decide) l.2;have c:=lu (by decide) n.2;have d:=lu (by decide) c.2;exact⟨OS hs,a1.1,e.1,a3.1,λi b=>hC (a4.1 i b),λi b=>hC (g.1 i b),λi b=>hC (j.1 i b),λi b=>hC (k.1 i b),λi b=>hC (l.1 i b),λi b=>hC (n.1 i b),λi b=>hC (c.1 i b),λi b=>hC (d.1 i b)⟩
 ·intro h;obtain⟨z,af,kd,dm,sl,fr,tk,ln,co,rl,en,tl⟩:=h;unfold wE wm qj rL vK rM rN rO rP;rw[VL z];rw[fK af,fK kd,fK dm,fK λi b=>ri (sl i b),fK λi b=>ri (fr i b),fK λi b=>ri (tk i b),fK λi b=>ri (ln i b),fK λi b=>ri (co i b),fK λi b=>ri (rl i b),fK λi b=>ri (en i b),fK λi b=>ri (tl i b)];rfl
structure fB (W:Wd) (t:aF):Prop where
 cS:gV t=false
 pc:0<=t.pc/\t.pc<=65535
 word:0<=t.word/\t.word<=65535
 aH:0<=t.aH/\t.aH<=65535
 st:0<=t.st/\t.st<=6
 prio:0<=t.prio/\t.prio<=3
 core:0<=t.core/\t.core<W.aC
 cI:0<=t.cI/\t.cI<=3
 node: -1<=t.node/\t.node<W.ak
 space: -1<=t.space/\t.space<W.ak
 helper: -1<=t.helper/\t.helper<W.ak
 loc: -1<=t.loc/\t.loc<W.ak
 ar: -1<=t.ar/\t.ar<W.ak
structure Inv (L:Nat) (W:Wd):Prop where
 z:bQ W
 af:∀i,i<W.ay->m6 (W.af i)
 kd:∀i,i<W.ak->0<=W.kinds i/\W.kinds i<=8
 dm:∀i,i<W.aL->0<=W.aA i/\W.aA i<=3
 sl:∀i,i<W.ao->eA (W.aa i)=0/\((W.aa i).kind≠0->(W.aa i).base+(W.aa i).len<=W.ak)/\ -1<=(W.aa i).from_/\(W.aa i).from_<W.ao
 tk:∀i,i<W.aO->fB W (W.tasks i)
 ln:∀i,i<W.aX->W.ah i<=L/\∀k,k<W.ah i->0<=W.lines i k/\W.lines i k<W.aO
 rd:∀i,i<W.aR->W.al i<=L/\∀k,k<W.al i->0<=W.ready i k/\W.ready i k<W.aO
 co:∀c,c<W.aC-> -1<=W.ai c/\W.ai c<W.aO
 bt:∀i,i<W.aP->0<=W.bits i/\W.bits i<=65535
 tl:∀c,c<W.aQ->W.aD c<=L
theorem dO {v m:Int} (h:az v m=false):0<=v/\v<=m:=by unfold az at h;simp only[bX,decide_eq_false_iff_not]at h;omega
theorem Cd {W:Wd} {f k:Int} (b:k≠ -1) (h:okF W f k=true): -1<=f/\f<W.ak:=by
 unfold okF at h;simp only[cM,beq_iff_eq]at h;rcases h with h|h
 ·omega
 ·have:=gv (W:=W) (f:=f) (by rw[h];exact b);omega
theorem VM {W:Wd} {f:Nat} (h:lW W f=true):(W.tasks f).loc= -1\/bK W (W.tasks f).loc=7\/bK W (W.tasks f).loc=8:=by unfold lW qD at h;dsimp only at h;generalize ((W.tasks f).st==2||(W.tasks f).st==3||(W.tasks f).st==4)=a at h;generalize ((W.tasks f).st==6)=b at h;generalize ((W.tasks f).st==1)=c at h;cases a<;>cases b<;>cases c<;>simp only[cond_true,cond_false,aW,beq_iff_eq]at h<;>first|exact .inl h.2|exact .inr (.inl h.1.2)|exact .inr (.inr h.1.2)
theorem CQ {W:Wd} {t c p:Int} (h:eS W t c p=true):(0<=t/\t<W.ak)/\bK W t=6/\(W.tasks t.toNat).st=1/\(W.tasks t.toNat).core=c/\(0<=p->(W.tasks t.toNat).prio=p):=by unfold eS at h;simp only[aW,cM,beq_iff_eq,decide_eq_true_eq]at h;obtain⟨⟨⟨h1,h2⟩,b⟩,d⟩:=h;exact⟨gv (by rw[h1];decide),h1,h2,b,λhp=>d.resolve_left (by omega)⟩
theorem pM {W:Wd} (h:bI W) (hs:Sm W):Inv 50 W:=by
 obtain⟨z,af,kd,dm,sl,fr,tk,ln,co,rl,en,tl⟩:=h;have u:=z.tasks;refine⟨z,λi b=>dO (af i b),λi b=>dO (bX.1 (kd i b)).1,λi b=>dO (dm i b),λi b=>?_,λi b=>?_,λi b=>⟨hs.sm.1 i b,λk d=>?_⟩,λi b=>⟨hs.sm.2.1 i b,λk d=>?_⟩,λc e=>?_,λi b=>?_,λc e=>hs.sm.2.2 c e⟩
 ·have h:=sl i b;have g:=Ce h;have v:=iY g;unfold eR ki at h;cases d:(W.aa i).kind==0 with
  |true=>rw[d]at h;simp only[cond_true,aW,beq_iff_eq]at h;refine⟨g,λh0=>absurd (eq_of_beq d) h0,?_,?_⟩<;>omega
  |false=>
   rw[d]at h;simp only[cond_false,aW,cM,beq_iff_eq,decide_eq_true_eq]at h;refine⟨g,λ_=>h.1.1.2,?_⟩;rcases h.2 with h2|h2
   ·omega
   ·have:=j5.1 h2.1.1;omega
 ·have h:=tk i (by omega);unfold eN at h;cases d:W.kinds i !=6 with
  |true=>
   have h:xj (W.tasks i) aF.blank=true:=by simpa [d]using h
   rw[K6 h];have:=z.c0;have:=z.k0;refine⟨by decide,by decide,by decide,by decide,by decide,by decide,?_,by decide,?_,?_,?_,?_,?_⟩<;>simp only[aF.blank]<;>omega
  |false=>
   simp only[d,cond_false,aW,dT]at h;obtain⟨⟨⟨⟨⟨h1,h2⟩,j⟩,x⟩,y⟩,n⟩:=h;unfold fk at h2;simp only[bX]at h2;obtain⟨⟨⟨⟨⟨⟨o,g2⟩,p⟩,q⟩,r⟩,l⟩,t⟩:=h2;unfold fx at j;simp only[aW]at j;obtain⟨⟨⟨r1,r2⟩,r3⟩,r4⟩:=j;have l:=dO l;refine⟨h1,dO o,dO g2,dO p,dO q,dO r,⟨l.1,by omega⟩,dO t,Cd (by decide) r1,Cd (by decide) r2,Cd (by decide) r3,?_,Cd (by decide) r4⟩;rcases VM n with h|h|h
   ·have:=z.k0;omega
   ·have:=gv (W:=W) (f:=(W.tasks i).loc) (by rw[h];decide);omega
   ·have:=gv (W:=W) (f:=(W.tasks i).loc) (by rw[h];decide);omega
 ·have h:=ln i (by have:=z.lines;omega);unfold fg at h;simp only[aW]at h;have h:=jX.1 h.2 k d;unfold j8 at h;simp only[aW,beq_iff_eq]at h;have:=gv (W:=W) (f:=W.lines i k) (by rw[h.1.1];decide);omega
 ·have h:=jX.1 (rl i b) k d;have:=(CQ h).1;omega
 ·have h:=co c e;unfold eK at h;simp only[cM,beq_iff_eq]at h;rcases h with h|h
  ·have:=z.k0;omega
  ·have:=(CQ h).1;omega
 ·have h:=ln i (by have:=z.bits;omega);unfold fg at h;simp only[aW,dT]at h;exact dO h.1.2
theorem Xz {W:Wd} (h:bI W):W.ao<=100000/\W.ao<=W.ak*16:=by have b:=h.z;have h1:=b.k1;have h2:=b.aa;omega
theorem Rd {c:Bool} {x y z:bM} (h:(bif c then x else y)=z):(((((((bif c then x.kind else y.kind)=z.kind/\(bif c then x.base else y.base)=z.base)/\(bif c then x.len else y.len)=z.len)/\(bif c then x.mark else y.mark)=z.mark)/\(bif c then x.cd else y.cd)=z.cd)/\(bif c then x.aH else y.aH)=z.aH)/\(bif c then x.from_ else y.from_)=z.from_):=by subst h;cases c<;>exact ld rfl
end Go.Proofs.YthgmgkabnffniaaGreatDoor
