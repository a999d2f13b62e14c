/- A small world of one part, with a code, all tasks begun. -/
import Derived.Test.YthgmgkabnffniaaGreatDoorYQ
import Derived.Test.YthgmgkabnffniaaGreatDoorYR
import Derived.Test.YthgmgkabnffniaaGreatDoorYN
import Derived.Test.YthgmgkabnffniaaGreatDoorYM
import Derived.Test.YthgmgkabnffniaaGreatDoorYP
import Derived.Test.YthgmgkabnffniaaGreatDoorYL
set_option linter.unusedVariables false
set_option linter.unusedSimpArgs false
set_option maxRecDepth 100000
namespace Go.Proofs.YthgmgkabnffniaaGreatDoor
open Go.RowKit Go.Sy
theorem abJ {j k cl:Int} (q:0<=k/\k<32) (r:1<=cl/\cl<=100):iq (jm j k cl).o (jm j k cl).a (jm j k cl).b (jm j k cl).m=0/\1<=(jm j k cl).o/\(jm j k cl).o≠12:=by
 have t:=hU (c:=k) (n:=9) (by decide);have u:=hU (c:=k) (n:=4) (by decide);have e:=hU (c:=k) (n:=18) (by decide);have g:=hU (c:=k) (n:=20) (by decide);have v:=hU (c:=k) (n:=7) (by decide);have h:=hU (c:=k) (n:=15) (by decide);have x:=hU (c:=k) (n:=cl) (by omega);unfold jm;generalize bj k 9=y at*
 generalize bj k 4=a4 at*
 generalize bj k 18=i at*
 generalize bj k 20=a20 at*
 generalize bj k 7=d at*
 generalize bj k 15=l at*
 generalize bj k cl=ac at*
 cases j==0||j==1||j==2<;>simp only[cond_true,cond_false]
 ·cases j==3||j==4<;>simp only[cond_true,cond_false]
  ·cases j==5<;>simp only[cond_true,cond_false]
   ·cases j==6<;>simp only[cond_true,cond_false]
    ·cases j==7<;>simp only[cond_true,cond_false]
     ·cases j==8<;>simp only[cond_true,cond_false]
      ·cases j==9<;>simp only[cond_true,cond_false]
       ·cases j==10<;>simp only[cond_true,cond_false]
        ·refine⟨?_,by omega,by omega⟩;simp[iq,nJ,az,p8,hasB,p9];rw[decide_eq_false (by omega),decide_eq_false (by omega)];rfl
        ·refine⟨?_,by omega,by omega⟩;simp[iq,nJ,az,p8,hasB,p9];rw[decide_eq_false (by omega),decide_eq_false (by omega)];rfl
       ·refine⟨?_,by omega,by omega⟩;have p:d=0\/d=1\/d=2\/d=3\/d=4\/d=5\/d=6:=by omega
        rcases p with rfl|rfl|rfl|rfl|rfl|rfl|rfl<;>rfl
      ·refine⟨?_,by omega,by omega⟩;simp[iq,nJ,az,p8,hasB,p9];rw[decide_eq_false (by omega),decide_eq_false (by omega)];rfl
     ·refine⟨?_,by omega,by omega⟩;simp[iq,nJ,az,p8,hasB,p9];rw[decide_eq_false (by omega),decide_eq_false (by omega)];rfl
    ·refine⟨?_,by omega,by omega⟩;simp[iq,nJ,az,p8,hasB,p9];rw[decide_eq_false (by omega),decide_eq_false (by omega)];rfl
   ·refine⟨?_,by omega,by omega⟩;simp[iq,nJ,az,p8,hasB,p9];rw[decide_eq_false (by omega),decide_eq_false (by omega)];rfl
  ·refine⟨?_,by omega,by omega⟩;simp[iq,nJ,az,p8,hasB,p9];rw[decide_eq_false (by omega),decide_eq_false (by omega)];rfl
 ·refine⟨?_,by omega,by omega⟩;simp[iq,nJ,az,p8,hasB,p9];rw[decide_eq_false (by omega),decide_eq_false (by omega)];rfl
theorem Q5 {n:Nat} {l:Nat->Int} {cl:Int} {q:Nat} (c:1<=cl/\cl<=100):iq (gQ n l 0 cl q).o (gQ n l 0 cl q).a (gQ n l 0 cl q).b (gQ n l 0 cl q).m=0:=by
 unfold gQ;cases Nat.blt q 15 with
 |true=>exact(abJ (hU (by decide)) c).1
 |false=>exact(by decide:iq 12 0 0 0=0)
theorem Q6:∃W:Wd,W=oa (ob 24 2 1 (iP fT)) nW nW.length:=⟨_,rfl⟩
noncomputable def dW:Wd:=Classical.choose Q6
theorem Gg:dW=oa (ob 24 2 1 (iP fT)) nW nW.length:=wP Q6
theorem abK:iP fT 0=0:=(Da.one.2.2.2 0 (by decide)).trans (by kernel_rfl)
def I0 (E:Nat->Int) (i:Nat):Int:=bif Nat.beq i 0 then 0 else E i
theorem abL:iP fT=I0 (iP fT):=by
 funext i;unfold I0;rcases i with _|i
 ·exact abK
 ·rfl
def xH (E:Nat->Int):Wd:=oa (ob 24 2 1 (I0 E)) nW nW.length
theorem Gh:dW=xH (iP fT):=by rw[Gg];unfold xH;rw[<-abL]
theorem Y6:Sx dW:=by rw[Gg];exact Da.sx _
theorem Q7 (E:Nat->Int):(xH E).kinds 4=2/\(xH E).kinds 5=2/\(xH E).ay=384:=⟨by kernel_rfl,by kernel_rfl,by kernel_rfl⟩
theorem VE {o a b m:Int} (h:iq o a b m=0):(0<=o*256+a*16+b/\o*256+a*16+b<=65535)/\0<=m%65536/\m%65536<=65535:=by have:=Jr h;omega
theorem Sx.code {W:Wd} (h:Sx W) {f n:Nat} {o a b m:Nat->Int} (e:∀i,i<n->iq (o i) (a i) (b i) (m i)=0) (j:∀g:Nat,f<=g->g*16<f*16+2*n->W.kinds g=2):Sx (AI W f n o a b m):=by
 refine h.R8 (λi d=>?_) λi d c=>?_
 ·unfold iw;cases q:Nat.ble (f*16) i&&Nat.blt i (f*16+2*n)with
  |false=>exact h.sp.m.rm i d
  |true=>
   rw[aW]at q;have k:=bP q.1;have l:i<f*16+2*n:=by have:=q.2;unfold Nat.blt at this;have:=bP this;omega
   have r:=VE (e ((i -f*16)/2) (by omega));cases Nat.beq ((i -f*16)%2) 0
   ·exact r.2
   ·exact r.1
 ·unfold iw at c;cases q:Nat.ble (f*16) i&&Nat.blt i (f*16+2*n)with
  |false=>rw[q]at c;exact absurd rfl c
  |true=>
   rw[aW]at q;have k:=bP q.1;have l:i<f*16+2*n:=by have:=q.2;unfold Nat.blt at this;have:=bP this;omega
   rw[j (i/16) (by omega) (by omega)];decide
noncomputable def AJ (n:Nat) (l:Nat->Int) (cl:Int):Wd:=AI dW 4 16 (λi=>(gQ n l 0 cl i).o) (λi=>(gQ n l 0 cl i).a) (λi=>(gQ n l 0 cl i).b) (λi=>(gQ n l 0 cl i).m)
theorem OK {n:Nat} {l:Nat->Int} {cl:Int} (b:1<=cl/\cl<=100):Sx (AJ n l cl):=by
 refine Y6.code (λi _=>Q5 b) λg h1 h2=>?_;rw[Gh];obtain⟨c,d,_⟩:=Q7 (iP fT);rcases(show g=4\/g=5 by omega)with e|e
 ·rw[e];exact c
 ·rw[e];exact d
theorem R9 (n:Nat) (l:Nat->Int) (cl:Int):∃W:Wd,W=jG (jG (AJ n l cl) 8) 9:=⟨_,rfl⟩
noncomputable def cb (n:Nat) (l:Nat->Int) (cl:Int):Wd:=Classical.choose (R9 n l cl)
theorem Ha (n:Nat) (l:Nat->Int) (cl:Int):cb n l cl=jG (jG (AJ n l cl) 8) 9:=wP (R9 n l cl)
theorem Y7 {n:Nat} {l:Nat->Int} {cl:Int} (b:1<=cl/\cl<=100):Sx (cb n l cl):=by rw[Ha];exact((OK b).start 8).start 9
def ct (E:Nat->Int) (R:Nat->Int):Wd:=jG (jG {xH E with af:=R} 8) 9
theorem Q3 (n:Nat) (l:Nat->Int) (cl:Int):∃R,cb n l cl=ct (iP fT) R:=by rw[Ha];unfold AJ AI;rw[Gh];exact⟨_,rfl⟩
structure UD where
 (HO:Unit)
noncomputable def UE:Sy.Spec:=⟨UD,λ_=> [.v (.string fT)],λ_=> [],λ_=>True,λ_=> .tp 2 (aN [xI 0 dW,.ag 2 (aN [.v (.int .i64 0),.v (.int .i64 (-1))])]),λ_=>tI dW,
 λargs mem=>match args with| [a0]=>some ⟨()⟩|_=>none⟩
noncomputable def UF:aZ:=⟨[],(UE).g,none⟩
theorem TQ:aY Tryz.prog mS 15 UF:=py Tryz.call15 λ_ _=>by have q:gl Tryz.prog mS 15 [.v (.string fT)] [] (.tp 2 (aN [xI 0 (cT fT (ix fT)),.ag 2 (aN [.v (.int .i64 0),.v (.int .i64 (-1))])])) (tI (cT fT (ix fT))):=VF ⟨fT⟩ Da.rd.1;rw[Da.rd.2,<-Gg]at q;exact q
structure MS where
 (n:Nat) (l:Nat->Int) (mG cl:Int)
noncomputable def MT:Sy.Spec:=⟨MS,λ⟨n,l,mG,cl⟩=> [.sl true 1 n (λb _=> .v (.int .i64 (l b))),.v (.int .i64 mG),.v (.int .i64 cl)],λ_=> [],λ⟨n,l,mG,cl⟩=>(∀k,k<n->fH (l k))/\fH mG/\bj mG 2=0/\1<=cl/\cl<=100,λ⟨n,l,_,cl⟩=>jn (cb n l cl),λ_=> [],
 λargs mem=>match args with| [a0,a1,c]=>some ⟨bT a0,λi=>av (bO a0 i 0),av (a1),av (c)⟩|_=>none⟩
noncomputable def Xq:aZ:=⟨[],(MT).g,none⟩
def MU:MS->Prop:=λ⟨n,l,mG,cl⟩=>let a0:=bj mG 2==0;let b0:=[(32:UInt8),52];let c0:=[(32:UInt8)];let d0:=((50:UInt8)::c0);let e0:=((32:UInt8)::d0);let I:=[(32:UInt8),48,10];let h0:=True/\True;let k0:=tn 9 h0;let J:=((n=n/\(∀o0:Nat,o0<n->True/\l o0=l o0))/\(0:Int)=0/\cl=cl/\True)/\True/\(∀p:Nat,p<n->(-9223372036854775808)<=l p/\l p<=9223372036854775807)/\(0:Int)<=0/\(0:Int)<=900/\1<=cl/\cl<=100;let r0:=SV.ptr 0 0 none 0 0;let i:=r0=r0;let v0:=Int.toNat 4;let w0:=v0*16;let q:=dW.ay;let K:=(i/\4=(v0:Int)/\(16=16/\(∀z0:Nat,let a1:=gQ n l 0 cl (0+z0);let b1:=a1.o;let c1:=a1.a;let d1:=a1.b;let O:=a1.m;z0<16->(((True/\b1=b1)/\c1=c1)/\d1=d1)/\O=O))/\True)/\aB dW dW True/\v0<=1000/\16<=1000/\w0+2*16<=q/\q<=100000/\(∀R:Nat,let h1:=gQ n l 0 cl (0+R);R<16->iq h1.o h1.a h1.b h1.m=0);let k1:=i/\(8:Int)=8/\True;let g:=iw w0 16 (λo1:Nat=>(gQ n l 0 cl (0+o1)).o) (λq1:Nat=>(gQ n l 0 cl (0+q1)).a) (λr1:Nat=>(gQ n l 0 cl (0+r1)).b) (λu1:Nat=>(gQ n l 0 cl (0+u1)).m) dW.af;let v1:={dW with af:=g};let w1:=aB v1 v1 True;let c:=AI dW v0 16 (λy1:Nat=>(gQ n l 0 cl (0+y1)).o) (λz1:Nat=>(gQ n l 0 cl (0+z1)).a) (λa2:Nat=>(gQ n l 0 cl (0+a2)).b) (λb2:Nat=>(gQ n l 0 cl (0+b2)).m);let S:=i/\(9:Int)=9/\True;let d2:={dW with af:=g,tasks:=iW c 8,al:=iV c 8,ready:=iX c 8};let j:=jG c 8;let g2:=cb n l cl;let h2:=g2.ay;let k2:=g2.ak;let l2:=g2.ao;
 let T:=((True/\q=h2/\(∀r:Nat,r<h2->True/\g (0+r)=g2.af r))/\dW.ak=k2/\(∀r2:Nat,r2<k2->True/\dW.kinds (0+r2)=g2.kinds r2))/\dW.ao=l2/\(∀t:Nat,t<l2->aK (dW.aa (0+t)) (g2.aa t));let u:=g2.aO;let U:=dW.aO=u;let V:=g2.aX;let W:=dW.aX=V/\(∀d:Nat,d<V->True/\dW.ah (0+d)=g2.ah d/\(∀a3:Nat,a3<g2.ah d->True/\dW.lines (0+d) (0+a3)=g2.lines d a3));let X:=g2.aP;let Y:=dW.aP=X/\(∀v:Nat,v<X->True/\dW.bits (0+v)=g2.bits v);let e3:=g2.aC;let Z:=dW.aC=e3/\(∀x:Nat,x<e3->True/\dW.ai (0+x)=g2.ai x);let y:=g2.aR;let l3:=dW.aR=y;let o3:=g2.aQ;let q3:=dW.aQ=o3/\(∀r3:Nat,r3<o3->True/\dW.aD (0+r3)=g2.aD r3/\(∀z:Nat,z<g2.aD r3->aG (dW.ax (0+r3) (0+z)) (g2.ax r3 z)));let v3:=g2.aL;let w3:=dW.aL=v3/\(∀A:Nat,A<v3->True/\dW.aA (0+A)=g2.aA A);let y3:=dW.time=g2.time;let z3:=[(32:UInt8),49];let a4:={dW with af:=g,tasks:=iW c 7,al:=iV c 7,ready:=iX c 7};let h:=jG c 7;let c4:={dW with af:=g,tasks:=iW h 8,al:=iV h 8,ready:=iX h 8};let k:=jG h 8;True/\((mG=mG/\(2:Int)=2/\True)/\True/\((-9223372036854775808)<=mG/\mG<=9223372036854775807)/\(0:Int)<2)/\(a0=true->
 ((ByteArray.mk (List.toArray (List.append (List.append (List.append [(119:UInt8),111,114,108,100,32,50,52,32,50,32,48,10,99,108,97,121,32,49,32,49,32,50,48,10,109,97,107,101,32,110,111,100,101,32,49,32,49,32,50,10,109,97,107] ((101:UInt8)::(32:UInt8)::(115:UInt8)::(112:UInt8)::(97:UInt8)::(99:UInt8)::(101:UInt8)::(32:UInt8)::(49:UInt8)::(32:UInt8)::(49:UInt8)::(32:UInt8)::(51:UInt8)::(10:UInt8)::(109:UInt8)::(97:UInt8)::(107:UInt8)::(101:UInt8)::(32:UInt8)::(116:UInt8)::(97:UInt8)::(98:UInt8)::(108:UInt8)::(101:UInt8)::(32:UInt8)::(49:UInt8)::(32:UInt8)::(49:UInt8)::(32:UInt8)::(52:UInt8)::(10:UInt8)::(109:UInt8)::(97:UInt8)::(107:UInt8)::(101:UInt8)::(32:UInt8)::(112:UInt8)::(97:UInt8)::(103:UInt8)::(101:UInt8)::(32:UInt8)::(49:UInt8)::b0)) (List.append [(32:UInt8),53,10,109,97,107,101,32,116,97,115,107,32,49,32,50,32,57,10,109,97,107,101,32,100,111,111,114,32,49,32,49,32,49,49,10,109,97,107,101,32,98,101,108] ((108:UInt8)::(32:UInt8)::(49:UInt8)::(32:UInt8)::(49:UInt8)::(32:UInt8)::(49:UInt8)::(50:UInt8)::(10:UInt8)::(99:UInt8)::(111:UInt8)::(112:UInt8)::(121:UInt8)::(32:UInt8)::(49:UInt8)::(49:UInt8)::(32:UInt8)::(49:UInt8)::(54:UInt8)::(32:UInt8)::(55:UInt8)::(32:UInt8)::(53:UInt8)::(10:UInt8)::(99:UInt8)::(111:UInt8)::(112:UInt8)::(121:UInt8)::(32:UInt8)::(49:UInt8)::(50:UInt8)::(32:UInt8)::(49:UInt8)::(55:UInt8)::(32:UInt8)::(55:UInt8)::(32:UInt8)::(50:UInt8)::(10:UInt8)::(99:UInt8)::(111:UInt8)::(112:UInt8)::(121:UInt8)::c0))) (List.append (List.append ((49:UInt8)::(48:UInt8)::(32:UInt8)::(49:UInt8)::(56:UInt8)::(32:UInt8)::(55:UInt8)::(32:UInt8)::(48:UInt8)::(10:UInt8)::(99:UInt8)::(111:UInt8)::(112:UInt8)::(121:UInt8)::(32:UInt8)::(55:UInt8)::(32:UInt8)::(49:UInt8)::(57:UInt8)::(32:UInt8)::(51:UInt8)::(32:UInt8)::(48:UInt8)::(10:UInt8)::(99:UInt8)::(111:UInt8)::(112:UInt8)::(121:UInt8)::(32:UInt8)::(51:UInt8)::(32:UInt8)::(50:UInt8)::(48:UInt8)::(32:UInt8)::(55:UInt8)::(32:UInt8)::(48:UInt8)::(10:UInt8)::(99:UInt8)::(111:UInt8)::(112:UInt8)::(121:UInt8)::b0) ((32:UInt8)::(50:UInt8)::(49:UInt8)::(32:UInt8)::(55:UInt8)::(32:UInt8)::(48:UInt8)::(10:UInt8)::(99:UInt8)::(111:UInt8)::(112:UInt8)::(121:UInt8)::(32:UInt8)::(50:UInt8)::(32:UInt8)::(50:UInt8)::(50:UInt8)::(32:UInt8)::(55:UInt8)::(32:UInt8)::(48:UInt8)::(10:UInt8)::(99:UInt8)::(111:UInt8)::(112:UInt8)::(121:UInt8)::(32:UInt8)::(57:UInt8)::(32:UInt8)::(50:UInt8)::(51:UInt8)::(32:UInt8)::(54:UInt8)::(32:UInt8)::(48:UInt8)::(10:UInt8)::(101:UInt8)::(110:UInt8)::(116:UInt8)::(101:UInt8)::(114:UInt8)::e0)) (List.append ((48:UInt8)::(32:UInt8)::(51:UInt8)::(32:UInt8)::(48:UInt8)::(10:UInt8)::(101:UInt8)::(110:UInt8)::(116:UInt8)::(101:UInt8)::(114:UInt8)::(32:UInt8)::(50:UInt8)::(32:UInt8)::(48:UInt8)::(32:UInt8)::(52:UInt8)::(32:UInt8)::(48:UInt8)::(10:UInt8)::(101:UInt8)::(110:UInt8)::(116:UInt8)::(101:UInt8)::(114:UInt8)::(32:UInt8)::(50:UInt8)::(32:UInt8)::(49:UInt8)::(32:UInt8)::(53:UInt8)::(32:UInt8)::(48:UInt8)::(10:UInt8)::(101:UInt8)::(110:UInt8)::(116:UInt8)::(101:UInt8)::(114:UInt8)::(32:UInt8)::(50:UInt8)::e0) ((54:UInt8)::(32:UInt8)::(49:UInt8)::(10:UInt8)::(101:UInt8)::(113:UInt8)::(117:UInt8)::(105:UInt8)::(112:UInt8)::(32:UInt8)::(56:UInt8)::(32:UInt8)::(48:UInt8)::(32:UInt8)::(50:UInt8)::(32:UInt8)::(45:UInt8)::(32:UInt8)::(48:UInt8)::(32:UInt8)::(49:UInt8)::(32:UInt8)::(48:UInt8)::(10:UInt8)::(101:UInt8)::(113:UInt8)::(117:UInt8)::(105:UInt8)::(112:UInt8)::(32:UInt8)::(57:UInt8)::(32:UInt8)::(49:UInt8)::(32:UInt8)::(50:UInt8)::(32:UInt8)::(49:UInt8)::(48:UInt8)::(32:UInt8)::(49:UInt8)::(32:UInt8)::(50:UInt8)::I)))))=fT/\
 True)/\h0)/\tn 2 (k0/\h0/\J/\K/\(k1/\w1/\qm.match_1 (λe4:kD=>Prop) (kD.mk 8 c) (λg4:Int=>λh4:Wd=>oc h4))/\(S/\aB d2 d2 True/\qm.match_1 (λk4:kD=>Prop) (kD.mk 9 j) (λl4:Int=>λo4:Wd=>oc o4))/\k0/\((((((((T/\U/\(∀B:Nat,B<u->aJ (iW j 9 (0+B)) (g2.tasks B)))/\W)/\Y)/\Z)/\l3/\(∀r4:Nat,r4<y->True/\iV j 9 (0+r4)=g2.al r4/\(∀C:Nat,C<g2.al r4->True/\iX j 9 (0+r4) (0+C)=g2.ready r4 C)))/\q3)/\w3)/\y3)/\True))/\(a0=false->
 ((ByteArray.mk (List.toArray (List.append (List.append (List.append ((119:UInt8)::(111:UInt8)::(114:UInt8)::(108:UInt8)::(100:UInt8)::(32:UInt8)::(50:UInt8)::(50:UInt8)::(32:UInt8)::(49:UInt8)::(32:UInt8)::(48:UInt8)::(32:UInt8)::(49:UInt8)::(32:UInt8)::(48:UInt8)::(10:UInt8)::(99:UInt8)::(108:UInt8)::(97:UInt8)::(121:UInt8)::(32:UInt8)::(49:UInt8)::(32:UInt8)::(49:UInt8)::(32:UInt8)::(49:UInt8)::(57:UInt8)::(10:UInt8)::(109:UInt8)::(97:UInt8)::(107:UInt8)::(101:UInt8)::(32:UInt8)::(110:UInt8)::(111:UInt8)::(100:UInt8)::(101:UInt8)::(32:UInt8)::(49:UInt8)::z3) ((32:UInt8)::(50:UInt8)::(10:UInt8)::(109:UInt8)::(97:UInt8)::(107:UInt8)::(101:UInt8)::(32:UInt8)::(115:UInt8)::(112:UInt8)::(97:UInt8)::(99:UInt8)::(101:UInt8)::(32:UInt8)::(49:UInt8)::(32:UInt8)::(49:UInt8)::(32:UInt8)::(51:UInt8)::(10:UInt8)::(109:UInt8)::(97:UInt8)::(107:UInt8)::(101:UInt8)::(32:UInt8)::(116:UInt8)::(97:UInt8)::(98:UInt8)::(108:UInt8)::(101:UInt8)::(32:UInt8)::(49:UInt8)::(32:UInt8)::(49:UInt8)::(32:UInt8)::(52:UInt8)::(10:UInt8)::(109:UInt8)::(97:UInt8)::(107:UInt8)::(101:UInt8)::c0)) (List.append ((112:UInt8)::(97:UInt8)::(103:UInt8)::(101:UInt8)::(32:UInt8)::(49:UInt8)::(32:UInt8)::(51:UInt8)::(32:UInt8)::(53:UInt8)::(10:UInt8)::(109:UInt8)::(97:UInt8)::(107:UInt8)::(101:UInt8)::(32:UInt8)::(116:UInt8)::(97:UInt8)::(115:UInt8)::(107:UInt8)::(32:UInt8)::(49:UInt8)::(32:UInt8)::(51:UInt8)::(32:UInt8)::(56:UInt8)::(10:UInt8)::(109:UInt8)::(97:UInt8)::(107:UInt8)::(101:UInt8)::(32:UInt8)::(100:UInt8)::(111:UInt8)::(111:UInt8)::(114:UInt8)::(32:UInt8)::(49:UInt8)::(32:UInt8)::(50:UInt8)::z3) ((49:UInt8)::(10:UInt8)::(109:UInt8)::(97:UInt8)::(107:UInt8)::(101:UInt8)::(32:UInt8)::(98:UInt8)::(101:UInt8)::(108:UInt8)::(108:UInt8)::(32:UInt8)::(49:UInt8)::(32:UInt8)::(49:UInt8)::(32:UInt8)::(49:UInt8)::(51:UInt8)::(10:UInt8)::(99:UInt8)::(111:UInt8)::(112:UInt8)::(121:UInt8)::(32:UInt8)::(49:UInt8)::(49:UInt8)::(32:UInt8)::(49:UInt8)::(54:UInt8)::(32:UInt8)::(55:UInt8)::(32:UInt8)::(57:UInt8)::(10:UInt8)::(99:UInt8)::(111:UInt8)::(112:UInt8)::(121:UInt8)::(32:UInt8)::(49:UInt8)::d0))) (List.append (List.append [(49:UInt8),55,32,51,32,48,10,99,111,112,121,32,49,51,32,49,56,32,55,32,52,10,99,111,112,121,32,56,32,49,57,32,55,32,48,10,99,111,112,121,32,53] ((32:UInt8)::(50:UInt8)::(48:UInt8)::(32:UInt8)::(49:UInt8)::(32:UInt8)::(48:UInt8)::(10:UInt8)::(101:UInt8)::(110:UInt8)::(116:UInt8)::(101:UInt8)::(114:UInt8)::(32:UInt8)::(50:UInt8)::(32:UInt8)::(48:UInt8)::(32:UInt8)::(51:UInt8)::(32:UInt8)::(48:UInt8)::(10:UInt8)::(101:UInt8)::(110:UInt8)::(116:UInt8)::(101:UInt8)::(114:UInt8)::(32:UInt8)::(50:UInt8)::(32:UInt8)::(48:UInt8)::(32:UInt8)::(52:UInt8)::(32:UInt8)::(48:UInt8)::(10:UInt8)::(101:UInt8)::(110:UInt8)::(116:UInt8)::(101:UInt8)::(114:UInt8)::c0)) (List.append ((50:UInt8)::(32:UInt8)::(49:UInt8)::(32:UInt8)::(53:UInt8)::(32:UInt8)::(48:UInt8)::(10:UInt8)::(101:UInt8)::(110:UInt8)::(116:UInt8)::(101:UInt8)::(114:UInt8)::(32:UInt8)::(50:UInt8)::(32:UInt8)::(50:UInt8)::(32:UInt8)::(54:UInt8)::(32:UInt8)::(49:UInt8)::(10:UInt8)::(101:UInt8)::(113:UInt8)::(117:UInt8)::(105:UInt8)::(112:UInt8)::(32:UInt8)::(55:UInt8)::(32:UInt8)::(48:UInt8)::(32:UInt8)::(50:UInt8)::(32:UInt8)::(45:UInt8)::(32:UInt8)::(48:UInt8)::(32:UInt8)::(49:UInt8)::I) [(101:UInt8),113,117,105,112,32,56,32,49,32,50,32,49,48,32,48,32,49,32,48,10,101,113,117,105,112,32,57,32,49,32,50,32,49,49,32,48,32,51,32,49,10]))))=fT/\
 True)/\h0)/\tn 2 (k0/\h0/\J/\K/\((i/\(7:Int)=7/\True)/\w1/\qm.match_1 (λv4:kD=>Prop) (kD.mk 7 c) (λw4:Int=>λx4:Wd=>oc x4))/\(k1/\aB a4 a4 True/\qm.match_1 (λy4:kD=>Prop) (kD.mk 8 h) (λz4:Int=>λa5:Wd=>oc a5))/\(S/\aB c4 c4 True/\qm.match_1 (λb5:kD=>Prop) (kD.mk 9 k) (λc5:Int=>λd5:Wd=>oc d5))/\k0/\((((((((T/\U/\(∀E:Nat,E<u->aJ (iW k 9 (0+E)) (g2.tasks E)))/\W)/\Y)/\Z)/\l3/\(∀e:Nat,e<y->True/\iV k 9 (0+e)=g2.al e/\(∀G:Nat,G<g2.al e->True/\iX k 9 (0+e) (0+G)=g2.ready e G)))/\q3)/\w3)/\y3)/\True))
set_option maxHeartbeats 2000000 in
theorem K3:aY Tryz.prog mS 5 Xq:=bn (.cons TQ (.cons (VG.up iE) (.cons (Tu.up iE) (.cons (Js.up iE) (.cons (yN.up iE) .nil))))) false Tryz.call5 Tryz.func5 (λ_=> []) (V:=MU) (λ_=>by kernel_rfl) λ⟨n,l,mG,cl⟩ hp=>by
 dsimp only[MT]at hp;dsimp only[MU,tn,aw];simp only[bq,bx,eq_self,implies_true,bo];obtain⟨hl,c,h2,b⟩:=hp;have t4:Int.toNat 4=4:=rfl;have d:dW.ay=384:=by rw[Gh];exact(Q7 _).2.2
 have sx:=OK (n:=n) (l:=l) b;simp only[t4];refine⟨⟨c,by decide⟩,λh=>⟨by kernel_rfl,⟨hl,by omega,by omega,b⟩,⟨by omega,z_ _,by omega,by omega,by omega,by omega,λi _=>Q5 b⟩,⟨mL rfl,sx.1.tn⟩,⟨mL rfl,(sx.start 8).1.tn⟩,?_⟩,λh=>?_⟩
 ·rw[Ha];unfold AJ
  repeat' (first|exact trivial|rfl|refine And.intro ?_ ?_|intro _)
 ·rw[h2]at h;cases h
theorem adF {p:Nat->Bool}:fA 1 p=p 0:=by
 rw[lJ,jX]
 exact⟨λh=>h 0 (by omega),λh i b=>by obtain rfl:i=0:=by omega
                                     exact h⟩
theorem adG {p:Nat->Bool}:fA 2 p=(p 0&&p 1):=by
 rw[lJ,jX,aW];refine⟨λh=>⟨h 0 (by omega),h 1 (by omega)⟩,λh i b=>?_⟩;rcases ja i with e|e
 ·rw[e];exact h.1
 ·obtain rfl:i=1:=by omega
  exact h.2
theorem Ql {W:Wd} (h:bI W) (t:Int) (j:Nat) (h0:0<=t) (c:j<W.aC) (d:W.ai j=t):(W.tasks t.toNat).core=j:=by
 have b:=h.co j c;unfold eK at b;rw[d]at b;simp only[cM,beq_iff_eq]at b;rcases b with b|b
 ·omega
 ·exact(CQ b).2.2.2.1
theorem H2 {W:Wd} (h:bI W) (hs:Sm W):AS W:=⟨h.z,λi b=>((pM h hs).tk i b).core,Ql h⟩
theorem acH {W:Wd} (h:bI W) (hs:Sm W) {t:Int} (t0:0<=t) (t1:t<W.aO):gb W t:=by have b:=((pM h hs).tk t.toNat (by omega)).core;exact⟨t0,t1,b.1,b.2,λj c d=>Ql h t j t0 c d⟩
theorem RK {W:Wd} (h:bI W) (hs:Sm W) {t:Int} (t0:0<=t) (t1:t<W.aO):fp W t:=Gw (pM h hs) (by decide) t0 t1
theorem acI {W:Wd} (h:bI W) (hs:Sm W) {a:Int} (a0:0<=a) (a1:a<W.aX):pn W a:=by have hl:=(pM h hs).ln a.toNat (by omega);exact⟨a0,a1,by omega,λb=>hl.2 0 b⟩
theorem aat {W:Wd} (h:bI W) {a:Nat} (j:a<W.ak) (k:0<W.ah a):(W.kinds a=7/\2<=(W.tasks (W.lines a 0).toNat).st/\(W.tasks (W.lines a 0).toNat).st<=4)\/(W.kinds a=8/\(W.tasks (W.lines a 0).toNat).st=6):=by
 have hl:=h.ln a j;unfold fg at hl;simp only[aW]at hl;have c:=jX.1 hl.2 0 k;unfold j8 at c;simp only[aW,beq_iff_eq]at c;obtain⟨⟨h1,h2⟩,_⟩:=c;have l:=gv (W:=W) (f:=W.lines a 0) (by rw[h1];decide);rw[eY l]at h1;have b:=h.tk (W.lines a 0).toNat (by omega);unfold eN at b;simp only[show(W.kinds (W.lines a 0).toNat !=6)=false by rw[h1];decide,cond_false,aW]at b;have b:=b.2;have n:bK W (a:Int)=W.kinds a:=eY (W:=W) (f:=(a:Int)) (by omega);unfold lW qD at b;dsimp only at b;rw[h2,n]at b;cases c1:(W.tasks (W.lines a 0).toNat).st==2<;>cases d:(W.tasks (W.lines a 0).toNat).st==3<;>cases e:(W.tasks (W.lines a 0).toNat).st==4<;>cases g:(W.tasks (W.lines a 0).toNat).st==6<;>cases i:(W.tasks (W.lines a 0).toNat).st==1<;>simp only[c1,d,e,g,i,j9,kV,iI,cond_true,cond_false,aW,beq_iff_eq]at b<;>simp only[beq_iff_eq,beq_eq_false_iff_ne]at c1 d e g i<;>omega
theorem RL {W:Wd} (h:bI W) (hs:Sm W) {t a:Int} (t0:0<=t) (t1:t<W.ak) (a0:0<=a) (a1:a<W.ak) (d:W.kinds a.toNat=7):AR W t a:=by
 have I:=pM h hs;have g:=h.z.lines;have z3:=h.z.tasks;have z4:=h.z.c1;have hl:=I.ln a.toNat (by omega);refine⟨acI h hs a0 (by omega),acH h hs t0 (by omega),by omega,(I.tk t.toNat (by omega)).ar.1,λb=>?_⟩;have c:=hl.2 0 b;refine⟨RK h hs c.1 c.2,?_⟩;rcases aat h (by omega) b with e|e
 ·exact e.2
 ·omega
theorem H3 {W:Wd} {t a k:Int} (h:cH W t a k=0):0<=t/\t<W.ak/\0<=a/\a<W.ak/\W.kinds t.toNat=6/\W.kinds a.toNat=k:=by
 unfold cH at h;cases h1:(decide (t<0)||decide ((W.ak:Int)<=t)||decide (a<0)||decide ((W.ak:Int)<=a))with
 |true=>rw[h1]at h;exact absurd (show(2:Int)=0 from h) (by decide)
 |false=>
  cases h2:(W.kinds t.toNat !=6||W.kinds a.toNat !=k)with
  |true=>rw[h1,h2]at h;exact absurd (show(3:Int)=0 from h) (by decide)
  |false=>simp only[bX,decide_eq_false_iff_not,bne_eq_false_iff_eq]at h1 h2;omega
def ps (W:Wd) (b g:Int):Int:=bif decide (b<0)||decide ((W.ak:Int)<=b)then 2 else bif W.kinds b.toNat !=8 then 3 else bif az g 65535 then 1 else 0
def Bq (W:Wd) (b g:Int) (i:Nat):aF:=bif ps W b g==0 then(iu W b.toNat g).tasks i else(W).tasks i
def A' (W:Wd) (b g:Int) (i:Nat):Nat:=bif ps W b g==0 then(iu W b.toNat g).ah i else(W).ah i
def Br (W:Wd) (b g:Int) (i k:Nat):Int:=bif ps W b g==0 then(iu W b.toNat g).lines i k else(W).lines i k
def BV (W:Wd) (b g:Int) (i:Nat):Int:=bif ps W b g==0 then(iu W b.toNat g).bits i else(W).bits i
def Ba (W:Wd) (b g:Int) (i:Nat):Nat:=bif ps W b g==0 then(iu W b.toNat g).al i else(W).al i
def Bs (W:Wd) (b g:Int) (i k:Nat):Int:=bif ps W b g==0 then(iu W b.toNat g).ready i k else(W).ready i k
def x' (W:Wd) (b g:Int):Wd:={W with tasks:=Bq W b g,ah:=A' W b g,lines:=Br W b g,bits:=BV W b g,al:=Ba W b g,ready:=Bs W b g}
theorem acG {W:Wd} {b g:Int} (h:(ps W b g==0)=true):x' W b g=iu W b.toNat g:=by
 have e:Bq W b g=(iu W b.toNat g).tasks:=by funext i;unfold Bq;rw[h];rfl
 have c:A' W b g=(iu W b.toNat g).ah:=by funext i;unfold A';rw[h];rfl
 have j:Br W b g=(iu W b.toNat g).lines:=by funext i k;unfold Br;rw[h];rfl
 have n:BV W b g=(iu W b.toNat g).bits:=by funext i;unfold BV;rw[h];rfl
 have d:Ba W b g=(iu W b.toNat g).al:=by funext i;unfold Ba;rw[h];rfl
 have l:Bs W b g=(iu W b.toNat g).ready:=by funext i k;unfold Bs;rw[h];rfl
 show({W with tasks:=Bq W b g,ah:=A' W b g,lines:=Br W b g,bits:=BV W b g,al:=Ba W b g,ready:=Bs W b g}:Wd)=_;rw[e,c,j,n,d,l]<;>kernel_rfl
theorem acE {x:Int} (h:0<=x):gG 0 x=x:=by unfold gG;show((0|||x.toNat:Nat):Int)=x;rw[Nat.zero_or];omega
theorem aas {x:Int} (h:0<=x):gG x 0=x:=by unfold gG;show((x.toNat|||0:Nat):Int)=x;rw[Nat.or_zero];omega
theorem acF {x y z:Int}:gG (gG x y) z=gG x (gG y z):=by unfold gG;show(((x.toNat|||y.toNat:Nat):Int).toNat|||z.toNat:Nat)=((x.toNat|||((y.toNat|||z.toNat:Nat):Int).toNat:Nat):Int);rw[cj,cj,Nat.or_assoc]
theorem Qk {x y:Int} (c:0<=x/\x<=65535) (d:0<=y/\y<=65535):0<=gG x y/\gG x y<=65535:=by unfold gG;have:=M7 (op:=7) (a:=x.toNat) (b:=y.toNat) (n:=16) (by omega) (by omega);omega
structure TB (W:Wd) (r h:Int) (e:Prop):Prop where
 s:bI W
 k:W.ak=24
 c:W.aC=2
 k8:W.kinds 8=6
 kb:W.kinds 11=8
 r0:0<=r/\r<=65535
 h0:0<=h/\h<=65535
 a:(e/\(W.tasks 8).st=1/\W.ah 11=0/\W.bits 11=r/\h=0/\(W.tasks 8).core=0/\W.ai 0=8)\/(¬e/\(W.tasks 8).st=1/\W.ah 11=0/\gG h (W.bits 11)=r)\/(¬e/\(W.tasks 8).st=6/\W.ah 11=1/\W.lines 11 0=8/\W.bits 11=0/\r=0/\h=0)
theorem TB.b0 {W:Wd} {r h:Int} {e:Prop} (t:TB W r h e):0<=W.bits 11/\W.bits 11<=65535:=(dY.1 (t.s.ln 11 (by rw[t.k];decide))).2.2.1
theorem TB.ring {W:Wd} {r h n:Int} {e:Prop} (t:TB W r h e) (j:0<=n/\n<=65535):ps W 11 n=0/\bI (x' W 11 n)/\((W.tasks 8).st=6->TB (x' W 11 n) (gG r n) ((x' W 11 n).tasks 8).r2 e)/\((W.tasks 8).st≠6->TB (x' W 11 n) (gG r n) h e):=by
 have b0:=t.b0;obtain⟨s,k,c,k8,kb,r0,h0,a⟩:=t;have hE:ps W 11 n=0:=by unfold ps;rw[show W.kinds (11:Int).toNat=8 from kb,ej j,k];rfl
 have x:x' W 11 n=iu W 11 n:=acG (by rw[hE];rfl);have o:bI (iu W 11 n):=s.qe (s.t0.ring (by rw[k];decide) kb j (Qk b0 j)) rfl rfl rfl rfl rfl rfl rfl rfl;have ro:=Qk r0 j;rw[x];refine⟨hE,o,?_⟩;rcases a with a|a|a
 ·obtain⟨a0,a1,i,a3,a4,p,u⟩:=a;have d:=Hg (W:=W) (b:=11) (g:=n) (by rw[i];rfl);refine⟨λl=>absurd l (by rw[a1];decide),λ_=>⟨o,k,c,k8,kb,ro,h0,.inl ⟨a0,?_⟩⟩⟩;rw[d];refine⟨a1,i,?_,a4,p,u⟩;show aj W.bits 11 (gG (W.bits 11) n) 11=_;rw[bg,a3]
 ·obtain⟨a0,a1,i,a3⟩:=a;have d:=Hg (W:=W) (b:=11) (g:=n) (by rw[i];rfl);refine⟨λl=>absurd l (by rw[a1];decide),λ_=>⟨o,k,c,k8,kb,ro,h0,.inr (.inl ⟨a0,?_⟩)⟩⟩;rw[d];refine⟨a1,i,?_⟩;show gG h (aj W.bits 11 (gG (W.bits 11) n) 11)=_;rw[bg,<-acF,a3]
 ·obtain⟨a0,a1,i,a3,a4,p,u⟩:=a;have d:=OR (W:=W) (b:=11) (g:=n) (by rw[i];rfl);have q:(W.lines 11 0).toNat=8:=by rw[a3];rfl
  rw[q]at d;have v:((iu W 11 n).tasks 8).r2=n:=by rw[d];show(aj (di (dp W 11 true) 8 0 n).tasks 8 {(di (dp W 11 true) 8 0 n).tasks 8 with st:=1,loc:= -1} 8).r2=n;rw[bg];show(aj (dp W 11 true).tasks 8 {(dp W 11 true).tasks 8 with r1:=0,r2:=n} 8).r2=n;rw[bg]
  refine⟨λ_=>⟨o,k,c,k8,kb,ro,by rw[v];exact j,.inr (.inl ⟨a0,?_,?_,?_⟩)⟩,λl=>absurd a1 l⟩
  ·rw[d];show(aj (di (dp W 11 true) 8 0 n).tasks 8 {(di (dp W 11 true) 8 0 n).tasks 8 with st:=1,loc:= -1} 8).st=1;rw[bg]
  ·rw[d];show aj W.ah 11 (W.ah 11 -1) 11=0;rw[bg,i]
  ·rw[v,d];show gG n (W.bits 11)=_;rw[a4,p,aas j.1,acE j.1]
def ya (W X:Wd):Wd:=match W.time with| .ofNat _=>X| .negSucc _=>X
theorem C4 (W X:Wd):ya W X=X:=by unfold ya;cases W.time<;>rfl
theorem TB.cg {W:Wd} {r h:Int} {e e':Prop} (t:TB W r h e) (q:e↔e'):TB W r h e':=by rw[<-q];exact t
theorem TB.fin {W:Wd} {r h:Int} (t:TB W r h False):gG h (W.bits 11)=r:=by
 rcases t.a with a|a|a
 ·exact a.1.elim
 ·exact a.2.2.2
 ·rw[a.2.2.2.2.1,a.2.2.2.2.2.1,a.2.2.2.2.2.2];rfl
def vS (W:Wd) (c:Int):Int:=(aM W c.toNat).ai c.toNat
theorem aax {W:Wd} {c:Nat}:(aM W c).aC=W.aC:=by
 have h:(e_ W c).aC=W.aC:=by unfold e_;cases rC W c<;>rfl
 unfold aM;cases decide ((e_ W c).ai c<0)<;>exact h
structure Ob where
 (W:Wd) (c:Int)
def Yz:Sy.Spec:=⟨Ob,λ⟨W,c⟩=> [dN W,.v (.int .i64 c)],λ_=> [],λ_=>True,λ⟨W,c⟩=> .er 43 66 (bif decide (c<0)||decide ((W.aC:Int)<=c)then 2 else 0) (-1),λ_=> [],
 λargs mem=>match args with| [a0,a1]=>some ⟨dJ a0,av (a1)⟩|_=>none⟩
def YA:aZ:=⟨[],(Yz).g,none⟩
def Oc:Ob->Prop:=λ⟨W,c⟩=>let a0:=decide (((W.aC:Nat):Int)<=c);let b0:=cond (decide (c<0)) true a0;let c0:Int:=cond (decide (c<0)||a0) 2 0;(b0=true->((2:Int)≠0/\c0=2/\((-1):Int)=(-1))/\True)/\(b0=false->(c0=0/\((-1):Int)=(-1))/\True)
theorem WT:aY Tryz.prog bk 21 YA:=bn .nil false Tryz.call21 Tryz.func21 (λ_=> []) (V:=Oc) (λ_=>by kernel_rfl) λ⟨W,c⟩ hp=>by dsimp only[Oc,tn,aw,aB,aJ,aK,aG];simp only[bq,bx,eq_self,implies_true,bo];refine⟨λh=>?_,λh=>?_⟩<;>simp only[h]<;>simp
structure Od where
 (c:Int) (W:Wd) (z:Int)
def Oe:Sy.Spec:=⟨Od,λ⟨c,_,_⟩=> [.ptr 0 0 none 0 0,.pt true 1 (λ_=> .v (.int .i64 c)),.ptr 11 0 none 0 0],λ⟨_,W,z⟩=>cL W++ [.cells [.v (.int .i64 (z))]],λ⟨c,W,_⟩=>Sm W/\bI W/\0<=c/\c<W.aC,λ_=> .er 43 66 0 (-1),λ⟨c,W,_⟩=>cL (aM W c.toNat)++ [.cells [.v (.int .i64 (vS W c))]],
 λargs mem=>match args with| [a0,a1,b]=>some ⟨av (bN a1 0),fW mem 0,av (Dw mem 11 0)⟩|_=>none⟩
def YB:aZ:=⟨[true,false,true],(Oe).g,none⟩
def Of:Od->Prop:=λ⟨c,W,z⟩=>let a0:=W.ak;let b0:=W.ao;let c0:=W.aO;let d0:=W.aX;let e0:=W.aC;let d:=W.aR;let h0:Int:=cond (decide (c<0)||decide ((e0:Int)<=c)) 2 0;let k0:=h0 !=0;let b:=aM W (Int.toNat c);let o0:=SV.ptr 0 0 none 0 0;(((((((((((((True/\W.ay=W.ay/\(∀e:Nat,e<W.ay->True/\W.af (0+e)=W.af (0+e)))/\a0=a0/\(∀r0:Nat,let h:=W.kinds (0+r0);r0<a0->True/\h=h))/\b0=b0/\(∀v0:Nat,let w0:=W.aa (0+v0);v0<b0->aK w0 w0))/\c0=c0/\(∀i:Nat,let j:=W.tasks (0+i);i<c0->aJ j j))/\d0=d0/\(∀z0:Nat,let a1:=W.ah (0+z0);z0<d0->True/\a1=a1/\(∀b1:Nat,let c1:=W.lines (0+z0) (0+b1);b1<a1->True/\c1=c1)))/\W.aP=W.aP/\(∀d1:Nat,d1<W.aP->True/\W.bits (0+d1)=W.bits (0+d1)))/\e0=e0/\(∀k:Nat,let l:=W.ai (0+k);k<e0->True/\l=l))/\d=d/\(∀h1:Nat,let k1:=W.al (0+h1);h1<d->True/\k1=k1/\(∀n:Nat,let o1:=W.ready (0+h1) (0+n);n<k1->True/\o1=o1)))/\W.aQ=W.aQ/\(∀g:Nat,let r1:=W.aD (0+g);g<W.aQ->True/\r1=r1/\(∀o:Nat,let v1:=W.ax (0+g) (0+o);o<r1->aG v1 v1)))/\W.aL=W.aL/\(∀w1:Nat,w1<W.aL->True/\W.aA (0+w1)=W.aA (0+w1)))/\W.time=W.time)/\c=c/\True)/\True/\True)/\(k0=true->(h0=0/\((-1):Int)=(-1))/\aB W b ((True/\z=vS W c)/\True))/\(k0=false->((o0=o0/\c=c/\True)/\aB W W True/\Inv 999 W/\0<=c/\c<(e0:Int))/\tn 5 ((0<=c/\c<((b.aC:Nat):Int))/\True/\((0:Int)=0/\((-1):Int)=(-1))/\aB b b ((True/\b.ai (0+Int.toNat c)=vS W c)/\True)))
set_option maxHeartbeats 2000000 in
theorem WU:aY Tryz.prog bk 20 YB:=bn (.cons WT (.cons U9 .nil)) false Tryz.call20 Tryz.func20 (λ_=> []) (V:=Of) (λ_=>by kernel_rfl) λ⟨c,W,z⟩ hp=>by
 dsimp only[Oe]at hp;dsimp only[Of,tn,aw,aB,aJ,aK,aG];simp only[bq,bx,eq_self,implies_true,bo]
 try simp only[dI]
 obtain⟨hs,b,c0,c1⟩:=hp;have d:(decide (c<0)||decide ((W.aC:Int)<=c))=false:=by simp only[bX,decide_eq_false_iff_not];omega
 have e:=(pM b hs).mono (show 50<=999 by decide);have g:c<(aM W c.toNat).aC:=by rw[aax];exact c1
 simp only[d,cond_false];refine⟨λh=>absurd h (by decide),λ_=>?_⟩
 repeat' (first|exact trivial|rfl|assumption|(intro h;exact absurd h (by decide))|(intro h;exact absurd h (dS _))|refine And.intro ?_ ?_|intro h|fail)
structure Og where
 (W:Wd) (c z:Int)
def Oh:Sy.Spec:=⟨Og,λ⟨W,_,_⟩=> [hK W,.fn 20 2 (aN [.ptr 0 0 none 0 0,.ptr 1 0 none 0 0])],λ⟨_,c,z⟩=> [.cells [.v (.int .i64 (c))],.cells [.v (.int .i64 (z))]],λ⟨W,c,_⟩=>Sm W/\bI W/\0<=c/\c<W.aC,λ⟨W,c,_⟩=> .tp 2 (aN [jn (aM W c.toNat),.er 43 66 0 (-1)]),λ⟨W,c,_⟩=> [.cells [.v (.int .i64 (c))],.cells [.v (.int .i64 (vS W c))]],
 λargs mem=>match args with| [a0,a1]=>(match jC 20 a1 with|true=>some ⟨jj a0,av (Dw mem 0 0),av (Dw mem 1 0)⟩|false=>none)|_=>none⟩
def YC:aZ:=⟨[false,true],(Oh).g,none⟩
def Oi:Og->Prop:=λ⟨W,c,z⟩=>let a0:=W.ak;let b0:=W.ao;let c0:=W.aO;let d0:=W.aX;let e0:=W.aC;let o:=W.aR;let h0:=(((((((((((True/\W.ay=W.ay/\(∀k0:Nat,k0<W.ay->True/\W.af k0=W.af k0))/\a0=a0/\(∀p:Nat,p<a0->True/\W.kinds p=W.kinds p))/\b0=b0/\(∀o0:Nat,o0<b0->aK (W.aa o0) (W.aa o0)))/\c0=c0/\(∀q:Nat,q<c0->aJ (W.tasks q) (W.tasks q)))/\d0=d0/\(∀r0:Nat,let r:=W.ah r0;r0<d0->True/\r=r/\(∀v0:Nat,v0<r->True/\W.lines r0 v0=W.lines r0 v0)))/\W.aP=W.aP/\(∀w0:Nat,w0<W.aP->True/\W.bits w0=W.bits w0))/\e0=e0/\(∀t:Nat,t<e0->True/\W.ai t=W.ai t))/\o=o/\(∀g:Nat,let z0:=W.al g;g<o->True/\z0=z0/\(∀a1:Nat,a1<z0->True/\W.ready g a1=W.ready g a1)))/\W.aQ=W.aQ/\(∀b1:Nat,let c1:=W.aD b1;b1<W.aQ->True/\c1=c1/\(∀d1:Nat,d1<c1->aG (W.ax b1 d1) (W.ax b1 d1))))/\W.aL=W.aL/\(∀u:Nat,u<W.aL->True/\W.aA u=W.aA u))/\W.time=W.time)/\True;let h:=tn 10 True;let h1:=aM W (Int.toNat c);let k1:=h1.ay;let i:=h1.ak;let o1:=h1.ao;let j:=h1.aO;let r1:=h1.aX;let k:=h1.aP;let v1:=h1.aC;let w1:=h1.aR;let l:=h1.aQ;let n:=h1.aL;let v:=h1.time;let J:=True/\((((((((((True/\k1=0)/\i=0)/\o1=0)/\j=0)/\r1=0)/\k=0)/\v1=0)/\w1=0)/\l=0)/\n=0)/\0=v;let b2:=True/\c=c;let x:=vS W c;let d2:=SV.ptr 0 0 none 0 0;let K:=SV.ptr 11 0 none 0 0;let g2:=(0:Int)=0/\((-1):Int)=(-1);let h2:=b2/\(True/\x=x)/\True;tn 2 ((h0/\True/\sL.match_1 (λk2:my=>Prop) (my.mk W) (λl2:Wd=>Sm l2))/\((wE W !=0)=true->h/\(J/\(8:Int)≠0/\(0:Int)=8/\((-1):Int)=(-1))/\
 b2/\(True/\z=x)/\True)/\((wE W !=0)=false->(h0/\True/\wq.match_1 (λR:ox=>Prop) (ox.mk W) (λO:Wd=>Lg O))/\h/\((d2=d2/\b2/\K=K/\True)/\aB W W ((True/\z=z)/\True)/\Sm W/\bI W/\0<=c/\c<(e0:Int))/\(((0:Int) !=0)=true->h/\(J/\g2)/\h2)/\(((0:Int) !=0)=false->h/\((True/\((((((((((True/\k1=k1/\(∀r2:Nat,r2<k1->True/\h1.af (0+r2)=h1.af r2))/\i=i/\(∀y:Nat,y<i->True/\h1.kinds (0+y)=h1.kinds y))/\o1=o1/\(∀A:Nat,A<o1->aK (h1.aa (0+A)) (h1.aa A)))/\j=j/\(∀B:Nat,B<j->aJ (h1.tasks (0+B)) (h1.tasks B)))/\r1=r1/\(∀b:Nat,b<r1->True/\h1.ah (0+b)=h1.ah b/\(∀C:Nat,C<h1.ah b->True/\h1.lines (0+b) (0+C)=h1.lines b C)))/\k=k/\(∀E:Nat,E<k->True/\h1.bits (0+E)=h1.bits E))/\v1=v1/\(∀a3:Nat,a3<v1->True/\h1.ai (0+a3)=h1.ai a3))/\w1=w1/\(∀d:Nat,d<w1->True/\h1.al (0+d)=h1.al d/\(∀G:Nat,G<h1.al d->True/\h1.ready (0+d) (0+G)=h1.ready d G)))/\l=l/\(∀e:Nat,e<l->True/\h1.aD (0+e)=h1.aD e/\(∀e3:Nat,e3<h1.aD e->aG (h1.ax (0+e) (0+e3)) (h1.ax e e3))))/\n=n/\(∀I:Nat,I<n->True/\h1.aA (0+I)=h1.aA I))/\v=v)/\g2)/\h2)))
set_option maxHeartbeats 2000000 in
theorem WV:aY Tryz.prog bk 19 YC:=bn (.cons yl (.cons Bm (.cons WU .nil))) false Tryz.call19 Tryz.func19 (λ_=> []) (V:=Oi) (λ_=>by kernel_rfl) λ⟨W,c,z⟩ hp=>by
 dsimp only[Oh]at hp;dsimp only[Oi,tn,aw,aB,aJ,aK,aG];simp only[bq,bx,eq_self,implies_true,bo]
 try simp only[dI]
 obtain⟨hs,b,c0,c1⟩:=hp;have h0:=zZ b;exact⟨hs,λh=>by rw[h0]at h;exact absurd h (by decide),λ_=>⟨Dv hs,⟨hs,b,c0,c1⟩,λh=>absurd h (by decide)⟩⟩
structure Oj where
 (W:Wd) (c:Int)
def sU:Sy.Spec:=⟨Oj,λ⟨W,c⟩=> [hK W,.v (.int .i64 c)],λ_=> [],λ⟨W,c⟩=>Sm W/\bI W/\0<=c/\c<W.aC,λ⟨W,c⟩=> .tp 3 (aN [jn (aM W c.toNat),.v (.int .i64 (vS W c)),.er 43 66 0 (-1)]),λ_=> [],
 λargs mem=>match args with| [a0,a1]=>some ⟨jj a0,av (a1)⟩|_=>none⟩
def GC:Oj->Prop:=λ⟨W,c⟩=>let a0:=W.ak;let b0:=W.ao;let c0:=W.aO;let d0:=W.aX;let e0:=W.aC;let k:=W.aR;let h0:=SV.ptr 0 0 none 0 0;let k0:=SV.ptr 1 0 none 0 0;let E:=tn 10 True;let o0:=aM W (Int.toNat c);let b:=o0.ay;let r0:=o0.ak;let d:=o0.ao;let v0:=o0.aO;let w0:=o0.aX;let e:=o0.aP;let g:=o0.aC;let z0:=o0.aR;let a1:=o0.aQ;let b1:=o0.aL;let c1:=o0.time;let d1:=vS W c;let G:=(0:Int)=0/\((-1):Int)=(-1);tn 5 ((((((((((((((True/\W.ay=W.ay/\(∀l:Nat,l<W.ay->True/\W.af l=W.af l))/\a0=a0/\(∀h1:Nat,h1<a0->True/\W.kinds h1=W.kinds h1))/\b0=b0/\(∀k1:Nat,k1<b0->aK (W.aa k1) (W.aa k1)))/\c0=c0/\(∀n:Nat,n<c0->aJ (W.tasks n) (W.tasks n)))/\d0=d0/\(∀o1:Nat,let o:=W.ah o1;o1<d0->True/\o=o/\(∀r1:Nat,r1<o->True/\W.lines o1 r1=W.lines o1 r1)))/\W.aP=W.aP/\(∀p:Nat,p<W.aP->True/\W.bits p=W.bits p))/\e0=e0/\(∀v1:Nat,v1<e0->True/\W.ai v1=W.ai v1))/\k=k/\(∀w1:Nat,let q:=W.al w1;w1<k->True/\q=q/\(∀r:Nat,r<q->True/\W.ready w1 r=W.ready w1 r)))/\W.aQ=W.aQ/\(∀h:Nat,let t:=W.aD h;h<W.aQ->True/\t=t/\(∀b2:Nat,b2<t->aG (W.ax h b2) (W.ax h b2))))/\W.aL=W.aL/\(∀u:Nat,u<W.aL->True/\W.aA u=W.aA u))/\W.time=W.time)/\((True/\h0=h0)/\k0=k0)/\True)/\((True/\c=c)/\(True/\((-1):Int)=(-1))/\True)/\Sm W/\bI W/\0<=c/\c<(e0:Int))/\True/\E/\(((0:Int) !=0)=true->E/\(((True/\((((((((((True/\b=0)/\r0=0)/\d=0)/\v0=0)/\w0=0)/\e=0)/\g=0)/\z0=0)/\a1=0)/\b1=0)/\0=c1)/\0=d1)/\G)/\True)/\(((0:Int) !=0)=false->tn 2 ((((True/\((((((((((True/\b=b/\(∀d2:Nat,
 d2<b->True/\o0.af d2=o0.af d2))/\r0=r0/\(∀v:Nat,v<r0->True/\o0.kinds v=o0.kinds v))/\d=d/\(∀g2:Nat,g2<d->aK (o0.aa g2) (o0.aa g2)))/\v0=v0/\(∀h2:Nat,h2<v0->aJ (o0.tasks h2) (o0.tasks h2)))/\w0=w0/\(∀k2:Nat,let l2:=o0.ah k2;k2<w0->True/\l2=l2/\(∀x:Nat,x<l2->True/\o0.lines k2 x=o0.lines k2 x)))/\e=e/\(∀y:Nat,y<e->True/\o0.bits y=o0.bits y))/\g=g/\(∀r2:Nat,r2<g->True/\o0.ai r2=o0.ai r2))/\z0=z0/\(∀i:Nat,let z:=o0.al i;i<z0->True/\z=z/\(∀A:Nat,A<z->True/\o0.ready i A=o0.ready i A)))/\a1=a1/\(∀j:Nat,let B:=o0.aD j;j<a1->True/\B=B/\(∀C:Nat,C<B->aG (o0.ax j C) (o0.ax j C))))/\b1=b1/\(∀a3:Nat,a3<b1->True/\o0.aA a3=o0.aA a3))/\c1=c1)/\d1=d1)/\G)/\True)))
set_option maxHeartbeats 2000000 in
theorem WS:∀x,sU.pre x->gl Tryz.prog bk 6 (sU.args x) (sU.mem x) (sU.res x) (sU.bH x):=λx hp=>qT (.cons WV .nil) false Tryz.func6 ((λ_=> []) x) (V:=GC x) (by kernel_rfl)<|(λ⟨W,c⟩ hp=>by
 dsimp only[sU]at hp;dsimp only[GC,tn,aw,aB,aJ,aK,aG];simp only[bq,bx,eq_self,implies_true,bo]
 try simp only[dI]
 exact⟨hp,λh=>absurd h (by decide)⟩
 :∀x,sU.pre x->GC x) x hp
def bs (W:Wd) (c:Nat):Wd:=ya W (aM W c)
theorem tj (W:Wd) (c:Nat):bs W c=aM W c:=C4 _ _
structure aau where
 (W:Wd) (c:Int)
def aav:Sy.Spec:=⟨aau,λ⟨W,c⟩=> [hK W,.v (.int .i64 c)],λ_=> [],λ⟨W,c⟩=>Sm W/\bI W/\0<=c/\c<W.aC,λ⟨W,c⟩=> .tp 3 (aN [jn (bs W c.toNat),.v (.int .i64 ((bs W c.toNat).ai c.toNat)),.er 43 66 0 (-1)]),λ_=> [],
 λargs mem=>match args with| [a0,a1]=>some ⟨jj a0,av (a1)⟩|_=>none⟩
def aaw:aZ:=⟨[],(aav).g,none⟩
theorem MM:aY Tryz.prog bk 6 aaw:=py Tryz.call6 λ⟨W,c⟩ _=>by
 have hp:Sm W/\bI W/\0<=c/\c<W.aC:=by assumption
 have q:gl Tryz.prog bk 6 [hK W,.v (.int .i64 c)] [] (.tp 3 (aN [jn (aM W c.toNat),.v (.int .i64 ((aM W c.toNat).ai c.toNat)),.er 43 66 0 (-1)])) []:=WS ⟨W,c⟩ hp;rw[<-tj]at q;exact q
def h_ (W:Wd):bp:= .cells [.sl false 1 W.ay (iF W.af),.sl false 1 W.ak (iF W.kinds),.sl false 7 W.ao (rF λi=>mU (W.aa i)),.sl false 20 W.aO (rF λi=>la (W.tasks i)),.sl false 1 W.aX (λi _=> .sl false 1 (W.ah i) (iF (W.lines i))),.sl false 1 W.aP (iF W.bits),.sl false 1 W.aC (iF W.ai),.sl false 1 W.aR (λi _=> .sl false 1 (W.al i) (iF (W.ready i))),.sl false 1 W.aQ (λi _=> .sl false 4 (W.aD i) (rF λk=>iO (W.ax i k))),.sl false 1 W.aL (iF W.aA),.v (.int .i64 W.time)]
theorem abH (E R:Nat->Int):(ct E R).aC=2/\(ct E R).ak=24:=⟨by kernel_rfl,by kernel_rfl⟩
theorem Q2 (n:Nat) (l:Nat->Int) (cl:Int):(cb n l cl).aC=2/\(cb n l cl).ak=24:=by obtain⟨R,b⟩:=Q3 n l cl;rw[b];exact abH _ _
theorem abI (W:Wd) (c:Nat):ee (e_ W c)=ee W/\(e_ W c).time=W.time/\(e_ W c).af=W.af/\(e_ W c).kinds=W.kinds/\(e_ W c).aA=W.aA/\(e_ W c).aa=W.aa/\(e_ W c).aD=W.aD/\(e_ W c).ax=W.ax:=by unfold e_;cases rC W c<;>exact⟨rfl,rfl,rfl,rfl,rfl,rfl,rfl,rfl⟩
theorem Q4 (W:Wd) (c:Nat):ee (aM W c)=ee W/\(aM W c).time=W.time/\(aM W c).af=W.af/\(aM W c).kinds=W.kinds/\(aM W c).aA=W.aA/\(aM W c).aa=W.aa/\(aM W c).aD=W.aD/\(aM W c).ax=W.ax:=by unfold aM;cases decide ((e_ W c).ai c<0)<;>exact abI W c
theorem bI.mT {W:Wd} (h:bI W) {c:Nat} (b:c<W.aC):bI (aM W c):=by obtain⟨a1,d,a3,a4,e,g,i,j⟩:=Q4 W c;exact h.qe (h.t0.mT b) a1 d a3 a4 e g i j
structure B_ where
 (W:Wd)
def Gf:Sy.Spec:=⟨B_,λ⟨W⟩=> [hK W],λ_=> [],λ⟨W⟩=>Sm W,λ⟨W⟩=> .v (.bool (wE W==0&&decide (0<(W.ak:Int)))),λ_=> [],
 λargs mem=>match args with| [a0]=>some ⟨jj a0⟩|_=>none⟩
def Xp:aZ:=⟨[],(Gf).g,none⟩
def MR:B_->Prop:=λ⟨W⟩=>let a0:=W.ak;let b0:=W.ao;let c0:=W.aO;let d0:=W.aX;let e0:=W.aC;let c:=W.aR;let h0:=decide (0<(a0:Int));True/\(((((((((((((True/\W.ay=W.ay/\(∀k0:Nat,k0<W.ay->True/\W.af k0=W.af k0))/\a0=a0/\(∀d:Nat,d<a0->True/\W.kinds d=W.kinds d))/\b0=b0/\(∀o0:Nat,o0<b0->aK (W.aa o0) (W.aa o0)))/\c0=c0/\(∀e:Nat,e<c0->aJ (W.tasks e) (W.tasks e)))/\d0=d0/\(∀r0:Nat,let g:=W.ah r0;r0<d0->True/\g=g/\(∀v0:Nat,v0<g->True/\W.lines r0 v0=W.lines r0 v0)))/\W.aP=W.aP/\(∀w0:Nat,w0<W.aP->True/\W.bits w0=W.bits w0))/\e0=e0/\(∀h:Nat,h<e0->True/\W.ai h=W.ai h))/\c=c/\(∀b:Nat,let z0:=W.al b;b<c->True/\z0=z0/\(∀a1:Nat,a1<z0->True/\W.ready b a1=W.ready b a1)))/\W.aQ=W.aQ/\(∀b1:Nat,let c1:=W.aD b1;b1<W.aQ->True/\c1=c1/\(∀d1:Nat,d1<c1->aG (W.ax b1 d1) (W.ax b1 d1))))/\W.aL=W.aL/\(∀i:Nat,i<W.aL->True/\W.aA i=W.aA i))/\W.time=W.time)/\True)/\True/\sL.match_1 (λj:my=>Prop) (my.mk W) (λh1:Wd=>Sm h1))/\cond (wE W==0) h0 false=(wE W==0&&h0)/\True
set_option maxHeartbeats 1000000 in
theorem VD:aY Tryz.prog bk 23 Xp:=bn (.cons yl .nil) false Tryz.call23 Tryz.func23 (λ_=> []) (V:=MR) (λ_=>by kernel_rfl) λ⟨W⟩ hp=>by
 dsimp only[Gf]at hp;dsimp only[MR,tn,aw];simp only[bq,bx,eq_self,implies_true,bo];refine⟨?_,hp⟩
 repeat' (first|exact trivial|rfl|refine And.intro ?_ ?_|intro _)
def dX (W:Wd) (t d b w:Int):Int:=bif cH W t d 7==0 then bif az b 65535||az w 65535 then 1 else 0 else cH W t d 7
def mn (W:Wd) (t d b w:Int) (c:Bool) (i:Nat):aF:=bif dX W t d b w==0 then(ca W t d b w c).tasks i else(W).tasks i
def mj (W:Wd) (t d b w:Int) (c:Bool) (i:Nat):Nat:=bif dX W t d b w==0 then(ca W t d b w c).ah i else(W).ah i
def mo (W:Wd) (t d b w:Int) (c:Bool) (i k:Nat):Int:=bif dX W t d b w==0 then(ca W t d b w c).lines i k else(W).lines i k
def mq (W:Wd) (t d b w:Int) (c:Bool) (i:Nat):Int:=bif dX W t d b w==0 then(ca W t d b w c).ai i else(W).ai i
def ml (W:Wd) (t d b w:Int) (c:Bool) (i:Nat):Nat:=bif dX W t d b w==0 then(ca W t d b w c).al i else(W).al i
def mr (W:Wd) (t d b w:Int) (c:Bool) (i k:Nat):Int:=bif dX W t d b w==0 then(ca W t d b w c).ready i k else(W).ready i k
def m9 (W:Wd) (t d b w:Int) (c:Bool):Wd:={W with tasks:=mn W t d b w c,ah:=mj W t d b w c,lines:=mo W t d b w c,ai:=mq W t d b w c,al:=ml W t d b w c,ready:=mr W t d b w c}
theorem RM {W:Wd} {t d b w:Int} {c:Bool} (h:(dX W t d b w==0)=true):m9 W t d b w c=ca W t d b w c:=by
 have j:mn W t d b w c=(ca W t d b w c).tasks:=by funext i;unfold mn;rw[h];rfl
 have e:mj W t d b w c=(ca W t d b w c).ah:=by funext i;unfold mj;rw[h];rfl
 have l:mo W t d b w c=(ca W t d b w c).lines:=by funext i k;unfold mo;rw[h];rfl
 have n:mq W t d b w c=(ca W t d b w c).ai:=by funext i;unfold mq;rw[h];rfl
 have g:ml W t d b w c=(ca W t d b w c).al:=by funext i;unfold ml;rw[h];rfl
 have o:mr W t d b w c=(ca W t d b w c).ready:=by funext i k;unfold mr;rw[h];rfl
 show({W with tasks:=mn W t d b w c,ah:=mj W t d b w c,lines:=mo W t d b w c,ai:=mq W t d b w c,al:=ml W t d b w c,ready:=mr W t d b w c}:Wd)=_;rw[j,e,l,n,g,o]<;>kernel_rfl
theorem RN {W:Wd} {t d b w:Int} {c:Bool} (h:(dX W t d b w==0)=false):m9 W t d b w c=W:=by
 have j:mn W t d b w c=(W).tasks:=by funext i;unfold mn;rw[h];rfl
 have e:mj W t d b w c=(W).ah:=by funext i;unfold mj;rw[h];rfl
 have l:mo W t d b w c=(W).lines:=by funext i k;unfold mo;rw[h];rfl
 have n:mq W t d b w c=(W).ai:=by funext i;unfold mq;rw[h];rfl
 have g:ml W t d b w c=(W).al:=by funext i;unfold ml;rw[h];rfl
 have o:mr W t d b w c=(W).ready:=by funext i k;unfold mr;rw[h];rfl
 show({W with tasks:=mn W t d b w c,ah:=mj W t d b w c,lines:=mo W t d b w c,ai:=mq W t d b w c,al:=ml W t d b w c,ready:=mr W t d b w c}:Wd)=_;rw[j,e,l,n,g,o]<;>kernel_rfl
structure Qp where
 (t d b w:Int) (c:Bool) (W:Wd)
def Qq:Sy.Spec:=⟨Qp,λ⟨t,d,b,w,c,_⟩=> [.ptr 0 0 none 0 0,.pt true 1 (λ_=> .v (.int .i64 t)),.pt true 1 (λ_=> .v (.int .i64 d)),.pt true 1 (λ_=> .v (.int .i64 b)),.pt true 1 (λ_=> .v (.int .i64 w)),.pt true 1 (λ_=> .v (.bool c))],λ⟨_,_,_,_,_,W⟩=>cL W,λ⟨_,_,_,_,_,W⟩=>Sm W/\bI W,λ⟨t,d,b,w,_,W⟩=> .er 43 66 (dX W t d b w) (-1),λ⟨t,d,b,w,c,W⟩=>cL (m9 W t d b w c),
 λargs mem=>match args with| [a0,a1,e,a3,a4,g]=>some ⟨av (bN a1 0),av (bN e 0),av (bN a3 0),av (bN a4 0),oH (bN g 0),fW mem 0⟩|_=>none⟩
def aaH:aZ:=⟨[true],(Qq).g,none⟩
def Qr:Qp->Prop:=λ⟨t,d,b,w,c,W⟩=>let a0:=W.ay;let b0:=W.ak;let c0:=W.ao;let d0:=W.aO;let e0:=W.aX;let e:=W.aP;let h0:=W.aC;let k0:=W.aR;let g:=W.aQ;let o0:=W.aL;let v:=Wd.mk a0 (λr0:Nat=>W.af (0+r0)) b0 (λK:Nat=>W.kinds (0+K)) c0 (λv0:Nat=>W.aa (0+v0)) d0 (λw0:Nat=>W.tasks (0+w0)) e0 (λO:Nat=>W.ah (0+O)) (λR:Nat=>λz0:Nat=>W.lines (0+R) (0+z0)) e (λa1:Nat=>W.bits (0+a1)) h0 (λb1:Nat=>W.ai (0+b1)) k0 (λc1:Nat=>W.al (0+c1)) (λd1:Nat=>λS:Nat=>W.ready (0+d1) (0+S)) g (λT:Nat=>W.aD (0+T)) (λh1:Nat=>λk1:Nat=>W.ax (0+h1) (0+k1)) o0 (λU:Nat=>W.aA (0+U)) W.time;let o1:=cH v t d 7;let x:=o1 !=0;let r1:=dX W t d b w;let h:=((-1):Int)=(-1);let v1:={W with tasks:=mn W t d b w c,ah:=mj W t d b w c,lines:=mo W t d b w c,ai:=mq W t d b w c,al:=ml W t d b w c,ready:=mr W t d b w c};let w1:=aB W v1 True;let i:=[b,w];let y:Int:=cond (fA 2 (λV:Nat=>!az (List.getD i (0+V) 0) 65535)) 0 1;let z:=y !=0;let b2:=SV.ptr 0 0 none 0 0;(((((((((((((True/\a0=a0/\(∀j:Nat,j<a0->True/\W.af (0+j)=W.af (0+j)))/\b0=b0/\(∀d2:Nat,let A:=W.kinds (0+d2);d2<b0->True/\A=A))/\c0=c0/\(∀g2:Nat,let h2:=W.aa (0+g2);g2<c0->aK h2 h2))/\d0=d0/\(∀k2:Nat,let l2:=W.tasks (0+k2);k2<d0->aJ l2 l2))/\e0=e0/\(∀k:Nat,let l:=W.ah (0+k);k<e0->True/\l=l/\(∀r2:Nat,let B:=W.lines (0+k) (0+r2);r2<l->True/\B=B)))/\e=e/\(∀n:Nat,n<e->True/\W.bits (0+n)=W.bits (0+n)))/\
 h0=h0/\(∀C:Nat,let E:=W.ai (0+C);C<h0->True/\E=E))/\k0=k0/\(∀o:Nat,let p:=W.al (0+o);o<k0->True/\p=p/\(∀a3:Nat,let G:=W.ready (0+o) (0+a3);a3<p->True/\G=G)))/\g=g/\(∀q:Nat,let r:=W.aD (0+q);q<g->True/\r=r/\(∀e3:Nat,let I:=W.ax (0+q) (0+e3);e3<r->aG I I)))/\o0=o0/\(∀u:Nat,u<o0->True/\W.aA (0+u)=W.aA (0+u)))/\W.time=W.time)/\t=t/\d=d/\(7:Int)=7/\True)/\True/\zp.match_1 (λk3:qQ=>Prop) (qQ.mk v t d 7) (λX:Wd=>λo3:Int=>λq3:Int=>λr3:Int=>AS X))/\(x=true->(o1=r1/\h)/\w1)/\(x=false->True/\(((2=2/\(∀J:Nat,let v3:=List.getD i (0+J) 0;J<2->True/\v3=v3))/\True)/\True/\BQ.match_1 (λw3:wo=>Prop) (wo.mk 2 (λY:Nat=>List.getD i (0+Y) 0)) (λZ:Nat=>λz3:∀a4:Nat,Int=>Z<=1000))/\(z=true->(y=r1/\h)/\w1)/\(z=false->((b2=b2/\t=t/\d=d/\b=b/\w=w/\c=c/\True)/\aB W W True/\Hv.match_1 (λb4:CY=>Prop) (CY.mk t d b w c W) (λc4:Int=>λd4:Int=>λe4:Int=>λg4:Int=>λh4:Bool=>λk4:Wd=>AR k4 c4 d4))/\(r1=0/\h)/\aB {W with tasks:=jT W t d b w c,ah:=jR W t d b w c,lines:=jU W t d b w c,ai:=jV W t d b w c,al:=jS W t d b w c,ready:=jW W t d b w c} v1 True))
set_option maxHeartbeats 2000000 in
theorem YG:aY Tryz.prog gP 32 aaH:=bn (.cons (Gy.up kS) (.cons (KB.up kS) (.cons (Yl.up kS) .nil))) false Tryz.call32 Tryz.func32 (λ_=> []) (V:=Qr) (λ_=>by kernel_rfl) λ⟨t,d,b,w,c,W⟩ hp=>by
 dsimp only[Qq]at hp;dsimp only[Qr,tn,aw,aB,aJ,aK,aG];simp only[bq,bx,eq_self,implies_true,bo]
 try simp only[dI]
 obtain⟨hs,u⟩:=hp;refine⟨H2 u hs,λh=>?_,λh=>⟨by decide,?_⟩⟩
 ·skip
  have h0:(cH W t d 7==0)=false:=by simpa using h
  have o:(dX W t d b w==0)=false:=by unfold dX;rw[h0];exact h0
  refine⟨by unfold dX;rw[h0];rfl,?_⟩;have n:=RN (c:=c) o;have i:mn W t d b w c=_:=congrArg Wd.tasks n;have e:mj W t d b w c=_:=congrArg Wd.ah n;have j:mo W t d b w c=_:=congrArg Wd.lines n;have k:mq W t d b w c=_:=congrArg Wd.ai n;have g:ml W t d b w c=_:=congrArg Wd.al n;have l:mr W t d b w c=_:=congrArg Wd.ready n;simp only[i,e,j,k,g,l];clear n i e j k g l
  repeat' (first|exact trivial|exact cE rfl|rfl|refine And.intro ?_ ?_|intro _|fail)
 have h0:(cH W t d 7==0)=true:=by simpa using h
 have q:(bif fA 2 λv3=>!az ([b,w].getD v3 0) 65535 then(0:Int)else 1)=bif az b 65535||az w 65535 then 1 else 0:=by rw[adG];show(bif !az b 65535&&!az w 65535 then(0:Int)else 1)=_;cases az b 65535<;>cases az w 65535<;>rfl
 rw[q];cases p:az b 65535||az w 65535 with
 |true=>
  refine⟨λ_=>?_,λr=>absurd r (by decide)⟩;have o:(dX W t d b w==0)=false:=by unfold dX;rw[h0,p];rfl
  refine⟨by unfold dX;rw[h0,p];rfl,?_⟩;have n:=RN (c:=c) o;have i:mn W t d b w c=_:=congrArg Wd.tasks n;have e:mj W t d b w c=_:=congrArg Wd.ah n;have j:mo W t d b w c=_:=congrArg Wd.lines n;have k:mq W t d b w c=_:=congrArg Wd.ai n;have g:ml W t d b w c=_:=congrArg Wd.al n;have l:mr W t d b w c=_:=congrArg Wd.ready n;simp only[i,e,j,k,g,l];clear n i e j k g l
  repeat' (first|exact trivial|exact cE rfl|rfl|refine And.intro ?_ ?_|intro _|fail)
 |false=>
  refine⟨λr=>absurd r (by decide),λ_=>?_⟩;have v:dX W t d b w=0:=by unfold dX;rw[h0,p];rfl
  have o:(dX W t d b w==0)=true:=by rw[v];rfl
  obtain⟨t0,t1,a0,a1,k1,k2⟩:=H3 (eq_of_beq h0);refine⟨RL u hs t0 t1 a0 a1 k2,v,?_⟩;have n:=RM (c:=c) o;have i:mn W t d b w c=_:=congrArg Wd.tasks n;have e:mj W t d b w c=_:=congrArg Wd.ah n;have j:mo W t d b w c=_:=congrArg Wd.lines n;have k:mq W t d b w c=_:=congrArg Wd.ai n;have g:ml W t d b w c=_:=congrArg Wd.al n;have l:mr W t d b w c=_:=congrArg Wd.ready n;simp only[i,e,j,k,g,l];clear n i e j k g l
  repeat' (first|exact trivial|exact cE rfl|rfl|refine And.intro ?_ ?_|intro _|fail)
structure Qs where
 (W:Wd) (t d b w:Int) (c:Bool)
def Qt:Sy.Spec:=⟨Qs,λ⟨W,t,d,b,w,c⟩=> [hK W,.fn 32 5 (aN [.pt true 1 (λ_=> .v (.int .i64 t)),.pt true 1 (λ_=> .v (.int .i64 d)),.pt true 1 (λ_=> .v (.int .i64 b)),.pt true 1 (λ_=> .v (.int .i64 w)),.pt true 1 (λ_=> .v (.bool c))])],λ_=> [],λ⟨W,_,_,_,_,_⟩=>Sm W/\bI W,λ⟨W,t,d,b,w,c⟩=> .tp 2 (aN [jn (fJ (dX W t d b w) (m9 W t d b w c)),.er 43 66 (dX W t d b w) (-1)]),λ_=> [],
 λargs mem=>match args with| [a0,a1]=>(match jC 32 a1 with|true=>some ⟨jj a0,av (bN (dK a1 0) 0),av (bN (dK a1 1) 0),av (bN (dK a1 2) 0),av (bN (dK a1 3) 0),oH (bN (dK a1 4) 0)⟩|false=>none)|_=>none⟩
def aaI:aZ:=⟨[],(Qt).g,none⟩
def Qu:Qs->Prop:=λ⟨W,t,d,b,w,c⟩=>let a0:=W.ay;let b0:=W.ak;let c0:=W.ao;let d0:=W.aO;let e0:=W.aX;let j:=W.aP;let h0:=W.aC;let k0:=W.aR;let k:=W.aQ;let o0:=W.aL;let R:=(((((((((((True/\a0=a0/\(∀r0:Nat,r0<a0->True/\W.af r0=W.af r0))/\b0=b0/\(∀o:Nat,o<b0->True/\W.kinds o=W.kinds o))/\c0=c0/\(∀v0:Nat,v0<c0->aK (W.aa v0) (W.aa v0)))/\d0=d0/\(∀w0:Nat,w0<d0->aJ (W.tasks w0) (W.tasks w0)))/\e0=e0/\(∀l:Nat,let p:=W.ah l;l<e0->True/\p=p/\(∀z0:Nat,z0<p->True/\W.lines l z0=W.lines l z0)))/\j=j/\(∀a1:Nat,a1<j->True/\W.bits a1=W.bits a1))/\h0=h0/\(∀b1:Nat,b1<h0->True/\W.ai b1=W.ai b1))/\k0=k0/\(∀c1:Nat,let d1:=W.al c1;c1<k0->True/\d1=d1/\(∀q:Nat,q<d1->True/\W.ready c1 q=W.ready c1 q)))/\k=k/\(∀n:Nat,let h1:=W.aD n;n<k->True/\h1=h1/\(∀k1:Nat,k1<h1->aG (W.ax n k1) (W.ax n k1))))/\o0=o0/\(∀r:Nat,r<o0->True/\W.aA r=W.aA r))/\W.time=W.time)/\True;let o1:=tn 10 True;let e:=dX W t d b w;let r1:=fJ e (m9 W t d b w c);let u:=r1.ay;let v1:=r1.ak;let w1:=r1.ao;let v:=r1.aO;let x:=r1.aX;let y:=r1.aP;let z:=r1.aC;let b2:=r1.aR;let A:=r1.aQ;let d2:=r1.aL;let S:=r1.time;let g2:=True/\((((((((((True/\u=0)/\v1=0)/\w1=0)/\v=0)/\x=0)/\y=0)/\z=0)/\b2=0)/\A=0)/\d2=0)/\0=S;let h2:=((-1):Int)=(-1);let k2:=SV.ptr 0 0 none 0 0;let l2:=e !=0;tn 2 ((R/\True/\sL.match_1 (λV:my=>Prop) (my.mk W) (λT:Wd=>Sm T))/\((wE W !=0)=true->o1/\(g2/\(8:Int)≠0/\e=8/\h2)/\True)/\((wE W !=0)=false->(R/\True/\
 wq.match_1 (λr2:ox=>Prop) (ox.mk W) (λU:Wd=>Lg U))/\o1/\((k2=k2/\(True/\t=t)/\(True/\d=d)/\(True/\b=b)/\(True/\w=w)/\(True/\c=c)/\True)/\aB W W True/\Sm W/\bI W)/\(l2=true->o1/\(g2/\e=e/\h2)/\True)/\(l2=false->o1/\((True/\((((((((((True/\a0=u/\(∀B:Nat,B<u->True/\W.af (0+B)=r1.af B))/\b0=v1/\(∀C:Nat,C<v1->True/\W.kinds (0+C)=r1.kinds C))/\c0=w1/\(∀E:Nat,E<w1->aK (W.aa (0+E)) (r1.aa E)))/\d0=v/\(∀G:Nat,G<v->aJ (mn W t d b w c (0+G)) (r1.tasks G)))/\e0=x/\(∀g:Nat,g<x->True/\mj W t d b w c (0+g)=r1.ah g/\(∀a3:Nat,a3<r1.ah g->True/\mo W t d b w c (0+g) (0+a3)=r1.lines g a3)))/\j=y/\(∀I:Nat,I<y->True/\W.bits (0+I)=r1.bits I))/\h0=z/\(∀J:Nat,J<z->True/\mq W t d b w c (0+J)=r1.ai J))/\k0=b2/\(∀h:Nat,h<b2->True/\ml W t d b w c (0+h)=r1.al h/\(∀e3:Nat,e3<r1.al h->True/\mr W t d b w c (0+h) (0+e3)=r1.ready h e3)))/\k=A/\(∀i:Nat,i<A->True/\W.aD (0+i)=r1.aD i/\(∀K:Nat,K<r1.aD i->aG (W.ax (0+i) (0+K)) (r1.ax i K))))/\o0=d2/\(∀O:Nat,O<d2->True/\W.aA (0+O)=r1.aA O))/\W.time=S)/\e=0/\h2)/\True)))
set_option maxHeartbeats 2000000 in
theorem YH:aY Tryz.prog gP 19 aaI:=bn (.cons (yl.up kS) (.cons (Bm.up kS) (.cons YG .nil))) false Tryz.call19 Tryz.func19 (λ_=> []) (V:=Qu) (λ_=>by kernel_rfl) λ⟨W,t,d,b,w,c⟩ hp=>by
 dsimp only[Qt]at hp;dsimp only[Qu,tn,aw,aB,aJ,aK,aG];simp only[bq,bx,eq_self,implies_true,bo];obtain⟨hs,e⟩:=hp;have h0:=zZ e;refine⟨hs,λh=>absurd (by simpa using h0) (by simpa using h),λ_=>⟨Dv hs,⟨hs,e⟩,λh2=>?_,λh2=>?_⟩⟩
 ·simp only[λX=>HA X (Ep h2)]
  repeat' (first|exact trivial|rfl|refine And.intro ?_ ?_|intro _|exact absurd ‹_› (dS _)|fail)
 ·simp only[λX=>GB X (vL h2)]
  repeat' (first|exact trivial|rfl|refine And.intro ?_ ?_|intro _|exact absurd ‹_› (dS _)|fail)
  exact eq_of_beq (vL h2)
structure Qv where
 (W:Wd) (t d b w:Int) (c:Bool)
def tw:Sy.Spec:=⟨Qv,λ⟨W,t,d,b,w,c⟩=> [hK W,.v (.int .i64 t),.v (.int .i64 d),.v (.int .i64 b),.v (.int .i64 w),.v (.bool c)],λ_=> [],λ⟨W,_,_,_,_,_⟩=>Sm W/\bI W,λ⟨W,t,d,b,w,c⟩=> .tp 2 (aN [jn (fJ (dX W t d b w) (m9 W t d b w c)),.er 43 66 (dX W t d b w) (-1)]),λ_=> [],
 λargs mem=>match args with| [a0,a1,e,a3,a4,g]=>some ⟨jj a0,av (a1),av (e),av (a3),av (a4),oH (g)⟩|_=>none⟩
def HB:Qv->Prop:=λ⟨W,t,d,b,w,c⟩=>let a0:=W.ak;let b0:=W.ao;let c0:=W.aO;let d0:=W.aX;let e0:=W.aC;let h:=W.aR;let h0:=dX W t d b w;let k0:=fJ h0 (m9 W t d b w c);let i:=k0.ay;let o0:=k0.ak;let j:=k0.ao;let r0:=k0.aO;let k:=k0.aX;let v0:=k0.aP;let w0:=k0.aC;let l:=k0.aR;let n:=k0.aQ;let z0:=k0.aL;let a1:=k0.time;tn 7 ((((((((((((((True/\W.ay=W.ay/\(∀b1:Nat,b1<W.ay->True/\W.af b1=W.af b1))/\a0=a0/\(∀c1:Nat,c1<a0->True/\W.kinds c1=W.kinds c1))/\b0=b0/\(∀d1:Nat,d1<b0->aK (W.aa d1) (W.aa d1)))/\c0=c0/\(∀o:Nat,o<c0->aJ (W.tasks o) (W.tasks o)))/\d0=d0/\(∀e:Nat,let h1:=W.ah e;e<d0->True/\h1=h1/\(∀k1:Nat,k1<h1->True/\W.lines e k1=W.lines e k1)))/\W.aP=W.aP/\(∀p:Nat,p<W.aP->True/\W.bits p=W.bits p))/\e0=e0/\(∀o1:Nat,o1<e0->True/\W.ai o1=W.ai o1))/\h=h/\(∀g:Nat,let r1:=W.al g;g<h->True/\r1=r1/\(∀q:Nat,q<r1->True/\W.ready g q=W.ready g q)))/\W.aQ=W.aQ/\(∀v1:Nat,let w1:=W.aD v1;v1<W.aQ->True/\w1=w1/\(∀r:Nat,r<w1->aG (W.ax v1 r) (W.ax v1 r))))/\W.aL=W.aL/\(∀u:Nat,u<W.aL->True/\W.aA u=W.aA u))/\W.time=W.time)/\((((tn 2 (t=t)/\True/\d=d)/\True/\b=b)/\True/\w=w)/\True/\c=c)/\True)/\True/\Sm W/\bI W)/\tn 10 True/\((True/\((((((((((True/\i=i/\(∀v:Nat,v<i->True/\k0.af v=k0.af v))/\o0=o0/\(∀x:Nat,x<o0->True/\k0.kinds x=k0.kinds x))/\j=j/\(∀b2:Nat,b2<j->aK (k0.aa b2) (k0.aa b2)))/\r0=r0/\(∀y:Nat,y<r0->aJ (k0.tasks y) (k0.tasks y)))/\k=k/\(∀d2:Nat,let z:=k0.ah d2;d2<k->True/\z=z/\(∀g2:Nat,g2<z->True/\
 k0.lines d2 g2=k0.lines d2 g2)))/\v0=v0/\(∀h2:Nat,h2<v0->True/\k0.bits h2=k0.bits h2))/\w0=w0/\(∀k2:Nat,k2<w0->True/\k0.ai k2=k0.ai k2))/\l=l/\(∀l2:Nat,let A:=k0.al l2;l2<l->True/\A=A/\(∀B:Nat,B<A->True/\k0.ready l2 B=k0.ready l2 B)))/\n=n/\(∀r2:Nat,let C:=k0.aD r2;r2<n->True/\C=C/\(∀E:Nat,E<C->aG (k0.ax r2 E) (k0.ax r2 E))))/\z0=z0/\(∀G:Nat,G<z0->True/\k0.aA G=k0.aA G))/\a1=a1)/\h0=h0/\((-1):Int)=(-1))/\True)
set_option maxHeartbeats 2000000 in
theorem YD:∀x,tw.pre x->gl Tryz.prog gP 12 (tw.args x) (tw.mem x) (tw.res x) (tw.bH x):=λx hp=>qT (.cons YH .nil) false Tryz.func12 ((λ_=> []) x) (V:=HB x) (by kernel_rfl)<|(λ⟨W,t,d,b,w,c⟩ hp=>by
 dsimp only[tw]at hp;dsimp only[HB,tn,aw,aB,aJ,aK,aG];simp only[bq,bx,eq_self,implies_true,bo]
 try simp only[dI]
 exact hp
 :∀x,tw.pre x->HB x) x hp
def fe (W:Wd) (t d:Int):Int:=bif cH W t d 7==0 then lh W t else cH W t d 7
def nq (W:Wd) (t d:Int) (i:Nat):aF:=bif cH W t d 7==0 then(b_ W t d).tasks i else(W).tasks i
def nj (W:Wd) (t d:Int) (i:Nat):Nat:=bif cH W t d 7==0 then(b_ W t d).ah i else(W).ah i
def nt (W:Wd) (t d:Int) (i k:Nat):Int:=bif cH W t d 7==0 then(b_ W t d).lines i k else(W).lines i k
def nv (W:Wd) (t d:Int) (i:Nat):Int:=bif cH W t d 7==0 then(b_ W t d).ai i else(W).ai i
def np (W:Wd) (t d:Int) (i:Nat):Nat:=bif cH W t d 7==0 then(b_ W t d).al i else(W).al i
def nw (W:Wd) (t d:Int) (i k:Nat):Int:=bif cH W t d 7==0 then(b_ W t d).ready i k else(W).ready i k
def m_ (W:Wd) (t d:Int):Wd:={W with tasks:=nq W t d,ah:=nj W t d,lines:=nt W t d,ai:=nv W t d,al:=np W t d,ready:=nw W t d}
theorem RO {W:Wd} {t d:Int} (h:(cH W t d 7==0)=true):m_ W t d=b_ W t d:=by
 have e:nq W t d=(b_ W t d).tasks:=by funext i;unfold nq;rw[h];rfl
 have b:nj W t d=(b_ W t d).ah:=by funext i;unfold nj;rw[h];rfl
 have g:nt W t d=(b_ W t d).lines:=by funext i k;unfold nt;rw[h];rfl
 have j:nv W t d=(b_ W t d).ai:=by funext i;unfold nv;rw[h];rfl
 have c:np W t d=(b_ W t d).al:=by funext i;unfold np;rw[h];rfl
 have l:nw W t d=(b_ W t d).ready:=by funext i k;unfold nw;rw[h];rfl
 show({W with tasks:=nq W t d,ah:=nj W t d,lines:=nt W t d,ai:=nv W t d,al:=np W t d,ready:=nw W t d}:Wd)=_;rw[e,b,g,j,c,l]<;>kernel_rfl
theorem acJ {W:Wd} {t d:Int} (h:(cH W t d 7==0)=false):m_ W t d=W:=by
 have e:nq W t d=(W).tasks:=by funext i;unfold nq;rw[h];rfl
 have b:nj W t d=(W).ah:=by funext i;unfold nj;rw[h];rfl
 have g:nt W t d=(W).lines:=by funext i k;unfold nt;rw[h];rfl
 have j:nv W t d=(W).ai:=by funext i;unfold nv;rw[h];rfl
 have c:np W t d=(W).al:=by funext i;unfold np;rw[h];rfl
 have l:nw W t d=(W).ready:=by funext i k;unfold nw;rw[h];rfl
 show({W with tasks:=nq W t d,ah:=nj W t d,lines:=nt W t d,ai:=nv W t d,al:=np W t d,ready:=nw W t d}:Wd)=_;rw[e,b,g,j,c,l]<;>kernel_rfl
def mN (W:Wd) (t w:Int):Int:=bif cH W t t 6==0 then bif az w 65535 then 1 else 0 else cH W t t 6
def fI (W:Wd) (t w:Int):Int:=bif cH W t t 6==0 then bif az w 65535 then 1 else lX W t else cH W t t 6
def mu (W:Wd) (t w:Int) (i:Nat):aF:=bif mN W t w==0 then(fa W t w).tasks i else(W).tasks i
def mm (W:Wd) (t w:Int) (i:Nat):Nat:=bif mN W t w==0 then(fa W t w).al i else(W).al i
def mw (W:Wd) (t w:Int) (i k:Nat):Int:=bif mN W t w==0 then(fa W t w).ready i k else(W).ready i k
def m' (W:Wd) (t w:Int):Wd:={W with tasks:=mu W t w,al:=mm W t w,ready:=mw W t w}
theorem RP {W:Wd} {t w:Int} (h:(mN W t w==0)=true):m' W t w=fa W t w:=by
 have c:mu W t w=(fa W t w).tasks:=by funext i;unfold mu;rw[h];rfl
 have b:mm W t w=(fa W t w).al:=by funext i;unfold mm;rw[h];rfl
 have d:mw W t w=(fa W t w).ready:=by funext i k;unfold mw;rw[h];rfl
 show({W with tasks:=mu W t w,al:=mm W t w,ready:=mw W t w}:Wd)=_;rw[c,b,d]<;>kernel_rfl
theorem RQ {W:Wd} {t w:Int} (h:(mN W t w==0)=false):m' W t w=W:=by
 have c:mu W t w=(W).tasks:=by funext i;unfold mu;rw[h];rfl
 have b:mm W t w=(W).al:=by funext i;unfold mm;rw[h];rfl
 have d:mw W t w=(W).ready:=by funext i k;unfold mw;rw[h];rfl
 show({W with tasks:=mu W t w,al:=mm W t w,ready:=mw W t w}:Wd)=_;rw[c,b,d]<;>kernel_rfl
structure Qw where
 (t d:Int) (W:Wd)
def Qx:Sy.Spec:=⟨Qw,λ⟨t,d,_⟩=> [.ptr 0 0 none 0 0,.pt true 1 (λ_=> .v (.int .i64 t)),.pt true 1 (λ_=> .v (.int .i64 d))],λ⟨_,_,W⟩=>cL W,λ⟨_,_,W⟩=>Sm W/\bI W,λ⟨t,d,W⟩=> .er 43 66 (fe W t d) (-1),λ⟨t,d,W⟩=>cL (m_ W t d),
 λargs mem=>match args with| [a0,a1,b]=>some ⟨av (bN a1 0),av (bN b 0),fW mem 0⟩|_=>none⟩
def aaJ:aZ:=⟨[true],(Qx).g,none⟩
def Qy:Qw->Prop:=λ⟨t,d,W⟩=>let a0:=W.ay;let b0:=W.ak;let c0:=W.ao;let d0:=W.aO;let e0:=W.aX;let b:=W.aP;let h0:=W.aC;let k0:=W.aR;let c:=W.aQ;let o0:=W.aL;let l:=Wd.mk a0 (λr0:Nat=>W.af (0+r0)) b0 (λA:Nat=>W.kinds (0+A)) c0 (λv0:Nat=>W.aa (0+v0)) d0 (λw0:Nat=>W.tasks (0+w0)) e0 (λB:Nat=>W.ah (0+B)) (λC:Nat=>λz0:Nat=>W.lines (0+C) (0+z0)) b (λa1:Nat=>W.bits (0+a1)) h0 (λb1:Nat=>W.ai (0+b1)) k0 (λc1:Nat=>W.al (0+c1)) (λd1:Nat=>λE:Nat=>W.ready (0+d1) (0+E)) c (λG:Nat=>W.aD (0+G)) (λh1:Nat=>λk1:Nat=>W.ax (0+h1) (0+k1)) o0 (λI:Nat=>W.aA (0+I)) W.time;let o1:=cH l t d 7;let n:=o1 !=0;let r1:={W with tasks:=nq W t d,ah:=nj W t d,lines:=nt W t d,ai:=nv W t d,al:=np W t d,ready:=nw W t d};let o:=SV.ptr 0 0 none 0 0;(((((((((((((True/\a0=a0/\(∀v1:Nat,v1<a0->True/\W.af (0+v1)=W.af (0+v1)))/\b0=b0/\(∀w1:Nat,let p:=W.kinds (0+w1);w1<b0->True/\p=p))/\c0=c0/\(∀q:Nat,let r:=W.aa (0+q);q<c0->aK r r))/\d0=d0/\(∀u:Nat,let b2:=W.tasks (0+u);u<d0->aJ b2 b2))/\e0=e0/\(∀e:Nat,let d2:=W.ah (0+e);e<e0->True/\d2=d2/\(∀v:Nat,let g2:=W.lines (0+e) (0+v);v<d2->True/\g2=g2)))/\b=b/\(∀h2:Nat,h2<b->True/\W.bits (0+h2)=W.bits (0+h2)))/\h0=h0/\(∀k2:Nat,let l2:=W.ai (0+k2);k2<h0->True/\l2=l2))/\k0=k0/\(∀g:Nat,let h:=W.al (0+g);g<k0->True/\h=h/\(∀r2:Nat,let x:=W.ready (0+g) (0+r2);r2<h->True/\x=x)))/\c=c/\(∀i:Nat,let j:=W.aD (0+i);i<c->
 True/\j=j/\(∀y:Nat,let z:=W.ax (0+i) (0+y);y<j->aG z z)))/\o0=o0/\(∀k:Nat,k<o0->True/\W.aA (0+k)=W.aA (0+k)))/\W.time=W.time)/\t=t/\d=d/\(7:Int)=7/\True)/\True/\zp.match_1 (λa3:qQ=>Prop) (qQ.mk l t d 7) (λJ:Wd=>λS:Int=>λT:Int=>λe3:Int=>AS J))/\(n=true->(o1=fe W t d/\((-1):Int)=(-1))/\aB W r1 True)/\(n=false->((o=o/\t=t/\d=d/\True)/\aB W W True/\Hw.match_1 (λU:CZ=>Prop) (CZ.mk t d W) (λK:Int=>λO:Int=>λR:Wd=>AR R K O))/\(lh W t=fe W t d/\((-1):Int)=(-1))/\aB {W with tasks:=kE W t d,ah:=kA W t d,lines:=kF W t d,ai:=kG W t d,al:=kB W t d,ready:=kH W t d} r1 True)
set_option maxHeartbeats 2000000 in
theorem YI:aY Tryz.prog gP 30 aaJ:=bn (.cons (Gy.up kS) (.cons (Ym.up kS) .nil)) false Tryz.call30 Tryz.func30 (λ_=> []) (V:=Qy) (λ_=>by kernel_rfl) λ⟨t,d,W⟩ hp=>by
 dsimp only[Qx]at hp;dsimp only[Qy,tn,aw,aB,aJ,aK,aG];simp only[bq,bx,eq_self,implies_true,bo]
 try simp only[dI]
 obtain⟨hs,n⟩:=hp;refine⟨H2 n hs,λh=>?_,λh=>?_⟩
 ·skip
  have l:(cH W t d 7==0)=false:=by simpa using h
  refine⟨by unfold fe;rw[l];rfl,?_⟩;have k:=acJ l;have e:nq W t d=_:=congrArg Wd.tasks k;have b:nj W t d=_:=congrArg Wd.ah k;have g:nt W t d=_:=congrArg Wd.lines k;have i:nv W t d=_:=congrArg Wd.ai k;have c:np W t d=_:=congrArg Wd.al k;have j:nw W t d=_:=congrArg Wd.ready k;simp only[e,b,g,i,c,j];clear k e b g i c j
  repeat' (first|exact trivial|exact cE rfl|rfl|refine And.intro ?_ ?_|intro _|fail)
 ·skip
  have l:(cH W t d 7==0)=true:=by simpa using h
  obtain⟨t0,t1,a0,a1,k1,k2⟩:=H3 (eq_of_beq l);refine⟨RL n hs t0 t1 a0 a1 k2,by unfold fe;rw[l];rfl,?_⟩;have k:=RO l;have e:nq W t d=_:=congrArg Wd.tasks k;have b:nj W t d=_:=congrArg Wd.ah k;have g:nt W t d=_:=congrArg Wd.lines k;have i:nv W t d=_:=congrArg Wd.ai k;have c:np W t d=_:=congrArg Wd.al k;have j:nw W t d=_:=congrArg Wd.ready k;simp only[e,b,g,i,c,j];clear k e b g i c j
  repeat' (first|exact trivial|exact cE rfl|rfl|refine And.intro ?_ ?_|intro _|fail)
structure Qz where
 (W:Wd) (t d:Int)
def QA:Sy.Spec:=⟨Qz,λ⟨W,t,d⟩=> [hK W,.fn 30 2 (aN [.pt true 1 (λ_=> .v (.int .i64 t)),.pt true 1 (λ_=> .v (.int .i64 d))])],λ_=> [],λ⟨W,_,_⟩=>Sm W/\bI W,λ⟨W,t,d⟩=> .tp 2 (aN [jn (fJ (fe W t d) (m_ W t d)),.er 43 66 (fe W t d) (-1)]),λ_=> [],
 λargs mem=>match args with| [a0,a1]=>(match jC 30 a1 with|true=>some ⟨jj a0,av (bN (dK a1 0) 0),av (bN (dK a1 1) 0)⟩|false=>none)|_=>none⟩
def aaK:aZ:=⟨[],(QA).g,none⟩
def QB:Qz->Prop:=λ⟨W,t,d⟩=>let a0:=W.ay;let b0:=W.ak;let c0:=W.ao;let d0:=W.aO;let e0:=W.aX;let h:=W.aP;let h0:=W.aC;let k0:=W.aR;let i:=W.aQ;let o0:=W.aL;let K:=(((((((((((True/\a0=a0/\(∀r0:Nat,r0<a0->True/\W.af r0=W.af r0))/\b0=b0/\(∀l:Nat,l<b0->True/\W.kinds l=W.kinds l))/\c0=c0/\(∀v0:Nat,v0<c0->aK (W.aa v0) (W.aa v0)))/\d0=d0/\(∀w0:Nat,w0<d0->aJ (W.tasks w0) (W.tasks w0)))/\e0=e0/\(∀j:Nat,let n:=W.ah j;j<e0->True/\n=n/\(∀z0:Nat,z0<n->True/\W.lines j z0=W.lines j z0)))/\h=h/\(∀a1:Nat,a1<h->True/\W.bits a1=W.bits a1))/\h0=h0/\(∀b1:Nat,b1<h0->True/\W.ai b1=W.ai b1))/\k0=k0/\(∀c1:Nat,let d1:=W.al c1;c1<k0->True/\d1=d1/\(∀o:Nat,o<d1->True/\W.ready c1 o=W.ready c1 o)))/\i=i/\(∀k:Nat,let h1:=W.aD k;k<i->True/\h1=h1/\(∀k1:Nat,k1<h1->aG (W.ax k k1) (W.ax k k1))))/\o0=o0/\(∀p:Nat,p<o0->True/\W.aA p=W.aA p))/\W.time=W.time)/\True;let o1:=tn 10 True;let b:=fe W t d;let r1:=fJ b (m_ W t d);let q:=r1.ay;let v1:=r1.ak;let w1:=r1.ao;let r:=r1.aO;let u:=r1.aX;let v:=r1.aP;let x:=r1.aC;let b2:=r1.aR;let y:=r1.aQ;let d2:=r1.aL;let O:=r1.time;let g2:=True/\((((((((((True/\q=0)/\v1=0)/\w1=0)/\r=0)/\u=0)/\v=0)/\x=0)/\b2=0)/\y=0)/\d2=0)/\0=O;let h2:=((-1):Int)=(-1);let k2:=SV.ptr 0 0 none 0 0;let l2:=b !=0;tn 2 ((K/\True/\sL.match_1 (λT:my=>Prop) (my.mk W) (λR:Wd=>Sm R))/\((wE W !=0)=true->o1/\(g2/\(8:Int)≠0/\b=8/\h2)/\True)/\((wE W !=0)=false->(K/\True/\
 wq.match_1 (λr2:ox=>Prop) (ox.mk W) (λS:Wd=>Lg S))/\o1/\((k2=k2/\(True/\t=t)/\(True/\d=d)/\True)/\aB W W True/\Sm W/\bI W)/\(l2=true->o1/\(g2/\b=b/\h2)/\True)/\(l2=false->o1/\((True/\((((((((((True/\a0=q/\(∀z:Nat,z<q->True/\W.af (0+z)=r1.af z))/\b0=v1/\(∀A:Nat,A<v1->True/\W.kinds (0+A)=r1.kinds A))/\c0=w1/\(∀B:Nat,B<w1->aK (W.aa (0+B)) (r1.aa B)))/\d0=r/\(∀C:Nat,C<r->aJ (nq W t d (0+C)) (r1.tasks C)))/\e0=u/\(∀c:Nat,c<u->True/\nj W t d (0+c)=r1.ah c/\(∀a3:Nat,a3<r1.ah c->True/\nt W t d (0+c) (0+a3)=r1.lines c a3)))/\h=v/\(∀E:Nat,E<v->True/\W.bits (0+E)=r1.bits E))/\h0=x/\(∀G:Nat,G<x->True/\nv W t d (0+G)=r1.ai G))/\k0=b2/\(∀e:Nat,e<b2->True/\np W t d (0+e)=r1.al e/\(∀e3:Nat,e3<r1.al e->True/\nw W t d (0+e) (0+e3)=r1.ready e e3)))/\i=y/\(∀g:Nat,g<y->True/\W.aD (0+g)=r1.aD g/\(∀I:Nat,I<r1.aD g->aG (W.ax (0+g) (0+I)) (r1.ax g I))))/\o0=d2/\(∀J:Nat,J<d2->True/\W.aA (0+J)=r1.aA J))/\W.time=O)/\b=0/\h2)/\True)))
set_option maxHeartbeats 2000000 in
theorem YJ:aY Tryz.prog gP 19 aaK:=bn (.cons (yl.up kS) (.cons (Bm.up kS) (.cons YI .nil))) false Tryz.call19 Tryz.func19 (λ_=> []) (V:=QB) (λ_=>by kernel_rfl) λ⟨W,t,d⟩ hp=>by
 dsimp only[QA]at hp;dsimp only[QB,tn,aw,aB,aJ,aK,aG];simp only[bq,bx,eq_self,implies_true,bo];obtain⟨hs,b⟩:=hp;have h0:=zZ b;refine⟨hs,λh=>absurd (by simpa using h0) (by simpa using h),λ_=>⟨Dv hs,⟨hs,b⟩,λh2=>?_,λh2=>?_⟩⟩
 ·simp only[λX=>HA X (Ep h2)]
  repeat' (first|exact trivial|rfl|refine And.intro ?_ ?_|intro _|exact absurd ‹_› (dS _)|fail)
 ·simp only[λX=>GB X (vL h2)]
  repeat' (first|exact trivial|rfl|refine And.intro ?_ ?_|intro _|exact absurd ‹_› (dS _)|fail)
  exact eq_of_beq (vL h2)
structure QC where
 (W:Wd) (t d:Int)
def tz:Sy.Spec:=⟨QC,λ⟨W,t,d⟩=> [hK W,.v (.int .i64 t),.v (.int .i64 d)],λ_=> [],λ⟨W,_,_⟩=>Sm W/\bI W,λ⟨W,t,d⟩=> .tp 2 (aN [jn (fJ (fe W t d) (m_ W t d)),.er 43 66 (fe W t d) (-1)]),λ_=> [],
 λargs mem=>match args with| [a0,a1,b]=>some ⟨jj a0,av (a1),av (b)⟩|_=>none⟩
def HC:QC->Prop:=λ⟨W,t,d⟩=>let a0:=W.ak;let b0:=W.ao;let c0:=W.aO;let d0:=W.aX;let e0:=W.aC;let e:=W.aR;let h0:=fe W t d;let k0:=fJ h0 (m_ W t d);let g:=k0.ay;let o0:=k0.ak;let h:=k0.ao;let r0:=k0.aO;let i:=k0.aX;let v0:=k0.aP;let w0:=k0.aC;let j:=k0.aR;let k:=k0.aQ;let z0:=k0.aL;let a1:=k0.time;tn 4 ((((((((((((((True/\W.ay=W.ay/\(∀b1:Nat,b1<W.ay->True/\W.af b1=W.af b1))/\a0=a0/\(∀c1:Nat,c1<a0->True/\W.kinds c1=W.kinds c1))/\b0=b0/\(∀d1:Nat,d1<b0->aK (W.aa d1) (W.aa d1)))/\c0=c0/\(∀l:Nat,l<c0->aJ (W.tasks l) (W.tasks l)))/\d0=d0/\(∀b:Nat,let h1:=W.ah b;b<d0->True/\h1=h1/\(∀k1:Nat,k1<h1->True/\W.lines b k1=W.lines b k1)))/\W.aP=W.aP/\(∀n:Nat,n<W.aP->True/\W.bits n=W.bits n))/\e0=e0/\(∀o1:Nat,o1<e0->True/\W.ai o1=W.ai o1))/\e=e/\(∀c:Nat,let r1:=W.al c;c<e->True/\r1=r1/\(∀o:Nat,o<r1->True/\W.ready c o=W.ready c o)))/\W.aQ=W.aQ/\(∀v1:Nat,let w1:=W.aD v1;v1<W.aQ->True/\w1=w1/\(∀p:Nat,p<w1->aG (W.ax v1 p) (W.ax v1 p))))/\W.aL=W.aL/\(∀q:Nat,q<W.aL->True/\W.aA q=W.aA q))/\W.time=W.time)/\(tn 2 (t=t)/\True/\d=d)/\True)/\True/\Sm W/\bI W)/\tn 10 True/\((True/\((((((((((True/\g=g/\(∀r:Nat,r<g->True/\k0.af r=k0.af r))/\o0=o0/\(∀u:Nat,u<o0->True/\k0.kinds u=k0.kinds u))/\h=h/\(∀b2:Nat,b2<h->aK (k0.aa b2) (k0.aa b2)))/\r0=r0/\(∀v:Nat,v<r0->aJ (k0.tasks v) (k0.tasks v)))/\i=i/\(∀d2:Nat,let x:=k0.ah d2;d2<i->True/\x=x/\(∀g2:Nat,g2<x->True/\k0.lines d2 g2=k0.lines d2 g2)))/\v0=v0/\(∀h2:Nat,
 h2<v0->True/\k0.bits h2=k0.bits h2))/\w0=w0/\(∀k2:Nat,k2<w0->True/\k0.ai k2=k0.ai k2))/\j=j/\(∀l2:Nat,let y:=k0.al l2;l2<j->True/\y=y/\(∀z:Nat,z<y->True/\k0.ready l2 z=k0.ready l2 z)))/\k=k/\(∀r2:Nat,let A:=k0.aD r2;r2<k->True/\A=A/\(∀B:Nat,B<A->aG (k0.ax r2 B) (k0.ax r2 B))))/\z0=z0/\(∀C:Nat,C<z0->True/\k0.aA C=k0.aA C))/\a1=a1)/\h0=h0/\((-1):Int)=(-1))/\True)
set_option maxHeartbeats 2000000 in
theorem YE:∀x,tz.pre x->gl Tryz.prog gP 11 (tz.args x) (tz.mem x) (tz.res x) (tz.bH x):=λx hp=>qT (.cons YJ .nil) false Tryz.func11 ((λ_=> []) x) (V:=HC x) (by kernel_rfl)<|(λ⟨W,t,d⟩ hp=>by
 dsimp only[tz]at hp;dsimp only[HC,tn,aw,aB,aJ,aK,aG];simp only[bq,bx,eq_self,implies_true,bo]
 try simp only[dI]
 exact hp
 :∀x,tz.pre x->HC x) x hp
structure QD where
 (t w:Int) (W:Wd)
def QE:Sy.Spec:=⟨QD,λ⟨t,w,_⟩=> [.ptr 0 0 none 0 0,.pt true 1 (λ_=> .v (.int .i64 t)),.pt true 1 (λ_=> .v (.int .i64 w))],λ⟨_,_,W⟩=>cL W,λ⟨_,_,W⟩=>Sm W/\bI W,λ⟨t,w,W⟩=> .er 43 66 (fI W t w) (-1),λ⟨t,w,W⟩=>cL (m' W t w),
 λargs mem=>match args with| [a0,a1,b]=>some ⟨av (bN a1 0),av (bN b 0),fW mem 0⟩|_=>none⟩
def aaL:aZ:=⟨[true],(QE).g,none⟩
def QF:QD->Prop:=λ⟨t,w,W⟩=>let a0:=W.ay;let b0:=W.ak;let c0:=W.ao;let d0:=W.aO;let e0:=W.aX;let b:=W.aP;let h0:=W.aC;let k0:=W.aR;let c:=W.aQ;let o0:=W.aL;let n:=Wd.mk a0 (λr0:Nat=>W.af (0+r0)) b0 (λI:Nat=>W.kinds (0+I)) c0 (λv0:Nat=>W.aa (0+v0)) d0 (λw0:Nat=>W.tasks (0+w0)) e0 (λJ:Nat=>W.ah (0+J)) (λK:Nat=>λz0:Nat=>W.lines (0+K) (0+z0)) b (λa1:Nat=>W.bits (0+a1)) h0 (λb1:Nat=>W.ai (0+b1)) k0 (λc1:Nat=>W.al (0+c1)) (λd1:Nat=>λO:Nat=>W.ready (0+d1) (0+O)) c (λR:Nat=>W.aD (0+R)) (λh1:Nat=>λk1:Nat=>W.ax (0+h1) (0+k1)) o0 (λS:Nat=>W.aA (0+S)) W.time;let o1:=cH n t t 6;let o:=o1 !=0;let r1:=fI W t w;let d:=((-1):Int)=(-1);let v1:={W with tasks:=mu W t w,al:=mm W t w,ready:=mw W t w};let w1:=aB W v1 True;let e:=[w];let p:Int:=cond (fA 1 (λT:Nat=>!az (List.getD e (0+T) 0) 65535)) 0 1;let q:=p !=0;let b2:=SV.ptr 0 0 none 0 0;let g:=(W.tasks (Int.toNat t)).ar;(((((((((((((True/\a0=a0/\(∀d2:Nat,d2<a0->True/\W.af (0+d2)=W.af (0+d2)))/\b0=b0/\(∀r:Nat,let g2:=W.kinds (0+r);r<b0->True/\g2=g2))/\c0=c0/\(∀h2:Nat,let k2:=W.aa (0+h2);h2<c0->aK k2 k2))/\d0=d0/\(∀l2:Nat,let u:=W.tasks (0+l2);l2<d0->aJ u u))/\e0=e0/\(∀h:Nat,let r2:=W.ah (0+h);h<e0->True/\r2=r2/\(∀v:Nat,let x:=W.lines (0+h) (0+v);v<r2->True/\x=x)))/\b=b/\(∀i:Nat,i<b->True/\W.bits (0+i)=W.bits (0+i)))/\h0=h0/\(∀y:Nat,let z:=W.ai (0+y);y<h0->True/\z=z))/\k0=k0/\(∀j:Nat,
 let a3:=W.al (0+j);j<k0->True/\a3=a3/\(∀A:Nat,let B:=W.ready (0+j) (0+A);A<a3->True/\B=B)))/\c=c/\(∀k:Nat,let e3:=W.aD (0+k);k<c->True/\e3=e3/\(∀C:Nat,let E:=W.ax (0+k) (0+C);C<e3->aG E E)))/\o0=o0/\(∀l:Nat,l<o0->True/\W.aA (0+l)=W.aA (0+l)))/\W.time=W.time)/\t=t/\t=t/\(6:Int)=6/\True)/\True/\zp.match_1 (λX:qQ=>Prop) (qQ.mk n t t 6) (λU:Wd=>λY:Int=>λr3:Int=>λZ:Int=>AS U))/\(o=true->(o1=r1/\d)/\w1)/\(o=false->True/\(((1=1/\(∀v3:Nat,let G:=List.getD e (0+v3) 0;v3<1->True/\G=G))/\True)/\True/\BQ.match_1 (λx3:wo=>Prop) (wo.mk 1 (λV:Nat=>List.getD e (0+V) 0)) (λz3:Nat=>λa4:∀b4:Nat,Int=>z3<=1000))/\(q=true->(p=r1/\d)/\w1)/\(q=false->((b2=b2/\t=t/\w=w/\True)/\aB W W True/\0<=t/\t<(d0:Int)/\(-1)<=g/\(g≠(-1)->fp W g))/\(lX W t=r1/\d)/\aB {W with tasks:=ng W t w,al:=nb W t w,ready:=ni W t w} v1 True))
set_option maxHeartbeats 2000000 in
theorem YK:aY Tryz.prog gP 35 aaL:=bn (.cons (Gy.up kS) (.cons (KB.up kS) (.cons (Yk.up kS) .nil))) false Tryz.call35 Tryz.func35 (λ_=> []) (V:=QF) (λ_=>by kernel_rfl) λ⟨t,w,W⟩ hp=>by
 dsimp only[QE]at hp;dsimp only[QF,tn,aw,aB,aJ,aK,aG];simp only[bq,bx,eq_self,implies_true,bo]
 try simp only[dI]
 obtain⟨hs,i⟩:=hp;refine⟨H2 i hs,λh=>?_,λh=>⟨by decide,?_⟩⟩
 ·skip
  have h0:(cH W t t 6==0)=false:=by simpa using h
  have g:(mN W t w==0)=false:=by unfold mN;rw[h0];exact h0
  refine⟨by unfold fI;rw[h0];rfl,?_⟩;have e:=RQ g;have c:mu W t w=_:=congrArg Wd.tasks e;have b:mm W t w=_:=congrArg Wd.al e;have d:mw W t w=_:=congrArg Wd.ready e;simp only[c,b,d];clear e c b d
  repeat' (first|exact trivial|exact cE rfl|rfl|refine And.intro ?_ ?_|intro _|fail)
 have h0:(cH W t t 6==0)=true:=by simpa using h
 have q:(bif fA 1 λv3=>!az ([w].getD v3 0) 65535 then(0:Int)else 1)=bif az w 65535 then 1 else 0:=by rw[adF];show(bif !az w 65535 then(0:Int)else 1)=_;cases az w 65535<;>rfl
 rw[q];cases j:az w 65535 with
 |true=>
  refine⟨λ_=>?_,λk=>absurd k (by decide)⟩;have g:(mN W t w==0)=false:=by unfold mN;rw[h0,j];rfl
  refine⟨by unfold fI;rw[h0,j];rfl,?_⟩;have e:=RQ g;have c:mu W t w=_:=congrArg Wd.tasks e;have b:mm W t w=_:=congrArg Wd.al e;have d:mw W t w=_:=congrArg Wd.ready e;simp only[c,b,d];clear e c b d
  repeat' (first|exact trivial|exact cE rfl|rfl|refine And.intro ?_ ?_|intro _|fail)
 |false=>
  refine⟨λk=>absurd k (by decide),λ_=>?_⟩;have g:(mN W t w==0)=true:=by unfold mN;rw[h0,j];rfl
  obtain⟨t0,t1,a0,a1,k1,k2⟩:=H3 (eq_of_beq h0);have z3:=i.z.tasks;have ho:=((pM i hs).tk t.toNat (by omega)).ar;refine⟨⟨t0,by omega,ho.1,λl=>RK i hs (by omega) (by omega)⟩,by unfold fI;rw[h0,j];rfl,?_⟩;have e:=RP g;have c:mu W t w=_:=congrArg Wd.tasks e;have b:mm W t w=_:=congrArg Wd.al e;have d:mw W t w=_:=congrArg Wd.ready e;simp only[c,b,d];clear e c b d
  repeat' (first|exact trivial|exact cE rfl|rfl|refine And.intro ?_ ?_|intro _|fail)
structure QG where
 (W:Wd) (t w:Int)
def QH:Sy.Spec:=⟨QG,λ⟨W,t,w⟩=> [hK W,.fn 35 2 (aN [.pt true 1 (λ_=> .v (.int .i64 t)),.pt true 1 (λ_=> .v (.int .i64 w))])],λ_=> [],λ⟨W,_,_⟩=>Sm W/\bI W,λ⟨W,t,w⟩=> .tp 2 (aN [jn (fJ (fI W t w) (m' W t w)),.er 43 66 (fI W t w) (-1)]),λ_=> [],
 λargs mem=>match args with| [a0,a1]=>(match jC 35 a1 with|true=>some ⟨jj a0,av (bN (dK a1 0) 0),av (bN (dK a1 1) 0)⟩|false=>none)|_=>none⟩
def aaM:aZ:=⟨[],(QH).g,none⟩
def QI:QG->Prop:=λ⟨W,t,w⟩=>let a0:=W.ay;let b0:=W.ak;let c0:=W.ao;let d0:=W.aO;let e0:=W.aX;let g:=W.aP;let h0:=W.aC;let k0:=W.aR;let h:=W.aQ;let o0:=W.aL;let J:=(((((((((((True/\a0=a0/\(∀r0:Nat,r0<a0->True/\W.af r0=W.af r0))/\b0=b0/\(∀k:Nat,k<b0->True/\W.kinds k=W.kinds k))/\c0=c0/\(∀v0:Nat,v0<c0->aK (W.aa v0) (W.aa v0)))/\d0=d0/\(∀w0:Nat,w0<d0->aJ (W.tasks w0) (W.tasks w0)))/\e0=e0/\(∀i:Nat,let l:=W.ah i;i<e0->True/\l=l/\(∀z0:Nat,z0<l->True/\W.lines i z0=W.lines i z0)))/\g=g/\(∀a1:Nat,a1<g->True/\W.bits a1=W.bits a1))/\h0=h0/\(∀b1:Nat,b1<h0->True/\W.ai b1=W.ai b1))/\k0=k0/\(∀c1:Nat,let d1:=W.al c1;c1<k0->True/\d1=d1/\(∀n:Nat,n<d1->True/\W.ready c1 n=W.ready c1 n)))/\h=h/\(∀j:Nat,let h1:=W.aD j;j<h->True/\h1=h1/\(∀k1:Nat,k1<h1->aG (W.ax j k1) (W.ax j k1))))/\o0=o0/\(∀o:Nat,o<o0->True/\W.aA o=W.aA o))/\W.time=W.time)/\True;let o1:=tn 10 True;let b:=fI W t w;let r1:=fJ b (m' W t w);let p:=r1.ay;let v1:=r1.ak;let w1:=r1.ao;let q:=r1.aO;let r:=r1.aX;let u:=r1.aP;let v:=r1.aC;let b2:=r1.aR;let x:=r1.aQ;let d2:=r1.aL;let K:=r1.time;let g2:=True/\((((((((((True/\p=0)/\v1=0)/\w1=0)/\q=0)/\r=0)/\u=0)/\v=0)/\b2=0)/\x=0)/\d2=0)/\0=K;let h2:=((-1):Int)=(-1);let k2:=SV.ptr 0 0 none 0 0;let l2:=b !=0;tn 2 ((J/\True/\sL.match_1 (λS:my=>Prop) (my.mk W) (λO:Wd=>Sm O))/\((wE W !=0)=true->o1/\(g2/\(8:Int)≠0/\b=8/\h2)/\True)/\((wE W !=0)=false->(J/\True/\
 wq.match_1 (λr2:ox=>Prop) (ox.mk W) (λR:Wd=>Lg R))/\o1/\((k2=k2/\(True/\t=t)/\(True/\w=w)/\True)/\aB W W True/\Sm W/\bI W)/\(l2=true->o1/\(g2/\b=b/\h2)/\True)/\(l2=false->o1/\((True/\((((((((((True/\a0=p/\(∀y:Nat,y<p->True/\W.af (0+y)=r1.af y))/\b0=v1/\(∀z:Nat,z<v1->True/\W.kinds (0+z)=r1.kinds z))/\c0=w1/\(∀A:Nat,A<w1->aK (W.aa (0+A)) (r1.aa A)))/\d0=q/\(∀B:Nat,B<q->aJ (mu W t w (0+B)) (r1.tasks B)))/\e0=r/\(∀c:Nat,c<r->True/\W.ah (0+c)=r1.ah c/\(∀a3:Nat,a3<r1.ah c->True/\W.lines (0+c) (0+a3)=r1.lines c a3)))/\g=u/\(∀C:Nat,C<u->True/\W.bits (0+C)=r1.bits C))/\h0=v/\(∀E:Nat,E<v->True/\W.ai (0+E)=r1.ai E))/\k0=b2/\(∀d:Nat,d<b2->True/\mm W t w (0+d)=r1.al d/\(∀e3:Nat,e3<r1.al d->True/\mw W t w (0+d) (0+e3)=r1.ready d e3)))/\h=x/\(∀e:Nat,e<x->True/\W.aD (0+e)=r1.aD e/\(∀G:Nat,G<r1.aD e->aG (W.ax (0+e) (0+G)) (r1.ax e G))))/\o0=d2/\(∀I:Nat,I<d2->True/\W.aA (0+I)=r1.aA I))/\W.time=K)/\b=0/\h2)/\True)))
set_option maxHeartbeats 2000000 in
theorem YL:aY Tryz.prog gP 19 aaM:=bn (.cons (yl.up kS) (.cons (Bm.up kS) (.cons YK .nil))) false Tryz.call19 Tryz.func19 (λ_=> []) (V:=QI) (λ_=>by kernel_rfl) λ⟨W,t,w⟩ hp=>by
 dsimp only[QH]at hp;dsimp only[QI,tn,aw,aB,aJ,aK,aG];simp only[bq,bx,eq_self,implies_true,bo];obtain⟨hs,b⟩:=hp;have h0:=zZ b;refine⟨hs,λh=>absurd (by simpa using h0) (by simpa using h),λ_=>⟨Dv hs,⟨hs,b⟩,λh2=>?_,λh2=>?_⟩⟩
 ·simp only[λX=>HA X (Ep h2)]
  repeat' (first|exact trivial|rfl|refine And.intro ?_ ?_|intro _|exact absurd ‹_› (dS _)|fail)
 ·simp only[λX=>GB X (vL h2)]
  repeat' (first|exact trivial|rfl|refine And.intro ?_ ?_|intro _|exact absurd ‹_› (dS _)|fail)
  exact eq_of_beq (vL h2)
structure QJ where
 (W:Wd) (t w:Int)
def tA:Sy.Spec:=⟨QJ,λ⟨W,t,w⟩=> [hK W,.v (.int .i64 t),.v (.int .i64 w)],λ_=> [],λ⟨W,_,_⟩=>Sm W/\bI W,λ⟨W,t,w⟩=> .tp 2 (aN [jn (fJ (fI W t w) (m' W t w)),.er 43 66 (fI W t w) (-1)]),λ_=> [],
 λargs mem=>match args with| [a0,a1,b]=>some ⟨jj a0,av (a1),av (b)⟩|_=>none⟩
def HD:QJ->Prop:=λ⟨W,t,w⟩=>let a0:=W.ak;let b0:=W.ao;let c0:=W.aO;let d0:=W.aX;let e0:=W.aC;let d:=W.aR;let h0:=fI W t w;let k0:=fJ h0 (m' W t w);let e:=k0.ay;let o0:=k0.ak;let g:=k0.ao;let r0:=k0.aO;let h:=k0.aX;let v0:=k0.aP;let w0:=k0.aC;let i:=k0.aR;let j:=k0.aQ;let z0:=k0.aL;let a1:=k0.time;tn 4 ((((((((((((((True/\W.ay=W.ay/\(∀b1:Nat,b1<W.ay->True/\W.af b1=W.af b1))/\a0=a0/\(∀c1:Nat,c1<a0->True/\W.kinds c1=W.kinds c1))/\b0=b0/\(∀d1:Nat,d1<b0->aK (W.aa d1) (W.aa d1)))/\c0=c0/\(∀k:Nat,k<c0->aJ (W.tasks k) (W.tasks k)))/\d0=d0/\(∀b:Nat,let h1:=W.ah b;b<d0->True/\h1=h1/\(∀k1:Nat,k1<h1->True/\W.lines b k1=W.lines b k1)))/\W.aP=W.aP/\(∀l:Nat,l<W.aP->True/\W.bits l=W.bits l))/\e0=e0/\(∀o1:Nat,o1<e0->True/\W.ai o1=W.ai o1))/\d=d/\(∀c:Nat,let r1:=W.al c;c<d->True/\r1=r1/\(∀n:Nat,n<r1->True/\W.ready c n=W.ready c n)))/\W.aQ=W.aQ/\(∀v1:Nat,let w1:=W.aD v1;v1<W.aQ->True/\w1=w1/\(∀o:Nat,o<w1->aG (W.ax v1 o) (W.ax v1 o))))/\W.aL=W.aL/\(∀p:Nat,p<W.aL->True/\W.aA p=W.aA p))/\W.time=W.time)/\(tn 2 (t=t)/\True/\w=w)/\True)/\True/\Sm W/\bI W)/\tn 10 True/\((True/\((((((((((True/\e=e/\(∀q:Nat,q<e->True/\k0.af q=k0.af q))/\o0=o0/\(∀r:Nat,r<o0->True/\k0.kinds r=k0.kinds r))/\g=g/\(∀b2:Nat,b2<g->aK (k0.aa b2) (k0.aa b2)))/\r0=r0/\(∀u:Nat,u<r0->aJ (k0.tasks u) (k0.tasks u)))/\h=h/\(∀d2:Nat,let v:=k0.ah d2;d2<h->True/\v=v/\(∀g2:Nat,g2<v->True/\k0.lines d2 g2=k0.lines d2 g2)))/\v0=v0/\(∀h2:Nat,
 h2<v0->True/\k0.bits h2=k0.bits h2))/\w0=w0/\(∀k2:Nat,k2<w0->True/\k0.ai k2=k0.ai k2))/\i=i/\(∀l2:Nat,let x:=k0.al l2;l2<i->True/\x=x/\(∀y:Nat,y<x->True/\k0.ready l2 y=k0.ready l2 y)))/\j=j/\(∀r2:Nat,let z:=k0.aD r2;r2<j->True/\z=z/\(∀A:Nat,A<z->aG (k0.ax r2 A) (k0.ax r2 A))))/\z0=z0/\(∀B:Nat,B<z0->True/\k0.aA B=k0.aA B))/\a1=a1)/\h0=h0/\((-1):Int)=(-1))/\True)
set_option maxHeartbeats 2000000 in
theorem YF:∀x,tA.pre x->gl Tryz.prog gP 14 (tA.args x) (tA.mem x) (tA.res x) (tA.bH x):=λx hp=>qT (.cons YL .nil) false Tryz.func14 ((λ_=> []) x) (V:=HD x) (by kernel_rfl)<|(λ⟨W,t,w⟩ hp=>by
 dsimp only[tA]at hp;dsimp only[HD,tn,aw,aB,aJ,aK,aG];simp only[bq,bx,eq_self,implies_true,bo]
 try simp only[dI]
 exact hp
 :∀x,tA.pre x->HD x) x hp
def eF (W:Wd) (t d b w:Int) (c:Bool):Wd:=ya W (m9 W t d b w c)
theorem Qm (W:Wd) (t d b w:Int) (c:Bool):eF W t d b w c=m9 W t d b w c:=C4 _ _
def eL (W:Wd) (t d:Int):Wd:=ya W (fJ (fe W t d) (m_ W t d))
theorem Qn (W:Wd) (t d:Int):eL W t d=fJ (fe W t d) (m_ W t d):=C4 _ _
def n_ (W:Wd) (t w:Int):Wd:=ya W (fJ (fI W t w) (m' W t w))
theorem Qo (W:Wd) (t w:Int):n_ W t w=fJ (fI W t w) (m' W t w):=C4 _ _
structure aay where
 (W:Wd) (t d b w:Int) (c:Bool)
def aaz:Sy.Spec:=⟨aay,λ⟨W,t,d,b,w,c⟩=> [hK W,.v (.int .i64 t),.v (.int .i64 d),.v (.int .i64 b),.v (.int .i64 w),.v (.bool c)],λ_=> [],λ⟨W,t,d,b,w,_⟩=>Sm W/\bI W/\dX W t d b w=0,λ⟨W,t,d,b,w,c⟩=> .tp 2 (aN [jn (eF W t d b w c),.er 43 66 0 (-1)]),λ_=> [],
 λargs mem=>match args with| [a0,a1,e,a3,a4,g]=>some ⟨jj a0,av (a1),av (e),av (a3),av (a4),oH (g)⟩|_=>none⟩
def aaA:aZ:=⟨[],(aaz).g,none⟩
theorem MN:aY Tryz.prog gP 12 aaA:=py Tryz.call12 λ⟨W,t,d,b,w,c⟩ _=>by
 have hp:Sm W/\bI W/\dX W t d b w=0:=by assumption
 have q:gl Tryz.prog gP 12 [hK W,.v (.int .i64 t),.v (.int .i64 d),.v (.int .i64 b),.v (.int .i64 w),.v (.bool c)] [] (.tp 2 (aN [jn (fJ (dX W t d b w) (m9 W t d b w c)),.er 43 66 (dX W t d b w) (-1)])) []:=YD ⟨W,t,d,b,w,c⟩ ⟨hp.1,hp.2.1⟩;rw[hp.2.2,show fJ 0 (m9 W t d b w c)=m9 W t d b w c from rfl,<-Qm]at q;exact q
structure aaB where
 (W:Wd) (t d:Int)
def aaC:Sy.Spec:=⟨aaB,λ⟨W,t,d⟩=> [hK W,.v (.int .i64 t),.v (.int .i64 d)],λ_=> [],λ⟨W,_,_⟩=>Sm W/\bI W,λ⟨W,t,d⟩=> .tp 2 (aN [jn (eL W t d),.er 43 66 (fe W t d) (-1)]),λ_=> [],
 λargs mem=>match args with| [a0,a1,b]=>some ⟨jj a0,av (a1),av (b)⟩|_=>none⟩
def aaD:aZ:=⟨[],(aaC).g,none⟩
theorem MO:aY Tryz.prog gP 11 aaD:=py Tryz.call11 λ⟨W,t,d⟩ _=>by
 have hp:Sm W/\bI W:=by assumption
 have q:gl Tryz.prog gP 11 [hK W,.v (.int .i64 t),.v (.int .i64 d)] [] (.tp 2 (aN [jn (fJ (fe W t d) (m_ W t d)),.er 43 66 (fe W t d) (-1)])) []:=YE ⟨W,t,d⟩ hp;rw[<-Qn]at q;exact q
structure aaE where
 (W:Wd) (t w:Int)
def aaF:Sy.Spec:=⟨aaE,λ⟨W,t,w⟩=> [hK W,.v (.int .i64 t),.v (.int .i64 w)],λ_=> [],λ⟨W,_,_⟩=>Sm W/\bI W,λ⟨W,t,w⟩=> .tp 2 (aN [jn (n_ W t w),.er 43 66 (fI W t w) (-1)]),λ_=> [],
 λargs mem=>match args with| [a0,a1,b]=>some ⟨jj a0,av (a1),av (b)⟩|_=>none⟩
def aaG:aZ:=⟨[],(aaF).g,none⟩
theorem MP:aY Tryz.prog gP 14 aaG:=py Tryz.call14 λ⟨W,t,w⟩ _=>by
 have hp:Sm W/\bI W:=by assumption
 have q:gl Tryz.prog gP 14 [hK W,.v (.int .i64 t),.v (.int .i64 w)] [] (.tp 2 (aN [jn (fJ (fI W t w) (m' W t w)),.er 43 66 (fI W t w) (-1)])) []:=YF ⟨W,t,w⟩ hp;rw[<-Qo]at q;exact q
end Go.Proofs.YthgmgkabnffniaaGreatDoor
