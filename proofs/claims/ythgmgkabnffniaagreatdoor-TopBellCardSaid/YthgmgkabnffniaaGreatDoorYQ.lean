/- Lines of a world's text. -/
import Derived.Test.YthgmgkabnffniaaGreatDoorYP
import Derived.Test.YthgmgkabnffniaaGreatDoorYO
import Derived.Test.YthgmgkabnffniaaGreatDoorYM
import Derived.Test.YthgmgkabnffniaaGreatDoorYI
import Derived.Test.YthgmgkabnffniaaGreatDoorYK
set_option linter.unusedVariables false
set_option linter.unusedSimpArgs false
set_option linter.unusedVariables false
set_option linter.unusedSimpArgs false
set_option maxRecDepth 100000
namespace Go.Proofs.YthgmgkabnffniaaGreatDoor
open Go.RowKit Go.Sy
def mn (i:Nat):ByteArray:=⟨(([[112,97,103,101],[116,97,98,108,101],[115,112,97,99,101],[110,111,100,101],[116,97,115,107],[100,111,111,114],[98,101,108,108]]:List (List UInt8)).getD i []).toArray⟩
def tN:Nat->SV:=λg=>bif Nat.beq g 1 then .pt false 1 (λ_=> .sl false 1 7 λi _=> .v (.string (mn i)))else .aF
theorem iu: ∀g,aY g=tN g\/aY g= .aF:=λ_=> .inr rfl
def lH:ByteArray:={data:= #[109,97,107,101]}
def lI:ByteArray:={data:= #[99,108,97,121]}
def mz:ByteArray:={data:= #[112,117,116]}
def my:ByteArray:={data:= #[99,111,112,121]}
def ni:ByteArray:={data:= #[101,110,116,101,114]}
def oA:ByteArray:={data:= #[101,113,117,105,112]}
def A8:ByteArray:={data:= #[115,116,97,114,116]}
def aV (a b:ByteArray):Bool:=a.toList==b.toList
def bT (f:Nat->ByteArray) (k:Nat) (i:Nat):Int:=bu (f (k+i))
def mU (x:ByteArray):Nat:=dG 7 λj=>aV (mn j) x
def lD (x:ByteArray):Int:=bif aV x lI||aV x mz then 3 else bif aV x my||aV x ni then 4 else bif aV x oA then 7 else bif aV x A8 then 1 else -1
def fC (n:Nat) (f:Nat->ByteArray):Int:=
  bif aV (f 0) lH then(bif Nat.beq n 5 then bif Nat.beq (mU (f 1)) 7 then 11 else iK (n -2) (λj=>f (2+j))else 10)else
  bif decide (lD (f 0)<0)then 11 else bif iK (n -1) (λj=>f (1+j))==0 then bif ((n -1:Nat):Int)==lD (f 0)then 0 else 10 else iK (n -1) (λj=>f (1+j))
def ig (W:Wd) (n:Nat) (f:Nat->ByteArray):Int:=
  bif fC n f==0 then
    bif aV (f 0) lH then dP W (bT f 2 0) (2+(mU (f 1):Int)) (bT f 2 1) (bT f 2 2)else
    bif aV (f 0) lI then fu W (bT f 1)else bif aV (f 0) mz then iZ W (bT f 1)else
    bif aV (f 0) my then gX W (bT f 1 0) (bT f 1 1) (bT f 1 2) (bT f 1 3)else
    bif aV (f 0) ni then dJ W (bT f 1)else bif aV (f 0) oA then fM W (bT f 1)else jn W (bT f 1 0)
  else fC n f
def qT (W:Wd) (n:Nat) (f:Nat->ByteArray):Wd:=
  bif fC n f==0 then
    bif aV (f 0) lH then sj W (bT f 2 0) (2+(mU (f 1):Int)) (bT f 2 1) (bT f 2 2)else
    bif aV (f 0) lI then sf W (bT f 1)else bif aV (f 0) mz then Ac W (bT f 1)else
    bif aV (f 0) my then tR W (bT f 1 0) (bT f 1 1) (bT f 1 2) (bT f 1 3)else
    bif aV (f 0) ni then sb W (bT f 1)else bif aV (f 0) oA then rp W (bT f 1)else lR W (bT f 1 0)
  else W
def jO (W:Wd) (n:Nat) (f:Nat->ByteArray):Wd:=match W.time with| .ofNat _=>qT W n f| .negSucc _=>qT W n f
theorem uw (W:Wd) (n:Nat) (f:Nat->ByteArray):jO W n f=qT W n f:=by
  unfold jO
  cases W.time<;>rfl
theorem B5 (A:Wd):aD A A True:=by
  unfold aD
  repeat' (first|exact trivial|rfl|exact aiA|exact aiB|exact aiC|refine And.intro ?_ ?_|intro _)
theorem pF {A B:Wd} (h:A=B):aD A B True:=by subst h;exact B5 A
theorem zh {W:Wd} {n:Nat} {f:Nat->ByteArray} {e:Int} (hA:fC n f=e) (he:e≠0):e=ig W n f/\aD W (jO W n f) True:=by
  have h:(fC n f==0)=false:=by rw[hA];exact beq_eq_false_iff_ne.2 he
  refine⟨?_,pF ?_⟩
  · unfold ig;rw[h,hA];rfl
  · rw[uw];unfold qT;rw[h];rfl
theorem JR {n:Nat} {f:Nat->ByteArray} (h:iK n f=0):rB n f=n:=by
  unfold iK at h;unfold rB
  cases q:dE n (λi=>lC (f i))with
  |true=>rfl
  |false=>rw[q]at h;cases h
theorem ad' (s:ByteArray): -1<=bu s/\bu s<=99999:=by
  unfold bu
  cases q:Nat.beq s.size 0||decide (5<s.size)||(im s 0==48&&decide (1<s.size))with
  |true=>show(-1:Int)<= -1/\(-1:Int)<=99999;decide
  |false=>
   cases r:dE s.size (pk s)with
   |false=>show(-1:Int)<= -1/\(-1:Int)<=99999;decide
   |true=>
    simp only[Bool.or_eq_false_iff,decide_eq_false_iff_not]at q
    have h5:s.size<=5:=by omega
    have hn:=IT h5 λj hj=>gG.1 r j hj
    have hp:(10:Int)^s.size<=10^5:=by
      rcases(show s.size=0\/s.size=1\/s.size=2\/s.size=3\/s.size=4\/s.size=5 by omega)with e|e|e|e|e|e<;>rw[e]<;>decide
    have hp5:(10:Int)^5=100000:=by decide
    show -1<=po s s.size/\po s s.size<=99999
    omega
def afO (f:Nat->ByteArray):cG where
  σ:=Nat
  rt:= []
  sh i:= [(0,de 0),(5,.v (.int .i64 i))]
  mh _:= []
  inv i:=i<=7/\ ∀j,j<i->aV (mn j) (f 1)=false
  μ i:=7 -i
  init:=0
def aea (W:Wd) (f:Nat->ByteArray):Cut where
  σ:=Int
  rt:= []
  sh v:= [(0,de 0),(8,.v (.int .i64 v))]
  mem _:=cP W
  inv v:=v=lD (f 0)
  dec F _:=aw (F 8)
structure MT where
  (n:Nat) (f:Nat->ByteArray) (W:Wd)
def MU:Sy.Spec:=⟨MT,λ⟨n,f,_⟩=> [.ptr 0 0 none 0 0,.sl true 1 n (λi_ _=> .v (.string (f i_)))],λ⟨_,_,W⟩=>cP W,λ⟨n,f,W⟩=>bU W/\Ad W/\rj W/\1<=n/\n<=4000/\ ∀i,i<n->(f i).size<=4000,λ⟨n,f,W⟩=> .v (.int .i64 (ig W n f)),λ⟨n,f,W⟩=>cP (jO W n f),
  λargs mem=>match args with| [a0,a1]=>some ⟨bX a1,λi=>wN (bN a1 i 0),iG mem 0⟩|_=>none⟩
def XX:aT:=⟨[true],(MU).g,none⟩
def MV:MT->Prop:=λ⟨n,f,W⟩=>let a0:=(0:Int)<=0;let b0:=(n:Int);let c0:=a0/\0<b0;let d0:=Int.toNat 0;let e0:=ByteArray.toList (f d0);let g0:=e0==ByteArray.toList (ByteArray.mk (List.toArray [(109:UInt8),97,107,101]));let h0:=ig W n f;let k0:=jO W n f;let l0:=aD W k0 True;let o0:=10=h0/\l0;let q0:=SV.ptr 0 0 none 0 0;let r0:=q0=q0;let u0:=aD W W True;let v0:=((7:Nat):Int);let w0:=(0:Int)<=1;let x0:=Int.toNat 1;let y0:=ByteArray.toList (f x0);let z0:=11=h0/\l0;let a1:=(0:Int)<=2;let b1:=b0<=b0;let c1:=Int.toNat 2;let d1:=Int.toNat b0-c1;let e1:=iK d1 (λg1:Nat=>f (c1+g1));let J:=e1 !=0;let k1:=((rB d1 (λl1:Nat=>f (c1+l1)):Nat):Int);let o1:=bu (f (c1+d0));let q1:=bu (f (c1+x0));let r1:=bu (f (c1+c1));let u1:=e0==ByteArray.toList (ByteArray.mk (List.toArray [(99:UInt8),108,97,121]));let v1:=u1=true;let w1:=lD (f 0);let x1:=r0/\(3:Int)=3/\u0/\3=w1;let y1:=u1=false;let z1:=e0==ByteArray.toList (ByteArray.mk (List.toArray [(99:UInt8),111,112,121]));let a2:=z1=true;let b2:=r0/\(4:Int)=4/\u0/\4=w1;let c2:=z1=false;let d2:=e0==ByteArray.toList (ByteArray.mk (List.toArray [(101:UInt8),113,117,105,112]));let e2:=d2=true;let g2:=d2=false;let h2:=e0==ByteArray.toList (ByteArray.mk (List.toArray [(115:UInt8),116,97,114,116]));let k2:=(e2->r0/\(7:Int)=7/\u0/\7=w1)/\(g2->(h2=true->r0/\(1:Int)=1/\u0/\1=w1)/\(h2=false->r0/\((-1):Int)=(-1)/\u0/\(-1)=w1));let l2:=e0==ByteArray.toList (ByteArray.mk (List.toArray [(101:UInt8),110,116,101,114]));let o2:=l2=true;let q2:=l2=false;let r2:=(a2->(a2->b2)/\(c2->k2))/\(c2->(o2->b2)/\(q2->k2));
    let u2:=e0==ByteArray.toList (ByteArray.mk (List.toArray [(112:UInt8),117,116]));let v2:=u2=true;let w2:=u2=false;let x2:=Int.toNat b0-x0;let y2:=iK x2 (λz2:Nat=>f (x0+z2));let a3:=y2 !=0;let b3:=rB x2 (λc3:Nat=>f (x0+c3));let d3:=(b3:Int);let e3:=r0/\(b3=b3/\(∀g3:Nat,g3<b3->True/\bu (f (x0+g3))=bu (f (x0+g3))))/\True;let h3:=b3=3;let k3:=a0/\0<d3;let l3:=bu (f (x0+d0));let o3:=l3=l3;let q3:=bu (f (x0+x0));let r3:=bu (f (x0+c1));let u3:=bu (f (x0+Int.toNat 3));c0/\(g0=true->b0<=9223372036854775807->((b0 !=5)=true->o0)/\((b0 !=5)=false->r0/\0=((0:Nat):Int)/\u0/\(0<=7/\(∀v3:Nat,v3<0->aV (mn v3) (f 1)=false))/\(∀w3:Nat,let x3:=(w3:Int);let y3:=decide (x3<v0);let z3:=y3=true;let a4:=cond y3 (ByteArray.toList (mn (Int.toNat x3)) !=y0) false;let b4:Int:=x3+1;let c4:Int:=2+x3;w3<=7/\(∀d4:Nat,d4<w3->aV (mn d4) (f 1)=false)->tn 7 ((z3->0<=x3/\x3<v0)/\tn 2 ((z3->w0/\1<b0)/\True/\(a4=true->ar b4=b4/\(∃e4:Nat,r0/\b4=(e4:Int)/\u0/\(e4<=7/\(∀g4:Nat,g4<e4->aV (mn g4) (f 1)=false))/\7-e4<7-w3))/\(a4=false->v0<=9223372036854775807->((x3==v0)=true->z0)/\((x3==v0)=false->(a1/\2<=b0/\b1)/\(((d1=d1/\(∀h4:Nat,h4<d1->True/\f (c1+h4)=f (c1+h4)))/\True)/\True/\d1<=4000/\(∀k4:Nat,k4<d1->ByteArray.size (f (c1+k4))<=4000))/\(J=true->e1=h0/\l0)/\(J=false->tn 2 ((a0/\0<k1)/\tn 2 (ar c4=c4/\True/\(w0/\1<k1)/\tn 2 ((a1/\2<k1)/\True/\((r0/\o1=o1/\c4=c4/\q1=q1/\r1=r1/\True)/\u0/\H_.match_1 (λl4:Eo=>Prop) (Eo.mk o1 c4 q1 r1 W) (λo4:Int=>λq4:Int=>λr4:Int=>λu4:Int=>λv4:Wd=>Ad v4))/\dP W o1 c4 q1 r1=h0/\
    aD {W with af:=lS W o1 c4 q1 r1,kinds:=lT W o1 c4 q1 r1,aa:=kr W o1 c4 q1 r1} k0 True)))))))))))/\(g0=false->(c0/\(v1->(v1->x1)/\(y1->r2))/\(y1->(v2->x1)/\(w2->r2)))/\(∀w4:Int,w4=w1->(decide (w4<0)=true->z0)/\(decide (w4<0)=false->(w0/\1<=b0/\b1)/\(((x2=x2/\(∀x4:Nat,x4<x2->True/\f (x0+x4)=f (x0+x4)))/\True)/\True/\x2<=4000/\(∀y4:Nat,y4<x2->ByteArray.size (f (x0+y4))<=4000))/\(a3=true->y2=h0/\l0)/\(a3=false->d3<=9223372036854775807->((d3 !=w4)=true->o0)/\((d3 !=w4)=false->c0/\(v1->(e3/\u0/\bU W/\h3/\(∀z4:Nat,z4<b3->(-1)<=bu (f (x0+z4))/\bu (f (x0+z4))<=99999))/\fu W (λa5:Nat=>bu (f (x0+a5)))=h0/\aD {W with aa:=mZ W (λb5:Nat=>bu (f (x0+b5)))} k0 True)/\(y1->(v2->(e3/\u0/\bO W/\h3)/\iZ W (λc5:Nat=>bu (f (x0+c5)))=h0/\aD {W with af:=oz W (λd5:Nat=>bu (f (x0+d5)))} k0 True)/\(w2->(a2->tn 2 (k3/\tn 2 ((w0/\1<d3)/\tn 2 ((a1/\2<d3)/\tn 2 (((0:Int)<=3/\3<d3)/\True/\((r0/\o3/\q3=q3/\r3=r3/\u3=u3/\True)/\u0/\G1.match_1 (λe5:DF=>Prop) (DF.mk l3 q3 r3 u3 W) (λg5:Int=>λh5:Int=>λk5:Int=>λl5:Int=>λo5:Wd=>bU o5))/\gX W l3 q3 r3 u3=h0/\aD {W with aa:=rA W l3 q3 r3 u3} k0 True)))))/\(c2->(o2->(e3/\u0/\bU W/\b3=4)/\dJ W (λq5:Nat=>bu (f (x0+q5)))=h0/\aD {W with af:=kP W (λr5:Nat=>bu (f (x0+r5)))} k0 True)/\(q2->(e2->(e3/\u0/\bO W/\b3=7)/\fM W (λu5:Nat=>bu (f (x0+u5)))=h0/\aD {W with tasks:=oc W (λv5:Nat=>bu (f (x0+v5)))} k0 True)/\(g2->k3/\((r0/\o3/\True)/\u0/\tX.match_1 (λw5:mW=>Prop) (mW.mk l3 W) (λx5:Int=>λy5:Wd=>rj y5))/\
    jn W l3=h0/\aD {W with tasks:=kK W l3,aq:=kJ W l3,ready:=kM W l3} k0 True))))))))))
set_option maxHeartbeats 1000000 in
theorem Xt:aU Tryz.prog tN 42 XX:=bf (.cons (Mr.up iu) (.cons (Pd.up iu) (.cons (aax.up iu) (.cons (aaB.up iu) (.cons (acg.up iu) (.cons (XU.up iu) (.cons (Y7.up iu) (.cons (Y6.up iu) .nil)))))))) false Tryz.call42 Tryz.func42 (λ⟨_,f,W⟩=> [.inv (afO f),.cut 25 (aea W f)]) (V:=MV) (λ_=>by kernel_rfl) λ⟨n,f,W⟩ hp=>by
  dsimp only[MU]at hp
  dsimp only[MV,tn,ar]
  simp only[bn,bD,eq_self,implies_true,Bool.cond_self]
  obtain⟨hw,hm,ht,J,h2,h3⟩:=hp
  have t0:Int.toNat 0=0:=rfl
  have t1:Int.toNat 1=1:=rfl
  have t2:Int.toNat 2=2:=rfl
  have t3:Int.toNat 3=3:=rfl
  have rr:=B5 W
  have rr1:aD W W True=True:=eq_true rr
  have aeb:((f 0).toList==({data:= #[109,97,107,101]}:ByteArray).toList)=aV (f 0) lH:=rfl
  have aec:((f 0).toList==({data:= #[99,108,97,121]}:ByteArray).toList)=aV (f 0) lI:=rfl
  have afP:((f 0).toList==({data:= #[112,117,116]}:ByteArray).toList)=aV (f 0) mz:=rfl
  have aed:((f 0).toList==({data:= #[99,111,112,121]}:ByteArray).toList)=aV (f 0) my:=rfl
  have aci:((f 0).toList==({data:= #[101,110,116,101,114]}:ByteArray).toList)=aV (f 0) ni:=rfl
  have acj:((f 0).toList==({data:= #[101,113,117,105,112]}:ByteArray).toList)=aV (f 0) oA:=rfl
  have ack:((f 0).toList==({data:= #[115,116,97,114,116]}:ByteArray).toList)=aV (f 0) A8:=rfl
  simp only[t0,t1,t2,t3,aeb,aec,afP,aed,aci,acj,ack]
  refine⟨by omega,λh _=>⟨λh4=>?_,λh4=>?mk⟩,λh=>⟨⟨by omega,?lf⟩,λw hw4=>?ds⟩⟩
  · refine zh (e:=10) ?_ (by decide)
    have:Nat.beq n 5=false:=si λe=>by rw[e]at h4;cases h4
    unfold fC;rw[h,this];rfl
  case mk=>
    obtain rfl:n=5:=by have:(n:Int)=5:=by simpa using h4
                       omega
    have hA:fC 5 f=bif Nat.beq (mU (f 1)) 7 then 11 else iK 3 (λj=>f (2+j)):=by unfold fC;rw[h];rfl
    refine⟨rr,λk hk=>⟨λq=>of_decide_eq_true q,λ_=>by omega,λh5=>?_,λh5 _=>?_⟩⟩
    · rw[Bool.and_eq_true]at h5
      have av:k<7:=by have:=of_decide_eq_true h5.1;omega
      refine⟨cS (by omega) (by omega),k+1,by omega,rr,⟨by omega,λj hj=>?_⟩,by omega⟩
      rcases Nat.lt_or_ge j k with q|q
      · exact hk.2 j q
      · rw[show j=k by omega]
        have:=h5.2
        have:(!aV (mn k) (f 1))=true:=this
        simpa using this
    have hx:mU (f 1)=k:=by
      rcases Nat.lt_or_ge k 7 with q|q
      · rw[decide_eq_true (show(k:Int)<((7:Nat):Int) by omega)]at h5
        have h5:(!aV (mn k) (f 1))=false:=h5
        exact uj (p:=λj=>aV (mn j) (f 1)) hk.2 (by simpa using h5) q
      · obtain rfl:k=7:=by omega
        exact ua (p:=λj=>aV (mn j) (f 1)) hk.2
    rw[hx]at hA
    refine⟨λh6=>?_,λh6=>?_⟩
    · have h6:k=7:=by have:=eq_of_beq h6;omega
      rw[h6]at hA
      exact zh hA (by decide)
    have h6:Nat.beq k 7=false:=si λe=>by rw[e]at h6;cases h6
    rw[h6]at hA
    have hA:fC 5 f=iK 3 (λj=>f (2+j)):=hA
    refine⟨by omega,⟨by omega,λi hi=>h3 _ (by omega)⟩,λh7=>zh hA (by simpa using h7),λh7=>?_⟩
    have h7:iK 3 (λj=>f (2+j))=0:=by simpa using h7
    have hn:=JR h7
    have hn:(rB (5 -2) λg=>f (2+g))=3:=hn
    rw[hn]
    rw[h7]at hA
    have gE:ig W 5 f=bif aV (f 0) lH then dP W (bT f 2 0) (2+(mU (f 1):Int)) (bT f 2 1) (bT f 2 2)else ig W 5 f:=by rw[h];unfold ig;rw[hA,h];rfl
    have gW:jO W 5 f=bif aV (f 0) lH then sj W (bT f 2 0) (2+(mU (f 1):Int)) (bT f 2 1) (bT f 2 2)else jO W 5 f:=by rw[h];rw[uw];unfold qT;rw[hA,h];rfl
    rw[h,hx]at gE gW
    exact⟨by omega,cS (by omega) (by omega),by omega,by omega,⟨rr,hm⟩,gE.symm,pF gW.symm⟩
  case lf=>
    simp only[rr1,true_and]
    refine⟨?_,?_⟩<;>repeat' (first|(refine And.intro ?_ ?_)|intro _)
    all_goals (first|(simp[lD, *];done)|(exfalso;simp_all;done))
  subst hw4
  refine⟨λh5=>?_,λh5=>⟨by omega,⟨by omega,λi hi=>h3 _ (by omega)⟩,λh6=>?_,λh6 _=>⟨λh7=>?_,λh7=>?_⟩⟩⟩
  · exact zh (e:=11) (by unfold fC;rw[h,h5];rfl) (by decide)
  · have jx:(iK (n -1) (λj=>f (1+j))==0)=false:=by simpa using h6
    exact zh (by unfold fC;rw[h,h5,jx];rfl) (by simpa using h6)
  all_goals have jx:(iK (n -1) (λj=>f (1+j))==0)=true:=by simpa using h6
  all_goals rw[JR (eq_of_beq jx)]at h7
  · have p7:(((n -1:Nat):Int)==lD (f 0))=false:=by simpa using h7
    exact zh (e:=10) (by unfold fC;rw[h,h5,jx,p7];rfl) (by decide)
  have p7:(((n -1:Nat):Int)==lD (f 0))=true:=by simpa using h7
  have hA:(fC n f==0)=true:=by
    have:fC n f=0:=by unfold fC;rw[h,h5,jx,p7];rfl
    rw[this];rfl
  have gE:ig W n f=bif aV (f 0) lI then fu W (bT f 1)else bif aV (f 0) mz then iZ W (bT f 1)else
   bif aV (f 0) my then gX W (bT f 1 0) (bT f 1 1) (bT f 1 2) (bT f 1 3)else
   bif aV (f 0) ni then dJ W (bT f 1)else bif aV (f 0) oA then fM W (bT f 1)else jn W (bT f 1 0):=by unfold ig;rw[hA,h];rfl
  have gW:jO W n f=bif aV (f 0) lI then sf W (bT f 1)else bif aV (f 0) mz then Ac W (bT f 1)else
   bif aV (f 0) my then tR W (bT f 1 0) (bT f 1 1) (bT f 1 2) (bT f 1 3)else
   bif aV (f 0) ni then sb W (bT f 1)else bif aV (f 0) oA then rp W (bT f 1)else lR W (bT f 1 0):=by rw[uw];unfold qT;rw[hA,h];rfl
  have hn:=eq_of_beq p7
  rw[JR (eq_of_beq jx)]
  have hv:lD (f 0)=bif aV (f 0) lI||aV (f 0) mz then 3 else bif aV (f 0) my||aV (f 0) ni then 4 else bif aV (f 0) oA then 7 else bif aV (f 0) A8 then 1 else -1:=rfl
  have h5:=of_decide_eq_false h5
  generalize lD (f 0)=v at*
  refine⟨by omega,λa1=>?_,λa1=>⟨λa2=>?_,λa2=>⟨λa3=>?_,λa3=>⟨λa4=>?_,λa4=>⟨λa5=>?_,λa5=>?_⟩⟩⟩⟩⟩
  · rw[a1]at hv gE gW
    have hv:v=3:=hv
    exact⟨⟨rr,hw,by omega,λi _=>ad' _⟩,gE.symm,pF gW.symm⟩
  · rw[a1,a2]at hv gE gW
    have hv:v=3:=hv
    exact⟨⟨rr,hw.z,by omega⟩,gE.symm,pF gW.symm⟩
  · rw[a1,a2,a3]at hv gE gW
    have hv:v=4:=hv
    exact⟨by omega,by omega,by omega,by omega,⟨rr,hw⟩,gE.symm,pF gW.symm⟩
  · rw[a1,a2,a3,a4]at hv gE gW
    have hv:v=4:=hv
    exact⟨⟨rr,hw,by omega⟩,gE.symm,pF gW.symm⟩
  · rw[a1,a2,a3,a4,a5]at hv gE gW
    have hv:v=7:=hv
    exact⟨⟨rr,hw.z,by omega⟩,gE.symm,pF gW.symm⟩
  · rw[a1,a2,a3,a4,a5]at hv gE gW
    have hv:v=bif aV (f 0) A8 then 1 else -1:=hv
    have hv:v=1:=by
      cases q:aV (f 0) A8 with
      |true=>rw[q]at hv;exact hv
      |false=>rw[q]at hv;have hv:v= -1:=hv;omega
    exact⟨by omega,⟨rr,ht⟩,gE.symm,pF gW.symm⟩
end Go.Proofs.YthgmgkabnffniaaGreatDoor
set_option linter.unusedVariables false
set_option linter.unusedSimpArgs false
set_option maxRecDepth 100000
namespace Go.Proofs.YthgmgkabnffniaaGreatDoor
open Go.RowKit Go.Sy
def pv:ByteArray:={data:= #[119,111,114,108,100]}
def sM:ByteArray:={data:= #[99,111,100,101]}
def kH (s:ByteArray) (i:Nat):Nat:=gO (dt s 10 i) 32
def fc (s:ByteArray) (i k:Nat):ByteArray:=dt (dt s 10 i) 32 k
def cO (s:ByteArray):Nat->Wd
  |0=>W0
  |i+1=>bif Nat.beq i 0 then lr (kH s 0 -1) (λk=>fc s 0 (1+k))else jO (cO s i) (kH s i) (fc s i)
structure Wv (s:ByteArray):Prop where
  z:s.size<=3000
  n:1<=j9 s
  w:aV (fc s 0 0) pv=true
  p:Ge (kH s 0 -1) (λk=>fc s 0 (1+k))
  l: ∀i,1<=i->i<j9 s->aV (fc s i 0) pv=false/\aV (fc s i 0) sM=false/\ig (cO s i) (kH s i) (fc s i)=0/\bU (cO s i)/\Ad (cO s i)/\rj (cO s i)
theorem Tk (s:ByteArray) (c:Int): ∀i k,(kI s c i k).size<=s.size
  |0,_=>Nat.zero_le _
  |i+1,k=>by
   rw[kI]
   cases im s i==c&&Nat.beq k (df s c i)
   · exact Tk s c i k
   · show(s.extract (iq s c i) i).size<=_
     rw[ByteArray.size_extract];omega
theorem Ee (s:ByteArray) (c:Int) (k:Nat):(dt s c k).size<=s.size:=by
  unfold dt
  cases Nat.blt k (df s c s.size)
  · show(s.extract _ _).size<=_
    rw[ByteArray.size_extract];omega
  · exact Tk s c _ k
theorem ach (s:ByteArray) (c:Int):1<=gO s c/\gO s c<=s.size+1:=by
  unfold gO
  have:=Bk s c s.size
  omega
def afN (s:ByteArray):cG where
  σ:=Nat
  rt:= [(2,0),(3,0),(4,1),(5,0)]
  nc:= [(5,0,1),(5,1,1),(5,2,7),(5,3,20),(5,4,1),(5,5,1),(5,6,1),(5,7,1),(5,8,1),(5,9,1)]
  sh i:= [(2,de 0),(3,de 1),(4,.aO 2 0 none 0 (j9 s)),(5,de 3),(6,.v (.bool (Nat.blt 0 i))),(7,.v (.int .i64 i))]
  mh q:=(2,.row 1 (gO s 10) (sF (dt s 10)))::(3,U1 4 (cO s q)):: [(4,.row 1 (cO s q).ay (iF (cO s q).af)),(5,.row 1 (cO s q).aj (iF (cO s q).kinds)),(6,.row 7 (cO s q).al (rF λi=>pS ((cO s q).aa i))),(7,.row 20 (cO s q).aP (rF λi=>nD ((cO s q).tasks i))),(8,.row 1 (cO s q).aW (λi _=> .il 1 ((cO s q).ai i) (iF ((cO s q).lines i)))),(9,.row 1 (cO s q).aN (iF (cO s q).bits)),(10,.row 1 (cO s q).aC (iF (cO s q).ak)),(11,.row 1 (cO s q).aS (λi _=> .il 1 ((cO s q).aq i) (iF ((cO s q).ready i)))),(12,.row 1 (cO s q).aQ (λi _=> .il 4 ((cO s q).aG i) (rF λk=>kF ((cO s q).aA i k)))),(13,.row 1 (cO s q).aK (iF (cO s q).aB))]
  inv i:=i<=j9 s
  μ i:=j9 s -i
  init:=0
structure QZ where
  (s:ByteArray)
def vV:Sy.Spec:=⟨QZ,λ⟨s⟩=> [.v (.string s)],λ_=> [],λ⟨s⟩=>Wv s,λ⟨s⟩=> .tp 2 (aL [zX 0 (cO s (j9 s)),.ag 2 (aL [.v (.int .i64 0),.v (.int .i64 (-1))])]),λ⟨s⟩=>wI (cO s (j9 s)),
  λargs mem=>match args with| [a0]=>some ⟨wN (a0)⟩|_=>none⟩
def H':QZ->Prop:=λ⟨s⟩=>let a0:=decide (4000<((ByteArray.size s:Nat):Int));let b0:=True/\True;let c0:=True/\b0;let d0:=tn 8 c0;let e0:=j9 s;let g0:=cO s e0;let h0:=g0.time;let k0:=True/\((((((((((True/\False)/\False)/\False)/\False)/\False)/\False)/\False)/\False)/\False)/\False)/\0=h0;let l0:=((-1):Int)=(-1);let o0:=SV.ptr 0 0 none 0 0;let q0:=o0=o0;let r0:=SV.ptr 1 0 none 0 0;let u0:=r0=r0;let v0:=0=0;let w0:=v0/\e0=e0;let x0:=SV.ptr 3 0 none 0 0;let y0:=x0=x0;let z0:=Value.slice none 0 0=Value.slice none 0 0;let a1:=(0:Int)=0;let b1:=((((((((((True/\z0)/\z0)/\z0)/\z0)/\z0)/\z0)/\z0)/\z0)/\z0)/\z0)/\a1;let c1:=True/\a1;let d1:=c1/\a1;let e1:=gO s 10;let g1:=e1=e1/\(∀J:Nat,J<e1->True/\dt s 10 J=dt s 10 J);let k1:=0=0;let l1:=k1/\k1;let o1:=SV.aF=SV.v (Value.int IntKind.i64 0);let q1:=True/\o1;let r1:=k1/\(∀u1:Nat,u1<0->q1);let v1:=((((q1/\o1)/\o1)/\o1)/\o1)/\o1;let w1:=SV.aF=SV.v (Value.int IntKind.i64 (-1));let x1:=k1/\(∀y1:Nat,y1<0->True/\SV.aF=SV.il 1 0 (iF (λz1:Nat=>0)));let a2:=dQ.mk 0 0 0 false;let b2:=(e0:Int);let c2:=ByteArray.toList (ByteArray.mk (List.toArray [(119:UInt8),111,114,108,100]));let d2:=Int.toNat 1;let e2:=1+0;let g2:=True/\(10:Int)=0;let h2:=ByteArray.toList (ByteArray.mk (List.toArray [(99:UInt8),111,100,101]));let k2:=g0.ay;let l2:=g0.aj;let o2:=g0.al;let q2:=g0.aP;let r2:=g0.aW;let u2:=g0.aN;let v2:=g0.aC;let w2:=g0.aS;let x2:=g0.aQ;let y2:=g0.aK;tn 2 ((a0=true->(((2:Int)=2/\True)/\b0)/\d0/\b0/\(k0/\(True/\(2:Int)=0)/\l0)/\False)/\(a0=false->((s=s/\True)/\True/\
    Hx.match_1 (λz2:D3=>Prop) (D3.mk s) (λa3:ByteArray=>ByteArray.size a3<=4000))/\True/\d0/\q0/\u0/\w0/\y0/\false=Nat.blt 0 0/\0=((0:Nat):Int)/\(b1/\d1/\g1/\(((((((((((True/\l1)/\l1)/\l1)/\l1)/\l1)/\l1)/\l1)/\l1)/\l1)/\l1)/\a1)/\r1/\r1/\(k1/\(∀b3:Nat,b3<0->v1/\w1))/\(k1/\(∀c3:Nat,c3<0->(((((((((((((v1/\o1)/\o1)/\o1)/\o1)/\o1)/\w1)/\w1)/\w1)/\w1)/\o1)/\o1)/\w1)/\o1)/\o1))/\x1/\r1/\r1/\x1/\(k1/\(∀d3:Nat,d3<0->True/\SV.aF=SV.il 4 0 (rF (λe3:Nat=>kF a2))))/\r1/\True)/\0<=e0/\(∀g3:Nat,let h3:=(g3:Int);let k3:=decide (h3<b2);let l3:=dt s 10 (0+Int.toNat h3);let o3:=gO l3 32;let q3:=(o3:Int);let r3:=(0:Int)<=0/\0<q3;let u3:=ByteArray.toList (dt l3 32 0);let v3:=u3==c2;let w3:=Nat.blt 0 g3;let x3:=h3=(-1);let y3:Int:=h3+1;let z3:=ar y3=y3;let a4:=cO s g3;let b4:=z3/\(∃c4:Nat,q0/\u0/\w0/\y0/\w3=Nat.blt 0 c4/\y3=(c4:Int)/\(b1/\d1/\g1/\aD a4 (cO s c4) True)/\c4<=e0/\e0-c4<e0-g3);let d4:=Int.toNat q3-d2;let e4:=bu (dt l3 32 e2);let g4:=bu (dt l3 32 (1+1));let h4:=d4-2;let k4:=tO (λl4:Nat=>dt l3 32 (1+l4));let o4:=Int.toNat (e4*16);let q4:=Int.toNat e4;let r4:=Int.toNat g4;let u4:=(!w3)=true;let v4:=(!w3)=false;let w4:=u3==h2;let x4:=ig a4 o3 (λy4:Nat=>dt l3 32 (0+y4));let z4:=x4 !=0;let a5:=a4.ay=k2;let b5:=a4.aj=l2;let c5:=a4.al=o2;let d5:=a4.aP=q2;let e5:=a4.aW=r2;let g5:=a4.aN=u2;let h5:=a4.aC=v2;let k5:=a4.aS=w2;let l5:=a4.aQ=x2;let o5:=a4.aK=y2;g3<=e0->b2<=9223372036854775807->(k3=true->(0<=h3/\h3<b2)/\((l3=l3/\(32:Int)=32/\True)/\True/\
    EN.match_1 (λq5:yF=>Prop) (yF.mk l3 32) (λr5:ByteArray=>λu5:Int=>ByteArray.size r5<=4000))/\r3/\(v3=true->(w3=true->(((12:Int) !=0)=true->d0/\b0/\(k0/\(True/\(12:Int)=0)/\x3)/\False)/\(((12:Int) !=0)=false->b4))/\(w3=false->((0:Int)<=1/\1<=q3/\q3<=q3)/\(((d4=d4/\(∀v5:Nat,let w5:=dt l3 32 (1+v5);v5<d4->True/\w5=w5))/\True)/\True/\d4<=4000/\(∀x5:Nat,x5<d4->ByteArray.size (dt l3 32 (1+x5))<=4000)/\iK d4 (λy5:Nat=>dt l3 32 (1+y5))=0/\3<=d4/\rS e4 g4 h4 k4=true)/\d0/\(((0:Int) !=0)=true->d0/\b0/\(k0/\c1/\x3)/\False)/\(((0:Int) !=0)=false->z3/\(∃z5:Nat,q0/\u0/\w0/\y0/\true=Nat.blt 0 z5/\y3=(z5:Int)/\(b1/\d1/\g1/\aD (Wd.mk o4 (λa6:Nat=>0) q4 (λb6:Nat=>cond (Nat.beq b6 0) 5 0) o4 (λc6:Nat=>cond (Nat.beq c6 0) (bK.mk 5 0 1 0 7 0 (-1)) (bK.mk 0 0 0 0 0 0 (-1))) q4 (λd6:Nat=>aM.mk 0 0 0 0 0 0 0 0 0 0 0 (-1) (-1) (-1) (-1) 0 0 (-1) 0 0) q4 (λe6:Nat=>0) (λg6:Nat=>λh6:Nat=>0) q4 (λk6:Nat=>0) r4 (λl6:Nat=>(-1)) (Int.toNat (g4*4)) (λo6:Nat=>0) (λq6:Nat=>λr6:Nat=>0) r4 (λu6:Nat=>0) (λv6:Nat=>λw6:Nat=>a2) h4 k4 0) (cO s z5) True)/\z5<=e0/\e0-z5<e0-g3))))/\(v3=false->(u4->(((10:Int) !=0)=true->d0/\b0/\(k0/\g2/\x3)/\False)/\(((10:Int) !=0)=false->b4))/\(v4->r3/\(w4=true->False)/\(w4=false->((q0/\(o3=o3/\(∀x6:Nat,let y6:=dt l3 32 (0+x6);x6<o3->True/\y6=y6))/\True)/\aD a4 a4 True/\bU a4/\Ad a4/\rj a4/\1<=o3/\o3<=4000/\(∀z6:Nat,z6<o3->ByteArray.size (dt l3 32 (0+z6))<=4000))/\(z4=true->d0/\b0/\(k0/\(True/\x4=0)/\x3)/\False)/\(z4=false->z3/\(∃a7:Nat,q0/\u0/\w0/\y0/\w3=Nat.blt 0 a7/\y3=(a7:Int)/\(b1/\d1/\g1/\
    aD (jO a4 o3 (λb7:Nat=>dt l3 32 (0+b7))) (cO s a7) True)/\a7<=e0/\e0-a7<e0-g3))))))/\(k3=false->(u4->(((10:Int)=10/\True)/\b0)/\d0/\b0/\(k0/\g2/\l0)/\False)/\(v4->True/\c0/\d0/\b0/\((True/\((((((((((True/\v0/\a5)/\v0/\b5)/\v0/\c5)/\v0/\d5)/\v0/\e5)/\v0/\g5)/\v0/\h5)/\v0/\k5)/\v0/\l5)/\v0/\o5)/\a4.time=h0)/\c1/\l0)/\(a5/\(∀c7:Nat,c7<k2->True/\a4.af c7=g0.af c7))/\(b5/\(∀d7:Nat,d7<l2->True/\a4.kinds d7=g0.kinds d7))/\(c5/\(∀e7:Nat,e7<o2->aJ (a4.aa e7) (g0.aa e7)))/\(d5/\(∀g7:Nat,g7<q2->aI (a4.tasks g7) (g0.tasks g7)))/\(e5/\(∀h7:Nat,h7<r2->True/\a4.ai h7=g0.ai h7/\(∀k7:Nat,k7<g0.ai h7->True/\a4.lines h7 k7=g0.lines h7 k7)))/\(g5/\(∀l7:Nat,l7<u2->True/\a4.bits l7=g0.bits l7))/\(h5/\(∀o7:Nat,o7<v2->True/\a4.ak o7=g0.ak o7))/\(k5/\(∀q7:Nat,q7<w2->True/\a4.aq q7=g0.aq q7/\(∀r7:Nat,r7<g0.aq q7->True/\a4.ready q7 r7=g0.ready q7 r7)))/\(l5/\(∀u7:Nat,u7<x2->True/\a4.aG u7=g0.aG u7/\(∀v7:Nat,v7<g0.aG u7->aH (a4.aA u7 v7) (g0.aA u7 v7))))/\(o5/\(∀w7:Nat,w7<y2->True/\a4.aB w7=g0.aB w7))/\True)))))
set_option maxHeartbeats 2000000 in
theorem Zx: ∀x,vV.pre x->lY Tryz.prog tN 15 (vV.args x) (vV.mem x) (vV.res x) (vV.bI x):=λx hp=>Bl (.cons (RW.up iu) (.cons (PW.up iu) (.cons (Mi.up iu) (.cons (Y5.up iu) (.cons (QP.up iu) (.cons (Xa.up iu) (.cons Xt .nil))))))) false Tryz.func15 ((λ⟨s⟩=> [.inv (afN s)]) x) (V:=H' x) (by kernel_rfl)<|(λ⟨s⟩ hp=>by
  dsimp only[vV]at hp
  dsimp only[H',tn,ar]
  simp only[bn,bD,eq_self,implies_true,Bool.cond_self]
  obtain⟨hz,hn,hw,gP,hl⟩:=hp
  try simp only[eP]
  have tt:Int.toNat 1=1:=rfl
  have b0:Nat.blt 0 0=false:=rfl
  simp only[tt]
  refine⟨λh=>absurd (of_decide_eq_true h) (by omega),λ_=>⟨(by omega),rfl,λi hi _=>⟨λh=>?_,λh=>?_⟩⟩⟩
  · have av:i<j9 s:=by have:=of_decide_eq_true h;omega
    have c1:=ach (dt s 10 i) 32
    have c2:=Ee s 10 i
    have c3:=λk=>Ee (dt s 10 i) 32 k
    have rs:cO s (i+1)=bif Nat.beq i 0 then lr (kH s 0 -1) (λk=>fc s 0 (1+k))else jO (cO s i) (kH s i) (fc s i):=rfl
    refine⟨by omega,by omega,by omega,λJ=>⟨λh2=>?_,λh2=>?_⟩,λJ=>⟨λh2=>?_,λh2=>?_⟩⟩
    · have J:aV (fc s i 0) pv=true:=J
      have i1:1<=i:=by rcases Nat.eq_zero_or_pos i with e|e;(subst e;cases h2);exact e
      rw[(hl i i1 av).1]at J;cases J
    · obtain rfl:i=0:=by
        rcases Nat.eq_zero_or_pos i with e|e
        · exact e
        · rw[pU e]at h2;cases h2
      refine⟨by omega,gP,λh=>(by cases h),λ_=>⟨cS (by omega) (by omega),1,rfl,by omega,pF rfl,by omega,by omega⟩⟩
    · have J:aV (fc s i 0) pv=false:=J
      obtain rfl:i=0:=by
        rcases Nat.eq_zero_or_pos i with e|e
        · exact e
        · rw[pU e]at h2;cases h2
      rw[hw]at J;cases J
    · have i1:1<=i:=by rcases Nat.eq_zero_or_pos i with e|e;(subst e;cases h2);exact e
      obtain⟨l1,l2,l3,l4,l5,l6⟩:=hl i i1 av
      have rs:cO s (i+1)=jO (cO s i) (kH s i) (fc s i):=by rw[rs,si (by omega)];rfl
      refine⟨by omega,λh3=>?_,λh3=>⟨⟨B5 _,l4,l5,l6,by omega,by omega,λk _=>by have:=c3 k;omega⟩,λh4=>?_,λh4=>⟨cS (by omega) (by omega),i+1,by rw[pU i1,pU (Nat.succ_pos i)],by omega,pF rs.symm,by omega,by omega⟩⟩⟩
      · have h3:aV (fc s i 0) sM=true:=h3
        rw[l2]at h3;cases h3
      · have l3:ig (cO s i) (gO (dt s 10 i) 32) (λk=>dt (dt s 10 i) 32 k)=0:=l3
        rw[l3]at h4;cases h4
  obtain rfl:i=j9 s:=by have:=of_decide_eq_false h;omega
  refine⟨λJ=>?_,λJ=>?_⟩
  · rw[pU hn]at J;cases J
  · skip
    repeat' (first|exact trivial|rfl|exact B5 _|refine And.intro ?_ ?_|intro _)
  : ∀x,vV.pre x->H' x) x hp
end Go.Proofs.YthgmgkabnffniaaGreatDoor
set_option linter.unusedVariables false
set_option linter.unusedSimpArgs false
set_option maxRecDepth 100000
namespace Go.Proofs.YthgmgkabnffniaaGreatDoor
open Go.RowKit Go.Sy
def iY (c:Nat):List UInt8->List UInt8->List (List UInt8)
  | [],acc=> [acc.reverse]
  |x::l,acc=>bif Nat.beq x.toNat c then acc.reverse::iY c l []else iY c l (x::acc)
def ext (l:List UInt8) (a b:Nat):List UInt8:=(l.take b).drop a
theorem Ti (s:ByteArray) (a b:Nat):(s.extract a b).data.toList=ext s.data.toList a b:=by
  rw[ByteArray.data_extract,Array.toList_extract]
  unfold ext List.extract
  rw[List.drop_take]
theorem aaC {l:List UInt8} {a i:Nat} (ha:a<=i) (hi:i<l.length):ext l a (i+1)=ext l a i++ [l[i]]:=by
  unfold ext
  rw[List.take_add_one,List.drop_append_of_le_length (by rw[List.length_take];omega)]
  simp[hi]
theorem ag0 (x:UInt8) (c:Nat):(((x.toNat:Nat):Int)==((c:Nat):Int))=Nat.beq x.toNat c:=by
  cases h:Nat.beq x.toNat c with
  |true=>rw[Nat.eq_of_beq_eq_true h];exact beq_self_eq_true _
  |false=>
   refine beq_eq_false_iff_ne.2 λe=>?_
   have:x.toNat=c:=by omega
   rw[this,Nat.beq_refl]at h;cases h
def pq (s:ByteArray) (c i:Nat):List (List UInt8):=(List.range (df s c i)).map λk=>(kI s c i k).data.toList
theorem Tj (s:ByteArray) (c:Nat): ∀i,i<=s.data.toList.length->iY c s.data.toList []=pq s c i++iY c (s.data.toList.drop i) (ext s.data.toList (iq s c i) i).reverse
  |0,_=>rfl
  |i+1,h=>by
   have ih:=Tj s c i (by omega)
   have hi:i<s.data.toList.length:=by omega
   rw[ih,List.drop_eq_getElem_cons hi,iY]
   have hb:im s i=((s.data.toList[i].toNat:Nat):Int):=by
     unfold im
     rw[List.getD_eq_getElem?_getD,List.getElem?_eq_getElem hi];rfl
   have hc:=ag0 s.data.toList[i] c
   rw[<-hb]at hc
   have hp:=EP s c i
   cases q:Nat.beq s.data.toList[i].toNat c with
   |true=>
    rw[q]at hc
    have e1:df s c (i+1)=df s c i+1:=by rw[df,hc];rfl
    have e2:iq s c (i+1)=i+1:=by rw[iq,hc];rfl
    have e3:ext s.data.toList (i+1) (i+1)= []:=by
      unfold ext;exact List.drop_eq_nil_of_le (by rw[List.length_take];omega)
    have e4:pq s c (i+1)=pq s c i++ [ext s.data.toList (iq s c i) i]:=by
      unfold pq
      rw[e1,List.range_succ,List.map_append]
      congr 1
      · refine List.map_congr_left λk hk=>?_
        have hk:=List.mem_range.1 hk
        have:Nat.beq k (df s c i)=false:=by
          cases e:Nat.beq k (df s c i)with
          |false=>rfl
          |true=>have:=Nat.eq_of_beq_eq_true e;omega
        rw[kI,this,Bool.and_false];rfl
      · show[(kI s c (i+1) (df s c i)).data.toList]=_
        rw[kI,hc,Nat.beq_refl,<-Ti];rfl
    rw[e2,e3,e4]
    simp
   |false=>
    rw[q]at hc
    have e1:df s c (i+1)=df s c i:=by rw[df,hc];rfl
    have e2:iq s c (i+1)=iq s c i:=by rw[iq,hc];rfl
    have e4:pq s c (i+1)=pq s c i:=by
      unfold pq
      rw[e1]
      refine List.map_congr_left λk _=>?_
      rw[kI,hc];rfl
    rw[e2,e4,aaC hp hi]
    simp
theorem QY (s:ByteArray) (c:Nat):iY c s.data.toList []=pq s c s.size++ [(s.extract (iq s c s.size) s.size).data.toList]:=by
  have hz:s.size=s.data.toList.length:=Array.length_toList.symm
  have:=Tj s c s.size (by omega)
  rw[this,List.drop_eq_nil_of_le (by omega),iY,List.reverse_reverse,Ti]
theorem Hl (s:ByteArray) (c:Nat):gO s c=(iY c s.data.toList []).length:=by
  rw[QY,List.length_append];unfold pq;rw[List.length_map,List.length_range];rfl
theorem Hm (s:ByteArray) (c k:Nat) (h:k<(iY c s.data.toList []).length):dt s c k=⟨((iY c s.data.toList []).getD k []).toArray⟩:=by
  have hN:=Hl s c
  rw[<-hN]at h
  unfold gO at h
  have e:(dt s c k).data.toList=(iY c s.data.toList []).getD k []:=by
    rw[QY]
    unfold dt
    rcases Nat.lt_or_ge k (df s c s.size)with g|g
    · have:Nat.blt k (df s c s.size)=true:=by unfold Nat.blt;exact Nat.ble_eq_true_of_le g
      rw[this,List.getD_eq_getElem?_getD,List.getElem?_append_left (by unfold pq;rw[List.length_map,List.length_range];exact g)]
      unfold pq
      simp[g]
    · obtain rfl:k=df s c s.size:=by omega
      have:Nat.blt (df s c s.size) (df s c s.size)=false:=by
        cases e:Nat.blt (df s c s.size) (df s c s.size)with
        |false=>rfl
        |true=>unfold Nat.blt at e;have:=Nat.le_of_ble_eq_true e;omega
      rw[this,List.getD_eq_getElem?_getD,List.getElem?_append_right (by unfold pq;rw[List.length_map,List.length_range];omega)]
      unfold pq
      simp
  rw[<-e]
def bB (l:List UInt8):ByteArray:=⟨l.toArray⟩
theorem Je (a b:List UInt8):aV (bB a) (bB b)=(a==b):=by
  unfold aV
  rw[E_,E_];rfl
def xK (s:ByteArray):List (List (List UInt8)):=(iY 10 s.data.toList []).map λl=>iY 32 l []
theorem ae4 {s:ByteArray} {i:Nat} (h:i<(xK s).length):kH s i=((xK s).getD i []).length/\ ∀k,k<kH s i->fc s i k=bB (((xK s).getD i []).getD k []):=by
  unfold xK at h⊢
  rw[List.length_map]at h
  have e:(dt s 10 i).data.toList=(iY 10 s.data.toList []).getD i []:=by
    rw[show(10:Int)=((10:Nat):Int)from rfl,Hm s 10 i h]
  have e2:((iY 10 s.data.toList []).map λl=>iY 32 l []).getD i []=iY 32 ((iY 10 s.data.toList []).getD i []) []:=by
    rw[List.getD_eq_getElem?_getD,List.getD_eq_getElem?_getD,List.getElem?_map,List.getElem?_eq_getElem h];rfl
  have eN:kH s i=(iY 32 ((iY 10 s.data.toList []).getD i []) []).length:=by
    unfold kH
    rw[show(32:Int)=((32:Nat):Int)from rfl,Hl,e]
  rw[e2]
  refine⟨eN,λk hk=>?_⟩
  rw[eN,<-e]at hk
  unfold fc
  rw[show(32:Int)=((32:Nat):Int)from rfl,Hm _ 32 k hk,e];rfl
def bG (l:List (List UInt8)) (k:Nat):ByteArray:=bB (l.getD k [])
theorem ad7 {W:Wd} {l m:Nat->Int} (h: ∀k,k<3->l k=m k):fu W l=fu W m/\sf W l=sf W m:=by
  have h0:=h 0 (by decide)
  have J:=h 1 (by decide)
  have h2:=h 2 (by decide)
  have e:fu W l=fu W m:=by unfold fu Ab;rw[h0,J,h2]
  refine⟨e,?_⟩
  cases q:fu W m==0 with
  |true=>rw[E7 (by rw[e];exact q),E7 q];unfold Db;rw[h0,J,h2]
  |false=>rw[wJ (by rw[e];exact q),wJ q]
theorem ad8 {W:Wd} {l m:Nat->Int} (h: ∀k,k<4->l k=m k):dJ W l=dJ W m/\sb W l=sb W m:=by
  have h0:=h 0 (by decide)
  have J:=h 1 (by decide)
  have h2:=h 2 (by decide)
  have h3:=h 3 (by decide)
  have e:dJ W l=dJ W m:=by unfold dJ z_ mf gS;rw[h0,J,h2,h3]
  refine⟨e,?_⟩
  cases q:dJ W m==0 with
  |true=>rw[BF (by rw[e];exact q),BF q];unfold tP rn mf gS;rw[h0,J,h2,h3]
  |false=>rw[sX (by rw[e];exact q),sX q]
theorem ad9 {W:Wd} {l m:Nat->Int} (h: ∀k,k<7->l k=m k):fM W l=fM W m/\rp W l=rp W m:=by
  have h0:=h 0 (by decide)
  have J:=h 1 (by decide)
  have h2:=h 2 (by decide)
  have h3:=h 3 (by decide)
  have h4:=h 4 (by decide)
  have h5:=h 5 (by decide)
  have h6:=h 6 (by decide)
  have g:dZ W l 3=dZ W m 3:=by unfold dZ dZ dZ dZ;rw[h0,J,h2,h3]
  have e:fM W l=fM W m:=by unfold fM;rw[g,h0,h4,h5,h6]
  refine⟨e,?_⟩
  cases q:fM W m==0 with
  |true=>rw[E6 (by rw[e];exact q),E6 q];unfold Aa;rw[h0,J,h2,h3,h4,h5,h6]
  |false=>rw[yQ (by rw[e];exact q),yQ q]
theorem afJ {W:Wd} {n:Nat} {f:Nat->ByteArray} (hA:fC n f=0) (h:aV (f 0) lH=true):ig W n f=dP W (bT f 2 0) (2+(mU (f 1):Int)) (bT f 2 1) (bT f 2 2)/\jO W n f=sj W (bT f 2 0) (2+(mU (f 1):Int)) (bT f 2 1) (bT f 2 2):=by
  rw[uw];unfold ig qT;rw[hA,h];exact⟨rfl,rfl⟩
theorem afK {W:Wd} {n:Nat} {f:Nat->ByteArray} (hA:fC n f=0) (h:aV (f 0) lH=false) (h2:aV (f 0) lI=true):ig W n f=fu W (bT f 1)/\jO W n f=sf W (bT f 1):=by
  rw[uw];unfold ig qT;rw[hA,h,h2];exact⟨rfl,rfl⟩
theorem afL {W:Wd} {n:Nat} {f:Nat->ByteArray} (hA:fC n f=0) (h:aV (f 0) lH=false) (h2:aV (f 0) lI=false) (h3:aV (f 0) mz=false) (h4:aV (f 0) my=true):ig W n f=gX W (bT f 1 0) (bT f 1 1) (bT f 1 2) (bT f 1 3)/\jO W n f=tR W (bT f 1 0) (bT f 1 1) (bT f 1 2) (bT f 1 3):=by
  rw[uw];unfold ig qT;rw[hA,h,h2,h3,h4];exact⟨rfl,rfl⟩
theorem afM {W:Wd} {n:Nat} {f:Nat->ByteArray} (hA:fC n f=0) (h:aV (f 0) lH=false) (h2:aV (f 0) lI=false) (h3:aV (f 0) mz=false) (h4:aV (f 0) my=false) (h5:aV (f 0) ni=true):ig W n f=dJ W (bT f 1)/\jO W n f=sb W (bT f 1):=by
  rw[uw];unfold ig qT;rw[hA,h,h2,h3,h4,h5];exact⟨rfl,rfl⟩
theorem ad_ {W:Wd} {n:Nat} {f:Nat->ByteArray} (hA:fC n f=0) (h:aV (f 0) lH=false) (h2:aV (f 0) lI=false) (h3:aV (f 0) mz=false) (h4:aV (f 0) my=false) (h5:aV (f 0) ni=false) (h6:aV (f 0) oA=true):ig W n f=fM W (bT f 1)/\jO W n f=rp W (bT f 1):=by
  rw[uw];unfold ig qT;rw[hA,h,h2,h3,h4,h5,h6];exact⟨rfl,rfl⟩
def lf (l:List Int) (k:Nat):Int:=l.getD k 0
def Gc (W:Wd) (o:Nat) (l:Nat->Int):Int:=bif Nat.beq o 0 then dP W (l 0) (l 1) (l 2) (l 3)else bif Nat.beq o 1 then fu W l else bif Nat.beq o 2 then gX W (l 0) (l 1) (l 2) (l 3)else bif Nat.beq o 3 then dJ W l else fM W l
def zZ (W:Wd) (o:Nat) (l:Nat->Int):Wd:=bif Nat.beq o 0 then sj W (l 0) (l 1) (l 2) (l 3)else bif Nat.beq o 1 then sf W l else bif Nat.beq o 2 then tR W (l 0) (l 1) (l 2) (l 3)else bif Nat.beq o 3 then sb W l else rp W l
def WY (o:Nat):List UInt8:= [[109,97,107,101],[99,108,97,121],[99,111,112,121],[101,110,116,101,114],[101,113,117,105,112]].getD o []
def kL (o:Nat):Nat:= [5,4,5,5,8].getD o 0
def r_ (x:List UInt8):Bool:=(x== [45])||decide (0<=bu (bB x))
theorem yP (x:List UInt8):lC (bB x)=r_ x:=by
  unfold lC r_
  rw[show xS=bB [45]from rfl]
  have:=Je x [45]
  unfold aV at this
  rw[this]
def JL (w:List (List UInt8)) (o:Nat) (l:List Int):Bool:=
  Nat.blt o 5&&(w.getD 0 []==WY o)&&Nat.beq w.length (kL o)&&
  (bif Nat.beq o 0 then Nat.blt (mU (bG w 1)) 7&&dE 3 (λi=>r_ (w.getD (2+i) []))&&decide (bu (bG w 2)=lf l 0)&&decide (2+(mU (bG w 1):Int)=lf l 1)&&decide (bu (bG w 3)=lf l 2)&&decide (bu (bG w 4)=lf l 3)
  else dE (kL o -1) (λi=>r_ (w.getD (1+i) []))&&dE (kL o -1) (λi=>decide (bu (bG w (1+i))=lf l i)))
theorem yO {n:Nat} {f:Nat->ByteArray} (h: ∀i,i<n->lC (f i)=true):iK n f=0:=by unfold iK;rw[gG.2 h];rfl
theorem ae5 {W:Wd} {n o:Nat} {f:Nat->ByteArray} {w:List (List UInt8)} {l:List Int} (hn:n=w.length) (hf: ∀k,k<n->f k=bB (w.getD k [])) (h:JL w o l=true):aV (f 0) pv=false/\aV (f 0) sM=false/\ig W n f=Gc W o (lf l)/\jO W n f=zZ W o (lf l):=by
  unfold JL at h
  simp only[Bool.and_eq_true]at h
  obtain⟨⟨⟨ho,h0⟩,hl⟩,h⟩:=h
  have h0:=eq_of_beq h0
  have hl:=Nat.eq_of_beq_eq_true hl
  rw[hl]at hn
  have T: ∀b:List UInt8,0<n->aV (f 0) (bB b)=(WY o==b):=λb q=>by rw[hf 0 q,h0,Je]
  rcases o with _|_|_|_|_|o
  · obtain rfl:n=5:=hn
    have sP:aV (f 0) pv=false:=(T [119,111,114,108,100] (by decide)).trans (by decide)
    have s7:aV (f 0) sM=false:=(T [99,111,100,101] (by decide)).trans (by decide)
    have ny:aV (f 0) lH=true:=(T [109,97,107,101] (by decide)).trans (by decide)
    have pB:aV (f 0) lI=false:=(T [99,108,97,121] (by decide)).trans (by decide)
    have qU:aV (f 0) mz=false:=(T [112,117,116] (by decide)).trans (by decide)
    have qO:aV (f 0) my=false:=(T [99,111,112,121] (by decide)).trans (by decide)
    have rK:aV (f 0) ni=false:=(T [101,110,116,101,114] (by decide)).trans (by decide)
    have sQ:aV (f 0) oA=false:=(T [101,113,117,105,112] (by decide)).trans (by decide)
    refine⟨sP,s7,?_⟩
    have h:(((((Nat.blt (mU (bG w 1)) 7&&dE 3 (λi=>r_ (w.getD (2+i) [])))&&decide (bu (bG w 2)=lf l 0))&&decide (2+(mU (bG w 1):Int)=lf l 1))&&decide (bu (bG w 3)=lf l 2))&&decide (bu (bG w 4)=lf l 3))=true:=h
    simp only[Bool.and_eq_true,decide_eq_true_eq]at h
    obtain⟨⟨⟨⟨⟨k1,k2⟩,k3⟩,k4⟩,k5⟩,k6⟩:=h
    have f1:f 1=bG w 1:=hf 1 (by decide)
    have hA:fC 5 f=0:=by
      unfold fC
      rw[ny,f1]
      have:Nat.beq (mU (bG w 1)) 7=false:=si (by unfold Nat.blt at k1;have:=Nat.le_of_ble_eq_true k1;omega)
      rw[this,show Nat.beq 5 5=true from rfl]
      exact yO λi hi=>by rw[hf (2+i) (by omega),yP];exact gG.1 k2 i hi
    have b:=afJ (W:=W) hA ny
    have n0:bT f 2 0=lf l 0:=(congrArg bu (hf 2 (by decide))).trans k3
    have n1:(2+(mU (f 1):Int))=lf l 1:=by rw[f1];exact k4
    have n2:bT f 2 1=lf l 2:=(congrArg bu (hf 3 (by decide))).trans k5
    have n3:bT f 2 2=lf l 3:=(congrArg bu (hf 4 (by decide))).trans k6
    rw[n0,n1,n2,n3]at b
    exact b
  · obtain rfl:n=4:=hn
    have sP:aV (f 0) pv=false:=(T [119,111,114,108,100] (by decide)).trans (by decide)
    have s7:aV (f 0) sM=false:=(T [99,111,100,101] (by decide)).trans (by decide)
    have ny:aV (f 0) lH=false:=(T [109,97,107,101] (by decide)).trans (by decide)
    have pB:aV (f 0) lI=true:=(T [99,108,97,121] (by decide)).trans (by decide)
    have qU:aV (f 0) mz=false:=(T [112,117,116] (by decide)).trans (by decide)
    have qO:aV (f 0) my=false:=(T [99,111,112,121] (by decide)).trans (by decide)
    have rK:aV (f 0) ni=false:=(T [101,110,116,101,114] (by decide)).trans (by decide)
    have sQ:aV (f 0) oA=false:=(T [101,113,117,105,112] (by decide)).trans (by decide)
    refine⟨sP,s7,?_⟩
    have h:(dE 3 (λi=>r_ (w.getD (1+i) []))&&dE 3 (λi=>decide (bu (bG w (1+i))=lf l i)))=true:=h
    rw[Bool.and_eq_true]at h
    have k2:=gG.1 h.1
    have k3:=gG.1 h.2
    have hw:lD (f 0)=3:=by unfold lD;simp only[pB,qU,qO,rK,sQ];rfl
    have hA:fC 4 f=0:=by
      unfold fC
      rw[ny,hw,yO (n:=4 -1) (f:=λj=>f (1+j)) λi hi=>by rw[hf (1+i) (by omega),yP];exact k2 i hi];rfl
    have b:=afK (W:=W) hA ny pB
    have nk: ∀i,i<3->bT f 1 i=lf l i:=λi hi=>(congrArg bu (hf (1+i) (by omega))).trans (of_decide_eq_true (k3 i hi))
    have c:=ad7 (W:=W) (l:=bT f 1) (m:=lf l) nk
    rw[c.1,c.2]at b
    exact b
  · obtain rfl:n=5:=hn
    have sP:aV (f 0) pv=false:=(T [119,111,114,108,100] (by decide)).trans (by decide)
    have s7:aV (f 0) sM=false:=(T [99,111,100,101] (by decide)).trans (by decide)
    have ny:aV (f 0) lH=false:=(T [109,97,107,101] (by decide)).trans (by decide)
    have pB:aV (f 0) lI=false:=(T [99,108,97,121] (by decide)).trans (by decide)
    have qU:aV (f 0) mz=false:=(T [112,117,116] (by decide)).trans (by decide)
    have qO:aV (f 0) my=true:=(T [99,111,112,121] (by decide)).trans (by decide)
    have rK:aV (f 0) ni=false:=(T [101,110,116,101,114] (by decide)).trans (by decide)
    have sQ:aV (f 0) oA=false:=(T [101,113,117,105,112] (by decide)).trans (by decide)
    refine⟨sP,s7,?_⟩
    have h:(dE 4 (λi=>r_ (w.getD (1+i) []))&&dE 4 (λi=>decide (bu (bG w (1+i))=lf l i)))=true:=h
    rw[Bool.and_eq_true]at h
    have k2:=gG.1 h.1
    have k3:=gG.1 h.2
    have hw:lD (f 0)=4:=by unfold lD;simp only[pB,qU,qO,rK,sQ];rfl
    have hA:fC 5 f=0:=by
      unfold fC
      rw[ny,hw,yO (n:=5 -1) (f:=λj=>f (1+j)) λi hi=>by rw[hf (1+i) (by omega),yP];exact k2 i hi];rfl
    have b:=afL (W:=W) hA ny pB qU qO
    have nk: ∀i,i<4->bT f 1 i=lf l i:=λi hi=>(congrArg bu (hf (1+i) (by omega))).trans (of_decide_eq_true (k3 i hi))
    rw[nk 0 (by decide),nk 1 (by decide),nk 2 (by decide),nk 3 (by decide)]at b
    exact b
  · obtain rfl:n=5:=hn
    have sP:aV (f 0) pv=false:=(T [119,111,114,108,100] (by decide)).trans (by decide)
    have s7:aV (f 0) sM=false:=(T [99,111,100,101] (by decide)).trans (by decide)
    have ny:aV (f 0) lH=false:=(T [109,97,107,101] (by decide)).trans (by decide)
    have pB:aV (f 0) lI=false:=(T [99,108,97,121] (by decide)).trans (by decide)
    have qU:aV (f 0) mz=false:=(T [112,117,116] (by decide)).trans (by decide)
    have qO:aV (f 0) my=false:=(T [99,111,112,121] (by decide)).trans (by decide)
    have rK:aV (f 0) ni=true:=(T [101,110,116,101,114] (by decide)).trans (by decide)
    have sQ:aV (f 0) oA=false:=(T [101,113,117,105,112] (by decide)).trans (by decide)
    refine⟨sP,s7,?_⟩
    have h:(dE 4 (λi=>r_ (w.getD (1+i) []))&&dE 4 (λi=>decide (bu (bG w (1+i))=lf l i)))=true:=h
    rw[Bool.and_eq_true]at h
    have k2:=gG.1 h.1
    have k3:=gG.1 h.2
    have hw:lD (f 0)=4:=by unfold lD;simp only[pB,qU,qO,rK,sQ];rfl
    have hA:fC 5 f=0:=by
      unfold fC
      rw[ny,hw,yO (n:=5 -1) (f:=λj=>f (1+j)) λi hi=>by rw[hf (1+i) (by omega),yP];exact k2 i hi];rfl
    have b:=afM (W:=W) hA ny pB qU qO rK
    have nk: ∀i,i<4->bT f 1 i=lf l i:=λi hi=>(congrArg bu (hf (1+i) (by omega))).trans (of_decide_eq_true (k3 i hi))
    have c:=ad8 (W:=W) (l:=bT f 1) (m:=lf l) nk
    rw[c.1,c.2]at b
    exact b
  · obtain rfl:n=8:=hn
    have sP:aV (f 0) pv=false:=(T [119,111,114,108,100] (by decide)).trans (by decide)
    have s7:aV (f 0) sM=false:=(T [99,111,100,101] (by decide)).trans (by decide)
    have ny:aV (f 0) lH=false:=(T [109,97,107,101] (by decide)).trans (by decide)
    have pB:aV (f 0) lI=false:=(T [99,108,97,121] (by decide)).trans (by decide)
    have qU:aV (f 0) mz=false:=(T [112,117,116] (by decide)).trans (by decide)
    have qO:aV (f 0) my=false:=(T [99,111,112,121] (by decide)).trans (by decide)
    have rK:aV (f 0) ni=false:=(T [101,110,116,101,114] (by decide)).trans (by decide)
    have sQ:aV (f 0) oA=true:=(T [101,113,117,105,112] (by decide)).trans (by decide)
    refine⟨sP,s7,?_⟩
    have h:(dE 7 (λi=>r_ (w.getD (1+i) []))&&dE 7 (λi=>decide (bu (bG w (1+i))=lf l i)))=true:=h
    rw[Bool.and_eq_true]at h
    have k2:=gG.1 h.1
    have k3:=gG.1 h.2
    have hw:lD (f 0)=7:=by unfold lD;simp only[pB,qU,qO,rK,sQ];rfl
    have hA:fC 8 f=0:=by
      unfold fC
      rw[ny,hw,yO (n:=8 -1) (f:=λj=>f (1+j)) λi hi=>by rw[hf (1+i) (by omega),yP];exact k2 i hi];rfl
    have b:=ad_ (W:=W) hA ny pB qU qO rK sQ
    have nk: ∀i,i<7->bT f 1 i=lf l i:=λi hi=>(congrArg bu (hf (1+i) (by omega))).trans (of_decide_eq_true (k3 i hi))
    have c:=ad9 (W:=W) (l:=bT f 1) (m:=lf l) nk
    rw[c.1,c.2]at b
    exact b
  · exact absurd ho (by unfold Nat.blt;intro q;have:=Nat.le_of_ble_eq_true q;omega)
end Go.Proofs.YthgmgkabnffniaaGreatDoor
set_option linter.unusedVariables false
set_option linter.unusedSimpArgs false
set_option maxRecDepth 100000
namespace Go.Proofs.YthgmgkabnffniaaGreatDoor
open Go.RowKit Go.Sy
def zY (L:List (Nat×List Int)) (i:Nat):Nat:=(L.getD i (0,[])).1
def CU (L:List (Nat×List Int)) (i:Nat):Nat->Int:=lf (L.getD i (0,[])).2
def rh (W:Wd) (L:List (Nat×List Int)):Nat->Wd
  |0=>W
  |i+1=>zZ (rh W L i) (zY L i) (CU L i)
theorem ae3 {W:Wd} (h:Sx W) (hT:xJ W) (o:Nat) (l:Nat->Int):Sx (zZ W o l)/\xJ (zZ W o l):=by
  unfold zZ
  cases Nat.beq o 0 with
  |true=>exact⟨h.make _ _ _ _,hT⟩
  |false=>
   cases Nat.beq o 1 with
   |true=>exact⟨h.tu _,hT⟩
   |false=>
    cases Nat.beq o 2 with
    |true=>exact⟨h.copy _ _ _ _,hT⟩
    |false=>
     cases Nat.beq o 3 with
     |true=>exact⟨h.enter hT _,hT⟩
     |false=>exact⟨h.Jd _,hT⟩
theorem ID {W:Wd} (h:Sx W) (hT:xJ W) (L:List (Nat×List Int)): ∀i,Sx (rh W L i)/\xJ (rh W L i)
  |0=>⟨h,hT⟩
  |i+1=>ae3 (ID h hT L i).1 (ID h hT L i).2 _ _
def ri (a c:Int) (n:Nat) (D:Nat->Int):Wd:={BE a c n D with
  kinds:=λi=>bif Nat.beq i 0 then 5 else 0,aa:=λi=>bif Nat.beq i 0 then⟨5,0,1,0,7,0,-1⟩else yM}
structure kG (s:ByteArray) (T:List (List (List UInt8))) (L:List (Nat×List Int)) (a c:Int) (n:Nat):Prop where
  z:s.size<=3000
  t:xK s=T
  len:T.length=L.length+2
  e:(iY 10 s.data.toList []).getD (L.length+1) []= []
  w:(T.getD 0 []).getD 0 []= [119,111,114,108,100]
  m:(T.getD 0 []).length=n+3
  nu:dE (n+2) (λk=>r_ ((T.getD 0 []).getD (1+k) []))=true
  va:bu (bG (T.getD 0 []) 1)=a
  vc:bu (bG (T.getD 0 []) 2)=c
  b:yN a c n=false
  d:dE n (λi=>!az (bu (bG (T.getD 0 []) (3+i))) 3)=true
  o:dE L.length (λi=>JL (T.getD (i+1) []) (zY L i) (L.getD i (0,[])).2)=true
  q: ∀D,dE L.length (λi=>Gc (rh (ri a c n D) L i) (zY L i) (CU L i)==0)=true
def j7 (s:ByteArray):Nat->Int:=tO λk=>fc s 0 (1+k)
theorem kG.e0 {s:ByteArray} {T:List (List (List UInt8))} {L:List (Nat×List Int)} {a c:Int} {n:Nat} (h:kG s T L a c n):(iY 10 s.data.toList []).length=L.length+2:=by
  have:=congrArg List.length h.t
  unfold xK at this
  rw[List.length_map,h.len]at this;exact this
theorem kG.ln {s:ByteArray} {T:List (List (List UInt8))} {L:List (Nat×List Int)} {a c:Int} {n:Nat} (h:kG s T L a c n):j9 s=L.length+1:=by
  have e0:=h.e0
  have eN:gO s 10=L.length+2:=by
    rw[show(10:Int)=((10:Nat):Int)from rfl,Hl,e0]
  have eL:(dt s 10 (L.length+1)).size=0:=by
    rw[show(10:Int)=((10:Nat):Int)from rfl,Hm s 10 _ (by omega),h.e];rfl
  unfold j9
  rw[eN,show L.length+2 -1=L.length+1 by omega,eL];rfl
theorem kG.wr {s:ByteArray} {T:List (List (List UInt8))} {L:List (Nat×List Int)} {a c:Int} {n:Nat} (h:kG s T L a c n) {i:Nat} (hi:i<L.length+2):kH s i=(T.getD i []).length/\ ∀k,k<(T.getD i []).length->fc s i k=bG (T.getD i []) k:=by
  have hw:=ae4 (s:=s) (i:=i) (by rw[h.t,h.len];exact hi)
  rw[h.t]at hw
  exact⟨hw.1,λk hk=>hw.2 k (by rw[hw.1];exact hk)⟩
theorem kG.one {s:ByteArray} {T:List (List (List UInt8))} {L:List (Nat×List Int)} {a c:Int} {n:Nat} (h:kG s T L a c n):cO s 1=ri a c n (j7 s)/\Ge (kH s 0 -1) (λk=>fc s 0 (1+k))/\aV (fc s 0 0) pv=true/\ ∀i,i<n->j7 s i=bu (bG (T.getD 0 []) (3+i)):=by
  obtain⟨hN,hw⟩:=h.wr (i:=0) (by omega)
  rw[h.m]at hN hw
  have e1:bu (fc s 0 (1+0))=a:=by rw[hw 1 (by omega)];exact h.va
  have e2:bu (fc s 0 (1+1))=c:=by rw[hw 2 (by omega)];exact h.vc
  have eD: ∀i,i<n->j7 s i=bu (bG (T.getD 0 []) (3+i)):=λi hi=>by
    show bu (fc s 0 (1+(i+2)))=_
    rw[show 1+(i+2)=3+i by omega,hw (3+i) (by omega)]
  have hb:1<=n/\n<=8:=by
    have:=h.b
    unfold yN at this
    simp only[Bool.or_eq_false_iff,decide_eq_false_iff_not]at this
    omega
  refine⟨?_,⟨?_,λi hi=>?_,?_,(by rw[hN];omega),?_⟩,?_,eD⟩
  · show lr (kH s 0 -1) (λk=>fc s 0 (1+k))=_
    rw[hN]
    show ri (bu (fc s 0 (1+0))) (bu (fc s 0 (1+1))) (n+3 -1 -2) (j7 s)=_
    rw[e1,e2,show n+3 -1 -2=n by omega]
  · rw[hN];omega
  · have z:=h.z
    have a1:=Ee (dt s 10 0) 32 (1+i)
    have a2:=Ee s 10 0
    show(dt (dt s 10 0) 32 (1+i)).size<=4000
    omega
  · refine yO λi hi=>?_
    rw[hw (1+i) (by omega)]
    unfold bG
    rw[yP]
    exact gG.1 h.nu i (by omega)
  · rw[hN,show n+3 -1 -2=n by omega]
    show rS (bu (fc s 0 (1+0))) (bu (fc s 0 (1+1))) n (j7 s)=true
    rw[e1,e2]
    unfold rS E5
    rw[h.b,ua λi hi=>by rw[eD i hi];have:=gG.1 h.d i hi;rw[Bool.not_eq_true']at this;exact this]
    exact Nat.ble_eq_true_of_le (Nat.le_refl n)
  · rw[hw 0 (by omega)]
    unfold bG
    rw[h.w]
    exact(Je _ [119,111,114,108,100]).trans (by decide)
theorem kG.line {s:ByteArray} {T:List (List (List UInt8))} {L:List (Nat×List Int)} {a c:Int} {n:Nat} (h:kG s T L a c n) {i:Nat} (hi:i<L.length) (W:Wd):aV (fc s (i+1) 0) pv=false/\aV (fc s (i+1) 0) sM=false/\ig W (kH s (i+1)) (fc s (i+1))=Gc W (zY L i) (CU L i)/\jO W (kH s (i+1)) (fc s (i+1))=zZ W (zY L i) (CU L i):=by
  obtain⟨hN,hw⟩:=h.wr (i:=i+1) (by omega)
  exact ae5 hN (λk hk=>hw k (by rw[<-hN];exact hk)) (gG.1 h.o i hi)
theorem kG.at {s:ByteArray} {T:List (List (List UInt8))} {L:List (Nat×List Int)} {a c:Int} {n:Nat} (h:kG s T L a c n): ∀i,i<=L.length->cO s (i+1)=rh (ri a c n (j7 s)) L i
  |0,_=>h.one.1
  |i+1,hi=>by
   have ih:=kG.at h i (by omega)
   show jO (cO s (i+1)) (kH s (i+1)) (fc s (i+1))=_
   rw[(h.line (by omega) _).2.2.2,ih];rfl
theorem kG.sx {s:ByteArray} {T:List (List (List UInt8))} {L:List (Nat×List Int)} {a c:Int} {n:Nat} (h:kG s T L a c n) (i:Nat):Sx (rh (ri a c n (j7 s)) L i):=by
  have o:=Sx.new h.one.2.1
  have e:lr (kH s 0 -1) (λk=>fc s 0 (1+k))=ri a c n (j7 s):=h.one.1
  rw[e]at o
  exact(ID o.1 o.2 L i).1
theorem kG.rd {s:ByteArray} {T:List (List (List UInt8))} {L:List (Nat×List Int)} {a c:Int} {n:Nat} (h:kG s T L a c n):Wv s/\cO s (j9 s)=rh (ri a c n (j7 s)) L L.length:=by
  have hl:=h.ln
  refine⟨⟨h.z,by omega,h.one.2.2.1,h.one.2.1,λi J hi=>?_⟩,by rw[hl];exact h.at _ (Nat.le_refl _)⟩
  obtain⟨j,rfl⟩: ∃j,i=j+1:=⟨i -1,by omega⟩
  have hj:j<L.length:=by omega
  obtain⟨l1,l2,l3,_⟩:=h.line hj (cO s (j+1))
  have sx:=(h.sx j).1
  rw[<-h.at j (by omega)]at sx
  refine⟨l1,l2,?_,sx,sx.mkp,sx.tn⟩
  rw[l3,h.at j (by omega)]
  exact eq_of_beq (gG.1 (h.q (j7 s)) j hj)
def gy:ByteArray:={data:= #[119,111,114,108,100,32,50,52,32,50,32,48,10,99,108,97,121,32,49,32,49,32,50,48,10,109,97,107,101,32,110,111,100,101,32,49,32,49,32,50,10,109,97,107,101,32,115,112,97,99,101,32,49,32,49,32,51,10,109,97,107,101,32,116,97,98,108,101,32,49,32,49,32,52,10,109,97,107,101,32,112,97,103,101,32,49,32,52,32,53,10,109,97,107,101,32,116,97,115,107,32,49,32,50,32,57,10,109,97,107,101,32,100,111,111,114,32,49,32,49,32,49,49,10,109,97,107,101,32,98,101,108,108,32,49,32,49,32,49,50,10,99,111,112,121,32,49,49,32,49,54,32,55,32,53,10,99,111,112,121,32,49,50,32,49,55,32,55,32,50,10,99,111,112,121,32,49,48,32,49,56,32,55,32,48,10,99,111,112,121,32,55,32,49,57,32,51,32,48,10,99,111,112,121,32,51,32,50,48,32,55,32,48,10,99,111,112,121,32,52,32,50,49,32,55,32,48,10,99,111,112,121,32,50,32,50,50,32,55,32,48,10,99,111,112,121,32,57,32,50,51,32,54,32,48,10,101,110,116,101,114,32,50,32,48,32,51,32,48,10,101,110,116,101,114,32,50,32,48,32,52,32,48,10,101,110,116,101,114,32,50,32,49,32,53,32,48,10,101,110,116,101,114,32,50,32,50,32,54,32,49,10,101,113,117,105,112,32,56,32,48,32,50,32,45,32,48,32,49,32,48,10,101,113,117,105,112,32,57,32,49,32,50,32,49,48,32,49,32,50,32,48,10]}
def UX:List (List (List UInt8)):= [[[119,111,114,108,100],[50,52],[50],[48]],[[99,108,97,121],[49],[49],[50,48]],[[109,97,107,101],[110,111,100,101],[49],[49],[50]],[[109,97,107,101],[115,112,97,99,101],[49],[49],[51]],[[109,97,107,101],[116,97,98,108,101],[49],[49],[52]],[[109,97,107,101],[112,97,103,101],[49],[52],[53]],[[109,97,107,101],[116,97,115,107],[49],[50],[57]],[[109,97,107,101],[100,111,111,114],[49],[49],[49,49]],[[109,97,107,101],[98,101,108,108],[49],[49],[49,50]],[[99,111,112,121],[49,49],[49,54],[55],[53]],[[99,111,112,121],[49,50],[49,55],[55],[50]],[[99,111,112,121],[49,48],[49,56],[55],[48]],[[99,111,112,121],[55],[49,57],[51],[48]],[[99,111,112,121],[51],[50,48],[55],[48]],[[99,111,112,121],[52],[50,49],[55],[48]],[[99,111,112,121],[50],[50,50],[55],[48]],[[99,111,112,121],[57],[50,51],[54],[48]],[[101,110,116,101,114],[50],[48],[51],[48]],[[101,110,116,101,114],[50],[48],[52],[48]],[[101,110,116,101,114],[50],[49],[53],[48]],[[101,110,116,101,114],[50],[50],[54],[49]],[[101,113,117,105,112],[56],[48],[50],[45],[48],[49],[48]],[[101,113,117,105,112],[57],[49],[50],[49,48],[49],[50],[48]],[[]]]
def qR:List (Nat×List Int):= [(1,[1,1,20]),(0,[1,5,1,2]),(0,[1,4,1,3]),(0,[1,3,1,4]),(0,[1,2,4,5]),(0,[1,6,2,9]),(0,[1,7,1,11]),(0,[1,8,1,12]),(2,[11,16,7,5]),(2,[12,17,7,2]),(2,[10,18,7,0]),(2,[7,19,3,0]),(2,[3,20,7,0]),(2,[4,21,7,0]),(2,[2,22,7,0]),(2,[9,23,6,0]),(3,[2,0,3,0]),(3,[2,0,4,0]),(3,[2,1,5,0]),(3,[2,2,6,1]),(4,[8,0,2,-1,0,1,0]),(4,[9,1,2,10,1,2,0])]
set_option maxRecDepth 100000 in
theorem ae6:xK gy=UX:=by kernel_rfl
theorem ae7 (D:Nat->Int):dE qR.length (λi=>Gc (rh (ri 24 2 1 D) qR i) (zY qR i) (CU qR i)==0)=true:=by kernel_rfl
theorem E4:kG gy UX qR 24 2 1:=⟨by show 353<=3000;omega,ae6,by kernel_rfl,by kernel_rfl,by kernel_rfl,by kernel_rfl,by kernel_rfl,by kernel_rfl,by kernel_rfl,by kernel_rfl,by kernel_rfl,by kernel_rfl,ae7⟩
end Go.Proofs.YthgmgkabnffniaaGreatDoor
set_option linter.unusedVariables false
set_option linter.unusedSimpArgs false
set_option maxRecDepth 100000
namespace Go.Proofs.YthgmgkabnffniaaGreatDoor
open Go.RowKit Go.Sy
def cY (n:Nat) (l:Nat->Int) (i:Int):Int:=bif n==0 then i*31 else bR (l (i%n).toNat) 1000003+i/n*7919
theorem XZ {n:Nat} {l:Nat->Int} {i:Int} (h0:0<=i) (J:i<=1000):0<=cY n l i/\cY n l i<=9000000:=by
  unfold cY
  cases h:n==0
  · have hn:(0:Int)<n:=by have:n≠0:=by simpa using h
                          omega
    have:=jz (c:=l (i%n).toNat) (n:=1000003) (by decide)
    have d0:0<=i/n:=Int.ediv_nonneg h0 (by omega)
    have d1:i/n<=i:=Int.ediv_le_self _ h0
    simp only[cond_false]
    omega
  · simp only[cond_true];omega
structure Uz where
  (n:Nat) (l:Nat->Int) (i:Int)
def UA:Sy.Spec:=⟨Uz,λ⟨n,l,i⟩=> [.sl true 1 n (λi_ _=> .v (.int .i64 (l i_))),.v (.int .i64 i)],λ_=> [],λ⟨n,l,i⟩=>(∀k,k<n->oX (l k))/\0<=i/\i<=1000,λ⟨n,l,i⟩=> .v (.int .i64 (cY n l i)),λ_=> [],
  λargs mem=>match args with| [a0,a1]=>some ⟨bX a0,λi=>aw (bN a0 i 0),aw (a1)⟩|_=>none⟩
def afU:aT:=⟨[],(UA).g,none⟩
def UB:Uz->Prop:=λ⟨n,l,i⟩=>let a0:=(n:Int);let b0:Int:=i%a0;let c0:Int:=l (Int.toNat b0);let d0:Int:=i/a0;let e0:Int:=d0*7919;let g0:Int:=bR c0 1000003+e0;a0<=9223372036854775807->((a0==0)=true->ar (i*31)=i*31/\i*31=cY n l i/\True)/\((a0==0)=false->tn 4 ((0<=i/\0<a0)/\(0<=b0/\b0<a0)/\True/\((c0=c0/\(1000003:Int)=1000003/\True)/\True/\((-9223372036854775808)<=c0/\c0<=9223372036854775807)/\(0:Int)<1000003)/\tn 3 ((0<=i/\0<a0/\ar d0=d0)/\ar e0=e0/\ar g0=g0/\g0=cY n l i/\True)))
theorem aee:aU Tryz.prog aY 45 afU:=bf (.cons Ec .nil) false Tryz.call45 Tryz.func45 (λ_=> []) (V:=UB) (λ_=>by kernel_rfl) λ⟨n,l,i⟩ hp=>by
  dsimp only[UA]at hp
  dsimp only[UB,tn,ar]
  simp only[bn,eq_self,implies_true,Bool.cond_self]
  obtain⟨J,h2,h3⟩:=hp
  refineλ_=>⟨λh=>?_,λh=>?_⟩
  · have h0:n=0:=by simpa using h
    subst h0
    exact⟨by rw[IntKind.wrap_i64];omega,rfl⟩
  · have hn:(0:Int)<n:=by
      have:(n:Int)≠0:=by simpa using h
      omega
    have d0:0<=i/n:=Int.ediv_nonneg h2 (by omega)
    have d1:i/n<=i:=Int.ediv_le_self _ h2
    have m0:0<=i%n:=Int.emod_nonneg _ (by omega)
    have m1:i%n<n:=Int.emod_lt_of_pos _ hn
    have p:=jz (c:=l (i%n).toNat) (n:=1000003) (by decide)
    refine⟨⟨h2,hn⟩,⟨m0,m1⟩,⟨J _ (by omega),by decide⟩,⟨h2,hn,by rw[IntKind.wrap_i64];omega⟩,by rw[IntKind.wrap_i64];omega,by rw[IntKind.wrap_i64];omega,?_⟩
    unfold cY
    rw[show(n==0)=false from beq_eq_false_iff_ne.2 (by omega)]
    rfl
end Go.Proofs.YthgmgkabnffniaaGreatDoor
set_option linter.unusedVariables false
set_option linter.unusedSimpArgs false
set_option maxRecDepth 100000
namespace Go.Proofs.YthgmgkabnffniaaGreatDoor
open Go.RowKit Go.Sy
structure Aw where
  o:Int
  a:Int
  b:Int
  m:Int
def cM (x:Aw):List SV:= [.v (.int .i64 x.o),.v (.int .i64 x.a),.v (.int .i64 x.b),.v (.int .i64 x.m)]
def lq (j k cl:Int):Aw:=
  bif j==0||j==1||j==2 then⟨1,1,0,k⟩else
  bif j==3||j==4 then⟨1,2,0,k⟩else
  bif j==5 then⟨1,3,0,bR k 9⟩else
  bif j==6 then⟨1,4,0,bR k 4⟩else
  bif j==7 then⟨11,2,7,32+bR k 18⟩else
  bif j==8 then⟨10,5,7,30+bR k 20⟩else
  bif j==9 then⟨3+bR k 7,5,2,0⟩else
  bif j==10 then⟨13,0,0,2*bR k 15⟩else⟨14,0,0,bR k cl⟩
def fb (c cl:Int):Aw:=lq (bR c 16) (bR (c/16) 32) cl
def iX (n:Nat) (l:Nat->Int) (at_ cl:Int) (i:Nat):Aw:=bif Nat.blt i 15 then fb (cY n l (at_+i)) cl else⟨12,0,0,0⟩
def afT (n:Nat) (l:Nat->Int) (at_ cl:Int):cG where
  σ:=Nat
  rt:= [(7,4)]
  sh i:= [(7,.aO 0 0 none 0 i),(8,.v (.int .i64 i))]
  mh i:= [(0,.row 4 i (rF λk=>cM (fb (cY n l (at_+k)) cl)))]
  inv i:=i<=15
  μ i:=15 -i
  init:=0
theorem acn {n:Nat} {l:Nat->Int} {at_ cl:Int} {s:Nat} {x:Aw} (hs:s<15) (hx:fb (cY n l (at_+s)) cl=x): ∃y:Nat,s+1=y/\(s:Int)+1=y/\(s+1=y/\ ∀z:Nat,z<y->(((bif z.blt s then(fb (cY n l (at_+z)) cl).o else x.o)=(fb (cY n l (at_+z)) cl).o/\(bif z.blt s then(fb (cY n l (at_+z)) cl).a else x.a)=(fb (cY n l (at_+z)) cl).a)/\(bif z.blt s then(fb (cY n l (at_+z)) cl).b else x.b)=(fb (cY n l (at_+z)) cl).b)/\(bif z.blt s then(fb (cY n l (at_+z)) cl).m else x.m)=(fb (cY n l (at_+z)) cl).m)/\y<=15/\15 -y<15 -s:=by
  refine⟨s+1,rfl,rfl,⟨rfl,λz hz=>?_⟩,by omega,by omega⟩
  rcases Nat.lt_or_ge z s with h|h
  · rw[ji h];exact⟨⟨⟨rfl,rfl⟩,rfl⟩,rfl⟩
  · obtain rfl:z=s:=by omega
    rw[nv h,hx];exact⟨⟨⟨rfl,rfl⟩,rfl⟩,rfl⟩
structure MW where
  (n:Nat) (l:Nat->Int) (at_ cl:Int)
def MX:Sy.Spec:=⟨MW,λ⟨n,l,at_,cl⟩=> [.sl true 1 n (λi_ _=> .v (.int .i64 (l i_))),.v (.int .i64 at_),.v (.int .i64 cl)],λ_=> [],λ⟨n,l,at_,cl⟩=>(∀k,k<n->oX (l k))/\0<=at_/\at_<=900/\1<=cl/\cl<=100,λ_=> .aO 0 0 none 0 16,λ⟨n,l,at_,cl⟩=> [.row 4 16 (rF λi=>cM (iX n l at_ cl i))],
  λargs mem=>match args with| [a0,a1,a2]=>some ⟨bX a0,λi=>aw (bN a0 i 0),aw (a1),aw (a2)⟩|_=>none⟩
def XY:aT:=⟨[],(MX).g,none⟩
def MY:MW->Prop:=λ⟨n,l,at_,cl⟩=>let a0:=true=true;let b0:=0=0;let c0:=(9:Int)=9/\True;let d0:=(0:Int)<9;let e0:=(4:Int)=4/\True;let g0:=(0:Int)<4;let h0:=(18:Int)=18/\True;let k0:=(0:Int)<18;let l0:=(20:Int)=20/\True;let o0:=(0:Int)<20;let q0:=(7:Int)=7/\True;let r0:=(0:Int)<7;let u0:=(15:Int)=15/\True;let v0:=(0:Int)<15;let w0:=cl=cl/\True;let x0:=0<cl;(0=0/\0=0)/\0=((0:Nat):Int)/\((0=0/\(∀y0:Nat,let z0:=fb (cY n l (at_+(y0:Int))) cl;y0<0->(((True/\SV.aF=SV.v (Value.int IntKind.i64 z0.o))/\SV.aF=SV.v (Value.int IntKind.i64 z0.a))/\SV.aF=SV.v (Value.int IntKind.i64 z0.b))/\SV.aF=SV.v (Value.int IntKind.i64 z0.m)))/\True)/\0<=15/\(∀a1:Nat,let b1:=decide ((a1:Int)<15);let c1:Int:=at_+(a1:Int);let d1:=cY n l c1;let e1:Int:=d1/16;let g1:=bR d1 16;let J:=g1==0;let k1:=J=true;let l1:=a1+1;let o1:=l1*32<=140737488355328/\(∀q1:Nat,a0);let r1:Int:=(a1:Int)+1;let u1:=ar r1=r1;let v1:=bR e1 32;let w1:=15-a1;let x1:=True/\o1/\u1/\(∃y1:Nat,(b0/\l1=y1)/\r1=(y1:Int)/\((l1=y1/\(∀z1:Nat,let a2:=Nat.blt z1 a1;let b2:=fb (cY n l (at_+((0+z1:Nat):Int))) cl;let c2:=fb (cY n l (at_+(z1:Int))) cl;z1<y1->(((True/\cond a2 b2.o 1=c2.o)/\cond a2 b2.a 1=c2.a)/\cond a2 b2.b 0=c2.b)/\cond a2 b2.m v1=c2.m))/\True)/\y1<=15/\15-y1<w1);let d2:=J=false;let e2:=g1==3;let g2:=e2=true;
    let h2:=True/\o1/\u1/\(∃k2:Nat,(b0/\l1=k2)/\r1=(k2:Int)/\((l1=k2/\(∀l2:Nat,let o2:=Nat.blt l2 a1;let q2:=fb (cY n l (at_+((0+l2:Nat):Int))) cl;let r2:=fb (cY n l (at_+(l2:Int))) cl;l2<k2->(((True/\cond o2 q2.o 1=r2.o)/\cond o2 q2.a 2=r2.a)/\cond o2 q2.b 0=r2.b)/\cond o2 q2.m v1=r2.m))/\True)/\k2<=15/\15-k2<w1);let u2:=e2=false;let v2:=g1==5;let w2:=v1=v1;let x2:=(-9223372036854775808)<=v1/\v1<=9223372036854775807;let y2:=g1==6;let z2:=g1==7;let a3:Int:=32+bR v1 18;let b3:=g1==8;let c3:Int:=30+bR v1 20;let d3:=g1==9;let e3:Int:=3+bR v1 7;let g3:=g1==10;let h3:Int:=2*bR v1 15;
    let k3:=(v2=true->((w2/\c0)/\True/\x2/\d0)/\True/\o1/\u1/\(∃l3:Nat,(b0/\l1=l3)/\r1=(l3:Int)/\((l1=l3/\(∀o3:Nat,let q3:=Nat.blt o3 a1;let r3:=fb (cY n l (at_+((0+o3:Nat):Int))) cl;let u3:=fb (cY n l (at_+(o3:Int))) cl;o3<l3->(((True/\cond q3 r3.o 1=u3.o)/\cond q3 r3.a 3=u3.a)/\cond q3 r3.b 0=u3.b)/\cond q3 r3.m (bR v1 9)=u3.m))/\True)/\l3<=15/\15-l3<w1))/\(v2=false->(y2=true->((w2/\e0)/\True/\x2/\g0)/\True/\o1/\u1/\(∃v3:Nat,(b0/\l1=v3)/\r1=(v3:Int)/\((l1=v3/\(∀w3:Nat,let x3:=Nat.blt w3 a1;let y3:=fb (cY n l (at_+((0+w3:Nat):Int))) cl;let z3:=fb (cY n l (at_+(w3:Int))) cl;w3<v3->(((True/\cond x3 y3.o 1=z3.o)/\cond x3 y3.a 4=z3.a)/\cond x3 y3.b 0=z3.b)/\cond x3 y3.m (bR v1 4)=z3.m))/\True)/\v3<=15/\15-v3<w1))/\(y2=false->(z2=true->((w2/\h0)/\True/\x2/\k0)/\ar a3=a3/\True/\o1/\u1/\(∃a4:Nat,(b0/\l1=a4)/\r1=(a4:Int)/\((l1=a4/\(∀b4:Nat,let c4:=Nat.blt b4 a1;let d4:=fb (cY n l (at_+((0+b4:Nat):Int))) cl;let e4:=fb (cY n l (at_+(b4:Int))) cl;b4<a4->(((True/\cond c4 d4.o 11=e4.o)/\cond c4 d4.a 2=e4.a)/\cond c4 d4.b 7=e4.b)/\cond c4 d4.m a3=e4.m))/\True)/\a4<=15/\15-a4<w1))/\(z2=false->(b3=true->((w2/\l0)/\True/\x2/\o0)/\ar c3=c3/\True/\o1/\u1/\(∃g4:Nat,(b0/\l1=g4)/\r1=(g4:Int)/\((l1=g4/\(∀h4:Nat,let k4:=Nat.blt h4 a1;let l4:=fb (cY n l (at_+((0+h4:Nat):Int))) cl;let o4:=fb (cY n l (at_+(h4:Int))) cl;h4<g4->(((True/\cond k4 l4.o 10=o4.o)/\cond k4 l4.a 5=o4.a)/\cond k4 l4.b 7=o4.b)/\cond k4 l4.m c3=o4.m))/\True)/\g4<=15/\15-g4<w1))/\(b3=false->(d3=true->((w2/\q0)/\True/\x2/\r0)/\ar e3=e3/\True/\o1/\u1/\(∃q4:Nat,(b0/\l1=q4)/\r1=(q4:Int)/\((l1=q4/\(∀r4:Nat,let u4:=Nat.blt r4 a1;let v4:=fb (cY n l (at_+((0+r4:Nat):Int))) cl;let w4:=fb (cY n l (at_+(r4:Int))) cl;r4<q4->(((True/\cond u4 v4.o e3=w4.o)/\cond u4 v4.a 5=w4.a)/\cond u4 v4.b 2=w4.b)/\cond u4 v4.m 0=w4.m))/\True)/\q4<=15/\15-q4<w1))/\(d3=false->(g3=true->((w2/\u0)/\True/\x2/\v0)/\ar h3=h3/\True/\o1/\u1/\(∃x4:Nat,(b0/\l1=x4)/\r1=(x4:Int)/\((l1=x4/\(∀y4:Nat,let z4:=Nat.blt y4 a1;let a5:=fb (cY n l (at_+((0+y4:Nat):Int))) cl;let b5:=fb (cY n l (at_+(y4:Int))) cl;y4<x4->(((True/\cond z4 a5.o 13=b5.o)/\cond z4 a5.a 0=b5.a)/\cond z4 a5.b 0=b5.b)/\cond z4 a5.m h3=b5.m))/\True)/\x4<=15/\15-x4<w1))/\(g3=false->((w2/\w0)/\True/\x2/\x0)/\True/\o1/\u1/\(∃c5:Nat,(b0/\l1=c5)/\r1=(c5:Int)/\((l1=c5/\(∀d5:Nat,let e5:=Nat.blt d5 a1;let g5:=fb (cY n l (at_+((0+d5:Nat):Int))) cl;let h5:=fb (cY n l (at_+(d5:Int))) cl;d5<c5->(((True/\cond e5 g5.o 14=h5.o)/\cond e5 g5.a 0=h5.a)/\cond e5 g5.b 0=h5.b)/\cond e5 g5.m (bR v1 cl)=h5.m))/\True)/\c5<=15/\15-c5<w1)))))));
    let k5:=g1==4;let l5:=(g2->(g2->h2)/\(u2->k3))/\(u2->(k5=true->h2)/\(k5=false->k3));let o5:=g1==1;let q5:=o5=true;let r5:=o5=false;let u5:=g1==2;a1<=15->(b1=true->ar c1=c1/\(((n=n/\(∀v5:Nat,v5<n->True/\l v5=l v5))/\c1=c1/\True)/\True/\(∀w5:Nat,w5<n->(-9223372036854775808)<=l w5/\l w5<=9223372036854775807)/\0<=c1/\c1<=1000)/\(0<=d1/\(0:Int)<16/\ar e1=e1)/\((e1=e1/\(32:Int)=32/\True)/\True/\((-9223372036854775808)<=e1/\e1<=9223372036854775807)/\(0:Int)<32)/\((d1=d1/\(16:Int)=16/\True)/\True/\((-9223372036854775808)<=d1/\d1<=9223372036854775807)/\(0:Int)<16)/\(k1->(k1->x1)/\(d2->l5))/\(d2->(q5->(q5->x1)/\(r5->l5))/\(r5->(u5=true->x1)/\(u5=false->l5))))/\(b1=false->True/\o1/\(b0/\l1=16)/\(l1=16/\(∀x5:Nat,let y5:=Nat.blt x5 a1;let z5:=fb (cY n l (at_+((0+x5:Nat):Int))) cl;let a6:=iX n l at_ cl x5;x5<16->(((True/\cond y5 z5.o 12=a6.o)/\cond y5 z5.a 0=a6.a)/\cond y5 z5.b 0=a6.b)/\cond y5 z5.m 0=a6.m))/\True))
set_option maxHeartbeats 1000000 in
theorem Xk:aU Tryz.prog aY 17 XY:=bf (.cons Ec (.cons aee .nil)) false Tryz.call17 Tryz.func17 (λ⟨n,l,at_,cl⟩=> [.inv (afT n l at_ cl)]) (V:=MY) (λ_=>by kernel_rfl) λ⟨n,l,at_,cl⟩ hp=>by
  dsimp only[MX]at hp
  dsimp only[MY,tn,ar]
  simp only[bn,bD,eq_self,implies_true,Bool.cond_self]
  obtain⟨hl,a0,a1,c0,c1⟩:=hp
  unfold oX at hl
  refineλs hs=>⟨λh=>?_,λh=>?_⟩
  · have av:s<15:=by have:=of_decide_eq_true h;omega
    have hr:=XZ (n:=n) (l:=l) (i:=at_+s) (by omega) (by omega)
    have hk:=jz (c:=cY n l (at_+s)/16) (n:=32) (by decide)
    have hj:fb (cY n l (at_+s)) cl=lq (bR (cY n l (at_+s)) 16) (bR (cY n l (at_+s)/16) 32) cl:=rfl
    have key:=λ{x:Aw} (hx:fb (cY n l (at_+s)) cl=x)=>acn av hx
    rw[hj]at key
    refine⟨dA (by omega) (by omega),⟨hl,by omega,by omega⟩,⟨by omega,by decide,dA (by omega) (by omega)⟩,⟨by omega,by decide⟩,⟨by omega,by decide⟩,?_⟩
    generalize bR (cY n l (at_+s)) 16=j at*
    generalize bR (cY n l (at_+s)/16) 32=k at*
    have k9:=jz (c:=k) (n:=9) (by decide)
    have k4:=jz (c:=k) (n:=4) (by decide)
    have vd:=jz (c:=k) (n:=18) (by decide)
    have F9:=jz (c:=k) (n:=20) (by decide)
    have k7:=jz (c:=k) (n:=7) (by decide)
    have vb:=jz (c:=k) (n:=15) (by decide)
    have kc:=jz (c:=k) (n:=cl) (by omega)
    repeat' (first|exact trivial|rfl|(refine And.intro ?_ ?_)|(intro(h:(_:Bool)=_)))
    all_goals first
      |omega
      |exact dA (by omega) (by omega)
      |(refine key (x:=⟨_,_,_,_⟩) ?_;clear key hj hl;simp only[lq, *,Bool.or_self,Bool.or_false,Bool.or_true,Bool.true_or,Bool.false_or,cond_true,cond_false];done)
      |(exfalso;simp_all;done)
      |(refine key (x:=⟨1,3,0,bR k 9⟩) ?_;clear key hj hl;simp only[lq, *,Bool.or_self,Bool.or_false,Bool.or_true,Bool.true_or,Bool.false_or,cond_true,cond_false];done)
      |(refine key (x:=⟨1,4,0,bR k 4⟩) ?_;clear key hj hl;simp only[lq, *,Bool.or_self,Bool.or_false,Bool.or_true,Bool.true_or,Bool.false_or,cond_true,cond_false];done)
      |(refine key (x:=⟨11,2,7,32+bR k 18⟩) ?_;clear key hj hl;simp only[lq, *,Bool.or_self,Bool.or_false,Bool.or_true,Bool.true_or,Bool.false_or,cond_true,cond_false];done)
      |(refine key (x:=⟨10,5,7,30+bR k 20⟩) ?_;clear key hj hl;simp only[lq, *,Bool.or_self,Bool.or_false,Bool.or_true,Bool.true_or,Bool.false_or,cond_true,cond_false];done)
      |(refine key (x:=⟨3+bR k 7,5,2,0⟩) ?_;clear key hj hl;simp only[lq, *,Bool.or_self,Bool.or_false,Bool.or_true,Bool.true_or,Bool.false_or,cond_true,cond_false];done)
      |(refine key (x:=⟨13,0,0,2*bR k 15⟩) ?_;clear key hj hl;simp only[lq, *,Bool.or_self,Bool.or_false,Bool.or_true,Bool.true_or,Bool.false_or,cond_true,cond_false];done)
      |(refine key (x:=⟨14,0,0,bR k cl⟩) ?_;clear key hj hl;simp only[lq, *,Bool.or_self,Bool.or_false,Bool.or_true,Bool.true_or,Bool.false_or,cond_true,cond_false];done)
  obtain rfl:s=15:=by have:=of_decide_eq_false h;omega
  refine⟨by decide,rfl,rfl,λi hi=>?_⟩
  unfold iX
  rcases Nat.lt_or_ge i 15 with e|e
  · rw[ji e];exact⟨⟨⟨rfl,rfl⟩,rfl⟩,rfl⟩
  · obtain rfl:i=15:=by omega
    exact⟨⟨⟨rfl,rfl⟩,rfl⟩,rfl⟩
end Go.Proofs.YthgmgkabnffniaaGreatDoor
set_option linter.unusedVariables false
set_option linter.unusedSimpArgs false
set_option maxRecDepth 100000
namespace Go.Proofs.YthgmgkabnffniaaGreatDoor
open Go.RowKit Go.Sy
def j8 (w n:Nat) (o a b m:Nat->Int) (r:Nat->Int) (i:Nat):Int:=
  bif Nat.ble w i&&Nat.blt i (w+2*n)then bif Nat.beq ((i -w)%2) 0 then o ((i -w)/2)*256+a ((i -w)/2)*16+b ((i -w)/2)else m ((i -w)/2)%65536 else r i
theorem afQ (w:Nat) (o a b m r:Nat->Int) (i:Nat):j8 w 0 o a b m r i=r i:=by
  unfold j8
  rcases Nat.lt_or_ge i w with e|e
  · have:Nat.ble w i=false:=by
      cases q:Nat.ble w i with
      |false=>rfl
      |true=>have:=Nat.le_of_ble_eq_true q;omega
    rw[this];rfl
  · rw[Da (show w+2*0<=i by omega),Bool.and_false];rfl
theorem afR (w k:Nat) (o a b m r:Nat->Int) (i:Nat):(bif Nat.beq i (w+2*k+1)then m k%65536 else bif Nat.beq i (w+2*k)then o k*256+a k*16+b k else j8 w k o a b m r i)=j8 w (k+1) o a b m r i:=by
  rcases Decidable.em (i=w+2*k+1)with e|e
  · subst e
    rw[Nat.beq_refl]
    unfold j8
    rw[Nat.ble_eq_true_of_le (show w<=w+2*k+1 by omega),pU (show w+2*k+1<w+2*(k+1) by omega),show(w+2*k+1 -w)/2=k by omega,si (show(w+2*k+1 -w)%2≠0 by omega)];rfl
  rw[si e]
  rcases Decidable.em (i=w+2*k)with e2|e2
  · subst e2
    rw[Nat.beq_refl]
    unfold j8
    rw[Nat.ble_eq_true_of_le (show w<=w+2*k by omega),pU (show w+2*k<w+2*(k+1) by omega),show(w+2*k -w)/2=k by omega,show(w+2*k -w)%2=0 by omega];rfl
  rw[si e2]
  show j8 w k o a b m r i=j8 w (k+1) o a b m r i
  unfold j8
  have:Nat.blt i (w+2*k)=true\/(Nat.blt i (w+2*k)=false):=by cases Nat.blt i (w+2*k)<;>simp
  rcases Nat.lt_or_ge i (w+2*k)with e3|e3
  · rw[pU e3,pU (show i<w+2*(k+1) by omega)]
  · rw[Da e3,Da (show w+2*(k+1)<=i by omega)]
def CS (W:Wd) (f:Nat) (n:Nat) (o a b m:Nat->Int):Wd:={W with af:=j8 (f*16) n o a b m W.af}
def afS (W:Wd) (f n:Nat) (o a b m:Nat->Int):cG where
  σ:=Nat
  rt:= []
  sh i:= [(0,de 0),(6,.v (.int .i64 i))]
  mh i:= [(1,.row 1 W.ay (iF (j8 (f*16) i o a b m W.af)))]
  inv i:=i<=n
  μ i:=n -i
  init:=0
structure Q0 where
  (f n:Nat) (o a b m:Nat->Int) (W:Wd)
def Q1:Sy.Spec:=⟨Q0,λ⟨f,n,o,a,b,m,_⟩=> [.ptr 0 0 none 0 0,.v (.int .i64 f),.sl true 4 n (λi_ j_=>match j_ with|0=> .v (.int .i64 (o i_))|1=> .v (.int .i64 (a i_))|2=> .v (.int .i64 (b i_))|_=> .v (.int .i64 (m i_)))],λ⟨_,_,_,_,_,_,W⟩=>cP W,λ⟨f,n,o,a,b,m,W⟩=>f<=1000/\n<=1000/\f*16+2*n<=W.ay/\W.ay<=100000/\ ∀i,i<n->jT (o i) (a i) (b i) (m i)=0,λ_=> .tp 0 (aL []),λ⟨f,n,o,a,b,m,W⟩=>cP (CS W f n o a b m),
  λargs mem=>match args with| [a0,a1,a2]=>some ⟨(aw a1).toNat,bX a2,λi=>aw (bN a2 i 0),λi=>aw (bN a2 i 1),λi=>aw (bN a2 i 2),λi=>aw (bN a2 i 3),iG mem 0⟩|_=>none⟩
def acm:aT:=⟨[true],(Q1).g,none⟩
def Q2:Q0->Prop:=λ⟨f,n,o,a,b,m,W⟩=>let a0:=SV.ptr 0 0 none 0 0;let b0:=a0=a0;let c0:=f*16;let d0:=W.af;let e0:=(n:Int);let g0:Int:=(f:Int)*16;let h0:=ar g0=g0;b0/\0=((0:Nat):Int)/\aD W {W with af:=j8 c0 0 o a b m d0} True/\0<=n/\(∀k0:Nat,let l0:=(k0:Int);let o0:=decide (l0<e0);let q0:=Int.toNat l0;let r0:Int:=o q0;let u0:Int:=a q0;let v0:Int:=b q0;let w0:Int:=m q0;let x0:Int:=2*l0;let y0:=ar x0=x0;let z0:Int:=g0+x0;let a1:=ar z0=z0;let b1:Int:=z0+1;let c1:Int:=l0+1;k0<=n->e0<=9223372036854775807->(o0=true->(0<=l0/\l0<e0)/\((((((True/\r0=r0)/\u0=u0)/\v0=v0)/\w0=w0)/\True)/\True/\jT r0 u0 v0 w0=0)/\True/\(True/\True)/\tn 5 (h0/\True/\y0/\a1/\((0:Int)<=0/\0<((2:Nat):Int))/\True/\(0<=z0/\z0<((W.ay:Nat):Int))/\(∀d1:Nat,false=false)/\tn 5 (h0/\True/\y0/\a1/\ar b1=b1/\((0:Int)<=1/\1<((2:Nat):Int))/\True/\(0<=b1/\b1<((W.ay:Nat):Int))/\(∀e1:Nat,false=false)/\ar c1=c1/\(∃g1:Nat,b0/\c1=(g1:Int)/\aD {W with af:=λJ:Nat=>cond (Nat.beq J (0+Int.toNat b1)) (w0%65536) (cond (Nat.beq J (0+Int.toNat z0)) (r0*256+u0*16+v0) (j8 c0 k0 o a b m d0 J))} {W with af:=j8 c0 g1 o a b m d0} True/\g1<=n/\n-g1<n-k0))))/\(o0=false->True/\aD {W with af:=j8 c0 k0 o a b m d0} {W with af:=j8 c0 n o a b m d0} True))
set_option maxHeartbeats 1000000 in
theorem Zy:aU Tryz.prog aY 16 acm:=bf (.cons Yy .nil) false Tryz.call16 Tryz.func16 (λ⟨f,n,o,a,b,m,W⟩=> [.inv (afS W f n o a b m)]) (V:=Q2) (λ_=>by kernel_rfl) λ⟨f,n,o,a,b,m,W⟩ hp=>by
  dsimp only[Q1]at hp
  dsimp only[Q2,tn,ar,aD,aI,aJ,aH]
  simp only[bn,bD,eq_self,implies_true,Bool.cond_self]
  obtain⟨hf,hn,hr,hR,hI⟩:=hp
  refine⟨λi _=>(afQ _ _ _ _ _ _ _).symm,λk hk _=>⟨λh=>?_,λh=>?_⟩⟩
  · have av:k<n:=by have:=of_decide_eq_true h;omega
    refine⟨by omega,hI k av,cS (by omega) (by omega),cS (by omega) (by omega),cS (by omega) (by omega),⟨by omega,by omega⟩,⟨by omega,by omega⟩,cS (by omega) (by omega),cS (by omega) (by omega),cS (by omega) (by omega),cS (by omega) (by omega),⟨by omega,by omega⟩,⟨by omega,by omega⟩,cS (by omega) (by omega),k+1,rfl,λi _=>?_,by omega,by omega⟩
    rw[show((f:Int)*16+2*(k:Int)+1).toNat=f*16+2*k+1 by omega,show((f:Int)*16+2*(k:Int)).toNat=f*16+2*k by omega]
    exact afR _ _ _ _ _ _ _ _
  · obtain rfl:k=n:=by have:=of_decide_eq_false h;omega
    exactλi _=>rfl
end Go.Proofs.YthgmgkabnffniaaGreatDoor
set_option linter.unusedVariables false
set_option linter.unusedSimpArgs false
set_option maxRecDepth 100000
namespace Go.Proofs.YthgmgkabnffniaaGreatDoor
open Go.RowKit Go.Sy
end Go.Proofs.YthgmgkabnffniaaGreatDoor
set_option linter.unusedVariables false
set_option linter.unusedSimpArgs false
set_option maxRecDepth 100000
namespace Go.Proofs.YthgmgkabnffniaaGreatDoor
open Go.RowKit Go.Sy
def oZ (W:Wd):SV:= .ag 11 (aL [.sl false 1 W.ay (iF W.af),.sl false 1 W.aj (iF W.kinds),.sl false 7 W.al (rF λi=>pS (W.aa i)),.sl false 20 W.aP (rF λi=>nD (W.tasks i)),.sl false 1 W.aW (λi _=> .sl false 1 (W.ai i) (iF (W.lines i))),.sl false 1 W.aN (iF W.bits),.sl false 1 W.aC (iF W.ak),.sl false 1 W.aS (λi _=> .sl false 1 (W.aq i) (iF (W.ready i))),.sl false 1 W.aQ (λi _=> .sl false 4 (W.aG i) (rF λk=>kF (W.aA i k))),.sl false 1 W.aK (iF W.aB),.v (.int .i64 W.time)])
def oW:Wd:=⟨0,λ_=>0,0,λ_=>0,0,λ_=>zSl,0,λ_=>aM.blank,0,λ_=>0,λ_ _=>0,0,λ_=>0,0,λ_=>0,0,λ_=>0,λ_ _=>0,0,λ_=>0,λ_ _=>Am,0,λ_=>0,0⟩
def mo (e:Int) (W:Wd):Wd:=bif e==0 then W else oW
theorem Tl {e:Int} (W:Wd) (h:(e==0)=false):mo e W=oW:=by unfold mo;rw[h];rfl
theorem Q3 {e:Int} (W:Wd) (h:(e==0)=true):mo e W=W:=by unfold mo;rw[h];rfl
theorem Jl {W:Wd} (h:Sm W):Lg W:=by
  obtain⟨J,h2,h3,h4,h5,h6,h7,h8,h9,ib,fL,jM,lj⟩:=h
  exact⟨J,by omega,h3,by omega,by omega,by omega,by omega,by omega,by omega,by omega,λi hi=>by have:=fL i hi;omega,λi hi=>by have:=jM i hi;omega,λi hi=>by have:=lj i hi;omega⟩
theorem Fp {W:Wd} (h:bU W):wE W=0:=bU.iff.2 h
end Go.Proofs.YthgmgkabnffniaaGreatDoor
