/- No ring is lost: the law TopBell. -/
import Derived.Test.YthgmgkabnffniaaGreatDoorYR
import Derived.Test.YthgmgkabnffniaaGreatDoorYI
import Derived.OpenShut
import Derived.ChangeArms
import Derived.MakeChecks
import Derived.Lay
import Derived.Test.YthgmgkabnffniaaGreatDoorTie
import Derived.ChangeSame
import Derived.ChangeVars
import Derived.JoinedOf
import Derived.RowKit
import Derived.LaidLaws
import Derived.LaidHandle
import Derived.Stop.Joined
import Derived.SevenTiedAt
import Derived.OpenVars
import Derived.Test.YthgmgkabnffniaaGreatDoorCards
import Derived.Test.YthgmgkabnffniaaGreatDoorYQ
set_option linter.unusedVariables false
set_option linter.unusedSimpArgs false
set_option linter.unusedVariables false
set_option linter.unusedSimpArgs false
set_option maxRecDepth 100000
namespace Go.Proofs.YthgmgkabnffniaaGreatDoor
open Go.RowKit Go.Sy
noncomputable def aeV (n:Nat) (raw:Nat->Int) (m:Nat) (rings:Nat->Int) (late:Int):cG where
  σ:=Nat
  rt:= [(7,0),(8,0)]
  sh i:= [(7,de 0),(8,de 1),(2,.v (.int .i64 (bR late (m+1)))),(11,.v (.int .i64 (da n raw m rings late i).r)),(12,.v (.int .i64 (da n raw m rings late i).h)),(13,.v (.int .i64 i))]
  mh i:= [(1,Kz (da n raw m rings late i).w)]
  inv i:=i<=m
  μ i:=m -i
  init:=0
theorem TB.lk {W:Wd} {r h:Int} {e:Prop} (t:TB W r h e):(wE W==0&&decide (0<(W.aj:Int))&&(W.aj:Int)==((24:Nat):Int)&&(W.aC:Int)==((2:Nat):Int))=true:=by
  rw[Fp t.s,t.k,t.c];rfl
theorem TB.nt {W:Wd} {r h:Int} {e:Prop} (t:TB W r h e):W.aP=24/\W.aN=24:=by
  have z:=t.s.z
  have k:=t.k
  have a:=z.tasks
  have b:=z.bits
  omega
noncomputable def KA (n:Nat) (raw:Nat->Int) (m:Nat) (rings:Nat->Int) (late:Int) (i:Nat):tL:=rb (bR late (m+1)) i (da n raw m rings late i)
noncomputable def acV (n:Nat) (raw:Nat->Int) (m:Nat) (rings:Nat->Int) (late:Int) (i:Nat):Cut where
  σ:=Nat
  rt:= [(7,0),(8,0)]
  sh _:= [(7,de 0),(8,de 1),(2,.v (.int .i64 (bR late (m+1)))),(11,.v (.int .i64 (KA n raw m rings late i).r)),(12,.v (.int .i64 (KA n raw m rings late i).h)),(13,.v (.int .i64 i))]
  mem _:= [Kz (nN n raw 7),Kz (KA n raw m rings late i).w]
  inv _:=True
  dec _ _:=0
structure Nq where
  (n:Nat) (raw:Nat->Int) (m:Nat) (rings:Nat->Int) (late:Int)
noncomputable def Nr:Sy.Spec:=⟨Nq,λ⟨n,raw,m,rings,late⟩=> [.sl true 1 n (λi_ _=> .v (.int .i64 (raw i_))),.sl true 1 m (λi_ _=> .v (.int .i64 (rings i_))),.v (.int .i64 late)],λ_=> [],λ⟨n,raw,m,rings,late⟩=>(∀k,k<n->oX (raw k))/\(∀k,k<m->oX (rings k))/\oX late,λ_=> .v (.bool true),λ_=> [],
  λargs mem=>match args with| [a0,a1,a2]=>some ⟨bX a0,λi=>aw (bN a0 i 0),bX a1,λi=>aw (bN a1 i 0),aw (a2)⟩|_=>none⟩
noncomputable def GU:aT:=⟨[],(Nr).g,none⟩
def Ns:Nq->Prop:=λ⟨n,raw,m,rings,late⟩=>let a0:=(m:Int);let b0:=cond (decide (256<(n:Int))) true (decide (20<a0));let c0:=(0:Int)=0;let d0:=tn 10 True;let e0:=nN n raw 7;let g0:=e0.ay;let h0:=e0.aj;let k0:=e0.al;let l0:=e0.aP;let o0:=e0.aW;let q0:=e0.aN;let r0:=e0.aC;let u0:=e0.aS;let v0:=e0.aQ;let w0:=e0.aK;let x0:=e0.time;let y0:=((((((((((True/\g0=g0/\(∀z0:Nat,z0<g0->True/\e0.af z0=e0.af z0))/\h0=h0/\(∀a1:Nat,a1<h0->True/\e0.kinds a1=e0.kinds a1))/\k0=k0/\(∀b1:Nat,b1<k0->aJ (e0.aa b1) (e0.aa b1)))/\l0=l0/\(∀c1:Nat,c1<l0->aI (e0.tasks c1) (e0.tasks c1)))/\o0=o0/\(∀d1:Nat,let e1:=e0.ai d1;d1<o0->True/\e1=e1/\(∀g1:Nat,g1<e1->True/\e0.lines d1 g1=e0.lines d1 g1)))/\q0=q0/\(∀J:Nat,J<q0->True/\e0.bits J=e0.bits J))/\r0=r0/\(∀k1:Nat,k1<r0->True/\e0.ak k1=e0.ak k1))/\u0=u0/\(∀l1:Nat,let o1:=e0.aq l1;l1<u0->True/\o1=o1/\(∀q1:Nat,q1<o1->True/\e0.ready l1 q1=e0.ready l1 q1)))/\v0=v0/\(∀r1:Nat,let u1:=e0.aG r1;r1<v0->True/\u1=u1/\(∀v1:Nat,v1<u1->aH (e0.aA r1 v1) (e0.aA r1 v1))))/\w0=w0/\(∀w1:Nat,w1<w0->True/\e0.aB w1=e0.aB w1))/\x0=x0;let x1:=(r0:Int);let y1:=(0:Int) !=0;let z1:=y1=false;let a2:=tM e0 (Int.toNat 0);let b2:=a2.ay;let c2:=a2.aj;let d2:=a2.al;let e2:=a2.aP;let g2:=a2.aW;let h2:=a2.aN;let k2:=a2.aC;let l2:=a2.aS;let o2:=a2.aQ;let q2:=a2.aK;let u2:=a2.time;let v2:=(c2:Int);let w2:=(h0:Int);let x2:=(k2:Int);let y2:=cond y1 true (!(wE a2==0&&decide (0<v2)&&v2==w2&&x2==x1));let z2:=cond y2 true (a2.ak (Int.toNat 0) !=8);let a3:=false=true/\True;
    let b3:=a0<=9223372036854775807;let c3:Int:=a0+1;let d3:=SV.ptr 0 0 none 0 0;let e3:=d3=d3;let g3:=SV.ptr 1 0 none 0 0;let h3:=g3=g3;let k3:=bR late c3;let l3:=k3=k3;let o3:=tM e0 0;let q3:=o3.ay;let r3:=o3.aj;let u3:=o3.al;let v3:=o3.aP;let w3:=o3.aW;let x3:=o3.aN;let y3:=o3.aC;let z3:=o3.aS;let a4:=o3.aQ;let b4:=o3.aK;let c4:=(11:Int)=11;let d4:=(0:Int)<=8;let e4:=Int.toNat 8;let g4:=(0:Int)<=2/\2<((8:Nat):Int);let h4:=(0:Int)<=11;let k4:=Int.toNat 11;let l4:=(65536:Int)=65536/\True;let o4:=(0:Int)<65536;(n:Int)<=9223372036854775807->(b0=true->true=true/\True)/\(b0=false->(((n=n/\(∀q4:Nat,q4<n->True/\raw q4=raw q4))/\c0/\(7:Int)=7/\True)/\True/\(∀r4:Nat,r4<n->(-9223372036854775808)<=raw r4/\raw r4<=9223372036854775807)/\(((-9223372036854775808):Int)<=0/\(0:Int)<=9223372036854775807)/\bR 0 2=0/\(1:Int)<=7/\(7:Int)<=100)/\True/\d0/\((y0/\c0/\True)/\True/\Sm e0/\bU e0/\(0:Int)<=0/\0<x1)/\True/\d0/\(z1->(y0/\(((((((((((True/\b2=b2/\(∀u4:Nat,u4<b2->True/\a2.af u4=a2.af u4))/\c2=c2/\(∀v4:Nat,v4<c2->True/\a2.kinds v4=a2.kinds v4))/\d2=d2/\(∀w4:Nat,w4<d2->aJ (a2.aa w4) (a2.aa w4)))/\e2=e2/\(∀x4:Nat,x4<e2->aI (a2.tasks x4) (a2.tasks x4)))/\g2=g2/\(∀y4:Nat,let z4:=a2.ai y4;y4<g2->True/\z4=z4/\(∀a5:Nat,a5<z4->True/\a2.lines y4 a5=a2.lines y4 a5)))/\h2=h2/\(∀b5:Nat,b5<h2->True/\a2.bits b5=a2.bits b5))/\k2=k2/\(∀c5:Nat,c5<k2->True/\a2.ak c5=a2.ak c5))/\l2=l2/\(∀d5:Nat,let e5:=a2.aq d5;d5<l2->True/\e5=e5/\(∀g5:Nat,g5<e5->True/\a2.ready d5 g5=a2.ready d5 g5)))/\o2=o2/\(∀h5:Nat,let k5:=a2.aG h5;h5<o2->
    True/\k5=k5/\(∀l5:Nat,l5<k5->aH (a2.aA h5 l5) (a2.aA h5 l5))))/\q2=q2/\(∀o5:Nat,o5<q2->True/\a2.aB o5=a2.aB o5))/\u2=u2)/\True)/\True/\yb.match_1 (λq5:rD=>Prop) (rD.mk e0 a2) (λr5:Wd=>λu5:Wd=>Sm u5))/\(y2=false->(0:Int)<=0/\0<x2)/\(z2=true->a3)/\(z2=false->b3->ar c3=c3/\((late=late/\c3=c3/\True)/\True/\((-9223372036854775808)<=late/\late<=9223372036854775807)/\0<c3)/\e3/\h3/\l3/\c0/\c0/\0=((0:Nat):Int)/\(y0/\(((((((((((True/\b2=q3/\(∀v5:Nat,v5<q3->True/\a2.af v5=o3.af v5))/\c2=r3/\(∀w5:Nat,w5<r3->True/\a2.kinds w5=o3.kinds w5))/\d2=u3/\(∀x5:Nat,x5<u3->aJ (a2.aa x5) (o3.aa x5)))/\e2=v3/\(∀y5:Nat,y5<v3->aI (a2.tasks y5) (o3.tasks y5)))/\g2=w3/\(∀z5:Nat,z5<w3->True/\a2.ai z5=o3.ai z5/\(∀a6:Nat,a6<o3.ai z5->True/\a2.lines z5 a6=o3.lines z5 a6)))/\h2=x3/\(∀b6:Nat,b6<x3->True/\a2.bits b6=o3.bits b6))/\k2=y3/\(∀c6:Nat,c6<y3->True/\a2.ak c6=o3.ak c6))/\l2=z3/\(∀d6:Nat,d6<z3->True/\a2.aq d6=o3.aq d6/\(∀e6:Nat,e6<o3.aq d6->True/\a2.ready d6 e6=o3.ready d6 e6)))/\o2=a4/\(∀g6:Nat,g6<a4->True/\a2.aG g6=o3.aG g6/\(∀h6:Nat,h6<o3.aG g6->aH (a2.aA g6 h6) (o3.aA g6 h6))))/\q2=b4/\(∀k6:Nat,k6<b4->True/\a2.aB k6=o3.aB k6))/\u2=o3.time)/\True)/\0<=m/\(∀l6:Nat,let o6:=(l6:Int);let q6:=decide (o6<=a0);let r6:=da n raw m rings late l6;let u6:=r6.w;let v6:=u6.ay;let w6:=u6.aj;let x6:=u6.al;let y6:=u6.aP;let z6:=u6.aW;let a7:=u6.aN;let b7:=u6.aC;let c7:=u6.aS;let d7:=u6.aQ;let e7:=u6.aK;let g7:=u6.time;
    let h7:=((((((((((True/\v6=v6/\(∀k7:Nat,k7<v6->True/\u6.af k7=u6.af k7))/\w6=w6/\(∀l7:Nat,l7<w6->True/\u6.kinds l7=u6.kinds l7))/\x6=x6/\(∀o7:Nat,o7<x6->aJ (u6.aa o7) (u6.aa o7)))/\y6=y6/\(∀q7:Nat,q7<y6->aI (u6.tasks q7) (u6.tasks q7)))/\z6=z6/\(∀r7:Nat,let u7:=u6.ai r7;r7<z6->True/\u7=u7/\(∀v7:Nat,v7<u7->True/\u6.lines r7 v7=u6.lines r7 v7)))/\a7=a7/\(∀w7:Nat,w7<a7->True/\u6.bits w7=u6.bits w7))/\b7=b7/\(∀x7:Nat,x7<b7->True/\u6.ak x7=u6.ak x7))/\c7=c7/\(∀y7:Nat,let z7:=u6.aq y7;y7<c7->True/\z7=z7/\(∀a8:Nat,a8<z7->True/\u6.ready y7 a8=u6.ready y7 a8)))/\d7=d7/\(∀b8:Nat,let c8:=u6.aG b8;b8<d7->True/\c8=c8/\(∀d8:Nat,d8<c8->aH (u6.aA b8 d8) (u6.aA b8 d8))))/\e7=e7/\(∀e8:Nat,e8<e7->True/\u6.aB e8=u6.aB e8))/\g7=g7;let g8:=Sm u6;let h8:=bU u6;let k8:=iW u6 8 11;let l8:=k8.ay;let o8:=k8.aj;let q8:=k8.al;let r8:=k8.aP;let u8:=k8.aW;let v8:=k8.aN;let w8:=k8.aC;let x8:=k8.aS;let y8:=k8.aQ;let z8:=k8.aK;let a9:=k8.time;
    let b9:=((((((((((True/\l8=l8/\(∀c9:Nat,c9<l8->True/\k8.af c9=k8.af c9))/\o8=o8/\(∀d9:Nat,d9<o8->True/\k8.kinds d9=k8.kinds d9))/\q8=q8/\(∀e9:Nat,e9<q8->aJ (k8.aa e9) (k8.aa e9)))/\r8=r8/\(∀g9:Nat,g9<r8->aI (k8.tasks g9) (k8.tasks g9)))/\u8=u8/\(∀h9:Nat,let k9:=k8.ai h9;h9<u8->True/\k9=k9/\(∀l9:Nat,l9<k9->True/\k8.lines h9 l9=k8.lines h9 l9)))/\v8=v8/\(∀o9:Nat,o9<v8->True/\k8.bits o9=k8.bits o9))/\w8=w8/\(∀q9:Nat,q9<w8->True/\k8.ak q9=k8.ak q9))/\x8=x8/\(∀r9:Nat,let u9:=k8.aq r9;r9<x8->True/\u9=u9/\(∀v9:Nat,v9<u9->True/\k8.ready r9 v9=k8.ready r9 v9)))/\y8=y8/\(∀w9:Nat,let x9:=k8.aG w9;w9<y8->True/\x9=x9/\(∀y9:Nat,y9<x9->aH (k8.aA w9 y9) (k8.aA w9 y9))))/\z8=z8/\(∀z9:Nat,z9<z8->True/\k8.aB z9=k8.aB z9))/\a9=a9;let nO:=(o8:Int);let CF:=cond y1 true (!(wE k8==0&&decide (0<nO)&&nO==w2&&(w8:Int)==x1));let me:=d4/\8<(r8:Int);let d10:=k8.tasks e4;let rX:=d10.st;let g10:=rX==1;let ib:=(o6==a0)=true;let VG:=h4/\11<(v8:Int);let VH:=d10.r2;let VI:=k8.bits k4;let FQ:=r6.r;let KB:=(o6==a0)=false;let KC:=0<=o6/\o6<a0;let v10:Int:=rings (Int.toNat o6);let KD:=(v10=v10/\l4)/\True/\((-9223372036854775808)<=v10/\v10<=9223372036854775807)/\o4;let xB:=bR v10 65536;let VJ:=c4/\xB=xB/\True;let KE:=(b9/\VJ)/\True/\Sm k8/\bU k8/\dD k8 11 xB=0;let bS:=jN k8 11 xB;let zF:=bS.ay;let xC:=bS.aj;let d11:=bS.al;let rY:=bS.aP;let g11:=bS.aW;let fL:=bS.aN;let xD:=bS.aC;let zG:=bS.aS;let zH:=bS.aQ;let zI:=bS.aK;let CG:=bS.time;
    let VK:=(y0/\(((((((((((True/\zF=zF/\(∀v11:Nat,v11<zF->True/\bS.af v11=bS.af v11))/\xC=xC/\(∀KF:Nat,KF<xC->True/\bS.kinds KF=bS.kinds KF))/\d11=d11/\(∀KH:Nat,KH<d11->aJ (bS.aa KH) (bS.aa KH)))/\rY=rY/\(∀KI:Nat,KI<rY->aI (bS.tasks KI) (bS.tasks KI)))/\g11=g11/\(∀CH:Nat,let a12:=bS.ai CH;CH<g11->True/\a12=a12/\(∀KJ:Nat,KJ<a12->True/\bS.lines CH KJ=bS.lines CH KJ)))/\fL=fL/\(∀KL:Nat,KL<fL->True/\bS.bits KL=bS.bits KL))/\xD=xD/\(∀d12:Nat,d12<xD->True/\bS.ak d12=bS.ak d12))/\zG=zG/\(∀FR:Nat,let g12:=bS.aq FR;FR<zG->True/\g12=g12/\(∀jM:Nat,jM<g12->True/\bS.ready FR jM=bS.ready FR jM)))/\zH=zH/\(∀FT:Nat,let KM:=bS.aG FT;FT<zH->True/\KM=KM/\(∀KN:Nat,KN<KM->aH (bS.aA FT KN) (bS.aA FT KN))))/\zI=zI/\(∀KO:Nat,KO<zI->True/\bS.aB KO=bS.aB KO))/\CG=CG)/\True)/\True/\yb.match_1 (λr12:rD=>Prop) (rD.mk e0 bS) (λu12:Wd=>λv12:Wd=>Sm v12);let VL:=(xC:Int);let VM:=cond y1 true (!(wE bS==0&&decide (0<VL)&&VL==w2&&(xD:Int)==x1));let VN:=VM=true;let z12:=VM=false;let VO:=rX==6;let VP:=VO=true;let xF:Int:=o6+1;let d13:=ar xF=xF;let CI:=dq BinOp.or IntKind.i64 FQ xB;let g13:=m-l6;
    let lj:=(d4/\8<(rY:Int))/\g4/\d13/\(∃FU:Nat,let KP:=da n raw m rings late FU;let gk:=KP.w;let VQ:=gk.ay;let VR:=gk.aj;let VS:=gk.al;let VT:=gk.aP;let VU:=gk.aW;let VV:=gk.aN;let VW:=gk.aC;let KR:=gk.aS;let VX:=gk.aQ;let VY:=gk.aK;e3/\h3/\l3/\CI=KP.r/\(bS.tasks e4).r2=KP.h/\xF=(FU:Int)/\(y0/\(((((((((((True/\zF=VQ/\(∀KT:Nat,KT<VQ->True/\bS.af KT=gk.af KT))/\xC=VR/\(∀d14:Nat,d14<VR->True/\bS.kinds d14=gk.kinds d14))/\d11=VS/\(∀CJ:Nat,CJ<VS->aJ (bS.aa CJ) (gk.aa CJ)))/\rY=VT/\(∀g14:Nat,g14<VT->aI (bS.tasks g14) (gk.tasks g14)))/\g11=VU/\(∀oY:Nat,oY<VU->True/\bS.ai oY=gk.ai oY/\(∀KU:Nat,KU<gk.ai oY->True/\bS.lines oY KU=gk.lines oY KU)))/\fL=VV/\(∀KV:Nat,KV<VV->True/\bS.bits KV=gk.bits KV))/\xD=VW/\(∀KW:Nat,KW<VW->True/\bS.ak KW=gk.ak KW))/\zG=KR/\(∀zJ:Nat,zJ<KR->True/\bS.aq zJ=gk.aq zJ/\(∀KX:Nat,KX<gk.aq zJ->True/\bS.ready zJ KX=gk.ready zJ KX)))/\zH=VX/\(∀zK:Nat,zK<VX->True/\bS.aG zK=gk.aG zK/\(∀KY:Nat,KY<gk.aG zK->aH (bS.aA zK KY) (gk.aA zK KY))))/\zI=VY/\(∀KZ:Nat,KZ<VY->True/\bS.aB KZ=gk.aB KZ))/\CG=gk.time)/\True)/\FU<=m/\m-FU<g13);let VZ:=VO=false;let FV:=r6.h;let K0:=(h4/\11<(a7:Int))/\(dq BinOp.or IntKind.i64 FV (u6.bits k4)==FQ)=true/\True;let cb:=jN u6 11 xB;let CK:=cb.ay;let zL:=cb.aj;let d15:=cb.al;let zM:=cb.aP;let g15:=cb.aW;let nP:=cb.aN;
    let vb:=cb.aC;let CL:=cb.aS;let CM:=cb.aQ;let CN:=cb.aK;let FW:=cb.time;let V0:=(zL:Int);let V1:=cond y1 true (!(wE cb==0&&decide (0<V0)&&V0==w2&&(vb:Int)==x1));let V2:=(u6.tasks e4).st==6;l6<=m->b3->(q6=true->((o6==k3)=true->((h7/\(8:Int)=8/\c4/\True)/\True/\g8/\h8/\gC u6 8 11=0)/\True/\d0/\(z1->(y0/\b9/\True)/\True/\yb.match_1 (λx15:rD=>Prop) (rD.mk e0 k8) (λy15:Wd=>λV3:Wd=>Sm V3))/\(CF=true->a3)/\(CF=false->d0/\me/\(g10=true->me/\g4/\(b3->(ib->VG/\(dq BinOp.or IntKind.i64 VH VI==FQ)=true/\True)/\(KB->KC/\KD/\me/\KE/\True/\d0/\(z1->VK)/\(VN->a3)/\(z12->d0/\(VP->lj)/\(VZ->d13/\(∃FX:Nat,let K1:=da n raw m rings late FX;let gl:=K1.w;let d16:=gl.ay;let rZ:=gl.aj;let g16:=gl.al;let xG:=gl.aP;let V4:=gl.aW;let V5:=gl.aN;let V6:=gl.aC;let V7:=gl.aS;let V8:=gl.aQ;let u16:=gl.aK;e3/\h3/\l3/\CI=K1.r/\VH=K1.h/\xF=(FX:Int)/\(y0/\(((((((((((True/\zF=d16/\(∀K2:Nat,K2<d16->True/\bS.af K2=gl.af K2))/\xC=rZ/\(∀K3:Nat,K3<rZ->True/\bS.kinds K3=gl.kinds K3))/\d11=g16/\(∀K4:Nat,K4<g16->aJ (bS.aa K4) (gl.aa K4)))/\rY=xG/\(∀K5:Nat,K5<xG->aI (bS.tasks K5) (gl.tasks K5)))/\g11=V4/\(∀zN:Nat,zN<V4->True/\bS.ai zN=gl.ai zN/\(∀K6:Nat,K6<gl.ai zN->True/\bS.lines zN K6=gl.lines zN K6)))/\fL=V5/\(∀K7:Nat,K7<V5->True/\bS.bits K7=gl.bits K7))/\xD=V6/\(∀K8:Nat,K8<V6->True/\bS.ak K8=gl.ak K8))/\zG=V7/\(∀d17:Nat,d17<V7->True/\
    bS.aq d17=gl.aq d17/\(∀K9:Nat,K9<gl.aq d17->True/\bS.ready d17 K9=gl.ready d17 K9)))/\zH=V8/\(∀g17:Nat,g17<V8->True/\bS.aG g17=gl.aG g17/\(∀CO:Nat,CO<gl.aG g17->aH (bS.aA g17 CO) (gl.aA g17 CO))))/\zI=u16/\(∀K_:Nat,K_<u16->True/\bS.aB K_=gl.aB K_))/\CG=gl.time)/\True)/\FX<=m/\m-FX<g13))))))/\(g10=false->b3->(ib->VG/\(dq BinOp.or IntKind.i64 FV VI==FQ)=true/\True)/\(KB->KC/\KD/\me/\KE/\True/\d0/\(z1->VK)/\(VN->a3)/\(z12->d0/\(VP->lj)/\(VZ->d13/\(∃FY:Nat,let La:=da n raw m rings late FY;let gm:=La.w;let V9:=gm.ay;let V_:=gm.aj;let V':=gm.al;let Wa:=gm.aP;let Wb:=gm.aW;let Wc:=gm.aN;let We:=gm.aC;let Lb:=gm.aS;let Wf:=gm.aQ;let Wg:=gm.aK;e3/\h3/\l3/\CI=La.r/\FV=La.h/\xF=(FY:Int)/\(y0/\(((((((((((True/\zF=V9/\(∀d18:Nat,d18<V9->True/\bS.af d18=gm.af d18))/\xC=V_/\(∀Lc:Nat,Lc<V_->True/\bS.kinds Lc=gm.kinds Lc))/\d11=V'/\(∀g18:Nat,g18<V'->aJ (bS.aa g18) (gm.aa g18)))/\rY=Wa/\(∀CP:Nat,CP<Wa->aI (bS.tasks CP) (gm.tasks CP)))/\g11=Wb/\(∀vd:Nat,vd<Wb->True/\bS.ai vd=gm.ai vd/\(∀Ld:Nat,Ld<gm.ai vd->True/\bS.lines vd Ld=gm.lines vd Ld)))/\fL=Wc/\(∀Le:Nat,Le<Wc->True/\bS.bits Le=gm.bits Le))/\xD=We/\(∀Lf:Nat,Lf<We->True/\bS.ak Lf=gm.ak Lf))/\zG=Lb/\(∀zO:Nat,zO<Lb->True/\bS.aq zO=gm.aq zO/\(∀Lh:Nat,Lh<gm.aq zO->True/\bS.ready zO Lh=gm.ready zO Lh)))/\zH=Wf/\(∀zP:Nat,zP<Wf->True/\
    bS.aG zP=gm.aG zP/\(∀Li:Nat,Li<gm.aG zP->aH (bS.aA zP Li) (gm.aA zP Li))))/\zI=Wg/\(∀Lj:Nat,Lj<Wg->True/\bS.aB Lj=gm.aB Lj))/\CG=gm.time)/\True)/\FY<=m/\m-FY<g13)))))))/\((o6==k3)=false->b3->(ib->K0)/\(KB->KC/\KD/\(d4/\8<(y6:Int))/\((h7/\VJ)/\True/\g8/\h8/\dD u6 11 xB=0)/\True/\d0/\(z1->(y0/\(((((((((((True/\CK=CK/\(∀Lk:Nat,Lk<CK->True/\cb.af Lk=cb.af Lk))/\zL=zL/\(∀Ll:Nat,Ll<zL->True/\cb.kinds Ll=cb.kinds Ll))/\d15=d15/\(∀Lm:Nat,Lm<d15->aJ (cb.aa Lm) (cb.aa Lm)))/\zM=zM/\(∀Ln:Nat,Ln<zM->aI (cb.tasks Ln) (cb.tasks Ln)))/\g15=g15/\(∀FZ:Nat,let d19:=cb.ai FZ;FZ<g15->True/\d19=d19/\(∀Lo:Nat,Lo<d19->True/\cb.lines FZ Lo=cb.lines FZ Lo)))/\nP=nP/\(∀g19:Nat,g19<nP->True/\cb.bits g19=cb.bits g19))/\vb=vb/\(∀CQ:Nat,CQ<vb->True/\cb.ak CQ=cb.ak CQ))/\CL=CL/\(∀F3:Nat,let Lp:=cb.aq F3;F3<CL->True/\Lp=Lp/\(∀Lq:Nat,Lq<Lp->True/\cb.ready F3 Lq=cb.ready F3 Lq)))/\CM=CM/\(∀F6:Nat,let Lr:=cb.aG F6;F6<CM->True/\Lr=Lr/\(∀Ls:Nat,Ls<Lr->aH (cb.aA F6 Ls) (cb.aA F6 Ls))))/\CN=CN/\(∀Lt:Nat,Lt<CN->True/\cb.aB Lt=cb.aB Lt))/\FW=FW)/\True)/\True/\yb.match_1 (λw19:rD=>Prop) (rD.mk e0 cb) (λx19:Wd=>λy19:Wd=>Sm y19))/\(V1=true->a3)/\(V1=false->d0/\(V2=true->(d4/\8<(zM:Int))/\g4/\d13/\(∃F7:Nat,let a20:=da n raw m rings late F7;let gn:=a20.w;let Wh:=gn.ay;let d20:=gn.aj;let Wi:=gn.al;let g20:=gn.aP;let F8:=gn.aW;let F9:=gn.aN;
    let Wj:=gn.aC;let Wk:=gn.aS;let Wl:=gn.aQ;let Wm:=gn.aK;e3/\h3/\l3/\CI=a20.r/\(cb.tasks e4).r2=a20.h/\xF=(F7:Int)/\(y0/\(((((((((((True/\CK=Wh/\(∀Lu:Nat,Lu<Wh->True/\cb.af Lu=gn.af Lu))/\zL=d20/\(∀v20:Nat,v20<d20->True/\cb.kinds v20=gn.kinds v20))/\d15=Wi/\(∀Lv:Nat,Lv<Wi->aJ (cb.aa Lv) (gn.aa Lv)))/\zM=g20/\(∀Lw:Nat,Lw<g20->aI (cb.tasks Lw) (gn.tasks Lw)))/\g15=F8/\(∀zQ:Nat,zQ<F8->True/\cb.ai zQ=gn.ai zQ/\(∀z20:Nat,z20<gn.ai zQ->True/\cb.lines zQ z20=gn.lines zQ z20)))/\nP=F9/\(∀a21:Nat,a21<F9->True/\cb.bits a21=gn.bits a21))/\vb=Wj/\(∀Lx:Nat,Lx<Wj->True/\cb.ak Lx=gn.ak Lx))/\CL=Wk/\(∀zR:Nat,zR<Wk->True/\cb.aq zR=gn.aq zR/\(∀d21:Nat,d21<gn.aq zR->True/\cb.ready zR d21=gn.ready zR d21)))/\CM=Wl/\(∀zS:Nat,zS<Wl->True/\cb.aG zS=gn.aG zS/\(∀g21:Nat,g21<gn.aG zS->aH (cb.aA zS g21) (gn.aA zS g21))))/\CN=Wm/\(∀Ly:Nat,Ly<Wm->True/\cb.aB Ly=gn.aB Ly))/\FW=gn.time)/\True)/\F7<=m/\m-F7<g13))/\(V2=false->d13/\(∃F_:Nat,let Lz:=da n raw m rings late F_;let gp:=Lz.w;let Wn:=gp.ay;let Wo:=gp.aj;let Wp:=gp.al;let v21:=gp.aP;let Wq:=gp.aW;let Ws:=gp.aN;let Wt:=gp.aC;let z21:=gp.aS;let a22:=gp.aQ;let Wu:=gp.aK;e3/\h3/\l3/\CI=Lz.r/\FV=Lz.h/\xF=(F_:Int)/\(y0/\(((((((((((True/\CK=Wn/\(∀LA:Nat,LA<Wn->True/\cb.af LA=gp.af LA))/\zL=Wo/\(∀d22:Nat,d22<Wo->True/\cb.kinds d22=gp.kinds d22))/\d15=Wp/\(∀LB:Nat,LB<Wp->
    aJ (cb.aa LB) (gp.aa LB)))/\zM=v21/\(∀g22:Nat,g22<v21->aI (cb.tasks g22) (gp.tasks g22)))/\g15=Wq/\(∀zT:Nat,zT<Wq->True/\cb.ai zT=gp.ai zT/\(∀Ga:Nat,Ga<gp.ai zT->True/\cb.lines zT Ga=gp.lines zT Ga)))/\nP=Ws/\(∀LC:Nat,LC<Ws->True/\cb.bits LC=gp.bits LC))/\vb=Wt/\(∀LD:Nat,LD<Wt->True/\cb.ak LD=gp.ak LD))/\CL=z21/\(∀zU:Nat,zU<z21->True/\cb.aq zU=gp.aq zU/\(∀LF:Nat,LF<gp.aq zU->True/\cb.ready zU LF=gp.ready zU LF)))/\CM=a22/\(∀zV:Nat,zV<a22->True/\cb.aG zV=gp.aG zV/\(∀v22:Nat,v22<gp.aG zV->aH (cb.aA zV v22) (gp.aA zV v22))))/\CN=Wu/\(∀LG:Nat,LG<Wu->True/\cb.aB LG=gp.aB LG))/\FW=gp.time)/\True)/\F_<=m/\m-F_<g13))))))/\(q6=false->K0))))
set_option maxHeartbeats 2000000 in
theorem XD:aU Tryz.prog tN 3 GU:=bf (.cons Zu (.cons (aa'.up iu) (.cons (XE.up iu) (.cons (aba.up iu) (.cons (abb.up iu) (.cons (Ec.up iu) .nil)))))) false Tryz.call3 Tryz.func3 (λ⟨n,raw,m,rings,late⟩=> [.Jo (aeV n raw m rings late) λi=> [.cut 19 (acV n raw m rings late i)]]) (V:=Ns) (λ_=>by kernel_rfl) λ⟨n,raw,m,rings,late⟩ hp=>by
  dsimp only[Nr]at hp
  dsimp only[Ns,tn,ar]
  simp only[bn,bD,eq_self,implies_true,Bool.cond_self]
  obtain⟨hr,hg,hl⟩:=hp
  have t0:Int.toNat 0=0:=rfl
  have t8:Int.toNat 8=8:=rfl
  have t11:Int.toNat 11=11:=rfl
  have t2:Int.toNat 2=2:=rfl
  have se: ∀a:bK,aJ a a=True:=λa=>eq_true (by repeat' (first|exact trivial|rfl|refine And.intro ?_ ?_))
  have re: ∀a:aM,aI a a=True:=λa=>eq_true (by repeat' (first|exact trivial|rfl|refine And.intro ?_ ?_))
  have ee: ∀a:dQ,aH a a=True:=λa=>eq_true (by repeat' (first|exact trivial|rfl|refine And.intro ?_ ?_))
  have z0:((0:Int) !=0)=false:=rfl
  have hB:=Ry (n:=n) (l:=raw) (cl:=7) (by decide)
  obtain⟨cB,kB⟩:=TX n raw 7
  have T0:=tb0 n raw
  have av:0<=bR late (m+1)/\bR late (m+1)<m+1:=jz (by omega)
  have Gb: ∀i,0<=bR (rings i) 65536/\bR (rings i) 65536<=65535:=λi=>by have:=jz (c:=rings i) (n:=65536) (by decide);omega
  have TS: ∀i,i<=m->TB (da n raw m rings late i).w (da n raw m rings late i).r (da n raw m rings late i).h ((i:Int)<=bR late (m+1)):=λi hi=>Rz T0 av.1 (λi _=>Gb i) i hi
  have l0:=T0.lk
  have c8:(tM (nN n raw 7) 0).ak 0=8:=by
    rcases T0.a with a|a|a
    · exact a.2.2.2.2.2.2
    · exact absurd trivial a.1
    · exact absurd trivial a.1
  have q8:((tM (nN n raw 7) 0).ak 0 !=8)=false:=by rw[c8];rfl
  simp only[t0,t8,t11,t2,se,re,ee,z0,kB,cB,l0,q8,implies_true,and_self,true_and,and_true,Bool.false_or,Bool.or_false,Bool.not_true,forall_const,Bool.false_eq_true,false_implies]
  intro _ h0
  have aiG:m<=20:=by
    rw[Bool.or_eq_false_iff,decide_eq_false_iff_not,decide_eq_false_iff_not]at h0;omega
  refine⟨⟨hr,by decide,rfl,by omega,by omega⟩,⟨hB.1.sm,hB.1,by omega,by omega⟩,T0.s.sm,⟨by omega,by rw[T0.c];omega⟩,λ_=>⟨cS (by omega) (by omega),⟨hl,by omega⟩,λi hi _=>⟨λ_=>?lp,λh=>absurd (of_decide_eq_false h) (by omega)⟩⟩⟩
  have S:=TS i hi
  obtain⟨L1,L2⟩:=RA S
  obtain⟨R1,R2⟩:=RB L2 (Gb i)
  have eS:da n raw m rings late (i+1)=rf (bR (rings i) 65536) (rb (bR late (m+1)) i (da n raw m rings late i)):=rfl
  refine⟨λhq=>?_,λhq=>?_⟩
  · have eL:rb (bR late (m+1)) i (da n raw m rings late i)=⟨iW (da n raw m rings late i).w 8 11,(da n raw m rings late i).r,bif ((iW (da n raw m rings late i).w 8 11).tasks 8).st==1 then((iW (da n raw m rings late i).w 8 11).tasks 8).r2 else(da n raw m rings late i).h⟩:=by unfold rb;rw[hq];rfl
    rw[eL]at L2 R1 R2 eS
    have L2:TB (iW (da n raw m rings late i).w 8 11) (da n raw m rings late i).r (bif ((iW (da n raw m rings late i).w 8 11).tasks 8).st==1 then((iW (da n raw m rings late i).w 8 11).tasks 8).r2 else(da n raw m rings late i).h) ((i:Int)+1<=bR late (m+1)):=L2
    have R1:dD (iW (da n raw m rings late i).w 8 11) 11 (bR (rings i) 65536)=0:=R1
    have lL:=L2.lk
    have nL:=L2.nt
    have R3:=R2.lk
    change (wE (jN (iW (da n raw m rings late i).w 8 11) 11 (bR (rings i) 65536))==0&&decide (0<((jN (iW (da n raw m rings late i).w 8 11) 11 (bR (rings i) 65536)).aj:Int))&&((jN (iW (da n raw m rings late i).w 8 11) 11 (bR (rings i) 65536)).aj:Int)==((24:Nat):Int)&&((jN (iW (da n raw m rings late i).w 8 11) 11 (bR (rings i) 65536)).aC:Int)==((2:Nat):Int))=true at R3
    have nR:=R2.nt
    change (jN (iW (da n raw m rings late i).w 8 11) 11 (bR (rings i) 65536)).aP=24/\(jN (iW (da n raw m rings late i).w 8 11) 11 (bR (rings i) 65536)).aN=24 at nR
    have sr:=S.r0
    have np:=Gb i
    simp only[lL,R3,implies_true,and_self,true_and,and_true,Bool.false_or,Bool.or_false,Bool.not_true,forall_const,Bool.false_eq_true,false_implies]
    have eE:=L1 (eq_of_beq hq)
    refine⟨⟨S.s.sm,S.s,eE⟩,L2.s.sm,⟨by omega,by rw[nL.1];omega⟩,λbC=>⟨⟨by omega,by rw[nL.1];omega⟩,⟨by omega,by omega⟩,?_⟩,λbC=>?_⟩
    · intro _
      refine⟨λhm=>?_,λhm=>?_⟩
      · have hm:=eq_of_beq hm
        refine⟨⟨by omega,by rw[nL.2];omega⟩,?_⟩
        have fin:=(L2.cg (e':=False) ⟨λz=>by omega,λz=>z.elim⟩).fin
        have xH:=L2.h0
        have b0:=L2.b0
        rw[bC]at fin xH
        refine beq_iff_eq.2 ((rR xH.1 (by omega) b0.1 (by omega)).trans fin)
      · have hm:(i:Int)≠m:=beq_eq_false_iff_ne.1 hm
        refine⟨by omega,⟨hg i (by omega),by decide⟩,⟨by omega,by rw[nL.1];omega⟩,⟨L2.s.sm,L2.s,R1⟩,R2.s.sm,λh6=>⟨⟨by omega,by rw[nR.1];omega⟩,⟨by omega,by omega⟩,?_⟩,λh6=>?_⟩
        · refine⟨cS (by omega) (by omega),i+1,?_,?_,by omega,?_,by omega,by omega⟩
          · rw[eS];exact rR sr.1 (by omega) np.1 (by omega)
          · rw[eS];unfold rf;simp only[bC,h6,cond_true,cond_false]
          · rw[eS]
            repeat' (first|exact trivial|rfl|refine And.intro ?_ ?_|intro _)
        · refine⟨cS (by omega) (by omega),i+1,?_,?_,by omega,?_,by omega,by omega⟩
          · rw[eS];exact rR sr.1 (by omega) np.1 (by omega)
          · rw[eS];unfold rf;simp only[bC,h6,cond_true,cond_false]
          · rw[eS]
            repeat' (first|exact trivial|rfl|refine And.intro ?_ ?_|intro _)
    · intro _
      refine⟨λhm=>?_,λhm=>?_⟩
      · have hm:=eq_of_beq hm
        refine⟨⟨by omega,by rw[nL.2];omega⟩,?_⟩
        have fin:=(L2.cg (e':=False) ⟨λz=>by omega,λz=>z.elim⟩).fin
        have xH:=L2.h0
        have b0:=L2.b0
        rw[bC]at fin xH
        refine beq_iff_eq.2 ((rR xH.1 (by omega) b0.1 (by omega)).trans fin)
      · have hm:(i:Int)≠m:=beq_eq_false_iff_ne.1 hm
        refine⟨by omega,⟨hg i (by omega),by decide⟩,⟨by omega,by rw[nL.1];omega⟩,⟨L2.s.sm,L2.s,R1⟩,R2.s.sm,λh6=>⟨⟨by omega,by rw[nR.1];omega⟩,⟨by omega,by omega⟩,?_⟩,λh6=>?_⟩
        · refine⟨cS (by omega) (by omega),i+1,?_,?_,by omega,?_,by omega,by omega⟩
          · rw[eS];exact rR sr.1 (by omega) np.1 (by omega)
          · rw[eS];unfold rf;simp only[bC,h6,cond_true,cond_false]
          · rw[eS]
            repeat' (first|exact trivial|rfl|refine And.intro ?_ ?_|intro _)
        · refine⟨cS (by omega) (by omega),i+1,?_,?_,by omega,?_,by omega,by omega⟩
          · rw[eS];exact rR sr.1 (by omega) np.1 (by omega)
          · rw[eS];unfold rf;simp only[bC,h6,cond_true,cond_false]
          · rw[eS]
            repeat' (first|exact trivial|rfl|refine And.intro ?_ ?_|intro _)
  · have eL:rb (bR late (m+1)) i (da n raw m rings late i)=da n raw m rings late i:=by unfold rb;rw[hq];rfl
    rw[eL]at L2 R1 R2 eS
    have L2:TB (da n raw m rings late i).w (da n raw m rings late i).r (da n raw m rings late i).h ((i:Int)+1<=bR late (m+1)):=L2
    have R1:dD (da n raw m rings late i).w 11 (bR (rings i) 65536)=0:=R1
    have lL:=L2.lk
    have nL:=L2.nt
    have R3:=R2.lk
    change (wE (jN (da n raw m rings late i).w 11 (bR (rings i) 65536))==0&&decide (0<((jN (da n raw m rings late i).w 11 (bR (rings i) 65536)).aj:Int))&&((jN (da n raw m rings late i).w 11 (bR (rings i) 65536)).aj:Int)==((24:Nat):Int)&&((jN (da n raw m rings late i).w 11 (bR (rings i) 65536)).aC:Int)==((2:Nat):Int))=true at R3
    have nR:=R2.nt
    change (jN (da n raw m rings late i).w 11 (bR (rings i) 65536)).aP=24/\(jN (da n raw m rings late i).w 11 (bR (rings i) 65536)).aN=24 at nR
    have sr:=S.r0
    have np:=Gb i
    simp only[lL,R3,implies_true,and_self,true_and,and_true,Bool.false_or,Bool.or_false,Bool.not_true,forall_const,Bool.false_eq_true,false_implies]
    intro _
    refine⟨λhm=>?_,λhm=>?_⟩
    · have hm:=eq_of_beq hm
      refine⟨⟨by omega,by rw[nL.2];omega⟩,?_⟩
      have fin:=(L2.cg (e':=False) ⟨λz=>by omega,λz=>z.elim⟩).fin
      have xH:=L2.h0
      have b0:=L2.b0
      refine beq_iff_eq.2 ((rR xH.1 (by omega) b0.1 (by omega)).trans fin)
    · have hm:(i:Int)≠m:=beq_eq_false_iff_ne.1 hm
      refine⟨by omega,⟨hg i (by omega),by decide⟩,⟨by omega,by rw[nL.1];omega⟩,⟨L2.s.sm,L2.s,R1⟩,R2.s.sm,λh6=>⟨⟨by omega,by rw[nR.1];omega⟩,⟨by omega,by omega⟩,?_⟩,λh6=>?_⟩
      · refine⟨cS (by omega) (by omega),i+1,?_,?_,by omega,?_,by omega,by omega⟩
        · rw[eS];exact rR sr.1 (by omega) np.1 (by omega)
        · rw[eS];unfold rf;simp only[h6,cond_true,cond_false]
        · rw[eS]
          repeat' (first|exact trivial|rfl|refine And.intro ?_ ?_|intro _)
      · refine⟨cS (by omega) (by omega),i+1,?_,?_,by omega,?_,by omega,by omega⟩
        · rw[eS];exact rR sr.1 (by omega) np.1 (by omega)
        · rw[eS];unfold rf;simp only[h6,cond_true,cond_false]
        · rw[eS]
          repeat' (first|exact trivial|rfl|refine And.intro ?_ ?_|intro _)
end Go.Proofs.YthgmgkabnffniaaGreatDoor
namespace Go.Proofs.YthgmgkabnffniaaGreatDoor
open Go.ChangeShapes Go.WideShapes Go.RowKit Go.Sy
theorem K.own:ownKnob Tryz.prog.godebug=none:=by kernel_rfl
theorem K.et : Tryz.prog.globalNamed "errors.errorType" = some 0 := by kernel_rfl
theorem K.rt : (Tryz.prog.cutTypes.find? (·.1 == "internal/reflectlite.rtype")).map (·.2) = some 136 := by kernel_rfl
theorem K.aeu:((List.range Tryz.prog.types.size).filter λt=>Tryz.prog.rowNamed t [101,114,114,111,114])= [31]:=by kernel_rfl
theorem K.handle {laid : List (String × DataW Unit)} {W : World} (h : laidMetH Tryz.prog laid W) (hm : ("errors.errorType", Rows.laid_errors_errorType) ∈ laid) : W.cell? ⟨0, 0, none⟩ = some A.C2 := by
 have hf : ("errors.errorType", Rows.laid_errors_errorType) ∈ laid.filter fun x => x.2.handleName?.isSome := List.mem_filter.2 ⟨hm, by rfl⟩
 unfold laidMetH at h
 split at h
 · next e=>rw[e]at hf;cases hf
 next x r e=>
 rw[e]at hf
 obtain⟨name,u,ty,e1,e2,e3,e4,e5⟩:=h.2 _ hf
 have en:name= [101,114,114,111,114]:=(Option.some.inj e1).symm
 subst en
 obtain rfl:=Option.some.inj (K.rt.symm.trans e2)
 have hm:ty∈(List.range Tryz.prog.types.size).filter λt=>Tryz.prog.rowNamed t [101,114,114,111,114]:=List.mem_filter.2 ⟨List.mem_range.2 e3,e4⟩
 rw[K.aeu]at hm
 obtain rfl:=List.mem_singleton.1 hm
 have hh:typeHandle Tryz.prog 31= .pointer (some ⟨3,31,none⟩):=by kernel_rfl
 rw[hh]at e5
 unfold A.C2
 simpa using World.var?_cell K.et e5 0
noncomputable def K.world (os:Os):World:=
  let w0:=World.holding Tryz.prog os ⟨#[],#[],[]⟩
  {w0 with heap:=w0.heap.modify 0 λ
   | .cells _ t frozen=> .cells #[A.C2] t frozen
   |o=>o}
theorem K.laidOut:laidOutB Tryz.prog=true:=by kernel_rfl
theorem K.trodAll {H:Type} {enc:TypeId×Value->H} {P:Program} (hl:laidOutB P=true) {W W':World} (hb:Below W.heap.size W W'): ∀{ts:List TypeId} {vs:List Value} {ds:List (DataW H)} {ps:List MemPlace},
    (ts.all λt=>P.readableRec t&&decide (t<P.types.size))=true->DataW.TrodAll enc P W 0 (λ_=>true) true ts vs ds ps->(∀x∈ps,x.block<W.heap.size)->DataW.TrodAll enc P W' 0 (λb=>decide (b<W.heap.size)) true ts vs ds ps
  | [],[],[],_,_,h,_=>h
  |t::ts,v::vs,d::ds,ps,hr,⟨p,q,J,h2,e⟩,av=>by
   subst e
   simp only[List.all_cons,Bool.and_eq_true,decide_eq_true_eq]at hr
   exact⟨p,q,Below.trod hl hr.1.1 hr.1.2 J hb (λx hx=>av x (List.mem_append_left _ hx)),K.trodAll hl hb hr.2 h2 (λx hx=>av x (List.mem_append_right _ hx)),rfl⟩
theorem K.underlying4:Tryz.prog.underlying 4=some .bool:=by kernel_rfl
theorem K.len {H:Type} {enc:TypeId×Value->H} {P:Program} {w:World} {base:Nat} {spare:Nat->Bool} {held:Bool}: ∀{ts:List TypeId} {vs:List Value} {ds:List (DataW H)} {ps:List MemPlace},DataW.TrodAll enc P w base spare held ts vs ds ps->ds.length=ts.length
  | [],[],[],_,_=>rfl
  |_::_,_::_,_::_,_,⟨_,_,_,h,_⟩=>by simp[K.len h]
theorem K.aa_ {ps:Array TypeId} (h:(ps.toList.all λt=>!Tryz.prog.wantsStandIn t)=true) {j:Nat} {t:TypeId} (ht:ps[j]? =some t):Tryz.prog.wantsStandIn t=false:=by
  have:=List.all_eq_true.1 h t (by rw[Array.mem_toList_iff];exact Array.mem_of_getElem? ht)
  simpa using this
set_option maxRecDepth 100000 in
theorem K.lift {f:FuncId} {fn:Func} {s:ChangeSpec} {X:World->Prop} (hX: ∀(w w':World),w.heap=w'.heap->X w->X w') (os:Os) (started:os.Started) (H:Type) (enc:TypeId×Value->H)
    (aev:Tryz.checked.prog.inits.idxOf? f=none) (mJ:Tryz.checked.prog.funcs[f]? =some fn)
    (hs: ∀ds:List (DataW H),ds.length=fn.params.toList.length->s.fn H (ds++ [])={results:= [.lit (.bool true)],args:=ds}) (hv:s.vars= []) (hr:fn.resultTypes= #[4])
    (gM:(fn.params.toList.all λt=>Tryz.prog.readableRec t&&decide (t<Tryz.prog.types.size))=true)
    (witness: ∃(w:World) (tape:Tape) (i:Input),w.os=os/\(w.forCall tape i).Shaped Tryz.prog/\i.vars= []/\Input.okWide Tryz.prog (w.forCall tape i) .any w.heap.size f i/\
      ((s.pre enc Tryz.prog fn [] false (w.forCall tape i).memory i.args/\X (w.forCall tape i).memory)/\sizedMet enc Tryz.prog fn (OpenSpec.ofChange s) false (w.forCall tape i).memory i.args)/\({}:Assume).holds Tryz.prog (lone (Frame.enter Tryz.prog f i.args .normal) [] (w.forCall tape i)))
    (aaH: ∀(W:World) (base:Nat) (args:Array Value) (ds:List (DataW H)) (p:List MemPlace),
     (∀(j:Nat) t v,fn.params[j]? =some t->args[j]? =some v->Value.okWide Tryz.prog W .any base t v)->
     DataW.TrodAll enc Tryz.prog W 0 (λ_=>true) true fn.params.toList args.toList ds p->X W->(∀x∈p,x.block<W.heap.size)->
     Calls Tryz.prog f args W λe W'=>e= .returned (.bool true)/\Below W.heap.size W W'):
    ReturnsInHanded {} Tryz.checked os f .any (λw args=>(s.pre enc Tryz.prog fn [] false w args/\X w)/\sizedMet enc Tryz.prog fn (OpenSpec.ofChange s) false w args) (s.post enc Tryz.prog fn false true false false):=by
  refine returnsInHanded_of_change_and (C:=Tryz.checked) (X:=λw _=>X w) (λw w' _ hh h=>hX w w' hh h) K.own started aev mJ witness ?_
  intro W base args ds gs before BZ hW _ _ hL _
  have WZ:=hW
  obtain⟨p,q,hA,hV,rfl,hfz,_⟩:=hW
  have av: ∀x∈p,x.block<W.heap.size:=λx hx=>by simpa using WZ.lt x (List.mem_append_left _ hx)
  obtain⟨rfl,rfl⟩:gs= []/\q= []:=by
    rw[hv]at hV
    cases gs with
    |nil=>exact⟨rfl,hV⟩
    |cons g r=>exact absurd hV (by intro h;cases h)
  refine(aaH W base args ds p BZ hA hL av).mono λe W' ⟨he,hb⟩=>?_
  have e1:=hs ds (K.len hA)
  refine⟨_,he,_,_,_,[],p,[],WZ,?_,?_,?_,hb.frame _,λh=>by cases h⟩
  · rw[e1,hr];exact trodAll_mk1 (shut_bool K.underlying4 true)
  · rw[e1];exact K.trodAll K.laidOut hb gM hA av
  · rw[e1,hv];rfl
theorem K.eT {laid : List (String × DataW Unit)} {W : World} (h : laidMetH Tryz.prog laid W) (hm : ("errors.errorType", Rows.laid_errors_errorType) ∈ laid) : Den W o0.bare (.pt false 1 fun _ => .v A.C2) (.pointer (some ⟨0, 0, none⟩)) :=
 ⟨_,rfl,λj hj=>⟨_,by obtain rfl:j=0:=by omega
                     exact K.handle h hm,⟨id,λ_=>id⟩,rfl⟩⟩
theorem K.gE {laid : List (String × DataW Unit)} {W : World} (h : laidMetH Tryz.prog laid W) (hm : ("errors.errorType", Rows.laid_errors_errorType) ∈ laid) (g : Nat) : Den W o0.bare (WL g) (.pointer (some ⟨g, 0, none⟩)) := by
 unfold WL
 split
 · exact K.eT h hm
 · trivial
end Go.Proofs.YthgmgkabnffniaaGreatDoor
namespace Go.Proofs.YthgmgkabnffniaaGreatDoor
open Go.ChangeShapes Go.WideShapes Go.RowKit Go.Sy
theorem af3 {s:ByteArray} {t:ByteArray} (h:s.data.toList=t.data.toList):s=t:=by
  cases s;cases t
  simp only at h
  congr 1
  exact Array.toList_inj.1 h
theorem K.Rb: ∀{l:List (String×DataW Unit)} {ps:List MemPlace} {W:World},DataW.LaidVars Tryz.prog W l ps-> ∀{n:String} {d:DataW Unit},(n,d)∈l->
    ∃g t cs fuel p,Tryz.prog.globalNamed n=some g/\(Tryz.prog.globals[g]?).map (·.type)=some t/\W.var? Tryz.prog n=some cs/\DataW.trod (λ_=>()) Tryz.prog W 0 (λ_=>true) false fuel t cs.toList=some (d,p)
  |(n,d)::r,ps,W,⟨g,t,cs,fuel,p,q,hg,ht,hv,hd,hr,_⟩,n',d',hm=>by
   rcases List.mem_cons.1 hm with e|e
   · cases e;exact⟨g,t,cs,fuel,p,hg,ht,hv,hd⟩
   · exact K.Rb hr e
theorem K.aaI {laid:List (String×DataW Unit)} {W:World} (h:laidMetH Tryz.prog laid W): ∃ps,DataW.LaidVars Tryz.prog W (laid.filter λx=>x.2.handleName?.isNone) ps:=by
  unfold laidMetH at h
  split at h
  · next e=>
    have:(laid.filter λx=>x.2.handleName?.isNone)=laid:=by
      rw[List.filter_eq_self]
      intro x hx
      have h2:x∉laid.filter λx=>x.2.handleName?.isSome:=by rw[e];simp
      rw[List.mem_filter]at h2
      cases hq:x.2.handleName? with
      |none=>rfl
      |some y=>exact absurd ⟨hx,by rw[hq];rfl⟩ h2
    rw[this]
    obtain⟨ps,J,_⟩:=h
    exact⟨ps,J⟩
  · obtain⟨⟨ps,J,_⟩,_⟩:=h
    exact⟨ps,J⟩
theorem K.W1 : Tryz.prog.globalNamed "keyhold/keyholdref.kindNames" = some 1 := by kernel_rfl
theorem K.knT:(Tryz.prog.globals[1]?).map (·.type)=some 73:=by kernel_rfl
theorem K.knU:Tryz.prog.underlying 73=some (.slice 9):=by kernel_rfl
theorem K.ag2:Tryz.prog.underlying 9=some .string:=by kernel_rfl
theorem K.c9:Tryz.prog.cellsOf 9=1:=by kernel_rfl
theorem K.knD:(Rows.laid_keyhold_keyholdref_kindNames:DataW Unit)= .slice ((List.range 7).map λi=> .lit (.string (mn i).data.toList)) []:=by kernel_rfl
theorem K.kinds {laid : List (String × DataW Unit)} {W : World} (h : laidMetH Tryz.prog laid W) (hm : ("keyhold/keyholdref.kindNames", Rows.laid_keyhold_keyholdref_kindNames) ∈ laid) : Den W o0.bare (.pt false 1 (fun _ => .sl false 1 7 fun i _ => .v (.string (mn i)))) (.pointer (some ⟨1, 0, none⟩)) := by
 obtain⟨ps,hlv⟩:=K.aaI h
 obtain⟨g,t,cs,fuel,p,hg,ht,ag3,hd⟩:=K.Rb hlv (List.mem_filter.2 ⟨hm,by kernel_rfl⟩)
 obtain rfl:=Option.some.inj (K.W1.symm.trans hg)
 obtain rfl:=Option.some.inj (K.knT.symm.trans ht)
 rw[K.knD]at hd
 rcases DataW.trod_slice K.knU hd with⟨_,e⟩|⟨a,len,cap,elems,rest,n,_,ec,e,_,J,h2,h3,hel,_,_⟩
 · cases (Prod.mk.inj e).1
 obtain⟨e1,_⟩:=DataW.slice.inj (Prod.mk.inj e).1
 have l7:elems.length=7:=by
   have:=congrArg List.length e1
   simp only[List.length_map,List.length_range]at this
   exact this.symm
 have cell:W.cell? ⟨1,0,none⟩=some (.slice (some a) len cap):=by
   rw[World.var?_cell K.W1 ag3]
   have:cs.toList[0]? =some (.slice (some a) len cap):=by rw[ec];rfl
   simpa using this
 refine⟨_,rfl,λj hj=>?_⟩
 obtain rfl:j=0:=by omega
 refine⟨_,cell,⟨id,λ_=>id⟩,some a,cap,by rw[<-h3,l7],by omega,by omega,.inr ⟨a,rfl,λi hi k hk=>?_⟩⟩
 obtain rfl:k=0:=by omega
 have hE:=hel i (by omega)
 rw[List.getElem?_eq_getElem (by omega)]at hE
 rw[K.c9,Nat.mul_one]at hE
 obtain⟨ys,hy,hz⟩:=Option.bind_eq_some_iff.1 hE
 have e4:(elems.map (·.1))[i]? =some (elems[i]).1:=by rw[List.getElem?_map,List.getElem?_eq_getElem (by omega)];rfl
 rw[<-e1,List.getElem?_map,List.getElem?_range hi]at e4
 obtain⟨s0,a0,b0,_⟩:=DataW.trod_string K.ag2 hz
 have e5:=Option.some.inj e4
 rw[b0]at e5
 have e5:(DataW.lit (.string (mn i).data.toList):DataW Unit)=DataW.lit (.string s0.data.toList):=e5
 simp only[DataW.lit.injEq,Lit.string.injEq]at e5
 refine⟨.string s0,?_,⟨id,λ_=>id⟩,?_⟩
 · have:=(World.cells?_some hy).2.2 0 (by omega)
   rw[a0]at this
   simp only[Nat.mul_one,Nat.add_zero,List.getElem?_cons_zero]at this⊢
   exact this
 · show Value.string s0=Value.string (mn i)
   rw[af3 e5]
theorem K.gK {laid : List (String × DataW Unit)} {W : World} (h : laidMetH Tryz.prog laid W) (hm : ("keyhold/keyholdref.kindNames", Rows.laid_keyhold_keyholdref_kindNames) ∈ laid) (g : Nat) : Den W o0.bare (tN g) (.pointer (some ⟨g, 0, none⟩)) := by
 cases e:Nat.beq g 1 with
 |false=>unfold tN;rw[e];trivial
 |true=>obtain rfl:=Nat.eq_of_beq_eq_true e;exact K.kinds h hm
def K.knV:Array Value:=((List.range 7).map λi=>Value.string (mn i)).toArray
def nms (i:Nat):ByteArray:=⟨(([[104,97,108,116],[115,101,116],[109,111,118],[97,100,100],[115,117,98],[109,117,108],[97,110,100],[111,114],[120,111,114],[108,101,115,115],[108,111,97,100],[115,116,111,114,101],[106,117,109,112],[122,101,114,111],[115,121,115]]:List (List UInt8)).getD i []).toArray⟩
def K.nmV:Array Value:=((List.range 15).map λi=>Value.string (nms i)).toArray
noncomputable def K.Rx (os:Os):World:=
  let w0:=World.holding Tryz.prog os ⟨#[],#[],[]⟩
  {w0 with heap:=(((w0.heap.modify 1 λ
   | .cells _ t frozen=> .cells #[.slice (some ⟨w0.heap.size,0,none⟩) 7 7] t frozen
   |o=>o).modify 2 λ
   | .cells _ t frozen=> .cells #[.slice (some ⟨w0.heap.size+1,0,none⟩) 15 15] t frozen
   |o=>o).push (.cells K.knV 9)).push (.cells K.nmV 9)}
theorem K.agx (os : Os) (args : Array Value) : laidMetH Tryz.prog [("keyhold/keyholdref.names", Rows.laid_keyhold_keyholdref_names), ("keyhold/keyholdref.kindNames", Rows.laid_keyhold_keyholdref_kindNames)] ((K.Rx os).forCall (fun _ _ => 0) ⟨#[], args, []⟩).memory :=
 laidMetH_of_parts (laidMet_of_run' 8 (by kernel_rfl) (by kernel_rfl)) (by kernel_rfl)
theorem K.agw {H:Type} {enc:TypeId×Value->H} {os:Os} {f:FuncId} {fn:Func} {s:ChangeSpec} {X:World->Prop} (w0:World) (args:Array Value) (oS:w0.os=os)
    (hv:(w0.forCall (λ_ _=>0) ⟨#[],args,[]⟩).variablesRefB Tryz.checked.prog=true)
    (hr:((w0.forCall (λ_ _=>0) ⟨#[],args,[]⟩).heap.toList.drop Tryz.checked.prog.globals.size).take ((begin Tryz.checked.prog (λ_ _=>0) default).world.heap.size -Tryz.checked.prog.globals.size)=(begin Tryz.checked.prog (λ_ _=>0) default).world.heap.toList.drop Tryz.checked.prog.globals.size)
    (bF:Input.okWideB Tryz.checked.prog (w0.forCall (λ_ _=>0) ⟨#[],args,[]⟩) f ⟨#[],args,[]⟩=true)
    (gL:s.preB enc Tryz.checked.prog fn [] false (w0.forCall (λ_ _=>0) ⟨#[],args,[]⟩).memory args 8=true)
    (bV:s.sizedB enc Tryz.checked.prog fn false (w0.forCall (λ_ _=>0) ⟨#[],args,[]⟩).memory args 8=true) (hx:X (w0.forCall (λ_ _=>0) ⟨#[],args,[]⟩).memory):
    ∃(w:World) (tape:Tape) (i:Input),w.os=os/\(w.forCall tape i).Shaped Tryz.prog/\i.vars= []/\Input.okWide Tryz.prog (w.forCall tape i) .any w.heap.size f i/\
     ((s.pre enc Tryz.prog fn [] false (w.forCall tape i).memory i.args/\X (w.forCall tape i).memory)/\sizedMet enc Tryz.prog fn (OpenSpec.ofChange s) false (w.forCall tape i).memory i.args)/\({}:Assume).holds Tryz.prog (lone (Frame.enter Tryz.prog f i.args .normal) [] (w.forCall tape i)):=by
  refine⟨w0,λ_ _=>0,⟨#[],args,[]⟩,oS,World.shaped_of_RefB hv hr,(Input.okWide_of_okWideB (base:=0) bF).1,(Input.okWide_of_okWideB bF).2,⟨⟨ChangeSpec.pre_of_preB gL,hx⟩,sizedMet_of_sizedB bV⟩,?_⟩
  simp only[Assume.holds]
  exact⟨by simp,by simp,λ_=>Modest.zero,by simp,by simp⟩
end Go.Proofs.YthgmgkabnffniaaGreatDoor
