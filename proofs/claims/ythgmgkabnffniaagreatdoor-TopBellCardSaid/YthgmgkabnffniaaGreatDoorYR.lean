/- A small world of one part, with a code, all tasks begun. -/
import Derived.Test.YthgmgkabnffniaaGreatDoorYQ
import Derived.Test.YthgmgkabnffniaaGreatDoorYM
import Derived.Test.YthgmgkabnffniaaGreatDoorYO
import Derived.Test.YthgmgkabnffniaaGreatDoorYL
set_option linter.unusedVariables false
set_option linter.unusedSimpArgs false
set_option linter.unusedVariables false
set_option linter.unusedSimpArgs false
set_option maxRecDepth 100000
namespace Go.Proofs.YthgmgkabnffniaaGreatDoor
open Go.RowKit Go.Sy
theorem ae0 {j k cl:Int} (hk:0<=k/\k<32) (hc:1<=cl/\cl<=100):jT (lq j k cl).o (lq j k cl).a (lq j k cl).b (lq j k cl).m=0/\1<=(lq j k cl).o/\(lq j k cl).o≠12:=by
  have k9:=jz (c:=k) (n:=9) (by decide)
  have k4:=jz (c:=k) (n:=4) (by decide)
  have vd:=jz (c:=k) (n:=18) (by decide)
  have F9:=jz (c:=k) (n:=20) (by decide)
  have k7:=jz (c:=k) (n:=7) (by decide)
  have vb:=jz (c:=k) (n:=15) (by decide)
  have kc:=jz (c:=k) (n:=cl) (by omega)
  unfold lq
  generalize bR k 9=a9 at*
  generalize bR k 4=a4 at*
  generalize bR k 18=Lb at*
  generalize bR k 20=a20 at*
  generalize bR k 7=a7 at*
  generalize bR k 15=cb at*
  generalize bR k cl=ac at*
  cases j==0||j==1||j==2<;>simp only[cond_true,cond_false]
  · cases j==3||j==4<;>simp only[cond_true,cond_false]
    · cases j==5<;>simp only[cond_true,cond_false]
      · cases j==6<;>simp only[cond_true,cond_false]
        · cases j==7<;>simp only[cond_true,cond_false]
          · cases j==8<;>simp only[cond_true,cond_false]
            · cases j==9<;>simp only[cond_true,cond_false]
              · cases j==10<;>simp only[cond_true,cond_false]
                · refine⟨?_,by omega,by omega⟩
                  simp[jT,qz,az,tj,hasB,tq];rw[decide_eq_false (by omega),decide_eq_false (by omega)];rfl
                · refine⟨?_,by omega,by omega⟩
                  simp[jT,qz,az,tj,hasB,tq];rw[decide_eq_false (by omega),decide_eq_false (by omega)];rfl
              · refine⟨?_,by omega,by omega⟩
                have h7:a7=0\/a7=1\/a7=2\/a7=3\/a7=4\/a7=5\/a7=6:=by omega
                rcases h7 with rfl|rfl|rfl|rfl|rfl|rfl|rfl<;>rfl
            · refine⟨?_,by omega,by omega⟩
              simp[jT,qz,az,tj,hasB,tq];rw[decide_eq_false (by omega),decide_eq_false (by omega)];rfl
          · refine⟨?_,by omega,by omega⟩
            simp[jT,qz,az,tj,hasB,tq];rw[decide_eq_false (by omega),decide_eq_false (by omega)];rfl
        · refine⟨?_,by omega,by omega⟩
          simp[jT,qz,az,tj,hasB,tq];rw[decide_eq_false (by omega),decide_eq_false (by omega)];rfl
      · refine⟨?_,by omega,by omega⟩
        simp[jT,qz,az,tj,hasB,tq];rw[decide_eq_false (by omega),decide_eq_false (by omega)];rfl
    · refine⟨?_,by omega,by omega⟩
      simp[jT,qz,az,tj,hasB,tq];rw[decide_eq_false (by omega),decide_eq_false (by omega)];rfl
  · refine⟨?_,by omega,by omega⟩
    simp[jT,qz,az,tj,hasB,tq];rw[decide_eq_false (by omega),decide_eq_false (by omega)];rfl
theorem TZ {n:Nat} {l:Nat->Int} {cl:Int} {q:Nat} (hc:1<=cl/\cl<=100):jT (iX n l 0 cl q).o (iX n l 0 cl q).a (iX n l 0 cl q).b (iX n l 0 cl q).m=0:=by
  unfold iX
  cases Nat.blt q 15 with
  |true=>exact(ae0 (jz (by decide)) hc).1
  |false=>exact(by decide:jT 12 0 0 0=0)
theorem T5: ∃W:Wd,W=rh (ri 24 2 1 (j7 gy)) qR qR.length:=⟨_,rfl⟩
noncomputable def eJ:Wd:=Classical.choose T5
theorem HW:eJ=rh (ri 24 2 1 (j7 gy)) qR qR.length:=Classical.choose_spec T5
theorem ae1:j7 gy 0=0:=(E4.one.2.2.2 0 (by decide)).trans (by kernel_rfl)
def LI (E:Nat->Int) (i:Nat):Int:=bif Nat.beq i 0 then 0 else E i
theorem ae2:j7 gy=LI (j7 gy):=by
  funext i
  unfold LI
  rcases i with _|i
  · exact ae1
  · rfl
def zW (E:Nat->Int):Wd:=rh (ri 24 2 1 (LI E)) qR qR.length
theorem HX:eJ=zW (j7 gy):=by
  rw[HW];unfold zW;rw[<-ae2]
theorem acW:Sx eJ:=by rw[HW];exact E4.sx _
theorem T6 (E:Nat->Int):(zW E).kinds 4=2/\(zW E).kinds 5=2/\(zW E).ay=384:=⟨by kernel_rfl,by kernel_rfl,by kernel_rfl⟩
theorem Zw {o a b m:Int} (h:jT o a b m=0):(0<=o*256+a*16+b/\o*256+a*16+b<=65535)/\0<=m%65536/\m%65536<=65535:=by
  have:=Mq h
  omega
theorem Sx.code {W:Wd} (h:Sx W) {f n:Nat} {o a b m:Nat->Int} (hI: ∀i,i<n->jT (o i) (a i) (b i) (m i)=0) (hk: ∀g:Nat,f<=g->g*16<f*16+2*n->W.kinds g=2):Sx (CS W f n o a b m):=by
  refine h.UU (λi hi=>?_) λi hi ba=>?_
  · unfold j8
    cases q:Nat.ble (f*16) i&&Nat.blt i (f*16+2*n)with
    |false=>exact h.sp.m.rm i hi
    |true=>
     rw[Bool.and_eq_true]at q
     have q1:=Nat.le_of_ble_eq_true q.1
     have q2:i<f*16+2*n:=by
       have:=q.2;unfold Nat.blt at this;have:=Nat.le_of_ble_eq_true this;omega
     have r:=Zw (hI ((i -f*16)/2) (by omega))
     cases Nat.beq ((i -f*16)%2) 0
     · exact r.2
     · exact r.1
  · unfold j8 at ba
    cases q:Nat.ble (f*16) i&&Nat.blt i (f*16+2*n)with
    |false=>rw[q]at ba;exact absurd rfl ba
    |true=>
     rw[Bool.and_eq_true]at q
     have q1:=Nat.le_of_ble_eq_true q.1
     have q2:i<f*16+2*n:=by
       have:=q.2;unfold Nat.blt at this;have:=Nat.le_of_ble_eq_true this;omega
     rw[hk (i/16) (by omega) (by omega)];decide
noncomputable def CT (n:Nat) (l:Nat->Int) (cl:Int):Wd:=CS eJ 4 16 (λi=>(iX n l 0 cl i).o) (λi=>(iX n l 0 cl i).a) (λi=>(iX n l 0 cl i).b) (λi=>(iX n l 0 cl i).m)
theorem RE {n:Nat} {l:Nat->Int} {cl:Int} (hc:1<=cl/\cl<=100):Sx (CT n l cl):=by
  refine acW.code (λi _=>TZ hc) λg J h2=>?_
  rw[HX]
  obtain⟨k4,k5,_⟩:=T6 (j7 gy)
  rcases(show g=4\/g=5 by omega)with e|e
  · rw[e];exact k4
  · rw[e];exact k5
theorem UW (n:Nat) (l:Nat->Int) (cl:Int): ∃W:Wd,W=lR (lR (CT n l cl) 8) 9:=⟨_,rfl⟩
noncomputable def nN (n:Nat) (l:Nat->Int) (cl:Int):Wd:=Classical.choose (UW n l cl)
theorem IC (n:Nat) (l:Nat->Int) (cl:Int):nN n l cl=lR (lR (CT n l cl) 8) 9:=Classical.choose_spec (UW n l cl)
theorem Ry {n:Nat} {l:Nat->Int} {cl:Int} (hc:1<=cl/\cl<=100):Sx (nN n l cl):=by
  rw[IC];exact((RE hc).start 8).start 9
def pT (E:Nat->Int) (R:Nat->Int):Wd:=lR (lR {zW E with af:=R} 8) 9
theorem TY (n:Nat) (l:Nat->Int) (cl:Int): ∃R,nN n l cl=pT (j7 gy) R:=by
  rw[IC]
  unfold CT CS
  rw[HX]
  exact⟨_,rfl⟩
structure Yt where
  (Jc:Unit)
noncomputable def Yu:Sy.Spec:=⟨Yt,λ_=> [.v (.string gy)],λ_=> [],λ_=>True,λ_=> .tp 2 (aL [zX 0 eJ,.ag 2 (aL [.v (.int .i64 0),.v (.int .i64 (-1))])]),λ_=>wI eJ,
  λargs mem=>match args with| [a0]=>some ⟨()⟩|_=>none⟩
noncomputable def Yv:aT:=⟨[],(Yu).g,none⟩
theorem XF:aU Tryz.prog tN 15 Yv:=yj Tryz.call15 λ_ _=>by
  have q:lY Tryz.prog tN 15 [.v (.string gy)] [] (.tp 2 (aL [zX 0 (cO gy (j9 gy)),.ag 2 (aL [.v (.int .i64 0),.v (.int .i64 (-1))])])) (wI (cO gy (j9 gy))):=Zx ⟨gy⟩ E4.rd.1
  rw[E4.rd.2,<-HW]at q
  exact q
structure PG where
  (n:Nat) (l:Nat->Int) (pA cl:Int)
noncomputable def PH:Sy.Spec:=⟨PG,λ⟨n,l,pA,cl⟩=> [.sl true 1 n (λi_ _=> .v (.int .i64 (l i_))),.v (.int .i64 pA),.v (.int .i64 cl)],λ_=> [],λ⟨n,l,pA,cl⟩=>(∀k,k<n->oX (l k))/\oX pA/\bR pA 2=0/\1<=cl/\cl<=100,λ⟨n,l,_,cl⟩=>oZ (nN n l cl),λ_=> [],
  λargs mem=>match args with| [a0,a1,a2]=>some ⟨bX a0,λi=>aw (bN a0 i 0),aw (a1),aw (a2)⟩|_=>none⟩
noncomputable def abd:aT:=⟨[],(PH).g,none⟩
def PI:PG->Prop:=λ⟨n,l,pA,cl⟩=>let a0:=bR pA 2==0;let b0:=[(32:UInt8),52];let c0:=[(32:UInt8)];let d0:=((50:UInt8)::c0);let e0:=((32:UInt8)::d0);let g0:=[(32:UInt8),48,10];let h0:=True/\True;let k0:=tn 9 h0;let l0:=((n=n/\(∀o0:Nat,o0<n->True/\l o0=l o0))/\(0:Int)=0/\cl=cl/\True)/\True/\(∀q0:Nat,q0<n->(-9223372036854775808)<=l q0/\l q0<=9223372036854775807)/\(0:Int)<=0/\(0:Int)<=900/\1<=cl/\cl<=100;let r0:=SV.ptr 0 0 none 0 0;let u0:=r0=r0;let v0:=Int.toNat 4;let w0:=v0*16;let x0:=eJ.ay;let y0:=(u0/\4=(v0:Int)/\(16=16/\(∀z0:Nat,let a1:=iX n l 0 cl (0+z0);let b1:=a1.o;let c1:=a1.a;let d1:=a1.b;let e1:=a1.m;z0<16->(((True/\b1=b1)/\c1=c1)/\d1=d1)/\e1=e1))/\True)/\aD eJ eJ True/\v0<=1000/\16<=1000/\w0+2*16<=x0/\x0<=100000/\(∀g1:Nat,let J:=iX n l 0 cl (0+g1);g1<16->jT J.o J.a J.b J.m=0);let k1:=u0/\(8:Int)=8/\True;let l1:=j8 w0 16 (λo1:Nat=>(iX n l 0 cl (0+o1)).o) (λq1:Nat=>(iX n l 0 cl (0+q1)).a) (λr1:Nat=>(iX n l 0 cl (0+r1)).b) (λu1:Nat=>(iX n l 0 cl (0+u1)).m) eJ.af;let v1:={eJ with af:=l1};let w1:=aD v1 v1 True;let x1:=CS eJ v0 16 (λy1:Nat=>(iX n l 0 cl (0+y1)).o) (λz1:Nat=>(iX n l 0 cl (0+z1)).a) (λa2:Nat=>(iX n l 0 cl (0+a2)).b) (λb2:Nat=>(iX n l 0 cl (0+b2)).m);let c2:=u0/\(9:Int)=9/\True;let d2:={eJ with af:=l1,tasks:=kK x1 8,aq:=kJ x1 8,ready:=kM x1 8};let e2:=lR x1 8;let g2:=nN n l cl;let h2:=g2.ay;let k2:=g2.aj;let l2:=g2.al;
    let o2:=((True/\x0=h2/\(∀q2:Nat,q2<h2->True/\l1 (0+q2)=g2.af q2))/\eJ.aj=k2/\(∀r2:Nat,r2<k2->True/\eJ.kinds (0+r2)=g2.kinds r2))/\eJ.al=l2/\(∀u2:Nat,u2<l2->aJ (eJ.aa (0+u2)) (g2.aa u2));let v2:=g2.aP;let w2:=eJ.aP=v2;let x2:=g2.aW;let y2:=eJ.aW=x2/\(∀z2:Nat,z2<x2->True/\eJ.ai (0+z2)=g2.ai z2/\(∀a3:Nat,a3<g2.ai z2->True/\eJ.lines (0+z2) (0+a3)=g2.lines z2 a3));let b3:=g2.aN;let c3:=eJ.aN=b3/\(∀d3:Nat,d3<b3->True/\eJ.bits (0+d3)=g2.bits d3);let e3:=g2.aC;let g3:=eJ.aC=e3/\(∀h3:Nat,h3<e3->True/\eJ.ak (0+h3)=g2.ak h3);let k3:=g2.aS;let l3:=eJ.aS=k3;let o3:=g2.aQ;let q3:=eJ.aQ=o3/\(∀r3:Nat,r3<o3->True/\eJ.aG (0+r3)=g2.aG r3/\(∀u3:Nat,u3<g2.aG r3->aH (eJ.aA (0+r3) (0+u3)) (g2.aA r3 u3)));let v3:=g2.aK;let w3:=eJ.aK=v3/\(∀x3:Nat,x3<v3->True/\eJ.aB (0+x3)=g2.aB x3);let y3:=eJ.time=g2.time;let z3:=[(32:UInt8),49];let a4:={eJ with af:=l1,tasks:=kK x1 7,aq:=kJ x1 7,ready:=kM x1 7};let b4:=lR x1 7;let c4:={eJ with af:=l1,tasks:=kK b4 8,aq:=kJ b4 8,ready:=kM b4 8};let d4:=lR b4 8;True/\((pA=pA/\(2:Int)=2/\True)/\True/\((-9223372036854775808)<=pA/\pA<=9223372036854775807)/\(0:Int)<2)/\(a0=true->
    ((ByteArray.mk (List.toArray (List.append (List.append (List.append [(119:UInt8),111,114,108,100,32,50,52,32,50,32,48,10,99,108,97,121,32,49,32,49,32,50,48,10,109,97,107,101,32,110,111,100,101,32,49,32,49,32,50,10,109,97,107] ((101:UInt8)::(32:UInt8)::(115:UInt8)::(112:UInt8)::(97:UInt8)::(99:UInt8)::(101:UInt8)::(32:UInt8)::(49:UInt8)::(32:UInt8)::(49:UInt8)::(32:UInt8)::(51:UInt8)::(10:UInt8)::(109:UInt8)::(97:UInt8)::(107:UInt8)::(101:UInt8)::(32:UInt8)::(116:UInt8)::(97:UInt8)::(98:UInt8)::(108:UInt8)::(101:UInt8)::(32:UInt8)::(49:UInt8)::(32:UInt8)::(49:UInt8)::(32:UInt8)::(52:UInt8)::(10:UInt8)::(109:UInt8)::(97:UInt8)::(107:UInt8)::(101:UInt8)::(32:UInt8)::(112:UInt8)::(97:UInt8)::(103:UInt8)::(101:UInt8)::(32:UInt8)::(49:UInt8)::b0)) (List.append [(32:UInt8),53,10,109,97,107,101,32,116,97,115,107,32,49,32,50,32,57,10,109,97,107,101,32,100,111,111,114,32,49,32,49,32,49,49,10,109,97,107,101,32,98,101,108] ((108:UInt8)::(32:UInt8)::(49:UInt8)::(32:UInt8)::(49:UInt8)::(32:UInt8)::(49:UInt8)::(50:UInt8)::(10:UInt8)::(99:UInt8)::(111:UInt8)::(112:UInt8)::(121:UInt8)::(32:UInt8)::(49:UInt8)::(49:UInt8)::(32:UInt8)::(49:UInt8)::(54:UInt8)::(32:UInt8)::(55:UInt8)::(32:UInt8)::(53:UInt8)::(10:UInt8)::(99:UInt8)::(111:UInt8)::(112:UInt8)::(121:UInt8)::(32:UInt8)::(49:UInt8)::(50:UInt8)::(32:UInt8)::(49:UInt8)::(55:UInt8)::(32:UInt8)::(55:UInt8)::(32:UInt8)::(50:UInt8)::(10:UInt8)::(99:UInt8)::(111:UInt8)::(112:UInt8)::(121:UInt8)::c0))) (List.append (List.append ((49:UInt8)::(48:UInt8)::(32:UInt8)::(49:UInt8)::(56:UInt8)::(32:UInt8)::(55:UInt8)::(32:UInt8)::(48:UInt8)::(10:UInt8)::(99:UInt8)::(111:UInt8)::(112:UInt8)::(121:UInt8)::(32:UInt8)::(55:UInt8)::(32:UInt8)::(49:UInt8)::(57:UInt8)::(32:UInt8)::(51:UInt8)::(32:UInt8)::(48:UInt8)::(10:UInt8)::(99:UInt8)::(111:UInt8)::(112:UInt8)::(121:UInt8)::(32:UInt8)::(51:UInt8)::(32:UInt8)::(50:UInt8)::(48:UInt8)::(32:UInt8)::(55:UInt8)::(32:UInt8)::(48:UInt8)::(10:UInt8)::(99:UInt8)::(111:UInt8)::(112:UInt8)::(121:UInt8)::b0) ((32:UInt8)::(50:UInt8)::(49:UInt8)::(32:UInt8)::(55:UInt8)::(32:UInt8)::(48:UInt8)::(10:UInt8)::(99:UInt8)::(111:UInt8)::(112:UInt8)::(121:UInt8)::(32:UInt8)::(50:UInt8)::(32:UInt8)::(50:UInt8)::(50:UInt8)::(32:UInt8)::(55:UInt8)::(32:UInt8)::(48:UInt8)::(10:UInt8)::(99:UInt8)::(111:UInt8)::(112:UInt8)::(121:UInt8)::(32:UInt8)::(57:UInt8)::(32:UInt8)::(50:UInt8)::(51:UInt8)::(32:UInt8)::(54:UInt8)::(32:UInt8)::(48:UInt8)::(10:UInt8)::(101:UInt8)::(110:UInt8)::(116:UInt8)::(101:UInt8)::(114:UInt8)::e0)) (List.append ((48:UInt8)::(32:UInt8)::(51:UInt8)::(32:UInt8)::(48:UInt8)::(10:UInt8)::(101:UInt8)::(110:UInt8)::(116:UInt8)::(101:UInt8)::(114:UInt8)::(32:UInt8)::(50:UInt8)::(32:UInt8)::(48:UInt8)::(32:UInt8)::(52:UInt8)::(32:UInt8)::(48:UInt8)::(10:UInt8)::(101:UInt8)::(110:UInt8)::(116:UInt8)::(101:UInt8)::(114:UInt8)::(32:UInt8)::(50:UInt8)::(32:UInt8)::(49:UInt8)::(32:UInt8)::(53:UInt8)::(32:UInt8)::(48:UInt8)::(10:UInt8)::(101:UInt8)::(110:UInt8)::(116:UInt8)::(101:UInt8)::(114:UInt8)::(32:UInt8)::(50:UInt8)::e0) ((54:UInt8)::(32:UInt8)::(49:UInt8)::(10:UInt8)::(101:UInt8)::(113:UInt8)::(117:UInt8)::(105:UInt8)::(112:UInt8)::(32:UInt8)::(56:UInt8)::(32:UInt8)::(48:UInt8)::(32:UInt8)::(50:UInt8)::(32:UInt8)::(45:UInt8)::(32:UInt8)::(48:UInt8)::(32:UInt8)::(49:UInt8)::(32:UInt8)::(48:UInt8)::(10:UInt8)::(101:UInt8)::(113:UInt8)::(117:UInt8)::(105:UInt8)::(112:UInt8)::(32:UInt8)::(57:UInt8)::(32:UInt8)::(49:UInt8)::(32:UInt8)::(50:UInt8)::(32:UInt8)::(49:UInt8)::(48:UInt8)::(32:UInt8)::(49:UInt8)::(32:UInt8)::(50:UInt8)::g0)))))=gy/\
    True)/\h0)/\tn 2 (k0/\h0/\l0/\y0/\(k1/\w1/\tX.match_1 (λe4:mW=>Prop) (mW.mk 8 x1) (λg4:Int=>λh4:Wd=>rj h4))/\(c2/\aD d2 d2 True/\tX.match_1 (λk4:mW=>Prop) (mW.mk 9 e2) (λl4:Int=>λo4:Wd=>rj o4))/\k0/\((((((((o2/\w2/\(∀q4:Nat,q4<v2->aI (kK e2 9 (0+q4)) (g2.tasks q4)))/\y2)/\c3)/\g3)/\l3/\(∀r4:Nat,r4<k3->True/\kJ e2 9 (0+r4)=g2.aq r4/\(∀u4:Nat,u4<g2.aq r4->True/\kM e2 9 (0+r4) (0+u4)=g2.ready r4 u4)))/\q3)/\w3)/\y3)/\True))/\(a0=false->
    ((ByteArray.mk (List.toArray (List.append (List.append (List.append ((119:UInt8)::(111:UInt8)::(114:UInt8)::(108:UInt8)::(100:UInt8)::(32:UInt8)::(50:UInt8)::(50:UInt8)::(32:UInt8)::(49:UInt8)::(32:UInt8)::(48:UInt8)::(32:UInt8)::(49:UInt8)::(32:UInt8)::(48:UInt8)::(10:UInt8)::(99:UInt8)::(108:UInt8)::(97:UInt8)::(121:UInt8)::(32:UInt8)::(49:UInt8)::(32:UInt8)::(49:UInt8)::(32:UInt8)::(49:UInt8)::(57:UInt8)::(10:UInt8)::(109:UInt8)::(97:UInt8)::(107:UInt8)::(101:UInt8)::(32:UInt8)::(110:UInt8)::(111:UInt8)::(100:UInt8)::(101:UInt8)::(32:UInt8)::(49:UInt8)::z3) ((32:UInt8)::(50:UInt8)::(10:UInt8)::(109:UInt8)::(97:UInt8)::(107:UInt8)::(101:UInt8)::(32:UInt8)::(115:UInt8)::(112:UInt8)::(97:UInt8)::(99:UInt8)::(101:UInt8)::(32:UInt8)::(49:UInt8)::(32:UInt8)::(49:UInt8)::(32:UInt8)::(51:UInt8)::(10:UInt8)::(109:UInt8)::(97:UInt8)::(107:UInt8)::(101:UInt8)::(32:UInt8)::(116:UInt8)::(97:UInt8)::(98:UInt8)::(108:UInt8)::(101:UInt8)::(32:UInt8)::(49:UInt8)::(32:UInt8)::(49:UInt8)::(32:UInt8)::(52:UInt8)::(10:UInt8)::(109:UInt8)::(97:UInt8)::(107:UInt8)::(101:UInt8)::c0)) (List.append ((112:UInt8)::(97:UInt8)::(103:UInt8)::(101:UInt8)::(32:UInt8)::(49:UInt8)::(32:UInt8)::(51:UInt8)::(32:UInt8)::(53:UInt8)::(10:UInt8)::(109:UInt8)::(97:UInt8)::(107:UInt8)::(101:UInt8)::(32:UInt8)::(116:UInt8)::(97:UInt8)::(115:UInt8)::(107:UInt8)::(32:UInt8)::(49:UInt8)::(32:UInt8)::(51:UInt8)::(32:UInt8)::(56:UInt8)::(10:UInt8)::(109:UInt8)::(97:UInt8)::(107:UInt8)::(101:UInt8)::(32:UInt8)::(100:UInt8)::(111:UInt8)::(111:UInt8)::(114:UInt8)::(32:UInt8)::(49:UInt8)::(32:UInt8)::(50:UInt8)::z3) ((49:UInt8)::(10:UInt8)::(109:UInt8)::(97:UInt8)::(107:UInt8)::(101:UInt8)::(32:UInt8)::(98:UInt8)::(101:UInt8)::(108:UInt8)::(108:UInt8)::(32:UInt8)::(49:UInt8)::(32:UInt8)::(49:UInt8)::(32:UInt8)::(49:UInt8)::(51:UInt8)::(10:UInt8)::(99:UInt8)::(111:UInt8)::(112:UInt8)::(121:UInt8)::(32:UInt8)::(49:UInt8)::(49:UInt8)::(32:UInt8)::(49:UInt8)::(54:UInt8)::(32:UInt8)::(55:UInt8)::(32:UInt8)::(57:UInt8)::(10:UInt8)::(99:UInt8)::(111:UInt8)::(112:UInt8)::(121:UInt8)::(32:UInt8)::(49:UInt8)::d0))) (List.append (List.append [(49:UInt8),55,32,51,32,48,10,99,111,112,121,32,49,51,32,49,56,32,55,32,52,10,99,111,112,121,32,56,32,49,57,32,55,32,48,10,99,111,112,121,32,53] ((32:UInt8)::(50:UInt8)::(48:UInt8)::(32:UInt8)::(49:UInt8)::(32:UInt8)::(48:UInt8)::(10:UInt8)::(101:UInt8)::(110:UInt8)::(116:UInt8)::(101:UInt8)::(114:UInt8)::(32:UInt8)::(50:UInt8)::(32:UInt8)::(48:UInt8)::(32:UInt8)::(51:UInt8)::(32:UInt8)::(48:UInt8)::(10:UInt8)::(101:UInt8)::(110:UInt8)::(116:UInt8)::(101:UInt8)::(114:UInt8)::(32:UInt8)::(50:UInt8)::(32:UInt8)::(48:UInt8)::(32:UInt8)::(52:UInt8)::(32:UInt8)::(48:UInt8)::(10:UInt8)::(101:UInt8)::(110:UInt8)::(116:UInt8)::(101:UInt8)::(114:UInt8)::c0)) (List.append ((50:UInt8)::(32:UInt8)::(49:UInt8)::(32:UInt8)::(53:UInt8)::(32:UInt8)::(48:UInt8)::(10:UInt8)::(101:UInt8)::(110:UInt8)::(116:UInt8)::(101:UInt8)::(114:UInt8)::(32:UInt8)::(50:UInt8)::(32:UInt8)::(50:UInt8)::(32:UInt8)::(54:UInt8)::(32:UInt8)::(49:UInt8)::(10:UInt8)::(101:UInt8)::(113:UInt8)::(117:UInt8)::(105:UInt8)::(112:UInt8)::(32:UInt8)::(55:UInt8)::(32:UInt8)::(48:UInt8)::(32:UInt8)::(50:UInt8)::(32:UInt8)::(45:UInt8)::(32:UInt8)::(48:UInt8)::(32:UInt8)::(49:UInt8)::g0) [(101:UInt8),113,117,105,112,32,56,32,49,32,50,32,49,48,32,48,32,49,32,48,10,101,113,117,105,112,32,57,32,49,32,50,32,49,49,32,48,32,51,32,49,10]))))=gy/\
    True)/\h0)/\tn 2 (k0/\h0/\l0/\y0/\((u0/\(7:Int)=7/\True)/\w1/\tX.match_1 (λv4:mW=>Prop) (mW.mk 7 x1) (λw4:Int=>λx4:Wd=>rj x4))/\(k1/\aD a4 a4 True/\tX.match_1 (λy4:mW=>Prop) (mW.mk 8 b4) (λz4:Int=>λa5:Wd=>rj a5))/\(c2/\aD c4 c4 True/\tX.match_1 (λb5:mW=>Prop) (mW.mk 9 d4) (λc5:Int=>λd5:Wd=>rj d5))/\k0/\((((((((o2/\w2/\(∀e5:Nat,e5<v2->aI (kK d4 9 (0+e5)) (g2.tasks e5)))/\y2)/\c3)/\g3)/\l3/\(∀g5:Nat,g5<k3->True/\kJ d4 9 (0+g5)=g2.aq g5/\(∀h5:Nat,h5<g2.aq g5->True/\kM d4 9 (0+g5) (0+h5)=g2.ready g5 h5)))/\q3)/\w3)/\y3)/\True))
set_option maxHeartbeats 2000000 in
theorem Zu:aU Tryz.prog tN 5 abd:=bf (.cons XF (.cons (Zy.up iu) (.cons (Xk.up iu) (.cons (Mr.up iu) (.cons (Ec.up iu) .nil))))) false Tryz.call5 Tryz.func5 (λ_=> []) (V:=PI) (λ_=>by kernel_rfl) λ⟨n,l,pA,cl⟩ hp=>by
  dsimp only[PH]at hp
  dsimp only[PI,tn,ar]
  simp only[bn,bD,eq_self,implies_true,Bool.cond_self]
  obtain⟨hl,hw,h2,hc⟩:=hp
  have t4:Int.toNat 4=4:=rfl
  have hr:eJ.ay=384:=by rw[HX];exact(T6 _).2.2
  have sx:=RE (n:=n) (l:=l) hc
  simp only[t4]
  refine⟨⟨hw,by decide⟩,λh=>⟨by kernel_rfl,⟨hl,by omega,by omega,hc⟩,⟨by omega,B5 _,by omega,by omega,by omega,by omega,λi _=>TZ hc⟩,⟨pF rfl,sx.1.tn⟩,⟨pF rfl,(sx.start 8).1.tn⟩,?_⟩,λh=>?_⟩
  · rw[IC]
    unfold CT
    repeat' (first|exact trivial|rfl|refine And.intro ?_ ?_|intro _)
  · rw[h2]at h;cases h
end Go.Proofs.YthgmgkabnffniaaGreatDoor
set_option linter.unusedVariables false
set_option linter.unusedSimpArgs false
set_option maxRecDepth 100000
namespace Go.Proofs.YthgmgkabnffniaaGreatDoor
open Go.RowKit Go.Sy
theorem ag1 {p:Nat->Bool}:g_ 1 p=p 0:=by
  rw[Bool.eq_iff_iff,m6]
  exact⟨λh=>h 0 (by omega),λh i hi=>by obtain rfl:i=0:=by omega
                                       exact h⟩
theorem TF {W:Wd} (h:bU W) (t:Int) (j:Nat) (h0:0<=t) (hj:j<W.aC) (he:W.ak j=t):(W.tasks t.toNat).core=j:=by
  have hc:=h.co j hj
  unfold ft at hc
  rw[he]at hc
  simp only[Bool.or_eq_true,beq_iff_eq]at hc
  rcases hc with hc|hc
  · omega
  · exact(EH hc).2.2.2.1
theorem afY {W:Wd} (h:bU W) (hs:Sm W):L6 W:=⟨h.z,λi hi=>((uu h hs).tk i hi).core,TF h⟩
theorem af0 {W:Wd} (h:bU W) (hs:Sm W) {t:Int} (t0:0<=t) (t1:t<W.aP):jd W t:=by
  have hc:=((uu h hs).tk t.toNat (by omega)).core
  exact⟨t0,t1,hc.1,hc.2,λj hj he=>TF h t j t0 hj he⟩
theorem af1 {W:Wd} (h:bU W) (hs:Sm W) {t:Int} (t0:0<=t) (t1:t<W.aP):je W t:=H8 (uu h hs) (by decide) t0 t1
theorem af2 {W:Wd} (h:bU W) (hs:Sm W) {a:Int} (a0:0<=a) (a1:a<W.aW):Aq W a:=by
  have hl:=(uu h hs).ln a.toNat (by omega)
  exact⟨a0,a1,by omega,λhn=>hl.2 0 hn⟩
theorem aej {W:Wd} (h:bU W) {a:Nat} (ha:a<W.aj) (hn:0<W.ai a):(W.kinds a=7/\2<=(W.tasks (W.lines a 0).toNat).st/\(W.tasks (W.lines a 0).toNat).st<=4)\/(W.kinds a=8/\(W.tasks (W.lines a 0).toNat).st=6):=by
  have hl:=h.ln a ha
  unfold fN at hl
  simp only[Bool.and_eq_true]at hl
  have ht:=m6.1 hl.2 0 hn
  unfold mw at ht
  simp only[Bool.and_eq_true,beq_iff_eq]at ht
  obtain⟨⟨J,h2⟩,_⟩:=ht
  have hi:=iO (W:=W) (f:=W.lines a 0) (by rw[J];decide)
  rw[fS hi]at J
  have hT:=h.tk (W.lines a 0).toNat (by omega)
  unfold fv at hT
  simp only[show(W.kinds (W.lines a 0).toNat !=6)=false by rw[J];decide,cond_false,Bool.and_eq_true]at hT
  have hT:=hT.2
  have ka:bH W (a:Int)=W.kinds a:=fS (W:=W) (f:=(a:Int)) (by omega)
  unfold oO ui at hT
  dsimp only at hT
  rw[h2,ka]at hT
  cases c1:(W.tasks (W.lines a 0).toNat).st==2<;>cases c2:(W.tasks (W.lines a 0).toNat).st==3<;>cases c3:(W.tasks (W.lines a 0).toNat).st==4<;>cases c4:(W.tasks (W.lines a 0).toNat).st==6<;>cases c5:(W.tasks (W.lines a 0).toNat).st==1<;>simp only[c1,c2,c3,c4,c5,Bool.or_true,Bool.true_or,Bool.or_false,cond_true,cond_false,Bool.and_eq_true,beq_iff_eq]at hT<;>simp only[beq_iff_eq,beq_eq_false_iff_ne]at c1 c2 c3 c4 c5<;>omega
theorem UE {W:Wd} (h:bU W) (hs:Sm W) {b:Int} (b0:0<=b) (b1:b<W.aj) (hk:W.kinds b.toNat=8):C9 W b:=by
  have I:=uu h hs
  have z1:=h.z.lines
  have z2:=h.z.bits
  have z3:=h.z.tasks
  have hl:=I.ln b.toNat (by omega)
  refine⟨af2 h hs b0 (by omega),by omega,I.bt b.toNat (by omega),λhn=>?_⟩
  have hf:=hl.2 0 hn
  refine⟨af1 h hs hf.1 hf.2,?_⟩
  rcases aej h (by omega) hn with e|e
  · omega
  · exact e.2
theorem afZ {W:Wd} {t a k:Int} (h:lU W t a k=0):0<=t/\t<W.aj/\0<=a/\a<W.aj/\W.kinds t.toNat=6/\W.kinds a.toNat=k:=by
  unfold lU at h
  cases J:(decide (t<0)||decide ((W.aj:Int)<=t)||decide (a<0)||decide ((W.aj:Int)<=a))with
  |true=>rw[J]at h;exact absurd (show(2:Int)=0 from h) (by decide)
  |false=>
   cases h2:(W.kinds t.toNat !=6||W.kinds a.toNat !=k)with
   |true=>rw[J,h2]at h;exact absurd (show(3:Int)=0 from h) (by decide)
   |false=>
    simp only[Bool.or_eq_false_iff,decide_eq_false_iff_not,bne_eq_false_iff_eq]at J h2
    omega
end Go.Proofs.YthgmgkabnffniaaGreatDoor
set_option linter.unusedVariables false
set_option linter.unusedSimpArgs false
set_option maxRecDepth 100000
namespace Go.Proofs.YthgmgkabnffniaaGreatDoor
open Go.RowKit Go.Sy
def dD (W:Wd) (b g:Int):Int:=bif decide (b<0)||decide ((W.aj:Int)<=b)then 2 else bif W.kinds b.toNat !=8 then 3 else bif az g 65535 then 1 else 0
def oe (W:Wd) (b g:Int) (i:Nat):aM:=bif dD W b g==0 then(jH W b.toNat g).tasks i else(W).tasks i
def nZ (W:Wd) (b g:Int) (i:Nat):Nat:=bif dD W b g==0 then(jH W b.toNat g).ai i else(W).ai i
def og (W:Wd) (b g:Int) (i k:Nat):Int:=bif dD W b g==0 then(jH W b.toNat g).lines i k else(W).lines i k
def oo (W:Wd) (b g:Int) (i:Nat):Int:=bif dD W b g==0 then(jH W b.toNat g).bits i else(W).bits i
def n_ (W:Wd) (b g:Int) (i:Nat):Nat:=bif dD W b g==0 then(jH W b.toNat g).aq i else(W).aq i
def oh (W:Wd) (b g:Int) (i k:Nat):Int:=bif dD W b g==0 then(jH W b.toNat g).ready i k else(W).ready i k
def lE (W:Wd) (b g:Int):Wd:={W with tasks:=oe W b g,ai:=nZ W b g,lines:=og W b g,bits:=oo W b g,aq:=n_ W b g,ready:=oh W b g}
theorem UD {W:Wd} {b g:Int} (h:(dD W b g==0)=true):lE W b g=jH W b.toNat g:=by
  have bP:oe W b g=(jH W b.toNat g).tasks:=by
    funext i
    unfold oe
    rw[h]
    rfl
  have cy:nZ W b g=(jH W b.toNat g).ai:=by
    funext i
    unfold nZ
    rw[h]
    rfl
  have cz:og W b g=(jH W b.toNat g).lines:=by
    funext i k
    unfold og
    rw[h]
    rfl
  have c_:oo W b g=(jH W b.toNat g).bits:=by
    funext i
    unfold oo
    rw[h]
    rfl
  have cU:n_ W b g=(jH W b.toNat g).aq:=by
    funext i
    unfold n_
    rw[h]
    rfl
  have cV:oh W b g=(jH W b.toNat g).ready:=by
    funext i k
    unfold oh
    rw[h]
    rfl
  show({W with tasks:=oe W b g,ai:=nZ W b g,lines:=og W b g,bits:=oo W b g,aq:=n_ W b g,ready:=oh W b g}:Wd)=_
  rw[bP,cy,cz,c_,cU,cV]<;>kernel_rfl
theorem Jm {W:Wd} {b g:Int} (h:(dD W b g==0)=false):lE W b g=W:=by
  have bP:oe W b g=(W).tasks:=by
    funext i
    unfold oe
    rw[h]
    rfl
  have cy:nZ W b g=(W).ai:=by
    funext i
    unfold nZ
    rw[h]
    rfl
  have cz:og W b g=(W).lines:=by
    funext i k
    unfold og
    rw[h]
    rfl
  have c_:oo W b g=(W).bits:=by
    funext i
    unfold oo
    rw[h]
    rfl
  have cU:n_ W b g=(W).aq:=by
    funext i
    unfold n_
    rw[h]
    rfl
  have cV:oh W b g=(W).ready:=by
    funext i k
    unfold oh
    rw[h]
    rfl
  show({W with tasks:=oe W b g,ai:=nZ W b g,lines:=og W b g,bits:=oo W b g,aq:=n_ W b g,ready:=oh W b g}:Wd)=_
  rw[bP,cy,cz,c_,cU,cV]<;>kernel_rfl
def gC (W:Wd) (t b:Int):Int:=lU W t b 8
def ql (W:Wd) (t b:Int) (i:Nat):aM:=bif gC W t b==0 then(jo W t b).tasks i else(W).tasks i
def qi (W:Wd) (t b:Int) (i:Nat):Nat:=bif gC W t b==0 then(jo W t b).ai i else(W).ai i
def qm (W:Wd) (t b:Int) (i k:Nat):Int:=bif gC W t b==0 then(jo W t b).lines i k else(W).lines i k
def qu (W:Wd) (t b:Int) (i:Nat):Int:=bif gC W t b==0 then(jo W t b).bits i else(W).bits i
def qn (W:Wd) (t b:Int) (i:Nat):Int:=bif gC W t b==0 then(jo W t b).ak i else(W).ak i
def iL (W:Wd) (t b:Int):Wd:={W with tasks:=ql W t b,ai:=qi W t b,lines:=qm W t b,bits:=qu W t b,ak:=qn W t b}
theorem UC {W:Wd} {t b:Int} (h:(gC W t b==0)=true):iL W t b=jo W t b:=by
  have bP:ql W t b=(jo W t b).tasks:=by
    funext i
    unfold ql
    rw[h]
    rfl
  have cy:qi W t b=(jo W t b).ai:=by
    funext i
    unfold qi
    rw[h]
    rfl
  have cz:qm W t b=(jo W t b).lines:=by
    funext i k
    unfold qm
    rw[h]
    rfl
  have c_:qu W t b=(jo W t b).bits:=by
    funext i
    unfold qu
    rw[h]
    rfl
  have gb:qn W t b=(jo W t b).ak:=by
    funext i
    unfold qn
    rw[h]
    rfl
  show({W with tasks:=ql W t b,ai:=qi W t b,lines:=qm W t b,bits:=qu W t b,ak:=qn W t b}:Wd)=_
  rw[bP,cy,cz,c_,gb]<;>kernel_rfl
theorem afX {W:Wd} {t b:Int} (h:(gC W t b==0)=false):iL W t b=W:=by
  have bP:ql W t b=(W).tasks:=by
    funext i
    unfold ql
    rw[h]
    rfl
  have cy:qi W t b=(W).ai:=by
    funext i
    unfold qi
    rw[h]
    rfl
  have cz:qm W t b=(W).lines:=by
    funext i k
    unfold qm
    rw[h]
    rfl
  have c_:qu W t b=(W).bits:=by
    funext i
    unfold qu
    rw[h]
    rfl
  have gb:qn W t b=(W).ak:=by
    funext i
    unfold qn
    rw[h]
    rfl
  show({W with tasks:=ql W t b,ai:=qi W t b,lines:=qm W t b,bits:=qu W t b,ak:=qn W t b}:Wd)=_
  rw[bP,cy,cz,c_,gb]<;>kernel_rfl
structure Tq where
  (b g:Int) (W:Wd)
def Tr:Sy.Spec:=⟨Tq,λ⟨b,g,_⟩=> [.ptr 0 0 none 0 0,.pt true 1 (λ_=> .v (.int .i64 b)),.pt true 1 (λ_=> .v (.int .i64 g))],λ⟨_,_,W⟩=>cP W,λ⟨_,_,W⟩=>Sm W/\bU W,λ⟨b,g,W⟩=> .er 43 66 (dD W b g) (-1),λ⟨b,g,W⟩=>cP (lE W b g),
  λargs mem=>match args with| [a0,a1,a2]=>some ⟨aw (bQ a1 0),aw (bQ a2 0),iG mem 0⟩|_=>none⟩
def aef:aT:=⟨[true],(Tr).g,none⟩
def Ts:Tq->Prop:=λ⟨b,g,W⟩=>let a0:=cond (decide (b<0)) true (decide (((W.aj:Nat):Int)<=b));let b0:=dD W b g;let c0:=((-1):Int)=(-1);let d0:={W with tasks:=oe W b g,ai:=nZ W b g,lines:=og W b g,bits:=oo W b g,aq:=n_ W b g,ready:=oh W b g};let e0:=aD W d0 True;let g0:=Int.toNat b;let h0:=W.kinds (0+g0) !=8;let k0:=[g];let l0:Int:=cond (g_ 1 (λo0:Nat=>!az (List.getD k0 (0+o0) 0) 65535)) 0 1;let q0:=l0 !=0;let r0:=SV.ptr 0 0 none 0 0;tn 9 ((a0=true->((2:Int)≠0/\b0=2/\c0)/\e0)/\(a0=false->tn 5 ((0<=b/\b<((W.aj:Nat):Int))/\(h0=true->((3:Int)≠0/\b0=3/\c0)/\e0)/\(h0=false->True/\(((1=1/\(∀u0:Nat,let v0:=List.getD k0 (0+u0) 0;u0<1->True/\v0=v0))/\True)/\True/\Hu.match_1 (λw0:DZ=>Prop) (DZ.mk 1 (λx0:Nat=>List.getD k0 (0+x0) 0)) (λy0:Nat=>λz0:∀a1:Nat,Int=>y0<=1000))/\(q0=true->(l0=b0/\c0)/\e0)/\(q0=false->((r0=r0/\b=b/\g=g/\True)/\aD W W True/\C9 W b/\0<=g/\g<=65535)/\(b0=0/\c0)/\aD {W with tasks:=qc W g0 g,ai:=p9 W g0 g,lines:=qd W g0 g,bits:=qj W g0 g,aq:=p_ W g0 g,ready:=qe W g0 g} d0 True)))))
set_option maxHeartbeats 2000000 in
theorem aco:aU Tryz.prog aY 27 aef:=bf (.cons YY (.cons aan .nil)) false Tryz.call27 Tryz.func27 (λ_=> []) (V:=Ts) (λ_=>by kernel_rfl) λ⟨b,g,W⟩ hp=>by
  dsimp only[Tr]at hp
  dsimp only[Ts,tn,ar,aD,aI,aJ,aH]
  simp only[bn,bD,eq_self,implies_true,Bool.cond_self]
  try simp only[eP]
  obtain⟨hs,hw⟩:=hp
  refine⟨λh=>?_,λh=>?_⟩
  · skip
    have e:dD W b g=2:=by unfold dD;rw[h];rfl
    refine⟨⟨by decide,e⟩,?_⟩
    have hc:(dD W b g==0)=false:=by rw[e];rfl
    have e_:=Jm hc
    have bP:oe W b g=_:=congrArg Wd.tasks e_
    have cy:nZ W b g=_:=congrArg Wd.ai e_
    have cz:og W b g=_:=congrArg Wd.lines e_
    have c_:oo W b g=_:=congrArg Wd.bits e_
    have cU:n_ W b g=_:=congrArg Wd.aq e_
    have cV:oh W b g=_:=congrArg Wd.ready e_
    simp only[bP,cy,cz,c_,cU,cV]
    clear e_ bP cy cz c_ cU cV
    repeat' (first|exact trivial|exact dk rfl|rfl|refine And.intro ?_ ?_|intro _|fail)
  have hb:0<=b/\b<W.aj:=by
    have h':=h
    simp only[Bool.or_eq_false_iff,decide_eq_false_iff_not]at h'
    omega
  refine⟨hb,λh2=>?_,λh2=>⟨by decide,?_⟩⟩
  · skip
    have e:dD W b g=3:=by unfold dD;rw[h,h2];rfl
    refine⟨⟨by decide,e⟩,?_⟩
    have hc:(dD W b g==0)=false:=by rw[e];rfl
    have e_:=Jm hc
    have bP:oe W b g=_:=congrArg Wd.tasks e_
    have cy:nZ W b g=_:=congrArg Wd.ai e_
    have cz:og W b g=_:=congrArg Wd.lines e_
    have c_:oo W b g=_:=congrArg Wd.bits e_
    have cU:n_ W b g=_:=congrArg Wd.aq e_
    have cV:oh W b g=_:=congrArg Wd.ready e_
    simp only[bP,cy,cz,c_,cU,cV]
    clear e_ bP cy cz c_ cU cV
    repeat' (first|exact trivial|exact dk rfl|rfl|refine And.intro ?_ ?_|intro _|fail)
  have q:(bif g_ 1 λv3=>!az ([g].getD v3 0) 65535 then(0:Int)else 1)=bif az g 65535 then 1 else 0:=by
    rw[ag1]
    show(bif !az g 65535 then(0:Int)else 1)=_
    cases az g 65535<;>rfl
  rw[q]
  cases hf:az g 65535 with
  |true=>
   refine⟨λ_=>?_,λhh=>absurd hh (by decide)⟩
   have e:dD W b g=1:=by unfold dD;rw[h,h2,hf];rfl
   refine⟨e.symm,?_⟩
   have hc:(dD W b g==0)=false:=by rw[e];rfl
   have e_:=Jm hc
   have bP:oe W b g=_:=congrArg Wd.tasks e_
   have cy:nZ W b g=_:=congrArg Wd.ai e_
   have cz:og W b g=_:=congrArg Wd.lines e_
   have c_:oo W b g=_:=congrArg Wd.bits e_
   have cU:n_ W b g=_:=congrArg Wd.aq e_
   have cV:oh W b g=_:=congrArg Wd.ready e_
   simp only[bP,cy,cz,c_,cU,cV]
   clear e_ bP cy cz c_ cU cV
   repeat' (first|exact trivial|exact dk rfl|rfl|refine And.intro ?_ ?_|intro _|fail)
  |false=>
   have e:dD W b g=0:=by unfold dD;rw[h,h2,hf];rfl
   have hc:(dD W b g==0)=true:=by rw[e];rfl
   refine⟨λhh=>absurd hh (by decide),λ_=>⟨⟨UE hw hs hb.1 hb.2 (by simpa using h2),(dL hf).1,(dL hf).2⟩,e,?_⟩⟩
   have e_:=UD hc
   have bP:oe W b g=_:=congrArg Wd.tasks e_
   have cy:nZ W b g=_:=congrArg Wd.ai e_
   have cz:og W b g=_:=congrArg Wd.lines e_
   have c_:oo W b g=_:=congrArg Wd.bits e_
   have cU:n_ W b g=_:=congrArg Wd.aq e_
   have cV:oh W b g=_:=congrArg Wd.ready e_
   simp only[bP,cy,cz,c_,cU,cV]
   clear e_ bP cy cz c_ cU cV
   repeat' (first|exact trivial|exact dk rfl|rfl|refine And.intro ?_ ?_|intro _|fail)
structure Tt where
  (W:Wd) (b g:Int)
def Tu:Sy.Spec:=⟨Tt,λ⟨W,b,g⟩=> [ll W,.fn 27 2 (aL [.pt true 1 (λ_=> .v (.int .i64 b)),.pt true 1 (λ_=> .v (.int .i64 g))])],λ_=> [],λ⟨W,_,_⟩=>Sm W/\bU W,λ⟨W,b,g⟩=> .tp 2 (aL [oZ (mo (dD W b g) (lE W b g)),.er 43 66 (dD W b g) (-1)]),λ_=> [],
  λargs mem=>match args with| [a0,a1]=>(match mA 27 a1 with|true=>some ⟨nE a0,aw (bQ (fl a1 0) 0),aw (bQ (fl a1 1) 0)⟩|false=>none)|_=>none⟩
def aeg:aT:=⟨[],(Tu).g,none⟩
def Tv:Tt->Prop:=λ⟨W,b,g⟩=>let a0:=W.ay;let b0:=W.aj;let c0:=W.al;let d0:=W.aP;let e0:=W.aW;let g0:=W.aN;let h0:=W.aC;let k0:=W.aS;let l0:=W.aQ;let o0:=W.aK;let q0:=(((((((((((True/\a0=a0/\(∀r0:Nat,r0<a0->True/\W.af r0=W.af r0))/\b0=b0/\(∀u0:Nat,u0<b0->True/\W.kinds u0=W.kinds u0))/\c0=c0/\(∀v0:Nat,v0<c0->aJ (W.aa v0) (W.aa v0)))/\d0=d0/\(∀w0:Nat,w0<d0->aI (W.tasks w0) (W.tasks w0)))/\e0=e0/\(∀x0:Nat,let y0:=W.ai x0;x0<e0->True/\y0=y0/\(∀z0:Nat,z0<y0->True/\W.lines x0 z0=W.lines x0 z0)))/\g0=g0/\(∀a1:Nat,a1<g0->True/\W.bits a1=W.bits a1))/\h0=h0/\(∀b1:Nat,b1<h0->True/\W.ak b1=W.ak b1))/\k0=k0/\(∀c1:Nat,let d1:=W.aq c1;c1<k0->True/\d1=d1/\(∀e1:Nat,e1<d1->True/\W.ready c1 e1=W.ready c1 e1)))/\l0=l0/\(∀g1:Nat,let J:=W.aG g1;g1<l0->True/\J=J/\(∀k1:Nat,k1<J->aH (W.aA g1 k1) (W.aA g1 k1))))/\o0=o0/\(∀l1:Nat,l1<o0->True/\W.aB l1=W.aB l1))/\W.time=W.time)/\True;let o1:=tn 10 True;let q1:=dD W b g;let r1:=mo q1 (lE W b g);let u1:=r1.ay;let v1:=r1.aj;let w1:=r1.al;let x1:=r1.aP;let y1:=r1.aW;let z1:=r1.aN;let a2:=r1.aC;let b2:=r1.aS;let c2:=r1.aQ;let d2:=r1.aK;let e2:=r1.time;let g2:=True/\((((((((((True/\u1=0)/\v1=0)/\w1=0)/\x1=0)/\y1=0)/\z1=0)/\a2=0)/\b2=0)/\c2=0)/\d2=0)/\0=e2;let h2:=((-1):Int)=(-1);let k2:=SV.ptr 0 0 none 0 0;let l2:=q1 !=0;tn 2 ((q0/\True/\yh.match_1 (λo2:rE=>Prop) (rE.mk W) (λq2:Wd=>Sm q2))/\((wE W !=0)=true->o1/\(g2/\(8:Int)≠0/\q1=8/\h2)/\True)/\((wE W !=0)=false->(q0/\True/\
    AY.match_1 (λr2:ue=>Prop) (ue.mk W) (λu2:Wd=>Lg u2))/\o1/\((k2=k2/\(True/\b=b)/\(True/\g=g)/\True)/\aD W W True/\Sm W/\bU W)/\(l2=true->o1/\(g2/\q1=q1/\h2)/\True)/\(l2=false->o1/\((True/\((((((((((True/\a0=u1/\(∀v2:Nat,v2<u1->True/\W.af (0+v2)=r1.af v2))/\b0=v1/\(∀w2:Nat,w2<v1->True/\W.kinds (0+w2)=r1.kinds w2))/\c0=w1/\(∀x2:Nat,x2<w1->aJ (W.aa (0+x2)) (r1.aa x2)))/\d0=x1/\(∀y2:Nat,y2<x1->aI (oe W b g (0+y2)) (r1.tasks y2)))/\e0=y1/\(∀z2:Nat,z2<y1->True/\nZ W b g (0+z2)=r1.ai z2/\(∀a3:Nat,a3<r1.ai z2->True/\og W b g (0+z2) (0+a3)=r1.lines z2 a3)))/\g0=z1/\(∀b3:Nat,b3<z1->True/\oo W b g (0+b3)=r1.bits b3))/\h0=a2/\(∀c3:Nat,c3<a2->True/\W.ak (0+c3)=r1.ak c3))/\k0=b2/\(∀d3:Nat,d3<b2->True/\n_ W b g (0+d3)=r1.aq d3/\(∀e3:Nat,e3<r1.aq d3->True/\oh W b g (0+d3) (0+e3)=r1.ready d3 e3)))/\l0=c2/\(∀g3:Nat,g3<c2->True/\W.aG (0+g3)=r1.aG g3/\(∀h3:Nat,h3<r1.aG g3->aH (W.aA (0+g3) (0+h3)) (r1.aA g3 h3))))/\o0=d2/\(∀k3:Nat,k3<d2->True/\W.aB (0+k3)=r1.aB k3))/\W.time=e2)/\q1=0/\h2)/\True)))
set_option maxHeartbeats 2000000 in
theorem acp:aU Tryz.prog aY 19 aeg:=bf (.cons DC (.cons G0 (.cons aco .nil))) false Tryz.call19 Tryz.func19 (λ_=> []) (V:=Tv) (λ_=>by kernel_rfl) λ⟨W,b,g⟩ hp=>by
  dsimp only[Tu]at hp
  dsimp only[Tv,tn,ar,aD,aI,aJ,aH]
  simp only[bn,bD,eq_self,implies_true,Bool.cond_self]
  obtain⟨hs,hw⟩:=hp
  have h0:=Fp hw
  refine⟨hs,λh=>absurd (by simpa using h0) (by simpa using h),λ_=>⟨Jl hs,⟨hs,hw⟩,λh2=>?_,λh2=>?_⟩⟩
  · simp only[λX=>Tl X (LV h2)]
    repeat' (first|exact trivial|rfl|refine And.intro ?_ ?_|intro _|exact absurd ‹_› (Nat.not_lt_zero _)|fail)
  · simp only[λX=>Q3 X (C1 h2)]
    repeat' (first|exact trivial|rfl|refine And.intro ?_ ?_|intro _|exact absurd ‹_› (Nat.not_lt_zero _)|fail)
    exact eq_of_beq (C1 h2)
structure Tw where
  (W:Wd) (b g:Int)
def wv:Sy.Spec:=⟨Tw,λ⟨W,b,g⟩=> [ll W,.v (.int .i64 b),.v (.int .i64 g)],λ_=> [],λ⟨W,_,_⟩=>Sm W/\bU W,λ⟨W,b,g⟩=> .tp 2 (aL [oZ (mo (dD W b g) (lE W b g)),.er 43 66 (dD W b g) (-1)]),λ_=> [],
  λargs mem=>match args with| [a0,a1,a2]=>some ⟨nE a0,aw (a1),aw (a2)⟩|_=>none⟩
def IV:Tw->Prop:=λ⟨W,b,g⟩=>let a0:=W.aj;let b0:=W.al;let c0:=W.aP;let d0:=W.aW;let e0:=W.aC;let g0:=W.aS;let h0:=dD W b g;let k0:=mo h0 (lE W b g);let l0:=k0.ay;let o0:=k0.aj;let q0:=k0.al;let r0:=k0.aP;let u0:=k0.aW;let v0:=k0.aN;let w0:=k0.aC;let x0:=k0.aS;let y0:=k0.aQ;let z0:=k0.aK;let a1:=k0.time;tn 4 ((((((((((((((True/\W.ay=W.ay/\(∀b1:Nat,b1<W.ay->True/\W.af b1=W.af b1))/\a0=a0/\(∀c1:Nat,c1<a0->True/\W.kinds c1=W.kinds c1))/\b0=b0/\(∀d1:Nat,d1<b0->aJ (W.aa d1) (W.aa d1)))/\c0=c0/\(∀e1:Nat,e1<c0->aI (W.tasks e1) (W.tasks e1)))/\d0=d0/\(∀g1:Nat,let J:=W.ai g1;g1<d0->True/\J=J/\(∀k1:Nat,k1<J->True/\W.lines g1 k1=W.lines g1 k1)))/\W.aN=W.aN/\(∀l1:Nat,l1<W.aN->True/\W.bits l1=W.bits l1))/\e0=e0/\(∀o1:Nat,o1<e0->True/\W.ak o1=W.ak o1))/\g0=g0/\(∀q1:Nat,let r1:=W.aq q1;q1<g0->True/\r1=r1/\(∀u1:Nat,u1<r1->True/\W.ready q1 u1=W.ready q1 u1)))/\W.aQ=W.aQ/\(∀v1:Nat,let w1:=W.aG v1;v1<W.aQ->True/\w1=w1/\(∀x1:Nat,x1<w1->aH (W.aA v1 x1) (W.aA v1 x1))))/\W.aK=W.aK/\(∀y1:Nat,y1<W.aK->True/\W.aB y1=W.aB y1))/\W.time=W.time)/\(tn 2 (b=b)/\True/\g=g)/\True)/\True/\Sm W/\bU W)/\tn 10 True/\((True/\((((((((((True/\l0=l0/\(∀z1:Nat,z1<l0->True/\k0.af z1=k0.af z1))/\o0=o0/\(∀a2:Nat,a2<o0->True/\k0.kinds a2=k0.kinds a2))/\q0=q0/\(∀b2:Nat,b2<q0->aJ (k0.aa b2) (k0.aa b2)))/\r0=r0/\(∀c2:Nat,c2<r0->aI (k0.tasks c2) (k0.tasks c2)))/\u0=u0/\(∀d2:Nat,let e2:=k0.ai d2;d2<u0->True/\e2=e2/\(∀g2:Nat,g2<e2->True/\k0.lines d2 g2=k0.lines d2 g2)))/\v0=v0/\(∀h2:Nat,
    h2<v0->True/\k0.bits h2=k0.bits h2))/\w0=w0/\(∀k2:Nat,k2<w0->True/\k0.ak k2=k0.ak k2))/\x0=x0/\(∀l2:Nat,let o2:=k0.aq l2;l2<x0->True/\o2=o2/\(∀q2:Nat,q2<o2->True/\k0.ready l2 q2=k0.ready l2 q2)))/\y0=y0/\(∀r2:Nat,let u2:=k0.aG r2;r2<y0->True/\u2=u2/\(∀v2:Nat,v2<u2->aH (k0.aA r2 v2) (k0.aA r2 v2))))/\z0=z0/\(∀w2:Nat,w2<z0->True/\k0.aB w2=k0.aB w2))/\a1=a1)/\h0=h0/\((-1):Int)=(-1))/\True)
set_option maxHeartbeats 2000000 in
theorem acq: ∀x,wv.pre x->lY Tryz.prog aY 10 (wv.args x) (wv.mem x) (wv.res x) (wv.bI x):=λx hp=>Bl (.cons acp .nil) false Tryz.func10 ((λ_=> []) x) (V:=IV x) (by kernel_rfl)<|(λ⟨W,b,g⟩ hp=>by
  dsimp only[wv]at hp
  dsimp only[IV,tn,ar,aD,aI,aJ,aH]
  simp only[bn,bD,eq_self,implies_true,Bool.cond_self]
  try simp only[eP]
  exact hp
  : ∀x,wv.pre x->IV x) x hp
structure Tx where
  (t b:Int) (W:Wd)
def Ty:Sy.Spec:=⟨Tx,λ⟨t,b,_⟩=> [.ptr 0 0 none 0 0,.pt true 1 (λ_=> .v (.int .i64 t)),.pt true 1 (λ_=> .v (.int .i64 b))],λ⟨_,_,W⟩=>cP W,λ⟨_,_,W⟩=>Sm W/\bU W,λ⟨t,b,W⟩=> .er 43 66 (gC W t b) (-1),λ⟨t,b,W⟩=>cP (iL W t b),
  λargs mem=>match args with| [a0,a1,a2]=>some ⟨aw (bQ a1 0),aw (bQ a2 0),iG mem 0⟩|_=>none⟩
def aeh:aT:=⟨[true],(Ty).g,none⟩
def Tz:Tx->Prop:=λ⟨t,b,W⟩=>let a0:=W.ay;let b0:=W.aj;let c0:=W.al;let d0:=W.aP;let e0:=W.aW;let g0:=W.aN;let h0:=W.aC;let k0:=W.aS;let l0:=W.aQ;let o0:=W.aK;let q0:=Wd.mk a0 (λr0:Nat=>W.af (0+r0)) b0 (λu0:Nat=>W.kinds (0+u0)) c0 (λv0:Nat=>W.aa (0+v0)) d0 (λw0:Nat=>W.tasks (0+w0)) e0 (λx0:Nat=>W.ai (0+x0)) (λy0:Nat=>λz0:Nat=>W.lines (0+y0) (0+z0)) g0 (λa1:Nat=>W.bits (0+a1)) h0 (λb1:Nat=>W.ak (0+b1)) k0 (λc1:Nat=>W.aq (0+c1)) (λd1:Nat=>λe1:Nat=>W.ready (0+d1) (0+e1)) l0 (λg1:Nat=>W.aG (0+g1)) (λJ:Nat=>λk1:Nat=>W.aA (0+J) (0+k1)) o0 (λl1:Nat=>W.aB (0+l1)) W.time;let o1:=lU q0 t b 8;let q1:=o1 !=0;let r1:={W with tasks:=ql W t b,ai:=qi W t b,lines:=qm W t b,bits:=qu W t b,ak:=qn W t b};let u1:=SV.ptr 0 0 none 0 0;(((((((((((((True/\a0=a0/\(∀v1:Nat,v1<a0->True/\W.af (0+v1)=W.af (0+v1)))/\b0=b0/\(∀w1:Nat,let x1:=W.kinds (0+w1);w1<b0->True/\x1=x1))/\c0=c0/\(∀y1:Nat,let z1:=W.aa (0+y1);y1<c0->aJ z1 z1))/\d0=d0/\(∀a2:Nat,let b2:=W.tasks (0+a2);a2<d0->aI b2 b2))/\e0=e0/\(∀c2:Nat,let d2:=W.ai (0+c2);c2<e0->True/\d2=d2/\(∀e2:Nat,let g2:=W.lines (0+c2) (0+e2);e2<d2->True/\g2=g2)))/\g0=g0/\(∀h2:Nat,h2<g0->True/\W.bits (0+h2)=W.bits (0+h2)))/\h0=h0/\(∀k2:Nat,let l2:=W.ak (0+k2);k2<h0->True/\l2=l2))/\k0=k0/\(∀o2:Nat,let q2:=W.aq (0+o2);o2<k0->True/\q2=q2/\(∀r2:Nat,let u2:=W.ready (0+o2) (0+r2);r2<q2->True/\u2=u2)))/\l0=l0/\(∀v2:Nat,let w2:=W.aG (0+v2);v2<l0->True/\w2=w2/\(∀x2:Nat,
    let y2:=W.aA (0+v2) (0+x2);x2<w2->aH y2 y2)))/\o0=o0/\(∀z2:Nat,z2<o0->True/\W.aB (0+z2)=W.aB (0+z2)))/\W.time=W.time)/\t=t/\b=b/\(8:Int)=8/\True)/\True/\IP.match_1 (λa3:EL=>Prop) (EL.mk q0 t b 8) (λb3:Wd=>λc3:Int=>λd3:Int=>λe3:Int=>L6 b3))/\(q1=true->(o1=gC W t b/\((-1):Int)=(-1))/\aD W r1 True)/\(q1=false->((u1=u1/\t=t/\b=b/\True)/\aD W W True/\jd W t/\C9 W b/\h0<=100000)/\(gC W t b=0/\((-1):Int)=(-1))/\aD {W with tasks:=qf W t b,ai:=qa W t b,lines:=qg W t b,bits:=qk W t b,ak:=qh W t b} r1 True)
set_option maxHeartbeats 2000000 in
theorem acr:aU Tryz.prog aY 24 aeh:=bf (.cons ab6 (.cons aam .nil)) false Tryz.call24 Tryz.func24 (λ_=> []) (V:=Tz) (λ_=>by kernel_rfl) λ⟨t,b,W⟩ hp=>by
  dsimp only[Ty]at hp
  dsimp only[Tz,tn,ar,aD,aI,aJ,aH]
  simp only[bn,bD,eq_self,implies_true,Bool.cond_self]
  try simp only[eP]
  obtain⟨hs,hw⟩:=hp
  refine⟨afY hw hs,λh=>?_,λh=>?_⟩
  · skip
    have hc:(gC W t b==0)=false:=by show(lU W t b 8==0)=false;simpa using h
    refine⟨rfl,?_⟩
    have e_:=afX hc
    have bP:ql W t b=_:=congrArg Wd.tasks e_
    have cy:qi W t b=_:=congrArg Wd.ai e_
    have cz:qm W t b=_:=congrArg Wd.lines e_
    have c_:qu W t b=_:=congrArg Wd.bits e_
    have gb:qn W t b=_:=congrArg Wd.ak e_
    simp only[bP,cy,cz,c_,gb]
    clear e_ bP cy cz c_ gb
    repeat' (first|exact trivial|exact dk rfl|rfl|refine And.intro ?_ ?_|intro _|fail)
  · skip
    have e:lU W t b 8=0:=by simpa using h
    have hc:(gC W t b==0)=true:=by show(lU W t b 8==0)=true;rw[e];rfl
    obtain⟨t0,t1,b0,b1,k1,k2⟩:=afZ e
    have z1:=hw.z.tasks
    have z2:=hw.z.c1
    refine⟨⟨af0 hw hs t0 (by omega),UE hw hs b0 b1 k2,by omega⟩,e,?_⟩
    have e_:=UC hc
    have bP:ql W t b=_:=congrArg Wd.tasks e_
    have cy:qi W t b=_:=congrArg Wd.ai e_
    have cz:qm W t b=_:=congrArg Wd.lines e_
    have c_:qu W t b=_:=congrArg Wd.bits e_
    have gb:qn W t b=_:=congrArg Wd.ak e_
    simp only[bP,cy,cz,c_,gb]
    clear e_ bP cy cz c_ gb
    repeat' (first|exact trivial|exact dk rfl|rfl|refine And.intro ?_ ?_|intro _|fail)
structure TA where
  (W:Wd) (t b:Int)
def TC:Sy.Spec:=⟨TA,λ⟨W,t,b⟩=> [ll W,.fn 24 2 (aL [.pt true 1 (λ_=> .v (.int .i64 t)),.pt true 1 (λ_=> .v (.int .i64 b))])],λ_=> [],λ⟨W,_,_⟩=>Sm W/\bU W,λ⟨W,t,b⟩=> .tp 2 (aL [oZ (mo (gC W t b) (iL W t b)),.er 43 66 (gC W t b) (-1)]),λ_=> [],
  λargs mem=>match args with| [a0,a1]=>(match mA 24 a1 with|true=>some ⟨nE a0,aw (bQ (fl a1 0) 0),aw (bQ (fl a1 1) 0)⟩|false=>none)|_=>none⟩
def aei:aT:=⟨[],(TC).g,none⟩
def TD:TA->Prop:=λ⟨W,t,b⟩=>let a0:=W.ay;let b0:=W.aj;let c0:=W.al;let d0:=W.aP;let e0:=W.aW;let g0:=W.aN;let h0:=W.aC;let k0:=W.aS;let l0:=W.aQ;let o0:=W.aK;let q0:=(((((((((((True/\a0=a0/\(∀r0:Nat,r0<a0->True/\W.af r0=W.af r0))/\b0=b0/\(∀u0:Nat,u0<b0->True/\W.kinds u0=W.kinds u0))/\c0=c0/\(∀v0:Nat,v0<c0->aJ (W.aa v0) (W.aa v0)))/\d0=d0/\(∀w0:Nat,w0<d0->aI (W.tasks w0) (W.tasks w0)))/\e0=e0/\(∀x0:Nat,let y0:=W.ai x0;x0<e0->True/\y0=y0/\(∀z0:Nat,z0<y0->True/\W.lines x0 z0=W.lines x0 z0)))/\g0=g0/\(∀a1:Nat,a1<g0->True/\W.bits a1=W.bits a1))/\h0=h0/\(∀b1:Nat,b1<h0->True/\W.ak b1=W.ak b1))/\k0=k0/\(∀c1:Nat,let d1:=W.aq c1;c1<k0->True/\d1=d1/\(∀e1:Nat,e1<d1->True/\W.ready c1 e1=W.ready c1 e1)))/\l0=l0/\(∀g1:Nat,let J:=W.aG g1;g1<l0->True/\J=J/\(∀k1:Nat,k1<J->aH (W.aA g1 k1) (W.aA g1 k1))))/\o0=o0/\(∀l1:Nat,l1<o0->True/\W.aB l1=W.aB l1))/\W.time=W.time)/\True;let o1:=tn 10 True;let q1:=gC W t b;let r1:=mo q1 (iL W t b);let u1:=r1.ay;let v1:=r1.aj;let w1:=r1.al;let x1:=r1.aP;let y1:=r1.aW;let z1:=r1.aN;let a2:=r1.aC;let b2:=r1.aS;let c2:=r1.aQ;let d2:=r1.aK;let e2:=r1.time;let g2:=True/\((((((((((True/\u1=0)/\v1=0)/\w1=0)/\x1=0)/\y1=0)/\z1=0)/\a2=0)/\b2=0)/\c2=0)/\d2=0)/\0=e2;let h2:=((-1):Int)=(-1);let k2:=SV.ptr 0 0 none 0 0;let l2:=q1 !=0;tn 2 ((q0/\True/\yh.match_1 (λo2:rE=>Prop) (rE.mk W) (λq2:Wd=>Sm q2))/\((wE W !=0)=true->o1/\(g2/\(8:Int)≠0/\q1=8/\h2)/\True)/\((wE W !=0)=false->(q0/\True/\
    AY.match_1 (λr2:ue=>Prop) (ue.mk W) (λu2:Wd=>Lg u2))/\o1/\((k2=k2/\(True/\t=t)/\(True/\b=b)/\True)/\aD W W True/\Sm W/\bU W)/\(l2=true->o1/\(g2/\q1=q1/\h2)/\True)/\(l2=false->o1/\((True/\((((((((((True/\a0=u1/\(∀v2:Nat,v2<u1->True/\W.af (0+v2)=r1.af v2))/\b0=v1/\(∀w2:Nat,w2<v1->True/\W.kinds (0+w2)=r1.kinds w2))/\c0=w1/\(∀x2:Nat,x2<w1->aJ (W.aa (0+x2)) (r1.aa x2)))/\d0=x1/\(∀y2:Nat,y2<x1->aI (ql W t b (0+y2)) (r1.tasks y2)))/\e0=y1/\(∀z2:Nat,z2<y1->True/\qi W t b (0+z2)=r1.ai z2/\(∀a3:Nat,a3<r1.ai z2->True/\qm W t b (0+z2) (0+a3)=r1.lines z2 a3)))/\g0=z1/\(∀b3:Nat,b3<z1->True/\qu W t b (0+b3)=r1.bits b3))/\h0=a2/\(∀c3:Nat,c3<a2->True/\qn W t b (0+c3)=r1.ak c3))/\k0=b2/\(∀d3:Nat,d3<b2->True/\W.aq (0+d3)=r1.aq d3/\(∀e3:Nat,e3<r1.aq d3->True/\W.ready (0+d3) (0+e3)=r1.ready d3 e3)))/\l0=c2/\(∀g3:Nat,g3<c2->True/\W.aG (0+g3)=r1.aG g3/\(∀h3:Nat,h3<r1.aG g3->aH (W.aA (0+g3) (0+h3)) (r1.aA g3 h3))))/\o0=d2/\(∀k3:Nat,k3<d2->True/\W.aB (0+k3)=r1.aB k3))/\W.time=e2)/\q1=0/\h2)/\True)))
set_option maxHeartbeats 2000000 in
theorem acs:aU Tryz.prog aY 19 aei:=bf (.cons DC (.cons G0 (.cons acr .nil))) false Tryz.call19 Tryz.func19 (λ_=> []) (V:=TD) (λ_=>by kernel_rfl) λ⟨W,t,b⟩ hp=>by
  dsimp only[TC]at hp
  dsimp only[TD,tn,ar,aD,aI,aJ,aH]
  simp only[bn,bD,eq_self,implies_true,Bool.cond_self]
  obtain⟨hs,hw⟩:=hp
  have h0:=Fp hw
  refine⟨hs,λh=>absurd (by simpa using h0) (by simpa using h),λ_=>⟨Jl hs,⟨hs,hw⟩,λh2=>?_,λh2=>?_⟩⟩
  · simp only[λX=>Tl X (LV h2)]
    repeat' (first|exact trivial|rfl|refine And.intro ?_ ?_|intro _|exact absurd ‹_› (Nat.not_lt_zero _)|fail)
  · simp only[λX=>Q3 X (C1 h2)]
    repeat' (first|exact trivial|rfl|refine And.intro ?_ ?_|intro _|exact absurd ‹_› (Nat.not_lt_zero _)|fail)
    exact eq_of_beq (C1 h2)
structure TE where
  (W:Wd) (t b:Int)
def wx:Sy.Spec:=⟨TE,λ⟨W,t,b⟩=> [ll W,.v (.int .i64 t),.v (.int .i64 b)],λ_=> [],λ⟨W,_,_⟩=>Sm W/\bU W,λ⟨W,t,b⟩=> .tp 2 (aL [oZ (mo (gC W t b) (iL W t b)),.er 43 66 (gC W t b) (-1)]),λ_=> [],
  λargs mem=>match args with| [a0,a1,a2]=>some ⟨nE a0,aw (a1),aw (a2)⟩|_=>none⟩
def IW:TE->Prop:=λ⟨W,t,b⟩=>let a0:=W.aj;let b0:=W.al;let c0:=W.aP;let d0:=W.aW;let e0:=W.aC;let g0:=W.aS;let h0:=gC W t b;let k0:=mo h0 (iL W t b);let l0:=k0.ay;let o0:=k0.aj;let q0:=k0.al;let r0:=k0.aP;let u0:=k0.aW;let v0:=k0.aN;let w0:=k0.aC;let x0:=k0.aS;let y0:=k0.aQ;let z0:=k0.aK;let a1:=k0.time;tn 4 ((((((((((((((True/\W.ay=W.ay/\(∀b1:Nat,b1<W.ay->True/\W.af b1=W.af b1))/\a0=a0/\(∀c1:Nat,c1<a0->True/\W.kinds c1=W.kinds c1))/\b0=b0/\(∀d1:Nat,d1<b0->aJ (W.aa d1) (W.aa d1)))/\c0=c0/\(∀e1:Nat,e1<c0->aI (W.tasks e1) (W.tasks e1)))/\d0=d0/\(∀g1:Nat,let J:=W.ai g1;g1<d0->True/\J=J/\(∀k1:Nat,k1<J->True/\W.lines g1 k1=W.lines g1 k1)))/\W.aN=W.aN/\(∀l1:Nat,l1<W.aN->True/\W.bits l1=W.bits l1))/\e0=e0/\(∀o1:Nat,o1<e0->True/\W.ak o1=W.ak o1))/\g0=g0/\(∀q1:Nat,let r1:=W.aq q1;q1<g0->True/\r1=r1/\(∀u1:Nat,u1<r1->True/\W.ready q1 u1=W.ready q1 u1)))/\W.aQ=W.aQ/\(∀v1:Nat,let w1:=W.aG v1;v1<W.aQ->True/\w1=w1/\(∀x1:Nat,x1<w1->aH (W.aA v1 x1) (W.aA v1 x1))))/\W.aK=W.aK/\(∀y1:Nat,y1<W.aK->True/\W.aB y1=W.aB y1))/\W.time=W.time)/\(tn 2 (t=t)/\True/\b=b)/\True)/\True/\Sm W/\bU W)/\tn 10 True/\((True/\((((((((((True/\l0=l0/\(∀z1:Nat,z1<l0->True/\k0.af z1=k0.af z1))/\o0=o0/\(∀a2:Nat,a2<o0->True/\k0.kinds a2=k0.kinds a2))/\q0=q0/\(∀b2:Nat,b2<q0->aJ (k0.aa b2) (k0.aa b2)))/\r0=r0/\(∀c2:Nat,c2<r0->aI (k0.tasks c2) (k0.tasks c2)))/\u0=u0/\(∀d2:Nat,let e2:=k0.ai d2;d2<u0->True/\e2=e2/\(∀g2:Nat,g2<e2->True/\k0.lines d2 g2=k0.lines d2 g2)))/\v0=v0/\(∀h2:Nat,
    h2<v0->True/\k0.bits h2=k0.bits h2))/\w0=w0/\(∀k2:Nat,k2<w0->True/\k0.ak k2=k0.ak k2))/\x0=x0/\(∀l2:Nat,let o2:=k0.aq l2;l2<x0->True/\o2=o2/\(∀q2:Nat,q2<o2->True/\k0.ready l2 q2=k0.ready l2 q2)))/\y0=y0/\(∀r2:Nat,let u2:=k0.aG r2;r2<y0->True/\u2=u2/\(∀v2:Nat,v2<u2->aH (k0.aA r2 v2) (k0.aA r2 v2))))/\z0=z0/\(∀w2:Nat,w2<z0->True/\k0.aB w2=k0.aB w2))/\a1=a1)/\h0=h0/\((-1):Int)=(-1))/\True)
set_option maxHeartbeats 2000000 in
theorem acu: ∀x,wx.pre x->lY Tryz.prog aY 9 (wx.args x) (wx.mem x) (wx.res x) (wx.bI x):=λx hp=>Bl (.cons acs .nil) false Tryz.func9 ((λ_=> []) x) (V:=IW x) (by kernel_rfl)<|(λ⟨W,t,b⟩ hp=>by
  dsimp only[wx]at hp
  dsimp only[IW,tn,ar,aD,aI,aJ,aH]
  simp only[bn,bD,eq_self,implies_true,Bool.cond_self]
  try simp only[eP]
  exact hp
  : ∀x,wx.pre x->IW x) x hp
end Go.Proofs.YthgmgkabnffniaaGreatDoor
set_option linter.unusedVariables false
set_option linter.unusedSimpArgs false
set_option maxRecDepth 100000
namespace Go.Proofs.YthgmgkabnffniaaGreatDoor
open Go.RowKit Go.Sy
theorem afV {x:Int} (h:0<=x):gD 0 x=x:=by
  unfold gD
  show((0|||x.toNat:Nat):Int)=x
  rw[Nat.zero_or];omega
theorem Tm {x:Int} (h:0<=x):gD x 0=x:=by
  unfold gD
  show((x.toNat|||0:Nat):Int)=x
  rw[Nat.or_zero];omega
theorem afW {x y z:Int}:gD (gD x y) z=gD x (gD y z):=by
  unfold gD
  show(((x.toNat|||y.toNat:Nat):Int).toNat|||z.toNat:Nat)=((x.toNat|||((y.toNat|||z.toNat:Nat):Int).toNat:Nat):Int)
  rw[Int.toNat_natCast,Int.toNat_natCast,Nat.or_assoc]
theorem Tn {x y:Int} (hx:0<=x/\x<=65535) (hy:0<=y/\y<=65535):0<=gD x y/\gD x y<=65535:=by
  unfold gD
  have:=PT (op:=7) (a:=x.toNat) (b:=y.toNat) (n:=16) (by omega) (by omega)
  omega
structure TB (W:Wd) (r h:Int) (e:Prop):Prop where
  s:bU W
  k:W.aj=24
  c:W.aC=2
  k8:W.kinds 8=6
  kb:W.kinds 11=8
  r0:0<=r/\r<=65535
  h0:0<=h/\h<=65535
  a:(e/\(W.tasks 8).st=1/\W.ai 11=0/\W.bits 11=r/\h=0/\(W.tasks 8).core=0/\W.ak 0=8)\/(¬e/\(W.tasks 8).st=1/\W.ai 11=0/\gD h (W.bits 11)=r)\/(¬e/\(W.tasks 8).st=6/\W.ai 11=1/\W.lines 11 0=8/\W.bits 11=0/\r=0/\h=0)
theorem TB.b0 {W:Wd} {r h:Int} {e:Prop} (t:TB W r h e):0<=W.bits 11/\W.bits 11<=65535:=(eh.1 (t.s.ln 11 (by rw[t.k];decide))).2.2.1
theorem TB.JN {W:Wd} {r h:Int} {e:Prop} (t:TB W r h e) (he:e):gC W 8 11=0/\bU (iL W 8 11)/\(((iL W 8 11).tasks 8).st=1->TB (iL W 8 11) r ((iL W 8 11).tasks 8).r2 False)/\(((iL W 8 11).tasks 8).st≠1->TB (iL W 8 11) r h False):=by
  have b0:=t.b0
  obtain⟨s,k,c,k8,kb,r0,h0,a⟩:=t
  rcases a with a|a|a
  · obtain⟨_,a1,a2,a3,a4,a5,a6⟩:=a
    have hE:lU W 8 11 8=0:=by
      unfold lU
      rw[show W.kinds (8:Int).toNat=6 from k8,show W.kinds (11:Int).toNat=8 from kb,show(W.tasks (8:Int).toNat).core=0 from a5,show W.ak (0:Int).toNat=8 from a6,k];rfl
    have hX:iL W 8 11=jo W 8 11:=UC (by unfold gC;rw[hE];rfl)
    have hS:bU (jo W 8 11):=s.xI (s.t0.JN hE) rfl rfl rfl rfl rfl rfl rfl rfl
    rw[hX]
    refine⟨hE,hS,?_⟩
    cases q:W.bits (11:Int).toNat==0 with
    |true=>
     have q0:W.bits 11=0:=eq_of_beq q
     have e2:((jo W 8 11).tasks 8).st=6:=by rw[yB q];rfl
     refine⟨λJ=>absurd J (by rw[e2];decide),λ_=>⟨hS,k,c,k8,kb,r0,h0,.inr (.inr ⟨id,e2,?_,?_,?_,by omega,a4⟩)⟩⟩
     · rw[yB q];show ah W.ai 11 (W.ai 11+1) 11=1;rw[aZ,a2]
     · rw[yB q];show ah W.lines 11 (jc (W.ai 11) (W.lines 11) 8) 11 0=8;rw[aZ,a2];rfl
     · rw[yB q];exact q0
    |false=>
     have e2:((jo W 8 11).tasks 8).st=1:=by rw[yC q];show(ah W.tasks 8 {W.tasks 8 with r1:=0,r2:=W.bits 11} 8).st=1;rw[aZ];exact a1
     have e3:((jo W 8 11).tasks 8).r2=W.bits 11:=by rw[yC q];show(ah W.tasks 8 {W.tasks 8 with r1:=0,r2:=W.bits 11} 8).r2=W.bits 11;rw[aZ]
     refine⟨λ_=>⟨hS,k,c,k8,kb,r0,by rw[e3];exact b0,.inr (.inl ⟨id,e2,?_,?_⟩)⟩,λJ=>absurd e2 J⟩
     · rw[yC q];exact a2
     · have e4:(jo W 8 11).bits 11=0:=by rw[yC q];show ah W.bits 11 0 11=0;rw[aZ]
       rw[e3,e4,Tm b0.1,a3]
  · exact absurd he a.1
  · exact absurd he a.1
theorem TB.ring {W:Wd} {r h n:Int} {e:Prop} (t:TB W r h e) (hn:0<=n/\n<=65535):dD W 11 n=0/\bU (lE W 11 n)/\((W.tasks 8).st=6->TB (lE W 11 n) (gD r n) ((lE W 11 n).tasks 8).r2 e)/\((W.tasks 8).st≠6->TB (lE W 11 n) (gD r n) h e):=by
  have b0:=t.b0
  obtain⟨s,k,c,k8,kb,r0,h0,a⟩:=t
  have hE:dD W 11 n=0:=by
    unfold dD
    rw[show W.kinds (11:Int).toNat=8 from kb,fQ hn,k];rfl
  have hX:lE W 11 n=jH W 11 n:=UD (by rw[hE];rfl)
  have hS:bU (jH W 11 n):=s.xI (s.t0.ring (by rw[k];decide) kb hn (Tn b0 hn)) rfl rfl rfl rfl rfl rfl rfl rfl
  have ro:=Tn r0 hn
  rw[hX]
  refine⟨hE,hS,?_⟩
  rcases a with a|a|a
  · obtain⟨a0,a1,a2,a3,a4,a5,a6⟩:=a
    have eW:=EG (W:=W) (b:=11) (g:=n) (by rw[a2];rfl)
    refine⟨λh6=>absurd h6 (by rw[a1];decide),λ_=>⟨hS,k,c,k8,kb,ro,h0,.inl ⟨a0,?_⟩⟩⟩
    rw[eW]
    refine⟨a1,a2,?_,a4,a5,a6⟩
    show ah W.bits 11 (gD (W.bits 11) n) 11=_
    rw[aZ,a3]
  · obtain⟨a0,a1,a2,a3⟩:=a
    have eW:=EG (W:=W) (b:=11) (g:=n) (by rw[a2];rfl)
    refine⟨λh6=>absurd h6 (by rw[a1];decide),λ_=>⟨hS,k,c,k8,kb,ro,h0,.inr (.inl ⟨a0,?_⟩)⟩⟩
    rw[eW]
    refine⟨a1,a2,?_⟩
    show gD h (ah W.bits 11 (gD (W.bits 11) n) 11)=_
    rw[aZ,<-afW,a3]
  · obtain⟨a0,a1,a2,a3,a4,a5,a6⟩:=a
    have eW:=IH (W:=W) (b:=11) (g:=n) (by rw[a2];rfl)
    have a3':(W.lines 11 0).toNat=8:=by rw[a3];rfl
    rw[a3']at eW
    have t2:((jH W 11 n).tasks 8).r2=n:=by
      rw[eW]
      show(ah (dw (fw W 11 true) 8 0 n).tasks 8 {(dw (fw W 11 true) 8 0 n).tasks 8 with st:=1,loc:= -1} 8).r2=n
      rw[aZ]
      show(ah (fw W 11 true).tasks 8 {(fw W 11 true).tasks 8 with r1:=0,r2:=n} 8).r2=n
      rw[aZ]
    refine⟨λ_=>⟨hS,k,c,k8,kb,ro,by rw[t2];exact hn,.inr (.inl ⟨a0,?_,?_,?_⟩)⟩,λh6=>absurd a1 h6⟩
    · rw[eW]
      show(ah (dw (fw W 11 true) 8 0 n).tasks 8 {(dw (fw W 11 true) 8 0 n).tasks 8 with st:=1,loc:= -1} 8).st=1
      rw[aZ]
    · rw[eW]
      show ah W.ai 11 (W.ai 11 -1) 11=0
      rw[aZ,a2]
    · rw[t2,eW]
      show gD n (W.bits 11)=_
      rw[a4,a5,Tm hn.1,afV hn.1]
def Dc (W X:Wd):Wd:=match W.time with| .ofNat _=>X| .negSucc _=>X
theorem IU (W X:Wd):Dc W X=X:=by
  unfold Dc
  cases W.time<;>rfl
def iW (W:Wd) (t b:Int):Wd:=Dc W (iL W t b)
theorem To (W:Wd) (t b:Int):iW W t b=iL W t b:=IU _ _
def jN (W:Wd) (b g:Int):Wd:=Dc W (lE W b g)
theorem Tp (W:Wd) (b g:Int):jN W b g=lE W b g:=IU _ _
structure tL where
  w:Wd
  r:Int
  h:Int
def rb (lt:Int) (i:Nat) (s:tL):tL:=bif (i:Int)==lt then⟨iW s.w 8 11,s.r,bif ((iW s.w 8 11).tasks 8).st==1 then((iW s.w 8 11).tasks 8).r2 else s.h⟩else s
def rf (n:Int) (s:tL):tL:=⟨jN s.w 11 n,gD s.r n,bif (s.w.tasks 8).st==6 then((jN s.w 11 n).tasks 8).r2 else s.h⟩
def CR (W:Wd) (lt:Int) (f:Nat->Int):Nat->tL
  |0=>⟨W,0,0⟩
  |i+1=>rf (f i) (rb lt i (CR W lt f i))
theorem TB.cg {W:Wd} {r h:Int} {e e':Prop} (t:TB W r h e) (q:e↔e'):TB W r h e':=by rw[<-q];exact t
theorem RA {lt:Int} {i:Nat} {s:tL} (t:TB s.w s.r s.h ((i:Int)<=lt)):((i:Int)=lt->gC s.w 8 11=0)/\TB (rb lt i s).w (rb lt i s).r (rb lt i s).h ((i:Int)+1<=lt):=by
  unfold rb
  cases q:(i:Int)==lt with
  |false=>
   have q:=beq_eq_false_iff_ne.1 q
   exact⟨λe=>absurd e q,t.cg (by omega)⟩
  |true=>
   have q:=eq_of_beq q
   obtain⟨J,_,h3,h4⟩:=t.JN (by omega)
   refine⟨λ_=>J,?_⟩
   show TB (iW s.w 8 11) s.r (bif ((iW s.w 8 11).tasks 8).st==1 then((iW s.w 8 11).tasks 8).r2 else s.h) ((i:Int)+1<=lt)
   rw[To]
   show TB (iL s.w 8 11) s.r (bif ((iL s.w 8 11).tasks 8).st==1 then((iL s.w 8 11).tasks 8).r2 else s.h) ((i:Int)+1<=lt)
   cases q2:((iL s.w 8 11).tasks 8).st==1 with
   |true=>exact(h3 (eq_of_beq q2)).cg ⟨λz=>z.elim,λz=>by omega⟩
   |false=>exact(h4 (beq_eq_false_iff_ne.1 q2)).cg ⟨λz=>z.elim,λz=>by omega⟩
theorem RB {n:Int} {s:tL} {e:Prop} (t:TB s.w s.r s.h e) (hn:0<=n/\n<=65535):dD s.w 11 n=0/\TB (rf n s).w (rf n s).r (rf n s).h e:=by
  obtain⟨J,_,h3,h4⟩:=t.ring hn
  refine⟨J,?_⟩
  show TB (jN s.w 11 n) (gD s.r n) (bif (s.w.tasks 8).st==6 then((jN s.w 11 n).tasks 8).r2 else s.h) e
  rw[Tp]
  cases q:(s.w.tasks 8).st==6 with
  |true=>exact h3 (eq_of_beq q)
  |false=>exact h4 (beq_eq_false_iff_ne.1 q)
theorem Rz {W:Wd} {lt:Int} {f:Nat->Int} {n:Nat} (h0:TB W 0 0 True) (hl:0<=lt) (hf: ∀i,i<n->0<=f i/\f i<=65535): ∀i,i<=n->TB (CR W lt f i).w (CR W lt f i).r (CR W lt f i).h ((i:Int)<=lt)
  |0,_=>h0.cg ⟨λ_=>hl,λ_=>trivial⟩
  |i+1,hi=>by
   have a:=Rz h0 hl hf i (by omega)
   exact(RB (RA a).2 (hf i (by omega))).2.cg (by omega)
theorem TB.fin {W:Wd} {r h:Int} (t:TB W r h False):gD h (W.bits 11)=r:=by
  rcases t.a with a|a|a
  · exact a.1.elim
  · exact a.2.2.2
  · rw[a.2.2.2.2.1,a.2.2.2.2.2.1,a.2.2.2.2.2.2];rfl
end Go.Proofs.YthgmgkabnffniaaGreatDoor
set_option linter.unusedVariables false
set_option linter.unusedSimpArgs false
set_option maxRecDepth 100000
namespace Go.Proofs.YthgmgkabnffniaaGreatDoor
open Go.RowKit Go.Sy
end Go.Proofs.YthgmgkabnffniaaGreatDoor
set_option linter.unusedVariables false
set_option linter.unusedSimpArgs false
set_option maxRecDepth 100000
namespace Go.Proofs.YthgmgkabnffniaaGreatDoor
open Go.RowKit Go.Sy
def xT (W:Wd) (c:Int):Int:=(dc W c.toNat).ak c.toNat
theorem aet {W:Wd} {c:Nat}:(dc W c).aC=W.aC:=by
  have h:(fF W c).aC=W.aC:=by unfold fF;cases ve W c<;>rfl
  unfold dc
  cases decide ((fF W c).ak c<0)<;>exact h
structure Q4 where
  (W:Wd) (c:Int)
def acv:Sy.Spec:=⟨Q4,λ⟨W,c⟩=> [dV W,.v (.int .i64 c)],λ_=> [],λ_=>True,λ⟨W,c⟩=> .er 43 66 (bif decide (c<0)||decide ((W.aC:Int)<=c)then 2 else 0) (-1),λ_=> [],
  λargs mem=>match args with| [a0,a1]=>some ⟨dR a0,aw (a1)⟩|_=>none⟩
def acw:aT:=⟨[],(acv).g,none⟩
def Q5:Q4->Prop:=λ⟨W,c⟩=>let a0:=decide (((W.aC:Nat):Int)<=c);let b0:=cond (decide (c<0)) true a0;let c0:Int:=cond (decide (c<0)||a0) 2 0;(b0=true->((2:Int)≠0/\c0=2/\((-1):Int)=(-1))/\True)/\(b0=false->(c0=0/\((-1):Int)=(-1))/\True)
theorem aaE:aU Tryz.prog aY 21 acw:=bf .nil false Tryz.call21 Tryz.func21 (λ_=> []) (V:=Q5) (λ_=>by kernel_rfl) λ⟨W,c⟩ hp=>by
  dsimp only[Q5,tn,ar,aD,aI,aJ,aH]
  simp only[bn,bD,eq_self,implies_true,Bool.cond_self]
  refine⟨λh=>?_,λh=>?_⟩<;>simp only[h]<;>simp
structure Q6 where
  (c:Int) (W:Wd) (z:Int)
def Q7:Sy.Spec:=⟨Q6,λ⟨c,_,_⟩=> [.ptr 0 0 none 0 0,.pt true 1 (λ_=> .v (.int .i64 c)),.ptr 11 0 none 0 0],λ⟨_,W,z⟩=>cP W++ [.cells [.v (.int .i64 (z))]],λ⟨c,W,_⟩=>Sm W/\bU W/\0<=c/\c<W.aC,λ_=> .er 43 66 0 (-1),λ⟨c,W,_⟩=>cP (dc W c.toNat)++ [.cells [.v (.int .i64 (xT W c))]],
  λargs mem=>match args with| [a0,a1,a2]=>some ⟨aw (bQ a1 0),iG mem 0,aw (Fa mem 11 0)⟩|_=>none⟩
def acx:aT:=⟨[true,false,true],(Q7).g,none⟩
def Q8:Q6->Prop:=λ⟨c,W,z⟩=>let a0:=W.aj;let b0:=W.al;let c0:=W.aP;let d0:=W.aW;let e0:=W.aC;let g0:=W.aS;let h0:Int:=cond (decide (c<0)||decide ((e0:Int)<=c)) 2 0;let k0:=h0 !=0;let l0:=dc W (Int.toNat c);let o0:=SV.ptr 0 0 none 0 0;(((((((((((((True/\W.ay=W.ay/\(∀q0:Nat,q0<W.ay->True/\W.af (0+q0)=W.af (0+q0)))/\a0=a0/\(∀r0:Nat,let u0:=W.kinds (0+r0);r0<a0->True/\u0=u0))/\b0=b0/\(∀v0:Nat,let w0:=W.aa (0+v0);v0<b0->aJ w0 w0))/\c0=c0/\(∀x0:Nat,let y0:=W.tasks (0+x0);x0<c0->aI y0 y0))/\d0=d0/\(∀z0:Nat,let a1:=W.ai (0+z0);z0<d0->True/\a1=a1/\(∀b1:Nat,let c1:=W.lines (0+z0) (0+b1);b1<a1->True/\c1=c1)))/\W.aN=W.aN/\(∀d1:Nat,d1<W.aN->True/\W.bits (0+d1)=W.bits (0+d1)))/\e0=e0/\(∀e1:Nat,let g1:=W.ak (0+e1);e1<e0->True/\g1=g1))/\g0=g0/\(∀J:Nat,let k1:=W.aq (0+J);J<g0->True/\k1=k1/\(∀l1:Nat,let o1:=W.ready (0+J) (0+l1);l1<k1->True/\o1=o1)))/\W.aQ=W.aQ/\(∀q1:Nat,let r1:=W.aG (0+q1);q1<W.aQ->True/\r1=r1/\(∀u1:Nat,let v1:=W.aA (0+q1) (0+u1);u1<r1->aH v1 v1)))/\W.aK=W.aK/\(∀w1:Nat,w1<W.aK->True/\W.aB (0+w1)=W.aB (0+w1)))/\W.time=W.time)/\c=c/\True)/\True/\True)/\(k0=true->(h0=0/\((-1):Int)=(-1))/\aD W l0 ((True/\z=xT W c)/\True))/\(k0=false->((o0=o0/\c=c/\True)/\aD W W True/\Inv 999 W/\0<=c/\c<(e0:Int))/\tn 5 ((0<=c/\c<((l0.aC:Nat):Int))/\True/\((0:Int)=0/\((-1):Int)=(-1))/\aD l0 l0 ((True/\l0.ak (0+Int.toNat c)=xT W c)/\True)))
set_option maxHeartbeats 2000000 in
theorem aaF:aU Tryz.prog aY 20 acx:=bf (.cons aaE (.cons YX .nil)) false Tryz.call20 Tryz.func20 (λ_=> []) (V:=Q8) (λ_=>by kernel_rfl) λ⟨c,W,z⟩ hp=>by
  dsimp only[Q7]at hp
  dsimp only[Q8,tn,ar,aD,aI,aJ,aH]
  simp only[bn,bD,eq_self,implies_true,Bool.cond_self]
  try simp only[eP]
  obtain⟨hs,hw,c0,c1⟩:=hp
  have hb:(decide (c<0)||decide ((W.aC:Int)<=c))=false:=by simp only[Bool.or_eq_false_iff,decide_eq_false_iff_not];omega
  have hI:=(uu hw hs).mono (show 50<=999 by decide)
  have hn:c<(dc W c.toNat).aC:=by rw[aet];exact c1
  simp only[hb,cond_false]
  refine⟨λh=>absurd h (by decide),λ_=>?_⟩
  repeat' (first|exact trivial|rfl|assumption|(intro h;exact absurd h (by decide))|(intro h;exact absurd h (Nat.not_lt_zero _))|refine And.intro ?_ ?_|intro h|fail)
structure Q9 where
  (W:Wd) (c z:Int)
def Q_:Sy.Spec:=⟨Q9,λ⟨W,_,_⟩=> [ll W,.fn 20 2 (aL [.ptr 0 0 none 0 0,.ptr 1 0 none 0 0])],λ⟨_,c,z⟩=> [.cells [.v (.int .i64 (c))],.cells [.v (.int .i64 (z))]],λ⟨W,c,_⟩=>Sm W/\bU W/\0<=c/\c<W.aC,λ⟨W,c,_⟩=> .tp 2 (aL [oZ (dc W c.toNat),.er 43 66 0 (-1)]),λ⟨W,c,_⟩=> [.cells [.v (.int .i64 (c))],.cells [.v (.int .i64 (xT W c))]],
  λargs mem=>match args with| [a0,a1]=>(match mA 20 a1 with|true=>some ⟨nE a0,aw (Fa mem 0 0),aw (Fa mem 1 0)⟩|false=>none)|_=>none⟩
def acy:aT:=⟨[false,true],(Q_).g,none⟩
def Q':Q9->Prop:=λ⟨W,c,z⟩=>let a0:=W.aj;let b0:=W.al;let c0:=W.aP;let d0:=W.aW;let e0:=W.aC;let g0:=W.aS;let h0:=(((((((((((True/\W.ay=W.ay/\(∀k0:Nat,k0<W.ay->True/\W.af k0=W.af k0))/\a0=a0/\(∀l0:Nat,l0<a0->True/\W.kinds l0=W.kinds l0))/\b0=b0/\(∀o0:Nat,o0<b0->aJ (W.aa o0) (W.aa o0)))/\c0=c0/\(∀q0:Nat,q0<c0->aI (W.tasks q0) (W.tasks q0)))/\d0=d0/\(∀r0:Nat,let u0:=W.ai r0;r0<d0->True/\u0=u0/\(∀v0:Nat,v0<u0->True/\W.lines r0 v0=W.lines r0 v0)))/\W.aN=W.aN/\(∀w0:Nat,w0<W.aN->True/\W.bits w0=W.bits w0))/\e0=e0/\(∀x0:Nat,x0<e0->True/\W.ak x0=W.ak x0))/\g0=g0/\(∀y0:Nat,let z0:=W.aq y0;y0<g0->True/\z0=z0/\(∀a1:Nat,a1<z0->True/\W.ready y0 a1=W.ready y0 a1)))/\W.aQ=W.aQ/\(∀b1:Nat,let c1:=W.aG b1;b1<W.aQ->True/\c1=c1/\(∀d1:Nat,d1<c1->aH (W.aA b1 d1) (W.aA b1 d1))))/\W.aK=W.aK/\(∀e1:Nat,e1<W.aK->True/\W.aB e1=W.aB e1))/\W.time=W.time)/\True;let g1:=tn 10 True;let J:=dc W (Int.toNat c);let k1:=J.ay;let l1:=J.aj;let o1:=J.al;let q1:=J.aP;let r1:=J.aW;let u1:=J.aN;let v1:=J.aC;let w1:=J.aS;let x1:=J.aQ;let y1:=J.aK;let z1:=J.time;let a2:=True/\((((((((((True/\k1=0)/\l1=0)/\o1=0)/\q1=0)/\r1=0)/\u1=0)/\v1=0)/\w1=0)/\x1=0)/\y1=0)/\0=z1;let b2:=True/\c=c;let c2:=xT W c;let d2:=SV.ptr 0 0 none 0 0;let e2:=SV.ptr 11 0 none 0 0;let g2:=(0:Int)=0/\((-1):Int)=(-1);let h2:=b2/\(True/\c2=c2)/\True;tn 2 ((h0/\True/\yh.match_1 (λk2:rE=>Prop) (rE.mk W) (λl2:Wd=>Sm l2))/\((wE W !=0)=true->g1/\(a2/\(8:Int)≠0/\(0:Int)=8/\((-1):Int)=(-1))/\
    b2/\(True/\z=c2)/\True)/\((wE W !=0)=false->(h0/\True/\AY.match_1 (λo2:ue=>Prop) (ue.mk W) (λq2:Wd=>Lg q2))/\g1/\((d2=d2/\b2/\e2=e2/\True)/\aD W W ((True/\z=z)/\True)/\Sm W/\bU W/\0<=c/\c<(e0:Int))/\(((0:Int) !=0)=true->g1/\(a2/\g2)/\h2)/\(((0:Int) !=0)=false->g1/\((True/\((((((((((True/\k1=k1/\(∀r2:Nat,r2<k1->True/\J.af (0+r2)=J.af r2))/\l1=l1/\(∀u2:Nat,u2<l1->True/\J.kinds (0+u2)=J.kinds u2))/\o1=o1/\(∀v2:Nat,v2<o1->aJ (J.aa (0+v2)) (J.aa v2)))/\q1=q1/\(∀w2:Nat,w2<q1->aI (J.tasks (0+w2)) (J.tasks w2)))/\r1=r1/\(∀x2:Nat,x2<r1->True/\J.ai (0+x2)=J.ai x2/\(∀y2:Nat,y2<J.ai x2->True/\J.lines (0+x2) (0+y2)=J.lines x2 y2)))/\u1=u1/\(∀z2:Nat,z2<u1->True/\J.bits (0+z2)=J.bits z2))/\v1=v1/\(∀a3:Nat,a3<v1->True/\J.ak (0+a3)=J.ak a3))/\w1=w1/\(∀b3:Nat,b3<w1->True/\J.aq (0+b3)=J.aq b3/\(∀c3:Nat,c3<J.aq b3->True/\J.ready (0+b3) (0+c3)=J.ready b3 c3)))/\x1=x1/\(∀d3:Nat,d3<x1->True/\J.aG (0+d3)=J.aG d3/\(∀e3:Nat,e3<J.aG d3->aH (J.aA (0+d3) (0+e3)) (J.aA d3 e3))))/\y1=y1/\(∀g3:Nat,g3<y1->True/\J.aB (0+g3)=J.aB g3))/\z1=z1)/\g2)/\h2)))
set_option maxHeartbeats 2000000 in
theorem aaG:aU Tryz.prog aY 19 acy:=bf (.cons DC (.cons G0 (.cons aaF .nil))) false Tryz.call19 Tryz.func19 (λ_=> []) (V:=Q') (λ_=>by kernel_rfl) λ⟨W,c,z⟩ hp=>by
  dsimp only[Q_]at hp
  dsimp only[Q',tn,ar,aD,aI,aJ,aH]
  simp only[bn,bD,eq_self,implies_true,Bool.cond_self]
  try simp only[eP]
  obtain⟨hs,hw,c0,c1⟩:=hp
  have h0:=Fp hw
  exact⟨hs,λh=>by rw[h0]at h;exact absurd h (by decide),λ_=>⟨Jl hs,⟨hs,hw,c0,c1⟩,λh=>absurd h (by decide)⟩⟩
structure Ra where
  (W:Wd) (c:Int)
def vW:Sy.Spec:=⟨Ra,λ⟨W,c⟩=> [ll W,.v (.int .i64 c)],λ_=> [],λ⟨W,c⟩=>Sm W/\bU W/\0<=c/\c<W.aC,λ⟨W,c⟩=> .tp 3 (aL [oZ (dc W c.toNat),.v (.int .i64 (xT W c)),.er 43 66 0 (-1)]),λ_=> [],
  λargs mem=>match args with| [a0,a1]=>some ⟨nE a0,aw (a1)⟩|_=>none⟩
def Ia:Ra->Prop:=λ⟨W,c⟩=>let a0:=W.aj;let b0:=W.al;let c0:=W.aP;let d0:=W.aW;let e0:=W.aC;let g0:=W.aS;let h0:=SV.ptr 0 0 none 0 0;let k0:=SV.ptr 1 0 none 0 0;let l0:=tn 10 True;let o0:=dc W (Int.toNat c);let q0:=o0.ay;let r0:=o0.aj;let u0:=o0.al;let v0:=o0.aP;let w0:=o0.aW;let x0:=o0.aN;let y0:=o0.aC;let z0:=o0.aS;let a1:=o0.aQ;let b1:=o0.aK;let c1:=o0.time;let d1:=xT W c;let e1:=(0:Int)=0/\((-1):Int)=(-1);tn 5 ((((((((((((((True/\W.ay=W.ay/\(∀g1:Nat,g1<W.ay->True/\W.af g1=W.af g1))/\a0=a0/\(∀J:Nat,J<a0->True/\W.kinds J=W.kinds J))/\b0=b0/\(∀k1:Nat,k1<b0->aJ (W.aa k1) (W.aa k1)))/\c0=c0/\(∀l1:Nat,l1<c0->aI (W.tasks l1) (W.tasks l1)))/\d0=d0/\(∀o1:Nat,let q1:=W.ai o1;o1<d0->True/\q1=q1/\(∀r1:Nat,r1<q1->True/\W.lines o1 r1=W.lines o1 r1)))/\W.aN=W.aN/\(∀u1:Nat,u1<W.aN->True/\W.bits u1=W.bits u1))/\e0=e0/\(∀v1:Nat,v1<e0->True/\W.ak v1=W.ak v1))/\g0=g0/\(∀w1:Nat,let x1:=W.aq w1;w1<g0->True/\x1=x1/\(∀y1:Nat,y1<x1->True/\W.ready w1 y1=W.ready w1 y1)))/\W.aQ=W.aQ/\(∀z1:Nat,let a2:=W.aG z1;z1<W.aQ->True/\a2=a2/\(∀b2:Nat,b2<a2->aH (W.aA z1 b2) (W.aA z1 b2))))/\W.aK=W.aK/\(∀c2:Nat,c2<W.aK->True/\W.aB c2=W.aB c2))/\W.time=W.time)/\((True/\h0=h0)/\k0=k0)/\True)/\((True/\c=c)/\(True/\((-1):Int)=(-1))/\True)/\Sm W/\bU W/\0<=c/\c<(e0:Int))/\True/\l0/\(((0:Int) !=0)=true->l0/\(((True/\((((((((((True/\q0=0)/\r0=0)/\u0=0)/\v0=0)/\w0=0)/\x0=0)/\y0=0)/\z0=0)/\a1=0)/\b1=0)/\0=c1)/\0=d1)/\e1)/\True)/\(((0:Int) !=0)=false->tn 2 ((((True/\((((((((((True/\q0=q0/\(∀d2:Nat,
    d2<q0->True/\o0.af d2=o0.af d2))/\r0=r0/\(∀e2:Nat,e2<r0->True/\o0.kinds e2=o0.kinds e2))/\u0=u0/\(∀g2:Nat,g2<u0->aJ (o0.aa g2) (o0.aa g2)))/\v0=v0/\(∀h2:Nat,h2<v0->aI (o0.tasks h2) (o0.tasks h2)))/\w0=w0/\(∀k2:Nat,let l2:=o0.ai k2;k2<w0->True/\l2=l2/\(∀o2:Nat,o2<l2->True/\o0.lines k2 o2=o0.lines k2 o2)))/\x0=x0/\(∀q2:Nat,q2<x0->True/\o0.bits q2=o0.bits q2))/\y0=y0/\(∀r2:Nat,r2<y0->True/\o0.ak r2=o0.ak r2))/\z0=z0/\(∀u2:Nat,let v2:=o0.aq u2;u2<z0->True/\v2=v2/\(∀w2:Nat,w2<v2->True/\o0.ready u2 w2=o0.ready u2 w2)))/\a1=a1/\(∀x2:Nat,let y2:=o0.aG x2;x2<a1->True/\y2=y2/\(∀z2:Nat,z2<y2->aH (o0.aA x2 z2) (o0.aA x2 z2))))/\b1=b1/\(∀a3:Nat,a3<b1->True/\o0.aB a3=o0.aB a3))/\c1=c1)/\d1=d1)/\e1)/\True)))
set_option maxHeartbeats 2000000 in
theorem aaD: ∀x,vW.pre x->lY Tryz.prog aY 6 (vW.args x) (vW.mem x) (vW.res x) (vW.bI x):=λx hp=>Bl (.cons aaG .nil) false Tryz.func6 ((λ_=> []) x) (V:=Ia x) (by kernel_rfl)<|(λ⟨W,c⟩ hp=>by
  dsimp only[vW]at hp
  dsimp only[Ia,tn,ar,aD,aI,aJ,aH]
  simp only[bn,bD,eq_self,implies_true,Bool.cond_self]
  try simp only[eP]
  exact⟨hp,λh=>absurd h (by decide)⟩
  : ∀x,vW.pre x->Ia x) x hp
end Go.Proofs.YthgmgkabnffniaaGreatDoor
set_option linter.unusedVariables false
set_option linter.unusedSimpArgs false
set_option maxRecDepth 100000
namespace Go.Proofs.YthgmgkabnffniaaGreatDoor
open Go.RowKit Go.Sy
def tM (W:Wd) (c:Nat):Wd:=Dc W (dc W c)
theorem RC (W:Wd) (c:Nat):tM W c=dc W c:=IU _ _
structure aek where
  (W:Wd) (c:Int)
def ael:Sy.Spec:=⟨aek,λ⟨W,c⟩=> [ll W,.v (.int .i64 c)],λ_=> [],λ⟨W,c⟩=>Sm W/\bU W/\0<=c/\c<W.aC,λ⟨W,c⟩=> .tp 3 (aL [oZ (tM W c.toNat),.v (.int .i64 ((tM W c.toNat).ak c.toNat)),.er 43 66 0 (-1)]),λ_=> [],
  λargs mem=>match args with| [a0,a1]=>some ⟨nE a0,aw (a1)⟩|_=>none⟩
def aem:aT:=⟨[],(ael).g,none⟩
theorem aa':aU Tryz.prog aY 6 aem:=yj Tryz.call6 λ⟨W,c⟩ _=>by
  have hp:Sm W/\bU W/\0<=c/\c<W.aC:=by assumption
  have q:lY Tryz.prog aY 6 [ll W,.v (.int .i64 c)] [] (.tp 3 (aL [oZ (dc W c.toNat),.v (.int .i64 ((dc W c.toNat).ak c.toNat)),.er 43 66 0 (-1)])) []:=aaD ⟨W,c⟩ hp
  rw[<-RC]at q
  exact q
structure aen where
  (W:Wd) (t b:Int)
def aeo:Sy.Spec:=⟨aen,λ⟨W,t,b⟩=> [ll W,.v (.int .i64 t),.v (.int .i64 b)],λ_=> [],λ⟨W,t,b⟩=>Sm W/\bU W/\gC W t b=0,λ⟨W,t,b⟩=> .tp 2 (aL [oZ (iW W t b),.er 43 66 0 (-1)]),λ_=> [],
  λargs mem=>match args with| [a0,a1,a2]=>some ⟨nE a0,aw (a1),aw (a2)⟩|_=>none⟩
def aep:aT:=⟨[],(aeo).g,none⟩
theorem aba:aU Tryz.prog aY 9 aep:=yj Tryz.call9 λ⟨W,t,b⟩ _=>by
  have hp:Sm W/\bU W/\gC W t b=0:=by assumption
  have q:lY Tryz.prog aY 9 [ll W,.v (.int .i64 t),.v (.int .i64 b)] [] (.tp 2 (aL [oZ (mo (gC W t b) (iL W t b)),.er 43 66 (gC W t b) (-1)])) []:=acu ⟨W,t,b⟩ ⟨hp.1,hp.2.1⟩
  rw[hp.2.2,show mo 0 (iL W t b)=iL W t b from rfl,<-To]at q
  exact q
structure aeq where
  (W:Wd) (b g:Int)
def aer:Sy.Spec:=⟨aeq,λ⟨W,b,g⟩=> [ll W,.v (.int .i64 b),.v (.int .i64 g)],λ_=> [],λ⟨W,b,g⟩=>Sm W/\bU W/\dD W b g=0,λ⟨W,b,g⟩=> .tp 2 (aL [oZ (jN W b g),.er 43 66 0 (-1)]),λ_=> [],
  λargs mem=>match args with| [a0,a1,a2]=>some ⟨nE a0,aw (a1),aw (a2)⟩|_=>none⟩
def aes:aT:=⟨[],(aer).g,none⟩
theorem abb:aU Tryz.prog aY 10 aes:=yj Tryz.call10 λ⟨W,b,g⟩ _=>by
  have hp:Sm W/\bU W/\dD W b g=0:=by assumption
  have q:lY Tryz.prog aY 10 [ll W,.v (.int .i64 b),.v (.int .i64 g)] [] (.tp 2 (aL [oZ (mo (dD W b g) (lE W b g)),.er 43 66 (dD W b g) (-1)])) []:=acq ⟨W,b,g⟩ ⟨hp.1,hp.2.1⟩
  rw[hp.2.2,show mo 0 (lE W b g)=lE W b g from rfl,<-Tp]at q
  exact q
end Go.Proofs.YthgmgkabnffniaaGreatDoor
set_option linter.unusedVariables false
set_option linter.unusedSimpArgs false
set_option maxRecDepth 100000
namespace Go.Proofs.YthgmgkabnffniaaGreatDoor
open Go.RowKit Go.Sy
def Kz (W:Wd):bc:= .cells [.sl false 1 W.ay (iF W.af),.sl false 1 W.aj (iF W.kinds),.sl false 7 W.al (rF λi=>pS (W.aa i)),.sl false 20 W.aP (rF λi=>nD (W.tasks i)),.sl false 1 W.aW (λi _=> .sl false 1 (W.ai i) (iF (W.lines i))),.sl false 1 W.aN (iF W.bits),.sl false 1 W.aC (iF W.ak),.sl false 1 W.aS (λi _=> .sl false 1 (W.aq i) (iF (W.ready i))),.sl false 1 W.aQ (λi _=> .sl false 4 (W.aG i) (rF λk=>kF (W.aA i k))),.sl false 1 W.aK (iF W.aB),.v (.int .i64 W.time)]
theorem aeW (E R:Nat->Int):(dc (pT E R) 0).aj=24/\(dc (pT E R) 0).aC=2/\(dc (pT E R) 0).kinds 8=6/\(dc (pT E R) 0).kinds 11=8/\((dc (pT E R) 0).tasks 8).st=1/\(dc (pT E R) 0).ai 11=0/\(dc (pT E R) 0).bits 11=0/\((dc (pT E R) 0).tasks 8).core=0/\(dc (pT E R) 0).ak 0=8:=
  ⟨by kernel_rfl,by kernel_rfl,by kernel_rfl,by kernel_rfl,by kernel_rfl,by kernel_rfl,by kernel_rfl,by kernel_rfl,by kernel_rfl⟩
theorem aeX (E R:Nat->Int):(pT E R).aC=2/\(pT E R).aj=24:=⟨by kernel_rfl,by kernel_rfl⟩
theorem TX (n:Nat) (l:Nat->Int) (cl:Int):(nN n l cl).aC=2/\(nN n l cl).aj=24:=by
  obtain⟨R,hR⟩:=TY n l cl
  rw[hR];exact aeX _ _
theorem aeY (W:Wd) (c:Nat):fh (fF W c)=fh W/\(fF W c).time=W.time/\(fF W c).af=W.af/\(fF W c).kinds=W.kinds/\(fF W c).aB=W.aB/\(fF W c).aa=W.aa/\(fF W c).aG=W.aG/\(fF W c).aA=W.aA:=by
  unfold fF
  cases ve W c<;>exact⟨rfl,rfl,rfl,rfl,rfl,rfl,rfl,rfl⟩
theorem aeZ (W:Wd) (c:Nat):fh (dc W c)=fh W/\(dc W c).time=W.time/\(dc W c).af=W.af/\(dc W c).kinds=W.kinds/\(dc W c).aB=W.aB/\(dc W c).aa=W.aa/\(dc W c).aG=W.aG/\(dc W c).aA=W.aA:=by
  unfold dc
  cases decide ((fF W c).ak c<0)<;>exact aeY W c
theorem bU.LH {W:Wd} (h:bU W) {c:Nat} (hc:c<W.aC):bU (dc W c):=by
  obtain⟨a1,a2,a3,a4,a5,a6,a7,a8⟩:=aeZ W c
  exact h.xI (h.t0.LH hc) a1 a2 a3 a4 a5 a6 a7 a8
theorem tb0 (n:Nat) (l:Nat->Int):TB (tM (nN n l 7) 0) 0 0 True:=by
  rw[RC]
  have sx:=Ry (n:=n) (l:=l) (cl:=7) (by decide)
  have s:bU (dc (nN n l 7) 0):=sx.1.LH (by rw[(TX n l 7).1];decide)
  obtain⟨R,hR⟩:=TY n l 7
  rw[hR]at s⊢
  obtain⟨a,b,c,d,e,f,g,h,i⟩:=aeW (j7 gy) R
  exact⟨s,a,b,c,d,by decide,by decide,.inl ⟨trivial,e,f,g,rfl,h,i⟩⟩
noncomputable def da (n:Nat) (raw:Nat->Int) (m:Nat) (rings:Nat->Int) (late:Int) (i:Nat):tL:=CR (tM (nN n raw 7) 0) (bR late (m+1)) (λi=>bR (rings i) 65536) i
structure Ed where
  (W:Wd)
def HV:Sy.Spec:=⟨Ed,λ⟨W⟩=> [ll W],λ_=> [],λ⟨W⟩=>Sm W,λ⟨W⟩=> .v (.bool (wE W==0&&decide (0<(W.aj:Int)))),λ_=> [],
  λargs mem=>match args with| [a0]=>some ⟨nE a0⟩|_=>none⟩
def abc:aT:=⟨[],(HV).g,none⟩
def PF:Ed->Prop:=λ⟨W⟩=>let a0:=W.aj;let b0:=W.al;let c0:=W.aP;let d0:=W.aW;let e0:=W.aC;let g0:=W.aS;let h0:=decide (0<(a0:Int));True/\(((((((((((((True/\W.ay=W.ay/\(∀k0:Nat,k0<W.ay->True/\W.af k0=W.af k0))/\a0=a0/\(∀l0:Nat,l0<a0->True/\W.kinds l0=W.kinds l0))/\b0=b0/\(∀o0:Nat,o0<b0->aJ (W.aa o0) (W.aa o0)))/\c0=c0/\(∀q0:Nat,q0<c0->aI (W.tasks q0) (W.tasks q0)))/\d0=d0/\(∀r0:Nat,let u0:=W.ai r0;r0<d0->True/\u0=u0/\(∀v0:Nat,v0<u0->True/\W.lines r0 v0=W.lines r0 v0)))/\W.aN=W.aN/\(∀w0:Nat,w0<W.aN->True/\W.bits w0=W.bits w0))/\e0=e0/\(∀x0:Nat,x0<e0->True/\W.ak x0=W.ak x0))/\g0=g0/\(∀y0:Nat,let z0:=W.aq y0;y0<g0->True/\z0=z0/\(∀a1:Nat,a1<z0->True/\W.ready y0 a1=W.ready y0 a1)))/\W.aQ=W.aQ/\(∀b1:Nat,let c1:=W.aG b1;b1<W.aQ->True/\c1=c1/\(∀d1:Nat,d1<c1->aH (W.aA b1 d1) (W.aA b1 d1))))/\W.aK=W.aK/\(∀e1:Nat,e1<W.aK->True/\W.aB e1=W.aB e1))/\W.time=W.time)/\True)/\True/\yh.match_1 (λg1:rE=>Prop) (rE.mk W) (λJ:Wd=>Sm J))/\cond (wE W==0) h0 false=(wE W==0&&h0)/\True
set_option maxHeartbeats 1000000 in
theorem Zv:aU Tryz.prog aY 23 abc:=bf (.cons DC .nil) false Tryz.call23 Tryz.func23 (λ_=> []) (V:=PF) (λ_=>by kernel_rfl) λ⟨W⟩ hp=>by
  dsimp only[HV]at hp
  dsimp only[PF,tn,ar]
  simp only[bn,bD,eq_self,implies_true,Bool.cond_self]
  refine⟨?_,hp⟩
  repeat' (first|exact trivial|rfl|refine And.intro ?_ ?_|intro _)
structure rD where
  (W X:Wd)
def yb:Sy.Spec:=⟨rD,λ⟨W,X⟩=> [ll W,ll X],λ_=> [],λ⟨_,X⟩=>Sm X,λ⟨W,X⟩=> .v (.bool ((wE X==0&&decide (0<(X.aj:Int)))&&((X.aj:Int)==W.aj)&&((X.aC:Int)==W.aC))),λ_=> [],
  λargs mem=>match args with| [a0,a1]=>some ⟨nE a0,nE a1⟩|_=>none⟩
def Ys:aT:=⟨[],(yb).g,none⟩
def Nt:rD->Prop:=λ⟨W,X⟩=>let a0:=X.aj;let b0:=X.al;let c0:=X.aP;let d0:=X.aW;let e0:=X.aC;let g0:=X.aS;let h0:=wE X==0&&decide (0<(a0:Int));let k0:=(a0:Int)==((W.aj:Nat):Int);let l0:=(e0:Int)==((W.aC:Nat):Int);tn 2 ((((((((((((((True/\X.ay=X.ay/\(∀o0:Nat,o0<X.ay->True/\X.af o0=X.af o0))/\a0=a0/\(∀q0:Nat,q0<a0->True/\X.kinds q0=X.kinds q0))/\b0=b0/\(∀r0:Nat,r0<b0->aJ (X.aa r0) (X.aa r0)))/\c0=c0/\(∀u0:Nat,u0<c0->aI (X.tasks u0) (X.tasks u0)))/\d0=d0/\(∀v0:Nat,let w0:=X.ai v0;v0<d0->True/\w0=w0/\(∀x0:Nat,x0<w0->True/\X.lines v0 x0=X.lines v0 x0)))/\X.aN=X.aN/\(∀y0:Nat,y0<X.aN->True/\X.bits y0=X.bits y0))/\e0=e0/\(∀z0:Nat,z0<e0->True/\X.ak z0=X.ak z0))/\g0=g0/\(∀a1:Nat,let b1:=X.aq a1;a1<g0->True/\b1=b1/\(∀c1:Nat,c1<b1->True/\X.ready a1 c1=X.ready a1 c1)))/\X.aQ=X.aQ/\(∀d1:Nat,let e1:=X.aG d1;d1<X.aQ->True/\e1=e1/\(∀g1:Nat,g1<e1->aH (X.aA d1 g1) (X.aA d1 g1))))/\X.aK=X.aK/\(∀J:Nat,J<X.aK->True/\X.aB J=X.aB J))/\X.time=X.time)/\True)/\True/\HV.match_1 (λk1:Ed=>Prop) (Ed.mk X) (λl1:Wd=>Sm l1))/\cond (cond h0 k0 false) l0 false=(h0&&k0&&l0)/\True)
set_option maxHeartbeats 1000000 in
theorem XE:aU Tryz.prog aY 7 Ys:=bf (.cons Zv .nil) false Tryz.call7 Tryz.func7 (λ_=> []) (V:=Nt) (λ_=>by kernel_rfl) λ⟨W,X⟩ hp=>by
  dsimp only[yb]at hp
  dsimp only[Nt,tn,ar]
  simp only[bn,bD,eq_self,implies_true,Bool.cond_self]
  refine⟨?_,hp⟩
  repeat' (first|exact trivial|rfl|refine And.intro ?_ ?_|intro _)
end Go.Proofs.YthgmgkabnffniaaGreatDoor
