/- The law TopSteps. -/
import Derived.Test.YtbngaammbjaajaaDoorYI
import Derived.OpenShut
import Derived.ChangeArms
import Derived.MakeChecks
import Derived.Lay
import Derived.Test.YtbngaammbjaajaaDoorTie
import Derived.ChangeSame
import Derived.ChangeVars
import Derived.JoinedOf
import Derived.RowKit
import Derived.LaidLaws
import Derived.LaidHandle
import Derived.Stop.Joined
import Derived.SevenTiedAt
import Derived.OpenVars
import Derived.Test.YtbngaammbjaajaaDoorCards
set_option linter.unusedVariables false
set_option linter.unusedSimpArgs false
set_option linter.unusedVariables false
set_option linter.unusedSimpArgs false
set_option maxRecDepth 100000
namespace Go.Proofs.YtbngaammbjaajaaDoor
open Go.RowKit Go.Sy
def gJ (m:Nat) (g:Nat->Int) (pc:Int):ah:=⟨aE (aG m g 0) 65536,aE (aG m g 1) 65536,aE (aG m g 2) 65536,aE (aG m g 3) 65536,aE (aG m g 4) 65536,aE (aG m g 5) 65536,aE (aG m g 6) 65536,aE (aG m g 7) 65536,aE pc 65536,0,0,-1,-1,-1,-1,0,0,-1,0,0⟩
structure Sl where
  u:Unit
def DY (m:Nat) (g:Nat->Int) (pc:Int):Cut where
  σ:=Sl
  rt:= [(9,20)]
  sh _:= [(9,.ptr 0 0 none 0 0)]
  mem _:= [.cells (gA (gJ m g pc))]
  inv _:=True
  dec _ _:=⟨()⟩
def bE (n:Nat) (l:Nat->Int) (i:Int):jF:=fF n l 0 18 (aE i 15).toNat
def cg (n:Nat) (l:Nat->Int) (i:Int) (m:Nat) (g:Nat->Int) (pc:Int):Out:=
  fQ (gJ m g pc) ((bE n l i).o*256+(bE n l i).a*16+(bE n l i).b) ((bE n l i).m%65536)
structure AE where
  x:jF
  a:ah
  e:Int
def Dl (n:Nat) (l:Nat->Int) (i:Int) (m:Nat) (g:Nat->Int) (pc:Int):Cut where
  σ:=AE
  rt:= [(9,20),(11,20),(14,4)]
  sh s:= [(9,.ptr 0 0 none 0 0),(11,.ptr 1 0 none 0 0),(14,.ptr 2 0 none 0 0),(12,.v (.int .i64 s.e))]
  mem s:= [.cells (gA (gJ m g pc)),.cells (gA s.a),.cells (aT s.x)]
  inv s:=s.x.o=(bE n l i).o/\s.x.a=(bE n l i).a/\s.x.b=(bE n l i).b/\s.x.m=(bE n l i).m/\s.a.r0=(cg n l i m g pc).t.r0/\s.a.r1=(cg n l i m g pc).t.r1/\s.a.r2=(cg n l i m g pc).t.r2/\s.a.r3=(cg n l i m g pc).t.r3/\s.a.r4=(cg n l i m g pc).t.r4/\s.a.r5=(cg n l i m g pc).t.r5/\s.a.r6=(cg n l i m g pc).t.r6/\s.a.r7=(cg n l i m g pc).t.r7/\s.a.pc=(cg n l i m g pc).t.pc/\s.a.st=(cg n l i m g pc).t.st/\s.a.prio=(cg n l i m g pc).t.prio/\s.a.node=(cg n l i m g pc).t.node/\s.a.space=(cg n l i m g pc).t.space/\s.a.helper=(cg n l i m g pc).t.helper/\s.a.loc=(cg n l i m g pc).t.loc/\s.a.word=(cg n l i m g pc).t.word/\s.a.dW=(cg n l i m g pc).t.dW/\s.a.dZ=(cg n l i m g pc).t.dZ/\s.a.core=(cg n l i m g pc).t.core/\s.a.eo=(cg n l i m g pc).t.eo/\s.e=(cg n l i m g pc).e
  dec v B:=⟨⟨aA (gV B 2 0),aA (gV B 2 1),aA (gV B 2 2),aA (gV B 2 3)⟩,zA (gV B 1),aA (v 12)⟩
theorem DZ {j k cl:Int} (hk:0<=k/\k<32) (hc:1<=cl/\cl<=100):cH (dQ j k cl).o (dQ j k cl).a (dQ j k cl).b (dQ j k cl).m=0/\1<=(dQ j k cl).o/\(dQ j k cl).o≠12:=by
  have k9:=dd (c:=k) (n:=9) (by decide)
  have k4:=dd (c:=k) (n:=4) (by decide)
  have Fo:=dd (c:=k) (n:=18) (by decide)
  have Fp:=dd (c:=k) (n:=20) (by decide)
  have k7:=dd (c:=k) (n:=7) (by decide)
  have Fq:=dd (c:=k) (n:=15) (by decide)
  have kc:=dd (c:=k) (n:=cl) (by omega)
  unfold dQ
  generalize aE k 9=a9 at*
  generalize aE k 4=a4 at*
  generalize aE k 18=a18 at*
  generalize aE k 20=a20 at*
  generalize aE k 7=a7 at*
  generalize aE k 15=wo at*
  generalize aE k cl=ac at*
  cases j==0||j==1||j==2<;>simp only[cond_true,cond_false]
  · cases j==3||j==4<;>simp only[cond_true,cond_false]
    · cases j==5<;>simp only[cond_true,cond_false]
      · cases j==6<;>simp only[cond_true,cond_false]
        · cases j==7<;>simp only[cond_true,cond_false]
          · cases j==8<;>simp only[cond_true,cond_false]
            · cases j==9<;>simp only[cond_true,cond_false]
              · cases j==10<;>simp only[cond_true,cond_false]
                · refine⟨?_,by omega,by omega⟩
                  simp[cH,fM,bX,ff,hasB,fg];rw[decide_eq_false (by omega),decide_eq_false (by omega)];rfl
                · refine⟨?_,by omega,by omega⟩
                  simp[cH,fM,bX,ff,hasB,fg];rw[decide_eq_false (by omega),decide_eq_false (by omega)];rfl
              · refine⟨?_,by omega,by omega⟩
                have h7:a7=0\/a7=1\/a7=2\/a7=3\/a7=4\/a7=5\/a7=6:=by omega
                rcases h7 with rfl|rfl|rfl|rfl|rfl|rfl|rfl<;>rfl
            · refine⟨?_,by omega,by omega⟩
              simp[cH,fM,bX,ff,hasB,fg];rw[decide_eq_false (by omega),decide_eq_false (by omega)];rfl
          · refine⟨?_,by omega,by omega⟩
            simp[cH,fM,bX,ff,hasB,fg];rw[decide_eq_false (by omega),decide_eq_false (by omega)];rfl
        · refine⟨?_,by omega,by omega⟩
          simp[cH,fM,bX,ff,hasB,fg];rw[decide_eq_false (by omega),decide_eq_false (by omega)];rfl
      · refine⟨?_,by omega,by omega⟩
        simp[cH,fM,bX,ff,hasB,fg];rw[decide_eq_false (by omega),decide_eq_false (by omega)];rfl
    · refine⟨?_,by omega,by omega⟩
      simp[cH,fM,bX,ff,hasB,fg];rw[decide_eq_false (by omega),decide_eq_false (by omega)];rfl
  · refine⟨?_,by omega,by omega⟩
    simp[cH,fM,bX,ff,hasB,fg];rw[decide_eq_false (by omega),decide_eq_false (by omega)];rfl
theorem zB {n:Nat} {l:Nat->Int} {q:Nat} (hq:q<15):cH (fF n l 0 18 q).o (fF n l 0 18 q).a (fF n l 0 18 q).b (fF n l 0 18 q).m=0/\1<=(fF n l 0 18 q).o/\(fF n l 0 18 q).o≠12:=by
  have e:fF n l 0 18 q=dQ (aE (aG n l (0+q)) 16) (aE (aG n l (0+q)/16) 32) 18:=by unfold fF;rw[uM hq];rfl
  rw[e]
  exact DZ (dd (by decide)) (by decide)
theorem yq {o a b m:Int} (h:cH o a b m=0):(o*256+a*16+b)/256=o/\(o*256+a*16+b)/16%16=a/\(o*256+a*16+b)%16=b/\cz (m%65536)=m/\cX (o*256+a*16+b) (m%65536)=true:=by
  have r:=mC h
  have e1:(o*256+a*16+b)/256=o:=by omega
  have e2:(o*256+a*16+b)/16%16=a:=by omega
  have e3:(o*256+a*16+b)%16=b:=by omega
  have e4:cz (m%65536)=m:=by
    unfold cz
    rcases Int.lt_or_le 32767 (m%65536)with q|q
    · rw[decide_eq_true q];show m%65536 -65536=m;omega
    · rw[decide_eq_false (Int.not_lt.2 q)];show m%65536=m;omega
  refine⟨e1,e2,e3,e4,?_⟩
  unfold cX bX
  rw[e1,e2,e3,e4,h]
  simp
  omega
theorem CL {t a:ah} {o ra e p v:Int} (h8:0<=ra/\ra<8) (ha:a=ah.set {t with pc:=p} ra v) (hp:o≠13->p=(t.pc+2)%65536) (he:e=bif o==14 then 1 else 0) (qW:0<=t.pc/\t.pc<=65535):
    ((o==14&&e !=1||o !=14&&e !=0)=true->false=true)/\((o==14&&e !=1||o !=14&&e !=0)=false->((o !=13)=true->(65536:Int)=0->False)/\((o !=13&&a.pc !=(IntKind.i64.wrap (t.pc+2)).tmod 65536)=true->false=true)/\((o !=13&&a.pc !=(IntKind.i64.wrap (t.pc+2)).tmod 65536)=false->(0<=ra/\ra<((8:Nat):Int))/\(0<=ra/\ra<((8:Nat):Int))/\(((bif Nat.beq 0 ra.toNat then List.getD [t.r0,t.r1,t.r2,t.r3,t.r4,t.r5,t.r6,t.r7] ra.toNat 0 else a.r0)==t.r0&&((bif Nat.beq 1 ra.toNat then List.getD [t.r0,t.r1,t.r2,t.r3,t.r4,t.r5,t.r6,t.r7] ra.toNat 0 else a.r1)==t.r1&&((bif Nat.beq 2 ra.toNat then List.getD [t.r0,t.r1,t.r2,t.r3,t.r4,t.r5,t.r6,t.r7] ra.toNat 0 else a.r2)==t.r2&&((bif Nat.beq 3 ra.toNat then List.getD [t.r0,t.r1,t.r2,t.r3,t.r4,t.r5,t.r6,t.r7] ra.toNat 0 else a.r3)==t.r3&&((bif Nat.beq 4 ra.toNat then List.getD [t.r0,t.r1,t.r2,t.r3,t.r4,t.r5,t.r6,t.r7] ra.toNat 0 else a.r4)==t.r4&&((bif Nat.beq 5 ra.toNat then List.getD [t.r0,t.r1,t.r2,t.r3,t.r4,t.r5,t.r6,t.r7] ra.toNat 0 else a.r5)==t.r5&&((bif Nat.beq 6 ra.toNat then List.getD [t.r0,t.r1,t.r2,t.r3,t.r4,t.r5,t.r6,t.r7] ra.toNat 0 else a.r6)==t.r6&&((bif Nat.beq 7 ra.toNat then List.getD [t.r0,t.r1,t.r2,t.r3,t.r4,t.r5,t.r6,t.r7] ra.toNat 0 else a.r7)==t.r7&&true))))))))&&(t.pc==t.pc&&(a.st==t.st&&(a.prio==t.prio&&(a.node==t.node&&(a.space==t.space&&(a.helper==t.helper&&(a.loc==t.loc&&(a.word==t.word&&(a.dW==t.dW&&(a.dZ==t.dZ&&(a.core==t.core&&(a.eo==t.eo&&true)))))))))))))=true)):=by
  have k1:(o==14&&e !=1||o !=14&&e !=0)=false:=by
    subst he
    cases h:o==14<;>simp[bne,h]
  have ew:(IntKind.i64.wrap (t.pc+2)).tmod 65536=(t.pc+2)%65536:=by
    rw[fa (by omega) (by omega),Int.tmod_eq_emod_of_nonneg (by omega)]
  have k2:(o !=13&&a.pc !=(IntKind.i64.wrap (t.pc+2)).tmod 65536)=false:=by
    rw[ew]
    rcases Decidable.em (o=13)with h|h
    · subst h;rfl
    · have:a.pc=(t.pc+2)%65536:=by rw[ha,<-hp h];rfl
      rw[this];simp
  rw[k1,k2]
  refine⟨λh=>(by cases h),λ_=>⟨λ_ h=>absurd h (by decide),λh=>(by cases h),λ_=>⟨h8,h8,?_⟩⟩⟩
  subst ha
  rcases uo h8.1 h8.2 with h|h|h|h|h|h|h|h<;>(simp[ah.set,h,Nat.beq])
theorem Dm {n:Nat} {l:Nat->Int} {i:Int} {m:Nat} {g:Nat->Int} {pc:Int} (h:cH (bE n l i).o (bE n l i).a (bE n l i).b (bE n l i).m=0) (U:1<=(bE n l i).o) (gb:(bE n l i).o≠12) (dc:((bE n l i).o==10||(bE n l i).o==11)=false):
    ∃p v,(cg n l i m g pc).t=ah.set {gJ m g pc with pc:=p} (bE n l i).a v/\((bE n l i).o≠13->p=((gJ m g pc).pc+2)%65536)/\(cg n l i m g pc).e=bif (bE n l i).o==14 then 1 else 0:=by
  have r:=mC h
  obtain⟨c1,c2,c3,c4,_⟩:=yq h
  have e:cg n l i m g pc=aO (gJ m g pc) (bE n l i).o (bE n l i).a (bE n l i).b ((bE n l i).o*256+(bE n l i).a*16+(bE n l i).b) ((bE n l i).m%65536) (bE n l i).m ((gJ m g pc).get (bE n l i).a) ((gJ m g pc).get (bE n l i).b) (((gJ m g pc).get (bE n l i).b+(bE n l i).m%65536)%65536):=by
    unfold cg fQ
    rw[c1,c2,c3,c4]
  rw[e]
  generalize (bE n l i).o=o at*
  generalize (bE n l i).a=ra at*
  generalize gJ m g pc=t at*
  rw[Bool.or_eq_false_iff]at dc
  have h0:(o==0)=false:=beq_eq_false_iff_ne.2 (by omega)
  unfold aO
  rw[h0,dc.1,dc.2]
  simp only[Bool.false_and,cond_false]
  cases oK:o==14 with
  |true=>
   refine⟨(t.pc+2)%65536,t.get ra,?_,λ_=>rfl,rfl⟩
   exact(ah.tM {t with pc:=(t.pc+2)%65536} (by omega) (by omega)).symm
  |false=>
   refine⟨_,_,rfl,λhY=>?_,rfl⟩
   rw[show(o==12)=false from beq_eq_false_iff_ne.2 gb,show(o==13)=false from beq_eq_false_iff_ne.2 hY]
   rfl
structure wW where
  (n:Nat) (l:Nat->Int) (i:Int) (m:Nat) (g:Nat->Int) (pc:Int)
def wX:Sy.Spec:=⟨wW,λ⟨n,l,i,m,g,pc⟩=> [.sl true 1 n (λi_ _=> .v (.int .i64 (l i_))),.v (.int .i64 i),.sl true 1 m (λi_ _=> .v (.int .i64 (g i_))),.v (.int .i64 pc)],λ_=> [],λ⟨n,l,i,m,g,pc⟩=>(∀k,k<n->fH (l k))/\fH i/\(∀k,k<m->fH (g k))/\fH pc,λ_=> .v (.bool true),λ_=> [],
  λargs mem=>match args with| [a0,a1,a2,a3]=>some ⟨qE a0,λi=>aA (qF a0 i 0),aA (a1),qE a2,λi=>aA (qF a2 i 0),aA (a3)⟩|_=>none⟩
def sE:ca:=⟨[],(wX).g,none⟩
def wY:wW->Prop:=λ⟨n,l,i,m,g,pc⟩=>let a0:=decide (256<aK ((n:Int)+(m:Int)));let b0:=true=true/\True;let c0:=tn 2 True;let d0:=True/\c0;let e0:=tn 16 d0;let g0:=m=m/\(∀h0:Nat,h0<m->True/\g h0=g h0);let k0:=(0:Int)=0;let l0:=(0:Int)<=0;let o0:=aG m g 0;let q0:=(65536:Int)=65536/\True;let u0:=(0:Int)<65536;let v0:=((8:Nat):Int);let w0:=aK (0+1);let x0:=0<=w0;let y0:=aG m g w0;let z0:=aK (w0+1);let a1:=0<=z0;let b1:=aG m g z0;let c1:=aK (z0+1);let d1:=0<=c1;let e1:=aG m g c1;let g1:=aK (c1+1);let U:=0<=g1;let k1:=aG m g g1;let l1:=aK (g1+1);let o1:=0<=l1;let q1:=aG m g l1;let u1:=aK (l1+1);let v1:=0<=u1;let w1:=aG m g u1;let x1:=aK (u1+1);let y1:=0<=x1;let z1:=aG m g x1;let a2:=SV.ptr 0 0 none 0 0=SV.ptr 0 0 none 0 0;let b2:=0-0;let c2:=aE z1 65536;let d2:=aE w1 65536;let e2:=aE q1 65536;let g2:=aE k1 65536;let h2:=aE e1 65536;let k2:=aE b1 65536;let l2:=aE y0 65536;let o2:=aE o0 65536;let q2:=1-0;let u2:=aE (aG m g 1) 65536;let v2:=2-0;let w2:=aE (aG m g 2) 65536;let x2:=3-0;let y2:=aE (aG m g 3) 65536;let z2:=4-0;let a3:=aE (aG m g 4) 65536;let b3:=5-0;let c3:=aE (aG m g 5) 65536;let d3:=6-0;let e3:=aE (aG m g 6) 65536;let g3:=7-0;let h3:=aE (aG m g 7) 65536;let k3:=aE pc 65536;let l3:=k3=k3;let o3:=((-1):Int)=(-1);let q3:=(((((((((((((((((((True/\o2=o2)/\u2=u2)/\w2=w2)/\y2=y2)/\a3=a3)/\c3=c3)/\e3=e3)/\h3=h3)/\l3)/\k0)/\k0)/\o3)/\o3)/\o3)/\o3)/\k0)/\k0)/\o3)/\k0)/\k0;let u3:=0<=k3/\k3<=65535;let v3:=k3==k3;let w3:=(0:Int)==0;let x3:=((-1):Int)==(-1);
    let y3:=cond (cond (!(o2==o2&&(u2==u2&&(w2==w2&&(y2==y2&&(a3==a3&&(c3==c3&&(e3==e3&&(h3==h3&&true)))))))&&(v3&&(w3&&(w3&&(x3&&(x3&&(x3&&(x3&&(w3&&(w3&&(x3&&(w3&&(w3&&true)))))))))))))) true ((2:Int) !=2)) true (k3 !=k3);let z3:=false=true/\True;let a4:=aE i 15;let b4:=fF n l 0 18 (0+Int.toNat a4);let c4:=b4.o;let d4:=b4.a;let e4:=b4.b;let g4:=b4.m;let h4:=((((True/\c4=c4)/\d4=d4)/\e4=e4)/\g4=g4)/\True;let k4:Int:=c4*256+d4*16+e4;let l4:Int:=g4%65536;let o4:=fQ (ah.mk o2 u2 w2 y2 a3 c3 e3 h3 k3 0 0 (-1) (-1) (-1) (-1) 0 0 (-1) 0 0) k4 l4;let q4:=o4.e;let u4:=o4.t;let v4:=u4.r0;let w4:=u4.r1;let x4:=u4.r2;let y4:=u4.r3;let z4:=u4.r4;let a5:=u4.r5;let b5:=u4.r6;let c5:=u4.r7;let d5:=u4.pc;let e5:=u4.st;let g5:=u4.prio;let h5:=u4.node;let k5:=u4.space;let l5:=u4.helper;let o5:=u4.loc;let q5:=u4.word;let u5:=u4.dW;let v5:=u4.dZ;let w5:=u4.core;let x5:=u4.eo;let y5:=bE n l i;let z5:=cg n l i m g pc;let a6:=z5.t;let b6:=a6.r0;let c6:=a6.r1;let d6:=a6.r2;let e6:=a6.r3;let g6:=a6.r4;let h6:=a6.r5;let k6:=a6.r6;let l6:=a6.r7;let o6:=a6.pc;let q6:=a6.st;let u6:=a6.prio;let v6:=a6.node;let w6:=a6.space;let x6:=a6.helper;let y6:=a6.loc;let z6:=a6.word;let a7:=a6.dW;let b7:=a6.dZ;let c7:=a6.core;let d7:=a6.eo;let e7:=z5.e;let g7:=Int.tmod (aK (k3+2)) 65536;let h7:=[o2,u2,w2,y2,a3,c3,e3,h3];(n:Int)<=9223372036854775807->(m:Int)<=9223372036854775807->(a0=true->b0)/\(a0=false->c0/\True/\e0/\((g0/\k0/\True)/\True/\(∀k7:Nat,k7<m->(-9223372036854775808)<=g k7/\g k7<=9223372036854775807)/\l0/\
    (0:Int)<=1000)/\((o0=o0/\q0)/\True/\((-9223372036854775808)<=o0/\o0<=9223372036854775807)/\u0)/\(l0/\0<v0)/\True/\((g0/\w0=w0/\True)/\True/\(∀l7:Nat,l7<m->(-9223372036854775808)<=g l7/\g l7<=9223372036854775807)/\x0/\w0<=1000)/\((y0=y0/\q0)/\True/\((-9223372036854775808)<=y0/\y0<=9223372036854775807)/\u0)/\(x0/\w0<v0)/\True/\((g0/\z0=z0/\True)/\True/\(∀o7:Nat,o7<m->(-9223372036854775808)<=g o7/\g o7<=9223372036854775807)/\a1/\z0<=1000)/\((b1=b1/\q0)/\True/\((-9223372036854775808)<=b1/\b1<=9223372036854775807)/\u0)/\(a1/\z0<v0)/\True/\((g0/\c1=c1/\True)/\True/\(∀q7:Nat,q7<m->(-9223372036854775808)<=g q7/\g q7<=9223372036854775807)/\d1/\c1<=1000)/\((e1=e1/\q0)/\True/\((-9223372036854775808)<=e1/\e1<=9223372036854775807)/\u0)/\(d1/\c1<v0)/\True/\((g0/\g1=g1/\True)/\True/\(∀u7:Nat,u7<m->(-9223372036854775808)<=g u7/\g u7<=9223372036854775807)/\U/\g1<=1000)/\((k1=k1/\q0)/\True/\((-9223372036854775808)<=k1/\k1<=9223372036854775807)/\u0)/\(U/\g1<v0)/\True/\((g0/\l1=l1/\True)/\True/\(∀v7:Nat,v7<m->(-9223372036854775808)<=g v7/\g v7<=9223372036854775807)/\o1/\l1<=1000)/\((q1=q1/\q0)/\True/\((-9223372036854775808)<=q1/\q1<=9223372036854775807)/\u0)/\(o1/\l1<v0)/\True/\((g0/\u1=u1/\True)/\True/\(∀w7:Nat,w7<m->(-9223372036854775808)<=g w7/\g w7<=9223372036854775807)/\v1/\u1<=1000)/\((w1=w1/\q0)/\True/\((-9223372036854775808)<=w1/\w1<=9223372036854775807)/\u0)/\(v1/\u1<v0)/\True/\((g0/\x1=x1/\True)/\True/\(∀x7:Nat,x7<m->(-9223372036854775808)<=g x7/\g x7<=9223372036854775807)/\y1/\x1<=1000)/\((z1=z1/\q0)/\True/\((-9223372036854775808)<=z1/\z1<=9223372036854775807)/\u0)/\(y1/\x1<v0)/\True/\(((pc=pc/\q0)/\True/\((-9223372036854775808)<=pc/\
    pc<=9223372036854775807)/\u0)/\True/\a2/\(((((((((((((((((((((True/\cond (Nat.beq b2 7) c2 (cond (Nat.beq b2 6) d2 (cond (Nat.beq b2 5) e2 (cond (Nat.beq b2 4) g2 (cond (Nat.beq b2 3) h2 (cond (Nat.beq b2 2) k2 (cond (Nat.beq b2 1) l2 (cond (Nat.beq b2 0) o2 0)))))))=o2)/\cond (Nat.beq q2 7) c2 (cond (Nat.beq q2 6) d2 (cond (Nat.beq q2 5) e2 (cond (Nat.beq q2 4) g2 (cond (Nat.beq q2 3) h2 (cond (Nat.beq q2 2) k2 (cond (Nat.beq q2 1) l2 (cond (Nat.beq q2 0) o2 0)))))))=u2)/\cond (Nat.beq v2 7) c2 (cond (Nat.beq v2 6) d2 (cond (Nat.beq v2 5) e2 (cond (Nat.beq v2 4) g2 (cond (Nat.beq v2 3) h2 (cond (Nat.beq v2 2) k2 (cond (Nat.beq v2 1) l2 (cond (Nat.beq v2 0) o2 0)))))))=w2)/\cond (Nat.beq x2 7) c2 (cond (Nat.beq x2 6) d2 (cond (Nat.beq x2 5) e2 (cond (Nat.beq x2 4) g2 (cond (Nat.beq x2 3) h2 (cond (Nat.beq x2 2) k2 (cond (Nat.beq x2 1) l2 (cond (Nat.beq x2 0) o2 0)))))))=y2)/\cond (Nat.beq z2 7) c2 (cond (Nat.beq z2 6) d2 (cond (Nat.beq z2 5) e2 (cond (Nat.beq z2 4) g2 (cond (Nat.beq z2 3) h2 (cond (Nat.beq z2 2) k2 (cond (Nat.beq z2 1) l2 (cond (Nat.beq z2 0) o2 0)))))))=a3)/\cond (Nat.beq b3 7) c2 (cond (Nat.beq b3 6) d2 (cond (Nat.beq b3 5) e2 (cond (Nat.beq b3 4) g2 (cond (Nat.beq b3 3) h2 (cond (Nat.beq b3 2) k2 (cond (Nat.beq b3 1) l2 (cond (Nat.beq b3 0) o2 0)))))))=c3)/\cond (Nat.beq d3 7) c2 (cond (Nat.beq d3 6) d2 (cond (Nat.beq d3 5) e2 (cond (Nat.beq d3 4) g2 (cond (Nat.beq d3 3) h2 (cond (Nat.beq d3 2) k2 (cond (Nat.beq d3 1) l2 (cond (Nat.beq d3 0) o2 0)))))))=e3)/\
    cond (Nat.beq g3 7) c2 (cond (Nat.beq g3 6) d2 (cond (Nat.beq g3 5) e2 (cond (Nat.beq g3 4) g2 (cond (Nat.beq g3 3) h2 (cond (Nat.beq g3 2) k2 (cond (Nat.beq g3 1) l2 (cond (Nat.beq g3 0) o2 0)))))))=h3)/\l3)/\k0)/\k0)/\o3)/\o3)/\o3)/\o3)/\k0)/\k0)/\o3)/\k0)/\k0)/\True)/\True)/\(∀y7:Sl,True->((q3/\True/\True)/\True/\u3)/\True/\e0/\(y3=true->z3)/\(y3=false->(((n=n/\(∀z7:Nat,z7<n->True/\l z7=l z7))/\k0/\(18:Int)=18/\True)/\True/\(∀a8:Nat,a8<n->(-9223372036854775808)<=l a8/\l a8<=9223372036854775807)/\l0/\(0:Int)<=900/\(1:Int)<=18/\(18:Int)<=100)/\((i=i/\(15:Int)=15/\True)/\True/\((-9223372036854775808)<=i/\i<=9223372036854775807)/\(0:Int)<15)/\(0<=a4/\a4<((16:Nat):Int))/\True/\d0/\tn 4 ((h4/\True/\cH c4 d4 e4 g4=0)/\tn 2 (((q3/\(((True/\l3)/\k4=k4)/\l4=l4)/\True)/\True/\((0<=o2/\o2<=65535)/\(0<=u2/\u2<=65535)/\(0<=w2/\w2<=65535)/\(0<=y2/\y2<=65535)/\(0<=a3/\a3<=65535)/\(0<=c3/\c3<=65535)/\(0<=e3/\e3<=65535)/\(0<=h3/\h3<=65535)/\u3)/\l3/\cX k4 l4=true)/\tn 4 (a2/\SV.ptr (0+1) 0 none 0 0=SV.ptr 1 0 none 0 0/\SV.ptr (0+1+1) 0 none 0 0=SV.ptr 2 0 none 0 0/\q4=q4/\(q3/\((((((((((((((((((((True/\v4=v4)/\w4=w4)/\x4=x4)/\y4=y4)/\z4=z4)/\a5=a5)/\b5=b5)/\c5=c5)/\d5=d5)/\e5=e5)/\g5=g5)/\h5=h5)/\k5=k5)/\l5=l5)/\o5=o5)/\q5=q5)/\u5=u5)/\v5=v5)/\w5=w5)/\x5=x5)/\h4)/\c4=y5.o/\d4=y5.a/\e4=y5.b/\g4=y5.m/\v4=b6/\w4=c6/\x4=d6/\y4=e6/\z4=g6/\a5=h6/\b5=k6/\c5=l6/\d5=o6/\e5=q6/\g5=u6/\h5=v6/\k5=w6/\l5=x6/\o5=y6/\q5=z6/\u5=a7/\v5=b7/\w5=c7/\x5=d7/\q4=e7)))/\(∀b8:AE,let c8:=b8.x.o;let d8:=b8.a;let e8:=cond (c8==10) true (c8==11);let g8:=cond (cond (c8==14) (b8.e !=1) false) true (cond (c8 !=14) (b8.e !=0) false);
    let h8:=cond (c8 !=13) (d8.pc !=g7) false;let k8:=0<=b8.x.a/\b8.x.a<v0;let l8:=Int.toNat b8.x.a;let o8:=List.getD h7 l8 0;c8=y5.o/\b8.x.a=y5.a/\b8.x.b=y5.b/\b8.x.m=y5.m/\d8.r0=b6/\d8.r1=c6/\d8.r2=d6/\d8.r3=e6/\d8.r4=g6/\d8.r5=h6/\d8.r6=k6/\d8.r7=l6/\d8.pc=o6/\d8.st=q6/\d8.prio=u6/\d8.node=v6/\d8.space=w6/\d8.helper=x6/\d8.loc=y6/\d8.word=z6/\d8.dW=a7/\d8.dZ=b7/\d8.core=c7/\d8.eo=d7/\b8.e=e7->(e8=true->b0)/\(e8=false->(g8=true->z3)/\(g8=false->((c8 !=13)=true->(65536:Int)=0->False)/\(h8=true->z3)/\(h8=false->tn 5 (k8/\tn 2 (k8/\tn 2 ((cond (Nat.beq b2 l8) o8 d8.r0==o2&&(cond (Nat.beq q2 l8) o8 d8.r1==u2&&(cond (Nat.beq v2 l8) o8 d8.r2==w2&&(cond (Nat.beq x2 l8) o8 d8.r3==y2&&(cond (Nat.beq z2 l8) o8 d8.r4==a3&&(cond (Nat.beq b3 l8) o8 d8.r5==c3&&(cond (Nat.beq d3 l8) o8 d8.r6==e3&&(cond (Nat.beq g3 l8) o8 d8.r7==h3&&true)))))))&&(v3&&(d8.st==0&&(d8.prio==0&&(d8.node==(-1)&&(d8.space==(-1)&&(d8.helper==(-1)&&(d8.loc==(-1)&&(d8.word==0&&(d8.dW==0&&(d8.dZ==(-1)&&(d8.core==0&&(d8.eo==0&&true)))))))))))))=true/\True))))))))))
set_option maxHeartbeats 2000000 in
theorem A3:cp Tryd.prog jG 3 sE:=eY (.cons (xQ.or B2) (.cons (B3.up iw) (.cons (tN.up iw) (.cons (zd.up iw) (.cons xQ (.cons (A4.up iw) (.cons (BA.up iw) .nil))))))) true Tryd.call3 Tryd.func3 (λ⟨n,l,i,m,g,pc⟩=> [.dec,.pO 9,.cut 9 (DY m g pc),.cut 14 (Dl n l i m g pc)]) (V:=wY) (λ_=>by kernel_rfl) λ⟨n,l,i,m,g,pc⟩ hp=>by
  dsimp only[wX]at hp
  dsimp only[wY,tn,aK]
  simp only[jr,kz,eq_self,implies_true,Bool.cond_self]
  obtain⟨hl,hi,hg,qW⟩:=hp
  unfold fH at hl hi hg qW
  simp only[Nat.sub_zero,show IntKind.i64.wrap ((0:Int)+1)=1 from fa (by decide) (by decide),show IntKind.i64.wrap ((1:Int)+1)=2 from fa (by decide) (by decide),show IntKind.i64.wrap ((2:Int)+1)=3 from fa (by decide) (by decide),show IntKind.i64.wrap ((3:Int)+1)=4 from fa (by decide) (by decide),show IntKind.i64.wrap ((4:Int)+1)=5 from fa (by decide) (by decide),show IntKind.i64.wrap ((5:Int)+1)=6 from fa (by decide) (by decide),show IntKind.i64.wrap ((6:Int)+1)=7 from fa (by decide) (by decide),show IntKind.i64.wrap ((7:Int)+1)=8 from fa (by decide) (by decide)]
  intro _ _ _
  have hr:=λ(k:Int) (h0:0<=k) (U:k<=1000)=>wZ (n:=m) (l:=g) h0 U
  have h0:=hr 0 (by decide) (by decide)
  have U:=hr 1 (by decide) (by decide)
  have h2:=hr 2 (by decide) (by decide)
  have h3:=hr 3 (by decide) (by decide)
  have h4:=hr 4 (by decide) (by decide)
  have h5:=hr 5 (by decide) (by decide)
  have h6:=hr 6 (by decide) (by decide)
  have h7:=hr 7 (by decide) (by decide)
  have A:=λ(x:Int) (h:0<=x/\x<=9000000)=>(show(-9223372036854775808:Int)<=x/\x<=9223372036854775807 from⟨by omega,by omega⟩)
  refine⟨⟨hg,by decide,by decide⟩,⟨A _ h0,by decide⟩,by decide,⟨hg,by decide,by decide⟩,⟨A _ U,by decide⟩,by decide,⟨hg,by decide,by decide⟩,⟨A _ h2,by decide⟩,by decide,⟨hg,by decide,by decide⟩,⟨A _ h3,by decide⟩,by decide,⟨hg,by decide,by decide⟩,⟨A _ h4,by decide⟩,by decide,⟨hg,by decide,by decide⟩,⟨A _ h5,by decide⟩,by decide,⟨hg,by decide,by decide⟩,⟨A _ h6,by decide⟩,by decide,⟨hg,by decide,by decide⟩,⟨A _ h7,by decide⟩,by decide,?_⟩
  clear h0 U h2 h3 h4 h5 h6 h7
  have pk:=λ(c:Int)=>(dd (c:=c) (n:=65536) (by decide))
  have gK:=λ(c:Int)=>(show 0<=aE c 65536/\aE c 65536<=65535 from⟨(pk c).1,by have:=(pk c).2;omega⟩)
  have pi:=dd (c:=i) (n:=15) (by decide)
  refine⟨⟨⟨qW,by decide⟩,⟨⟨⟨⟨⟨⟨⟨rfl,rfl⟩,rfl⟩,rfl⟩,rfl⟩,rfl⟩,rfl⟩,rfl⟩⟩,λ_ _=>⟨gK pc,λh=>?_,λ_=>⟨⟨hl,by decide,by decide,by decide,by decide⟩,⟨hi,by decide⟩,⟨pi.1,by omega⟩,?_,?_⟩⟩⟩
  · simp only[beq_self_eq_true,Bool.true_and,Bool.and_true,Bool.not_true,bne_self_eq_false,Bool.or_false]at h
    exact absurd h (by decide)
  · have hx:=(zB (n:=n) (l:=l) (q:=(aE i 15).toNat) (by omega)).1
    exact⟨hx,⟨⟨gK _,gK _,gK _,gK _,gK _,gK _,gK _,gK _,gK _⟩,(yq hx).2.2.2.2⟩,rfl,rfl,rfl,rfl,rfl,rfl,rfl,rfl,rfl,rfl,rfl,rfl,rfl,rfl,rfl,rfl,rfl,rfl,rfl,rfl,rfl,rfl,rfl,rfl,rfl⟩
  clear A
  intro s hs dc
  obtain⟨⟨o,ra,rb,im⟩,⟨v0,v1,v2,v3,v4,v5,v6,v7,v8,v9,v10,v11,kW,kX,gL,AF,AG,AH,AI,AJ⟩,e⟩:=s
  dsimp only at hs dc⊢
  obtain⟨e1,e2,e3,e4,q0,q1,q2,q3,q4,q5,q6,q7,q8,q9,mo,mq,mr,h_,mu,Fs,Ft,Fu,Fv,Fw,qe⟩:=hs
  subst e1 e2 e3 e4
  have ay:=zB (n:=n) (l:=l) (q:=(aE i 15).toNat) (by omega)
  obtain⟨p,v,ht,hp,he⟩:=Dm (m:=m) (g:=g) (pc:=pc) (n:=n) (l:=l) (i:=i) ay.1 ay.2.1 ay.2.2 dc
  have r:=mC ay.1
  have ha:(⟨v0,v1,v2,v3,v4,v5,v6,v7,v8,v9,v10,v11,kW,kX,gL,AF,AG,AH,AI,AJ⟩:ah)=(cg n l i m g pc).t:=by rw[q0,q1,q2,q3,q4,q5,q6,q7,q8,q9,mo,mq,mr,h_,mu,Fs,Ft,Fu,Fv,Fw]
  exact CL (t:=gJ m g pc) (a:=⟨v0,v1,v2,v3,v4,v5,v6,v7,v8,v9,v10,v11,kW,kX,gL,AF,AG,AH,AI,AJ⟩) (e:=e) ⟨r.2.2.1,Int.lt_of_le_of_lt r.2.2.2.1 (by decide)⟩ (ha.trans ht) hp (qe.trans he) (gK pc)
end Go.Proofs.YtbngaammbjaajaaDoor
namespace Go.Proofs.YtbngaammbjaajaaDoor
open Go.ChangeShapes Go.WideShapes Go.RowKit Go.Sy
theorem K.own:ownKnob Tryd.prog.godebug=none:=by kernel_rfl
theorem K.laidOut:laidOutB Tryd.prog=true:=by kernel_rfl
theorem K.trodAll {H:Type} {enc:TypeId×Value->H} {P:Program} (hl:laidOutB P=true) {W W':World} (hb:Below W.heap.size W W'): ∀{ts:List TypeId} {vs:List Value} {ds:List (DataW H)} {ps:List MemPlace},
    (ts.all λt=>P.readableRec t&&decide (t<P.types.size))=true->DataW.TrodAll enc P W 0 (λ_=>true) true ts vs ds ps->(∀x∈ps,x.block<W.heap.size)->DataW.TrodAll enc P W' 0 (λb=>decide (b<W.heap.size)) true ts vs ds ps
  | [],[],[],_,_,h,_=>h
  |t::ts,v::vs,d::ds,ps,hr,⟨p,q,U,h2,e⟩,af=>by
   subst e
   simp only[List.all_cons,Bool.and_eq_true,decide_eq_true_eq]at hr
   exact⟨p,q,Below.trod hl hr.1.1 hr.1.2 U hb (λx hx=>af x (List.mem_append_left _ hx)),K.trodAll hl hb hr.2 h2 (λx hx=>af x (List.mem_append_right _ hx)),rfl⟩
theorem K.underlying4:Tryd.prog.underlying 4=some .bool:=by kernel_rfl
theorem K.len {H:Type} {enc:TypeId×Value->H} {P:Program} {w:World} {base:Nat} {spare:Nat->Bool} {held:Bool}: ∀{ts:List TypeId} {vs:List Value} {ds:List (DataW H)} {ps:List MemPlace},DataW.TrodAll enc P w base spare held ts vs ds ps->ds.length=ts.length
  | [],[],[],_,_=>rfl
  |_::_,_::_,_::_,_,⟨_,_,_,h,_⟩=>by simp[K.len h]
theorem K.CK {ps:Array TypeId} (h:(ps.toList.all λt=>!Tryd.prog.wantsStandIn t)=true) {j:Nat} {t:TypeId} (ht:ps[j]? =some t):Tryd.prog.wantsStandIn t=false:=by
  have:=List.all_eq_true.1 h t (by rw[Array.mem_toList_iff];exact Array.mem_of_getElem? ht)
  simpa using this
set_option maxRecDepth 100000 in
theorem K.lift {f:FuncId} {fn:Func} {s:ChangeSpec} {X:World->Prop} (hX: ∀(w w':World),w.heap=w'.heap->X w->X w') (os:Os) (started:os.Started) (H:Type) (enc:TypeId×Value->H)
    (Du:Tryd.checked.prog.inits.idxOf? f=none) (eR:Tryd.checked.prog.funcs[f]? =some fn)
    (hs: ∀ds:List (DataW H),ds.length=fn.params.toList.length->s.fn H (ds++ [])={results:= [.lit (.bool true)],args:=ds}) (hv:s.vars= []) (hr:fn.resultTypes= #[4])
    (cM:(fn.params.toList.all λt=>Tryd.prog.readableRec t&&decide (t<Tryd.prog.types.size))=true)
    (witness: ∃(w:World) (tape:Tape) (i:Input),w.os=os/\(w.forCall tape i).Shaped Tryd.prog/\i.vars= []/\Input.okWide Tryd.prog (w.forCall tape i) .any w.heap.size f i/\
      ((s.pre enc Tryd.prog fn [] false (w.forCall tape i).memory i.args/\X (w.forCall tape i).memory)/\sizedMet enc Tryd.prog fn (OpenSpec.ofChange s) false (w.forCall tape i).memory i.args)/\({}:Assume).holds Tryd.prog (lone (Frame.enter Tryd.prog f i.args .normal) [] (w.forCall tape i)))
    (Cc: ∀(W:World) (base:Nat) (args:Array Value) (ds:List (DataW H)) (p:List MemPlace),
     (∀(j:Nat) t v,fn.params[j]? =some t->args[j]? =some v->Value.okWide Tryd.prog W .any base t v)->
     DataW.TrodAll enc Tryd.prog W 0 (λ_=>true) true fn.params.toList args.toList ds p->X W->(∀x∈p,x.block<W.heap.size)->
     Calls Tryd.prog f args W λe W'=>e= .returned (.bool true)/\Below W.heap.size W W'):
    ReturnsInHanded {} Tryd.checked os f .any (λw args=>(s.pre enc Tryd.prog fn [] false w args/\X w)/\sizedMet enc Tryd.prog fn (OpenSpec.ofChange s) false w args) (s.post enc Tryd.prog fn false true false false):=by
  refine returnsInHanded_of_change_and (C:=Tryd.checked) (X:=λw _=>X w) (λw w' _ hh h=>hX w w' hh h) K.own started Du eR witness ?_
  intro W base args ds gs before nO hW _ _ hL _
  have AN:=hW
  obtain⟨p,q,hA,hV,rfl,hfz,_⟩:=hW
  have af: ∀x∈p,x.block<W.heap.size:=λx hx=>by simpa using AN.lt x (List.mem_append_left _ hx)
  obtain⟨rfl,rfl⟩:gs= []/\q= []:=by
    rw[hv]at hV
    cases gs with
    |nil=>exact⟨rfl,hV⟩
    |cons g r=>exact absurd hV (by intro h;cases h)
  refine(Cc W base args ds p nO hA hL af).mono λe W' ⟨he,hb⟩=>?_
  have e1:=hs ds (K.len hA)
  refine⟨_,he,_,_,_,[],p,[],AN,?_,?_,?_,hb.frame _,λh=>by cases h⟩
  · rw[e1,hr];exact trodAll_mk1 (shut_bool K.underlying4 true)
  · rw[e1];exact K.trodAll K.laidOut hb cM hA af
  · rw[e1,hv];rfl
theorem K.yI : Tryd.prog.globalNamed "keyhold/isa.shapes" = some 0 := by kernel_rfl
theorem K.CZ:(Tryd.prog.globals[0]?).map (·.type)=some 59:=by kernel_rfl
theorem K.Cd:Tryd.prog.underlying 59=some (.array 15 58):=by kernel_rfl
theorem K.Ce:Tryd.prog.cellsOf 58=4:=by kernel_rfl
theorem K.Dv:Tryd.prog.cellsOf 4=1:=by kernel_rfl
theorem K.C0:(Rows.laid_keyhold_isa_shapes:DataW Unit)= .agg ((List.range 15).map λi=> .agg [.lit (.string (uq i).data.toList),.lit (.bool (ff i)),.lit (.bool (hasB i)),.lit (.bool (fg i))]):=by kernel_rfl
theorem D6 {s:ByteArray} {t:ByteArray} (h:s.data.toList=t.data.toList):s=t:=by
  cases s;cases t
  simp only at h
  congr 1
  exact Array.toList_inj.1 h
theorem K.yJ: ∀{l:List (String×DataW Unit)} {ps:List MemPlace} {W:World},DataW.LaidVars Tryd.prog W l ps-> ∀{n:String} {d:DataW Unit},(n,d)∈l->
    ∃g t cs fuel p,Tryd.prog.globalNamed n=some g/\(Tryd.prog.globals[g]?).map (·.type)=some t/\W.var? Tryd.prog n=some cs/\DataW.trod (λ_=>()) Tryd.prog W 0 (λ_=>true) false fuel t cs.toList=some (d,p)
  |(n,d)::r,ps,W,⟨g,t,cs,fuel,p,q,hg,ht,hv,hd,hr,_⟩,n',d',hm=>by
   rcases List.mem_cons.1 hm with e|e
   · cases e;exact⟨g,t,cs,fuel,p,hg,ht,hv,hd⟩
   · exact K.yJ hr e
theorem K.Cf {laid:List (String×DataW Unit)} {W:World} (h:laidMetH Tryd.prog laid W): ∃ps,DataW.LaidVars Tryd.prog W (laid.filter λx=>x.2.handleName?.isNone) ps:=by
  unfold laidMetH at h
  split at h
  · next e=>
    have:(laid.filter λx=>x.2.handleName?.isNone)=laid:=by
      rw[List.filter_eq_self]
      intro x hx
      have h2:x∉laid.filter λx=>x.2.handleName?.isSome:=by rw[e];simp
      rw[List.mem_filter]at h2
      cases hq:x.2.handleName? with
      |none=>rfl
      |some y=>exact absurd ⟨hx,by rw[hq];rfl⟩ h2
    rw[this]
    obtain⟨ps,U,_⟩:=h
    exact⟨ps,U⟩
  · obtain⟨⟨ps,U,_⟩,_⟩:=h
    exact⟨ps,U⟩
theorem K.Dw {laid : List (String × DataW Unit)} {W : World} (h : laidMetH Tryd.prog laid W) (hm : ("keyhold/isa.shapes", Rows.laid_keyhold_isa_shapes) ∈ laid) : Den W o0.bare (.pa false 4 15 sQ) (.pointer (some ⟨0, 0, none⟩)) := by
 obtain⟨ps,FC⟩:=K.Cf h
 obtain⟨g,t,cs,fuel,p,hg,ht,EC,hd⟩:=K.yJ FC (List.mem_filter.2 ⟨hm,by kernel_rfl⟩)
 obtain rfl:=Option.some.inj (K.yI.symm.trans hg)
 obtain rfl:=Option.some.inj (K.CZ.symm.trans ht)
 rw[K.C0]at hd
 obtain⟨xs,m,_,ex,_,hl,FD⟩:=DataW.trod_array K.Cd hd
 have e3:=(DataW.agg.inj (Prod.mk.inj ex).1).symm
 have key: ∀i,i<15-> ∀j,j<4-> ∃x,cs.toList[i*4+j]? =some x/\Den W o0.bare (sQ i j) x:=by
   intro i hi
   have hE:=FD i hi
   rw[K.Ce,List.getElem?_eq_getElem (by omega)]at hE
   obtain⟨ys,n,_,ey,_,E7,qz⟩:=DataW.trod_struct Tryd.underlying58 hE
   have e4:(xs.map (·.1))[i]? =some (xs[i]).1:=by rw[List.getElem?_map,List.getElem?_eq_getElem (by omega)];rfl
   rw[e3,List.getElem?_map,List.getElem?_range hi,ey]at e4
   simp only[Option.map_some,Option.some.injEq]at e4
   have e5:=(DataW.agg.inj e4).symm
   have f0:=qz 0 _ rfl
   have f1:=qz 1 _ rfl
   have f2:=qz 2 _ rfl
   have f3:=qz 3 _ rfl
   match ys,e5 with
   | [y0,y1,y2,y3],e5=>
     simp only[List.map_cons,List.map_nil,List.cons.injEq,and_true]at e5
     obtain⟨g0,g1,g2,g3⟩:=e5
     have c9:Tryd.prog.cellsOf 9=1:=by kernel_rfl
     obtain⟨s0,a0,b0,_⟩:=DataW.trod_string Tryd.underlying9 f0
     obtain⟨s1,a1,b1⟩:=DataW.trod_bool Tryd.underlying4 f1
     obtain⟨s2,a2,b2⟩:=DataW.trod_bool Tryd.underlying4 f2
     obtain⟨s3,a3,b3⟩:=DataW.trod_bool Tryd.underlying4 f3
     change List.take (Tryd.prog.cellsOf 9) (List.drop 0 _)=_ at a0
     change List.take (Tryd.prog.cellsOf 4) (List.drop 1 _)=_ at a1
     change List.take (Tryd.prog.cellsOf 4) (List.drop 2 _)=_ at a2
     change List.take (Tryd.prog.cellsOf 4) (List.drop 3 _)=_ at a3
     rw[c9]at a0
     rw[K.Dv]at a1 a2 a3
     rw[b0]at g0;rw[b1]at g1;rw[b2]at g2;rw[b3]at g3
     simp only[DataW.lit.injEq,Lit.string.injEq,Lit.bool.injEq]at g0 g1 g2 g3
     have get: ∀(j:Nat) (x:Value),List.take 1 (List.drop j (List.take 4 (List.drop (i*4) cs.toList)))= [x]->j<4->cs.toList[i*4+j]? =some x:=by
       intro j x hx hj
       have h0:(List.take 1 (List.drop j (List.take 4 (List.drop (i*4) cs.toList))))[0]? =some x:=by rw[hx];rfl
       rw[List.getElem?_take_of_lt (by omega),List.getElem?_drop,List.getElem?_take_of_lt (by omega),List.getElem?_drop]at h0
       simpa using h0
     intro j hj
     match j,hj with
     |0,_=>exact⟨_,get 0 _ a0 (by omega),by rw[D6 g0];rfl⟩
     |1,_=>exact⟨_,get 1 _ a1 (by omega),by rw[g1];rfl⟩
     |2,_=>exact⟨_,get 2 _ a2 (by omega),by rw[g2];rfl⟩
     |3,_=>exact⟨_,get 3 _ a3 (by omega),by rw[g3];rfl⟩
 refine⟨_,rfl,λi hi j hj=>?_⟩
 obtain⟨x,U,h2⟩:=key i hi j hj
 refine⟨x,?_,⟨id,λ_=>id⟩,h2⟩
 rw[dR,Nat.zero_add,World.var?_cell K.yI EC]
 simpa using U
theorem K.gS {laid : List (String × DataW Unit)} {W : World} (h : laidMetH Tryd.prog laid W) (hm : ("keyhold/isa.shapes", Rows.laid_keyhold_isa_shapes) ∈ laid) (g : Nat) : Den W o0.bare (jG g) (.pointer (some ⟨g, 0, none⟩)) := by
 unfold jG
 split
 · exact K.Dw h hm
 · trivial
def K.BD:Array Value:=((List.range 15).flatMap λi=> [.string (uq i),.bool (ff i),.bool (hasB i),.bool (fg i)]).toArray
noncomputable def K.zc (os:Os):World:=
  let w0:=World.holding Tryd.prog os ⟨#[],#[],[]⟩
  {w0 with heap:=w0.heap.modify 0 λ
   | .cells _ t frozen=> .cells K.BD t frozen
   |o=>o}
theorem K.EA (os : Os) (args : Array Value) : laidMetH Tryd.prog [("keyhold/isa.shapes", Rows.laid_keyhold_isa_shapes)] ((K.zc os).forCall (fun _ _ => 0) ⟨#[], args, []⟩).memory :=
 laidMetH_of_parts (laidMet_of_run' 8 (by kernel_rfl) (by kernel_rfl)) (by kernel_rfl)
end Go.Proofs.YtbngaammbjaajaaDoor
