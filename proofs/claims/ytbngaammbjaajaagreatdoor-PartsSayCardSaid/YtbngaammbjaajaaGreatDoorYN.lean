/- The parts of a world: the document. -/
import Derived.Test.YtbngaammbjaajaaGreatDoorYM
import Derived.Test.YtbngaammbjaajaaGreatDoorYI
import Derived.OpenShut
import Derived.ChangeArms
import Derived.MakeChecks
import Derived.Lay
import Derived.Test.YtbngaammbjaajaaGreatDoorTie
import Derived.ChangeSame
import Derived.ChangeVars
import Derived.JoinedOf
import Derived.RowKit
import Derived.LaidLaws
import Derived.LaidHandle
import Derived.Stop.Joined
import Derived.SevenTiedAt
import Derived.OpenVars
import Derived.Test.YtbngaammbjaajaaGreatDoorCards
set_option linter.unusedVariables false
set_option linter.unusedSimpArgs false
set_option linter.unusedVariables false
set_option linter.unusedSimpArgs false
set_option maxRecDepth 100000
namespace Go.Proofs.YtbngaammbjaajaaGreatDoor
open Go.RowKit Go.Sy
noncomputable def jm (W:Wd) (f:Nat):Int:=(mc W f:Int)
structure gO where
  i:Nat
  r:Nat->Nat->Bool
structure vc where
  i:Nat
  o:Nat->Int
structure vd where
  o:Nat->Int
  e:Nat
  n:Nat
  q:Nat->Int
structure ve where
  k:Nat
  o:Nat->Int
  e:Nat
  n:Nat
  q:Nat->Int
theorem TR {W:Wd} {n:Nat}:NR n (λ_ _=>false) (JA W 0 0):=by
  have no: ∀a b,¬JA W 0 0 a b:=λa b h=>by
    rcases h with⟨s,hs,_⟩|⟨q,hq,_⟩
    · omega
    · omega
  exactλa b _ _=>⟨λh=>Bool.noConfusion h,λh=>h.elim (λh=>absurd h (no a b)) λh=>absurd h (no b a)⟩
theorem xi {r:Nat->Nat->Bool} {a b:Int} {A B:Nat} (ha:a=A) (hb:b=B):dw r a b=oz r A B:=by
  subst ha hb
  unfold dw
  rw[decide_eq_true (by omega),decide_eq_true (by omega)]
  rfl
theorem SW {W:Wd} {n i:Nat} {r:Nat->Nat->Bool} (h:NR n r (JA W i (W.aj i).len.toNat)) (h0:0<=(W.aj i).from_):NR n (oz r (i/16) ((W.aj i).from_.toNat/16)) (JA W (i+1) 0):=
  (h.jn _ _).eqv λa b=>xC.trans ⟨λq=>q.elim .inl λq=> .inr q.2,λq=>q.elim .inl λq=> .inr ⟨h0,q⟩⟩
theorem SX {W:Wd} {n i:Nat} {r:Nat->Nat->Bool} (h:NR n r (JA W i (W.aj i).len.toNat)) (h0:(W.aj i).from_<0):NR n r (JA W (i+1) 0):=
  h.eqv λa b=>xC.trans ⟨λq=>q.elim id λq=>absurd q.1 (by omega),.inl⟩
theorem Rq {W:Wd} {n i:Nat} {r:Nat->Nat->Bool} (h:NR n r (JB W i)) (h0:om W i=true):NR n (oz r (i/16) (W.af i%1024).toNat) (JB W (i+1)):=
  (h.jn _ _).eqv λa b=>xD.trans ⟨λq=>q.elim .inl λq=> .inr q.2,λq=>q.elim .inl λq=> .inr ⟨h0,q⟩⟩
theorem Rr {W:Wd} {n i:Nat} {r:Nat->Nat->Bool} (h:NR n r (JB W i)) (h0:om W i=false):NR n r (JB W (i+1)):=
  h.eqv λa b=>xD.trans ⟨λq=>q.elim id λq=>absurd q.1 (by rw[h0];decide),.inl⟩
theorem tG {W:Wd} {n t j:Nat} {r:Nat->Nat->Bool} (h:NR n r (JC W t j)):NR n (dw r t (lk (W.tasks t) j)) (JC W t (j+1)):=by
  rcases Int.lt_or_le (lk (W.tasks t) j) 0 with e|e
  · have:dw r t (lk (W.tasks t) j)=r:=by
      unfold dw
      rw[decide_eq_false (Int.not_le.2 e),Bool.and_false];rfl
    rw[this]
    exact h.eqv λa b=>xE.trans ⟨λq=>q.elim id λq=>absurd q.1 (by omega),.inl⟩
  · rw[xi (A:=t) (B:=(lk (W.tasks t) j).toNat) rfl (by omega)]
    exact(h.jn _ _).eqv λa b=>xE.trans ⟨λq=>q.elim .inl λq=> .inr q.2,λq=>q.elim .inl λq=> .inr ⟨e,q⟩⟩
theorem Rs {W:Wd} {L a b:Nat} (hI:Inv L W) (hw:jo W) (z:W.av=W.ae*16/\W.ar=W.ae*16/\W.aV=W.ae) (h:JC W W.aV 0 a b):a<W.ae/\b<W.ae:=by
  have sj: ∀s k,s<W.av->k<=(W.aj s).len.toNat->SJ W s k a b->a<W.ae/\b<W.ae:=λs k hs hk ⟨q,hq,e1,e2⟩=>by
    have:=B0 hI hs (show q<(W.aj s).len.toNat by omega)
    omega
  rcases h with(h|⟨s,hs,h0,e1,e2⟩)|⟨s,hs,q,_,h0,e1,e2⟩|⟨q,hq,_⟩
  · rcases h with⟨s,hs,h|⟨h0,e1,e2⟩⟩|⟨q,hq,_⟩
    · exact sj s _ hs (Nat.le_refl _) h
    · have:=B1 hI hs h0
      omega
    · omega
  · have:=B2 hw hs h0
    omega
  · have:=(JW hI hs q).2
    omega
  · omega
def SY (n:Nat):bH where
  σ:=Nat
  rt:= [(1,0),(4,0)]
  sh i:= [(1,bk 0),(4,bk 1),(5,.v (.int .i64 i))]
  mh i:= [(1,.cells [.aw 2 0 none 0 n]),(2,.row 1 n λj _=> .il 1 (bif Nat.blt j i then n else 0) (bF λ_=>false))]
  inv i:=i<=n
  μ i:=n -i
  init:=0
def SZ (W:Wd):bH where
  σ:=gO
  rt:= [(1,0),(4,0)]
  sh s:= [(1,bk 0),(4,bk 1),(6,.fn 14 1 (aA [bk 1])),(7,.v (.int .i64 s.i))]
  mh s:= [(1,.cells [.aw 2 0 none 0 W.ae]),(2,.row 1 W.ae λj _=> .il 1 W.ae (bF (s.r j)))]
  inv s:=s.i<=W.av/\NR W.ae s.r (JA W s.i 0)
  μ s:=W.av -s.i
  init:=⟨0,λ_ _=>false⟩
def S0 (W:Wd) (i:Nat):bH where
  σ:=gO
  rt:= [(1,0),(4,0),(8,7)]
  sh s:= [(1,bk 0),(4,bk 1),(6,.fn 14 1 (aA [bk 1])),(8,bk 3),(9,.v (.int .i64 s.i))]
  mh s:= [(1,.cells [.aw 2 0 none 0 W.ae]),(2,.row 1 W.ae λj _=> .il 1 W.ae (bF (s.r j)))]
  inv s:=s.i<=(W.aj i).len.toNat/\NR W.ae s.r (JA W i s.i)
  μ s:=(W.aj i).len.toNat -s.i
  init:=⟨0,λ_ _=>false⟩
def S1 (W:Wd):bH where
  σ:=gO
  rt:= [(1,0),(4,0)]
  sh s:= [(1,bk 0),(4,bk 1),(6,.fn 14 1 (aA [bk 1])),(10,.v (.int .i64 s.i))]
  mh s:= [(1,.cells [.aw 2 0 none 0 W.ae]),(2,.row 1 W.ae λj _=> .il 1 W.ae (bF (s.r j)))]
  inv s:=s.i<=W.ar/\NR W.ae s.r (JB W s.i)
  μ s:=W.ar -s.i
  init:=⟨0,λ_ _=>false⟩
def S2 (W:Wd):bH where
  σ:=gO
  rt:= [(1,0),(4,0)]
  sh s:= [(1,bk 0),(4,bk 1),(6,.fn 14 1 (aA [bk 1])),(12,.v (.int .i64 s.i))]
  mh s:= [(1,.cells [.aw 2 0 none 0 W.ae]),(2,.row 1 W.ae λj _=> .il 1 W.ae (bF (s.r j)))]
  inv s:=s.i<=W.ae/\NR W.ae s.r (JC W s.i 0)
  μ s:=W.ae -s.i
  init:=⟨0,λ_ _=>false⟩
def S3 (n:Nat):bH where
  σ:=Nat
  rt:= [(4,0),(14,1)]
  sh i:= [(4,bk 0),(14,.aw 2 0 none 0 n),(15,.v (.int .i64 i))]
  mh i:= [(2,.row 1 n (iF λj=>bif Nat.blt j i then -1 else 0))]
  inv i:=i<=n
  μ i:=n -i
  init:=0
def S4 (W:Wd):bH where
  σ:=vc
  rt:= [(4,0),(14,1)]
  sh s:= [(4,bk 0),(14,.aw 2 0 none 0 W.ae),(16,.v (.int .i64 s.i))]
  mh s:= [(2,.row 1 W.ae (iF s.o))]
  inv s:=s.i<=W.ae/\ ∀j,j<W.ae->(mc W j<s.i->s.o j=(mc W j:Int))/\(s.i<=mc W j->s.o j= -1)
  μ s:=W.ae -s.i
  init:=⟨0,λ_=> -1⟩
def S5 (W:Wd) (i:Nat):bH where
  σ:=vd
  rt:= [(4,0),(14,1),(17,1)]
  sh s:= [(4,bk 0),(14,.aw 2 0 none 0 W.ae),(17,.aw 3 0 none s.e s.n)]
  mh s:= [(2,.row 1 W.ae (iF s.o)),(3,.row 1 (s.e+s.n) (iF s.q))]
  inv s:=Bi W.ae i (JC W W.aV 0) (λ_ _=>False) s.o s.e s.n s.q
  μ s:=2*dX W.ae s.o+s.n
  init:=⟨λ_=> -1,0,1,λ_=>i⟩
def S6 (W:Wd) (i:Nat) (w:vd):bH where
  σ:=ve
  rt:= [(4,0),(14,1),(17,1)]
  sh s:= [(4,bk 0),(14,.aw 2 0 none 0 W.ae),(17,.aw 3 0 none s.e s.n),(19,.v (.int .i64 s.k))]
  mh s:= [(2,.row 1 W.ae (iF s.o)),(3,.row 1 (s.e+s.n) (iF s.q))]
  inv s:=s.k<=W.ae/\Bi W.ae i (JC W W.aV 0) (λa b=>a=(w.q w.e).toNat/\s.k<=b) s.o s.e s.n s.q/\s.o (w.q w.e).toNat=i/\2*dX W.ae s.o+s.n<2*dX W.ae w.o+w.n
  μ s:=W.ae -s.k
  init:=⟨0,λ_=> -1,0,1,λ_=>i⟩
structure Kh where
  (W:Wd)
noncomputable def Ki:Sy.Spec:=⟨Kh,λ⟨W⟩=> [gq W],λ_=> [],λ⟨W⟩=>Sm W/\jo W,λ⟨W⟩=> .aw 0 0 none 0 W.ae,λ⟨W⟩=> [.row 1 W.ae (iF (jm W))],
  λargs mem=>match args with| [a0]=>some ⟨gf a0⟩|_=>none⟩
noncomputable def S7:aX:=⟨[],(Ki).g,none⟩
def Kj:Kh->Prop:=λ⟨W⟩=>let a0:=W.ae;let b0:=(a0:Int);let c0:=0<=b0;let d0:=b0<=b0;let e0:=SV.ptr 0 0 none 0 0;let g0:=SV.ptr 0 0 none 0 0=e0;let h0:=SV.ptr 1 0 none 0 0;let k0:=SV.ptr (0+1) 0 none 0 0=h0;let l0:=W.ar;let o0:=a0=a0;let q0:=W.av;let r0:=W.aV;let u0:=W.bz;let v0:=W.aE;let w0:=W.aY;let x0:=((((((((((True/\l0=l0/\(∀y0:Nat,y0<l0->True/\W.af y0=W.af y0))/\o0/\(∀z0:Nat,z0<a0->True/\W.kinds z0=W.kinds z0))/\q0=q0/\(∀a1:Nat,a1<q0->aF (W.aj a1) (W.aj a1)))/\r0=r0/\(∀b1:Nat,b1<r0->aG (W.tasks b1) (W.tasks b1)))/\u0=u0/\(∀c1:Nat,let d1:=W.aD c1;c1<u0->True/\d1=d1/\(∀e1:Nat,e1<d1->True/\W.lines c1 e1=W.lines c1 e1)))/\W.aI=W.aI/\(∀g1:Nat,g1<W.aI->True/\W.bits g1=W.bits g1))/\v0=v0/\(∀J:Nat,J<v0->True/\W.aM J=W.aM J))/\w0=w0/\(∀k1:Nat,let l1:=W.aL k1;k1<w0->True/\l1=l1/\(∀o1:Nat,o1<l1->True/\W.ready k1 o1=W.ready k1 o1)))/\W.aK=W.aK/\(∀q1:Nat,let r1:=W.aQ q1;q1<W.aK->True/\r1=r1/\(∀u1:Nat,u1<r1->aH (W.aB q1 u1) (W.aB q1 u1))))/\W.az=W.az/\(∀v1:Nat,v1<W.az->True/\W.aU v1=W.aU v1))/\W.time=W.time;let w1:=Int.toNat b0;let x1:=w1=a0;let y1:=0=0/\x1;let z1:=0=0/\o0;let a2:=True/\z1;let b2:=(q0:Int);let c2:=tn 6 True;let d2:=True/\SV.ptr (0+1) 0 none 0 0=h0;let e2:=SV.ptr (0+1+1+1) 0 none 0 0=SV.ptr 3 0 none 0 0;let g2:=(0:Int)<16;let U:=e0=e0/\True;let k2:=(l0:Int);let l2:=True/\0=0/\o0;let o2:=false=false;let q2:=JC W r0 0;let r2:=Int.toNat 0;True/\(b0<=9223372036854775807->(c0/\d0/\((24:Nat):Int)*b0<=140737488355328)/\tn 2 (g0/\k0/\0=((0:Nat):Int)/\(x0/\(True/\y1)/\(x1/\
    (∀u2:Nat,let v2:=cond (Nat.blt u2 0) a0 0;u2<a0->True/\0=v2/\(∀w2:Nat,w2<v2->True/\SV.aq=SV.v (Value.bool false))))/\True)/\0<=a0/\(∀x2:Nat,let y2:=(x2:Int);let z2:=decide (y2<b0);let a3:Int:=y2+1;let b3:=0+Int.toNat y2;x2<=a0->(z2=true->tn 3 ((c0/\d0/\((1:Nat):Int)*b0<=140737488355328)/\(0<=y2/\y2<b0)/\(∀c3:Nat,Nat.beq 1 1=true)/\ak a3=a3/\(∃d3:Nat,g0/\k0/\a3=(d3:Int)/\(x0/\a2/\(o0/\(∀e3:Nat,let g3:=cond (Nat.blt e3 d3) a0 0;e3<a0->True/\cond (Nat.beq e3 b3) w1 (cond (Nat.blt e3 x2) a0 0)=g3/\(∀h3:Nat,h3<g3->True/\cond (Nat.beq e3 b3) false false=false)))/\True)/\d3<=a0/\a0-d3<a0-x2)))/\(z2=false->(∃k3:gO,g0/\k0/\(True/\k0)/\0=((k3.i:Nat):Int)/\(x0/\a2/\(o0/\(∀l3:Nat,l3<a0->True/\cond (Nat.blt l3 x2) a0 0=a0/\(∀o3:Nat,o3<a0->True/\false=k3.r l3 o3)))/\True)/\(k3.i<=q0/\(∀q3:Nat,∀r3:Nat,q3<a0->r3<a0->Iff (k3.r q3 r3=true) (JA W k3.i 0 q3 r3\/JA W k3.i 0 r3 q3)))/\(∀u3:gO,let v3:=((u3.i:Nat):Int);let w3:=decide (v3<b2);let x3:=0<=v3;let y3:=W.aj (Int.toNat v3);let z3:=aF y3 y3/\True;let a4:=Int.toNat (W.aj u3.i).len;let b4:=y3.len;let c4:Int:=v3/16;let d4:=x3/\g2/\ak c4=c4;let e4:=y3.base;let g4:=c4=c4;let h4:=c4<b0;let k4:=y3.from_;let l4:=decide (0<=k4);let o4:Int:=k4/16;let q4:Int:=v3+1;let r4:=ak q4=q4;u3.i<=q0/\(∀u4:Nat,∀v4:Nat,u4<a0->v4<a0->Iff (u3.r u4 v4=true) (JA W u3.i 0 u4 v4\/JA W u3.i 0 v4 u4))->b2<=9223372036854775807->(w3=true->(x3/\v3<b2)/\True/\c2/\(∃w4:gO,g0/\k0/\d2/\e2/\0=((w4.i:Nat):Int)/\(x0/\a2/\(o0/\(∀x4:Nat,x4<a0->True/\o0/\(∀y4:Nat,y4<a0->True/\u3.r x4 y4=w4.r x4 y4)))/\z3)/\(w4.i<=a4/\(∀z4:Nat,∀a5:Nat,z4<a0->a5<a0->
    Iff (w4.r z4 a5=true) (JA W u3.i w4.i z4 a5\/JA W u3.i w4.i a5 z4)))/\(∀b5:gO,let c5:=((b5.i:Nat):Int);let d5:=decide (c5<b4);let e5:Int:=e4+c5;let g5:=a2/\(o0/\(∀h5:Nat,h5<a0->True/\o0/\(∀k5:Nat,k5<a0->True/\b5.r h5 k5=b5.r h5 k5)))/\True;let l5:Int:=c5+1;b5.i<=a4/\(∀o5:Nat,∀q5:Nat,o5<a0->q5<a0->Iff (b5.r o5 q5=true) (JA W u3.i b5.i o5 q5\/JA W u3.i b5.i q5 o5))->(d5=true->d4/\ak e5=e5/\((g4/\e5=e5/\U)/\g5/\h4/\e5<b0)/\ak l5=l5/\(∃r5:gO,g0/\k0/\d2/\e2/\l5=((r5.i:Nat):Int)/\(x0/\a2/\(o0/\(∀u5:Nat,u5<a0->True/\o0/\(∀v5:Nat,v5<a0->True/\dw b5.r c4 e5 u5 v5=r5.r u5 v5)))/\z3)/\(r5.i<=a4/\(∀w5:Nat,∀x5:Nat,w5<a0->x5<a0->Iff (r5.r w5 x5=true) (JA W u3.i r5.i w5 x5\/JA W u3.i r5.i x5 w5)))/\a4-r5.i<a4-b5.i))/\(d5=false->(l4=true->d4/\(0<=k4/\g2/\ak o4=o4)/\((g4/\o4=o4/\U)/\g5/\h4/\o4<b0)/\r4/\(∃y5:gO,g0/\k0/\d2/\q4=((y5.i:Nat):Int)/\(x0/\a2/\(o0/\(∀z5:Nat,z5<a0->True/\o0/\(∀a6:Nat,a6<a0->True/\dw b5.r c4 o4 z5 a6=y5.r z5 a6)))/\True)/\(y5.i<=q0/\(∀b6:Nat,∀c6:Nat,b6<a0->c6<a0->Iff (y5.r b6 c6=true) (JA W y5.i 0 b6 c6\/JA W y5.i 0 c6 b6)))/\q0-y5.i<q0-u3.i))/\(l4=false->r4/\(∃d6:gO,g0/\k0/\d2/\q4=((d6.i:Nat):Int)/\(x0/\a2/\(o0/\(∀e6:Nat,e6<a0->True/\o0/\(∀g6:Nat,g6<a0->True/\b5.r e6 g6=d6.r e6 g6)))/\True)/\(d6.i<=q0/\(∀h6:Nat,∀k6:Nat,h6<a0->k6<a0->Iff (d6.r h6 k6=true) (JA W d6.i 0 h6 k6\/JA W d6.i 0 k6 h6)))/\q0-d6.i<q0-u3.i))))))/\(w3=false->(∃l6:gO,g0/\k0/\d2/\0=((l6.i:Nat):Int)/\(x0/\a2/\(o0/\(∀o6:Nat,o6<a0->True/\o0/\(∀q6:Nat,q6<a0->True/\u3.r o6 q6=l6.r o6 q6)))/\True)/\(l6.i<=l0/\(∀r6:Nat,∀u6:Nat,r6<a0->u6<a0->Iff (l6.r r6 u6=true) (JB W l6.i r6 u6\/JB W l6.i u6 r6)))/\(∀v6:gO,
    let w6:=((v6.i:Nat):Int);let x6:=decide (w6<k2);let y6:=0<=w6;let z6:Int:=w6/16;let a7:=y6/\g2/\ak z6=z6;let b7:=z6<b0;let c7:=y6/\w6<k2;let d7:=W.af (Int.toNat w6);let e7:=W.kinds (Int.toNat z6);let g7:=cond (d7 !=0) (cond (e7==3) true (e7==4)) false;let h7:Int:=d7%1024;let k7:Int:=w6+1;let l7:=ak k7=k7;v6.i<=l0/\(∀o7:Nat,∀q7:Nat,o7<a0->q7<a0->Iff (v6.r o7 q7=true) (JB W v6.i o7 q7\/JB W v6.i q7 o7))->k2<=9223372036854775807->(x6=true->a7/\(0<=z6/\b7)/\c7/\(g7=true->a7/\c7/\(0<=d7/\(0:Int)<1024)/\((z6=z6/\h7=h7/\U)/\(a2/\(o0/\(∀r7:Nat,r7<a0->True/\o0/\(∀u7:Nat,u7<a0->True/\v6.r r7 u7=v6.r r7 u7)))/\True)/\b7/\h7<b0)/\l7/\(∃v7:gO,g0/\k0/\d2/\k7=((v7.i:Nat):Int)/\(x0/\a2/\(o0/\(∀w7:Nat,w7<a0->True/\o0/\(∀x7:Nat,x7<a0->True/\dw v6.r z6 h7 w7 x7=v7.r w7 x7)))/\True)/\(v7.i<=l0/\(∀y7:Nat,∀z7:Nat,y7<a0->z7<a0->Iff (v7.r y7 z7=true) (JB W v7.i y7 z7\/JB W v7.i z7 y7)))/\l0-v7.i<l0-v6.i))/\(g7=false->l7/\(∃a8:gO,g0/\k0/\d2/\k7=((a8.i:Nat):Int)/\(x0/\a2/\(o0/\(∀b8:Nat,b8<a0->True/\o0/\(∀c8:Nat,c8<a0->True/\v6.r b8 c8=a8.r b8 c8)))/\True)/\(a8.i<=l0/\(∀d8:Nat,∀e8:Nat,d8<a0->e8<a0->Iff (a8.r d8 e8=true) (JB W a8.i d8 e8\/JB W a8.i e8 d8)))/\l0-a8.i<l0-v6.i)))/\(x6=false->(∃g8:gO,g0/\k0/\d2/\0=((g8.i:Nat):Int)/\(x0/\a2/\(o0/\(∀h8:Nat,h8<a0->True/\o0/\(∀k8:Nat,k8<a0->True/\v6.r h8 k8=g8.r h8 k8)))/\True)/\(g8.i<=a0/\(∀l8:Nat,∀o8:Nat,l8<a0->o8<a0->Iff (g8.r l8 o8=true) (JC W g8.i 0 l8 o8\/JC W g8.i 0 o8 l8)))/\(∀q8:gO,let r8:=((q8.i:Nat):Int);let u8:=decide (r8<b0);let v8:=r8=r8;let w8:=W.tasks (Int.toNat r8);let x8:=w8.node;
    let y8:=o0/\(∀z8:Nat,z8<a0->True/\o0/\(∀a9:Nat,a9<a0->True/\q8.r z8 a9=q8.r z8 a9));let b9:=r8<b0;let c9:=w8.space;let d9:=w8.helper;let e9:=dw q8.r r8 x8;let g9:=w8.loc;let h9:=dw e9 r8 c9;let k9:=w8.bK;let l9:=dw h9 r8 d9;let o9:Int:=r8+1;q8.i<=a0/\(∀q9:Nat,∀r9:Nat,q9<a0->r9<a0->Iff (q8.r q9 r9=true) (JC W q8.i 0 q9 r9\/JC W q8.i 0 r9 q9))->(u8=true->(0<=r8/\r8<(r0:Int))/\True/\tn 13 c2/\((v8/\x8=x8/\U)/\(a2/\y8/\True)/\b9/\x8<b0)/\((v8/\c9=c9/\U)/\(a2/\(o0/\(∀u9:Nat,u9<a0->True/\o0/\(∀v9:Nat,v9<a0->True/\e9 u9 v9=e9 u9 v9)))/\True)/\b9/\c9<b0)/\((v8/\d9=d9/\U)/\(a2/\(o0/\(∀w9:Nat,w9<a0->True/\o0/\(∀x9:Nat,x9<a0->True/\h9 w9 x9=h9 w9 x9)))/\True)/\b9/\d9<b0)/\((v8/\g9=g9/\U)/\(a2/\(o0/\(∀y9:Nat,y9<a0->True/\o0/\(∀z9:Nat,z9<a0->True/\l9 y9 z9=l9 y9 z9)))/\True)/\b9/\g9<b0)/\((v8/\k9=k9/\U)/\(a2/\(o0/\(∀jq:Nat,jq<a0->True/\o0/\(∀ku:Nat,let cZ:=dw l9 r8 g9 jq ku;ku<a0->True/\cZ=cZ)))/\True)/\b9/\k9<b0)/\ak o9=o9/\(∃d10:gO,g0/\k0/\d2/\o9=((d10.i:Nat):Int)/\(x0/\a2/\(o0/\(∀iE:Nat,iE<a0->True/\o0/\(∀jT:Nat,jT<a0->True/\dw (dw l9 r8 g9) r8 k9 iE jT=d10.r iE jT)))/\True)/\(d10.i<=a0/\(∀cv:Nat,∀dt:Nat,cv<a0->dt<a0->Iff (d10.r cv dt=true) (JC W d10.i 0 cv dt\/JC W d10.i 0 dt cv)))/\a0-d10.i<a0-q8.i))/\(u8=false->(c0/\d0/\((8:Nat):Int)*b0<=140737488355328)/\g0/\y1/\0=((0:Nat):Int)/\(l2/\y8/\(x1/\(∀lv:Nat,lv<a0->True/\(0:Int)=cond (Nat.blt lv 0) (-1) 0))/\True)/\0<=a0/\(∀im:Nat,let gL:=(im:Int);let kv:=decide (gL<b0);let kx:Int:=gL+1;im<=a0->(kv=true->(0<=gL/\gL<b0)/\(∀v10:Nat,o2)/\ak kx=kx/\(∃lx:Nat,g0/\z1/\kx=(lx:Int)/\(l2/\y8/\(o0/\(∀kz:Nat,kz<a0->
    True/\(cond (Nat.beq kz (0+Int.toNat gL)) (-1) (cond (Nat.blt kz im) (-1) 0):Int)=cond (Nat.blt kz lx) (-1) 0))/\True)/\lx<=a0/\a0-lx<a0-im))/\(kv=false->(∃iS:vc,g0/\z1/\0=((iS.i:Nat):Int)/\(l2/\y8/\(o0/\(∀lY:Nat,lY<a0->True/\cond (Nat.blt lY im) (-1) 0=iS.o lY))/\True)/\(iS.i<=a0/\(∀iT:Nat,let pY:=mc W iT;iT<a0->(pY<iS.i->iS.o iT=(pY:Int))/\(iS.i<=pY->iS.o iT=(-1))))/\(∀fq:vc,let d11:=((fq.i:Nat):Int);let oc:=decide (d11<b0);let uR:=0<=d11/\d11<b0;let dM:=0+Int.toNat d11;let uS:=decide (0<=fq.o dM);let ly:Int:=d11+1;let rO:=ak ly=ly;fq.i<=a0/\(∀m6:Nat,let rP:=mc W m6;m6<a0->(rP<fq.i->fq.o m6=(rP:Int))/\(fq.i<=rP->fq.o m6=(-1)))->(oc=true->uR/\(uS=true->rO/\(∃m7:vc,g0/\z1/\ly=((m7.i:Nat):Int)/\(l2/\y8/\(o0/\(∀v11:Nat,v11<a0->True/\fq.o v11=m7.o v11))/\True)/\(m7.i<=a0/\(∀lZ:Nat,let lz:=mc W lZ;lZ<a0->(lz<m7.i->m7.o lZ=(lz:Int))/\(m7.i<=lz->m7.o lZ=(-1))))/\a0-m7.i<a0-fq.i))/\(uS=false->True/\uR/\(∀yW:Nat,o2)/\(∃jU:vd,g0/\z1/\(0=jU.e/\1=jU.n)/\(l2/\y8/\(o0/\(∀uT:Nat,uT<a0->True/\cond (Nat.beq uT dM) d11 (fq.o uT)=jU.o uT))/\(1=jU.e+jU.n/\(∀yX:Nat,yX<jU.e+jU.n->True/\List.getD [d11] yX 0=jU.q yX))/\True)/\Bi a0 fq.i q2 (λpZ:Nat=>λd12:Nat=>False) jU.o jU.e jU.n jU.q/\(∀fW:vd,let l_:=((fW.n:Nat):Int);let ib:=decide (0<l_);let lA:=Int.toNat (fW.q fW.e);let ma:=2*dX a0 fW.o+fW.n;let rQ:=fW.q (fW.e+r2);let jV:=0+Int.toNat rQ;Bi a0 fq.i q2 (λrR:Nat=>λDI:Nat=>False) fW.o fW.e fW.n fW.q->
    l_<=9223372036854775807->(ib=true->((0:Int)<=0/\0<l_)/\((0:Int)<=1/\1<=l_/\l_<=l_)/\(∃dU:ve,g0/\z1/\(fW.e+Int.toNat 1=dU.e/\Int.toNat l_-Int.toNat 1=dU.n)/\0=((dU.k:Nat):Int)/\(l2/\y8/\(o0/\(∀rS:Nat,rS<a0->True/\fW.o rS=dU.o rS))/\(fW.e+fW.n=dU.e+dU.n/\(∀rT:Nat,rT<dU.e+dU.n->True/\fW.q rT=dU.q rT))/\True)/\(dU.k<=a0/\Bi a0 fq.i q2 (λp4:Nat=>λyY:Nat=>p4=lA/\dU.k<=yY) dU.o dU.e dU.n dU.q/\dU.o lA=d11/\2*dX a0 dU.o+dU.n<ma)/\(∀dd:ve,let lB:=((dd.k:Nat):Int);let uU:=decide (lB<b0);let d13:=0<=lB/\lB<b0;let od:=Int.toNat lB;let m8:=q8.r jV (0+od);let gJ:=0+od;let oe:=cond m8 (decide (dd.o gJ<0)) false;let mb:Int:=lB+1;let rU:=ak mb=mb;dd.k<=a0/\Bi a0 fq.i q2 (λuV:Nat=>λp5:Nat=>uV=lA/\dd.k<=p5) dd.o dd.e dd.n dd.q/\dd.o lA=d11/\2*dX a0 dd.o+dd.n<ma->(uU=true->(0<=rQ/\rQ<b0)/\d13/\(m8=true->d13)/\(oe=true->d13/\(∀DJ:Nat,o2)/\True/\((dd.n+1)*8<=140737488355328/\(∀yZ:Nat,true=true))/\rU/\(∃fe:ve,g0/\z1/\(0=fe.e/\dd.n+1=fe.n)/\mb=((fe.k:Nat):Int)/\(l2/\y8/\(o0/\(∀m9:Nat,m9<a0->True/\cond (Nat.beq m9 gJ) d11 (dd.o m9)=fe.o m9))/\(dd.n+1=fe.e+fe.n/\(∀og:Nat,og<fe.e+fe.n->True/\cond (Nat.blt og dd.n) (dd.q (dd.e+og)) (List.getD [lB] (0+(og-dd.n)) 0)=fe.q og))/\True)/\(fe.k<=a0/\Bi a0 fq.i q2 (λy_:Nat=>λuW:Nat=>y_=lA/\fe.k<=uW) fe.o fe.e fe.n fe.q/\fe.o lA=d11/\2*dX a0 fe.o+fe.n<ma)/\a0-fe.k<a0-dd.k))/\(oe=false->rU/\(∃ft:ve,g0/\z1/\(dd.e=ft.e/\dd.n=ft.n)/\mb=((ft.k:Nat):Int)/\(l2/\y8/\(o0/\
    (∀rV:Nat,rV<a0->True/\dd.o rV=ft.o rV))/\(dd.e+dd.n=ft.e+ft.n/\(∀d14:Nat,d14<ft.e+ft.n->True/\dd.q d14=ft.q d14))/\True)/\(ft.k<=a0/\Bi a0 fq.i q2 (λrW:Nat=>λVd:Nat=>rW=lA/\ft.k<=Vd) ft.o ft.e ft.n ft.q/\ft.o lA=d11/\2*dX a0 ft.o+ft.n<ma)/\a0-ft.k<a0-dd.k)))/\(uU=false->(∃gM:vd,g0/\z1/\(dd.e=gM.e/\dd.n=gM.n)/\(l2/\y8/\(o0/\(∀DV:Nat,DV<a0->True/\dd.o DV=gM.o DV))/\(dd.e+dd.n=gM.e+gM.n/\(∀DW:Nat,DW<gM.e+gM.n->True/\dd.q DW=gM.q DW))/\True)/\Bi a0 fq.i q2 (λo14:Nat=>λq14:Nat=>False) gM.o gM.e gM.n gM.q/\2*dX a0 gM.o+gM.n<ma)))))/\(ib=false->rO/\(∃oA:vc,g0/\z1/\ly=((oA.i:Nat):Int)/\(l2/\y8/\(o0/\(∀DX:Nat,DX<a0->True/\fW.o DX=oA.o DX))/\True)/\(oA.i<=a0/\(∀zg:Nat,let DY:=mc W zg;zg<a0->(DY<oA.i->oA.o zg=(DY:Int))/\(oA.i<=DY->oA.o zg=(-1))))/\a0-oA.i<a0-fq.i))))))/\(oc=false->z1/\(o0/\(∀DZ:Nat,DZ<a0->True/\fq.o DZ=jm W DZ))/\True))))))))))))))))))
set_option maxHeartbeats 2000000 in
theorem QB:aW Tryz.prog bf 6 S7:=bd (.cons OW .nil) false Tryz.call6 Tryz.func6 (λ⟨W⟩=> [.inv (SY W.ae),.jH (SZ W) λs=> [.jH (S0 W s.i) λ_=> []],.kJ 0,.jH (S1 W) λ_=> [],.jH (S2 W) λ_=> [],.inv (S3 W.ae),.jH (S4 W) λs=> [.jH (S5 W s.i) λw=> [.jH (S6 W s.i w) λ_=> []],.kJ 0],.kJ 0,.kJ 0]) (V:=Kj) (λ_=>by kernel_rfl) λ⟨W⟩ hp=>by
  dsimp only[Ki]at hp
  dsimp only[Kj,tn,ak,bx,aG,aF,aH]
  simp only[bn,bG,eq_self,implies_true,Bool.cond_self]
  try simp only[lJ]
  obtain⟨hp,hw⟩:=hp
  have hI:=xd hw hp
  have z1:=hI.z.k1
  have z2:=hI.z.aj
  have z3:=hI.z.af
  have z4:=hI.z.tasks
  refineλ_=>⟨⟨by omega,by omega⟩,λj _=>⟨by rw[dy (Nat.zero_le _)];rfl,λk hk=>by rw[dy (Nat.zero_le _)]at hk;exact absurd hk (Nat.not_lt_zero _)⟩,λx hx=>⟨λJ=>?_,λJ=>?_⟩⟩
  · have ai:=br J
    refine⟨⟨by omega,by omega⟩,by omega,λ_=>rfl,bQ (by omega) (by omega),x+1,by omega,λj _=>?_,by omega,by omega⟩
    rcases Nat.lt_trichotomy j x with q|q|q
    · rw[gg (by omega),da q,da (by omega:j<x+1)];rfl
    · subst q;rw[Nat.beq_refl,da (Nat.lt_succ_self _)];rfl
    · rw[gg (by omega),dy (by omega),dy (by omega:x+1<=j)];rfl
  obtain rfl:x=W.ae:=by have:=bJ J;omega
  refine⟨⟨0,λ_ _=>false⟩,rfl,λj hj=>⟨by rw[da hj];rfl,λ_ _=>rfl⟩,⟨Nat.zero_le _,TR⟩,λs hs _=>⟨λU=>?_,λU=>?_⟩⟩
  · have ai:=br U
    have me:s.i/16<W.ae:=by omega
    have DK:=hI.sl s.i ai
    have UK:=kC DK.1
    refine⟨by omega,⟨0,s.r⟩,rfl,λ_ _ _ _=>rfl,⟨Nat.zero_le _,hs.2⟩,λb hb=>⟨λh3=>?_,λh3=>?_⟩⟩
    · have h3:=of_decide_eq_true h3
      have bo:=B0 hI ai (show b.i<(W.aj s.i).len.toNat by omega)
      have eE:NR _ _ _:=hb.2
      refine⟨⟨by decide,bQ (by omega) (by omega)⟩,bQ (by omega) (by omega),⟨by omega,by omega⟩,bQ (by omega) (by omega),⟨b.i+1,dw b.r ((s.i:Int)/16) ((W.aj s.i).base+b.i)⟩,by show(b.i:Int)+1=((b.i+1:Nat):Int);omega,λ_ _ _ _=>rfl,⟨by show b.i+1<=_;omega,?_⟩,by show _ -(b.i+1)<_;omega⟩
      show NR _ (dw _ _ _) _
      rw[xi (A:=s.i/16) (B:=(W.aj s.i).base.toNat+b.i) (by omega) (by omega)]
      exact(eE.jn _ _).eqv λa b=>IG
    · have h3:=of_decide_eq_false h3
      have DL:b.i=(W.aj s.i).len.toNat:=by have:=hb.1;omega
      have eE:NR _ _ (JA W s.i b.i):=hb.2
      rw[DL]at eE
      refine⟨λh4=>?_,λh4=>?_⟩
      · have h4:=of_decide_eq_true h4
        have hf:=B1 hI ai h4
        refine⟨⟨by decide,bQ (by omega) (by omega)⟩,⟨h4,by decide,bQ (by omega) (by omega)⟩,⟨by omega,by omega⟩,bQ (by omega) (by omega),⟨s.i+1,dw b.r ((s.i:Int)/16) ((W.aj s.i).from_/16)⟩,by show(s.i:Int)+1=((s.i+1:Nat):Int);omega,λ_ _ _ _=>rfl,⟨by show s.i+1<=_;omega,?_⟩,by show _ -(s.i+1)<_;omega⟩
        show NR _ (dw _ _ _) _
        rw[xi (A:=s.i/16) (B:=(W.aj s.i).from_.toNat/16) (by omega) (by omega)]
        exact SW eE h4
      · have h4:=Int.not_le.1 (of_decide_eq_false h4)
        exact⟨bQ (by omega) (by omega),⟨s.i+1,b.r⟩,by show(s.i:Int)+1=((s.i+1:Nat):Int);omega,λ_ _ _ _=>rfl,⟨by show s.i+1<=_;omega,SX eE h4⟩,by show _ -(s.i+1)<_;omega⟩
  have DM:s.i=W.av:=by have:=bJ U;have:=hs.1;omega
  have cY:NR _ _ (JA W s.i 0):=hs.2
  rw[DM]at cY
  refine⟨⟨0,s.r⟩,rfl,λ_ _ _ _=>rfl,⟨Nat.zero_le _,cY.eqv λa b=>JX⟩,λc hc _=>⟨λh3=>?_,λh3=>?_⟩⟩
  · have ai:=br h3
    have me:c.i/16<W.ae:=by omega
    have lC:((c.i:Int)/16).toNat=c.i/16:=by omega
    have oh:NR _ _ (JB W c.i):=hc.2
    have Ve:=hI.af c.i ai
    rw[lC]
    have yD:0<=W.af c.i%1024:=Int.emod_nonneg _ (by decide)
    refine⟨⟨by decide,bQ (by omega) (by omega)⟩,⟨by omega,by omega⟩,by omega,λh4=>?_,λh4=>?_⟩
    · have bo:=B2 hw ai h4
      refine⟨⟨by decide,bQ (by omega) (by omega)⟩,by omega,⟨Ve.1,by decide⟩,⟨by omega,by omega⟩,bQ (by omega) (by omega),⟨c.i+1,dw c.r ((c.i:Int)/16) (W.af c.i%1024)⟩,by show(c.i:Int)+1=((c.i+1:Nat):Int);omega,λ_ _ _ _=>rfl,⟨by show c.i+1<=_;omega,?_⟩,by show _ -(c.i+1)<_;omega⟩
      show NR _ (dw _ _ _) _
      rw[xi (A:=c.i/16) (B:=(W.af c.i%1024).toNat) (by omega) (by omega)]
      exact Rq oh h4
    · exact⟨bQ (by omega) (by omega),⟨c.i+1,c.r⟩,by show(c.i:Int)+1=((c.i+1:Nat):Int);omega,λ_ _ _ _=>rfl,⟨by show c.i+1<=_;omega,Rr oh h4⟩,by show _ -(c.i+1)<_;omega⟩
  have DN:c.i=W.ar:=by have:=bJ h3;have:=hc.1;omega
  have oh:NR _ _ (JB W c.i):=hc.2
  rw[DN]at oh
  refine⟨⟨0,c.r⟩,rfl,λ_ _ _ _=>rfl,⟨Nat.zero_le _,oh.eqv λa b=>JY⟩,λk hk=>⟨λh4=>?_,λh4=>?_⟩⟩
  · have ai:=br h4
    have iR:NR _ _ (JC W k.i 0):=hk.2
    have ht:k.i<W.aV:=by omega
    have tk:=hI.tk k.i ht
    exact⟨by omega,⟨by omega,tk.node.2⟩,⟨by omega,tk.space.2⟩,⟨by omega,tk.helper.2⟩,⟨by omega,tk.loc.2⟩,⟨by omega,tk.bK.2⟩,bQ (by omega) (by omega),⟨k.i+1,dw (dw (dw (dw (dw k.r k.i (W.tasks k.i).node) k.i (W.tasks k.i).space) k.i (W.tasks k.i).helper) k.i (W.tasks k.i).loc) k.i (W.tasks k.i).bK⟩,by show(k.i:Int)+1=((k.i+1:Nat):Int);omega,λ_ _ _ _=>rfl,⟨by show k.i+1<=_;omega,(tG (j:=4) (tG (j:=3) (tG (j:=2) (tG (j:=1) (tG (j:=0) iR))))).eqv λa b=>IH⟩,by show _ -(k.i+1)<_;omega⟩
  have jj:k.i=W.aV:=by have:=bJ h4;have:=hk.1;omega
  have iR:NR _ _ (JC W k.i 0):=hk.2
  rw[jj]at iR
  have hR:=λa b=>Rs (a:=a) (b:=b) hI hw ⟨z2,z3,z4⟩
  refine⟨⟨by omega,by omega⟩,λj _=>by rw[dy (Nat.zero_le _)];rfl,λv hv=>⟨λh5=>?_,λh5=>?_⟩⟩
  · have DO:=br h5
    refine⟨by omega,bQ (by omega) (by omega),v+1,by omega,λj hj=>?_,by omega,by omega⟩
    rcases Nat.lt_trichotomy j v with q|q|q
    · rw[gg (by omega),da q,da (by omega:j<v+1)];rfl
    · subst q;rw[Nat.beq_refl,da (Nat.lt_succ_self _)];rfl
    · rw[gg (by omega),dy (by omega),dy (by omega:v+1<=j)];rfl
  have DO:=bJ h5
  refine⟨⟨0,λ_=> -1⟩,rfl,λj hj=>by rw[da (by omega)];rfl,⟨Nat.zero_le _,λj _=>⟨λh=>absurd h (Nat.not_lt_zero _),λ_=>rfl⟩⟩,λd hd=>⟨λh6=>?_,λh6=>λg hg=>?_⟩⟩
  · have sd:=br h6
    clear hs hc hk
    refine⟨by omega,λh7=>?_,λh7=>?_⟩
    · have h7:=of_decide_eq_true h7
      exact⟨bQ (by omega) (by omega),⟨d.i+1,d.o⟩,by show(d.i:Int)+1=((d.i+1:Nat):Int);omega,λ_ _=>rfl,⟨by show d.i+1<=_;omega,Qc (R:=JC W W.aV 0) hd.2 sd h7⟩,by show _ -(d.i+1)<_;omega⟩
    · have h7:=Int.not_le.1 (of_decide_eq_false h7)
      have hl:cj W.ae (JC W W.aV 0) d.i=d.i:=by
        have a1:=(qV (R:=JC W W.aV 0) sd).1
        rcases Nat.lt_or_ge (cj W.ae (JC W W.aV 0) d.i) d.i with z|z
        · have a2:=(hd.2 d.i sd).1 z
          rw[a2]at h7
          omega
        · omega
      refine⟨by omega,⟨λj=>bif Nat.beq j d.i then(d.i:Int)else d.o j,0,1,λ_=>(d.i:Int)⟩,⟨rfl,rfl⟩,⟨λ_ _=>rfl,rfl,λb hb=>?_⟩,Bi.st sd hl hd.2,λw D0 _=>⟨λh8=>?_,λh8=>?_⟩⟩
      · obtain rfl:b=0:=by have hb:b<0+1:=hb;omega
        rfl
      · have h8:=of_decide_eq_true h8
        have fI:0<=w.q w.e/\w.q w.e<W.ae/\w.o (w.q w.e).toNat=d.i:=D0.c 0 (by omega)
        refine⟨⟨by omega,by omega⟩,⟨by omega,by omega,by omega⟩,⟨0,w.o,w.e+1,w.n -1,w.q⟩,⟨rfl,rfl⟩,rfl,⟨λ_ _=>rfl,?_,λ_ _=>rfl⟩,⟨Nat.zero_le _,D0.pop (by omega),fI.2.2,?_⟩,λy hy=>⟨λh9=>?_,λh9=>?_⟩⟩
        · show w.e+w.n=w.e+1+(w.n -1);omega
        · show 2*dX _ w.o+(w.n -1)<2*dX _ w.o+w.n;omega
        · obtain⟨y1,y2,y3,y4⟩:=hy
          have vf:=br h9
          have hym:=y2.m
          have hF:(w.q w.e).toNat<W.ae:=by omega
          rw[show w.e+Int.toNat 0=w.e from rfl]
          refine⟨⟨fI.1,fI.2.1⟩,by omega,λ_=>by omega,λcv=>?_,λcv=>?_⟩
          · rw[Bool.and_eq_true,decide_eq_true_eq]at cv
            have hr:=(iR _ _ hF vf).1 cv.1
            have Dc:=(wP (o:=y.o) (k:=y.k) (v:=(d.i:Int)) (by omega) cv.2 W.ae).1 vf
            refine⟨by omega,by omega,bQ (by omega) (by omega),⟨y.k+1,λj=>bif Nat.beq j y.k then(d.i:Int)else y.o j,0,y.n+1,λj=>bif Nat.blt j y.n then y.q (y.e+j)else(y.k:Int)⟩,⟨rfl,rfl⟩,by show(y.k:Int)+1=((y.k+1:Nat):Int);omega,⟨λ_ _=>rfl,?_,λj hj=>?_⟩,⟨by show y.k+1<=_;omega,y2.add hF y3 vf hr cv.2,?_,?_⟩,by show _ -(y.k+1)<_;omega⟩
            · show y.n+1=0+(y.n+1);omega
            · have hj:j<0+(y.n+1):=hj
              rcases Nat.lt_or_ge j y.n with z|z
              · show(bif Nat.blt j y.n then y.q (y.e+j)else _)=(bif Nat.blt j y.n then y.q (y.e+j)else _)
                rw[da z];rfl
              · show(bif Nat.blt j y.n then _ else([(y.k:Int)]:List Int).getD (j -y.n) 0)=(bif Nat.blt j y.n then _ else(y.k:Int))
                rw[dy z,show j -y.n=0 by omega];rfl
            · show(bif Nat.beq (w.q w.e).toNat y.k then(d.i:Int)else y.o (w.q w.e).toNat)=d.i
              rw[gg λz=>by rw[z]at y3;omega];exact y3
            · show 2*dX W.ae (λj=>bif Nat.beq j y.k then(d.i:Int)else y.o j)+(y.n+1)<_
              omega
          · have Vf:(JC W W.aV 0 (w.q w.e).toNat y.k\/JC W W.aV 0 y.k (w.q w.e).toNat)->0<=y.o y.k:=λr=>by
              have a:=(iR _ _ hF vf).2 r
              rw[a,Bool.true_and]at cv
              have:=of_decide_eq_false cv
              omega
            exact⟨bQ (by omega) (by omega),⟨y.k+1,y.o,y.e,y.n,y.q⟩,⟨rfl,rfl⟩,by show(y.k:Int)+1=((y.k+1:Nat):Int);omega,⟨λ_ _=>rfl,rfl,λ_ _=>rfl⟩,⟨by show y.k+1<=_;omega,y2.skip Vf,y3,y4⟩,by show _ -(y.k+1)<_;omega⟩
        · obtain⟨y1,y2,y3,y4⟩:=hy
          have vf:=bJ h9
          exact⟨⟨y.o,y.e,y.n,y.q⟩,⟨rfl,rfl⟩,⟨λ_ _=>rfl,rfl,λ_ _=>rfl⟩,y2.wk λa b hb q=>by have:=q.2;omega,y4⟩
      · have h8:=of_decide_eq_false h8
        exact⟨bQ (by omega) (by omega),⟨d.i+1,w.o⟩,by show(d.i:Int)+1=((d.i+1:Nat):Int);omega,λ_ _=>rfl,⟨by show d.i+1<=_;omega,D0.fin (by omega) sd hl hR⟩,by show _ -(d.i+1)<_;omega⟩
  · have sd:=bJ h6
    exact(hd.2 g hg).1 (by have:=(qV (R:=JC W W.aV 0) hg).1;show cj _ _ g<_;omega)
end Go.Proofs.YtbngaammbjaajaaGreatDoor
set_option linter.unusedVariables false
set_option linter.unusedSimpArgs false
set_option maxRecDepth 100000
namespace Go.Proofs.YtbngaammbjaajaaGreatDoor
open Go.RowKit Go.Sy
noncomputable def ik (W:Wd) (p:Int):Bool:=wE W==0&&(decide (0<=p)&&decide (p<W.ae)&&cU W p.toNat==p)
noncomputable def uQ (W:Wd) (p:Int):Int:=bif wE W==0 then(bif ik W p then 0 else 2)else 8
noncomputable def lX (W:Wd) (p:Int):Nat:=bif ik W p then kN (aJ (cU W) p) W.ae else 0
noncomputable def rL (W:Wd) (p:Int):Nat:=bif ik W p then W.aY else 0
noncomputable def rM (W:Wd) (p:Int):Nat:=bif ik W p then W.aE else 0
structure xc where
  (W:Wd) (p:Int)
noncomputable def Bq:Sy.Spec:=⟨xc,λ⟨W,p⟩=> [gq W,.v (.int .i64 p)],λ_=> [],λ⟨W,_⟩=>Sm W,λ⟨W,p⟩=> .tp 2 (aA [.ag 8 (aA [.sl false 1 (16*(lX W p)) (iF λq=>W.af (kX (aJ (cU W) p) W.ae (q/16)*16+q%16)),.sl false 7 (16*(lX W p)) (rF λq=>lW (W.aj (kX (aJ (cU W) p) W.ae (q/16)*16+q%16))),.sl false 20 (lX W p) (rF λq=>jf (W.tasks (kX (aJ (cU W) p) W.ae q))),.sl false 1 (lX W p) (iF λq=>W.kinds (kX (aJ (cU W) p) W.ae q)),.sl false 1 (lX W p) (λq _=> .sl false 1 (W.aD (kX (aJ (cU W) p) W.ae q)) (iF (W.lines (kX (aJ (cU W) p) W.ae q)))),.sl false 1 (lX W p) (iF λq=>W.bits (kX (aJ (cU W) p) W.ae q)),.sl false 1 (rL W p) (λq _=> .sl false 1 (kN (cN W (cU W) p q) (W.aL q)) (iF λa=>W.ready q (kX (cN W (cU W) p q) (W.aL q) a))),.sl false 1 (rM W p) (iF (gK W (cU W) p))]),.er 30 73 (uQ W p) (-1)]),λ_=> [],
  λargs mem=>match args with| [a0,a1]=>some ⟨gf a0,ao (a1)⟩|_=>none⟩
noncomputable def QC:aX:=⟨[],(Bq).g,none⟩
def IA:xc->Prop:=λ⟨W,p⟩=>let a0:=W.ae;let b0:=W.av;let c0:=W.aV;let d0:=W.bz;let e0:=W.aE;let g0:=W.aY;let h0:=((((((((((True/\W.ar=W.ar/\(∀k0:Nat,k0<W.ar->True/\W.af k0=W.af k0))/\a0=a0/\(∀l0:Nat,l0<a0->True/\W.kinds l0=W.kinds l0))/\b0=b0/\(∀o0:Nat,o0<b0->aF (W.aj o0) (W.aj o0)))/\c0=c0/\(∀q0:Nat,q0<c0->aG (W.tasks q0) (W.tasks q0)))/\d0=d0/\(∀r0:Nat,let u0:=W.aD r0;r0<d0->True/\u0=u0/\(∀v0:Nat,v0<u0->True/\W.lines r0 v0=W.lines r0 v0)))/\W.aI=W.aI/\(∀w0:Nat,w0<W.aI->True/\W.bits w0=W.bits w0))/\e0=e0/\(∀x0:Nat,x0<e0->True/\W.aM x0=W.aM x0))/\g0=g0/\(∀y0:Nat,let z0:=W.aL y0;y0<g0->True/\z0=z0/\(∀a1:Nat,a1<z0->True/\W.ready y0 a1=W.ready y0 a1)))/\W.aK=W.aK/\(∀b1:Nat,let c1:=W.aQ b1;b1<W.aK->True/\c1=c1/\(∀d1:Nat,d1<c1->aH (W.aB b1 d1) (W.aB b1 d1))))/\W.az=W.az/\(∀e1:Nat,e1<W.az->True/\W.aU e1=W.aU e1))/\W.time=W.time;let g1:=tn 7 True;let J:=lX W p;let k1:=16*J;let l1:=k1=0;let o1:=J=0;let q1:=rL W p;let r1:=rM W p;let u1:=True/\(((((((True/\l1)/\l1)/\o1)/\o1)/\o1)/\o1)/\q1=0)/\r1=0;let v1:=uQ W p;let w1:=((-1):Int)=(-1);let x1:=ig W;let y1:=cond (decide (p<0)) true (decide ((x1:Int)<=p));let z1:=cond y1 true (cU W (0+Int.toNat p) !=p);let a2:=aJ (λb2:Nat=>cU W (0+b2)) p;let c2:=kN a2 a0;let d2:=16*c2=k1;let e2:=cU W;let g2:=aJ e2 p;let U:=c2=J;tn 3 (((h0/\True)/\True/\xB.match_1 (λk2:qS=>Prop) (qS.mk W) (λl2:Wd=>Sm l2))/\tn 2 (((iQ W !=0)=true->g1/\(u1/\iQ W=v1/\w1)/\True)/\((iQ W !=0)=false->tn 11 ((y1=false->0<=p/\p<(x1:Int))/\
    tn 2 ((z1=true->g1/\(u1/\(2:Int)≠0/\v1=2/\w1)/\True)/\(z1=false->((h0/\(tn 2 (x1=x1/\(∀o2:Nat,o2<x1->True/\e2 (0+o2)=e2 (0+o2)))/\True/\p=p)/\True)/\True/\Sm W/\jo W/\x1=a0)/\g1/\((True/\(((((((True/\d2/\(∀q2:Nat,q2<k1->True/\W.af (kX a2 a0 ((0+q2)/16)*16+(0+q2)%16)=W.af (kX g2 a0 (q2/16)*16+q2%16)))/\d2/\(∀r2:Nat,r2<k1->aF (W.aj (kX a2 a0 ((0+r2)/16)*16+(0+r2)%16)) (W.aj (kX g2 a0 (r2/16)*16+r2%16))))/\U/\(∀u2:Nat,u2<J->aG (W.tasks (kX a2 a0 (0+u2))) (W.tasks (kX g2 a0 u2))))/\U/\(∀v2:Nat,v2<J->True/\W.kinds (kX a2 a0 (0+v2))=W.kinds (kX g2 a0 v2)))/\U/\(∀w2:Nat,let x2:=kX a2 a0 (0+w2);let y2:=W.aD (kX g2 a0 w2);w2<J->True/\W.aD x2=y2/\(∀z2:Nat,z2<y2->True/\W.lines x2 z2=W.lines (kX g2 a0 w2) z2)))/\U/\(∀a3:Nat,a3<J->True/\W.bits (kX a2 a0 (0+a3))=W.bits (kX g2 a0 a3)))/\g0=q1/\(∀b3:Nat,let c3:=cN W (λd3:Nat=>e2 (0+d3)) p (0+b3);let e3:=W.aL (0+b3);let g3:=cN W e2 p b3;let h3:=kN g3 (W.aL b3);b3<q1->True/\kN c3 e3=h3/\(∀k3:Nat,k3<h3->True/\W.ready (0+b3) (kX c3 e3 k3)=W.ready b3 (kX g3 (W.aL b3) k3))))/\e0=r1/\(∀l3:Nat,l3<r1->True/\gK W (λo3:Nat=>e2 (0+o3)) p (0+l3)=gK W e2 p l3))/\v1=0/\w1)/\True))))))
set_option maxHeartbeats 2000000 in
theorem Pq:aW Tryz.prog bf 11 QC:=bd (.cons Iy (.cons N2 .nil)) false Tryz.call11 Tryz.func11 (λ_=> []) (V:=IA) (λ_=>by kernel_rfl) λ⟨W,p⟩ hp=>by
  dsimp only[Bq]at hp
  dsimp only[IA,tn,ak]
  simp only[bn,bG,eq_self,implies_true,Bool.cond_self]
  simp only[lJ,mL,implies_true,true_and]
  have hO:iQ W=bif wE W==0 then 0 else 8:=rfl
  have hN:ig W=bif wE W==0 then W.ae else 0:=rfl
  have J:uQ W p=bif wE W==0 then(bif ik W p then 0 else 2)else 8:=rfl
  have U:lX W p=bif ik W p then kN (aJ (cU W) p) W.ae else 0:=rfl
  have h3:rL W p=bif ik W p then W.aY else 0:=rfl
  have h4:rM W p=bif ik W p then W.aE else 0:=rfl
  have h5:ik W p=(wE W==0&&(decide (0<=p)&&decide (p<W.ae)&&cU W p.toNat==p)):=rfl
  cases hw:wE W==0 with
  |false=>
   rw[hw]at hO hN J h5
   rw[Bool.false_and]at h5
   rw[h5]at J U h3 h4
   simp only[cond_false]at hO hN J U h3 h4
   rw[hO,J,U,h3,h4]
   exact⟨hp,λ_=>⟨by simp,rfl⟩,λh=>absurd h (by decide)⟩
  |true=>
   rw[hw]at hO hN J h5
   rw[Bool.true_and]at h5
   simp only[cond_true]at hO hN J
   rw[hO,hN]
   have hS:=jo.iff.1 (eq_of_beq hw)
   refine⟨hp,λh=>absurd h (by decide),λ_=>⟨λh=>?_,λh=>?_,λh=>?_⟩⟩
   · simp only[Bool.or_eq_false_iff,decide_eq_false_iff_not]at h
     omega
   · have e:ik W p=false:=by
       rw[h5]
       cases h6:decide (0<=p)&&decide (p<(W.ae:Int))with
       |false=>rfl
       |true=>
        simp only[Bool.and_eq_true,decide_eq_true_eq]at h6
        rw[decide_eq_false (by omega),decide_eq_false (by omega)]at h
        simpa using h
     rw[e]at J U h3 h4
     rw[J,U,h3,h4]
     exact⟨by simp,by decide,rfl⟩
   · have e:ik W p=true:=by
       rw[h5]
       simp only[Bool.or_eq_false_iff,decide_eq_false_iff_not,bne_eq_false_iff_eq]at h
       obtain⟨⟨a,b⟩,c⟩:=h
       rw[decide_eq_true (by omega),decide_eq_true (by omega),c]
       simp
     rw[e]at J U h3 h4
     rw[J,U,h3,h4]
     exact⟨⟨hp,hS,rfl⟩,by simp,rfl⟩
end Go.Proofs.YtbngaammbjaajaaGreatDoor
set_option linter.unusedVariables false
set_option linter.unusedSimpArgs false
set_option maxRecDepth 100000
namespace Go.Proofs.YtbngaammbjaajaaGreatDoor
open Go.RowKit Go.Sy
theorem vX (n:Nat) (f:Nat->Int):j6 n f n f=true:=by simp[j6,my]
theorem Hg {q:Nat->Bool} {i:Nat}: ∀{n},i<=n->kN q i<=kN q n
  |0,h=>by rw[Nat.le_zero.1 h];exact Nat.le_refl _
  |n+1,h=>by
   rcases Nat.lt_or_ge i (n+1)with e|e
   · have:=Hg (q:=q) (show i<=n by omega)
     simp only[kN];cases q n<;>simp<;>omega
   · rw[show i=n+1 by omega];exact Nat.le_refl _
theorem Hh {q:Nat->Bool} {i n:Nat} (h:q i=true) (hi:i<n):kN q i<kN q n:=by
  have:=Hg (q:=q) (show i+1<=n from hi)
  rw[mM h]at this;omega
theorem JU {q:Nat->Bool} {i:Nat} (h:q i=true): ∀{n},i<n->kX q n (kN q i)=i
  |0,hi=>absurd hi (Nat.not_lt_zero _)
  |n+1,hi=>by
   rcases Nat.lt_or_ge i n with e|e
   · rw[mC (Hh h e),JU h e]
   · obtain rfl:i=n:=by omega
     exact mD h
def RX (W:Wd) (of:Nat->Int) (p:Int):bH where
  σ:=Nat
  rt:= [(4,0),(7,0)]
  sh i:= [(4,bk 0),(7,bk 1),(9,.v (.int .i64 (kN (aJ of p) i))),(10,.v (.int .i64 i))]
  mh _:= []
  inv i:=i<=W.ae
  μ i:=W.ae -i
  init:=0
def RY:bH where
  σ:=Nat
  rt:= [(4,0),(7,0)]
  sh i:= [(4,bk 0),(7,bk 1),(11,.v (.int .i64 i))]
  mh _:= []
  inv i:=i<=16
  μ i:=16 -i
  init:=0
def RZ (W:Wd):bH where
  σ:=Nat
  rt:= [(4,0),(7,0)]
  sh i:= [(4,bk 0),(7,bk 1),(12,.v (.int .i64 i))]
  mh _:= []
  inv i:=i<=W.aY
  μ i:=W.aY -i
  init:=0
def R0 (W:Wd) (of:Nat->Int) (p:Int) (t:Nat):bH where
  σ:=Nat
  rt:= [(4,0),(7,0),(13,1)]
  sh k:= [(4,bk 0),(7,bk 1),(13,.aw 2 0 none 0 (kN (cN W of p t) k)),(14,.v (.int .i64 k))]
  mh k:= [(2,.row 1 (kN (cN W of p t) k) (iF λa=>W.ready t (kX (cN W of p t) k a)))]
  inv k:=k<=W.aL t
  μ k:=W.aL t -k
  init:=0
def R3 (W:Wd):bH where
  σ:=Nat
  rt:= [(4,0),(7,0)]
  sh i:= [(4,bk 0),(7,bk 1),(15,.v (.int .i64 i))]
  mh _:= []
  inv i:=i<=W.aE
  μ i:=W.aE -i
  init:=0
structure Hi where
  (W:Wd) (n:Nat) (of:Nat->Int) (p:Int)
def Hj:Sy.Spec:=⟨Hi,λ⟨W,n,of,p⟩=> [gq W,.sl true 1 n (λi_ _=> .v (.int .i64 (of i_))),.v (.int .i64 p),.ag 8 (aA [.sl true 1 (16*(kN (aJ of p) W.ae)) (iF λq=>W.af (kX (aJ of p) W.ae (q/16)*16+q%16)),.sl true 7 (16*(kN (aJ of p) W.ae)) (rF λq=>lW (W.aj (kX (aJ of p) W.ae (q/16)*16+q%16))),.sl true 20 (kN (aJ of p) W.ae) (rF λq=>jf (W.tasks (kX (aJ of p) W.ae q))),.sl true 1 (kN (aJ of p) W.ae) (iF λq=>W.kinds (kX (aJ of p) W.ae q)),.sl true 1 (kN (aJ of p) W.ae) (λq _=> .sl true 1 (W.aD (kX (aJ of p) W.ae q)) (iF (W.lines (kX (aJ of p) W.ae q)))),.sl true 1 (kN (aJ of p) W.ae) (iF λq=>W.bits (kX (aJ of p) W.ae q)),.sl true 1 W.aY (λq _=> .sl true 1 (kN (cN W of p q) (W.aL q)) (iF λa=>W.ready q (kX (cN W of p q) (W.aL q) a))),.sl true 1 W.aE (iF (gK W of p))])],λ_=> [],λ⟨W,n,_,_⟩=>Sm W/\jo W/\n=W.ae,λ_=> .v (.bool true),λ_=> [],
  λargs mem=>match args with| [a0,a1,a2,a3]=>some ⟨gf a0,bN a1,λi=>ao (bD a1 i 0),ao (a2)⟩|_=>none⟩
def Pr:aX:=⟨[],(Hj).g,none⟩
def Hk:Hi->Prop:=λ⟨W,n,of,p⟩=>let a0:=SV.ptr 0 0 none 0 0;let b0:=a0=a0;let c0:=SV.ptr 1 0 none 0 0;let d0:=c0=c0;let e0:=aJ of p;let g0:=0=((0:Nat):Int);let h0:=W.ar;let k0:=W.ae;let l0:=W.av;let o0:=W.aV;let q0:=W.bz;let u0:=W.aI;let v0:=W.aE;let w0:=v0=v0;let x0:=W.aY;let y0:=x0=x0;let z0:=((((((((((True/\h0=h0/\(∀a1:Nat,a1<h0->True/\W.af a1=W.af a1))/\k0=k0/\(∀b1:Nat,b1<k0->True/\W.kinds b1=W.kinds b1))/\l0=l0/\(∀c1:Nat,c1<l0->aF (W.aj c1) (W.aj c1)))/\o0=o0/\(∀d1:Nat,d1<o0->aG (W.tasks d1) (W.tasks d1)))/\q0=q0/\(∀e1:Nat,let g1:=W.aD e1;e1<q0->True/\g1=g1/\(∀J:Nat,J<g1->True/\W.lines e1 J=W.lines e1 J)))/\u0=u0/\(∀k1:Nat,k1<u0->True/\W.bits k1=W.bits k1))/\w0/\(∀l1:Nat,l1<v0->True/\W.aM l1=W.aM l1))/\y0/\(∀o1:Nat,let q1:=W.aL o1;o1<x0->True/\q1=q1/\(∀u1:Nat,u1<q1->True/\W.ready o1 u1=W.ready o1 u1)))/\W.aK=W.aK/\(∀v1:Nat,let w1:=W.aQ v1;v1<W.aK->True/\w1=w1/\(∀x1:Nat,x1<w1->aH (W.aB v1 x1) (W.aB v1 x1))))/\W.az=W.az/\(∀y1:Nat,y1<W.az->True/\W.aU y1=W.aU y1))/\W.time=W.time;let z1:=kN e0 k0;let a2:=16*z1;let b2:=a2=a2;let c2:=z1=z1;
    let d2:=(((((((True/\b2/\(∀e2:Nat,let g2:=W.af (kX e0 k0 (e2/16)*16+e2%16);e2<a2->True/\g2=g2))/\b2/\(∀U:Nat,let k2:=W.aj (kX e0 k0 (U/16)*16+U%16);U<a2->aF k2 k2))/\c2/\(∀l2:Nat,let o2:=W.tasks (kX e0 k0 l2);l2<z1->aG o2 o2))/\c2/\(∀q2:Nat,let u2:=W.kinds (kX e0 k0 q2);q2<z1->True/\u2=u2))/\c2/\(∀v2:Nat,let w2:=kX e0 k0 v2;let x2:=W.aD w2;v2<z1->True/\x2=x2/\(∀y2:Nat,y2<x2->True/\W.lines w2 y2=W.lines w2 y2)))/\c2/\(∀z2:Nat,let a3:=W.bits (kX e0 k0 z2);z2<z1->True/\a3=a3))/\y0/\(∀b3:Nat,let c3:=cN W of p b3;let d3:=W.aL b3;let e3:=kN c3 d3;b3<x0->True/\e3=e3/\(∀g3:Nat,let h3:=W.ready b3 (kX c3 d3 g3);g3<e3->True/\h3=h3)))/\w0/\(∀k3:Nat,let l3:=gK W of p k3;k3<v0->True/\l3=l3);let o3:=z0/\d2/\True;let q3:=(n:Int);let u3:=(a2:Int);let v3:=u3<=9223372036854775807;let w3:=(z1:Int);let x3:=false=true/\True;let y3:=(x0:Int);let z3:=y3 !=y3;let a4:=(v0:Int);let b4:=a4 !=a4;tn 2 (b0/\d0/\0=((kN e0 0:Nat):Int)/\g0/\o3/\0<=k0/\(∀c4:Nat,let d4:=(c4:Int);let e4:=decide (d4<q3);let g4:=0<=d4;let h4:=Int.toNat d4;let k4:=of h4 !=p;let l4:Int:=d4+1;let o4:=ak l4=l4;let q4:=((kN e0 c4:Nat):Int);let u4:Int:=q4+1;let v4:Int:=u4*16;let w4:=ak v4=v4;let x4:=decide (u3<v4);let y4:=decide (w3<u4);let z4:=cond (cond (cond (cond (cond x4 true x4) true y4) true y4) true y4) true y4;let a5:Int:=u4-1;let b5:=ak a5=a5;let c5:=0<=a5/\a5<w3;let d5:=kX e0 k0 (Int.toNat a5);let e5:=W.tasks d5;let g5:=W.tasks h4;
    let h5:=!(e5.r0==g5.r0&&(e5.r1==g5.r1&&(e5.r2==g5.r2&&(e5.r3==g5.r3&&(e5.r4==g5.r4&&(e5.r5==g5.r5&&(e5.r6==g5.r6&&(e5.r7==g5.r7&&true)))))))&&(e5.pc==g5.pc&&(e5.st==g5.st&&(e5.prio==g5.prio&&(e5.node==g5.node&&(e5.space==g5.space&&(e5.helper==g5.helper&&(e5.loc==g5.loc&&(e5.word==g5.word&&(e5.bS==g5.bS&&(e5.bK==g5.bK&&(e5.core==g5.core&&(e5.gr==g5.gr&&true)))))))))))));let k5:=h5=false;let l5:=cond h5 true (W.kinds d5 !=W.kinds h4);let o5:=l5=false;let q5:=cond l5 true (W.bits d5 !=W.bits h4);let u5:=q5=false;let v5:=W.aD d5;let w5:=W.aD h4;let x5:=cond q5 true (!j6 v5 (W.lines d5) w5 (W.lines h4));let y5:Int:=a5*16;let z5:=ak y5=y5;let a6:Int:=d4*16;let b6:=ak a6=a6;let c6:Int:=q4*16;let d6:=ak c6=c6;let e6:=u3 !=c6;let g6:=w3 !=q4;let h6:=cond (cond (cond (cond (cond (cond (cond e6 true e6) true g6) true g6) true g6) true g6) true z3) true b4;c4<=k0->q3<=9223372036854775807->(e4=true->(g4/\d4<q3)/\(k4=true->o4/\(∃k6:Nat,b0/\d0/\q4=((kN e0 k6:Nat):Int)/\l4=(k6:Int)/\o3/\k6<=k0/\k0-k6<k0-c4))/\(k4=false->ak u4=u4/\(v3->w4/\(x4=false->w4)/\(z4=true->x3)/\(z4=false->tn 3 (b5/\c5/\tn 4 ((g4/\d4<(o0:Int))/\tn 6 ((k5->b5)/\(k5->c5)/\tn 4 ((k5->g4/\d4<(k0:Int))/\tn 7 ((o5->b5)/\(o5->c5)/\tn 4 ((o5->g4/\d4<(u0:Int))/\tn 7 ((u5->b5)/\(u5->c5)/\tn 4 ((u5->g4/\d4<(q0:Int))/\True/\(u5->((v5=v5/\(∀l6:Nat,l6<v5->True/\W.lines d5 l6=W.lines d5 l6))/\(w5=w5/\(∀o6:Nat,o6<w5->True/\W.lines h4 o6=W.lines h4 o6))/\True)/\True/\True)/\(x5=true->x3)/\(x5=false->b0/\d0/\g0/\o3/\0<=16/\(∀q6:Nat,let u6:=(q6:Int);let v6:=decide (u6<16);
    let w6:Int:=y5+u6;let x6:=ak w6=w6;let y6:=0<=w6/\w6<u3;let z6:Int:=a6+u6;let a7:=ak z6=z6;let b7:=0<=z6;let c7:=Int.toNat w6;let d7:=kX e0 k0 (c7/16)*16+c7%16;let e7:=Int.toNat z6;let g7:=W.af d7 !=W.af e7;let h7:=g7=false;let k7:=W.aj d7;let l7:=W.aj e7;let o7:=cond g7 true (!(k7.kind==l7.kind&&(k7.base==l7.base&&(k7.len==l7.len&&(k7.mark==l7.mark&&(k7.dx==l7.dx&&(k7.bS==l7.bS&&true)))))&&(k7.from_==l7.from_&&true)));let q7:Int:=u6+1;q6<=16->(v6=true->tn 3 (b5/\z5/\True/\x6/\y6/\tn 4 (b6/\True/\a7/\(b7/\z6<(h0:Int))/\tn 6 ((h7->b5)/\(h7->z5)/\True/\(h7->x6)/\(h7->y6)/\tn 4 ((h7->b6)/\True/\(h7->a7)/\(h7->b7/\z6<(l0:Int))/\True/\(o7=true->x3)/\(o7=false->ak q7=q7/\(∃u7:Nat,b0/\d0/\q7=(u7:Int)/\o3/\u7<=16/\16-u7<16-q6)))))))/\(v6=false->o4/\(∃v7:Nat,b0/\d0/\u4=((kN e0 v7:Nat):Int)/\l4=(v7:Int)/\o3/\v7<=k0/\k0-v7<k0-c4))))))))))))))))/\(e4=false->v3->d6/\(e6=false->d6)/\(h6=true->x3)/\(h6=false->b0/\d0/\g0/\o3/\0<=x0/\(∀w7:Nat,let x7:=(w7:Int);let y7:=decide (x7<y3);let z7:=cN W of p w7;let a8:=kN z7 0;let b8:=0=a8;let c8:=W.aL w7;let d8:=0<=x7/\x7<y3;let e8:=Int.toNat x7;let g8:=W.aL e8;let h8:=(g8:Int);let k8:=cN W of p e8;let l8:=kN k8 g8;let o8:Int:=x7+1;w7<=x0->y3<=9223372036854775807->(y7=true->b0/\d0/\(0=0/\b8)/\g0/\(z0/\d2/\(b8/\(∀q8:Nat,q8<a8->True/\SV.aq=SV.v (Value.int IntKind.i64 (W.ready w7 (kX z7 0 q8)))))/\True)/\0<=c8/\(∀r8:Nat,let u8:=(r8:Int);let v8:=decide (u8<h8);let w8:=0<=u8/\u8<h8;let x8:=W.ready e8 (Int.toNat u8);let y8:=of (Int.toNat x8)==p;let z8:=kN z7 r8;let a9:=z8+1;let b9:Int:=u8+1;
    let c9:=ak b9=b9;let d9:=!j6 l8 (λe9:Nat=>W.ready e8 (kX k8 g8 e9)) z8 (λg9:Nat=>W.ready w7 (kX z7 r8 (0+g9)));r8<=c8->d8/\(h8<=9223372036854775807->(v8=true->d8/\w8/\(0<=x8/\x8<q3)/\(y8=true->d8/\w8/\True/\(a9*8<=140737488355328/\(∀h9:Nat,true=true))/\c9/\(∃k9:Nat,b0/\d0/\(0=0/\a9=kN z7 k9)/\b9=(k9:Int)/\(z0/\d2/\(a9=kN z7 k9/\(∀l9:Nat,l9<kN z7 k9->True/\cond (Nat.blt l9 z8) (W.ready w7 (kX z7 r8 (0+l9))) (List.getD [x8] (0+(l9-z8)) 0)=W.ready w7 (kX z7 k9 l9)))/\True)/\k9<=c8/\c8-k9<c8-r8))/\(y8=false->c9/\(∃o9:Nat,b0/\d0/\(0=0/\z8=kN z7 o9)/\b9=(o9:Int)/\(z0/\d2/\(z8=kN z7 o9/\(∀q9:Nat,q9<kN z7 o9->True/\W.ready w7 (kX z7 r8 q9)=W.ready w7 (kX z7 o9 q9)))/\True)/\o9<=c8/\c8-o9<c8-r8)))/\(v8=false->d8/\(((l8=l8/\(∀r9:Nat,let u9:=W.ready e8 (kX k8 g8 r9);r9<l8->True/\u9=u9))/\(z8=z8/\(∀v9:Nat,let w9:=W.ready w7 (kX z7 r8 (0+v9));v9<z8->True/\w9=w9))/\True)/\True/\True)/\(d9=true->x3)/\(d9=false->ak o8=o8/\(∃x9:Nat,b0/\d0/\o8=(x9:Int)/\o3/\x9<=x0/\x0-x9<x0-w7))))))/\(y7=false->b0/\d0/\g0/\o3/\0<=v0/\(∀y9:Nat,let z9:=(y9:Int);let jq:=decide (z9<a4);let ku:=0<=z9/\z9<a4;let cZ:=W.aM (Int.toNat z9);let d10:=decide (0<=cZ);let iE:=cond d10 (of (Int.toNat cZ) !=p) false;let jT:=gK W of p (Int.toNat z9);let cv:=jT !=(-1);let dt:Int:=z9+1;let lv:=ak dt=dt/\(∃im:Nat,b0/\d0/\dt=(im:Int)/\o3/\im<=v0/\v0-im<v0-y9);let gL:=jT !=cZ;y9<=v0->a4<=9223372036854775807->(jq=true->ku/\(d10=true->0<=cZ/\cZ<q3)/\(iE=true->ku/\(cv=true->x3)/\(cv=false->lv))/\(iE=false->ku/\(gL=true->x3)/\(gL=false->lv)))/\(jq=false->true=true/\True))))))))
set_option maxHeartbeats 2000000 in
theorem N0:aW Tryz.prog bf 12 Pr:=bd (.cons Hf .nil) false Tryz.call12 Tryz.func12 (λ⟨W,_,of,p⟩=> [.xR (RX W of p) λi=> [.inv RY],.kJ 0,.xR (RZ W) λi=> [.inv (R0 W of p i)],.kJ 0,.inv (R3 W)]) (V:=Hk) (λ_=>by kernel_rfl) λ⟨W,n,of,p⟩ hp=>by
  dsimp only[Hj]at hp
  dsimp only[Hk,tn,ak]
  simp only[bn,bG,eq_self,implies_true,Bool.cond_self]
  simp only[lJ,mL,implies_true,true_and]
  obtain⟨pX,hw,rfl⟩:=hp
  have hI:=xd hw pX
  have z1:=hI.z.k1
  have z2:=hI.z.aj
  have z3:=hI.z.af
  have z4:=hI.z.tasks
  have z5:=hI.z.c1
  have z6:=hI.z.ready
  have z7:=hI.z.lines
  have z8:=hI.z.bits
  have hcN:=qT (aJ of p) W.ae
  refine⟨rfl,λi hi _=>⟨λJ=>?_,λJ=>?_⟩⟩
  · have ai:=br J
    refine⟨by omega,λU=>?_,λU=>?_⟩
    · have h3:aJ of p i=false:=j9 (b:=of i==p) U
      exact⟨bQ (by omega) (by omega),i+1,by rw[qJ h3],by omega,by omega,by omega⟩
    have h3:aJ of p i=true:=eJ (b:=of i==p) U
    have hk:=Hh h3 ai
    have hx:=JU h3 ai
    have e1:((kN (aJ of p) i:Int)+1 -1)=(kN (aJ of p) i:Int):=by omega
    have d1:decide (((16*kN (aJ of p) W.ae:Nat):Int)<((kN (aJ of p) i:Int)+1)*16)=false:=decide_eq_false (by omega)
    have d2:decide ((kN (aJ of p) W.ae:Int)<(kN (aJ of p) i:Int)+1)=false:=decide_eq_false (by omega)
    have k1:kN (aJ of p) i<=i:=qT _ _
    have wa:IntKind.i64.wrap ((kN (aJ of p) i:Int)+1)=(kN (aJ of p) i:Int)+1:=bQ (by omega) (by omega)
    have wb:IntKind.i64.wrap (((kN (aJ of p) i:Int)+1)*16)=((kN (aJ of p) i:Int)+1)*16:=bQ (by omega) (by omega)
    have wc:IntKind.i64.wrap (kN (aJ of p) i:Int)=(kN (aJ of p) i:Int):=bQ (by omega) (by omega)
    have wd:IntKind.i64.wrap ((kN (aJ of p) i:Int)*16)=(kN (aJ of p) i:Int)*16:=bQ (by omega) (by omega)
    have we:IntKind.i64.wrap ((i:Int)*16)=(i:Int)*16:=bQ (by omega) (by omega)
    have wf:IntKind.i64.wrap ((i:Int)+1)=(i:Int)+1:=bQ (by omega) (by omega)
    simp only[d1,d2,e1,hx,wa,wb,wc,wd,we,wf,vX,Bool.false_or,Int.toNat_natCast,beq_self_eq_true,bne_self_eq_false,Bool.and_true,Bool.and_self,Bool.not_true,Bool.or_self,Bool.or_false,Bool.false_eq_true,false_implies,forall_const,implies_true,true_and,and_true]
    refineλ_=>⟨by omega,by omega,by omega,by omega,by omega,by omega,by omega,by omega,λk hk=>⟨λh4=>?_,λh4=>⟨i+1,by rw[mM h3];omega,by omega,by omega,by omega⟩⟩⟩
    have h4:=of_decide_eq_true h4
    have wg:IntKind.i64.wrap ((kN (aJ of p) i:Int)*16+k)=(kN (aJ of p) i:Int)*16+k:=bQ (by omega) (by omega)
    have wh:IntKind.i64.wrap ((i:Int)*16+k)=(i:Int)*16+k:=bQ (by omega) (by omega)
    have wi:IntKind.i64.wrap ((k:Int)+1)=(k:Int)+1:=bQ (by omega) (by omega)
    have g1:((kN (aJ of p) i:Int)*16+k).toNat/16=kN (aJ of p) i:=by omega
    have g2:((kN (aJ of p) i:Int)*16+k).toNat%16=k:=by omega
    have g3:((i:Int)*16+k).toNat=i*16+k:=by omega
    simp only[g1,g2,g3,hx,wg,wh,wi,Int.toNat_natCast,beq_self_eq_true,bne_self_eq_false,Bool.and_true,Bool.and_self,Bool.not_true,Bool.or_self,Bool.or_false,Bool.false_eq_true,false_implies,forall_const,implies_true,true_and,and_true]
    exact⟨by omega,by omega,by omega,by omega,k+1,by omega,by omega,by omega⟩
  obtain rfl:i=W.ae:=by have:=bJ J;omega
  have hm:(((16*kN (aJ of p) W.ae:Nat):Int) !=(kN (aJ of p) W.ae:Int)*16)=false:=by rw[bne_eq_false_iff_eq];omega
  have wd:IntKind.i64.wrap ((kN (aJ of p) W.ae:Int)*16)=(kN (aJ of p) W.ae:Int)*16:=bQ (by omega) (by omega)
  simp only[hm,wd,beq_self_eq_true,bne_self_eq_false,Bool.and_true,Bool.and_self,Bool.not_true,Bool.or_self,Bool.or_false,Bool.false_eq_true,false_implies,forall_const,implies_true,true_and,and_true]
  refineλ_ c hc _=>⟨λU=>?_,λU=>?_⟩
  · have ai:=br U
    have hr:=hI.rd c ai
    refine⟨rfl,⟨rfl,λa h=>absurd h (Nat.not_lt_zero _)⟩,λk hk=>⟨by omega,λ_=>⟨λh3=>?_,λh3=>?_⟩⟩⟩
    · have iR:=br h3
      have hx:=hr.2 k iR
      have gH:=qT (cN W of p c) k
      have UJ:=hr.1
      refine⟨by omega,by omega,by omega,λh4=>?_,λh4=>?_⟩
      · have h5:cN W of p c k=true:=h4
        refine⟨by omega,by omega,by omega,bQ (by omega) (by omega),k+1,(mM h5).symm,by omega,⟨(mM h5).symm,λa h=>?_⟩,by omega,by omega⟩
        rw[mM h5]at h
        rcases(show a<kN (cN W of p c) k\/a=kN (cN W of p c) k by omega)with e|e
        · rw[da e,mC e];rfl
        · subst e;rw[dy (Nat.le_refl _),mD h5,Nat.sub_self];rfl
      · have h5:cN W of p c k=false:=h4
        refine⟨bQ (by omega) (by omega),k+1,(qJ h5).symm,by omega,⟨(qJ h5).symm,λa h=>?_⟩,by omega,by omega⟩
        rw[Br h5]
    · obtain rfl:k=W.aL c:=by have:=bJ h3;omega
      simp only[vX,Bool.not_true,Bool.false_eq_true,false_implies,forall_const,true_and]
      exact⟨by omega,bQ (by omega) (by omega),c+1,by omega,by omega,by omega⟩
  intro k hk _ h3
  have ai:=br h3
  have hx:=hI.co k ai
  have h5:gK W of p k=bif decide (0<=W.aM k)&&of (W.aM k).toNat !=p then -1 else W.aM k:=rfl
  refine⟨by omega,λh4=>?_,λh4=>?_,λh4=>?_⟩
  · have:=of_decide_eq_true h4;omega
  all_goals
    rw[h4]at h5
    simp only[cond_true,cond_false]at h5
    rw[h5]
    exact⟨by omega,λh=>absurd h (by simp),λ_=>⟨bQ (by omega) (by omega),k+1,by omega,by omega,by omega⟩⟩
end Go.Proofs.YtbngaammbjaajaaGreatDoor
set_option linter.unusedVariables false
set_option linter.unusedSimpArgs false
set_option maxRecDepth 100000
namespace Go.Proofs.YtbngaammbjaajaaGreatDoor
open Go.RowKit Go.Sy
structure KM where
  (e a x y:Int)
def TS:Sy.Spec:=⟨KM,λ⟨e,a,x,y⟩=> [.er 30 73 e a,.ag 2 (aA [.v (.int .i64 x),.v (.int .i64 y)])],λ_=> [],λ_=>True,λ⟨e,a,x,y⟩=> .v (.bool (e==x&&a==y)),λ_=> [],
  λargs mem=>match args with| [a0,a1]=>some ⟨KO a0,KP a0,ao (bU a1 0),ao (bU a1 1)⟩|_=>none⟩
def TU:aX:=⟨[],(TS).g,none⟩
def KN:KM->Prop:=λ⟨e,a,x,y⟩=>True/\(((e=e/\a=a)/\True)/\True/\True)/\cond (e==x) (a==y) false=(e==x&&a==y)/\True
theorem RV:aW Tryz.prog rN 8 TU:=bd (.cons PD .nil) false Tryz.call8 Tryz.func8 (λ_=> []) (V:=KN) (λ_=>by kernel_rfl) λ⟨e,a,x,y⟩ hp=>by
  dsimp only[KN,tn,ak]
  exact⟨trivial,by simp,by cases e==x<;>rfl,trivial⟩
end Go.Proofs.YtbngaammbjaajaaGreatDoor
set_option linter.unusedVariables false
set_option linter.unusedSimpArgs false
set_option maxRecDepth 100000
namespace Go.Proofs.YtbngaammbjaajaaGreatDoor
open Go.RowKit Go.Sy
theorem Pp (f g:Nat->Int):j6 0 f 0 g=true:=by simp[j6,fj]
noncomputable def TB (W:Wd):Cut where
  σ:=Unit
  rt:= [(2,0),(6,1)]
  sh _:= [(2,bk 0),(5,.v (.int .i64 (bif wE W==0 then 0 else 8))),(6,.aw 1 0 none 0 (ig W))]
  mem _:= [.cells [.sl true 1 W.ar (iF W.af),.sl true 1 W.ae (iF W.kinds),.sl true 7 W.av (rF λi=>lW (W.aj i)),.sl true 20 W.aV (rF λi=>jf (W.tasks i)),.sl true 1 W.bz (λi _=> .sl true 1 (W.aD i) (iF (W.lines i))),.sl true 1 W.aI (iF W.bits),.sl true 1 W.aE (iF W.aM),.sl true 1 W.aY (λi _=> .sl true 1 (W.aL i) (iF (W.ready i))),.sl true 1 W.aK (λi _=> .sl true 4 (W.aQ i) (rF λk=>lu (W.aB i k))),.sl true 1 W.az (iF W.aU),.v (.int .i64 W.time)],.row 1 (ig W) (iF (jm W))]
  inv _:=True
  dec _ _:=()
structure EB where
  (W:Wd) (p:Int)
def Mi:Sy.Spec:=⟨EB,λ⟨W,p⟩=> [gq W,.v (.int .i64 p)],λ_=> [],λ_=>True,λ_=> .v (.bool true),λ_=> [],
  λargs mem=>match args with| [a0,a1]=>some ⟨gf a0,ao (a1)⟩|_=>none⟩
def EA:aX:=⟨[],(Mi).g,none⟩
def EC:EB->Prop:=λ⟨W,p⟩=>let a0:=W.ae;let b0:=W.av;let c0:=W.aV;let d0:=W.bz;let e0:=W.aE;let g0:=W.aY;let h0:=((((((((((True/\W.ar=W.ar/\(∀k0:Nat,k0<W.ar->True/\W.af k0=W.af k0))/\a0=a0/\(∀l0:Nat,l0<a0->True/\W.kinds l0=W.kinds l0))/\b0=b0/\(∀o0:Nat,o0<b0->aF (W.aj o0) (W.aj o0)))/\c0=c0/\(∀q0:Nat,q0<c0->aG (W.tasks q0) (W.tasks q0)))/\d0=d0/\(∀r0:Nat,let u0:=W.aD r0;r0<d0->True/\u0=u0/\(∀v0:Nat,v0<u0->True/\W.lines r0 v0=W.lines r0 v0)))/\W.aI=W.aI/\(∀w0:Nat,w0<W.aI->True/\W.bits w0=W.bits w0))/\e0=e0/\(∀x0:Nat,x0<e0->True/\W.aM x0=W.aM x0))/\g0=g0/\(∀y0:Nat,let z0:=W.aL y0;y0<g0->True/\z0=z0/\(∀a1:Nat,a1<z0->True/\W.ready y0 a1=W.ready y0 a1)))/\W.aK=W.aK/\(∀b1:Nat,let c1:=W.aQ b1;b1<W.aK->True/\c1=c1/\(∀d1:Nat,d1<c1->aH (W.aB b1 d1) (W.aB b1 d1))))/\W.az=W.az/\(∀e1:Nat,e1<W.az->True/\W.aU e1=W.aU e1))/\W.time=W.time;let g1:=h0/\True;let J:=True/\True;let k1:Int:=cond (wE W==0) 0 8;let l1:=k1==0;let o1:=l1=true;let q1:=SV.ptr 0 0 none 0 0;let r1:=q1=q1;let u1:=k1=k1;let v1:=ig W;let w1:=a0=v1;let x1:=(u1/\True)/\J;let y1:=((-1):Int)=(-1);let z1:=((True/\u1)/\y1)/\True;let a2:=((-1):Int)==(-1);let b2:=!(iQ W==k1&&a2);let c2:=v1=v1;let d2:=c2/\(∀e2:Nat,e2<v1->True/\jm W (0+e2)=jm W (0+e2));let g2:=cond b2 true (!j6 v1 (λU:Nat=>cU W (0+U)) v1 (λk2:Nat=>jm W (0+k2)));let l2:=cond (decide (p<0)) true (decide ((v1:Int)<=p));let o2:=cond l1 (cond l2 true (jm W (0+Int.toNat p) !=p)) false;
    let q2:=(h0/\p=p/\True)/\True/\Bq.match_1 (λr2:xc=>Prop) (xc.mk W p) (λu2:Wd=>λv2:Int=>Sm u2);let w2:=tn 6 J;let x2:=uQ W p;let y2:=x2=x2/\y1;let z2:=x2==2&&a2;let a3:=z2=true;let b3:=lX W p;let c3:=((16*b3:Nat):Int);let d3:Int:=c3+c3;let e3:=ak d3=d3;let g3:=(b3:Int);let h3:Int:=d3+g3;let k3:=ak h3=h3;let l3:Int:=h3+g3;let o3:=ak l3=l3;let q3:Int:=l3+g3;let r3:=ak q3=q3;let u3:Int:=q3+g3;let v3:=ak u3=u3;let w3:Int:=u3+((rL W p:Nat):Int);let x3:=ak w3=w3;let y3:Int:=w3+((rM W p:Nat):Int);let z3:=ak y3=y3;let a4:=y3==0;let b4:=x2==0;let c4:=aJ (λd4:Nat=>jm W (0+d4)) p;let e4:=kN c4 a0;let g4:=16*e4;let h4:=16*b3=g4;let k4:=aJ (cU W) p;let l4:=b3=e4;
    let o4:=(b4=true->(h0/\d2/\p=p/\((((((((True/\h4/\(∀q4:Nat,q4<g4->True/\W.af (kX k4 a0 (q4/16)*16+q4%16)=W.af (kX c4 a0 (q4/16)*16+q4%16)))/\h4/\(∀r4:Nat,r4<g4->aF (W.aj (kX k4 a0 (r4/16)*16+r4%16)) (W.aj (kX c4 a0 (r4/16)*16+r4%16))))/\l4/\(∀u4:Nat,u4<e4->aG (W.tasks (kX k4 a0 u4)) (W.tasks (kX c4 a0 u4))))/\l4/\(∀v4:Nat,v4<e4->True/\W.kinds (kX k4 a0 v4)=W.kinds (kX c4 a0 v4)))/\l4/\(∀w4:Nat,let x4:=W.aD (kX c4 a0 w4);w4<e4->True/\W.aD (kX k4 a0 w4)=x4/\(∀y4:Nat,y4<x4->True/\W.lines (kX k4 a0 w4) y4=W.lines (kX c4 a0 w4) y4)))/\l4/\(∀z4:Nat,z4<e4->True/\W.bits (kX k4 a0 z4)=W.bits (kX c4 a0 z4)))/\rL W p=g0/\(∀a5:Nat,let b5:=cN W (cU W) p a5;let c5:=W.aL a5;let d5:=cN W (λe5:Nat=>jm W (0+e5)) p a5;let g5:=kN d5 c5;a5<g0->True/\kN b5 c5=g5/\(∀h5:Nat,h5<g5->True/\W.ready a5 (kX b5 c5 h5)=W.ready a5 (kX d5 c5 h5))))/\rM W p=e0/\(∀k5:Nat,k5<e0->True/\gK W (cU W) p k5=gK W (λl5:Nat=>jm W (0+l5)) p k5))/\True)/\True/\Sm W/\jo W/\v1=a0)/\cond b4 true false=true/\True;let o5:=k1 !=0;let q5:=x2==k1&&a2;let r5:=q5=true;True/\(g1/\J)/\(jl W=true->true=true/\True)/\(jl W=false->(g1/\True/\Ai.match_1 (λu5:vW=>Prop) (vW.mk W) (λv5:Wd=>Sm v5))/\((o1->(g1/\True/\Sm W/\jo W)/\r1/\u1/\(0=0/\w1)/\(h0/\(w1/\(∀w5:Nat,w5<v1->True/\jm W w5=jm W w5))/\True)/\True)/\(l1=false->r1/\u1/\(0=0/\0=v1)/\(h0/\(0=v1/\(∀x5:Nat,x5<v1->True/\SV.aq=SV.v (Value.int IntKind.i64 (jm W x5))))/\True)/\True))/\(∀y5:Unit,True->(g1/\True/\xB.match_1 (λz5:qS=>Prop) (qS.mk W) (λa6:Wd=>Sm a6))/\x1/\(((iQ W=iQ W/\y1)/\
    z1)/\J)/\(b2=false->((c2/\(∀b6:Nat,b6<v1->True/\cU W (0+b6)=cU W (0+b6)))/\d2/\True)/\J)/\(g2=true->false=true/\True)/\(g2=false->(l2=false->o1->0<=p/\p<(v1:Int))/\(o2=true->q2/\True/\w2/\(((2:Int) !=0)=true->(((2:Int)=2/\True)/\J)/\((y2/\((True/\(2:Int)=2)/\y1)/\True)/\J)/\(a3->e3)/\(a3->k3)/\(a3->o3)/\(a3->r3)/\(a3->v3)/\(a3->x3)/\(a3->z3)/\cond z2 a4 false=true/\True)/\(((2:Int) !=0)=false->o4))/\(o2=false->q2/\True/\w2/\(o5=true->x1/\((y2/\z1)/\J)/\(r5->e3)/\(r5->k3)/\(r5->o3)/\(r5->r3)/\(r5->v3)/\(r5->x3)/\(r5->z3)/\cond q5 a4 false=true/\True)/\(o5=false->o4)))))
set_option maxHeartbeats 2000000 in
theorem LP:aW Tryz.prog rN 3 EA:=bd (.cons (LB.up nv) (.cons (MZ.up nv) (.cons (QB.up nv) (.cons (Iy.up nv) (.cons RV (.cons (Iz.up nv) (.cons (Hf.up nv) (.cons (Pq.up nv) (.cons (N0.up nv) .nil))))))))) false Tryz.call3 Tryz.func3 (λ⟨W,_⟩=> [.cut 7 (TB W)]) (V:=EC) (λ_=>by kernel_rfl) λ⟨W,p⟩ hp=>by
  dsimp only[EC,tn,ak]
  simp only[bn,bG,eq_self,implies_true,Bool.cond_self]
  simp only[lJ,mL,implies_true,true_and]
  refineλhh=>?_
  have pX:=RW hh
  have hO:iQ W=bif wE W==0 then 0 else 8:=rfl
  have hN:ig W=bif wE W==0 then W.ae else 0:=rfl
  have J:uQ W p=bif wE W==0 then(bif ik W p then 0 else 2)else 8:=rfl
  have U:lX W p=bif ik W p then kN (aJ (cU W) p) W.ae else 0:=rfl
  have h3:rL W p=bif ik W p then W.aY else 0:=rfl
  have h4:rM W p=bif ik W p then W.aE else 0:=rfl
  have h5:ik W p=(wE W==0&&(decide (0<=p)&&decide (p<W.ae)&&cU W p.toNat==p)):=rfl
  have UI:jm W=cU W:=rfl
  have w0:IntKind.i64.wrap 0=0:=by decide
  rw[UI]
  cases hw:wE W==0 with
  |false=>
   rw[hw]at hO hN J h5
   rw[Bool.false_and]at h5
   rw[h5]at J U h3 h4
   simp only[cond_false]at hO hN J U h3 h4
   simp[hO,hN,J,U,h3,h4,pX,w0,Pp]
  |true=>
   rw[hw]at hO hN J h5
   rw[Bool.true_and]at h5
   simp only[cond_true]at hO hN J
   rw[hO,hN]
   have hS:=jo.iff.1 (eq_of_beq hw)
   cases hs:ik W p with
   |false=>
    rw[hs]at J U h3 h4
    simp only[cond_false]at J U h3 h4
    simp[J,U,h3,h4,pX,hS,w0,vX]
    rw[hs]at h5
    intro a b c
    rw[decide_eq_true a,decide_eq_true b,c]at h5
    simp at h5
   |true=>
    rw[hs]at J U h3 h4
    simp only[cond_true]at J U h3 h4
    simp[J,U,h3,h4,pX,hS,w0,vX,mL]
    rw[hs]at h5
    simpa using h5.symm
end Go.Proofs.YtbngaammbjaajaaGreatDoor
namespace Go.Proofs.YtbngaammbjaajaaGreatDoor
open Go.ChangeShapes Go.WideShapes Go.RowKit Go.Sy
theorem K.own:ownKnob Tryz.prog.godebug=none:=by kernel_rfl
theorem K.et : Tryz.prog.globalNamed "errors.errorType" = some 0 := by kernel_rfl
theorem K.rt : (Tryz.prog.cutTypes.find? (·.1 == "internal/reflectlite.rtype")).map (·.2) = some 130 := by kernel_rfl
theorem K.Rt:((List.range Tryz.prog.types.size).filter λt=>Tryz.prog.rowNamed t [101,114,114,111,114])= [34]:=by kernel_rfl
theorem K.handle {laid : List (String × DataW Unit)} {W : World} (h : laidMetH Tryz.prog laid W) (hm : ("errors.errorType", Rows.laid_errors_errorType) ∈ laid) : W.cell? ⟨0, 0, none⟩ = some A.jr := by
 have hf : ("errors.errorType", Rows.laid_errors_errorType) ∈ laid.filter fun x => x.2.handleName?.isSome := List.mem_filter.2 ⟨hm, by rfl⟩
 unfold laidMetH at h
 split at h
 · next e=>rw[e]at hf;cases hf
 next x r e=>
 rw[e]at hf
 obtain⟨name,u,ty,e1,e2,e3,e4,e5⟩:=h.2 _ hf
 have en:name= [101,114,114,111,114]:=(Option.some.inj e1).symm
 subst en
 obtain rfl:=Option.some.inj (K.rt.symm.trans e2)
 have hm:ty∈(List.range Tryz.prog.types.size).filter λt=>Tryz.prog.rowNamed t [101,114,114,111,114]:=List.mem_filter.2 ⟨List.mem_range.2 e3,e4⟩
 rw[K.Rt]at hm
 obtain rfl:=List.mem_singleton.1 hm
 have hh:typeHandle Tryz.prog 34= .pointer (some ⟨1,34,none⟩):=by kernel_rfl
 rw[hh]at e5
 unfold A.jr
 simpa using World.var?_cell K.et e5 0
noncomputable def K.world (os:Os):World:=
  let w0:=World.holding Tryz.prog os ⟨#[],#[],[]⟩
  {w0 with heap:=w0.heap.modify 0 λ
   | .cells _ t frozen=> .cells #[A.jr] t frozen
   |o=>o}
theorem K.met (os : Os) (args : Array Value) : laidMetH Tryz.prog [("errors.errorType", Rows.laid_errors_errorType)] ((K.world os).forCall (fun _ _ => 0) ⟨#[], args, []⟩).memory :=
 laidMetH_of_parts (laidMet_nil _ _) (by kernel_rfl)
theorem K.laidOut:laidOutB Tryz.prog=true:=by kernel_rfl
theorem K.trodAll {H:Type} {enc:TypeId×Value->H} {P:Program} (hl:laidOutB P=true) {W W':World} (hb:Below W.heap.size W W'): ∀{ts:List TypeId} {vs:List Value} {ds:List (DataW H)} {ps:List MemPlace},
    (ts.all λt=>P.readableRec t&&decide (t<P.types.size))=true->DataW.TrodAll enc P W 0 (λ_=>true) true ts vs ds ps->(∀x∈ps,x.block<W.heap.size)->DataW.TrodAll enc P W' 0 (λb=>decide (b<W.heap.size)) true ts vs ds ps
  | [],[],[],_,_,h,_=>h
  |t::ts,v::vs,d::ds,ps,hr,⟨p,q,J,U,e⟩,ai=>by
   subst e
   simp only[List.all_cons,Bool.and_eq_true,decide_eq_true_eq]at hr
   exact⟨p,q,Below.trod hl hr.1.1 hr.1.2 J hb (λx hx=>ai x (List.mem_append_left _ hx)),K.trodAll hl hb hr.2 U (λx hx=>ai x (List.mem_append_right _ hx)),rfl⟩
theorem K.underlying4:Tryz.prog.underlying 4=some .bool:=by kernel_rfl
theorem K.len {H:Type} {enc:TypeId×Value->H} {P:Program} {w:World} {base:Nat} {spare:Nat->Bool} {held:Bool}: ∀{ts:List TypeId} {vs:List Value} {ds:List (DataW H)} {ps:List MemPlace},DataW.TrodAll enc P w base spare held ts vs ds ps->ds.length=ts.length
  | [],[],[],_,_=>rfl
  |_::_,_::_,_::_,_,⟨_,_,_,h,_⟩=>by simp[K.len h]
theorem K.Po {ps:Array TypeId} (h:(ps.toList.all λt=>!Tryz.prog.wantsStandIn t)=true) {j:Nat} {t:TypeId} (ht:ps[j]? =some t):Tryz.prog.wantsStandIn t=false:=by
  have:=List.all_eq_true.1 h t (by rw[Array.mem_toList_iff];exact Array.mem_of_getElem? ht)
  simpa using this
set_option maxRecDepth 100000 in
theorem K.lift {f:FuncId} {fn:Func} {s:ChangeSpec} {X:World->Prop} (hX: ∀(w w':World),w.heap=w'.heap->X w->X w') (os:Os) (started:os.Started) (H:Type) (enc:TypeId×Value->H)
    (Ru:Tryz.checked.prog.inits.idxOf? f=none) (gG:Tryz.checked.prog.funcs[f]? =some fn)
    (hs: ∀ds:List (DataW H),ds.length=fn.params.toList.length->s.fn H (ds++ [])={results:= [.lit (.bool true)],args:=ds}) (hv:s.vars= []) (hr:fn.resultTypes= #[4])
    (eh:(fn.params.toList.all λt=>Tryz.prog.readableRec t&&decide (t<Tryz.prog.types.size))=true)
    (witness: ∃(w:World) (tape:Tape) (i:Input),w.os=os/\(w.forCall tape i).Shaped Tryz.prog/\i.vars= []/\Input.okWide Tryz.prog (w.forCall tape i) .any w.heap.size f i/\
      ((s.pre enc Tryz.prog fn [] false (w.forCall tape i).memory i.args/\X (w.forCall tape i).memory)/\sizedMet enc Tryz.prog fn (OpenSpec.ofChange s) false (w.forCall tape i).memory i.args)/\({}:Assume).holds Tryz.prog (lone (Frame.enter Tryz.prog f i.args .normal) [] (w.forCall tape i)))
    (OX: ∀(W:World) (base:Nat) (args:Array Value) (ds:List (DataW H)) (p:List MemPlace),
     (∀(j:Nat) t v,fn.params[j]? =some t->args[j]? =some v->Value.okWide Tryz.prog W .any base t v)->
     DataW.TrodAll enc Tryz.prog W 0 (λ_=>true) true fn.params.toList args.toList ds p->X W->(∀x∈p,x.block<W.heap.size)->
     Calls Tryz.prog f args W λe W'=>e= .returned (.bool true)/\Below W.heap.size W W'):
    ReturnsInHanded {} Tryz.checked os f .any (λw args=>(s.pre enc Tryz.prog fn [] false w args/\X w)/\sizedMet enc Tryz.prog fn (OpenSpec.ofChange s) false w args) (s.post enc Tryz.prog fn false true false false):=by
  refine returnsInHanded_of_change_and (C:=Tryz.checked) (X:=λw _=>X w) (λw w' _ hh h=>hX w w' hh h) K.own started Ru gG witness ?_
  intro W base args ds gs before tW hW _ _ hL _
  have Lv:=hW
  obtain⟨p,q,hA,hV,rfl,hfz,_⟩:=hW
  have ai: ∀x∈p,x.block<W.heap.size:=λx hx=>by simpa using Lv.lt x (List.mem_append_left _ hx)
  obtain⟨rfl,rfl⟩:gs= []/\q= []:=by
    rw[hv]at hV
    cases gs with
    |nil=>exact⟨rfl,hV⟩
    |cons g r=>exact absurd hV (by intro h;cases h)
  refine(OX W base args ds p tW hA hL ai).mono λe W' ⟨he,hb⟩=>?_
  have e1:=hs ds (K.len hA)
  refine⟨_,he,_,_,_,[],p,[],Lv,?_,?_,?_,hb.frame _,λh=>by cases h⟩
  · rw[e1,hr];exact trodAll_mk1 (shut_bool K.underlying4 true)
  · rw[e1];exact K.trodAll K.laidOut hb eh hA ai
  · rw[e1,hv];rfl
theorem K.eT {laid : List (String × DataW Unit)} {W : World} (h : laidMetH Tryz.prog laid W) (hm : ("errors.errorType", Rows.laid_errors_errorType) ∈ laid) : Den W o0.bare (.pt false 1 fun _ => .v A.jr) (.pointer (some ⟨0, 0, none⟩)) :=
 ⟨_,rfl,λj hj=>⟨_,by obtain rfl:j=0:=by omega
                     exact K.handle h hm,⟨id,λ_=>id⟩,rfl⟩⟩
theorem K.gE {laid : List (String × DataW Unit)} {W : World} (h : laidMetH Tryz.prog laid W) (hm : ("errors.errorType", Rows.laid_errors_errorType) ∈ laid) (g : Nat) : Den W o0.bare (rN g) (.pointer (some ⟨g, 0, none⟩)) := by
 unfold rN
 split
 · exact K.eT h hm
 · trivial
end Go.Proofs.YtbngaammbjaajaaGreatDoor
