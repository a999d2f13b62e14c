/- Lines of a world's text keep a world sound. -/
import Derived.Test.YthgmgkabnffniaaGreatDoorYP
import Derived.Test.YthgmgkabnffniaaGreatDoorYO
import Derived.Test.YthgmgkabnffniaaGreatDoorYN
import Derived.Test.YthgmgkabnffniaaGreatDoorYI
import Derived.Test.YthgmgkabnffniaaGreatDoorYJ
set_option linter.unusedVariables false
set_option linter.unusedSimpArgs false
set_option maxRecDepth 100000
namespace Go.Proofs.YthgmgkabnffniaaGreatDoor
open Go.RowKit Go.Sy
theorem KG.af {P:Nat->Prop} {W:Wd} (h:KG P W) (R:Nat->Int):KG P {W with af:=R}:=⟨h.z.cg rfl rfl,h.kd,h.e0,h.s1,h.s2,h.rk,h.cl,h.ky,h.ex⟩
theorem T0.af {W:Wd} (h:T0 W) (R:Nat->Int):T0 {W with af:=R}:=TS.other h R W.aa W.aD W.ax
theorem Sx.SZ {W:Wd} (h:Sx W) {R:Nat->Int} (m:MG {W with af:=R}):Sx {W with af:=R}:=SP.snd ⟨h.sp.k.af R,h.sp.t.af R,m,h.sp.d⟩
theorem Sx.R8 {W:Wd} (h:Sx W) {R:Nat->Int} (b:∀i,i<W.ay->0<=R i/\R i<=65535) (h0:∀i,i<W.ay->R i≠W.af i->W.kinds (i/16)≠3/\W.kinds (i/16)≠4):Sx {W with af:=R}:=
 h.SZ (MG.new (k:=0) h.sp.m h.1.z (λ_ _=> .inl rfl) b (λi c e=>⟨h0 i c e,.inr rfl⟩) λ_ _ e=>absurd rfl e)
def vD (W:Wd):Prop:=∀c,c<W.aQ->W.aD c=0
theorem MG.tell {W:Wd} {A:Nat} {v:Int} (h:MG W) (l:vD W) (n:0<=v/\v<=65535) (o:W.kinds (A/16)=4->v -v%1024=32768/\bK W (v%1024)=3) (p:W.kinds (A/16)=3->(v -v%1024=32768\/v -v%1024=49152)/\bK W (v%1024)=2):MG {W with af:=aj W.af A v}:=by
 refine⟨λi g=>?_,λi g b d=>?_,λi g b d=>?_,λc q=>?_⟩
 ·show 0<=aj W.af A v i/\aj W.af A v i<=65535;rcases aT (i=A)with e|e
  ·rw[e,bg];exact n
  ·rw[bh e];exact h.rm i g
 ·have b:aj W.af A v i≠0:=b;show aj W.af A v i -aj W.af A v i%1024=32768/\bK W (aj W.af A v i%1024)=3;rcases aT (i=A)with e|e
  ·rw[e,bg];exact o (by rw[<-e];exact d)
  ·rw[bh e]at b⊢;exact h.e4 i g b d
 ·have b:aj W.af A v i≠0:=b;show(aj W.af A v i -aj W.af A v i%1024=32768\/aj W.af A v i -aj W.af A v i%1024=49152)/\bK W (aj W.af A v i%1024)=2;rcases aT (i=A)with e|e
  ·rw[e,bg];exact p (by rw[<-e];exact d)
  ·rw[bh e]at b⊢;exact h.e3 i g b d
 ·have e:W.aD c=0:=l c q;exact⟨by show W.aD c<=4;omega,λk d=>absurd d (by show¬k<W.aD c;omega),λj k _ d=>absurd d (by show¬k<W.aD c;omega)⟩
theorem Sx.enter {W:Wd} (h:Sx W) (n:vD W) (l:Nat->Int):Sx (oV W l):=by
 cases b:dB W l==0 with
 |false=>rw[pX b];exact h
 |true=>
  rw[zG b];have b:=eq_of_beq b;have z:=h.1.z;have r:=z.af;have t:=z.k1;have m:=h.sp.m;unfold dB at b;cases h1:fY W (l 0) 4==0 with
  |false=>rw[h1]at b;exact absurd b (beq_eq_false_iff_ne.1 h1)
  |true=>
   obtain⟨a1,u,a3⟩:=tP (eq_of_beq h1);rw[h1]at b;cases h2:xL W l with
   |true=>rw[h2]at b;exact absurd (show(2:Int)=0 from b) (by decide)
   |false=>
    rw[h2]at b;have b:(bif W.kinds (l 2).toNat==3 then(bif W.af (fZ l).toNat==0 then 0 else 12)else bif W.kinds (l 2).toNat==2 then(bif W.af (fZ l).toNat==0 then 9 else bif W.af (jN W l).toNat==0 then 0 else 12)else 3)=(0:Int):=b;unfold xL at h2;simp only[bX,decide_eq_false_iff_not]at h2;obtain⟨⟨⟨b1,b2⟩,v⟩,x⟩:=h2;have b1:=dO b1;have b2:=dO b2;have g:(fZ l).toNat/16=(l 0).toNat/\(fZ l).toNat<W.ay:=by unfold fZ;omega
    have ko:∀c:Int,W.kinds (l 2).toNat=c->bK W (l 2)=c:=λc o=>by rw[eY ⟨by omega,by omega⟩];exact o
    refine h.SZ (m.tell n ?_ ?_ ?_)
    ·unfold od;cases W.kinds (l 2).toNat==3
     ·show 0<=32768+l 3*16384+l 2/\32768+l 3*16384+l 2<=65535;omega
     ·show 0<=32768+l 2/\32768+l 2<=65535;omega
    ·unfold qg od;cases q:W.kinds (l 2).toNat==3 with
     |true=>
      show W.kinds ((fZ l).toNat/16)=4->(32768+l 2) -(32768+l 2)%1024=32768/\bK W ((32768+l 2)%1024)=3;have e:(32768+l 2)%1024=l 2:=by omega
      rw[e];exactλ_=>⟨by omega,ko 3 (eq_of_beq q)⟩
     |false=>
      rw[q]at b;cases d:W.kinds (l 2).toNat==2 with
      |false=>rw[d]at b;exact absurd (show(3:Int)=0 from b) (by decide)
      |true=>
       rw[d]at b;cases k:W.af (fZ l).toNat==0 with
       |true=>rw[k]at b;exact absurd (show(9:Int)=0 from b) (by decide)
       |false=>
        obtain⟨c1,i⟩:=m.e4 _ g.2 (beq_eq_false_iff_ne.1 k) (by rw[g.1];exact a3);have p:=gv (W:=W) (f:=W.af (fZ l).toNat%1024) (by rw[i];decide);rw[eY p]at i;have e:(jN W l).toNat/16=(W.af (fZ l).toNat%1024).toNat:=by unfold jN;omega
        show W.kinds ((jN W l).toNat/16)=4->_;rw[e,i];intro j;exact absurd j (by decide)
    ·unfold qg od;cases q:W.kinds (l 2).toNat==3 with
     |true=>show W.kinds ((fZ l).toNat/16)=3->_;rw[g.1,a3];intro j;exact absurd j (by decide)
     |false=>
      rw[q]at b;cases d:W.kinds (l 2).toNat==2 with
      |false=>rw[d]at b;exact absurd (show(3:Int)=0 from b) (by decide)
      |true=>
       show W.kinds ((jN W l).toNat/16)=3->((32768+l 3*16384+l 2) -(32768+l 3*16384+l 2)%1024=32768\/(32768+l 3*16384+l 2) -(32768+l 3*16384+l 2)%1024=49152)/\bK W ((32768+l 3*16384+l 2)%1024)=2;have e:(32768+l 3*16384+l 2)%1024=l 2:=by omega
       rw[e];exactλ_=>⟨by omega,ko 2 (eq_of_beq d)⟩
theorem T0.HP {W:Wd} (h:T0 W) (l:Nat->Int):T0 (oe W l):=by
 cases b:ff W l==0 with
 |false=>rw[xg b];exact h
 |true=>
  rw[Dc b];have b:=eq_of_beq b;have z:=h.z;have zc:=z.c0;unfold ff at b;cases h1:dQ W l 3==0 with
  |false=>rw[h1]at b;exact absurd b (beq_eq_false_iff_ne.1 h1)
  |true=>
   have g:=eq_of_beq h1;rw[h1]at b;have b:(bif decide (l 4<0)||decide ((W.aC:Int)<=l 4)||az (l 5) 3||az (l 6) 3 then 2 else bif (W.tasks (l 0).toNat).st==0 then 0 else 7)=(0:Int):=b;cases h2:decide (l 4<0)||decide ((W.aC:Int)<=l 4)||az (l 5) 3||az (l 6) 3 with
   |true=>rw[h2]at b;exact absurd (show(2:Int)=0 from b) (by decide)
   |false=>
    rw[h2]at b;have hs:(W.tasks (l 0).toNat).st=0:=by
     cases q:(W.tasks (l 0).toNat).st==0 with
     |true=>exact eq_of_beq q
     |false=>rw[q]at b;exact absurd (show(7:Int)=0 from b) (by decide)
    simp only[bX,decide_eq_false_iff_not]at h2;obtain⟨⟨⟨b1,b2⟩,p⟩,t⟩:=h2;have p:=dO p;have t:=dO t;obtain⟨a1,a2,a3⟩:=tP (HR g);have u:(l 0).toNat<W.ak:=by omega
    have step:∀i,dQ W l (i+1)=0->dQ W l i=0/\vG W (l (i+1)) (I1 (i+1))=0:=λi n=>by
     rw[dQ]at n;cases q:dQ W l i==0 with
     |true=>rw[q]at n;exact⟨eq_of_beq q,n⟩
     |false=>rw[q]at n;exact absurd n (beq_eq_false_iff_ne.1 q)
    obtain⟨g2,e3⟩:=step 2 g;obtain⟨A,B⟩:=step 1 g2;obtain⟨_,C⟩:=step 0 A;have ok:∀(f k:Int),vG W f k=0->okF W f k=true:=λf k d=>by
     unfold vG at d;unfold okF;cases q:f== -1 with
     |true=>rfl
     |false=>rw[q]at d;obtain⟨c1,E,G⟩:=tP d;rw[eY ⟨c1,E⟩,G];exact beq_self_eq_true _
    obtain⟨I,J,v⟩:=h.nm _ u a3;obtain⟨p1,y,K⟩:=(h.so _ u a3 id).idle (.inl hs);have key:∀R:aF,R={W.tasks (l 0).toNat with node:=l 1,space:=l 2,helper:=l 3,core:=l 4,prio:=l 5,cI:=l 6}->T0 {W with tasks:=aj W.tasks (l 0).toNat R}:=λR c=>by
     have O:fk W R=false:=by obtain⟨h1,h2,S,T,h5,U,h7⟩:=sk J;rw[c];unfold fk;simp only[bX];exact⟨⟨⟨⟨⟨⟨ej h1,ej h2⟩,ej S⟩,ej T⟩,ej p⟩,ej (by omega)⟩,ej t⟩
     have V:fx W R=true:=by rw[c];unfold fx at v⊢;simp only[aW]at v⊢;exact⟨⟨⟨ok _ _ C,ok _ _ B⟩,ok _ _ e3⟩,v.2⟩
     have X:gV R=false:=by rw[c];exact I
     have ho:R.ar=(W.tasks (l 0).toNat).ar:=by rw[c]
     have rs:R.st=0:=by rw[c];exact hs
     have rl:R.loc= -1:=by rw[c];exact K
     clear c;refine((h.wk (Y:=λf=>f=(l 0).toNat) λ_ d=>d.elim).set (r:=R) u a3 X O V ho (.inl ⟨rfl,p1,y⟩)).lv λf d U j _=>?_;have o:(aj W.tasks (l 0).toNat R f).st=0:=by rw[j,bg];exact rs
     have o1:bV {W with tasks:=aj W.tasks (l 0).toNat R} f=bV W f:=pA ho _;have Z:bV W f=1↔(W.tasks f).st=5:=(h.o1 f d (by rw[j];exact a3)).2 id;have x:(W.tasks f).st=0:=by rw[j];exact hs
     refine⟨?_,?_,λ_=>?_⟩
     ·rw[o1];show bV W f=1↔(aj W.tasks (l 0).toNat R f).st=5;rw[o,Z,x]
     ·refine⟨λe=>?_,λe=>?_,λe=>?_,λ_ _ _ _ _=>⟨by rw[j];exact p1,by rw[j];exact y,?_⟩⟩
      ·have e:(aj W.tasks (l 0).toNat R f).st=2\/(aj W.tasks (l 0).toNat R f).st=3\/(aj W.tasks (l 0).toNat R f).st=4:=e;rw[o]at e;omega
      ·have e:(aj W.tasks (l 0).toNat R f).st=6:=e;rw[o]at e;omega
      ·have e:(aj W.tasks (l 0).toNat R f).st=1:=e;rw[o]at e;omega
      ·show(aj W.tasks (l 0).toNat R f).loc= -1;rw[j,bg];exact rl
     ·show(aj W.tasks (l 0).toNat R f).st≠4;rw[o];decide
    have e:∀R:aF,R={W.tasks (l 0).toNat with node:=l 1,space:=l 2,helper:=l 3,core:=l 4,prio:=l 5,cI:=l 6}->xM W l=aj W.tasks (l 0).toNat R:=λR c=>by rw[c];rfl
    obtain⟨R,c⟩:∃R:aF,R={W.tasks (l 0).toNat with node:=l 1,space:=l 2,helper:=l 3,core:=l 4,prio:=l 5,cI:=l 6}:=⟨_,rfl⟩;rw[e R c];exact key R c
theorem Sx.HP {W:Wd} (h:Sx W) (l:Nat->Int):Sx (oe W l):=h.qe (h.sp.t.HP l) rfl rfl rfl rfl rfl rfl rfl rfl
theorem Tv {b l:Int} (c:0<=b) (hl:1<=l) (h:b+l<=24):dP 1 b l 0 7 0=0:=by
 unfold dP pB pC az;simp only[cond_eq_ite,bne,cM,aW,dT,decide_eq_true_eq,beq_iff_eq,beq_eq_false_iff_ne]
 repeat' split
 all_goals first|rfl|omega
theorem KG.p_ {W:Wd} {B:Nat} {b n:Int} (h:KG (λ_=>False) W) (R:B<W.ao) (x:(W.aa B).kind=0) (I:W.kinds (B/16)=5) (T:0<=b) (U:1<=n) (J:b+n<=W.ak) (y:∀f:Nat,b<=f->(f:Int)<b+n->W.kinds f=0) (K:∀f:Nat,b<=f->(f:Int)<b+n->∀i,i<W.ao->bU (W.aa i) f=false):KG (λ_=>False) {W with aa:=aj W.aa B ⟨1,b,n,0,7,0,-1⟩}:=by
 have z:=h.z;have z1:=z.k1;have u:aj W.aa B (⟨1,b,n,0,7,0,-1⟩:bM) B=⟨1,b,n,0,7,0,-1⟩:=bg
 have ne:∀{i},i≠B->aj W.aa B (⟨1,b,n,0,7,0,-1⟩:bM) i=W.aa i:=λe=>bh e;have A:=h.e0 B R x;have V:∀{i},i<W.ao->(W.aa i).from_≠(B:Int):=λ{i} o e=>by obtain⟨_,_,c,_⟩:=h.full o (by omega);rw[e,cj]at c;exact c x
 have C:∀f:Nat,bU (⟨1,b,n,0,7,0,-1⟩:bM) f=true↔b<=f/\(f:Int)<b+n:=λf=>by rw[sM];exact⟨λh=>⟨h.2.1,h.2.2⟩,λh=>⟨rfl,h.1,h.2⟩⟩
 have E:∀f,bU (W.aa B) f=false:=λf=>by rw[A];rfl
 have X:∀f,cJ (⟨1,b,n,0,7,0,-1⟩:bM) f=false:=λf=>rfl;have S:∀(p:bM->Bool),bD W.ao (λi=>p (aj W.aa B ⟨1,b,n,0,7,0,-1⟩ i))+b1 (p (W.aa B))=bD W.ao (λi=>p (W.aa i))+b1 (p ⟨1,b,n,0,7,0,-1⟩):=λp=>by
  have:=BF (n:=W.ao) (a:=B) (p:=λi=>p (W.aa i)) (v:=p ⟨1,b,n,0,7,0,-1⟩) R;have e:bD W.ao (λi=>p (aj W.aa B ⟨1,b,n,0,7,0,-1⟩ i))=bD W.ao (aj (λi=>p (W.aa i)) B (p ⟨1,b,n,0,7,0,-1⟩)):=hV λi _=>by
   rcases aT (i=B)with e|e
   ·subst e;rw[bg,bg]
   ·rw[bh e,bh e]
  rw[e];exact this
 refine⟨z.cg rfl rfl,h.kd,λi o j=>?_,λi o j=>?_,λi o j=>?_,?_,λf O=>?_,λf O h0=>?_,λi o j t c Y k=>?_⟩
 ·have j:(aj W.aa B ⟨1,b,n,0,7,0,-1⟩ i).kind=0:=j;show aj W.aa B ⟨1,b,n,0,7,0,-1⟩ i=_;rcases aT (i=B)with e|e
  ·subst e;rw[u]at j;exact absurd (show(1:Int)=0 from j) (by decide)
  ·rw[ne e]at j⊢;exact h.e0 i o j
 ·have j:(aj W.aa B ⟨1,b,n,0,7,0,-1⟩ i).kind≠0:=j;show(W.kinds (i/16)=5\/False)/\eA (aj W.aa B ⟨1,b,n,0,7,0,-1⟩ i)=0/\(aj W.aa B ⟨1,b,n,0,7,0,-1⟩ i).base+(aj W.aa B ⟨1,b,n,0,7,0,-1⟩ i).len<=W.ak/\((aj W.aa B ⟨1,b,n,0,7,0,-1⟩ i).kind=1\/W.kinds (aj W.aa B ⟨1,b,n,0,7,0,-1⟩ i).base.toNat=(aj W.aa B ⟨1,b,n,0,7,0,-1⟩ i).kind);rcases aT (i=B)with e|e
  ·subst e;rw[u];exact⟨.inl I,Tv (b:=b) (l:=n) T U (by omega),J,.inl rfl⟩
  ·rw[ne e]at j⊢;exact h.s1 i o j
 ·have j:(aj W.aa B ⟨1,b,n,0,7,0,-1⟩ i).kind≠0:=j;show(aj W.aa B ⟨1,b,n,0,7,0,-1⟩ i).from_= -1\/((0<=(aj W.aa B ⟨1,b,n,0,7,0,-1⟩ i).from_/\(aj W.aa B ⟨1,b,n,0,7,0,-1⟩ i).from_<W.ao)/\dU (aj W.aa B ⟨1,b,n,0,7,0,-1⟩ i) (aj W.aa B ⟨1,b,n,0,7,0,-1⟩ (aj W.aa B ⟨1,b,n,0,7,0,-1⟩ i).from_.toNat)=true);rcases aT (i=B)with e|e
  ·subst e;rw[u];exact .inl rfl
  ·rw[ne e]at j⊢;refine(h.s2 i o j).imp_right λg=>⟨g.1,?_⟩;rw[ne λG=>V o (by omega)];exact g.2
 ·obtain⟨r,Z⟩:=h.rk;refine⟨r,λi o h0=>?_⟩;have h0:0<=(aj W.aa B ⟨1,b,n,0,7,0,-1⟩ i).from_:=h0;show r (aj W.aa B ⟨1,b,n,0,7,0,-1⟩ i).from_.toNat<r i;rcases aT (i=B)with e|e
  ·subst e;rw[u]at h0;exact absurd (show(0:Int)<= -1 from h0) (by decide)
  ·rw[ne e]at h0⊢;exact Z i o h0
 ·show bD W.ao (λi=>bU (aj W.aa B ⟨1,b,n,0,7,0,-1⟩ i) f)<=1;have e:=S λs=>bU s f;have e:bD W.ao (λi=>bU (aj W.aa B ⟨1,b,n,0,7,0,-1⟩ i) f)+b1 (bU (W.aa B) f)=bD W.ao (λi=>bU (W.aa i) f)+b1 (bU (⟨1,b,n,0,7,0,-1⟩:bM) f):=e;cases q:bU (⟨1,b,n,0,7,0,-1⟩:bM) f with
  |false=>rw[q,E]at e;have:=h.cl f O;unfold b1 at e;simp only[cond_false]at e;omega
  |true=>have q:=(C f).1 q;have e0:bD W.ao (λi=>bU (W.aa i) f)=0:=kJ.2 λi o=>K f q.1 q.2 i o;rw[(C f).2 q,E,e0]at e;unfold b1 at e;simp only[cond_true,cond_false]at e;omega
 ·obtain⟨a,d⟩:=h.ky f O h0;refine⟨?_,λi o=>?_⟩
  ·show 0<bD W.ao (λi=>cJ (aj W.aa B ⟨1,b,n,0,7,0,-1⟩ i) f);have e:=S λs=>cJ s f;have e:bD W.ao (λi=>cJ (aj W.aa B ⟨1,b,n,0,7,0,-1⟩ i) f)+b1 (cJ (W.aa B) f)=bD W.ao (λi=>cJ (W.aa i) f)+b1 (cJ (⟨1,b,n,0,7,0,-1⟩:bM) f):=e;rw[X f,A,show cJ fm f=false from rfl]at e;omega
  ·show gL (aj W.aa B ⟨1,b,n,0,7,0,-1⟩ i) f=false;rcases aT (i=B)with e|e
   ·subst e;rw[u];unfold gL;cases q:bU (⟨1,b,n,0,7,0,-1⟩:bM) f with
    |false=>rfl
    |true=>exact absurd (y f ((C f).1 q).1 ((C f).1 q).2) h0
   ·rw[ne e];exact d i o
 ·have j:(aj W.aa B ⟨1,b,n,0,7,0,-1⟩ i).kind≠0:=j;have t:(aj W.aa B ⟨1,b,n,0,7,0,-1⟩ i).kind≠1:=t;have k:bU (aj W.aa B ⟨1,b,n,0,7,0,-1⟩ c) (aj W.aa B ⟨1,b,n,0,7,0,-1⟩ i).base.toNat=true:=k;show(aj W.aa B ⟨1,b,n,0,7,0,-1⟩ i).from_≠ -1;rcases aT (i=B)with e|e
  ·subst e;rw[u]at t;exact absurd rfl t
  ·rw[ne e]at j t k⊢;rcases aT (c=B)with G|G
   ·rw[G,u]at k;have q:=(C _).1 k;obtain⟨_,_,_,g⟩:=h.s1 i o j;rcases g with g|g
    ·exact absurd g t
    ·rw[y _ q.1 q.2]at g;exact absurd g.symm j
   ·rw[ne G]at k;exact h.ex i o j t c Y k
theorem Sx.p_ {W:Wd} (h:Sx W) (l:Nat->Int):Sx (oX W l):=by
 cases c:eM W l==0 with
 |false=>rw[tJ c];exact h
 |true=>
  rw[Dd c];have c:=eq_of_beq c;unfold eM at c;cases h1:xN W l with
  |true=>rw[h1]at c;exact absurd (show(2:Int)=0 from c) (by decide)
  |false=>
   rw[h1]at c;have c:(bif gA W (l 0)==0 then bif dw (l 2).toNat (λk=>!km W ((l 1).toNat+k))then 0 else 7 else gA W (l 0))=(0:Int):=c;cases h2:gA W (l 0)==0 with
   |false=>rw[h2]at c;exact absurd c (beq_eq_false_iff_ne.1 h2)
   |true=>
    rw[h2]at c;obtain⟨o1,d,e⟩:=OL (eq_of_beq h2);have g:dw (l 2).toNat (λk=>!km W ((l 1).toNat+k))=true:=by
     cases q:dw (l 2).toNat (λk=>!km W ((l 1).toNat+k))with
     |true=>rfl
     |false=>rw[q]at c;exact absurd (show(7:Int)=0 from c) (by decide)
    unfold xN at h1;simp only[bX,decide_eq_false_iff_not]at h1;obtain⟨⟨⟨⟨a1,p⟩,a3⟩,a4⟩,r⟩:=h1;have key:∀f:Nat,l 1<=f->(f:Int)<l 1+l 2->W.kinds f=0/\∀i,i<W.ao->bU (W.aa i) f=false:=λf j n=>by have:=fL.1 g (f -(l 1).toNat) (by omega);rw[show(l 1).toNat+(f -(l 1).toNat)=f by omega]at this;unfold km at this;simp only[zf,aW,dT,bne_eq_false_iff_eq,zg]at this;exact⟨this.1,λi o=>by have q:=fL.1 this.2 i o;rw[dT]at q;exact q⟩
    exact h.I2 (h.sp.k.p_ (B:=(l 0).toNat) (by omega) d e (by omega) (by omega) (by omega) (λf a b=>(key f a b).1) λf a b=>(key f a b).2) rfl rfl rfl rfl rfl rfl rfl rfl rfl rfl rfl rfl rfl rfl
theorem Sx.put {W:Wd} (h:Sx W) (l:Nat->Int):Sx (xO W l):=by
 cases b:gS W l==0 with
 |false=>rw[De b];exact h
 |true=>
  rw[Q8 b];have b:=eq_of_beq b;have j:=h.1.z.af;unfold gS at b;cases h1:fY W (l 0) 2==0 with
  |false=>rw[h1]at b;exact absurd b (beq_eq_false_iff_ne.1 h1)
  |true=>
   obtain⟨a1,k,a3⟩:=tP (eq_of_beq h1);rw[h1]at b;cases h2:az (l 1) 15 with
   |true=>rw[h2]at b;exact absurd (show(2:Int)=0 from b) (by decide)
   |false=>
    rw[h2]at b;cases d:az (l 2) 65535 with
    |true=>rw[d]at b;exact absurd (show(1:Int)=0 from b) (by decide)
    |false=>
     have h2:=dO h2;have d:=dO d;refine h.R8 (λi g=>?_) λi g c=>?_
     ·rcases aT (i=(l 0*16+l 1).toNat)with e|e
      ·rw[e,bg];exact d
      ·rw[bh e];exact h.sp.m.rm i g
     ·rcases aT (i=(l 0*16+l 1).toNat)with e|e
      ·rw[show i/16=(l 0).toNat by omega,a3];decide
      ·rw[bh e]at c;exact absurd rfl c
theorem VH {n j k:Nat} {f:Nat->Int} (b:j<k) (c:k<n) (h:f j=f k):2<=cf n f (f k):=by have:=K4 (n:=n) (f:=f) (x:=f k) c;have p:0<cf (n -1) (lV f k) (f k):=Fy (k:=j) (by omega) (by unfold lV;rw[mV b];exact h);rw[beq_self_eq_true]at this;unfold b1 at this;simp only[cond_true]at this;omega
theorem OM {n m:Nat} {f:Nat->Int} (h:∀k,k<n->0<=f k/\f k<m) (h1:∀k,k<n->cf n f (f k)<=1):n<=m:=
 Hc (λk=>(f k).toNat) (λk g=>by have:=h k g;omega) λi j c d e=>by have a:=h i (by omega);have b:=h j d;have e:(f i).toNat=(f j).toNat:=e;have:=VH c d (show f i=f j by omega);have:=h1 j d;omega
theorem T0.one {W:Wd} (h:T0 W) {t:Nat} (d:t<W.ak) (g:W.kinds t=6):cB W t<=1/\cu W t<=1:=by
 have p:=h.so t d g id;rcases aT ((W.tasks t).st=2\/(W.tasks t).st=3\/(W.tasks t).st=4)with e|e
 ·have:=p.dr e;omega
 rcases aT ((W.tasks t).st=6)with b|b
 ·have:=p.bl b;omega
 rcases aT ((W.tasks t).st=1)with c|c
 ·have:=p.rd c;omega
 ·have:=p.no c (by omega) (by omega) (by omega) b;omega
theorem bI.sm {W:Wd} (h:bI W):Sm W:=by
 have z:=h.z;have t:=h.t0;obtain⟨u,v,z3,z4,y,A,B,C,E,g,j,z12,p,q,r⟩:=z;refine⟨by omega,by omega,by omega,by omega,by omega,by omega,by omega,by omega,by omega,by omega,λi e=>?_,λi e=>?_,λi e=>?_⟩
 ·have hl:=(dY.1 (h.ln i (by omega))).2.2.2;have:=OM (n:=W.ah i) (m:=W.ak) (f:=W.lines i) (λk d=>(hl k d).1) λk d=>by obtain⟨a,b,_⟩:=hl k d;have o:=(t.one (t:=(W.lines i k).toNat) (by omega) b).1;have c:=JQ (n:=W.aX) (a:=i) (ln:=W.ah) (l:=W.lines) (x:=W.lines i k) e;unfold cB at o;rw[zh a.1]at o;omega
  omega
 ·have hl:=iG.1 (h.rl i (by omega));have:=OM (n:=W.al i) (m:=W.ak) (f:=W.ready i) (λk d=>(hl k d).1) λk d=>by obtain⟨a,b,_⟩:=hl k d;have o:=(t.one (t:=(W.ready i k).toNat) (by omega) b).2;have c:=JQ (n:=W.aR) (a:=i) (ln:=W.al) (l:=W.ready) (x:=W.ready i k) e;unfold cu at o;rw[zh a.1]at o;omega
  omega
 ·have:=(h.mg.tl i e).1;omega
theorem bI.tn {W:Wd} (h:bI W):oc W:=⟨(pM h h.sm).mono (by decide)⟩
theorem bI.mkp {W:Wd} (h:bI W):xP W:=by have I:=pM h h.sm;refine⟨h.z.k0,h.z.k1,h.z.af,h.z.aa,λi b d=>?_⟩;obtain⟨c,g2,_⟩:=I.sl i b;have e:=iY c;have:=g2 (by omega);omega
theorem Sx.new {n:Nat} {f:Nat->ByteArray} (hp:Ej n f):Sx (jo n f)/\vD (jo n f):=by
 obtain⟨-,-,-,A,r⟩:=hp;unfold oN at r;rw[aW,dT]at r;obtain⟨u,t⟩:=r;have B:1<=bC (f 0)/\bC (f 0)<=24/\1<=bC (f 1)/\bC (f 1)<=4/\1<=n -2/\n -2<=8:=by unfold xd at u;simp only[bX,decide_eq_false_iff_not]at u;omega
 have t:=bP t;have v:∀i,i<n -2->az (qf f i) 3=false:=λi d=>by
  cases e:az (qf f i) 3 with
  |false=>rfl
  |true=>have:=qC (p:=λi=>az (qf f i) 3) d e;unfold Db at t;omega
 have q:∀g:Nat,(bif Nat.beq g 0 then(5:Int)else 0)≠6:=λg=>by cases Nat.beq g 0<;>decide
 have s0:∀i,i≠0->(jo n f).aa i=xc:=λi d=>by show(bif Nat.beq i 0 then _ else _)=_;rw[oY d];rfl
 have z:bQ (jo n f):=by
  refine⟨?_,?_,?_,?_,?_,?_,?_,?_,?_,?_,?_,?_,?_,?_,?_⟩
  all_goals (dsimp only[jo,zF];try omega)
 have pos:∀i,i<(jo n f).ao->((jo n f).aa i).kind≠0->i=0:=λi _ b=>tq λe=>b (by rw[s0 i e];rfl);refine⟨SP.snd ⟨?_,?_,?_,v⟩,λ_ _=>rfl⟩
 ·refine⟨z,λg _=>?_,λi d b=>?_,λi d b=>?_,λi d b=>?_,⟨λ_=>0,λi d h0=>?_⟩,λg x=>?_,λg x h0=>?_,λi d b y c C o=>?_⟩
  ·show 0<=(bif Nat.beq g 0 then(5:Int)else 0)/\(bif Nat.beq g 0 then(5:Int)else 0)<=8/\(bif Nat.beq g 0 then(5:Int)else 0)≠1;cases Nat.beq g 0<;>decide
  ·rcases aT (i=0)with e|e
   ·subst e;exact absurd (show(5:Int)=0 from b) (by decide)
   ·rw[s0 i e];rfl
  ·obtain rfl:=pos i d b;refine⟨.inl rfl,(by show eA (⟨5,0,1,0,7,0,-1⟩:bM)=0;decide),?_,.inr rfl⟩;show(0:Int)+1<=((bC (f 0)).toNat:Int);omega
  ·obtain rfl:=pos i d b;exact .inl rfl
  ·rcases aT (i=0)with e|e
   ·subst e;exact absurd (show(0:Int)<= -1 from h0) (by decide)
   ·rw[s0 i e]at h0;exact absurd (show(0:Int)<= -1 from h0) (by decide)
  ·have:bD (jo n f).ao (λi=>bU ((jo n f).aa i) g)=0:=kJ.2 λi _=>by
    rcases aT (i=0)with e|e
    ·subst e;rfl
    ·rw[s0 i e];rfl
   omega
  ·obtain rfl:g=0:=tq λe=>h0 (by show(bif Nat.beq g 0 then(5:Int)else 0)=0;rw[oY e];rfl);refine⟨qv (i:=0) (by have:=z.aa;have:=z.k0;omega) rfl,λi _=>?_⟩;rcases aT (i=0)with e|e
   ·subst e;rfl
   ·rw[s0 i e];rfl
  ·have:bU ((jo n f).aa c) ((jo n f).aa i).base.toNat=false:=by
    rcases aT (c=0)with e|e
    ·subst e;rfl
    ·rw[s0 c e];rfl
   rw[this]at o;cases o
 ·refine⟨z,λg _ _=>rfl,λg _ l=>absurd l (q g),λg _ l=>absurd l (q g),λg _ l=>absurd l (q g),λg _ l=>absurd l (q g),λg _=>?_,λc _=>rfl,λi _=>rfl⟩;refine dY.2 ⟨λh=>absurd h (dS _),λh=>absurd rfl h,⟨oF 0,(by decide:(0:Int)<=65535)⟩,λk b=>absurd b (dS _)⟩
 ·exact⟨λi _=>⟨oF 0,(by decide:(0:Int)<=65535)⟩,λi _ h0=>absurd rfl h0,λi _ h0=>absurd rfl h0,λc _=>⟨gf _,λk b=>absurd b (dS _),λj k _ b=>absurd b (dS _)⟩⟩
def jQ (i:Nat):ByteArray:=⟨(([[112,97,103,101],[116,97,98,108,101],[115,112,97,99,101],[110,111,100,101],[116,97,115,107],[100,111,111,114],[98,101,108,108]]:List (List UInt8)).getD i []).toArray⟩
def mS:Nat->SV:=λg=>bif Nat.beq g 1 then .pt false 1 (λ_=> .sl false 1 7 λi _=> .v (.string (jQ i)))else .aI
theorem iE:∀g,bk g=mS g\/bk g= .aI:=λ_=> .inr rfl
def jy:ByteArray:={data:= #[109,97,107,101]}
def jz:ByteArray:={data:= #[99,108,97,121]}
def kc:ByteArray:={data:= #[112,117,116]}
def j_:ByteArray:={data:= #[99,111,112,121]}
def kT:ByteArray:={data:= #[101,110,116,101,114]}
def lE:ByteArray:={data:= #[101,113,117,105,112]}
def yR:ByteArray:={data:= #[115,116,97,114,116]}
def ba (a b:ByteArray):Bool:=a.toList==b.toList
def bS (f:Nat->ByteArray) (k:Nat) (i:Nat):Int:=bC (f (k+i))
def kx (x:ByteArray):Nat:=dz 7 λj=>ba (jQ j) x
def ju (x:ByteArray):Int:=bif ba x jz||ba x kc then 3 else bif ba x j_||ba x kT then 4 else bif ba x lE then 7 else bif ba x yR then 1 else -1
def eV (n:Nat) (f:Nat->ByteArray):Int:=
 bif ba (f 0) jy then(bif Nat.beq n 5 then bif Nat.beq (kx (f 1)) 7 then 11 else gH (n -2) (λj=>f (2+j))else 10)else
 bif decide (ju (f 0)<0)then 11 else bif gH (n -1) (λj=>f (1+j))==0 then bif ((n -1:Nat):Int)==ju (f 0)then 0 else 10 else gH (n -1) (λj=>f (1+j))
def gm (W:Wd) (n:Nat) (f:Nat->ByteArray):Int:=
 bif eV n f==0 then
  bif ba (f 0) jy then dH W (bS f 2 0) (2+(kx (f 1):Int)) (bS f 2 1) (bS f 2 2)else
  bif ba (f 0) jz then eM W (bS f 1)else bif ba (f 0) kc then gS W (bS f 1)else
  bif ba (f 0) j_ then gd W (bS f 1 0) (bS f 1 1) (bS f 1 2) (bS f 1 3)else
  bif ba (f 0) kT then dB W (bS f 1)else bif ba (f 0) lE then ff W (bS f 1)else hB W (bS f 1 0)
 else eV n f
def nY (W:Wd) (n:Nat) (f:Nat->ByteArray):Wd:=
 bif eV n f==0 then
  bif ba (f 0) jy then oZ W (bS f 2 0) (2+(kx (f 1):Int)) (bS f 2 1) (bS f 2 2)else
  bif ba (f 0) jz then oX W (bS f 1)else bif ba (f 0) kc then xO W (bS f 1)else
  bif ba (f 0) j_ then qi W (bS f 1 0) (bS f 1 1) (bS f 1 2) (bS f 1 3)else
  bif ba (f 0) kT then oV W (bS f 1)else bif ba (f 0) lE then oe W (bS f 1)else jG W (bS f 1 0)
 else W
def ia (W:Wd) (n:Nat) (f:Nat->ByteArray):Wd:=match W.time with| .ofNat _=>nY W n f| .negSucc _=>nY W n f
theorem qR (W:Wd) (n:Nat) (f:Nat->ByteArray):ia W n f=nY W n f:=by unfold ia;cases W.time<;>rfl
theorem z_ (A:Wd):aB A A True:=by
 unfold aB
 repeat' (first|exact trivial|rfl|exact b|exact c|exact d|refine And.intro ?_ ?_|intro _)
theorem mL {A B:Wd} (h:A=B):aB A B True:=by subst h;exact z_ A
theorem xy {W:Wd} {n:Nat} {f:Nat->ByteArray} {e:Int} (b:eV n f=e) (c:e≠0):e=gm W n f/\aB W (ia W n f) True:=by
 have h:(eV n f==0)=false:=by rw[b];exact beq_eq_false_iff_ne.2 c
 refine⟨?_,mL ?_⟩
 ·unfold gm;rw[h,b];rfl
 ·rw[qR];unfold nY;rw[h];rfl
theorem Ip {n:Nat} {f:Nat->ByteArray} (h:gH n f=0):oo n f=n:=by
 unfold gH at h;unfold oo;cases q:dw n (λi=>jt (f i))with
 |true=>rfl
 |false=>rw[q]at h;cases h
theorem aap (s:ByteArray): -1<=bC s/\bC s<=99999:=by
 unfold bC;cases q:Nat.beq s.size 0||decide (5<s.size)||(gp s 0==48&&decide (1<s.size))with
 |true=>show(-1:Int)<= -1/\(-1:Int)<=99999;decide
 |false=>
  cases r:dw s.size (me s)with
  |false=>show(-1:Int)<= -1/\(-1:Int)<=99999;decide
  |true=>
   simp only[bX,decide_eq_false_iff_not]at q;have b:s.size<=5:=by omega
   have g:=Hz b λj c=>fL.1 r j c;have hp:(10:Int)^s.size<=10^5:=by rcases(show s.size=0\/s.size=1\/s.size=2\/s.size=3\/s.size=4\/s.size=5 by omega)with e|e|e|e|e|e<;>rw[e]<;>decide
   have d:(10:Int)^5=100000:=by decide
   show -1<=mf s s.size/\mf s s.size<=99999;omega
def acy (f:Nat->ByteArray):cQ where
 σ:=Nat
 rt:= []
 sh i:= [(0,cm 0),(5,.v (.int .i64 i))]
 mh _:= []
 inv i:=i<=7/\∀j,j<i->ba (jQ j) (f 1)=false
 μ i:=7 -i
 init:=0
def aaq (W:Wd) (f:Nat->ByteArray):Cut where
 σ:=Int
 rt:= []
 sh v:= [(0,cm 0),(8,.v (.int .i64 v))]
 mem _:=cL W
 inv v:=v=ju (f 0)
 dec F _:=av (F 8)
structure JX where
 (n:Nat) (f:Nat->ByteArray) (W:Wd)
def JY:Sy.Spec:=⟨JX,λ⟨n,f,_⟩=> [.ptr 0 0 none 0 0,.sl true 1 n (λb _=> .v (.string (f b)))],λ⟨_,_,W⟩=>cL W,λ⟨n,f,W⟩=>bI W/\xP W/\oc W/\1<=n/\n<=4000/\∀i,i<n->(f i).size<=4000,λ⟨n,f,W⟩=> .v (.int .i64 (gm W n f)),λ⟨n,f,W⟩=>cL (ia W n f),
 λargs mem=>match args with| [a0,a1]=>some ⟨bT a1,λi=>tN (bO a1 i 0),fW mem 0⟩|_=>none⟩
def Uc:aZ:=⟨[true],(JY).g,none⟩
def JZ:JX->Prop:=λ⟨n,f,W⟩=>let a0:=(0:Int)<=0;let b0:=(n:Int);let c0:=a0/\0<b0;let d0:=Int.toNat 0;let e0:=ByteArray.toList (f d0);let B:=e0==ByteArray.toList (ByteArray.mk (List.toArray [(109:UInt8),97,107,101]));let h0:=gm W n f;let k0:=ia W n f;let q:=aB W k0 True;let o0:=10=h0/\q;let C:=SV.ptr 0 0 none 0 0;let r0:=C=C;let c:=aB W W True;let v0:=((7:Nat):Int);let w0:=(0:Int)<=1;let b:=Int.toNat 1;let y0:=ByteArray.toList (f b);let z0:=11=h0/\q;let a1:=(0:Int)<=2;let b1:=b0<=b0;let c1:=Int.toNat 2;let d1:=Int.toNat b0-c1;let E:=gH d1 (λg1:Nat=>f (c1+g1));let h1:=E !=0;let k1:=((oo d1 (λl1:Nat=>f (c1+l1)):Nat):Int);let o1:=bC (f (c1+d0));let i:=bC (f (c1+b));let r1:=bC (f (c1+c1));let G:=e0==ByteArray.toList (ByteArray.mk (List.toArray [(99:UInt8),108,97,121]));let v1:=G=true;let w1:=ju (f 0);let I:=r0/\(3:Int)=3/\c/\3=w1;let t:=G=false;let J:=e0==ByteArray.toList (ByteArray.mk (List.toArray [(99:UInt8),111,112,121]));let u:=J=true;let b2:=r0/\(4:Int)=4/\c/\4=w1;let v:=J=false;let d2:=e0==ByteArray.toList (ByteArray.mk (List.toArray [(101:UInt8),113,117,105,112]));let K:=d2=true;let g2:=d2=false;let h2:=e0==ByteArray.toList (ByteArray.mk (List.toArray [(115:UInt8),116,97,114,116]));let k2:=(K->r0/\(7:Int)=7/\c/\7=w1)/\(g2->(h2=true->r0/\(1:Int)=1/\c/\1=w1)/\(h2=false->r0/\((-1):Int)=(-1)/\c/\(-1)=w1));let l2:=e0==ByteArray.toList (ByteArray.mk (List.toArray [(101:UInt8),110,116,101,114]));let O:=l2=true;let R:=l2=false;let r2:=(u->(u->b2)/\(v->k2))/\(v->(O->b2)/\(R->k2));
 let S:=e0==ByteArray.toList (ByteArray.mk (List.toArray [(112:UInt8),117,116]));let T:=S=true;let U:=S=false;let j:=Int.toNat b0-b;let V:=gH j (λz2:Nat=>f (b+z2));let a3:=V !=0;let g:=oo j (λc3:Nat=>f (b+c3));let k:=(g:Int);let e3:=r0/\(g=g/\(∀x:Nat,x<g->True/\bC (f (b+x))=bC (f (b+x))))/\True;let X:=g=3;let Y:=a0/\0<k;let d:=bC (f (b+d0));let Z:=d=d;let l:=bC (f (b+b));let r3:=bC (f (b+c1));let o:=bC (f (b+Int.toNat 3));c0/\(B=true->b0<=9223372036854775807->((b0 !=5)=true->o0)/\((b0 !=5)=false->r0/\0=((0:Nat):Int)/\c/\(0<=7/\(∀v3:Nat,v3<0->ba (jQ v3) (f 1)=false))/\(∀r:Nat,let h:=(r:Int);let y3:=decide (h<v0);let z3:=y3=true;let a4:=cond y3 (ByteArray.toList (jQ (Int.toNat h)) !=y0) false;let y:Int:=h+1;let e:Int:=2+h;r<=7/\(∀d4:Nat,d4<r->ba (jQ d4) (f 1)=false)->tn 7 ((z3->0<=h/\h<v0)/\tn 2 ((z3->w0/\1<b0)/\True/\(a4=true->aw y=y/\(∃e4:Nat,r0/\y=(e4:Int)/\c/\(e4<=7/\(∀g4:Nat,g4<e4->ba (jQ g4) (f 1)=false))/\7-e4<7-r))/\(a4=false->v0<=9223372036854775807->((h==v0)=true->z0)/\((h==v0)=false->(a1/\2<=b0/\b1)/\(((d1=d1/\(∀z:Nat,z<d1->True/\f (c1+z)=f (c1+z)))/\True)/\True/\d1<=4000/\(∀k4:Nat,k4<d1->ByteArray.size (f (c1+k4))<=4000))/\(h1=true->E=h0/\q)/\(h1=false->tn 2 ((a0/\0<k1)/\tn 2 (aw e=e/\True/\(w0/\1<k1)/\tn 2 ((a1/\2<k1)/\True/\((r0/\o1=o1/\e=e/\i=i/\r1=r1/\True)/\c/\Gz.match_1 (λl4:Co=>Prop) (Co.mk o1 e i r1 W) (λo4:Int=>λq4:Int=>λr4:Int=>λu4:Int=>λv4:Wd=>xP v4))/\dH W o1 e i r1=h0/\
 aB {W with af:=jH W o1 e i r1,kinds:=jI W o1 e i r1,aa:=iK W o1 e i r1} k0 True)))))))))))/\(B=false->(c0/\(v1->(v1->I)/\(t->r2))/\(t->(T->I)/\(U->r2)))/\(∀p:Int,p=w1->(decide (p<0)=true->z0)/\(decide (p<0)=false->(w0/\1<=b0/\b1)/\(((j=j/\(∀A:Nat,A<j->True/\f (b+A)=f (b+A)))/\True)/\True/\j<=4000/\(∀y4:Nat,y4<j->ByteArray.size (f (b+y4))<=4000))/\(a3=true->V=h0/\q)/\(a3=false->k<=9223372036854775807->((k !=p)=true->o0)/\((k !=p)=false->c0/\(v1->(e3/\c/\bI W/\X/\(∀z4:Nat,z4<g->(-1)<=bC (f (b+z4))/\bC (f (b+z4))<=99999))/\eM W (λa5:Nat=>bC (f (b+a5)))=h0/\aB {W with aa:=kK W (λb5:Nat=>bC (f (b+b5)))} k0 True)/\(t->(T->(e3/\c/\bQ W/\X)/\gS W (λc5:Nat=>bC (f (b+c5)))=h0/\aB {W with af:=lD W (λd5:Nat=>bC (f (b+d5)))} k0 True)/\(U->(u->tn 2 (Y/\tn 2 ((w0/\1<k)/\tn 2 ((a1/\2<k)/\tn 2 (((0:Int)<=3/\3<k)/\True/\((r0/\Z/\l=l/\r3=r3/\o=o/\True)/\c/\E9.match_1 (λe5:Bo=>Prop) (Bo.mk d l r3 o W) (λg5:Int=>λh5:Int=>λk5:Int=>λl5:Int=>λo5:Wd=>bI o5))/\gd W d l r3 o=h0/\aB {W with aa:=om W d l r3 o} k0 True)))))/\(v->(O->(e3/\c/\bI W/\g=4)/\dB W (λq5:Nat=>bC (f (b+q5)))=h0/\aB {W with af:=jb W (λr5:Nat=>bC (f (b+r5)))} k0 True)/\(R->(K->(e3/\c/\bQ W/\g=7)/\ff W (λu5:Nat=>bC (f (b+u5)))=h0/\aB {W with tasks:=lx W (λv5:Nat=>bC (f (b+v5)))} k0 True)/\(g2->Y/\((r0/\Z/\True)/\c/\qm.match_1 (λw5:kD=>Prop) (kD.mk d W) (λx5:Int=>λy5:Wd=>oc y5))/\
 hB W d=h0/\aB {W with tasks:=iW W d,al:=iV W d,ready:=iX W d} k0 True))))))))))
set_option maxHeartbeats 1000000 in
theorem TE:aY Tryz.prog mS 42 Uc:=bn (.cons (Js.up iE) (.cons (Mi.up iE) (.cons (WL.up iE) (.cons (WQ.up iE) (.cons (Yv.up iE) (.cons (T_.up iE) (.cons (Vg.up iE) (.cons (Vf.up iE) .nil)))))))) false Tryz.call42 Tryz.func42 (λ⟨_,f,W⟩=> [.inv (acy f),.cut 25 (aaq W f)]) (V:=JZ) (λ_=>by kernel_rfl) λ⟨n,f,W⟩ hp=>by
 dsimp only[JY]at hp;dsimp only[JZ,tn,aw];simp only[bq,bx,eq_self,implies_true,bo];obtain⟨K,hm,ht,h1,h2,Y⟩:=hp;have t0:Int.toNat 0=0:=rfl;have t1:Int.toNat 1=1:=rfl;have t2:Int.toNat 2=2:=rfl;have t3:Int.toNat 3=3:=rfl;have A:=z_ W;have S:aB W W True=True:=eq_true A;have B:((f 0).toList==({data:= #[109,97,107,101]}:ByteArray).toList)=ba (f 0) jy:=rfl;have C:((f 0).toList==({data:= #[99,108,97,121]}:ByteArray).toList)=ba (f 0) jz:=rfl;have I:((f 0).toList==({data:= #[112,117,116]}:ByteArray).toList)=ba (f 0) kc:=rfl;have E:((f 0).toList==({data:= #[99,111,112,121]}:ByteArray).toList)=ba (f 0) j_:=rfl;have t:((f 0).toList==({data:= #[101,110,116,101,114]}:ByteArray).toList)=ba (f 0) kT:=rfl;have u:((f 0).toList==({data:= #[101,113,117,105,112]}:ByteArray).toList)=ba (f 0) lE:=rfl;have x:((f 0).toList==({data:= #[115,116,97,114,116]}:ByteArray).toList)=ba (f 0) yR:=rfl;simp only[t0,t1,t2,t3,B,C,I,E,t,u,x]
 refine⟨by omega,λh _=>⟨λO=>?_,λO=>?mk⟩,λh=>⟨⟨by omega,?lf⟩,λw T=>?ds⟩⟩
 ·refine xy (e:=10) ?_ (by decide);have:Nat.beq n 5=false:=oY λe=>by rw[e]at O;cases O
  unfold eV;rw[h,this];rfl
 case mk=>
  obtain rfl:n=5:=by have:(n:Int)=5:=by simpa using O
                     omega
  have l:eV 5 f=bif Nat.beq (kx (f 1)) 7 then 11 else gH 3 (λj=>f (2+j)):=by unfold eV;rw[h];rfl
  refine⟨A,λk U=>⟨λq=>of_decide_eq_true q,λ_=>by omega,λc=>?_,λc _=>?_⟩⟩
  ·rw[aW]at c;have jl:k<7:=by have:=of_decide_eq_true c.1;omega
   refine⟨dx (by omega) (by omega),k+1,by omega,A,⟨by omega,λj hj=>?_⟩,by omega⟩;rcases bR j k with q|q
   ·exact U.2 j q
   ·rw[show j=k by omega];have:=c.2;have:(!ba (jQ k) (f 1))=true:=this;simpa using this
  have Z:kx (f 1)=k:=by
   rcases bR k 7 with q|q
   ·rw[decide_eq_true (show(k:Int)<((7:Nat):Int) by omega)]at c;have c:(!ba (jQ k) (f 1))=false:=c;exact qE (p:=λj=>ba (jQ j) (f 1)) U.2 (by simpa using c) q
   ·obtain rfl:k=7:=by omega
    exact qt (p:=λj=>ba (jQ j) (f 1)) U.2
  rw[Z]at l;refine⟨λo=>?_,λo=>?_⟩
  ·have o:k=7:=by have:=eq_of_beq o;omega
   rw[o]at l;exact xy l (by decide)
  have o:Nat.beq k 7=false:=oY λe=>by rw[e]at o;cases o
  rw[o]at l;have l:eV 5 f=gH 3 (λj=>f (2+j)):=l;refine⟨by omega,⟨by omega,λi hi=>Y _ (by omega)⟩,λy=>xy l (by simpa using y),λy=>?_⟩;have y:gH 3 (λj=>f (2+j))=0:=by simpa using y
  have R:=Ip y;have R:(oo (5 -2) λg=>f (2+g))=3:=R;rw[R];rw[y]at l;have gE:gm W 5 f=bif ba (f 0) jy then dH W (bS f 2 0) (2+(kx (f 1):Int)) (bS f 2 1) (bS f 2 2)else gm W 5 f:=by rw[h];unfold gm;rw[l,h];rfl
  have d:ia W 5 f=bif ba (f 0) jy then oZ W (bS f 2 0) (2+(kx (f 1):Int)) (bS f 2 1) (bS f 2 2)else ia W 5 f:=by rw[h];rw[qR];unfold nY;rw[l,h];rfl
  rw[h,Z]at gE d;exact⟨by omega,dx (by omega) (by omega),by omega,by omega,⟨A,hm⟩,gE.symm,mL d.symm⟩
 case lf=>
  simp only[S,true_and];refine⟨?_,?_⟩<;>repeat' (first|(refine And.intro ?_ ?_)|intro _)
  all_goals (first|(simp[ju, *];done)|(exfalso;simp_all;done))
 subst T;refine⟨λc=>?_,λc=>⟨by omega,⟨by omega,λi hi=>Y _ (by omega)⟩,λo=>?_,λo _=>⟨λy=>?_,λy=>?_⟩⟩⟩
 ·exact xy (e:=11) (by unfold eV;rw[h,c];rfl) (by decide)
 ·have r:(gH (n -1) (λj=>f (1+j))==0)=false:=by simpa using o
  exact xy (by unfold eV;rw[h,c,r];rfl) (by simpa using o)
 all_goals have r:(gH (n -1) (λj=>f (1+j))==0)=true:=by simpa using o
 all_goals rw[Ip (eq_of_beq r)]at y
 ·have G:(((n -1:Nat):Int)==ju (f 0))=false:=by simpa using y
  exact xy (e:=10) (by unfold eV;rw[h,c,r,G];rfl) (by decide)
 have G:(((n -1:Nat):Int)==ju (f 0))=true:=by simpa using y
 have l:(eV n f==0)=true:=by
  have:eV n f=0:=by unfold eV;rw[h,c,r,G];rfl
  rw[this];rfl
 have gE:gm W n f=bif ba (f 0) jz then eM W (bS f 1)else bif ba (f 0) kc then gS W (bS f 1)else
  bif ba (f 0) j_ then gd W (bS f 1 0) (bS f 1 1) (bS f 1 2) (bS f 1 3)else
  bif ba (f 0) kT then dB W (bS f 1)else bif ba (f 0) lE then ff W (bS f 1)else hB W (bS f 1 0):=by unfold gm;rw[l,h];rfl
 have d:ia W n f=bif ba (f 0) jz then oX W (bS f 1)else bif ba (f 0) kc then xO W (bS f 1)else
  bif ba (f 0) j_ then qi W (bS f 1 0) (bS f 1 1) (bS f 1 2) (bS f 1 3)else
  bif ba (f 0) kT then oV W (bS f 1)else bif ba (f 0) lE then oe W (bS f 1)else jG W (bS f 1 0):=by rw[qR];unfold nY;rw[l,h];rfl
 have R:=eq_of_beq G;rw[Ip (eq_of_beq r)];have b:ju (f 0)=bif ba (f 0) jz||ba (f 0) kc then 3 else bif ba (f 0) j_||ba (f 0) kT then 4 else bif ba (f 0) lE then 7 else bif ba (f 0) yR then 1 else -1:=rfl;have c:=of_decide_eq_false c;generalize ju (f 0)=v at*
 refine⟨by omega,λa1=>?_,λa1=>⟨λJ=>?_,λJ=>⟨λa3=>?_,λa3=>⟨λa4=>?_,λa4=>⟨λX=>?_,λX=>?_⟩⟩⟩⟩⟩
 ·rw[a1]at b gE d;have b:v=3:=b;exact⟨⟨A,K,by omega,λi _=>aap _⟩,gE.symm,mL d.symm⟩
 ·rw[a1,J]at b gE d;have b:v=3:=b;exact⟨⟨A,K.z,by omega⟩,gE.symm,mL d.symm⟩
 ·rw[a1,J,a3]at b gE d;have b:v=4:=b;exact⟨by omega,by omega,by omega,by omega,⟨A,K⟩,gE.symm,mL d.symm⟩
 ·rw[a1,J,a3,a4]at b gE d;have b:v=4:=b;exact⟨⟨A,K,by omega⟩,gE.symm,mL d.symm⟩
 ·rw[a1,J,a3,a4,X]at b gE d;have b:v=7:=b;exact⟨⟨A,K.z,by omega⟩,gE.symm,mL d.symm⟩
 ·rw[a1,J,a3,a4,X]at b gE d;have b:v=bif ba (f 0) yR then 1 else -1:=b;have b:v=1:=by
   cases q:ba (f 0) yR with
   |true=>rw[q]at b;exact b
   |false=>rw[q]at b;have b:v= -1:=b;omega
  exact⟨by omega,⟨A,ht⟩,gE.symm,mL d.symm⟩
def mz:ByteArray:={data:= #[119,111,114,108,100]}
def pL:ByteArray:={data:= #[99,111,100,101]}
def iR (s:ByteArray) (i:Nat):Nat:=fU (dn s 10 i) 32
def eh (s:ByteArray) (i k:Nat):ByteArray:=dn (dn s 10 i) 32 k
def cT (s:ByteArray):Nat->Wd
 |0=>W0
 |i+1=>bif Nat.beq i 0 then jo (iR s 0 -1) (λk=>eh s 0 (1+k))else ia (cT s i) (iR s i) (eh s i)
structure SY (s:ByteArray):Prop where
 z:s.size<=3000
 n:1<=ix s
 w:ba (eh s 0 0) mz=true
 p:Ej (iR s 0 -1) (λk=>eh s 0 (1+k))
 l:∀i,1<=i->i<ix s->ba (eh s i 0) mz=false/\ba (eh s i 0) pL=false/\gm (cT s i) (iR s i) (eh s i)=0/\bI (cT s i)/\xP (cT s i)/\oc (cT s i)
theorem Qj (s:ByteArray) (c:Int):∀i k,(iU s c i k).size<=s.size
 |0,_=>gf _
 |i+1,k=>by
  rw[iU];cases gp s i==c&&Nat.beq k (df s c i)
  ·exact Qj s c i k
  ·show(s.extract (gq s c i) i).size<=_;rw[ByteArray.size_extract];omega
theorem Ca (s:ByteArray) (c:Int) (k:Nat):(dn s c k).size<=s.size:=by
 unfold dn;cases Nat.blt k (df s c s.size)
 ·show(s.extract _ _).size<=_;rw[ByteArray.size_extract];omega
 ·exact Qj s c _ k
theorem Yw (s:ByteArray) (c:Int):1<=fU s c/\fU s c<=s.size+1:=by unfold fU;have:=zu s c s.size;omega
def acx (s:ByteArray):cQ where
 σ:=Nat
 rt:= [(2,0),(3,0),(4,1),(5,0)]
 nc:= [(5,0,1),(5,1,1),(5,2,7),(5,3,20),(5,4,1),(5,5,1),(5,6,1),(5,7,1),(5,8,1),(5,9,1)]
 sh i:= [(2,cm 0),(3,cm 1),(4,.aS 2 0 none 0 (ix s)),(5,cm 3),(6,.v (.bool (Nat.blt 0 i))),(7,.v (.int .i64 i))]
 mh q:=(2,.row 1 (fU s 10) (sF (dn s 10)))::(3,Sb 4 (cT s q)):: [(4,.row 1 (cT s q).ay (iF (cT s q).af)),(5,.row 1 (cT s q).ak (iF (cT s q).kinds)),(6,.row 7 (cT s q).ao (rF λi=>mU ((cT s q).aa i))),(7,.row 20 (cT s q).aO (rF λi=>la ((cT s q).tasks i))),(8,.row 1 (cT s q).aX (λi _=> .il 1 ((cT s q).ah i) (iF ((cT s q).lines i)))),(9,.row 1 (cT s q).aP (iF (cT s q).bits)),(10,.row 1 (cT s q).aC (iF (cT s q).ai)),(11,.row 1 (cT s q).aR (λi _=> .il 1 ((cT s q).al i) (iF ((cT s q).ready i)))),(12,.row 1 (cT s q).aQ (λi _=> .il 4 ((cT s q).aD i) (rF λk=>iO ((cT s q).ax i k)))),(13,.row 1 (cT s q).aL (iF (cT s q).aA))]
 inv i:=i<=ix s
 μ i:=ix s -i
 init:=0
structure N9 where
 (s:ByteArray)
def sT:Sy.Spec:=⟨N9,λ⟨s⟩=> [.v (.string s)],λ_=> [],λ⟨s⟩=>SY s,λ⟨s⟩=> .tp 2 (aN [xI 0 (cT s (ix s)),.ag 2 (aN [.v (.int .i64 0),.v (.int .i64 (-1))])]),λ⟨s⟩=>tI (cT s (ix s)),
 λargs mem=>match args with| [a0]=>some ⟨tN (a0)⟩|_=>none⟩
def GA:N9->Prop:=λ⟨s⟩=>let a0:=decide (4000<((ByteArray.size s:Nat):Int));let b0:=True/\True;let c0:=True/\b0;let d0:=tn 8 c0;let e0:=ix s;let b:=cT s e0;let h0:=b.time;let k0:=True/\((((((((((True/\False)/\False)/\False)/\False)/\False)/\False)/\False)/\False)/\False)/\False)/\0=h0;let C:=((-1):Int)=(-1);let o0:=SV.ptr 0 0 none 0 0;let o:=o0=o0;let r0:=SV.ptr 1 0 none 0 0;let x:=r0=r0;let v0:=0=0;let w0:=v0/\e0=e0;let W:=SV.ptr 3 0 none 0 0;let y:=W=W;let z0:=Value.slice none 0 0=Value.slice none 0 0;let a1:=(0:Int)=0;let b1:=((((((((((True/\z0)/\z0)/\z0)/\z0)/\z0)/\z0)/\z0)/\z0)/\z0)/\z0)/\a1;let c1:=True/\a1;let d1:=c1/\a1;let E:=fU s 10;let z:=E=E/\(∀h1:Nat,h1<E->True/\dn s 10 h1=dn s 10 h1);let k1:=0=0;let d:=k1/\k1;let o1:=SV.aI=SV.v (Value.int IntKind.i64 0);let X:=True/\o1;let r1:=k1/\(∀u1:Nat,u1<0->X);let v1:=((((X/\o1)/\o1)/\o1)/\o1)/\o1;let w1:=SV.aI=SV.v (Value.int IntKind.i64 (-1));let Y:=k1/\(∀y1:Nat,y1<0->True/\SV.aI=SV.il 1 0 (iF (λz1:Nat=>0)));let Z:=dG.mk 0 0 0 false;let b2:=(e0:Int);let c2:=ByteArray.toList (ByteArray.mk (List.toArray [(119:UInt8),111,114,108,100]));let d2:=Int.toNat 1;let e2:=1+0;let g2:=True/\(10:Int)=0;let h2:=ByteArray.toList (ByteArray.mk (List.toArray [(99:UInt8),111,100,101]));let k2:=b.ay;let l2:=b.ak;let o2:=b.ao;let q2:=b.aO;let r2:=b.aX;let u2:=b.aP;let v2:=b.aC;let w2:=b.aR;let x2:=b.aQ;let y2:=b.aL;tn 2 ((a0=true->(((2:Int)=2/\True)/\b0)/\d0/\b0/\(k0/\(True/\(2:Int)=0)/\C)/\False)/\(a0=false->((s=s/\True)/\True/\
 FJ.match_1 (λz2:BU=>Prop) (BU.mk s) (λa3:ByteArray=>ByteArray.size a3<=4000))/\True/\d0/\o/\x/\w0/\y/\false=Nat.blt 0 0/\0=((0:Nat):Int)/\(b1/\d1/\z/\(((((((((((True/\d)/\d)/\d)/\d)/\d)/\d)/\d)/\d)/\d)/\d)/\a1)/\r1/\r1/\(k1/\(∀b3:Nat,b3<0->v1/\w1))/\(k1/\(∀c3:Nat,c3<0->(((((((((((((v1/\o1)/\o1)/\o1)/\o1)/\o1)/\w1)/\w1)/\w1)/\w1)/\o1)/\o1)/\w1)/\o1)/\o1))/\Y/\r1/\r1/\Y/\(k1/\(∀d3:Nat,d3<0->True/\SV.aI=SV.il 4 0 (rF (λe3:Nat=>iO Z))))/\r1/\True)/\0<=e0/\(∀h:Nat,let i:=(h:Int);let k3:=decide (i<b2);let c:=dn s 10 (0+Int.toNat i);let e:=fU c 32;let p:=(e:Int);let r3:=(0:Int)<=0/\0<p;let u3:=ByteArray.toList (dn c 32 0);let v3:=u3==c2;let j:=Nat.blt 0 h;let A:=i=(-1);let q:Int:=i+1;let z3:=aw q=q;let a4:=cT s h;let b4:=z3/\(∃r:Nat,o/\x/\w0/\y/\j=Nat.blt 0 r/\q=(r:Int)/\(b1/\d1/\z/\aB a4 (cT s r) True)/\r<=e0/\e0-r<e0-h);let g:=Int.toNat p-d2;let e4:=bC (dn c 32 e2);let G:=bC (dn c 32 (1+1));let h4:=g-2;let k4:=qf (λl4:Nat=>dn c 32 (1+l4));let o4:=Int.toNat (e4*16);let B:=Int.toNat e4;let r4:=Int.toNat G;let u4:=(!j)=true;let v4:=(!j)=false;let w4:=u3==h2;let x4:=gm a4 e (λy4:Nat=>dn c 32 (0+y4));let z4:=x4 !=0;let a5:=a4.ay=k2;let b5:=a4.ak=l2;let c5:=a4.ao=o2;let d5:=a4.aO=q2;let e5:=a4.aX=r2;let g5:=a4.aP=u2;let h5:=a4.aC=v2;let k5:=a4.aR=w2;let l5:=a4.aQ=x2;let o5:=a4.aL=y2;h<=e0->b2<=9223372036854775807->(k3=true->(0<=i/\i<b2)/\((c=c/\(32:Int)=32/\True)/\True/\
 C1.match_1 (λq5:wW=>Prop) (wW.mk c 32) (λr5:ByteArray=>λu5:Int=>ByteArray.size r5<=4000))/\r3/\(v3=true->(j=true->(((12:Int) !=0)=true->d0/\b0/\(k0/\(True/\(12:Int)=0)/\A)/\False)/\(((12:Int) !=0)=false->b4))/\(j=false->((0:Int)<=1/\1<=p/\p<=p)/\(((g=g/\(∀v5:Nat,let w5:=dn c 32 (1+v5);v5<g->True/\w5=w5))/\True)/\True/\g<=4000/\(∀x5:Nat,x5<g->ByteArray.size (dn c 32 (1+x5))<=4000)/\gH g (λy5:Nat=>dn c 32 (1+y5))=0/\3<=g/\oN e4 G h4 k4=true)/\d0/\(((0:Int) !=0)=true->d0/\b0/\(k0/\c1/\A)/\False)/\(((0:Int) !=0)=false->z3/\(∃t:Nat,o/\x/\w0/\y/\true=Nat.blt 0 t/\q=(t:Int)/\(b1/\d1/\z/\aB (Wd.mk o4 (λa6:Nat=>0) B (λb6:Nat=>cond (Nat.beq b6 0) 5 0) o4 (λc6:Nat=>cond (Nat.beq c6 0) (bM.mk 5 0 1 0 7 0 (-1)) (bM.mk 0 0 0 0 0 0 (-1))) B (λd6:Nat=>aF.mk 0 0 0 0 0 0 0 0 0 0 0 (-1) (-1) (-1) (-1) 0 0 (-1) 0 0) B (λe6:Nat=>0) (λg6:Nat=>λh6:Nat=>0) B (λk6:Nat=>0) r4 (λl6:Nat=>(-1)) (Int.toNat (G*4)) (λo6:Nat=>0) (λq6:Nat=>λr6:Nat=>0) r4 (λu6:Nat=>0) (λv6:Nat=>λw6:Nat=>Z) h4 k4 0) (cT s t) True)/\t<=e0/\e0-t<e0-h))))/\(v3=false->(u4->(((10:Int) !=0)=true->d0/\b0/\(k0/\g2/\A)/\False)/\(((10:Int) !=0)=false->b4))/\(v4->r3/\(w4=true->False)/\(w4=false->((o/\(e=e/\(∀x6:Nat,let y6:=dn c 32 (0+x6);x6<e->True/\y6=y6))/\True)/\aB a4 a4 True/\bI a4/\xP a4/\oc a4/\1<=e/\e<=4000/\(∀z6:Nat,z6<e->ByteArray.size (dn c 32 (0+z6))<=4000))/\(z4=true->d0/\b0/\(k0/\(True/\x4=0)/\A)/\False)/\(z4=false->z3/\(∃u:Nat,o/\x/\w0/\y/\j=Nat.blt 0 u/\q=(u:Int)/\(b1/\d1/\z/\
 aB (ia a4 e (λb7:Nat=>dn c 32 (0+b7))) (cT s u) True)/\u<=e0/\e0-u<e0-h))))))/\(k3=false->(u4->(((10:Int)=10/\True)/\b0)/\d0/\b0/\(k0/\g2/\C)/\False)/\(v4->True/\c0/\d0/\b0/\((True/\((((((((((True/\v0/\a5)/\v0/\b5)/\v0/\c5)/\v0/\d5)/\v0/\e5)/\v0/\g5)/\v0/\h5)/\v0/\k5)/\v0/\l5)/\v0/\o5)/\a4.time=h0)/\c1/\C)/\(a5/\(∀I:Nat,I<k2->True/\a4.af I=b.af I))/\(b5/\(∀J:Nat,J<l2->True/\a4.kinds J=b.kinds J))/\(c5/\(∀K:Nat,K<o2->aK (a4.aa K) (b.aa K)))/\(d5/\(∀O:Nat,O<q2->aJ (a4.tasks O) (b.tasks O)))/\(e5/\(∀k:Nat,k<r2->True/\a4.ah k=b.ah k/\(∀R:Nat,R<b.ah k->True/\a4.lines k R=b.lines k R)))/\(g5/\(∀S:Nat,S<u2->True/\a4.bits S=b.bits S))/\(h5/\(∀T:Nat,T<v2->True/\a4.ai T=b.ai T))/\(k5/\(∀l:Nat,l<w2->True/\a4.al l=b.al l/\(∀r7:Nat,r7<b.al l->True/\a4.ready l r7=b.ready l r7)))/\(l5/\(∀n:Nat,n<x2->True/\a4.aD n=b.aD n/\(∀U:Nat,U<b.aD n->aG (a4.ax n U) (b.ax n U))))/\(o5/\(∀V:Nat,V<y2->True/\a4.aA V=b.aA V))/\True)))))
set_option maxHeartbeats 2000000 in
theorem VF:∀x,sT.pre x->gl Tryz.prog mS 15 (sT.args x) (sT.mem x) (sT.res x) (sT.bH x):=λx hp=>qT (.cons (O1.up iE) (.cons (M_.up iE) (.cons (Ji.up iE) (.cons (Ve.up iE) (.cons (N0.up iE) (.cons (Ti.up iE) (.cons TE .nil))))))) false Tryz.func15 ((λ⟨s⟩=> [.inv (acx s)]) x) (V:=GA x) (by kernel_rfl)<|(λ⟨s⟩ hp=>by
 dsimp only[sT]at hp;dsimp only[GA,tn,aw];simp only[bq,bx,eq_self,implies_true,bo];obtain⟨v,n,o,g,hl⟩:=hp
 try simp only[dI]
 have p:Int.toNat 1=1:=rfl;have b0:Nat.blt 0 0=false:=rfl;simp only[p];refine⟨λh=>absurd (of_decide_eq_true h) (by omega),λ_=>⟨(by omega),rfl,λi y _=>⟨λh=>?_,λh=>?_⟩⟩⟩
 ·have b:i<ix s:=by have:=of_decide_eq_true h;omega
  have c1:=Yw (dn s 10 i) 32;have z:=Ca s 10 i;have q:=λk=>Ca (dn s 10 i) 32 k;have rs:cT s (i+1)=bif Nat.beq i 0 then jo (iR s 0 -1) (λk=>eh s 0 (1+k))else ia (cT s i) (iR s i) (eh s i):=rfl;refine⟨by omega,by omega,by omega,λh1=>⟨λh2=>?_,λh2=>?_⟩,λh1=>⟨λh2=>?_,λh2=>?_⟩⟩
  ·have h1:ba (eh s i 0) mz=true:=h1;have d:1<=i:=by rcases ja i with e|e;(subst e;cases h2);exact e
   rw[(hl i d b).1]at h1;cases h1
  ·obtain rfl:i=0:=by
    rcases ja i with e|e
    ·exact e
    ·rw[mV e]at h2;cases h2
   refine⟨by omega,g,λh=>(by cases h),λ_=>⟨dx (by omega) (by omega),1,rfl,by omega,mL rfl,by omega,by omega⟩⟩
  ·have h1:ba (eh s i 0) mz=false:=h1;obtain rfl:i=0:=by
    rcases ja i with e|e
    ·exact e
    ·rw[mV e]at h2;cases h2
   rw[o]at h1;cases h1
  ·have d:1<=i:=by rcases ja i with e|e;(subst e;cases h2);exact e
   obtain⟨A,l2,j,r,t,u⟩:=hl i d b;have rs:cT s (i+1)=ia (cT s i) (iR s i) (eh s i):=by rw[rs,oY (by omega)];rfl
   refine⟨by omega,λc=>?_,λc=>⟨⟨z_ _,r,t,u,by omega,by omega,λk _=>by have:=q k;omega⟩,λl=>?_,λl=>⟨dx (by omega) (by omega),i+1,by rw[mV d,mV (Nat.succ_pos i)],by omega,mL rs.symm,by omega,by omega⟩⟩⟩
   ·have c:ba (eh s i 0) pL=true:=c;rw[l2]at c;cases c
   ·have j:gm (cT s i) (fU (dn s 10 i) 32) (λk=>dn (dn s 10 i) 32 k)=0:=j;rw[j]at l;cases l
 obtain rfl:i=ix s:=by have:=of_decide_eq_false h;omega
 refine⟨λh1=>?_,λh1=>?_⟩
 ·rw[mV n]at h1;cases h1
 ·skip
  repeat' (first|exact trivial|rfl|exact z_ _|refine And.intro ?_ ?_|intro _)
 :∀x,sT.pre x->GA x) x hp
def gR (c:Nat):List UInt8->List UInt8->List (List UInt8)
 | [],acc=> [acc.reverse]
 |x::l,acc=>bif Nat.beq x.toNat c then acc.reverse::gR c l []else gR c l (x::acc)
def ext (l:List UInt8) (a b:Nat):List UInt8:=(l.take b).drop a
theorem Qh (s:ByteArray) (a b:Nat):(s.extract a b).data.toList=ext s.data.toList a b:=by rw[ByteArray.data_extract,Array.toList_extract];unfold ext List.extract;rw[List.drop_take]
theorem WR {l:List UInt8} {a i:Nat} (c:a<=i) (b:i<l.length):ext l a (i+1)=ext l a i++ [l[i]]:=by unfold ext;rw[List.take_add_one,List.drop_append_of_le_length (by rw[pG];omega)];simp[b]
theorem adE (x:UInt8) (c:Nat):(((x.toNat:Nat):Int)==((c:Nat):Int))=Nat.beq x.toNat c:=by
 cases h:Nat.beq x.toNat c with
 |true=>rw[a_ h];exact beq_self_eq_true _
 |false=>
  refine beq_eq_false_iff_ne.2 λe=>?_;have:x.toNat=c:=by omega
  rw[this,cy]at h;cases h
def mi (s:ByteArray) (c i:Nat):List (List UInt8):=(List.range (df s c i)).map λk=>(iU s c i k).data.toList
theorem Qi (s:ByteArray) (c:Nat):∀i,i<=s.data.toList.length->gR c s.data.toList []=mi s c i++gR c (s.data.toList.drop i) (ext s.data.toList (gq s c i) i).reverse
 |0,_=>rfl
 |i+1,h=>by
  have n:=Qi s c i (by omega);have d:i<s.data.toList.length:=by omega
  rw[n,CA d,gR];have o:gp s i=((s.data.toList[i].toNat:Nat):Int):=by unfold gp;rw[cD,eO d];rfl
  have b:=adE s.data.toList[i] c;rw[<-o]at b;have hp:=C3 s c i;cases q:Nat.beq s.data.toList[i].toNat c with
  |true=>
   rw[q]at b;have g:df s c (i+1)=df s c i+1:=by rw[df,b];rfl
   have j:gq s c (i+1)=i+1:=by rw[gq,b];rfl
   have e3:ext s.data.toList (i+1) (i+1)= []:=by unfold ext;exact List.drop_eq_nil_of_le (by rw[pG];omega)
   have e4:mi s c (i+1)=mi s c i++ [ext s.data.toList (gq s c i) i]:=by
    unfold mi;rw[g,List.range_succ,GZ];congr 1
    ·refine List.map_congr_left λk l=>?_;have l:=cV.1 l;have:Nat.beq k (df s c i)=false:=by
      cases e:Nat.beq k (df s c i)with
      |false=>rfl
      |true=>have:=a_ e;omega
     rw[iU,this,qI];rfl
    ·show[(iU s c (i+1) (df s c i)).data.toList]=_;rw[iU,b,cy,<-Qh];rfl
   rw[j,e3,e4];simp
  |false=>
   rw[q]at b;have g:df s c (i+1)=df s c i:=by rw[df,b];rfl
   have j:gq s c (i+1)=gq s c i:=by rw[gq,b];rfl
   have e4:mi s c (i+1)=mi s c i:=by unfold mi;rw[g];refine List.map_congr_left λk _=>?_;rw[iU,b];rfl
   rw[j,e4,WR hp d];simp
theorem N8 (s:ByteArray) (c:Nat):gR c s.data.toList []=mi s c s.size++ [(s.extract (gq s c s.size) s.size).data.toList]:=by have b:s.size=s.data.toList.length:=kX.symm;have:=Qi s c s.size (by omega);rw[this,List.drop_eq_nil_of_le (by omega),gR,List.reverse_reverse,Qh]
theorem Fw (s:ByteArray) (c:Nat):fU s c=(gR c s.data.toList []).length:=by rw[N8,G2];unfold mi;rw[nH,wU];rfl
theorem Fx (s:ByteArray) (c k:Nat) (h:k<(gR c s.data.toList []).length):dn s c k=⟨((gR c s.data.toList []).getD k []).toArray⟩:=by
 have b:=Fw s c;rw[<-b]at h;unfold fU at h;have e:(dn s c k).data.toList=(gR c s.data.toList []).getD k []:=by
  rw[N8];unfold dn;rcases bR k (df s c s.size)with g|g
  ·have:Nat.blt k (df s c s.size)=true:=by unfold Nat.blt;exact iC g
   rw[this,cD,mD (by unfold mi;rw[nH,wU];exact g)];unfold mi;simp[g]
  ·obtain rfl:k=df s c s.size:=by omega
   have:Nat.blt (df s c s.size) (df s c s.size)=false:=by
    cases e:Nat.blt (df s c s.size) (df s c s.size)with
    |false=>rfl
    |true=>unfold Nat.blt at e;have:=bP e;omega
   rw[this,cD,qJ (by unfold mi;rw[nH,wU];omega)];unfold mi;simp
 rw[<-e]
def bB (l:List UInt8):ByteArray:=⟨l.toArray⟩
theorem HQ (a b:List UInt8):ba (bB a) (bB b)=(a==b):=by unfold ba;rw[Du,Du];rfl
def vE (s:ByteArray):List (List (List UInt8)):=(gR 10 s.data.toList []).map λl=>gR 32 l []
theorem abN {s:ByteArray} {i:Nat} (h:i<(vE s).length):iR s i=((vE s).getD i []).length/\∀k,k<iR s i->eh s i k=bB (((vE s).getD i []).getD k []):=by
 unfold vE at h⊢;rw[nH]at h;have e:(dn s 10 i).data.toList=(gR 10 s.data.toList []).getD i []:=by rw[show(10:Int)=((10:Nat):Int)from rfl,Fx s 10 i h]
 have d:((gR 10 s.data.toList []).map λl=>gR 32 l []).getD i []=gR 32 ((gR 10 s.data.toList []).getD i []) []:=by rw[cD,cD,eX,eO h];rfl
 have b:iR s i=(gR 32 ((gR 10 s.data.toList []).getD i []) []).length:=by unfold iR;rw[show(32:Int)=((32:Nat):Int)from rfl,Fw,e]
 rw[d];refine⟨b,λk c=>?_⟩;rw[b,<-e]at c;unfold eh;rw[show(32:Int)=((32:Nat):Int)from rfl,Fx _ 32 k c,e];rfl
def bG (l:List (List UInt8)) (k:Nat):ByteArray:=bB (l.getD k [])
theorem aal {W:Wd} {l m:Nat->Int} (h:∀k,k<3->l k=m k):eM W l=eM W m/\oX W l=oX W m:=by
 have h0:=h 0 (by decide);have h1:=h 1 (by decide);have h2:=h 2 (by decide);have e:eM W l=eM W m:=by unfold eM xN;rw[h0,h1,h2]
 refine⟨e,?_⟩;cases q:eM W m==0 with
 |true=>rw[Dd (by rw[e];exact q),Dd q];unfold AW;rw[h0,h1,h2]
 |false=>rw[tJ (by rw[e];exact q),tJ q]
theorem aam {W:Wd} {l m:Nat->Int} (h:∀k,k<4->l k=m k):dB W l=dB W m/\oV W l=oV W m:=by
 have h0:=h 0 (by decide);have h1:=h 1 (by decide);have h2:=h 2 (by decide);have b:=h 3 (by decide);have e:dB W l=dB W m:=by unfold dB xL jN fZ;rw[h0,h1,h2,b]
 refine⟨e,?_⟩;cases q:dB W m==0 with
 |true=>rw[zG (by rw[e];exact q),zG q];unfold qg od jN fZ;rw[h0,h1,h2,b]
 |false=>rw[pX (by rw[e];exact q),pX q]
theorem aan {W:Wd} {l m:Nat->Int} (h:∀k,k<7->l k=m k):ff W l=ff W m/\oe W l=oe W m:=by
 have h0:=h 0 (by decide);have h1:=h 1 (by decide);have h2:=h 2 (by decide);have b:=h 3 (by decide);have c:=h 4 (by decide);have d:=h 5 (by decide);have i:=h 6 (by decide);have g:dQ W l 3=dQ W m 3:=by unfold dQ dQ dQ dQ;rw[h0,h1,h2,b]
 have e:ff W l=ff W m:=by unfold ff;rw[g,h0,c,d,i]
 refine⟨e,?_⟩;cases q:ff W m==0 with
 |true=>rw[Dc (by rw[e];exact q),Dc q];unfold xM;rw[h0,h1,h2,b,c,d,i]
 |false=>rw[xg (by rw[e];exact q),xg q]
theorem acs {W:Wd} {n:Nat} {f:Nat->ByteArray} (b:eV n f=0) (h:ba (f 0) jy=true):gm W n f=dH W (bS f 2 0) (2+(kx (f 1):Int)) (bS f 2 1) (bS f 2 2)/\ia W n f=oZ W (bS f 2 0) (2+(kx (f 1):Int)) (bS f 2 1) (bS f 2 2):=by rw[qR];unfold gm nY;rw[b,h];exact⟨rfl,rfl⟩
theorem acu {W:Wd} {n:Nat} {f:Nat->ByteArray} (b:eV n f=0) (h:ba (f 0) jy=false) (h2:ba (f 0) jz=true):gm W n f=eM W (bS f 1)/\ia W n f=oX W (bS f 1):=by rw[qR];unfold gm nY;rw[b,h,h2];exact⟨rfl,rfl⟩
theorem acv {W:Wd} {n:Nat} {f:Nat->ByteArray} (b:eV n f=0) (h:ba (f 0) jy=false) (h2:ba (f 0) jz=false) (c:ba (f 0) kc=false) (d:ba (f 0) j_=true):gm W n f=gd W (bS f 1 0) (bS f 1 1) (bS f 1 2) (bS f 1 3)/\ia W n f=qi W (bS f 1 0) (bS f 1 1) (bS f 1 2) (bS f 1 3):=by rw[qR];unfold gm nY;rw[b,h,h2,c,d];exact⟨rfl,rfl⟩
theorem acw {W:Wd} {n:Nat} {f:Nat->ByteArray} (b:eV n f=0) (h:ba (f 0) jy=false) (h2:ba (f 0) jz=false) (c:ba (f 0) kc=false) (d:ba (f 0) j_=false) (e:ba (f 0) kT=true):gm W n f=dB W (bS f 1)/\ia W n f=oV W (bS f 1):=by rw[qR];unfold gm nY;rw[b,h,h2,c,d,e];exact⟨rfl,rfl⟩
theorem aao {W:Wd} {n:Nat} {f:Nat->ByteArray} (b:eV n f=0) (h:ba (f 0) jy=false) (h2:ba (f 0) jz=false) (c:ba (f 0) kc=false) (d:ba (f 0) j_=false) (e:ba (f 0) kT=false) (g:ba (f 0) lE=true):gm W n f=ff W (bS f 1)/\ia W n f=oe W (bS f 1):=by rw[qR];unfold gm nY;rw[b,h,h2,c,d,e,g];exact⟨rfl,rfl⟩
def lf (l:List Int) (k:Nat):Int:=l.getD k 0
def Ei (W:Wd) (o:Nat) (l:Nat->Int):Int:=bif Nat.beq o 0 then dH W (l 0) (l 1) (l 2) (l 3)else bif Nat.beq o 1 then eM W l else bif Nat.beq o 2 then gd W (l 0) (l 1) (l 2) (l 3)else bif Nat.beq o 3 then dB W l else ff W l
def xK (W:Wd) (o:Nat) (l:Nat->Int):Wd:=bif Nat.beq o 0 then oZ W (l 0) (l 1) (l 2) (l 3)else bif Nat.beq o 1 then oX W l else bif Nat.beq o 2 then qi W (l 0) (l 1) (l 2) (l 3)else bif Nat.beq o 3 then oV W l else oe W l
def S9 (o:Nat):List UInt8:= [[109,97,107,101],[99,108,97,121],[99,111,112,121],[101,110,116,101,114],[101,113,117,105,112]].getD o []
def kL (o:Nat):Nat:= [5,4,5,5,8].getD o 0
def oU (x:List UInt8):Bool:=(x== [45])||decide (0<=bC (bB x))
theorem xf (x:List UInt8):jt (bB x)=oU x:=by unfold jt oU;rw[show vR=bB [45]from rfl];have:=HQ x [45];unfold ba at this;rw[this]
def Ik (w:List (List UInt8)) (o:Nat) (l:List Int):Bool:=
 Nat.blt o 5&&(w.getD 0 []==S9 o)&&Nat.beq w.length (kL o)&&
 (bif Nat.beq o 0 then Nat.blt (kx (bG w 1)) 7&&dw 3 (λi=>oU (w.getD (2+i) []))&&decide (bC (bG w 2)=lf l 0)&&decide (2+(kx (bG w 1):Int)=lf l 1)&&decide (bC (bG w 3)=lf l 2)&&decide (bC (bG w 4)=lf l 3)
 else dw (kL o -1) (λi=>oU (w.getD (1+i) []))&&dw (kL o -1) (λi=>decide (bC (bG w (1+i))=lf l i)))
theorem xe {n:Nat} {f:Nat->ByteArray} (h:∀i,i<n->jt (f i)=true):gH n f=0:=by unfold gH;rw[fL.2 h];rfl
theorem abO {W:Wd} {n o:Nat} {f:Nat->ByteArray} {w:List (List UInt8)} {l:List Int} (C:n=w.length) (y:∀k,k<n->f k=bB (w.getD k [])) (h:Ik w o l=true):ba (f 0) mz=false/\ba (f 0) pL=false/\gm W n f=Ei W o (lf l)/\ia W n f=xK W o (lf l):=by
 unfold Ik at h;simp only[aW]at h;obtain⟨⟨⟨ho,h0⟩,hl⟩,h⟩:=h;have h0:=eq_of_beq h0;have hl:=a_ hl;rw[hl]at C;have T:∀b:List UInt8,0<n->ba (f 0) (bB b)=(S9 o==b):=λb q=>by rw[y 0 q,h0,HQ]
 rcases o with _|_|_|_|_|o
 ·obtain rfl:n=5:=C;have p:ba (f 0) mz=false:=(T [119,111,114,108,100] (by decide)).trans (by decide);have u:ba (f 0) pL=false:=(T [99,111,100,101] (by decide)).trans (by decide);have d:ba (f 0) jy=true:=(T [109,97,107,101] (by decide)).trans (by decide);have g:ba (f 0) jz=false:=(T [99,108,97,121] (by decide)).trans (by decide);have v:ba (f 0) kc=false:=(T [112,117,116] (by decide)).trans (by decide);have t:ba (f 0) j_=false:=(T [99,111,112,121] (by decide)).trans (by decide);have e:ba (f 0) kT=false:=(T [101,110,116,101,114] (by decide)).trans (by decide);have r:ba (f 0) lE=false:=(T [101,113,117,105,112] (by decide)).trans (by decide);refine⟨p,u,?_⟩;have h:(((((Nat.blt (kx (bG w 1)) 7&&dw 3 (λi=>oU (w.getD (2+i) [])))&&decide (bC (bG w 2)=lf l 0))&&decide (2+(kx (bG w 1):Int)=lf l 1))&&decide (bC (bG w 3)=lf l 2))&&decide (bC (bG w 4)=lf l 3))=true:=h;simp only[aW,decide_eq_true_eq]at h
  obtain⟨⟨⟨⟨⟨k1,k2⟩,z⟩,G⟩,I⟩,J⟩:=h;have E:f 1=bG w 1:=y 1 (by decide);have A:eV 5 f=0:=by unfold eV;rw[d,E];have:Nat.beq (kx (bG w 1)) 7=false:=oY (by unfold Nat.blt at k1;have:=bP k1;omega);rw[this,show Nat.beq 5 5=true from rfl];exact xe λi x=>by rw[y (2+i) (by omega),xf];exact fL.1 k2 i x
  have b:=acs (W:=W) A d;have K:bS f 2 0=lf l 0:=(congrArg bC (y 2 (by decide))).trans z;have O:(2+(kx (f 1):Int))=lf l 1:=by rw[E];exact G
  have R:bS f 2 1=lf l 2:=(congrArg bC (y 3 (by decide))).trans I;have S:bS f 2 2=lf l 3:=(congrArg bC (y 4 (by decide))).trans J;rw[K,O,R,S]at b;exact b
 ·obtain rfl:n=4:=C;have p:ba (f 0) mz=false:=(T [119,111,114,108,100] (by decide)).trans (by decide);have u:ba (f 0) pL=false:=(T [99,111,100,101] (by decide)).trans (by decide);have d:ba (f 0) jy=false:=(T [109,97,107,101] (by decide)).trans (by decide);have g:ba (f 0) jz=true:=(T [99,108,97,121] (by decide)).trans (by decide);have v:ba (f 0) kc=false:=(T [112,117,116] (by decide)).trans (by decide);have t:ba (f 0) j_=false:=(T [99,111,112,121] (by decide)).trans (by decide);have e:ba (f 0) kT=false:=(T [101,110,116,101,114] (by decide)).trans (by decide);have r:ba (f 0) lE=false:=(T [101,113,117,105,112] (by decide)).trans (by decide);refine⟨p,u,?_⟩;have h:(dw 3 (λi=>oU (w.getD (1+i) []))&&dw 3 (λi=>decide (bC (bG w (1+i))=lf l i)))=true:=h;rw[aW]at h;have k2:=fL.1 h.1;have z:=fL.1 h.2;have B:ju (f 0)=3:=by unfold ju;simp only[g,v,t,e,r];rfl
  have A:eV 4 f=0:=by unfold eV;rw[d,B,xe (n:=4 -1) (f:=λj=>f (1+j)) λi x=>by rw[y (1+i) (by omega),xf];exact k2 i x];rfl
  have b:=acu (W:=W) A d g;have nk:∀i,i<3->bS f 1 i=lf l i:=λi x=>(congrArg bC (y (1+i) (by omega))).trans (of_decide_eq_true (z i x));have c:=aal (W:=W) (l:=bS f 1) (m:=lf l) nk;rw[c.1,c.2]at b;exact b
 ·obtain rfl:n=5:=C;have p:ba (f 0) mz=false:=(T [119,111,114,108,100] (by decide)).trans (by decide);have u:ba (f 0) pL=false:=(T [99,111,100,101] (by decide)).trans (by decide);have d:ba (f 0) jy=false:=(T [109,97,107,101] (by decide)).trans (by decide);have g:ba (f 0) jz=false:=(T [99,108,97,121] (by decide)).trans (by decide);have v:ba (f 0) kc=false:=(T [112,117,116] (by decide)).trans (by decide);have t:ba (f 0) j_=true:=(T [99,111,112,121] (by decide)).trans (by decide);have e:ba (f 0) kT=false:=(T [101,110,116,101,114] (by decide)).trans (by decide);have r:ba (f 0) lE=false:=(T [101,113,117,105,112] (by decide)).trans (by decide);refine⟨p,u,?_⟩;have h:(dw 4 (λi=>oU (w.getD (1+i) []))&&dw 4 (λi=>decide (bC (bG w (1+i))=lf l i)))=true:=h;rw[aW]at h;have k2:=fL.1 h.1;have z:=fL.1 h.2;have B:ju (f 0)=4:=by unfold ju;simp only[g,v,t,e,r];rfl
  have A:eV 5 f=0:=by unfold eV;rw[d,B,xe (n:=5 -1) (f:=λj=>f (1+j)) λi x=>by rw[y (1+i) (by omega),xf];exact k2 i x];rfl
  have b:=acv (W:=W) A d g v t;have nk:∀i,i<4->bS f 1 i=lf l i:=λi x=>(congrArg bC (y (1+i) (by omega))).trans (of_decide_eq_true (z i x));rw[nk 0 (by decide),nk 1 (by decide),nk 2 (by decide),nk 3 (by decide)]at b;exact b
 ·obtain rfl:n=5:=C;have p:ba (f 0) mz=false:=(T [119,111,114,108,100] (by decide)).trans (by decide);have u:ba (f 0) pL=false:=(T [99,111,100,101] (by decide)).trans (by decide);have d:ba (f 0) jy=false:=(T [109,97,107,101] (by decide)).trans (by decide);have g:ba (f 0) jz=false:=(T [99,108,97,121] (by decide)).trans (by decide);have v:ba (f 0) kc=false:=(T [112,117,116] (by decide)).trans (by decide);have t:ba (f 0) j_=false:=(T [99,111,112,121] (by decide)).trans (by decide);have e:ba (f 0) kT=true:=(T [101,110,116,101,114] (by decide)).trans (by decide);have r:ba (f 0) lE=false:=(T [101,113,117,105,112] (by decide)).trans (by decide);refine⟨p,u,?_⟩;have h:(dw 4 (λi=>oU (w.getD (1+i) []))&&dw 4 (λi=>decide (bC (bG w (1+i))=lf l i)))=true:=h;rw[aW]at h;have k2:=fL.1 h.1;have z:=fL.1 h.2;have B:ju (f 0)=4:=by unfold ju;simp only[g,v,t,e,r];rfl
  have A:eV 5 f=0:=by unfold eV;rw[d,B,xe (n:=5 -1) (f:=λj=>f (1+j)) λi x=>by rw[y (1+i) (by omega),xf];exact k2 i x];rfl
  have b:=acw (W:=W) A d g v t e;have nk:∀i,i<4->bS f 1 i=lf l i:=λi x=>(congrArg bC (y (1+i) (by omega))).trans (of_decide_eq_true (z i x));have c:=aam (W:=W) (l:=bS f 1) (m:=lf l) nk;rw[c.1,c.2]at b;exact b
 ·obtain rfl:n=8:=C;have p:ba (f 0) mz=false:=(T [119,111,114,108,100] (by decide)).trans (by decide);have u:ba (f 0) pL=false:=(T [99,111,100,101] (by decide)).trans (by decide);have d:ba (f 0) jy=false:=(T [109,97,107,101] (by decide)).trans (by decide);have g:ba (f 0) jz=false:=(T [99,108,97,121] (by decide)).trans (by decide);have v:ba (f 0) kc=false:=(T [112,117,116] (by decide)).trans (by decide);have t:ba (f 0) j_=false:=(T [99,111,112,121] (by decide)).trans (by decide);have e:ba (f 0) kT=false:=(T [101,110,116,101,114] (by decide)).trans (by decide);have r:ba (f 0) lE=true:=(T [101,113,117,105,112] (by decide)).trans (by decide);refine⟨p,u,?_⟩;have h:(dw 7 (λi=>oU (w.getD (1+i) []))&&dw 7 (λi=>decide (bC (bG w (1+i))=lf l i)))=true:=h;rw[aW]at h;have k2:=fL.1 h.1;have z:=fL.1 h.2;have B:ju (f 0)=7:=by unfold ju;simp only[g,v,t,e,r];rfl
  have A:eV 8 f=0:=by unfold eV;rw[d,B,xe (n:=8 -1) (f:=λj=>f (1+j)) λi x=>by rw[y (1+i) (by omega),xf];exact k2 i x];rfl
  have b:=aao (W:=W) A d g v t e r;have nk:∀i,i<7->bS f 1 i=lf l i:=λi x=>(congrArg bC (y (1+i) (by omega))).trans (of_decide_eq_true (z i x));have c:=aan (W:=W) (l:=bS f 1) (m:=lf l) nk;rw[c.1,c.2]at b;exact b
 ·exact absurd ho (by unfold Nat.blt;intro q;have:=bP q;omega)
def xJ (L:List (Nat×List Int)) (i:Nat):Nat:=(L.getD i (0,[])).1
def AK (L:List (Nat×List Int)) (i:Nat):Nat->Int:=lf (L.getD i (0,[])).2
def oa (W:Wd) (L:List (Nat×List Int)):Nat->Wd
 |0=>W
 |i+1=>xK (oa W L i) (xJ L i) (AK L i)
theorem abM {W:Wd} (h:Sx W) (b:vD W) (o:Nat) (l:Nat->Int):Sx (xK W o l)/\vD (xK W o l):=by
 unfold xK;cases Nat.beq o 0 with
 |true=>exact⟨h.make _ _ _ _,b⟩
 |false=>
  cases Nat.beq o 1 with
  |true=>exact⟨h.p_ _,b⟩
  |false=>
   cases Nat.beq o 2 with
   |true=>exact⟨h.copy _ _ _ _,b⟩
   |false=>
    cases Nat.beq o 3 with
    |true=>exact⟨h.enter b _,b⟩
    |false=>exact⟨h.HP _,b⟩
theorem Hb {W:Wd} (h:Sx W) (b:vD W) (L:List (Nat×List Int)):∀i,Sx (oa W L i)/\vD (oa W L i)
 |0=>⟨h,b⟩
 |i+1=>abM (Hb h b L i).1 (Hb h b L i).2 _ _
def ob (a c:Int) (n:Nat) (D:Nat->Int):Wd:={zF a c n D with
 kinds:=λi=>bif Nat.beq i 0 then 5 else 0,aa:=λi=>bif Nat.beq i 0 then⟨5,0,1,0,7,0,-1⟩else xc}
structure iQ (s:ByteArray) (T:List (List (List UInt8))) (L:List (Nat×List Int)) (a c:Int) (n:Nat):Prop where
 z:s.size<=3000
 t:vE s=T
 len:T.length=L.length+2
 e:(gR 10 s.data.toList []).getD (L.length+1) []= []
 w:(T.getD 0 []).getD 0 []= [119,111,114,108,100]
 m:(T.getD 0 []).length=n+3
 nu:dw (n+2) (λk=>oU ((T.getD 0 []).getD (1+k) []))=true
 va:bC (bG (T.getD 0 []) 1)=a
 vc:bC (bG (T.getD 0 []) 2)=c
 b:xd a c n=false
 d:dw n (λi=>!az (bC (bG (T.getD 0 []) (3+i))) 3)=true
 o:dw L.length (λi=>Ik (T.getD (i+1) []) (xJ L i) (L.getD i (0,[])).2)=true
 q:∀D,dw L.length (λi=>Ei (oa (ob a c n D) L i) (xJ L i) (AK L i)==0)=true
def iP (s:ByteArray):Nat->Int:=qf λk=>eh s 0 (1+k)
theorem iQ.e0 {s:ByteArray} {T:List (List (List UInt8))} {L:List (Nat×List Int)} {a c:Int} {n:Nat} (h:iQ s T L a c n):(gR 10 s.data.toList []).length=L.length+2:=by have:=congrArg List.length h.t;unfold vE at this;rw[nH,h.len]at this;exact this
theorem iQ.ln {s:ByteArray} {T:List (List (List UInt8))} {L:List (Nat×List Int)} {a c:Int} {n:Nat} (h:iQ s T L a c n):ix s=L.length+1:=by
 have e0:=h.e0;have b:fU s 10=L.length+2:=by rw[show(10:Int)=((10:Nat):Int)from rfl,Fw,e0]
 have d:(dn s 10 (L.length+1)).size=0:=by rw[show(10:Int)=((10:Nat):Int)from rfl,Fx s 10 _ (by omega),h.e];rfl
 unfold ix;rw[b,show L.length+2 -1=L.length+1 by omega,d];rfl
theorem iQ.wr {s:ByteArray} {T:List (List (List UInt8))} {L:List (Nat×List Int)} {a c:Int} {n:Nat} (h:iQ s T L a c n) {i:Nat} (d:i<L.length+2):iR s i=(T.getD i []).length/\∀k,k<(T.getD i []).length->eh s i k=bG (T.getD i []) k:=by have b:=abN (s:=s) (i:=i) (by rw[h.t,h.len];exact d);rw[h.t]at b;exact⟨b.1,λk e=>b.2 k (by rw[b.1];exact e)⟩
theorem iQ.one {s:ByteArray} {T:List (List (List UInt8))} {L:List (Nat×List Int)} {a c:Int} {n:Nat} (h:iQ s T L a c n):cT s 1=ob a c n (iP s)/\Ej (iR s 0 -1) (λk=>eh s 0 (1+k))/\ba (eh s 0 0) mz=true/\∀i,i<n->iP s i=bC (bG (T.getD 0 []) (3+i)):=by
 obtain⟨g,e⟩:=h.wr (i:=0) (by omega);rw[h.m]at g e;have l:bC (eh s 0 (1+0))=a:=by rw[e 1 (by omega)];exact h.va
 have o:bC (eh s 0 (1+1))=c:=by rw[e 2 (by omega)];exact h.vc
 have p:∀i,i<n->iP s i=bC (bG (T.getD 0 []) (3+i)):=λi j=>by show bC (eh s 0 (1+(i+2)))=_;rw[show 1+(i+2)=3+i by omega,e (3+i) (by omega)]
 have q:1<=n/\n<=8:=by have:=h.b;unfold xd at this;simp only[bX,decide_eq_false_iff_not]at this;omega
 refine⟨?_,⟨?_,λi j=>?_,?_,(by rw[g];omega),?_⟩,?_,p⟩
 ·show jo (iR s 0 -1) (λk=>eh s 0 (1+k))=_;rw[g];show ob (bC (eh s 0 (1+0))) (bC (eh s 0 (1+1))) (n+3 -1 -2) (iP s)=_;rw[l,o,show n+3 -1 -2=n by omega]
 ·rw[g];omega
 ·have z:=h.z;have a1:=Ca (dn s 10 0) 32 (1+i);have r:=Ca s 10 0;show(dn (dn s 10 0) 32 (1+i)).size<=4000;omega
 ·refine xe λi j=>?_;rw[e (1+i) (by omega)];unfold bG;rw[xf];exact fL.1 h.nu i (by omega)
 ·rw[g,show n+3 -1 -2=n by omega];show oN (bC (eh s 0 (1+0))) (bC (eh s 0 (1+1))) n (iP s)=true;rw[l,o];unfold oN Db;rw[h.b,qt λi j=>by rw[p i j];have:=fL.1 h.d i j;rw[dT]at this;exact this];exact iC (bc n)
 ·rw[e 0 (by omega)];unfold bG;rw[h.w];exact(HQ _ [119,111,114,108,100]).trans (by decide)
theorem iQ.line {s:ByteArray} {T:List (List (List UInt8))} {L:List (Nat×List Int)} {a c:Int} {n:Nat} (h:iQ s T L a c n) {i:Nat} (d:i<L.length) (W:Wd):ba (eh s (i+1) 0) mz=false/\ba (eh s (i+1) 0) pL=false/\gm W (iR s (i+1)) (eh s (i+1))=Ei W (xJ L i) (AK L i)/\ia W (iR s (i+1)) (eh s (i+1))=xK W (xJ L i) (AK L i):=by obtain⟨b,e⟩:=h.wr (i:=i+1) (by omega);exact abO b (λk g=>e k (by rw[<-b];exact g)) (fL.1 h.o i d)
theorem iQ.at {s:ByteArray} {T:List (List (List UInt8))} {L:List (Nat×List Int)} {a c:Int} {n:Nat} (h:iQ s T L a c n):∀i,i<=L.length->cT s (i+1)=oa (ob a c n (iP s)) L i
 |0,_=>h.one.1
 |i+1,d=>by have b:=iQ.at h i (by omega);show ia (cT s (i+1)) (iR s (i+1)) (eh s (i+1))=_;rw[(h.line (by omega) _).2.2.2,b];rfl
theorem iQ.sx {s:ByteArray} {T:List (List (List UInt8))} {L:List (Nat×List Int)} {a c:Int} {n:Nat} (h:iQ s T L a c n) (i:Nat):Sx (oa (ob a c n (iP s)) L i):=by have o:=Sx.new h.one.2.1;have e:jo (iR s 0 -1) (λk=>eh s 0 (1+k))=ob a c n (iP s):=h.one.1;rw[e]at o;exact(Hb o.1 o.2 L i).1
theorem iQ.rd {s:ByteArray} {T:List (List (List UInt8))} {L:List (Nat×List Int)} {a c:Int} {n:Nat} (h:iQ s T L a c n):SY s/\cT s (ix s)=oa (ob a c n (iP s)) L L.length:=by
 have hl:=h.ln;refine⟨⟨h.z,by omega,h.one.2.2.1,h.one.2.1,λi h1 g=>?_⟩,by rw[hl];exact h.at _ (bc _)⟩;obtain⟨j,rfl⟩:∃j,i=j+1:=⟨i -1,by omega⟩;have b:j<L.length:=by omega
 obtain⟨d,l2,e,_⟩:=h.line b (cT s (j+1));have sx:=(h.sx j).1;rw[<-h.at j (by omega)]at sx;refine⟨d,l2,?_,sx,sx.mkp,sx.tn⟩;rw[e,h.at j (by omega)];exact eq_of_beq (fL.1 (h.q (iP s)) j b)
def fT:ByteArray:={data:= #[119,111,114,108,100,32,50,52,32,50,32,48,10,99,108,97,121,32,49,32,49,32,50,48,10,109,97,107,101,32,110,111,100,101,32,49,32,49,32,50,10,109,97,107,101,32,115,112,97,99,101,32,49,32,49,32,51,10,109,97,107,101,32,116,97,98,108,101,32,49,32,49,32,52,10,109,97,107,101,32,112,97,103,101,32,49,32,52,32,53,10,109,97,107,101,32,116,97,115,107,32,49,32,50,32,57,10,109,97,107,101,32,100,111,111,114,32,49,32,49,32,49,49,10,109,97,107,101,32,98,101,108,108,32,49,32,49,32,49,50,10,99,111,112,121,32,49,49,32,49,54,32,55,32,53,10,99,111,112,121,32,49,50,32,49,55,32,55,32,50,10,99,111,112,121,32,49,48,32,49,56,32,55,32,48,10,99,111,112,121,32,55,32,49,57,32,51,32,48,10,99,111,112,121,32,51,32,50,48,32,55,32,48,10,99,111,112,121,32,52,32,50,49,32,55,32,48,10,99,111,112,121,32,50,32,50,50,32,55,32,48,10,99,111,112,121,32,57,32,50,51,32,54,32,48,10,101,110,116,101,114,32,50,32,48,32,51,32,48,10,101,110,116,101,114,32,50,32,48,32,52,32,48,10,101,110,116,101,114,32,50,32,49,32,53,32,48,10,101,110,116,101,114,32,50,32,50,32,54,32,49,10,101,113,117,105,112,32,56,32,48,32,50,32,45,32,48,32,49,32,48,10,101,113,117,105,112,32,57,32,49,32,50,32,49,48,32,49,32,50,32,48,10]}
def R_:List (List (List UInt8)):= [[[119,111,114,108,100],[50,52],[50],[48]],[[99,108,97,121],[49],[49],[50,48]],[[109,97,107,101],[110,111,100,101],[49],[49],[50]],[[109,97,107,101],[115,112,97,99,101],[49],[49],[51]],[[109,97,107,101],[116,97,98,108,101],[49],[49],[52]],[[109,97,107,101],[112,97,103,101],[49],[52],[53]],[[109,97,107,101],[116,97,115,107],[49],[50],[57]],[[109,97,107,101],[100,111,111,114],[49],[49],[49,49]],[[109,97,107,101],[98,101,108,108],[49],[49],[49,50]],[[99,111,112,121],[49,49],[49,54],[55],[53]],[[99,111,112,121],[49,50],[49,55],[55],[50]],[[99,111,112,121],[49,48],[49,56],[55],[48]],[[99,111,112,121],[55],[49,57],[51],[48]],[[99,111,112,121],[51],[50,48],[55],[48]],[[99,111,112,121],[52],[50,49],[55],[48]],[[99,111,112,121],[50],[50,50],[55],[48]],[[99,111,112,121],[57],[50,51],[54],[48]],[[101,110,116,101,114],[50],[48],[51],[48]],[[101,110,116,101,114],[50],[48],[52],[48]],[[101,110,116,101,114],[50],[49],[53],[48]],[[101,110,116,101,114],[50],[50],[54],[49]],[[101,113,117,105,112],[56],[48],[50],[45],[48],[49],[48]],[[101,113,117,105,112],[57],[49],[50],[49,48],[49],[50],[48]],[[]]]
def nW:List (Nat×List Int):= [(1,[1,1,20]),(0,[1,5,1,2]),(0,[1,4,1,3]),(0,[1,3,1,4]),(0,[1,2,4,5]),(0,[1,6,2,9]),(0,[1,7,1,11]),(0,[1,8,1,12]),(2,[11,16,7,5]),(2,[12,17,7,2]),(2,[10,18,7,0]),(2,[7,19,3,0]),(2,[3,20,7,0]),(2,[4,21,7,0]),(2,[2,22,7,0]),(2,[9,23,6,0]),(3,[2,0,3,0]),(3,[2,0,4,0]),(3,[2,1,5,0]),(3,[2,2,6,1]),(4,[8,0,2,-1,0,1,0]),(4,[9,1,2,10,1,2,0])]
set_option maxRecDepth 100000 in
theorem abP:vE fT=R_:=by kernel_rfl
theorem abQ (D:Nat->Int):dw nW.length (λi=>Ei (oa (ob 24 2 1 D) nW i) (xJ nW i) (AK nW i)==0)=true:=by kernel_rfl
theorem Da:iQ fT R_ nW 24 2 1:=⟨by show 353<=3000;omega,abP,by kernel_rfl,by kernel_rfl,by kernel_rfl,by kernel_rfl,by kernel_rfl,by kernel_rfl,by kernel_rfl,by kernel_rfl,by kernel_rfl,by kernel_rfl,abQ⟩
def db (n:Nat) (l:Nat->Int) (i:Int):Int:=bif n==0 then i*31 else bj (l (i%n).toNat) 1000003+i/n*7919
theorem Ue {n:Nat} {l:Nat->Int} {i:Int} (h0:0<=i) (h1:i<=1000):0<=db n l i/\db n l i<=9000000:=by
 unfold db;cases h:n==0
 ·have b:(0:Int)<n:=by have:n≠0:=by simpa using h
                       omega
  have:=hU (c:=l (i%n).toNat) (n:=1000003) (by decide);have d0:0<=i/n:=Hq h0 (by omega);have d1:i/n<=i:=Hr _ h0;simp only[cond_false];omega
 ·simp only[cond_true];omega
structure RH where
 (n:Nat) (l:Nat->Int) (i:Int)
def RI:Sy.Spec:=⟨RH,λ⟨n,l,i⟩=> [.sl true 1 n (λb _=> .v (.int .i64 (l b))),.v (.int .i64 i)],λ_=> [],λ⟨n,l,i⟩=>(∀k,k<n->fH (l k))/\0<=i/\i<=1000,λ⟨n,l,i⟩=> .v (.int .i64 (db n l i)),λ_=> [],
 λargs mem=>match args with| [a0,a1]=>some ⟨bT a0,λi=>av (bO a0 i 0),av (a1)⟩|_=>none⟩
def acD:aZ:=⟨[],(RI).g,none⟩
def RJ:RH->Prop:=λ⟨n,l,i⟩=>let a0:=(n:Int);let b0:Int:=i%a0;let c0:Int:=l (Int.toNat b0);let d0:Int:=i/a0;let e0:Int:=d0*7919;let b:Int:=bj c0 1000003+e0;a0<=9223372036854775807->((a0==0)=true->aw (i*31)=i*31/\i*31=db n l i/\True)/\((a0==0)=false->tn 4 ((0<=i/\0<a0)/\(0<=b0/\b0<a0)/\True/\((c0=c0/\(1000003:Int)=1000003/\True)/\True/\((-9223372036854775808)<=c0/\c0<=9223372036854775807)/\(0:Int)<1000003)/\tn 3 ((0<=i/\0<a0/\aw d0=d0)/\aw e0=e0/\aw b=b/\b=db n l i/\True)))
theorem aar:aY Tryz.prog bk 45 acD:=bn (.cons yN .nil) false Tryz.call45 Tryz.func45 (λ_=> []) (V:=RJ) (λ_=>by kernel_rfl) λ⟨n,l,i⟩ hp=>by
 dsimp only[RI]at hp;dsimp only[RJ,tn,aw];simp only[bq,eq_self,implies_true,bo];obtain⟨h1,h2,g⟩:=hp;refineλ_=>⟨λh=>?_,λh=>?_⟩
 ·have h0:n=0:=by simpa using h
  subst h0;exact⟨by rw[IntKind.wrap_i64];omega,rfl⟩
 ·have b:(0:Int)<n:=by
   have:(n:Int)≠0:=by simpa using h
   omega
  have d0:0<=i/n:=Hq h2 (by omega);have d1:i/n<=i:=Hr _ h2;have d:0<=i%n:=wR _ (by omega);have e:i%n<n:=CS _ b;have p:=hU (c:=l (i%n).toNat) (n:=1000003) (by decide);refine⟨⟨h2,b⟩,⟨d,e⟩,⟨h1 _ (by omega),by decide⟩,⟨h2,b,by rw[IntKind.wrap_i64];omega⟩,by rw[IntKind.wrap_i64];omega,by rw[IntKind.wrap_i64];omega,?_⟩;unfold db;rw[show(n==0)=false from beq_eq_false_iff_ne.2 (by omega)];rfl
structure x_ where
 o:Int
 a:Int
 b:Int
 m:Int
def cR (x:x_):List SV:= [.v (.int .i64 x.o),.v (.int .i64 x.a),.v (.int .i64 x.b),.v (.int .i64 x.m)]
def jm (j k cl:Int):x_:=
 bif j==0||j==1||j==2 then⟨1,1,0,k⟩else
 bif j==3||j==4 then⟨1,2,0,k⟩else
 bif j==5 then⟨1,3,0,bj k 9⟩else
 bif j==6 then⟨1,4,0,bj k 4⟩else
 bif j==7 then⟨11,2,7,32+bj k 18⟩else
 bif j==8 then⟨10,5,7,30+bj k 20⟩else
 bif j==9 then⟨3+bj k 7,5,2,0⟩else
 bif j==10 then⟨13,0,0,2*bj k 15⟩else⟨14,0,0,bj k cl⟩
def eg (c cl:Int):x_:=jm (bj c 16) (bj (c/16) 32) cl
def gQ (n:Nat) (l:Nat->Int) (at_ cl:Int) (i:Nat):x_:=bif Nat.blt i 15 then eg (db n l (at_+i)) cl else⟨12,0,0,0⟩
def acC (n:Nat) (l:Nat->Int) (at_ cl:Int):cQ where
 σ:=Nat
 rt:= [(7,4)]
 sh i:= [(7,.aS 0 0 none 0 i),(8,.v (.int .i64 i))]
 mh i:= [(0,.row 4 i (rF λk=>cR (eg (db n l (at_+k)) cl)))]
 inv i:=i<=15
 μ i:=15 -i
 init:=0
theorem Yy {n:Nat} {l:Nat->Int} {at_ cl:Int} {s:Nat} {x:x_} (hs:s<15) (c:eg (db n l (at_+s)) cl=x):∃y:Nat,s+1=y/\(s:Int)+1=y/\(s+1=y/\∀z:Nat,z<y->(((bif z.blt s then(eg (db n l (at_+z)) cl).o else x.o)=(eg (db n l (at_+z)) cl).o/\(bif z.blt s then(eg (db n l (at_+z)) cl).a else x.a)=(eg (db n l (at_+z)) cl).a)/\(bif z.blt s then(eg (db n l (at_+z)) cl).b else x.b)=(eg (db n l (at_+z)) cl).b)/\(bif z.blt s then(eg (db n l (at_+z)) cl).m else x.m)=(eg (db n l (at_+z)) cl).m)/\y<=15/\15 -y<15 -s:=by
 refine⟨s+1,rfl,rfl,⟨rfl,λz d=>?_⟩,by omega,by omega⟩;rcases bR z s with h|h
 ·rw[gY h];exact⟨⟨⟨rfl,rfl⟩,rfl⟩,rfl⟩
 ·obtain rfl:z=s:=by omega
  rw[kZ h,c];exact⟨⟨⟨rfl,rfl⟩,rfl⟩,rfl⟩
structure J0 where
 (n:Nat) (l:Nat->Int) (at_ cl:Int)
def J1:Sy.Spec:=⟨J0,λ⟨n,l,at_,cl⟩=> [.sl true 1 n (λb _=> .v (.int .i64 (l b))),.v (.int .i64 at_),.v (.int .i64 cl)],λ_=> [],λ⟨n,l,at_,cl⟩=>(∀k,k<n->fH (l k))/\0<=at_/\at_<=900/\1<=cl/\cl<=100,λ_=> .aS 0 0 none 0 16,λ⟨n,l,at_,cl⟩=> [.row 4 16 (rF λi=>cR (gQ n l at_ cl i))],
 λargs mem=>match args with| [a0,a1,c]=>some ⟨bT a0,λi=>av (bO a0 i 0),av (a1),av (c)⟩|_=>none⟩
def Ud:aZ:=⟨[],(J1).g,none⟩
def J2:J0->Prop:=λ⟨n,l,at_,cl⟩=>let a0:=true=true;let b0:=0=0;let c0:=(9:Int)=9/\True;let d0:=(0:Int)<9;let e0:=(4:Int)=4/\True;let g0:=(0:Int)<4;let h0:=(18:Int)=18/\True;let k0:=(0:Int)<18;let l0:=(20:Int)=20/\True;let o0:=(0:Int)<20;let q0:=(7:Int)=7/\True;let r0:=(0:Int)<7;let u0:=(15:Int)=15/\True;let v0:=(0:Int)<15;let w0:=cl=cl/\True;let x0:=0<cl;(0=0/\0=0)/\0=((0:Nat):Int)/\((0=0/\(∀y0:Nat,let z0:=eg (db n l (at_+(y0:Int))) cl;y0<0->(((True/\SV.aI=SV.v (Value.int IntKind.i64 z0.o))/\SV.aI=SV.v (Value.int IntKind.i64 z0.a))/\SV.aI=SV.v (Value.int IntKind.i64 z0.b))/\SV.aI=SV.v (Value.int IntKind.i64 z0.m)))/\True)/\0<=15/\(∀a1:Nat,let b1:=decide ((a1:Int)<15);let c1:Int:=at_+(a1:Int);let d1:=db n l c1;let g:Int:=d1/16;let d:=bj d1 16;let h1:=d==0;let k1:=h1=true;let c:=a1+1;let o1:=c*32<=140737488355328/\(∀q1:Nat,a0);let r1:Int:=(a1:Int)+1;let e:=aw r1=r1;let v1:=bj g 32;let w1:=15-a1;let x1:=True/\o1/\e/\(∃j:Nat,(b0/\c=j)/\r1=(j:Int)/\((c=j/\(∀u:Nat,let x:=Nat.blt u a1;let b2:=eg (db n l (at_+((0+u:Nat):Int))) cl;let y:=eg (db n l (at_+(u:Int))) cl;u<j->(((True/\cond x b2.o 1=y.o)/\cond x b2.a 1=y.a)/\cond x b2.b 0=y.b)/\cond x b2.m v1=y.m))/\True)/\j<=15/\15-j<w1);let d2:=h1=false;let e2:=d==3;let g2:=e2=true;
 let h2:=True/\o1/\e/\(∃k2:Nat,(b0/\c=k2)/\r1=(k2:Int)/\((c=k2/\(∀l2:Nat,let z:=Nat.blt l2 a1;let A:=eg (db n l (at_+((0+l2:Nat):Int))) cl;let r2:=eg (db n l (at_+(l2:Int))) cl;l2<k2->(((True/\cond z A.o 1=r2.o)/\cond z A.a 2=r2.a)/\cond z A.b 0=r2.b)/\cond z A.m v1=r2.m))/\True)/\k2<=15/\15-k2<w1);let u2:=e2=false;let v2:=d==5;let h:=v1=v1;let i:=(-9223372036854775808)<=v1/\v1<=9223372036854775807;let y2:=d==6;let z2:=d==7;let a3:Int:=32+bj v1 18;let b3:=d==8;let c3:Int:=30+bj v1 20;let d3:=d==9;let e3:Int:=3+bj v1 7;let g3:=d==10;let h3:Int:=2*bj v1 15;
 let k3:=(v2=true->((h/\c0)/\True/\i/\d0)/\True/\o1/\e/\(∃k:Nat,(b0/\c=k)/\r1=(k:Int)/\((c=k/\(∀B:Nat,let C:=Nat.blt B a1;let r3:=eg (db n l (at_+((0+B:Nat):Int))) cl;let E:=eg (db n l (at_+(B:Int))) cl;B<k->(((True/\cond C r3.o 1=E.o)/\cond C r3.a 3=E.a)/\cond C r3.b 0=E.b)/\cond C r3.m (bj v1 9)=E.m))/\True)/\k<=15/\15-k<w1))/\(v2=false->(y2=true->((h/\e0)/\True/\i/\g0)/\True/\o1/\e/\(∃v3:Nat,(b0/\c=v3)/\r1=(v3:Int)/\((c=v3/\(∀G:Nat,let I:=Nat.blt G a1;let J:=eg (db n l (at_+((0+G:Nat):Int))) cl;let z3:=eg (db n l (at_+(G:Int))) cl;G<v3->(((True/\cond I J.o 1=z3.o)/\cond I J.a 4=z3.a)/\cond I J.b 0=z3.b)/\cond I J.m (bj v1 4)=z3.m))/\True)/\v3<=15/\15-v3<w1))/\(y2=false->(z2=true->((h/\h0)/\True/\i/\k0)/\aw a3=a3/\True/\o1/\e/\(∃a4:Nat,(b0/\c=a4)/\r1=(a4:Int)/\((c=a4/\(∀K:Nat,let O:=Nat.blt K a1;let R:=eg (db n l (at_+((0+K:Nat):Int))) cl;let e4:=eg (db n l (at_+(K:Int))) cl;K<a4->(((True/\cond O R.o 11=e4.o)/\cond O R.a 2=e4.a)/\cond O R.b 7=e4.b)/\cond O R.m a3=e4.m))/\True)/\a4<=15/\15-a4<w1))/\(z2=false->(b3=true->((h/\l0)/\True/\i/\o0)/\aw c3=c3/\True/\o1/\e/\(∃p:Nat,(b0/\c=p)/\r1=(p:Int)/\((c=p/\(∀S:Nat,let T:=Nat.blt S a1;let U:=eg (db n l (at_+((0+S:Nat):Int))) cl;let V:=eg (db n l (at_+(S:Int))) cl;S<p->(((True/\cond T U.o 10=V.o)/\cond T U.a 5=V.a)/\cond T U.b 7=V.b)/\cond T U.m c3=V.m))/\True)/\p<=15/\15-p<w1))/\(b3=false->(d3=true->((h/\q0)/\True/\i/\r0)/\aw e3=e3/\True/\o1/\e/\(∃q:Nat,(b0/\c=q)/\r1=(q:Int)/\((c=q/\(∀r4:Nat,let W:=Nat.blt r4 a1;let v4:=eg (db n l (at_+((0+r4:Nat):Int))) cl;let X:=eg (db n l (at_+(r4:Int))) cl;r4<q->(((True/\cond W v4.o e3=X.o)/\cond W v4.a 5=X.a)/\cond W v4.b 2=X.b)/\cond W v4.m 0=X.m))/\True)/\q<=15/\15-q<w1))/\(d3=false->(g3=true->((h/\u0)/\True/\i/\v0)/\aw h3=h3/\True/\o1/\e/\(∃r:Nat,(b0/\c=r)/\r1=(r:Int)/\((c=r/\(∀Y:Nat,let z4:=Nat.blt Y a1;let Z:=eg (db n l (at_+((0+Y:Nat):Int))) cl;let b5:=eg (db n l (at_+(Y:Int))) cl;Y<r->(((True/\cond z4 Z.o 13=b5.o)/\cond z4 Z.a 0=b5.a)/\cond z4 Z.b 0=b5.b)/\cond z4 Z.m h3=b5.m))/\True)/\r<=15/\15-r<w1))/\(g3=false->((h/\w0)/\True/\i/\x0)/\True/\o1/\e/\(∃t:Nat,(b0/\c=t)/\r1=(t:Int)/\((c=t/\(∀d5:Nat,let e5:=Nat.blt d5 a1;let g5:=eg (db n l (at_+((0+d5:Nat):Int))) cl;let h5:=eg (db n l (at_+(d5:Int))) cl;d5<t->(((True/\cond e5 g5.o 14=h5.o)/\cond e5 g5.a 0=h5.a)/\cond e5 g5.b 0=h5.b)/\cond e5 g5.m (bj v1 cl)=h5.m))/\True)/\t<=15/\15-t<w1)))))));
 let k5:=d==4;let l5:=(g2->(g2->h2)/\(u2->k3))/\(u2->(k5=true->h2)/\(k5=false->k3));let o5:=d==1;let q5:=o5=true;let r5:=o5=false;let u5:=d==2;a1<=15->(b1=true->aw c1=c1/\(((n=n/\(∀v5:Nat,v5<n->True/\l v5=l v5))/\c1=c1/\True)/\True/\(∀w5:Nat,w5<n->(-9223372036854775808)<=l w5/\l w5<=9223372036854775807)/\0<=c1/\c1<=1000)/\(0<=d1/\(0:Int)<16/\aw g=g)/\((g=g/\(32:Int)=32/\True)/\True/\((-9223372036854775808)<=g/\g<=9223372036854775807)/\(0:Int)<32)/\((d1=d1/\(16:Int)=16/\True)/\True/\((-9223372036854775808)<=d1/\d1<=9223372036854775807)/\(0:Int)<16)/\(k1->(k1->x1)/\(d2->l5))/\(d2->(q5->(q5->x1)/\(r5->l5))/\(r5->(u5=true->x1)/\(u5=false->l5))))/\(b1=false->True/\o1/\(b0/\c=16)/\(c=16/\(∀x5:Nat,let y5:=Nat.blt x5 a1;let z5:=eg (db n l (at_+((0+x5:Nat):Int))) cl;let a6:=gQ n l at_ cl x5;x5<16->(((True/\cond y5 z5.o 12=a6.o)/\cond y5 z5.a 0=a6.a)/\cond y5 z5.b 0=a6.b)/\cond y5 z5.m 0=a6.m))/\True))
set_option maxHeartbeats 1000000 in
theorem Tu:aY Tryz.prog bk 17 Ud:=bn (.cons yN (.cons aar .nil)) false Tryz.call17 Tryz.func17 (λ⟨n,l,at_,cl⟩=> [.inv (acC n l at_ cl)]) (V:=J2) (λ_=>by kernel_rfl) λ⟨n,l,at_,cl⟩ hp=>by
 dsimp only[J1]at hp;dsimp only[J2,tn,aw];simp only[bq,bx,eq_self,implies_true,bo];obtain⟨hl,a0,a1,c0,c1⟩:=hp;unfold fH at hl;refineλs hs=>⟨λh=>?_,λh=>?_⟩
 ·have d:s<15:=by have:=of_decide_eq_true h;omega
  have r:=Ue (n:=n) (l:=l) (i:=at_+s) (by omega) (by omega);have t:=hU (c:=db n l (at_+s)/16) (n:=32) (by decide);have b:eg (db n l (at_+s)) cl=jm (bj (db n l (at_+s)) 16) (bj (db n l (at_+s)/16) 32) cl:=rfl;have key:=λ{x:x_} (g:eg (db n l (at_+s)) cl=x)=>Yy d g;rw[b]at key;refine⟨du (by omega) (by omega),⟨hl,by omega,by omega⟩,⟨by omega,by decide,du (by omega) (by omega)⟩,⟨by omega,by decide⟩,⟨by omega,by decide⟩,?_⟩;generalize bj (db n l (at_+s)) 16=j at*
  generalize bj (db n l (at_+s)/16) 32=k at*
  have u:=hU (c:=k) (n:=9) (by decide);have v:=hU (c:=k) (n:=4) (by decide);have o:=hU (c:=k) (n:=18) (by decide);have p:=hU (c:=k) (n:=20) (by decide);have y:=hU (c:=k) (n:=7) (by decide);have q:=hU (c:=k) (n:=15) (by decide);have z:=hU (c:=k) (n:=cl) (by omega)
  repeat' (first|exact trivial|rfl|(refine And.intro ?_ ?_)|(intro(h:(_:Bool)=_)))
  all_goals first
   |omega
   |exact du (by omega) (by omega)
   |(refine key (x:=⟨_,_,_,_⟩) ?_;clear key b hl;simp only[jm, *,qS,iI,j9,kV,jw,cond_true,cond_false];done)
   |(exfalso;simp_all;done)
   |(refine key (x:=⟨1,3,0,bj k 9⟩) ?_;clear key b hl;simp only[jm, *,qS,iI,j9,kV,jw,cond_true,cond_false];done)
   |(refine key (x:=⟨1,4,0,bj k 4⟩) ?_;clear key b hl;simp only[jm, *,qS,iI,j9,kV,jw,cond_true,cond_false];done)
   |(refine key (x:=⟨11,2,7,32+bj k 18⟩) ?_;clear key b hl;simp only[jm, *,qS,iI,j9,kV,jw,cond_true,cond_false];done)
   |(refine key (x:=⟨10,5,7,30+bj k 20⟩) ?_;clear key b hl;simp only[jm, *,qS,iI,j9,kV,jw,cond_true,cond_false];done)
   |(refine key (x:=⟨3+bj k 7,5,2,0⟩) ?_;clear key b hl;simp only[jm, *,qS,iI,j9,kV,jw,cond_true,cond_false];done)
   |(refine key (x:=⟨13,0,0,2*bj k 15⟩) ?_;clear key b hl;simp only[jm, *,qS,iI,j9,kV,jw,cond_true,cond_false];done)
   |(refine key (x:=⟨14,0,0,bj k cl⟩) ?_;clear key b hl;simp only[jm, *,qS,iI,j9,kV,jw,cond_true,cond_false];done)
 obtain rfl:s=15:=by have:=of_decide_eq_false h;omega
 refine⟨by decide,rfl,rfl,λi A=>?_⟩;unfold gQ;rcases bR i 15 with e|e
 ·rw[gY e];exact⟨⟨⟨rfl,rfl⟩,rfl⟩,rfl⟩
 ·obtain rfl:i=15:=by omega
  exact⟨⟨⟨rfl,rfl⟩,rfl⟩,rfl⟩
end Go.Proofs.YthgmgkabnffniaaGreatDoor
