/- Making things keeps a world sound. -/
import Derived.Test.YthgmgkabnffniaaGreatDoorYO
import Derived.Test.YthgmgkabnffniaaGreatDoorYI
import Derived.Test.YthgmgkabnffniaaGreatDoorYN
set_option linter.unusedVariables false
set_option linter.unusedSimpArgs false
set_option maxRecDepth 100000
namespace Go.Proofs.YthgmgkabnffniaaGreatDoor
open Go.RowKit Go.Sy
theorem T0.new {W:Wd} {K:Nat->Int} {k:Int} (h:T0 W) (G:∀g,g<W.ak->K g=W.kinds g\/(W.kinds g=0/\K g=k)):T0 {W with kinds:=K}:=by
 have z:=h.z;have Y:=z.lines;have Z:=z.tasks;have kp:∀{g},g<W.ak->W.kinds g≠0->K g=W.kinds g:=λ{g} t h0=>(G g t).resolve_right λe=>h0 e.1;have ko:∀{x c:Int},bK W x=c->c≠0->c≠ -1->bK {W with kinds:=K} x=c:=λ{x c} u h0 h1=>by have r:=gv (W:=W) (f:=x) (by rw[u];exact h1);rw[eY r]at u;rw[eY (W:={W with kinds:=K}) r];show K x.toNat=c;rw[kp (by omega) (by rw[u];exact h0)];exact u
 have rd:∀{x c p},RD W x c p->RD {W with kinds:=K} x c p:=λ{x c p} I=>by obtain⟨a,b,q⟩:=I;exact⟨a,by show K x.toNat=6;rw[kp (by omega) (by rw[b];decide)];exact b,q⟩
 have v:∀{g},g<W.ak->W.kinds g≠6->W.tasks g=aF.blank/\cB W g=0/\cu W g=0/\bV W g=0:=λ{g} t l=>by
  obtain⟨s1,s2⟩:=h.I3 l;refine⟨h.bl g t l,s1,s2,kJ.2 λi C=>?_⟩;rcases aT (W.kinds i=6)with e|e
  ·exact beq_eq_false_iff_ne.2 ((h.nR t (by omega) e).2.2.2 l)
  ·rw[h.bl i (by omega) e];exact beq_eq_false_iff_ne.2 (show(-1:Int)≠g by omega)
 refine⟨z.cg rfl rfl,λf j l=>?_,λf j l=>?_,λf j l ho=>?_,λf j l=>?_,λf j l _=>?_,λf j=>?_,λc J=>jv.2 λA=>rd (jv.1 (h.co c J) A),λi C=>iG.2 λk B=>rd (iG.1 (h.rl i C) k B)⟩
 ·have j:f<W.ak:=j;have l:K f≠6:=l;rcases aT (W.kinds f=6)with e|e
  ·rw[kp j (by rw[e];decide)]at l;exact absurd e l
  ·exact h.bl f j e
 ·have j:f<W.ak:=j;rcases aT (W.kinds f=6)with e|e
  ·obtain⟨a,b,c⟩:=h.nm f j e;refine⟨a,b,zi ?_⟩;obtain⟨r1,r2,r3,r4⟩:=wQ c;exact⟨r1.imp_right λe=>ko e (by decide) (by decide),r2.imp_right λe=>ko e (by decide) (by decide),r3.imp_right λe=>ko e (by decide) (by decide),r4.imp_right λe=>ko e (by decide) (by decide)⟩
  ·obtain⟨b,_⟩:=v j e;show gV (W.tasks f)=false/\fk W (W.tasks f)=false/\fx _ (W.tasks f)=true;rw[b];refine⟨by decide,?_,zi ⟨.inl rfl,.inl rfl,.inl rfl,.inl rfl⟩⟩;have:=z.c0;unfold fk;simp only[bX];exact⟨⟨⟨⟨⟨⟨by decide,by decide⟩,by decide⟩,by decide⟩,by decide⟩,ej (show 0<=(0:Int)/\(0:Int)<=(W.aC:Int) -1 by omega)⟩,by decide⟩
 ·have j:f<W.ak:=j;rcases aT (W.kinds f=6)with e|e
  ·exact h.ow f j e ho
  ·exact absurd (show(W.tasks f).ar= -1 by rw[(v j e).1];rfl) ho
 ·have j:f<W.ak:=j;rcases aT (W.kinds f=6)with e|e
  ·exact h.o1 f j e
  ·obtain⟨a,b,c,d⟩:=v j e;have O:bV {W with kinds:=K} f=0:=d;show bV {W with kinds:=K} f<=1/\(¬False->(bV {W with kinds:=K} f=1↔(W.tasks f).st=5));rw[O,a];exact⟨gf _,λ_=>⟨λh=>absurd h (by decide),λh=>absurd h (by decide)⟩⟩
 ·have j:f<W.ak:=j;rcases aT (W.kinds f=6)with e|e
  ·obtain⟨p1,y,R,S⟩:=h.so f j e id;exact⟨λn=>⟨(p1 n).1,(p1 n).2.1,ko (p1 n).2.2.1 (by decide) (by decide),(p1 n).2.2.2⟩,λn=>⟨(y n).1,(y n).2.1,ko (y n).2.2.1 (by decide) (by decide),(y n).2.2.2⟩,R,S⟩
  ·obtain⟨a,b,c,d⟩:=v j e;have T:(({W with kinds:=K}:Wd).tasks f).st=0:=by show(W.tasks f).st=0;rw[a];rfl
   exact .o (.inl T) b c (by show(W.tasks f).loc= -1;rw[a];rfl)
 ·have j:f<W.ak:=j;obtain⟨U,l2,V,X⟩:=dY.1 (h.ln f j);refine dY.2 ⟨λhl=>?_,λE=>?_,V,λk B=>?_⟩
  ·show K f=7\/K f=8;rcases U hl with e|e
   ·exact .inl (by rw[kp j (by rw[e];decide)];exact e)
   ·exact .inr (by rw[kp j (by rw[e];decide)];exact e)
  ·have e:=(l2 E).1;exact⟨by show K f=8;rw[kp j (by rw[e];decide)];exact e,(l2 E).2⟩
  ·obtain⟨a,b,c⟩:=X k B;exact⟨a,by show K (W.lines f k).toNat=6;rw[kp (by omega) (by rw[b];decide)];exact b,c⟩
theorem Xr {x n:Int} (c:0<=x) (h:0<=iJ x n):iJ x n=x%1024/\x≠0:=by
 rcases A3 c n with⟨e,_⟩|⟨a,b,_⟩
 ·omega
 ·exact⟨b,λe=>by rw[e]at a;exact absurd a (by decide)⟩
theorem Xs {W:Wd} {R:Nat->Int} {e:dG} (h:MG W) (z:bQ W) (hs:bK W e.sp=4) (hp:0<=e.pg/\e.pg<=255) (o:∀i,i<W.ay->W.kinds (i/16)=4\/W.kinds (i/16)=3->R i=W.af i) (b:ll W.ay W.af e=false):ll W.ay R e=false:=by
 have y:=z.af;have g:=gv (W:=W) (f:=e.sp) (by rw[hs];decide);rw[eY g]at hs;have j:(e.sp*16+16*e.pg/256).toNat<W.ay:=by omega
 have k1:W.kinds ((e.sp*16+16*e.pg/256).toNat/16)=4:=by rw[show(e.sp*16+16*e.pg/256).toNat/16=e.sp.toNat by omega];exact hs
 have r1:=o _ j (.inl k1);have p:kn W.ay R e.sp (16*e.pg)=kn W.ay W.af e.sp (16*e.pg):=by unfold kn;rw[r1]
 have h0:gT W.ay W.af e.sp (16*e.pg)=0:=by unfold ll at b;simp only[zg,aW,beq_iff_eq]at b;exact b.1.1
 have u:0<=kn W.ay W.af e.sp (16*e.pg):=by
  unfold gT at h0;cases q:xh W.ay e.sp (16*e.pg)with
  |true=>rw[q]at h0;exact absurd (show(2:Int)=0 from h0) (by decide)
  |false=>
   rw[q]at h0;cases hd:decide (kn W.ay W.af e.sp (16*e.pg)<0)with
   |true=>rw[hd]at h0;exact absurd (show(9:Int)=0 from h0) (by decide)
   |false=>have:=of_decide_eq_false hd;omega
 obtain⟨v,t0⟩:=Xr (h.rm _ j).1 u;have d:=(h.e4 _ j t0 k1).2;have k:kn W.ay W.af e.sp (16*e.pg)=W.af (e.sp*16+16*e.pg/256).toNat%1024:=v;rw[<-k]at d;have c:=gv (W:=W) (f:=kn W.ay W.af e.sp (16*e.pg)) (by rw[d];decide);rw[eY c]at d;have r:mW W.ay R e.sp (16*e.pg)=mW W.ay W.af e.sp (16*e.pg):=by unfold mW;rw[p];refine o _ (by omega) (.inr ?_);rw[show(kn W.ay W.af e.sp (16*e.pg)*16+16*e.pg/16%16).toNat/16=(kn W.ay W.af e.sp (16*e.pg)).toNat by omega];exact d
 have t:rD W.ay R e.sp (16*e.pg)=rD W.ay W.af e.sp (16*e.pg):=by unfold rD;rw[r]
 have l:gT W.ay R e.sp (16*e.pg)=gT W.ay W.af e.sp (16*e.pg):=by unfold gT;rw[p,t]
 have x:jO W.ay R e.sp (16*e.pg)=jO W.ay W.af e.sp (16*e.pg):=by unfold jO;rw[l,t]
 have n:jP W.ay R e.sp (16*e.pg)=jP W.ay W.af e.sp (16*e.pg):=by unfold jP;rw[l,r]
 unfold ll at b⊢;rw[l,x,n];exact b
theorem MG.new {W:Wd} {K R:Nat->Int} {k:Int} (h:MG W) (z:bQ W) (u:∀g,g<W.ak->K g=W.kinds g\/(W.kinds g=0/\K g=k)) (v:∀i,i<W.ay->0<=R i/\R i<=65535) (n:∀i,i<W.ay->R i≠W.af i->(W.kinds (i/16)≠3/\W.kinds (i/16)≠4)/\(R i=0\/K (i/16)=W.kinds (i/16))) (o:∀i,i<W.ay->K (i/16)≠W.kinds (i/16)->R i=0):MG {W with kinds:=K,af:=R}:=by
 have ko:∀{x c:Int},bK W x=c->c≠0->c≠ -1->bK {W with kinds:=K,af:=R} x=c:=λ{x c} r h0 h1=>by have p:=gv (W:=W) (f:=x) (by rw[r];exact h1);rw[eY p]at r;rw[eY (W:={W with kinds:=K,af:=R}) p];show K x.toNat=c;rw[(u x.toNat (by omega)).resolve_right λe=>by rw[r]at e;exact h0 e.1];exact r
 refine⟨v,λi l h0 j=>?_,λi l h0 j=>?_,λc y=>?_⟩
 ·have l:i<W.ay:=l;have h0:R i≠0:=h0;have j:K (i/16)=4:=j;show R i -R i%1024=32768/\bK _ (R i%1024)=3;have e:K (i/16)=W.kinds (i/16):=tq λe=>h0 (o i l e);rw[e]at j;have er:R i=W.af i:=tq λt=>(n i l t).1.2 j;rw[er]at h0⊢;have q:=h.e4 i l h0 j;exact⟨q.1,ko q.2 (by decide) (by decide)⟩
 ·have l:i<W.ay:=l;have h0:R i≠0:=h0;have j:K (i/16)=3:=j;show(R i -R i%1024=32768\/R i -R i%1024=49152)/\bK _ (R i%1024)=2;have e:K (i/16)=W.kinds (i/16):=tq λe=>h0 (o i l e);rw[e]at j;have er:R i=W.af i:=tq λt=>(n i l t).1.1 j;rw[er]at h0⊢;have q:=h.e3 i l h0 j;exact⟨q.1,ko q.2 (by decide) (by decide)⟩
 ·obtain⟨a,b,d⟩:=h.tl c y;refine⟨a,λk j=>?_,d⟩;obtain⟨b1,b2,A⟩:=b k j;exact⟨ko b1 (by decide) (by decide),b2,Xs (W:=W) (R:=R) h z b1 b2 (λi l j=>tq λe=>by have:=(n i l e).1;omega) A⟩
theorem abR {W:Wd} {s k n to:Int} (h:dH W s k n to=0):((0<=s/\s<W.ao)/\(0<=to/\to<W.ao))/\(W.aa s.toNat).kind=1/\(2<=k/\k<=8)/\W.kinds (to.toNat/16)=5/\(1<=n/\n<=16)/\to%16+n<=16/\(∀i,i<n.toNat->(W.aa (to.toNat+i)).kind=0)/\iy W s+n<=(W.aa s.toNat).len:=by
 unfold dH at h;cases c1:(decide (s<0)||decide ((W.ao:Int)<=s)||decide (to<0)||decide ((W.ao:Int)<=to))with
 |true=>rw[c1]at h;exact absurd (show(2:Int)=0 from h) (by decide)
 |false=>
 cases c:(W.aa s.toNat).kind==0 with
 |true=>rw[c1,c]at h;exact absurd (show(6:Int)=0 from h) (by decide)
 |false=>
 cases b:((W.aa s.toNat).kind !=1||decide (k<2)||decide (8<k)||W.kinds (to/16).toNat !=5)with
 |true=>rw[c1,c,b]at h;exact absurd (show(3:Int)=0 from h) (by decide)
 |false=>
 cases d:(decide (n<1)||decide (16<n)||decide (16<to%16+n))with
 |true=>rw[c1,c,b,d]at h;exact absurd (show(2:Int)=0 from h) (by decide)
 |false=>
 cases e:z' W n to with
 |true=>rw[c1,c,b,d,e]at h;exact absurd (show(12:Int)=0 from h) (by decide)
 |false=>
 cases j:decide ((W.aa s.toNat).len<iy W s+n)with
 |true=>rw[c1,c,b,d,e,j]at h;exact absurd (show(5:Int)=0 from h) (by decide)
 |false=>
  simp only[bX,decide_eq_false_iff_not,bne_eq_false_iff_eq]at c1 b d j;have g:(to/16).toNat=to.toNat/16:=by omega
  rw[g]at b;refine⟨⟨by omega,by omega⟩,b.1.1.1,by omega,b.2,by omega,by omega,λi l=>?_,by omega⟩;unfold z' at e;have:=lr.1 e i l;simpa using this
theorem Sx.make {W:Wd} (h:Sx W) (s k n to:Int):Sx (oZ W s k n to):=by
 have p:=h.sp;have z:=h.1.z;have Y:=z.af;have zs:=z.aa;cases l:dH W s k n to==0 with
 |false=>
  have e:oZ W s k n to=W:=by unfold oZ;rw[show jH W s k n to=W.af by funext i;unfold jH;rw[l];rfl,show jI W s k n to=W.kinds by funext i;unfold jI;rw[l];rfl,show iK W s k n to=W.aa by funext i;unfold iK;rw[l];rfl]
  rw[e];exact h
 |true=>
  obtain⟨⟨hs,I⟩,c,J,v,Z,K,x,j⟩:=abR (eq_of_beq l);obtain⟨S,rfl⟩:∃S:Nat,s=S:=⟨s.toNat,by omega⟩;obtain⟨T,rfl⟩:∃T:Nat,to=T:=⟨to.toNat,by omega⟩;obtain⟨N,rfl⟩:∃N:Nat,n=N:=⟨n.toNat,by omega⟩;rw[cj]at c v j;rw[cj,cj]at x;have o:S<W.ao:=by omega
  obtain⟨s1,s2,s3,_⟩:=p.k.s1 S o (by omega);have sc:=Bk s2 c;have sr:=iY s2;have B:iy W S=(W.aa S).mark\/(iy W S=0/\∀i,i<W.ao->(W.aa i).from_≠(S:Int)):=by
   unfold iy;cases E:rf W.ao W.aa S with
   |true=>exact .inl (by rw[cj];rfl)
   |false=>refine .inr ⟨rfl,λi y=>?_⟩;unfold rf at E;exact beq_eq_false_iff_ne.1 (lr.1 E i y)
  have O:0<=iy W S:=by rcases B with e|⟨e,_⟩<;>omega
  have U:(gF W S:Int)=(W.aa S).base+iy W S:=by unfold gF;rw[cj];omega
  have q:=p.k.mk' (n:=N) (to:=T) (u:=iy W S) (k:=k) (R:=gB W S N) o c J (by omega) (by omega) (by omega) v x B j U;have C:∀g,g<W.ak->eC W S k N g=W.kinds g\/(W.kinds g=0/\eC W S k N g=k):=λg G=>by
   unfold eC;cases e:cp (gF W S) N g with
   |false=>exact .inl rfl
   |true=>
    refine .inr ⟨?_,rfl⟩;have e:=fM.1 e;have r:bU (W.aa S) g=true:=sM.2 ⟨c,by omega,by omega⟩;rcases B with A|⟨_,A⟩
    ·refine fN λh0=>?_;have:=(p.k.ky g G h0).2 S o;rw[wj.2 ⟨r,by omega⟩]at this;cases this
    ·exact p.k.bare o A G r
  have hm:MG {W with kinds:=eC W S k N,af:=gB W S N}:=p.m.new z C (λi y=>by
   unfold gB;cases cp (gF W S*16) (N*16) i
   ·exact p.m.rm i y
   ·exact⟨oF 0,(by decide:(0:Int)<=65535)⟩) (λi y b=>by
   unfold gB at b⊢;cases e:cp (gF W S*16) (N*16) i with
   |false=>rw[e]at b;exact absurd rfl b
   |true=>
    refine⟨?_,.inl rfl⟩;have e:=fM.1 e;have g:=(C (i/16) (by omega));have:eC W S k N (i/16)=k:=by unfold eC;rw[fM.2 (by omega)];rfl
    rcases g with g|g
    ·have r:W.kinds (i/16)=0:=by
      have r:bU (W.aa S) (i/16)=true:=sM.2 ⟨c,by omega,by omega⟩;rcases B with A|⟨_,A⟩
      ·refine fN λh0=>?_;have:=(p.k.ky _ (by omega) h0).2 S o;rw[wj.2 ⟨r,by omega⟩]at this;cases this
      ·exact p.k.bare o A (by omega) r
     omega
    ·omega) (λi y b=>by
   unfold eC at b;cases e:cp (gF W S) N (i/16)with
   |false=>rw[e]at b;exact absurd rfl b
   |true=>have e:=fM.1 e;unfold gB;rw[fM.2 (by omega)];rfl)
  have V:T0 {W with kinds:=eC W S k N}:=T0.new (k:=k) p.t C;have X:oZ W S k N T={W with af:=gB W S N,kinds:=eC W S k N,aa:=rh W S k N T}:=by unfold oZ;rw[show jH W S k N T=gB W S N by funext i;unfold jH;rw[l];rfl,show jI W S k N T=eC W S k N by funext i;unfold jI;rw[l];rfl,show iK W S k N T=rh W S k N T by funext i;unfold iK;rw[l];rfl]
  rw[X];exact SP.snd ⟨q,V.other (gB W S N) (rh W S k N T) W.aD W.ax,hm.other rfl rfl rfl rfl rfl rfl rfl,p.d⟩
def xc:bM:=⟨0,0,0,0,0,0,-1⟩
def Sl:dG:=⟨0,0,0,false⟩
def W0:Wd:=⟨0,λ_=>0,0,λ_=>0,0,λ_=>xc,0,λ_=>aF.blank,0,λ_=>0,λ_ _=>0,0,λ_=>0,0,λ_=>0,0,λ_=>0,λ_ _=>0,0,λ_=>0,λ_ _=>Sl,0,λ_=>0,0⟩
def zF (bW ai:Int) (n:Nat) (aA:Nat->Int):Wd:=
 ⟨(bW*16).toNat,λ_=>0,bW.toNat,λ_=>0,(bW*16).toNat,λ_=>xc,bW.toNat,λ_=>aF.blank,bW.toNat,λ_=>0,λ_ _=>0,bW.toNat,λ_=>0,ai.toNat,λ_=> -1,(ai*4).toNat,λ_=>0,λ_ _=>0,ai.toNat,λ_=>0,λ_ _=>Sl,n,aA,0⟩
def xd (bW ai:Int) (n:Nat):Bool:=decide (bW<1)||decide (24<bW)||decide (ai<1)||decide (4<ai)||decide (n<1)||decide (8<n)
def Db (n:Nat) (aA:Nat->Int):Nat:=dz n λi=>az (aA i) 3
def oN (bW ai:Int) (n:Nat) (aA:Nat->Int):Bool:=!xd bW ai n&&Nat.ble n (Db n aA)
def aae (n:Nat) (aA:Nat->Int):cQ where
 σ:=Nat
 rt:= [(6,0),(7,0)]
 sh i:= [(6,cm 0),(7,cm 1),(8,.v (.int .i64 i))]
 mh _:= []
 inv i:=i<=n/\∀j,j<i->az (aA j) 3=false
 μ i:=n -i
 init:=0
def aaf (bW ai:Int) (n:Nat):cQ where
 σ:=Nat
 rt:= [(6,0),(7,0),(9,0)]
 nc:= [(9,2,7)]
 sh i:= [(6,cm 0),(7,cm 1),(9,cm 2),(10,.v (.int .i64 i))]
 mh i:= [(2,.cells [.aS 3 0 none 0 ((bW*16).toNat),.aS 4 0 none 0 (bW.toNat),.aS 5 0 none 0 (i),.v (.slice none 0 0),.aS 6 0 none 0 (bW.toNat),.aS 7 0 none 0 (bW.toNat),.v (.slice none 0 0),.aS 8 0 none 0 ((ai*4).toNat),.aS 9 0 none 0 (ai.toNat),.aS 10 0 none 0 (n),.v (.int .i64 0)]),(5,.row 7 i λ_ j=>aN (mU xc) j)]
 inv i:=i<=(bW*16).toNat
 μ i:=(bW*16).toNat -i
 init:=0
def aag (bW ai:Int) (n:Nat):cQ where
 σ:=Nat
 rt:= [(6,0),(7,0),(9,0)]
 nc:= [(9,3,20)]
 sh i:= [(6,cm 0),(7,cm 1),(9,cm 2),(11,.v (.int .i64 i))]
 mh i:= [(2,.cells [.aS 3 0 none 0 ((bW*16).toNat),.aS 4 0 none 0 (bW.toNat),.aS 5 0 none 0 ((bW*16).toNat),.aS 6 0 none 0 (i),.aS 7 0 none 0 (bW.toNat),.aS 8 0 none 0 (bW.toNat),.v (.slice none 0 0),.aS 9 0 none 0 ((ai*4).toNat),.aS 10 0 none 0 (ai.toNat),.aS 11 0 none 0 (n),.v (.int .i64 0)]),(6,.row 20 i λ_ j=>aN (la aF.blank) j)]
 inv i:=i<=bW.toNat
 μ i:=bW.toNat -i
 init:=0
def aah (bW ai:Int) (n:Nat):cQ where
 σ:=Nat
 rt:= [(6,0),(7,0),(9,0)]
 nc:= [(9,6,1)]
 sh i:= [(6,cm 0),(7,cm 1),(9,cm 2),(12,.v (.int .i64 i))]
 mh i:= [(2,.cells [.aS 3 0 none 0 ((bW*16).toNat),.aS 4 0 none 0 (bW.toNat),.aS 5 0 none 0 ((bW*16).toNat),.aS 6 0 none 0 (bW.toNat),.aS 7 0 none 0 (bW.toNat),.aS 8 0 none 0 (bW.toNat),.aS 9 0 none 0 (i),.aS 10 0 none 0 ((ai*4).toNat),.aS 11 0 none 0 (ai.toNat),.aS 12 0 none 0 (n),.v (.int .i64 0)]),(9,.row 1 i λ_ j=>aN ([.v (.int .i64 (-1))]) j)]
 inv i:=i<=ai.toNat
 μ i:=ai.toNat -i
 init:=0
theorem dx {z:Int} (h1: -9223372036854775808<=z) (h2:z<=9223372036854775807):IntKind.i64.wrap z=z:=by rw[IntKind.wrap_i64];omega
theorem mV {a b:Nat} (h:a<b):Nat.blt a b=true:=by unfold Nat.blt;exact iC h
theorem AV {a b:Nat} (h:b<=a):Nat.blt a b=false:=by
 cases e:Nat.blt a b with
 |false=>rfl
 |true=>unfold Nat.blt at e;have:=bP e;omega
theorem oY {a b:Nat} (h:a≠b):Nat.beq a b=false:=by
 cases e:Nat.beq a b with
 |false=>rfl
 |true=>exact absurd (a_ e) h
def gp (s:ByteArray) (i:Nat):Int:=((s.data.toList.getD i 0).toNat:Int)
def df (s:ByteArray) (c:Int):Nat->Nat
 |0=>0
 |i+1=>bif gp s i==c then df s c i+1 else df s c i
def gq (s:ByteArray) (c:Int):Nat->Nat
 |0=>0
 |i+1=>bif gp s i==c then i+1 else gq s c i
def iU (s:ByteArray) (c:Int):Nat->Nat->ByteArray
 |0,_=>ByteArray.empty
 |i+1,k=>bif gp s i==c&&Nat.beq k (df s c i)then s.extract (gq s c i) i else iU s c i k
def sF (f:Nat->ByteArray):Nat->Nat->SV:=λi _=> .v (.string (f i))
def fU (s:ByteArray) (c:Int):Nat:=df s c s.size+1
def dn (s:ByteArray) (c:Int) (k:Nat):ByteArray:=bif Nat.blt k (df s c s.size)then iU s c s.size k else s.extract (gq s c s.size) s.size
theorem zu (s:ByteArray) (c:Int):∀i,df s c i<=i
 |0=>bc _
 |i+1=>by have:=zu s c i;simp only[df];cases gp s i==c<;>simp<;>omega
theorem C3 (s:ByteArray) (c:Int):∀i,gq s c i<=i
 |0=>bc _
 |i+1=>by have:=C3 s c i;simp only[gq];cases gp s i==c<;>simp<;>omega
def aco (s:ByteArray) (c:Int):cQ where
 σ:=Nat
 rt:= [(5,1)]
 sh i:= [(5,.aS 0 0 none 0 (df s c i)),(6,.v (.int .i64 (gq s c i))),(7,.v (.int .i64 i))]
 mh i:= [(0,.row 1 (df s c i) (sF (iU s c i)))]
 inv i:=i<=s.size
 μ i:=s.size -i
 init:=0
structure wW where
 (s:ByteArray) (c:Int)
def C1:Sy.Spec:=⟨wW,λ⟨s,c⟩=> [.v (.string s),.v (.int .u8 c)],λ_=> [],λ⟨s,_⟩=>s.size<=4000,λ⟨s,c⟩=> .aS 0 0 none 0 (fU s c),λ⟨s,c⟩=> [.row 1 (fU s c) (sF (dn s c))],
 λargs mem=>match args with| [a0,a1]=>some ⟨tN (a0),av a1⟩|_=>none⟩
def aaj:aZ:=⟨[],(C1).g,none⟩
def Qc:wW->Prop:=λ⟨s,c⟩=>let a0:=0=df s c 0;let b0:=ByteArray.size s;let c0:=(b0:Int);let d0:=fU s c;(0=0/\a0)/\0=((gq s c 0:Nat):Int)/\0=((0:Nat):Int)/\((a0/\(∀e0:Nat,e0<df s c 0->True/\SV.aI=SV.v (Value.string (iU s c 0 e0))))/\True)/\0<=b0/\(∀b:Nat,let h0:=(b:Int);let k0:=decide (h0<c0);let i:=((UInt8.toNat (List.getD s.data.toList (Int.toNat h0) 0):Nat):Int)==c;let o0:=((gq s c b:Nat):Int);let j:=0<=o0;let r0:=df s c b;let g:=r0+1;let v0:=g*16<=140737488355328/\(∀w0:Nat,true=true);let e:Int:=h0+1;let h:=aw e=e;let z0:=Int.toNat o0;let a1:=g=d0;b<=b0->(k0=true->(0<=h0/\h0<c0)/\(i=true->(j/\o0<=h0/\h0<=c0)/\True/\v0/\h/\h/\(∃b1:Nat,let c1:=g=df s c b1;(0=0/\c1)/\e=((gq s c b1:Nat):Int)/\e=(b1:Int)/\((c1/\(∀d1:Nat,d1<df s c b1->True/\cond (Nat.blt d1 r0) (iU s c b (0+d1)) (ByteArray.extract s z0 (Int.toNat h0))=iU s c b1 d1))/\True)/\b1<=b0/\b0-b1<b0-b))/\(i=false->h/\(∃d:Nat,let k:=r0=df s c d;(0=0/\k)/\o0=((gq s c d:Nat):Int)/\e=(d:Int)/\((k/\(∀h1:Nat,h1<df s c d->True/\iU s c b h1=iU s c d h1))/\True)/\d<=b0/\b0-d<b0-b)))/\(k0=false->(j/\o0<=c0/\c0<=c0)/\True/\v0/\(0=0/\a1)/\(a1/\(∀k1:Nat,k1<d0->True/\cond (Nat.blt k1 r0) (iU s c b (0+k1)) (ByteArray.extract s z0 (Int.toNat c0))=dn s c k1))/\True))
set_option maxHeartbeats 1000000 in
theorem N0:aY Tryz.prog bk 39 aaj:=bn .nil false Tryz.call39 Tryz.func39 (λ⟨s,c⟩=> [.inv (aco s c)]) (V:=Qc) (λ_=>by kernel_rfl) λ⟨s,c⟩ hp=>by
 dsimp only[C1]at hp;dsimp only[Qc,tn,aw];simp only[bq,bx,eq_self,implies_true,bo];refine⟨rfl,rfl,⟨rfl,λk d=>absurd d (dS _)⟩,λi n=>⟨λh1=>?_,λh1=>?_⟩⟩
 ·have h:i<s.size:=by have:=of_decide_eq_true h1;omega
  have j:=zu s c i;have l:=C3 s c i;refine⟨by omega,λh2=>?_,λh2=>?_⟩
  ·have h2:(gp s i==c)=true:=h2;have b:df s c (i+1)=df s c i+1:=by rw[df,h2];rfl
   have g:gq s c (i+1)=i+1:=by rw[gq,h2];rfl
   refine⟨by omega,by omega,dx (by omega) (by omega),dx (by omega) (by omega),i+1,b.symm,by rw[g];omega,by omega,⟨b.symm,λk d=>?_⟩,by omega,by omega⟩;rw[b]at d;rw[iU,h2,qO];rcases(show k<df s c i\/k=df s c i by omega)with e|e
   ·rw[mV e,oY (by omega)];rfl
   ·subst e;rw[AV (bc _),cy];rfl
  ·have h2:(gp s i==c)=false:=h2;have b:df s c (i+1)=df s c i:=by rw[df,h2];rfl
   have g:gq s c (i+1)=gq s c i:=by rw[gq,h2];rfl
   refine⟨dx (by omega) (by omega),i+1,b.symm,by rw[g],by omega,⟨b.symm,λk d=>?_⟩,by omega,by omega⟩;rw[iU,h2];rfl
 ·obtain rfl:i=s.size:=by have:=of_decide_eq_false h1;omega
  have j:=zu s c s.size;have l:=C3 s c s.size;exact⟨⟨by omega,oF _⟩,by omega,rfl,rfl,λk _=>rfl⟩
def dw:Nat->(Nat->Bool)->Bool
 |0,_=>true
 |n+1,p=>dw n p&&p n
theorem fL {p:Nat->Bool}:∀{n},dw n p=true↔∀i,i<n->p i=true
 |0=>⟨λ_ i h=>absurd h (dS _),λ_=>rfl⟩
 |n+1=>by
  unfold dw;rw[aW,fL];refine⟨λh i b=>?_,λh=>⟨λi b=>h i (by omega),h n (by omega)⟩⟩;rcases bR i n with e|e
  ·exact h.1 i e
  ·rw[show i=n by omega];exact h.2
def me (s:ByteArray) (i:Nat):Bool:=!(decide (gp s i<48)||decide (57<gp s i))
def mf (s:ByteArray):Nat->Int
 |0=>0
 |i+1=>mf s i*10+(gp s i -48)
def bC (s:ByteArray):Int:=bif Nat.beq s.size 0||decide (5<s.size)||(gp s 0==48&&decide (1<s.size))then -1 else bif dw s.size (me s)then mf s s.size else -1
theorem Hz {s:ByteArray}:∀{i},i<=5->(∀j,j<i->me s j=true)->0<=mf s i/\mf s i<10^i
 |0,_,_=>⟨oF 0,show(0:Int)<1 by decide⟩
 |i+1,c,h=>by have a:=Hz (i:=i) (by omega) λj d=>h j (by omega);have b:=h i (by omega);unfold me at b;simp only[dT,bX,decide_eq_false_iff_not]at b;rw[mf,Int.pow_succ];omega
theorem N4 (s:ByteArray):∀n i r,s.size -i=n->ByteArray.toList.loop s i r=r.reverse++s.data.toList.drop i
 |0,i,r,h=>by have hs:s.data.toList.length=s.size:=kX;rw[ByteArray.toList.loop,if_neg (by omega),GP (by omega),yT]
 |n+1,i,r,h=>by
  have hs:s.data.toList.length=s.size:=kX;rw[ByteArray.toList.loop,if_pos (by omega),N4 s n (i+1) _ (by omega),FN,mC,CA (show i<s.data.toList.length by omega)];have e:s.get! i=s.data.toList[i]'(by omega):=by show s.data[i]! =_;rw[getElem!_pos s.data i (by have:s.data.size=s.size:=rfl;omega),Array.getElem_toList]
  rw[e];rfl
theorem Du (s:ByteArray):s.toList=s.data.toList:=by show ByteArray.toList.loop s 0 []=_;rw[N4 s _ 0 [] rfl];rfl
theorem S8 {s:ByteArray}:(s.toList==({data:= #[]}:ByteArray).toList)=Nat.beq s.size 0:=by rw[Du,Du];have hs:s.data.toList.length=s.size:=kX;rw[<-hs];show(s.data.toList== [])=_;cases s.data.toList<;>rfl
def acn (s:ByteArray):cQ where
 σ:=Nat
 rt:= []
 sh i:= [(3,.v (.int .i64 (mf s i))),(4,.v (.int .i64 i))]
 mh _:= []
 inv i:=i<=s.size/\∀j,j<i->me s j=true
 μ i:=s.size -i
 init:=0
structure C2 where
 (s:ByteArray)
def Hy:Sy.Spec:=⟨C2,λ⟨s⟩=> [.v (.string s)],λ_=> [],λ⟨s⟩=>s.size<=4000,λ⟨s⟩=> .v (.int .i64 (bC s)),λ_=> [],
 λargs mem=>match args with| [a0]=>some ⟨tN (a0)⟩|_=>none⟩
def aai:aZ:=⟨[],(Hy).g,none⟩
def Qb:C2->Prop:=λ⟨s⟩=>let a0:=ByteArray.size s;let b0:=(a0:Int);let c0:=cond (ByteArray.toList s==ByteArray.toList (ByteArray.mk (List.toArray List.nil))) true (decide (5<b0));let d0:=s.data.toList;let e0:=cond c0 true (cond (((UInt8.toNat (List.getD d0 (Int.toNat 0) 0):Nat):Int)==48) (decide (1<b0)) false);let g:=(-1)=bC s/\True;(c0=false->(0:Int)<=0/\0<b0)/\(e0=true->g)/\(e0=false->0=mf s 0/\0=((0:Nat):Int)/\True/\(0<=a0/\(∀h0:Nat,h0<0->me s h0=true))/\(∀k0:Nat,let b:=(k0:Int);let o0:=decide (b<b0);let d:=0<=b/\b<b0;let r0:=((UInt8.toNat (List.getD d0 (Int.toNat b) 0):Nat):Int);let h:=decide (r0<48);let v0:=cond h true (decide (57<r0));let w0:Int:=mf s k0*10;let c:Int:=r0-48;let e:Int:=w0+c;let z0:Int:=b+1;k0<=a0/\(∀a1:Nat,a1<k0->me s a1=true)->(o0=true->d/\(h=false->d)/\(v0=true->g)/\(v0=false->aw w0=w0/\d/\IntKind.wrap IntKind.u8 c=c/\aw c=c/\aw e=e/\aw z0=z0/\(∃b1:Nat,e=mf s b1/\z0=(b1:Int)/\True/\(b1<=a0/\(∀c1:Nat,c1<b1->me s c1=true))/\a0-b1<a0-k0)))/\(o0=false->mf s k0=bC s/\True)))
set_option maxHeartbeats 1000000 in
theorem Yt:aY Tryz.prog bk 91 aai:=bn .nil false Tryz.call91 Tryz.func91 (λ⟨s⟩=> [.inv (acn s)]) (V:=Qb) (λ_=>by kernel_rfl) λ⟨s⟩ hp=>by
 dsimp only[Hy]at hp;dsimp only[Qb,tn,aw];simp only[bq,bx,eq_self,implies_true,bo];rw[S8];have z0:(s.data.toList.getD (Int.toNat 0) 0).toNat=(s.data.toList.getD 0 0).toNat:=rfl;have hd:bC s=bif Nat.beq s.size 0||decide (5<s.size)||(gp s 0==48&&decide (1<s.size))then -1 else bif dw s.size (me s)then mf s s.size else -1:=rfl;have k:decide (5<(s.size:Int))=decide (5<s.size):=by rw[decide_eq_decide];omega
 have l:decide (1<(s.size:Int))=decide (1<s.size):=by rw[decide_eq_decide];omega
 rw[k,l];refine⟨λh=>?_,λh=>?_,λh=>⟨rfl,λi c=>⟨λh1=>?_,λh1=>?_⟩⟩⟩
 ·rw[bX]at h;have:=h.1;have h0:s.size≠0:=λe=>by rw[e]at this;cases this
  omega
 ·rw[hd,show(Nat.beq s.size 0||decide (5<s.size)||(gp s 0==48&&decide (1<s.size)))=true from h];rfl
 ·have d:i<s.size:=by have:=of_decide_eq_true h1;omega
  have t:s.size<=5:=by simp only[bX,decide_eq_false_iff_not]at h;omega
  have u:=Hz (i:=i) (by omega) c.2;have hp:(10:Int)^i<=10^5:=by rcases(show i=0\/i=1\/i=2\/i=3\/i=4 by omega)with e|e|e|e|e<;>subst e<;>decide
  have n:(10:Int)^5=100000:=by decide
  refine⟨by omega,λ_=>by omega,λh2=>?_,λh2=>?_⟩
  ·rw[hd,show(Nat.beq s.size 0||decide (5<s.size)||(gp s 0==48&&decide (1<s.size)))=false from h];cases q:dw s.size (me s)with
   |false=>rfl
   |true=>have q:=fL.1 q i d;unfold me at q;rw[show(decide (gp s i<48)||decide (57<gp s i))=true from h2]at q;cases q
  ·have b:(decide (gp s i<48)||decide (57<gp s i))=false:=h2;have o:me s i=true:=by unfold me;rw[b];rfl
   simp only[bX,decide_eq_false_iff_not]at b;have p:((s.data.toList.getD i 0).toNat:Int)=gp s i:=rfl;rw[p];refine⟨dx (by omega) (by omega),by omega,by rw[IntKind.wrap_u8];omega,dx (by omega) (by omega),dx (by omega) (by omega),dx (by omega) (by omega),i+1,rfl,by omega,⟨by omega,λj v=>?_⟩,by omega⟩;rcases bR j i with e|e
   ·exact c.2 j e
   ·rw[show j=i by omega];exact o
 ·obtain⟨r,g⟩:=c;obtain rfl:i=s.size:=by have:=of_decide_eq_false h1;omega
  rw[hd,show(Nat.beq s.size 0||decide (5<s.size)||(gp s 0==48&&decide (1<s.size)))=false from h,fL.2 g];rfl
def ix (s:ByteArray):Nat:=bif Nat.beq (dn s 10 (fU s 10 -1)).size 0 then fU s 10 -1 else fU s 10
def vR:ByteArray:={data:= #[45]}
def jt (s:ByteArray):Bool:=(s.toList==vR.toList)||decide (0<=bC s)
def gH (n:Nat) (f:Nat->ByteArray):Int:=bif dw n (λi=>jt (f i))then 0 else 1
def oo (n:Nat) (f:Nat->ByteArray):Nat:=bif dw n (λi=>jt (f i))then n else 0
def S7 (f:Nat->Int):Nat->Nat->SV:=λi _=> .v (.int .i64 (f i))
def acm (f:Nat->ByteArray) (n:Nat):cQ where
 σ:=Nat
 rt:= [(4,1)]
 sh i:= [(4,.aS 0 0 none 0 i),(5,.v (.int .i64 i))]
 mh i:= [(0,.row 1 i (S7 λj=>bC (f j)))]
 inv i:=i<=n/\∀j,j<i->jt (f j)=true
 μ i:=n -i
 init:=0
structure BU where
 (s:ByteArray)
def FJ:Sy.Spec:=⟨BU,λ⟨s⟩=> [.v (.string s)],λ_=> [],λ⟨s⟩=>s.size<=4000,λ⟨s⟩=> .aS 0 0 none 0 (ix s),λ⟨s⟩=> [.row 1 (fU s 10) (sF (dn s 10))],
 λargs mem=>match args with| [a0]=>some ⟨tN (a0)⟩|_=>none⟩
def WM:aZ:=⟨[],(FJ).g,none⟩
def Mj:BU->Prop:=λ⟨s⟩=>let a0:=fU s 10;let b0:=(a0:Int);let c0:=b0<=9223372036854775807;let d0:Int:=b0-1;let e0:=aw d0=d0;let b:=0<=d0;let h0:=Int.toNat d0;let k0:=ByteArray.toList (dn s 10 (0+h0))==ByteArray.toList (ByteArray.mk (List.toArray List.nil));let c:=(a0=a0/\(∀o0:Nat,o0<a0->True/\dn s 10 o0=dn s 10 o0))/\True;((s=s/\(10:Int)=10/\True)/\True/\C1.match_1 (λd:wW=>Prop) (wW.mk s 10) (λr0:ByteArray=>λe:Int=>ByteArray.size r0<=4000))/\(c0->e0/\(b/\d0<b0)/\(k0=true->c0->e0/\((0:Int)<=0/\b/\d0<=b0)/\(0=0/\h0-Int.toNat 0=ix s)/\c)/\(k0=false->(0=0/\a0=ix s)/\c))
set_option maxHeartbeats 1000000 in
theorem Ve:aY Tryz.prog bk 38 WM:=bn (.cons N0 .nil) false Tryz.call38 Tryz.func38 (λ_=> []) (V:=Mj) (λ_=>by kernel_rfl) λ⟨s⟩ hp=>by
 dsimp only[FJ]at hp;dsimp only[Mj,tn,aw];simp only[bq,bx,eq_self,implies_true,bo];have h:=zu s 10 s.size;have b:fU s 10=df s 10 s.size+1:=rfl;have hd:ix s=bif Nat.beq (dn s 10 (fU s 10 -1)).size 0 then fU s 10 -1 else fU s 10:=rfl;have e:((fU s 10:Int) -1).toNat=fU s 10 -1:=by omega
 rw[S8,e];refine⟨hp,λ_=>⟨dx (by omega) (by omega),by omega,λh1 _=>⟨dx (by omega) (by omega),by omega,?_⟩,λh1=>?_⟩⟩
 ·rw[hd,h1];rfl
 ·rw[hd,h1];rfl
structure N1 where
 (n:Nat) (f:Nat->ByteArray)
def N2:Sy.Spec:=⟨N1,λ⟨n,f⟩=> [.sl true 1 n (λb _=> .v (.string (f b)))],λ_=> [],λ⟨n,f⟩=>n<=4000/\∀i,i<n->(f i).size<=4000,λ⟨n,f⟩=> .tp 2 (aN [.sl false 1 (oo n f) (S7 λj=>bC (f j)),.v (.int .i64 (gH n f))]),λ_=> [],
 λargs mem=>match args with| [a0]=>some ⟨bT a0,λi=>tN (bO a0 i 0)⟩|_=>none⟩
def Ys:aZ:=⟨[],(N2).g,none⟩
def N3:N1->Prop:=λ⟨n,f⟩=>let a0:=(n:Int);let b0:=ByteArray.toList (ByteArray.mk (List.toArray [(45:UInt8)]));let c0:=oo n f;(0=0/\0=0)/\0=((0:Nat):Int)/\((0=0/\(∀d0:Nat,d0<0->True/\SV.aI=SV.v (Value.int IntKind.i64 (bC (f d0)))))/\True)/\(0<=n/\(∀e0:Nat,e0<0->jt (f e0)=true))/\(∀b:Nat,let h0:=(b:Int);let k0:=decide (h0<a0);let d:=0<=h0/\h0<a0;let o0:=f (Int.toNat h0);let e:=bC o0;let r0:=cond (ByteArray.toList o0 !=b0) (decide (e<0)) false;let c:Int:=h0+1;b<=n/\(∀v0:Nat,v0<b->jt (f v0)=true)->a0<=9223372036854775807->(k0=true->d/\((o0=o0/\True)/\True/\Hy.match_1 (λw0:C2=>Prop) (C2.mk o0) (λg:ByteArray=>ByteArray.size g<=4000))/\d/\(r0=true->((True/\c0=0)/\1=gH n f)/\True)/\(r0=false->True/\((b+1)*8<=140737488355328/\(∀h:Nat,true=true))/\aw c=c/\(∃z0:Nat,(0=0/\b+1=z0)/\c=(z0:Int)/\((b+1=z0/\(∀a1:Nat,a1<z0->True/\cond (Nat.blt a1 b) (bC (f (0+a1))) (List.getD [e] (0+(a1-b)) 0)=bC (f a1)))/\True)/\(z0<=n/\(∀b1:Nat,b1<z0->jt (f b1)=true))/\n-z0<n-b)))/\(k0=false->((True/\b=c0/\(∀c1:Nat,c1<c0->True/\bC (f (0+c1))=bC (f c1)))/\0=gH n f)/\True))
set_option maxHeartbeats 1000000 in
theorem Mi:aY Tryz.prog bk 62 Ys:=bn (.cons Yt .nil) false Tryz.call62 Tryz.func62 (λ⟨n,f⟩=> [.inv (acm f n)]) (V:=N3) (λ_=>by kernel_rfl) λ⟨n,f⟩ hp=>by
 dsimp only[N2]at hp;dsimp only[N3,tn,aw];simp only[bq,bx,eq_self,implies_true,bo];have c:oo n f=bif dw n (λi=>jt (f i))then n else 0:=rfl;have d:gH n f=bif dw n (λi=>jt (f i))then 0 else 1:=rfl;refineλi j _=>⟨λh1=>?_,λh1=>?_⟩
 ·have g:i<n:=by have:=of_decide_eq_true h1;omega
  have h:jt (f i)=!((f i).toList !=vR.toList&&decide (bC (f i)<0)):=by
   unfold jt;show _=!(!((f i).toList==vR.toList)&&decide (bC (f i)<0));cases (f i).toList==vR.toList
   ·show decide (0<=bC (f i))=!decide (bC (f i)<0);rcases tv (bC (f i)) 0 with e|e
    ·rw[decide_eq_true e,decide_eq_false (by omega)];rfl
    ·rw[decide_eq_false (show¬bC (f i)<0 by omega),decide_eq_true e];rfl
   ·rfl
  refine⟨by omega,hp.2 i g,by omega,λh2=>?_,λh2=>?_⟩
  ·have l:dw n (λi=>jt (f i))=false:=by
    cases q:dw n (λi=>jt (f i))with
    |false=>rfl
    |true=>have:=fL.1 q i g;rw[h,show((f i).toList !=vR.toList&&decide (bC (f i)<0))=true from h2]at this;cases this
   rw[c,d,l];exact⟨rfl,rfl⟩
  ·rw[show((f i).toList !=vR.toList&&decide (bC (f i)<0))=false from h2]at h;refine⟨by omega,dx (by omega) (by omega),i+1,rfl,by omega,⟨rfl,λk o=>?_⟩,⟨by omega,λk o=>?_⟩,by omega⟩
   ·rcases bR k i with e|e
    ·rw[mV e];rfl
    ·rw[show k=i by omega,AV (bc _),Nat.sub_self];rfl
   ·rcases bR k i with e|e
    ·exact j.2 k e
    ·rw[show k=i by omega];exact h
 ·obtain⟨a,b⟩:=j;obtain rfl:i=n:=by have:=of_decide_eq_false h1;omega
  rw[c,d,fL.2 b];exact⟨rfl,rfl⟩
structure Jz where
 (bW ai:Int) (n:Nat) (aA:Nat->Int)
def JA:Sy.Spec:=⟨Jz,λ⟨bW,ai,n,aA⟩=> [.v (.int .i64 bW),.v (.int .i64 ai),.sl true 1 n (λc _=> .v (.int .i64 (aA c)))],λ_=> [],λ⟨bW,ai,n,aA⟩=>oN bW ai n aA=true,λ⟨bW,ai,n,aA⟩=> .tp 2 (aN [xI 0 (zF bW ai n aA),.ag 2 (aN [.v (.int .i64 0),.v (.int .i64 (-1))])]),λ⟨bW,ai,n,aA⟩=>tI (zF bW ai n aA),
 λargs mem=>match args with| [a0,a1,b]=>some ⟨av (a0),av (a1),bT b,λi=>av (bO b i 0)⟩|_=>none⟩
def TD:aZ:=⟨[],(JA).g,none⟩
def JB:Jz->Prop:=λ⟨bW,ai,n,aA⟩=>let a0:=(n:Int);let b0:=cond (cond (cond (cond (cond (decide (bW<1)) true (decide (24<bW))) true (decide (ai<1))) true (decide (4<ai))) true (decide (a0<1))) true (decide (8<a0));let c0:=True/\True;let d0:=True/\c0;let e0:=tn 8 d0;let d:=(0:Int)=0;let h0:=True/\((((((((((True/\False)/\False)/\False)/\False)/\False)/\False)/\False)/\False)/\False)/\False)/\d;let k0:=True/\(2:Int)=0;let J:=((-1):Int)=(-1);let o0:=SV.ptr 0 0 none 0 0;let j:=o0=o0;let r0:=SV.ptr 1 0 none 0 0;let k:=r0=r0;let v0:=0=((0:Nat):Int);let w0:=Value.slice none 0 0=Value.slice none 0 0;let l:=((((((((((True/\w0)/\w0)/\w0)/\w0)/\w0)/\w0)/\w0)/\w0)/\w0)/\w0)/\d;let z:=True/\d;let z0:=z/\d;let a1:=l/\z0/\True;let b1:Int:=bW*16;let c1:=aw b1=b1;let d1:=0<=bW/\bW<=bW/\((8:Nat):Int)*bW<=140737488355328;let o:Int:=ai*4;let A:=true=true;let h1:=SV.ptr 2 0 none 0 0;let k1:=h1=h1;let e:=0=0;let o1:=Int.toNat b1;let q1:=o1=o1;let r1:=e/\q1;let c:=Int.toNat bW;let v1:=c=c;let w1:=e/\v1;let B:=(True/\r1)/\w1;let i:=0=0;let K:=i/\i;let C:=Int.toNat o;let b2:=C=C;let p:=e/\b2;let d2:=Int.toNat ai;let O:=d2=d2;let g2:=e/\O;let h2:=e/\n=n;let k2:=q1/\(∀l2:Nat,l2<o1->z);let g:=v1/\(∀q2:Nat,q2<c->z);let r2:=SV.aI=SV.v (Value.int IntKind.i64 0);let u2:=True/\r2;let v2:=(u2/\r2)/\r2;let w2:=((v2/\r2)/\r2)/\r2;let q:=SV.aI=SV.v (Value.int IntKind.i64 (-1));let y2:=True/\i/\(∀z2:Nat,z2<0->c0);let a3:=v1/\(∀b3:Nat,b3<c->y2);let c3:=(n=n/\(∀R:Nat,R<n->True/\aA R=aA R))/\True;
 let e3:=(b2/\(∀g3:Nat,g3<C->y2))/\(O/\(∀h3:Nat,h3<d2->True/\i/\(∀k3:Nat,k3<0->((c0/\True)/\True)/\True)))/\c3;let E:=a3/\g/\e3;let S:=bM.mk 0 0 0 0 0 0 (-1);let q3:=aK S S;let r3:=B/\r1;let T:=aF.mk 0 0 0 0 0 0 0 0 0 0 0 (-1) (-1) (-1) (-1) 0 0 (-1) 0 0;let v3:=aJ T T;let w3:=((r3/\w1)/\w1)/\w1;let x3:=True/\i/\(∀y3:Nat,y3<0->u2);tn 2 ((b0=true->(((2:Int)=2/\True)/\c0)/\e0/\c0/\(h0/\k0/\J)/\False)/\(b0=false->j/\k/\v0/\a1/\(0<=n/\(∀z3:Nat,z3<0->az (aA z3) 3=false))/\(∀a4:Nat,let r:=(a4:Int);let c4:=decide (r<a0);let U:Int:=aA (Int.toNat r);let e4:=az U 3;let V:Int:=r+1;a4<=n/\(∀h4:Nat,h4<a4->az (aA h4) 3=false)->a0<=9223372036854775807->(c4=true->(0<=r/\r<a0)/\((U=U/\(3:Int)=3/\True)/\c0)/\(e4=true->e0/\c0/\(h0/\k0/\r=(-1))/\False)/\(e4=false->aw V=V/\(∃G:Nat,j/\k/\V=(G:Int)/\a1/\(G<=n/\(∀l4:Nat,l4<G->az (aA l4) 3=false))/\n-G<n-a4)))/\(c4=false->True/\c1/\(0<=b1/\b1<=b1/\((8:Nat):Int)*b1<=140737488355328)/\True/\d1/\True/\d1/\True/\(0<=bW/\bW<=bW/\((24:Nat):Int)*bW<=140737488355328)/\True/\aw o=o/\(0<=o/\o<=o/\((24:Nat):Int)*o<=140737488355328)/\True/\(0<=ai/\ai<=ai/\((24:Nat):Int)*ai<=140737488355328)/\tn 2 ((n*8<=140737488355328/\(∀o4:Nat,A))/\tn 2 (e0/\j/\k/\k1/\v0/\(l/\z0/\(((((((((B/\K)/\w0)/\w1)/\w1)/\w0)/\p)/\g2)/\h2)/\d)/\k2/\g/\(i/\(∀q4:Nat,q4<0->w2/\q))/\E)/\0<=o1/\(∀r4:Nat,let u4:=decide ((r4:Int)<b1);let v4:Int:=(r4:Int)+1;let I:=r4=r4/\(∀x4:Nat,x4<r4->q3);r4<=o1->c1/\(u4=true->True/\((r4+1)*56<=140737488355328/\(∀y4:Nat,A))/\True/\aw v4=v4/\(∃z4:Nat,j/\k/\k1/\v4=(z4:Int)/\(l/\z0/\(((((((((B/\e/\
 r4+1=z4)/\w0)/\w1)/\w1)/\w0)/\p)/\g2)/\h2)/\d)/\k2/\g/\(r4+1=z4/\(∀W:Nat,let t:Int:=cond (Nat.blt W r4) 0 0;W<z4->aK (bM.mk t t t t t t (cond (Nat.blt W r4) (-1) (-1))) S))/\E)/\z4<=o1/\o1-z4<o1-r4))/\(u4=false->j/\k/\k1/\v0/\(l/\z0/\(((((((((B/\e/\r4=o1)/\K)/\w1)/\w1)/\w0)/\p)/\g2)/\h2)/\d)/\k2/\g/\I/\(i/\(∀c5:Nat,c5<0->(((((((((((((w2/\r2)/\r2)/\r2)/\r2)/\r2)/\q)/\q)/\q)/\q)/\r2)/\r2)/\q)/\r2)/\r2))/\E)/\0<=c/\(∀b:Nat,let e5:=decide ((b:Int)<bW);let X:Int:=(b:Int)+1;let h5:=b=b/\(∀k5:Nat,k5<b->v3);b<=c->(e5=true->tn 2 (d0/\True/\((b+1)*160<=140737488355328/\(∀l5:Nat,A))/\True/\aw X=X/\(∃u:Nat,j/\k/\k1/\X=(u:Int)/\(l/\z0/\((((((((r3/\e/\b+1=u)/\w1)/\w1)/\w0)/\p)/\g2)/\h2)/\d)/\k2/\g/\I/\(b+1=u/\(∀Y:Nat,let r5:Int:=cond (Nat.blt Y b) 0 0;let y:Int:=cond (Nat.blt Y b) (-1) (-1);Y<u->aJ (aF.mk r5 r5 r5 r5 r5 r5 r5 r5 r5 r5 r5 y y y y r5 r5 y r5 r5) T))/\E)/\u<=c/\c-u<c-b)))/\(e5=false->j/\k/\k1/\v0/\(l/\z0/\((((((((r3/\e/\b=c)/\w1)/\w1)/\K)/\p)/\g2)/\h2)/\d)/\k2/\g/\I/\h5/\a3/\g/\(i/\(∀v5:Nat,v5<0->True/\q))/\e3)/\0<=d2/\(∀h:Nat,let x5:=decide ((h:Int)<ai);let Z:Int:=(h:Int)+1;h<=d2->(x5=true->True/\((h+1)*8<=140737488355328/\(∀z5:Nat,A))/\True/\aw Z=Z/\(∃x:Nat,j/\k/\k1/\Z=(x:Int)/\(l/\z0/\(((((w3/\e/\h+1=x)/\p)/\g2)/\h2)/\d)/\k2/\g/\I/\h5/\a3/\g/\(h+1=x/\(∀b6:Nat,b6<x->True/\cond (Nat.blt b6 h) (-1) (List.getD [((-1):Int)] (0+(b6-h)) 0)=(-1)))/\e3)/\x<=d2/\d2-x<d2-h))/\(x5=false->True/\d0/\e0/\c0/\((True/\((((w3/\e/\h=d2)/\p)/\g2)/\h2)/\d)/\z/\J)/\k2/\g/\(r4=o1/\(∀c6:Nat,c6<o1->q3))/\(b=c/\(∀d6:Nat,d6<c->
 v3))/\(v1/\(∀e6:Nat,e6<c->x3))/\g/\(h=d2/\(∀g6:Nat,g6<d2->True/\J))/\(b2/\(∀h6:Nat,h6<C->x3))/\(O/\(∀k6:Nat,k6<d2->True/\i/\(∀l6:Nat,l6<0->v2/\SV.aI=SV.v (Value.bool false))))/\c3))))))))))))
set_option maxHeartbeats 1000000 in
theorem Ji:aY Tryz.prog bk 63 TD:=bn (.cons O1 (.cons M_ (.cons zk (.cons VN .nil)))) false Tryz.call63 Tryz.func63 (λ⟨bW,ai,n,aA⟩=> [.inv (aae n aA),.inv (aaf bW ai n),.inv (aag bW ai n),.inv (aah bW ai n)]) (V:=JB) (λ_=>by kernel_rfl) λ⟨bW,ai,n,aA⟩ hp=>by
 dsimp only[JA]at hp;dsimp only[JB,tn,aw,aB,aJ,aK,aG];simp only[bq,eq_self,implies_true,bo];have b:oN bW ai n aA=true:=hp;unfold oN at b;rw[aW,dT]at b;obtain⟨l,k⟩:=b;have t:1<=bW/\bW<=24/\1<=ai/\ai<=4/\1<=n/\n<=8:=by simp[xd]at l;omega
 have k:=bP k;have o:∀i,i<n->az (aA i) 3=false:=λi q=>by
  cases e:az (aA i) 3 with
  |false=>rfl
  |true=>have:=qC (p:=λi=>az (aA i) 3) q e;unfold Db at k;omega
 clear l hp;obtain⟨r1,r2,r3,r4,r5,r6⟩:=t;refine⟨λh=>?_,λh=>?_⟩
 ·revert h
  rw[decide_eq_false (show¬bW<1 by omega),decide_eq_false (show¬24<bW by omega),decide_eq_false (show¬ai<1 by omega),decide_eq_false (show¬4<ai by omega),decide_eq_false (show¬(n:Int)<1 by omega),decide_eq_false (show¬8<(n:Int) by omega)];intro h;cases h
 have wr:∀x:Int,0<=x->x<=100000->IntKind.i64.wrap x=x:=λx h1 h2=>by rw[IntKind.wrap_i64];omega
 intro s hs _;refine⟨λh1=>?_,λh1=>?_⟩
 ·have c:=fh h1;refine⟨by omega,λh2=>?_,λh2=>⟨wr _ (by omega) (by omega),s+1,by omega,⟨by omega,λj u=>o j (by omega)⟩,by omega⟩⟩;rw[o s (by omega)]at h2;cases h2
 refine⟨wr _ (by omega) (by omega),by omega,by omega,by omega,by omega,wr _ (by omega) (by omega),by omega,by omega,by omega,λs1 v=>⟨wr _ (by omega) (by omega),λh=>?_,λh=>?_⟩⟩
 ·have c:(s1:Int)<bW*16:=by simpa using h
  exact⟨by omega,wr _ (by omega) (by omega),s1+1,by omega,rfl,by omega,by omega⟩
 have d:¬(s1:Int)<bW*16:=by simpa using h
 refine⟨by omega,λs2 y=>⟨λh=>?_,λh=>?_⟩⟩
 ·have c:(s2:Int)<bW:=by simpa using h
  exact⟨by omega,wr _ (by omega) (by omega),s2+1,by omega,rfl,by omega,by omega⟩
 have d:¬(s2:Int)<bW:=by simpa using h
 refine⟨by omega,λg i3=>⟨λh=>?_,λh=>?_⟩⟩
 ·have c:(g:Int)<ai:=by simpa using h
  refine⟨by omega,wr _ (by omega) (by omega),g+1,by omega,⟨rfl,rfl,λi q=>?_⟩,by omega,by omega⟩;rcases bR i g with r|r
  ·rw[lS,decide_eq_true r];rfl
  ·obtain rfl:i=g:=by omega
   rw[lS];simp
 have d:¬(g:Int)<ai:=by simpa using h
 omega
def qf (f:Nat->ByteArray) (i:Nat):Int:=bC (f (i+2))
def Ej (n:Nat) (f:Nat->ByteArray):Prop:=n<=4000/\(∀i,i<n->(f i).size<=4000)/\gH n f=0/\3<=n/\oN (bC (f 0)) (bC (f 1)) (n -2) (qf f)=true
def jo (n:Nat) (f:Nat->ByteArray):Wd:={zF (bC (f 0)) (bC (f 1)) (n -2) (qf f)with
 kinds:=λi=>bif Nat.beq i 0 then 5 else 0,aa:=λi=>bif Nat.beq i 0 then⟨5,0,1,0,7,0,-1⟩else xc}
structure Jw where
 (n:Nat) (f:Nat->ByteArray)
def Jx:Sy.Spec:=⟨Jw,λ⟨n,f⟩=> [.sl true 1 n (λb _=> .v (.string (f b)))],λ_=> [],λ⟨n,f⟩=>Ej n f,λ⟨n,f⟩=> .tp 2 (aN [xI 0 (jo n f),.v (.int .i64 0)]),λ⟨n,f⟩=>tI (jo n f),
 λargs mem=>match args with| [a0]=>some ⟨bT a0,λi=>tN (bO a0 i 0)⟩|_=>none⟩
def TC:aZ:=⟨[],(Jx).g,none⟩
def Jy:Jw->Prop:=λ⟨n,f⟩=>let a0:=gH n f !=0;let b0:=tn 10 True;let c0:=(0:Int)=0;let d0:=True/\((((((((((True/\False)/\False)/\False)/\False)/\False)/\False)/\False)/\False)/\False)/\False)/\c0;let e0:=((oo n f:Nat):Int);let l:=decide (e0<3);let h0:=(0:Int)<=0;let k0:=bC (f (Int.toNat 0));let c:=bC (f (Int.toNat 1));let o0:=Int.toNat 2;let d:=Int.toNat e0-o0;let r0:=Int.toNat k0;let b:=false=false;let v0:=Int.toNat (k0*16);let w0:=Int.toNat (bC (f 0)*16);let g:=v0=w0;let o:=0=0/\g;let z0:=Int.toNat (bC (f 0));let a1:=r0=z0;let b1:=0=0/\a1;let c1:=Int.toNat (bC (f 1));let d1:=Int.toNat c=c1;let p:=0=0/\d1;let q:=Int.toNat (bC (f 1)*4);let h1:=Int.toNat (c*4)=q;let k1:=d=n-2;let h:=True/\c0;let o1:=aF.mk 0 0 0 0 0 0 0 0 0 0 0 (-1) (-1) (-1) (-1) 0 0 (-1) 0 0;let r:=True/\0=0/\(∀r1:Nat,r1<0->h);let t:=dG.mk 0 0 0 false;True/\(((n=n/\(∀v1:Nat,v1<n->True/\f v1=f v1))/\True)/\True/\n<=4000/\(∀w1:Nat,w1<n->ByteArray.size (f w1)<=4000))/\(a0=true->b0/\(d0/\gH n f=0)/\False)/\(a0=false->e0<=9223372036854775807->(l=true->b0/\(d0/\(10:Int)=0)/\False)/\(l=false->True/\(h0/\0<e0)/\tn 2 (((0:Int)<=1/\1<e0)/\tn 2 (((0:Int)<=2/\2<=e0/\e0<=e0)/\((k0=k0/\c=c/\(d=d/\(∀i:Nat,i<d->True/\bC (f (o0+i))=bC (f (o0+i))))/\True)/\True/\oN k0 c d (λu:Nat=>bC (f (o0+u)))=true)/\tn 5 (b0/\(True/\True)/\(((0:Int) !=0)=true->tn 3 ((d0/\c0)/\False))/\(((0:Int) !=0)=false->(h0/\0<(r0:Int))/\(∀C:Nat,b)/\(h0/\0<(v0:Int))/\((∀E:Nat,b)/\(∀b2:Nat,b)/\(∀G:Nat,b)/\(∀d2:Nat,b)/\(∀I:Nat,b)/\(∀g2:Nat,b)/\(∀h2:Nat,b))/\b0/\((True/\((((((((((True/\o)/\b1)/\o)/\b1)/\b1)/\
 b1)/\p)/\0=0/\h1)/\p)/\0=0/\k1)/\c0)/\c0)/\(g/\(∀k2:Nat,k2<w0->h))/\(a1/\(∀l2:Nat,l2<z0->True/\(cond (Nat.beq l2 0) 5 0:Int)=cond (Nat.beq l2 0) 5 0))/\(g/\(∀j:Nat,let e:=Nat.beq j 0;let r2:Int:=cond e 0 0;j<w0->aK (bM.mk (cond e 5 0) r2 (cond e 1 0) r2 (cond e 7 0) r2 (cond e (-1) (-1))) (cond (Nat.beq j 0) (bM.mk 5 0 1 0 7 0 (-1)) (bM.mk 0 0 0 0 0 0 (-1)))))/\(a1/\(∀v:Nat,v<z0->aJ o1 o1))/\(a1/\(∀x:Nat,x<z0->r))/\(a1/\(∀y:Nat,y<z0->h))/\(d1/\(∀z:Nat,z<c1->True/\((-1):Int)=(-1)))/\(h1/\(∀A:Nat,A<q->r))/\(d1/\(∀B:Nat,B<c1->True/\0=0/\(∀a3:Nat,a3<0->aG t t)))/\(k1/\(∀k:Nat,k<n-2->True/\bC (f (o0+k))=qf f k))/\True))))))
set_option maxHeartbeats 1000000 in
theorem Ti:aY Tryz.prog bk 40 TC:=bn (.cons Mi (.cons Ji .nil)) false Tryz.call40 Tryz.func40 (λ_=> []) (V:=Jy) (λ_=>by kernel_rfl) λ⟨n,f⟩ hp=>by
 dsimp only[Jx]at hp;dsimp only[Jy,tn,aw,aB,aJ,aK,aG];simp only[bq,bx,eq_self,implies_true,bo];obtain⟨h1,h2,b,j,c⟩:=hp;have d:oo n f=n:=by
  unfold gH at b;unfold oo;cases q:dw n (λi=>jt (f i))with
  |true=>rfl
  |false=>rw[q]at b;cases b
 have e0:f (Int.toNat 0)=f 0:=rfl;have e:f (Int.toNat 1)=f 1:=rfl;have g:(λy=>bC (f (Int.toNat 2+y)))=qf f:=by funext y;show bC (f (2+y))=bC (f (y+2));rw[jZ]
 have l:1<=bC (f 0):=by unfold oN xd at c;rw[aW,dT]at c;have:=c.1;simp only[bX,decide_eq_false_iff_not]at this;omega
 simp only[e0,e,d];refine⟨⟨h1,h2⟩,λh=>?_,λ_ _=>⟨λh=>?_,λ_=>⟨by omega,by omega,by omega,?_,λh=>(by cases h),λ_=>⟨by omega,by omega,?_⟩⟩⟩⟩
 ·rw[b]at h;cases h
 ·have:=of_decide_eq_true h;omega
 ·rw[g];exact c
 ·refine⟨?_,by first|exact trivial|rfl,by first|exact trivial|rfl,⟨by first|exact trivial|rfl,λi _=>?_⟩,by first|exact trivial|rfl,by first|exact trivial|rfl,by first|exact trivial|rfl,by first|exact trivial|rfl,by first|exact trivial|rfl,by first|exact trivial|rfl,by first|exact trivial|rfl,λk _=>?_⟩
  ·repeat' (first|exact trivial|rfl|refine And.intro ?_ ?_)
  ·cases i.beq 0<;>exact⟨⟨⟨⟨⟨⟨rfl,rfl⟩,rfl⟩,rfl⟩,rfl⟩,rfl⟩,rfl⟩
  ·show bC (f (2+k))=bC (f (k+2));rw[jZ]
def fY (W:Wd) (f k:Int):Int:=bif decide (f<0)||decide ((W.ak:Int)<=f)then 2 else bif W.kinds f.toNat !=k then 3 else 0
def vG (W:Wd) (f k:Int):Int:=bif f== -1 then 0 else fY W f k
def I1 (i:Nat):Int:= [0,5,4,7].getD i 0
def dQ (W:Wd) (l:Nat->Int):Nat->Int
 |0=>fY W (l 0) 6
 |i+1=>bif dQ W l i==0 then vG W (l (i+1)) (I1 (i+1))else dQ W l i
def ff (W:Wd) (l:Nat->Int):Int:=bif dQ W l 3==0 then bif decide (l 4<0)||decide ((W.aC:Int)<=l 4)||az (l 5) 3||az (l 6) 3 then 2 else bif (W.tasks (l 0).toNat).st==0 then 0 else 7 else dQ W l 3
def acp (W:Wd) (l:Nat->Int):cQ where
 σ:=Nat
 rt:= []
 sh i:= [(0,cm 0),(5,.v (.int .i64 (dQ W l i))),(6,.v (.int .i64 (i+1)))]
 mh _:= []
 inv i:=i<=3
 μ i:=3 -i
 init:=0
def xM (W:Wd) (l:Nat->Int):Nat->aF:=aj W.tasks (l 0).toNat {W.tasks (l 0).toNat with node:=l 1,space:=l 2,helper:=l 3,core:=l 4,prio:=l 5,cI:=l 6}
theorem HR {W:Wd} {l:Nat->Int}:∀{i},dQ W l i=0->fY W (l 0) 6=0
 |0,h=>h
 |i+1,h=>by
  cases q:dQ W l i==0 with
  |true=>exact HR (eq_of_beq q)
  |false=>rw[dQ,q]at h;rw[show dQ W l i=0 from h]at q;cases q
theorem RG {W:Wd} {l:Nat->Int} {i:Nat} (h:(dQ W l i==0)=false):∀{d},dQ W l (i+d)=dQ W l i
 |0=>rfl
 |d+1=>by rw[<-i_,dQ,RG h,h];rfl
theorem tP {W:Wd} {f k:Int} (h:fY W f k=0):0<=f/\f<W.ak/\W.kinds f.toNat=k:=by
 unfold fY at h;cases h1:(decide (f<0)||decide ((W.ak:Int)<=f))with
 |true=>rw[h1]at h;exact absurd (show(2:Int)=0 from h) (by decide)
 |false=>
  cases h2:W.kinds f.toNat !=k with
  |true=>rw[h1,h2]at h;exact absurd (show(3:Int)=0 from h) (by decide)
  |false=>simp only[bX,decide_eq_false_iff_not,bne_eq_false_iff_eq]at h1 h2;omega
def lx (W:Wd) (l:Nat->Int) (i:Nat):aF:=bif ff W l==0 then({W with tasks:=xM W l}).tasks i else(W).tasks i
def oe (W:Wd) (l:Nat->Int):Wd:={W with tasks:=lx W l}
theorem Dc {W:Wd} {l:Nat->Int} (h:(ff W l==0)=true):oe W l={W with tasks:=xM W l}:=by
 have b:lx W l=({W with tasks:=xM W l}).tasks:=by funext i;unfold lx;rw[h];rfl
 show({W with tasks:=lx W l}:Wd)=_;rw[b]<;>kernel_rfl
theorem xg {W:Wd} {l:Nat->Int} (h:(ff W l==0)=false):oe W l=W:=by
 have b:lx W l=(W).tasks:=by funext i;unfold lx;rw[h];rfl
 show({W with tasks:=lx W l}:Wd)=_;rw[b]<;>kernel_rfl
structure ot where
 (W:Wd) (f k:Int)
def vW:Sy.Spec:=⟨ot,λ⟨W,f,k⟩=> [dN W,.v (.int .i64 f),.v (.int .i64 k)],λ_=> [],λ⟨W,_,_⟩=>bQ W,λ⟨W,f,k⟩=> .v (.int .i64 (fY W f k)),λ_=> [],
 λargs mem=>match args with| [a0,a1,b]=>some ⟨dJ a0,av (a1),av (b)⟩|_=>none⟩
def Ub:aZ:=⟨[],(vW).g,none⟩
def JV:ot->Prop:=λ⟨W,f,k⟩=>let a0:=cond (decide (f<0)) true (decide (((W.ak:Nat):Int)<=f));let b0:=fY W f k;let c0:=W.kinds (Int.toNat f) !=k;(a0=true->2=b0/\True)/\(a0=false->(0<=f/\f<((W.ak:Nat):Int))/\(c0=true->3=b0/\True)/\(c0=false->0=b0/\True))
theorem EF:aY Tryz.prog bk 99 Ub:=bn .nil false Tryz.call99 Tryz.func99 (λ_=> []) (V:=JV) (λ_=>by kernel_rfl) λ⟨W,f,k⟩ hp=>by
 dsimp only[vW]at hp;dsimp only[JV,tn,aw,aB,aJ,aK,aG];simp only[bq,bx,eq_self,implies_true,bo]
 try simp only[dI]
 unfold fY;refine⟨λh=>by rw[h];rfl,λh=>?_⟩;simp only[h,cond_false];simp only[bX,decide_eq_false_iff_not]at h;refine⟨by omega,λh2=>by rw[h2];rfl,λh2=>by rw[h2];rfl⟩
structure Mk where
 (n:Nat) (l:Nat->Int) (W:Wd)
def Ml:Sy.Spec:=⟨Mk,λ⟨n,l,_⟩=> [.ptr 0 0 none 0 0,.sl true 1 n (λb _=> .v (.int .i64 (l b)))],λ⟨_,_,W⟩=>cL W,λ⟨n,_,W⟩=>bQ W/\n=7,λ⟨_,l,W⟩=> .v (.int .i64 (ff W l)),λ⟨_,l,W⟩=>cL (oe W l),
 λargs mem=>match args with| [a0,a1]=>some ⟨bT a1,λi=>av (bO a1 i 0),fW mem 0⟩|_=>none⟩
def WN:aZ:=⟨[true],(Ml).g,none⟩
def Mm:Mk->Prop:=λ⟨n,l,W⟩=>let a0:=(n:Int);let b0:=(0:Int)<=0/\0<a0;let c0:=W.ay;let d0:=W.ak;let e0:=W.ao;let i:=W.aO;let h0:=W.aX;let k0:=W.aP;let j:=W.aC;let o0:=W.aR;let p:=W.aQ;let q:=W.aL;let v0:=((((((((((True/\c0=c0/\(∀w0:Nat,w0<c0->True/\W.af (0+w0)=W.af (0+w0)))/\d0=d0/\(∀K:Nat,let O:=W.kinds (0+K);K<d0->True/\O=O))/\e0=e0/\(∀z0:Nat,let a1:=W.aa (0+z0);z0<e0->aK a1 a1))/\i=i/\(∀b1:Nat,let c1:=W.tasks (0+b1);b1<i->aJ c1 c1))/\h0=h0/\(∀d1:Nat,let y:=W.ah (0+d1);d1<h0->True/\y=y/\(∀R:Nat,let h1:=W.lines (0+d1) (0+R);R<y->True/\h1=h1)))/\k0=k0/\(∀k1:Nat,k1<k0->True/\W.bits (0+k1)=W.bits (0+k1)))/\j=j/\(∀S:Nat,let o1:=W.ai (0+S);S<j->True/\o1=o1))/\o0=o0/\(∀z:Nat,let A:=W.al (0+z);z<o0->True/\A=A/\(∀v1:Nat,let w1:=W.ready (0+z) (0+v1);v1<A->True/\w1=w1)))/\p=p/\(∀B:Nat,let C:=W.aD (0+B);B<p->True/\C=C/\(∀T:Nat,let U:=W.ax (0+B) (0+T);T<C->aG U U)))/\q=q/\(∀b2:Nat,b2<q->True/\W.aA (0+b2)=W.aA (0+b2)))/\W.time=W.time;let b:Int:=l (Int.toNat 0);let d2:=Wd.mk c0 (λe2:Nat=>W.af (0+e2)) d0 (λg2:Nat=>W.kinds (0+g2)) e0 (λh2:Nat=>W.aa (0+h2)) i (λk2:Nat=>W.tasks (0+k2)) h0 (λl2:Nat=>W.ah (0+l2)) (λo2:Nat=>λq2:Nat=>W.lines (0+o2) (0+q2)) k0 (λu2:Nat=>W.bits (0+u2)) j (λv2:Nat=>W.ai (0+v2)) o0 (λw2:Nat=>W.al (0+w2)) (λx2:Nat=>λy2:Nat=>W.ready (0+x2) (0+y2)) p (λz2:Nat=>W.aD (0+z2)) (λa3:Nat=>λb3:Nat=>W.ax (0+a3) (0+b3)) q (λc3:Nat=>W.aA (0+c3)) W.time;
 let V:=SV.ptr 0 0 none 0 0;let e3:=V=V;let E:=aB W W True;let h3:=[(0:Int),5,4,7];let r:=ff W l;let X:={W with tasks:=lx W l};let G:=aB W X True;let I:=(0:Int)<=4/\4<a0;let J:Int:=l (Int.toNat 4);let v3:=decide (J<0);let Y:=cond v3 true (decide ((j:Int)<=J));let Z:=Y=false;let y3:=(0:Int)<=5/\5<a0;let z3:Int:=l (Int.toNat 5);let a4:=(3:Int)=3/\True;let b4:=cond Y true (az z3 3);let c4:=b4=false;let d4:=(0:Int)<=6/\6<a0;let e4:Int:=l (Int.toNat 6);let g4:=cond b4 true (az e4 3);let c:=0<=b/\b<(i:Int);let k4:=0+Int.toNat b;let l4:=(W.tasks k4).st !=0;let e:=false=false;b0/\((v0/\b=b/\(6:Int)=6/\True)/\True/\vW.match_1 (λq4:ot=>Prop) (ot.mk d2 b 6) (λu4:Wd=>λv4:Int=>λw4:Int=>bQ u4))/\e3/\fY d2 b 6=dQ W l 0/\1=((0:Nat):Int)+1/\E/\0<=3/\(∀k:Nat,let g:Int:=(k:Int)+1;let z4:=dQ W l k;let a5:=cond (decide (g<4)) (z4==0) false;let b5:=0<=g;let c5:=b5/\g<a0;let d5:=Int.toNat g;let o:Int:=l d5;let g5:=o !=(-1);let t:=List.getD h3 (0+d5) 0;let u:Int:=g+1;let l5:=aw u=u;let o5:=z4 !=0;k<=3->(a5=true->c5/\(g5=true->tn 3 (c5/\tn 3 ((b5/\g<((4:Nat):Int))/\True/\((v0/\o=o/\t=t/\True)/\True/\vW.match_1 (λq5:ot=>Prop) (ot.mk d2 o t) (λu5:Wd=>λv5:Int=>λw5:Int=>bQ u5))/\l5/\(∃v:Nat,e3/\fY d2 o t=dQ W l v/\u=(v:Int)+1/\E/\v<=3/\3-v<3-k))))/\(g5=false->l5/\(∃x:Nat,e3/\z4=dQ W l x/\u=(x:Int)+1/\E/\x<=3/\3-x<3-k)))/\(a5=false->(o5=true->z4=r/\G)/\(o5=false->True/\I/\tn 4 ((v3=false->I)/\
 tn 6 ((Z->y3)/\(Z->(z3=z3/\a4)/\True/\True)/\(c4->d4)/\(c4->(e4=e4/\a4)/\True/\True)/\(g4=true->2=r/\G)/\(g4=false->tn 5 (b0/\True/\c/\(l4=true->7=r/\G)/\(l4=false->tn 5 (b0/\tn 2 (((0:Int)<=1/\1<a0)/\True/\c/\(∀z5:Nat,e)/\tn 5 (b0/\tn 2 (((0:Int)<=2/\2<a0)/\True/\c/\(∀a6:Nat,e)/\tn 5 (b0/\tn 2 (((0:Int)<=3/\3<a0)/\True/\c/\(∀b6:Nat,e)/\tn 5 (b0/\tn 2 (I/\True/\c/\(∀c6:Nat,e)/\tn 5 (b0/\tn 2 (y3/\True/\c/\(∀d6:Nat,e)/\tn 5 (b0/\tn 2 (d4/\True/\c/\(∀e6:Nat,e)/\0=r/\aB {W with tasks:=λg6:Nat=>let d:=W.tasks g6;let h:=Nat.beq g6 k4;{d with prio:=cond h z3 d.prio,node:=cond h (l (Int.toNat 1)) d.node,space:=cond h (l (Int.toNat 2)) d.space,helper:=cond h (l (Int.toNat 3)) d.helper,core:=cond h J d.core,cI:=cond h e4 d.cI}} X True))))))))))))))))))))
set_option maxHeartbeats 1000000 in
theorem Vf:aY Tryz.prog bk 71 WN:=bn (.cons zk (.cons EF .nil)) false Tryz.call71 Tryz.func71 (λ⟨_,l,W⟩=> [.inv (acp W l)]) (V:=Mm) (λ_=>by kernel_rfl) λ⟨n,l,W⟩ hp=>by
 dsimp only[Ml]at hp;dsimp only[Mm,tn,aw,aB,aJ,aK,aG];simp only[bq,bx,eq_self,implies_true,bo]
 try simp only[dI]
 obtain⟨r,rfl⟩:=hp;have B:=r.tasks;have t0:Int.toNat 0=0:=rfl;have t1:Int.toNat 1=1:=rfl;have v:Int.toNat 2=2:=rfl;have t3:Int.toNat 3=3:=rfl;have t4:Int.toNat 4=4:=rfl;have x:Int.toNat 5=5:=rfl;have y:Int.toNat 6=6:=rfl;simp only[t0,t1,v,t3,t4,x,y];refine⟨by omega,r,rfl,rfl,λi z=>⟨λh=>?_,λh=>?_⟩⟩
 ·rw[aW,decide_eq_true_eq]at h;obtain⟨h1,h2⟩:=h;have e:((i:Int)+1).toNat=i+1:=by omega
  have t:dQ W l (i+1)=vG W (l (i+1)) (I1 (i+1)):=by rw[dQ,h2];rfl
  simp only[e];refine⟨by omega,λg=>⟨by omega,by omega,r,dx (by omega) (by omega),i+1,?_,by omega,by omega,by omega⟩,λg=>⟨dx (by omega) (by omega),i+1,?_,by omega,by omega,by omega⟩⟩
  ·rw[t];unfold vG;rw[show(l (i+1)== -1)=false by simpa using g];rfl
  ·rw[t];unfold vG;rw[show(l (i+1)== -1)=true by simpa using g];exact eq_of_beq h2
 ·have u:dQ W l 3=dQ W l i:=by
   rcases Nat.eq_or_lt_of_le z with rfl|h1
   ·rfl
   ·have h:(dQ W l i==0)=false:=by rw[decide_eq_true (show(i:Int)+1<4 by omega)]at h;exact h
    have:=RG h (d:=3 -i);rwa [show i+(3 -i)=3 by omega]at this
  refine⟨λg=>?_,λg=>?_⟩
  ·have p:(dQ W l i==0)=false:=by simpa using g
   have e:ff W l=dQ W l i:=by unfold ff;rw[u,p];rfl
   have k:(ff W l==0)=false:=by rw[e];exact p
   refine⟨e.symm,?_⟩;have c:=xg k;have b:lx W l=_:=congrArg Wd.tasks c;simp only[b];clear c b
   repeat' (first|exact trivial|exact cE rfl|rfl|refine And.intro ?_ ?_|intro _|fail)
  ·have p:(dQ W l i==0)=true:=by simpa using g
   obtain⟨C,E,G⟩:=tP (HR (eq_of_beq p));have hE:ff W l=bif decide (l 4<0)||decide ((W.aC:Int)<=l 4)||az (l 5) 3||az (l 6) 3 then 2 else bif (W.tasks (l 0).toNat).st==0 then 0 else 7:=by unfold ff;rw[u,p];rfl
   refine⟨by omega,λ_=>by omega,λ_=>by omega,λ_=>by omega,λq=>?_,λq=>⟨by omega,by omega,λo=>?_,λo=>?_⟩⟩
   ·have e:ff W l=2:=by rw[hE,q];rfl
    have k:(ff W l==0)=false:=by rw[e];rfl
    refine⟨e.symm,?_⟩;have c:=xg k;have b:lx W l=_:=congrArg Wd.tasks c;simp only[b];clear c b
    repeat' (first|exact trivial|exact cE rfl|rfl|refine And.intro ?_ ?_|intro _|fail)
   ·have o:((W.tasks (l 0).toNat).st==0)=false:=by simpa using o
    have e:ff W l=7:=by rw[hE,q,o];rfl
    have k:(ff W l==0)=false:=by rw[e];rfl
    refine⟨e.symm,?_⟩;have c:=xg k;have b:lx W l=_:=congrArg Wd.tasks c;simp only[b];clear c b
    repeat' (first|exact trivial|exact cE rfl|rfl|refine And.intro ?_ ?_|intro _|fail)
   ·have o:((W.tasks (l 0).toNat).st==0)=true:=by simpa using o
    have e:ff W l=0:=by rw[hE,q,o];rfl
    have k:(ff W l==0)=true:=by rw[e];rfl
    have c:=Dc k;have b:lx W l=_:=congrArg Wd.tasks c;simp only[b];clear c b;have e:=e.symm;unfold xM aj
    repeat' (first|exact e|omega|refine And.intro ?_ ?_)
    intro j _;cases A:j.beq (l 0).toNat<;>(try rw[a_ A])<;>repeat' (first|exact trivial|exact cE rfl|rfl|refine And.intro ?_ ?_|intro _|fail)
def fZ (l:Nat->Int):Int:=l 0*16+l 1/16
def jN (W:Wd) (l:Nat->Int):Int:=W.af (fZ l).toNat%1024*16+l 1%16
def xL (W:Wd) (l:Nat->Int):Bool:=az (l 1) 255||az (l 3) 1||decide (l 2<0)||decide ((W.ak:Int)<=l 2)
def dB (W:Wd) (l:Nat->Int):Int:=bif fY W (l 0) 4==0 then bif xL W l then 2 else bif W.kinds (l 2).toNat==3 then(bif W.af (fZ l).toNat==0 then 0 else 12)else bif W.kinds (l 2).toNat==2 then(bif W.af (fZ l).toNat==0 then 9 else bif W.af (jN W l).toNat==0 then 0 else 12)else 3 else fY W (l 0) 4
def qg (W:Wd) (l:Nat->Int):Nat:=bif W.kinds (l 2).toNat==3 then(fZ l).toNat else(jN W l).toNat
def od (W:Wd) (l:Nat->Int):Int:=bif W.kinds (l 2).toNat==3 then 32768+l 2 else 32768+l 3*16384+l 2
def jb (W:Wd) (l:Nat->Int) (i:Nat):Int:=bif dB W l==0 then({W with af:=aj W.af (qg W l) (od W l)}).af i else(W).af i
def oV (W:Wd) (l:Nat->Int):Wd:={W with af:=jb W l}
theorem zG {W:Wd} {l:Nat->Int} (h:(dB W l==0)=true):oV W l={W with af:=aj W.af (qg W l) (od W l)}:=by
 have b:jb W l=({W with af:=aj W.af (qg W l) (od W l)}).af:=by funext i;unfold jb;rw[h];rfl
 show({W with af:=jb W l}:Wd)=_;rw[b]<;>kernel_rfl
theorem pX {W:Wd} {l:Nat->Int} (h:(dB W l==0)=false):oV W l=W:=by
 have b:jb W l=(W).af:=by funext i;unfold jb;rw[h];rfl
 show({W with af:=jb W l}:Wd)=_;rw[b]<;>kernel_rfl
structure Mn where
 (n:Nat) (l:Nat->Int) (W:Wd)
def Mo:Sy.Spec:=⟨Mn,λ⟨n,l,_⟩=> [.ptr 0 0 none 0 0,.sl true 1 n (λb _=> .v (.int .i64 (l b)))],λ⟨_,_,W⟩=>cL W,λ⟨n,_,W⟩=>bI W/\n=4,λ⟨_,l,W⟩=> .v (.int .i64 (dB W l)),λ⟨_,l,W⟩=>cL (oV W l),
 λargs mem=>match args with| [a0,a1]=>some ⟨bT a1,λi=>av (bO a1 i 0),fW mem 0⟩|_=>none⟩
def WO:aZ:=⟨[true],(Mo).g,none⟩
def Mp:Mn->Prop:=λ⟨n,l,W⟩=>let a0:=(n:Int);let b0:=(0:Int)<=0/\0<a0;let c0:=W.ay;let d0:=W.ak;let e0:=W.ao;let h:=W.aO;let h0:=W.aX;let k0:=W.aP;let i:=W.aC;let o0:=W.aR;let j:=W.aQ;let r0:=W.aL;let c:Int:=l (Int.toNat 0);let v0:=Wd.mk c0 (λw0:Nat=>W.af (0+w0)) d0 (λx0:Nat=>W.kinds (0+x0)) e0 (λy0:Nat=>W.aa (0+y0)) h (λz0:Nat=>W.tasks (0+z0)) h0 (λa1:Nat=>W.ah (0+a1)) (λb1:Nat=>λc1:Nat=>W.lines (0+b1) (0+c1)) k0 (λd1:Nat=>W.bits (0+d1)) i (λe1:Nat=>W.ai (0+e1)) o0 (λg1:Nat=>W.al (0+g1)) (λh1:Nat=>λk1:Nat=>W.ready (0+h1) (0+k1)) j (λl1:Nat=>W.aD (0+l1)) (λo1:Nat=>λq1:Nat=>W.ax (0+o1) (0+q1)) r0 (λr1:Nat=>W.aA (0+r1)) W.time;let J:=fY v0 c 4;let v1:=J !=0;let w1:=dB W l;let q:={W with af:=jb W l};let d:=aB W q True;let r:=(0:Int)<=1/\1<a0;let b:Int:=l (Int.toNat 1);let b2:=az b 255;let K:=b2=false;let d2:=(0:Int)<=3/\3<a0;let k:Int:=l (Int.toNat 3);let g2:=cond b2 true (az k 1);let h2:=(0:Int)<=2/\2<a0;let k2:Int:=l (Int.toNat 2);let l2:=cond g2 true (decide (k2<0));let O:=cond l2 true (decide ((d0:Int)<=k2));let t:Int:=c*16;let r2:=0<=b;let u:Int:=b/16;let e:Int:=t+u;let R:=0<=k2/\k2<(d0:Int);let S:=W.kinds (0+Int.toNat k2);let T:=S==3;let o:=0<=e/\e<(c0:Int);let a3:=0+Int.toNat e;let p:=W.af a3;let U:=p !=0;let V:=12=w1/\d;let e3:Int:=32768+k2;let X:=0=w1;let Y:=S !=2;let Z:=p==0;let v:Int:=p%1024*16;let g:Int:=v+b%16;let q3:=0<=g/\g<(c0:Int);
 let r3:=0+Int.toNat g;let u3:=W.af r3 !=0;let v3:Int:=k*16384;let x:Int:=32768+v3;let y:Int:=x+k2;b0/\(((((((((((((True/\c0=c0/\(∀z:Nat,z<c0->True/\W.af (0+z)=W.af (0+z)))/\d0=d0/\(∀z3:Nat,let a4:=W.kinds (0+z3);z3<d0->True/\a4=a4))/\e0=e0/\(∀b4:Nat,let c4:=W.aa (0+b4);b4<e0->aK c4 c4))/\h=h/\(∀d4:Nat,let e4:=W.tasks (0+d4);d4<h->aJ e4 e4))/\h0=h0/\(∀A:Nat,let B:=W.ah (0+A);A<h0->True/\B=B/\(∀k4:Nat,let l4:=W.lines (0+A) (0+k4);k4<B->True/\l4=l4)))/\k0=k0/\(∀C:Nat,C<k0->True/\W.bits (0+C)=W.bits (0+C)))/\i=i/\(∀q4:Nat,let r4:=W.ai (0+q4);q4<i->True/\r4=r4))/\o0=o0/\(∀E:Nat,let v4:=W.al (0+E);E<o0->True/\v4=v4/\(∀w4:Nat,let x4:=W.ready (0+E) (0+w4);w4<v4->True/\x4=x4)))/\j=j/\(∀G:Nat,let z4:=W.aD (0+G);G<j->True/\z4=z4/\(∀a5:Nat,let b5:=W.ax (0+G) (0+a5);a5<z4->aG b5 b5)))/\r0=r0/\(∀I:Nat,I<r0->True/\W.aA (0+I)=W.aA (0+I)))/\W.time=W.time)/\c=c/\(4:Int)=4/\True)/\True/\vW.match_1 (λd5:ot=>Prop) (ot.mk v0 c 4) (λe5:Wd=>λg5:Int=>λh5:Int=>bQ e5))/\(v1=true->J=w1/\d)/\(v1=false->True/\r/\True/\((b=b/\(255:Int)=255/\True)/\True/\True)/\tn 2 ((K->d2)/\True/\(K->(k=k/\(1:Int)=1/\True)/\True/\True)/\tn 3 ((g2=false->h2)/\tn 5 ((l2=false->h2)/\tn 6 ((O=true->2=w1/\d)/\(O=false->True/\b0/\True/\aw t=t/\True/\r/\True/\(r2/\(0:Int)<16/\aw u=u)/\aw e=e/\tn 5 (h2/\True/\R/\(T=true->o/\(U=true->V)/\(U=false->tn 6 (h2/\True/\aw e3=e3/\o/\(∀k5:Nat,false=false)/\X/\aB {W with af:=λl5:Nat=>cond (Nat.beq l5 a3) e3 (W.af l5)} q True)))/\(T=false->
 tn 5 (h2/\True/\R/\(Y=true->3=w1/\d)/\(Y=false->o/\(Z=true->9=w1/\d)/\(Z=false->tn 5 (o/\True/\(0<=p/\(0:Int)<1024)/\aw v=v/\True/\r/\True/\(r2/\(0:Int)<16)/\aw g=g/\q3/\(u3=true->V)/\(u3=false->tn 6 (d2/\True/\aw v3=v3/\aw x=x/\True/\h2/\True/\aw y=y/\q3/\(∀o5:Nat,false=false)/\X/\aB {W with af:=λq5:Nat=>cond (Nat.beq q5 r3) y (W.af q5)} q True))))))))))))))
set_option maxHeartbeats 1000000 in
theorem Vg:aY Tryz.prog bk 70 WO:=bn (.cons zk (.cons EF .nil)) false Tryz.call70 Tryz.func70 (λ_=> []) (V:=Mp) (λ_=>by kernel_rfl) λ⟨n,l,W⟩ hp=>by
 dsimp only[Mo]at hp;dsimp only[Mp,tn,aw,aB,aJ,aK,aG];simp only[bq,bx,eq_self,implies_true,bo]
 try simp only[dI]
 obtain⟨t,rfl⟩:=hp;have u:=t.z;have J:=u.af;have K:=u.k1;have t0:Int.toNat 0=0:=rfl;have t1:Int.toNat 1=1:=rfl;have G:Int.toNat 2=2:=rfl;have t3:Int.toNat 3=3:=rfl;simp only[t0,t1,G,t3];refine⟨by omega,u,λh=>?_,λh=>⟨by omega,λ_=>by omega,λ_=>by omega,λ_=>by omega,λh1=>?_,λh1=>?_⟩⟩
 ·have k:(fY W (l 0) 4==0)=false:=by simpa using h
  have e:dB W l=fY W (l 0) 4:=by unfold dB;rw[k];rfl
  have g:(dB W l==0)=false:=by rw[e];exact k
  refine⟨e.symm,?_⟩;have c:=pX g;have b:jb W l=_:=congrArg Wd.af c;simp only[b];clear c b
  repeat' (first|exact trivial|exact cE rfl|rfl|refine And.intro ?_ ?_|intro _|fail)
 ·have k:(fY W (l 0) 4==0)=true:=by simpa using h
  have e:dB W l=2:=by unfold dB;rw[k,show xL W l=true from h1];rfl
  have g:(dB W l==0)=false:=by rw[e];rfl
  refine⟨e.symm,?_⟩;have c:=pX g;have b:jb W l=_:=congrArg Wd.af c;simp only[b];clear c b
  repeat' (first|exact trivial|exact cE rfl|rfl|refine And.intro ?_ ?_|intro _|fail)
 have k:(fY W (l 0) 4==0)=true:=by simpa using h
 obtain⟨O,R,I⟩:=tP (eq_of_beq k);have ho:xL W l=false:=h1;simp only[bX,decide_eq_false_iff_not]at h1;have b1:=dO h1.1.1.1;have S:=dO h1.1.1.2;have hE:dB W l=bif W.kinds (l 2).toNat==3 then(bif W.af (fZ l).toNat==0 then 0 else 12)else bif W.kinds (l 2).toNat==2 then(bif W.af (fZ l).toNat==0 then 9 else bif W.af (jN W l).toNat==0 then 0 else 12)else 3:=by unfold dB;rw[k,ho];rfl
 have hd:fZ l=l 0*16+l 1/16:=rfl;have A:jN W l=W.af (fZ l).toNat%1024*16+l 1%16:=rfl;have B:qg W l=bif W.kinds (l 2).toNat==3 then(fZ l).toNat else(jN W l).toNat:=rfl;rw[<-hd];have d0:0<=fZ l/\fZ l<W.ay/\(fZ l).toNat/16=(l 0).toNat:=by rw[hd];omega
 generalize fZ l=d at*
 refine⟨by omega,dx (by omega) (by omega),by omega,⟨by omega,by omega,dx (by omega) (by omega)⟩,dx (by omega) (by omega),by omega,by omega,λh2=>⟨by omega,λj=>?_,λj=>⟨by omega,dx (by omega) (by omega),by omega,?_⟩⟩,λh2=>⟨by omega,by omega,λj=>?_,λj=>⟨by omega,λo=>?_,λo=>?_⟩⟩⟩
 ·have e:dB W l=12:=by rw[hE,h2,show(W.af d.toNat==0)=false by simpa using j];rfl
  have g:(dB W l==0)=false:=by rw[e];rfl
  refine⟨e.symm,?_⟩;have c:=pX g;have b:jb W l=_:=congrArg Wd.af c;simp only[b];clear c b
  repeat' (first|exact trivial|exact cE rfl|rfl|refine And.intro ?_ ?_|intro _|fail)
 ·have e:dB W l=0:=by rw[hE,h2,show(W.af d.toNat==0)=true by simpa using j];rfl
  have g:(dB W l==0)=true:=by rw[e];rfl
  have v:qg W l=d.toNat:=by rw[B,h2];rfl
  have x:od W l=32768+l 2:=by unfold od;rw[h2];rfl
  refine⟨e.symm,?_⟩;have c:=zG g;have b:jb W l=_:=congrArg Wd.af c;simp only[b];clear c b;intro i _;rw[v,x]
  repeat' (first|exact trivial|exact cE rfl|rfl|refine And.intro ?_ ?_|intro _|fail)
 ·have e:dB W l=3:=by rw[hE,h2,show(W.kinds (l 2).toNat==2)=false by simpa using j];rfl
  have g:(dB W l==0)=false:=by rw[e];rfl
  refine⟨e.symm,?_⟩;have c:=pX g;have b:jb W l=_:=congrArg Wd.af c;simp only[b];clear c b
  repeat' (first|exact trivial|exact cE rfl|rfl|refine And.intro ?_ ?_|intro _|fail)
 ·have e:dB W l=9:=by rw[hE,h2,show(W.kinds (l 2).toNat==2)=true by simpa using j,o];rfl
  have g:(dB W l==0)=false:=by rw[e];rfl
  refine⟨e.symm,?_⟩;have c:=pX g;have b:jb W l=_:=congrArg Wd.af c;simp only[b];clear c b
  repeat' (first|exact trivial|exact cE rfl|rfl|refine And.intro ?_ ?_|intro _|fail)
 have hm:=t.mg.rm d.toNat (by omega);have C:=t.mg.e4 d.toNat (by omega) (λq=>by rw[q]at o;cases o) (by rw[d0.2.2];exact I);have C:=gv (W:=W) (f:=W.af d.toNat%1024) (by rw[C.2];decide);rw[<-A];have p0:0<=jN W l/\jN W l<W.ay:=by rw[A];omega
 have r:dB W l=bif W.af (jN W l).toNat==0 then 0 else 12:=by rw[hE,h2,show(W.kinds (l 2).toNat==2)=true by simpa using j,o];rfl
 have E: -9223372036854775808<=W.af d.toNat%1024*16/\W.af d.toNat%1024*16<=9223372036854775807:=by omega
 generalize W.af d.toNat%1024*16=w at*
 generalize jN W l=p at*
 refine⟨by omega,⟨hm.1,by decide⟩,dx E.1 E.2,by omega,⟨by omega,by decide⟩,dx (by omega) (by omega),p0,λy=>?_,λy=>⟨by omega,dx (by omega) (by omega),dx (by omega) (by omega),by omega,dx (by omega) (by omega),p0,?_⟩⟩
 ·have e:dB W l=12:=by rw[r,show(W.af p.toNat==0)=false by simpa using y];rfl
  have g:(dB W l==0)=false:=by rw[e];rfl
  refine⟨e.symm,?_⟩;have c:=pX g;have b:jb W l=_:=congrArg Wd.af c;simp only[b];clear c b
  repeat' (first|exact trivial|exact cE rfl|rfl|refine And.intro ?_ ?_|intro _|fail)
 ·have e:dB W l=0:=by rw[r,show(W.af p.toNat==0)=true by simpa using y];rfl
  have g:(dB W l==0)=true:=by rw[e];rfl
  have v:qg W l=p.toNat:=by rw[B,h2];rfl
  have x:od W l=32768+l 3*16384+l 2:=by unfold od;rw[h2];rfl
  refine⟨e.symm,?_⟩;have c:=zG g;have b:jb W l=_:=congrArg Wd.af c;simp only[b];clear c b;intro i _;rw[v,x]
  repeat' (first|exact trivial|exact cE rfl|rfl|refine And.intro ?_ ?_|intro _|fail)
def xN (W:Wd) (l:Nat->Int):Bool:=decide (l 0<0)||decide ((W.ao:Int)<=l 0)||decide (l 1<0)||decide (l 2<1)||decide ((W.ak:Int)<l 1+l 2)
def qk (W:Wd) (f:Nat) (i:Nat):Bool:=(W.aa i).kind==1&&decide ((W.aa i).base<=(f:Int))&&decide ((f:Int)<(W.aa i).base+(W.aa i).len)
def km (W:Wd) (f:Nat):Bool:=W.kinds f !=0||!dw W.ao λi=>!qk W f i
def eM (W:Wd) (l:Nat->Int):Int:=bif xN W l then 2 else bif gA W (l 0)==0 then bif dw (l 2).toNat (λk=>!km W ((l 1).toNat+k))then 0 else 7 else gA W (l 0)
def AW (W:Wd) (l:Nat->Int):Nat->bM:=aj W.aa (l 0).toNat ⟨1,l 1,l 2,0,7,0,-1⟩
def kK (W:Wd) (l:Nat->Int) (i:Nat):bM:=bif eM W l==0 then({W with aa:=AW W l}).aa i else(W).aa i
def oX (W:Wd) (l:Nat->Int):Wd:={W with aa:=kK W l}
theorem Dd {W:Wd} {l:Nat->Int} (h:(eM W l==0)=true):oX W l={W with aa:=AW W l}:=by
 have b:kK W l=({W with aa:=AW W l}).aa:=by funext i;unfold kK;rw[h];rfl
 show({W with aa:=kK W l}:Wd)=_;rw[b]<;>kernel_rfl
theorem tJ {W:Wd} {l:Nat->Int} (h:(eM W l==0)=false):oX W l=W:=by
 have b:kK W l=(W).aa:=by funext i;unfold kK;rw[h];rfl
 show({W with aa:=kK W l}:Wd)=_;rw[b]<;>kernel_rfl
theorem Qd {n k:Nat} {p:Nat->Bool} (b:k<n) (h:p k=true):dw n (λk=>!p k)=false:=by
 cases r:dw n (λk=>!p k)with
 |false=>rfl
 |true=>have:=fL.1 r k b;rw[h]at this;cases this
def acq (W:Wd) (l:Nat->Int):cQ where
 σ:=Nat
 rt:= []
 sh i:= [(0,cm 0),(6,.v (.int .i64 (l 1+i)))]
 mh _:= []
 inv i:=i<=(l 2).toNat/\∀k,k<i->km W ((l 1).toNat+k)=false
 μ i:=(l 2).toNat -i
 init:=0
def acr (W:Wd) (l:Nat->Int) (i:Nat):cQ where
 σ:=Nat
 rt:= []
 sh j:= [(0,cm 0),(6,.v (.int .i64 (l 1+i))),(7,.v (.int .i64 j))]
 mh _:= []
 inv j:=j<=W.ao/\∀k,k<j->qk W ((l 1).toNat+i) k=false
 μ j:=W.ao -j
 init:=0
structure N5 where
 (n:Nat) (l:Nat->Int) (W:Wd)
def N6:Sy.Spec:=⟨N5,λ⟨n,l,_⟩=> [.ptr 0 0 none 0 0,.sl true 1 n (λb _=> .v (.int .i64 (l b)))],λ⟨_,_,W⟩=>cL W,λ⟨n,l,W⟩=>bI W/\n=3/\∀i,i<n-> -1<=l i/\l i<=99999,λ⟨_,l,W⟩=> .v (.int .i64 (eM W l)),λ⟨_,l,W⟩=>cL (oX W l),
 λargs mem=>match args with| [a0,a1]=>some ⟨bT a1,λi=>av (bO a1 i 0),fW mem 0⟩|_=>none⟩
def Yu:aZ:=⟨[true],(N6).g,none⟩
def N7:N5->Prop:=λ⟨n,l,W⟩=>let a0:=(0:Int)<=0/\0<(n:Int);let b0:Int:=l (Int.toNat 0);let c0:=decide (b0<0);let d0:=W.ao;let e0:=(d0:Int);let T:=cond c0 true (decide (e0<=b0));let h0:=(0:Int)<=1/\1<(n:Int);let k0:Int:=l (Int.toNat 1);let U:=cond T true (decide (k0<0));let o0:=(0:Int)<=2/\2<(n:Int);let x:Int:=l (Int.toNat 2);let r0:=cond U true (decide (x<1));let y:=r0=false;let v0:Int:=k0+x;let w0:=aw v0=v0;let d:=W.ak;let V:=cond r0 true (decide ((d:Int)<v0));let z0:=eM W l;let a1:={W with aa:=kK W l};let b1:=aB W a1 True;let c1:=W.ay;let d1:=W.aO;let k:=W.aX;let o:=W.aP;let h1:=W.aC;let k1:=W.aR;let p:=W.aQ;let o1:=W.aL;let X:=gA (Wd.mk c1 (λr1:Nat=>W.af (0+r1)) d (λu1:Nat=>W.kinds (0+u1)) d0 (λv1:Nat=>W.aa (0+v1)) d1 (λw1:Nat=>W.tasks (0+w1)) k (λx1:Nat=>W.ah (0+x1)) (λy1:Nat=>λz1:Nat=>W.lines (0+y1) (0+z1)) o (λa2:Nat=>W.bits (0+a2)) h1 (λb2:Nat=>W.ai (0+b2)) k1 (λc2:Nat=>W.al (0+c2)) (λd2:Nat=>λe2:Nat=>W.ready (0+d2) (0+e2)) p (λg2:Nat=>W.aD (0+g2)) (λh2:Nat=>λk2:Nat=>W.ax (0+h2) (0+k2)) o1 (λl2:Nat=>W.aA (0+l2)) W.time) b0;let Y:=X !=0;let Z:=SV.ptr 0 0 none 0 0;let r2:=Z=Z;let q:Int:=l 1;let r:=aB W W True;let j:=Int.toNat (l 2);let i:=Int.toNat q;let y2:=7=z0/\b1;let e:=false=false;let a3:=0+Int.toNat b0;True/\a0/\tn 4 ((c0=false->a0)/\tn 10 ((T=false->h0)/\tn 5 ((U=false->o0)/\tn 5 ((y->h0)/\tn 2 ((y->o0)/\True/\(y->w0)/\tn 5 ((V=true->2=z0/\b1)/\(V=false->a0/\
 (((((((((((((True/\c1=c1/\(∀z:Nat,z<c1->True/\W.af (0+z)=W.af (0+z)))/\d=d/\(∀c3:Nat,let d3:=W.kinds (0+c3);c3<d->True/\d3=d3))/\d0=d0/\(∀e3:Nat,let g3:=W.aa (0+e3);e3<d0->aK g3 g3))/\d1=d1/\(∀h3:Nat,let k3:=W.tasks (0+h3);h3<d1->aJ k3 k3))/\k=k/\(∀A:Nat,let B:=W.ah (0+A);A<k->True/\B=B/\(∀q3:Nat,let r3:=W.lines (0+A) (0+q3);q3<B->True/\r3=r3)))/\o=o/\(∀C:Nat,C<o->True/\W.bits (0+C)=W.bits (0+C)))/\h1=h1/\(∀v3:Nat,let w3:=W.ai (0+v3);v3<h1->True/\w3=w3))/\k1=k1/\(∀E:Nat,let G:=W.al (0+E);E<k1->True/\G=G/\(∀z3:Nat,let a4:=W.ready (0+E) (0+z3);z3<G->True/\a4=a4)))/\p=p/\(∀I:Nat,let J:=W.aD (0+I);I<p->True/\J=J/\(∀d4:Nat,let e4:=W.ax (0+I) (0+d4);d4<J->aG e4 e4)))/\o1=o1/\(∀K:Nat,K<o1->True/\W.aA (0+K)=W.aA (0+K)))/\W.time=W.time)/\b0=b0/\True)/\True/\d0<=100000/\d0<=d*16)/\(Y=true->X=z0/\b1)/\(Y=false->h0/\r2/\k0=q+((0:Nat):Int)/\r/\(0<=j/\(∀h4:Nat,h4<0->km W (i+h4)=false))/\(∀c:Nat,let b:Int:=q+(c:Int);let o4:=decide (b<v0);let q4:=W.kinds (0+Int.toNat b) !=0;let r4:=b=b;let u4:Int:=l 1+(c:Int);let v4:Int:=b+1;c<=j/\(∀w4:Nat,w4<c->km W (i+w4)=false)->tn 2 (h0/\tn 2 (o0/\True/\w0/\(o4=true->(0<=b/\b<(d:Int))/\(q4=true->y2)/\(q4=false->r2/\r4/\0=((0:Nat):Int)/\r/\(0<=d0/\(∀x4:Nat,x4<0->qk W (i+c) x4=false))/\(∀t:Nat,let z4:=(t:Int);let a5:=decide (z4<e0);let O:=W.aa (0+Int.toNat z4);let c5:=O.base;let d5:=cond (O.kind==1) (decide (c5<=b)) false;let R:Int:=c5+O.len;let g5:=cond d5 (decide (b<R)) false;let S:Int:=z4+1;t<=d0/\(∀k5:Nat,k5<t->
 qk W (i+c) k5=false)->e0<=9223372036854775807->(a5=true->(0<=z4/\z4<e0)/\True/\tn 5 True/\(d5=true->aw R=R)/\(g5=true->y2)/\(g5=false->aw S=S/\(∃u:Nat,r2/\r4/\S=(u:Int)/\r/\(u<=d0/\(∀o5:Nat,o5<u->qk W (i+c) o5=false))/\d0-u<d0-t)))/\(a5=false->aw v4=v4/\(∃v:Nat,r2/\v4=q+(v:Int)/\r/\(v<=j/\(∀r5:Nat,r5<v->km W (i+r5)=false))/\j-v<j-c)))))/\(o4=false->tn 5 (a0/\tn 2 (h0/\tn 2 (o0/\tn 3 ((0<=b0/\b0<e0)/\((∀u5:Nat,e)/\(∀v5:Nat,e)/\(∀w5:Nat,e)/\(∀x5:Nat,e)/\(∀y5:Nat,e)/\(∀z5:Nat,e)/\(∀a6:Nat,e))/\0=z0/\aB {W with aa:=λb6:Nat=>let g:=Nat.beq b6 a3;let h:=W.aa b6;bM.mk (cond g 1 h.kind) (cond g k0 h.base) (cond g x h.len) (cond g 0 h.mark) (cond g 7 h.cd) (cond g 0 h.aH) (cond g (-1) h.from_)} a1 True))))))))))))))))
set_option maxHeartbeats 1000000 in
theorem WQ:aY Tryz.prog bk 67 Yu:=bn (.cons K9 .nil) false Tryz.call67 Tryz.func67 (λ⟨_,l,W⟩=> [.RX (acq W l) λi=> [.inv (acr W l i)],.GD 0]) (V:=N7) (λ_=>by kernel_rfl) λ⟨n,l,W⟩ hp=>by
 dsimp only[N6]at hp;dsimp only[N7,tn,aw,aB,aJ,aK,aG];simp only[bq,bx,eq_self,implies_true,bo]
 try simp only[dI]
 obtain⟨x,rfl,hl⟩:=hp;have y:=x.z;have K:=y.aa;have O:=y.k1;have R:=hl 0 (by decide);have S:=hl 1 (by decide);have l2:=hl 2 (by decide);have t0:Int.toNat 0=0:=rfl;have t1:Int.toNat 1=1:=rfl;have G:Int.toNat 2=2:=rfl;simp only[t0,t1,G];refine⟨by omega,λ_=>by omega,λ_=>by omega,λ_=>by omega,λ_=>by omega,λ_=>by omega,λ_=>dx (by omega) (by omega),λh=>?_,λh=>⟨by omega,by omega,λh1=>?_,λh1=>⟨by omega,by omega,λi A=>⟨by omega,by omega,dx (by omega) (by omega),λh2=>⟨?_,λo=>?_,λo j r _=>⟨λd=>⟨?_,λ_=>?_,λt=>?_,λt=>?_⟩,λd=>?_⟩⟩,λh2=>?ex⟩⟩⟩⟩
 ·have e:eM W l=2:=by unfold eM;rw[show xN W l=true from h];rfl
  have g:(eM W l==0)=false:=by rw[e];first|rfl|exact ho
  refine⟨e.symm,?_⟩;have c:=tJ g;have b:kK W l=_:=congrArg Wd.aa c;simp only[b];clear c b
  repeat' (first|exact trivial|exact cE rfl|rfl|refine And.intro ?_ ?_|intro _|fail)
 all_goals have B:xN W l=false:=h
 all_goals simp only[bX,decide_eq_false_iff_not]at h
 ·have ho:(gA W (l 0)==0)=false:=by simpa using h1
  have e:eM W l=gA W (l 0):=by unfold eM;rw[B,ho];rfl
  have g:(eM W l==0)=false:=by rw[e];first|rfl|exact ho
  refine⟨e.symm,?_⟩;have c:=tJ g;have b:kK W l=_:=congrArg Wd.aa c;simp only[b];clear c b
  repeat' (first|exact trivial|exact cE rfl|rfl|refine And.intro ?_ ?_|intro _|fail)
 all_goals have ho:(gA W (l 0)==0)=true:=by simpa using h1
 all_goals have hE:eM W l=bif dw (l 2).toNat (λk=>!km W ((l 1).toNat+k))then 0 else 7:=by unfold eM;rw[B,ho];rfl
 case ex=>
  have h2:=of_decide_eq_false h2;obtain⟨T,I⟩:=A;have e:eM W l=0:=by rw[hE,fL.2 λk u=>by rw[I k (by omega)];rfl];rfl
  have g:(eM W l==0)=true:=by rw[e];rfl
  refine⟨by omega,by omega,by omega,by omega,e.symm,?_⟩;have c:=Dd g;have b:kK W l=_:=congrArg Wd.aa c;simp only[b];clear c b;unfold AW aj;intro j _;cases r:j.beq (l 0).toNat
  repeat' (first|exact trivial|exact cE rfl|rfl|refine And.intro ?_ ?_|intro _|fail)
 all_goals have h2:=of_decide_eq_true h2
 all_goals have C:(l 1+(i:Int)).toNat=(l 1).toNat+i:=by omega
 all_goals have v:i<(l 2).toNat:=by omega
 all_goals have E:km W ((l 1).toNat+i)=true->eM W l=7:=λq=>by rw[hE,Qd (p:=λk=>km W ((l 1).toNat+k)) v q];rfl
 ·omega
 ·have e:=E (by unfold km;rw[<-C,o];rfl);have g:(eM W l==0)=false:=by rw[e];first|rfl|exact ho
  refine⟨e.symm,?_⟩;have c:=tJ g;have b:kK W l=_:=congrArg Wd.aa c;simp only[b];clear c b
  repeat' (first|exact trivial|exact cE rfl|rfl|refine And.intro ?_ ?_|intro _|fail)
 all_goals rw[C]at o
 ·have:=of_decide_eq_true d;omega
 ·have d:=of_decide_eq_true d;have J:=iY (Ce (x.sl j (by omega)));exact dx (by omega) (by omega)
 ·have d:=of_decide_eq_true d;have hs:qk W ((l 1).toNat+i) j=true:=by unfold qk;rw[show(((l 1).toNat+i:Nat):Int)=l 1+i by omega];exact t
  have e:=E (by
   unfold km;rw[Qd (p:=λk=>qk W ((l 1).toNat+i) k) (by omega) hs];exact j9 _)
  have g:(eM W l==0)=false:=by rw[e];first|rfl|exact ho
  refine⟨e.symm,?_⟩;have c:=tJ g;have b:kK W l=_:=congrArg Wd.aa c;simp only[b];clear c b
  repeat' (first|exact trivial|exact cE rfl|rfl|refine And.intro ?_ ?_|intro _|fail)
 ·have d:=of_decide_eq_true d;refine⟨dx (by omega) (by omega),j+1,by omega,⟨by omega,λk u=>?_⟩,by omega⟩;rcases bR k j with q|q
  ·exact r.2 k q
  ·rw[show k=j by omega];unfold qk;rw[show(((l 1).toNat+i:Nat):Int)=l 1+i by omega];exact t
 ·have d:=of_decide_eq_false d;refine⟨dx (by omega) (by omega),i+1,by omega,⟨by omega,λk u=>?_⟩,by omega⟩;rcases bR k i with q|q
  ·exact A.2 k q
  ·rw[show k=i by omega];unfold km;rw[o,fL.2 λk u=>by rw[r.2 k (by omega)];rfl];rfl
def gS (W:Wd) (l:Nat->Int):Int:=bif fY W (l 0) 2==0 then bif az (l 1) 15 then 2 else bif az (l 2) 65535 then 1 else 0 else fY W (l 0) 2
def lD (W:Wd) (l:Nat->Int) (i:Nat):Int:=bif gS W l==0 then({W with af:=aj W.af (l 0*16+l 1).toNat (l 2)}).af i else(W).af i
def xO (W:Wd) (l:Nat->Int):Wd:={W with af:=lD W l}
theorem Q8 {W:Wd} {l:Nat->Int} (h:(gS W l==0)=true):xO W l={W with af:=aj W.af (l 0*16+l 1).toNat (l 2)}:=by
 have b:lD W l=({W with af:=aj W.af (l 0*16+l 1).toNat (l 2)}).af:=by funext i;unfold lD;rw[h];rfl
 show({W with af:=lD W l}:Wd)=_;rw[b]<;>kernel_rfl
theorem De {W:Wd} {l:Nat->Int} (h:(gS W l==0)=false):xO W l=W:=by
 have b:lD W l=(W).af:=by funext i;unfold lD;rw[h];rfl
 show({W with af:=lD W l}:Wd)=_;rw[b]<;>kernel_rfl
structure Qe where
 (n:Nat) (l:Nat->Int) (W:Wd)
def Qf:Sy.Spec:=⟨Qe,λ⟨n,l,_⟩=> [.ptr 0 0 none 0 0,.sl true 1 n (λb _=> .v (.int .i64 (l b)))],λ⟨_,_,W⟩=>cL W,λ⟨n,_,W⟩=>bQ W/\n=3,λ⟨_,l,W⟩=> .v (.int .i64 (gS W l)),λ⟨_,l,W⟩=>cL (xO W l),
 λargs mem=>match args with| [a0,a1]=>some ⟨bT a1,λi=>av (bO a1 i 0),fW mem 0⟩|_=>none⟩
def aak:aZ:=⟨[true],(Qf).g,none⟩
def Qg:Qe->Prop:=λ⟨n,l,W⟩=>let a0:=(0:Int)<=0/\0<(n:Int);let b0:=W.ay;let c0:=W.ak;let d0:=W.ao;let e0:=W.aO;let b:=W.aX;let h0:=W.aP;let k0:=W.aC;let c:=W.aR;let o0:=W.aQ;let d:=W.aL;let r0:Int:=l (Int.toNat 0);let v:=Wd.mk b0 (λv0:Nat=>W.af (0+v0)) c0 (λw0:Nat=>W.kinds (0+w0)) d0 (λS:Nat=>W.aa (0+S)) e0 (λT:Nat=>W.tasks (0+T)) b (λz0:Nat=>W.ah (0+z0)) (λa1:Nat=>λb1:Nat=>W.lines (0+a1) (0+b1)) h0 (λc1:Nat=>W.bits (0+c1)) k0 (λd1:Nat=>W.ai (0+d1)) c (λU:Nat=>W.al (0+U)) (λV:Nat=>λh1:Nat=>W.ready (0+V) (0+h1)) o0 (λk1:Nat=>W.aD (0+k1)) (λX:Nat=>λo1:Nat=>W.ax (0+X) (0+o1)) d (λY:Nat=>W.aA (0+Y)) W.time;let r1:=fY v r0 2;let x:=r1 !=0;let v1:=gS W l;let w1:={W with af:=lD W l};let h:=aB W w1 True;let y:=(0:Int)<=1/\1<(n:Int);let e:Int:=l (Int.toNat 1);let z:=az e 15;let b2:=(0:Int)<=2/\2<(n:Int);let g:Int:=l (Int.toNat 2);let d2:=az g 65535;let i:Int:=r0*16;let g2:Int:=i+e;a0/\(((((((((((((True/\b0=b0/\(∀h2:Nat,h2<b0->True/\W.af (0+h2)=W.af (0+h2)))/\c0=c0/\(∀k2:Nat,let l2:=W.kinds (0+k2);k2<c0->True/\l2=l2))/\d0=d0/\(∀A:Nat,let B:=W.aa (0+A);A<d0->aK B B))/\e0=e0/\(∀r2:Nat,let C:=W.tasks (0+r2);r2<e0->aJ C C))/\b=b/\(∀j:Nat,let k:=W.ah (0+j);j<b->True/\k=k/\(∀E:Nat,let G:=W.lines (0+j) (0+E);E<k->True/\G=G)))/\h0=h0/\(∀o:Nat,o<h0->True/\W.bits (0+o)=W.bits (0+o)))/\k0=k0/\(∀a3:Nat,let I:=W.ai (0+a3);a3<k0->True/\I=I))/\c=c/\(∀p:Nat,
 let q:=W.al (0+p);p<c->True/\q=q/\(∀e3:Nat,let J:=W.ready (0+p) (0+e3);e3<q->True/\J=J)))/\o0=o0/\(∀r:Nat,let t:=W.aD (0+r);r<o0->True/\t=t/\(∀K:Nat,let O:=W.ax (0+r) (0+K);K<t->aG O O)))/\d=d/\(∀u:Nat,u<d->True/\W.aA (0+u)=W.aA (0+u)))/\W.time=W.time)/\r0=r0/\(2:Int)=2/\True)/\True/\vW.match_1 (λr3:ot=>Prop) (ot.mk v r0 2) (λZ:Wd=>λv3:Int=>λw3:Int=>bQ Z))/\(x=true->r1=v1/\h)/\(x=false->y/\((e=e/\(15:Int)=15/\True)/\True/\True)/\(z=true->2=v1/\h)/\(z=false->b2/\((g=g/\(65535:Int)=65535/\True)/\True/\True)/\(d2=true->1=v1/\h)/\(d2=false->tn 5 (a0/\True/\aw i=i/\True/\y/\True/\aw g2=g2/\True/\b2/\True/\(0<=g2/\g2<(b0:Int))/\(∀x3:Nat,false=false)/\0=v1/\aB {W with af:=λR:Nat=>cond (Nat.beq R (0+Int.toNat g2)) g (W.af R)} w1 True))))
set_option maxHeartbeats 1000000 in
theorem Yv:aY Tryz.prog bk 68 aak:=bn (.cons zk (.cons EF .nil)) false Tryz.call68 Tryz.func68 (λ_=> []) (V:=Qg) (λ_=>by kernel_rfl) λ⟨n,l,W⟩ hp=>by
 dsimp only[Qf]at hp;dsimp only[Qg,tn,aw,aB,aJ,aK,aG];simp only[bq,bx,eq_self,implies_true,bo]
 try simp only[dI]
 obtain⟨i,rfl⟩:=hp;have o:=i.af;have p:=i.k1;have t0:Int.toNat 0=0:=rfl;have t1:Int.toNat 1=1:=rfl;have j:Int.toNat 2=2:=rfl;simp only[t0,t1,j];refine⟨by omega,i,λh=>?_,λh=>⟨by omega,λh1=>?_,λh1=>⟨by omega,λh2=>?_,λh2=>?_⟩⟩⟩
 ·have d:(fY W (l 0) 2==0)=false:=by simpa using h
  have e:gS W l=fY W (l 0) 2:=by unfold gS;rw[d];rfl
  have g:(gS W l==0)=false:=by rw[e];first|rfl|exact d
  refine⟨e.symm,?_⟩;have c:=De g;have b:lD W l=_:=congrArg Wd.af c;simp only[b];clear c b
  repeat' (first|exact trivial|exact cE rfl|rfl|refine And.intro ?_ ?_|intro _|fail)
 all_goals have d:(fY W (l 0) 2==0)=true:=by simpa using h
 ·have e:gS W l=2:=by unfold gS;rw[d,h1];rfl
  have g:(gS W l==0)=false:=by rw[e];first|rfl|exact d
  refine⟨e.symm,?_⟩;have c:=De g;have b:lD W l=_:=congrArg Wd.af c;simp only[b];clear c b
  repeat' (first|exact trivial|exact cE rfl|rfl|refine And.intro ?_ ?_|intro _|fail)
 ·have e:gS W l=1:=by unfold gS;rw[d,h1,h2];rfl
  have g:(gS W l==0)=false:=by rw[e];first|rfl|exact d
  refine⟨e.symm,?_⟩;have c:=De g;have b:lD W l=_:=congrArg Wd.af c;simp only[b];clear c b
  repeat' (first|exact trivial|exact cE rfl|rfl|refine And.intro ?_ ?_|intro _|fail)
 have e:gS W l=0:=by unfold gS;rw[d,h1,h2];rfl
 have g:(gS W l==0)=true:=by rw[e];rfl
 obtain⟨q,r,t⟩:=tP (eq_of_beq d);have b1:=dO h1;have e:=e.symm;have w1:IntKind.i64.wrap (l 0*16)=l 0*16:=dx (by omega) (by omega);have k:IntKind.i64.wrap (l 0*16+l 1)=l 0*16+l 1:=dx (by omega) (by omega)
 repeat' (first|exact e|exact w1|exact k|omega|refine And.intro ?_ ?_)
 have c:=Q8 g;have b:lD W l=_:=congrArg Wd.af c;simp only[b];clear c b
 repeat' (first|exact trivial|exact cE rfl|rfl|refine And.intro ?_ ?_|intro _|fail)
end Go.Proofs.YthgmgkabnffniaaGreatDoor
