/- Off a core, into a line, asked. -/
import Derived.Test.YthgmgkabnffniaaGreatDoorYL
import Derived.Test.YthgmgkabnffniaaGreatDoorYJ
set_option linter.unusedVariables false
set_option linter.unusedSimpArgs false
set_option maxRecDepth 100000
namespace Go.Proofs.YthgmgkabnffniaaGreatDoor
open Go.RowKit Go.Sy
theorem TS.R' {X:Nat->Prop} {W:Wd} {t:Nat} {C:Nat->Int} (i:∀c,c<W.aC->C c=dC W t c) (h:TS X W) (p:t<W.ak) (q:W.kinds t=6) (k:¬X t) (hs:(W.tasks t).st=1) (g:∃c,c<W.aC/\W.ai c=t):
 TS (λf=>X f\/f=t) {W with ai:=C}/\cB W t=0/\cu {W with ai:=C} t=0/\bV W t=0:=by
 obtain⟨p1,u,_⟩:=(h.so t p q k).rd hs;have e0:∀x:Nat,x≠t->cf W.aC C x=cf W.aC W.ai x:=λx k=>hV λj l=>by
  show(C j==(x:Int))=(W.ai j==(x:Int));rw[i j l];unfold dC;cases d:W.ai j==(t:Int)with
  |false=>rfl
  |true=>rw[eq_of_beq d,beq_eq_false_iff_ne.2 (show(t:Int)≠x by omega)];exact beq_eq_false_iff_ne.2 (show(-1:Int)≠x by omega)
 have z:cf W.aC C t=0:=yn.2 λj l=>by
  rw[i j l];unfold dC;cases d:W.ai j==(t:Int)with
  |false=>simpa using d
  |true=>show(-1:Int)≠t;omega
 have v:cu {W with ai:=C} t=0:=by obtain⟨c,n,o⟩:=g;have:=Fy n o;unfold cu at u;show cP W.aR W.al W.ready t+cf W.aC C t=0;omega
 refine⟨(h.wk (Y:=λf=>X f\/f=t) λf r=> .inl r).lists rfl rfl rfl rfl (λf r y=>⟨rfl,?_,λ_ _ h=>h⟩) h.ln (λc g=>?_) h.rl,p1,v,?_⟩
 ·show cP W.aR W.al W.ready f+cf W.aC C f=_;rw[e0 f λe=>y (.inr e)];rfl
 ·refine jv.2 λb=>?_;have b:C c≠ -1:=b;show RD W (C c) c (-1);rw[i c g]at b⊢;have e:dC W t c=W.ai c:=by
   unfold dC at b⊢;cases d:W.ai c==(t:Int)with
   |false=>rfl
   |true=>rw[d]at b;exact absurd rfl b
  rw[e]at b⊢;exact jv.1 (h.co c g) b
 ·have h1:=h.o1 t p q;have:bV W t≠1:=λe=>by have:=(h1.2 k).1 e;omega
  omega
theorem TS.off {X:Nat->Prop} {W:Wd} {t:Nat} (h:TS X W) (b:t<W.ak) (d:W.kinds t=6) (e:¬X t) (hs:(W.tasks t).st=1) (g:∃c,c<W.aC/\W.ai c=t):
 TS (λf=>X f\/f=t) (eD W t)/\cB (eD W t) t=0/\cu (eD W t) t=0/\bV (eD W t) t=0:=TS.R' (λ_ _=>rfl) h b d e hs g
def kh (W:Wd) (t a:Nat) (s:Int):Wd:={W with tasks:=ma W t a s,ah:=pd W a,lines:=pf W t a}
theorem TS.Q_ {X:Nat->Prop} {W:Wd} {t a:Nat} {s:Int} (h:TS X W) (C:X t) (E:t<W.ak) (d:W.kinds t=6) (hs:cB W t=0) (q:cu W t=0) (ho:bV W t=0) (O:a<W.ak)
 (R:(W.kinds a=7/\(s=2\/s=3\/s=4))\/(W.kinds a=8/\s=6)) (S:W.bits a=0) (G:0<W.ah a->jq W (W.lines a 0)=(s==4)) (u:s=4->(W.tasks t).ar= -1):TS (λf=>X f/\f≠t) (kh W t a s):=by
 obtain⟨T,U,V⟩:=h.nm t E d;have z:=h.z;have zl:=z.lines;have v:0<=s/\s<=6:=by omega
 have h1:TS X {W with tasks:=aj W.tasks t {W.tasks t with st:=s,loc:=a}}:=h.set E d T (sn U v) V rfl (.inl ⟨C,hs,q⟩);obtain⟨l1,l2,Y,I⟩:=dY.1 (h.ln a O);have J:∀f,cP W.aX (pd W a) (pf W t a) f=cP W.aX W.ah W.lines f+b1 ((t:Int)==f):=λf=>by have:=ym (n:=W.aX) (ln:=W.ah) (l:=W.lines) (m:=W.ah a+1) (g:=hO (W.ah a) (W.lines a) t) (x:=f) (show a<W.aX by omega);rw[Cc]at this;show cP W.aX (aj W.ah a _) (aj W.lines a _) f=_;omega
 have h2:TS X (kh W t a s):=by
  refine h1.lists rfl rfl rfl rfl (λf j y=>⟨?_,rfl,λb _ c=>?_⟩) (λf j=>?_) h1.co h1.rl
  ·show cP W.aX (pd W a) (pf W t a) f=_;rw[J,lM λe=>y (by rw[<-CM e];exact C)];rfl
  ·show cK (aj W.ah a _ b) (aj W.lines a _ b) f=true;rcases aT (b=a)with e|e
   ·subst e;rw[bg,bg];rw[wC]at c⊢;rw[Cc];have c:cf (W.ah b) (W.lines b) f≠0:=c;omega
   ·rw[bh e,bh e];exact c
  ·have j:f<W.ak:=j;refine dY.2 ?_;show(0<aj W.ah a (W.ah a+1) f->W.kinds f=7\/W.kinds f=8)/\(W.bits f≠0->W.kinds f=8/\aj W.ah a (W.ah a+1) f=0)/\(0<=W.bits f/\W.bits f<=65535)/\∀k,k<aj W.ah a (W.ah a+1) f->(0<=aj W.lines a (hO (W.ah a) (W.lines a) t) f k/\aj W.lines a (hO (W.ah a) (W.lines a) t) f k<W.ak)/\W.kinds (aj W.lines a (hO (W.ah a) (W.lines a) t) f k).toNat=6/\(aj W.tasks t {W.tasks t with st:=s,loc:=a} (aj W.lines a (hO (W.ah a) (W.lines a) t) f k).toNat).loc=f/\((aj W.tasks t {W.tasks t with st:=s,loc:=a} (aj W.lines a (hO (W.ah a) (W.lines a) t) f k).toNat).st==4)=((aj W.tasks t {W.tasks t with st:=s,loc:=a} (aj W.lines a (hO (W.ah a) (W.lines a) t) f 0).toNat).st==4);rcases aT (f=a)with e|e
   ·subst e;rw[bg,bg];have hold:∀k,k<W.ah f->(W.lines f k).toNat≠t:=λk d e=>E5 hs (by omega) d (toNat_eq (I k d).1.1 e);have h0:((aj W.tasks t {W.tasks t with st:=s,loc:=f} (hO (W.ah f) (W.lines f) t 0).toNat).st==4)=(s==4):=by
     unfold hO;rcases ja (W.ah f)with e|e
     ·rw[e,kZ (bc _)];show((aj W.tasks t {W.tasks t with st:=s,loc:=f} t).st==4)=_;rw[bg]
     ·rw[gY e];show((aj W.tasks t {W.tasks t with st:=s,loc:=f} (W.lines f 0).toNat).st==4)=_;rw[bh (hold 0 e)];exact G e
    refine⟨λ_=>by omega,λA=>absurd S A,Y,λk Z=>?_⟩;rw[h0];unfold hO;rcases bR k (W.ah f)with g|g
    ·rw[gY g];obtain⟨a1,a2,a3,a4⟩:=I k g;refine⟨a1,a2,?_,?_⟩
     ·show(aj W.tasks t _ (W.lines f k).toNat).loc=f;rw[bh (hold k g)];exact a3
     ·show((aj W.tasks t _ (W.lines f k).toNat).st==4)=_;rw[bh (hold k g),<-G (by omega)];exact a4
    ·rw[kZ g];refine⟨⟨pF _,by show(t:Int)<_;omega⟩,d,?_,?_⟩
     ·show(aj W.tasks t _ t).loc=f;rw[bg]
     ·show((aj W.tasks t _ t).st==4)=_;rw[bg]
   ·rw[bh e,bh e];exact dY.1 (h1.ln f j)
 refine h2.lv λf j h6 y hy=>?_;obtain rfl:f=t:=fN λe=>hy ⟨y,e⟩;have B:((kh W f a s).tasks f)={W.tasks f with st:=s,loc:=a}:=by show aj W.tasks f _ f=_;rw[bg]
 have e2:bV (kh W f a s) f=0:=(pA (W:=W) (t:=f) (r:={W.tasks f with st:=s,loc:=a}) rfl f).trans ho;have e3:cB (kh W f a s) f=1:=by unfold cB at hs;show cP W.aX (pd W a) (pf W f a) f=1;rw[J,pY];omega
 have s1:((kh W f a s).tasks f).st=s:=by rw[B]
 have i:((kh W f a s).tasks f).loc=a:=by rw[B]
 have e4:cK ((kh W f a s).ah a) ((kh W f a s).lines a) f=true:=by show cK (aj W.ah a _ a) (aj W.lines a _ a) f=true;rw[bg,bg,wC,Cc,pY];omega
 have K:∀k,W.kinds a=k->bK (kh W f a s) ((kh W f a s).tasks f).loc=k:=λk d=>by rw[i];show bK W a=k;rw[eY (by omega)];exact d
 refine⟨by rw[e2,s1];omega,⟨λo=>⟨e3,q,K 7 ?_,by rw[i];exact e4⟩,λo=>⟨e3,q,K 8 ?_,by rw[i];exact e4⟩,λo=>?_,λq1 q2 q3 q4 q6=>?_⟩,λp=>?_⟩
 ·rw[s1]at o;omega
 ·rw[s1]at o;omega
 ·rw[s1]at o;omega
 ·rw[s1]at q1 q2 q3 q4 q6;omega
 ·rw[B]at p;rw[s1];exactλh4=>p (u h4)
theorem TS.Aa {X:Nat->Prop} {W:Wd} {u:Nat} {v:Int} (h:TS X W) (I:u<W.ak) (B:W.kinds u=6) (hold:(W.tasks u).ar= -1\/X (W.tasks u).ar.toNat)
 (o:v= -1\/((0<=v/\v<W.ak)/\W.kinds v.toNat=6/\X v.toNat/\bV W v.toNat=0/\(X u\/(W.tasks u).st≠4))):
 TS X {W with tasks:=aj W.tasks u {W.tasks u with ar:=v}}/\∀f:Nat,bV {W with tasks:=aj W.tasks u {W.tasks u with ar:=v}} f+b1 ((W.tasks u).ar==f)=bV W f+b1 (v==f):=by
 have z:=h.z;have Z:=z.tasks;have j:∀i,(aj W.tasks u {W.tasks u with ar:=v} i).st=(W.tasks i).st/\(aj W.tasks u {W.tasks u with ar:=v} i).loc=(W.tasks i).loc/\(aj W.tasks u {W.tasks u with ar:=v} i).core=(W.tasks i).core/\(aj W.tasks u {W.tasks u with ar:=v} i).prio=(W.tasks i).prio:=λi=>by
  rcases aT (i=u)with e|e
  ·subst e;rw[bg];exact⟨rfl,rfl,rfl,rfl⟩
  ·rw[bh e];exact⟨rfl,rfl,rfl,rfl⟩
 have rd:∀{x c p},RD W x c p->RD {W with tasks:=aj W.tasks u {W.tasks u with ar:=v}} x c p:=λ{x c p} J=>by
  obtain⟨a,b,c,d,e⟩:=J;obtain⟨y,t,e3,e4⟩:=j x.toNat
  exact⟨a,b,y.trans c,e3.trans d,λhp=>e4.trans (e hp)⟩
 have G:∀f:Nat,bV {W with tasks:=aj W.tasks u {W.tasks u with ar:=v}} f+b1 ((W.tasks u).ar==f)=bV W f+b1 (v==f):=λf=>by
  have:=K5 (n:=W.aO) (f:=λi=>(W.tasks i).ar) (c:=u) (v:=v) (x:=f) (by omega);refine(congrArg (· +b1 ((W.tasks u).ar==(f:Int))) ?_).trans this;show bD W.aO (λi=>(aj W.tasks u {W.tasks u with ar:=v} i).ar==(f:Int))=_;refine hV λi _=>?_;show _=(aj (λi=>(W.tasks i).ar) u v i==(f:Int));rcases aT (i=u)with e|e
  ·subst e;rw[bg,bg]
  ·rw[bh e,bh e]
 refine⟨⟨z.cg rfl rfl,λf l q=>?_,λf l q=>?_,λf l q A=>?_,λf l q=>?_,λf l q r=>?_,λf l=>?_,λc K=>?_,λi O=>?_⟩,G⟩
 ·show aj W.tasks u _ f=_;rw[bh λe=>q (by show W.kinds f=6;rw[e];exact B)];exact h.bl f l q
 ·show gV (aj W.tasks u _ f)=false/\fk W (aj W.tasks u _ f)=false/\fx W (aj W.tasks u _ f)=true;rcases aT (f=u)with e|e
  ·subst e;rw[bg];obtain⟨a,b,c⟩:=h.nm f I B;refine⟨a,b,?_⟩;unfold fx at c⊢;simp only[aW]at c⊢;refine⟨c.1,?_⟩;unfold okF;rcases o with e|e
   ·rw[e];rfl
   ·rw[eY e.1,e.2.1];simp
  ·rw[bh e];exact h.nm f l q
 ·have A:(aj W.tasks u {W.tasks u with ar:=v} f).ar≠ -1:=A;show(¬X (aj W.tasks u {W.tasks u with ar:=v} f).ar.toNat->(aj W.tasks u {W.tasks u with ar:=v} (aj W.tasks u {W.tasks u with ar:=v} f).ar.toNat).st=5)/\(¬X f->(aj W.tasks u {W.tasks u with ar:=v} f).st≠4);rw[(j f).1,(j _).1];rcases aT (f=u)with e|e
  ·subst e;rw[bg]at A⊢;have g:=o.resolve_left A;exact⟨λr=>absurd g.2.2.1 r,λr=>g.2.2.2.2.resolve_left r⟩
  ·rw[bh e]at A⊢;exact h.ow f l q A
 ·have e:=G f;obtain⟨a,b⟩:=h.o1 f l q;show _/\(¬X f->(_↔(aj W.tasks u {W.tasks u with ar:=v} f).st=5));rw[(j f).1];rcases aT (v=(f:Int))with g|g
  ·subst g;have g:=o.resolve_left (by omega);rw[cj]at g;rw[pY,g.2.2.2.1]at e;exact⟨by omega,λr=>absurd g.2.2.1 r⟩
  ·rw[lM g]at e;refine⟨by omega,λr=>?_⟩;rw[lM (x:=(W.tasks u).ar) λt=>r (by
    have:=hold.resolve_left (by omega);rwa [t,cj]at this)]at e
   have e:bV {W with tasks:=aj W.tasks u {W.tasks u with ar:=v}} f=bV W f:=by omega
   rw[e];exact b r
 ·obtain⟨y,t,_⟩:=j f;obtain⟨p1,R,S,T⟩:=h.so f l q r;refine⟨?_,?_,?_,?_⟩
  ·show(aj W.tasks u _ f).st=2\/(aj W.tasks u _ f).st=3\/(aj W.tasks u _ f).st=4->cB W f=1/\cu W f=0/\bK W (aj W.tasks u _ f).loc=7/\cK (W.ah (aj W.tasks u _ f).loc.toNat) (W.lines (aj W.tasks u _ f).loc.toNat) f=true;rw[y,t];exact p1
  ·show(aj W.tasks u _ f).st=6->cB W f=1/\cu W f=0/\bK W (aj W.tasks u _ f).loc=8/\cK (W.ah (aj W.tasks u _ f).loc.toNat) (W.lines (aj W.tasks u _ f).loc.toNat) f=true;rw[y,t];exact R
  ·show(aj W.tasks u _ f).st=1->cB W f=0/\cu W f=1/\(aj W.tasks u _ f).loc= -1;rw[y,t];exact S
  ·show(aj W.tasks u _ f).st≠1->(aj W.tasks u _ f).st≠2->(aj W.tasks u _ f).st≠3->(aj W.tasks u _ f).st≠4->(aj W.tasks u _ f).st≠6->cB W f=0/\cu W f=0/\(aj W.tasks u _ f).loc= -1;rw[y,t];exact T
 ·have l:f<W.ak:=l;obtain⟨U,l2,V,Y⟩:=dY.1 (h.ln f l);refine dY.2 ⟨U,l2,V,λk C=>?_⟩;obtain⟨a,b,c,d⟩:=Y k C;obtain⟨y,t,_⟩:=j (W.lines f k).toNat
  refine⟨a,b,t.trans c,?_⟩;show((aj W.tasks u _ (W.lines f k).toNat).st==4)=((aj W.tasks u _ (W.lines f 0).toNat).st==4);rw[y,(j _).1];exact d
 ·exact jv.2 λE=>rd (jv.1 (h.co c K) E)
 ·exact iG.2 λk C=>rd (iG.1 (h.rl i O) k C)
theorem TS.bits {X:Nat->Prop} {W:Wd} {b:Nat} {v:Int} (h:TS X W) (l:b<W.ak) (c:W.kinds b=8) (d:0<=v/\v<=65535) (hl:v≠0->W.ah b=0):TS X {W with bits:=aj W.bits b v}:=by
 refine h.lists rfl rfl rfl rfl (λf _ _=>⟨rfl,rfl,λ_ _ h=>h⟩) (λf g=>?_) h.co h.rl;obtain⟨i,l2,j,k⟩:=dY.1 (h.ln f g);refine dY.2 ⟨i,?_,?_,k⟩
 ·show aj W.bits b v f≠0->_;rcases aT (f=b)with e|e
  ·subst e;rw[bg];exactλh0=>⟨c,hl h0⟩
  ·rw[bh e];exact l2
 ·show 0<=aj W.bits b v f/\aj W.bits b v f<=65535;rcases aT (f=b)with e|e
  ·subst e;rw[bg];exact d
  ·rw[bh e];exact j
theorem TS.run {X:Nat->Prop} {W:Wd} {k i c:Nat} (h:TS X W) (y:k<W.aR) (z:i<W.al k) (A:c<W.aC) (r:k/4=c) (t:W.ai c= -1):
 TS X {W with ai:=aj W.ai c (W.ready k i),al:=aj W.al k (W.al k -1),ready:=aj W.ready k (lV (W.ready k) i)}:=by
 have u:=iG.1 (h.rl k y);refine h.lists rfl rfl rfl rfl (λf C _=>⟨rfl,?_,λ_ _ h=>h⟩) h.ln (λd hd=>?_) λq B=>?_
 ·have a1:=ym (n:=W.aR) (ln:=W.al) (l:=W.ready) (m:=W.al k -1) (g:=lV (W.ready k) i) (x:=f) y;have E:=K4 (n:=W.al k) (f:=W.ready k) (x:=f) z;have a3:=K5 (n:=W.aC) (f:=W.ai) (c:=c) (v:=W.ready k i) (x:=f) A;rw[t,lM (show(-1:Int)≠f by omega)]at a3;show cP W.aR (aj W.al k _) (aj W.ready k _) f+cf W.aC (aj W.ai c _) f=cP W.aR W.al W.ready f+cf W.aC W.ai f;omega
 ·refine jv.2 λp=>?_;have p:aj W.ai c (W.ready k i) d≠ -1:=p;show RD W (aj W.ai c (W.ready k i) d) d (-1);rcases aT (d=c)with e|e
  ·subst e;rw[bg];obtain⟨a,b,c,d,e⟩:=u i z;exact⟨a,b,c,by rw[d,r],λh=>absurd h (by decide)⟩
  ·rw[bh e]at p⊢;exact jv.1 (h.co d hd) p
 ·refine iG.2 λj o=>?_;have o:j<aj W.al k (W.al k -1) q:=o;show RD W (aj W.ready k (lV (W.ready k) i) q j) _ _;rcases aT (q=k)with e|e
  ·subst e;rw[bg]at o⊢;unfold lV;cases Nat.blt j i
   ·exact u (j+1) (by omega)
   ·exact u j (by omega)
  ·rw[bh e]at o⊢;exact iG.1 (h.rl q B) j o
theorem fp.of {W W':Wd} {t:Int} (h:fp W t) (d:W'.aO=W.aO) (e:W'.aR=W.aR) (e3:W'.al=W.al) (e4:(W'.tasks t.toNat).core=(W.tasks t.toNat).core) (b:(W'.tasks t.toNat).prio=(W.tasks t.toNat).prio):fp W' t:=by
 obtain⟨t0,t1,r0,r1,c0,c1,p0,p1,n⟩:=h;have c:oh (W'.tasks t.toNat)=oh (W.tasks t.toNat):=by unfold oh;rw[e4,b]
 exact⟨t0,by rw[d];exact t1,by rw[c];exact r0,by rw[c,e];exact r1,by rw[e4];exact c0,by rw[e4];exact c1,by rw[b];exact p0,by rw[b];exact p1,by unfold ef;rw[c,e3];exact n⟩
theorem gb.of {W W':Wd} {t:Int} (h:gb W t) (c:W'.aO=W.aO) (b:W'.aC=W.aC) (e3:W'.ai=W.ai) (e4:(W'.tasks t.toNat).core=(W.tasks t.toNat).core):gb W' t:=by obtain⟨t0,t1,c0,c1,u⟩:=h;exact⟨t0,by rw[c];exact t1,by rw[e4];exact c0,by rw[e4,b];exact c1,by rw[b,e3,e4];exact u⟩
theorem Dt {W:Wd} {a i:Nat} {b:Bool} (p:aF->Int) (h:∀r:aF,p {r with loc:= -1}=p r):p ((dp W a b).tasks i)=p (W.tasks i):=by
 show p (oP W a b i)=_;unfold oP;cases b
 ·rfl
 ·exact pE p (h _)
theorem Ds {W:Wd} {t i:Nat} {b g:Int} (p:aF->Int) (h:∀r:aF,p {r with r1:=b,r2:=g}=p r):p ((di W t b g).tasks i)=p (W.tasks i):=pE p (h _)
theorem ach {W:Wd} {t i:Nat} (p:aF->Int) (h:∀r:aF,p {r with st:=1,loc:= -1}=p r):p ((cz W t).tasks i)=p (W.tasks i):=pE p (h _)
theorem fp.rQ {W:Wd} {t:Int} {a:Nat} {b:Bool} (h:fp W t):fp (dp W a b) t:=h.of rfl rfl rfl (Dt aF.core λ_=>rfl) (Dt aF.prio λ_=>rfl)
theorem fp.lk {W:Wd} {t:Int} {u:Nat} {b g:Int} (h:fp W t):fp (di W u b g) t:=h.of rfl rfl rfl (Ds aF.core λ_=>rfl) (Ds aF.prio λ_=>rfl)
theorem gb.rQ {W:Wd} {t:Int} {a:Nat} {b:Bool} (h:gb W t):gb (dp W a b) t:=h.of rfl rfl rfl (Dt aF.core λ_=>rfl)
theorem gb.lk {W:Wd} {t:Int} {u:Nat} {b g:Int} (h:gb W t):gb (di W u b g) t:=h.of rfl rfl rfl (Ds aF.core λ_=>rfl)
theorem gb.vI {W:Wd} {t:Int} {u:Nat} (h:gb W t):gb (cz W u) t:=h.of rfl rfl rfl (ach aF.core λ_=>rfl)
def gG (a b:Int):Int:=(iM 7 a.toNat b.toNat:Nat)
def mc (W:Wd) (b:Nat) (g:Int) (i:Nat):Int:=aj W.bits b (gG (W.bits b) g) i
def sd (W:Wd) (b:Nat) (g:Int) (i:Nat):aF:=bif W.ah b==0 then({W with bits:=mc W b g}).tasks i else(cz (di (dp W b true) (W.lines b 0).toNat 0 g) (W.lines b 0).toNat).tasks i
def rR (W:Wd) (b:Nat) (g:Int) (i:Nat):Nat:=bif W.ah b==0 then({W with bits:=mc W b g}).ah i else(cz (di (dp W b true) (W.lines b 0).toNat 0 g) (W.lines b 0).toNat).ah i
def se (W:Wd) (b:Nat) (g:Int) (i k:Nat):Int:=bif W.ah b==0 then({W with bits:=mc W b g}).lines i k else(cz (di (dp W b true) (W.lines b 0).toNat 0 g) (W.lines b 0).toNat).lines i k
def sI (W:Wd) (b:Nat) (g:Int) (i:Nat):Int:=bif W.ah b==0 then({W with bits:=mc W b g}).bits i else(cz (di (dp W b true) (W.lines b 0).toNat 0 g) (W.lines b 0).toNat).bits i
def rS (W:Wd) (b:Nat) (g:Int) (i:Nat):Nat:=bif W.ah b==0 then({W with bits:=mc W b g}).al i else(cz (di (dp W b true) (W.lines b 0).toNat 0 g) (W.lines b 0).toNat).al i
def sf (W:Wd) (b:Nat) (g:Int) (i k:Nat):Int:=bif W.ah b==0 then({W with bits:=mc W b g}).ready i k else(cz (di (dp W b true) (W.lines b 0).toNat 0 g) (W.lines b 0).toNat).ready i k
def iu (W:Wd) (b:Nat) (g:Int):Wd:={W with tasks:=sd W b g,ah:=rR W b g,lines:=se W b g,bits:=sI W b g,al:=rS W b g,ready:=sf W b g}
theorem Hg {W:Wd} {b:Nat} {g:Int} (h:(W.ah b==0)=true):iu W b g={W with bits:=mc W b g}:=by
 have e:sd W b g=({W with bits:=mc W b g}).tasks:=by funext i;unfold sd;rw[h];rfl
 have c:rR W b g=({W with bits:=mc W b g}).ah:=by funext i;unfold rR;rw[h];rfl
 have j:se W b g=({W with bits:=mc W b g}).lines:=by funext i k;unfold se;rw[h];rfl
 have n:sI W b g=({W with bits:=mc W b g}).bits:=by funext i;unfold sI;rw[h];rfl
 have d:rS W b g=({W with bits:=mc W b g}).al:=by funext i;unfold rS;rw[h];rfl
 have l:sf W b g=({W with bits:=mc W b g}).ready:=by funext i k;unfold sf;rw[h];rfl
 show({W with tasks:=sd W b g,ah:=rR W b g,lines:=se W b g,bits:=sI W b g,al:=rS W b g,ready:=sf W b g}:Wd)=_;rw[e,c,j,n,d,l]<;>kernel_rfl
theorem OR {W:Wd} {b:Nat} {g:Int} (h:(W.ah b==0)=false):iu W b g=cz (di (dp W b true) (W.lines b 0).toNat 0 g) (W.lines b 0).toNat:=by
 have e:sd W b g=(cz (di (dp W b true) (W.lines b 0).toNat 0 g) (W.lines b 0).toNat).tasks:=by funext i;unfold sd;rw[h];rfl
 have c:rR W b g=(cz (di (dp W b true) (W.lines b 0).toNat 0 g) (W.lines b 0).toNat).ah:=by funext i;unfold rR;rw[h];rfl
 have j:se W b g=(cz (di (dp W b true) (W.lines b 0).toNat 0 g) (W.lines b 0).toNat).lines:=by funext i k;unfold se;rw[h];rfl
 have n:sI W b g=(cz (di (dp W b true) (W.lines b 0).toNat 0 g) (W.lines b 0).toNat).bits:=by funext i;unfold sI;rw[h];rfl
 have d:rS W b g=(cz (di (dp W b true) (W.lines b 0).toNat 0 g) (W.lines b 0).toNat).al:=by funext i;unfold rS;rw[h];rfl
 have l:sf W b g=(cz (di (dp W b true) (W.lines b 0).toNat 0 g) (W.lines b 0).toNat).ready:=by funext i k;unfold sf;rw[h];rfl
 show({W with tasks:=sd W b g,ah:=rR W b g,lines:=se W b g,bits:=sI W b g,al:=rS W b g,ready:=sf W b g}:Wd)=_;rw[e,c,j,n,d,l]<;>kernel_rfl
def cH (W:Wd) (t a k:Int):Int:=bif decide (t<0)||decide ((W.ak:Int)<=t)||decide (a<0)||decide ((W.ak:Int)<=a)then 2 else bif W.kinds t.toNat !=6||W.kinds a.toNat !=k then 3 else bif W.ai (W.tasks t.toNat).core.toNat==t then 0 else 7
structure AS (W:Wd):Prop where
 z:bQ W
 k:∀i:Nat,i<W.aO->0<=(W.tasks i).core/\(W.tasks i).core<W.aC
 u:∀(t:Int) (j:Nat),0<=t->j<W.aC->W.ai j=t->(W.tasks t.toNat).core=j
structure AR (W:Wd) (t a:Int):Prop where
 l:pn W a
 o:gb W t
 nc:W.aC<=100000
 ow: -1<=(W.tasks t.toNat).ar
 f:0<W.ah a.toNat->fp W (W.lines a.toNat 0)/\2<=(W.tasks (W.lines a.toNat 0).toNat).st/\(W.tasks (W.lines a.toNat 0).toNat).st<=4
def acg (n:Nat) (l:Nat->Int) (q:Nat):cQ where
 σ:=Nat
 rt:= []
 sh i:= [(q,.v (.int .i64 i))]
 mh _:= []
 inv i:=i<=n/\∀j,j<i->az (l j) 65535=false
 μ i:=n -i
 init:=0
structure qQ where
 (W:Wd) (t a k:Int)
def zp:Sy.Spec:=⟨qQ,λ⟨W,t,a,k⟩=> [dN W,.v (.int .i64 t),.v (.int .i64 a),.v (.int .i64 k)],λ_=> [],λ⟨W,_,_,_⟩=>AS W,λ⟨W,t,a,k⟩=> .er 43 66 (cH W t a k) (-1),λ_=> [],
 λargs mem=>match args with| [a0,a1,b,a3]=>some ⟨dJ a0,av (a1),av (b),av (a3)⟩|_=>none⟩
def Z3:aZ:=⟨[],(zp).g,none⟩
def P7:qQ->Prop:=λ⟨W,t,a,k⟩=>let a0:=((W.ak:Nat):Int);let b0:=cond (cond (cond (decide (t<0)) true (decide (a0<=t))) true (decide (a<0))) true (decide (a0<=a));let c0:=cH W t a k;let d0:=((-1):Int)=(-1);let e0:=W.kinds (Int.toNat t) !=6;let b:=cond e0 true (W.kinds (Int.toNat a) !=k);let h0:=(W.tasks (Int.toNat t)).core;let k0:=W.ai (Int.toNat h0) !=t;(b0=true->((2:Int)≠0/\c0=2/\d0)/\True)/\(b0=false->(0<=t/\t<a0)/\(e0=false->0<=a/\a<a0)/\(b=true->((3:Int)≠0/\c0=3/\d0)/\True)/\(b=false->tn 9 ((0<=t/\t<((W.aO:Nat):Int))/\tn 3 ((0<=h0/\h0<((W.aC:Nat):Int))/\(k0=true->((7:Int)≠0/\c0=7/\d0)/\True)/\(k0=false->(c0=0/\d0)/\True)))))
set_option maxHeartbeats 1000000 in
theorem Gy:aY Tryz.prog bk 25 Z3:=bn .nil false Tryz.call25 Tryz.func25 (λ_=> []) (V:=P7) (λ_=>by kernel_rfl) λ⟨W,t,a,k⟩ hp=>by
 dsimp only[zp]at hp;dsimp only[P7,tn,aw,aB,aJ,aK,aG];simp only[bq,bx,eq_self,implies_true,bo]
 try simp only[dI]
 have c:=hp;obtain⟨d,e,g⟩:=hp;have i:=d.tasks;unfold cH;refine⟨λh=>⟨by decide,by rw[h];rfl⟩,λh=>?_⟩;simp only[h,cond_false];simp only[bX,decide_eq_false_iff_not]at h;refine⟨by omega,λ_=>by omega,λh2=>⟨by decide,by rw[h2];rfl⟩,λh2=>?_⟩;simp only[h2,cond_false];refine⟨by omega,e t.toNat (by omega),λb=>⟨by decide,?_⟩,λb=>?_⟩
 ·rw[show(W.ai (W.tasks t.toNat).core.toNat==t)=false by simpa using b];rfl
 ·rw[show(W.ai (W.tasks t.toNat).core.toNat==t)=true by simpa using b];rfl
structure wo where
 (n:Nat) (l:Nat->Int)
def BQ:Sy.Spec:=⟨wo,λ⟨n,l⟩=> [.sl true 1 n (λb _=> .v (.int .i64 (l b)))],λ_=> [],λ⟨n,_⟩=>n<=1000,λ⟨n,l⟩=> .er 43 66 (bif fA n λi=>!az (l i) 65535 then 0 else 1) (-1),λ_=> [],
 λargs mem=>match args with| [a0]=>some ⟨bT a0,λi=>av (bO a0 i 0)⟩|_=>none⟩
def WA:aZ:=⟨[],(BQ).g,none⟩
def Mb:wo->Prop:=λ⟨n,l⟩=>let a0:=(n:Int);let b0:Int:=cond (fA n (λc0:Nat=>!az (l c0) 65535)) 0 1;a0<=9223372036854775807->0=((0:Nat):Int)/\True/\(0<=n/\(∀d0:Nat,d0<0->az (l d0) 65535=false))/\(∀e0:Nat,let b:=(e0:Int);let h0:=decide (b<a0);let k0:Int:=l (Int.toNat b);let c:=cond (decide (k0<0)) true (decide (65535<k0));let o0:Int:=b+1;e0<=n/\(∀d:Nat,d<e0->az (l d) 65535=false)->(h0=true->(0<=b/\b<a0)/\(c=true->((1:Int)≠0/\b0=1/\((-1):Int)=(-1))/\True)/\(c=false->aw o0=o0/\(∃r0:Nat,o0=(r0:Int)/\True/\(r0<=n/\(∀e:Nat,e<r0->az (l e) 65535=false))/\n-r0<n-e0)))/\(h0=false->(b0=0/\((-1):Int)=(-1))/\True))
set_option maxHeartbeats 1000000 in
theorem KB:aY Tryz.prog bk 28 WA:=bn .nil false Tryz.call28 Tryz.func28 (λ⟨n,l⟩=> [.inv (acg n l 7)]) (V:=Mb) (λ_=>by kernel_rfl) λ⟨n,l⟩ hp=>by
 dsimp only[BQ]at hp;dsimp only[Mb,tn,aw,aB,aJ,aK,aG];simp only[bq,bx,eq_self,implies_true,bo]
 try simp only[dI]
 refineλ_ s hs=>⟨λh=>?_,λh=>?_⟩
 ·have b:=fh h;refine⟨by omega,λh2=>⟨by decide,?_⟩,λh2=>⟨du (by omega) (by omega),eU ⟨⟨by omega,ir (p:=λi=>az (l i) 65535) hs.2 h2⟩,by omega⟩⟩⟩;have e:(fA n λc0=>!az (l c0) 65535)=false:=ER (p:=λc0=>!az (l c0) 65535) b (by show(!az (l s) 65535)=false;rw[show az (l s) 65535=true from h2];rfl);rw[e];rfl
 ·have c:=fq h;obtain rfl:s=n:=by omega
  have e:(fA s λc0=>!az (l c0) 65535)=true:=jX.2 λi d=>by rw[hs.2 i d];rfl
  rw[e];rfl
theorem FG {f:Nat->aF} {u:Nat} {v0:Int}:(λx=>(⟨(f x).r0,(f x).r1,(f x).r2,(f x).r3,(f x).r4,(f x).r5,(f x).r6,(f x).r7,(f x).pc,(f x).st,(f x).prio,(f x).node,(f x).space,(f x).helper,(f x).loc,(f x).word,(f x).aH,bif x.beq u then v0 else(f x).ar,(f x).core,(f x).cI⟩:aF))=aj f u {f u with ar:=v0}:=by
 funext x;rcases aT (x=u)with e|e
 ·subst e;simp only[cy,cond_true,bg]
 ·simp only[dt e,cond_false,bh e]
theorem Hs {f:Nat->aF} {u:Nat} {v0 v1:Int}:(λx=>(⟨(f x).r0,(f x).r1,(f x).r2,(f x).r3,(f x).r4,(f x).r5,(f x).r6,(f x).r7,(f x).pc,(f x).st,(f x).prio,(f x).node,(f x).space,(f x).helper,(f x).loc,bif x.beq u then v0 else(f x).word,bif x.beq u then v1 else(f x).aH,(f x).ar,(f x).core,(f x).cI⟩:aF))=aj f u {f u with word:=v0,aH:=v1}:=by
 funext x;rcases aT (x=u)with e|e
 ·subst e;simp only[cy,cond_true,bg]
 ·simp only[dt e,cond_false,bh e]
theorem Ht {f:Nat->aF} {u:Nat} {v0:Int}:(λx=>(⟨(f x).r0,(f x).r1,(f x).r2,(f x).r3,(f x).r4,(f x).r5,(f x).r6,(f x).r7,(f x).pc,bif x.beq u then v0 else(f x).st,(f x).prio,(f x).node,(f x).space,(f x).helper,(f x).loc,(f x).word,(f x).aH,(f x).ar,(f x).core,(f x).cI⟩:aF))=aj f u {f u with st:=v0}:=by
 funext x;rcases aT (x=u)with e|e
 ·subst e;simp only[cy,cond_true,bg]
 ·simp only[dt e,cond_false,bh e]
def wbS (W:Wd) (t:Nat) (w b:Int) (i:Nat):aF:=aj W.tasks t {W.tasks t with word:=w,aH:=b} i
def fo (W:Wd) (t:Nat) (w b:Int):Wd:={W with tasks:=wbS W t w b}
def akS (W:Wd) (t i:Nat):aF:=aj W.tasks t {W.tasks t with st:=5} i
def dq (W:Wd) (t:Nat):Wd:={W with tasks:=akS W t}
def owS (W:Wd) (u:Nat) (t:Int) (i:Nat):aF:=aj W.tasks u {W.tasks u with ar:=t} i
def cU (W:Wd) (u:Nat) (t:Int):Wd:={W with tasks:=owS W u t}
def rn (s:Int):Bool:=s==4
def mI (W:Wd) (a:Nat):Bool:=gk W a rn
def mH (W:Wd) (a:Nat):Bool:=gk W a λs=>!rn s
def de (W:Wd) (a:Nat) (bd wd:Int):Wd:=cz (di (dp W a true) (W.lines a 0).toNat bd wd) (W.lines a 0).toNat
def sq (W:Wd) (t a bd wd:Int) (c:Bool) (i:Nat):aF:=bif c then(cU (dq (eD (de W a.toNat bd wd) t) t.toNat) (W.lines a.toNat 0).toNat t).tasks i else(de W a.toNat bd wd).tasks i
def rW (W:Wd) (t a bd wd:Int) (c:Bool) (i:Nat):Nat:=bif c then(cU (dq (eD (de W a.toNat bd wd) t) t.toNat) (W.lines a.toNat 0).toNat t).ah i else(de W a.toNat bd wd).ah i
def su (W:Wd) (t a bd wd:Int) (c:Bool) (i k:Nat):Int:=bif c then(cU (dq (eD (de W a.toNat bd wd) t) t.toNat) (W.lines a.toNat 0).toNat t).lines i k else(de W a.toNat bd wd).lines i k
def sv (W:Wd) (t a bd wd:Int) (c:Bool) (i:Nat):Int:=bif c then(cU (dq (eD (de W a.toNat bd wd) t) t.toNat) (W.lines a.toNat 0).toNat t).ai i else(de W a.toNat bd wd).ai i
def rX (W:Wd) (t a bd wd:Int) (c:Bool) (i:Nat):Nat:=bif c then(cU (dq (eD (de W a.toNat bd wd) t) t.toNat) (W.lines a.toNat 0).toNat t).al i else(de W a.toNat bd wd).al i
def sw (W:Wd) (t a bd wd:Int) (c:Bool) (i k:Nat):Int:=bif c then(cU (dq (eD (de W a.toNat bd wd) t) t.toNat) (W.lines a.toNat 0).toNat t).ready i k else(de W a.toNat bd wd).ready i k
def kr (W:Wd) (t a bd wd:Int) (c:Bool):Wd:={W with tasks:=sq W t a bd wd c,ah:=rW W t a bd wd c,lines:=su W t a bd wd c,ai:=sv W t a bd wd c,al:=rX W t a bd wd c,ready:=sw W t a bd wd c}
theorem tL {W:Wd} {t a bd wd:Int} {c:Bool} (h:(c)=true):kr W t a bd wd c=cU (dq (eD (de W a.toNat bd wd) t) t.toNat) (W.lines a.toNat 0).toNat t:=by
 have e:sq W t a bd wd c=(cU (dq (eD (de W a.toNat bd wd) t) t.toNat) (W.lines a.toNat 0).toNat t).tasks:=by funext i;unfold sq;rw[h];rfl
 have b:rW W t a bd wd c=(cU (dq (eD (de W a.toNat bd wd) t) t.toNat) (W.lines a.toNat 0).toNat t).ah:=by funext i;unfold rW;rw[h];rfl
 have g:su W t a bd wd c=(cU (dq (eD (de W a.toNat bd wd) t) t.toNat) (W.lines a.toNat 0).toNat t).lines:=by funext i k;unfold su;rw[h];rfl
 have j:sv W t a bd wd c=(cU (dq (eD (de W a.toNat bd wd) t) t.toNat) (W.lines a.toNat 0).toNat t).ai:=by funext i;unfold sv;rw[h];rfl
 have d:rX W t a bd wd c=(cU (dq (eD (de W a.toNat bd wd) t) t.toNat) (W.lines a.toNat 0).toNat t).al:=by funext i;unfold rX;rw[h];rfl
 have l:sw W t a bd wd c=(cU (dq (eD (de W a.toNat bd wd) t) t.toNat) (W.lines a.toNat 0).toNat t).ready:=by funext i k;unfold sw;rw[h];rfl
 show({W with tasks:=sq W t a bd wd c,ah:=rW W t a bd wd c,lines:=su W t a bd wd c,ai:=sv W t a bd wd c,al:=rX W t a bd wd c,ready:=sw W t a bd wd c}:Wd)=_;rw[e,b,g,j,d,l]<;>kernel_rfl
theorem tK {W:Wd} {t a bd wd:Int} {c:Bool} (h:(c)=false):kr W t a bd wd c=de W a.toNat bd wd:=by
 have e:sq W t a bd wd c=(de W a.toNat bd wd).tasks:=by funext i;unfold sq;rw[h];rfl
 have b:rW W t a bd wd c=(de W a.toNat bd wd).ah:=by funext i;unfold rW;rw[h];rfl
 have g:su W t a bd wd c=(de W a.toNat bd wd).lines:=by funext i k;unfold su;rw[h];rfl
 have j:sv W t a bd wd c=(de W a.toNat bd wd).ai:=by funext i;unfold sv;rw[h];rfl
 have d:rX W t a bd wd c=(de W a.toNat bd wd).al:=by funext i;unfold rX;rw[h];rfl
 have l:sw W t a bd wd c=(de W a.toNat bd wd).ready:=by funext i k;unfold sw;rw[h];rfl
 show({W with tasks:=sq W t a bd wd c,ah:=rW W t a bd wd c,lines:=su W t a bd wd c,ai:=sv W t a bd wd c,al:=rX W t a bd wd c,ready:=sw W t a bd wd c}:Wd)=_;rw[e,b,g,j,d,l]<;>kernel_rfl
def jT (W:Wd) (t a bd wd:Int) (c:Bool) (i:Nat):aF:=bif mI W a.toNat then(kr W t a bd wd c).tasks i else(eJ (fo W t.toNat wd bd) t a (bif c then 3 else 2)).tasks i
def jR (W:Wd) (t a bd wd:Int) (c:Bool) (i:Nat):Nat:=bif mI W a.toNat then(kr W t a bd wd c).ah i else(eJ (fo W t.toNat wd bd) t a (bif c then 3 else 2)).ah i
def jU (W:Wd) (t a bd wd:Int) (c:Bool) (i k:Nat):Int:=bif mI W a.toNat then(kr W t a bd wd c).lines i k else(eJ (fo W t.toNat wd bd) t a (bif c then 3 else 2)).lines i k
def jV (W:Wd) (t a bd wd:Int) (c:Bool) (i:Nat):Int:=bif mI W a.toNat then(kr W t a bd wd c).ai i else(eJ (fo W t.toNat wd bd) t a (bif c then 3 else 2)).ai i
def jS (W:Wd) (t a bd wd:Int) (c:Bool) (i:Nat):Nat:=bif mI W a.toNat then(kr W t a bd wd c).al i else(eJ (fo W t.toNat wd bd) t a (bif c then 3 else 2)).al i
def jW (W:Wd) (t a bd wd:Int) (c:Bool) (i k:Nat):Int:=bif mI W a.toNat then(kr W t a bd wd c).ready i k else(eJ (fo W t.toNat wd bd) t a (bif c then 3 else 2)).ready i k
def ca (W:Wd) (t a bd wd:Int) (c:Bool):Wd:={W with tasks:=jT W t a bd wd c,ah:=jR W t a bd wd c,lines:=jU W t a bd wd c,ai:=jV W t a bd wd c,al:=jS W t a bd wd c,ready:=jW W t a bd wd c}
theorem lI {W:Wd} {t a bd wd:Int} {c:Bool} (h:(mI W a.toNat)=true):ca W t a bd wd c=kr W t a bd wd c:=by
 have e:jT W t a bd wd c=(kr W t a bd wd c).tasks:=by funext i;unfold jT;rw[h];rfl
 have b:jR W t a bd wd c=(kr W t a bd wd c).ah:=by funext i;unfold jR;rw[h];rfl
 have g:jU W t a bd wd c=(kr W t a bd wd c).lines:=by funext i k;unfold jU;rw[h];rfl
 have j:jV W t a bd wd c=(kr W t a bd wd c).ai:=by funext i;unfold jV;rw[h];rfl
 have d:jS W t a bd wd c=(kr W t a bd wd c).al:=by funext i;unfold jS;rw[h];rfl
 have l:jW W t a bd wd c=(kr W t a bd wd c).ready:=by funext i k;unfold jW;rw[h];rfl
 show({W with tasks:=jT W t a bd wd c,ah:=jR W t a bd wd c,lines:=jU W t a bd wd c,ai:=jV W t a bd wd c,al:=jS W t a bd wd c,ready:=jW W t a bd wd c}:Wd)=_;rw[e,b,g,j,d,l]<;>kernel_rfl
theorem fO {W:Wd} {t a bd wd:Int} {c:Bool} (h:(mI W a.toNat)=false):ca W t a bd wd c=eJ (fo W t.toNat wd bd) t a (bif c then 3 else 2):=by
 have e:jT W t a bd wd c=(eJ (fo W t.toNat wd bd) t a (bif c then 3 else 2)).tasks:=by funext i;unfold jT;rw[h];rfl
 have b:jR W t a bd wd c=(eJ (fo W t.toNat wd bd) t a (bif c then 3 else 2)).ah:=by funext i;unfold jR;rw[h];rfl
 have g:jU W t a bd wd c=(eJ (fo W t.toNat wd bd) t a (bif c then 3 else 2)).lines:=by funext i k;unfold jU;rw[h];rfl
 have j:jV W t a bd wd c=(eJ (fo W t.toNat wd bd) t a (bif c then 3 else 2)).ai:=by funext i;unfold jV;rw[h];rfl
 have d:jS W t a bd wd c=(eJ (fo W t.toNat wd bd) t a (bif c then 3 else 2)).al:=by funext i;unfold jS;rw[h];rfl
 have l:jW W t a bd wd c=(eJ (fo W t.toNat wd bd) t a (bif c then 3 else 2)).ready:=by funext i k;unfold jW;rw[h];rfl
 show({W with tasks:=jT W t a bd wd c,ah:=jR W t a bd wd c,lines:=jU W t a bd wd c,ai:=jV W t a bd wd c,al:=jS W t a bd wd c,ready:=jW W t a bd wd c}:Wd)=_;rw[e,b,g,j,d,l]<;>kernel_rfl
def dc (W:Wd) (t:Int) (a:Nat):Wd:=fo (di (dp W a true) t.toNat ((dp W a true).tasks (W.lines a 0).toNat).aH ((dp W a true).tasks (W.lines a 0).toNat).word) (W.lines a 0).toNat 0 0
def sy (W:Wd) (t a:Int) (i:Nat):aF:=bif (W.tasks (W.lines a.toNat 0).toNat).st==3 then(cU (dq (dc W t a.toNat) (W.lines a.toNat 0).toNat) t.toNat (W.lines a.toNat 0)).tasks i else(cz (dc W t a.toNat) (W.lines a.toNat 0).toNat).tasks i
def rY (W:Wd) (t a:Int) (i:Nat):Nat:=bif (W.tasks (W.lines a.toNat 0).toNat).st==3 then(cU (dq (dc W t a.toNat) (W.lines a.toNat 0).toNat) t.toNat (W.lines a.toNat 0)).ah i else(cz (dc W t a.toNat) (W.lines a.toNat 0).toNat).ah i
def sA (W:Wd) (t a:Int) (i k:Nat):Int:=bif (W.tasks (W.lines a.toNat 0).toNat).st==3 then(cU (dq (dc W t a.toNat) (W.lines a.toNat 0).toNat) t.toNat (W.lines a.toNat 0)).lines i k else(cz (dc W t a.toNat) (W.lines a.toNat 0).toNat).lines i k
def rZ (W:Wd) (t a:Int) (i:Nat):Nat:=bif (W.tasks (W.lines a.toNat 0).toNat).st==3 then(cU (dq (dc W t a.toNat) (W.lines a.toNat 0).toNat) t.toNat (W.lines a.toNat 0)).al i else(cz (dc W t a.toNat) (W.lines a.toNat 0).toNat).al i
def sC (W:Wd) (t a:Int) (i k:Nat):Int:=bif (W.tasks (W.lines a.toNat 0).toNat).st==3 then(cU (dq (dc W t a.toNat) (W.lines a.toNat 0).toNat) t.toNat (W.lines a.toNat 0)).ready i k else(cz (dc W t a.toNat) (W.lines a.toNat 0).toNat).ready i k
def kt (W:Wd) (t a:Int):Wd:={W with tasks:=sy W t a,ah:=rY W t a,lines:=sA W t a,al:=rZ W t a,ready:=sC W t a}
theorem Rb {W:Wd} {t a:Int} (h:((W.tasks (W.lines a.toNat 0).toNat).st==3)=true):kt W t a=cU (dq (dc W t a.toNat) (W.lines a.toNat 0).toNat) t.toNat (W.lines a.toNat 0):=by
 have d:sy W t a=(cU (dq (dc W t a.toNat) (W.lines a.toNat 0).toNat) t.toNat (W.lines a.toNat 0)).tasks:=by funext i;unfold sy;rw[h];rfl
 have b:rY W t a=(cU (dq (dc W t a.toNat) (W.lines a.toNat 0).toNat) t.toNat (W.lines a.toNat 0)).ah:=by funext i;unfold rY;rw[h];rfl
 have e:sA W t a=(cU (dq (dc W t a.toNat) (W.lines a.toNat 0).toNat) t.toNat (W.lines a.toNat 0)).lines:=by funext i k;unfold sA;rw[h];rfl
 have c:rZ W t a=(cU (dq (dc W t a.toNat) (W.lines a.toNat 0).toNat) t.toNat (W.lines a.toNat 0)).al:=by funext i;unfold rZ;rw[h];rfl
 have g:sC W t a=(cU (dq (dc W t a.toNat) (W.lines a.toNat 0).toNat) t.toNat (W.lines a.toNat 0)).ready:=by funext i k;unfold sC;rw[h];rfl
 show({W with tasks:=sy W t a,ah:=rY W t a,lines:=sA W t a,al:=rZ W t a,ready:=sC W t a}:Wd)=_;rw[d,b,e,c,g]<;>kernel_rfl
theorem Ra {W:Wd} {t a:Int} (h:((W.tasks (W.lines a.toNat 0).toNat).st==3)=false):kt W t a=cz (dc W t a.toNat) (W.lines a.toNat 0).toNat:=by
 have d:sy W t a=(cz (dc W t a.toNat) (W.lines a.toNat 0).toNat).tasks:=by funext i;unfold sy;rw[h];rfl
 have b:rY W t a=(cz (dc W t a.toNat) (W.lines a.toNat 0).toNat).ah:=by funext i;unfold rY;rw[h];rfl
 have e:sA W t a=(cz (dc W t a.toNat) (W.lines a.toNat 0).toNat).lines:=by funext i k;unfold sA;rw[h];rfl
 have c:rZ W t a=(cz (dc W t a.toNat) (W.lines a.toNat 0).toNat).al:=by funext i;unfold rZ;rw[h];rfl
 have g:sC W t a=(cz (dc W t a.toNat) (W.lines a.toNat 0).toNat).ready:=by funext i k;unfold sC;rw[h];rfl
 show({W with tasks:=sy W t a,ah:=rY W t a,lines:=sA W t a,al:=rZ W t a,ready:=sC W t a}:Wd)=_;rw[d,b,e,c,g]<;>kernel_rfl
def sD (W:Wd) (t a:Int) (i:Nat):aF:=bif mH W a.toNat then(kt W t a).tasks i else(eJ W t a 4).tasks i
def r_ (W:Wd) (t a:Int) (i:Nat):Nat:=bif mH W a.toNat then(kt W t a).ah i else(eJ W t a 4).ah i
def sE (W:Wd) (t a:Int) (i k:Nat):Int:=bif mH W a.toNat then(kt W t a).lines i k else(eJ W t a 4).lines i k
def sG (W:Wd) (t a:Int) (i:Nat):Int:=bif mH W a.toNat then(kt W t a).ai i else(eJ W t a 4).ai i
def sb (W:Wd) (t a:Int) (i:Nat):Nat:=bif mH W a.toNat then(kt W t a).al i else(eJ W t a 4).al i
def sH (W:Wd) (t a:Int) (i k:Nat):Int:=bif mH W a.toNat then(kt W t a).ready i k else(eJ W t a 4).ready i k
def ku (W:Wd) (t a:Int):Wd:={W with tasks:=sD W t a,ah:=r_ W t a,lines:=sE W t a,ai:=sG W t a,al:=sb W t a,ready:=sH W t a}
theorem HU {W:Wd} {t a:Int} (h:(mH W a.toNat)=true):ku W t a=kt W t a:=by
 have d:sD W t a=(kt W t a).tasks:=by funext i;unfold sD;rw[h];rfl
 have b:r_ W t a=(kt W t a).ah:=by funext i;unfold r_;rw[h];rfl
 have e:sE W t a=(kt W t a).lines:=by funext i k;unfold sE;rw[h];rfl
 have g:sG W t a=(kt W t a).ai:=by funext i;unfold sG;rw[h];rfl
 have c:sb W t a=(kt W t a).al:=by funext i;unfold sb;rw[h];rfl
 have j:sH W t a=(kt W t a).ready:=by funext i k;unfold sH;rw[h];rfl
 show({W with tasks:=sD W t a,ah:=r_ W t a,lines:=sE W t a,ai:=sG W t a,al:=sb W t a,ready:=sH W t a}:Wd)=_;rw[d,b,e,g,c,j]<;>kernel_rfl
theorem lN {W:Wd} {t a:Int} (h:(mH W a.toNat)=false):ku W t a=eJ W t a 4:=by
 have d:sD W t a=(eJ W t a 4).tasks:=by funext i;unfold sD;rw[h];rfl
 have b:r_ W t a=(eJ W t a 4).ah:=by funext i;unfold r_;rw[h];rfl
 have e:sE W t a=(eJ W t a 4).lines:=by funext i k;unfold sE;rw[h];rfl
 have g:sG W t a=(eJ W t a 4).ai:=by funext i;unfold sG;rw[h];rfl
 have c:sb W t a=(eJ W t a 4).al:=by funext i;unfold sb;rw[h];rfl
 have j:sH W t a=(eJ W t a 4).ready:=by funext i k;unfold sH;rw[h];rfl
 show({W with tasks:=sD W t a,ah:=r_ W t a,lines:=sE W t a,ai:=sG W t a,al:=sb W t a,ready:=sH W t a}:Wd)=_;rw[d,b,e,g,c,j]<;>kernel_rfl
def kE (W:Wd) (t a:Int) (i:Nat):aF:=bif (W.tasks t.toNat).ar== -1 then(ku W t a).tasks i else(W).tasks i
def kA (W:Wd) (t a:Int) (i:Nat):Nat:=bif (W.tasks t.toNat).ar== -1 then(ku W t a).ah i else(W).ah i
def kF (W:Wd) (t a:Int) (i k:Nat):Int:=bif (W.tasks t.toNat).ar== -1 then(ku W t a).lines i k else(W).lines i k
def kG (W:Wd) (t a:Int) (i:Nat):Int:=bif (W.tasks t.toNat).ar== -1 then(ku W t a).ai i else(W).ai i
def kB (W:Wd) (t a:Int) (i:Nat):Nat:=bif (W.tasks t.toNat).ar== -1 then(ku W t a).al i else(W).al i
def kH (W:Wd) (t a:Int) (i k:Nat):Int:=bif (W.tasks t.toNat).ar== -1 then(ku W t a).ready i k else(W).ready i k
def b_ (W:Wd) (t a:Int):Wd:={W with tasks:=kE W t a,ah:=kA W t a,lines:=kF W t a,ai:=kG W t a,al:=kB W t a,ready:=kH W t a}
theorem j7 {W:Wd} {t a:Int} (h:((W.tasks t.toNat).ar== -1)=true):b_ W t a=ku W t a:=by
 have d:kE W t a=(ku W t a).tasks:=by funext i;unfold kE;rw[h];rfl
 have b:kA W t a=(ku W t a).ah:=by funext i;unfold kA;rw[h];rfl
 have e:kF W t a=(ku W t a).lines:=by funext i k;unfold kF;rw[h];rfl
 have g:kG W t a=(ku W t a).ai:=by funext i;unfold kG;rw[h];rfl
 have c:kB W t a=(ku W t a).al:=by funext i;unfold kB;rw[h];rfl
 have j:kH W t a=(ku W t a).ready:=by funext i k;unfold kH;rw[h];rfl
 show({W with tasks:=kE W t a,ah:=kA W t a,lines:=kF W t a,ai:=kG W t a,al:=kB W t a,ready:=kH W t a}:Wd)=_;rw[d,b,e,g,c,j]<;>kernel_rfl
theorem tt {W:Wd} {t a:Int} (h:((W.tasks t.toNat).ar== -1)=false):b_ W t a=W:=by
 have d:kE W t a=(W).tasks:=by funext i;unfold kE;rw[h];rfl
 have b:kA W t a=(W).ah:=by funext i;unfold kA;rw[h];rfl
 have e:kF W t a=(W).lines:=by funext i k;unfold kF;rw[h];rfl
 have g:kG W t a=(W).ai:=by funext i;unfold kG;rw[h];rfl
 have c:kB W t a=(W).al:=by funext i;unfold kB;rw[h];rfl
 have j:kH W t a=(W).ready:=by funext i k;unfold kH;rw[h];rfl
 show({W with tasks:=kE W t a,ah:=kA W t a,lines:=kF W t a,ai:=kG W t a,al:=kB W t a,ready:=kH W t a}:Wd)=_;rw[d,b,e,g,c,j]<;>kernel_rfl
def lh (W:Wd) (t:Int):Int:=bif (W.tasks t.toNat).ar== -1 then 0 else 7
def ng (W:Wd) (t wd:Int) (i:Nat):aF:=bif (W.tasks t.toNat).ar== -1 then(W).tasks i else(cz (di (cU W t.toNat (-1)) (W.tasks t.toNat).ar.toNat 0 wd) (W.tasks t.toNat).ar.toNat).tasks i
def nb (W:Wd) (t wd:Int) (i:Nat):Nat:=bif (W.tasks t.toNat).ar== -1 then(W).al i else(cz (di (cU W t.toNat (-1)) (W.tasks t.toNat).ar.toNat 0 wd) (W.tasks t.toNat).ar.toNat).al i
def ni (W:Wd) (t wd:Int) (i k:Nat):Int:=bif (W.tasks t.toNat).ar== -1 then(W).ready i k else(cz (di (cU W t.toNat (-1)) (W.tasks t.toNat).ar.toNat 0 wd) (W.tasks t.toNat).ar.toNat).ready i k
def fa (W:Wd) (t wd:Int):Wd:={W with tasks:=ng W t wd,al:=nb W t wd,ready:=ni W t wd}
theorem CO {W:Wd} {t wd:Int} (h:((W.tasks t.toNat).ar== -1)=true):fa W t wd=W:=by
 have c:ng W t wd=(W).tasks:=by funext i;unfold ng;rw[h];rfl
 have b:nb W t wd=(W).al:=by funext i;unfold nb;rw[h];rfl
 have d:ni W t wd=(W).ready:=by funext i k;unfold ni;rw[h];rfl
 show({W with tasks:=ng W t wd,al:=nb W t wd,ready:=ni W t wd}:Wd)=_;rw[c,b,d]<;>kernel_rfl
theorem CP {W:Wd} {t wd:Int} (h:((W.tasks t.toNat).ar== -1)=false):fa W t wd=cz (di (cU W t.toNat (-1)) (W.tasks t.toNat).ar.toNat 0 wd) (W.tasks t.toNat).ar.toNat:=by
 have c:ng W t wd=(cz (di (cU W t.toNat (-1)) (W.tasks t.toNat).ar.toNat 0 wd) (W.tasks t.toNat).ar.toNat).tasks:=by funext i;unfold ng;rw[h];rfl
 have b:nb W t wd=(cz (di (cU W t.toNat (-1)) (W.tasks t.toNat).ar.toNat 0 wd) (W.tasks t.toNat).ar.toNat).al:=by funext i;unfold nb;rw[h];rfl
 have d:ni W t wd=(cz (di (cU W t.toNat (-1)) (W.tasks t.toNat).ar.toNat 0 wd) (W.tasks t.toNat).ar.toNat).ready:=by funext i k;unfold ni;rw[h];rfl
 show({W with tasks:=ng W t wd,al:=nb W t wd,ready:=ni W t wd}:Wd)=_;rw[c,b,d]<;>kernel_rfl
def lX (W:Wd) (t:Int):Int:=bif (W.tasks t.toNat).ar== -1 then 6 else 0
theorem Hu {W:Wd} {u:Nat} {t:Int}:(cU W u t).tasks u={W.tasks u with ar:=t}:=bg
theorem qN {W:Wd} {u j:Nat} {t:Int} (h:j≠u):(cU W u t).tasks j=W.tasks j:=bh h
theorem tu {W:Wd} {t:Nat}:(dq W t).tasks t={W.tasks t with st:=5}:=bg
theorem qM {W:Wd} {t j:Nat} (h:j≠t):(dq W t).tasks j=W.tasks j:=bh h
theorem Si {a b:Nat} (h:a=b):Nat.beq a b=true:=by rw[h];exact cy b
theorem ZY {W:Wd} {u j:Nat} {t:Int} (h:j=u):(cU W u t).tasks j={W.tasks j with ar:=t}:=by subst h;exact bg
theorem ZZ {W:Wd} {t j:Nat} (h:j=t):(dq W t).tasks j={W.tasks j with st:=5}:=by subst h;exact bg
theorem Hi {W:Wd} {t:Nat} {w b:Int}:(fo W t w b).tasks t={W.tasks t with word:=w,aH:=b}:=bg
theorem P1 {W:Wd} {t j:Nat} {w b:Int} (h:j≠t):(fo W t w b).tasks j=W.tasks j:=bh h
theorem adA {p:Nat->Bool}:da 1 p=p 0:=by
 rw[lJ,ly]
 exact⟨λ⟨i,b,h⟩=>by obtain rfl:i=0:=by omega
                    exact h,λh=>⟨0,by omega,h⟩⟩
theorem adB {p:Nat->Bool}:da 2 p=(p 0||p 1):=by
 rw[lJ,ly,cM];constructor
 ·rintro ⟨i,b,h⟩;rcases ja i with e|e
  ·rw[e]at h;exact .inl h
  ·obtain rfl:i=1:=by omega
   exact .inr h
 ·rintro (h|h)
  ·exact⟨0,by omega,h⟩
  ·exact⟨1,by omega,h⟩
theorem Rx {s:Int} (h2:2<=s) (b:s<=4):(da 2 λe=>s== [2,3].getD e 0)=!rn s:=by rw[adB];show((s==2)||(s==3))=!(s==4);rw[lJ];simp only[cM,beq_iff_eq,dT,beq_eq_false_iff_ne];omega
theorem Sj {s:Int}:(da 1 λe=>s== [4].getD e 0)=rn s:=adA
theorem gb.Eo {W:Wd} {t:Int} {a:Nat} {b w:Int} (h:gb W t):gb (de W a b w) t:=h.rQ.lk.vI
structure P2 where
 (t g:Int) (W:Wd)
def P3:Sy.Spec:=⟨P2,λ⟨t,g,_⟩=> [.ptr 0 0 none 0 0,.v (.int .i64 t),.v (.int .i64 g)],λ⟨_,_,W⟩=>cL W,λ⟨t,_,W⟩=>0<=t/\t<W.aO/\ -1<=(W.tasks t.toNat).ar/\((W.tasks t.toNat).ar≠ -1->fp W (W.tasks t.toNat).ar),λ⟨t,_,W⟩=> .er 43 66 (lX W t) (-1),λ⟨t,g,W⟩=>cL (fa W t g),
 λargs mem=>match args with| [a0,a1,b]=>some ⟨av (a1),av (b),fW mem 0⟩|_=>none⟩
def Z0:aZ:=⟨[true],(P3).g,none⟩
def P4:P2->Prop:=λ⟨t,g,W⟩=>let a0:=0<=t/\t<((W.aO:Nat):Int);let b0:=(W.tasks (0+Int.toNat t)).ar;let c0:=decide (b0<0);let d0:={W with tasks:=ng W t g,al:=nb W t g,ready:=ni W t g};let e0:=SV.ptr 0 0 none 0 0;let d:=e0=e0;let h0:=b0=b0;let k0:={W with tasks:=λc:Nat=>{W.tasks c with ar:=cond (Nat.beq c (0+Int.toNat t)) (-1) (W.tasks c).ar}};let o0:=Int.toNat b0;let e:={W with tasks:=pk k0 o0 0 g};let b:=di k0 o0 0 g;a0/\(c0=true->((6:Int)≠0/\lX W t=6/\((-1):Int)=(-1))/\aB W d0 True)/\(c0=false->a0/\(∀v0:Nat,false=false)/\((d/\h0/\(0:Int)=0/\g=g/\True)/\aB k0 k0 True/\0<=b0/\b0<((W.aO:Nat):Int))/\((d/\h0/\True)/\aB e e True/\wT.match_1 (λw0:oG=>Prop) (oG.mk b0 b) (λh:Int=>λi:Wd=>fp i h))/\(lX W t=0/\((-1):Int)=(-1))/\aB {W with tasks:=iS b o0,al:=iz b o0,ready:=iT b o0} d0 True)
set_option maxHeartbeats 1000000 in
theorem Yk:aY Tryz.prog bk 36 Z0:=bn (.cons Gv (.cons Cl .nil)) false Tryz.call36 Tryz.func36 (λ_=> []) (V:=P4) (λ_=>by kernel_rfl) λ⟨t,g,W⟩ hp=>by
 dsimp only[P3]at hp;dsimp only[P4,tn,aw,aB,aJ,aK,aG];simp only[bq,bx,eq_self,implies_true,bo]
 try simp only[dI]
 simp only[FG,Hs,Ht];obtain⟨t0,t1,o0,k⟩:=hp;refine⟨⟨t0,t1⟩,λh=>?_,λh=>?_⟩
 ·have e:((W.tasks t.toNat).ar== -1)=true:=by have:=of_decide_eq_true h;simp only[beq_iff_eq];omega
  refine⟨⟨by decide,by unfold lX;rw[e];rfl⟩,?_⟩;have c:ng W t g=_:=congrArg Wd.tasks (CO (wd:=g) e);have b:nb W t g=_:=congrArg Wd.al (CO (wd:=g) e);have d:ni W t g=_:=congrArg Wd.ready (CO (wd:=g) e);simp only[c,b,d];clear c b d
  repeat' (first|exact trivial|exact cE rfl|rfl|refine And.intro ?_ ?_|intro _|fail)
 have e:((W.tasks t.toNat).ar== -1)=false:=by have:=of_decide_eq_false h;simp only[beq_eq_false_iff_ne];omega
 have i:=k (by simpa using e);have j:fp (cU W t.toNat (-1)) (W.tasks t.toNat).ar:=i.of rfl rfl rfl (pE aF.core rfl) (pE aF.prio rfl);refine⟨⟨t0,t1⟩,⟨i.t0,i.t1⟩,j.lk,by unfold lX;rw[e];rfl,?_⟩
 ·skip
  have c:ng W t g=_:=congrArg Wd.tasks (CP (wd:=g) e);have b:nb W t g=_:=congrArg Wd.al (CP (wd:=g) e);have d:ni W t g=_:=congrArg Wd.ready (CP (wd:=g) e);simp only[c,b,d];clear c b d
  repeat' (first|exact trivial|exact cE rfl|rfl|refine And.intro ?_ ?_|intro _|fail)
structure CY where
 (t a bd wd:Int) (c:Bool) (W:Wd)
def Hv:Sy.Spec:=⟨CY,λ⟨t,a,bd,wd,c,_⟩=> [.ptr 0 0 none 0 0,.v (.int .i64 t),.v (.int .i64 a),.v (.int .i64 bd),.v (.int .i64 wd),.v (.bool c)],λ⟨_,_,_,_,_,W⟩=>cL W,λ⟨t,a,_,_,_,W⟩=>AR W t a,λ_=> .tp 0 (aN []),λ⟨t,a,bd,wd,c,W⟩=>cL (ca W t a bd wd c),
 λargs mem=>match args with| [a0,a1,b,a3,a4,d]=>some ⟨av (a1),av (b),av (a3),av (a4),oH (d),fW mem 0⟩|_=>none⟩
def Z1:aZ:=⟨[true],(Hv).g,none⟩
def P5:CY->Prop:=λ⟨t,a,bd,wd,c,W⟩=>let a0:=SV.ptr 0 0 none 0 0;let b0:=a0=a0;let c0:=[(4:Int)];let d0:=Int.toNat a;let e0:=gk W d0 (λx:Int=>da 1 (λh0:Nat=>x==List.getD c0 (0+h0) 0));let k0:=oQ W d0 e0;let n:=decide (k0<0);let o0:=0<=t/\t<((W.aO:Nat):Int);let d:=false=false;let h:=0+Int.toNat t;let v0:=D2 W d0 e0;let w0:=xx W d0 e0;let b:={W with tasks:=λi:Nat=>let z0:=oP W d0 e0 i;{z0 with word:=cond (Nat.beq i h) wd z0.word,aH:=cond (Nat.beq i h) bd z0.aH},ah:=v0,lines:=w0};let a1:=aB b b True/\gb b t/\pn b a;let b1:=pd b d0;let c1:=pf b t d0;let d1:=dC b t;let g:={W with tasks:=jT W t a bd wd c,ah:=jR W t a bd wd c,lines:=jU W t a bd wd c,ai:=jV W t a bd wd c,al:=jS W t a bd wd c,ready:=jW W t a bd wd c};let o:=k0=k0;let h1:={W with tasks:=oP W d0 e0,ah:=v0,lines:=w0};let k1:=0<=k0/\k0<((W.aO:Nat):Int);let p:=dp W d0 e0;let o1:=Int.toNat k0;let q:={W with tasks:=pk p o1 bd wd,ah:=v0,lines:=w0};let e:=di p o1 bd wd;let v1:=iz e o1;let w1:=iT e o1;let j:={W with tasks:=iS e o1,ah:=v0,lines:=w0,al:=v1,ready:=w1};let r:=cz e o1;True/\((b0/\a=a/\(1=1/\(∀u:Nat,let v:=List.getD c0 (0+u) 0;u<1->True/\v=v))/\True)/\aB W W True/\pn W a/\1<=1000)/\(n=true->(c=true->tn 12 (o0/\(∀b2:Nat,d)/\o0/\(∀A:Nat,d)/\((b0/\t=t/\a=a/\(3:Int)=3/\True)/\a1)/\True/\aB {W with tasks:=ma b (Int.toNat t) a 3,ah:=b1,lines:=c1,ai:=d1} g True))/\(c=false->tn 12 (o0/\(∀d2:Nat,d)/\o0/\
 (∀B:Nat,d)/\((b0/\t=t/\a=a/\(2:Int)=2/\True)/\a1)/\True/\aB {W with tasks:=ma b (Int.toNat t) a 2,ah:=b1,lines:=c1,ai:=d1} g True)))/\(n=false->((b0/\o/\bd=bd/\wd=wd/\True)/\aB h1 h1 True/\k1)/\((b0/\o/\True)/\aB q q True/\wT.match_1 (λg2:oG=>Prop) (oG.mk k0 e) (λh2:Int=>λk2:Wd=>fp k2 h2))/\(c=true->((b0/\t=t/\True)/\aB j j True/\CX.match_1 (λl2:wS=>Prop) (wS.mk t r) (λy:Int=>λz:Wd=>gb z y))/\o0/\(∀C:Nat,d)/\k1/\(∀E:Nat,d)/\True/\aB {W with tasks:=λk:Nat=>let l:=iS e o1 k;{l with st:=cond (Nat.beq k h) 5 l.st,ar:=cond (Nat.beq k (0+o1)) t l.ar},ah:=v0,lines:=w0,ai:=dC r t,al:=v1,ready:=w1} g True)/\(c=false->True/\aB j g True))
set_option maxHeartbeats 1000000 in
theorem Yl:aY Tryz.prog bk 33 Z1:=bn (.cons Gv (.cons LV (.cons KA (.cons Cl (.cons NJ .nil))))) false Tryz.call33 Tryz.func33 (λ_=> []) (V:=P5) (λ_=>by kernel_rfl) λ⟨t,a,bd,wd,c,W⟩ hp=>by
 dsimp only[Hv]at hp;dsimp only[P5,tn,aw,aB,aJ,aK,aG];simp only[bq,bx,eq_self,implies_true,bo]
 try simp only[dI]
 simp only[FG,Hs,Ht];obtain⟨hl,ho,C,A,B⟩:=hp;have t0:=ho.t0;have t1:=ho.t1;rcases ja (W.ah a.toNat)with h0|h0
 ·have p:mI W a.toNat=false:=AQ h0;have e:(gk W a.toNat λv=>da 1 λe3=>v== [4].getD e3 0)=false:=AQ h0;simp only[e,show oQ W a.toNat false= -1 from rfl];have q:∀w b,gb (fo (dp W a.toNat false) t.toNat w b) t:=λw b=>ho.rQ.of rfl rfl rfl (pE aF.core rfl);have r:∀w b,pn (fo (dp W a.toNat false) t.toNat w b) a:=λw b=>⟨hl.a0,hl.a1,hl.n,hl.h⟩;refine⟨⟨hl,by decide⟩,λ_=>⟨λh=>⟨⟨t0,t1⟩,⟨t0,t1⟩,⟨q wd bd,r wd bd⟩,?_⟩,λh=>⟨⟨t0,t1⟩,⟨t0,t1⟩,⟨q wd bd,r wd bd⟩,?_⟩⟩,λh=>absurd h (by decide)⟩
  ·subst h;have i:jT W t a bd wd true=_:=congrArg Wd.tasks ((fO (t:=t) (bd:=bd) (wd:=wd) (c:=true) p).trans rfl);have d:jR W t a bd wd true=_:=congrArg Wd.ah ((fO (t:=t) (bd:=bd) (wd:=wd) (c:=true) p).trans rfl);have k:jU W t a bd wd true=_:=congrArg Wd.lines ((fO (t:=t) (bd:=bd) (wd:=wd) (c:=true) p).trans rfl);have l:jV W t a bd wd true=_:=congrArg Wd.ai ((fO (t:=t) (bd:=bd) (wd:=wd) (c:=true) p).trans rfl);have g:jS W t a bd wd true=_:=congrArg Wd.al ((fO (t:=t) (bd:=bd) (wd:=wd) (c:=true) p).trans rfl);have o:jW W t a bd wd true=_:=congrArg Wd.ready ((fO (t:=t) (bd:=bd) (wd:=wd) (c:=true) p).trans rfl);simp only[i,d,k,l,g,o];clear i d k l g o
   repeat' (first|exact trivial|exact cE rfl|rfl|refine And.intro ?_ ?_|intro _|fail)
  ·subst h;have i:jT W t a bd wd false=_:=congrArg Wd.tasks ((fO (t:=t) (bd:=bd) (wd:=wd) (c:=false) p).trans rfl);have d:jR W t a bd wd false=_:=congrArg Wd.ah ((fO (t:=t) (bd:=bd) (wd:=wd) (c:=false) p).trans rfl);have k:jU W t a bd wd false=_:=congrArg Wd.lines ((fO (t:=t) (bd:=bd) (wd:=wd) (c:=false) p).trans rfl);have l:jV W t a bd wd false=_:=congrArg Wd.ai ((fO (t:=t) (bd:=bd) (wd:=wd) (c:=false) p).trans rfl);have g:jS W t a bd wd false=_:=congrArg Wd.al ((fO (t:=t) (bd:=bd) (wd:=wd) (c:=false) p).trans rfl);have o:jW W t a bd wd false=_:=congrArg Wd.ready ((fO (t:=t) (bd:=bd) (wd:=wd) (c:=false) p).trans rfl);simp only[i,d,k,l,g,o];clear i d k l g o
   repeat' (first|exact trivial|exact cE rfl|rfl|refine And.intro ?_ ?_|intro _|fail)
 have x:W.ah a.toNat≠0:=by omega
 obtain⟨u,hs⟩:=B h0;cases y:rn (W.tasks (W.lines a.toNat 0).toNat).st with
 |false=>
  have p:mI W a.toNat=false:=po x y;have e:(gk W a.toNat λv=>da 1 λe3=>v== [4].getD e3 0)=false:=po x (by exact Sj.trans y);simp only[e,show oQ W a.toNat false= -1 from rfl];have q:∀w b,gb (fo (dp W a.toNat false) t.toNat w b) t:=λw b=>ho.rQ.of rfl rfl rfl (pE aF.core rfl);have r:∀w b,pn (fo (dp W a.toNat false) t.toNat w b) a:=λw b=>⟨hl.a0,hl.a1,hl.n,hl.h⟩;refine⟨⟨hl,by decide⟩,λ_=>⟨λh=>⟨⟨t0,t1⟩,⟨t0,t1⟩,⟨q wd bd,r wd bd⟩,?_⟩,λh=>⟨⟨t0,t1⟩,⟨t0,t1⟩,⟨q wd bd,r wd bd⟩,?_⟩⟩,λh=>absurd h (by decide)⟩
  ·subst h;have i:jT W t a bd wd true=_:=congrArg Wd.tasks ((fO (t:=t) (bd:=bd) (wd:=wd) (c:=true) p).trans rfl);have d:jR W t a bd wd true=_:=congrArg Wd.ah ((fO (t:=t) (bd:=bd) (wd:=wd) (c:=true) p).trans rfl);have k:jU W t a bd wd true=_:=congrArg Wd.lines ((fO (t:=t) (bd:=bd) (wd:=wd) (c:=true) p).trans rfl);have l:jV W t a bd wd true=_:=congrArg Wd.ai ((fO (t:=t) (bd:=bd) (wd:=wd) (c:=true) p).trans rfl);have g:jS W t a bd wd true=_:=congrArg Wd.al ((fO (t:=t) (bd:=bd) (wd:=wd) (c:=true) p).trans rfl);have o:jW W t a bd wd true=_:=congrArg Wd.ready ((fO (t:=t) (bd:=bd) (wd:=wd) (c:=true) p).trans rfl);simp only[i,d,k,l,g,o];clear i d k l g o
   repeat' (first|exact trivial|exact cE rfl|rfl|refine And.intro ?_ ?_|intro _|fail)
  ·subst h;have i:jT W t a bd wd false=_:=congrArg Wd.tasks ((fO (t:=t) (bd:=bd) (wd:=wd) (c:=false) p).trans rfl);have d:jR W t a bd wd false=_:=congrArg Wd.ah ((fO (t:=t) (bd:=bd) (wd:=wd) (c:=false) p).trans rfl);have k:jU W t a bd wd false=_:=congrArg Wd.lines ((fO (t:=t) (bd:=bd) (wd:=wd) (c:=false) p).trans rfl);have l:jV W t a bd wd false=_:=congrArg Wd.ai ((fO (t:=t) (bd:=bd) (wd:=wd) (c:=false) p).trans rfl);have g:jS W t a bd wd false=_:=congrArg Wd.al ((fO (t:=t) (bd:=bd) (wd:=wd) (c:=false) p).trans rfl);have o:jW W t a bd wd false=_:=congrArg Wd.ready ((fO (t:=t) (bd:=bd) (wd:=wd) (c:=false) p).trans rfl);simp only[i,d,k,l,g,o];clear i d k l g o
   repeat' (first|exact trivial|exact cE rfl|rfl|refine And.intro ?_ ?_|intro _|fail)
 |true=>
  have p:mI W a.toNat=true:=po x y;have e:(gk W a.toNat λv=>da 1 λe3=>v== [4].getD e3 0)=true:=po x (by exact Sj.trans y);simp only[e,show oQ W a.toNat true=W.lines a.toNat 0 from rfl];have z:=And.intro u.t0 u.t1;refine⟨⟨hl,by decide⟩,λh=>absurd u.t0 (by have:=of_decide_eq_true h;omega),λ_=>⟨z,u.rQ.lk,λh=>⟨ho.Eo,⟨t0,t1⟩,z,?_⟩,λh=>?_⟩⟩
  ·subst h;have i:jT W t a bd wd true=_:=congrArg Wd.tasks ((lI (t:=t) (bd:=bd) (wd:=wd) (c:=true) p).trans (tL rfl));have d:jR W t a bd wd true=_:=congrArg Wd.ah ((lI (t:=t) (bd:=bd) (wd:=wd) (c:=true) p).trans (tL rfl));have k:jU W t a bd wd true=_:=congrArg Wd.lines ((lI (t:=t) (bd:=bd) (wd:=wd) (c:=true) p).trans (tL rfl));have l:jV W t a bd wd true=_:=congrArg Wd.ai ((lI (t:=t) (bd:=bd) (wd:=wd) (c:=true) p).trans (tL rfl));have g:jS W t a bd wd true=_:=congrArg Wd.al ((lI (t:=t) (bd:=bd) (wd:=wd) (c:=true) p).trans (tL rfl));have o:jW W t a bd wd true=_:=congrArg Wd.ready ((lI (t:=t) (bd:=bd) (wd:=wd) (c:=true) p).trans (tL rfl));simp only[i,d,k,l,g,o];clear i d k l g o;refine⟨λj _=>?_,?_⟩
   ·skip
    rcases aT (j=(W.lines a.toNat 0).toNat)with h1|h1
    ·subst h1;rcases aT ((W.lines a.toNat 0).toNat=t.toNat)with h2|h2
     ·simp only[Si h2,cy,cond_true,Hu,ZZ h2];repeat' (first|exact trivial|rfl|refine And.intro ?_ ?_)
     ·simp only[dt h2,cy,cond_true,cond_false,Hu,qM h2];repeat' (first|exact trivial|rfl|refine And.intro ?_ ?_)
    ·rcases aT (j=t.toNat)with h2|h2
     ·subst h2;simp only[dt h1,cy,cond_true,cond_false,qN h1,tu];repeat' (first|exact trivial|rfl|refine And.intro ?_ ?_)
     ·simp only[dt h1,dt h2,cond_false,qN h1,qM h2];repeat' (first|exact trivial|rfl|refine And.intro ?_ ?_)
   ·skip
    repeat' (first|exact trivial|exact cE rfl|rfl|refine And.intro ?_ ?_|intro _|fail)
  ·subst h;have i:jT W t a bd wd false=_:=congrArg Wd.tasks ((lI (t:=t) (bd:=bd) (wd:=wd) (c:=false) p).trans (tK rfl));have d:jR W t a bd wd false=_:=congrArg Wd.ah ((lI (t:=t) (bd:=bd) (wd:=wd) (c:=false) p).trans (tK rfl));have k:jU W t a bd wd false=_:=congrArg Wd.lines ((lI (t:=t) (bd:=bd) (wd:=wd) (c:=false) p).trans (tK rfl));have l:jV W t a bd wd false=_:=congrArg Wd.ai ((lI (t:=t) (bd:=bd) (wd:=wd) (c:=false) p).trans (tK rfl));have g:jS W t a bd wd false=_:=congrArg Wd.al ((lI (t:=t) (bd:=bd) (wd:=wd) (c:=false) p).trans (tK rfl));have o:jW W t a bd wd false=_:=congrArg Wd.ready ((lI (t:=t) (bd:=bd) (wd:=wd) (c:=false) p).trans (tK rfl));simp only[i,d,k,l,g,o];clear i d k l g o
   repeat' (first|exact trivial|exact cE rfl|rfl|refine And.intro ?_ ?_|intro _|fail)
structure CZ where
 (t a:Int) (W:Wd)
def Hw:Sy.Spec:=⟨CZ,λ⟨t,a,_⟩=> [.ptr 0 0 none 0 0,.v (.int .i64 t),.v (.int .i64 a)],λ⟨_,_,W⟩=>cL W,λ⟨t,a,W⟩=>AR W t a,λ⟨t,_,W⟩=> .er 43 66 (lh W t) (-1),λ⟨t,a,W⟩=>cL (b_ W t a),
 λargs mem=>match args with| [a0,a1,b]=>some ⟨av (a1),av (b),fW mem 0⟩|_=>none⟩
def Z2:aZ:=⟨[true],(Hw).g,none⟩
def P6:CZ->Prop:=λ⟨t,a,W⟩=>let a0:=0<=t/\t<((W.aO:Nat):Int);let b0:=Int.toNat t;let c0:=decide (0<=(W.tasks (0+b0)).ar);let d0:={W with tasks:=kE W t a,ah:=kA W t a,lines:=kF W t a,ai:=kG W t a,al:=kB W t a,ready:=kH W t a};let e0:=SV.ptr 0 0 none 0 0;let g:=e0=e0;let h0:=[(2:Int),3];let k0:=Int.toNat a;let c:=gk W k0 (λo0:Int=>da 2 (λq:Nat=>o0==List.getD h0 (0+q) 0));let b:=oQ W k0 c;let v0:=decide (b<0);let w0:=D2 W k0 c;let h:=xx W k0 c;let n:={W with tasks:=oP W k0 c,ah:=w0,lines:=h};let z0:=aB n n True;let a1:=dp W k0 c;let b1:=lh W t=0/\((-1):Int)=(-1);let c1:=0<=b/\b<((W.aO:Nat):Int);let d1:=Int.toNat b;let e:=0+d1;let o:=oP W k0 c e;let h1:=o.aH;let k1:=o.word;let i:=false=false;let o1:=(pk a1 b0 h1 k1 e).st==3;let d:={W with tasks:=λj:Nat=>let v1:=pk a1 b0 h1 k1 j;{v1 with word:=cond (Nat.beq j e) 0 v1.word,aH:=cond (Nat.beq j e) 0 v1.aH},ah:=w0,lines:=h};a0/\(c0=true->((7:Int)≠0/\lh W t=7/\((-1):Int)=(-1))/\aB W d0 True)/\(c0=false->True/\((g/\a=a/\(2=2/\(∀w1:Nat,let p:=List.getD h0 (0+w1) 0;w1<2->True/\p=p))/\True)/\aB W W True/\pn W a/\2<=1000)/\(v0=true->((g/\t=t/\a=a/\(4:Int)=4/\True)/\z0/\gb a1 t/\pn a1 a)/\b1/\aB {W with tasks:=ma a1 b0 a 4,ah:=pd a1 k0,lines:=pf a1 t k0,ai:=dC a1 t} d0 True)/\(v0=false->tn 7 (c1/\tn 7 (c1/\tn 2 (((g/\t=t/\h1=h1/\k1=k1/\True)/\z0/\a0)/\c1/\tn 10 (c1/\(∀r:Nat,i)/\c1/\(∀u:Nat,i)/\(o1=true->c1/\(∀v:Nat,i)/\a0/\(∀b2:Nat,i)/\b1/\
 aB {W with tasks:=λk:Nat=>let d2:=pk a1 b0 h1 k1 k;let l:=Nat.beq k e;{d2 with st:=cond l 5 d2.st,word:=cond l 0 d2.word,aH:=cond l 0 d2.aH,ar:=cond (Nat.beq k (0+b0)) b d2.ar},ah:=w0,lines:=h} d0 True)/\(o1=false->((g/\b=b/\True)/\aB d d True/\wT.match_1 (λg2:oG=>Prop) (oG.mk b d) (λh2:Int=>λk2:Wd=>fp k2 h2))/\b1/\aB {W with tasks:=iS d d1,ah:=w0,lines:=h,al:=iz d d1,ready:=iT d d1} d0 True)))))))
set_option maxHeartbeats 1000000 in
theorem Ym:aY Tryz.prog bk 31 Z2:=bn (.cons Gv (.cons LV (.cons KA (.cons Cl .nil)))) false Tryz.call31 Tryz.func31 (λ_=> []) (V:=P6) (λ_=>by kernel_rfl) λ⟨t,a,W⟩ hp=>by
 dsimp only[Hw]at hp;dsimp only[P6,tn,aw,aB,aJ,aK,aG];simp only[bq,bx,eq_self,implies_true,bo]
 try simp only[dI]
 simp only[FG,Hs,Ht];obtain⟨hl,ho,O,J,K⟩:=hp;have t0:=ho.t0;have t1:=ho.t1;have G:=And.intro t0 t1;refine⟨G,λh=>?_,λh=>?_⟩
 ·have p:((W.tasks t.toNat).ar== -1)=false:=by have:=of_decide_eq_true h;simp only[beq_eq_false_iff_ne];omega
  refine⟨⟨by decide,by unfold lh;rw[p];rfl⟩,?_⟩;have i:kE W t a=_:=congrArg Wd.tasks (tt (t:=t) (a:=a) p);have c:kA W t a=_:=congrArg Wd.ah (tt (t:=t) (a:=a) p);have k:kF W t a=_:=congrArg Wd.lines (tt (t:=t) (a:=a) p);have l:kG W t a=_:=congrArg Wd.ai (tt (t:=t) (a:=a) p);have d:kB W t a=_:=congrArg Wd.al (tt (t:=t) (a:=a) p);have o:kH W t a=_:=congrArg Wd.ready (tt (t:=t) (a:=a) p);simp only[i,c,k,l,d,o];clear i c k l d o
  repeat' (first|exact trivial|exact cE rfl|rfl|refine And.intro ?_ ?_|intro _|fail)
 have p:((W.tasks t.toNat).ar== -1)=true:=by have:=of_decide_eq_false h;simp only[beq_iff_eq];omega
 have B:lh W t=0:=by unfold lh;rw[p];rfl
 rcases ja (W.ah a.toNat)with h0|h0
 ·have q:mH W a.toNat=false:=AQ h0;have e:(gk W a.toNat λx=>da 2 λe3=>x== [2,3].getD e3 0)=false:=AQ h0;simp only[e,show oQ W a.toNat false= -1 from rfl];refine⟨⟨hl,by decide⟩,λ_=>⟨⟨ho.rQ,⟨hl.a0,hl.a1,hl.n,hl.h⟩⟩,B,?_⟩,λh=>absurd h (by decide)⟩;have i:kE W t a=_:=congrArg Wd.tasks ((j7 (t:=t) (a:=a) p).trans (lN (t:=t) (a:=a) q));have c:kA W t a=_:=congrArg Wd.ah ((j7 (t:=t) (a:=a) p).trans (lN (t:=t) (a:=a) q));have k:kF W t a=_:=congrArg Wd.lines ((j7 (t:=t) (a:=a) p).trans (lN (t:=t) (a:=a) q));have l:kG W t a=_:=congrArg Wd.ai ((j7 (t:=t) (a:=a) p).trans (lN (t:=t) (a:=a) q));have d:kB W t a=_:=congrArg Wd.al ((j7 (t:=t) (a:=a) p).trans (lN (t:=t) (a:=a) q));have o:kH W t a=_:=congrArg Wd.ready ((j7 (t:=t) (a:=a) p).trans (lN (t:=t) (a:=a) q));simp only[i,c,k,l,d,o];clear i c k l d o
  repeat' (first|exact trivial|exact cE rfl|rfl|refine And.intro ?_ ?_|intro _|fail)
 have C:W.ah a.toNat≠0:=by omega
 obtain⟨r,y,z⟩:=K h0;cases E:rn (W.tasks (W.lines a.toNat 0).toNat).st with
 |true=>
  have q:mH W a.toNat=false:=po C (by show(!rn _)=false;rw[E];rfl);have e:(gk W a.toNat λx=>da 2 λe3=>x== [2,3].getD e3 0)=false:=po C (by exact(Rx y z).trans (by rw[E];rfl));simp only[e,show oQ W a.toNat false= -1 from rfl];refine⟨⟨hl,by decide⟩,λ_=>⟨⟨ho.rQ,⟨hl.a0,hl.a1,hl.n,hl.h⟩⟩,B,?_⟩,λh=>absurd h (by decide)⟩;have i:kE W t a=_:=congrArg Wd.tasks ((j7 (t:=t) (a:=a) p).trans (lN (t:=t) (a:=a) q));have c:kA W t a=_:=congrArg Wd.ah ((j7 (t:=t) (a:=a) p).trans (lN (t:=t) (a:=a) q));have k:kF W t a=_:=congrArg Wd.lines ((j7 (t:=t) (a:=a) p).trans (lN (t:=t) (a:=a) q));have l:kG W t a=_:=congrArg Wd.ai ((j7 (t:=t) (a:=a) p).trans (lN (t:=t) (a:=a) q));have d:kB W t a=_:=congrArg Wd.al ((j7 (t:=t) (a:=a) p).trans (lN (t:=t) (a:=a) q));have o:kH W t a=_:=congrArg Wd.ready ((j7 (t:=t) (a:=a) p).trans (lN (t:=t) (a:=a) q));simp only[i,c,k,l,d,o];clear i c k l d o
  repeat' (first|exact trivial|exact cE rfl|rfl|refine And.intro ?_ ?_|intro _|fail)
 |false=>
  have q:mH W a.toNat=true:=po C (by show(!rn _)=true;rw[E];rfl);have e:(gk W a.toNat λx=>da 2 λe3=>x== [2,3].getD e3 0)=true:=po C (by exact(Rx y z).trans (by rw[E];rfl));simp only[e,show oQ W a.toNat true=W.lines a.toNat 0 from rfl];have u:=And.intro r.t0 r.t1;have I:fp (dc W t a.toNat) (W.lines a.toNat 0):=(r.rQ.lk).of rfl rfl rfl (pE aF.core rfl) (pE aF.prio rfl);have A:∀b w,(pk (dp W a.toNat true) t.toNat b w (W.lines a.toNat 0).toNat).st=(W.tasks (W.lines a.toNat 0).toNat).st:=λb w=>(Ds aF.st (λ_=>rfl)).trans (Dt aF.st λ_=>rfl);refine⟨⟨hl,by decide⟩,λh=>absurd r.t0 (by have:=of_decide_eq_true h;omega),λ_=>?_⟩;have v:((W.tasks (W.lines a.toNat 0).toNat).st==3)=true->b_ W t a=cU (dq (dc W t a.toNat) (W.lines a.toNat 0).toNat) t.toNat (W.lines a.toNat 0):=λg=>((j7 (t:=t) (a:=a) p).trans (HU (t:=t) (a:=a) q)).trans (Rb (t:=t) (a:=a) g);have g2:((W.tasks (W.lines a.toNat 0).toNat).st==3)=false->b_ W t a=cz (dc W t a.toNat) (W.lines a.toNat 0).toNat:=λg=>((j7 (t:=t) (a:=a) p).trans (HU (t:=t) (a:=a) q)).trans (Ra (t:=t) (a:=a) g)
  refine⟨u,u,G,u,u,u,?_,?_⟩
  ·intro g;rw[A]at g;refine⟨u,G,B,?_⟩;have i:kE W t a=_:=congrArg Wd.tasks (v g);have c:kA W t a=_:=congrArg Wd.ah (v g);have k:kF W t a=_:=congrArg Wd.lines (v g);have l:kG W t a=_:=congrArg Wd.ai (v g);have d:kB W t a=_:=congrArg Wd.al (v g);have o:kH W t a=_:=congrArg Wd.ready (v g);simp only[i,c,k,l,d,o];clear i c k l d o;refine⟨λj _=>?_,?_⟩
   ·skip
    rcases aT (j=(W.lines a.toNat 0).toNat)with h1|h1
    ·subst h1;rcases aT ((W.lines a.toNat 0).toNat=t.toNat)with h2|h2
     ·simp only[Si h2,cy,cond_true,tu,Hi,ZY h2,dc];repeat' (first|exact trivial|rfl|refine And.intro ?_ ?_)
     ·simp only[dt h2,cy,cond_true,cond_false,tu,Hi,qN h2,dc];repeat' (first|exact trivial|rfl|refine And.intro ?_ ?_)
    ·rcases aT (j=t.toNat)with h2|h2
     ·subst h2;simp only[dt h1,cy,cond_true,cond_false,qM h1,P1 h1,Hu,dc];repeat' (first|exact trivial|rfl|refine And.intro ?_ ?_)
     ·simp only[dt h1,dt h2,cond_false,qM h1,P1 h1,qN h2,dc];repeat' (first|exact trivial|rfl|refine And.intro ?_ ?_)
   ·skip
    repeat' (first|exact trivial|exact cE rfl|rfl|refine And.intro ?_ ?_|intro _|fail)
  ·intro g;rw[A]at g;refine⟨I,B,?_⟩;have i:kE W t a=_:=congrArg Wd.tasks (g2 g);have c:kA W t a=_:=congrArg Wd.ah (g2 g);have k:kF W t a=_:=congrArg Wd.lines (g2 g);have l:kG W t a=_:=congrArg Wd.ai (g2 g);have d:kB W t a=_:=congrArg Wd.al (g2 g);have o:kH W t a=_:=congrArg Wd.ready (g2 g);simp only[i,c,k,l,d,o];clear i c k l d o
   repeat' (first|exact trivial|exact cE rfl|rfl|refine And.intro ?_ ?_|intro _|fail)
abbrev T0 (W:Wd):Prop:=TS (λ_=>False) W
theorem bI.t0 {W:Wd} (h:bI W):T0 W:=TS.of h.z h.tk h.ln h.co h.rl
theorem bI.qe {W W':Wd} (h:bI W) (t:T0 W') (ec:ee W'=ee W) (et:W'.time=W.time) (j:W'.af=W.af) (b:W'.kinds=W.kinds) (e3:W'.aA=W.aA) (e4:W'.aa=W.aa) (p:W'.aD=W.aD) (q:W'.ax=W.ax):bI W':=by
 have d:=ec;simp only[ee,pN,and_true]at d;obtain⟨c1,e,g,B,C,E,r,G,c9,l⟩:=d;have ko:∀x,bK W' x=bK W x:=λx=>by unfold bK;rw[b,e]
 have n:∀u,dD W' u=dD W u:=λu=>by unfold dD;rw[g]
 have up:∀k u,cN W' u k=cN W u k:=λk u=>by
  induction k with
  |zero=>rfl
  |succ k v=>show hN W' _=hN W _;rw[v];unfold hN;rw[n,e4]
 refine⟨t.z,?_,?_,?_,?_,?_,t.tk,t.ln,t.co,t.rl,?_,?_⟩
 ·rw[c1,j];exact h.af
 ·rw[e,b];exact h.kd
 ·rw[l,e3];exact h.dm
 ·rw[g];intro i o;have:=h.sl i o;unfold eR ki at this⊢;rw[e4,b,e,g,n,up,n];exact this
 ·rw[e];intro f y;have:=h.fr f y;unfold rJ at this⊢;rw[e4,b,g];exact this
 ·rw[c1];intro i o;have:=h.en i o;unfold f' at this⊢;simp only[j,b,ko];exact this
 ·rw[r,p,q];intro c A;have:=h.tl c A;unfold ga lp at this⊢;simp only[ko,c1,j];exact this
theorem TS.vJ {X Y:Nat->Prop} {W:Wd} (h:TS X W) (b:∀f,f<W.ak->X f->Y f):TS Y W:=
 h.lv λf c _ d e=>absurd (b f c d) e
theorem T0.core {X:Nat->Prop} {W:Wd} (h:TS X W) {c:Nat} (e:c<W.aC) (g:W.ai c≠ -1):(0<=W.ai c/\W.ai c<W.ak)/\W.kinds (W.ai c).toNat=6/\(W.tasks (W.ai c).toNat).st=1/\(W.tasks (W.ai c).toNat).core=c:=by obtain⟨a,b,c,d,_⟩:=jv.1 (h.co c e) g;exact⟨a,b,c,d⟩
theorem T0.act {W:Wd} (h:T0 W) {t a k:Int} (b:cH W t a k=0):(0<=t/\t<W.ak)/\(0<=a/\a<W.ak)/\W.kinds t.toNat=6/\W.kinds a.toNat=k/\(W.tasks t.toNat).st=1/\∃c,c<W.aC/\W.ai c=(t.toNat:Int):=by
 unfold cH at b;cases h1:(decide (t<0)||decide ((W.ak:Int)<=t)||decide (a<0)||decide ((W.ak:Int)<=a))with
 |true=>rw[h1]at b;exact absurd (show(2:Int)=0 from b) (by decide)
 |false=>
  cases h2:(W.kinds t.toNat !=6||W.kinds a.toNat !=k)with
  |true=>rw[h1,h2]at b;exact absurd (show(3:Int)=0 from b) (by decide)
  |false=>
   cases d:W.ai (W.tasks t.toNat).core.toNat==t with
   |false=>rw[h1,h2,d]at b;exact absurd (show(7:Int)=0 from b) (by decide)
   |true=>
    simp only[bX,decide_eq_false_iff_not,bne_eq_false_iff_eq]at h1 h2;have d:=eq_of_beq d;have i:t.toNat<W.ak:=by omega
    obtain⟨n,j,o⟩:=h.nm t.toNat i h2.1;have l:=(sk j).2.2.2.2.2.1;have e:(W.tasks t.toNat).core.toNat<W.aC:=by have:=h.z.c0;omega
    have g:=T0.core h e (by omega);rw[d]at g;exact⟨by omega,by omega,h2.1,h2.2,g.2.2.1,_,e,by rw[d];omega⟩
theorem abS {t:aF} (h:gV t=false) {b g:Int} (c:0<=b/\b<=65535) (d:0<=g/\g<=65535):gV {t with r1:=b,r2:=g}=false:=by unfold gV at h⊢;simp only[bX]at h⊢;obtain⟨⟨⟨⟨⟨⟨⟨h0,h1⟩,h2⟩,e⟩,i⟩,j⟩,k⟩,l⟩:=h;exact⟨⟨⟨⟨⟨⟨⟨h0,ej c⟩,ej d⟩,e⟩,i⟩,j⟩,k⟩,l⟩
theorem TS.lk {X:Nat->Prop} {W:Wd} {t:Nat} {b g:Int} (h:TS X W) (c:t<W.ak) (d:W.kinds t=6) (e:0<=b/\b<=65535) (i:0<=g/\g<=65535):TS X (di W t b g):=by obtain⟨j,k,l⟩:=h.nm t c d;exact h.set (r:={W.tasks t with r1:=b,r2:=g}) c d (abS j e i) k l rfl (.inr ⟨rfl,rfl,rfl,.inl rfl⟩)
theorem TS.wb {X:Nat->Prop} {W:Wd} {t:Nat} {w b:Int} (h:TS X W) (c:t<W.ak) (d:W.kinds t=6) (e:0<=w/\w<=65535) (g:0<=b/\b<=65535):TS X (fo W t w b):=by obtain⟨i,j,k⟩:=h.nm t c d;refine h.set (r:={W.tasks t with word:=w,aH:=b}) c d i ?_ k rfl (.inr ⟨rfl,rfl,rfl,.inl rfl⟩);obtain⟨h1,h2,q,l,n,o,p⟩:=sk j;unfold fk;simp only[bX];exact⟨⟨⟨⟨⟨⟨ej h1,ej e⟩,ej g⟩,ej l⟩,ej n⟩,ej o⟩,ej p⟩
theorem TS.ask {X:Nat->Prop} {W:Wd} {t:Nat} (h:TS X W) (d:X t) (b:t<W.ak) (c:W.kinds t=6) (hs:cB W t=0) (e:cu W t=0):TS X (dq W t):=by obtain⟨g,i,j⟩:=h.nm t b c;have:=h.set (r:={W.tasks t with st:=5}) b c g (sn (l:=(W.tasks t).loc) i (by decide)) j rfl (.inl ⟨d,hs,e⟩);exact this
theorem OQ {W:Wd} {a:Nat} {p:Int->Bool} (h:gk W a p=true):0<W.ah a/\p (W.tasks (W.lines a 0).toNat).st=true:=by unfold gk at h;simp only[aW,bne_iff_ne]at h;exact⟨yO h.1,h.2⟩
theorem Q' {W:Wd} {a:Nat} {p:Int->Bool} (h:gk W a p=false) (hl:0<W.ah a):p (W.tasks (W.lines a 0).toNat).st=false:=by unfold gk at h;simp only[pI,bne_eq_false_iff_eq]at h;exact h.resolve_left (by omega)
theorem TS.Eo {X:Nat->Prop} {W:Wd} {a:Nat} {b w:Int} (h:TS X W) (k:∀f,X f->W.kinds f≠6) (i:a<W.ak) (hl:0<W.ah a) (l:(W.tasks (W.lines a 0).toNat).st≠5) (n:0<=b/\b<=65535) (p:0<=w/\w<=65535):TS X (de W a b w):=by
 obtain⟨_,q,_⟩:=(dY.1 (h.ln a i)).2.2.2 0 hl;have c:¬X (W.lines a 0).toNat:=λc=>k _ c q;obtain⟨u,⟨d,g⟩,v,x⟩:=h.front i hl c;have y:=u.lk (t:=(W.lines a 0).toNat) d g n p;have ho:bV (di (oO W a) (W.lines a 0).toNat b w) (W.lines a 0).toNat=0:=by have o:=h.o1 _ d g;have o1:bV W (W.lines a 0).toNat≠1:=λe=>l ((o.2 c).1 e);have A:bV (oO W a) (W.lines a 0).toNat=bV W (W.lines a 0).toNat:=pA (W:=W) (t:=(W.lines a 0).toNat) (r:={W.tasks (W.lines a 0).toNat with loc:= -1}) rfl _;have B:bV (di (oO W a) (W.lines a 0).toNat b w) (W.lines a 0).toNat=bV (oO W a) (W.lines a 0).toNat:=pA (W:=oO W a) (t:=(W.lines a 0).toNat) (r:={(oO W a).tasks (W.lines a 0).toNat with r1:=b,r2:=w}) rfl _;omega
 have z:=y.vI (.inr rfl) d g v x ho;exact z.vJ λf _ j=>j.1.resolve_right j.2
theorem T0.b0 {X:Nat->Prop} {W:Wd} (h:TS X W) {a:Nat} (b:a<W.ak) (c:W.kinds a=7):W.bits a=0:=fN λe=>by have:=((dY.1 (h.ln a b)).2.1 e).1;omega
theorem Hh {W:Wd} {a j:Nat} {b w:Int} (h:j≠(W.lines a 0).toNat):(de W a b w).tasks j=W.tasks j:=
 (bh h).trans ((bh h).trans (bh h))
theorem VK {W:Wd} {a j:Nat} {b w:Int}:((de W a b w).tasks j).ar=(W.tasks j).ar:=by
 rcases aT (j=(W.lines a 0).toNat)with e|e
 ·subst e;have c:(de W a b w).tasks (W.lines a 0).toNat={(di (dp W a true) (W.lines a 0).toNat b w).tasks (W.lines a 0).toNat with st:=1,loc:= -1}:=bg
  have d:(di (dp W a true) (W.lines a 0).toNat b w).tasks (W.lines a 0).toNat={(dp W a true).tasks (W.lines a 0).toNat with r1:=b,r2:=w}:=bg
  have e3:(dp W a true).tasks (W.lines a 0).toNat={W.tasks (W.lines a 0).toNat with loc:= -1}:=bg
  rw[c,d,e3]
 ·rw[Hh e]
theorem Y_ {W:Wd} {a:Nat} {b w:Int}:((de W a b w).tasks (W.lines a 0).toNat).st=1:=by
 have c:(de W a b w).tasks (W.lines a 0).toNat={(di (dp W a true) (W.lines a 0).toNat b w).tasks (W.lines a 0).toNat with st:=1,loc:= -1}:=bg
 rw[c]
theorem T0.snd {W:Wd} {t a b w:Int} {c:Bool} (h:T0 W) (R:cH W t a 7=0) (I:0<=b/\b<=65535) (J:0<=w/\w<=65535):T0 (ca W t a b w c):=by
 obtain⟨S,Z,l,n,hs,K⟩:=h.act R;have et:(t.toNat:Int)=t:=by omega
 have d:t.toNat<W.ak:=by omega
 have i:a.toNat<W.ak:=by omega
 cases k:mI W a.toNat with
 |true=>
  rw[lI k];obtain⟨y,z⟩:=OQ k;have z:(W.tasks (W.lines a.toNat 0).toNat).st=4:=eq_of_beq z;have g:=h.Eo (b:=b) (w:=w) (λ_ p=>p.elim) i y (by omega) I J;cases c with
  |false=>rw[tK rfl];exact g
  |true=>
   rw[tL rfl];obtain⟨_,A,_⟩:=(dY.1 (h.ln _ i)).2.2.2 0 y;have u1:=((dY.1 (h.ln _ i)).2.2.2 0 y).1;have j:t.toNat≠(W.lines a.toNat 0).toNat:=λe=>by rw[e]at hs;omega
   have o:=g.off (t:=t.toNat) d l id (by rw[Hh j];exact hs) K;rw[et]at o;obtain⟨o1,q,x,B⟩:=o;have k1:=o1.ask (.inr rfl) d l q x;have ow:((dq (eD (de W a.toNat b w) t) t.toNat).tasks (W.lines a.toNat 0).toNat).ar= -1:=by rw[qM j.symm];show((de W a.toNat b w).tasks _).ar= -1;rw[VK];exact fN λe=>(h.ow _ (by omega) A e).2 id z
   have st:((dq (eD (de W a.toNat b w) t) t.toNat).tasks (W.lines a.toNat 0).toNat).st≠4:=by rw[qM j.symm];show((de W a.toNat b w).tasks _).st≠4;rw[Y_];decide
   have O:bV (dq (eD (de W a.toNat b w) t) t.toNat) t.toNat=0:=(pA (W:=eD (de W a.toNat b w) t) (t:=t.toNat) (r:={(eD (de W a.toNat b w) t).tasks t.toNat with st:=5}) rfl _).trans B;obtain⟨T,m2⟩:=k1.Aa (u:=(W.lines a.toNat 0).toNat) (v:=t) (by show _<W.ak;omega) A (.inl ow) (.inr ⟨S,l,.inr rfl,O,.inr st⟩);have m2:=m2 t.toNat
   rw[O,ow,lM (show(-1:Int)≠t.toNat by omega),et,pY]at m2;refine TS.lv (W:=cU (dq (eD (de W a.toNat b w) t) t.toNat) (W.lines a.toNat 0).toNat t) T λf _ _ U _=>?_;obtain rfl:f=t.toNat:=U.resolve_left id;have C:((cU (dq (eD (de W a.toNat b w) t) t.toNat) (W.lines a.toNat 0).toNat t).tasks t.toNat).st=5:=by rw[qN j,tu]
   have V:((cU (dq (eD (de W a.toNat b w) t) t.toNat) (W.lines a.toNat 0).toNat t).tasks t.toNat).loc= -1:=by rw[qN j,tu];show((de W a.toNat b w).tasks t.toNat).loc= -1;rw[Hh j];exact((h.so _ d l id).rd hs).2.2
   exact⟨⟨λ_=>C,λ_=>m2⟩,.o (.inr C) q x V,λ_=>by rw[C];decide⟩
 |false=>
  rw[fO k];have g:=TS.wb (w:=w) (b:=b) h d l J I;have o:=g.off (t:=t.toNat) d l id (by rw[Hi];exact hs) K;rw[et]at o;obtain⟨o1,q,x,B⟩:=o;have E:=T0.b0 h i n;have r:=o1.Q_ (a:=a.toNat) (s:=bif c then 3 else 2) (.inr rfl) d l q x B i (.inl ⟨n,by cases c<;>simp⟩) E (λhl=>?_) (λG=>by cases c<;>exact absurd G (by decide))
  ·have X:(a.toNat:Int)=a:=by omega
   have r:=r.vJ (Y:=λ_=>False) λf _ p=>p.1.resolve_right p.2;have e:kh (eD (fo W t.toNat w b) t) t.toNat a.toNat (bif c then 3 else 2)=eJ (fo W t.toNat w b) t a (bif c then 3 else 2):=by unfold kh eJ;rw[et,X];rfl
   rw[e]at r;exact r
  ·have k:=Q' k (show 0<W.ah a.toNat from hl);have k:((W.tasks (W.lines a.toNat 0).toNat).st==4)=false:=k;obtain⟨_,A,_⟩:=(dY.1 (h.ln _ i)).2.2.2 0 hl;have e:jq (eD (fo W t.toNat w b) t) (W.lines a.toNat 0)=((W.tasks (W.lines a.toNat 0).toNat).st==4):=by
    show((aj W.tasks t.toNat {W.tasks t.toNat with word:=w,aH:=b} (W.lines a.toNat 0).toNat).st==4)=_;rcases aT ((W.lines a.toNat 0).toNat=t.toNat)with e|e
    ·rw[e,bg]
    ·rw[bh e]
   have e':jq (eD (fo W t.toNat w b) t) ((eD (fo W t.toNat w b) t).lines a.toNat 0)=jq (eD (fo W t.toNat w b) t) (W.lines a.toNat 0):=rfl;rw[e',e,k];cases c<;>rfl
theorem T0.first {X:Nat->Prop} {W:Wd} (h:TS X W) {a:Nat} (b:a<W.ak) (hl:0<W.ah a):(0<=W.lines a 0/\W.lines a 0<W.ak)/\W.kinds (W.lines a 0).toNat=6/\(W.tasks (W.lines a 0).toNat).loc=a:=by obtain⟨a1,c,a3,_⟩:=(dY.1 (h.ln a b)).2.2.2 0 hl;exact⟨a1,c,a3⟩
theorem Df {W:Wd} {a j:Nat} {b:Type} (p:aF->b) (h:∀r:aF,p {r with loc:= -1}=p r):p ((oO W a).tasks j)=p (W.tasks j):=by
 show p (aj W.tasks _ _ j)=_;rcases aT (j=(W.lines a 0).toNat)with e|e
 ·subst e;rw[bg];exact h _
 ·rw[bh e]
theorem CN {W:Wd} {t j:Nat} {b g:Int} {c:Type} (p:aF->c) (h:∀r:aF,p {r with r1:=b,r2:=g}=p r):p ((di W t b g).tasks j)=p (W.tasks j):=by
 show p (aj W.tasks _ _ j)=_;rcases aT (j=t)with e|e
 ·subst e;rw[bg];exact h _
 ·rw[bh e]
theorem HT {W:Wd} {t j:Nat} {w b:Int} {c:Type} (p:aF->c) (h:∀r:aF,p {r with word:=w,aH:=b}=p r):p ((fo W t w b).tasks j)=p (W.tasks j):=by
 show p (aj W.tasks _ _ j)=_;rcases aT (j=t)with e|e
 ·subst e;rw[bg];exact h _
 ·rw[bh e]
theorem Fz {W W':Wd} (b:W'.aO=W.aO) (h:∀i,(W'.tasks i).ar=(W.tasks i).ar) (f:Nat):bV W' f=bV W f:=by unfold bV;rw[b];exact hV λi _=>by rw[h]
theorem T0.Em {W:Wd} {t a:Int} (h:T0 W) (S:cH W t a 7=0):T0 (b_ W t a):=by
 obtain⟨ht,ha,x,k,hs,T⟩:=h.act S;have et:(t.toNat:Int)=t:=by omega
 have U:(a.toNat:Int)=a:=by omega
 have b:t.toNat<W.ak:=by omega
 have c:a.toNat<W.ak:=by omega
 cases ho:(W.tasks t.toNat).ar== -1 with
 |false=>rw[tt ho];exact h
 |true=>
  have y:=eq_of_beq ho;rw[j7 ho];cases j:mH W a.toNat with
  |false=>
   rw[lN j];have o:=h.off (t:=t.toNat) b x id hs T;rw[et]at o;obtain⟨o1,V,X,Z⟩:=o;have r:=o1.Q_ (a:=a.toNat) (s:=4) (.inr rfl) b x V X Z c (.inl ⟨k,by decide⟩) (T0.b0 h c k) (λhl=>?_) (λ_=>y)
   ·have r:=r.vJ (Y:=λ_=>False) λf _ z=>z.1.resolve_right z.2;have e:kh (eD W t) t.toNat a.toNat 4=eJ W t a 4:=by unfold kh eJ;rw[et,U];rfl
    rw[e]at r;exact r
   ·have j:=Q' j (show 0<W.ah a.toNat from hl);have j:(!((W.tasks (W.lines a.toNat 0).toNat).st==4))=false:=j;show((W.tasks (W.lines a.toNat 0).toNat).st==4)=_;rw[hC j];rfl
  |true=>
   rw[HU j];obtain⟨G,B⟩:=OQ j;have B:(W.tasks (W.lines a.toNat 0).toNat).st≠4:=by have:(!((W.tasks (W.lines a.toNat 0).toNat).st==4))=true:=B;simpa using this
   obtain⟨u1,l,I⟩:=T0.first h c G;have q:(W.lines a.toNat 0).toNat<W.ak:=by omega
   have d:t.toNat≠(W.lines a.toNat 0).toNat:=λe=>by have:=((h.so _ b x id).rd hs).2.2;rw[e,I]at this;omega
   have lZ:(W.tasks (W.lines a.toNat 0).toNat).st=2\/(W.tasks (W.lines a.toNat 0).toNat).st=3:=by
    have p:=h.so _ q l id;rcases aT ((W.tasks (W.lines a.toNat 0).toNat).st=2\/(W.tasks (W.lines a.toNat 0).toNat).st=3)with e|e
    ·exact e
    exfalso;rcases aT ((W.tasks (W.lines a.toNat 0).toNat).st=6)with C|C
    ·have:=(p.bl C).2.2.1;rw[I,eY (by omega),cj,k]at this;exact absurd this (by decide)
    rcases aT ((W.tasks (W.lines a.toNat 0).toNat).st=1)with n|n
    ·have:=(p.rd n).2.2;omega
    ·have:=(p.no n (λg=>e (.inl g)) (λg=>e (.inr g)) B C).2.2;omega
   obtain⟨f1,_,f2,f3⟩:=h.front c G id;have fi:(λf=>False\/f=(W.lines a.toNat 0).toNat)=λf=>False\/f=(W.lines a.toNat 0).toNat:=rfl;obtain⟨n1,n2,n3⟩:=h.nm _ q l;obtain⟨_,w2,w3,_⟩:=sk n2;have eb:((dp W a.toNat true).tasks (W.lines a.toNat 0).toNat).aH=(W.tasks (W.lines a.toNat 0).toNat).aH:=Df aF.aH λ_=>rfl;have ew:((dp W a.toNat true).tasks (W.lines a.toNat 0).toNat).word=(W.tasks (W.lines a.toNat 0).toNat).word:=Df aF.word λ_=>rfl;have J:TS (λf=>False\/f=(W.lines a.toNat 0).toNat) (dc W t a.toNat):=by
    refine TS.wb (TS.lk f1 b x ?_ ?_) q l (by decide) (by decide)
    ·rw[eb];exact w3
    ·rw[ew];exact w2
   have e4:cB (dc W t a.toNat) (W.lines a.toNat 0).toNat=0:=f2;have E:cu (dc W t a.toNat) (W.lines a.toNat 0).toNat=0:=f3;have K:∀i,((dc W t a.toNat).tasks i).ar=(W.tasks i).ar:=λi=>(HT aF.ar λ_=>rfl).trans ((CN aF.ar λ_=>rfl).trans (Df aF.ar λ_=>rfl));have es:∀i,((dc W t a.toNat).tasks i).st=(W.tasks i).st:=λi=>(HT aF.st λ_=>rfl).trans ((CN aF.st λ_=>rfl).trans (Df aF.st λ_=>rfl));have O:bV (dc W t a.toNat) (W.lines a.toNat 0).toNat=0:=by
    rw[Fz (W:=W) (W':=dc W t a.toNat) rfl K];have o:=h.o1 _ q l;have o1:bV W (W.lines a.toNat 0).toNat≠1:=λe=>by have:=(o.2 id).1 e;omega
    omega
   cases A:(W.tasks (W.lines a.toNat 0).toNat).st==3 with
   |false=>rw[Ra A];exact(J.vI (.inr rfl) q l e4 E O).vJ λf _ z=>(z.1.resolve_left id|>z.2).elim
   |true=>
    rw[Rb A];have k1:=J.ask (.inr rfl) q l e4 E;have R:bV (dq (dc W t a.toNat) (W.lines a.toNat 0).toNat) (W.lines a.toNat 0).toNat=0:=(pA (W:=dc W t a.toNat) (t:=(W.lines a.toNat 0).toNat) (r:={(dc W t a.toNat).tasks (W.lines a.toNat 0).toNat with st:=5}) rfl _).trans O;have ow:((dq (dc W t a.toNat) (W.lines a.toNat 0).toNat).tasks t.toNat).ar= -1:=by rw[qM d,K];exact y
    have st:((dq (dc W t a.toNat) (W.lines a.toNat 0).toNat).tasks t.toNat).st≠4:=by rw[qM d,es,hs];decide
    obtain⟨m1,m2⟩:=k1.Aa (u:=t.toNat) (v:=W.lines a.toNat 0) b x (.inl ow) (.inr ⟨u1,l,.inr rfl,R,.inr st⟩);have eu:(((W.lines a.toNat 0).toNat:Nat):Int)=W.lines a.toNat 0:=by omega
    have m2:=m2 (W.lines a.toNat 0).toNat
    rw[R,ow,lM (show(-1:Int)≠((W.lines a.toNat 0).toNat:Nat) by omega),eu,pY]at m2;refine TS.lv (W:=cU (dq (dc W t a.toNat) (W.lines a.toNat 0).toNat) t.toNat (W.lines a.toNat 0)) m1 λf _ _ hx _=>?_;obtain rfl:f=(W.lines a.toNat 0).toNat:=hx.resolve_left id;have n:((cU (dq (dc W t a.toNat) (W.lines a.toNat 0).toNat) t.toNat (W.lines a.toNat 0)).tasks (W.lines a.toNat 0).toNat).st=5:=by rw[qN d.symm,tu]
    have e2:((cU (dq (dc W t a.toNat) (W.lines a.toNat 0).toNat) t.toNat (W.lines a.toNat 0)).tasks (W.lines a.toNat 0).toNat).loc= -1:=by rw[qN d.symm,tu];show((dc W t a.toNat).tasks _).loc= -1;refine(HT aF.loc λ_=>rfl).trans ((CN aF.loc λ_=>rfl).trans ?_);show(aj W.tasks _ _ _).loc= -1;rw[bg]
    exact⟨⟨λ_=>n,λ_=>m2⟩,.o (.inr n) e4 E e2,λ_=>by rw[n];decide⟩
theorem T0.En {W:Wd} {t w:Int} (h:T0 W) (B:0<=t/\t<W.ak) (k:W.kinds t.toNat=6) (q:0<=w/\w<=65535):T0 (fa W t w):=by
 have d:t.toNat<W.ak:=by omega
 cases ho:(W.tasks t.toNat).ar== -1 with
 |true=>rw[CO ho];exact h
 |false=>
  rw[CP ho];have ho:=beq_eq_false_iff_ne.1 ho;have l:=(h.nm _ d k).2.2;unfold fx okF at l;simp only[aW,cM,beq_iff_eq]at l;have o:=l.2.resolve_left ho;have n:=gv (W:=W) (f:=(W.tasks t.toNat).ar) (by rw[o];decide);have c:W.kinds (W.tasks t.toNat).ar.toNat=6:=by rw[<-eY n];exact o
  have e:(W.tasks t.toNat).ar.toNat<W.ak:=by omega
  have p:=(h.ow _ d k ho).1 id;obtain⟨r,x,_⟩:=(h.so _ e c id).idle (.inr p);have h1:=h.wk (Y:=λf=>f=(W.tasks t.toNat).ar.toNat) λ_ j=>j.elim;obtain⟨y,m2⟩:=h1.Aa (u:=t.toNat) (v:= -1) d k (.inr rfl) (.inl rfl);have m2:=m2 (W.tasks t.toNat).ar.toNat
  have z:(((W.tasks t.toNat).ar.toNat:Nat):Int)=(W.tasks t.toNat).ar:=by omega
  have o1:=((h.o1 _ e c).2 id).2 p;rw[lM (show(-1:Int)≠((W.tasks t.toNat).ar.toNat:Nat) by omega),z,pY,o1]at m2;have g:=TS.lk (b:=0) (g:=w) y e c (by decide) q;have A:bV (di (cU W t.toNat (-1)) (W.tasks t.toNat).ar.toNat 0 w) (W.tasks t.toNat).ar.toNat=0:=by rw[Fz (W:=cU W t.toNat (-1)) (W':=di (cU W t.toNat (-1)) (W.tasks t.toNat).ar.toNat 0 w) rfl λi=>CN aF.ar λ_=>rfl];show bV (cU W t.toNat (-1)) _=0;have:bV (cU W t.toNat (-1)) (W.tasks t.toNat).ar.toNat+1=1+0:=m2;omega
  exact(TS.vI (W:=di (cU W t.toNat (-1)) (W.tasks t.toNat).ar.toNat 0 w) g rfl e c r x A).vJ λf _ j=>(j.2 j.1).elim
theorem T0.ring {W:Wd} {b:Nat} {g:Int} (h:T0 W) (c:b<W.ak) (d:W.kinds b=8) (i:0<=g/\g<=65535) (ho:0<=gG (W.bits b) g/\gG (W.bits b) g<=65535):T0 (iu W b g):=by
 cases hl:W.ah b==0 with
 |true=>rw[Hg hl];exact TS.bits h c d ho λ_=>eq_of_beq hl
 |false=>rw[OR hl];have hl:0<W.ah b:=yO (beq_eq_false_iff_ne.1 hl);obtain⟨l,j,n⟩:=T0.first h c hl;refine TS.Eo h (λ_ k=>k.elim) c hl (λe=>?_) (by decide) i;have:=((h.so _ (by omega) j id).idle (.inr e)).2.2;omega
def d' (p:Nat->Bool):Nat->Nat
 |0=>0
 |i+1=>bif p i then d' p i else d' p i+1
def f_ {b:Type} (z:b) (p:Nat->Bool) (t:Nat->b):Nat->Nat->b
 |0,_=>z
 |i+1,a=>bif !p i&&Nat.beq a (d' p i)then t i else f_ z p t i a
theorem P8 (p:Nat->Bool):∀i,d' p i<=i
 |0=>bc _
 |i+1=>by have:=P8 p i;simp only[d'];cases p i<;>simp<;>omega
def rp (l:Nat->Int) (x:Int) (k:Nat):Bool:=l k==x
def mX (n:Nat) (l:Nat->Int) (x:Int):Nat:=d' (rp l x) n
def jr (n:Nat) (l:Nat->Int) (x:Int):Nat->Int:=f_ 0 (rp l x) l n
def fl (x:aF) (t:Int):aF:={x with ar:=bif x.ar==t then -1 else x.ar}
def I5 (W:Wd) (t:Int) (i:Nat):aF:=fl (ma W t.toNat (-1) 0 i) t
def mM (W:Wd) (t:Int) (i:Nat):Nat:=mX (W.ah i) (W.lines i) t
def mY (W:Wd) (t:Int) (i:Nat):Nat->Int:=jr (W.ah i) (W.lines i) t
def lb (W:Wd) (t:Int) (i:Nat):Nat:=mX (W.al i) (W.ready i) t
def lo (W:Wd) (t:Int) (i:Nat):Nat->Int:=jr (W.al i) (W.ready i) t
def bL (W:Wd) (t:Int):Wd:={W with tasks:=I5 W t,ah:=mM W t,lines:=mY W t,ai:=dC W t,al:=lb W t,ready:=lo W t}
end Go.Proofs.YthgmgkabnffniaaGreatDoor
