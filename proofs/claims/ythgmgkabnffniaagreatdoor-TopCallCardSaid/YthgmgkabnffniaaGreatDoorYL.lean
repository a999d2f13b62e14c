/- Counting in lists. -/
import Derived.Test.YthgmgkabnffniaaGreatDoorYK
import Derived.Shelf.Slices.Cells
import Derived.Test.YthgmgkabnffniaaGreatDoorYJ
set_option linter.unusedVariables false
set_option linter.unusedSimpArgs false
set_option maxRecDepth 100000
namespace Go.Proofs.YthgmgkabnffniaaGreatDoor
open Go.RowKit Go.Sy
theorem ye {f g:Nat->Nat}:∀{n},(∀i,i<n->f i=g i)->iL n f=iL n g
 |0,_=>rfl
 |n+1,h=>by unfold iL;rw[ye λi b=>h i (by omega),h n (by omega)]
theorem K7 {f:Nat->Nat} {a v:Nat}:∀{n},a<n->iL n (aj f a v)+f a=iL n f+v
 |0,h=>absurd h (dS _)
 |n+1,h=>by
  unfold iL;rcases bR a n with e|e
  ·have:=K7 (f:=f) (v:=v) e;rw[bh (show n≠a by omega)];omega
  ·obtain rfl:a=n:=by omega
   rw[bg,ye (g:=f) λi b=>bh (show i≠a by omega)];omega
theorem hV {p q:Nat->Bool}:∀{n},(∀i,i<n->p i=q i)->bD n p=bD n q
 |0,_=>rfl
 |n+1,h=>by unfold bD;rw[hV λi b=>h i (by omega),h n (by omega)]
theorem kJ {p:Nat->Bool} {n:Nat}:bD n p=0↔∀i,i<n->p i=false:=by
 constructor
 ·intro h i b;cases hp:p i with
  |false=>rfl
  |true=>have:=qv b hp;omega
 ·intro h
  induction n with
  |zero=>rfl
  |succ n c=>unfold bD;rw[c λi b=>h i (by omega),h n (by omega)];rfl
theorem yo {f:Nat->Nat}:∀{n},iL n f=0↔∀i,i<n->f i=0
 |0=>⟨λ_ i h=>absurd h (dS _),λ_=>rfl⟩
 |n+1=>by
  unfold iL;constructor
  ·intro h i b;rcases bR i n with e|e
   ·exact yo.1 (by omega:iL n f=0) i e
   ·obtain rfl:i=n:=by omega
    omega
  ·intro h;rw[yo.2 λi b=>h i (by omega),h n (by omega)]
def b1 (b:Bool):Nat:=bif b then 1 else 0
theorem Gj {p:Nat->Bool}:∀{m},bD (m+1) p=b1 (p 0)+bD m λk=>p (k+1)
 |0=>by simp[bD,b1]
 |m+1=>by rw[bD,Gj (m:=m),bD];omega
theorem K8 {p:Nat->Bool}:∀{m i},i<=m->bD (m+1) p=bD m (λk=>p (bif Nat.blt k i then k else k+1))+b1 (p i)
 |m,0,_=>by rw[Gj,jZ];congr 1
 |0,i+1,h=>absurd h (by omega)
 |m+1,i+1,h=>by
  rw[bD];rcases bR i m with e|e
  ·rw[K8 (m:=m) (i:=i+1) (by omega)];rw[bD,kZ (show i+1<=m by omega)];show _+(bif p (m+1)then 1 else 0)=_+(bif p (m+1)then 1 else 0)+_;omega
  ·obtain rfl:i=m:=by omega
   rw[hV (q:=λk=>p (bif Nat.blt k (i+1)then k else k+1)) (n:=i+1) λk b=>by rw[gY b];rfl];rfl
theorem Cc {n:Nat} {f:Nat->Int} {t x:Int}:cf (n+1) (hO n f t) x=cf n f x+b1 (t==x):=by unfold cf;rw[bD,hV (q:=λk=>f k==x) λi b=>by unfold hO;rw[gY b];rfl];unfold hO;rw[kZ (bc _)];rfl
theorem MV {n:Nat} {f:Nat->Int} {x:Int} (h:0<n):cf (n -1) (λq=>f (q+1)) x+b1 (f 0==x)=cf n f x:=by obtain⟨m,rfl⟩:∃m,n=m+1:=⟨n -1,by omega⟩;unfold cf;rw[Gj (m:=m)];exact jZ _ _
theorem K4 {n i:Nat} {f:Nat->Int} {x:Int} (h:i<n):cf (n -1) (lV f i) x+b1 (f i==x)=cf n f x:=by obtain⟨m,rfl⟩:∃m,n=m+1:=⟨n -1,by omega⟩;unfold cf;rw[K8 (m:=m) (i:=i) (by omega)];show bD m _+_=_;congr 1;refine hV λk _=>?_;unfold lV;cases Nat.blt k i<;>rfl
theorem K5 {n c:Nat} {f:Nat->Int} {v x:Int} (h:c<n):cf n (aj f c v) x+b1 (f c==x)=cf n f x+b1 (v==x):=by
 unfold cf
 induction n with
 |zero=>exact absurd h (dS _)
 |succ n b=>
  unfold bD;dsimp only;rcases bR c n with e|e
  ·have:=b e;rw[bh (show n≠c by omega)];omega
  ·obtain rfl:c=n:=by omega
   rw[bg,hV (q:=λk=>f k==x) λi d=>by rw[bh (show i≠c by omega)]];unfold b1;omega
theorem ym {n a m:Nat} {ln:Nat->Nat} {l:Nat->Nat->Int} {g:Nat->Int} {x:Int} (h:a<n):cP n (aj ln a m) (aj l a g) x+cf (ln a) (l a) x=cP n ln l x+cf m g x:=by
 unfold cP;rw[<-K7 (f:=λi=>cf (ln i) (l i) x) (v:=cf m g x) h];congr 1;refine ye λi _=>?_;rcases aT (i=a)with e|e
 ·subst e;rw[bg,bg,bg]
 ·rw[bh e,bh e,bh e]
theorem A_ {n:Nat} {ln:Nat->Nat} {l:Nat->Nat->Int} {x:Int}:cP n ln l x=0↔∀i,i<n->∀k,k<ln i->l i k≠x:=by
 unfold cP;rw[yo];constructor
 ·intro h i b k c e;have:=kJ.1 (h i b) k c;rw[e]at this;simp at this
 ·intro h i b;exact kJ.2 λk c=>beq_eq_false_iff_ne.2 (h i b k c)
theorem yn {n:Nat} {f:Nat->Int} {x:Int}:cf n f x=0↔∀k,k<n->f k≠x:=by unfold cf;rw[kJ];exact⟨λh k b=>by have:=h k b;simpa using this,λh k b=>beq_eq_false_iff_ne.2 (h k b)⟩
theorem Fy {n k:Nat} {f:Nat->Int} {x:Int} (b:k<n) (h:f k=x):0<cf n f x:=qv b (beq_iff_eq.2 h)
theorem JQ {n a:Nat} {ln:Nat->Nat} {l:Nat->Nat->Int} {x:Int} (h:a<n):cf (ln a) (l a) x<=cP n ln l x:=by
 unfold cP
 induction n with
 |zero=>exact absurd h (dS _)
 |succ n b=>
  unfold iL;dsimp only;rcases bR a n with e|e
  ·have:=b e;omega
  ·obtain rfl:a=n:=by omega
   omega
theorem wC {n:Nat} {l:Nat->Int} {x:Int}:cK n l x=true↔cf n l x≠0:=by
 unfold cK;rw[ly];constructor
 ·rintro ⟨k,b,h⟩;have:=Fy b (eq_of_beq h);omega
 ·intro h;refine fN λc=>h (yn.2 λk b e=>c ⟨k,b,beq_iff_eq.2 e⟩)
def ee (W:Wd):List Nat:= [W.ay,W.ak,W.ao,W.aO,W.aX,W.aP,W.aC,W.aR,W.aQ,W.aL]
theorem bQ.cg {W W':Wd} (h:bQ W) (e:ee W'=ee W) (l:W'.time=W.time):bQ W':=by simp only[ee,pN,and_true]at e;obtain⟨n,o,e3,e4,p,q,r,t,u,b⟩:=e;obtain⟨h1,h2,v,x,y,z,A,B,C,c,d,g,i,j,k⟩:=h;exact⟨by omega,by omega,by omega,by omega,by omega,by omega,by omega,by omega,by omega,by omega,by omega,by omega,by omega,by omega,by omega⟩
structure PL (W:Wd) (f:Nat):Prop where
 dr:(W.tasks f).st=2\/(W.tasks f).st=3\/(W.tasks f).st=4->cB W f=1/\cu W f=0/\bK W (W.tasks f).loc=7/\cK (W.ah (W.tasks f).loc.toNat) (W.lines (W.tasks f).loc.toNat) f=true
 bl:(W.tasks f).st=6->cB W f=1/\cu W f=0/\bK W (W.tasks f).loc=8/\cK (W.ah (W.tasks f).loc.toNat) (W.lines (W.tasks f).loc.toNat) f=true
 rd:(W.tasks f).st=1->cB W f=0/\cu W f=1/\(W.tasks f).loc= -1
 no:(W.tasks f).st≠1->(W.tasks f).st≠2->(W.tasks f).st≠3->(W.tasks f).st≠4->(W.tasks f).st≠6->cB W f=0/\cu W f=0/\(W.tasks f).loc= -1
theorem PL.iff {W:Wd} {f:Nat}:lW W f=true↔PL W f:=by
 unfold lW qD;dsimp only;constructor
 ·intro h;refine⟨λhs=>?_,λhs=>?_,λhs=>?_,λh1 h2 d g i=>?_⟩
  ·have e:((W.tasks f).st==2||(W.tasks f).st==3||(W.tasks f).st==4)=true:=by rcases hs with e|e|e<;>rw[e]<;>rfl
   rw[e]at h;simpa [and_assoc]using h
  ·rw[hs]at h;simpa [and_assoc]using h
  ·rw[hs]at h;simpa [and_assoc]using h
  ·rw[beq_eq_false_iff_ne.2 h1,beq_eq_false_iff_ne.2 h2,beq_eq_false_iff_ne.2 d,beq_eq_false_iff_ne.2 g,beq_eq_false_iff_ne.2 i]at h;simpa [and_assoc]using h
 ·intro h;cases e:((W.tasks f).st==2||(W.tasks f).st==3||(W.tasks f).st==4)with
  |true=>simp only[cM,beq_iff_eq,or_assoc]at e;simpa [and_assoc]using h.dr e
  |false=>
   simp only[bX,beq_eq_false_iff_ne]at e;cases b:(W.tasks f).st==6 with
   |true=>simpa [and_assoc]using h.bl (eq_of_beq b)
   |false=>
    cases c:(W.tasks f).st==1 with
    |true=>simpa [and_assoc]using h.rd (eq_of_beq c)
    |false=>simpa [and_assoc]using h.no (beq_eq_false_iff_ne.1 c) e.1.1 e.1.2 e.2 (beq_eq_false_iff_ne.1 b)
structure TS (X:Nat->Prop) (W:Wd):Prop where
 z:bQ W
 bl:∀f,f<W.ak->W.kinds f≠6->W.tasks f=aF.blank
 nm:∀f,f<W.ak->W.kinds f=6->gV (W.tasks f)=false/\fk W (W.tasks f)=false/\fx W (W.tasks f)=true
 ow:∀f,f<W.ak->W.kinds f=6->(W.tasks f).ar≠ -1->(¬X (W.tasks f).ar.toNat->(W.tasks (W.tasks f).ar.toNat).st=5)/\(¬X f->(W.tasks f).st≠4)
 o1:∀f,f<W.ak->W.kinds f=6->bV W f<=1/\(¬X f->(bV W f=1↔(W.tasks f).st=5))
 so:∀f,f<W.ak->W.kinds f=6->¬X f->PL W f
 ln:∀f,f<W.ak->fg W f=true
 co:∀c,c<W.aC->eK W c=true
 rl:∀i,i<W.aR->gn W i=true
theorem TS.of {W:Wd} (z:bQ W) (g:∀f,f<W.ak->eN W f=true) (hl:∀f,f<W.ak->fg W f=true) (j:∀c,c<W.aC->eK W c=true) (k:∀i,i<W.aR->gn W i=true):TS (λ_=>False) W:=by
 have e:∀f,f<W.ak->W.kinds f=6->gV (W.tasks f)=false/\fk W (W.tasks f)=false/\fx W (W.tasks f)=true/\qP W (W.tasks f)=true/\pO W f=true/\lW W f=true:=λf b d=>by have h:=g f b;unfold eN at h;rw[d]at h;simp only[bne_self_eq_false,cond_false,aW,dT]at h;exact⟨h.1.1.1.1.1,h.1.1.1.1.2,h.1.1.1.2,h.1.1.2,h.1.2,h.2⟩
 refine⟨z,λf b d=>?_,λf b d=>⟨(e f b d).1,(e f b d).2.1,(e f b d).2.2.1⟩,λf b d ho=>?_,λf b d=>?_,λf b d _=>PL.iff.1 (e f b d).2.2.2.2.2,hl,j,k⟩
 ·have h:=g f b;unfold eN at h;rw[bne_iff_ne.2 d]at h;exact K6 h
 ·have h:=(e f b d).2.2.2.1;unfold qP at h;simp only[cM,aW,beq_iff_eq,bne_iff_ne]at h;have h:=h.resolve_left ho;exact⟨λ_=>h.1,λ_=>h.2⟩
 ·have h:=(e f b d).2.2.2.2.1;unfold pO at h;simp only[aW,decide_eq_true_eq,beq_iff_eq]at h;refine⟨h.1,λ_=>?_⟩;have h2:=h.2;rw[lJ]at h2;simpa using h2
theorem TS.tk {W:Wd} (h:TS (λ_=>False) W):∀f,f<W.ak->eN W f=true:=λf c=>by
 unfold eN;rcases aT (W.kinds f=6)with b|b
 ·obtain⟨d,g,i⟩:=h.nm f c b;have o:=h.o1 f c b;have s:=PL.iff.2 (h.so f c b id);rw[b];simp only[bne_self_eq_false,cond_false];have ow:qP W (W.tasks f)=true:=by
   unfold qP;rcases aT ((W.tasks f).ar= -1)with e|e
   ·rw[e];rfl
   ·have:=h.ow f c b e;rw[this.1 id,bne_iff_ne.2 (this.2 id)];simp
  have j:pO W f=true:=by unfold pO;rw[decide_eq_true o.1];have:=o.2 id;simp only[qO,beq_iff_eq];rw[lJ];simpa using this
  rw[d,g,i,ow,j,s];rfl
 ·rw[bne_iff_ne.2 b,h.bl f c b];exact TR _
theorem TS.wk {X Y:Nat->Prop} {W:Wd} (h:TS X W) (b:∀f,X f->Y f):TS Y W:=
 ⟨h.z,h.bl,h.nm,λf c d ho=>⟨λe=>(h.ow f c d ho).1 λg=>e (b _ g),λe=>(h.ow f c d ho).2 λg=>e (b _ g)⟩,λf c d=>⟨(h.o1 f c d).1,λe=>(h.o1 f c d).2 λg=>e (b _ g)⟩,λf c d e=>h.so f c d λg=>e (b _ g),h.ln,h.co,h.rl⟩
theorem TS.lv {X Y:Nat->Prop} {W:Wd} (h:TS X W) (p:∀f,f<W.ak->W.kinds f=6->X f->¬Y f->(bV W f=1↔(W.tasks f).st=5)/\PL W f/\((W.tasks f).ar≠ -1->(W.tasks f).st≠4)):TS Y W:=by
 have d:∀f,f<W.ak->W.kinds f=6->¬Y f->(bV W f=1↔(W.tasks f).st=5)/\PL W f/\((W.tasks f).ar≠ -1->(W.tasks f).st≠4):=λf b c e=>by
  rcases ta (X f)with g|g
  ·exact p f b c g e
  ·exact⟨(h.o1 f b c).2 g,h.so f b c g,λho=>(h.ow f b c ho).2 g⟩
 refine⟨h.z,h.bl,h.nm,λf b c ho=>⟨λe=>?_,λe=>(d f b c e).2.2 ho⟩,λf b c=>⟨(h.o1 f b c).1,λe=>(d f b c e).1⟩,λf b c e=>(d f b c e).2.1,h.ln,h.co,h.rl⟩;have l:=(h.nm f b c).2.2;unfold fx okF at l;simp only[aW,cM,beq_iff_eq]at l;have o:=l.2.resolve_left ho;have n:=gv (W:=W) (f:=(W.tasks f).ar) (by rw[o];decide);have j:W.kinds (W.tasks f).ar.toNat=6:=by rw[<-eY n,o]
 have k:(W.tasks f).ar.toNat<W.ak:=by omega
 have q:=h.z.tasks;have hp:0<bV W (W.tasks f).ar.toNat:=qv (i:=f) (by omega) (by rw[beq_iff_eq];omega);have:=(h.o1 _ k j).1;exact(d _ k j e).1.1 (by omega)
theorem dY {W:Wd} {f:Nat}:fg W f=true↔((0<W.ah f->W.kinds f=7\/W.kinds f=8)/\(W.bits f≠0->W.kinds f=8/\W.ah f=0)/\(0<=W.bits f/\W.bits f<=65535)/\∀k,k<W.ah f->(0<=W.lines f k/\W.lines f k<W.ak)/\W.kinds (W.lines f k).toNat=6/\(W.tasks (W.lines f k).toNat).loc=f/\jq W (W.lines f k)=jq W (W.lines f 0)):=by
 unfold fg;simp only[aW,dT,jX];constructor
 ·rintro ⟨⟨⟨h1,h2⟩,n⟩,j⟩;refine⟨λhl=>?_,λo=>?_,dO n,λk l=>?_⟩
  ·rw[decide_eq_true hl]at h1;simp only[qO,pI,bne_eq_false_iff_eq]at h1;exact h1
  ·rw[bne_iff_ne.2 o]at h2;simp only[qO,bX,bne_eq_false_iff_eq,decide_eq_false_iff_not]at h2;exact⟨h2.1,by omega⟩
  ·have h:=j k l;unfold j8 at h;simp only[aW,beq_iff_eq]at h;have i:=gv (W:=W) (f:=W.lines f k) (by rw[h.1.1];decide);exact⟨i,by rw[<-eY i];exact h.1.1,h.1.2,h.2⟩
 ·rintro ⟨h1,h2,n,j⟩;refine⟨⟨⟨?_,?_⟩,?_⟩,λk l=>?_⟩
  ·rcases ja (W.ah f)with e|e
   ·rw[e];rfl
   ·rcases h1 e with g|g<;>rw[g]<;>simp
  ·rcases aT (W.bits f=0)with e|e
   ·rw[e];rfl
   ·rw[(h2 e).1,(h2 e).2];simp
  ·unfold az;simp only[bX,decide_eq_false_iff_not];omega
  ·obtain⟨a,b,c,d⟩:=j k l;unfold j8;rw[eY a,b,c,d];simp
def RD (W:Wd) (t c p:Int):Prop:=(0<=t/\t<W.ak)/\W.kinds t.toNat=6/\(W.tasks t.toNat).st=1/\(W.tasks t.toNat).core=c/\(0<=p->(W.tasks t.toNat).prio=p)
theorem RD.iff {W:Wd} {t c p:Int}:eS W t c p=true↔RD W t c p:=by
 constructor
 ·intro h;obtain⟨a,b,c,d,e⟩:=CQ h;exact⟨a,by rw[<-eY a];exact b,c,d,e⟩
 ·rintro ⟨a,b,c,d,e⟩;unfold eS;rw[eY a,b,c,d];rcases tv p 0 with h|h
  ·rw[decide_eq_true h];simp
  ·rw[e h];simp
theorem jv {W:Wd} {c:Nat}:eK W c=true↔(W.ai c≠ -1->RD W (W.ai c) c (-1)):=by unfold eK;rw[cM,beq_iff_eq,RD.iff];exact⟨λh b=>h.resolve_left b,λh=>(aT _).elim .inl λb=> .inr (h b)⟩
theorem iG {W:Wd} {i:Nat}:gn W i=true↔∀k,k<W.al i->RD W (W.ready i k) ((i/4:Nat):Int) ((i%4:Nat):Int):=by unfold gn;rw[jX];exact⟨λh k b=>RD.iff.1 (h k b),λh k b=>RD.iff.2 (h k b)⟩
theorem E5 {W:Wd} {t:Nat} (h:cB W t=0) {f k:Nat} (b:f<W.aX) (c:k<W.ah f):W.lines f k≠t:=A_.1 h f b k c
theorem BG {W:Wd} {t:Nat} (h:cu W t=0):(∀i k,i<W.aR->k<W.al i->W.ready i k≠t)/\∀c,c<W.aC->W.ai c≠t:=by unfold cu at h;exact⟨λi k b d=>A_.1 (by omega) i b k d,λc e=>yn.1 (by omega) c e⟩
theorem toNat_eq {x:Int} {t:Nat} (h:0<=x) (e:x.toNat=t):x=t:=by omega
theorem TS.all {X:Nat->Prop} {W:Wd} {T:Nat->aF} (h:TS X W) (I:∀f,f<W.ak->W.kinds f≠6->T f=aF.blank)
 (v:∀f,f<W.ak->W.kinds f=6->gV (T f)=false/\fk W (T f)=false/\fx W (T f)=true/\(T f).ar=(W.tasks f).ar/\
   ((X f/\cB W f=0/\cu W f=0)\/((T f).st=(W.tasks f).st/\(T f).loc=(W.tasks f).loc/\(T f).core=(W.tasks f).core/\((T f).prio=(W.tasks f).prio\/∀i k,i<W.aR->k<W.al i->W.ready i k≠f)))):TS X {W with tasks:=T}:=by
 have z:=h.z;have zt:=z.tasks;have B:∀i,i<W.ak->(T i).ar=(W.tasks i).ar:=λi r=>by
  rcases aT (W.kinds i=6)with e|e
  ·exact(v i r e).2.2.2.1
  ·rw[I i r e,h.bl i r e]
 have C:∀{f:Nat},f<W.ak->W.kinds f=6->(W.tasks f).ar≠ -1->(W.tasks f).ar.toNat<W.ak/\W.kinds (W.tasks f).ar.toNat=6:=λ{f} n v ho=>by have E:=(h.nm f n v).2.2;unfold fx okF at E;simp only[aW,cM,beq_iff_eq]at E;have o:=E.2.resolve_left ho;have r:=gv (W:=W) (f:=(W.tasks f).ar) (by rw[o];decide);exact⟨by omega,by rw[<-eY r];exact o⟩
 have p:∀i,i<W.ak->W.kinds i=6->¬(X i/\cB W i=0/\cu W i=0)->(T i).st=(W.tasks i).st/\(T i).loc=(W.tasks i).loc/\(T i).core=(W.tasks i).core/\((T i).prio=(W.tasks i).prio\/∀j k,j<W.aR->k<W.al j->W.ready j k≠i):=λi r l t=>(v i r l).2.2.2.2.resolve_left t;refine⟨z.cg rfl rfl,I,λf n l=>?_,λf n l x=>?_,λf n l=>?_,λf n l t=>?_,λf n=>?_,λc J=>?_,λi r=>?_⟩
 ·obtain⟨a,b,c,_⟩:=v f n l;exact⟨a,b,c⟩
 ·have x:(T f).ar≠ -1:=x;rw[B f n]at x;have h1:=h.ow f n l x;show(¬X (T f).ar.toNat->(T (T f).ar.toNat).st=5)/\(¬X f->(T f).st≠4);rw[B f n];obtain⟨O,R⟩:=C n l x;refine⟨λt=>?_,λt=>?_⟩
  ·rw[(p _ O R λu=>t u.1).1];exact h1.1 t
  ·rw[(p f n l λu=>t u.1).1];exact h1.2 t
 ·have n:f<W.ak:=n;have e:bV {W with tasks:=T} f=bV W f:=hV λi r=>by have r:i<W.aO:=r;show((T i).ar==(f:Int))=_;rw[B i (by omega)]
  rw[e];refine⟨(h.o1 f n l).1,λt=>?_⟩;show _↔(T f).st=5;rw[(p f n l λu=>t u.1).1];exact(h.o1 f n l).2 t
 ·have n:f<W.ak:=n;obtain⟨y,A,_⟩:=p f n l λu=>t u.1;obtain⟨p1,S,U,V⟩:=h.so f n l t;refine⟨?_,?_,?_,?_⟩
  ·show(T f).st=2\/(T f).st=3\/(T f).st=4->cB W f=1/\cu W f=0/\bK W (T f).loc=7/\cK (W.ah (T f).loc.toNat) (W.lines (T f).loc.toNat) f=true;rw[y,A];exact p1
  ·show(T f).st=6->cB W f=1/\cu W f=0/\bK W (T f).loc=8/\cK (W.ah (T f).loc.toNat) (W.lines (T f).loc.toNat) f=true;rw[y,A];exact S
  ·show(T f).st=1->cB W f=0/\cu W f=1/\(T f).loc= -1;rw[y,A];exact U
  ·show(T f).st≠1->(T f).st≠2->(T f).st≠3->(T f).st≠4->(T f).st≠6->cB W f=0/\cu W f=0/\(T f).loc= -1;rw[y,A];exact V
 ·have n:f<W.ak:=n;obtain⟨Y,l2,Z,K⟩:=dY.1 (h.ln f n);have hm:∀k,k<W.ah f->(T (W.lines f k).toNat).st=(W.tasks (W.lines f k).toNat).st/\(T (W.lines f k).toNat).loc=(W.tasks (W.lines f k).toNat).loc:=λk o=>by obtain⟨a,b,_⟩:=K k o;have g:=p (W.lines f k).toNat (by omega) b λu=>E5 u.2.1 (by have:=z.lines;omega) o (toNat_eq a.1 rfl);exact⟨g.1,g.2.1⟩
  refine dY.2 ⟨Y,l2,Z,λk o=>?_⟩;have o:k<W.ah f:=o;obtain⟨a,b,c,d⟩:=K k o;refine⟨a,b,(hm k o).2.trans c,?_⟩;show((T (W.lines f k).toNat).st==4)=((T (W.lines f 0).toNat).st==4);rw[(hm k o).1,(hm 0 (by omega)).1];exact d
 ·refine jv.2 λG=>?_;obtain⟨a,b,c',d,e⟩:=jv.1 (h.co c J) G;have g:=p (W.ai c).toNat (by omega) b λu=>(BG u.2.2).2 c J (toNat_eq a.1 rfl);exact⟨a,b,g.1.trans c',g.2.2.1.trans d,λhp=>absurd hp (by decide)⟩
 ·refine iG.2 λk o=>?_;have o:k<W.al i:=o;obtain⟨a,b,c,d,e⟩:=iG.1 (h.rl i r) k o;have g:=p (W.ready i k).toNat (by omega) b λu=>(BG u.2.2).1 i k r o (toNat_eq a.1 rfl);exact⟨a,b,g.1.trans c,g.2.2.1.trans d,λhp=>(g.2.2.2.resolve_right λq=>q i k r o (toNat_eq a.1 rfl)).trans (e hp)⟩
theorem TS.S2 {X:Nat->Prop} {W:Wd} {T:Nat->aF} (h:TS X W) (e:∀f,f<W.ak->T f=W.tasks f):TS X {W with tasks:=T}:=
 h.all (λf d g=>by rw[e f d];exact h.bl f d g) λf d g=>by obtain⟨a,b,c⟩:=h.nm f d g;rw[e f d];exact⟨a,b,c,rfl,.inr ⟨rfl,rfl,rfl,.inl rfl⟩⟩
theorem TS.set {X:Nat->Prop} {W:Wd} {t:Nat} {r:aF} (h:TS X W) (p:t<W.ak) (l:W.kinds t=6) (n:gV r=false) (o:fk W r=false) (g:fx W r=true) (ho:r.ar=(W.tasks t).ar)
 (hs:(X t/\cB W t=0/\cu W t=0)\/(r.st=(W.tasks t).st/\r.loc=(W.tasks t).loc/\r.core=(W.tasks t).core/\(r.prio=(W.tasks t).prio\/∀i k,i<W.aR->k<W.al i->W.ready i k≠t))):TS X {W with tasks:=aj W.tasks t r}:=
 h.all (λf j d=>by rw[bh λe=>d (by rw[e];exact l)];exact h.bl f j d) λf j d=>by
  rcases aT (f=t)with e|e
  ·subst e;rw[bg];exact⟨n,o,g,ho,hs⟩
  ·obtain⟨a,b,c⟩:=h.nm f j d;rw[bh e];exact⟨a,b,c,rfl,.inr ⟨rfl,rfl,rfl,.inl rfl⟩⟩
theorem TS.lists {X:Nat->Prop} {W W':Wd} (h:TS X W) (ec:ee W'=ee W) (et:W'.time=W.time) (j:W'.kinds=W.kinds) (es:W'.tasks=W.tasks)
 (r:∀f,f<W.ak->¬X f->cB W' f=cB W f/\cu W' f=cu W f/\∀a,a<W.aX->cK (W.ah a) (W.lines a) f=true->cK (W'.ah a) (W'.lines a) f=true)
 (hl:∀f,f<W.ak->fg W' f=true) (t:∀c,c<W.aC->eK W' c=true) (u:∀i,i<W.aR->gn W' i=true):TS X W':=by
 have z:=h.z;have l:=ec;simp only[ee,pN,and_true]at l;obtain⟨c1,g,J,v,K,O,o,y,c9,A⟩:=l;have ko:∀x,bK W' x=bK W x:=λx=>by unfold bK;rw[j,g]
 refine⟨z.cg ec et,?_,?_,?_,?_,?_,?_,?_,?_⟩
 ·rw[g,j,es];exact h.bl
 ·rw[g,j,es];intro f k n;obtain⟨a,b,c⟩:=h.nm f k n;refine⟨a,?_,?_⟩
  ·unfold fk at b⊢;rw[o];exact b
  ·unfold fx okF at c⊢;simp only[ko];exact c
 ·rw[g,j,es];exact h.ow
 ·rw[g,j,es];intro f k n;have e:bV W' f=bV W f:=by unfold bV;rw[es,v]
  rw[e];exact h.o1 f k n
 ·rw[g,j];intro f k n p;obtain⟨B,C,q⟩:=r f k p;obtain⟨p1,E,G,I⟩:=h.so f k n p;have R:=z.lines;refine⟨?_,?_,?_,?_⟩<;>rw[es,B,C]
  ·intro hs;obtain⟨a,b,c,d⟩:=p1 hs;have:=gv (W:=W) (f:=(W.tasks f).loc) (by rw[c];decide);exact⟨a,b,by rw[ko];exact c,q _ (by omega) d⟩
  ·intro hs;obtain⟨a,b,c,d⟩:=E hs;have:=gv (W:=W) (f:=(W.tasks f).loc) (by rw[c];decide);exact⟨a,b,by rw[ko];exact c,q _ (by omega) d⟩
  ·exact G
  ·exact I
 ·rw[g];exact hl
 ·rw[o];exact t
 ·rw[y];exact u
def oh (t:aF):Int:=t.core*4+t.prio
def ef (t:aF):Nat:=(oh t).toNat
def iS (W:Wd) (t i:Nat):aF:=aj W.tasks t {W.tasks t with st:=1,loc:= -1} i
def iz (W:Wd) (t i:Nat):Nat:=aj W.al (ef (W.tasks t)) (W.al (ef (W.tasks t))+1) i
def iT (W:Wd) (t i k:Nat):Int:=aj W.ready (ef (W.tasks t)) (hO (W.al (ef (W.tasks t))) (W.ready (ef (W.tasks t))) t) i k
def cz (W:Wd) (t:Nat):Wd:={W with tasks:=iS W t,al:=iz W t,ready:=iT W t}
def pZ (W:Wd):Int:=W.aA (W.time/4%W.aL).toNat
theorem adz {z:Int} (h1:0<=z) (h2:z<=1000000000):IntKind.i64.wrap z=z:=by rw[IntKind.wrap_i64];omega
theorem PJ {n k:Nat} {f:Nat->Int} {x:Int} (h:k<n+1):(bif k.blt n then f k else[x].getD (k -n) 0)=hO n f x k:=by
 unfold hO;rcases bR k n with h1|h1
 ·rw[gY h1];rfl
 ·obtain rfl:k=n:=by omega
  rw[kZ (bc _),Nat.sub_self];rfl
theorem cE {x y:aF} (h:x=y):((((((((((((((((((((x.r0=y.r0/\x.r1=y.r1)/\x.r2=y.r2)/\x.r3=y.r3)/\x.r4=y.r4)/\x.r5=y.r5)/\x.r6=y.r6)/\x.r7=y.r7)/\x.pc=y.pc)/\x.st=y.st)/\x.prio=y.prio)/\x.node=y.node)/\x.space=y.space)/\x.helper=y.helper)/\x.loc=y.loc)/\x.word=y.word)/\x.aH=y.aH)/\x.ar=y.ar)/\x.core=y.core)/\x.cI=y.cI)):=by subst h;exact⟨⟨⟨⟨⟨⟨⟨⟨⟨⟨⟨⟨⟨⟨⟨⟨⟨⟨⟨rfl,rfl⟩,rfl⟩,rfl⟩,rfl⟩,rfl⟩,rfl⟩,rfl⟩,rfl⟩,rfl⟩,rfl⟩,rfl⟩,rfl⟩,rfl⟩,rfl⟩,rfl⟩,rfl⟩,rfl⟩,rfl⟩,rfl⟩
theorem PY {W:Wd} {t j:Nat}:(bif j.beq (ef (W.tasks t))then W.al (ef (W.tasks t))+1 else W.al j)=iz W t j:=rfl
theorem PZ {W:Wd} {t j k:Nat} {x:Int} (b:x=(t:Int)) (h:k<iz W t j):(bif j.beq (ef (W.tasks t))then bif k.blt (W.al (ef (W.tasks t)))then W.ready (ef (W.tasks t)) k else[x].getD (k -W.al (ef (W.tasks t))) 0 else W.ready j k)=iT W t j k:=by
 subst b;unfold iT;rcases aT (j=ef (W.tasks t))with e|e
 ·rw[e]at h⊢;rw[cy,bg];refine PJ ?_;unfold iz at h;rw[bg]at h;exact h
 ·rw[dt e,bh e];rfl
structure fp (W:Wd) (t:Int):Prop where
 t0:0<=t
 t1:t<W.aO
 r0:0<=oh (W.tasks t.toNat)
 r1:oh (W.tasks t.toNat)<W.aR
 c0:0<=(W.tasks t.toNat).core
 c1:(W.tasks t.toNat).core<=100
 p0:0<=(W.tasks t.toNat).prio
 p1:(W.tasks t.toNat).prio<=100
 n:W.al (ef (W.tasks t.toNat))<=100000
structure NN where
 (W:Wd)
def NO:Sy.Spec:=⟨NN,λ⟨W⟩=> [dN W],λ_=> [],λ⟨W⟩=>1<=W.aL/\W.aL<=100/\0<=W.time/\W.time<=100000000,λ⟨W⟩=> .v (.int .i64 (pZ W)),λ_=> [],
 λargs mem=>match args with| [a0]=>some ⟨dJ a0⟩|_=>none⟩
def Yh:aZ:=⟨[],(NO).g,none⟩
def NP:NN->Prop:=λ⟨W⟩=>let a0:Int:=W.time/4;let b0:=((W.aL:Nat):Int);let c0:Int:=a0%b0;tn 8 ((0<=W.time/\(0:Int)<4/\aw a0=a0)/\tn 5 ((0<=a0/\0<b0)/\(0<=c0/\c0<b0)/\W.aA (Int.toNat c0)=pZ W/\True))
theorem L8:aY Tryz.prog bk 50 Yh:=bn .nil false Tryz.call50 Tryz.func50 (λ_=> []) (V:=NP) (λ_=>by kernel_rfl) λ⟨W⟩ hp=>by
 dsimp only[NO]at hp;dsimp only[NP,tn,aw,aB,aJ,aK,aG];simp only[bq,bx,eq_self,implies_true,bo]
 try simp only[dI]
 obtain⟨h1,h2,b,c⟩:=hp;have a0:0<=W.time/4:=Hq b (by decide);have a1:W.time/4<=W.time:=Hr _ b;refine⟨⟨b,by decide,adz a0 (by omega)⟩,⟨a0,by omega⟩,⟨wR _ (by omega),CS _ (by omega)⟩,rfl⟩
structure Cm where
 (t:Int) (W:Wd)
def Gx:Sy.Spec:=⟨Cm,λ⟨t,_⟩=> [.ptr 0 0 none 0 0,.v (.int .i64 t)],λ⟨_,W⟩=>cL W,λ⟨t,W⟩=>fp W t,λ_=> .tp 0 (aN []),λ⟨t,W⟩=>cL (cz W t.toNat),
 λargs mem=>match args with| [a0,a1]=>some ⟨av (a1),fW mem 0⟩|_=>none⟩
def Yi:aZ:=⟨[true],(Gx).g,none⟩
def NQ:Cm->Prop:=λ⟨t,W⟩=>let a0:=0<=t/\t<((W.aO:Nat):Int);let b0:=Int.toNat t;let c0:=W.tasks (0+b0);let d0:Int:=c0.core*4;let e0:Int:=d0+c0.prio;let c:=0<=e0/\e0<((W.aR:Nat):Int);let h0:=0+Int.toNat e0;let k0:=W.al h0;let b:=true=true;let o0:=True/\b;let d:=k0+1;a0/\(∀h:Nat,false=false)/\a0/\(∀v0:Nat,false=false)/\tn 5 (a0/\tn 2 (aw d0=d0/\tn 5 (a0/\tn 2 (aw e0=e0/\tn 11 (c/\True/\(k0*8<=140737488355328/\(∀w0:Nat,b))/\tn 2 (tn 2 True/\(((∀i:Nat,o0)/\(∀j:Nat,o0)/\True)/\(k0+1)*8<=140737488355328/\(∀z0:Nat,b))/\(d*8<=140737488355328/\(∀a1:Nat,b))/\c/\(∀b1:Nat,Nat.beq 1 1=true)/\True/\aB {W with tasks:=λc1:Nat=>let d1:=W.tasks c1;{d1 with st:=cond (Nat.beq c1 (0+b0)) 1 d1.st,loc:=cond (Nat.beq c1 (0+b0)) (-1) d1.loc},al:=λe:Nat=>cond (Nat.beq e h0) d (W.al e),ready:=λg:Nat=>λh1:Nat=>cond (Nat.beq g h0) (cond (Nat.blt h1 k0) (W.ready h0 (0+(0+h1))) (List.getD [t] (0+(h1-k0)) 0)) (W.ready g h1)} {W with tasks:=iS W b0,al:=iz W b0,ready:=iT W b0} True))))))
theorem Wz:aY Tryz.prog bk 47 Yi:=bn .nil false Tryz.call47 Tryz.func47 (λ_=> []) (V:=NQ) (λ_=>by kernel_rfl) λ⟨t,W⟩ hp=>by
 dsimp only[Gx]at hp;dsimp only[NQ,tn,aw,aB,aJ,aK,aG];simp only[bq,bx,eq_self,implies_true,bo]
 try simp only[dI]
 obtain⟨t0,t1,r0,r1,c0,c1,p0,p1,b⟩:=hp;have et:t=(t.toNat:Int):=by omega
 have w1:IntKind.i64.wrap ((W.tasks t.toNat).core*4)=(W.tasks t.toNat).core*4:=du (by omega) (by omega);have c:IntKind.i64.wrap ((W.tasks t.toNat).core*4+(W.tasks t.toNat).prio)=(W.tasks t.toNat).core*4+(W.tasks t.toNat).prio:=du (by omega) (by omega);have g:W.al ((W.tasks t.toNat).core*4+(W.tasks t.toNat).prio).toNat<=100000:=b;have ls:∀j,j<W.aR->_:=λj _=>And.intro (PY (W:=W) (t:=t.toNat) (j:=j)) (λk d=>PZ (W:=W) (t:=t.toNat) (j:=j) (k:=k) et d);refine⟨⟨t0,t1⟩,⟨t0,t1⟩,⟨t0,t1⟩,w1,⟨t0,t1⟩,c,⟨r0,r1⟩,by omega,by omega,by omega,⟨r0,r1⟩,λ_=>rfl,λj _=>by
  rcases aT (j=t.toNat)with h|h
  ·subst h;simp only[cy,cond_true];unfold iS;rw[bg];exact⟨⟨⟨⟨⟨⟨⟨⟨⟨⟨⟨⟨⟨⟨⟨⟨⟨⟨⟨rfl,rfl⟩,rfl⟩,rfl⟩,rfl⟩,rfl⟩,rfl⟩,rfl⟩,rfl⟩,rfl⟩,rfl⟩,rfl⟩,rfl⟩,rfl⟩,rfl⟩,rfl⟩,rfl⟩,rfl⟩,rfl⟩,rfl⟩
  ·simp only[dt h,cond_false];unfold iS;rw[bh h];exact cE rfl,λj e=>ls j e⟩
structure oG where
 (t:Int) (W:Wd)
def wT:Sy.Spec:=⟨oG,λ⟨t,_⟩=> [.ptr 0 0 none 0 0,.v (.int .i64 t)],λ⟨_,W⟩=>cL W,λ⟨t,W⟩=>fp W t,λ_=> .tp 0 (aN []),λ⟨t,W⟩=>cL (cz W t.toNat),
 λargs mem=>match args with| [a0,a1]=>some ⟨av (a1),fW mem 0⟩|_=>none⟩
def ZW:aZ:=⟨[true],(wT).g,none⟩
def P0:oG->Prop:=λ⟨t,W⟩=>let a0:=Int.toNat t;let b0:=0+a0;let c0:=W.tasks b0;let d0:Int:=c0.core*4;let e0:Int:=d0+c0.prio;let b:=0+Int.toNat e0;let h0:=W.al b;let k0:=h0+1;(0<=t/\t<((W.aO:Nat):Int))/\(∀e:Nat,false=false)/\(∀o0:Nat,false=false)/\tn 8 (aw d0=d0/\tn 4 (aw e0=e0/\(0<=e0/\e0<((W.aR:Nat):Int))/\True/\(True/\k0*8<=140737488355328/\(∀g:Nat,true=true))/\(b=b/\(∀h:Nat,Nat.beq 1 1=true))/\True/\aB {W with tasks:=λv0:Nat=>let w0:=W.tasks v0;{w0 with st:=cond (Nat.beq v0 b0) 1 w0.st,loc:=cond (Nat.beq v0 b0) (-1) w0.loc},al:=λc:Nat=>cond (Nat.beq c b) k0 (W.al c),ready:=λd:Nat=>λz0:Nat=>cond (Nat.beq d b) (cond (Nat.blt z0 h0) (W.ready b (0+z0)) (List.getD [t] (0+(z0-h0)) 0)) (W.ready d z0)} {W with tasks:=iS W a0,al:=iz W a0,ready:=iT W a0} True))
theorem Cl:aY Tryz.prog bk 56 ZW:=bn .nil false Tryz.call56 Tryz.func56 (λ_=> []) (V:=P0) (λ_=>by kernel_rfl) λ⟨t,W⟩ hp=>by
 dsimp only[wT]at hp;dsimp only[P0,tn,aw,aB,aJ,aK,aG];simp only[bq,bx,eq_self,implies_true,bo]
 try simp only[dI]
 obtain⟨t0,t1,r0,r1,c0,c1,p0,p1,b⟩:=hp;have et:t=(t.toNat:Int):=by omega
 have w1:IntKind.i64.wrap ((W.tasks t.toNat).core*4)=(W.tasks t.toNat).core*4:=du (by omega) (by omega);have c:IntKind.i64.wrap ((W.tasks t.toNat).core*4+(W.tasks t.toNat).prio)=(W.tasks t.toNat).core*4+(W.tasks t.toNat).prio:=du (by omega) (by omega);have g:W.al ((W.tasks t.toNat).core*4+(W.tasks t.toNat).prio).toNat<=100000:=b;have ls:∀j,j<W.aR->_:=λj _=>And.intro (PY (W:=W) (t:=t.toNat) (j:=j)) (λk d=>PZ (W:=W) (t:=t.toNat) (j:=j) (k:=k) et d);refine⟨⟨t0,t1⟩,w1,c,⟨r0,r1⟩,by omega,λ_=>rfl,λj _=>by
  rcases aT (j=t.toNat)with h|h
  ·subst h;simp only[cy,cond_true];unfold iS;rw[bg];exact⟨⟨⟨⟨⟨⟨⟨⟨⟨⟨⟨⟨⟨⟨⟨⟨⟨⟨⟨rfl,rfl⟩,rfl⟩,rfl⟩,rfl⟩,rfl⟩,rfl⟩,rfl⟩,rfl⟩,rfl⟩,rfl⟩,rfl⟩,rfl⟩,rfl⟩,rfl⟩,rfl⟩,rfl⟩,rfl⟩,rfl⟩,rfl⟩
  ·simp only[dt h,cond_false];unfold iS;rw[bh h];exact cE rfl,λj e=>ls j e⟩
def Ta:Go.Shelf.Ren:=⟨λ|23=>87|n=>n,λ|22=>22|3=>3|4=>4|0=>0|n=>n,λ|n=>n⟩
theorem Th:Go.Proofs.Lays2.n23 Tryz.prog Ta:={
 mixed:=by kernel_rfl
 f23:=Tryz.func87.trans (congrArg some (by kernel_rfl))
 t0:=Tryz.underlying0
 a0:=Tryz.isAgg0
 z0:=Tryz.sizeOf0
 v0:=Tryz.zeroValue0
 t3:=Tryz.underlying3
 a3:=Tryz.isAgg3
 z3:=Tryz.sizeOf3
 v3:=Tryz.zeroValue3
 t4:=Tryz.underlying4
 a4:=Tryz.isAgg4
 z4:=Tryz.sizeOf4
 v4:=Tryz.zeroValue4
 t22:=Tryz.underlying22
 a22:=Tryz.isAgg22
 z22:=Tryz.sizeOf22
 v22:=Tryz.zeroValue22
 i3:=by kernel_rfl}
open Go.RowKit Go.Lib Go.Sort in
theorem S' (b off n c i j:Nat) (zs:List Int) (w:World) (h:n<=zs.length) (d:n<=c) (hm:c<=9223372036854775807) (g:i<=j) (k:j<=n) (l:∀j,j<zs.length->w.cell? ⟨b,off+j,none⟩=some (.int .i64 (zs.getD j 0))) (o:∀j,j<n->w.frozen? ⟨b,off+j,none⟩=false):
 Calls Tryz.prog 87 #[.slice (some ⟨b,off,none⟩) n c,.int .i64 i,.int .i64 j] w λe w'=>e= .returned (.slice (some ⟨b,off,none⟩) (n -(j -i)) c)/\∃q,w'=(w.drewN q).setCells b off (((zs.take n).take i++(zs.take n).drop j++List.replicate (j -i) 0).map (Value.int .i64)):=Any.slices_Delete_int_cells Th b off n c i j zs w h d hm g k l o
def js (n:Nat) (f:Nat->Int) (i k:Nat):Int:=bif Nat.blt k (n -1)then lV f i k else 0
theorem Yj {n i:Nat} {f:Nat->Int} (b:i<n) {k:Nat} (c:k<n):(((List.range n).map f).take i++((List.range n).map f).drop (i+1)++List.replicate (i+1 -i) 0)[k]? =some (js n f i k):=by
 unfold js lV;rcases bR k i with h|h
 ·rw[gY (show k<n -1 by omega),gY h];rw[mD (by simp;omega),mD (by simp;omega)];simp[List.getElem?_take,h,c]
 ·rcases bR k (n -1)with h2|h2
  ·rw[gY h2,kZ h];rw[mD (by simp;omega),qJ (by simp;omega)];simp only[pG,nH,wU,pJ,Nat.min_eq_left (Nat.le_of_lt b)];rw[show i+1+(k -i)=k+1 by omega];simp[show k+1<n by omega]
  ·rw[kZ h2];obtain rfl:k=n -1:=by omega
   rw[qJ (by simp;omega)];simp only[G2,pG,List.length_drop,nH,wU,Nat.min_eq_left (Nat.le_of_lt b)];rw[show n -1 -(i+(n -(i+1)))=0 by omega,show i+1 -i=1 by omega];rfl
structure Hp where
 (n i:Nat) (f:Nat->Int)
def PX:Sy.Spec:=⟨Hp,λ⟨n,i,_⟩=> [.aS 0 0 none 0 n,.v (.int .i64 i),.v (.int .i64 (i+1))],λ⟨n,_,f⟩=> [.row 1 n (iF f)],λ⟨n,i,_⟩=>i<n,λ⟨n,_,_⟩=> .aS 0 0 none 0 (n -1),λ⟨n,i,f⟩=> [.row 1 n (iF (js n f i))],
 λargs mem=>match args with| [a0,a1,b]=>some ⟨nU mem 0,(av a1).toNat,λi=>av (k_ mem 0 i 0)⟩|_=>none⟩
def ZX:aZ:=⟨[true],PX.g,none⟩
theorem Yg:aY Tryz.prog bk 87 ZX:=py Tryz.call87 λ⟨n,i,f⟩ R w ω vs hG hm hd=>by
 have R:i<n:=R;obtain⟨l⟩:=vs
 match l,hd with
 | [u0,u1,u2],hd=>
   obtain⟨h0,h1,h2,_⟩:=hd;have h1:u1= .int .i64 i:=h1;have h2:u2= .int .i64 (i+1):=h2;subst h1 h2;rcases h0 with h0|⟨_,q,cap,rfl,c1,S,h0⟩
   ·rw[hm.cur]at h0;exact absurd h0 (dS _)
   rcases h0 with h0|⟨L,U,rfl,Y,c4⟩
   ·omega
   obtain⟨r,e1,V,e3,c,T,e4,e5,e6,e7⟩:=hm.row _ _ _ U;obtain rfl:r=⟨1,n,iF f⟩:=(aV e1).symm;have V:1=L.sz:=V;have e3:n=L.dg:=e3;have cell:∀k,k<n->c[L.o+k]? =some (.int .i64 (f k)):=λk t=>by obtain⟨x,Z,W⟩:=e7 k (by omega) 0 (by omega);have W:x= .int .i64 (f k):=W;rw[<-V]at Z;simpa [W]using Z
   have ru:∀k,k<n->L.o+k<c.size:=λk t=>(eZ.1 (cell k t)).1;have z:=S' L.b L.o n cap i (i+1) ((List.range n).map f) w (by simp) c1 (by simpa [maxLen]using S) (by omega) (by omega)
    (λk t=>by
      have t:k<n:=by simpa using t
      simp[World.cell?,e4,cell k t,cD,t])
    (λk t=>by simp[World.frozen?,e4]);have ht:((List.range n).map f).take n=(List.range n).map f:=List.take_of_length_le (by simp);rw[ht]at z;rw[show L.o+0*L.sz=L.o by omega];refine z.mono ?_;rintro e w' ⟨rfl,d,rfl⟩;have I:Cw w (w.drewN d):=⟨rfl,rfl,rfl,bc _,λ_ _=>rfl⟩;have J:=(bz.more hm I).mem;generalize E:(((List.range n).map f).take i++((List.range n).map f).drop (i+1)++List.replicate (i+1 -i) 0).map (Value.int .i64)=xs;have hlen:xs.length=n:=by rw[<-E];simp;omega
   have B:∀v∈xs,v.oneCell'=true:=by intro v hv;rw[<-E]at hv;obtain⟨x,_,rfl⟩:=sZ.1 hv;rfl
   have hx:∀k,k<n->xs[k]? =some (.int .i64 (js n f i k)):=λk t=>by rw[<-E,eX,Yj R t];rfl
   obtain⟨q,ade,w2,g1,g2,_,X⟩:=F8 (P:=Tryz.prog) J (k:=0) (st:=0) (e:=0) (n:=n) (sz:=1) (nn:=n) (f:=iF f) (g:=iF (js n f i)) (u:= .slice (some ⟨L.b,L.o,none⟩) n cap) rfl rfl
    (.inr ⟨by rw[J.cur];rfl,_,cap,rfl,c1,S,.inr ⟨L,U,by simp,Y,c4⟩⟩) (c:=n) (bc _) (by omega) (λ_ _ _=>rfl) (xs:=xs) (by omega) B (λk t j hj=>⟨_,by
      obtain rfl:j=0:=by omega
      simpa using hx k t,rfl⟩);obtain⟨rfl,_,rfl⟩:=Value.slice.inj g1;have K:=g2 _ rfl;have A:=run_storeCells_cells (P:=Tryz.prog) L.b L.o xs 0 (w.drewN d) (λk t=>by
    rw[hlen]at t;simp[World.cell?,e4,cell k t]) (λk t=>by simp[World.frozen?,e4]) B
   rw[K]at A;have hw:w2=(w.drewN d).setCells L.b L.o xs:=by simpa using (Result.ok.inj A).2
   subst hw;have p:=((I.ext ω).trans X.ext);have G:∀k,k<n->jf 1 0 n (iF (js n f i)) (iF f) k 0= .v (.int .i64 (js n f i k)):=λk t=>by have e:rA 0 n k=true:=B1.2 ⟨gf _,by omega⟩;show(match Nat.blt 0 1 with|true=>hY (rA 0 n k) (dE (iF (js n f i) (k -0) 0)) (iF f k 0)|false=>iF f k 0)=_;rw[e];rfl
   have C:aU ((w.drewN d).setCells L.b L.o xs) ω (dh 0 [.row 1 n (iF (js n f i))]):=by
    refine(X.mem.SD (k:=0) (e':=⟨0,0,none,.row 1 n (iF (js n f i))⟩) ⟨rfl,rfl,rfl⟩ (λ_ h=>nomatch h) (λq L' O r hr=>?_)).congr (λk=>?_)
    ·cases q with
     |none=>
      obtain rfl:r=⟨1,n,jf 1 0 n (iF (js n f i)) (iF f)⟩:=(aV hr).symm;refine⟨⟨1,n,iF (js n f i)⟩,rfl,rfl,rfl,λa ha b hb y hy=>?_⟩
      obtain rfl:b=0:=by have:b<1:=hb
                         omega
      show gJ _ _ _ 0 none a 0 (.v (.int .i64 (js n f i a))) y;rw[<-G a ha];exact hy
     |some ij=>exfalso;have hm4:=X.mem.row 0 (some ij) L' O;have:=hm.row 0 (some ij) L' O;obtain⟨r0,h0,_⟩:=this;cases h0
    ·rcases ja k with h|h
     ·subst h;rfl
     ·have h1:ae (dh 0 [.row 1 n (iF (js n f i))]) k=⟨0,0,none,.dead⟩:=by rw[kI,sW (by simp;omega)]
      rw[h1,cF (by omega),cF (by omega)];show _=ae (dh 0 [.row 1 n (iF f)]) k;rw[kI,sW (by simp;omega)]
   refine⟨_,ω,rfl,⟨p.os,p.tape,p.output,p.same,p.free,λ_ h=>h,p.size⟩,C,.inr ⟨by rw[C.cur];rfl,_,cap,by rw[show i+1 -i=1 by omega],by omega,S,.inr ⟨L,U,by simp,Y,by omega⟩⟩,λk l t h=>h⟩
def mZ (W:Wd) (k:Nat):Nat:=dz (W.al k) λi=>(W.tasks (W.ready k i).toNat).cI==pZ W
def dM (W:Wd) (k:Nat):Bool:=Nat.blt (mZ W k) (W.al k)
def ea (W:Wd) (c:Nat):Nat:=bif dM W (c*4+3)then c*4+3 else bif dM W (c*4+2)then c*4+2 else bif dM W (c*4+1)then c*4+1 else c*4
def pb (W:Wd) (c j:Nat):Int:=bif dM W (ea W c)then aj W.ai c (W.ready (ea W c) (mZ W (ea W c))) j else W.ai j
def m5 (W:Wd) (c j:Nat):Nat:=bif dM W (ea W c)then aj W.al (ea W c) (W.al (ea W c) -1) j else W.al j
def og (W:Wd) (c j k:Nat):Int:=bif dM W (ea W c)then aj W.ready (ea W c) (lV (W.ready (ea W c)) (mZ W (ea W c))) j k else W.ready j k
def qa (W:Wd) (c:Nat):Wd:={W with ai:=pb W c,al:=m5 W c,ready:=og W c}
def o_ (W:Wd) (c j:Nat):Int:=aj W.ai c (-1) j
def xw (W:Wd) (c:Nat):Wd:={W with ai:=o_ W c}
def tQ (W:Wd) (c:Nat):Wd:=cz (xw W c) (W.ai c).toNat
def rC (W:Wd) (c:Nat):Bool:=decide (0<=W.ai c)&&(W.tasks (W.ai c).toNat).cI !=pZ W
theorem fp.fre {W:Wd} {t:Int} {c:Nat} (h:fp W t):fp (xw W c) t:=⟨h.t0,h.t1,h.r0,h.r1,h.c0,h.c1,h.p0,h.p1,h.n⟩
def e_ (W:Wd) (c:Nat):Wd:=bif rC W c then tQ W c else W
def aM (W:Wd) (c:Nat):Wd:=bif decide ((e_ W c).ai c<0)then qa (e_ W c) c else e_ W c
theorem Inv.mono {L L':Nat} {W:Wd} (h:Inv L W) (hl:L<=L'):Inv L' W:=
 ⟨h.z,h.af,h.kd,h.dm,h.sl,h.tk,λi b=>⟨ft (h.ln i b).1 hl,(h.ln i b).2⟩,λi b=>⟨ft (h.rd i b).1 hl,(h.rd i b).2⟩,h.co,h.bt,λc d=>ft (h.tl c d) hl⟩
theorem Gw {L:Nat} {W:Wd} {t:Int} (h:Inv L W) (hl:L<=1000) (h0:0<=t) (h1:t<W.aO):fp W t:=by
 have b:=h.tk t.toNat (by omega);have d:=h.z.ready;have e:=h.z.c1;have h2:=b.core;have c:=b.prio;have r0:0<=oh (W.tasks t.toNat):=by unfold oh;omega
 have r1:oh (W.tasks t.toNat)<W.aR:=by unfold oh;omega
 exact⟨h0,h1,r0,r1,h2.1,by omega,c.1,by omega,by have:=(h.rd (ef (W.tasks t.toNat)) (by unfold ef;omega)).1;omega⟩
theorem bQ.of {W W':Wd} (h:bQ W) (e:W'.ak=W.ak/\W'.aC=W.aC/\W'.ay=W.ay/\W'.ao=W.ao/\W'.aO=W.aO/\W'.aX=W.aX/\W'.aP=W.aP/\W'.aR=W.aR/\W'.aQ=W.aQ/\W'.aL=W.aL/\W'.time=W.time):bQ W':=by obtain⟨b,g,e3,e4,p,q,r,t,u,c,d⟩:=e;obtain⟨h1,h2,v,x,y,z,A,B,C,i,j,k,l,n,o⟩:=h;exact⟨by rw[b];exact h1,by rw[b];exact h2,by rw[g];exact v,by rw[g];exact x,by rw[e3,b];exact y,by rw[e4,b];exact z,by rw[p,b];exact A,by rw[q,b];exact B,by rw[r,b];exact C,by rw[t,g];exact i,by rw[u,g];exact j,by rw[c];exact k,by rw[c];exact l,by rw[d];exact n,by rw[d];exact o⟩
theorem fB.of {W W':Wd} {t:aF} (h:fB W t) (b:W'.ak=W.ak) (c:W'.aC=W.aC):fB W' t:=
 ⟨h.cS,h.pc,h.word,h.aH,h.st,h.prio,by rw[c];exact h.core,h.cI,by rw[b];exact h.node,by rw[b];exact h.space,by rw[b];exact h.helper,by rw[b];exact h.loc,by rw[b];exact h.ar⟩
theorem Ya {L:Nat} {W:Wd} {t:Nat} (h:Inv L W) (j:t<W.aO):Inv (L+1) (cz W t):=by
 have l:=h.z.tasks;refine⟨h.z.of ⟨rfl,rfl,rfl,rfl,rfl,rfl,rfl,rfl,rfl,rfl,rfl⟩,h.af,h.kd,h.dm,h.sl,λi b=>?_,λi b=>⟨Nat.le_succ_of_le (h.ln i b).1,(h.ln i b).2⟩,λi b=>?_,h.co,h.bt,λc g=>Nat.le_succ_of_le (h.tl c g)⟩
 ·show fB (cz W t) (iS W t i);refine fB.of (W:=W) ?_ rfl rfl;unfold iS;rcases aT (i=t)with e|e
  ·subst e;rw[bg];have k:=h.tk i b;have:=h.z.k0;exact⟨k.cS,k.pc,k.word,k.aH,by show(0:Int)<=1/\(1:Int)<=6;decide,k.prio,k.core,k.cI,k.node,k.space,k.helper,by show(-1:Int)<= -1/\(-1:Int)<W.ak;omega,k.ar⟩
  ·rw[bh e];exact h.tk i b
 ·show iz W t i<=L+1/\∀k,k<iz W t i->0<=iT W t i k/\iT W t i k<W.aO;have d:=h.rd i b;unfold iz iT;rcases aT (i=ef (W.tasks t))with e|e
  ·rw[<-e,bg,bg];refine⟨by omega,λk n=>?_⟩;unfold hO;rcases bR k (W.al i)with h1|h1
   ·rw[gY h1];exact d.2 k h1
   ·rw[kZ h1];show(0:Int)<=(t:Int)/\(t:Int)<W.aO;omega
  ·rw[bh e,bh e];exact⟨by omega,d.2⟩
theorem Yb {L:Nat} {W:Wd} {c:Nat} (h:Inv L W):Inv L (xw W c):=by
 refine⟨h.z.of ⟨rfl,rfl,rfl,rfl,rfl,rfl,rfl,rfl,rfl,rfl,rfl⟩,h.af,h.kd,h.dm,h.sl,λi b=>fB.of (W:=W) (h.tk i b) rfl rfl,h.ln,h.rd,λj d=>?_,h.bt,h.tl⟩;show -1<=o_ W c j/\o_ W c j<W.aO;unfold o_;rcases aT (j=c)with e|e
 ·subst e;rw[bg];omega
 ·rw[bh e];exact h.co j d
theorem ZR {W:Wd} {c s:Nat} (hs:s<=3) (b:∀q,q<s->dM W (c*4+(3 -q))=false) (h:dM W (c*4+(3 -s))=true):ea W c=c*4+(3 -s):=by
 unfold ea
 match s,hs with
 |0,_=>rw[show dM W (c*4+3)=true from h];rfl
 |1,_=>rw[show dM W (c*4+3)=false from b 0 (by omega),show dM W (c*4+2)=true from h];rfl
 |2,_=>rw[show dM W (c*4+3)=false from b 0 (by omega),show dM W (c*4+2)=false from b 1 (by omega),show dM W (c*4+1)=true from h];rfl
 |3,_=>rw[show dM W (c*4+3)=false from b 0 (by omega),show dM W (c*4+2)=false from b 1 (by omega),show dM W (c*4+1)=false from b 2 (by omega)];rfl
theorem Wv {W:Wd} {c:Nat} (b:∀q,q<4->dM W (c*4+(3 -q))=false):dM W (ea W c)=false:=by unfold ea;rw[show dM W (c*4+3)=false from b 0 (by omega),show dM W (c*4+2)=false from b 1 (by omega),show dM W (c*4+1)=false from b 2 (by omega)];exact b 3 (by omega)
theorem ZS {W:Wd} {c K j k:Nat} (d:ea W c=K) (h:dM W K=true) (b:k<m5 W c j):(bif j.beq K then js (W.al K) (W.ready K) (mZ W K) k else W.ready j k)=og W c j k:=by
 unfold og;unfold m5 at b;rw[d,h]at*
 rcases aT (j=K)with e|e
 ·subst e;have b:k<W.al j -1:=by rw[cond_true,bg]at b;exact b
  rw[cy,cond_true,cond_true,bg];unfold js;rw[gY b];rfl
 ·rw[dt e,cond_false,cond_true,bh e]
theorem Yc {W:Wd} {k:Nat}:decide (0<=fE (W.al k) λg=>(W.tasks (W.ready k g).toNat).cI==pZ W)=dM W k:=by
 unfold fE dM mZ;cases Nat.blt (dz (W.al k) λg=>(W.tasks (W.ready k g).toNat).cI==pZ W) (W.al k)
 ·rfl
 ·exact decide_eq_true (pF _)
theorem Yd {W:Wd} {k:Nat} (h:dM W k=true):(fE (W.al k) λg=>(W.tasks (W.ready k g).toNat).cI==pZ W)=(mZ W k:Nat):=by unfold fE;unfold dM mZ at h;rw[h];rfl
def acf (W:Wd) (c:Nat) (l:List (Nat×SV)) (r:List (Nat×Nat)):cQ where
 σ:=Nat
 rt:=r
 sh s:=(5,.v (.int .i64 (3 -(s:Int))))::l
 mh _:= []
 inv s:=s<=4/\∀q,q<s->dM W (c*4+(3 -q))=false
 μ s:=4 -s
 init:=0
def ZT (z n:Nat) (p:Nat->Bool):cQ where
 σ:=Nat
 rt:= []
 sh i:= [(z,.v (.int .i64 i))]
 mh _:= []
 inv i:=i<=n/\∀j,j<i->p j=false
 μ i:=n -i
 init:=0
structure LZ where
 (c:Int) (W:Wd)
def L0:Sy.Spec:=⟨LZ,λ⟨c,_⟩=> [.ptr 0 0 none 0 0,.v (.int .i64 c)],λ⟨_,W⟩=>cL W,λ⟨c,W⟩=>0<=c/\c<W.aC/\fp W (W.ai c.toNat),λ_=> .tp 0 (aN []),λ⟨c,W⟩=>cL (tQ W c.toNat),
 λargs mem=>match args with| [a0,a1]=>some ⟨av (a1),fW mem 0⟩|_=>none⟩
def Ww:aZ:=⟨[true],(L0).g,none⟩
def L4:LZ->Prop:=λ⟨c,W⟩=>let a0:=0<=c/\c<((W.aC:Nat):Int);let b0:=SV.ptr 0 0 none 0 0;let c0:=Int.toNat c;let d0:=W.ai (0+c0);let e0:={W with ai:=λd:Nat=>cond (Nat.beq d (0+c0)) (-1) (W.ai d)};let h0:=Int.toNat d0;let k0:=xw W c0;let b:=Int.toNat (W.ai c0);a0/\a0/\(∀o0:Nat,false=false)/\((b0=b0/\d0=d0/\True)/\aB e0 e0 True/\wT.match_1 (λg:oG=>Prop) (oG.mk d0 e0) (λr0:Int=>λe:Wd=>fp e r0))/\True/\aB {W with tasks:=iS e0 h0,ai:=λv0:Nat=>cond (Nat.beq v0 (0+c0)) (-1) (W.ai v0),al:=iz e0 h0,ready:=iT e0 h0} {W with tasks:=iS k0 b,ai:=o_ W c0,al:=iz k0 b,ready:=iT k0 b} True
theorem U7:aY Tryz.prog bk 51 Ww:=bn (.cons Cl .nil) false Tryz.call51 Tryz.func51 (λ_=> []) (V:=L4) (λ_=>by kernel_rfl) λ⟨c,W⟩ hp=>by
 dsimp only[L0]at hp;dsimp only[L4,tn,aw,aB,aJ,aK,aG];simp only[bq,bx,eq_self,implies_true,bo]
 try simp only[dI]
 obtain⟨c0,c1,b⟩:=hp;exact⟨⟨c0,c1⟩,⟨c0,c1⟩,b.fre (c:=c.toNat),λj _=>cE rfl,λj _=>rfl,λj _=>⟨rfl,λk _=>rfl⟩⟩
structure PQ where
 (t:Int) (W:Wd) (d:Int)
def PS:Sy.Spec:=⟨PQ,λ⟨t,W,d⟩=> [.v (.int .i64 t),.pt true 1 (λ_=>dN W),.pt true 1 (λ_=> .v (.int .i64 d))],λ_=> [],λ⟨t,W,_⟩=>0<=t/\t<W.aO,λ⟨t,W,d⟩=> .v (.bool ((W.tasks t.toNat).cI==d)),λ_=> [],
 λargs mem=>match args with| [a0,a1,b]=>some ⟨av (a0),dJ (bN a1 0),av (bN b 0)⟩|_=>none⟩
def ZU:aZ:=⟨[],(PS).g,none⟩
def PT:PQ->Prop:=λ⟨t,W,d⟩=>let a0:=(W.tasks (Int.toNat t)).cI==d;tn 5 ((0<=t/\t<((W.aO:Nat):Int))/\tn 3 (a0=a0/\True))
theorem Ye:aY Tryz.prog bk 86 ZU:=bn .nil false Tryz.call86 Tryz.func86 (λ_=> []) (V:=PT) (λ_=>by kernel_rfl) λ⟨t,W,d⟩ hp=>by
 dsimp only[PS]at hp;dsimp only[PT,tn,aw,aB,aJ,aK,aG];simp only[bq,bx,eq_self,implies_true,bo]
 try simp only[dI]
 exact hp
structure PU where
 (n:Nat) (l:Nat->Int) (W:Wd) (d:Int)
def PV:Sy.Spec:=⟨PU,λ⟨n,l,W,d⟩=> [.sl true 1 n (λb _=> .v (.int .i64 (l b))),.fn 86 2 (aN [.pt true 1 (λ_=>dN W),.pt true 1 (λ_=> .v (.int .i64 d))])],λ_=> [],λ⟨n,l,W,_⟩=>n<=100000/\∀k,k<n->0<=l k/\l k<W.aO,λ⟨n,l,W,d⟩=> .v (.int .i64 (fE n λk=>(W.tasks (l k).toNat).cI==d)),λ_=> [],
 λargs mem=>match args with| [a0,a1]=>some ⟨bT a0,λi=>av (bO a0 i 0),dJ (bN (dK a1 0) 0),av (bN (dK a1 1) 0)⟩|_=>none⟩
def ZV:aZ:=⟨[],(PV).g,none⟩
def PW:PU->Prop:=λ⟨n,l,W,d⟩=>let a0:=(n:Int);let b0:=W.ak;let c0:=W.ao;let d0:=W.aO;let e0:=W.aX;let g:=W.aC;let h0:=W.aR;let k0:=fE n (λt:Nat=>(W.tasks (Int.toNat (l t))).cI==d);a0<=9223372036854775807->0=((0:Nat):Int)/\True/\(0<=n/\(∀o0:Nat,o0<0->((W.tasks (Int.toNat (l o0))).cI==d)=false))/\(∀b:Nat,let r0:=(b:Int);let p:=decide (r0<a0);let v0:Int:=l (Int.toNat r0);let w0:=(W.tasks (Int.toNat v0)).cI==d;let h:Int:=r0+1;b<=n/\(∀q:Nat,q<b->((W.tasks (Int.toNat (l q))).cI==d)=false)->(p=true->(0<=r0/\r0<a0)/\((v0=v0/\(True/\((((((((((True/\W.ay=W.ay/\(∀z0:Nat,z0<W.ay->True/\W.af z0=W.af z0))/\b0=b0/\(∀a1:Nat,a1<b0->True/\W.kinds a1=W.kinds a1))/\c0=c0/\(∀b1:Nat,b1<c0->aK (W.aa b1) (W.aa b1)))/\d0=d0/\(∀c1:Nat,c1<d0->aJ (W.tasks c1) (W.tasks c1)))/\e0=e0/\(∀d1:Nat,let i:=W.ah d1;d1<e0->True/\i=i/\(∀j:Nat,j<i->True/\W.lines d1 j=W.lines d1 j)))/\W.aP=W.aP/\(∀h1:Nat,h1<W.aP->True/\W.bits h1=W.bits h1))/\g=g/\(∀k1:Nat,k1<g->True/\W.ai k1=W.ai k1))/\h0=h0/\(∀c:Nat,let o1:=W.al c;c<h0->True/\o1=o1/\(∀k:Nat,k<o1->True/\W.ready c k=W.ready c k)))/\W.aQ=W.aQ/\(∀r1:Nat,let o:=W.aD r1;r1<W.aQ->True/\o=o/\(∀v1:Nat,v1<o->aG (W.ax r1 v1) (W.ax r1 v1))))/\W.aL=W.aL/\(∀w1:Nat,w1<W.aL->True/\W.aA w1=W.aA w1))/\W.time=W.time)/\(True/\d=d)/\True)/\True/\0<=v0/\v0<(d0:Int))/\(w0=true->r0=k0/\True)/\(w0=false->aw h=h/\(∃e:Nat,h=(e:Int)/\True/\(e<=n/\(∀r:Nat,r<e->((W.tasks (Int.toNat (l r))).cI==d)=false))/\n-e<n-b)))/\(p=false->(-1)=k0/\True))
theorem Yf:aY Tryz.prog bk 85 ZV:=bn (.cons Ye .nil) false Tryz.call85 Tryz.func85 (λ⟨n,l,W,d⟩=> [.inv (ZT 8 n λk=>(W.tasks (l k).toNat).cI==d)]) (V:=PW) (λ_=>by kernel_rfl) λ⟨n,l,W,d⟩ hp=>by
 dsimp only[PV]at hp;dsimp only[PW,tn,aw,aB,aJ,aK,aG];simp only[bq,bx,eq_self,implies_true,bo]
 try simp only[dI]
 obtain⟨e,hl⟩:=hp;refineλ_ s hs=>⟨λh=>?_,λh=>?_⟩
 ·have b:=fh h;exact⟨by omega,hl s b,λh=>(Cf (p:=λk=>(W.tasks (l k).toNat).cI==d) hs.2 h b).symm,λh=>⟨du (by omega) (by omega),eU ⟨⟨by omega,ir (p:=λk=>(W.tasks (l k).toNat).cI==d) hs.2 h⟩,by omega⟩⟩⟩
 ·have c:=fq h;obtain rfl:s=n:=by omega
  exact(v' (p:=λk=>(W.tasks (l k).toNat).cI==d) hs.2).symm
structure L5 where
 (c:Int) (W:Wd)
def L6:Sy.Spec:=⟨L5,λ⟨c,_⟩=> [.ptr 0 0 none 0 0,.v (.int .i64 c)],λ⟨_,W⟩=>cL W,λ⟨c,W⟩=>Inv 1000 W/\0<=c/\c<W.aC,λ_=> .tp 0 (aN []),λ⟨c,W⟩=>cL (qa W c.toNat),
 λargs mem=>match args with| [a0,a1]=>some ⟨av (a1),fW mem 0⟩|_=>none⟩
def Wx:aZ:=⟨[true],(L6).g,none⟩
def L7:L5->Prop:=λ⟨c,W⟩=>let a0:=W.ay;let b0:=W.ak;let c0:=W.ao;let d0:=W.aO;let e0:=W.aX;let j:=W.aP;let h0:=W.aC;let k0:=W.aR;let k:=W.aQ;let o0:=W.aL;let g:=W.time;let r0:=((((((((((True/\a0=a0/\(∀n:Nat,n<a0->True/\W.af (0+n)=W.af (0+n)))/\b0=b0/\(∀v0:Nat,let w0:=W.kinds (0+v0);v0<b0->True/\w0=w0))/\c0=c0/\(∀E:Nat,let G:=W.aa (0+E);E<c0->aK G G))/\d0=d0/\(∀z0:Nat,let a1:=W.tasks (0+z0);z0<d0->aJ a1 a1))/\e0=e0/\(∀b1:Nat,let c1:=W.ah (0+b1);b1<e0->True/\c1=c1/\(∀d1:Nat,let I:=W.lines (0+b1) (0+d1);d1<c1->True/\I=I)))/\j=j/\(∀o:Nat,o<j->True/\W.bits (0+o)=W.bits (0+o)))/\h0=h0/\(∀h1:Nat,let k1:=W.ai (0+h1);h1<h0->True/\k1=k1))/\k0=k0/\(∀p:Nat,let o1:=W.al (0+p);p<k0->True/\o1=o1/\(∀J:Nat,let r1:=W.ready (0+p) (0+J);J<o1->True/\r1=r1)))/\k=k/\(∀q:Nat,let v1:=W.aD (0+q);q<k->True/\v1=v1/\(∀w1:Nat,let K:=W.ax (0+q) (0+w1);w1<v1->aG K K)))/\o0=o0/\(∀r:Nat,r<o0->True/\W.aA (0+r)=W.aA (0+r)))/\g=g;let O:=SV.ptr 0 0 none 0 0;let t:=O=O;let b2:=SV.ptr 11 0 none 0 0;let R:=b2=b2;let d2:=SV.ptr 12 0 none 0 0;let S:=d2=d2;
 let g2:=pZ (Wd.mk a0 (λh2:Nat=>W.af (0+h2)) b0 (λk2:Nat=>W.kinds (0+k2)) c0 (λl2:Nat=>W.aa (0+l2)) d0 (λo2:Nat=>W.tasks (0+o2)) e0 (λq2:Nat=>W.ah (0+q2)) (λr2:Nat=>λu2:Nat=>W.lines (0+r2) (0+u2)) j (λv2:Nat=>W.bits (0+v2)) h0 (λw2:Nat=>W.ai (0+w2)) k0 (λx2:Nat=>W.al (0+x2)) (λy2:Nat=>λz2:Nat=>W.ready (0+y2) (0+z2)) k (λa3:Nat=>W.aD (0+a3)) (λb3:Nat=>λc3:Nat=>W.ax (0+b3) (0+c3)) o0 (λd3:Nat=>W.aA (0+d3)) g);let e3:=True/\g2=g2;let T:=aB W W ((True/\t)/\e3/\True);let h:=Int.toNat c;let u:=h*4;let v:Int:=c*4;let U:={W with ai:=pb W h,al:=m5 W h,ready:=og W h};True/\((r0/\True)/\True/\1<=o0/\o0<=100/\0<=g/\g<=100000000)/\tn 2 (3=3-((0:Nat):Int)/\t/\R/\S/\T/\(0<=4/\(∀V:Nat,V<0->dM W (u+(3-V))=false))/\(∀r3:Nat,let x:Int:=3-(r3:Int);let v3:=decide (0<=x);let i:Int:=v+x;let e:=0+Int.toNat i;let b:=W.al e;let z3:=b=b;let a4:=fE b (λb4:Nat=>(W.tasks (0+Int.toNat (W.ready e (0+b4)))).cI==g2);let X:=decide (0<=a4);let y:Int:=a4+1;let e4:=Int.toNat a4;let Y:=(e4:Int);let d:=W.ready e;let z:Int:=x-1;r3<=4/\(∀Z:Nat,Z<r3->dM W (u+(3-Z))=false)->(v3=true->aw v=v/\aw i=i/\(0<=i/\i<(k0:Int))/\(((z3/\(∀A:Nat,A<b->True/\d (0+A)=d (0+A)))/\(tn 2 r0/\e3)/\True)/\True/\b<=100000/\(∀B:Nat,B<b->0<=d (0+B)/\d (0+B)<(d0:Int)))/\(X=true->tn 9 ((0<=a4/\a4<(b:Int))/\True/\(0<=c/\c<(h0:Int))/\(∀r4:Nat,false=false)/\aw y=y/\(((0=0/\z3)/\a4=Y/\y=Y+1/\True)/\((z3/\(∀C:Nat,C<b->True/\d C=d C))/\
 True)/\PX.match_1 (λv4:Hp=>Prop) (Hp.mk b e4 d) (λw4:Nat=>λx4:Nat=>λy4:∀z4:Nat,Int=>x4<w4))/\(e=e/\(∀a5:Nat,Nat.beq 1 1=true))/\True/\aB {W with ai:=λb5:Nat=>cond (Nat.beq b5 (0+h)) (d (0+e4)) (W.ai b5),al:=λc5:Nat=>cond (Nat.beq c5 e) (b-1) (W.al c5),ready:=λd5:Nat=>λe5:Nat=>cond (Nat.beq d5 e) (js b d e4 e5) (W.ready d5 e5)} U True))/\(X=false->aw z=z/\(∃l:Nat,z=3-(l:Int)/\t/\R/\S/\T/\(l<=4/\(∀h5:Nat,h5<l->dM W (u+(3-h5))=false))/\4-l<4-r3)))/\(v3=false->True/\aB W U True)))
theorem U8:aY Tryz.prog bk 52 Wx:=bn (.cons L8 (.cons Yf (.cons Yg .nil))) false Tryz.call52 Tryz.func52 (λ⟨c,W⟩=> [.inv (acf W c.toNat [(0,cm 0),(2,cm 11),(4,cm 12)] [(2,0),(4,0)])]) (V:=L7) (λ_=>by kernel_rfl) λ⟨c,W⟩ hp=>by
 dsimp only[L6]at hp;dsimp only[L7,tn,aw,aB,aJ,aK,aG];simp only[bq,bx,eq_self,implies_true,bo]
 try simp only[dI]
 obtain⟨d,c0,c1⟩:=hp;obtain⟨C,rfl⟩:∃C:Nat,c=C:=⟨c.toNat,by omega⟩;have p:=d.z.c1;have q:=d.z.ready;have z3:=d.z.d1;have z4:=d.z.t1;simp only[cj];refine⟨⟨d.z.d0,by omega,d.z.t0,by omega⟩,by omega,λs hs=>⟨λh=>?_,λh=>?_⟩⟩
 ·have e:s<=3:=by have:=of_decide_eq_true h;omega
  have l:((C:Int)*4+(3 -(s:Int))).toNat=C*4+(3 -s):=by omega
  have n:=d.rd (C*4+(3 -s)) (by omega);simp only[l,Yc];refine⟨du (by omega) (by omega),du (by omega) (by omega),⟨by omega,by omega⟩,⟨by omega,n.2⟩,λb=>?_,λb=>?_⟩
  ·have g:mZ W (C*4+(3 -s))<W.al (C*4+(3 -s)):=bP b;have K:=ZR e hs.2 b;rw[Yd b];simp only[cj];refine⟨⟨by omega,by omega⟩,⟨by omega,by omega⟩,du (by omega) (by omega),⟨⟨trivial,trivial⟩,g⟩,λ_=>rfl,λj _=>?_,λj _=>⟨?_,λk o=>ZS K b o⟩⟩
   ·unfold pb;rw[K,b];rfl
   ·unfold m5;rw[K,b];rfl
  ·exact⟨du (by omega) (by omega),s+1,by omega,⟨by omega,ir hs.2 b⟩,by omega⟩
 ·have e:s=4:=by have:=of_decide_eq_false h;omega
  subst e;have i:=Wv hs.2;refine⟨λj _=>?_,λj _=>⟨?_,λk _=>?_⟩⟩
  ·unfold pb;rw[i];rfl
  ·unfold m5;rw[i];rfl
  ·unfold og;rw[i];rfl
structure L9 where
 (c:Int) (W:Wd)
def L_:Sy.Spec:=⟨L9,λ⟨c,_⟩=> [.ptr 0 0 none 0 0,.v (.int .i64 c)],λ⟨_,W⟩=>cL W,λ⟨c,W⟩=>Inv 999 W/\0<=c/\c<W.aC,λ_=> .tp 0 (aN []),λ⟨c,W⟩=>cL (aM W c.toNat),
 λargs mem=>match args with| [a0,a1]=>some ⟨av (a1),fW mem 0⟩|_=>none⟩
def Wy:aZ:=⟨[true],(L_).g,none⟩
def Ma:L9->Prop:=λ⟨c,W⟩=>let a0:=W.aC;let b0:=c<(a0:Int);let c0:=0<=c/\b0;let d0:=Int.toNat c;let e0:=W.ai (0+d0);let u:=decide (0<=e0);let h0:=u=true;let k0:=W.aO;let e:=W.ay;let o0:=W.ak;let g:=W.ao;let r0:=W.aX;let h:=W.aP;let v0:=W.aR;let w0:=W.aQ;let b:=W.aL;let d:=W.time;let z0:=cond u ((W.tasks (0+Int.toNat e0)).cI !=pZ (Wd.mk e (λa1:Nat=>W.af (0+a1)) o0 (λb1:Nat=>W.kinds (0+b1)) g (λc1:Nat=>W.aa (0+c1)) k0 (λd1:Nat=>W.tasks (0+d1)) r0 (λR:Nat=>W.ah (0+R)) (λS:Nat=>λh1:Nat=>W.lines (0+S) (0+h1)) h (λk1:Nat=>W.bits (0+k1)) a0 (λT:Nat=>W.ai (0+T)) v0 (λo1:Nat=>W.al (0+o1)) (λU:Nat=>λr1:Nat=>W.ready (0+U) (0+r1)) w0 (λV:Nat=>W.aD (0+V)) (λv1:Nat=>λw1:Nat=>W.ax (0+v1) (0+w1)) b (λX:Nat=>W.aA (0+X)) d)) false;let v:=SV.ptr 0 0 none 0 0;let j:=v=v/\c=c/\True;let x:=W.ai d0;let b2:=decide (o_ W d0 (0+d0)<0);let i:=xw W d0;let d2:=Int.toNat x;let y:=iS i d2;let g2:={W with tasks:=y,ai:=o_ W d0,al:=iz i d2,ready:=iT i d2};let h2:=cz i d2;let k2:=aM W d0;let l2:=decide (W.ai (0+d0)<0);c0/\tn 8 ((h0->0<=e0/\e0<(k0:Int))/\tn 3 ((h0->((((((((((((True/\e=e/\(∀k:Nat,k<e->True/\W.af (0+k)=W.af (0+k)))/\o0=o0/\(∀z:Nat,let r2:=W.kinds (0+z);z<o0->True/\r2=r2))/\g=g/\(∀A:Nat,let B:=W.aa (0+A);A<g->aK B B))/\k0=k0/\(∀C:Nat,let E:=W.tasks (0+C);C<k0->aJ E E))/\r0=r0/\(∀l:Nat,let n:=W.ah (0+l);l<r0->True/\n=n/\(∀a3:Nat,
 let G:=W.lines (0+l) (0+a3);a3<n->True/\G=G)))/\h=h/\(∀o:Nat,o<h->True/\W.bits (0+o)=W.bits (0+o)))/\a0=a0/\(∀I:Nat,let e3:=W.ai (0+I);I<a0->True/\e3=e3))/\v0=v0/\(∀p:Nat,let q:=W.al (0+p);p<v0->True/\q=q/\(∀J:Nat,let K:=W.ready (0+p) (0+J);J<q->True/\K=K)))/\w0=w0/\(∀r:Nat,let t:=W.aD (0+r);r<w0->True/\t=t/\(∀r3:Nat,let O:=W.ax (0+r) (0+r3);r3<t->aG O O)))/\b=b/\(∀v3:Nat,v3<b->True/\W.aA (0+v3)=W.aA (0+v3)))/\d=d)/\True)/\True/\1<=b/\b<=100/\0<=d/\d<=100000000)/\(z0=true->(j/\aB W W True/\0<=c/\b0/\fp W x)/\c0/\(b2=true->(j/\aB g2 g2 True/\Inv 1000 h2/\c0)/\True/\aB {W with tasks:=y,ai:=pb h2 d0,al:=m5 h2 d0,ready:=og h2 d0} k2 True)/\(b2=false->True/\aB g2 k2 True))/\(z0=false->c0/\(l2=true->(j/\aB W W True/\Inv 1000 W/\c0)/\True/\aB {W with ai:=pb W d0,al:=m5 W d0,ready:=og W d0} k2 True)/\(l2=false->True/\aB W k2 True))))
set_option maxHeartbeats 2000000 in
theorem U9:aY Tryz.prog bk 22 Wy:=bn (.cons L8 (.cons U7 (.cons U8 .nil))) false Tryz.call22 Tryz.func22 (λ_=> []) (V:=Ma) (λ_=>by kernel_rfl) λ⟨c,W⟩ hp=>by
 dsimp only[L_]at hp;dsimp only[Ma,tn,aw,aB,aJ,aK,aG];simp only[bq,bx,eq_self,implies_true,bo]
 try simp only[dI]
 obtain⟨b,c0,c1⟩:=hp;obtain⟨C,rfl⟩:∃C:Nat,c=C:=⟨c.toNat,by omega⟩;simp only[cj];have g:=b.co C (by omega);have z3:=b.z.d1;have z4:=b.z.t1;refine⟨⟨c0,c1⟩,λh=>⟨of_decide_eq_true h,g.2⟩,λ_=>⟨b.z.d0,by omega,b.z.t0,by omega⟩,λh=>?_,λh=>?_⟩
 ·have h0:0<=W.ai C:=by have:=(aW _ _▸h).1;exact of_decide_eq_true this
  have e:e_ W C=tQ W C:=by unfold e_;rw[show rC W C=true from h];rfl
  have i:Inv 1000 (tQ W C):=Ya (Yb b) (by show(W.ai C).toNat<W.aO;omega);refine⟨⟨c0,c1,Gw b (by decide) h0 g.2⟩,⟨c0,c1⟩,λh2=>?_,λh2=>?_⟩
  ·have d:aM W C=qa (tQ W C) C:=by unfold aM;rw[e,show decide ((tQ W C).ai C<0)=true from h2];rfl
   refine⟨⟨i,c0,c1⟩,?_⟩;rw[d]
   repeat' (first|exact trivial|rfl|refine And.intro ?_ ?_|intro _|fail)
  ·have:o_ W C C= -1:=bg
   have:=of_decide_eq_false h2;omega
 ·have e:e_ W C=W:=by unfold e_;rw[show rC W C=false from h];rfl
  refine⟨⟨c0,c1⟩,λh2=>?_,λh2=>?_⟩
  ·have d:aM W C=qa W C:=by unfold aM;rw[e,show decide (W.ai C<0)=true from h2];rfl
   refine⟨⟨b.mono (by decide),c0,c1⟩,?_⟩;rw[d]
   repeat' (first|exact trivial|rfl|refine And.intro ?_ ?_|intro _|fail)
  ·have d:aM W C=W:=by unfold aM;rw[e,show decide (W.ai C<0)=false from h2];rfl
   rw[d]
   repeat' (first|exact trivial|rfl|refine And.intro ?_ ?_|intro _|fail)
def pk (W:Wd) (t:Nat) (b g:Int) (i:Nat):aF:=aj W.tasks t {W.tasks t with r1:=b,r2:=g} i
def di (W:Wd) (t:Nat) (b g:Int):Wd:={W with tasks:=pk W t b g}
def dC (W:Wd) (t:Int) (j:Nat):Int:=bif W.ai j==t then -1 else W.ai j
def eD (W:Wd) (t:Int):Wd:={W with ai:=dC W t}
def ma (W:Wd) (t:Nat) (a s:Int) (i:Nat):aF:=aj W.tasks t {W.tasks t with st:=s,loc:=a} i
def pd (W:Wd) (a i:Nat):Nat:=aj W.ah a (W.ah a+1) i
def pf (W:Wd) (t:Int) (a i k:Nat):Int:=aj W.lines a (hO (W.ah a) (W.lines a) t) i k
def eJ (W:Wd) (t a s:Int):Wd:={W with ai:=dC W t,tasks:=ma W t.toNat a s,ah:=pd W a.toNat,lines:=pf W t a.toNat}
def xR (W:Wd) (a i:Nat):Nat:=aj W.ah a (W.ah a -1) i
def rK (W:Wd) (a i k:Nat):Int:=aj W.lines a (λq=>W.lines a (q+1)) i k
def Ew (W:Wd) (t i:Nat):aF:=aj W.tasks t {W.tasks t with loc:= -1} i
def oO (W:Wd) (a:Nat):Wd:={W with tasks:=Ew W (W.lines a 0).toNat,ah:=xR W a,lines:=rK W a}
def gk (W:Wd) (a:Nat) (p:Int->Bool):Bool:=W.ah a !=0&&p (W.tasks (W.lines a 0).toNat).st
def oP (W:Wd) (a:Nat) (b:Bool) (i:Nat):aF:=bif b then Ew W (W.lines a 0).toNat i else W.tasks i
def D2 (W:Wd) (a:Nat) (b:Bool) (i:Nat):Nat:=bif b then xR W a i else W.ah i
def xx (W:Wd) (a:Nat) (b:Bool) (i k:Nat):Int:=bif b then rK W a i k else W.lines i k
def dp (W:Wd) (a:Nat) (b:Bool):Wd:={W with tasks:=oP W a b,ah:=D2 W a b,lines:=xx W a b}
def oQ (W:Wd) (a:Nat) (b:Bool):Int:=bif b then W.lines a 0 else -1
def acb (W:Wd) (a n:Nat) (ss:Nat->Int):cQ where
 σ:=Nat
 rt:= []
 sh i:= [(0,cm 0),(30,.v (.int .i64 i))]
 mh _:= []
 inv i:=i<=n/\∀j,j<i->((W.tasks (W.lines a 0).toNat).st==ss j)=false
 μ i:=n -i
 init:=0
structure gb (W:Wd) (t:Int):Prop where
 t0:0<=t
 t1:t<W.aO
 c0:0<=(W.tasks t.toNat).core
 c1:(W.tasks t.toNat).core<W.aC
 u:∀j:Nat,j<W.aC->W.ai j=t->(W.tasks t.toNat).core=j
structure pn (W:Wd) (a:Int):Prop where
 a0:0<=a
 a1:a<W.aX
 n:W.ah a.toNat<=100000
 h:0<W.ah a.toNat->0<=W.lines a.toNat 0/\W.lines a.toNat 0<W.aO
theorem ZO {W:Wd} {t:Int} {a j k:Nat} (h:k<pd W a j):(bif j.beq a then bif k.blt (W.ah a)then W.lines a k else[t].getD (k -W.ah a) 0 else W.lines j k)=pf W t a j k:=by
 unfold pf;rcases aT (j=a)with e|e
 ·subst e;rw[cy,bg];refine PJ ?_;unfold pd at h;rw[bg]at h;exact h
 ·rw[dt e,bh e];rfl
theorem pE {f:Nat->aF} {t i:Nat} {v:aF} (p:aF->Int) (h:p v=p (f t)):p (aj f t v i)=p (f i):=by
 rcases aT (i=t)with e|e
 ·subst e;rw[bg];exact h
 ·rw[bh e]
theorem AQ {W:Wd} {a:Nat} {p:Int->Bool} (h:W.ah a=0):gk W a p=false:=by unfold gk;rw[h];rfl
theorem po {W:Wd} {a:Nat} {p:Int->Bool} {b:Bool} (h:W.ah a≠0) (c:p (W.tasks (W.lines a 0).toNat).st=b):gk W a p=b:=by unfold gk;rw[c,show(W.ah a !=0)=true from by simpa using h];rfl
theorem acd {n:Nat} (h:((n:Int)==0)=true):n=0:=by have:=eq_of_beq h;omega
theorem ace {n:Nat} (h:((n:Int)==0)=false):n≠0:=by have:=ne_of_beq_false h;omega
structure PK where
 (t b g:Int) (W:Wd)
def PM:Sy.Spec:=⟨PK,λ⟨t,b,g,_⟩=> [.ptr 0 0 none 0 0,.v (.int .i64 t),.v (.int .i64 b),.v (.int .i64 g)],λ⟨_,_,_,W⟩=>cL W,λ⟨t,_,_,W⟩=>0<=t/\t<W.aO,λ_=> .tp 0 (aN []),λ⟨t,b,g,W⟩=>cL (di W t.toNat b g),
 λargs mem=>match args with| [a0,a1,c,a3]=>some ⟨av (a1),av (c),av (a3),fW mem 0⟩|_=>none⟩
def ZP:aZ:=⟨[true],(PM).g,none⟩
def PN:PK->Prop:=λ⟨t,b,g,W⟩=>let a0:=0<=t/\t<((W.aO:Nat):Int);tn 12 (a0/\True/\a0/\True/\((0:Int)<=1/\1<((8:Nat):Int))/\(∀b0:Nat,false=false)/\((0:Int)<=2/\2<((8:Nat):Int))/\(∀c0:Nat,false=false)/\True/\aB {W with tasks:=λd0:Nat=>let e0:=W.tasks d0;let c:=Nat.beq d0 (0+Int.toNat t);{e0 with r1:=cond c b e0.r1,r2:=cond c g e0.r2}} {W with tasks:=pk W (Int.toNat t) b g} True)
set_option maxHeartbeats 1000000 in
theorem Gv:aY Tryz.prog bk 53 ZP:=bn .nil false Tryz.call53 Tryz.func53 (λ_=> []) (V:=PN) (λ_=>by kernel_rfl) λ⟨t,b,g,W⟩ hp=>by
 dsimp only[PM]at hp;dsimp only[PN,tn,aw,aB,aJ,aK,aG];simp only[bq,bx,eq_self,implies_true,bo]
 try simp only[dI]
 refine⟨hp,hp,⟨by decide,by decide⟩,⟨by decide,by decide⟩,λj _=>?_⟩;rcases aT (j=t.toNat)with h|h
 ·subst h;simp only[cy,cond_true];unfold pk;rw[bg];exact⟨⟨⟨⟨⟨⟨⟨⟨⟨⟨⟨⟨⟨⟨⟨⟨⟨⟨⟨rfl,rfl⟩,rfl⟩,rfl⟩,rfl⟩,rfl⟩,rfl⟩,rfl⟩,rfl⟩,rfl⟩,rfl⟩,rfl⟩,rfl⟩,rfl⟩,rfl⟩,rfl⟩,rfl⟩,rfl⟩,rfl⟩,rfl⟩
 ·simp only[dt h,cond_false];unfold pk;rw[bh h];exact cE rfl
structure wS where
 (t:Int) (W:Wd)
def CX:Sy.Spec:=⟨wS,λ⟨t,_⟩=> [.ptr 0 0 none 0 0,.v (.int .i64 t)],λ⟨_,W⟩=>cL W,λ⟨t,W⟩=>gb W t,λ_=> .tp 0 (aN []),λ⟨t,W⟩=>cL (eD W t),
 λargs mem=>match args with| [a0,a1]=>some ⟨av (a1),fW mem 0⟩|_=>none⟩
def ZQ:aZ:=⟨[true],(CX).g,none⟩
def PO:wS->Prop:=λ⟨t,W⟩=>let a0:=(W.tasks (0+Int.toNat t)).core;let b0:=0<=a0/\a0<((W.aC:Nat):Int);let c0:=0+Int.toNat a0;let d0:=W.ai c0==t;let e0:={W with ai:=dC W t};(0<=t/\t<((W.aO:Nat):Int))/\b0/\(d0=true->b0/\(∀b:Nat,false=false)/\True/\aB {W with ai:=λh0:Nat=>cond (Nat.beq h0 c0) (-1) (W.ai h0)} e0 True)/\(d0=false->True/\aB W e0 True)
theorem NJ:aY Tryz.prog bk 57 ZQ:=bn .nil false Tryz.call57 Tryz.func57 (λ_=> []) (V:=PO) (λ_=>by kernel_rfl) λ⟨t,W⟩ hp=>by
 dsimp only[CX]at hp;dsimp only[PO,tn,aw,aB,aJ,aK,aG];simp only[bq,bx,eq_self,implies_true,bo]
 try simp only[dI]
 obtain⟨t0,t1,c0,c1,d⟩:=hp;have g:=And.intro c0 c1;refine⟨⟨t0,t1⟩,g,λh=>⟨g,λj c=>?_⟩,λh j c=>?_⟩
 ·have h:=eq_of_beq h;unfold dC;rcases aT (j=(W.tasks t.toNat).core.toNat)with e|e
  ·subst e;rw[cy,h];simp
  ·rw[dt e];cases b:W.ai j==t with
   |false=>rfl
   |true=>exact absurd (d j c (eq_of_beq b)) (by omega)
 ·unfold dC;cases b:W.ai j==t with
  |false=>rfl
  |true=>
   have:=d j c (eq_of_beq b);have e:j=(W.tasks t.toNat).core.toNat:=by omega
   rw[<-e,b]at h;cases h
structure NK where
 (t a s:Int) (W:Wd)
def NL:Sy.Spec:=⟨NK,λ⟨t,a,s,_⟩=> [.ptr 0 0 none 0 0,.v (.int .i64 t),.v (.int .i64 a),.v (.int .i64 s)],λ⟨_,_,_,W⟩=>cL W,λ⟨t,a,_,W⟩=>gb W t/\pn W a,λ_=> .tp 0 (aN []),λ⟨t,a,s,W⟩=>cL (eJ W t a s),
 λargs mem=>match args with| [a0,a1,b,a3]=>some ⟨av (a1),av (b),av (a3),fW mem 0⟩|_=>none⟩
def X':aZ:=⟨[true],(NL).g,none⟩
def NM:NK->Prop:=λ⟨t,a,s,W⟩=>let a0:=SV.ptr 0 0 none 0 0;let b0:=0<=t/\t<((W.aO:Nat):Int);let c0:=0<=a/\a<((W.aX:Nat):Int);let d0:=true=true;let e0:=True/\d0;let b:=0+Int.toNat a;let h0:=W.ah b;let k0:=h0+1;((a0=a0/\t=t/\True)/\aB W W True/\CX.match_1 (λg:wS=>Prop) (wS.mk t W) (λo0:Int=>λe:Wd=>gb e o0))/\tn 12 (b0/\(∀h:Nat,false=false)/\b0/\(∀v0:Nat,false=false)/\tn 10 (c0/\tn 3 (tn 2 True/\(((∀w0:Nat,True/\(∀i:Nat,e0))/\(∀j:Nat,e0)/\True)/\True/\(h0+1)*8<=140737488355328/\(∀z0:Nat,d0))/\(True/\k0*8<=140737488355328/\(∀a1:Nat,d0))/\c0/\(b=b/\(∀b1:Nat,Nat.beq 1 1=true))/\True/\aB {W with tasks:=λc1:Nat=>let d1:=W.tasks c1;let c:=Nat.beq c1 (0+Int.toNat t);{d1 with st:=cond c s d1.st,loc:=cond c a d1.loc},ah:=λd:Nat=>cond (Nat.beq d b) k0 (W.ah d),lines:=λh1:Nat=>λk1:Nat=>cond (Nat.beq h1 b) (cond (Nat.blt k1 h0) (W.lines b (0+k1)) (List.getD [t] (0+(k1-h0)) 0)) (W.lines h1 k1),ai:=dC W t} {W with tasks:=ma W (Int.toNat t) a s,ah:=pd W (Int.toNat a),lines:=pf W t (Int.toNat a),ai:=dC W t} True)))
set_option maxHeartbeats 1000000 in
theorem LV:aY Tryz.prog bk 54 X':=bn (.cons NJ .nil) false Tryz.call54 Tryz.func54 (λ_=> []) (V:=NM) (λ_=>by kernel_rfl) λ⟨t,a,s,W⟩ hp=>by
 dsimp only[NL]at hp;dsimp only[NM,tn,aw,aB,aJ,aK,aG];simp only[bq,bx,eq_self,implies_true,bo]
 try simp only[dI]
 obtain⟨b,hl⟩:=hp;have t0:=b.t0;have t1:=b.t1;obtain⟨a0,a1,d,_⟩:=hl;refine⟨b,⟨t0,t1⟩,⟨t0,t1⟩,⟨a0,a1⟩,by omega,by omega,⟨a0,a1⟩,λ_=>rfl,λj _=>?_,λj _=>⟨rfl,λk c=>ZO c⟩⟩;rcases aT (j=t.toNat)with h|h
 ·subst h;simp only[cy,cond_true];unfold ma;rw[bg];exact⟨⟨⟨⟨⟨⟨⟨⟨⟨⟨⟨⟨⟨⟨⟨⟨⟨⟨⟨rfl,rfl⟩,rfl⟩,rfl⟩,rfl⟩,rfl⟩,rfl⟩,rfl⟩,rfl⟩,rfl⟩,rfl⟩,rfl⟩,rfl⟩,rfl⟩,rfl⟩,rfl⟩,rfl⟩,rfl⟩,rfl⟩,rfl⟩
 ·simp only[dt h,cond_false];unfold ma;rw[bh h];exact cE rfl
structure LW where
 (a:Int) (n:Nat) (ss:Nat->Int) (W:Wd)
def LX:Sy.Spec:=⟨LW,λ⟨a,n,ss,_⟩=> [.ptr 0 0 none 0 0,.v (.int .i64 a),.sl true 1 n (λc _=> .v (.int .i64 (ss c)))],λ⟨_,_,_,W⟩=>cL W,λ⟨a,n,_,W⟩=>pn W a/\n<=1000,λ⟨a,n,ss,W⟩=> .v (.int .i64 (oQ W a.toNat (gk W a.toNat λs=>da n λk=>s==ss k))),λ⟨a,n,ss,W⟩=>cL (dp W a.toNat (gk W a.toNat λs=>da n λk=>s==ss k)),
 λargs mem=>match args with| [a0,a1,b]=>some ⟨av (a1),bT b,λi=>av (bO b i 0),fW mem 0⟩|_=>none⟩
def Wu:aZ:=⟨[true],(LX).g,none⟩
def LY:LW->Prop:=λ⟨a,n,ss,W⟩=>let a0:=0<=a/\a<((W.aX:Nat):Int);let b0:=Int.toNat a;let c0:=((W.ah (0+b0):Nat):Int);let d0:=c0==0;let e0:=gk W b0 (λt:Int=>da n (λh0:Nat=>t==ss h0));let k0:=oQ W b0 e0;let h:={W with tasks:=oP W b0 e0,ah:=D2 W b0 e0,lines:=xx W b0 e0};let o0:=(-1)=k0/\aB W h True;let b:=0+b0;let c:=((W.ah b:Nat):Int);let v0:=(n:Int);let w0:=SV.ptr 0 0 none 0 0;let i:=w0=w0;let e:=(W.tasks (Int.toNat (W.lines b0 0))).st;let z0:=W.lines b 0;let a1:=0<=z0/\z0<((W.aO:Nat):Int);let b1:=0+Int.toNat z0;let c1:=(W.tasks b1).st;let d1:=Int.toNat c-Int.toNat 1;a0/\(c0<=9223372036854775807->(d0=true->o0)/\(d0=false->a0/\((0:Int)<=0/\0<c)/\(v0<=9223372036854775807->i/\0=((0:Nat):Int)/\aB W W True/\(0<=n/\(∀j:Nat,j<0->(e==ss j)=false))/\(∀d:Nat,let h1:=(d:Int);let k1:=decide (h1<v0);let k:=c1==ss (Int.toNat h1);let o1:Int:=h1+1;d<=n/\(∀l:Nat,l<d->(e==ss l)=false)->(k1=true->(0<=h1/\h1<v0)/\a1/\(k=true->tn 11 (a0/\True/\((0:Int)<=1/\1<=c/\c<=c)/\(d1*8<=140737488355328/\(∀u:Nat,true=true))/\a0/\(∀v1:Nat,Nat.beq 1 1=true)/\a1/\(∀w1:Nat,false=false)/\z0=k0/\aB {W with tasks:=λg:Nat=>{W.tasks g with loc:=cond (Nat.beq g b1) (-1) (W.tasks g).loc},ah:=λo:Nat=>cond (Nat.beq o b) d1 (W.ah o),lines:=λp:Nat=>λq:Nat=>cond (Nat.beq p b) (W.lines b (0+Int.toNat 1+q)) (W.lines p q)} h True))/\(k=false->aw o1=o1/\(∃b2:Nat,i/\o1=(b2:Int)/\aB W W True/\(b2<=n/\(∀r:Nat,r<b2->(e==ss r)=false))/\n-b2<n-d)))/\(k1=false->o0)))))
set_option maxHeartbeats 1000000 in
theorem KA:aY Tryz.prog bk 55 Wu:=bn .nil false Tryz.call55 Tryz.func55 (λ⟨a,n,ss,W⟩=> [.inv (acb W a.toNat n ss)]) (V:=LY) (λ_=>by kernel_rfl) λ⟨a,n,ss,W⟩ hp=>by
 dsimp only[LX]at hp;dsimp only[LY,tn,aw,aB,aJ,aK,aG];simp only[bq,bx,eq_self,implies_true,bo]
 try simp only[dI]
 obtain⟨⟨a0,a1,l,hl⟩,o⟩:=hp;refine⟨⟨a0,a1⟩,λ_=>⟨λh0=>?_,λh0=>⟨⟨a0,a1⟩,?_⟩⟩⟩
 ·have e:gk W a.toNat (λh0=>da n λk0=>h0==ss k0)=false:=AQ (acd h0);rw[e];exact⟨rfl,λj _=>cE rfl,λd _=>⟨rfl,λg _=>rfl⟩⟩
 have h1:=ace h0;have hl:=hl (by omega);refine⟨⟨by decide,by omega⟩,λ_ s hs=>⟨λh=>?_,λh=>?_⟩⟩
 ·have b:=fh h;refine⟨by omega,hl,λh2=>⟨⟨a0,a1⟩,⟨by decide,by omega,by omega⟩,by omega,⟨a0,a1⟩,λ_=>rfl,hl,?_⟩,λh2=>⟨du (by omega) (by omega),s+1,by omega,⟨by omega,λj p=>?_⟩,by omega⟩⟩
  ·have e:gk W a.toNat (λh0=>da n λk0=>h0==ss k0)=true:=po h1 (ly.2 ⟨s,by omega,h2⟩);rw[e];refine⟨rfl,λj _=>?_,λc _=>⟨rfl,λg q=>?_⟩⟩
   ·rcases aT (j=(W.lines a.toNat 0).toNat)with h|h
    ·subst h;simp only[cy,cond_true];unfold oP Ew;rw[bg];exact⟨⟨⟨⟨⟨⟨⟨⟨⟨⟨⟨⟨⟨⟨⟨⟨⟨⟨⟨rfl,rfl⟩,rfl⟩,rfl⟩,rfl⟩,rfl⟩,rfl⟩,rfl⟩,rfl⟩,rfl⟩,rfl⟩,rfl⟩,rfl⟩,rfl⟩,rfl⟩,rfl⟩,rfl⟩,rfl⟩,rfl⟩,rfl⟩
    ·simp only[dt h,cond_false];unfold oP Ew;rw[bh h];exact cE rfl
   ·rcases aT (c=a.toNat)with h|h
    ·subst h;simp only[cy,cond_true];unfold xx rK;rw[bg];exact congrArg _ (jZ _ _)
    ·simp only[dt h,cond_false];unfold xx rK;rw[bh h];rfl
  ·rcases aT (j=s)with e|e
   ·rw[e];exact h2
   ·exact hs.2 j (by omega)
 ·have k:=fq h;have e:gk W a.toNat (λh0=>da n λk0=>h0==ss k0)=false:=po h1 (lr.2 λi r=>hs.2 i (by omega));rw[e];exact⟨rfl,λj _=>cE rfl,λd _=>⟨rfl,λg _=>rfl⟩⟩
theorem PL.r {W:Wd} {f:Nat} (h:(W.tasks f).st=1) (a:cB W f=0) (b:cu W f=1) (c:(W.tasks f).loc= -1):PL W f:=
 ⟨λe=>by omega,λe=>by omega,λ_=>⟨a,b,c⟩,λe=>absurd h e⟩
theorem PL.o {W:Wd} {f:Nat} (h:(W.tasks f).st=0\/(W.tasks f).st=5) (a:cB W f=0) (b:cu W f=0) (c:(W.tasks f).loc= -1):PL W f:=
 ⟨λe=>by omega,λe=>by omega,λe=>by omega,λ_ _ _ _ _=>⟨a,b,c⟩⟩
theorem PL.idle {W:Wd} {f:Nat} (h:PL W f) (hs:(W.tasks f).st=0\/(W.tasks f).st=5):cB W f=0/\cu W f=0/\(W.tasks f).loc= -1:=h.no (by omega) (by omega) (by omega) (by omega) (by omega)
theorem sk {W:Wd} {t:aF} (h:fk W t=false):(0<=t.pc/\t.pc<=65535)/\(0<=t.word/\t.word<=65535)/\(0<=t.aH/\t.aH<=65535)/\(0<=t.st/\t.st<=6)/\(0<=t.prio/\t.prio<=3)/\(0<=t.core/\t.core<=W.aC -1)/\0<=t.cI/\t.cI<=3:=by unfold fk at h;simp only[bX]at h;obtain⟨⟨⟨⟨⟨⟨h1,h2⟩,b⟩,c⟩,d⟩,e⟩,g⟩:=h;exact⟨dO h1,dO h2,dO b,dO c,dO d,dO e,dO g⟩
theorem ej {v m:Int} (h:0<=v/\v<=m):az v m=false:=by unfold az;simp only[bX,decide_eq_false_iff_not];omega
theorem sn {W:Wd} {t:aF} {s l:Int} (h:fk W t=false) (hs:0<=s/\s<=6):fk W {t with st:=s,loc:=l}=false:=by obtain⟨h1,h2,b,g,c,d,e⟩:=sk h;unfold fk;simp only[bX];exact⟨⟨⟨⟨⟨⟨ej h1,ej h2⟩,ej b⟩,ej hs⟩,ej c⟩,ej d⟩,ej e⟩
theorem pA {W:Wd} {t:Nat} {r:aF} (ho:r.ar=(W.tasks t).ar) (f:Nat):bV {W with tasks:=aj W.tasks t r} f=bV W f:=hV λi _=>by
 show((aj W.tasks t r i).ar==(f:Int))=_;rcases aT (i=t)with e|e
 ·subst e;rw[bg,ho]
 ·rw[bh e]
theorem lM {x y:Int} (h:x≠y):b1 (x==y)=0:=by rw[beq_eq_false_iff_ne.2 h];rfl
theorem pY (x:Int):b1 (x==x)=1:=by rw[beq_self_eq_true];rfl
theorem abT {W:Wd} (z:bQ W) {t:aF} (h:fk W t=false):ef t<W.aR/\((ef t/4:Nat):Int)=t.core/\((ef t%4:Nat):Int)=t.prio:=by obtain⟨_,_,_,_,b,c,_⟩:=sk h;have:=z.ready;have:=z.c0;unfold ef oh;refine⟨by omega,by omega,by omega⟩
theorem TS.vI {X:Nat->Prop} {W:Wd} {t:Nat} (h:TS X W) (o:X t) (p:t<W.ak) (d:W.kinds t=6) (hs:cB W t=0) (q:cu W t=0) (ho:bV W t=0):TS (λf=>X f/\f≠t) (cz W t):=by
 obtain⟨y,u,A⟩:=h.nm t p d;have z:=h.z;have h1:TS X {W with tasks:=aj W.tasks t {W.tasks t with st:=1,loc:= -1}}:=h.set p d y (sn u (by decide)) A rfl (.inl ⟨o,hs,q⟩);obtain⟨r1,r2,r3⟩:=abT z u;have et:iS W t=aj W.tasks t {W.tasks t with st:=1,loc:= -1}:=rfl;have eT:∀f,cP W.aR (iz W t) (iT W t) f=cP W.aR W.al W.ready f+b1 ((t:Int)==f):=λf=>by have:=ym (n:=W.aR) (ln:=W.al) (l:=W.ready) (m:=W.al (ef (W.tasks t))+1) (g:=hO (W.al (ef (W.tasks t))) (W.ready (ef (W.tasks t))) t) (x:=f) r1;rw[Cc]at this;show cP W.aR (aj W.al (ef (W.tasks t)) _) (aj W.ready (ef (W.tasks t)) _) f=_;omega
 have h2:TS X (cz W t):=by
  refine h1.lists rfl rfl rfl rfl (λf B j=>⟨rfl,?_,λa _ h=>h⟩) h1.ln h1.co λi c=>iG.2 λk b=>?_
  ·show cP W.aR (iz W t) (iT W t) f+_=cP W.aR W.al W.ready f+_;rw[eT,lM λe=>j (by rw[<-CM e];exact o)];rfl
  ·have c:i<W.aR:=c;have b:k<aj W.al (ef (W.tasks t)) (W.al (ef (W.tasks t))+1) i:=b;show RD {W with tasks:=aj W.tasks t {W.tasks t with st:=1,loc:= -1}} (aj W.ready (ef (W.tasks t)) (hO (W.al (ef (W.tasks t))) (W.ready (ef (W.tasks t))) t) i k) _ _;rcases aT (i=ef (W.tasks t))with e|e
   ·subst e;rw[bg]at b⊢;unfold hO;rcases bR k (W.al (ef (W.tasks t)))with g|g
    ·rw[gY g];exact iG.1 (h1.rl _ c) k g
    ·rw[kZ g];show RD _ (t:Int) _ _;refine⟨⟨pF _,by show(t:Int)<W.ak;omega⟩,d,?_,?_,λ_=>?_⟩
     ·show(aj W.tasks t _ t).st=1;rw[bg]
     ·show(aj W.tasks t _ t).core=_;rw[bg,r2]
     ·show(aj W.tasks t _ t).prio=_;rw[bg,r3]
   ·rw[bh e]at b⊢;exact iG.1 (h1.rl i c) k b
 refine h2.lv λf B G j C=>?_;obtain rfl:f=t:=fN λe=>C ⟨j,e⟩;have v:((cz W f).tasks f)={W.tasks f with st:=1,loc:= -1}:=by show aj W.tasks f _ f=_;rw[bg]
 have E:bV (cz W f) f=0:=(pA (W:=W) (t:=f) (r:={W.tasks f with st:=1,loc:= -1}) rfl f).trans ho;have e3:cu (cz W f) f=1:=by unfold cu at q;show cP W.aR (iz W f) (iT W f) f+cf W.aC W.ai f=1;rw[eT,pY];omega
 have s1:((cz W f).tasks f).st=1:=by rw[v]
 exact⟨by rw[E,s1];decide,.r s1 hs e3 (by rw[v]),λ_=>by rw[s1];decide⟩
theorem TS.front {X:Nat->Prop} {W:Wd} {a:Nat} (h:TS X W) (C:a<W.ak) (hl:0<W.ah a) (E:¬X (W.lines a 0).toNat):
 TS (λf=>X f\/f=(W.lines a 0).toNat) (oO W a)/\((W.lines a 0).toNat<W.ak/\W.kinds (W.lines a 0).toNat=6)/\cB (oO W a) (W.lines a 0).toNat=0/\cu (oO W a) (W.lines a 0).toNat=0:=by
 have z:=h.z;have zl:=z.lines;obtain⟨G,l2,I,r⟩:=dY.1 (h.ln a C);obtain⟨u1,i,u3,_⟩:=r 0 hl;have J:(((W.lines a 0).toNat:Nat):Int)=W.lines a 0:=by omega
 have j:(W.lines a 0).toNat<W.ak:=by omega
 obtain⟨K,v,O⟩:=h.nm _ j i;obtain⟨p1,y,R,S⟩:=h.so _ j i E;have c:cB W (W.lines a 0).toNat=1/\cu W (W.lines a 0).toNat=0:=by
  rcases aT ((W.tasks (W.lines a 0).toNat).st=2\/(W.tasks (W.lines a 0).toNat).st=3\/(W.tasks (W.lines a 0).toNat).st=4)with e|e
  ·exact⟨(p1 e).1,(p1 e).2.1⟩
  rcases aT ((W.tasks (W.lines a 0).toNat).st=6)with o|o
  ·exact⟨(y o).1,(y o).2.1⟩
  rcases aT ((W.tasks (W.lines a 0).toNat).st=1)with t|t
  ·have:=(R t).2.2;omega
  ·have:=(S t (λg=>e (.inl g)) (λg=>e (.inr (.inl g))) (λg=>e (.inr (.inr g))) o).2.2;omega
 have A:∀x:Int,cP W.aX (xR W a) (rK W a) x+b1 (W.lines a 0==x)=cP W.aX W.ah W.lines x:=λx=>by have h1:=ym (n:=W.aX) (ln:=W.ah) (l:=W.lines) (m:=W.ah a -1) (g:=λq=>W.lines a (q+1)) (x:=x) (show a<W.aX by omega);have h2:=MV (n:=W.ah a) (f:=W.lines a) (x:=x) hl;show cP W.aX (aj W.ah a _) (aj W.lines a _) x+_=_;omega
 have T:=h.wk (Y:=λf=>X f\/f=(W.lines a 0).toNat) λf p=> .inl p;have h1:TS (λf=>X f\/f=(W.lines a 0).toNat) {W with ah:=xR W a,lines:=rK W a}:=by
  refine T.lists rfl rfl rfl rfl (λf p B=>⟨?_,rfl,λb U d=>?_⟩) (λf p=>?_) h.co h.rl
  ·have:=A f;rw[lM λe=>B (.inr (by omega))]at this;exact this
  ·show cK (aj W.ah a _ b) (aj W.lines a _ b) f=true;rcases aT (b=a)with e|e
   ·subst e;rw[bg,bg];have h2:=MV (n:=W.ah b) (f:=W.lines b) (x:=f) hl;rw[lM λe=>B (.inr (by omega))]at h2;rw[wC]at d⊢;omega
   ·rw[bh e,bh e];exact d
  ·rcases aT (f=a)with e|e
   ·subst e;refine dY.2 ?_;show(0<aj W.ah f (W.ah f -1) f->W.kinds f=7\/W.kinds f=8)/\(W.bits f≠0->W.kinds f=8/\aj W.ah f (W.ah f -1) f=0)/\(0<=W.bits f/\W.bits f<=65535)/\∀k,k<aj W.ah f (W.ah f -1) f->(0<=aj W.lines f (λq=>W.lines f (q+1)) f k/\aj W.lines f (λq=>W.lines f (q+1)) f k<W.ak)/\W.kinds (aj W.lines f (λq=>W.lines f (q+1)) f k).toNat=6/\(W.tasks (aj W.lines f (λq=>W.lines f (q+1)) f k).toNat).loc=f/\jq W (aj W.lines f (λq=>W.lines f (q+1)) f k)=jq W (aj W.lines f (λq=>W.lines f (q+1)) f 0);rw[bg,bg];refine⟨λhp=>G (by omega),λhp=>⟨(l2 hp).1,by have:=(l2 hp).2;omega⟩,I,λk hk=>?_⟩;obtain⟨a1,V,a3,a4⟩:=r (k+1) (by omega);obtain⟨_,_,_,Z⟩:=r (0+1) (by omega);exact⟨a1,V,a3,a4.trans Z.symm⟩
   ·have u:=dY.1 (h.ln f p);refine dY.2 ?_;show(0<aj W.ah a (W.ah a -1) f->W.kinds f=7\/W.kinds f=8)/\(W.bits f≠0->W.kinds f=8/\aj W.ah a (W.ah a -1) f=0)/\(0<=W.bits f/\W.bits f<=65535)/\∀k,k<aj W.ah a (W.ah a -1) f->(0<=aj W.lines a (λq=>W.lines a (q+1)) f k/\aj W.lines a (λq=>W.lines a (q+1)) f k<W.ak)/\W.kinds (aj W.lines a (λq=>W.lines a (q+1)) f k).toNat=6/\(W.tasks (aj W.lines a (λq=>W.lines a (q+1)) f k).toNat).loc=f/\jq W (aj W.lines a (λq=>W.lines a (q+1)) f k)=jq W (aj W.lines a (λq=>W.lines a (q+1)) f 0);rw[bh e,bh e];exact u
 have s1:cB {W with ah:=xR W a,lines:=rK W a} (W.lines a 0).toNat=0:=by have:=A (W.lines a 0);rw[pY]at this;have h1:=c.1;unfold cB at h1⊢;rw[J]at h1⊢;show cP W.aX (xR W a) (rK W a) _=0;omega
 exact⟨h1.set j i K (sn v (sk v).2.2.2.1) O rfl (.inl ⟨.inr rfl,s1,c.2⟩),⟨j,i⟩,s1,c.2⟩
end Go.Proofs.YthgmgkabnffniaaGreatDoor
