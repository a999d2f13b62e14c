/- Starting and ranking a task. -/
import Derived.Test.YthgmgkabnffniaaGreatDoorYM
import Derived.Test.YthgmgkabnffniaaGreatDoorYL
import Derived.Test.YthgmgkabnffniaaGreatDoorYJ
import Derived.Test.YthgmgkabnffniaaGreatDoorYI
set_option linter.unusedVariables false
set_option linter.unusedSimpArgs false
set_option maxRecDepth 100000
namespace Go.Proofs.YthgmgkabnffniaaGreatDoor
open Go.RowKit Go.Sy
def mb (W:Wd) (t:Int):Int:=bif decide (t<0)||decide ((W.ak:Int)<=t)then 2 else bif W.kinds t.toNat !=6 then 3 else 0
def hB (W:Wd) (t:Int):Int:=bif mb W t==0 then bif (W.tasks t.toNat).st==0 then 0 else 7 else mb W t
def iW (W:Wd) (t:Int) (i:Nat):aF:=bif hB W t==0 then(cz W t.toNat).tasks i else(W).tasks i
def iV (W:Wd) (t:Int) (i:Nat):Nat:=bif hB W t==0 then(cz W t.toNat).al i else(W).al i
def iX (W:Wd) (t:Int) (i k:Nat):Int:=bif hB W t==0 then(cz W t.toNat).ready i k else(W).ready i k
def jG (W:Wd) (t:Int):Wd:={W with tasks:=iW W t,al:=iV W t,ready:=iX W t}
theorem OP {W:Wd} {t:Int} (h:(hB W t==0)=true):jG W t=cz W t.toNat:=by
 have c:iW W t=(cz W t.toNat).tasks:=by funext i;unfold iW;rw[h];rfl
 have b:iV W t=(cz W t.toNat).al:=by funext i;unfold iV;rw[h];rfl
 have d:iX W t=(cz W t.toNat).ready:=by funext i k;unfold iX;rw[h];rfl
 show({W with tasks:=iW W t,al:=iV W t,ready:=iX W t}:Wd)=_;rw[c,b,d]<;>kernel_rfl
theorem Hf {W:Wd} {t:Int} (h:(hB W t==0)=false):jG W t=W:=by
 have c:iW W t=(W).tasks:=by funext i;unfold iW;rw[h];rfl
 have b:iV W t=(W).al:=by funext i;unfold iV;rw[h];rfl
 have d:iX W t=(W).ready:=by funext i k;unfold iX;rw[h];rfl
 show({W with tasks:=iW W t,al:=iV W t,ready:=iX W t}:Wd)=_;rw[c,b,d]<;>kernel_rfl
structure oc (W:Wd):Prop where
 i:Inv 500 W
theorem Sa {W:Wd} {t:Int} (h:mb W t=0):0<=t/\t<W.ak/\W.kinds t.toNat=6:=by
 unfold mb at h;cases h1:(decide (t<0)||decide ((W.ak:Int)<=t))with
 |true=>rw[h1]at h;exact absurd (show(2:Int)=0 from h) (by decide)
 |false=>
  cases h2:W.kinds t.toNat !=6 with
  |true=>rw[h1,h2]at h;exact absurd (show(3:Int)=0 from h) (by decide)
  |false=>simp only[bX,decide_eq_false_iff_not,bne_eq_false_iff_eq]at h1 h2;omega
structure Bl where
 (W:Wd) (t:Int)
def E8:Sy.Spec:=⟨Bl,λ⟨W,t⟩=> [dN W,.v (.int .i64 t)],λ_=> [],λ⟨W,_⟩=>bQ W,λ⟨W,t⟩=> .v (.int .i64 (mb W t)),λ_=> [],
 λargs mem=>match args with| [a0,a1]=>some ⟨dJ a0,av (a1)⟩|_=>none⟩
def U_:aZ:=⟨[],(E8).g,none⟩
def KC:Bl->Prop:=λ⟨W,t⟩=>let a0:=cond (decide (t<0)) true (decide (((W.ak:Nat):Int)<=t));let b0:=mb W t;let c0:=W.kinds (Int.toNat t) !=6;(a0=true->2=b0/\True)/\(a0=false->(0<=t/\t<((W.ak:Nat):Int))/\(c0=true->3=b0/\True)/\(c0=false->0=b0/\True))
theorem T6:aY Tryz.prog bk 46 U_:=bn .nil false Tryz.call46 Tryz.func46 (λ_=> []) (V:=KC) (λ_=>by kernel_rfl) λ⟨W,t⟩ hp=>by
 dsimp only[E8]at hp;dsimp only[KC,tn,aw,aB,aJ,aK,aG];simp only[bq,bx,eq_self,implies_true,bo]
 try simp only[dI]
 unfold mb;refine⟨λh=>by rw[h];rfl,λh=>?_⟩;simp only[h,cond_false];simp only[bX,decide_eq_false_iff_not]at h;refine⟨by omega,λh2=>by rw[h2];rfl,λh2=>by rw[h2];rfl⟩
structure kD where
 (t:Int) (W:Wd)
def qm:Sy.Spec:=⟨kD,λ⟨t,_⟩=> [.ptr 0 0 none 0 0,.v (.int .i64 t)],λ⟨_,W⟩=>cL W,λ⟨_,W⟩=>oc W,λ⟨t,W⟩=> .v (.int .i64 (hB W t)),λ⟨t,W⟩=>cL (jG W t),
 λargs mem=>match args with| [a0,a1]=>some ⟨av (a1),fW mem 0⟩|_=>none⟩
def T7:aZ:=⟨[true],(qm).g,none⟩
def JU:kD->Prop:=λ⟨t,W⟩=>let a0:=W.ay;let b0:=W.ak;let c0:=W.ao;let d0:=W.aO;let e0:=W.aX;let b:=W.aP;let h0:=W.aC;let k0:=W.aR;let c:=W.aQ;let o0:=W.aL;let k:=Wd.mk a0 (λr0:Nat=>W.af (0+r0)) b0 (λC:Nat=>W.kinds (0+C)) c0 (λv0:Nat=>W.aa (0+v0)) d0 (λw0:Nat=>W.tasks (0+w0)) e0 (λE:Nat=>W.ah (0+E)) (λG:Nat=>λz0:Nat=>W.lines (0+G) (0+z0)) b (λa1:Nat=>W.bits (0+a1)) h0 (λb1:Nat=>W.ai (0+b1)) k0 (λc1:Nat=>W.al (0+c1)) (λd1:Nat=>λI:Nat=>W.ready (0+d1) (0+I)) c (λJ:Nat=>W.aD (0+J)) (λh1:Nat=>λk1:Nat=>W.ax (0+h1) (0+k1)) o0 (λK:Nat=>W.aA (0+K)) W.time;let o1:=mb k t;let l:=o1 !=0;let r1:=hB W t;let n:={W with tasks:=iW W t,al:=iV W t,ready:=iX W t};let v1:=aB W n True;let w1:=Int.toNat t;let o:=(W.tasks (0+w1)).st !=0;let p:=SV.ptr 0 0 none 0 0;(((((((((((((True/\a0=a0/\(∀d:Nat,d<a0->True/\W.af (0+d)=W.af (0+d)))/\b0=b0/\(∀q:Nat,let b2:=W.kinds (0+q);q<b0->True/\b2=b2))/\c0=c0/\(∀r:Nat,let d2:=W.aa (0+r);r<c0->aK d2 d2))/\d0=d0/\(∀u:Nat,let g2:=W.tasks (0+u);u<d0->aJ g2 g2))/\e0=e0/\(∀h2:Nat,let k2:=W.ah (0+h2);h2<e0->True/\k2=k2/\(∀l2:Nat,let v:=W.lines (0+h2) (0+l2);l2<k2->True/\v=v)))/\b=b/\(∀e:Nat,e<b->True/\W.bits (0+e)=W.bits (0+e)))/\h0=h0/\(∀r2:Nat,let x:=W.ai (0+r2);r2<h0->True/\x=x))/\k0=k0/\(∀g:Nat,let h:=W.al (0+g);g<k0->True/\h=h/\(∀y:Nat,let z:=W.ready (0+g) (0+y);y<h->True/\z=z)))/\c=c/\(∀i:Nat,
 let a3:=W.aD (0+i);i<c->True/\a3=a3/\(∀A:Nat,let B:=W.ax (0+i) (0+A);A<a3->aG B B)))/\o0=o0/\(∀j:Nat,j<o0->True/\W.aA (0+j)=W.aA (0+j)))/\W.time=W.time)/\t=t/\True)/\True/\E8.match_1 (λe3:Bl=>Prop) (Bl.mk k t) (λO:Wd=>λT:Int=>bQ O))/\(l=true->o1=r1/\v1)/\(l=false->(0<=t/\t<(d0:Int))/\(o=true->7=r1/\v1)/\(o=false->((p=p/\t=t/\True)/\aB W W True/\Gx.match_1 (λU:Cm=>Prop) (Cm.mk t W) (λR:Int=>λS:Wd=>fp S R))/\0=r1/\aB {W with tasks:=iS W w1,al:=iz W w1,ready:=iT W w1} n True))
set_option maxHeartbeats 1000000 in
theorem Js:aY Tryz.prog bk 18 T7:=bn (.cons T6 (.cons Wz .nil)) false Tryz.call18 Tryz.func18 (λ_=> []) (V:=JU) (λ_=>by kernel_rfl) λ⟨t,W⟩ hp=>by
 dsimp only[qm]at hp;dsimp only[JU,tn,aw,aB,aJ,aK,aG];simp only[bq,bx,eq_self,implies_true,bo]
 try simp only[dI]
 have l:=hp.i;have n:=l.z.tasks;refine⟨l.z,λh=>?_,λh=>?_⟩
 ·have j:(mb W t==0)=false:=by simpa using h
  have e:hB W t=mb W t:=by unfold hB;rw[j];rfl
  have k:(hB W t==0)=false:=by rw[e];exact j
  refine⟨e.symm,?_⟩;have g:=Hf k;have c:iW W t=_:=congrArg Wd.tasks g;have b:iV W t=_:=congrArg Wd.al g;have d:iX W t=_:=congrArg Wd.ready g;simp only[c,b,d];clear g c b d
  repeat' (first|exact trivial|exact cE rfl|rfl|refine And.intro ?_ ?_|intro _|fail)
 have j:(mb W t==0)=true:=by simpa using h
 obtain⟨t0,t1,o⟩:=Sa (eq_of_beq j);refine⟨⟨t0,by omega⟩,λh2=>?_,λh2=>?_⟩
 ·have h2:((W.tasks t.toNat).st==0)=false:=by simpa using h2
  have e:hB W t=7:=by unfold hB;rw[j,h2];rfl
  have k:(hB W t==0)=false:=by rw[e];rfl
  refine⟨e.symm,?_⟩;have g:=Hf k;have c:iW W t=_:=congrArg Wd.tasks g;have b:iV W t=_:=congrArg Wd.al g;have d:iX W t=_:=congrArg Wd.ready g;simp only[c,b,d];clear g c b d
  repeat' (first|exact trivial|exact cE rfl|rfl|refine And.intro ?_ ?_|intro _|fail)
 ·have h2:((W.tasks t.toNat).st==0)=true:=by simpa using h2
  have e:hB W t=0:=by unfold hB;rw[j,h2];rfl
  have k:(hB W t==0)=true:=by rw[e];rfl
  refine⟨Gw l (by decide) t0 (by omega),e.symm,?_⟩;have g:=OP k;have c:iW W t=_:=congrArg Wd.tasks g;have b:iV W t=_:=congrArg Wd.al g;have d:iX W t=_:=congrArg Wd.ready g;simp only[c,b,d];clear g c b d
  repeat' (first|exact trivial|exact cE rfl|rfl|refine And.intro ?_ ?_|intro _|fail)
theorem T0.out {W:Wd} {c:Nat} (h:T0 W) (g:c<W.aC):T0 (e_ W c):=by
 unfold e_;cases i:rC W c with
 |false=>exact h
 |true=>
  show T0 (tQ W c);unfold rC at i;simp only[aW,decide_eq_true_eq]at i;obtain⟨a1,j,a3,a4⟩:=T0.core h g (by omega);have et:((W.ai c).toNat:Int)=W.ai c:=by omega
  have l:∀d,d<W.aC->o_ W c d=dC W ((W.ai c).toNat:Nat) d:=λd hd=>by
   rw[et];unfold o_ dC;rcases aT (d=c)with e|e
   ·subst e;rw[bg,beq_self_eq_true];rfl
   ·rw[bh e];cases b:W.ai d==W.ai c with
    |false=>rfl
    |true=>have b:=eq_of_beq b;have:=(T0.core h hd (by omega)).2.2.2;rw[b,a4]at this;exact absurd (CM this).symm e
  obtain⟨o1,n,o,p⟩:=TS.R' l h (by omega) j id a3 ⟨c,g,et.symm⟩;exact(TS.vI (W:=xw W c) o1 (.inr rfl) (by show _<W.ak;omega) j n o p).vJ λf _ k=>k.1.elim id λe=>k.2 e
theorem OO {W:Wd} {c:Nat}:(dM W (ea W c)=true->qa W c={W with ai:=aj W.ai c (W.ready (ea W c) (mZ W (ea W c))),al:=aj W.al (ea W c) (W.al (ea W c) -1),ready:=aj W.ready (ea W c) (lV (W.ready (ea W c)) (mZ W (ea W c)))})/\(dM W (ea W c)=false->qa W c=W):=by
 constructor
 ·intro b;have d:pb W c=aj W.ai c (W.ready (ea W c) (mZ W (ea W c))):=by funext j;unfold pb;rw[b];rfl
  have e:m5 W c=aj W.al (ea W c) (W.al (ea W c) -1):=by funext j;unfold m5;rw[b];rfl
  have e3:og W c=aj W.ready (ea W c) (lV (W.ready (ea W c)) (mZ W (ea W c))):=by funext j k;unfold og;rw[b];rfl
  unfold qa;rw[d,e,e3]
 ·intro b;have d:pb W c=W.ai:=by funext j;unfold pb;rw[b];rfl
  have e:m5 W c=W.al:=by funext j;unfold m5;rw[b];rfl
  have e3:og W c=W.ready:=by funext j k;unfold og;rw[b];rfl
  unfold qa;rw[d,e,e3]
theorem Y9 {W:Wd} {c:Nat}:ea W c/4=c:=by unfold ea;cases dM W (c*4+3)<;>cases dM W (c*4+2)<;>cases dM W (c*4+1)<;>simp only[cond_true,cond_false]<;>omega
theorem T0.mT {W:Wd} {c:Nat} (h:T0 W) (g:c<W.aC):T0 (aM W c):=by
 have ho:=h.out g;have b:c<(e_ W c).aC:=by unfold e_;cases rC W c<;>exact g
 unfold aM;cases hd:decide ((e_ W c).ai c<0)with
 |false=>exact ho
 |true=>
  show T0 (qa (e_ W c) c);have hd:=of_decide_eq_true hd;cases d:dM (e_ W c) (ea (e_ W c) c)with
  |false=>rw[OO.2 d];exact ho
  |true=>rw[OO.1 d];have j:=ho.z.ready;have i:=Y9 (W:=e_ W c) (c:=c);refine TS.run ho (by omega) (of_decide_eq_true (by rw[<-lS];exact d)) b i ?_;exact fN λe=>by have:=(T0.core ho b e).1;omega
theorem T0.tm {W:Wd} {t:Int} (d:mb W t=0):t.toNat<W.ak/\W.kinds t.toNat=6:=by obtain⟨a,b,c⟩:=Sa d;exact⟨by omega,c⟩
theorem T0.start {W:Wd} {t:Int} (h:T0 W):T0 (jG W t):=by
 cases b:hB W t==0 with
 |false=>rw[Hf b];exact h
 |true=>
  rw[OP b];have b:=eq_of_beq b;unfold hB at b;cases h1:mb W t==0 with
  |false=>rw[h1]at b;exact absurd b (beq_eq_false_iff_ne.1 h1)
  |true=>
   rw[h1]at b;obtain⟨d,g⟩:=T0.tm (eq_of_beq h1);have hs:(W.tasks t.toNat).st=0:=by
    cases h2:(W.tasks t.toNat).st==0 with
    |true=>exact eq_of_beq h2
    |false=>rw[h2]at b;exact absurd (show(7:Int)=0 from b) (by decide)
   obtain⟨i,j,i3⟩:=(h.so _ d g id).idle (.inl hs);have ho:bV W t.toNat=0:=by
    have o:=h.o1 _ d g;have:bV W t.toNat≠1:=λe=>by have:=(o.2 id).1 e;omega
    omega
   exact(TS.vI (h.wk (Y:=λf=>f=t.toNat) λ_ c=>c.elim) rfl d g i j ho).vJ λf _ c=>(c.2 c.1).elim
theorem Mc {p:Nat->Bool} {i:Nat}:∀{n:Nat},i<n->p i=true->bD i p+1<=bD n p
 |0,h,_=>absurd h (dS _)
 |n+1,h,hp=>by
  rcases bR i n with h1|h1
  ·have:=Mc h1 hp;show _<=bD n p+_;omega
  ·obtain rfl:i=n:=by omega
   show _<=bD i p+_;rw[hp];exact bc _
theorem Cb {p:Nat->Bool} {n i j:Nat} (b:i<j) (c:j<n) (d:p i=true) (hp:p j=true):2<=bD n p:=by have h1:=Mc c hp;have h2:=qv b d;omega
theorem ON {p:Nat->Bool} {l:Nat->Int} {x z:Int}:∀n,cf (d' p n) (f_ z p l n) x=bD n λk=>!p k&&l k==x
 |0=>rfl
 |n+1=>by
  have b:=ON (p:=p) (l:=l) (x:=x) (z:=z) n;rw[bD,<-b];cases hp:p n with
  |true=>
   have e:f_ z p l (n+1)=f_ z p l n:=by funext a;rw[f_,hp];rfl
   rw[e,d',hp];rfl
  |false=>
   rw[d',hp];show cf (d' p n+1) _ x=_;unfold cf;rw[bD];congr 1
   ·refine hV λk c=>?_;rw[f_,dt (by omega)];cases p n<;>rfl
   ·rw[f_,hp,cy];rfl
theorem He {p:Nat->Bool} {l:Nat->Int} {z:Int}:∀{n a},a<d' p n->∃j,j<n/\p j=false/\f_ z p l n a=l j
 |0,_,h=>absurd h (dS _)
 |n+1,a,h=>by
  rw[d']at h;cases hp:p n with
  |true=>rw[hp]at h;obtain⟨j,h1,h2,b⟩:=He (l:=l) (z:=z) (show a<d' p n from h);exact⟨j,by omega,h2,by rw[f_,hp];exact b⟩
  |false=>
   rw[hp]at h;have h:a<d' p n+1:=h;rcases bR a (d' p n)with e|e
   ·obtain⟨j,h1,h2,b⟩:=He (l:=l) (z:=z) e;refine⟨j,by omega,h2,?_⟩;rw[f_,hp,dt (by omega)];exact b
   ·obtain rfl:a=d' p n:=by omega
    exact⟨n,by omega,hp,by rw[f_,hp,cy];rfl⟩
theorem zj {n:Nat} {l:Nat->Int} {t x:Int}:cf (mX n l t) (jr n l t) x=bif x==t then 0 else cf n l x:=by
 unfold mX jr;rw[ON];cases b:x==t with
 |true=>refine kJ.2 λi _=>?_;unfold rp;rw[eq_of_beq b];cases l i==t<;>rfl
 |false=>
  refine hV λi _=>?_;unfold rp;cases hl:l i==x with
  |false=>simp
  |true=>rw[eq_of_beq hl,b];rfl
theorem CL {n a:Nat} {l:Nat->Int} {t:Int} (h:a<mX n l t):∃j,j<n/\l j≠t/\jr n l t a=l j:=by obtain⟨j,h1,h2,b⟩:=He (l:=l) (z:=0) h;exact⟨j,h1,by simpa [rp]using h2,b⟩
theorem Q9 {n:Nat} {l:Nat->Int} {t:Int} (h:0<mX n l t):0<n:=by obtain⟨j,h1,_⟩:=CL h;omega
theorem TS.leave {X:Nat->Prop} {W:Wd} {t:Nat} (h:TS X W):TS (λf=>X f\/f=t) {W with ah:=mM W t,lines:=mY W t,ai:=dC W t,al:=lb W t,ready:=lo W t}/\cB {W with ah:=mM W t,lines:=mY W t,ai:=dC W t,al:=lb W t,ready:=lo W t} t=0/\cu {W with ah:=mM W t,lines:=mY W t,ai:=dC W t,al:=lb W t,ready:=lo W t} t=0:=by
 have eq:∀x:Nat,x≠t->((x:Int)==(t:Int))=false:=λx y=>beq_eq_false_iff_ne.2 (by omega);have c0:∀x:Nat,x≠t->cf W.aC (dC W t) x=cf W.aC W.ai x:=λx y=>hV λj z=>by
  show(dC W t j==(x:Int))=(W.ai j==(x:Int));unfold dC;cases g:W.ai j==(t:Int)with
  |false=>rfl
  |true=>rw[eq_of_beq g,beq_eq_false_iff_ne.2 (show(t:Int)≠x by omega)];exact beq_eq_false_iff_ne.2 (show(-1:Int)≠x by omega)
 refine⟨(h.wk (Y:=λf=>X f\/f=t) λf o=> .inl o).lists rfl rfl rfl rfl (λf o p=>⟨?_,?_,λa J n=>?_⟩) (λf o=>?_) (λc A=>?_) (λi B=>?_),?_,?_⟩
 ·exact ye λi _=>by show cf (mX _ _ _) (jr _ _ _) _=_;rw[zj,eq f λe=>p (.inr e)];rfl
 ·show iL W.aR (λi=>cf (lb W t i) (lo W t i) f)+cf W.aC (dC W t) f=iL W.aR (λi=>cf (W.al i) (W.ready i) f)+cf W.aC W.ai f;rw[c0 f λe=>p (.inr e)];congr 1;exact ye λi _=>by show cf (mX _ _ _) (jr _ _ _) _=_;rw[zj,eq f λe=>p (.inr e)];rfl
 ·rw[wC]at n⊢;show cf (mX _ _ _) (jr _ _ _) _≠0;rw[zj,eq f λe=>p (.inr e)];exact n
 ·obtain⟨C,l2,E,v⟩:=dY.1 (h.ln f o);refine dY.2 ⟨λhl=>C (Q9 hl),λg=>⟨(l2 g).1,?_⟩,E,λk q=>?_⟩
  ·show mX (W.ah f) (W.lines f) t=0;refine fN λe=>?_;have:=Q9 (yO e);have:=(l2 g).2;omega
  ·obtain⟨j,r,_,u⟩:=CL q;obtain⟨i,G,_,i3⟩:=CL (yP (gf _) q);obtain⟨a,b,c,d⟩:=v j r;obtain⟨_,_,_,I⟩:=v i G;show(0<=jr (W.ah f) (W.lines f) t k/\jr (W.ah f) (W.lines f) t k<W.ak)/\W.kinds (jr (W.ah f) (W.lines f) t k).toNat=6/\(W.tasks (jr (W.ah f) (W.lines f) t k).toNat).loc=f/\jq W (jr (W.ah f) (W.lines f) t k)=jq W (jr (W.ah f) (W.lines f) t 0);rw[u,i3];exact⟨a,b,c,d.trans I.symm⟩
 ·refine jv.2 λl=>?_;have l:dC W t c≠ -1:=l;show RD W (dC W t c) c (-1);have e:dC W t c=W.ai c:=by
   unfold dC at l⊢;cases g:W.ai c==(t:Int)with
   |false=>rfl
   |true=>rw[g]at l;exact absurd rfl l
  rw[e]at l⊢;exact jv.1 (h.co c A) l
 ·refine iG.2 λk q=>?_;obtain⟨j,r,_,u⟩:=CL q;show RD W (jr (W.al i) (W.ready i) t k) _ _;rw[u];exact iG.1 (h.rl i B) j r
 ·exact yo.2 λi _=>by show cf (mX _ _ _) (jr _ _ _) _=0;rw[zj,beq_self_eq_true];rfl
 ·show iL W.aR (λi=>cf (lb W t i) (lo W t i) t)+cf W.aC (dC W t) t=0;rw[yo.2 λi _=>by show cf (mX _ _ _) (jr _ _ _) _=0;rw[zj,beq_self_eq_true];rfl,yn.2 λj z=>by
   unfold dC;cases g:W.ai j==(t:Int)with
   |false=>simpa using g
   |true=>show(-1:Int)≠t;omega]
theorem TS.stp {X:Nat->Prop} {W:Wd} {t:Nat} (h:TS X W) (j:t<W.ak) (k:W.kinds t=6):TS (λf=>X f/\f≠t) (bL W t):=by
 obtain⟨h1,s1,s2⟩:=h.leave (t:=t);have z:=h.z;have V:=z.tasks;obtain⟨Y,Z,n3⟩:=h.nm t j k;have h2:TS (λf=>X f\/f=t) {W with tasks:=λi=>fl (W.tasks i) t,ah:=mM W t,lines:=mY W t,ai:=dC W t,al:=lb W t,ready:=lo W t}/\bV {W with tasks:=λi=>fl (W.tasks i) t,ah:=mM W t,lines:=mY W t,ai:=dC W t,al:=lb W t,ready:=lo W t} t=0:=by
  have o0:bV {W with tasks:=λi=>fl (W.tasks i) t,ah:=mM W t,lines:=mY W t,ai:=dC W t,al:=lb W t,ready:=lo W t} t=0:=kJ.2 λi _=>by
   show((fl (W.tasks i) t).ar==(t:Int))=false;unfold fl;dsimp only;cases G:(W.tasks i).ar==(t:Int)with
   |false=>exact G
   |true=>exact beq_eq_false_iff_ne.2 (show(-1:Int)≠t by omega)
  refine⟨?_,o0⟩;rcases ta (∃u,u<W.ak/\(W.tasks u).ar=(t:Int))with⟨u,E,b⟩|q
  ·have x:W.kinds u=6:=fN λe=>by rw[h.bl u E e]at b;exact absurd b (show(-1:Int)≠t by omega)
   obtain⟨I,m2⟩:=h1.Aa (u:=u) (v:= -1) E x (.inr (by
    show X (W.tasks u).ar.toNat\/(W.tasks u).ar.toNat=t;rw[b];exact .inr (by omega))) (.inl rfl)
   refine TS.S2 (W:={W with tasks:=aj W.tasks u {W.tasks u with ar:= -1},ah:=mM W t,lines:=mY W t,ai:=dC W t,al:=lb W t,ready:=lo W t}) I λf l=>?_;show fl (W.tasks f) t=aj W.tasks u {W.tasks u with ar:= -1} f;rcases aT (f=u)with e|e
   ·subst e;rw[bg];unfold fl;rw[b,beq_self_eq_true];rfl
   ·rw[bh e];have y:(W.tasks f).ar≠t:=λJ=>by
     have a:=(h.o1 t j k).1;have hc:2<=bV W t:=by
      have c:((W.tasks u).ar==(t:Int))=true:=beq_iff_eq.2 b;have d:((W.tasks f).ar==(t:Int))=true:=beq_iff_eq.2 J;rcases bR f u with g|g
      ·exact Cb (p:=λi=>(W.tasks i).ar==(t:Int)) g (by omega) d c
      ·exact Cb (p:=λi=>(W.tasks i).ar==(t:Int)) (show u<f by omega) (by have:f<W.ak:=l;omega) c d
     omega
    unfold fl;rw[beq_eq_false_iff_ne.2 y];rfl
  ·refine TS.S2 (W:={W with ah:=mM W t,lines:=mY W t,ai:=dC W t,al:=lb W t,ready:=lo W t}) h1 λf l=>?_;show fl (W.tasks f) t=W.tasks f;unfold fl;rw[beq_eq_false_iff_ne.2 λe=>q ⟨f,l,e⟩];rfl
 obtain⟨h2,K⟩:=h2;obtain⟨A,B,C⟩:=h2.nm t j k;have O:=h2.set (t:=t) (r:={fl (W.tasks t) t with st:=0,loc:= -1}) j k A (sn B (by decide)) C rfl (.inl ⟨.inr rfl,s1,s2⟩);have e:bL W t={W with tasks:=aj (λi=>fl (W.tasks i) t) t {fl (W.tasks t) t with st:=0,loc:= -1},ah:=mM W t,lines:=mY W t,ai:=dC W t,al:=lb W t,ready:=lo W t}:=by
  have:I5 W t=aj (λi=>fl (W.tasks i) t) t {fl (W.tasks t) t with st:=0,loc:= -1}:=by
   funext i;unfold I5 ma;rw[cj];rcases aT (i=t)with e|e
   ·subst e;rw[bg,bg];rfl
   ·rw[bh e,bh e]
  unfold bL;rw[this]
 rw[e];refine O.lv λf l h6 R S=>?_;obtain rfl:f=t:=fN λe=>S ⟨R.resolve_right e,e⟩;have n:∀{T:Type} (p:aF->T),p (aj (λi=>fl (W.tasks i) f) f {fl (W.tasks f) f with st:=0,loc:= -1} f)=p {fl (W.tasks f) f with st:=0,loc:= -1}:=λp=>by rw[bg]
 have U:bV {W with tasks:=aj (λi=>fl (W.tasks i) f) f {fl (W.tasks f) f with st:=0,loc:= -1},ah:=mM W f,lines:=mY W f,ai:=dC W f,al:=lb W f,ready:=lo W f} f=0:=
  (pA (W:={W with tasks:=λi=>fl (W.tasks i) f,ah:=mM W f,lines:=mY W f,ai:=dC W f,al:=lb W f,ready:=lo W f}) (t:=f) (r:={fl (W.tasks f) f with st:=0,loc:= -1}) rfl f).trans K
 rw[U];refine⟨⟨λh=>absurd h (by decide),λh=>?_⟩,.o (.inl (n aF.st)) s1 s2 (n aF.loc),λ_=>?_⟩
 ·have h:(aj (λi=>fl (W.tasks i) f) f {fl (W.tasks f) f with st:=0,loc:= -1} f).st=5:=h;rw[n aF.st]at h;exact absurd (show(0:Int)=5 from h) (by decide)
 ·show(aj (λi=>fl (W.tasks i) f) f {fl (W.tasks f) f with st:=0,loc:= -1} f).st≠4;rw[n aF.st];exact(by decide:(0:Int)≠4)
def ll (n:Nat) (af:Nat->Int) (e:dG):Bool:=!((gT n af e.sp (16*e.pg)==0)&&(jO n af e.sp (16*e.pg)==e.fr)&&(jP n af e.sp (16*e.pg)==e.wr))
def AT (f:Int) (e:dG):Bool:=e.sp==f
def vQ (p:dG->Bool) (W:Wd) (c:Nat):Nat:=d' (λi=>p (W.ax c i)) (W.aD c)
def kv (p:dG->Bool) (W:Wd) (c:Nat):Nat->dG:=f_ xW (λi=>p (W.ax c i)) (W.ax c) (W.aD c)
structure TlR (W:Wd):Prop where
 z:bQ W
 af:∀i,i<W.ay->m6 (W.af i)
 tn:∀c,c<W.aQ->W.aD c<=1000
 pg:∀c,c<W.aQ->∀k,k<W.aD c->0<=(W.ax c k).pg/\(W.ax c k).pg<=255
def ib (f:Nat->Nat) (i j:Nat):Nat:=bif Nat.blt j i then f j else 0
theorem zq {f:Nat->Nat} {i j:Nat} (h:j<i):ib f i j=f j:=by unfold ib;rw[gY h];rfl
theorem wV {f:Nat->Nat} {i j:Nat} (h:i<=j):ib f i j=0:=by unfold ib;rw[kZ h];rfl
theorem Md {f:Nat->Nat} {i j:Nat}:(bif j.beq i then f i else ib f i j)=ib f (i+1) j:=by
 rcases B8 j i with h|h|h
 ·rw[dt (by omega),zq h,zq (by omega:j<i+1)];rfl
 ·subst h;rw[cy,zq (qx _)];rfl
 ·rw[dt (by omega),wV (by omega),wV (by omega:i+1<=j)];rfl
theorem zr {b:Type} {f:Nat->b} {i j:Nat}:(bif j.beq i then f i else f j)=f j:=by
 rcases aT (j=i)with h|h
 ·subst h;cases j.beq j<;>rfl
 ·rw[dt h];rfl
theorem aci {c:Bool} {f:Nat->dG} {i j:Nat} (h:c=j.beq i):(((bif c then(f i).sp else(f j).sp)=(f j).sp/\(bif c then(f i).pg else(f j).pg)=(f j).pg)/\(bif c then(f i).fr else(f j).fr)=(f j).fr)/\(bif c then(f i).wr else(f j).wr)=(f j).wr:=by subst h;exact⟨⟨⟨zr (f:=λx=>(f x).sp),zr (f:=λx=>(f x).pg)⟩,zr (f:=λx=>(f x).fr)⟩,zr (f:=λx=>(f x).wr)⟩
def Z4 (a b:Nat) (n:Nat) (ln:Nat->Nat) (l:Nat->Nat->Int):cQ where
 σ:=Nat
 rt:= [(a,1)]
 sh i:= [(a,.aS 0 0 none 0 n),(b,.v (.int .i64 i))]
 mh i:= [(0,.row 1 n λj _=> .il 1 (ib ln i j) (iF (l j)))]
 inv i:=i<=n
 μ i:=n -i
 init:=0
def Z5 (a b:Nat) (n:Nat) (ln:Nat->Nat) (l:Nat->Nat->dG):cQ where
 σ:=Nat
 rt:= [(a,1)]
 sh i:= [(a,.aS 0 0 none 0 n),(b,.v (.int .i64 i))]
 mh i:= [(0,.row 1 n λj _=> .il 4 (ib ln i j) (rF λk=>iO (l j k)))]
 inv i:=i<=n
 μ i:=n -i
 init:=0
structure Lg (W:Wd):Prop where
 af:W.ay<=1000
 kinds:W.ak<=1000
 aa:W.ao<=1000
 tasks:W.aO<=1000
 lines:W.aX<=1000
 bits:W.aP<=1000
 ai:W.aC<=1000
 ready:W.aR<=1000
 ax:W.aQ<=1000
 aA:W.aL<=1000
 ah:∀i,i<W.aX->W.ah i<=1000
 al:∀i,i<W.aR->W.al i<=1000
 aD:∀i,i<W.aQ->W.aD i<=1000
structure kN where
 (n:Nat) (l:Nat->Int)
def qw:Sy.Spec:=⟨kN,λ⟨n,l⟩=> [.sl true 1 n (λb _=> .v (.int .i64 (l b)))],λ_=> [],λ⟨n,_⟩=>n<=100000,λ⟨n,_⟩=> .aS 0 0 none 0 n,λ⟨n,l⟩=> [.row 1 n (iF l)],
 λargs mem=>match args with| [a0]=>some ⟨bT a0,λi=>av (bO a0 i 0)⟩|_=>none⟩
def WB:aZ:=⟨[],(qw).g,none⟩
def Me:kN->Prop:=λ⟨n,l⟩=>∀a0:Bool,(a0=true->n=0)->(a0=true->(0=0/\0=n)/\(0=n/\(∀b0:Nat,b0<n->True/\SV.aI=SV.v (Value.int IntKind.i64 (l b0))))/\True)/\(a0=false->True/\(n*8<=140737488355328/\(∀c0:Nat,true=true))/\(0=0/\n=n)/\(n=n/\(∀d0:Nat,d0<n->True/\l d0=l d0))/\True)
theorem KD:aY Tryz.prog bk 80 WB:=bn .nil false Tryz.call80 Tryz.func80 (λ_=> []) (V:=Me) (λ_=>by kernel_rfl) λ⟨n,l⟩ hp=>by
 dsimp only[qw]at hp;dsimp only[Me,tn,aw,aB,aJ,aK,aG];simp only[bq,eq_self,implies_true,bo];intro b c;refine⟨λh=>?_,λ_=>?_⟩
 ·have:=c h;subst this;exact⟨rfl,rfl,λi d=>absurd d (by omega)⟩
 ·omega
structure BR where
 (n:Nat) (l:Nat->bM)
def FH:Sy.Spec:=⟨BR,λ⟨n,l⟩=> [.sl true 7 n (rF λi=>mU (l i))],λ_=> [],λ⟨n,_⟩=>n<=100000,λ⟨n,_⟩=> .aS 0 0 none 0 n,λ⟨n,l⟩=> [.row 7 n (rF λi=>mU (l i))],
 λargs mem=>match args with| [a0]=>some ⟨bT a0,λi=>DF (λj=>bO a0 i j)⟩|_=>none⟩
def WC:aZ:=⟨[],(FH).g,none⟩
def Mf:BR->Prop:=λ⟨n,l⟩=>∀a0:Bool,(a0=true->n=0)->(a0=true->(0=0/\0=n)/\(0=n/\(∀b0:Nat,let c0:=l b0;b0<n->((((((True/\SV.aI=SV.v (Value.int IntKind.i64 c0.kind))/\SV.aI=SV.v (Value.int IntKind.i64 c0.base))/\SV.aI=SV.v (Value.int IntKind.i64 c0.len))/\SV.aI=SV.v (Value.int IntKind.i64 c0.mark))/\SV.aI=SV.v (Value.int IntKind.i64 c0.cd))/\SV.aI=SV.v (Value.int IntKind.i64 c0.aH))/\SV.aI=SV.v (Value.int IntKind.i64 c0.from_)))/\True)/\(a0=false->True/\(n*56<=140737488355328/\(∀d0:Nat,true=true))/\(0=0/\n=n)/\(n=n/\(∀e0:Nat,e0<n->aK (l e0) (l e0)))/\True)
theorem U':aY Tryz.prog bk 81 WC:=bn .nil false Tryz.call81 Tryz.func81 (λ_=> []) (V:=Mf) (λ_=>by kernel_rfl) λ⟨n,l⟩ hp=>by
 dsimp only[FH]at hp;dsimp only[Mf,tn,aw,aB,aJ,aK,aG];simp only[bq,eq_self,implies_true,bo];intro b c;refine⟨λh=>?_,λ_=>?_⟩
 ·have:=c h;subst this;exact⟨rfl,rfl,λi d=>absurd d (by omega)⟩
 ·omega
structure BS where
 (n:Nat) (l:Nat->aF)
def FI:Sy.Spec:=⟨BS,λ⟨n,l⟩=> [.sl true 20 n (rF λi=>la (l i))],λ_=> [],λ⟨n,_⟩=>n<=100000,λ⟨n,_⟩=> .aS 0 0 none 0 n,λ⟨n,l⟩=> [.row 20 n (rF λi=>la (l i))],
 λargs mem=>match args with| [a0]=>some ⟨bT a0,λi=>Dg (λj=>bO a0 i j)⟩|_=>none⟩
def WD:aZ:=⟨[],(FI).g,none⟩
def Mg:BS->Prop:=λ⟨n,l⟩=>∀a0:Bool,(a0=true->n=0)->(a0=true->(0=0/\0=n)/\(0=n/\(∀b0:Nat,let c0:=l b0;b0<n->(((((((((((((((((((True/\SV.aI=SV.v (Value.int IntKind.i64 c0.r0))/\SV.aI=SV.v (Value.int IntKind.i64 c0.r1))/\SV.aI=SV.v (Value.int IntKind.i64 c0.r2))/\SV.aI=SV.v (Value.int IntKind.i64 c0.r3))/\SV.aI=SV.v (Value.int IntKind.i64 c0.r4))/\SV.aI=SV.v (Value.int IntKind.i64 c0.r5))/\SV.aI=SV.v (Value.int IntKind.i64 c0.r6))/\SV.aI=SV.v (Value.int IntKind.i64 c0.r7))/\SV.aI=SV.v (Value.int IntKind.i64 c0.pc))/\SV.aI=SV.v (Value.int IntKind.i64 c0.st))/\SV.aI=SV.v (Value.int IntKind.i64 c0.prio))/\SV.aI=SV.v (Value.int IntKind.i64 c0.node))/\SV.aI=SV.v (Value.int IntKind.i64 c0.space))/\SV.aI=SV.v (Value.int IntKind.i64 c0.helper))/\SV.aI=SV.v (Value.int IntKind.i64 c0.loc))/\SV.aI=SV.v (Value.int IntKind.i64 c0.word))/\SV.aI=SV.v (Value.int IntKind.i64 c0.aH))/\SV.aI=SV.v (Value.int IntKind.i64 c0.ar))/\SV.aI=SV.v (Value.int IntKind.i64 c0.core))/\SV.aI=SV.v (Value.int IntKind.i64 c0.cI)))/\True)/\(a0=false->True/\(n*160<=140737488355328/\(∀d0:Nat,true=true))/\(0=0/\n=n)/\(n=n/\(∀e0:Nat,e0<n->aJ (l e0) (l e0)))/\True)
theorem Va:aY Tryz.prog bk 82 WD:=bn .nil false Tryz.call82 Tryz.func82 (λ_=> []) (V:=Mg) (λ_=>by kernel_rfl) λ⟨n,l⟩ hp=>by
 dsimp only[FI]at hp;dsimp only[Mg,tn,aw,aB,aJ,aK,aG];simp only[bq,eq_self,implies_true,bo];intro b c;refine⟨λh=>?_,λ_=>?_⟩
 ·have:=c h;subst this;exact⟨rfl,rfl,λi d=>absurd d (by omega)⟩
 ·omega
structure NR where
 (n:Nat) (ln:Nat->Nat) (l:Nat->Nat->Int)
def NS:Sy.Spec:=⟨NR,λ⟨n,ln,l⟩=> [.sl true 1 n (λi _=> .sl true 1 (ln i) (iF (l i)))],λ_=> [],λ⟨n,ln,_⟩=>n<=1000/\∀i,i<n->ln i<=1000,λ⟨n,_,_⟩=> .aS 0 0 none 0 n,λ⟨n,ln,l⟩=> [.row 1 n λi _=> .il 1 (ln i) (iF (l i))],
 λargs mem=>match args with| [a0]=>some ⟨bT a0,λi=>bT (bO a0 i 0),λi k=>av (bO (bO a0 i 0) k 0)⟩|_=>none⟩
def Yn:aZ:=⟨[],(NS).g,none⟩
def NT:NR->Prop:=λ⟨n,ln,l⟩=>let a0:=(n:Int);let b0:=Int.toNat a0=n;let c0:=0=0/\n=n;a0<=9223372036854775807->(0<=a0/\a0<=a0/\((24:Nat):Int)*a0<=140737488355328)/\(a0<=9223372036854775807->(0=0/\b0)/\0=((0:Nat):Int)/\((b0/\(∀d0:Nat,d0<n->True/\0=ib ln 0 d0/\(∀e0:Nat,e0<ib ln 0 d0->True/\SV.aI=SV.v (Value.int IntKind.i64 (l d0 e0)))))/\True)/\0<=n/\(∀c:Nat,let h0:=(c:Int);let k0:=decide (h0<a0);let g:=0<=h0/\h0<a0;let o0:=Int.toNat h0;let d:=ln o0;let r0:Int:=h0+1;let h:=0+o0;c<=n->(k0=true->g/\(((d=d/\(∀v0:Nat,v0<d->True/\l o0 v0=l o0 v0))/\True)/\True/\qw.match_1 (λw0:kN=>Prop) (kN.mk d (l o0)) (λi:Nat=>λj:∀z0:Nat,Int=>i<=100000))/\g/\(∀a1:Nat,Nat.beq 1 1=true)/\aw r0=r0/\(∃b1:Nat,c0/\r0=(b1:Int)/\((n=n/\(∀c1:Nat,c1<n->True/\cond (Nat.beq c1 h) d (ib ln c c1)=ib ln b1 c1/\(∀d1:Nat,d1<ib ln b1 c1->True/\cond (Nat.beq c1 h) (l o0 d1) (l c1 d1)=l c1 d1)))/\True)/\b1<=n/\n-b1<n-c))/\(k0=false->c0/\(n=n/\(∀b:Nat,b<n->True/\ib ln c b=ln b/\(∀e:Nat,e<ln b->True/\l b e=l b e)))/\True)))
theorem WE:aY Tryz.prog bk 83 Yn:=bn (.cons KD .nil) false Tryz.call83 Tryz.func83 (λ⟨n,ln,l⟩=> [.inv (Z4 3 11 n ln l)]) (V:=NT) (λ_=>by kernel_rfl) λ⟨n,ln,l⟩ hp=>by
 dsimp only[NS]at hp;dsimp only[NT,tn,aw,aB,aJ,aK,aG];simp only[bq,bx,eq_self,implies_true,bo];refineλ_=>⟨by omega,λ_=>⟨λj d=>⟨(wV (gf _)).symm,λk b=>by rw[wV (gf _)]at b;exact absurd b (dS _)⟩,λs hs=>⟨λh=>?_,λh=>?_⟩⟩⟩
 ·have c:=fh h;have:=hp.2 s c;exact⟨by omega,by omega,by omega,λ_=>rfl,du (by omega) (by omega),s+1,by omega,λj d=>⟨Md,λk b=>zr (f:=λx=>l x k)⟩,by omega,by omega⟩
 ·have e:=fq h;exactλj d=>zq (by omega)
structure NU where
 (n:Nat) (ln:Nat->Nat) (l:Nat->Nat->dG)
def NV:Sy.Spec:=⟨NU,λ⟨n,ln,l⟩=> [.sl true 1 n (λi _=> .sl true 4 (ln i) (rF λk=>iO (l i k)))],λ_=> [],λ⟨n,ln,_⟩=>n<=1000/\∀i,i<n->ln i<=1000,λ⟨n,_,_⟩=> .aS 0 0 none 0 n,λ⟨n,ln,l⟩=> [.row 1 n λi _=> .il 4 (ln i) (rF λk=>iO (l i k))],
 λargs mem=>match args with| [a0]=>some ⟨bT a0,λi=>bT (bO a0 i 0),λi k=>rj (λj=>bO (bO a0 i 0) k j)⟩|_=>none⟩
def Yo:aZ:=⟨[],(NV).g,none⟩
def NW:NU->Prop:=λ⟨n,ln,l⟩=>let a0:=(n:Int);let b0:=Int.toNat a0=n;let c0:=0=0/\n=n;a0<=9223372036854775807->(0<=a0/\a0<=a0/\((24:Nat):Int)*a0<=140737488355328)/\(a0<=9223372036854775807->(0=0/\b0)/\0=((0:Nat):Int)/\((b0/\(∀d0:Nat,d0<n->True/\0=ib ln 0 d0/\(∀e0:Nat,let e:=l d0 e0;e0<ib ln 0 d0->(((True/\SV.aI=SV.v (Value.int IntKind.i64 e.sp))/\SV.aI=SV.v (Value.int IntKind.i64 e.pg))/\SV.aI=SV.v (Value.int IntKind.i64 e.fr))/\SV.aI=SV.v (Value.bool e.wr))))/\True)/\0<=n/\(∀h0:Nat,let k0:=(h0:Int);let i:=decide (k0<a0);let o0:=0<=k0/\k0<a0;let b:=Int.toNat k0;let r0:=ln b;let g:Int:=k0+1;let v0:=0+b;h0<=n->(i=true->o0/\(((r0=r0/\(∀w0:Nat,w0<r0->aG (l b w0) (l b w0)))/\True)/\True/\FF.match_1 (λk:BP=>Prop) (BP.mk r0 (l b)) (λj:Nat=>λz0:∀a1:Nat,dG=>j<=100000))/\o0/\(∀b1:Nat,Nat.beq 4 4=true)/\aw g=g/\(∃c1:Nat,c0/\g=(c1:Int)/\((n=n/\(∀d1:Nat,let d:=Nat.beq d1 v0;d1<n->True/\cond d r0 (ib ln h0 d1)=ib ln c1 d1/\(∀h:Nat,let h1:=l b h;let k1:=l d1 h;h<ib ln c1 d1->aG (dG.mk (cond d h1.sp k1.sp) (cond d h1.pg k1.pg) (cond d h1.fr k1.fr) (cond d h1.wr k1.wr)) k1)))/\True)/\c1<=n/\n-c1<n-h0))/\(i=false->c0/\(n=n/\(∀c:Nat,c<n->True/\ib ln h0 c=ln c/\(∀o1:Nat,o1<ln c->aG (l c o1) (l c o1))))/\True)))
theorem WG:aY Tryz.prog bk 84 Yo:=bn (.cons U6 .nil) false Tryz.call84 Tryz.func84 (λ⟨n,ln,l⟩=> [.inv (Z5 3 11 n ln l)]) (V:=NW) (λ_=>by kernel_rfl) λ⟨n,ln,l⟩ hp=>by
 dsimp only[NV]at hp;dsimp only[NW,tn,aw,aB,aJ,aK,aG];simp only[bq,bx,eq_self,implies_true,bo];refineλ_=>⟨by omega,λ_=>⟨λj d=>⟨(wV (gf _)).symm,λk b=>by rw[wV (gf _)]at b;exact absurd b (dS _)⟩,λs hs=>⟨λh=>?_,λh=>?_⟩⟩⟩
 ·have c:=fh h;have:=hp.2 s c;exact⟨by omega,by omega,by omega,λ_=>rfl,du (by omega) (by omega),s+1,by omega,λj d=>⟨Md,λk b=>aci (f:=λx=>l x k) rfl⟩,by omega,by omega⟩
 ·have e:=fq h;exactλj d=>zq (by omega)
structure ox where
 (W:Wd)
def wq:Sy.Spec:=⟨ox,λ⟨W⟩=> [hK W],λ_=> [],λ⟨W⟩=>Lg W,λ⟨W⟩=>xI 0 W,λ⟨W⟩=>tI W,
 λargs mem=>match args with| [a0]=>some ⟨jj a0⟩|_=>none⟩
def WH:aZ:=⟨[],(wq).g,none⟩
def Mh:ox->Prop:=λ⟨W⟩=>let a0:=W.ay;let b0:=W.ak;let c0:=W.ao;let d0:=W.aO;let e0:=W.aP;let c:=W.aC;let h0:=W.aL;let k0:=W.aX;let b:=W.aR;let o0:=W.aQ;tn 4 ((((a0=a0/\(∀h:Nat,h<a0->True/\W.af h=W.af h))/\True)/\True/\qw.match_1 (λr0:kN=>Prop) (kN.mk a0 W.af) (λv:Nat=>λv0:∀w0:Nat,Int=>v<=100000))/\tn 2 ((((b0=b0/\(∀i:Nat,i<b0->True/\W.kinds i=W.kinds i))/\True)/\True/\qw.match_1 (λy:kN=>Prop) (kN.mk b0 W.kinds) (λz0:Nat=>λa1:∀b1:Nat,Int=>z0<=100000))/\tn 2 ((((c0=c0/\(∀c1:Nat,c1<c0->aK (W.aa c1) (W.aa c1)))/\True)/\True/\FH.match_1 (λd1:BR=>Prop) (BR.mk c0 W.aa) (λx:Nat=>λz:∀h1:Nat,bM=>x<=100000))/\tn 3 ((((d0=d0/\(∀k1:Nat,k1<d0->aJ (W.tasks k1) (W.tasks k1)))/\True)/\True/\FI.match_1 (λA:BS=>Prop) (BS.mk d0 W.tasks) (λo1:Nat=>λB:∀r1:Nat,aF=>o1<=100000))/\tn 6 ((((e0=e0/\(∀j:Nat,j<e0->True/\W.bits j=W.bits j))/\True)/\True/\qw.match_1 (λv1:kN=>Prop) (kN.mk e0 W.bits) (λw1:Nat=>λC:∀E:Nat,Int=>w1<=100000))/\tn 2 ((((c=c/\(∀k:Nat,k<c->True/\W.ai k=W.ai k))/\True)/\True/\qw.match_1 (λG:kN=>Prop) (kN.mk c W.ai) (λb2:Nat=>λI:∀d2:Nat,Int=>b2<=100000))/\tn 3 ((((h0=h0/\(∀l:Nat,l<h0->True/\W.aA l=W.aA l))/\True)/\True/\qw.match_1 (λg2:kN=>Prop) (kN.mk h0 W.aA) (λh2:Nat=>λk2:∀l2:Nat,Int=>h2<=100000))/\tn 5 ((((k0=k0/\(∀d:Nat,let n:=W.ah d;d<k0->True/\n=n/\(∀r2:Nat,
 r2<n->True/\W.lines d r2=W.lines d r2)))/\True)/\True/\k0<=1000/\(∀r:Nat,r<k0->W.ah r<=1000))/\tn 3 ((((b=b/\(∀e:Nat,let o:=W.al e;e<b->True/\o=o/\(∀p:Nat,p<o->True/\W.ready e p=W.ready e p)))/\True)/\True/\b<=1000/\(∀t:Nat,t<b->W.al t<=1000))/\tn 2 ((((o0=o0/\(∀g:Nat,let a3:=W.aD g;g<o0->True/\a3=a3/\(∀q:Nat,q<a3->aG (W.ax g q) (W.ax g q))))/\True)/\True/\o0<=1000/\(∀u:Nat,u<o0->W.aD u<=1000))/\True/\tn 10 True/\aB W W True))))))))))
theorem Bm:aY Tryz.prog bk 49 WH:=bn (.cons KD (.cons U' (.cons Va (.cons WE (.cons WG .nil))))) false Tryz.call49 Tryz.func49 (λ_=> []) (V:=Mh) (λ_=>by kernel_rfl) λ⟨W⟩ hp=>by dsimp only[wq]at hp;dsimp only[Mh,tn,aw,aB,aJ,aK,aG];simp only[bq,bx,eq_self,implies_true,bo];obtain⟨h1,h2,j,k,e,l,n,g,h,i,b,c,d⟩:=hp;exact⟨by omega,by omega,by omega,by omega,by omega,by omega,by omega,⟨e,b⟩,⟨g,c⟩,h,d⟩
def pq (W:Wd) (f:Int) (i:Nat):Int:=bif Nat.blt i W.ay&&((W.kinds (i/16)==3||W.kinds (i/16)==4)&&(W.af i !=0)&&(W.af i%1024==f))then 0 else W.af i
def umW (W:Wd) (f:Int):Wd:={W with af:=pq W f,aD:=vQ (ll W.ay (pq W f)) W,ax:=kv (ll W.ay (pq W f)) W}
structure JW (W:Wd):Prop where
 i:Inv 1000 W
 pg:∀c,c<W.aQ->∀k,k<W.aD c->0<=(W.ax c k).pg/\(W.ax c k).pg<=255
 hp:∀i,i<W.aO->∀f,f<W.ak->(W.tasks i).helper=f->W.kinds f=7
theorem JW.tl {W:Wd} (h:JW W):TlR W:=⟨h.i.z,h.i.af,h.i.tl,h.pg⟩
def nX (W:Wd):Nat:=bD W.ao λi=>(W.aa i).kind !=0
def kz (W:Wd) (f:Int):Wd:={W with kinds:=aj W.kinds f.toNat 0}
def Ey (W:Wd) (f:Int):Wd:=umW (kz W f) f
def rH (f:Int) (x:aF):aF:={x with space:=bif x.space==f then -1 else x.space}
def rI (f:Int) (x:aF):aF:={x with node:=bif x.node==f then -1 else x.node}
def rG (k f:Int) (x:aF):aF:={x with helper:=bif k==7&&x.helper==f then -1 else x.helper}
def S5 (W:Wd) (f:Int):Wd:={W with kinds:=aj W.kinds f.toNat 0,tasks:=λi=>rH f (W.tasks i),aD:=vQ (AT f) W,ax:=kv (AT f) W}
def I4 (W:Wd) (f:Int):Wd:={W with kinds:=aj W.kinds f.toNat 0,tasks:=λi=>rI f (W.tasks i)}
def qh (D:Wd->Int->Wd) (W:Wd) (f:Int):Nat->Wd
 |0=>I4 W f
 |i+1=>D (qh D W f i) (f*16+(15 -i))
def xQ (S:Wd) (f:Int) (i:Nat):aF:=bif Nat.beq i f.toNat then aF.blank else bif decide (0<=(S.tasks f.toNat).ar)&&Nat.beq i (S.tasks f.toNat).ar.toNat then{S.tasks i with st:=0}else S.tasks i
def El (W:Wd) (f:Int):Wd:={bL (kz W f) f with tasks:=xQ (bL (kz W f) f) f}
def l_ (W:Wd) (f:Int) (i:Nat):aF:=rG (W.kinds f.toNat) f (bif cK (W.ah f.toNat) (W.lines f.toNat) i then{W.tasks i with st:=0,loc:= -1}else W.tasks i)
def AM (W:Wd) (f:Int):Wd:={W with kinds:=aj W.kinds f.toNat 0,tasks:=l_ W f,ah:=aj W.ah f.toNat 0,bits:=aj W.bits f.toNat 0}
def jh (D:Wd->Int->Wd) (W:Wd) (f:Int):Wd:=
 bif W.kinds f.toNat==2||W.kinds f.toNat==3 then Ey W f else bif W.kinds f.toNat==4 then S5 W f else bif W.kinds f.toNat==5 then qh D W f 16 else
 bif W.kinds f.toNat==6 then El W f else bif W.kinds f.toNat==7||W.kinds f.toNat==8 then AM W f else kz W f
def gC (W:Wd) (s:Int):Wd:={W with aa:=aj (λj=>cr s (W.aa s.toNat).from_ (W.aa j)) s.toNat fm}
def zI (W:Wd) (k:bM):Bool:=da W.ao λi=>(W.aa i).kind==k.kind&&(W.aa i).base==k.base
def ts (G:Wd->Int->Wd) (W:Wd) (s:Int):Wd:=
 bif gM W s==0 then(bif (W.aa s.toNat).kind==1||zI (gC W s) (W.aa s.toNat)then gC W s else G (gC W s) (W.aa s.toNat).base)else W
def AL:Nat->Wd->Int->Wd
 |0=>jh λW _=>W
 |n+1=>jh (ts (AL n))
theorem Xt {D:Wd->Int->Wd} {W:Wd} {f:Int} (h:W.kinds f.toNat=2\/W.kinds f.toNat=3):jh D W f=Ey W f:=by unfold jh;rcases h with h|h<;>rw[h]<;>rfl
theorem Xu {D:Wd->Int->Wd} {W:Wd} {f:Int} (h:W.kinds f.toNat=4):jh D W f=S5 W f:=by unfold jh;rw[h];rfl
theorem Xv {D:Wd->Int->Wd} {W:Wd} {f:Int} (h:W.kinds f.toNat=5):jh D W f=qh D W f 16:=by unfold jh;rw[h];rfl
theorem Xw {D:Wd->Int->Wd} {W:Wd} {f:Int} (h:W.kinds f.toNat=6):jh D W f=El W f:=by unfold jh;rw[h];rfl
theorem Xx {D:Wd->Int->Wd} {W:Wd} {f:Int} (h:W.kinds f.toNat=7\/W.kinds f.toNat=8):jh D W f=AM W f:=by unfold jh;rcases h with h|h<;>rw[h]<;>rfl
theorem fB.sp {W:Wd} {x:aF} {f:Int} (h:fB W x):fB W (rH f x):=by
 refine⟨h.cS,h.pc,h.word,h.aH,h.st,h.prio,h.core,h.cI,h.node,?_,h.helper,h.loc,h.ar⟩;unfold rH;have:=h.space;cases x.space==f
 ·exact this
 ·exact⟨oF _,show(-1:Int)<_ by omega⟩
theorem fB.nd {W:Wd} {x:aF} {f:Int} (h:fB W x):fB W (rI f x):=by
 refine⟨h.cS,h.pc,h.word,h.aH,h.st,h.prio,h.core,h.cI,?_,h.space,h.helper,h.loc,h.ar⟩;unfold rI;have:=h.node;cases x.node==f
 ·exact this
 ·exact⟨oF _,show(-1:Int)<_ by omega⟩
theorem fB.hp {W:Wd} {x:aF} {k f:Int} (h:fB W x):fB W (rG k f x):=by
 refine⟨h.cS,h.pc,h.word,h.aH,h.st,h.prio,h.core,h.cI,h.node,h.space,?_,h.loc,h.ar⟩;unfold rG;have:=h.helper;cases k==7&&x.helper==f
 ·exact this
 ·exact⟨oF _,show(-1:Int)<_ by omega⟩
theorem fB.still {W:Wd} {x:aF} (h:fB W x):fB W {x with st:=0}:=⟨h.cS,h.pc,h.word,h.aH,⟨oF 0,show(0:Int)<=6 by decide⟩,h.prio,h.core,h.cI,h.node,h.space,h.helper,h.loc,h.ar⟩
theorem fB.off {W:Wd} {x:aF} (h:fB W x):fB W {x with loc:= -1}:=⟨h.cS,h.pc,h.word,h.aH,h.st,h.prio,h.core,h.cI,h.node,h.space,h.helper,⟨oF _,show(-1:Int)<_ by have:=h.loc;omega⟩,h.ar⟩
theorem fB.n4 {W:Wd} (h:bQ W):fB W aF.blank:=by have:=h.c0;have:=h.k0;refine⟨by decide,by decide,by decide,by decide,by decide,by decide,?_,by decide,?_,?_,?_,?_,?_⟩<;>simp only[aF.blank]<;>omega
theorem TS.other {X:Nat->Prop} {W:Wd} (h:TS X W) (R:Nat->Int) (S:Nat->bM) (n:Nat->Nat) (t:Nat->Nat->dG):TS X {W with af:=R,aa:=S,aD:=n,ax:=t}:=
 ⟨h.z.cg rfl rfl,h.bl,h.nm,h.ow,h.o1,λf a b c=>⟨(h.so f a b c).dr,(h.so f a b c).bl,(h.so f a b c).rd,(h.so f a b c).no⟩,h.ln,h.co,h.rl⟩
theorem T0.I3 {W:Wd} (h:T0 W) {f:Nat} (d:W.kinds f≠6):cB W f=0/\cu W f=0:=by
 have z:=h.z.lines;refine⟨A_.2 λi j k g e=>d ?_,?_⟩
 ·obtain⟨a,b,_⟩:=(dY.1 (h.ln i (by omega))).2.2.2 k g;rw[e,cj]at b;exact b
 ·unfold cu;have n:cP W.aR W.al W.ready f=0:=A_.2 λi j k g e=>d (by
   obtain⟨a,b,_⟩:=iG.1 (h.rl i j) k g;rw[e,cj]at b;exact b)
  have o:cf W.aC W.ai f=0:=yn.2 λc l e=>d (by
   obtain⟨a,b,_⟩:=jv.1 (h.co c l) (by omega);rw[e,cj]at b;exact b)
  omega
theorem T0.del {W:Wd} {f:Nat} (h:T0 W) (hf:f<W.ak) (hl:W.ah f=0) (R:W.bits f=0) (ho:(W.tasks f).ar= -1) (hs:cB W f=0) (I:cu W f=0)
 (J:∀i,i<W.ak->W.kinds i=6->(W.tasks i).node≠f/\(W.tasks i).space≠f/\(W.tasks i).helper≠f/\(W.tasks i).ar≠f):T0 {W with kinds:=aj W.kinds f 0,tasks:=aj W.tasks f aF.blank}:=by
 have z:=h.z;have zl:=z.lines;have ko:∀x:Int,x≠f->bK {W with kinds:=aj W.kinds f 0,tasks:=aj W.tasks f aF.blank} x=bK W x:=λx B=>by
  unfold bK;show(bif decide (x<0)||decide ((W.ak:Int)<=x)then -1 else aj W.kinds f 0 x.toNat)=_;cases hd:decide (x<0)||decide ((W.ak:Int)<=x)with
  |true=>rfl
  |false=>simp only[bX,decide_eq_false_iff_not]at hd;rw[bh λe=>B (by omega)]
 have u:∀{i},aj W.kinds f 0 i=6->i≠f/\W.kinds i=6:=λ{i} l=>by
  rcases aT (i=f)with e|e
  ·subst e;rw[bg]at l;exact absurd l (by decide)
  ·rw[bh e]at l;exact⟨e,l⟩
 have rd:∀{x c p},x≠(f:Int)->RD W x c p->RD {W with kinds:=aj W.kinds f 0,tasks:=aj W.tasks f aF.blank} x c p:=λ{x c p} B S=>by
  obtain⟨a,b,c,d,e⟩:=S;have r:x.toNat≠f:=λe=>B (toNat_eq a.1 e);refine⟨a,?_,?_,?_,λhp=>?_⟩
  ·show aj W.kinds f 0 x.toNat=6;rw[bh r];exact b
  ·show(aj W.tasks f aF.blank x.toNat).st=1;rw[bh r];exact c
  ·show(aj W.tasks f aF.blank x.toNat).core=_;rw[bh r];exact d
  ·show(aj W.tasks f aF.blank x.toNat).prio=_;rw[bh r];exact e hp
 refine⟨z.cg rfl rfl,λi l o=>?_,λi l o=>?_,λi l o A=>?_,λi l o=>?_,λi l o _=>?_,λi l=>?_,λc K=>?_,λi l=>?_⟩
 ·show aj W.tasks f aF.blank i=_;rcases aT (i=f)with e|e
  ·subst e;rw[bg]
  ·have o:aj W.kinds f 0 i≠6:=o;rw[bh e]at o⊢;exact h.bl i l o
 ·obtain⟨e,t⟩:=u o;obtain⟨a,b,c⟩:=h.nm i l t;obtain⟨r1,r2,r3,r4⟩:=J i l t;show gV (aj W.tasks f aF.blank i)=false/\fk W (aj W.tasks f aF.blank i)=false/\_;rw[show({W with kinds:=aj W.kinds f 0,tasks:=aj W.tasks f aF.blank}:Wd).tasks i=W.tasks i from bh e,bh e];refine⟨a,b,?_⟩;unfold fx okF at c⊢;rw[ko _ r1,ko _ r2,ko _ r3,ko _ r4];exact c
 ·obtain⟨e,t⟩:=u o;have A:(aj W.tasks f aF.blank i).ar≠ -1:=A;show(¬False->(aj W.tasks f aF.blank (aj W.tasks f aF.blank i).ar.toNat).st=5)/\(¬False->(aj W.tasks f aF.blank i).st≠4);rw[bh e]at A⊢;have q:=h.ow i l t A;have C:=(h.nm i l t).2.2;unfold fx okF at C;simp only[aW,cM,beq_iff_eq]at C;have n:=C.2.resolve_left A;have v:=gv (W:=W) (f:=(W.tasks i).ar) (by rw[n];decide);rw[bh λT=>(J i l t).2.2.2 (toNat_eq v.1 T)];exact q
 ·obtain⟨e,t⟩:=u o;have U:bV {W with kinds:=aj W.kinds f 0,tasks:=aj W.tasks f aF.blank} i=bV W i:=hV λj _=>by
   show((aj W.tasks f aF.blank j).ar==(i:Int))=_;rcases aT (j=f)with e|e
   ·subst e;rw[bg,ho];rfl
   ·rw[bh e]
  rw[U];show _/\(¬False->(_↔(aj W.tasks f aF.blank i).st=5));rw[bh e];exact h.o1 i l t
 ·obtain⟨e,t⟩:=u o;obtain⟨p1,V,X,Y⟩:=h.so i l t id;have Z:({W with kinds:=aj W.kinds f 0,tasks:=aj W.tasks f aF.blank}:Wd).tasks i=W.tasks i:=bh e;have y:∀{k:Int},bK W (W.tasks i).loc=k->cK (W.ah (W.tasks i).loc.toNat) (W.lines (W.tasks i).loc.toNat) i=true->k≠ -1->(W.tasks i).loc≠f:=λ{k} n v r e=>by rw[e,cj,hl]at v;exact absurd v (by unfold cK da;simp[fA])
  refine⟨?_,?_,?_,?_⟩<;>rw[Z]
  ·intro E;obtain⟨a,b,c,d⟩:=p1 E;exact⟨a,b,by rw[ko _ (y c d (by decide))];exact c,d⟩
  ·intro E;obtain⟨a,b,c,d⟩:=V E;exact⟨a,b,by rw[ko _ (y c d (by decide))];exact c,d⟩
  ·exact X
  ·exact Y
 ·have l:i<W.ak:=l;obtain⟨l1,l2,l3,O⟩:=dY.1 (h.ln i l);refine dY.2 ?_;show(0<W.ah i->aj W.kinds f 0 i=7\/aj W.kinds f 0 i=8)/\(W.bits i≠0->aj W.kinds f 0 i=8/\W.ah i=0)/\(0<=W.bits i/\W.bits i<=65535)/\∀k,k<W.ah i->(0<=W.lines i k/\W.lines i k<W.ak)/\aj W.kinds f 0 (W.lines i k).toNat=6/\(aj W.tasks f aF.blank (W.lines i k).toNat).loc=i/\((aj W.tasks f aF.blank (W.lines i k).toNat).st==4)=((aj W.tasks f aF.blank (W.lines i 0).toNat).st==4);rcases aT (i=f)with e|e
  ·subst e;rw[hl,R];exact⟨λg=>absurd g (nA _),λg=>absurd rfl g,by decide,λk n=>absurd n (dS _)⟩
  ·rw[bh e];have ne:∀k,k<W.ah i->(W.lines i k).toNat≠f:=λk n e=>E5 hs (by omega) n (toNat_eq (O k n).1.1 e);refine⟨l1,l2,l3,λk n=>?_⟩;obtain⟨a,b,c,d⟩:=O k n;rw[bh (ne k n),bh (ne k n),bh (ne 0 (by omega))];exact⟨a,b,c,d⟩
 ·exact jv.2 λG=>rd ((BG I).2 c K) (jv.1 (h.co c K) G)
 ·exact iG.2 λk n=>rd ((BG I).1 i k l n) (iG.1 (h.rl i l) k n)
theorem T0.kz {W:Wd} {f:Nat} (h:T0 W) (g:f<W.ak) (j:W.kinds f≠6/\W.kinds f≠7/\W.kinds f≠8) (r:∀i,i<W.ak->W.kinds i=6->(W.tasks i).node≠f/\(W.tasks i).space≠f/\(W.tasks i).helper≠f):T0 {W with kinds:=aj W.kinds f 0}:=by
 obtain⟨t,l2,_,_⟩:=dY.1 (h.ln f g);have n:=h.bl f g j.1;obtain⟨s1,s2⟩:=h.I3 j.1;have hl:W.ah f=0:=fN λe=>by have:=t (by omega);omega
 have k:W.bits f=0:=fN λe=>by have:=(l2 e).1;omega
 have d:=h.del g hl k (by rw[n];rfl) s1 s2 λi o p=>by obtain⟨a,b,c⟩:=r i o p;refine⟨a,b,c,λe=>?_⟩;have l:=(h.nm i o p).2.2;unfold fx okF at l;simp only[aW,cM,beq_iff_eq]at l;have q:=l.2.resolve_left (by omega);rw[e,eY (by omega),cj]at q;exact j.1 q
 rw[show aj W.tasks f aF.blank=W.tasks by rw[<-n];exact E4]at d;exact d
theorem wQ {W:Wd} {t:aF} (h:fx W t=true):(t.node= -1\/bK W t.node=5)/\(t.space= -1\/bK W t.space=4)/\(t.helper= -1\/bK W t.helper=7)/\(t.ar= -1\/bK W t.ar=6):=by unfold fx okF at h;simp only[aW,cM,beq_iff_eq,and_assoc]at h;exact h
theorem zi {W:Wd} {t:aF} (h:(t.node= -1\/bK W t.node=5)/\(t.space= -1\/bK W t.space=4)/\(t.helper= -1\/bK W t.helper=7)/\(t.ar= -1\/bK W t.ar=6)):fx W t=true:=by unfold fx okF;simp only[aW,cM,beq_iff_eq,and_assoc];exact h
theorem T0.nR {W:Wd} {f i:Nat} (h:T0 W) (n:f<W.ak) (k:i<W.ak) (l:W.kinds i=6):(W.kinds f≠5->(W.tasks i).node≠f)/\(W.kinds f≠4->(W.tasks i).space≠f)/\(W.kinds f≠7->(W.tasks i).helper≠f)/\(W.kinds f≠6->(W.tasks i).ar≠f):=by
 obtain⟨a,b,c,d⟩:=wQ (h.nm i k l).2.2;have e:bK W (f:Int)=W.kinds f:=by rw[eY (by omega),cj]
 refine⟨λj g=>?_,λj g=>?_,λj g=>?_,λj g=>?_⟩
 ·rw[g,e]at a;exact j (a.resolve_left (by omega))
 ·rw[g,e]at b;exact j (b.resolve_left (by omega))
 ·rw[g,e]at c;exact j (c.resolve_left (by omega))
 ·rw[g,e]at d;exact j (d.resolve_left (by omega))
theorem T0.pg {W:Wd} {f:Nat} (h:T0 W) (d:f<W.ak) (j:W.kinds f=2\/W.kinds f=3):T0 {W with kinds:=aj W.kinds f 0}:=
 h.kz d (by omega) λi e g=>by obtain⟨a,b,c,_⟩:=h.nR d e g;exact⟨a (by omega),b (by omega),c (by omega)⟩
theorem T0.sp {W:Wd} {f:Nat} (h:T0 W) (j:f<W.ak) (l:W.kinds f=4):T0 {W with kinds:=aj W.kinds f 0,tasks:=λi=>rH f (W.tasks i)}:=by
 have k:rH (f:Int) aF.blank=aF.blank:=by unfold rH;rw[beq_eq_false_iff_ne.2 (show aF.blank.space≠(f:Int) by show(-1:Int)≠f;omega)];rfl
 have h1:T0 {W with tasks:=λi=>rH f (W.tasks i)}:=h.all (λi d g=>by rw[h.bl i d g];exact k) λi d g=>by
  obtain⟨a,b,c⟩:=h.nm i d g;refine⟨a,b,zi ?_,rfl,.inr ⟨rfl,rfl,rfl,.inl rfl⟩⟩;obtain⟨r1,r2,r3,r4⟩:=wQ c;refine⟨r1,?_,r3,r4⟩;show(bif (W.tasks i).space==(f:Int)then -1 else(W.tasks i).space)= -1\/bK W (bif (W.tasks i).space==(f:Int)then -1 else(W.tasks i).space)=4;cases (W.tasks i).space==(f:Int)
  ·exact r2
  ·exact .inl rfl
 refine T0.kz (W:={W with tasks:=λi=>rH f (W.tasks i)}) h1 j (show W.kinds f≠6/\W.kinds f≠7/\W.kinds f≠8 by omega) λi d g=>?_;obtain⟨a,b,c,_⟩:=h.nR j d g;refine⟨a (by omega),?_,c (by omega)⟩;show(bif (W.tasks i).space==(f:Int)then -1 else(W.tasks i).space)≠f;cases e:(W.tasks i).space==(f:Int)
 ·exact beq_eq_false_iff_ne.1 e
 ·show(-1:Int)≠f;omega
theorem T0.nd {W:Wd} {f:Nat} (h:T0 W) (j:f<W.ak) (l:W.kinds f=5):T0 {W with kinds:=aj W.kinds f 0,tasks:=λi=>rI f (W.tasks i)}:=by
 have k:rI (f:Int) aF.blank=aF.blank:=by unfold rI;rw[beq_eq_false_iff_ne.2 (show aF.blank.node≠(f:Int) by show(-1:Int)≠f;omega)];rfl
 have h1:T0 {W with tasks:=λi=>rI f (W.tasks i)}:=h.all (λi d g=>by rw[h.bl i d g];exact k) λi d g=>by
  obtain⟨a,b,c⟩:=h.nm i d g;refine⟨a,b,zi ?_,rfl,.inr ⟨rfl,rfl,rfl,.inl rfl⟩⟩;obtain⟨r1,r2,r3,r4⟩:=wQ c;refine⟨?_,r2,r3,r4⟩;show(bif (W.tasks i).node==(f:Int)then -1 else(W.tasks i).node)= -1\/bK W (bif (W.tasks i).node==(f:Int)then -1 else(W.tasks i).node)=5;cases (W.tasks i).node==(f:Int)
  ·exact r1
  ·exact .inl rfl
 refine T0.kz (W:={W with tasks:=λi=>rI f (W.tasks i)}) h1 j (show W.kinds f≠6/\W.kinds f≠7/\W.kinds f≠8 by omega) λi d g=>?_;obtain⟨a,b,c,_⟩:=h.nR j d g;refine⟨?_,b (by omega),c (by omega)⟩;show(bif (W.tasks i).node==(f:Int)then -1 else(W.tasks i).node)≠f;cases e:(W.tasks i).node==(f:Int)
 ·exact beq_eq_false_iff_ne.1 e
 ·show(-1:Int)≠f;omega
theorem T0.td {W:Wd} {f:Nat} (h:T0 W) (d:f<W.ak) (j:W.kinds f=6):T0 (El W f):=by
 have h1:T0 (bL W f):=(h.stp d j).wk λ_ d=>d.1;have Z:((bL W f).tasks f).st=0:=by show(fl (ma W (f:Int).toNat (-1) 0 f) f).st=0;rw[cj];show(ma W f (-1) 0 f).st=0;unfold ma;rw[bg]
 obtain⟨K,O,_⟩:=(h1.so f d j id).idle (.inl Z);have o0:bV (bL W f) f=0:=by
  have o:=h1.o1 f d j;have:bV (bL W f) f≠1:=λe=>by have:=(o.2 id).1 e;omega
  omega
 have E:∀{V:Wd},T0 V->V.aO=V.ak->bV V f=0->∀i,i<V.ak->(V.tasks i).ar≠f:=λ{V} p hz ho i B e=>by have:=kJ.1 ho i (by omega);rw[e]at this;simp at this
 have fin:∀{V:Wd},T0 V->V.kinds=W.kinds->ee V=ee W->cB V f=0->cu V f=0->bV V f=0->(V.tasks f).ar= -1->T0 {V with kinds:=aj V.kinds f 0,tasks:=aj V.tasks f aF.blank}:=λ{V} p ek ec hs hn ho hw=>by
  simp only[ee,pN,and_true]at ec;have k:f<V.ak:=by omega
  have xC:V.kinds f=6:=by rw[ek];exact j
  obtain⟨l1,l2,_,_⟩:=dY.1 (p.ln f k);have hl:V.ah f=0:=fN λe=>by have:=l1 (by omega);omega
  have G:V.bits f=0:=fN λe=>by have:=(l2 e).1;omega
  have zt:=p.z.tasks;exact p.del k hl G hw hs hn λi B R=>by obtain⟨a,b,c,_⟩:=p.nR k B R;exact⟨a (by omega),b (by omega),c (by omega),E p zt ho i B⟩
 have eW:El W f={bL W f with kinds:=aj W.kinds f 0,tasks:=xQ (bL W f) f}:=rfl;rw[eW];rcases aT (((bL W f).tasks f).ar= -1)with e|e
 ·have q:=fin h1 rfl rfl K O o0 e;have et:xQ (bL W f) f=aj (bL W f).tasks f aF.blank:=by funext i;unfold xQ aj;rw[cj,e,decide_eq_false (by decide)];rfl
  rw[et];exact q
 ·obtain⟨_,_,_,r4⟩:=wQ (h1.nm f d j).2.2;have r4:=r4.resolve_left e;have n:=gv (W:=bL W f) (f:=((bL W f).tasks f).ar) (by rw[r4];decide);rw[eY n]at r4;have C:((bL W f).tasks f).ar.toNat<W.ak:=by have:((bL W f).tasks f).ar<(W.ak:Int):=n.2;omega
  have I:=(h1.ow f d j e).1 id;have x:((bL W f).tasks f).ar.toNat≠f:=λg=>by rw[g]at I;omega
  obtain⟨S,T,j3⟩:=(h1.so _ C r4 id).idle (.inr I);have ou:=((h1.o1 _ C r4).2 id).2 I;have eu:((((bL W f).tasks f).ar.toNat:Nat):Int)=((bL W f).tasks f).ar:=by omega
  obtain⟨m1,m2⟩:=(h1.wk (Y:=λi=>i=((bL W f).tasks f).ar.toNat) λ_ h=>h.elim).Aa (u:=f) (v:= -1) d j (.inr rfl) (.inl rfl);have y:=m2 ((bL W f).tasks f).ar.toNat
  rw[eu,pY,ou,lM (show(-1:Int)≠((bL W f).tasks f).ar by omega)]at y;have A:=m2 f;rw[o0,lM (show((bL W f).tasks f).ar≠(f:Int) by omega),lM (show(-1:Int)≠(f:Int) by omega)]at A;obtain⟨n1,n2,n3⟩:=h1.nm _ C r4;have au:aj (bL W f).tasks f {(bL W f).tasks f with ar:= -1} ((bL W f).tasks f).ar.toNat=(bL W f).tasks ((bL W f).tasks f).ar.toNat:=bh x;have m3:=m1.set (t:=((bL W f).tasks f).ar.toNat) (r:={(bL W f).tasks ((bL W f).tasks f).ar.toNat with st:=0}) C r4 n1 (sn (l:=((bL W f).tasks ((bL W f).tasks f).ar.toNat).loc) n2 (by decide)) n3 (congrArg aF.ar au).symm (.inl ⟨rfl,S,T⟩);have U:∀i:Nat,bV {bL W f with tasks:=aj (aj (bL W f).tasks f {(bL W f).tasks f with ar:= -1}) ((bL W f).tasks f).ar.toNat {(bL W f).tasks ((bL W f).tasks f).ar.toNat with st:=0}} i=bV {bL W f with tasks:=aj (bL W f).tasks f {(bL W f).tasks f with ar:= -1}} i:=λi=>
   pA (W:={bL W f with tasks:=aj (bL W f).tasks f {(bL W f).tasks f with ar:= -1}}) (t:=((bL W f).tasks f).ar.toNat) (r:={(bL W f).tasks ((bL W f).tasks f).ar.toNat with st:=0}) (congrArg aF.ar au).symm i
  have m4:T0 {bL W f with tasks:=aj (aj (bL W f).tasks f {(bL W f).tasks f with ar:= -1}) ((bL W f).tasks f).ar.toNat {(bL W f).tasks ((bL W f).tasks f).ar.toNat with st:=0}}:=by
   refine m3.lv λi B R hx _=>?_;obtain rfl:i=((bL W f).tasks f).ar.toNat:=hx;have X:(({bL W f with tasks:=aj (aj (bL W f).tasks f {(bL W f).tasks f with ar:= -1}) ((bL W f).tasks f).ar.toNat {(bL W f).tasks ((bL W f).tasks f).ar.toNat with st:=0}}:Wd).tasks ((bL W f).tasks f).ar.toNat)={(bL W f).tasks ((bL W f).tasks f).ar.toNat with st:=0}:=bg
   have g2:bV {bL W f with tasks:=aj (aj (bL W f).tasks f {(bL W f).tasks f with ar:= -1}) ((bL W f).tasks f).ar.toNat {(bL W f).tasks ((bL W f).tasks f).ar.toNat with st:=0}} ((bL W f).tasks f).ar.toNat=0:=by rw[U];exact Nat.succ.inj y
   have J:(({bL W f with tasks:=aj (aj (bL W f).tasks f {(bL W f).tasks f with ar:= -1}) ((bL W f).tasks f).ar.toNat {(bL W f).tasks ((bL W f).tasks f).ar.toNat with st:=0}}:Wd).tasks ((bL W f).tasks f).ar.toNat).st=0:=by rw[X]
   exact⟨⟨λh=>absurd (g2.symm.trans h) (by decide),λh=>absurd (J.symm.trans h) (by decide)⟩,.o (.inl J) S T (by rw[X];exact j3),λ_=>by rw[J];decide⟩
  have a0:aj (aj (bL W f).tasks f {(bL W f).tasks f with ar:= -1}) ((bL W f).tasks f).ar.toNat {(bL W f).tasks ((bL W f).tasks f).ar.toNat with st:=0} f={(bL W f).tasks f with ar:= -1}:=by rw[bh x.symm,bg]
  have q:=fin m4 rfl rfl K O (by rw[U];exact A) (congrArg aF.ar a0);have et:xQ (bL W f) f=aj (aj (aj (bL W f).tasks f {(bL W f).tasks f with ar:= -1}) ((bL W f).tasks f).ar.toNat {(bL W f).tasks ((bL W f).tasks f).ar.toNat with st:=0}) f aF.blank:=by
   funext i;unfold xQ;rw[cj,decide_eq_true n.1];rcases aT (i=f)with g|g
   ·subst g;rw[bg,cy];rfl
   ·rw[bh g,dt g];rcases aT (i=((bL W f).tasks f).ar.toNat)with g2|g2
    ·rw[g2,bg,cy];rfl
    ·rw[bh g2,bh g,dt g2];rfl
  rw[et];exact q
theorem T0.dr {W:Wd} {f:Nat} (h:T0 W) (G:f<W.ak) (K:W.kinds f=7\/W.kinds f=8):T0 (AM W f):=by
 have z:=h.z;have zl:=z.lines;obtain⟨l1,l2,l3,l4⟩:=dY.1 (h.ln f G);have mem:∀i:Nat,cK (W.ah f) (W.lines f) i=true->i<W.ak/\W.kinds i=6/\(W.tasks i).loc=f/\cB W i=1/\cu W i=0/\bV W i=0/\cf (W.ah f) (W.lines f) i≠0:=λi r=>by
  have U:=wC.1 r;have C:=r;unfold cK at C;obtain⟨k,O,v⟩:=ly.1 C;have v:=eq_of_beq v;obtain⟨a,b,c,_⟩:=l4 k O;rw[v,cj]at b c;rw[v]at a;have A:i<W.ak:=by omega
  have p:=h.so i A b id;have o:=h.o1 i A b;have st:cB W i=1/\cu W i=0/\(W.tasks i).st≠5:=by
   rcases aT ((W.tasks i).st=2\/(W.tasks i).st=3\/(W.tasks i).st=4)with e|e
   ·exact⟨(p.dr e).1,(p.dr e).2.1,by omega⟩
   rcases aT ((W.tasks i).st=6)with I|I
   ·exact⟨(p.bl I).1,(p.bl I).2.1,by omega⟩
   rcases aT ((W.tasks i).st=1)with y|y
   ·have:=(p.rd y).2.2;omega
   ·have:=(p.no y (by omega) (by omega) (by omega) I).2.2;omega
  have:bV W i≠1:=λe=>st.2.2 ((o.2 id).1 e);exact⟨A,b,c,st.1,st.2.1,by omega,U⟩
 have V:∀x:Int,cP W.aX (aj W.ah f 0) W.lines x+cf (W.ah f) (W.lines f) x=cP W.aX W.ah W.lines x:=λx=>by have:=ym (n:=W.aX) (a:=f) (ln:=W.ah) (l:=W.lines) (m:=0) (g:=W.lines f) (x:=x) (by omega);rw[E4]at this;have z0:cf 0 (W.lines f) x=0:=rfl;omega
 have h1:TS (λi=>cK (W.ah f) (W.lines f) i=true) {W with ah:=aj W.ah f 0,bits:=aj W.bits f 0}:=by
  refine(h.wk λ_ u=>u.elim).lists rfl rfl rfl rfl (λi r u=>⟨?_,rfl,λa ha E=>?_⟩) (λi r=>?_) h.co h.rl
  ·have:=V i;have U:cf (W.ah f) (W.lines f) i=0:=fN λe=>u (wC.2 e);show cP W.aX (aj W.ah f 0) W.lines i=cP W.aX W.ah W.lines i;omega
  ·show cK (aj W.ah f 0 a) (W.lines a) i=true;rcases aT (a=f)with e|e
   ·subst e;exact absurd E u
   ·rw[bh e];exact E
  ·have r:i<W.ak:=r;refine dY.2 ?_;show(0<aj W.ah f 0 i->W.kinds i=7\/W.kinds i=8)/\(aj W.bits f 0 i≠0->W.kinds i=8/\aj W.ah f 0 i=0)/\(0<=aj W.bits f 0 i/\aj W.bits f 0 i<=65535)/\∀k,k<aj W.ah f 0 i->(0<=W.lines i k/\W.lines i k<W.ak)/\W.kinds (W.lines i k).toNat=6/\(W.tasks (W.lines i k).toNat).loc=i/\jq W (W.lines i k)=jq W (W.lines i 0);rcases aT (i=f)with e|e
   ·subst e;rw[bg,bg];exact⟨λg=>absurd g (nA _),λg=>absurd rfl g,by decide,λk K=>absurd K (dS _)⟩
   ·rw[bh e,bh e];exact dY.1 (h.ln i r)
 have s0:∀i:Nat,cK (W.ah f) (W.lines f) i=true->cB {W with ah:=aj W.ah f 0,bits:=aj W.bits f 0} i=0:=λi r=>by obtain⟨_,_,_,m4,_,_,m7⟩:=mem i r;have:=V i;unfold cB at m4;show cP W.aX (aj W.ah f 0) W.lines i=0;omega
 have X:∀i,i<W.ak->W.kinds i≠6->cK (W.ah f) (W.lines f) i=false:=λi r t=>by
  cases e:cK (W.ah f) (W.lines f) i with
  |false=>rfl
  |true=>exact absurd (mem i e).2.1 t
 have h2:TS (λi=>cK (W.ah f) (W.lines f) i=true) {W with tasks:=λi=>bif cK (W.ah f) (W.lines f) i then{W.tasks i with st:=0,loc:= -1}else W.tasks i,ah:=aj W.ah f 0,bits:=aj W.bits f 0}:=by
  refine h1.all (λi r t=>?_) λi r t=>?_
  ·dsimp only;rw[X i r t];exact h.bl i r t
  ·obtain⟨a,b,c⟩:=h.nm i r t;dsimp only;cases e:cK (W.ah f) (W.lines f) i with
   |false=>exact⟨a,b,c,rfl,.inr ⟨rfl,rfl,rfl,.inl rfl⟩⟩
   |true=>exact⟨a,sn b (by decide),c,rfl,.inl ⟨rfl,s0 i e,(mem i e).2.2.2.2.1⟩⟩
 have Y:T0 {W with tasks:=λi=>bif cK (W.ah f) (W.lines f) i then{W.tasks i with st:=0,loc:= -1}else W.tasks i,ah:=aj W.ah f 0,bits:=aj W.bits f 0}:=by
  refine h2.lv λi r t u _=>?_;have u:cK (W.ah f) (W.lines f) i=true:=u;have y:({W with tasks:=λi=>bif cK (W.ah f) (W.lines f) i then{W.tasks i with st:=0,loc:= -1}else W.tasks i,ah:=aj W.ah f 0,bits:=aj W.bits f 0}:Wd).tasks i={W.tasks i with st:=0,loc:= -1}:=by show(bif cK (W.ah f) (W.lines f) i then _ else _)=_;rw[u];rfl
  have R:bV {W with tasks:=λi=>bif cK (W.ah f) (W.lines f) i then{W.tasks i with st:=0,loc:= -1}else W.tasks i,ah:=aj W.ah f 0,bits:=aj W.bits f 0} i=0:=by
   rw[Fz (W:=W) (W':={W with tasks:=λi=>bif cK (W.ah f) (W.lines f) i then{W.tasks i with st:=0,loc:= -1}else W.tasks i,ah:=aj W.ah f 0,bits:=aj W.bits f 0}) rfl λj=>?_]
   ·exact(mem i u).2.2.2.2.2.1
   ·show(bif cK (W.ah f) (W.lines f) j then{W.tasks j with st:=0,loc:= -1}else W.tasks j:aF).ar=_;cases cK (W.ah f) (W.lines f) j<;>rfl
  exact⟨by rw[y,R];exact⟨λh=>absurd h (by decide),λh=>absurd (show(0:Int)=5 from h) (by decide)⟩,.o (.inl (by rw[y])) (s0 i u) (mem i u).2.2.2.2.1 (by rw[y]),λ_=>by rw[y];exact(by decide:(0:Int)≠4)⟩
 have S:∀k:Int,rG k f aF.blank=aF.blank:=λk=>by unfold rG;rw[beq_eq_false_iff_ne.2 (show aF.blank.helper≠(f:Int) by show(-1:Int)≠f;omega),qI];rfl
 have J:T0 {W with tasks:=l_ W f,ah:=aj W.ah f 0,bits:=aj W.bits f 0}:=by
  have q:=Y.all (T:=l_ W f) (λi r t=>?_) λi r t=>?_
  ·exact q
  ·have r:i<W.ak:=r;have t:W.kinds i≠6:=t;unfold l_;rw[cj,X i r t];show rG _ _ (W.tasks i)=_;rw[h.bl i r t];exact S _
  ·obtain⟨a,b,c⟩:=Y.nm i r t;have e:l_ W f i=rG (W.kinds f) f (bif cK (W.ah f) (W.lines f) i then{W.tasks i with st:=0,loc:= -1}else W.tasks i):=by unfold l_;rw[cj]
   rw[e];refine⟨a,b,zi ?_,rfl,.inr ⟨rfl,rfl,rfl,.inl rfl⟩⟩;obtain⟨r1,r2,r3,r4⟩:=wQ c;refine⟨r1,r2,?_,r4⟩;show(bif W.kinds f==7&&(bif cK (W.ah f) (W.lines f) i then{W.tasks i with st:=0,loc:= -1}else W.tasks i:aF).helper==(f:Int)then -1 else _)=(-1:Int)\/bK _ (bif W.kinds f==7&&(bif cK (W.ah f) (W.lines f) i then{W.tasks i with st:=0,loc:= -1}else W.tasks i:aF).helper==(f:Int)then -1 else _)=7;cases W.kinds f==7&&(bif cK (W.ah f) (W.lines f) i then{W.tasks i with st:=0,loc:= -1}else W.tasks i:aF).helper==(f:Int)
   ·exact r3
   ·exact .inl rfl
 have B:W.kinds f≠6:=by omega
 have Z:=J.I3 (f:=f) B;have b4:=J.bl f G B;have d:=J.del G bg bg (by rw[b4];rfl) Z.1 Z.2 λi r t=>by
  obtain⟨a,b,c,d⟩:=J.nR (f:=f) G r t;refine⟨a (show W.kinds f≠5 by omega),b (show W.kinds f≠4 by omega),?_,d B⟩;rcases K with e|e
  ·have R:l_ W f i=rG (W.kinds f) f (bif cK (W.ah f) (W.lines f) i then{W.tasks i with st:=0,loc:= -1}else W.tasks i):=by unfold l_;rw[cj]
   show(l_ W f i).helper≠f;rw[R,e];show(bif (7:Int)==7&&(bif cK (W.ah f) (W.lines f) i then{W.tasks i with st:=0,loc:= -1}else W.tasks i:aF).helper==(f:Int)then -1 else _)≠(f:Int);cases g:(bif cK (W.ah f) (W.lines f) i then{W.tasks i with st:=0,loc:= -1}else W.tasks i:aF).helper==(f:Int)
   ·exact beq_eq_false_iff_ne.1 g
   ·show(-1:Int)≠f;omega
  ·exact c (show W.kinds f≠7 by omega)
 have eT:aj (l_ W f) f aF.blank=l_ W f:=by have b:l_ W f f=aF.blank:=b4;rw[<-b];exact E4
 have eW:AM W f={W with kinds:=aj W.kinds f 0,tasks:=aj (l_ W f) f aF.blank,ah:=aj W.ah f 0,bits:=aj W.bits f 0}:=by rw[eT];unfold AM;rw[cj]
 rw[eW];exact d
theorem Cn {c:Type} {z:c} {p:Nat->Bool} {t:Nat->c}:∀{n a:Nat},a<d' p n->∃j,j<n/\p j=false/\f_ z p t n a=t j
 |0,a,h=>absurd h (by simp[d'])
 |n+1,a,h=>by
  cases hp:p n with
  |true=>rw[d',hp]at h;obtain⟨j,h1,h2,b⟩:=Cn (z:=z) (t:=t) (show a<d' p n from h);refine⟨j,by omega,h2,?_⟩;rw[f_,hp];exact b
  |false=>
   rw[d',hp]at h;have h:a<d' p n+1:=h;rcases bR a (d' p n)with d|d
   ·obtain⟨j,h1,h2,b⟩:=Cn (z:=z) (t:=t) d;refine⟨j,by omega,h2,?_⟩;rw[f_,dt (by omega:a≠d' p n),qI];exact b
   ·obtain rfl:a=d' p n:=by omega
    refine⟨n,by omega,hp,?_⟩;rw[f_,hp,cy];rfl
theorem Z7 {p:dG->Bool} {W:Wd} {c a:Nat} (h:a<vQ p W c):∃j,j<W.aD c/\p (W.ax c j)=false/\kv p W c a=W.ax c j:=Cn (z:=xW) (t:=W.ax c) h
theorem Z6 (p:dG->Bool) (W:Wd) (c:Nat):vQ p W c<=W.aD c:=P8 _ _
structure KS (W W':Wd):Prop where
 af:W'.ay=W.ay
 kinds:W'.ak=W.ak
 aa:W'.ao=W.ao
 tasks:W'.aO=W.aO
 lines:W'.aX=W.aX
 bits:W'.aP=W.aP
 ai:W'.aC=W.aC
 ready:W'.aR=W.aR
 ax:W'.aQ=W.aQ
 aL:W'.aL=W.aL
 aA:W'.aA=W.aA
 time:W'.time=W.time
 dg:nX W'<=nX W
theorem KS.refl (W:Wd):KS W W:=⟨rfl,rfl,rfl,rfl,rfl,rfl,rfl,rfl,rfl,rfl,rfl,rfl,bc _⟩
theorem KS.trans {W W' b:Wd} (h:KS W W') (k:KS W' b):KS W b:=
 ⟨k.af.trans h.af,k.kinds.trans h.kinds,k.aa.trans h.aa,k.tasks.trans h.tasks,k.lines.trans h.lines,k.bits.trans h.bits,k.ai.trans h.ai,k.ready.trans h.ready,k.ax.trans h.ax,k.aL.trans h.aL,k.aA.trans h.aA,k.time.trans h.time,ft k.dg h.dg⟩
theorem fB.z {W:Wd} {x:aF} {g:Nat->Int} (h:fB W x):fB {W with kinds:=g} x:=h.of rfl rfl
theorem CK {W:Wd} {s:Int} (h:(gM W s==0)=true):(0<=s/\s<W.ao)/\(W.aa s.toNat).kind≠0:=by have h1:=eq_of_beq h;unfold gM at h1;cases d1:decide (s<0)<;>cases d2:decide ((W.ao:Int)<=s)<;>rw[d1,d2]at h1<;>(try simp only[j9,kV,iI,cond_true,cond_false]at h1)<;>(try exact absurd h1 (by decide));have d1:=of_decide_eq_false d1;have d2:=of_decide_eq_false d2;refine⟨by omega,λe=>?_⟩;rw[e]at h1;exact absurd h1 (by decide)
theorem EP {n:Nat} {p q:Nat->Bool} (h:∀i,i<n->p i=true->q i=true):bD n p<=bD n q:=by
 induction n with
 |zero=>exact bc _
 |succ n b=>
  have h1:=b λi c=>h i (by omega);have h2:=h n (by omega);unfold bD;cases hp:p n
  ·cases q n<;>simp<;>omega
  ·rw[h2 hp];simp;omega
theorem T8 {n s:Nat} {p q:Nat->Bool} (h:∀i,i<n->p i=true->q i=true) (hs:s<n) (h1:p s=false) (h2:q s=true):bD n p<bD n q:=by
 induction n with
 |zero=>omega
 |succ n b=>
  have c:=h n (by omega);unfold bD;rcases bR s n with hl|hl
  ·have d:=b (λi e=>h i (by omega)) hl;cases hp:p n
   ·cases q n<;>simp<;>omega
   ·rw[c hp];simp;omega
  ·obtain rfl:s=n:=by omega
   have d:=EP (n:=s) (p:=p) (q:=q) λi e=>h i (by omega);rw[h1,h2];simp;omega
theorem WI (a b:Int) (x:bM):(cr a b x).kind=x.kind:=by unfold cr;cases x.from_==a<;>rfl
theorem Xy {W:Wd} {s:Int} (h:(gM W s==0)=true):nX (gC W s)+1<=nX W:=by
 obtain⟨h1,h2⟩:=CK h;refine T8 (n:=W.ao) (s:=s.toNat) (λi b hp=>?_) (by omega) ?_ ?_
 ·have hp:(aj (λj=>cr s (W.aa s.toNat).from_ (W.aa j)) s.toNat fm i).kind !=0:=hp;rcases aT (i=s.toNat)with e|e
  ·subst e;rw[bg]at hp;exact absurd hp (by decide)
  ·rw[bh e,WI]at hp;exact hp
 ·show((aj (λj=>cr s (W.aa s.toNat).from_ (W.aa j)) s.toNat fm s.toNat).kind !=0)=false;rw[bg];decide
 ·simpa using h2
structure MG (W:Wd):Prop where
 rm:∀i,i<W.ay->0<=W.af i/\W.af i<=65535
 e4:∀i,i<W.ay->W.af i≠0->W.kinds (i/16)=4->W.af i -W.af i%1024=32768/\bK W (W.af i%1024)=3
 e3:∀i,i<W.ay->W.af i≠0->W.kinds (i/16)=3->(W.af i -W.af i%1024=32768\/W.af i -W.af i%1024=49152)/\bK W (W.af i%1024)=2
 tl:∀c,c<W.aQ->W.aD c<=4/\(∀k,k<W.aD c->bK W (W.ax c k).sp=4/\(0<=(W.ax c k).pg/\(W.ax c k).pg<=255)/\ll W.ay W.af (W.ax c k)=false)/\∀j k,j<k->k<W.aD c->¬((W.ax c j).sp=(W.ax c k).sp/\(W.ax c j).pg=(W.ax c k).pg)
theorem bI.mg {W:Wd} (h:bI W):MG W:=by
 refine⟨λi d=>dO (h.af i d),λi d h0 b=>?_,λi d h0 b=>?_,λc p=>?_⟩
 ·have g:=h.en i d;unfold f' at g;dsimp only at g;rw[b,beq_eq_false_iff_ne.2 h0]at g;simpa using g
 ·have g:=h.en i d;unfold f' at g;dsimp only at g;rw[b,beq_eq_false_iff_ne.2 h0]at g;simpa using g
 ·have g:=h.tl c (by have:=h.z.ax;omega);unfold ga at g;simp only[aW,decide_eq_true_eq,jX]at g;have q:∀k,k<W.aD c->bK W (W.ax c k).sp=4/\(0<=(W.ax c k).pg/\(W.ax c k).pg<=255)/\ll W.ay W.af (W.ax c k)=false/\∀j,j<k->¬((W.ax c j).sp=(W.ax c k).sp/\(W.ax c j).pg=(W.ax c k).pg):=λk b=>by
   have r:=g.2 k b;unfold lp at r;simp only[aW,dT,beq_iff_eq,lr,pI,beq_eq_false_iff_ne]at r;obtain⟨⟨⟨⟨⟨r1,r2⟩,r3⟩,r4⟩,r5⟩,r6⟩:=r;refine⟨r1,dO r2,?_,λj o e=>?_⟩
   ·unfold ll;rw[r3,r4,r5];simp
   ·rcases r6 j o with l|l
    ·exact l e.1
    ·exact l e.2
  exact⟨g.1,λk b=>⟨(q k b).1,(q k b).2.1,(q k b).2.2.1⟩,λj k n b=>(q k b).2.2.2 j n⟩
theorem MG.af {W:Wd} (h:MG W):∀i,i<W.ay->az (W.af i) 65535=false:=λi b=>ej (h.rm i b)
theorem MG.adn {W:Wd} (h:MG W):∀i,i<W.ay->f' W i=true:=λi b=>by
 unfold f';dsimp only;rcases aT (W.af i=0)with h0|h0
 ·rw[h0];rfl
 rcases aT (W.kinds (i/16)=4)with e|e
 ·have:=h.e4 i b h0 e;rw[e,beq_eq_false_iff_ne.2 h0];simpa using this
 rcases aT (W.kinds (i/16)=3)with e3|e3
 ·have:=h.e3 i b h0 e3;rw[e3,beq_eq_false_iff_ne.2 h0];simpa using this
 ·rw[bne_iff_ne.2 e,bne_iff_ne.2 e3];simp
theorem MG.ado {W:Wd} (h:MG W):∀c,c<W.aQ->ga W (W.aD c) (W.ax c)=true:=λc l=>by
 obtain⟨a,b,d⟩:=h.tl c l;unfold ga;rw[decide_eq_true a,qO,jX];intro k i;obtain⟨b1,b2,g⟩:=b k i;unfold ll at g;simp only[zg,aW,beq_iff_eq]at g;unfold lp;simp only[aW,dT,beq_iff_eq,lr,pI,beq_eq_false_iff_ne];refine⟨⟨⟨⟨⟨b1,ej b2⟩,g.1.1⟩,g.1.2⟩,g.2⟩,λj n=>?_⟩;have:=d j k n i;rcases aT ((W.ax c j).sp=(W.ax c k).sp)with e|e
 ·exact .inr λo=>this ⟨e,o⟩
 ·exact .inl e
theorem Hx {o:Type} {z:o} {p:Nat->Bool} {t:Nat->o}:∀{n a b:Nat},a<b->b<d' p n->∃i j,i<j/\j<n/\p i=false/\p j=false/\f_ z p t n a=t i/\f_ z p t n b=t j
 |0,_,_,_,h=>absurd h (dS _)
 |n+1,a,b,c,h=>by
  rw[d']at h;cases hp:p n with
  |true=>rw[hp]at h;obtain⟨i,j,h1,h2,d,g,k,l⟩:=Hx (z:=z) (t:=t) c (show b<d' p n from h);exact⟨i,j,h1,by omega,d,g,by rw[f_,hp];exact k,by rw[f_,hp];exact l⟩
  |false=>
   rw[hp]at h;have h:b<d' p n+1:=h;rcases bR b (d' p n)with e|e
   ·obtain⟨i,j,h1,h2,d,g,k,l⟩:=Hx (z:=z) (t:=t) c e;refine⟨i,j,h1,by omega,d,g,?_,?_⟩
    ·rw[f_,hp,dt (by omega)];exact k
    ·rw[f_,hp,dt (by omega)];exact l
   ·obtain rfl:b=d' p n:=by omega
    obtain⟨i,q,r,i3⟩:=Cn (z:=z) (t:=t) (show a<d' p n from c);refine⟨i,n,q,by omega,r,hp,?_,?_⟩
    ·rw[f_,hp,dt (by omega)];exact i3
    ·rw[f_,hp,cy];rfl
theorem MG.less {W:Wd} {K:Nat->Int} {R:Nat->Int} {p:dG->Bool} (h:MG W) (x:∀g,g<W.ak->K g=W.kinds g\/K g=0) (u:∀i,i<W.ay->R i=W.af i\/R i=0)
 (y:∀i,i<W.ay->R i≠0->(K (i/16)=3\/K (i/16)=4)->bK {W with kinds:=K} (W.af i%1024)=bK W (W.af i%1024))
 (o:∀i,i<W.ay->i/16<W.ak)
 (hp:∀c,c<W.aQ->∀k,k<W.aD c->p (W.ax c k)=false->bK {W with kinds:=K} (W.ax c k).sp=4/\ll W.ay R (W.ax c k)=false):MG {W with kinds:=K,af:=R,aD:=vQ p W,ax:=kv p W}:=by
 refine⟨λi d=>?_,λi d h0 n=>?_,λi d h0 n=>?_,λc r=>⟨?_,λk n=>?_,λj k v n=>?_⟩⟩
 ·have:=h.rm i d;show 0<=R i/\R i<=65535;rcases u i d with e|e<;>rw[e]
  ·exact this
  ·decide
 ·have h0:R i≠0:=h0;have n:K (i/16)=4:=n;have e:=(u i d).resolve_right h0;have B:=(x _ (o i d)).resolve_right (by omega);show R i -R i%1024=32768/\bK {W with kinds:=K} (R i%1024)=3;have q:=y i d h0 (.inr n);rw[e]at h0⊢;rw[q];exact h.e4 i d h0 (by omega)
 ·have h0:R i≠0:=h0;have n:K (i/16)=3:=n;have e:=(u i d).resolve_right h0;have B:=(x _ (o i d)).resolve_right (by omega);show(R i -R i%1024=32768\/R i -R i%1024=49152)/\bK {W with kinds:=K} (R i%1024)=2;have q:=y i d h0 (.inl n);rw[e]at h0⊢;rw[q];exact h.e3 i d h0 (by omega)
 ·exact ft (Z6 p W c) (h.tl c r).1
 ·obtain⟨j,h1,h2,A⟩:=Z7 (p:=p) (W:=W) n;show bK {W with kinds:=K} (kv p W c k).sp=4/\(0<=(kv p W c k).pg/\(kv p W c k).pg<=255)/\ll W.ay R (kv p W c k)=false;rw[A];obtain⟨a,b⟩:=hp c r j h1 h2;exact⟨a,((h.tl c r).2.1 j h1).2.1,b⟩
 ·obtain⟨i,l,h1,h2,A,G,C,E⟩:=Hx (z:=xW) (p:=λi=>p (W.ax c i)) (t:=W.ax c) v (show k<d' (λi=>p (W.ax c i)) (W.aD c)from n);show¬((kv p W c j).sp=(kv p W c k).sp/\(kv p W c j).pg=(kv p W c k).pg);unfold kv;rw[C,E];exact(h.tl c r).2.2 i l h1 h2
theorem tM {W:Wd} {f:Nat} {x:Int} (b:x≠f):bK {W with kinds:=aj W.kinds f 0} x=bK W x:=by
 unfold bK;show(bif decide (x<0)||decide ((W.ak:Int)<=x)then -1 else aj W.kinds f 0 x.toNat)=_;cases hd:decide (x<0)||decide ((W.ak:Int)<=x)with
 |true=>rfl
 |false=>simp only[bX,decide_eq_false_iff_not]at hd;rw[bh λe=>b (by omega)]
theorem xi {W:Wd} (f g:Nat):aj W.kinds f 0 g=W.kinds g\/aj W.kinds f 0 g=0:=by
 rcases aT (g=f)with e|e
 ·subst e;exact .inr bg
 ·exact .inl (bh e)
theorem Ry {W:Wd} (z:bQ W):∀i,i<W.ay->i/16<W.ak:=λi b=>by have:=z.af;omega
theorem MG.pg {W:Wd} {f:Nat} (h:MG W) (z:bQ W) (t:f<W.ak) (u:W.kinds f=2\/W.kinds f=3):MG (Ey W f):=by
 have e:Ey W f={W with kinds:=aj W.kinds f 0,af:=pq (kz W f) f,aD:=vQ (ll W.ay (pq (kz W f) f)) W,ax:=kv (ll W.ay (pq (kz W f) f)) W}:=rfl;rw[e];have l:∀i,pq (kz W f) f i=W.af i\/pq (kz W f) f i=0:=λi=>by
  unfold pq;cases (Nat.blt i (kz W f).ay&&(((kz W f).kinds (i/16)==3||(kz W f).kinds (i/16)==4)&&((kz W f).af i !=0)&&((kz W f).af i%1024==(f:Int))))with
  |true=>exact .inr rfl
  |false=>exact .inl rfl
 refine h.less (λg _=>xi f g) (λi _=>l i) (λi n h0 b=>tM λe=>h0 ?_) (Ry z) (λc o k d j=>⟨?_,j⟩)
 ·have e0:W.af i≠0:=λp=>by rcases l i with g|g<;>rw[g]at h0<;>first|exact h0 p|exact h0 rfl
  unfold pq;have k1:((kz W f).kinds (i/16)==3||(kz W f).kinds (i/16)==4)=true:=by
   have:(kz W f).kinds (i/16)=aj W.kinds f 0 (i/16):=by show aj W.kinds (f:Int).toNat 0 _=_;rw[cj]
   rw[this];rcases b with g|g<;>rw[g]<;>rfl
  have k2:((kz W f).af i !=0)=true:=bne_iff_ne.2 e0;have r:((kz W f).af i%1024==(f:Int))=true:=beq_iff_eq.2 e;rw[gY (show i<(kz W f).ay from n),k1,k2,r];rfl
 ·have q:=((h.tl c o).2.1 k d).1;rw[tM λe=>?_]
  ·exact q
  ·rw[e,eY (by omega),cj]at q;omega
theorem MG.sp {W:Wd} {f:Nat} (h:MG W) (z:bQ W) (u:f<W.ak) (v:W.kinds f=4) (T:Nat->aF):MG {W with kinds:=aj W.kinds f 0,tasks:=T,aD:=vQ (AT f) W,ax:=kv (AT f) W}:=by
 have q:=h.less (K:=aj W.kinds f 0) (R:=W.af) (p:=AT f) (λg _=>xi f g) (λi _=> .inl rfl) (λi l h0 d=>tM λe=>?_) (Ry z) (λc n k b j=>⟨?_,((h.tl c n).2.1 k b).2.2⟩)
 ·exact⟨q.rm,q.e4,q.e3,q.tl⟩
 ·rcases d with g|g
  ·have o:W.kinds (i/16)=3:=by
    rcases xi (W:=W) f (i/16)with r|r<;>rw[r]at g
    ·exact g
    ·exact absurd g (by decide)
   have:=(h.e3 i l h0 o).2;rw[e,eY (by omega),cj]at this;omega
  ·have t:W.kinds (i/16)=4:=by
    rcases xi (W:=W) f (i/16)with r|r<;>rw[r]at g
    ·exact g
    ·exact absurd g (by decide)
   have:=(h.e4 i l h0 t).2;rw[e,eY (by omega),cj]at this;omega
 ·have q:=((h.tl c n).2.1 k b).1;rw[tM (beq_eq_false_iff_ne.1 j)];exact q
theorem MG.kz {W:Wd} {f:Nat} (h:MG W) (v:f<W.ak) (y:W.kinds f≠2/\W.kinds f≠3/\W.kinds f≠4) (z:bQ W):MG {W with kinds:=aj W.kinds f 0}:=by
 have l:∀{x k:Int},bK W x=k->k=2\/k=3\/k=4->x≠f:=λ{x k} p j e=>by rw[e,eY (by omega),cj]at p;omega
 have ks:∀{g k},aj W.kinds f 0 g=k->k≠0->W.kinds g=k:=λ{g k} n h0=>by
  rcases xi (W:=W) f g with r|r<;>rw[r]at n
  ·exact n
  ·exact absurd n.symm h0
 refine⟨h.rm,λi o h0 j=>?_,λi o h0 j=>?_,λc t=>?_⟩
 ·have q:=h.e4 i o h0 (ks j (by decide));exact⟨q.1,(tM (l q.2 (by omega))).trans q.2⟩
 ·have q:=h.e3 i o h0 (ks j (by decide));exact⟨q.1,(tM (l q.2 (by omega))).trans q.2⟩
 ·obtain⟨a,b,d⟩:=h.tl c t;refine⟨a,λk j=>?_,d⟩;obtain⟨b1,b2,u⟩:=b k j;exact⟨(tM (l b1 (by omega))).trans b1,b2,u⟩
theorem MG.other {W:Wd} (h:MG W) {W':Wd} (g:W'.ay=W.ay) (j:W'.af=W.af) (e3:W'.ak=W.ak) (e4:W'.kinds=W.kinds) (n:W'.aQ=W.aQ) (o:W'.aD=W.aD) (p:W'.ax=W.ax):MG W':=by
 have ko:∀x,bK W' x=bK W x:=λx=>by unfold bK;rw[e3,e4]
 refine⟨?_,?_,?_,?_⟩
 ·rw[g,j];exact h.rm
 ·rw[g,j,e4];intro i l h0 e;rw[ko];exact h.e4 i l h0 e
 ·rw[g,j,e4];intro i l h0 e;rw[ko];exact h.e3 i l h0 e
 ·rw[n,o,p,g,j];intro c q;obtain⟨a,b,d⟩:=h.tl c q;exact⟨a,λk e=>by rw[ko];exact b k e,d⟩
def wy (W:Wd) (i:Int):Nat->Int
 |0=>(W.aa i.toNat).from_
 |k+1=>bif decide (0<=wy W i k)then(W.aa (wy W i k).toNat).from_ else wy W i k
def adC (r:Nat->Nat) (W:Wd):Prop:=(∀i,r i<=400)/\∀i,i<W.ao->0<=(W.aa i).from_->r (W.aa i).from_.toNat<r i
def blw (W:Wd) (s i:Int):Bool:=da 500 λk=>wy W i k==s
theorem KF {W:Wd} {u:Int}:∀k,cN W u (k+1)=cN W (hN W u) k
 |0=>rfl
 |k+1=>by show hN W (cN W u (k+1))=hN W (cN W (hN W u) k);rw[KF k]
def tT (W:Wd) (i:Int) (k:Nat):Bool:=!dD W (cN W i k)
def xY (W:Wd) (i:Nat):Nat:=dz (W.ao+2) (tT W i)
theorem ack {W:Wd} (h:bI W):adC (xY W) W:=by
 have r:=h.z.aa;have t:=h.z.k1;refine⟨λi=>ft (Gm _ _) (by omega),λi n h0=>?_⟩;have hs:=h.sl i n;unfold eR ki at hs;cases l:(W.aa i).kind==0 with
 |true=>rw[l]at hs;simp only[cond_true,aW,beq_iff_eq]at hs;omega
 |false=>
  rw[l]at hs;simp only[cond_false,aW,cM,beq_iff_eq,dT]at hs;rcases hs.2 with e|⟨⟨o,_⟩,p⟩
  ·omega
  ·have u:=j5.1 o;have q:((W.aa i).from_.toNat:Int)=(W.aa i).from_:=by omega
   have c:dz (W.ao+1) (tT W (W.aa i).from_)<W.ao+1:=qC (i:=W.ao) (by omega) (by unfold tT;rw[p];rfl);obtain⟨a,b⟩:=E6 c;generalize dz (W.ao+1) (tT W (W.aa i).from_)=K at c a b;have r1:xY W (W.aa i).from_.toNat=K:=by unfold xY;rw[q];exact qE b a (by omega)
   have d:dD W (i:Int)=true:=j5.2 ⟨by omega,by omega⟩;have g:∀k,tT W (i:Int) (k+1)=tT W (W.aa i).from_ k:=λk=>by unfold tT;rw[KF,CR d];rfl
   have r2:xY W i=K+1:=by
    unfold xY;refine qE (λj v=>?_) (by rw[g];exact a) (by omega);cases j with
    |zero=>show(!dD W (i:Int))=false;rw[d];rfl
    |succ j=>rw[g];exact b j (by omega)
   omega
def Sk:Nat->(Nat->Bool)->Int
 |0,_=> -1
 |n+1,p=>bif p n then n else Sk n p
def adD (W:Wd) (s:Int) (i:Nat):Bool:=(W.aa i).kind !=0&&blw W s i
def HS (W:Wd) (s:Int):Int:=Sk W.ao (adD W s)
def rE (W:Wd) (s:Int):Nat->Wd
 |0=>W
 |k+1=>ts (AL 400) (rE W s k) (HS (rE W s k) s)
def rvN (W:Wd) (s:Int):Nat:=bif gM W s==0 then dz 500 λk=>decide (HS (rE W s k) s<0)else 0
def adp (W:Wd) (s:Int):Wd:=rE W s (rvN W s)
theorem BF {n a:Nat} {p:Nat->Bool} {v:Bool} (h:a<n):bD n (aj p a v)+b1 (p a)=bD n p+b1 v:=by
 induction n with
 |zero=>exact absurd h (dS _)
 |succ n b=>
  unfold bD;rcases bR a n with e|e
  ·have:=b e;rw[bh (show n≠a by omega)];omega
  ·obtain rfl:a=n:=by omega
   rw[bg,hV (q:=p) λi c=>by rw[bh (show i≠a by omega)]];unfold b1;omega
theorem Hc:∀{n m:Nat} (f:Nat->Nat),(∀i,i<m->f i<n)->(∀i j,i<j->j<m->f i≠f j)->m<=n
 |0,m,f,h,_=>by
  rcases ja m with e|e
  ·omega
  ·exact absurd (h 0 e) (dS _)
 |n+1,0,_,_,_=>gf _
 |n+1,m+1,f,h,hd=>by
  have:=Hc (n:=n) (m:=m) (λi=>if f i=n then f m else f i) (λi g=>by
   have a:=h i (by omega);have b:=h m (by omega);have c:=hd i m g (by omega);split<;>omega) (λi j d k=>by
   have a:=hd i j d (by omega);have b:=hd i m (by omega) (by omega);have c:=hd j m k (by omega);split<;>split<;>omega)
  omega
structure KG (P:Nat->Prop) (W:Wd):Prop where
 z:bQ W
 kd:∀f,f<W.ak->0<=W.kinds f/\W.kinds f<=8/\W.kinds f≠1
 e0:∀i,i<W.ao->(W.aa i).kind=0->W.aa i=fm
 s1:∀i,i<W.ao->(W.aa i).kind≠0->(W.kinds (i/16)=5\/P (i/16))/\eA (W.aa i)=0/\(W.aa i).base+(W.aa i).len<=W.ak/\((W.aa i).kind=1\/W.kinds (W.aa i).base.toNat=(W.aa i).kind)
 s2:∀i,i<W.ao->(W.aa i).kind≠0->(W.aa i).from_= -1\/((0<=(W.aa i).from_/\(W.aa i).from_<W.ao)/\dU (W.aa i) (W.aa (W.aa i).from_.toNat)=true)
 rk:∃r:Nat->Nat,∀i,i<W.ao->0<=(W.aa i).from_->r (W.aa i).from_.toNat<r i
 cl:∀f,f<W.ak->bD W.ao (λi=>bU (W.aa i) f)<=1
 ky:∀f,f<W.ak->W.kinds f≠0->0<bD W.ao (λi=>cJ (W.aa i) f)/\∀i,i<W.ao->gL (W.aa i) f=false
 ex:∀i,i<W.ao->(W.aa i).kind≠0->(W.aa i).kind≠1->∀c,c<W.ao->bU (W.aa c) (W.aa i).base.toNat=true->(W.aa i).from_≠ -1
def Ex (W:Wd):Prop:=∀i,i<W.ao->(W.aa i).kind≠0->(W.aa i).kind≠1->∀c,c<W.ao->bU (W.aa c) (W.aa i).base.toNat=true->(W.aa i).from_≠ -1
theorem Z9 {s:bM} (h:eA s=0) (g:s.kind=0) (j:s.from_= -1):s=fm:=by
 unfold eA dP at h;rw[g]at h;have h:(bif s.base !=0||s.len !=0||s.mark !=0||s.cd !=0||s.aH !=0 then(2:Int)else 0)=0:=h;cases i:(s.base !=0||s.len !=0||s.mark !=0||s.cd !=0||s.aH !=0)with
 |true=>rw[i]at h;exact absurd h (by decide)
 |false=>simp only[bX,bne_eq_false_iff_eq]at i;obtain⟨⟨⟨⟨a,b⟩,c⟩,d⟩,e⟩:=i;obtain⟨k0,k1,k2,k,l,n,o⟩:=s;simp only at g j a b c d e;subst g j a b c d e;rfl
theorem bI.kg {W:Wd} (h:bI W) (e:Ex W):KG (λ_=>False) W:=by
 have hs:∀i,i<W.ao->(W.aa i).kind≠0->W.kinds (i/16)=5/\eA (W.aa i)=0/\(W.aa i).base+(W.aa i).len<=W.ak/\((W.aa i).kind=1\/W.kinds (W.aa i).base.toNat=(W.aa i).kind)/\((W.aa i).from_= -1\/((0<=(W.aa i).from_/\(W.aa i).from_<W.ao)/\dU (W.aa i) (W.aa (W.aa i).from_.toNat)=true)):=λi c b=>by have g:=h.sl i c;unfold eR ki at g;rw[beq_eq_false_iff_ne.2 b]at g;simp only[cond_false,aW,cM,beq_iff_eq,decide_eq_true_eq,j5]at g;exact⟨g.1.1.1.1,g.1.1.1.2,g.1.1.2,g.1.2,g.2.imp_right λg=>g.1⟩
 refine⟨h.z,λf d=>?_,λi c b=>?_,λi c b=>⟨.inl (hs i c b).1,(hs i c b).2.1,(hs i c b).2.2.1,(hs i c b).2.2.2.1⟩,λi c b=>(hs i c b).2.2.2.2,⟨xY W,(ack h).2⟩,λf d=>?_,λf d h0=>?_,e⟩
 ·have g:=h.kd f d;rw[bX,beq_eq_false_iff_ne]at g;exact⟨(dO g.1).1,(dO g.1).2,g.2⟩
 ·have g:=h.sl i c;unfold eR ki at g;rw[b]at g;simp only[beq_self_eq_true,cond_true,aW,beq_iff_eq]at g;exact Z9 g.1 b g.2
 ·have g:=h.fr f d;unfold rJ at g;rw[aW,decide_eq_true_eq]at g;exact g.1
 ·have g:=h.fr f d;unfold rJ at g;rw[beq_eq_false_iff_ne.2 h0]at g;simp only[jw,aW,decide_eq_true_eq,dT,lr]at g;exact⟨g.2.1,g.2.2⟩
theorem Z_ {W:Wd} {r:Nat->Nat} (p:∀i,i<W.ao->0<=(W.aa i).from_->r (W.aa i).from_.toNat<r i) (u:Int):dD W (cN W u W.ao)=false:=by
 cases d:dD W (cN W u W.ao)with
 |false=>rfl
 |true=>
  exfalso;have c:∀k,k<=W.ao->dD W (cN W u k)=true:=λk g=>by
   cases h:dD W (cN W u k)with
   |true=>rfl
   |false=>rw[M6 h g,h]at d;cases d
  have step:∀k,k<W.ao->r (cN W u (k+1)).toNat<r (cN W u k).toNat:=λk g=>by have a:=j5.1 (c k (by omega));have b:=j5.1 (c (k+1) (by omega));have e:cN W u (k+1)=(W.aa (cN W u k).toNat).from_:=CR (c k (by omega));rw[e]at b⊢;exact p _ (by omega) b.1
  have dec:∀k j,k<j->j<=W.ao->r (cN W u j).toNat<r (cN W u k).toNat:=λk j l=>by
   induction j with
   |zero=>exact absurd l (dS _)
   |succ j q=>
    intro t;have s:=step j (by omega);rcases bR k j with e|e
    ·have:=q e (by omega);omega
    ·obtain rfl:k=j:=by omega
     exact s
  have:=Hc (n:=W.ao) (m:=W.ao+1) (λk=>(cN W u k).toNat) (λk g=>by
   have:=j5.1 (c k (by omega));omega) (λi j o t e=>by
   have:=dec i j o (by omega);have e:(cN W u i).toNat=(cN W u j).toNat:=e;rw[e]at this;omega)
  omega
theorem KG.sl {W:Wd} (h:KG (λ_=>False) W):∀i,i<W.ao->eR W i=true:=λi j=>by
 unfold eR ki;cases k:(W.aa i).kind==0 with
 |true=>rw[h.e0 i j (eq_of_beq k)];rfl
 |false=>have e:=beq_eq_false_iff_ne.1 k;obtain⟨a,b,c,d⟩:=h.s1 i j e;obtain⟨r,l⟩:=h.rk;simp only[cond_false,aW,cM,beq_iff_eq,decide_eq_true_eq,j5,dT];exact⟨⟨⟨⟨a.resolve_right id,b⟩,c⟩,d⟩,(h.s2 i j e).imp_right λg=>⟨g,Z_ l _⟩⟩
theorem KG.fr {P:Nat->Prop} {W:Wd} (h:KG P W):∀f,f<W.ak->rJ W f=true:=λf c=>by
 unfold rJ;rw[aW,decide_eq_true_eq];refine⟨h.cl f c,?_⟩;rcases aT (W.kinds f=0)with e|e
 ·rw[e];rfl
 ·obtain⟨a,b⟩:=h.ky f c e;rw[decide_eq_true a,lr.2 b];simp
theorem KG.kinds {P:Nat->Prop} {W:Wd} (h:KG P W):∀f,f<W.ak->(az (W.kinds f) 8||W.kinds f==1)=false:=λf d=>by obtain⟨a,b,c⟩:=h.kd f d;rw[bX,beq_eq_false_iff_ne];exact⟨ej ⟨a,b⟩,c⟩
end Go.Proofs.YthgmgkabnffniaaGreatDoor
