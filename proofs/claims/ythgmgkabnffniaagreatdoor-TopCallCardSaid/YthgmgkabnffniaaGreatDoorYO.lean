/- Keys made from keys. -/
import Derived.Test.YthgmgkabnffniaaGreatDoorYK
import Derived.Test.YthgmgkabnffniaaGreatDoorYN
import Derived.Test.YthgmgkabnffniaaGreatDoorYJ
set_option linter.unusedVariables false
set_option linter.unusedSimpArgs false
set_option maxRecDepth 100000
namespace Go.Proofs.YthgmgkabnffniaaGreatDoor
open Go.RowKit Go.Sy
def gd (W:Wd) (a b r g:Int):Int:=bif jJ W a b==0 then(bif (W.aa a.toNat).kind==1 then 3 else bif az r 7||az g 65535 then 2 else bif decide (0<g)&&(decide (0<(W.aa a.toNat).aH)||((W.aa a.toNat).kind !=7&&(W.aa a.toNat).kind !=8))then 4 else 0)else jJ W a b
def AU (s:bM) (a r g:Int):bM:={s with aH:=bif decide (0<g)then g else s.aH,cd:=((iM 6 s.cd.toNat r.toNat:Nat):Int),from_:=a}
def om (W:Wd) (a b r g:Int) (j:Nat):bM:=bif gd W a b r g==0&&Nat.beq j b.toNat then AU (W.aa a.toNat) a r g else W.aa j
def qi (W:Wd) (a b r g:Int):Wd:={W with aa:=λj=>om W a b r g j}
theorem C0 {W:Wd} {a b r g:Int} {j:Nat} (h:gd W a b r g≠0):W.aa j=om W a b r g j:=by unfold om;rw[beq_eq_false_iff_ne.2 h];rfl
theorem NX {W:Wd} {a b r g:Int} {j:Nat} (h:gd W a b r g=0):(bif Nat.beq j b.toNat then AU (W.aa a.toNat) a r g else W.aa j)=om W a b r g j:=by unfold om;rw[h];rfl
structure Bo where
 (a b r g:Int) (W:Wd)
def E9:Sy.Spec:=⟨Bo,λ⟨a,b,r,g,_⟩=> [.ptr 0 0 none 0 0,.v (.int .i64 a),.v (.int .i64 b),.v (.int .i64 r),.v (.int .i64 g)],λ⟨_,_,_,_,W⟩=>cL W,λ⟨_,_,_,_,W⟩=>bI W,λ⟨a,b,r,g,W⟩=> .v (.int .i64 (gd W a b r g)),λ⟨a,b,r,g,W⟩=>cL (qi W a b r g),
 λargs mem=>match args with| [a0,a1,c,a3,a4]=>some ⟨av (a1),av (c),av (a3),av (a4),fW mem 0⟩|_=>none⟩
def Vc:aZ:=⟨[true],(E9).g,none⟩
def KH:Bo->Prop:=λ⟨a,b,r,g,W⟩=>let a0:=W.ay;let b0:=W.ak;let c0:=W.ao;let d0:=W.aO;let e0:=W.aX;let k:=W.aP;let h0:=W.aC;let k0:=W.aR;let l:=W.aQ;let o0:=W.aL;let y:=jJ (Wd.mk a0 (λr0:Nat=>W.af (0+r0)) b0 (λu0:Nat=>W.kinds (0+u0)) c0 (λv0:Nat=>W.aa (0+v0)) d0 (λw0:Nat=>W.tasks (0+w0)) e0 (λx0:Nat=>W.ah (0+x0)) (λy0:Nat=>λz0:Nat=>W.lines (0+y0) (0+z0)) k (λa1:Nat=>W.bits (0+a1)) h0 (λb1:Nat=>W.ai (0+b1)) k0 (λc1:Nat=>W.al (0+c1)) (λd1:Nat=>λe1:Nat=>W.ready (0+d1) (0+e1)) l (λg1:Nat=>W.aD (0+g1)) (λh1:Nat=>λk1:Nat=>W.ax (0+h1) (0+k1)) o0 (λl1:Nat=>W.aA (0+l1)) W.time) a b;let o1:=y !=0;let h:=gd W a b r g;let r1:={W with aa:=om W a b r g};let n:=aB W r1 True;let v1:=True/\True;let w1:=W.aa (0+Int.toNat a);let i:=w1.kind;let z:=i==1;let A:=cond (az r 7) true (az g 65535);let B:=w1.aH;let b2:=cond (decide (0<B)) true (cond (i !=7) (i !=8) false);let j:=w1.cd;let d2:=(j=j/\r=r/\(6:Int)=6/\True)/\True/\0<=j/\j<=65535/\0<=r/\r<=65535/\((6:Int)=6\/(6:Int)=7\/(6:Int)=8);let C:=0<=b/\b<(c0:Int);let g2:=false=false;let h2:=(∀k2:Nat,g2)/\(∀l2:Nat,g2)/\(∀o2:Nat,g2)/\(∀q2:Nat,g2)/\(∀r2:Nat,g2)/\(∀u2:Nat,g2)/\(∀v2:Nat,g2);let E:=0=h;let G:=0+Int.toNat b;let I:=w1.base;let J:=w1.len;let a3:=w1.mark;let K:=((iM 6 (Int.toNat j) (Int.toNat r):Nat):Int);(((((((((((((True/\a0=a0/\(∀o:Nat,o<a0->True/\W.af (0+o)=W.af (0+o)))/\b0=b0/\(∀O:Nat,let e3:=W.kinds (0+O);O<b0->True/\e3=e3))/\c0=c0/\
 (∀R:Nat,let S:=W.aa (0+R);R<c0->aK S S))/\d0=d0/\(∀T:Nat,let U:=W.tasks (0+T);T<d0->aJ U U))/\e0=e0/\(∀p:Nat,let q:=W.ah (0+p);p<e0->True/\q=q/\(∀r3:Nat,let V:=W.lines (0+p) (0+r3);r3<q->True/\V=V)))/\k=k/\(∀v3:Nat,v3<k->True/\W.bits (0+v3)=W.bits (0+v3)))/\h0=h0/\(∀X:Nat,let Y:=W.ai (0+X);X<h0->True/\Y=Y))/\k0=k0/\(∀t:Nat,let z3:=W.al (0+t);t<k0->True/\z3=z3/\(∀a4:Nat,let Z:=W.ready (0+t) (0+a4);a4<z3->True/\Z=Z)))/\l=l/\(∀u:Nat,let v:=W.aD (0+u);u<l->True/\v=v/\(∀e4:Nat,let g4:=W.ax (0+u) (0+e4);e4<v->aG g4 g4)))/\o0=o0/\(∀x:Nat,x<o0->True/\W.aA (0+x)=W.aA (0+x)))/\W.time=W.time)/\a=a/\b=b/\True)/\True/\c0<=100000/\c0<=b0*16)/\(o1=true->y=h/\n)/\(o1=false->(0<=a/\a<(c0:Int))/\True/\tn 4 v1/\(z=true->3=h/\n)/\(z=false->((r=r/\(7:Int)=7/\True)/\v1)/\(az r 7=false->(g=g/\(65535:Int)=65535/\True)/\v1)/\(A=true->2=h/\n)/\(A=false->(decide (0<g)=true->(b2=true->4=h/\n)/\(b2=false->True/\d2/\tn 9 (C/\h2/\E/\aB {W with aa:=λk4:Nat=>let c:=Nat.beq k4 G;let d:=W.aa k4;bM.mk (cond c i d.kind) (cond c I d.base) (cond c J d.len) (cond c a3 d.mark) (cond c K d.cd) (cond c g d.aH) (cond c a d.from_)} r1 True)))/\(decide (0<g)=false->d2/\tn 9 (C/\h2/\E/\aB {W with aa:=λq4:Nat=>let r4:=Nat.beq q4 G;let e:=W.aa q4;bM.mk (cond r4 i e.kind) (cond r4 I e.base) (cond r4 J e.len) (cond r4 a3 e.mark) (cond r4 K e.cd) (cond r4 B e.aH) (cond r4 a e.from_)} r1 True)))))
theorem T_:aY Tryz.prog bk 69 Vc:=bn (.cons zk (.cons XB (.cons TW .nil))) false Tryz.call69 Tryz.func69 (λ_=> []) (V:=KH) (λ_=>by kernel_rfl) λ⟨a,b,r,g,W⟩ hp=>by
 dsimp only[E9]at hp;dsimp only[KH,tn,aw,aB,aJ,aK,aG];simp only[bq,bx,eq_self,implies_true,bo]
 try simp only[dI]
 refine⟨Xz hp,λh=>?_,λh=>?_⟩
 ·have e:gd W a b r g=jJ W a b:=by unfold gd;rw[Ep h];rfl
  exact⟨e.symm,λj _=>ld (C0 (by rw[e];exact bne_iff_ne.1 h))⟩
 ·have q:=vL h;obtain⟨l,i,_,_,_⟩:=Hj q;have n:=iY (Ce (hp.sl a.toNat (by omega)));refine⟨l,λh1=>?_,λh1=>⟨λh2=>?_,λh2=>?_⟩⟩
  ·have e:gd W a b r g=3:=by unfold gd;rw[q,h1];rfl
   exact⟨e.symm,λj _=>ld (C0 (by rw[e];decide))⟩
  ·have e:gd W a b r g=2:=by unfold gd;rw[q,h1,h2];rfl
   exact⟨e.symm,λj _=>ld (C0 (by rw[e];decide))⟩
  have k:=bX.1 h2;have o:=dO k.1;have p:=dO k.2;refine⟨λc=>⟨λd=>?_,λd=>?_⟩,λc=>?_⟩
  ·have e:gd W a b r g=4:=by unfold gd;rw[q,h1,h2,c,d];rfl
   exact⟨e.symm,λj _=>ld (C0 (by rw[e];decide))⟩
  ·have e:gd W a b r g=0:=by unfold gd;rw[q,h1,h2,c,d];rfl
   refine⟨⟨by omega,by omega,by omega,by omega,.inl trivial⟩,i,e.symm,λj _=>?_⟩;rw[<-NX e];unfold AU;rw[c];cases j.beq b.toNat<;>(repeat' (first|rfl|refine And.intro ?_ ?_))
  ·have e:gd W a b r g=0:=by unfold gd;rw[q,h1,h2,c];rfl
   refine⟨⟨by omega,by omega,by omega,by omega,.inl trivial⟩,i,e.symm,λj _=>?_⟩;rw[<-NX e];unfold AU;rw[c];cases j.beq b.toNat<;>(repeat' (first|rfl|refine And.intro ?_ ?_))
theorem WJ {k b l m r g r' c:Int} (h:dP k b l m r g=0) (d:k≠0) (e:0<=r'/\r'<=7) (i:c=g\/((0<=c/\c<=65535)/\(k=7\/k=8))):dP k b l m r' c=0:=by
 unfold dP pB pC az at h⊢;simp only[cond_eq_ite,bne,cM,aW,dT,decide_eq_true_eq,beq_iff_eq,beq_eq_false_iff_ne]at h⊢
 repeat' split at h
 all_goals first|(cases h;done)|skip
 all_goals (repeat' split)
 all_goals first|rfl|omega
def lq (s t:bM):Prop:=s.kind=t.kind/\s.base=t.base/\s.len=t.len/\s.mark=t.mark/\s.cd=t.cd/\s.aH=t.aH
theorem j6 (a b:Int) (s:bM):lq (cr a b s) s:=by unfold cr;cases s.from_==a<;>exact⟨rfl,rfl,rfl,rfl,rfl,rfl⟩
theorem BT (a b:Int) (s:bM):(cr a b s).from_=bif s.from_==a then b else s.from_:=by unfold cr;cases s.from_==a<;>rfl
theorem lq.no {s t:bM} (h:lq s t):eA s=eA t:=by obtain⟨a,b,c,d,e,f⟩:=h;unfold eA;rw[a,b,c,d,e,f]
theorem lq.p_ {s t:bM} (h:lq s t) (f:Nat):bU s f=bU t f:=by obtain⟨a,b,c,d,e,g⟩:=h;unfold bU;rw[a,b,c]
theorem lq.free {s t:bM} (h:lq s t) (f:Nat):gL s f=gL t f:=by have:=h.p_ f;obtain⟨a,b,c,d,e,g⟩:=h;unfold gL;rw[this,b,d]
theorem lq.key {s t:bM} (h:lq s t) (f:Nat):cJ s f=cJ t f:=by obtain⟨a,b,c,d,e,g⟩:=h;unfold cJ;rw[a,b]
theorem lq.made {k p k' p':bM} (h:lq k k') (g:lq p p'):dU k p=dU k' p':=by have e:=g.no;obtain⟨a,b,_,d,r,f⟩:=h;obtain⟨c,i,_,j,r',l⟩:=g;unfold dU;rw[e,a,b,r,f,c,i,j,r',l]
theorem lz {k p:bM}:dU k p=true↔eA p=0/\((p.kind=1/\k.kind≠1/\p.base<=k.base/\k.base -p.base<p.mark)\/(p.kind≠1/\k.kind=p.kind/\k.base=p.base/\(p.aH=0\/p.aH=k.aH)/\((p.cd.toNat&&&k.cd.toNat:Nat):Int)=k.cd)):=by
 have g:iM 6 p.cd.toNat k.cd.toNat=p.cd.toNat&&&k.cd.toNat:=rfl;unfold dU;rw[g];cases h:p.kind==1 with
 |true=>
  have h:=eq_of_beq h;simp only[cond_true,aW,beq_iff_eq,bne_iff_ne,decide_eq_true_eq];constructor
  ·rintro ⟨a,⟨b,c⟩,d⟩;exact⟨a,.inl ⟨h,b,c,d⟩⟩
  ·rintro ⟨a,⟨_,b,c,d⟩|⟨b,_⟩⟩
   ·exact⟨a,⟨b,c⟩,d⟩
   ·exact absurd h b
 |false=>
  have h:=beq_eq_false_iff_ne.1 h;simp only[cond_false,aW,cM,beq_iff_eq];constructor
  ·rintro ⟨a,⟨⟨b,c⟩,d⟩,e⟩;exact⟨a,.inr ⟨h,b,c,d,e⟩⟩
  ·rintro ⟨a,⟨b,_⟩|⟨_,b,c,d,e⟩⟩
   ·exact absurd b h
   ·exact⟨a,⟨⟨b,c⟩,d⟩,e⟩
theorem KE {k p:bM} (h:dU k p=true) (b:k.kind≠0):p.kind≠0:=by
 obtain⟨_,⟨a,_⟩|⟨_,a,_⟩⟩:=lz.1 h
 ·omega
 ·omega
theorem KG.full {P:Nat->Prop} {W:Wd} (h:KG P W) {i:Nat} (d:i<W.ao) (g:(W.aa i).from_≠ -1):(W.aa i).kind≠0/\(0<=(W.aa i).from_/\(W.aa i).from_<W.ao)/\(W.aa (W.aa i).from_.toNat).kind≠0/\dU (W.aa i) (W.aa (W.aa i).from_.toNat)=true:=by have c:(W.aa i).kind≠0:=λe=>g (by rw[h.e0 i d e];rfl);obtain⟨a,b⟩:=(h.s2 i d c).resolve_left g;exact⟨c,a,KE b c,b⟩
theorem WK (a b:Nat):a&&&(a&&&b)=a&&&b:=by rw[<-Nat.and_assoc,Nat.and_self]
theorem acj {W:Wd} {a b r g:Int} (h:gd W a b r g=0):((0<=a/\a<W.ao)/\(0<=b/\b<W.ao)/\a≠b)/\((W.aa a.toNat).kind≠0/\(W.aa a.toNat).kind≠1)/\((W.aa b.toNat).kind=0/\W.kinds (b.toNat/16)=5)/\(0<=r/\r<=7)/\(0<=g/\g<=65535)/\(0<g->(W.aa a.toNat).aH<=0/\((W.aa a.toNat).kind=7\/(W.aa a.toNat).kind=8)):=by
 unfold gd at h;cases e:jJ W a b==0 with
 |false=>rw[e]at h;exact absurd h (beq_eq_false_iff_ne.1 e)
 |true=>
  rw[e]at h;obtain⟨h1,h2,j,k,c⟩:=Hj e;have l:=(CK (beq_iff_eq.2 k)).2;cases c1:(W.aa a.toNat).kind==1 with
  |true=>rw[c1]at h;exact absurd (show(3:Int)=0 from h) (by decide)
  |false=>
   cases d:az r 7||az g 65535 with
   |true=>rw[c1,d]at h;exact absurd (show(2:Int)=0 from h) (by decide)
   |false=>
    cases i:decide (0<g)&&(decide (0<(W.aa a.toNat).aH)||((W.aa a.toNat).kind !=7&&(W.aa a.toNat).kind !=8))with
    |true=>rw[c1,d,i]at h;exact absurd (show(4:Int)=0 from h) (by decide)
    |false=>
     rw[bX]at d;unfold gA at c;rw[decide_eq_false (show¬b<0 by omega),decide_eq_false (show¬(W.ao:Int)<=b by omega)]at c;have n:(b/16).toNat=b.toNat/16:=by omega
     rw[n]at c;have k1:W.kinds (b.toNat/16)=5:=by
      cases q:W.kinds (b.toNat/16) !=5 with
      |true=>rw[q]at c;exact absurd (show(3:Int)=0 from c) (by decide)
      |false=>simpa using q
     have k2:(W.aa b.toNat).kind=0:=by
      cases q:(W.aa b.toNat).kind !=0 with
      |true=>rw[k1,q]at c;exact absurd (show(12:Int)=0 from c) (by decide)
      |false=>simpa using q
     refine⟨⟨h1,h2,j⟩,⟨l,beq_eq_false_iff_ne.1 c1⟩,⟨k2,k1⟩,dO d.1,dO d.2,λo=>?_⟩;rw[decide_eq_true o]at i;simp only[qO,bX,decide_eq_false_iff_not,pI,bne_eq_false_iff_eq]at i;exact⟨by omega,i.2⟩
theorem KG.put {P:Nat->Prop} {W:Wd} {A B:Nat} {K:bM} (h:KG P W) (V:A<W.ao) (O:B<W.ao) (o:(W.aa B).kind=0) (C:W.kinds (B/16)=5) (y:K.kind≠0/\K.kind≠1) (E:eA K=0) (G:K.base+K.len<=W.ak) (I:W.kinds K.base.toNat=K.kind) (q:K.from_=A) (hm:dU K (W.aa A)=true):KG P {W with aa:=aj W.aa B K}:=by
 have z:=h.z;have J:(W.aa A).kind≠0:=KE hm y.1;have u:A≠B:=λe=>J (by rw[e];exact o);have t:aj W.aa B K B=K:=bg
 have ne:∀{i},i≠B->aj W.aa B K i=W.aa i:=λe=>bh e;have x:=h.e0 B O o;have R:∀{i},i<W.ao->(W.aa i).from_≠(B:Int):=λ{i} j e=>by obtain⟨_,_,c,_⟩:=h.full j (by omega);rw[e,cj]at c;exact c o
 have cl:∀i f,bU (aj W.aa B K i) f=bU (W.aa i) f:=λi f=>by
  rcases aT (i=B)with e|e
  ·subst e;rw[t,x];unfold bU;rw[beq_eq_false_iff_ne.2 y.2];rfl
  ·rw[ne e]
 refine⟨z.cg rfl rfl,h.kd,λi j d=>?_,λi j d=>?_,λi j d=>?_,?_,λf q=>?_,λf q h0=>?_,λi j d l c T k=>?_⟩
 ·have d:(aj W.aa B K i).kind=0:=d;show aj W.aa B K i=_;rcases aT (i=B)with e|e
  ·subst e;rw[t]at d;exact absurd d y.1
  ·rw[ne e]at d⊢;exact h.e0 i j d
 ·have d:(aj W.aa B K i).kind≠0:=d;show(W.kinds (i/16)=5\/P (i/16))/\eA (aj W.aa B K i)=0/\(aj W.aa B K i).base+(aj W.aa B K i).len<=W.ak/\((aj W.aa B K i).kind=1\/W.kinds (aj W.aa B K i).base.toNat=(aj W.aa B K i).kind);rcases aT (i=B)with e|e
  ·subst e;rw[t];exact⟨.inl C,E,G,.inr I⟩
  ·rw[ne e]at d⊢;exact h.s1 i j d
 ·have d:(aj W.aa B K i).kind≠0:=d;show(aj W.aa B K i).from_= -1\/((0<=(aj W.aa B K i).from_/\(aj W.aa B K i).from_<W.ao)/\dU (aj W.aa B K i) (aj W.aa B K (aj W.aa B K i).from_.toNat)=true);rcases aT (i=B)with e|e
  ·subst e;rw[t,q,cj,ne u];exact .inr ⟨by omega,hm⟩
  ·rw[ne e]at d⊢;refine(h.s2 i j d).imp_right λg=>⟨g.1,?_⟩;rw[ne λS=>R j (by omega)];exact g.2
 ·obtain⟨r,U⟩:=h.rk;refine⟨λi=>if i=B then r A+1 else r i,λi j h0=>?_⟩;have h0:0<=(aj W.aa B K i).from_:=h0;show(if(aj W.aa B K i).from_.toNat=B then r A+1 else r (aj W.aa B K i).from_.toNat)<if i=B then r A+1 else r i;rcases aT (i=B)with e|e
  ·subst e;rw[t,q,cj,if_neg u,if_pos rfl];omega
  ·rw[ne e]at h0⊢;rw[if_neg e,if_neg λS=>R j (by omega)];exact U i j h0
 ·show bD W.ao (λi=>bU (aj W.aa B K i) f)<=1;rw[hV λi _=>cl i f];exact h.cl f q
 ·obtain⟨a,b⟩:=h.ky f q h0;refine⟨?_,λi j=>?_⟩
  ·show 0<bD W.ao (λi=>cJ (aj W.aa B K i) f);have:=BF (n:=W.ao) (a:=B) (p:=λi=>cJ (W.aa i) f) (v:=cJ K f) O;have e:bD W.ao (λi=>cJ (aj W.aa B K i) f)=bD W.ao (aj (λi=>cJ (W.aa i) f) B (cJ K f)):=hV λi _=>by
    rcases aT (i=B)with e|e
    ·subst e;rw[bg,bg]
    ·rw[bh e,bh e]
   have S:b1 (cJ (W.aa B) f)=0:=by rw[x];rfl
   rw[e];have:bD W.ao (aj (λi=>cJ (W.aa i) f) B (cJ K f))+b1 (cJ (W.aa B) f)=bD W.ao (λi=>cJ (W.aa i) f)+b1 (cJ K f):=this;omega
  ·show gL (aj W.aa B K i) f=false;rcases aT (i=B)with e|e
   ·subst e;rw[t];unfold gL bU;rw[beq_eq_false_iff_ne.2 y.2];rfl
   ·rw[ne e];exact b i j
 ·have d:(aj W.aa B K i).kind≠0:=d;have l:(aj W.aa B K i).kind≠1:=l;have k:bU (aj W.aa B K c) (aj W.aa B K i).base.toNat=true:=k;rw[cl]at k;show(aj W.aa B K i).from_≠ -1;rcases aT (i=B)with e|e
  ·subst e;rw[t,q];omega
  ·rw[ne e]at d l k⊢;exact h.ex i j d l c T k
theorem KG.copy {P:Nat->Prop} {W:Wd} {a b r g:Int} (h:KG P W):KG P (qi W a b r g):=by
 cases d:gd W a b r g==0 with
 |false=>
  have e:(λj=>om W a b r g j)=W.aa:=by funext j;unfold om;rw[d];rfl
  unfold qi;rw[e];exact h
 |true=>
  obtain⟨⟨h1,h2,u⟩,⟨k1,k2⟩,⟨k,l⟩,v,o,c⟩:=acj (eq_of_beq d);have e:(λj=>om W a b r g j)=aj W.aa b.toNat (AU (W.aa a.toNat) a r g):=by funext j;unfold om aj;rw[d,qO]
  unfold qi;rw[e];have i:a.toNat<W.ao:=by omega
  obtain⟨_,s2,p,t⟩:=h.s1 _ i k1;have x:=iY s2;have hand:(W.aa a.toNat).cd.toNat&&&r.toNat<=7:=by have:=Nat.and_le_right (n:=(W.aa a.toNat).cd.toNat) (m:=r.toNat);omega
  refine h.put (A:=a.toNat) i (by omega) k l ⟨k1,k2⟩ ?_ p (t.resolve_left k2) (show a=_ by omega) ?_
  ·refine WJ s2 k1 ⟨pF _,?_⟩ ?_
   ·show(((W.aa a.toNat).cd.toNat&&&r.toNat:Nat):Int)<=7;omega
   ·show(bif decide (0<g)then g else(W.aa a.toNat).aH)=_\/_;rcases tv 0 g with q|q
    ·refine .inr ⟨?_,(c q).2⟩;show 0<=(bif decide (0<g)then g else(W.aa a.toNat).aH)/\(bif decide (0<g)then g else(W.aa a.toNat).aH)<=65535;rw[decide_eq_true q];exact o
    ·rw[decide_eq_false (by omega)];exact .inl rfl
  ·refine lz.2 ⟨s2,.inr ⟨k2,rfl,rfl,?_,?_⟩⟩
   ·show(W.aa a.toNat).aH=0\/(W.aa a.toNat).aH=bif decide (0<g)then g else(W.aa a.toNat).aH;rcases tv 0 g with q|q
    ·exact .inl (by have:=(c q).1;omega)
    ·rw[decide_eq_false (by omega)];exact .inr rfl
   ·show(((W.aa a.toNat).cd.toNat&&&(((W.aa a.toNat).cd.toNat&&&r.toNat:Nat):Int).toNat:Nat):Int)=(((W.aa a.toNat).cd.toNat&&&r.toNat:Nat):Int);rw[cj,WK]
theorem OL {W:Wd} {b:Int} (h:gA W b=0):(0<=b/\b<W.ao)/\(W.aa b.toNat).kind=0/\W.kinds (b.toNat/16)=5:=by
 unfold gA at h;cases c1:(decide (b<0)||decide ((W.ao:Int)<=b))with
 |true=>rw[c1]at h;exact absurd (show(2:Int)=0 from h) (by decide)
 |false=>
  rw[c1]at h;simp only[bX,decide_eq_false_iff_not]at c1;have d:(b/16).toNat=b.toNat/16:=by omega
  rw[d]at h;cases q:W.kinds (b.toNat/16) !=5 with
  |true=>rw[q]at h;exact absurd (show(3:Int)=0 from h) (by decide)
  |false=>
   cases c:(W.aa b.toNat).kind !=0 with
   |true=>rw[q,c]at h;exact absurd (show(12:Int)=0 from h) (by decide)
   |false=>exact⟨by omega,by simpa using c,by simpa using q⟩
theorem KG.mv {P:Nat->Prop} {W:Wd} {A B:Nat} (h:KG P W) (S:A<W.ao) (Z:B<W.ao) (T:(W.aa A).kind≠0) (C:(W.aa B).kind=0) (U:W.kinds (B/16)=5):KG P {W with aa:=λj=>cr A B (cX W.aa A B j)}:=by
 have z:=h.z;have E:A≠B:=λe=>T (by rw[e];exact C);have V:=h.e0 B Z C;obtain⟨r,X⟩:=h.rk;have sB:cX W.aa A B B=W.aa A:=by unfold cX;rw[cy];rfl
 have O:cX W.aa A B A=fm:=by unfold cX;rw[dt E,cy];rfl
 have Y:∀{j},j≠A->j≠B->cX W.aa A B j=W.aa j:=λh1 h2=>by unfold cX;rw[dt h2,dt h1];rfl
 have I:∀{i},i<W.ao->(W.aa i).from_≠(B:Int):=λ{i} x e=>by obtain⟨_,_,c,_⟩:=h.full x (by omega);rw[e,cj]at c;exact c C
 have nfA:(W.aa A).from_≠(A:Int):=λe=>by have:=X A S (by omega);rw[e,cj]at this;omega
 have pre:∀j,j<W.ao->j≠A->∃i,i<W.ao/\i≠B/\cX W.aa A B j=W.aa i/\(j=B/\i=A\/j≠B/\i=j):=λj o h1=>by
  rcases aT (j=B)with e|e
  ·subst e;exact⟨A,S,E,sB,.inl ⟨rfl,rfl⟩⟩
  ·exact⟨j,o,e,Y h1 e,.inr ⟨e,rfl⟩⟩
 have J:cr A B (cX W.aa A B A)=fm:=by rw[O];unfold cr;rw[beq_eq_false_iff_ne.2 (show(fm.from_:Int)≠A by show(-1:Int)≠A;omega)];rfl
 have dg:∀q:bM->Bool,(∀s t,lq s t->q s=q t)->q fm=false->bD W.ao (λi=>q (cr A B (cX W.aa A B i)))=bD W.ao (λi=>q (W.aa i)):=λq hq h0=>by
  have e:bD W.ao (λi=>q (cr A B (cX W.aa A B i)))=bD W.ao (aj (aj (λi=>q (W.aa i)) A false) B (q (W.aa A))):=hV λi _=>by
   rw[hq _ _ (j6 _ _ _)];rcases aT (i=B)with e|e
   ·subst e;rw[bg,sB]
   ·rw[bh e];rcases aT (i=A)with k|k
    ·subst k;rw[bg,O,h0]
    ·rw[bh k,Y k e]
  have a1:=BF (n:=W.ao) (a:=B) (p:=aj (λi=>q (W.aa i)) A false) (v:=q (W.aa A)) Z;have a2:=BF (n:=W.ao) (a:=A) (p:=λi=>q (W.aa i)) (v:=false) S;rw[bh (show B≠A from E.symm)]at a1;rw[V,h0]at a1;rw[e];have z0:b1 false=0:=rfl;omega
 refine⟨z.cg rfl rfl,h.kd,λi x b=>?_,λi x b=>?_,λi x b=>?_,?_,λf R=>?_,λf R h0=>⟨?_,λi x=>?_⟩,λi x b y c hc l=>?_⟩
 ·have b:(cr A B (cX W.aa A B i)).kind=0:=b;show cr A B (cX W.aa A B i)=fm;rcases aT (i=A)with e|e
  ·subst e;exact J
  ·obtain⟨j,o,_,u,G⟩:=pre i x e;rw[(j6 _ _ _).1,u]at b;rw[u,h.e0 j o b];unfold cr;rw[beq_eq_false_iff_ne.2 (show(fm.from_:Int)≠A by show(-1:Int)≠A;omega)];rfl
 ·have b:(cr A B (cX W.aa A B i)).kind≠0:=b;show(W.kinds (i/16)=5\/P (i/16))/\eA (cr A B (cX W.aa A B i))=0/\(cr A B (cX W.aa A B i)).base+(cr A B (cX W.aa A B i)).len<=W.ak/\((cr A B (cX W.aa A B i)).kind=1\/W.kinds (cr A B (cX W.aa A B i)).base.toNat=(cr A B (cX W.aa A B i)).kind);rcases aT (i=A)with e|e
  ·subst e;rw[J]at b;exact absurd rfl b
  ·obtain⟨j,o,_,u,G⟩:=pre i x e;have ky:=j6 A B (cX W.aa A B i);rw[ky.no,ky.1,ky.2.1,ky.2.2.1,u];rw[ky.1,u]at b;obtain⟨s1,s2,s3,s4⟩:=h.s1 j o b;refine⟨?_,s2,s3,s4⟩;rcases G with⟨K,_⟩|⟨_,k⟩
   ·rw[K];exact .inl U
   ·rw[k]at s1;exact s1
 ·have b:(cr A B (cX W.aa A B i)).kind≠0:=b;show(cr A B (cX W.aa A B i)).from_= -1\/((0<=(cr A B (cX W.aa A B i)).from_/\(cr A B (cX W.aa A B i)).from_<W.ao)/\dU (cr A B (cX W.aa A B i)) (cr A B (cX W.aa A B (cr A B (cX W.aa A B i)).from_.toNat))=true);rcases aT (i=A)with e|e
  ·subst e;rw[J]at b;exact absurd rfl b
  ·obtain⟨j,o,_,u,G⟩:=pre i x e;have ky:=j6 A B (cX W.aa A B i);rw[ky.1,u]at b;rw[BT,u];rcases h.s2 j o b with g|⟨g1,g2⟩
   ·rw[g];rw[beq_eq_false_iff_ne.2 (show(-1:Int)≠A by omega)];exact .inl rfl
   ·right;rcases aT ((W.aa j).from_=(A:Int))with k|k
    ·rw[k,beq_self_eq_true];show(0<=(B:Int)/\(B:Int)<W.ao)/\dU (cr A B (W.aa j)) (cr A B (cX W.aa A B B))=true;rw[sB];rw[k,cj]at g2;exact⟨by omega,by rw[(j6 _ _ _).made (j6 _ _ _)];exact g2⟩
    ·rw[beq_eq_false_iff_ne.2 k];refine⟨g1,?_⟩;show dU (cr A B (W.aa j)) (cr A B (cX W.aa A B (W.aa j).from_.toNat))=true;rw[Y (λe3=>k (by omega)) (λe3=>I o (by omega)),(j6 _ _ _).made (j6 _ _ _)];exact g2
 ·refine⟨λi=>if i=B then r A else r i,λi x h0=>?_⟩;have h0:0<=(cr A B (cX W.aa A B i)).from_:=h0;show(if(cr A B (cX W.aa A B i)).from_.toNat=B then r A else r (cr A B (cX W.aa A B i)).from_.toNat)<if i=B then r A else r i;rcases aT (i=A)with e|e
  ·subst e;rw[J]at h0;exact absurd h0 (by decide)
  ·obtain⟨j,o,_,u,G⟩:=pre i x e;have er:(if i=B then r A else r i)=r j:=by
    rcases G with⟨K,k⟩|⟨K,k⟩
    ·rw[if_pos K,k]
    ·rw[if_neg K,k]
   rw[er];rw[BT,u]at h0⊢;rcases aT ((W.aa j).from_=(A:Int))with k|k
   ·rw[k,beq_self_eq_true];show(if(B:Int).toNat=B then r A else _)<_;rw[cj,if_pos rfl];have:=X j o (by omega);rw[k,cj]at this;exact this
   ·rw[beq_eq_false_iff_ne.2 k]at h0⊢;have h0:0<=(W.aa j).from_:=h0;show(if(W.aa j).from_.toNat=B then r A else r (W.aa j).from_.toNat)<_;rw[if_neg λe3=>I o (by omega)];exact X j o h0
 ·show bD W.ao (λi=>bU (cr A B (cX W.aa A B i)) f)<=1;rw[dg (λs=>bU s f) (λs t e=>e.p_ f) rfl];exact h.cl f R
 ·show 0<bD W.ao (λi=>cJ (cr A B (cX W.aa A B i)) f);rw[dg (λs=>cJ s f) (λs t e=>e.key f) rfl];exact(h.ky f R h0).1
 ·show gL (cr A B (cX W.aa A B i)) f=false;rcases aT (i=A)with e|e
  ·subst e;rw[J];rfl
  ·obtain⟨j,o,_,u,G⟩:=pre i x e;rw[(j6 _ _ _).free,u];exact(h.ky f R h0).2 j o
 ·have b:(cr A B (cX W.aa A B i)).kind≠0:=b;have y:(cr A B (cX W.aa A B i)).kind≠1:=y;have l:bU (cr A B (cX W.aa A B c)) (cr A B (cX W.aa A B i)).base.toNat=true:=l;show(cr A B (cX W.aa A B i)).from_≠ -1;have ky:=j6 A B (cX W.aa A B i);rw[ky.1]at b y;rw[(j6 _ _ _).p_,ky.2.1]at l;rcases aT (i=A)with e|e
  ·subst e;rw[O]at b;exact absurd rfl b
  rcases aT (c=A)with e'|e'
  ·subst e';rw[O]at l;exact absurd l (by simp[bU,fm])
  obtain⟨j,o,_,u,G⟩:=pre i x e;obtain⟨d,hd,_,ed,_⟩:=pre c hc e';rw[u]at b y l;rw[ed]at l;rw[BT,u];have:=h.ex j o b y d hd l;cases (W.aa j).from_==(A:Int)with
  |true=>show(B:Int)≠ -1;omega
  |false=>exact this
theorem KG.move {P:Nat->Prop} {W:Wd} {a b:Int} (h:KG P W):KG P (Ek W a b):=by
 cases c:jJ W a b==0 with
 |false=>
  have e:(λj=>bif jJ W a b==0 then cr a b (cX W.aa a.toNat b.toNat j)else W.aa j)=W.aa:=by funext j;rw[c];rfl
  unfold Ek;rw[e];exact h
 |true=>
  obtain⟨h1,h2,p,d,g⟩:=Hj c;obtain⟨_,i,k⟩:=OL g;have l:=(CK (beq_iff_eq.2 d)).2;have n:(a.toNat:Int)=a:=by omega
  have o:(b.toNat:Int)=b:=by omega
  have e:(λj=>bif jJ W a b==0 then cr a b (cX W.aa a.toNat b.toNat j)else W.aa j)=λj=>cr (a.toNat:Int) (b.toNat:Int) (cX W.aa a.toNat b.toNat j):=by funext j;rw[c,n,o];rfl
  unfold Ek;rw[e];exact h.mv (by omega) (by omega) l i k
def rf (n:Nat) (t:Nat->bM) (q:Int):Bool:=da n λi=>(t i).from_==q
def aad (W:Wd) (q:Int) (z:Nat):cQ where
 σ:=Nat
 rt:= []
 sh i:= [(z,.v (.int .i64 i))]
 mh _:= []
 inv i:=i<=W.ao/\∀j,j<i->((W.aa j).from_==q)=false
 μ i:=W.ao -i
 init:=0
structure Bp where
 (W:Wd) (q:Int)
def E_:Sy.Spec:=⟨Bp,λ⟨W,q⟩=> [dN W,.v (.int .i64 q)],λ_=> [],λ⟨W,_⟩=>W.ao<=100000,λ⟨W,q⟩=> .v (.bool (rf W.ao W.aa q)),λ_=> [],
 λargs mem=>match args with| [a0,a1]=>some ⟨dJ a0,av (a1)⟩|_=>none⟩
def Vd:aZ:=⟨[],(E_).g,none⟩
def KI:Bp->Prop:=λ⟨W,q⟩=>let a0:=W.ao;let b0:=(a0:Int);let c0:=rf a0 W.aa q;0=((0:Nat):Int)/\True/\(0<=a0/\(∀d0:Nat,d0<0->((W.aa d0).from_==q)=false))/\(∀e0:Nat,let b:=(e0:Int);let h0:=decide (b<b0);let k0:=(W.aa (Int.toNat b)).from_==q;let d:Int:=b+1;e0<=a0/\(∀o0:Nat,o0<e0->((W.aa o0).from_==q)=false)->b0<=9223372036854775807->(h0=true->(0<=b/\b<b0)/\(k0=true->true=c0/\True)/\(k0=false->aw d=d/\(∃c:Nat,d=(c:Int)/\True/\(c<=a0/\(∀r0:Nat,r0<c->((W.aa r0).from_==q)=false))/\a0-c<a0-e0)))/\(h0=false->false=c0/\True))
theorem Ua:aY Tryz.prog bk 97 Vd:=bn .nil false Tryz.call97 Tryz.func97 (λ⟨W,q⟩=> [.inv (aad W q 5)]) (V:=KI) (λ_=>by kernel_rfl) λ⟨W,q⟩ hp=>by
 dsimp only[E_]at hp;dsimp only[KI,tn,aw,aB,aJ,aK,aG];simp only[bq,bx,eq_self,implies_true,bo]
 try simp only[dI]
 refineλs hs _=>⟨λh=>?_,λh=>?_⟩
 ·have b:=fh h;exact⟨by omega,λh=>(ly.2 ⟨s,b,h⟩).symm,λh=>⟨du (by omega) (by omega),eU ⟨⟨by omega,ir (p:=λi=>(W.aa i).from_==q) hs.2 h⟩,by omega⟩⟩⟩
 ·have c:=fq h;obtain rfl:s=W.ao:=by omega
  exact(lr.2 hs.2).symm
def iy (W:Wd) (s:Int):Int:=bif rf W.ao W.aa s then(W.aa s.toNat).mark else 0
def z' (W:Wd) (n to:Int):Bool:=da n.toNat λi=>(W.aa (to.toNat+i)).kind !=0
def dH (W:Wd) (s k n to:Int):Int:=
 bif decide (s<0)||decide ((W.ao:Int)<=s)||decide (to<0)||decide ((W.ao:Int)<=to)then 2 else
 bif (W.aa s.toNat).kind==0 then 6 else
 bif (W.aa s.toNat).kind !=1||decide (k<2)||decide (8<k)||W.kinds (to/16).toNat !=5 then 3 else
 bif decide (n<1)||decide (16<n)||decide (16<to%16+n)then 2 else
 bif z' W n to then 12 else
 bif decide ((W.aa s.toNat).len<iy W s+n)then 5 else 0
def cp (a n i:Nat):Bool:=Nat.ble a i&&Nat.blt i (a+n)
def gF (W:Wd) (s:Int):Nat:=((W.aa s.toNat).base+iy W s).toNat
def eC (W:Wd) (s k:Int) (n i:Nat):Int:=bif cp (gF W s) n i then k else W.kinds i
def gB (W:Wd) (s:Int) (n i:Nat):Int:=bif cp (gF W s*16) (n*16) i then 0 else W.af i
def xZ (W:Wd) (s k to:Int) (i:Nat):bM:=⟨k,(gF W s:Int)+(i -to),1,0,7,0,s⟩
def jK (W:Wd) (s k to:Int) (n i:Nat):bM:=bif cp to.toNat n i then xZ W s k to i else W.aa i
def rh (W:Wd) (s k n to:Int) (i:Nat):bM:=aj (jK W s k to n.toNat) s.toNat {W.aa s.toNat with mark:=iy W s+n} i
def jH (W:Wd) (s k n to:Int) (i:Nat):Int:=bif dH W s k n to==0 then gB W s n.toNat i else W.af i
def jI (W:Wd) (s k n to:Int) (i:Nat):Int:=bif dH W s k n to==0 then eC W s k n.toNat i else W.kinds i
def iK (W:Wd) (s k n to:Int) (i:Nat):bM:=bif dH W s k n to==0 then rh W s k n to i else W.aa i
def oZ (W:Wd) (s k n to:Int):Wd:={W with af:=jH W s k n to,kinds:=jI W s k n to,aa:=iK W s k n to}
structure xP (W:Wd):Prop where
 k0:1<=W.ak
 k1:W.ak<=24
 r:W.ay=W.ak*16
 s:W.ao=W.ak*16
 sl:∀i:Nat,i<W.ao->(W.aa i).kind=1->0<=(W.aa i).base/\0<=(W.aa i).mark/\(W.aa i).mark<=24/\0<=(W.aa i).len/\(W.aa i).base+(W.aa i).len<=W.ak
def Z' (W:Wd) (to:Int) (n:Nat) (l:List (Nat×SV)) (r:List (Nat×Nat)) (z:Nat) (o:Int):cQ where
 σ:=Nat
 rt:=r
 sh i:=l++ [(z,.v (.int .i64 (o+i)))]
 mh _:= []
 inv i:=i<=n/\∀j,j<i->((W.aa (to.toNat+j)).kind !=0)=false
 μ i:=n -i
 init:=0
def aaa (W:Wd) (s k to:Int) (n:Nat) (l:List (Nat×SV)) (r:List (Nat×Nat)) (z:Nat):cQ where
 σ:=Nat
 rt:=r
 sh i:=l++ [(z,.v (.int .i64 i))]
 mh i:= [(1,.row 1 W.ay (iF (gB W s i))),(2,.row 1 W.ak (iF (eC W s k i))),(3,.row 7 W.ao (rF λq=>mU (jK W s k to i q)))]
 inv i:=i<=n
 μ i:=n -i
 init:=0
def jL (W:Wd) (s:Int) (n c i:Nat):Int:=bif cp ((gF W s+n)*16) c i then 0 else gB W s n i
def aab (W:Wd) (s:Int) (n:Nat) (l:List (Nat×SV)) (r:List (Nat×Nat)) (z:Nat):cQ where
 σ:=Nat
 rt:=r
 sh i:=l++ [(z,.v (.int .i64 i))]
 mh i:= [(1,.row 1 W.ay (iF (jL W s n i)))]
 inv i:=i<=16
 μ i:=16 -i
 init:=0
theorem fM {a n i:Nat}:cp a n i=true↔a<=i/\i<a+n:=by unfold cp;rw[aW];exact⟨λh=>⟨bP h.1,bP h.2⟩,λh=>⟨abU h.1,gY h.2⟩⟩
theorem RA {a n i:Nat} (h:i<a\/a+n<=i):cp a n i=false:=by
 cases b:cp a n i with
 |false=>rfl
 |true=>have:=fM.1 b;omega
theorem D3 {a i:Nat}:cp a 0 i=false:=RA (by omega)
theorem H0 {a m j:Nat}:cp a (m+1) j=(Nat.beq j (a+m)||cp a m j):=by rw[lJ,cM,fM,fM,Nat.beq_eq];omega
theorem aac {f m j:Nat}:cp (f*16) ((m+1)*16) j=(cp ((f+m)*16) 16 j||cp (f*16) (m*16) j):=by rw[lJ,cM,fM,fM,fM];omega
theorem RB {W:Wd} {s:Int} {i:Nat}:gB W s 0 i=W.af i:=by unfold gB;rw[yG,D3];rfl
theorem RC {W:Wd} {s k:Int} {i:Nat}:eC W s k 0 i=W.kinds i:=by unfold eC;rw[D3];rfl
theorem RE {W:Wd} {s k to:Int} {i:Nat}:jK W s k to 0 i=W.aa i:=by unfold jK;rw[D3];rfl
theorem P9 {W:Wd} {s k:Int} {m j:Nat}:(bif Nat.beq j (gF W s+m)then k else eC W s k m j)=eC W s k (m+1) j:=by unfold eC;rw[H0];cases Nat.beq j (gF W s+m)<;>rfl
theorem RF {W:Wd} {s:Int} {m j:Nat}:jL W s m 0 j=gB W s m j:=by unfold jL;rw[D3];rfl
theorem P_ {W:Wd} {s:Int} {m c j:Nat}:(bif Nat.beq j ((gF W s+m)*16+c)then 0 else jL W s m c j)=jL W s m (c+1) j:=by unfold jL;rw[H0];cases Nat.beq j ((gF W s+m)*16+c)<;>rfl
theorem P' {W:Wd} {s:Int} {m j:Nat}:jL W s m 16 j=gB W s (m+1) j:=by unfold jL gB;rw[aac];cases cp ((gF W s+m)*16) 16 j<;>rfl
theorem Qa {W:Wd} {s k to:Int} {m j:Nat}:(bif Nat.beq j (to.toNat+m)then xZ W s k to j else jK W s k to m j)=jK W s k to (m+1) j:=by unfold jK;rw[H0];cases Nat.beq j (to.toNat+m)<;>rfl
theorem NY {W:Wd} {s k to:Int} {m j:Nat} (h:j<to.toNat\/to.toNat+m<=j):jK W s k to m j=W.aa j:=by unfold jK;rw[RA h];rfl
structure Co where
 (s k n to:Int) (W:Wd)
def Gz:Sy.Spec:=⟨Co,λ⟨s,k,n,to,_⟩=> [.ptr 0 0 none 0 0,.v (.int .i64 s),.v (.int .i64 k),.v (.int .i64 n),.v (.int .i64 to)],λ⟨_,_,_,_,W⟩=>cL W,λ⟨_,_,_,_,W⟩=>xP W,λ⟨s,k,n,to,W⟩=> .v (.int .i64 (dH W s k n to)),λ⟨s,k,n,to,W⟩=>cL (oZ W s k n to),
 λargs mem=>match args with| [a0,a1,b,a3,a4]=>some ⟨av (a1),av (b),av (a3),av (a4),fW mem 0⟩|_=>none⟩
def Yr:aZ:=⟨[true],(Gz).g,none⟩
def NZ:Co->Prop:=λ⟨s,k,n,to,W⟩=>let a0:=W.ao;let b0:=(a0:Int);let c0:=cond (cond (cond (decide (s<0)) true (decide (b0<=s))) true (decide (to<0))) true (decide (b0<=to));let d0:=dH W s k n to;let e0:={W with af:=jH W s k n to,kinds:=jI W s k n to,aa:=iK W s k n to};let E:=aB W e0 True;let h0:=2=d0/\E;let k0:=W.ay;let G:=W.ak;let o0:=W.aO;let Z:=W.aX;let r0:=W.aP;let u0:=W.aC;let v0:=W.aR;let w0:=W.aQ;let x0:=W.aL;let y0:=(((((((((((True/\k0=k0/\(∀z0:Nat,z0<k0->True/\W.af (0+z0)=W.af (0+z0)))/\G=G/\(∀a1:Nat,let b1:=W.kinds (0+a1);a1<G->True/\b1=b1))/\a0=a0/\(∀c1:Nat,let d1:=W.aa (0+c1);c1<a0->aK d1 d1))/\o0=o0/\(∀e1:Nat,let g1:=W.tasks (0+e1);e1<o0->aJ g1 g1))/\Z=Z/\(∀h1:Nat,let k1:=W.ah (0+h1);h1<Z->True/\k1=k1/\(∀l1:Nat,let o1:=W.lines (0+h1) (0+l1);l1<k1->True/\o1=o1)))/\r0=r0/\(∀q1:Nat,q1<r0->True/\W.bits (0+q1)=W.bits (0+q1)))/\u0=u0/\(∀r1:Nat,let u1:=W.ai (0+r1);r1<u0->True/\u1=u1))/\v0=v0/\(∀v1:Nat,let w1:=W.al (0+v1);v1<v0->True/\w1=w1/\(∀x1:Nat,let y1:=W.ready (0+v1) (0+x1);x1<w1->True/\y1=y1)))/\w0=w0/\(∀z1:Nat,let a2:=W.aD (0+z1);z1<w0->True/\a2=a2/\(∀b2:Nat,let c2:=W.ax (0+z1) (0+b2);b2<a2->aG c2 c2)))/\x0=x0/\(∀d2:Nat,d2<x0->True/\W.aA (0+d2)=W.aA (0+d2)))/\W.time=W.time)/\s=s/\True;
 let e2:=Wd.mk k0 (λg2:Nat=>W.af (0+g2)) G (λh2:Nat=>W.kinds (0+h2)) a0 (λk2:Nat=>W.aa (0+k2)) o0 (λl2:Nat=>W.tasks (0+l2)) Z (λo2:Nat=>W.ah (0+o2)) (λq2:Nat=>λr2:Nat=>W.lines (0+q2) (0+r2)) r0 (λu2:Nat=>W.bits (0+u2)) u0 (λv2:Nat=>W.ai (0+v2)) v0 (λw2:Nat=>W.al (0+w2)) (λx2:Nat=>λy2:Nat=>W.ready (0+x2) (0+y2)) w0 (λz2:Nat=>W.aD (0+z2)) (λa3:Nat=>λb3:Nat=>W.ax (0+a3) (0+b3)) x0 (λc3:Nat=>W.aA (0+c3)) W.time;let d3:=gM e2 s;let e3:=d3 !=0;let g3:=0<=s/\s<b0;let h3:=0+Int.toNat s;let x:=W.aa h3;let I:=x.kind;let o3:=cond (cond (I !=1) true (decide (k<2))) true (decide (8<k));let q3:=o3=false;let r3:Int:=to/16;let u3:=(G:Int);let v3:=cond o3 true (W.kinds (0+Int.toNat r3) !=5);let w3:=cond (decide (n<1)) true (decide (16<n));let x3:=w3=false;let y3:Int:=to%16+n;let z3:=cond w3 true (decide (16<y3));let a4:=SV.ptr 0 0 none 0 0;let h:=a4=a4;let c4:=SV.ptr 11 0 none 0 0;let i:=c4=c4;let e4:=x.base;let y:=x.len;let h4:=x.mark;let k4:=x.cd;let l4:=x.aH;let j:=((((((True/\I=I)/\e4=e4)/\y=y)/\h4=h4)/\k4=k4)/\l4=l4)/\True;let q4:=aB W W j;let r4:=Int.toNat n;let u4:=0<=r4;let v4:Int:=to+n;let w4:=!rf a0 (λx4:Nat=>W.aa (0+x4)) s;let y4:Int:=0+n;let z4:=aw y4=y4;let a5:=decide (y<y4);let b5:=5=d0/\E;let c5:=0=((0:Nat):Int);let d5:=aB W {W with af:=gB W s 0,kinds:=eC W s k 0,aa:=jK W s k to 0} j;let e5:Int:=e4+0;let g:=false=false;
 let h5:=(∀k5:Nat,g)/\(∀l5:Nat,g)/\(∀o5:Nat,g)/\(∀q5:Nat,g)/\(∀r5:Nat,g)/\(∀u5:Nat,g);let v5:=(∀w5:Nat,g)/\h5;let x5:=0=d0;let y5:Int:=h4+n;let z5:=aw y5=y5;let a6:=decide (y<y5);let b6:Int:=e4+h4;(c0=true->h0)/\(c0=false->(y0/\True/\True)/\(e3=true->d3=d0/\E)/\(e3=false->g3/\True/\tn 5 True/\(q3->0<=to/\(0:Int)<16/\aw r3=r3)/\(q3->0<=r3/\r3<u3)/\(v3=true->3=d0/\E)/\(v3=false->(x3->0<=to/\(0:Int)<16)/\(x3->aw y3=y3)/\(z3=true->h0)/\(z3=false->h/\i/\to=to+((0:Nat):Int)/\q4/\(u4/\(∀c6:Nat,c6<0->((W.aa (Int.toNat to+c6)).kind !=0)=false))/\(∀d6:Nat,let J:Int:=to+(d6:Int);let g6:=decide (J<v4);let h6:=(W.aa (0+Int.toNat J)).kind !=0;let k6:Int:=J+1;d6<=r4/\(∀l6:Nat,l6<d6->((W.aa (Int.toNat to+l6)).kind !=0)=false)->aw v4=v4/\(g6=true->(0<=J/\J<b0)/\(h6=true->12=d0/\E)/\(h6=false->aw k6=k6/\(∃o6:Nat,h/\i/\k6=to+(o6:Int)/\q4/\(o6<=r4/\(∀q6:Nat,q6<o6->((W.aa (Int.toNat to+q6)).kind !=0)=false))/\r4-o6<r4-d6)))/\(g6=false->(y0/\True/\E_.match_1 (λr6:Bp=>Prop) (Bp.mk e2 s) (λu6:Wd=>λv6:Int=>u6.ao<=100000))/\(w4=true->z4/\(a5=true->b5)/\(a5=false->h/\i/\c5/\d5/\u4/\(∀d:Nat,let K:=(d:Int);let y6:=decide (K<n);let l:Int:=e5+K;let O:=0+Int.toNat l;let z:=jK W s k to d;let c7:=Int.toNat K;let d7:Int:=l*16;let R:Int:=to+K;let g7:Int:=K+1;let h7:=0+Int.toNat R;d<=r4->(y6=true->aw e5=e5/\aw l=l/\(0<=l/\l<u3)/\(∀k7:Nat,g)/\h/\i/\c5/\
 aB {W with af:=gB W s d,kinds:=λl7:Nat=>cond (Nat.beq l7 O) k (eC W s k d l7),aa:=z} {W with af:=jL W s c7 0,kinds:=λo7:Nat=>cond (Nat.beq o7 O) k (eC W s k d o7),aa:=z} j/\0<=16/\(∀o:Nat,let r7:=decide ((o:Int)<16);let S:Int:=d7+(o:Int);let v7:Int:=(o:Int)+1;o<=16->(r7=true->aw d7=d7/\aw S=S/\(0<=S/\S<(k0:Int))/\(∀w7:Nat,g)/\aw v7=v7/\(∃x7:Nat,h/\i/\v7=(x7:Int)/\aB {W with af:=λy7:Nat=>cond (Nat.beq y7 (0+Int.toNat S)) 0 (jL W s c7 o y7),kinds:=λz7:Nat=>cond (Nat.beq z7 O) k (eC W s k d z7),aa:=z} {W with af:=jL W s c7 x7,kinds:=λa8:Nat=>cond (Nat.beq a8 O) k (eC W s k d a8),aa:=z} j/\x7<=16/\16-x7<16-o))/\(r7=false->aw R=R/\(0<=R/\R<b0)/\v5/\aw g7=g7/\(∃A:Nat,h/\i/\g7=(A:Int)/\aB {W with af:=jL W s c7 o,kinds:=λc8:Nat=>cond (Nat.beq c8 O) k (eC W s k d c8),aa:=λd8:Nat=>let p:=Nat.beq d8 h7;let q:=z d8;bM.mk (cond p k q.kind) (cond p l q.base) (cond p 1 q.len) (cond p 0 q.mark) (cond p 7 q.cd) (cond p 0 q.aH) (cond p s q.from_)} {W with af:=gB W s A,kinds:=eC W s k A,aa:=jK W s k to A} j/\A<=r4/\r4-A<r4-d))))/\(y6=false->z4/\tn 7 (g3/\h5/\x5/\aB {W with af:=gB W s d,kinds:=eC W s k d,aa:=λh8:Nat=>let k8:=Nat.beq h8 h3;let r:=z h8;bM.mk (cond k8 I r.kind) (cond k8 e4 r.base) (cond k8 y r.len) (cond k8 y4 r.mark) (cond k8 k4 r.cd) (cond k8 l4 r.aH) r.from_} e0 True)))))/\(w4=false->z5/\(a6=true->b5)/\(a6=false->h/\i/\c5/\d5/\u4/\
 (∀e:Nat,let T:=(e:Int);let r8:=decide (T<n);let t:Int:=b6+T;let U:=0+Int.toNat t;let B:=jK W s k to e;let x8:=Int.toNat T;let y8:Int:=t*16;let V:Int:=to+T;let a9:Int:=T+1;let b9:=0+Int.toNat V;e<=r4->(r8=true->aw b6=b6/\aw t=t/\(0<=t/\t<u3)/\(∀c9:Nat,g)/\h/\i/\c5/\aB {W with af:=gB W s e,kinds:=λd9:Nat=>cond (Nat.beq d9 U) k (eC W s k e d9),aa:=B} {W with af:=jL W s x8 0,kinds:=λe9:Nat=>cond (Nat.beq e9 U) k (eC W s k e e9),aa:=B} j/\0<=16/\(∀u:Nat,let h9:=decide ((u:Int)<16);let X:Int:=y8+(u:Int);let l9:Int:=(u:Int)+1;u<=16->(h9=true->aw y8=y8/\aw X=X/\(0<=X/\X<(k0:Int))/\(∀o9:Nat,g)/\aw l9=l9/\(∃q9:Nat,h/\i/\l9=(q9:Int)/\aB {W with af:=λr9:Nat=>cond (Nat.beq r9 (0+Int.toNat X)) 0 (jL W s x8 u r9),kinds:=λu9:Nat=>cond (Nat.beq u9 U) k (eC W s k e u9),aa:=B} {W with af:=jL W s x8 q9,kinds:=λv9:Nat=>cond (Nat.beq v9 U) k (eC W s k e v9),aa:=B} j/\q9<=16/\16-q9<16-u))/\(h9=false->aw V=V/\(0<=V/\V<b0)/\v5/\aw a9=a9/\(∃C:Nat,h/\i/\a9=(C:Int)/\aB {W with af:=jL W s x8 u,kinds:=λx9:Nat=>cond (Nat.beq x9 U) k (eC W s k e x9),aa:=λy9:Nat=>let v:=Nat.beq y9 b9;let b:=B y9;bM.mk (cond v k b.kind) (cond v t b.base) (cond v 1 b.len) (cond v 0 b.mark) (cond v 7 b.cd) (cond v 0 b.aH) (cond v s b.from_)} {W with af:=gB W s C,kinds:=eC W s k C,aa:=jK W s k to C} j/\C<=r4/\r4-C<r4-e))))/\(r8=false->z5/\tn 7 (g3/\h5/\x5/\
 aB {W with af:=gB W s e,kinds:=eC W s k e,aa:=λY:Nat=>let c:=Nat.beq Y h3;let d10:=B Y;bM.mk (cond c I d10.kind) (cond c e4 d10.base) (cond c y d10.len) (cond c y5 d10.mark) (cond c k4 d10.cd) (cond c l4 d10.aH) d10.from_} e0 True)))))))))))
set_option maxHeartbeats 4000000 in
theorem WL:aY Tryz.prog bk 66 Yr:=bn (.cons MW (.cons Ua .nil)) false Tryz.call66 Tryz.func66 (λ⟨s,k,n,to,W⟩=> [.inv (Z' W to n.toNat [(0,cm 0),(12,cm 11)] [(12,0)] 13 to),.inv (aaa W s k to n.toNat [(0,cm 0),(12,cm 11)] [(12,0)] 15),.zL false λfr=>aab W s (av (fr 15)).toNat [(0,cm 0),(12,cm 11)] [(12,0)] 17]) (V:=NZ) (λ_=>by kernel_rfl) λ⟨s,k,n,to,W⟩ hp=>by
 dsimp only[Gz]at hp;dsimp only[NZ,tn,aw,aB,aJ,aK,aG];simp only[bq,bx,eq_self,implies_true,bo]
 try simp only[dI]
 obtain⟨k0,k1,hr,hs,J⟩:=hp;refine⟨λh1=>?_,λh1=>?_⟩
 ·skip
  have e:dH W s k n to=2:=by unfold dH;rw[h1];rfl
  have b:(dH W s k n to==0)=false:=by rw[e];rfl
  refine⟨e.symm,λi _=>?_,λi _=>?_,λi _=>ld ?_⟩
  ·unfold jH;rw[b];rfl
  ·unfold jI;rw[b];rfl
  ·unfold iK;rw[b];rfl
 have Z:0<=s/\s<W.ao/\0<=to/\to<W.ao:=by have g:=h1;simp only[bX,decide_eq_false_iff_not]at g;omega
 obtain⟨s0,s1,t0,t1⟩:=Z;have hd:(decide (s<0)||decide ((W.ao:Int)<=s))=false:=by simp only[bX,decide_eq_false_iff_not];omega
 have hq:gM W s=bif (W.aa s.toNat).kind==0 then 6 else 0:=by unfold gM;rw[hd];rfl
 simp only[hq];refine⟨λy=>?_,λy=>?_⟩
 ·have h2:((W.aa s.toNat).kind==0)=true:=by
   cases q:(W.aa s.toNat).kind==0 with
   |true=>rfl
   |false=>rw[q]at y;exact absurd y (by decide)
  rw[h2];have e:dH W s k n to=6:=by unfold dH;rw[h1,h2];rfl
  have b:(dH W s k n to==0)=false:=by rw[e];rfl
  refine⟨e.symm,λi _=>?_,λi _=>?_,λi _=>ld ?_⟩
  ·unfold jH;rw[b];rfl
  ·unfold jI;rw[b];rfl
  ·unfold iK;rw[b];rfl
 have h2:((W.aa s.toNat).kind==0)=false:=by
  cases q:(W.aa s.toNat).kind==0 with
  |false=>rfl
  |true=>rw[q]at y;exact absurd y (by decide)
 refine⟨⟨s0,s1⟩,λ_=>⟨t0,by decide,du (by omega) (by omega)⟩,λ_=>⟨by omega,by omega⟩,λj=>?_,λj=>?_⟩
 ·skip
  have e:dH W s k n to=3:=by unfold dH;rw[h1,h2,j];rfl
  have b:(dH W s k n to==0)=false:=by rw[e];rfl
  refine⟨e.symm,λi _=>?_,λi _=>?_,λi _=>ld ?_⟩
  ·unfold jH;rw[b];rfl
  ·unfold jI;rw[b];rfl
  ·unfold iK;rw[b];rfl
 have E:(W.aa s.toNat).kind=1:=by have g:=j;simp only[bX,bne_eq_false_iff_eq]at g;exact g.1.1.1
 obtain⟨b0,m0,m1,l0,bl⟩:=J s.toNat (by omega) E;refine⟨λ_=>⟨t0,by decide⟩,λy=>by simp only[bX,decide_eq_false_iff_not]at y;exact du (by omega) (by omega),λt=>?_,λt=>?_⟩
 ·skip
  have e:dH W s k n to=2:=by unfold dH;rw[h1,h2,j,t];rfl
  have b:(dH W s k n to==0)=false:=by rw[e];rfl
  refine⟨e.symm,λi _=>?_,λi _=>?_,λi _=>ld ?_⟩
  ·unfold jH;rw[b];rfl
  ·unfold jI;rw[b];rfl
  ·unfold iK;rw[b];rfl
 have hn:1<=n/\to%16+n<=16:=by have g:=t;simp only[bX,decide_eq_false_iff_not]at g;omega
 have tn:to+n<=W.ao:=by omega
 refine⟨by omega,λv K=>⟨du (by omega) (by omega),λu=>⟨⟨by omega,by have:=of_decide_eq_true u;omega⟩,λl=>?_,λl=>?_⟩,λu=>?_⟩⟩
 ·have u:=of_decide_eq_true u;rw[show(to+(v:Int)).toNat=to.toNat+v by omega]at l;have C:z' W n to=true:=ly.2 ⟨v,by omega,l⟩;have e:dH W s k n to=12:=by unfold dH;rw[h1,h2,j,t,C];rfl
  have b:(dH W s k n to==0)=false:=by rw[e];rfl
  refine⟨e.symm,λi _=>?_,λi _=>?_,λi _=>ld ?_⟩
  ·unfold jH;rw[b];rfl
  ·unfold jI;rw[b];rfl
  ·unfold iK;rw[b];rfl
 ·have u:=of_decide_eq_true u;rw[show(to+(v:Int)).toNat=to.toNat+v by omega]at l;exact⟨du (by omega) (by omega),v+1,by omega,⟨by omega,ir (p:=λi=>(W.aa (to.toNat+i)).kind !=0) K.2 l⟩,by omega⟩
 have u:=of_decide_eq_false u;have C:z' W n to=false:=lr.2 λi hi=>K.2 i (by omega);have G:∀m:Nat,m<=n.toNat->s.toNat<to.toNat\/to.toNat+m<=s.toNat:=λm hm=>by
  rcases bR s.toNat to.toNat with h|h
  ·exact .inl h
  rcases bR s.toNat (to.toNat+m)with g|g
  ·have:=K.2 (s.toNat -to.toNat) (by omega);rw[show to.toNat+(s.toNat -to.toNat)=s.toNat by omega,E]at this;exact absurd this (by decide)
  ·exact .inr g
 refine⟨by omega,λl=>?_,λl=>?_⟩
 ·have O:rf W.ao W.aa s=false:=by simpa using l
  have o:iy W s=0:=by unfold iy;rw[O];rfl
  have z:∀m:Nat,((W.aa s.toNat).base+0+(m:Int)).toNat=gF W s+m:=λm=>by unfold gF;rw[o];omega
  refine⟨du (by omega) (by omega),λr=>?_,λr=>?_⟩
  ·have d:decide ((W.aa s.toNat).len<iy W s+n)=true:=decide_eq_true (by have:=of_decide_eq_true r;rw[o];omega);have e:dH W s k n to=5:=by unfold dH;rw[h1,h2,j,t,C,d];rfl
   have b:(dH W s k n to==0)=false:=by rw[e];rfl
   refine⟨e.symm,λi _=>?_,λi _=>?_,λi _=>ld ?_⟩
   ·unfold jH;rw[b];rfl
   ·unfold jI;rw[b];rfl
   ·unfold iK;rw[b];rfl
  have d:decide ((W.aa s.toNat).len<iy W s+n)=false:=decide_eq_false (by have:=of_decide_eq_false r;rw[o];omega);have hE:dH W s k n to=0:=by unfold dH;rw[h1,h2,j,t,C,d];rfl
  have hlen:=of_decide_eq_false r;refine⟨⟨λi _=>RB.symm,λi _=>RC.symm,λi _=>ld RE.symm⟩,λm hm=>⟨λA=>?_,λA=>?_⟩⟩
  ·have R:=of_decide_eq_true A;have hF:=z m;refine⟨du (by omega) (by omega),du (by omega) (by omega),⟨by omega,by omega⟩,λi _=>RF.symm,λc I=>⟨λB=>?_,λB=>?_⟩⟩
   ·have S:=of_decide_eq_true B;have T:(((W.aa s.toNat).base+0+(m:Int))*16+(c:Int)).toNat=(gF W s+m)*16+c:=by omega
    refine⟨du (by omega) (by omega),du (by omega) (by omega),⟨by omega,by omega⟩,du (by omega) (by omega),c+1,by omega,λi _=>?_,by omega,by omega⟩;rw[T];exact P_
   ·have U:=of_decide_eq_false B;obtain rfl:c=16:=by omega
    refine⟨du (by omega) (by omega),⟨by omega,by omega⟩,du (by omega) (by omega),m+1,by omega,⟨λi _=>P',λi _=>?_,λi _=>?_⟩,by omega,by omega⟩
    ·rw[z m];exact P9
    ·skip
     rw[show(to+(m:Int)).toNat=to.toNat+m by omega];refine Rd (x:=⟨k,(W.aa s.toNat).base+0+m,1,0,7,0,s⟩) ?_;rw[<-Qa];rcases aT (i=to.toNat+m)with e|e
     ·subst e;rw[cy];show(⟨k,(W.aa s.toNat).base+0+m,1,0,7,0,s⟩:bM)=xZ W s k to (to.toNat+m);unfold xZ;rw[show((gF W s:Int)+(((to.toNat+m:Nat):Int) -to))=(W.aa s.toNat).base+0+m by have:=z 0;omega]
     ·rw[dt e];rfl
  ·have X:=of_decide_eq_false A;obtain rfl:m=n.toNat:=by omega
   have Y:∀i,iK W s k n to i=rh W s k n to i:=λi=>by unfold iK;rw[hE];rfl
   have en:jK W s k to n.toNat s.toNat=W.aa s.toNat:=NY (G _ (bc _));refine⟨du (by omega) (by omega),⟨s0,s1⟩,hE.symm,λi _=>?_,λi _=>?_,λi _=>?_⟩
   ·unfold jH;rw[hE];rfl
   ·unfold jI;rw[hE];rfl
   ·rw[Y];unfold rh;rcases aT (i=s.toNat)with e|e
    ·subst e;simp only[cy,cond_true,bg,en,o]
     repeat' (first|exact trivial|rfl|refine And.intro ?_ ?_)
    ·simp only[dt e,cond_false,bh e]
     repeat' (first|exact trivial|rfl|refine And.intro ?_ ?_)
 ·have O:rf W.ao W.aa s=true:=by simpa using l
  have o:iy W s=(W.aa s.toNat).mark:=by unfold iy;rw[O];rfl
  have z:∀m:Nat,((W.aa s.toNat).base+(W.aa s.toNat).mark+(m:Int)).toNat=gF W s+m:=λm=>by unfold gF;rw[o];omega
  refine⟨du (by omega) (by omega),λr=>?_,λr=>?_⟩
  ·have d:decide ((W.aa s.toNat).len<iy W s+n)=true:=decide_eq_true (by have:=of_decide_eq_true r;rw[o];omega);have e:dH W s k n to=5:=by unfold dH;rw[h1,h2,j,t,C,d];rfl
   have b:(dH W s k n to==0)=false:=by rw[e];rfl
   refine⟨e.symm,λi _=>?_,λi _=>?_,λi _=>ld ?_⟩
   ·unfold jH;rw[b];rfl
   ·unfold jI;rw[b];rfl
   ·unfold iK;rw[b];rfl
  have d:decide ((W.aa s.toNat).len<iy W s+n)=false:=decide_eq_false (by have:=of_decide_eq_false r;rw[o];omega);have hE:dH W s k n to=0:=by unfold dH;rw[h1,h2,j,t,C,d];rfl
  have hlen:=of_decide_eq_false r;refine⟨⟨λi _=>RB.symm,λi _=>RC.symm,λi _=>ld RE.symm⟩,λm hm=>⟨λA=>?_,λA=>?_⟩⟩
  ·have R:=of_decide_eq_true A;have hF:=z m;refine⟨du (by omega) (by omega),du (by omega) (by omega),⟨by omega,by omega⟩,λi _=>RF.symm,λc I=>⟨λB=>?_,λB=>?_⟩⟩
   ·have S:=of_decide_eq_true B;have T:(((W.aa s.toNat).base+(W.aa s.toNat).mark+(m:Int))*16+(c:Int)).toNat=(gF W s+m)*16+c:=by omega
    refine⟨du (by omega) (by omega),du (by omega) (by omega),⟨by omega,by omega⟩,du (by omega) (by omega),c+1,by omega,λi _=>?_,by omega,by omega⟩;rw[T];exact P_
   ·have U:=of_decide_eq_false B;obtain rfl:c=16:=by omega
    refine⟨du (by omega) (by omega),⟨by omega,by omega⟩,du (by omega) (by omega),m+1,by omega,⟨λi _=>P',λi _=>?_,λi _=>?_⟩,by omega,by omega⟩
    ·rw[z m];exact P9
    ·skip
     rw[show(to+(m:Int)).toNat=to.toNat+m by omega];refine Rd (x:=⟨k,(W.aa s.toNat).base+(W.aa s.toNat).mark+m,1,0,7,0,s⟩) ?_;rw[<-Qa];rcases aT (i=to.toNat+m)with e|e
     ·subst e;rw[cy];show(⟨k,(W.aa s.toNat).base+(W.aa s.toNat).mark+m,1,0,7,0,s⟩:bM)=xZ W s k to (to.toNat+m);unfold xZ;rw[show((gF W s:Int)+(((to.toNat+m:Nat):Int) -to))=(W.aa s.toNat).base+(W.aa s.toNat).mark+m by have:=z 0;omega]
     ·rw[dt e];rfl
  ·have X:=of_decide_eq_false A;obtain rfl:m=n.toNat:=by omega
   have Y:∀i,iK W s k n to i=rh W s k n to i:=λi=>by unfold iK;rw[hE];rfl
   have en:jK W s k to n.toNat s.toNat=W.aa s.toNat:=NY (G _ (bc _));refine⟨du (by omega) (by omega),⟨s0,s1⟩,hE.symm,λi _=>?_,λi _=>?_,λi _=>?_⟩
   ·unfold jH;rw[hE];rfl
   ·unfold jI;rw[hE];rfl
   ·rw[Y];unfold rh;rcases aT (i=s.toNat)with e|e
    ·subst e;simp only[cy,cond_true,bg,en,o]
     repeat' (first|exact trivial|rfl|refine And.intro ?_ ?_)
    ·simp only[dt e,cond_false,bh e]
     repeat' (first|exact trivial|rfl|refine And.intro ?_ ?_)
theorem Z8 {a n i:Nat} (h:¬(a<=i/\i<a+n)):cp a n i=false:=by
 cases e:cp a n i with
 |false=>rfl
 |true=>exact absurd (fM.1 e) h
theorem sM {s:bM} {f:Nat}:bU s f=true↔s.kind=1/\s.base<=f/\(f:Int)<s.base+s.len:=by unfold bU;simp only[aW,beq_iff_eq,decide_eq_true_eq,and_assoc]
theorem yQ {s:bM} {f:Nat}:cJ s f=true↔s.kind≠1/\s.kind≠0/\s.base=f:=by unfold cJ;simp only[aW,beq_iff_eq,bne_iff_ne,and_assoc]
theorem wj {s:bM} {f:Nat}:gL s f=true↔bU s f=true/\s.base+s.mark<=f:=by unfold gL;simp only[aW,decide_eq_true_eq]
theorem T9 {k b l m r g:Int} (h:dP k b l m r g=0) (c:k=1):1<=l/\0<=m/\m<=l/\b+l<=24:=by
 unfold dP pB pC az at h;simp only[cond_eq_ite,bne,cM,aW,dT,decide_eq_true_eq,beq_iff_eq,beq_eq_false_iff_ne]at h
 repeat' split at h
 all_goals first|(cases h;done)|omega
theorem Bk {s:bM} (h:eA s=0) (b:s.kind=1):1<=s.len/\0<=s.mark/\s.mark<=s.len/\s.base+s.len<=24:=T9 h b
theorem ES {b l m c r g:Int} (h:dP 1 b l m r g=0) (hm:0<=c/\c<=l):dP 1 b l c r g=0:=by
 unfold dP pB pC az at h⊢;simp only[cond_eq_ite,bne,cM,aW,dT,decide_eq_true_eq,beq_iff_eq,beq_eq_false_iff_ne]at h⊢
 repeat' split at h
 all_goals first|(cases h;done)|skip
 all_goals (repeat' split)
 all_goals first|rfl|omega
theorem Vb {k b:Int} (c:2<=k/\k<=8) (d:0<=b/\b<24):dP k b 1 0 7 0=0:=by
 unfold dP pB pC az;simp only[cond_eq_ite,bne,cM,aW,dT,decide_eq_true_eq,beq_iff_eq,beq_eq_false_iff_ne]
 repeat' split
 all_goals first|rfl|omega
theorem KG.one {P:Nat->Prop} {W:Wd} (h:KG P W) {f a b:Nat} (c:f<W.ak) (d:a<W.ao) (g:b<W.ao) (h1:bU (W.aa a) f=true) (h2:bU (W.aa b) f=true):a=b:=by
 have:=h.cl f c;rcases B8 a b with e|e|e
 ·have:=Cb (p:=λi=>bU (W.aa i) f) e g h1 h2;omega
 ·exact e
 ·have:=Cb (p:=λi=>bU (W.aa i) f) e d h2 h1;omega
theorem KG.Rz {P:Nat->Prop} {W:Wd} (h:KG P W) {S:Nat} (c:S<W.ao) (d:(W.aa S).kind=1):(W.aa S).from_= -1:=by
 rcases h.s2 S c (by omega)with e|⟨_,e⟩
 ·exact e
 ·obtain⟨_,⟨_,a,_⟩|⟨a,b,_⟩⟩:=lz.1 e
  ·exact absurd d a
  ·omega
theorem KG.bare {P:Nat->Prop} {W:Wd} (h:KG P W) {S:Nat} (k:S<W.ao) (o:∀i,i<W.ao->(W.aa i).from_≠(S:Int)) {f:Nat} (l:f<W.ak) (n:bU (W.aa S) f=true):W.kinds f=0:=by
 refine fN λh0=>?_;obtain⟨r,p⟩:=h.rk;have key:∀m i,r i<m->i<W.ao->cJ (W.aa i) f=true->False:=by
  intro m
  induction m with
  |zero=>intro i b;exact absurd b (dS _)
  |succ m q=>
   intro i hm b t;obtain⟨k1,k2,u⟩:=yQ.1 t;have d:=h.ex i b k2 k1 S k (by rw[u,cj];exact n);obtain⟨_,g,hp,j⟩:=h.full b d;have v:=p i b g.1;have c:(W.aa i).from_.toNat<W.ao:=by omega
   obtain⟨p0,⟨p1,_,x,z⟩|⟨p1,A,x,_⟩⟩:=lz.1 j
   ·have B:=Bk p0 p1;have:(W.aa i).from_.toNat=S:=h.one l c k (sM.2 ⟨p1,by omega,by omega⟩) n;exact o i b (by omega)
   ·exact q _ (by omega) c (yQ.2 ⟨p1,hp,by omega⟩)
 have y:=(h.ky f l h0).1;have:bD W.ao (λi=>cJ (W.aa i) f)=0:=kJ.2 λi b=>by
  cases e:cJ (W.aa i) f with
  |false=>rfl
  |true=>exact(key (r i+1) i (by omega) b e).elim
 omega
theorem KG.mk' {W:Wd} {S n to F:Nat} {u k:Int} {R:Nat->Int} (h:KG (λ_=>False) W) (U:S<W.ao) (p:(W.aa S).kind=1) (hk:2<=k/\k<=8) (hn:1<=n) (hto:to%16+n<=16) (aeY:to<W.ao) (S6:W.kinds (to/16)=5)
 (A:∀i,i<n->(W.aa (to+i)).kind=0) (hu:u=(W.aa S).mark\/(u=0/\∀i,i<W.ao->(W.aa i).from_≠(S:Int))) (B:u+n<=(W.aa S).len) (hF:(F:Int)=(W.aa S).base+u):
 KG (λ_=>False) {W with af:=R,kinds:=λf=>bif cp F n f then k else W.kinds f,aa:=aj (λi=>bif cp to n i then⟨k,(F:Int)+((i:Int) -to),1,0,7,0,S⟩else W.aa i) S {W.aa S with mark:=u+n}}:=by
 have z:=h.z;have zs:=z.aa;have z1:=z.k1;obtain⟨s1,s2,s3,_⟩:=h.s1 S U (by omega);have s1:=s1.resolve_right id;have sc:=Bk s2 p;have sr:=iY s2;have hu0:0<=u:=by rcases hu with e|⟨e,_⟩<;>omega
 have nS:∀{i},cp to n i=true->i≠S:=λ{i} o e=>by have:=fM.1 o;have g:=A (i -to) (by omega);rw[show to+(i -to)=i by omega,e,p]at g;exact absurd g (by decide)
 have V:∀f,cp F n f=true->f<W.ak/\W.kinds f=0/\bU (W.aa S) f=true:=λf v=>by
  have v:=fM.1 v;have C:f<W.ak:=by omega
  have O:bU (W.aa S) f=true:=sM.2 ⟨p,by omega,by omega⟩;refine⟨C,?_,O⟩;rcases hu with e|⟨_,e⟩
  ·refine fN λh0=>?_;have:=(h.ky f C h0).2 S U;rw[wj.2 ⟨O,by omega⟩]at this;cases this
  ·exact h.bare U e C O
 have X:∀{i},cp to n i=true->aj (λi=>bif cp to n i then(⟨k,(F:Int)+((i:Int) -to),1,0,7,0,S⟩:bM)else W.aa i) S {W.aa S with mark:=u+n} i=⟨k,(F:Int)+((i:Int) -to),1,0,7,0,S⟩:=λ{i} o=>by rw[bh (nS o),o];rfl
 have G:aj (λi=>bif cp to n i then(⟨k,(F:Int)+((i:Int) -to),1,0,7,0,S⟩:bM)else W.aa i) S {W.aa S with mark:=u+n} S={W.aa S with mark:=u+n}:=bg
 have J:∀{i},cp to n i=false->i≠S->aj (λi=>bif cp to n i then(⟨k,(F:Int)+((i:Int) -to),1,0,7,0,S⟩:bM)else W.aa i) S {W.aa S with mark:=u+n} i=W.aa i:=λ{i} o hs=>by rw[bh hs,o];rfl
 generalize hT:aj (λi=>bif cp to n i then(⟨k,(F:Int)+((i:Int) -to),1,0,7,0,S⟩:bM)else W.aa i) S {W.aa S with mark:=u+n}=T at*
 have three:∀i,cp to n i=true\/(cp to n i=false/\i=S)\/(cp to n i=false/\i≠S):=λi=>by
  cases e:cp to n i with
  |true=>exact .inl rfl
  |false=>exact .inr ((aT (i=S)).elim (λg=> .inl ⟨rfl,g⟩) λg=> .inr ⟨rfl,g⟩)
 have nf:∀{i},i<W.ao->∀{j},cp to n j=true->(W.aa i).from_≠(j:Int):=λ{i} o {j} hj e=>by obtain⟨_,_,c,_⟩:=h.full o (by omega);have:=fM.1 hj;have g:=A (j -to) (by omega);rw[show to+(j -to)=j by omega]at g;rw[e,cj]at c;exact c g
 have kk:∀f,W.kinds f≠0->f<W.ak->(bif cp F n f then k else W.kinds f)=W.kinds f:=λf h0 v=>by
  cases e:cp F n f with
  |false=>rfl
  |true=>exact absurd (V f e).2.1 h0
 have Y:∀i f,i<W.ao->bU (T i) f=bU (W.aa i) f:=λi f o=>by
  rcases three i with e|⟨e,g⟩|⟨e,g⟩
  ·have:=fM.1 e;have g:=A (i -to) (by omega);rw[show to+(i -to)=i by omega]at g;rw[X e];unfold bU;rw[g];show((k==1)&&_&&_)=_;rw[beq_eq_false_iff_ne.2 (show k≠1 by omega)];rfl
  ·subst g;rw[G];rfl
  ·rw[J e g]
 refine⟨z.cg rfl rfl,λf v=>?_,λi o l=>?_,λi o l=>?_,λi o l=>?_,?_,λf v=>?_,λf v h0=>⟨?_,λi o=>?_⟩,λi o l y c O E=>?_⟩
 ·show 0<=(bif cp F n f then k else W.kinds f)/\(bif cp F n f then k else W.kinds f)<=8/\(bif cp F n f then k else W.kinds f)≠1;cases e:cp F n f with
  |true=>exact⟨by show 0<=k;omega,hk.2,by show k≠1;omega⟩
  |false=>exact h.kd f v
 ·have o:i<W.ao:=o;have l:(T i).kind=0:=l;show T i=fm;rcases three i with e|⟨e,g⟩|⟨e,g⟩
  ·rw[X e]at l;have l:k=0:=l;omega
  ·subst g;rw[G]at l;have l:(W.aa i).kind=0:=l;omega
  ·rw[J e g]at l⊢;exact h.e0 i o l
 ·have o:i<W.ao:=o;have l:(T i).kind≠0:=l;show((bif cp F n (i/16)then k else W.kinds (i/16))=5\/False)/\eA (T i)=0/\(T i).base+(T i).len<=W.ak/\((T i).kind=1\/(bif cp F n (T i).base.toNat then k else W.kinds (T i).base.toNat)=(T i).kind);rcases three i with e|⟨e,g⟩|⟨e,g⟩
  ·have hr:=fM.1 e;have qd:i/16=to/16:=by omega
   rw[X e,qd,kk _ (by rw[S6];decide) (by omega)];refine⟨.inl S6,show dP k ((F:Int)+((i:Int) -to)) 1 0 7 0=0 from Vb hk (by omega),?_,.inr ?_⟩
   ·show(F:Int)+((i:Int) -to)+1<=_;omega
   ·show(bif cp F n ((F:Int)+((i:Int) -to)).toNat then k else _)=k;rw[fM.2 (by omega)];rfl
  ·subst g;rw[G];refine⟨.inl ?_,?_,s3,.inl p⟩
   ·rw[kk _ (by rw[s1];decide) (by omega)];exact s1
   ·have t:dP (W.aa i).kind (W.aa i).base (W.aa i).len (W.aa i).mark (W.aa i).cd (W.aa i).aH=0:=s2;show dP (W.aa i).kind (W.aa i).base (W.aa i).len (u+n) (W.aa i).cd (W.aa i).aH=0;rw[p]at t⊢;exact ES t ⟨by omega,B⟩
  ·rw[J e g]at l⊢;obtain⟨a,b,c,d⟩:=h.s1 i o l;have a:=a.resolve_right id;refine⟨.inl ?_,b,c,d.imp_right λd=>?_⟩
   ·rw[kk _ (by rw[a];decide) (by omega)];exact a
   ·have br:=iY b;have C:(W.aa i).base.toNat<W.ak\/¬(W.aa i).base.toNat<W.ak:=aT _;rcases C with q|q
    ·rw[kk _ (by rw[d];exact l) q];exact d
    ·rw[Z8 λx=>q (V _ (fM.2 x)).1];exact d
 ·have o:i<W.ao:=o;have l:(T i).kind≠0:=l;show(T i).from_= -1\/((0<=(T i).from_/\(T i).from_<W.ao)/\dU (T i) (T (T i).from_.toNat)=true);rcases three i with e|⟨e,g⟩|⟨e,g⟩
  ·have hr:=fM.1 e;rw[X e];refine .inr ⟨⟨pF _,by show(S:Int)<_;omega⟩,?_⟩;show dU _ (T (S:Int).toNat)=true;rw[cj,G];have t:dP (W.aa S).kind (W.aa S).base (W.aa S).len (W.aa S).mark (W.aa S).cd (W.aa S).aH=0:=s2;refine lz.2 ⟨?_,.inl ⟨p,?_,?_,?_⟩⟩
   ·show dP (W.aa S).kind (W.aa S).base (W.aa S).len (u+n) (W.aa S).cd (W.aa S).aH=0;rw[p]at t⊢;exact ES t ⟨by omega,B⟩
   ·show k≠1;omega
   ·show(W.aa S).base<=(F:Int)+((i:Int) -to);omega
   ·show(F:Int)+((i:Int) -to) -(W.aa S).base<u+n;omega
  ·subst g;rw[G];exact .inl (h.Rz U p)
  ·rw[J e g]at l⊢;refine(h.s2 i o l).imp_right λq=>⟨q.1,?_⟩;obtain⟨Z,x⟩:=q;have hnr:cp to n (W.aa i).from_.toNat=false:=by
    cases I:cp to n (W.aa i).from_.toNat with
    |false=>rfl
    |true=>exact absurd (show(W.aa i).from_=((W.aa i).from_.toNat:Nat) by omega) (nf o I)
   rcases aT ((W.aa i).from_.toNat=S)with I|I
   ·rw[I]at x⊢;rw[G];have um:u=(W.aa S).mark:=hu.resolve_right λq=>q.2 i o (by omega);obtain⟨_,⟨m1,m2,m3,m4⟩|⟨m1,_⟩⟩:=lz.1 x
    ·have t:dP (W.aa S).kind (W.aa S).base (W.aa S).len (W.aa S).mark (W.aa S).cd (W.aa S).aH=0:=s2;refine lz.2 ⟨?_,.inl ⟨p,m2,m3,?_⟩⟩
     ·show dP (W.aa S).kind (W.aa S).base (W.aa S).len (u+n) (W.aa S).cd (W.aa S).aH=0;rw[p]at t⊢;exact ES t ⟨by omega,B⟩
     ·show(W.aa i).base -(W.aa S).base<u+n;omega
    ·exact absurd p m1
   ·rw[J hnr I];exact x
 ·obtain⟨r,hr⟩:=h.rk;refine⟨λi=>bif cp to n i then r S+1 else r i,λi o h0=>?_⟩;have o:i<W.ao:=o;have h0:0<=(T i).from_:=h0;show(bif cp to n (T i).from_.toNat then r S+1 else r (T i).from_.toNat)<bif cp to n i then r S+1 else r i;have hSn:cp to n S=false:=by
   cases e:cp to n S with
   |false=>rfl
   |true=>exact absurd rfl (nS e)
  rcases three i with e|⟨e,g⟩|⟨e,g⟩
  ·rw[X e,e];show(bif cp to n (S:Int).toNat then r S+1 else r (S:Int).toNat)<r S+1;rw[cj,hSn];exact qx _
  ·subst g;rw[G]at h0;have h0:0<=(W.aa i).from_:=h0;have:=h.Rz U p;omega
  ·rw[J e g]at h0⊢;rw[e];cases I:cp to n (W.aa i).from_.toNat with
   |true=>exact absurd (show(W.aa i).from_=((W.aa i).from_.toNat:Nat) by omega) (nf o I)
   |false=>exact hr i o h0
 ·show bD W.ao (λi=>bU (T i) f)<=1;rw[hV λi o=>Y i f o];exact h.cl f v
 ·have v:f<W.ak:=v;have h0:(bif cp F n f then k else W.kinds f)≠0:=h0;show 0<bD W.ao (λi=>cJ (T i) f);cases e:cp F n f with
  |true=>have hr:=fM.1 e;have ru:cp to n (to+(f -F))=true:=fM.2 (by omega);refine qv (i:=to+(f -F)) (by omega) ?_;rw[X ru];refine yQ.2 ⟨by show k≠1;omega,by show k≠0;omega,?_⟩;show(F:Int)+(((to+(f -F):Nat):Int) -to)=f;omega
  |false=>
   rw[e]at h0;obtain⟨a,_⟩:=h.ky f v h0;refine yO λhz=>?_;have:bD W.ao (λi=>cJ (W.aa i) f)=0:=kJ.2 λi o=>by
    have q:=kJ.1 hz i o;rcases three i with e|⟨e,g⟩|⟨e,g⟩
    ·have:=fM.1 e;have g:=A (i -to) (by omega);rw[show to+(i -to)=i by omega]at g;unfold cJ;rw[g];rfl
    ·subst g;unfold cJ;rw[p];rfl
    ·rw[J e g]at q;exact q
   omega
 ·have v:f<W.ak:=v;have o:i<W.ao:=o;have h0:(bif cp F n f then k else W.kinds f)≠0:=h0;show gL (T i) f=false;cases q:gL (T i) f with
  |false=>rfl
  |true=>
   exfalso;obtain⟨Z,x⟩:=wj.1 q;rw[Y i f o]at Z;cases e:cp F n f with
   |true=>obtain⟨_,_,c3⟩:=V f e;obtain rfl:=h.one v o U Z c3;rw[G]at x;have x:(W.aa i).base+(u+n)<=f:=x;have:=fM.1 e;omega
   |false=>
    rw[e]at h0;have K:=(h.ky f v h0).2 i o;rcases aT (i=S)with g|g
    ·subst g;rw[G]at x;have x:(W.aa i).base+(u+n)<=f:=x;rcases hu with I|⟨_,I⟩
     ·rw[wj.2 ⟨Z,by omega⟩]at K;cases K
     ·exact h0 (h.bare U I v Z)
    ·cases e3:cp to n i with
     |true=>have:=fM.1 e3;have g:=A (i -to) (by omega);rw[show to+(i -to)=i by omega]at g;have:=(sM.1 Z).1;omega
     |false=>rw[J e3 g]at x;rw[wj.2 ⟨Z,x⟩]at K;cases K
 ·have o:i<W.ao:=o;have O:c<W.ao:=O;have l:(T i).kind≠0:=l;have y:(T i).kind≠1:=y;have E:bU (T c) (T i).base.toNat=true:=E;show(T i).from_≠ -1;rw[Y c _ O]at E;rcases three i with e|⟨e,g⟩|⟨e,g⟩
  ·rw[X e];show(S:Int)≠ -1;omega
  ·subst g;rw[G]at y;exact absurd p y
  ·rw[J e g]at l y E⊢;exact h.ex i o l y c O E
theorem KG.other {P:Nat->Prop} {W W':Wd} (h:KG P W) (ec:ee W'=ee W) (et:W'.time=W.time) (g:W'.kinds=W.kinds) (b:W'.aa=W.aa):KG P W':=by
 have d:=ec;simp only[ee,pN,and_true]at d;obtain⟨c1,e,c,_⟩:=d;refine⟨h.z.cg ec et,?_,?_,?_,?_,?_,?_,?_,?_⟩
 ·rw[e,g];exact h.kd
 ·rw[c,b];exact h.e0
 ·rw[e,c,g,b];exact h.s1
 ·rw[c,b];exact h.s2
 ·rw[c,b];exact h.rk
 ·rw[e,c,b];exact h.cl
 ·rw[e,c,g,b];exact h.ky
 ·rw[c,b];exact h.ex
theorem KG.rel {P:Nat->Prop} {W:Wd} {f:Nat} (h:KG (λg=>P g\/g=f) W) (e:∀i,i<W.ao->i/16=f->(W.aa i).kind=0):KG P W:=
 ⟨h.z,h.kd,h.e0,λi c d=>by
   obtain⟨a,b⟩:=h.s1 i c d;refine⟨?_,b⟩;rcases a with a|a|a
   ·exact .inl a
   ·exact .inr a
   ·exact absurd (e i c a) d,h.s2,h.rk,h.cl,h.ky,h.ex⟩
theorem Yp {k p q:Nat} (h1:p&&&k=k) (h2:q&&&p=p):q&&&k=k:=by rw[<-h1,<-Nat.and_assoc,h2]
theorem Yq {k s p:bM} (hs:eA s=0) (d:eA k=0) (h1:dU k s=true) (h2:dU s p=true):dU k p=true:=by
 obtain⟨_,⟨a1,g,a3,a4⟩|⟨a1,g,a3,a4,j⟩⟩:=lz.1 h1
 ·exfalso;obtain⟨_,⟨_,b2,_⟩|⟨b1,b2,_⟩⟩:=lz.1 h2
  ·exact b2 a1
  ·omega
 ·obtain⟨p0,⟨b1,b2,h,c⟩|⟨b1,b2,h,c,l⟩⟩:=lz.1 h2
  ·exact lz.2 ⟨p0,.inl ⟨b1,by omega,by omega,by omega⟩⟩
  ·refine lz.2 ⟨p0,.inr ⟨b1,by omega,by omega,?_,?_⟩⟩
   ·rcases c with e|e
    ·exact .inl e
    ·rcases a4 with b|b
     ·exact .inl (by omega)
     ·exact .inr (by omega)
   ·have r1:=iY hs;have r2:=iY d;have i:s.cd.toNat&&&k.cd.toNat=k.cd.toNat:=by omega
    have b:p.cd.toNat&&&s.cd.toNat=s.cd.toNat:=by omega
    rw[Yp i b];omega
theorem KG.S0 {P:Nat->Prop} {W:Wd} {s:Nat} (h:KG P W) (hs:s<W.ao) (G:(W.aa s).kind≠0) (last:Bool)
 (hl:last=true->(W.aa s).kind≠1/\∀i,i<W.ao->i≠s->(W.aa i).kind=(W.aa s).kind->(W.aa i).base≠(W.aa s).base)
 (I:last=false->(W.aa s).kind=1\/∃i,i<W.ao/\i≠s/\(W.aa i).kind=(W.aa s).kind/\(W.aa i).base=(W.aa s).base):
 KG (λg=>P g\/(last=true/\g=(W.aa s).base.toNat)) {W with aa:=aj (λj=>cr s (W.aa s).from_ (W.aa j)) s fm,kinds:=bif last then aj W.kinds (W.aa s).base.toNat 0 else W.kinds}:=by
 have z:=h.z;obtain⟨r,E⟩:=h.rk;obtain⟨_,J,t3,t4⟩:=h.s1 s hs G;have tr:=iY J;have A:aj (λj=>cr s (W.aa s).from_ (W.aa j)) s fm s=fm:=bg
 have O:∀{i},i≠s->aj (λj=>cr (s:Int) (W.aa s).from_ (W.aa j)) s fm i=cr s (W.aa s).from_ (W.aa i):=λl=>bh l;generalize hT:aj (λj=>cr (s:Int) (W.aa s).from_ (W.aa j)) s fm=T at*
 have fs:(W.aa s).from_≠(s:Int):=λe=>by have:=E s hs (by omega);rw[e,cj]at this;omega
 have full:∀{i},(T i).kind≠0->i≠s:=λ{i} l e=>by subst e;rw[A]at l;exact l rfl
 have ky:∀{i},i≠s->lq (T i) (W.aa i):=λl=>by rw[O l];exact j6 _ _ _
 have fr:∀{i},i≠s->(T i).from_=bif (W.aa i).from_==(s:Int)then(W.aa s).from_ else(W.aa i).from_:=λl=>by rw[O l];exact BT _ _ _
 have C:∀g,last=false\/g≠(W.aa s).base.toNat->(bif last then aj W.kinds (W.aa s).base.toNat 0 else W.kinds) g=W.kinds g:=λg V=>by
  cases last with
  |false=>rfl
  |true=>show aj W.kinds _ 0 g=_;rw[bh (V.resolve_left (by decide))]
 have R:last=true->(bif last then aj W.kinds (W.aa s).base.toNat 0 else W.kinds) (W.aa s).base.toNat=0:=λe=>by rw[e];show aj W.kinds _ 0 _=0;rw[bg]
 generalize X:(bif last then aj W.kinds (W.aa s).base.toNat 0 else W.kinds)=K at*
 refine⟨z.cg rfl rfl,λf p=>?_,λi l k=>?_,λi l k=>?_,λi l k=>?_,⟨r,λi l h0=>?_⟩,λf p=>?_,λf p h0=>⟨?_,λi l=>?_⟩,λi l k u c B o=>?_⟩
 ·show 0<=K f/\K f<=8/\K f≠1;rcases aT (last=true/\f=(W.aa s).base.toNat)with e|e
  ·rw[e.2,R e.1];decide
  ·rw[C f (by cases last with|false=>exact .inl rfl|true=>exact .inr λt=>e ⟨rfl,t⟩)];exact h.kd f p
 ·have k:(T i).kind=0:=k;show T i=fm;rcases aT (i=s)with e|e
  ·subst e;exact A
  ·rw[(ky e).1]at k;rw[O e,h.e0 i l k];unfold cr;rw[beq_eq_false_iff_ne.2 (show(fm.from_:Int)≠s by show(-1:Int)≠s;omega)];rfl
 ·have l:i<W.ao:=l;have k:(T i).kind≠0:=k;have e:=full k;show(K (i/16)=5\/(P (i/16)\/(last=true/\i/16=(W.aa s).base.toNat)))/\eA (T i)=0/\(T i).base+(T i).len<=W.ak/\((T i).kind=1\/K (T i).base.toNat=(T i).kind);have q:=ky e;rw[q.no,q.1,q.2.1,q.2.2.1];rw[q.1]at k;obtain⟨a,b,c,d⟩:=h.s1 i l k;refine⟨?_,b,c,?_⟩
  ·rcases a with a|a
   ·rcases aT (last=true/\i/16=(W.aa s).base.toNat)with g|g
    ·exact .inr (.inr g)
    ·left;rw[C _ (by cases last with|false=>exact .inl rfl|true=>exact .inr λt=>g ⟨rfl,t⟩)];exact a
   ·exact .inr (.inl a)
  ·rcases d with d|d
   ·exact .inl d
   ·rcases aT ((W.aa i).kind=1)with k1|k1
    ·exact .inl k1
    right;rw[C,d];cases n:last with
    |false=>exact .inl rfl
    |true=>right;intro t;obtain⟨Y,m2⟩:=hl n;have Z:=iY b;have ks:=t4.resolve_left Y;exact m2 i l e (by rw[<-d,<-ks,t]) (by omega)
 ·have l:i<W.ao:=l;have k:(T i).kind≠0:=k;have e:=full k;show(T i).from_= -1\/((0<=(T i).from_/\(T i).from_<W.ao)/\dU (T i) (T (T i).from_.toNat)=true);rw[(ky e).1]at k;rw[fr e];cases g:(W.aa i).from_==(s:Int)with
  |true=>have g:=eq_of_beq g;show(W.aa s).from_= -1\/((0<=(W.aa s).from_/\(W.aa s).from_<W.ao)/\dU (T i) (T (W.aa s).from_.toNat)=true);refine(h.s2 s hs G).imp_right λq=>⟨q.1,?_⟩;have S:(W.aa s).from_.toNat≠s:=λt=>fs (by omega);obtain⟨_,_,_,m⟩:=h.full l (by omega);rw[g,cj]at m;rw[(ky e).made (ky S)];exact Yq J (h.s1 i l k).2.1 m q.2
  |false=>have g:=beq_eq_false_iff_ne.1 g;show(W.aa i).from_= -1\/((0<=(W.aa i).from_/\(W.aa i).from_<W.ao)/\dU (T i) (T (W.aa i).from_.toNat)=true);refine(h.s2 i l k).imp_right λq=>⟨q.1,?_⟩;rw[(ky e).made (ky λt=>g (by omega))];exact q.2
 ·have l:i<W.ao:=l;have h0:0<=(T i).from_:=h0;show r (T i).from_.toNat<r i;rcases aT (i=s)with e|e
  ·subst e;rw[A]at h0;exact absurd h0 (by decide)
  ·rw[fr e]at h0⊢;cases g:(W.aa i).from_==(s:Int)with
   |true=>rw[g]at h0;have g:=eq_of_beq g;have h0:0<=(W.aa s).from_:=h0;have a:=E s hs h0;have b:=E i l (by omega);rw[g,cj]at b;show r (W.aa s).from_.toNat<r i;omega
   |false=>rw[g]at h0;exact E i l h0
 ·show bD W.ao (λi=>bU (T i) f)<=1;refine ft (EP λi l hp=>?_) (h.cl f p);rcases aT (i=s)with e|e
  ·subst e;rw[A]at hp;exact absurd hp (by simp[bU,fm])
  ·rw[(ky e).p_]at hp;exact hp
 ·have p:f<W.ak:=p;have h0:K f≠0:=h0;show 0<bD W.ao (λi=>cJ (T i) f);have v:last=false\/f≠(W.aa s).base.toNat:=by
   cases n:last with
   |false=>exact .inl rfl
   |true=>exact .inr λe=>h0 (by rw[e];exact R n)
  rw[C f v]at h0;have B:=(h.ky f p h0).1;have other:∃i,i<W.ao/\i≠s/\cJ (W.aa i) f=true:=by
   refine fN λhn=>?_;have y:∀i,i<W.ao->i≠s->cJ (W.aa i) f=false:=λi l e=>by
    cases q:cJ (W.aa i) f with
    |false=>rfl
    |true=>exact absurd ⟨i,l,e,q⟩ hn
   have U:cJ (W.aa s) f=true:=by
    cases q:cJ (W.aa s) f with
    |true=>rfl
    |false=>
     have:bD W.ao (λi=>cJ (W.aa i) f)=0:=kJ.2 λi l=>by
      rcases aT (i=s)with e|e
      ·subst e;exact q
      ·exact y i l e
     omega
   obtain⟨k1,k2,k3⟩:=yQ.1 U;have n:=v.resolve_right λq=>q (by omega);rcases I n with e|⟨i,l,e,e1,t⟩
   ·exact k1 e
   ·have:=y i l e;rw[yQ.2 ⟨by omega,by omega,by omega⟩]at this;cases this
  obtain⟨i,l,e,q⟩:=other;refine qv l ?_;rw[(ky e).key];exact q
 ·have p:f<W.ak:=p;have l:i<W.ao:=l;have h0:K f≠0:=h0;have v:last=false\/f≠(W.aa s).base.toNat:=by
   cases n:last with
   |false=>exact .inl rfl
   |true=>exact .inr λe=>h0 (by rw[e];exact R n)
  rw[C f v]at h0;show gL (T i) f=false;rcases aT (i=s)with e|e
  ·subst e;rw[A];simp[gL,bU,fm]
  ·rw[(ky e).free];exact(h.ky f p h0).2 i l
 ·have l:i<W.ao:=l;have B:c<W.ao:=B;have k:(T i).kind≠0:=k;have u:(T i).kind≠1:=u;have o:bU (T c) (T i).base.toNat=true:=o;have e:=full k;have ec:c≠s:=λt=>by subst t;rw[A]at o;exact absurd o (by simp[bU,fm])
  rw[(ky ec).p_,(ky e).2.1]at o;rw[(ky e).1]at k u;show(T i).from_≠ -1;rw[fr e];have x:=h.ex i l k u c B o;cases g:(W.aa i).from_==(s:Int)with
  |false=>exact x
  |true=>
   have g:=eq_of_beq g;show(W.aa s).from_≠ -1;obtain⟨_,_,_,m⟩:=h.full l (by omega);rw[g,cj]at m;obtain⟨_,⟨a1,a2,a3,a4⟩|⟨a1,a2,a3,_⟩⟩:=lz.1 m
   ·exfalso;have sc:=Bk J a1;have Z:=iY (h.s1 i l k).2.1;have hb:=(h.s1 i l k).2.2.1;have c1:bU (W.aa s) (W.aa i).base.toNat=true:=sM.2 ⟨a1,by omega,by omega⟩;exact ec (h.one (by omega) B hs o c1)
   ·refine h.ex s hs G a1 c B ?_;rw[<-a3];exact o
theorem KG.mono {P Q:Nat->Prop} {W:Wd} (h:KG P W) (b:∀g,P g->Q g):KG Q W:=
 ⟨h.z,h.kd,h.e0,λi c d=>⟨(h.s1 i c d).1.imp_right (b _),(h.s1 i c d).2⟩,h.s2,h.rk,h.cl,h.ky,h.ex⟩
structure SP (P:Nat->Prop) (W:Wd):Prop where
 k:KG P W
 t:T0 W
 m:MG W
 d:∀i,i<W.aL->az (W.aA i) 3=false
theorem bI.sp {W:Wd} (h:bI W) (b:Ex W):SP (λ_=>False) W:=⟨h.kg b,h.t0,h.mg,h.dm⟩
theorem SP.snd {W:Wd} (h:SP (λ_=>False) W):bI W/\Ex W:=
 ⟨⟨h.t.z,h.m.af,h.k.kinds,h.d,h.k.sl,h.k.fr,h.t.tk,h.t.ln,h.t.co,h.t.rl,h.m.adn,λc b=>h.m.ado c (by have:=h.t.z.ax;omega)⟩,h.k.ex⟩
structure LE (W V:Wd):Prop where
 ec:ee V=ee W
 et:V.time=W.time
 ed:V.aA=W.aA
 k0:∀g,W.kinds g=0->V.kinds g=0
 s0:∀i,i<W.ao->(W.aa i).kind=0->(V.aa i).kind=0
theorem LE.refl (W:Wd):LE W W:=⟨rfl,rfl,rfl,λ_ h=>h,λ_ _ h=>h⟩
theorem LE.ns {W V:Wd} (h:LE W V):V.ao=W.ao/\V.ak=W.ak/\V.aL=W.aL:=by have:=h.ec;simp only[ee,pN,and_true]at this;exact⟨this.2.2.1,this.2.1,this.2.2.2.2.2.2.2.2.2⟩
theorem LE.tr {W V U:Wd} (h:LE W V) (g:LE V U):LE W U:=
 ⟨g.ec.trans h.ec,g.et.trans h.et,g.ed.trans h.ed,λf c=>g.k0 f (h.k0 f c),λi b d=>g.s0 i (by rw[h.ns.1];exact b) (h.s0 i b d)⟩
theorem LE.dg {W V:Wd} (h:LE W V):nX V<=nX W:=by unfold nX;rw[h.ns.1];refine EP λi b hp=>?_;rw[bne_iff_ne]at hp⊢;exactλe=>hp (h.s0 i b e)
def DK (N:Nat) (D:Wd->Int->Wd):Prop:=∀(P:Nat->Prop) (W:Wd) (s:Int),SP P W->(∀g,P g->W.kinds g=0)->nX W<=N->SP P (D W s)/\LE W (D W s)/\(0<=s->s<W.ao->((D W s).aa s.toNat).kind=0)
theorem zH {W:Wd} {f g:Nat} (h:W.kinds g=0):aj W.kinds f 0 g=0:=by
 rcases xi (W:=W) f g with e|e
 ·rw[e];exact h
 ·exact e
theorem VI {N:Nat} {D:Wd->Int->Wd} (A:DK N D) {P:Nat->Prop} {V:Wd} {f:Nat} (n:f<V.ak) (K:2<=V.kinds f/\V.kinds f<=8) (h:KG (λg=>P g\/g=f) {V with kinds:=aj V.kinds f 0}) (r:T0 V) (hm:MG V)
 (hd:∀i,i<V.aL->az (V.aA i) 3=false) (B:∀g,P g->V.kinds g=0) (o:V.kinds f≠5->∀i,i<V.ao->i/16=f->(V.aa i).kind=0) (C:nX V<=N):SP P (jh D V f)/\LE V (jh D V f):=by
 have z:=r.z;have u:(V.kinds f=2\/V.kinds f=3)\/V.kinds f=4\/V.kinds f=5\/V.kinds f=6\/(V.kinds f=7\/V.kinds f=8):=by omega
 rcases u with e|e|e|e|e
 ·rw[Xt (show V.kinds (f:Int).toNat=2\/V.kinds (f:Int).toNat=3 from e)];exact⟨⟨(h.rel λi p g=>o (by omega) i p g).other rfl rfl rfl rfl,(r.pg n e).other _ V.aa _ _,hm.pg z n e,hd⟩,⟨rfl,rfl,rfl,λg l=>zH l,λ_ _ h=>h⟩⟩
 ·rw[Xu (show V.kinds (f:Int).toNat=4 from e)];exact⟨⟨(h.rel λi p g=>o (by omega) i p g).other rfl rfl rfl rfl,(r.sp n e).other V.af V.aa _ _,hm.sp z n e _,hd⟩,⟨rfl,rfl,rfl,λg l=>zH l,λ_ _ h=>h⟩⟩
 ·rw[Xv (show V.kinds (f:Int).toNat=5 from e)];have h0:SP (λg=>P g\/g=f) (I4 V f):=⟨h.other rfl rfl rfl rfl,r.nd n e,(hm.kz n (by omega) z).other rfl rfl rfl rfl rfl rfl rfl,hd⟩;have E:LE V (I4 V f):=⟨rfl,rfl,rfl,λg l=>zH l,λ_ _ h=>h⟩;have zs:=z.aa;have all:∀i,i<=16->SP (λg=>P g\/g=f) (qh D V f i)/\LE V (qh D V f i)/\(qh D V f i).kinds f=0/\∀j,j<i->((qh D V f i).aa (f*16+(15 -j))).kind=0:=by
   intro i
   induction i with
   |zero=>exactλ_=>⟨h0,E,show aj V.kinds f 0 f=0 from bg,λj y=>absurd y (dS _)⟩
   |succ i G=>
    intro p;obtain⟨a,b,c,d⟩:=G (by omega);have q:=A _ (qh D V f i) ((f:Int)*16+(15 -i)) a (λg l=>by
     rcases l with v|v
     ·exact b.k0 g (B g v)
     ·rw[v];exact c) (ft b.dg C)
    obtain⟨I,x,J⟩:=q;have ns:=b.ns.1;refine⟨I,b.tr x,x.k0 f c,λj y=>?_⟩;show((D (qh D V f i) ((f:Int)*16+(15 -i))).aa (f*16+(15 -j))).kind=0;rcases bR j i with g|g
    ·exact x.s0 _ (by omega) (d j g)
    ·obtain rfl:j=i:=by omega
     have:=J (by omega) (by omega);rw[show((f:Int)*16+(15 -(j:Int))).toNat=f*16+(15 -j) by omega]at this;exact this
  obtain⟨a,b,c,d⟩:=all 16 (bc _);refine⟨⟨a.k.rel λi p g=>?_,a.t,a.m,a.d⟩,b⟩;have:=d (15 -i%16) (by omega);rw[show f*16+(15 -(15 -i%16))=i by omega]at this;exact this
 ·rw[Xw (show V.kinds (f:Int).toNat=6 from e)];exact⟨⟨(h.rel λi p g=>o (by omega) i p g).other rfl rfl rfl rfl,r.td n e,(hm.kz n (by omega) z).other rfl rfl rfl rfl rfl rfl rfl,hd⟩,⟨rfl,rfl,rfl,λg l=>zH l,λ_ _ h=>h⟩⟩
 ·rw[Xx (show V.kinds (f:Int).toNat=7\/V.kinds (f:Int).toNat=8 from e)];exact⟨⟨(h.rel λi p g=>o (by omega) i p g).other rfl rfl rfl rfl,r.dr n e,(hm.kz n (by omega) z).other rfl rfl rfl rfl rfl rfl rfl,hd⟩,⟨rfl,rfl,rfl,λg l=>zH l,λ_ _ h=>h⟩⟩
theorem Y8 {W:Wd} {s:Nat} (hs:s<W.ao):LE W (gC W s):=by
 refine⟨rfl,rfl,rfl,λ_ h=>h,λi c b=>?_⟩;show(aj (λj=>cr s (W.aa (s:Int).toNat).from_ (W.aa j)) (s:Int).toNat fm i).kind=0;rw[cj];rcases aT (i=s)with e|e
 ·subst e;rw[bg];rfl
 ·rw[bh e,(j6 _ _ _).1];exact b
theorem VJ:∀n,DK (n+1) (ts (AL n)):=by
 have step:∀{N:Nat} {D:Wd->Int->Wd},DK N D->DK (N+1) (ts (jh D)):=by
  intro N D K P W s h E O;unfold ts;cases l:gM W s==0 with
  |false=>
   refine⟨h,LE.refl W,λh0 h1=>?_⟩;show(W.aa s.toNat).kind=0;have l:=beq_eq_false_iff_ne.1 l;unfold gM at l;rw[decide_eq_false (show¬s<0 by omega),decide_eq_false (show¬(W.ao:Int)<=s by omega)]at l;cases q:(W.aa s.toNat).kind==0 with
   |true=>exact eq_of_beq q
   |false=>rw[q]at l;exact absurd rfl l
  |true=>
   obtain⟨⟨s0,s1⟩,r⟩:=CK l;obtain⟨S,rfl⟩:∃S:Nat,s=S:=⟨s.toNat,by omega⟩;have u:S<W.ao:=by omega
   have r:(W.aa S).kind≠0:=r;have T:=Xy l;have hle:=Y8 u;have e0:(((gC W S).aa (S:Int).toNat)).kind=0:=by show(aj (λj=>cr S (W.aa (S:Int).toNat).from_ (W.aa j)) (S:Int).toNat fm (S:Int).toNat).kind=0;rw[bg];rfl
   have G:T0 (gC W S):=h.t.other W.af _ W.aD W.ax;have I:MG (gC W S):=h.m.other rfl rfl rfl rfl rfl rfl rfl
   suffices v:∀R:Wd,R=(bif (W.aa S).kind==1||zI (gC W S) (W.aa S)then gC W S else jh D (gC W S) (W.aa S).base)->SP P R/\LE W R/\(0<=(S:Int)->(S:Int)<W.ao->(R.aa (S:Int).toNat).kind=0)from v _ rfl
   intro R o;have same:∀i,i<W.ao->i≠S->((gC W S).aa i).kind=(W.aa i).kind/\((gC W S).aa i).base=(W.aa i).base:=λi c e=>by
    have:(gC W S).aa i=cr S (W.aa S).from_ (W.aa i):=by show aj (λj=>cr S (W.aa (S:Int).toNat).from_ (W.aa j)) (S:Int).toNat fm i=_;rw[cj,bh e]
    rw[this];exact⟨(j6 _ _ _).1,(j6 _ _ _).2.1⟩
   cases p:(W.aa S).kind==1||zI (gC W S) (W.aa S)with
   |true=>
    rw[p]at o;have o:R=gC W S:=o;rw[o];refine⟨⟨?_,G,I,h.d⟩,hle,λ_ _=>e0⟩;have q:=h.k.S0 u r false (λe=>absurd e (by decide)) (λ_=>?_)
    ·exact(q.other (W':=gC W S) rfl rfl rfl rfl).mono λg z=>z.elim id λe=>absurd e.1 (by decide)
    ·rw[cM,beq_iff_eq]at p;refine p.imp_right λq=>?_;unfold zI at q;obtain⟨i,c,q⟩:=ly.1 q;simp only[aW,beq_iff_eq]at q;have c:i<W.ao:=c;have ne:i≠S:=λe=>by subst e;have:=q.1;rw[show((gC W i).aa i).kind=0 from e0]at this;exact r this.symm
     obtain⟨a,b⟩:=same i c ne;exact⟨i,c,ne,by rw[<-a];exact q.1,by rw[<-b];exact q.2⟩
   |false=>
    rw[p]at o;have o:R=jh D (gC W S) (W.aa S).base:=o;rw[o];simp only[bX,beq_eq_false_iff_ne]at p;obtain⟨t1,J,t3,t4⟩:=h.k.s1 S u r;have tr:=iY J;have t4:=t4.resolve_left p.1;have A:∀i,i<W.ao->i≠S->(W.aa i).kind=(W.aa S).kind->(W.aa i).base≠(W.aa S).base:=λi c ne U B=>by have:=p.2;unfold zI at this;have:=lr.1 this i c;obtain⟨a,b⟩:=same i c ne;rw[a,b,U,B]at this;simp at this
    have q:=h.k.S0 u r true (λ_=>⟨p.1,A⟩) (λe=>absurd e (by decide));have tl:1<=(W.aa S).len:=Gi J r;obtain⟨f,x⟩:∃f:Nat,(W.aa S).base=f:=⟨(W.aa S).base.toNat,by omega⟩;rw[x,cj]at q t4;have X:f<W.ak:=by omega
    rw[x];have Y:(gC W S).kinds f=(W.aa S).kind:=t4;have g:=VI K (V:=gC W S) (f:=f) X (by rw[Y];omega) ((q.other (W':={gC W S with kinds:=aj (gC W S).kinds f 0}) rfl rfl rfl rfl).mono λg z=>z.imp_right λe=>e.2) G I h.d E (λZ i c e=>?_) (by omega)
    ·exact⟨g.1,hle.tr g.2,λ_ _=>g.2.s0 S u e0⟩
    ·refine fN λC=>?_;have y:(W.aa i).kind≠0:=λB=>C (hle.s0 i c B);rcases(h.k.s1 i c y).1 with a|a
     ·rw[e]at a;exact Z a
     ·rw[e]at a;have:=E f a;omega
 intro n
 induction n with
 |zero=>
  refine step (N:=0) (D:=λW _=>W) λP W s h _ O=>⟨h,LE.refl W,λh0 h1=>?_⟩;have:nX W=0:=by omega
  have:=kJ.1 this s.toNat (by omega);simpa using this
 |succ n ih=>exact step ih
def Sx (W:Wd):Prop:=bI W/\Ex W
theorem Sx.sp {W:Wd} (h:Sx W):SP (λ_=>False) W:=h.1.sp h.2
theorem Sx.drop {W:Wd} (h:Sx W) (s:Int):Sx (ts (AL 400) W s)/\ee (ts (AL 400) W s)=ee W:=by have d:=h.1.z.k1;have e:=h.1.z.aa;have c:nX W<=401:=ft (pD _ _) (by omega);obtain⟨a,b,_⟩:=VJ 400 _ W s h.sp (λ_ h=>h.elim) c;exact⟨a.snd,b.ec⟩
theorem Sx.S1 {W:Wd} (h:Sx W) (s:Int):∀k,Sx (rE W s k)/\ee (rE W s k)=ee W
 |0=>⟨h,rfl⟩
 |k+1=>by obtain⟨a,b⟩:=Sx.S1 h s k;obtain⟨c,d⟩:=a.drop (HS (rE W s k) s);rw[rE];exact⟨c,d.trans b⟩
theorem Sx.rev {W:Wd} (h:Sx W) (s:Int):Sx (adp W s):=(h.S1 s _).1
theorem Sx.qe {W W':Wd} (h:Sx W) (t:T0 W') (ec:ee W'=ee W) (et:W'.time=W.time) (c:W'.af=W.af) (d:W'.kinds=W.kinds) (e3:W'.aA=W.aA) (e4:W'.aa=W.aa) (e:W'.aD=W.aD) (g:W'.ax=W.ax):Sx W':=by refine⟨h.1.qe t ec et c d e3 e4 e g,?_⟩;have b:=ec;simp only[ee,pN,and_true]at b;have:=h.2;unfold Ex at this⊢;rw[e4,b.2.2.1];exact this
theorem Sx.I2 {W W':Wd} (h:Sx W) (k:KG (λ_=>False) W') (ec:ee W'=ee W) (et:W'.time=W.time) (c:W'.af=W.af) (e:W'.kinds=W.kinds) (e3:W'.aA=W.aA) (e4:W'.tasks=W.tasks) (g:W'.aD=W.aD) (i:W'.ax=W.ax) (j:W'.ah=W.ah) (l:W'.lines=W.lines) (n:W'.bits=W.bits) (o:W'.ai=W.ai) (q:W'.al=W.al) (ed:W'.ready=W.ready):Sx W':=by have p:=h.sp;obtain⟨E,a1,G,I,J,a3,K,a4,O,R,S,T,U,V,X,Y,Z,a8,n9,b9,a9,r,u,ti⟩:=W';simp only at ec et c e e3 e4 g i j l n o q ed;simp only[ee,pN,and_true]at ec;obtain⟨c1,v,x,y,z,A,B,C,c9,b⟩:=ec;subst c1 v x y z A B C c9 b et c e e3 e4 g i j l n o q ed;exact SP.snd ⟨k,p.t.other W.af a3 W.aD W.ax,p.m.other rfl rfl rfl rfl rfl rfl rfl,p.d⟩
theorem Sx.copy {W:Wd} (h:Sx W) (a b r g:Int):Sx (qi W a b r g):=h.I2 h.sp.k.copy rfl rfl rfl rfl rfl rfl rfl rfl rfl rfl rfl rfl rfl rfl
theorem Sx.move {W:Wd} (h:Sx W) (a b:Int):Sx (Ek W a b):=h.I2 h.sp.k.move rfl rfl rfl rfl rfl rfl rfl rfl rfl rfl rfl rfl rfl rfl
theorem Sx.start {W:Wd} (h:Sx W) (t:Int):Sx (jG W t):=h.qe h.sp.t.start rfl rfl rfl rfl rfl rfl rfl rfl
end Go.Proofs.YthgmgkabnffniaaGreatDoor
