/- Plain laws on bits of numbers, and on holes. -/
import Derived.Test.YthgmgkabnffniaaGreatDoorYI
set_option linter.unusedVariables false
set_option linter.unusedSimpArgs false
namespace Go.Sy
theorem Lk {x m:Int} (b:0<=x) (c:x<=65535):d_ .andNot .i64 x m=x -d_ .and .i64 x m:=by
 show IntKind.i64.wrap ((BitVec.ofInt 64 x&&& ~~~BitVec.ofInt 64 m).toNat:Int)=x -IntKind.i64.wrap ((BitVec.ofInt 64 x&&&BitVec.ofInt 64 m).toNat:Int);have d:(BitVec.ofInt 64 x).toNat=x.toNat:=by rw[zm];congr 1;exact Hl b (by simp;omega)
 generalize h:BitVec.ofInt 64 x=X at d⊢;generalize BitVec.ofInt 64 m=Y;have h1:(X&&& ~~~Y)+(X&&&Y)=X:=by
  rw[BitVec.add_eq_or_of_and_eq_zero]
  ·ext i e;simp;cases X[i]<;>cases Y[i]<;>rfl
  ·ext i e;simp;cases X[i]<;>cases Y[i]<;>simp
 have h2:(X&&& ~~~Y).toNat<=X.toNat:=by rw[zn];exact wD
 have j:(X&&&Y).toNat<=X.toNat:=by rw[zn];exact wD
 have g:=congrArg BitVec.toNat h1;rw[BitVec.toNat_add]at g;rw[IntKind.wrap_i64,IntKind.wrap_i64];omega
theorem JT {x:Int} (c:0<=x) (b:x<=65535):d_ .andNot .i64 x 1023=x -x%1024:=by rw[Lk c b,Hm 10 (by omega) (by decide)];rfl
theorem adv (k X:Nat):X&&&2^k=X/2^k%2*2^k:=by
 have b:X.testBit k=decide (X/2^k%2=1):=Gn;apply Nat.eq_of_testBit_eq;intro i;rw[Gq,Ci];rcases Gp (X/2^k)with h|h
 ·rw[h];by_cases e:k=i
  ·subst e;simp[b,h]
  ·simp[e]
 ·rw[h,Nat.one_mul,Ci];by_cases e:k=i
  ·subst e;simp[b,h]
  ·simp[e]
theorem Ty {x:Int} (c:0<=x) (b:x<=65535):d_ .andNot .i64 x 17407=(x -x%1024) -(x -x%1024)/16384%2*16384:=by
 have e:d_ .andNot .i64 x 17407=d_ .andNot .i64 (d_ .andNot .i64 x 1023) 16384:=by
  show IntKind.i64.wrap ((BitVec.ofInt 64 x&&& ~~~BitVec.ofInt 64 17407).toNat:Int)=IntKind.i64.wrap ((BitVec.ofInt 64 (d_ .andNot .i64 x 1023)&&& ~~~BitVec.ofInt 64 16384).toNat:Int);have h0:BitVec.ofInt 64 (d_ .andNot .i64 x 1023)=BitVec.ofInt 64 x&&& ~~~BitVec.ofInt 64 1023:=by
   have h1:d_ .andNot .i64 x 1023=IntKind.i64.wrap ((BitVec.ofInt 64 x&&& ~~~BitVec.ofInt 64 1023).toNat:Int):=rfl;have h2:(BitVec.ofInt 64 x&&& ~~~BitVec.ofInt 64 1023).toNat<=65535:=by rw[zn];refine ft wD ?_;rw[zm,Hl c (by simp;omega)];omega
   rw[h1,IntKind.wrap_i64];apply BitVec.eq_of_toNat_eq;rw[zm];generalize (BitVec.ofInt 64 x&&& ~~~BitVec.ofInt 64 1023).toNat=t at h2⊢;show((_:Int)%((2^64:Nat):Int)).toNat=t;rw[show((2^64:Nat):Int)=18446744073709551616 by decide];omega
  rw[h0];congr 3;rw[BitVec.and_assoc];congr 1
 rw[e,JT c b,Lk (by omega) (by omega),HZ (by omega) (by omega) (by omega) (by omega)];obtain⟨Y,d⟩:∃Y:Nat,x -x%1024=Y:=⟨(x -x%1024).toNat,by omega⟩;rw[d,cj,show Int.toNat 16384=2^14 from rfl,adv];simp
theorem TY {r q:Int} (r0:0<=r) (r1:r<=7) (d:0<=q) (e:q<=7):(d_ .andNot .i64 r q==0)=(d_ .and .i64 q r==r):=by
 have b:r=0\/r=1\/r=2\/r=3\/r=4\/r=5\/r=6\/r=7:=by omega
 have c:q=0\/q=1\/q=2\/q=3\/q=4\/q=5\/q=6\/q=7:=by omega
 rcases b with rfl|rfl|rfl|rfl|rfl|rfl|rfl|rfl<;>rcases c with rfl|rfl|rfl|rfl|rfl|rfl|rfl|rfl<;>decide
theorem Rn:∀(L:Nat) (f:Nat->Nat),(∀k,k<=L->f k<L)->∃a b,a<b/\b<=L/\f a=f b
 |0,f,h=>absurd (h 0 (bc _)) (by omega)
 |L+1,f,h=>by
  rcases ta (∃k,k<=L/\f k=f (L+1))with⟨k,h1,h2⟩|g
  ·exact⟨k,L+1,by omega,by omega,h2⟩
  ·have c:∀k,k<=L->f k≠f (L+1):=λk i e=>g ⟨k,i,e⟩;obtain⟨a,b,h1,h2,d⟩:=Rn L (λk=>if f k=L then f (L+1)else f k) λk i=>by have n:=h k (by omega);have l2:=h (L+1) (by omega);have o:=c k i;show(if f k=L then f (L+1)else f k)<L;split<;>omega
   refine⟨a,b,h1,by omega,?_⟩;have j:=c a (by omega);have l:=c b (by omega);have d:(if f a=L then f (L+1)else f a)=(if f b=L then f (L+1)else f b):=d;split at d<;>split at d
   ·omega
   ·exact absurd d.symm l
   ·exact absurd d j
   ·exact d
theorem VY (L:Nat) (g:Nat->Nat) (s:Nat->Nat) (hs:∀k,s k<L->s (k+1)=g (s k)) (c:∀k,k<=L->s k<L):∀k,s k<L:=by
 obtain⟨a,b,h1,h2,l⟩:=Rn L s c;have e:∀n k,k<=n->s k<L:=by
  intro n
  induction n with
  |zero=>intro k o;exact c k (by omega)
  |succ n i=>
   intro k o;rcases bR b k with p|p
   ·
    have h:∀d,b+d<=n+1->s (a+d)=s (b+d):=by
     intro d
     induction d with
     |zero=>intro _;exact l
     |succ d j=>intro hd;have q:=hs (a+d) (i _ (by omega));have r:=hs (b+d) (i _ (by omega));rw[show a+(d+1)=a+d+1 by omega,show b+(d+1)=b+d+1 by omega,q,r,j (by omega)]
    have:=h (k -b) (by omega);rw[show b+(k -b)=k by omega]at this;rw[<-this];exact i _ (by omega)
   ·exact c k (by omega)
 exactλk=>e k k (bc _)
end Go.Sy
set_option maxRecDepth 100000
namespace Go.Proofs.YthgmgkabnffniaaGreatDoor
open Go.RowKit Go.Sy
def bD:Nat->(Nat->Bool)->Nat
 |0,_=>0
 |n+1,p=>bD n p+(bif p n then 1 else 0)
def da (n:Nat) (p:Nat->Bool):Bool:=!fA n λi=>!p i
theorem pD (p:Nat->Bool):∀n,bD n p<=n
 |0=>bc _
 |n+1=>by have:=pD p n;unfold bD;cases p n<;>simp<;>omega
theorem qv {p:Nat->Bool}:∀{n i:Nat},i<n->p i=true->0<bD n p
 |0,i,h,_=>absurd h (by omega)
 |n+1,i,h,hp=>by
  unfold bD;rcases bR i n with h1|h1
  ·have:=qv h1 hp;omega
  ·obtain rfl:i=n:=by omega
   rw[hp];simp
theorem ly {n:Nat} {p:Nat->Bool}:da n p=true↔∃i,i<n/\p i=true:=by
 unfold da;cases h:fA n λi=>!p i with
 |true=>simp only[yV,zd,false_iff];rintro ⟨i,b,hp⟩;have:=jX.1 h i b;simp[hp]at this
 |false=>
  simp only[Bool.not_false,true_iff];refine fN λc=>?_;rw[jX.2]at h
  ·cases h
  ·intro i b;cases hp:p i
   ·rfl
   ·exact absurd ⟨i,b,hp⟩ c
theorem lr {n:Nat} {p:Nat->Bool}:da n p=false↔∀i,i<n->p i=false:=by
 constructor
 ·intro h i b;cases hp:p i
  ·rfl
  ·rw[ly.2 ⟨i,b,hp⟩]at h;cases h
 ·intro h;cases c:da n p
  ·rfl
  ·obtain⟨i,b,hp⟩:=ly.1 c;rw[h i b]at hp;cases hp
theorem Kl (n:Nat) (p:Nat->Bool):da (n+1) p=(da n p||p n):=by show(!(fA n (λi=>!p i)&&!p n))=(!fA n (λi=>!p i)||p n);cases fA n (λi=>!p i)<;>cases p n<;>rfl
def iL:Nat->(Nat->Nat)->Nat
 |0,_=>0
 |n+1,f=>iL n f+f n
theorem Gk {f:Nat->Nat} {b:Nat}:∀{n:Nat},(∀i,i<n->f i<=b)->iL n f<=n*b
 |0,_=>by simp[iL]
 |n+1,h=>by have h1:=Gk (n:=n) λi c=>h i (by omega);have h2:=h n (by omega);unfold iL;rw[Nat.succ_mul];omega
def eP (n:Nat) (p:Nat->Bool) (e:Int) (r:Int×Int):Int×Int:=bif Nat.blt (dz n p) n then(e,((dz n p:Nat):Int))else r
theorem kR {n i:Nat} {p:Nat->Bool} {e:Int} {r:Int×Int} (c:∀j,j<i->p j=false) (hp:p i=true) (b:i<n):eP n p e r=(e,((i:Nat):Int)):=by unfold eP;rw[qE c hp b,gY b];rfl
theorem fK {n:Nat} {p:Nat->Bool} {e:Int} {r:Int×Int} (h:∀j,j<n->p j=false):eP n p e r=r:=by unfold eP;rw[qt h,kZ (bc _)];rfl
theorem E6 {p:Nat->Bool}:∀{n:Nat},dz n p<n->p (dz n p)=true/\∀j,j<dz n p->p j=false:=by
 intro n h;rcases ta (∃i,i<n/\p i=true)with c|c
 ·
  have key:∀k i,i<=k->i<n->p i=true->∃m,m<n/\p m=true/\∀j,j<m->p j=false:=by
   intro k
   induction k with
   |zero=>intro i d e hp;exact⟨i,e,hp,λj b=>absurd b (by omega)⟩
   |succ k r=>
    intro i d e hp;rcases ta (∃j,j<i/\p j=true)with⟨j,b,g⟩|l
    ·exact r j (by omega) (by omega) g
    ·refine⟨i,e,hp,λj b=>?_⟩;cases o:p j
     ·rfl
     ·exact absurd ⟨j,b,o⟩ l
  obtain⟨i,d,hp⟩:=c;obtain⟨m,h1,h2,q⟩:=key i i (bc _) d hp;rw[qE q h2 h1];exact⟨h2,q⟩
 ·have:∀j,j<n->p j=false:=λj b=>by
   cases o:p j
   ·rfl
   ·exact absurd ⟨j,b,o⟩ c
  rw[qt this]at h;omega
theorem qC {n i:Nat} {p:Nat->Bool} (q:i<n) (hp:p i=true):dz n p<n:=by
 rcases bR (dz n p) n with h|h
 ·exact h
 ·have e:dz n p=n:=Nat.le_antisymm (Gm p n) h;rcases ta (∃j,j<i+1/\p j=true/\∀k,k<j->p k=false)with⟨j,h1,h2,c⟩|b
  ·rw[qE c h2 (by omega)]at h;omega
  ·exfalso;have:∀k,k<i+1->p k=false:=by
    intro k
    induction k using Nat.strongRecOn with
    |_ k d=>
     intro g;cases l:p k
     ·rfl
     ·exact absurd ⟨k,g,l,λj o=>d j o (by omega)⟩ b
   rw[this i (by omega)]at hp;cases hp
theorem TU {n:Nat} {p q:Nat->Bool} {e:Int} {r r':Int×Int} (h:∀i,i<n->p i=q i) (d:(∀i,i<n->p i=false)->r=r'):eP n p e r=eP n q e r':=by
 rcases bR (dz n p) n with h1|h1
 ·obtain⟨h2,c⟩:=E6 h1;rw[kR c h2 h1,kR (p:=q) (λj b=>by rw[<-h j (by omega)];exact c j b) (by rw[<-h _ h1];exact h2) h1]
 ·have:∀i,i<n->p i=false:=λi g=>by
   cases k:p i
   ·rfl
   ·have:=qC g k;omega
  rw[fK this,fK (λj b=>by rw[<-h j b];exact this j b),d this]
theorem lu {n:Nat} {p:Nat->Bool} {e:Int} {r:Int×Int} (b:e≠0) (h:(eP n p e r).1=0):(∀i,i<n->p i=false)/\r.1=0:=by
 rcases bR (dz n p) n with h1|h1
 ·obtain⟨h2,c⟩:=E6 h1;rw[kR c h2 h1]at h;exact absurd h b
 ·have:∀i,i<n->p i=false:=λi d=>by
   cases g:p i
   ·rfl
   ·have:=qC d g;omega
  rw[fK this]at h;exact⟨this,h⟩
def bK (W:Wd) (f:Int):Int:=bif decide (f<0)||decide ((W.ak:Int)<=f)then -1 else W.kinds f.toNat
theorem gv {W:Wd} {f:Int} (h:bK W f≠ -1):0<=f/\f<W.ak:=by unfold bK at h;cases h1:decide (f<0)<;>cases h2:decide ((W.ak:Int)<=f)<;>simp[h1,h2]at h<;>simp at h1 h2<;>omega
theorem eY {W:Wd} {f:Int} (h:0<=f/\f<W.ak):bK W f=W.kinds f.toNat:=by unfold bK;rw[decide_eq_false (by omega),decide_eq_false (by omega)];rfl
theorem M3 {W:Wd} {f:Int} (h:f<0\/W.ak<=f):bK W f= -1:=by
 unfold bK;rcases h with h|h
 ·rw[decide_eq_true h];rfl
 ·rw[decide_eq_true h];cases decide (f<0)<;>rfl
def qZ (W:Wd):Bool:=
 decide (W.ak<1)||decide (24<W.ak)||decide (W.aC<1)||decide (4<W.aC)||W.ay !=W.ak*16||W.ao !=W.ak*16||W.aO !=W.ak||W.aX !=W.ak||W.aP !=W.ak||W.aR !=W.aC*4||W.aQ !=W.aC||decide (W.aL<1)||decide (8<W.aL)||az W.time 1000000
structure bQ (W:Wd):Prop where
 k0:1<=W.ak
 k1:W.ak<=24
 c0:1<=W.aC
 c1:W.aC<=4
 af:W.ay=W.ak*16
 aa:W.ao=W.ak*16
 tasks:W.aO=W.ak
 lines:W.aX=W.ak
 bits:W.aP=W.ak
 ready:W.aR=W.aC*4
 ax:W.aQ=W.aC
 d0:1<=W.aL
 d1:W.aL<=8
 t0:0<=W.time
 t1:W.time<=1000000
theorem OS {W:Wd} (h:qZ W=false):bQ W:=by unfold qZ az at h;simp only[bX,decide_eq_false_iff_not,bne_eq_false_iff_eq]at h;obtain⟨⟨⟨⟨⟨⟨⟨⟨⟨⟨⟨⟨⟨h1,h2⟩,p⟩,q⟩,d⟩,e⟩,g⟩,i⟩,j⟩,b⟩,c⟩,k⟩,l⟩,n,o⟩:=h;exact⟨by omega,by omega,by omega,by omega,d,e,g,i,j,b,c,by omega,by omega,by omega,by omega⟩
def m8 (W:Wd):Prop:=(∀i,i<W.aX->W.ah i<=50)/\(∀i,i<W.aR->W.al i<=50)/\(∀i,i<W.aQ->W.aD i<=50)
def eA (s:bM):Int:=dP s.kind s.base s.len s.mark s.cd s.aH
def dD (W:Wd) (u:Int):Bool:=decide (0<=u)&&decide (u<W.ao)
def hN (W:Wd) (u:Int):Int:=bif dD W u then(W.aa u.toNat).from_ else u
def cN (W:Wd) (u:Int):Nat->Int
 |0=>u
 |k+1=>hN W (cN W u k)
def dU (k p:bM):Bool:=
 eA p==0&&bif p.kind==1 then k.kind !=1&&decide (p.base<=k.base)&&decide (k.base -p.base<p.mark)else k.kind==p.kind&&k.base==p.base&&(p.aH==0||p.aH==k.aH)&&(((iM 6 p.cd.toNat k.cd.toNat:Nat):Int)==k.cd)
def ki (W:Wd) (i:Nat) (s:bM):Bool:=
 bif s.kind==0 then eA s==0&&s.from_== -1 else
 W.kinds (i/16)==5&&eA s==0&&decide (s.base+s.len<=W.ak)&&(s.kind==1||W.kinds s.base.toNat==s.kind)&&
 (s.from_== -1||(dD W s.from_&&dU s (W.aa s.from_.toNat)&&!dD W (cN W s.from_ W.ao)))
def eR (W:Wd) (i:Nat):Bool:=ki W i (W.aa i)
theorem Ce {W:Wd} {i:Nat} {s:bM} (h:ki W i s=true):eA s=0:=by
 unfold ki at h;cases b:s.kind==0<;>simp only[b,cond_true,cond_false,aW,beq_iff_eq]at h
 ·exact h.1.1.1.2
 ·exact h.1
theorem iY {s:bM} (h:eA s=0):0<=s.kind/\s.kind<=8/\0<=s.base/\s.base<=24/\0<=s.len/\s.len<=24/\0<=s.mark/\s.mark<=24/\0<=s.cd/\s.cd<=7/\0<=s.aH/\s.aH<=65535:=ED h
theorem ir {p:Nat->Bool} {i:Nat} (h:∀j,j<i->p j=false) (c:p i=false):∀j,j<i+1->p j=false:=by
 intro j d;rcases bR j i with b|b
 ·exact h j b
 ·obtain rfl:j=i:=by omega
  exact c
theorem CR {W:Wd} {u:Int} (h:dD W u=true):hN W u=(W.aa u.toNat).from_:=by unfold hN;rw[h];rfl
theorem XC {W:Wd} {u:Int} (h:dD W u=false):hN W u=u:=by unfold hN;rw[h];rfl
theorem j5 {W:Wd} {u:Int}:dD W u=true↔0<=u/\u<W.ao:=by unfold dD;simp
theorem M6 {W:Wd} {u:Int} {k:Nat} (h:dD W (cN W u k)=false):∀{m:Nat},k<=m->cN W u m=cN W u k
 |m,hm=>by
  induction m with
  |zero=>obtain rfl:k=0:=by omega
         rfl
  |succ m b=>
   rcases bR m k with h1|h1
   ·obtain rfl:k=m+1:=by omega
    rfl
   ·show hN W (cN W u m)=_;rw[b h1,XC h]
def bU (s:bM) (f:Nat):Bool:=s.kind==1&&decide (s.base<=f)&&decide ((f:Int)<s.base+s.len)
def gL (s:bM) (f:Nat):Bool:=bU s f&&decide (s.base+s.mark<=f)
def cJ (s:bM) (f:Nat):Bool:=s.kind !=1&&s.kind !=0&&s.base==f
def rJ (W:Wd) (f:Nat):Bool:=
 decide (bD W.ao (λi=>bU (W.aa i) f)<=1)&&(W.kinds f==0||(decide (0<bD W.ao λi=>cJ (W.aa i) f)&&!da W.ao λi=>gL (W.aa i) f))
def cf (n:Nat) (l:Nat->Int) (x:Int):Nat:=bD n λk=>l k==x
def cP (n:Nat) (ln:Nat->Nat) (l:Nat->Nat->Int) (x:Int):Nat:=iL n λi=>cf (ln i) (l i) x
def cK (n:Nat) (l:Nat->Int) (x:Int):Bool:=da n λk=>l k==x
def gV (t:aF):Bool:=az t.r0 65535||az t.r1 65535||az t.r2 65535||az t.r3 65535||az t.r4 65535||az t.r5 65535||az t.r6 65535||az t.r7 65535
def fk (W:Wd) (t:aF):Bool:=az t.pc 65535||az t.word 65535||az t.aH 65535||az t.st 6||az t.prio 3||az t.core (W.aC -1)||az t.cI 3
def okF (W:Wd) (f k:Int):Bool:=f== -1||bK W f==k
def fx (W:Wd) (t:aF):Bool:=okF W t.node 5&&okF W t.space 4&&okF W t.helper 7&&okF W t.ar 6
def qP (W:Wd) (t:aF):Bool:=t.ar== -1||((W.tasks t.ar.toNat).st==5&&t.st !=4)
def bV (W:Wd) (f:Nat):Nat:=bD W.aO λi=>(W.tasks i).ar==f
def pO (W:Wd) (f:Nat):Bool:=decide (bV W f<=1)&&((bV W f==1)==((W.tasks f).st==5))
def cB (W:Wd) (f:Nat):Nat:=cP W.aX W.ah W.lines f
def cu (W:Wd) (f:Nat):Nat:=cP W.aR W.al W.ready f+cf W.aC W.ai f
def qD (W:Wd) (f:Nat) (k:Int):Bool:=(cB W f==1)&&(cu W f==0)&&bK W (W.tasks f).loc==k&&cK (W.ah (W.tasks f).loc.toNat) (W.lines (W.tasks f).loc.toNat) f
def lW (W:Wd) (f:Nat):Bool:=
 let s:=(W.tasks f).st
 bif s==2||s==3||s==4 then qD W f 7 else bif s==6 then qD W f 8 else
 bif s==1 then(cB W f==0)&&(cu W f==1)&&(W.tasks f).loc== -1 else(cB W f==0)&&(cu W f==0)&&(W.tasks f).loc== -1
def eN (W:Wd) (f:Nat):Bool:=
 let t:=W.tasks f
 bif W.kinds f !=6 then xj t aF.blank else !gV t&&!fk W t&&fx W t&&qP W t&&pO W f&&lW W f
def jq (W:Wd) (t:Int):Bool:=(W.tasks t.toNat).st==4
def j8 (W:Wd) (f:Nat) (t:Int):Bool:=bK W t==6&&(W.tasks t.toNat).loc==f&&(jq W t==jq W (W.lines f 0))
def fg (W:Wd) (f:Nat):Bool:=
 !(decide (0<W.ah f)&&W.kinds f !=7&&W.kinds f !=8)&&!(W.bits f !=0&&(W.kinds f !=8||decide (0<W.ah f)))&&!az (W.bits f) 65535&&fA (W.ah f) λi=>j8 W f (W.lines f i)
def eS (W:Wd) (t c p:Int):Bool:=bK W t==6&&(W.tasks t.toNat).st==1&&(W.tasks t.toNat).core==c&&(decide (p<0)||(W.tasks t.toNat).prio==p)
def eK (W:Wd) (c:Nat):Bool:=W.ai c== -1||eS W (W.ai c) c (-1)
def gn (W:Wd) (i:Nat):Bool:=fA (W.al i) λk=>eS W (W.ready i k) ((i/4:Nat):Int) ((i%4:Nat):Int)
def f' (W:Wd) (i:Nat):Bool:=
 let x:=W.af i;let k:=W.kinds (i/16)
 x==0||(k !=3&&k !=4)||(bif k==4 then x -x%1024==32768&&bK W (x%1024)==3 else(x -x%1024==32768||x -x%1024==49152)&&bK W (x%1024)==2)
def lp (W:Wd) (l:Nat->dG) (i:Nat):Bool:=
 bK W (l i).sp==4&&!az (l i).pg 255&&gT W.ay W.af (l i).sp (16*(l i).pg)==0&&jO W.ay W.af (l i).sp (16*(l i).pg)==(l i).fr&&(jP W.ay W.af (l i).sp (16*(l i).pg)==(l i).wr)&&!da i λk=>(l k).sp==(l i).sp&&(l k).pg==(l i).pg
def ga (W:Wd) (n:Nat) (l:Nat->dG):Bool:=decide (n<=4)&&fA n λi=>lp W l i
def qj (W:Wd) (r:Int×Int):Int×Int:=eP W.ay (λi=>az (W.af i) 65535) 1<|eP W.ak (λi=>az (W.kinds i) 8||W.kinds i==1) 3<|eP W.aL (λi=>az (W.aA i) 3) 2 r
def rL (W:Wd) (r:Int×Int):Int×Int:=eP W.ao (λi=>!eR W i) 8 r
def vK (W:Wd) (r:Int×Int):Int×Int:=eP W.ak (λi=>!rJ W i) 8 r
def rM (W:Wd) (r:Int×Int):Int×Int:=eP W.ak (λi=>!eN W i) 8 r
def rN (W:Wd) (r:Int×Int):Int×Int:=eP W.ak (λi=>!fg W i) 8 r
def rO (W:Wd) (r:Int×Int):Int×Int:=eP W.aC (λi=>!eK W i) 8<|eP W.aR (λi=>!gn W i) 8 r
def rP (W:Wd) (r:Int×Int):Int×Int:=eP W.ay (λi=>!f' W i) 9<|eP W.aC (λi=>!ga W (W.aD i) (W.ax i)) 9 r
def wm (W:Wd):Int×Int:=bif qZ W then(2,-1)else qj W (rL W (vK W (rM W (rN W (rO W (rP W (0,-1)))))))
def fW (B:List bp) (z:Nat):Wd:=⟨nU B (z+1),λi=>av (k_ B (z+1) i 0),nU B (z+2),λi=>av (k_ B (z+2) i 0),nU B (z+3),λi=>DF (λj=>k_ B (z+3) i j),nU B (z+4),λi=>Dg (λj=>k_ B (z+4) i j),nU B (z+5),λi=>Ir (k_ B (z+5) i 0),λi k=>av (Is (k_ B (z+5) i 0) k 0),nU B (z+6),λi=>av (k_ B (z+6) i 0),nU B (z+7),λi=>av (k_ B (z+7) i 0),nU B (z+8),λi=>Ir (k_ B (z+8) i 0),λi k=>av (Is (k_ B (z+8) i 0) k 0),nU B (z+9),λi=>Ir (k_ B (z+9) i 0),λi k=>rj (λj=>Is (k_ B (z+9) i 0) k j),nU B (z+10),λi=>av (k_ B (z+10) i 0),av (Dw B z 10)⟩
def gM (W:Wd) (s:Int):Int:=bif decide (s<0)||decide ((W.ao:Int)<=s)then 2 else bif (W.aa s.toNat).kind==0 then 6 else 0
def gA (W:Wd) (s:Int):Int:=bif decide (s<0)||decide ((W.ao:Int)<=s)then 2 else bif W.kinds (s/16).toNat !=5 then 3 else bif (W.aa s.toNat).kind !=0 then 12 else 0
def jJ (W:Wd) (a b:Int):Int:=bif gM W a==0 then gA W b else gM W a
def cr (a b:Int) (s:bM):bM:=bif s.from_==a then{s with from_:=b}else s
def fm:bM:=⟨0,0,0,0,0,0,-1⟩
def cX (f:Nat->bM) (a b:Nat) (j:Nat):bM:=bif Nat.beq j b then f a else bif Nat.beq j a then fm else f j
def Ek (W:Wd) (a b:Int):Wd:={W with aa:=λj=>bif jJ W a b==0 then cr a b (cX W.aa a.toNat b.toNat j)else W.aa j}
theorem ld {x y:bM} (h:x=y):((((((x.kind=y.kind/\x.base=y.base)/\x.len=y.len)/\x.mark=y.mark)/\x.cd=y.cd)/\x.aH=y.aH)/\x.from_=y.from_):=by subst h;exact⟨⟨⟨⟨⟨⟨rfl,rfl⟩,rfl⟩,rfl⟩,rfl⟩,rfl⟩,rfl⟩
theorem dt {a b:Nat} (h:a≠b):Nat.beq a b=false:=by
 cases c:Nat.beq a b with
 |false=>rfl
 |true=>exact absurd (a_ c) h
theorem du {z:Int} (h1: -1000000<=z) (h2:z<=1000000):IntKind.i64.wrap z=z:=by rw[IntKind.wrap_i64];omega
theorem Hj {W:Wd} {a b:Int} (h:(jJ W a b==0)=true):(0<=a/\a<W.ao)/\(0<=b/\b<W.ao)/\a≠b/\gM W a=0/\gA W b=0:=by
 have h:=eq_of_beq h;unfold jJ at h;cases h1:gM W a==0 with
 |false=>rw[h1]at h;exact absurd (beq_of_eq (show gM W a=0 from h)) (by rw[h1];decide)
 |true=>
  rw[h1]at h;have h1:=eq_of_beq h1;have h2:gA W b=0:=h;have d:(0<=a/\a<W.ao)/\(W.aa a.toNat).kind≠0:=by have c:=h1;unfold gM at c;cases d1:decide (a<0)<;>cases d2:decide ((W.ao:Int)<=a)<;>rw[d1,d2]at c<;>(try simp only[j9,kV,iI,cond_true,cond_false]at c)<;>(try exact absurd c (by decide));have d1:=of_decide_eq_false d1;have d2:=of_decide_eq_false d2;refine⟨by omega,λe=>?_⟩;rw[e]at c;exact absurd c (by decide)
  have g:(0<=b/\b<W.ao)/\(W.aa b.toNat).kind=0:=by have c:=h2;unfold gA at c;cases d1:decide (b<0)<;>cases d2:decide ((W.ao:Int)<=b)<;>rw[d1,d2]at c<;>(try simp only[j9,kV,iI,cond_true,cond_false]at c)<;>(try exact absurd c (by decide));have d1:=of_decide_eq_false d1;have d2:=of_decide_eq_false d2;refine⟨by omega,?_⟩;cases j:W.kinds (b/16).toNat !=5<;>rw[j]at c<;>(try simp only[j9,kV,iI,cond_true,cond_false]at c)<;>(try exact absurd c (by decide));cases i:(W.aa b.toNat).kind !=0<;>rw[i]at c<;>(try simp only[j9,kV,iI,cond_true,cond_false]at c)<;>(try exact absurd c (by decide));exact bne_eq_false_iff_eq.1 i
  exact⟨d.1,g.1,λe=>d.2 (by rw[e];exact g.2),h1,h2⟩
theorem Ep {x:Int} (h:(x !=0)=true):(x==0)=false:=by simpa [bne]using h
theorem vL {x:Int} (h:(x !=0)=false):(x==0)=true:=by simpa [bne]using h
theorem dI (W:Wd):(⟨W.ay,W.af,W.ak,W.kinds,W.ao,W.aa,W.aO,W.tasks,W.aX,W.ah,W.lines,W.aP,W.bits,W.aC,W.ai,W.aR,W.al,W.ready,W.aQ,W.aD,W.ax,W.aL,W.aA,W.time⟩:Wd)=W:=rfl
structure OT where
 (W:Wd) (s:Int)
def Y':Sy.Spec:=⟨OT,λ⟨W,s⟩=> [dN W,.v (.int .i64 s)],λ_=> [],λ_=>True,λ⟨W,s⟩=> .v (.int .i64 (gM W s)),λ_=> [],
 λargs mem=>match args with| [a0,a1]=>some ⟨dJ a0,av (a1)⟩|_=>none⟩
def Za:aZ:=⟨[],(Y').g,none⟩
def OU:OT->Prop:=λ⟨W,s⟩=>let a0:=cond (decide (s<0)) true (decide (((W.ao:Nat):Int)<=s));let b0:=gM W s;let c0:=(W.aa (Int.toNat s)).kind==0;(a0=true->2=b0/\True)/\(a0=false->(0<=s/\s<((W.ao:Nat):Int))/\(c0=true->6=b0/\True)/\(c0=false->0=b0/\True))
theorem MW:aY Tryz.prog bk 96 Za:=bn .nil false Tryz.call96 Tryz.func96 (λ_=> []) (V:=OU) (λ_=>by kernel_rfl) λ⟨W,s⟩ hp=>by
 dsimp only[OU,tn,aw,aB,aJ,aK,aG];simp only[bq,bx,eq_self,implies_true,bo];refine⟨λh=>?_,λh=>?_⟩
 ·unfold gM;rw[h];rfl
 ·have b:=h;rw[bX]at b;have h1:=of_decide_eq_false b.1;have h2:=of_decide_eq_false b.2;refine⟨by omega,λc=>?_,λc=>?_⟩<;>(unfold gM;rw[h,c];rfl)
structure MX where
 (W:Wd) (s:Int)
def MY:Sy.Spec:=⟨MX,λ⟨W,s⟩=> [dN W,.v (.int .i64 s)],λ_=> [],λ⟨W,_⟩=>W.ao<=100000/\W.ao<=W.ak*16,λ⟨W,s⟩=> .v (.int .i64 (gA W s)),λ_=> [],
 λargs mem=>match args with| [a0,a1]=>some ⟨dJ a0,av (a1)⟩|_=>none⟩
def XA:aZ:=⟨[],(MY).g,none⟩
def MZ:MX->Prop:=λ⟨W,s⟩=>let a0:=cond (decide (s<0)) true (decide (((W.ao:Nat):Int)<=s));let b0:=gA W s;let c0:Int:=s/16;let d0:=W.kinds (Int.toNat c0) !=5;let e0:=(W.aa (Int.toNat s)).kind !=0;(a0=true->2=b0/\True)/\(a0=false->(0<=s/\(0:Int)<16/\aw c0=c0)/\(0<=c0/\c0<((W.ak:Nat):Int))/\(d0=true->3=b0/\True)/\(d0=false->(0<=s/\s<((W.ao:Nat):Int))/\(e0=true->12=b0/\True)/\(e0=false->0=b0/\True)))
theorem K9:aY Tryz.prog bk 98 XA:=bn .nil false Tryz.call98 Tryz.func98 (λ_=> []) (V:=MZ) (λ_=>by kernel_rfl) λ⟨W,s⟩ hp=>by
 dsimp only[MY]at hp;dsimp only[MZ,tn,aw,aB,aJ,aK,aG];simp only[bq,bx,eq_self,implies_true,bo];refine⟨λh=>?_,λh=>?_⟩
 ·unfold gA;rw[h];rfl
 ·have c:=h;rw[bX]at c;have h1:=of_decide_eq_false c.1;have h2:=of_decide_eq_false c.2;refine⟨⟨by omega,by decide,du (by omega) (by omega)⟩,by omega,λb=>?_,λb=>⟨by omega,λd=>?_,λd=>?_⟩⟩
  ·unfold gA;rw[h,b];rfl
  ·unfold gA;rw[h,b,d];rfl
  ·unfold gA;rw[h,b,d];rfl
structure OV where
 (W:Wd) (a b:Int)
def OW:Sy.Spec:=⟨OV,λ⟨W,a,b⟩=> [dN W,.v (.int .i64 a),.v (.int .i64 b)],λ_=> [],λ⟨W,_,_⟩=>W.ao<=100000/\W.ao<=W.ak*16,λ⟨W,a,b⟩=> .v (.int .i64 (jJ W a b)),λ_=> [],
 λargs mem=>match args with| [a0,a1,c]=>some ⟨dJ a0,av (a1),av (c)⟩|_=>none⟩
def Zb:aZ:=⟨[],(OW).g,none⟩
def OX:OV->Prop:=λ⟨W,a,b⟩=>let a0:=W.ak;let b0:=W.ao;let c0:=W.aO;let d0:=W.aX;let e0:=W.aC;let d:=W.aR;let h0:=((((((((((True/\W.ay=W.ay/\(∀k0:Nat,k0<W.ay->True/\W.af k0=W.af k0))/\a0=a0/\(∀e:Nat,e<a0->True/\W.kinds e=W.kinds e))/\b0=b0/\(∀o0:Nat,o0<b0->aK (W.aa o0) (W.aa o0)))/\c0=c0/\(∀g:Nat,g<c0->aJ (W.tasks g) (W.tasks g)))/\d0=d0/\(∀r0:Nat,let h:=W.ah r0;r0<d0->True/\h=h/\(∀v0:Nat,v0<h->True/\W.lines r0 v0=W.lines r0 v0)))/\W.aP=W.aP/\(∀w0:Nat,w0<W.aP->True/\W.bits w0=W.bits w0))/\e0=e0/\(∀i:Nat,i<e0->True/\W.ai i=W.ai i))/\d=d/\(∀c:Nat,let z0:=W.al c;c<d->True/\z0=z0/\(∀a1:Nat,a1<z0->True/\W.ready c a1=W.ready c a1)))/\W.aQ=W.aQ/\(∀b1:Nat,let c1:=W.aD b1;b1<W.aQ->True/\c1=c1/\(∀d1:Nat,d1<c1->aG (W.ax b1 d1) (W.ax b1 d1))))/\W.aL=W.aL/\(∀j:Nat,j<W.aL->True/\W.aA j=W.aA j))/\W.time=W.time;let k:=gM W a==0;((h0/\a=a/\True)/\True/\True)/\(k=true->((h0/\b=b/\True)/\True/\b0<=100000/\b0<=a0*16)/\gA W b=jJ W a b/\True)/\(k=false->gM W a=jJ W a b/\True)
theorem XB:aY Tryz.prog bk 100 Zb:=bn (.cons MW (.cons K9 .nil)) false Tryz.call100 Tryz.func100 (λ_=> []) (V:=OX) (λ_=>by kernel_rfl) λ⟨W,a,b⟩ hp=>by dsimp only[OW]at hp;dsimp only[OX,tn,aw,aB,aJ,aK,aG];simp only[bq,bx,eq_self,implies_true,bo];exact⟨λh=>⟨hp,by unfold jJ;rw[h];rfl⟩,λh=>by unfold jJ;rw[h];rfl⟩
theorem FC {W:Wd} {i:Nat} {s:bM} (h:(s.kind==0)=false):ki W i s=(W.kinds (i/16)==5&&eA s==0&&decide (s.base+s.len<=W.ak)&&(s.kind==1||W.kinds s.base.toNat==s.kind)&&(s.from_== -1||(dD W s.from_&&dU s (W.aa s.from_.toNat)&&!dD W (cN W s.from_ W.ao)))):=by unfold ki;rw[h];rfl
theorem Rq {W:Wd} {u:Int}:(decide (u<0)||decide ((W.ao:Int)<=u))=!dD W u:=by
 cases b:dD W u with
 |true=>have:=j5.1 b;rw[decide_eq_false (by omega),decide_eq_false (by omega)];rfl
 |false=>
  have:¬(0<=u/\u<W.ao):=λh=>by rw[j5.2 h]at b;cases b
  rcases tv u 0 with h|h
  ·rw[decide_eq_true h];rfl
  ·rw[decide_eq_true (show(W.ao:Int)<=u by omega)];simp
theorem T4 (s:bM):dP s.kind s.base s.len s.mark s.cd s.aH=eA s:=rfl
theorem O9 (a:Nat):(((a:Nat):Int)==0)=(a==0):=by rw[lJ];simp
theorem Hn (a:Nat):(((a:Nat):Int)==1)=(a==1):=by rw[lJ];simp;omega
theorem Ns {W:Wd} {f:Nat} (h:(W.kinds f !=6)=false):eN W f=(!gV (W.tasks f)&&!fk W (W.tasks f)&&fx W (W.tasks f)&&qP W (W.tasks f)&&pO W f&&lW W f):=by unfold eN;rw[h];rfl
theorem ZA {t:aF} (h:∀j,j<8->az (fX [t.r0,t.r1,t.r2,t.r3,t.r4,t.r5,t.r6,t.r7] j) 65535=false):gV t=false:=by unfold gV;have h0:az t.r0 65535=false:=h 0 (by omega);have h1:az t.r1 65535=false:=h 1 (by omega);have h2:az t.r2 65535=false:=h 2 (by omega);have b:az t.r3 65535=false:=h 3 (by omega);have c:az t.r4 65535=false:=h 4 (by omega);have d:az t.r5 65535=false:=h 5 (by omega);have e:az t.r6 65535=false:=h 6 (by omega);have g:az t.r7 65535=false:=h 7 (by omega);rw[h0,h1,h2,b,c,d,e,g];rfl
theorem ZB {t:aF} (h:gV t=false):∀j,j<8->az (fX [t.r0,t.r1,t.r2,t.r3,t.r4,t.r5,t.r6,t.r7] j) 65535=false:=by
 unfold gV at h;simp only[bX]at h;obtain⟨⟨⟨⟨⟨⟨⟨h0,h1⟩,h2⟩,b⟩,c⟩,d⟩,e⟩,g⟩:=h;intro j i;have:j=0\/j=1\/j=2\/j=3\/j=4\/j=5\/j=6\/j=7:=by omega
 rcases this with rfl|rfl|rfl|rfl|rfl|rfl|rfl|rfl
 ·exact h0
 ·exact h1
 ·exact h2
 ·exact b
 ·exact c
 ·exact d
 ·exact e
 ·exact g
theorem ZD {W:Wd} {f k:Int} (b:k≠ -1) (h:okF W f k=true) (c:(f != -1)=true):0<=f/\f<W.ak:=by
 unfold okF at h;have:(f== -1)=false:=by revert c;simp only[bne];cases f== -1<;>simp
 rw[this]at h;have h:bK W f=k:=by simpa using h
 exact gv (by rw[h];exact b)
theorem ady (n:Nat) (l:Nat->Int) (x:Int):cP 1 (λ_=>n) (λ_=>l) x=cf n l x:=by show 0+cf n l x=cf n l x;omega
def adw (s:SV) (k:Int->cQ):cQ:=match s with| .v (.int _ x)=>k x|_=>k 0
def wE (W:Wd):Int:=(wm W).1
def wA (W:Wd):Int:=(wm W).2
structure Sm (W:Wd):Prop where
 af:W.ay<=1000
 kinds:W.ak<=100
 aa:W.ao<=1000
 tasks:W.aO<=100
 lines:W.aX<=100
 bits:W.aP<=100
 ai:W.aC<=50
 ready:W.aR<=100
 ax:W.aQ<=50
 aA:W.aL<=50
 sm:m8 W
theorem tS {a b:Int} {c d:Nat} (h:a=b↔c=d):(a !=b)=(c !=d):=by rw[lJ,bne_iff_ne,bne_iff_ne,ne_eq,ne_eq,h]
theorem UQ (W:Wd):(decide ((W.ak:Int)<1)||decide ((24:Int)<(W.ak:Int))||decide ((W.aC:Int)<1)||decide ((4:Int)<(W.aC:Int))||(W.ay:Int) !=(W.ak:Int)*16||(W.ao:Int) !=(W.ak:Int)*16||(W.aO:Int) !=(W.ak:Int)||(W.aX:Int) !=(W.ak:Int)||(W.aP:Int) !=(W.ak:Int)||(W.aR:Int) !=(W.aC:Int)*4||(W.aQ:Int) !=(W.aC:Int)||decide ((W.aL:Int)<1)||decide ((8:Int)<(W.aL:Int))||az W.time 1000000)=qZ W:=by
 unfold qZ;rw[show decide ((W.ak:Int)<1)=decide (W.ak<1)from decide_eq_decide.2 (by omega),show decide ((24:Int)<(W.ak:Int))=decide (24<W.ak)from decide_eq_decide.2 (by omega),show decide ((W.aC:Int)<1)=decide (W.aC<1)from decide_eq_decide.2 (by omega),show decide ((4:Int)<(W.aC:Int))=decide (4<W.aC)from decide_eq_decide.2 (by omega),show decide ((W.aL:Int)<1)=decide (W.aL<1)from decide_eq_decide.2 (by omega),show decide ((8:Int)<(W.aL:Int))=decide (8<W.aL)from decide_eq_decide.2 (by omega),
  tS (a:=W.ay) (c:=W.ay) (d:=W.ak*16) (by omega),tS (a:=W.ao) (c:=W.ao) (d:=W.ak*16) (by omega),tS (a:=W.aO) (c:=W.aO) (d:=W.ak) (by omega),tS (a:=W.aX) (c:=W.aX) (d:=W.ak) (by omega),tS (a:=W.aP) (c:=W.aP) (d:=W.ak) (by omega),tS (a:=W.aR) (c:=W.aR) (d:=W.aC*4) (by omega),tS (a:=W.aQ) (c:=W.aQ) (d:=W.aC) (by omega)]
theorem XW (W:Wd) (s:Nat):(W.ai s != -1&&!eS W (W.ai s) s (-1))=!eK W s:=by unfold eK;simp only[bne,zf]
def SO (W:Wd):Bool:=decide (1000<W.ay)||decide (100<W.ak)||decide (1000<W.ao)||decide (100<W.aO)||decide (100<W.aX)||decide (100<W.aP)||decide (50<W.aC)||decide (100<W.aR)||decide (50<W.aQ)||decide (50<W.aL)||da W.aX (λi=>decide (50<W.ah i))||da W.aR (λi=>decide (50<W.al i))||da W.aQ (λi=>decide (50<W.aD i))
def ab_ (n:Nat) (l:Nat->Int) (x:Int):cQ where
 σ:=Nat
 rt:= []
 sh i:= [(8,.v (.int .i64 i))]
 mh _:= []
 inv i:=i<=n/\∀j,j<i->(x==l j)=false
 μ i:=n -i
 init:=0
def ZG (n:Nat) (ln:Nat->Nat) (l:Nat->Nat->Int) (x:Int):cQ where
 σ:=Nat
 rt:= []
 sh i:= [(12,.v (.int .i64 i)),(5,.v (.int .i64 (cP i ln l x:Nat)))]
 mh _:= []
 inv i:=i<=n
 μ i:=n -i
 init:=0
def ZH (ln:Nat->Nat) (l:Nat->Nat->Int) (x:Int) (i c:Int):cQ where
 σ:=Nat
 rt:= []
 sh k:= [(18,.v (.int .i64 k)),(5,.v (.int .i64 (c+(bD k λq=>l i.toNat q==x:Nat))))]
 mh _:= []
 inv k:=k<=ln i.toNat
 μ k:=ln i.toNat -k
 init:=0
theorem Gu {W:Wd} {f k:Int} (b:k≠ -1):(decide (0<=f)&&decide (f<(W.ak:Int))&&W.kinds f.toNat==k)=(bK W f==k):=by
 cases h1:decide (0<=f)&&decide (f<(W.ak:Int))with
 |true=>simp only[aW,decide_eq_true_eq]at h1;rw[eY h1];rfl
 |false=>
  simp only[pI,decide_eq_false_iff_not]at h1;rw[M3 (by omega)]
  symm
  exact beq_eq_false_iff_ne.2 λh=>b h.symm
theorem Tz {r q:Int} (r0:0<=r) (r1:r<=7) (b:0<=q) (c:q<=7):(d_ .andNot .i64 r q==0)=(((iM 6 q.toNat r.toNat:Nat):Int)==r):=by rw[TY r0 r1 b c,HZ b (by omega) r0 (by omega)];rfl
structure PD where
 (v m:Int)
def ZI:Sy.Spec:=⟨PD,λ⟨v,m⟩=> [.v (.int .i64 v),.v (.int .i64 m)],λ_=> [],λ_=>True,λ⟨v,m⟩=> .v (.bool (az v m)),λ_=> [],
 λargs mem=>match args with| [a0,a1]=>some ⟨av (a0),av (a1)⟩|_=>none⟩
def ZJ:aZ:=⟨[],(ZI).g,none⟩
def PE:PD->Prop:=λ⟨v,m⟩=>cond (decide (v<0)) true (decide (m<v))=az v m/\True
theorem wF:aY Tryz.prog bk 72 ZJ:=bn .nil false Tryz.call72 Tryz.func72 (λ_=> []) (V:=PE) (λ_=>by kernel_rfl) λ⟨v,m⟩ hp=>by dsimp only[PE,tn,aw,aB,aJ,aK,aG];simp only[bq,bx,eq_self,implies_true,bo];rfl
structure Rr where
 (i e:Int)
def Rs:Sy.Spec:=⟨Rr,λ⟨i,e⟩=> [.v (.int .i64 i),.v (.int .i64 e)],λ_=> [],λ⟨i,e⟩=>0<=i/\e≠0,λ⟨i,e⟩=> .er 43 66 e i,λ_=> [],
 λargs mem=>match args with| [a0,a1]=>some ⟨av (a0),av (a1)⟩|_=>none⟩
def ab':aZ:=⟨[],(Rs).g,none⟩
def Rt:Rr->Prop:=λ⟨i,e⟩=>True/\(e≠0/\0<=i/\e=e/\i=i)/\True
theorem nL:aY Tryz.prog bk 132 ab':=bn .nil false Tryz.call132 Tryz.func132 (λ_=> []) (V:=Rt) (λ_=>by kernel_rfl) λ⟨i,e⟩ hp=>by dsimp only[Rs]at hp;dsimp only[Rt,tn,aw,aB,aJ,aK,aG];simp only[bq,bx,eq_self,implies_true,bo];exact⟨hp.2,hp.1⟩
structure Ru where
 (W:Wd) (f k:Int)
def Rv:Sy.Spec:=⟨Ru,λ⟨W,f,k⟩=> [dN W,.v (.int .i64 f),.v (.int .i64 k)],λ_=> [],λ⟨_,_,k⟩=>k≠ -1,λ⟨W,f,k⟩=> .v (.bool (okF W f k)),λ_=> [],
 λargs mem=>match args with| [a0,a1,b]=>some ⟨dJ a0,av (a1),av (b)⟩|_=>none⟩
def aca:aZ:=⟨[],(Rv).g,none⟩
def Rw:Ru->Prop:=λ⟨W,f,k⟩=>let a0:=cond (decide (0<=f)) (decide (f<((W.ak:Nat):Int))) false;(a0=true->(f==(-1))=false->0<=f/\f<((W.ak:Nat):Int))/\cond (f==(-1)) true (cond a0 (W.kinds (Int.toNat f)==k) false)=okF W f k/\True
theorem ZC:aY Tryz.prog bk 114 aca:=bn .nil false Tryz.call114 Tryz.func114 (λ_=> []) (V:=Rw) (λ_=>by kernel_rfl) λ⟨W,f,k⟩ hp=>by dsimp only[Rv]at hp;dsimp only[Rw,tn,aw,aB,aJ,aK,aG];simp only[bq,bx,eq_self,implies_true,bo];exact⟨λh _=>by simp only[aW,decide_eq_true_eq]at h;exact h,by rw[Gu hp];rfl⟩
structure NC where
 (k b l m r g k2 b2 l2 m2 r2 g2:Int)
def ND:Sy.Spec:=⟨NC,λ⟨k,b,l,m,r,g,k2,b2,l2,m2,r2,g2⟩=> [.ag 6 (aN [.v (.int .i64 k),.v (.int .i64 b),.v (.int .i64 l),.v (.int .i64 m),.v (.int .i64 r),.v (.int .i64 g)]),.ag 6 (aN [.v (.int .i64 k2),.v (.int .i64 b2),.v (.int .i64 l2),.v (.int .i64 m2),.v (.int .i64 r2),.v (.int .i64 g2)])],λ_=> [],λ⟨k,b,l,m,r,g,_,_,_,_,_,_⟩=>dP k b l m r g=0,λ⟨k,b,l,m,r,g,k2,b2,l2,m2,r2,g2⟩=> .v (.bool (dU ⟨k,b,l,m,r,g,0⟩ ⟨k2,b2,l2,m2,r2,g2,0⟩)),λ_=> [],
 λargs mem=>match args with| [a0,a1]=>some ⟨av (cW a0 0),av (cW a0 1),av (cW a0 2),av (cW a0 3),av (cW a0 4),av (cW a0 5),av (cW a1 0),av (cW a1 1),av (cW a1 2),av (cW a1 3),av (cW a1 4),av (cW a1 5)⟩|_=>none⟩
def X6:aZ:=⟨[],(ND).g,none⟩
def NF:NC->Prop:=λ⟨k,b,l,m,r,g,k2,b2,l2,m2,r2,g2⟩=>let a0:=dP k2 b2 l2 m2 r2 g2 !=0;let b0:=dU (bM.mk k b l m r g 0) (bM.mk k2 b2 l2 m2 r2 g2 0);let c0:=cond (k !=1) (decide (b2<=b)) false;tn 2 (((((((((True/\k2=k2)/\b2=b2)/\l2=l2)/\m2=m2)/\r2=r2)/\g2=g2)/\True)/\True/\True)/\(a0=true->false=b0/\True)/\(a0=false->((k2==1)=true->(c0=true->aw (b2+m2)=b2+m2)/\cond c0 (decide (b<b2+m2)) false=b0/\True)/\((k2==1)=false->cond (cond (cond (k==k2) (b==b2) false) (d_ BinOp.andNot IntKind.i64 r r2==0) false) (cond (g2==0) true (g==g2)) false=b0/\True)))
theorem Wf:aY Tryz.prog bk 109 X6:=bn (.cons Jh .nil) false Tryz.call109 Tryz.func109 (λ_=> []) (V:=NF) (λ_=>by kernel_rfl) λ⟨k,b,l,m,r,g,k2,b2,l2,m2,r2,g2⟩ hp=>by
 dsimp only[ND]at hp;dsimp only[NF,tn,aw,aB,aJ,aK,aG];simp only[bq,bx,eq_self,implies_true,bo];have hm:dU ⟨k,b,l,m,r,g,0⟩ ⟨k2,b2,l2,m2,r2,g2,0⟩=(dP k2 b2 l2 m2 r2 g2==0&&bif k2==1 then k !=1&&decide (b2<=b)&&decide (b -b2<m2)else k==k2&&b==b2&&(g2==0||g2==g)&&(((iM 6 r2.toNat r.toNat:Nat):Int)==r)):=rfl;rw[hm];refine⟨λh=>by rw[tR (b:=dP k2 b2 l2 m2 r2 g2==0) h];rfl,λh=>?_⟩;have h0:=hC (b:=dP k2 b2 l2 m2 r2 g2==0) h;rw[h0];have d:=ED hp;have c:=ED (eq_of_beq h0);refine⟨λh1=>⟨λ_=>by rw[IntKind.wrap_i64];omega,?_⟩,λh1=>?_⟩
 ·rw[h1,show decide (b<b2+m2)=decide (b -b2<m2)from decide_eq_decide.2 (by omega)];rfl
 ·rw[h1,Tz (by omega) (by omega) (by omega) (by omega),show(g==g2)=(g2==g)from Ho];cases k==k2<;>cases b==b2<;>cases g2==0<;>cases g2==g<;>simp
structure LJ where
 (n:Nat) (ln:Nat->Nat) (l:Nat->Nat->Int) (x:Int)
def LK:Sy.Spec:=⟨LJ,λ⟨n,ln,l,x⟩=> [.sl true 1 n (λi _=> .sl true 1 (ln i) (iF (l i))),.v (.int .i64 x)],λ_=> [],λ⟨n,ln,_,_⟩=>n<=1000/\∀i,i<n->ln i<=1000,λ⟨n,ln,l,x⟩=> .v (.int .i64 (cP n ln l x:Nat)),λ_=> [],
 λargs mem=>match args with| [a0,a1]=>some ⟨bT a0,λi=>bT (bO a0 i 0),λi k=>av (bO (bO a0 i 0) k 0),av (a1)⟩|_=>none⟩
def Wj:aZ:=⟨[],(LK).g,none⟩
def LL:LJ->Prop:=λ⟨n,ln,l,x⟩=>let a0:=(n:Int);a0<=9223372036854775807->0=((0:Nat):Int)/\0=((cP 0 ln l x:Nat):Int)/\True/\0<=n/\(∀b0:Nat,let c0:=(b0:Int);let d0:=decide (c0<a0);let e0:=Int.toNat c0;let b:=ln e0;let h0:=(b:Int);let k0:=((cP b0 ln l x:Nat):Int);let e:Int:=c0+1;b0<=n->(d0=true->(0<=c0/\c0<a0)/\(h0<=9223372036854775807->0=((0:Nat):Int)/\k0=k0+((bD 0 (λo0:Nat=>l e0 o0==x):Nat):Int)/\True/\0<=b/\(∀c:Nat,let r0:=(c:Int);let h:=decide (r0<h0);let v0:=l e0 (Int.toNat r0)==x;let w0:Int:=k0+((bD c (λi:Nat=>l e0 i==x):Nat):Int);let g:Int:=w0+1;let z0:Int:=r0+1;let a1:=aw z0=z0;c<=b->(h=true->(0<=r0/\r0<h0)/\(v0=true->aw g=g/\a1/\(∃b1:Nat,z0=(b1:Int)/\g=k0+((bD b1 (λc1:Nat=>l e0 c1==x):Nat):Int)/\True/\b1<=b/\b-b1<b-c))/\(v0=false->a1/\(∃d1:Nat,z0=(d1:Int)/\w0=k0+((bD d1 (λj:Nat=>l e0 j==x):Nat):Int)/\True/\d1<=b/\b-d1<b-c)))/\(h=false->aw e=e/\(∃d:Nat,e=(d:Int)/\w0=((cP d ln l x:Nat):Int)/\True/\d<=n/\n-d<n-b0)))))/\(d0=false->k0=((cP n ln l x:Nat):Int)/\True))
theorem U3:aY Tryz.prog bk 115 Wj:=bn .nil false Tryz.call115 Tryz.func115 (λ⟨n,ln,l,x⟩=> [.inv (ZG n ln l x),.zL false λfr=>ZH ln l x (av (fr 12)) (av (fr 5))]) (V:=LL) (λ_=>by kernel_rfl) λ⟨n,ln,l,x⟩ hp=>by
 dsimp only[LK]at hp;dsimp only[LL,tn,aw,aB,aJ,aK,aG];simp only[bq,bx,eq_self,implies_true,bo];refineλ_=>⟨rfl,λs hs=>⟨λh=>?_,λh=>?_⟩⟩
 ·have b:=fh h;have hl:=hp.2 s b;have j:cP s ln l x<=s*1000:=Gk λi o=>ft (pD _ _) (hp.2 i (by omega));refine⟨by omega,λhm=>⟨by simp[bD],λk p=>⟨λh2=>?_,λh2=>?_⟩⟩⟩
  ·have g:=fh h2;have r:=pD (λq=>l s q==x) k;refine⟨by omega,λc=>?_,λc=>?_⟩
   ·have e:(bD (k+1) λq=>l s q==x)=(bD k λq=>l s q==x)+1:=by simp[bD,c]
    exact⟨by rw[IntKind.wrap_i64];omega,by rw[IntKind.wrap_i64];omega,eU ⟨by rw[e];omega,by omega,by omega⟩⟩
   ·have e:(bD (k+1) λq=>l s q==x)=(bD k λq=>l s q==x):=by simp[bD,c]
    exact⟨by rw[IntKind.wrap_i64];omega,eU ⟨by rw[e],by omega,by omega⟩⟩
  ·have d:=fq h2;obtain rfl:k=ln s:=by omega
   refine⟨by rw[IntKind.wrap_i64];omega,eU ⟨?_,by omega,by omega⟩⟩;rw[show cP (s+1) ln l x=cP s ln l x+bD (ln s) (λq=>l s q==x)from rfl];omega
 ·have d:=fq h;obtain rfl:s=n:=by omega
  rfl
structure BO where
 (n:Nat) (l:Nat->Int) (x:Int)
def FE:Sy.Spec:=⟨BO,λ⟨n,l,x⟩=> [.sl true 1 n (λb _=> .v (.int .i64 (l b))),.v (.int .i64 x)],λ_=> [],λ⟨n,_,_⟩=>n<=100000,λ⟨n,l,x⟩=> .v (.int .i64 (fE n λk=>x==l k)),λ_=> [],
 λargs mem=>match args with| [a0,a1]=>some ⟨bT a0,λi=>av (bO a0 i 0),av (a1)⟩|_=>none⟩
def Wk:aZ:=⟨[],(FE).g,none⟩
def LM:BO->Prop:=λ⟨n,l,x⟩=>let a0:=(n:Int);let b0:=fE n (λc0:Nat=>x==l c0);a0<=9223372036854775807->0=((0:Nat):Int)/\True/\(0<=n/\(∀d0:Nat,d0<0->(x==l d0)=false))/\(∀e0:Nat,let b:=(e0:Int);let h0:=decide (b<a0);let k0:=x==l (Int.toNat b);let d:Int:=b+1;e0<=n/\(∀o0:Nat,o0<e0->(x==l o0)=false)->(h0=true->(0<=b/\b<a0)/\(k0=true->b=b0/\True)/\(k0=false->aw d=d/\(∃c:Nat,d=(c:Int)/\True/\(c<=n/\(∀r0:Nat,r0<c->(x==l r0)=false))/\n-c<n-e0)))/\(h0=false->(-1)=b0/\True))
theorem U5:aY Tryz.prog bk 133 Wk:=bn .nil false Tryz.call133 Tryz.func133 (λ⟨n,l,x⟩=> [.inv (ab_ n l x)]) (V:=LM) (λ_=>by kernel_rfl) λ⟨n,l,x⟩ hp=>by
 dsimp only[FE]at hp;dsimp only[LM,tn,aw,aB,aJ,aK,aG];simp only[bq,bx,eq_self,implies_true,bo];refineλd s hs=>⟨λh=>?_,λh=>?_⟩
 ·have b:=fh h;exact⟨by omega,λh=>(Cf (p:=λk=>x==l k) hs.2 h b).symm,λh=>⟨by rw[IntKind.wrap_i64];omega,eU ⟨⟨by omega,ir (p:=λk=>x==l k) hs.2 h⟩,by omega⟩⟩⟩
 ·have c:=fq h;obtain rfl:s=n:=by omega
  exact(v' (p:=λk=>x==l k) hs.2).symm
structure A4 where
 (n:Nat) (l:Nat->Int) (x:Int)
def EE:Sy.Spec:=⟨A4,λ⟨n,l,x⟩=> [.sl true 1 n (λb _=> .v (.int .i64 (l b))),.v (.int .i64 x)],λ_=> [],λ⟨n,_,_⟩=>n<=100000,λ⟨n,l,x⟩=> .v (.bool (cK n l x)),λ_=> [],
 λargs mem=>match args with| [a0,a1]=>some ⟨bT a0,λi=>av (bO a0 i 0),av (a1)⟩|_=>none⟩
def TA:aZ:=⟨[],(EE).g,none⟩
def Jv:A4->Prop:=λ⟨n,l,x⟩=>(((n=n/\(∀a0:Nat,a0<n->True/\l a0=l a0))/\x=x/\True)/\True/\FE.match_1 (λb0:BO=>Prop) (BO.mk n l x) (λc0:Nat=>λd0:∀e0:Nat,Int=>λb:Int=>c0<=100000))/\decide (0<=fE n (λh0:Nat=>x==l h0))=cK n l x/\True
theorem Tg:aY Tryz.prog bk 116 TA:=bn (.cons U5 .nil) false Tryz.call116 Tryz.func116 (λ_=> []) (V:=Jv) (λ_=>by kernel_rfl) λ⟨n,l,x⟩ hp=>by
 dsimp only[EE]at hp;dsimp only[Jv,tn,aw,aB,aJ,aK,aG];simp only[bq,bx,eq_self,implies_true,bo];refine⟨hp,?_⟩;cases b:cK n l x with
 |false=>rw[v' (p:=λk=>x==l k) λj c=>by have:=lr.1 b j c;rw[Ho];exact this];rfl
 |true=>obtain⟨i,d,h⟩:=ly.1 b;have:=qC (p:=λk=>x==l k) d (by rw[Ho];exact h);unfold fE;rw[gY this];exact decide_eq_true (pF _)
structure wG where
 (t c p:Int) (W:Wd)
def Ck:Sy.Spec:=⟨wG,λ⟨t,c,p,W⟩=> [.v (.int .i64 t),.v (.int .i64 c),.v (.int .i64 p),.pt true 1 (λ_=>dN W)],λ_=> [],λ⟨_,_,_,W⟩=>bQ W,λ⟨t,c,p,W⟩=> .v (.bool (eS W t c p)),λ_=> [],
 λargs mem=>match args with| [a0,a1,b,a3]=>some ⟨av (a0),av (a1),av (b),dJ (bN a3 0)⟩|_=>none⟩
def X7:aZ:=⟨[],(Ck).g,none⟩
def NG:wG->Prop:=λ⟨t,c,p,W⟩=>let a0:=cond (decide (0<=t)) (decide (t<((W.ak:Nat):Int))) false;let b0:=cond a0 (W.kinds (Int.toNat t)==6) false;let c0:=0<=t/\t<((W.aO:Nat):Int);let d0:=W.tasks (Int.toNat t);let e0:=cond b0 (d0.st==1) false;let b:=cond e0 (d0.core==c) false;(a0=true->0<=t/\t<((W.ak:Nat):Int))/\(b0=true->c0)/\(e0=true->c0)/\(decide (p<0)=false->b=true->c0)/\cond b (cond (decide (p<0)) true (d0.prio==p)) false=eS W t c p/\True
theorem LF:aY Tryz.prog bk 119 X7:=bn .nil false Tryz.call119 Tryz.func119 (λ_=> []) (V:=NG) (λ_=>by kernel_rfl) λ⟨t,c,p,W⟩ hp=>by
 dsimp only[Ck]at hp;dsimp only[NG,tn,aw,aB,aJ,aK,aG];simp only[bq,bx,eq_self,implies_true,bo];have b:=hp.tasks;refine⟨λh=>?_,λh=>?_,λh=>?_,λ_ h=>?_,by rw[Gu (k:=6) (by decide)];rfl⟩
 all_goals simp only[aW,decide_eq_true_eq]at h
 all_goals omega
structure LN where
 (i x:Int)
def Wl:Sy.Spec:=⟨LN,λ⟨i,x⟩=> [.v (.int .i64 i),.v (.int .i64 x)],λ_=> [],λ_=>True,λ⟨_,x⟩=> .v (.bool (az x 65535)),λ_=> [],
 λargs mem=>match args with| [a0,a1]=>some ⟨av (a0),av (a1)⟩|_=>none⟩
def Wm:aZ:=⟨[],(Wl).g,none⟩
def LO:LN->Prop:=λ⟨_,x⟩=>((x=x/\(65535:Int)=65535/\True)/\True/\True)/\az x 65535=az x 65535/\True
theorem US:aY Tryz.prog bk 103 Wm:=bn (.cons wF .nil) false Tryz.call103 Tryz.func103 (λ_=> []) (V:=LO) (λ_=>by kernel_rfl) λ⟨i,x⟩ hp=>by dsimp only[LO,tn,aw,aB,aJ,aK,aG];simp only[bq,bx,eq_self,implies_true,bo]
structure LP where
 (i x:Int)
def Wn:Sy.Spec:=⟨LP,λ⟨i,x⟩=> [.v (.int .i64 i),.v (.int .i64 x)],λ_=> [],λ_=>True,λ⟨_,x⟩=> .v (.bool (az x 8||x==1)),λ_=> [],
 λargs mem=>match args with| [a0,a1]=>some ⟨av (a0),av (a1)⟩|_=>none⟩
def Wo:aZ:=⟨[],(Wn).g,none⟩
def LQ:LP->Prop:=λ⟨_,x⟩=>((x=x/\(8:Int)=8/\True)/\True/\True)/\cond (az x 8) true (x==1)=(az x 8||x==1)/\True
theorem UT:aY Tryz.prog bk 104 Wo:=bn (.cons wF .nil) false Tryz.call104 Tryz.func104 (λ_=> []) (V:=LQ) (λ_=>by kernel_rfl) λ⟨i,x⟩ hp=>by dsimp only[LQ,tn,aw,aB,aJ,aK,aG];simp only[bq,bx,eq_self,implies_true,bo]
structure LR where
 (i x:Int)
def Wp:Sy.Spec:=⟨LR,λ⟨i,x⟩=> [.v (.int .i64 i),.v (.int .i64 x)],λ_=> [],λ_=>True,λ⟨_,x⟩=> .v (.bool (az x 3)),λ_=> [],
 λargs mem=>match args with| [a0,a1]=>some ⟨av (a0),av (a1)⟩|_=>none⟩
def Wq:aZ:=⟨[],(Wp).g,none⟩
def LS:LR->Prop:=λ⟨_,x⟩=>((x=x/\(3:Int)=3/\True)/\True/\True)/\az x 3=az x 3/\True
theorem UU:aY Tryz.prog bk 105 Wq:=bn (.cons wF .nil) false Tryz.call105 Tryz.func105 (λ_=> []) (V:=LS) (λ_=>by kernel_rfl) λ⟨i,x⟩ hp=>by dsimp only[LS,tn,aw,aB,aJ,aK,aG];simp only[bq,bx,eq_self,implies_true,bo]
def ab7 (W:Wd) (i:Nat):cQ where
 σ:=Nat
 rt:= []
 sh k:= [(108,.v (.int .i64 k)),(7,.v (.int .i64 (cN W i k)))]
 mh _:= []
 inv k:=k<=W.ao/\∀j,j<=k->dD W (cN W i j)=true
 μ k:=W.ao -k
 init:=0
def ab6 (W:Wd) (n:Nat) (l:Nat->dG):cQ where
 σ:=Nat
 rt:= []
 sh i:= [(15,.v (.int .i64 i))]
 mh _:= []
 inv i:=i<=n/\∀j,j<i->lp W l j=true
 μ i:=n -i
 init:=0
def ab8 (W:Wd) (f:Nat):cQ where
 σ:=Nat
 rt:= []
 sh i:= [(95,.v (.int .i64 i))]
 mh _:= []
 inv i:=i<=W.ah f/\∀j,j<i->j8 W f (W.lines f j)=true
 μ i:=W.ah f -i
 init:=0
def ab9 (W:Wd) (n:Nat) (l:Nat->Int) (i:Int):cQ where
 σ:=Nat
 rt:= []
 sh k:= [(8,.v (.int .i64 k))]
 mh _:= []
 inv k:=k<=n/\∀j,j<k->(!eS W (l j) (i/4) (i%4))=false
 μ k:=n -k
 init:=0
theorem eqN {b:Bool} (h:b=true->False):true=!b:=by cases b<;>simp_all
theorem Io {W:Wd} {f k:Int} (b:k≠ -1):(decide (f<0)||decide ((W.ak:Int)<=f)||W.kinds f.toNat !=k)=!(bK W f==k):=by rw[<-Gu b,show decide (f<0)=!decide (0<=f) by rw[<-decide_not];exact decide_eq_decide.2 (by omega),show decide ((W.ak:Int)<=f)=!decide (f<(W.ak:Int)) by rw[<-decide_not];exact decide_eq_decide.2 (by omega)];simp only[bne,zo]
theorem Rp {W:Wd} {f k:Int} (c:0<=f) (b:k≠ -1):(decide ((W.ak:Int)<=f)||W.kinds f.toNat !=k)=!(bK W f==k):=by rw[<-Io b,show decide (f<0)=false from decide_eq_false (by omega)];rfl
theorem We {s:bM} (h:(s.kind==0)=true):(s.kind==0&&(s.base==0&&(s.len==0&&(s.mark==0&&(s.cd==0&&(s.aH==0&&true))))))=(eA s==0):=by unfold eA dP;rw[eq_of_beq h];simp only[bne];cases s.base==0<;>cases s.len==0<;>cases s.mark==0<;>cases s.cd==0<;>cases s.aH==0<;>rfl
theorem Lz {W:Wd} {u:Int}:∀k,cN W (hN W u) k=cN W u (k+1)
 |0=>rfl
 |k+1=>by show hN W (cN W (hN W u) k)=_;rw[Lz k];rfl
def sN (W:Wd) (u:Int) (k:Nat):Nat:=bif dD W (cN W u k)then(cN W u k).toNat else W.ao
theorem X1 {W:Wd} {u:Int} (h:∀j,j<=W.ao->dD W (cN W u j)=true):∀j,dD W (cN W u j)=true:=by
 have key:∀k,sN W u k<W.ao↔dD W (cN W u k)=true:=λk=>by
  unfold sN;cases d:dD W (cN W u k)with
  |true=>have:=j5.1 d;simp only[cond_true,iff_true];omega
  |false=>simp
 have:=VY W.ao (λv=>bif dD W (hN W (v:Int))then(hN W (v:Int)).toNat else W.ao) (sN W u) (λk c=>by
  have b:=(key k).1 c;have h2:=j5.1 b;have e:((sN W u k:Nat):Int)=cN W u k:=by unfold sN;rw[b];simp only[cond_true];omega
  show sN W u (k+1)=bif dD W (hN W ((sN W u k:Nat):Int))then(hN W ((sN W u k:Nat):Int)).toNat else W.ao;rw[e];rfl) (λk c=>(key k).2 (h k c))
 exactλj=>(key j).1 (this j)
theorem Gi {S:bM} (h0:eA S=0) (b:S.kind≠0):1<=S.len:=by
 have h0:dP S.kind S.base S.len S.mark S.cd S.aH=0:=h0;unfold dP pB pC az at h0;simp only[cond_eq_ite,bne,cM,aW,dT,decide_eq_true_eq,beq_iff_eq,beq_eq_false_iff_ne]at h0
 repeat' split at h0
 all_goals first|(cases h0;done)|omega
structure Nw where
 (i:Int) (W:Wd)
def Nx:Sy.Spec:=⟨Nw,λ⟨i,W⟩=> [.v (.int .i64 i),.ag 7 (aN (mU (W.aa i.toNat))),.pt true 1 (λ_=>dN W)],λ_=> [],λ⟨i,W⟩=>bQ W/\0<=i/\i<W.ao,λ⟨i,W⟩=> .v (.bool (!eR W i.toNat)),λ_=> [],
 λargs mem=>match args with| [a0,a1,b]=>some ⟨av (a0),dJ (bN b 0)⟩|_=>none⟩
def X2:aZ:=⟨[],(Nx).g,none⟩
def Ny:Nw->Prop:=λ⟨i,W⟩=>let a0:=W.aa (Int.toNat i);let b0:=a0.kind;let c0:=b0==0;let d0:=a0.base;let e0:=a0.len;let g:=a0.mark;let h0:=a0.cd;let k0:=a0.aH;let b:=a0.from_;let o0:=!eR W (Int.toNat i);let e:Int:=i/16;let r0:=((W.ak:Nat):Int);let k:=W.kinds (Int.toNat e) !=5;let v0:=(((((True/\b0=b0)/\d0=d0)/\e0=e0)/\g=g)/\h0=h0)/\k0=k0;let w0:=dP b0 d0 e0 g h0 k0;let l:=cond k true (w0 !=0);let h:Int:=d0+e0;let z0:=b0 !=1;let a1:=cond l true (decide (r0<h));let b1:=cond a1 true (cond z0 (W.kinds (Int.toNat d0) !=b0) false);let c1:=true=o0/\True;let d1:=b==(-1);let n:=false=o0/\True;let c:=W.ao;let h1:=(c:Int);let k1:=cond (decide (b<0)) true (decide (h1<=b));let o:=k1=false;let o1:=W.aa (Int.toNat b);let p:=o1.kind;let r1:=o1.base;let q:=o1.len;let v1:=o1.mark;let w1:=o1.cd;let r:=o1.aH;let t:=cond k1 true (!dU {a0 with from_:=0} {o1 with from_:=0});let d:=((Int.toNat i:Nat):Int);tn 2 (tn 5 True/\(c0=true->cond (!(c0&&(d0==0&&(e0==0&&(g==0&&(h0==0&&(k0==0&&true))))))) true (b !=(-1))=o0/\True)/\(c0=false->tn 6 ((0<=i/\(0:Int)<16/\aw e=e)/\(0<=e/\e<r0)/\tn 4 ((k=false->(v0/\True)/\True/\True)/\tn 7 ((l=false->aw h=h)/\tn 20 ((z0=true->a1=false->0<=d0/\d0<r0)/\tn 3 ((b1=true->c1)/\(b1=false->(d1=true->n)/\(d1=false->tn 23 ((o->0<=b/\b<h1)/\tn 2 ((o->(v0/\((((((True/\p=p)/\r1=r1)/\q=q)/\v1=v1)/\w1=w1)/\r=r)/\True)/\True/\w0=0)/\(t=true->c1)/\(t=false->h1<=9223372036854775807->0=((0:Nat):Int)/\i=cN W d 0/\True/\(0<=c/\(∀u:Nat,u<=0->dD W (cN W d u)=true))/\(∀b2:Nat,
 let v:=decide ((b2:Int)<h1);let d2:=cN W d b2;let j:=(W.aa (Int.toNat d2)).from_;let g2:=cond (decide (j<0)) true (decide (h1<=j));let h2:Int:=(b2:Int)+1;b2<=c/\(∀k2:Nat,k2<=b2->dD W (cN W d k2)=true)->(v=true->(0<=d2/\d2<h1)/\(g2=true->n)/\(g2=false->aw h2=h2/\(∃l2:Nat,h2=(l2:Int)/\j=cN W d l2/\True/\(l2<=c/\(∀x:Nat,x<=l2->dD W (cN W d x)=true))/\c-l2<c-b2)))/\(v=false->c1))))))))))))))
theorem V':aY Tryz.prog bk 107 X2:=bn (.cons Jh (.cons Wf .nil)) false Tryz.call107 Tryz.func107 (λ⟨i,W⟩=> [.inv (ab7 W i.toNat)]) (V:=Ny) (λ_=>by kernel_rfl) λ⟨i,W⟩ hp=>by
 dsimp only[Nx]at hp;dsimp only[Ny,tn,aw,aB,aJ,aK,aG];obtain⟨d,i0,i1⟩:=hp;obtain⟨I,rfl⟩:∃I:Nat,i=I:=⟨i.toNat,by omega⟩;simp only[bq,bx,eq_self,implies_true,bo];have e:((I:Int)/16).toNat=I/16:=by omega
 rw[e,show eR W I=ki W I (W.aa I)from rfl];simp only[T4];have B:=d.aa;have C:=d.k1;have E:=d.k0;have t:dD W (I:Int)=true:=j5.2 ⟨by omega,by omega⟩;have c:hN W (I:Int)=(W.aa I).from_:=by rw[CR t,cj]
 obtain⟨S,G⟩:∃S,S=W.aa I:=⟨_,rfl⟩;simp only[<-G]at c⊢;refine⟨λh=>?_,λh=>⟨⟨by decide,by rw[IntKind.wrap_i64];omega⟩,by omega,λh1=>?_,λh1 h2=>?_,λh1=>?_,λh1=>?_⟩⟩
 ·rw[We h];unfold ki;rw[h];cases eA S==0<;>cases J:S.from_== -1<;>simp[bne,J]
 ·simp only[bX,bne_eq_false_iff_eq]at h1;have:=iY h1.2;rw[IntKind.wrap_i64];omega
 ·simp only[bX,bne_eq_false_iff_eq,decide_eq_false_iff_not]at h2;have:=iY h2.1.2;have hlen:=Gi h2.1.2 (by simpa using h);omega
 ·refine eqN λv=>?_;rw[FC h]at v;simp only[aW,cM,beq_iff_eq,decide_eq_true_eq,bne_iff_ne,ne_eq]at v h1;omega
 rw[bX]at h1;obtain⟨h1,h2⟩:=h1;have T:W.kinds (I/16)=5/\eA S=0/\S.base+S.len<=W.ak:=by simp only[bX,bne_eq_false_iff_eq,decide_eq_false_iff_not]at h1;exact⟨h1.1.1,h1.1.2,by omega⟩
 obtain⟨K,x,O⟩:=T;have R:(S.kind==1||W.kinds S.base.toNat==S.kind)=true:=by
  revert h2
  simp only[bne];cases S.kind==1<;>cases W.kinds S.base.toNat==S.kind<;>simp
 have core:ki W I S=(S.from_== -1||(dD W S.from_&&dU S (W.aa S.from_.toNat)&&!dD W (cN W S.from_ W.ao))):=by rw[FC h,R,show(W.kinds (I/16)==5)=true from beq_iff_eq.2 K,show(eA S==0)=true from beq_iff_eq.2 x,show decide (S.base+S.len<=W.ak)=true from decide_eq_true O];simp
 rw[core];refine⟨λg=>by rw[g];rfl,λg=>?_⟩;rw[g,Rq];obtain⟨p,hp⟩:∃p,p=W.aa S.from_.toNat:=⟨_,rfl⟩;simp only[<-hp];rw[show dU ⟨S.kind,S.base,S.len,S.mark,S.cd,S.aH,0⟩ ⟨p.kind,p.base,p.len,p.mark,p.cd,p.aH,0⟩=dU S p from rfl];refine⟨λb=>?_,λ_=>x,λb=>?_,λb _=>?_⟩
 ·exact j5.1 (hC b)
 ·revert b;cases dD W S.from_<;>cases dU S p<;>simp
 have l:dD W S.from_=true:=by revert b;cases dD W S.from_<;>simp
 have n:dU S p=true:=by revert b;cases dU S p<;>simp
 rw[l,n];have U:∀k,cN W S.from_ k=cN W (I:Int) (k+1):=λk=>by rw[<-c];exact Lz k
 rw[U];refine⟨rfl,λj y=>?_,λs hs=>⟨λo=>?_,λo=>?_⟩⟩
 ·obtain rfl:j=0:=by omega
  exact t
 ·have X:=fh o;have z:=hs.2 s (bc _);have q:(W.aa (cN W (I:Int) s).toNat).from_=cN W (I:Int) (s+1):=(CR z).symm;simp only[q,Rq];refine⟨j5.1 z,λr=>?_,λr=>⟨by rw[IntKind.wrap_i64];omega,eU ⟨rfl,⟨by omega,λj y=>?_⟩,by omega⟩⟩⟩
  ·have A:=tR r;rw[M6 A (show s+1<=W.ao+1 by omega),A];rfl
  ·rcases bR j (s+1)with Y|Y
   ·exact hs.2 j (by omega)
   ·obtain rfl:j=s+1:=by omega
    exact hC r
 ·have Z:=fq o;rw[X1 (u:=(I:Int)) (λj y=>hs.2 j (by omega)) (W.ao+1)];rfl
structure LA where
 (i:Int) (W:Wd)
def LB:Sy.Spec:=⟨LA,λ⟨i,W⟩=> [.v (.int .i64 i),.sl true 1 (W.ah i.toNat) (iF (W.lines i.toNat)),.pt true 1 (λ_=>dN W)],λ_=> [],λ⟨i,W⟩=>bQ W/\m8 W/\0<=i/\i<W.ak,λ⟨i,W⟩=> .v (.bool (!fg W i.toNat)),λ_=> [],
 λargs mem=>match args with| [a0,a1,b]=>some ⟨av (a0),dJ (bN b 0)⟩|_=>none⟩
def Wg:aZ:=⟨[],(LB).g,none⟩
def LC:LA->Prop:=λ⟨i,W⟩=>let a0:=((W.ak:Nat):Int);let b0:=0<=i/\i<a0;let c0:=Int.toNat i;let d0:=W.kinds c0;let e0:=d0 !=7;let d:=d0 !=8;let h0:=W.ah c0;let k0:=(h0:Int);let g:=decide (0<k0);let o0:=cond (cond e0 d false) g false;let h:=o0=false;let r0:=0<=i/\i<((W.aP:Nat):Int);let b:=W.bits c0;let v0:=b !=0;let w0:=cond o0 true (cond d v0 false);let j:=w0=false;let k:=cond w0 true (az b 65535);let z0:=k=false;let a1:=cond (d0==8) g false;let b1:=cond k true (cond a1 v0 false);let c1:=!fg W c0;let d1:=true=c1/\True;let l:=((W.aO:Nat):Int);let e:=W.lines c0 (Int.toNat 0);let h1:=(W.tasks (Int.toNat e)).st==4;b0/\(e0=true->b0)/\(h->b0)/\(d=true->h->r0)/\(j->r0)/\(j->(b=b/\(65535:Int)=65535/\True)/\True/\True)/\(z0->b0)/\(a1=true->z0->r0)/\(b1=true->d1)/\(b1=false->k0<=9223372036854775807->0=((0:Nat):Int)/\True/\(0<=h0/\(∀k1:Nat,k1<0->j8 W c0 (W.lines c0 k1)=true))/\(∀c:Nat,let o1:=(c:Int);let n:=decide (o1<k0);let r1:=W.lines c0 (Int.toNat o1);let o:=cond (decide (r1<0)) true (decide (a0<=r1));let v1:=0<=r1;let w1:=Int.toNat r1;let p:=cond o true (W.kinds w1 !=6);let q:=v1/\r1<l;let r:=W.tasks w1;let t:=cond p true (r.loc !=i);let b2:=t=false;let u:=cond t true ((r.st==4) !=h1);let d2:Int:=o1+1;c<=h0/\(∀v:Nat,v<c->j8 W c0 (W.lines c0 v)=true)->(n=true->(0<=o1/\o1<k0)/\tn 19 ((o=false->v1/\r1<a0)/\tn 10 ((p=false->q)/\tn 12 ((b2->q)/\tn 9 ((b2->(0:Int)<=0/\0<k0)/\True/\(b2->0<=e/\e<l)/\tn 3 ((u=true->d1)/\(u=false->aw d2=d2/\(∃g2:Nat,d2=(g2:Int)/\True/\(g2<=h0/\(∀h2:Nat,h2<g2->
 j8 W c0 (W.lines c0 h2)=true))/\h0-g2<h0-c))))))))/\(n=false->false=c1/\True)))
theorem UY:aY Tryz.prog bk 118 Wg:=bn (.cons wF .nil) false Tryz.call118 Tryz.func118 (λ⟨i,W⟩=> [.inv (ab8 W i.toNat)]) (V:=LC) (λ_=>by kernel_rfl) λ⟨i,W⟩ hp=>by
 dsimp only[LB]at hp;dsimp only[LC,tn,aw,aB,aJ,aK,aG];obtain⟨c,hm,x,y⟩:=hp;obtain⟨F,rfl⟩:∃F:Nat,i=F:=⟨i.toNat,by omega⟩;simp only[bq,bx,eq_self,implies_true,bo];have e:=c.tasks;have n:=c.k1;have o:=c.lines;have q:=c.bits;have z:=hm.1 F (by omega);rw[show decide ((0:Int)<(W.ah F:Int))=decide (0<W.ah F)from decide_eq_decide.2 (by omega)];have r:(W.kinds F !=7&&W.kinds F !=8&&decide (0<W.ah F)||W.kinds F !=8&&W.bits F !=0||az (W.bits F) 65535||W.kinds F==8&&decide (0<W.ah F)&&W.bits F !=0)=!(!(decide (0<W.ah F)&&W.kinds F !=7&&W.kinds F !=8)&&!(W.bits F !=0&&(W.kinds F !=8||decide (0<W.ah F)))&&!az (W.bits F) 65535):=by simp only[bne];cases W.kinds F==7<;>cases W.kinds F==8<;>cases decide (0<W.ah F)<;>cases W.bits F==0<;>cases az (W.bits F) 65535<;>rfl
 rw[r];refine⟨by omega,λ_=>by omega,λ_=>by omega,λ_ _=>by omega,λ_=>by omega,λ_=>by omega,λ_ _=>by omega,λh=>?_,λh _ s hs=>?_⟩
 ·unfold fg;rw[tR h];rfl
 have core:fg W F=fA (W.ah F) λi=>j8 W F (W.lines F i):=by unfold fg;rw[hC h];rfl
 rw[core];refine⟨λh1=>?_,λh1=>?_⟩
 ·have g:=fh h1;rw[Io (k:=6) (by decide)];have d:∀t,(bK W t==6)=true->0<=t/\t<W.aO:=λt h=>by rw[e];exact gv (by rw[eq_of_beq h];decide)
  have j:(bK W (W.lines F s)==6)=true->0<=W.lines F 0/\W.lines F 0<W.aO:=λu=>by
   rcases ja s with h|h
   ·subst h;exact d _ u
   ·have:=hs.2 0 h;unfold j8 at this;simp only[aW]at this;exact d _ this.1.1
  have l:j8 W F (W.lines F s)=!(!(bK W (W.lines F s)==6)||(W.tasks (W.lines F s).toNat).loc !=F||(((W.tasks (W.lines F s).toNat).st==4) !=((W.tasks (W.lines F 0).toNat).st==4))):=by unfold j8 jq;simp only[bne,zf,CV]
  have o1:∀{a b:Bool},(!a||b)=false->a=true:=λ{a b} h=>by revert h;cases a<;>cases b<;>simp
  refine⟨by omega,λh2=>?_,λh2=>d _ (hC h2),λh2=>d _ (o1 h2),λh2=>⟨by decide,by omega⟩,λh2=>j (o1 h2),λh2=>?_,λh2=>⟨by rw[IntKind.wrap_i64];omega,eU ⟨⟨by omega,Re hs.2 ?_⟩,by omega⟩⟩⟩
  ·simp only[bX,decide_eq_false_iff_not]at h2;omega
  ·rw[ER (p:=λi=>j8 W F (W.lines F i)) g (by show j8 W F (W.lines F s)=false;rw[l];exact congrArg (!·) h2)];rfl
  ·rw[l];exact congrArg (!·) h2
 ·have v:=fq h1;obtain rfl:s=W.ah F:=by omega
  rw[K_ hs.2];rfl
structure BN where
 (i x:Int) (W:Wd)
def FD:Sy.Spec:=⟨BN,λ⟨i,x,W⟩=> [.v (.int .i64 i),.v (.int .i64 x),.pt true 1 (λ_=> .fn 119 1 (aN [.pt true 1 (λ_=>dN W)]))],λ_=> [],λ⟨_,_,W⟩=>bQ W,λ⟨i,x,W⟩=> .v (.bool (x != -1&&!eS W x i (-1))),λ_=> [],
 λargs mem=>match args with| [a0,a1,b]=>some ⟨av (a0),av (a1),dJ (bN (dK (bN b 0) 0) 0)⟩|_=>none⟩
def Wh:aZ:=⟨[],(FD).g,none⟩
def LD:BN->Prop:=λ⟨i,x,W⟩=>let a0:=W.ak;let b0:=W.ao;let c0:=W.aO;let d0:=W.aX;let e0:=W.aC;let c:=W.aR;let h0:=!eS W x i (-1);((x !=(-1))=true->(x=x/\i=i/\((-1):Int)=(-1)/\(True/\((((((((((True/\W.ay=W.ay/\(∀k0:Nat,k0<W.ay->True/\W.af k0=W.af k0))/\a0=a0/\(∀d:Nat,d<a0->True/\W.kinds d=W.kinds d))/\b0=b0/\(∀o0:Nat,o0<b0->aK (W.aa o0) (W.aa o0)))/\c0=c0/\(∀e:Nat,e<c0->aJ (W.tasks e) (W.tasks e)))/\d0=d0/\(∀r0:Nat,let g:=W.ah r0;r0<d0->True/\g=g/\(∀v0:Nat,v0<g->True/\W.lines r0 v0=W.lines r0 v0)))/\W.aP=W.aP/\(∀w0:Nat,w0<W.aP->True/\W.bits w0=W.bits w0))/\e0=e0/\(∀h:Nat,h<e0->True/\W.ai h=W.ai h))/\c=c/\(∀b:Nat,let z0:=W.al b;b<c->True/\z0=z0/\(∀a1:Nat,a1<z0->True/\W.ready b a1=W.ready b a1)))/\W.aQ=W.aQ/\(∀b1:Nat,let c1:=W.aD b1;b1<W.aQ->True/\c1=c1/\(∀d1:Nat,d1<c1->aG (W.ax b1 d1) (W.ax b1 d1))))/\W.aL=W.aL/\(∀j:Nat,j<W.aL->True/\W.aA j=W.aA j))/\W.time=W.time)/\True)/\True/\Ck.match_1 (λk:wG=>Prop) (wG.mk x i (-1) W) (λh1:Int=>λk1:Int=>λl:Int=>λo1:Wd=>bQ o1))/\cond (x !=(-1)) h0 false=(x !=(-1)&&h0)/\True
theorem UW:aY Tryz.prog bk 120 Wh:=bn (.cons LF .nil) false Tryz.call120 Tryz.func120 (λ_=> []) (V:=LD) (λ_=>by kernel_rfl) λ⟨i,x,W⟩ hp=>by dsimp only[FD]at hp;dsimp only[LD,tn,aw,aB,aJ,aK,aG];simp only[bq,bx,eq_self,implies_true,bo];exactλ_=>hp
structure Kx where
 (t:Int) (W:Wd) (i:Int)
def Ky:Sy.Spec:=⟨Kx,λ⟨t,W,i⟩=> [.v (.int .i64 t),.pt true 1 (λ_=> .fn 119 1 (aN [.pt true 1 (λ_=>dN W)])),.pt true 1 (λ_=> .v (.int .i64 i))],λ_=> [],λ⟨_,W,i⟩=>bQ W/\0<=i/\i<=100000,λ⟨t,W,i⟩=> .v (.bool (!eS W t (i/4) (i%4))),λ_=> [],
 λargs mem=>match args with| [a0,a1,b]=>some ⟨av (a0),dJ (bN (dK (bN a1 0) 0) 0),av (bN b 0)⟩|_=>none⟩
def U4:aZ:=⟨[],(Ky).g,none⟩
def Kz:Kx->Prop:=λ⟨t,W,i⟩=>let a0:Int:=i/4;let b0:Int:=i%4;let c0:=W.ak;let d0:=W.ao;let e0:=W.aO;let b:=W.aX;let h0:=W.aC;let k0:=W.aR;let k:=!eS W t a0 b0;(0<=i/\(0:Int)<4/\aw a0=a0)/\(0<=i/\(0:Int)<4)/\((t=t/\a0=a0/\b0=b0/\(True/\((((((((((True/\W.ay=W.ay/\(∀o0:Nat,o0<W.ay->True/\W.af o0=W.af o0))/\c0=c0/\(∀c:Nat,c<c0->True/\W.kinds c=W.kinds c))/\d0=d0/\(∀r0:Nat,r0<d0->aK (W.aa r0) (W.aa r0)))/\e0=e0/\(∀d:Nat,d<e0->aJ (W.tasks d) (W.tasks d)))/\b=b/\(∀v0:Nat,let w0:=W.ah v0;v0<b->True/\w0=w0/\(∀e:Nat,e<w0->True/\W.lines v0 e=W.lines v0 e)))/\W.aP=W.aP/\(∀g:Nat,g<W.aP->True/\W.bits g=W.bits g))/\h0=h0/\(∀z0:Nat,z0<h0->True/\W.ai z0=W.ai z0))/\k0=k0/\(∀a1:Nat,let b1:=W.al a1;a1<k0->True/\b1=b1/\(∀c1:Nat,c1<b1->True/\W.ready a1 c1=W.ready a1 c1)))/\W.aQ=W.aQ/\(∀d1:Nat,let h:=W.aD d1;d1<W.aQ->True/\h=h/\(∀j:Nat,j<h->aG (W.ax d1 j) (W.ax d1 j))))/\W.aL=W.aL/\(∀h1:Nat,h1<W.aL->True/\W.aA h1=W.aA h1))/\W.time=W.time)/\True)/\True/\Ck.match_1 (λk1:wG=>Prop) (wG.mk t a0 b0 W) (λl:Int=>λo1:Int=>λn:Int=>λr1:Wd=>bQ r1))/\k=k/\True
theorem T5:aY Tryz.prog bk 123 U4:=bn (.cons LF .nil) false Tryz.call123 Tryz.func123 (λ_=> []) (V:=Kz) (λ_=>by kernel_rfl) λ⟨t,W,i⟩ hp=>by dsimp only[Ky]at hp;dsimp only[Kz,tn,aw,aB,aJ,aK,aG];simp only[bq,bx,eq_self,implies_true,bo];exact⟨⟨hp.2.1,by decide,by rw[IntKind.wrap_i64];omega⟩,⟨hp.2.1,by decide⟩,hp.1⟩
structure Px where
 (n:Nat) (l:Nat->Int) (W:Wd) (i:Int)
def Py:Sy.Spec:=⟨Px,λ⟨n,l,W,i⟩=> [.sl true 1 n (λb _=> .v (.int .i64 (l b))),.fn 123 2 (aN [.pt true 1 (λ_=> .fn 119 1 (aN [.pt true 1 (λ_=>dN W)])),.pt true 1 (λ_=> .v (.int .i64 i))])],λ_=> [],λ⟨n,_,W,i⟩=>bQ W/\0<=i/\i<=100000/\n<=100000,λ⟨n,l,W,i⟩=> .v (.int .i64 (fE n λk=>!eS W (l k) (i/4) (i%4))),λ_=> [],
 λargs mem=>match args with| [a0,a1]=>some ⟨bT a0,λi=>av (bO a0 i 0),dJ (bN (dK (bN (dK a1 0) 0) 0) 0),av (bN (dK a1 1) 0)⟩|_=>none⟩
def ZE:aZ:=⟨[],(Py).g,none⟩
def Pz:Px->Prop:=λ⟨n,l,W,i⟩=>let a0:=(n:Int);let b0:Int:=i/4;let c0:Int:=i%4;let d0:=W.ak;let e0:=W.ao;let g:=W.aO;let h0:=W.aX;let k0:=W.aC;let h:=W.aR;let o0:=fE n (λv:Nat=>!eS W (l v) b0 c0);a0<=9223372036854775807->0=((0:Nat):Int)/\True/\(0<=n/\(∀r0:Nat,r0<0->(!eS W (l r0) b0 c0)=false))/\(∀b:Nat,let v0:=(b:Int);let w0:=decide (v0<a0);let j:Int:=l (Int.toNat v0);let t:=!eS W j b0 c0;let z0:Int:=v0+1;b<=n/\(∀a1:Nat,a1<b->(!eS W (l a1) b0 c0)=false)->(w0=true->(0<=v0/\v0<a0)/\((j=j/\tn 3 (((((((((((True/\W.ay=W.ay/\(∀b1:Nat,b1<W.ay->True/\W.af b1=W.af b1))/\d0=d0/\(∀c1:Nat,c1<d0->True/\W.kinds c1=W.kinds c1))/\e0=e0/\(∀d1:Nat,d1<e0->aK (W.aa d1) (W.aa d1)))/\g=g/\(∀k:Nat,k<g->aJ (W.tasks k) (W.tasks k)))/\h0=h0/\(∀c:Nat,let h1:=W.ah c;c<h0->True/\h1=h1/\(∀k1:Nat,k1<h1->True/\W.lines c k1=W.lines c k1)))/\W.aP=W.aP/\(∀o:Nat,o<W.aP->True/\W.bits o=W.bits o))/\k0=k0/\(∀o1:Nat,o1<k0->True/\W.ai o1=W.ai o1))/\h=h/\(∀d:Nat,let r1:=W.al d;d<h->True/\r1=r1/\(∀p:Nat,p<r1->True/\W.ready d p=W.ready d p)))/\W.aQ=W.aQ/\(∀v1:Nat,let w1:=W.aD v1;v1<W.aQ->True/\w1=w1/\(∀q:Nat,q<w1->aG (W.ax v1 q) (W.ax v1 q))))/\W.aL=W.aL/\(∀r:Nat,r<W.aL->True/\W.aA r=W.aA r))/\W.time=W.time)/\(True/\i=i)/\True)/\True/\bQ W/\0<=i/\i<=100000)/\(t=true->v0=o0/\True)/\(t=false->aw z0=z0/\(∃e:Nat,z0=(e:Int)/\True/\(e<=n/\(∀u:Nat,u<e->(!eS W (l u) b0 c0)=false))/\n-e<n-b)))/\(w0=false->(-1)=o0/\True))
theorem X3:aY Tryz.prog bk 85 ZE:=bn (.cons T5 .nil) false Tryz.call85 Tryz.func85 (λ⟨n,l,W,i⟩=> [.inv (ab9 W n l i)]) (V:=Pz) (λ_=>by kernel_rfl) λ⟨n,l,W,i⟩ hp=>by
 dsimp only[Py]at hp;dsimp only[Pz,tn,aw,aB,aJ,aK,aG];simp only[bq,bx,eq_self,implies_true,bo];refineλd s hs=>⟨λh=>?_,λh=>?_⟩
 ·have b:=fh h;exact⟨by omega,⟨hp.1,hp.2.1,hp.2.2.1⟩,λh=>(Cf (p:=λk=>!eS W (l k) (i/4) (i%4)) hs.2 h b).symm,λh=>⟨by rw[IntKind.wrap_i64];omega,eU ⟨⟨by omega,ir (p:=λk=>!eS W (l k) (i/4) (i%4)) hs.2 h⟩,by omega⟩⟩⟩
 ·have c:=fq h;obtain rfl:s=n:=by omega
  exact(v' (p:=λk=>!eS W (l k) (i/4) (i%4)) hs.2).symm
structure PA where
 (n:Nat) (l:Nat->Int) (W:Wd) (i:Int)
def PB:Sy.Spec:=⟨PA,λ⟨n,l,W,i⟩=> [.sl true 1 n (λb _=> .v (.int .i64 (l b))),.fn 123 2 (aN [.pt true 1 (λ_=> .fn 119 1 (aN [.pt true 1 (λ_=>dN W)])),.pt true 1 (λ_=> .v (.int .i64 i))])],λ_=> [],λ⟨n,_,W,i⟩=>bQ W/\0<=i/\i<=100000/\n<=100000,λ⟨n,l,W,i⟩=> .v (.bool (da n λk=>!eS W (l k) (i/4) (i%4))),λ_=> [],
 λargs mem=>match args with| [a0,a1]=>some ⟨bT a0,λi=>av (bO a0 i 0),dJ (bN (dK (bN (dK a1 0) 0) 0) 0),av (bN (dK a1 1) 0)⟩|_=>none⟩
def ZF:aZ:=⟨[],(PB).g,none⟩
def PC:PA->Prop:=λ⟨n,l,W,i⟩=>let a0:=W.ak;let b0:=W.ao;let c0:=W.aO;let d0:=W.aX;let e0:=W.aC;let c:=W.aR;(((n=n/\(∀h0:Nat,h0<n->True/\l h0=l h0))/\(tn 4 (((((((((((True/\W.ay=W.ay/\(∀k0:Nat,k0<W.ay->True/\W.af k0=W.af k0))/\a0=a0/\(∀d:Nat,d<a0->True/\W.kinds d=W.kinds d))/\b0=b0/\(∀o0:Nat,o0<b0->aK (W.aa o0) (W.aa o0)))/\c0=c0/\(∀e:Nat,e<c0->aJ (W.tasks e) (W.tasks e)))/\d0=d0/\(∀r0:Nat,let g:=W.ah r0;r0<d0->True/\g=g/\(∀v0:Nat,v0<g->True/\W.lines r0 v0=W.lines r0 v0)))/\W.aP=W.aP/\(∀w0:Nat,w0<W.aP->True/\W.bits w0=W.bits w0))/\e0=e0/\(∀h:Nat,h<e0->True/\W.ai h=W.ai h))/\c=c/\(∀b:Nat,let z0:=W.al b;b<c->True/\z0=z0/\(∀a1:Nat,a1<z0->True/\W.ready b a1=W.ready b a1)))/\W.aQ=W.aQ/\(∀b1:Nat,let c1:=W.aD b1;b1<W.aQ->True/\c1=c1/\(∀d1:Nat,d1<c1->aG (W.ax b1 d1) (W.ax b1 d1))))/\W.aL=W.aL/\(∀j:Nat,j<W.aL->True/\W.aA j=W.aA j))/\W.time=W.time)/\True/\i=i)/\True)/\True/\bQ W/\0<=i/\i<=100000/\n<=100000)/\decide (0<=fE n (λk:Nat=>!eS W (l k) (i/4) (i%4)))=da n (λh1:Nat=>!eS W (l h1) (i/4) (i%4))/\True
theorem X4:aY Tryz.prog bk 122 ZF:=bn (.cons X3 .nil) false Tryz.call122 Tryz.func122 (λ_=> []) (V:=PC) (λ_=>by kernel_rfl) λ⟨n,l,W,i⟩ hp=>by
 dsimp only[PB]at hp;dsimp only[PC,tn,aw,aB,aJ,aK,aG];simp only[bq,bx,eq_self,implies_true,bo];refine⟨hp,?_⟩;cases b:da n λk=>!eS W (l k) (i/4) (i%4)with
 |false=>rw[v' (lr.1 b)];rfl
 |true=>obtain⟨j,c,h⟩:=ly.1 b;have:=qC (p:=λk=>!eS W (l k) (i/4) (i%4)) c h;unfold fE;rw[gY this];exact decide_eq_true (pF _)
structure LG where
 (i:Int) (W:Wd)
def LH:Sy.Spec:=⟨LG,λ⟨i,W⟩=> [.v (.int .i64 i),.sl true 1 (W.al i.toNat) (iF (W.ready i.toNat)),.pt true 1 (λ_=> .fn 119 1 (aN [.pt true 1 (λ_=>dN W)]))],λ_=> [],λ⟨i,W⟩=>bQ W/\m8 W/\0<=i/\i<W.aR,λ⟨i,W⟩=> .v (.bool (!gn W i.toNat)),λ_=> [],
 λargs mem=>match args with| [a0,a1,b]=>some ⟨av (a0),dJ (bN (dK (bN b 0) 0) 0)⟩|_=>none⟩
def Wi:aZ:=⟨[],(LH).g,none⟩
def LI:LG->Prop:=λ⟨i,W⟩=>let a0:=Int.toNat i;let b0:=W.al a0;let c0:=W.ak;let d0:=W.ao;let e0:=W.aO;let b:=W.aX;let h0:=W.aC;let k0:=W.aR;True/\(((b0=b0/\(∀c:Nat,c<b0->True/\W.ready a0 c=W.ready a0 c))/\(tn 4 (((((((((((True/\W.ay=W.ay/\(∀o0:Nat,o0<W.ay->True/\W.af o0=W.af o0))/\c0=c0/\(∀d:Nat,d<c0->True/\W.kinds d=W.kinds d))/\d0=d0/\(∀r0:Nat,r0<d0->aK (W.aa r0) (W.aa r0)))/\e0=e0/\(∀e:Nat,e<e0->aJ (W.tasks e) (W.tasks e)))/\b=b/\(∀v0:Nat,let w0:=W.ah v0;v0<b->True/\w0=w0/\(∀g:Nat,g<w0->True/\W.lines v0 g=W.lines v0 g)))/\W.aP=W.aP/\(∀h:Nat,h<W.aP->True/\W.bits h=W.bits h))/\h0=h0/\(∀z0:Nat,z0<h0->True/\W.ai z0=W.ai z0))/\k0=k0/\(∀a1:Nat,let b1:=W.al a1;a1<k0->True/\b1=b1/\(∀c1:Nat,c1<b1->True/\W.ready a1 c1=W.ready a1 c1)))/\W.aQ=W.aQ/\(∀d1:Nat,let j:=W.aD d1;d1<W.aQ->True/\j=j/\(∀k:Nat,k<j->aG (W.ax d1 k) (W.ax d1 k))))/\W.aL=W.aL/\(∀h1:Nat,h1<W.aL->True/\W.aA h1=W.aA h1))/\W.time=W.time)/\True/\i=i)/\True)/\True/\bQ W/\0<=i/\i<=100000/\b0<=100000)/\da b0 (λk1:Nat=>!eS W (W.ready a0 k1) (i/4) (i%4))=(!gn W a0)/\True
theorem UZ:aY Tryz.prog bk 121 Wi:=bn (.cons X4 .nil) false Tryz.call121 Tryz.func121 (λ_=> []) (V:=LI) (λ_=>by kernel_rfl) λ⟨i,W⟩ hp=>by dsimp only[LH]at hp;dsimp only[LI,tn,aw,aB,aJ,aK,aG];obtain⟨b,hm,e,g⟩:=hp;obtain⟨I,rfl⟩:∃I:Nat,i=I:=⟨i.toNat,by omega⟩;simp only[bq,bx,eq_self,implies_true,bo];have c:=b.ready;have d:=b.c1;have:=hm.2.1 I (by omega);refine⟨⟨b,by omega,by omega⟩,?_⟩;rw[show((I:Int)/4)=((I/4:Nat):Int) by omega,show((I:Int)%4)=((I%4:Nat):Int) by omega];unfold da gn;simp only[CV]
structure Nz where
 (i:Int) (W:Wd)
def NA:Sy.Spec:=⟨Nz,λ⟨i,W⟩=> [.v (.int .i64 i),.v (.int .i64 (W.af i.toNat)),.pt true 1 (λ_=>dN W)],λ_=> [],λ⟨i,W⟩=>bQ W/\0<=i/\i<W.ay/\m6 (W.af i.toNat),λ⟨i,W⟩=> .v (.bool (!f' W i.toNat)),λ_=> [],
 λargs mem=>match args with| [a0,a1,b]=>some ⟨av (a0),dJ (bN b 0)⟩|_=>none⟩
def X5:aZ:=⟨[],(NA).g,none⟩
def NB:Nz->Prop:=λ⟨i,W⟩=>let a0:Int:=i/16;let b0:=((W.ak:Nat):Int);let c0:=W.kinds (Int.toNat a0);let d0:=W.af (Int.toNat i);let e0:=cond (cond (c0 !=3) (c0 !=4) false) true (d0==0);let b:=!f' W (Int.toNat i);let h0:=c0==4;let k0:=d_ BinOp.and IntKind.i64 d0 1023;let c:=decide (b0<=k0);let o0:=cond (d_ BinOp.andNot IntKind.i64 d0 1023 !=32768) true c;let d:=0<=k0/\k0<b0;let r0:=W.kinds (Int.toNat k0);let e:=cond (d_ BinOp.andNot IntKind.i64 d0 17407 !=32768) true c;(0<=i/\(0:Int)<16/\aw a0=a0)/\(0<=a0/\a0<b0)/\(e0=true->false=b/\True)/\(e0=false->(h0=true->(o0=false->d)/\cond o0 true (r0 !=3)=b/\True)/\(h0=false->(e=false->d)/\cond e true (r0 !=2)=b/\True))
theorem V_:aY Tryz.prog bk 124 X5:=bn .nil false Tryz.call124 Tryz.func124 (λ_=> []) (V:=NB) (λ_=>by kernel_rfl) λ⟨i,W⟩ hp=>by
 dsimp only[NA]at hp;dsimp only[NB,tn,aw,aB,aJ,aK,aG];obtain⟨g,o,p,b⟩:=hp;obtain⟨I,rfl⟩:∃I:Nat,i=I:=⟨i.toNat,by omega⟩;simp only[bq,bx,eq_self,implies_true,bo];have c:((I:Int)/16).toNat=I/16:=by omega
 rw[c];rw[cj]at b;unfold m6 at b;have k:=g.af;have l:=g.k1;have d:d_ .and .i64 (W.af I) 1023=W.af I%1024:=Hm 10 (x:=W.af I) (by omega) (by decide);simp only[JT b.1 b.2,Ty b.1 b.2,d];have j:0<=W.af I%1024:=by omega
 have e:f' W I=(W.kinds (I/16) !=3&&W.kinds (I/16) !=4||W.af I==0||(bif W.kinds (I/16)==4 then W.af I -W.af I%1024==32768&&bK W (W.af I%1024)==3 else(W.af I -W.af I%1024==32768||W.af I -W.af I%1024==49152)&&bK W (W.af I%1024)==2)):=by simp only[f'];rw[Bool.or_comm (W.af I==0)]
 refine⟨⟨by decide,by rw[IntKind.wrap_i64];omega⟩,by omega,λh=>by rw[e,h];rfl,λh=>⟨λh1=>⟨λh2=>?_,?_⟩,λh1=>⟨λh2=>?_,?_⟩⟩⟩
 ·simp only[bX,decide_eq_false_iff_not]at h2;omega
 ·rw[e,h,h1,CW,Rp j (by decide)];simp only[bne,cond_true,jw,zo]
 ·simp only[bX,decide_eq_false_iff_not]at h2;omega
 ·rw[e,h,h1,CW,Rp j (by decide)];have n:((W.af I -W.af I%1024 -(W.af I -W.af I%1024)/16384%2*16384) !=32768)=!(W.af I -W.af I%1024==32768||W.af I -W.af I%1024==49152):=by rw[bne];congr 1;rw[lJ];simp only[cM,beq_iff_eq];omega
  rw[n];simp only[cond_false,jw,zo]
def hP (sp pg:Int) (e:dG):Bool:=e.sp==sp&&e.pg==pg
def xW:dG:=⟨0,0,0,false⟩
def xX (n:Nat) (t:Nat->dG) (sp pg:Int):dG:=bif Nat.blt (dz n λi=>hP sp pg (t i)) n then t (dz n λi=>hP sp pg (t i))else xW
def xV (n:Nat) (t:Nat->dG) (sp pg:Int):Bool:=Nat.blt (dz n λi=>hP sp pg (t i)) n
def anQ (n:Nat) (p:Nat->Bool):cQ where
 σ:=Nat
 rt:= []
 sh i:= [(8,.v (.int .i64 i))]
 mh _:= []
 inv i:=i<=n/\∀j,j<i->p j=false
 μ i:=n -i
 init:=0
structure NH where
 (e:dG) (sp pg:Int)
def X8:Sy.Spec:=⟨NH,λ⟨e,sp,pg⟩=> [.ag 4 (aN (iO e)),.pt true 1 (λ_=> .v (.int .i64 sp)),.pt true 1 (λ_=> .v (.int .i64 pg))],λ_=> [],λ_=>True,λ⟨e,sp,pg⟩=> .v (.bool (hP sp pg e)),λ_=> [],
 λargs mem=>match args with| [a0,a1,b]=>some ⟨rj (cW a0),av (bN a1 0),av (bN b 0)⟩|_=>none⟩
def X9:aZ:=⟨[],(X8).g,none⟩
def NI:NH->Prop:=λ⟨e,sp,pg⟩=>True/\cond (e.sp==sp) (e.pg==pg) false=hP sp pg e/\True
theorem Ws:aY Tryz.prog bk 136 X9:=bn .nil false Tryz.call136 Tryz.func136 (λ_=> []) (V:=NI) (λ_=>by kernel_rfl) λ⟨e,sp,pg⟩ hp=>by dsimp only[NI,tn,aw,aB,aJ,aK,aG];simp only[bq,bx,eq_self,implies_true,bo];rfl
structure PF where
 (n:Nat) (t:Nat->dG) (sp pg:Int)
def ZK:Sy.Spec:=⟨PF,λ⟨n,t,sp,pg⟩=> [.sl true 4 n (rF λi=>iO (t i)),.fn 136 2 (aN [.pt true 1 (λ_=> .v (.int .i64 sp)),.pt true 1 (λ_=> .v (.int .i64 pg))])],λ_=> [],λ_=>True,λ⟨n,t,sp,pg⟩=> .v (.int .i64 (fE n λi=>hP sp pg (t i))),λ_=> [],
 λargs mem=>match args with| [a0,a1]=>(match jC 136 a1 with|true=>some ⟨bT a0,λi=>rj (λj=>bO a0 i j),av (bN (dK a1 0) 0),av (bN (dK a1 1) 0)⟩|false=>none)|_=>none⟩
def ZL:aZ:=⟨[],(ZK).g,none⟩
def PG:PF->Prop:=λ⟨n,t,sp,pg⟩=>let a0:=(n:Int);let b0:=fE n (λc0:Nat=>hP sp pg (t c0));a0<=9223372036854775807->0=((0:Nat):Int)/\True/\(0<=n/\(∀d0:Nat,d0<0->hP sp pg (t d0)=false))/\(∀e0:Nat,let b:=(e0:Int);let h0:=decide (b<a0);let k0:=t (Int.toNat b);let c:=hP sp pg k0;let o0:Int:=b+1;e0<=n/\(∀d:Nat,d<e0->hP sp pg (t d)=false)->(h0=true->(0<=b/\b<a0)/\((aG k0 k0/\(True/\sp=sp)/\(True/\pg=pg)/\True)/\True/\True)/\(c=true->b=b0/\True)/\(c=false->aw o0=o0/\(∃r0:Nat,o0=(r0:Int)/\True/\(r0<=n/\(∀e:Nat,e<r0->hP sp pg (t e)=false))/\n-r0<n-e0)))/\(h0=false->(-1)=b0/\True))
theorem X_:aY Tryz.prog bk 135 ZL:=bn (.cons Ws .nil) false Tryz.call135 Tryz.func135 (λ⟨n,t,sp,pg⟩=> [.inv (anQ n λi=>hP sp pg (t i))]) (V:=PG) (λ_=>by kernel_rfl) λ⟨n,t,sp,pg⟩ hp=>by
 dsimp only[PG,tn,aw,aB,aJ,aK,aG];simp only[bq,eq_self,implies_true,bo];intro _ s hs;refine⟨λh=>?_,λh=>?_⟩
 ·have b:=fh h;refine⟨by omega,λh1=>?_,λh1=>⟨by rw[IntKind.wrap_i64];omega,eU ⟨⟨by omega,λj d=>?_⟩,by omega⟩⟩⟩
  ·rw[Cf (p:=λi=>hP sp pg (t i)) hs.2 h1 b]
  ·rcases bR j s with c|c
   ·exact hs.2 j c
   ·obtain rfl:j=s:=by omega
    exact h1
 ·obtain rfl:s=n:=by have:=fq h;omega
  rw[v' (p:=λi=>hP sp pg (t i)) hs.2]
structure BP where
 (n:Nat) (t:Nat->dG)
def FF:Sy.Spec:=⟨BP,λ⟨n,t⟩=> [.sl true 4 n (rF λi=>iO (t i))],λ_=> [],λ⟨n,_⟩=>n<=100000,λ⟨n,_⟩=> .aS 0 0 none 0 n,λ⟨n,t⟩=> [.row 4 n (rF λi=>iO (t i))],
 λargs mem=>match args with| [a0]=>some ⟨bT a0,λi=>rj (λj=>bO a0 i j)⟩|_=>none⟩
def Wt:aZ:=⟨[],(FF).g,none⟩
def LU:BP->Prop:=λ⟨n,t⟩=>∀a0:Bool,(a0=true->n=0)->(a0=true->(0=0/\0=n)/\(0=n/\(∀b0:Nat,b0<n->(((True/\SV.aI=SV.v (Value.int IntKind.i64 (t b0).sp))/\SV.aI=SV.v (Value.int IntKind.i64 (t b0).pg))/\SV.aI=SV.v (Value.int IntKind.i64 (t b0).fr))/\SV.aI=SV.v (Value.bool (t b0).wr)))/\True)/\(a0=false->True/\(n*32<=140737488355328/\(∀c0:Nat,true=true))/\(0=0/\n=n)/\(n=n/\(∀d0:Nat,d0<n->aG (t d0) (t d0)))/\True)
theorem U6:aY Tryz.prog bk 129 Wt:=bn .nil false Tryz.call129 Tryz.func129 (λ_=> []) (V:=LU) (λ_=>by kernel_rfl) λ⟨n,t⟩ hp=>by
 dsimp only[FF]at hp;dsimp only[LU,tn,aw,aB,aJ,aK,aG];simp only[bq,eq_self,implies_true,bo];intro b c;refine⟨λh=>?_,λ_=>?_⟩
 ·have:=c h;subst this;exact⟨rfl,rfl,λi d=>absurd d (by omega)⟩
 ·omega
structure PH where
 (n:Nat) (t:Nat->dG) (sp pg:Int)
def ZM:Sy.Spec:=⟨PH,λ⟨n,t,sp,pg⟩=> [.sl true 4 n (rF λi=>iO (t i)),.v (.int .i64 sp),.v (.int .i64 pg)],λ_=> [],λ_=>True,λ⟨n,t,sp,pg⟩=> .tp 2 (aN [.ag 4 (aN (iO (xX n t sp pg))),.v (.bool (xV n t sp pg))]),λ_=> [],
 λargs mem=>match args with| [a0,a1,b]=>some ⟨bT a0,λi=>rj (λj=>bO a0 i j),av (a1),av (b)⟩|_=>none⟩
def ZN:aZ:=⟨[],(ZM).g,none⟩
def PI:PH->Prop:=λ⟨n,t,sp,pg⟩=>let a0:=fE n (λb0:Nat=>hP sp pg (t b0));let c0:=decide (a0<0);let d0:=tn 3 True;let e0:=xX n t sp pg;let b:=xV n t sp pg;tn 3 ((((n=n/\(∀h0:Nat,h0<n->aG (t h0) (t h0)))/\(tn 2 (sp=sp)/\True/\pg=pg)/\True)/\True/\True)/\(c0=true->d0/\((True/\aG (dG.mk 0 0 0 false) e0)/\false=b)/\True)/\(c0=false->(0<=a0/\a0<(n:Int))/\d0/\((True/\aG (t (Int.toNat a0)) e0)/\true=b)/\True))
theorem X0:aY Tryz.prog bk 128 ZN:=bn (.cons X_ .nil) false Tryz.call128 Tryz.func128 (λ_=> []) (V:=PI) (λ_=>by kernel_rfl) λ⟨n,t,sp,pg⟩ hp=>by
 dsimp only[PI,tn,aw,aB,aJ,aK,aG];simp only[bq,eq_self,implies_true,bo];have key:∀b,xV n t sp pg=b->(b=true/\(fE n λi=>hP sp pg (t i))=(dz n λi=>hP sp pg (t i):Nat)/\(dz n λi=>hP sp pg (t i))<n/\xX n t sp pg=t (dz n λi=>hP sp pg (t i)))\/(b=false/\(fE n λi=>hP sp pg (t i))= -1/\xX n t sp pg=xW):=by
  intro b h;have c:Nat.blt (dz n λi=>hP sp pg (t i)) n=b:=h;cases b with
  |true=>left;exact⟨rfl,by unfold fE;rw[c];rfl,bP c,by unfold xX;rw[c];rfl⟩
  |false=>right;exact⟨rfl,by unfold fE;rw[c];rfl,by unfold xX;rw[c];rfl⟩
 rcases key _ rfl with⟨h1,h2,e,d⟩|⟨h1,h2,d⟩
 ·rw[h1,h2,d];refine⟨λh=>by simp at h;omega,λ_=>⟨by omega,?_,rfl⟩⟩;rw[cj];exact⟨⟨⟨rfl,rfl⟩,rfl⟩,rfl⟩
 ·rw[h1,h2,d];exact⟨λ_=>⟨⟨⟨⟨rfl,rfl⟩,rfl⟩,rfl⟩,rfl⟩,λh=>by simp at h⟩
theorem Wc (n:Nat) (p:Nat->Bool):Nat.blt (dz n p) n=da n p:=by
 cases b:da n p with
 |true=>obtain⟨i,c,h⟩:=ly.1 b;exact gY (qC c h)
 |false=>rw[qt (lr.1 b)];exact kZ (bc _)
theorem E7 {W:Wd} {n i:Nat} {l:Nat->dG} (b:i<n) (h:lp W l i=false):ga W n l=false:=by unfold ga;rw[ER (p:=λi=>lp W l i) b h];cases decide (n<=4)<;>rfl
structure Nt where
 (i:Int) (W:Wd)
def Nu:Sy.Spec:=⟨Nt,λ⟨i,W⟩=> [.v (.int .i64 i),.sl true 4 (W.aD i.toNat) (rF λk=>iO (W.ax i.toNat k)),.pt true 1 (λ_=>dN W)],λ_=> [],λ⟨i,W⟩=>bQ W/\W.aD i.toNat<=1000/\∀k,k<W.ay->m6 (W.af k),λ⟨i,W⟩=> .v (.bool (!ga W (W.aD i.toNat) (W.ax i.toNat))),λ_=> [],
 λargs mem=>match args with| [a0,a1,b]=>some ⟨av (a0),dJ (bN b 0)⟩|_=>none⟩
def XZ:aZ:=⟨[],(Nu).g,none⟩
def Nv:Nt->Prop:=λ⟨i,W⟩=>let a0:=Int.toNat i;let b0:=W.aD a0;let c0:=(b0:Int);let d0:=c0<=9223372036854775807;let e0:=W.ax a0;let g:=tn 3 True;let h0:=((W.ak:Nat):Int);let k0:=!ga W b0 e0;let d:=true=k0/\True;let o0:=W.ay;let b:=W.af;let r0:=Int.toNat 0;d0->0=((0:Nat):Int)/\True/\(0<=b0/\(∀h:Nat,h<0->lp W e0 h=true))/\(∀v0:Nat,let w0:=(v0:Int);let j:=decide (w0<c0);let c:=e0 (Int.toNat w0);let z0:=c.sp;let a1:=cond (decide (z0<0)) true (decide (h0<=z0));let b1:=c.pg;let c1:=cond (cond (cond a1 true (W.kinds (Int.toNat z0) !=4)) true (decide (b1<0))) true (decide (255<b1));let d1:Int:=16*b1;let k:=z0=z0;let l:=cond (cond (gT o0 b z0 d1 !=0) true (jO o0 b z0 d1 !=c.fr)) true (jP o0 b z0 d1 !=c.wr);let h1:=Int.toNat w0-r0;let k1:=xV h1 (λp:Nat=>e0 (r0+p)) z0 b1;let o1:Int:=w0+1;v0<=b0/\(∀n:Nat,n<v0->lp W e0 n=true)->(j=true->(0<=w0/\w0<c0)/\True/\g/\tn 22 ((a1=false->0<=z0/\z0<h0)/\(c1=true->d)/\(c1=false->tn 9 (aw d1=d1/\(((o0=o0/\(∀r1:Nat,r1<o0->True/\b r1=b r1))/\k/\d1=d1/\True)/\True/\(∀e:Nat,e<o0->0<=b e/\b e<=65535))/\tn 5 ((l=true->d)/\(l=false->tn 2 (((0:Int)<=0/\0<=w0/\w0<=c0)/\tn 4 ((((h1=h1/\(∀v1:Nat,v1<h1->aG (e0 (r0+v1)) (e0 (r0+v1))))/\k/\b1=b1/\True)/\True/\True)/\tn 4 (g/\(k1=true->d)/\(k1=false->aw o1=o1/\(∃w1:Nat,o1=(w1:Int)/\True/\(w1<=b0/\(∀o:Nat,o<w1->lp W e0 o=true))/\b0-w1<b0-v0)))))))))))/\(j=false->d0->decide (4<c0)=k0/\True))
theorem Wa:aY Tryz.prog bk 126 XZ:=bn (.cons XK (.cons X0 .nil)) false Tryz.call126 Tryz.func126 (λ⟨i,W⟩=> [.inv (ab6 W (W.aD i.toNat) (W.ax i.toNat))]) (V:=Nv) (λ_=>by kernel_rfl) λ⟨i,W⟩ hp=>by
 dsimp only[Nu]at hp;dsimp only[Nv,tn,aw,aB,aJ,aK,aG];obtain⟨u,e,g⟩:=hp;obtain⟨l,hl⟩:∃l,l=W.ax i.toNat:=⟨_,rfl⟩;obtain⟨n,c⟩:∃n,n=W.aD i.toNat:=⟨_,rfl⟩;simp only[bq,bx,eq_self,implies_true,bo];simp only[<-hl,<-c]at e⊢;have wr:∀z:Int,-100000<=z->z<=100000->IntKind.i64.wrap z=z:=λz h1 h2=>by rw[IntKind.wrap_i64];omega
 refineλ_ s hs=>⟨λh=>?_,λh _=>?_⟩
 ·have b:=fh h;have o:(decide ((l s).sp<0)||decide ((W.ak:Int)<=(l s).sp)||W.kinds (l s).sp.toNat !=4||decide ((l s).pg<0)||decide (255<(l s).pg))=(!(bK W (l s).sp==4)||az (l s).pg 255):=by rw[Io (by decide),CW];rfl
  have p:xV (s -Int.toNat 0) (λa=>l (Int.toNat 0+a)) (l s).sp (l s).pg=da s (λk=>(l k).sp==(l s).sp&&(l k).pg==(l s).pg):=by unfold xV;rw[Wc];simp only[Int.toNat_zero,Nat.sub_zero,jY];rfl
  rw[o,p];refine⟨by omega,λh1=>?_,λh1=>?_,λh1=>?_⟩
  ·simp only[bX,decide_eq_false_iff_not]at h1;omega
  ·rw[E7 b (by revert h1;unfold lp;cases bK W (l s).sp==4<;>cases az (l s).pg 255<;>simp)];rfl
  have q:az (l s).pg 255=false:=by rw[bX]at h1;exact h1.2
  have r:0<=(l s).pg/\(l s).pg<=255:=by simp[az]at q;omega
  refine⟨wr _ (by omega) (by omega),g,λh2=>?_,λh2=>⟨⟨by decide,by omega⟩,λd=>?_,λd=>⟨wr _ (by omega) (by omega),eU ⟨⟨by omega,Re hs.2 ?_⟩,by omega⟩⟩⟩⟩
  ·rw[E7 b (by revert h2;simp only[bne];unfold lp;cases gT W.ay W.af (l s).sp (16*(l s).pg)==0<;>cases jO W.ay W.af (l s).sp (16*(l s).pg)==(l s).fr<;>cases jP W.ay W.af (l s).sp (16*(l s).pg)==(l s).wr<;>simp)];rfl
  ·rw[E7 b (by unfold lp;rw[d];simp)];rfl
  ·revert h1 h2
   simp only[bne];unfold lp;rw[d];cases bK W (l s).sp==4<;>cases az (l s).pg 255<;>cases gT W.ay W.af (l s).sp (16*(l s).pg)==0<;>cases jO W.ay W.af (l s).sp (16*(l s).pg)==(l s).fr<;>cases jP W.ay W.af (l s).sp (16*(l s).pg)==(l s).wr<;>simp
 ·have t:=fq h;unfold ga;rw[K_ λj v=>hs.2 j (by omega),CD,<-decide_not];exact decide_eq_decide.2 (by omega)
end Go.Proofs.YthgmgkabnffniaaGreatDoor
