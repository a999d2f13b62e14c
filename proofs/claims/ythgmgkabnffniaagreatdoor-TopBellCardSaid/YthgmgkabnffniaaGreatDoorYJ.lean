/- The program's look at a world: small functions. -/
import Derived.Test.YthgmgkabnffniaaGreatDoorYI
set_option linter.unusedVariables false
set_option linter.unusedSimpArgs false
set_option linter.unusedVariables false
set_option linter.unusedSimpArgs false
set_option maxRecDepth 100000
namespace Go.Proofs.YthgmgkabnffniaaGreatDoor
open Go.RowKit Go.Sy
def afq (n:Nat) (l:Nat->Int) (x:Int):cG where
  σ:=Nat
  rt:= []
  sh i:= [(8,.v (.int .i64 i))]
  mh _:= []
  inv i:=i<=n/\ ∀j,j<i->(x==l j)=false
  μ i:=n -i
  init:=0
def adv (n:Nat) (ln:Nat->Nat) (l:Nat->Nat->Int) (x:Int):cG where
  σ:=Nat
  rt:= []
  sh i:= [(12,.v (.int .i64 i)),(5,.v (.int .i64 (cJ i ln l x:Nat)))]
  mh _:= []
  inv i:=i<=n
  μ i:=n -i
  init:=0
def adw (ln:Nat->Nat) (l:Nat->Nat->Int) (x:Int) (i c:Int):cG where
  σ:=Nat
  rt:= []
  sh k:= [(18,.v (.int .i64 k)),(5,.v (.int .i64 (c+(bx k λq=>l i.toNat q==x:Nat))))]
  mh _:= []
  inv k:=k<=ln i.toNat
  μ k:=ln i.toNat -k
  init:=0
theorem H6 {W:Wd} {f k:Int} (hk:k≠ -1):(decide (0<=f)&&decide (f<(W.aj:Int))&&W.kinds f.toNat==k)=(bH W f==k):=by
  cases J:decide (0<=f)&&decide (f<(W.aj:Int))with
  |true=>
   simp only[Bool.and_eq_true,decide_eq_true_eq]at J
   rw[fS J];rfl
  |false=>
   simp only[Bool.and_eq_false_iff,decide_eq_false_iff_not]at J
   rw[PQ (by omega)]
   symm
   exact beq_eq_false_iff_ne.2 λh=>hk h.symm
theorem Xp {r q:Int} (r0:0<=r) (r1:r<=7) (q0:0<=q) (q1:q<=7):(dq .andNot .i64 r q==0)=(((ku 6 q.toNat r.toNat:Nat):Int)==r):=by
  rw[XK r0 r1 q0 q1,Jh q0 (by omega) r0 (by omega)];rfl
structure SH where
  (v m:Int)
def adx:Sy.Spec:=⟨SH,λ⟨v,m⟩=> [.v (.int .i64 v),.v (.int .i64 m)],λ_=> [],λ_=>True,λ⟨v,m⟩=> .v (.bool (az v m)),λ_=> [],
  λargs mem=>match args with| [a0,a1]=>some ⟨aw (a0),aw (a1)⟩|_=>none⟩
def ady:aT:=⟨[],(adx).g,none⟩
def SI:SH->Prop:=λ⟨v,m⟩=>cond (decide (v<0)) true (decide (m<v))=az v m/\True
theorem yp:aU Tryz.prog aY 72 ady:=bf .nil false Tryz.call72 Tryz.func72 (λ_=> []) (V:=SI) (λ_=>by kernel_rfl) λ⟨v,m⟩ hp=>by
  dsimp only[SI,tn,ar,aD,aI,aJ,aH]
  simp only[bn,bD,eq_self,implies_true,Bool.cond_self]
  rfl
structure Uk where
  (i e:Int)
def Ul:Sy.Spec:=⟨Uk,λ⟨i,e⟩=> [.v (.int .i64 i),.v (.int .i64 e)],λ_=> [],λ⟨i,e⟩=>0<=i/\e≠0,λ⟨i,e⟩=> .er 43 66 e i,λ_=> [],
  λargs mem=>match args with| [a0,a1]=>some ⟨aw (a0),aw (a1)⟩|_=>none⟩
def afr:aT:=⟨[],(Ul).g,none⟩
def Um:Uk->Prop:=λ⟨i,e⟩=>True/\(e≠0/\0<=i/\e=e/\i=i)/\True
theorem qC:aU Tryz.prog aY 132 afr:=bf .nil false Tryz.call132 Tryz.func132 (λ_=> []) (V:=Um) (λ_=>by kernel_rfl) λ⟨i,e⟩ hp=>by
  dsimp only[Ul]at hp
  dsimp only[Um,tn,ar,aD,aI,aJ,aH]
  simp only[bn,bD,eq_self,implies_true,Bool.cond_self]
  exact⟨hp.2,hp.1⟩
structure Un where
  (W:Wd) (f k:Int)
def Uo:Sy.Spec:=⟨Un,λ⟨W,f,k⟩=> [dV W,.v (.int .i64 f),.v (.int .i64 k)],λ_=> [],λ⟨_,_,k⟩=>k≠ -1,λ⟨W,f,k⟩=> .v (.bool (okF W f k)),λ_=> [],
  λargs mem=>match args with| [a0,a1,a2]=>some ⟨dR a0,aw (a1),aw (a2)⟩|_=>none⟩
def afs:aT:=⟨[],(Uo).g,none⟩
def Up:Un->Prop:=λ⟨W,f,k⟩=>let a0:=cond (decide (0<=f)) (decide (f<((W.aj:Nat):Int))) false;(a0=true->(f==(-1))=false->0<=f/\f<((W.aj:Nat):Int))/\cond (f==(-1)) true (cond a0 (W.kinds (Int.toNat f)==k) false)=okF W f k/\True
theorem adr:aU Tryz.prog aY 114 afs:=bf .nil false Tryz.call114 Tryz.func114 (λ_=> []) (V:=Up) (λ_=>by kernel_rfl) λ⟨W,f,k⟩ hp=>by
  dsimp only[Uo]at hp
  dsimp only[Up,tn,ar,aD,aI,aJ,aH]
  simp only[bn,bD,eq_self,implies_true,Bool.cond_self]
  exact⟨λh _=>by simp only[Bool.and_eq_true,decide_eq_true_eq]at h;exact h,by rw[H6 hp];rfl⟩
structure Ql where
  (k b l m r g k2 b2 l2 m2 r2 g2:Int)
def Qm:Sy.Spec:=⟨Ql,λ⟨k,b,l,m,r,g,k2,b2,l2,m2,r2,g2⟩=> [.ag 6 (aL [.v (.int .i64 k),.v (.int .i64 b),.v (.int .i64 l),.v (.int .i64 m),.v (.int .i64 r),.v (.int .i64 g)]),.ag 6 (aL [.v (.int .i64 k2),.v (.int .i64 b2),.v (.int .i64 l2),.v (.int .i64 m2),.v (.int .i64 r2),.v (.int .i64 g2)])],λ_=> [],λ⟨k,b,l,m,r,g,_,_,_,_,_,_⟩=>dX k b l m r g=0,λ⟨k,b,l,m,r,g,k2,b2,l2,m2,r2,g2⟩=> .v (.bool (eG ⟨k,b,l,m,r,g,0⟩ ⟨k2,b2,l2,m2,r2,g2,0⟩)),λ_=> [],
  λargs mem=>match args with| [a0,a1]=>some ⟨aw (cQ a0 0),aw (cQ a0 1),aw (cQ a0 2),aw (cQ a0 3),aw (cQ a0 4),aw (cQ a0 5),aw (cQ a1 0),aw (cQ a1 1),aw (cQ a1 2),aw (cQ a1 3),aw (cQ a1 4),aw (cQ a1 5)⟩|_=>none⟩
def abP:aT:=⟨[],(Qm).g,none⟩
def Qn:Ql->Prop:=λ⟨k,b,l,m,r,g,k2,b2,l2,m2,r2,g2⟩=>let a0:=dX k2 b2 l2 m2 r2 g2 !=0;let b0:=eG (bK.mk k b l m r g 0) (bK.mk k2 b2 l2 m2 r2 g2 0);let c0:=cond (k !=1) (decide (b2<=b)) false;tn 2 (((((((((True/\k2=k2)/\b2=b2)/\l2=l2)/\m2=m2)/\r2=r2)/\g2=g2)/\True)/\True/\True)/\(a0=true->false=b0/\True)/\(a0=false->((k2==1)=true->(c0=true->ar (b2+m2)=b2+m2)/\cond c0 (decide (b<b2+m2)) false=b0/\True)/\((k2==1)=false->cond (cond (cond (k==k2) (b==b2) false) (dq BinOp.andNot IntKind.i64 r r2==0) false) (cond (g2==0) true (g==g2)) false=b0/\True)))
theorem Z2:aU Tryz.prog aY 109 abP:=bf (.cons Mh .nil) false Tryz.call109 Tryz.func109 (λ_=> []) (V:=Qn) (λ_=>by kernel_rfl) λ⟨k,b,l,m,r,g,k2,b2,l2,m2,r2,g2⟩ hp=>by
  dsimp only[Qm]at hp
  dsimp only[Qn,tn,ar,aD,aI,aJ,aH]
  simp only[bn,bD,eq_self,implies_true,Bool.cond_self]
  have hm:eG ⟨k,b,l,m,r,g,0⟩ ⟨k2,b2,l2,m2,r2,g2,0⟩=(dX k2 b2 l2 m2 r2 g2==0&&bif k2==1 then k !=1&&decide (b2<=b)&&decide (b -b2<m2)else k==k2&&b==b2&&(g2==0||g2==g)&&(((ku 6 r2.toNat r.toNat:Nat):Int)==r)):=rfl
  rw[hm]
  refine⟨λh=>by rw[wX (b:=dX k2 b2 l2 m2 r2 g2==0) h];rfl,λh=>?_⟩
  have h0:=jI (b:=dX k2 b2 l2 m2 r2 g2==0) h
  rw[h0]
  have hr:=Gv hp
  have hr2:=Gv (eq_of_beq h0)
  refine⟨λJ=>⟨λ_=>by rw[IntKind.wrap_i64];omega,?_⟩,λJ=>?_⟩
  · rw[J,show decide (b<b2+m2)=decide (b -b2<m2)from decide_eq_decide.2 (by omega)];rfl
  · rw[J,Xp (by omega) (by omega) (by omega) (by omega),show(g==g2)=(g2==g)from Bool.beq_comm]
    cases k==k2<;>cases b==b2<;>cases g2==0<;>cases g2==g<;>simp
structure OK where
  (n:Nat) (ln:Nat->Nat) (l:Nat->Nat->Int) (x:Int)
def OL:Sy.Spec:=⟨OK,λ⟨n,ln,l,x⟩=> [.sl true 1 n (λi _=> .sl true 1 (ln i) (iF (l i))),.v (.int .i64 x)],λ_=> [],λ⟨n,ln,_,_⟩=>n<=1000/\ ∀i,i<n->ln i<=1000,λ⟨n,ln,l,x⟩=> .v (.int .i64 (cJ n ln l x:Nat)),λ_=> [],
  λargs mem=>match args with| [a0,a1]=>some ⟨bX a0,λi=>bX (bN a0 i 0),λi k=>aw (bN (bN a0 i 0) k 0),aw (a1)⟩|_=>none⟩
def Z6:aT:=⟨[],(OL).g,none⟩
def OM:OK->Prop:=λ⟨n,ln,l,x⟩=>let a0:=(n:Int);a0<=9223372036854775807->0=((0:Nat):Int)/\0=((cJ 0 ln l x:Nat):Int)/\True/\0<=n/\(∀b0:Nat,let c0:=(b0:Int);let d0:=decide (c0<a0);let e0:=Int.toNat c0;let g0:=ln e0;let h0:=(g0:Int);let k0:=((cJ b0 ln l x:Nat):Int);let l0:Int:=c0+1;b0<=n->(d0=true->(0<=c0/\c0<a0)/\(h0<=9223372036854775807->0=((0:Nat):Int)/\k0=k0+((bx 0 (λo0:Nat=>l e0 o0==x):Nat):Int)/\True/\0<=g0/\(∀q0:Nat,let r0:=(q0:Int);let u0:=decide (r0<h0);let v0:=l e0 (Int.toNat r0)==x;let w0:Int:=k0+((bx q0 (λx0:Nat=>l e0 x0==x):Nat):Int);let y0:Int:=w0+1;let z0:Int:=r0+1;let a1:=ar z0=z0;q0<=g0->(u0=true->(0<=r0/\r0<h0)/\(v0=true->ar y0=y0/\a1/\(∃b1:Nat,z0=(b1:Int)/\y0=k0+((bx b1 (λc1:Nat=>l e0 c1==x):Nat):Int)/\True/\b1<=g0/\g0-b1<g0-q0))/\(v0=false->a1/\(∃d1:Nat,z0=(d1:Int)/\w0=k0+((bx d1 (λe1:Nat=>l e0 e1==x):Nat):Int)/\True/\d1<=g0/\g0-d1<g0-q0)))/\(u0=false->ar l0=l0/\(∃g1:Nat,l0=(g1:Int)/\w0=((cJ g1 ln l x:Nat):Int)/\True/\g1<=n/\n-g1<n-b0)))))/\(d0=false->k0=((cJ n ln l x:Nat):Int)/\True))
theorem YQ:aU Tryz.prog aY 115 Z6:=bf .nil false Tryz.call115 Tryz.func115 (λ⟨n,ln,l,x⟩=> [.inv (adv n ln l x),.BK false λfr=>adw ln l x (aw (fr 12)) (aw (fr 5))]) (V:=OM) (λ_=>by kernel_rfl) λ⟨n,ln,l,x⟩ hp=>by
  dsimp only[OL]at hp
  dsimp only[OM,tn,ar,aD,aI,aJ,aH]
  simp only[bn,bD,eq_self,implies_true,Bool.cond_self]
  refineλ_=>⟨rfl,λs hs=>⟨λh=>?_,λh=>?_⟩⟩
  · have av:=fO h
    have hl:=hp.2 s av
    have hc:cJ s ln l x<=s*1000:=H0 λi hi=>Nat.le_trans (sK _ _) (hp.2 i (by omega))
    refine⟨by omega,λhm=>⟨by simp[bx],λk hk=>⟨λh2=>?_,λh2=>?_⟩⟩⟩
    · have agl:=fO h2
      have hb:=sK (λq=>l s q==x) k
      refine⟨by omega,λh3=>?_,λh3=>?_⟩
      · have e:(bx (k+1) λq=>l s q==x)=(bx k λq=>l s q==x)+1:=by simp[bx,h3]
        exact⟨by rw[IntKind.wrap_i64];omega,by rw[IntKind.wrap_i64];omega,fB ⟨by rw[e];omega,by omega,by omega⟩⟩
      · have e:(bx (k+1) λq=>l s q==x)=(bx k λq=>l s q==x):=by simp[bx,h3]
        exact⟨by rw[IntKind.wrap_i64];omega,fB ⟨by rw[e],by omega,by omega⟩⟩
    · have dz:=ga h2
      obtain rfl:k=ln s:=by omega
      refine⟨by rw[IntKind.wrap_i64];omega,fB ⟨?_,by omega,by omega⟩⟩
      rw[show cJ (s+1) ln l x=cJ s ln l x+bx (ln s) (λq=>l s q==x)from rfl];omega
  · have dz:=ga h
    obtain rfl:s=n:=by omega
    rfl
structure DX where
  (n:Nat) (l:Nat->Int) (x:Int)
def Hs:Sy.Spec:=⟨DX,λ⟨n,l,x⟩=> [.sl true 1 n (λi_ _=> .v (.int .i64 (l i_))),.v (.int .i64 x)],λ_=> [],λ⟨n,_,_⟩=>n<=100000,λ⟨n,l,x⟩=> .v (.int .i64 (gz n λk=>x==l k)),λ_=> [],
  λargs mem=>match args with| [a0,a1]=>some ⟨bX a0,λi=>aw (bN a0 i 0),aw (a1)⟩|_=>none⟩
def Z7:aT:=⟨[],(Hs).g,none⟩
def ON:DX->Prop:=λ⟨n,l,x⟩=>let a0:=(n:Int);let b0:=gz n (λc0:Nat=>x==l c0);a0<=9223372036854775807->0=((0:Nat):Int)/\True/\(0<=n/\(∀d0:Nat,d0<0->(x==l d0)=false))/\(∀e0:Nat,let g0:=(e0:Int);let h0:=decide (g0<a0);let k0:=x==l (Int.toNat g0);let l0:Int:=g0+1;e0<=n/\(∀o0:Nat,o0<e0->(x==l o0)=false)->(h0=true->(0<=g0/\g0<a0)/\(k0=true->g0=b0/\True)/\(k0=false->ar l0=l0/\(∃q0:Nat,l0=(q0:Int)/\True/\(q0<=n/\(∀r0:Nat,r0<q0->(x==l r0)=false))/\n-q0<n-e0)))/\(h0=false->(-1)=b0/\True))
theorem YS:aU Tryz.prog aY 133 Z7:=bf .nil false Tryz.call133 Tryz.func133 (λ⟨n,l,x⟩=> [.inv (afq n l x)]) (V:=ON) (λ_=>by kernel_rfl) λ⟨n,l,x⟩ hp=>by
  dsimp only[Hs]at hp
  dsimp only[ON,tn,ar,aD,aI,aJ,aH]
  simp only[bn,bD,eq_self,implies_true,Bool.cond_self]
  refineλhn s hs=>⟨λh=>?_,λh=>?_⟩
  · have av:=fO h
    exact⟨by omega,λh=>(Ej (p:=λk=>x==l k) hs.2 h av).symm,λh=>⟨by rw[IntKind.wrap_i64];omega,fB ⟨⟨by omega,jU (p:=λk=>x==l k) hs.2 h⟩,by omega⟩⟩⟩
  · have dz:=ga h
    obtain rfl:s=n:=by omega
    exact(yd (p:=λk=>x==l k) hs.2).symm
structure Dj where
  (n:Nat) (l:Nat->Int) (x:Int)
def Gw:Sy.Spec:=⟨Dj,λ⟨n,l,x⟩=> [.sl true 1 n (λi_ _=> .v (.int .i64 (l i_))),.v (.int .i64 x)],λ_=> [],λ⟨n,_,_⟩=>n<=100000,λ⟨n,l,x⟩=> .v (.bool (cF n l x)),λ_=> [],
  λargs mem=>match args with| [a0,a1]=>some ⟨bX a0,λi=>aw (bN a0 i 0),aw (a1)⟩|_=>none⟩
def Xq:aT:=⟨[],(Gw).g,none⟩
def Mu:Dj->Prop:=λ⟨n,l,x⟩=>(((n=n/\(∀a0:Nat,a0<n->True/\l a0=l a0))/\x=x/\True)/\True/\Hs.match_1 (λb0:DX=>Prop) (DX.mk n l x) (λc0:Nat=>λd0:∀e0:Nat,Int=>λg0:Int=>c0<=100000))/\decide (0<=gz n (λh0:Nat=>x==l h0))=cF n l x/\True
theorem W9:aU Tryz.prog aY 116 Xq:=bf (.cons YS .nil) false Tryz.call116 Tryz.func116 (λ_=> []) (V:=Mu) (λ_=>by kernel_rfl) λ⟨n,l,x⟩ hp=>by
  dsimp only[Gw]at hp
  dsimp only[Mu,tn,ar,aD,aI,aJ,aH]
  simp only[bn,bD,eq_self,implies_true,Bool.cond_self]
  refine⟨hp,?_⟩
  cases hq:cF n l x with
  |false=>
   rw[yd (p:=λk=>x==l k) λj hj=>by have:=nY.1 hq j hj;rw[Bool.beq_comm];exact this];rfl
  |true=>
   obtain⟨i,hi,h⟩:=qt.1 hq
   have:=uh (p:=λk=>x==l k) hi (by rw[Bool.beq_comm];exact h)
   unfold gz
   rw[ji this]
   exact decide_eq_true (Int.natCast_nonneg _)
structure yq where
  (t c p:Int) (W:Wd)
def El:Sy.Spec:=⟨yq,λ⟨t,c,p,W⟩=> [.v (.int .i64 t),.v (.int .i64 c),.v (.int .i64 p),.pt true 1 (λ_=>dV W)],λ_=> [],λ⟨_,_,_,W⟩=>bO W,λ⟨t,c,p,W⟩=> .v (.bool (fA W t c p)),λ_=> [],
  λargs mem=>match args with| [a0,a1,a2,a3]=>some ⟨aw (a0),aw (a1),aw (a2),dR (bQ a3 0)⟩|_=>none⟩
def abQ:aT:=⟨[],(El).g,none⟩
def Qo:yq->Prop:=λ⟨t,c,p,W⟩=>let a0:=cond (decide (0<=t)) (decide (t<((W.aj:Nat):Int))) false;let b0:=cond a0 (W.kinds (Int.toNat t)==6) false;let c0:=0<=t/\t<((W.aP:Nat):Int);let d0:=W.tasks (Int.toNat t);let e0:=cond b0 (d0.st==1) false;let g0:=cond e0 (d0.core==c) false;(a0=true->0<=t/\t<((W.aj:Nat):Int))/\(b0=true->c0)/\(e0=true->c0)/\(decide (p<0)=false->g0=true->c0)/\cond g0 (cond (decide (p<0)) true (d0.prio==p)) false=fA W t c p/\True
theorem OG:aU Tryz.prog aY 119 abQ:=bf .nil false Tryz.call119 Tryz.func119 (λ_=> []) (V:=Qo) (λ_=>by kernel_rfl) λ⟨t,c,p,W⟩ hp=>by
  dsimp only[El]at hp
  dsimp only[Qo,tn,ar,aD,aI,aJ,aH]
  simp only[bn,bD,eq_self,implies_true,Bool.cond_self]
  have hz:=hp.tasks
  refine⟨λh=>?_,λh=>?_,λh=>?_,λ_ h=>?_,by rw[H6 (k:=6) (by decide)];rfl⟩
  all_goals simp only[Bool.and_eq_true,decide_eq_true_eq]at h
  all_goals omega
structure OO where
  (i x:Int)
def Z8:Sy.Spec:=⟨OO,λ⟨i,x⟩=> [.v (.int .i64 i),.v (.int .i64 x)],λ_=> [],λ_=>True,λ⟨_,x⟩=> .v (.bool (az x 65535)),λ_=> [],
  λargs mem=>match args with| [a0,a1]=>some ⟨aw (a0),aw (a1)⟩|_=>none⟩
def Z9:aT:=⟨[],(Z8).g,none⟩
def OP:OO->Prop:=λ⟨_,x⟩=>((x=x/\(65535:Int)=65535/\True)/\True/\True)/\az x 65535=az x 65535/\True
theorem YG:aU Tryz.prog aY 103 Z9:=bf (.cons yp .nil) false Tryz.call103 Tryz.func103 (λ_=> []) (V:=OP) (λ_=>by kernel_rfl) λ⟨i,x⟩ hp=>by
  dsimp only[OP,tn,ar,aD,aI,aJ,aH]
  simp only[bn,bD,eq_self,implies_true,Bool.cond_self]
structure OQ where
  (i x:Int)
def Z_:Sy.Spec:=⟨OQ,λ⟨i,x⟩=> [.v (.int .i64 i),.v (.int .i64 x)],λ_=> [],λ_=>True,λ⟨_,x⟩=> .v (.bool (az x 8||x==1)),λ_=> [],
  λargs mem=>match args with| [a0,a1]=>some ⟨aw (a0),aw (a1)⟩|_=>none⟩
def Z':aT:=⟨[],(Z_).g,none⟩
def OR:OQ->Prop:=λ⟨_,x⟩=>((x=x/\(8:Int)=8/\True)/\True/\True)/\cond (az x 8) true (x==1)=(az x 8||x==1)/\True
theorem YH:aU Tryz.prog aY 104 Z':=bf (.cons yp .nil) false Tryz.call104 Tryz.func104 (λ_=> []) (V:=OR) (λ_=>by kernel_rfl) λ⟨i,x⟩ hp=>by
  dsimp only[OR,tn,ar,aD,aI,aJ,aH]
  simp only[bn,bD,eq_self,implies_true,Bool.cond_self]
structure OS where
  (i x:Int)
def aaa:Sy.Spec:=⟨OS,λ⟨i,x⟩=> [.v (.int .i64 i),.v (.int .i64 x)],λ_=> [],λ_=>True,λ⟨_,x⟩=> .v (.bool (az x 3)),λ_=> [],
  λargs mem=>match args with| [a0,a1]=>some ⟨aw (a0),aw (a1)⟩|_=>none⟩
def aab:aT:=⟨[],(aaa).g,none⟩
def OT:OS->Prop:=λ⟨_,x⟩=>((x=x/\(3:Int)=3/\True)/\True/\True)/\az x 3=az x 3/\True
theorem YI:aU Tryz.prog aY 105 aab:=bf (.cons yp .nil) false Tryz.call105 Tryz.func105 (λ_=> []) (V:=OT) (λ_=>by kernel_rfl) λ⟨i,x⟩ hp=>by
  dsimp only[OT,tn,ar,aD,aI,aJ,aH]
  simp only[bn,bD,eq_self,implies_true,Bool.cond_self]
end Go.Proofs.YthgmgkabnffniaaGreatDoor
set_option linter.unusedVariables false
set_option linter.unusedSimpArgs false
set_option maxRecDepth 100000
namespace Go.Proofs.YthgmgkabnffniaaGreatDoor
open Go.RowKit Go.Sy
def afn (W:Wd) (i:Nat):cG where
  σ:=Nat
  rt:= []
  sh k:= [(108,.v (.int .i64 k)),(7,.v (.int .i64 (cH W i k)))]
  mh _:= []
  inv k:=k<=W.al/\ ∀j,j<=k->dK W (cH W i j)=true
  μ k:=W.al -k
  init:=0
def afm (W:Wd) (n:Nat) (l:Nat->dQ):cG where
  σ:=Nat
  rt:= []
  sh i:= [(15,.v (.int .i64 i))]
  mh _:= []
  inv i:=i<=n/\ ∀j,j<i->nU W l j=true
  μ i:=n -i
  init:=0
def afo (W:Wd) (f:Nat):cG where
  σ:=Nat
  rt:= []
  sh i:= [(95,.v (.int .i64 i))]
  mh _:= []
  inv i:=i<=W.ai f/\ ∀j,j<i->mw W f (W.lines f j)=true
  μ i:=W.ai f -i
  init:=0
def afp (W:Wd) (n:Nat) (l:Nat->Int) (i:Int):cG where
  σ:=Nat
  rt:= []
  sh k:= [(8,.v (.int .i64 k))]
  mh _:= []
  inv k:=k<=n/\ ∀j,j<k->(!fA W (l j) (i/4) (i%4))=false
  μ k:=n -k
  init:=0
theorem eqN {b:Bool} (h:b=true->False):true=!b:=by cases b<;>simp_all
theorem JP {W:Wd} {f k:Int} (hk:k≠ -1):(decide (f<0)||decide ((W.aj:Int)<=f)||W.kinds f.toNat !=k)=!(bH W f==k):=by
  rw[<-H6 hk,show decide (f<0)=!decide (0<=f) by rw[<-decide_not];exact decide_eq_decide.2 (by omega),show decide ((W.aj:Int)<=f)=!decide (f<(W.aj:Int)) by rw[<-decide_not];exact decide_eq_decide.2 (by omega)]
  simp only[bne,Bool.not_and]
theorem Ui {W:Wd} {f k:Int} (hf:0<=f) (hk:k≠ -1):(decide ((W.aj:Int)<=f)||W.kinds f.toNat !=k)=!(bH W f==k):=by
  rw[<-JP hk,show decide (f<0)=false from decide_eq_false (by omega)];rfl
theorem Z1 {s:bK} (h:(s.kind==0)=true):(s.kind==0&&(s.base==0&&(s.len==0&&(s.mark==0&&(s.cd==0&&(s.bL==0&&true))))))=(fi s==0):=by
  unfold fi dX
  rw[eq_of_beq h]
  simp only[bne]
  cases s.base==0<;>cases s.len==0<;>cases s.mark==0<;>cases s.cd==0<;>cases s.bL==0<;>rfl
theorem OB {W:Wd} {u:Int}: ∀k,cH W (jv W u) k=cH W u (k+1)
  |0=>rfl
  |k+1=>by show jv W (cH W (jv W u) k)=_;rw[OB k];rfl
def sN (W:Wd) (u:Int) (k:Nat):Nat:=bif dK W (cH W u k)then(cH W u k).toNat else W.al
theorem abK {W:Wd} {u:Int} (h: ∀j,j<=W.al->dK W (cH W u j)=true): ∀j,dK W (cH W u j)=true:=by
  have key: ∀k,sN W u k<W.al↔dK W (cH W u k)=true:=λk=>by
    unfold sN
    cases hq:dK W (cH W u k)with
    |true=>have:=mr.1 hq;simp only[cond_true,iff_true];omega
    |false=>simp
  have:=ZK W.al (λv=>bif dK W (jv W (v:Int))then(jv W (v:Int)).toNat else W.al) (sN W u) (λk hk=>by
    have a_:=(key k).1 hk
    have h2:=mr.1 a_
    have e:((sN W u k:Nat):Int)=cH W u k:=by unfold sN;rw[a_];simp only[cond_true];omega
    show sN W u (k+1)=bif dK W (jv W ((sN W u k:Nat):Int))then(jv W ((sN W u k:Nat):Int)).toNat else W.al
    rw[e];rfl) (λk hk=>(key k).2 (h k hk))
  exactλj=>(key j).1 (this j)
theorem HY {S:bK} (h0:fi S=0) (hk:S.kind≠0):1<=S.len:=by
  have h0:dX S.kind S.base S.len S.mark S.cd S.bL=0:=h0
  unfold dX sI sJ az at h0
  simp only[cond_eq_ite,bne,Bool.or_eq_true,Bool.and_eq_true,Bool.not_eq_true',decide_eq_true_eq,beq_iff_eq,beq_eq_false_iff_ne]at h0
  repeat' split at h0
  all_goals first|(cases h0;done)|omega
structure Qf where
  (i:Int) (W:Wd)
def Qg:Sy.Spec:=⟨Qf,λ⟨i,W⟩=> [.v (.int .i64 i),.ag 7 (aL (pS (W.aa i.toNat))),.pt true 1 (λ_=>dV W)],λ_=> [],λ⟨i,W⟩=>bO W/\0<=i/\i<W.al,λ⟨i,W⟩=> .v (.bool (!fy W i.toNat)),λ_=> [],
  λargs mem=>match args with| [a0,a1,a2]=>some ⟨aw (a0),dR (bQ a2 0)⟩|_=>none⟩
def abL:aT:=⟨[],(Qg).g,none⟩
def Qh:Qf->Prop:=λ⟨i,W⟩=>let a0:=W.aa (Int.toNat i);let b0:=a0.kind;let c0:=b0==0;let d0:=a0.base;let e0:=a0.len;let g0:=a0.mark;let h0:=a0.cd;let k0:=a0.bL;let l0:=a0.from_;let o0:=!fy W (Int.toNat i);let q0:Int:=i/16;let r0:=((W.aj:Nat):Int);let u0:=W.kinds (Int.toNat q0) !=5;let v0:=(((((True/\b0=b0)/\d0=d0)/\e0=e0)/\g0=g0)/\h0=h0)/\k0=k0;let w0:=dX b0 d0 e0 g0 h0 k0;let x0:=cond u0 true (w0 !=0);let y0:Int:=d0+e0;let z0:=b0 !=1;let a1:=cond x0 true (decide (r0<y0));let b1:=cond a1 true (cond z0 (W.kinds (Int.toNat d0) !=b0) false);let c1:=true=o0/\True;let d1:=l0==(-1);let e1:=false=o0/\True;let g1:=W.al;let J:=(g1:Int);let k1:=cond (decide (l0<0)) true (decide (J<=l0));let l1:=k1=false;let o1:=W.aa (Int.toNat l0);let q1:=o1.kind;let r1:=o1.base;let u1:=o1.len;let v1:=o1.mark;let w1:=o1.cd;let x1:=o1.bL;let y1:=cond k1 true (!eG {a0 with from_:=0} {o1 with from_:=0});let z1:=((Int.toNat i:Nat):Int);tn 2 (tn 5 True/\(c0=true->cond (!(c0&&(d0==0&&(e0==0&&(g0==0&&(h0==0&&(k0==0&&true))))))) true (l0 !=(-1))=o0/\True)/\(c0=false->tn 6 ((0<=i/\(0:Int)<16/\ar q0=q0)/\(0<=q0/\q0<r0)/\tn 4 ((u0=false->(v0/\True)/\True/\True)/\tn 7 ((x0=false->ar y0=y0)/\tn 20 ((z0=true->a1=false->0<=d0/\d0<r0)/\tn 3 ((b1=true->c1)/\(b1=false->(d1=true->e1)/\(d1=false->tn 23 ((l1->0<=l0/\l0<J)/\tn 2 ((l1->(v0/\((((((True/\q1=q1)/\r1=r1)/\u1=u1)/\v1=v1)/\w1=w1)/\x1=x1)/\True)/\True/\w0=0)/\(y1=true->c1)/\(y1=false->J<=9223372036854775807->0=((0:Nat):Int)/\i=cH W z1 0/\True/\(0<=g1/\(∀a2:Nat,a2<=0->dK W (cH W z1 a2)=true))/\(∀b2:Nat,
    let c2:=decide ((b2:Int)<J);let d2:=cH W z1 b2;let e2:=(W.aa (Int.toNat d2)).from_;let g2:=cond (decide (e2<0)) true (decide (J<=e2));let h2:Int:=(b2:Int)+1;b2<=g1/\(∀k2:Nat,k2<=b2->dK W (cH W z1 k2)=true)->(c2=true->(0<=d2/\d2<J)/\(g2=true->e1)/\(g2=false->ar h2=h2/\(∃l2:Nat,h2=(l2:Int)/\e2=cH W z1 l2/\True/\(l2<=g1/\(∀o2:Nat,o2<=l2->dK W (cH W z1 o2)=true))/\g1-l2<g1-b2)))/\(c2=false->c1))))))))))))))
theorem ZX:aU Tryz.prog aY 107 abL:=bf (.cons Mh (.cons Z2 .nil)) false Tryz.call107 Tryz.func107 (λ⟨i,W⟩=> [.inv (afn W i.toNat)]) (V:=Qh) (λ_=>by kernel_rfl) λ⟨i,W⟩ hp=>by
  dsimp only[Qg]at hp
  dsimp only[Qh,tn,ar,aD,aI,aJ,aH]
  obtain⟨hz,i0,i1⟩:=hp
  obtain⟨I,rfl⟩: ∃I:Nat,i=I:=⟨i.toNat,by omega⟩
  simp only[bn,bD,eq_self,implies_true,Bool.cond_self]
  have rZ:((I:Int)/16).toNat=I/16:=by omega
  rw[rZ,show fy W I=mG W I (W.aa I)from rfl]
  simp only[XO]
  have C7:=hz.aa
  have zC:=hz.k1
  have LZ:=hz.k0
  have hI:dK W (I:Int)=true:=mr.2 ⟨by omega,by omega⟩
  have C8:jv W (I:Int)=(W.aa I).from_:=by rw[EI hI,Int.toNat_natCast]
  obtain⟨S,hS⟩: ∃S,S=W.aa I:=⟨_,rfl⟩
  simp only[<-hS]at C8⊢
  refine⟨λh=>?_,λh=>⟨⟨by decide,by rw[IntKind.wrap_i64];omega⟩,by omega,λJ=>?_,λJ h2=>?_,λJ=>?_,λJ=>?_⟩⟩
  · rw[Z1 h];unfold mG;rw[h]
    cases fi S==0<;>cases hq:S.from_== -1<;>simp[bne,hq]
  · simp only[Bool.or_eq_false_iff,bne_eq_false_iff_eq]at J
    have:=kN J.2
    rw[IntKind.wrap_i64];omega
  · simp only[Bool.or_eq_false_iff,bne_eq_false_iff_eq,decide_eq_false_iff_not]at h2
    have:=kN h2.1.2
    have hlen:=HY h2.1.2 (by simpa using h)
    omega
  · refine eqN λht=>?_
    rw[Hq h]at ht
    simp only[Bool.and_eq_true,Bool.or_eq_true,beq_iff_eq,decide_eq_true_eq,bne_iff_ne,ne_eq]at ht J
    omega
  rw[Bool.or_eq_false_iff]at J
  obtain⟨J,h2⟩:=J
  have T:W.kinds (I/16)=5/\fi S=0/\S.base+S.len<=W.aj:=by
    simp only[Bool.or_eq_false_iff,bne_eq_false_iff_eq,decide_eq_false_iff_not]at J
    exact⟨J.1.1,J.1.2,by omega⟩
  obtain⟨T1,T2,T3⟩:=T
  have T4:(S.kind==1||W.kinds S.base.toNat==S.kind)=true:=by
    revert h2
    simp only[bne]
    cases S.kind==1<;>cases W.kinds S.base.toNat==S.kind<;>simp
  have core:mG W I S=(S.from_== -1||(dK W S.from_&&eG S (W.aa S.from_.toNat)&&!dK W (cH W S.from_ W.al))):=by
    rw[Hq h,T4,show(W.kinds (I/16)==5)=true from beq_iff_eq.2 T1,show(fi S==0)=true from beq_iff_eq.2 T2,show decide (S.base+S.len<=W.aj)=true from decide_eq_true T3]
    simp
  rw[core]
  refine⟨λh3=>by rw[h3];rfl,λh3=>?_⟩
  rw[h3,Uj]
  obtain⟨p,hp⟩: ∃p,p=W.aa S.from_.toNat:=⟨_,rfl⟩
  simp only[<-hp]
  rw[show eG ⟨S.kind,S.base,S.len,S.mark,S.cd,S.bL,0⟩ ⟨p.kind,p.base,p.len,p.mark,p.cd,p.bL,0⟩=eG S p from rfl]
  refine⟨λh4=>?_,λ_=>T2,λh4=>?_,λh4 _=>?_⟩
  · exact mr.1 (jI h4)
  · revert h4;cases dK W S.from_<;>cases eG S p<;>simp
  have a_:dK W S.from_=true:=by revert h4;cases dK W S.from_<;>simp
  have Cy:eG S p=true:=by revert h4;cases eG S p<;>simp
  rw[a_,Cy]
  have e1: ∀k,cH W S.from_ k=cH W (I:Int) (k+1):=λk=>by rw[<-C8];exact OB k
  rw[e1]
  refine⟨rfl,λj hj=>?_,λs hs=>⟨λh5=>?_,λh5=>?_⟩⟩
  · obtain rfl:j=0:=by omega
    exact hI
  · have av:=fO h5
    have hi:=hs.2 s (Nat.le_refl _)
    have bC:(W.aa (cH W (I:Int) s).toNat).from_=cH W (I:Int) (s+1):=(EI hi).symm
    simp only[bC,Uj]
    refine⟨mr.1 hi,λh6=>?_,λh6=>⟨by rw[IntKind.wrap_i64];omega,fB ⟨rfl,⟨by omega,λj hj=>?_⟩,by omega⟩⟩⟩
    · have h7:=wX h6
      rw[PS h7 (show s+1<=W.al+1 by omega),h7];rfl
    · rcases Nat.lt_or_ge j (s+1)with h8|h8
      · exact hs.2 j (by omega)
      · obtain rfl:j=s+1:=by omega
        exact jI h6
  · have dz:=ga h5
    rw[abK (u:=(I:Int)) (λj hj=>hs.2 j (by omega)) (W.al+1)];rfl
structure OC where
  (i:Int) (W:Wd)
def OD:Sy.Spec:=⟨OC,λ⟨i,W⟩=> [.v (.int .i64 i),.sl true 1 (W.ai i.toNat) (iF (W.lines i.toNat)),.pt true 1 (λ_=>dV W)],λ_=> [],λ⟨i,W⟩=>bO W/\p6 W/\0<=i/\i<W.aj,λ⟨i,W⟩=> .v (.bool (!fN W i.toNat)),λ_=> [],
  λargs mem=>match args with| [a0,a1,a2]=>some ⟨aw (a0),dR (bQ a2 0)⟩|_=>none⟩
def Z3:aT:=⟨[],(OD).g,none⟩
def OE:OC->Prop:=λ⟨i,W⟩=>let a0:=((W.aj:Nat):Int);let b0:=0<=i/\i<a0;let c0:=Int.toNat i;let d0:=W.kinds c0;let e0:=d0 !=7;let g0:=d0 !=8;let h0:=W.ai c0;let k0:=(h0:Int);let l0:=decide (0<k0);let o0:=cond (cond e0 g0 false) l0 false;let q0:=o0=false;let r0:=0<=i/\i<((W.aN:Nat):Int);let u0:=W.bits c0;let v0:=u0 !=0;let w0:=cond o0 true (cond g0 v0 false);let x0:=w0=false;let y0:=cond w0 true (az u0 65535);let z0:=y0=false;let a1:=cond (d0==8) l0 false;let b1:=cond y0 true (cond a1 v0 false);let c1:=!fN W c0;let d1:=true=c1/\True;let e1:=((W.aP:Nat):Int);let g1:=W.lines c0 (Int.toNat 0);let J:=(W.tasks (Int.toNat g1)).st==4;b0/\(e0=true->b0)/\(q0->b0)/\(g0=true->q0->r0)/\(x0->r0)/\(x0->(u0=u0/\(65535:Int)=65535/\True)/\True/\True)/\(z0->b0)/\(a1=true->z0->r0)/\(b1=true->d1)/\(b1=false->k0<=9223372036854775807->0=((0:Nat):Int)/\True/\(0<=h0/\(∀k1:Nat,k1<0->mw W c0 (W.lines c0 k1)=true))/\(∀l1:Nat,let o1:=(l1:Int);let q1:=decide (o1<k0);let r1:=W.lines c0 (Int.toNat o1);let u1:=cond (decide (r1<0)) true (decide (a0<=r1));let v1:=0<=r1;let w1:=Int.toNat r1;let x1:=cond u1 true (W.kinds w1 !=6);let y1:=v1/\r1<e1;let z1:=W.tasks w1;let a2:=cond x1 true (z1.loc !=i);let b2:=a2=false;let c2:=cond a2 true ((z1.st==4) !=J);let d2:Int:=o1+1;l1<=h0/\(∀e2:Nat,e2<l1->mw W c0 (W.lines c0 e2)=true)->(q1=true->(0<=o1/\o1<k0)/\tn 19 ((u1=false->v1/\r1<a0)/\tn 10 ((x1=false->y1)/\tn 12 ((b2->y1)/\tn 9 ((b2->(0:Int)<=0/\0<k0)/\True/\(b2->0<=g1/\g1<e1)/\tn 3 ((c2=true->d1)/\(c2=false->ar d2=d2/\(∃g2:Nat,d2=(g2:Int)/\True/\(g2<=h0/\(∀h2:Nat,h2<g2->
    mw W c0 (W.lines c0 h2)=true))/\h0-g2<h0-l1))))))))/\(q1=false->false=c1/\True)))
theorem YL:aU Tryz.prog aY 118 Z3:=bf (.cons yp .nil) false Tryz.call118 Tryz.func118 (λ⟨i,W⟩=> [.inv (afo W i.toNat)]) (V:=OE) (λ_=>by kernel_rfl) λ⟨i,W⟩ hp=>by
  dsimp only[OD]at hp
  dsimp only[OE,tn,ar,aD,aI,aJ,aH]
  obtain⟨hz,hm,f0,f1⟩:=hp
  obtain⟨F,rfl⟩: ∃F:Nat,i=F:=⟨i.toNat,by omega⟩
  simp only[bn,bD,eq_self,implies_true,Bool.cond_self]
  have C7:=hz.tasks
  have zC:=hz.k1
  have LZ:=hz.lines
  have hz4:=hz.bits
  have hL:=hm.1 F (by omega)
  rw[show decide ((0:Int)<(W.ai F:Int))=decide (0<W.ai F)from decide_eq_decide.2 (by omega)]
  have eA:(W.kinds F !=7&&W.kinds F !=8&&decide (0<W.ai F)||W.kinds F !=8&&W.bits F !=0||az (W.bits F) 65535||W.kinds F==8&&decide (0<W.ai F)&&W.bits F !=0)=!(!(decide (0<W.ai F)&&W.kinds F !=7&&W.kinds F !=8)&&!(W.bits F !=0&&(W.kinds F !=8||decide (0<W.ai F)))&&!az (W.bits F) 65535):=by
    simp only[bne]
    cases W.kinds F==7<;>cases W.kinds F==8<;>cases decide (0<W.ai F)<;>cases W.bits F==0<;>cases az (W.bits F) 65535<;>rfl
  rw[eA]
  refine⟨by omega,λ_=>by omega,λ_=>by omega,λ_ _=>by omega,λ_=>by omega,λ_=>by omega,λ_ _=>by omega,λh=>?_,λh _ s hs=>?_⟩
  · unfold fN;rw[wX h];rfl
  have core:fN W F=g_ (W.ai F) λi=>mw W F (W.lines F i):=by unfold fN;rw[jI h];rfl
  rw[core]
  refine⟨λJ=>?_,λJ=>?_⟩
  · have av:=fO J
    rw[JP (k:=6) (by decide)]
    have hr: ∀t,(bH W t==6)=true->0<=t/\t<W.aP:=λt h=>by rw[C7];exact iO (by rw[eq_of_beq h];decide)
    have h00:(bH W (W.lines F s)==6)=true->0<=W.lines F 0/\W.lines F 0<W.aP:=λh6=>by
      rcases Nat.eq_zero_or_pos s with h|h
      · subst h;exact hr _ h6
      · have:=hs.2 0 h
        unfold mw at this
        simp only[Bool.and_eq_true]at this
        exact hr _ this.1.1
    have ht:mw W F (W.lines F s)=!(!(bH W (W.lines F s)==6)||(W.tasks (W.lines F s).toNat).loc !=F||(((W.tasks (W.lines F s).toNat).st==4) !=((W.tasks (W.lines F 0).toNat).st==4))):=by
      unfold mw lu;simp only[bne,Bool.not_or,Bool.not_not]
    have o1: ∀{a b:Bool},(!a||b)=false->a=true:=λ{a b} h=>by revert h;cases a<;>cases b<;>simp
    refine⟨by omega,λh2=>?_,λh2=>hr _ (jI h2),λh2=>hr _ (o1 h2),λh2=>⟨by decide,by omega⟩,λh2=>h00 (o1 h2),λh2=>?_,λh2=>⟨by rw[IntKind.wrap_i64];omega,fB ⟨⟨by omega,Ua hs.2 ?_⟩,by omega⟩⟩⟩
    · simp only[Bool.or_eq_false_iff,decide_eq_false_iff_not]at h2;omega
    · rw[GH (p:=λi=>mw W F (W.lines F i)) av (by show mw W F (W.lines F s)=false;rw[ht];exact congrArg (!·) h2)];rfl
    · rw[ht];exact congrArg (!·) h2
  · have dz:=ga J
    obtain rfl:s=W.ai F:=by omega
    rw[Oc hs.2];rfl
structure DW where
  (i x:Int) (W:Wd)
def Hr:Sy.Spec:=⟨DW,λ⟨i,x,W⟩=> [.v (.int .i64 i),.v (.int .i64 x),.pt true 1 (λ_=> .fn 119 1 (aL [.pt true 1 (λ_=>dV W)]))],λ_=> [],λ⟨_,_,W⟩=>bO W,λ⟨i,x,W⟩=> .v (.bool (x != -1&&!fA W x i (-1))),λ_=> [],
  λargs mem=>match args with| [a0,a1,a2]=>some ⟨aw (a0),aw (a1),dR (bQ (fl (bQ a2 0) 0) 0)⟩|_=>none⟩
def Z4:aT:=⟨[],(Hr).g,none⟩
def OF:DW->Prop:=λ⟨i,x,W⟩=>let a0:=W.aj;let b0:=W.al;let c0:=W.aP;let d0:=W.aW;let e0:=W.aC;let g0:=W.aS;let h0:=!fA W x i (-1);((x !=(-1))=true->(x=x/\i=i/\((-1):Int)=(-1)/\(True/\((((((((((True/\W.ay=W.ay/\(∀k0:Nat,k0<W.ay->True/\W.af k0=W.af k0))/\a0=a0/\(∀l0:Nat,l0<a0->True/\W.kinds l0=W.kinds l0))/\b0=b0/\(∀o0:Nat,o0<b0->aJ (W.aa o0) (W.aa o0)))/\c0=c0/\(∀q0:Nat,q0<c0->aI (W.tasks q0) (W.tasks q0)))/\d0=d0/\(∀r0:Nat,let u0:=W.ai r0;r0<d0->True/\u0=u0/\(∀v0:Nat,v0<u0->True/\W.lines r0 v0=W.lines r0 v0)))/\W.aN=W.aN/\(∀w0:Nat,w0<W.aN->True/\W.bits w0=W.bits w0))/\e0=e0/\(∀x0:Nat,x0<e0->True/\W.ak x0=W.ak x0))/\g0=g0/\(∀y0:Nat,let z0:=W.aq y0;y0<g0->True/\z0=z0/\(∀a1:Nat,a1<z0->True/\W.ready y0 a1=W.ready y0 a1)))/\W.aQ=W.aQ/\(∀b1:Nat,let c1:=W.aG b1;b1<W.aQ->True/\c1=c1/\(∀d1:Nat,d1<c1->aH (W.aA b1 d1) (W.aA b1 d1))))/\W.aK=W.aK/\(∀e1:Nat,e1<W.aK->True/\W.aB e1=W.aB e1))/\W.time=W.time)/\True)/\True/\El.match_1 (λg1:yq=>Prop) (yq.mk x i (-1) W) (λJ:Int=>λk1:Int=>λl1:Int=>λo1:Wd=>bO o1))/\cond (x !=(-1)) h0 false=(x !=(-1)&&h0)/\True
theorem YJ:aU Tryz.prog aY 120 Z4:=bf (.cons OG .nil) false Tryz.call120 Tryz.func120 (λ_=> []) (V:=OF) (λ_=>by kernel_rfl) λ⟨i,x,W⟩ hp=>by
  dsimp only[Hr]at hp
  dsimp only[OF,tn,ar,aD,aI,aJ,aH]
  simp only[bn,bD,eq_self,implies_true,Bool.cond_self]
  exactλ_=>hp
structure NH where
  (t:Int) (W:Wd) (i:Int)
def NI:Sy.Spec:=⟨NH,λ⟨t,W,i⟩=> [.v (.int .i64 t),.pt true 1 (λ_=> .fn 119 1 (aL [.pt true 1 (λ_=>dV W)])),.pt true 1 (λ_=> .v (.int .i64 i))],λ_=> [],λ⟨_,W,i⟩=>bO W/\0<=i/\i<=100000,λ⟨t,W,i⟩=> .v (.bool (!fA W t (i/4) (i%4))),λ_=> [],
  λargs mem=>match args with| [a0,a1,a2]=>some ⟨aw (a0),dR (bQ (fl (bQ a1 0) 0) 0),aw (bQ a2 0)⟩|_=>none⟩
def YR:aT:=⟨[],(NI).g,none⟩
def NJ:NH->Prop:=λ⟨t,W,i⟩=>let a0:Int:=i/4;let b0:Int:=i%4;let c0:=W.aj;let d0:=W.al;let e0:=W.aP;let g0:=W.aW;let h0:=W.aC;let k0:=W.aS;let l0:=!fA W t a0 b0;(0<=i/\(0:Int)<4/\ar a0=a0)/\(0<=i/\(0:Int)<4)/\((t=t/\a0=a0/\b0=b0/\(True/\((((((((((True/\W.ay=W.ay/\(∀o0:Nat,o0<W.ay->True/\W.af o0=W.af o0))/\c0=c0/\(∀q0:Nat,q0<c0->True/\W.kinds q0=W.kinds q0))/\d0=d0/\(∀r0:Nat,r0<d0->aJ (W.aa r0) (W.aa r0)))/\e0=e0/\(∀u0:Nat,u0<e0->aI (W.tasks u0) (W.tasks u0)))/\g0=g0/\(∀v0:Nat,let w0:=W.ai v0;v0<g0->True/\w0=w0/\(∀x0:Nat,x0<w0->True/\W.lines v0 x0=W.lines v0 x0)))/\W.aN=W.aN/\(∀y0:Nat,y0<W.aN->True/\W.bits y0=W.bits y0))/\h0=h0/\(∀z0:Nat,z0<h0->True/\W.ak z0=W.ak z0))/\k0=k0/\(∀a1:Nat,let b1:=W.aq a1;a1<k0->True/\b1=b1/\(∀c1:Nat,c1<b1->True/\W.ready a1 c1=W.ready a1 c1)))/\W.aQ=W.aQ/\(∀d1:Nat,let e1:=W.aG d1;d1<W.aQ->True/\e1=e1/\(∀g1:Nat,g1<e1->aH (W.aA d1 g1) (W.aA d1 g1))))/\W.aK=W.aK/\(∀J:Nat,J<W.aK->True/\W.aB J=W.aB J))/\W.time=W.time)/\True)/\True/\El.match_1 (λk1:yq=>Prop) (yq.mk t a0 b0 W) (λl1:Int=>λo1:Int=>λq1:Int=>λr1:Wd=>bO r1))/\l0=l0/\True
theorem XP:aU Tryz.prog aY 123 YR:=bf (.cons OG .nil) false Tryz.call123 Tryz.func123 (λ_=> []) (V:=NJ) (λ_=>by kernel_rfl) λ⟨t,W,i⟩ hp=>by
  dsimp only[NI]at hp
  dsimp only[NJ,tn,ar,aD,aI,aJ,aH]
  simp only[bn,bD,eq_self,implies_true,Bool.cond_self]
  exact⟨⟨hp.2.1,by decide,by rw[IntKind.wrap_i64];omega⟩,⟨hp.2.1,by decide⟩,hp.1⟩
structure Sz where
  (n:Nat) (l:Nat->Int) (W:Wd) (i:Int)
def SA:Sy.Spec:=⟨Sz,λ⟨n,l,W,i⟩=> [.sl true 1 n (λi_ _=> .v (.int .i64 (l i_))),.fn 123 2 (aL [.pt true 1 (λ_=> .fn 119 1 (aL [.pt true 1 (λ_=>dV W)])),.pt true 1 (λ_=> .v (.int .i64 i))])],λ_=> [],λ⟨n,_,W,i⟩=>bO W/\0<=i/\i<=100000/\n<=100000,λ⟨n,l,W,i⟩=> .v (.int .i64 (gz n λk=>!fA W (l k) (i/4) (i%4))),λ_=> [],
  λargs mem=>match args with| [a0,a1]=>some ⟨bX a0,λi=>aw (bN a0 i 0),dR (bQ (fl (bQ (fl a1 0) 0) 0) 0),aw (bQ (fl a1 1) 0)⟩|_=>none⟩
def adt:aT:=⟨[],(SA).g,none⟩
def SB:Sz->Prop:=λ⟨n,l,W,i⟩=>let a0:=(n:Int);let b0:Int:=i/4;let c0:Int:=i%4;let d0:=W.aj;let e0:=W.al;let g0:=W.aP;let h0:=W.aW;let k0:=W.aC;let l0:=W.aS;let o0:=gz n (λq0:Nat=>!fA W (l q0) b0 c0);a0<=9223372036854775807->0=((0:Nat):Int)/\True/\(0<=n/\(∀r0:Nat,r0<0->(!fA W (l r0) b0 c0)=false))/\(∀u0:Nat,let v0:=(u0:Int);let w0:=decide (v0<a0);let x0:Int:=l (Int.toNat v0);let y0:=!fA W x0 b0 c0;let z0:Int:=v0+1;u0<=n/\(∀a1:Nat,a1<u0->(!fA W (l a1) b0 c0)=false)->(w0=true->(0<=v0/\v0<a0)/\((x0=x0/\tn 3 (((((((((((True/\W.ay=W.ay/\(∀b1:Nat,b1<W.ay->True/\W.af b1=W.af b1))/\d0=d0/\(∀c1:Nat,c1<d0->True/\W.kinds c1=W.kinds c1))/\e0=e0/\(∀d1:Nat,d1<e0->aJ (W.aa d1) (W.aa d1)))/\g0=g0/\(∀e1:Nat,e1<g0->aI (W.tasks e1) (W.tasks e1)))/\h0=h0/\(∀g1:Nat,let J:=W.ai g1;g1<h0->True/\J=J/\(∀k1:Nat,k1<J->True/\W.lines g1 k1=W.lines g1 k1)))/\W.aN=W.aN/\(∀l1:Nat,l1<W.aN->True/\W.bits l1=W.bits l1))/\k0=k0/\(∀o1:Nat,o1<k0->True/\W.ak o1=W.ak o1))/\l0=l0/\(∀q1:Nat,let r1:=W.aq q1;q1<l0->True/\r1=r1/\(∀u1:Nat,u1<r1->True/\W.ready q1 u1=W.ready q1 u1)))/\W.aQ=W.aQ/\(∀v1:Nat,let w1:=W.aG v1;v1<W.aQ->True/\w1=w1/\(∀x1:Nat,x1<w1->aH (W.aA v1 x1) (W.aA v1 x1))))/\W.aK=W.aK/\(∀y1:Nat,y1<W.aK->True/\W.aB y1=W.aB y1))/\W.time=W.time)/\(True/\i=i)/\True)/\True/\bO W/\0<=i/\i<=100000)/\(y0=true->v0=o0/\True)/\(y0=false->ar z0=z0/\(∃z1:Nat,z0=(z1:Int)/\True/\(z1<=n/\(∀a2:Nat,a2<z1->(!fA W (l a2) b0 c0)=false))/\n-z1<n-u0)))/\(w0=false->(-1)=o0/\True))
theorem abM:aU Tryz.prog aY 85 adt:=bf (.cons XP .nil) false Tryz.call85 Tryz.func85 (λ⟨n,l,W,i⟩=> [.inv (afp W n l i)]) (V:=SB) (λ_=>by kernel_rfl) λ⟨n,l,W,i⟩ hp=>by
  dsimp only[SA]at hp
  dsimp only[SB,tn,ar,aD,aI,aJ,aH]
  simp only[bn,bD,eq_self,implies_true,Bool.cond_self]
  refineλhn s hs=>⟨λh=>?_,λh=>?_⟩
  · have av:=fO h
    exact⟨by omega,⟨hp.1,hp.2.1,hp.2.2.1⟩,λh=>(Ej (p:=λk=>!fA W (l k) (i/4) (i%4)) hs.2 h av).symm,λh=>⟨by rw[IntKind.wrap_i64];omega,fB ⟨⟨by omega,jU (p:=λk=>!fA W (l k) (i/4) (i%4)) hs.2 h⟩,by omega⟩⟩⟩
  · have dz:=ga h
    obtain rfl:s=n:=by omega
    exact(yd (p:=λk=>!fA W (l k) (i/4) (i%4)) hs.2).symm
structure SC where
  (n:Nat) (l:Nat->Int) (W:Wd) (i:Int)
def SD:Sy.Spec:=⟨SC,λ⟨n,l,W,i⟩=> [.sl true 1 n (λi_ _=> .v (.int .i64 (l i_))),.fn 123 2 (aL [.pt true 1 (λ_=> .fn 119 1 (aL [.pt true 1 (λ_=>dV W)])),.pt true 1 (λ_=> .v (.int .i64 i))])],λ_=> [],λ⟨n,_,W,i⟩=>bO W/\0<=i/\i<=100000/\n<=100000,λ⟨n,l,W,i⟩=> .v (.bool (dY n λk=>!fA W (l k) (i/4) (i%4))),λ_=> [],
  λargs mem=>match args with| [a0,a1]=>some ⟨bX a0,λi=>aw (bN a0 i 0),dR (bQ (fl (bQ (fl a1 0) 0) 0) 0),aw (bQ (fl a1 1) 0)⟩|_=>none⟩
def adu:aT:=⟨[],(SD).g,none⟩
def SE:SC->Prop:=λ⟨n,l,W,i⟩=>let a0:=W.aj;let b0:=W.al;let c0:=W.aP;let d0:=W.aW;let e0:=W.aC;let g0:=W.aS;(((n=n/\(∀h0:Nat,h0<n->True/\l h0=l h0))/\(tn 4 (((((((((((True/\W.ay=W.ay/\(∀k0:Nat,k0<W.ay->True/\W.af k0=W.af k0))/\a0=a0/\(∀l0:Nat,l0<a0->True/\W.kinds l0=W.kinds l0))/\b0=b0/\(∀o0:Nat,o0<b0->aJ (W.aa o0) (W.aa o0)))/\c0=c0/\(∀q0:Nat,q0<c0->aI (W.tasks q0) (W.tasks q0)))/\d0=d0/\(∀r0:Nat,let u0:=W.ai r0;r0<d0->True/\u0=u0/\(∀v0:Nat,v0<u0->True/\W.lines r0 v0=W.lines r0 v0)))/\W.aN=W.aN/\(∀w0:Nat,w0<W.aN->True/\W.bits w0=W.bits w0))/\e0=e0/\(∀x0:Nat,x0<e0->True/\W.ak x0=W.ak x0))/\g0=g0/\(∀y0:Nat,let z0:=W.aq y0;y0<g0->True/\z0=z0/\(∀a1:Nat,a1<z0->True/\W.ready y0 a1=W.ready y0 a1)))/\W.aQ=W.aQ/\(∀b1:Nat,let c1:=W.aG b1;b1<W.aQ->True/\c1=c1/\(∀d1:Nat,d1<c1->aH (W.aA b1 d1) (W.aA b1 d1))))/\W.aK=W.aK/\(∀e1:Nat,e1<W.aK->True/\W.aB e1=W.aB e1))/\W.time=W.time)/\True/\i=i)/\True)/\True/\bO W/\0<=i/\i<=100000/\n<=100000)/\decide (0<=gz n (λg1:Nat=>!fA W (l g1) (i/4) (i%4)))=dY n (λJ:Nat=>!fA W (l J) (i/4) (i%4))/\True
theorem abN:aU Tryz.prog aY 122 adu:=bf (.cons abM .nil) false Tryz.call122 Tryz.func122 (λ_=> []) (V:=SE) (λ_=>by kernel_rfl) λ⟨n,l,W,i⟩ hp=>by
  dsimp only[SD]at hp
  dsimp only[SE,tn,ar,aD,aI,aJ,aH]
  simp only[bn,bD,eq_self,implies_true,Bool.cond_self]
  refine⟨hp,?_⟩
  cases hq:dY n λk=>!fA W (l k) (i/4) (i%4)with
  |false=>rw[yd (nY.1 hq)];rfl
  |true=>
   obtain⟨j,hj,h⟩:=qt.1 hq
   have:=uh (p:=λk=>!fA W (l k) (i/4) (i%4)) hj h
   unfold gz
   rw[ji this]
   exact decide_eq_true (Int.natCast_nonneg _)
structure OH where
  (i:Int) (W:Wd)
def OI:Sy.Spec:=⟨OH,λ⟨i,W⟩=> [.v (.int .i64 i),.sl true 1 (W.aq i.toNat) (iF (W.ready i.toNat)),.pt true 1 (λ_=> .fn 119 1 (aL [.pt true 1 (λ_=>dV W)]))],λ_=> [],λ⟨i,W⟩=>bO W/\p6 W/\0<=i/\i<W.aS,λ⟨i,W⟩=> .v (.bool (!ik W i.toNat)),λ_=> [],
  λargs mem=>match args with| [a0,a1,a2]=>some ⟨aw (a0),dR (bQ (fl (bQ a2 0) 0) 0)⟩|_=>none⟩
def Z5:aT:=⟨[],(OI).g,none⟩
def OJ:OH->Prop:=λ⟨i,W⟩=>let a0:=Int.toNat i;let b0:=W.aq a0;let c0:=W.aj;let d0:=W.al;let e0:=W.aP;let g0:=W.aW;let h0:=W.aC;let k0:=W.aS;True/\(((b0=b0/\(∀l0:Nat,l0<b0->True/\W.ready a0 l0=W.ready a0 l0))/\(tn 4 (((((((((((True/\W.ay=W.ay/\(∀o0:Nat,o0<W.ay->True/\W.af o0=W.af o0))/\c0=c0/\(∀q0:Nat,q0<c0->True/\W.kinds q0=W.kinds q0))/\d0=d0/\(∀r0:Nat,r0<d0->aJ (W.aa r0) (W.aa r0)))/\e0=e0/\(∀u0:Nat,u0<e0->aI (W.tasks u0) (W.tasks u0)))/\g0=g0/\(∀v0:Nat,let w0:=W.ai v0;v0<g0->True/\w0=w0/\(∀x0:Nat,x0<w0->True/\W.lines v0 x0=W.lines v0 x0)))/\W.aN=W.aN/\(∀y0:Nat,y0<W.aN->True/\W.bits y0=W.bits y0))/\h0=h0/\(∀z0:Nat,z0<h0->True/\W.ak z0=W.ak z0))/\k0=k0/\(∀a1:Nat,let b1:=W.aq a1;a1<k0->True/\b1=b1/\(∀c1:Nat,c1<b1->True/\W.ready a1 c1=W.ready a1 c1)))/\W.aQ=W.aQ/\(∀d1:Nat,let e1:=W.aG d1;d1<W.aQ->True/\e1=e1/\(∀g1:Nat,g1<e1->aH (W.aA d1 g1) (W.aA d1 g1))))/\W.aK=W.aK/\(∀J:Nat,J<W.aK->True/\W.aB J=W.aB J))/\W.time=W.time)/\True/\i=i)/\True)/\True/\bO W/\0<=i/\i<=100000/\b0<=100000)/\dY b0 (λk1:Nat=>!fA W (W.ready a0 k1) (i/4) (i%4))=(!ik W a0)/\True
theorem YM:aU Tryz.prog aY 121 Z5:=bf (.cons abN .nil) false Tryz.call121 Tryz.func121 (λ_=> []) (V:=OJ) (λ_=>by kernel_rfl) λ⟨i,W⟩ hp=>by
  dsimp only[OI]at hp
  dsimp only[OJ,tn,ar,aD,aI,aJ,aH]
  obtain⟨hz,hm,i0,i1⟩:=hp
  obtain⟨I,rfl⟩: ∃I:Nat,i=I:=⟨i.toNat,by omega⟩
  simp only[bn,bD,eq_self,implies_true,Bool.cond_self]
  have C7:=hz.ready
  have zC:=hz.c1
  have:=hm.2.1 I (by omega)
  refine⟨⟨hz,by omega,by omega⟩,?_⟩
  rw[show((I:Int)/4)=((I/4:Nat):Int) by omega,show((I:Int)%4)=((I%4:Nat):Int) by omega]
  unfold dY ik
  simp only[Bool.not_not]
structure Qi where
  (i:Int) (W:Wd)
def Qj:Sy.Spec:=⟨Qi,λ⟨i,W⟩=> [.v (.int .i64 i),.v (.int .i64 (W.af i.toNat)),.pt true 1 (λ_=>dV W)],λ_=> [],λ⟨i,W⟩=>bO W/\0<=i/\i<W.ay/\p5 (W.af i.toNat),λ⟨i,W⟩=> .v (.bool (!gU W i.toNat)),λ_=> [],
  λargs mem=>match args with| [a0,a1,a2]=>some ⟨aw (a0),dR (bQ a2 0)⟩|_=>none⟩
def abO:aT:=⟨[],(Qj).g,none⟩
def Qk:Qi->Prop:=λ⟨i,W⟩=>let a0:Int:=i/16;let b0:=((W.aj:Nat):Int);let c0:=W.kinds (Int.toNat a0);let d0:=W.af (Int.toNat i);let e0:=cond (cond (c0 !=3) (c0 !=4) false) true (d0==0);let g0:=!gU W (Int.toNat i);let h0:=c0==4;let k0:=dq BinOp.and IntKind.i64 d0 1023;let l0:=decide (b0<=k0);let o0:=cond (dq BinOp.andNot IntKind.i64 d0 1023 !=32768) true l0;let q0:=0<=k0/\k0<b0;let r0:=W.kinds (Int.toNat k0);let u0:=cond (dq BinOp.andNot IntKind.i64 d0 17407 !=32768) true l0;(0<=i/\(0:Int)<16/\ar a0=a0)/\(0<=a0/\a0<b0)/\(e0=true->false=g0/\True)/\(e0=false->(h0=true->(o0=false->q0)/\cond o0 true (r0 !=3)=g0/\True)/\(h0=false->(u0=false->q0)/\cond u0 true (r0 !=2)=g0/\True))
theorem ZW:aU Tryz.prog aY 124 abO:=bf .nil false Tryz.call124 Tryz.func124 (λ_=> []) (V:=Qk) (λ_=>by kernel_rfl) λ⟨i,W⟩ hp=>by
  dsimp only[Qj]at hp
  dsimp only[Qk,tn,ar,aD,aI,aJ,aH]
  obtain⟨hz,i0,i1,hw⟩:=hp
  obtain⟨I,rfl⟩: ∃I:Nat,i=I:=⟨i.toNat,by omega⟩
  simp only[bn,bD,eq_self,implies_true,Bool.cond_self]
  have rZ:((I:Int)/16).toNat=I/16:=by omega
  rw[rZ]
  rw[Int.toNat_natCast]at hw
  unfold p5 at hw
  have C7:=hz.af
  have zC:=hz.k1
  have zi:dq .and .i64 (W.af I) 1023=W.af I%1024:=IK 10 (x:=W.af I) (by omega) (by decide)
  simp only[MQ hw.1 hw.2,Xo hw.1 hw.2,zi]
  have hy:0<=W.af I%1024:=by omega
  have eN:gU W I=(W.kinds (I/16) !=3&&W.kinds (I/16) !=4||W.af I==0||(bif W.kinds (I/16)==4 then W.af I -W.af I%1024==32768&&bH W (W.af I%1024)==3 else(W.af I -W.af I%1024==32768||W.af I -W.af I%1024==49152)&&bH W (W.af I%1024)==2)):=by
    simp only[gU];rw[Bool.or_comm (W.af I==0)]
  refine⟨⟨by decide,by rw[IntKind.wrap_i64];omega⟩,by omega,λh=>by rw[eN,h];rfl,λh=>⟨λJ=>⟨λh2=>?_,?_⟩,λJ=>⟨λh2=>?_,?_⟩⟩⟩
  · simp only[Bool.or_eq_false_iff,decide_eq_false_iff_not]at h2;omega
  · rw[eN,h,J,Bool.or_assoc,Ui hy (by decide)];simp only[bne,cond_true,Bool.false_or,Bool.not_and]
  · simp only[Bool.or_eq_false_iff,decide_eq_false_iff_not]at h2;omega
  · rw[eN,h,J,Bool.or_assoc,Ui hy (by decide)]
    have ez:((W.af I -W.af I%1024 -(W.af I -W.af I%1024)/16384%2*16384) !=32768)=!(W.af I -W.af I%1024==32768||W.af I -W.af I%1024==49152):=by
      rw[bne];congr 1
      rw[Bool.eq_iff_iff]
      simp only[Bool.or_eq_true,beq_iff_eq]
      omega
    rw[ez];simp only[cond_false,Bool.false_or,Bool.not_and]
end Go.Proofs.YthgmgkabnffniaaGreatDoor
set_option linter.unusedVariables false
set_option linter.unusedSimpArgs false
set_option maxRecDepth 100000
namespace Go.Proofs.YthgmgkabnffniaaGreatDoor
open Go.RowKit Go.Sy
def jy (sp pg:Int) (e:dQ):Bool:=e.sp==sp&&e.pg==pg
def Am:dQ:=⟨0,0,0,false⟩
def Ao (n:Nat) (t:Nat->dQ) (sp pg:Int):dQ:=bif Nat.blt (dG n λi=>jy sp pg (t i)) n then t (dG n λi=>jy sp pg (t i))else Am
def Al (n:Nat) (t:Nat->dQ) (sp pg:Int):Bool:=Nat.blt (dG n λi=>jy sp pg (t i)) n
def anQ (n:Nat) (p:Nat->Bool):cG where
  σ:=Nat
  rt:= []
  sh i:= [(8,.v (.int .i64 i))]
  mh _:= []
  inv i:=i<=n/\ ∀j,j<i->p j=false
  μ i:=n -i
  init:=0
structure Qp where
  (e:dQ) (sp pg:Int)
def abR:Sy.Spec:=⟨Qp,λ⟨e,sp,pg⟩=> [.ag 4 (aL (kF e)),.pt true 1 (λ_=> .v (.int .i64 sp)),.pt true 1 (λ_=> .v (.int .i64 pg))],λ_=> [],λ_=>True,λ⟨e,sp,pg⟩=> .v (.bool (jy sp pg e)),λ_=> [],
  λargs mem=>match args with| [a0,a1,a2]=>some ⟨uO (cQ a0),aw (bQ a1 0),aw (bQ a2 0)⟩|_=>none⟩
def abS:aT:=⟨[],(abR).g,none⟩
def Qq:Qp->Prop:=λ⟨e,sp,pg⟩=>True/\cond (e.sp==sp) (e.pg==pg) false=jy sp pg e/\True
theorem aac:aU Tryz.prog aY 136 abS:=bf .nil false Tryz.call136 Tryz.func136 (λ_=> []) (V:=Qq) (λ_=>by kernel_rfl) λ⟨e,sp,pg⟩ hp=>by
  dsimp only[Qq,tn,ar,aD,aI,aJ,aH]
  simp only[bn,bD,eq_self,implies_true,Bool.cond_self]
  rfl
structure SJ where
  (n:Nat) (t:Nat->dQ) (sp pg:Int)
def adz:Sy.Spec:=⟨SJ,λ⟨n,t,sp,pg⟩=> [.sl true 4 n (rF λi=>kF (t i)),.fn 136 2 (aL [.pt true 1 (λ_=> .v (.int .i64 sp)),.pt true 1 (λ_=> .v (.int .i64 pg))])],λ_=> [],λ_=>True,λ⟨n,t,sp,pg⟩=> .v (.int .i64 (gz n λi=>jy sp pg (t i))),λ_=> [],
  λargs mem=>match args with| [a0,a1]=>(match mA 136 a1 with|true=>some ⟨bX a0,λi=>uO (λj=>bN a0 i j),aw (bQ (fl a1 0) 0),aw (bQ (fl a1 1) 0)⟩|false=>none)|_=>none⟩
def adA:aT:=⟨[],(adz).g,none⟩
def SK:SJ->Prop:=λ⟨n,t,sp,pg⟩=>let a0:=(n:Int);let b0:=gz n (λc0:Nat=>jy sp pg (t c0));a0<=9223372036854775807->0=((0:Nat):Int)/\True/\(0<=n/\(∀d0:Nat,d0<0->jy sp pg (t d0)=false))/\(∀e0:Nat,let g0:=(e0:Int);let h0:=decide (g0<a0);let k0:=t (Int.toNat g0);let l0:=jy sp pg k0;let o0:Int:=g0+1;e0<=n/\(∀q0:Nat,q0<e0->jy sp pg (t q0)=false)->(h0=true->(0<=g0/\g0<a0)/\((aH k0 k0/\(True/\sp=sp)/\(True/\pg=pg)/\True)/\True/\True)/\(l0=true->g0=b0/\True)/\(l0=false->ar o0=o0/\(∃r0:Nat,o0=(r0:Int)/\True/\(r0<=n/\(∀u0:Nat,u0<r0->jy sp pg (t u0)=false))/\n-r0<n-e0)))/\(h0=false->(-1)=b0/\True))
theorem abT:aU Tryz.prog aY 135 adA:=bf (.cons aac .nil) false Tryz.call135 Tryz.func135 (λ⟨n,t,sp,pg⟩=> [.inv (anQ n λi=>jy sp pg (t i))]) (V:=SK) (λ_=>by kernel_rfl) λ⟨n,t,sp,pg⟩ hp=>by
  dsimp only[SK,tn,ar,aD,aI,aJ,aH]
  simp only[bn,eq_self,implies_true,Bool.cond_self]
  intro _ s hs
  refine⟨λh=>?_,λh=>?_⟩
  · have av:=fO h
    refine⟨by omega,λJ=>?_,λJ=>⟨by rw[IntKind.wrap_i64];omega,fB ⟨⟨by omega,λj hj=>?_⟩,by omega⟩⟩⟩
    · rw[Ej (p:=λi=>jy sp pg (t i)) hs.2 J av]
    · rcases Nat.lt_or_ge j s with h3|h3
      · exact hs.2 j h3
      · obtain rfl:j=s:=by omega
        exact J
  · obtain rfl:s=n:=by have:=ga h;omega
    rw[yd (p:=λi=>jy sp pg (t i)) hs.2]
structure DY where
  (n:Nat) (t:Nat->dQ)
def Ht:Sy.Spec:=⟨DY,λ⟨n,t⟩=> [.sl true 4 n (rF λi=>kF (t i))],λ_=> [],λ⟨n,_⟩=>n<=100000,λ⟨n,_⟩=> .aO 0 0 none 0 n,λ⟨n,t⟩=> [.row 4 n (rF λi=>kF (t i))],
  λargs mem=>match args with| [a0]=>some ⟨bX a0,λi=>uO (λj=>bN a0 i j)⟩|_=>none⟩
def aad:aT:=⟨[],(Ht).g,none⟩
def OU:DY->Prop:=λ⟨n,t⟩=> ∀a0:Bool,(a0=true->n=0)->(a0=true->(0=0/\0=n)/\(0=n/\(∀b0:Nat,b0<n->(((True/\SV.aF=SV.v (Value.int IntKind.i64 (t b0).sp))/\SV.aF=SV.v (Value.int IntKind.i64 (t b0).pg))/\SV.aF=SV.v (Value.int IntKind.i64 (t b0).fr))/\SV.aF=SV.v (Value.bool (t b0).wr)))/\True)/\(a0=false->True/\(n*32<=140737488355328/\(∀c0:Nat,true=true))/\(0=0/\n=n)/\(n=n/\(∀d0:Nat,d0<n->aH (t d0) (t d0)))/\True)
theorem YT:aU Tryz.prog aY 129 aad:=bf .nil false Tryz.call129 Tryz.func129 (λ_=> []) (V:=OU) (λ_=>by kernel_rfl) λ⟨n,t⟩ hp=>by
  dsimp only[Ht]at hp
  dsimp only[OU,tn,ar,aD,aI,aJ,aH]
  simp only[bn,eq_self,implies_true,Bool.cond_self]
  intro b hb
  refine⟨λh=>?_,λ_=>?_⟩
  · have:=hb h
    subst this
    exact⟨rfl,rfl,λi hi=>absurd hi (by omega)⟩
  · omega
structure SL where
  (n:Nat) (t:Nat->dQ) (sp pg:Int)
def adB:Sy.Spec:=⟨SL,λ⟨n,t,sp,pg⟩=> [.sl true 4 n (rF λi=>kF (t i)),.v (.int .i64 sp),.v (.int .i64 pg)],λ_=> [],λ_=>True,λ⟨n,t,sp,pg⟩=> .tp 2 (aL [.ag 4 (aL (kF (Ao n t sp pg))),.v (.bool (Al n t sp pg))]),λ_=> [],
  λargs mem=>match args with| [a0,a1,a2]=>some ⟨bX a0,λi=>uO (λj=>bN a0 i j),aw (a1),aw (a2)⟩|_=>none⟩
def adC:aT:=⟨[],(adB).g,none⟩
def SM:SL->Prop:=λ⟨n,t,sp,pg⟩=>let a0:=gz n (λb0:Nat=>jy sp pg (t b0));let c0:=decide (a0<0);let d0:=tn 3 True;let e0:=Ao n t sp pg;let g0:=Al n t sp pg;tn 3 ((((n=n/\(∀h0:Nat,h0<n->aH (t h0) (t h0)))/\(tn 2 (sp=sp)/\True/\pg=pg)/\True)/\True/\True)/\(c0=true->d0/\((True/\aH (dQ.mk 0 0 0 false) e0)/\false=g0)/\True)/\(c0=false->(0<=a0/\a0<(n:Int))/\d0/\((True/\aH (t (Int.toNat a0)) e0)/\true=g0)/\True))
theorem abJ:aU Tryz.prog aY 128 adC:=bf (.cons abT .nil) false Tryz.call128 Tryz.func128 (λ_=> []) (V:=SM) (λ_=>by kernel_rfl) λ⟨n,t,sp,pg⟩ hp=>by
  dsimp only[SM,tn,ar,aD,aI,aJ,aH]
  simp only[bn,eq_self,implies_true,Bool.cond_self]
  have key: ∀b,Al n t sp pg=b->(b=true/\(gz n λi=>jy sp pg (t i))=(dG n λi=>jy sp pg (t i):Nat)/\(dG n λi=>jy sp pg (t i))<n/\Ao n t sp pg=t (dG n λi=>jy sp pg (t i)))\/(b=false/\(gz n λi=>jy sp pg (t i))= -1/\Ao n t sp pg=Am):=by
    intro b h
    have h':Nat.blt (dG n λi=>jy sp pg (t i)) n=b:=h
    cases b with
    |true=>left;exact⟨rfl,by unfold gz;rw[h'];rfl,Nat.le_of_ble_eq_true h',by unfold Ao;rw[h'];rfl⟩
    |false=>right;exact⟨rfl,by unfold gz;rw[h'];rfl,by unfold Ao;rw[h'];rfl⟩
  rcases key _ rfl with⟨J,h2,h3,h4⟩|⟨J,h2,h4⟩
  · rw[J,h2,h4]
    refine⟨λh=>by simp at h;omega,λ_=>⟨by omega,?_,rfl⟩⟩
    rw[Int.toNat_natCast]
    exact⟨⟨⟨rfl,rfl⟩,rfl⟩,rfl⟩
  · rw[J,h2,h4]
    exact⟨λ_=>⟨⟨⟨⟨rfl,rfl⟩,rfl⟩,rfl⟩,rfl⟩,λh=>by simp at h⟩
end Go.Proofs.YthgmgkabnffniaaGreatDoor
set_option linter.unusedVariables false
set_option linter.unusedSimpArgs false
set_option maxRecDepth 100000
namespace Go.Proofs.YthgmgkabnffniaaGreatDoor
open Go.RowKit Go.Sy
theorem Z0 (n:Nat) (p:Nat->Bool):Nat.blt (dG n p) n=dY n p:=by
  cases hq:dY n p with
  |true=>obtain⟨i,hi,h⟩:=qt.1 hq;exact ji (uh hi h)
  |false=>rw[ua (nY.1 hq)];exact nv (Nat.le_refl _)
theorem GY {W:Wd} {n i:Nat} {l:Nat->dQ} (hi:i<n) (h:nU W l i=false):gV W n l=false:=by
  unfold gV;rw[GH (p:=λi=>nU W l i) hi h];cases decide (n<=4)<;>rfl
structure Qc where
  (i:Int) (W:Wd)
def Qd:Sy.Spec:=⟨Qc,λ⟨i,W⟩=> [.v (.int .i64 i),.sl true 4 (W.aG i.toNat) (rF λk=>kF (W.aA i.toNat k)),.pt true 1 (λ_=>dV W)],λ_=> [],λ⟨i,W⟩=>bO W/\W.aG i.toNat<=1000/\ ∀k,k<W.ay->p5 (W.af k),λ⟨i,W⟩=> .v (.bool (!gV W (W.aG i.toNat) (W.aA i.toNat))),λ_=> [],
  λargs mem=>match args with| [a0,a1,a2]=>some ⟨aw (a0),dR (bQ a2 0)⟩|_=>none⟩
def abI:aT:=⟨[],(Qd).g,none⟩
def Qe:Qc->Prop:=λ⟨i,W⟩=>let a0:=Int.toNat i;let b0:=W.aG a0;let c0:=(b0:Int);let d0:=c0<=9223372036854775807;let e0:=W.aA a0;let g0:=tn 3 True;let h0:=((W.aj:Nat):Int);let k0:=!gV W b0 e0;let l0:=true=k0/\True;let o0:=W.ay;let q0:=W.af;let r0:=Int.toNat 0;d0->0=((0:Nat):Int)/\True/\(0<=b0/\(∀u0:Nat,u0<0->nU W e0 u0=true))/\(∀v0:Nat,let w0:=(v0:Int);let x0:=decide (w0<c0);let y0:=e0 (Int.toNat w0);let z0:=y0.sp;let a1:=cond (decide (z0<0)) true (decide (h0<=z0));let b1:=y0.pg;let c1:=cond (cond (cond a1 true (W.kinds (Int.toNat z0) !=4)) true (decide (b1<0))) true (decide (255<b1));let d1:Int:=16*b1;let e1:=z0=z0;let g1:=cond (cond (ja o0 q0 z0 d1 !=0) true (mi o0 q0 z0 d1 !=y0.fr)) true (mj o0 q0 z0 d1 !=y0.wr);let J:=Int.toNat w0-r0;let k1:=Al J (λl1:Nat=>e0 (r0+l1)) z0 b1;let o1:Int:=w0+1;v0<=b0/\(∀q1:Nat,q1<v0->nU W e0 q1=true)->(x0=true->(0<=w0/\w0<c0)/\True/\g0/\tn 22 ((a1=false->0<=z0/\z0<h0)/\(c1=true->l0)/\(c1=false->tn 9 (ar d1=d1/\(((o0=o0/\(∀r1:Nat,r1<o0->True/\q0 r1=q0 r1))/\e1/\d1=d1/\True)/\True/\(∀u1:Nat,u1<o0->0<=q0 u1/\q0 u1<=65535))/\tn 5 ((g1=true->l0)/\(g1=false->tn 2 (((0:Int)<=0/\0<=w0/\w0<=c0)/\tn 4 ((((J=J/\(∀v1:Nat,v1<J->aH (e0 (r0+v1)) (e0 (r0+v1))))/\e1/\b1=b1/\True)/\True/\True)/\tn 4 (g0/\(k1=true->l0)/\(k1=false->ar o1=o1/\(∃w1:Nat,o1=(w1:Int)/\True/\(w1<=b0/\(∀x1:Nat,x1<w1->nU W e0 x1=true))/\b0-w1<b0-v0)))))))))))/\(x0=false->d0->decide (4<c0)=k0/\True))
theorem ZY:aU Tryz.prog aY 126 abI:=bf (.cons abt (.cons abJ .nil)) false Tryz.call126 Tryz.func126 (λ⟨i,W⟩=> [.inv (afm W (W.aG i.toNat) (W.aA i.toNat))]) (V:=Qe) (λ_=>by kernel_rfl) λ⟨i,W⟩ hp=>by
  dsimp only[Qd]at hp
  dsimp only[Qe,tn,ar,aD,aI,aJ,aH]
  obtain⟨hz,hn,hw⟩:=hp
  obtain⟨l,hl⟩: ∃l,l=W.aA i.toNat:=⟨_,rfl⟩
  obtain⟨n,FO⟩: ∃n,n=W.aG i.toNat:=⟨_,rfl⟩
  simp only[bn,bD,eq_self,implies_true,Bool.cond_self]
  simp only[<-hl,<-FO]at hn⊢
  have wr: ∀z:Int,-100000<=z->z<=100000->IntKind.i64.wrap z=z:=λz J h2=>by rw[IntKind.wrap_i64];omega
  refineλ_ s hs=>⟨λh=>?_,λh _=>?_⟩
  · have av:=fO h
    have eA:(decide ((l s).sp<0)||decide ((W.aj:Int)<=(l s).sp)||W.kinds (l s).sp.toNat !=4||decide ((l s).pg<0)||decide (255<(l s).pg))=(!(bH W (l s).sp==4)||az (l s).pg 255):=by
      rw[JP (by decide),Bool.or_assoc];rfl
    have eF:Al (s -Int.toNat 0) (λa=>l (Int.toNat 0+a)) (l s).sp (l s).pg=dY s (λk=>(l k).sp==(l s).sp&&(l k).pg==(l s).pg):=by
      unfold Al;rw[Z0];simp only[Int.toNat_zero,Nat.sub_zero,Nat.zero_add];rfl
    rw[eA,eF]
    refine⟨by omega,λJ=>?_,λJ=>?_,λJ=>?_⟩
    · simp only[Bool.or_eq_false_iff,decide_eq_false_iff_not]at J;omega
    · rw[GY av (by revert J;unfold nU;cases bH W (l s).sp==4<;>cases az (l s).pg 255<;>simp)];rfl
    have hf:az (l s).pg 255=false:=by rw[Bool.or_eq_false_iff]at J;exact J.2
    have hpg:0<=(l s).pg/\(l s).pg<=255:=by simp[az]at hf;omega
    refine⟨wr _ (by omega) (by omega),hw,λh2=>?_,λh2=>⟨⟨by decide,by omega⟩,λh3=>?_,λh3=>⟨wr _ (by omega) (by omega),fB ⟨⟨by omega,Ua hs.2 ?_⟩,by omega⟩⟩⟩⟩
    · rw[GY av (by revert h2;simp only[bne];unfold nU;cases ja W.ay W.af (l s).sp (16*(l s).pg)==0<;>cases mi W.ay W.af (l s).sp (16*(l s).pg)==(l s).fr<;>cases mj W.ay W.af (l s).sp (16*(l s).pg)==(l s).wr<;>simp)];rfl
    · rw[GY av (by unfold nU;rw[h3];simp)];rfl
    · revert J h2
      simp only[bne];unfold nU
      rw[h3]
      cases bH W (l s).sp==4<;>cases az (l s).pg 255<;>cases ja W.ay W.af (l s).sp (16*(l s).pg)==0<;>cases mi W.ay W.af (l s).sp (16*(l s).pg)==(l s).fr<;>cases mj W.ay W.af (l s).sp (16*(l s).pg)==(l s).wr<;>simp
  · have dz:=ga h
    unfold gV
    rw[Oc λj hj=>hs.2 j (by omega),Bool.and_true,<-decide_not]
    exact decide_eq_decide.2 (by omega)
end Go.Proofs.YthgmgkabnffniaaGreatDoor
set_option linter.unusedVariables false
set_option linter.unusedSimpArgs false
set_option maxRecDepth 100000
namespace Go.Proofs.YthgmgkabnffniaaGreatDoor
open Go.RowKit Go.Sy
def afh (W:Wd) (f:Nat):cG where
  σ:=Nat
  rt:= [(4,0),(37,1)]
  sh i:= [(4,de 0),(37,.aO 1 0 none 0 11),(39,.v (.int .i64 i))]
  mh _:= []
  inv i:=i<=11/\ ∀j,j<i->az (gQ [(W.tasks f).r0,(W.tasks f).r1,(W.tasks f).r2,(W.tasks f).r3,(W.tasks f).r4,(W.tasks f).r5,(W.tasks f).r6,(W.tasks f).r7,(W.tasks f).pc,(W.tasks f).word,(W.tasks f).bL] j) 65535=false
  μ i:=11 -i
  init:=0
def afi (W:Wd) (f:Nat):cG where
  σ:=Nat
  rt:= [(4,0)]
  sh i:= [(4,de 0),(126,.v (.int .i64 i)),(8,.v (.int .i64 (bx i λk=>(W.tasks k).aE==f:Nat)))]
  mh _:= []
  inv i:=i<=W.aP
  μ i:=W.aP -i
  init:=0
structure WM where
  b:Bool
def abG (W:Wd) (f:Nat):Cut where
  σ:=WM
  rt:= [(4,0)]
  sh s:= [(4,de 0),(11,.v (.int .i64 (cA W f:Nat))),(12,.v (.int .i64 (cu W f:Nat))),(13,.v (.int .i64 0)),(14,.v (.int .i64 0)),(171,.v (.int .i64 (W.tasks f).st)),(172,.v (.bool s.b))]
  mem _:= [.cells (nD (W.tasks f))]
  inv s:=s.b=((W.tasks f).st==2||(W.tasks f).st==3||(W.tasks f).st==4||(W.tasks f).st==6)
  dec fr _:=⟨ER (fr 172)⟩
theorem adn (a:Nat):(((a:Nat):Int) !=0)=!(a==0):=by rw[bne,R6]
theorem ado (a:Nat):(((a:Nat):Int) !=1)=!(a==1):=by rw[bne,IL]
theorem agQ {W:Wd} {f k:Int} (hk:k≠ -1):(decide (f<0)||!okF W f k)=!(bH W f==k):=by
  unfold okF
  rcases Int.lt_or_le f 0 with h|h
  · rw[decide_eq_true h,PQ (.inl h),show((-1:Int)==k)=false from beq_eq_false_iff_ne.2 λe=>hk e.symm];rfl
  · rw[decide_eq_false (show¬f<0 by omega),show(f== -1)=false from beq_eq_false_iff_ne.2 (by omega)];rfl
theorem abH {W:Wd} {f c:Nat} (hc:ca W f=c):(decide (1<(c:Int))||(((c:Int)==1) !=((W.tasks f).st==5)))=!sO W f:=by
  unfold sO
  rw[hc,IL]
  rcases Nat.lt_or_ge 1 c with h|h
  · rw[decide_eq_true (show(1:Int)<c by omega),decide_eq_false (show¬c<=1 by omega)];rfl
  · rw[decide_eq_false (show¬(1:Int)<c by omega),decide_eq_true (show c<=1 by omega)]
    cases c==1<;>cases (W.tasks f).st==5<;>rfl
theorem afj {t:aM} {s:Nat}:(bif s.blt 8 then[t.r0,t.r1,t.r2,t.r3,t.r4,t.r5,t.r6,t.r7].getD s 0 else[t.pc,t.word,t.bL].getD (s -8) 0)= [t.r0,t.r1,t.r2,t.r3,t.r4,t.r5,t.r6,t.r7,t.pc,t.word,t.bL].getD s 0:=by
  rcases Nat.lt_or_ge s 8 with h|h
  · rw[ji h]
    have:s=0\/s=1\/s=2\/s=3\/s=4\/s=5\/s=6\/s=7:=by omega
    rcases this with rfl|rfl|rfl|rfl|rfl|rfl|rfl|rfl<;>rfl
  · rw[nv h]
    obtain⟨k,rfl⟩: ∃k,s=8+k:=⟨s -8,by omega⟩
    rw[show 8+k -8=k by omega,Nat.add_comm];rfl
theorem afk {W:Wd} {f:Nat} (h: ∀j,j<11->az (gQ [(W.tasks f).r0,(W.tasks f).r1,(W.tasks f).r2,(W.tasks f).r3,(W.tasks f).r4,(W.tasks f).r5,(W.tasks f).r6,(W.tasks f).r7,(W.tasks f).pc,(W.tasks f).word,(W.tasks f).bL] j) 65535=false):jg (W.tasks f)=false/\az (W.tasks f).pc 65535=false/\az (W.tasks f).word 65535=false/\az (W.tasks f).bL 65535=false:=by
  refine⟨adp λj hj=>?_,h 8 (by omega),h 9 (by omega),h 10 (by omega)⟩
  have:=h j (by omega)
  have la:j=0\/j=1\/j=2\/j=3\/j=4\/j=5\/j=6\/j=7:=by omega
  rcases la with rfl|rfl|rfl|rfl|rfl|rfl|rfl|rfl<;>exact this
theorem afl {W:Wd} {f s:Nat} (hs:s<11) (h:az ([(W.tasks f).r0,(W.tasks f).r1,(W.tasks f).r2,(W.tasks f).r3,(W.tasks f).r4,(W.tasks f).r5,(W.tasks f).r6,(W.tasks f).r7,(W.tasks f).pc,(W.tasks f).word,(W.tasks f).bL].getD s 0) 65535=true):(!jg (W.tasks f)&&!fT W (W.tasks f))=false:=by
  cases J:jg (W.tasks f)with
  |true=>rfl
  |false=>
   cases h2:fT W (W.tasks f)with
   |true=>rfl
   |false=>
    exfalso
    have hr:=adq J
    unfold fT at h2
    simp only[Bool.or_eq_false_iff]at h2
    have:s<8\/s=8\/s=9\/s=10:=by omega
    rcases this with h3|rfl|rfl|rfl
    · have h4:=hr s h3
      have la:s=0\/s=1\/s=2\/s=3\/s=4\/s=5\/s=6\/s=7:=by omega
      rcases la with rfl|rfl|rfl|rfl|rfl|rfl|rfl|rfl<;>exact Bool.false_ne_true (h4.symm.trans h)
    · exact Bool.false_ne_true (h2.1.1.1.1.1.1.symm.trans h)
    · exact Bool.false_ne_true (h2.1.1.1.1.1.2.symm.trans h)
    · exact Bool.false_ne_true (h2.1.1.1.1.2.symm.trans h)
structure NB where
  (Jc:Unit)
def YN:Sy.Spec:=⟨NB,λ_=> [],λ_=> [],λ_=>True,λ_=> .ag 20 (aL (nD aM.blank)),λ_=> [],
  λargs mem=>match args with| []=>some ⟨()⟩|_=>none⟩
def YO:aT:=⟨[],(YN).g,none⟩
def NC:NB->Prop:=λ_=>let a0:=aM.mk 0 0 0 0 0 0 0 0 0 0 0 (-1) (-1) (-1) (-1) 0 0 (-1) 0 0;True/\tn 19 True/\aI a0 a0/\True
theorem XN:aU Tryz.prog aY 113 YO:=bf .nil false Tryz.call113 Tryz.func113 (λ_=> []) (V:=NC) (λ_=>by kernel_rfl) λ_ hp=>by
  dsimp only[NC,tn,ar,aD,aI,aJ,aH]
  simp only[bn,eq_self,implies_true,Bool.cond_self]
structure ND where
  (i k:Int) (nc:Nat) (cl:Nat->Int) (nk:Nat) (ky:Nat->Int) (nu:Nat) (us:Nat->Bool)
def NF:Sy.Spec:=⟨ND,λ⟨i,k,nc,cl,nk,ky,nu,us⟩=> [.v (.int .i64 i),.v (.int .i64 k),.pt true 1 (λ_=> .sl true 1 nc (iF cl)),.pt true 1 (λ_=> .sl true 1 nk (iF ky)),.pt true 1 (λ_=> .sl true 1 nu (λi _=> .v (.bool (us i))))],λ_=> [],λ⟨i,_,nc,_,nk,_,nu,_⟩=>0<=i/\i<nc/\i<nk/\i<nu,λ⟨i,k,_,cl,_,ky,_,us⟩=> .v (.bool (decide (1<cl i.toNat)||(k !=0&&(ky i.toNat==0||(cl i.toNat==1&&!us i.toNat))))),λ_=> [],
  λargs mem=>match args with| [a0,a1,a2,a3,a4]=>some ⟨aw (a0),aw (a1),bX (bQ a2 0),λi=>aw (bN (bQ a2 0) i 0),bX (bQ a3 0),λi=>aw (bN (bQ a3 0) i 0),bX (bQ a4 0),λi=>ER (bN (bQ a4 0) i 0)⟩|_=>none⟩
def YP:aT:=⟨[],(NF).g,none⟩
def NG:ND->Prop:=λ⟨i,k,nc,cl,nk,ky,nu,us⟩=>let a0:=0<=i/\i<(nc:Int);let b0:=(k !=0)=true;let c0:=decide (1<cl (Int.toNat i));let d0:=c0=false;let e0:=ky (Int.toNat i)==0;let g0:=e0=false;let h0:=cl (Int.toNat i)==1;let k0:=!us (Int.toNat i);a0/\(b0->d0->0<=i/\i<(nk:Int))/\(g0->b0->d0->a0)/\(h0=true->g0->b0->d0->0<=i/\i<(nu:Int))/\cond c0 true (cond (k !=0) (cond e0 true (cond h0 k0 false)) false)=(c0||k !=0&&(e0||h0&&k0))/\True
theorem XM:aU Tryz.prog aY 110 YP:=bf .nil false Tryz.call110 Tryz.func110 (λ_=> []) (V:=NG) (λ_=>by kernel_rfl) λ⟨i,k,nc,cl,nk,ky,nu,us⟩ hp=>by
  dsimp only[NF]at hp
  dsimp only[NG,tn,ar,aD,aI,aJ,aH]
  simp only[bn,bD,eq_self,implies_true,Bool.cond_self]
  refine⟨?_,λ_ _=>?_,λ_ _ _=>?_,λ_ _ _ _=>?_⟩<;>omega
structure Oy where
  (i:Int) (W:Wd)
def Oz:Sy.Spec:=⟨Oy,λ⟨i,W⟩=> [.v (.int .i64 i),.ag 20 (aL (nD (W.tasks i.toNat))),.pt true 1 (λ_=>dV W)],λ_=> [],λ⟨i,W⟩=>bO W/\p6 W/\0<=i/\i<W.aj,λ⟨i,W⟩=> .v (.bool (!fv W i.toNat)),λ_=> [],
  λargs mem=>match args with| [a0,a1,a2]=>some ⟨aw (a0),dR (bQ a2 0)⟩|_=>none⟩
def ZZ:aT:=⟨[],(Oz).g,none⟩
def OA:Oy->Prop:=λ⟨i,W⟩=>let a0:=W.aj;let b0:=Int.toNat i;let c0:=W.kinds b0 !=6;let d0:=True/\True;let e0:=True/\d0;let g0:=W.tasks b0;let h0:=g0.r0;let k0:=g0.r1;let l0:=g0.r2;let o0:=g0.r3;let q0:=g0.r4;let u0:=g0.r5;let v0:=g0.r6;let w0:=g0.r7;let x0:=g0.pc;let y0:=g0.st;let z0:=g0.prio;let a1:=g0.node;let b1:=g0.space;let c1:=g0.helper;let d1:=g0.loc;let e1:=g0.word;let g1:=g0.bL;let J:=g0.aE;let k1:=g0.core;let l1:=g0.cL;let o1:=!fv W b0;let q1:=((11:Nat):Int);let u1:=SV.ptr 0 0 none 0 0;let v1:=u1=u1;let w1:=aI g0 g0;let x1:=[h0,k0,l0,o0,q0,u0,v0,w0];let y1:=[x0,e1,g1];let z1:=w1/\(8+3=8+3/\(∀a2:Nat,let b2:Int:=cond (Nat.blt a2 8) (List.getD x1 a2 0) (List.getD y1 (0+(a2-8)) 0);a2<8+3->True/\b2=b2))/\True;let c2:=(h0::k0::l0::o0::q0::u0::v0::w0::y1);let d2:=true=o1/\True;let e2:=y0=y0;let g2:=(6:Int)=6/\True;let h2:=az y0 6;let k2:=(3:Int)=3/\True;let l2:=cond h2 true (az z0 3);let o2:=l2=false;let q2:=W.aC;let u2:Int:=(q2:Int)-1;let v2:=cond l2 true (az k1 u2);let w2:=cond v2 true (az l1 3);let x2:=W.al;let y2:=W.aP;let z2:=W.aW;let a3:=z2=z2/\(∀b3:Nat,let c3:=W.ai b3;b3<z2->True/\c3=c3/\(∀d3:Nat,d3<c3->True/\W.lines b3 d3=W.lines b3 d3));let e3:=q2=q2/\(∀g3:Nat,g3<q2->True/\W.ak g3=W.ak g3);let h3:=W.aS;let k3:=h3=h3/\(∀l3:Nat,let o3:=W.aq l3;l3<h3->True/\o3=o3/\(∀q3:Nat,q3<o3->True/\W.ready l3 q3=W.ready l3 q3));
    let u3:=((((((((((True/\W.ay=W.ay/\(∀v3:Nat,v3<W.ay->True/\W.af v3=W.af v3))/\a0=a0/\(∀w3:Nat,w3<a0->True/\W.kinds w3=W.kinds w3))/\x2=x2/\(∀x3:Nat,x3<x2->aJ (W.aa x3) (W.aa x3)))/\y2=y2/\(∀y3:Nat,y3<y2->aI (W.tasks y3) (W.tasks y3)))/\a3)/\W.aN=W.aN/\(∀z3:Nat,z3<W.aN->True/\W.bits z3=W.bits z3))/\e3)/\k3)/\W.aQ=W.aQ/\(∀a4:Nat,let b4:=W.aG a4;a4<W.aQ->True/\b4=b4/\(∀c4:Nat,c4<b4->aH (W.aA a4 c4) (W.aA a4 c4))))/\W.aK=W.aK/\(∀d4:Nat,d4<W.aK->True/\W.aB d4=W.aB d4))/\W.time=W.time;let e4:=cond w2 true (!okF W a1 5);let g4:=cond e4 true (!okF W b1 4);let h4:=(7:Int)=7/\True;let k4:=True/\((7:Int)=(-1)->False);let l4:=cond g4 true (!okF W c1 7);let o4:=cond l4 true (!okF W J 6);let q4:=decide (0<=J);let u4:=(y2:Int);let v4:=y0==4;let w4:=cond q4 (cond ((W.tasks (Int.toNat J)).st !=5) true v4) false;let x4:=(b0:Int);let y4:=w1/\True;let z4:=y0==5;let a5:=i=i/\True;let b5:Int:=((cJ h3 W.aq W.ready i:Nat):Int)+((cJ 1 (λc5:Nat=>q2) (λd5:Nat=>W.ak) i:Nat):Int);let e5:=y0==2;let g5:=((cA W b0:Nat):Int);let h5:=((cJ z2 W.ai W.lines i:Nat):Int)=g5;let k5:=((cu W b0:Nat):Int);let l5:=b5=k5;let o5:=(0:Int)=0;let q5:=y0==3;let u5:=y0==6;let v5:=e5||q5||v4||u5;let w5:=decide (d1<0);let x5:=w5=false;let y5:=d1=d1;let z5:=cond w5 true (!okF W d1 8);let a6:=z5=false;let b6:=0<=d1/\d1<(z2:Int);let c6:=Int.toNat d1;let d6:=W.ai c6;let e6:=W.lines c6;
    let g6:=((d6=d6/\(∀h6:Nat,h6<d6->True/\e6 h6=e6 h6))/\a5)/\True/\Gw.match_1 (λk6:Dj=>Prop) (Dj.mk d6 e6 i) (λl6:Nat=>λo6:∀q6:Nat,Int=>λu6:Int=>l6<=100000);let v6:=!cF d6 e6 i;let w6:=cond z5 true v6;let x6:=d1 !=(-1);let y6:=k5 !=0;let z6:=cond (cond (cond ((1:Int)==0) x6 false) true (g5 !=1)) true y6=o1/\True;let a7:=cond w5 true (!okF W d1 7);let b7:=a7=false;let c7:=cond a7 true v6;let d7:=y0==1;let e7:=cond (cond ((0:Int)==0) x6 false) true (g5 !=0);True/\(0<=i/\i<(a0:Int))/\(c0=true->True/\e0/\(!(h0==0&&(k0==0&&(l0==0&&(o0==0&&(q0==0&&(u0==0&&(v0==0&&(w0==0&&true)))))))&&(x0==0&&(y0==0&&(z0==0&&(a1==(-1)&&(b1==(-1)&&(c1==(-1)&&(d1==(-1)&&(e1==0&&(g1==0&&(J==(-1)&&(k1==0&&(l1==0&&true))))))))))))))=o1/\True)/\(c0=false->tn 10 (((8+3)*8<=140737488355328/\(∀g7:Nat,true=true))/\(q1<=9223372036854775807->v1/\(0=0/\11=11)/\0=((0:Nat):Int)/\z1/\(0<=11/\(∀h7:Nat,h7<0->az (List.getD c2 h7 0) 65535=false))/\(∀k7:Nat,let l7:=(k7:Int);let o7:=decide (l7<q1);let q7:=0+Int.toNat l7;let u7:Int:=cond (Nat.blt q7 8) (List.getD x1 q7 0) (List.getD y1 (0+(q7-8)) 0);let v7:=az u7 65535;let w7:Int:=l7+1;k7<=11/\(∀x7:Nat,x7<k7->az (List.getD c2 x7 0) 65535=false)->(o7=true->(0<=l7/\l7<q1)/\((u7=u7/\(65535:Int)=65535/\True)/\d0)/\(v7=true->d2)/\(v7=false->ar w7=w7/\(∃y7:Nat,v1/\(0=0/\11=11)/\w7=(y7:Int)/\z1/\(y7<=11/\(∀z7:Nat,z7<y7->az (List.getD c2 z7 0) 65535=false))/\11-y7<11-k7)))/\(o7=false->tn 2 (((e2/\g2)/\d0)/\tn 3 ((h2=false->(z0=z0/\k2)/\d0)/\tn 10 ((o2->ar u2=u2)/\(o2->(k1=k1/\u2=u2/\True)/\d0)/\
    tn 4 ((v2=false->(l1=l1/\k2)/\d0)/\tn 5 ((w2=false->(u3/\a1=a1/\(5:Int)=5/\True)/\True/\((5:Int)=(-1)->False))/\tn 6 ((e4=false->(u3/\b1=b1/\(4:Int)=4/\True)/\True/\((4:Int)=(-1)->False))/\tn 6 ((g4=false->(u3/\c1=c1/\h4)/\k4)/\tn 6 ((l4=false->(u3/\J=J/\g2)/\True/\((6:Int)=(-1)->False))/\(o4=true->d2)/\(o4=false->tn 11 ((q4=true->0<=J/\J<u4)/\(w4=true->d2)/\(w4=false->u4<=9223372036854775807->v1/\0=((0:Nat):Int)/\0=((bx 0 (λa8:Nat=>(W.tasks a8).aE==x4):Nat):Int)/\y4/\0<=y2/\(∀b8:Nat,let c8:=(b8:Int);let d8:=decide (c8<u4);let e8:=(W.tasks (Int.toNat c8)).aE==i;let g8:=((bx b8 (λh8:Nat=>(W.tasks h8).aE==x4):Nat):Int);let k8:Int:=g8+1;let l8:Int:=c8+1;let o8:=ar l8=l8;let q8:=cond (decide (1<g8)) true ((g8==1) !=z4);b8<=y2->(d8=true->(0<=c8/\c8<u4)/\True/\tn 17 e0/\(e8=true->ar k8=k8/\o8/\(∃r8:Nat,v1/\l8=(r8:Int)/\k8=((bx r8 (λu8:Nat=>(W.tasks u8).aE==x4):Nat):Int)/\y4/\r8<=y2/\y2-r8<y2-b8))/\(e8=false->o8/\(∃v8:Nat,v1/\l8=(v8:Int)/\g8=((bx v8 (λw8:Nat=>(W.tasks w8).aE==x4):Nat):Int)/\y4/\v8<=y2/\y2-v8<y2-b8)))/\(d8=false->(q8=true->d2)/\(q8=false->tn 6 (((a3/\a5)/\True/\z2<=1000/\(∀x8:Nat,x8<z2->W.ai x8<=1000))/\tn 6 (((k3/\a5)/\True/\h3<=1000/\(∀y8:Nat,y8<h3->W.aq y8<=1000))/\tn 7 ((((1=1/\(∀z8:Nat,z8<1->True/\e3))/\a5)/\True/\1<=1000/\(∀a9:Nat,a9<1->q2<=1000))/\ar b5=b5/\True/\((e5=true->v1/\h5/\l5/\o5/\o5/\e2/\e5=e5/\y4/\e5=v5)/\(e5=false->(q5=true->v1/\h5/\l5/\o5/\o5/\e2/\q5=q5/\y4/\q5=v5)/\(q5=false->(v4=true->v1/\h5/\l5/\o5/\o5/\e2/\v4=v4/\y4/\v4=v5)/\(v4=false->v1/\h5/\l5/\o5/\o5/\e2/\u5=u5/\y4/\u5=v5))))/\(∀b9:WM,b9.b=v5->(b9.b=true->(u5=true->tn 8 ((x5->(u3/\y5/\(8:Int)=8/\
    True)/\True/\((8:Int)=(-1)->False))/\tn 10 ((a6->b6)/\tn 2 ((a6->g6)/\(w6=true->d2)/\(w6=false->z6)))))/\(u5=false->tn 8 ((x5->(u3/\y5/\h4)/\k4)/\tn 10 ((b7->b6)/\tn 2 ((b7->g6)/\(c7=true->d2)/\(c7=false->z6))))))/\(b9.b=false->(d7=true->cond e7 true (k5 !=1)=o1/\True)/\(d7=false->cond e7 true y6=o1/\True)))))))))))))))))))))))))
set_option maxHeartbeats 1000000 in
theorem YK:aU Tryz.prog aY 112 ZZ:=bf (.cons yp (.cons XN (.cons YQ (.cons W9 (.cons adr .nil))))) false Tryz.call112 Tryz.func112 (λ⟨i,W⟩=> [.inv (afh W i.toNat),.inv (afi W i.toNat),.cut 29 (abG W i.toNat)]) (V:=OA) (λ_=>by kernel_rfl) λ⟨i,W⟩ hp=>by
  dsimp only[Oz]at hp
  dsimp only[OA,tn,ar,aD,aI,aJ,aH]
  obtain⟨hz,hm,f0,f1⟩:=hp
  obtain⟨F,rfl⟩: ∃F:Nat,i=F:=⟨i.toNat,by omega⟩
  simp only[bn,bD,eq_self,implies_true,Bool.cond_self]
  have C7:=hz.tasks
  have zC:=hz.k1
  have LZ:=hz.lines
  have hz4:=hz.c1
  have hz5:=hz.c0
  have hz6:=hz.ready
  simp only[afj]
  refine⟨by omega,λh=>?_,λh=>⟨by decide,λ_ s hs=>⟨λJ=>?_,λJ=>?_⟩⟩⟩
  · unfold fv;rw[h];rfl
  · have core:=Qb h
    have av:s<11:=by have:=of_decide_eq_true J;omega
    refine⟨by omega,λh2=>?_,λh2=>⟨by rw[IntKind.wrap_i64];omega,fB ⟨⟨by omega,jU (p:=λj=>az (gQ [(W.tasks F).r0,(W.tasks F).r1,(W.tasks F).r2,(W.tasks F).r3,(W.tasks F).r4,(W.tasks F).r5,(W.tasks F).r6,(W.tasks F).r7,(W.tasks F).pc,(W.tasks F).word,(W.tasks F).bL] j) 65535) hs.2 h2⟩,by omega⟩⟩⟩
    rw[core,afl av h2];rfl
  have core:=Qb h
  have hs8:s=11:=by have:=of_decide_eq_false J;omega
  obtain⟨jD,hpc,hwd,Gp⟩:=afk (W:=W) (f:=F) λj hj=>hs.2 j (by omega)
  rw[jD]at core
  have eN:fT W (W.tasks F)=(az (W.tasks F).st 6||az (W.tasks F).prio 3||az (W.tasks F).core (W.aC -1)||az (W.tasks F).cL 3):=by unfold fT;rw[hpc,hwd,Gp];rfl
  have eA:(az (W.tasks F).st 6||az (W.tasks F).prio 3||az (W.tasks F).core (W.aC -1)||az (W.tasks F).cL 3||!okF W (W.tasks F).node 5||!okF W (W.tasks F).space 4||!okF W (W.tasks F).helper 7||!okF W (W.tasks F).aE 6)=!(!fT W (W.tasks F)&&gv W (W.tasks F)):=by
    rw[eN];unfold gv;simp only[Bool.not_and,Bool.not_or,Bool.not_not,Bool.or_assoc]
  rw[eA]
  refine⟨λ_=>by rw[IntKind.wrap_i64];omega,λ_=>by decide,λ_=>by decide,λ_=>by decide,λ_=>by decide,λh2=>?_,λh2=>?_⟩
  · rw[core]
    revert h2;cases fT W (W.tasks F)<;>cases gv W (W.tasks F)<;>simp
  have h3:=jI h2
  rw[Bool.and_eq_true]at h3
  obtain⟨agR,Ft⟩:=h3
  rw[agR,Ft]at core
  have bF:okF W (W.tasks F).aE 6=true:=by unfold gv at Ft;simp only[Bool.and_eq_true]at Ft;exact Ft.2
  have hO:(W.tasks F).aE= -1\/(0<=(W.tasks F).aE/\(W.tasks F).aE<W.aj):=by
    rcases Decidable.em ((W.tasks F).aE= -1)with h|h
    · exact .inl h
    · exact .inr (ads (by decide) bF (by simpa using h))
  have eB:(decide (0<=(W.tasks F).aE)&&((W.tasks (W.tasks F).aE.toNat).st !=5||(W.tasks F).st==4))=!uv W (W.tasks F):=by
    unfold uv
    rw[show decide (0<=(W.tasks F).aE)=!((W.tasks F).aE== -1) by
     rcases hO with h|h
     · rw[h];rfl
     · rw[decide_eq_true h.1,show((W.tasks F).aE== -1)=false from beq_eq_false_iff_ne.2 (by omega)];rfl]
    simp only[bne,Bool.not_and,Bool.not_or,Bool.not_not]
  rw[eB]
  refine⟨λh4=>?_,λh4=>?_,λh4 _=>?_⟩
  · have:=of_decide_eq_true h4;omega
  · rw[core,wX h4];rfl
  rw[jI h4]at core
  refine⟨rfl,λs hs=>⟨λh5=>?_,λh5=>?_⟩⟩
  · have av:=fO h5
    have hb:=sK (λk=>(W.tasks k).aE==F) s
    refine⟨by omega,λh6=>?_,λh6=>?_⟩
    · exact⟨by rw[IntKind.wrap_i64];omega,by rw[IntKind.wrap_i64];omega,fB ⟨by simp[bx,h6],by omega,by omega⟩⟩
    · exact⟨by rw[IntKind.wrap_i64];omega,fB ⟨by simp[bx,h6],by omega,by omega⟩⟩
  have dz:=ga h5
  obtain rfl:s=W.aP:=by omega
  rw[show(decide (1<((bx W.aP λk=>(W.tasks k).aE==F:Nat):Int))||((((bx W.aP λk=>(W.tasks k).aE==F:Nat):Int)==1) !=((W.tasks F).st==5)))=!sO W F from abH (W:=W) (f:=F) rfl]
  refine⟨λh6=>?_,λh6=>?_⟩
  · rw[core,wX h6];rfl
  rw[jI h6]at core
  have core:fv W F=oO W F:=by rw[core];rfl
  rw[agS]
  have b1:cJ W.aS W.aq W.ready F<=W.aS*50:=H0 λi hi=>Nat.le_trans (sK _ _) (hm.2.1 i hi)
  have b2:cf W.aC W.ak F<=W.aC:=sK _ _
  have et:((cJ W.aS W.aq W.ready F:Nat):Int)+((cf W.aC W.ak F:Nat):Int)=(cu W F:Nat):=by unfold cu;omega
  rw[et]
  refine⟨⟨by omega,λi hi=>Nat.le_trans (hm.1 i hi) (by omega)⟩,⟨by omega,λi hi=>Nat.le_trans (hm.2.1 i hi) (by omega)⟩,⟨by omega,λ_ _=>by omega⟩,by rw[IntKind.wrap_i64];unfold cu;omega,?_,?_⟩
  · refine⟨λh=>⟨rfl,rfl,by rw[h];rfl⟩,λh=>⟨λh7=>⟨rfl,rfl,by rw[h,h7];rfl⟩,λh7=>⟨λh8=>⟨rfl,rfl,by rw[h,h7,h8];rfl⟩,λh8=>⟨rfl,rfl,by rw[h,h7,h8];rfl⟩⟩⟩⟩
  rintro ⟨b⟩ hb
  have hb:b=((W.tasks F).st==2||(W.tasks F).st==3||(W.tasks F).st==4||(W.tasks F).st==6):=hb
  simp only[adn,ado]
  have gB: ∀k:Int,k≠ -1->oO W F=ui W F k->(decide ((W.tasks F).loc<0)=false->k≠ -1)/\((decide ((W.tasks F).loc<0)||!okF W (W.tasks F).loc k)=false->0<=(W.tasks F).loc/\(W.tasks F).loc<W.aW)/\((decide ((W.tasks F).loc<0)||!okF W (W.tasks F).loc k)=false->W.ai (W.tasks F).loc.toNat<=100000)/\
   ((decide ((W.tasks F).loc<0)||!okF W (W.tasks F).loc k||!cF (W.ai (W.tasks F).loc.toNat) (W.lines (W.tasks F).loc.toNat) F)=true->true=!fv W F)/\((decide ((W.tasks F).loc<0)||!okF W (W.tasks F).loc k||!cF (W.ai (W.tasks F).loc.toNat) (W.lines (W.tasks F).loc.toNat) F)=false->((1:Int)==0&&(W.tasks F).loc != -1||!(cA W F==1)||!(cu W F==0))=!fv W F):=by
    intro k hk he
    rw[agQ hk,core,he]
    have a_:(!(bH W (W.tasks F).loc==k))=false->0<=(W.tasks F).loc/\(W.tasks F).loc<W.aW:=λh=>by
      rw[LZ];exact iO (by rw[eq_of_beq (jI h)];exact hk)
    refine⟨λ_=>hk,a_,λh=>?_,λh=>?_,λh=>?_⟩
    · have:=a_ h;have:=hm.1 (W.tasks F).loc.toNat (by omega);omega
    · unfold ui;revert h
      cases bH W (W.tasks F).loc==k<;>cases cF (W.ai (W.tasks F).loc.toNat) (W.lines (W.tasks F).loc.toNat) F<;>cases cA W F==1<;>cases cu W F==0<;>simp
    · unfold ui;revert h
      cases bH W (W.tasks F).loc==k<;>cases cF (W.ai (W.tasks F).loc.toNat) (W.lines (W.tasks F).loc.toNat) F<;>cases cA W F==1<;>cases cu W F==0<;>simp
  refine⟨λh7=>⟨λh8=>gB 8 (by decide) ?_,λh8=>gB 7 (by decide) ?_⟩,λh7=>?_⟩
  · have e6:=eq_of_beq h8
    simp only[oO];rw[e6];rfl
  · have h7:b=true:=h7
    rw[h7,h8,Bool.or_false]at hb
    simp only[oO];rw[<-hb];rfl
  · have h7:b=false:=h7
    have hb:=hb.symm
    rw[h7]at hb
    rw[Bool.or_eq_false_iff]at hb
    rw[core]
    simp only[oO];rw[hb.1,hb.2]
    refine⟨λh8=>?_,λh8=>?_⟩
    · rw[h8];simp only[bne]
      cases cA W F==0<;>cases cu W F==1<;>cases (W.tasks F).loc== -1<;>rfl
    · rw[h8];simp only[bne]
      cases cA W F==0<;>cases cu W F==0<;>cases (W.tasks F).loc== -1<;>rfl
end Go.Proofs.YthgmgkabnffniaaGreatDoor
