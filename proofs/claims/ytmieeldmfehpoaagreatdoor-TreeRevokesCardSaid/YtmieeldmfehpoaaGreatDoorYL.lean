/- Forgetting what tables do not tell any more. -/
import Derived.Test.YtmieeldmfehpoaaGreatDoorYK
import Derived.Test.YtmieeldmfehpoaaGreatDoorYI
set_option linter.unusedVariables false
set_option linter.unusedSimpArgs false
set_option linter.unusedVariables false
set_option linter.unusedSimpArgs false
set_option maxRecDepth 100000
namespace Go.Proofs.YtmieeldmfehpoaaGreatDoor
open Go.RowKit Go.Sy
theorem cL {x y:bI} (h:x=y):((x.sp=y.sp/\x.pg=y.pg)/\x.fr=y.fr)/\x.wr=y.wr:=by subst h;exact⟨⟨⟨rfl,rfl⟩,rfl⟩,rfl⟩
def Nc (n:Nat) (t:Nat->bI) (p:Nat->Bool):bS where
  σ:=Nat
  rt:= []
  sh j:= [(0,.aV 0 0 none 0 n),(5,.v (.int .i64 (aC p j))),(6,.v (.int .i64 j))]
  mh j:= [(0,.row 4 n λa c=>aH (eG (bif Nat.blt a (aC p j)then aU fo p t j a else t a)) c)]
  inv j:=bU n p<j/\j<=n
  μ j:=n -j
  init:=bU n p+1
def cb (n:Nat) (aa:Nat->Int) (e:bI):Bool:=!((dN n aa e.sp (16*e.pg)==0)&&(eZ n aa e.sp (16*e.pg)==e.fr)&&(e_ n aa e.sp (16*e.pg)==e.wr))
def cH (f:Int) (e:bI):Bool:=e.sp==f
def fK (n:Nat) (aa:Nat->Int) (k f:Int) (e:bI):Bool:=cb n aa e||(k==4&&e.sp==f)
def eE (p:bI->Bool) (W:Wd) (c:Nat):Nat:=aC (λi=>p (W.aj c i)) (W.aA c)
def dA (p:bI->Bool) (W:Wd) (c:Nat):Nat->bI:=aU fo (λi=>p (W.aj c i)) (W.aj c) (W.aA c)
def A9 (p:bI->Bool) (W:Wd):Wd:={W with aA:=eE p W,aj:=dA p W}
def dP (p:bI->Bool) (W:Wd) (i q:Nat):Nat:=bif Nat.blt q i then eE p W q else W.aA q
def cW (p:bI->Bool) (W:Wd) (i q:Nat):Nat->bI:=bif Nat.blt q i then dA p W q else W.aj q
theorem qa {p:bI->Bool} {W:Wd} {i q:Nat} (h:q<i):dP p W i q=eE p W q:=by unfold dP;rw[cD h];rfl
theorem lT {p:bI->Bool} {W:Wd} {i q:Nat} (h:i<=q):dP p W i q=W.aA q:=by unfold dP;rw[eI h];rfl
theorem sG {p:bI->Bool} {W:Wd} {i q:Nat} (h:q<i):cW p W i q=dA p W q:=by unfold cW;rw[cD h];rfl
theorem nE {p:bI->Bool} {W:Wd} {i q:Nat} (h:i<=q):cW p W i q=W.aj q:=by unfold cW;rw[eI h];rfl
structure fJ (W:Wd):Prop where
  z:bW W
  aa: ∀i,i<W.aq->fp (W.aa i)
  tn: ∀c,c<W.aG->W.aA c<=1000
  pg: ∀c,c<W.aG-> ∀k,k<W.aA c->0<=(W.aj c k).pg/\(W.aj c k).pg<=255
def EC (p:bI->Bool) (W:Wd) (l:List (Nat×SV)) (z:Nat):bS where
  σ:=Nat
  rt:= []
  sh i:=l++ [(z,.v (.int .i64 i))]
  mh i:= [(9,.row 1 W.aG (λq _=> .il 4 (dP p W i q) (rF λk=>eG (cW p W i q k))))]
  inv i:=i<=W.aG
  μ i:=W.aG -i
  init:=0
structure O3 where
  (e:bI) (m:Nat) (aa:Nat->Int)
def O4:Sy.Spec:=⟨O3,λ⟨e,m,aa⟩=> [.ag 4 (aH (eG e)),.pt true 1 (λ_=> .pt true 11 (aH [.sl true 1 m (iF aa)]))],λ_=> [],λ⟨e,m,aa⟩=>0<=e.pg/\e.pg<=255/\ ∀i,i<m->fp (aa i),λ⟨e,m,aa⟩=> .v (.bool (cb m aa e)),λ_=> [],
  λargs mem=>match args with| [a0,a1]=>some ⟨jf (cy a0),bO (bx (bx a1 0) 0),λi=>av (bF (bx (bx a1 0) 0) i 0)⟩|_=>none⟩
def Zc:aQ:=⟨[],(O4).g,none⟩
def O5:O3->Prop:=λ⟨e,m,aa⟩=>let a0:Int:=16*e.pg;tn 9 (ah a0=a0/\(((m=m/\(∀b0:Nat,b0<m->True/\aa b0=aa b0))/\e.sp=e.sp/\a0=a0/\True)/\True/\(∀c0:Nat,c0<m->0<=aa c0/\aa c0<=65535))/\tn 5 (cond (cond (dN m aa e.sp a0 !=0) true (eZ m aa e.sp a0 !=e.fr)) true (e_ m aa e.sp a0 !=e.wr)=cb m aa e/\True))
theorem Nd:aL Tryz.prog aO 128 Zc:=aW (.cons K0 .nil) false Tryz.call128 Tryz.func128 (λ_=> []) (V:=O5) (λ_=>by kernel_rfl) λ⟨e,m,aa⟩ hp=>by
  dsimp only[O4]at hp
  dsimp only[O5,tn,ah,ak,aE,aD,ay]
  simp only[aS,aZ,eq_self,implies_true,Bool.cond_self]
  try simp only[cu]
  obtain⟨J,U,h3⟩:=hp
  refine⟨by rw[IntKind.wrap_i64];omega,h3,?_⟩
  unfold cb bne
  cases dN m aa e.sp (16*e.pg)==0<;>cases eZ m aa e.sp (16*e.pg)==e.fr<;>cases e_ m aa e.sp (16*e.pg)==e.wr<;>rfl
structure O6 where
  (e:bI) (f:Int)
def Zd:Sy.Spec:=⟨O6,λ⟨e,f⟩=> [.ag 4 (aH (eG e)),.pt true 1 (λ_=> .v (.int .i64 f))],λ_=> [],λ_=>True,λ⟨e,f⟩=> .v (.bool (cH f e)),λ_=> [],
  λargs mem=>match args with| [a0,a1]=>some ⟨jf (cy a0),av (bx a1 0)⟩|_=>none⟩
def Ze:aQ:=⟨[],(Zd).g,none⟩
def O7:O6->Prop:=λ⟨e,f⟩=>True/\(e.sp==f)=cH f e/\True
theorem Nf:aL Tryz.prog aO 103 Ze:=aW .nil false Tryz.call103 Tryz.func103 (λ_=> []) (V:=O7) (λ_=>by kernel_rfl) λ⟨e,f⟩ hp=>by
  dsimp only[O7,tn,ah,ak,aE,aD,ay]
  simp only[aS,aZ,eq_self,implies_true,Bool.cond_self]
  try simp only[cu]
  rfl
structure Ng where
  (n:Nat) (t:Nat->bI) (m:Nat) (aa:Nat->Int)
def Nh:Sy.Spec:=⟨Ng,λ⟨n,t,m,aa⟩=> [.sl true 4 n (rF λi=>eG (t i)),.fn 128 1 (aH [.pt true 1 (λ_=> .pt true 11 (aH [.sl true 1 m (iF aa)]))])],λ_=> [],λ⟨n,t,m,aa⟩=>n<=100000/\(∀i,i<m->fp (aa i))/\ ∀k,k<n->0<=(t k).pg/\(t k).pg<=255,λ⟨n,t,m,aa⟩=> .v (.int .i64 (cN n λi=>cb m aa (t i))),λ_=> [],
  λargs mem=>match args with| [a0,a1]=>(match fN 128 a1 with|true=>some ⟨bO a0,λi=>jf (λj=>bF a0 i j),bO (bx (bx (dc a1 0) 0) 0),λi=>av (bF (bx (bx (dc a1 0) 0) 0) i 0)⟩|false=>none)|_=>none⟩
def Xk:aQ:=⟨[],(Nh).g,none⟩
def Ni:Ng->Prop:=λ⟨n,t,m,aa⟩=>let a0:=(n:Int);let b0:=cN n (λc0:Nat=>cb m aa (t c0));a0<=9223372036854775807->0=((0:Nat):Int)/\True/\(0<=n/\(∀d0:Nat,d0<0->cb m aa (t d0)=false))/\(∀e0:Nat,let g0:=(e0:Int);let h0:=decide (g0<a0);let k0:=t (Int.toNat g0);let l0:=k0.pg;let o0:=cb m aa k0;let q0:Int:=g0+1;e0<=n/\(∀r0:Nat,r0<e0->cb m aa (t r0)=false)->(h0=true->(0<=g0/\g0<a0)/\((ay k0 k0/\(True/\((((((((((True/\m=m/\(∀u0:Nat,u0<m->True/\aa u0=aa u0))/\True)/\True)/\True)/\True)/\True)/\True)/\True)/\True)/\True)/\True)/\True)/\True/\0<=l0/\l0<=255/\(∀v0:Nat,v0<m->0<=aa v0/\aa v0<=65535))/\(o0=true->g0=b0/\True)/\(o0=false->ah q0=q0/\(∃w0:Nat,q0=(w0:Int)/\True/\(w0<=n/\(∀x0:Nat,x0<w0->cb m aa (t x0)=false))/\n-w0<n-e0)))/\(h0=false->(-1)=b0/\True))
theorem VN:aL Tryz.prog aO 116 Xk:=aW (.cons Nd .nil) false Tryz.call116 Tryz.func116 (λ⟨n,t,m,aa⟩=> [.inv (GA n λi=>cb m aa (t i))]) (V:=Ni) (λ_=>by kernel_rfl) λ⟨n,t,m,aa⟩ hp=>by
  dsimp only[Nh]at hp
  dsimp only[Ni,tn,ah,ak,aE,aD,ay]
  simp only[aS,aZ,eq_self,implies_true,Bool.cond_self]
  try simp only[cu]
  intro _ s hs
  refine⟨λh=>?_,λh=>?_⟩
  · have ai:=aY h
    refine⟨by omega,⟨(hp.2.2 s (by omega)).1,(hp.2.2 s (by omega)).2,hp.2.1⟩,λJ=>?_,λJ=>⟨by rw[IntKind.wrap_i64];omega,bZ ⟨⟨by omega,λj hj=>?_⟩,by omega⟩⟩⟩
    · rw[qc (p:=λi=>cb m aa (t i)) hs.2 J ai]
    · rcases Nat.lt_or_ge j s with h3|h3
      · exact hs.2 j h3
      · obtain rfl:j=s:=by omega
        exact J
  · obtain rfl:s=n:=by have:=bD h;omega
    rw[mI (p:=λi=>cb m aa (t i)) hs.2]
structure yB where
  (n:Nat) (t:Nat->bI) (f:Int)
def CY:Sy.Spec:=⟨yB,λ⟨n,t,f⟩=> [.sl true 4 n (rF λi=>eG (t i)),.fn 103 1 (aH [.pt true 1 (λ_=> .v (.int .i64 f))])],λ_=> [],λ⟨n,_,_⟩=>n<=100000,λ⟨n,t,f⟩=> .v (.int .i64 (cN n λi=>cH f (t i))),λ_=> [],
  λargs mem=>match args with| [a0,a1]=>(match fN 103 a1 with|true=>some ⟨bO a0,λi=>jf (λj=>bF a0 i j),av (bx (dc a1 0) 0)⟩|false=>none)|_=>none⟩
def VO:aQ:=⟨[],(CY).g,none⟩
def K1:yB->Prop:=λ⟨n,t,f⟩=>let a0:=(n:Int);let b0:=cN n (λc0:Nat=>cH f (t c0));a0<=9223372036854775807->0=((0:Nat):Int)/\True/\(0<=n/\(∀d0:Nat,d0<0->cH f (t d0)=false))/\(∀e0:Nat,let g0:=(e0:Int);let h0:=decide (g0<a0);let k0:=t (Int.toNat g0);let l0:=cH f k0;let o0:Int:=g0+1;e0<=n/\(∀q0:Nat,q0<e0->cH f (t q0)=false)->(h0=true->(0<=g0/\g0<a0)/\((ay k0 k0/\(True/\f=f)/\True)/\True/\True)/\(l0=true->g0=b0/\True)/\(l0=false->ah o0=o0/\(∃r0:Nat,o0=(r0:Int)/\True/\(r0<=n/\(∀u0:Nat,u0<r0->cH f (t u0)=false))/\n-r0<n-e0)))/\(h0=false->(-1)=b0/\True))
theorem TJ:aL Tryz.prog aO 116 VO:=aW (.cons Nf .nil) false Tryz.call116 Tryz.func116 (λ⟨n,t,f⟩=> [.inv (GA n λi=>cH f (t i))]) (V:=K1) (λ_=>by kernel_rfl) λ⟨n,t,f⟩ hp=>by
  dsimp only[CY]at hp
  dsimp only[K1,tn,ah,ak,aE,aD,ay]
  simp only[aS,aZ,eq_self,implies_true,Bool.cond_self]
  try simp only[cu]
  intro _ s hs
  refine⟨λh=>?_,λh=>?_⟩
  · have ai:=aY h
    refine⟨by omega,λJ=>?_,λJ=>⟨by rw[IntKind.wrap_i64];omega,bZ ⟨⟨by omega,λj hj=>?_⟩,by omega⟩⟩⟩
    · rw[qc (p:=λi=>cH f (t i)) hs.2 J ai]
    · rcases Nat.lt_or_ge j s with h3|h3
      · exact hs.2 j h3
      · obtain rfl:j=s:=by omega
        exact J
  · obtain rfl:s=n:=by have:=bD h;omega
    rw[mI (p:=λi=>cH f (t i)) hs.2]
structure Nj where
  (m:Nat) (aa:Nat->Int) (n:Nat) (t:Nat->bI)
def Nk:Sy.Spec:=⟨Nj,λ⟨m,aa,n,_⟩=> [.aV 0 0 none 0 n,.fn 128 1 (aH [.pt true 1 (λ_=> .pt true 11 (aH [.sl true 1 m (iF aa)]))])],λ⟨_,_,n,t⟩=> [.row 4 n (rF λi=>eG (t i))],λ⟨m,aa,n,t⟩=>n<=100000/\(∀i,i<m->fp (aa i))/\ ∀k,k<n->0<=(t k).pg/\(t k).pg<=255,λ⟨m,aa,n,t⟩=> .aV 0 0 none 0 (aC (λi=>cb m aa (t i)) n),λ⟨m,aa,n,t⟩=> [.row 4 n (rF λa=>eG (bif Nat.blt a (aC (λi=>cb m aa (t i)) n)then aU fo (λi=>cb m aa (t i)) t n a else fo))],
  λargs mem=>match args with| [a0,a1]=>(match fN 128 a1 with|true=>some ⟨bO (bx (bx (dc a1 0) 0) 0),λi=>av (bF (bx (bx (dc a1 0) 0) 0) i 0),ki mem 0,λi=>jf (λj=>jc mem 0 i j)⟩|false=>none)|_=>none⟩
def Xl:aQ:=⟨[true,false],(Nk).g,none⟩
def Nl:Nj->Prop:=λ⟨m,aa,n,t⟩=>let a0:=n=n;let b0:=True/\((((((((((True/\m=m/\(∀c0:Nat,c0<m->True/\aa c0=aa c0))/\True)/\True)/\True)/\True)/\True)/\True)/\True)/\True)/\True)/\True;let d0:=cN n (λe0:Nat=>cb m aa (t (0+e0)));let g0:=d0==(-1);let h0:=aC (λk0:Nat=>cb m aa (t k0)) n;let l0:=bI.mk 0 0 0 false;let o0:Int:=d0+1;let q0:=0=0/\a0;let r0:=bU n (λu0:Nat=>cb m aa (t u0));let v0:=r0+1;let w0:=aC (λx0:Nat=>cb m aa (t x0)) v0;let y0:=(n:Int);let z0:=false=false;let a1:=Int.toNat y0;(((a0/\(∀b1:Nat,b1<n->ay (t (0+b1)) (t (0+b1))))/\(True/\b0)/\True)/\True/\n<=100000/\(∀c1:Nat,c1<m->0<=aa c1/\aa c1<=65535)/\(∀d1:Nat,d1<n->0<=(t (0+d1)).pg/\(t (0+d1)).pg<=255))/\(g0=true->(0=0/\n=h0)/\(a0/\(∀e1:Nat,e1<n->ay (t e1) (cond (Nat.blt e1 h0) (aU l0 (λg1:Nat=>cb m aa (t g1)) t n e1) l0)))/\True)/\(g0=false->ah o0=o0/\q0/\d0=(w0:Int)/\o0=(v0:Int)/\((a0/\(∀J:Nat,J<n->ay (t J) (cond (Nat.blt J w0) (aU l0 (λk1:Nat=>cb m aa (t k1)) t v0 J) (t J))))/\True)/\(r0<v0/\v0<=n)/\(∀l1:Nat,let o1:=(l1:Int);let q1:=decide (o1<y0);let r1:=0+Int.toNat o1;let u1:=aC (λv1:Nat=>cb m aa (t v1)) l1;let w1:=cond (Nat.blt r1 u1) (aU l0 (λx1:Nat=>cb m aa (t x1)) t l1 r1) (t r1);let y1:=w1.pg;let z1:=!cb m aa w1;let a2:=(u1:Int);let b2:=0<=a2;let c2:Int:=a2+1;let d2:Int:=o1+1;let e2:=ah d2=d2;let g2:=Int.toNat a2;let U:=0+g2;let k2:=a2<=y0;let l2:=U+(a1-g2);r0<l1/\l1<=n->y0<=9223372036854775807->(q1=true->(0<=o1/\o1<y0)/\True/\tn 3 True/\((ay w1 w1/\b0/\True)/\True/\0<=y1/\y1<=255/\(∀o2:Nat,o2<m->0<=aa o2/\aa o2<=65535))/\(z1=true->(b2/\a2<y0)/\
    ((∀q2:Nat,z0)/\(∀r2:Nat,z0)/\(∀u2:Nat,z0)/\(∀v2:Nat,z0))/\ah c2=c2/\e2/\(∃w2:Nat,let x2:=aC (λy2:Nat=>cb m aa (t y2)) w2;q0/\c2=(x2:Int)/\d2=(w2:Int)/\((a0/\(∀z2:Nat,let a3:=Nat.beq z2 U;let b3:=cond (Nat.blt z2 u1) (aU l0 (λc3:Nat=>cb m aa (t c3)) t l1 z2) (t z2);z2<n->ay (bI.mk (cond a3 w1.sp b3.sp) (cond a3 y1 b3.pg) (cond a3 w1.fr b3.fr) (cond a3 w1.wr b3.wr)) (cond (Nat.blt z2 x2) (aU l0 (λd3:Nat=>cb m aa (t d3)) t w2 z2) (t z2))))/\True)/\(r0<w2/\w2<=n)/\n-w2<n-l1))/\(z1=false->e2/\(∃e3:Nat,let g3:=aC (λh3:Nat=>cb m aa (t h3)) e3;q0/\a2=(g3:Int)/\d2=(e3:Int)/\((a0/\(∀k3:Nat,k3<n->ay (cond (Nat.blt k3 u1) (aU l0 (λl3:Nat=>cb m aa (t l3)) t l1 k3) (t k3)) (cond (Nat.blt k3 g3) (aU l0 (λo3:Nat=>cb m aa (t o3)) t e3 k3) (t k3))))/\True)/\(r0<e3/\e3<=n)/\n-e3<n-l1)))/\(q1=false->(b2/\k2/\y0<=y0)/\((∀q3:Nat,true=true)/\l2<=n)/\((0:Int)<=0/\b2/\k2)/\(0=0/\g2-Int.toNat 0=h0)/\(a0/\(∀r3:Nat,let u3:=Nat.ble U r3&&Nat.blt r3 l2;let v3:=cond (Nat.blt r3 u1) (aU l0 (λw3:Nat=>cb m aa (t w3)) t l1 r3) (t r3);r3<n->ay (bI.mk (cond u3 0 v3.sp) (cond u3 0 v3.pg) (cond u3 0 v3.fr) (cond u3 false v3.wr)) (cond (Nat.blt r3 h0) (aU l0 (λx3:Nat=>cb m aa (t x3)) t n r3) l0)))/\True)))
set_option maxHeartbeats 1000000 in
theorem VJ:aL Tryz.prog aO 122 Xl:=aW (.cons VN (.cons Nd .nil)) false Tryz.call122 Tryz.func122 (λ⟨m,aa,n,t⟩=> [.inv (Nc n t λi=>cb m aa (t i))]) (V:=Nl) (λ_=>by kernel_rfl) λ⟨m,aa,n,t⟩ hp=>by
  dsimp only[Nk]at hp
  dsimp only[Nl,tn,ah,ak,aE,aD,ay]
  simp only[aS,aZ,eq_self,implies_true,Bool.cond_self]
  try simp only[cu]
  obtain⟨hp,hr,xa⟩:=hp
  refine⟨⟨hp,hr,xa⟩,?_⟩
  simp only[show(bI.mk 0 0 0 false)=fo from rfl]
  obtain⟨P,hP⟩: ∃P:Nat->Bool,P=λi=>cb m aa (t i):=⟨_,rfl⟩
  have xb: ∀i,cb m aa (t i)=P i:=λi=>by rw[hP]
  rw[<-hP]
  obtain⟨f1,f2⟩:=zd P n
  have hle:=p9 P n
  have wr: ∀z:Int,-1<=z->z<=200000->IntKind.i64.wrap z=z:=λz J U=>by rw[IntKind.wrap_i64];omega
  rcases Nat.lt_or_ge (bU n P) n with hm|hm
  · have hi:cN n P=(bU n P:Nat):=by unfold cN;rw[fw,decide_eq_true hm];rfl
    have hk:=f2 hm
    have hN:aC P (bU n P+1)=bU n P:=by rw[aC,hk,nF f1];rfl
    have hT: ∀a,a<bU n P->aU fo P t (bU n P+1) a=t a:=λa ha=>by rw[aU,hk];simpa using oL f1 ha
    rw[hi,hN]
    refine⟨λh=>by have:=eq_of_beq h;omega,λ_=>⟨wr _ (by omega) (by omega),rfl,by omega,λi hi=>cL ?_,by omega,λs hs _=>⟨λh=>?_,λh=>?_⟩⟩⟩
    · rcases Nat.lt_or_ge i (bU n P)with h|h
      · rw[fw,decide_eq_true h,hT i h];rfl
      · rw[fw,decide_eq_false (by omega)];rfl
    · have ai:=aY h
      have lF:=qM hk hs.1
      have e1:Nat.blt s (aC P s)=false:=by rw[fw];exact decide_eq_false (by omega)
      rw[e1]
      simp only[cond_false,xb]
      have bq: ∀{a b:Nat},a≠b->Nat.beq a b=false:=λ{a b} h=>by
        cases hb:Nat.beq a b with
        |false=>rfl
        |true=>exact absurd (Nat.eq_of_beq_eq_true hb) h
      refine⟨by omega,⟨(xa s (by omega)).1,(xa s (by omega)).2,hr⟩,λhn=>?_,λhn=>?_⟩
      · have fa:P s=false:=gM hn
        have dW:aC P (s+1)=aC P s+1:=by rw[aC,fa];rfl
        refine⟨by omega,wr _ (by omega) (by omega),wr _ (by omega) (by omega),s+1,by rw[dW];rfl,rfl,λi hi=>?_,by omega,by omega⟩
        rw[dW]
        rcases Nat.lt_trichotomy i (aC P s)with h3|h3|h3
        · have e:aU fo P t (s+1) i=aU fo P t s i:=by rw[aU,bq (by omega:i≠aC P s)];simp
          rw[bq (by omega:i≠aC P s),cD h3,cD (by omega:i<aC P s+1),e]
          exact⟨⟨⟨rfl,rfl⟩,rfl⟩,rfl⟩
        · subst h3
          have e:aU fo P t (s+1) (aC P s)=t s:=by rw[aU,fa,Nat.beq_refl];rfl
          rw[Nat.beq_refl,cD (by omega:aC P s<aC P s+1),e]
          exact⟨⟨⟨rfl,rfl⟩,rfl⟩,rfl⟩
        · rw[bq (by omega:i≠aC P s),eI (by omega:aC P s<=i),eI (by omega:aC P s+1<=i)]
          exact⟨⟨⟨rfl,rfl⟩,rfl⟩,rfl⟩
      · have fa:P s=true:=dy hn
        have dW:aC P (s+1)=aC P s:=by rw[aC,fa];rfl
        refine⟨wr _ (by omega) (by omega),s+1,by rw[dW],rfl,λi hi=>?_,by omega,by omega⟩
        have e:aU fo P t (s+1) i=aU fo P t s i:=by rw[aU,fa];rfl
        rw[dW,e]
        exact⟨⟨⟨rfl,rfl⟩,rfl⟩,rfl⟩
    · obtain rfl:s=n:=by have:=bD h;omega
      have lF:=qM hk hs.1
      refine⟨by omega,by omega,by omega,rfl,λi hi=>?_⟩
      rcases Nat.lt_or_ge i (aC P s)with h3|h3
      · rw[EF h3,cD h3]
        exact⟨⟨⟨rfl,rfl⟩,rfl⟩,rfl⟩
      · rw[EG h3,eI h3,cD (by omega:i<aC P s+(s -aC P s))]
        exact⟨⟨⟨rfl,rfl⟩,rfl⟩,rfl⟩
  · have hN:aC P n=n:=nF λj hj=>f1 j (by omega)
    have hi:cN n P= -1:=by unfold cN;rw[fw,decide_eq_false (by omega)];rfl
    rw[hi,hN]
    refine⟨λ_=>⟨rfl,λi hi=>cL ?_⟩,λh=>by simp at h⟩
    rw[fw,decide_eq_true hi,oL (λj hj=>f1 j (by omega)) hi];rfl
structure zb where
  (f:Int) (n:Nat) (t:Nat->bI)
def DZ:Sy.Spec:=⟨zb,λ⟨f,n,_⟩=> [.aV 0 0 none 0 n,.fn 103 1 (aH [.pt true 1 (λ_=> .v (.int .i64 f))])],λ⟨_,n,t⟩=> [.row 4 n (rF λi=>eG (t i))],λ⟨_,n,_⟩=>n<=100000,λ⟨f,n,t⟩=> .aV 0 0 none 0 (aC (λi=>cH f (t i)) n),λ⟨f,n,t⟩=> [.row 4 n (rF λa=>eG (bif Nat.blt a (aC (λi=>cH f (t i)) n)then aU fo (λi=>cH f (t i)) t n a else fo))],
  λargs mem=>match args with| [a0,a1]=>(match fN 103 a1 with|true=>some ⟨av (bx (dc a1 0) 0),ki mem 0,λi=>jf (λj=>jc mem 0 i j)⟩|false=>none)|_=>none⟩
def Xm:aQ:=⟨[true,false],(DZ).g,none⟩
def Nn:zb->Prop:=λ⟨f,n,t⟩=>let a0:=n=n;let b0:=cN n (λc0:Nat=>cH f (t (0+c0)));let d0:=b0==(-1);let e0:=aC (λg0:Nat=>cH f (t g0)) n;let h0:=bI.mk 0 0 0 false;let k0:Int:=b0+1;let l0:=0=0/\a0;let o0:=bU n (λq0:Nat=>cH f (t q0));let r0:=o0+1;let u0:=aC (λv0:Nat=>cH f (t v0)) r0;let w0:=(n:Int);let x0:=false=false;let y0:=Int.toNat w0;(((a0/\(∀z0:Nat,z0<n->ay (t (0+z0)) (t (0+z0))))/\tn 2 (f=f)/\True)/\True/\CY.match_1 (λa1:yB=>Prop) (yB.mk n (λb1:Nat=>t (0+b1)) f) (λc1:Nat=>λd1:∀e1:Nat,bI=>λg1:Int=>c1<=100000))/\(d0=true->(0=0/\n=e0)/\(a0/\(∀J:Nat,J<n->ay (t J) (cond (Nat.blt J e0) (aU h0 (λk1:Nat=>cH f (t k1)) t n J) h0)))/\True)/\(d0=false->ah k0=k0/\l0/\b0=(u0:Int)/\k0=(r0:Int)/\((a0/\(∀l1:Nat,l1<n->ay (t l1) (cond (Nat.blt l1 u0) (aU h0 (λo1:Nat=>cH f (t o1)) t r0 l1) (t l1))))/\True)/\(o0<r0/\r0<=n)/\(∀q1:Nat,let r1:=(q1:Int);let u1:=decide (r1<w0);let v1:=0+Int.toNat r1;let w1:=aC (λx1:Nat=>cH f (t x1)) q1;let y1:=cond (Nat.blt v1 w1) (aU h0 (λz1:Nat=>cH f (t z1)) t q1 v1) (t v1);let a2:=!cH f y1;let b2:=(w1:Int);let c2:=0<=b2;let d2:Int:=b2+1;let e2:Int:=r1+1;let g2:=ah e2=e2;let U:=Int.toNat b2;let k2:=0+U;let l2:=b2<=w0;let o2:=k2+(y0-U);o0<q1/\q1<=n->w0<=9223372036854775807->(u1=true->(0<=r1/\r1<w0)/\True/\tn 3 True/\((ay y1 y1/\(True/\f=f)/\True)/\True/\True)/\(a2=true->(c2/\b2<w0)/\((∀q2:Nat,x0)/\(∀r2:Nat,x0)/\(∀u2:Nat,x0)/\(∀v2:Nat,x0))/\ah d2=d2/\g2/\(∃w2:Nat,let x2:=aC (λy2:Nat=>cH f (t y2)) w2;l0/\d2=(x2:Int)/\e2=(w2:Int)/\((a0/\(∀z2:Nat,
    let a3:=Nat.beq z2 k2;let b3:=cond (Nat.blt z2 w1) (aU h0 (λc3:Nat=>cH f (t c3)) t q1 z2) (t z2);z2<n->ay (bI.mk (cond a3 y1.sp b3.sp) (cond a3 y1.pg b3.pg) (cond a3 y1.fr b3.fr) (cond a3 y1.wr b3.wr)) (cond (Nat.blt z2 x2) (aU h0 (λd3:Nat=>cH f (t d3)) t w2 z2) (t z2))))/\True)/\(o0<w2/\w2<=n)/\n-w2<n-q1))/\(a2=false->g2/\(∃e3:Nat,let g3:=aC (λh3:Nat=>cH f (t h3)) e3;l0/\b2=(g3:Int)/\e2=(e3:Int)/\((a0/\(∀k3:Nat,k3<n->ay (cond (Nat.blt k3 w1) (aU h0 (λl3:Nat=>cH f (t l3)) t q1 k3) (t k3)) (cond (Nat.blt k3 g3) (aU h0 (λo3:Nat=>cH f (t o3)) t e3 k3) (t k3))))/\True)/\(o0<e3/\e3<=n)/\n-e3<n-q1)))/\(u1=false->(c2/\l2/\w0<=w0)/\((∀q3:Nat,true=true)/\o2<=n)/\((0:Int)<=0/\c2/\l2)/\(0=0/\U-Int.toNat 0=e0)/\(a0/\(∀r3:Nat,let u3:=Nat.ble k2 r3&&Nat.blt r3 o2;let v3:=cond (Nat.blt r3 w1) (aU h0 (λw3:Nat=>cH f (t w3)) t q1 r3) (t r3);r3<n->ay (bI.mk (cond u3 0 v3.sp) (cond u3 0 v3.pg) (cond u3 0 v3.fr) (cond u3 false v3.wr)) (cond (Nat.blt r3 e0) (aU h0 (λx3:Nat=>cH f (t x3)) t n r3) h0)))/\True)))
set_option maxHeartbeats 1000000 in
theorem VK:aL Tryz.prog aO 122 Xm:=aW (.cons TJ (.cons Nf .nil)) false Tryz.call122 Tryz.func122 (λ⟨f,n,t⟩=> [.inv (Nc n t λi=>cH f (t i))]) (V:=Nn) (λ_=>by kernel_rfl) λ⟨f,n,t⟩ hp=>by
  dsimp only[DZ]at hp
  dsimp only[Nn,tn,ah,ak,aE,aD,ay]
  simp only[aS,aZ,eq_self,implies_true,Bool.cond_self]
  try simp only[cu]
  refine⟨hp,?_⟩
  simp only[show(bI.mk 0 0 0 false)=fo from rfl]
  obtain⟨P,hP⟩: ∃P:Nat->Bool,P=λi=>cH f (t i):=⟨_,rfl⟩
  have xb: ∀i,cH f (t i)=P i:=λi=>by rw[hP]
  rw[<-hP]
  obtain⟨f1,f2⟩:=zd P n
  have hle:=p9 P n
  have wr: ∀z:Int,-1<=z->z<=200000->IntKind.i64.wrap z=z:=λz J U=>by rw[IntKind.wrap_i64];omega
  rcases Nat.lt_or_ge (bU n P) n with hm|hm
  · have hi:cN n P=(bU n P:Nat):=by unfold cN;rw[fw,decide_eq_true hm];rfl
    have hk:=f2 hm
    have hN:aC P (bU n P+1)=bU n P:=by rw[aC,hk,nF f1];rfl
    have hT: ∀a,a<bU n P->aU fo P t (bU n P+1) a=t a:=λa ha=>by rw[aU,hk];simpa using oL f1 ha
    rw[hi,hN]
    refine⟨λh=>by have:=eq_of_beq h;omega,λ_=>⟨wr _ (by omega) (by omega),rfl,by omega,λi hi=>cL ?_,by omega,λs hs _=>⟨λh=>?_,λh=>?_⟩⟩⟩
    · rcases Nat.lt_or_ge i (bU n P)with h|h
      · rw[fw,decide_eq_true h,hT i h];rfl
      · rw[fw,decide_eq_false (by omega)];rfl
    · have ai:=aY h
      have lF:=qM hk hs.1
      have e1:Nat.blt s (aC P s)=false:=by rw[fw];exact decide_eq_false (by omega)
      rw[e1]
      simp only[cond_false,xb]
      have bq: ∀{a b:Nat},a≠b->Nat.beq a b=false:=λ{a b} h=>by
        cases hb:Nat.beq a b with
        |false=>rfl
        |true=>exact absurd (Nat.eq_of_beq_eq_true hb) h
      refine⟨by omega,λhn=>?_,λhn=>?_⟩
      · have fa:P s=false:=gM hn
        have dW:aC P (s+1)=aC P s+1:=by rw[aC,fa];rfl
        refine⟨by omega,wr _ (by omega) (by omega),wr _ (by omega) (by omega),s+1,by rw[dW];rfl,rfl,λi hi=>?_,by omega,by omega⟩
        rw[dW]
        rcases Nat.lt_trichotomy i (aC P s)with h3|h3|h3
        · have e:aU fo P t (s+1) i=aU fo P t s i:=by rw[aU,bq (by omega:i≠aC P s)];simp
          rw[bq (by omega:i≠aC P s),cD h3,cD (by omega:i<aC P s+1),e]
          exact⟨⟨⟨rfl,rfl⟩,rfl⟩,rfl⟩
        · subst h3
          have e:aU fo P t (s+1) (aC P s)=t s:=by rw[aU,fa,Nat.beq_refl];rfl
          rw[Nat.beq_refl,cD (by omega:aC P s<aC P s+1),e]
          exact⟨⟨⟨rfl,rfl⟩,rfl⟩,rfl⟩
        · rw[bq (by omega:i≠aC P s),eI (by omega:aC P s<=i),eI (by omega:aC P s+1<=i)]
          exact⟨⟨⟨rfl,rfl⟩,rfl⟩,rfl⟩
      · have fa:P s=true:=dy hn
        have dW:aC P (s+1)=aC P s:=by rw[aC,fa];rfl
        refine⟨wr _ (by omega) (by omega),s+1,by rw[dW],rfl,λi hi=>?_,by omega,by omega⟩
        have e:aU fo P t (s+1) i=aU fo P t s i:=by rw[aU,fa];rfl
        rw[dW,e]
        exact⟨⟨⟨rfl,rfl⟩,rfl⟩,rfl⟩
    · obtain rfl:s=n:=by have:=bD h;omega
      have lF:=qM hk hs.1
      refine⟨by omega,by omega,by omega,rfl,λi hi=>?_⟩
      rcases Nat.lt_or_ge i (aC P s)with h3|h3
      · rw[EF h3,cD h3]
        exact⟨⟨⟨rfl,rfl⟩,rfl⟩,rfl⟩
      · rw[EG h3,eI h3,cD (by omega:i<aC P s+(s -aC P s))]
        exact⟨⟨⟨rfl,rfl⟩,rfl⟩,rfl⟩
  · have hN:aC P n=n:=nF λj hj=>f1 j (by omega)
    have hi:cN n P= -1:=by unfold cN;rw[fw,decide_eq_false (by omega)];rfl
    rw[hi,hN]
    refine⟨λ_=>⟨rfl,λi hi=>cL ?_⟩,λh=>by simp at h⟩
    rw[fw,decide_eq_true hi,oL (λj hj=>f1 j (by omega)) hi];rfl
end Go.Proofs.YtmieeldmfehpoaaGreatDoor
set_option linter.unusedVariables false
set_option linter.unusedSimpArgs false
set_option maxRecDepth 100000
namespace Go.Proofs.YtmieeldmfehpoaaGreatDoor
open Go.RowKit Go.Sy
def dX (f:Nat->Nat) (i j:Nat):Nat:=bif Nat.blt j i then f j else 0
theorem qO {f:Nat->Nat} {i j:Nat} (h:j<i):dX f i j=f j:=by unfold dX;rw[cD h];rfl
theorem mT {f:Nat->Nat} {i j:Nat} (h:i<=j):dX f i j=0:=by unfold dX;rw[eI h];rfl
theorem yf {f:Nat->Nat} {i j:Nat}:(bif j.beq i then f i else dX f i j)=dX f (i+1) j:=by
  rcases Nat.lt_trichotomy j i with h|h|h
  · rw[ca (by omega),qO h,qO (by omega:j<i+1)];rfl
  · subst h;rw[Nat.beq_refl,qO (Nat.lt_succ_self _)];rfl
  · rw[ca (by omega),mT (by omega),mT (by omega:i+1<=j)];rfl
theorem sY {α:Type} {f:Nat->α} {i j:Nat}:(bif j.beq i then f i else f j)=f j:=by
  rcases Decidable.em (j=i)with h|h
  · subst h;cases j.beq j<;>rfl
  · rw[ca h];rfl
theorem Pq {c:Bool} {f:Nat->bI} {i j:Nat} (h:c=j.beq i):(((bif c then(f i).sp else(f j).sp)=(f j).sp/\(bif c then(f i).pg else(f j).pg)=(f j).pg)/\(bif c then(f i).fr else(f j).fr)=(f j).fr)/\(bif c then(f i).wr else(f j).wr)=(f j).wr:=by
  subst h
  exact⟨⟨⟨sY (f:=λx=>(f x).sp),sY (f:=λx=>(f x).pg)⟩,sY (f:=λx=>(f x).fr)⟩,sY (f:=λx=>(f x).wr)⟩
def NS (a b:Nat) (n:Nat) (ln:Nat->Nat) (l:Nat->Nat->Int):bS where
  σ:=Nat
  rt:= [(a,1)]
  sh i:= [(a,.aV 0 0 none 0 n),(b,.v (.int .i64 i))]
  mh i:= [(0,.row 1 n λj _=> .il 1 (dX ln i j) (iF (l j)))]
  inv i:=i<=n
  μ i:=n -i
  init:=0
def Yb (a b:Nat) (n:Nat) (ln:Nat->Nat) (l:Nat->Nat->bI):bS where
  σ:=Nat
  rt:= [(a,1)]
  sh i:= [(a,.aV 0 0 none 0 n),(b,.v (.int .i64 i))]
  mh i:= [(0,.row 1 n λj _=> .il 4 (dX ln i j) (rF λk=>eG (l j k)))]
  inv i:=i<=n
  μ i:=n -i
  init:=0
def Yc (W:Wd):bS where
  σ:=Nat
  rt:= [(1,0),(2,0),(3,0)]
  sh i:= [(1,bd 0),(2,bd 1),(3,bd 2),(4,.v (.int .i64 i))]
  mh i:= [(11,.row 1 W.aG λj _=> .il 4 (dX W.aA i j) (rF λk=>eG (W.aj j k)))]
  inv i:=i<=W.aG
  μ i:=W.aG -i
  init:=0
structure Lg (W:Wd):Prop where
  aa:W.aq<=1000
  kinds:W.ar<=1000
  af:W.aw<=1000
  tasks:W.az<=1000
  lines:W.ba<=1000
  bits:W.aN<=1000
  aF:W.aP<=1000
  ready:W.aT<=1000
  aj:W.aG<=1000
  aM:W.aI<=1000
  ao: ∀i,i<W.ba->W.ao i<=1000
  aJ: ∀i,i<W.aT->W.aJ i<=1000
  aA: ∀i,i<W.aG->W.aA i<=1000
structure j6 where
  (n:Nat) (l:Nat->Int)
def oI:Sy.Spec:=⟨j6,λ⟨n,l⟩=> [.sl true 1 n (λi_ _=> .v (.int .i64 (l i_)))],λ_=> [],λ⟨n,_⟩=>n<=100000,λ⟨n,_⟩=> .aV 0 0 none 0 n,λ⟨n,l⟩=> [.row 1 n (iF l)],
  λargs mem=>match args with| [a0]=>some ⟨bO a0,λi=>av (bF a0 i 0)⟩|_=>none⟩
def Ug:aQ:=⟨[],(oI).g,none⟩
def JH:j6->Prop:=λ⟨n,l⟩=> ∀a0:Bool,(a0=true->n=0)->(a0=true->(0=0/\0=n)/\(0=n/\(∀b0:Nat,b0<n->True/\SV.aK=SV.v (Value.int IntKind.i64 (l b0))))/\True)/\(a0=false->True/\(n*8<=140737488355328/\(∀c0:Nat,true=true))/\(0=0/\n=n)/\(n=n/\(∀d0:Nat,d0<n->True/\l d0=l d0))/\True)
theorem Ix:aL Tryz.prog aO 47 Ug:=aW .nil false Tryz.call47 Tryz.func47 (λ_=> []) (V:=JH) (λ_=>by kernel_rfl) λ⟨n,l⟩ hp=>by
  dsimp only[oI]at hp
  dsimp only[JH,tn,ah,ak,aE,aD,ay]
  simp only[aS,eq_self,implies_true,Bool.cond_self]
  intro b hb
  refine⟨λh=>?_,λ_=>?_⟩
  · have:=hb h
    subst this
    exact⟨rfl,rfl,λi hi=>absurd hi (by omega)⟩
  · omega
structure yg where
  (n:Nat) (l:Nat->cp)
def Cj:Sy.Spec:=⟨yg,λ⟨n,l⟩=> [.sl true 7 n (rF λi=>kx (l i))],λ_=> [],λ⟨n,_⟩=>n<=100000,λ⟨n,_⟩=> .aV 0 0 none 0 n,λ⟨n,l⟩=> [.row 7 n (rF λi=>kx (l i))],
  λargs mem=>match args with| [a0]=>some ⟨bO a0,λi=>rf (λj=>bF a0 i j)⟩|_=>none⟩
def Uh:aQ:=⟨[],(Cj).g,none⟩
def JI:yg->Prop:=λ⟨n,l⟩=> ∀a0:Bool,(a0=true->n=0)->(a0=true->(0=0/\0=n)/\(0=n/\(∀b0:Nat,let c0:=l b0;b0<n->((((((True/\SV.aK=SV.v (Value.int IntKind.i64 c0.kind))/\SV.aK=SV.v (Value.int IntKind.i64 c0.base))/\SV.aK=SV.v (Value.int IntKind.i64 c0.len))/\SV.aK=SV.v (Value.int IntKind.i64 c0.mark))/\SV.aK=SV.v (Value.int IntKind.i64 c0.cQ))/\SV.aK=SV.v (Value.int IntKind.i64 c0.bJ))/\SV.aK=SV.v (Value.int IntKind.i64 c0.from_)))/\True)/\(a0=false->True/\(n*56<=140737488355328/\(∀d0:Nat,true=true))/\(0=0/\n=n)/\(n=n/\(∀e0:Nat,e0<n->aD (l e0) (l e0)))/\True)
theorem SX:aL Tryz.prog aO 48 Uh:=aW .nil false Tryz.call48 Tryz.func48 (λ_=> []) (V:=JI) (λ_=>by kernel_rfl) λ⟨n,l⟩ hp=>by
  dsimp only[Cj]at hp
  dsimp only[JI,tn,ah,ak,aE,aD,ay]
  simp only[aS,eq_self,implies_true,Bool.cond_self]
  intro b hb
  refine⟨λh=>?_,λ_=>?_⟩
  · have:=hb h
    subst this
    exact⟨rfl,rfl,λi hi=>absurd hi (by omega)⟩
  · omega
structure yh where
  (n:Nat) (l:Nat->bu)
def Ck:Sy.Spec:=⟨yh,λ⟨n,l⟩=> [.sl true 20 n (rF λi=>gZ (l i))],λ_=> [],λ⟨n,_⟩=>n<=100000,λ⟨n,_⟩=> .aV 0 0 none 0 n,λ⟨n,l⟩=> [.row 20 n (rF λi=>gZ (l i))],
  λargs mem=>match args with| [a0]=>some ⟨bO a0,λi=>zM (λj=>bF a0 i j)⟩|_=>none⟩
def Ui:aQ:=⟨[],(Ck).g,none⟩
def JK:yh->Prop:=λ⟨n,l⟩=> ∀a0:Bool,(a0=true->n=0)->(a0=true->(0=0/\0=n)/\(0=n/\(∀b0:Nat,let c0:=l b0;b0<n->(((((((((((((((((((True/\SV.aK=SV.v (Value.int IntKind.i64 c0.r0))/\SV.aK=SV.v (Value.int IntKind.i64 c0.r1))/\SV.aK=SV.v (Value.int IntKind.i64 c0.r2))/\SV.aK=SV.v (Value.int IntKind.i64 c0.r3))/\SV.aK=SV.v (Value.int IntKind.i64 c0.r4))/\SV.aK=SV.v (Value.int IntKind.i64 c0.r5))/\SV.aK=SV.v (Value.int IntKind.i64 c0.r6))/\SV.aK=SV.v (Value.int IntKind.i64 c0.r7))/\SV.aK=SV.v (Value.int IntKind.i64 c0.pc))/\SV.aK=SV.v (Value.int IntKind.i64 c0.st))/\SV.aK=SV.v (Value.int IntKind.i64 c0.prio))/\SV.aK=SV.v (Value.int IntKind.i64 c0.node))/\SV.aK=SV.v (Value.int IntKind.i64 c0.space))/\SV.aK=SV.v (Value.int IntKind.i64 c0.helper))/\SV.aK=SV.v (Value.int IntKind.i64 c0.loc))/\SV.aK=SV.v (Value.int IntKind.i64 c0.word))/\SV.aK=SV.v (Value.int IntKind.i64 c0.bJ))/\SV.aK=SV.v (Value.int IntKind.i64 c0.aX))/\SV.aK=SV.v (Value.int IntKind.i64 c0.core))/\SV.aK=SV.v (Value.int IntKind.i64 c0.dH)))/\True)/\(a0=false->True/\(n*160<=140737488355328/\(∀d0:Nat,true=true))/\(0=0/\n=n)/\(n=n/\(∀e0:Nat,e0<n->aE (l e0) (l e0)))/\True)
theorem SY:aL Tryz.prog aO 49 Ui:=aW .nil false Tryz.call49 Tryz.func49 (λ_=> []) (V:=JK) (λ_=>by kernel_rfl) λ⟨n,l⟩ hp=>by
  dsimp only[Ck]at hp
  dsimp only[JK,tn,ah,ak,aE,aD,ay]
  simp only[aS,eq_self,implies_true,Bool.cond_self]
  intro b hb
  refine⟨λh=>?_,λ_=>?_⟩
  · have:=hb h
    subst this
    exact⟨rfl,rfl,λi hi=>absurd hi (by omega)⟩
  · omega
structure Lj where
  (n:Nat) (ln:Nat->Nat) (l:Nat->Nat->Int)
def Lk:Sy.Spec:=⟨Lj,λ⟨n,ln,l⟩=> [.sl true 1 n (λi _=> .sl true 1 (ln i) (iF (l i)))],λ_=> [],λ⟨n,ln,_⟩=>n<=1000/\ ∀i,i<n->ln i<=1000,λ⟨n,_,_⟩=> .aV 0 0 none 0 n,λ⟨n,ln,l⟩=> [.row 1 n λi _=> .il 1 (ln i) (iF (l i))],
  λargs mem=>match args with| [a0]=>some ⟨bO a0,λi=>bO (bF a0 i 0),λi k=>av (bF (bF a0 i 0) k 0)⟩|_=>none⟩
def Wc:aQ:=⟨[],(Lk).g,none⟩
def Ll:Lj->Prop:=λ⟨n,ln,l⟩=>let a0:=(n:Int);let b0:=Int.toNat a0=n;let c0:=0=0/\n=n;a0<=9223372036854775807->(0<=a0/\a0<=a0/\((24:Nat):Int)*a0<=140737488355328)/\(a0<=9223372036854775807->(0=0/\b0)/\0=((0:Nat):Int)/\((b0/\(∀d0:Nat,d0<n->True/\0=dX ln 0 d0/\(∀e0:Nat,e0<dX ln 0 d0->True/\SV.aK=SV.v (Value.int IntKind.i64 (l d0 e0)))))/\True)/\0<=n/\(∀g0:Nat,let h0:=(g0:Int);let k0:=decide (h0<a0);let l0:=0<=h0/\h0<a0;let o0:=Int.toNat h0;let q0:=ln o0;let r0:Int:=h0+1;let u0:=0+o0;g0<=n->(k0=true->l0/\(((q0=q0/\(∀v0:Nat,v0<q0->True/\l o0 v0=l o0 v0))/\True)/\True/\oI.match_1 (λw0:j6=>Prop) (j6.mk q0 (l o0)) (λx0:Nat=>λy0:∀z0:Nat,Int=>x0<=100000))/\l0/\(∀a1:Nat,Nat.beq 1 1=true)/\ah r0=r0/\(∃b1:Nat,c0/\r0=(b1:Int)/\((n=n/\(∀c1:Nat,c1<n->True/\cond (Nat.beq c1 u0) q0 (dX ln g0 c1)=dX ln b1 c1/\(∀d1:Nat,d1<dX ln b1 c1->True/\cond (Nat.beq c1 u0) (l o0 d1) (l c1 d1)=l c1 d1)))/\True)/\b1<=n/\n-b1<n-g0))/\(k0=false->c0/\(n=n/\(∀e1:Nat,e1<n->True/\dX ln g0 e1=ln e1/\(∀g1:Nat,g1<ln e1->True/\l e1 g1=l e1 g1)))/\True)))
theorem Uj:aL Tryz.prog aO 50 Wc:=aW (.cons Ix .nil) false Tryz.call50 Tryz.func50 (λ⟨n,ln,l⟩=> [.inv (NS 3 11 n ln l)]) (V:=Ll) (λ_=>by kernel_rfl) λ⟨n,ln,l⟩ hp=>by
  dsimp only[Lk]at hp
  dsimp only[Ll,tn,ah,ak,aE,aD,ay]
  simp only[aS,aZ,eq_self,implies_true,Bool.cond_self]
  refineλ_=>⟨by omega,λ_=>⟨λj hj=>⟨(mT (Nat.zero_le _)).symm,λk hk=>by rw[mT (Nat.zero_le _)]at hk;exact absurd hk (Nat.not_lt_zero _)⟩,λs hs=>⟨λh=>?_,λh=>?_⟩⟩⟩
  · have ai:=aY h
    have:=hp.2 s ai
    exact⟨by omega,by omega,by omega,λ_=>rfl,bM (by omega) (by omega),s+1,by omega,λj hj=>⟨yf,λk hk=>sY (f:=λx=>l x k)⟩,by omega,by omega⟩
  · have bo:=bD h
    exactλj hj=>qO (by omega)
structure Lm where
  (n:Nat) (ln:Nat->Nat) (l:Nat->Nat->bI)
def Ln:Sy.Spec:=⟨Lm,λ⟨n,ln,l⟩=> [.sl true 1 n (λi _=> .sl true 4 (ln i) (rF λk=>eG (l i k)))],λ_=> [],λ⟨n,ln,_⟩=>n<=1000/\ ∀i,i<n->ln i<=1000,λ⟨n,_,_⟩=> .aV 0 0 none 0 n,λ⟨n,ln,l⟩=> [.row 1 n λi _=> .il 4 (ln i) (rF λk=>eG (l i k))],
  λargs mem=>match args with| [a0]=>some ⟨bO a0,λi=>bO (bF a0 i 0),λi k=>jf (λj=>bF (bF a0 i 0) k j)⟩|_=>none⟩
def We:aQ:=⟨[],(Ln).g,none⟩
def Lo:Lm->Prop:=λ⟨n,ln,l⟩=>let a0:=(n:Int);let b0:=Int.toNat a0=n;let c0:=0=0/\n=n;a0<=9223372036854775807->(0<=a0/\a0<=a0/\((24:Nat):Int)*a0<=140737488355328)/\(a0<=9223372036854775807->(0=0/\b0)/\0=((0:Nat):Int)/\((b0/\(∀d0:Nat,d0<n->True/\0=dX ln 0 d0/\(∀e0:Nat,let g0:=l d0 e0;e0<dX ln 0 d0->(((True/\SV.aK=SV.v (Value.int IntKind.i64 g0.sp))/\SV.aK=SV.v (Value.int IntKind.i64 g0.pg))/\SV.aK=SV.v (Value.int IntKind.i64 g0.fr))/\SV.aK=SV.v (Value.bool g0.wr))))/\True)/\0<=n/\(∀h0:Nat,let k0:=(h0:Int);let l0:=decide (k0<a0);let o0:=0<=k0/\k0<a0;let q0:=Int.toNat k0;let r0:=ln q0;let u0:Int:=k0+1;let v0:=0+q0;h0<=n->(l0=true->o0/\(((r0=r0/\(∀w0:Nat,w0<r0->ay (l q0 w0) (l q0 w0)))/\True)/\True/\Ci.match_1 (λx0:ye=>Prop) (ye.mk r0 (l q0)) (λy0:Nat=>λz0:∀a1:Nat,bI=>y0<=100000))/\o0/\(∀b1:Nat,Nat.beq 4 4=true)/\ah u0=u0/\(∃c1:Nat,c0/\u0=(c1:Int)/\((n=n/\(∀d1:Nat,let e1:=Nat.beq d1 v0;d1<n->True/\cond e1 r0 (dX ln h0 d1)=dX ln c1 d1/\(∀g1:Nat,let J:=l q0 g1;let k1:=l d1 g1;g1<dX ln c1 d1->ay (bI.mk (cond e1 J.sp k1.sp) (cond e1 J.pg k1.pg) (cond e1 J.fr k1.fr) (cond e1 J.wr k1.wr)) k1)))/\True)/\c1<=n/\n-c1<n-h0))/\(l0=false->c0/\(n=n/\(∀l1:Nat,l1<n->True/\dX ln h0 l1=ln l1/\(∀o1:Nat,o1<ln l1->ay (l l1 o1) (l l1 o1))))/\True)))
theorem Uk:aL Tryz.prog aO 51 We:=aW (.cons SW .nil) false Tryz.call51 Tryz.func51 (λ⟨n,ln,l⟩=> [.inv (Yb 3 11 n ln l)]) (V:=Lo) (λ_=>by kernel_rfl) λ⟨n,ln,l⟩ hp=>by
  dsimp only[Ln]at hp
  dsimp only[Lo,tn,ah,ak,aE,aD,ay]
  simp only[aS,aZ,eq_self,implies_true,Bool.cond_self]
  refineλ_=>⟨by omega,λ_=>⟨λj hj=>⟨(mT (Nat.zero_le _)).symm,λk hk=>by rw[mT (Nat.zero_le _)]at hk;exact absurd hk (Nat.not_lt_zero _)⟩,λs hs=>⟨λh=>?_,λh=>?_⟩⟩⟩
  · have ai:=aY h
    have:=hp.2 s ai
    exact⟨by omega,by omega,by omega,λ_=>rfl,bM (by omega) (by omega),s+1,by omega,λj hj=>⟨yf,λk hk=>Pq (f:=λx=>l x k) rfl⟩,by omega,by omega⟩
  · have bo:=bD h
    exactλj hj=>qO (by omega)
structure Iy where
  (n:Nat) (ln:Nat->Nat) (l:Nat->Nat->Int)
def Iz:Sy.Spec:=⟨Iy,λ⟨n,ln,l⟩=> [.sl true 1 n (λi _=> .sl true 1 (ln i) (iF (l i)))],λ_=> [],λ⟨n,ln,_⟩=>n<=1000/\ ∀i,i<n->ln i<=1000,λ⟨n,_,_⟩=> .aV 0 0 none 0 n,λ⟨n,ln,l⟩=> [.row 1 n λi _=> .il 1 (ln i) (iF (l i))],
  λargs mem=>match args with| [a0]=>some ⟨bO a0,λi=>bO (bF a0 i 0),λi k=>av (bF (bF a0 i 0) k 0)⟩|_=>none⟩
def SZ:aQ:=⟨[],(Iz).g,none⟩
def IA:Iy->Prop:=λ⟨n,ln,l⟩=>let a0:=(n:Int);let b0:=Int.toNat a0=n;let c0:=0=0/\n=n;a0<=9223372036854775807->(0<=a0/\a0<=a0/\((24:Nat):Int)*a0<=140737488355328)/\(0=0/\b0)/\0=((0:Nat):Int)/\((b0/\(∀d0:Nat,d0<n->True/\0=dX ln 0 d0/\(∀e0:Nat,e0<dX ln 0 d0->True/\SV.aK=SV.v (Value.int IntKind.i64 (l d0 e0)))))/\True)/\0<=n/\(∀g0:Nat,let h0:=(g0:Int);let k0:=decide (h0<a0);let l0:=0<=h0/\h0<a0;let o0:=Int.toNat h0;let q0:=ln o0;let r0:Int:=h0+1;let u0:=0+o0;g0<=n->a0<=9223372036854775807->(k0=true->True/\l0/\(q0*8<=140737488355328/\(∀v0:Nat,true=true))/\l0/\(∀w0:Nat,Nat.beq 1 1=true)/\ah r0=r0/\(∃x0:Nat,c0/\r0=(x0:Int)/\((n=n/\(∀y0:Nat,y0<n->True/\cond (Nat.beq y0 u0) q0 (dX ln g0 y0)=dX ln x0 y0/\(∀z0:Nat,z0<dX ln x0 y0->True/\cond (Nat.beq y0 u0) (l o0 z0) (l y0 z0)=l y0 z0)))/\True)/\x0<=n/\n-x0<n-g0))/\(k0=false->c0/\(n=n/\(∀a1:Nat,a1<n->True/\dX ln g0 a1=ln a1/\(∀b1:Nat,b1<ln a1->True/\l a1 b1=l a1 b1)))/\True))
theorem RZ:aL Tryz.prog aO 24 SZ:=aW .nil false Tryz.call24 Tryz.func24 (λ⟨n,ln,l⟩=> [.inv (NS 3 4 n ln l)]) (V:=IA) (λ_=>by kernel_rfl) λ⟨n,ln,l⟩ hp=>by
  dsimp only[Iz]at hp
  dsimp only[IA,tn,ah,ak,aE,aD,ay]
  simp only[aS,aZ,eq_self,implies_true,Bool.cond_self]
  refineλ_=>⟨by omega,⟨λj hj=>⟨(mT (Nat.zero_le _)).symm,λk hk=>by rw[mT (Nat.zero_le _)]at hk;exact absurd hk (Nat.not_lt_zero _)⟩,λs hs _=>⟨λh=>?_,λh=>?_⟩⟩⟩
  · have ai:=aY h
    have:=hp.2 s ai
    exact⟨by omega,by omega,by omega,λ_=>rfl,bM (by omega) (by omega),s+1,by omega,λj hj=>⟨yf,λk hk=>sY (f:=λx=>l x k)⟩,by omega,by omega⟩
  · have bo:=bD h
    exactλj hj=>qO (by omega)
structure mN where
  (W:Wd)
def sD:Sy.Spec:=⟨mN,λ⟨W⟩=> [eY W],λ_=> [],λ⟨W⟩=>Lg W,λ⟨W⟩=>QG 0 W,λ⟨W⟩=>EJ W,
  λargs mem=>match args with| [a0]=>some ⟨eP a0⟩|_=>none⟩
def Wf:aQ:=⟨[],(sD).g,none⟩
def Lp:mN->Prop:=λ⟨W⟩=>let a0:=tn 10 True;let b0:=W.aq;let c0:=true=true;let d0:=W.ar;let e0:=W.aw;let g0:=W.az;let h0:=W.ba;let k0:=h0=h0;let l0:=k0/\(∀o0:Nat,let q0:=W.ao o0;o0<h0->True/\q0=q0/\(∀r0:Nat,r0<q0->True/\W.lines o0 r0=W.lines o0 r0));let u0:=W.aN;let v0:=W.aP;let w0:=W.aT;let x0:=w0=w0;let y0:=x0/\(∀z0:Nat,let a1:=W.aJ z0;z0<w0->True/\a1=a1/\(∀b1:Nat,b1<a1->True/\W.ready z0 b1=W.ready z0 b1));let c1:=W.aG;let d1:=(c1:Int);let e1:=d1<=9223372036854775807;let g1:=SV.ptr 0 0 none 0 0=SV.ptr 0 0 none 0 0;let J:=SV.ptr (0+1) 0 none 0 0=SV.ptr 1 0 none 0 0;let k1:=SV.ptr (0+1+1) 0 none 0 0=SV.ptr 2 0 none 0 0;let l1:=b0=b0;let o1:=l1/\(∀q1:Nat,q1<b0->True/\W.aa q1=W.aa q1);let r1:=d0=d0;let u1:=r1/\(∀v1:Nat,v1<d0->True/\W.kinds v1=W.kinds v1);let w1:=e0=e0;let x1:=w1/\(∀y1:Nat,y1<e0->aD (W.af y1) (W.af y1));let z1:=g0=g0;let a2:=z1/\(∀b2:Nat,b2<g0->aE (W.tasks b2) (W.tasks b2));let c2:=u0=u0;let d2:=c2/\(∀e2:Nat,e2<u0->True/\W.bits e2=W.bits e2);let g2:=v0=v0;let U:=g2/\(∀k2:Nat,k2<v0->True/\W.aF k2=W.aF k2);let l2:=c1=c1;let o2:=W.aI;let q2:=o2=o2;let r2:=q2/\(∀u2:Nat,u2<o2->True/\W.aM u2=W.aM u2);let v2:=W.time=W.time;let w2:=((((((((((True/\o1)/\u1)/\x1)/\a2)/\l0)/\d2)/\U)/\y0)/\l2/\(∀x2:Nat,let y2:=W.aA x2;x2<c1->True/\y2=y2/\(∀z2:Nat,z2<y2->ay (W.aj x2 z2) (W.aj x2 z2))))/\r2)/\v2;let a3:=Value.slice none 0 0=Value.slice none 0 0;let b3:=((((((((((True/\a3)/\a3)/\a3)/\a3)/\a3)/\a3)/\a3)/\a3)/\a3)/\a3)/\(0:Int)=0;let c3:=0=0;let d3:=Int.toNat d1;
    let e3:=((((((((((True/\c3/\l1)/\c3/\r1)/\c3/\w1)/\c3/\z1)/\c3/\k0)/\c3/\c2)/\c3/\g2)/\c3/\x0)/\c3/\d3=d3)/\r2)/\v2;let g3:=d3=c1;let h3:=W.aA;let k3:=0=0;tn 3 (a0/\True/\(b0*8<=140737488355328/\(∀l3:Nat,c0))/\tn 2 ((d0*8<=140737488355328/\(∀o3:Nat,c0))/\tn 2 ((e0*56<=140737488355328/\(∀q3:Nat,c0))/\tn 2 ((g0*160<=140737488355328/\(∀r3:Nat,c0))/\True/\((l0/\True)/\True/\h0<=1000/\(∀u3:Nat,u3<h0->W.ao u3<=1000))/\tn 2 ((u0*8<=140737488355328/\(∀v3:Nat,c0))/\tn 2 ((v0*8<=140737488355328/\(∀w3:Nat,c0))/\True/\((y0/\True)/\True/\w0<=1000/\(∀x3:Nat,x3<w0->W.aJ x3<=1000))/\True/\(e1->(0<=d1/\d1<=d1/\((24:Nat):Int)*d1<=140737488355328)/\True/\g1/\J/\k1/\0=((0:Nat):Int)/\(w2/\b3/\e3/\o1/\u1/\x1/\a2/\l0/\d2/\U/\y0/\(g3/\(∀y3:Nat,y3<c1->True/\0=dX h3 0 y3/\(∀z3:Nat,let a4:=W.aj y3 z3;z3<dX h3 0 y3->(((True/\SV.aK=SV.v (Value.int IntKind.i64 a4.sp))/\SV.aK=SV.v (Value.int IntKind.i64 a4.pg))/\SV.aK=SV.v (Value.int IntKind.i64 a4.fr))/\SV.aK=SV.v (Value.bool a4.wr))))/\True)/\0<=c1/\(∀b4:Nat,let c4:=(b4:Int);let d4:=decide (c4<d1);let e4:=Int.toNat c4;let g4:=h3 e4;let h4:Int:=c4+1;let k4:=0+e4;b4<=c1->e1->(d4=true->tn 7 ((0<=c4/\c4<d1)/\True/\(g4*32<=140737488355328/\(∀l4:Nat,c0))/\(0<=c4/\c4<(d3:Int))/\(∀o4:Nat,Nat.beq 4 4=true)/\ah h4=h4/\(∃q4:Nat,g1/\J/\k1/\h4=(q4:Int)/\(w2/\b3/\e3/\o1/\u1/\x1/\a2/\l0/\d2/\U/\y0/\(l2/\(∀r4:Nat,let u4:=Nat.beq r4 k4;r4<c1->True/\cond u4 g4 (dX h3 b4 r4)=dX h3 q4 r4/\(∀v4:Nat,let w4:=W.aj e4 v4;let x4:=W.aj r4 v4;v4<dX h3 q4 r4->ay (bI.mk (cond u4 w4.sp x4.sp) (cond u4 w4.pg x4.pg) (cond u4 w4.fr x4.fr) (cond u4 w4.wr x4.wr)) x4)))/\True)/\
    q4<=c1/\c1-q4<c1-b4)))/\(d4=false->True/\(o2*8<=140737488355328/\(∀y4:Nat,c0))/\True/\a0/\(((((((((((True/\k3/\l1)/\k3/\r1)/\k3/\w1)/\k3/\z1)/\k3/\k0)/\k3/\c2)/\k3/\g2)/\k3/\x0)/\k3/\g3)/\k3/\q2)/\v2)/\o1/\u1/\x1/\a2/\l0/\d2/\U/\y0/\(l2/\(∀z4:Nat,z4<c1->True/\dX h3 b4 z4=h3 z4/\(∀a5:Nat,a5<h3 z4->ay (W.aj z4 a5) (W.aj z4 a5))))/\r2/\True)))))))))
set_option maxHeartbeats 1000000 in
theorem xY:aL Tryz.prog aO 10 Wf:=aW (.cons RZ .nil) false Tryz.call10 Tryz.func10 (λ⟨W⟩=> [.inv (Yc W)]) (V:=Lp) (λ_=>by kernel_rfl) λ⟨W⟩ hp=>by
  dsimp only[sD]at hp
  dsimp only[Lp,tn,ah,ak,aE,aD,ay]
  simp only[aS,aZ,eq_self,implies_true,Bool.cond_self]
  obtain⟨J,U,h3,h4,h5,h6,h7,h8,h9,dU,fm,iK,jq⟩:=hp
  refine⟨by omega,by omega,by omega,by omega,⟨h5,fm⟩,by omega,by omega,⟨h8,iK⟩,λ_=>⟨by omega,λj hj=>⟨(mT (Nat.zero_le _)).symm,λk hk=>by rw[mT (Nat.zero_le _)]at hk;exact absurd hk (Nat.not_lt_zero _)⟩,λs hs _=>⟨λh=>?_,λh=>?_⟩⟩⟩
  · have ai:=aY h
    have:=jq s ai
    exact⟨by omega,by omega,by omega,λ_=>rfl,bM (by omega) (by omega),s+1,by omega,λj hj=>⟨yf,λk hk=>Pq (f:=λx=>W.aj x k) rfl⟩,by omega,by omega⟩
  · have bo:=bD h
    exact⟨by omega,λj hj=>qO (by omega)⟩
structure xX where
  (W:Wd)
def Cd:Sy.Spec:=⟨xX,λ⟨W⟩=> [eY W],λ_=> [],λ⟨W⟩=>Lg W,λ⟨W⟩=>QG 0 W,λ⟨W⟩=>EJ W,
  λargs mem=>match args with| [a0]=>some ⟨eP a0⟩|_=>none⟩
def Ul:aQ:=⟨[],(Cd).g,none⟩
def JL:xX->Prop:=λ⟨W⟩=>let a0:=W.aq;let b0:=W.ar;let c0:=W.aw;let d0:=W.az;let e0:=W.aN;let g0:=W.aP;let h0:=W.aI;let k0:=W.ba;let l0:=W.aT;let o0:=W.aG;tn 4 ((((a0=a0/\(∀q0:Nat,q0<a0->True/\W.aa q0=W.aa q0))/\True)/\True/\oI.match_1 (λr0:j6=>Prop) (j6.mk a0 W.aa) (λu0:Nat=>λv0:∀w0:Nat,Int=>u0<=100000))/\tn 2 ((((b0=b0/\(∀x0:Nat,x0<b0->True/\W.kinds x0=W.kinds x0))/\True)/\True/\oI.match_1 (λy0:j6=>Prop) (j6.mk b0 W.kinds) (λz0:Nat=>λa1:∀b1:Nat,Int=>z0<=100000))/\tn 2 ((((c0=c0/\(∀c1:Nat,c1<c0->aD (W.af c1) (W.af c1)))/\True)/\True/\Cj.match_1 (λd1:yg=>Prop) (yg.mk c0 W.af) (λe1:Nat=>λg1:∀J:Nat,cp=>e1<=100000))/\tn 3 ((((d0=d0/\(∀k1:Nat,k1<d0->aE (W.tasks k1) (W.tasks k1)))/\True)/\True/\Ck.match_1 (λl1:yh=>Prop) (yh.mk d0 W.tasks) (λo1:Nat=>λq1:∀r1:Nat,bu=>o1<=100000))/\tn 6 ((((e0=e0/\(∀u1:Nat,u1<e0->True/\W.bits u1=W.bits u1))/\True)/\True/\oI.match_1 (λv1:j6=>Prop) (j6.mk e0 W.bits) (λw1:Nat=>λx1:∀y1:Nat,Int=>w1<=100000))/\tn 2 ((((g0=g0/\(∀z1:Nat,z1<g0->True/\W.aF z1=W.aF z1))/\True)/\True/\oI.match_1 (λa2:j6=>Prop) (j6.mk g0 W.aF) (λb2:Nat=>λc2:∀d2:Nat,Int=>b2<=100000))/\tn 3 ((((h0=h0/\(∀e2:Nat,e2<h0->True/\W.aM e2=W.aM e2))/\True)/\True/\oI.match_1 (λg2:j6=>Prop) (j6.mk h0 W.aM) (λU:Nat=>λk2:∀l2:Nat,Int=>U<=100000))/\tn 5 ((((k0=k0/\(∀o2:Nat,let q2:=W.ao o2;o2<k0->True/\q2=q2/\(∀r2:Nat,
    r2<q2->True/\W.lines o2 r2=W.lines o2 r2)))/\True)/\True/\k0<=1000/\(∀u2:Nat,u2<k0->W.ao u2<=1000))/\tn 3 ((((l0=l0/\(∀v2:Nat,let w2:=W.aJ v2;v2<l0->True/\w2=w2/\(∀x2:Nat,x2<w2->True/\W.ready v2 x2=W.ready v2 x2)))/\True)/\True/\l0<=1000/\(∀y2:Nat,y2<l0->W.aJ y2<=1000))/\tn 2 ((((o0=o0/\(∀z2:Nat,let a3:=W.aA z2;z2<o0->True/\a3=a3/\(∀b3:Nat,b3<a3->ay (W.aj z2 b3) (W.aj z2 b3))))/\True)/\True/\o0<=1000/\(∀c3:Nat,c3<o0->W.aA c3<=1000))/\True/\tn 10 True/\ak W W True))))))))))
theorem Sr:aL Tryz.prog aO 30 Ul:=aW (.cons Ix (.cons SX (.cons SY (.cons Uj (.cons Uk .nil))))) false Tryz.call30 Tryz.func30 (λ_=> []) (V:=JL) (λ_=>by kernel_rfl) λ⟨W⟩ hp=>by
  dsimp only[Cd]at hp
  dsimp only[JL,tn,ah,ak,aE,aD,ay]
  simp only[aS,aZ,eq_self,implies_true,Bool.cond_self]
  obtain⟨J,U,h3,h4,h5,h6,h7,h8,h9,dU,fm,iK,jq⟩:=hp
  exact⟨by omega,by omega,by omega,by omega,by omega,by omega,by omega,⟨h5,fm⟩,⟨h8,iK⟩,h9,jq⟩
end Go.Proofs.YtmieeldmfehpoaaGreatDoor
set_option linter.unusedVariables false
set_option linter.unusedSimpArgs false
set_option maxRecDepth 100000
namespace Go.Proofs.YtmieeldmfehpoaaGreatDoor
open Go.RowKit Go.Sy
theorem DY {p:bI->Bool} {W:Wd} {s q:Nat}:(bif Nat.beq q s then aC (λa=>p (cW p W s s a)) (dP p W s s)else dP p W s q)=dP p W (s+1) q:=by
  rw[lT (Nat.le_refl s),nE (Nat.le_refl s)]
  rcases Nat.lt_trichotomy q s with e|e|e
  · rw[ca (by omega),qa e,qa (by omega:q<s+1)];rfl
  · subst e;rw[Nat.beq_refl,qa (Nat.lt_succ_self _)];rfl
  · rw[ca (by omega),lT (by omega:s<=q),lT (by omega:s+1<=q)];rfl
theorem DX {p:bI->Bool} {W:Wd} {s q v:Nat} (hv:v<dP p W (s+1) q):
    (((bif Nat.beq q s then(bif Nat.blt v (aC (λa=>p (cW p W s s a)) (dP p W s s))then aU ⟨0,0,0,false⟩ (λa=>p (cW p W s s a)) (cW p W s s) (dP p W s s) v else⟨0,0,0,false⟩:bI).sp else(cW p W s q v).sp)=(cW p W (s+1) q v).sp/\
    (bif Nat.beq q s then(bif Nat.blt v (aC (λa=>p (cW p W s s a)) (dP p W s s))then aU ⟨0,0,0,false⟩ (λa=>p (cW p W s s a)) (cW p W s s) (dP p W s s) v else⟨0,0,0,false⟩:bI).pg else(cW p W s q v).pg)=(cW p W (s+1) q v).pg)/\
    (bif Nat.beq q s then(bif Nat.blt v (aC (λa=>p (cW p W s s a)) (dP p W s s))then aU ⟨0,0,0,false⟩ (λa=>p (cW p W s s a)) (cW p W s s) (dP p W s s) v else⟨0,0,0,false⟩:bI).fr else(cW p W s q v).fr)=(cW p W (s+1) q v).fr)/\
    (bif Nat.beq q s then(bif Nat.blt v (aC (λa=>p (cW p W s s a)) (dP p W s s))then aU ⟨0,0,0,false⟩ (λa=>p (cW p W s s a)) (cW p W s s) (dP p W s s) v else⟨0,0,0,false⟩:bI).wr else(cW p W s q v).wr)=(cW p W (s+1) q v).wr:=by
  rw[lT (Nat.le_refl s),nE (Nat.le_refl s)]
  rcases Nat.lt_trichotomy q s with e|e|e
  · rw[ca (by omega),sG e,sG (by omega:q<s+1)];exact cL rfl
  · subst e
    rw[qa (Nat.lt_succ_self _)]at hv
    have hv:v<aC (λa=>p (W.aj q a)) (W.aA q):=hv
    rw[Nat.beq_refl,sG (Nat.lt_succ_self _),cD hv];exact cL rfl
  · rw[ca (by omega),nE (by omega:s<=q),nE (by omega:s+1<=q)];exact cL rfl
def fI (W:Wd) (f:Int) (i:Nat):Int:=bif Nat.blt i W.aq&&((W.kinds (i/16)==3||W.kinds (i/16)==4)&&(W.aa i !=0)&&(W.aa i%1024==f))then 0 else W.aa i
def fL (W:Wd) (f:Int) (i q:Nat):Int:=bif Nat.blt q i then fI W f q else W.aa q
def QC (W:Wd) (f:Int):Wd:={W with aa:=fI W f,aA:=eE (cb W.aq (fI W f)) W,aj:=dA (cb W.aq (fI W f)) W}
theorem ik {W:Wd} {f:Int} {i q:Nat} (h:q<i):fL W f i q=fI W f q:=by unfold fL;rw[cD h];rfl
theorem gV {W:Wd} {f:Int} {i q:Nat} (h:i<=q):fL W f i q=W.aa q:=by unfold fL;rw[eI h];rfl
theorem y_ {W:Wd} {f:Int} {i:Nat} (h:fp (W.aa i)):fp (fI W f i):=by
  unfold fI
  cases Nat.blt i W.aq&&((W.kinds (i/16)==3||W.kinds (i/16)==4)&&(W.aa i !=0)&&(W.aa i%1024==f))
  · exact h
  · exact⟨Int.le_refl 0,show(0:Int)<=65535 by decide⟩
theorem CW {W:Wd} {f:Int}:fL W f W.aq=fI W f:=by
  funext i
  rcases Nat.lt_or_ge i W.aq with h|h
  · exact ik h
  · rw[gV h];unfold fI;rw[eI h];rfl
def mY (W:Wd) (f:Int) (l:List (Nat×SV)) (z:Nat):bS where
  σ:=Nat
  rt:= []
  sh i:=l++ [(z,.v (.int .i64 i))]
  mh i:= [(1,.row 1 W.aq (iF (fL W f i)))]
  inv i:=i<=W.aq
  μ i:=W.aq -i
  init:=0
structure zI where
  (W:Wd)
def ED:Sy.Spec:=⟨zI,λ_=> [.ptr 0 0 none 0 0,.fn 128 1 (aH [.ptr 11 0 none 0 0])],λ⟨W⟩=>bQ W++ [.cells [.ptr 0 0 none 0 0]],λ⟨W⟩=>fJ W,λ_=> .tp 0 (aH []),λ⟨W⟩=>bQ (A9 (cb W.aq W.aa) W)++ [.cells [.ptr 0 0 none 0 0]],
  λargs mem=>match args with| [a0,a1]=>(match fN 128 a1 with|true=>some ⟨dL mem 0⟩|false=>none)|_=>none⟩
def Za:aQ:=⟨[true,true],(ED).g,none⟩
def O1:zI->Prop:=λ⟨W⟩=>let a0:=W.aG;let b0:=(a0:Int);let c0:=SV.ptr 0 0 none 0 0;let d0:=c0=SV.ptr 0 0 none 0 0;let e0:=True/\SV.ptr (0+1+1+1+1+1+1+1+1+1+1+1) 0 none 0 0=SV.ptr 11 0 none 0 0;let g0:=W.aq;let h0:=cb g0 W.aa;let k0:=(True/\c0=c0)/\True;let l0:=bI.mk 0 0 0 false;b0<=9223372036854775807->d0/\e0/\0=((0:Nat):Int)/\ak W {W with aA:=dP h0 W 0,aj:=cW h0 W 0} k0/\0<=a0/\(∀o0:Nat,let q0:=(o0:Int);let r0:=decide (q0<b0);let u0:=0<=q0/\q0<b0;let v0:=0+Int.toNat q0;let w0:=dP h0 W o0 v0;let x0:=w0=w0;let y0:Int:=q0+1;let z0:=aC (λa1:Nat=>cb g0 (λb1:Nat=>W.aa (0+b1)) (cW h0 W o0 v0 a1)) w0;let c1:=cW h0 W o0 v0;o0<=a0->(r0=true->tn 10 (u0/\tn 2 (tn 2 True/\(((0=0/\x0)/\tn 2 (((((((((((True/\g0=g0/\(∀d1:Nat,d1<g0->True/\W.aa (0+d1)=W.aa (0+d1)))/\True)/\True)/\True)/\True)/\True)/\True)/\True)/\True)/\True)/\True)/\True)/\((x0/\(∀e1:Nat,e1<w0->ay (c1 e1) (c1 e1)))/\True)/\w0<=100000/\(∀g1:Nat,g1<g0->0<=W.aa (0+g1)/\W.aa (0+g1)<=65535)/\(∀J:Nat,J<w0->0<=(c1 J).pg/\(c1 J).pg<=255))/\u0/\(v0=v0/\(∀k1:Nat,Nat.beq 4 4=true))/\ah y0=y0/\(∃l1:Nat,d0/\e0/\y0=(l1:Int)/\ak {W with aA:=λo1:Nat=>cond (Nat.beq o1 v0) z0 (dP h0 W o0 o1),aj:=λq1:Nat=>let r1:=Nat.beq q1 v0;λu1:Nat=>let v1:=cond (Nat.blt u1 z0) (aU l0 (λw1:Nat=>cb g0 (λx1:Nat=>W.aa (0+x1)) (c1 w1)) c1 w0 u1) l0;let y1:=cW h0 W o0 q1 u1;bI.mk (cond r1 v1.sp y1.sp) (cond r1 v1.pg y1.pg) (cond r1 v1.fr y1.fr) (cond r1 v1.wr y1.wr)} {W with aA:=dP h0 W l1,aj:=cW h0 W l1} k0/\l1<=a0/\a0-l1<a0-o0))))/\(r0=false->True/\
    ak {W with aA:=dP h0 W o0,aj:=cW h0 W o0} {W with aA:=eE h0 W,aj:=dA h0 W} ((True/\d0)/\True)))
set_option maxHeartbeats 1000000 in
theorem Xj:aL Tryz.prog aO 102 Za:=aW (.cons VJ .nil) false Tryz.call102 Tryz.func102 (λ⟨W⟩=> [.inv (EC (cb W.aq W.aa) W [(0,bd 0),(1,.fn 128 1 (aH [.ptr 11 0 none 0 0]))] 10)]) (V:=O1) (λ_=>by kernel_rfl) λ⟨W⟩ hp=>by
  dsimp only[ED]at hp
  dsimp only[O1,tn,ah,ak,aE,aD,ay]
  simp only[aS,aZ,eq_self,implies_true,Bool.cond_self]
  try simp only[cu]
  intro _
  have z1:=hp.z.aj
  have z2:=hp.z.c1
  refine⟨λq _=>⟨(lT (Nat.zero_le _)).symm,λv _=>by rw[nE (Nat.zero_le _)];exact cL rfl⟩,λs hs=>⟨λh=>?_,λh=>?_⟩⟩
  · have ai:=aY h
    have J:=hp.tn s (by omega)
    have U:=hp.pg s (by omega)
    exact⟨by omega,⟨by rw[lT (Nat.le_refl _)];omega,hp.aa,by rw[lT (Nat.le_refl _),nE (Nat.le_refl _)];exact U⟩,by omega,λ_=>rfl,bM (by omega) (by omega),s+1,by omega,λq _=>⟨DY (p:=cb W.aq W.aa),λv hv=>DX (p:=cb W.aq W.aa) hv⟩,by omega,by omega⟩
  · have bo:=bD h
    obtain rfl:s=W.aG:=by omega
    exactλq hq=>⟨qa hq,λv _=>by rw[sG hq];exact cL rfl⟩
structure zJ where
  (f:Int) (W:Wd)
def EE:Sy.Spec:=⟨zJ,λ⟨f,_⟩=> [.ptr 0 0 none 0 0,.fn 103 1 (aH [.pt true 1 (λ_=> .v (.int .i64 f))])],λ⟨_,W⟩=>bQ W,λ⟨_,W⟩=>fJ W,λ_=> .tp 0 (aH []),λ⟨f,W⟩=>bQ (A9 (cH f) W),
  λargs mem=>match args with| [a0,a1]=>(match fN 103 a1 with|true=>some ⟨av (bx (dc a1 0) 0),dL mem 0⟩|false=>none)|_=>none⟩
def Zb:aQ:=⟨[true],(EE).g,none⟩
def O2:zJ->Prop:=λ⟨f,W⟩=>let a0:=W.aG;let b0:=(a0:Int);let c0:=SV.ptr 0 0 none 0 0=SV.ptr 0 0 none 0 0;let d0:=cH f;let e0:=bI.mk 0 0 0 false;b0<=9223372036854775807->c0/\0=((0:Nat):Int)/\ak W {W with aA:=dP d0 W 0,aj:=cW d0 W 0} True/\0<=a0/\(∀g0:Nat,let h0:=(g0:Int);let k0:=decide (h0<b0);let l0:=0<=h0/\h0<b0;let o0:=0+Int.toNat h0;let q0:=dP d0 W g0 o0;let r0:=q0=q0;let u0:=cW d0 W g0 o0;let v0:Int:=h0+1;let w0:=aC (λx0:Nat=>d0 (u0 x0)) q0;g0<=a0->(k0=true->tn 10 (l0/\tn 2 (tn 2 True/\(((0=0/\r0)/\tn 2 (f=f)/\True)/\((r0/\(∀y0:Nat,y0<q0->ay (u0 y0) (u0 y0)))/\True)/\DZ.match_1 (λz0:zb=>Prop) (zb.mk f q0 u0) (λa1:Int=>λb1:Nat=>λc1:∀d1:Nat,bI=>b1<=100000))/\l0/\(o0=o0/\(∀e1:Nat,Nat.beq 4 4=true))/\ah v0=v0/\(∃g1:Nat,c0/\v0=(g1:Int)/\ak {W with aA:=λJ:Nat=>cond (Nat.beq J o0) w0 (dP d0 W g0 J),aj:=λk1:Nat=>let l1:=Nat.beq k1 o0;λo1:Nat=>let q1:=cond (Nat.blt o1 w0) (aU e0 (λr1:Nat=>d0 (u0 r1)) u0 q0 o1) e0;let u1:=cW d0 W g0 k1 o1;bI.mk (cond l1 q1.sp u1.sp) (cond l1 q1.pg u1.pg) (cond l1 q1.fr u1.fr) (cond l1 q1.wr u1.wr)} {W with aA:=dP d0 W g1,aj:=cW d0 W g1} True/\g1<=a0/\a0-g1<a0-g0))))/\(k0=false->True/\ak {W with aA:=dP d0 W g0,aj:=cW d0 W g0} {W with aA:=eE d0 W,aj:=dA d0 W} True))
set_option maxHeartbeats 1000000 in
theorem mQ:aL Tryz.prog aO 102 Zb:=aW (.cons VK .nil) false Tryz.call102 Tryz.func102 (λ⟨f,W⟩=> [.inv (EC (cH f) W [(0,bd 0)] 10)]) (V:=O2) (λ_=>by kernel_rfl) λ⟨f,W⟩ hp=>by
  dsimp only[EE]at hp
  dsimp only[O2,tn,ah,ak,aE,aD,ay]
  simp only[aS,aZ,eq_self,implies_true,Bool.cond_self]
  try simp only[cu]
  intro _
  have z1:=hp.z.aj
  have z2:=hp.z.c1
  refine⟨λq _=>⟨(lT (Nat.zero_le _)).symm,λv _=>by rw[nE (Nat.zero_le _)];exact cL rfl⟩,λs hs=>⟨λh=>?_,λh=>?_⟩⟩
  · have ai:=aY h
    have J:=hp.tn s (by omega)
    have U:=hp.pg s (by omega)
    exact⟨by omega,by rw[lT (Nat.le_refl _)];omega,by omega,λ_=>rfl,bM (by omega) (by omega),s+1,by omega,λq _=>⟨DY (p:=cH f),λv hv=>DX (p:=cH f) hv⟩,by omega,by omega⟩
  · have bo:=bD h
    obtain rfl:s=W.aG:=by omega
    exactλq hq=>⟨qa hq,λv _=>by rw[sG hq];exact cL rfl⟩
structure yz where
  (W:Wd)
def CX:Sy.Spec:=⟨yz,λ_=> [.ptr 0 0 none 0 0],λ⟨W⟩=>bQ W,λ⟨W⟩=>fJ W,λ_=> .tp 0 (aH []),λ⟨W⟩=>bQ (A9 (cb W.aq W.aa) W),
  λargs mem=>match args with| [a0]=>some ⟨dL mem 0⟩|_=>none⟩
def VL:aQ:=⟨[true],(CX).g,none⟩
def KY:yz->Prop:=λ⟨W⟩=>let a0:=SV.ptr 0 0 none 0 0=SV.ptr 0 0 none 0 0;let b0:=cb W.aq W.aa;let c0:={W with aA:=eE b0 W,aj:=dA b0 W};True/\((a0/\(True/\SV.ptr (0+1+1+1+1+1+1+1+1+1+1+1) 0 none 0 0=SV.ptr 11 0 none 0 0)/\True)/\ak W W ((True/\a0)/\True)/\ED.match_1 (λd0:zI=>Prop) (zI.mk W) (λe0:Wd=>fJ e0))/\True/\ak c0 c0 True
set_option maxHeartbeats 1000000 in
theorem TI:aL Tryz.prog aO 121 VL:=aW (.cons (Xj.or mQ) .nil) false Tryz.call121 Tryz.func121 (λ_=> []) (V:=KY) (λ_=>by kernel_rfl) λ⟨W⟩ hp=>by
  dsimp only[CX]at hp
  dsimp only[KY,tn,ah,ak,aE,aD,ay]
  simp only[aS,aZ,eq_self,implies_true,Bool.cond_self]
  try simp only[cu]
  try simp only[cu]
  exact hp
structure sH where
  (f:Int) (W:Wd)
def yA:Sy.Spec:=⟨sH,λ⟨f,_⟩=> [.ptr 0 0 none 0 0,.v (.int .i64 f)],λ⟨_,W⟩=>bQ W,λ⟨_,W⟩=>fJ W,λ_=> .tp 0 (aH []),λ⟨f,W⟩=>bQ (QC W f),
  λargs mem=>match args with| [a0,a1]=>some ⟨av (a1),dL mem 0⟩|_=>none⟩
def VM:aQ:=⟨[true],(yA).g,none⟩
def KZ:sH->Prop:=λ⟨f,W⟩=>let a0:=W.aq;let b0:=(a0:Int);let c0:=SV.ptr 0 0 none 0 0=SV.ptr 0 0 none 0 0;let d0:=0=0/\a0=a0;let e0:=cb a0 (fI W f);b0<=9223372036854775807->c0/\d0/\0=((0:Nat):Int)/\ak W {W with aa:=fL W f 0} True/\0<=a0/\(∀g0:Nat,let h0:=(g0:Int);let k0:=decide (h0<b0);let l0:=0<=h0/\h0<b0;let o0:Int:=h0/16;let q0:=W.kinds (0+Int.toNat o0);let r0:=0+Int.toNat h0;let u0:=fL W f g0 r0;let v0:=cond (cond (cond (q0==3) true (q0==4)) (u0 !=0) false) (dF BinOp.and IntKind.i64 u0 1023==f) false;let w0:Int:=h0+1;let x0:=ah w0=w0;let y0:=fL W f g0;let z0:={W with aa:=y0};let a1:=cb a0 y0;g0<=a0->(k0=true->l0/\(0<=h0/\(0:Int)<16/\ah o0=o0)/\(0<=o0/\o0<((W.ar:Nat):Int))/\(v0=true->l0/\(∀b1:Nat,false=false)/\x0/\(∃c1:Nat,c0/\d0/\w0=(c1:Int)/\ak {W with aa:=λd1:Nat=>cond (Nat.beq d1 r0) 0 (y0 d1)} {W with aa:=fL W f c1} True/\c1<=a0/\a0-c1<a0-g0))/\(v0=false->x0/\(∃e1:Nat,c0/\d0/\w0=(e1:Int)/\ak z0 {W with aa:=fL W f e1} True/\e1<=a0/\a0-e1<a0-g0)))/\(k0=false->((c0/\True)/\ak z0 z0 True/\CX.match_1 (λg1:yz=>Prop) (yz.mk z0) (λJ:Wd=>fJ J))/\True/\ak {W with aa:=y0,aA:=eE a1 z0,aj:=dA a1 z0} {W with aa:=fI W f,aA:=eE e0 W,aj:=dA e0 W} True))
set_option maxHeartbeats 1000000 in
theorem nz:aL Tryz.prog aO 101 VM:=aW (.cons TI .nil) false Tryz.call101 Tryz.func101 (λ⟨f,W⟩=> [.inv (mY W f [(0,bd 0),(10,.aV 1 0 none 0 W.aq)] 12)]) (V:=KZ) (λ_=>by kernel_rfl) λ⟨f,W⟩ hp=>by
  dsimp only[yA]at hp
  dsimp only[KZ,tn,ah,ak,aE,aD,ay]
  simp only[aS,aZ,eq_self,implies_true,Bool.cond_self]
  try simp only[cu]
  intro _
  have z1:=hp.z.aa
  have z2:=hp.z.k1
  refine⟨λq _=>(gV (Nat.zero_le _)).symm,λs hs=>⟨λh=>?_,λh=>?_⟩⟩
  · have ai:=aY h
    have hw:=hp.aa s (by omega)
    have em:dF BinOp.and IntKind.i64 (W.aa s) 1023=W.aa s%1024:=by
      rw[zc 10 (by omega) (by decide)]
      rw[show((2:Int)^10)=1024 by decide]
    have ek:((s:Int)/16).toNat=s/16:=by omega
    rw[gV (Nat.le_refl _),em,ek]
    refine⟨by omega,⟨by decide,bM (by omega) (by omega)⟩,⟨by omega,by omega⟩,λJ=>⟨by omega,bM (by omega) (by omega),s+1,by omega,λq _=>?_,by omega,by omega⟩,λJ=>⟨bM (by omega) (by omega),s+1,by omega,λq _=>?_,by omega,by omega⟩⟩
    · rcases Nat.lt_trichotomy q s with e|e|e
      · rw[ca (by omega),ik e,ik (by omega:q<s+1)];rfl
      · subst e;rw[Nat.beq_refl,ik (Nat.lt_succ_self _)];unfold fI;rw[cD (by omega),J];rfl
      · rw[ca (by omega),gV (by omega:s<=q),gV (by omega:s+1<=q)];rfl
    · rcases Nat.lt_trichotomy q s with e|e|e
      · rw[ik e,ik (by omega:q<s+1)]
      · subst e;rw[gV (Nat.le_refl _),ik (Nat.lt_succ_self _)];unfold fI;rw[cD (by omega),J];rfl
      · rw[gV (by omega:s<=q),gV (by omega:s+1<=q)]
  · have bo:=bD h
    obtain rfl:s=W.aq:=by omega
    rw[CW]
    exact⟨⟨⟨hp.z.k0,hp.z.k1,hp.z.c0,hp.z.c1,hp.z.aa,hp.z.af,hp.z.tasks,hp.z.lines,hp.z.bits,hp.z.ready,hp.z.aj,hp.z.d0,hp.z.d1,hp.z.t0,hp.z.t1⟩,λi hi=>y_ (hp.aa i hi),hp.tn,hp.pg⟩,λ_ _=>rfl,λ_ _=>⟨rfl,λ_ _=>cL rfl⟩⟩
end Go.Proofs.YtmieeldmfehpoaaGreatDoor
set_option linter.unusedVariables false
set_option linter.unusedSimpArgs false
set_option maxRecDepth 100000
namespace Go.Proofs.YtmieeldmfehpoaaGreatDoor
open Go.RowKit Go.Sy
def Y' (p:bI->Bool) (W:Wd) (c:Int):bS where
  σ:=Nat
  rt:= [(7,4)]
  sh j:= [(0,bd 0),(7,.aV 11 0 none 0 (aC (λi=>p (W.aj c.toNat i)) j)),(8,.v (.int .i64 j))]
  mh j:= [(11,.row 4 (aC (λi=>p (W.aj c.toNat i)) j) (rF λa=>eG (aU fo (λi=>p (W.aj c.toNat i)) (W.aj c.toNat) j a)))]
  inv j:=j<=W.aA c.toNat
  μ j:=W.aA c.toNat -j
  init:=0
structure gp where
  (k f:Int) (W:Wd)
def lf:Sy.Spec:=⟨gp,λ⟨k,f,_⟩=> [.ptr 0 0 none 0 0,.v (.int .i64 k),.v (.int .i64 f)],λ⟨_,_,W⟩=>bQ W,λ⟨_,_,W⟩=>fJ W,λ_=> .tp 0 (aH []),λ⟨k,f,W⟩=>bQ (A9 (fK W.aq W.aa k f) W),
  λargs mem=>match args with| [a0,a1,a2]=>some ⟨av (a1),av (a2),dL mem 0⟩|_=>none⟩
def Sw:aQ:=⟨[true],(lf).g,none⟩
def Ih:gp->Prop:=λ⟨k,f,W⟩=>let a0:=SV.ptr 0 0 none 0 0;let b0:=W.aq;let c0:=W.aa;let d0:=fK b0 c0 k f;let e0:=W.aG;let g0:=(e0:Int);let h0:=SV.ptr 0 0 none 0 0=a0;let k0:=SV.aK=SV.v (Value.int IntKind.i64 0);let l0:=bI.mk 0 0 0 false;a0=a0/\0=((0:Nat):Int)/\ak W {W with aA:=dP d0 W 0,aj:=cW d0 W 0} True/\0<=e0/\(∀o0:Nat,let q0:=(o0:Int);let r0:=decide (q0<g0);let u0:=Int.toNat q0;let v0:=aC (λw0:Nat=>d0 (W.aj u0 w0)) 0;let x0:=0=v0;let y0:={W with aA:=dP d0 W o0,aj:=cW d0 W o0};let z0:=W.aA u0;let a1:=0<=q0/\q0<g0;let b1:=0+u0;let c1:=((dP d0 W o0 b1:Nat):Int);let d1:=((dP (fK W.aq W.aa k f) W o0 b1:Nat):Int);let e1:=W.aj u0;let g1:Int:=q0+1;o0<=e0->g0<=9223372036854775807->(r0=true->h0/\(0=0/\x0)/\0=((0:Nat):Int)/\ak y0 y0 ((x0/\(∀J:Nat,J<v0->(((True/\k0)/\k0)/\k0)/\SV.aK=SV.v (Value.bool false)))/\True)/\0<=z0/\(∀k1:Nat,let l1:=(k1:Int);let o1:=decide (l1<c1);let q1:=cW d0 W o0 b1 (0+Int.toNat l1);let r1:=q1.pg;let u1:Int:=16*r1;let v1:=q1.sp;let w1:=q1.fr;let x1:=q1.wr;let y1:=cond (cond (cond (dN b0 (λz1:Nat=>c0 (0+z1)) v1 u1==0) (eZ b0 (λa2:Nat=>c0 (0+a2)) v1 u1==w1) false) (e_ b0 (λb2:Nat=>c0 (0+b2)) v1 u1==x1) false) (!cond (k==4) (v1==f) false) false;let c2:=aC (λd2:Nat=>d0 (e1 d2)) k1;let e2:=c2+1;let g2:Int:=l1+1;let U:=ah g2=g2;k1<=z0->a1/\(c1<=9223372036854775807->(o1=true->a1/\(0<=l1/\l1<c1)/\True/\tn 3 True/\tn 8 (ah u1=u1/\(((b0=b0/\(∀k2:Nat,k2<b0->True/\c0 (0+k2)=c0 (0+k2)))/\v1=v1/\u1=u1/\True)/\True/\(∀l2:Nat,l2<b0->0<=c0 (0+l2)/\c0 (0+l2)<=65535))/\
    tn 5 ((y1=true->True/\(e2*32<=140737488355328/\(∀o2:Nat,true=true))/\U/\(∃q2:Nat,let r2:=aC (λu2:Nat=>d0 (e1 u2)) q2;let v2:=e2=r2;h0/\(0=0/\v2)/\g2=(q2:Int)/\ak y0 y0 ((v2/\(∀w2:Nat,let x2:=Nat.blt w2 c2;let y2:=aU l0 (λz2:Nat=>d0 (e1 z2)) e1 k1 (0+w2);w2<r2->ay (bI.mk (cond x2 y2.sp v1) (cond x2 y2.pg r1) (cond x2 y2.fr w1) (cond x2 y2.wr x1)) (aU l0 (λa3:Nat=>d0 (e1 a3)) e1 q2 w2)))/\True)/\q2<=z0/\z0-q2<z0-k1))/\(y1=false->U/\(∃b3:Nat,let c3:=aC (λd3:Nat=>d0 (e1 d3)) b3;let e3:=c2=c3;h0/\(0=0/\e3)/\g2=(b3:Int)/\ak y0 y0 ((e3/\(∀g3:Nat,g3<c3->ay (aU l0 (λh3:Nat=>d0 (e1 h3)) e1 k1 g3) (aU l0 (λk3:Nat=>d0 (e1 k3)) e1 b3 g3)))/\True)/\b3<=z0/\z0-b3<z0-k1)))))/\(o1=false->a1/\(∀l3:Nat,Nat.beq 4 4=true)/\ah g1=g1/\(∃o3:Nat,h0/\g1=(o3:Int)/\ak {W with aA:=λq3:Nat=>cond (Nat.beq q3 b1) c2 (dP d0 W o0 q3),aj:=λr3:Nat=>let u3:=Nat.beq r3 b1;λv3:Nat=>let w3:=aU l0 (λx3:Nat=>d0 (e1 x3)) e1 k1 v3;let y3:=cW d0 W o0 r3 v3;bI.mk (cond u3 w3.sp y3.sp) (cond u3 w3.pg y3.pg) (cond u3 w3.fr y3.fr) (cond u3 w3.wr y3.wr)} {W with aA:=dP d0 W o3,aj:=cW d0 W o3} True/\o3<=e0/\e0-o3<e0-o0)))))/\(r0=false->True/\ak y0 {W with aA:=eE d0 W,aj:=dA d0 W} True))
set_option maxHeartbeats 1000000 in
theorem nv:aL Tryz.prog aO 67 Sw:=aW (.cons Ii .nil) false Tryz.call67 Tryz.func67 (λ⟨k,f,W⟩=> [.inv (EC (fK W.aq W.aa k f) W [(0,bd 0)] 6),.ph false λfr=>Y' (fK W.aq W.aa k f) W (av (fr 6))]) (V:=Ih) (λ_=>by kernel_rfl) λ⟨k,f,W⟩ hp=>by
  dsimp only[lf]at hp
  dsimp only[Ih,tn,ah,ak,aE,aD,ay]
  simp only[aS,aZ,eq_self,implies_true,Bool.cond_self]
  try simp only[cu]
  have z1:=hp.z.aj
  have z2:=hp.z.c1
  refine⟨λq _=>⟨(lT (Nat.zero_le _)).symm,λv _=>by rw[nE (Nat.zero_le _)];exact cL rfl⟩,λs hs _=>⟨λh=>?_,λh=>?_⟩⟩
  · have ai:=aY h
    have J:=hp.tn s (by omega)
    have U:=hp.pg s (by omega)
    have tO: ∀j,((dN W.aq W.aa (W.aj s j).sp (16*(W.aj s j).pg)==0)&&(eZ W.aq W.aa (W.aj s j).sp (16*(W.aj s j).pg)==(W.aj s j).fr)&&(e_ W.aq W.aa (W.aj s j).sp (16*(W.aj s j).pg)==(W.aj s j).wr)&&!(k==4&&(W.aj s j).sp==f))=!fK W.aq W.aa k f (W.aj s j):=by
      intro j
      unfold fK cb
      cases dN W.aq W.aa (W.aj s j).sp (16*(W.aj s j).pg)==0<;>cases eZ W.aq W.aa (W.aj s j).sp (16*(W.aj s j).pg)==(W.aj s j).fr<;>cases e_ W.aq W.aa (W.aj s j).sp (16*(W.aj s j).pg)==(W.aj s j).wr<;>cases k==4<;>cases (W.aj s j).sp==f<;>rfl
    have bH: ∀q v,v<dP (fK W.aq W.aa k f) W (s+1) q->_:=λq v hv=>DX (p:=fK W.aq W.aa k f) (W:=W) (s:=s) (q:=q) (v:=v) hv
    have rN: ∀q,_:=λq=>DY (p:=fK W.aq W.aa k f) (W:=W) (s:=s) (q:=q)
    simp only[lT (Nat.le_refl s),nE (Nat.le_refl s)]at bH rN⊢
    obtain⟨P,hP⟩: ∃P:Nat->Bool,P=λi=>fK W.aq W.aa k f (W.aj s i):=⟨_,rfl⟩
    simp only[<-hP]at bH rN⊢
    refine⟨rfl,⟨rfl,λi hi=>absurd hi (by simp[aC])⟩,λj hj=>⟨by omega,λ_=>⟨λh=>?_,λh=>?_⟩⟩⟩
    · have Fh:=aY h
      have lF:=lX P j
      have xa:=U j (by omega)
      refine⟨by omega,by omega,by rw[IntKind.wrap_i64];omega,hp.aa,λhn=>?_,λhn=>?_⟩
      · have fa:P j=false:=by
          rw[hP]
          exact gM ((tO j).symm.trans hn)
        have dW:aC P (j+1)=aC P j+1:=by rw[aC,fa];rfl
        refine⟨by omega,bM (by omega) (by omega),j+1,dW.symm,by omega,⟨dW.symm,λi hi=>?_⟩,by omega,by omega⟩
        rw[dW]at hi
        rcases Nat.lt_or_ge i (aC P j)with h3|h3
        · have e:aU ⟨0,0,0,false⟩ P (W.aj s) (j+1) i=aU ⟨0,0,0,false⟩ P (W.aj s) j i:=by rw[aU,ca (by omega:i≠aC P j)];simp
          rw[cD h3,e]
          exact cL rfl
        · obtain rfl:i=aC P j:=by omega
          have e:aU ⟨0,0,0,false⟩ P (W.aj s) (j+1) (aC P j)=W.aj s j:=by rw[aU,fa,Nat.beq_refl];rfl
          rw[eI (Nat.le_refl _),e]
          exact cL rfl
      · have fa:P j=true:=by
          rw[hP]
          exact dy ((tO j).symm.trans hn)
        have dW:aC P (j+1)=aC P j:=by rw[aC,fa];rfl
        refine⟨bM (by omega) (by omega),j+1,dW.symm,by omega,⟨dW.symm,λi hi=>?_⟩,by omega,by omega⟩
        have e:aU ⟨0,0,0,false⟩ P (W.aj s) (j+1) i=aU ⟨0,0,0,false⟩ P (W.aj s) j i:=by rw[aU,fa];rfl
        rw[e]
        exact cL rfl
    · obtain rfl:j=W.aA s:=by have:=bD h;omega
      refine⟨by omega,λ_=>rfl,bM (by omega) (by omega),s+1,by omega,λq _=>⟨rN q,λv hv=>?_⟩,by omega,by omega⟩
      have hq:=bH q v hv
      rcases Decidable.em (q=s)with e|e
      · subst e
        have e1:=rN q
        rw[Nat.beq_refl,cond_true]at e1
        rw[<-e1]at hv
        rw[Nat.beq_refl,cD hv]at hq
        rw[Nat.beq_refl]
        exact hq
      · rw[ca e]at hq⊢
        exact hq
  · have bo:=bD h
    obtain rfl:s=W.aG:=by omega
    exactλq hq=>⟨qa hq,λv _=>by rw[sG hq];exact cL rfl⟩
end Go.Proofs.YtmieeldmfehpoaaGreatDoor
set_option linter.unusedVariables false
set_option linter.unusedSimpArgs false
set_option maxRecDepth 100000
namespace Go.Proofs.YtmieeldmfehpoaaGreatDoor
open Go.RowKit Go.Sy
def ZF (W:Wd) (i:Nat):bS where
  σ:=Nat
  rt:= []
  sh k:= [(108,.v (.int .i64 k)),(7,.v (.int .i64 (cA W i k)))]
  mh _:= []
  inv k:=k<=W.aw/\ ∀j,j<=k->dh W (cA W i j)=true
  μ k:=W.aw -k
  init:=0
def ZE (W:Wd) (n:Nat) (l:Nat->bI):bS where
  σ:=Nat
  rt:= []
  sh i:= [(15,.v (.int .i64 i))]
  mh _:= []
  inv i:=i<=n/\ ∀j,j<i->eX W l j=true
  μ i:=n -i
  init:=0
def ZG (W:Wd) (f:Nat):bS where
  σ:=Nat
  rt:= []
  sh i:= [(95,.v (.int .i64 i))]
  mh _:= []
  inv i:=i<=W.ao f/\ ∀j,j<i->fA W f (W.lines f j)=true
  μ i:=W.ao f -i
  init:=0
def ZH (W:Wd) (n:Nat) (l:Nat->Int) (i:Int):bS where
  σ:=Nat
  rt:= []
  sh k:= [(8,.v (.int .i64 k))]
  mh _:= []
  inv k:=k<=n/\ ∀j,j<k->(!dB W (l j) (i/4) (i%4))=false
  μ k:=n -k
  init:=0
theorem eqN {b:Bool} (h:b=true->False):true=!b:=by cases b<;>simp_all
theorem FD {W:Wd} {f k:Int} (hk:k≠ -1):(decide (f<0)||decide ((W.ar:Int)<=f)||W.kinds f.toNat !=k)=!(cm W f==k):=by
  rw[<-CZ hk,show decide (f<0)=!decide (0<=f) by rw[<-decide_not];exact decide_eq_decide.2 (by omega),show decide ((W.ar:Int)<=f)=!decide (f<(W.ar:Int)) by rw[<-decide_not];exact decide_eq_decide.2 (by omega)]
  simp only[bne,Bool.not_and]
theorem Ps {W:Wd} {f k:Int} (hf:0<=f) (hk:k≠ -1):(decide ((W.ar:Int)<=f)||W.kinds f.toNat !=k)=!(cm W f==k):=by
  rw[<-FD hk,show decide (f<0)=false from decide_eq_false (by omega)];rfl
theorem UE {s:cp} (h:(s.kind==0)=true):(s.kind==0&&(s.base==0&&(s.len==0&&(s.mark==0&&(s.cQ==0&&(s.bJ==0&&true))))))=(gN s==0):=by
  unfold gN fU
  rw[eq_of_beq h]
  simp only[bne]
  cases s.base==0<;>cases s.len==0<;>cases s.mark==0<;>cases s.cQ==0<;>cases s.bJ==0<;>rfl
theorem J1 {W:Wd} {u:Int}: ∀k,cA W (iV W u) k=cA W u (k+1)
  |0=>rfl
  |k+1=>by show iV W (cA W (iV W u) k)=_;rw[J1 k];rfl
def sN (W:Wd) (u:Int) (k:Nat):Nat:=bif dh W (cA W u k)then(cA W u k).toNat else W.aw
theorem Wz {W:Wd} {u:Int} (h: ∀j,j<=W.aw->dh W (cA W u j)=true): ∀j,dh W (cA W u j)=true:=by
  have key: ∀k,sN W u k<W.aw↔dh W (cA W u k)=true:=λk=>by
    unfold sN
    cases hq:dh W (cA W u k)with
    |true=>have:=kI.1 hq;simp only[cond_true,iff_true];omega
    |false=>simp
  have:=Ud W.aw (λv=>bif dh W (iV W (v:Int))then(iV W (v:Int)).toNat else W.aw) (sN W u) (λk hk=>by
    have bT:=(key k).1 hk
    have U:=kI.1 bT
    have e:((sN W u k:Nat):Int)=cA W u k:=by unfold sN;rw[bT];simp only[cond_true];omega
    show sN W u (k+1)=bif dh W (iV W ((sN W u k:Nat):Int))then(iV W ((sN W u k:Nat):Int)).toNat else W.aw
    rw[e];rfl) (λk hk=>(key k).2 (h k hk))
  exactλj=>(key j).1 (this j)
theorem CV {S:cp} (h0:gN S=0) (hk:S.kind≠0):1<=S.len:=by
  have h0:fU S.kind S.base S.len S.mark S.cQ S.bJ=0:=h0
  unfold fU sK sL aB at h0
  simp only[cond_eq_ite,bne,Bool.or_eq_true,Bool.and_eq_true,Bool.not_eq_true',decide_eq_true_eq,beq_iff_eq,beq_eq_false_iff_ne]at h0
  repeat' split at h0
  all_goals first|(cases h0;done)|omega
structure LN where
  (i:Int) (W:Wd)
def LO:Sy.Spec:=⟨LN,λ⟨i,W⟩=> [.v (.int .i64 i),.ag 7 (aH (kx (W.af i.toNat))),.pt true 1 (λ_=>eD W)],λ_=> [],λ⟨i,W⟩=>bW W/\0<=i/\i<W.aw,λ⟨i,W⟩=> .v (.bool (!cT W i.toNat)),λ_=> [],
  λargs mem=>match args with| [a0,a1,a2]=>some ⟨av (a0),d' (bx a2 0)⟩|_=>none⟩
def WA:aQ:=⟨[],(LO).g,none⟩
def LP:LN->Prop:=λ⟨i,W⟩=>let a0:=W.af (Int.toNat i);let b0:=a0.kind;let c0:=b0==0;let d0:=a0.base;let e0:=a0.len;let g0:=a0.mark;let h0:=a0.cQ;let k0:=a0.bJ;let l0:=a0.from_;let o0:=!cT W (Int.toNat i);let q0:Int:=i/16;let r0:=((W.ar:Nat):Int);let u0:=W.kinds (Int.toNat q0) !=5;let v0:=(((((True/\b0=b0)/\d0=d0)/\e0=e0)/\g0=g0)/\h0=h0)/\k0=k0;let w0:=fU b0 d0 e0 g0 h0 k0;let x0:=cond u0 true (w0 !=0);let y0:Int:=d0+e0;let z0:=b0 !=1;let a1:=cond x0 true (decide (r0<y0));let b1:=cond a1 true (cond z0 (W.kinds (Int.toNat d0) !=b0) false);let c1:=true=o0/\True;let d1:=l0==(-1);let e1:=false=o0/\True;let g1:=W.aw;let J:=(g1:Int);let k1:=cond (decide (l0<0)) true (decide (J<=l0));let l1:=k1=false;let o1:=W.af (Int.toNat l0);let q1:=o1.kind;let r1:=o1.base;let u1:=o1.len;let v1:=o1.mark;let w1:=o1.cQ;let x1:=o1.bJ;let y1:=cond k1 true (!gI {a0 with from_:=0} {o1 with from_:=0});let z1:=((Int.toNat i:Nat):Int);tn 2 (tn 5 True/\(c0=true->cond (!(c0&&(d0==0&&(e0==0&&(g0==0&&(h0==0&&(k0==0&&true))))))) true (l0 !=(-1))=o0/\True)/\(c0=false->tn 6 ((0<=i/\(0:Int)<16/\ah q0=q0)/\(0<=q0/\q0<r0)/\tn 4 ((u0=false->(v0/\True)/\True/\True)/\tn 7 ((x0=false->ah y0=y0)/\tn 20 ((z0=true->a1=false->0<=d0/\d0<r0)/\tn 3 ((b1=true->c1)/\(b1=false->(d1=true->e1)/\(d1=false->tn 23 ((l1->0<=l0/\l0<J)/\tn 2 ((l1->(v0/\((((((True/\q1=q1)/\r1=r1)/\u1=u1)/\v1=v1)/\w1=w1)/\x1=x1)/\True)/\True/\w0=0)/\(y1=true->c1)/\(y1=false->J<=9223372036854775807->0=((0:Nat):Int)/\i=cA W z1 0/\True/\(0<=g1/\(∀a2:Nat,a2<=0->dh W (cA W z1 a2)=true))/\(∀b2:Nat,
    let c2:=decide ((b2:Int)<J);let d2:=cA W z1 b2;let e2:=(W.af (Int.toNat d2)).from_;let g2:=cond (decide (e2<0)) true (decide (J<=e2));let U:Int:=(b2:Int)+1;b2<=g1/\(∀k2:Nat,k2<=b2->dh W (cA W z1 k2)=true)->(c2=true->(0<=d2/\d2<J)/\(g2=true->e1)/\(g2=false->ah U=U/\(∃l2:Nat,U=(l2:Int)/\e2=cA W z1 l2/\True/\(l2<=g1/\(∀o2:Nat,o2<=l2->dh W (cA W z1 o2)=true))/\g1-l2<g1-b2)))/\(c2=false->c1))))))))))))))
theorem UA:aL Tryz.prog aO 73 WA:=aW (.cons G1 (.cons TK .nil)) false Tryz.call73 Tryz.func73 (λ⟨i,W⟩=> [.inv (ZF W i.toNat)]) (V:=LP) (λ_=>by kernel_rfl) λ⟨i,W⟩ hp=>by
  dsimp only[LO]at hp
  dsimp only[LP,tn,ah,ak,aE,aD,ay]
  obtain⟨hz,i0,i1⟩:=hp
  obtain⟨I,rfl⟩: ∃I:Nat,i=I:=⟨i.toNat,by omega⟩
  simp only[aS,aZ,eq_self,implies_true,Bool.cond_self]
  have rQ:((I:Int)/16).toNat=I/16:=by omega
  rw[rQ,show cT W I=kU W I (W.af I)from rfl]
  simp only[HL]
  have mF:=hz.af
  have m_:=hz.k1
  have rO:=hz.k0
  have hI:dh W (I:Int)=true:=kI.2 ⟨by omega,by omega⟩
  have wY:iV W (I:Int)=(W.af I).from_:=by rw[yX hI,Int.toNat_natCast]
  obtain⟨S,hS⟩: ∃S,S=W.af I:=⟨_,rfl⟩
  simp only[<-hS]at wY⊢
  refine⟨λh=>?_,λh=>⟨⟨by decide,by rw[IntKind.wrap_i64];omega⟩,by omega,λJ=>?_,λJ U=>?_,λJ=>?_,λJ=>?_⟩⟩
  · rw[UE h];unfold kU;rw[h]
    cases gN S==0<;>cases hq:S.from_== -1<;>simp[bne,hq]
  · simp only[Bool.or_eq_false_iff,bne_eq_false_iff_eq]at J
    have:=nt J.2
    rw[IntKind.wrap_i64];omega
  · simp only[Bool.or_eq_false_iff,bne_eq_false_iff_eq,decide_eq_false_iff_not]at U
    have:=nt U.1.2
    have hlen:=CV U.1.2 (by simpa using h)
    omega
  · refine eqN λht=>?_
    rw[sr h]at ht
    simp only[Bool.and_eq_true,Bool.or_eq_true,beq_iff_eq,decide_eq_true_eq,bne_iff_ne,ne_eq]at ht J
    omega
  rw[Bool.or_eq_false_iff]at J
  obtain⟨J,U⟩:=J
  have T:W.kinds (I/16)=5/\gN S=0/\S.base+S.len<=W.ar:=by
    simp only[Bool.or_eq_false_iff,bne_eq_false_iff_eq,decide_eq_false_iff_not]at J
    exact⟨J.1.1,J.1.2,by omega⟩
  obtain⟨T1,T2,T3⟩:=T
  have T4:(S.kind==1||W.kinds S.base.toNat==S.kind)=true:=by
    revert U
    simp only[bne]
    cases S.kind==1<;>cases W.kinds S.base.toNat==S.kind<;>simp
  have core:kU W I S=(S.from_== -1||(dh W S.from_&&gI S (W.af S.from_.toNat)&&!dh W (cA W S.from_ W.aw))):=by
    rw[sr h,T4,show(W.kinds (I/16)==5)=true from beq_iff_eq.2 T1,show(gN S==0)=true from beq_iff_eq.2 T2,show decide (S.base+S.len<=W.ar)=true from decide_eq_true T3]
    simp
  rw[core]
  refine⟨λh3=>by rw[h3];rfl,λh3=>?_⟩
  rw[h3,zL]
  obtain⟨p,hp⟩: ∃p,p=W.af S.from_.toNat:=⟨_,rfl⟩
  simp only[<-hp]
  rw[show gI ⟨S.kind,S.base,S.len,S.mark,S.cQ,S.bJ,0⟩ ⟨p.kind,p.base,p.len,p.mark,p.cQ,p.bJ,0⟩=gI S p from rfl]
  refine⟨λh4=>?_,λ_=>T2,λh4=>?_,λh4 _=>?_⟩
  · exact kI.1 (dy h4)
  · revert h4;cases dh W S.from_<;>cases gI S p<;>simp
  have bT:dh W S.from_=true:=by revert h4;cases dh W S.from_<;>simp
  have Ge:gI S p=true:=by revert h4;cases gI S p<;>simp
  rw[bT,Ge]
  have e1: ∀k,cA W S.from_ k=cA W (I:Int) (k+1):=λk=>by rw[<-wY];exact J1 k
  rw[e1]
  refine⟨rfl,λj hj=>?_,λs hs=>⟨λh5=>?_,λh5=>?_⟩⟩
  · obtain rfl:j=0:=by omega
    exact hI
  · have ai:=aY h5
    have hi:=hs.2 s (Nat.le_refl _)
    have bH:(W.af (cA W (I:Int) s).toNat).from_=cA W (I:Int) (s+1):=(yX hi).symm
    simp only[bH,zL]
    refine⟨kI.1 hi,λh6=>?_,λh6=>⟨by rw[IntKind.wrap_i64];omega,bZ ⟨rfl,⟨by omega,λj hj=>?_⟩,by omega⟩⟩⟩
    · have h7:=gM h6
      rw[K9 h7 (show s+1<=W.aw+1 by omega),h7];rfl
    · rcases Nat.lt_or_ge j (s+1)with h8|h8
      · exact hs.2 j (by omega)
      · obtain rfl:j=s+1:=by omega
        exact dy h6
  · have bo:=bD h5
    rw[Wz (u:=(I:Int)) (λj hj=>hs.2 j (by omega)) (W.aw+1)];rfl
structure J2 where
  (i:Int) (W:Wd)
def J3:Sy.Spec:=⟨J2,λ⟨i,W⟩=> [.v (.int .i64 i),.sl true 1 (W.ao i.toNat) (iF (W.lines i.toNat)),.pt true 1 (λ_=>eD W)],λ_=> [],λ⟨i,W⟩=>bW W/\kv W/\0<=i/\i<W.ar,λ⟨i,W⟩=> .v (.bool (!cU W i.toNat)),λ_=> [],
  λargs mem=>match args with| [a0,a1,a2]=>some ⟨av (a0),d' (bx a2 0)⟩|_=>none⟩
def UF:aQ:=⟨[],(J3).g,none⟩
def J4:J2->Prop:=λ⟨i,W⟩=>let a0:=((W.ar:Nat):Int);let b0:=0<=i/\i<a0;let c0:=Int.toNat i;let d0:=W.kinds c0;let e0:=d0 !=7;let g0:=d0 !=8;let h0:=W.ao c0;let k0:=(h0:Int);let l0:=decide (0<k0);let o0:=cond (cond e0 g0 false) l0 false;let q0:=o0=false;let r0:=0<=i/\i<((W.aN:Nat):Int);let u0:=W.bits c0;let v0:=u0 !=0;let w0:=cond o0 true (cond g0 v0 false);let x0:=w0=false;let y0:=cond w0 true (aB u0 65535);let z0:=y0=false;let a1:=cond (d0==8) l0 false;let b1:=cond y0 true (cond a1 v0 false);let c1:=!cU W c0;let d1:=true=c1/\True;let e1:=((W.az:Nat):Int);let g1:=W.lines c0 (Int.toNat 0);let J:=(W.tasks (Int.toNat g1)).st==4;b0/\(e0=true->b0)/\(q0->b0)/\(g0=true->q0->r0)/\(x0->r0)/\(x0->(u0=u0/\(65535:Int)=65535/\True)/\True/\True)/\(z0->b0)/\(a1=true->z0->r0)/\(b1=true->d1)/\(b1=false->k0<=9223372036854775807->0=((0:Nat):Int)/\True/\(0<=h0/\(∀k1:Nat,k1<0->fA W c0 (W.lines c0 k1)=true))/\(∀l1:Nat,let o1:=(l1:Int);let q1:=decide (o1<k0);let r1:=W.lines c0 (Int.toNat o1);let u1:=cond (decide (r1<0)) true (decide (a0<=r1));let v1:=0<=r1;let w1:=Int.toNat r1;let x1:=cond u1 true (W.kinds w1 !=6);let y1:=v1/\r1<e1;let z1:=W.tasks w1;let a2:=cond x1 true (z1.loc !=i);let b2:=a2=false;let c2:=cond a2 true ((z1.st==4) !=J);let d2:Int:=o1+1;l1<=h0/\(∀e2:Nat,e2<l1->fA W c0 (W.lines c0 e2)=true)->(q1=true->(0<=o1/\o1<k0)/\tn 19 ((u1=false->v1/\r1<a0)/\tn 10 ((x1=false->y1)/\tn 12 ((b2->y1)/\tn 9 ((b2->(0:Int)<=0/\0<k0)/\True/\(b2->0<=g1/\g1<e1)/\tn 3 ((c2=true->d1)/\(c2=false->ah d2=d2/\(∃g2:Nat,d2=(g2:Int)/\True/\(g2<=h0/\(∀U:Nat,U<g2->
    fA W c0 (W.lines c0 U)=true))/\h0-g2<h0-l1))))))))/\(q1=false->false=c1/\True)))
theorem S8:aL Tryz.prog aO 84 UF:=aW (.cons sI .nil) false Tryz.call84 Tryz.func84 (λ⟨i,W⟩=> [.inv (ZG W i.toNat)]) (V:=J4) (λ_=>by kernel_rfl) λ⟨i,W⟩ hp=>by
  dsimp only[J3]at hp
  dsimp only[J4,tn,ah,ak,aE,aD,ay]
  obtain⟨hz,hm,f0,f1⟩:=hp
  obtain⟨F,rfl⟩: ∃F:Nat,i=F:=⟨i.toNat,by omega⟩
  simp only[aS,aZ,eq_self,implies_true,Bool.cond_self]
  have mF:=hz.tasks
  have m_:=hz.k1
  have rO:=hz.lines
  have GG:=hz.bits
  have hL:=hm.1 F (by omega)
  rw[show decide ((0:Int)<(W.ao F:Int))=decide (0<W.ao F)from decide_eq_decide.2 (by omega)]
  have eA:(W.kinds F !=7&&W.kinds F !=8&&decide (0<W.ao F)||W.kinds F !=8&&W.bits F !=0||aB (W.bits F) 65535||W.kinds F==8&&decide (0<W.ao F)&&W.bits F !=0)=!(!(decide (0<W.ao F)&&W.kinds F !=7&&W.kinds F !=8)&&!(W.bits F !=0&&(W.kinds F !=8||decide (0<W.ao F)))&&!aB (W.bits F) 65535):=by
    simp only[bne]
    cases W.kinds F==7<;>cases W.kinds F==8<;>cases decide (0<W.ao F)<;>cases W.bits F==0<;>cases aB (W.bits F) 65535<;>rfl
  rw[eA]
  refine⟨by omega,λ_=>by omega,λ_=>by omega,λ_ _=>by omega,λ_=>by omega,λ_=>by omega,λ_ _=>by omega,λh=>?_,λh _ s hs=>?_⟩
  · unfold cU;rw[gM h];rfl
  have core:cU W F=fe (W.ao F) λi=>fA W F (W.lines F i):=by unfold cU;rw[dy h];rfl
  rw[core]
  refine⟨λJ=>?_,λJ=>?_⟩
  · have ai:=aY J
    rw[FD (k:=6) (by decide)]
    have hr: ∀t,(cm W t==6)=true->0<=t/\t<W.az:=λt h=>by rw[mF];exact ll (by rw[eq_of_beq h];decide)
    have GH:(cm W (W.lines F s)==6)=true->0<=W.lines F 0/\W.lines F 0<W.az:=λh6=>by
      rcases Nat.eq_zero_or_pos s with h|h
      · subst h;exact hr _ h6
      · have:=hs.2 0 h
        unfold fA at this
        simp only[Bool.and_eq_true]at this
        exact hr _ this.1.1
    have ht:fA W F (W.lines F s)=!(!(cm W (W.lines F s)==6)||(W.tasks (W.lines F s).toNat).loc !=F||(((W.tasks (W.lines F s).toNat).st==4) !=((W.tasks (W.lines F 0).toNat).st==4))):=by
      unfold fA oz;simp only[bne,Bool.not_or,Bool.not_not]
    have o1: ∀{a b:Bool},(!a||b)=false->a=true:=λ{a b} h=>by revert h;cases a<;>cases b<;>simp
    refine⟨by omega,λU=>?_,λU=>hr _ (dy U),λU=>hr _ (o1 U),λU=>⟨by decide,by omega⟩,λU=>GH (o1 U),λU=>?_,λU=>⟨by rw[IntKind.wrap_i64];omega,bZ ⟨⟨by omega,mZ hs.2 ?_⟩,by omega⟩⟩⟩
    · simp only[Bool.or_eq_false_iff,decide_eq_false_iff_not]at U;omega
    · rw[j3 (p:=λi=>fA W F (W.lines F i)) ai (by show fA W F (W.lines F s)=false;rw[ht];exact congrArg (!·) U)];rfl
    · rw[ht];exact congrArg (!·) U
  · have bo:=bD J
    obtain rfl:s=W.ao F:=by omega
    rw[mJ hs.2];rfl
structure yj where
  (i x:Int) (W:Wd)
def Cn:Sy.Spec:=⟨yj,λ⟨i,x,W⟩=> [.v (.int .i64 i),.v (.int .i64 x),.pt true 1 (λ_=> .fn 85 1 (aH [.pt true 1 (λ_=>eD W)]))],λ_=> [],λ⟨_,_,W⟩=>bW W,λ⟨i,x,W⟩=> .v (.bool (x != -1&&!dB W x i (-1))),λ_=> [],
  λargs mem=>match args with| [a0,a1,a2]=>some ⟨av (a0),av (a1),d' (bx (dc (bx a2 0) 0) 0)⟩|_=>none⟩
def UG:aQ:=⟨[],(Cn).g,none⟩
def J5:yj->Prop:=λ⟨i,x,W⟩=>let a0:=W.ar;let b0:=W.aw;let c0:=W.az;let d0:=W.ba;let e0:=W.aP;let g0:=W.aT;let h0:=!dB W x i (-1);((x !=(-1))=true->(x=x/\i=i/\((-1):Int)=(-1)/\(True/\((((((((((True/\W.aq=W.aq/\(∀k0:Nat,k0<W.aq->True/\W.aa k0=W.aa k0))/\a0=a0/\(∀l0:Nat,l0<a0->True/\W.kinds l0=W.kinds l0))/\b0=b0/\(∀o0:Nat,o0<b0->aD (W.af o0) (W.af o0)))/\c0=c0/\(∀q0:Nat,q0<c0->aE (W.tasks q0) (W.tasks q0)))/\d0=d0/\(∀r0:Nat,let u0:=W.ao r0;r0<d0->True/\u0=u0/\(∀v0:Nat,v0<u0->True/\W.lines r0 v0=W.lines r0 v0)))/\W.aN=W.aN/\(∀w0:Nat,w0<W.aN->True/\W.bits w0=W.bits w0))/\e0=e0/\(∀x0:Nat,x0<e0->True/\W.aF x0=W.aF x0))/\g0=g0/\(∀y0:Nat,let z0:=W.aJ y0;y0<g0->True/\z0=z0/\(∀a1:Nat,a1<z0->True/\W.ready y0 a1=W.ready y0 a1)))/\W.aG=W.aG/\(∀b1:Nat,let c1:=W.aA b1;b1<W.aG->True/\c1=c1/\(∀d1:Nat,d1<c1->ay (W.aj b1 d1) (W.aj b1 d1))))/\W.aI=W.aI/\(∀e1:Nat,e1<W.aI->True/\W.aM e1=W.aM e1))/\W.time=W.time)/\True)/\True/\yC.match_1 (λg1:sJ=>Prop) (sJ.mk x i (-1) W) (λJ:Int=>λk1:Int=>λl1:Int=>λo1:Wd=>bW o1))/\cond (x !=(-1)) h0 false=(x !=(-1)&&h0)/\True
theorem S6:aL Tryz.prog aO 86 UG:=aW (.cons Jk .nil) false Tryz.call86 Tryz.func86 (λ_=> []) (V:=J5) (λ_=>by kernel_rfl) λ⟨i,x,W⟩ hp=>by
  dsimp only[Cn]at hp
  dsimp only[J5,tn,ah,ak,aE,aD,ay]
  simp only[aS,aZ,eq_self,implies_true,Bool.cond_self]
  exactλ_=>hp
structure IM where
  (t:Int) (W:Wd) (i:Int)
def IN:Sy.Spec:=⟨IM,λ⟨t,W,i⟩=> [.v (.int .i64 t),.pt true 1 (λ_=> .fn 85 1 (aH [.pt true 1 (λ_=>eD W)])),.pt true 1 (λ_=> .v (.int .i64 i))],λ_=> [],λ⟨_,W,i⟩=>bW W/\0<=i/\i<=100000,λ⟨t,W,i⟩=> .v (.bool (!dB W t (i/4) (i%4))),λ_=> [],
  λargs mem=>match args with| [a0,a1,a2]=>some ⟨av (a0),d' (bx (dc (bx a1 0) 0) 0),av (bx a2 0)⟩|_=>none⟩
def Tc:aQ:=⟨[],(IN).g,none⟩
def IP:IM->Prop:=λ⟨t,W,i⟩=>let a0:Int:=i/4;let b0:Int:=i%4;let c0:=W.ar;let d0:=W.aw;let e0:=W.az;let g0:=W.ba;let h0:=W.aP;let k0:=W.aT;let l0:=!dB W t a0 b0;(0<=i/\(0:Int)<4/\ah a0=a0)/\(0<=i/\(0:Int)<4)/\((t=t/\a0=a0/\b0=b0/\(True/\((((((((((True/\W.aq=W.aq/\(∀o0:Nat,o0<W.aq->True/\W.aa o0=W.aa o0))/\c0=c0/\(∀q0:Nat,q0<c0->True/\W.kinds q0=W.kinds q0))/\d0=d0/\(∀r0:Nat,r0<d0->aD (W.af r0) (W.af r0)))/\e0=e0/\(∀u0:Nat,u0<e0->aE (W.tasks u0) (W.tasks u0)))/\g0=g0/\(∀v0:Nat,let w0:=W.ao v0;v0<g0->True/\w0=w0/\(∀x0:Nat,x0<w0->True/\W.lines v0 x0=W.lines v0 x0)))/\W.aN=W.aN/\(∀y0:Nat,y0<W.aN->True/\W.bits y0=W.bits y0))/\h0=h0/\(∀z0:Nat,z0<h0->True/\W.aF z0=W.aF z0))/\k0=k0/\(∀a1:Nat,let b1:=W.aJ a1;a1<k0->True/\b1=b1/\(∀c1:Nat,c1<b1->True/\W.ready a1 c1=W.ready a1 c1)))/\W.aG=W.aG/\(∀d1:Nat,let e1:=W.aA d1;d1<W.aG->True/\e1=e1/\(∀g1:Nat,g1<e1->ay (W.aj d1 g1) (W.aj d1 g1))))/\W.aI=W.aI/\(∀J:Nat,J<W.aI->True/\W.aM J=W.aM J))/\W.time=W.time)/\True)/\True/\yC.match_1 (λk1:sJ=>Prop) (sJ.mk t a0 b0 W) (λl1:Int=>λo1:Int=>λq1:Int=>λr1:Wd=>bW r1))/\l0=l0/\True
theorem R3:aL Tryz.prog aO 89 Tc:=aW (.cons Jk .nil) false Tryz.call89 Tryz.func89 (λ_=> []) (V:=IP) (λ_=>by kernel_rfl) λ⟨t,W,i⟩ hp=>by
  dsimp only[IN]at hp
  dsimp only[IP,tn,ah,ak,aE,aD,ay]
  simp only[aS,aZ,eq_self,implies_true,Bool.cond_self]
  exact⟨⟨hp.2.1,by decide,by rw[IntKind.wrap_i64];omega⟩,⟨hp.2.1,by decide⟩,hp.1⟩
structure Ou where
  (n:Nat) (l:Nat->Int) (W:Wd) (i:Int)
def Ov:Sy.Spec:=⟨Ou,λ⟨n,l,W,i⟩=> [.sl true 1 n (λi_ _=> .v (.int .i64 (l i_))),.fn 89 2 (aH [.pt true 1 (λ_=> .fn 85 1 (aH [.pt true 1 (λ_=>eD W)])),.pt true 1 (λ_=> .v (.int .i64 i))])],λ_=> [],λ⟨n,_,W,i⟩=>bW W/\0<=i/\i<=100000/\n<=100000,λ⟨n,l,W,i⟩=> .v (.int .i64 (cN n λk=>!dB W (l k) (i/4) (i%4))),λ_=> [],
  λargs mem=>match args with| [a0,a1]=>some ⟨bO a0,λi=>av (bF a0 i 0),d' (bx (dc (bx (dc a1 0) 0) 0) 0),av (bx (dc a1 1) 0)⟩|_=>none⟩
def Yr:aQ:=⟨[],(Ov).g,none⟩
def Ox:Ou->Prop:=λ⟨n,l,W,i⟩=>let a0:=(n:Int);let b0:Int:=i/4;let c0:Int:=i%4;let d0:=W.ar;let e0:=W.aw;let g0:=W.az;let h0:=W.ba;let k0:=W.aP;let l0:=W.aT;let o0:=cN n (λq0:Nat=>!dB W (l q0) b0 c0);a0<=9223372036854775807->0=((0:Nat):Int)/\True/\(0<=n/\(∀r0:Nat,r0<0->(!dB W (l r0) b0 c0)=false))/\(∀u0:Nat,let v0:=(u0:Int);let w0:=decide (v0<a0);let x0:Int:=l (Int.toNat v0);let y0:=!dB W x0 b0 c0;let z0:Int:=v0+1;u0<=n/\(∀a1:Nat,a1<u0->(!dB W (l a1) b0 c0)=false)->(w0=true->(0<=v0/\v0<a0)/\((x0=x0/\tn 3 (((((((((((True/\W.aq=W.aq/\(∀b1:Nat,b1<W.aq->True/\W.aa b1=W.aa b1))/\d0=d0/\(∀c1:Nat,c1<d0->True/\W.kinds c1=W.kinds c1))/\e0=e0/\(∀d1:Nat,d1<e0->aD (W.af d1) (W.af d1)))/\g0=g0/\(∀e1:Nat,e1<g0->aE (W.tasks e1) (W.tasks e1)))/\h0=h0/\(∀g1:Nat,let J:=W.ao g1;g1<h0->True/\J=J/\(∀k1:Nat,k1<J->True/\W.lines g1 k1=W.lines g1 k1)))/\W.aN=W.aN/\(∀l1:Nat,l1<W.aN->True/\W.bits l1=W.bits l1))/\k0=k0/\(∀o1:Nat,o1<k0->True/\W.aF o1=W.aF o1))/\l0=l0/\(∀q1:Nat,let r1:=W.aJ q1;q1<l0->True/\r1=r1/\(∀u1:Nat,u1<r1->True/\W.ready q1 u1=W.ready q1 u1)))/\W.aG=W.aG/\(∀v1:Nat,let w1:=W.aA v1;v1<W.aG->True/\w1=w1/\(∀x1:Nat,x1<w1->ay (W.aj v1 x1) (W.aj v1 x1))))/\W.aI=W.aI/\(∀y1:Nat,y1<W.aI->True/\W.aM y1=W.aM y1))/\W.time=W.time)/\(True/\i=i)/\True)/\True/\bW W/\0<=i/\i<=100000)/\(y0=true->v0=o0/\True)/\(y0=false->ah z0=z0/\(∃z1:Nat,z0=(z1:Int)/\True/\(z1<=n/\(∀a2:Nat,a2<z1->(!dB W (l a2) b0 c0)=false))/\n-z1<n-u0)))/\(w0=false->(-1)=o0/\True))
theorem WB:aL Tryz.prog aO 114 Yr:=aW (.cons R3 .nil) false Tryz.call114 Tryz.func114 (λ⟨n,l,W,i⟩=> [.inv (ZH W n l i)]) (V:=Ox) (λ_=>by kernel_rfl) λ⟨n,l,W,i⟩ hp=>by
  dsimp only[Ov]at hp
  dsimp only[Ox,tn,ah,ak,aE,aD,ay]
  simp only[aS,aZ,eq_self,implies_true,Bool.cond_self]
  refineλhn s hs=>⟨λh=>?_,λh=>?_⟩
  · have ai:=aY h
    exact⟨by omega,⟨hp.1,hp.2.1,hp.2.2.1⟩,λh=>(qc (p:=λk=>!dB W (l k) (i/4) (i%4)) hs.2 h ai).symm,λh=>⟨by rw[IntKind.wrap_i64];omega,bZ ⟨⟨by omega,dT (p:=λk=>!dB W (l k) (i/4) (i%4)) hs.2 h⟩,by omega⟩⟩⟩
  · have bo:=bD h
    obtain rfl:s=n:=by omega
    exact(mI (p:=λk=>!dB W (l k) (i/4) (i%4)) hs.2).symm
structure Oy where
  (n:Nat) (l:Nat->Int) (W:Wd) (i:Int)
def Oz:Sy.Spec:=⟨Oy,λ⟨n,l,W,i⟩=> [.sl true 1 n (λi_ _=> .v (.int .i64 (l i_))),.fn 89 2 (aH [.pt true 1 (λ_=> .fn 85 1 (aH [.pt true 1 (λ_=>eD W)])),.pt true 1 (λ_=> .v (.int .i64 i))])],λ_=> [],λ⟨n,_,W,i⟩=>bW W/\0<=i/\i<=100000/\n<=100000,λ⟨n,l,W,i⟩=> .v (.bool (dp n λk=>!dB W (l k) (i/4) (i%4))),λ_=> [],
  λargs mem=>match args with| [a0,a1]=>some ⟨bO a0,λi=>av (bF a0 i 0),d' (bx (dc (bx (dc a1 0) 0) 0) 0),av (bx (dc a1 1) 0)⟩|_=>none⟩
def Ys:aQ:=⟨[],(Oz).g,none⟩
def OA:Oy->Prop:=λ⟨n,l,W,i⟩=>let a0:=W.ar;let b0:=W.aw;let c0:=W.az;let d0:=W.ba;let e0:=W.aP;let g0:=W.aT;(((n=n/\(∀h0:Nat,h0<n->True/\l h0=l h0))/\(tn 4 (((((((((((True/\W.aq=W.aq/\(∀k0:Nat,k0<W.aq->True/\W.aa k0=W.aa k0))/\a0=a0/\(∀l0:Nat,l0<a0->True/\W.kinds l0=W.kinds l0))/\b0=b0/\(∀o0:Nat,o0<b0->aD (W.af o0) (W.af o0)))/\c0=c0/\(∀q0:Nat,q0<c0->aE (W.tasks q0) (W.tasks q0)))/\d0=d0/\(∀r0:Nat,let u0:=W.ao r0;r0<d0->True/\u0=u0/\(∀v0:Nat,v0<u0->True/\W.lines r0 v0=W.lines r0 v0)))/\W.aN=W.aN/\(∀w0:Nat,w0<W.aN->True/\W.bits w0=W.bits w0))/\e0=e0/\(∀x0:Nat,x0<e0->True/\W.aF x0=W.aF x0))/\g0=g0/\(∀y0:Nat,let z0:=W.aJ y0;y0<g0->True/\z0=z0/\(∀a1:Nat,a1<z0->True/\W.ready y0 a1=W.ready y0 a1)))/\W.aG=W.aG/\(∀b1:Nat,let c1:=W.aA b1;b1<W.aG->True/\c1=c1/\(∀d1:Nat,d1<c1->ay (W.aj b1 d1) (W.aj b1 d1))))/\W.aI=W.aI/\(∀e1:Nat,e1<W.aI->True/\W.aM e1=W.aM e1))/\W.time=W.time)/\True/\i=i)/\True)/\True/\bW W/\0<=i/\i<=100000/\n<=100000)/\decide (0<=cN n (λg1:Nat=>!dB W (l g1) (i/4) (i%4)))=dp n (λJ:Nat=>!dB W (l J) (i/4) (i%4))/\True
theorem WC:aL Tryz.prog aO 88 Ys:=aW (.cons WB .nil) false Tryz.call88 Tryz.func88 (λ_=> []) (V:=OA) (λ_=>by kernel_rfl) λ⟨n,l,W,i⟩ hp=>by
  dsimp only[Oz]at hp
  dsimp only[OA,tn,ah,ak,aE,aD,ay]
  simp only[aS,aZ,eq_self,implies_true,Bool.cond_self]
  refine⟨hp,?_⟩
  cases hq:dp n λk=>!dB W (l k) (i/4) (i%4)with
  |false=>rw[mI (ld.1 hq)];rfl
  |true=>
   obtain⟨j,hj,h⟩:=kE.1 hq
   have:=p_ (p:=λk=>!dB W (l k) (i/4) (i%4)) hj h
   unfold cN
   rw[cD this]
   exact decide_eq_true (Int.natCast_nonneg _)
structure J6 where
  (i:Int) (W:Wd)
def J7:Sy.Spec:=⟨J6,λ⟨i,W⟩=> [.v (.int .i64 i),.sl true 1 (W.aJ i.toNat) (iF (W.ready i.toNat)),.pt true 1 (λ_=> .fn 85 1 (aH [.pt true 1 (λ_=>eD W)]))],λ_=> [],λ⟨i,W⟩=>bW W/\kv W/\0<=i/\i<W.aT,λ⟨i,W⟩=> .v (.bool (!dC W i.toNat)),λ_=> [],
  λargs mem=>match args with| [a0,a1,a2]=>some ⟨av (a0),d' (bx (dc (bx a2 0) 0) 0)⟩|_=>none⟩
def UH:aQ:=⟨[],(J7).g,none⟩
def J8:J6->Prop:=λ⟨i,W⟩=>let a0:=Int.toNat i;let b0:=W.aJ a0;let c0:=W.ar;let d0:=W.aw;let e0:=W.az;let g0:=W.ba;let h0:=W.aP;let k0:=W.aT;True/\(((b0=b0/\(∀l0:Nat,l0<b0->True/\W.ready a0 l0=W.ready a0 l0))/\(tn 4 (((((((((((True/\W.aq=W.aq/\(∀o0:Nat,o0<W.aq->True/\W.aa o0=W.aa o0))/\c0=c0/\(∀q0:Nat,q0<c0->True/\W.kinds q0=W.kinds q0))/\d0=d0/\(∀r0:Nat,r0<d0->aD (W.af r0) (W.af r0)))/\e0=e0/\(∀u0:Nat,u0<e0->aE (W.tasks u0) (W.tasks u0)))/\g0=g0/\(∀v0:Nat,let w0:=W.ao v0;v0<g0->True/\w0=w0/\(∀x0:Nat,x0<w0->True/\W.lines v0 x0=W.lines v0 x0)))/\W.aN=W.aN/\(∀y0:Nat,y0<W.aN->True/\W.bits y0=W.bits y0))/\h0=h0/\(∀z0:Nat,z0<h0->True/\W.aF z0=W.aF z0))/\k0=k0/\(∀a1:Nat,let b1:=W.aJ a1;a1<k0->True/\b1=b1/\(∀c1:Nat,c1<b1->True/\W.ready a1 c1=W.ready a1 c1)))/\W.aG=W.aG/\(∀d1:Nat,let e1:=W.aA d1;d1<W.aG->True/\e1=e1/\(∀g1:Nat,g1<e1->ay (W.aj d1 g1) (W.aj d1 g1))))/\W.aI=W.aI/\(∀J:Nat,J<W.aI->True/\W.aM J=W.aM J))/\W.time=W.time)/\True/\i=i)/\True)/\True/\bW W/\0<=i/\i<=100000/\b0<=100000)/\dp b0 (λk1:Nat=>!dB W (W.ready a0 k1) (i/4) (i%4))=(!dC W a0)/\True
theorem S9:aL Tryz.prog aO 87 UH:=aW (.cons WC .nil) false Tryz.call87 Tryz.func87 (λ_=> []) (V:=J8) (λ_=>by kernel_rfl) λ⟨i,W⟩ hp=>by
  dsimp only[J7]at hp
  dsimp only[J8,tn,ah,ak,aE,aD,ay]
  obtain⟨hz,hm,i0,i1⟩:=hp
  obtain⟨I,rfl⟩: ∃I:Nat,i=I:=⟨i.toNat,by omega⟩
  simp only[aS,aZ,eq_self,implies_true,Bool.cond_self]
  have mF:=hz.ready
  have m_:=hz.c1
  have:=hm.2.1 I (by omega)
  refine⟨⟨hz,by omega,by omega⟩,?_⟩
  rw[show((I:Int)/4)=((I/4:Nat):Int) by omega,show((I:Int)%4)=((I%4:Nat):Int) by omega]
  unfold dp dC
  simp only[Bool.not_not]
structure LQ where
  (i:Int) (W:Wd)
def LR:Sy.Spec:=⟨LQ,λ⟨i,W⟩=> [.v (.int .i64 i),.v (.int .i64 (W.aa i.toNat)),.pt true 1 (λ_=>eD W)],λ_=> [],λ⟨i,W⟩=>bW W/\0<=i/\i<W.aq/\fp (W.aa i.toNat),λ⟨i,W⟩=> .v (.bool (!cV W i.toNat)),λ_=> [],
  λargs mem=>match args with| [a0,a1,a2]=>some ⟨av (a0),d' (bx a2 0)⟩|_=>none⟩
def WD:aQ:=⟨[],(LR).g,none⟩
def LS:LQ->Prop:=λ⟨i,W⟩=>let a0:Int:=i/16;let b0:=((W.ar:Nat):Int);let c0:=W.kinds (Int.toNat a0);let d0:=W.aa (Int.toNat i);let e0:=cond (cond (c0 !=3) (c0 !=4) false) true (d0==0);let g0:=!cV W (Int.toNat i);let h0:=c0==4;let k0:=dF BinOp.and IntKind.i64 d0 1023;let l0:=decide (b0<=k0);let o0:=cond (dF BinOp.andNot IntKind.i64 d0 1023 !=32768) true l0;let q0:=0<=k0/\k0<b0;let r0:=W.kinds (Int.toNat k0);let u0:=cond (dF BinOp.andNot IntKind.i64 d0 17407 !=32768) true l0;(0<=i/\(0:Int)<16/\ah a0=a0)/\(0<=a0/\a0<b0)/\(e0=true->false=g0/\True)/\(e0=false->(h0=true->(o0=false->q0)/\cond o0 true (r0 !=3)=g0/\True)/\(h0=false->(u0=false->q0)/\cond u0 true (r0 !=2)=g0/\True))
theorem Uz:aL Tryz.prog aO 90 WD:=aW .nil false Tryz.call90 Tryz.func90 (λ_=> []) (V:=LS) (λ_=>by kernel_rfl) λ⟨i,W⟩ hp=>by
  dsimp only[LR]at hp
  dsimp only[LS,tn,ah,ak,aE,aD,ay]
  obtain⟨hz,i0,i1,hw⟩:=hp
  obtain⟨I,rfl⟩: ∃I:Nat,i=I:=⟨i.toNat,by omega⟩
  simp only[aS,aZ,eq_self,implies_true,Bool.cond_self]
  have rQ:((I:Int)/16).toNat=I/16:=by omega
  rw[rQ]
  rw[Int.toNat_natCast]at hw
  unfold fp at hw
  have mF:=hz.aa
  have m_:=hz.k1
  have hmk:dF .and .i64 (W.aa I) 1023=W.aa I%1024:=zc 10 (x:=W.aa I) (by omega) (by decide)
  simp only[HV hw.1 hw.2,Rt hw.1 hw.2,hmk]
  have hy:0<=W.aa I%1024:=by omega
  have eN:cV W I=(W.kinds (I/16) !=3&&W.kinds (I/16) !=4||W.aa I==0||(bif W.kinds (I/16)==4 then W.aa I -W.aa I%1024==32768&&cm W (W.aa I%1024)==3 else(W.aa I -W.aa I%1024==32768||W.aa I -W.aa I%1024==49152)&&cm W (W.aa I%1024)==2)):=by
    simp only[cV];rw[Bool.or_comm (W.aa I==0)]
  refine⟨⟨by decide,by rw[IntKind.wrap_i64];omega⟩,by omega,λh=>by rw[eN,h];rfl,λh=>⟨λJ=>⟨λU=>?_,?_⟩,λJ=>⟨λU=>?_,?_⟩⟩⟩
  · simp only[Bool.or_eq_false_iff,decide_eq_false_iff_not]at U;omega
  · rw[eN,h,J,Bool.or_assoc,Ps hy (by decide)];simp only[bne,cond_true,Bool.false_or,Bool.not_and]
  · simp only[Bool.or_eq_false_iff,decide_eq_false_iff_not]at U;omega
  · rw[eN,h,J,Bool.or_assoc,Ps hy (by decide)]
    have ez:((W.aa I -W.aa I%1024 -(W.aa I -W.aa I%1024)/16384%2*16384) !=32768)=!(W.aa I -W.aa I%1024==32768||W.aa I -W.aa I%1024==49152):=by
      rw[bne];congr 1
      rw[Bool.eq_iff_iff]
      simp only[Bool.or_eq_true,beq_iff_eq]
      omega
    rw[ez];simp only[cond_false,Bool.false_or,Bool.not_and]
end Go.Proofs.YtmieeldmfehpoaaGreatDoor
