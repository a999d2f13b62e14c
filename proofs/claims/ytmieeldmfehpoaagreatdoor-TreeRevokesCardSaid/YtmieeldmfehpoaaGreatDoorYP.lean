/- Keys that are dropped: the program. -/
import Derived.Test.YtmieeldmfehpoaaGreatDoorYO
import Derived.Test.YtmieeldmfehpoaaGreatDoorYN
import Derived.Test.YtmieeldmfehpoaaGreatDoorYI
import Derived.Test.YtmieeldmfehpoaaGreatDoorYL
set_option linter.unusedVariables false
set_option linter.unusedSimpArgs false
set_option linter.unusedVariables false
set_option linter.unusedSimpArgs false
set_option maxRecDepth 100000
namespace Go.Proofs.YtmieeldmfehpoaaGreatDoor
open Go.RowKit Go.Sy
structure WG where
  (f:Int) (W:Wd)
def WH (N_:Nat):Sy.Spec:=⟨WG,λ⟨f,_⟩=> [.ptr 0 0 none 0 0,.v (.int .i64 f)],λ⟨_,W⟩=>bQ W,λ⟨f,W⟩=>JJ W/\cE W+1<=N_/\0<=f/\f<W.ar,λ_=> .tp 0 (aH []),λ⟨f,W⟩=>bQ (bc N_ W f),λargs mem=>match args with| [_,a1]=>some ⟨av a1,dL mem 0⟩|_=>none⟩
def yG (N_:Nat):aQ:=⟨[true],(WH N_).g,none⟩
def vC (n:Nat) (t:Nat->cp) (k b:Int):Bool:=dp n λi=>(t i).kind==k&&(t i).base==b
def Yt (z n:Nat) (p:Nat->Bool):bS where
  σ:=Nat
  rt:= []
  sh i:= [(z,.v (.int .i64 i))]
  mh _:= []
  inv i:=i<=n/\ ∀j,j<i->p j=false
  μ i:=n -i
  init:=0
theorem UR {n:Nat} {t:Nat->cp} {k b:Int}:decide (0<=cN n λi=>(t i).kind==k&&(t i).base==b)=vC n t k b:=by
  unfold vC
  cases h:dp n λi=>(t i).kind==k&&(t i).base==b with
  |true=>
   obtain⟨i,hi,he⟩:=kE.1 h
   have ai:=p_ (p:=λi=>(t i).kind==k&&(t i).base==b) hi he
   unfold cN
   rw[cD ai]
   exact decide_eq_true (Int.natCast_nonneg _)
  |false=>
   rw[mI (p:=λi=>(t i).kind==k&&(t i).base==b) λi hi=>ld.1 h i hi]
   rfl
def oc (W:Wd) (f k:Int):Cut where
  σ:=Nat
  rt:= [(3,0)]
  sh _:= [(0,bd 0),(3,bd 11),(4,.v (.int .i64 k))]
  mem _:=bQ (kz W f)++ [.cells [.v (.int .i64 f)]]
  inv _:=True
  dec _ _:=0
def OB (k:Nat) (W:Wd) (f:Int) (z:Nat):bS where
  σ:=Nat
  rt:= [(3,0)]
  sh i:= [(0,bd 0),(3,bd 11),(z,.v (.int .i64 i))]
  mh i:= [(4,.row 20 W.az (rF λq=>gZ (df k W f i q)))]
  inv i:=i<=W.az
  μ i:=W.az -i
  init:=0
def dR (n:Nat) (z:Nat):bS where
  σ:=Nat
  rt:= [(3,0)]
  sh i:= [(0,bd 0),(3,bd 11),(z,.v (.int .i64 i))]
  mh _:= []
  inv i:=i<=n
  μ i:=n -i
  init:=0
def nI (D:Wd->Int->Wd) (W:Wd) (f:Int) (z:Nat):bS where
  σ:=Nat
  rt:= [(3,0)]
  sh i:= [(0,bd 0),(3,bd 11),(z,.v (.int .i64 (15 -i)))]
  mh i:=A7 (gm D W f i)
  inv i:=i<=16
  μ i:=16 -i
  init:=0
def nJ (W:Wd) (f:Int):bS where
  σ:=Nat
  rt:= [(3,0)]
  sh i:= [(0,bd 0),(3,bd 11),(179,.aV 5 0 (some (f.toNat,0)) 0 (W.ao f.toNat)),(181,.v (.int .i64 i))]
  mh i:= [(4,.row 20 W.az (rF λq=>gZ (cz 8 W f i q)))]
  inv i:=i<=W.ao f.toNat
  μ i:=W.ao f.toNat -i
  init:=0
def lM (W:Wd) (f:Int) (s i:Nat):bu:=bif Nat.blt i s then mD 7 f (cz 8 W f (W.ao f.toNat) i)else cz 8 W f (W.ao f.toNat) i
theorem OC {o f:Int} (h:0<=f):((bif o==f then -1 else o)==f)=false:=by
  cases e:o==f
  · exact e
  · exact beq_eq_false_iff_ne.2 (by show(-1:Int)≠f;omega)
theorem WI {G:Wd->Int->Wd} {W:Wd} {s:Int} (h:((W.af s.toNat).kind !=0)=false):b_ G W s=W:=by
  unfold b_
  cases e:bR W s==0
  · rfl
  · exact absurd (lW e).2 (by simpa using h)
theorem Yu {W:Wd} {f:Int} {s i:Nat} (hi:i<W.az):(cz 8 W f s i).helper=(W.tasks i).helper:=by
  unfold cz
  rw[dd hi]
  cases fF s (W.lines f.toNat) i<;>rfl
theorem qP {W:Wd} {f:Int} {s i:Nat} (h:i<s):lM W f s i=mD 7 f (cz 8 W f (W.ao f.toNat) i):=by unfold lM;rw[cD h];rfl
theorem oS {W:Wd} {f:Int} {s i:Nat} (h:s<=i):lM W f s i=cz 8 W f (W.ao f.toNat) i:=by unfold lM;rw[eI h];rfl
def Yv (W:Wd) (f:Int) (z:Nat):bS where
  σ:=Nat
  rt:= [(3,0)]
  sh i:= [(0,bd 0),(3,bd 11),(z,.v (.int .i64 i))]
  mh i:= [(4,.row 20 W.az (rF λq=>gZ (lM W f i q)))]
  inv i:=i<=W.az
  μ i:=W.az -i
  init:=0
structure Pt where
  (s:cp) (k b:Int)
def ZI:Sy.Spec:=⟨Pt,λ⟨s,k,b⟩=> [.ag 7 (aH (kx s)),.pt true 6 (aH [.v (.int .i64 k),.v (.int .i64 b)])],λ_=> [],λ_=>True,λ⟨s,k,b⟩=> .v (.bool (s.kind==k&&s.base==b)),λ_=> [],
  λargs mem=>match args with| [a0,a1]=>some ⟨rf (cy a0),av (bx a1 0),av (bx a1 1)⟩|_=>none⟩
def ZJ:aQ:=⟨[],(ZI).g,none⟩
def Pu:Pt->Prop:=λ⟨s,k,b⟩=>True/\cond (s.kind==k) (s.base==b) false=(s.kind==k&&s.base==b)/\True
theorem Yw:aL Tryz.prog aO 54 ZJ:=aW .nil false Tryz.call54 Tryz.func54 (λ_=> []) (V:=Pu) (λ_=>by kernel_rfl) λ⟨s,k,b⟩ hp=>by
  dsimp only[Pu,tn,ah,ak,aE,aD,ay]
  simp only[aS,aZ,eq_self,implies_true,Bool.cond_self]
  try simp only[cu]
structure zX where
  (n:Nat) (t:Nat->cp) (k b:Int)
def E6:Sy.Spec:=⟨zX,λ⟨n,t,k,b⟩=> [.sl true 7 n (rF λi=>kx (t i)),.fn 54 1 (aH [.pt true 6 (aH [.v (.int .i64 k),.v (.int .i64 b)])])],λ_=> [],λ⟨n,_,_,_⟩=>n<=100000,λ⟨n,t,k,b⟩=> .v (.int .i64 (cN n λi=>(t i).kind==k&&(t i).base==b)),λ_=> [],
  λargs mem=>match args with| [a0,a1]=>(match fN 54 a1 with|true=>some ⟨bO a0,λi=>rf (λj=>bF a0 i j),av (bx (dc a1 0) 0),av (bx (dc a1 0) 1)⟩|false=>none)|_=>none⟩
def ZK:aQ:=⟨[],(E6).g,none⟩
def Pv:zX->Prop:=λ⟨n,t,k,b⟩=>let a0:=(n:Int);let b0:=cN n (λc0:Nat=>(t c0).kind==k&&(t c0).base==b);a0<=9223372036854775807->0=((0:Nat):Int)/\True/\(0<=n/\(∀d0:Nat,d0<0->((t d0).kind==k&&(t d0).base==b)=false))/\(∀e0:Nat,let g0:=(e0:Int);let h0:=decide (g0<a0);let k0:=t (Int.toNat g0);let l0:=k0.kind==k&&k0.base==b;let o0:Int:=g0+1;e0<=n/\(∀q0:Nat,q0<e0->((t q0).kind==k&&(t q0).base==b)=false)->(h0=true->(0<=g0/\g0<a0)/\((aD k0 k0/\((((((True/\k=k)/\b=b)/\True)/\True)/\True)/\True)/\True)/\True/\True)/\(l0=true->g0=b0/\True)/\(l0=false->ah o0=o0/\(∃r0:Nat,o0=(r0:Int)/\True/\(r0<=n/\(∀u0:Nat,u0<r0->((t u0).kind==k&&(t u0).base==b)=false))/\n-r0<n-e0)))/\(h0=false->(-1)=b0/\True))
theorem Yx:aL Tryz.prog aO 100 ZK:=aW (.cons Yw .nil) false Tryz.call100 Tryz.func100 (λ⟨n,t,k,b⟩=> [.inv (Yt 8 n λi=>(t i).kind==k&&(t i).base==b)]) (V:=Pv) (λ_=>by kernel_rfl) λ⟨n,t,k,b⟩ hp=>by
  dsimp only[E6]at hp
  dsimp only[Pv,tn,ah,ak,aE,aD,ay]
  simp only[aS,aZ,eq_self,implies_true,Bool.cond_self]
  try simp only[cu]
  refineλ_ s hs=>⟨λh=>?_,λh=>?_⟩
  · have ai:=aY h
    exact⟨by omega,λh=>(qc (p:=λi=>(t i).kind==k&&(t i).base==b) hs.2 h ai).symm,λh=>⟨bM (by omega) (by omega),bZ ⟨⟨by omega,dT (p:=λi=>(t i).kind==k&&(t i).base==b) hs.2 h⟩,by omega⟩⟩⟩
  · have bo:=bD h
    obtain rfl:s=n:=by omega
    exact(mI (p:=λi=>(t i).kind==k&&(t i).base==b) hs.2).symm
structure zY where
  (n:Nat) (t:Nat->cp) (k b:Int)
def E7:Sy.Spec:=⟨zY,λ⟨n,t,k,b⟩=> [.sl true 7 n (rF λi=>kx (t i)),.fn 54 1 (aH [.pt true 6 (aH [.v (.int .i64 k),.v (.int .i64 b)])])],λ_=> [],λ⟨n,_,_,_⟩=>n<=100000,λ⟨n,t,k,b⟩=> .v (.bool (vC n t k b)),λ_=> [],
  λargs mem=>match args with| [a0,a1]=>(match fN 54 a1 with|true=>some ⟨bO a0,λi=>rf (λj=>bF a0 i j),av (bx (dc a1 0) 0),av (bx (dc a1 0) 1)⟩|false=>none)|_=>none⟩
def ZL:aQ:=⟨[],(E7).g,none⟩
def Pw:zY->Prop:=λ⟨n,t,k,b⟩=>(((n=n/\(∀a0:Nat,a0<n->aD (t a0) (t a0)))/\(True/\(((((True/\k=k)/\b=b)/\True)/\True)/\True)/\True)/\True)/\True/\E6.match_1 (λb0:zX=>Prop) (zX.mk n t k b) (λc0:Nat=>λd0:∀e0:Nat,cp=>λg0:Int=>λh0:Int=>c0<=100000))/\decide (0<=cN n (λk0:Nat=>(t k0).kind==k&&(t k0).base==b))=vC n t k b/\True
theorem Yy:aL Tryz.prog aO 53 ZL:=aW (.cons Yx .nil) false Tryz.call53 Tryz.func53 (λ_=> []) (V:=Pw) (λ_=>by kernel_rfl) λ⟨n,t,k,b⟩ hp=>by
  dsimp only[E7]at hp
  dsimp only[Pw,tn,ah,ak,aE,aD,ay]
  simp only[aS,aZ,eq_self,implies_true,Bool.cond_self]
  try simp only[cu]
  exact⟨hp,UR⟩
structure J' where
  (s:Int) (W:Wd)
def Ka (N_:Nat):Sy.Spec:=⟨J',λ⟨s,_⟩=> [.ptr 0 0 none 0 0,.v (.int .i64 s)],λ⟨_,W⟩=>bQ W,λ⟨_,W⟩=>JJ W/\cE W<=N_,λ⟨s,W⟩=> .er 35 79 (bR W s) (-1),λ⟨s,W⟩=>bQ (b_ (bc N_) W s),
  λargs mem=>match args with| [a0,a1]=>some ⟨av (a1),dL mem 0⟩|_=>none⟩
def kF (N_:Nat):aQ:=⟨[true],(Ka N_).g,none⟩
def Kb (N_:Nat):J'->Prop:=λ⟨s,W⟩=>let a0:=W.aq;let b0:=W.ar;let c0:=W.aw;let d0:=c0=c0;let e0:=W.az;let g0:=W.ba;let h0:=W.aN;let k0:=W.aP;let l0:=W.aT;let o0:=W.aG;let q0:=W.aI;let r0:=bR (Wd.mk a0 (λu0:Nat=>W.aa (0+u0)) b0 (λv0:Nat=>W.kinds (0+v0)) c0 (λw0:Nat=>W.af (0+w0)) e0 (λx0:Nat=>W.tasks (0+x0)) g0 (λy0:Nat=>W.ao (0+y0)) (λz0:Nat=>λa1:Nat=>W.lines (0+z0) (0+a1)) h0 (λb1:Nat=>W.bits (0+b1)) k0 (λc1:Nat=>W.aF (0+c1)) l0 (λd1:Nat=>W.aJ (0+d1)) (λe1:Nat=>λg1:Nat=>W.ready (0+e1) (0+g1)) o0 (λJ:Nat=>W.aA (0+J)) (λk1:Nat=>λl1:Nat=>W.aj (0+k1) (0+l1)) q0 (λo1:Nat=>W.aM (0+o1)) W.time) s;let q1:=r0 !=0;let r1:=b_ (bc N_) W s;let u1:=0<=s/\s<(c0:Int);let v1:=SV.ptr 0 0 none 0 0=SV.ptr 0 0 none 0 0;let w1:=0+Int.toNat s;let x1:=W.af w1;let y1:=x1.from_;let z1:=false=false;let a2:=x1.kind;let b2:=a2 !=1;let c2:=x1.base;let d2:=c2=c2;let e2:=cond b2 (!vC c0 (λg2:Nat=>let U:=Nat.beq (0+g2) w1;let k2:=cd s y1 (W.af (0+g2));cp.mk (cond U 0 k2.kind) (cond U 0 k2.base) (cond U 0 k2.len) (cond U 0 k2.mark) (cond U 0 k2.cQ) (cond U 0 k2.bJ) (cond U (-1) k2.from_)) a2 c2) false;let l2:={W with af:=λo2:Nat=>let q2:=Nat.beq o2 w1;let r2:=cd s y1 (W.af o2);cp.mk (cond q2 0 r2.kind) (cond q2 0 r2.base) (cond q2 0 r2.len) (cond q2 0 r2.mark) (cond q2 0 r2.cQ) (cond q2 0 r2.bJ) (cond q2 (-1) r2.from_)};let u2:=bR W s=0/\((-1):Int)=(-1);(((((((((((((True/\a0=a0/\(∀v2:Nat,
    v2<a0->True/\W.aa (0+v2)=W.aa (0+v2)))/\b0=b0/\(∀w2:Nat,let x2:=W.kinds (0+w2);w2<b0->True/\x2=x2))/\d0/\(∀y2:Nat,let z2:=W.af (0+y2);y2<c0->aD z2 z2))/\e0=e0/\(∀a3:Nat,let b3:=W.tasks (0+a3);a3<e0->aE b3 b3))/\g0=g0/\(∀c3:Nat,let d3:=W.ao (0+c3);c3<g0->True/\d3=d3/\(∀e3:Nat,let g3:=W.lines (0+c3) (0+e3);e3<d3->True/\g3=g3)))/\h0=h0/\(∀h3:Nat,h3<h0->True/\W.bits (0+h3)=W.bits (0+h3)))/\k0=k0/\(∀k3:Nat,let l3:=W.aF (0+k3);k3<k0->True/\l3=l3))/\l0=l0/\(∀o3:Nat,let q3:=W.aJ (0+o3);o3<l0->True/\q3=q3/\(∀r3:Nat,let u3:=W.ready (0+o3) (0+r3);r3<q3->True/\u3=u3)))/\o0=o0/\(∀v3:Nat,let w3:=W.aA (0+v3);v3<o0->True/\w3=w3/\(∀x3:Nat,let y3:=W.aj (0+v3) (0+x3);x3<w3->ay y3 y3)))/\q0=q0/\(∀z3:Nat,z3<q0->True/\W.aM (0+z3)=W.aM (0+z3)))/\W.time=W.time)/\s=s/\True)/\True/\True)/\(q1=true->(r0=bR W s/\((-1):Int)=(-1))/\ak W r1 True)/\(q1=false->u1/\True/\tn 5 True/\u1/\((v1/\s=s/\y1=y1/\True)/\ak W W True/\Ed.match_1 (λa4:zk=>Prop) (zk.mk s y1 W) (λb4:Int=>λc4:Int=>λd4:Wd=>d4.aw<=100000))/\u1/\((∀e4:Nat,z1)/\(∀g4:Nat,z1)/\(∀h4:Nat,z1)/\(∀k4:Nat,z1)/\(∀l4:Nat,z1)/\(∀o4:Nat,z1)/\(∀q4:Nat,z1))/\(b2=true->((d0/\(∀r4:Nat,let u4:=Nat.beq (0+r4) w1;let v4:=cd s y1 (W.af (0+r4));let w4:=cp.mk (cond u4 0 v4.kind) (cond u4 0 v4.base) (cond u4 0 v4.len) (cond u4 0 v4.mark) (cond u4 0 v4.cQ) (cond u4 0 v4.bJ) (cond u4 (-1) v4.from_);r4<c0->aD w4 w4))/\(True/\(((((True/\a2=a2)/\d2)/\True)/\True)/\True)/\True)/\True)/\True/\E7.match_1 (λx4:zY=>Prop) (zY.mk c0 (λy4:Nat=>let z4:=Nat.beq (0+y4) w1;
    let a5:=cd s y1 (W.af (0+y4));cp.mk (cond z4 0 a5.kind) (cond z4 0 a5.base) (cond z4 0 a5.len) (cond z4 0 a5.mark) (cond z4 0 a5.cQ) (cond z4 0 a5.bJ) (cond z4 (-1) a5.from_)) a2 c2) (λb5:Nat=>λc5:∀d5:Nat,cp=>λe5:Int=>λg5:Int=>b5<=100000))/\(e2=true->((v1/\d2/\True)/\ak l2 l2 True/\JJ l2/\cE l2+1<=N_/\0<=c2/\c2<(b0:Int))/\u2/\ak (bc N_ l2 c2) r1 True)/\(e2=false->u2/\ak l2 r1 True))
set_option maxHeartbeats 1000000 in
theorem IQ (N_:Nat) (h_:aL Tryz.prog aO 55 (yG N_)):aL Tryz.prog aO 31 (kF N_):=aW (.cons CQ (.cons V9 (.cons Yy (.cons h_ .nil)))) false Tryz.call31 Tryz.func31 (λ_=> []) (V:=Kb N_) (λ_=>by kernel_rfl) λ⟨s,W⟩ hp=>by
  dsimp only[Ka]at hp
  dsimp only[Kb,tn,ah,ak,aE,aD,ay]
  simp only[aS,aZ,eq_self,implies_true,Bool.cond_self]
  try simp only[cu]
  obtain⟨hJ,hn⟩:=hp
  have z1:=hJ.w.i.z.af
  have z2:=hJ.w.i.z.k1
  have eS:(λj=>(⟨(bif Nat.beq j s.toNat then 0 else(cd s (W.af s.toNat).from_ (W.af j)).kind),(bif Nat.beq j s.toNat then 0 else(cd s (W.af s.toNat).from_ (W.af j)).base),(bif Nat.beq j s.toNat then 0 else(cd s (W.af s.toNat).from_ (W.af j)).len),(bif Nat.beq j s.toNat then 0 else(cd s (W.af s.toNat).from_ (W.af j)).mark),(bif Nat.beq j s.toNat then 0 else(cd s (W.af s.toNat).from_ (W.af j)).cQ),(bif Nat.beq j s.toNat then 0 else(cd s (W.af s.toNat).from_ (W.af j)).bJ),(bif Nat.beq j s.toNat then -1 else(cd s (W.af s.toNat).from_ (W.af j)).from_)⟩:cp))=(dn W s).af:=funext AK
  refine⟨λh=>?_,λh=>?_⟩
  · have e:b_ (bc N_) W s=W:=by unfold b_;rw[A6 h];rfl
    simp only[e]
    repeat' (first|exact trivial|exact bG rfl|exact dM rfl|exact cL rfl|rfl|refine And.intro ?_ ?_|intro _)
  · have hs:=tV h
    have he:=eq_of_beq hs
    obtain⟨⟨s0,s1⟩,hk⟩:=lW hs
    rw[eS]
    simp only[LU]
    refine⟨⟨s0,s1⟩,⟨s0,s1⟩,by omega,⟨s0,s1⟩,λ_=>by omega,λh3=>?_,λh3=>?_⟩
    · rw[Bool.and_eq_true,Bool.not_eq_true']at h3
      obtain⟨h4,h5⟩:=h3
      have e:b_ (bc N_) W s=bc N_ (dn W s) (W.af s.toNat).base:=by
        unfold b_
        rw[hs,show mX (dn W s) (W.af s.toNat)=false from h5,show((W.af s.toNat).kind==1)=false by simpa [bne]using h4];rfl
      obtain⟨b1,b2⟩:=yY hJ.w.i hs
      have hc:=yy hs
      simp only[e]
      refine⟨⟨(yZ hJ hs).1,by omega,b1,b2⟩,?_⟩
      repeat' (first|exact trivial|exact he|exact he.symm|exact bG rfl|exact dM rfl|exact cL rfl|rfl|refine And.intro ?_ ?_|intro _)
    · have e:b_ (bc N_) W s=dn W s:=by
        unfold b_
        rw[hs]
        have:((W.af s.toNat).kind==1||mX (dn W s) (W.af s.toNat))=true:=by
          revert h3
          show((W.af s.toNat).kind !=1&&!mX (dn W s) (W.af s.toNat))=false->_
          unfold bne
          cases (W.af s.toNat).kind==1<;>cases mX (dn W s) (W.af s.toNat)<;>simp
        rw[this];rfl
      simp only[e]
      repeat' (first|exact trivial|exact he|exact he.symm|exact FE|exact bG rfl|exact dM rfl|exact cL rfl|rfl|refine And.intro ?_ ?_|intro _)
structure LV where
  (f:Int) (W:Wd)
def qd (N_:Nat):Sy.Spec:=⟨LV,λ⟨f,_⟩=> [.ptr 0 0 none 0 0,.v (.int .i64 f)],λ⟨_,W⟩=>bQ W,λ⟨f,W⟩=>JJ W/\cE W<=N_/\0<=f/\f<W.ar/\W.kinds f.toNat=0,λ_=> .tp 0 (aH []),λ⟨f,W⟩=>bQ (bc (N_+1) W f),
  λargs mem=>match args with| [a0,a1]=>some ⟨av (a1),dL mem 0⟩|_=>none⟩
def C8 (N_:Nat):LV->Prop:=λ⟨f,W⟩=>let a0:=0<=f/\f<((W.ar:Nat):Int);let b0:={W with kinds:=cj W.kinds (Int.toNat f) 0};tn 6 (a0/\tn 5 (a0/\(∀c0:Nat,false=false)/\SV.ptr 0 0 none 0 0=SV.ptr 0 0 none 0 0/\SV.ptr (0+1+1+1+1+1+1+1+1+1+1+1) 0 none 0 0=SV.ptr 11 0 none 0 0/\W.kinds (0+Int.toNat f)=0/\ak {W with kinds:=λd0:Nat=>cond (Nat.beq d0 (0+Int.toNat f)) 0 (W.kinds d0)} b0 ((True/\f=f)/\True)/\True)/\(∀e0:Nat,True->True/\ak b0 (bc (N_+1) W f) True))
set_option maxHeartbeats 1000000 in
theorem UI (N_:Nat) (h_:aL Tryz.prog aO 31 (kF N_)): ∀x,(qd N_).pre x->ed Tryz.prog aO 55 ((qd N_).args x) ((qd N_).mem x) ((qd N_).res x) ((qd N_).bf x):=λx hp=>gG (.cons mH (.cons nz (.cons mQ (.cons nB (.cons h_ .nil))))) false Tryz.func55 ((λ⟨f,W⟩=> [.gJ [5,6,8,16,28,40,41],.cut 3 (oc W f 0),.inv (dR W.az 40),.inv (dR W.az 71),.inv (nI (b_ (bc N_)) W f 7),.inv (dR W.az 142),.inv (nJ W f),.inv (dR W.az 217)]) x) (V:=C8 N_ x) (by kernel_rfl)<|(λ⟨f,W⟩ hp=>by
  dsimp only[qd]at hp
  dsimp only[C8,tn,ah,ak,aE,aD,ay]
  simp only[aS,aZ,eq_self,implies_true,Bool.cond_self]
  try simp only[cu]
  obtain⟨hJ,hn,f0,f1,hk⟩:=hp
  have z:=hJ.w.i.z
  have z1:=z.aa
  have z2:=z.af
  have z3:=z.tasks
  have z4:=z.k1
  have z5:=z.lines
  have z6:=z.bits
  refine⟨⟨f0,f1⟩,⟨⟨f0,f1⟩,hk,λ_ _=>rfl⟩,λ_ _=>?_⟩
  have e:bc (N_+1) W f=kz W f:=uW (.inl hk)
  simp only[e]
  repeat' (first|exact trivial|exact bG rfl|exact dM rfl|exact cL rfl|rfl|refine And.intro ?_ ?_|intro _)
  : ∀x,(qd N_).pre x->C8 N_ x) x hp
structure LW where
  (f:Int) (W:Wd)
def qe (N_:Nat):Sy.Spec:=⟨LW,λ⟨f,_⟩=> [.ptr 0 0 none 0 0,.v (.int .i64 f)],λ⟨_,W⟩=>bQ W,λ⟨f,W⟩=>JJ W/\cE W<=N_/\0<=f/\f<W.ar/\W.kinds f.toNat=1,λ_=> .tp 0 (aH []),λ⟨f,W⟩=>bQ (bc (N_+1) W f),
  λargs mem=>match args with| [a0,a1]=>some ⟨av (a1),dL mem 0⟩|_=>none⟩
def C9 (N_:Nat):LW->Prop:=λ⟨f,W⟩=>let a0:=0<=f/\f<((W.ar:Nat):Int);let b0:={W with kinds:=cj W.kinds (Int.toNat f) 0};tn 6 (a0/\tn 5 (a0/\(∀c0:Nat,false=false)/\SV.ptr 0 0 none 0 0=SV.ptr 0 0 none 0 0/\SV.ptr (0+1+1+1+1+1+1+1+1+1+1+1) 0 none 0 0=SV.ptr 11 0 none 0 0/\W.kinds (0+Int.toNat f)=1/\ak {W with kinds:=λd0:Nat=>cond (Nat.beq d0 (0+Int.toNat f)) 0 (W.kinds d0)} b0 ((True/\f=f)/\True)/\True)/\(∀e0:Nat,True->True/\ak b0 (bc (N_+1) W f) True))
set_option maxHeartbeats 1000000 in
theorem UJ (N_:Nat) (h_:aL Tryz.prog aO 31 (kF N_)): ∀x,(qe N_).pre x->ed Tryz.prog aO 55 ((qe N_).args x) ((qe N_).mem x) ((qe N_).res x) ((qe N_).bf x):=λx hp=>gG (.cons mH (.cons nz (.cons mQ (.cons nB (.cons h_ .nil))))) false Tryz.func55 ((λ⟨f,W⟩=> [.gJ [5,6,8,16,28,40,41],.cut 3 (oc W f 1),.inv (dR W.az 40),.inv (dR W.az 71),.inv (nI (b_ (bc N_)) W f 7),.inv (dR W.az 142),.inv (nJ W f),.inv (dR W.az 217)]) x) (V:=C9 N_ x) (by kernel_rfl)<|(λ⟨f,W⟩ hp=>by
  dsimp only[qe]at hp
  dsimp only[C9,tn,ah,ak,aE,aD,ay]
  simp only[aS,aZ,eq_self,implies_true,Bool.cond_self]
  try simp only[cu]
  obtain⟨hJ,hn,f0,f1,hk⟩:=hp
  have z:=hJ.w.i.z
  have z1:=z.aa
  have z2:=z.af
  have z3:=z.tasks
  have z4:=z.k1
  have z5:=z.lines
  have z6:=z.bits
  refine⟨⟨f0,f1⟩,⟨⟨f0,f1⟩,hk,λ_ _=>rfl⟩,λ_ _=>?_⟩
  have e:bc (N_+1) W f=kz W f:=uW (.inr hk)
  simp only[e]
  repeat' (first|exact trivial|exact bG rfl|exact dM rfl|exact cL rfl|rfl|refine And.intro ?_ ?_|intro _)
  : ∀x,(qe N_).pre x->C9 N_ x) x hp
structure LX where
  (f:Int) (W:Wd)
def qf (N_:Nat):Sy.Spec:=⟨LX,λ⟨f,_⟩=> [.ptr 0 0 none 0 0,.v (.int .i64 f)],λ⟨_,W⟩=>bQ W,λ⟨f,W⟩=>JJ W/\cE W<=N_/\0<=f/\f<W.ar/\W.kinds f.toNat=2,λ_=> .tp 0 (aH []),λ⟨f,W⟩=>bQ (bc (N_+1) W f),
  λargs mem=>match args with| [a0,a1]=>some ⟨av (a1),dL mem 0⟩|_=>none⟩
def C_ (N_:Nat):LX->Prop:=λ⟨f,W⟩=>let a0:=0<=f/\f<((W.ar:Nat):Int);let b0:=SV.ptr 0 0 none 0 0=SV.ptr 0 0 none 0 0;let c0:=cj W.kinds (Int.toNat f) 0;let d0:={W with kinds:=c0};let e0:=kz W f;let g0:=fI e0 f;let h0:=cb W.aq g0;tn 6 (a0/\tn 5 (a0/\(∀k0:Nat,false=false)/\b0/\SV.ptr (0+1+1+1+1+1+1+1+1+1+1+1) 0 none 0 0=SV.ptr 11 0 none 0 0/\W.kinds (0+Int.toNat f)=2/\ak {W with kinds:=λl0:Nat=>cond (Nat.beq l0 (0+Int.toNat f)) 0 (W.kinds l0)} d0 ((True/\f=f)/\True)/\True)/\(∀o0:Nat,True->((b0/\f=f/\True)/\ak d0 d0 True/\yA.match_1 (λq0:sH=>Prop) (sH.mk f e0) (λr0:Int=>λu0:Wd=>fJ u0))/\True/\ak {W with aa:=g0,kinds:=c0,aA:=eE h0 e0,aj:=dA h0 e0} (bc (N_+1) W f) True))
set_option maxHeartbeats 1000000 in
theorem UK (N_:Nat) (h_:aL Tryz.prog aO 31 (kF N_)): ∀x,(qf N_).pre x->ed Tryz.prog aO 55 ((qf N_).args x) ((qf N_).mem x) ((qf N_).res x) ((qf N_).bf x):=λx hp=>gG (.cons mH (.cons nz (.cons mQ (.cons nB (.cons h_ .nil))))) false Tryz.func55 ((λ⟨f,W⟩=> [.gJ [5,6,8,16,28,40,41],.cut 3 (oc W f 2),.inv (dR W.az 40),.inv (dR W.az 71),.inv (nI (b_ (bc N_)) W f 7),.inv (dR W.az 142),.inv (nJ W f),.inv (dR W.az 217)]) x) (V:=C_ N_ x) (by kernel_rfl)<|(λ⟨f,W⟩ hp=>by
  dsimp only[qf]at hp
  dsimp only[C_,tn,ah,ak,aE,aD,ay]
  simp only[aS,aZ,eq_self,implies_true,Bool.cond_self]
  try simp only[cu]
  obtain⟨hJ,hn,f0,f1,hk⟩:=hp
  have z:=hJ.w.i.z
  have z1:=z.aa
  have z2:=z.af
  have z3:=z.tasks
  have z4:=z.k1
  have z5:=z.lines
  have z6:=z.bits
  refine⟨⟨f0,f1⟩,⟨⟨f0,f1⟩,hk,λ_ _=>rfl⟩,λ_ _=>?_⟩
  have e:bc (N_+1) W f=pM W f:=uU (.inl hk)
  simp only[e]
  refine⟨⟨⟨z.k0,z.k1,z.c0,z.c1,z.aa,z.af,z.tasks,z.lines,z.bits,z.ready,z.aj,z.d0,z.d1,z.t0,z.t1⟩,hJ.w.i.aa,hJ.w.i.tl,hJ.w.pg⟩,?_⟩
  repeat' (first|exact trivial|exact bG rfl|exact dM rfl|exact cL rfl|rfl|refine And.intro ?_ ?_|intro _)
  : ∀x,(qf N_).pre x->C_ N_ x) x hp
structure LY where
  (f:Int) (W:Wd)
def qg (N_:Nat):Sy.Spec:=⟨LY,λ⟨f,_⟩=> [.ptr 0 0 none 0 0,.v (.int .i64 f)],λ⟨_,W⟩=>bQ W,λ⟨f,W⟩=>JJ W/\cE W<=N_/\0<=f/\f<W.ar/\W.kinds f.toNat=3,λ_=> .tp 0 (aH []),λ⟨f,W⟩=>bQ (bc (N_+1) W f),
  λargs mem=>match args with| [a0,a1]=>some ⟨av (a1),dL mem 0⟩|_=>none⟩
def C' (N_:Nat):LY->Prop:=λ⟨f,W⟩=>let a0:=0<=f/\f<((W.ar:Nat):Int);let b0:=SV.ptr 0 0 none 0 0=SV.ptr 0 0 none 0 0;let c0:=cj W.kinds (Int.toNat f) 0;let d0:={W with kinds:=c0};let e0:=kz W f;let g0:=fI e0 f;let h0:=cb W.aq g0;tn 6 (a0/\tn 5 (a0/\(∀k0:Nat,false=false)/\b0/\SV.ptr (0+1+1+1+1+1+1+1+1+1+1+1) 0 none 0 0=SV.ptr 11 0 none 0 0/\W.kinds (0+Int.toNat f)=3/\ak {W with kinds:=λl0:Nat=>cond (Nat.beq l0 (0+Int.toNat f)) 0 (W.kinds l0)} d0 ((True/\f=f)/\True)/\True)/\(∀o0:Nat,True->((b0/\f=f/\True)/\ak d0 d0 True/\yA.match_1 (λq0:sH=>Prop) (sH.mk f e0) (λr0:Int=>λu0:Wd=>fJ u0))/\True/\ak {W with aa:=g0,kinds:=c0,aA:=eE h0 e0,aj:=dA h0 e0} (bc (N_+1) W f) True))
set_option maxHeartbeats 1000000 in
theorem UL (N_:Nat) (h_:aL Tryz.prog aO 31 (kF N_)): ∀x,(qg N_).pre x->ed Tryz.prog aO 55 ((qg N_).args x) ((qg N_).mem x) ((qg N_).res x) ((qg N_).bf x):=λx hp=>gG (.cons mH (.cons nz (.cons mQ (.cons nB (.cons h_ .nil))))) false Tryz.func55 ((λ⟨f,W⟩=> [.gJ [5,6,8,16,28,40,41],.cut 3 (oc W f 3),.inv (dR W.az 40),.inv (dR W.az 71),.inv (nI (b_ (bc N_)) W f 7),.inv (dR W.az 142),.inv (nJ W f),.inv (dR W.az 217)]) x) (V:=C' N_ x) (by kernel_rfl)<|(λ⟨f,W⟩ hp=>by
  dsimp only[qg]at hp
  dsimp only[C',tn,ah,ak,aE,aD,ay]
  simp only[aS,aZ,eq_self,implies_true,Bool.cond_self]
  try simp only[cu]
  obtain⟨hJ,hn,f0,f1,hk⟩:=hp
  have z:=hJ.w.i.z
  have z1:=z.aa
  have z2:=z.af
  have z3:=z.tasks
  have z4:=z.k1
  have z5:=z.lines
  have z6:=z.bits
  refine⟨⟨f0,f1⟩,⟨⟨f0,f1⟩,hk,λ_ _=>rfl⟩,λ_ _=>?_⟩
  have e:bc (N_+1) W f=pM W f:=uU (.inr hk)
  simp only[e]
  refine⟨⟨⟨z.k0,z.k1,z.c0,z.c1,z.aa,z.af,z.tasks,z.lines,z.bits,z.ready,z.aj,z.d0,z.d1,z.t0,z.t1⟩,hJ.w.i.aa,hJ.w.i.tl,hJ.w.pg⟩,?_⟩
  repeat' (first|exact trivial|exact bG rfl|exact dM rfl|exact cL rfl|rfl|refine And.intro ?_ ?_|intro _)
  : ∀x,(qg N_).pre x->C' N_ x) x hp
structure LZ where
  (f:Int) (W:Wd)
def qh (N_:Nat):Sy.Spec:=⟨LZ,λ⟨f,_⟩=> [.ptr 0 0 none 0 0,.v (.int .i64 f)],λ⟨_,W⟩=>bQ W,λ⟨f,W⟩=>JJ W/\cE W<=N_/\0<=f/\f<W.ar/\W.kinds f.toNat=4,λ_=> .tp 0 (aH []),λ⟨f,W⟩=>bQ (bc (N_+1) W f),
  λargs mem=>match args with| [a0,a1]=>some ⟨av (a1),dL mem 0⟩|_=>none⟩
def Da (N_:Nat):LZ->Prop:=λ⟨f,W⟩=>let a0:=0<=f/\f<((W.ar:Nat):Int);let b0:=SV.ptr 0 0 none 0 0=SV.ptr 0 0 none 0 0;let c0:=SV.ptr (0+1+1+1+1+1+1+1+1+1+1+1) 0 none 0 0=SV.ptr 11 0 none 0 0;let d0:=cj W.kinds (Int.toNat f) 0;let e0:={W with kinds:=d0};let g0:=(True/\f=f)/\True;let h0:=W.az;let k0:=(h0:Int);tn 6 (a0/\tn 5 (a0/\(∀l0:Nat,false=false)/\b0/\c0/\W.kinds (0+Int.toNat f)=4/\ak {W with kinds:=λo0:Nat=>cond (Nat.beq o0 (0+Int.toNat f)) 0 (W.kinds o0)} e0 g0/\True)/\(∀q0:Nat,True->k0<=9223372036854775807->b0/\c0/\0=((0:Nat):Int)/\ak e0 {W with kinds:=d0,tasks:=df 4 W f 0} g0/\0<=h0/\(∀u0:Nat,let v0:=(u0:Int);let w0:=decide (v0<k0);let x0:=0<=v0/\v0<k0;let y0:=0+Int.toNat v0;let z0:=(df 4 W f u0 y0).space==f;let a1:Int:=v0+1;let b1:=ah a1=a1;let c1:=df 4 W f u0;let d1:={W with kinds:=d0,tasks:=c1};u0<=h0->(w0=true->tn 5 (x0/\tn 3 ((z0=true->x0/\(∀e1:Nat,false=false)/\b1/\(∃g1:Nat,b0/\c0/\a1=(g1:Int)/\ak {W with kinds:=d0,tasks:=λJ:Nat=>{c1 J with space:=cond (Nat.beq J y0) (-1) (c1 J).space}} {W with kinds:=d0,tasks:=df 4 W f g1} g0/\g1<=h0/\h0-g1<h0-u0))/\(z0=false->b1/\(∃k1:Nat,b0/\c0/\a1=(k1:Int)/\ak d1 {W with kinds:=d0,tasks:=df 4 W f k1} g0/\k1<=h0/\h0-k1<h0-u0)))))/\(w0=false->((b0/\tn 2 (f=f)/\True)/\ak d1 d1 True/\EE.match_1 (λl1:zJ=>Prop) (zJ.mk f d1) (λo1:Int=>λq1:Wd=>fJ q1))/\True/\ak {W with kinds:=d0,tasks:=c1,aA:=eE (cH f) d1,aj:=dA (cH f) d1} (bc (N_+1) W f) True))))
set_option maxHeartbeats 1000000 in
theorem UM (N_:Nat) (h_:aL Tryz.prog aO 31 (kF N_)): ∀x,(qh N_).pre x->ed Tryz.prog aO 55 ((qh N_).args x) ((qh N_).mem x) ((qh N_).res x) ((qh N_).bf x):=λx hp=>gG (.cons mH (.cons nz (.cons mQ (.cons nB (.cons h_ .nil))))) false Tryz.func55 ((λ⟨f,W⟩=> [.gJ [5,6,8,16,28,40,41],.cut 3 (oc W f 4),.inv (OB 4 W f 40),.inv (dR W.az 71),.inv (nI (b_ (bc N_)) W f 7),.inv (dR W.az 142),.inv (nJ W f),.inv (dR W.az 217)]) x) (V:=Da N_ x) (by kernel_rfl)<|(λ⟨f,W⟩ hp=>by
  dsimp only[qh]at hp
  dsimp only[Da,tn,ah,ak,aE,aD,ay]
  simp only[aS,aZ,eq_self,implies_true,Bool.cond_self]
  try simp only[cu]
  obtain⟨hJ,hn,f0,f1,hk⟩:=hp
  have z:=hJ.w.i.z
  have z1:=z.aa
  have z2:=z.af
  have z3:=z.tasks
  have z4:=z.k1
  have z5:=z.lines
  have z6:=z.bits
  refine⟨⟨f0,f1⟩,⟨⟨f0,f1⟩,hk,λ_ _=>rfl⟩,λ_ _=>?_⟩
  refineλ_=>⟨λq _=>bG (de (k:=4) (f:=f) (Nat.zero_le _)).symm,λs hs=>⟨λh=>?_,λh=>?_⟩⟩
  · have ai:=aY h
    rw[de (Nat.le_refl _)]
    refine⟨by omega,λJ=>⟨by omega,bM (by omega) (by omega),s+1,by omega,λq _=>?_,by omega,by omega⟩,λJ=>⟨bM (by omega) (by omega),s+1,by omega,λq _=>?_,by omega,by omega⟩⟩
    · have U:((W.tasks s).space==f)=true:=J
      have e2:la 4 f (W.tasks s)={W.tasks s with space:= -1}:=by
        show({W.tasks s with space:=bif (W.tasks s).space==f then -1 else(W.tasks s).space}:bu)=_
        rw[U];rfl
      rcases Nat.lt_trichotomy q s with e|e|e
      · rw[ca (by omega),dd e,dd (by omega:q<s+1)];exact bG rfl
      · subst e
        rw[Nat.beq_refl,dd (Nat.lt_succ_self _),de (Nat.le_refl _),e2]
        simp only[cond_true]
        repeat' (first|exact trivial|rfl|refine And.intro ?_ ?_)
      · rw[ca (by omega),de (by omega),de (by omega:s+1<=q)];exact bG rfl
    · have U:((W.tasks s).space==f)=false:=J
      have e2:la 4 f (W.tasks s)=W.tasks s:=by
        show({W.tasks s with space:=bif (W.tasks s).space==f then -1 else(W.tasks s).space}:bu)=_
        rw[U];rfl
      rcases Nat.lt_trichotomy q s with e|e|e
      · rw[dd e,dd (by omega:q<s+1)];exact bG rfl
      · subst e;rw[de (Nat.le_refl _),dd (Nat.lt_succ_self _),e2];exact bG rfl
      · rw[de (by omega),de (by omega:s+1<=q)];exact bG rfl
  have bo:=bD h
  obtain rfl:s=W.az:=by omega
  have e:bc (N_+1) W f=tY W f:=CS hk
  simp only[e]
  refine⟨⟨⟨z.k0,z.k1,z.c0,z.c1,z.aa,z.af,z.tasks,z.lines,z.bits,z.ready,z.aj,z.d0,z.d1,z.t0,z.t1⟩,hJ.w.i.aa,hJ.w.i.tl,hJ.w.pg⟩,?_⟩
  repeat' (first|exact trivial|exactλj hj=>bG (dd hj)|exact bG rfl|exact dM rfl|exact cL rfl|rfl|refine And.intro ?_ ?_|intro _)
  : ∀x,(qh N_).pre x->Da N_ x) x hp
structure L4 where
  (f:Int) (W:Wd)
def qi (N_:Nat):Sy.Spec:=⟨L4,λ⟨f,_⟩=> [.ptr 0 0 none 0 0,.v (.int .i64 f)],λ⟨_,W⟩=>bQ W,λ⟨f,W⟩=>JJ W/\cE W<=N_/\0<=f/\f<W.ar/\W.kinds f.toNat=5,λ_=> .tp 0 (aH []),λ⟨f,W⟩=>bQ (bc (N_+1) W f),
  λargs mem=>match args with| [a0,a1]=>some ⟨av (a1),dL mem 0⟩|_=>none⟩
def Db (N_:Nat):L4->Prop:=λ⟨f,W⟩=>let a0:=0<=f/\f<((W.ar:Nat):Int);let b0:=SV.ptr 0 0 none 0 0=SV.ptr 0 0 none 0 0;let c0:=SV.ptr (0+1+1+1+1+1+1+1+1+1+1+1) 0 none 0 0=SV.ptr 11 0 none 0 0;let d0:=cj W.kinds (Int.toNat f) 0;let e0:={W with kinds:=d0};let g0:=(True/\f=f)/\True;let h0:=W.az;let k0:=(h0:Int);let l0:Int:=f*16;let o0:=ah l0=l0;let q0:=b_ (bc N_);tn 6 (a0/\tn 5 (a0/\(∀u0:Nat,false=false)/\b0/\c0/\W.kinds (0+Int.toNat f)=5/\ak {W with kinds:=λv0:Nat=>cond (Nat.beq v0 (0+Int.toNat f)) 0 (W.kinds v0)} e0 g0/\True)/\(∀w0:Nat,True->k0<=9223372036854775807->b0/\c0/\0=((0:Nat):Int)/\ak e0 {W with kinds:=d0,tasks:=df 5 W f 0} g0/\0<=h0/\(∀x0:Nat,let y0:=(x0:Int);let z0:=decide (y0<k0);let a1:=0<=y0/\y0<k0;let b1:=0+Int.toNat y0;let c1:=(df 5 W f x0 b1).node==f;let d1:Int:=y0+1;let e1:=ah d1=d1;let g1:={W with kinds:=d0,tasks:=df 5 W f x0};x0<=h0->(z0=true->tn 5 (a1/\tn 3 ((c1=true->a1/\(∀J:Nat,false=false)/\e1/\(∃k1:Nat,b0/\c0/\d1=(k1:Int)/\ak {W with kinds:=d0,tasks:=λl1:Nat=>let o1:=df 5 W f x0 l1;{o1 with node:=cond (Nat.beq l1 b1) (-1) o1.node}} {W with kinds:=d0,tasks:=df 5 W f k1} g0/\k1<=h0/\h0-k1<h0-x0))/\(c1=false->e1/\(∃q1:Nat,b0/\c0/\d1=(q1:Int)/\ak g1 {W with kinds:=d0,tasks:=df 5 W f q1} g0/\q1<=h0/\h0-q1<h0-x0)))))/\(z0=false->b0/\c0/\15=15-((0:Nat):Int)/\ak g1 {W with kinds:=d0,tasks:=λu1:Nat=>let v1:=(W.tasks u1).node;{W.tasks u1 with node:=cond (v1==f) (-1) v1}} g0/\0<=16/\(∀w1:Nat,let x1:Int:=15-(w1:Int);let y1:=decide (0<=x1);let z1:Int:=l0+x1;let a2:=ah z1=z1;let b2:=gm q0 W f w1;
    let c2:=(b2.af (0+Int.toNat z1)).kind !=0;let d2:Int:=x1-1;let e2:=ah d2=d2;w1<=16->(y1=true->tn 5 (o0/\True/\a2/\(0<=z1/\z1<((b2.aw:Nat):Int))/\(c2=true->o0/\a2/\((b0/\z1=z1/\True)/\ak b2 b2 True/\JJ b2/\cE b2<=N_)/\e2/\(∃g2:Nat,b0/\c0/\d2=15-(g2:Int)/\ak (q0 b2 z1) (gm q0 W f g2) g0/\g2<=16/\16-g2<16-w1))/\(c2=false->e2/\(∃U:Nat,b0/\c0/\d2=15-(U:Int)/\ak b2 (gm q0 W f U) g0/\U<=16/\16-U<16-w1))))/\(y1=false->True/\ak b2 (bc (N_+1) W f) True))))))
set_option maxHeartbeats 1000000 in
theorem UN (N_:Nat) (h_:aL Tryz.prog aO 31 (kF N_)): ∀x,(qi N_).pre x->ed Tryz.prog aO 55 ((qi N_).args x) ((qi N_).mem x) ((qi N_).res x) ((qi N_).bf x):=λx hp=>gG (.cons mH (.cons nz (.cons mQ (.cons nB (.cons h_ .nil))))) false Tryz.func55 ((λ⟨f,W⟩=> [.gJ [5,6,8,16,28,40,41],.cut 3 (oc W f 5),.inv (dR W.az 40),.inv (OB 5 W f 71),.inv (nI (b_ (bc N_)) W f 7),.inv (dR W.az 142),.inv (nJ W f),.inv (dR W.az 217)]) x) (V:=Db N_ x) (by kernel_rfl)<|(λ⟨f,W⟩ hp=>by
  dsimp only[qi]at hp
  dsimp only[Db,tn,ah,ak,aE,aD,ay]
  simp only[aS,aZ,eq_self,implies_true,Bool.cond_self]
  try simp only[cu]
  obtain⟨hJ,hn,f0,f1,hk⟩:=hp
  have z:=hJ.w.i.z
  have z1:=z.aa
  have z2:=z.af
  have z3:=z.tasks
  have z4:=z.k1
  have z5:=z.lines
  have z6:=z.bits
  refine⟨⟨f0,f1⟩,⟨⟨f0,f1⟩,hk,λ_ _=>rfl⟩,λ_ _=>?_⟩
  refineλ_=>⟨λq _=>bG (de (k:=5) (f:=f) (Nat.zero_le _)).symm,λs hs=>⟨λh=>?_,λh=>?_⟩⟩
  · have ai:=aY h
    rw[de (Nat.le_refl _)]
    refine⟨by omega,λJ=>⟨by omega,bM (by omega) (by omega),s+1,by omega,λq _=>?_,by omega,by omega⟩,λJ=>⟨bM (by omega) (by omega),s+1,by omega,λq _=>?_,by omega,by omega⟩⟩
    · have U:((W.tasks s).node==f)=true:=J
      have e2:la 5 f (W.tasks s)={W.tasks s with node:= -1}:=by
        show({W.tasks s with node:=bif (W.tasks s).node==f then -1 else(W.tasks s).node}:bu)=_
        rw[U];rfl
      rcases Nat.lt_trichotomy q s with e|e|e
      · rw[ca (by omega),dd e,dd (by omega:q<s+1)];exact bG rfl
      · subst e
        rw[Nat.beq_refl,dd (Nat.lt_succ_self _),de (Nat.le_refl _),e2]
        simp only[cond_true]
        repeat' (first|exact trivial|rfl|refine And.intro ?_ ?_)
      · rw[ca (by omega),de (by omega),de (by omega:s+1<=q)];exact bG rfl
    · have U:((W.tasks s).node==f)=false:=J
      have e2:la 5 f (W.tasks s)=W.tasks s:=by
        show({W.tasks s with node:=bif (W.tasks s).node==f then -1 else(W.tasks s).node}:bu)=_
        rw[U];rfl
      rcases Nat.lt_trichotomy q s with e|e|e
      · rw[dd e,dd (by omega:q<s+1)];exact bG rfl
      · subst e;rw[de (Nat.le_refl _),dd (Nat.lt_succ_self _),e2];exact bG rfl
      · rw[de (by omega),de (by omega:s+1<=q)];exact bG rfl
  have bo:=bD h
  obtain rfl:s=W.az:=by omega
  have hX:=za (f:=f) (Cf N_) hJ f0 (by rw[hk];decide)
  refine⟨by decide,λj hj=>bG (dd hj),λi hi=>⟨λh=>?_,λh=>?_⟩⟩
  · have mG:=of_decide_eq_true h
    obtain⟨J,U⟩:=hX i
    have rN:=U.af
    refine⟨bM (by omega) (by omega),bM (by omega) (by omega),⟨by omega,by omega⟩,λh3=>?_,λh3=>?_⟩
    · refine⟨bM (by omega) (by omega),bM (by omega) (by omega),⟨J,Nat.le_trans U.cY hn⟩,bM (by omega) (by omega),i+1,by omega,?_⟩
      have e1:b_ (bc N_) (gm (b_ (bc N_)) W f i) (f*16+(15 -i))=gm (b_ (bc N_)) W f (i+1):=rfl
      simp only[e1]
      repeat' (first|exact trivial|omega|exact bG rfl|exact dM rfl|exact cL rfl|rfl|refine And.intro ?_ ?_|intro _)
    · refine⟨bM (by omega) (by omega),i+1,by omega,?_⟩
      have e1:gm (b_ (bc N_)) W f (i+1)=gm (b_ (bc N_)) W f i:=WI h3
      simp only[e1]
      repeat' (first|exact trivial|omega|exact bG rfl|exact dM rfl|exact cL rfl|rfl|refine And.intro ?_ ?_|intro _)
  · have mG:=of_decide_eq_false h
    obtain rfl:i=16:=by omega
    have e:bc (N_+1) W f=gm (b_ (bc N_)) W f 16:=CT hk
    simp only[e]
    repeat' (first|exact trivial|exact bG rfl|exact dM rfl|exact cL rfl|rfl|refine And.intro ?_ ?_|intro _)
  : ∀x,(qi N_).pre x->Db N_ x) x hp
structure L5 where
  (f:Int) (W:Wd)
def qj (N_:Nat):Sy.Spec:=⟨L5,λ⟨f,_⟩=> [.ptr 0 0 none 0 0,.v (.int .i64 f)],λ⟨_,W⟩=>bQ W,λ⟨f,W⟩=>JJ W/\cE W<=N_/\0<=f/\f<W.ar/\W.kinds f.toNat=6,λ_=> .tp 0 (aH []),λ⟨f,W⟩=>bQ (bc (N_+1) W f),
  λargs mem=>match args with| [a0,a1]=>some ⟨av (a1),dL mem 0⟩|_=>none⟩
def Dc (N_:Nat):L5->Prop:=λ⟨f,W⟩=>let a0:=0<=f/\f<((W.ar:Nat):Int);let b0:=false=false;let c0:=SV.ptr 0 0 none 0 0=SV.ptr 0 0 none 0 0;let d0:=SV.ptr (0+1+1+1+1+1+1+1+1+1+1+1) 0 none 0 0=SV.ptr 11 0 none 0 0;let e0:=Int.toNat f;let g0:=0+e0;let h0:=cj W.kinds e0 0;let k0:={W with kinds:=h0};let l0:=(True/\f=f)/\True;let o0:=W.az;let q0:=(o0:Int);let u0:=f<q0;let v0:=kz W f;let w0:=0<=f/\u0;let x0:=(bN v0 e0 (-1) 0 g0).aX;let y0:Int:=cond (x0==f) (-1) x0;let z0:=decide (0<=y0);let a1:=q0<=9223372036854775807;let b1:=0+Int.toNat y0;let c1:=rh v0 f;let d1:=rS v0 f;let e1:=kt v0 f;let g1:=ri v0 f;let J:=rT v0 f;let k1:={W with kinds:=h0,tasks:=λl1:Nat=>let o1:=bN v0 e0 (-1) 0 l1;let q1:=o1.aX;{o1 with st:=cond (Nat.beq l1 b1) 0 o1.st,aX:=cond (q1==f) (-1) q1},ao:=c1,lines:=d1,aF:=e1,aJ:=g1,ready:=J};let u1:=ak k1 k1 l0;let v1:=tn 2 True;let w1:=(∀x1:Nat,b0)/\(∀y1:Nat,b0)/\(∀z1:Nat,b0)/\(∀a2:Nat,b0)/\(∀b2:Nat,b0)/\(∀c2:Nat,b0)/\(∀d2:Nat,b0)/\(∀e2:Nat,b0)/\(∀g2:Nat,b0)/\(∀U:Nat,b0)/\(∀k2:Nat,b0)/\(∀l2:Nat,b0)/\(∀o2:Nat,b0)/\(∀q2:Nat,b0)/\(∀u2:Nat,b0)/\(∀v2:Nat,b0)/\(∀w2:Nat,b0)/\(∀x2:Nat,b0)/\(∀y2:Nat,b0)/\(∀z2:Nat,b0);let a3:=bc (N_+1) W f;let b3:={W with kinds:=h0,tasks:=λc3:Nat=>let d3:=bN v0 e0 (-1) 0 c3;let e3:=d3.aX;{d3 with aX:=cond (e3==f) (-1) e3},ao:=c1,lines:=d1,aF:=e1,aJ:=g1,ready:=J};let g3:=ak b3 b3 l0;tn 6 (a0/\tn 5 (a0/\(∀h3:Nat,b0)/\c0/\d0/\W.kinds g0=6/\ak {W with kinds:=λk3:Nat=>cond (Nat.beq k3 g0) 0 (W.kinds k3)} k0 l0/\True)/\(∀l3:Nat,True->((c0/\f=f/\True)/\
    ak k0 k0 True/\0<=f/\u0/\Inv 1000 v0)/\tn 5 (w0/\(z0=true->(0<=y0/\y0<q0)/\(∀o3:Nat,b0)/\(a1->c0/\d0/\0=((0:Nat):Int)/\u1/\0<=o0/\(∀q3:Nat,let u3:=(q3:Int);let v3:=decide (u3<q0);let w3:=0<=u3/\u3<q0;let x3:=0+Int.toNat u3;let y3:=(bN v0 e0 (-1) 0 x3).aX;let z3:=cond (y3==f) (-1) y3==f;let a4:Int:=u3+1;let b4:=ah a4=a4;q3<=o0->(v3=true->tn 5 (w3/\tn 3 ((z3=true->w3/\(∀c4:Nat,b0)/\b4/\(∃d4:Nat,c0/\d0/\a4=(d4:Int)/\ak {W with kinds:=h0,tasks:=λe4:Nat=>let g4:=bN v0 e0 (-1) 0 e4;let h4:=g4.aX;{g4 with st:=cond (Nat.beq e4 b1) 0 g4.st,aX:=cond (Nat.beq e4 x3) (-1) (cond (h4==f) (-1) h4)},ao:=c1,lines:=d1,aF:=e1,aJ:=g1,ready:=J} k1 l0/\d4<=o0/\o0-d4<o0-q3))/\(z3=false->b4/\(∃k4:Nat,c0/\d0/\a4=(k4:Int)/\u1/\k4<=o0/\o0-k4<o0-q3)))))/\(v3=false->tn 5 (v1/\w0/\w1/\True/\ak {W with kinds:=h0,tasks:=λl4:Nat=>let o4:=Nat.beq l4 g0;let q4:=bN v0 e0 (-1) 0 l4;let u4:=q4.aX;bu.mk (cond o4 0 q4.r0) (cond o4 0 q4.r1) (cond o4 0 q4.r2) (cond o4 0 q4.r3) (cond o4 0 q4.r4) (cond o4 0 q4.r5) (cond o4 0 q4.r6) (cond o4 0 q4.r7) (cond o4 0 q4.pc) (cond o4 0 (cond (Nat.beq l4 b1) 0 q4.st)) (cond o4 0 q4.prio) (cond o4 (-1) q4.node) (cond o4 (-1) q4.space) (cond o4 (-1) q4.helper) (cond o4 (-1) q4.loc) (cond o4 0 q4.word) (cond o4 0 q4.bJ) (cond o4 (-1) (cond (u4==f) (-1) u4)) (cond o4 0 q4.core) (cond o4 0 q4.dH),ao:=c1,lines:=d1,aF:=e1,aJ:=g1,ready:=J} a3 True)))))/\(z0=false->a1->c0/\d0/\0=((0:Nat):Int)/\g3/\0<=o0/\(∀v4:Nat,let w4:=(v4:Int);let x4:=decide (w4<q0);let y4:=0<=w4/\w4<q0;
    let z4:=0+Int.toNat w4;let a5:=(bN v0 e0 (-1) 0 z4).aX;let b5:=cond (a5==f) (-1) a5==f;let c5:Int:=w4+1;let d5:=ah c5=c5;v4<=o0->(x4=true->tn 5 (y4/\tn 3 ((b5=true->y4/\(∀e5:Nat,b0)/\d5/\(∃g5:Nat,c0/\d0/\c5=(g5:Int)/\ak {W with kinds:=h0,tasks:=λh5:Nat=>let k5:=bN v0 e0 (-1) 0 h5;let l5:=k5.aX;{k5 with aX:=cond (Nat.beq h5 z4) (-1) (cond (l5==f) (-1) l5)},ao:=c1,lines:=d1,aF:=e1,aJ:=g1,ready:=J} b3 l0/\g5<=o0/\o0-g5<o0-v4))/\(b5=false->d5/\(∃o5:Nat,c0/\d0/\c5=(o5:Int)/\g3/\o5<=o0/\o0-o5<o0-v4)))))/\(x4=false->tn 5 (v1/\w0/\w1/\True/\ak {W with kinds:=h0,tasks:=λq5:Nat=>let u5:=Nat.beq q5 g0;let v5:=bN v0 e0 (-1) 0 q5;let w5:=v5.aX;bu.mk (cond u5 0 v5.r0) (cond u5 0 v5.r1) (cond u5 0 v5.r2) (cond u5 0 v5.r3) (cond u5 0 v5.r4) (cond u5 0 v5.r5) (cond u5 0 v5.r6) (cond u5 0 v5.r7) (cond u5 0 v5.pc) (cond u5 0 v5.st) (cond u5 0 v5.prio) (cond u5 (-1) v5.node) (cond u5 (-1) v5.space) (cond u5 (-1) v5.helper) (cond u5 (-1) v5.loc) (cond u5 0 v5.word) (cond u5 0 v5.bJ) (cond u5 (-1) (cond (w5==f) (-1) w5)) (cond u5 0 v5.core) (cond u5 0 v5.dH),ao:=c1,lines:=d1,aF:=e1,aJ:=g1,ready:=J} a3 True)))))))
set_option maxHeartbeats 1000000 in
theorem UO (N_:Nat) (h_:aL Tryz.prog aO 31 (kF N_)): ∀x,(qj N_).pre x->ed Tryz.prog aO 55 ((qj N_).args x) ((qj N_).mem x) ((qj N_).res x) ((qj N_).bf x):=λx hp=>gG (.cons mH (.cons nz (.cons mQ (.cons nB (.cons h_ .nil))))) false Tryz.func55 ((λ⟨f,W⟩=> [.gJ [5,6,8,16,28,40,41],.cut 3 (oc W f 6),.inv (dR W.az 40),.inv (dR W.az 71),.inv (nI (b_ (bc N_)) W f 7),.inv (dR W.az 142),.inv (nJ W f),.inv (dR W.az 217)]) x) (V:=Dc N_ x) (by kernel_rfl)<|(λ⟨f,W⟩ hp=>by
  dsimp only[qj]at hp
  dsimp only[Dc,tn,ah,ak,aE,aD,ay]
  simp only[aS,aZ,eq_self,implies_true,Bool.cond_self]
  try simp only[cu]
  obtain⟨hJ,hn,f0,f1,hk⟩:=hp
  have z:=hJ.w.i.z
  have z1:=z.aa
  have z2:=z.af
  have z3:=z.tasks
  have z4:=z.k1
  have z5:=z.lines
  have z6:=z.bits
  refine⟨⟨f0,f1⟩,⟨⟨f0,f1⟩,hk,λ_ _=>rfl⟩,λ_ _=>?_⟩
  have hI:=oR hJ.w.i (pL hJ f)
  have hS:=(CR (W:=kz W f) hI f0 (by show f<W.az;omega)).tk f.toNat (by show f.toNat<W.az;omega)
  have ho:=hS.aX
  have e:bc (N_+1) W f=t_ W f:=CU hk
  simp only[e]
  refine⟨⟨f0,by omega,hI⟩,⟨f0,by omega⟩,λJ=>⟨⟨of_decide_eq_true J,Int.lt_of_lt_of_le ho.2 (by show(W.ar:Int)<=W.az;omega)⟩,λ_ r hr=>⟨λh=>?_,λ_=>⟨⟨f0,by omega⟩,?_⟩⟩⟩,λJ _ r hr=>⟨λh=>?_,λ_=>⟨⟨f0,by omega⟩,?_⟩⟩⟩
  · have ai:=aY h
    exact⟨by omega,λU=>absurd U (by rw[OC f0];decide),λ_=>⟨bM (by omega) (by omega),r+1,by omega,by omega,by omega⟩⟩
  · repeat' (first|exact trivial|exactλj hj=>Px J|exact bG rfl|exact dM rfl|exact cL rfl|rfl|refine And.intro ?_ ?_|intro _)
  · have ai:=aY h
    exact⟨by omega,λU=>absurd U (by rw[OC f0];decide),λ_=>⟨bM (by omega) (by omega),r+1,by omega,by omega,by omega⟩⟩
  · repeat' (first|exact trivial|exactλj hj=>Py J|exact bG rfl|exact dM rfl|exact cL rfl|rfl|refine And.intro ?_ ?_|intro _)
  : ∀x,(qj N_).pre x->Dc N_ x) x hp
structure L6 where
  (f:Int) (W:Wd)
def qk (N_:Nat):Sy.Spec:=⟨L6,λ⟨f,_⟩=> [.ptr 0 0 none 0 0,.v (.int .i64 f)],λ⟨_,W⟩=>bQ W,λ⟨f,W⟩=>JJ W/\cE W<=N_/\0<=f/\f<W.ar/\W.kinds f.toNat=7,λ_=> .tp 0 (aH []),λ⟨f,W⟩=>bQ (bc (N_+1) W f),
  λargs mem=>match args with| [a0,a1]=>some ⟨av (a1),dL mem 0⟩|_=>none⟩
def Dd (N_:Nat):L6->Prop:=λ⟨f,W⟩=>let a0:=0<=f/\f<((W.ar:Nat):Int);let b0:=false=false;let c0:=SV.ptr 0 0 none 0 0=SV.ptr 0 0 none 0 0;let d0:=SV.ptr (0+1+1+1+1+1+1+1+1+1+1+1) 0 none 0 0=SV.ptr 11 0 none 0 0;let e0:=Int.toNat f;let g0:=0+e0;let h0:=cj W.kinds e0 0;let k0:={W with kinds:=h0};let l0:=(True/\f=f)/\True;let o0:=W.ba;let q0:=0<=f/\f<(o0:Int);let u0:=W.ao g0;let v0:=(u0:Int);let w0:=W.ao e0;let x0:=W.az;let y0:=(x0:Int);tn 6 (a0/\tn 5 (a0/\(∀z0:Nat,b0)/\c0/\d0/\W.kinds g0=7/\ak {W with kinds:=λa1:Nat=>cond (Nat.beq a1 g0) 0 (W.kinds a1)} k0 l0/\True)/\(∀b1:Nat,True->tn 6 (q0/\(v0<=9223372036854775807->c0/\d0/\((g0<o0/\0<1)/\g0=e0/\0=0/\0=0/\u0=w0)/\0=((0:Nat):Int)/\ak k0 {W with kinds:=h0,tasks:=cz 8 W f 0} l0/\0<=w0/\(∀c1:Nat,let d1:=(c1:Int);let e1:=decide (d1<v0);let g1:=W.lines e0 (0+Int.toNat d1);let J:=0<=g1/\g1<y0;let k1:Int:=d1+1;let l1:=0+Int.toNat g1;c1<=w0->(e1=true->(0<=d1/\d1<(w0:Int))/\tn 10 (J/\(∀o1:Nat,b0)/\J/\(∀q1:Nat,b0)/\ah k1=k1/\(∃u1:Nat,c0/\d0/\((e0<o0/\0<1)/\e0=e0/\0=0/\0=0/\w0=w0)/\k1=(u1:Int)/\ak {W with kinds:=h0,tasks:=λv1:Nat=>let w1:=cz 8 W f c1 v1;{w1 with st:=cond (Nat.beq v1 l1) 0 w1.st,loc:=cond (Nat.beq v1 l1) (-1) w1.loc}} {W with kinds:=h0,tasks:=cz 8 W f u1} l0/\u1<=w0/\w0-u1<w0-c1)))/\(e1=false->tn 10 (q0/\(True/\True)/\(∀x1:Nat,Nat.beq 1 1=true)/\(0<=f/\f<((W.aN:Nat):Int))/\(∀y1:Nat,b0)/\(y0<=9223372036854775807->c0/\d0/\0=((0:Nat):Int)/\
    ak {W with kinds:=h0,tasks:=cz 8 W f c1,ao:=λz1:Nat=>cond (Nat.beq z1 g0) 0 (W.ao z1),lines:=λa2:Nat=>λb2:Nat=>cond (Nat.beq a2 g0) (W.lines g0 b2) (W.lines a2 b2),bits:=λc2:Nat=>cond (Nat.beq c2 g0) 0 (W.bits c2)} {W with kinds:=h0,tasks:=lM W f 0,ao:=λd2:Nat=>cond (Nat.beq d2 g0) 0 (W.ao d2),lines:=λe2:Nat=>λg2:Nat=>cond (Nat.beq e2 g0) (W.lines g0 g2) (W.lines e2 g2),bits:=λU:Nat=>cond (Nat.beq U g0) 0 (W.bits U)} l0/\0<=x0/\(∀k2:Nat,let l2:=(k2:Int);let o2:=decide (l2<y0);let q2:=0<=l2/\l2<y0;let u2:=0+Int.toNat l2;let v2:=(lM W f k2 u2).helper==f;let w2:Int:=l2+1;let x2:=ah w2=w2;let y2:={W with kinds:=h0,tasks:=lM W f k2,ao:=λz2:Nat=>cond (Nat.beq z2 g0) 0 (W.ao z2),lines:=λa3:Nat=>λb3:Nat=>cond (Nat.beq a3 g0) (W.lines g0 b3) (W.lines a3 b3),bits:=λc3:Nat=>cond (Nat.beq c3 g0) 0 (W.bits c3)};k2<=x0->(o2=true->tn 5 (q2/\tn 3 ((v2=true->q2/\(∀d3:Nat,b0)/\x2/\(∃e3:Nat,c0/\d0/\w2=(e3:Int)/\
    ak {W with kinds:=h0,tasks:=λg3:Nat=>let h3:=lM W f k2 g3;{h3 with helper:=cond (Nat.beq g3 u2) (-1) h3.helper},ao:=λk3:Nat=>cond (Nat.beq k3 g0) 0 (W.ao k3),lines:=λl3:Nat=>λo3:Nat=>cond (Nat.beq l3 g0) (W.lines g0 o3) (W.lines l3 o3),bits:=λq3:Nat=>cond (Nat.beq q3 g0) 0 (W.bits q3)} {W with kinds:=h0,tasks:=lM W f e3,ao:=λu3:Nat=>cond (Nat.beq u3 g0) 0 (W.ao u3),lines:=λv3:Nat=>λw3:Nat=>cond (Nat.beq v3 g0) (W.lines g0 w3) (W.lines v3 w3),bits:=λx3:Nat=>cond (Nat.beq x3 g0) 0 (W.bits x3)} l0/\e3<=x0/\x0-e3<x0-k2))/\(v2=false->x2/\(∃y3:Nat,c0/\d0/\w2=(y3:Int)/\ak y2 {W with kinds:=h0,tasks:=lM W f y3,ao:=λz3:Nat=>cond (Nat.beq z3 g0) 0 (W.ao z3),lines:=λa4:Nat=>λb4:Nat=>cond (Nat.beq a4 g0) (W.lines g0 b4) (W.lines a4 b4),bits:=λc4:Nat=>cond (Nat.beq c4 g0) 0 (W.bits c4)} l0/\y3<=x0/\x0-y3<x0-k2)))))/\(o2=false->True/\ak y2 (bc (N_+1) W f) True))))))))))
set_option maxHeartbeats 1000000 in
theorem UP (N_:Nat) (h_:aL Tryz.prog aO 31 (kF N_)): ∀x,(qk N_).pre x->ed Tryz.prog aO 55 ((qk N_).args x) ((qk N_).mem x) ((qk N_).res x) ((qk N_).bf x):=λx hp=>gG (.cons mH (.cons nz (.cons mQ (.cons nB (.cons h_ .nil))))) false Tryz.func55 ((λ⟨f,W⟩=> [.gJ [5,6,8,16,28,40,41],.cut 3 (oc W f 7),.inv (dR W.az 40),.inv (dR W.az 71),.inv (nI (b_ (bc N_)) W f 7),.inv (dR W.az 142),.inv (nJ W f),.inv (Yv W f 217)]) x) (V:=Dd N_ x) (by kernel_rfl)<|(λ⟨f,W⟩ hp=>by
  dsimp only[qk]at hp
  dsimp only[Dd,tn,ah,ak,aE,aD,ay]
  simp only[aS,aZ,eq_self,implies_true,Bool.cond_self]
  try simp only[cu]
  obtain⟨hJ,hn,f0,f1,hk⟩:=hp
  have z:=hJ.w.i.z
  have z1:=z.aa
  have z2:=z.af
  have z3:=z.tasks
  have z4:=z.k1
  have z5:=z.lines
  have z6:=z.bits
  refine⟨⟨f0,f1⟩,⟨⟨f0,f1⟩,hk,λ_ _=>rfl⟩,λ_ _=>?_⟩
  have hlL:=(hJ.w.i.ln f.toNat (by omega)).1
  refine⟨⟨f0,by omega⟩,λ_=>⟨⟨by omega,by decide⟩,λq hq=>bG (by rw[zZ,dd hq];rfl),λs hs=>⟨λh=>?_,λh=>?_⟩⟩⟩
  · have ai:=aY h
    obtain⟨l0,l1⟩:=(hJ.w.i.ln f.toNat (by omega)).2 s ai
    refine⟨by omega,⟨l0,l1⟩,⟨l0,l1⟩,bM (by omega) (by omega),s+1,⟨by omega,by decide⟩,by omega,λq hq=>?_,by omega,by omega⟩
    rcases Decidable.em (q=(W.lines f.toNat s).toNat)with e|e
    · rw[zl l0 e,<-yH (s:=s)]
      subst e
      simp only[Nat.beq_refl,cond_true]
      repeat' (first|exact trivial|rfl|refine And.intro ?_ ?_)
    · rw[zm l0 e]
      simp only[ca e,cond_false]
      repeat' (first|exact trivial|rfl|refine And.intro ?_ ?_)
  have bo:=bD h
  obtain rfl:s=W.ao f.toNat:=by omega
  have e:bc (N_+1) W f=pN W f:=uV (.inl hk)
  simp only[e]
  have hl: ∀q v,(bif Nat.beq q f.toNat then W.lines f.toNat v else W.lines q v)=W.lines q v:=λq v=>by
    rcases Decidable.em (q=f.toNat)with e|e
    · subst e;rw[Nat.beq_refl];rfl
    · rw[ca e];rfl
  refine⟨⟨f0,by omega⟩,λ_=>rfl,⟨f0,by omega⟩,?_⟩
  refineλ_=>⟨λq _=>bG (oS (Nat.zero_le _)).symm,λs hs=>⟨λh=>?_,λh=>?_⟩⟩
  · have ai:=aY h
    rw[oS (Nat.le_refl _)]
    refine⟨by omega,λJ=>⟨by omega,bM (by omega) (by omega),s+1,by omega,λq _=>?_,by omega,by omega⟩,λJ=>⟨bM (by omega) (by omega),s+1,by omega,λq _=>?_,by omega,by omega⟩⟩
    · have U:((cz 8 W f (W.ao f.toNat) s).helper==f)=true:=J
      have e2:mD 7 f (cz 8 W f (W.ao f.toNat) s)={cz 8 W f (W.ao f.toNat) s with helper:= -1}:=by
        show({cz 8 W f (W.ao f.toNat) s with helper:=bif (cz 8 W f (W.ao f.toNat) s).helper==f then -1 else(cz 8 W f (W.ao f.toNat) s).helper}:bu)=_
        rw[U];rfl
      rcases Nat.lt_trichotomy q s with e|e|e
      · rw[ca (by omega),qP e,qP (by omega:q<s+1)];exact bG rfl
      · subst e
        rw[Nat.beq_refl,qP (Nat.lt_succ_self _),oS (Nat.le_refl _),e2]
        simp only[cond_true]
        repeat' (first|exact trivial|rfl|refine And.intro ?_ ?_)
      · rw[ca (by omega),oS (by omega),oS (by omega:s+1<=q)];exact bG rfl
    · have U:((cz 8 W f (W.ao f.toNat) s).helper==f)=false:=J
      have e2:mD 7 f (cz 8 W f (W.ao f.toNat) s)=cz 8 W f (W.ao f.toNat) s:=by
        show({cz 8 W f (W.ao f.toNat) s with helper:=bif (cz 8 W f (W.ao f.toNat) s).helper==f then -1 else(cz 8 W f (W.ao f.toNat) s).helper}:bu)=_
        rw[U];rfl
      rcases Nat.lt_trichotomy q s with e|e|e
      · rw[qP e,qP (by omega:q<s+1)];exact bG rfl
      · subst e;rw[oS (Nat.le_refl _),qP (Nat.lt_succ_self _),e2];exact bG rfl
      · rw[oS (by omega),oS (by omega:s+1<=q)];exact bG rfl
  have bo:=bD h
  have rN:s=W.az:=by omega
  have hd: ∀j,j<W.az->lM W f s j=k_ W f j:=λj hj=>by
    rw[qP (by omega)]
    unfold k_ cz
    rw[hk,dd hj]
    rfl
  repeat' (first|exact trivial|exactλj hj=>bG (hd j hj)|exactλq _=>⟨rfl,λv _=>hl q v⟩|exact bG rfl|exact dM rfl|exact cL rfl|rfl|refine And.intro ?_ ?_|intro _)
  : ∀x,(qk N_).pre x->Dd N_ x) x hp
structure L7 where
  (f:Int) (W:Wd)
def ql (N_:Nat):Sy.Spec:=⟨L7,λ⟨f,_⟩=> [.ptr 0 0 none 0 0,.v (.int .i64 f)],λ⟨_,W⟩=>bQ W,λ⟨f,W⟩=>JJ W/\cE W<=N_/\0<=f/\f<W.ar/\W.kinds f.toNat=8,λ_=> .tp 0 (aH []),λ⟨f,W⟩=>bQ (bc (N_+1) W f),
  λargs mem=>match args with| [a0,a1]=>some ⟨av (a1),dL mem 0⟩|_=>none⟩
def De (N_:Nat):L7->Prop:=λ⟨f,W⟩=>let a0:=0<=f/\f<((W.ar:Nat):Int);let b0:=false=false;let c0:=SV.ptr 0 0 none 0 0=SV.ptr 0 0 none 0 0;let d0:=SV.ptr (0+1+1+1+1+1+1+1+1+1+1+1) 0 none 0 0=SV.ptr 11 0 none 0 0;let e0:=Int.toNat f;let g0:=0+e0;let h0:=cj W.kinds e0 0;let k0:={W with kinds:=h0};let l0:=(True/\f=f)/\True;let o0:=W.ba;let q0:=0<=f/\f<(o0:Int);let u0:=W.ao g0;let v0:=(u0:Int);let w0:=W.ao e0;let x0:=W.az;let y0:=(x0:Int);tn 6 (a0/\tn 5 (a0/\(∀z0:Nat,b0)/\c0/\d0/\W.kinds g0=8/\ak {W with kinds:=λa1:Nat=>cond (Nat.beq a1 g0) 0 (W.kinds a1)} k0 l0/\True)/\(∀b1:Nat,True->tn 6 (q0/\(v0<=9223372036854775807->c0/\d0/\((g0<o0/\0<1)/\g0=e0/\0=0/\0=0/\u0=w0)/\0=((0:Nat):Int)/\ak k0 {W with kinds:=h0,tasks:=cz 8 W f 0} l0/\0<=w0/\(∀c1:Nat,let d1:=(c1:Int);let e1:=decide (d1<v0);let g1:=W.lines e0 (0+Int.toNat d1);let J:=0<=g1/\g1<y0;let k1:Int:=d1+1;let l1:=0+Int.toNat g1;let o1:={W with kinds:=h0,tasks:=cz 8 W f c1,ao:=λq1:Nat=>cond (Nat.beq q1 g0) 0 (W.ao q1),lines:=λu1:Nat=>λv1:Nat=>cond (Nat.beq u1 g0) (W.lines g0 v1) (W.lines u1 v1),bits:=λw1:Nat=>cond (Nat.beq w1 g0) 0 (W.bits w1)};let x1:=ak o1 o1 l0;c1<=w0->(e1=true->(0<=d1/\d1<(w0:Int))/\tn 10 (J/\(∀y1:Nat,b0)/\J/\(∀z1:Nat,b0)/\ah k1=k1/\(∃a2:Nat,c0/\d0/\((e0<o0/\0<1)/\e0=e0/\0=0/\0=0/\w0=w0)/\k1=(a2:Int)/\ak {W with kinds:=h0,tasks:=λb2:Nat=>let c2:=cz 8 W f c1 b2;{c2 with st:=cond (Nat.beq b2 l1) 0 c2.st,loc:=cond (Nat.beq b2 l1) (-1) c2.loc}} {W with kinds:=h0,tasks:=cz 8 W f a2} l0/\a2<=w0/\w0-a2<w0-c1)))/\(e1=false->tn 10 (q0/\(True/\True)/\
    (∀d2:Nat,Nat.beq 1 1=true)/\(0<=f/\f<((W.aN:Nat):Int))/\(∀e2:Nat,b0)/\(y0<=9223372036854775807->c0/\d0/\0=((0:Nat):Int)/\x1/\0<=x0/\(∀g2:Nat,let U:=(g2:Int);let k2:=decide (U<y0);let l2:=0<=U/\U<y0;let o2:=0+Int.toNat U;let q2:=(cz 8 W f c1 o2).helper==f;let u2:Int:=U+1;let v2:=ah u2=u2;g2<=x0->(k2=true->tn 5 (l2/\tn 3 ((q2=true->l2/\(∀w2:Nat,b0)/\v2/\(∃x2:Nat,c0/\d0/\u2=(x2:Int)/\ak {W with kinds:=h0,tasks:=λy2:Nat=>let z2:=cz 8 W f c1 y2;{z2 with helper:=cond (Nat.beq y2 o2) (-1) z2.helper},ao:=λa3:Nat=>cond (Nat.beq a3 g0) 0 (W.ao a3),lines:=λb3:Nat=>λc3:Nat=>cond (Nat.beq b3 g0) (W.lines g0 c3) (W.lines b3 c3),bits:=λd3:Nat=>cond (Nat.beq d3 g0) 0 (W.bits d3)} o1 l0/\x2<=x0/\x0-x2<x0-g2))/\(q2=false->v2/\(∃e3:Nat,c0/\d0/\u2=(e3:Int)/\x1/\e3<=x0/\x0-e3<x0-g2)))))/\(k2=false->True/\ak o1 (bc (N_+1) W f) True))))))))))
set_option maxHeartbeats 1000000 in
theorem UQ (N_:Nat) (h_:aL Tryz.prog aO 31 (kF N_)): ∀x,(ql N_).pre x->ed Tryz.prog aO 55 ((ql N_).args x) ((ql N_).mem x) ((ql N_).res x) ((ql N_).bf x):=λx hp=>gG (.cons mH (.cons nz (.cons mQ (.cons nB (.cons h_ .nil))))) false Tryz.func55 ((λ⟨f,W⟩=> [.gJ [5,6,8,16,28,40,41],.cut 3 (oc W f 8),.inv (dR W.az 40),.inv (dR W.az 71),.inv (nI (b_ (bc N_)) W f 7),.inv (dR W.az 142),.inv (nJ W f),.inv (dR W.az 217)]) x) (V:=De N_ x) (by kernel_rfl)<|(λ⟨f,W⟩ hp=>by
  dsimp only[ql]at hp
  dsimp only[De,tn,ah,ak,aE,aD,ay]
  simp only[aS,aZ,eq_self,implies_true,Bool.cond_self]
  try simp only[cu]
  obtain⟨hJ,hn,f0,f1,hk⟩:=hp
  have z:=hJ.w.i.z
  have z1:=z.aa
  have z2:=z.af
  have z3:=z.tasks
  have z4:=z.k1
  have z5:=z.lines
  have z6:=z.bits
  refine⟨⟨f0,f1⟩,⟨⟨f0,f1⟩,hk,λ_ _=>rfl⟩,λ_ _=>?_⟩
  have hlL:=(hJ.w.i.ln f.toNat (by omega)).1
  refine⟨⟨f0,by omega⟩,λ_=>⟨⟨by omega,by decide⟩,λq hq=>bG (by rw[zZ,dd hq];rfl),λs hs=>⟨λh=>?_,λh=>?_⟩⟩⟩
  · have ai:=aY h
    obtain⟨l0,l1⟩:=(hJ.w.i.ln f.toNat (by omega)).2 s ai
    refine⟨by omega,⟨l0,l1⟩,⟨l0,l1⟩,bM (by omega) (by omega),s+1,⟨by omega,by decide⟩,by omega,λq hq=>?_,by omega,by omega⟩
    rcases Decidable.em (q=(W.lines f.toNat s).toNat)with e|e
    · rw[zl l0 e,<-yH (s:=s)]
      subst e
      simp only[Nat.beq_refl,cond_true]
      repeat' (first|exact trivial|rfl|refine And.intro ?_ ?_)
    · rw[zm l0 e]
      simp only[ca e,cond_false]
      repeat' (first|exact trivial|rfl|refine And.intro ?_ ?_)
  have bo:=bD h
  obtain rfl:s=W.ao f.toNat:=by omega
  have e:bc (N_+1) W f=pN W f:=uV (.inr hk)
  simp only[e]
  have hl: ∀q v,(bif Nat.beq q f.toNat then W.lines f.toNat v else W.lines q v)=W.lines q v:=λq v=>by
    rcases Decidable.em (q=f.toNat)with e|e
    · subst e;rw[Nat.beq_refl];rfl
    · rw[ca e];rfl
  refine⟨⟨f0,by omega⟩,λ_=>rfl,⟨f0,by omega⟩,?_⟩
  have hd: ∀j,j<W.az->cz 8 W f (W.ao f.toNat) j=k_ W f j:=λj hj=>Df hj (by rw[hk];rfl)
  refineλ_ r hr=>⟨λh=>?_,λ_=>?_⟩
  · have ai:=aY h
    have tt:r<W.az:=by omega
    refine⟨by omega,λU=>?_,λ_=>⟨bM (by omega) (by omega),r+1,by omega,by omega,by omega⟩⟩
    rw[Yu tt]at U
    exact absurd (hJ.w.hp r tt f.toNat (by omega) (by have:=eq_of_beq U;omega)) (by rw[hk];decide)
  repeat' (first|exact trivial|exactλj hj=>bG (hd j hj)|exactλq _=>⟨rfl,λv _=>hl q v⟩|exact bG rfl|exact dM rfl|exact cL rfl|rfl|refine And.intro ?_ ?_|intro _)
  : ∀x,(ql N_).pre x->De N_ x) x hp
end Go.Proofs.YtmieeldmfehpoaaGreatDoor
set_option linter.unusedVariables false
set_option linter.unusedSimpArgs false
set_option maxRecDepth 100000
namespace Go.Proofs.YtmieeldmfehpoaaGreatDoor
open Go.RowKit Go.Sy
theorem Kd (N_:Nat) (h_:aL Tryz.prog aO 23 (kJ N_)):aL Tryz.prog aO 36 (yI (N_+1)):=p6 Tryz.call36 λ⟨f,W⟩ ⟨hJ,hc,f0,f1⟩=>by
  have hk:=hJ.w.i.kd f.toNat (by omega)
  have hn:cE W<=N_:=by omega
  obtain⟨k,kr⟩: ∃k,W.kinds f.toNat=k:=⟨_,rfl⟩
  rw[kr]at hk
  have gy:k=0\/k=1\/k=2\/k=3\/k=4\/k=5\/k=6\/k=7\/k=8:=by omega
  subst kr
  rcases gy with e|e|e|e|e|e|e|e|e
  · exact UT N_ h_ ⟨f,W⟩ ⟨hJ,hn,f0,f1,e⟩
  · exact UU N_ h_ ⟨f,W⟩ ⟨hJ,hn,f0,f1,e⟩
  · exact UW N_ h_ ⟨f,W⟩ ⟨hJ,hn,f0,f1,e⟩
  · exact UX N_ h_ ⟨f,W⟩ ⟨hJ,hn,f0,f1,e⟩
  · exact UY N_ h_ ⟨f,W⟩ ⟨hJ,hn,f0,f1,e⟩
  · exact UZ N_ h_ ⟨f,W⟩ ⟨hJ,hn,f0,f1,e⟩
  · exact U0 N_ h_ ⟨f,W⟩ ⟨hJ,hn,f0,f1,e⟩
  · exact U1 N_ h_ ⟨f,W⟩ ⟨hJ,hn,f0,f1,e⟩
  · exact U2 N_ h_ ⟨f,W⟩ ⟨hJ,hn,f0,f1,e⟩
theorem Ke:aL Tryz.prog aO 36 (yI 0):=p6 Tryz.call36 λ⟨_,_⟩ ⟨_,hc,_⟩=>absurd hc (by omega)
theorem Cp: ∀n,aL Tryz.prog aO 23 (kJ n)/\aL Tryz.prog aO 36 (yI n)
  |0=>⟨Kc 0 Ke,Ke⟩
  |n+1=>⟨Kc (n+1) (Kd n (Cp n).1),Kd n (Cp n).1⟩
def U3:aQ:=kJ 400
theorem Sv:aL Tryz.prog aO 23 U3:=(Cp 400).1
end Go.Proofs.YtmieeldmfehpoaaGreatDoor
set_option linter.unusedVariables false
set_option linter.unusedSimpArgs false
set_option maxRecDepth 100000
namespace Go.Proofs.YtmieeldmfehpoaaGreatDoor
open Go.RowKit Go.Sy
theorem J9 (N_:Nat) (h_:aL Tryz.prog aO 31 (kF N_)):aL Tryz.prog aO 55 (yG (N_+1)):=p6 Tryz.call55 λ⟨f,W⟩ ⟨hJ,hc,f0,f1⟩=>by
  have hk:=hJ.w.i.kd f.toNat (by omega)
  have hn:cE W<=N_:=by omega
  obtain⟨k,kr⟩: ∃k,W.kinds f.toNat=k:=⟨_,rfl⟩
  rw[kr]at hk
  have gy:k=0\/k=1\/k=2\/k=3\/k=4\/k=5\/k=6\/k=7\/k=8:=by omega
  subst kr
  rcases gy with e|e|e|e|e|e|e|e|e
  · exact UI N_ h_ ⟨f,W⟩ ⟨hJ,hn,f0,f1,e⟩
  · exact UJ N_ h_ ⟨f,W⟩ ⟨hJ,hn,f0,f1,e⟩
  · exact UK N_ h_ ⟨f,W⟩ ⟨hJ,hn,f0,f1,e⟩
  · exact UL N_ h_ ⟨f,W⟩ ⟨hJ,hn,f0,f1,e⟩
  · exact UM N_ h_ ⟨f,W⟩ ⟨hJ,hn,f0,f1,e⟩
  · exact UN N_ h_ ⟨f,W⟩ ⟨hJ,hn,f0,f1,e⟩
  · exact UO N_ h_ ⟨f,W⟩ ⟨hJ,hn,f0,f1,e⟩
  · exact UP N_ h_ ⟨f,W⟩ ⟨hJ,hn,f0,f1,e⟩
  · exact UQ N_ h_ ⟨f,W⟩ ⟨hJ,hn,f0,f1,e⟩
theorem J_:aL Tryz.prog aO 55 (yG 0):=p6 Tryz.call55 λ⟨_,_⟩ ⟨_,hc,_⟩=>absurd hc (by omega)
theorem Co: ∀n,aL Tryz.prog aO 31 (kF n)/\aL Tryz.prog aO 55 (yG n)
  |0=>⟨IQ 0 J_,J_⟩
  |n+1=>⟨IQ (n+1) (J9 n (Co n).1),J9 n (Co n).1⟩
def WE:aQ:=kF 400
theorem TE:aL Tryz.prog aO 31 WE:=(Co 400).1
end Go.Proofs.YtmieeldmfehpoaaGreatDoor
set_option linter.unusedVariables false
set_option linter.unusedSimpArgs false
set_option maxRecDepth 100000
namespace Go.Proofs.YtmieeldmfehpoaaGreatDoor
open Go.RowKit Go.Sy
def Y1 (W:Wd) (s:Int):bS where
  σ:=Nat
  rt:= []
  sh _:= [(0,bd 0)]
  mh k:=A7 (bK W s k)
  inv k:= ∀j,j<k->0<=dS (bK W s j) s
  μ k:=500 -k
  init:=0
def Y2 (V:Wd) (s:Int):bS where
  σ:=Nat
  rt:= []
  sh i:= [(0,bd 0),(6,.v (.int .i64 (iw i (ix V s)))),(19,.v (.int .i64 i))]
  mh _:= []
  inv i:=i<=V.aw
  μ i:=V.aw -i
  init:=0
def Y3 (W:Wd) (s:Int):bS where
  σ:=Nat
  rt:= [(6,1)]
  sh k:= [(0,bd 0),(6,.aV 11 0 none 0 (fR (bK W s k) s))]
  mh k:=A7 (bK W s k)++ [(11,.row 1 (fR (bK W s k) s) (iF (gB (bK W s k) s)))]
  inv k:= ∀j,j<k->0<=dS (bK W s j) s
  μ k:=500 -k
  init:=0
theorem nH {Y X:Wd} {T:Prop} (h:Y=X) (t:T):ak Y X T:=by
  subst h
  unfold ak aE aD ay
  repeat' (first|exact t|exact trivial|rfl|refine And.intro ?_ ?_|intro _)
theorem OW:(∀X,ak X X True=True)/\(∀x,aD x x=True)/\(∀x,aE x x=True)/\(∀x,ay x x=True):=
  ⟨λ_=>eq_true (nH rfl trivial),λ_=>eq_true (by unfold aD;simp),λ_=>eq_true (by unfold aE;simp),λ_=>eq_true (by unfold ay;simp)⟩
structure Hy where
  (s:Int) (W:Wd)
def Hz:Sy.Spec:=⟨Hy,λ⟨s,_⟩=> [.ptr 0 0 none 0 0,.v (.int .i64 s)],λ⟨_,W⟩=>bQ W,λ⟨_,W⟩=>JJ W/\cE W<=400/\mA W,λ⟨s,W⟩=> .er 35 79 (bR W s) (-1),λ⟨s,W⟩=>bQ (gg W s),
  λargs mem=>match args with| [a0,a1]=>some ⟨av (a1),dL mem 0⟩|_=>none⟩
def RE:aQ:=⟨[true],(Hz).g,none⟩
def HA:Hy->Prop:=λ⟨s,W⟩=>let a0:=W.aq;let b0:=W.ar;let c0:=W.aw;let d0:=W.az;let e0:=W.ba;let g0:=W.aN;let h0:=W.aP;let k0:=W.aT;let l0:=W.aG;let o0:=W.aI;let q0:=bR (Wd.mk a0 (λr0:Nat=>W.aa (0+r0)) b0 (λu0:Nat=>W.kinds (0+u0)) c0 (λv0:Nat=>W.af (0+v0)) d0 (λw0:Nat=>W.tasks (0+w0)) e0 (λx0:Nat=>W.ao (0+x0)) (λy0:Nat=>λz0:Nat=>W.lines (0+y0) (0+z0)) g0 (λa1:Nat=>W.bits (0+a1)) h0 (λb1:Nat=>W.aF (0+b1)) k0 (λc1:Nat=>W.aJ (0+c1)) (λd1:Nat=>λe1:Nat=>W.ready (0+d1) (0+e1)) l0 (λg1:Nat=>W.aA (0+g1)) (λJ:Nat=>λk1:Nat=>W.aj (0+J) (0+k1)) o0 (λl1:Nat=>W.aM (0+l1)) W.time) s;let o1:=q0 !=0;let q1:=SV.ptr 0 0 none 0 0=SV.ptr 0 0 none 0 0;(((((((((((((True/\a0=a0/\(∀r1:Nat,r1<a0->True/\W.aa (0+r1)=W.aa (0+r1)))/\b0=b0/\(∀u1:Nat,let v1:=W.kinds (0+u1);u1<b0->True/\v1=v1))/\c0=c0/\(∀w1:Nat,let x1:=W.af (0+w1);w1<c0->aD x1 x1))/\d0=d0/\(∀y1:Nat,let z1:=W.tasks (0+y1);y1<d0->aE z1 z1))/\e0=e0/\(∀a2:Nat,let b2:=W.ao (0+a2);a2<e0->True/\b2=b2/\(∀c2:Nat,let d2:=W.lines (0+a2) (0+c2);c2<b2->True/\d2=d2)))/\g0=g0/\(∀e2:Nat,e2<g0->True/\W.bits (0+e2)=W.bits (0+e2)))/\h0=h0/\(∀g2:Nat,let U:=W.aF (0+g2);g2<h0->True/\U=U))/\k0=k0/\(∀k2:Nat,let l2:=W.aJ (0+k2);k2<k0->True/\l2=l2/\(∀o2:Nat,let q2:=W.ready (0+k2) (0+o2);o2<l2->True/\q2=q2)))/\l0=l0/\(∀r2:Nat,let u2:=W.aA (0+r2);r2<l0->True/\u2=u2/\(∀v2:Nat,let w2:=W.aj (0+r2) (0+v2);v2<u2->ay w2 w2)))/\o0=o0/\(∀x2:Nat,x2<o0->True/\W.aM (0+x2)=W.aM (0+x2)))/\W.time=W.time)/\s=s/\True)/\
    True/\True)/\(o1=true->(q0=bR W s/\((-1):Int)=(-1))/\ak W (gg W s) True)/\(o1=false->q1/\ak W (bK W s 0) True/\(∀y2:Nat,y2<0->0<=dS (bK W s y2) s)/\(∀z2:Nat,let a3:=bK W s z2;let b3:=a3.aw;let c3:=(b3:Int);let d3:=ix a3 s;let e3:=ak a3 a3 True;let g3:=a3.aq;let h3:=a3.ar;let k3:=a3.az;let l3:=a3.ba;let o3:=a3.aN;let q3:=a3.aP;let r3:=a3.aT;let u3:=a3.aG;let v3:=a3.aI;let w3:=a3.time;let x3:=Wd.mk g3 (λy3:Nat=>a3.aa (0+y3)) h3 (λz3:Nat=>a3.kinds (0+z3)) b3 (λa4:Nat=>a3.af (0+a4)) k3 (λb4:Nat=>a3.tasks (0+b4)) l3 (λc4:Nat=>a3.ao (0+c4)) (λd4:Nat=>λe4:Nat=>a3.lines (0+d4) (0+e4)) o3 (λg4:Nat=>a3.bits (0+g4)) q3 (λh4:Nat=>a3.aF (0+h4)) r3 (λk4:Nat=>a3.aJ (0+k4)) (λl4:Nat=>λo4:Nat=>a3.ready (0+l4) (0+o4)) u3 (λq4:Nat=>a3.aA (0+q4)) (λr4:Nat=>λu4:Nat=>a3.aj (0+r4) (0+u4)) v3 (λv4:Nat=>a3.aM (0+v4)) w3;(∀w4:Nat,w4<z2->0<=dS (bK W s w4) s)->c3<=9223372036854775807->q1/\(-1)=iw 0 d3/\0=((0:Nat):Int)/\e3/\0<=b3/\(∀x4:Nat,let y4:=(x4:Int);let z4:=decide (y4<c3);let a5:=0<=y4/\y4<c3;let b5:=(a3.af (0+Int.toNat y4)).kind !=0;let c5:=cond b5 (lJ x3 s y4) false;let d5:Int:=y4+1;let e5:=ah d5=d5;let g5:=iw x4 d3;let h5:=decide (g5<0);x4<=b3->(z4=true->a5/\(b5=true->((((((((((((True/\g3=g3/\(∀k5:Nat,k5<g3->True/\a3.aa (0+k5)=a3.aa (0+k5)))/\h3=h3/\(∀l5:Nat,let o5:=a3.kinds (0+l5);l5<h3->True/\o5=o5))/\b3=b3/\(∀q5:Nat,let r5:=a3.af (0+q5);q5<b3->aD r5 r5))/\k3=k3/\(∀u5:Nat,
    let v5:=a3.tasks (0+u5);u5<k3->aE v5 v5))/\l3=l3/\(∀w5:Nat,let x5:=a3.ao (0+w5);w5<l3->True/\x5=x5/\(∀y5:Nat,let z5:=a3.lines (0+w5) (0+y5);y5<x5->True/\z5=z5)))/\o3=o3/\(∀a6:Nat,a6<o3->True/\a3.bits (0+a6)=a3.bits (0+a6)))/\q3=q3/\(∀b6:Nat,let c6:=a3.aF (0+b6);b6<q3->True/\c6=c6))/\r3=r3/\(∀d6:Nat,let e6:=a3.aJ (0+d6);d6<r3->True/\e6=e6/\(∀g6:Nat,let h6:=a3.ready (0+d6) (0+g6);g6<e6->True/\h6=h6)))/\u3=u3/\(∀k6:Nat,let l6:=a3.aA (0+k6);k6<u3->True/\l6=l6/\(∀o6:Nat,let q6:=a3.aj (0+k6) (0+o6);o6<l6->ay q6 q6)))/\v3=v3/\(∀r6:Nat,r6<v3->True/\a3.aM (0+r6)=a3.aM (0+r6)))/\w3=w3)/\y4=y4/\s=s/\True)/\True/\Inv 1000 x3/\(∃u6:∀v6:Nat,Nat,(∀w6:Nat,u6 w6<=400)/\(∀x6:Nat,let y6:=(a3.af (0+x6)).from_;x6<b3->0<=y6->u6 (Int.toNat y6)<u6 x6))/\a5/\0<=s)/\(c5=true->e5/\(∃z6:Nat,q1/\y4=iw z6 d3/\d5=(z6:Int)/\e3/\z6<=b3/\b3-z6<b3-x4))/\(c5=false->e5/\(∃a7:Nat,q1/\g5=iw a7 d3/\d5=(a7:Int)/\e3/\a7<=b3/\b3-a7<b3-x4)))/\(z4=false->(h5=true->(bR W s=0/\((-1):Int)=(-1))/\ak a3 (gg W s) True)/\(h5=false->((q1/\g5=g5/\True)/\e3/\JJ a3/\cE a3<=400)/\(∃b7:Nat,q1/\ak (b_ (bc 400) a3 g5) (bK W s b7) True/\(∀c7:Nat,c7<b7->0<=dS (bK W s c7) s)/\500-b7<500-z2))))))
set_option maxHeartbeats 2000000 in
theorem Q':aL Tryz.prog aO 18 RE:=aW (.cons TE (.cons Jf (.cons CQ .nil))) false Tryz.call18 Tryz.func18 (λ⟨s,W⟩=> [.PA (Y1 W s) λk=> [.inv (Y2 (bK W s k) s)],.Dq 0]) (V:=HA) (λ_=>by kernel_rfl) λ⟨s,W⟩ hp=>by
  dsimp only[Hz]at hp
  dsimp only[HA,tn,ah]
  simp only[aS,aZ,eq_self,implies_true,Bool.cond_self]
  simp only[cu,OW,implies_true,true_and]
  obtain⟨hJ,hc,hr⟩:=hp
  have hV:=λk=>yW (s:=s) hJ k
  have hR: ∀k,mA (bK W s k):=λk=>by
    obtain⟨r,hr⟩:=hr
    exact⟨r,DT hr k⟩
  refine⟨λh=>nH (M7 (gM (b:=bR W s==0) h)).symm trivial,λh=>?_⟩
  have h0:(bR W s==0)=true:=dy (b:=bR W s==0) h
  have hs:=(lW h0).1.1
  have hN: ∀k,(bK W s k).aw<=400:=λk=>by
    have a1:=(hV k).1.w.i.z.af
    have a2:=(hV k).1.w.i.z.k1
    omega
  have hC: ∀k,(∀j,j<k->0<=dS (bK W s j) s)->k<=400:=λk hk=>by
    have:=DU hJ k hk
    omega
  have hS: ∀k,b_ (bc 400) (bK W s k) (dS (bK W s k) s)=bK W s (k+1):=λk=>by rw[bK]
  have hT: ∀{k},(∀j,j<k->0<=dS (bK W s j) s)->0<=dS (bK W s k) s-> ∀j,j<k+1->0<=dS (bK W s j) s:=λ{k} hk hl j hj=>by
    rcases Nat.lt_or_ge j k with e|e
    · exact hk j e
    · obtain rfl:j=k:=by omega
      exact hl
  refine⟨nH rfl trivial,λk hk _=>⟨rfl,λi hi=>⟨λJ=>?_,λJ=>?_⟩⟩⟩
  · have ai:=aY J
    have hn:=hN k
    refine⟨by omega,λ_=>⟨(hV k).1.w.i,hR k,by omega,hs⟩,λU=>⟨bM (by omega) (by omega),i+1,?_,by omega,by omega,by omega⟩,λU=>⟨bM (by omega) (by omega),i+1,?_,by omega,by omega,by omega⟩⟩
    · rw[iw,show ix (bK W s k) s i=true from U];rfl
    · rw[iw,show ix (bK W s k) s i=false from U];rfl
  obtain rfl:i=(bK W s k).aw:=by have:=bD J;omega
  have Qz:=hC k hk
  rw[show iw (bK W s k).aw (ix (bK W s k) s)=dS (bK W s k) s from rfl,hS k]
  refine⟨λU=>⟨eq_of_beq h0,nH (KG h0 (by omega) hk (of_decide_eq_true U)).symm trivial⟩,λU=>⟨⟨(hV k).1,Nat.le_trans (hV k).2.cY hc⟩,k+1,nH rfl trivial,hT hk (Int.not_lt.1 (of_decide_eq_false U)),by omega⟩⟩
structure G9 where
  (s:Int) (W:Wd)
def G_:Sy.Spec:=⟨G9,λ⟨s,_⟩=> [.ptr 0 0 none 0 0,.v (.int .i64 s)],λ⟨_,W⟩=>bQ W,λ⟨_,W⟩=>JJ W/\cE W<=400/\mA W,λ⟨s,W⟩=> .v (.int .i64 (bR W s)),λ⟨s,W⟩=>bQ (gg W s),
  λargs mem=>match args with| [a0,a1]=>some ⟨av (a1),dL mem 0⟩|_=>none⟩
def Ra:aQ:=⟨[true],(G_).g,none⟩
def G':G9->Prop:=λ⟨s,W⟩=>let a0:=W.aq;let b0:=a0=a0;let c0:=W.ar;let d0:=c0=c0;let e0:=W.aw;let g0:=e0=e0;let h0:=W.az;let k0:=h0=h0;let l0:=W.ba;let o0:=l0=l0;let q0:=W.aN;let r0:=q0=q0;let u0:=W.aP;let v0:=u0=u0;let w0:=W.aT;let x0:=w0=w0;let y0:=W.aG;let z0:=y0=y0;let a1:=W.aI;let b1:=a1=a1;let c1:=W.time;let d1:=c1=c1;let e1:=s=s/\True;let g1:=bR (Wd.mk a0 (λJ:Nat=>W.aa (0+J)) c0 (λk1:Nat=>W.kinds (0+k1)) e0 (λl1:Nat=>W.af (0+l1)) h0 (λo1:Nat=>W.tasks (0+o1)) l0 (λq1:Nat=>W.ao (0+q1)) (λr1:Nat=>λu1:Nat=>W.lines (0+r1) (0+u1)) q0 (λv1:Nat=>W.bits (0+v1)) u0 (λw1:Nat=>W.aF (0+w1)) w0 (λx1:Nat=>W.aJ (0+x1)) (λy1:Nat=>λz1:Nat=>W.ready (0+y1) (0+z1)) y0 (λa2:Nat=>W.aA (0+a2)) (λb2:Nat=>λc2:Nat=>W.aj (0+b2) (0+c2)) a1 (λd2:Nat=>W.aM (0+d2)) c1) s;let e2:=g1 !=0;let g2:=Wd.mk a0 (λU:Nat=>W.aa (0+U)) c0 (λk2:Nat=>W.kinds (0+k2)) e0 (λl2:Nat=>W.af (0+l2)) h0 (λo2:Nat=>W.tasks (0+o2)) l0 (λq2:Nat=>W.ao (0+q2)) (λr2:Nat=>λu2:Nat=>W.lines (0+r2) (0+u2)) q0 (λv2:Nat=>W.bits (0+v2)) u0 (λw2:Nat=>W.aF (0+w2)) w0 (λx2:Nat=>W.aJ (0+x2)) (λy2:Nat=>λz2:Nat=>W.ready (0+y2) (0+z2)) y0 (λa3:Nat=>W.aA (0+a3)) (λb3:Nat=>λc3:Nat=>W.aj (0+b3) (0+c3)) a1 (λd3:Nat=>W.aM (0+d3)) c1;let e3:=SV.ptr 0 0 none 0 0=SV.ptr 0 0 none 0 0;let g3:=bK W s 0;let h3:=fR g3 s;let k3:=fR g2 s=h3;let l3:=bc 400;(((((((((((((True/\b0/\(∀o3:Nat,o3<a0->True/\
    W.aa (0+o3)=W.aa (0+o3)))/\d0/\(∀q3:Nat,let r3:=W.kinds (0+q3);q3<c0->True/\r3=r3))/\g0/\(∀u3:Nat,let v3:=W.af (0+u3);u3<e0->aD v3 v3))/\k0/\(∀w3:Nat,let x3:=W.tasks (0+w3);w3<h0->aE x3 x3))/\o0/\(∀y3:Nat,let z3:=W.ao (0+y3);y3<l0->True/\z3=z3/\(∀a4:Nat,let b4:=W.lines (0+y3) (0+a4);a4<z3->True/\b4=b4)))/\r0/\(∀c4:Nat,c4<q0->True/\W.bits (0+c4)=W.bits (0+c4)))/\v0/\(∀d4:Nat,let e4:=W.aF (0+d4);d4<u0->True/\e4=e4))/\x0/\(∀g4:Nat,let h4:=W.aJ (0+g4);g4<w0->True/\h4=h4/\(∀k4:Nat,let l4:=W.ready (0+g4) (0+k4);k4<h4->True/\l4=l4)))/\z0/\(∀o4:Nat,let q4:=W.aA (0+o4);o4<y0->True/\q4=q4/\(∀r4:Nat,let u4:=W.aj (0+o4) (0+r4);r4<q4->ay u4 u4)))/\b1/\(∀v4:Nat,v4<a1->True/\W.aM (0+v4)=W.aM (0+v4)))/\d1)/\e1)/\True/\True)/\(e2=true->g1=bR W s/\ak W (gg W s) True)/\(e2=false->(((((((((((((True/\b0/\(∀w4:Nat,w4<a0->True/\W.aa (0+w4)=W.aa (0+w4)))/\d0/\(∀x4:Nat,let y4:=W.kinds (0+x4);x4<c0->True/\y4=y4))/\g0/\(∀z4:Nat,let a5:=W.af (0+z4);z4<e0->aD a5 a5))/\k0/\(∀b5:Nat,let c5:=W.tasks (0+b5);b5<h0->aE c5 c5))/\o0/\(∀d5:Nat,let e5:=W.ao (0+d5);d5<l0->True/\e5=e5/\(∀g5:Nat,let h5:=W.lines (0+d5) (0+g5);g5<e5->True/\h5=h5)))/\r0/\(∀k5:Nat,k5<q0->True/\W.bits (0+k5)=W.bits (0+k5)))/\v0/\(∀l5:Nat,let o5:=W.aF (0+l5);l5<u0->True/\o5=o5))/\x0/\(∀q5:Nat,let r5:=W.aJ (0+q5);q5<w0->True/\r5=r5/\(∀u5:Nat,let v5:=W.ready (0+q5) (0+u5);u5<r5->True/\v5=v5)))/\z0/\(∀w5:Nat,let x5:=W.aA (0+w5);w5<y0->True/\x5=x5/\(∀y5:Nat,let z5:=W.aj (0+w5) (0+y5);y5<x5->ay z5 z5)))/\b1/\(∀a6:Nat,a6<a1->True/\W.aM (0+a6)=W.aM (0+a6)))/\d1)/\e1)/\True/\
    Inv 1000 g2/\(∃b6:∀c6:Nat,Nat,(∀d6:Nat,b6 d6<=400)/\(∀e6:Nat,let g6:=(W.af (0+e6)).from_;e6<e0->0<=g6->b6 (Int.toNat g6)<b6 e6))/\0<=s)/\e3/\(0=0/\k3)/\ak W g3 ((k3/\(∀h6:Nat,h6<h3->True/\gB g2 s h6=gB g3 s h6))/\True)/\(∀k6:Nat,k6<0->0<=dS (bK W s k6) s)/\(∀l6:Nat,let o6:=bK W s l6;let q6:=((fR o6 s:Nat):Int);let r6:=q6<=9223372036854775807;let u6:=decide (0<q6);let v6:Int:=q6-1;let w6:=gB o6 s (0+Int.toNat v6);let x6:=b_ l3 o6 w6;let y6:=x6.aq;let z6:=x6.ar;let a7:=x6.aw;let b7:=x6.az;let c7:=x6.ba;let d7:=x6.aN;let e7:=x6.aP;let g7:=x6.aT;let h7:=x6.aG;let k7:=x6.aI;let l7:=x6.time;let o7:=Wd.mk y6 (λq7:Nat=>x6.aa (0+q7)) z6 (λr7:Nat=>x6.kinds (0+r7)) a7 (λu7:Nat=>x6.af (0+u7)) b7 (λv7:Nat=>x6.tasks (0+v7)) c7 (λw7:Nat=>x6.ao (0+w7)) (λx7:Nat=>λy7:Nat=>x6.lines (0+x7) (0+y7)) d7 (λz7:Nat=>x6.bits (0+z7)) e7 (λa8:Nat=>x6.aF (0+a8)) g7 (λb8:Nat=>x6.aJ (0+b8)) (λc8:Nat=>λd8:Nat=>x6.ready (0+c8) (0+d8)) h7 (λe8:Nat=>x6.aA (0+e8)) (λg8:Nat=>λh8:Nat=>x6.aj (0+g8) (0+h8)) k7 (λk8:Nat=>x6.aM (0+k8)) l7;let l8:=fR o7 s;(∀o8:Nat,o8<l6->0<=dS (bK W s o8) s)->r6->(u6=true->r6->ah v6=v6/\(0<=v6/\v6<q6)/\((e3/\w6=w6/\True)/\ak o6 o6 True/\JJ o6/\cE o6<=400)/\(((((((((((((True/\y6=y6/\(∀q8:Nat,q8<y6->True/\x6.aa (0+q8)=x6.aa (0+q8)))/\z6=z6/\(∀r8:Nat,let u8:=x6.kinds (0+r8);r8<z6->True/\u8=u8))/\a7=a7/\(∀v8:Nat,let w8:=x6.af (0+v8);v8<a7->aD w8 w8))/\b7=b7/\(∀x8:Nat,let y8:=x6.tasks (0+x8);x8<b7->
    aE y8 y8))/\c7=c7/\(∀z8:Nat,let a9:=x6.ao (0+z8);z8<c7->True/\a9=a9/\(∀b9:Nat,let c9:=x6.lines (0+z8) (0+b9);b9<a9->True/\c9=c9)))/\d7=d7/\(∀d9:Nat,d9<d7->True/\x6.bits (0+d9)=x6.bits (0+d9)))/\e7=e7/\(∀e9:Nat,let g9:=x6.aF (0+e9);e9<e7->True/\g9=g9))/\g7=g7/\(∀h9:Nat,let k9:=x6.aJ (0+h9);h9<g7->True/\k9=k9/\(∀l9:Nat,let o9:=x6.ready (0+h9) (0+l9);l9<k9->True/\o9=o9)))/\h7=h7/\(∀q9:Nat,let r9:=x6.aA (0+q9);q9<h7->True/\r9=r9/\(∀u9:Nat,let v9:=x6.aj (0+q9) (0+u9);u9<r9->ay v9 v9)))/\k7=k7/\(∀w9:Nat,w9<k7->True/\x6.aM (0+w9)=x6.aM (0+w9)))/\l7=l7)/\e1)/\True/\Inv 1000 o7/\(∃x9:∀y9:Nat,Nat,(∀z9:Nat,x9 z9<=400)/\(∀ox:Nat,let tW:=(x6.af (0+ox)).from_;ox<a7->0<=tW->x9 (Int.toNat tW)<x9 ox))/\0<=s)/\(∃tX:Nat,let d10:=bK W s tX;let lI:=fR d10 s;let g10:=l8=lI;e3/\(0=0/\g10)/\ak x6 d10 ((g10/\(∀dU:Nat,dU<lI->True/\gB o7 s dU=gB d10 s dU))/\True)/\(∀oy:Nat,oy<tX->0<=dS (bK W s oy) s)/\500-tX<500-l6))/\(u6=false->0=bR W s/\ak o6 (gg W s) True)))
set_option maxHeartbeats 2000000 in
theorem Bl:aL Tryz.prog aO 9 Ra:=aW (.cons Sv (.cons Ce (.cons KH .nil))) false Tryz.call9 Tryz.func9 (λ⟨s,W⟩=> [.inv (Y3 W s)]) (V:=G') (λ_=>by kernel_rfl) λ⟨s,W⟩ hp=>by
  dsimp only[G_]at hp
  dsimp only[G',tn,ah]
  simp only[aS,aZ,eq_self,implies_true,Bool.cond_self]
  simp only[cu,OW,implies_true,true_and]
  obtain⟨hJ,hc,hr⟩:=hp
  have hV:=λk=>yW (s:=s) hJ k
  have hR: ∀k,mA (bK W s k):=λk=>by
    obtain⟨r,hr⟩:=hr
    exact⟨r,DT hr k⟩
  refine⟨λh=>nH (M7 (gM (b:=bR W s==0) h)).symm trivial,λh=>?_⟩
  have h0:(bR W s==0)=true:=dy (b:=bR W s==0) h
  have hs:=(lW h0).1.1
  have hN: ∀k,(bK W s k).aw<=400:=λk=>by
    have a1:=(hV k).1.w.i.z.af
    have a2:=(hV k).1.w.i.z.k1
    omega
  have hC: ∀k,(∀j,j<k->0<=dS (bK W s j) s)->k<=400:=λk hk=>by
    have:=DU hJ k hk
    omega
  have hS: ∀k,b_ (bc 400) (bK W s k) (dS (bK W s k) s)=bK W s (k+1):=λk=>by rw[bK]
  have hT: ∀{k},(∀j,j<k->0<=dS (bK W s j) s)->0<=dS (bK W s k) s-> ∀j,j<k+1->0<=dS (bK W s j) s:=λ{k} hk hl j hj=>by
    rcases Nat.lt_or_ge j k with e|e
    · exact hk j e
    · obtain rfl:j=k:=by omega
      exact hl
  refine⟨⟨hJ.w.i,hr,hs⟩,rfl,nH rfl ⟨rfl,λ_ _=>rfl⟩,λk hk _=>⟨λJ _=>?_,λJ=>?_⟩⟩
  · have hp:0<fR (bK W s k) s:=by have:=of_decide_eq_true J;omega
    have hn:=hN k
    have hle:fR (bK W s k) s<=(bK W s k).aw:=lX _ _
    have e1:((fR (bK W s k) s:Int) -1).toNat=fR (bK W s k) s -1:=by omega
    have e2:gB (bK W s k) s (fR (bK W s k) s -1)=dS (bK W s k) s:=(DV (q:=ix (bK W s k) s) (z:=0) (bK W s k).aw).2 (Nat.ne_of_gt hp)
    have hl:0<=dS (bK W s k) s:=by
      obtain⟨j,_,_,ej⟩:=sF (z:=(0:Int)) (t:=λi=>(i:Int)) (p:=kZ (bK W s k) s) (n:=(bK W s k).aw) (a:=fR (bK W s k) s -1) (show fR (bK W s k) s -1<fR (bK W s k) s by omega)
      rw[<-e2]
      show 0<=aU 0 _ _ _ _
      rw[ej];omega
    rw[e1,e2,hS k]
    have Qz:=hC k hk
    exact⟨bM (by omega) (by omega),⟨by omega,by omega⟩,⟨(hV k).1,Nat.le_trans (hV k).2.cY hc⟩,⟨(hV (k+1)).1.w.i,hR (k+1),hs⟩,k+1,rfl,nH rfl ⟨rfl,λ_ _=>rfl⟩,hT hk hl,by omega⟩
  · have J:=of_decide_eq_false J
    have e:dS (bK W s k) s= -1:=(DV (q:=ix (bK W s k) s) (z:=0) (bK W s k).aw).1 (show fR (bK W s k) s=0 by omega)
    have Qz:=hC k hk
    exact⟨(eq_of_beq h0).symm,nH (KG h0 (by omega) hk (by omega)).symm trivial⟩
end Go.Proofs.YtmieeldmfehpoaaGreatDoor
set_option linter.unusedVariables false
set_option linter.unusedSimpArgs false
set_option maxRecDepth 100000
namespace Go.Proofs.YtmieeldmfehpoaaGreatDoor
open Go.RowKit Go.Sy
structure P5 where
  (e a x y:Int)
def aap:Sy.Spec:=⟨P5,λ⟨e,a,x,y⟩=> [.er 35 79 e a,.ag 2 (aH [.v (.int .i64 x),.v (.int .i64 y)])],λ_=> [],λ_=>True,λ⟨e,a,x,y⟩=> .v (.bool (e==x&&a==y)),λ_=> [],
  λargs mem=>match args with| [a0,a1]=>some ⟨P7 a0,P8 a0,av (cy a1 0),av (cy a1 1)⟩|_=>none⟩
def aaq:aQ:=⟨[],(aap).g,none⟩
def P6:P5->Prop:=λ⟨e,a,x,y⟩=>True/\(((e=e/\a=a)/\True)/\True/\True)/\cond (e==x) (a==y) false=(e==x&&a==y)/\True
theorem zG:aL Tryz.prog ia 13 aaq:=aW (.cons V1 .nil) false Tryz.call13 Tryz.func13 (λ_=> []) (V:=P6) (λ_=>by kernel_rfl) λ⟨e,a,x,y⟩ hp=>by
  dsimp only[P6,tn,ah]
  exact⟨trivial,by simp,by cases e==x<;>rfl,trivial⟩
end Go.Proofs.YtmieeldmfehpoaaGreatDoor
set_option linter.unusedVariables false
set_option linter.unusedSimpArgs false
set_option maxRecDepth 100000
namespace Go.Proofs.YtmieeldmfehpoaaGreatDoor
open Go.RowKit Go.Sy
def tU (W:Wd):SV:= .ag 11 (aH [.sl false 1 W.aq (iF W.aa),.sl false 1 W.ar (iF W.kinds),.sl false 7 W.aw (rF λi=>kx (W.af i)),.sl false 20 W.az (rF λi=>gZ (W.tasks i)),.sl false 1 W.ba (λi _=> .sl false 1 (W.ao i) (iF (W.lines i))),.sl false 1 W.aN (iF W.bits),.sl false 1 W.aP (iF W.aF),.sl false 1 W.aT (λi _=> .sl false 1 (W.aJ i) (iF (W.ready i))),.sl false 1 W.aG (λi _=> .sl false 4 (W.aA i) (rF λk=>eG (W.aj i k))),.sl false 1 W.aI (iF W.aM),.v (.int .i64 W.time)])
def oW:Wd:=⟨0,λ_=>0,0,λ_=>0,0,λ_=>zSl,0,λ_=>bu.blank,0,λ_=>0,λ_ _=>0,0,λ_=>0,0,λ_=>0,0,λ_=>0,λ_ _=>0,0,λ_=>0,λ_ _=>fo,0,λ_=>0,0⟩
def mC (e:Int) (W:Wd):Wd:=bif e==0 then W else oW
theorem MO {e:Int} (W:Wd) (h:(e==0)=false):mC e W=oW:=by unfold mC;rw[h];rfl
theorem KF {e:Int} (W:Wd) (h:(e==0)=true):mC e W=W:=by unfold mC;rw[h];rfl
theorem HW (n:Nat) (f:Nat->Int):dk n f n f=true:=by simp[dk,j5]
theorem Ru (n:Nat) (k:Nat->Nat) (f:Nat->Nat->Int):lq n k f n k f=true:=by simp[lq,j5,HW]
theorem Rv (n:Nat) (f:Nat->bI):jL n f n f=true:=by simp[jL,j5,m4]
theorem RD (W:Wd):kg W W=true:=by simp[kg,HW,Ru,Rv,j5,oa,ke]
theorem zF {W:Wd} (h:Sm W):Lg W:=by
  obtain⟨J,U,h3,h4,h5,h6,h7,h8,h9,dU,fm,iK,jq⟩:=h
  exact⟨J,by omega,h3,by omega,by omega,by omega,by omega,by omega,by omega,by omega,λi hi=>by have:=fm i hi;omega,λi hi=>by have:=iK i hi;omega,λi hi=>by have:=jq i hi;omega⟩
theorem PQ {W:Wd} (h:gA W):wE W=0:=gA.iff.2 h
structure IT where
  (A:Wd)
def IU:Sy.Spec:=⟨IT,λ⟨A⟩=> [eY A],λ_=> [],λ⟨A⟩=>A.aq=0/\A.ar=0/\A.aw=0/\A.az=0/\A.ba=0/\A.aN=0/\A.aP=0/\A.aT=0/\A.aG=0/\A.aI=0/\A.time=0,λ_=> .v (.bool true),λ_=> [],
  λargs mem=>match args with| [a0]=>some ⟨eP a0⟩|_=>none⟩
def Td:aQ:=⟨[],(IU).g,none⟩
def IV:IT->Prop:=λ⟨A⟩=>let a0:Int:=((A.aq:Nat):Int)+((A.ar:Nat):Int);let b0:Int:=a0+((A.aw:Nat):Int);let c0:Int:=b0+((A.az:Nat):Int);let d0:Int:=c0+((A.ba:Nat):Int);let e0:Int:=d0+((A.aN:Nat):Int);let g0:Int:=e0+((A.aP:Nat):Int);let h0:Int:=g0+((A.aT:Nat):Int);let k0:Int:=h0+((A.aG:Nat):Int);let l0:Int:=k0+((A.aI:Nat):Int);let o0:Int:=l0+A.time;True/\(((A.aq:Nat):Int)<=9223372036854775807->((A.ar:Nat):Int)<=9223372036854775807->ah a0=a0/\(((A.aw:Nat):Int)<=9223372036854775807->ah b0=b0/\(((A.az:Nat):Int)<=9223372036854775807->ah c0=c0/\(((A.ba:Nat):Int)<=9223372036854775807->ah d0=d0/\(((A.aN:Nat):Int)<=9223372036854775807->ah e0=e0/\(((A.aP:Nat):Int)<=9223372036854775807->ah g0=g0/\(((A.aT:Nat):Int)<=9223372036854775807->ah h0=h0/\(((A.aG:Nat):Int)<=9223372036854775807->ah k0=k0/\(((A.aI:Nat):Int)<=9223372036854775807->ah l0=l0/\ah o0=o0/\(o0==0)=true/\True)))))))))
theorem Hx:aL Tryz.prog ia 19 Td:=aW .nil false Tryz.call19 Tryz.func19 (λ_=> []) (V:=IV) (λ_=>by kernel_rfl) λ⟨A⟩ hp=>by
  dsimp only[IU]at hp
  dsimp only[IV,tn,ah,ak,aE,aD,ay]
  obtain⟨J,U,h3,h4,h5,h6,h7,h8,h9,dU,fm⟩:=hp
  simp[J,U,h3,h4,h5,h6,h7,h8,h9,dU,fm,IntKind.wrap_i64]
structure su where
  (W:Wd)
def yk:Sy.Spec:=⟨su,λ⟨W⟩=> [eY W],λ_=> [],λ⟨W⟩=>Sm W,λ⟨W⟩=> .v (.bool (wE W==0)),λ_=> [],
  λargs mem=>match args with| [a0]=>some ⟨eP a0⟩|_=>none⟩
def U4:aQ:=⟨[],(yk).g,none⟩
def Kf:su->Prop:=λ⟨W⟩=>let a0:=W.ar;let b0:=W.aw;let c0:=W.az;let d0:=W.ba;let e0:=W.aP;let g0:=W.aT;True/\(((((((((((((True/\W.aq=W.aq/\(∀h0:Nat,h0<W.aq->True/\W.aa h0=W.aa h0))/\a0=a0/\(∀k0:Nat,k0<a0->True/\W.kinds k0=W.kinds k0))/\b0=b0/\(∀l0:Nat,l0<b0->aD (W.af l0) (W.af l0)))/\c0=c0/\(∀o0:Nat,o0<c0->aE (W.tasks o0) (W.tasks o0)))/\d0=d0/\(∀q0:Nat,let r0:=W.ao q0;q0<d0->True/\r0=r0/\(∀u0:Nat,u0<r0->True/\W.lines q0 u0=W.lines q0 u0)))/\W.aN=W.aN/\(∀v0:Nat,v0<W.aN->True/\W.bits v0=W.bits v0))/\e0=e0/\(∀w0:Nat,w0<e0->True/\W.aF w0=W.aF w0))/\g0=g0/\(∀x0:Nat,let y0:=W.aJ x0;x0<g0->True/\y0=y0/\(∀z0:Nat,z0<y0->True/\W.ready x0 z0=W.ready x0 z0)))/\W.aG=W.aG/\(∀a1:Nat,let b1:=W.aA a1;a1<W.aG->True/\b1=b1/\(∀c1:Nat,c1<b1->ay (W.aj a1 c1) (W.aj a1 c1))))/\W.aI=W.aI/\(∀d1:Nat,d1<W.aI->True/\W.aM d1=W.aM d1))/\W.time=W.time)/\True)/\True/\BB.match_1 (λe1:xy=>Prop) (xy.mk W) (λg1:Wd=>Sm g1))/\(wE W==0)=(wE W==0)/\True
set_option maxHeartbeats 1000000 in
theorem IW:aL Tryz.prog ia 21 U4:=aW (.cons (Rh.up ft) .nil) false Tryz.call21 Tryz.func21 (λ_=> []) (V:=Kf) (λ_=>by kernel_rfl) λ⟨W⟩ hp=>by
  dsimp only[yk]at hp
  dsimp only[Kf,tn,ah,ak,aE,aD,ay]
  simp only[aS,aZ,eq_self,implies_true,Bool.cond_self]
  exact hp
structure Kg where
  (W:Wd)
def Kh:Sy.Spec:=⟨Kg,λ⟨W⟩=> [eY W],λ_=> [],λ⟨W⟩=>Sm W/\gA W,λ_=> .v (.int .i64 0),λ_=> [],
  λargs mem=>match args with| [a0]=>some ⟨eP a0⟩|_=>none⟩
def U5:aQ:=⟨[],(Kh).g,none⟩
def Ki:Kg->Prop:=λ⟨W⟩=>let a0:=W.ar;let b0:=W.aw;let c0:=W.az;let d0:=W.ba;let e0:=W.aP;let g0:=W.aT;True/\(((((((((((((True/\W.aq=W.aq/\(∀h0:Nat,h0<W.aq->True/\W.aa h0=W.aa h0))/\a0=a0/\(∀k0:Nat,k0<a0->True/\W.kinds k0=W.kinds k0))/\b0=b0/\(∀l0:Nat,l0<b0->aD (W.af l0) (W.af l0)))/\c0=c0/\(∀o0:Nat,o0<c0->aE (W.tasks o0) (W.tasks o0)))/\d0=d0/\(∀q0:Nat,let r0:=W.ao q0;q0<d0->True/\r0=r0/\(∀u0:Nat,u0<r0->True/\W.lines q0 u0=W.lines q0 u0)))/\W.aN=W.aN/\(∀v0:Nat,v0<W.aN->True/\W.bits v0=W.bits v0))/\e0=e0/\(∀w0:Nat,w0<e0->True/\W.aF w0=W.aF w0))/\g0=g0/\(∀x0:Nat,let y0:=W.aJ x0;x0<g0->True/\y0=y0/\(∀z0:Nat,z0<y0->True/\W.ready x0 z0=W.ready x0 z0)))/\W.aG=W.aG/\(∀a1:Nat,let b1:=W.aA a1;a1<W.aG->True/\b1=b1/\(∀c1:Nat,c1<b1->ay (W.aj a1 c1) (W.aj a1 c1))))/\W.aI=W.aI/\(∀d1:Nat,d1<W.aI->True/\W.aM d1=W.aM d1))/\W.time=W.time)/\True)/\True/\yk.match_1 (λe1:su=>Prop) (su.mk W) (λg1:Wd=>Sm g1))/\((wE W==0)=true->(0:Int)=0/\True)/\((wE W==0)=false->(8:Int)=0/\True)
set_option maxHeartbeats 1000000 in
theorem Ss:aL Tryz.prog ia 7 U5:=aW (.cons IW .nil) false Tryz.call7 Tryz.func7 (λ_=> []) (V:=Ki) (λ_=>by kernel_rfl) λ⟨W⟩ hp=>by
  dsimp only[Kh]at hp
  dsimp only[Ki,tn,ah,ak,aE,aD,ay]
  simp only[aS,aZ,eq_self,implies_true,Bool.cond_self]
  exact⟨hp.1,λh=>by rw[PQ hp.2]at h;exact absurd h (by decide)⟩
structure Kj where
  (W:Wd)
def Kk:Sy.Spec:=⟨Kj,λ⟨W⟩=> [eY W],λ_=> [],λ⟨W⟩=>Sm W/\wE W≠0,λ_=> .v (.int .i64 8),λ_=> [],
  λargs mem=>match args with| [a0]=>some ⟨eP a0⟩|_=>none⟩
def U6:aQ:=⟨[],(Kk).g,none⟩
def Kl:Kj->Prop:=λ⟨W⟩=>let a0:=W.ar;let b0:=W.aw;let c0:=W.az;let d0:=W.ba;let e0:=W.aP;let g0:=W.aT;True/\(((((((((((((True/\W.aq=W.aq/\(∀h0:Nat,h0<W.aq->True/\W.aa h0=W.aa h0))/\a0=a0/\(∀k0:Nat,k0<a0->True/\W.kinds k0=W.kinds k0))/\b0=b0/\(∀l0:Nat,l0<b0->aD (W.af l0) (W.af l0)))/\c0=c0/\(∀o0:Nat,o0<c0->aE (W.tasks o0) (W.tasks o0)))/\d0=d0/\(∀q0:Nat,let r0:=W.ao q0;q0<d0->True/\r0=r0/\(∀u0:Nat,u0<r0->True/\W.lines q0 u0=W.lines q0 u0)))/\W.aN=W.aN/\(∀v0:Nat,v0<W.aN->True/\W.bits v0=W.bits v0))/\e0=e0/\(∀w0:Nat,w0<e0->True/\W.aF w0=W.aF w0))/\g0=g0/\(∀x0:Nat,let y0:=W.aJ x0;x0<g0->True/\y0=y0/\(∀z0:Nat,z0<y0->True/\W.ready x0 z0=W.ready x0 z0)))/\W.aG=W.aG/\(∀a1:Nat,let b1:=W.aA a1;a1<W.aG->True/\b1=b1/\(∀c1:Nat,c1<b1->ay (W.aj a1 c1) (W.aj a1 c1))))/\W.aI=W.aI/\(∀d1:Nat,d1<W.aI->True/\W.aM d1=W.aM d1))/\W.time=W.time)/\True)/\True/\yk.match_1 (λe1:su=>Prop) (su.mk W) (λg1:Wd=>Sm g1))/\((wE W==0)=true->(0:Int)=8/\True)/\((wE W==0)=false->(8:Int)=8/\True)
set_option maxHeartbeats 1000000 in
theorem Su:aL Tryz.prog ia 7 U6:=aW (.cons IW .nil) false Tryz.call7 Tryz.func7 (λ_=> []) (V:=Kl) (λ_=>by kernel_rfl) λ⟨W⟩ hp=>by
  dsimp only[Kk]at hp
  dsimp only[Kl,tn,ah,ak,aE,aD,ay]
  simp only[aS,aZ,eq_self,implies_true,Bool.cond_self]
  exact⟨hp.1,λh=>absurd (eq_of_beq h) hp.2⟩
structure Mj where
  (W:Wd)
def Mk:Sy.Spec:=⟨Mj,λ⟨W⟩=> [eY W,.aK],λ_=> [],λ⟨W⟩=>Sm W/\wE W≠0,λ_=> .tp 2 (aH [tU oW,.er 35 79 8 (-1)]),λ_=> [],
  λargs mem=>match args with| [a0,a1]=>some ⟨eP a0⟩|_=>none⟩
def WM:aQ:=⟨[],(Mk).g,none⟩
def Ml:Mj->Prop:=λ⟨W⟩=>let a0:=W.ar;let b0:=W.aw;let c0:=W.az;let d0:=W.ba;let e0:=W.aP;let g0:=W.aT;let h0:=0=0;tn 2 ((((((((((((((True/\W.aq=W.aq/\(∀k0:Nat,k0<W.aq->True/\W.aa k0=W.aa k0))/\a0=a0/\(∀l0:Nat,l0<a0->True/\W.kinds l0=W.kinds l0))/\b0=b0/\(∀o0:Nat,o0<b0->aD (W.af o0) (W.af o0)))/\c0=c0/\(∀q0:Nat,q0<c0->aE (W.tasks q0) (W.tasks q0)))/\d0=d0/\(∀r0:Nat,let u0:=W.ao r0;r0<d0->True/\u0=u0/\(∀v0:Nat,v0<u0->True/\W.lines r0 v0=W.lines r0 v0)))/\W.aN=W.aN/\(∀w0:Nat,w0<W.aN->True/\W.bits w0=W.bits w0))/\e0=e0/\(∀x0:Nat,x0<e0->True/\W.aF x0=W.aF x0))/\g0=g0/\(∀y0:Nat,let z0:=W.aJ y0;y0<g0->True/\z0=z0/\(∀a1:Nat,a1<z0->True/\W.ready y0 a1=W.ready y0 a1)))/\W.aG=W.aG/\(∀b1:Nat,let c1:=W.aA b1;b1<W.aG->True/\c1=c1/\(∀d1:Nat,d1<c1->ay (W.aj b1 d1) (W.aj b1 d1))))/\W.aI=W.aI/\(∀e1:Nat,e1<W.aI->True/\W.aM e1=W.aM e1))/\W.time=W.time)/\True)/\True/\uM.match_1 (λg1:oH=>Prop) (oH.mk W) (λJ:Wd=>Sm J))/\((wE W !=0)=true->tn 10 True/\((True/\((((((((((True/\h0)/\h0)/\h0)/\h0)/\h0)/\h0)/\h0)/\h0)/\h0)/\h0)/\(0:Int)=0)/\(8:Int)≠0/\(8:Int)=8/\((-1):Int)=(-1))/\True)/\((wE W !=0)=false->False))
set_option maxHeartbeats 1000000 in
theorem TD:aL Tryz.prog ia 16 WM:=aW (.cons (BM.up ft) .nil) false Tryz.call16 Tryz.func16 (λ_=> []) (V:=Ml) (λ_=>by kernel_rfl) λ⟨W⟩ hp=>by
  dsimp only[Mk]at hp
  dsimp only[Ml,tn,ah,ak,aE,aD,ay]
  simp only[aS,aZ,eq_self,implies_true,Bool.cond_self]
  exact⟨hp.1,λ_=>by decide,λh=>absurd (by simpa using h) hp.2⟩
structure yV where
  (W:Wd)
def DS:Sy.Spec:=⟨yV,λ⟨W⟩=> [tU oW,.er 35 79 8 (-1),eY W,.v (.int .i64 8),.aK],λ_=> [],λ⟨W⟩=>Lg W,λ_=> .v (.bool true),λ_=> [],
  λargs mem=>match args with| [a0,a1,a2,a3,a4]=>some ⟨eP a2⟩|_=>none⟩
def Yz:aQ:=⟨[],(DS).g,none⟩
def OD:yV->Prop:=λ⟨W⟩=>let a0:=W.aq;let b0:=a0=a0;let c0:=W.ar;let d0:=c0=c0;let e0:=W.aw;let g0:=e0=e0;let h0:=W.az;let k0:=h0=h0;let l0:=W.ba;let o0:=l0=l0;let q0:=W.aN;let r0:=q0=q0;let u0:=W.aP;let v0:=u0=u0;let w0:=W.aT;let x0:=w0=w0;let y0:=W.aG;let z0:=y0=y0;let a1:=W.aI;let b1:=a1=a1;let c1:=W.time=W.time;let d1:=True/\True;let e1:=(8:Int)==0;let g1:=e1=true;let J:=(8:Int)=8;let k1:=(8:Int)==8&&((-1):Int)==(-1);let l1:=0=0;let o1:=(0:Int)=0;let q1:=l1/\(∀r1:Nat,r1<0->True/\o1);let u1:=True/\q1;let v1:=cp.mk 0 0 0 0 0 0 0;let w1:=bu.mk 0 0 0 0 0 0 0 0 0 0 0 (-1) (-1) (-1) (-1) 0 0 (-1) 0 0;let x1:=l1/\(∀y1:Nat,y1<0->u1);let z1:=bI.mk 0 0 0 false;let a2:=(((((((((u1/\q1)/\l1/\(∀b2:Nat,b2<0->aD v1 v1))/\l1/\(∀c2:Nat,c2<0->aE w1 w1))/\x1)/\q1)/\q1)/\x1)/\l1/\(∀d2:Nat,d2<0->True/\l1/\(∀e2:Nat,e2<0->ay z1 z1)))/\q1)/\o1;tn 2 ((((((((((((((True/\b0/\(∀g2:Nat,g2<a0->True/\W.aa g2=W.aa g2))/\d0/\(∀U:Nat,U<c0->True/\W.kinds U=W.kinds U))/\g0/\(∀k2:Nat,k2<e0->aD (W.af k2) (W.af k2)))/\k0/\(∀l2:Nat,l2<h0->aE (W.tasks l2) (W.tasks l2)))/\o0/\(∀o2:Nat,let q2:=W.ao o2;o2<l0->True/\q2=q2/\(∀r2:Nat,r2<q2->True/\W.lines o2 r2=W.lines o2 r2)))/\r0/\(∀u2:Nat,u2<q0->True/\W.bits u2=W.bits u2))/\v0/\(∀v2:Nat,v2<u0->True/\W.aF v2=W.aF v2))/\x0/\(∀w2:Nat,let x2:=W.aJ w2;w2<w0->True/\x2=x2/\(∀y2:Nat,y2<x2->True/\W.ready w2 y2=W.ready w2 y2)))/\z0/\(∀z2:Nat,let a3:=W.aA z2;z2<y0->True/\a3=a3/\(∀b3:Nat,b3<a3->ay (W.aj z2 b3) (W.aj z2 b3))))/\b1/\(∀c3:Nat,c3<a1->True/\W.aM c3=W.aM c3))/\c1)/\True)/\True/\
    sD.match_1 (λd3:mN=>Prop) (mN.mk W) (λe3:Wd=>Lg e3))/\True/\tn 9 d1/\(g1->False)/\(e1=false->(((8:Int) !=0)=true->((J/\True)/\d1)/\(((J/\((-1):Int)=(-1))/\((True/\J)/\((-1):Int)=(-1))/\True)/\d1)/\(k1=true->(a2/\True)/\True/\l1/\l1/\l1/\l1/\l1/\l1/\l1/\l1/\l1/\l1/\o1)/\cond k1 true false=true/\True)/\(((8:Int) !=0)=false->(g1->(a2/\(((((((((((True/\b0/\(∀g3:Nat,g3<a0->True/\W.aa (0+g3)=W.aa (0+g3)))/\d0/\(∀h3:Nat,let k3:=W.kinds (0+h3);h3<c0->True/\k3=k3))/\g0/\(∀l3:Nat,let o3:=W.af (0+l3);l3<e0->aD o3 o3))/\k0/\(∀q3:Nat,let r3:=W.tasks (0+q3);q3<h0->aE r3 r3))/\o0/\(∀u3:Nat,let v3:=W.ao (0+u3);u3<l0->True/\v3=v3/\(∀w3:Nat,let x3:=W.lines (0+u3) (0+w3);w3<v3->True/\x3=x3)))/\r0/\(∀y3:Nat,y3<q0->True/\W.bits (0+y3)=W.bits (0+y3)))/\v0/\(∀z3:Nat,let a4:=W.aF (0+z3);z3<u0->True/\a4=a4))/\x0/\(∀b4:Nat,let c4:=W.aJ (0+b4);b4<w0->True/\c4=c4/\(∀d4:Nat,let e4:=W.ready (0+b4) (0+d4);d4<c4->True/\e4=e4)))/\z0/\(∀g4:Nat,let h4:=W.aA (0+g4);g4<y0->True/\h4=h4/\(∀k4:Nat,let l4:=W.aj (0+g4) (0+k4);k4<h4->ay l4 l4)))/\b1/\(∀o4:Nat,o4<a1->True/\W.aM (0+o4)=W.aM (0+o4)))/\c1)/\True)/\d1)/\
    cond e1 (kg (Wd.mk 0 (λq4:Nat=>0) 0 (λr4:Nat=>0) 0 (λu4:Nat=>v1) 0 (λv4:Nat=>w1) 0 (λw4:Nat=>0) (λx4:Nat=>λy4:Nat=>0) 0 (λz4:Nat=>0) 0 (λa5:Nat=>0) 0 (λb5:Nat=>0) (λc5:Nat=>λd5:Nat=>0) 0 (λe5:Nat=>0) (λg5:Nat=>λh5:Nat=>z1) 0 (λk5:Nat=>0) 0) (Wd.mk a0 (λl5:Nat=>W.aa (0+l5)) c0 (λo5:Nat=>W.kinds (0+o5)) e0 (λq5:Nat=>W.af (0+q5)) h0 (λr5:Nat=>W.tasks (0+r5)) l0 (λu5:Nat=>W.ao (0+u5)) (λv5:Nat=>λw5:Nat=>W.lines (0+v5) (0+w5)) q0 (λx5:Nat=>W.bits (0+x5)) u0 (λy5:Nat=>W.aF (0+y5)) w0 (λz5:Nat=>W.aJ (0+z5)) (λa6:Nat=>λb6:Nat=>W.ready (0+a6) (0+b6)) y0 (λc6:Nat=>W.aA (0+c6)) (λd6:Nat=>λe6:Nat=>W.aj (0+d6) (0+e6)) a1 (λg6:Nat=>W.aM (0+g6)) W.time)) false=true/\True)))
set_option maxHeartbeats 1000000 in
theorem VE:aL Tryz.prog ia 6 Yz:=aW (.cons (xY.up ft) (.cons zG (.cons (vk.up ft) (.cons Hx (.cons (GZ.up ft) .nil))))) false Tryz.call6 Tryz.func6 (λ_=> []) (V:=OD) (λ_=>by kernel_rfl) λ⟨W⟩ hp=>by
  dsimp only[DS]at hp
  dsimp only[OD,tn,ah,ak,aE,aD,ay]
  simp only[aS,aZ,eq_self,implies_true,Bool.cond_self]
  exact⟨hp,λh=>absurd h (by decide),λ_=>⟨λ_=>by decide,λh=>absurd h (by decide)⟩⟩
end Go.Proofs.YtmieeldmfehpoaaGreatDoor
