/- A frame that becomes nothing: the document. -/
import Derived.Test.YtmieeldmfehpoaaGreatDoorYN
set_option linter.unusedVariables false
set_option linter.unusedSimpArgs false
set_option linter.unusedVariables false
set_option linter.unusedSimpArgs false
set_option maxRecDepth 100000
namespace Go.Proofs.YtmieeldmfehpoaaGreatDoor
open Go.RowKit Go.Sy
def od (W:Wd) (f k:Int) (z:Nat):Cut where
  σ:=Nat
  rt:= []
  sh _:= [(0,bd 0),(z,.v (.int .i64 k))]
  mem _:=bQ (kz W f)
  inv _:=True
  dec _ _:=0
def la (k:Nat) (f:Int) (x:bu):bu:=bif Nat.beq k 4 then wZ f x else bif Nat.beq k 5 then tZ f x else bif Nat.beq k 7 then mD 7 f x else x
def df (k:Nat) (W:Wd) (f:Int) (i q:Nat):bu:=bif Nat.blt q i then la k f (W.tasks q)else W.tasks q
theorem dd {k:Nat} {W:Wd} {f:Int} {i q:Nat} (h:q<i):df k W f i q=la k f (W.tasks q):=by unfold df;rw[cD h];rfl
theorem de {k:Nat} {W:Wd} {f:Int} {i q:Nat} (h:i<=q):df k W f i q=W.tasks q:=by unfold df;rw[eI h];rfl
def E8 (k:Nat) (W:Wd) (f:Int) (l:List (Nat×SV)) (z:Nat):bS where
  σ:=Nat
  rt:= []
  sh i:=l++ [(z,.v (.int .i64 i))]
  mh i:= [(4,.row 20 W.az (rF λq=>gZ (df k W f i q)))]
  inv i:=i<=W.az
  μ i:=W.az -i
  init:=0
def te (n:Nat) (l:List (Nat×SV)) (z:Nat):bS where
  σ:=Nat
  rt:= []
  sh i:=l++ [(z,.v (.int .i64 i))]
  mh _:= []
  inv i:=i<=n
  μ i:=n -i
  init:=0
def A7 (W:Wd):List (Nat×bh):= [(0,PW 1 W),(1,.row 1 W.aq (iF W.aa)),(2,.row 1 W.ar (iF W.kinds)),(3,.row 7 W.aw (rF λi=>kx (W.af i))),(4,.row 20 W.az (rF λi=>gZ (W.tasks i))),(5,.row 1 W.ba (λi _=> .il 1 (W.ao i) (iF (W.lines i)))),(6,.row 1 W.aN (iF W.bits)),(7,.row 1 W.aP (iF W.aF)),(8,.row 1 W.aT (λi _=> .il 1 (W.aJ i) (iF (W.ready i)))),(9,.row 1 W.aG (λi _=> .il 4 (W.aA i) (rF λk=>eG (W.aj i k)))),(10,.row 1 W.aI (iF W.aM))]
def nS (D:Wd->Int->Wd) (W:Wd) (f:Int) (l:List (Nat×SV)) (z:Nat):bS where
  σ:=Nat
  rt:= []
  sh i:=l++ [(z,.v (.int .i64 (15 -i)))]
  mh i:=A7 (gm D W f i)
  inv i:=i<=16
  μ i:=16 -i
  init:=0
def cz (k:Nat) (W:Wd) (f:Int) (s i:Nat):bu:=bif fF s (W.lines f.toNat) i then{df k W f W.az i with st:=0,loc:= -1}else df k W f W.az i
def nT (k:Nat) (W:Wd) (f:Int) (l:List (Nat×SV)) (z:Nat):bS where
  σ:=Nat
  rt:= []
  sh i:=l++ [(z,.v (.int .i64 i))]
  mh i:= [(4,.row 20 W.az (rF λq=>gZ (cz k W f i q)))]
  inv i:=i<=W.ao f.toNat
  μ i:=W.ao f.toNat -i
  init:=0
theorem Px {W:Wd} {f:Int} {j:Nat} (h:decide (0<=(bif (bN (kz W f) f.toNat (-1) 0 f.toNat).aX==f then -1 else(bN (kz W f) f.toNat (-1) 0 f.toNat).aX))=true):((((((((((((((((((((bif Nat.beq j f.toNat then 0 else(bN (kz W f) f.toNat (-1) 0 j).r0)=(cJ (ct (kz W f) f) f j).r0/\(bif Nat.beq j f.toNat then 0 else(bN (kz W f) f.toNat (-1) 0 j).r1)=(cJ (ct (kz W f) f) f j).r1)/\(bif Nat.beq j f.toNat then 0 else(bN (kz W f) f.toNat (-1) 0 j).r2)=(cJ (ct (kz W f) f) f j).r2)/\(bif Nat.beq j f.toNat then 0 else(bN (kz W f) f.toNat (-1) 0 j).r3)=(cJ (ct (kz W f) f) f j).r3)/\(bif Nat.beq j f.toNat then 0 else(bN (kz W f) f.toNat (-1) 0 j).r4)=(cJ (ct (kz W f) f) f j).r4)/\(bif Nat.beq j f.toNat then 0 else(bN (kz W f) f.toNat (-1) 0 j).r5)=(cJ (ct (kz W f) f) f j).r5)/\(bif Nat.beq j f.toNat then 0 else(bN (kz W f) f.toNat (-1) 0 j).r6)=(cJ (ct (kz W f) f) f j).r6)/\(bif Nat.beq j f.toNat then 0 else(bN (kz W f) f.toNat (-1) 0 j).r7)=(cJ (ct (kz W f) f) f j).r7)/\(bif Nat.beq j f.toNat then 0 else(bN (kz W f) f.toNat (-1) 0 j).pc)=(cJ (ct (kz W f) f) f j).pc)/\(bif Nat.beq j f.toNat then 0 else(bif Nat.beq j (bif (bN (kz W f) f.toNat (-1) 0 f.toNat).aX==f then -1 else(bN (kz W f) f.toNat (-1) 0 f.toNat).aX).toNat then 0 else(bN (kz W f) f.toNat (-1) 0 j).st))=(cJ (ct (kz W f) f) f j).st)/\(bif Nat.beq j f.toNat then 0 else(bN (kz W f) f.toNat (-1) 0 j).prio)=(cJ (ct (kz W f) f) f j).prio)/\(bif Nat.beq j f.toNat then -1 else(bN (kz W f) f.toNat (-1) 0 j).node)=(cJ (ct (kz W f) f) f j).node)/\(bif Nat.beq j f.toNat then -1 else(bN (kz W f) f.toNat (-1) 0 j).space)=(cJ (ct (kz W f) f) f j).space)/\(bif Nat.beq j f.toNat then -1 else(bN (kz W f) f.toNat (-1) 0 j).helper)=(cJ (ct (kz W f) f) f j).helper)/\(bif Nat.beq j f.toNat then -1 else(bN (kz W f) f.toNat (-1) 0 j).loc)=(cJ (ct (kz W f) f) f j).loc)/\(bif Nat.beq j f.toNat then 0 else(bN (kz W f) f.toNat (-1) 0 j).word)=(cJ (ct (kz W f) f) f j).word)/\(bif Nat.beq j f.toNat then 0 else(bN (kz W f) f.toNat (-1) 0 j).bJ)=(cJ (ct (kz W f) f) f j).bJ)/\(bif Nat.beq j f.toNat then -1 else(bif (bN (kz W f) f.toNat (-1) 0 j).aX==f then -1 else(bN (kz W f) f.toNat (-1) 0 j).aX))=(cJ (ct (kz W f) f) f j).aX)/\(bif Nat.beq j f.toNat then 0 else(bN (kz W f) f.toNat (-1) 0 j).core)=(cJ (ct (kz W f) f) f j).core)/\(bif Nat.beq j f.toNat then 0 else(bN (kz W f) f.toNat (-1) 0 j).dH)=(cJ (ct (kz W f) f) f j).dH):=by
  unfold cJ
  rw[show((ct (kz W f) f).tasks f.toNat).aX=(bif (bN (kz W f) f.toNat (-1) 0 f.toNat).aX==f then -1 else(bN (kz W f) f.toNat (-1) 0 f.toNat).aX)from rfl,h]
  generalize Nat.beq j f.toNat=b1
  generalize Nat.beq j (bif (bN (kz W f) f.toNat (-1) 0 f.toNat).aX==f then -1 else(bN (kz W f) f.toNat (-1) 0 f.toNat).aX).toNat=b2
  cases b1<;>cases b2<;>(repeat' (first|rfl|refine And.intro ?_ ?_))
theorem Py {W:Wd} {f:Int} {j:Nat} (h:decide (0<=(bif (bN (kz W f) f.toNat (-1) 0 f.toNat).aX==f then -1 else(bN (kz W f) f.toNat (-1) 0 f.toNat).aX))=false):((((((((((((((((((((bif Nat.beq j f.toNat then 0 else(bN (kz W f) f.toNat (-1) 0 j).r0)=(cJ (ct (kz W f) f) f j).r0/\(bif Nat.beq j f.toNat then 0 else(bN (kz W f) f.toNat (-1) 0 j).r1)=(cJ (ct (kz W f) f) f j).r1)/\(bif Nat.beq j f.toNat then 0 else(bN (kz W f) f.toNat (-1) 0 j).r2)=(cJ (ct (kz W f) f) f j).r2)/\(bif Nat.beq j f.toNat then 0 else(bN (kz W f) f.toNat (-1) 0 j).r3)=(cJ (ct (kz W f) f) f j).r3)/\(bif Nat.beq j f.toNat then 0 else(bN (kz W f) f.toNat (-1) 0 j).r4)=(cJ (ct (kz W f) f) f j).r4)/\(bif Nat.beq j f.toNat then 0 else(bN (kz W f) f.toNat (-1) 0 j).r5)=(cJ (ct (kz W f) f) f j).r5)/\(bif Nat.beq j f.toNat then 0 else(bN (kz W f) f.toNat (-1) 0 j).r6)=(cJ (ct (kz W f) f) f j).r6)/\(bif Nat.beq j f.toNat then 0 else(bN (kz W f) f.toNat (-1) 0 j).r7)=(cJ (ct (kz W f) f) f j).r7)/\(bif Nat.beq j f.toNat then 0 else(bN (kz W f) f.toNat (-1) 0 j).pc)=(cJ (ct (kz W f) f) f j).pc)/\(bif Nat.beq j f.toNat then 0 else(bN (kz W f) f.toNat (-1) 0 j).st)=(cJ (ct (kz W f) f) f j).st)/\(bif Nat.beq j f.toNat then 0 else(bN (kz W f) f.toNat (-1) 0 j).prio)=(cJ (ct (kz W f) f) f j).prio)/\(bif Nat.beq j f.toNat then -1 else(bN (kz W f) f.toNat (-1) 0 j).node)=(cJ (ct (kz W f) f) f j).node)/\(bif Nat.beq j f.toNat then -1 else(bN (kz W f) f.toNat (-1) 0 j).space)=(cJ (ct (kz W f) f) f j).space)/\(bif Nat.beq j f.toNat then -1 else(bN (kz W f) f.toNat (-1) 0 j).helper)=(cJ (ct (kz W f) f) f j).helper)/\(bif Nat.beq j f.toNat then -1 else(bN (kz W f) f.toNat (-1) 0 j).loc)=(cJ (ct (kz W f) f) f j).loc)/\(bif Nat.beq j f.toNat then 0 else(bN (kz W f) f.toNat (-1) 0 j).word)=(cJ (ct (kz W f) f) f j).word)/\(bif Nat.beq j f.toNat then 0 else(bN (kz W f) f.toNat (-1) 0 j).bJ)=(cJ (ct (kz W f) f) f j).bJ)/\(bif Nat.beq j f.toNat then -1 else(bif (bN (kz W f) f.toNat (-1) 0 j).aX==f then -1 else(bN (kz W f) f.toNat (-1) 0 j).aX))=(cJ (ct (kz W f) f) f j).aX)/\(bif Nat.beq j f.toNat then 0 else(bN (kz W f) f.toNat (-1) 0 j).core)=(cJ (ct (kz W f) f) f j).core)/\(bif Nat.beq j f.toNat then 0 else(bN (kz W f) f.toNat (-1) 0 j).dH)=(cJ (ct (kz W f) f) f j).dH):=by
  unfold cJ
  rw[show((ct (kz W f) f).tasks f.toNat).aX=(bif (bN (kz W f) f.toNat (-1) 0 f.toNat).aX==f then -1 else(bN (kz W f) f.toNat (-1) 0 f.toNat).aX)from rfl,h]
  generalize Nat.beq j f.toNat=b1
  generalize Nat.beq j (bif (bN (kz W f) f.toNat (-1) 0 f.toNat).aX==f then -1 else(bN (kz W f) f.toNat (-1) 0 f.toNat).aX).toNat=b2
  cases b1<;>cases b2<;>(repeat' (first|rfl|refine And.intro ?_ ?_))
theorem zl {k:Nat} {W:Wd} {f:Int} {s i:Nat} (h0:0<=W.lines f.toNat s) (e:i=(W.lines f.toNat s).toNat):cz k W f (s+1) i={df k W f W.az i with st:=0,loc:= -1}:=by
  unfold cz fF
  rw[uA,show(W.lines f.toNat s==(i:Int))=true from beq_iff_eq.2 (by omega),Bool.or_true];rfl
theorem zm {k:Nat} {W:Wd} {f:Int} {s i:Nat} (h0:0<=W.lines f.toNat s) (e:i≠(W.lines f.toNat s).toNat):cz k W f (s+1) i=cz k W f s i:=by
  unfold cz fF
  rw[uA,show(W.lines f.toNat s==(i:Int))=false from beq_eq_false_iff_ne.2 (by omega),Bool.or_false]
theorem zZ {k:Nat} {W:Wd} {f:Int} {i:Nat}:cz k W f 0 i=df k W f W.az i:=rfl
theorem yH {k:Nat} {W:Wd} {f:Int} {s i:Nat}:({cz k W f s i with st:=0,loc:= -1}:bu)={df k W f W.az i with st:=0,loc:= -1}:=by
  unfold cz
  cases fF s (W.lines f.toNat) i<;>rfl
theorem Df {k:Nat} {W:Wd} {f:Int} {i:Nat} (hi:i<W.az) (hk:la k f=mD (W.kinds f.toNat) f):cz k W f (W.ao f.toNat) i=k_ W f i:=by
  unfold cz k_
  rw[dd hi,hk]
  cases fF (W.ao f.toNat) (W.lines f.toNat) i<;>rfl
theorem oT {n:Nat} {aa:Nat->Int} {k f:Int} (h:(k==4)=false):fK n aa k f=cb n aa:=by
  funext e
  unfold fK
  rw[h]
  exact Bool.or_false _
theorem BU {p q:Nat->Bool}: ∀{n:Nat},(∀i,i<n->p i=q i)->aC p n=aC q n
  |0,_=>rfl
  |n+1,h=>by rw[aC,aC,h n (by omega),BU λi hi=>h i (by omega)]
theorem IS {α:Type} {z:α} {t:Nat->α} {p q:Nat->Bool}: ∀{n:Nat},(∀i,i<n->p i=q i)->aU z p t n=aU z q t n
  |0,_=>rfl
  |n+1,h=>by
   funext a
   rw[aU,aU,h n (by omega),BU λi hi=>h i (by omega),IS λi hi=>h i (by omega)]
theorem US {p q:bI->Bool} {W:Wd} {c:Nat} (h: ∀k,k<W.aA c->p (W.aj c k)=q (W.aj c k)):eE p W c=eE q W c/\dA p W c=dA q W c:=⟨BU h,IS h⟩
theorem WJ {p:bI->Bool} {W:Wd} {c:Nat} (h: ∀k,k<W.aA c->p (W.aj c k)=false):eE p W c=W.aA c/\ ∀a,a<W.aA c->dA p W c a=W.aj c a:=
  ⟨nF h,λa ha=>oL h ha⟩
theorem sZ {p:bI->Bool} {W:Wd} (h: ∀c,c<W.aG-> ∀k,k<W.aA c->p (W.aj c k)=false): ∀c,c<W.aG->eE p W c=W.aA c/\ ∀a,a<W.aA c->((((dA p W c a).sp=(W.aj c a).sp/\(dA p W c a).pg=(W.aj c a).pg)/\(dA p W c a).fr=(W.aj c a).fr)/\(dA p W c a).wr=(W.aj c a).wr):=by
  intro c hc
  obtain⟨J,U⟩:=WJ (h c hc)
  exact⟨J,λa ha=>by rw[U a ha];exact cL rfl⟩
theorem fJ.kz {W:Wd} (h:JJ W) (f:Int) {g:Nat->bu}:fJ {W with kinds:=cj W.kinds f.toNat 0,tasks:=g}:=⟨⟨h.w.i.z.k0,h.w.i.z.k1,h.w.i.z.c0,h.w.i.z.c1,h.w.i.z.aa,h.w.i.z.af,h.w.i.z.tasks,h.w.i.z.lines,h.w.i.z.bits,h.w.i.z.ready,h.w.i.z.aj,h.w.i.z.d0,h.w.i.z.d1,h.w.i.z.t0,h.w.i.z.t1⟩,h.w.i.aa,h.w.i.tl,h.w.pg⟩
structure L8 where
  (f:Int) (W:Wd)
def qm (N_:Nat):Sy.Spec:=⟨L8,λ⟨f,_⟩=> [.ptr 0 0 none 0 0,.v (.int .i64 f)],λ⟨_,W⟩=>bQ W,λ⟨f,W⟩=>JJ W/\cE W<=N_/\0<=f/\f<W.ar/\W.kinds f.toNat=0,λ_=> .tp 0 (aH []),λ⟨f,W⟩=>bQ (bc (N_+1) W f),
  λargs mem=>match args with| [a0,a1]=>some ⟨av (a1),dL mem 0⟩|_=>none⟩
def Dg (N_:Nat):L8->Prop:=λ⟨f,W⟩=>let a0:=0<=f/\f<((W.ar:Nat):Int);let b0:=SV.ptr 0 0 none 0 0=SV.ptr 0 0 none 0 0;let c0:=cj W.kinds (Int.toNat f) 0;let d0:={W with kinds:=c0};let e0:=ak d0 d0 True;let g0:=W.az;let h0:=(g0:Int);let k0:=fK W.aq W.aa 0 f;a0/\(a0/\(∀l0:Nat,false=false)/\b0/\W.kinds (0+Int.toNat f)=0/\ak {W with kinds:=λo0:Nat=>cond (Nat.beq o0 (0+Int.toNat f)) 0 (W.kinds o0)} d0 True/\True)/\(∀q0:Nat,True->b0/\0=((0:Nat):Int)/\e0/\0<=g0/\(∀r0:Nat,let u0:=(r0:Int);let v0:=decide (u0<h0);let w0:=0<=u0/\u0<h0;let x0:Int:=u0+1;r0<=g0->h0<=9223372036854775807->(v0=true->(((0:Int)==4)=true->w0)/\(((0:Int)==5)=true->w0)/\(((0:Int)==7)=true->w0)/\ah x0=x0/\(∃y0:Nat,b0/\x0=(y0:Int)/\e0/\y0<=g0/\g0-y0<g0-r0))/\(v0=false->((b0/\(0:Int)=0/\f=f/\True)/\e0/\lf.match_1 (λz0:gp=>Prop) (gp.mk 0 f (kz W f)) (λa1:Int=>λb1:Int=>λc1:Wd=>fJ c1))/\True/\ak {W with kinds:=c0,aA:=eE k0 (kz W f),aj:=dA k0 (kz W f)} (bc (N_+1) W f) True)))
set_option maxHeartbeats 1000000 in
theorem UT (N_:Nat) (h_:aL Tryz.prog aO 23 (kJ N_)): ∀x,(qm N_).pre x->ed Tryz.prog aO 36 ((qm N_).args x) ((qm N_).mem x) ((qm N_).res x) ((qm N_).bf x):=λx hp=>gG (.cons nw (.cons mK (.cons nv (.cons h_ .nil)))) false Tryz.func36 ((λ⟨f,W⟩=> [.gJ [3,11,13,15,18,23,29],.cut 2 (od W f 0 4),.inv (mY (kz W f) f [(0,bd 0)] 5),.inv (te W.az [(0,bd 0)] 6),.inv (nS (b_ (bc N_)) W f [(0,bd 0)] 7),.inv (nT 0 W f [(0,bd 0)] 9)]) x) (V:=Dg N_ x) (by kernel_rfl)<|(λ⟨f,W⟩ hp=>by
  dsimp only[qm]at hp
  dsimp only[Dg,tn,ah,ak,aE,aD,ay]
  simp only[aS,aZ,eq_self,implies_true,Bool.cond_self]
  try simp only[cu]
  obtain⟨hJ,hn,f0,f1,hk⟩:=hp
  have z:=hJ.w.i.z
  have z1:=z.aa
  have z2:=z.af
  have z3:=z.tasks
  have z4:=z.k1
  have z5:=z.lines
  have z6:=z.bits
  refine⟨⟨f0,f1⟩,⟨⟨f0,f1⟩,hk,λ_ _=>rfl⟩,λ_ _=>?_⟩
  refineλq hq _=>⟨λh=>⟨λh=>absurd h (by decide),λh=>absurd h (by decide),λh=>absurd h (by decide),bM (by have:=aY h;omega) (by have:=aY h;omega),q+1,by omega,by have:=aY h;omega,by have:=aY h;omega⟩,λ_=>?_⟩
  have e:bc (N_+1) W f=kz W f:=uW (.inl hk)
  simp only[e,oT (k:=0) (by decide)]
  refine⟨fJ.kz hJ f,?_⟩
  have hf:=sZ (p:=cb W.aq W.aa) (W:=kz W f) hJ.t
  repeat' (first|exact trivial|exact bG rfl|exact dM rfl|exact cL rfl|exact hf|rfl|refine And.intro ?_ ?_|intro _)
  : ∀x,(qm N_).pre x->Dg N_ x) x hp
structure L9 where
  (f:Int) (W:Wd)
def qn (N_:Nat):Sy.Spec:=⟨L9,λ⟨f,_⟩=> [.ptr 0 0 none 0 0,.v (.int .i64 f)],λ⟨_,W⟩=>bQ W,λ⟨f,W⟩=>JJ W/\cE W<=N_/\0<=f/\f<W.ar/\W.kinds f.toNat=1,λ_=> .tp 0 (aH []),λ⟨f,W⟩=>bQ (bc (N_+1) W f),
  λargs mem=>match args with| [a0,a1]=>some ⟨av (a1),dL mem 0⟩|_=>none⟩
def Dh (N_:Nat):L9->Prop:=λ⟨f,W⟩=>let a0:=0<=f/\f<((W.ar:Nat):Int);let b0:=SV.ptr 0 0 none 0 0=SV.ptr 0 0 none 0 0;let c0:=cj W.kinds (Int.toNat f) 0;let d0:={W with kinds:=c0};let e0:=ak d0 d0 True;let g0:=W.az;let h0:=(g0:Int);let k0:=fK W.aq W.aa 1 f;a0/\(a0/\(∀l0:Nat,false=false)/\b0/\W.kinds (0+Int.toNat f)=1/\ak {W with kinds:=λo0:Nat=>cond (Nat.beq o0 (0+Int.toNat f)) 0 (W.kinds o0)} d0 True/\True)/\(∀q0:Nat,True->b0/\0=((0:Nat):Int)/\e0/\0<=g0/\(∀r0:Nat,let u0:=(r0:Int);let v0:=decide (u0<h0);let w0:=0<=u0/\u0<h0;let x0:Int:=u0+1;r0<=g0->h0<=9223372036854775807->(v0=true->(((1:Int)==4)=true->w0)/\(((1:Int)==5)=true->w0)/\(((1:Int)==7)=true->w0)/\ah x0=x0/\(∃y0:Nat,b0/\x0=(y0:Int)/\e0/\y0<=g0/\g0-y0<g0-r0))/\(v0=false->((b0/\(1:Int)=1/\f=f/\True)/\e0/\lf.match_1 (λz0:gp=>Prop) (gp.mk 1 f (kz W f)) (λa1:Int=>λb1:Int=>λc1:Wd=>fJ c1))/\True/\ak {W with kinds:=c0,aA:=eE k0 (kz W f),aj:=dA k0 (kz W f)} (bc (N_+1) W f) True)))
set_option maxHeartbeats 1000000 in
theorem UU (N_:Nat) (h_:aL Tryz.prog aO 23 (kJ N_)): ∀x,(qn N_).pre x->ed Tryz.prog aO 36 ((qn N_).args x) ((qn N_).mem x) ((qn N_).res x) ((qn N_).bf x):=λx hp=>gG (.cons nw (.cons mK (.cons nv (.cons h_ .nil)))) false Tryz.func36 ((λ⟨f,W⟩=> [.gJ [3,11,13,15,18,23,29],.cut 2 (od W f 1 4),.inv (mY (kz W f) f [(0,bd 0)] 5),.inv (te W.az [(0,bd 0)] 6),.inv (nS (b_ (bc N_)) W f [(0,bd 0)] 7),.inv (nT 1 W f [(0,bd 0)] 9)]) x) (V:=Dh N_ x) (by kernel_rfl)<|(λ⟨f,W⟩ hp=>by
  dsimp only[qn]at hp
  dsimp only[Dh,tn,ah,ak,aE,aD,ay]
  simp only[aS,aZ,eq_self,implies_true,Bool.cond_self]
  try simp only[cu]
  obtain⟨hJ,hn,f0,f1,hk⟩:=hp
  have z:=hJ.w.i.z
  have z1:=z.aa
  have z2:=z.af
  have z3:=z.tasks
  have z4:=z.k1
  have z5:=z.lines
  have z6:=z.bits
  refine⟨⟨f0,f1⟩,⟨⟨f0,f1⟩,hk,λ_ _=>rfl⟩,λ_ _=>?_⟩
  refineλq hq _=>⟨λh=>⟨λh=>absurd h (by decide),λh=>absurd h (by decide),λh=>absurd h (by decide),bM (by have:=aY h;omega) (by have:=aY h;omega),q+1,by omega,by have:=aY h;omega,by have:=aY h;omega⟩,λ_=>?_⟩
  have e:bc (N_+1) W f=kz W f:=uW (.inr hk)
  simp only[e,oT (k:=1) (by decide)]
  refine⟨fJ.kz hJ f,?_⟩
  have hf:=sZ (p:=cb W.aq W.aa) (W:=kz W f) hJ.t
  repeat' (first|exact trivial|exact bG rfl|exact dM rfl|exact cL rfl|exact hf|rfl|refine And.intro ?_ ?_|intro _)
  : ∀x,(qn N_).pre x->Dh N_ x) x hp
structure L_ where
  (f:Int) (W:Wd)
def qo (N_:Nat):Sy.Spec:=⟨L_,λ⟨f,_⟩=> [.ptr 0 0 none 0 0,.v (.int .i64 f)],λ⟨_,W⟩=>bQ W,λ⟨f,W⟩=>JJ W/\cE W<=N_/\0<=f/\f<W.ar/\W.kinds f.toNat=2,λ_=> .tp 0 (aH []),λ⟨f,W⟩=>bQ (bc (N_+1) W f),
  λargs mem=>match args with| [a0,a1]=>some ⟨av (a1),dL mem 0⟩|_=>none⟩
def Di (N_:Nat):L_->Prop:=λ⟨f,W⟩=>let a0:=((W.ar:Nat):Int);let b0:=0<=f/\f<a0;let c0:=SV.ptr 0 0 none 0 0=SV.ptr 0 0 none 0 0;let d0:=Int.toNat f;let e0:=W.kinds;let g0:=cj e0 d0 0;let h0:={W with kinds:=g0};let k0:=kz W f;let l0:=W.aq;let o0:=(l0:Int);let q0:=W.az;let r0:=(q0:Int);b0/\(b0/\(∀u0:Nat,false=false)/\c0/\e0 (0+d0)=2/\ak {W with kinds:=λv0:Nat=>cond (Nat.beq v0 (0+d0)) 0 (e0 v0)} h0 True/\True)/\(∀w0:Nat,True->c0/\0=((0:Nat):Int)/\ak h0 {W with aa:=fL k0 f 0,kinds:=g0} True/\0<=l0/\(∀x0:Nat,let y0:=(x0:Int);let z0:=decide (y0<o0);let a1:Int:=y0/16;let b1:=0<=y0/\(0:Int)<16/\ah a1=a1;let c1:=0<=a1/\a1<a0;let d1:Int:=g0 (0+Int.toNat a1);let e1:=d1==3;let g1:=e1=false;let J:=cond e1 true (d1==4);let k1:=0<=y0/\y0<o0;let l1:=0+Int.toNat y0;let o1:=fL k0 f x0 l1;let q1:=cond J (o1 !=0) false;let r1:=q1=true;let u1:=cond q1 (o1%1024==f) false;let v1:Int:=y0+1;let w1:=ah v1=v1;let x1:=fL k0 f x0;let y1:={W with aa:=x1,kinds:=g0};let z1:=ak y1 y1 True;let a2:=fK l0 x1 2 f;x0<=l0->o0<=9223372036854775807->(z0=true->b1/\c1/\(g1->b1)/\(g1->c1)/\(J=true->k1)/\(r1->k1)/\(r1->0<=o1/\(0:Int)<1024)/\(u1=true->k1/\(∀b2:Nat,false=false)/\w1/\(∃c2:Nat,c0/\v1=(c2:Int)/\ak {W with aa:=λd2:Nat=>cond (Nat.beq d2 l1) 0 (x1 d2),kinds:=g0} {W with aa:=fL k0 f c2,kinds:=g0} True/\c2<=l0/\l0-c2<l0-x0))/\(u1=false->w1/\(∃e2:Nat,c0/\v1=(e2:Int)/\ak y1 {W with aa:=fL k0 f e2,kinds:=g0} True/\e2<=l0/\l0-e2<l0-x0)))/\(z0=false->c0/\0=((0:Nat):Int)/\z1/\0<=q0/\(∀g2:Nat,let U:=(g2:Int);let k2:=decide (U<r0);let l2:=0<=U/\U<r0;let o2:Int:=U+1;g2<=q0->
    r0<=9223372036854775807->(k2=true->(((2:Int)==4)=true->l2)/\(((2:Int)==5)=true->l2)/\(((2:Int)==7)=true->l2)/\ah o2=o2/\(∃q2:Nat,c0/\o2=(q2:Int)/\z1/\q2<=q0/\q0-q2<q0-g2))/\(k2=false->((c0/\(2:Int)=2/\f=f/\True)/\z1/\lf.match_1 (λr2:gp=>Prop) (gp.mk 2 f y1) (λu2:Int=>λv2:Int=>λw2:Wd=>fJ w2))/\True/\ak {W with aa:=x1,kinds:=g0,aA:=eE a2 y1,aj:=dA a2 y1} (bc (N_+1) W f) True)))))
set_option maxHeartbeats 1000000 in
theorem UW (N_:Nat) (h_:aL Tryz.prog aO 23 (kJ N_)): ∀x,(qo N_).pre x->ed Tryz.prog aO 36 ((qo N_).args x) ((qo N_).mem x) ((qo N_).res x) ((qo N_).bf x):=λx hp=>gG (.cons nw (.cons mK (.cons nv (.cons h_ .nil)))) false Tryz.func36 ((λ⟨f,W⟩=> [.gJ [3,11,13,15,18,23,29],.cut 2 (od W f 2 4),.inv (mY (kz W f) f [(0,bd 0)] 5),.inv (te W.az [(0,bd 0)] 6),.inv (nS (b_ (bc N_)) W f [(0,bd 0)] 7),.inv (nT 2 W f [(0,bd 0)] 9)]) x) (V:=Di N_ x) (by kernel_rfl)<|(λ⟨f,W⟩ hp=>by
  dsimp only[qo]at hp
  dsimp only[Di,tn,ah,ak,aE,aD,ay]
  simp only[aS,aZ,eq_self,implies_true,Bool.cond_self]
  try simp only[cu]
  obtain⟨hJ,hn,f0,f1,hk⟩:=hp
  have z:=hJ.w.i.z
  have z1:=z.aa
  have z2:=z.af
  have z3:=z.tasks
  have z4:=z.k1
  have z5:=z.lines
  have z6:=z.bits
  refine⟨⟨f0,f1⟩,⟨⟨f0,f1⟩,hk,λ_ _=>rfl⟩,λ_ _=>?_⟩
  refine⟨λq _=>(gV (W:=kz W f) (f:=f) (Nat.zero_le _)).symm,λs hs _=>⟨λh=>?_,λh=>?_⟩⟩
  · have ai:=aY h
    have hw:fp (W.aa s):=hJ.w.i.aa s (by omega)
    have ek:((s:Int)/16).toNat=s/16:=by omega
    have er:fL (kz W f) f s s=W.aa s:=gV (Nat.le_refl _)
    rw[er,ek]
    refine⟨⟨by decide,bM (by omega) (by omega)⟩,⟨by omega,by omega⟩,λ_=>⟨by decide,bM (by omega) (by omega)⟩,λ_=>⟨by omega,by omega⟩,λ_=>by omega,λ_=>by omega,λ_=>⟨hw.1,by decide⟩,λJ=>⟨by omega,bM (by omega) (by omega),s+1,by omega,λq _=>?_,by omega,by omega⟩,λJ=>⟨bM (by omega) (by omega),s+1,by omega,λq _=>?_,by omega,by omega⟩⟩
    · rcases Nat.lt_trichotomy q s with e|e|e
      · rw[ca (by omega),ik e,ik (by omega:q<s+1)];rfl
      · subst e;rw[Nat.beq_refl,ik (Nat.lt_succ_self _)];unfold fI;rw[cD (show q<(kz W f).aq from ai)];show _=(bif true&&(_&&_&&_)then _ else _);rw[show((kz W f).kinds (q/16)==3||(kz W f).kinds (q/16)==4)=(cj W.kinds f.toNat 0 (q/16)==3||cj W.kinds f.toNat 0 (q/16)==4)from rfl,show(kz W f).aa q=W.aa q from rfl,J];rfl
      · rw[ca (by omega),gV (by omega:s<=q),gV (by omega:s+1<=q)];rfl
    · rcases Nat.lt_trichotomy q s with e|e|e
      · rw[ik e,ik (by omega:q<s+1)]
      · subst e;rw[er,ik (Nat.lt_succ_self _)];unfold fI;rw[cD (show q<(kz W f).aq from ai)];show _=(bif true&&(_&&_&&_)then _ else _);rw[show((kz W f).kinds (q/16)==3||(kz W f).kinds (q/16)==4)=(cj W.kinds f.toNat 0 (q/16)==3||cj W.kinds f.toNat 0 (q/16)==4)from rfl,show(kz W f).aa q=W.aa q from rfl,J];rfl
      · rw[gV (by omega:s<=q),gV (by omega:s+1<=q)]
  have bo:=bD h
  obtain rfl:s=W.aq:=by omega
  refineλq hq _=>⟨λh=>⟨λh=>absurd h (by decide),λh=>absurd h (by decide),λh=>absurd h (by decide),bM (by have:=aY h;omega) (by have:=aY h;omega),q+1,by omega,by have:=aY h;omega,by have:=aY h;omega⟩,λ_=>?_⟩
  have eu:fL (kz W f) f W.aq=fI (kz W f) f:=CW (W:=kz W f)
  have e:bc (N_+1) W f=pM W f:=uU (.inl hk)
  simp only[eu,e,oT (k:=2) (by decide)]
  refine⟨⟨⟨z.k0,z.k1,z.c0,z.c1,z.aa,z.af,z.tasks,z.lines,z.bits,z.ready,z.aj,z.d0,z.d1,z.t0,z.t1⟩,λi hi=>y_ (W:=kz W f) (hJ.w.i.aa i hi),hJ.w.i.tl,hJ.w.pg⟩,?_⟩
  repeat' (first|exact trivial|exact bG rfl|exact dM rfl|exact cL rfl|rfl|refine And.intro ?_ ?_|intro _)
  : ∀x,(qo N_).pre x->Di N_ x) x hp
structure Ma where
  (f:Int) (W:Wd)
def qp (N_:Nat):Sy.Spec:=⟨Ma,λ⟨f,_⟩=> [.ptr 0 0 none 0 0,.v (.int .i64 f)],λ⟨_,W⟩=>bQ W,λ⟨f,W⟩=>JJ W/\cE W<=N_/\0<=f/\f<W.ar/\W.kinds f.toNat=3,λ_=> .tp 0 (aH []),λ⟨f,W⟩=>bQ (bc (N_+1) W f),
  λargs mem=>match args with| [a0,a1]=>some ⟨av (a1),dL mem 0⟩|_=>none⟩
def Dj (N_:Nat):Ma->Prop:=λ⟨f,W⟩=>let a0:=((W.ar:Nat):Int);let b0:=0<=f/\f<a0;let c0:=SV.ptr 0 0 none 0 0=SV.ptr 0 0 none 0 0;let d0:=Int.toNat f;let e0:=W.kinds;let g0:=cj e0 d0 0;let h0:={W with kinds:=g0};let k0:=kz W f;let l0:=W.aq;let o0:=(l0:Int);let q0:=W.az;let r0:=(q0:Int);b0/\(b0/\(∀u0:Nat,false=false)/\c0/\e0 (0+d0)=3/\ak {W with kinds:=λv0:Nat=>cond (Nat.beq v0 (0+d0)) 0 (e0 v0)} h0 True/\True)/\(∀w0:Nat,True->c0/\0=((0:Nat):Int)/\ak h0 {W with aa:=fL k0 f 0,kinds:=g0} True/\0<=l0/\(∀x0:Nat,let y0:=(x0:Int);let z0:=decide (y0<o0);let a1:Int:=y0/16;let b1:=0<=y0/\(0:Int)<16/\ah a1=a1;let c1:=0<=a1/\a1<a0;let d1:Int:=g0 (0+Int.toNat a1);let e1:=d1==3;let g1:=e1=false;let J:=cond e1 true (d1==4);let k1:=0<=y0/\y0<o0;let l1:=0+Int.toNat y0;let o1:=fL k0 f x0 l1;let q1:=cond J (o1 !=0) false;let r1:=q1=true;let u1:=cond q1 (o1%1024==f) false;let v1:Int:=y0+1;let w1:=ah v1=v1;let x1:=fL k0 f x0;let y1:={W with aa:=x1,kinds:=g0};let z1:=ak y1 y1 True;let a2:=fK l0 x1 3 f;x0<=l0->o0<=9223372036854775807->(z0=true->b1/\c1/\(g1->b1)/\(g1->c1)/\(J=true->k1)/\(r1->k1)/\(r1->0<=o1/\(0:Int)<1024)/\(u1=true->k1/\(∀b2:Nat,false=false)/\w1/\(∃c2:Nat,c0/\v1=(c2:Int)/\ak {W with aa:=λd2:Nat=>cond (Nat.beq d2 l1) 0 (x1 d2),kinds:=g0} {W with aa:=fL k0 f c2,kinds:=g0} True/\c2<=l0/\l0-c2<l0-x0))/\(u1=false->w1/\(∃e2:Nat,c0/\v1=(e2:Int)/\ak y1 {W with aa:=fL k0 f e2,kinds:=g0} True/\e2<=l0/\l0-e2<l0-x0)))/\(z0=false->c0/\0=((0:Nat):Int)/\z1/\0<=q0/\(∀g2:Nat,let U:=(g2:Int);let k2:=decide (U<r0);let l2:=0<=U/\U<r0;let o2:Int:=U+1;g2<=q0->
    r0<=9223372036854775807->(k2=true->(((3:Int)==4)=true->l2)/\(((3:Int)==5)=true->l2)/\(((3:Int)==7)=true->l2)/\ah o2=o2/\(∃q2:Nat,c0/\o2=(q2:Int)/\z1/\q2<=q0/\q0-q2<q0-g2))/\(k2=false->((c0/\(3:Int)=3/\f=f/\True)/\z1/\lf.match_1 (λr2:gp=>Prop) (gp.mk 3 f y1) (λu2:Int=>λv2:Int=>λw2:Wd=>fJ w2))/\True/\ak {W with aa:=x1,kinds:=g0,aA:=eE a2 y1,aj:=dA a2 y1} (bc (N_+1) W f) True)))))
set_option maxHeartbeats 1000000 in
theorem UX (N_:Nat) (h_:aL Tryz.prog aO 23 (kJ N_)): ∀x,(qp N_).pre x->ed Tryz.prog aO 36 ((qp N_).args x) ((qp N_).mem x) ((qp N_).res x) ((qp N_).bf x):=λx hp=>gG (.cons nw (.cons mK (.cons nv (.cons h_ .nil)))) false Tryz.func36 ((λ⟨f,W⟩=> [.gJ [3,11,13,15,18,23,29],.cut 2 (od W f 3 4),.inv (mY (kz W f) f [(0,bd 0)] 5),.inv (te W.az [(0,bd 0)] 6),.inv (nS (b_ (bc N_)) W f [(0,bd 0)] 7),.inv (nT 3 W f [(0,bd 0)] 9)]) x) (V:=Dj N_ x) (by kernel_rfl)<|(λ⟨f,W⟩ hp=>by
  dsimp only[qp]at hp
  dsimp only[Dj,tn,ah,ak,aE,aD,ay]
  simp only[aS,aZ,eq_self,implies_true,Bool.cond_self]
  try simp only[cu]
  obtain⟨hJ,hn,f0,f1,hk⟩:=hp
  have z:=hJ.w.i.z
  have z1:=z.aa
  have z2:=z.af
  have z3:=z.tasks
  have z4:=z.k1
  have z5:=z.lines
  have z6:=z.bits
  refine⟨⟨f0,f1⟩,⟨⟨f0,f1⟩,hk,λ_ _=>rfl⟩,λ_ _=>?_⟩
  refine⟨λq _=>(gV (W:=kz W f) (f:=f) (Nat.zero_le _)).symm,λs hs _=>⟨λh=>?_,λh=>?_⟩⟩
  · have ai:=aY h
    have hw:fp (W.aa s):=hJ.w.i.aa s (by omega)
    have ek:((s:Int)/16).toNat=s/16:=by omega
    have er:fL (kz W f) f s s=W.aa s:=gV (Nat.le_refl _)
    rw[er,ek]
    refine⟨⟨by decide,bM (by omega) (by omega)⟩,⟨by omega,by omega⟩,λ_=>⟨by decide,bM (by omega) (by omega)⟩,λ_=>⟨by omega,by omega⟩,λ_=>by omega,λ_=>by omega,λ_=>⟨hw.1,by decide⟩,λJ=>⟨by omega,bM (by omega) (by omega),s+1,by omega,λq _=>?_,by omega,by omega⟩,λJ=>⟨bM (by omega) (by omega),s+1,by omega,λq _=>?_,by omega,by omega⟩⟩
    · rcases Nat.lt_trichotomy q s with e|e|e
      · rw[ca (by omega),ik e,ik (by omega:q<s+1)];rfl
      · subst e;rw[Nat.beq_refl,ik (Nat.lt_succ_self _)];unfold fI;rw[cD (show q<(kz W f).aq from ai)];show _=(bif true&&(_&&_&&_)then _ else _);rw[show((kz W f).kinds (q/16)==3||(kz W f).kinds (q/16)==4)=(cj W.kinds f.toNat 0 (q/16)==3||cj W.kinds f.toNat 0 (q/16)==4)from rfl,show(kz W f).aa q=W.aa q from rfl,J];rfl
      · rw[ca (by omega),gV (by omega:s<=q),gV (by omega:s+1<=q)];rfl
    · rcases Nat.lt_trichotomy q s with e|e|e
      · rw[ik e,ik (by omega:q<s+1)]
      · subst e;rw[er,ik (Nat.lt_succ_self _)];unfold fI;rw[cD (show q<(kz W f).aq from ai)];show _=(bif true&&(_&&_&&_)then _ else _);rw[show((kz W f).kinds (q/16)==3||(kz W f).kinds (q/16)==4)=(cj W.kinds f.toNat 0 (q/16)==3||cj W.kinds f.toNat 0 (q/16)==4)from rfl,show(kz W f).aa q=W.aa q from rfl,J];rfl
      · rw[gV (by omega:s<=q),gV (by omega:s+1<=q)]
  have bo:=bD h
  obtain rfl:s=W.aq:=by omega
  refineλq hq _=>⟨λh=>⟨λh=>absurd h (by decide),λh=>absurd h (by decide),λh=>absurd h (by decide),bM (by have:=aY h;omega) (by have:=aY h;omega),q+1,by omega,by have:=aY h;omega,by have:=aY h;omega⟩,λ_=>?_⟩
  have eu:fL (kz W f) f W.aq=fI (kz W f) f:=CW (W:=kz W f)
  have e:bc (N_+1) W f=pM W f:=uU (.inr hk)
  simp only[eu,e,oT (k:=3) (by decide)]
  refine⟨⟨⟨z.k0,z.k1,z.c0,z.c1,z.aa,z.af,z.tasks,z.lines,z.bits,z.ready,z.aj,z.d0,z.d1,z.t0,z.t1⟩,λi hi=>y_ (W:=kz W f) (hJ.w.i.aa i hi),hJ.w.i.tl,hJ.w.pg⟩,?_⟩
  repeat' (first|exact trivial|exact bG rfl|exact dM rfl|exact cL rfl|rfl|refine And.intro ?_ ?_|intro _)
  : ∀x,(qp N_).pre x->Dj N_ x) x hp
structure Mb where
  (f:Int) (W:Wd)
def qt (N_:Nat):Sy.Spec:=⟨Mb,λ⟨f,_⟩=> [.ptr 0 0 none 0 0,.v (.int .i64 f)],λ⟨_,W⟩=>bQ W,λ⟨f,W⟩=>JJ W/\cE W<=N_/\0<=f/\f<W.ar/\W.kinds f.toNat=4,λ_=> .tp 0 (aH []),λ⟨f,W⟩=>bQ (bc (N_+1) W f),
  λargs mem=>match args with| [a0,a1]=>some ⟨av (a1),dL mem 0⟩|_=>none⟩
def Dk (N_:Nat):Mb->Prop:=λ⟨f,W⟩=>let a0:=0<=f/\f<((W.ar:Nat):Int);let b0:=SV.ptr 0 0 none 0 0=SV.ptr 0 0 none 0 0;let c0:=cj W.kinds (Int.toNat f) 0;let d0:={W with kinds:=c0};let e0:=W.az;let g0:=(e0:Int);let h0:=(4:Int)==4;let k0:=((4:Int)==5)=true;let l0:=((4:Int)==7)=true;let o0:=fK W.aq W.aa 4 f;a0/\(a0/\(∀q0:Nat,false=false)/\b0/\W.kinds (0+Int.toNat f)=4/\ak {W with kinds:=λu0:Nat=>cond (Nat.beq u0 (0+Int.toNat f)) 0 (W.kinds u0)} d0 True/\True)/\(∀v0:Nat,True->b0/\0=((0:Nat):Int)/\ak d0 {W with kinds:=c0,tasks:=df 4 W f 0} True/\0<=e0/\(∀w0:Nat,let x0:=(w0:Int);let y0:=decide (x0<g0);let z0:=0<=x0/\x0<g0;let a1:=0+Int.toNat x0;let b1:=cond h0 ((df 4 W f w0 a1).space==f) false;let c1:Int:=x0+1;let d1:=ah c1=c1;let e1:=df 4 W f w0;let g1:={W with kinds:=c0,tasks:=e1};w0<=e0->g0<=9223372036854775807->(y0=true->(h0=true->z0)/\(b1=true->z0/\(∀J:Nat,false=false)/\(k0->z0)/\(l0->z0)/\d1/\(∃k1:Nat,b0/\c1=(k1:Int)/\ak {W with kinds:=c0,tasks:=λl1:Nat=>{e1 l1 with space:=cond (Nat.beq l1 a1) (-1) (e1 l1).space}} {W with kinds:=c0,tasks:=df 4 W f k1} True/\k1<=e0/\e0-k1<e0-w0))/\(b1=false->(k0->z0)/\(l0->z0)/\d1/\(∃o1:Nat,b0/\c1=(o1:Int)/\ak g1 {W with kinds:=c0,tasks:=df 4 W f o1} True/\o1<=e0/\e0-o1<e0-w0)))/\(y0=false->((b0/\(4:Int)=4/\f=f/\True)/\ak g1 g1 True/\lf.match_1 (λq1:gp=>Prop) (gp.mk 4 f g1) (λu1:Int=>λv1:Int=>λw1:Wd=>fJ w1))/\True/\ak {W with kinds:=c0,tasks:=e1,aA:=eE o0 g1,aj:=dA o0 g1} (bc (N_+1) W f) True)))
set_option maxHeartbeats 1000000 in
theorem UY (N_:Nat) (h_:aL Tryz.prog aO 23 (kJ N_)): ∀x,(qt N_).pre x->ed Tryz.prog aO 36 ((qt N_).args x) ((qt N_).mem x) ((qt N_).res x) ((qt N_).bf x):=λx hp=>gG (.cons nw (.cons mK (.cons nv (.cons h_ .nil)))) false Tryz.func36 ((λ⟨f,W⟩=> [.gJ [3,13,15,18,23,29],.cut 2 (od W f 4 4),.inv (mY (kz W f) f [(0,bd 0)] 5),.inv (E8 4 W f [(0,bd 0)] 6),.inv (nS (b_ (bc N_)) W f [(0,bd 0)] 7),.inv (nT 4 W f [(0,bd 0)] 9)]) x) (V:=Dk N_ x) (by kernel_rfl)<|(λ⟨f,W⟩ hp=>by
  dsimp only[qt]at hp
  dsimp only[Dk,tn,ah,ak,aE,aD,ay]
  simp only[aS,aZ,eq_self,implies_true,Bool.cond_self]
  try simp only[cu]
  obtain⟨hJ,hn,f0,f1,hk⟩:=hp
  have z:=hJ.w.i.z
  have z1:=z.aa
  have z2:=z.af
  have z3:=z.tasks
  have z4:=z.k1
  have z5:=z.lines
  have z6:=z.bits
  refine⟨⟨f0,f1⟩,⟨⟨f0,f1⟩,hk,λ_ _=>rfl⟩,λ_ _=>?_⟩
  refine⟨λq _=>bG (de (k:=4) (f:=f) (Nat.zero_le _)).symm,λs hs _=>⟨λh=>?_,λh=>?_⟩⟩
  · have ai:=aY h
    rw[de (Nat.le_refl _)]
    refine⟨λ_=>by omega,λJ=>⟨by omega,λh=>absurd h (by decide),λh=>absurd h (by decide),bM (by omega) (by omega),s+1,by omega,λq _=>?_,by omega,by omega⟩,λJ=>⟨λh=>absurd h (by decide),λh=>absurd h (by decide),bM (by omega) (by omega),s+1,by omega,λq _=>?_,by omega,by omega⟩⟩
    · have U:((W.tasks s).space==f)=true:=J
      have e2:la 4 f (W.tasks s)={W.tasks s with space:= -1}:=by
        show({W.tasks s with space:=bif (W.tasks s).space==f then -1 else(W.tasks s).space}:bu)=_
        rw[U];rfl
      rcases Nat.lt_trichotomy q s with e|e|e
      · rw[ca (by omega),dd e,dd (by omega:q<s+1)];exact bG rfl
      · subst e
        rw[Nat.beq_refl,dd (Nat.lt_succ_self _),de (Nat.le_refl _),e2]
        simp only[cond_true]
        repeat' (first|exact trivial|rfl|refine And.intro ?_ ?_)
      · rw[ca (by omega),de (by omega),de (by omega:s+1<=q)];exact bG rfl
    · have U:((W.tasks s).space==f)=false:=J
      have e2:la 4 f (W.tasks s)=W.tasks s:=by
        show({W.tasks s with space:=bif (W.tasks s).space==f then -1 else(W.tasks s).space}:bu)=_
        rw[U];rfl
      rcases Nat.lt_trichotomy q s with e|e|e
      · rw[dd e,dd (by omega:q<s+1)];exact bG rfl
      · subst e;rw[de (Nat.le_refl _),dd (Nat.lt_succ_self _),e2];exact bG rfl
      · rw[de (by omega),de (by omega:s+1<=q)];exact bG rfl
  have bo:=bD h
  obtain rfl:s=W.az:=by omega
  have e:bc (N_+1) W f=tY W f:=CS hk
  simp only[e]
  have hf: ∀c,c<W.aG->eE (fK W.aq W.aa 4 f) W c=eE (cH f) W c/\dA (fK W.aq W.aa 4 f) W c=dA (cH f) W c:=λc hc=>US λk hk=>by
    unfold fK cH;rw[hJ.t c hc k hk];rfl
  refine⟨⟨⟨z.k0,z.k1,z.c0,z.c1,z.aa,z.af,z.tasks,z.lines,z.bits,z.ready,z.aj,z.d0,z.d1,z.t0,z.t1⟩,hJ.w.i.aa,hJ.w.i.tl,hJ.w.pg⟩,?_⟩
  repeat' (first|exact trivial|exactλj hj=>bG (dd hj)|exactλc hc=>⟨(hf c hc).1,λa _=>cL (congrFun (hf c hc).2 a)⟩|exact bG rfl|exact dM rfl|exact cL rfl|rfl|refine And.intro ?_ ?_|intro _)
  : ∀x,(qt N_).pre x->Dk N_ x) x hp
structure Mc where
  (f:Int) (W:Wd)
def qu (N_:Nat):Sy.Spec:=⟨Mc,λ⟨f,_⟩=> [.ptr 0 0 none 0 0,.v (.int .i64 f)],λ⟨_,W⟩=>bQ W,λ⟨f,W⟩=>JJ W/\cE W<=N_/\0<=f/\f<W.ar/\W.kinds f.toNat=5,λ_=> .tp 0 (aH []),λ⟨f,W⟩=>bQ (bc (N_+1) W f),
  λargs mem=>match args with| [a0,a1]=>some ⟨av (a1),dL mem 0⟩|_=>none⟩
def Dl (N_:Nat):Mc->Prop:=λ⟨f,W⟩=>let a0:=0<=f/\f<((W.ar:Nat):Int);let b0:=SV.ptr 0 0 none 0 0=SV.ptr 0 0 none 0 0;let c0:=cj W.kinds (Int.toNat f) 0;let d0:={W with kinds:=c0};let e0:=W.az;let g0:=(e0:Int);let h0:=(5:Int)==5;let k0:=((5:Int)==7)=true;let l0:Int:=f*16;let o0:=b_ (bc N_);a0/\(a0/\(∀q0:Nat,false=false)/\b0/\W.kinds (0+Int.toNat f)=5/\ak {W with kinds:=λu0:Nat=>cond (Nat.beq u0 (0+Int.toNat f)) 0 (W.kinds u0)} d0 True/\True)/\(∀v0:Nat,True->b0/\0=((0:Nat):Int)/\ak d0 {W with kinds:=c0,tasks:=df 5 W f 0} True/\0<=e0/\(∀w0:Nat,let x0:=(w0:Int);let y0:=decide (x0<g0);let z0:=0<=x0/\x0<g0;let a1:=0+Int.toNat x0;let b1:=cond h0 ((df 5 W f w0 a1).node==f) false;let c1:Int:=x0+1;let d1:=ah c1=c1;let e1:={W with kinds:=c0,tasks:=df 5 W f w0};w0<=e0->g0<=9223372036854775807->(y0=true->(((5:Int)==4)=true->z0)/\(h0=true->z0)/\(b1=true->z0/\(∀g1:Nat,false=false)/\(k0->z0)/\d1/\(∃J:Nat,b0/\c1=(J:Int)/\ak {W with kinds:=c0,tasks:=λk1:Nat=>let l1:=df 5 W f w0 k1;{l1 with node:=cond (Nat.beq k1 a1) (-1) l1.node}} {W with kinds:=c0,tasks:=df 5 W f J} True/\J<=e0/\e0-J<e0-w0))/\(b1=false->(k0->z0)/\d1/\(∃o1:Nat,b0/\c1=(o1:Int)/\ak e1 {W with kinds:=c0,tasks:=df 5 W f o1} True/\o1<=e0/\e0-o1<e0-w0)))/\(y0=false->b0/\15=15-((0:Nat):Int)/\ak e1 {W with kinds:=c0,tasks:=λq1:Nat=>let u1:=(W.tasks q1).node;{W.tasks q1 with node:=cond (u1==f) (-1) u1}} True/\0<=16/\(∀v1:Nat,let w1:Int:=15-(v1:Int);let x1:=decide (0<=w1);let y1:Int:=l0+w1;let z1:=gm o0 W f v1;let a2:=ak z1 z1 True;let b2:Int:=w1-1;
    let c2:=fK z1.aq z1.aa 5 f;v1<=16->(x1=true->ah l0=l0/\ah y1=y1/\((b0/\y1=y1/\True)/\a2/\JJ z1/\cE z1<=N_)/\ah b2=b2/\(∃d2:Nat,b0/\b2=15-(d2:Int)/\ak (o0 z1 y1) (gm o0 W f d2) True/\d2<=16/\16-d2<16-v1))/\(x1=false->((b0/\(5:Int)=5/\f=f/\True)/\a2/\lf.match_1 (λe2:gp=>Prop) (gp.mk 5 f z1) (λg2:Int=>λU:Int=>λk2:Wd=>fJ k2))/\True/\ak {z1 with aA:=eE c2 z1,aj:=dA c2 z1} (bc (N_+1) W f) True)))))
set_option maxHeartbeats 1000000 in
theorem UZ (N_:Nat) (h_:aL Tryz.prog aO 23 (kJ N_)): ∀x,(qu N_).pre x->ed Tryz.prog aO 36 ((qu N_).args x) ((qu N_).mem x) ((qu N_).res x) ((qu N_).bf x):=λx hp=>gG (.cons nw (.cons mK (.cons nv (.cons h_ .nil)))) false Tryz.func36 ((λ⟨f,W⟩=> [.gJ [3,11,15,18,23,29],.cut 2 (od W f 5 4),.inv (mY (kz W f) f [(0,bd 0)] 5),.inv (E8 5 W f [(0,bd 0)] 6),.inv (nS (b_ (bc N_)) W f [(0,bd 0)] 7),.inv (nT 5 W f [(0,bd 0)] 9)]) x) (V:=Dl N_ x) (by kernel_rfl)<|(λ⟨f,W⟩ hp=>by
  dsimp only[qu]at hp
  dsimp only[Dl,tn,ah,ak,aE,aD,ay]
  simp only[aS,aZ,eq_self,implies_true,Bool.cond_self]
  try simp only[cu]
  obtain⟨hJ,hn,f0,f1,hk⟩:=hp
  have z:=hJ.w.i.z
  have z1:=z.aa
  have z2:=z.af
  have z3:=z.tasks
  have z4:=z.k1
  have z5:=z.lines
  have z6:=z.bits
  refine⟨⟨f0,f1⟩,⟨⟨f0,f1⟩,hk,λ_ _=>rfl⟩,λ_ _=>?_⟩
  refine⟨λq _=>bG (de (k:=5) (f:=f) (Nat.zero_le _)).symm,λs hs _=>⟨λh=>?_,λh=>?_⟩⟩
  · have ai:=aY h
    rw[de (Nat.le_refl _)]
    refine⟨λh=>absurd h (by decide),λ_=>by omega,λJ=>⟨by omega,λh=>absurd h (by decide),bM (by omega) (by omega),s+1,by omega,λq _=>?_,by omega,by omega⟩,λJ=>⟨λh=>absurd h (by decide),bM (by omega) (by omega),s+1,by omega,λq _=>?_,by omega,by omega⟩⟩
    · have U:((W.tasks s).node==f)=true:=J
      have e2:la 5 f (W.tasks s)={W.tasks s with node:= -1}:=by
        show({W.tasks s with node:=bif (W.tasks s).node==f then -1 else(W.tasks s).node}:bu)=_
        rw[U];rfl
      rcases Nat.lt_trichotomy q s with e|e|e
      · rw[ca (by omega),dd e,dd (by omega:q<s+1)];exact bG rfl
      · subst e
        rw[Nat.beq_refl,dd (Nat.lt_succ_self _),de (Nat.le_refl _),e2]
        simp only[cond_true]
        repeat' (first|exact trivial|rfl|refine And.intro ?_ ?_)
      · rw[ca (by omega),de (by omega),de (by omega:s+1<=q)];exact bG rfl
    · have U:((W.tasks s).node==f)=false:=J
      have e2:la 5 f (W.tasks s)=W.tasks s:=by
        show({W.tasks s with node:=bif (W.tasks s).node==f then -1 else(W.tasks s).node}:bu)=_
        rw[U];rfl
      rcases Nat.lt_trichotomy q s with e|e|e
      · rw[dd e,dd (by omega:q<s+1)];exact bG rfl
      · subst e;rw[de (Nat.le_refl _),dd (Nat.lt_succ_self _),e2];exact bG rfl
      · rw[de (by omega),de (by omega:s+1<=q)];exact bG rfl
  have bo:=bD h
  obtain rfl:s=W.az:=by omega
  have hX:=za (f:=f) (Cf N_) hJ f0 (by rw[hk];decide)
  have e0: ∀j,j<W.az->df 5 W f W.az j=tZ f (W.tasks j):=λj hj=>dd hj
  refine⟨by decide,?_,λi hi=>⟨λh=>?_,λh=>?_⟩⟩
  · repeat' (first|exact trivial|exactλj hj=>bG (e0 j hj)|exact bG rfl|exact dM rfl|exact cL rfl|rfl|refine And.intro ?_ ?_|intro _)
  · have mG:=of_decide_eq_true h
    obtain⟨J,U⟩:=hX i
    refine⟨bM (by omega) (by omega),bM (by omega) (by omega),⟨J,Nat.le_trans U.cY hn⟩,bM (by omega) (by omega),i+1,by omega,?_⟩
    have e1:b_ (bc N_) (gm (b_ (bc N_)) W f i) (f*16+(15 -i))=gm (b_ (bc N_)) W f (i+1):=rfl
    simp only[e1]
    repeat' (first|exact trivial|omega|exact bG rfl|exact dM rfl|exact cL rfl|rfl|refine And.intro ?_ ?_|intro _)
  · have mG:=of_decide_eq_false h
    obtain rfl:i=16:=by omega
    obtain⟨J,U⟩:=hX 16
    have e:bc (N_+1) W f=gm (b_ (bc N_)) W f 16:=CT hk
    simp only[e,oT (k:=5) (by decide)]
    generalize gm (b_ (bc N_)) W f 16=X at*
    have hf:=sZ (p:=cb X.aq X.aa) (W:=X) J.t
    refine⟨J.w.tl,?_⟩
    repeat' (first|exact trivial|exact hf|exact bG rfl|exact dM rfl|exact cL rfl|rfl|refine And.intro ?_ ?_|intro _)
  : ∀x,(qu N_).pre x->Dl N_ x) x hp
structure Md where
  (f:Int) (W:Wd)
def qv (N_:Nat):Sy.Spec:=⟨Md,λ⟨f,_⟩=> [.ptr 0 0 none 0 0,.v (.int .i64 f)],λ⟨_,W⟩=>bQ W,λ⟨f,W⟩=>JJ W/\cE W<=N_/\0<=f/\f<W.ar/\W.kinds f.toNat=6,λ_=> .tp 0 (aH []),λ⟨f,W⟩=>bQ (bc (N_+1) W f),
  λargs mem=>match args with| [a0,a1]=>some ⟨av (a1),dL mem 0⟩|_=>none⟩
def Dm (N_:Nat):Md->Prop:=λ⟨f,W⟩=>let a0:=0<=f/\f<((W.ar:Nat):Int);let b0:=false=false;let c0:=SV.ptr 0 0 none 0 0=SV.ptr 0 0 none 0 0;let d0:=Int.toNat f;let e0:=0+d0;let g0:=cj W.kinds d0 0;let h0:={W with kinds:=g0};let k0:=ak h0 h0 True;let l0:=W.az;let o0:=(l0:Int);let q0:=f<o0;let u0:=kz W f;let v0:=0<=f/\q0;let w0:=(bN u0 d0 (-1) 0 e0).aX;let x0:Int:=cond (w0==f) (-1) w0;let y0:=decide (0<=x0);let z0:=tn 2 True;let a1:=(∀b1:Nat,b0)/\(∀c1:Nat,b0)/\(∀d1:Nat,b0)/\(∀e1:Nat,b0)/\(∀g1:Nat,b0)/\(∀J:Nat,b0)/\(∀k1:Nat,b0)/\(∀l1:Nat,b0)/\(∀o1:Nat,b0)/\(∀q1:Nat,b0)/\(∀u1:Nat,b0)/\(∀v1:Nat,b0)/\(∀w1:Nat,b0)/\(∀x1:Nat,b0)/\(∀y1:Nat,b0)/\(∀z1:Nat,b0)/\(∀a2:Nat,b0)/\(∀b2:Nat,b0)/\(∀c2:Nat,b0)/\(∀d2:Nat,b0);let e2:=c0/\(6:Int)=6/\f=f/\True;let g2:=0+Int.toNat x0;let U:=rh u0 f;let k2:=rS u0 f;let l2:=kt u0 f;let o2:=ri u0 f;let q2:=rT u0 f;let u2:={W with kinds:=g0,tasks:=λv2:Nat=>let w2:=Nat.beq v2 e0;let x2:=bN u0 d0 (-1) 0 v2;let y2:=x2.aX;bu.mk (cond w2 0 x2.r0) (cond w2 0 x2.r1) (cond w2 0 x2.r2) (cond w2 0 x2.r3) (cond w2 0 x2.r4) (cond w2 0 x2.r5) (cond w2 0 x2.r6) (cond w2 0 x2.r7) (cond w2 0 x2.pc) (cond w2 0 (cond (Nat.beq v2 g2) 0 x2.st)) (cond w2 0 x2.prio) (cond w2 (-1) x2.node) (cond w2 (-1) x2.space) (cond w2 (-1) x2.helper) (cond w2 (-1) x2.loc) (cond w2 0 x2.word) (cond w2 0 x2.bJ) (cond w2 (-1) (cond (y2==f) (-1) y2)) (cond w2 0 x2.core) (cond w2 0 x2.dH),ao:=U,lines:=k2,aF:=l2,aJ:=o2,ready:=q2};let z2:=fK W.aq W.aa 6 f;let a3:=bc (N_+1) W f;
    let b3:={W with kinds:=g0,tasks:=λc3:Nat=>let d3:=Nat.beq c3 e0;let e3:=bN u0 d0 (-1) 0 c3;let g3:=e3.aX;bu.mk (cond d3 0 e3.r0) (cond d3 0 e3.r1) (cond d3 0 e3.r2) (cond d3 0 e3.r3) (cond d3 0 e3.r4) (cond d3 0 e3.r5) (cond d3 0 e3.r6) (cond d3 0 e3.r7) (cond d3 0 e3.pc) (cond d3 0 e3.st) (cond d3 0 e3.prio) (cond d3 (-1) e3.node) (cond d3 (-1) e3.space) (cond d3 (-1) e3.helper) (cond d3 (-1) e3.loc) (cond d3 0 e3.word) (cond d3 0 e3.bJ) (cond d3 (-1) (cond (g3==f) (-1) g3)) (cond d3 0 e3.core) (cond d3 0 e3.dH),ao:=U,lines:=k2,aF:=l2,aJ:=o2,ready:=q2};a0/\(a0/\(∀h3:Nat,b0)/\c0/\W.kinds (0+d0)=6/\ak {W with kinds:=λk3:Nat=>cond (Nat.beq k3 e0) 0 (W.kinds k3)} h0 True/\True)/\(∀l3:Nat,True->c0/\0=((0:Nat):Int)/\k0/\0<=l0/\(∀o3:Nat,let q3:=(o3:Int);let u3:=decide (q3<o0);let v3:=0<=q3/\q3<o0;let w3:Int:=q3+1;o3<=l0->o0<=9223372036854775807->(u3=true->(((6:Int)==4)=true->v3)/\(((6:Int)==5)=true->v3)/\(((6:Int)==7)=true->v3)/\ah w3=w3/\(∃x3:Nat,c0/\w3=(x3:Int)/\k0/\x3<=l0/\l0-x3<l0-o3))/\(u3=false->((c0/\f=f/\True)/\k0/\0<=f/\q0/\Inv 1000 u0)/\v0/\(y0=true->(0<=x0/\x0<o0)/\(∀y3:Nat,b0)/\tn 5 (z0/\v0/\a1/\(e2/\ak u2 u2 True/\lf.match_1 (λz3:gp=>Prop) (gp.mk 6 f u2) (λa4:Int=>λb4:Int=>λc4:Wd=>fJ c4))/\True/\
    ak {W with kinds:=g0,tasks:=λd4:Nat=>let e4:=Nat.beq d4 e0;let g4:=bN u0 d0 (-1) 0 d4;let h4:=g4.aX;bu.mk (cond e4 0 g4.r0) (cond e4 0 g4.r1) (cond e4 0 g4.r2) (cond e4 0 g4.r3) (cond e4 0 g4.r4) (cond e4 0 g4.r5) (cond e4 0 g4.r6) (cond e4 0 g4.r7) (cond e4 0 g4.pc) (cond e4 0 (cond (Nat.beq d4 g2) 0 g4.st)) (cond e4 0 g4.prio) (cond e4 (-1) g4.node) (cond e4 (-1) g4.space) (cond e4 (-1) g4.helper) (cond e4 (-1) g4.loc) (cond e4 0 g4.word) (cond e4 0 g4.bJ) (cond e4 (-1) (cond (h4==f) (-1) h4)) (cond e4 0 g4.core) (cond e4 0 g4.dH),ao:=U,lines:=k2,aF:=l2,aJ:=o2,ready:=q2,aA:=eE z2 u2,aj:=dA z2 u2} a3 True))/\(y0=false->tn 5 (z0/\v0/\a1/\(e2/\ak b3 b3 True/\lf.match_1 (λk4:gp=>Prop) (gp.mk 6 f b3) (λl4:Int=>λo4:Int=>λq4:Wd=>fJ q4))/\True/\ak {W with kinds:=g0,tasks:=λu4:Nat=>let v4:=Nat.beq u4 e0;let w4:=bN u0 d0 (-1) 0 u4;let x4:=w4.aX;bu.mk (cond v4 0 w4.r0) (cond v4 0 w4.r1) (cond v4 0 w4.r2) (cond v4 0 w4.r3) (cond v4 0 w4.r4) (cond v4 0 w4.r5) (cond v4 0 w4.r6) (cond v4 0 w4.r7) (cond v4 0 w4.pc) (cond v4 0 w4.st) (cond v4 0 w4.prio) (cond v4 (-1) w4.node) (cond v4 (-1) w4.space) (cond v4 (-1) w4.helper) (cond v4 (-1) w4.loc) (cond v4 0 w4.word) (cond v4 0 w4.bJ) (cond v4 (-1) (cond (x4==f) (-1) x4)) (cond v4 0 w4.core) (cond v4 0 w4.dH),ao:=U,lines:=k2,aF:=l2,aJ:=o2,ready:=q2,aA:=eE z2 b3,aj:=dA z2 b3} a3 True)))))
set_option maxHeartbeats 1000000 in
theorem U0 (N_:Nat) (h_:aL Tryz.prog aO 23 (kJ N_)): ∀x,(qv N_).pre x->ed Tryz.prog aO 36 ((qv N_).args x) ((qv N_).mem x) ((qv N_).res x) ((qv N_).bf x):=λx hp=>gG (.cons nw (.cons mK (.cons nv (.cons h_ .nil)))) false Tryz.func36 ((λ⟨f,W⟩=> [.gJ [3,11,13,15,18,23,29],.cut 2 (od W f 6 4),.inv (mY (kz W f) f [(0,bd 0)] 5),.inv (te W.az [(0,bd 0)] 6),.inv (nS (b_ (bc N_)) W f [(0,bd 0)] 7),.inv (nT 6 W f [(0,bd 0)] 9)]) x) (V:=Dm N_ x) (by kernel_rfl)<|(λ⟨f,W⟩ hp=>by
  dsimp only[qv]at hp
  dsimp only[Dm,tn,ah,ak,aE,aD,ay]
  simp only[aS,aZ,eq_self,implies_true,Bool.cond_self]
  try simp only[cu]
  obtain⟨hJ,hn,f0,f1,hk⟩:=hp
  have z:=hJ.w.i.z
  have z1:=z.aa
  have z2:=z.af
  have z3:=z.tasks
  have z4:=z.k1
  have z5:=z.lines
  have z6:=z.bits
  refine⟨⟨f0,f1⟩,⟨⟨f0,f1⟩,hk,λ_ _=>rfl⟩,λ_ _=>?_⟩
  refineλq hq _=>⟨λh=>⟨λh=>absurd h (by decide),λh=>absurd h (by decide),λh=>absurd h (by decide),bM (by have:=aY h;omega) (by have:=aY h;omega),q+1,by omega,by have:=aY h;omega,by have:=aY h;omega⟩,λ_=>?_⟩
  have hI:=oR hJ.w.i (pL hJ f)
  have hS:=(CR (W:=kz W f) hI f0 (by show f<W.az;omega)).tk f.toNat (by show f.toNat<W.az;omega)
  have ho:=hS.aX
  have e:bc (N_+1) W f=t_ W f:=CU hk
  simp only[e,oT (k:=6) (by decide)]
  have hf:=sZ (p:=cb W.aq W.aa) (W:=W) hJ.t
  refine⟨⟨f0,by omega,hI⟩,⟨f0,by omega⟩,λJ=>?_,λJ=>?_⟩
  · refine⟨⟨of_decide_eq_true J,Int.lt_of_lt_of_le ho.2 (by show(W.ar:Int)<=W.az;omega)⟩,⟨f0,by omega⟩,⟨⟨z.k0,z.k1,z.c0,z.c1,z.aa,z.af,z.tasks,z.lines,z.bits,z.ready,z.aj,z.d0,z.d1,z.t0,z.t1⟩,hJ.w.i.aa,hJ.w.i.tl,hJ.w.pg⟩,?_⟩
    repeat' (first|exact trivial|exactλj hj=>Px J|exact hf|exact bG rfl|exact dM rfl|exact cL rfl|rfl|refine And.intro ?_ ?_|intro _)
  · refine⟨⟨f0,by omega⟩,⟨⟨z.k0,z.k1,z.c0,z.c1,z.aa,z.af,z.tasks,z.lines,z.bits,z.ready,z.aj,z.d0,z.d1,z.t0,z.t1⟩,hJ.w.i.aa,hJ.w.i.tl,hJ.w.pg⟩,?_⟩
    repeat' (first|exact trivial|exactλj hj=>Py J|exact hf|exact bG rfl|exact dM rfl|exact cL rfl|rfl|refine And.intro ?_ ?_|intro _)
  : ∀x,(qv N_).pre x->Dm N_ x) x hp
structure Me where
  (f:Int) (W:Wd)
def qw (N_:Nat):Sy.Spec:=⟨Me,λ⟨f,_⟩=> [.ptr 0 0 none 0 0,.v (.int .i64 f)],λ⟨_,W⟩=>bQ W,λ⟨f,W⟩=>JJ W/\cE W<=N_/\0<=f/\f<W.ar/\W.kinds f.toNat=7,λ_=> .tp 0 (aH []),λ⟨f,W⟩=>bQ (bc (N_+1) W f),
  λargs mem=>match args with| [a0,a1]=>some ⟨av (a1),dL mem 0⟩|_=>none⟩
def Dn (N_:Nat):Me->Prop:=λ⟨f,W⟩=>let a0:=0<=f/\f<((W.ar:Nat):Int);let b0:=false=false;let c0:=SV.ptr 0 0 none 0 0=SV.ptr 0 0 none 0 0;let d0:=Int.toNat f;let e0:=0+d0;let g0:=cj W.kinds d0 0;let h0:={W with kinds:=g0};let k0:=W.az;let l0:=(k0:Int);let o0:=(7:Int)==7;let q0:=W.ao d0;let u0:=0<=f/\f<((W.ba:Nat):Int);let v0:=((W.ao e0:Nat):Int);let w0:=fK W.aq W.aa 7 f;a0/\(a0/\(∀x0:Nat,b0)/\c0/\W.kinds (0+d0)=7/\ak {W with kinds:=λy0:Nat=>cond (Nat.beq y0 e0) 0 (W.kinds y0)} h0 True/\True)/\(∀z0:Nat,True->c0/\0=((0:Nat):Int)/\ak h0 {W with kinds:=g0,tasks:=df 7 W f 0} True/\0<=k0/\(∀a1:Nat,let b1:=(a1:Int);let c1:=decide (b1<l0);let d1:=0<=b1/\b1<l0;let e1:=0+Int.toNat b1;let g1:=cond o0 ((df 7 W f a1 e1).helper==f) false;let J:Int:=b1+1;let k1:=ah J=J;let l1:={W with kinds:=g0,tasks:=df 7 W f a1};a1<=k0->l0<=9223372036854775807->(c1=true->(((7:Int)==4)=true->d1)/\(((7:Int)==5)=true->d1)/\(o0=true->d1)/\(g1=true->d1/\(∀o1:Nat,b0)/\k1/\(∃q1:Nat,c0/\J=(q1:Int)/\ak {W with kinds:=g0,tasks:=λu1:Nat=>let v1:=df 7 W f a1 u1;{v1 with helper:=cond (Nat.beq u1 e1) (-1) v1.helper}} {W with kinds:=g0,tasks:=df 7 W f q1} True/\q1<=k0/\k0-q1<k0-a1))/\(g1=false->k1/\(∃w1:Nat,c0/\J=(w1:Int)/\ak l1 {W with kinds:=g0,tasks:=df 7 W f w1} True/\w1<=k0/\k0-w1<k0-a1)))/\(c1=false->c0/\0=((0:Nat):Int)/\ak l1 {W with kinds:=g0,tasks:=cz 7 W f 0} True/\0<=q0/\(∀x1:Nat,let y1:=(x1:Int);let z1:=decide (y1<v0);let a2:=0<=y1/\y1<v0;let b2:=W.lines e0 (0+Int.toNat y1);let c2:=0<=b2/\b2<l0;let d2:Int:=y1+1;let e2:=0+Int.toNat b2;
    let g2:={W with kinds:=g0,tasks:=cz 7 W f x1,ao:=λU:Nat=>cond (Nat.beq U e0) 0 (W.ao U),lines:=λk2:Nat=>λl2:Nat=>cond (Nat.beq k2 e0) (W.lines e0 l2) (W.lines k2 l2),bits:=λo2:Nat=>cond (Nat.beq o2 e0) 0 (W.bits o2)};x1<=q0->u0/\(v0<=9223372036854775807->(z1=true->tn 9 (u0/\tn 2 (a2/\True/\c2/\(∀q2:Nat,b0)/\tn 9 (u0/\tn 2 (a2/\True/\c2/\(∀u2:Nat,b0)/\ah d2=d2/\(∃v2:Nat,c0/\d2=(v2:Int)/\ak {W with kinds:=g0,tasks:=λw2:Nat=>let x2:=cz 7 W f x1 w2;{x2 with st:=cond (Nat.beq w2 e2) 0 x2.st,loc:=cond (Nat.beq w2 e2) (-1) x2.loc}} {W with kinds:=g0,tasks:=cz 7 W f v2} True/\v2<=q0/\q0-v2<q0-x1))))))/\(z1=false->u0/\(∀y2:Nat,Nat.beq 1 1=true)/\(0<=f/\f<((W.aN:Nat):Int))/\(∀z2:Nat,b0)/\((c0/\(7:Int)=7/\f=f/\True)/\ak g2 g2 True/\lf.match_1 (λa3:gp=>Prop) (gp.mk 7 f g2) (λb3:Int=>λc3:Int=>λd3:Wd=>fJ d3))/\True/\ak {W with kinds:=g0,tasks:=cz 7 W f x1,ao:=λe3:Nat=>cond (Nat.beq e3 e0) 0 (W.ao e3),lines:=λg3:Nat=>λh3:Nat=>cond (Nat.beq g3 e0) (W.lines e0 h3) (W.lines g3 h3),bits:=λk3:Nat=>cond (Nat.beq k3 e0) 0 (W.bits k3),aA:=eE w0 g2,aj:=dA w0 g2} (bc (N_+1) W f) True))))))
set_option maxHeartbeats 1000000 in
theorem U1 (N_:Nat) (h_:aL Tryz.prog aO 23 (kJ N_)): ∀x,(qw N_).pre x->ed Tryz.prog aO 36 ((qw N_).args x) ((qw N_).mem x) ((qw N_).res x) ((qw N_).bf x):=λx hp=>gG (.cons nw (.cons mK (.cons nv (.cons h_ .nil)))) false Tryz.func36 ((λ⟨f,W⟩=> [.gJ [3,11,13,18,23,29],.cut 2 (od W f 7 4),.inv (mY (kz W f) f [(0,bd 0)] 5),.inv (E8 7 W f [(0,bd 0)] 6),.inv (nS (b_ (bc N_)) W f [(0,bd 0)] 7),.inv (nT 7 W f [(0,bd 0)] 9)]) x) (V:=Dn N_ x) (by kernel_rfl)<|(λ⟨f,W⟩ hp=>by
  dsimp only[qw]at hp
  dsimp only[Dn,tn,ah,ak,aE,aD,ay]
  simp only[aS,aZ,eq_self,implies_true,Bool.cond_self]
  try simp only[cu]
  obtain⟨hJ,hn,f0,f1,hk⟩:=hp
  have z:=hJ.w.i.z
  have z1:=z.aa
  have z2:=z.af
  have z3:=z.tasks
  have z4:=z.k1
  have z5:=z.lines
  have z6:=z.bits
  refine⟨⟨f0,f1⟩,⟨⟨f0,f1⟩,hk,λ_ _=>rfl⟩,λ_ _=>?_⟩
  refine⟨λq _=>bG (de (k:=7) (f:=f) (Nat.zero_le _)).symm,λs hs _=>⟨λh=>?_,λh=>?_⟩⟩
  · have ai:=aY h
    rw[de (Nat.le_refl _)]
    refine⟨λh=>absurd h (by decide),λh=>absurd h (by decide),λ_=>by omega,λJ=>⟨by omega,bM (by omega) (by omega),s+1,by omega,λq _=>?_,by omega,by omega⟩,λJ=>⟨bM (by omega) (by omega),s+1,by omega,λq _=>?_,by omega,by omega⟩⟩
    · have U:((W.tasks s).helper==f)=true:=J
      have e2:la 7 f (W.tasks s)={W.tasks s with helper:= -1}:=by
        show({W.tasks s with helper:=bif (W.tasks s).helper==f then -1 else(W.tasks s).helper}:bu)=_
        rw[U];rfl
      rcases Nat.lt_trichotomy q s with e|e|e
      · rw[ca (by omega),dd e,dd (by omega:q<s+1)];exact bG rfl
      · subst e
        rw[Nat.beq_refl,dd (Nat.lt_succ_self _),de (Nat.le_refl _),e2]
        simp only[cond_true]
        repeat' (first|exact trivial|rfl|refine And.intro ?_ ?_)
      · rw[ca (by omega),de (by omega),de (by omega:s+1<=q)];exact bG rfl
    · have U:((W.tasks s).helper==f)=false:=J
      have e2:la 7 f (W.tasks s)=W.tasks s:=by
        show({W.tasks s with helper:=bif (W.tasks s).helper==f then -1 else(W.tasks s).helper}:bu)=_
        rw[U];rfl
      rcases Nat.lt_trichotomy q s with e|e|e
      · rw[dd e,dd (by omega:q<s+1)];exact bG rfl
      · subst e;rw[de (Nat.le_refl _),dd (Nat.lt_succ_self _),e2];exact bG rfl
      · rw[de (by omega),de (by omega:s+1<=q)];exact bG rfl
  have bo:=bD h
  obtain rfl:s=W.az:=by omega
  refine⟨λq hq=>bG ?_,λs hs=>⟨⟨f0,by omega⟩,λ_=>⟨λh=>?_,λh=>?_⟩⟩⟩
  · rw[zZ]
  · have ai:=aY h
    obtain⟨l0,l1⟩:=(hJ.w.i.ln f.toNat (by omega)).2 s ai
    have hll:=(hJ.w.i.ln f.toNat (by omega)).1
    refine⟨⟨f0,by omega⟩,by omega,⟨l0,l1⟩,⟨f0,by omega⟩,by omega,⟨l0,l1⟩,bM (by omega) (by omega),s+1,by omega,λq hq=>?_,by omega,by omega⟩
    rcases Decidable.em (q=(W.lines f.toNat s).toNat)with e|e
    · rw[zl l0 e,<-yH (s:=s)]
      subst e
      simp only[Nat.beq_refl,cond_true]
      repeat' (first|exact trivial|rfl|refine And.intro ?_ ?_)
    · rw[zm l0 e]
      simp only[ca e,cond_false]
      repeat' (first|exact trivial|rfl|refine And.intro ?_ ?_)
  have bo:=bD h
  obtain rfl:s=W.ao f.toNat:=by omega
  have e:bc (N_+1) W f=pN W f:=uV (.inl hk)
  simp only[e,oT (k:=7) (by decide)]
  have hf:=sZ (p:=cb W.aq W.aa) (W:=W) hJ.t
  have hd: ∀j,j<W.az->cz 7 W f (W.ao f.toNat) j=k_ W f j:=λj hj=>Df hj (by rw[hk];rfl)
  have hl: ∀q v,(bif Nat.beq q f.toNat then W.lines f.toNat v else W.lines q v)=W.lines q v:=λq v=>by
    rcases Decidable.em (q=f.toNat)with e|e
    · subst e;rw[Nat.beq_refl];rfl
    · rw[ca e];rfl
  refine⟨⟨f0,by omega⟩,λ_=>rfl,⟨f0,by omega⟩,⟨⟨z.k0,z.k1,z.c0,z.c1,z.aa,z.af,z.tasks,z.lines,z.bits,z.ready,z.aj,z.d0,z.d1,z.t0,z.t1⟩,hJ.w.i.aa,hJ.w.i.tl,hJ.w.pg⟩,?_⟩
  repeat' (first|exact trivial|exactλj hj=>bG (hd j hj)|exact hf|exactλq _=>⟨rfl,λv _=>hl q v⟩|exact bG rfl|exact dM rfl|exact cL rfl|rfl|refine And.intro ?_ ?_|intro _)
  : ∀x,(qw N_).pre x->Dn N_ x) x hp
structure Mf where
  (f:Int) (W:Wd)
def qx (N_:Nat):Sy.Spec:=⟨Mf,λ⟨f,_⟩=> [.ptr 0 0 none 0 0,.v (.int .i64 f)],λ⟨_,W⟩=>bQ W,λ⟨f,W⟩=>JJ W/\cE W<=N_/\0<=f/\f<W.ar/\W.kinds f.toNat=8,λ_=> .tp 0 (aH []),λ⟨f,W⟩=>bQ (bc (N_+1) W f),
  λargs mem=>match args with| [a0,a1]=>some ⟨av (a1),dL mem 0⟩|_=>none⟩
def Dp (N_:Nat):Mf->Prop:=λ⟨f,W⟩=>let a0:=0<=f/\f<((W.ar:Nat):Int);let b0:=false=false;let c0:=SV.ptr 0 0 none 0 0=SV.ptr 0 0 none 0 0;let d0:=Int.toNat f;let e0:=0+d0;let g0:=cj W.kinds d0 0;let h0:={W with kinds:=g0};let k0:=ak h0 h0 True;let l0:=W.az;let o0:=(l0:Int);let q0:=W.ao d0;let u0:=0<=f/\f<((W.ba:Nat):Int);let v0:=((W.ao e0:Nat):Int);let w0:=fK W.aq W.aa 8 f;a0/\(a0/\(∀x0:Nat,b0)/\c0/\W.kinds (0+d0)=8/\ak {W with kinds:=λy0:Nat=>cond (Nat.beq y0 e0) 0 (W.kinds y0)} h0 True/\True)/\(∀z0:Nat,True->c0/\0=((0:Nat):Int)/\k0/\0<=l0/\(∀a1:Nat,let b1:=(a1:Int);let c1:=decide (b1<o0);let d1:=0<=b1/\b1<o0;let e1:Int:=b1+1;a1<=l0->o0<=9223372036854775807->(c1=true->(((8:Int)==4)=true->d1)/\(((8:Int)==5)=true->d1)/\(((8:Int)==7)=true->d1)/\ah e1=e1/\(∃g1:Nat,c0/\e1=(g1:Int)/\k0/\g1<=l0/\l0-g1<l0-a1))/\(c1=false->c0/\0=((0:Nat):Int)/\ak h0 {W with kinds:=g0,tasks:=cz 8 W f 0} True/\0<=q0/\(∀J:Nat,let k1:=(J:Int);let l1:=decide (k1<v0);let o1:=0<=k1/\k1<v0;let q1:=W.lines e0 (0+Int.toNat k1);let u1:=0<=q1/\q1<o0;let v1:Int:=k1+1;let w1:=0+Int.toNat q1;let x1:={W with kinds:=g0,tasks:=cz 8 W f J,ao:=λy1:Nat=>cond (Nat.beq y1 e0) 0 (W.ao y1),lines:=λz1:Nat=>λa2:Nat=>cond (Nat.beq z1 e0) (W.lines e0 a2) (W.lines z1 a2),bits:=λb2:Nat=>cond (Nat.beq b2 e0) 0 (W.bits b2)};J<=q0->u0/\(v0<=9223372036854775807->(l1=true->tn 9 (u0/\tn 2 (o1/\True/\u1/\(∀c2:Nat,b0)/\tn 9 (u0/\tn 2 (o1/\True/\u1/\(∀d2:Nat,b0)/\ah v1=v1/\(∃e2:Nat,c0/\v1=(e2:Int)/\
    ak {W with kinds:=g0,tasks:=λg2:Nat=>let U:=cz 8 W f J g2;{U with st:=cond (Nat.beq g2 w1) 0 U.st,loc:=cond (Nat.beq g2 w1) (-1) U.loc}} {W with kinds:=g0,tasks:=cz 8 W f e2} True/\e2<=q0/\q0-e2<q0-J))))))/\(l1=false->u0/\(∀k2:Nat,Nat.beq 1 1=true)/\(0<=f/\f<((W.aN:Nat):Int))/\(∀l2:Nat,b0)/\((c0/\(8:Int)=8/\f=f/\True)/\ak x1 x1 True/\lf.match_1 (λo2:gp=>Prop) (gp.mk 8 f x1) (λq2:Int=>λu2:Int=>λv2:Wd=>fJ v2))/\True/\ak {W with kinds:=g0,tasks:=cz 8 W f J,ao:=λw2:Nat=>cond (Nat.beq w2 e0) 0 (W.ao w2),lines:=λx2:Nat=>λy2:Nat=>cond (Nat.beq x2 e0) (W.lines e0 y2) (W.lines x2 y2),bits:=λz2:Nat=>cond (Nat.beq z2 e0) 0 (W.bits z2),aA:=eE w0 x1,aj:=dA w0 x1} (bc (N_+1) W f) True))))))
set_option maxHeartbeats 1000000 in
theorem U2 (N_:Nat) (h_:aL Tryz.prog aO 23 (kJ N_)): ∀x,(qx N_).pre x->ed Tryz.prog aO 36 ((qx N_).args x) ((qx N_).mem x) ((qx N_).res x) ((qx N_).bf x):=λx hp=>gG (.cons nw (.cons mK (.cons nv (.cons h_ .nil)))) false Tryz.func36 ((λ⟨f,W⟩=> [.gJ [3,11,13,15,18,23,29],.cut 2 (od W f 8 4),.inv (mY (kz W f) f [(0,bd 0)] 5),.inv (te W.az [(0,bd 0)] 6),.inv (nS (b_ (bc N_)) W f [(0,bd 0)] 7),.inv (nT 8 W f [(0,bd 0)] 9)]) x) (V:=Dp N_ x) (by kernel_rfl)<|(λ⟨f,W⟩ hp=>by
  dsimp only[qx]at hp
  dsimp only[Dp,tn,ah,ak,aE,aD,ay]
  simp only[aS,aZ,eq_self,implies_true,Bool.cond_self]
  try simp only[cu]
  obtain⟨hJ,hn,f0,f1,hk⟩:=hp
  have z:=hJ.w.i.z
  have z1:=z.aa
  have z2:=z.af
  have z3:=z.tasks
  have z4:=z.k1
  have z5:=z.lines
  have z6:=z.bits
  refine⟨⟨f0,f1⟩,⟨⟨f0,f1⟩,hk,λ_ _=>rfl⟩,λ_ _=>?_⟩
  refineλq hq _=>⟨λh=>⟨λh=>absurd h (by decide),λh=>absurd h (by decide),λh=>absurd h (by decide),bM (by have:=aY h;omega) (by have:=aY h;omega),q+1,by omega,by have:=aY h;omega,by have:=aY h;omega⟩,λ_=>?_⟩
  refine⟨λq hq=>bG ?_,λs hs=>⟨⟨f0,by omega⟩,λ_=>⟨λh=>?_,λh=>?_⟩⟩⟩
  · rw[zZ,dd hq];rfl
  · have ai:=aY h
    obtain⟨l0,l1⟩:=(hJ.w.i.ln f.toNat (by omega)).2 s ai
    have hll:=(hJ.w.i.ln f.toNat (by omega)).1
    refine⟨⟨f0,by omega⟩,by omega,⟨l0,l1⟩,⟨f0,by omega⟩,by omega,⟨l0,l1⟩,bM (by omega) (by omega),s+1,by omega,λq hq=>?_,by omega,by omega⟩
    rcases Decidable.em (q=(W.lines f.toNat s).toNat)with e|e
    · rw[zl l0 e,<-yH (s:=s)]
      subst e
      simp only[Nat.beq_refl,cond_true]
      repeat' (first|exact trivial|rfl|refine And.intro ?_ ?_)
    · rw[zm l0 e]
      simp only[ca e,cond_false]
      repeat' (first|exact trivial|rfl|refine And.intro ?_ ?_)
  have bo:=bD h
  obtain rfl:s=W.ao f.toNat:=by omega
  have e:bc (N_+1) W f=pN W f:=uV (.inr hk)
  simp only[e,oT (k:=8) (by decide)]
  have hf:=sZ (p:=cb W.aq W.aa) (W:=W) hJ.t
  have hd: ∀j,j<W.az->cz 8 W f (W.ao f.toNat) j=k_ W f j:=λj hj=>Df hj (by rw[hk];rfl)
  have hl: ∀q v,(bif Nat.beq q f.toNat then W.lines f.toNat v else W.lines q v)=W.lines q v:=λq v=>by
    rcases Decidable.em (q=f.toNat)with e|e
    · subst e;rw[Nat.beq_refl];rfl
    · rw[ca e];rfl
  refine⟨⟨f0,by omega⟩,λ_=>rfl,⟨f0,by omega⟩,⟨⟨z.k0,z.k1,z.c0,z.c1,z.aa,z.af,z.tasks,z.lines,z.bits,z.ready,z.aj,z.d0,z.d1,z.t0,z.t1⟩,hJ.w.i.aa,hJ.w.i.tl,hJ.w.pg⟩,?_⟩
  repeat' (first|exact trivial|exactλj hj=>bG (hd j hj)|exact hf|exactλq _=>⟨rfl,λv _=>hl q v⟩|exact bG rfl|exact dM rfl|exact cL rfl|rfl|refine And.intro ?_ ?_|intro _)
  : ∀x,(qx N_).pre x->Dp N_ x) x hp
end Go.Proofs.YtmieeldmfehpoaaGreatDoor
