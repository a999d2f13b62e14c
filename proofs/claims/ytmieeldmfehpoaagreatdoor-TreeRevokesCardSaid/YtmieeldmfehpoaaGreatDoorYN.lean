/- Sound worlds: all of it; numbers within bounds. -/
import Derived.Test.YtmieeldmfehpoaaGreatDoorYK
import Derived.Test.YtmieeldmfehpoaaGreatDoorYM
import Derived.Shelf.Slices.Cells
import Derived.Test.YtmieeldmfehpoaaGreatDoorYL
set_option linter.unusedVariables false
set_option linter.unusedSimpArgs false
set_option linter.unusedVariables false
set_option linter.unusedSimpArgs false
set_option maxRecDepth 100000
namespace Go.Proofs.YtmieeldmfehpoaaGreatDoor
open Go.RowKit Go.Sy
def cj {α:Type} (f:Nat->α) (i:Nat) (v:α) (j:Nat):α:=bif Nat.beq j i then v else f j
theorem lR {α:Type} {f:Nat->α} {i:Nat} {v:α}:cj f i v i=v:=by unfold cj;rw[Nat.beq_refl];rfl
theorem lS {α:Type} {f:Nat->α} {i j:Nat} {v:α} (h:j≠i):cj f i v j=f j:=by unfold cj;rw[ca h];rfl
theorem Jd {a b:bu} (h:ke a b=true):a=b:=by
  unfold ke at h
  simp only[Bool.and_eq_true,beq_iff_eq,and_true]at h
  cases a;cases b
  simp only at h
  obtain⟨⟨J,U,h3,h4,h5,h6,h7,h8⟩,h9,dU,fm,iK,jq,xe,mG,GJ,h17,h18,h19,h20⟩:=h
  subst J U h3 h4 h5 h6 h7 h8 h9 dU fm iK jq xe mG GJ h17 h18 h19 h20
  rfl
structure gA (W:Wd):Prop where
  z:bW W
  aa: ∀i,i<W.aq->aB (W.aa i) 65535=false
  kd: ∀i,i<W.ar->(aB (W.kinds i) 8||W.kinds i==1)=false
  dm: ∀i,i<W.aI->aB (W.aM i) 3=false
  sl: ∀i,i<W.aw->cT W i=true
  fr: ∀i,i<W.ar->iL W i=true
  tk: ∀i,i<W.ar->cS W i=true
  ln: ∀i,i<W.ar->cU W i=true
  co: ∀i,i<W.aP->dg W i=true
  rl: ∀i,i<W.aT->dC W i=true
  en: ∀i,i<W.aq->cV W i=true
  tl: ∀i,i<W.aP->cI W (W.aA i) (W.aj i)=true
theorem Um {W:Wd} (h:bW W):pf W=false:=by
  obtain⟨J,U,h3,h4,h5,h6,h7,h8,h9,dU,fm,iK,jq,xe,mG⟩:=h
  unfold pf aB
  simp only[Bool.or_eq_false_iff,decide_eq_false_iff_not,bne_eq_false_iff_eq]
  refine⟨⟨⟨⟨⟨⟨⟨⟨⟨⟨⟨⟨⟨?_,?_⟩,?_⟩,?_⟩,h5⟩,h6⟩,h7⟩,h8⟩,h9⟩,dU⟩,fm⟩,?_⟩,?_⟩,?_,?_⟩<;>omega
theorem pw {b:Bool} (h:b=true):(!b)=false:=by rw[h];rfl
theorem gA.iff {W:Wd}:wE W=0↔gA W:=by
  constructor
  · intro h
    unfold wE wm at h
    cases hs:pf W with
    |true=>rw[hs]at h;exact absurd (show(2:Int)=0 from h) (by decide)
    |false=>
     rw[hs]at h
     have h:(oA W (pO W (rR W (pP W (pQ W (pR W (pS W (0,-1)))))))).1=0:=h
     have a1:=kD (by decide) h
     have a2:=kD (by decide) a1.2
     have a3:=kD (by decide) a2.2
     have a4:=kD (by decide) a3.2
     have a5:=kD (by decide) a4.2
     have a6:=kD (by decide) a5.2
     have a7:=kD (by decide) a6.2
     have a8:=kD (by decide) a7.2
     have a9:=kD (by decide) a8.2
     have ox:=kD (by decide) a9.2
     have a11:=kD (by decide) ox.2
     exact⟨D2 hs,a1.1,a2.1,a3.1,λi hi=>dy (a4.1 i hi),λi hi=>dy (a5.1 i hi),λi hi=>dy (a6.1 i hi),λi hi=>dy (a7.1 i hi),λi hi=>dy (a8.1 i hi),λi hi=>dy (a9.1 i hi),λi hi=>dy (ox.1 i hi),λi hi=>dy (a11.1 i hi)⟩
  · intro h
    obtain⟨z,aa,kd,dm,sl,fr,tk,ln,co,rl,en,tl⟩:=h
    unfold wE wm oA pO rR pP pQ pR pS
    rw[Um z]
    rw[dD aa,dD kd,dD dm,dD λi hi=>pw (sl i hi),dD λi hi=>pw (fr i hi),dD λi hi=>pw (tk i hi),dD λi hi=>pw (ln i hi),dD λi hi=>pw (co i hi),dD λi hi=>pw (rl i hi),dD λi hi=>pw (en i hi),dD λi hi=>pw (tl i hi)]
    rfl
structure dV (W:Wd) (t:bu):Prop where
  cG:kM t=false
  pc:0<=t.pc/\t.pc<=65535
  word:0<=t.word/\t.word<=65535
  bJ:0<=t.bJ/\t.bJ<=65535
  st:0<=t.st/\t.st<=6
  prio:0<=t.prio/\t.prio<=3
  core:0<=t.core/\t.core<W.aP
  dH:0<=t.dH/\t.dH<=3
  node: -1<=t.node/\t.node<W.ar
  space: -1<=t.space/\t.space<W.ar
  helper: -1<=t.helper/\t.helper<W.ar
  loc: -1<=t.loc/\t.loc<W.ar
  aX: -1<=t.aX/\t.aX<W.ar
structure Inv (L:Nat) (W:Wd):Prop where
  z:bW W
  aa: ∀i,i<W.aq->fp (W.aa i)
  kd: ∀i,i<W.ar->0<=W.kinds i/\W.kinds i<=8
  dm: ∀i,i<W.aI->0<=W.aM i/\W.aM i<=3
  sl: ∀i,i<W.aw->gN (W.af i)=0/\((W.af i).kind≠0->(W.af i).base+(W.af i).len<=W.ar)/\ -1<=(W.af i).from_/\(W.af i).from_<W.aw
  tk: ∀i,i<W.az->dV W (W.tasks i)
  ln: ∀i,i<W.ba->W.ao i<=L/\ ∀k,k<W.ao i->0<=W.lines i k/\W.lines i k<W.az
  rd: ∀i,i<W.aT->W.aJ i<=L/\ ∀k,k<W.aJ i->0<=W.ready i k/\W.ready i k<W.az
  co: ∀c,c<W.aP-> -1<=W.aF c/\W.aF c<W.az
  bt: ∀i,i<W.aN->0<=W.bits i/\W.bits i<=65535
  tl: ∀c,c<W.aG->W.aA c<=L
theorem lg {v m:Int} (h:aB v m=false):0<=v/\v<=m:=by
  unfold aB at h
  simp only[Bool.or_eq_false_iff,decide_eq_false_iff_not]at h
  omega
theorem yE {W:Wd} {f k:Int} (hk:k≠ -1) (h:okF W f k=true): -1<=f/\f<W.ar:=by
  unfold okF at h
  simp only[Bool.or_eq_true,beq_iff_eq]at h
  rcases h with h|h
  · omega
  · have:=ll (W:=W) (f:=f) (by rw[h];exact hk);omega
theorem Un {W:Wd} {f:Nat} (h:km W f=true):(W.tasks f).loc= -1\/cm W (W.tasks f).loc=7\/cm W (W.tasks f).loc=8:=by
  unfold km sM at h
  dsimp only at h
  generalize ((W.tasks f).st==2||(W.tasks f).st==3||(W.tasks f).st==4)=a at h
  generalize ((W.tasks f).st==6)=b at h
  generalize ((W.tasks f).st==1)=c at h
  cases a<;>cases b<;>cases c<;>simp only[cond_true,cond_false,Bool.and_eq_true,beq_iff_eq]at h<;>first|exact .inl h.2|exact .inr (.inl h.1.2)|exact .inr (.inr h.1.2)
theorem N2 {W:Wd} {t c p:Int} (h:dB W t c p=true):(0<=t/\t<W.ar)/\cm W t=6/\(W.tasks t.toNat).st=1/\(W.tasks t.toNat).core=c/\(0<=p->(W.tasks t.toNat).prio=p):=by
  unfold dB at h
  simp only[Bool.and_eq_true,Bool.or_eq_true,beq_iff_eq,decide_eq_true_eq]at h
  obtain⟨⟨⟨J,U⟩,h3⟩,h4⟩:=h
  exact⟨ll (by rw[J];decide),J,U,h3,λhp=>h4.resolve_left (by omega)⟩
theorem MG {W:Wd} (h:gA W) (hs:Sm W):Inv 50 W:=by
  obtain⟨z,aa,kd,dm,sl,fr,tk,ln,co,rl,en,tl⟩:=h
  have zt:=z.tasks
  refine⟨z,λi hi=>lg (aa i hi),λi hi=>lg (Bool.or_eq_false_iff.1 (kd i hi)).1,λi hi=>lg (dm i hi),λi hi=>?_,λi hi=>?_,λi hi=>⟨hs.sm.1 i hi,λk hk=>?_⟩,λi hi=>⟨hs.sm.2.1 i hi,λk hk=>?_⟩,λc hc=>?_,λi hi=>?_,λc hc=>hs.sm.2.2 c hc⟩
  · have h:=sl i hi
    have hn:=C2 h
    have hr:=nt hn
    unfold cT kU at h
    cases hk:(W.af i).kind==0 with
    |true=>
     rw[hk]at h
     simp only[cond_true,Bool.and_eq_true,beq_iff_eq]at h
     refine⟨hn,λh0=>absurd (eq_of_beq hk) h0,?_,?_⟩<;>omega
    |false=>
     rw[hk]at h
     simp only[cond_false,Bool.and_eq_true,Bool.or_eq_true,beq_iff_eq,decide_eq_true_eq]at h
     refine⟨hn,λ_=>h.1.1.2,?_⟩
     rcases h.2 with U|U
     · omega
     · have:=kI.1 U.1.1;omega
  · have h:=tk i (by omega)
    unfold cS at h
    cases hk:W.kinds i !=6 with
    |true=>
     have h:ke (W.tasks i) bu.blank=true:=by simpa [hk]using h
     rw[Jd h]
     have:=z.c0
     have:=z.k0
     refine⟨by decide,by decide,by decide,by decide,by decide,by decide,?_,by decide,?_,?_,?_,?_,?_⟩<;>simp only[bu.blank]<;>omega
    |false=>
     simp only[hk,cond_false,Bool.and_eq_true,Bool.not_eq_true']at h
     obtain⟨⟨⟨⟨⟨J,U⟩,h3⟩,h4⟩,h5⟩,h6⟩:=h
     unfold lZ at U
     simp only[Bool.or_eq_false_iff]at U
     obtain⟨⟨⟨⟨⟨⟨g1,g2⟩,g3⟩,g4⟩,g5⟩,g6⟩,g7⟩:=U
     unfold jO at h3
     simp only[Bool.and_eq_true]at h3
     obtain⟨⟨⟨r1,r2⟩,r3⟩,r4⟩:=h3
     have g6:=lg g6
     refine⟨J,lg g1,lg g2,lg g3,lg g4,lg g5,⟨g6.1,by omega⟩,lg g7,yE (by decide) r1,yE (by decide) r2,yE (by decide) r3,?_,yE (by decide) r4⟩
     rcases Un h6 with h|h|h
     · have:=z.k0;omega
     · have:=ll (W:=W) (f:=(W.tasks i).loc) (by rw[h];decide);omega
     · have:=ll (W:=W) (f:=(W.tasks i).loc) (by rw[h];decide);omega
  · have h:=ln i (by have:=z.lines;omega)
    unfold cU at h
    simp only[Bool.and_eq_true]at h
    have h:=j5.1 h.2 k hk
    unfold fA at h
    simp only[Bool.and_eq_true,beq_iff_eq]at h
    have:=ll (W:=W) (f:=W.lines i k) (by rw[h.1.1];decide)
    omega
  · have h:=j5.1 (rl i hi) k hk
    have:=(N2 h).1
    omega
  · have h:=co c hc
    unfold dg at h
    simp only[Bool.or_eq_true,beq_iff_eq]at h
    rcases h with h|h
    · have:=z.k0;omega
    · have:=(N2 h).1;omega
  · have h:=ln i (by have:=z.bits;omega)
    unfold cU at h
    simp only[Bool.and_eq_true,Bool.not_eq_true']at h
    exact lg h.1.2
end Go.Proofs.YtmieeldmfehpoaaGreatDoor
set_option linter.unusedVariables false
set_option linter.unusedSimpArgs false
set_option maxRecDepth 100000
namespace Go.Proofs.YtmieeldmfehpoaaGreatDoor
open Go.RowKit Go.Sy
def ue (t:bu):Int:=t.core*4+t.prio
def PY (t:bu):Nat:=(ue t).toNat
theorem bG {x y:bu} (h:x=y):((((((((((((((((((((x.r0=y.r0/\x.r1=y.r1)/\x.r2=y.r2)/\x.r3=y.r3)/\x.r4=y.r4)/\x.r5=y.r5)/\x.r6=y.r6)/\x.r7=y.r7)/\x.pc=y.pc)/\x.st=y.st)/\x.prio=y.prio)/\x.node=y.node)/\x.space=y.space)/\x.helper=y.helper)/\x.loc=y.loc)/\x.word=y.word)/\x.bJ=y.bJ)/\x.aX=y.aX)/\x.core=y.core)/\x.dH=y.dH)):=by
  subst h;exact⟨⟨⟨⟨⟨⟨⟨⟨⟨⟨⟨⟨⟨⟨⟨⟨⟨⟨⟨rfl,rfl⟩,rfl⟩,rfl⟩,rfl⟩,rfl⟩,rfl⟩,rfl⟩,rfl⟩,rfl⟩,rfl⟩,rfl⟩,rfl⟩,rfl⟩,rfl⟩,rfl⟩,rfl⟩,rfl⟩,rfl⟩,rfl⟩
structure ud (W:Wd) (t:Int):Prop where
  t0:0<=t
  t1:t<W.az
  r0:0<=ue (W.tasks t.toNat)
  r1:ue (W.tasks t.toNat)<W.aT
  c0:0<=(W.tasks t.toNat).core
  c1:(W.tasks t.toNat).core<=100
  p0:0<=(W.tasks t.toNat).prio
  p1:(W.tasks t.toNat).prio<=100
  n:W.aJ (PY (W.tasks t.toNat))<=100000
end Go.Proofs.YtmieeldmfehpoaaGreatDoor
set_option linter.unusedVariables false
set_option linter.unusedSimpArgs false
set_option maxRecDepth 100000
namespace Go.Proofs.YtmieeldmfehpoaaGreatDoor
open Go.RowKit Go.Sy
end Go.Proofs.YtmieeldmfehpoaaGreatDoor
set_option linter.unusedVariables false
set_option linter.unusedSimpArgs false
set_option maxRecDepth 100000
namespace Go.Proofs.YtmieeldmfehpoaaGreatDoor
open Go.RowKit Go.Sy
theorem Inv.mono {L L':Nat} {W:Wd} (h:Inv L W) (hl:L<=L'):Inv L' W:=
  ⟨h.z,h.aa,h.kd,h.dm,h.sl,h.tk,λi hi=>⟨Nat.le_trans (h.ln i hi).1 hl,(h.ln i hi).2⟩,λi hi=>⟨Nat.le_trans (h.rd i hi).1 hl,(h.rd i hi).2⟩,h.co,h.bt,λc hc=>Nat.le_trans (h.tl c hc) hl⟩
theorem bW.of {W W':Wd} (h:bW W) (e:W'.ar=W.ar/\W'.aP=W.aP/\W'.aq=W.aq/\W'.aw=W.aw/\W'.az=W.az/\W'.ba=W.ba/\W'.aN=W.aN/\W'.aT=W.aT/\W'.aG=W.aG/\W'.aI=W.aI/\W'.time=W.time):bW W':=by
  obtain⟨e1,e2,e3,e4,e5,e6,e7,e8,e9,lI,QL⟩:=e
  obtain⟨J,U,h3,h4,h5,h6,h7,h8,h9,dU,fm,iK,jq,xe,mG⟩:=h
  exact⟨by rw[e1];exact J,by rw[e1];exact U,by rw[e2];exact h3,by rw[e2];exact h4,by rw[e3,e1];exact h5,by rw[e4,e1];exact h6,by rw[e5,e1];exact h7,by rw[e6,e1];exact h8,by rw[e7,e1];exact h9,by rw[e8,e2];exact dU,by rw[e9,e2];exact fm,by rw[lI];exact iK,by rw[lI];exact jq,by rw[QL];exact xe,by rw[QL];exact mG⟩
theorem dV.of {W W':Wd} {t:bu} (h:dV W t) (e1:W'.ar=W.ar) (e2:W'.aP=W.aP):dV W' t:=
  ⟨h.cG,h.pc,h.word,h.bJ,h.st,h.prio,by rw[e2];exact h.core,h.dH,by rw[e1];exact h.node,by rw[e1];exact h.space,by rw[e1];exact h.helper,by rw[e1];exact h.loc,by rw[e1];exact h.aX⟩
end Go.Proofs.YtmieeldmfehpoaaGreatDoor
set_option linter.unusedVariables false
set_option linter.unusedSimpArgs false
set_option maxRecDepth 100000
namespace Go.Proofs.YtmieeldmfehpoaaGreatDoor
open Go.RowKit Go.Sy
def hnS (W:Wd) (t:Nat) (b g:Int) (i:Nat):bu:=cj W.tasks t {W.tasks t with r1:=b,r2:=g} i
def FC (W:Wd) (t:Nat) (b g:Int):Wd:={W with tasks:=hnS W t b g}
def kt (W:Wd) (t:Int) (j:Nat):Int:=bif W.aF j==t then -1 else W.aF j
def bN (W:Wd) (t:Nat) (a s:Int) (i:Nat):bu:=cj W.tasks t {W.tasks t with st:=s,loc:=a} i
def jY (W:Wd) (t:Int) (i j:Nat):Int:=bif Nat.blt j i then kt W t j else W.aF j
theorem j9 {W:Wd} {t:Int} {i j:Nat} (h:j<i):jY W t i j=kt W t j:=by unfold jY;rw[cD h];rfl
theorem jv {W:Wd} {t:Int} {i j:Nat} (h:i<=j):jY W t i j=W.aF j:=by unfold jY;rw[eI h];rfl
structure uf (W:Wd) (t:Int):Prop where
  t0:0<=t
  t1:t<W.az
  c0:0<=(W.tasks t.toNat).core
  c1:(W.tasks t.toNat).core<W.aP
  u: ∀j:Nat,j<W.aP->W.aF j=t->(W.tasks t.toNat).core=j
theorem Wj {f:Nat->bu} {t i:Nat} {v:bu} (p:bu->Int) (h:p v=p (f t)):p (cj f t v i)=p (f i):=by
  rcases Decidable.em (i=t)with e|e
  · subst e;rw[lR];exact h
  · rw[lS e]
end Go.Proofs.YtmieeldmfehpoaaGreatDoor
set_option linter.unusedVariables false
set_option linter.unusedSimpArgs false
set_option maxRecDepth 100000
namespace Go.Proofs.YtmieeldmfehpoaaGreatDoor
open Go.RowKit Go.Sy
theorem ud.of {W W':Wd} {t:Int} (h:ud W t) (e1:W'.az=W.az) (e2:W'.aT=W.aT) (e3:W'.aJ=W.aJ) (e4:(W'.tasks t.toNat).core=(W.tasks t.toNat).core) (e5:(W'.tasks t.toNat).prio=(W.tasks t.toNat).prio):ud W' t:=by
  obtain⟨t0,t1,r0,r1,c0,c1,p0,p1,n⟩:=h
  have ez:ue (W'.tasks t.toNat)=ue (W.tasks t.toNat):=by unfold ue;rw[e4,e5]
  exact⟨t0,by rw[e1];exact t1,by rw[ez];exact r0,by rw[ez,e2];exact r1,by rw[e4];exact c0,by rw[e4];exact c1,by rw[e5];exact p0,by rw[e5];exact p1,by unfold PY;rw[ez,e3];exact n⟩
theorem uf.of {W W':Wd} {t:Int} (h:uf W t) (e1:W'.az=W.az) (e2:W'.aP=W.aP) (e3:W'.aF=W.aF) (e4:(W'.tasks t.toNat).core=(W.tasks t.toNat).core):uf W' t:=by
  obtain⟨t0,t1,c0,c1,u⟩:=h
  exact⟨t0,by rw[e1];exact t1,by rw[e4];exact c0,by rw[e4,e2];exact c1,by rw[e2,e3,e4];exact u⟩
theorem E5 {W:Wd} {t i:Nat} {b g:Int} (p:bu->Int) (h: ∀r:bu,p {r with r1:=b,r2:=g}=p r):p ((FC W t b g).tasks i)=p (W.tasks i):=Wj p (h _)
theorem ud.tQ {W:Wd} {t:Int} {u:Nat} {b g:Int} (h:ud W t):ud (FC W u b g) t:=h.of rfl rfl rfl (E5 bu.core λ_=>rfl) (E5 bu.prio λ_=>rfl)
theorem uf.tQ {W:Wd} {t:Int} {u:Nat} {b g:Int} (h:uf W t):uf (FC W u b g) t:=h.of rfl rfl rfl (E5 bu.core λ_=>rfl)
end Go.Proofs.YtmieeldmfehpoaaGreatDoor
set_option linter.unusedVariables false
set_option linter.unusedSimpArgs false
set_option maxRecDepth 100000
namespace Go.Proofs.YtmieeldmfehpoaaGreatDoor
open Go.RowKit Go.Sy
def m3 (x:bu) (t:Int):bu:={x with aX:=bif x.aX==t then -1 else x.aX}
def w_ (W:Wd) (t:Int) (i:Nat):bu:=m3 (bN W t.toNat (-1) 0 i) t
def rh (W:Wd) (t:Int) (i:Nat):Nat:=gT (W.ao i) (W.lines i) t
def rS (W:Wd) (t:Int) (i:Nat):Nat->Int:=jX (W.ao i) (W.lines i) t
def ri (W:Wd) (t:Int) (i:Nat):Nat:=gT (W.aJ i) (W.ready i) t
def rT (W:Wd) (t:Int) (i:Nat):Nat->Int:=jX (W.aJ i) (W.ready i) t
def ct (W:Wd) (t:Int):Wd:={W with tasks:=w_ W t,ao:=rh W t,lines:=rS W t,aF:=kt W t,aJ:=ri W t,ready:=rT W t}
def iy (W:Wd) (t:Int) (i q:Nat):Nat:=bif Nat.blt q i then rh W t q else W.ao q
def iz (W:Wd) (t:Int) (i q:Nat):Nat->Int:=bif Nat.blt q i then rS W t q else W.lines q
def iA (W:Wd) (t:Int) (i q:Nat):Nat:=bif Nat.blt q i then ri W t q else W.aJ q
def iC (W:Wd) (t:Int) (i q:Nat):Nat->Int:=bif Nat.blt q i then rT W t q else W.ready q
def iW (f:Nat->bu) (t:Int) (i q:Nat):bu:=bif Nat.blt q i then m3 (f q) t else f q
def NV (W:Wd) (t:Int) (l:List (Nat×SV)) (r:List (Nat×Nat)) (z:Nat):bS where
  σ:=Nat
  rt:=r
  sh i:=l++ [(z,.v (.int .i64 i))]
  mh i:= [(5,.row 1 W.ba (λq _=> .il 1 (iy W t i q) (iF (iz W t i q))))]
  inv i:=i<=W.ba
  μ i:=W.ba -i
  init:=0
def NW (W:Wd) (t:Int) (l:List (Nat×SV)) (r:List (Nat×Nat)) (z:Nat):bS where
  σ:=Nat
  rt:=r
  sh i:=l++ [(z,.v (.int .i64 i))]
  mh i:= [(8,.row 1 W.aT (λq _=> .il 1 (iA W t i q) (iF (iC W t i q))))]
  inv i:=i<=W.aT
  μ i:=W.aT -i
  init:=0
def NX (W:Wd) (t:Int) (l:List (Nat×SV)) (r:List (Nat×Nat)) (z:Nat):bS where
  σ:=Nat
  rt:=r
  sh i:=l++ [(z,.v (.int .i64 i))]
  mh i:= [(7,.row 1 W.aP (iF (jY W t i)))]
  inv i:=i<=W.aP
  μ i:=W.aP -i
  init:=0
def NY (W:Wd) (f:Nat->bu) (t:Int) (l:List (Nat×SV)) (r:List (Nat×Nat)) (z:Nat):bS where
  σ:=Nat
  rt:=r
  sh i:=l++ [(z,.v (.int .i64 i))]
  mh i:= [(4,.row 20 W.az (rF λq=>gZ (iW f t i q)))]
  inv i:=i<=W.az
  μ i:=W.az -i
  init:=0
theorem uY {W:Wd} {t:Int} {i q:Nat} (h:q<i):iy W t i q=rh W t q:=by unfold iy;rw[cD h];rfl
theorem oM {W:Wd} {t:Int} {i q:Nat} (h:i<=q):iy W t i q=W.ao q:=by unfold iy;rw[eI h];rfl
theorem uZ {W:Wd} {t:Int} {i q:Nat} (h:q<i):iz W t i q=rS W t q:=by unfold iz;rw[cD h];rfl
theorem sO {W:Wd} {t:Int} {i q:Nat} (h:i<=q):iz W t i q=W.lines q:=by unfold iz;rw[eI h];rfl
theorem Ee {W:Wd} {t:Int} {s q:Nat}:(bif Nat.beq q s then gT (iy W t s s) (iz W t s s) t else iy W t s q)=iy W t (s+1) q:=by
  rw[oM (Nat.le_refl s),sO (Nat.le_refl s)]
  rcases Nat.lt_trichotomy q s with e|e|e
  · rw[ca (by omega),uY e,uY (by omega:q<s+1)];rfl
  · subst e;rw[Nat.beq_refl,uY (Nat.lt_succ_self _)];rfl
  · rw[ca (by omega),oM (by omega:s<=q),oM (by omega:s+1<=q)];rfl
theorem NT {W:Wd} {t:Int} {s q v:Nat}:(bif Nat.beq q s then jX (iy W t s s) (iz W t s s) t v else iz W t s q v)=iz W t (s+1) q v:=by
  rw[oM (Nat.le_refl s),sO (Nat.le_refl s)]
  rcases Nat.lt_trichotomy q s with e|e|e
  · rw[ca (by omega),uZ e,uZ (by omega:q<s+1)];rfl
  · subst e;rw[Nat.beq_refl,uZ (Nat.lt_succ_self _)];rfl
  · rw[ca (by omega),sO (by omega:s<=q),sO (by omega:s+1<=q)];rfl
theorem u_ {W:Wd} {t:Int} {i q:Nat} (h:q<i):iA W t i q=ri W t q:=by unfold iA;rw[cD h];rfl
theorem oN {W:Wd} {t:Int} {i q:Nat} (h:i<=q):iA W t i q=W.aJ q:=by unfold iA;rw[eI h];rfl
theorem va {W:Wd} {t:Int} {i q:Nat} (h:q<i):iC W t i q=rT W t q:=by unfold iC;rw[cD h];rfl
theorem sP {W:Wd} {t:Int} {i q:Nat} (h:i<=q):iC W t i q=W.ready q:=by unfold iC;rw[eI h];rfl
theorem Ef {W:Wd} {t:Int} {s q:Nat}:(bif Nat.beq q s then gT (iA W t s s) (iC W t s s) t else iA W t s q)=iA W t (s+1) q:=by
  rw[oN (Nat.le_refl s),sP (Nat.le_refl s)]
  rcases Nat.lt_trichotomy q s with e|e|e
  · rw[ca (by omega),u_ e,u_ (by omega:q<s+1)];rfl
  · subst e;rw[Nat.beq_refl,u_ (Nat.lt_succ_self _)];rfl
  · rw[ca (by omega),oN (by omega:s<=q),oN (by omega:s+1<=q)];rfl
theorem NU {W:Wd} {t:Int} {s q v:Nat}:(bif Nat.beq q s then jX (iA W t s s) (iC W t s s) t v else iC W t s q v)=iC W t (s+1) q v:=by
  rw[oN (Nat.le_refl s),sP (Nat.le_refl s)]
  rcases Nat.lt_trichotomy q s with e|e|e
  · rw[ca (by omega),va e,va (by omega:q<s+1)];rfl
  · subst e;rw[Nat.beq_refl,va (Nat.lt_succ_self _)];rfl
  · rw[ca (by omega),sP (by omega:s<=q),sP (by omega:s+1<=q)];rfl
theorem jM {f:Nat->bu} {t:Int} {i q:Nat} (h:q<i):iW f t i q=m3 (f q) t:=by unfold iW;rw[cD h];rfl
theorem iq {f:Nat->bu} {t:Int} {i q:Nat} (h:i<=q):iW f t i q=f q:=by unfold iW;rw[eI h];rfl
theorem NZ {x:bu} {t:Int} (h:(x.aX==t)=true):m3 x t={x with aX:= -1}:=by unfold m3;rw[h];rfl
theorem N0 {x:bu} {t:Int} (h:(x.aX==t)=false):m3 x t=x:=by unfold m3;rw[h];rfl
structure IB where
  (t:Int) (W:Wd)
def IC:Sy.Spec:=⟨IB,λ⟨t,_⟩=> [.ptr 0 0 none 0 0,.v (.int .i64 t)],λ⟨_,W⟩=>bQ W,λ⟨t,W⟩=>0<=t/\t<W.az/\Inv 1000 W,λ_=> .tp 0 (aH []),λ⟨t,W⟩=>bQ (ct W t),
  λargs mem=>match args with| [a0,a1]=>some ⟨av (a1),dL mem 0⟩|_=>none⟩
def S0:aQ:=⟨[true],(IC).g,none⟩
def ID:IB->Prop:=λ⟨t,W⟩=>let a0:=SV.ptr 0 0 none 0 0;let b0:=0=((0:Nat):Int);let c0:=W.ba;let d0:=(c0:Int);let e0:=SV.ptr 0 0 none 0 0=a0;let g0:=W.aT;let h0:=(g0:Int);let k0:=W.aP;let l0:=(k0:Int);let o0:=false=false;let q0:=W.tasks;let u0:=W.az;let v0:=(u0:Int);let w0:=0<=t/\t<v0;let x0:=Int.toNat t;a0=a0/\b0/\ak W {W with ao:=iy W t 0,lines:=iz W t 0} True/\0<=c0/\(∀y0:Nat,let z0:=(y0:Int);let a1:=decide (z0<d0);let b1:=0<=z0/\z0<d0;let c1:=0+Int.toNat z0;let d1:=iy W t y0 c1;let e1:Int:=z0+1;let g1:=iy W t y0;let J:=iz W t y0;y0<=c0->d0<=9223372036854775807->(a1=true->tn 10 (b1/\tn 2 ((((d1=d1/\(∀k1:Nat,k1<d1->True/\J c1 (0+k1)=J c1 (0+k1)))/\t=t/\True)/\True/\xK.match_1 (λl1:sf=>Prop) (sf.mk d1 (λo1:Nat=>J c1 (0+o1)) t) (λq1:Nat=>λu1:∀v1:Nat,Int=>λw1:Int=>q1<=100000))/\b1/\(∀x1:Nat,Nat.beq 1 1=true)/\ah e1=e1/\(∃y1:Nat,e0/\e1=(y1:Int)/\ak {W with ao:=λz1:Nat=>cond (Nat.beq z1 c1) (gT d1 (λa2:Nat=>J c1 (0+a2)) t) (g1 z1),lines:=λb2:Nat=>λc2:Nat=>cond (Nat.beq b2 c1) (jX d1 (λd2:Nat=>J c1 (0+d2)) t c2) (J b2 c2)} {W with ao:=iy W t y1,lines:=iz W t y1} True/\y1<=c0/\c0-y1<c0-y0))))/\(a1=false->e0/\b0/\ak {W with ao:=g1,lines:=J} {W with ao:=g1,lines:=J,aJ:=iA W t 0,ready:=iC W t 0} True/\0<=g0/\(∀e2:Nat,let g2:=(e2:Int);let U:=decide (g2<h0);let k2:=0<=g2/\g2<h0;let l2:=0+Int.toNat g2;let o2:=iA W t e2 l2;let q2:Int:=g2+1;let u2:=iA W t e2;let v2:=iC W t e2;e2<=g0->h0<=9223372036854775807->(U=true->tn 10 (k2/\
    tn 2 ((((o2=o2/\(∀w2:Nat,w2<o2->True/\v2 l2 (0+w2)=v2 l2 (0+w2)))/\t=t/\True)/\True/\xK.match_1 (λx2:sf=>Prop) (sf.mk o2 (λy2:Nat=>v2 l2 (0+y2)) t) (λz2:Nat=>λa3:∀b3:Nat,Int=>λc3:Int=>z2<=100000))/\k2/\(∀d3:Nat,Nat.beq 1 1=true)/\ah q2=q2/\(∃e3:Nat,e0/\q2=(e3:Int)/\ak {W with ao:=g1,lines:=J,aJ:=λg3:Nat=>cond (Nat.beq g3 l2) (gT o2 (λh3:Nat=>v2 l2 (0+h3)) t) (u2 g3),ready:=λk3:Nat=>λl3:Nat=>cond (Nat.beq k3 l2) (jX o2 (λo3:Nat=>v2 l2 (0+o3)) t l3) (v2 k3 l3)} {W with ao:=g1,lines:=J,aJ:=iA W t e3,ready:=iC W t e3} True/\e3<=g0/\g0-e3<g0-e2))))/\(U=false->e0/\b0/\ak {W with ao:=g1,lines:=J,aJ:=u2,ready:=v2} {W with ao:=g1,lines:=J,aF:=jY W t 0,aJ:=u2,ready:=v2} True/\0<=k0/\(∀q3:Nat,let u3:=(q3:Int);let v3:=decide (u3<l0);let w3:=0<=u3/\u3<l0;let x3:=0+Int.toNat u3;let y3:=jY W t q3 x3==t;let z3:Int:=u3+1;let a4:=ah z3=z3;let b4:=jY W t q3;let c4:={W with ao:=g1,lines:=J,aF:=b4,aJ:=u2,ready:=v2};q3<=k0->l0<=9223372036854775807->(v3=true->w3/\(y3=true->w3/\(∀d4:Nat,o0)/\a4/\(∃e4:Nat,e0/\z3=(e4:Int)/\ak {W with ao:=g1,lines:=J,aF:=λg4:Nat=>cond (Nat.beq g4 x3) (-1) (b4 g4),aJ:=u2,ready:=v2} {W with ao:=g1,lines:=J,aF:=jY W t e4,aJ:=u2,ready:=v2} True/\e4<=k0/\k0-e4<k0-q3))/\(y3=false->a4/\(∃h4:Nat,e0/\z3=(h4:Int)/\ak c4 {W with ao:=g1,lines:=J,aF:=jY W t h4,aJ:=u2,ready:=v2} True/\h4<=k0/\k0-h4<k0-q3)))/\(v3=false->e0/\b0/\
    ak c4 {W with tasks:=iW q0 t 0,ao:=g1,lines:=J,aF:=b4,aJ:=u2,ready:=v2} True/\0<=u0/\(∀k4:Nat,let l4:=(k4:Int);let o4:=decide (l4<v0);let q4:=0<=l4/\l4<v0;let u4:=0+Int.toNat l4;let v4:=(iW q0 t k4 u4).aX==t;let w4:Int:=l4+1;let x4:=ah w4=w4;k4<=u0->v0<=9223372036854775807->(o4=true->q4/\(v4=true->q4/\(∀y4:Nat,o0)/\x4/\(∃z4:Nat,e0/\w4=(z4:Int)/\ak {W with tasks:=λa5:Nat=>let b5:=iW q0 t k4 a5;{b5 with aX:=cond (Nat.beq a5 u4) (-1) b5.aX},ao:=g1,lines:=J,aF:=b4,aJ:=u2,ready:=v2} {W with tasks:=iW q0 t z4,ao:=g1,lines:=J,aF:=b4,aJ:=u2,ready:=v2} True/\z4<=u0/\u0-z4<u0-k4))/\(v4=false->x4/\(∃c5:Nat,e0/\w4=(c5:Int)/\ak {W with tasks:=iW q0 t k4,ao:=g1,lines:=J,aF:=b4,aJ:=u2,ready:=v2} {W with tasks:=iW q0 t c5,ao:=g1,lines:=J,aF:=b4,aJ:=u2,ready:=v2} True/\c5<=u0/\u0-c5<u0-k4)))/\(o4=false->w0/\(∀d5:Nat,o0)/\w0/\(∀e5:Nat,o0)/\True/\ak {W with tasks:=λg5:Nat=>let h5:=iW q0 t k4 g5;{h5 with st:=cond (Nat.beq g5 (0+x0)) 0 h5.st,loc:=cond (Nat.beq g5 (0+x0)) (-1) h5.loc},ao:=g1,lines:=J,aF:=b4,aJ:=u2,ready:=v2} {W with tasks:=λk5:Nat=>let l5:=bN W x0 (-1) 0 k5;let o5:=l5.aX;{l5 with aX:=cond (o5==t) (-1) o5},ao:=rh W t,lines:=rS W t,aF:=kt W t,aJ:=ri W t,ready:=rT W t} True))))))))
set_option maxHeartbeats 2000000 in
theorem nw:aL Tryz.prog aO 65 S0:=aW (.cons RI .nil) false Tryz.call65 Tryz.func65 (λ⟨t,W⟩=> [.inv (NV W t [(0,bd 0)] [] 4),.inv (NW W t [(0,bd 0)] [] 5),.inv (NX W t [(0,bd 0)] [] 6),.inv (NY W W.tasks t [(0,bd 0)] [] 7)]) (V:=ID) (λ_=>by kernel_rfl) λ⟨t,W⟩ hp=>by
  dsimp only[IC]at hp
  dsimp only[ID,tn,ah,ak,aE,aD,ay]
  simp only[aS,aZ,eq_self,implies_true,Bool.cond_self]
  try simp only[cu]
  obtain⟨t0,t1,hI⟩:=hp
  have z1:=hI.z.lines
  have z2:=hI.z.ready
  have z3:=hI.z.tasks
  have z4:=hI.z.k1
  have z5:=hI.z.c1
  refine⟨λq _=>⟨(oM (Nat.zero_le _)).symm,λv _=>by rw[sO (Nat.zero_le _)]⟩,λs hs _=>⟨λh=>?_,λh=>?_⟩⟩
  · have ai:=aY h
    have hl:=(hI.ln s (by omega)).1
    exact⟨by omega,by rw[oM (Nat.le_refl _)];omega,by omega,λ_=>rfl,bM (by omega) (by omega),s+1,by omega,λq _=>⟨Ee,λv _=>NT⟩,by omega,by omega⟩
  have bo:=bD h
  obtain rfl:s=W.ba:=by omega
  clear h bo
  refine⟨λq _=>⟨(oN (Nat.zero_le _)).symm,λv _=>by rw[sP (Nat.zero_le _)]⟩,λs hs _=>⟨λh=>?_,λh=>?_⟩⟩
  · have ai:=aY h
    have hl:=(hI.rd s (by omega)).1
    exact⟨by omega,by rw[oN (Nat.le_refl _)];omega,by omega,λ_=>rfl,bM (by omega) (by omega),s+1,by omega,λq _=>⟨Ef,λv _=>NU⟩,by omega,by omega⟩
  have bo:=bD h
  obtain rfl:s=W.aT:=by omega
  clear h bo
  refine⟨λj _=>(jv (Nat.zero_le _)).symm,λs hs _=>⟨λh=>?_,λh=>?_⟩⟩
  · have ai:=aY h
    refine⟨by omega,λJ=>⟨by omega,bM (by omega) (by omega),s+1,by omega,λj _=>?_,by omega,by omega⟩,λJ=>⟨bM (by omega) (by omega),s+1,by omega,λj _=>?_,by omega,by omega⟩⟩
    · rw[jv (Nat.le_refl _)]at J
      rcases Nat.lt_trichotomy j s with e|e|e
      · rw[ca (by omega),j9 e,j9 (by omega:j<s+1)];rfl
      · subst e;rw[Nat.beq_refl,j9 (Nat.lt_succ_self _)];unfold kt;rw[J];rfl
      · rw[ca (by omega),jv (by omega),jv (by omega:s+1<=j)];rfl
    · rw[jv (Nat.le_refl _)]at J
      rcases Nat.lt_trichotomy j s with e|e|e
      · rw[j9 e,j9 (by omega:j<s+1)]
      · subst e;rw[jv (Nat.le_refl _),j9 (Nat.lt_succ_self _)];unfold kt;rw[J];rfl
      · rw[jv (by omega),jv (by omega:s+1<=j)]
  have bo:=bD h
  obtain rfl:s=W.aP:=by omega
  clear h bo
  refine⟨λj _=>bG (iq (Nat.zero_le _)).symm,λs hs _=>⟨λh=>?_,λh=>?_⟩⟩
  · have ai:=aY h
    refine⟨by omega,λJ=>⟨by omega,bM (by omega) (by omega),s+1,by omega,λj _=>?_,by omega,by omega⟩,λJ=>⟨bM (by omega) (by omega),s+1,by omega,λj _=>?_,by omega,by omega⟩⟩
    · rw[iq (Nat.le_refl _)]at J
      rcases Nat.lt_trichotomy j s with e|e|e
      · rw[ca (by omega),jM e,jM (by omega:j<s+1)];exact bG rfl
      · subst e
        rw[Nat.beq_refl,jM (Nat.lt_succ_self _),iq (Nat.le_refl _),NZ J]
        simp only[cond_true]
        repeat' (first|exact trivial|rfl|refine And.intro ?_ ?_)
      · rw[ca (by omega),iq (by omega),iq (by omega:s+1<=j)];exact bG rfl
    · rw[iq (Nat.le_refl _)]at J
      rcases Nat.lt_trichotomy j s with e|e|e
      · rw[jM e,jM (by omega:j<s+1)];exact bG rfl
      · subst e;rw[iq (Nat.le_refl _),jM (Nat.lt_succ_self _),N0 J];exact bG rfl
      · rw[iq (by omega),iq (by omega:s+1<=j)];exact bG rfl
  have bo:=bD h
  obtain rfl:s=W.az:=by omega
  clear h bo
  refine⟨⟨t0,t1⟩,⟨t0,t1⟩,λj hj=>?_,λj hj=>⟨uY hj,λv _=>by rw[uZ hj]⟩,λj hj=>j9 hj,λj hj=>⟨u_ hj,λv _=>by rw[va hj]⟩⟩
  rcases Decidable.em (j=t.toNat)with e|e
  · subst e
    simp only[Nat.beq_refl,cond_true,jM hj]
    unfold bN
    rw[lR]
    repeat' (first|exact trivial|rfl|refine And.intro ?_ ?_)
  · simp only[ca e,cond_false,jM hj]
    unfold bN
    rw[lS e]
    repeat' (first|exact trivial|rfl|refine And.intro ?_ ?_)
end Go.Proofs.YtmieeldmfehpoaaGreatDoor
set_option linter.unusedVariables false
set_option linter.unusedSimpArgs false
set_option maxRecDepth 100000
namespace Go.Proofs.YtmieeldmfehpoaaGreatDoor
open Go.RowKit Go.Sy
theorem Wg {W:Wd} {t:Int} {s q v:Nat} (hv:v<iy W t (s+1) q):(bif Nat.beq q s then lK (iy W t s s) (iz W t s s) t v else iz W t s q v)=iz W t (s+1) q v:=by
  rw[<-NT]
  rw[<-Ee]at hv
  rcases Decidable.em (q=s)with e|e
  · subst e
    rw[Nat.beq_refl,cond_true]at hv⊢
    unfold lK
    rw[cD hv];rfl
  · rw[ca e];rfl
theorem Wh {W:Wd} {t:Int} {s q v:Nat} (hv:v<iA W t (s+1) q):(bif Nat.beq q s then lK (iA W t s s) (iC W t s s) t v else iC W t s q v)=iC W t (s+1) q v:=by
  rw[<-NU]
  rw[<-Ef]at hv
  rcases Decidable.em (q=s)with e|e
  · subst e
    rw[Nat.beq_refl,cond_true]at hv⊢
    unfold lK
    rw[cD hv];rfl
  · rw[ca e];rfl
structure Lq where
  (t:Int) (W:Wd)
def Lr:Sy.Spec:=⟨Lq,λ⟨t,_⟩=> [.ptr 0 0 none 0 0,.v (.int .i64 t)],λ⟨_,W⟩=>bQ W,λ⟨t,W⟩=>0<=t/\t<W.az/\Inv 1000 W,λ_=> .tp 0 (aH []),λ⟨t,W⟩=>bQ (ct W t),
  λargs mem=>match args with| [a0,a1]=>some ⟨av (a1),dL mem 0⟩|_=>none⟩
def Wi:aQ:=⟨[true],(Lr).g,none⟩
def Ls:Lq->Prop:=λ⟨t,W⟩=>let a0:=W.ba;let b0:=(a0:Int);let c0:=SV.ptr 0 0 none 0 0=SV.ptr 0 0 none 0 0;let d0:=0+1+1+1+1+1+1+1+1+1+1+1;let e0:=SV.ptr 11 0 none 0 0;let g0:=SV.ptr d0 0 none 0 0=e0;let h0:=0=((0:Nat):Int);let k0:=(True/\t=t)/\True;let l0:=tn 2 True;let o0:=True/\SV.ptr d0 0 none 0 0=e0;let q0:=W.aT;let u0:=(q0:Int);let v0:=W.aP;let w0:=(v0:Int);let x0:=false=false;let y0:=W.az;let z0:=(y0:Int);let a1:=0<=t/\t<z0;let b1:=Int.toNat t;let c1:=bN W b1 (-1) 0;True/\(b0<=9223372036854775807->c0/\g0/\(True/\g0)/\h0/\ak W {W with ao:=iy W t 0,lines:=iz W t 0} k0/\0<=a0/\(∀d1:Nat,let e1:=(d1:Int);let g1:=decide (e1<b0);let J:=0<=e1/\e1<b0;let k1:=0+Int.toNat e1;let l1:=iy W t d1 k1;let o1:=l1=l1;let q1:=iz W t d1 k1;let u1:Int:=e1+1;let v1:=iy W t d1;let w1:=iz W t d1;d1<=a0->(g1=true->tn 11 (J/\True/\l0/\(((0=0/\o1)/\k0)/\((o1/\(∀x1:Nat,x1<l1->True/\q1 x1=q1 x1))/\True)/\zK.match_1 (λy1:td=>Prop) (td.mk t l1 q1) (λz1:Int=>λa2:Nat=>λb2:∀c2:Nat,Int=>a2<=100000))/\J/\(k1=k1/\(∀d2:Nat,Nat.beq 1 1=true))/\ah u1=u1/\(∃e2:Nat,c0/\g0/\o0/\u1=(e2:Int)/\ak {W with ao:=λg2:Nat=>cond (Nat.beq g2 k1) (gT l1 q1 t) (v1 g2),lines:=λU:Nat=>λk2:Nat=>cond (Nat.beq U k1) (lK l1 q1 t k2) (w1 U k2)} {W with ao:=iy W t e2,lines:=iz W t e2} k0/\e2<=a0/\a0-e2<a0-d1)))/\(g1=false->u0<=9223372036854775807->c0/\g0/\o0/\h0/\ak {W with ao:=v1,lines:=w1} {W with ao:=v1,lines:=w1,aJ:=iA W t 0,ready:=iC W t 0} k0/\0<=q0/\(∀l2:Nat,let o2:=(l2:Int);let q2:=decide (o2<u0);
    let u2:=0<=o2/\o2<u0;let v2:=0+Int.toNat o2;let w2:=iA W t l2 v2;let x2:=w2=w2;let y2:=iC W t l2 v2;let z2:Int:=o2+1;let a3:=iA W t l2;let b3:=iC W t l2;l2<=q0->(q2=true->tn 11 (u2/\True/\l0/\(((0=0/\x2)/\k0)/\((x2/\(∀c3:Nat,c3<w2->True/\y2 c3=y2 c3))/\True)/\zK.match_1 (λd3:td=>Prop) (td.mk t w2 y2) (λe3:Int=>λg3:Nat=>λh3:∀k3:Nat,Int=>g3<=100000))/\u2/\(v2=v2/\(∀l3:Nat,Nat.beq 1 1=true))/\ah z2=z2/\(∃o3:Nat,c0/\g0/\o0/\z2=(o3:Int)/\ak {W with ao:=v1,lines:=w1,aJ:=λq3:Nat=>cond (Nat.beq q3 v2) (gT w2 y2 t) (a3 q3),ready:=λu3:Nat=>λv3:Nat=>cond (Nat.beq u3 v2) (lK w2 y2 t v3) (b3 u3 v3)} {W with ao:=v1,lines:=w1,aJ:=iA W t o3,ready:=iC W t o3} k0/\o3<=q0/\q0-o3<q0-l2)))/\(q2=false->w0<=9223372036854775807->c0/\g0/\h0/\ak {W with ao:=v1,lines:=w1,aJ:=a3,ready:=b3} {W with ao:=v1,lines:=w1,aF:=jY W t 0,aJ:=a3,ready:=b3} k0/\0<=v0/\(∀w3:Nat,let x3:=(w3:Int);let y3:=decide (x3<w0);let z3:=0<=x3/\x3<w0;let a4:=0+Int.toNat x3;let b4:=jY W t w3 a4==t;let c4:Int:=x3+1;let d4:=ah c4=c4;let e4:=jY W t w3;w3<=v0->(y3=true->tn 5 (z3/\tn 2 ((b4=true->z3/\(∀g4:Nat,x0)/\d4/\(∃h4:Nat,c0/\g0/\c4=(h4:Int)/\ak {W with ao:=v1,lines:=w1,aF:=λk4:Nat=>cond (Nat.beq k4 a4) (-1) (e4 k4),aJ:=a3,ready:=b3} {W with ao:=v1,lines:=w1,aF:=jY W t h4,aJ:=a3,ready:=b3} k0/\h4<=v0/\v0-h4<v0-w3))/\(b4=false->d4/\(∃l4:Nat,c0/\g0/\c4=(l4:Int)/\
    ak {W with ao:=v1,lines:=w1,aF:=e4,aJ:=a3,ready:=b3} {W with ao:=v1,lines:=w1,aF:=jY W t l4,aJ:=a3,ready:=b3} k0/\l4<=v0/\v0-l4<v0-w3)))))/\(y3=false->tn 10 (a1/\True/\(True/\True)/\(∀o4:Nat,x0)/\a1/\(∀q4:Nat,x0)/\(z0<=9223372036854775807->c0/\g0/\h0/\ak {W with tasks:=λu4:Nat=>let v4:=W.tasks u4;{v4 with st:=cond (Nat.beq u4 (0+b1)) 0 v4.st,loc:=cond (Nat.beq u4 (0+b1)) (-1) v4.loc},ao:=v1,lines:=w1,aF:=e4,aJ:=a3,ready:=b3} {W with tasks:=iW c1 t 0,ao:=v1,lines:=w1,aF:=e4,aJ:=a3,ready:=b3} k0/\0<=y0/\(∀w4:Nat,let x4:=(w4:Int);let y4:=decide (x4<z0);let z4:=0<=x4/\x4<z0;let a5:=0+Int.toNat x4;let b5:=(iW c1 t w4 a5).aX==t;let c5:Int:=x4+1;let d5:=ah c5=c5;let e5:={W with tasks:=iW c1 t w4,ao:=v1,lines:=w1,aF:=e4,aJ:=a3,ready:=b3};w4<=y0->(y4=true->tn 5 (z4/\tn 3 ((b5=true->z4/\(∀g5:Nat,x0)/\d5/\(∃h5:Nat,c0/\g0/\c5=(h5:Int)/\ak {W with tasks:=λk5:Nat=>let l5:=iW c1 t w4 k5;{l5 with aX:=cond (Nat.beq k5 a5) (-1) l5.aX},ao:=v1,lines:=w1,aF:=e4,aJ:=a3,ready:=b3} {W with tasks:=iW c1 t h5,ao:=v1,lines:=w1,aF:=e4,aJ:=a3,ready:=b3} k0/\h5<=y0/\y0-h5<y0-w4))/\(b5=false->d5/\(∃o5:Nat,c0/\g0/\c5=(o5:Int)/\ak e5 {W with tasks:=iW c1 t o5,ao:=v1,lines:=w1,aF:=e4,aJ:=a3,ready:=b3} k0/\o5<=y0/\y0-o5<y0-w4)))))/\(y4=false->True/\ak e5 {W with tasks:=λq5:Nat=>{c1 q5 with aX:=cond ((c1 q5).aX==t) (-1) (c1 q5).aX},ao:=rh W t,lines:=rS W t,aF:=kt W t,aJ:=ri W t,ready:=rT W t} True)))))))))))
set_option maxHeartbeats 2000000 in
theorem nB:aL Tryz.prog aO 104 Wi:=aW (.cons Xr .nil) false Tryz.call104 Tryz.func104 (λ⟨t,W⟩=> [.inv (NV W t [(0,bd 0),(3,bd 11),(4,.fn 123 1 (aH [bd 11]))] [(3,0)] 15),.inv (NW W t [(0,bd 0),(3,bd 11),(4,.fn 123 1 (aH [bd 11]))] [(3,0)] 39),.inv (NX W t [(0,bd 0),(3,bd 11)] [(3,0)] 63),.inv (NY W (bN W t.toNat (-1) 0) t [(0,bd 0),(3,bd 11)] [(3,0)] 101)]) (V:=Ls) (λ_=>by kernel_rfl) λ⟨t,W⟩ hp=>by
  dsimp only[Lr]at hp
  dsimp only[Ls,tn,ah,ak,aE,aD,ay]
  simp only[aS,aZ,eq_self,implies_true,Bool.cond_self]
  try simp only[cu]
  obtain⟨t0,t1,hI⟩:=hp
  have z1:=hI.z.lines
  have z2:=hI.z.ready
  have z3:=hI.z.tasks
  have z4:=hI.z.k1
  have z5:=hI.z.c1
  intro _
  refine⟨λq _=>⟨(oM (Nat.zero_le _)).symm,λv _=>by rw[sO (Nat.zero_le _)]⟩,λs hs=>⟨λh=>?_,λh=>?_⟩⟩
  · have ai:=aY h
    have hl:=(hI.ln s (by omega)).1
    exact⟨by omega,by rw[oM (Nat.le_refl _)];omega,by omega,λ_=>rfl,bM (by omega) (by omega),s+1,by omega,λq _=>⟨Ee,λv hv=>Wg hv⟩,by omega,by omega⟩
  have bo:=bD h
  obtain rfl:s=W.ba:=by omega
  clear h bo
  intro _
  refine⟨λq _=>⟨(oN (Nat.zero_le _)).symm,λv _=>by rw[sP (Nat.zero_le _)]⟩,λs hs=>⟨λh=>?_,λh=>?_⟩⟩
  · have ai:=aY h
    have hl:=(hI.rd s (by omega)).1
    exact⟨by omega,by rw[oN (Nat.le_refl _)];omega,by omega,λ_=>rfl,bM (by omega) (by omega),s+1,by omega,λq _=>⟨Ef,λv hv=>Wh hv⟩,by omega,by omega⟩
  have bo:=bD h
  obtain rfl:s=W.aT:=by omega
  clear h bo
  intro _
  refine⟨λj _=>(jv (Nat.zero_le _)).symm,λs hs=>⟨λh=>?_,λh=>?_⟩⟩
  · have ai:=aY h
    refine⟨by omega,λJ=>⟨by omega,bM (by omega) (by omega),s+1,by omega,λj _=>?_,by omega,by omega⟩,λJ=>⟨bM (by omega) (by omega),s+1,by omega,λj _=>?_,by omega,by omega⟩⟩
    · rw[jv (Nat.le_refl _)]at J
      rcases Nat.lt_trichotomy j s with e|e|e
      · rw[ca (by omega),j9 e,j9 (by omega:j<s+1)];rfl
      · subst e;rw[Nat.beq_refl,j9 (Nat.lt_succ_self _)];unfold kt;rw[J];rfl
      · rw[ca (by omega),jv (by omega),jv (by omega:s+1<=j)];rfl
    · rw[jv (Nat.le_refl _)]at J
      rcases Nat.lt_trichotomy j s with e|e|e
      · rw[j9 e,j9 (by omega:j<s+1)]
      · subst e;rw[jv (Nat.le_refl _),j9 (Nat.lt_succ_self _)];unfold kt;rw[J];rfl
      · rw[jv (by omega),jv (by omega:s+1<=j)]
  have bo:=bD h
  obtain rfl:s=W.aP:=by omega
  clear h bo
  refine⟨⟨t0,t1⟩,⟨t0,t1⟩,λ_=>⟨λj _=>?_,λs hs=>⟨λh=>?_,λh=>?_⟩⟩⟩
  · rcases Decidable.em (j=t.toNat)with e|e
    · subst e
      simp only[Nat.beq_refl,cond_true,iq (Nat.zero_le _)]
      unfold bN
      rw[lR]
      repeat' (first|exact trivial|rfl|refine And.intro ?_ ?_)
    · simp only[ca e,cond_false,iq (Nat.zero_le _)]
      unfold bN
      rw[lS e]
      repeat' (first|exact trivial|rfl|refine And.intro ?_ ?_)
  · have ai:=aY h
    refine⟨by omega,λJ=>⟨by omega,bM (by omega) (by omega),s+1,by omega,λj _=>?_,by omega,by omega⟩,λJ=>⟨bM (by omega) (by omega),s+1,by omega,λj _=>?_,by omega,by omega⟩⟩
    · rw[iq (Nat.le_refl _)]at J
      rcases Nat.lt_trichotomy j s with e|e|e
      · rw[ca (by omega),jM e,jM (by omega:j<s+1)];exact bG rfl
      · subst e
        rw[Nat.beq_refl,jM (Nat.lt_succ_self _),iq (Nat.le_refl _),NZ J]
        simp only[cond_true]
        repeat' (first|exact trivial|rfl|refine And.intro ?_ ?_)
      · rw[ca (by omega),iq (by omega),iq (by omega:s+1<=j)];exact bG rfl
    · rw[iq (Nat.le_refl _)]at J
      rcases Nat.lt_trichotomy j s with e|e|e
      · rw[jM e,jM (by omega:j<s+1)];exact bG rfl
      · subst e;rw[iq (Nat.le_refl _),jM (Nat.lt_succ_self _),N0 J];exact bG rfl
      · rw[iq (by omega),iq (by omega:s+1<=j)];exact bG rfl
  have bo:=bD h
  obtain rfl:s=W.az:=by omega
  refine⟨λj hj=>?_,λj hj=>⟨uY hj,λv _=>by rw[uZ hj]⟩,λj hj=>j9 hj,λj hj=>⟨u_ hj,λv _=>by rw[va hj]⟩⟩
  rw[jM hj]
  exact bG rfl
end Go.Proofs.YtmieeldmfehpoaaGreatDoor
set_option linter.unusedVariables false
set_option linter.unusedSimpArgs false
set_option maxRecDepth 100000
namespace Go.Proofs.YtmieeldmfehpoaaGreatDoor
open Go.RowKit Go.Sy
structure JW (W:Wd):Prop where
  i:Inv 1000 W
  pg: ∀c,c<W.aG-> ∀k,k<W.aA c->0<=(W.aj c k).pg/\(W.aj c k).pg<=255
  hp: ∀i,i<W.az-> ∀f,f<W.ar->(W.tasks i).helper=f->W.kinds f=7
def TlO (W:Wd):Prop:= ∀c,c<W.aG-> ∀k,k<W.aA c->cb W.aq W.aa (W.aj c k)=false
structure JJ (W:Wd):Prop where
  w:JW W
  t:TlO W
theorem JW.tl {W:Wd} (h:JW W):fJ W:=⟨h.i.z,h.i.aa,h.i.tl,h.pg⟩
theorem bW.kn {W:Wd} (h:bW W) (g:Nat->Int):bW {W with kinds:=g}:=⟨h.k0,h.k1,h.c0,h.c1,h.aa,h.af,h.tasks,h.lines,h.bits,h.ready,h.aj,h.d0,h.d1,h.t0,h.t1⟩
def cE (W:Wd):Nat:=bL W.aw λi=>(W.af i).kind !=0
def kz (W:Wd) (f:Int):Wd:={W with kinds:=cj W.kinds f.toNat 0}
def pM (W:Wd) (f:Int):Wd:=QC (kz W f) f
def wZ (f:Int) (x:bu):bu:={x with space:=bif x.space==f then -1 else x.space}
def tZ (f:Int) (x:bu):bu:={x with node:=bif x.node==f then -1 else x.node}
def mD (k f:Int) (x:bu):bu:={x with helper:=bif k==7&&x.helper==f then -1 else x.helper}
def tY (W:Wd) (f:Int):Wd:={W with kinds:=cj W.kinds f.toNat 0,tasks:=λi=>wZ f (W.tasks i),aA:=eE (cH f) W,aj:=dA (cH f) W}
def Gz (W:Wd) (f:Int):Wd:={W with kinds:=cj W.kinds f.toNat 0,tasks:=λi=>tZ f (W.tasks i)}
def gm (D:Wd->Int->Wd) (W:Wd) (f:Int):Nat->Wd
  |0=>Gz W f
  |i+1=>D (gm D W f i) (f*16+(15 -i))
def cJ (S:Wd) (f:Int) (i:Nat):bu:=bif Nat.beq i f.toNat then bu.blank else bif decide (0<=(S.tasks f.toNat).aX)&&Nat.beq i (S.tasks f.toNat).aX.toNat then{S.tasks i with st:=0}else S.tasks i
def t_ (W:Wd) (f:Int):Wd:={ct (kz W f) f with tasks:=cJ (ct (kz W f) f) f}
def k_ (W:Wd) (f:Int) (i:Nat):bu:=mD (W.kinds f.toNat) f (bif fF (W.ao f.toNat) (W.lines f.toNat) i then{W.tasks i with st:=0,loc:= -1}else W.tasks i)
def pN (W:Wd) (f:Int):Wd:={W with kinds:=cj W.kinds f.toNat 0,tasks:=k_ W f,ao:=cj W.ao f.toNat 0,bits:=cj W.bits f.toNat 0}
def jb (D:Wd->Int->Wd) (W:Wd) (f:Int):Wd:=
  bif W.kinds f.toNat==2||W.kinds f.toNat==3 then pM W f else bif W.kinds f.toNat==4 then tY W f else bif W.kinds f.toNat==5 then gm D W f 16 else
  bif W.kinds f.toNat==6 then t_ W f else bif W.kinds f.toNat==7||W.kinds f.toNat==8 then pN W f else kz W f
def dn (W:Wd) (s:Int):Wd:={W with af:=cj (λj=>cd s (W.af s.toNat).from_ (W.af j)) s.toNat rM}
def mX (W:Wd) (k:cp):Bool:=dp W.aw λi=>(W.af i).kind==k.kind&&(W.af i).base==k.base
def b_ (G:Wd->Int->Wd) (W:Wd) (s:Int):Wd:=
  bif bR W s==0 then(bif (W.af s.toNat).kind==1||mX (dn W s) (W.af s.toNat)then dn W s else G (dn W s) (W.af s.toNat).base)else W
def bc:Nat->Wd->Int->Wd
  |0=>jb λW _=>W
  |n+1=>jb (b_ (bc n))
theorem uU {D:Wd->Int->Wd} {W:Wd} {f:Int} (h:W.kinds f.toNat=2\/W.kinds f.toNat=3):jb D W f=pM W f:=by unfold jb;rcases h with h|h<;>rw[h]<;>rfl
theorem CS {D:Wd->Int->Wd} {W:Wd} {f:Int} (h:W.kinds f.toNat=4):jb D W f=tY W f:=by unfold jb;rw[h];rfl
theorem CT {D:Wd->Int->Wd} {W:Wd} {f:Int} (h:W.kinds f.toNat=5):jb D W f=gm D W f 16:=by unfold jb;rw[h];rfl
theorem CU {D:Wd->Int->Wd} {W:Wd} {f:Int} (h:W.kinds f.toNat=6):jb D W f=t_ W f:=by unfold jb;rw[h];rfl
theorem uV {D:Wd->Int->Wd} {W:Wd} {f:Int} (h:W.kinds f.toNat=7\/W.kinds f.toNat=8):jb D W f=pN W f:=by unfold jb;rcases h with h|h<;>rw[h]<;>rfl
theorem uW {D:Wd->Int->Wd} {W:Wd} {f:Int} (h:W.kinds f.toNat=0\/W.kinds f.toNat=1):jb D W f=kz W f:=by unfold jb;rcases h with h|h<;>rw[h]<;>rfl
theorem dV.sp {W:Wd} {x:bu} {f:Int} (h:dV W x):dV W (wZ f x):=by
  refine⟨h.cG,h.pc,h.word,h.bJ,h.st,h.prio,h.core,h.dH,h.node,?_,h.helper,h.loc,h.aX⟩
  unfold wZ
  have:=h.space
  cases x.space==f
  · exact this
  · exact⟨Int.le_refl _,show(-1:Int)<_ by omega⟩
theorem dV.nd {W:Wd} {x:bu} {f:Int} (h:dV W x):dV W (tZ f x):=by
  refine⟨h.cG,h.pc,h.word,h.bJ,h.st,h.prio,h.core,h.dH,?_,h.space,h.helper,h.loc,h.aX⟩
  unfold tZ
  have:=h.node
  cases x.node==f
  · exact this
  · exact⟨Int.le_refl _,show(-1:Int)<_ by omega⟩
theorem dV.hp {W:Wd} {x:bu} {k f:Int} (h:dV W x):dV W (mD k f x):=by
  refine⟨h.cG,h.pc,h.word,h.bJ,h.st,h.prio,h.core,h.dH,h.node,h.space,?_,h.loc,h.aX⟩
  unfold mD
  have:=h.helper
  cases k==7&&x.helper==f
  · exact this
  · exact⟨Int.le_refl _,show(-1:Int)<_ by omega⟩
theorem dV.still {W:Wd} {x:bu} (h:dV W x):dV W {x with st:=0}:=⟨h.cG,h.pc,h.word,h.bJ,⟨Int.le_refl 0,show(0:Int)<=6 by decide⟩,h.prio,h.core,h.dH,h.node,h.space,h.helper,h.loc,h.aX⟩
theorem dV.off {W:Wd} {x:bu} (h:dV W x):dV W {x with loc:= -1}:=⟨h.cG,h.pc,h.word,h.bJ,h.st,h.prio,h.core,h.dH,h.node,h.space,h.helper,⟨Int.le_refl _,show(-1:Int)<_ by have:=h.loc;omega⟩,h.aX⟩
theorem dV.owe {W:Wd} {x:bu} {t:Int} (h:dV W x):dV W (m3 x t):=by
  refine⟨h.cG,h.pc,h.word,h.bJ,h.st,h.prio,h.core,h.dH,h.node,h.space,h.helper,h.loc,?_⟩
  unfold m3
  have:=h.aX
  cases x.aX==t
  · exact this
  · exact⟨Int.le_refl _,show(-1:Int)<_ by omega⟩
theorem dV.lD {W:Wd} (h:bW W):dV W bu.blank:=by
  have:=h.c0
  have:=h.k0
  refine⟨by decide,by decide,by decide,by decide,by decide,by decide,?_,by decide,?_,?_,?_,?_,?_⟩<;>simp only[bu.blank]<;>omega
theorem oR {W:Wd} (h:Inv 1000 W) {g:Nat->Int} (hg: ∀i,i<W.ar->0<=g i/\g i<=8):Inv 1000 {W with kinds:=g}:=
  ⟨h.z.kn g,h.aa,hg,h.dm,h.sl,λi hi=>(h.tk i hi).of rfl rfl,h.ln,h.rd,h.co,h.bt,h.tl⟩
theorem VI {W:Wd} (h:Inv 1000 W) {g:Nat->Int} (hg: ∀i,i<W.aq->fp (g i)):Inv 1000 {W with aa:=g}:=
  ⟨⟨h.z.k0,h.z.k1,h.z.c0,h.z.c1,h.z.aa,h.z.af,h.z.tasks,h.z.lines,h.z.bits,h.z.ready,h.z.aj,h.z.d0,h.z.d1,h.z.t0,h.z.t1⟩,hg,h.kd,h.dm,h.sl,λi hi=>(h.tk i hi).of rfl rfl,h.ln,h.rd,h.co,h.bt,h.tl⟩
theorem y' {W:Wd} (h:Inv 1000 W) {g:Nat->bu} (hg: ∀i,i<W.az->dV W (g i)):Inv 1000 {W with tasks:=g}:=
  ⟨⟨h.z.k0,h.z.k1,h.z.c0,h.z.c1,h.z.aa,h.z.af,h.z.tasks,h.z.lines,h.z.bits,h.z.ready,h.z.aj,h.z.d0,h.z.d1,h.z.t0,h.z.t1⟩,h.aa,h.kd,h.dm,h.sl,λi hi=>(hg i hi).of rfl rfl,h.ln,h.rd,h.co,h.bt,h.tl⟩
theorem Nb {W:Wd} (h:Inv 1000 W) {p:Nat->Nat} {g:Nat->Nat->bI} (hg: ∀i,i<W.aG->p i<=1000):Inv 1000 {W with aA:=p,aj:=g}:=
  ⟨⟨h.z.k0,h.z.k1,h.z.c0,h.z.c1,h.z.aa,h.z.af,h.z.tasks,h.z.lines,h.z.bits,h.z.ready,h.z.aj,h.z.d0,h.z.d1,h.z.t0,h.z.t1⟩,h.aa,h.kd,h.dm,h.sl,λi hi=>(h.tk i hi).of rfl rfl,h.ln,h.rd,h.co,h.bt,hg⟩
theorem Xi {W:Wd} (h:Inv 1000 W) {g:Nat->cp} (hg: ∀i,i<W.aw->gN (g i)=0/\((g i).kind≠0->(g i).base+(g i).len<=W.ar)/\ -1<=(g i).from_/\(g i).from_<W.aw):Inv 1000 {W with af:=g}:=
  ⟨⟨h.z.k0,h.z.k1,h.z.c0,h.z.c1,h.z.aa,h.z.af,h.z.tasks,h.z.lines,h.z.bits,h.z.ready,h.z.aj,h.z.d0,h.z.d1,h.z.t0,h.z.t1⟩,h.aa,h.kd,h.dm,hg,λi hi=>(h.tk i hi).of rfl rfl,h.ln,h.rd,h.co,h.bt,h.tl⟩
theorem Xh {W:Wd} (h:Inv 1000 W) {p:Nat->Nat} {b:Nat->Int} (hp: ∀i,i<W.ba->p i<=W.ao i) (hb: ∀i,i<W.aN->0<=b i/\b i<=65535):Inv 1000 {W with ao:=p,bits:=b}:=
  ⟨⟨h.z.k0,h.z.k1,h.z.c0,h.z.c1,h.z.aa,h.z.af,h.z.tasks,h.z.lines,h.z.bits,h.z.ready,h.z.aj,h.z.d0,h.z.d1,h.z.t0,h.z.t1⟩,h.aa,h.kd,h.dm,h.sl,λi hi=>(h.tk i hi).of rfl rfl,λi hi=>⟨Nat.le_trans (hp i hi) (h.ln i hi).1,λk hk=>(h.ln i hi).2 k (Nat.lt_of_lt_of_le hk (hp i hi))⟩,h.rd,h.co,hb,h.tl⟩
end Go.Proofs.YtmieeldmfehpoaaGreatDoor
set_option linter.unusedVariables false
set_option linter.unusedSimpArgs false
set_option maxRecDepth 100000
namespace Go.Proofs.YtmieeldmfehpoaaGreatDoor
open Go.RowKit Go.Sy
theorem sF {α:Type} {z:α} {p:Nat->Bool} {t:Nat->α}: ∀{n a:Nat},a<aC p n-> ∃j,j<n/\p j=false/\aU z p t n a=t j
  |0,a,h=>absurd h (by simp[aC])
  |n+1,a,h=>by
   cases hp:p n with
   |true=>
    rw[aC,hp]at h
    obtain⟨j,J,U,h3⟩:=sF (z:=z) (t:=t) (show a<aC p n from h)
    refine⟨j,by omega,U,?_⟩
    rw[aU,hp]
    exact h3
   |false=>
    rw[aC,hp]at h
    have h:a<aC p n+1:=h
    rcases Nat.lt_or_ge a (aC p n)with h4|h4
    · obtain⟨j,J,U,h3⟩:=sF (z:=z) (t:=t) h4
      refine⟨j,by omega,U,?_⟩
      rw[aU,ca (by omega:a≠aC p n),Bool.and_false]
      exact h3
    · obtain rfl:a=aC p n:=by omega
      refine⟨n,by omega,hp,?_⟩
      rw[aU,hp,Nat.beq_refl];rfl
theorem Na {p:bI->Bool} {W:Wd} {c a:Nat} (h:a<eE p W c): ∃j,j<W.aA c/\p (W.aj c j)=false/\dA p W c a=W.aj c j:=sF (z:=fo) (t:=W.aj c) h
structure KS (W W':Wd):Prop where
  aa:W'.aq=W.aq
  kinds:W'.ar=W.ar
  af:W'.aw=W.aw
  tasks:W'.az=W.az
  lines:W'.ba=W.ba
  bits:W'.aN=W.aN
  aF:W'.aP=W.aP
  ready:W'.aT=W.aT
  aj:W'.aG=W.aG
  aI:W'.aI=W.aI
  aM:W'.aM=W.aM
  time:W'.time=W.time
  cY:cE W'<=cE W
theorem KS.refl (W:Wd):KS W W:=⟨rfl,rfl,rfl,rfl,rfl,rfl,rfl,rfl,rfl,rfl,rfl,rfl,Nat.le_refl _⟩
theorem KS.trans {W W' QA:Wd} (h:KS W W') (k:KS W' QA):KS W QA:=
  ⟨k.aa.trans h.aa,k.kinds.trans h.kinds,k.af.trans h.af,k.tasks.trans h.tasks,k.lines.trans h.lines,k.bits.trans h.bits,k.aF.trans h.aF,k.ready.trans h.ready,k.aj.trans h.aj,k.aI.trans h.aI,k.aM.trans h.aM,k.time.trans h.time,Nat.le_trans k.cY h.cY⟩
def A8 (D:Wd->Int->Wd):Prop:= ∀W s,JJ W->JJ (D W s)/\KS W (D W s)
def Gy (G:Wd->Int->Wd):Prop:= ∀(W:Wd) (f:Int),JJ W->0<=f->f<(W.ar:Int)->JJ (G W f)/\KS W (G W f)
theorem pL {W:Wd} (h:JJ W) (f:Int): ∀i,i<W.ar->0<=cj W.kinds f.toNat 0 i/\cj W.kinds f.toNat 0 i<=8:=by
  intro i hi
  rcases Decidable.em (i=f.toNat)with e|e
  · subst e;rw[lR];exact⟨Int.le_refl 0,by decide⟩
  · rw[lS e];exact h.w.i.kd i hi
theorem tD {W:Wd} {g:Nat->bu} {f:Int} (h:JJ W) (h0:0<=f) (hg: ∀i,i<W.az->(g i).helper=(W.tasks i).helper\/(g i).helper= -1) (hf: ∀i,i<W.az->W.kinds f.toNat=7->(g i).helper≠f): ∀i,i<W.az-> ∀f',f'<W.ar->(g i).helper=(f':Nat)->cj W.kinds f.toNat 0 f'=7:=by
  intro i hi f' wD he
  rcases hg i hi with e|e
  · have h7:=h.w.hp i hi f' wD (e▸he)
    rcases Decidable.em (f'=f.toNat)with q|q
    · subst q
      exact absurd (show(g i).helper=f by omega) (hf i hi h7)
    · rw[lS q];exact h7
  · omega
theorem O0 {W:Wd} (h:JJ W) (p:bI->Bool): ∀c,c<W.aG-> ∀k,k<eE p W c->0<=(dA p W c k).pg/\(dA p W c k).pg<=255:=by
  intro c hc k hk
  obtain⟨j,J,_,h3⟩:=Na hk
  rw[h3];exact h.w.pg c hc j J
theorem dV.z {W:Wd} {x:bu} {g:Nat->Int} (h:dV W x):dV {W with kinds:=g} x:=h.of rfl rfl
theorem Y6 {W:Wd} {f:Int} (h:JJ W) (h0:0<=f) (hk:W.kinds f.toNat≠7):JJ (pM W f)/\KS W (pM W f):=by
  refine⟨⟨⟨Nb (VI (g:=fI (kz W f) f) (oR h.w.i (pL h f)) λi hi=>y_ (W:=kz W f) (f:=f) (h.w.i.aa i hi)) λc hc=>Nat.le_trans (lX _ _) (h.w.i.tl c hc),?_,?_⟩,?_⟩,⟨rfl,rfl,rfl,rfl,rfl,rfl,rfl,rfl,rfl,rfl,rfl,rfl,Nat.le_refl _⟩⟩
  · exact O0 h _
  · exact tD h h0 (λ_ _=> .inl rfl) (λ_ _ e=>absurd e hk)
  · intro c hc k hk
    obtain⟨j,J,U,h3⟩:=sF (z:=fo) (t:=W.aj c) (show k<aC (λi=>cb W.aq (fI (kz W f) f) (W.aj c i)) (W.aA c)from hk)
    show cb W.aq (fI (kz W f) f) (aU fo (λi=>cb W.aq (fI (kz W f) f) (W.aj c i)) (W.aj c) (W.aA c) k)=false
    rw[h3];exact U
theorem Y7 {W:Wd} {f:Int} (h:JJ W) (h0:0<=f) (hk:W.kinds f.toNat≠7):JJ (kz W f)/\KS W (kz W f):=
  ⟨⟨⟨oR h.w.i (pL h f),h.w.pg,tD h h0 (λ_ _=> .inl rfl) (λ_ _ e=>absurd e hk)⟩,h.t⟩,⟨rfl,rfl,rfl,rfl,rfl,rfl,rfl,rfl,rfl,rfl,rfl,rfl,Nat.le_refl _⟩⟩
theorem Y8 {W:Wd} {f:Int} (h:JJ W) (h0:0<=f) (hk:W.kinds f.toNat≠7):JJ (tY W f)/\KS W (tY W f):=by
  refine⟨⟨⟨Nb (y' (g:=λi=>wZ f (W.tasks i)) (oR h.w.i (pL h f)) λi hi=>(h.w.i.tk i hi).z.sp) λc hc=>Nat.le_trans (lX _ _) (h.w.i.tl c hc),O0 h _,tD h h0 (λ_ _=> .inl rfl) (λ_ _ e=>absurd e hk)⟩,?_⟩,⟨rfl,rfl,rfl,rfl,rfl,rfl,rfl,rfl,rfl,rfl,rfl,rfl,Nat.le_refl _⟩⟩
  intro c hc k hk
  obtain⟨j,J,_,h3⟩:=Na (p:=cH f) (W:=W) hk
  show cb W.aq W.aa (dA (cH f) W c k)=false
  rw[h3];exact h.t c hc j J
theorem Xg {W:Wd} {f:Int} (h:JJ W) (h0:0<=f) (hk:W.kinds f.toNat≠7):JJ (Gz W f)/\KS W (Gz W f):=
  ⟨⟨⟨y' (g:=λi=>tZ f (W.tasks i)) (oR h.w.i (pL h f)) λi hi=>(h.w.i.tk i hi).z.nd,h.w.pg,tD h h0 (λ_ _=> .inl rfl) (λ_ _ e=>absurd e hk)⟩,h.t⟩,⟨rfl,rfl,rfl,rfl,rfl,rfl,rfl,rfl,rfl,rfl,rfl,rfl,Nat.le_refl _⟩⟩
theorem za {D:Wd->Int->Wd} {W:Wd} {f:Int} (hD:A8 D) (h:JJ W) (h0:0<=f) (hk:W.kinds f.toNat≠7): ∀i,JJ (gm D W f i)/\KS W (gm D W f i)
  |0=>Xg h h0 hk
  |i+1=>by
   obtain⟨J,U⟩:=za hD h h0 hk i
   obtain⟨h3,h4⟩:=hD (gm D W f i) (f*16+(15 -i)) J
   exact⟨h3,U.trans h4⟩
theorem Y9 {W:Wd} {f:Int} (h:JJ W) (h0:0<=f):JJ (pN W f)/\KS W (pN W f):=by
  refine⟨⟨⟨Xh (p:=cj W.ao f.toNat 0) (b:=cj W.bits f.toNat 0) (y' (g:=k_ W f) (oR h.w.i (pL h f)) λi hi=>?_) (λi hi=>?_) (λi hi=>?_),h.w.pg,tD (g:=k_ W f) h h0 (λi _=>?_) (λi hi e=>?_)⟩,h.t⟩,⟨rfl,rfl,rfl,rfl,rfl,rfl,rfl,rfl,rfl,rfl,rfl,rfl,Nat.le_refl _⟩⟩
  · unfold k_
    refine dV.hp ?_
    have:=(h.w.i.tk i hi).z (g:=cj W.kinds f.toNat 0)
    cases fF (W.ao f.toNat) (W.lines f.toNat) i
    · exact this
    · exact this.still.off
  · show cj W.ao f.toNat 0 i<=W.ao i
    rcases Decidable.em (i=f.toNat)with e|e
    · subst e;rw[lR];exact Nat.zero_le _
    · rw[lS e];exact Nat.le_refl _
  · rcases Decidable.em (i=f.toNat)with e|e
    · subst e;rw[lR];exact⟨Int.le_refl 0,by decide⟩
    · rw[lS e];exact h.w.i.bt i hi
  · unfold k_ mD
    have e:(bif fF (W.ao f.toNat) (W.lines f.toNat) i then{W.tasks i with st:=0,loc:= -1}else W.tasks i:bu).helper=(W.tasks i).helper:=by cases fF (W.ao f.toNat) (W.lines f.toNat) i<;>rfl
    simp only[e]
    cases W.kinds f.toNat==7&&(W.tasks i).helper==f
    · exact .inl rfl
    · exact .inr rfl
  · unfold k_ mD
    have e2:(bif fF (W.ao f.toNat) (W.lines f.toNat) i then{W.tasks i with st:=0,loc:= -1}else W.tasks i:bu).helper=(W.tasks i).helper:=by cases fF (W.ao f.toNat) (W.lines f.toNat) i<;>rfl
    simp only[e2,e]
    cases hq:(W.tasks i).helper==f
    · simpa using hq
    · have:((7:Int)==7&&true)=true:=rfl
      rw[this]
      show(-1:Int)≠f
      omega
theorem CR {W:Wd} (h:Inv 1000 W) {t:Int} (t0:0<=t) (t1:t<W.az):Inv 1000 (ct W t):=by
  have hm: ∀{n:Nat} {l:Nat->Int} {k:Nat},k<gT n l t-> ∃j,j<n/\jX n l t k=l j:=λ{n l k} hk=>by
    obtain⟨j,J,_,h3⟩:=sF (z:=(0:Int)) (t:=l) hk
    exact⟨j,J,h3⟩
  refine⟨⟨h.z.k0,h.z.k1,h.z.c0,h.z.c1,h.z.aa,h.z.af,h.z.tasks,h.z.lines,h.z.bits,h.z.ready,h.z.aj,h.z.d0,h.z.d1,h.z.t0,h.z.t1⟩,h.aa,h.kd,h.dm,h.sl,λi hi=>?_,λi hi=>⟨Nat.le_trans (lX _ _) (h.ln i hi).1,λk hk=>?_⟩,λi hi=>⟨Nat.le_trans (lX _ _) (h.rd i hi).1,λk hk=>?_⟩,λc hc=>?_,h.bt,h.tl⟩
  · show dV (ct W t) (w_ W t i)
    unfold w_
    refine dV.owe ?_
    unfold bN
    rcases Decidable.em (i=t.toNat)with e|e
    · subst e;rw[lR];exact(((h.tk t.toNat hi).still).off).of rfl rfl
    · rw[lS e];exact(h.tk i hi).of rfl rfl
  · obtain⟨j,J,U⟩:=hm hk
    show 0<=jX (W.ao i) (W.lines i) t k/\_
    rw[show(ct W t).lines i k=jX (W.ao i) (W.lines i) t k from rfl,U]
    exact(h.ln i hi).2 j J
  · obtain⟨j,J,U⟩:=hm hk
    show 0<=jX (W.aJ i) (W.ready i) t k/\_
    rw[show(ct W t).ready i k=jX (W.aJ i) (W.ready i) t k from rfl,U]
    exact(h.rd i hi).2 j J
  · show -1<=kt W t c/\kt W t c<W.az
    unfold kt
    have:=h.co c hc
    cases W.aF c==t
    · exact this
    · exact⟨Int.le_refl _,show(-1:Int)<_ by omega⟩
theorem Y_ {W:Wd} {f:Int} (h:JJ W) (h0:0<=f) (J:f<W.az) (hk:W.kinds f.toNat≠7):JJ (t_ W f)/\KS W (t_ W f):=by
  have hi:=CR (W:=kz W f) (oR h.w.i (pL h f)) h0 J
  have hh: ∀i,(w_ (kz W f) f i).helper=(W.tasks i).helper:=λi=>by
    unfold w_ m3 bN
    rcases Decidable.em (i=f.toNat)with e|e
    · subst e;rw[lR];rfl
    · rw[lS e];rfl
  refine⟨⟨⟨y' (g:=cJ (ct (kz W f) f) f) hi λi QB=>?_,h.w.pg,tD (g:=cJ (ct (kz W f) f) f) h h0 (λi _=>?_) (λ_ _ e=>absurd e hk)⟩,h.t⟩,⟨rfl,rfl,rfl,rfl,rfl,rfl,rfl,rfl,rfl,rfl,rfl,rfl,Nat.le_refl _⟩⟩
  · unfold cJ
    cases Nat.beq i f.toNat
    · show dV _ (bif _ then _ else _)
      cases decide (0<=((ct (kz W f) f).tasks f.toNat).aX)&&Nat.beq i ((ct (kz W f) f).tasks f.toNat).aX.toNat
      · exact hi.tk i QB
      · exact(hi.tk i QB).still
    · exact dV.lD hi.z
  · unfold cJ
    cases Nat.beq i f.toNat
    · left
      show(bif _ then _ else _:bu).helper=_
      cases decide (0<=((ct (kz W f) f).tasks f.toNat).aX)&&Nat.beq i ((ct (kz W f) f).tasks f.toNat).aX.toNat
      · exact hh i
      · exact hh i
    · right;rfl
theorem KW {D:Wd->Int->Wd} (hD:A8 D):Gy (jb D):=by
  intro W f h h0 J
  have hz:=h.w.i.z.tasks
  have hk:=h.w.i.kd f.toNat (by omega)
  obtain⟨k,kr⟩: ∃k,W.kinds f.toNat=k:=⟨_,rfl⟩
  rw[kr]at hk
  have hc:(k=2\/k=3)\/k=4\/k=5\/k=6\/(k=7\/k=8)\/(k=0\/k=1):=by omega
  subst kr
  rcases hc with e|e|e|e|e|e
  · rw[uU e];exact Y6 h h0 (by omega)
  · rw[CS e];exact Y8 h h0 (by omega)
  · rw[CT e];exact za hD h h0 (by omega) 16
  · rw[CU e];exact Y_ h h0 (by omega) (by omega)
  · rw[uV e];exact Y9 h h0
  · rw[uW e];exact Y7 h h0 (by omega)
theorem lW {W:Wd} {s:Int} (h:(bR W s==0)=true):(0<=s/\s<W.aw)/\(W.af s.toNat).kind≠0:=by
  have J:=eq_of_beq h
  unfold bR at J
  cases d1:decide (s<0)<;>cases d2:decide ((W.aw:Int)<=s)<;>rw[d1,d2]at J<;>(try simp only[Bool.or_true,Bool.true_or,Bool.or_false,cond_true,cond_false]at J)<;>(try exact absurd J (by decide))
  have d1:=of_decide_eq_false d1
  have d2:=of_decide_eq_false d2
  refine⟨by omega,λe=>?_⟩
  rw[e]at J;exact absurd J (by decide)
theorem RG {n:Nat} {p q:Nat->Bool} (h: ∀i,i<n->p i=true->q i=true):bL n p<=bL n q:=by
  induction n with
  |zero=>exact Nat.le_refl _
  |succ n ih=>
   have J:=ih λi hi=>h i (by omega)
   have U:=h n (by omega)
   unfold bL
   cases hp:p n
   · cases q n<;>simp<;>omega
   · rw[U hp];simp;omega
theorem RH {n s:Nat} {p q:Nat->Bool} (h: ∀i,i<n->p i=true->q i=true) (hs:s<n) (J:p s=false) (U:q s=true):bL n p<bL n q:=by
  induction n with
  |zero=>omega
  |succ n ih=>
   have h3:=h n (by omega)
   unfold bL
   rcases Nat.lt_or_ge s n with hl|hl
   · have h4:=ih (λi hi=>h i (by omega)) hl
     cases hp:p n
     · cases q n<;>simp<;>omega
     · rw[h3 hp];simp;omega
   · obtain rfl:s=n:=by omega
     have h4:=RG (n:=s) (p:=p) (q:=q) λi hi=>h i (by omega)
     rw[J,U];simp;omega
theorem TH (a b:Int) (x:cp):(cd a b x).kind=x.kind:=by unfold cd;cases x.from_==a<;>rfl
theorem yy {W:Wd} {s:Int} (h:(bR W s==0)=true):cE (dn W s)+1<=cE W:=by
  obtain⟨J,U⟩:=lW h
  refine RH (n:=W.aw) (s:=s.toNat) (λi hi hp=>?_) (by omega) ?_ ?_
  · have hp:(cj (λj=>cd s (W.af s.toNat).from_ (W.af j)) s.toNat rM i).kind !=0:=hp
    rcases Decidable.em (i=s.toNat)with e|e
    · subst e;rw[lR]at hp;exact absurd hp (by decide)
    · rw[lS e,TH]at hp;exact hp
  · show((cj (λj=>cd s (W.af s.toNat).from_ (W.af j)) s.toNat rM s.toNat).kind !=0)=false
    rw[lR];decide
  · simpa using U
theorem yZ {W:Wd} {s:Int} (h:JJ W) (hs:(bR W s==0)=true):JJ (dn W s)/\KS W (dn W s):=by
  obtain⟨J,U⟩:=lW hs
  have hf:=(h.w.i.sl s.toNat (by omega)).2.2
  refine⟨⟨⟨Xi h.w.i λi hi=>?_,h.w.pg,h.w.hp⟩,h.t⟩,⟨rfl,rfl,rfl,rfl,rfl,rfl,rfl,rfl,rfl,rfl,rfl,rfl,Nat.le_of_lt (yy hs)⟩⟩
  rcases Decidable.em (i=s.toNat)with e|e
  · subst e;rw[lR]
    exact⟨by decide,λh=>absurd rfl h,by decide,show(-1:Int)<_ by omega⟩
  · rw[lS e]
    have gR:=h.w.i.sl i hi
    unfold cd
    cases (W.af i).from_==s
    · exact gR
    · exact⟨gR.1,gR.2.1,hf⟩
theorem yY {W:Wd} {s:Int} (h:Inv 1000 W) (hs:(bR W s==0)=true):0<=(W.af s.toNat).base/\(W.af s.toNat).base<W.ar:=by
  obtain⟨J,U⟩:=lW hs
  obtain⟨h3,h4,_⟩:=h.sl s.toNat (by omega)
  have h5:=nt h3
  have h6:=h4 U
  have h7:=CV h3 U
  omega
theorem KX {G:Wd->Int->Wd} (hG:Gy G):A8 (b_ G):=by
  intro W s h
  unfold b_
  cases hs:bR W s==0
  · exact⟨h,KS.refl W⟩
  · obtain⟨J,U⟩:=yZ h hs
    have hb:=yY h.w.i hs
    show JJ (bif _ then _ else _)/\KS W (bif _ then _ else _)
    cases (W.af s.toNat).kind==1||mX (dn W s) (W.af s.toNat)
    · obtain⟨h3,h4⟩:=hG (dn W s) (W.af s.toNat).base J hb.1 hb.2
      exact⟨h3,U.trans h4⟩
    · exact⟨J,U⟩
theorem DW: ∀n,Gy (bc n)
  |0=>KW λW _ h=>⟨h,KS.refl W⟩
  |n+1=>KW (KX (DW n))
theorem Cf (n:Nat):A8 (b_ (bc n)):=KX (DW n)
end Go.Proofs.YtmieeldmfehpoaaGreatDoor
set_option linter.unusedVariables false
set_option linter.unusedSimpArgs false
set_option maxRecDepth 100000
namespace Go.Proofs.YtmieeldmfehpoaaGreatDoor
open Go.RowKit Go.Sy
def wy (W:Wd) (i:Int):Nat->Int
  |0=>(W.af i.toNat).from_
  |k+1=>bif decide (0<=wy W i k)then(W.af (wy W i k).toNat).from_ else wy W i k
def gj (r:Nat->Nat) (W:Wd):Prop:=(∀i,r i<=400)/\ ∀i,i<W.aw->0<=(W.af i).from_->r (W.af i).from_.toNat<r i
theorem EB {W:Wd} {i:Int} {k:Nat} (h:0<=wy W i k):wy W i (k+1)=(W.af (wy W i k).toNat).from_:=by
  show(bif decide (0<=wy W i k)then _ else _)=_
  rw[decide_eq_true h];rfl
theorem Xf {W:Wd} {i:Int} {k:Nat} (h:wy W i k<0): ∀{m:Nat},k<=m->wy W i m=wy W i k
  |m,hm=>by
   induction m with
   |zero=>obtain rfl:k=0:=by omega
          rfl
   |succ m ih=>
    rcases Nat.lt_or_ge m k with J|J
    · obtain rfl:k=m+1:=by omega
      rfl
    · show(bif decide (0<=wy W i m)then _ else wy W i m)=_
      rw[ih J,decide_eq_false (by omega)];rfl
theorem EA {W:Wd} {r:Nat->Nat} {i:Int} (hI:Inv 1000 W) (hr:gj r W) (i0:0<=i) (i1:i<W.aw): ∀k,(∀j,j<=k->0<=wy W i j)->wy W i k<W.aw/\r (wy W i k).toNat+k+1<=r i.toNat
  |0,h=>by
   have h0:=h 0 (Nat.le_refl _)
   have J:=(hI.sl i.toNat (by omega)).2.2.2
   have U:=hr.2 i.toNat (by omega) h0
   exact⟨J,by show r (W.af i.toNat).from_.toNat+0+1<=_;omega⟩
  |k+1,h=>by
   obtain⟨a,b⟩:=EA hI hr i0 i1 k λj hj=>h j (by omega)
   have h0:=h (k+1) (Nat.le_refl _)
   have hk:=h k (by omega)
   rw[EB hk]at h0⊢
   have J:=(hI.sl (wy W i k).toNat (by omega)).2.2.2
   have U:=hr.2 (wy W i k).toNat (by omega) h0
   exact⟨J,by omega⟩
def lJ (W:Wd) (s i:Int):Bool:=dp 500 λk=>wy W i k==s
theorem KR {W:Wd} {s i:Int} {k:Nat} (hk:k<500) (h:wy W i k=s):lJ W s i=true:=kE.2 ⟨k,hk,beq_iff_eq.2 h⟩
theorem M8 {W:Wd} {s i:Int} {k:Nat} (hs:0<=s) (h: ∀j,j<k->wy W i j≠s) (he:wy W i k<0):lJ W s i=false:=ld.2 λj _=>beq_eq_false_iff_ne.2 (by
  rcases Nat.lt_or_ge j k with J|J
  · exact h j J
  · rw[Xf he J];omega)
theorem sq {r:Nat->Nat} {W V:Wd} (h:gj r W) (e:V.af=W.af) (en:V.aw=W.aw):gj r V:=by
  refine⟨h.1,?_⟩
  rw[e,en]
  exact h.2
theorem M_ {r:Nat->Nat} {W:Wd} {s:Int} (h:gj r W) (hs:(bR W s==0)=true):gj r (dn W s):=by
  obtain⟨J,_⟩:=lW hs
  refine⟨h.1,λi hi h0=>?_⟩
  have hi:i<W.aw:=hi
  rcases Decidable.em (i=s.toNat)with e|e
  · subst e
    have h0:0<=(cj (λj=>cd s (W.af s.toNat).from_ (W.af j)) s.toNat rM s.toNat).from_:=h0
    unfold cj at h0
    rw[Nat.beq_refl]at h0
    exact absurd (show(0:Int)<= -1 from h0) (by decide)
  · have ec:(dn W s).af i=cd s (W.af s.toNat).from_ (W.af i):=by
      show cj (λj=>cd s (W.af s.toNat).from_ (W.af j)) s.toNat rM i=_
      unfold cj
      rw[ca e];rfl
    rw[ec]at h0⊢
    unfold cd at h0⊢
    cases hb:(W.af i).from_==s with
    |true=>
     rw[hb]at h0
     have h0:0<=(W.af s.toNat).from_:=h0
     have e2:(W.af i).from_=s:=eq_of_beq hb
     have h3:=h.2 s.toNat (by omega) h0
     have h4:=h.2 i hi (by omega)
     rw[e2]at h4
     show r (W.af s.toNat).from_.toNat<r i
     omega
    |false=>
     rw[hb]at h0
     exact h.2 i hi h0
theorem OZ {r:Nat->Nat} {D:Wd->Int->Wd} (hD: ∀W s,gj r W->gj r (D W s)) {W:Wd} {f:Int} (h:gj r W): ∀i,gj r (gm D W f i)
  |0=>sq h rfl rfl
  |i+1=>hD _ _ (OZ hD h i)
theorem KV {r:Nat->Nat} {D:Wd->Int->Wd} (hD: ∀W s,gj r W->gj r (D W s)) (W:Wd) (f:Int) (h:gj r W):gj r (jb D W f):=by
  unfold jb
  cases W.kinds f.toNat==2||W.kinds f.toNat==3 with
  |true=>exact sq h rfl rfl
  |false=>
   cases W.kinds f.toNat==4 with
   |true=>exact sq h rfl rfl
   |false=>
    cases W.kinds f.toNat==5 with
    |true=>exact OZ hD h 16
    |false=>
     cases W.kinds f.toNat==6 with
     |true=>exact sq h rfl rfl
     |false=>
      cases W.kinds f.toNat==7||W.kinds f.toNat==8 with
      |true=>exact sq h rfl rfl
      |false=>exact sq h rfl rfl
theorem KU {r:Nat->Nat} {G:Wd->Int->Wd} (hG: ∀W s,gj r W->gj r (G W s)) (W:Wd) (s:Int) (h:gj r W):gj r (b_ G W s):=by
  unfold b_
  cases hs:bR W s==0 with
  |false=>exact h
  |true=>
   cases (W.af s.toNat).kind==1||mX (dn W s) (W.af s.toNat)with
   |true=>exact M_ h hs
   |false=>exact hG _ _ (M_ h hs)
theorem M9 {r:Nat->Nat}: ∀n (W:Wd) (f:Int),gj r W->gj r (bc n W f)
  |0=>KV λ_ _ h=>h
  |n+1=>KV (KU (M9 n))
end Go.Proofs.YtmieeldmfehpoaaGreatDoor
set_option linter.unusedVariables false
set_option linter.unusedSimpArgs false
set_option maxRecDepth 100000
namespace Go.Proofs.YtmieeldmfehpoaaGreatDoor
open Go.RowKit Go.Sy
theorem Ig {W:Wd} {u:Int}: ∀k,cA W u (k+1)=cA W (iV W u) k
  |0=>rfl
  |k+1=>by
   show iV W (cA W u (k+1))=iV W (cA W (iV W u) k)
   rw[Ig k]
def ra (W:Wd) (i:Int) (k:Nat):Bool:=!dh W (cA W i k)
def wX (W:Wd) (i:Nat):Nat:=bU (W.aw+2) (ra W i)
theorem OU {W:Wd} (h:gA W):gj (wX W) W:=by
  have z1:=h.z.af
  have z2:=h.z.k1
  refine⟨λi=>Nat.le_trans (p9 _ _) (by omega),λi hi h0=>?_⟩
  have hs:=h.sl i hi
  unfold cT kU at hs
  cases hk:(W.af i).kind==0 with
  |true=>
   rw[hk]at hs
   simp only[cond_true,Bool.and_eq_true,beq_iff_eq]at hs
   omega
  |false=>
   rw[hk]at hs
   simp only[cond_false,Bool.and_eq_true,Bool.or_eq_true,beq_iff_eq,Bool.not_eq_true']at hs
   rcases hs.2 with e|⟨⟨e1,_⟩,e2⟩
   · omega
   · have hf:=kI.1 e1
     have ef:((W.af i).from_.toNat:Int)=(W.af i).from_:=by omega
     have ai:bU (W.aw+1) (ra W (W.af i).from_)<W.aw+1:=p_ (i:=W.aw) (by omega) (by unfold ra;rw[e2];rfl)
     obtain⟨a,b⟩:=BN ai
     generalize bU (W.aw+1) (ra W (W.af i).from_)=K at ai a b
     have r1:wX W (W.af i).from_.toNat=K:=by unfold wX;rw[ef];exact oK b a (by omega)
     have bT:dh W (i:Int)=true:=kI.2 ⟨by omega,by omega⟩
     have wY: ∀k,ra W (i:Int) (k+1)=ra W (W.af i).from_ k:=λk=>by
       unfold ra
       rw[Ig,yX bT]
       rfl
     have r2:wX W i=K+1:=by
       unfold wX
       refine oK (λj hj=>?_) (by rw[wY];exact a) (by omega)
       cases j with
       |zero=>show(!dh W (i:Int))=false;rw[bT];rfl
       |succ j=>rw[wY];exact b j (by omega)
     omega
def iw:Nat->(Nat->Bool)->Int
  |0,_=> -1
  |n+1,p=>bif p n then n else iw n p
theorem KT {p:Nat->Bool}: ∀{n:Nat},-1<=iw n p/\iw n p<n/\(0<=iw n p->p (iw n p).toNat=true)
  |0=>⟨show(-1:Int)<= -1 by decide,show(-1:Int)<((0:Nat):Int) by decide,λh=>absurd (show(0:Int)<= -1 from h) (by decide)⟩
  |n+1=>by
   obtain⟨a,b,c⟩:=KT (p:=p) (n:=n)
   unfold iw
   cases h:p n with
   |true=>exact⟨by show(-1:Int)<=n;omega,by show(n:Int)<((n+1:Nat):Int);omega,λ_=>by show p (Int.toNat (n:Int))=true;rw[Int.toNat_natCast];exact h⟩
   |false=>exact⟨a,by show iw n p<((n+1:Nat):Int);omega,c⟩
theorem DV {q:Nat->Bool} {z:Int}: ∀n,(aC (λi=>!q i) n=0->iw n q= -1)/\(aC (λi=>!q i) n≠0->aU z (λi=>!q i) (λi=>(i:Int)) n (aC (λi=>!q i) n -1)=iw n q)
  |0=>⟨λ_=>rfl,λh=>absurd rfl h⟩
  |n+1=>by
   obtain⟨a,b⟩:=DV (q:=q) (z:=z) n
   simp only[aC,aU,iw]
   cases h:q n with
   |true=>exact⟨λh=>absurd (show aC (λi=>!q i) n+1=0 from h) (by omega),λ_=>by show(bif true&&Nat.beq (aC (λi=>!q i) n+1 -1) (aC (λi=>!q i) n)then(n:Int)else _)=n;rw[Nat.add_sub_cancel,Nat.beq_refl];rfl⟩
   |false=>exact⟨a,b⟩
def ix (W:Wd) (s:Int) (i:Nat):Bool:=(W.af i).kind !=0&&lJ W s i
def dS (W:Wd) (s:Int):Int:=iw W.aw (ix W s)
def bK (W:Wd) (s:Int):Nat->Wd
  |0=>W
  |k+1=>b_ (bc 400) (bK W s k) (dS (bK W s k) s)
def Gx (W:Wd) (s:Int):Nat:=bif bR W s==0 then bU 500 λk=>decide (dS (bK W s k) s<0)else 0
def gg (W:Wd) (s:Int):Wd:=bK W s (Gx W s)
theorem yW {W:Wd} {s:Int} (h:JJ W): ∀k,JJ (bK W s k)/\KS W (bK W s k)
  |0=>⟨h,KS.refl W⟩
  |k+1=>by
   obtain⟨a,b⟩:=yW h k
   obtain⟨c,d⟩:=Cf 400 (bK W s k) (dS (bK W s k) s) a
   exact⟨c,b.trans d⟩
theorem DT {W:Wd} {s:Int} {r:Nat->Nat} (h:gj r W): ∀k,gj r (bK W s k)
  |0=>h
  |k+1=>KU (M9 400) _ _ (DT h k)
theorem TF {W:Wd} {s:Int} {n:Nat} (h:JJ W) (hs:(bR W s==0)=true):cE (b_ (bc n) W s)+1<=cE W:=by
  have J:=yy hs
  unfold b_
  rw[hs]
  show cE (bif _ then _ else _)+1<=_
  cases (W.af s.toNat).kind==1||mX (dn W s) (W.af s.toNat)with
  |true=>exact J
  |false=>
   have hb:=yY h.w.i hs
   have U:=(DW n (dn W s) (W.af s.toNat).base (yZ h hs).1 hb.1 hb.2).2.cY
   show cE (bc n (dn W s) (W.af s.toNat).base)+1<=_
   omega
theorem Xe {W:Wd} {s:Int} (h:0<=s/\s<W.aw) (hk:((W.af s.toNat).kind !=0)=true):(bR W s==0)=true:=by
  unfold bR
  rw[decide_eq_false (show¬s<0 by omega),decide_eq_false (show¬(W.aw:Int)<=s by omega),show((W.af s.toNat).kind==0)=false by simpa [bne]using hk]
  rfl
theorem TG {W:Wd} {s:Int} (h:0<=dS W s):(bR W (dS W s)==0)=true:=by
  obtain⟨_,b,c⟩:=KT (n:=W.aw) (p:=ix W s)
  have c:=c h
  unfold ix at c
  rw[Bool.and_eq_true]at c
  exact Xe ⟨h,b⟩ c.1
theorem DU {W:Wd} {s:Int} (h:JJ W): ∀k,(∀j,j<k->0<=dS (bK W s j) s)->cE (bK W s k)+k<=cE W
  |0,_=>Nat.le_refl _
  |k+1,hk=>by
   have J:=DU h k λj hj=>hk j (by omega)
   have h3:=TG (hk k (by omega))
   have U:=TF (n:=400) (yW h k).1 h3
   rw[bK]
   generalize cE (b_ (bc 400) (bK W s k) (dS (bK W s k) s))=A at U⊢
   omega
theorem M7 {W:Wd} {s:Int} (h:(bR W s==0)=false):gg W s=W:=by
  unfold gg Gx
  rw[h];rfl
theorem KG {W:Wd} {s:Int} {k:Nat} (h0:(bR W s==0)=true) (hk:k<500) (h: ∀j,j<k->0<=dS (bK W s j) s) (he:dS (bK W s k) s<0):gg W s=bK W s k:=by
  have e:bU 500 (λk=>decide (dS (bK W s k) s<0))=k:=oK (p:=λk=>decide (dS (bK W s k) s<0)) (n:=500) (λj hj=>decide_eq_false (Int.not_lt.2 (h j hj))) (decide_eq_true he) hk
  unfold gg Gx
  rw[h0,e];rfl
end Go.Proofs.YtmieeldmfehpoaaGreatDoor
set_option linter.unusedVariables false
set_option linter.unusedSimpArgs false
set_option maxRecDepth 100000
namespace Go.Proofs.YtmieeldmfehpoaaGreatDoor
open Go.RowKit Go.Sy
def mA (W:Wd):Prop:= ∃r,gj r W
theorem zH {W:Wd} {i:Int} {k:Nat} (hI:Inv 1000 W) (hr:mA W) (i0:0<=i) (i1:i<W.aw) (h: ∀j,j<k->0<=wy W i j):k<=400:=by
  obtain⟨r,hr⟩:=hr
  rcases Nat.eq_zero_or_pos k with e|e
  · omega
  · have J:=(EA hI hr i0 i1 (k -1) λj hj=>h j (by omega)).2
    have U:=hr.1 i.toNat
    omega
theorem OX {W:Wd} {i:Int} {k:Nat} (hI:Inv 1000 W) (hr:mA W) (i0:0<=i) (i1:i<W.aw) (h: ∀j,j<k->0<=wy W i j) (hk:0<=wy W i k):wy W i k<W.aw:=by
  obtain⟨r,hr⟩:=hr
  exact(EA hI hr i0 i1 k λj hj=>(Nat.lt_or_ge j k).elim (h j) λe=>(show j=k by omega)▸hk).1
def OY (W:Wd) (s i:Int) (z:Nat):bS where
  σ:=Nat
  rt:= []
  sh k:= [(z,.v (.int .i64 (wy W i k)))]
  mh _:= []
  inv k:= ∀j,j<k->0<=wy W i j/\wy W i j≠s
  μ k:=500 -k
  init:=0
structure KN where
  (W:Wd) (i s:Int)
def KO:Sy.Spec:=⟨KN,λ⟨W,i,s⟩=> [eD W,.v (.int .i64 i),.v (.int .i64 s)],λ_=> [],λ⟨W,i,s⟩=>Inv 1000 W/\mA W/\(0<=i/\i<W.aw)/\0<=s,λ⟨W,i,s⟩=> .v (.bool (lJ W s i)),λ_=> [],
  λargs mem=>match args with| [a0,a1,a2]=>some ⟨d' a0,av (a1),av (a2)⟩|_=>none⟩
def VH:aQ:=⟨[],(KO).g,none⟩
def KP:KN->Prop:=λ⟨W,i,s⟩=>(0<=i/\i<((W.aw:Nat):Int))/\(W.af (Int.toNat i)).from_=wy W i 0/\True/\(∀a0:Nat,a0<0->0<=wy W i a0/\wy W i a0≠s)/\(∀b0:Nat,let c0:=wy W i b0;let d0:=decide (0<=c0);let e0:=c0==s;(∀g0:Nat,g0<b0->0<=wy W i g0/\wy W i g0≠s)->(d0=true->(e0=true->true=lJ W s i/\True)/\(e0=false->(0<=c0/\c0<((W.aw:Nat):Int))/\(∃h0:Nat,(W.af (Int.toNat c0)).from_=wy W i h0/\True/\(∀k0:Nat,k0<h0->0<=wy W i k0/\wy W i k0≠s)/\500-h0<500-b0)))/\(d0=false->false=lJ W s i/\True))
theorem Jf:aL Tryz.prog aO 28 VH:=aW .nil false Tryz.call28 Tryz.func28 (λ⟨W,i,s⟩=> [.inv (OY W s i 7)]) (V:=KP) (λ_=>by kernel_rfl) λ⟨W,i,s⟩ hp=>by
  dsimp only[KO]at hp
  dsimp only[KP,tn,ah,ak,aE,aD,ay]
  simp only[aS,aZ,eq_self,implies_true,Bool.cond_self]
  try simp only[cu]
  obtain⟨hI,hr,hi,hs⟩:=hp
  refine⟨hi,rfl,λk hk=>⟨λh=>⟨λJ=>?_,λJ=>?_⟩,λh=>?_⟩⟩
  · have hn:=λj (hj:j<k)=>(hk j hj).1
    have:=zH hI hr hi.1 hi.2 hn
    exact(KR (show k<500 by omega) (eq_of_beq J)).symm
  · have h:=of_decide_eq_true h
    have hn:=λj (hj:j<k)=>(hk j hj).1
    have U:=zH hI hr hi.1 hi.2 hn
    refine⟨⟨h,OX hI hr hi.1 hi.2 hn h⟩,k+1,(EB h).symm,λj hj=>?_,by omega⟩
    rcases Nat.lt_or_ge j k with e|e
    · exact hk j e
    · obtain rfl:j=k:=by omega
      exact⟨h,by simpa using J⟩
  · exact(M8 hs (λj hj=>(hk j hj).2) (Int.not_le.1 (of_decide_eq_false h))).symm
structure HB where
  (W:Wd) (i s:Int)
def HC:Sy.Spec:=⟨HB,λ⟨W,i,s⟩=> [eD W,.v (.int .i64 i),.v (.int .i64 s)],λ_=> [],λ⟨W,i,s⟩=>Inv 1000 W/\mA W/\(0<=i/\i<W.aw)/\0<=s,λ⟨W,i,s⟩=> .v (.bool (lJ W s i)),λ_=> [],
  λargs mem=>match args with| [a0,a1,a2]=>some ⟨d' a0,av (a1),av (a2)⟩|_=>none⟩
def RF:aQ:=⟨[],(HC).g,none⟩
def HD:HB->Prop:=λ⟨W,i,s⟩=>(0<=i/\i<((W.aw:Nat):Int))/\(W.af (Int.toNat i)).from_=wy W i 0/\True/\(∀a0:Nat,a0<0->0<=wy W i a0/\wy W i a0≠s)/\(∀b0:Nat,let c0:=wy W i b0;let d0:=decide (0<=c0);let e0:=c0==s;(∀g0:Nat,g0<b0->0<=wy W i g0/\wy W i g0≠s)->(d0=true->(e0=true->true=lJ W s i/\True)/\(e0=false->(0<=c0/\c0<((W.aw:Nat):Int))/\(∃h0:Nat,(W.af (Int.toNat c0)).from_=wy W i h0/\True/\(∀k0:Nat,k0<h0->0<=wy W i k0/\wy W i k0≠s)/\500-h0<500-b0)))/\(d0=false->false=lJ W s i/\True))
theorem Rb:aL Tryz.prog aO 25 RF:=aW .nil false Tryz.call25 Tryz.func25 (λ⟨W,i,s⟩=> [.inv (OY W s i 1)]) (V:=HD) (λ_=>by kernel_rfl) λ⟨W,i,s⟩ hp=>by
  dsimp only[HC]at hp
  dsimp only[HD,tn,ah,ak,aE,aD,ay]
  simp only[aS,aZ,eq_self,implies_true,Bool.cond_self]
  try simp only[cu]
  obtain⟨hI,hr,hi,hs⟩:=hp
  refine⟨hi,rfl,λk hk=>⟨λh=>⟨λJ=>?_,λJ=>?_⟩,λh=>?_⟩⟩
  · have hn:=λj (hj:j<k)=>(hk j hj).1
    have:=zH hI hr hi.1 hi.2 hn
    exact(KR (show k<500 by omega) (eq_of_beq J)).symm
  · have h:=of_decide_eq_true h
    have hn:=λj (hj:j<k)=>(hk j hj).1
    have U:=zH hI hr hi.1 hi.2 hn
    refine⟨⟨h,OX hI hr hi.1 hi.2 hn h⟩,k+1,(EB h).symm,λj hj=>?_,by omega⟩
    rcases Nat.lt_or_ge j k with e|e
    · exact hk j e
    · obtain rfl:j=k:=by omega
      exact⟨h,by simpa using J⟩
  · exact(M8 hs (λj hj=>(hk j hj).2) (Int.not_le.1 (of_decide_eq_false h))).symm
end Go.Proofs.YtmieeldmfehpoaaGreatDoor
set_option linter.unusedVariables false
set_option linter.unusedSimpArgs false
set_option maxRecDepth 100000
namespace Go.Proofs.YtmieeldmfehpoaaGreatDoor
open Go.RowKit Go.Sy
def kZ (W:Wd) (s:Int) (i:Nat):Bool:=!ix W s i
def fR (W:Wd) (s:Int):Nat:=aC (kZ W s) W.aw
def gB (W:Wd) (s:Int):Nat->Int:=aU 0 (kZ W s) (λi=>(i:Int)) W.aw
def jr (W:Wd) (s:Int):Int:=bif wE W==0 then bR W s else 8
def jW (W:Wd) (s:Int):Nat:=bif jr W s==0 then fR W s else 0
def Y4 (n:Nat) (p:Nat->Bool) (q z:Nat):bS where
  σ:=Nat
  rt:= [(q,1)]
  sh j:= [(q,.aV 0 0 none 0 (aC p j)),(z,.v (.int .i64 j))]
  mh j:= [(0,.row 1 (aC p j) (iF (aU 0 p (λi=>(i:Int)) j)))]
  inv j:=j<=n
  μ j:=n -j
  init:=0
def Y5 (n:Nat) (p:Nat->Bool):bS where
  σ:=Nat
  rt:= [(2,0),(7,1)]
  sh j:= [(2,bd 0),(7,.aV 1 0 none 0 (aC p j)),(21,.v (.int .i64 j))]
  mh j:= [(1,.row 1 (aC p j) (iF (aU 0 p (λi=>(i:Int)) j)))]
  inv j:=j<=n
  μ j:=n -j
  init:=0
theorem PS {p:Nat->Bool} {t:Nat->Int} {j:Nat} (h:p j=false):aC p j+1=aC p (j+1)/\ ∀a,a<aC p (j+1)->(bif Nat.blt a (aC p j)then aU 0 p t j a else List.getD [t j] (a -aC p j) 0)=aU 0 p t (j+1) a:=by
  have hn:aC p (j+1)=aC p j+1:=by rw[aC,h];rfl
  refine⟨hn.symm,λa ha=>?_⟩
  rcases Nat.lt_or_ge a (aC p j)with h3|h3
  · have e:aU 0 p t (j+1) a=aU 0 p t j a:=by rw[aU,ca (by omega:a≠aC p j)];simp
    rw[cD h3,e];rfl
  · obtain rfl:a=aC p j:=by omega
    have e:aU 0 p t (j+1) (aC p j)=t j:=by rw[aU,h,Nat.beq_refl];rfl
    rw[eI (Nat.le_refl _),e,Nat.sub_self];rfl
theorem PT {p:Nat->Bool} {t:Nat->Int} {j:Nat} (h:p j=true):aC p j=aC p (j+1)/\ ∀a,a<aC p (j+1)->aU 0 p t j a=aU 0 p t (j+1) a:=by
  have hn:aC p (j+1)=aC p j:=by rw[aC,h];rfl
  exact⟨hn.symm,λa _=>by rw[aU,h];rfl⟩
structure KI where
  (W:Wd) (s:Int)
def KJ:Sy.Spec:=⟨KI,λ⟨W,s⟩=> [eD W,.v (.int .i64 s)],λ_=> [],λ⟨W,s⟩=>Inv 1000 W/\mA W/\0<=s,λ⟨W,s⟩=> .aV 0 0 none 0 (fR W s),λ⟨W,s⟩=> [.row 1 (fR W s) (iF (gB W s))],
  λargs mem=>match args with| [a0,a1]=>some ⟨d' a0,av (a1)⟩|_=>none⟩
def VF:aQ:=⟨[],(KJ).g,none⟩
def KL:KI->Prop:=λ⟨W,s⟩=>let a0:=kZ W s;let b0:=aC a0 0;let c0:=0=b0;let d0:=Nat.cast;let e0:=W.aw;let g0:Int:=d0 e0;let h0:=W.ar;let k0:=W.az;let l0:=W.ba;let o0:=W.aP;let q0:=W.aT;let r0:=fR W s;(0=0/\c0)/\0=d0 0/\((c0/\(∀u0:Nat,u0<b0->True/\SV.aK=SV.v (Value.int IntKind.i64 (aU 0 a0 d0 0 u0))))/\True)/\0<=e0/\(∀v0:Nat,let w0:Int:=d0 v0;let x0:=decide (w0<g0);let y0:=0<=w0/\w0<g0;let z0:=(W.af (Int.toNat w0)).kind !=0;let a1:=cond z0 (lJ W s w0) false;let b1:=aC a0 v0;let c1:=b1+1;let d1:Int:=w0+1;let e1:=ah d1=d1;v0<=e0->g0<=9223372036854775807->(x0=true->y0/\(z0=true->((((((((((((True/\W.aq=W.aq/\(∀g1:Nat,g1<W.aq->True/\W.aa g1=W.aa g1))/\h0=h0/\(∀J:Nat,J<h0->True/\W.kinds J=W.kinds J))/\e0=e0/\(∀k1:Nat,k1<e0->aD (W.af k1) (W.af k1)))/\k0=k0/\(∀l1:Nat,l1<k0->aE (W.tasks l1) (W.tasks l1)))/\l0=l0/\(∀o1:Nat,let q1:=W.ao o1;o1<l0->True/\q1=q1/\(∀r1:Nat,r1<q1->True/\W.lines o1 r1=W.lines o1 r1)))/\W.aN=W.aN/\(∀u1:Nat,u1<W.aN->True/\W.bits u1=W.bits u1))/\o0=o0/\(∀v1:Nat,v1<o0->True/\W.aF v1=W.aF v1))/\q0=q0/\(∀w1:Nat,let x1:=W.aJ w1;w1<q0->True/\x1=x1/\(∀y1:Nat,y1<x1->True/\W.ready w1 y1=W.ready w1 y1)))/\W.aG=W.aG/\(∀z1:Nat,let a2:=W.aA z1;z1<W.aG->True/\a2=a2/\(∀b2:Nat,b2<a2->ay (W.aj z1 b2) (W.aj z1 b2))))/\W.aI=W.aI/\(∀c2:Nat,c2<W.aI->True/\W.aM c2=W.aM c2))/\W.time=W.time)/\w0=w0/\s=s/\True)/\True/\Inv 1000 W/\(∃d2:∀e2:Nat,Nat,(∀g2:Nat,d2 g2<=400)/\(∀U:Nat,let k2:=(W.af U).from_;U<e0->0<=k2->d2 (Int.toNat k2)<d2 U))/\y0/\0<=s)/\(a1=true->True/\
    (c1*8<=140737488355328/\(∀l2:Nat,true=true))/\e1/\(∃o2:Nat,(0=0/\c1=aC a0 o2)/\d1=d0 o2/\((c1=aC a0 o2/\(∀q2:Nat,q2<aC a0 o2->True/\cond (Nat.blt q2 b1) (aU 0 a0 d0 v0 (0+q2)) (List.getD [w0] (0+(q2-b1)) 0)=aU 0 a0 d0 o2 q2))/\True)/\o2<=e0/\e0-o2<e0-v0))/\(a1=false->e1/\(∃r2:Nat,(0=0/\b1=aC a0 r2)/\d1=d0 r2/\((b1=aC a0 r2/\(∀u2:Nat,u2<aC a0 r2->True/\aU 0 a0 d0 v0 u2=aU 0 a0 d0 r2 u2))/\True)/\r2<=e0/\e0-r2<e0-v0)))/\(x0=false->(0=0/\b1=r0)/\(b1=r0/\(∀v2:Nat,v2<r0->True/\aU 0 a0 d0 v0 v2=gB W s v2))/\True))
theorem Ce:aL Tryz.prog aO 11 VF:=aW (.cons Rb .nil) false Tryz.call11 Tryz.func11 (λ⟨W,s⟩=> [.inv (Y4 W.aw (kZ W s) 5 6)]) (V:=KL) (λ_=>by kernel_rfl) λ⟨W,s⟩ hp=>by
  dsimp only[KJ]at hp
  dsimp only[KL,tn,ah,ak,aE,aD,ay]
  simp only[aS,aZ,eq_self,implies_true,Bool.cond_self]
  try simp only[cu]
  obtain⟨hI,hr,hs⟩:=hp
  have z1:=hI.z.af
  have z2:=hI.z.k1
  refine⟨rfl,⟨rfl,λa ha=>absurd ha (Nat.not_lt_zero a)⟩,λj hj _=>⟨λh=>?_,λh=>?_⟩⟩
  · have ai:=aY h
    have lF:=lX (kZ W s) j
    refine⟨by omega,λ_=>⟨hI,hr,by omega,hs⟩,λJ=>?_,λJ=>?_⟩
    · obtain⟨a,b⟩:=PS (p:=kZ W s) (t:=λi=>(i:Int)) (j:=j) (show(!ix W s j)=false by unfold ix;rw[J];rfl)
      exact⟨by omega,bM (by omega) (by omega),j+1,a,rfl,⟨a,b⟩,by omega,by omega⟩
    · obtain⟨a,b⟩:=PT (p:=kZ W s) (t:=λi=>(i:Int)) (j:=j) (show(!ix W s j)=true by unfold ix;rw[J];rfl)
      exact⟨bM (by omega) (by omega),j+1,a,rfl,⟨a,b⟩,by omega,by omega⟩
  obtain rfl:j=W.aw:=by have:=bD h;omega
  exact⟨rfl,rfl,λ_ _=>rfl⟩
structure sE where
  (W:Wd) (s:Int)
def yw:Sy.Spec:=⟨sE,λ⟨W,s⟩=> [eY W,.v (.int .i64 s)],λ_=> [],λ⟨W,_⟩=>Sm W,λ⟨W,s⟩=> .tp 2 (aH [.aV 0 0 none 0 (jW W s),.er 35 79 (jr W s) (-1)]),λ⟨W,s⟩=> [.row 1 (jW W s) (iF (gB W s))],
  λargs mem=>match args with| [a0,a1]=>some ⟨eP a0,av (a1)⟩|_=>none⟩
def VG:aQ:=⟨[],(yw).g,none⟩
def KM:sE->Prop:=λ⟨W,s⟩=>let a0:=W.ar;let b0:=W.aw;let c0:=W.az;let d0:=W.ba;let e0:=W.aP;let g0:=W.aT;let h0:=((((((((((True/\W.aq=W.aq/\(∀k0:Nat,k0<W.aq->True/\W.aa k0=W.aa k0))/\a0=a0/\(∀l0:Nat,l0<a0->True/\W.kinds l0=W.kinds l0))/\b0=b0/\(∀o0:Nat,o0<b0->aD (W.af o0) (W.af o0)))/\c0=c0/\(∀q0:Nat,q0<c0->aE (W.tasks q0) (W.tasks q0)))/\d0=d0/\(∀r0:Nat,let u0:=W.ao r0;r0<d0->True/\u0=u0/\(∀v0:Nat,v0<u0->True/\W.lines r0 v0=W.lines r0 v0)))/\W.aN=W.aN/\(∀w0:Nat,w0<W.aN->True/\W.bits w0=W.bits w0))/\e0=e0/\(∀x0:Nat,x0<e0->True/\W.aF x0=W.aF x0))/\g0=g0/\(∀y0:Nat,let z0:=W.aJ y0;y0<g0->True/\z0=z0/\(∀a1:Nat,a1<z0->True/\W.ready y0 a1=W.ready y0 a1)))/\W.aG=W.aG/\(∀b1:Nat,let c1:=W.aA b1;b1<W.aG->True/\c1=c1/\(∀d1:Nat,d1<c1->ay (W.aj b1 d1) (W.aj b1 d1))))/\W.aI=W.aI/\(∀e1:Nat,e1<W.aI->True/\W.aM e1=W.aM e1))/\W.time=W.time;let g1:=jW W s;let J:=True/\0=0/\0=g1;let k1:=jr W s;let l1:=((-1):Int)=(-1);let o1:=(0=g1/\(∀q1:Nat,q1<g1->True/\SV.aK=SV.v (Value.int IntKind.i64 (gB W s q1))))/\True;let r1:=bR W s !=0;let u1:=(b0:Int);let v1:=SV.ptr 0 0 none 0 0=SV.ptr 0 0 none 0 0;let w1:=kZ W s;let x1:=aC w1 0;let y1:=0=x1;let z1:=Nat.cast;True/\((h0/\True)/\True/\uM.match_1 (λa2:oH=>Prop) (oH.mk W) (λb2:Wd=>Sm b2))/\((wE W !=0)=true->(J/\(8:Int)≠0/\k1=8/\l1)/\o1)/\((wE W !=0)=false->((h0/\s=s/\True)/\True/\True)/\(r1=true->(J/\bR W s=k1/\l1)/\o1)/\(r1=false->u1<=9223372036854775807->v1/\(0=0/\y1)/\0=z1 0/\(h0/\(y1/\(∀c2:Nat,c2<x1->True/\
    SV.aK=SV.v (Value.int IntKind.i64 (aU 0 w1 z1 0 c2))))/\True)/\0<=b0/\(∀d2:Nat,let e2:Int:=z1 d2;let g2:=decide (e2<u1);let U:=0<=e2/\e2<u1;let k2:=(W.af (Int.toNat e2)).kind !=0;let l2:=cond k2 (lJ W s e2) false;let o2:=aC w1 d2;let q2:=o2+1;let r2:Int:=e2+1;let u2:=ah r2=r2;d2<=b0->(g2=true->U/\(k2=true->(h0/\e2=e2/\s=s/\True)/\True/\Inv 1000 W/\(∃v2:∀w2:Nat,Nat,(∀x2:Nat,v2 x2<=400)/\(∀y2:Nat,let z2:=(W.af y2).from_;y2<b0->0<=z2->v2 (Int.toNat z2)<v2 y2))/\U/\0<=s)/\(l2=true->True/\(q2*8<=140737488355328/\(∀a3:Nat,true=true))/\u2/\(∃b3:Nat,v1/\(0=0/\q2=aC w1 b3)/\r2=z1 b3/\(h0/\(q2=aC w1 b3/\(∀c3:Nat,c3<aC w1 b3->True/\cond (Nat.blt c3 o2) (aU 0 w1 z1 d2 (0+c3)) (List.getD [e2] (0+(c3-o2)) 0)=aU 0 w1 z1 b3 c3))/\True)/\b3<=b0/\b0-b3<b0-d2))/\(l2=false->u2/\(∃d3:Nat,v1/\(0=0/\o2=aC w1 d3)/\r2=z1 d3/\(h0/\(o2=aC w1 d3/\(∀e3:Nat,e3<aC w1 d3->True/\aU 0 w1 z1 d2 e3=aU 0 w1 z1 d3 e3))/\True)/\d3<=b0/\b0-d3<b0-d2)))/\(g2=false->((True/\0=0/\o2=g1)/\k1=0/\l1)/\(o2=g1/\(∀g3:Nat,g3<g1->True/\aU 0 w1 z1 d2 g3=gB W s g3))/\True))))
set_option maxHeartbeats 400000 in
theorem Je:aL Tryz.prog aO 12 VG:=aW (.cons BM (.cons CQ (.cons Jf .nil))) false Tryz.call12 Tryz.func12 (λ⟨W,s⟩=> [.inv (Y5 W.aw (kZ W s))]) (V:=KM) (λ_=>by kernel_rfl) λ⟨W,s⟩ hp=>by
  dsimp only[yw]at hp
  dsimp only[KM,tn,ah,ak,aE,aD,ay]
  simp only[aS,aZ,eq_self,implies_true,Bool.cond_self]
  try simp only[cu]
  have none: ∀v:Int,jr W s=v->v≠0->jW W s=0:=λv h hv=>by unfold jW;rw[show(jr W s==0)=false from beq_eq_false_iff_ne.2 (by rw[h];exact hv)];rfl
  refine⟨hp,λh=>?_,λh=>⟨λJ=>?_,λJ=>?_⟩⟩
  · have e:jr W s=8:=by unfold jr;rw[gM (b:=wE W==0) h];rfl
    rw[none 8 e (by decide),e]
    exact⟨⟨rfl,by decide,rfl⟩,rfl,λ_ h=>absurd h (Nat.not_lt_zero _)⟩
  · have e:jr W s=bR W s:=by unfold jr;rw[dy (b:=wE W==0) h];rfl
    rw[none _ e (by simpa using J),e]
    exact⟨⟨rfl,rfl⟩,rfl,λ_ h=>absurd h (Nat.not_lt_zero _)⟩
  have hw:=gA.iff.1 (eq_of_beq (dy (b:=wE W==0) h))
  have h0:(bR W s==0)=true:=dy (b:=bR W s==0) J
  have e:jr W s=0:=by unfold jr;rw[dy (b:=wE W==0) h];exact eq_of_beq h0
  have eN:jW W s=fR W s:=by unfold jW;rw[e];rfl
  have hI:=(MG hw hp).mono (show 50<=1000 by decide)
  have hr:mA W:=⟨_,OU hw⟩
  have hs:=(lW h0).1.1
  have z1:=hI.z.af
  have z2:=hI.z.k1
  intro _
  refine⟨rfl,⟨rfl,λa ha=>absurd ha (Nat.not_lt_zero a)⟩,λj hj=>⟨λh=>?_,λh=>?_⟩⟩
  · have ai:=aY h
    have lF:=lX (kZ W s) j
    refine⟨by omega,λ_=>⟨hI,hr,by omega,hs⟩,λJ=>?_,λJ=>?_⟩
    · obtain⟨a,b⟩:=PS (p:=kZ W s) (t:=λi=>(i:Int)) (j:=j) (show(!ix W s j)=false by unfold ix;rw[J];rfl)
      exact⟨by omega,bM (by omega) (by omega),j+1,a,rfl,⟨a,b⟩,by omega,by omega⟩
    · obtain⟨a,b⟩:=PT (p:=kZ W s) (t:=λi=>(i:Int)) (j:=j) (show(!ix W s j)=true by unfold ix;rw[J];rfl)
      exact⟨bM (by omega) (by omega),j+1,a,rfl,⟨a,b⟩,by omega,by omega⟩
  obtain rfl:j=W.aw:=by have:=bD h;omega
  rw[e,eN]
  exact⟨⟨rfl,rfl⟩,rfl,λ_ _=>rfl⟩
end Go.Proofs.YtmieeldmfehpoaaGreatDoor
set_option linter.unusedVariables false
set_option linter.unusedSimpArgs false
set_option maxRecDepth 100000
namespace Go.Proofs.YtmieeldmfehpoaaGreatDoor
open Go.RowKit Go.Sy
structure WK where
  (f:Int) (W:Wd)
def WL (N_:Nat):Sy.Spec:=⟨WK,λ⟨f,_⟩=> [.ptr 0 0 none 0 0,.v (.int .i64 f)],λ⟨_,W⟩=>bQ W,λ⟨f,W⟩=>JJ W/\cE W+1<=N_/\0<=f/\f<W.ar,λ_=> .tp 0 (aH []),λ⟨f,W⟩=>bQ (bc N_ W f),λargs mem=>match args with| [_,a1]=>some ⟨av a1,dL mem 0⟩|_=>none⟩
def yI (N_:Nat):aQ:=⟨[true],(WL N_).g,none⟩
def ZM (W:Wd) (s:Int) (r:Nat):bS where
  σ:=Nat
  rt:= [(6,6)]
  sh i:= [(0,bd 0),(6,bd r),(7,.v (.int .i64 i))]
  mh _:= []
  inv i:=i<=W.aw/\ ∀j,j<i->(((dn W s).af j).kind==(W.af s.toNat).kind&&((dn W s).af j).base==(W.af s.toNat).base)=false
  μ i:=W.aw -i
  init:=0
theorem AK {W:Wd} {s:Int} (j:Nat):(⟨(bif Nat.beq j s.toNat then 0 else(cd s (W.af s.toNat).from_ (W.af j)).kind),(bif Nat.beq j s.toNat then 0 else(cd s (W.af s.toNat).from_ (W.af j)).base),(bif Nat.beq j s.toNat then 0 else(cd s (W.af s.toNat).from_ (W.af j)).len),(bif Nat.beq j s.toNat then 0 else(cd s (W.af s.toNat).from_ (W.af j)).mark),(bif Nat.beq j s.toNat then 0 else(cd s (W.af s.toNat).from_ (W.af j)).cQ),(bif Nat.beq j s.toNat then 0 else(cd s (W.af s.toNat).from_ (W.af j)).bJ),(bif Nat.beq j s.toNat then -1 else(cd s (W.af s.toNat).from_ (W.af j)).from_)⟩:cp)=(dn W s).af j:=by
  show _=cj (λj=>cd s (W.af s.toNat).from_ (W.af j)) s.toNat rM j
  unfold cj
  cases Nat.beq j s.toNat<;>rfl
theorem FE {W:Wd} {s:Int} {j:Nat}:(((((((bif Nat.beq j s.toNat then 0 else(cd s (W.af s.toNat).from_ (W.af j)).kind)=((dn W s).af j).kind/\(bif Nat.beq j s.toNat then 0 else(cd s (W.af s.toNat).from_ (W.af j)).base)=((dn W s).af j).base)/\(bif Nat.beq j s.toNat then 0 else(cd s (W.af s.toNat).from_ (W.af j)).len)=((dn W s).af j).len)/\(bif Nat.beq j s.toNat then 0 else(cd s (W.af s.toNat).from_ (W.af j)).mark)=((dn W s).af j).mark)/\(bif Nat.beq j s.toNat then 0 else(cd s (W.af s.toNat).from_ (W.af j)).cQ)=((dn W s).af j).cQ)/\(bif Nat.beq j s.toNat then 0 else(cd s (W.af s.toNat).from_ (W.af j)).bJ)=((dn W s).af j).bJ)/\(bif Nat.beq j s.toNat then -1 else(cd s (W.af s.toNat).from_ (W.af j)).from_)=((dn W s).af j).from_):=by
  rw[<-AK]
  exact⟨⟨⟨⟨⟨⟨rfl,rfl⟩,rfl⟩,rfl⟩,rfl⟩,rfl⟩,rfl⟩
theorem LU (W:Wd) (s:Int):(⟨W.aq,W.aa,W.ar,W.kinds,W.aw,(dn W s).af,W.az,W.tasks,W.ba,W.ao,W.lines,W.aN,W.bits,W.aP,W.aF,W.aT,W.aJ,W.ready,W.aG,W.aA,W.aj,W.aI,W.aM,W.time⟩:Wd)=dn W s:=rfl
structure Mg where
  (s:Int) (W:Wd)
def Mh (N_:Nat):Sy.Spec:=⟨Mg,λ⟨s,_⟩=> [.ptr 0 0 none 0 0,.v (.int .i64 s)],λ⟨_,W⟩=>bQ W,λ⟨_,W⟩=>JJ W/\cE W<=N_,λ⟨s,W⟩=> .v (.int .i64 (bR W s)),λ⟨s,W⟩=>bQ (b_ (bc N_) W s),
  λargs mem=>match args with| [a0,a1]=>some ⟨av (a1),dL mem 0⟩|_=>none⟩
def kJ (N_:Nat):aQ:=⟨[true],(Mh N_).g,none⟩
def Mi (N_:Nat):Mg->Prop:=λ⟨s,W⟩=>let a0:=W.aq;let b0:=W.ar;let c0:=W.aw;let d0:=W.az;let e0:=W.ba;let g0:=W.aN;let h0:=W.aP;let k0:=W.aT;let l0:=W.aG;let o0:=W.aI;let q0:=bR (Wd.mk a0 (λr0:Nat=>W.aa (0+r0)) b0 (λu0:Nat=>W.kinds (0+u0)) c0 (λv0:Nat=>W.af (0+v0)) d0 (λw0:Nat=>W.tasks (0+w0)) e0 (λx0:Nat=>W.ao (0+x0)) (λy0:Nat=>λz0:Nat=>W.lines (0+y0) (0+z0)) g0 (λa1:Nat=>W.bits (0+a1)) h0 (λb1:Nat=>W.aF (0+b1)) k0 (λc1:Nat=>W.aJ (0+c1)) (λd1:Nat=>λe1:Nat=>W.ready (0+d1) (0+e1)) l0 (λg1:Nat=>W.aA (0+g1)) (λJ:Nat=>λk1:Nat=>W.aj (0+J) (0+k1)) o0 (λl1:Nat=>W.aM (0+l1)) W.time) s;let o1:=q0 !=0;let q1:=b_ (bc N_) W s;let r1:=(c0:Int);let u1:=0<=s/\s<r1;let v1:=SV.ptr 0 0 none 0 0=SV.ptr 0 0 none 0 0;let w1:=Int.toNat s;let x1:=0+w1;let y1:=W.af x1;let z1:=y1.from_;let a2:=false=false;let b2:=SV.ptr (0+1+1+1+1+1+1+1+1+1+1+1) 0 none 0 0=SV.ptr 11 0 none 0 0;let c2:={W with af:=λd2:Nat=>let e2:=Nat.beq d2 x1;let g2:=cd s z1 (W.af d2);cp.mk (cond e2 0 g2.kind) (cond e2 0 g2.base) (cond e2 0 g2.len) (cond e2 0 g2.mark) (cond e2 0 g2.cQ) (cond e2 0 g2.bJ) (cond e2 (-1) g2.from_)};let U:=y1.kind;let k2:=y1.base;let l2:=k2=k2;let o2:=y1.len;let q2:=y1.mark;let r2:=y1.cQ;let u2:=y1.bJ;let v2:=ak c2 c2 (((((((True/\U=U)/\l2)/\o2=o2)/\q2=q2)/\r2=r2)/\u2=u2)/\True);let w2:=W.af w1;let x2:=w2.from_;let y2:=cp.mk 0 0 0 0 0 0 (-1);let z2:=w2.kind;let a3:=w2.base;let b3:=0=bR W s;
    let c3:=b3/\ak c2 q1 True;let d3:=U !=1;(((((((((((((True/\a0=a0/\(∀e3:Nat,e3<a0->True/\W.aa (0+e3)=W.aa (0+e3)))/\b0=b0/\(∀g3:Nat,let h3:=W.kinds (0+g3);g3<b0->True/\h3=h3))/\c0=c0/\(∀k3:Nat,let l3:=W.af (0+k3);k3<c0->aD l3 l3))/\d0=d0/\(∀o3:Nat,let q3:=W.tasks (0+o3);o3<d0->aE q3 q3))/\e0=e0/\(∀r3:Nat,let u3:=W.ao (0+r3);r3<e0->True/\u3=u3/\(∀v3:Nat,let w3:=W.lines (0+r3) (0+v3);v3<u3->True/\w3=w3)))/\g0=g0/\(∀x3:Nat,x3<g0->True/\W.bits (0+x3)=W.bits (0+x3)))/\h0=h0/\(∀y3:Nat,let z3:=W.aF (0+y3);y3<h0->True/\z3=z3))/\k0=k0/\(∀a4:Nat,let b4:=W.aJ (0+a4);a4<k0->True/\b4=b4/\(∀c4:Nat,let d4:=W.ready (0+a4) (0+c4);c4<b4->True/\d4=d4)))/\l0=l0/\(∀e4:Nat,let g4:=W.aA (0+e4);e4<l0->True/\g4=g4/\(∀h4:Nat,let k4:=W.aj (0+e4) (0+h4);h4<g4->ay k4 k4)))/\o0=o0/\(∀l4:Nat,l4<o0->True/\W.aM (0+l4)=W.aM (0+l4)))/\W.time=W.time)/\s=s/\True)/\True/\True)/\(o1=true->q0=bR W s/\ak W q1 True)/\(o1=false->u1/\True/\tn 5 True/\u1/\((v1/\s=s/\z1=z1/\True)/\ak W W True/\Ec.match_1 (λo4:zj=>Prop) (zj.mk s z1 W) (λq4:Int=>λr4:Int=>λu4:Wd=>u4.aw<=100000))/\u1/\((∀v4:Nat,a2)/\(∀w4:Nat,a2)/\(∀x4:Nat,a2)/\(∀y4:Nat,a2)/\(∀z4:Nat,a2)/\(∀a5:Nat,a2)/\(∀b5:Nat,a2))/\v1/\b2/\0=((0:Nat):Int)/\v2/\(0<=c0/\(∀c5:Nat,let d5:=cj (λe5:Nat=>cd s x2 (W.af e5)) w1 y2 c5;c5<0->(d5.kind==z2&&d5.base==a3)=false))/\(∀g5:Nat,let h5:=(g5:Int);let k5:=decide (h5<r1);let l5:=0<=h5/\h5<r1;let o5:=0+Int.toNat h5;let q5:=Nat.beq o5 x1;let r5:=cd s z1 (W.af o5);let u5:=cond q5 0 r5.kind==U;let v5:=cond u5 (cond q5 0 r5.base==k2) false;
    let w5:Int:=h5+1;g5<=c0/\(∀x5:Nat,let y5:=cj (λz5:Nat=>cd s x2 (W.af z5)) w1 y2 x5;x5<g5->(y5.kind==z2&&y5.base==a3)=false)->r1<=9223372036854775807->(k5=true->tn 5 (l5/\tn 12 ((u5=true->l5)/\tn 5 ((v5=true->c3)/\(v5=false->ah w5=w5/\(∃a6:Nat,v1/\b2/\w5=(a6:Int)/\v2/\(a6<=c0/\(∀b6:Nat,let c6:=cj (λd6:Nat=>cd s x2 (W.af d6)) w1 y2 b6;b6<a6->(c6.kind==z2&&c6.base==a3)=false))/\c0-a6<c0-g5))))))/\(k5=false->(d3=true->((v1/\l2/\True)/\ak c2 c2 True/\JJ c2/\cE c2+1<=N_/\0<=k2/\k2<(b0:Int))/\b3/\ak (bc N_ c2 k2) q1 True)/\(d3=false->c3))))
set_option maxHeartbeats 1000000 in
theorem Kc (N_:Nat) (h_:aL Tryz.prog aO 36 (yI N_)):aL Tryz.prog aO 23 (kJ N_):=aW (.cons KH (.cons V8 (.cons h_ .nil))) false Tryz.call23 Tryz.func23 (λ⟨s,W⟩=> [.inv (ZM W s 11)]) (V:=Mi N_) (λ_=>by kernel_rfl) λ⟨s,W⟩ hp=>by
  dsimp only[Mh]at hp
  dsimp only[Mi,tn,ah,ak,aE,aD,ay]
  simp only[aS,aZ,eq_self,implies_true,Bool.cond_self]
  try simp only[cu]
  obtain⟨hJ,hn⟩:=hp
  have z1:=hJ.w.i.z.af
  have z2:=hJ.w.i.z.k1
  have eS:(λj=>(⟨(bif Nat.beq j s.toNat then 0 else(cd s (W.af s.toNat).from_ (W.af j)).kind),(bif Nat.beq j s.toNat then 0 else(cd s (W.af s.toNat).from_ (W.af j)).base),(bif Nat.beq j s.toNat then 0 else(cd s (W.af s.toNat).from_ (W.af j)).len),(bif Nat.beq j s.toNat then 0 else(cd s (W.af s.toNat).from_ (W.af j)).mark),(bif Nat.beq j s.toNat then 0 else(cd s (W.af s.toNat).from_ (W.af j)).cQ),(bif Nat.beq j s.toNat then 0 else(cd s (W.af s.toNat).from_ (W.af j)).bJ),(bif Nat.beq j s.toNat then -1 else(cd s (W.af s.toNat).from_ (W.af j)).from_)⟩:cp))=(dn W s).af:=funext AK
  refine⟨λh=>?_,λh=>?_⟩
  · have e:b_ (bc N_) W s=W:=by unfold b_;rw[A6 h];rfl
    simp only[e]
    repeat' (first|exact trivial|exact bG rfl|rfl|refine And.intro ?_ ?_|intro _)
  · have hs:=tV h
    have he:=(eq_of_beq hs).symm
    obtain⟨⟨s0,s1⟩,hk⟩:=lW hs
    have eu: ∀j,(⟨(bif Nat.beq j s.toNat then 0 else(cd s (W.af s.toNat).from_ (W.af j)).kind),(bif Nat.beq j s.toNat then 0 else(cd s (W.af s.toNat).from_ (W.af j)).base),(bif Nat.beq j s.toNat then 0 else(cd s (W.af s.toNat).from_ (W.af j)).len),(bif Nat.beq j s.toNat then 0 else(cd s (W.af s.toNat).from_ (W.af j)).mark),(bif Nat.beq j s.toNat then 0 else(cd s (W.af s.toNat).from_ (W.af j)).cQ),(bif Nat.beq j s.toNat then 0 else(cd s (W.af s.toNat).from_ (W.af j)).bJ),(bif Nat.beq j s.toNat then -1 else(cd s (W.af s.toNat).from_ (W.af j)).from_)⟩:cp)=cj (λj=>cd s (W.af s.toNat).from_ (W.af j)) s.toNat rM j:=AK
    refine⟨⟨s0,s1⟩,⟨s0,s1⟩,by omega,⟨s0,s1⟩,λi hi hm=>⟨λU=>?_,λU=>?_⟩⟩
    · have ai:=aY U
      have ek:=congrArg cp.kind (eu i)
      have eb:=congrArg cp.base (eu i)
      simp only at ek eb
      rw[ek,eb]
      refine⟨by omega,λ_=>by omega,λh3=>?_,λh3=>?_⟩
      · have e:b_ (bc N_) W s=dn W s:=by
          unfold b_
          rw[hs]
          have:mX (dn W s) (W.af s.toNat)=true:=kE.2 ⟨i,ai,h3⟩
          rw[this,Bool.or_true];rfl
        simp only[e]
        refine⟨he,?_⟩
        repeat' (first|exact trivial|exact FE|exact bG rfl|rfl|refine And.intro ?_ ?_|intro _)
      · refine⟨bM (by omega) (by omega),i+1,by omega,⟨by omega,λj hj=>?_⟩,by omega⟩
        rcases Nat.lt_or_ge j i with h4|h4
        · exact hi.2 j h4
        · obtain rfl:j=i:=by omega
          exact h3
    · have bo:=bD U
      obtain rfl:i=W.aw:=by omega
      have cP:mX (dn W s) (W.af s.toNat)=false:=ld.2 hi.2
      rw[eS]
      simp only[LU]
      refine⟨λh3=>?_,λh3=>?_⟩
      · have e:b_ (bc N_) W s=bc N_ (dn W s) (W.af s.toNat).base:=by
          unfold b_
          rw[hs,cP,show((W.af s.toNat).kind==1)=false by simpa [bne]using h3];rfl
        obtain⟨b1,b2⟩:=yY hJ.w.i hs
        have hc:=yy hs
        simp only[e]
        refine⟨⟨(yZ hJ hs).1,by omega,b1,b2⟩,he,?_⟩
        repeat' (first|exact trivial|exact bG rfl|rfl|refine And.intro ?_ ?_|intro _)
      · have e:b_ (bc N_) W s=dn W s:=by
          unfold b_
          rw[hs,show((W.af s.toNat).kind==1)=true by simpa [bne]using h3];rfl
        simp only[e]
        refine⟨he,?_⟩
        repeat' (first|exact trivial|exact FE|exact bG rfl|rfl|refine And.intro ?_ ?_|intro _)
end Go.Proofs.YtmieeldmfehpoaaGreatDoor
