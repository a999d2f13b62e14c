/- Sound worlds: all of it; numbers within bounds. -/
import Derived.Test.YtbngaammbjaajaaGreatDoorYJ
import Derived.Test.YtbngaammbjaajaaGreatDoorYL
import Derived.Test.YtbngaammbjaajaaGreatDoorYI
set_option linter.unusedVariables false
set_option linter.unusedSimpArgs false
set_option linter.unusedVariables false
set_option linter.unusedSimpArgs false
set_option maxRecDepth 100000
namespace Go.Proofs.YtbngaammbjaajaaGreatDoor
open Go.RowKit Go.Sy
theorem Ob {a b:dN} (h:xP a b=true):a=b:=by
  unfold xP at h
  simp only[Bool.and_eq_true,beq_iff_eq,and_true]at h
  cases a;cases b
  simp only at h
  obtain⟨⟨J,U,h3,h4,h5,h6,h7,h8⟩,h9,cv,dM,ib,gJ,gM,uX,me,UX,UY,UZ,U0⟩:=h
  subst J U h3 h4 h5 h6 h7 h8 h9 cv dM ib gJ gM uX me UX UY UZ U0
  rfl
structure jo (W:Wd):Prop where
  z:bL W
  af: ∀i,i<W.ar->al (W.af i) 65535=false
  kd: ∀i,i<W.ae->(al (W.kinds i) 8||W.kinds i==1)=false
  dm: ∀i,i<W.az->al (W.aU i) 3=false
  sl: ∀i,i<W.av->cp W i=true
  fr: ∀i,i<W.ae->gu W i=true
  tk: ∀i,i<W.ae->cr W i=true
  ln: ∀i,i<W.ae->ct W i=true
  co: ∀i,i<W.aE->cE W i=true
  rl: ∀i,i<W.aY->cO W i=true
  en: ∀i,i<W.ar->cm W i=true
  tl: ∀i,i<W.aE->b_ W (W.aQ i) (W.aB i)=true
theorem Oc {W:Wd} (h:bL W):nL W=false:=by
  obtain⟨J,U,h3,h4,h5,h6,h7,h8,h9,cv,dM,ib,gJ,gM,uX⟩:=h
  unfold nL al
  simp only[Bool.or_eq_false_iff,decide_eq_false_iff_not,bne_eq_false_iff_eq]
  refine⟨⟨⟨⟨⟨⟨⟨⟨⟨⟨⟨⟨⟨?_,?_⟩,?_⟩,?_⟩,h5⟩,h6⟩,h7⟩,h8⟩,h9⟩,cv⟩,dM⟩,?_⟩,?_⟩,?_,?_⟩<;>omega
theorem nQ {b:Bool} (h:b=true):(!b)=false:=by rw[h];rfl
theorem jo.iff {W:Wd}:wE W=0↔jo W:=by
  constructor
  · intro h
    unfold wE wm at h
    cases hs:nL W with
    |true=>rw[hs]at h;exact absurd (show(2:Int)=0 from h) (by decide)
    |false=>
     rw[hs]at h
     have h:(na W (oo W (p6 W (ot W (ou W (ow W (ox W (0,-1)))))))).1=0:=h
     have a1:=jv (by decide) h
     have a2:=jv (by decide) a1.2
     have a3:=jv (by decide) a2.2
     have a4:=jv (by decide) a3.2
     have a5:=jv (by decide) a4.2
     have a6:=jv (by decide) a5.2
     have a7:=jv (by decide) a6.2
     have a8:=jv (by decide) a7.2
     have a9:=jv (by decide) a8.2
     have jq:=jv (by decide) a9.2
     have iT:=jv (by decide) jq.2
     exact⟨BI hs,a1.1,a2.1,a3.1,λi hi=>eJ (a4.1 i hi),λi hi=>eJ (a5.1 i hi),λi hi=>eJ (a6.1 i hi),λi hi=>eJ (a7.1 i hi),λi hi=>eJ (a8.1 i hi),λi hi=>eJ (a9.1 i hi),λi hi=>eJ (jq.1 i hi),λi hi=>eJ (iT.1 i hi)⟩
  · intro h
    obtain⟨z,af,kd,dm,sl,fr,tk,ln,co,rl,en,tl⟩:=h
    unfold wE wm na oo p6 ot ou ow ox
    rw[Oc z]
    rw[cR af,cR kd,cR dm,cR λi hi=>nQ (sl i hi),cR λi hi=>nQ (fr i hi),cR λi hi=>nQ (tk i hi),cR λi hi=>nQ (ln i hi),cR λi hi=>nQ (co i hi),cR λi hi=>nQ (rl i hi),cR λi hi=>nQ (en i hi),cR λi hi=>nQ (tl i hi)]
    rfl
structure U1 (W:Wd) (t:dN):Prop where
  cC:jC t=false
  pc:0<=t.pc/\t.pc<=65535
  word:0<=t.word/\t.word<=65535
  bS:0<=t.bS/\t.bS<=65535
  st:0<=t.st/\t.st<=6
  prio:0<=t.prio/\t.prio<=3
  core:0<=t.core/\t.core<W.aE
  gr:0<=t.gr/\t.gr<=3
  node: -1<=t.node/\t.node<W.ae
  space: -1<=t.space/\t.space<W.ae
  helper: -1<=t.helper/\t.helper<W.ae
  loc: -1<=t.loc/\t.loc<W.ae
  bK: -1<=t.bK/\t.bK<W.ae
structure Inv (L:Nat) (W:Wd):Prop where
  z:bL W
  af: ∀i,i<W.ar->gN (W.af i)
  kd: ∀i,i<W.ae->0<=W.kinds i/\W.kinds i<=8
  dm: ∀i,i<W.az->0<=W.aU i/\W.aU i<=3
  sl: ∀i,i<W.av->fE (W.aj i)=0/\((W.aj i).kind≠0->(W.aj i).base+(W.aj i).len<=W.ae)/\ -1<=(W.aj i).from_/\(W.aj i).from_<W.av
  tk: ∀i,i<W.aV->U1 W (W.tasks i)
  ln: ∀i,i<W.bz->W.aD i<=L/\ ∀k,k<W.aD i->0<=W.lines i k/\W.lines i k<W.aV
  rd: ∀i,i<W.aY->W.aL i<=L/\ ∀k,k<W.aL i->0<=W.ready i k/\W.ready i k<W.aV
  co: ∀c,c<W.aE-> -1<=W.aM c/\W.aM c<W.aV
  bt: ∀i,i<W.aI->0<=W.bits i/\W.bits i<=65535
  tl: ∀c,c<W.aK->W.aQ c<=L
theorem kH {v m:Int} (h:al v m=false):0<=v/\v<=m:=by
  unfold al at h
  simp only[Bool.or_eq_false_iff,decide_eq_false_iff_not]at h
  omega
theorem wM {W:Wd} {f k:Int} (hk:k≠ -1) (h:okF W f k=true): -1<=f/\f<W.ae:=by
  unfold okF at h
  simp only[Bool.or_eq_true,beq_iff_eq]at h
  rcases h with h|h
  · omega
  · have:=jB (W:=W) (f:=f) (by rw[h];exact hk);omega
theorem Od {W:Wd} {f:Nat} (h:jg W f=true):(W.tasks f).loc= -1\/bM W (W.tasks f).loc=7\/bM W (W.tasks f).loc=8:=by
  unfold jg qy at h
  dsimp only at h
  generalize ((W.tasks f).st==2||(W.tasks f).st==3||(W.tasks f).st==4)=a at h
  generalize ((W.tasks f).st==6)=b at h
  generalize ((W.tasks f).st==1)=c at h
  cases a<;>cases b<;>cases c<;>simp only[cond_true,cond_false,Bool.and_eq_true,beq_iff_eq]at h<;>first|exact .inl h.2|exact .inr (.inl h.1.2)|exact .inr (.inr h.1.2)
theorem IP {W:Wd} {t c p:Int} (h:cP W t c p=true):(0<=t/\t<W.ae)/\bM W t=6/\(W.tasks t.toNat).st=1/\(W.tasks t.toNat).core=c/\(0<=p->(W.tasks t.toNat).prio=p):=by
  unfold cP at h
  simp only[Bool.and_eq_true,Bool.or_eq_true,beq_iff_eq,decide_eq_true_eq]at h
  obtain⟨⟨⟨J,U⟩,h3⟩,h4⟩:=h
  exact⟨jB (by rw[J];decide),J,U,h3,λhp=>h4.resolve_left (by omega)⟩
theorem xd {W:Wd} (h:jo W) (hs:Sm W):Inv 50 W:=by
  obtain⟨z,af,kd,dm,sl,fr,tk,ln,co,rl,en,tl⟩:=h
  have zt:=z.tasks
  refine⟨z,λi hi=>kH (af i hi),λi hi=>kH (Bool.or_eq_false_iff.1 (kd i hi)).1,λi hi=>kH (dm i hi),λi hi=>?_,λi hi=>?_,λi hi=>⟨hs.sm.1 i hi,λk hk=>?_⟩,λi hi=>⟨hs.sm.2.1 i hi,λk hk=>?_⟩,λc hc=>?_,λi hi=>?_,λc hc=>hs.sm.2.2 c hc⟩
  · have h:=sl i hi
    have hn:=AU h
    have hr:=kC hn
    unfold cp j_ at h
    cases hk:(W.aj i).kind==0 with
    |true=>
     rw[hk]at h
     simp only[cond_true,Bool.and_eq_true,beq_iff_eq]at h
     refine⟨hn,λh0=>absurd (eq_of_beq hk) h0,?_,?_⟩<;>omega
    |false=>
     rw[hk]at h
     simp only[cond_false,Bool.and_eq_true,Bool.or_eq_true,beq_iff_eq,decide_eq_true_eq]at h
     refine⟨hn,λ_=>h.1.1.2,?_⟩
     rcases h.2 with U|U
     · omega
     · have:=kI.1 U.1.1;omega
  · have h:=tk i (by omega)
    unfold cr at h
    cases hk:W.kinds i !=6 with
    |true=>
     have h:xP (W.tasks i) dN.blank=true:=by simpa [hk]using h
     rw[Ob h]
     have:=z.c0
     have:=z.k0
     refine⟨by decide,by decide,by decide,by decide,by decide,by decide,?_,by decide,?_,?_,?_,?_,?_⟩<;>simp only[dN.blank]<;>omega
    |false=>
     simp only[hk,cond_false,Bool.and_eq_true,Bool.not_eq_true']at h
     obtain⟨⟨⟨⟨⟨J,U⟩,h3⟩,h4⟩,h5⟩,h6⟩:=h
     unfold kM at U
     simp only[Bool.or_eq_false_iff]at U
     obtain⟨⟨⟨⟨⟨⟨g1,g2⟩,g3⟩,g4⟩,g5⟩,g6⟩,g7⟩:=U
     unfold jb at h3
     simp only[Bool.and_eq_true]at h3
     obtain⟨⟨⟨r1,r2⟩,r3⟩,r4⟩:=h3
     have g6:=kH g6
     refine⟨J,kH g1,kH g2,kH g3,kH g4,kH g5,⟨g6.1,by omega⟩,kH g7,wM (by decide) r1,wM (by decide) r2,wM (by decide) r3,?_,wM (by decide) r4⟩
     rcases Od h6 with h|h|h
     · have:=z.k0;omega
     · have:=jB (W:=W) (f:=(W.tasks i).loc) (by rw[h];decide);omega
     · have:=jB (W:=W) (f:=(W.tasks i).loc) (by rw[h];decide);omega
  · have h:=ln i (by have:=z.lines;omega)
    unfold ct at h
    simp only[Bool.and_eq_true]at h
    have h:=my.1 h.2 k hk
    unfold dZ at h
    simp only[Bool.and_eq_true,beq_iff_eq]at h
    have:=jB (W:=W) (f:=W.lines i k) (by rw[h.1.1];decide)
    omega
  · have h:=my.1 (rl i hi) k hk
    have:=(IP h).1
    omega
  · have h:=co c hc
    unfold cE at h
    simp only[Bool.or_eq_true,beq_iff_eq]at h
    rcases h with h|h
    · have:=z.k0;omega
    · have:=(IP h).1;omega
  · have h:=ln i (by have:=z.bits;omega)
    unfold ct at h
    simp only[Bool.and_eq_true,Bool.not_eq_true']at h
    exact kH h.1.2
end Go.Proofs.YtbngaammbjaajaaGreatDoor
set_option linter.unusedVariables false
set_option linter.unusedSimpArgs false
set_option maxRecDepth 100000
namespace Go.Proofs.YtbngaammbjaajaaGreatDoor
open Go.RowKit Go.Sy
theorem UF.eqv {n:Nat} {u:Nat->Int} {R S:Nat->Nat->Prop} (h:UF n u R) (e: ∀a b,S a b↔R a b):UF n u S:=
  ⟨h.o,λa b k=>h.r a b ((e a b).1 k),λf g hf hg=>(h.c f g hf hg).trans ⟨λk=>k.mo λa b=>(e a b).2,λk=>k.mo λa b=>(e a b).1⟩⟩
def lk (x:dN):Nat->Int
  |0=>x.node
  |1=>x.space
  |2=>x.helper
  |3=>x.loc
  |_=>x.bK
theorem Sj (x:dN) {q:Nat} (h:q<5):([x.node,x.space,x.helper,x.loc,x.bK]:List Int).getD q 0=lk x q:=by
  match q,h with
  |0,_=>rfl
  |1,_=>rfl
  |2,_=>rfl
  |3,_=>rfl
  |4,_=>rfl
def SJ (W:Wd) (s k a b:Nat):Prop:= ∃q,q<k/\a=s/16/\b=(W.aj s).base.toNat+q
def SG (W:Wd) (s a b:Nat):Prop:=0<=(W.aj s).from_/\a=s/16/\b=(W.aj s).from_.toNat/16
def JA (W:Wd) (i k a b:Nat):Prop:=(∃s,s<i/\(SJ W s (W.aj s).len.toNat a b\/SG W s a b))\/SJ W i k a b
def om (W:Wd) (s:Nat):Bool:=W.af s !=0&&(W.kinds (s/16)==3||W.kinds (s/16)==4)
def JB (W:Wd) (i a b:Nat):Prop:=JA W W.av 0 a b\/ ∃s,s<i/\om W s=true/\a=s/16/\b=(W.af s%1024).toNat
def TJ (W:Wd) (t j a b:Nat):Prop:= ∃q,q<j/\0<=lk (W.tasks t) q/\a=t/\b=(lk (W.tasks t) q).toNat
def JC (W:Wd) (t j a b:Nat):Prop:=JB W W.ar a b\/(∃s,s<t/\TJ W s 5 a b)\/TJ W t j a b
theorem TC {W:Wd} {n:Nat}:UF n (λf=>(f:Int)) (JA W 0 0):=by
  have no: ∀a b,¬JA W 0 0 a b:=λa b h=>by
    rcases h with⟨s,hs,_⟩|⟨q,hq,_⟩
    · omega
    · omega
  have ho:UO n λf=>(f:Int):=λf _=>⟨Int.natCast_nonneg f,Int.le_refl _⟩
  refine⟨ho,λa b k=>absurd k (no a b),λf g hf hg=>?_⟩
  rw[nw ho hf rfl,nw ho hg rfl]
  refine⟨λe=>e▸ .rf f,λk=>?_⟩
  induction k with
  |rf=>rfl
  |fw _ r _=>exact absurd r (no _ _)
  |bw _ r _=>exact absurd r (no _ _)
theorem IG {W:Wd} {i k a b:Nat}:JA W i (k+1) a b↔JR (JA W i k) (i/16) ((W.aj i).base.toNat+k) a b:=by
  refine⟨λq=>?_,λq=>?_⟩
  · rcases q with q|⟨q,J,U,h3⟩
    · exact .inl (.inl q)
    · rcases Nat.lt_or_ge q k with e|e
      · exact .inl (.inr ⟨q,e,U,h3⟩)
      · obtain rfl:q=k:=by omega
        exact .inr ⟨U,h3⟩
  · rcases q with(q|⟨q,J,U⟩)|⟨J,U⟩
    · exact .inl q
    · exact .inr ⟨q,by omega,U⟩
    · exact .inr ⟨k,by omega,J,U⟩
theorem Sf {W:Wd} {n i k:Nat} {u:Nat->Int} (h:UF n u (JA W i k)) (ha:i/16<n) (hb:(W.aj i).base.toNat+k<n):UF n (iU u (i/16) ((W.aj i).base.toNat+k)) (JA W i (k+1)):=
  (h.jn ha hb).eqv λa b=>IG
theorem xC {W:Wd} {i a b:Nat}:JA W (i+1) 0 a b↔JA W i (W.aj i).len.toNat a b\/SG W i a b:=by
  constructor
  · rintro (⟨s,hs,q⟩|⟨q,hq,_⟩)
    · rcases Nat.lt_or_ge s i with e|e
      · exact .inl (.inl ⟨s,e,q⟩)
      · obtain rfl:s=i:=by omega
        rcases q with q|q
        · exact .inl (.inr q)
        · exact .inr q
    · omega
  · rintro ((⟨s,hs,q⟩|q)|q)
    · exact .inl ⟨s,by omega,q⟩
    · exact .inl ⟨i,by omega,.inl q⟩
    · exact .inl ⟨i,by omega,.inr q⟩
theorem Sg {W:Wd} {n i:Nat} {u:Nat->Int} (h:UF n u (JA W i (W.aj i).len.toNat)) (h0:0<=(W.aj i).from_) (ha:i/16<n) (hb:(W.aj i).from_.toNat/16<n):UF n (iU u (i/16) ((W.aj i).from_.toNat/16)) (JA W (i+1) 0):=
  (h.jn ha hb).eqv λa b=>xC.trans ⟨λq=>q.elim .inl λq=> .inr q.2,λq=>q.elim .inl λq=> .inr ⟨h0,q⟩⟩
theorem Sh {W:Wd} {n i:Nat} {u:Nat->Int} (h:UF n u (JA W i (W.aj i).len.toNat)) (h0:(W.aj i).from_<0):UF n u (JA W (i+1) 0):=
  h.eqv λa b=>xC.trans ⟨λq=>q.elim id λq=>absurd q.1 (by omega),.inl⟩
theorem JX {W:Wd} {a b:Nat}:JB W 0 a b↔JA W W.av 0 a b:=⟨λq=>q.elim id λ⟨s,hs,_⟩=>absurd hs (Nat.not_lt_zero s),.inl⟩
theorem TD {W:Wd} {n:Nat} {u:Nat->Int} (h:UF n u (JA W W.av 0)):UF n u (JB W 0):=h.eqv λa b=>JX
theorem xD {W:Wd} {i a b:Nat}:JB W (i+1) a b↔JB W i a b\/(om W i=true/\a=i/16/\b=(W.af i%1024).toNat):=by
  constructor
  · rintro (q|⟨s,hs,q⟩)
    · exact .inl (.inl q)
    · rcases Nat.lt_or_ge s i with e|e
      · exact .inl (.inr ⟨s,e,q⟩)
      · obtain rfl:s=i:=by omega
        exact .inr q
  · rintro ((q|⟨s,hs,q⟩)|q)
    · exact .inl q
    · exact .inr ⟨s,by omega,q⟩
    · exact .inr ⟨i,by omega,q⟩
theorem QE {W:Wd} {n i:Nat} {u:Nat->Int} (h:UF n u (JB W i)) (h0:om W i=true) (ha:i/16<n) (hb:(W.af i%1024).toNat<n):UF n (iU u (i/16) (W.af i%1024).toNat) (JB W (i+1)):=
  (h.jn ha hb).eqv λa b=>xD.trans ⟨λq=>q.elim .inl λq=> .inr q.2,λq=>q.elim .inl λq=> .inr ⟨h0,q⟩⟩
theorem Si {W:Wd} {n i:Nat} {u:Nat->Int} (h:UF n u (JB W i)) (h0:om W i=false):UF n u (JB W (i+1)):=
  h.eqv λa b=>xD.trans ⟨λq=>q.elim id λq=>absurd q.1 (by rw[h0];decide),.inl⟩
theorem JY {W:Wd} {a b:Nat}:JC W 0 0 a b↔JB W W.ar a b:=⟨λq=>by
    rcases q with q|⟨s,hs,_⟩|⟨q,hq,_⟩
    · exact q
    · omega
    · omega,.inl⟩
theorem TE {W:Wd} {n:Nat} {u:Nat->Int} (h:UF n u (JB W W.ar)):UF n u (JC W 0 0):=h.eqv λa b=>JY
theorem xE {W:Wd} {t j a b:Nat}:JC W t (j+1) a b↔JC W t j a b\/(0<=lk (W.tasks t) j/\a=t/\b=(lk (W.tasks t) j).toNat):=by
  constructor
  · rintro (q|q|⟨q,hq,r⟩)
    · exact .inl (.inl q)
    · exact .inl (.inr (.inl q))
    · rcases Nat.lt_or_ge q j with e|e
      · exact .inl (.inr (.inr ⟨q,e,r⟩))
      · obtain rfl:q=j:=by omega
        exact .inr r
  · rintro ((q|q|⟨q,hq,r⟩)|q)
    · exact .inl q
    · exact .inr (.inl q)
    · exact .inr (.inr ⟨q,by omega,r⟩)
    · exact .inr (.inr ⟨j,by omega,q⟩)
theorem Pu {W:Wd} {n t j:Nat} {u:Nat->Int} (h:UF n u (JC W t j)) (ht:t<n) (hb:lk (W.tasks t) j<n):UF n (fX u t (lk (W.tasks t) j)) (JC W t (j+1)):=by
  unfold fX
  rw[decide_eq_false (show¬(t:Int)<0 by omega)]
  rcases Int.lt_or_le (lk (W.tasks t) j) 0 with e|e
  · rw[decide_eq_true e]
    exact h.eqv λa b=>xE.trans ⟨λq=>q.elim id λq=>absurd q.1 (by omega),.inl⟩
  · rw[decide_eq_false (Int.not_lt.2 e)]
    exact(h.jn ht (by omega)).eqv λa b=>xE.trans ⟨λq=>q.elim .inl λq=> .inr q.2,λq=>q.elim .inl λq=> .inr ⟨e,q⟩⟩
theorem IH {W:Wd} {t a b:Nat}:JC W (t+1) 0 a b↔JC W t 5 a b:=by
    constructor
    · rintro (q|⟨s,hs,q⟩|⟨q,hq,_⟩)
      · exact .inl q
      · rcases Nat.lt_or_ge s t with e|e
        · exact .inr (.inl ⟨s,e,q⟩)
        · obtain rfl:s=t:=by omega
          exact .inr (.inr q)
      · omega
    · rintro (q|⟨s,hs,q⟩|q)
      · exact .inl q
      · exact .inr (.inl ⟨s,by omega,q⟩)
      · exact .inr (.inl ⟨t,by omega,q⟩)
theorem Sk {W:Wd} {n t:Nat} {u:Nat->Int} (h:UF n u (JC W t 5)):UF n u (JC W (t+1) 0):=h.eqv λa b=>IH
noncomputable def mc (W:Wd) (f:Nat):Nat:=cj W.ae (JC W W.aV 0) f
theorem Pv {S:fM} (h0:fE S=0) (hk:S.kind=0):S.len=0:=by
  have h0:d' S.kind S.base S.len S.mark S.dx S.bS=0:=h0
  unfold d' oK oL al at h0
  simp only[cond_eq_ite,bne,Bool.or_eq_true,Bool.and_eq_true,Bool.not_eq_true',decide_eq_true_eq,beq_iff_eq,beq_eq_false_iff_ne]at h0
  repeat' split at h0
  all_goals first|(cases h0;done)|omega
theorem B0 {W:Wd} {L:Nat} (h:Inv L W) {i k:Nat} (hi:i<W.av) (hk:k<(W.aj i).len.toNat):(W.aj i).base.toNat+k<W.ae:=by
  obtain⟨h3,h4,_⟩:=h.sl i hi
  have h5:=kC h3
  rcases Decidable.em ((W.aj i).kind=0)with e|e
  · have:=Pv h3 e
    omega
  · have h6:=h4 e
    omega
theorem B1 {W:Wd} {L:Nat} (h:Inv L W) {i:Nat} (hi:i<W.av) (h0:0<=(W.aj i).from_):(W.aj i).from_.toNat/16<W.ae:=by
  have J:=(h.sl i hi).2.2
  have z:=h.z.aj
  omega
theorem JW {W:Wd} {L:Nat} (h:Inv L W) {t:Nat} (ht:t<W.aV) (q:Nat): -1<=lk (W.tasks t) q/\lk (W.tasks t) q<W.ae:=by
  have k:=h.tk t ht
  match q with
  |0=>exact k.node
  |1=>exact k.space
  |2=>exact k.helper
  |3=>exact k.loc
  |q+4=>exact k.bK
theorem B2 {W:Wd} (h:jo W) {i:Nat} (hi:i<W.ar) (ht:om W i=true):(W.af i%1024).toNat<W.ae:=by
  have he:=h.en i hi
  unfold om at ht
  simp only[Bool.and_eq_true,bne_iff_ne,ne_eq,Bool.or_eq_true,beq_iff_eq]at ht
  have hk:bM W (W.af i%1024)≠ -1:=by
    intro e
    unfold cm at he
    simp only[e]at he
    rcases ht.2 with q|q<;>simp[ht.1,q]at he
  have:=jB hk
  omega
theorem Bu {u:Nat->Int} {a b:Int} {A B:Nat} (ha:a=A) (hb:b=B):fX u a b=iU u A B:=by
  subst ha hb
  unfold fX
  rw[decide_eq_false (by omega),decide_eq_false (by omega)]
  rfl
end Go.Proofs.YtbngaammbjaajaaGreatDoor
set_option linter.unusedVariables false
set_option linter.unusedSimpArgs false
set_option maxRecDepth 100000
namespace Go.Proofs.YtbngaammbjaajaaGreatDoor
open Go.RowKit Go.Sy
def iQ (W:Wd):Int:=bif wE W==0 then 0 else 8
def ig (W:Wd):Nat:=bif wE W==0 then W.ae else 0
noncomputable def cU (W:Wd) (f:Nat):Int:=(mc W f:Int)
structure fu where
  i:Nat
  u:Nat->Int
def R8 (n:Nat):bH where
  σ:=Nat
  rt:= [(1,0),(4,1)]
  sh i:= [(1,bk 0),(4,.aw 1 0 none 0 n),(28,.v (.int .i64 i))]
  mh i:= [(1,.row 1 n (iF λj=>bif Nat.blt j i then(j:Int)else 0))]
  inv i:=i<=n
  μ i:=n -i
  init:=0
def R9 (W:Wd):bH where
  σ:=fu
  rt:= [(1,0),(4,1)]
  sh s:= [(1,bk 0),(4,.aw 1 0 none 0 W.ae),(39,.v (.int .i64 s.i))]
  mh s:= [(1,.row 1 W.ae (iF s.u))]
  inv s:=s.i<=W.av/\UF W.ae s.u (JA W s.i 0)
  μ s:=W.av -s.i
  init:=⟨0,λ_=>0⟩
def R_ (W:Wd) (i:Nat):bH where
  σ:=fu
  rt:= [(1,0),(4,1),(7,7)]
  sh s:= [(1,bk 0),(4,.aw 1 0 none 0 W.ae),(7,bk 2),(47,.v (.int .i64 s.i))]
  mh s:= [(1,.row 1 W.ae (iF s.u))]
  inv s:=s.i<=(W.aj i).len.toNat/\UF W.ae s.u (JA W i s.i)
  μ s:=(W.aj i).len.toNat -s.i
  init:=⟨0,λ_=>0⟩
def Sa (W:Wd):bH where
  σ:=fu
  rt:= [(1,0),(4,1)]
  sh s:= [(1,bk 0),(4,.aw 1 0 none 0 W.ae),(74,.v (.int .i64 s.i))]
  mh s:= [(1,.row 1 W.ae (iF s.u))]
  inv s:=s.i<=W.ar/\UF W.ae s.u (JB W s.i)
  μ s:=W.ar -s.i
  init:=⟨0,λ_=>0⟩
def Sb (W:Wd):bH where
  σ:=fu
  rt:= [(1,0),(4,1)]
  sh s:= [(1,bk 0),(4,.aw 1 0 none 0 W.ae),(105,.v (.int .i64 s.i))]
  mh s:= [(1,.row 1 W.ae (iF s.u))]
  inv s:=s.i<=W.aV/\UF W.ae s.u (JC W s.i 0)
  μ s:=W.aV -s.i
  init:=⟨0,λ_=>0⟩
def Sc (W:Wd) (t:Nat):bH where
  σ:=fu
  rt:= [(1,0),(4,1),(120,1)]
  sh s:= [(1,bk 0),(4,.aw 1 0 none 0 W.ae),(120,.aw 2 0 none 0 5),(122,.v (.int .i64 s.i))]
  mh s:= [(1,.row 1 W.ae (iF s.u))]
  inv s:=s.i<=5/\UF W.ae s.u (JC W t s.i)
  μ s:=5 -s.i
  init:=⟨0,λ_=>0⟩
noncomputable def Sd (W:Wd):bH where
  σ:=Nat
  rt:= [(4,1),(16,1)]
  sh i:= [(4,.aw 0 0 none 0 W.ae),(16,.aw 1 0 none 0 W.ae),(137,.v (.int .i64 i))]
  mh i:= [(1,.row 1 W.ae (iF λj=>bif Nat.blt j i then cU W j else 0))]
  inv i:=i<=W.ae
  μ i:=W.ae -i
  init:=0
structure qS where
  (W:Wd)
noncomputable def xB:Sy.Spec:=⟨qS,λ⟨W⟩=> [gq W],λ_=> [],λ⟨W⟩=>Sm W,λ⟨W⟩=> .tp 2 (aA [.aw 0 0 none 0 (ig W),.er 30 73 (iQ W) (-1)]),λ⟨W⟩=> [.row 1 (ig W) (iF (cU W))],
  λargs mem=>match args with| [a0]=>some ⟨gf a0⟩|_=>none⟩
noncomputable def Se:aX:=⟨[],(xB).g,none⟩
def JV:qS->Prop:=λ⟨W⟩=>let a0:=W.ar;let b0:=W.ae;let c0:=b0=b0;let d0:=W.av;let e0:=W.aV;let g0:=W.bz;let h0:=W.aE;let k0:=W.aY;let l0:=((((((((((True/\a0=a0/\(∀o0:Nat,o0<a0->True/\W.af o0=W.af o0))/\c0/\(∀q0:Nat,q0<b0->True/\W.kinds q0=W.kinds q0))/\d0=d0/\(∀r0:Nat,r0<d0->aF (W.aj r0) (W.aj r0)))/\e0=e0/\(∀u0:Nat,u0<e0->aG (W.tasks u0) (W.tasks u0)))/\g0=g0/\(∀v0:Nat,let w0:=W.aD v0;v0<g0->True/\w0=w0/\(∀x0:Nat,x0<w0->True/\W.lines v0 x0=W.lines v0 x0)))/\W.aI=W.aI/\(∀y0:Nat,y0<W.aI->True/\W.bits y0=W.bits y0))/\h0=h0/\(∀z0:Nat,z0<h0->True/\W.aM z0=W.aM z0))/\k0=k0/\(∀a1:Nat,let b1:=W.aL a1;a1<k0->True/\b1=b1/\(∀c1:Nat,c1<b1->True/\W.ready a1 c1=W.ready a1 c1)))/\W.aK=W.aK/\(∀d1:Nat,let e1:=W.aQ d1;d1<W.aK->True/\e1=e1/\(∀g1:Nat,g1<e1->aH (W.aB d1 g1) (W.aB d1 g1))))/\W.az=W.az/\(∀J:Nat,J<W.az->True/\W.aU J=W.aU J))/\W.time=W.time;let k1:=(b0:Int);let l1:=k1<=9223372036854775807;let o1:=0<=k1/\k1<=k1/\((8:Nat):Int)*k1<=140737488355328;let q1:=Int.toNat k1;let r1:=(q1:Int);let u1:=SV.ptr 0 0 none 0 0=SV.ptr 0 0 none 0 0;let v1:=q1=b0;let w1:=0=0/\v1;let x1:=0=0/\c0;let y1:=(d0:Int);let z1:=tn 6 True;let a2:=SV.ptr (0+1+1) 0 none 0 0=SV.ptr 2 0 none 0 0;let b2:=(0:Int)<16;let c2:=b0<=1000;let d2:=(a0:Int);let e2:=(e0:Int);let g2:=((5:Nat):Int);let U:=b0=ig W;True/\((l0/\True)/\True/\Ak.match_1 (λk2:vZ=>Prop) (vZ.mk W) (λl2:Wd=>Sm l2))/\((wE W !=0)=true->((True/\0=0/\0=ig W)/\(8:Int)≠0/\iQ W=8/\((-1):Int)=(-1))/\(0=ig W/\(∀o2:Nat,o2<ig W->True/\
    SV.aq=SV.v (Value.int IntKind.i64 (cU W o2))))/\True)/\((wE W !=0)=false->l1->o1/\(r1<=9223372036854775807->u1/\w1/\0=((0:Nat):Int)/\(l0/\(v1/\(∀q2:Nat,q2<b0->True/\0=cond (Nat.blt q2 0) (q2:Int) 0))/\True)/\0<=b0/\(∀r2:Nat,let u2:=(r2:Int);let v2:=decide (u2<r1);let w2:Int:=u2+1;r2<=b0->(v2=true->(0<=u2/\u2<k1)/\(∀x2:Nat,false=false)/\ak w2=w2/\(∃y2:Nat,u1/\x1/\w2=(y2:Int)/\(l0/\(c0/\(∀z2:Nat,z2<b0->True/\cond (Nat.beq z2 (0+Int.toNat u2)) u2 (cond (Nat.blt z2 r2) (z2:Int) 0)=cond (Nat.blt z2 y2) (z2:Int) 0))/\True)/\y2<=b0/\b0-y2<b0-r2))/\(v2=false->y1<=9223372036854775807->(∃a3:fu,u1/\x1/\0=((a3.i:Nat):Int)/\(l0/\(c0/\(∀b3:Nat,b3<b0->True/\cond (Nat.blt b3 r2) (b3:Int) 0=a3.u b3))/\True)/\(a3.i<=d0/\UF b0 a3.u (JA W a3.i 0))/\(∀c3:fu,let d3:=((c3.i:Nat):Int);let e3:=decide (d3<y1);let g3:=0<=d3;let h3:=W.aj (Int.toNat d3);let k3:=aF h3 h3/\True;let l3:=Int.toNat (W.aj c3.i).len;let o3:=h3.len;let q3:Int:=d3/16;let r3:=g3/\b2/\ak q3=q3;let u3:=h3.base;let v3:=q3=q3;let w3:=q3<k1;let x3:=h3.from_;let y3:=decide (0<=x3);let z3:Int:=x3/16;let a4:Int:=d3+1;let b4:=ak a4=a4;c3.i<=d0/\UF b0 c3.u (JA W c3.i 0)->(e3=true->(g3/\d3<y1)/\True/\z1/\(∃c4:fu,u1/\x1/\a2/\0=((c4.i:Nat):Int)/\(l0/\(c0/\(∀d4:Nat,d4<b0->True/\c3.u d4=c4.u d4))/\k3)/\(c4.i<=l3/\UF b0 c4.u (JA W c3.i c4.i))/\(∀e4:fu,let g4:=((e4.i:Nat):Int);let h4:=decide (g4<o3);let k4:Int:=u3+g4;let l4:=(c0/\(∀o4:Nat,o4<b0->True/\e4.u o4=e4.u o4))/\True;let q4:Int:=g4+1;e4.i<=l3/\UF b0 e4.u (JA W c3.i e4.i)->(h4=true->r3/\ak k4=k4/\((x1/\v3/\k4=k4/\True)/\l4/\(∀r4:Nat,r4<b0->0<=e4.u r4/\
    e4.u r4<=(r4:Int))/\w3/\k4<k1/\c2)/\ak q4=q4/\(∃u4:fu,u1/\x1/\a2/\q4=((u4.i:Nat):Int)/\(l0/\(c0/\(∀v4:Nat,v4<b0->True/\fX e4.u q3 k4 v4=u4.u v4))/\k3)/\(u4.i<=l3/\UF b0 u4.u (JA W c3.i u4.i))/\l3-u4.i<l3-e4.i))/\(h4=false->(y3=true->r3/\(0<=x3/\b2/\ak z3=z3)/\((x1/\v3/\z3=z3/\True)/\l4/\(∀w4:Nat,w4<b0->0<=e4.u w4/\e4.u w4<=(w4:Int))/\w3/\z3<k1/\c2)/\b4/\(∃x4:fu,u1/\x1/\a4=((x4.i:Nat):Int)/\(l0/\(c0/\(∀y4:Nat,y4<b0->True/\fX e4.u q3 z3 y4=x4.u y4))/\True)/\(x4.i<=d0/\UF b0 x4.u (JA W x4.i 0))/\d0-x4.i<d0-c3.i))/\(y3=false->b4/\(∃z4:fu,u1/\x1/\a4=((z4.i:Nat):Int)/\(l0/\(c0/\(∀a5:Nat,a5<b0->True/\e4.u a5=z4.u a5))/\True)/\(z4.i<=d0/\UF b0 z4.u (JA W z4.i 0))/\d0-z4.i<d0-c3.i))))))/\(e3=false->d2<=9223372036854775807->(∃b5:fu,u1/\x1/\0=((b5.i:Nat):Int)/\(l0/\(c0/\(∀c5:Nat,c5<b0->True/\c3.u c5=b5.u c5))/\True)/\(b5.i<=a0/\UF b0 b5.u (JB W b5.i))/\(∀d5:fu,let e5:=((d5.i:Nat):Int);let g5:=decide (e5<d2);let h5:=0<=e5;let k5:Int:=e5/16;let l5:=h5/\b2/\ak k5=k5;let o5:=k5<k1;let q5:=W.af (Int.toNat e5);let r5:=W.kinds (Int.toNat k5);let u5:=cond (q5 !=0) (cond (r5==3) true (r5==4)) false;let v5:=cT BinOp.and IntKind.i64 q5 1023;let w5:Int:=e5+1;let x5:=ak w5=w5;d5.i<=a0/\UF b0 d5.u (JB W d5.i)->(g5=true->(h5/\e5<d2)/\l5/\(0<=k5/\o5)/\(u5=true->l5/\((x1/\k5=k5/\v5=v5/\True)/\((c0/\(∀y5:Nat,y5<b0->True/\d5.u y5=d5.u y5))/\True)/\(∀z5:Nat,z5<b0->0<=d5.u z5/\d5.u z5<=(z5:Int))/\o5/\v5<k1/\c2)/\x5/\(∃a6:fu,u1/\x1/\w5=((a6.i:Nat):Int)/\(l0/\(c0/\(∀b6:Nat,b6<b0->True/\fX d5.u k5 v5 b6=a6.u b6))/\True)/\(a6.i<=a0/\UF b0 a6.u (JB W a6.i))/\a0-a6.i<a0-d5.i))/\(u5=false->x5/\(∃c6:fu,u1/\x1/\
    w5=((c6.i:Nat):Int)/\(l0/\(c0/\(∀d6:Nat,d6<b0->True/\d5.u d6=c6.u d6))/\True)/\(c6.i<=a0/\UF b0 c6.u (JB W c6.i))/\a0-c6.i<a0-d5.i)))/\(g5=false->e2<=9223372036854775807->(∃e6:fu,u1/\x1/\0=((e6.i:Nat):Int)/\(l0/\(c0/\(∀g6:Nat,g6<b0->True/\d5.u g6=e6.u g6))/\True)/\(e6.i<=e0/\UF b0 e6.u (JC W e6.i 0))/\(∀h6:fu,let k6:=((h6.i:Nat):Int);let l6:=decide (k6<e2);let o6:=W.tasks (Int.toNat k6);let q6:=[o6.node,o6.space,o6.helper,o6.loc,o6.bK];let r6:=(5=5/\(∀u6:Nat,u6<5->True/\List.getD q6 u6 0=List.getD q6 u6 0))/\True;let v6:Int:=k6+1;let w6:=c0/\(∀x6:Nat,x6<b0->True/\h6.u x6=h6.u x6);h6.i<=e0/\UF b0 h6.u (JC W h6.i 0)->(l6=true->(0<=k6/\k6<e2)/\True/\tn 13 z1/\True/\(g2<=9223372036854775807->(∃y6:fu,u1/\x1/\(0=0/\5=5)/\0=((y6.i:Nat):Int)/\(l0/\(c0/\(∀z6:Nat,z6<b0->True/\h6.u z6=y6.u z6))/\r6)/\(y6.i<=5/\UF b0 y6.u (JC W h6.i y6.i))/\(∀a7:fu,let b7:=((a7.i:Nat):Int);let c7:=decide (b7<g2);let d7:=List.getD q6 (0+Int.toNat b7) 0;let e7:Int:=b7+1;a7.i<=5/\UF b0 a7.u (JC W h6.i a7.i)->(c7=true->(0<=b7/\b7<g2)/\((x1/\k6=k6/\d7=d7/\True)/\((c0/\(∀g7:Nat,g7<b0->True/\a7.u g7=a7.u g7))/\True)/\(∀h7:Nat,h7<b0->0<=a7.u h7/\a7.u h7<=(h7:Int))/\k6<k1/\d7<k1/\c2)/\ak e7=e7/\(∃k7:fu,u1/\x1/\(0=0/\5=5)/\e7=((k7.i:Nat):Int)/\(l0/\(c0/\(∀l7:Nat,l7<b0->True/\fX a7.u k6 d7 l7=k7.u l7))/\r6)/\(k7.i<=5/\UF b0 k7.u (JC W h6.i k7.i))/\5-k7.i<5-a7.i))/\(c7=false->ak v6=v6/\(∃o7:fu,u1/\x1/\v6=((o7.i:Nat):Int)/\(l0/\(c0/\(∀q7:Nat,q7<b0->True/\a7.u q7=o7.u q7))/\True)/\(o7.i<=e0/\UF b0 o7.u (JC W o7.i 0))/\e0-o7.i<e0-h6.i))))))/\(l6=false->l1->o1/\(l1->x1/\w1/\0=((0:Nat):Int)/\(w6/\(v1/\(∀r7:Nat,r7<b0->True/\
    0=cond (Nat.blt r7 0) (cU W r7) 0))/\True)/\0<=b0/\(∀u7:Nat,let v7:=(u7:Int);let w7:=decide (v7<k1);let x7:=0<=v7/\v7<k1;let y7:Int:=v7+1;u7<=b0->(w7=true->(((c0/\(∀z7:Nat,z7<b0->True/\h6.u (0+z7)=h6.u (0+z7)))/\v7=v7/\True)/\True/\(∀a8:Nat,a8<b0->0<=h6.u (0+a8)/\h6.u (0+a8)<=(a8:Int))/\x7/\c2)/\x7/\(∀b8:Nat,false=false)/\ak y7=y7/\(∃c8:Nat,x1/\x1/\y7=(c8:Int)/\(w6/\(c0/\(∀d8:Nat,d8<b0->True/\cond (Nat.beq d8 (0+Int.toNat v7)) ((rt (λe8:Nat=>h6.u (0+e8)) (Int.toNat v7):Nat):Int) (cond (Nat.blt d8 u7) (cU W d8) 0)=cond (Nat.blt d8 c8) (cU W d8) 0))/\True)/\c8<=b0/\b0-c8<b0-u7))/\(w7=false->((True/\0=0/\U)/\iQ W=0/\((-1):Int)=(-1))/\(U/\(∀g8:Nat,g8<ig W->True/\cond (Nat.blt g8 u7) (cU W g8) 0=cU W g8))/\True))))))))))))))))
set_option maxHeartbeats 2000000 in
theorem Iy:aW Tryz.prog bf 7 Se:=bd (.cons M7 (.cons FX (.cons N4 .nil))) false Tryz.call7 Tryz.func7 (λ⟨W⟩=> [.inv (R8 W.ae),.jH (R9 W) λs=> [.jH (R_ W s.i) λ_=> []],.kJ 0,.jH (Sa W) λ_=> [],.jH (Sb W) λs=> [.jH (Sc W s.i) λ_=> []],.kJ 0,.inv (Sd W)]) (V:=JV) (λ_=>by kernel_rfl) λ⟨W⟩ hp=>by
  dsimp only[xB]at hp
  dsimp only[JV,tn,ak,bx,aG,aF,aH]
  simp only[bn,bG,eq_self,implies_true,Bool.cond_self]
  try simp only[lJ]
  refine⟨hp,λh=>?_,λh _=>?_⟩
  · have e:iQ W=8:=by unfold iQ;rw[j9 (b:=wE W==0) h];rfl
    have eN:ig W=0:=by unfold ig;rw[j9 (b:=wE W==0) h];rfl
    rw[e,eN]
    exact⟨⟨rfl,by decide,rfl⟩,rfl,λ_ h=>absurd h (Nat.not_lt_zero _)⟩
  have h0:=eJ (b:=wE W==0) h
  have hw:=jo.iff.1 (eq_of_beq h0)
  have hI:=xd hw hp
  have e:iQ W=0:=by unfold iQ;rw[h0];rfl
  have eN:ig W=W.ae:=by unfold ig;rw[h0];rfl
  have z1:=hI.z.k1
  have z2:=hI.z.aj
  have z3:=hI.z.af
  have z4:=hI.z.tasks
  rw[e,eN]
  refine⟨⟨by omega,by omega⟩,λ_=>⟨λi _=>by rw[dy (Nat.zero_le _)];rfl,λi hi=>⟨λJ=>?_,λJ _=>?_⟩⟩⟩
  · have ai:=br J
    refine⟨by omega,bQ (by omega) (by omega),i+1,by omega,λj _=>?_,by omega,by omega⟩
    rcases Nat.lt_trichotomy j i with q|q|q
    · rw[gg (by omega),da q,da (by omega:j<i+1)];rfl
    · subst q;rw[Nat.beq_refl,da (Nat.lt_succ_self _)];rfl
    · rw[gg (by omega),dy (by omega),dy (by omega:i+1<=j)];rfl
  obtain rfl:i=W.ae:=by have:=bJ J;omega
  refine⟨⟨0,λf=>f⟩,rfl,λk hk=>by rw[da hk];rfl,⟨Nat.zero_le _,TC⟩,λs hs=>⟨λU=>?_,λU _=>?_⟩⟩
  · have ai:=br U
    have me:s.i/16<W.ae:=by omega
    have DK:=hI.sl s.i ai
    have UK:=kC DK.1
    refine⟨by omega,⟨0,s.u⟩,rfl,λ_ _=>rfl,⟨Nat.zero_le _,hs.2⟩,λb hb=>⟨λh3=>?_,λh3=>?_⟩⟩
    · have h3:=of_decide_eq_true h3
      have bo:=B0 hI ai (show b.i<(W.aj s.i).len.toNat by omega)
      refine⟨⟨by decide,bQ (by omega) (by omega)⟩,bQ (by omega) (by omega),⟨hb.2.o,by omega,by omega,by omega⟩,bQ (by omega) (by omega),⟨b.i+1,fX b.u ((s.i:Int)/16) ((W.aj s.i).base+b.i)⟩,by show(b.i:Int)+1=((b.i+1:Nat):Int);omega,λ_ _=>rfl,⟨by show b.i+1<=_;omega,?_⟩,by show _ -(b.i+1)<_;omega⟩
      show UF _ (fX _ _ _) _
      rw[Bu (A:=s.i/16) (B:=(W.aj s.i).base.toNat+b.i) (by omega) (by omega)]
      exact Sf hb.2 me bo
    · have h3:=of_decide_eq_false h3
      have DL:b.i=(W.aj s.i).len.toNat:=by have:=hb.1;omega
      have eE:=hb.2
      rw[DL]at eE
      refine⟨λh4=>?_,λh4=>?_⟩
      · have h4:=of_decide_eq_true h4
        have hf:=B1 hI ai h4
        refine⟨⟨by decide,bQ (by omega) (by omega)⟩,⟨h4,by decide,bQ (by omega) (by omega)⟩,⟨hb.2.o,by omega,by omega,by omega⟩,bQ (by omega) (by omega),⟨s.i+1,fX b.u ((s.i:Int)/16) ((W.aj s.i).from_/16)⟩,by show(s.i:Int)+1=((s.i+1:Nat):Int);omega,λ_ _=>rfl,⟨by show s.i+1<=_;omega,?_⟩,by show _ -(s.i+1)<_;omega⟩
        show UF _ (fX _ _ _) _
        rw[Bu (A:=s.i/16) (B:=(W.aj s.i).from_.toNat/16) (by omega) (by omega)]
        exact Sg eE h4 me hf
      · have h4:=Int.not_le.1 (of_decide_eq_false h4)
        exact⟨bQ (by omega) (by omega),⟨s.i+1,b.u⟩,by show(s.i:Int)+1=((s.i+1:Nat):Int);omega,λ_ _=>rfl,⟨by show s.i+1<=_;omega,Sh eE h4⟩,by show _ -(s.i+1)<_;omega⟩
  have DM:s.i=W.av:=by have:=bJ U;have:=hs.1;omega
  have cY:=hs.2
  rw[DM]at cY
  refine⟨⟨0,s.u⟩,rfl,λ_ _=>rfl,⟨Nat.zero_le _,TD cY⟩,λc hc=>⟨λh3=>?_,λh3 _=>?_⟩⟩
  · have ai:=br h3
    have me:c.i/16<W.ae:=by omega
    have lC:((c.i:Int)/16).toNat=c.i/16:=by omega
    have hm:cT BinOp.and IntKind.i64 (W.af c.i) 1023=W.af c.i%1024:=xe 10 (by omega) rfl
    rw[lC,hm]
    have yD:0<=W.af c.i%1024:=Int.emod_nonneg _ (by decide)
    refine⟨by omega,⟨by decide,bQ (by omega) (by omega)⟩,⟨by omega,by omega⟩,λh4=>?_,λh4=>?_⟩
    · have bo:=B2 hw ai h4
      refine⟨⟨by decide,bQ (by omega) (by omega)⟩,⟨hc.2.o,by omega,by omega,by omega⟩,bQ (by omega) (by omega),⟨c.i+1,fX c.u ((c.i:Int)/16) (W.af c.i%1024)⟩,by show(c.i:Int)+1=((c.i+1:Nat):Int);omega,λ_ _=>rfl,⟨by show c.i+1<=_;omega,?_⟩,by show _ -(c.i+1)<_;omega⟩
      show UF _ (fX _ _ _) _
      rw[Bu (A:=c.i/16) (B:=(W.af c.i%1024).toNat) (by omega) (by omega)]
      exact QE hc.2 h4 me bo
    · exact⟨bQ (by omega) (by omega),⟨c.i+1,c.u⟩,by show(c.i:Int)+1=((c.i+1:Nat):Int);omega,λ_ _=>rfl,⟨by show c.i+1<=_;omega,Si hc.2 h4⟩,by show _ -(c.i+1)<_;omega⟩
  have DN:c.i=W.ar:=by have:=bJ h3;have:=hc.1;omega
  have oh:=hc.2
  rw[DN]at oh
  refine⟨⟨0,c.u⟩,rfl,λ_ _=>rfl,⟨Nat.zero_le _,TE oh⟩,λk hk=>⟨λh4=>?_,λh4=>?_⟩⟩
  · have ai:=br h4
    refine⟨by omega,λ_=>⟨⟨0,k.u⟩,rfl,λ_ _=>rfl,⟨Nat.zero_le _,hk.2⟩,λq hq=>⟨λh5=>?_,λh5=>?_⟩⟩⟩
    · have UL:=br h5
      have hl:=JW hI ai q.i
      have el:([(W.tasks k.i).node,(W.tasks k.i).space,(W.tasks k.i).helper,(W.tasks k.i).loc,(W.tasks k.i).bK]:List Int).getD q.i 0=lk (W.tasks k.i) q.i:=Sj _ UL
      rw[el]
      exact⟨by omega,⟨hq.2.o,by omega,by omega,by omega⟩,bQ (by omega) (by omega),⟨q.i+1,fX q.u k.i (lk (W.tasks k.i) q.i)⟩,by show(q.i:Int)+1=((q.i+1:Nat):Int);omega,λ_ _=>rfl,⟨by show q.i+1<=_;omega,Pu hq.2 (by omega) hl.2⟩,by show _ -(q.i+1)<_;omega⟩
    · have UM:q.i=5:=by have:=of_decide_eq_false h5;have:=hq.1;omega
      have Lk:=hq.2
      rw[UM]at Lk
      exact⟨bQ (by omega) (by omega),⟨k.i+1,q.u⟩,by show(k.i:Int)+1=((k.i+1:Nat):Int);omega,λ_ _=>rfl,⟨by show k.i+1<=_;omega,Sk Lk⟩,by show _ -(k.i+1)<_;omega⟩
  have jj:k.i=W.aV:=by have:=bJ h4;have:=hk.1;omega
  have iR:=hk.2
  rw[jj]at iR
  have key: ∀f,f<W.ae->((rt k.u f:Nat):Int)=cU W f:=λf hf=>by unfold cU mc;rw[Sl iR hf]
  refineλ_=>⟨⟨by omega,by omega⟩,λ_=>⟨λr _=>by rw[dy (Nat.zero_le _)];rfl,λv hv=>⟨λh5=>?_,λh5=>⟨⟨rfl,rfl⟩,rfl,λg hg=>?_⟩⟩⟩⟩
  · have DO:=br h5
    refine⟨⟨iR.o,by omega,by omega⟩,by omega,bQ (by omega) (by omega),v+1,by omega,λj hj=>?_,by omega,by omega⟩
    rcases Nat.lt_trichotomy j v with q|q|q
    · rw[gg (by omega),da q,da (by omega:j<v+1)];rfl
    · subst q;rw[Nat.beq_refl,da (Nat.lt_succ_self _)];exact key j hj
    · rw[gg (by omega),dy (by omega),dy (by omega:v+1<=j)];rfl
  · have DO:=bJ h5
    rw[da (by omega)];rfl
end Go.Proofs.YtbngaammbjaajaaGreatDoor
set_option linter.unusedVariables false
set_option linter.unusedSimpArgs false
set_option maxRecDepth 100000
namespace Go.Proofs.YtbngaammbjaajaaGreatDoor
open Go.RowKit Go.Sy
def kN (q:Nat->Bool):Nat->Nat
  |0=>0
  |i+1=>bif q i then kN q i+1 else kN q i
def kX (q:Nat->Bool):Nat->Nat->Nat
  |0,_=>0
  |i+1,a=>bif q i&&Nat.beq a (kN q i)then i else kX q i a
def aJ (of:Nat->Int) (p:Int) (j:Nat):Bool:=of j==p
def cN (W:Wd) (of:Nat->Int) (p:Int) (t k:Nat):Bool:=of (W.ready t k).toNat==p
def gK (W:Wd) (of:Nat->Int) (p:Int) (c:Nat):Int:=bif decide (0<=W.aM c)&&!(of (W.aM c).toNat==p)then -1 else W.aM c
structure ID where
  (f:Int) (n:Nat) (of:Nat->Int) (p:Int)
def IE:Sy.Spec:=⟨ID,λ⟨f,n,of,p⟩=> [.v (.int .i64 f),.pt true 1 (λ_=> .sl true 1 n (iF of)),.pt true 1 (λ_=> .v (.int .i64 p))],λ_=> [],λ⟨f,n,_,_⟩=>0<=f/\f<n,λ⟨f,_,of,p⟩=> .v (.bool (of f.toNat==p)),λ_=> [],
  λargs mem=>match args with| [a0,a1,a2]=>some ⟨ao (a0),bN (bp a1 0),λi=>ao (bD (bp a1 0) i 0),ao (bp a2 0)⟩|_=>none⟩
def QD:aX:=⟨[],(IE).g,none⟩
def IF:ID->Prop:=λ⟨f,n,of,p⟩=>let a0:=of (Int.toNat f)==p;tn 2 ((0<=f/\f<(n:Int))/\tn 2 (a0=a0/\True))
theorem Pt:aW Tryz.prog bf 20 QD:=bd .nil false Tryz.call20 Tryz.func20 (λ_=> []) (V:=IF) (λ_=>by kernel_rfl) λ⟨f,n,of,p⟩ hp=>by
  dsimp only[IE]at hp
  dsimp only[IF,tn,ak,bx,aG,aF,aH]
  simp only[bn,bG,eq_self,implies_true,Bool.cond_self]
  try simp only[lJ]
  exact hp
structure vY where
  (n:Nat) (l:Nat->Int)
def Aj:Sy.Spec:=⟨vY,λ⟨n,l⟩=> [.sl true 1 n (λi_ _=> .v (.int .i64 (l i_)))],λ_=> [],λ⟨n,_⟩=>n<=100000,λ⟨n,l⟩=> .sl false 1 n (iF l),λ_=> [],
  λargs mem=>match args with| [a0]=>some ⟨bN a0,λi=>ao (bD a0 i 0)⟩|_=>none⟩
def N3:aX:=⟨[],(Aj).g,none⟩
def FW:vY->Prop:=λ⟨n,l⟩=> ∀a0:Bool,(a0=true->n=0)->(a0=true->n=0/\True)/\(a0=false->True/\(n*8<=140737488355328/\(∀b0:Nat,true=true))/\(n=n/\(∀c0:Nat,c0<n->True/\l (0+c0)=l c0))/\True)
theorem M6:aW Tryz.prog bf 31 N3:=bd .nil false Tryz.call31 Tryz.func31 (λ_=> []) (V:=FW) (λ_=>by kernel_rfl) λ⟨n,l⟩ hp=>by
  dsimp only[Aj]at hp
  dsimp only[FW,tn,ak,bx,aG,aF,aH]
  simp only[bn,eq_self,implies_true,Bool.cond_self]
  intro b hb
  refine⟨λh=>?_,λ_=>?_⟩
  · have:=hb h
    subst this
    rfl
  · omega
end Go.Proofs.YtbngaammbjaajaaGreatDoor
set_option linter.unusedVariables false
set_option linter.unusedSimpArgs false
set_option maxRecDepth 100000
namespace Go.Proofs.YtbngaammbjaajaaGreatDoor
open Go.RowKit Go.Sy
theorem mM {q:Nat->Bool} {i:Nat} (h:q i=true):kN q (i+1)=kN q i+1:=by rw[kN,h];rfl
theorem qJ {q:Nat->Bool} {i:Nat} (h:q i=false):kN q (i+1)=kN q i:=by rw[kN,h];rfl
theorem Br {q:Nat->Bool} {i a:Nat} (h:q i=false):kX q (i+1) a=kX q i a:=by rw[kX,h];rfl
theorem mC {q:Nat->Bool} {i a:Nat} (h:a<kN q i):kX q (i+1) a=kX q i a:=by
  rw[kX,gg (by omega)];cases q i<;>rfl
theorem mD {q:Nat->Bool} {i:Nat} (h:q i=true):kX q (i+1) (kN q i)=i:=by rw[kX,h,Nat.beq_refl];rfl
theorem qT (q:Nat->Bool): ∀i,kN q i<=i
  |0=>Nat.le_refl _
  |i+1=>by have:=qT q i;simp only[kN];cases q i<;>simp<;>omega
theorem mL:(∀x,aF x x=True)/\(∀x,aG x x=True)/\(∀x,aH x x=True):=
  ⟨λ_=>eq_true (by unfold aF;simp),λ_=>eq_true (by unfold aG;simp),λ_=>eq_true (by unfold aH;simp)⟩
theorem IB {x y:fM} (h:x=y):aF x y:=by subst h;exact of_eq_true (mL.1 _)
theorem IC {x y:dN} (h:x=y):aG x y:=by subst h;exact of_eq_true (mL.2.1 _)
def R4 (W:Wd) (of:Nat->Int) (p:Int):bH where
  σ:=Nat
  rt:= [(2,0),(4,0),(5,0)]
  sh i:= [(2,bk 0),(4,bk 1),(5,bk 2),(18,.v (.int .i64 i))]
  mh i:= [(2,.cells [.aw 3 0 none 0 (16*(kN (aJ of p) i)),.aw 4 0 none 0 (16*(kN (aJ of p) i)),.aw 5 0 none 0 (kN (aJ of p) i),.aw 6 0 none 0 (kN (aJ of p) i),.aw 7 0 none 0 (kN (aJ of p) i),.aw 8 0 none 0 (kN (aJ of p) i),.aw 9 0 none 0 0,.aw 10 0 none 0 0]),(3,.row 1 (16*(kN (aJ of p) i)) (iF λq=>W.af (kX (aJ of p) i (q/16)*16+q%16))),(4,.row 7 (16*(kN (aJ of p) i)) (rF λq=>lW (W.aj (kX (aJ of p) i (q/16)*16+q%16)))),(5,.row 20 (kN (aJ of p) i) (rF λq=>jf (W.tasks (kX (aJ of p) i q)))),(6,.row 1 (kN (aJ of p) i) (iF λq=>W.kinds (kX (aJ of p) i q))),(7,.row 1 (kN (aJ of p) i) (λq _=> .sl false 1 (W.aD (kX (aJ of p) i q)) (iF (W.lines (kX (aJ of p) i q))))),(8,.row 1 (kN (aJ of p) i) (iF λq=>W.bits (kX (aJ of p) i q)))]
  inv i:=i<=W.ae
  μ i:=W.ae -i
  init:=0
  nc:= [(5,0,1),(5,1,7),(5,2,20),(5,3,1),(5,4,1),(5,5,1),(5,6,1),(5,7,1)]
def R5 (W:Wd) (of:Nat->Int) (p:Int):bH where
  σ:=Nat
  rt:= [(2,0),(4,0),(5,0)]
  sh i:= [(2,bk 0),(4,bk 1),(5,bk 2),(92,.v (.int .i64 i))]
  mh i:= [(2,.cells [.aw 3 0 none 0 (16*(kN (aJ of p) W.ae)),.aw 4 0 none 0 (16*(kN (aJ of p) W.ae)),.aw 5 0 none 0 (kN (aJ of p) W.ae),.aw 6 0 none 0 (kN (aJ of p) W.ae),.aw 7 0 none 0 (kN (aJ of p) W.ae),.aw 8 0 none 0 (kN (aJ of p) W.ae),.aw 9 0 none 0 i,.aw 10 0 none 0 0]),(9,.row 1 i (λq _=> .sl false 1 (kN (cN W of p q) (W.aL q)) (iF λa=>W.ready q (kX (cN W of p q) (W.aL q) a))))]
  inv i:=i<=W.aY
  μ i:=W.aY -i
  init:=0
def R6 (W:Wd) (of:Nat->Int) (p:Int) (t:Nat):bH where
  σ:=Nat
  rt:= [(2,0),(4,0),(5,0),(10,1)]
  sh k:= [(2,bk 0),(4,bk 1),(5,bk 2),(10,.aw 11 0 none 0 (kN (cN W of p t) k)),(98,.v (.int .i64 k))]
  mh k:= [(11,.row 1 (kN (cN W of p t) k) (iF λa=>W.ready t (kX (cN W of p t) k a)))]
  inv k:=k<=W.aL t
  μ k:=W.aL t -k
  init:=0
def R7 (W:Wd) (of:Nat->Int) (p:Int):bH where
  σ:=Nat
  rt:= [(2,0),(4,0),(5,0)]
  sh i:= [(2,bk 0),(4,bk 1),(5,bk 2),(120,.v (.int .i64 i))]
  mh i:= [(2,.cells [.aw 3 0 none 0 (16*(kN (aJ of p) W.ae)),.aw 4 0 none 0 (16*(kN (aJ of p) W.ae)),.aw 5 0 none 0 (kN (aJ of p) W.ae),.aw 6 0 none 0 (kN (aJ of p) W.ae),.aw 7 0 none 0 (kN (aJ of p) W.ae),.aw 8 0 none 0 (kN (aJ of p) W.ae),.aw 9 0 none 0 W.aY,.aw 10 0 none 0 i]),(10,.row 1 i (iF (gK W of p)))]
  inv i:=i<=W.aE
  μ i:=W.aE -i
  init:=0
structure Hl where
  (W:Wd) (n:Nat) (of:Nat->Int) (p:Int)
def Hm:Sy.Spec:=⟨Hl,λ⟨W,n,of,p⟩=> [gq W,.fn 20 2 (aA [.pt true 1 (λ_=> .sl true 1 n (iF of)),.pt true 1 (λ_=> .v (.int .i64 p))])],λ_=> [],λ⟨W,n,_,_⟩=>Sm W/\jo W/\n=W.ae,λ⟨W,_,of,p⟩=> .ag 8 (aA [.aw 0 0 none 0 (16*(kN (aJ of p) W.ae)),.aw 1 0 none 0 (16*(kN (aJ of p) W.ae)),.aw 2 0 none 0 (kN (aJ of p) W.ae),.aw 3 0 none 0 (kN (aJ of p) W.ae),.aw 4 0 none 0 (kN (aJ of p) W.ae),.aw 5 0 none 0 (kN (aJ of p) W.ae),.aw 6 0 none 0 W.aY,.aw 7 0 none 0 W.aE]),λ⟨W,_,of,p⟩=> [.row 1 (16*(kN (aJ of p) W.ae)) (iF λq=>W.af (kX (aJ of p) W.ae (q/16)*16+q%16)),.row 7 (16*(kN (aJ of p) W.ae)) (rF λq=>lW (W.aj (kX (aJ of p) W.ae (q/16)*16+q%16))),.row 20 (kN (aJ of p) W.ae) (rF λq=>jf (W.tasks (kX (aJ of p) W.ae q))),.row 1 (kN (aJ of p) W.ae) (iF λq=>W.kinds (kX (aJ of p) W.ae q)),.row 1 (kN (aJ of p) W.ae) (λq _=> .sl false 1 (W.aD (kX (aJ of p) W.ae q)) (iF (W.lines (kX (aJ of p) W.ae q)))),.row 1 (kN (aJ of p) W.ae) (iF λq=>W.bits (kX (aJ of p) W.ae q)),.row 1 W.aY (λq _=> .sl false 1 (kN (cN W of p q) (W.aL q)) (iF λa=>W.ready q (kX (cN W of p q) (W.aL q) a))),.row 1 W.aE (iF (gK W of p))],
  λargs mem=>match args with| [a0,a1]=>(match jG 20 a1 with|true=>some ⟨gf a0,bN (bp (dA a1 0) 0),λi=>ao (bD (bp (dA a1 0) 0) i 0),ao (bp (dA a1 1) 0)⟩|false=>none)|_=>none⟩
def Ps:aX:=⟨[],(Hm).g,none⟩
def Hn:Hl->Prop:=λ⟨W,n,of,p⟩=>let a0:=W.ae;let b0:=(a0:Int);let c0:=SV.ptr 0 0 none 0 0;let d0:=c0=c0;let e0:=SV.ptr 1 0 none 0 0;let g0:=e0=e0;let h0:=SV.ptr 2 0 none 0 0;let k0:=h0=h0;let l0:=0=((0:Nat):Int);let o0:=W.ar;let q0:=W.av;let u0:=W.aV;let v0:=W.bz;let w0:=W.aI;let x0:=W.aE;let y0:=W.aY;let z0:=y0=y0;let a1:=((((((((((True/\o0=o0/\(∀b1:Nat,b1<o0->True/\W.af b1=W.af b1))/\a0=a0/\(∀c1:Nat,c1<a0->True/\W.kinds c1=W.kinds c1))/\q0=q0/\(∀d1:Nat,d1<q0->aF (W.aj d1) (W.aj d1)))/\u0=u0/\(∀e1:Nat,e1<u0->aG (W.tasks e1) (W.tasks e1)))/\v0=v0/\(∀g1:Nat,let J:=W.aD g1;g1<v0->True/\J=J/\(∀k1:Nat,k1<J->True/\W.lines g1 k1=W.lines g1 k1)))/\w0=w0/\(∀l1:Nat,l1<w0->True/\W.bits l1=W.bits l1))/\x0=x0/\(∀o1:Nat,o1<x0->True/\W.aM o1=W.aM o1))/\z0/\(∀q1:Nat,let u1:=W.aL q1;q1<y0->True/\u1=u1/\(∀v1:Nat,v1<u1->True/\W.ready q1 v1=W.ready q1 v1)))/\W.aK=W.aK/\(∀w1:Nat,let x1:=W.aQ w1;w1<W.aK->True/\x1=x1/\(∀y1:Nat,y1<x1->aH (W.aB w1 y1) (W.aB w1 y1))))/\W.az=W.az/\(∀z1:Nat,z1<W.az->True/\W.aU z1=W.aU z1))/\W.time=W.time;let a2:=Value.slice none 0 0=Value.slice none 0 0;let b2:=(((((((True/\a2)/\a2)/\a2)/\a2)/\a2)/\a2)/\a2)/\a2;let c2:=0=0;let d2:=aJ of p;let e2:=kN d2 0;let g2:=16*e2;let U:=0=g2;let k2:=c2/\U;let l2:=0=e2;let o2:=c2/\l2;let q2:=c2/\(∀u2:Nat,u2<0->True/\True);let v2:=q2/\True;let w2:=q2/\v2;let x2:=(True/\n=n/\(∀y2:Nat,y2<n->True/\of y2=of y2))/\(True/\p=p)/\True;let z2:=0=0;let a3:=z2/\z2;let b3:=true=true;let c3:=(y0:Int);let d3:=kN d2 a0;let e3:=16*d3;let g3:=0=0;let h3:=e3=e3;
    let k3:=g3/\h3;let l3:=d3=d3;let o3:=g3/\l3;let q3:=(((((True/\k3)/\k3)/\o3)/\o3)/\o3)/\o3;let u3:=g3/\g3;let v3:=z2/\h3;let w3:=z2/\l3;let x3:=(((((True/\v3)/\v3)/\w3)/\w3)/\w3)/\w3;let y3:=(x0:Int);let z3:=x3/\z2/\z0;tn 3 (b0<=9223372036854775807->d0/\g0/\k0/\l0/\(a1/\b2/\((((((((True/\k2)/\k2)/\o2)/\o2)/\o2)/\o2)/\c2/\c2)/\c2/\c2)/\(U/\(∀a4:Nat,a4<g2->True/\SV.aq=SV.v (Value.int IntKind.i64 (W.af (kX d2 0 (a4/16)*16+a4%16)))))/\(U/\(∀b4:Nat,let c4:=W.aj (kX d2 0 (b4/16)*16+b4%16);b4<g2->((((((True/\SV.aq=SV.v (Value.int IntKind.i64 c4.kind))/\SV.aq=SV.v (Value.int IntKind.i64 c4.base))/\SV.aq=SV.v (Value.int IntKind.i64 c4.len))/\SV.aq=SV.v (Value.int IntKind.i64 c4.mark))/\SV.aq=SV.v (Value.int IntKind.i64 c4.dx))/\SV.aq=SV.v (Value.int IntKind.i64 c4.bS))/\SV.aq=SV.v (Value.int IntKind.i64 c4.from_)))/\(l2/\(∀d4:Nat,let e4:=W.tasks (kX d2 0 d4);d4<e2->(((((((((((((((((((True/\SV.aq=SV.v (Value.int IntKind.i64 e4.r0))/\SV.aq=SV.v (Value.int IntKind.i64 e4.r1))/\SV.aq=SV.v (Value.int IntKind.i64 e4.r2))/\SV.aq=SV.v (Value.int IntKind.i64 e4.r3))/\SV.aq=SV.v (Value.int IntKind.i64 e4.r4))/\SV.aq=SV.v (Value.int IntKind.i64 e4.r5))/\SV.aq=SV.v (Value.int IntKind.i64 e4.r6))/\SV.aq=SV.v (Value.int IntKind.i64 e4.r7))/\SV.aq=SV.v (Value.int IntKind.i64 e4.pc))/\SV.aq=SV.v (Value.int IntKind.i64 e4.st))/\SV.aq=SV.v (Value.int IntKind.i64 e4.prio))/\SV.aq=SV.v (Value.int IntKind.i64 e4.node))/\SV.aq=SV.v (Value.int IntKind.i64 e4.space))/\SV.aq=SV.v (Value.int IntKind.i64 e4.helper))/\
    SV.aq=SV.v (Value.int IntKind.i64 e4.loc))/\SV.aq=SV.v (Value.int IntKind.i64 e4.word))/\SV.aq=SV.v (Value.int IntKind.i64 e4.bS))/\SV.aq=SV.v (Value.int IntKind.i64 e4.bK))/\SV.aq=SV.v (Value.int IntKind.i64 e4.core))/\SV.aq=SV.v (Value.int IntKind.i64 e4.gr)))/\(l2/\(∀g4:Nat,g4<e2->True/\SV.aq=SV.v (Value.int IntKind.i64 (W.kinds (kX d2 0 g4)))))/\(l2/\(∀h4:Nat,h4<e2->True/\SV.aq=SV.sl false 1 (W.aD (kX d2 0 h4)) (iF (W.lines (kX d2 0 h4)))))/\(l2/\(∀k4:Nat,k4<e2->True/\SV.aq=SV.v (Value.int IntKind.i64 (W.bits (kX d2 0 k4)))))/\w2)/\0<=a0/\(∀l4:Nat,let o4:=(l4:Int);let q4:=decide (o4<b0);let u4:=0<=o4;let v4:=Int.toNat o4;let w4:=!of v4==p;let x4:Int:=o4+1;let y4:=ak x4=x4;let z4:=kN d2 l4;let a5:=16*z4;let b5:Int:=o4*16;let c5:=ak b5=b5;let d5:Int:=x4*16;let e5:=ak d5=d5;let g5:=0<=b5;let h5:=b5<=d5;let k5:=Int.toNat b5;let l5:=a5+(Int.toNat d5-k5);let o5:=z4+1;let q5:=z4+1;let u5:=W.aD v4;let v5:=W.tasks v4;let w5:=a5=e3;let x5:=z2/\w5;let y5:=z4=d3;let z5:=z2/\y5;let a6:=a5=a5;let b6:=a6/\(∀c6:Nat,let d6:=W.af (kX d2 l4 (c6/16)*16+c6%16);c6<a5->True/\d6=d6);let e6:=a6/\(∀g6:Nat,let h6:=W.aj (kX d2 l4 (g6/16)*16+g6%16);g6<a5->aF h6 h6);let k6:=z4=z4;let l6:=k6/\(∀o6:Nat,let q6:=W.tasks (kX d2 l4 o6);o6<z4->aG q6 q6);let u6:=k6/\(∀v6:Nat,let w6:=W.kinds (kX d2 l4 v6);v6<z4->True/\w6=w6);let x6:=k6/\(∀y6:Nat,let z6:=kX d2 l4 y6;let a7:=W.aD z6;y6<z4->True/\a7=a7/\(∀b7:Nat,b7<a7->True/\W.lines z6 b7=W.lines z6 b7));
    let c7:=k6/\(∀d7:Nat,let e7:=W.bits (kX d2 l4 d7);d7<z4->True/\e7=e7);l4<=a0->(q4=true->(u4/\o4<b0)/\((o4=o4/\x2)/\True/\u4/\o4<(n:Int))/\(w4=true->y4/\(∃g7:Nat,let h7:=kN d2 g7;let k7:=16*h7;let l7:=a5=k7;let o7:=z2/\l7;let q7:=z4=h7;let u7:=z2/\q7;d0/\g0/\k0/\x4=(g7:Int)/\(a1/\b2/\((((((((True/\o7)/\o7)/\u7)/\u7)/\u7)/\u7)/\a3)/\a3)/\(l7/\(∀v7:Nat,v7<k7->True/\W.af (kX d2 l4 (v7/16)*16+v7%16)=W.af (kX d2 g7 (v7/16)*16+v7%16)))/\(l7/\(∀w7:Nat,w7<k7->aF (W.aj (kX d2 l4 (w7/16)*16+w7%16)) (W.aj (kX d2 g7 (w7/16)*16+w7%16))))/\(q7/\(∀x7:Nat,x7<h7->aG (W.tasks (kX d2 l4 x7)) (W.tasks (kX d2 g7 x7))))/\(q7/\(∀y7:Nat,y7<h7->True/\W.kinds (kX d2 l4 y7)=W.kinds (kX d2 g7 y7)))/\(q7/\(∀z7:Nat,let a8:=W.aD (kX d2 g7 z7);z7<h7->True/\W.aD (kX d2 l4 z7)=a8/\(∀b8:Nat,b8<a8->True/\W.lines (kX d2 l4 z7) b8=W.lines (kX d2 g7 z7) b8)))/\(q7/\(∀c8:Nat,c8<h7->True/\W.bits (kX d2 l4 c8)=W.bits (kX d2 g7 c8)))/\w2)/\g7<=a0/\a0-g7<a0-l4))/\(w4=false->tn 5 (c5/\True/\y4/\e5/\(g5/\h5/\d5<=(o0:Int))/\(l5*8<=140737488355328/\(∀d8:Nat,b3))/\tn 6 (c5/\True/\y4/\e5/\(g5/\h5/\d5<=(q0:Int))/\(l5*56<=140737488355328/\(∀e8:Nat,b3))/\tn 6 ((u4/\o4<(u0:Int))/\tn 2 ((o5*160<=140737488355328/\(∀g8:Nat,b3))/\tn 2 ((q5*8<=140737488355328/\(∀h8:Nat,b3))/\tn 6 ((u4/\o4<(v0:Int))/\True/\(((u5=u5/\(∀k8:Nat,k8<u5->True/\W.lines v4 k8=W.lines v4 k8))/\True)/\True/\Aj.match_1 (λl8:vY=>Prop) (vY.mk u5 (W.lines v4)) (λo8:Nat=>λq8:∀r8:Nat,Int=>o8<=100000))/\True/\(o5*24<=140737488355328/\(∀u8:Nat,b3))/\tn 6 ((u4/\o4<(w0:Int))/\tn 2 ((o5*8<=140737488355328/\(∀v8:Nat,b3))/\True/\y4/\
    (∃w8:Nat,let x8:=kN d2 w8;let y8:=16*x8;let z8:=l5=y8;let a9:=z2/\z8;let b9:=o5=x8;let c9:=z2/\b9;d0/\g0/\k0/\x4=(w8:Int)/\(a1/\b2/\((((((((True/\a9)/\a9)/\c9)/\z2/\q5=x8)/\c9)/\c9)/\a3)/\a3)/\(z8/\(∀d9:Nat,d9<y8->True/\cond (Nat.blt d9 a5) (W.af (kX d2 l4 ((0+d9)/16)*16+(0+d9)%16)) (W.af (k5+(d9-a5)))=W.af (kX d2 w8 (d9/16)*16+d9%16)))/\(z8/\(∀e9:Nat,let g9:=Nat.blt e9 a5;let h9:=W.aj (kX d2 l4 ((0+e9)/16)*16+(0+e9)%16);let k9:=W.aj (k5+(e9-a5));e9<y8->aF (fM.mk (cond g9 h9.kind k9.kind) (cond g9 h9.base k9.base) (cond g9 h9.len k9.len) (cond g9 h9.mark k9.mark) (cond g9 h9.dx k9.dx) (cond g9 h9.bS k9.bS) (cond g9 h9.from_ k9.from_)) (W.aj (kX d2 w8 (e9/16)*16+e9%16))))/\(b9/\(∀l9:Nat,let o9:=Nat.blt l9 z4;let q9:=W.tasks (kX d2 l4 (0+l9));l9<x8->aG (dN.mk (cond o9 q9.r0 v5.r0) (cond o9 q9.r1 v5.r1) (cond o9 q9.r2 v5.r2) (cond o9 q9.r3 v5.r3) (cond o9 q9.r4 v5.r4) (cond o9 q9.r5 v5.r5) (cond o9 q9.r6 v5.r6) (cond o9 q9.r7 v5.r7) (cond o9 q9.pc v5.pc) (cond o9 q9.st v5.st) (cond o9 q9.prio v5.prio) (cond o9 q9.node v5.node) (cond o9 q9.space v5.space) (cond o9 q9.helper v5.helper) (cond o9 q9.loc v5.loc) (cond o9 q9.word v5.word) (cond o9 q9.bS v5.bS) (cond o9 q9.bK v5.bK) (cond o9 q9.core v5.core) (cond o9 q9.gr v5.gr)) (W.tasks (kX d2 w8 l9))))/\(q5=x8/\(∀r9:Nat,r9<x8->True/\cond (Nat.blt r9 z4) (W.kinds (kX d2 l4 (0+r9))) (List.getD [W.kinds v4] (0+(r9-z4)) 0)=W.kinds (kX d2 w8 r9)))/\(b9/\(∀u9:Nat,let v9:=kX d2 l4 (0+u9);let w9:=W.aD (kX d2 w8 u9);u9<x8->
    True/\cond (Nat.blt u9 z4) (W.aD v9) u5=w9/\(∀x9:Nat,x9<w9->True/\cond (Nat.blt u9 z4) (W.lines v9 x9) (W.lines v4 x9)=W.lines (kX d2 w8 u9) x9)))/\(b9/\(∀y9:Nat,y9<x8->True/\cond (Nat.blt y9 z4) (W.bits (kX d2 l4 (0+y9))) (List.getD [W.bits v4] (0+(y9-z4)) 0)=W.bits (kX d2 w8 y9)))/\w2)/\w8<=a0/\a0-w8<a0-l4)))))))))))/\(q4=false->c3<=9223372036854775807->d0/\g0/\k0/\l0/\(a1/\b2/\((((((((True/\x5)/\x5)/\z5)/\z5)/\z5)/\z5)/\a3)/\a3)/\b6/\e6/\l6/\u6/\x6/\c7/\(c2/\(∀z9:Nat,let jq:=cN W of p z9;z9<0->True/\SV.aq=SV.sl false 1 (kN jq (W.aL z9)) (iF (λku:Nat=>W.ready z9 (kX jq (W.aL z9) ku)))))/\v2)/\0<=y0/\(∀cZ:Nat,let d10:=(cZ:Int);let iE:=decide (d10<c3);let jT:=Int.toNat d10;let cv:=((W.aL jT:Nat):Int);let dt:=cN W of p cZ;let lv:=kN dt 0;let im:=0=lv;let gL:=(q3/\g3/\cZ=cZ)/\u3;let kv:=cZ=cZ/\(∀kx:Nat,let v10:=cN W of p kx;let lx:=W.aL kx;let kz:=kN v10 lx;kx<cZ->True/\kz=kz/\(∀iS:Nat,let lY:=W.ready kx (kX v10 lx iS);iS<kz->True/\lY=lY));let iT:=W.aL cZ;let pY:Int:=d10+1;cZ<=y0->(iE=true->(0<=d10/\d10<c3)/\(cv<=9223372036854775807->d0/\g0/\k0/\(c2/\im)/\l0/\(a1/\b2/\gL/\b6/\e6/\l6/\u6/\x6/\c7/\kv/\q2/\(im/\(∀fq:Nat,fq<lv->True/\SV.aq=SV.v (Value.int IntKind.i64 (W.ready cZ (kX dt 0 fq)))))/\True)/\0<=iT/\(∀d11:Nat,let oc:=(d11:Int);let uR:=decide (oc<cv);let dM:=W.ready jT (Int.toNat oc);let uS:=of (Int.toNat dM)==p;let ly:=kN dt d11;let rO:=ly+1;let m6:Int:=oc+1;let rP:=ak m6=m6;d11<=iT->(uR=true->(0<=oc/\oc<cv)/\((dM=dM/\x2)/\True/\0<=dM/\
    dM<(n:Int))/\(uS=true->True/\(rO*8<=140737488355328/\(∀m7:Nat,b3))/\rP/\(∃v11:Nat,d0/\g0/\k0/\(z2/\rO=kN dt v11)/\m6=(v11:Int)/\(a1/\b2/\gL/\b6/\e6/\l6/\u6/\x6/\c7/\kv/\q2/\(rO=kN dt v11/\(∀lZ:Nat,lZ<kN dt v11->True/\cond (Nat.blt lZ ly) (W.ready cZ (kX dt d11 (0+lZ))) (List.getD [dM] (0+(lZ-ly)) 0)=W.ready cZ (kX dt v11 lZ)))/\True)/\v11<=iT/\iT-v11<iT-d11))/\(uS=false->rP/\(∃lz:Nat,d0/\g0/\k0/\(z2/\ly=kN dt lz)/\m6=(lz:Int)/\(a1/\b2/\gL/\b6/\e6/\l6/\u6/\x6/\c7/\kv/\q2/\(ly=kN dt lz/\(∀yW:Nat,yW<kN dt lz->True/\W.ready cZ (kX dt d11 yW)=W.ready cZ (kX dt lz yW)))/\True)/\lz<=iT/\iT-lz<iT-d11)))/\(uR=false->((∀jU:Nat,∀uT:Nat,b3)/\True)/\((cZ+1)*24<=140737488355328/\(∀yX:Nat,b3))/\True/\ak pY=pY/\(∃pZ:Nat,d0/\g0/\k0/\pY=(pZ:Int)/\(a1/\b2/\((x3/\z2/\cZ+1=pZ)/\a3)/\b6/\e6/\l6/\u6/\x6/\c7/\(cZ+1=pZ/\(∀d12:Nat,let fW:=cN W of p (0+d12);let l_:=W.aL (0+d12);let ib:=cN W of p d12;let lA:=kN ib (W.aL d12);d12<pZ->True/\cond (Nat.blt d12 cZ) (kN fW l_) ly=lA/\(∀ma:Nat,ma<lA->True/\cond (Nat.blt d12 cZ) (W.ready (0+d12) (kX fW l_ ma)) (W.ready cZ (kX dt d11 (0+ma)))=W.ready d12 (kX ib (W.aL d12) ma))))/\v2)/\pZ<=y0/\y0-pZ<y0-cZ)))))/\(iE=false->y3<=9223372036854775807->d0/\g0/\k0/\l0/\(a1/\b2/\((x3/\z2/\cZ=y0)/\a3)/\b6/\e6/\l6/\u6/\x6/\c7/\kv/\(c2/\(∀rQ:Nat,rQ<0->True/\SV.aq=SV.v (Value.int IntKind.i64 (gK W of p rQ))))/\True)/\0<=x0/\(∀jV:Nat,let rR:=(jV:Int);let DI:=decide (rR<y3);let dU:=W.aM (Int.toNat rR);let rS:=decide (0<=dU);
    let rT:=cond rS (!of (Int.toNat dU)==p) false;let p4:=jV+1;let yY:=p4*8<=140737488355328/\(∀dd:Nat,b3);let lB:Int:=rR+1;let uU:=ak lB=lB;jV<=x0->(DI=true->(0<=rR/\rR<y3)/\(rS=true->(dU=dU/\x2)/\True/\0<=dU/\dU<(n:Int))/\(rT=true->True/\yY/\True/\uU/\(∃d13:Nat,d0/\g0/\k0/\lB=(d13:Int)/\(a1/\b2/\(z3/\z2/\p4=d13)/\b6/\e6/\l6/\u6/\x6/\c7/\kv/\(p4=d13/\(∀od:Nat,od<d13->True/\cond (Nat.blt od jV) (gK W of p (0+od)) (List.getD [((-1):Int)] (0+(od-jV)) 0)=gK W of p od))/\True)/\d13<=x0/\x0-d13<x0-jV))/\(rT=false->True/\yY/\True/\uU/\(∃m8:Nat,d0/\g0/\k0/\lB=(m8:Int)/\(a1/\b2/\(z3/\z2/\p4=m8)/\b6/\e6/\l6/\u6/\x6/\c7/\kv/\(p4=m8/\(∀gJ:Nat,gJ<m8->True/\cond (Nat.blt gJ jV) (gK W of p (0+gJ)) (List.getD [dU] (0+(gJ-jV)) 0)=gK W of p gJ))/\True)/\m8<=x0/\x0-m8<x0-jV)))/\(DI=false->tn 7 True/\(z3/\z2/\jV=x0)/\(w5/\(∀oe:Nat,oe<e3->True/\W.af (kX d2 l4 (oe/16)*16+oe%16)=W.af (kX d2 a0 (oe/16)*16+oe%16)))/\(w5/\(∀mb:Nat,mb<e3->aF (W.aj (kX d2 l4 (mb/16)*16+mb%16)) (W.aj (kX d2 a0 (mb/16)*16+mb%16))))/\(y5/\(∀rU:Nat,rU<d3->aG (W.tasks (kX d2 l4 rU)) (W.tasks (kX d2 a0 rU))))/\(y5/\(∀uV:Nat,uV<d3->True/\W.kinds (kX d2 l4 uV)=W.kinds (kX d2 a0 uV)))/\(y5/\(∀p5:Nat,let DJ:=W.aD (kX d2 a0 p5);p5<d3->True/\W.aD (kX d2 l4 p5)=DJ/\(∀yZ:Nat,yZ<DJ->True/\W.lines (kX d2 l4 p5) yZ=W.lines (kX d2 a0 p5) yZ)))/\(y5/\(∀fe:Nat,fe<d3->True/\W.bits (kX d2 l4 fe)=W.bits (kX d2 a0 fe)))/\(cZ=y0/\(∀m9:Nat,let og:=cN W of p m9;let y_:=W.aL m9;let uW:=kN og y_;m9<y0->True/\
    uW=uW/\(∀ft:Nat,let rV:=W.ready m9 (kX og y_ ft);ft<uW->True/\rV=rV)))/\(jV=x0/\(∀d14:Nat,let rW:=gK W of p d14;d14<x0->True/\rW=rW))/\True)))))))
set_option maxHeartbeats 2000000 in
theorem N2:aW Tryz.prog bf 19 Ps:=bd (.cons Pt (.cons M6 .nil)) false Tryz.call19 Tryz.func19 (λ⟨W,_,of,p⟩=> [.inv (R4 W of p),.xR (R5 W of p) λi=> [.inv (R6 W of p i)],.kJ 0,.inv (R7 W of p)]) (V:=Hn) (λ_=>by kernel_rfl) λ⟨W,n,of,p⟩ hp=>by
  dsimp only[Hm]at hp
  dsimp only[Hn,tn,ak]
  simp only[bn,bG,eq_self,implies_true,Bool.cond_self]
  simp only[lJ,mL,implies_true,true_and]
  obtain⟨pX,hw,rfl⟩:=hp
  have hI:=xd hw pX
  have z1:=hI.z.k1
  have z2:=hI.z.aj
  have z3:=hI.z.af
  have z4:=hI.z.tasks
  have z5:=hI.z.c1
  have z6:=hI.z.ready
  have z7:=hI.z.lines
  have z8:=hI.z.bits
  have k0: ∀q,kN q 0=0:=λ_=>rfl
  intro _
  refine⟨by simp[k0],λi hi=>⟨λJ=>?_,λJ _=>?_⟩⟩
  · have ai:=br J
    have hc:=qT (aJ of p) i
    refine⟨by omega,by omega,λU=>⟨bQ (by omega) (by omega),i+1,by omega,?_⟩,λU=>?_⟩
    · have h3:aJ of p i=false:=j9 (b:=of i==p) U
      simp only[qJ h3,Br h3,mL,implies_true,true_and,and_true]
      omega
    have h3:aJ of p i=true:=eJ (b:=of i==p) U
    have t1:((i:Int)*16).toNat=16*i:=by omega
    have t2:(((i:Int)+1)*16).toNat=16*i+16:=by omega
    have t3:16*i+16 -16*i=16:=by omega
    have hd: ∀{d},d<kN (aJ of p) i+1->d<kN (aJ of p) i\/d=kN (aJ of p) i:=λh=>by omega
    rw[t1,t2,t3]
    have w1:IntKind.i64.wrap ((i:Int)*16)=(i:Int)*16:=bQ (by omega) (by omega)
    have w2:IntKind.i64.wrap ((i:Int)+1)=(i:Int)+1:=bQ (by omega) (by omega)
    have w3:IntKind.i64.wrap (((i:Int)+1)*16)=((i:Int)+1)*16:=bQ (by omega) (by omega)
    have hl:=(hI.ln i (by omega)).1
    simp only[w1,w2,w3,true_and]
    refine⟨by omega,by omega,by omega,by omega,by omega,by omega,by omega,by omega,by omega,by omega,by omega,by omega,i+1,by omega,?_⟩
    rw[mM h3]
    refine⟨⟨⟨⟨⟨⟨by omega,rfl⟩,rfl⟩,rfl⟩,rfl⟩,⟨by omega,λd h=>?_⟩,⟨by omega,λd h=>?_⟩,⟨rfl,λd h=>?_⟩,⟨rfl,λd h=>?_⟩,⟨rfl,λd h=>?_⟩,⟨rfl,λd h=>?_⟩⟩,by omega,by omega⟩
    · rcases Nat.lt_or_ge d (16*kN (aJ of p) i)with e|e
      · rw[da e,mC (by omega)];rfl
      · rw[dy e,show d/16=kN (aJ of p) i by omega,mD h3]
        show W.af _=W.af _
        congr 1;omega
    · rcases Nat.lt_or_ge d (16*kN (aJ of p) i)with e|e
      · rw[da e,mC (by omega)];exact IB rfl
      · rw[dy e,show d/16=kN (aJ of p) i by omega,mD h3]
        refine IB (show W.aj _=W.aj _ from ?_)
        congr 1;omega
    · rcases hd h with e|e
      · rw[da e,mC e];exact IC rfl
      · subst e;rw[dy (Nat.le_refl _),mD h3];exact IC rfl
    · rcases hd h with e|e
      · rw[da e,mC e];rfl
      · subst e;rw[dy (Nat.le_refl _),mD h3,Nat.sub_self];rfl
    · rcases hd h with e|e
      · rw[da e,mC e];exact⟨rfl,λ_ _=>rfl⟩
      · subst e;rw[dy (Nat.le_refl _),mD h3];exact⟨rfl,λ_ _=>rfl⟩
    · rcases hd h with e|e
      · rw[da e,mC e];rfl
      · subst e;rw[dy (Nat.le_refl _),mD h3,Nat.sub_self];rfl
  obtain rfl:i=W.ae:=by have:=bJ J;omega
  refine⟨⟨by simp,trivial⟩,λc hc=>⟨λU=>?_,λU _=>?_⟩⟩
  · have ai:=br U
    have hr:=hI.rd c ai
    refine⟨by omega,λ_=>⟨rfl,⟨rfl,λa h=>absurd h (Nat.not_lt_zero _)⟩,λk hk=>⟨λh3=>?_,λh3=>?_⟩⟩⟩
    · have iR:=br h3
      have hx:=hr.2 k iR
      have gH:=qT (cN W of p c) k
      have UJ:=hr.1
      refine⟨by omega,by omega,λh4=>?_,λh4=>?_⟩
      · have h5:cN W of p c k=true:=h4
        refine⟨by omega,bQ (by omega) (by omega),k+1,(mM h5).symm,by omega,⟨(mM h5).symm,λa h=>?_⟩,by omega,by omega⟩
        rw[mM h5]at h
        rcases(show a<kN (cN W of p c) k\/a=kN (cN W of p c) k by omega)with e|e
        · rw[da e,mC e];rfl
        · subst e;rw[dy (Nat.le_refl _),mD h5,Nat.sub_self];rfl
      · have h5:cN W of p c k=false:=h4
        refine⟨bQ (by omega) (by omega),k+1,(qJ h5).symm,by omega,⟨(qJ h5).symm,λa h=>?_⟩,by omega,by omega⟩
        rw[Br h5]
    · obtain rfl:k=W.aL c:=by have:=bJ h3;omega
      refine⟨by omega,bQ (by omega) (by omega),c+1,by omega,⟨rfl,rfl,λd hd=>?_⟩,by omega,by omega⟩
      rcases(show d<c\/d=c by omega)with e|e
      · rw[da e];exact⟨rfl,λ_ _=>by rw[cond_true]⟩
      · subst e;rw[dy (Nat.le_refl _)];exact⟨rfl,λ_ _=>rfl⟩
  obtain rfl:c=W.aY:=by have:=bJ U;omega
  refine⟨⟨rfl,trivial⟩,λk hk=>⟨λh3=>?_,λh3=>?_⟩⟩
  · have ai:=br h3
    have hx:=hI.co k ai
    refine⟨by omega,λh4=>?_,λh4=>?_,λh4=>?_⟩
    · have:=of_decide_eq_true h4;omega
    all_goals
      have h5:gK W of p k=bif decide (0<=W.aM k)&&!(of (W.aM k).toNat==p)then -1 else W.aM k:=rfl
      rw[h4]at h5
      refine⟨by omega,bQ (by omega) (by omega),k+1,by omega,⟨rfl,rfl,λd hd=>?_⟩,by omega,by omega⟩
      rcases(show d<k\/d=k by omega)with e|e
      · rw[da e];rfl
      · subst e;rw[dy (Nat.le_refl _),Nat.sub_self,h5];rfl
  obtain rfl:k=W.aE:=by have:=bJ h3;omega
  simp[mL]
end Go.Proofs.YtbngaammbjaajaaGreatDoor
set_option linter.unusedVariables false
set_option linter.unusedSimpArgs false
set_option maxRecDepth 100000
namespace Go.Proofs.YtbngaammbjaajaaGreatDoor
open Go.RowKit Go.Sy
def bF (f:Nat->Bool):Nat->Nat->SV:=λi _=> .v (.bool (f i))
def oz (r:Nat->Nat->Bool) (a b:Nat) (i k:Nat):Bool:=(Nat.beq i a&&Nat.beq k b)||(Nat.beq i b&&Nat.beq k a)||r i k
def dw (r:Nat->Nat->Bool) (a b:Int):Nat->Nat->Bool:=bif decide (0<=a)&&decide (0<=b)then oz r a.toNat b.toNat else r
def Lu (n:Nat) (r:Nat->Nat->Bool):List aO:= [.cells [.aw 1 0 none 0 n],.row 1 n (λi _=> .il 1 n (bF (r i)))]
structure H_ where
  (a b:Int) (n:Nat) (r:Nat->Nat->Bool)
def H':Sy.Spec:=⟨H_,λ⟨a,b,_,_⟩=> [.v (.int .i64 a),.v (.int .i64 b),.ptr 0 0 none 0 0],λ⟨_,_,n,r⟩=>Lu n r,λ⟨a,b,n,_⟩=>a<n/\b<n,λ_=> .tp 0 (aA []),λ⟨a,b,n,r⟩=>Lu n (dw r a b),
  λargs mem=>match args with| [a0,a1,a2]=>some ⟨ao (a0),ao (a1),Kk mem 1,λi k=>qL (TV (Kl mem 1 i 0) k 0)⟩|_=>none⟩
def Qd:aX:=⟨[false,false,true],(H').g,none⟩
def Ia:H_->Prop:=λ⟨a,b,n,r⟩=>let a0:=cond (decide (0<=a)) (decide (0<=b)) false;let b0:=0<=b/\b<(n:Int);let c0:=0+Int.toNat b;let d0:=0+Int.toNat a;let e0:=Nat.beq c0 d0;let g0:=cond e0 n n;let h0:=n=n;let k0:=True/\0=0/\h0;(a0=true->(0<=a/\a<(n:Int))/\b0/\(∀l0:Nat,Nat.beq 1 1=true)/\b0/\(0<=a/\a<(g0:Int))/\(∀o0:Nat,Nat.beq 1 1=true)/\True/\k0/\(h0/\(∀q0:Nat,q0<n->True/\cond (Nat.beq q0 c0) g0 (cond (Nat.beq q0 d0) n n)=n/\(∀r0:Nat,let u0:=cond (Nat.beq r0 (0+Int.toNat b)) true (r d0 r0);r0<n->True/\cond (Nat.beq q0 c0) (cond (Nat.beq r0 (0+Int.toNat a)) true (cond e0 u0 (r c0 r0))) (cond (Nat.beq q0 d0) u0 (r q0 r0))=dw r a b q0 r0)))/\True)/\(a0=false->True/\k0/\(h0/\(∀v0:Nat,v0<n->True/\h0/\(∀w0:Nat,w0<n->True/\r v0 w0=dw r a b v0 w0)))/\True)
theorem OW:aW Tryz.prog bf 14 Qd:=bd .nil false Tryz.call14 Tryz.func14 (λ_=> []) (V:=Ia) (λ_=>by kernel_rfl) λ⟨a,b,n,r⟩ hp=>by
  dsimp only[H']at hp
  dsimp only[Ia,tn,ak,bx,aG,aF,aH]
  simp only[bn,bG,eq_self,implies_true,Bool.cond_self]
  try simp only[lJ]
  obtain⟨ha,hb⟩:=hp
  refine⟨λh=>?_,λh=>λi _ k _=>by unfold dw;rw[h];rfl⟩
  have U:=h
  simp only[Bool.and_eq_true,decide_eq_true_eq]at U
  refine⟨⟨U.1,ha⟩,⟨U.2,hb⟩,λ_=>rfl,⟨U.2,hb⟩,⟨U.1,ha⟩,λ_=>rfl,λi _ k _=>?_⟩
  unfold dw
  rw[h]
  show _=oz r a.toNat b.toNat i k
  unfold oz
  generalize a.toNat=A
  generalize b.toNat=B
  rcases Decidable.em (i=B)with e1|e1
  · subst e1
    rw[Nat.beq_refl]
    rcases Decidable.em (i=A)with e2|e2
    · subst e2
      rw[Nat.beq_refl]
      cases Nat.beq k i<;>cases r i k<;>rfl
    · rw[gg e2]
      cases Nat.beq k A<;>cases r i k<;>rfl
  · rw[gg e1]
    rcases Decidable.em (i=A)with e2|e2
    · subst e2
      rw[Nat.beq_refl]
      cases Nat.beq k B<;>cases r i k<;>rfl
    · rw[gg e2];rfl
end Go.Proofs.YtbngaammbjaajaaGreatDoor
set_option linter.unusedVariables false
set_option linter.unusedSimpArgs false
set_option maxRecDepth 100000
namespace Go.Proofs.YtbngaammbjaajaaGreatDoor
open Go.RowKit Go.Sy
theorem GU {p:Nat->Bool}: ∀{n:Nat},cA n p<n->p (cA n p)=true
  |n+1,h=>by
   unfold cA at h⊢
   cases e:Nat.blt (cA n p) n with
   |true=>
    rw[jM]at e
    exact GU (of_decide_eq_true e)
   |false=>
    rw[e]at h
    cases e2:p n with
    |true=>exact e2
    |false=>rw[e2]at h;exact absurd h (Nat.lt_irrefl _)
theorem zx {p:Nat->Bool} {j:Nat} (hp:p j=true): ∀{n:Nat},j<n->cA n p<=j
  |n+1,h=>by
   unfold cA
   rcases Nat.lt_or_ge j n with e|e
   · have J:=zx hp e
     rw[jM,decide_eq_true (show cA n p<n by omega)]
     exact J
   · obtain rfl:j=n:=by omega
     rw[hp]
     cases q:Nat.blt (cA j p) j with
     |true=>rw[jM]at q;have:=of_decide_eq_true q;show cA j p<=j;omega
     |false=>exact Nat.le_refl _
def NR (n:Nat) (r:Nat->Nat->Bool) (R:Nat->Nat->Prop):Prop:= ∀a b,a<n->b<n->(r a b=true↔R a b\/R b a)
theorem NR.eqv {n:Nat} {r:Nat->Nat->Bool} {R S:Nat->Nat->Prop} (h:NR n r R) (e: ∀a b,S a b↔R a b):NR n r S:=λa b ha hb=>by rw[h a b ha hb,e a b,e b a]
theorem NR.jn {n:Nat} {r:Nat->Nat->Bool} {R:Nat->Nat->Prop} (h:NR n r R) (a b:Nat):NR n (oz r a b) (JR R a b):=λi k hi hk=>by
  unfold oz JR
  rw[Bool.or_eq_true,Bool.or_eq_true,Bool.and_eq_true,Bool.and_eq_true,h i k hi hk]
  constructor
  · rintro ((⟨e1,e2⟩|⟨e1,e2⟩)|q|q)
    · exact .inl (.inr ⟨Nat.eq_of_beq_eq_true e1,Nat.eq_of_beq_eq_true e2⟩)
    · exact .inr (.inr ⟨Nat.eq_of_beq_eq_true e2,Nat.eq_of_beq_eq_true e1⟩)
    · exact .inl (.inl q)
    · exact .inr (.inl q)
  · rintro ((q|⟨e1,e2⟩)|q|⟨e1,e2⟩)
    · exact .inr (.inl q)
    · subst e1 e2;exact .inl (.inl ⟨Nat.beq_refl _,Nat.beq_refl _⟩)
    · exact .inr (.inr q)
    · subst e1 e2;exact .inl (.inr ⟨Nat.beq_refl _,Nat.beq_refl _⟩)
theorem qV {n:Nat} {R:Nat->Nat->Prop} {f:Nat} (hf:f<n):cj n R f<=f/\Cn R (cj n R f) f:=by
  have J:cj n R f<=f:=zx (p:=λg=> @decide (Cn R g f) (Classical.propDecidable _)) (@decide_eq_true _ (Classical.propDecidable _) (.rf f)) hf
  refine⟨J,?_⟩
  have U:=(GU (p:=λg=> @decide (Cn R g f) (Classical.propDecidable _)) (n:=n) (show cj n R f<n by omega))
  exact @of_decide_eq_true _ (Classical.propDecidable _) U
theorem Jy {n:Nat} {R:Nat->Nat->Prop} {f g:Nat} (hg:g<n) (h:Cn R g f):cj n R f<=g:=
  zx (p:=λg=> @decide (Cn R g f) (Classical.propDecidable _)) (@decide_eq_true _ (Classical.propDecidable _) h) hg
theorem Cs {n:Nat} {R:Nat->Nat->Prop} {f g:Nat} (hf:f<n) (hg:g<n) (h:Cn R f g):cj n R f=cj n R g:=by
  have a:=qV (R:=R) hf
  have b:=qV (R:=R) hg
  have c:=Jy (n:=n) (show cj n R f<n by omega) (a.2.tr h)
  have d:=Jy (n:=n) (show cj n R g<n by omega) (b.2.tr h.sy)
  omega
def mj (v:Int):Nat:=bif decide (v<0)then 1 else 0
def dX:Nat->(Nat->Int)->Nat
  |0,_=>0
  |n+1,o=>dX n o+mj (o n)
theorem wP {o:Nat->Int} {k:Nat} {v:Int} (hv:0<=v) (hk:o k<0): ∀n,(k<n->dX n (λj=>bif Nat.beq j k then v else o j)+1=dX n o)/\(n<=k->dX n (λj=>bif Nat.beq j k then v else o j)=dX n o)
  |0=>⟨λh=>absurd h (Nat.not_lt_zero _),λ_=>rfl⟩
  |n+1=>by
   obtain⟨a,b⟩:=wP hv hk n
   constructor
   · intro h
     show dX n _+mj (bif Nat.beq n k then v else o n)+1=dX n o+mj (o n)
     rcases Nat.lt_or_ge k n with q|q
     · rw[gg (show n≠k by omega),<-a q]
       show dX n _+mj (o n)+1=_
       omega
     · obtain rfl:k=n:=by omega
       rw[b (Nat.le_refl _),Nat.beq_refl]
       show dX k o+mj v+1=_
       unfold mj
       rw[decide_eq_false (Int.not_lt.2 hv),decide_eq_true hk];rfl
   · intro h
     show dX n _+mj (bif Nat.beq n k then v else o n)=dX n o+mj (o n)
     rw[b (by omega),gg (show n≠k by omega)];rfl
structure Bi (N i:Nat) (R:Nat->Nat->Prop) (X:Nat->Nat->Prop) (o:Nat->Int) (e n:Nat) (q:Nat->Int):Prop where
  a: ∀j,j<N->(cj N R j<i->o j=(cj N R j:Int))/\(i<cj N R j->o j= -1)/\(cj N R j=i->o j=i\/o j= -1)
  b:o i=i
  c: ∀k,k<n->0<=q (e+k)/\q (e+k)<N/\o (q (e+k)).toNat=i
  d: ∀a,a<N->o a=i->(∃k,k<n/\q (e+k)=a)\/ ∀b,b<N->(R a b\/R b a)->X a b\/0<=o b
  m:n+dX N o<=N
theorem S8 {n:Nat} {R:Nat->Nat->Prop} {j:Nat} (hj:j<n):cj n R (cj n R j)=cj n R j:=by
  have h:=qV (R:=R) hj
  exact Cs (by omega) hj h.2
theorem Jz: ∀(n:Nat) (o:Nat->Int),dX n o<=n
  |0,_=>Nat.le_refl _
  |n+1,o=>by
   have:=Jz n o
   show dX n o+mj (o n)<=n+1
   unfold mj
   cases decide (o n<0)
   · show _+0<=_;omega
   · show _+1<=_;omega
theorem Bi.st {N i:Nat} {R:Nat->Nat->Prop} {o:Nat->Int} (hi:i<N) (hl:cj N R i=i) (ho: ∀j,j<N->(cj N R j<i->o j=(cj N R j:Int))/\(i<=cj N R j->o j= -1)):Bi N i R (λ_ _=>False) (λj=>bif Nat.beq j i then(i:Int)else o j) 0 1 (λ_=>(i:Int)):=by
  have hoi:=(ho i hi).2 (by omega)
  have e:(bif Nat.beq i i then(i:Int)else o i)=i:=by rw[Nat.beq_refl];rfl
  refine⟨λj hj=>?_,e,λk hk=>⟨by omega,by omega,?_⟩,λa ha h=>?_,?_⟩
  · rcases Decidable.em (j=i)with q|q
    · subst q
      exact⟨λh=>by omega,λh=>by omega,λ_=> .inl e⟩
    · have h:=ho j hj
      show(_->(bif Nat.beq j i then(i:Int)else o j)=_)/\(_->(bif Nat.beq j i then(i:Int)else o j)=_)/\(_->(bif Nat.beq j i then(i:Int)else o j)=_\/(bif Nat.beq j i then(i:Int)else o j)=_)
      rw[gg q]
      exact⟨h.1,λk=>h.2 (by omega),λk=> .inr (h.2 (by omega))⟩
  · show(bif Nat.beq (Int.toNat (i:Int)) i then(i:Int)else o _)=i
    rw[Int.toNat_natCast];exact e
  · rcases Decidable.em (a=i)with q|q
    · exact .inl ⟨0,by omega,by rw[q]⟩
    · have h:(bif Nat.beq a i then(i:Int)else o a)=i:=h
      rw[gg q]at h
      have h:o a=i:=h
      have k:=ho a ha
      rcases Nat.lt_or_ge (cj N R a) i with r|r
      · have:=k.1 r;omega
      · have:=k.2 r;omega
  · have J:=(wP (o:=o) (k:=i) (v:=(i:Int)) (by omega) (by omega) N).1 hi
    have U:=Jz N o
    omega
theorem Bi.pop {N i:Nat} {R:Nat->Nat->Prop} {o:Nat->Int} {e n:Nat} {q:Nat->Int} (h:Bi N i R (λ_ _=>False) o e n q) (hn:0<n):Bi N i R (λa b=>a=(q e).toNat/\0<=b) o (e+1) (n -1) q:=by
  refine⟨h.a,h.b,λk hk=>?_,λa ha ho=>?_,?_⟩
  · have:=h.c (k+1) (by omega)
    rwa [show e+(k+1)=e+1+k by omega]at this
  · rcases h.d a ha ho with⟨k,hk,hq⟩|hr
    · rcases Decidable.em (k=0)with z|z
      · subst z
        exact .inr λb _ _=> .inl ⟨by rw[show e=e+0 from rfl,hq];rfl,Nat.zero_le _⟩
      · exact .inl ⟨k -1,by omega,by rw[show e+1+(k -1)=e+k by omega];exact hq⟩
    · exact .inr λb hb r=> .inr ((hr b hb r).resolve_left id)
  · have:=h.m;omega
theorem Bi.skip {N i f k:Nat} {R:Nat->Nat->Prop} {o:Nat->Int} {e n:Nat} {q:Nat->Int} (h:Bi N i R (λa b=>a=f/\k<=b) o e n q) (hk:(R f k\/R k f)->0<=o k):Bi N i R (λa b=>a=f/\k+1<=b) o e n q:=by
  refine⟨h.a,h.b,h.c,λa ha ho=>(h.d a ha ho).imp id λhr b hb r=>?_,h.m⟩
  rcases hr b hb r with⟨q1,q2⟩|q1
  · rcases Decidable.em (b=k)with z|z
    · subst z;subst q1;exact .inr (hk r)
    · exact .inl ⟨q1,by omega⟩
  · exact .inr q1
theorem Bi.wk {N i:Nat} {R X Y:Nat->Nat->Prop} {o:Nat->Int} {e n:Nat} {q:Nat->Int} (h:Bi N i R X o e n q) (hx: ∀a b,b<N->X a b->Y a b):Bi N i R Y o e n q:=
  ⟨h.a,h.b,h.c,λa ha ho=>(h.d a ha ho).imp id λhr b hb r=>(hr b hb r).imp (hx a b hb) id,h.m⟩
theorem Bi.add {N i f k:Nat} {R:Nat->Nat->Prop} {o:Nat->Int} {e n:Nat} {q:Nat->Int} (h:Bi N i R (λa b=>a=f/\k<=b) o e n q) (hf:f<N) (hof:o f=i) (hk:k<N) (hr:R f k\/R k f) (aZ:o k<0):Bi N i R (λa b=>a=f/\k+1<=b) (λj=>bif Nat.beq j k then(i:Int)else o j) 0 (n+1) (λj=>bif Nat.blt j n then q (e+j)else(k:Int)):=by
  have lf:cj N R f=i:=by
    have:=h.a f hf
    rcases Nat.lt_trichotomy (cj N R f) i with z|z|z
    · have:=this.1 z;omega
    · exact z
    · have:=this.2.1 z;omega
  have lk:cj N R k=i:=by
    rw[<-lf];exact(Cs hf hk (hr.elim (.fw (.rf f)) (.bw (.rf f)))).symm
  have up: ∀j,j≠k->(bif Nat.beq j k then(i:Int)else o j)=o j:=λj hj=>by rw[gg hj];rfl
  have ek:(bif Nat.beq k k then(i:Int)else o k)=i:=by rw[Nat.beq_refl];rfl
  have hb:=h.b
  refine⟨λj hj=>?_,(up i λz=>by subst z;omega).trans hb,λx hx=>?_,λa ha ho=>?_,?_⟩
  · rcases Decidable.em (j=k)with z|z
    · subst z
      exact⟨λ_=>by omega,λ_=>by omega,λ_=> .inl ek⟩
    · show(_->(bif Nat.beq j k then(i:Int)else o j)=_)/\(_->(bif Nat.beq j k then(i:Int)else o j)=_)/\(_->(bif Nat.beq j k then(i:Int)else o j)=_\/(bif Nat.beq j k then(i:Int)else o j)=_)
      rw[up j z];exact h.a j hj
  · show 0<=(bif Nat.blt (0+x) n then q (e+(0+x))else(k:Int))/\(bif Nat.blt (0+x) n then q (e+(0+x))else(k:Int))<N/\(bif Nat.beq (bif Nat.blt (0+x) n then q (e+(0+x))else(k:Int)).toNat k then(i:Int)else o (bif Nat.blt (0+x) n then q (e+(0+x))else(k:Int)).toNat)=i
    rw[Nat.zero_add]
    rcases Nat.lt_or_ge x n with z|z
    · have hc:=h.c x z
      rw[da z]
      refine⟨hc.1,hc.2.1,?_⟩
      show(bif Nat.beq (q (e+x)).toNat k then(i:Int)else o (q (e+x)).toNat)=i
      rw[up _ λy=>by have:=hc.2.2;rw[y]at this;omega]
      exact hc.2.2
    · rw[dy z]
      exact⟨by show(0:Int)<=k;omega,by show(k:Int)<N;omega,by show(bif Nat.beq (Int.toNat (k:Int)) k then(i:Int)else o _)=i;rw[Int.toNat_natCast];exact ek⟩
  · rcases Decidable.em (a=k)with z|z
    · refine .inl ⟨n,by omega,?_⟩
      show(bif Nat.blt (0+n) n then q (e+(0+n))else(k:Int))=a
      rw[Nat.zero_add,dy (Nat.le_refl _),z];rfl
    · have ho:o a=i:=(up a z).symm.trans ho
      rcases h.d a ha ho with⟨x,hx,hq⟩|hd
      · refine .inl ⟨x,by omega,?_⟩
        show(bif Nat.blt (0+x) n then q (e+(0+x))else(k:Int))=a
        rw[Nat.zero_add,da hx];exact hq
      · refine .inr λb hb r=>?_
        show _\/0<=(bif Nat.beq b k then(i:Int)else o b)
        rcases Decidable.em (b=k)with y|y
        · subst y;rw[ek];exact .inr (by omega)
        · rw[up b y]
          exact(hd b hb r).imp (λw=>⟨w.1,by omega⟩) id
  · have J:=(wP (o:=o) (k:=k) (v:=(i:Int)) (by omega) aZ N).1 hk
    have U:=h.m
    omega
theorem Bi.fin {N i:Nat} {R:Nat->Nat->Prop} {o:Nat->Int} {e n:Nat} {q:Nat->Int} (h:Bi N i R (λ_ _=>False) o e n q) (hn:n=0) (hi:i<N) (hl:cj N R i=i) (hR: ∀a b,R a b->a<N/\b<N): ∀j,j<N->(cj N R j<i+1->o j=(cj N R j:Int))/\(i+1<=cj N R j->o j= -1):=by
  subst hn
  have st: ∀b c,b<N->c<N->Cn R i b->o b=i->(R b c\/R c b)->o c=i:=λb c hb hc kb ob r=>by
    rcases h.d b hb ob with⟨k,hk,_⟩|hd
    · exact absurd hk (Nat.not_lt_zero _)
    · have h0:=(hd c hc r).resolve_left id
      have lc:cj N R c=i:=by
        rw[<-hl];exact(Cs hi hc (r.elim (.fw kb) (.bw kb))).symm
      rcases(h.a c hc).2.2 lc with z|z
      · exact z
      · omega
  have key: ∀j,Cn R i j->o j=i:=λj k=>by
    induction k with
    |rf=>exact h.b
    |fw k r ih=>exact st _ _ (hR _ _ r).1 (hR _ _ r).2 k ih (.inl r)
    |bw k r ih=>exact st _ _ (hR _ _ r).2 (hR _ _ r).1 k ih (.inr r)
  intro j hj
  have ha:=h.a j hj
  refine⟨λw=>?_,λw=>ha.2.1 (by omega)⟩
  rcases Decidable.em (cj N R j=i)with z|z
  · have:=(qV (R:=R) hj).2
    rw[z]at this⊢
    exact key j this
  · exact ha.1 (by omega)
theorem Qc {N i:Nat} {R:Nat->Nat->Prop} {o:Nat->Int} (h: ∀j,j<N->(cj N R j<i->o j=(cj N R j:Int))/\(i<=cj N R j->o j= -1)) (hi:i<N) (h0:0<=o i): ∀j,j<N->(cj N R j<i+1->o j=(cj N R j:Int))/\(i+1<=cj N R j->o j= -1):=by
  have hl:cj N R i<i:=by
    rcases Nat.lt_or_ge (cj N R i) i with z|z
    · exact z
    · have:=(h i hi).2 z;omega
  intro j hj
  refine⟨λw=>(h j hj).1 ?_,λw=>(h j hj).2 (by omega)⟩
  rcases Decidable.em (cj N R j=i)with z|z
  · have:=S8 (R:=R) hj
    rw[z]at this;omega
  · omega
end Go.Proofs.YtbngaammbjaajaaGreatDoor
