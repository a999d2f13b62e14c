/- Changes of tasks, of lists. -/
import Derived.Test.YthgmgkabnffniaaGreatDoorYK
import Derived.Shelf.Slices.Cells
import Derived.Test.YthgmgkabnffniaaGreatDoorYJ
set_option linter.unusedVariables false
set_option linter.unusedSimpArgs false
set_option linter.unusedVariables false
set_option linter.unusedSimpArgs false
set_option maxRecDepth 100000
namespace Go.Proofs.YthgmgkabnffniaaGreatDoor
open Go.RowKit Go.Sy
theorem eh {W:Wd} {f:Nat}:fN W f=true↔((0<W.ai f->W.kinds f=7\/W.kinds f=8)/\(W.bits f≠0->W.kinds f=8/\W.ai f=0)/\(0<=W.bits f/\W.bits f<=65535)/\ ∀k,k<W.ai f->(0<=W.lines f k/\W.lines f k<W.aj)/\W.kinds (W.lines f k).toNat=6/\(W.tasks (W.lines f k).toNat).loc=f/\lu W (W.lines f k)=lu W (W.lines f 0)):=by
  unfold fN
  simp only[Bool.and_eq_true,Bool.not_eq_true',m6]
  constructor
  · rintro ⟨⟨⟨J,h2⟩,h3⟩,h4⟩
    refine⟨λhl=>?_,λhb=>?_,dL h3,λk hk=>?_⟩
    · rw[decide_eq_true hl]at J
      simp only[Bool.true_and,Bool.and_eq_false_iff,bne_eq_false_iff_eq]at J
      exact J
    · rw[bne_iff_ne.2 hb]at h2
      simp only[Bool.true_and,Bool.or_eq_false_iff,bne_eq_false_iff_eq,decide_eq_false_iff_not]at h2
      exact⟨h2.1,by omega⟩
    · have h:=h4 k hk
      unfold mw at h
      simp only[Bool.and_eq_true,beq_iff_eq]at h
      have a_:=iO (W:=W) (f:=W.lines f k) (by rw[h.1.1];decide)
      exact⟨a_,by rw[<-fS a_];exact h.1.1,h.1.2,h.2⟩
  · rintro ⟨J,h2,h3,h4⟩
    refine⟨⟨⟨?_,?_⟩,?_⟩,λk hk=>?_⟩
    · rcases Nat.eq_zero_or_pos (W.ai f)with e|e
      · rw[e];rfl
      · rcases J e with g|g<;>rw[g]<;>simp
    · rcases Decidable.em (W.bits f=0)with e|e
      · rw[e];rfl
      · rw[(h2 e).1,(h2 e).2];simp
    · unfold az;simp only[Bool.or_eq_false_iff,decide_eq_false_iff_not];omega
    · obtain⟨a,b,c,d⟩:=h4 k hk
      unfold mw
      rw[fS a,b,c,d];simp
def RD (W:Wd) (t c p:Int):Prop:=(0<=t/\t<W.aj)/\W.kinds t.toNat=6/\(W.tasks t.toNat).st=1/\(W.tasks t.toNat).core=c/\(0<=p->(W.tasks t.toNat).prio=p)
theorem RD.iff {W:Wd} {t c p:Int}:fA W t c p=true↔RD W t c p:=by
  constructor
  · intro h
    obtain⟨a,b,c,d,e⟩:=EH h
    exact⟨a,by rw[<-fS a];exact b,c,d,e⟩
  · rintro ⟨a,b,c,d,e⟩
    unfold fA
    rw[fS a,b,c,d]
    rcases Int.lt_or_le p 0 with h|h
    · rw[decide_eq_true h];simp
    · rw[e h];simp
theorem lF {W:Wd} {c:Nat}:ft W c=true↔(W.ak c≠ -1->RD W (W.ak c) c (-1)):=by
  unfold ft
  rw[Bool.or_eq_true,beq_iff_eq,RD.iff]
  exact⟨λh hn=>h.resolve_left hn,λh=>(Decidable.em _).elim .inl λhn=> .inr (h hn)⟩
theorem kj {W:Wd} {i:Nat}:ik W i=true↔ ∀k,k<W.aq i->RD W (W.ready i k) ((i/4:Nat):Int) ((i%4:Nat):Int):=by
  unfold ik
  rw[m6]
  exact⟨λh k hk=>RD.iff.1 (h k hk),λh k hk=>RD.iff.2 (h k hk)⟩
theorem GW {W:Wd} {t:Nat} (h:cA W t=0) {f k:Nat} (hf:f<W.aW) (hk:k<W.ai f):W.lines f k≠t:=Dq.1 h f hf k hk
theorem DU {W:Wd} {t:Nat} (h:cu W t=0):(∀i k,i<W.aS->k<W.aq i->W.ready i k≠t)/\ ∀c,c<W.aC->W.ak c≠t:=by
  unfold cu at h
  exact⟨λi k hi hk=>Dq.1 (by omega) i hi k hk,λc hc=>AK.1 (by omega) c hc⟩
theorem toNat_eq {x:Int} {t:Nat} (h:0<=x) (e:x.toNat=t):x=t:=by omega
theorem TS.all {X:Nat->Prop} {W:Wd} {T:Nat->aM} (h:TS X W) (hn: ∀f,f<W.aj->W.kinds f≠6->T f=aM.blank)
    (h6: ∀f,f<W.aj->W.kinds f=6->jg (T f)=false/\fT W (T f)=false/\gv W (T f)=true/\(T f).aE=(W.tasks f).aE/\
      ((X f/\cA W f=0/\cu W f=0)\/((T f).st=(W.tasks f).st/\(T f).loc=(W.tasks f).loc/\(T f).core=(W.tasks f).core/\((T f).prio=(W.tasks f).prio\/ ∀i k,i<W.aS->k<W.aq i->W.ready i k≠f)))):TS X {W with tasks:=T}:=by
  have z:=h.z
  have zt:=z.tasks
  have eo: ∀i,i<W.aj->(T i).aE=(W.tasks i).aE:=λi hi=>by
    rcases Decidable.em (W.kinds i=6)with e|e
    · exact(h6 i hi e).2.2.2.1
    · rw[hn i hi e,h.bl i hi e]
  have a_: ∀{f:Nat},f<W.aj->W.kinds f=6->(W.tasks f).aE≠ -1->(W.tasks f).aE.toNat<W.aj/\W.kinds (W.tasks f).aE.toNat=6:=λ{f} hf h6 ho=>by
    have hr:=(h.nm f hf h6).2.2
    unfold gv okF at hr
    simp only[Bool.and_eq_true,Bool.or_eq_true,beq_iff_eq]at hr
    have hk:=hr.2.resolve_left ho
    have hi:=iO (W:=W) (f:=(W.tasks f).aE) (by rw[hk];decide)
    exact⟨by omega,by rw[<-fS hi];exact hk⟩
  have mP: ∀i,i<W.aj->W.kinds i=6-> ¬(X i/\cA W i=0/\cu W i=0)->(T i).st=(W.tasks i).st/\(T i).loc=(W.tasks i).loc/\(T i).core=(W.tasks i).core/\((T i).prio=(W.tasks i).prio\/ ∀j k,j<W.aS->k<W.aq j->W.ready j k≠i):=λi hi jx hx=>(h6 i hi jx).2.2.2.2.resolve_left hx
  refine⟨z.cg rfl rfl,hn,λf hf jx=>?_,λf hf jx hw=>?_,λf hf jx=>?_,λf hf jx hx=>?_,λf hf=>?_,λc hc=>?_,λi hi=>?_⟩
  · obtain⟨a,b,c,_⟩:=h6 f hf jx
    exact⟨a,b,c⟩
  · have hw:(T f).aE≠ -1:=hw
    rw[eo f hf]at hw
    have J:=h.ow f hf jx hw
    show(¬X (T f).aE.toNat->(T (T f).aE.toNat).st=5)/\(¬X f->(T f).st≠4)
    rw[eo f hf]
    obtain⟨i1,i2⟩:=a_ hf jx hw
    refine⟨λhx=>?_,λhx=>?_⟩
    · rw[(mP _ i1 i2 λhh=>hx hh.1).1];exact J.1 hx
    · rw[(mP f hf jx λhh=>hx hh.1).1];exact J.2 hx
  · have hf:f<W.aj:=hf
    have e:ca {W with tasks:=T} f=ca W f:=jA λi hi=>by
      have hi:i<W.aP:=hi
      show((T i).aE==(f:Int))=_
      rw[eo i (by omega)]
    rw[e]
    refine⟨(h.o1 f hf jx).1,λhx=>?_⟩
    show _↔(T f).st=5
    rw[(mP f hf jx λhh=>hx hh.1).1];exact(h.o1 f hf jx).2 hx
  · have hf:f<W.aj:=hf
    obtain⟨e1,e2,_⟩:=mP f hf jx λhh=>hx hh.1
    obtain⟨p1,p2,p3,p4⟩:=h.so f hf jx hx
    refine⟨?_,?_,?_,?_⟩
    · show(T f).st=2\/(T f).st=3\/(T f).st=4->cA W f=1/\cu W f=0/\bH W (T f).loc=7/\cF (W.ai (T f).loc.toNat) (W.lines (T f).loc.toNat) f=true
      rw[e1,e2];exact p1
    · show(T f).st=6->cA W f=1/\cu W f=0/\bH W (T f).loc=8/\cF (W.ai (T f).loc.toNat) (W.lines (T f).loc.toNat) f=true
      rw[e1,e2];exact p2
    · show(T f).st=1->cA W f=0/\cu W f=1/\(T f).loc= -1
      rw[e1,e2];exact p3
    · show(T f).st≠1->(T f).st≠2->(T f).st≠3->(T f).st≠4->(T f).st≠6->cA W f=0/\cu W f=0/\(T f).loc= -1
      rw[e1,e2];exact p4
  · have hf:f<W.aj:=hf
    obtain⟨l1,l2,l3,l4⟩:=eh.1 (h.ln f hf)
    have hm: ∀k,k<W.ai f->(T (W.lines f k).toNat).st=(W.tasks (W.lines f k).toNat).st/\(T (W.lines f k).toNat).loc=(W.tasks (W.lines f k).toNat).loc:=λk hk=>by
      obtain⟨a,b,_⟩:=l4 k hk
      have g:=mP (W.lines f k).toNat (by omega) b λhh=>GW hh.2.1 (by have:=z.lines;omega) hk (toNat_eq a.1 rfl)
      exact⟨g.1,g.2.1⟩
    refine eh.2 ⟨l1,l2,l3,λk hk=>?_⟩
    have hk:k<W.ai f:=hk
    obtain⟨a,b,c,d⟩:=l4 k hk
    refine⟨a,b,(hm k hk).2.trans c,?_⟩
    show((T (W.lines f k).toNat).st==4)=((T (W.lines f 0).toNat).st==4)
    rw[(hm k hk).1,(hm 0 (by omega)).1];exact d
  · refine lF.2 λmK=>?_
    obtain⟨a,b,c',d,e⟩:=lF.1 (h.co c hc) mK
    have g:=mP (W.ak c).toNat (by omega) b λhh=>(DU hh.2.2).2 c hc (toNat_eq a.1 rfl)
    exact⟨a,b,g.1.trans c',g.2.2.1.trans d,λhp=>absurd hp (by decide)⟩
  · refine kj.2 λk hk=>?_
    have hk:k<W.aq i:=hk
    obtain⟨a,b,c,d,e⟩:=kj.1 (h.rl i hi) k hk
    have g:=mP (W.ready i k).toNat (by omega) b λhh=>(DU hh.2.2).1 i k hi hk (toNat_eq a.1 rfl)
    exact⟨a,b,g.1.trans c,g.2.2.1.trans d,λhp=>(g.2.2.2.resolve_right λq=>q i k hi hk (toNat_eq a.1 rfl)).trans (e hp)⟩
theorem TS.WE {X:Nat->Prop} {W:Wd} {T:Nat->aM} (h:TS X W) (e: ∀f,f<W.aj->T f=W.tasks f):TS X {W with tasks:=T}:=
  h.all (λf hf h6=>by rw[e f hf];exact h.bl f hf h6) λf hf h6=>by
    obtain⟨a,b,c⟩:=h.nm f hf h6
    rw[e f hf];exact⟨a,b,c,rfl,.inr ⟨rfl,rfl,rfl,.inl rfl⟩⟩
theorem TS.set {X:Nat->Prop} {W:Wd} {t:Nat} {r:aM} (h:TS X W) (ht:t<W.aj) (hk:W.kinds t=6) (hr:jg r=false) (hn:fT W r=false) (hrf:gv W r=true) (ho:r.aE=(W.tasks t).aE)
    (hs:(X t/\cA W t=0/\cu W t=0)\/(r.st=(W.tasks t).st/\r.loc=(W.tasks t).loc/\r.core=(W.tasks t).core/\(r.prio=(W.tasks t).prio\/ ∀i k,i<W.aS->k<W.aq i->W.ready i k≠t))):TS X {W with tasks:=ah W.tasks t r}:=
  h.all (λf hf h6=>by rw[bh λe=>h6 (by rw[e];exact hk)];exact h.bl f hf h6) λf hf h6=>by
    rcases Decidable.em (f=t)with e|e
    · subst e;rw[aZ];exact⟨hr,hn,hrf,ho,hs⟩
    · obtain⟨a,b,c⟩:=h.nm f hf h6
      rw[bh e];exact⟨a,b,c,rfl,.inr ⟨rfl,rfl,rfl,.inl rfl⟩⟩
theorem TS.lists {X:Nat->Prop} {W W':Wd} (h:TS X W) (ec:fh W'=fh W) (et:W'.time=W.time) (ek:W'.kinds=W.kinds) (es:W'.tasks=W.tasks)
    (hq: ∀f,f<W.aj-> ¬X f->cA W' f=cA W f/\cu W' f=cu W f/\ ∀a,a<W.aW->cF (W.ai a) (W.lines a) f=true->cF (W'.ai a) (W'.lines a) f=true)
    (hl: ∀f,f<W.aj->fN W' f=true) (hc: ∀c,c<W.aC->ft W' c=true) (hr: ∀i,i<W.aS->ik W' i=true):TS X W':=by
  have z:=h.z
  have rq:=ec
  simp only[fh,List.cons.injEq,and_true]at rq
  obtain⟨c1,c2,c3,c4,c5,c6,c7,c8,c9,me⟩:=rq
  have ko: ∀x,bH W' x=bH W x:=λx=>by unfold bH;rw[ek,c2]
  refine⟨z.cg ec et,?_,?_,?_,?_,?_,?_,?_,?_⟩
  · rw[c2,ek,es];exact h.bl
  · rw[c2,ek,es]
    intro f hf h6
    obtain⟨a,b,c⟩:=h.nm f hf h6
    refine⟨a,?_,?_⟩
    · unfold fT at b⊢;rw[c7];exact b
    · unfold gv okF at c⊢;simp only[ko];exact c
  · rw[c2,ek,es];exact h.ow
  · rw[c2,ek,es]
    intro f hf h6
    have e:ca W' f=ca W f:=by unfold ca;rw[es,c4]
    rw[e];exact h.o1 f hf h6
  · rw[c2,ek]
    intro f hf h6 hx
    obtain⟨q1,q2,q3⟩:=hq f hf hx
    obtain⟨p1,p2,p3,p4⟩:=h.so f hf h6 hx
    have zl:=z.lines
    refine⟨?_,?_,?_,?_⟩<;>rw[es,q1,q2]
    · intro hs
      obtain⟨a,b,c,d⟩:=p1 hs
      have:=iO (W:=W) (f:=(W.tasks f).loc) (by rw[c];decide)
      exact⟨a,b,by rw[ko];exact c,q3 _ (by omega) d⟩
    · intro hs
      obtain⟨a,b,c,d⟩:=p2 hs
      have:=iO (W:=W) (f:=(W.tasks f).loc) (by rw[c];decide)
      exact⟨a,b,by rw[ko];exact c,q3 _ (by omega) d⟩
    · exact p3
    · exact p4
  · rw[c2];exact hl
  · rw[c7];exact hc
  · rw[c8];exact hr
end Go.Proofs.YthgmgkabnffniaaGreatDoor
set_option linter.unusedVariables false
set_option linter.unusedSimpArgs false
set_option maxRecDepth 100000
namespace Go.Proofs.YthgmgkabnffniaaGreatDoor
open Go.RowKit Go.Sy
def ry (t:aM):Int:=t.core*4+t.prio
def fa (t:aM):Nat:=(ry t).toNat
def mQ (W:Wd) (t i:Nat):aM:=ah W.tasks t {W.tasks t with st:=1,loc:= -1} i
def lz (W:Wd) (t i:Nat):Nat:=ah W.aq (fa (W.tasks t)) (W.aq (fa (W.tasks t))+1) i
def ml (W:Wd) (t i k:Nat):Int:=ah W.ready (fa (W.tasks t)) (jc (W.aq (fa (W.tasks t))) (W.ready (fa (W.tasks t))) t) i k
def eM (W:Wd) (t:Nat):Wd:={W with tasks:=mQ W t,aq:=lz W t,ready:=ml W t}
def sZ (W:Wd):Int:=W.aB (W.time/4%W.aK).toNat
theorem agT {z:Int} (J:0<=z) (h2:z<=1000000000):IntKind.i64.wrap z=z:=by rw[IntKind.wrap_i64];omega
theorem SN {n k:Nat} {f:Nat->Int} {x:Int} (h:k<n+1):(bif k.blt n then f k else[x].getD (k -n) 0)=jc n f x k:=by
  unfold jc
  rcases Nat.lt_or_ge k n with J|J
  · rw[ji J];rfl
  · obtain rfl:k=n:=by omega
    rw[nv (Nat.le_refl _),Nat.sub_self];rfl
theorem dk {x y:aM} (h:x=y):((((((((((((((((((((x.r0=y.r0/\x.r1=y.r1)/\x.r2=y.r2)/\x.r3=y.r3)/\x.r4=y.r4)/\x.r5=y.r5)/\x.r6=y.r6)/\x.r7=y.r7)/\x.pc=y.pc)/\x.st=y.st)/\x.prio=y.prio)/\x.node=y.node)/\x.space=y.space)/\x.helper=y.helper)/\x.loc=y.loc)/\x.word=y.word)/\x.bL=y.bL)/\x.aE=y.aE)/\x.core=y.core)/\x.cL=y.cL)):=by
  subst h;exact⟨⟨⟨⟨⟨⟨⟨⟨⟨⟨⟨⟨⟨⟨⟨⟨⟨⟨⟨rfl,rfl⟩,rfl⟩,rfl⟩,rfl⟩,rfl⟩,rfl⟩,rfl⟩,rfl⟩,rfl⟩,rfl⟩,rfl⟩,rfl⟩,rfl⟩,rfl⟩,rfl⟩,rfl⟩,rfl⟩,rfl⟩,rfl⟩
theorem S4 {W:Wd} {t j:Nat}:(bif j.beq (fa (W.tasks t))then W.aq (fa (W.tasks t))+1 else W.aq j)=lz W t j:=rfl
theorem S5 {W:Wd} {t j k:Nat} {x:Int} (hx:x=(t:Int)) (h:k<lz W t j):(bif j.beq (fa (W.tasks t))then bif k.blt (W.aq (fa (W.tasks t)))then W.ready (fa (W.tasks t)) k else[x].getD (k -W.aq (fa (W.tasks t))) 0 else W.ready j k)=ml W t j k:=by
  subst hx
  unfold ml
  rcases Decidable.em (j=fa (W.tasks t))with e|e
  · rw[e]at h⊢
    rw[Nat.beq_refl,aZ]
    refine SN ?_
    unfold lz at h;rw[aZ]at h;exact h
  · rw[fD e,bh e];rfl
structure je (W:Wd) (t:Int):Prop where
  t0:0<=t
  t1:t<W.aP
  r0:0<=ry (W.tasks t.toNat)
  r1:ry (W.tasks t.toNat)<W.aS
  c0:0<=(W.tasks t.toNat).core
  c1:(W.tasks t.toNat).core<=100
  p0:0<=(W.tasks t.toNat).prio
  p1:(W.tasks t.toNat).prio<=100
  n:W.aq (fa (W.tasks t.toNat))<=100000
structure Qw where
  (W:Wd)
def Qx:Sy.Spec:=⟨Qw,λ⟨W⟩=> [dV W],λ_=> [],λ⟨W⟩=>1<=W.aK/\W.aK<=100/\0<=W.time/\W.time<=100000000,λ⟨W⟩=> .v (.int .i64 (sZ W)),λ_=> [],
  λargs mem=>match args with| [a0]=>some ⟨dR a0⟩|_=>none⟩
def ab3:aT:=⟨[],(Qx).g,none⟩
def Qy:Qw->Prop:=λ⟨W⟩=>let a0:Int:=W.time/4;let b0:=((W.aK:Nat):Int);let c0:Int:=a0%b0;tn 8 ((0<=W.time/\(0:Int)<4/\ar a0=a0)/\tn 5 ((0<=a0/\0<b0)/\(0<=c0/\c0<b0)/\W.aB (Int.toNat c0)=sZ W/\True))
theorem O4:aU Tryz.prog aY 50 ab3:=bf .nil false Tryz.call50 Tryz.func50 (λ_=> []) (V:=Qy) (λ_=>by kernel_rfl) λ⟨W⟩ hp=>by
  dsimp only[Qx]at hp
  dsimp only[Qy,tn,ar,aD,aI,aJ,aH]
  simp only[bn,bD,eq_self,implies_true,Bool.cond_self]
  try simp only[eP]
  obtain⟨J,h2,h3,h4⟩:=hp
  have a0:0<=W.time/4:=Int.ediv_nonneg h3 (by decide)
  have a1:W.time/4<=W.time:=Int.ediv_le_self _ h3
  refine⟨⟨h3,by decide,agT a0 (by omega)⟩,⟨a0,by omega⟩,⟨Int.emod_nonneg _ (by omega),Int.emod_lt_of_pos _ (by omega)⟩,rfl⟩
structure Em where
  (t:Int) (W:Wd)
def H9:Sy.Spec:=⟨Em,λ⟨t,_⟩=> [.ptr 0 0 none 0 0,.v (.int .i64 t)],λ⟨_,W⟩=>cP W,λ⟨t,W⟩=>je W t,λ_=> .tp 0 (aL []),λ⟨t,W⟩=>cP (eM W t.toNat),
  λargs mem=>match args with| [a0,a1]=>some ⟨aw (a1),iG mem 0⟩|_=>none⟩
def ab4:aT:=⟨[true],(H9).g,none⟩
def Qz:Em->Prop:=λ⟨t,W⟩=>let a0:=0<=t/\t<((W.aP:Nat):Int);let b0:=Int.toNat t;let c0:=W.tasks (0+b0);let d0:Int:=c0.core*4;let e0:Int:=d0+c0.prio;let g0:=0<=e0/\e0<((W.aS:Nat):Int);let h0:=0+Int.toNat e0;let k0:=W.aq h0;let l0:=true=true;let o0:=True/\l0;let q0:=k0+1;a0/\(∀u0:Nat,false=false)/\a0/\(∀v0:Nat,false=false)/\tn 5 (a0/\tn 2 (ar d0=d0/\tn 5 (a0/\tn 2 (ar e0=e0/\tn 11 (g0/\True/\(k0*8<=140737488355328/\(∀w0:Nat,l0))/\tn 2 (tn 2 True/\(((∀x0:Nat,o0)/\(∀y0:Nat,o0)/\True)/\(k0+1)*8<=140737488355328/\(∀z0:Nat,l0))/\(q0*8<=140737488355328/\(∀a1:Nat,l0))/\g0/\(∀b1:Nat,Nat.beq 1 1=true)/\True/\aD {W with tasks:=λc1:Nat=>let d1:=W.tasks c1;{d1 with st:=cond (Nat.beq c1 (0+b0)) 1 d1.st,loc:=cond (Nat.beq c1 (0+b0)) (-1) d1.loc},aq:=λe1:Nat=>cond (Nat.beq e1 h0) q0 (W.aq e1),ready:=λg1:Nat=>λJ:Nat=>cond (Nat.beq g1 h0) (cond (Nat.blt J k0) (W.ready h0 (0+(0+J))) (List.getD [t] (0+(J-k0)) 0)) (W.ready g1 J)} {W with tasks:=mQ W b0,aq:=lz W b0,ready:=ml W b0} True))))))
theorem aak:aU Tryz.prog aY 47 ab4:=bf .nil false Tryz.call47 Tryz.func47 (λ_=> []) (V:=Qz) (λ_=>by kernel_rfl) λ⟨t,W⟩ hp=>by
  dsimp only[H9]at hp
  dsimp only[Qz,tn,ar,aD,aI,aJ,aH]
  simp only[bn,bD,eq_self,implies_true,Bool.cond_self]
  try simp only[eP]
  obtain⟨t0,t1,r0,r1,c0,c1,p0,p1,hn⟩:=hp
  have et:t=(t.toNat:Int):=by omega
  have w1:IntKind.i64.wrap ((W.tasks t.toNat).core*4)=(W.tasks t.toNat).core*4:=dA (by omega) (by omega)
  have w2:IntKind.i64.wrap ((W.tasks t.toNat).core*4+(W.tasks t.toNat).prio)=(W.tasks t.toNat).core*4+(W.tasks t.toNat).prio:=dA (by omega) (by omega)
  have n1:W.aq ((W.tasks t.toNat).core*4+(W.tasks t.toNat).prio).toNat<=100000:=hn
  have ls: ∀j,j<W.aS->_:=λj _=>And.intro (S4 (W:=W) (t:=t.toNat) (j:=j)) (λk hk=>S5 (W:=W) (t:=t.toNat) (j:=j) (k:=k) et hk)
  refine⟨⟨t0,t1⟩,⟨t0,t1⟩,⟨t0,t1⟩,w1,⟨t0,t1⟩,w2,⟨r0,r1⟩,by omega,by omega,by omega,⟨r0,r1⟩,λ_=>rfl,λj _=>by
    rcases Decidable.em (j=t.toNat)with h|h
    · subst h;simp only[Nat.beq_refl,cond_true];unfold mQ;rw[aZ];exact⟨⟨⟨⟨⟨⟨⟨⟨⟨⟨⟨⟨⟨⟨⟨⟨⟨⟨⟨rfl,rfl⟩,rfl⟩,rfl⟩,rfl⟩,rfl⟩,rfl⟩,rfl⟩,rfl⟩,rfl⟩,rfl⟩,rfl⟩,rfl⟩,rfl⟩,rfl⟩,rfl⟩,rfl⟩,rfl⟩,rfl⟩,rfl⟩
    · simp only[fD h,cond_false];unfold mQ;rw[bh h];exact dk rfl,λj hj=>ls j hj⟩
structure yD where
  (t:Int) (W:Wd)
def EK:Sy.Spec:=⟨yD,λ⟨t,_⟩=> [.ptr 0 0 none 0 0,.v (.int .i64 t)],λ⟨_,W⟩=>cP W,λ⟨t,W⟩=>je W t,λ_=> .tp 0 (aL []),λ⟨t,W⟩=>cP (eM W t.toNat),
  λargs mem=>match args with| [a0,a1]=>some ⟨aw (a1),iG mem 0⟩|_=>none⟩
def adL:aT:=⟨[true],(EK).g,none⟩
def S6:yD->Prop:=λ⟨t,W⟩=>let a0:=Int.toNat t;let b0:=0+a0;let c0:=W.tasks b0;let d0:Int:=c0.core*4;let e0:Int:=d0+c0.prio;let g0:=0+Int.toNat e0;let h0:=W.aq g0;let k0:=h0+1;(0<=t/\t<((W.aP:Nat):Int))/\(∀l0:Nat,false=false)/\(∀o0:Nat,false=false)/\tn 8 (ar d0=d0/\tn 4 (ar e0=e0/\(0<=e0/\e0<((W.aS:Nat):Int))/\True/\(True/\k0*8<=140737488355328/\(∀q0:Nat,true=true))/\(g0=g0/\(∀u0:Nat,Nat.beq 1 1=true))/\True/\aD {W with tasks:=λv0:Nat=>let w0:=W.tasks v0;{w0 with st:=cond (Nat.beq v0 b0) 1 w0.st,loc:=cond (Nat.beq v0 b0) (-1) w0.loc},aq:=λx0:Nat=>cond (Nat.beq x0 g0) k0 (W.aq x0),ready:=λy0:Nat=>λz0:Nat=>cond (Nat.beq y0 g0) (cond (Nat.blt z0 h0) (W.ready g0 (0+z0)) (List.getD [t] (0+(z0-h0)) 0)) (W.ready y0 z0)} {W with tasks:=mQ W a0,aq:=lz W a0,ready:=ml W a0} True))
theorem Qv:aU Tryz.prog aY 56 adL:=bf .nil false Tryz.call56 Tryz.func56 (λ_=> []) (V:=S6) (λ_=>by kernel_rfl) λ⟨t,W⟩ hp=>by
  dsimp only[EK]at hp
  dsimp only[S6,tn,ar,aD,aI,aJ,aH]
  simp only[bn,bD,eq_self,implies_true,Bool.cond_self]
  try simp only[eP]
  obtain⟨t0,t1,r0,r1,c0,c1,p0,p1,hn⟩:=hp
  have et:t=(t.toNat:Int):=by omega
  have w1:IntKind.i64.wrap ((W.tasks t.toNat).core*4)=(W.tasks t.toNat).core*4:=dA (by omega) (by omega)
  have w2:IntKind.i64.wrap ((W.tasks t.toNat).core*4+(W.tasks t.toNat).prio)=(W.tasks t.toNat).core*4+(W.tasks t.toNat).prio:=dA (by omega) (by omega)
  have n1:W.aq ((W.tasks t.toNat).core*4+(W.tasks t.toNat).prio).toNat<=100000:=hn
  have ls: ∀j,j<W.aS->_:=λj _=>And.intro (S4 (W:=W) (t:=t.toNat) (j:=j)) (λk hk=>S5 (W:=W) (t:=t.toNat) (j:=j) (k:=k) et hk)
  refine⟨⟨t0,t1⟩,w1,w2,⟨r0,r1⟩,by omega,λ_=>rfl,λj _=>by
    rcases Decidable.em (j=t.toNat)with h|h
    · subst h;simp only[Nat.beq_refl,cond_true];unfold mQ;rw[aZ];exact⟨⟨⟨⟨⟨⟨⟨⟨⟨⟨⟨⟨⟨⟨⟨⟨⟨⟨⟨rfl,rfl⟩,rfl⟩,rfl⟩,rfl⟩,rfl⟩,rfl⟩,rfl⟩,rfl⟩,rfl⟩,rfl⟩,rfl⟩,rfl⟩,rfl⟩,rfl⟩,rfl⟩,rfl⟩,rfl⟩,rfl⟩,rfl⟩
    · simp only[fD h,cond_false];unfold mQ;rw[bh h];exact dk rfl,λj hj=>ls j hj⟩
end Go.Proofs.YthgmgkabnffniaaGreatDoor
set_option linter.unusedVariables false
set_option linter.unusedSimpArgs false
set_option maxRecDepth 100000
namespace Go.Proofs.YthgmgkabnffniaaGreatDoor
open Go.RowKit Go.Sy
def W3:Go.Shelf.Ren:=⟨λ|23=>87|n=>n,λ|22=>22|3=>3|4=>4|0=>0|n=>n,λ|n=>n⟩
theorem W_:Go.Proofs.Lays2.n23 Tryz.prog W3:={
  mixed:=by kernel_rfl
  f23:=Tryz.func87.trans (congrArg some (by kernel_rfl))
  t0:=Tryz.underlying0
  a0:=Tryz.isAgg0
  z0:=Tryz.sizeOf0
  v0:=Tryz.zeroValue0
  t3:=Tryz.underlying3
  a3:=Tryz.isAgg3
  z3:=Tryz.sizeOf3
  v3:=Tryz.zeroValue3
  t4:=Tryz.underlying4
  a4:=Tryz.isAgg4
  z4:=Tryz.sizeOf4
  v4:=Tryz.zeroValue4
  t22:=Tryz.underlying22
  a22:=Tryz.isAgg22
  z22:=Tryz.sizeOf22
  v22:=Tryz.zeroValue22
  i3:=by kernel_rfl}
open Go.RowKit Go.Lib Go.Sort in
theorem W2 (b off n c i j:Nat) (zs:List Int) (w:World) (hz:n<=zs.length) (jF:n<=c) (hm:c<=9223372036854775807) (oR:i<=j) (hj:j<=n) (hc: ∀j,j<zs.length->w.cell? ⟨b,off+j,none⟩=some (.int .i64 (zs.getD j 0))) (hf: ∀j,j<n->w.frozen? ⟨b,off+j,none⟩=false):
    Calls Tryz.prog 87 #[.slice (some ⟨b,off,none⟩) n c,.int .i64 i,.int .i64 j] w λe w'=>e= .returned (.slice (some ⟨b,off,none⟩) (n -(j -i)) c)/\ ∃q,w'=(w.drewN q).setCells b off (((zs.take n).take i++(zs.take n).drop j++List.replicate (j -i) 0).map (Value.int .i64)):=Any.slices_Delete_int_cells W_ b off n c i j zs w hz jF hm oR hj hc hf
def lB (n:Nat) (f:Nat->Int) (i k:Nat):Int:=bif Nat.blt k (n -1)then oN f i k else 0
theorem ab5 {n i:Nat} {f:Nat->Int} (hi:i<n) {k:Nat} (hk:k<n):(((List.range n).map f).take i++((List.range n).map f).drop (i+1)++List.replicate (i+1 -i) 0)[k]? =some (lB n f i k):=by
  unfold lB oN
  rcases Nat.lt_or_ge k i with h|h
  · rw[ji (show k<n -1 by omega),ji h]
    rw[List.getElem?_append_left (by simp;omega),List.getElem?_append_left (by simp;omega)]
    simp[List.getElem?_take,h,hk]
  · rcases Nat.lt_or_ge k (n -1)with h2|h2
    · rw[ji h2,nv h]
      rw[List.getElem?_append_left (by simp;omega),List.getElem?_append_right (by simp;omega)]
      simp only[List.length_take,List.length_map,List.length_range,List.getElem?_drop,Nat.min_eq_left (Nat.le_of_lt hi)]
      rw[show i+1+(k -i)=k+1 by omega]
      simp[show k+1<n by omega]
    · rw[nv h2]
      obtain rfl:k=n -1:=by omega
      rw[List.getElem?_append_right (by simp;omega)]
      simp only[List.length_append,List.length_take,List.length_drop,List.length_map,List.length_range,Nat.min_eq_left (Nat.le_of_lt hi)]
      rw[show n -1 -(i+(n -(i+1)))=0 by omega,show i+1 -i=1 by omega]
      rfl
structure IN where
  (n i:Nat) (f:Nat->Int)
def S3:Sy.Spec:=⟨IN,λ⟨n,i,_⟩=> [.aO 0 0 none 0 n,.v (.int .i64 i),.v (.int .i64 (i+1))],λ⟨n,_,f⟩=> [.row 1 n (iF f)],λ⟨n,i,_⟩=>i<n,λ⟨n,_,_⟩=> .aO 0 0 none 0 (n -1),λ⟨n,i,f⟩=> [.row 1 n (iF (lB n f i))],
  λargs mem=>match args with| [a0,a1,a2]=>some ⟨qP mem 0,(aw a1).toNat,λi=>aw (nB mem 0 i 0)⟩|_=>none⟩
def adM:aT:=⟨[true],S3.g,none⟩
theorem ab2:aU Tryz.prog aY 87 adM:=yj Tryz.call87 λ⟨n,i,f⟩ hi w ω vs hG hm hd=>by
  have hi:i<n:=hi
  obtain⟨l⟩:=vs
  match l,hd with
  | [u0,u1,u2],hd=>
    obtain⟨h0,J,h2,_⟩:=hd
    have J:u1= .int .i64 i:=J
    have h2:u2= .int .i64 (i+1):=h2
    subst J h2
    rcases h0 with h0|⟨_,q,cap,rfl,c1,c2,h0⟩
    · rw[hm.cur]at h0;exact absurd h0 (Nat.not_lt_zero _)
    rcases h0 with h0|⟨L,hL,rfl,c3,c4⟩
    · omega
    obtain⟨r,e1,e2,e3,c,T,e4,e5,e6,e7⟩:=hm.row _ _ _ hL
    obtain rfl:r=⟨1,n,iF f⟩:=(Option.some.inj e1).symm
    have e2:1=L.sz:=e2
    have e3:n=L.dh:=e3
    have cell: ∀k,k<n->c[L.o+k]? =some (.int .i64 (f k)):=λk hk=>by
      obtain⟨x,x1,x2⟩:=e7 k (by omega) 0 (by omega)
      have x2:x= .int .i64 (f k):=x2
      rw[<-e2]at x1
      simpa [x2]using x1
    have a_: ∀k,k<n->L.o+k<c.size:=λk hk=>(Array.getElem?_eq_some_iff.1 (cell k hk)).1
    have BA:=W2 L.b L.o n cap i (i+1) ((List.range n).map f) w (by simp) c1 (by simpa [maxLen]using c2) (by omega) (by omega)
      (λk hk=>by
       have hk:k<n:=by simpa using hk
       simp[World.cell?,e4,cell k hk,List.getD_eq_getElem?_getD,hk])
      (λk hk=>by simp[World.frozen?,e4])
    have ht:((List.range n).map f).take n=(List.range n).map f:=List.take_of_length_le (by simp)
    rw[ht]at BA
    rw[show L.o+0*L.sz=L.o by omega]
    refine BA.mono ?_
    rintro e w' ⟨rfl,d,rfl⟩
    have jq:Cw w (w.drewN d):=⟨rfl,rfl,rfl,Nat.le_refl _,λ_ _=>rfl⟩
    have pO:=(bp.more hm jq).mem
    generalize pQ:(((List.range n).map f).take i++((List.range n).map f).drop (i+1)++List.replicate (i+1 -i) 0).map (Value.int .i64)=xs
    have hlen:xs.length=n:=by rw[<-pQ];simp;omega
    have jE: ∀v∈xs,v.oneCell'=true:=by
      intro v hv
      rw[<-pQ]at hv
      obtain⟨x,_,rfl⟩:=List.mem_map.1 hv
      rfl
    have hx: ∀k,k<n->xs[k]? =some (.int .i64 (lB n f i k)):=λk hk=>by
      rw[<-pQ,List.getElem?_map,ab5 hi hk];rfl
    obtain⟨q,UQ,w2,g1,g2,_,g4⟩:=HO (P:=Tryz.prog) pO (k:=0) (st:=0) (e:=0) (n:=n) (sz:=1) (nn:=n) (f:=iF f) (g:=iF (lB n f i)) (u:= .slice (some ⟨L.b,L.o,none⟩) n cap) rfl rfl
      (.inr ⟨by rw[pO.cur];rfl,_,cap,rfl,c1,c2,.inr ⟨L,hL,by simp,c3,c4⟩⟩) (c:=n) (Nat.le_refl _) (by omega) (λ_ _ _=>rfl) (xs:=xs) (by omega) jE (λk hk j hj=>⟨_,by
        obtain rfl:j=0:=by omega
        simpa using hx k hk,rfl⟩)
    obtain⟨rfl,_,rfl⟩:=Value.slice.inj g1
    have gw:=g2 _ rfl
    have Uq:=run_storeCells_cells (P:=Tryz.prog) L.b L.o xs 0 (w.drewN d) (λk hk=>by
      rw[hlen]at hk
      simp[World.cell?,e4,cell k hk]) (λk hk=>by simp[World.frozen?,e4]) jE
    rw[gw]at Uq
    have hw:w2=(w.drewN d).setCells L.b L.o xs:=by simpa using (Result.ok.inj Uq).2
    subst hw
    have bM:=((jq.ext ω).trans g4.ext)
    have rO: ∀k,k<n->kT 1 0 n (iF (lB n f i)) (iF f) k 0= .v (.int .i64 (lB n f i k)):=λk hk=>by
      have e:uZ 0 n k=true:=D9.2 ⟨Nat.zero_le _,by omega⟩
      show(match Nat.blt 0 1 with|true=>jC (uZ 0 n k) (dM (iF (lB n f i) (k -0) 0)) (iF f k 0)|false=>iF f k 0)=_
      rw[e];rfl
    have kW:aR ((w.drewN d).setCells L.b L.o xs) ω (di 0 [.row 1 n (iF (lB n f i))]):=by
      refine(g4.mem.Vs (k:=0) (e':=⟨0,0,none,.row 1 n (iF (lB n f i))⟩) ⟨rfl,rfl,rfl⟩ (λ_ h=>nomatch h) (λq L' fK r hr=>?_)).congr (λk=>?_)
      · cases q with
        |none=>
         obtain rfl:r=⟨1,n,kT 1 0 n (iF (lB n f i)) (iF f)⟩:=(Option.some.inj hr).symm
         refine⟨⟨1,n,iF (lB n f i)⟩,rfl,rfl,rfl,λa ha b hb y hy=>?_⟩
         obtain rfl:b=0:=by have:b<1:=hb
                            omega
         show iN _ _ _ 0 none a 0 (.v (.int .i64 (lB n f i a))) y
         rw[<-rO a ha]
         exact hy
        |some ij=>
         exfalso
         have hm4:=g4.mem.row 0 (some ij) L' fK
         have:=hm.row 0 (some ij) L' fK
         obtain⟨r0,h0,_⟩:=this
         cases h0
      · rcases Nat.eq_zero_or_pos k with h|h
        · subst h;rfl
        · have J:ae (di 0 [.row 1 n (iF (lB n f i))]) k=⟨0,0,none,.dead⟩:=by
            rw[mX,List.getElem?_eq_none (by simp;omega)]
          rw[J,cC (by omega),cC (by omega)]
          show _=ae (di 0 [.row 1 n (iF f)]) k
          rw[mX,List.getElem?_eq_none (by simp;omega)]
    refine⟨_,ω,rfl,⟨bM.os,bM.tape,bM.output,bM.same,bM.free,λ_ h=>h,bM.size⟩,kW,.inr ⟨by rw[kW.cur];rfl,_,cap,by rw[show i+1 -i=1 by omega],by omega,c2,.inr ⟨L,hL,by simp,c3,by omega⟩⟩,λk l hk h=>h⟩
end Go.Proofs.YthgmgkabnffniaaGreatDoor
set_option linter.unusedVariables false
set_option linter.unusedSimpArgs false
set_option maxRecDepth 100000
namespace Go.Proofs.YthgmgkabnffniaaGreatDoor
open Go.RowKit Go.Sy
def pY (W:Wd) (k:Nat):Nat:=dG (W.aq k) λi=>(W.tasks (W.ready k i).toNat).cL==sZ W
def dU (W:Wd) (k:Nat):Bool:=Nat.blt (pY W k) (W.aq k)
def eZ (W:Wd) (c:Nat):Nat:=bif dU W (c*4+3)then c*4+3 else bif dU W (c*4+2)then c*4+2 else bif dU W (c*4+1)then c*4+1 else c*4
def sq (W:Wd) (c j:Nat):Int:=bif dU W (eZ W c)then ah W.ak c (W.ready (eZ W c) (pY W (eZ W c))) j else W.ak j
def pZ (W:Wd) (c j:Nat):Nat:=bif dU W (eZ W c)then ah W.aq (eZ W c) (W.aq (eZ W c) -1) j else W.aq j
def rv (W:Wd) (c j k:Nat):Int:=bif dU W (eZ W c)then ah W.ready (eZ W c) (oN (W.ready (eZ W c)) (pY W (eZ W c))) j k else W.ready j k
def tv (W:Wd) (c:Nat):Wd:={W with ak:=sq W c,aq:=pZ W c,ready:=rv W c}
def sk (W:Wd) (c j:Nat):Int:=ah W.ak c (-1) j
def zg (W:Wd) (c:Nat):Wd:={W with ak:=sk W c}
def wW (W:Wd) (c:Nat):Wd:=eM (zg W c) (W.ak c).toNat
def ve (W:Wd) (c:Nat):Bool:=decide (0<=W.ak c)&&(W.tasks (W.ak c).toNat).cL !=sZ W
theorem je.fre {W:Wd} {t:Int} {c:Nat} (h:je W t):je (zg W c) t:=⟨h.t0,h.t1,h.r0,h.r1,h.c0,h.c1,h.p0,h.p1,h.n⟩
def fF (W:Wd) (c:Nat):Wd:=bif ve W c then wW W c else W
def dc (W:Wd) (c:Nat):Wd:=bif decide ((fF W c).ak c<0)then tv (fF W c) c else fF W c
theorem Inv.mono {L L':Nat} {W:Wd} (h:Inv L W) (hl:L<=L'):Inv L' W:=
  ⟨h.z,h.af,h.kd,h.dm,h.sl,h.tk,λi hi=>⟨Nat.le_trans (h.ln i hi).1 hl,(h.ln i hi).2⟩,λi hi=>⟨Nat.le_trans (h.rd i hi).1 hl,(h.rd i hi).2⟩,h.co,h.bt,λc hc=>Nat.le_trans (h.tl c hc) hl⟩
theorem H8 {L:Nat} {W:Wd} {t:Int} (h:Inv L W) (hl:L<=1000) (h0:0<=t) (J:t<W.aP):je W t:=by
  have hk:=h.tk t.toNat (by omega)
  have z1:=h.z.ready
  have z2:=h.z.c1
  have h2:=hk.core
  have h3:=hk.prio
  have r0:0<=ry (W.tasks t.toNat):=by unfold ry;omega
  have r1:ry (W.tasks t.toNat)<W.aS:=by unfold ry;omega
  exact⟨h0,J,r0,r1,h2.1,by omega,h3.1,by omega,by have:=(h.rd (fa (W.tasks t.toNat)) (by unfold fa;omega)).1;omega⟩
theorem bO.of {W W':Wd} (h:bO W) (e:W'.aj=W.aj/\W'.aC=W.aC/\W'.ay=W.ay/\W'.al=W.al/\W'.aP=W.aP/\W'.aW=W.aW/\W'.aN=W.aN/\W'.aS=W.aS/\W'.aQ=W.aQ/\W'.aK=W.aK/\W'.time=W.time):bO W':=by
  obtain⟨e1,e2,e3,e4,e5,e6,e7,e8,e9,rX,rY⟩:=e
  obtain⟨J,h2,h3,h4,h5,h6,h7,h8,h9,ib,fL,jM,lj,oY,nP⟩:=h
  exact⟨by rw[e1];exact J,by rw[e1];exact h2,by rw[e2];exact h3,by rw[e2];exact h4,by rw[e3,e1];exact h5,by rw[e4,e1];exact h6,by rw[e5,e1];exact h7,by rw[e6,e1];exact h8,by rw[e7,e1];exact h9,by rw[e8,e2];exact ib,by rw[e9,e2];exact fL,by rw[rX];exact jM,by rw[rX];exact lj,by rw[rY];exact oY,by rw[rY];exact nP⟩
theorem gq.of {W W':Wd} {t:aM} (h:gq W t) (e1:W'.aj=W.aj) (e2:W'.aC=W.aC):gq W' t:=
  ⟨h.cN,h.pc,h.word,h.bL,h.st,h.prio,by rw[e2];exact h.core,h.cL,by rw[e1];exact h.node,by rw[e1];exact h.space,by rw[e1];exact h.helper,by rw[e1];exact h.loc,by rw[e1];exact h.aE⟩
theorem abW {L:Nat} {W:Wd} {t:Nat} (h:Inv L W) (ht:t<W.aP):Inv (L+1) (eM W t):=by
  have zt:=h.z.tasks
  refine⟨h.z.of ⟨rfl,rfl,rfl,rfl,rfl,rfl,rfl,rfl,rfl,rfl,rfl⟩,h.af,h.kd,h.dm,h.sl,λi hi=>?_,λi hi=>⟨Nat.le_succ_of_le (h.ln i hi).1,(h.ln i hi).2⟩,λi hi=>?_,h.co,h.bt,λc hc=>Nat.le_succ_of_le (h.tl c hc)⟩
  · show gq (eM W t) (mQ W t i)
    refine gq.of (W:=W) ?_ rfl rfl
    unfold mQ
    rcases Decidable.em (i=t)with e|e
    · subst e
      rw[aZ]
      have k:=h.tk i hi
      have:=h.z.k0
      exact⟨k.cN,k.pc,k.word,k.bL,by show(0:Int)<=1/\(1:Int)<=6;decide,k.prio,k.core,k.cL,k.node,k.space,k.helper,by show(-1:Int)<= -1/\(-1:Int)<W.aj;omega,k.aE⟩
    · rw[bh e];exact h.tk i hi
  · show lz W t i<=L+1/\ ∀k,k<lz W t i->0<=ml W t i k/\ml W t i k<W.aP
    have hr:=h.rd i hi
    unfold lz ml
    rcases Decidable.em (i=fa (W.tasks t))with e|e
    · rw[<-e,aZ,aZ]
      refine⟨by omega,λk hk=>?_⟩
      unfold jc
      rcases Nat.lt_or_ge k (W.aq i)with J|J
      · rw[ji J];exact hr.2 k J
      · rw[nv J];show(0:Int)<=(t:Int)/\(t:Int)<W.aP;omega
    · rw[bh e,bh e]
      exact⟨by omega,hr.2⟩
theorem abX {L:Nat} {W:Wd} {c:Nat} (h:Inv L W):Inv L (zg W c):=by
  refine⟨h.z.of ⟨rfl,rfl,rfl,rfl,rfl,rfl,rfl,rfl,rfl,rfl,rfl⟩,h.af,h.kd,h.dm,h.sl,λi hi=>gq.of (W:=W) (h.tk i hi) rfl rfl,h.ln,h.rd,λj hj=>?_,h.bt,h.tl⟩
  show -1<=sk W c j/\sk W c j<W.aP
  unfold sk
  rcases Decidable.em (j=c)with e|e
  · subst e;rw[aZ];omega
  · rw[bh e];exact h.co j hj
theorem adG {W:Wd} {c s:Nat} (hs:s<=3) (hb: ∀q,q<s->dU W (c*4+(3 -q))=false) (h:dU W (c*4+(3 -s))=true):eZ W c=c*4+(3 -s):=by
  unfold eZ
  match s,hs with
  |0,_=>rw[show dU W (c*4+3)=true from h];rfl
  |1,_=>rw[show dU W (c*4+3)=false from hb 0 (by omega),show dU W (c*4+2)=true from h];rfl
  |2,_=>rw[show dU W (c*4+3)=false from hb 0 (by omega),show dU W (c*4+2)=false from hb 1 (by omega),show dU W (c*4+1)=true from h];rfl
  |3,_=>rw[show dU W (c*4+3)=false from hb 0 (by omega),show dU W (c*4+2)=false from hb 1 (by omega),show dU W (c*4+1)=false from hb 2 (by omega)];rfl
theorem aag {W:Wd} {c:Nat} (hb: ∀q,q<4->dU W (c*4+(3 -q))=false):dU W (eZ W c)=false:=by
  unfold eZ
  rw[show dU W (c*4+3)=false from hb 0 (by omega),show dU W (c*4+2)=false from hb 1 (by omega),show dU W (c*4+1)=false from hb 2 (by omega)]
  exact hb 3 (by omega)
theorem adH {W:Wd} {c K j k:Nat} (hK:eZ W c=K) (h:dU W K=true) (hk:k<pZ W c j):(bif j.beq K then lB (W.aq K) (W.ready K) (pY W K) k else W.ready j k)=rv W c j k:=by
  unfold rv
  unfold pZ at hk
  rw[hK,h]at*
  rcases Decidable.em (j=K)with e|e
  · subst e
    have hk:k<W.aq j -1:=by rw[cond_true,aZ]at hk;exact hk
    rw[Nat.beq_refl,cond_true,cond_true,aZ]
    unfold lB;rw[ji hk];rfl
  · rw[fD e,cond_false,cond_true,bh e]
theorem abY {W:Wd} {k:Nat}:decide (0<=gz (W.aq k) λg=>(W.tasks (W.ready k g).toNat).cL==sZ W)=dU W k:=by
  unfold gz dU pY
  cases Nat.blt (dG (W.aq k) λg=>(W.tasks (W.ready k g).toNat).cL==sZ W) (W.aq k)
  · rfl
  · exact decide_eq_true (Int.natCast_nonneg _)
theorem abZ {W:Wd} {k:Nat} (h:dU W k=true):(gz (W.aq k) λg=>(W.tasks (W.ready k g).toNat).cL==sZ W)=(pY W k:Nat):=by
  unfold gz;unfold dU pY at h;rw[h];rfl
def afx (W:Wd) (c:Nat) (l:List (Nat×SV)) (r:List (Nat×Nat)):cG where
  σ:=Nat
  rt:=r
  sh s:=(5,.v (.int .i64 (3 -(s:Int))))::l
  mh _:= []
  inv s:=s<=4/\ ∀q,q<s->dU W (c*4+(3 -q))=false
  μ s:=4 -s
  init:=0
def adI (z n:Nat) (p:Nat->Bool):cG where
  σ:=Nat
  rt:= []
  sh i:= [(z,.v (.int .i64 i))]
  mh _:= []
  inv i:=i<=n/\ ∀j,j<i->p j=false
  μ i:=n -i
  init:=0
structure OY where
  (c:Int) (W:Wd)
def OZ:Sy.Spec:=⟨OY,λ⟨c,_⟩=> [.ptr 0 0 none 0 0,.v (.int .i64 c)],λ⟨_,W⟩=>cP W,λ⟨c,W⟩=>0<=c/\c<W.aC/\je W (W.ak c.toNat),λ_=> .tp 0 (aL []),λ⟨c,W⟩=>cP (wW W c.toNat),
  λargs mem=>match args with| [a0,a1]=>some ⟨aw (a1),iG mem 0⟩|_=>none⟩
def aah:aT:=⟨[true],(OZ).g,none⟩
def O0:OY->Prop:=λ⟨c,W⟩=>let a0:=0<=c/\c<((W.aC:Nat):Int);let b0:=SV.ptr 0 0 none 0 0;let c0:=Int.toNat c;let d0:=W.ak (0+c0);let e0:={W with ak:=λg0:Nat=>cond (Nat.beq g0 (0+c0)) (-1) (W.ak g0)};let h0:=Int.toNat d0;let k0:=zg W c0;let l0:=Int.toNat (W.ak c0);a0/\a0/\(∀o0:Nat,false=false)/\((b0=b0/\d0=d0/\True)/\aD e0 e0 True/\EK.match_1 (λq0:yD=>Prop) (yD.mk d0 e0) (λr0:Int=>λu0:Wd=>je u0 r0))/\True/\aD {W with tasks:=mQ e0 h0,ak:=λv0:Nat=>cond (Nat.beq v0 (0+c0)) (-1) (W.ak v0),aq:=lz e0 h0,ready:=ml e0 h0} {W with tasks:=mQ k0 l0,ak:=sk W c0,aq:=lz k0 l0,ready:=ml k0 l0} True
theorem YV:aU Tryz.prog aY 51 aah:=bf (.cons Qv .nil) false Tryz.call51 Tryz.func51 (λ_=> []) (V:=O0) (λ_=>by kernel_rfl) λ⟨c,W⟩ hp=>by
  dsimp only[OZ]at hp
  dsimp only[O0,tn,ar,aD,aI,aJ,aH]
  simp only[bn,bD,eq_self,implies_true,Bool.cond_self]
  try simp only[eP]
  obtain⟨c0,c1,hw⟩:=hp
  exact⟨⟨c0,c1⟩,⟨c0,c1⟩,hw.fre (c:=c.toNat),λj _=>dk rfl,λj _=>rfl,λj _=>⟨rfl,λk _=>rfl⟩⟩
structure SX where
  (t:Int) (W:Wd) (d:Int)
def SY:Sy.Spec:=⟨SX,λ⟨t,W,d⟩=> [.v (.int .i64 t),.pt true 1 (λ_=>dV W),.pt true 1 (λ_=> .v (.int .i64 d))],λ_=> [],λ⟨t,W,_⟩=>0<=t/\t<W.aP,λ⟨t,W,d⟩=> .v (.bool ((W.tasks t.toNat).cL==d)),λ_=> [],
  λargs mem=>match args with| [a0,a1,a2]=>some ⟨aw (a0),dR (bQ a1 0),aw (bQ a2 0)⟩|_=>none⟩
def adJ:aT:=⟨[],(SY).g,none⟩
def SZ:SX->Prop:=λ⟨t,W,d⟩=>let a0:=(W.tasks (Int.toNat t)).cL==d;tn 5 ((0<=t/\t<((W.aP:Nat):Int))/\tn 3 (a0=a0/\True))
theorem ab0:aU Tryz.prog aY 86 adJ:=bf .nil false Tryz.call86 Tryz.func86 (λ_=> []) (V:=SZ) (λ_=>by kernel_rfl) λ⟨t,W,d⟩ hp=>by
  dsimp only[SY]at hp
  dsimp only[SZ,tn,ar,aD,aI,aJ,aH]
  simp only[bn,bD,eq_self,implies_true,Bool.cond_self]
  try simp only[eP]
  exact hp
structure S0 where
  (n:Nat) (l:Nat->Int) (W:Wd) (d:Int)
def S1:Sy.Spec:=⟨S0,λ⟨n,l,W,d⟩=> [.sl true 1 n (λi_ _=> .v (.int .i64 (l i_))),.fn 86 2 (aL [.pt true 1 (λ_=>dV W),.pt true 1 (λ_=> .v (.int .i64 d))])],λ_=> [],λ⟨n,l,W,_⟩=>n<=100000/\ ∀k,k<n->0<=l k/\l k<W.aP,λ⟨n,l,W,d⟩=> .v (.int .i64 (gz n λk=>(W.tasks (l k).toNat).cL==d)),λ_=> [],
  λargs mem=>match args with| [a0,a1]=>some ⟨bX a0,λi=>aw (bN a0 i 0),dR (bQ (fl a1 0) 0),aw (bQ (fl a1 1) 0)⟩|_=>none⟩
def adK:aT:=⟨[],(S1).g,none⟩
def S2:S0->Prop:=λ⟨n,l,W,d⟩=>let a0:=(n:Int);let b0:=W.aj;let c0:=W.al;let d0:=W.aP;let e0:=W.aW;let g0:=W.aC;let h0:=W.aS;let k0:=gz n (λl0:Nat=>(W.tasks (Int.toNat (l l0))).cL==d);a0<=9223372036854775807->0=((0:Nat):Int)/\True/\(0<=n/\(∀o0:Nat,o0<0->((W.tasks (Int.toNat (l o0))).cL==d)=false))/\(∀q0:Nat,let r0:=(q0:Int);let u0:=decide (r0<a0);let v0:Int:=l (Int.toNat r0);let w0:=(W.tasks (Int.toNat v0)).cL==d;let x0:Int:=r0+1;q0<=n/\(∀y0:Nat,y0<q0->((W.tasks (Int.toNat (l y0))).cL==d)=false)->(u0=true->(0<=r0/\r0<a0)/\((v0=v0/\(True/\((((((((((True/\W.ay=W.ay/\(∀z0:Nat,z0<W.ay->True/\W.af z0=W.af z0))/\b0=b0/\(∀a1:Nat,a1<b0->True/\W.kinds a1=W.kinds a1))/\c0=c0/\(∀b1:Nat,b1<c0->aJ (W.aa b1) (W.aa b1)))/\d0=d0/\(∀c1:Nat,c1<d0->aI (W.tasks c1) (W.tasks c1)))/\e0=e0/\(∀d1:Nat,let e1:=W.ai d1;d1<e0->True/\e1=e1/\(∀g1:Nat,g1<e1->True/\W.lines d1 g1=W.lines d1 g1)))/\W.aN=W.aN/\(∀J:Nat,J<W.aN->True/\W.bits J=W.bits J))/\g0=g0/\(∀k1:Nat,k1<g0->True/\W.ak k1=W.ak k1))/\h0=h0/\(∀l1:Nat,let o1:=W.aq l1;l1<h0->True/\o1=o1/\(∀q1:Nat,q1<o1->True/\W.ready l1 q1=W.ready l1 q1)))/\W.aQ=W.aQ/\(∀r1:Nat,let u1:=W.aG r1;r1<W.aQ->True/\u1=u1/\(∀v1:Nat,v1<u1->aH (W.aA r1 v1) (W.aA r1 v1))))/\W.aK=W.aK/\(∀w1:Nat,w1<W.aK->True/\W.aB w1=W.aB w1))/\W.time=W.time)/\(True/\d=d)/\True)/\True/\0<=v0/\v0<(d0:Int))/\(w0=true->r0=k0/\True)/\(w0=false->ar x0=x0/\(∃x1:Nat,x0=(x1:Int)/\True/\(x1<=n/\(∀y1:Nat,y1<x1->((W.tasks (Int.toNat (l y1))).cL==d)=false))/\n-x1<n-q0)))/\(u0=false->(-1)=k0/\True))
theorem ab1:aU Tryz.prog aY 85 adK:=bf (.cons ab0 .nil) false Tryz.call85 Tryz.func85 (λ⟨n,l,W,d⟩=> [.inv (adI 8 n λk=>(W.tasks (l k).toNat).cL==d)]) (V:=S2) (λ_=>by kernel_rfl) λ⟨n,l,W,d⟩ hp=>by
  dsimp only[S1]at hp
  dsimp only[S2,tn,ar,aD,aI,aJ,aH]
  simp only[bn,bD,eq_self,implies_true,Bool.cond_self]
  try simp only[eP]
  obtain⟨hn,hl⟩:=hp
  refineλ_ s hs=>⟨λh=>?_,λh=>?_⟩
  · have av:=fO h
    exact⟨by omega,hl s av,λh=>(Ej (p:=λk=>(W.tasks (l k).toNat).cL==d) hs.2 h av).symm,λh=>⟨dA (by omega) (by omega),fB ⟨⟨by omega,jU (p:=λk=>(W.tasks (l k).toNat).cL==d) hs.2 h⟩,by omega⟩⟩⟩
  · have dz:=ga h
    obtain rfl:s=n:=by omega
    exact(yd (p:=λk=>(W.tasks (l k).toNat).cL==d) hs.2).symm
structure O1 where
  (c:Int) (W:Wd)
def O2:Sy.Spec:=⟨O1,λ⟨c,_⟩=> [.ptr 0 0 none 0 0,.v (.int .i64 c)],λ⟨_,W⟩=>cP W,λ⟨c,W⟩=>Inv 1000 W/\0<=c/\c<W.aC,λ_=> .tp 0 (aL []),λ⟨c,W⟩=>cP (tv W c.toNat),
  λargs mem=>match args with| [a0,a1]=>some ⟨aw (a1),iG mem 0⟩|_=>none⟩
def aai:aT:=⟨[true],(O2).g,none⟩
def O3:O1->Prop:=λ⟨c,W⟩=>let a0:=W.ay;let b0:=W.aj;let c0:=W.al;let d0:=W.aP;let e0:=W.aW;let g0:=W.aN;let h0:=W.aC;let k0:=W.aS;let l0:=W.aQ;let o0:=W.aK;let q0:=W.time;let r0:=((((((((((True/\a0=a0/\(∀u0:Nat,u0<a0->True/\W.af (0+u0)=W.af (0+u0)))/\b0=b0/\(∀v0:Nat,let w0:=W.kinds (0+v0);v0<b0->True/\w0=w0))/\c0=c0/\(∀x0:Nat,let y0:=W.aa (0+x0);x0<c0->aJ y0 y0))/\d0=d0/\(∀z0:Nat,let a1:=W.tasks (0+z0);z0<d0->aI a1 a1))/\e0=e0/\(∀b1:Nat,let c1:=W.ai (0+b1);b1<e0->True/\c1=c1/\(∀d1:Nat,let e1:=W.lines (0+b1) (0+d1);d1<c1->True/\e1=e1)))/\g0=g0/\(∀g1:Nat,g1<g0->True/\W.bits (0+g1)=W.bits (0+g1)))/\h0=h0/\(∀J:Nat,let k1:=W.ak (0+J);J<h0->True/\k1=k1))/\k0=k0/\(∀l1:Nat,let o1:=W.aq (0+l1);l1<k0->True/\o1=o1/\(∀q1:Nat,let r1:=W.ready (0+l1) (0+q1);q1<o1->True/\r1=r1)))/\l0=l0/\(∀u1:Nat,let v1:=W.aG (0+u1);u1<l0->True/\v1=v1/\(∀w1:Nat,let x1:=W.aA (0+u1) (0+w1);w1<v1->aH x1 x1)))/\o0=o0/\(∀y1:Nat,y1<o0->True/\W.aB (0+y1)=W.aB (0+y1)))/\q0=q0;let z1:=SV.ptr 0 0 none 0 0;let a2:=z1=z1;let b2:=SV.ptr 11 0 none 0 0;let c2:=b2=b2;let d2:=SV.ptr 12 0 none 0 0;let e2:=d2=d2;
    let g2:=sZ (Wd.mk a0 (λh2:Nat=>W.af (0+h2)) b0 (λk2:Nat=>W.kinds (0+k2)) c0 (λl2:Nat=>W.aa (0+l2)) d0 (λo2:Nat=>W.tasks (0+o2)) e0 (λq2:Nat=>W.ai (0+q2)) (λr2:Nat=>λu2:Nat=>W.lines (0+r2) (0+u2)) g0 (λv2:Nat=>W.bits (0+v2)) h0 (λw2:Nat=>W.ak (0+w2)) k0 (λx2:Nat=>W.aq (0+x2)) (λy2:Nat=>λz2:Nat=>W.ready (0+y2) (0+z2)) l0 (λa3:Nat=>W.aG (0+a3)) (λb3:Nat=>λc3:Nat=>W.aA (0+b3) (0+c3)) o0 (λd3:Nat=>W.aB (0+d3)) q0);let e3:=True/\g2=g2;let g3:=aD W W ((True/\a2)/\e3/\True);let h3:=Int.toNat c;let k3:=h3*4;let l3:Int:=c*4;let o3:={W with ak:=sq W h3,aq:=pZ W h3,ready:=rv W h3};True/\((r0/\True)/\True/\1<=o0/\o0<=100/\0<=q0/\q0<=100000000)/\tn 2 (3=3-((0:Nat):Int)/\a2/\c2/\e2/\g3/\(0<=4/\(∀q3:Nat,q3<0->dU W (k3+(3-q3))=false))/\(∀r3:Nat,let u3:Int:=3-(r3:Int);let v3:=decide (0<=u3);let w3:Int:=l3+u3;let x3:=0+Int.toNat w3;let y3:=W.aq x3;let z3:=y3=y3;let a4:=gz y3 (λb4:Nat=>(W.tasks (0+Int.toNat (W.ready x3 (0+b4)))).cL==g2);let c4:=decide (0<=a4);let d4:Int:=a4+1;let e4:=Int.toNat a4;let g4:=(e4:Int);let h4:=W.ready x3;let k4:Int:=u3-1;r3<=4/\(∀l4:Nat,l4<r3->dU W (k3+(3-l4))=false)->(v3=true->ar l3=l3/\ar w3=w3/\(0<=w3/\w3<(k0:Int))/\(((z3/\(∀o4:Nat,o4<y3->True/\h4 (0+o4)=h4 (0+o4)))/\(tn 2 r0/\e3)/\True)/\True/\y3<=100000/\(∀q4:Nat,q4<y3->0<=h4 (0+q4)/\h4 (0+q4)<(d0:Int)))/\(c4=true->tn 9 ((0<=a4/\a4<(y3:Int))/\True/\(0<=c/\c<(h0:Int))/\(∀r4:Nat,false=false)/\ar d4=d4/\(((0=0/\z3)/\a4=g4/\d4=g4+1/\True)/\((z3/\(∀u4:Nat,u4<y3->True/\h4 u4=h4 u4))/\
    True)/\S3.match_1 (λv4:IN=>Prop) (IN.mk y3 e4 h4) (λw4:Nat=>λx4:Nat=>λy4:∀z4:Nat,Int=>x4<w4))/\(x3=x3/\(∀a5:Nat,Nat.beq 1 1=true))/\True/\aD {W with ak:=λb5:Nat=>cond (Nat.beq b5 (0+h3)) (h4 (0+e4)) (W.ak b5),aq:=λc5:Nat=>cond (Nat.beq c5 x3) (y3-1) (W.aq c5),ready:=λd5:Nat=>λe5:Nat=>cond (Nat.beq d5 x3) (lB y3 h4 e4 e5) (W.ready d5 e5)} o3 True))/\(c4=false->ar k4=k4/\(∃g5:Nat,k4=3-(g5:Int)/\a2/\c2/\e2/\g3/\(g5<=4/\(∀h5:Nat,h5<g5->dU W (k3+(3-h5))=false))/\4-g5<4-r3)))/\(v3=false->True/\aD W o3 True)))
theorem YW:aU Tryz.prog aY 52 aai:=bf (.cons O4 (.cons ab1 (.cons ab2 .nil))) false Tryz.call52 Tryz.func52 (λ⟨c,W⟩=> [.inv (afx W c.toNat [(0,de 0),(2,de 11),(4,de 12)] [(2,0),(4,0)])]) (V:=O3) (λ_=>by kernel_rfl) λ⟨c,W⟩ hp=>by
  dsimp only[O2]at hp
  dsimp only[O3,tn,ar,aD,aI,aJ,aH]
  simp only[bn,bD,eq_self,implies_true,Bool.cond_self]
  try simp only[eP]
  obtain⟨hI,c0,c1⟩:=hp
  obtain⟨C,rfl⟩: ∃C:Nat,c=C:=⟨c.toNat,by omega⟩
  have z1:=hI.z.c1
  have z2:=hI.z.ready
  have z3:=hI.z.d1
  have z4:=hI.z.t1
  simp only[Int.toNat_natCast]
  refine⟨⟨hI.z.d0,by omega,hI.z.t0,by omega⟩,by omega,λs hs=>⟨λh=>?_,λh=>?_⟩⟩
  · have h3:s<=3:=by have:=of_decide_eq_true h;omega
    have ek:((C:Int)*4+(3 -(s:Int))).toNat=C*4+(3 -s):=by omega
    have hr:=hI.rd (C*4+(3 -s)) (by omega)
    simp only[ek,abY]
    refine⟨dA (by omega) (by omega),dA (by omega) (by omega),⟨by omega,by omega⟩,⟨by omega,hr.2⟩,λh4=>?_,λh4=>?_⟩
    · have av:pY W (C*4+(3 -s))<W.aq (C*4+(3 -s)):=Nat.le_of_ble_eq_true h4
      have K:=adG h3 hs.2 h4
      rw[abZ h4]
      simp only[Int.toNat_natCast]
      refine⟨⟨by omega,by omega⟩,⟨by omega,by omega⟩,dA (by omega) (by omega),⟨⟨trivial,trivial⟩,av⟩,λ_=>rfl,λj _=>?_,λj _=>⟨?_,λk hk=>adH K h4 hk⟩⟩
      · unfold sq;rw[K,h4];rfl
      · unfold pZ;rw[K,h4];rfl
    · exact⟨dA (by omega) (by omega),s+1,by omega,⟨by omega,jU hs.2 h4⟩,by omega⟩
  · have h3:s=4:=by have:=of_decide_eq_false h;omega
    subst h3
    have hn:=aag hs.2
    refine⟨λj _=>?_,λj _=>⟨?_,λk _=>?_⟩⟩
    · unfold sq;rw[hn];rfl
    · unfold pZ;rw[hn];rfl
    · unfold rv;rw[hn];rfl
structure O5 where
  (c:Int) (W:Wd)
def O6:Sy.Spec:=⟨O5,λ⟨c,_⟩=> [.ptr 0 0 none 0 0,.v (.int .i64 c)],λ⟨_,W⟩=>cP W,λ⟨c,W⟩=>Inv 999 W/\0<=c/\c<W.aC,λ_=> .tp 0 (aL []),λ⟨c,W⟩=>cP (dc W c.toNat),
  λargs mem=>match args with| [a0,a1]=>some ⟨aw (a1),iG mem 0⟩|_=>none⟩
def aaj:aT:=⟨[true],(O6).g,none⟩
def O7:O5->Prop:=λ⟨c,W⟩=>let a0:=W.aC;let b0:=c<(a0:Int);let c0:=0<=c/\b0;let d0:=Int.toNat c;let e0:=W.ak (0+d0);let g0:=decide (0<=e0);let h0:=g0=true;let k0:=W.aP;let l0:=W.ay;let o0:=W.aj;let q0:=W.al;let r0:=W.aW;let u0:=W.aN;let v0:=W.aS;let w0:=W.aQ;let x0:=W.aK;let y0:=W.time;let z0:=cond g0 ((W.tasks (0+Int.toNat e0)).cL !=sZ (Wd.mk l0 (λa1:Nat=>W.af (0+a1)) o0 (λb1:Nat=>W.kinds (0+b1)) q0 (λc1:Nat=>W.aa (0+c1)) k0 (λd1:Nat=>W.tasks (0+d1)) r0 (λe1:Nat=>W.ai (0+e1)) (λg1:Nat=>λJ:Nat=>W.lines (0+g1) (0+J)) u0 (λk1:Nat=>W.bits (0+k1)) a0 (λl1:Nat=>W.ak (0+l1)) v0 (λo1:Nat=>W.aq (0+o1)) (λq1:Nat=>λr1:Nat=>W.ready (0+q1) (0+r1)) w0 (λu1:Nat=>W.aG (0+u1)) (λv1:Nat=>λw1:Nat=>W.aA (0+v1) (0+w1)) x0 (λx1:Nat=>W.aB (0+x1)) y0)) false;let y1:=SV.ptr 0 0 none 0 0;let z1:=y1=y1/\c=c/\True;let a2:=W.ak d0;let b2:=decide (sk W d0 (0+d0)<0);let c2:=zg W d0;let d2:=Int.toNat a2;let e2:=mQ c2 d2;let g2:={W with tasks:=e2,ak:=sk W d0,aq:=lz c2 d2,ready:=ml c2 d2};let h2:=eM c2 d2;let k2:=dc W d0;let l2:=decide (W.ak (0+d0)<0);c0/\tn 8 ((h0->0<=e0/\e0<(k0:Int))/\tn 3 ((h0->((((((((((((True/\l0=l0/\(∀o2:Nat,o2<l0->True/\W.af (0+o2)=W.af (0+o2)))/\o0=o0/\(∀q2:Nat,let r2:=W.kinds (0+q2);q2<o0->True/\r2=r2))/\q0=q0/\(∀u2:Nat,let v2:=W.aa (0+u2);u2<q0->aJ v2 v2))/\k0=k0/\(∀w2:Nat,let x2:=W.tasks (0+w2);w2<k0->aI x2 x2))/\r0=r0/\(∀y2:Nat,let z2:=W.ai (0+y2);y2<r0->True/\z2=z2/\(∀a3:Nat,
    let b3:=W.lines (0+y2) (0+a3);a3<z2->True/\b3=b3)))/\u0=u0/\(∀c3:Nat,c3<u0->True/\W.bits (0+c3)=W.bits (0+c3)))/\a0=a0/\(∀d3:Nat,let e3:=W.ak (0+d3);d3<a0->True/\e3=e3))/\v0=v0/\(∀g3:Nat,let h3:=W.aq (0+g3);g3<v0->True/\h3=h3/\(∀k3:Nat,let l3:=W.ready (0+g3) (0+k3);k3<h3->True/\l3=l3)))/\w0=w0/\(∀o3:Nat,let q3:=W.aG (0+o3);o3<w0->True/\q3=q3/\(∀r3:Nat,let u3:=W.aA (0+o3) (0+r3);r3<q3->aH u3 u3)))/\x0=x0/\(∀v3:Nat,v3<x0->True/\W.aB (0+v3)=W.aB (0+v3)))/\y0=y0)/\True)/\True/\1<=x0/\x0<=100/\0<=y0/\y0<=100000000)/\(z0=true->(z1/\aD W W True/\0<=c/\b0/\je W a2)/\c0/\(b2=true->(z1/\aD g2 g2 True/\Inv 1000 h2/\c0)/\True/\aD {W with tasks:=e2,ak:=sq h2 d0,aq:=pZ h2 d0,ready:=rv h2 d0} k2 True)/\(b2=false->True/\aD g2 k2 True))/\(z0=false->c0/\(l2=true->(z1/\aD W W True/\Inv 1000 W/\c0)/\True/\aD {W with ak:=sq W d0,aq:=pZ W d0,ready:=rv W d0} k2 True)/\(l2=false->True/\aD W k2 True))))
set_option maxHeartbeats 2000000 in
theorem YX:aU Tryz.prog aY 22 aaj:=bf (.cons O4 (.cons YV (.cons YW .nil))) false Tryz.call22 Tryz.func22 (λ_=> []) (V:=O7) (λ_=>by kernel_rfl) λ⟨c,W⟩ hp=>by
  dsimp only[O6]at hp
  dsimp only[O7,tn,ar,aD,aI,aJ,aH]
  simp only[bn,bD,eq_self,implies_true,Bool.cond_self]
  try simp only[eP]
  obtain⟨hI,c0,c1⟩:=hp
  obtain⟨C,rfl⟩: ∃C:Nat,c=C:=⟨c.toNat,by omega⟩
  simp only[Int.toNat_natCast]
  have hc:=hI.co C (by omega)
  have z3:=hI.z.d1
  have z4:=hI.z.t1
  refine⟨⟨c0,c1⟩,λh=>⟨of_decide_eq_true h,hc.2⟩,λ_=>⟨hI.z.d0,by omega,hI.z.t0,by omega⟩,λh=>?_,λh=>?_⟩
  · have h0:0<=W.ak C:=by have:=(Bool.and_eq_true _ _▸h).1;exact of_decide_eq_true this
    have e1:fF W C=wW W C:=by unfold fF;rw[show ve W C=true from h];rfl
    have iv:Inv 1000 (wW W C):=abW (abX hI) (by show(W.ak C).toNat<W.aP;omega)
    refine⟨⟨c0,c1,H8 hI (by decide) h0 hc.2⟩,⟨c0,c1⟩,λh2=>?_,λh2=>?_⟩
    · have e2:dc W C=tv (wW W C) C:=by unfold dc;rw[e1,show decide ((wW W C).ak C<0)=true from h2];rfl
      refine⟨⟨iv,c0,c1⟩,?_⟩
      rw[e2]
      repeat' (first|exact trivial|rfl|refine And.intro ?_ ?_|intro _|fail)
    · have:sk W C C= -1:=aZ
      have:=of_decide_eq_false h2
      omega
  · have e1:fF W C=W:=by unfold fF;rw[show ve W C=false from h];rfl
    refine⟨⟨c0,c1⟩,λh2=>?_,λh2=>?_⟩
    · have e2:dc W C=tv W C:=by unfold dc;rw[e1,show decide (W.ak C<0)=true from h2];rfl
      refine⟨⟨hI.mono (by decide),c0,c1⟩,?_⟩
      rw[e2]
      repeat' (first|exact trivial|rfl|refine And.intro ?_ ?_|intro _|fail)
    · have e2:dc W C=W:=by unfold dc;rw[e1,show decide (W.ak C<0)=false from h2];rfl
      rw[e2]
      repeat' (first|exact trivial|rfl|refine And.intro ?_ ?_|intro _|fail)
end Go.Proofs.YthgmgkabnffniaaGreatDoor
set_option linter.unusedVariables false
set_option linter.unusedSimpArgs false
set_option maxRecDepth 100000
namespace Go.Proofs.YthgmgkabnffniaaGreatDoor
open Go.RowKit Go.Sy
def Ap (W:Wd) (t:Nat) (b g:Int) (i:Nat):aM:=ah W.tasks t {W.tasks t with r1:=b,r2:=g} i
def dw (W:Wd) (t:Nat) (b g:Int):Wd:={W with tasks:=Ap W t b g}
def dT (W:Wd) (t:Int) (j:Nat):Int:=bif W.ak j==t then -1 else W.ak j
def fk (W:Wd) (t:Int):Wd:={W with ak:=dT W t}
def ru (W:Wd) (t:Nat) (a s:Int) (i:Nat):aM:=ah W.tasks t {W.tasks t with st:=s,loc:=a} i
def tS (W:Wd) (a i:Nat):Nat:=ah W.ai a (W.ai a+1) i
def tT (W:Wd) (t:Int) (a i k:Nat):Int:=ah W.lines a (jc (W.ai a) (W.lines a) t) i k
def fH (W:Wd) (t a s:Int):Wd:={W with ak:=dT W t,tasks:=ru W t.toNat a s,ai:=tS W a.toNat,lines:=tT W t a.toNat}
def Ah (W:Wd) (a i:Nat):Nat:=ah W.ai a (W.ai a -1) i
def vm (W:Wd) (a i k:Nat):Int:=ah W.lines a (λq=>W.lines a (q+1)) i k
def Gq (W:Wd) (t i:Nat):aM:=ah W.tasks t {W.tasks t with loc:= -1} i
def tz (W:Wd) (a:Nat):Wd:={W with tasks:=Gq W (W.lines a 0).toNat,ai:=Ah W a,lines:=vm W a}
def kY (W:Wd) (a:Nat) (p:Int->Bool):Bool:=W.ai a !=0&&p (W.tasks (W.lines a 0).toNat).st
def wZ (W:Wd) (a:Nat) (b:Bool) (i:Nat):aM:=bif b then Gq W (W.lines a 0).toNat i else W.tasks i
def JQ (W:Wd) (a:Nat) (b:Bool) (i:Nat):Nat:=bif b then Ah W a i else W.ai i
def B7 (W:Wd) (a:Nat) (b:Bool) (i k:Nat):Int:=bif b then vm W a i k else W.lines i k
def fw (W:Wd) (a:Nat) (b:Bool):Wd:={W with tasks:=wZ W a b,ai:=JQ W a b,lines:=B7 W a b}
def B8 (W:Wd) (a:Nat) (b:Bool):Int:=bif b then W.lines a 0 else -1
def afu (W:Wd) (a n:Nat) (ss:Nat->Int):cG where
  σ:=Nat
  rt:= []
  sh i:= [(0,de 0),(30,.v (.int .i64 i))]
  mh _:= []
  inv i:=i<=n/\ ∀j,j<i->((W.tasks (W.lines a 0).toNat).st==ss j)=false
  μ i:=n -i
  init:=0
structure jd (W:Wd) (t:Int):Prop where
  t0:0<=t
  t1:t<W.aP
  c0:0<=(W.tasks t.toNat).core
  c1:(W.tasks t.toNat).core<W.aC
  u: ∀j:Nat,j<W.aC->W.ak j=t->(W.tasks t.toNat).core=j
structure Aq (W:Wd) (a:Int):Prop where
  a0:0<=a
  a1:a<W.aW
  n:W.ai a.toNat<=100000
  h:0<W.ai a.toNat->0<=W.lines a.toNat 0/\W.lines a.toNat 0<W.aP
theorem adD {W:Wd} {t:Int} {a j k:Nat} (h:k<tS W a j):(bif j.beq a then bif k.blt (W.ai a)then W.lines a k else[t].getD (k -W.ai a) 0 else W.lines j k)=tT W t a j k:=by
  unfold tT
  rcases Decidable.em (j=a)with e|e
  · subst e
    rw[Nat.beq_refl,aZ]
    refine SN ?_
    unfold tS at h;rw[aZ]at h;exact h
  · rw[fD e,bh e];rfl
theorem H7 {f:Nat->aM} {t i:Nat} {v:aM} (p:aM->Int) (h:p v=p (f t)):p (ah f t v i)=p (f i):=by
  rcases Decidable.em (i=t)with e|e
  · subst e;rw[aZ];exact h
  · rw[bh e]
theorem WN {W:Wd} {a:Nat} {p:Int->Bool} (h:W.ai a=0):kY W a p=false:=by unfold kY;rw[h];rfl
theorem L4 {W:Wd} {a:Nat} {p:Int->Bool} {b:Bool} (h:W.ai a≠0) (hb:p (W.tasks (W.lines a 0).toNat).st=b):kY W a p=b:=by
  unfold kY;rw[hb,show(W.ai a !=0)=true from by simpa using h];rfl
theorem afv {n:Nat} (h:((n:Int)==0)=true):n=0:=by have:=eq_of_beq h;omega
theorem afw {n:Nat} (h:((n:Int)==0)=false):n≠0:=by have:=ne_of_beq_false h;omega
structure SO where
  (t b g:Int) (W:Wd)
def SR:Sy.Spec:=⟨SO,λ⟨t,b,g,_⟩=> [.ptr 0 0 none 0 0,.v (.int .i64 t),.v (.int .i64 b),.v (.int .i64 g)],λ⟨_,_,_,W⟩=>cP W,λ⟨t,_,_,W⟩=>0<=t/\t<W.aP,λ_=> .tp 0 (aL []),λ⟨t,b,g,W⟩=>cP (dw W t.toNat b g),
  λargs mem=>match args with| [a0,a1,a2,a3]=>some ⟨aw (a1),aw (a2),aw (a3),iG mem 0⟩|_=>none⟩
def adE:aT:=⟨[true],(SR).g,none⟩
def SU:SO->Prop:=λ⟨t,b,g,W⟩=>let a0:=0<=t/\t<((W.aP:Nat):Int);tn 12 (a0/\True/\a0/\True/\((0:Int)<=1/\1<((8:Nat):Int))/\(∀b0:Nat,false=false)/\((0:Int)<=2/\2<((8:Nat):Int))/\(∀c0:Nat,false=false)/\True/\aD {W with tasks:=λd0:Nat=>let e0:=W.tasks d0;let g0:=Nat.beq d0 (0+Int.toNat t);{e0 with r1:=cond g0 b e0.r1,r2:=cond g0 g e0.r2}} {W with tasks:=Ap W (Int.toNat t) b g} True)
set_option maxHeartbeats 1000000 in
theorem Qr:aU Tryz.prog aY 53 adE:=bf .nil false Tryz.call53 Tryz.func53 (λ_=> []) (V:=SU) (λ_=>by kernel_rfl) λ⟨t,b,g,W⟩ hp=>by
  dsimp only[SR]at hp
  dsimp only[SU,tn,ar,aD,aI,aJ,aH]
  simp only[bn,bD,eq_self,implies_true,Bool.cond_self]
  try simp only[eP]
  refine⟨hp,hp,⟨by decide,by decide⟩,⟨by decide,by decide⟩,λj _=>?_⟩
  rcases Decidable.em (j=t.toNat)with h|h
  · subst h;simp only[Nat.beq_refl,cond_true];unfold Ap;rw[aZ];exact⟨⟨⟨⟨⟨⟨⟨⟨⟨⟨⟨⟨⟨⟨⟨⟨⟨⟨⟨rfl,rfl⟩,rfl⟩,rfl⟩,rfl⟩,rfl⟩,rfl⟩,rfl⟩,rfl⟩,rfl⟩,rfl⟩,rfl⟩,rfl⟩,rfl⟩,rfl⟩,rfl⟩,rfl⟩,rfl⟩,rfl⟩,rfl⟩
  · simp only[fD h,cond_false];unfold Ap;rw[bh h];exact dk rfl
structure EJ where
  (t:Int) (W:Wd)
def IM:Sy.Spec:=⟨EJ,λ⟨t,_⟩=> [.ptr 0 0 none 0 0,.v (.int .i64 t)],λ⟨_,W⟩=>cP W,λ⟨t,W⟩=>jd W t,λ_=> .tp 0 (aL []),λ⟨t,W⟩=>cP (fk W t),
  λargs mem=>match args with| [a0,a1]=>some ⟨aw (a1),iG mem 0⟩|_=>none⟩
def adF:aT:=⟨[true],(IM).g,none⟩
def SW:EJ->Prop:=λ⟨t,W⟩=>let a0:=(W.tasks (0+Int.toNat t)).core;let b0:=0<=a0/\a0<((W.aC:Nat):Int);let c0:=0+Int.toNat a0;let d0:=W.ak c0==t;let e0:={W with ak:=dT W t};(0<=t/\t<((W.aP:Nat):Int))/\b0/\(d0=true->b0/\(∀g0:Nat,false=false)/\True/\aD {W with ak:=λh0:Nat=>cond (Nat.beq h0 c0) (-1) (W.ak h0)} e0 True)/\(d0=false->True/\aD W e0 True)
theorem abU:aU Tryz.prog aY 57 adF:=bf .nil false Tryz.call57 Tryz.func57 (λ_=> []) (V:=SW) (λ_=>by kernel_rfl) λ⟨t,W⟩ hp=>by
  dsimp only[IM]at hp
  dsimp only[SW,tn,ar,aD,aI,aJ,aH]
  simp only[bn,bD,eq_self,implies_true,Bool.cond_self]
  try simp only[eP]
  obtain⟨t0,t1,c0,c1,hu⟩:=hp
  have hc:=And.intro c0 c1
  refine⟨⟨t0,t1⟩,hc,λh=>⟨hc,λj hj=>?_⟩,λh j hj=>?_⟩
  · have h:=eq_of_beq h
    unfold dT
    rcases Decidable.em (j=(W.tasks t.toNat).core.toNat)with e|e
    · subst e;rw[Nat.beq_refl,h];simp
    · rw[fD e]
      cases hb:W.ak j==t with
      |false=>rfl
      |true=>exact absurd (hu j hj (eq_of_beq hb)) (by omega)
  · unfold dT
    cases hb:W.ak j==t with
    |false=>rfl
    |true=>
     have:=hu j hj (eq_of_beq hb)
     have e:j=(W.tasks t.toNat).core.toNat:=by omega
     rw[<-e,hb]at h;cases h
structure Qs where
  (t a s:Int) (W:Wd)
def Qt:Sy.Spec:=⟨Qs,λ⟨t,a,s,_⟩=> [.ptr 0 0 none 0 0,.v (.int .i64 t),.v (.int .i64 a),.v (.int .i64 s)],λ⟨_,_,_,W⟩=>cP W,λ⟨t,a,_,W⟩=>jd W t/\Aq W a,λ_=> .tp 0 (aL []),λ⟨t,a,s,W⟩=>cP (fH W t a s),
  λargs mem=>match args with| [a0,a1,a2,a3]=>some ⟨aw (a1),aw (a2),aw (a3),iG mem 0⟩|_=>none⟩
def abV:aT:=⟨[true],(Qt).g,none⟩
def Qu:Qs->Prop:=λ⟨t,a,s,W⟩=>let a0:=SV.ptr 0 0 none 0 0;let b0:=0<=t/\t<((W.aP:Nat):Int);let c0:=0<=a/\a<((W.aW:Nat):Int);let d0:=true=true;let e0:=True/\d0;let g0:=0+Int.toNat a;let h0:=W.ai g0;let k0:=h0+1;((a0=a0/\t=t/\True)/\aD W W True/\IM.match_1 (λl0:EJ=>Prop) (EJ.mk t W) (λo0:Int=>λq0:Wd=>jd q0 o0))/\tn 12 (b0/\(∀u0:Nat,false=false)/\b0/\(∀v0:Nat,false=false)/\tn 10 (c0/\tn 3 (tn 2 True/\(((∀w0:Nat,True/\(∀x0:Nat,e0))/\(∀y0:Nat,e0)/\True)/\True/\(h0+1)*8<=140737488355328/\(∀z0:Nat,d0))/\(True/\k0*8<=140737488355328/\(∀a1:Nat,d0))/\c0/\(g0=g0/\(∀b1:Nat,Nat.beq 1 1=true))/\True/\aD {W with tasks:=λc1:Nat=>let d1:=W.tasks c1;let e1:=Nat.beq c1 (0+Int.toNat t);{d1 with st:=cond e1 s d1.st,loc:=cond e1 a d1.loc},ai:=λg1:Nat=>cond (Nat.beq g1 g0) k0 (W.ai g1),lines:=λJ:Nat=>λk1:Nat=>cond (Nat.beq J g0) (cond (Nat.blt k1 h0) (W.lines g0 (0+k1)) (List.getD [t] (0+(k1-h0)) 0)) (W.lines J k1),ak:=dT W t} {W with tasks:=ru W (Int.toNat t) a s,ai:=tS W (Int.toNat a),lines:=tT W t (Int.toNat a),ak:=dT W t} True)))
set_option maxHeartbeats 1000000 in
theorem aae:aU Tryz.prog aY 54 abV:=bf (.cons abU .nil) false Tryz.call54 Tryz.func54 (λ_=> []) (V:=Qu) (λ_=>by kernel_rfl) λ⟨t,a,s,W⟩ hp=>by
  dsimp only[Qt]at hp
  dsimp only[Qu,tn,ar,aD,aI,aJ,aH]
  simp only[bn,bD,eq_self,implies_true,Bool.cond_self]
  try simp only[eP]
  obtain⟨hO,hl⟩:=hp
  have t0:=hO.t0
  have t1:=hO.t1
  obtain⟨a0,a1,hn,_⟩:=hl
  refine⟨hO,⟨t0,t1⟩,⟨t0,t1⟩,⟨a0,a1⟩,by omega,by omega,⟨a0,a1⟩,λ_=>rfl,λj _=>?_,λj _=>⟨rfl,λk hk=>adD hk⟩⟩
  rcases Decidable.em (j=t.toNat)with h|h
  · subst h;simp only[Nat.beq_refl,cond_true];unfold ru;rw[aZ];exact⟨⟨⟨⟨⟨⟨⟨⟨⟨⟨⟨⟨⟨⟨⟨⟨⟨⟨⟨rfl,rfl⟩,rfl⟩,rfl⟩,rfl⟩,rfl⟩,rfl⟩,rfl⟩,rfl⟩,rfl⟩,rfl⟩,rfl⟩,rfl⟩,rfl⟩,rfl⟩,rfl⟩,rfl⟩,rfl⟩,rfl⟩,rfl⟩
  · simp only[fD h,cond_false];unfold ru;rw[bh h];exact dk rfl
structure OV where
  (a:Int) (n:Nat) (ss:Nat->Int) (W:Wd)
def OW:Sy.Spec:=⟨OV,λ⟨a,n,ss,_⟩=> [.ptr 0 0 none 0 0,.v (.int .i64 a),.sl true 1 n (λi_ _=> .v (.int .i64 (ss i_)))],λ⟨_,_,_,W⟩=>cP W,λ⟨a,n,_,W⟩=>Aq W a/\n<=1000,λ⟨a,n,ss,W⟩=> .v (.int .i64 (B8 W a.toNat (kY W a.toNat λs=>dY n λk=>s==ss k))),λ⟨a,n,ss,W⟩=>cP (fw W a.toNat (kY W a.toNat λs=>dY n λk=>s==ss k)),
  λargs mem=>match args with| [a0,a1,a2]=>some ⟨aw (a1),bX a2,λi=>aw (bN a2 i 0),iG mem 0⟩|_=>none⟩
def aaf:aT:=⟨[true],(OW).g,none⟩
def OX:OV->Prop:=λ⟨a,n,ss,W⟩=>let a0:=0<=a/\a<((W.aW:Nat):Int);let b0:=Int.toNat a;let c0:=((W.ai (0+b0):Nat):Int);let d0:=c0==0;let e0:=kY W b0 (λg0:Int=>dY n (λh0:Nat=>g0==ss h0));let k0:=B8 W b0 e0;let l0:={W with tasks:=wZ W b0 e0,ai:=JQ W b0 e0,lines:=B7 W b0 e0};let o0:=(-1)=k0/\aD W l0 True;let q0:=0+b0;let u0:=((W.ai q0:Nat):Int);let v0:=(n:Int);let w0:=SV.ptr 0 0 none 0 0;let x0:=w0=w0;let y0:=(W.tasks (Int.toNat (W.lines b0 0))).st;let z0:=W.lines q0 0;let a1:=0<=z0/\z0<((W.aP:Nat):Int);let b1:=0+Int.toNat z0;let c1:=(W.tasks b1).st;let d1:=Int.toNat u0-Int.toNat 1;a0/\(c0<=9223372036854775807->(d0=true->o0)/\(d0=false->a0/\((0:Int)<=0/\0<u0)/\(v0<=9223372036854775807->x0/\0=((0:Nat):Int)/\aD W W True/\(0<=n/\(∀e1:Nat,e1<0->(y0==ss e1)=false))/\(∀g1:Nat,let J:=(g1:Int);let k1:=decide (J<v0);let l1:=c1==ss (Int.toNat J);let o1:Int:=J+1;g1<=n/\(∀q1:Nat,q1<g1->(y0==ss q1)=false)->(k1=true->(0<=J/\J<v0)/\a1/\(l1=true->tn 11 (a0/\True/\((0:Int)<=1/\1<=u0/\u0<=u0)/\(d1*8<=140737488355328/\(∀u1:Nat,true=true))/\a0/\(∀v1:Nat,Nat.beq 1 1=true)/\a1/\(∀w1:Nat,false=false)/\z0=k0/\aD {W with tasks:=λx1:Nat=>{W.tasks x1 with loc:=cond (Nat.beq x1 b1) (-1) (W.tasks x1).loc},ai:=λy1:Nat=>cond (Nat.beq y1 q0) d1 (W.ai y1),lines:=λz1:Nat=>λa2:Nat=>cond (Nat.beq z1 q0) (W.lines q0 (0+Int.toNat 1+a2)) (W.lines z1 a2)} l0 True))/\(l1=false->ar o1=o1/\(∃b2:Nat,x0/\o1=(b2:Int)/\aD W W True/\(b2<=n/\(∀c2:Nat,c2<b2->(y0==ss c2)=false))/\n-b2<n-g1)))/\(k1=false->o0)))))
set_option maxHeartbeats 1000000 in
theorem YU:aU Tryz.prog aY 55 aaf:=bf .nil false Tryz.call55 Tryz.func55 (λ⟨a,n,ss,W⟩=> [.inv (afu W a.toNat n ss)]) (V:=OX) (λ_=>by kernel_rfl) λ⟨a,n,ss,W⟩ hp=>by
  dsimp only[OW]at hp
  dsimp only[OX,tn,ar,aD,aI,aJ,aH]
  simp only[bn,bD,eq_self,implies_true,Bool.cond_self]
  try simp only[eP]
  obtain⟨⟨a0,a1,hn,hl⟩,hk⟩:=hp
  refine⟨⟨a0,a1⟩,λ_=>⟨λh0=>?_,λh0=>⟨⟨a0,a1⟩,?_⟩⟩⟩
  · have e:kY W a.toNat (λh0=>dY n λk0=>h0==ss k0)=false:=WN (afv h0)
    rw[e];exact⟨rfl,λj _=>dk rfl,λd _=>⟨rfl,λg _=>rfl⟩⟩
  have J:=afw h0
  have hl:=hl (by omega)
  refine⟨⟨by decide,by omega⟩,λ_ s hs=>⟨λh=>?_,λh=>?_⟩⟩
  · have av:=fO h
    refine⟨by omega,hl,λh2=>⟨⟨a0,a1⟩,⟨by decide,by omega,by omega⟩,by omega,⟨a0,a1⟩,λ_=>rfl,hl,?_⟩,λh2=>⟨dA (by omega) (by omega),s+1,by omega,⟨by omega,λj hj=>?_⟩,by omega⟩⟩
    · have e:kY W a.toNat (λh0=>dY n λk0=>h0==ss k0)=true:=L4 J (qt.2 ⟨s,by omega,h2⟩)
      rw[e];refine⟨rfl,λj _=>?_,λc _=>⟨rfl,λg hg=>?_⟩⟩
      · rcases Decidable.em (j=(W.lines a.toNat 0).toNat)with h|h
        · subst h;simp only[Nat.beq_refl,cond_true];unfold wZ Gq;rw[aZ];exact⟨⟨⟨⟨⟨⟨⟨⟨⟨⟨⟨⟨⟨⟨⟨⟨⟨⟨⟨rfl,rfl⟩,rfl⟩,rfl⟩,rfl⟩,rfl⟩,rfl⟩,rfl⟩,rfl⟩,rfl⟩,rfl⟩,rfl⟩,rfl⟩,rfl⟩,rfl⟩,rfl⟩,rfl⟩,rfl⟩,rfl⟩,rfl⟩
        · simp only[fD h,cond_false];unfold wZ Gq;rw[bh h];exact dk rfl
      · rcases Decidable.em (c=a.toNat)with h|h
        · subst h;simp only[Nat.beq_refl,cond_true];unfold B7 vm;rw[aZ];exact congrArg _ (Nat.add_comm _ _)
        · simp only[fD h,cond_false];unfold B7 vm;rw[bh h];rfl
    · rcases Decidable.em (j=s)with e|e
      · rw[e];exact h2
      · exact hs.2 j (by omega)
  · have dz:=ga h
    have e:kY W a.toNat (λh0=>dY n λk0=>h0==ss k0)=false:=L4 J (nY.2 λi hi=>hs.2 i (by omega))
    rw[e];exact⟨rfl,λj _=>dk rfl,λd _=>⟨rfl,λg _=>rfl⟩⟩
end Go.Proofs.YthgmgkabnffniaaGreatDoor
set_option linter.unusedVariables false
set_option linter.unusedSimpArgs false
set_option maxRecDepth 100000
namespace Go.Proofs.YthgmgkabnffniaaGreatDoor
open Go.RowKit Go.Sy
theorem PL.r {W:Wd} {f:Nat} (h:(W.tasks f).st=1) (a:cA W f=0) (b:cu W f=1) (c:(W.tasks f).loc= -1):PL W f:=
  ⟨λe=>by omega,λe=>by omega,λ_=>⟨a,b,c⟩,λe=>absurd h e⟩
theorem PL.o {W:Wd} {f:Nat} (h:(W.tasks f).st=0\/(W.tasks f).st=5) (a:cA W f=0) (b:cu W f=0) (c:(W.tasks f).loc= -1):PL W f:=
  ⟨λe=>by omega,λe=>by omega,λe=>by omega,λ_ _ _ _ _=>⟨a,b,c⟩⟩
theorem PL.idle {W:Wd} {f:Nat} (h:PL W f) (hs:(W.tasks f).st=0\/(W.tasks f).st=5):cA W f=0/\cu W f=0/\(W.tasks f).loc= -1:=h.no (by omega) (by omega) (by omega) (by omega) (by omega)
theorem yc {W:Wd} {t:aM} (h:fT W t=false):(0<=t.pc/\t.pc<=65535)/\(0<=t.word/\t.word<=65535)/\(0<=t.bL/\t.bL<=65535)/\(0<=t.st/\t.st<=6)/\(0<=t.prio/\t.prio<=3)/\(0<=t.core/\t.core<=W.aC -1)/\0<=t.cL/\t.cL<=3:=by
  unfold fT at h
  simp only[Bool.or_eq_false_iff]at h
  obtain⟨⟨⟨⟨⟨⟨J,h2⟩,h3⟩,h4⟩,h5⟩,h6⟩,h7⟩:=h
  exact⟨dL J,dL h2,dL h3,dL h4,dL h5,dL h6,dL h7⟩
theorem fQ {v m:Int} (h:0<=v/\v<=m):az v m=false:=by
  unfold az;simp only[Bool.or_eq_false_iff,decide_eq_false_iff_not];omega
theorem vJ {W:Wd} {t:aM} {s l:Int} (h:fT W t=false) (hs:0<=s/\s<=6):fT W {t with st:=s,loc:=l}=false:=by
  obtain⟨J,h2,h3,h4,h5,h6,h7⟩:=yc h
  unfold fT
  simp only[Bool.or_eq_false_iff]
  exact⟨⟨⟨⟨⟨⟨fQ J,fQ h2⟩,fQ h3⟩,fQ hs⟩,fQ h5⟩,fQ h6⟩,fQ h7⟩
theorem ug {W:Wd} {t:Nat} {r:aM} (ho:r.aE=(W.tasks t).aE) (f:Nat):ca {W with tasks:=ah W.tasks t r} f=ca W f:=jA λi _=>by
  show((ah W.tasks t r i).aE==(f:Int))=_
  rcases Decidable.em (i=t)with e|e
  · subst e;rw[aZ,ho]
  · rw[bh e]
theorem qN {x y:Int} (h:x≠y):b1 (x==y)=0:=by rw[beq_eq_false_iff_ne.2 h];rfl
theorem wK (x:Int):b1 (x==x)=1:=by rw[beq_self_eq_true];rfl
theorem afb {W:Wd} (z:bO W) {t:aM} (h:fT W t=false):fa t<W.aS/\((fa t/4:Nat):Int)=t.core/\((fa t%4:Nat):Int)=t.prio:=by
  obtain⟨_,_,_,_,h5,h6,_⟩:=yc h
  have:=z.ready
  have:=z.c0
  unfold fa ry
  refine⟨by omega,by omega,by omega⟩
theorem TS.CY {X:Nat->Prop} {W:Wd} {t:Nat} (h:TS X W) (hX:X t) (ht:t<W.aj) (hk:W.kinds t=6) (hs:cA W t=0) (hn:cu W t=0) (ho:ca W t=0):TS (λf=>X f/\f≠t) (eM W t):=by
  obtain⟨n1,n2,n3⟩:=h.nm t ht hk
  have z:=h.z
  have J:TS X {W with tasks:=ah W.tasks t {W.tasks t with st:=1,loc:= -1}}:=h.set ht hk n1 (vJ n2 (by decide)) n3 rfl (.inl ⟨hX,hs,hn⟩)
  obtain⟨r1,r2,r3⟩:=afb z n2
  have et:mQ W t=ah W.tasks t {W.tasks t with st:=1,loc:= -1}:=rfl
  have eT: ∀f,cJ W.aS (lz W t) (ml W t) f=cJ W.aS W.aq W.ready f+b1 ((t:Int)==f):=λf=>by
    have:=AJ (n:=W.aS) (ln:=W.aq) (l:=W.ready) (m:=W.aq (fa (W.tasks t))+1) (g:=jc (W.aq (fa (W.tasks t))) (W.ready (fa (W.tasks t))) t) (x:=f) r1
    rw[Eg]at this
    show cJ W.aS (ah W.aq (fa (W.tasks t)) _) (ah W.ready (fa (W.tasks t)) _) f=_
    omega
  have h2:TS X (eM W t):=by
    refine J.lists rfl rfl rfl rfl (λf hf hx=>⟨rfl,?_,λa _ h=>h⟩) J.ln J.co λi hi=>kj.2 λk cR=>?_
    · show cJ W.aS (lz W t) (ml W t) f+_=cJ W.aS W.aq W.ready f+_
      rw[eT,qN λe=>hx (by rw[<-Int.ofNat.inj e];exact hX)];rfl
    · have hi:i<W.aS:=hi
      have cR:k<ah W.aq (fa (W.tasks t)) (W.aq (fa (W.tasks t))+1) i:=cR
      show RD {W with tasks:=ah W.tasks t {W.tasks t with st:=1,loc:= -1}} (ah W.ready (fa (W.tasks t)) (jc (W.aq (fa (W.tasks t))) (W.ready (fa (W.tasks t))) t) i k) _ _
      rcases Decidable.em (i=fa (W.tasks t))with e|e
      · subst e
        rw[aZ]at cR⊢
        unfold jc
        rcases Nat.lt_or_ge k (W.aq (fa (W.tasks t)))with g|g
        · rw[ji g];exact kj.1 (J.rl _ hi) k g
        · rw[nv g]
          show RD _ (t:Int) _ _
          refine⟨⟨Int.natCast_nonneg _,by show(t:Int)<W.aj;omega⟩,hk,?_,?_,λ_=>?_⟩
          · show(ah W.tasks t _ t).st=1
            rw[aZ]
          · show(ah W.tasks t _ t).core=_
            rw[aZ,r2]
          · show(ah W.tasks t _ t).prio=_
            rw[aZ,r3]
      · rw[bh e]at cR⊢
        exact kj.1 (J.rl i hi) k cR
  refine h2.lv λf hf h6 hx hy=>?_
  obtain rfl:f=t:=Classical.byContradiction λe=>hy ⟨hx,e⟩
  have e1:((eM W f).tasks f)={W.tasks f with st:=1,loc:= -1}:=by show ah W.tasks f _ f=_;rw[aZ]
  have e2:ca (eM W f) f=0:=(ug (W:=W) (t:=f) (r:={W.tasks f with st:=1,loc:= -1}) rfl f).trans ho
  have e3:cu (eM W f) f=1:=by
    unfold cu at hn
    show cJ W.aS (lz W f) (ml W f) f+cf W.aC W.ak f=1
    rw[eT,wK];omega
  have s1:((eM W f).tasks f).st=1:=by rw[e1]
  exact⟨by rw[e2,s1];decide,.r s1 hs e3 (by rw[e1]),λ_=>by rw[s1];decide⟩
theorem TS.front {X:Nat->Prop} {W:Wd} {a:Nat} (h:TS X W) (ha:a<W.aj) (hl:0<W.ai a) (hx: ¬X (W.lines a 0).toNat):
    TS (λf=>X f\/f=(W.lines a 0).toNat) (tz W a)/\((W.lines a 0).toNat<W.aj/\W.kinds (W.lines a 0).toNat=6)/\cA (tz W a) (W.lines a 0).toNat=0/\cu (tz W a) (W.lines a 0).toNat=0:=by
  have z:=h.z
  have zl:=z.lines
  obtain⟨l1,l2,l3,l4⟩:=eh.1 (h.ln a ha)
  obtain⟨u1,u2,u3,_⟩:=l4 0 hl
  have eu:(((W.lines a 0).toNat:Nat):Int)=W.lines a 0:=by omega
  have hu:(W.lines a 0).toNat<W.aj:=by omega
  obtain⟨n1,n2,n3⟩:=h.nm _ hu u2
  obtain⟨p1,p2,p3,p4⟩:=h.so _ hu u2 hx
  have bC:cA W (W.lines a 0).toNat=1/\cu W (W.lines a 0).toNat=0:=by
    rcases Decidable.em ((W.tasks (W.lines a 0).toNat).st=2\/(W.tasks (W.lines a 0).toNat).st=3\/(W.tasks (W.lines a 0).toNat).st=4)with e|e
    · exact⟨(p1 e).1,(p1 e).2.1⟩
    rcases Decidable.em ((W.tasks (W.lines a 0).toNat).st=6)with e6|e6
    · exact⟨(p2 e6).1,(p2 e6).2.1⟩
    rcases Decidable.em ((W.tasks (W.lines a 0).toNat).st=1)with e1|e1
    · have:=(p3 e1).2.2;omega
    · have:=(p4 e1 (λg=>e (.inl g)) (λg=>e (.inr (.inl g))) (λg=>e (.inr (.inr g))) e6).2.2;omega
  have eL: ∀x:Int,cJ W.aW (Ah W a) (vm W a) x+b1 (W.lines a 0==x)=cJ W.aW W.ai W.lines x:=λx=>by
    have J:=AJ (n:=W.aW) (ln:=W.ai) (l:=W.lines) (m:=W.ai a -1) (g:=λq=>W.lines a (q+1)) (x:=x) (show a<W.aW by omega)
    have h2:=PJ (n:=W.ai a) (f:=W.lines a) (x:=x) hl
    show cJ W.aW (ah W.ai a _) (ah W.lines a _) x+_=_
    omega
  have hb:=h.wk (Y:=λf=>X f\/f=(W.lines a 0).toNat) λf hf=> .inl hf
  have J:TS (λf=>X f\/f=(W.lines a 0).toNat) {W with ai:=Ah W a,lines:=vm W a}:=by
    refine hb.lists rfl rfl rfl rfl (λf hf hy=>⟨?_,rfl,λb dC a_=>?_⟩) (λf hf=>?_) h.co h.rl
    · have:=eL f
      rw[qN λe=>hy (.inr (by omega))]at this
      exact this
    · show cF (ah W.ai a _ b) (ah W.lines a _ b) f=true
      rcases Decidable.em (b=a)with e|e
      · subst e
        rw[aZ,aZ]
        have h2:=PJ (n:=W.ai b) (f:=W.lines b) (x:=f) hl
        rw[qN λe=>hy (.inr (by omega))]at h2
        rw[yo]at a_⊢
        omega
      · rw[bh e,bh e];exact a_
    · rcases Decidable.em (f=a)with e|e
      · subst e
        refine eh.2 ?_
        show(0<ah W.ai f (W.ai f -1) f->W.kinds f=7\/W.kinds f=8)/\(W.bits f≠0->W.kinds f=8/\ah W.ai f (W.ai f -1) f=0)/\(0<=W.bits f/\W.bits f<=65535)/\ ∀k,k<ah W.ai f (W.ai f -1) f->(0<=ah W.lines f (λq=>W.lines f (q+1)) f k/\ah W.lines f (λq=>W.lines f (q+1)) f k<W.aj)/\W.kinds (ah W.lines f (λq=>W.lines f (q+1)) f k).toNat=6/\(W.tasks (ah W.lines f (λq=>W.lines f (q+1)) f k).toNat).loc=f/\lu W (ah W.lines f (λq=>W.lines f (q+1)) f k)=lu W (ah W.lines f (λq=>W.lines f (q+1)) f 0)
        rw[aZ,aZ]
        refine⟨λhp=>l1 (by omega),λhp=>⟨(l2 hp).1,by have:=(l2 hp).2;omega⟩,l3,λk hk=>?_⟩
        obtain⟨a1,a2,a3,a4⟩:=l4 (k+1) (by omega)
        obtain⟨_,_,_,b4⟩:=l4 (0+1) (by omega)
        exact⟨a1,a2,a3,a4.trans b4.symm⟩
      · have tF:=eh.1 (h.ln f hf)
        refine eh.2 ?_
        show(0<ah W.ai a (W.ai a -1) f->W.kinds f=7\/W.kinds f=8)/\(W.bits f≠0->W.kinds f=8/\ah W.ai a (W.ai a -1) f=0)/\(0<=W.bits f/\W.bits f<=65535)/\ ∀k,k<ah W.ai a (W.ai a -1) f->(0<=ah W.lines a (λq=>W.lines a (q+1)) f k/\ah W.lines a (λq=>W.lines a (q+1)) f k<W.aj)/\W.kinds (ah W.lines a (λq=>W.lines a (q+1)) f k).toNat=6/\(W.tasks (ah W.lines a (λq=>W.lines a (q+1)) f k).toNat).loc=f/\lu W (ah W.lines a (λq=>W.lines a (q+1)) f k)=lu W (ah W.lines a (λq=>W.lines a (q+1)) f 0)
        rw[bh e,bh e];exact tF
  have s1:cA {W with ai:=Ah W a,lines:=vm W a} (W.lines a 0).toNat=0:=by
    have:=eL (W.lines a 0)
    rw[wK]at this
    have J:=bC.1
    unfold cA at J⊢
    rw[eu]at J⊢
    show cJ W.aW (Ah W a) (vm W a) _=0
    omega
  exact⟨J.set hu u2 n1 (vJ n2 (yc n2).2.2.2.1) n3 rfl (.inl ⟨.inr rfl,s1,bC.2⟩),⟨hu,u2⟩,s1,bC.2⟩
end Go.Proofs.YthgmgkabnffniaaGreatDoor
set_option linter.unusedVariables false
set_option linter.unusedSimpArgs false
set_option maxRecDepth 100000
namespace Go.Proofs.YthgmgkabnffniaaGreatDoor
open Go.RowKit Go.Sy
theorem TS.UZ {X:Nat->Prop} {W:Wd} {t:Nat} {C:Nat->Int} (hC: ∀c,c<W.aC->C c=dT W t c) (h:TS X W) (ht:t<W.aj) (hk:W.kinds t=6) (hx: ¬X t) (hs:(W.tasks t).st=1) (hc: ∃c,c<W.aC/\W.ak c=t):
    TS (λf=>X f\/f=t) {W with ak:=C}/\cA W t=0/\cu {W with ak:=C} t=0/\ca W t=0:=by
  obtain⟨p1,p2,_⟩:=(h.so t ht hk hx).rd hs
  have e0: ∀x:Nat,x≠t->cf W.aC C x=cf W.aC W.ak x:=λx hx=>jA λj hj=>by
    show(C j==(x:Int))=(W.ak j==(x:Int))
    rw[hC j hj]
    unfold dT
    cases hb:W.ak j==(t:Int)with
    |false=>rfl
    |true=>
     rw[eq_of_beq hb,beq_eq_false_iff_ne.2 (show(t:Int)≠x by omega)]
     exact beq_eq_false_iff_ne.2 (show(-1:Int)≠x by omega)
  have e1:cf W.aC C t=0:=AK.2 λj hj=>by
    rw[hC j hj]
    unfold dT
    cases hb:W.ak j==(t:Int)with
    |false=>simpa using hb
    |true=>show(-1:Int)≠t;omega
  have e2:cu {W with ak:=C} t=0:=by
    obtain⟨c,mK,hc2⟩:=hc
    have:=Hn mK hc2
    unfold cu at p2
    show cJ W.aS W.aq W.ready t+cf W.aC C t=0
    omega
  refine⟨(h.wk (Y:=λf=>X f\/f=t) λf hf=> .inl hf).lists rfl rfl rfl rfl (λf hf hy=>⟨rfl,?_,λ_ _ h=>h⟩) h.ln (λc hc=>?_) h.rl,p1,e2,?_⟩
  · show cJ W.aS W.aq W.ready f+cf W.aC C f=_
    rw[e0 f λe=>hy (.inr e)];rfl
  · refine lF.2 λhn=>?_
    have hn:C c≠ -1:=hn
    show RD W (C c) c (-1)
    rw[hC c hc]at hn⊢
    have e:dT W t c=W.ak c:=by
      unfold dT at hn⊢
      cases hb:W.ak c==(t:Int)with
      |false=>rfl
      |true=>rw[hb]at hn;exact absurd rfl hn
    rw[e]at hn⊢
    exact lF.1 (h.co c hc) hn
  · have J:=h.o1 t ht hk
    have:ca W t≠1:=λe=>by have:=(J.2 hx).1 e;omega
    omega
theorem TS.off {X:Nat->Prop} {W:Wd} {t:Nat} (h:TS X W) (ht:t<W.aj) (hk:W.kinds t=6) (hx: ¬X t) (hs:(W.tasks t).st=1) (hc: ∃c,c<W.aC/\W.ak c=t):
    TS (λf=>X f\/f=t) (fk W t)/\cA (fk W t) t=0/\cu (fk W t) t=0/\ca (fk W t) t=0:=TS.UZ (λ_ _=>rfl) h ht hk hx hs hc
def mF (W:Wd) (t a:Nat) (s:Int):Wd:={W with tasks:=ru W t a s,ai:=tS W a,lines:=tT W t a}
theorem TS.T9 {X:Nat->Prop} {W:Wd} {t a:Nat} {s:Int} (h:TS X W) (hX:X t) (ht:t<W.aj) (hk:W.kinds t=6) (hs:cA W t=0) (hn:cu W t=0) (ho:ca W t=0) (ha:a<W.aj)
    (LS:(W.kinds a=7/\(s=2\/s=3\/s=4))\/(W.kinds a=8/\s=6)) (hb:W.bits a=0) (hw:0<W.ai a->lu W (W.lines a 0)=(s==4)) (ho4:s=4->(W.tasks t).aE= -1):TS (λf=>X f/\f≠t) (mF W t a s):=by
  obtain⟨n1,n2,n3⟩:=h.nm t ht hk
  have z:=h.z
  have zl:=z.lines
  have hs6:0<=s/\s<=6:=by omega
  have J:TS X {W with tasks:=ah W.tasks t {W.tasks t with st:=s,loc:=a}}:=h.set ht hk n1 (vJ n2 hs6) n3 rfl (.inl ⟨hX,hs,hn⟩)
  obtain⟨l1,l2,l3,l4⟩:=eh.1 (h.ln a ha)
  have eL: ∀f,cJ W.aW (tS W a) (tT W t a) f=cJ W.aW W.ai W.lines f+b1 ((t:Int)==f):=λf=>by
    have:=AJ (n:=W.aW) (ln:=W.ai) (l:=W.lines) (m:=W.ai a+1) (g:=jc (W.ai a) (W.lines a) t) (x:=f) (show a<W.aW by omega)
    rw[Eg]at this
    show cJ W.aW (ah W.ai a _) (ah W.lines a _) f=_
    omega
  have h2:TS X (mF W t a s):=by
    refine J.lists rfl rfl rfl rfl (λf hf hx=>⟨?_,rfl,λb _ a_=>?_⟩) (λf hf=>?_) J.co J.rl
    · show cJ W.aW (tS W a) (tT W t a) f=_
      rw[eL,qN λe=>hx (by rw[<-Int.ofNat.inj e];exact hX)];rfl
    · show cF (ah W.ai a _ b) (ah W.lines a _ b) f=true
      rcases Decidable.em (b=a)with e|e
      · subst e
        rw[aZ,aZ]
        rw[yo]at a_⊢
        rw[Eg]
        have a_:cf (W.ai b) (W.lines b) f≠0:=a_
        omega
      · rw[bh e,bh e];exact a_
    · have hf:f<W.aj:=hf
      refine eh.2 ?_
      show(0<ah W.ai a (W.ai a+1) f->W.kinds f=7\/W.kinds f=8)/\(W.bits f≠0->W.kinds f=8/\ah W.ai a (W.ai a+1) f=0)/\(0<=W.bits f/\W.bits f<=65535)/\ ∀k,k<ah W.ai a (W.ai a+1) f->(0<=ah W.lines a (jc (W.ai a) (W.lines a) t) f k/\ah W.lines a (jc (W.ai a) (W.lines a) t) f k<W.aj)/\W.kinds (ah W.lines a (jc (W.ai a) (W.lines a) t) f k).toNat=6/\(ah W.tasks t {W.tasks t with st:=s,loc:=a} (ah W.lines a (jc (W.ai a) (W.lines a) t) f k).toNat).loc=f/\((ah W.tasks t {W.tasks t with st:=s,loc:=a} (ah W.lines a (jc (W.ai a) (W.lines a) t) f k).toNat).st==4)=((ah W.tasks t {W.tasks t with st:=s,loc:=a} (ah W.lines a (jc (W.ai a) (W.lines a) t) f 0).toNat).st==4)
      rcases Decidable.em (f=a)with e|e
      · subst e
        rw[aZ,aZ]
        have hold: ∀k,k<W.ai f->(W.lines f k).toNat≠t:=λk hk e=>GW hs (by omega) hk (toNat_eq (l4 k hk).1.1 e)
        have h0:((ah W.tasks t {W.tasks t with st:=s,loc:=f} (jc (W.ai f) (W.lines f) t 0).toNat).st==4)=(s==4):=by
          unfold jc
          rcases Nat.eq_zero_or_pos (W.ai f)with e|e
          · rw[e,nv (Nat.le_refl _)]
            show((ah W.tasks t {W.tasks t with st:=s,loc:=f} t).st==4)=_
            rw[aZ]
          · rw[ji e]
            show((ah W.tasks t {W.tasks t with st:=s,loc:=f} (W.lines f 0).toNat).st==4)=_
            rw[bh (hold 0 e)];exact hw e
        refine⟨λ_=>by omega,λdC=>absurd hb dC,l3,λk cR=>?_⟩
        rw[h0]
        unfold jc
        rcases Nat.lt_or_ge k (W.ai f)with g|g
        · rw[ji g]
          obtain⟨a1,a2,a3,a4⟩:=l4 k g
          refine⟨a1,a2,?_,?_⟩
          · show(ah W.tasks t _ (W.lines f k).toNat).loc=f
            rw[bh (hold k g)];exact a3
          · show((ah W.tasks t _ (W.lines f k).toNat).st==4)=_
            rw[bh (hold k g),<-hw (by omega)];exact a4
        · rw[nv g]
          refine⟨⟨Int.natCast_nonneg _,by show(t:Int)<_;omega⟩,hk,?_,?_⟩
          · show(ah W.tasks t _ t).loc=f
            rw[aZ]
          · show((ah W.tasks t _ t).st==4)=_
            rw[aZ]
      · rw[bh e,bh e]
        exact eh.1 (J.ln f hf)
  refine h2.lv λf hf h6 hx hy=>?_
  obtain rfl:f=t:=Classical.byContradiction λe=>hy ⟨hx,e⟩
  have e1:((mF W f a s).tasks f)={W.tasks f with st:=s,loc:=a}:=by show ah W.tasks f _ f=_;rw[aZ]
  have e2:ca (mF W f a s) f=0:=(ug (W:=W) (t:=f) (r:={W.tasks f with st:=s,loc:=a}) rfl f).trans ho
  have e3:cA (mF W f a s) f=1:=by
    unfold cA at hs
    show cJ W.aW (tS W a) (tT W f a) f=1
    rw[eL,wK];omega
  have s1:((mF W f a s).tasks f).st=s:=by rw[e1]
  have LU:((mF W f a s).tasks f).loc=a:=by rw[e1]
  have e4:cF ((mF W f a s).ai a) ((mF W f a s).lines a) f=true:=by
    show cF (ah W.ai a _ a) (ah W.lines a _ a) f=true
    rw[aZ,aZ,yo,Eg,wK];omega
  have e5: ∀k,W.kinds a=k->bH (mF W f a s) ((mF W f a s).tasks f).loc=k:=λk hk=>by
    rw[LU]
    show bH W a=k
    rw[fS (by omega)];exact hk
  refine⟨by rw[e2,s1];omega,⟨λhh=>⟨e3,hn,e5 7 ?_,by rw[LU];exact e4⟩,λhh=>⟨e3,hn,e5 8 ?_,by rw[LU];exact e4⟩,λhh=>?_,λq1 q2 q3 q4 q6=>?_⟩,λba=>?_⟩
  · rw[s1]at hh;omega
  · rw[s1]at hh;omega
  · rw[s1]at hh;omega
  · rw[s1]at q1 q2 q3 q4 q6;omega
  · rw[e1]at ba
    rw[s1]
    exactλh4=>ba (ho4 h4)
theorem TS.JM {X:Nat->Prop} {W:Wd} {u:Nat} {v:Int} (h:TS X W) (hu:u<W.aj) (Gi:W.kinds u=6) (hold:(W.tasks u).aE= -1\/X (W.tasks u).aE.toNat)
    (iQ:v= -1\/((0<=v/\v<W.aj)/\W.kinds v.toNat=6/\X v.toNat/\ca W v.toNat=0/\(X u\/(W.tasks u).st≠4))):
    TS X {W with tasks:=ah W.tasks u {W.tasks u with aE:=v}}/\ ∀f:Nat,ca {W with tasks:=ah W.tasks u {W.tasks u with aE:=v}} f+b1 ((W.tasks u).aE==f)=ca W f+b1 (v==f):=by
  have z:=h.z
  have zt:=z.tasks
  have mP: ∀i,(ah W.tasks u {W.tasks u with aE:=v} i).st=(W.tasks i).st/\(ah W.tasks u {W.tasks u with aE:=v} i).loc=(W.tasks i).loc/\(ah W.tasks u {W.tasks u with aE:=v} i).core=(W.tasks i).core/\(ah W.tasks u {W.tasks u with aE:=v} i).prio=(W.tasks i).prio:=λi=>by
    rcases Decidable.em (i=u)with e|e
    · subst e;rw[aZ];exact⟨rfl,rfl,rfl,rfl⟩
    · rw[bh e];exact⟨rfl,rfl,rfl,rfl⟩
  have rd: ∀{x c p},RD W x c p->RD {W with tasks:=ah W.tasks u {W.tasks u with aE:=v}} x c p:=λ{x c p} hR=>by
    obtain⟨a,b,c,d,e⟩:=hR
    obtain⟨e1,e2,e3,e4⟩:=mP x.toNat
    exact⟨a,b,e1.trans c,e3.trans d,λhp=>e4.trans (e hp)⟩
  have eo: ∀f:Nat,ca {W with tasks:=ah W.tasks u {W.tasks u with aE:=v}} f+b1 ((W.tasks u).aE==f)=ca W f+b1 (v==f):=λf=>by
    have:=N9 (n:=W.aP) (f:=λi=>(W.tasks i).aE) (c:=u) (v:=v) (x:=f) (by omega)
    refine(congrArg (· +b1 ((W.tasks u).aE==(f:Int))) ?_).trans this
    show bx W.aP (λi=>(ah W.tasks u {W.tasks u with aE:=v} i).aE==(f:Int))=_
    refine jA λi _=>?_
    show _=(ah (λi=>(W.tasks i).aE) u v i==(f:Int))
    rcases Decidable.em (i=u)with e|e
    · subst e;rw[aZ,aZ]
    · rw[bh e,bh e]
  refine⟨⟨z.cg rfl rfl,λf hf h6=>?_,λf hf h6=>?_,λf hf h6 hw=>?_,λf hf h6=>?_,λf hf h6 hx=>?_,λf hf=>?_,λc hc=>?_,λi hi=>?_⟩,eo⟩
  · show ah W.tasks u _ f=_
    rw[bh λe=>h6 (by show W.kinds f=6;rw[e];exact Gi)];exact h.bl f hf h6
  · show jg (ah W.tasks u _ f)=false/\fT W (ah W.tasks u _ f)=false/\gv W (ah W.tasks u _ f)=true
    rcases Decidable.em (f=u)with e|e
    · subst e
      rw[aZ]
      obtain⟨a,b,c⟩:=h.nm f hu Gi
      refine⟨a,b,?_⟩
      unfold gv at c⊢
      simp only[Bool.and_eq_true]at c⊢
      refine⟨c.1,?_⟩
      unfold okF
      rcases iQ with e|e
      · rw[e];rfl
      · rw[fS e.1,e.2.1];simp
    · rw[bh e];exact h.nm f hf h6
  · have hw:(ah W.tasks u {W.tasks u with aE:=v} f).aE≠ -1:=hw
    show(¬X (ah W.tasks u {W.tasks u with aE:=v} f).aE.toNat->(ah W.tasks u {W.tasks u with aE:=v} (ah W.tasks u {W.tasks u with aE:=v} f).aE.toNat).st=5)/\(¬X f->(ah W.tasks u {W.tasks u with aE:=v} f).st≠4)
    rw[(mP f).1,(mP _).1]
    rcases Decidable.em (f=u)with e|e
    · subst e
      rw[aZ]at hw⊢
      have g:=iQ.resolve_left hw
      exact⟨λhx=>absurd g.2.2.1 hx,λhx=>g.2.2.2.2.resolve_left hx⟩
    · rw[bh e]at hw⊢
      exact h.ow f hf h6 hw
  · have e:=eo f
    obtain⟨a,b⟩:=h.o1 f hf h6
    show _/\(¬X f->(_↔(ah W.tasks u {W.tasks u with aE:=v} f).st=5))
    rw[(mP f).1]
    rcases Decidable.em (v=(f:Int))with g|g
    · subst g
      have g:=iQ.resolve_left (by omega)
      rw[Int.toNat_natCast]at g
      rw[wK,g.2.2.2.1]at e
      exact⟨by omega,λhx=>absurd g.2.2.1 hx⟩
    · rw[qN g]at e
      refine⟨by omega,λhx=>?_⟩
      rw[qN (x:=(W.tasks u).aE) λe2=>hx (by
       have:=hold.resolve_left (by omega)
       rwa [e2,Int.toNat_natCast]at this)]at e
      have e:ca {W with tasks:=ah W.tasks u {W.tasks u with aE:=v}} f=ca W f:=by omega
      rw[e];exact b hx
  · obtain⟨e1,e2,_⟩:=mP f
    obtain⟨p1,p2,p3,p4⟩:=h.so f hf h6 hx
    refine⟨?_,?_,?_,?_⟩
    · show(ah W.tasks u _ f).st=2\/(ah W.tasks u _ f).st=3\/(ah W.tasks u _ f).st=4->cA W f=1/\cu W f=0/\bH W (ah W.tasks u _ f).loc=7/\cF (W.ai (ah W.tasks u _ f).loc.toNat) (W.lines (ah W.tasks u _ f).loc.toNat) f=true
      rw[e1,e2];exact p1
    · show(ah W.tasks u _ f).st=6->cA W f=1/\cu W f=0/\bH W (ah W.tasks u _ f).loc=8/\cF (W.ai (ah W.tasks u _ f).loc.toNat) (W.lines (ah W.tasks u _ f).loc.toNat) f=true
      rw[e1,e2];exact p2
    · show(ah W.tasks u _ f).st=1->cA W f=0/\cu W f=1/\(ah W.tasks u _ f).loc= -1
      rw[e1,e2];exact p3
    · show(ah W.tasks u _ f).st≠1->(ah W.tasks u _ f).st≠2->(ah W.tasks u _ f).st≠3->(ah W.tasks u _ f).st≠4->(ah W.tasks u _ f).st≠6->cA W f=0/\cu W f=0/\(ah W.tasks u _ f).loc= -1
      rw[e1,e2];exact p4
  · have hf:f<W.aj:=hf
    obtain⟨l1,l2,l3,l4⟩:=eh.1 (h.ln f hf)
    refine eh.2 ⟨l1,l2,l3,λk hk=>?_⟩
    obtain⟨a,b,c,d⟩:=l4 k hk
    obtain⟨e1,e2,_⟩:=mP (W.lines f k).toNat
    refine⟨a,b,e2.trans c,?_⟩
    show((ah W.tasks u _ (W.lines f k).toNat).st==4)=((ah W.tasks u _ (W.lines f 0).toNat).st==4)
    rw[e1,(mP _).1];exact d
  · exact lF.2 λmK=>rd (lF.1 (h.co c hc) mK)
  · exact kj.2 λk hk=>rd (kj.1 (h.rl i hi) k hk)
theorem TS.bits {X:Nat->Prop} {W:Wd} {b:Nat} {v:Int} (h:TS X W) (hb:b<W.aj) (hk:W.kinds b=8) (hv:0<=v/\v<=65535) (hl:v≠0->W.ai b=0):TS X {W with bits:=ah W.bits b v}:=by
  refine h.lists rfl rfl rfl rfl (λf _ _=>⟨rfl,rfl,λ_ _ h=>h⟩) (λf hf=>?_) h.co h.rl
  obtain⟨l1,l2,l3,l4⟩:=eh.1 (h.ln f hf)
  refine eh.2 ⟨l1,?_,?_,l4⟩
  · show ah W.bits b v f≠0->_
    rcases Decidable.em (f=b)with e|e
    · subst e;rw[aZ];exactλh0=>⟨hk,hl h0⟩
    · rw[bh e];exact l2
  · show 0<=ah W.bits b v f/\ah W.bits b v f<=65535
    rcases Decidable.em (f=b)with e|e
    · subst e;rw[aZ];exact hv
    · rw[bh e];exact l3
theorem TS.run {X:Nat->Prop} {W:Wd} {k i c:Nat} (h:TS X W) (hk:k<W.aS) (hi:i<W.aq k) (hc:c<W.aC) (hkc:k/4=c) (j5:W.ak c= -1):
    TS X {W with ak:=ah W.ak c (W.ready k i),aq:=ah W.aq k (W.aq k -1),ready:=ah W.ready k (oN (W.ready k) i)}:=by
  have hr:=kj.1 (h.rl k hk)
  refine h.lists rfl rfl rfl rfl (λf hf _=>⟨rfl,?_,λ_ _ h=>h⟩) h.ln (λd hd=>?_) λq hq=>?_
  · have a1:=AJ (n:=W.aS) (ln:=W.aq) (l:=W.ready) (m:=W.aq k -1) (g:=oN (W.ready k) i) (x:=f) hk
    have a2:=N8 (n:=W.aq k) (f:=W.ready k) (x:=f) hi
    have a3:=N9 (n:=W.aC) (f:=W.ak) (c:=c) (v:=W.ready k i) (x:=f) hc
    rw[j5,qN (show(-1:Int)≠f by omega)]at a3
    show cJ W.aS (ah W.aq k _) (ah W.ready k _) f+cf W.aC (ah W.ak c _) f=cJ W.aS W.aq W.ready f+cf W.aC W.ak f
    omega
  · refine lF.2 λhn=>?_
    have hn:ah W.ak c (W.ready k i) d≠ -1:=hn
    show RD W (ah W.ak c (W.ready k i) d) d (-1)
    rcases Decidable.em (d=c)with e|e
    · subst e
      rw[aZ]
      obtain⟨a,b,c,d,e⟩:=hr i hi
      exact⟨a,b,c,by rw[d,hkc],λh=>absurd h (by decide)⟩
    · rw[bh e]at hn⊢;exact lF.1 (h.co d hd) hn
  · refine kj.2 λj hj=>?_
    have hj:j<ah W.aq k (W.aq k -1) q:=hj
    show RD W (ah W.ready k (oN (W.ready k) i) q j) _ _
    rcases Decidable.em (q=k)with e|e
    · subst e
      rw[aZ]at hj⊢
      unfold oN
      cases Nat.blt j i
      · exact hr (j+1) (by omega)
      · exact hr j (by omega)
    · rw[bh e]at hj⊢;exact kj.1 (h.rl q hq) j hj
end Go.Proofs.YthgmgkabnffniaaGreatDoor
