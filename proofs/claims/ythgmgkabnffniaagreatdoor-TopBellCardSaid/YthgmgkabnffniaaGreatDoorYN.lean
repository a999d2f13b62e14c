/- Frames that go: tasks stay sound. -/
import Derived.Test.YthgmgkabnffniaaGreatDoorYM
import Derived.Test.YthgmgkabnffniaaGreatDoorYL
import Derived.Test.YthgmgkabnffniaaGreatDoorYK
import Derived.Test.YthgmgkabnffniaaGreatDoorYJ
import Derived.Test.YthgmgkabnffniaaGreatDoorYI
set_option linter.unusedVariables false
set_option linter.unusedSimpArgs false
set_option linter.unusedVariables false
set_option linter.unusedSimpArgs false
set_option maxRecDepth 100000
namespace Go.Proofs.YthgmgkabnffniaaGreatDoor
open Go.RowKit Go.Sy
theorem TS.other {X:Nat->Prop} {W:Wd} (h:TS X W) (R:Nat->Int) (S:Nat->bK) (n:Nat->Nat) (t:Nat->Nat->dQ):TS X {W with af:=R,aa:=S,aG:=n,aA:=t}:=
  ⟨h.z.cg rfl rfl,h.bl,h.nm,h.ow,h.o1,λf a b c=>⟨(h.so f a b c).dr,(h.so f a b c).bl,(h.so f a b c).rd,(h.so f a b c).no⟩,h.ln,h.co,h.rl⟩
theorem T0.LL {W:Wd} (h:T0 W) {f:Nat} (hf:W.kinds f≠6):cA W f=0/\cu W f=0:=by
  have z:=h.z.lines
  refine⟨Dq.2 λi hi k hk e=>hf ?_,?_⟩
  · obtain⟨a,b,_⟩:=(eh.1 (h.ln i (by omega))).2.2.2 k hk
    rw[e,Int.toNat_natCast]at b;exact b
  · unfold cu
    have e1:cJ W.aS W.aq W.ready f=0:=Dq.2 λi hi k hk e=>hf (by
      obtain⟨a,b,_⟩:=kj.1 (h.rl i hi) k hk
      rw[e,Int.toNat_natCast]at b;exact b)
    have e2:cf W.aC W.ak f=0:=AK.2 λc hc e=>hf (by
      obtain⟨a,b,_⟩:=lF.1 (h.co c hc) (by omega)
      rw[e,Int.toNat_natCast]at b;exact b)
    omega
theorem T0.del {W:Wd} {f:Nat} (h:T0 W) (hf:f<W.aj) (hl:W.ai f=0) (hb:W.bits f=0) (ho:(W.tasks f).aE= -1) (hs:cA W f=0) (hn:cu W f=0)
    (hr: ∀i,i<W.aj->W.kinds i=6->(W.tasks i).node≠f/\(W.tasks i).space≠f/\(W.tasks i).helper≠f/\(W.tasks i).aE≠f):T0 {W with kinds:=ah W.kinds f 0,tasks:=ah W.tasks f aM.blank}:=by
  have z:=h.z
  have zl:=z.lines
  have ko: ∀x:Int,x≠f->bH {W with kinds:=ah W.kinds f 0,tasks:=ah W.tasks f aM.blank} x=bH W x:=λx hx=>by
    unfold bH
    show(bif decide (x<0)||decide ((W.aj:Int)<=x)then -1 else ah W.kinds f 0 x.toNat)=_
    cases hd:decide (x<0)||decide ((W.aj:Int)<=x)with
    |true=>rfl
    |false=>
     simp only[Bool.or_eq_false_iff,decide_eq_false_iff_not]at hd
     rw[bh λe=>hx (by omega)]
  have Gg: ∀{i},ah W.kinds f 0 i=6->i≠f/\W.kinds i=6:=λ{i} hi=>by
    rcases Decidable.em (i=f)with e|e
    · subst e;rw[aZ]at hi;exact absurd hi (by decide)
    · rw[bh e]at hi;exact⟨e,hi⟩
  have rd: ∀{x c p},x≠(f:Int)->RD W x c p->RD {W with kinds:=ah W.kinds f 0,tasks:=ah W.tasks f aM.blank} x c p:=λ{x c p} hx hR=>by
    obtain⟨a,b,c,d,e⟩:=hR
    have ba:x.toNat≠f:=λe=>hx (toNat_eq a.1 e)
    refine⟨a,?_,?_,?_,λhp=>?_⟩
    · show ah W.kinds f 0 x.toNat=6
      rw[bh ba];exact b
    · show(ah W.tasks f aM.blank x.toNat).st=1
      rw[bh ba];exact c
    · show(ah W.tasks f aM.blank x.toNat).core=_
      rw[bh ba];exact d
    · show(ah W.tasks f aM.blank x.toNat).prio=_
      rw[bh ba];exact e hp
  refine⟨z.cg rfl rfl,λi hi h6=>?_,λi hi h6=>?_,λi hi h6 hw=>?_,λi hi h6=>?_,λi hi h6 _=>?_,λi hi=>?_,λc hc=>?_,λi hi=>?_⟩
  · show ah W.tasks f aM.blank i=_
    rcases Decidable.em (i=f)with e|e
    · subst e;rw[aZ]
    · have h6:ah W.kinds f 0 i≠6:=h6
      rw[bh e]at h6⊢;exact h.bl i hi h6
  · obtain⟨e,k6⟩:=Gg h6
    obtain⟨a,b,c⟩:=h.nm i hi k6
    obtain⟨r1,r2,r3,r4⟩:=hr i hi k6
    show jg (ah W.tasks f aM.blank i)=false/\fT W (ah W.tasks f aM.blank i)=false/\_
    rw[show({W with kinds:=ah W.kinds f 0,tasks:=ah W.tasks f aM.blank}:Wd).tasks i=W.tasks i from bh e,bh e]
    refine⟨a,b,?_⟩
    unfold gv okF at c⊢
    rw[ko _ r1,ko _ r2,ko _ r3,ko _ r4];exact c
  · obtain⟨e,k6⟩:=Gg h6
    have hw:(ah W.tasks f aM.blank i).aE≠ -1:=hw
    show(¬False->(ah W.tasks f aM.blank (ah W.tasks f aM.blank i).aE.toNat).st=5)/\(¬False->(ah W.tasks f aM.blank i).st≠4)
    rw[bh e]at hw⊢
    have q:=h.ow i hi k6 hw
    have n3:=(h.nm i hi k6).2.2
    unfold gv okF at n3
    simp only[Bool.and_eq_true,Bool.or_eq_true,beq_iff_eq]at n3
    have hk:=n3.2.resolve_left hw
    have a_:=iO (W:=W) (f:=(W.tasks i).aE) (by rw[hk];decide)
    rw[bh λe2=>(hr i hi k6).2.2.2 (toNat_eq a_.1 e2)];exact q
  · obtain⟨e,k6⟩:=Gg h6
    have eo:ca {W with kinds:=ah W.kinds f 0,tasks:=ah W.tasks f aM.blank} i=ca W i:=jA λj _=>by
      show((ah W.tasks f aM.blank j).aE==(i:Int))=_
      rcases Decidable.em (j=f)with e|e
      · subst e;rw[aZ,ho];rfl
      · rw[bh e]
    rw[eo]
    show _/\(¬False->(_↔(ah W.tasks f aM.blank i).st=5))
    rw[bh e];exact h.o1 i hi k6
  · obtain⟨e,k6⟩:=Gg h6
    obtain⟨p1,p2,p3,p4⟩:=h.so i hi k6 id
    have e1:({W with kinds:=ah W.kinds f 0,tasks:=ah W.tasks f aM.blank}:Wd).tasks i=W.tasks i:=bh e
    have UY: ∀{k:Int},bH W (W.tasks i).loc=k->cF (W.ai (W.tasks i).loc.toNat) (W.lines (W.tasks i).loc.toNat) i=true->k≠ -1->(W.tasks i).loc≠f:=λ{k} hk a_ ba e=>by
      rw[e,Int.toNat_natCast,hl]at a_
      exact absurd a_ (by unfold cF dY;simp[g_])
    refine⟨?_,?_,?_,?_⟩<;>rw[e1]
    · intro hh
      obtain⟨a,b,c,d⟩:=p1 hh
      exact⟨a,b,by rw[ko _ (UY c d (by decide))];exact c,d⟩
    · intro hh
      obtain⟨a,b,c,d⟩:=p2 hh
      exact⟨a,b,by rw[ko _ (UY c d (by decide))];exact c,d⟩
    · exact p3
    · exact p4
  · have hi:i<W.aj:=hi
    obtain⟨l1,l2,l3,l4⟩:=eh.1 (h.ln i hi)
    refine eh.2 ?_
    show(0<W.ai i->ah W.kinds f 0 i=7\/ah W.kinds f 0 i=8)/\(W.bits i≠0->ah W.kinds f 0 i=8/\W.ai i=0)/\(0<=W.bits i/\W.bits i<=65535)/\ ∀k,k<W.ai i->(0<=W.lines i k/\W.lines i k<W.aj)/\ah W.kinds f 0 (W.lines i k).toNat=6/\(ah W.tasks f aM.blank (W.lines i k).toNat).loc=i/\((ah W.tasks f aM.blank (W.lines i k).toNat).st==4)=((ah W.tasks f aM.blank (W.lines i 0).toNat).st==4)
    rcases Decidable.em (i=f)with e|e
    · subst e
      rw[hl,hb]
      exact⟨λg=>absurd g (Nat.lt_irrefl _),λg=>absurd rfl g,by decide,λk hk=>absurd hk (Nat.not_lt_zero _)⟩
    · rw[bh e]
      have ne: ∀k,k<W.ai i->(W.lines i k).toNat≠f:=λk hk e=>GW hs (by omega) hk (toNat_eq (l4 k hk).1.1 e)
      refine⟨l1,l2,l3,λk hk=>?_⟩
      obtain⟨a,b,c,d⟩:=l4 k hk
      rw[bh (ne k hk),bh (ne k hk),bh (ne 0 (by omega))]
      exact⟨a,b,c,d⟩
  · exact lF.2 λmK=>rd ((DU hn).2 c hc) (lF.1 (h.co c hc) mK)
  · exact kj.2 λk hk=>rd ((DU hn).1 i k hi hk) (kj.1 (h.rl i hi) k hk)
theorem T0.kz {W:Wd} {f:Nat} (h:T0 W) (hf:f<W.aj) (hk:W.kinds f≠6/\W.kinds f≠7/\W.kinds f≠8) (hr: ∀i,i<W.aj->W.kinds i=6->(W.tasks i).node≠f/\(W.tasks i).space≠f/\(W.tasks i).helper≠f):T0 {W with kinds:=ah W.kinds f 0}:=by
  obtain⟨l1,l2,_,_⟩:=eh.1 (h.ln f hf)
  have hb:=h.bl f hf hk.1
  obtain⟨s1,s2⟩:=h.LL hk.1
  have hl:W.ai f=0:=Classical.byContradiction λe=>by have:=l1 (by omega);omega
  have LP:W.bits f=0:=Classical.byContradiction λe=>by have:=(l2 e).1;omega
  have d:=h.del hf hl LP (by rw[hb];rfl) s1 s2 λi hi h6=>by
    obtain⟨a,b,c⟩:=hr i hi h6
    refine⟨a,b,c,λe=>?_⟩
    have n3:=(h.nm i hi h6).2.2
    unfold gv okF at n3
    simp only[Bool.and_eq_true,Bool.or_eq_true,beq_iff_eq]at n3
    have k6:=n3.2.resolve_left (by omega)
    rw[e,fS (by omega),Int.toNat_natCast]at k6
    exact hk.1 k6
  rw[show ah W.tasks f aM.blank=W.tasks by rw[<-hb];exact GV]at d
  exact d
theorem yA {W:Wd} {t:aM} (h:gv W t=true):(t.node= -1\/bH W t.node=5)/\(t.space= -1\/bH W t.space=4)/\(t.helper= -1\/bH W t.helper=7)/\(t.aE= -1\/bH W t.aE=6):=by
  unfold gv okF at h
  simp only[Bool.and_eq_true,Bool.or_eq_true,beq_iff_eq,and_assoc]at h
  exact h
theorem Bf {W:Wd} {t:aM} (h:(t.node= -1\/bH W t.node=5)/\(t.space= -1\/bH W t.space=4)/\(t.helper= -1\/bH W t.helper=7)/\(t.aE= -1\/bH W t.aE=6)):gv W t=true:=by
  unfold gv okF
  simp only[Bool.and_eq_true,Bool.or_eq_true,beq_iff_eq,and_assoc]
  exact h
theorem T0.qJ {W:Wd} {f i:Nat} (h:T0 W) (hf:f<W.aj) (hi:i<W.aj) (h6:W.kinds i=6):(W.kinds f≠5->(W.tasks i).node≠f)/\(W.kinds f≠4->(W.tasks i).space≠f)/\(W.kinds f≠7->(W.tasks i).helper≠f)/\(W.kinds f≠6->(W.tasks i).aE≠f):=by
  obtain⟨a,b,c,d⟩:=yA (h.nm i hi h6).2.2
  have e:bH W (f:Int)=W.kinds f:=by rw[fS (by omega),Int.toNat_natCast]
  refine⟨λhk g=>?_,λhk g=>?_,λhk g=>?_,λhk g=>?_⟩
  · rw[g,e]at a;exact hk (a.resolve_left (by omega))
  · rw[g,e]at b;exact hk (b.resolve_left (by omega))
  · rw[g,e]at c;exact hk (c.resolve_left (by omega))
  · rw[g,e]at d;exact hk (d.resolve_left (by omega))
theorem T0.pg {W:Wd} {f:Nat} (h:T0 W) (hf:f<W.aj) (hk:W.kinds f=2\/W.kinds f=3):T0 {W with kinds:=ah W.kinds f 0}:=
  h.kz hf (by omega) λi hi h6=>by
    obtain⟨a,b,c,_⟩:=h.qJ hf hi h6
    exact⟨a (by omega),b (by omega),c (by omega)⟩
theorem T0.sp {W:Wd} {f:Nat} (h:T0 W) (hf:f<W.aj) (hk:W.kinds f=4):T0 {W with kinds:=ah W.kinds f 0,tasks:=λi=>vj f (W.tasks i)}:=by
  have hb:vj (f:Int) aM.blank=aM.blank:=by
    unfold vj
    rw[beq_eq_false_iff_ne.2 (show aM.blank.space≠(f:Int) by show(-1:Int)≠f;omega)];rfl
  have J:T0 {W with tasks:=λi=>vj f (W.tasks i)}:=h.all (λi hi h6=>by rw[h.bl i hi h6];exact hb) λi hi h6=>by
    obtain⟨a,b,c⟩:=h.nm i hi h6
    refine⟨a,b,Bf ?_,rfl,.inr ⟨rfl,rfl,rfl,.inl rfl⟩⟩
    obtain⟨r1,r2,r3,r4⟩:=yA c
    refine⟨r1,?_,r3,r4⟩
    show(bif (W.tasks i).space==(f:Int)then -1 else(W.tasks i).space)= -1\/bH W (bif (W.tasks i).space==(f:Int)then -1 else(W.tasks i).space)=4
    cases (W.tasks i).space==(f:Int)
    · exact r2
    · exact .inl rfl
  refine T0.kz (W:={W with tasks:=λi=>vj f (W.tasks i)}) J hf (show W.kinds f≠6/\W.kinds f≠7/\W.kinds f≠8 by omega) λi hi h6=>?_
  obtain⟨a,b,c,_⟩:=h.qJ hf hi h6
  refine⟨a (by omega),?_,c (by omega)⟩
  show(bif (W.tasks i).space==(f:Int)then -1 else(W.tasks i).space)≠f
  cases e:(W.tasks i).space==(f:Int)
  · exact beq_eq_false_iff_ne.1 e
  · show(-1:Int)≠f;omega
theorem T0.nd {W:Wd} {f:Nat} (h:T0 W) (hf:f<W.aj) (hk:W.kinds f=5):T0 {W with kinds:=ah W.kinds f 0,tasks:=λi=>vk f (W.tasks i)}:=by
  have hb:vk (f:Int) aM.blank=aM.blank:=by
    unfold vk
    rw[beq_eq_false_iff_ne.2 (show aM.blank.node≠(f:Int) by show(-1:Int)≠f;omega)];rfl
  have J:T0 {W with tasks:=λi=>vk f (W.tasks i)}:=h.all (λi hi h6=>by rw[h.bl i hi h6];exact hb) λi hi h6=>by
    obtain⟨a,b,c⟩:=h.nm i hi h6
    refine⟨a,b,Bf ?_,rfl,.inr ⟨rfl,rfl,rfl,.inl rfl⟩⟩
    obtain⟨r1,r2,r3,r4⟩:=yA c
    refine⟨?_,r2,r3,r4⟩
    show(bif (W.tasks i).node==(f:Int)then -1 else(W.tasks i).node)= -1\/bH W (bif (W.tasks i).node==(f:Int)then -1 else(W.tasks i).node)=5
    cases (W.tasks i).node==(f:Int)
    · exact r1
    · exact .inl rfl
  refine T0.kz (W:={W with tasks:=λi=>vk f (W.tasks i)}) J hf (show W.kinds f≠6/\W.kinds f≠7/\W.kinds f≠8 by omega) λi hi h6=>?_
  obtain⟨a,b,c,_⟩:=h.qJ hf hi h6
  refine⟨?_,b (by omega),c (by omega)⟩
  show(bif (W.tasks i).node==(f:Int)then -1 else(W.tasks i).node)≠f
  cases e:(W.tasks i).node==(f:Int)
  · exact beq_eq_false_iff_ne.1 e
  · show(-1:Int)≠f;omega
theorem T0.td {W:Wd} {f:Nat} (h:T0 W) (hf:f<W.aj) (hk:W.kinds f=6):T0 (Gh W f):=by
  have J:T0 (bJ W f):=(h.stp hf hk).wk λ_ hf=>hf.1
  have e1:((bJ W f).tasks f).st=0:=by
    show(fX (ru W (f:Int).toNat (-1) 0 f) f).st=0
    rw[Int.toNat_natCast]
    show(ru W f (-1) 0 f).st=0
    unfold ru;rw[aZ]
  obtain⟨i1,i2,_⟩:=(J.so f hf hk id).idle (.inl e1)
  have o0:ca (bJ W f) f=0:=by
    have o:=J.o1 f hf hk
    have:ca (bJ W f) f≠1:=λe=>by have:=(o.2 id).1 e;omega
    omega
  have nod: ∀{V:Wd},T0 V->V.aP=V.aj->ca V f=0-> ∀i,i<V.aj->(V.tasks i).aE≠f:=λ{V} hV hz ho i hi e=>by
    have:=mY.1 ho i (by omega)
    rw[e]at this;simp at this
  have fin: ∀{V:Wd},T0 V->V.kinds=W.kinds->fh V=fh W->cA V f=0->cu V f=0->ca V f=0->(V.tasks f).aE= -1->T0 {V with kinds:=ah V.kinds f 0,tasks:=ah V.tasks f aM.blank}:=λ{V} hV ek ec hs hn ho hw=>by
    simp only[fh,List.cons.injEq,and_true]at ec
    have tF:f<V.aj:=by omega
    have cR:V.kinds f=6:=by rw[ek];exact hk
    obtain⟨l1,l2,_,_⟩:=eh.1 (hV.ln f tF)
    have hl:V.ai f=0:=Classical.byContradiction λe=>by have:=l1 (by omega);omega
    have LP:V.bits f=0:=Classical.byContradiction λe=>by have:=(l2 e).1;omega
    have zt:=hV.z.tasks
    exact hV.del tF hl LP hw hs hn λi hi h6=>by
      obtain⟨a,b,c,_⟩:=hV.qJ tF hi h6
      exact⟨a (by omega),b (by omega),c (by omega),nod hV zt ho i hi⟩
  have eW:Gh W f={bJ W f with kinds:=ah W.kinds f 0,tasks:=Ae (bJ W f) f}:=rfl
  rw[eW]
  rcases Decidable.em (((bJ W f).tasks f).aE= -1)with e|e
  · have q:=fin J rfl rfl i1 i2 o0 e
    have et:Ae (bJ W f) f=ah (bJ W f).tasks f aM.blank:=by
      funext i
      unfold Ae ah
      rw[Int.toNat_natCast,e,decide_eq_false (by decide)];rfl
    rw[et];exact q
  · obtain⟨_,_,_,r4⟩:=yA (J.nm f hf hk).2.2
    have r4:=r4.resolve_left e
    have a_:=iO (W:=bJ W f) (f:=((bJ W f).tasks f).aE) (by rw[r4];decide)
    rw[fS a_]at r4
    have hu:((bJ W f).tasks f).aE.toNat<W.aj:=by
      have:((bJ W f).tasks f).aE<(W.aj:Int):=a_.2
      omega
    have s5:=(J.ow f hf hk e).1 id
    have ba:((bJ W f).tasks f).aE.toNat≠f:=λg=>by rw[g]at s5;omega
    obtain⟨j1,j2,j3⟩:=(J.so _ hu r4 id).idle (.inr s5)
    have ou:=((J.o1 _ hu r4).2 id).2 s5
    have eu:((((bJ W f).tasks f).aE.toNat:Nat):Int)=((bJ W f).tasks f).aE:=by omega
    obtain⟨m1,m2⟩:=(J.wk (Y:=λi=>i=((bJ W f).tasks f).aE.toNat) λ_ h=>h.elim).JM (u:=f) (v:= -1) hf hk (.inr rfl) (.inl rfl)
    have WC:=m2 ((bJ W f).tasks f).aE.toNat
    rw[eu,wK,ou,qN (show(-1:Int)≠((bJ W f).tasks f).aE by omega)]at WC
    have WD:=m2 f
    rw[o0,qN (show((bJ W f).tasks f).aE≠(f:Int) by omega),qN (show(-1:Int)≠(f:Int) by omega)]at WD
    obtain⟨n1,n2,n3⟩:=J.nm _ hu r4
    have au:ah (bJ W f).tasks f {(bJ W f).tasks f with aE:= -1} ((bJ W f).tasks f).aE.toNat=(bJ W f).tasks ((bJ W f).tasks f).aE.toNat:=bh ba
    have m3:=m1.set (t:=((bJ W f).tasks f).aE.toNat) (r:={(bJ W f).tasks ((bJ W f).tasks f).aE.toNat with st:=0}) hu r4 n1 (vJ (l:=((bJ W f).tasks ((bJ W f).tasks f).aE.toNat).loc) n2 (by decide)) n3 (congrArg aM.aE au).symm (.inl ⟨rfl,j1,j2⟩)
    have od: ∀i:Nat,ca {bJ W f with tasks:=ah (ah (bJ W f).tasks f {(bJ W f).tasks f with aE:= -1}) ((bJ W f).tasks f).aE.toNat {(bJ W f).tasks ((bJ W f).tasks f).aE.toNat with st:=0}} i=ca {bJ W f with tasks:=ah (bJ W f).tasks f {(bJ W f).tasks f with aE:= -1}} i:=λi=>
      ug (W:={bJ W f with tasks:=ah (bJ W f).tasks f {(bJ W f).tasks f with aE:= -1}}) (t:=((bJ W f).tasks f).aE.toNat) (r:={(bJ W f).tasks ((bJ W f).tasks f).aE.toNat with st:=0}) (congrArg aM.aE au).symm i
    have m4:T0 {bJ W f with tasks:=ah (ah (bJ W f).tasks f {(bJ W f).tasks f with aE:= -1}) ((bJ W f).tasks f).aE.toNat {(bJ W f).tasks ((bJ W f).tasks f).aE.toNat with st:=0}}:=by
      refine m3.lv λi hi h6 hx _=>?_
      obtain rfl:i=((bJ W f).tasks f).aE.toNat:=hx
      have g1:(({bJ W f with tasks:=ah (ah (bJ W f).tasks f {(bJ W f).tasks f with aE:= -1}) ((bJ W f).tasks f).aE.toNat {(bJ W f).tasks ((bJ W f).tasks f).aE.toNat with st:=0}}:Wd).tasks ((bJ W f).tasks f).aE.toNat)={(bJ W f).tasks ((bJ W f).tasks f).aE.toNat with st:=0}:=aZ
      have g2:ca {bJ W f with tasks:=ah (ah (bJ W f).tasks f {(bJ W f).tasks f with aE:= -1}) ((bJ W f).tasks f).aE.toNat {(bJ W f).tasks ((bJ W f).tasks f).aE.toNat with st:=0}} ((bJ W f).tasks f).aE.toNat=0:=by
        rw[od];exact Nat.succ.inj WC
      have g3:(({bJ W f with tasks:=ah (ah (bJ W f).tasks f {(bJ W f).tasks f with aE:= -1}) ((bJ W f).tasks f).aE.toNat {(bJ W f).tasks ((bJ W f).tasks f).aE.toNat with st:=0}}:Wd).tasks ((bJ W f).tasks f).aE.toNat).st=0:=by rw[g1]
      exact⟨⟨λh=>absurd (g2.symm.trans h) (by decide),λh=>absurd (g3.symm.trans h) (by decide)⟩,.o (.inl g3) j1 j2 (by rw[g1];exact j3),λ_=>by rw[g3];decide⟩
    have a0:ah (ah (bJ W f).tasks f {(bJ W f).tasks f with aE:= -1}) ((bJ W f).tasks f).aE.toNat {(bJ W f).tasks ((bJ W f).tasks f).aE.toNat with st:=0} f={(bJ W f).tasks f with aE:= -1}:=by
      rw[bh ba.symm,aZ]
    have q:=fin m4 rfl rfl i1 i2 (by rw[od];exact WD) (congrArg aM.aE a0)
    have et:Ae (bJ W f) f=ah (ah (ah (bJ W f).tasks f {(bJ W f).tasks f with aE:= -1}) ((bJ W f).tasks f).aE.toNat {(bJ W f).tasks ((bJ W f).tasks f).aE.toNat with st:=0}) f aM.blank:=by
      funext i
      unfold Ae
      rw[Int.toNat_natCast,decide_eq_true a_.1]
      rcases Decidable.em (i=f)with g|g
      · subst g;rw[aZ,Nat.beq_refl];rfl
      · rw[bh g,fD g]
        rcases Decidable.em (i=((bJ W f).tasks f).aE.toNat)with g2|g2
        · rw[g2,aZ,Nat.beq_refl];rfl
        · rw[bh g2,bh g,fD g2];rfl
    rw[et];exact q
end Go.Proofs.YthgmgkabnffniaaGreatDoor
set_option linter.unusedVariables false
set_option linter.unusedSimpArgs false
set_option maxRecDepth 100000
namespace Go.Proofs.YthgmgkabnffniaaGreatDoor
open Go.RowKit Go.Sy
theorem T0.dr {W:Wd} {f:Nat} (h:T0 W) (hf:f<W.aj) (hk:W.kinds f=7\/W.kinds f=8):T0 (CW W f):=by
  have z:=h.z
  have zl:=z.lines
  obtain⟨l1,l2,l3,l4⟩:=eh.1 (h.ln f hf)
  have mem: ∀i:Nat,cF (W.ai f) (W.lines f) i=true->i<W.aj/\W.kinds i=6/\(W.tasks i).loc=f/\cA W i=1/\cu W i=0/\ca W i=0/\cf (W.ai f) (W.lines f) i≠0:=λi hi=>by
    have hc:=yo.1 hi
    have tH:=hi
    unfold cF at tH
    obtain⟨k,cK,pb⟩:=qt.1 tH
    have pb:=eq_of_beq pb
    obtain⟨a,b,c,_⟩:=l4 k cK
    rw[pb,Int.toNat_natCast]at b c
    rw[pb]at a
    have av:i<W.aj:=by omega
    have p:=h.so i av b id
    have o:=h.o1 i av b
    have st:cA W i=1/\cu W i=0/\(W.tasks i).st≠5:=by
      rcases Decidable.em ((W.tasks i).st=2\/(W.tasks i).st=3\/(W.tasks i).st=4)with e|e
      · exact⟨(p.dr e).1,(p.dr e).2.1,by omega⟩
      rcases Decidable.em ((W.tasks i).st=6)with e6|e6
      · exact⟨(p.bl e6).1,(p.bl e6).2.1,by omega⟩
      rcases Decidable.em ((W.tasks i).st=1)with e1|e1
      · have:=(p.rd e1).2.2;omega
      · have:=(p.no e1 (by omega) (by omega) (by omega) e6).2.2;omega
    have:ca W i≠1:=λe=>st.2.2 ((o.2 id).1 e)
    exact⟨av,b,c,st.1,st.2.1,by omega,hc⟩
  have eL: ∀x:Int,cJ W.aW (ah W.ai f 0) W.lines x+cf (W.ai f) (W.lines f) x=cJ W.aW W.ai W.lines x:=λx=>by
    have:=AJ (n:=W.aW) (a:=f) (ln:=W.ai) (l:=W.lines) (m:=0) (g:=W.lines f) (x:=x) (by omega)
    rw[GV]at this
    have z0:cf 0 (W.lines f) x=0:=rfl
    omega
  have J:TS (λi=>cF (W.ai f) (W.lines f) i=true) {W with ai:=ah W.ai f 0,bits:=ah W.bits f 0}:=by
    refine(h.wk λ_ hx=>hx.elim).lists rfl rfl rfl rfl (λi hi hx=>⟨?_,rfl,λa ha a_=>?_⟩) (λi hi=>?_) h.co h.rl
    · have:=eL i
      have hc:cf (W.ai f) (W.lines f) i=0:=Classical.byContradiction λe=>hx (yo.2 e)
      show cJ W.aW (ah W.ai f 0) W.lines i=cJ W.aW W.ai W.lines i
      omega
    · show cF (ah W.ai f 0 a) (W.lines a) i=true
      rcases Decidable.em (a=f)with e|e
      · subst e;exact absurd a_ hx
      · rw[bh e];exact a_
    · have hi:i<W.aj:=hi
      refine eh.2 ?_
      show(0<ah W.ai f 0 i->W.kinds i=7\/W.kinds i=8)/\(ah W.bits f 0 i≠0->W.kinds i=8/\ah W.ai f 0 i=0)/\(0<=ah W.bits f 0 i/\ah W.bits f 0 i<=65535)/\ ∀k,k<ah W.ai f 0 i->(0<=W.lines i k/\W.lines i k<W.aj)/\W.kinds (W.lines i k).toNat=6/\(W.tasks (W.lines i k).toNat).loc=i/\lu W (W.lines i k)=lu W (W.lines i 0)
      rcases Decidable.em (i=f)with e|e
      · subst e
        rw[aZ,aZ]
        exact⟨λg=>absurd g (Nat.lt_irrefl _),λg=>absurd rfl g,by decide,λk hk=>absurd hk (Nat.not_lt_zero _)⟩
      · rw[bh e,bh e];exact eh.1 (h.ln i hi)
  have s0: ∀i:Nat,cF (W.ai f) (W.lines f) i=true->cA {W with ai:=ah W.ai f 0,bits:=ah W.bits f 0} i=0:=λi hi=>by
    obtain⟨_,_,_,m4,_,_,m7⟩:=mem i hi
    have:=eL i
    unfold cA at m4
    show cJ W.aW (ah W.ai f 0) W.lines i=0
    omega
  have mT: ∀i,i<W.aj->W.kinds i≠6->cF (W.ai f) (W.lines f) i=false:=λi hi h6=>by
    cases e:cF (W.ai f) (W.lines f) i with
    |false=>rfl
    |true=>exact absurd (mem i e).2.1 h6
  have h2:TS (λi=>cF (W.ai f) (W.lines f) i=true) {W with tasks:=λi=>bif cF (W.ai f) (W.lines f) i then{W.tasks i with st:=0,loc:= -1}else W.tasks i,ai:=ah W.ai f 0,bits:=ah W.bits f 0}:=by
    refine J.all (λi hi h6=>?_) λi hi h6=>?_
    · dsimp only
      rw[mT i hi h6];exact h.bl i hi h6
    · obtain⟨a,b,c⟩:=h.nm i hi h6
      dsimp only
      cases e:cF (W.ai f) (W.lines f) i with
      |false=>exact⟨a,b,c,rfl,.inr ⟨rfl,rfl,rfl,.inl rfl⟩⟩
      |true=>exact⟨a,vJ b (by decide),c,rfl,.inl ⟨rfl,s0 i e,(mem i e).2.2.2.2.1⟩⟩
  have h3:T0 {W with tasks:=λi=>bif cF (W.ai f) (W.lines f) i then{W.tasks i with st:=0,loc:= -1}else W.tasks i,ai:=ah W.ai f 0,bits:=ah W.bits f 0}:=by
    refine h2.lv λi hi h6 hx _=>?_
    have hx:cF (W.ai f) (W.lines f) i=true:=hx
    have e1:({W with tasks:=λi=>bif cF (W.ai f) (W.lines f) i then{W.tasks i with st:=0,loc:= -1}else W.tasks i,ai:=ah W.ai f 0,bits:=ah W.bits f 0}:Wd).tasks i={W.tasks i with st:=0,loc:= -1}:=by
      show(bif cF (W.ai f) (W.lines f) i then _ else _)=_
      rw[hx];rfl
    have e2:ca {W with tasks:=λi=>bif cF (W.ai f) (W.lines f) i then{W.tasks i with st:=0,loc:= -1}else W.tasks i,ai:=ah W.ai f 0,bits:=ah W.bits f 0} i=0:=by
      rw[ZC (W:=W) (W':={W with tasks:=λi=>bif cF (W.ai f) (W.lines f) i then{W.tasks i with st:=0,loc:= -1}else W.tasks i,ai:=ah W.ai f 0,bits:=ah W.bits f 0}) rfl λj=>?_]
      · exact(mem i hx).2.2.2.2.2.1
      · show(bif cF (W.ai f) (W.lines f) j then{W.tasks j with st:=0,loc:= -1}else W.tasks j:aM).aE=_
        cases cF (W.ai f) (W.lines f) j<;>rfl
    exact⟨by rw[e1,e2];exact⟨λh=>absurd h (by decide),λh=>absurd (show(0:Int)=5 from h) (by decide)⟩,.o (.inl (by rw[e1])) (s0 i hx) (mem i hx).2.2.2.2.1 (by rw[e1]),λ_=>by rw[e1];exact(by decide:(0:Int)≠4)⟩
  have tK: ∀k:Int,vh k f aM.blank=aM.blank:=λk=>by
    unfold vh
    rw[beq_eq_false_iff_ne.2 (show aM.blank.helper≠(f:Int) by show(-1:Int)≠f;omega),Bool.and_false];rfl
  have h4:T0 {W with tasks:=pd W f,ai:=ah W.ai f 0,bits:=ah W.bits f 0}:=by
    have q:=h3.all (T:=pd W f) (λi hi h6=>?_) λi hi h6=>?_
    · exact q
    · have hi:i<W.aj:=hi
      have h6:W.kinds i≠6:=h6
      unfold pd
      rw[Int.toNat_natCast,mT i hi h6]
      show vh _ _ (W.tasks i)=_
      rw[h.bl i hi h6];exact tK _
    · obtain⟨a,b,c⟩:=h3.nm i hi h6
      have e:pd W f i=vh (W.kinds f) f (bif cF (W.ai f) (W.lines f) i then{W.tasks i with st:=0,loc:= -1}else W.tasks i):=by
        unfold pd;rw[Int.toNat_natCast]
      rw[e]
      refine⟨a,b,Bf ?_,rfl,.inr ⟨rfl,rfl,rfl,.inl rfl⟩⟩
      obtain⟨r1,r2,r3,r4⟩:=yA c
      refine⟨r1,r2,?_,r4⟩
      show(bif W.kinds f==7&&(bif cF (W.ai f) (W.lines f) i then{W.tasks i with st:=0,loc:= -1}else W.tasks i:aM).helper==(f:Int)then -1 else _)=(-1:Int)\/bH _ (bif W.kinds f==7&&(bif cF (W.ai f) (W.lines f) i then{W.tasks i with st:=0,loc:= -1}else W.tasks i:aM).helper==(f:Int)then -1 else _)=7
      cases W.kinds f==7&&(bif cF (W.ai f) (W.lines f) i then{W.tasks i with st:=0,loc:= -1}else W.tasks i:aM).helper==(f:Int)
      · exact r3
      · exact .inl rfl
  have LO:W.kinds f≠6:=by omega
  have n4:=h4.LL (f:=f) LO
  have b4:=h4.bl f hf LO
  have d:=h4.del hf aZ aZ (by rw[b4];rfl) n4.1 n4.2 λi hi h6=>by
    obtain⟨a,b,c,d⟩:=h4.qJ (f:=f) hf hi h6
    refine⟨a (show W.kinds f≠5 by omega),b (show W.kinds f≠4 by omega),?_,d LO⟩
    rcases hk with e|e
    · have e2:pd W f i=vh (W.kinds f) f (bif cF (W.ai f) (W.lines f) i then{W.tasks i with st:=0,loc:= -1}else W.tasks i):=by
        unfold pd;rw[Int.toNat_natCast]
      show(pd W f i).helper≠f
      rw[e2,e]
      show(bif (7:Int)==7&&(bif cF (W.ai f) (W.lines f) i then{W.tasks i with st:=0,loc:= -1}else W.tasks i:aM).helper==(f:Int)then -1 else _)≠(f:Int)
      cases g:(bif cF (W.ai f) (W.lines f) i then{W.tasks i with st:=0,loc:= -1}else W.tasks i:aM).helper==(f:Int)
      · exact beq_eq_false_iff_ne.1 g
      · show(-1:Int)≠f;omega
    · exact c (show W.kinds f≠7 by omega)
  have eT:ah (pd W f) f aM.blank=pd W f:=by
    have b:pd W f f=aM.blank:=b4
    rw[<-b];exact GV
  have eW:CW W f={W with kinds:=ah W.kinds f 0,tasks:=ah (pd W f) f aM.blank,ai:=ah W.ai f 0,bits:=ah W.bits f 0}:=by
    rw[eT];unfold CW;rw[Int.toNat_natCast]
  rw[eW];exact d
end Go.Proofs.YthgmgkabnffniaaGreatDoor
set_option linter.unusedVariables false
set_option linter.unusedSimpArgs false
set_option maxRecDepth 100000
namespace Go.Proofs.YthgmgkabnffniaaGreatDoor
open Go.RowKit Go.Sy
theorem En {α:Type} {z:α} {p:Nat->Bool} {t:Nat->α}: ∀{n a:Nat},a<eY p n-> ∃j,j<n/\p j=false/\gT z p t n a=t j
  |0,a,h=>absurd h (by simp[eY])
  |n+1,a,h=>by
   cases hp:p n with
   |true=>
    rw[eY,hp]at h
    obtain⟨j,J,h2,h3⟩:=En (z:=z) (t:=t) (show a<eY p n from h)
    refine⟨j,by omega,h2,?_⟩
    rw[gT,hp]
    exact h3
   |false=>
    rw[eY,hp]at h
    have h:a<eY p n+1:=h
    rcases Nat.lt_or_ge a (eY p n)with h4|h4
    · obtain⟨j,J,h2,h3⟩:=En (z:=z) (t:=t) h4
      refine⟨j,by omega,h2,?_⟩
      rw[gT,fD (by omega:a≠eY p n),Bool.and_false]
      exact h3
    · obtain rfl:a=eY p n:=by omega
      refine⟨n,by omega,hp,?_⟩
      rw[gT,hp,Nat.beq_refl];rfl
theorem adR {p:dQ->Bool} {W:Wd} {c a:Nat} (h:a<xR p W c): ∃j,j<W.aG c/\p (W.aA c j)=false/\mS p W c a=W.aA c j:=En (z:=Am) (t:=W.aA c) h
theorem adQ (p:dQ->Bool) (W:Wd) (c:Nat):xR p W c<=W.aG c:=S8 _ _
structure KS (W W':Wd):Prop where
  af:W'.ay=W.ay
  kinds:W'.aj=W.aj
  aa:W'.al=W.al
  tasks:W'.aP=W.aP
  lines:W'.aW=W.aW
  bits:W'.aN=W.aN
  ak:W'.aC=W.aC
  ready:W'.aS=W.aS
  aA:W'.aQ=W.aQ
  aK:W'.aK=W.aK
  aB:W'.aB=W.aB
  time:W'.time=W.time
  dh:qS W'<=qS W
theorem KS.refl (W:Wd):KS W W:=⟨rfl,rfl,rfl,rfl,rfl,rfl,rfl,rfl,rfl,rfl,rfl,rfl,Nat.le_refl _⟩
theorem KS.trans {W W' WQ:Wd} (h:KS W W') (k:KS W' WQ):KS W WQ:=
  ⟨k.af.trans h.af,k.kinds.trans h.kinds,k.aa.trans h.aa,k.tasks.trans h.tasks,k.lines.trans h.lines,k.bits.trans h.bits,k.ak.trans h.ak,k.ready.trans h.ready,k.aA.trans h.aA,k.aK.trans h.aK,k.aB.trans h.aB,k.time.trans h.time,Nat.le_trans k.dh h.dh⟩
theorem gq.z {W:Wd} {x:aM} {g:Nat->Int} (h:gq W x):gq {W with kinds:=g} x:=h.of rfl rfl
theorem EE {W:Wd} {s:Int} (h:(iR W s==0)=true):(0<=s/\s<W.al)/\(W.aa s.toNat).kind≠0:=by
  have J:=eq_of_beq h
  unfold iR at J
  cases d1:decide (s<0)<;>cases d2:decide ((W.al:Int)<=s)<;>rw[d1,d2]at J<;>(try simp only[Bool.or_true,Bool.true_or,Bool.or_false,cond_true,cond_false]at J)<;>(try exact absurd J (by decide))
  have d1:=of_decide_eq_false d1
  have d2:=of_decide_eq_false d2
  refine⟨by omega,λe=>?_⟩
  rw[e]at J;exact absurd J (by decide)
theorem GG {n:Nat} {p q:Nat->Bool} (h: ∀i,i<n->p i=true->q i=true):bx n p<=bx n q:=by
  induction n with
  |zero=>exact Nat.le_refl _
  |succ n ih=>
   have J:=ih λi hi=>h i (by omega)
   have h2:=h n (by omega)
   unfold bx
   cases hp:p n
   · cases q n<;>simp<;>omega
   · rw[h2 hp];simp;omega
theorem XS {n s:Nat} {p q:Nat->Bool} (h: ∀i,i<n->p i=true->q i=true) (hs:s<n) (J:p s=false) (h2:q s=true):bx n p<bx n q:=by
  induction n with
  |zero=>omega
  |succ n ih=>
   have h3:=h n (by omega)
   unfold bx
   rcases Nat.lt_or_ge s n with hl|hl
   · have h4:=ih (λi hi=>h i (by omega)) hl
     cases hp:p n
     · cases q n<;>simp<;>omega
     · rw[h3 hp];simp;omega
   · obtain rfl:s=n:=by omega
     have h4:=GG (n:=s) (p:=p) (q:=q) λi hi=>h i (by omega)
     rw[J,h2];simp;omega
theorem aau (a b:Int) (x:bK):(cp a b x).kind=x.kind:=by unfold cp;cases x.from_==a<;>rfl
theorem abl {W:Wd} {s:Int} (h:(iR W s==0)=true):qS (iE W s)+1<=qS W:=by
  obtain⟨J,h2⟩:=EE h
  refine XS (n:=W.al) (s:=s.toNat) (λi hi hp=>?_) (by omega) ?_ ?_
  · have hp:(ah (λj=>cp s (W.aa s.toNat).from_ (W.aa j)) s.toNat f_ i).kind !=0:=hp
    rcases Decidable.em (i=s.toNat)with e|e
    · subst e;rw[aZ]at hp;exact absurd hp (by decide)
    · rw[bh e,aau]at hp;exact hp
  · show((ah (λj=>cp s (W.aa s.toNat).from_ (W.aa j)) s.toNat f_ s.toNat).kind !=0)=false
    rw[aZ];decide
  · simpa using h2
end Go.Proofs.YthgmgkabnffniaaGreatDoor
set_option linter.unusedVariables false
set_option linter.unusedSimpArgs false
set_option maxRecDepth 100000
namespace Go.Proofs.YthgmgkabnffniaaGreatDoor
open Go.RowKit Go.Sy
structure MG (W:Wd):Prop where
  rm: ∀i,i<W.ay->0<=W.af i/\W.af i<=65535
  e4: ∀i,i<W.ay->W.af i≠0->W.kinds (i/16)=4->W.af i -W.af i%1024=32768/\bH W (W.af i%1024)=3
  e3: ∀i,i<W.ay->W.af i≠0->W.kinds (i/16)=3->(W.af i -W.af i%1024=32768\/W.af i -W.af i%1024=49152)/\bH W (W.af i%1024)=2
  tl: ∀c,c<W.aQ->W.aG c<=4/\(∀k,k<W.aG c->bH W (W.aA c k).sp=4/\(0<=(W.aA c k).pg/\(W.aA c k).pg<=255)/\nQ W.ay W.af (W.aA c k)=false)/\ ∀j k,j<k->k<W.aG c-> ¬((W.aA c j).sp=(W.aA c k).sp/\(W.aA c j).pg=(W.aA c k).pg)
theorem bU.mg {W:Wd} (h:bU W):MG W:=by
  refine⟨λi hi=>dL (h.af i hi),λi hi h0 hk=>?_,λi hi h0 hk=>?_,λc hc=>?_⟩
  · have g:=h.en i hi
    unfold gU at g
    dsimp only at g
    rw[hk,beq_eq_false_iff_ne.2 h0]at g
    simpa using g
  · have g:=h.en i hi
    unfold gU at g
    dsimp only at g
    rw[hk,beq_eq_false_iff_ne.2 h0]at g
    simpa using g
  · have g:=h.tl c (by have:=h.z.aA;omega)
    unfold gV at g
    simp only[Bool.and_eq_true,decide_eq_true_eq,m6]at g
    have q: ∀k,k<W.aG c->bH W (W.aA c k).sp=4/\(0<=(W.aA c k).pg/\(W.aA c k).pg<=255)/\nQ W.ay W.af (W.aA c k)=false/\ ∀j,j<k-> ¬((W.aA c j).sp=(W.aA c k).sp/\(W.aA c j).pg=(W.aA c k).pg):=λk hk=>by
      have r:=g.2 k hk
      unfold nU at r
      simp only[Bool.and_eq_true,Bool.not_eq_true',beq_iff_eq,nY,Bool.and_eq_false_iff,beq_eq_false_iff_ne]at r
      obtain⟨⟨⟨⟨⟨r1,r2⟩,r3⟩,r4⟩,r5⟩,r6⟩:=r
      refine⟨r1,dL r2,?_,λj hj e=>?_⟩
      · unfold nQ;rw[r3,r4,r5];simp
      · rcases r6 j hj with e1|e1
        · exact e1 e.1
        · exact e1 e.2
    exact⟨g.1,λk hk=>⟨(q k hk).1,(q k hk).2.1,(q k hk).2.2.1⟩,λj k L7 hk=>(q k hk).2.2.2 j L7⟩
theorem MG.af {W:Wd} (h:MG W): ∀i,i<W.ay->az (W.af i) 65535=false:=λi hi=>fQ (h.rm i hi)
theorem MG.agz {W:Wd} (h:MG W): ∀i,i<W.ay->gU W i=true:=λi hi=>by
  unfold gU
  dsimp only
  rcases Decidable.em (W.af i=0)with h0|h0
  · rw[h0];rfl
  rcases Decidable.em (W.kinds (i/16)=4)with e|e
  · have:=h.e4 i hi h0 e
    rw[e,beq_eq_false_iff_ne.2 h0];simpa using this
  rcases Decidable.em (W.kinds (i/16)=3)with e3|e3
  · have:=h.e3 i hi h0 e3
    rw[e3,beq_eq_false_iff_ne.2 h0];simpa using this
  · rw[bne_iff_ne.2 e,bne_iff_ne.2 e3];simp
theorem MG.agG {W:Wd} (h:MG W): ∀c,c<W.aQ->gV W (W.aG c) (W.aA c)=true:=λc hc=>by
  obtain⟨a,b,d⟩:=h.tl c hc
  unfold gV
  rw[decide_eq_true a,Bool.true_and,m6]
  intro k hk
  obtain⟨b1,b2,b3⟩:=b k hk
  unfold nQ at b3
  simp only[Bool.not_eq_false',Bool.and_eq_true,beq_iff_eq]at b3
  unfold nU
  simp only[Bool.and_eq_true,Bool.not_eq_true',beq_iff_eq,nY,Bool.and_eq_false_iff,beq_eq_false_iff_ne]
  refine⟨⟨⟨⟨⟨b1,fQ b2⟩,b3.1.1⟩,b3.1.2⟩,b3.2⟩,λj hj=>?_⟩
  have:=d j k hj hk
  rcases Decidable.em ((W.aA c j).sp=(W.aA c k).sp)with e|e
  · exact .inr λe2=>this ⟨e,e2⟩
  · exact .inl e
theorem IQ {α:Type} {z:α} {p:Nat->Bool} {t:Nat->α}: ∀{n a b:Nat},a<b->b<eY p n-> ∃i j,i<j/\j<n/\p i=false/\p j=false/\gT z p t n a=t i/\gT z p t n b=t j
  |0,_,_,_,h=>absurd h (Nat.not_lt_zero _)
  |n+1,a,b,nM,h=>by
   rw[eY]at h
   cases hp:p n with
   |true=>
    rw[hp]at h
    obtain⟨i,j,J,h2,h3,h4,h5,h6⟩:=IQ (z:=z) (t:=t) nM (show b<eY p n from h)
    exact⟨i,j,J,by omega,h3,h4,by rw[gT,hp];exact h5,by rw[gT,hp];exact h6⟩
   |false=>
    rw[hp]at h
    have h:b<eY p n+1:=h
    rcases Nat.lt_or_ge b (eY p n)with e|e
    · obtain⟨i,j,J,h2,h3,h4,h5,h6⟩:=IQ (z:=z) (t:=t) nM e
      refine⟨i,j,J,by omega,h3,h4,?_,?_⟩
      · rw[gT,hp,fD (by omega)];exact h5
      · rw[gT,hp,fD (by omega)];exact h6
    · obtain rfl:b=eY p n:=by omega
      obtain⟨i,i1,i2,i3⟩:=En (z:=z) (t:=t) (show a<eY p n from nM)
      refine⟨i,n,i1,by omega,i2,hp,?_,?_⟩
      · rw[gT,hp,fD (by omega)];exact i3
      · rw[gT,hp,Nat.beq_refl];rfl
theorem MG.less {W:Wd} {K:Nat->Int} {R:Nat->Int} {p:dQ->Bool} (h:MG W) (hK: ∀g,g<W.aj->K g=W.kinds g\/K g=0) (hR: ∀i,i<W.ay->R i=W.af i\/R i=0)
    (he: ∀i,i<W.ay->R i≠0->(K (i/16)=3\/K (i/16)=4)->bH {W with kinds:=K} (W.af i%1024)=bH W (W.af i%1024))
    (U8: ∀i,i<W.ay->i/16<W.aj)
    (hp: ∀c,c<W.aQ-> ∀k,k<W.aG c->p (W.aA c k)=false->bH {W with kinds:=K} (W.aA c k).sp=4/\nQ W.ay R (W.aA c k)=false):MG {W with kinds:=K,af:=R,aG:=xR p W,aA:=mS p W}:=by
  refine⟨λi hi=>?_,λi hi h0 hk=>?_,λi hi h0 hk=>?_,λc hc=>⟨?_,λk hk=>?_,λj k L7 hk=>?_⟩⟩
  · have:=h.rm i hi
    show 0<=R i/\R i<=65535
    rcases hR i hi with e|e<;>rw[e]
    · exact this
    · decide
  · have h0:R i≠0:=h0
    have hk:K (i/16)=4:=hk
    have e:=(hR i hi).resolve_right h0
    have ek:=(hK _ (U8 i hi)).resolve_right (by omega)
    show R i -R i%1024=32768/\bH {W with kinds:=K} (R i%1024)=3
    have q:=he i hi h0 (.inr hk)
    rw[e]at h0⊢
    rw[q]
    exact h.e4 i hi h0 (by omega)
  · have h0:R i≠0:=h0
    have hk:K (i/16)=3:=hk
    have e:=(hR i hi).resolve_right h0
    have ek:=(hK _ (U8 i hi)).resolve_right (by omega)
    show(R i -R i%1024=32768\/R i -R i%1024=49152)/\bH {W with kinds:=K} (R i%1024)=2
    have q:=he i hi h0 (.inl hk)
    rw[e]at h0⊢
    rw[q]
    exact h.e3 i hi h0 (by omega)
  · exact Nat.le_trans (adQ p W c) (h.tl c hc).1
  · obtain⟨j,J,h2,h3⟩:=adR (p:=p) (W:=W) hk
    show bH {W with kinds:=K} (mS p W c k).sp=4/\(0<=(mS p W c k).pg/\(mS p W c k).pg<=255)/\nQ W.ay R (mS p W c k)=false
    rw[h3]
    obtain⟨a,b⟩:=hp c hc j J h2
    exact⟨a,((h.tl c hc).2.1 j J).2.1,b⟩
  · obtain⟨i,l,J,h2,h3,h4,h5,h6⟩:=IQ (z:=Am) (p:=λi=>p (W.aA c i)) (t:=W.aA c) L7 (show k<eY (λi=>p (W.aA c i)) (W.aG c)from hk)
    show¬((mS p W c j).sp=(mS p W c k).sp/\(mS p W c j).pg=(mS p W c k).pg)
    unfold mS
    rw[h5,h6]
    exact(h.tl c hc).2.2 i l J h2
theorem wL {W:Wd} {f:Nat} {x:Int} (hx:x≠f):bH {W with kinds:=ah W.kinds f 0} x=bH W x:=by
  unfold bH
  show(bif decide (x<0)||decide ((W.aj:Int)<=x)then -1 else ah W.kinds f 0 x.toNat)=_
  cases hd:decide (x<0)||decide ((W.aj:Int)<=x)with
  |true=>rfl
  |false=>
   simp only[Bool.or_eq_false_iff,decide_eq_false_iff_not]at hd
   rw[bh λe=>hx (by omega)]
theorem yS {W:Wd} (f g:Nat):ah W.kinds f 0 g=W.kinds g\/ah W.kinds f 0 g=0:=by
  rcases Decidable.em (g=f)with e|e
  · subst e;exact .inr aZ
  · exact .inl (bh e)
theorem Ur {W:Wd} (z:bO W): ∀i,i<W.ay->i/16<W.aj:=λi hi=>by have:=z.af;omega
theorem MG.pg {W:Wd} {f:Nat} (h:MG W) (z:bO W) (hf:f<W.aj) (hk:W.kinds f=2\/W.kinds f=3):MG (Gr W f):=by
  have e:Gr W f={W with kinds:=ah W.kinds f 0,af:=sw (kz W f) f,aG:=xR (nQ W.ay (sw (kz W f) f)) W,aA:=mS (nQ W.ay (sw (kz W f) f)) W}:=rfl
  rw[e]
  have hu: ∀i,sw (kz W f) f i=W.af i\/sw (kz W f) f i=0:=λi=>by
    unfold sw
    cases (Nat.blt i (kz W f).ay&&(((kz W f).kinds (i/16)==3||(kz W f).kinds (i/16)==4)&&((kz W f).af i !=0)&&((kz W f).af i%1024==(f:Int))))with
    |true=>exact .inr rfl
    |false=>exact .inl rfl
  refine h.less (λg _=>yS f g) (λi _=>hu i) (λi hi h0 cR=>wL λe=>h0 ?_) (Ur z) (λc hc k cK pb=>⟨?_,pb⟩)
  · have e0:W.af i≠0:=λe2=>by rcases hu i with g|g<;>rw[g]at h0<;>first|exact h0 e2|exact h0 rfl
    unfold sw
    have k1:((kz W f).kinds (i/16)==3||(kz W f).kinds (i/16)==4)=true:=by
      have:(kz W f).kinds (i/16)=ah W.kinds f 0 (i/16):=by show ah W.kinds (f:Int).toNat 0 _=_;rw[Int.toNat_natCast]
      rw[this]
      rcases cR with g|g<;>rw[g]<;>rfl
    have k2:((kz W f).af i !=0)=true:=bne_iff_ne.2 e0
    have k3:((kz W f).af i%1024==(f:Int))=true:=beq_iff_eq.2 e
    rw[ji (show i<(kz W f).ay from hi),k1,k2,k3];rfl
  · have q:=((h.tl c hc).2.1 k cK).1
    rw[wL λe=>?_]
    · exact q
    · rw[e,fS (by omega),Int.toNat_natCast]at q
      omega
theorem MG.sp {W:Wd} {f:Nat} (h:MG W) (z:bO W) (hf:f<W.aj) (hk:W.kinds f=4) (T:Nat->aM):MG {W with kinds:=ah W.kinds f 0,tasks:=T,aG:=xR (C_ f) W,aA:=mS (C_ f) W}:=by
  have q:=h.less (K:=ah W.kinds f 0) (R:=W.af) (p:=C_ f) (λg _=>yS f g) (λi _=> .inl rfl) (λi hi h0 cR=>wL λe=>?_) (Ur z) (λc hc k cK pb=>⟨?_,((h.tl c hc).2.1 k cK).2.2⟩)
  · exact⟨q.rm,q.e4,q.e3,q.tl⟩
  · rcases cR with g|g
    · have k3:W.kinds (i/16)=3:=by
        rcases yS (W:=W) f (i/16)with r|r<;>rw[r]at g
        · exact g
        · exact absurd g (by decide)
      have:=(h.e3 i hi h0 k3).2
      rw[e,fS (by omega),Int.toNat_natCast]at this
      omega
    · have k4:W.kinds (i/16)=4:=by
        rcases yS (W:=W) f (i/16)with r|r<;>rw[r]at g
        · exact g
        · exact absurd g (by decide)
      have:=(h.e4 i hi h0 k4).2
      rw[e,fS (by omega),Int.toNat_natCast]at this
      omega
  · have q:=((h.tl c hc).2.1 k cK).1
    rw[wL (beq_eq_false_iff_ne.1 pb)];exact q
theorem MG.kz {W:Wd} {f:Nat} (h:MG W) (hf:f<W.aj) (hk:W.kinds f≠2/\W.kinds f≠3/\W.kinds f≠4) (z:bO W):MG {W with kinds:=ah W.kinds f 0}:=by
  have ba: ∀{x k:Int},bH W x=k->k=2\/k=3\/k=4->x≠f:=λ{x k} hx cR e=>by
    rw[e,fS (by omega),Int.toNat_natCast]at hx
    omega
  have ks: ∀{g k},ah W.kinds f 0 g=k->k≠0->W.kinds g=k:=λ{g k} hg h0=>by
    rcases yS (W:=W) f g with r|r<;>rw[r]at hg
    · exact hg
    · exact absurd hg.symm h0
  refine⟨h.rm,λi hi h0 cR=>?_,λi hi h0 cR=>?_,λc hc=>?_⟩
  · have q:=h.e4 i hi h0 (ks cR (by decide))
    exact⟨q.1,(wL (ba q.2 (by omega))).trans q.2⟩
  · have q:=h.e3 i hi h0 (ks cR (by decide))
    exact⟨q.1,(wL (ba q.2 (by omega))).trans q.2⟩
  · obtain⟨a,b,d⟩:=h.tl c hc
    refine⟨a,λk cR=>?_,d⟩
    obtain⟨b1,b2,b3⟩:=b k cR
    exact⟨(wL (ba b1 (by omega))).trans b1,b2,b3⟩
theorem MG.other {W:Wd} (h:MG W) {W':Wd} (e1:W'.ay=W.ay) (e2:W'.af=W.af) (e3:W'.aj=W.aj) (e4:W'.kinds=W.kinds) (e5:W'.aQ=W.aQ) (e6:W'.aG=W.aG) (e7:W'.aA=W.aA):MG W':=by
  have ko: ∀x,bH W' x=bH W x:=λx=>by unfold bH;rw[e3,e4]
  refine⟨?_,?_,?_,?_⟩
  · rw[e1,e2];exact h.rm
  · rw[e1,e2,e4];intro i hi h0 hk;rw[ko];exact h.e4 i hi h0 hk
  · rw[e1,e2,e4];intro i hi h0 hk;rw[ko];exact h.e3 i hi h0 hk
  · rw[e5,e6,e7,e1,e2];intro c hc
    obtain⟨a,b,d⟩:=h.tl c hc
    exact⟨a,λk hk=>by rw[ko];exact b k hk,d⟩
end Go.Proofs.YthgmgkabnffniaaGreatDoor
set_option linter.unusedVariables false
set_option linter.unusedSimpArgs false
set_option maxRecDepth 100000
namespace Go.Proofs.YthgmgkabnffniaaGreatDoor
open Go.RowKit Go.Sy
def wy (W:Wd) (i:Int):Nat->Int
  |0=>(W.aa i.toNat).from_
  |k+1=>bif decide (0<=wy W i k)then(W.aa (wy W i k).toNat).from_ else wy W i k
def agW (r:Nat->Nat) (W:Wd):Prop:=(∀i,r i<=400)/\ ∀i,i<W.al->0<=(W.aa i).from_->r (W.aa i).from_.toNat<r i
def blw (W:Wd) (s i:Int):Bool:=dY 500 λk=>wy W i k==s
end Go.Proofs.YthgmgkabnffniaaGreatDoor
set_option linter.unusedVariables false
set_option linter.unusedSimpArgs false
set_option maxRecDepth 100000
namespace Go.Proofs.YthgmgkabnffniaaGreatDoor
open Go.RowKit Go.Sy
theorem NN {W:Wd} {u:Int}: ∀k,cH W u (k+1)=cH W (jv W u) k
  |0=>rfl
  |k+1=>by
   show jv W (cH W u (k+1))=jv W (cH W (jv W u) k)
   rw[NN k]
def w_ (W:Wd) (i:Int) (k:Nat):Bool:=!dK W (cH W i k)
def Au (W:Wd) (i:Nat):Nat:=dG (W.al+2) (w_ W i)
theorem afC {W:Wd} (h:bU W):agW (Au W) W:=by
  have z1:=h.z.aa
  have z2:=h.z.k1
  refine⟨λi=>Nat.le_trans (H2 _ _) (by omega),λi hi h0=>?_⟩
  have hs:=h.sl i hi
  unfold fy mG at hs
  cases hk:(W.aa i).kind==0 with
  |true=>
   rw[hk]at hs
   simp only[cond_true,Bool.and_eq_true,beq_iff_eq]at hs
   omega
  |false=>
   rw[hk]at hs
   simp only[cond_false,Bool.and_eq_true,Bool.or_eq_true,beq_iff_eq,Bool.not_eq_true']at hs
   rcases hs.2 with e|⟨⟨e1,_⟩,e2⟩
   · omega
   · have hf:=mr.1 e1
     have ef:((W.aa i).from_.toNat:Int)=(W.aa i).from_:=by omega
     have av:dG (W.al+1) (w_ W (W.aa i).from_)<W.al+1:=uh (i:=W.al) (by omega) (by unfold w_;rw[e2];rfl)
     obtain⟨a,b⟩:=GX av
     generalize dG (W.al+1) (w_ W (W.aa i).from_)=K at av a b
     have r1:Au W (W.aa i).from_.toNat=K:=by unfold Au;rw[ef];exact uj b a (by omega)
     have a_:dK W (i:Int)=true:=mr.2 ⟨by omega,by omega⟩
     have C8: ∀k,w_ W (i:Int) (k+1)=w_ W (W.aa i).from_ k:=λk=>by
       unfold w_
       rw[NN,EI a_]
       rfl
     have r2:Au W i=K+1:=by
       unfold Au
       refine uj (λj hj=>?_) (by rw[C8];exact a) (by omega)
       cases j with
       |zero=>show(!dK W (i:Int))=false;rw[a_];rfl
       |succ j=>rw[C8];exact b j (by omega)
     omega
def U9:Nat->(Nat->Bool)->Int
  |0,_=> -1
  |n+1,p=>bif p n then n else U9 n p
def agY (W:Wd) (s:Int) (i:Nat):Bool:=(W.aa i).kind !=0&&blw W s i
def Jg (W:Wd) (s:Int):Int:=U9 W.al (agY W s)
def vg (W:Wd) (s:Int):Nat->Wd
  |0=>W
  |k+1=>wu (CV 400) (vg W s k) (Jg (vg W s k) s)
def rvN (W:Wd) (s:Int):Nat:=bif iR W s==0 then dG 500 λk=>decide (Jg (vg W s k) s<0)else 0
def agJ (W:Wd) (s:Int):Wd:=vg W s (rvN W s)
end Go.Proofs.YthgmgkabnffniaaGreatDoor
set_option linter.unusedVariables false
set_option linter.unusedSimpArgs false
set_option maxRecDepth 100000
namespace Go.Proofs.YthgmgkabnffniaaGreatDoor
open Go.RowKit Go.Sy
theorem DT {n a:Nat} {p:Nat->Bool} {v:Bool} (h:a<n):bx n (ah p a v)+b1 (p a)=bx n p+b1 v:=by
  induction n with
  |zero=>exact absurd h (Nat.not_lt_zero _)
  |succ n ih=>
   unfold bx
   rcases Nat.lt_or_ge a n with e|e
   · have:=ih e
     rw[bh (show n≠a by omega)];omega
   · obtain rfl:a=n:=by omega
     rw[aZ,jA (q:=p) λi hi=>by rw[bh (show i≠a by omega)]]
     unfold b1;omega
theorem IE: ∀{n m:Nat} (f:Nat->Nat),(∀i,i<m->f i<n)->(∀i j,i<j->j<m->f i≠f j)->m<=n
  |0,m,f,h,_=>by
   rcases Nat.eq_zero_or_pos m with e|e
   · omega
   · exact absurd (h 0 e) (Nat.not_lt_zero _)
  |n+1,0,_,_,_=>Nat.zero_le _
  |n+1,m+1,f,h,hd=>by
   have:=IE (n:=n) (m:=m) (λi=>if f i=n then f m else f i) (λi hi=>by
     have a:=h i (by omega)
     have b:=h m (by omega)
     have c:=hd i m hi (by omega)
     split<;>omega) (λi j oR hj=>by
     have a:=hd i j oR (by omega)
     have b:=hd i m (by omega) (by omega)
     have c:=hd j m hj (by omega)
     split<;>split<;>omega)
   omega
structure KG (P:Nat->Prop) (W:Wd):Prop where
  z:bO W
  kd: ∀f,f<W.aj->0<=W.kinds f/\W.kinds f<=8/\W.kinds f≠1
  e0: ∀i,i<W.al->(W.aa i).kind=0->W.aa i=f_
  s1: ∀i,i<W.al->(W.aa i).kind≠0->(W.kinds (i/16)=5\/P (i/16))/\fi (W.aa i)=0/\(W.aa i).base+(W.aa i).len<=W.aj/\((W.aa i).kind=1\/W.kinds (W.aa i).base.toNat=(W.aa i).kind)
  s2: ∀i,i<W.al->(W.aa i).kind≠0->(W.aa i).from_= -1\/((0<=(W.aa i).from_/\(W.aa i).from_<W.al)/\eG (W.aa i) (W.aa (W.aa i).from_.toNat)=true)
  rk: ∃r:Nat->Nat,∀i,i<W.al->0<=(W.aa i).from_->r (W.aa i).from_.toNat<r i
  cl: ∀f,f<W.aj->bx W.al (λi=>bW (W.aa i) f)<=1
  ky: ∀f,f<W.aj->W.kinds f≠0->0<bx W.al (λi=>cE (W.aa i) f)/\ ∀i,i<W.al->iP (W.aa i) f=false
  ex: ∀i,i<W.al->(W.aa i).kind≠0->(W.aa i).kind≠1-> ∀c,c<W.al->bW (W.aa c) (W.aa i).base.toNat=true->(W.aa i).from_≠ -1
def Ex (W:Wd):Prop:= ∀i,i<W.al->(W.aa i).kind≠0->(W.aa i).kind≠1-> ∀c,c<W.al->bW (W.aa c) (W.aa i).base.toNat=true->(W.aa i).from_≠ -1
theorem adT {s:bK} (h:fi s=0) (hk:s.kind=0) (hf:s.from_= -1):s=f_:=by
  unfold fi dX at h
  rw[hk]at h
  have h:(bif s.base !=0||s.len !=0||s.mark !=0||s.cd !=0||s.bL !=0 then(2:Int)else 0)=0:=h
  cases hb:(s.base !=0||s.len !=0||s.mark !=0||s.cd !=0||s.bL !=0)with
  |true=>rw[hb]at h;exact absurd h (by decide)
  |false=>
   simp only[Bool.or_eq_false_iff,bne_eq_false_iff_eq]at hb
   obtain⟨⟨⟨⟨a,b⟩,c⟩,d⟩,e⟩:=hb
   obtain⟨k0,k1,k2,k3,k4,k5,k6⟩:=s
   simp only at hk hf a b c d e
   subst hk hf a b c d e
   rfl
theorem bU.kg {W:Wd} (h:bU W) (hx:Ex W):KG (λ_=>False) W:=by
  have hs: ∀i,i<W.al->(W.aa i).kind≠0->W.kinds (i/16)=5/\fi (W.aa i)=0/\(W.aa i).base+(W.aa i).len<=W.aj/\((W.aa i).kind=1\/W.kinds (W.aa i).base.toNat=(W.aa i).kind)/\((W.aa i).from_= -1\/((0<=(W.aa i).from_/\(W.aa i).from_<W.al)/\eG (W.aa i) (W.aa (W.aa i).from_.toNat)=true)):=λi hi hk=>by
    have g:=h.sl i hi
    unfold fy mG at g
    rw[beq_eq_false_iff_ne.2 hk]at g
    simp only[cond_false,Bool.and_eq_true,Bool.or_eq_true,beq_iff_eq,decide_eq_true_eq,mr]at g
    exact⟨g.1.1.1.1,g.1.1.1.2,g.1.1.2,g.1.2,g.2.imp_right λg=>g.1⟩
  refine⟨h.z,λf hf=>?_,λi hi hk=>?_,λi hi hk=>⟨.inl (hs i hi hk).1,(hs i hi hk).2.1,(hs i hi hk).2.2.1,(hs i hi hk).2.2.2.1⟩,λi hi hk=>(hs i hi hk).2.2.2.2,⟨Au W,(afC h).2⟩,λf hf=>?_,λf hf h0=>?_,hx⟩
  · have g:=h.kd f hf
    rw[Bool.or_eq_false_iff,beq_eq_false_iff_ne]at g
    exact⟨(dL g.1).1,(dL g.1).2,g.2⟩
  · have g:=h.sl i hi
    unfold fy mG at g
    rw[hk]at g
    simp only[beq_self_eq_true,cond_true,Bool.and_eq_true,beq_iff_eq]at g
    exact adT g.1 hk g.2
  · have g:=h.fr f hf
    unfold vl at g
    rw[Bool.and_eq_true,decide_eq_true_eq]at g
    exact g.1
  · have g:=h.fr f hf
    unfold vl at g
    rw[beq_eq_false_iff_ne.2 h0]at g
    simp only[Bool.false_or,Bool.and_eq_true,decide_eq_true_eq,Bool.not_eq_true',nY]at g
    exact⟨g.2.1,g.2.2⟩
theorem adU {W:Wd} {r:Nat->Nat} (hr: ∀i,i<W.al->0<=(W.aa i).from_->r (W.aa i).from_.toNat<r i) (u:Int):dK W (cH W u W.al)=false:=by
  cases a_:dK W (cH W u W.al)with
  |false=>rfl
  |true=>
   exfalso
   have fW: ∀k,k<=W.al->dK W (cH W u k)=true:=λk hk=>by
     cases h:dK W (cH W u k)with
     |true=>rfl
     |false=>rw[PS h hk,h]at a_;cases a_
   have step: ∀k,k<W.al->r (cH W u (k+1)).toNat<r (cH W u k).toNat:=λk hk=>by
     have a:=mr.1 (fW k (by omega))
     have b:=mr.1 (fW (k+1) (by omega))
     have e:cH W u (k+1)=(W.aa (cH W u k).toNat).from_:=EI (fW k (by omega))
     rw[e]at b⊢
     exact hr _ (by omega) b.1
   have dec: ∀k j,k<j->j<=W.al->r (cH W u j).toNat<r (cH W u k).toNat:=λk j dy=>by
     induction j with
     |zero=>exact absurd dy (Nat.not_lt_zero _)
     |succ j ih=>
      intro hj
      have s:=step j (by omega)
      rcases Nat.lt_or_ge k j with e|e
      · have:=ih e (by omega);omega
      · obtain rfl:k=j:=by omega
        exact s
   have:=IE (n:=W.al) (m:=W.al+1) (λk=>(cH W u k).toNat) (λk hk=>by
     have:=mr.1 (fW k (by omega))
     omega) (λi j oR hj e=>by
     have:=dec i j oR (by omega)
     have e:(cH W u i).toNat=(cH W u j).toNat:=e
     rw[e]at this;omega)
   omega
theorem KG.sl {W:Wd} (h:KG (λ_=>False) W): ∀i,i<W.al->fy W i=true:=λi hi=>by
  unfold fy mG
  cases hk:(W.aa i).kind==0 with
  |true=>rw[h.e0 i hi (eq_of_beq hk)];rfl
  |false=>
   have cR:=beq_eq_false_iff_ne.1 hk
   obtain⟨a,b,c,d⟩:=h.s1 i hi cR
   obtain⟨r,hr⟩:=h.rk
   simp only[cond_false,Bool.and_eq_true,Bool.or_eq_true,beq_iff_eq,decide_eq_true_eq,mr,Bool.not_eq_true']
   exact⟨⟨⟨⟨a.resolve_right id,b⟩,c⟩,d⟩,(h.s2 i hi cR).imp_right λg=>⟨g,adU hr _⟩⟩
theorem KG.fr {P:Nat->Prop} {W:Wd} (h:KG P W): ∀f,f<W.aj->vl W f=true:=λf hf=>by
  unfold vl
  rw[Bool.and_eq_true,decide_eq_true_eq]
  refine⟨h.cl f hf,?_⟩
  rcases Decidable.em (W.kinds f=0)with e|e
  · rw[e];rfl
  · obtain⟨a,b⟩:=h.ky f hf e
    rw[decide_eq_true a,nY.2 b];simp
theorem KG.kinds {P:Nat->Prop} {W:Wd} (h:KG P W): ∀f,f<W.aj->(az (W.kinds f) 8||W.kinds f==1)=false:=λf hf=>by
  obtain⟨a,b,c⟩:=h.kd f hf
  rw[Bool.or_eq_false_iff,beq_eq_false_iff_ne]
  exact⟨fQ ⟨a,b⟩,c⟩
end Go.Proofs.YthgmgkabnffniaaGreatDoor
set_option linter.unusedVariables false
set_option linter.unusedSimpArgs false
set_option maxRecDepth 100000
namespace Go.Proofs.YthgmgkabnffniaaGreatDoor
open Go.RowKit Go.Sy
def gX (W:Wd) (a b r g:Int):Int:=bif lV W a b==0 then(bif (W.aa a.toNat).kind==1 then 3 else bif az r 7||az g 65535 then 2 else bif decide (0<g)&&(decide (0<(W.aa a.toNat).bL)||((W.aa a.toNat).kind !=7&&(W.aa a.toNat).kind !=8))then 4 else 0)else lV W a b
def C' (s:bK) (a r g:Int):bK:={s with bL:=bif decide (0<g)then g else s.bL,cd:=((ku 6 s.cd.toNat r.toNat:Nat):Int),from_:=a}
def rA (W:Wd) (a b r g:Int) (j:Nat):bK:=bif gX W a b r g==0&&Nat.beq j b.toNat then C' (W.aa a.toNat) a r g else W.aa j
def tR (W:Wd) (a b r g:Int):Wd:={W with aa:=λj=>rA W a b r g j}
theorem EM {W:Wd} {a b r g:Int} {j:Nat} (h:gX W a b r g≠0):W.aa j=rA W a b r g j:=by
  unfold rA;rw[beq_eq_false_iff_ne.2 h];rfl
theorem QM {W:Wd} {a b r g:Int} {j:Nat} (h:gX W a b r g=0):(bif Nat.beq j b.toNat then C' (W.aa a.toNat) a r g else W.aa j)=rA W a b r g j:=by
  unfold rA;rw[h];rfl
structure DF where
  (a b r g:Int) (W:Wd)
def G1:Sy.Spec:=⟨DF,λ⟨a,b,r,g,_⟩=> [.ptr 0 0 none 0 0,.v (.int .i64 a),.v (.int .i64 b),.v (.int .i64 r),.v (.int .i64 g)],λ⟨_,_,_,_,W⟩=>cP W,λ⟨_,_,_,_,W⟩=>bU W,λ⟨a,b,r,g,W⟩=> .v (.int .i64 (gX W a b r g)),λ⟨a,b,r,g,W⟩=>cP (tR W a b r g),
  λargs mem=>match args with| [a0,a1,a2,a3,a4]=>some ⟨aw (a1),aw (a2),aw (a3),aw (a4),iG mem 0⟩|_=>none⟩
def Y3:aT:=⟨[true],(G1).g,none⟩
def NO:DF->Prop:=λ⟨a,b,r,g,W⟩=>let a0:=W.ay;let b0:=W.aj;let c0:=W.al;let d0:=W.aP;let e0:=W.aW;let g0:=W.aN;let h0:=W.aC;let k0:=W.aS;let l0:=W.aQ;let o0:=W.aK;let q0:=lV (Wd.mk a0 (λr0:Nat=>W.af (0+r0)) b0 (λu0:Nat=>W.kinds (0+u0)) c0 (λv0:Nat=>W.aa (0+v0)) d0 (λw0:Nat=>W.tasks (0+w0)) e0 (λx0:Nat=>W.ai (0+x0)) (λy0:Nat=>λz0:Nat=>W.lines (0+y0) (0+z0)) g0 (λa1:Nat=>W.bits (0+a1)) h0 (λb1:Nat=>W.ak (0+b1)) k0 (λc1:Nat=>W.aq (0+c1)) (λd1:Nat=>λe1:Nat=>W.ready (0+d1) (0+e1)) l0 (λg1:Nat=>W.aG (0+g1)) (λJ:Nat=>λk1:Nat=>W.aA (0+J) (0+k1)) o0 (λl1:Nat=>W.aB (0+l1)) W.time) a b;let o1:=q0 !=0;let q1:=gX W a b r g;let r1:={W with aa:=rA W a b r g};let u1:=aD W r1 True;let v1:=True/\True;let w1:=W.aa (0+Int.toNat a);let x1:=w1.kind;let y1:=x1==1;let z1:=cond (az r 7) true (az g 65535);let a2:=w1.bL;let b2:=cond (decide (0<a2)) true (cond (x1 !=7) (x1 !=8) false);let c2:=w1.cd;let d2:=(c2=c2/\r=r/\(6:Int)=6/\True)/\True/\0<=c2/\c2<=65535/\0<=r/\r<=65535/\((6:Int)=6\/(6:Int)=7\/(6:Int)=8);let e2:=0<=b/\b<(c0:Int);let g2:=false=false;let h2:=(∀k2:Nat,g2)/\(∀l2:Nat,g2)/\(∀o2:Nat,g2)/\(∀q2:Nat,g2)/\(∀r2:Nat,g2)/\(∀u2:Nat,g2)/\(∀v2:Nat,g2);let w2:=0=q1;let x2:=0+Int.toNat b;let y2:=w1.base;let z2:=w1.len;let a3:=w1.mark;let b3:=((ku 6 (Int.toNat c2) (Int.toNat r):Nat):Int);(((((((((((((True/\a0=a0/\(∀c3:Nat,c3<a0->True/\W.af (0+c3)=W.af (0+c3)))/\b0=b0/\(∀d3:Nat,let e3:=W.kinds (0+d3);d3<b0->True/\e3=e3))/\c0=c0/\
    (∀g3:Nat,let h3:=W.aa (0+g3);g3<c0->aJ h3 h3))/\d0=d0/\(∀k3:Nat,let l3:=W.tasks (0+k3);k3<d0->aI l3 l3))/\e0=e0/\(∀o3:Nat,let q3:=W.ai (0+o3);o3<e0->True/\q3=q3/\(∀r3:Nat,let u3:=W.lines (0+o3) (0+r3);r3<q3->True/\u3=u3)))/\g0=g0/\(∀v3:Nat,v3<g0->True/\W.bits (0+v3)=W.bits (0+v3)))/\h0=h0/\(∀w3:Nat,let x3:=W.ak (0+w3);w3<h0->True/\x3=x3))/\k0=k0/\(∀y3:Nat,let z3:=W.aq (0+y3);y3<k0->True/\z3=z3/\(∀a4:Nat,let b4:=W.ready (0+y3) (0+a4);a4<z3->True/\b4=b4)))/\l0=l0/\(∀c4:Nat,let d4:=W.aG (0+c4);c4<l0->True/\d4=d4/\(∀e4:Nat,let g4:=W.aA (0+c4) (0+e4);e4<d4->aH g4 g4)))/\o0=o0/\(∀h4:Nat,h4<o0->True/\W.aB (0+h4)=W.aB (0+h4)))/\W.time=W.time)/\a=a/\b=b/\True)/\True/\c0<=100000/\c0<=b0*16)/\(o1=true->q0=q1/\u1)/\(o1=false->(0<=a/\a<(c0:Int))/\True/\tn 4 v1/\(y1=true->3=q1/\u1)/\(y1=false->((r=r/\(7:Int)=7/\True)/\v1)/\(az r 7=false->(g=g/\(65535:Int)=65535/\True)/\v1)/\(z1=true->2=q1/\u1)/\(z1=false->(decide (0<g)=true->(b2=true->4=q1/\u1)/\(b2=false->True/\d2/\tn 9 (e2/\h2/\w2/\aD {W with aa:=λk4:Nat=>let l4:=Nat.beq k4 x2;let o4:=W.aa k4;bK.mk (cond l4 x1 o4.kind) (cond l4 y2 o4.base) (cond l4 z2 o4.len) (cond l4 a3 o4.mark) (cond l4 b3 o4.cd) (cond l4 g o4.bL) (cond l4 a o4.from_)} r1 True)))/\(decide (0<g)=false->d2/\tn 9 (e2/\h2/\w2/\aD {W with aa:=λq4:Nat=>let r4:=Nat.beq q4 x2;let u4:=W.aa q4;bK.mk (cond r4 x1 u4.kind) (cond r4 y2 u4.base) (cond r4 z2 u4.len) (cond r4 a3 u4.mark) (cond r4 b3 u4.cd) (cond r4 a2 u4.bL) (cond r4 a u4.from_)} r1 True)))))
theorem XU:aU Tryz.prog aY 69 Y3:=bf (.cons Bh (.cons abo (.cons XJ .nil))) false Tryz.call69 Tryz.func69 (λ_=> []) (V:=NO) (λ_=>by kernel_rfl) λ⟨a,b,r,g,W⟩ hp=>by
  dsimp only[G1]at hp
  dsimp only[NO,tn,ar,aD,aI,aJ,aH]
  simp only[bn,bD,eq_self,implies_true,Bool.cond_self]
  try simp only[eP]
  refine⟨abm hp,λh=>?_,λh=>?_⟩
  · have e:gX W a b r g=lV W a b:=by unfold gX;rw[LV h];rfl
    exact⟨e.symm,λj _=>nG (EM (by rw[e];exact bne_iff_ne.1 h))⟩
  · have q:=C1 h
    obtain⟨ha,hb,_,_,_⟩:=IJ q
    have L_:=kN (Ei (hp.sl a.toNat (by omega)))
    refine⟨ha,λJ=>?_,λJ=>⟨λh2=>?_,λh2=>?_⟩⟩
    · have e:gX W a b r g=3:=by unfold gX;rw[q,J];rfl
      exact⟨e.symm,λj _=>nG (EM (by rw[e];decide))⟩
    · have e:gX W a b r g=2:=by unfold gX;rw[q,J,h2];rfl
      exact⟨e.symm,λj _=>nG (EM (by rw[e];decide))⟩
    have hf:=Bool.or_eq_false_iff.1 h2
    have hr:=dL hf.1
    have hg:=dL hf.2
    refine⟨λh3=>⟨λh4=>?_,λh4=>?_⟩,λh3=>?_⟩
    · have e:gX W a b r g=4:=by unfold gX;rw[q,J,h2,h3,h4];rfl
      exact⟨e.symm,λj _=>nG (EM (by rw[e];decide))⟩
    · have e:gX W a b r g=0:=by unfold gX;rw[q,J,h2,h3,h4];rfl
      refine⟨⟨by omega,by omega,by omega,by omega,.inl trivial⟩,hb,e.symm,λj _=>?_⟩
      rw[<-QM e]
      unfold C'
      rw[h3]
      cases j.beq b.toNat<;>(repeat' (first|rfl|refine And.intro ?_ ?_))
    · have e:gX W a b r g=0:=by unfold gX;rw[q,J,h2,h3];rfl
      refine⟨⟨by omega,by omega,by omega,by omega,.inl trivial⟩,hb,e.symm,λj _=>?_⟩
      rw[<-QM e]
      unfold C'
      rw[h3]
      cases j.beq b.toNat<;>(repeat' (first|rfl|refine And.intro ?_ ?_))
end Go.Proofs.YthgmgkabnffniaaGreatDoor
set_option linter.unusedVariables false
set_option linter.unusedSimpArgs false
set_option maxRecDepth 100000
namespace Go.Proofs.YthgmgkabnffniaaGreatDoor
open Go.RowKit Go.Sy
theorem aav {k b l m r g r' g':Int} (h:dX k b l m r g=0) (hk:k≠0) (hr:0<=r'/\r'<=7) (hg:g'=g\/((0<=g'/\g'<=65535)/\(k=7\/k=8))):dX k b l m r' g'=0:=by
  unfold dX sI sJ az at h⊢
  simp only[cond_eq_ite,bne,Bool.or_eq_true,Bool.and_eq_true,Bool.not_eq_true',decide_eq_true_eq,beq_iff_eq,beq_eq_false_iff_ne]at h⊢
  repeat' split at h
  all_goals first|(cases h;done)|skip
  all_goals (repeat' split)
  all_goals first|rfl|omega
def nV (s t:bK):Prop:=s.kind=t.kind/\s.base=t.base/\s.len=t.len/\s.mark=t.mark/\s.cd=t.cd/\s.bL=t.bL
theorem mu (a b:Int) (s:bK):nV (cp a b s) s:=by
  unfold cp
  cases s.from_==a<;>exact⟨rfl,rfl,rfl,rfl,rfl,rfl⟩
theorem D2 (a b:Int) (s:bK):(cp a b s).from_=bif s.from_==a then b else s.from_:=by
  unfold cp
  cases s.from_==a<;>rfl
theorem nV.no {s t:bK} (h:nV s t):fi s=fi t:=by
  obtain⟨a,b,c,d,e,f⟩:=h
  unfold fi;rw[a,b,c,d,e,f]
theorem nV.tu {s t:bK} (h:nV s t) (f:Nat):bW s f=bW t f:=by
  obtain⟨a,b,c,d,e,g⟩:=h
  unfold bW;rw[a,b,c]
theorem nV.free {s t:bK} (h:nV s t) (f:Nat):iP s f=iP t f:=by
  have:=h.tu f
  obtain⟨a,b,c,d,e,g⟩:=h
  unfold iP;rw[this,b,d]
theorem nV.key {s t:bK} (h:nV s t) (f:Nat):cE s f=cE t f:=by
  obtain⟨a,b,c,d,e,g⟩:=h
  unfold cE;rw[a,b]
theorem nV.made {k p k' p':bK} (h:nV k k') (g:nV p p'):eG k p=eG k' p':=by
  have e:=g.no
  obtain⟨a,b,_,d,r,f⟩:=h
  obtain⟨a',b',_,d',r',f'⟩:=g
  unfold eG;rw[e,a,b,r,f,a',b',d',r',f']
theorem om {k p:bK}:eG k p=true↔fi p=0/\((p.kind=1/\k.kind≠1/\p.base<=k.base/\k.base -p.base<p.mark)\/(p.kind≠1/\k.kind=p.kind/\k.base=p.base/\(p.bL=0\/p.bL=k.bL)/\((p.cd.toNat&&&k.cd.toNat:Nat):Int)=k.cd)):=by
  have eb:ku 6 p.cd.toNat k.cd.toNat=p.cd.toNat&&&k.cd.toNat:=rfl
  unfold eG
  rw[eb]
  cases h:p.kind==1 with
  |true=>
   have h:=eq_of_beq h
   simp only[cond_true,Bool.and_eq_true,beq_iff_eq,bne_iff_ne,decide_eq_true_eq]
   constructor
   · rintro ⟨a,⟨b,c⟩,d⟩;exact⟨a,.inl ⟨h,b,c,d⟩⟩
   · rintro ⟨a,⟨_,b,c,d⟩|⟨b,_⟩⟩
     · exact⟨a,⟨b,c⟩,d⟩
     · exact absurd h b
  |false=>
   have h:=beq_eq_false_iff_ne.1 h
   simp only[cond_false,Bool.and_eq_true,Bool.or_eq_true,beq_iff_eq]
   constructor
   · rintro ⟨a,⟨⟨b,c⟩,d⟩,e⟩;exact⟨a,.inr ⟨h,b,c,d,e⟩⟩
   · rintro ⟨a,⟨b,_⟩|⟨_,b,c,d,e⟩⟩
     · exact absurd b h
     · exact⟨a,⟨⟨b,c⟩,d⟩,e⟩
theorem NM {k p:bK} (h:eG k p=true) (hk:k.kind≠0):p.kind≠0:=by
  obtain⟨_,⟨a,_⟩|⟨_,a,_⟩⟩:=om.1 h
  · omega
  · omega
theorem KG.full {P:Nat->Prop} {W:Wd} (h:KG P W) {i:Nat} (hi:i<W.al) (hf:(W.aa i).from_≠ -1):(W.aa i).kind≠0/\(0<=(W.aa i).from_/\(W.aa i).from_<W.al)/\(W.aa (W.aa i).from_.toNat).kind≠0/\eG (W.aa i) (W.aa (W.aa i).from_.toNat)=true:=by
  have hk:(W.aa i).kind≠0:=λe=>hf (by rw[h.e0 i hi e];rfl)
  obtain⟨a,b⟩:=(h.s2 i hi hk).resolve_left hf
  exact⟨hk,a,NM b hk,b⟩
theorem aaw (a b:Nat):a&&&(a&&&b)=a&&&b:=by rw[<-Nat.and_assoc,Nat.and_self]
theorem afB {W:Wd} {a b r g:Int} (h:gX W a b r g=0):((0<=a/\a<W.al)/\(0<=b/\b<W.al)/\a≠b)/\((W.aa a.toNat).kind≠0/\(W.aa a.toNat).kind≠1)/\((W.aa b.toNat).kind=0/\W.kinds (b.toNat/16)=5)/\(0<=r/\r<=7)/\(0<=g/\g<=65535)/\(0<g->(W.aa a.toNat).bL<=0/\((W.aa a.toNat).kind=7\/(W.aa a.toNat).kind=8)):=by
  unfold gX at h
  cases hb:lV W a b==0 with
  |false=>rw[hb]at h;exact absurd h (beq_eq_false_iff_ne.1 hb)
  |true=>
   rw[hb]at h
   obtain⟨J,h2,h3,h4,h5⟩:=IJ hb
   have hk:=(EE (beq_iff_eq.2 h4)).2
   cases c1:(W.aa a.toNat).kind==1 with
   |true=>rw[c1]at h;exact absurd (show(3:Int)=0 from h) (by decide)
   |false=>
    cases c2:az r 7||az g 65535 with
    |true=>rw[c1,c2]at h;exact absurd (show(2:Int)=0 from h) (by decide)
    |false=>
     cases c3:decide (0<g)&&(decide (0<(W.aa a.toNat).bL)||((W.aa a.toNat).kind !=7&&(W.aa a.toNat).kind !=8))with
     |true=>rw[c1,c2,c3]at h;exact absurd (show(4:Int)=0 from h) (by decide)
     |false=>
      rw[Bool.or_eq_false_iff]at c2
      unfold iC at h5
      rw[decide_eq_false (show¬b<0 by omega),decide_eq_false (show¬(W.al:Int)<=b by omega)]at h5
      have eb:(b/16).toNat=b.toNat/16:=by omega
      rw[eb]at h5
      have k1:W.kinds (b.toNat/16)=5:=by
        cases q:W.kinds (b.toNat/16) !=5 with
        |true=>rw[q]at h5;exact absurd (show(3:Int)=0 from h5) (by decide)
        |false=>simpa using q
      have k2:(W.aa b.toNat).kind=0:=by
        cases q:(W.aa b.toNat).kind !=0 with
        |true=>rw[k1,q]at h5;exact absurd (show(12:Int)=0 from h5) (by decide)
        |false=>simpa using q
      refine⟨⟨J,h2,h3⟩,⟨hk,beq_eq_false_iff_ne.1 c1⟩,⟨k2,k1⟩,dL c2.1,dL c2.2,λhg=>?_⟩
      rw[decide_eq_true hg]at c3
      simp only[Bool.true_and,Bool.or_eq_false_iff,decide_eq_false_iff_not,Bool.and_eq_false_iff,bne_eq_false_iff_eq]at c3
      exact⟨by omega,c3.2⟩
theorem KG.put {P:Nat->Prop} {W:Wd} {A B:Nat} {K:bK} (h:KG P W) (hA:A<W.al) (hB:B<W.al) (sd:(W.aa B).kind=0) (jL:W.kinds (B/16)=5) (hK:K.kind≠0/\K.kind≠1) (cj:fi K=0) (xm:K.base+K.len<=W.aj) (C0:W.kinds K.base.toNat=K.kind) (hf:K.from_=A) (hm:eG K (W.aa A)=true):KG P {W with aa:=ah W.aa B K}:=by
  have z:=h.z
  have hAk:(W.aa A).kind≠0:=NM hm hK.1
  have Ar:A≠B:=λe=>hAk (by rw[e];exact sd)
  have eB:ah W.aa B K B=K:=aZ
  have ne: ∀{i},i≠B->ah W.aa B K i=W.aa i:=λe=>bh e
  have xM:=h.e0 B hB sd
  have nf: ∀{i},i<W.al->(W.aa i).from_≠(B:Int):=λ{i} hi e=>by
    obtain⟨_,_,c,_⟩:=h.full hi (by omega)
    rw[e,Int.toNat_natCast]at c
    exact c sd
  have cl: ∀i f,bW (ah W.aa B K i) f=bW (W.aa i) f:=λi f=>by
    rcases Decidable.em (i=B)with e|e
    · subst e
      rw[eB,xM]
      unfold bW
      rw[beq_eq_false_iff_ne.2 hK.2];rfl
    · rw[ne e]
  refine⟨z.cg rfl rfl,h.kd,λi hi hk=>?_,λi hi hk=>?_,λi hi hk=>?_,?_,λf hf=>?_,λf hf h0=>?_,λi hi hk cK c hc dx=>?_⟩
  · have hk:(ah W.aa B K i).kind=0:=hk
    show ah W.aa B K i=_
    rcases Decidable.em (i=B)with e|e
    · subst e;rw[eB]at hk;exact absurd hk hK.1
    · rw[ne e]at hk⊢;exact h.e0 i hi hk
  · have hk:(ah W.aa B K i).kind≠0:=hk
    show(W.kinds (i/16)=5\/P (i/16))/\fi (ah W.aa B K i)=0/\(ah W.aa B K i).base+(ah W.aa B K i).len<=W.aj/\((ah W.aa B K i).kind=1\/W.kinds (ah W.aa B K i).base.toNat=(ah W.aa B K i).kind)
    rcases Decidable.em (i=B)with e|e
    · subst e;rw[eB];exact⟨.inl jL,cj,xm,.inr C0⟩
    · rw[ne e]at hk⊢;exact h.s1 i hi hk
  · have hk:(ah W.aa B K i).kind≠0:=hk
    show(ah W.aa B K i).from_= -1\/((0<=(ah W.aa B K i).from_/\(ah W.aa B K i).from_<W.al)/\eG (ah W.aa B K i) (ah W.aa B K (ah W.aa B K i).from_.toNat)=true)
    rcases Decidable.em (i=B)with e|e
    · subst e
      rw[eB,hf,Int.toNat_natCast,ne Ar]
      exact .inr ⟨by omega,hm⟩
    · rw[ne e]at hk⊢
      refine(h.s2 i hi hk).imp_right λg=>⟨g.1,?_⟩
      rw[ne λe2=>nf hi (by omega)];exact g.2
  · obtain⟨r,hr⟩:=h.rk
    refine⟨λi=>if i=B then r A+1 else r i,λi hi h0=>?_⟩
    have h0:0<=(ah W.aa B K i).from_:=h0
    show(if(ah W.aa B K i).from_.toNat=B then r A+1 else r (ah W.aa B K i).from_.toNat)<if i=B then r A+1 else r i
    rcases Decidable.em (i=B)with e|e
    · subst e
      rw[eB,hf,Int.toNat_natCast,if_neg Ar,if_pos rfl];omega
    · rw[ne e]at h0⊢
      rw[if_neg e,if_neg λe2=>nf hi (by omega)]
      exact hr i hi h0
  · show bx W.al (λi=>bW (ah W.aa B K i) f)<=1
    rw[jA λi _=>cl i f];exact h.cl f hf
  · obtain⟨a,b⟩:=h.ky f hf h0
    refine⟨?_,λi hi=>?_⟩
    · show 0<bx W.al (λi=>cE (ah W.aa B K i) f)
      have:=DT (n:=W.al) (a:=B) (p:=λi=>cE (W.aa i) f) (v:=cE K f) hB
      have e:bx W.al (λi=>cE (ah W.aa B K i) f)=bx W.al (ah (λi=>cE (W.aa i) f) B (cE K f)):=jA λi _=>by
        rcases Decidable.em (i=B)with e|e
        · subst e;rw[aZ,aZ]
        · rw[bh e,bh e]
      have e2:b1 (cE (W.aa B) f)=0:=by rw[xM];rfl
      rw[e]
      have:bx W.al (ah (λi=>cE (W.aa i) f) B (cE K f))+b1 (cE (W.aa B) f)=bx W.al (λi=>cE (W.aa i) f)+b1 (cE K f):=this
      omega
    · show iP (ah W.aa B K i) f=false
      rcases Decidable.em (i=B)with e|e
      · subst e
        rw[eB];unfold iP bW
        rw[beq_eq_false_iff_ne.2 hK.2];rfl
      · rw[ne e];exact b i hi
  · have hk:(ah W.aa B K i).kind≠0:=hk
    have cK:(ah W.aa B K i).kind≠1:=cK
    have dx:bW (ah W.aa B K c) (ah W.aa B K i).base.toNat=true:=dx
    rw[cl]at dx
    show(ah W.aa B K i).from_≠ -1
    rcases Decidable.em (i=B)with e|e
    · subst e;rw[eB,hf];omega
    · rw[ne e]at hk cK dx⊢;exact h.ex i hi hk cK c hc dx
theorem KG.copy {P:Nat->Prop} {W:Wd} {a b r g:Int} (h:KG P W):KG P (tR W a b r g):=by
  cases he:gX W a b r g==0 with
  |false=>
   have e:(λj=>rA W a b r g j)=W.aa:=by
     funext j;unfold rA;rw[he];rfl
   unfold tR
   rw[e];exact h
  |true=>
   obtain⟨⟨J,h2,h3⟩,⟨k1,k2⟩,⟨k3,k4⟩,hr,hg,Gp⟩:=afB (eq_of_beq he)
   have e:(λj=>rA W a b r g j)=ah W.aa b.toNat (C' (W.aa a.toNat) a r g):=by
     funext j;unfold rA ah;rw[he,Bool.true_and]
   unfold tR
   rw[e]
   have ha:a.toNat<W.al:=by omega
   obtain⟨_,s2,s3,s4⟩:=h.s1 _ ha k1
   have rg:=kN s2
   have hand:(W.aa a.toNat).cd.toNat&&&r.toNat<=7:=by
     have:=Nat.and_le_right (n:=(W.aa a.toNat).cd.toNat) (m:=r.toNat)
     omega
   refine h.put (A:=a.toNat) ha (by omega) k3 k4 ⟨k1,k2⟩ ?_ s3 (s4.resolve_left k2) (show a=_ by omega) ?_
   · refine aav s2 k1 ⟨Int.natCast_nonneg _,?_⟩ ?_
     · show(((W.aa a.toNat).cd.toNat&&&r.toNat:Nat):Int)<=7
       omega
     · show(bif decide (0<g)then g else(W.aa a.toNat).bL)=_\/_
       rcases Int.lt_or_le 0 g with q|q
       · refine .inr ⟨?_,(Gp q).2⟩
         show 0<=(bif decide (0<g)then g else(W.aa a.toNat).bL)/\(bif decide (0<g)then g else(W.aa a.toNat).bL)<=65535
         rw[decide_eq_true q];exact hg
       · rw[decide_eq_false (by omega)];exact .inl rfl
   · refine om.2 ⟨s2,.inr ⟨k2,rfl,rfl,?_,?_⟩⟩
     · show(W.aa a.toNat).bL=0\/(W.aa a.toNat).bL=bif decide (0<g)then g else(W.aa a.toNat).bL
       rcases Int.lt_or_le 0 g with q|q
       · exact .inl (by have:=(Gp q).1;omega)
       · rw[decide_eq_false (by omega)];exact .inr rfl
     · show(((W.aa a.toNat).cd.toNat&&&(((W.aa a.toNat).cd.toNat&&&r.toNat:Nat):Int).toNat:Nat):Int)=(((W.aa a.toNat).cd.toNat&&&r.toNat:Nat):Int)
       rw[Int.toNat_natCast,aaw]
end Go.Proofs.YthgmgkabnffniaaGreatDoor
set_option linter.unusedVariables false
set_option linter.unusedSimpArgs false
set_option maxRecDepth 100000
namespace Go.Proofs.YthgmgkabnffniaaGreatDoor
open Go.RowKit Go.Sy
theorem RF {W:Wd} {b:Int} (h:iC W b=0):(0<=b/\b<W.al)/\(W.aa b.toNat).kind=0/\W.kinds (b.toNat/16)=5:=by
  unfold iC at h
  cases c1:(decide (b<0)||decide ((W.al:Int)<=b))with
  |true=>rw[c1]at h;exact absurd (show(2:Int)=0 from h) (by decide)
  |false=>
   rw[c1]at h
   simp only[Bool.or_eq_false_iff,decide_eq_false_iff_not]at c1
   have eb:(b/16).toNat=b.toNat/16:=by omega
   rw[eb]at h
   cases q:W.kinds (b.toNat/16) !=5 with
   |true=>rw[q]at h;exact absurd (show(3:Int)=0 from h) (by decide)
   |false=>
    cases q2:(W.aa b.toNat).kind !=0 with
    |true=>rw[q,q2]at h;exact absurd (show(12:Int)=0 from h) (by decide)
    |false=>exact⟨by omega,by simpa using q2,by simpa using q⟩
theorem KG.mv {P:Nat->Prop} {W:Wd} {A B:Nat} (h:KG P W) (hA:A<W.al) (hB:B<W.al) (hkA:(W.aa A).kind≠0) (sd:(W.aa B).kind=0) (jL:W.kinds (B/16)=5):KG P {W with aa:=λj=>cp A B (cT W.aa A B j)}:=by
  have z:=h.z
  have Ar:A≠B:=λe=>hkA (by rw[e];exact sd)
  have xM:=h.e0 B hB sd
  obtain⟨r,hr⟩:=h.rk
  have sB:cT W.aa A B B=W.aa A:=by unfold cT;rw[Nat.beq_refl];rfl
  have sA:cT W.aa A B A=f_:=by unfold cT;rw[fD Ar,Nat.beq_refl];rfl
  have sn: ∀{j},j≠A->j≠B->cT W.aa A B j=W.aa j:=λJ h2=>by unfold cT;rw[fD h2,fD J];rfl
  have WS: ∀{i},i<W.al->(W.aa i).from_≠(B:Int):=λ{i} hi e=>by
    obtain⟨_,_,c,_⟩:=h.full hi (by omega)
    rw[e,Int.toNat_natCast]at c
    exact c sd
  have nfA:(W.aa A).from_≠(A:Int):=λe=>by
    have:=hr A hA (by omega)
    rw[e,Int.toNat_natCast]at this
    omega
  have pre: ∀j,j<W.al->j≠A-> ∃i,i<W.al/\i≠B/\cT W.aa A B j=W.aa i/\(j=B/\i=A\/j≠B/\i=j):=λj hj J=>by
    rcases Decidable.em (j=B)with e|e
    · subst e;exact⟨A,hA,Ar,sB,.inl ⟨rfl,rfl⟩⟩
    · exact⟨j,hj,e,sn J e,.inr ⟨e,rfl⟩⟩
  have tA:cp A B (cT W.aa A B A)=f_:=by
    rw[sA];unfold cp
    rw[beq_eq_false_iff_ne.2 (show(f_.from_:Int)≠A by show(-1:Int)≠A;omega)];rfl
  have dh: ∀q:bK->Bool,(∀s t,nV s t->q s=q t)->q f_=false->bx W.al (λi=>q (cp A B (cT W.aa A B i)))=bx W.al (λi=>q (W.aa i)):=λq hq h0=>by
    have e:bx W.al (λi=>q (cp A B (cT W.aa A B i)))=bx W.al (ah (ah (λi=>q (W.aa i)) A false) B (q (W.aa A))):=jA λi _=>by
      rw[hq _ _ (mu _ _ _)]
      rcases Decidable.em (i=B)with e|e
      · subst e;rw[aZ,sB]
      · rw[bh e]
        rcases Decidable.em (i=A)with e2|e2
        · subst e2;rw[aZ,sA,h0]
        · rw[bh e2,sn e2 e]
    have a1:=DT (n:=W.al) (a:=B) (p:=ah (λi=>q (W.aa i)) A false) (v:=q (W.aa A)) hB
    have a2:=DT (n:=W.al) (a:=A) (p:=λi=>q (W.aa i)) (v:=false) hA
    rw[bh (show B≠A from Ar.symm)]at a1
    rw[xM,h0]at a1
    rw[e]
    have z0:b1 false=0:=rfl
    omega
  refine⟨z.cg rfl rfl,h.kd,λi hi hk=>?_,λi hi hk=>?_,λi hi hk=>?_,?_,λf hf=>?_,λf hf h0=>⟨?_,λi hi=>?_⟩,λi hi hk cK c hc dx=>?_⟩
  · have hk:(cp A B (cT W.aa A B i)).kind=0:=hk
    show cp A B (cT W.aa A B i)=f_
    rcases Decidable.em (i=A)with e|e
    · subst e;exact tA
    · obtain⟨j,hj,_,ej,hh⟩:=pre i hi e
      rw[(mu _ _ _).1,ej]at hk
      rw[ej,h.e0 j hj hk]
      unfold cp
      rw[beq_eq_false_iff_ne.2 (show(f_.from_:Int)≠A by show(-1:Int)≠A;omega)];rfl
  · have hk:(cp A B (cT W.aa A B i)).kind≠0:=hk
    show(W.kinds (i/16)=5\/P (i/16))/\fi (cp A B (cT W.aa A B i))=0/\(cp A B (cT W.aa A B i)).base+(cp A B (cT W.aa A B i)).len<=W.aj/\((cp A B (cT W.aa A B i)).kind=1\/W.kinds (cp A B (cT W.aa A B i)).base.toNat=(cp A B (cT W.aa A B i)).kind)
    rcases Decidable.em (i=A)with e|e
    · subst e;rw[tA]at hk;exact absurd rfl hk
    · obtain⟨j,hj,_,ej,hh⟩:=pre i hi e
      have ky:=mu A B (cT W.aa A B i)
      rw[ky.no,ky.1,ky.2.1,ky.2.2.1,ej]
      rw[ky.1,ej]at hk
      obtain⟨s1,s2,s3,s4⟩:=h.s1 j hj hk
      refine⟨?_,s2,s3,s4⟩
      rcases hh with⟨e1,_⟩|⟨_,e2⟩
      · rw[e1];exact .inl jL
      · rw[e2]at s1;exact s1
  · have hk:(cp A B (cT W.aa A B i)).kind≠0:=hk
    show(cp A B (cT W.aa A B i)).from_= -1\/((0<=(cp A B (cT W.aa A B i)).from_/\(cp A B (cT W.aa A B i)).from_<W.al)/\eG (cp A B (cT W.aa A B i)) (cp A B (cT W.aa A B (cp A B (cT W.aa A B i)).from_.toNat))=true)
    rcases Decidable.em (i=A)with e|e
    · subst e;rw[tA]at hk;exact absurd rfl hk
    · obtain⟨j,hj,_,ej,hh⟩:=pre i hi e
      have ky:=mu A B (cT W.aa A B i)
      rw[ky.1,ej]at hk
      rw[D2,ej]
      rcases h.s2 j hj hk with g|⟨g1,g2⟩
      · rw[g]
        rw[beq_eq_false_iff_ne.2 (show(-1:Int)≠A by omega)];exact .inl rfl
      · right
        rcases Decidable.em ((W.aa j).from_=(A:Int))with e2|e2
        · rw[e2,beq_self_eq_true]
          show(0<=(B:Int)/\(B:Int)<W.al)/\eG (cp A B (W.aa j)) (cp A B (cT W.aa A B B))=true
          rw[sB]
          rw[e2,Int.toNat_natCast]at g2
          exact⟨by omega,by rw[(mu _ _ _).made (mu _ _ _)];exact g2⟩
        · rw[beq_eq_false_iff_ne.2 e2]
          refine⟨g1,?_⟩
          show eG (cp A B (W.aa j)) (cp A B (cT W.aa A B (W.aa j).from_.toNat))=true
          rw[sn (λe3=>e2 (by omega)) (λe3=>WS hj (by omega)),(mu _ _ _).made (mu _ _ _)]
          exact g2
  · refine⟨λi=>if i=B then r A else r i,λi hi h0=>?_⟩
    have h0:0<=(cp A B (cT W.aa A B i)).from_:=h0
    show(if(cp A B (cT W.aa A B i)).from_.toNat=B then r A else r (cp A B (cT W.aa A B i)).from_.toNat)<if i=B then r A else r i
    rcases Decidable.em (i=A)with e|e
    · subst e;rw[tA]at h0;exact absurd h0 (by decide)
    · obtain⟨j,hj,_,ej,hh⟩:=pre i hi e
      have er:(if i=B then r A else r i)=r j:=by
        rcases hh with⟨e1,e2⟩|⟨e1,e2⟩
        · rw[if_pos e1,e2]
        · rw[if_neg e1,e2]
      rw[er]
      rw[D2,ej]at h0⊢
      rcases Decidable.em ((W.aa j).from_=(A:Int))with e2|e2
      · rw[e2,beq_self_eq_true]
        show(if(B:Int).toNat=B then r A else _)<_
        rw[Int.toNat_natCast,if_pos rfl]
        have:=hr j hj (by omega)
        rw[e2,Int.toNat_natCast]at this;exact this
      · rw[beq_eq_false_iff_ne.2 e2]at h0⊢
        have h0:0<=(W.aa j).from_:=h0
        show(if(W.aa j).from_.toNat=B then r A else r (W.aa j).from_.toNat)<_
        rw[if_neg λe3=>WS hj (by omega)]
        exact hr j hj h0
  · show bx W.al (λi=>bW (cp A B (cT W.aa A B i)) f)<=1
    rw[dh (λs=>bW s f) (λs t e=>e.tu f) rfl];exact h.cl f hf
  · show 0<bx W.al (λi=>cE (cp A B (cT W.aa A B i)) f)
    rw[dh (λs=>cE s f) (λs t e=>e.key f) rfl];exact(h.ky f hf h0).1
  · show iP (cp A B (cT W.aa A B i)) f=false
    rcases Decidable.em (i=A)with e|e
    · subst e;rw[tA];rfl
    · obtain⟨j,hj,_,ej,hh⟩:=pre i hi e
      rw[(mu _ _ _).free,ej];exact(h.ky f hf h0).2 j hj
  · have hk:(cp A B (cT W.aa A B i)).kind≠0:=hk
    have cK:(cp A B (cT W.aa A B i)).kind≠1:=cK
    have dx:bW (cp A B (cT W.aa A B c)) (cp A B (cT W.aa A B i)).base.toNat=true:=dx
    show(cp A B (cT W.aa A B i)).from_≠ -1
    have ky:=mu A B (cT W.aa A B i)
    rw[ky.1]at hk cK
    rw[(mu _ _ _).tu,ky.2.1]at dx
    rcases Decidable.em (i=A)with e|e
    · subst e;rw[sA]at hk;exact absurd rfl hk
    rcases Decidable.em (c=A)with e'|e'
    · subst e';rw[sA]at dx;exact absurd dx (by simp[bW,f_])
    obtain⟨j,hj,_,ej,hh⟩:=pre i hi e
    obtain⟨d,hd,_,ed,_⟩:=pre c hc e'
    rw[ej]at hk cK dx
    rw[ed]at dx
    rw[D2,ej]
    have:=h.ex j hj hk cK d hd dx
    cases (W.aa j).from_==(A:Int)with
    |true=>show(B:Int)≠ -1;omega
    |false=>exact this
theorem KG.move {P:Nat->Prop} {W:Wd} {a b:Int} (h:KG P W):KG P (Gf W a b):=by
  cases he:lV W a b==0 with
  |false=>
   have e:(λj=>bif lV W a b==0 then cp a b (cT W.aa a.toNat b.toNat j)else W.aa j)=W.aa:=by
     funext j;rw[he];rfl
   unfold Gf
   rw[e];exact h
  |true=>
   obtain⟨J,h2,h3,h4,h5⟩:=IJ he
   obtain⟨_,k3,k4⟩:=RF h5
   have hk:=(EE (beq_iff_eq.2 h4)).2
   have ea:(a.toNat:Int)=a:=by omega
   have eb:(b.toNat:Int)=b:=by omega
   have e:(λj=>bif lV W a b==0 then cp a b (cT W.aa a.toNat b.toNat j)else W.aa j)=λj=>cp (a.toNat:Int) (b.toNat:Int) (cT W.aa a.toNat b.toNat j):=by
     funext j;rw[he,ea,eb];rfl
   unfold Gf
   rw[e]
   exact h.mv (by omega) (by omega) hk k3 k4
end Go.Proofs.YthgmgkabnffniaaGreatDoor
set_option linter.unusedVariables false
set_option linter.unusedSimpArgs false
set_option maxRecDepth 100000
namespace Go.Proofs.YthgmgkabnffniaaGreatDoor
open Go.RowKit Go.Sy
def uL (n:Nat) (t:Nat->bK) (q:Int):Bool:=dY n λi=>(t i).from_==q
def adZ (W:Wd) (q:Int) (z:Nat):cG where
  σ:=Nat
  rt:= []
  sh i:= [(z,.v (.int .i64 i))]
  mh _:= []
  inv i:=i<=W.al/\ ∀j,j<i->((W.aa j).from_==q)=false
  μ i:=W.al -i
  init:=0
structure DG where
  (W:Wd) (q:Int)
def G2:Sy.Spec:=⟨DG,λ⟨W,q⟩=> [dV W,.v (.int .i64 q)],λ_=> [],λ⟨W,_⟩=>W.al<=100000,λ⟨W,q⟩=> .v (.bool (uL W.al W.aa q)),λ_=> [],
  λargs mem=>match args with| [a0,a1]=>some ⟨dR a0,aw (a1)⟩|_=>none⟩
def Y4:aT:=⟨[],(G2).g,none⟩
def NP:DG->Prop:=λ⟨W,q⟩=>let a0:=W.al;let b0:=(a0:Int);let c0:=uL a0 W.aa q;0=((0:Nat):Int)/\True/\(0<=a0/\(∀d0:Nat,d0<0->((W.aa d0).from_==q)=false))/\(∀e0:Nat,let g0:=(e0:Int);let h0:=decide (g0<b0);let k0:=(W.aa (Int.toNat g0)).from_==q;let l0:Int:=g0+1;e0<=a0/\(∀o0:Nat,o0<e0->((W.aa o0).from_==q)=false)->b0<=9223372036854775807->(h0=true->(0<=g0/\g0<b0)/\(k0=true->true=c0/\True)/\(k0=false->ar l0=l0/\(∃q0:Nat,l0=(q0:Int)/\True/\(q0<=a0/\(∀r0:Nat,r0<q0->((W.aa r0).from_==q)=false))/\a0-q0<a0-e0)))/\(h0=false->false=c0/\True))
theorem XV:aU Tryz.prog aY 97 Y4:=bf .nil false Tryz.call97 Tryz.func97 (λ⟨W,q⟩=> [.inv (adZ W q 5)]) (V:=NP) (λ_=>by kernel_rfl) λ⟨W,q⟩ hp=>by
  dsimp only[G2]at hp
  dsimp only[NP,tn,ar,aD,aI,aJ,aH]
  simp only[bn,bD,eq_self,implies_true,Bool.cond_self]
  try simp only[eP]
  refineλs hs _=>⟨λh=>?_,λh=>?_⟩
  · have av:=fO h
    exact⟨by omega,λh=>(qt.2 ⟨s,av,h⟩).symm,λh=>⟨dA (by omega) (by omega),fB ⟨⟨by omega,jU (p:=λi=>(W.aa i).from_==q) hs.2 h⟩,by omega⟩⟩⟩
  · have dz:=ga h
    obtain rfl:s=W.al:=by omega
    exact(nY.2 hs.2).symm
end Go.Proofs.YthgmgkabnffniaaGreatDoor
