/-
  Sy: regions that draw their order: all orders.
-/
import Derived.Test.YtbngaammbjaajaaGreatDoorYE
set_option linter.unusedVariables false
set_option linter.unusedSimpArgs false
set_option linter.unusedVariables false
set_option linter.unusedSimpArgs false
namespace Go.Sy
open Go.RowKit Classical
def keys (rs:List Rc) (j:Nat):List Nat:=(bO rs j).u.map (·.1)
def fF (rs:List Rc) (M:Mem) (E:List Nat) (k:Nat):Prop:=bR (aa M) k=true/\(∃j,k∈keys rs j)/\ ¬ ∃j∈E,k∈keys rs j
noncomputable def cf (rs:List Rc) (M:Mem) (ω:Ow) (E:List Nat):Ow:=⟨ω.A,ω.Z,λk p=>if fF rs M E k then none else ω.β k p,ω.cur⟩
def KW (M:Mem) (e:aP) (k:Nat):Prop:= ∃r d n l,aa M k=⟨r,d,none,.cells (j4 n)⟩/\l.length=n/\e=⟨r,d,none,.cells l⟩
def nX (aN:Ow) (W:Nat->Prop) (w0 w:World):Prop:=w.os=w0.os/\w.tape=w0.tape/\w.output=w0.output/\w0.heap.size<=w.heap.size/\
  ∀b,b<w0.heap.size->(∀k,W k-> ∀L,aN.β k none=some L->L.b≠b)->w.heap[b]? =w0.heap[b]?
def Wr (rs:List Rc) (M:Mem) (D:Nat->Prop) (k:Nat):Prop:=bR (aa M) k=false/\ ∃j,D j/\k∈keys rs j
def gQ (ops:Array Oper) (i:Nat):Option Nat:=(ops[i]?).bind (·.dst)
theorem wW {k:Nat}: ∀{u:aC} {M:Mem},k∈u.map (·.1)->aa (u++M) k=aa u k
  | [],_,h=>by simp at h
  |p::r,M,h=>by
   by_cases hk:p.1=k
   · obtain⟨p1,p2⟩:=p
     subst hk
     rw[List.cons_append,cz,cz]
   · obtain⟨p1,p2⟩:=p
     rw[List.cons_append,bV hk,bV hk]
     refine wW ?_
     simp only[List.map_cons,List.mem_cons]at h
     exact h.resolve_left (λe=>hk e.symm)
theorem sQ {k:Nat}: ∀{u:aC} {M:Mem},k∉u.map (·.1)->aa (u++M) k=aa M k
  | [],_,_=>rfl
  |p::r,M,h=>by
   obtain⟨p1,p2⟩:=p
   simp only[List.map_cons,List.mem_cons,not_or]at h
   rw[List.cons_append,bV (Ne.symm h.1)]
   exact sQ h.2
theorem wC {rs:List Rc} {M:Mem} {j:Nat} {E:List Nat}:vM rs M (j::E)=(bO rs j).u++vM rs M E:=by simp[vM]
theorem mq {rs:List Rc} {M:Mem} {k:Nat}: ∀{E:List Nat},(∀j∈E,k∉keys rs j)->aa (vM rs M E) k=aa M k
  | [],_=>rfl
  |j::E,h=>by
   rw[wC,sQ (h j (by simp))]
   exact mq λi hi=>h i (by simp[hi])
theorem qh {rs:List Rc} {M:Mem} {k j:Nat} (hd: ∀i j,k∈keys rs i->k∈keys rs j->i=j) (hk:k∈keys rs j): ∀{E:List Nat},j∈E->aa (vM rs M E) k=aa (bO rs j).u k
  | [],h=>by simp at h
  |i::E,h=>by
   rw[wC]
   by_cases hi:k∈keys rs i
   · obtain rfl:=hd i j hi hk
     exact wW hi
   · rw[sQ hi]
     rcases List.mem_cons.1 h with rfl|h
     · exact absurd hk hi
     · exact qh hd hk h
structure gY (P:Program) (sg:Bool) (Gl:Nat->SV) (Γ:Table) (N:Nat) (ops:Array Oper) (PR:Nat->List Nat) (m:Nat) (rs:List Rc) (F F0:Fr) (M:Mem) (cC wr:Nat->Bool):Prop where
  dep: ∀i o,ops[i]? =some o-> ∀x∈PR i,∃e∈o.after,Region.binds .any e=true/\(x=e.on\/x∈PR e.on)
  closed: ∀i j,j∈PR i-> ∀k∈PR j,k∈PR i
  lt: ∀i j,j∈PR i->j<i
  pI: ∀i o,ops[i]? =some o-> ∀e∈o.after,Region.binds .any e=true->e.on<i
  le:m<=ops.size
  ev: ∀i o,i<m->ops[i]? =some o->cC i=false->wr i=false-> ∃nx p,mG P sg Gl Γ N ops.toList (vF rs F0 (PR i)) (vM rs M (PR i)) (vH rs (PR i)) nx (PR i) o=some (p,bO rs i)/\p
  Ud: ∀i o,i<m->ops[i]? =some o->cC i=false->wr i=true->o.dst=none/\(bO rs i).fs= []/\(bO rs i).hs= []/\ ∃k,evalW P Gl N ops.toList (vF rs F0 (PR i)) (vM rs M (PR i)) (vH rs (PR i)) o=some (k,(bO rs i).u)/\bR (aa M) k=false
  fr: ∀i,wr i=false-> ∀k∈keys rs i,bR (aa M) k=true
  C': ∀i o,i<m->ops[i]? =some o->cC i=true->o.guard=none/\ ∃s,bO rs i=⟨fC N o.dst s,[],[]⟩/\(nV P sg (vF rs F0 (PR i)) (aa (vM rs M (PR i))) o.op).run (λs'=>s'=s)
  apart: ∀i oi,i<m->cC i=true->ops[i]? =some oi-> ∀j oj,ops[j]? =some oj->j≠i->j∉PR i->(∀e∈oj.after,Region.binds .any e=true->e.on≠i)->oi.apart ops oj=true
  dK: ∀i,i<m->cC i=true->Region.noSelect ops=true
  fs: ∀i p,p∈(bO rs i).fs->gQ ops i=some p.1/\p.1<N
  hs: ∀i h,h∈(bO rs i).hs->gQ ops i=some h.slot/\ ∃g∈PR i,gQ ops g=some h.d
  one: ∀i j t,i<m->j<m->gQ ops i=some t->gQ ops j=some t->i=j
  key: ∀i j k,k∈keys rs i->k∈keys rs j->i=j
  free: ∀i k,k∈keys rs i->bR (aa M) k=true\/(bR (aa M) k=false/\KW M (aa (bO rs i).u k) k)
  K0: ∀i k,k∈keys rs i->(aa (bO rs i).u k).rs=(aa M k).rs/\(aa (bO rs i).u k).ds=(aa M k).ds
  short: ∀i,m<=i->bO rs i=⟨[],[],[]⟩
  base: ∀t,look F0 t= .aq\/(look F0 t=look F t/\ ∀i,i<m->gQ ops i≠some t)
  out: ∀t,N<=t->look F0 t= .aq
structure Inv (ops:Array Oper) (PR:Nat->List Nat) (m:Nat) (rs:List Rc) (M:Mem) (N:Nat) (a0:Act) (w0:World) (aN:Ow) (D:Nat->Prop) (a:Act) (w:World) (ω:Ow):Prop where
  low: ∀j,D j->j<m
  dB: ∀j,D j-> ∀k∈PR j,D k
  cw:nX aN (Wr rs M D) w0 w
  C9: ∀j k,k∈keys rs j->bR (aa M) k=false-> ∀L,aN.β k none=some L-> ∃c T,w.heap[L.b]? =some (Obj.cells c T (0,0))/\c.size=L.len
  A0: ∀b,aN.A b->ω.A b
  dg: ∀b,ω.A b->b<w.heap.size
  BN: ∀b,b<w0.heap.size-> ¬aN.A b-> ¬ω.A b
  Z:ω.Z=aN.Z
  dj: ∀b,ω.A b-> ¬ω.Z b
  cur:ω.cur=aN.cur
  kB: ∀k p,(∀j,D j->k∈keys rs j->bR (aa M) k=false)->ω.β k p=aN.β k p
  own: ∀k p L,ω.β k p=some L->ω.A L.b
  inj: ∀k p L k' p' L',ω.β k p=some L->ω.β k' p'=some L'->L.b=L'.b->k=k'/\p=p'
  defers:a.defers= []
  size:a.tmps.size=N
  ld: ∀t,(∀j,D j->gQ ops j≠some t)->a.tmps[t]? =a0.tmps[t]?
  pG: ∀j,D j->ay w (cf rs M ω (j::PR j)) (vM rs M (j::PR j))/\tm w (cf rs M ω (j::PR j)) N a (bO rs j)
section
variable {P:Program} {sg:Bool} {Gl:Nat->SV} {Γ:Table} {N:Nat} {ops:Array Oper} {PR:Nat->List Nat} {m:Nat} {rs:List Rc} {F F0:Fr} {M:Mem} {cC wr:Nat->Bool}
variable {a0 a:Act} {w0 w:World} {aN ω:Ow} {D:Nat->Prop}
theorem sub_eq {E:List Nat} {k:Nat} {p:Path} (h: ¬fF rs M E k):(cf rs M ω E).β k p=ω.β k p:=if_neg h
theorem sR {E:List Nat} {k:Nat} {p:Path} (h:fF rs M E k):(cf rs M ω E).β k p=none:=if_pos h
theorem AA {E E':List Nat} (h: ∀j∈E,j∈E'):Ext w (cf rs M ω E) w (cf rs M ω E'):=
  ⟨rfl,rfl,rfl,λ_ _ _=>rfl,λ_ _ h=>h,λ_ _ _ h=>h,Nat.le_refl _,λ_=>⟨Nat.le_refl _,Nat.le_refl _⟩,λk p L hL _=>by
    by_cases hk:fF rs M E k
    · rw[sR hk]at hL;cases hL
    · rw[sub_eq hk]at hL
      rw[sub_eq]
      · exact hL
      · rintro ⟨h0,J,U⟩
        exact hk ⟨h0,J,λ⟨j,hj,cI⟩=>U ⟨j,h j hj,cI⟩⟩,λ_ h=>h⟩
theorem nt {E:List Nat} {k:Nat} {p:Path} {L:Loc} (h:(cf rs M ω E).β k p=some L): ¬fF rs M E k/\ω.β k p=some L:=by
  by_cases hk:fF rs M E k
  · rw[sR hk]at h;cases h
  · exact⟨hk,by rwa [sub_eq hk]at h⟩
theorem Inv.mQ (S:gY P sg Gl Γ N ops PR m rs F F0 M cC wr) (hm:ay w0 aN M) (I:Inv ops PR m rs M N a0 w0 aN D a w ω) (E:List Nat):Ext w0 aN w (cf rs M ω E):=
  ⟨I.cw.1,I.cw.2.1,I.cw.2.2.1,λb hb hn=>I.cw.2.2.2.2 b hb (λk _ L hL e=>hn (hm.own b ⟨k,none,L,hL,e⟩)),I.BN,λb _ _ hz pJ=>hz (by rw[<-I.Z];exact pJ),I.cw.2.2.2.1,λk=>by rw[show(cf rs M ω E).cur=aN.cur from I.cur];exact⟨Nat.le_refl _,Nat.le_refl _⟩,λk p L hL _=>by
    have cd:bR (aa M) k=false:=by
      cases hf:bR (aa M) k with
      |false=>rfl
      |true=>have:=(iV hm hf).2.2 p;rw[this]at hL;cases hL
    rw[sub_eq (λh=>by have:=h.1;rw[cd]at this;cases this),I.kB k p (λ_ _ _=>cd)]
    exact hL,λb hz=>by show ω.Z b;rw[I.Z];exact hz⟩
theorem Inv.all (S:gY P sg Gl Γ N ops PR m rs F F0 M cC wr) (hm:ay w0 aN M) (hF:cW w0 aN N F a0.tmps) (I:Inv ops PR m rs M N a0 w0 aN D a w ω) {E:List Nat} (hE: ∀j∈E,D j) (hc: ∀j∈E,∀k∈PR j,k∈E):
    ay w (cf rs M ω E) (vM rs M E)/\cW w (cf rs M ω E) N (vF rs F0 E) a.tmps/\fo w (cf rs M ω E) N a (vH rs E):=by
  have e0:=I.mQ S hm E
  have inc: ∀{j},j∈E-> ∀i∈j::PR j,i∈E:=λhj i hi=>by
    rcases List.mem_cons.1 hi with rfl|hi
    · exact hj
    · exact hc _ hj _ hi
  have wX: ∀k,(∃j∈E,k∈keys rs j)\/(∀j∈E,k∉keys rs j):=λk=>by
    by_cases h: ∃j∈E,k∈keys rs j
    · exact .inl h
    · exact .inr λj hj hk=>h ⟨j,hj,hk⟩
  have xo: ∀{j k},j∈E->k∈keys rs j->aa (vM rs M E) k=aa (vM rs M (j::PR j)) k:=λhj hk=>by
    rw[qh (λi j=>S.key i j _) hk hj,qh (λi j=>S.key i j _) hk (by simp)]
  have oP: ∀{j k} {E':List Nat},j∈E'->k∈keys rs j-> ¬fF rs M E' k:=λhj hk h=>h.2.2 ⟨_,hj,hk⟩
  refine⟨⟨?_,?_,I.dg,I.dj,?_,?_,?_,?_,?_,?_⟩,⟨I.size,?_,?_⟩,?_⟩
  · show ω.cur=_
    rw[I.cur,hm.cur]
    funext k
    unfold cG
    rcases wX k with⟨j,hj,hk⟩|cd
    · rw[qh (λi j=>S.key i j _) hk hj,(S.K0 j k hk).1,(S.K0 j k hk).2]
    · rw[mq cd]
  · rintro b ⟨k,p,L,h,rfl⟩
    exact I.own _ _ _ (nt h).2
  · intro b hz
    have hz:ω.Z b:=hz
    rw[I.Z]at hz
    exact Nat.lt_of_lt_of_le (hm.ed b hz) I.cw.2.2.2.1
  · intro k p L k' p' L' J U e
    exact I.inj _ _ _ _ _ _ (nt J).2 (nt U).2 e
  · intro k p L h
    exact I.dg _ (I.own _ _ _ (nt h).2)
  · intro k p L h
    obtain⟨Dd,hL⟩:=nt h
    rcases wX k with⟨j,hj,hk⟩|cd
    · obtain⟨pD,_⟩:=I.pG j (hE j hj)
      obtain⟨r,g1,g2,g3,g4⟩:=pD.row k p L (by rw[sub_eq (oP (by simp) hk)];exact hL)
      refine⟨r,by unfold rowAt at g1⊢;rw[xo hj hk];exact g1,g2,g3,?_⟩
      rw[xo hj hk]
      exact g4.ext (AA (inc hj)) rfl (λq=>by rw[sub_eq Dd,sub_eq (oP (by simp) hk)]) rfl
    · have xU: ∀i,k∈keys rs i->bR (aa M) k=false:=λi jj=>by
        cases hf:bR (aa M) k with
        |false=>rfl
        |true=>exact absurd ⟨hf,⟨i,jj⟩,λ⟨j,hj,hk⟩=>cd j hj hk⟩ Dd
      rw[I.kB k p (λj _=>xU j)]at hL
      obtain⟨r,g1,g2,g3,g4⟩:=hm.row k p L hL
      refine⟨r,by unfold rowAt at g1⊢;rw[mq cd];exact g1,g2,g3,?_⟩
      rw[mq cd]
      by_cases hW: ∃i,k∈keys rs i
      · obtain⟨i,jj⟩:=hW
        obtain⟨_,r0,d0,n,l',e1,e2,e3⟩:=(S.free i k jj).resolve_left (by rw[xU i jj];simp)
        cases p with
        |some ij=>unfold rowAt at g1;rw[e1]at g1;cases g1
        |none=>
         unfold rowAt at g1;rw[e1]at g1
         obtain rfl:=Option.some.inj g1
         obtain⟨c,T,J,U⟩:=I.C9 i k jj (xU i jj) L hL
         obtain⟨c0,T0,f1,f2,f3,f4⟩:=g4
         refine⟨c,T,J,U,f3,λa ha b hb=>?_⟩
         have ai:L.o+a*L.sz+b<c.size:=by have:=jz ha hb;omega
         exact⟨_,Array.getElem?_eq_getElem ai,by show bW _ _ _ _ _ _ (aA (j4 n) b) _;rw[vP];trivial⟩
      · refine g4.ext e0 (by rw[show(cf rs M ω E).cur=aN.cur from I.cur]) (λq=>by rw[sub_eq Dd,I.kB k q (λj _=>xU j)]) (I.cw.2.2.2.2 _ (hm.low k p L hL) ?_)
        rintro k' ⟨De,j',gZ,eD⟩ L' dS e
        obtain⟨rfl,_⟩:=hm.inj _ _ _ _ _ _ dS hL e
        exact hW ⟨j',eD⟩
  · intro k l hl
    rcases wX k with⟨j,hj,hk⟩|cd
    · rw[xo hj hk]at hl
      obtain⟨L,hL⟩:=(I.pG j (hE j hj)).1.live k l hl
      exact⟨L,by rw[sub_eq (oP hj hk)];exact(nt hL).2⟩
    · rw[mq cd]at hl
      have hf:bR (aa M) k=false:=by unfold bR;rw[hl];rfl
      obtain⟨L,hL⟩:=hm.live k l hl
      exact⟨L,by rw[sub_eq (λh=>by have:=h.1;rw[hf]at this;cases this),I.kB k none (λ_ _ _=>hf)];exact hL⟩
  · intro k i j hh
    by_cases Kt:fF rs M E k
    · exact sR Kt
    rw[sub_eq Kt]
    rcases wX k with⟨q,hq,hk⟩|cd
    · rw[xo hq hk]at hh
      have:=(I.pG q (hE q hq)).1.dh k i j hh
      rwa [sub_eq (oP (by simp) hk)]at this
    · rw[mq cd]at hh
      have hf:bR (aa M) k=false:=by unfold bR;rw[hh];cases Ik (aa M k).b<;>rfl
      rw[I.kB k _ (λ_ _ _=>hf)]
      exact hm.dh k i j hh
  · intro t u hu
    have NB: ∀(l:List (Nat×SV)) (G:Fr),(∃s,(t,s)∈l/\look (l++G) t=s)\/((∀p∈l,p.1≠t)/\look (l++G) t=look G t):=by
      intro l G
      induction l with
      |nil=>exact .inr ⟨λp hp=>by simp at hp,rfl⟩
      |cons p r ih=>
       obtain⟨p1,p2⟩:=p
       by_cases hp:p1=t
       · subst hp
         exact .inl ⟨p2,by simp,look_eq⟩
       · rw[List.cons_append,mz hp]
         rcases ih with⟨s,J,U⟩|⟨J,U⟩
         · exact .inl ⟨s,by simp[J],U⟩
         · exact .inr ⟨λq hq=>by rcases List.mem_cons.1 hq with rfl|hq;exact hp;exact J q hq,U⟩
    show Den w _ (look (E.flatMap (λj=>(bO rs j).fs)++F0) t) u
    rcases NB (E.flatMap λj=>(bO rs j).fs) F0 with⟨s,J,U⟩|⟨J,U⟩
    · rw[U]
      obtain⟨j,hj,lS⟩:=List.mem_flatMap.1 J
      exact((I.pG j (hE j hj)).2.1 (t,s) lS u hu).ext (AA (inc hj))
    · rw[U]
      rcases S.base t with e|⟨e,cd⟩
      · rw[e];trivial
      · rw[e]
        refine(hF.den t u ?_).ext e0
        rw[<-I.ld t λj hj=>cd j (I.low j hj)]
        exact hu
  · intro t ht
    have NC: ∀(l:List (Nat×SV)) (G:Fr),(∀p∈l,p.1<N)->look (l++G) t=look G t:=by
      intro l G h
      induction l with
      |nil=>rfl
      |cons p r ih=>
       obtain⟨p1,p2⟩:=p
       have:=h (p1,p2) (by simp)
       rw[List.cons_append,mz (by simp at this;omega)]
       exact ih λq hq=>h q (by simp[hq])
    show look (E.flatMap (λj=>(bO rs j).fs)++F0) t= .aq
    rw[NC _ _ λp hp=>by
     obtain⟨j,hj,lS⟩:=List.mem_flatMap.1 hp
     exact(S.fs j p lS).2]
    exact S.out t ht
  · intro h hh
    obtain⟨j,hj,lS⟩:=List.mem_flatMap.1 hh
    exact(fo.ext (I.pG j (hE j hj)).2.2 (AA (inc hj))) h lS
end
end Go.Sy
set_option linter.unusedVariables false
set_option linter.unusedSimpArgs false
namespace Go.Sy
open Go.RowKit Classical
theorem Cw.trans {w w' dJ:World} (h:Cw w w') (k:Cw w' dJ):Cw w dJ:=
  ⟨k.1.trans h.1,k.2.1.trans h.2.1,k.2.2.1.trans h.2.2.1,Nat.le_trans h.2.2.2.1 k.2.2.2.1,λb hb=>(k.2.2.2.2 b (Nat.lt_of_lt_of_le hb h.2.2.2.1)).trans (h.2.2.2.2 b hb)⟩
theorem nX.cw {aN:Ow} {W W':Nat->Prop} {w0 w w':World} (h:nX aN W w0 w) (k:Cw w w') (hW: ∀q,W q->W' q):nX aN W' w0 w':=
  ⟨k.1.trans h.1,k.2.1.trans h.2.1,k.2.2.1.trans h.2.2.1,Nat.le_trans h.2.2.2.1 k.2.2.2.1,λb hb hn=>(k.2.2.2.2 b (Nat.lt_of_lt_of_le hb h.2.2.2.1)).trans (h.2.2.2.2 b hb λq hq=>hn q (hW q hq))⟩
theorem nX.one {aN:Ow} {W W':Nat->Prop} {w0 w w':World} (h:nX aN W w0 w) {L:Loc} (k:One w w' L.b) (hW: ∀q,W q->W' q) {q0:Nat} (h0:W' q0) (hL:aN.β q0 none=some L):nX aN W' w0 w':=
  ⟨k.1.trans h.1,k.2.1.trans h.2.1,k.2.2.1.trans h.2.2.1,by rw[k.2.2.2.1];exact h.2.2.2.1,λb hb hn=>(k.2.2.2.2 b (λe=>hn q0 h0 L hL e.symm)).trans (h.2.2.2.2 b hb λq hq=>hn q (hW q hq))⟩
theorem ay.grow {w w':World} {o o':Ow} {M:Mem} (hm:ay w o M) (hc:Cw w w') (he:Ext w o w' o') (ca: ∀k p,o'.β k p=o.β k p) (qZ:o'.cur=o.cur) (hZ:o'.Z=o.Z) (hA: ∀b,o.A b->o'.A b) (Ub: ∀b,o'.A b->b<w'.heap.size) (gm: ∀b,o'.A b-> ¬o'.Z b):ay w' o' M where
  cur:=qZ.trans hm.cur
  own:=λb ⟨k,p,L,J,U⟩=>hA b (hm.own b ⟨k,p,L,by rw[<-ca];exact J,U⟩)
  dg:=Ub
  dj:=gm
  ed:=λb hz=>Nat.lt_of_lt_of_le (hm.ed b (by rw[<-hZ];exact hz)) hc.2.2.2.1
  inj:=λk p L k' p' L' J U e=>hm.inj k p L k' p' L' (by rw[<-ca];exact J) (by rw[<-ca];exact U) e
  low:=λk p L h=>Nat.lt_of_lt_of_le (hm.low k p L (by rw[<-ca];exact h)) hc.2.2.2.1
  row:=λk p L h=>by
    rw[ca]at h
    obtain⟨r,J,U,h3,h4⟩:=hm.row k p L h
    exact⟨r,J,U,h3,h4.ext he (by rw[qZ]) (λq=>ca k q) (hc.2.2.2.2 _ (hm.low k p L h))⟩
  live:=λk l h=>by obtain⟨L,hL⟩:=hm.live k l h;exact⟨L,by rw[ca];exact hL⟩
  dh:=λk i j h=>by rw[ca];exact hm.dh k i j h
section
variable {P:Program} {sg:Bool} {Gl:Nat->SV} {Γ:Table} {N:Nat} {ops:Array Oper} {PR:Nat->List Nat} {m:Nat} {rs:List Rc} {F F0:Fr} {M:Mem} {cC wr:Nat->Bool}
variable {a0 a:Act} {w0 w:World} {aN ω:Ow} {D:Nat->Prop}
theorem qF {t:Nat} {d:Option Tmp} {v:Value} (h:d≠some t):(a.put d v).tmps[t]? =a.tmps[t]? :=by
  cases d with
  |none=>rfl
  |some x=>
   have:x≠t:=λe=>h (by rw[e])
   simp only[Act.put,Array.getElem?_setIfInBounds_ne this]
theorem NA {d:Option Tmp} {v:Value}:(a.put d v).tmps.size=a.tmps.size:=by cases d<;>simp[Act.put]
theorem Inv.Ii (S:gY P sg Gl Γ N ops PR m rs F F0 M cC wr) (hm:ay w0 aN M)
    (I:Inv ops PR m rs M N a0 w0 aN D a w ω) {i:Nat} {o:Oper} (hi:i<m) (ho:ops[i]? =some o) (dF: ¬D i) (eZ: ∀j∈PR i,D j) (gX: ∀k∈keys rs i,bR (aa M) k=true) {v:Value} {w':World} {cV:Ow}
    (ix:aT w (cf rs M ω (PR i)) (vM rs M (PR i)) w' cV ((bO rs i).u++vM rs M (PR i))) (gx:gD w (cf rs M ω (PR i)) w' cV (λk=>k∈(bO rs i).u.map (·.1))) (sZ:tm w' cV N (a.put o.dst v) (bO rs i)):
    Inv ops PR m rs M N a0 w0 aN (λj=>D j\/j=i) (a.put o.dst v) w' ⟨cV.A,ω.Z,λk p=>if k∈keys rs i then cV.β k p else ω.β k p,ω.cur⟩:=by
  have dE:gQ ops i=o.dst:=by simp[gQ,ho]
  have C8:cV.Z=ω.Z:=gx.Z
  have Uc:cV.cur=ω.cur:=gx.cur
  have cS: ∀b,b<w.heap.size-> ¬ω.A b-> ¬cV.A b:=λb hb hn=>ix.ext.free b hb hn
  have BM: ∀b,ω.A b->cV.A b:=λb hb=>gx.A b hb
  have tO: ∀{k p},k∈keys rs i->(if k∈keys rs i then cV.β k p else ω.β k p)=cV.β k p:=λh=>if_pos h
  have nG: ∀{k p},k∉keys rs i->(if k∈keys rs i then cV.β k p else ω.β k p)=ω.β k p:=λh=>if_neg h
  have gC:nX aN (Wr rs M λj=>D j\/j=i) w0 w':=I.cw.cw gx.cw λq ⟨J,j,U,h3⟩=>⟨J,j,.inl U,h3⟩
  have Tl:cf rs M ⟨cV.A,ω.Z,λk p=>if k∈keys rs i then cV.β k p else ω.β k p,ω.cur⟩ (i::PR i)=cV:=by
    show(⟨cV.A,ω.Z,_,ω.cur⟩:Ow)=⟨cV.A,cV.Z,cV.β,cV.cur⟩
    rw[C8,Uc]
    congr 1
    funext k p
    by_cases hk:k∈keys rs i
    · have: ¬fF rs M (i::PR i) k:=λh=>h.2.2 ⟨i,by simp,hk⟩
      simp only[if_neg this,if_pos hk]
    · rw[gx.β k p hk]
      show _=if fF rs M (PR i) k then none else ω.β k p
      have:fF rs M (i::PR i) k↔fF rs M (PR i) k:=by
        constructor
        · rintro ⟨h0,J,U⟩
          exact⟨h0,J,λ⟨j,hj,cI⟩=>U ⟨j,by simp[hj],cI⟩⟩
        · rintro ⟨h0,J,U⟩
          refine⟨h0,J,?_⟩
          rintro ⟨j,hj,cI⟩
          rcases List.mem_cons.1 hj with rfl|hj
          · exact hk cI
          · exact U ⟨j,hj,cI⟩
      by_cases hh:fF rs M (PR i) k
      · rw[if_pos (this.2 hh),if_pos hh]
      · rw[if_neg (λh=>hh (this.1 h)),if_neg hh];exact nG hk
  refine⟨?_,?_,gC,λj k hk hf L hL=>?_,λb hb=>BM b (I.A0 b hb),ix.mem.dg,?_,I.Z,?_,I.cur,?_,?_,?_,by rw[Act.put_defers];exact I.defers,by rw[NA];exact I.size,?_,?_⟩
  · rintro j (h|rfl)
    · exact I.low j h
    · exact hi
  · rintro j (h|rfl) k hk
    · exact .inl (I.dB j h k hk)
    · exact .inl (eZ k hk)
  · obtain⟨c,T,J,U⟩:=I.C9 j k hk hf L hL
    refine⟨c,T,?_,U⟩
    rw[gx.cw.2.2.2.2 _ (Nat.lt_of_lt_of_le (hm.low k none L hL) I.cw.2.2.2.1)]
    exact J
  · intro b hb hn
    exact cS b (Nat.lt_of_lt_of_le hb I.cw.2.2.2.1) (I.BN b hb hn)
  · intro b hb
    show¬ω.Z b
    rw[<-C8]
    exact ix.mem.dj b hb
  · intro k p hk
    show(if k∈keys rs i then cV.β k p else ω.β k p)=_
    rw[nG (λh=>by have:=hk i (.inr rfl) h;rw[gX k h]at this;cases this)]
    exact I.kB k p λj hj=>hk j (.inl hj)
  · intro k p L hL
    have hL:(if k∈keys rs i then cV.β k p else ω.β k p)=some L:=hL
    by_cases hk:k∈keys rs i
    · rw[tO hk]at hL
      exact ix.mem.own _ ⟨k,p,L,hL,rfl⟩
    · rw[nG hk]at hL
      exact BM _ (I.own k p L hL)
  · intro k p L k' p' L' J U e
    have J:(if k∈keys rs i then cV.β k p else ω.β k p)=some L:=J
    have U:(if k'∈keys rs i then cV.β k' p' else ω.β k' p')=some L':=U
    by_cases hk:k∈keys rs i<;>by_cases eD:k'∈keys rs i
    · rw[tO hk]at J;rw[tO eD]at U
      exact ix.mem.inj _ _ _ _ _ _ J U e
    · rw[tO hk]at J;rw[nG eD]at U
      have e1:=gx.new k p L hk J
      have e2:=I.dg _ (I.own k' p' L' U)
      omega
    · rw[nG hk]at J;rw[tO eD]at U
      have e1:=gx.new k' p' L' eD U
      have e2:=I.dg _ (I.own k p L J)
      omega
    · rw[nG hk]at J;rw[nG eD]at U
      exact I.inj _ _ _ _ _ _ J U e
  · intro t ht
    rw[qF (by rw[<-dE];exact ht i (.inr rfl))]
    exact I.ld t λj hj=>ht j (.inl hj)
  · rintro j (hj|rfl)
    · have mX:j≠i:=λe=>dF (e▸hj)
      have C_:i∉j::PR j:=by
        intro h
        rcases List.mem_cons.1 h with h|h
        · exact mX h.symm
        · exact dF (I.dB j hj i h)
      have Kr: ∀k p,(cf rs M ⟨cV.A,ω.Z,λk p=>if k∈keys rs i then cV.β k p else ω.β k p,ω.cur⟩ (j::PR j)).β k p=(cf rs M ω (j::PR j)).β k p:=by
        intro k p
        by_cases hh:fF rs M (j::PR j) k
        · rw[sR hh,sR hh]
        · rw[sub_eq hh,sub_eq hh]
          show(if k∈keys rs i then cV.β k p else ω.β k p)=_
          refine nG λhk=>hh ⟨gX k hk,⟨i,hk⟩,?_⟩
          rintro ⟨q,hq,pE⟩
          exact C_ ((S.key i q k hk pE)▸hq)
      have bh:Ext w (cf rs M ω (j::PR j)) w' (cf rs M ⟨cV.A,ω.Z,λk p=>if k∈keys rs i then cV.β k p else ω.β k p,ω.cur⟩ (j::PR j)):=
        ⟨gx.cw.1,gx.cw.2.1,gx.cw.2.2.1,λb hb _=>gx.cw.2.2.2.2 b hb,cS,λ_ _ _ h=>h,gx.cw.2.2.2.1,λ_=>⟨Nat.le_refl _,Nat.le_refl _⟩,λk p L hL _=>by rw[Kr];exact hL,λ_ h=>h⟩
      obtain⟨k1,k2,k3⟩:=I.pG j hj
      refine⟨k1.grow gx.cw bh Kr rfl rfl BM ix.mem.dg (λb hb=>?_),λp hp u hu=>?_,?_⟩
      · show¬ω.Z b
        rw[<-C8]
        exact ix.mem.dj b hb
      · have bq:o.dst≠some p.1:=by
          rw[<-dE]
          intro e
          exact mX (S.one j i p.1 (I.low j hj) hi (S.fs j p hp).1 e)
        rw[qF bq]at hu
        exact(k2 p hp u hu).ext bh
      · intro h hh
        obtain⟨d1,g,hg,d2⟩:=S.hs j h hh
        have KY:D g:=I.dB j hj g hg
        have n1:o.dst≠some h.slot:=by
          rw[<-dE];intro e
          exact mX (S.one j i _ (I.low j hj) hi d1 e)
        have n2:o.dst≠some h.d:=by
          rw[<-dE];intro e
          have:g=i:=S.one g i _ (I.low g KY) hi d2 e
          exact dF (this▸KY)
        have h0:=k3 h hh
        exact⟨h0.lt,λe u hu=>(h0.yes (by rw[<-qF n2];exact e) u (by rw[<-qF n1];exact hu)).ext bh,λe=>by rw[qF n1];exact h0.no (by rw[<-qF n2];exact e)⟩
    · rw[Tl,wC]
      exact⟨ix.mem,sZ⟩
theorem Inv.after (S:gY P sg Gl Γ N ops PR m rs F F0 M cC wr) (hm:ay w0 aN M)
    (I:Inv ops PR m rs M N a0 w0 aN D a w ω) {i:Nat} {o:Oper} (hi:i<m) (ho:ops[i]? =some o) (dF: ¬D i) (eZ: ∀j∈PR i,D j) (gX: ∀k∈keys rs i,bR (aa M) k=true) {v:Value} {w':World} {cV:Ow}
    (ix:aT w (cf rs M ω (PR i)) (vM rs M (PR i)) w' cV ((bO rs i).u++vM rs M (PR i))) (gx:gD w (cf rs M ω (PR i)) w' cV (λk=>k∈(bO rs i).u.map (·.1))) (sZ:tm w' cV N (a.put o.dst v) (bO rs i)):
    ∃ah,Inv ops PR m rs M N a0 w0 aN (λj=>D j\/j=i) (a.put o.dst v) w' ah:=⟨_,I.Ii S hm hi ho dF eZ gX ix gx sZ⟩
theorem Inv.JK (S:gY P sg Gl Γ N ops PR m rs F F0 M cC wr) (hm:ay w0 aN M) (hF:cW w0 aN N F a0.tmps)
    (I:Inv ops PR m rs M N a0 w0 aN D a w ω) {i:Nat} {o:Oper} (hi:i<m) (ho:ops[i]? =some o) (fi:cC i=true) (dF: ¬D i) (eZ: ∀j∈PR i,D j):
    ∃v,Yields P ops o v a/\ ∃ah,Inv ops PR m rs M N a0 w0 aN (λj=>D j\/j=i) (a.put o.dst v) w ah:=by
  obtain⟨g1,g2,g3⟩:=I.all S hm hF eZ (λj hj=>S.closed i j hj)
  obtain⟨hg,s,kl,he⟩:=S.C' i o hi ho fi
  obtain⟨v,J,U⟩:=A6 g1 g2 he
  refine⟨v,.inl ⟨by simp[Region.wanted,hg],J⟩,?_⟩
  refine I.after S hm hi ho dF eZ (λk hk=>by unfold keys at hk;rw[kl]at hk;simp at hk) (w':=w) (cV:=cf rs M ω (PR i)) ?_ ?_ ?_
  · rw[kl];exact aT.refl g1
  · rw[kl];exact gD.refl _ _
  · rw[kl];exact⟨vo U,λx hx=>by cases hx⟩
theorem O7 {ops:List Oper} {V:Fr} {M:Mem} {H:List Hd} {o:Oper} {k:Nat} {u:aC} (h:evalW P Gl N ops V M H o=some (k,u)):u.map (·.1)= [k]:=by
  unfold evalW at h
  split at h
  · split at h
    · split at h
      · split at h
        · simp only[Option.some.injEq,Prod.mk.injEq]at h
          obtain⟨rfl,rfl⟩:=h;rfl
        · cases h
      · cases h
    · cases h
  · cases h
theorem Inv.write (S:gY P sg Gl Γ N ops PR m rs F F0 M cC wr) (hm:ay w0 aN M)
    (I:Inv ops PR m rs M N a0 w0 aN D a w ω) {i:Nat} (hi:i<m) (dF: ¬D i) (eZ: ∀j∈PR i,D j) {k:Nat} (hk:keys rs i= [k]) (pH:bR (aa M) k=false) (uu:(bO rs i).fs= []) (Da:(bO rs i).hs= []) {w':World} {L:Loc} (hL:(cf rs M ω (PR i)).β k none=some L)
    (jd:ay w' (cf rs M ω (PR i)) ((bO rs i).u++vM rs M (PR i))) (ho:One w w' L.b):
    Inv ops PR m rs M N a0 w0 aN (λj=>D j\/j=i) a w' ω:=by
  have oP: ∀{E:List Nat},¬fF rs M E k:=λh=>by have:=h.1;rw[pH]at this;cases this
  have nY:ω.β k none=some L:=by rw[sub_eq oP]at hL;exact hL
  have Db:aN.β k none=some L:=by rw[<-I.kB k none (λ_ _ _=>pH)];exact nY
  have jj:k∈keys rs i:=by rw[hk];simp
  have Ij: ∃c T,w'.heap[L.b]? =some (Obj.cells c T (0,0))/\c.size=L.len:=by
    obtain⟨r,_,_,_,c,T,J,U,_⟩:=jd.row k none L hL
    exact⟨c,T,J,U⟩
  have Tm: ∀q,Wr rs M D q->Wr rs M (λj=>D j\/j=i) q:=λq ⟨J,j,U,h3⟩=>⟨J,j,.inl U,h3⟩
  have ra:cf rs M ω (i::PR i)=cf rs M ω (PR i):=by
    show(⟨_,_,_,_⟩:Ow)=⟨_,_,_,_⟩
    congr 1
    funext k' p
    have:fF rs M (i::PR i) k'↔fF rs M (PR i) k':=by
      constructor
      · rintro ⟨h0,J,U⟩
        exact⟨h0,J,λ⟨j,hj,cI⟩=>U ⟨j,by simp[hj],cI⟩⟩
      · rintro ⟨h0,J,U⟩
        refine⟨h0,J,?_⟩
        rintro ⟨j,hj,cI⟩
        rcases List.mem_cons.1 hj with rfl|hj
        · rw[hk]at cI
          obtain rfl:=List.mem_singleton.1 cI
          rw[pH]at h0;cases h0
        · exact U ⟨j,hj,cI⟩
    by_cases hh:fF rs M (PR i) k'
    · rw[if_pos (this.2 hh),if_pos hh]
    · rw[if_neg (λh=>hh (this.1 h)),if_neg hh]
  refine⟨?_,?_,I.cw.one ho Tm ⟨pH,i,.inr rfl,jj⟩ Db,λj k' eD hf L' dS=>?_,I.A0,λb h=>by rw[ho.2.2.2.1];exact I.dg b h,I.BN,I.Z,I.dj,I.cur,λk' p eD=>I.kB k' p λj hj=>eD j (.inl hj),I.own,I.inj,I.defers,I.size,λt ht=>I.ld t λj hj=>ht j (.inl hj),?_⟩
  · rintro j (h|rfl)
    · exact I.low j h
    · exact hi
  · rintro j (h|rfl) q hq
    · exact .inl (I.dB j h q hq)
    · exact .inl (eZ q hq)
  · by_cases hb:L'.b=L.b
    · obtain⟨rfl,_⟩:=hm.inj _ _ _ _ _ _ dS Db hb
      obtain rfl:L=L':=Option.some.inj (Db.symm.trans dS)
      exact Ij
    · obtain⟨c,T,J,U⟩:=I.C9 j k' eD hf L' dS
      exact⟨c,T,by rw[ho.2.2.2.2 _ hb];exact J,U⟩
  · rintro j (hj|rfl)
    · have mX:j≠i:=λe=>dF (e▸hj)
      have C_: ∀q∈j::PR j,k∉keys rs q:=by
        intro q hq pE
        obtain rfl:=S.key q i k pE jj
        rcases List.mem_cons.1 hq with h|h
        · exact mX h.symm
        · exact dF (I.dB j hj _ h)
      obtain⟨k1,k2,k3⟩:=I.pG j hj
      obtain⟨_,r0,d0,n,l',e1,e2,e3⟩:=(S.free i k jj).resolve_left (by rw[pH];simp)
      have hb:(aa (vM rs M (j::PR j)) k).b= .cells (j4 n):=by rw[mq C_,e1]
      obtain⟨g1,g2⟩:=k1.Tn hb (by rw[sub_eq oP];exact nY) ho Ij
      exact⟨g1,λp hp u hu=>(k2 p hp u hu).ext g2,λh hh=>(fo.ext k3 g2) h hh⟩
    · rw[ra,wC]
      exact⟨jd,λp hp=>by rw[uu]at hp;simp at hp,λh hh=>by rw[Da]at hh;simp at hh⟩
theorem Inv.step (hS:Sound P Gl Γ) (S:gY P sg Gl Γ N ops PR m rs F F0 M cC wr) (hm:ay w0 aN M) (hF:cW w0 aN N F a0.tmps) (hG: ∀g,Den w0 aN.bare (Gl g) (.pointer (some ⟨g,0,none⟩)))
    (I:Inv ops PR m rs M N a0 w0 aN D a w ω) {i:Nat} {o:Oper} (hi:i<m) (ho:ops[i]? =some o) (dF: ¬D i) (eZ: ∀j∈PR i,D j) {Q:Exit->Act->World->Prop} {K:Act->World->Prop}
    (hK: ∀a' w' ah,Inv ops PR m rs M N a0 w0 aN (λj=>D j\/j=i) a' w' ah->K a' w'):wpOp P ops Q i K a w:=by
  obtain⟨g1,g2,g3⟩:=I.all S hm hF eZ (λj hj=>S.closed i j hj)
  have bc:St P Gl N (vF rs F0 (PR i)) (vM rs M (PR i)) a w (cf rs M ω (PR i)):=⟨g2,λg=>Den.ext (o:=aN.bare) (I.mQ S hm (PR i)).bare (hG g),g1,I.defers⟩
  cases fi:cC i with
  |false=>
   cases lh:wr i with
   |false=>
    obtain⟨nx,p,rA,hp⟩:=S.ev i o hi ho fi lh
    refine To hS ho bc g3 rA hp ?_
    intro v w' cV ix gx sZ
    obtain⟨ah,I'⟩:=I.after S hm hi ho dF eZ (S.fr i lh) ix gx sZ
    exact hK _ _ _ I'
   |true=>
    obtain⟨hd,uu,Da,k,rA,pH⟩:=S.Ud i o hi ho fi lh
    refine Tp ho bc g3 rA λw' L hL jd J=>?_
    exact hK _ _ _ (I.write S hm hi dF eZ (k:=k) (O7 rA) pH uu Da hL jd J)
  |true=>
   obtain⟨v,hy,ah,I'⟩:=I.JK S hm hF hi ho fi dF eZ
   exact hy.wpOp ho (hK _ _ _ I')
/-! ### what is left to be done -/
def iN (n:Nat) (listed:Array Bool):Nat:=((List.range n).filter λj=>!listed.getD j true).length
theorem G2 {p q:Nat->Bool}: ∀(l:List Nat),(∀x∈l,q x=true->p x=true)->(∃x∈l,p x=true/\q x=false)->(l.filter q).length<(l.filter p).length
  | [],_,⟨x,hx,_⟩=>by simp at hx
  |y::r,h,⟨x,hx,J,U⟩=>by
   have le: ∀(l:List Nat),(∀x∈l,q x=true->p x=true)->(l.filter q).length<=(l.filter p).length:=by
     intro l
     induction l with
     |nil=>intro _;exact Nat.le_refl _
     |cons z r ih=>
      intro h
      have ih:=ih λx hx=>h x (by simp[hx])
      by_cases hq:q z=true
      · rw[List.filter_cons_of_pos hq,List.filter_cons_of_pos (h z (by simp) hq)];simpa using ih
      · rw[List.filter_cons_of_neg hq]
        by_cases hp:p z=true
        · rw[List.filter_cons_of_pos hp];simp;omega
        · rw[List.filter_cons_of_neg hp];exact ih
   have hr: ∀x∈r,q x=true->p x=true:=λx hx=>h x (by simp[hx])
   rcases List.mem_cons.1 hx with rfl|hx
   · rw[List.filter_cons_of_neg (by rw[U];simp),List.filter_cons_of_pos J]
     have:=le r hr
     simp;omega
   · have ih:=G2 r hr ⟨x,hx,J,U⟩
     by_cases hq:q y=true
     · rw[List.filter_cons_of_pos hq,List.filter_cons_of_pos (h y (by simp) hq)];simpa using ih
     · rw[List.filter_cons_of_neg hq]
       by_cases hp:p y=true
       · rw[List.filter_cons_of_pos hp];simp;omega
       · rw[List.filter_cons_of_neg hp];exact ih
theorem getD_eq {listed:Array Bool} {j:Nat} (h:j<listed.size) (d e:Bool):listed.getD j d=listed.getD j e:=by simp[Array.getD,h]
theorem oI {n i:Nat} {listed:Array Bool} (hi:i<n) (hs:listed.size=n) (h:listed.getD i true=false):iN n (listed.setIfInBounds i true)<iN n listed:=by
  refine G2 _ (λx hx hq=>?_) ⟨i,List.mem_range.2 hi,by rw[h];rfl,?_⟩
  · by_cases e:i=x
    · subst e;rw[h];rfl
    · rwa [getD_set_ne true e]at hq
  · have:(listed.setIfInBounds i true).getD i true=true:=by simp[Array.getD,hs,hi]
    rw[this];rfl
theorem qu {n i:Nat} {listed:Array Bool} (hi:i<n) (h:listed.getD i true=false):0<iN n listed:=by
  unfold iN
  exact List.length_pos_of_mem (List.mem_filter.2 ⟨List.mem_range.2 hi,by rw[h];rfl⟩)
theorem wD (S:gY P sg Gl Γ N ops PR m rs F F0 M cC wr) (m1:Nat) (hT: ∀i,m1<=i->i<ops.size-> ∀j,j<i->m1<=j->j∈PR i) {Q:Exit->Act->World->Prop}: ∀(fuel t:Nat) (listed:Array Bool) (a:Act) (w:World),listed.size=ops.size->(∀j,j<ops.size->(listed.getD j false=true↔j<t))->m1<=t->t<=ops.size->iN ops.size listed<=fuel->
    wpList P ops Q (ops.toList.drop t) a w->wpAny P .any ops Q fuel listed a w:=by
  intro fuel
  induction fuel with
  |zero=>
   intro t listed a w hs hl Ue Uf hu h
   have ht:t=ops.size:=by
     rcases Nat.lt_or_ge t ops.size with ai|bI
     · have J:listed.getD t true=false:=by
         rw[getD_eq (by omega) true false]
         cases hx:listed.getD t false with
         |false=>rfl
         |true=>exact absurd ((hl t ai).1 hx) (Nat.lt_irrefl _)
       have:=qu ai J
       omega
     · omega
   refine⟨?_,?_⟩
   · rw[List.eq_nil_iff_forall_not_mem]
     intro j hj
     obtain⟨J,o,U,_⟩:=mem_ready.1 hj
     have aS:=(Array.getElem?_eq_some_iff.1 U).1
     have:=(hl j aS).2 (by omega)
     rw[getD_eq (by omega) true false,this]at J
     cases J
   · rw[ht,List.drop_of_length_le (by simp)]at h
     exact h
  |succ fuel ih=>
   intro t listed a w hs hl Ue Uf hu h
   have Ug: ∀j,j∈Region.ready .any ops listed->j=t:=by
     intro j hj
     obtain⟨J,o,U,h3⟩:=mem_ready.1 hj
     have aS:=(Array.getElem?_eq_some_iff.1 U).1
     have bI: ¬j<t:=λai=>by
       have:=(hl j aS).2 ai
       rw[getD_eq (by omega) true false,this]at J
       cases J
     rcases Nat.lt_or_ge t j with ai|hle
     · exfalso
       obtain⟨e,he,hb,hx⟩:=S.dep j o U t (hT j (by omega) aS t ai (by omega))
       have fm:=h3 e he hb
       have Ks:e.on<t:=(hl e.on (by have:=S.pI j o U e he hb;omega)).1 fm
       rcases hx with hx|hx
       · omega
       · have:=S.lt _ _ hx;omega
     · omega
   refine⟨λhr=>?_,λj hj=>?_⟩
   · rcases Nat.lt_or_ge t ops.size with ai|bI
     · exfalso
       have:t∈Region.ready .any ops listed:=by
         refine mem_ready.2 ⟨?_,ops[t],Array.getElem?_eq_getElem ai,λe he hb=>?_⟩
         · rw[getD_eq (by omega) true false]
           cases hx:listed.getD t false with
           |false=>rfl
           |true=>exact absurd ((hl t ai).1 hx) (Nat.lt_irrefl _)
         · have hd:=S.pI t _ (Array.getElem?_eq_getElem ai) e he hb
           exact(hl e.on (by omega)).2 hd
       rw[hr]at this
       simp at this
     · rw[show t=ops.size by omega,List.drop_of_length_le (by simp)]at h
       exact h
   · obtain rfl:=Ug j hj
     obtain⟨J,o,U,h3⟩:=mem_ready.1 hj
     have aS:=(Array.getElem?_eq_some_iff.1 U).1
     have BO:ops.toList.drop j=o::ops.toList.drop (j+1):=by
       have gZ:j<ops.toList.length:=by simpa using aS
       rw[List.drop_eq_getElem_cons gZ]
       congr 1
       have:=(Array.getElem?_eq_some_iff.1 U).2
       simpa using this
     rw[BO]at h
     have JL: ∀a' w',wpList P ops Q (ops.toList.drop (j+1)) a' w'->wpAny P .any ops Q fuel (listed.setIfInBounds j true) a' w':=by
       intro a' w' h'
       refine ih (j+1) _ a' w' (by simpa using hs) (λq hq=>?_) (by omega) (by omega) ?_ h'
       · by_cases e:j=q
         · subst e
           have:(listed.setIfInBounds j true).getD j false=true:=by simp[Array.getD,hs,aS]
           rw[this];simp
         · rw[getD_set_ne false e,hl q hq];omega
       · have:=oI aS hs J;omega
     unfold wpList at h
     unfold wpOp
     rw[U]
     simp only
     split
     · next hw=>rw[if_pos hw]at h;exact h.imp (Oper.wp_mono JL) id
     · next hw=>rw[if_neg hw]at h;exact JL _ _ h
theorem Qj (hS:Sound P Gl Γ) (S:gY P sg Gl Γ N ops PR m rs F F0 M cC wr) (hT: ∀i,m<=i->i<ops.size-> ∀j,j<i->j∈PR i\/(j<m/\cC j=true)) (hm:ay w0 aN M) (hF:cW w0 aN N F a0.tmps) (hG: ∀g,Den w0 aN.bare (Gl g) (.pointer (some ⟨g,0,none⟩))) {Q:Exit->Act->World->Prop} (gB: ∀d c a v w,Q (.panic c) (Act.put a d v) w->Q (.panic c) a w)
    (lM: ∀a w ω,Inv ops PR m rs M N a0 w0 aN (λj=>j<m) a w ω->wpList P ops Q (ops.toList.drop m) a w):
    ∀(fuel:Nat) (listed:Array Bool) (a:Act) (w:World) (ω:Ow),listed.size=ops.size->iN ops.size listed<=fuel->Inv ops PR m rs M N a0 w0 aN (λj=>listed.getD j false=true) a w ω->wpAny P .any ops Q fuel listed a w:=by
  have KZ: ∀i,m<=i->i<ops.size-> ∀j,j<i->m<=j->j∈PR i:=λi J U j h3 h4=>(hT i J U j h3).resolve_right λh=>by omega
  intro fuel
  induction fuel with
  |zero=>
   intro listed a w ω hs hu I
   have all: ∀j,j<ops.size->listed.getD j false=true:=by
     intro j hj
     cases hx:listed.getD j false with
     |true=>rfl
     |false=>have:=qu hj (by rw[getD_eq (listed:=listed) (by omega) true false];exact hx);omega
   have rB:m=ops.size:=by
     rcases Nat.lt_or_ge m ops.size with h|h
     · exact absurd (I.low m (all m h)) (Nat.lt_irrefl _)
     · have:=S.le;omega
   have hD:(λj=>listed.getD j false=true)=(λj=>j<m):=by
     funext j
     refine propext ⟨I.low j,λh=>all j (by omega)⟩
   rw[hD]at I
   exact wD S m KZ 0 m listed a w hs (λj hj=>⟨λ_=>by omega,λ_=>all j hj⟩) (Nat.le_refl _) S.le hu (lM a w ω I)
  |succ fuel ih=>
   intro listed a w ω hs hu I
   by_cases fQ: ∀j,j<m->listed.getD j false=true
   · have hD:(λj=>listed.getD j false=true)=(λj=>j<m):=by
       funext j
       exact propext ⟨I.low j,fQ j⟩
     have I':=I
     rw[hD]at I'
     exact wD S m KZ _ m listed a w hs (λj hj=>⟨I.low j,fQ j⟩) (Nat.le_refl _) S.le hu (lM a w ω I')
   · have hle:=S.le
     have hex: ∃j,j<m/\listed.getD j false=false:=by
       refine Classical.byContradiction λh=>fQ λj hj=>?_
       cases hx:listed.getD j false with
       |true=>rfl
       |false=>exact absurd ⟨j,hj,hx⟩ h
     have first: ∃j,j<m/\listed.getD j false=false/\j∈Region.ready .any ops listed:=by
       refine Classical.byContradiction λcd=>?_
       have: ∀n,∀j,j<n->j<m->listed.getD j false=true:=by
         intro n
         induction n with
         |zero=>intro j hj;omega
         |succ n mY=>
          intro j hj gn
          cases hx:listed.getD j false with
          |true=>rfl
          |false=>
           exfalso
           have aS:j<ops.size:=by omega
           refine cd ⟨j,gn,hx,mem_ready.2 ⟨by rw[getD_eq (by omega) true false];exact hx,ops[j],Array.getElem?_eq_getElem aS,λe he hb=>?_⟩⟩
           have hd:=S.pI j _ (Array.getElem?_eq_getElem aS) e he hb
           exact mY e.on (by omega) (by omega)
       exact fQ λj hj=>this (j+1) j (Nat.lt_succ_self j) hj
     have j5: ∀i,i∈Region.ready .any ops listed-> ∀x∈PR i,listed.getD x false=true:=by
       intro i hi x hx
       obtain⟨J,o,U,h3⟩:=mem_ready.1 hi
       obtain⟨e,he,hb,cK⟩:=S.dep i o U x hx
       have fm:=h3 e he hb
       rcases cK with rfl|cK
       · exact fm
       · exact I.dB _ fm x cK
     have iL: ∀i,i<ops.size->(λj=>(listed.setIfInBounds i true).getD j false=true)=(λj=>listed.getD j false=true\/j=i):=by
       intro i bo
       funext j
       refine propext ⟨λh=>?_,λh=>?_⟩
       · by_cases e:i=j
         · exact .inr e.symm
         · rw[getD_set_ne false e]at h;exact .inl h
       · rcases h with h|rfl
         · exact getD_set_true h
         · simp[Array.getD,hs,bo]
     by_cases JM: ∃i,i∈Region.ready .any ops listed/\m<=i
     · --a register operation is taken first
       obtain⟨i,hi,yH⟩:=JM
       obtain⟨j,gn,mZ,ll⟩:=first
       have bo:i<ops.size:=by
         obtain⟨_,o,U,_⟩:=mem_ready.1 hi
         exact(Array.getElem?_eq_some_iff.1 U).1
       have fi:cC j=true:=by
         rcases hT i yH bo j (by omega)with h|h
         · have:=j5 i hi j h
           rw[this]at mZ;cases mZ
         · exact h.2
       obtain⟨J,o,U,h3⟩:=mem_ready.1 ll
       have aS:=(Array.getElem?_eq_some_iff.1 U).1
       obtain⟨v,hy,ah,I'⟩:=I.JK S hm hF gn U fi (by rw[mZ];simp) (j5 j ll)
       refine wpAny_first U (Region.noSelect_spec (S.dK j gn fi)) (λc a w h=>gB _ c a v w h) fuel listed a w ?_ ll hy ?_
       · intro q oq hq bq Dc cd
         refine S.apart j o gn fi U q oq hq bq (λUh=>?_) cd
         have hqn:=(Array.getElem?_eq_some_iff.1 hq).1
         have:=j5 j ll q Uh
         rw[getD_eq (by omega) true false,this]at Dc
         cases Dc
       · refine ih _ _ _ ah (by simpa using hs) ?_ ?_
         · have:=oI aS hs J;omega
         · rw[iL j aS];exact I'
     · refine⟨λhr=>?_,λi hi=>?_⟩
       · obtain⟨j,_,_,ll⟩:=first
         rw[hr]at ll
         simp at ll
       · obtain⟨J,o,U,h3⟩:=mem_ready.1 hi
         have bo:=(Array.getElem?_eq_some_iff.1 U).1
         have dF: ¬listed.getD i false=true:=by
           rw[getD_eq (by omega) false true,J];simp
         have fp:i<m:=by
           rcases Nat.lt_or_ge i m with h|h
           · exact h
           · exact absurd ⟨i,hi,h⟩ JM
         refine I.step hS S hm hF hG fp U dF (j5 i hi) λa' w' ah I'=>ih _ a' w' ah (by simpa using hs) ?_ ?_
         · have:=oI bo hs J;omega
         · rw[iL i bo]
           exact I'
end
end Go.Sy
set_option linter.unusedVariables false
set_option linter.unusedSimpArgs false
namespace Go.Sy
open Go.RowKit
def mH (ord:List Nat) (n k:Nat):Nat:=match idx ord k with|some p=>p|none=>n
def nN (ord:List Nat) (n:Nat) (e:Edge):Edge:={e with on:=mH ord n e.on}
def jJ (ord:List Nat) (n:Nat) (o:Oper):Oper:={o with after:=⟨o.after.toList.map (nN ord n)⟩,guard:=o.guard.map λx=>(mH ord n x.1,x.2)}
def gS (ord:List Nat) (ops:List Oper):List Oper:=ord.filterMap λi=>(ops[i]?).map (jJ ord ops.length)
def nF (ord:List Nat) (n:Nat):Bool:=nodupB ord&&Nat.beq ord.length n&&(ord.all λk=>Nat.blt k n)&&(List.range n).all λk=>cb ord k
structure jy (ord:List Nat) (n:Nat):Prop where
  nd:ord.Nodup
  len:ord.length=n
  lt: ∀k∈ord,k<n
  all: ∀k,k<n->k∈ord
theorem zV {ord:List Nat} {n:Nat} (h:nF ord n=true):jy ord n:=by
  unfold nF at h
  simp only[Bool.and_eq_true]at h
  obtain⟨⟨⟨J,U⟩,h3⟩,h4⟩:=h
  exact⟨qg J,Nat.eq_of_beq_eq_true U,λk hk=>Nat.le_of_ble_eq_true (List.all_eq_true.1 h3 k hk),λk hk=>fv.1 (List.all_eq_true.1 h4 k (List.mem_range.2 hk))⟩
section
variable {P:Program} {ops:Array Oper} {Q:Exit->Act->World->Prop} {ord:List Nat}
theorem jy.pos {n:Nat} (h:jy ord n) {p k:Nat} (hp:ord[p]? =some k):mH ord n k=p:=by
  have hk:=h.lt k (List.mem_of_getElem? hp)
  unfold mH
  cases hi:idx ord k with
  |none=>exact absurd (List.mem_of_getElem? hp) (qn hi)
  |some q=>
   have hq:=jw hi
   have fH:=(List.getElem?_eq_some_iff.1 hp).1
   have yK:=(List.getElem?_eq_some_iff.1 hq).1
   exact(List.getElem?_inj yK h.nd).1 (hq.trans hp.symm)
theorem jy.out {n:Nat} (h:jy ord n) {k:Nat} (hk:n<=k):mH ord n k=n:=by
  unfold mH
  cases hi:idx ord k with
  |none=>rfl
  |some q=>have:=h.lt k (List.mem_of_getElem? (jw hi));omega
theorem vQ (h:jy ord ops.size) {p k:Nat} (hp:ord[p]? =some k) {o:Oper} (ho:ops[k]? =some o):(gS ord ops.toList).toArray[p]? =some (jJ ord ops.size o):=by
  have key: ∀(l:List Nat) (p:Nat),(∀x∈l,x<ops.size)->(l.filterMap λi=>(ops.toList[i]?).map (jJ ord ops.toList.length))[p]? =(l[p]?).bind λk=>(ops[k]?).map (jJ ord ops.size):=by
    intro l
    induction l with
    |nil=>intro p _;simp
    |cons x r ih=>
     intro p hl
     have hx:=hl x (by simp)
     have e:(ops.toList[x]?).map (jJ ord ops.toList.length)=some (jJ ord ops.size ops[x]):=by simp[hx]
     rw[List.filterMap_cons,e]
     cases p with
     |zero=>simp[hx]
     |succ p=>simpa using ih p λy hy=>hl y (by simp[hy])
  rw[List.getElem?_toArray]
  unfold gS
  rw[key ord p h.lt,hp]
  simp[ho]
theorem qi (h:jy ord ops.size):(gS ord ops.toList).toArray.size=ops.size:=by
  rw[List.size_toArray]
  unfold gS
  rw[<-h.len]
  have: ∀l:List Nat,(∀x∈l,x<ops.size)->(l.filterMap λi=>(ops.toList[i]?).map (jJ ord ops.toList.length)).length=l.length:=by
    intro l
    induction l with
    |nil=>intro _;rfl
    |cons x r ih=>
     intro hl
     have hx:=hl x (by simp)
     have e:(ops.toList[x]?).map (jJ ord ops.toList.length)=some (jJ ord ops.size ops[x]):=by simp[hx]
     rw[List.filterMap_cons,e]
     have:=ih λy hy=>hl y (by simp[hy])
     simp only[List.length_cons,this]
  exact this ord h.lt
structure rh (ord:List Nat) (n:Nat) (ls fT:Array Bool):Prop where
  s:ls.size=n
  s':fT.size=n
  eq: ∀(p k:Nat),ord[p]? =some k->fT[p]? =ls[k]?
theorem Ma (h:jy ord ops.size) (tmps:Array Value) (j:Nat):yielded (gS ord ops.toList).toArray tmps (mH ord ops.size j)=yielded ops tmps j:=by
  unfold yielded
  rcases Nat.lt_or_ge j ops.size with hj|hj
  · obtain⟨p,hp⟩:=List.getElem?_of_mem (h.all j hj)
    rw[h.pos hp,vQ h hp (Array.getElem?_eq_getElem hj),Array.getElem?_eq_getElem hj]
    rfl
  · rw[h.out hj,Array.getElem?_eq_none (by rw[qi h];exact Nat.le_refl _),Array.getElem?_eq_none hj]
theorem MK (h:jy ord ops.size) {p k:Nat} (hp:ord[p]? =some k) {K K':Act->World->Prop} {a:Act} {w:World} (hK: ∀a w,K a w->K' a w) (hw:wpOp P (gS ord ops.toList).toArray Q p K a w):wpOp P ops Q k K' a w:=by
  have hk:=h.lt k (List.mem_of_getElem? hp)
  refine wpOp_mono hK ?_
  unfold wpOp at hw⊢
  rw[vQ h hp (Array.getElem?_eq_getElem hk)]at hw
  rw[Array.getElem?_eq_getElem hk]
  have RG:Region.wanted (jJ ord ops.size ops[k]) (yielded (gS ord ops.toList).toArray a.tmps)=Region.wanted ops[k] (yielded ops a.tmps):=by
    unfold Region.wanted jJ
    cases hg:ops[k].guard with
    |none=>rfl
    |some x=>
     obtain⟨j,want⟩:=x
     simp only[Option.map_some]
     rw[Ma h]
  simp only[RG]at hw
  exact hw
theorem Er (h:jy ord ops.size) {ls fT:Array Bool} (hl:rh ord ops.size ls fT) {p k:Nat} (hp:ord[p]? =some k) (hr:k∈Region.ready .any ops ls):p∈Region.ready .any (gS ord ops.toList).toArray fT:=by
  have hk:=h.lt k (List.mem_of_getElem? hp)
  have fH:p<ops.size:=by rw[<-h.len];exact(List.getElem?_eq_some_iff.1 hp).1
  unfold Region.ready at hr⊢
  rw[List.mem_filter]at hr⊢
  refine⟨List.mem_range.2 (by rw[qi h];exact fH),?_⟩
  have U:=hr.2
  rw[Array.getElem?_eq_getElem hk]at U
  rw[vQ h hp (Array.getElem?_eq_getElem hk)]
  have get: ∀d:Bool,fT.getD p d=ls.getD k d:=λd=>by rw[Array.getD_eq_getD_getElem?,Array.getD_eq_getD_getElem?,hl.eq p k hp]
  rw[get]
  simp only[Option.map_some,Option.getD_some,Bool.and_eq_true]at U⊢
  refine⟨U.1,?_⟩
  have h3:=U.2
  rw[Array.all_eq_true']at h3⊢
  intro e he
  unfold jJ at he
  have he:e∈ops[k].after.toList.map (nN ord ops.size):=by simpa using he
  rw[List.mem_map]at he
  obtain⟨e0,ur,rfl⟩:=he
  have ur:e0∈ops[k].after:=by simpa using ur
  have:=h3 e0 ur
  have hb:Region.binds .any (nN ord ops.size e0)=Region.binds .any e0:=rfl
  rw[hb]
  have fm:fT.getD (nN ord ops.size e0).on false=ls.getD e0.on false:=by
    show fT.getD (mH ord ops.size e0.on) false=_
    rcases Nat.lt_or_ge e0.on ops.size with hj|hj
    · obtain⟨q,hq⟩:=List.getElem?_of_mem (h.all _ hj)
      rw[h.pos hq,Array.getD_eq_getD_getElem?,Array.getD_eq_getD_getElem?,hl.eq q _ hq]
    · rw[h.out hj,Array.getD_eq_getD_getElem?,Array.getD_eq_getD_getElem?,Array.getElem?_eq_none (by rw[hl.s'];exact Nat.le_refl _),Array.getElem?_eq_none (by rw[hl.s];exact hj)]
  rw[fm]
  exact this
theorem rh.set {n:Nat} (h:jy ord n) {ls fT:Array Bool} (hl:rh ord n ls fT) {p k:Nat} (hp:ord[p]? =some k):rh ord n (ls.setIfInBounds k true) (fT.setIfInBounds p true):=by
  refine⟨by simpa using hl.s,by simpa using hl.s',λq j hq=>?_⟩
  have fH:=(List.getElem?_eq_some_iff.1 hp).1
  have yK:=(List.getElem?_eq_some_iff.1 hq).1
  by_cases e:q=p
  · subst e
    obtain rfl:j=k:=Option.some.inj (hq.symm.trans hp)
    have J:q<fT.size:=by rw[hl.s',<-h.len];exact yK
    have U:j<ls.size:=by rw[hl.s];exact h.lt _ (List.mem_of_getElem? hp)
    rw[Array.getElem?_setIfInBounds_self_of_lt J,Array.getElem?_setIfInBounds_self_of_lt U]
  · have e2:k≠j:=λe2=>by
      subst e2
      exact e ((List.getElem?_inj yK h.nd).1 (hq.trans hp.symm))
    rw[Array.getElem?_setIfInBounds_ne (Ne.symm e),Array.getElem?_setIfInBounds_ne e2]
    exact hl.eq q j hq
theorem vn (h:jy ord ops.size): ∀(fuel:Nat) {ls fT:Array Bool} {a:Act} {w:World},rh ord ops.size ls fT->wpAny P .any (gS ord ops.toList).toArray Q fuel fT a w->wpAny P .any ops Q fuel ls a w
  |0,ls,fT,a,w,hl,⟨J,U⟩=>by
   refine⟨?_,U⟩
   apply List.eq_nil_iff_forall_not_mem.2
   intro k hk
   obtain⟨p,hp⟩:=List.getElem?_of_mem (h.all k (by unfold Region.ready at hk;exact List.mem_range.1 (List.mem_filter.1 hk).1))
   have:=Er h hl hp hk
   rw[J]at this;cases this
  |fuel+1,ls,fT,a,w,hl,⟨J,U⟩=>by
   have lt: ∀{k},k∈Region.ready .any ops ls->k<ops.size:=λhk=>by unfold Region.ready at hk;exact List.mem_range.1 (List.mem_filter.1 hk).1
   refine⟨λhr=>J ?_,λk hk=>?_⟩
   · apply List.eq_nil_iff_forall_not_mem.2
     intro p hp
     have fH:p<ops.size:=by unfold Region.ready at hp;have:=List.mem_range.1 (List.mem_filter.1 hp).1;rwa [qi h]at this
     obtain⟨k,hk⟩: ∃k,ord[p]? =some k:=⟨ord[p]'(by rw[h.len];exact fH),List.getElem?_eq_getElem _⟩
     have nW:=h.lt k (List.mem_of_getElem? hk)
     have:k∈Region.ready .any ops ls:=by
       unfold Region.ready at hp⊢
       rw[List.mem_filter]at hp⊢
       refine⟨List.mem_range.2 nW,?_⟩
       have h3:=hp.2
       rw[vQ h hk (Array.getElem?_eq_getElem nW)]at h3
       rw[Array.getElem?_eq_getElem nW]
       have get: ∀d:Bool,fT.getD p d=ls.getD k d:=λd=>by rw[Array.getD_eq_getD_getElem?,Array.getD_eq_getD_getElem?,hl.eq p k hk]
       rw[get]at h3
       simp only[Option.map_some,Option.getD_some,Bool.and_eq_true]at h3⊢
       refine⟨h3.1,?_⟩
       have h4:=h3.2
       rw[Array.all_eq_true']at h4⊢
       intro e0 ur
       have:=h4 (nN ord ops.size e0) (by unfold jJ;have:nN ord ops.size e0∈ops[k].after.toList.map (nN ord ops.size):=List.mem_map.2 ⟨e0,by simpa using ur,rfl⟩;simpa using this)
       have fm:fT.getD (nN ord ops.size e0).on false=ls.getD e0.on false:=by
         show fT.getD (mH ord ops.size e0.on) false=_
         rcases Nat.lt_or_ge e0.on ops.size with hj|hj
         · obtain⟨q,hq⟩:=List.getElem?_of_mem (h.all _ hj)
           rw[h.pos hq,Array.getD_eq_getD_getElem?,Array.getD_eq_getD_getElem?,hl.eq q _ hq]
         · rw[h.out hj,Array.getD_eq_getD_getElem?,Array.getD_eq_getD_getElem?,Array.getElem?_eq_none (by rw[hl.s'];exact Nat.le_refl _),Array.getElem?_eq_none (by rw[hl.s];exact hj)]
       rw[fm]at this
       exact this
     rw[hr]at this;cases this
   · obtain⟨p,hp⟩:=List.getElem?_of_mem (h.all k (lt hk))
     exact MK h hp (λa w hh=>vn h fuel (hl.set h hp) hh) (U p (Er h hl hp hk))
theorem C7 {n:Nat} (h:jy ord n):rh ord n (Array.replicate n false) (Array.replicate n false):=
  ⟨by simp,by simp,λp k hp=>by
    have fH:p<n:=by rw[<-h.len];exact(List.getElem?_eq_some_iff.1 hp).1
    have hk:=h.lt k (List.mem_of_getElem? hp)
    simp[fH,hk]⟩
theorem zW {o':Oper} (hm:o'∈gS ord ops.toList): ∃o,o∈ops.toList/\o'.dst=o.dst:=by
  unfold gS at hm
  rw[List.mem_filterMap]at hm
  obtain⟨i,_,h⟩:=hm
  cases ho:ops.toList[i]? with
  |none=>rw[ho]at h;cases h
  |some o=>
   rw[ho]at h
   obtain rfl:=Option.some.inj h
   exact⟨o,List.mem_of_getElem? ho,rfl⟩
end
def yL:List Edge->(List Edge->Prop)->Prop
  | [],k=>k []
  |e::r,k=>match e with|⟨o,g⟩=>dI o λo=>yL r λr=>k (⟨o,g⟩::r)
def fG:Option (Nat×Bool)->(Option (Nat×Bool)->Prop)->Prop
  |none,k=>k none
  |some (j,b),k=>dI j λj=>k (some (j,b))
def rz:List Oper->(List Oper->Prop)->Prop
  | [],k=>k []
  |o::r,k=>match o with|⟨d,op,t,p,a,g⟩=>yL a.toList λa=>fG g λg=>rz r λr=>k (⟨d,op,t,p,⟨a⟩,g⟩::r)
theorem Ih: ∀(l:List Edge) (k:List Edge->Prop),yL l k=k l
  | [],_=>rfl
  |⟨o,g⟩::r,k=>by simp only[yL,iH,Ih r]
theorem RH (g:Option (Nat×Bool)) (k:Option (Nat×Bool)->Prop):fG g k=k g:=by
  cases g with
  |none=>rfl
  |some x=>obtain⟨j,b⟩:=x;simp only[fG,iH]
theorem Ig: ∀(l:List Oper) (k:List Oper->Prop),rz l k=k l
  | [],_=>rfl
  |⟨d,op,t,p,a,g⟩::r,k=>by simp only[rz,Ih,RH,Ig r]
end Go.Sy
set_option linter.unusedVariables false
set_option linter.unusedSimpArgs false
namespace Go.Sy
open Go.RowKit Classical
def ny (P:Program) (Gl:Nat->SV) (F:Fr) (M:Mem) (o:Oper):Option (Prop×Option Nat):=
  match o.guard,o.op with
  |none,.load T x=>
   match P.underlying T,bZ Gl F x with
   |some d,.ptr k st none _ j=>
    match jN d,bT (aa M) k st none,(aa M k).b with
    |false,true,.cells l=>(match Nat.blt j l.length with|true=>some (True,some k)|false=>none)
    |_,_,_=>none
   |_,_=>none
  |none,.nilCheck x=>
   match bZ Gl F x with
   | .ptr k st p _ _=>(match bT (aa M) k st p with|true=>some (True,none)|false=>none)
   | .pt _ _ _=>some (True,none)
   |_=>none
  |none,.indexAddr T x y=>
   match P.underlying T,bZ Gl F x,bZ Gl F y with
   |some (.slice E),.aw k st p _ n,.v (.int _ z)=>(match P.info? E,bT (aa M) k st p with|some _,true=>some (0<=z/\z<n,none)|_,_=>none)
   |some (.slice E),.sl _ _ n _,.v (.int _ z)=>(match P.info? E with|some _=>some (0<=z/\z<n,none)|_=>none)
   |_,_,_=>none
  |_,_=>none
section
variable {P:Program} {sg:Bool} {Gl:Nat->SV} {Γ:Table} {N:Nat} {F:Fr} {M:Mem} {a:Act} {w:World} {ω:Ow}
theorem Ez {o:Oper} {T E:TypeId} {x y:Operand} {ie:TypeInfo} (ho:o.op= .indexAddr T x y) (hu:P.underlying T=some (.slice E)) (hi:P.info? E=some ie) {ad:Addr} {n cap:Nat} {k:IntKind} {z:Int}
    (ex:a.eval x= .slice (some ad) n cap) (ey:a.eval y= .int k z) (h0:0<=z) (J:z<n) (w':World):(execOp a.eval o).run P w'= .ok (.value (.pointer (some (ad.add (z.toNat*ie.size))))) w':=by
  have kY:(sizeOf E).run P w'= .ok ie.size w':=by simp[sizeOf,run_typeInfo w' hi,Result.andThen]
  simp[execOp,ho,ex,ey,Instr.indexAt,asIntOf,run_underlying hu,Result.andThen,h0,J,kY]
theorem FU (h:St P Gl N F M a w ω) {o:Oper} {p:Prop} {ko:Option Nat} (he:ny P Gl F M o=some (p,ko)) (hp:p):
    o.guard=none/\ ∃v,∀w',(∀k,ko=some k-> ∀L,ω.β k none=some L->w'.heap[L.b]? =w.heap[L.b]?)->(execOp a.eval o).run P w'= .ok (.value v) w':=by
  unfold ny at he
  split at he
  · next T x hg ho=>
    refine⟨hg,?_⟩
    have hx:=h.frame.bZ h.de x
    split at he
    · next d k st ii j hu hs=>
      split at he
      · next l hd aZ hb=>
        split at he
        · next hj=>
          obtain⟨rfl,rfl⟩:=Prod.mk.inj (Option.some.inj he)
          have hj:j<l.length:=Nat.le_of_ble_eq_true hj
          rw[hs]at hx
          obtain⟨_,L,hL,Dx,ex⟩:=eP h.mem aZ hx
          obtain⟨c1,c2⟩:=sF h.mem hb hL
          obtain⟨r,_,_,_,c,T',g4,g5,g6,g7⟩:=h.mem.row _ _ _ hL
          obtain⟨y,y1,_⟩:=g7 ii Dx j (by omega)
          have nJ: ∀w':World,w'.heap[L.b]? =w.heap[L.b]? ->w'.cell? ⟨L.b,L.o+ii*L.sz+j,none⟩=some y:=by
            intro w' e
            rw[g4]at e
            simp[World.cell?,e,y1]
          refine⟨y,λw' jQ=>?_⟩
          have:=vg (P:=P) hu hd w' _ y (nJ w' (jQ k rfl L hL))
          simp[execOp,ho,ex,Instr.loadAt,Instr.sureAddr,this,Result.andThen]
        · cases he
      · cases he
    · cases he
  · next x hg ho=>
    refine⟨hg,?_⟩
    have hx:=h.frame.bZ h.de x
    have run:(∃ad,a.eval x= .pointer (some ad))-> ∃v,∀w',(∀k,ko=some k-> ∀L,ω.β k none=some L->w'.heap[L.b]? =w.heap[L.b]?)->(execOp a.eval o).run P w'= .ok (.value v) w':=by
      rintro ⟨ad,e⟩
      exact⟨.pointer (some ad),λw' _=>by simp[execOp,ho,e]⟩
    split at he
    · next k st p' i j hs=>
      split at he
      · next aZ=>
        rw[hs]at hx
        obtain⟨_,L,_,_,e⟩:=eP h.mem aZ hx
        exact run ⟨_,e⟩
      · cases he
    · next q n f hs=>
      rw[hs]at hx
      obtain⟨b,e,_⟩:=hx
      exact run ⟨_,e⟩
    · cases he
  · next T x y hg ho=>
    refine⟨hg,?_⟩
    have hx:=h.frame.bZ h.de x
    have hy:=h.frame.bZ h.de y
    split at he
    · next E k st p' e n kk z hu dT cY=>
      split at he
      · next ie aZ hi hb=>
        obtain⟨rfl,rfl⟩:=Prod.mk.inj (Option.some.inj he)
        rw[dT]at hx
        rw[cY]at hy
        have e0:st=Sy.st ω.cur k p':=by
          rw[h.mem.cur]
          cases p' with
          |none=>exact Nat.eq_of_beq_eq_true hb
          |some _=>exact Nat.eq_of_beq_eq_true hb
        rcases hx with hx|⟨_,q,cap,ex,gy,_,hx⟩
        · omega
        rcases hx with hx|⟨L,hL,rfl,_,_⟩
        · have:=hp.1;have:=hp.2;omega
        exact⟨_,λw' _=>Ez ho hu hi ex hy hp.1 hp.2 w'⟩
      · cases he
    · next E q sz n f kk z hu dT cY=>
      split at he
      · next ie hi=>
        obtain⟨rfl,rfl⟩:=Prod.mk.inj (Option.some.inj he)
        rw[dT]at hx
        rw[cY]at hy
        obtain⟨p',cap,ex,_,_,hx⟩:=hx
        rcases hx with hx|⟨ad,rfl,_⟩
        · have:=hp.1;have:=hp.2;omega
        exact⟨_,λw' _=>Ez ho hu hi ex hy hp.1 hp.2 w'⟩
      · cases he
    · cases he
  · cases he
theorem LA (hm:ay w ω M) {sx sy:SV} {o:Oper} {T:TypeId} {x y:Operand} {nx:Nat} {pr:Prop} {s:SV} {u:aC} (hx:Den w ω sx (a.eval x)) (hy:Den w ω sy (a.eval y)) (ho:o.op= .call {callee:= .builtin .append,args:= #[x,y],argTypes:= #[T,T]})
    (hb:qO sx=false) (he:nj P (aa M) nx T sx sy=some (pr,s,u)) (hp:pr):lP P w ω M a o s u:=by
  unfold nj at he
  rw[hb]at he
  simp only at he
  split at he
  · next z hz=>
    split at he
    · next v hv=>
      simp only[Option.some.injEq,Prod.mk.injEq]at he
      obtain⟨rfl,rfl,rfl⟩:=he
      obtain⟨ah,k,st,i,j,e,n,e1,e2,e3,J,U,h3,_⟩:=vD hm hz
      rw[e1]at hx
      have hy:Den w ah (nC (aa M) (nx+60) sx sy).2 (a.eval y):=by
        have eM:=hp.1
        revert eM hy
        rw[e1]
        generalize sy=t
        unfold nC
        split
        · next k1 Up i1 j1 _ _ k' Dr i' j' e' n' heq=>
          split
          · next b1 b2 b3=>
            obtain⟨rfl,rfl,Ds,rfl,rfl⟩:=SV.aw.inj heq
            obtain⟨rfl,rfl⟩:=Prod.mk.inj (Option.some.inj Ds)
            obtain rfl:=Nat.eq_of_beq_eq_true b1
            obtain rfl:=Nat.eq_of_beq_eq_true b2
            obtain rfl:=Nat.eq_of_beq_eq_true b3
            intro hy eM
            have eM:i'=i:=eM
            subst eM
            exact U _ _ _ hy
          · intro hy _;exact Den.ext J.ext hy
        · intro hy _;exact Den.ext J.ext hy
      rw[jA]at hv
      have pJ:Den w ah z.1 (a.eval x):=by rw[e3];exact U _ _ _ hx
      obtain⟨nn,vv,w',uJ,g1,g2,g3,g4⟩:=vl (P:=P) (a:=a) (tx:=λ_=>z.1) (ty:=λ_=>(nC (aa M) (nx+60) sx sy).2) J.mem pJ hy ho hv hp.2
      exact⟨nn,vv,w',uJ,g1,g2,by rw[List.append_assoc];exact J.trans g3,g4⟩
    · cases he
  · exact vl (P:=P) (a:=a) (tx:=λ_=>sx) (ty:=λ_=>sy) hm hx hy ho he hp
/-! ### the append that ends a slice -/
def qR:SV->List Nat
  | .aw k _ _ _ _=> [k]
  |_=> []
def pV:List Nat->List Nat->List Nat
  | [],l=>l
  |k::r,l=>match cb l k with|true=>pV r l|false=>k::pV r l
end
def Bp:SV->Bool
  | .aq=>true
  | .v _=>true
  | .bl _=>true
  | .es=>true
  | .sl _ _ _ _=>true
  | .pt _ _ _=>true
  | .pa _ _ _ _=>true
  | .er _ _ _ _=>true
  |_=>false
def QA:SV->Prop
  | .il sz _ g=> ∀a,jL sz λb=>Bp (g a b)=true
  |s=>Bp s=true
def Ix:aO->Prop
  | .row sz _ f=> ∀i,jL sz λj=>QA (f i j)
  |_=>False
def CO:List Nat->(Nat->Prop)->Prop
  | [],_=>True
  |k::r,p=>p k/\CO r p
theorem FV: ∀{l:List Nat} {p:Nat->Prop},CO l p-> ∀k∈l,p k
  | [],_,_,k,hk=>absurd hk (by simp)
  |i::r,p,h,k,hk=>by
   rcases List.mem_cons.1 hk with rfl|hk
   · exact h.1
   · exact FV h.2 k hk
def yV:SV->SV
  | .aw k s p e n=> .aw k s p e n
  | .v x=> .v x
  | .bl b=> .bl b
  | .es=> .es
  | .sl q sz n f=> .sl q sz n f
  |_=> .aq
def mK (M:Mem) (κ:List Nat):Mem:=κ.map λk=>(k,aa M k)
theorem oG {M:Mem}: ∀{κ:List Nat} {k:Nat},k∈κ->aa (mK M κ) k=aa M k
  | [],k,h=>absurd h (by simp)
  |i::r,k,h=>by
   unfold mK
   rw[List.map_cons]
   by_cases e:i=k
   · subst e;exact cz
   · rw[bV e]
     exact oG (κ:=r) ((List.mem_cons.1 h).resolve_left λh=>e h.symm)
theorem zH {M:Mem}: ∀{κ:List Nat} {k:Nat},k∉κ->aa (mK M κ) k=⟨0,0,none,.dead⟩
  | [],k,_=>rfl
  |i::r,k,h=>by
   unfold mK
   rw[List.map_cons,bV (λe=>h (by simp[e]))]
   exact zH (κ:=r) λh'=>h (by simp[h'])
def lr (M:Mem) (k:Nat) (p:Path):Bool:=match p,(aa M k).b with|some ij,.row sz _ _=>Nat.blt ij.2 sz|_,_=>true
def CP (M:Mem):SV->Bool
  | .aw k _ p _ _=>lr M k p
  |_=>true
def wV (P:Program) (Gl:Nat->SV) (F:Fr) (M:Mem) (nx:Nat) (o:Oper):Option (Prop×List Nat):=
  match o.guard,o.op with
  |none,.call {callee:= .builtin .append,args:=⟨[x,y]⟩,argTypes:=⟨[T,T']⟩}=>
   let κ:=pV (qR (bZ Gl F x)) (qR (bZ Gl F y))
   match Nat.beq T T'&&CP M (bZ Gl F x)&&CP M (bZ Gl F y)&&!qO (yV (bZ Gl F x)),nj P (aa (mK M κ)) nx T (yV (bZ Gl F x)) (yV (bZ Gl F y))with
   |true,some (pr,_,_)=>some (CO κ (λk=>Ix (aa M k).b)/\pr,κ)
   |_,_=>none
  |_,_=>none
theorem wJ: ∀{l r:List Nat} {k:Nat},k∈pV l r↔k∈l\/k∈r
  | [],r,k=>by simp[pV]
  |i::l,r,k=>by
   unfold pV
   split
   · next h=>
     rw[wJ,List.mem_cons]
     constructor
     · rintro (h|h)
       · exact .inl (.inr h)
       · exact .inr h
     · rintro ((h'|h')|h')
       · subst h';exact .inr (fv.1 h)
       · exact .inl h'
       · exact .inr h'
   · rw[List.mem_cons,wJ,List.mem_cons,or_assoc]
section
variable {P:Program} {sg:Bool} {Gl:Nat->SV} {Γ:Table} {N:Nat} {F:Fr} {M:Mem} {a:Act} {w:World} {ω:Ow}
noncomputable def Ow.only (ω:Ow) (M:Mem) (κ:List Nat):Ow:=⟨λb=>ω.A b/\ ∃k∈κ,∃p L,ω.β k p=some L/\L.b=b,ω.Z,λk p=>if k∈κ/\lr M k p=true then ω.β k p else none,cG (mK M κ)⟩
theorem sV {κ:List Nat} {k:Nat} {p:Path} (h:k∈κ) (hp:lr M k p=true):(ω.only M κ).β k p=ω.β k p:=if_pos ⟨h,hp⟩
theorem sM {κ:List Nat} {k:Nat} {p:Path} {L:Loc} (h:(ω.only M κ).β k p=some L):k∈κ/\ω.β k p=some L/\lr M k p=true:=by
  by_cases hk:k∈κ/\lr M k p=true
  · exact⟨hk.1,by rwa [sV hk.1 hk.2]at h,hk.2⟩
  · have h:(if k∈κ/\lr M k p=true then ω.β k p else none)=some L:=h
    rw[if_neg hk]at h;cases h
theorem NV {k:Nat}:lr M k none=true:=rfl
theorem vG {κ:List Nat}:Ext w ω.bare w (ω.only M κ).bare:=⟨rfl,rfl,rfl,λ_ _ _=>rfl,λ_ _ h h'=>h h'.1,λ_ _ _ h=>h,Nat.le_refl _,λ_=>⟨Nat.le_refl _,Nat.le_refl _⟩,λ_ _ _ h _=>h,λ_ h=>h⟩
theorem Ah {κ:List Nat} {s:SV} {x:Value} (hs:Bp s=true) (h:Den w ω s x):Den w (ω.only M κ) s x:=by
  cases s with
  |aq=>trivial
  |v y=>exact h
  |bl y=>exact h
  |es=>exact h
  |sl q sz n f=>exact Den.ext (o:=ω.bare) (o':=(ω.only M κ).bare) (s:= .sl q sz n f) vG h
  |pt q n f=>exact Den.ext (o:=ω.bare) (o':=(ω.only M κ).bare) (s:= .pt q n f) vG h
  |pa q sz n f=>exact Den.ext (o:=ω.bare) (o':=(ω.only M κ).bare) (s:= .pa q sz n f) vG h
  |er t tf e z=>exact Den.ext (o:=ω.bare) (o':=(ω.only M κ).bare) (s:= .er t tf e z) vG h
  |_=>cases hs
theorem Hb (hm:ay w ω M) {κ:List Nat} {k:Nat} {p:Path} (hk:k∈κ):st (ω.only M κ).cur k p=st ω.cur k p:=by
  rw[hm.cur]
  cases p with
  |none=>show(aa (mK M κ) k).rs=(aa M k).rs;rw[oG hk]
  |some _=>show(aa (mK M κ) k).ds=(aa M k).ds;rw[oG hk]
theorem Hc (hm:ay w ω M) {κ:List Nat} {s:SV} {x:Value} (qc: ∀k∈qR s,k∈κ) (ho:CP M s=true) (h:Den w ω s x):Den w (ω.only M κ) (yV s) x:=by
  cases s with
  |aw k st p e n=>
   have hk:k∈κ:=qc k (by simp[qR])
   rcases h with h|⟨J,q,cap,U,h3,h4,h5⟩
   · exact .inl (by rw[Hb hm hk];exact h)
   · exact .inr ⟨by rw[Hb hm hk];exact J,q,cap,U,h3,h4,by rw[sV hk ho];exact h5⟩
  |v y=>exact h
  |bl y=>exact h
  |es=>exact h
  |sl q sz n f=>exact Ah (s:= .sl q sz n f) rfl h
  |_=>trivial
theorem ay.only (hm:ay w ω M) {κ:List Nat} (hp: ∀k∈κ,Ix (aa M k).b):ay w (ω.only M κ) (mK M κ):=by
  refine⟨rfl,λb ⟨k,p,L,h,e⟩=>?_,λb h=>hm.dg b h.1,λb h=>hm.dj b h.1,hm.ed,λk p L k' p' L' h h' e=>hm.inj k p L k' p' L' (sM h).2.1 (sM h').2.1 e,λk p L h=>hm.low k p L (sM h).2.1,λk p L h=>?_,λk l h=>?_,λk i j h=>?_⟩
  · obtain⟨hk,h,_⟩:=sM h
    exact⟨hm.own b ⟨k,p,L,h,e⟩,k,hk,p,L,h,e⟩
  · obtain⟨hk,h,aZ⟩:=sM h
    obtain⟨r,g1,g2,g3,c,T,g4,g5,g6,g7⟩:=hm.row k p L h
    have pW:=hp k hk
    refine⟨r,by unfold rowAt;rw[oG hk];exact g1,g2,g3,c,T,g4,g5,g6,λi hi j hj=>?_⟩
    obtain⟨x,x1,x2⟩:=g7 i hi j hj
    refine⟨x,x1,?_⟩
    rw[oG hk]
    unfold rowAt at g1
    cases hb:(aa M k).b with
    |dead=>rw[hb]at pW;exact pW.elim
    |cells l=>rw[hb]at pW;exact pW.elim
    |row sz n f=>
     rw[hb]at pW g1
     cases p with
     |none=>
      obtain rfl:=Option.some.inj g1
      have gZ:j<sz:=by have:sz=L.sz:=g2
                       omega
      have fH:=iW (pW i) j gZ
      have x2:bW w ω (aa M k).hl k i j (f i j) x:=x2
      show bW w (ω.only M κ) (aa M k).hl k i j (f i j) x
      cases cu:bY (f i j)with
      |false=>
       rw[dO cu]at*
       refine Ah ?_ x2
       revert fH cu
       generalize f i j=s
       intro fH cu
       cases s<;>first|exact fH|cases cu
      |true=>
       revert x2 cu
       generalize f i j=s
       intro x2 cu
       cases s with
       |il aR n2 g=>
        rcases x2 with x2|⟨⟨q,cap,y1,y2,y3,y4⟩,y5⟩
        · exact .inl x2
        · have Kz:lr M k (some (i,j))=true:=by unfold lr;rw[hb];exact Nat.ble_eq_true_of_le gZ
          exact .inr ⟨⟨q,cap,y1,y2,y3,by rw[sV hk Kz];exact y4⟩,λL' dS=>y5 L' (by rw[sV hk Kz]at dS;exact dS)⟩
       |_=>cases cu
     |some ij=>
      obtain⟨i0,j0⟩:=ij
      have g1:inner ⟨sz,n,f⟩ i0 j0=some r:=g1
      have pL:j0<sz:=by unfold lr at aZ;rw[hb]at aZ;exact Nat.le_of_ble_eq_true aZ
      have fH:=iW (pW i0) j0 pL
      have x2:Den w ω (r.f i j) x:=x2
      show Den w (ω.only M κ) (r.f i j) x
      unfold inner at g1
      simp only at g1
      revert g1 fH
      generalize f i0 j0=s
      intro g1 fH
      cases s with
      |il aR n2 g=>
       obtain rfl:=Option.some.inj g1
       have Dn:j<aR:=by have:aR=L.sz:=g2
                        omega
       exact Ah (iW (fH i) j Dn) x2
      |_=>cases g1
  · by_cases hk:k∈κ
    · rw[oG hk]at h
      obtain⟨L,hL⟩:=hm.live k l h
      exact⟨L,by rw[sV hk NV];exact hL⟩
    · rw[zH hk]at h;cases h
  · by_cases hk:k∈κ
    · rw[oG hk]at h
      show(if k∈κ/\lr M k (some (i,j))=true then ω.β k (some (i,j))else none)=none
      split
      · exact hm.dh k i j h
      · rfl
    · rw[zH hk]at h;cases h
theorem NW (h:St P Gl N F M a w ω) {nx:Nat} {o:Oper} {pr:Prop} {κ:List Nat} (he:wV P Gl F M nx o=some (pr,κ)) (hp:pr):
    o.guard=none/\(∀cs b,o.op≠ .select cs b)/\ ∃n v w',(execOp a.eval o).run P w= .ok n w'/\(n= .value v\/(n= .skip/\v=undef))/\ ∀b,b<w.heap.size->(∀k∈κ,∀p L,ω.β k p=some L->L.b≠b)->w'.heap[b]? =w.heap[b]? :=by
  unfold wV at he
  split at he
  · next x y T T' hg ho=>
    refine⟨hg,(λcs b e=>by rw[ho]at e;cases e),?_⟩
    simp only at he
    split at he
    · next La s u hT rA=>
      rw[Bool.and_eq_true,Bool.and_eq_true,Bool.and_eq_true]at hT
      obtain⟨⟨⟨hT,o1⟩,o2⟩,o3⟩:=hT
      obtain rfl:=Nat.eq_of_beq_eq_true hT
      obtain⟨rfl,rfl⟩:=Prod.mk.inj (Option.some.inj he)
      generalize qc:pV (qR (bZ Gl F x)) (qR (bZ Gl F y))=κ at*
      have t1:=h.mem.only (κ:=κ) (FV hp.1)
      have hx:=Hc h.mem (κ:=κ) (λk hk=>by rw[<-qc];exact wJ.2 (.inl hk)) o1 (h.frame.bZ h.de x)
      have hy:=Hc h.mem (κ:=κ) (λk hk=>by rw[<-qc];exact wJ.2 (.inr hk)) o2 (h.frame.bZ h.de y)
      obtain⟨n,v,w',ah,g1,g2,g3,_⟩:=LA (P:=P) (a:=a) t1 hx hy ho (by simpa using o3) rA hp.2
      refine⟨n,v,w',g1,g2,λb hb cd=>g3.ext.same b hb λhA=>?_⟩
      obtain⟨_,k,hk,p,L,hL,UE⟩:=hA
      exact cd k hk p L hL UE
    · cases he
  · cases he
end
section
variable {P:Program} {sg:Bool} {Gl:Nat->SV} {Γ:Table} {N:Nat} {ops:Array Oper} {PR:Nat->List Nat} {m:Nat} {rs:List Rc} {F F0:Fr} {M:Mem} {cC wr:Nat->Bool}
variable {a0 a:Act} {w0 w:World} {aN ω:Ow} {D:Nat->Prop}
structure yJ (P:Program) (Gl:Nat->SV) (N:Nat) (ops:Array Oper) (PR:Nat->List Nat) (m:Nat) (rs:List Rc) (F0:Fr) (M:Mem) (cC:Nat->Bool) (KQ:List Nat) (oB:Oper):Prop where
  at_:ops[m]? =some oB
  DF: ∀j o,j<m->ops[j]? =some o->j∉PR m->cC j=false-> ∃p ko,ny P Gl (vF rs F0 (PR j)) (vM rs M (PR j)) o=some (p,ko)/\p/\ ∀k,ko=some k->k∈KQ
  DG: ∃nx pr κ,wV P Gl (vF rs F0 (PR m)) (vM rs M (PR m)) nx oB=some (pr,κ)/\pr/\ ∀k∈κ,k∉KQ
  key: ∀k∈KQ,bR (aa M) k=false/\ ∀j,k∉keys rs j
  dK:Region.noSelect ops=true
  ap: ∀j o,j<m->ops[j]? =some o->j∉PR m->o.apart ops oB=true
  low: ∀j∈PR m,j<m
def SQ (KQ:List Nat) (aN:Ow) (w w':World):Prop:= ∀k∈KQ,∀L,aN.β k none=some L->w'.heap[L.b]? =w.heap[L.b]?
theorem NX (S:gY P sg Gl Γ N ops PR m rs F F0 M cC wr) (hm:ay w0 aN M) (hF:cW w0 aN N F a0.tmps) (hG: ∀g,Den w0 aN.bare (Gl g) (.pointer (some ⟨g,0,none⟩))) {KQ:List Nat} {oB:Oper} (B:yJ P Gl N ops PR m rs F0 M cC KQ oB)
    (I:Inv ops PR m rs M N a0 w0 aN D a w ω) {j:Nat} {o:Oper} (hj:j<m) (ho:ops[j]? =some o) (gn:j∉PR m) (eZ: ∀i∈PR j,D i):
    o.guard=none/\ ∃v,∀w',SQ KQ aN w w'->(execOp a.eval o).run P w'= .ok (.value v) w':=by
  obtain⟨g1,g2,g3⟩:=I.all S hm hF eZ (λi hi=>S.closed j i hi)
  cases hr:cC j with
  |true=>
   obtain⟨hg,s,_,he⟩:=S.C' j o hj ho hr
   obtain⟨v,J,_⟩:=A6 g1 g2 he
   exact⟨hg,v,λw' _=>J w'⟩
  |false=>
   obtain⟨p,ko,he,hp,hk⟩:=B.DF j o hj ho gn hr
   have bc:St P Gl N (vF rs F0 (PR j)) (vM rs M (PR j)) a w (cf rs M ω (PR j)):=⟨g2,λg=>Den.ext (o:=aN.bare) (I.mQ S hm (PR j)).bare (hG g),g1,I.defers⟩
   obtain⟨hg,v,J⟩:=FU bc he hp
   refine⟨hg,v,λw' hs=>J w' λk uO L hL=>?_⟩
   obtain⟨_,dS⟩:=nt hL
   have hf:=(B.key k (hk k uO)).1
   rw[I.kB k none (λ_ _ _=>hf)]at dS
   exact hs k (hk k uO) L dS
theorem Iw {oB o:Oper} (je: ∀(j:Nat) (o:Oper) cs b,ops[j]? =some o->o.op≠ .select cs b) {j:Nat} (ho:ops[j]? =some o) (pT:o.apart ops oB=true) (v:Value):execOp (a.put oB.dst v).eval o=execOp a.eval o:=by
  obtain⟨_,_,h3⟩:=Oper.apart_spec pT
  exact execOp_put o (λcs b=>je j o cs b ho) a oB.dst v h3
theorem UG (hS:Sound P Gl Γ) (S:gY P sg Gl Γ N ops PR m rs F F0 M cC wr) (hT: ∀i,m<i->i<ops.size-> ∀j,j<i->j∈PR i) (hm:ay w0 aN M) (hF:cW w0 aN N F a0.tmps) (hG: ∀g,Den w0 aN.bare (Gl g) (.pointer (some ⟨g,0,none⟩))) {Q:Exit->Act->World->Prop} (gB: ∀d c a v w,Q (.panic c) (Act.put a d v) w->Q (.panic c) a w)
    {KQ:List Nat} {oB:Oper} (B:yJ P Gl N ops PR m rs F0 M cC KQ oB) (jl:oB.guard=none)
    (lM: ∀a w ω,Inv ops PR m rs M N a0 w0 aN (λj=>j<m) a w ω->wpList P ops Q (ops.toList.drop m) a w):
    ∀(fuel:Nat) (listed:Array Bool) (a:Act) (w:World) (ω:Ow) (n:Next) (v:Value) (w':World),listed.size=ops.size->iN ops.size (listed.setIfInBounds m true)<=fuel->Inv ops PR m rs M N a0 w0 aN (λj=>listed.getD j false=true) a w ω->(∀j∈PR m,listed.getD j false=true)->
     (execOp a.eval oB).run P w= .ok n w'->(n= .value v\/(n= .skip/\v=undef))-> ¬(oB.asks P a w/\LetsOut Q)->SQ KQ aN w w'->wpAny P .any ops Q fuel (listed.setIfInBounds m true) (a.put oB.dst v) w':=by
  have lj:m<ops.size:=(Array.getElem?_eq_some_iff.1 B.at_).1
  have je:=Region.noSelect_spec B.dK
  have fin: ∀(fuel:Nat) (listed:Array Bool) (a:Act) (w:World) (ω:Ow) (n:Next) (v:Value) (w':World),listed.size=ops.size->iN ops.size (listed.setIfInBounds m true)<=fuel->Inv ops PR m rs M N a0 w0 aN (λj=>listed.getD j false=true) a w ω->
   (execOp a.eval oB).run P w= .ok n w'->(n= .value v\/(n= .skip/\v=undef))-> ¬(oB.asks P a w/\LetsOut Q)->(∀j,j<m->listed.getD j false=true)->wpAny P .any ops Q fuel (listed.setIfInBounds m true) (a.put oB.dst v) w':=by
    intro fuel listed a w ω n v w' hs hu I eI hn rJ fQ
    have hD:(λj=>listed.getD j false=true)=(λj=>j<m):=by
      funext j
      exact propext ⟨I.low j,fQ j⟩
    have I':=I
    rw[hD]at I'
    have hl:=lM a w ω I'
    have BO:ops.toList.drop m=oB::ops.toList.drop (m+1):=by
      have gZ:m<ops.toList.length:=by simpa using lj
      rw[List.drop_eq_getElem_cons gZ]
      congr 1
      have:=(Array.getElem?_eq_some_iff.1 B.at_).2
      simpa using this
    rw[BO]at hl
    unfold wpList at hl
    have hw:Region.wanted oB (yielded ops a.tmps)=true:=by simp[Region.wanted,jl]
    rw[if_pos hw]at hl
    have hl:=hl.resolve_right rJ
    have uP:wpList P ops Q (ops.toList.drop (m+1)) (a.put oB.dst v) w':=by
      unfold Oper.wp at hl
      rw[eI]at hl
      rcases hn with rfl|⟨rfl,rfl⟩
      · exact hl
      · exact hl
    refine wD S (m+1) (λi J U j h3 h4=>hT i (by omega) U j h3) fuel (m+1) _ _ _ (by simpa using hs) (λj hj=>?_) (Nat.le_refl _) lj hu uP
    by_cases e:m=j
    · subst e
      have:(listed.setIfInBounds m true).getD m false=true:=by simp[Array.getD,hs,hj]
      rw[this];simp
    · rw[getD_set_ne false e]
      constructor
      · intro h;have:=I.low j h;omega
      · intro h;exact fQ j (by omega)
  intro fuel
  induction fuel with
  |zero=>
   intro listed a w ω n v w' hs hu I iP eI hn rJ pU
   refine fin 0 listed a w ω n v w' hs hu I eI hn rJ λj hj=>?_
   cases hx:listed.getD j false with
   |true=>rfl
   |false=>
    have J:(listed.setIfInBounds m true).getD j true=false:=by
      rw[getD_set_ne true (by omega),getD_eq (by omega) true false];exact hx
    have:=qu (show j<ops.size by omega) J
    omega
  |succ fuel ih=>
   intro listed a w ω n v w' hs hu I iP eI hn rJ pU
   by_cases fQ: ∀j,j<m->listed.getD j false=true
   · exact fin _ listed a w ω n v w' hs hu I eI hn rJ fQ
   have first: ∃j,j<m/\listed.getD j false=false/\j∈Region.ready .any ops listed:=by
     refine Classical.byContradiction λcd=>?_
     have: ∀n,∀j,j<n->j<m->listed.getD j false=true:=by
       intro n
       induction n with
       |zero=>intro j hj;omega
       |succ n mY=>
        intro j hj gn
        cases hx:listed.getD j false with
        |true=>rfl
        |false=>
         exfalso
         have aS:j<ops.size:=by omega
         refine cd ⟨j,gn,hx,mem_ready.2 ⟨by rw[getD_eq (by omega) true false];exact hx,ops[j],Array.getElem?_eq_getElem aS,λe he hb=>?_⟩⟩
         have hd:=S.pI j _ (Array.getElem?_eq_getElem aS) e he hb
         exact mY e.on (by omega) (by omega)
     exact fQ λj hj=>this (j+1) j (Nat.lt_succ_self j) hj
   have jS:listed.getD m false=false:=by
     cases hx:listed.getD m false with
     |false=>rfl
     |true=>exact absurd (I.low m hx) (Nat.lt_irrefl _)
   refine⟨λhr=>?_,λi hi=>?_⟩
   · obtain⟨j,hj,_,ll⟩:=first
     have:=ready_mono (i:=m) ll (by omega)
     rw[hr]at this
     simp at this
   · obtain⟨J,o,U,h3⟩:=mem_ready.1 hi
     have bo:=(Array.getElem?_eq_some_iff.1 U).1
     have CN:m≠i:=λe=>by
       subst e
       simp[Array.getD,hs,bo]at J
     have pS:listed.getD i false=false:=by
       rw[getD_set_ne true CN,getD_eq (by omega) true false]at J;exact J
     have t_: ∀x∈PR i,x=m\/listed.getD x false=true:=by
       intro x hx
       obtain⟨e,he,hb,cK⟩:=S.dep i o U x hx
       have fm:=h3 e he hb
       by_cases em:m=e.on
       · rcases cK with rfl|cK
         · exact .inl em.symm
         · exact .inr (iP x (em▸cK))
       · rw[getD_set_ne false em]at fm
         rcases cK with rfl|cK
         · exact .inr fm
         · exact .inr (I.dB _ fm x cK)
     have fp:i<m:=by
       rcases Nat.lt_or_ge i m with h|h
       · exact h
       · exfalso
         obtain⟨j,hj,mZ,_⟩:=first
         rcases t_ j (hT i (by omega) bo j (by omega))with h|h
         · omega
         · rw[h]at mZ;cases mZ
     have eZ: ∀x∈PR i,listed.getD x false=true:=λx hx=>(t_ x hx).resolve_left λe=>by have:=S.lt i x hx;omega
     have pC:i∉PR m:=λh=>by rw[iP i h]at pS;cases pS
     obtain⟨hg,vi,hv⟩:=NX S hm hF hG B I fp U pC eZ
     have pT:=B.ap i o fp U pC
     obtain⟨p1,p2,p3⟩:=Oper.apart_spec pT
     have eB:execOp (a.put o.dst vi).eval oB=execOp a.eval oB:=execOp_put oB (λcs b=>je m oB cs b B.at_) a o.dst vi p1
     have ei:execOp (a.put oB.dst v).eval o=execOp a.eval o:=Iw je U pT v
     have dF: ¬listed.getD i false=true:=by rw[pS];simp
     have hI: ∃ah,Inv ops PR m rs M N a0 w0 aN (λj=>listed.getD j false=true\/j=i) (a.put o.dst vi) w ah:=by
       have h:=I.step (Q:=λ_ _ _=>False) (K:=λa' w'=> ∃ah,Inv ops PR m rs M N a0 w0 aN (λj=>listed.getD j false=true\/j=i) a' w' ah) hS S hm hF hG fp U dF eZ (λa' w' ah I'=>⟨ah,I'⟩)
       unfold wpOp at h
       rw[U]at h
       simp only at h
       rw[if_pos (by simp[Region.wanted,hg])]at h
       rcases h with h|⟨_,_,_,h⟩
       · unfold Oper.wp at h
         rw[hv w (λ_ _ _ _=>rfl)]at h
         exact h
       · exact h.elim
     obtain⟨ah,I'⟩:=hI
     have iL:(λj=>(listed.setIfInBounds i true).getD j false=true)=(λj=>listed.getD j false=true\/j=i):=by
       funext j
       refine propext ⟨λh=>?_,λh=>?_⟩
       · by_cases e:i=j
         · exact .inr e.symm
         · rw[getD_set_ne false e]at h;exact .inl h
       · rcases h with h|rfl
         · exact getD_set_true h
         · simp[Array.getD,hs,bo]
     have tC:(listed.setIfInBounds m true).setIfInBounds i true=(listed.setIfInBounds i true).setIfInBounds m true:=Array.setIfInBounds_comm _ _ (by omega)
     unfold wpOp
     rw[U]
     simp only
     rw[if_pos (by simp[Region.wanted,hg])]
     left
     unfold Oper.wp
     rw[ei,hv w' pU]
     show wpAny P .any ops Q fuel ((listed.setIfInBounds m true).setIfInBounds i true) ((a.put oB.dst v).put o.dst vi) w'
     rw[tC,<-Act.put_comm a vi v p2]
     refine ih (listed.setIfInBounds i true) (a.put o.dst vi) w ah n v w' (by simpa using hs) ?_ (by rw[iL];exact I') (λj hj=>getD_set_true (iP j hj)) (by rw[eB];exact eI) hn ?_ pU
     · rw[<-tC]
       have:=oI (listed:=listed.setIfInBounds m true) bo (by simpa using hs) J
       omega
     · rintro ⟨g1,g2⟩
       refine rJ ⟨?_,g2⟩
       unfold Oper.asks at*
       rw[eB]at g1
       exact g1
theorem O3 (hS:Sound P Gl Γ) (S:gY P sg Gl Γ N ops PR m rs F F0 M cC wr) (hT: ∀i,m<i->i<ops.size-> ∀j,j<i->j∈PR i) (hm:ay w0 aN M) (hF:cW w0 aN N F a0.tmps) (hG: ∀g,Den w0 aN.bare (Gl g) (.pointer (some ⟨g,0,none⟩))) {Q:Exit->Act->World->Prop} (gB: ∀d c a v w,Q (.panic c) (Act.put a d v) w->Q (.panic c) a w)
    {KQ:List Nat} {oB:Oper} (B:yJ P Gl N ops PR m rs F0 M cC KQ oB)
    (lM: ∀a w ω,Inv ops PR m rs M N a0 w0 aN (λj=>j<m) a w ω->wpList P ops Q (ops.toList.drop m) a w):
    ∀(fuel:Nat) (listed:Array Bool) (a:Act) (w:World) (ω:Ow),listed.size=ops.size->iN ops.size listed<=fuel->Inv ops PR m rs M N a0 w0 aN (λj=>listed.getD j false=true) a w ω->wpAny P .any ops Q fuel listed a w:=by
  have lj:m<ops.size:=(Array.getElem?_eq_some_iff.1 B.at_).1
  intro fuel
  induction fuel with
  |zero=>
   intro listed a w ω hs hu I
   exfalso
   have jS:listed.getD m true=false:=by
     cases hx:listed.getD m false with
     |false=>rw[getD_eq (by omega) true false];exact hx
     |true=>exact absurd (I.low m hx) (Nat.lt_irrefl _)
   have:=qu lj jS
   omega
  |succ fuel ih=>
   intro listed a w ω hs hu I
   have jS:listed.getD m false=false:=by
     cases hx:listed.getD m false with
     |false=>rfl
     |true=>exact absurd (I.low m hx) (Nat.lt_irrefl _)
   have j5: ∀i,i∈Region.ready .any ops listed-> ∀x∈PR i,listed.getD x false=true:=by
     intro i hi x hx
     obtain⟨J,o,U,h3⟩:=mem_ready.1 hi
     obtain⟨e,he,hb,cK⟩:=S.dep i o U x hx
     have fm:=h3 e he hb
     rcases cK with rfl|cK
     · exact fm
     · exact I.dB _ fm x cK
   refine⟨λhr=>?_,λi hi=>?_⟩
   · exfalso
     have: ∀n,∀j,j<n->j<ops.size->listed.getD j false=true:=by
       intro n
       induction n with
       |zero=>intro j hj;omega
       |succ n mY=>
        intro j hj aS
        cases hx:listed.getD j false with
        |true=>rfl
        |false=>
         exfalso
         have:j∈Region.ready .any ops listed:=mem_ready.2 ⟨by rw[getD_eq (by omega) true false];exact hx,ops[j],Array.getElem?_eq_getElem aS,λe he hb=>by
           have hd:=S.pI j _ (Array.getElem?_eq_getElem aS) e he hb
           exact mY e.on (by omega) (by omega)⟩
         rw[hr]at this
         simp at this
     rw[this (m+1) m (Nat.lt_succ_self m) lj]at jS
     cases jS
   · obtain⟨J,o,U,h3⟩:=mem_ready.1 hi
     have bo:=(Array.getElem?_eq_some_iff.1 U).1
     have dF: ¬listed.getD i false=true:=by
       rw[getD_eq (by omega) false true,J];simp
     have iL:(λj=>(listed.setIfInBounds i true).getD j false=true)=(λj=>listed.getD j false=true\/j=i):=by
       funext j
       refine propext ⟨λh=>?_,λh=>?_⟩
       · by_cases e:i=j
         · exact .inr e.symm
         · rw[getD_set_ne false e]at h;exact .inl h
       · rcases h with h|rfl
         · exact getD_set_true h
         · simp[Array.getD,hs,bo]
     have CZ:=oI bo hs J
     rcases Nat.lt_trichotomy i m with fp|fp|fp
     · refine I.step hS S hm hF hG fp U dF (j5 i hi) λa' w' ah I'=>ih _ a' w' ah (by simpa using hs) (by omega) ?_
       rw[iL];exact I'
     · subst fp
       obtain rfl:o=oB:=Option.some.inj (U.symm.trans B.at_)
       have iP:=j5 i hi
       obtain⟨g1,g2,g3⟩:=I.all S hm hF iP (λj hj=>S.closed i j hj)
       have bc:St P Gl N (vF rs F0 (PR i)) (vM rs M (PR i)) a w (cf rs M ω (PR i)):=⟨g2,λg=>Den.ext (o:=aN.bare) (I.mQ S hm (PR i)).bare (hG g),g1,I.defers⟩
       obtain⟨nx,pr,κ,he,hp,qc⟩:=B.DG
       obtain⟨hg,_,n,v,w',eI,hn,tB⟩:=NW bc he hp
       unfold wpOp
       rw[U]
       simp only
       rw[if_pos (by simp[Region.wanted,hg])]
       by_cases KA:o.asks P a w/\LetsOut Q
       · exact .inr KA
       left
       have pU:SQ KQ aN w w':=by
         intro k hk L hL
         obtain⟨hf,cd⟩:=B.key k hk
         have nY:(cf rs M ω (PR i)).β k none=some L:=by
           rw[sub_eq (λh=>by have:=h.1;rw[hf]at this;cases this),I.kB k none (λ_ _ _=>hf)];exact hL
         refine tB L.b (g1.low _ _ _ nY) λk' eD p L' dS e=>?_
         obtain⟨rfl,_⟩:=g1.inj _ _ _ _ _ _ dS nY e
         exact qc _ eD hk
       have:=UG hS S hT hm hF hG gB B hg lM fuel listed a w ω n v w' hs (by omega) I iP eI hn KA pU
       unfold Oper.wp
       rw[eI]
       rcases hn with rfl|⟨rfl,rfl⟩
       · exact this
       · exact this
     · exfalso
       have:=j5 i hi m (hT i fp bo m fp)
       rw[jS]at this
       cases this
end
end Go.Sy
