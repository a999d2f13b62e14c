/-
  Sy: regions that draw their order: all orders.
-/
import Derived.Test.YthgmgkabnffniaaGreatDoorYE
set_option linter.unusedVariables false
set_option linter.unusedSimpArgs false
namespace Go.Sy
open Go.RowKit Classical
def keys (rs:List Rc) (j:Nat):List Nat:=(cv rs j).u.map (·.1)
def hH (rs:List Rc) (M:Mem) (E:List Nat) (k:Nat):Prop:=cC (ae M) k=true/\(∃j,k∈keys rs j)/\¬ ∃j∈E,k∈keys rs j
noncomputable def dd (rs:List Rc) (M:Mem) (ω:Ow) (E:List Nat):Ow:=⟨ω.A,ω.Z,λk p=>if hH rs M E k then none else ω.β k p,ω.cur⟩
def Sr (M:Mem) (e:bw) (k:Nat):Prop:=∃r d n l,ae M k=⟨r,d,none,.cells (mF n)⟩/\l.length=n/\e=⟨r,d,none,.cells l⟩
def rv (bu:Ow) (W:Nat->Prop) (w0 w:World):Prop:=w.os=w0.os/\w.tape=w0.tape/\w.output=w0.output/\w0.heap.size<=w.heap.size/\
 ∀b,b<w0.heap.size->(∀k,W k->∀L,bu.β k none=some L->L.b≠b)->w.heap[b]? =w0.heap[b]?
def Wr (rs:List Rc) (M:Mem) (D:Nat->Prop) (k:Nat):Prop:=cC (ae M) k=false/\∃j,D j/\k∈keys rs j
def jc (ops:Array Oper) (i:Nat):Option Nat:=(ops[i]?).bind (·.dst)
theorem Cv {k:Nat}:∀{u:bf} {M:Mem},k∈u.map (·.1)->ae (u++M) k=ae u k
 | [],_,h=>by simp at h
 |p::r,M,h=>by
  by_cases b:p.1=k
  ·obtain⟨p1,c⟩:=p;subst b;rw[pH,dk,dk]
  ·obtain⟨p1,c⟩:=p;rw[pH,cF b,cF b];refine Cv ?_;simp only[mA,eG]at h;exact h.resolve_left (λe=>b e.symm)
theorem yE {k:Nat}:∀{u:bf} {M:Mem},k∉u.map (·.1)->ae (u++M) k=ae M k
 | [],_,_=>rfl
 |p::r,M,h=>by obtain⟨p1,b⟩:=p;simp only[mA,eG,not_or]at h;rw[pH,cF (cA h.1)];exact yE h.2
theorem BY {rs:List Rc} {M:Mem} {j:Nat} {E:List Nat}:vM rs M (j::E)=(cv rs j).u++vM rs M E:=by simp[vM]
theorem pw {rs:List Rc} {M:Mem} {k:Nat}:∀{E:List Nat},(∀j∈E,k∉keys rs j)->ae (vM rs M E) k=ae M k
 | [],_=>rfl
 |j::E,h=>by rw[BY,yE (h j (by simp))];exact pw λi b=>h i (by simp[b])
theorem vY {rs:List Rc} {M:Mem} {k j:Nat} (hd:∀i j,k∈keys rs i->k∈keys rs j->i=j) (c:k∈keys rs j):∀{E:List Nat},j∈E->ae (vM rs M E) k=ae (cv rs j).u k
 | [],h=>by simp at h
 |i::E,h=>by
  rw[BY];by_cases b:k∈keys rs i
  ·obtain rfl:=hd i j b c;exact Cv b
  ·rw[yE b];rcases eG.1 h with rfl|h
   ·exact absurd c b
   ·exact vY hd c h
structure jk (P:Program) (sg:Bool) (Gl:Nat->SV) (Γ:Table) (N:Nat) (ops:Array Oper) (PR:Nat->List Nat) (m:Nat) (rs:List Rc) (F F0:Fr) (M:Mem) (cS wr:Nat->Bool):Prop where
 dep:∀i o,ops[i]? =some o->∀x∈PR i,∃e∈o.after,Region.binds .any e=true/\(x=e.on\/x∈PR e.on)
 closed:∀i j,j∈PR i->∀k∈PR j,k∈PR i
 lt:∀i j,j∈PR i->j<i
 tY:∀i o,ops[i]? =some o->∀e∈o.after,Region.binds .any e=true->e.on<i
 le:m<=ops.size
 ev:∀i o,i<m->ops[i]? =some o->cS i=false->wr i=false->∃nx p,pR P sg Gl Γ N ops.toList (vF rs F0 (PR i)) (vM rs M (PR i)) (vH rs (PR i)) nx (PR i) o=some (p,cv rs i)/\p
 evw:∀i o,i<m->ops[i]? =some o->cS i=false->wr i=true->o.dst=none/\(cv rs i).fs= []/\(cv rs i).hs= []/\∃k,evalW P Gl N ops.toList (vF rs F0 (PR i)) (vM rs M (PR i)) (vH rs (PR i)) o=some (k,(cv rs i).u)/\cC (ae M) k=false
 fr:∀i,wr i=false->∀k∈keys rs i,cC (ae M) k=true
 IF:∀i o,i<m->ops[i]? =some o->cS i=true->o.guard=none/\∃s,cv rs i=⟨gZ N o.dst s,[],[]⟩/\(rr P sg (vF rs F0 (PR i)) (ae (vM rs M (PR i))) o.op).run (λs'=>s'=s)
 apart:∀i oi,i<m->cS i=true->ops[i]? =some oi->∀j oj,ops[j]? =some oj->j≠i->j∉PR i->(∀e∈oj.after,Region.binds .any e=true->e.on≠i)->oi.apart ops oj=true
 fX:∀i,i<m->cS i=true->Region.noSelect ops=true
 fs:∀i p,p∈(cv rs i).fs->jc ops i=some p.1/\p.1<N
 hs:∀i h,h∈(cv rs i).hs->jc ops i=some h.slot/\∃g∈PR i,jc ops g=some h.d
 one:∀i j t,i<m->j<m->jc ops i=some t->jc ops j=some t->i=j
 key:∀i j k,k∈keys rs i->k∈keys rs j->i=j
 free:∀i k,k∈keys rs i->cC (ae M) k=true\/(cC (ae M) k=false/\Sr M (ae (cv rs i).u k) k)
 Sv:∀i k,k∈keys rs i->(ae (cv rs i).u k).rs=(ae M k).rs/\(ae (cv rs i).u k).ds=(ae M k).ds
 short:∀i,m<=i->cv rs i=⟨[],[],[]⟩
 base:∀t,look F0 t= .aI\/(look F0 t=look F t/\∀i,i<m->jc ops i≠some t)
 out:∀t,N<=t->look F0 t= .aI
structure Inv (ops:Array Oper) (PR:Nat->List Nat) (m:Nat) (rs:List Rc) (M:Mem) (N:Nat) (a0:Act) (w0:World) (bu:Ow) (D:Nat->Prop) (a:Act) (w:World) (ω:Ow):Prop where
 low:∀j,D j->j<m
 fc:∀j,D j->∀k∈PR j,D k
 cw:rv bu (Wr rs M D) w0 w
 ID:∀j k,k∈keys rs j->cC (ae M) k=false->∀L,bu.β k none=some L->∃c T,w.heap[L.b]? =some (Obj.cells c T (0,0))/\c.size=L.len
 A0:∀b,bu.A b->ω.A b
 ez:∀b,ω.A b->b<w.heap.size
 HE:∀b,b<w0.heap.size->¬bu.A b->¬ω.A b
 Z:ω.Z=bu.Z
 dj:∀b,ω.A b->¬ω.Z b
 cur:ω.cur=bu.cur
 na:∀k p,(∀j,D j->k∈keys rs j->cC (ae M) k=false)->ω.β k p=bu.β k p
 own:∀k p L,ω.β k p=some L->ω.A L.b
 inj:∀k p L k' p' L',ω.β k p=some L->ω.β k' p'=some L'->L.b=L'.b->k=k'/\p=p'
 defers:a.defers= []
 size:a.tmps.size=N
 keep:∀t,(∀j,D j->jc ops j≠some t)->a.tmps[t]? =a0.tmps[t]?
 tX:∀j,D j->aU w (dd rs M ω (j::PR j)) (vM rs M (j::PR j))/\zy w (dd rs M ω (j::PR j)) N a (cv rs j)
section
variable {P:Program} {sg:Bool} {Gl:Nat->SV} {Γ:Table} {N:Nat} {ops:Array Oper} {PR:Nat->List Nat} {m:Nat} {rs:List Rc} {F F0:Fr} {M:Mem} {cS wr:Nat->Bool}
variable {a0 a:Act} {w0 w:World} {bu ω:Ow} {D:Nat->Prop}
theorem sub_eq {E:List Nat} {k:Nat} {p:Path} (h:¬hH rs M E k):(dd rs M ω E).β k p=ω.β k p:=if_neg h
theorem yF {E:List Nat} {k:Nat} {p:Path} (h:hH rs M E k):(dd rs M ω E).β k p=none:=if_pos h
theorem FV {E e:List Nat} (h:∀j∈E,j∈e):Ext w (dd rs M ω E) w (dd rs M ω e):=
 ⟨rfl,rfl,rfl,λ_ _ _=>rfl,λ_ _ h=>h,λ_ _ _ h=>h,bc _,λ_=>⟨bc _,bc _⟩,λk p L b _=>by
   by_cases c:hH rs M E k
   ·rw[yF c]at b;cases b
   ·rw[sub_eq c]at b;rw[sub_eq]
    ·exact b
    ·rintro ⟨h0,h1,h2⟩;exact c ⟨h0,h1,λ⟨j,g,d⟩=>h2 ⟨j,h j g,d⟩⟩,λ_ h=>h⟩
theorem qy {E:List Nat} {k:Nat} {p:Path} {L:Loc} (h:(dd rs M ω E).β k p=some L):¬hH rs M E k/\ω.β k p=some L:=by
 by_cases b:hH rs M E k
 ·rw[yF b]at h;cases h
 ·exact⟨b,by rwa [sub_eq b]at h⟩
theorem Inv.p5 (S:jk P sg Gl Γ N ops PR m rs F F0 M cS wr) (hm:aU w0 bu M) (I:Inv ops PR m rs M N a0 w0 bu D a w ω) (E:List Nat):Ext w0 bu w (dd rs M ω E):=
 ⟨I.cw.1,I.cw.2.1,I.cw.2.2.1,λb j l=>I.cw.2.2.2.2 b j (λk _ L c e=>l (hm.own b ⟨k,none,L,c,e⟩)),I.HE,λb _ _ g i=>g (by rw[<-I.Z];exact i),I.cw.2.2.2.1,λk=>by rw[show(dd rs M ω E).cur=bu.cur from I.cur];exact⟨bc _,bc _⟩,λk p L c _=>by
   have d:cC (ae M) k=false:=by
    cases n:cC (ae M) k with
    |false=>rfl
    |true=>have:=(kC hm n).2.2 p;rw[this]at c;cases c
   rw[sub_eq (λh=>by have:=h.1;rw[d]at this;cases this),I.na k p (λ_ _ _=>d)];exact c,λb g=>by show ω.Z b;rw[I.Z];exact g⟩
theorem Inv.all (S:jk P sg Gl Γ N ops PR m rs F F0 M cS wr) (hm:aU w0 bu M) (hF:dV w0 bu N F a0.tmps) (I:Inv ops PR m rs M N a0 w0 bu D a w ω) {E:List Nat} (hE:∀j∈E,D j) (hc:∀j∈E,∀k∈PR j,k∈E):
 aU w (dd rs M ω E) (vM rs M E)/\dV w (dd rs M ω E) N (vF rs F0 E) a.tmps/\gO w (dd rs M ω E) N a (vH rs E):=by
 have e0:=I.p5 S hm E;have inc:∀{j},j∈E->∀i∈j::PR j,i∈E:=λd i hi=>by
  rcases eG.1 hi with rfl|hi
  ·exact d
  ·exact hc _ d _ hi
 have g:∀k,(∃j∈E,k∈keys rs j)\/(∀j∈E,k∉keys rs j):=λk=>by
  by_cases h:∃j∈E,k∈keys rs j
  ·exact .inl h
  ·exact .inr λj d x=>h ⟨j,d,x⟩
 have z:∀{j k},j∈E->k∈keys rs j->ae (vM rs M E) k=ae (vM rs M (j::PR j)) k:=λd x=>by rw[vY (λi j=>S.key i j _) x d,vY (λi j=>S.key i j _) x (by simp)]
 have v:∀{j k} {E':List Nat},j∈E'->k∈keys rs j->¬hH rs M E' k:=λd x h=>h.2.2 ⟨_,d,x⟩;refine⟨⟨?_,?_,I.ez,I.dj,?_,?_,?_,?_,?_,?_⟩,⟨I.size,?_,?_⟩,?_⟩
 ·show ω.cur=_;rw[I.cur,hm.cur];funext k;unfold dy;rcases g k with⟨j,d,x⟩|y
  ·rw[vY (λi j=>S.key i j _) x d,(S.Sv j k x).1,(S.Sv j k x).2]
  ·rw[pw y]
 ·rintro b ⟨k,p,L,h,rfl⟩;exact I.own _ _ _ (qy h).2
 ·intro b hz;have hz:ω.Z b:=hz;rw[I.Z]at hz;exact gg (hm.fS b hz) I.cw.2.2.2.1
 ·intro k p L k' p' L' h1 h2 e;exact I.inj _ _ _ _ _ _ (qy h1).2 (qy h2).2 e
 ·intro k p L h;exact I.ez _ (I.own _ _ _ (qy h).2)
 ·intro k p L h;obtain⟨W,R⟩:=qy h;rcases g k with⟨j,d,x⟩|y
  ·obtain⟨hmj,_⟩:=I.tX j (hE j d);obtain⟨r,K,g2,g3,g4⟩:=hmj.row k p L (by rw[sub_eq (v (by simp) x)];exact R);refine⟨r,by unfold rowAt at K⊢;rw[z d x];exact K,g2,g3,?_⟩;rw[z d x];exact g4.ext (FV (inc d)) rfl (λq=>by rw[sub_eq W,sub_eq (v (by simp) x)]) rfl
  ·have A:∀i,k∈keys rs i->cC (ae M) k=false:=λi B=>by
    cases Y:cC (ae M) k with
    |false=>rfl
    |true=>exact absurd ⟨Y,⟨i,B⟩,λ⟨j,d,x⟩=>y j d x⟩ W
   rw[I.na k p (λj _=>A j)]at R;obtain⟨r,K,g2,g3,g4⟩:=hm.row k p L R;refine⟨r,by unfold rowAt at K⊢;rw[pw y];exact K,g2,g3,?_⟩;rw[pw y];by_cases hW:∃i,k∈keys rs i
   ·obtain⟨i,B⟩:=hW;obtain⟨_,r0,d0,n,l',e1,e2,e3⟩:=(S.free i k B).resolve_left (by rw[A i B];simp);cases p with
    |some ij=>unfold rowAt at K;rw[e1]at K;cases K
    |none=>
     unfold rowAt at K;rw[e1]at K;obtain rfl:=aV K;obtain⟨c,T,h1,h2⟩:=I.ID i k B (A i B) L R;obtain⟨c0,T0,f1,f2,f3,f4⟩:=g4;refine⟨c,T,h1,h2,f3,λa ha b hb=>?_⟩;have jl:L.o+a*L.sz+b<c.size:=by have:=lG ha hb;omega
     exact⟨_,fR jl,by show cO _ _ _ _ _ _ (aN (mF n) b) _;rw[By];trivial⟩
   ·refine g4.ext e0 (by rw[show(dd rs M ω E).cur=bu.cur from I.cur]) (λq=>by rw[sub_eq W,I.na k q (λj _=>A j)]) (I.cw.2.2.2.2 _ (hm.low k p L R) ?_);rintro k' ⟨hf',j',Sw,xC⟩ L' Ag e;obtain⟨rfl,_⟩:=hm.inj _ _ _ _ _ _ Ag R e;exact hW ⟨j',xC⟩
 ·intro k l hl;rcases g k with⟨j,d,x⟩|y
  ·rw[z d x]at hl;obtain⟨L,R⟩:=(I.tX j (hE j d)).1.live k l hl;exact⟨L,by rw[sub_eq (v d x)];exact(qy R).2⟩
  ·rw[pw y]at hl;have Y:cC (ae M) k=false:=by unfold cC;rw[hl];rfl
   obtain⟨L,R⟩:=hm.live k l hl;exact⟨L,by rw[sub_eq (λh=>by have:=h.1;rw[Y]at this;cases this),I.na k none (λ_ _ _=>Y)];exact R⟩
 ·intro k i j X;by_cases U:hH rs M E k
  ·exact yF U
  rw[sub_eq U];rcases g k with⟨q,V,x⟩|y
  ·rw[z V x]at X;have:=(I.tX q (hE q V)).1.eE k i j X;rwa [sub_eq (v (by simp) x)]at this
  ·rw[pw y]at X;have Y:cC (ae M) k=false:=by unfold cC;rw[X];cases Ou (ae M k).b<;>rfl
   rw[I.na k _ (λ_ _ _=>Y)];exact hm.eE k i j X
 ·intro t u hu;have C:∀(l:List (Nat×SV)) (G:Fr),(∃s,(t,s)∈l/\look (l++G) t=s)\/((∀p∈l,p.1≠t)/\look (l++G) t=look G t):=by
   intro l G
   induction l with
   |nil=>exact .inr ⟨λp hp=>by simp at hp,rfl⟩
   |cons p r ih=>
    obtain⟨p1,p2⟩:=p;by_cases hp:p1=t
    ·subst hp;exact .inl ⟨p2,by simp,look_eq⟩
    ·rw[pH,pz hp];rcases ih with⟨s,h1,h2⟩|⟨h1,h2⟩
     ·exact .inl ⟨s,by simp[h1],h2⟩
     ·exact .inr ⟨λq V=>by rcases eG.1 V with rfl|V;exact hp;exact h1 q V,h2⟩
  show Den w _ (look (E.flatMap (λj=>(cv rs j).fs)++F0) t) u;rcases C (E.flatMap λj=>(cv rs j).fs) F0 with⟨s,h1,h2⟩|⟨h1,h2⟩
  ·rw[h2];obtain⟨j,d,O⟩:=GQ.1 h1;exact((I.tX j (hE j d)).2.1 (t,s) O u hu).ext (FV (inc d))
  ·rw[h2];rcases S.base t with e|⟨e,y⟩
   ·rw[e];trivial
   ·rw[e];refine(hF.den t u ?_).ext e0;rw[<-I.keep t λj d=>y j (I.low j d)];exact hu
 ·intro t ht;have J:∀(l:List (Nat×SV)) (G:Fr),(∀p∈l,p.1<N)->look (l++G) t=look G t:=by
   intro l G h
   induction l with
   |nil=>rfl
   |cons p r ih=>obtain⟨p1,p2⟩:=p;have:=h (p1,p2) (by simp);rw[pH,pz (by simp at this;omega)];exact ih λq V=>h q (by simp[V])
  show look (E.flatMap (λj=>(cv rs j).fs)++F0) t= .aI;rw[J _ _ λp hp=>by obtain⟨j,d,O⟩:=GQ.1 hp;exact(S.fs j p O).2]
  exact S.out t ht
 ·intro h X;obtain⟨j,d,O⟩:=GQ.1 X;exact(gO.ext (I.tX j (hE j d)).2.2 (FV (inc d))) h O
end
end Go.Sy
namespace Go.Sy
open Go.RowKit Classical
theorem Cw.trans {w w' c:World} (h:Cw w w') (k:Cw w' c):Cw w c:=
 ⟨k.1.trans h.1,k.2.1.trans h.2.1,k.2.2.1.trans h.2.2.1,ft h.2.2.2.1 k.2.2.2.1,λb d=>(k.2.2.2.2 b (gg d h.2.2.2.1)).trans (h.2.2.2.2 b d)⟩
theorem rv.cw {bu:Ow} {W W':Nat->Prop} {w0 w w':World} (h:rv bu W w0 w) (k:Cw w w') (d:∀q,W q->W' q):rv bu W' w0 w':=
 ⟨k.1.trans h.1,k.2.1.trans h.2.1,k.2.2.1.trans h.2.2.1,ft h.2.2.2.1 k.2.2.2.1,λb c e=>(k.2.2.2.2 b (gg c h.2.2.2.1)).trans (h.2.2.2.2 b c λq g=>e q (d q g))⟩
theorem rv.one {bu:Ow} {W W':Nat->Prop} {w0 w w':World} (h:rv bu W w0 w) {L:Loc} (k:One w w' L.b) (g:∀q,W q->W' q) {c:Nat} (h0:W' c) (i:bu.β c none=some L):rv bu W' w0 w':=
 ⟨k.1.trans h.1,k.2.1.trans h.2.1,k.2.2.1.trans h.2.2.1,by rw[k.2.2.2.1];exact h.2.2.2.1,λb j d=>(k.2.2.2.2 b (λe=>d c h0 L i e.symm)).trans (h.2.2.2.2 b j λq l=>d q (g q l))⟩
theorem aU.grow {w w':World} {o o':Ow} {M:Mem} (hm:aU w o M) (g:Cw w w') (u:Ext w o w' o') (c:∀k p,o'.β k p=o.β k p) (d:o'.cur=o.cur) (v:o'.Z=o.Z) (x:∀b,o.A b->o'.A b) (n:∀b,o'.A b->b<w'.heap.size) (t:∀b,o'.A b->¬o'.Z b):aU w' o' M where
 cur:=d.trans hm.cur
 own:=λb ⟨k,p,L,h1,h2⟩=>x b (hm.own b ⟨k,p,L,by rw[<-c];exact h1,h2⟩)
 ez:=n
 dj:=t
 fS:=λb y=>gg (hm.fS b (by rw[<-v];exact y)) g.2.2.2.1
 inj:=λk p L k' p' L' h1 h2 e=>hm.inj k p L k' p' L' (by rw[<-c];exact h1) (by rw[<-c];exact h2) e
 low:=λk p L h=>gg (hm.low k p L (by rw[<-c];exact h)) g.2.2.2.1
 row:=λk p L h=>by rw[c]at h;obtain⟨r,h1,h2,z,B⟩:=hm.row k p L h;exact⟨r,h1,h2,z,B.ext u (by rw[d]) (λq=>c k q) (g.2.2.2.2 _ (hm.low k p L h))⟩
 live:=λk l h=>by obtain⟨L,C⟩:=hm.live k l h;exact⟨L,by rw[c];exact C⟩
 eE:=λk i j h=>by rw[c];exact hm.eE k i j h
section
variable {P:Program} {sg:Bool} {Gl:Nat->SV} {Γ:Table} {N:Nat} {ops:Array Oper} {PR:Nat->List Nat} {m:Nat} {rs:List Rc} {F F0:Fr} {M:Mem} {cS wr:Nat->Bool}
variable {a0 a:Act} {w0 w:World} {bu ω:Ow} {D:Nat->Prop}
theorem wL {t:Nat} {d:Option Tmp} {v:Value} (h:d≠some t):(a.put d v).tmps[t]? =a.tmps[t]? :=by
 cases d with
 |none=>rfl
 |some x=>have:x≠t:=λe=>h (by rw[e]);simp only[Act.put,pU this]
theorem Vh {d:Option Tmp} {v:Value}:(a.put d v).tmps.size=a.tmps.size:=by cases d<;>simp[Act.put]
theorem Inv.Ot (S:jk P sg Gl Γ N ops PR m rs F F0 M cS wr) (hm:aU w0 bu M)
 (I:Inv ops PR m rs M N a0 w0 bu D a w ω) {i:Nat} {o:Oper} (hi:i<m) (ho:ops[i]? =some o) (X:¬D i) (ac4:∀j∈PR i,D j) (D7:∀k∈keys rs i,cC (ae M) k=true) {v:Value} {w':World} {dR:Ow}
 (r:bz w (dd rs M ω (PR i)) (vM rs M (PR i)) w' dR ((cv rs i).u++vM rs M (PR i))) (l:iN w (dd rs M ω (PR i)) w' dR (λk=>k∈(cv rs i).u.map (·.1))) (V:zy w' dR N (a.put o.dst v) (cv rs i)):
 Inv ops PR m rs M N a0 w0 bu (λj=>D j\/j=i) (a.put o.dst v) w' ⟨dR.A,ω.Z,λk p=>if k∈keys rs i then dR.β k p else ω.β k p,ω.cur⟩:=by
 have C:jc ops i=o.dst:=by simp[jc,ho]
 have Y:dR.Z=ω.Z:=l.Z;have hcq:dR.cur=ω.cur:=l.cur;have J:∀b,b<w.heap.size->¬ω.A b->¬dR.A b:=λb E hn=>r.ext.free b E hn;have B:∀b,ω.A b->dR.A b:=λb E=>l.A b E;have y:∀{k p},k∈keys rs i->(if k∈keys rs i then dR.β k p else ω.β k p)=dR.β k p:=λh=>if_pos h;have n:∀{k p},k∉keys rs i->(if k∈keys rs i then dR.β k p else ω.β k p)=ω.β k p:=λh=>if_neg h;have Eb:rv bu (Wr rs M λj=>D j\/j=i) w0 w':=I.cw.cw l.cw λq ⟨h1,j,h2,h3⟩=>⟨h1,j,.inl h2,h3⟩;have ac5:dd rs M ⟨dR.A,ω.Z,λk p=>if k∈keys rs i then dR.β k p else ω.β k p,ω.cur⟩ (i::PR i)=dR:=by
  show(⟨dR.A,ω.Z,_,ω.cur⟩:Ow)=⟨dR.A,dR.Z,dR.β,dR.cur⟩;rw[Y,hcq];congr 1;funext k p;by_cases x:k∈keys rs i
  ·have:¬hH rs M (i::PR i) k:=λh=>h.2.2 ⟨i,by simp,x⟩;simp only[if_neg this,if_pos x]
  ·rw[l.β k p x];show _=if hH rs M (PR i) k then none else ω.β k p;have:hH rs M (i::PR i) k↔hH rs M (PR i) k:=by
    constructor
    ·rintro ⟨h0,h1,h2⟩;exact⟨h0,h1,λ⟨j,z,W⟩=>h2 ⟨j,by simp[z],W⟩⟩
    ·rintro ⟨h0,h1,h2⟩;refine⟨h0,h1,?_⟩;rintro ⟨j,z,W⟩;rcases eG.1 z with rfl|z
     ·exact x W
     ·exact h2 ⟨j,z,W⟩
   by_cases G:hH rs M (PR i) k
   ·rw[if_pos (this.2 G),if_pos G]
   ·rw[if_neg (λh=>G (this.1 h)),if_neg G];exact n x
 refine⟨?_,?_,Eb,λj k x hf L K=>?_,λb E=>B b (I.A0 b E),r.mem.ez,?_,I.Z,?_,I.cur,?_,?_,?_,by rw[Act.put_defers];exact I.defers,by rw[Vh];exact I.size,?_,?_⟩
 ·rintro j (h|rfl)
  ·exact I.low j h
  ·exact hi
 ·rintro j (h|rfl) k x
  ·exact .inl (I.fc j h k x)
  ·exact .inl (ac4 k x)
 ·obtain⟨c,T,h1,h2⟩:=I.ID j k x hf L K;refine⟨c,T,?_,h2⟩;rw[l.cw.2.2.2.2 _ (gg (hm.low k none L K) I.cw.2.2.2.1)];exact h1
 ·intro b E hn;exact J b (gg E I.cw.2.2.2.1) (I.HE b E hn)
 ·intro b E;show¬ω.Z b;rw[<-Y];exact r.mem.dj b E
 ·intro k p x;show(if k∈keys rs i then dR.β k p else ω.β k p)=_;rw[n (λh=>by have:=x i (.inr rfl) h;rw[D7 k h]at this;cases this)];exact I.na k p λj z=>x j (.inl z)
 ·intro k p L K;have K:(if k∈keys rs i then dR.β k p else ω.β k p)=some L:=K;by_cases x:k∈keys rs i
  ·rw[y x]at K;exact r.mem.own _ ⟨k,p,L,K,rfl⟩
  ·rw[n x]at K;exact B _ (I.own k p L K)
 ·intro k p L k' p' L' h1 h2 e;have h1:(if k∈keys rs i then dR.β k p else ω.β k p)=some L:=h1;have h2:(if k'∈keys rs i then dR.β k' p' else ω.β k' p')=some L':=h2;by_cases x:k∈keys rs i<;>by_cases O:k'∈keys rs i
  ·rw[y x]at h1;rw[y O]at h2;exact r.mem.inj _ _ _ _ _ _ h1 h2 e
  ·rw[y x]at h1;rw[n O]at h2;have e1:=l.new k p L x h1;have e2:=I.ez _ (I.own k' p' L' h2);omega
  ·rw[n x]at h1;rw[y O]at h2;have e1:=l.new k' p' L' O h2;have e2:=I.ez _ (I.own k p L h1);omega
  ·rw[n x]at h1;rw[n O]at h2;exact I.inj _ _ _ _ _ _ h1 h2 e
 ·intro t ht;rw[wL (by rw[<-C];exact ht i (.inr rfl))];exact I.keep t λj z=>ht j (.inl z)
 ·rintro j (z|rfl)
  ·have Af:j≠i:=λe=>X (e▸z);have IE:i∉j::PR j:=by
    intro h;rcases eG.1 h with h|h
    ·exact Af h.symm
    ·exact X (I.fc j z i h)
   have R:∀k p,(dd rs M ⟨dR.A,ω.Z,λk p=>if k∈keys rs i then dR.β k p else ω.β k p,ω.cur⟩ (j::PR j)).β k p=(dd rs M ω (j::PR j)).β k p:=by
    intro k p;by_cases G:hH rs M (j::PR j) k
    ·rw[yF G,yF G]
    ·rw[sub_eq G,sub_eq G];show(if k∈keys rs i then dR.β k p else ω.β k p)=_;refine n λx=>G ⟨D7 k x,⟨i,x⟩,?_⟩;rintro ⟨q,hq,tW⟩;exact IE ((S.key i q k x tW)▸hq)
   have U:Ext w (dd rs M ω (j::PR j)) w' (dd rs M ⟨dR.A,ω.Z,λk p=>if k∈keys rs i then dR.β k p else ω.β k p,ω.cur⟩ (j::PR j)):=
    ⟨l.cw.1,l.cw.2.1,l.cw.2.2.1,λb E _=>l.cw.2.2.2.2 b E,J,λ_ _ _ h=>h,l.cw.2.2.2.1,λ_=>⟨bc _,bc _⟩,λk p L K _=>by rw[R];exact K,λ_ h=>h⟩
   obtain⟨k1,k2,k3⟩:=I.tX j z;refine⟨k1.grow l.cw U R rfl rfl B r.mem.ez (λb E=>?_),λp hp u hu=>?_,?_⟩
   ·show¬ω.Z b;rw[<-Y];exact r.mem.dj b E
   ·have tU:o.dst≠some p.1:=by rw[<-C];intro e;exact Af (S.one j i p.1 (I.low j z) hi (S.fs j p hp).1 e)
    rw[wL tU]at hu;exact(k2 p hp u hu).ext U
   ·intro h G;obtain⟨d1,g,hg,d2⟩:=S.hs j h G;have Su:D g:=I.fc j z g hg;have n1:o.dst≠some h.slot:=by rw[<-C];intro e;exact Af (S.one j i _ (I.low j z) hi d1 e)
    have n2:o.dst≠some h.d:=by rw[<-C];intro e;have:g=i:=S.one g i _ (I.low g Su) hi d2 e;exact X (this▸Su)
    have h0:=k3 h G;exact⟨h0.lt,λe u hu=>(h0.yes (by rw[<-wL n2];exact e) u (by rw[<-wL n1];exact hu)).ext U,λe=>by rw[wL n1];exact h0.no (by rw[<-wL n2];exact e)⟩
  ·rw[ac5,BY];exact⟨r.mem,V⟩
theorem Inv.after (S:jk P sg Gl Γ N ops PR m rs F F0 M cS wr) (hm:aU w0 bu M)
 (I:Inv ops PR m rs M N a0 w0 bu D a w ω) {i:Nat} {o:Oper} (l:i<m) (ho:ops[i]? =some o) (g:¬D i) (c:∀j∈PR i,D j) (h:∀k∈keys rs i,cC (ae M) k=true) {v:Value} {w':World} {dR:Ow}
 (d:bz w (dd rs M ω (PR i)) (vM rs M (PR i)) w' dR ((cv rs i).u++vM rs M (PR i))) (e:iN w (dd rs M ω (PR i)) w' dR (λk=>k∈(cv rs i).u.map (·.1))) (b:zy w' dR N (a.put o.dst v) (cv rs i)):
 ∃aq,Inv ops PR m rs M N a0 w0 bu (λj=>D j\/j=i) (a.put o.dst v) w' aq:=⟨_,I.Ot S hm l ho g c h d e b⟩
theorem Inv.QW (S:jk P sg Gl Γ N ops PR m rs F F0 M cS wr) (hm:aU w0 bu M) (n:dV w0 bu N F a0.tmps)
 (I:Inv ops PR m rs M N a0 w0 bu D a w ω) {i:Nat} {o:Oper} (h:i<m) (ho:ops[i]? =some o) (d:cS i=true) (e:¬D i) (c:∀j∈PR i,D j):
 ∃v,Yields P ops o v a/\∃aq,Inv ops PR m rs M N a0 w0 bu (λj=>D j\/j=i) (a.put o.dst v) w aq:=by
 obtain⟨l,g2,u⟩:=I.all S hm n c (λj p=>S.closed i j p);obtain⟨q,s,b,r⟩:=S.IF i o h ho d;obtain⟨v,h1,h2⟩:=GO l g2 r;refine⟨v,.inl ⟨by simp[Region.wanted,q],h1⟩,?_⟩;refine I.after S hm h ho e c (λk g=>by unfold keys at g;rw[b]at g;simp at g) (w':=w) (dR:=dd rs M ω (PR i)) ?_ ?_ ?_
 ·rw[b];exact bz.refl l
 ·rw[b];exact iN.refl _ _
 ·rw[b];exact⟨A6 h2,λx t=>by cases t⟩
theorem W7 {ops:List Oper} {V:Fr} {M:Mem} {H:List Hd} {o:Oper} {k:Nat} {u:bf} (h:evalW P Gl N ops V M H o=some (k,u)):u.map (·.1)= [k]:=by
 unfold evalW at h;split at h
 ·split at h
  ·split at h
   ·split at h
    ·simp only[bF,bJ]at h;obtain⟨rfl,rfl⟩:=h;rfl
    ·cases h
   ·cases h
  ·cases h
 ·cases h
theorem Inv.write (S:jk P sg Gl Γ N ops PR m rs F F0 M cS wr) (hm:aU w0 bu M)
 (I:Inv ops PR m rs M N a0 w0 bu D a w ω) {i:Nat} (hi:i<m) (J:¬D i) (K:∀j∈PR i,D j) {k:Nat} (hk:keys rs i= [k]) (o:cC (ae M) k=false) (W:(cv rs i).fs= []) (X:(cv rs i).hs= []) {w':World} {L:Loc} (Y:(dd rs M ω (PR i)).β k none=some L)
 (y:aU w' (dd rs M ω (PR i)) ((cv rs i).u++vM rs M (PR i))) (ho:One w w' L.b):
 Inv ops PR m rs M N a0 w0 bu (λj=>D j\/j=i) a w' ω:=by
 have d:∀{E:List Nat},¬hH rs M E k:=λh=>by have:=h.1;rw[o]at this;cases this
 have z:ω.β k none=some L:=by rw[sub_eq d]at Y;exact Y
 have A:bu.β k none=some L:=by rw[<-I.na k none (λ_ _ _=>o)];exact z
 have B:k∈keys rs i:=by rw[hk];simp
 have g:∃c T,w'.heap[L.b]? =some (Obj.cells c T (0,0))/\c.size=L.len:=by obtain⟨r,_,_,_,c,T,h1,h2,_⟩:=y.row k none L Y;exact⟨c,T,h1,h2⟩
 have O:∀q,Wr rs M D q->Wr rs M (λj=>D j\/j=i) q:=λq ⟨h1,j,h2,h3⟩=>⟨h1,j,.inl h2,h3⟩;have R:dd rs M ω (i::PR i)=dd rs M ω (PR i):=by
  show(⟨_,_,_,_⟩:Ow)=⟨_,_,_,_⟩;congr 1;funext k' p;have:hH rs M (i::PR i) k'↔hH rs M (PR i) k':=by
   constructor
   ·rintro ⟨h0,h1,h2⟩;exact⟨h0,h1,λ⟨j,l,v⟩=>h2 ⟨j,by simp[l],v⟩⟩
   ·rintro ⟨h0,h1,h2⟩;refine⟨h0,h1,?_⟩;rintro ⟨j,l,v⟩;rcases eG.1 l with rfl|l
    ·rw[hk]at v;obtain rfl:=Cz.1 v;rw[o]at h0;cases h0
    ·exact h2 ⟨j,l,v⟩
  by_cases x:hH rs M (PR i) k'
  ·rw[if_pos (this.2 x),if_pos x]
  ·rw[if_neg (λh=>x (this.1 h)),if_neg x]
 refine⟨?_,?_,I.cw.one ho O ⟨o,i,.inr rfl,B⟩ A,λj k' C hf L' G=>?_,I.A0,λb h=>by rw[ho.2.2.2.1];exact I.ez b h,I.HE,I.Z,I.dj,I.cur,λk' p C=>I.na k' p λj l=>C j (.inl l),I.own,I.inj,I.defers,I.size,λt ht=>I.keep t λj l=>ht j (.inl l),?_⟩
 ·rintro j (h|rfl)
  ·exact I.low j h
  ·exact hi
 ·rintro j (h|rfl) q U
  ·exact .inl (I.fc j h q U)
  ·exact .inl (K q U)
 ·by_cases V:L'.b=L.b
  ·obtain⟨rfl,_⟩:=hm.inj _ _ _ _ _ _ G A V;obtain rfl:L=L':=aV (A.symm.trans G);exact g
  ·obtain⟨c,T,h1,h2⟩:=I.ID j k' C hf L' G;exact⟨c,T,by rw[ho.2.2.2.2 _ V];exact h1,h2⟩
 ·rintro j (l|rfl)
  ·have Af:j≠i:=λe=>J (e▸l);have IE:∀q∈j::PR j,k∉keys rs q:=by
    intro q U tW;obtain rfl:=S.key q i k tW B;rcases eG.1 U with h|h
    ·exact Af h.symm
    ·exact J (I.fc j l _ h)
   obtain⟨k1,k2,k3⟩:=I.tX j l;obtain⟨_,r0,d0,n,l',e1,e2,e3⟩:=(S.free i k B).resolve_left (by rw[o];simp);have V:(ae (vM rs M (j::PR j)) k).b= .cells (mF n):=by rw[pw IE,e1]
   obtain⟨g1,g2⟩:=k1.ac6 V (by rw[sub_eq d];exact z) ho g;exact⟨g1,λp hp u hu=>(k2 p hp u hu).ext g2,λh x=>(gO.ext k3 g2) h x⟩
  ·rw[R,BY];exact⟨y,λp hp=>by rw[W]at hp;simp at hp,λh x=>by rw[X]at x;simp at x⟩
theorem Inv.step (J:Sound P Gl Γ) (S:jk P sg Gl Γ N ops PR m rs F F0 M cS wr) (hm:aU w0 bu M) (C:dV w0 bu N F a0.tmps) (O:∀g,Den w0 bu.bare (Gl g) (.pointer (some ⟨g,0,none⟩)))
 (I:Inv ops PR m rs M N a0 w0 bu D a w ω) {i:Nat} {o:Oper} (n:i<m) (ho:ops[i]? =some o) (h:¬D i) (b:∀j∈PR i,D j) {Q:Exit->Act->World->Prop} {K:Act->World->Prop}
 (x:∀E w' aq,Inv ops PR m rs M N a0 w0 bu (λj=>D j\/j=i) E w' aq->K E w'):wpOp P ops Q i K a w:=by
 obtain⟨R,g2,G⟩:=I.all S hm C b (λj T=>S.closed i j T);have q:St P Gl N (vF rs F0 (PR i)) (vM rs M (PR i)) a w (dd rs M ω (PR i)):=⟨g2,λg=>Den.ext (o:=bu.bare) (I.p5 S hm (PR i)).bare (O g),R,I.defers⟩;cases c:cS i with
 |false=>
  cases l:wr i with
  |false=>obtain⟨nx,p,d,hp⟩:=S.ev i o n ho c l;refine ac7 J ho q G d hp ?_;intro v w' dR r t e;obtain⟨aq,y⟩:=I.after S hm n ho h b (S.fr i l) r t e;exact x _ _ _ y
  |true=>obtain⟨hd,z,A,k,d,B⟩:=S.evw i o n ho c l;refine ac8 ho q G d λw' L U u h1=>?_;exact x _ _ _ (I.write S hm n h b (k:=k) (W7 d) B z A U u h1)
 |true=>obtain⟨v,V,aq,y⟩:=I.QW S hm C n ho c h b;exact V.wpOp ho (x _ _ _ y)
/-! ### what is left to be done -/
def kl (n:Nat) (listed:Array Bool):Nat:=((List.range n).filter λj=>!listed.getD j true).length
theorem Mw {p q:Nat->Bool}:∀(l:List Nat),(∀x∈l,q x=true->p x=true)->(∃x∈l,p x=true/\q x=false)->(l.filter q).length<(l.filter p).length
 | [],_,⟨x,b,_⟩=>by simp at b
 |y::r,h,⟨x,b,h1,h2⟩=>by
  have le:∀(l:List Nat),(∀x∈l,q x=true->p x=true)->(l.filter q).length<=(l.filter p).length:=by
   intro l
   induction l with
   |nil=>intro _;exact bc _
   |cons z r c=>
    intro h;have c:=c λx b=>h x (by simp[b]);by_cases d:q z=true
    ·rw[s7 d,s7 (h z (by simp) d)];simpa using c
    ·rw[yW d];by_cases hp:p z=true
     ·rw[s7 hp];simp;omega
     ·rw[yW hp];exact c
  have e:∀x∈r,q x=true->p x=true:=λx b=>h x (by simp[b]);rcases eG.1 b with rfl|b
  ·rw[yW (by rw[h2];simp),s7 h1];have:=le r e;simp;omega
  ·have c:=Mw r e ⟨x,b,h1,h2⟩;by_cases d:q y=true
   ·rw[s7 d,s7 (h y (by simp) d)];simpa using c
   ·rw[yW d];by_cases hp:p y=true
    ·rw[s7 hp];simp;omega
    ·rw[yW hp];exact c
theorem getD_eq {listed:Array Bool} {j:Nat} (h:j<listed.size) (d e:Bool):listed.getD j d=listed.getD j e:=by simp[Array.getD,h]
theorem sQ {n i:Nat} {listed:Array Bool} (b:i<n) (hs:listed.size=n) (h:listed.getD i true=false):kl n (listed.setIfInBounds i true)<kl n listed:=by
 refine Mw _ (λx d c=>?_) ⟨i,cV.2 b,by rw[h];rfl,?_⟩
 ·by_cases e:i=x
  ·subst e;rw[h];rfl
  ·rwa [getD_set_ne true e]at c
 ·have:(listed.setIfInBounds i true).getD i true=true:=by simp[Array.getD,hs,b]
  rw[this];rfl
theorem wv {n i:Nat} {listed:Array Bool} (b:i<n) (h:listed.getD i true=false):0<kl n listed:=by unfold kl;exact List.length_pos_of_mem (nF.2 ⟨cV.2 b,by rw[h];rfl⟩)
theorem BZ (S:jk P sg Gl Γ N ops PR m rs F F0 M cS wr) (v:Nat) (I:∀i,v<=i->i<ops.size->∀j,j<i->v<=j->j∈PR i) {Q:Exit->Act->World->Prop}:∀(fuel t:Nat) (listed:Array Bool) (a:Act) (w:World),listed.size=ops.size->(∀j,j<ops.size->(listed.getD j false=true↔j<t))->v<=t->t<=ops.size->kl ops.size listed<=fuel->
 wpList P ops Q (ops.toList.drop t) a w->wpAny P .any ops Q fuel listed a w:=by
 intro fuel
 induction fuel with
 |zero=>
  intro t listed a w hs hl x y J h;have K:t=ops.size:=by
   rcases bR t ops.size with b|n
   ·have h1:listed.getD t true=false:=by
     rw[getD_eq (by omega) true false];cases g:listed.getD t false with
     |false=>rfl
     |true=>exact absurd ((hl t b).1 g) (nA _)
    have:=wv b h1;omega
   ·omega
  refine⟨?_,?_⟩
  ·rw[GN];intro j l;obtain⟨h1,o,h2,_⟩:=mem_ready.1 l;have c:=(eZ.1 h2).1;have:=(hl j c).2 (by omega);rw[getD_eq (by omega) true false,this]at h1;cases h1
  ·rw[K,GP (by simp)]at h;exact h
 |succ fuel O=>
  intro t listed a w hs hl x y J h;have z:∀j,j∈Region.ready .any ops listed->j=t:=by
   intro j l;obtain⟨h1,o,h2,E⟩:=mem_ready.1 l;have c:=(eZ.1 h2).1;have n:¬j<t:=λb=>by have:=(hl j c).2 b;rw[getD_eq (by omega) true false,this]at h1;cases h1
   rcases bR t j with b|hle
   ·exfalso;obtain⟨e,p,r,g⟩:=S.dep j o h2 t (I j (by omega) c t b (by omega));have A:=E e p r;have G:e.on<t:=(hl e.on (by have:=S.tY j o h2 e p r;omega)).1 A;rcases g with g|g
    ·omega
    ·have:=S.lt _ _ g;omega
   ·omega
  refine⟨λR=>?_,λj l=>?_⟩
  ·rcases bR t ops.size with b|n
   ·exfalso;have:t∈Region.ready .any ops listed:=by
     refine mem_ready.2 ⟨?_,ops[t],fR b,λe p r=>?_⟩
     ·rw[getD_eq (by omega) true false];cases g:listed.getD t false with
      |false=>rfl
      |true=>exact absurd ((hl t b).1 g) (nA _)
     ·have hd:=S.tY t _ (fR b) e p r;exact(hl e.on (by omega)).2 hd
    rw[R]at this;simp at this
   ·rw[show t=ops.size by omega,GP (by simp)]at h;exact h
  ·obtain rfl:=z j l;obtain⟨h1,o,h2,E⟩:=mem_ready.1 l;have c:=(eZ.1 h2).1;have k:ops.toList.drop j=o::ops.toList.drop (j+1):=by
    have B:j<ops.toList.length:=by simpa using c
    rw[CA B];congr 1;have:=(eZ.1 h2).2;simpa using this
   rw[k]at h;have d:∀u w',wpList P ops Q (ops.toList.drop (j+1)) u w'->wpAny P .any ops Q fuel (listed.setIfInBounds j true) u w':=by
    intro u w' T;refine O (j+1) _ u w' (by simpa using hs) (λq U=>?_) (by omega) (by omega) ?_ T
    ·by_cases e:j=q
     ·subst e;have:(listed.setIfInBounds j true).getD j false=true:=by simp[Array.getD,hs,c]
      rw[this];simp
     ·rw[getD_set_ne false e,hl q U];omega
    ·have:=sQ c hs h1;omega
   unfold wpList at h;unfold wpOp;rw[h2];simp only;split
   ·next C=>rw[if_pos C]at h;exact h.imp (Oper.wp_mono d) id
   ·next C=>rw[if_neg C]at h;exact d _ _ h
theorem YP (hS:Sound P Gl Γ) (S:jk P sg Gl Γ N ops PR m rs F F0 M cS wr) (hT:∀i,m<=i->i<ops.size->∀j,j<i->j∈PR i\/(j<m/\cS j=true)) (hm:aU w0 bu M) (hF:dV w0 bu N F a0.tmps) (hG:∀g,Den w0 bu.bare (Gl g) (.pointer (some ⟨g,0,none⟩))) {Q:Exit->Act->World->Prop} (W:∀d c a v w,Q (.panic c) (Act.put a d v) w->Q (.panic c) a w)
 (r:∀a w ω,Inv ops PR m rs M N a0 w0 bu (λj=>j<m) a w ω->wpList P ops Q (ops.toList.drop m) a w):
 ∀(fuel:Nat) (listed:Array Bool) (a:Act) (w:World) (ω:Ow),listed.size=ops.size->kl ops.size listed<=fuel->Inv ops PR m rs M N a0 w0 bu (λj=>listed.getD j false=true) a w ω->wpAny P .any ops Q fuel listed a w:=by
 have R:∀i,m<=i->i<ops.size->∀j,j<i->m<=j->j∈PR i:=λi h1 h2 j T h4=>(hT i h1 h2 j T).resolve_right λh=>by omega
 intro fuel
 induction fuel with
 |zero=>
  intro listed a w ω hs X I;have all:∀j,j<ops.size->listed.getD j false=true:=by
   intro j A;cases B:listed.getD j false with
   |true=>rfl
   |false=>have:=wv A (by rw[getD_eq (listed:=listed) (by omega) true false];exact B);omega
  have IG:m=ops.size:=by
   rcases bR m ops.size with h|h
   ·exact absurd (I.low m (all m h)) (nA _)
   ·have:=S.le;omega
  have Y:(λj=>listed.getD j false=true)=(λj=>j<m):=by funext j;refine propext ⟨I.low j,λh=>all j (by omega)⟩
  rw[Y]at I;exact BZ S m R 0 m listed a w hs (λj A=>⟨λ_=>by omega,λ_=>all j A⟩) (bc _) S.le X (r a w ω I)
 |succ fuel ih=>
  intro listed a w ω hs X I;by_cases l:∀j,j<m->listed.getD j false=true
  ·have Y:(λj=>listed.getD j false=true)=(λj=>j<m):=by funext j;exact propext ⟨I.low j,l j⟩
   have O:=I;rw[Y]at O;exact BZ S m R _ m listed a w hs (λj A=>⟨I.low j,l j⟩) (bc _) S.le X (r a w ω O)
  ·have hle:=S.le;have hex:∃j,j<m/\listed.getD j false=false:=by
    refine fN λh=>l λj A=>?_;cases B:listed.getD j false with
    |true=>rfl
    |false=>exact absurd ⟨j,A,B⟩ h
   have first:∃j,j<m/\listed.getD j false=false/\j∈Region.ready .any ops listed:=by
    refine fN λG=>?_;have:∀n,∀j,j<n->j<m->listed.getD j false=true:=by
     intro n
     induction n with
     |zero=>intro j A;omega
     |succ n Z=>
      intro j A t;cases B:listed.getD j false with
      |true=>rfl
      |false=>
       exfalso;have u:j<ops.size:=by omega
       refine G ⟨j,t,B,mem_ready.2 ⟨by rw[getD_eq (by omega) true false];exact B,ops[j],fR u,λe he hb=>?_⟩⟩;have hd:=S.tY j _ (fR u) e he hb;exact Z e.on (by omega) (by omega)
    exact l λj A=>this (j+1) j (qx j) A
   have b:∀i,i∈Region.ready .any ops listed->∀x∈PR i,listed.getD x false=true:=by
    intro i C x B;obtain⟨h1,o,h2,T⟩:=mem_ready.1 C;obtain⟨e,he,hb,J⟩:=S.dep i o h2 x B;have U:=T e he hb;rcases J with rfl|J
    ·exact U
    ·exact I.fc _ U x J
   have E:∀i,i<ops.size->(λj=>(listed.setIfInBounds i true).getD j false=true)=(λj=>listed.getD j false=true\/j=i):=by
    intro i p;funext j;refine propext ⟨λh=>?_,λh=>?_⟩
    ·by_cases e:i=j
     ·exact .inr e.symm
     ·rw[getD_set_ne false e]at h;exact .inl h
    ·rcases h with h|rfl
     ·exact getD_set_true h
     ·simp[Array.getD,hs,p]
   by_cases y:∃i,i∈Region.ready .any ops listed/\m<=i
   ·
    obtain⟨i,C,D'⟩:=y;obtain⟨j,t,K,k⟩:=first
    have p:i<ops.size:=by obtain⟨_,o,h2,_⟩:=mem_ready.1 C;exact(eZ.1 h2).1
    have z:cS j=true:=by
     rcases hT i D' p j (by omega)with h|h
     ·have:=b i C j h;rw[this]at K;cases K
     ·exact h.2
    obtain⟨h1,o,h2,T⟩:=mem_ready.1 k;have u:=(eZ.1 h2).1;obtain⟨v,hy,aq,O⟩:=I.QW S hm hF t h2 z (by rw[K];simp) (b j k);refine wpAny_first h2 (Region.noSelect_spec (S.fX j t z)) (λc a w h=>W _ c a v w h) fuel listed a w ?_ k hy ?_
    ·intro q oq hq tU V G;refine S.apart j o t z h2 q oq hq tU (λhqp=>?_) G;have hqn:=(eZ.1 hq).1;have:=b j k q hqp;rw[getD_eq (by omega) true false,this]at V;cases V
    ·refine ih _ _ _ aq (by simpa using hs) ?_ ?_
     ·have:=sQ u hs h1;omega
     ·rw[E j u];exact O
   ·refine⟨λhr=>?_,λi C=>?_⟩
    ·obtain⟨j,_,_,k⟩:=first
     rw[hr]at k;simp at k
    ·obtain⟨h1,o,h2,T⟩:=mem_ready.1 C;have p:=(eZ.1 h2).1;have qc:¬listed.getD i false=true:=by rw[getD_eq (by omega) false true,h1];simp
     have him:i<m:=by
      rcases bR i m with h|h
      ·exact h
      ·exact absurd ⟨i,C,h⟩ y
     refine I.step hS S hm hF hG him h2 qc (b i C) λa' w' aq O=>ih _ a' w' aq (by simpa using hs) ?_ ?_
     ·have:=sQ p hs h1;omega
     ·rw[E i p];exact O
end
end Go.Sy
namespace Go.Sy
open Go.RowKit
def pT (ord:List Nat) (n k:Nat):Nat:=match idx ord k with|some p=>p|none=>n
def ra (ord:List Nat) (n:Nat) (e:Edge):Edge:={e with on:=pT ord n e.on}
def lP (ord:List Nat) (n:Nat) (o:Oper):Oper:={o with after:=⟨o.after.toList.map (ra ord n)⟩,guard:=o.guard.map λx=>(pT ord n x.1,x.2)}
def je (ord:List Nat) (ops:List Oper):List Oper:=ord.filterMap λi=>(ops[i]?).map (lP ord ops.length)
def qV (ord:List Nat) (n:Nat):Bool:=nodupB ord&&Nat.beq ord.length n&&(ord.all λk=>Nat.blt k n)&&(List.range n).all λk=>cR ord k
structure lF (ord:List Nat) (n:Nat):Prop where
 nd:ord.Nodup
 len:ord.length=n
 lt:∀k∈ord,k<n
 all:∀k,k<n->k∈ord
theorem Fg {ord:List Nat} {n:Nat} (h:qV ord n=true):lF ord n:=by unfold qV at h;simp only[aW]at h;obtain⟨⟨⟨h1,h2⟩,c⟩,d⟩:=h;exact⟨vX h1,a_ h2,λk b=>bP (cY.1 c k b),λk b=>gU.1 (cY.1 d k (cV.2 b))⟩
section
variable {P:Program} {ops:Array Oper} {Q:Exit->Act->World->Prop} {ord:List Nat}
theorem lF.pos {n:Nat} (h:lF ord n) {p k:Nat} (hp:ord[p]? =some k):pT ord n k=p:=by
 have g:=h.lt k (fw hp);unfold pT;cases c:idx ord k with
 |none=>exact absurd (fw hp) (we c)
 |some q=>have d:=lA c;have e:=(ik.1 hp).1;have b:=(ik.1 d).1;exact(List.getElem?_inj b h.nd).1 (d.trans hp.symm)
theorem lF.out {n:Nat} (h:lF ord n) {k:Nat} (c:n<=k):pT ord n k=n:=by
 unfold pT;cases b:idx ord k with
 |none=>rfl
 |some q=>have:=h.lt k (fw (lA b));omega
theorem Bz (h:lF ord ops.size) {p k:Nat} (hp:ord[p]? =some k) {o:Oper} (ho:ops[k]? =some o):(je ord ops.toList).toArray[p]? =some (lP ord ops.size o):=by
 have key:∀(l:List Nat) (p:Nat),(∀x∈l,x<ops.size)->(l.filterMap λi=>(ops.toList[i]?).map (lP ord ops.toList.length))[p]? =(l[p]?).bind λk=>(ops[k]?).map (lP ord ops.size):=by
  intro l
  induction l with
  |nil=>intro p _;simp
  |cons x r c=>
   intro p hl;have b:=hl x (by simp);have e:(ops.toList[x]?).map (lP ord ops.toList.length)=some (lP ord ops.size ops[x]):=by simp[b]
   rw[List.filterMap_cons,e];cases p with
   |zero=>simp[b]
   |succ p=>simpa using c p λy d=>hl y (by simp[d])
 rw[Cy];unfold je;rw[key ord p h.lt,hp];simp[ho]
theorem vZ (h:lF ord ops.size):(je ord ops.toList).toArray.size=ops.size:=by
 rw[FT];unfold je;rw[<-h.len];have:∀l:List Nat,(∀x∈l,x<ops.size)->(l.filterMap λi=>(ops.toList[i]?).map (lP ord ops.toList.length)).length=l.length:=by
  intro l
  induction l with
  |nil=>intro _;rfl
  |cons x r b=>
   intro hl;have c:=hl x (by simp);have e:(ops.toList[x]?).map (lP ord ops.toList.length)=some (lP ord ops.size ops[x]):=by simp[c]
   rw[List.filterMap_cons,e];have:=b λy d=>hl y (by simp[d]);simp only[List.length_cons,this]
 exact this ord h.lt
structure xo (ord:List Nat) (n:Nat) (ls hZ:Array Bool):Prop where
 s:ls.size=n
 s':hZ.size=n
 eq:∀(p k:Nat),ord[p]? =some k->hZ[p]? =ls[k]?
theorem TG (h:lF ord ops.size) (tmps:Array Value) (j:Nat):yielded (je ord ops.toList).toArray tmps (pT ord ops.size j)=yielded ops tmps j:=by
 unfold yielded;rcases bR j ops.size with b|b
 ·obtain⟨p,hp⟩:=qG (h.all j b);rw[h.pos hp,Bz h hp (fR b),fR b];rfl
 ·rw[h.out b,qW (by rw[vZ h];exact bc _),qW b]
theorem Um (h:lF ord ops.size) {p k:Nat} (hp:ord[p]? =some k) {K d:Act->World->Prop} {a:Act} {w:World} (g:∀a w,K a w->d a w) (c:wpOp P (je ord ops.toList).toArray Q p K a w):wpOp P ops Q k d a w:=by
 have e:=h.lt k (fw hp);refine wpOp_mono g ?_;unfold wpOp at c⊢;rw[Bz h hp (fR e)]at c;rw[fR e];have b:Region.wanted (lP ord ops.size ops[k]) (yielded (je ord ops.toList).toArray a.tmps)=Region.wanted ops[k] (yielded ops a.tmps):=by
  unfold Region.wanted lP;cases i:ops[k].guard with
  |none=>rfl
  |some x=>obtain⟨j,want⟩:=x;simp only[iB];rw[TG h]
 simp only[b]at c;exact c
theorem JD (h:lF ord ops.size) {ls hZ:Array Bool} (hl:xo ord ops.size ls hZ) {p k:Nat} (hp:ord[p]? =some k) (i:k∈Region.ready .any ops ls):p∈Region.ready .any (je ord ops.toList).toArray hZ:=by
 have n:=h.lt k (fw hp);have j:p<ops.size:=by rw[<-h.len];exact(ik.1 hp).1
 unfold Region.ready at i⊢;rw[nF]at i⊢;refine⟨cV.2 (by rw[vZ h];exact j),?_⟩;have h2:=i.2;rw[fR n]at h2;rw[Bz h hp (fR n)];have get:∀d:Bool,hZ.getD p d=ls.getD k d:=λd=>by rw[ka,ka,hl.eq p k hp]
 rw[get];simp only[iB,FU,aW]at h2⊢;refine⟨h2.1,?_⟩;have o:=h2.2;rw[Array.all_eq_true']at o⊢;intro e c;unfold lP at c;have c:e∈ops[k].after.toList.map (ra ord ops.size):=by simpa using c
 rw[sZ]at c;obtain⟨e0,b,rfl⟩:=c;have b:e0∈ops[k].after:=by simpa using b
 have:=o e0 b;have t:Region.binds .any (ra ord ops.size e0)=Region.binds .any e0:=rfl;rw[t];have l:hZ.getD (ra ord ops.size e0).on false=ls.getD e0.on false:=by
  show hZ.getD (pT ord ops.size e0.on) false=_;rcases bR e0.on ops.size with g|g
  ·obtain⟨q,r⟩:=qG (h.all _ g);rw[h.pos r,ka,ka,hl.eq q _ r]
  ·rw[h.out g,ka,ka,qW (by rw[hl.s'];exact bc _),qW (by rw[hl.s];exact g)]
 rw[l];exact this
theorem xo.set {n:Nat} (h:lF ord n) {ls hZ:Array Bool} (hl:xo ord n ls hZ) {p k:Nat} (hp:ord[p]? =some k):xo ord n (ls.setIfInBounds k true) (hZ.setIfInBounds p true):=by
 refine⟨by simpa using hl.s,by simpa using hl.s',λq j c=>?_⟩;have g:=(ik.1 hp).1;have b:=(ik.1 c).1;by_cases e:q=p
 ·subst e;obtain rfl:j=k:=aV (c.symm.trans hp);have h1:q<hZ.size:=by rw[hl.s',<-h.len];exact b
  have h2:j<ls.size:=by rw[hl.s];exact h.lt _ (fw hp)
  rw[wY h1,wY h2]
 ·have d:k≠j:=λd=>by subst d;exact e ((List.getElem?_inj b h.nd).1 (c.trans hp.symm))
  rw[pU (cA e),pU d];exact hl.eq q j c
theorem A5 (h:lF ord ops.size):∀(fuel:Nat) {ls hZ:Array Bool} {a:Act} {w:World},xo ord ops.size ls hZ->wpAny P .any (je ord ops.toList).toArray Q fuel hZ a w->wpAny P .any ops Q fuel ls a w
 |0,ls,hZ,a,w,hl,⟨h1,h2⟩=>by refine⟨?_,h2⟩;apply GN.2;intro k b;obtain⟨p,hp⟩:=qG (h.all k (by unfold Region.ready at b;exact cV.1 (nF.1 b).1));have:=JD h hl hp b;rw[h1]at this;cases this
 |fuel+1,ls,hZ,a,w,hl,⟨h1,h2⟩=>by
  have lt:∀{k},k∈Region.ready .any ops ls->k<ops.size:=λb=>by unfold Region.ready at b;exact cV.1 (nF.1 b).1
  refine⟨λr=>h1 ?_,λk b=>?_⟩
  ·apply GN.2;intro p hp;have i:p<ops.size:=by unfold Region.ready at hp;have:=cV.1 (nF.1 hp).1;rwa [vZ h]at this
   obtain⟨k,b⟩:∃k,ord[p]? =some k:=⟨ord[p]'(by rw[h.len];exact i),eO _⟩;have c:=h.lt k (fw b);have:k∈Region.ready .any ops ls:=by
    unfold Region.ready at hp⊢;rw[nF]at hp⊢;refine⟨cV.2 c,?_⟩;have e:=hp.2;rw[Bz h b (fR c)]at e;rw[fR c];have get:∀d:Bool,hZ.getD p d=ls.getD k d:=λd=>by rw[ka,ka,hl.eq p k b]
    rw[get]at e;simp only[iB,FU,aW]at e⊢;refine⟨e.1,?_⟩;have n:=e.2;rw[Array.all_eq_true']at n⊢;intro e0 j;have:=n (ra ord ops.size e0) (by unfold lP;have:ra ord ops.size e0∈ops[k].after.toList.map (ra ord ops.size):=sZ.2 ⟨e0,by simpa using j,rfl⟩;simpa using this);have l:hZ.getD (ra ord ops.size e0).on false=ls.getD e0.on false:=by
     show hZ.getD (pT ord ops.size e0.on) false=_;rcases bR e0.on ops.size with g|g
     ·obtain⟨q,o⟩:=qG (h.all _ g);rw[h.pos o,ka,ka,hl.eq q _ o]
     ·rw[h.out g,ka,ka,qW (by rw[hl.s'];exact bc _),qW (by rw[hl.s];exact g)]
    rw[l]at this;exact this
   rw[r]at this;cases this
  ·obtain⟨p,hp⟩:=qG (h.all k (lt b));exact Um h hp (λa w t=>A5 h fuel (hl.set h hp) t) (h2 p (JD h hl hp b))
theorem IC {n:Nat} (h:lF ord n):xo ord n (Array.replicate n false) (Array.replicate n false):=
 ⟨by simp,by simp,λp k hp=>by
   have b:p<n:=by rw[<-h.len];exact(ik.1 hp).1
   have c:=h.lt k (fw hp);simp[b,c]⟩
theorem Fh {o':Oper} (hm:o'∈je ord ops.toList):∃o,o∈ops.toList/\o'.dst=o.dst:=by
 unfold je at hm;rw[List.mem_filterMap]at hm;obtain⟨i,_,h⟩:=hm;cases ho:ops.toList[i]? with
 |none=>rw[ho]at h;cases h
 |some o=>rw[ho]at h;obtain rfl:=aV h;exact⟨o,fw ho,rfl⟩
end
def Ec:List Edge->(List Edge->Prop)->Prop
 | [],k=>k []
 |e::r,k=>match e with|⟨o,g⟩=>fy o λo=>Ec r λr=>k (⟨o,g⟩::r)
def fG:Option (Nat×Bool)->(Option (Nat×Bool)->Prop)->Prop
 |none,k=>k none
 |some (j,b),k=>fy j λj=>k (some (j,b))
def xB:List Oper->(List Oper->Prop)->Prop
 | [],k=>k []
 |o::r,k=>match o with|⟨d,op,t,p,a,g⟩=>Ec a.toList λa=>fG g λg=>xB r λr=>k (⟨d,op,t,p,⟨a⟩,g⟩::r)
theorem Oq:∀(l:List Edge) (k:List Edge->Prop),Ec l k=k l
 | [],_=>rfl
 |⟨o,g⟩::r,k=>by simp only[Ec,j4,Oq r]
theorem abk (g:Option (Nat×Bool)) (k:Option (Nat×Bool)->Prop):fG g k=k g:=by
 cases g with
 |none=>rfl
 |some x=>obtain⟨j,b⟩:=x;simp only[fG,j4]
theorem Oo:∀(l:List Oper) (k:List Oper->Prop),xB l k=k l
 | [],_=>rfl
 |⟨d,op,t,p,a,g⟩::r,k=>by simp only[xB,Oq,abk,Oo r]
end Go.Sy
namespace Go.Sy
open Go.RowKit Classical
def qF (P:Program) (Gl:Nat->SV) (F:Fr) (M:Mem) (o:Oper):Option (Prop×Option Nat):=
 match o.guard,o.op with
 |none,.load T x=>
  match P.underlying T,c_ Gl F x with
  |some d,.ptr k st none _ j=>
   match lT d,cG (ae M) k st none,(ae M k).b with
   |false,true,.cells l=>(match Nat.blt j l.length with|true=>some (True,some k)|false=>none)
   |_,_,_=>none
  |_,_=>none
 |none,.nilCheck x=>
  match c_ Gl F x with
  | .ptr k st p _ _=>(match cG (ae M) k st p with|true=>some (True,none)|false=>none)
  | .pt _ _ _=>some (True,none)
  |_=>none
 |none,.indexAddr T x y=>
  match P.underlying T,c_ Gl F x,c_ Gl F y with
  |some (.slice E),.aS k st p _ n,.v (.int _ z)=>(match P.info? E,cG (ae M) k st p with|some _,true=>some (0<=z/\z<n,none)|_,_=>none)
  |some (.slice E),.sl _ _ n _,.v (.int _ z)=>(match P.info? E with|some _=>some (0<=z/\z<n,none)|_=>none)
  |_,_,_=>none
 |_,_=>none
section
variable {P:Program} {sg:Bool} {Gl:Nat->SV} {Γ:Table} {N:Nat} {F:Fr} {M:Mem} {a:Act} {w:World} {ω:Ow}
theorem JK {o:Oper} {T E:TypeId} {x y:Operand} {c:TypeInfo} (ho:o.op= .indexAddr T x y) (d:P.underlying T=some (.slice E)) (e:P.info? E=some c) {ad:Addr} {n cap:Nat} {k:IntKind} {z:Int}
 (ex:a.eval x= .slice (some ad) n cap) (g:a.eval y= .int k z) (h0:0<=z) (h1:z<n) (w':World):(execOp a.eval o).run P w'= .ok (.value (.pointer (some (ad.add (z.toNat*c.size))))) w':=by
 have b:(sizeOf E).run P w'= .ok c.size w':=by simp[sizeOf,run_typeInfo w' e,Result.andThen]
 simp[execOp,ho,ex,g,Instr.indexAt,asIntOf,run_underlying d,Result.andThen,h0,h1,b]
theorem K1 (h:St P Gl N F M a w ω) {o:Oper} {p:Prop} {ko:Option Nat} (g:qF P Gl F M o=some (p,ko)) (hp:p):
 o.guard=none/\∃v,∀w',(∀k,ko=some k->∀L,ω.β k none=some L->w'.heap[L.b]? =w.heap[L.b]?)->(execOp a.eval o).run P w'= .ok (.value v) w':=by
 unfold qF at g;split at g
 ·next T x G ho=>
  refine⟨G,?_⟩;have t:=h.frame.c_ h.eo x;split at g
  ·next d k st V j I hs=>
   split at g
   ·next l hd u J=>
    split at g
    ·next W=>
     obtain⟨rfl,rfl⟩:=oz (aV g);have W:j<l.length:=bP W;rw[hs]at t;obtain⟨_,L,K,R,ex⟩:=gr h.mem u t;obtain⟨c1,c2⟩:=yt h.mem J K;obtain⟨r,_,_,_,c,T',Y,g5,g6,Z⟩:=h.mem.row _ _ _ K;obtain⟨y,y1,_⟩:=Z V R j (by omega);have A:∀w':World,w'.heap[L.b]? =w.heap[L.b]? ->w'.cell? ⟨L.b,L.o+V*L.sz+j,none⟩=some y:=by intro w' e;rw[Y]at e;simp[World.cell?,e,y1]
     refine⟨y,λw' S=>?_⟩;have:=AX (P:=P) I hd w' _ y (A w' (S k rfl L K));simp[execOp,ho,ex,Instr.loadAt,Instr.sureAddr,this,Result.andThen]
    ·cases g
   ·cases g
  ·cases g
 ·next x G ho=>
  refine⟨G,?_⟩;have t:=h.frame.c_ h.eo x;have run:(∃ad,a.eval x= .pointer (some ad))->∃v,∀w',(∀k,ko=some k->∀L,ω.β k none=some L->w'.heap[L.b]? =w.heap[L.b]?)->(execOp a.eval o).run P w'= .ok (.value v) w':=by rintro ⟨ad,e⟩;exact⟨.pointer (some ad),λw' _=>by simp[execOp,ho,e]⟩
  split at g
  ·next k st p' i j hs=>
   split at g
   ·next u=>
    rw[hs]at t;obtain⟨_,L,_,_,e⟩:=gr h.mem u t;exact run ⟨_,e⟩
   ·cases g
  ·next q n f hs=>
   rw[hs]at t;obtain⟨b,e,_⟩:=t;exact run ⟨_,e⟩
  ·cases g
 ·next T x y G ho=>
  refine⟨G,?_⟩;have t:=h.frame.c_ h.eo x;have O:=h.frame.c_ h.eo y;split at g
  ·next E k st p' e n kk z I B C=>
   split at g
   ·next ie u U J=>
    obtain⟨rfl,rfl⟩:=oz (aV g);rw[B]at t;rw[C]at O;have e0:st=Sy.st ω.cur k p':=by
     rw[h.mem.cur];cases p' with
     |none=>exact a_ J
     |some _=>exact a_ J
    rcases t with t|⟨_,q,cap,ex,X,_,t⟩
    ·omega
    rcases t with t|⟨L,K,rfl,_,_⟩
    ·have:=hp.1;have:=hp.2;omega
    exact⟨_,λw' _=>JK ho I U ex O hp.1 hp.2 w'⟩
   ·cases g
  ·next E q sz n f kk z I B C=>
   split at g
   ·next ie U=>
    obtain⟨rfl,rfl⟩:=oz (aV g);rw[B]at t;rw[C]at O;obtain⟨p',cap,ex,_,_,t⟩:=t;rcases t with t|⟨ad,rfl,_⟩
    ·have:=hp.1;have:=hp.2;omega
    exact⟨_,λw' _=>JK ho I U ex O hp.1 hp.2 w'⟩
   ·cases g
  ·cases g
 ·cases g
theorem Tf (hm:aU w ω M) {sx g:SV} {o:Oper} {T:TypeId} {x y:Operand} {nx:Nat} {pr:Prop} {s:SV} {u:bf} (l:Den w ω sx (a.eval x)) (c:Den w ω g (a.eval y)) (ho:o.op= .call {callee:= .builtin .append,args:= #[x,y],argTypes:= #[T,T]})
 (B:w_ sx=false) (d:qo P (ae M) nx T sx g=some (pr,s,u)) (hp:pr):oM P w ω M a o s u:=by
 unfold qo at d;rw[B]at d;simp only at d;split at d
 ·next z C=>
  split at d
  ·next v r=>
   simp only[bF,bJ]at d;obtain⟨rfl,rfl,rfl⟩:=d;obtain⟨aq,k,st,i,j,e,n,A,U,e3,h1,h2,V,_⟩:=Bh hm C;rw[A]at l;have c:Den w aq (qL (ae M) (nx+60) sx g).2 (a.eval y):=by
    have b:=hp.1
    revert b c
    rw[A];generalize g=t;unfold qL;split
    ·next k1 E W X _ _ k' G I Y e' Z heq=>
     split
     ·next b1 b2 J=>
      obtain⟨rfl,rfl,p,rfl,rfl⟩:=SV.aS.inj heq;obtain⟨rfl,rfl⟩:=oz (aV p);obtain rfl:=a_ b1;obtain rfl:=a_ b2;obtain rfl:=a_ J;intro c b;have b:I=i:=b;subst b;exact h2 _ _ _ c
     ·intro c _;exact Den.ext h1.ext c
    ·intro c _;exact Den.ext h1.ext c
   rw[lH]at r;have q:Den w aq z.1 (a.eval x):=by rw[e3];exact h2 _ _ _ l
   obtain⟨nn,K,w',h,O,g2,R,S⟩:=A2 (P:=P) (a:=a) (tx:=λ_=>z.1) (ty:=λ_=>(qL (ae M) (nx+60) sx g).2) h1.mem q c ho r hp.2;exact⟨nn,K,w',h,O,g2,by rw[mC];exact h1.trans R,S⟩
  ·cases d
 ·exact A2 (P:=P) (a:=a) (tx:=λ_=>sx) (ty:=λ_=>g) hm l c ho d hp
/-! ### the append that ends a slice -/
def xb:SV->List Nat
 | .aS k _ _ _ _=> [k]
 |_=> []
def ub:List Nat->List Nat->List Nat
 | [],l=>l
 |k::r,l=>match cR l k with|true=>ub r l|false=>k::ub r l
end
def G':SV->Bool
 | .aI=>true
 | .v _=>true
 | .bl _=>true
 | .es=>true
 | .sl _ _ _ _=>true
 | .pt _ _ _=>true
 | .pa _ _ _ _=>true
 | .er _ _ _ _=>true
 |_=>false
def Y5:SV->Prop
 | .il sz _ g=>∀a,lR sz λb=>G' (g a b)=true
 |s=>G' s=true
def OI:bp->Prop
 | .row sz _ f=>∀i,lR sz λj=>Y5 (f i j)
 |_=>False
def Ie:List Nat->(Nat->Prop)->Prop
 | [],_=>True
 |k::r,p=>p k/\Ie r p
theorem K2:∀{l:List Nat} {p:Nat->Prop},Ie l p->∀k∈l,p k
 | [],_,_,k,b=>absurd b (by simp)
 |i::r,p,h,k,b=>by
  rcases eG.1 b with rfl|b
  ·exact h.1
  ·exact K2 h.2 k b
def Eh:SV->SV
 | .aS k s p e n=> .aS k s p e n
 | .v x=> .v x
 | .bl b=> .bl b
 | .es=> .es
 | .sl q sz n f=> .sl q sz n f
 |_=> .aI
def pW (M:Mem) (κ:List Nat):Mem:=κ.map λk=>(k,ae M k)
theorem sK {M:Mem}:∀{κ:List Nat} {k:Nat},k∈κ->ae (pW M κ) k=ae M k
 | [],k,h=>absurd h (by simp)
 |i::r,k,h=>by
  unfold pW;rw[mA];by_cases e:i=k
  ·subst e;exact dk
  ·rw[cF e];exact sK (κ:=r) ((eG.1 h).resolve_left λh=>e h.symm)
theorem E2 {M:Mem}:∀{κ:List Nat} {k:Nat},k∉κ->ae (pW M κ) k=⟨0,0,none,.dead⟩
 | [],k,_=>rfl
 |i::r,k,h=>by unfold pW;rw[mA,cF (λe=>h (by simp[e]))];exact E2 (κ:=r) λb=>h (by simp[b])
def n7 (M:Mem) (k:Nat) (p:Path):Bool:=match p,(ae M k).b with|some c,.row sz _ _=>Nat.blt c.2 sz|_,_=>true
def Ig (M:Mem):SV->Bool
 | .aS k _ p _ _=>n7 M k p
 |_=>true
def Cu (P:Program) (Gl:Nat->SV) (F:Fr) (M:Mem) (nx:Nat) (o:Oper):Option (Prop×List Nat):=
 match o.guard,o.op with
 |none,.call {callee:= .builtin .append,args:=⟨[x,y]⟩,argTypes:=⟨[T,c]⟩}=>
  let κ:=ub (xb (c_ Gl F x)) (xb (c_ Gl F y))
  match Nat.beq T c&&Ig M (c_ Gl F x)&&Ig M (c_ Gl F y)&&!w_ (Eh (c_ Gl F x)),qo P (ae (pW M κ)) nx T (Eh (c_ Gl F x)) (Eh (c_ Gl F y))with
  |true,some (pr,_,_)=>some (Ie κ (λk=>OI (ae M k).b)/\pr,κ)
  |_,_=>none
 |_,_=>none
theorem B9:∀{l r:List Nat} {k:Nat},k∈ub l r↔k∈l\/k∈r
 | [],r,k=>by simp[ub]
 |i::l,r,k=>by
  unfold ub;split
  ·next h=>
   rw[B9,eG];constructor
   ·rintro (h|h)
    ·exact .inl (.inr h)
    ·exact .inr h
   ·rintro ((b|b)|b)
    ·subst b;exact .inr (gU.1 h)
    ·exact .inl b
    ·exact .inr b
  ·rw[eG,B9,eG,or_assoc]
section
variable {P:Program} {sg:Bool} {Gl:Nat->SV} {Γ:Table} {N:Nat} {F:Fr} {M:Mem} {a:Act} {w:World} {ω:Ow}
noncomputable def Ow.only (ω:Ow) (M:Mem) (κ:List Nat):Ow:=⟨λb=>ω.A b/\∃k∈κ,∃p L,ω.β k p=some L/\L.b=b,ω.Z,λk p=>if k∈κ/\n7 M k p=true then ω.β k p else none,dy (pW M κ)⟩
theorem yL {κ:List Nat} {k:Nat} {p:Path} (h:k∈κ) (hp:n7 M k p=true):(ω.only M κ).β k p=ω.β k p:=if_pos ⟨h,hp⟩
theorem yB {κ:List Nat} {k:Nat} {p:Path} {L:Loc} (h:(ω.only M κ).β k p=some L):k∈κ/\ω.β k p=some L/\n7 M k p=true:=by
 by_cases b:k∈κ/\n7 M k p=true
 ·exact⟨b.1,by rwa [yL b.1 b.2]at h,b.2⟩
 ·have h:(if k∈κ/\n7 M k p=true then ω.β k p else none)=some L:=h;rw[if_neg b]at h;cases h
theorem Vy {k:Nat}:n7 M k none=true:=rfl
theorem Bj {κ:List Nat}:Ext w ω.bare w (ω.only M κ).bare:=⟨rfl,rfl,rfl,λ_ _ _=>rfl,λ_ _ h b=>h b.1,λ_ _ _ h=>h,bc _,λ_=>⟨bc _,bc _⟩,λ_ _ _ h _=>h,λ_ h=>h⟩
theorem Fv {κ:List Nat} {s:SV} {x:Value} (hs:G' s=true) (h:Den w ω s x):Den w (ω.only M κ) s x:=by
 cases s with
 |aI=>trivial
 |v y=>exact h
 |bl y=>exact h
 |es=>exact h
 |sl q sz n f=>exact Den.ext (o:=ω.bare) (o':=(ω.only M κ).bare) (s:= .sl q sz n f) Bj h
 |pt q n f=>exact Den.ext (o:=ω.bare) (o':=(ω.only M κ).bare) (s:= .pt q n f) Bj h
 |pa q sz n f=>exact Den.ext (o:=ω.bare) (o':=(ω.only M κ).bare) (s:= .pa q sz n f) Bj h
 |er t tf e z=>exact Den.ext (o:=ω.bare) (o':=(ω.only M κ).bare) (s:= .er t tf e z) Bj h
 |_=>cases hs
theorem MH (hm:aU w ω M) {κ:List Nat} {k:Nat} {p:Path} (b:k∈κ):st (ω.only M κ).cur k p=st ω.cur k p:=by
 rw[hm.cur];cases p with
 |none=>show(ae (pW M κ) k).rs=(ae M k).rs;rw[sK b]
 |some _=>show(ae (pW M κ) k).ds=(ae M k).ds;rw[sK b]
theorem MI (hm:aU w ω M) {κ:List Nat} {s:SV} {x:Value} (vT:∀k∈xb s,k∈κ) (ho:Ig M s=true) (h:Den w ω s x):Den w (ω.only M κ) (Eh s) x:=by
 cases s with
 |aS k st p e n=>
  have b:k∈κ:=vT k (by simp[xb]);rcases h with h|⟨h1,q,cap,h2,c,d,g⟩
  ·exact .inl (by rw[MH hm b];exact h)
  ·exact .inr ⟨by rw[MH hm b];exact h1,q,cap,h2,c,d,by rw[yL b ho];exact g⟩
 |v y=>exact h
 |bl y=>exact h
 |es=>exact h
 |sl q sz n f=>exact Fv (s:= .sl q sz n f) rfl h
 |_=>trivial
theorem aU.only (hm:aU w ω M) {κ:List Nat} (hp:∀k∈κ,OI (ae M k).b):aU w (ω.only M κ) (pW M κ):=by
 refine⟨rfl,λb ⟨k,p,L,h,e⟩=>?_,λb h=>hm.ez b h.1,λb h=>hm.dj b h.1,hm.fS,λk p L k' p' L' h R e=>hm.inj k p L k' p' L' (yB h).2.1 (yB R).2.1 e,λk p L h=>hm.low k p L (yB h).2.1,λk p L h=>?_,λk l h=>?_,λk i j h=>?_⟩
 ·obtain⟨u,h,_⟩:=yB h;exact⟨hm.own b ⟨k,p,L,h,e⟩,k,u,p,L,h,e⟩
 ·obtain⟨u,h,A⟩:=yB h;obtain⟨r,v,g2,S,c,T,U,V,W,X⟩:=hm.row k p L h;have d:=hp k u;refine⟨r,by unfold rowAt;rw[sK u];exact v,g2,S,c,T,U,V,W,λi Y j Z=>?_⟩;obtain⟨x,x1,y⟩:=X i Y j Z;refine⟨x,x1,?_⟩;rw[sK u];unfold rowAt at v;cases C:(ae M k).b with
  |dead=>rw[C]at d;exact d.elim
  |cells l=>rw[C]at d;exact d.elim
  |row sz n f=>
   rw[C]at d v;cases p with
   |none=>
    obtain rfl:=aV v
    have E:j<sz:=by have:sz=L.sz:=g2
                    omega
    have o:=kM (d i) j E;have y:cO w ω (ae M k).hl k i j (f i j) x:=y;show cO w (ω.only M κ) (ae M k).hl k i j (f i j) x;cases t:cZ (f i j)with
    |false=>
     rw[fC t]at*
     refine Fv ?_ y
     revert o t
     generalize f i j=s;intro o t;cases s<;>first|exact o|cases t
    |true=>
     revert y t
     generalize f i j=s;intro y t;cases s with
     |il B n2 g=>
      rcases y with y|⟨⟨q,cap,y1,y2,y3,y4⟩,y5⟩
      ·exact .inl y
      ·have z:n7 M k (some (i,j))=true:=by unfold n7;rw[C];exact iC E
       exact .inr ⟨⟨q,cap,y1,y2,y3,by rw[yL u z];exact y4⟩,λL' G=>y5 L' (by rw[yL u z]at G;exact G)⟩
     |_=>cases t
   |some ij=>
    obtain⟨J,I⟩:=ij;have v:inner ⟨sz,n,f⟩ J I=some r:=v;have K:I<sz:=by unfold n7 at A;rw[C]at A;exact bP A
    have o:=kM (d J) I K;have y:Den w ω (r.f i j) x:=y;show Den w (ω.only M κ) (r.f i j) x;unfold inner at v;simp only at v
    revert v o
    generalize f J I=s;intro v o;cases s with
    |il B n2 g=>
     obtain rfl:=aV v
     have O:j<B:=by have:B=L.sz:=g2
                    omega
     exact Fv (kM (o i) j O) y
    |_=>cases v
 ·by_cases u:k∈κ
  ·rw[sK u]at h;obtain⟨L,hL⟩:=hm.live k l h;exact⟨L,by rw[yL u Vy];exact hL⟩
  ·rw[E2 u]at h;cases h
 ·by_cases u:k∈κ
  ·rw[sK u]at h;show(if k∈κ/\n7 M k (some (i,j))=true then ω.β k (some (i,j))else none)=none;split
   ·exact hm.eE k i j h
   ·rfl
  ·rw[E2 u]at h;cases h
theorem Vz (h:St P Gl N F M a w ω) {nx:Nat} {o:Oper} {pr:Prop} {κ:List Nat} (c:Cu P Gl F M nx o=some (pr,κ)) (hp:pr):
 o.guard=none/\(∀q b,o.op≠ .select q b)/\∃n v w',(execOp a.eval o).run P w= .ok n w'/\(n= .value v\/(n= .skip/\v=undef))/\∀b,b<w.heap.size->(∀k∈κ,∀p L,ω.β k p=some L->L.b≠b)->w'.heap[b]? =w.heap[b]? :=by
 unfold Cu at c;split at c
 ·next x y T O r ho=>
  refine⟨r,(λq b e=>by rw[ho]at e;cases e),?_⟩;simp only at c;split at c
  ·next t s u g i=>
   rw[aW,aW,aW]at g;obtain⟨⟨⟨g,o1⟩,z⟩,A⟩:=g;obtain rfl:=a_ g;obtain⟨rfl,rfl⟩:=oz (aV c);generalize vT:ub (xb (c_ Gl F x)) (xb (c_ Gl F y))=κ at*
   have t1:=h.mem.only (κ:=κ) (K2 hp.1);have B:=MI h.mem (κ:=κ) (λk d=>by rw[<-vT];exact B9.2 (.inl d)) o1 (h.frame.c_ h.eo x);have C:=MI h.mem (κ:=κ) (λk d=>by rw[<-vT];exact B9.2 (.inr d)) z (h.frame.c_ h.eo y);obtain⟨n,v,w',aq,E,g2,G,_⟩:=Tf (P:=P) (a:=a) t1 B C ho (by simpa using A) i hp.2;refine⟨n,v,w',E,g2,λb I j=>G.ext.same b I λJ=>?_⟩;obtain⟨_,k,d,p,L,K,l⟩:=J;exact j k d p L K l
  ·cases c
 ·cases c
end
section
variable {P:Program} {sg:Bool} {Gl:Nat->SV} {Γ:Table} {N:Nat} {ops:Array Oper} {PR:Nat->List Nat} {m:Nat} {rs:List Rc} {F F0:Fr} {M:Mem} {cS wr:Nat->Bool}
variable {a0 a:Act} {w0 w:World} {bu ω:Ow} {D:Nat->Prop}
structure Ea (P:Program) (Gl:Nat->SV) (N:Nat) (ops:Array Oper) (PR:Nat->List Nat) (m:Nat) (rs:List Rc) (F0:Fr) (M:Mem) (cS:Nat->Bool) (KQ:List Nat) (oB:Oper):Prop where
 at_:ops[m]? =some oB
 IV:∀j o,j<m->ops[j]? =some o->j∉PR m->cS j=false->∃p ko,qF P Gl (vF rs F0 (PR j)) (vM rs M (PR j)) o=some (p,ko)/\p/\∀k,ko=some k->k∈KQ
 IW:∃nx pr κ,Cu P Gl (vF rs F0 (PR m)) (vM rs M (PR m)) nx oB=some (pr,κ)/\pr/\∀k∈κ,k∉KQ
 key:∀k∈KQ,cC (ae M) k=false/\∀j,k∉keys rs j
 fX:Region.noSelect ops=true
 ap:∀j o,j<m->ops[j]? =some o->j∉PR m->o.apart ops oB=true
 low:∀j∈PR m,j<m
def SQ (KQ:List Nat) (bu:Ow) (w w':World):Prop:=∀k∈KQ,∀L,bu.β k none=some L->w'.heap[L.b]? =w.heap[L.b]?
theorem VA (S:jk P sg Gl Γ N ops PR m rs F F0 M cS wr) (hm:aU w0 bu M) (x:dV w0 bu N F a0.tmps) (y:∀g,Den w0 bu.bare (Gl g) (.pointer (some ⟨g,0,none⟩))) {KQ:List Nat} {oB:Oper} (B:Ea P Gl N ops PR m rs F0 M cS KQ oB)
 (I:Inv ops PR m rs M N a0 w0 bu D a w ω) {j:Nat} {o:Oper} (q:j<m) (ho:ops[j]? =some o) (e:j∉PR m) (b:∀i∈PR j,D i):
 o.guard=none/\∃v,∀w',SQ KQ bu w w'->(execOp a.eval o).run P w'= .ok (.value v) w':=by
 obtain⟨r,g2,E⟩:=I.all S hm x b (λi z=>S.closed j i z);cases t:cS j with
 |true=>obtain⟨h,s,_,l⟩:=S.IF j o q ho t;obtain⟨v,h1,_⟩:=GO r g2 l;exact⟨h,v,λw' _=>h1 w'⟩
 |false=>obtain⟨p,ko,l,hp,u⟩:=B.IV j o q ho e t;have n:St P Gl N (vF rs F0 (PR j)) (vM rs M (PR j)) a w (dd rs M ω (PR j)):=⟨g2,λg=>Den.ext (o:=bu.bare) (I.p5 S hm (PR j)).bare (y g),r,I.defers⟩;obtain⟨h,v,h1⟩:=K1 n l hp;refine⟨h,v,λw' hs=>h1 w' λk c L A=>?_⟩;obtain⟨_,d⟩:=qy A;have C:=(B.key k (u k c)).1;rw[I.na k none (λ_ _ _=>C)]at d;exact hs k (u k c) L d
theorem OG {oB o:Oper} (c:∀(j:Nat) (o:Oper) d b,ops[j]? =some o->o.op≠ .select d b) {j:Nat} (ho:ops[j]? =some o) (e:o.apart ops oB=true) (v:Value):execOp (a.put oB.dst v).eval o=execOp a.eval o:=by obtain⟨_,_,g⟩:=Oper.apart_spec e;exact execOp_put o (λd b=>c j o d b ho) a oB.dst v g
theorem ph2 (hS:Sound P Gl Γ) (S:jk P sg Gl Γ N ops PR m rs F F0 M cS wr) (hT:∀i,m<i->i<ops.size->∀j,j<i->j∈PR i) (hm:aU w0 bu M) (hF:dV w0 bu N F a0.tmps) (hG:∀g,Den w0 bu.bare (Gl g) (.pointer (some ⟨g,0,none⟩))) {Q:Exit->Act->World->Prop} (IB:∀d c a v w,Q (.panic c) (Act.put a d v) w->Q (.panic c) a w)
 {KQ:List Nat} {oB:Oper} (B:Ea P Gl N ops PR m rs F0 M cS KQ oB) (SO:oB.guard=none)
 (G:∀a w ω,Inv ops PR m rs M N a0 w0 bu (λj=>j<m) a w ω->wpList P ops Q (ops.toList.drop m) a w):
 ∀(fuel:Nat) (listed:Array Bool) (a:Act) (w:World) (ω:Ow) (n:Next) (v:Value) (w':World),listed.size=ops.size->kl ops.size (listed.setIfInBounds m true)<=fuel->Inv ops PR m rs M N a0 w0 bu (λj=>listed.getD j false=true) a w ω->(∀j∈PR m,listed.getD j false=true)->
  (execOp a.eval oB).run P w= .ok n w'->(n= .value v\/(n= .skip/\v=undef))->¬(oB.asks P a w/\LetsOut Q)->SQ KQ bu w w'->wpAny P .any ops Q fuel (listed.setIfInBounds m true) (a.put oB.dst v) w':=by
 have Y:m<ops.size:=(eZ.1 B.at_).1;have A:=Region.noSelect_spec B.fX;have fin:∀(fuel:Nat) (listed:Array Bool) (a:Act) (w:World) (ω:Ow) (n:Next) (v:Value) (w':World),listed.size=ops.size->kl ops.size (listed.setIfInBounds m true)<=fuel->Inv ops PR m rs M N a0 w0 bu (λj=>listed.getD j false=true) a w ω->
  (execOp a.eval oB).run P w= .ok n w'->(n= .value v\/(n= .skip/\v=undef))->¬(oB.asks P a w/\LetsOut Q)->(∀j,j<m->listed.getD j false=true)->wpAny P .any ops Q fuel (listed.setIfInBounds m true) (a.put oB.dst v) w':=by
  intro fuel listed a w ω n v w' hs Z I k V p l;have hD:(λj=>listed.getD j false=true)=(λj=>j<m):=by funext j;exact propext ⟨I.low j,l j⟩
  have W:=I;rw[hD]at W;have hl:=G a w ω W;have J:ops.toList.drop m=oB::ops.toList.drop (m+1):=by
   have Sw:m<ops.toList.length:=by simpa using Y
   rw[CA Sw];congr 1;have:=(eZ.1 B.at_).2;simpa using this
  rw[J]at hl;unfold wpList at hl;have hw:Region.wanted oB (yielded ops a.tmps)=true:=by simp[Region.wanted,SO]
  rw[if_pos hw]at hl;have hl:=hl.resolve_right p;have hl2:wpList P ops Q (ops.toList.drop (m+1)) (a.put oB.dst v) w':=by
   unfold Oper.wp at hl;rw[k]at hl;rcases V with rfl|⟨rfl,rfl⟩
   ·exact hl
   ·exact hl
  refine BZ S (m+1) (λi h1 h2 j h3 h4=>hT i (by omega) h2 j h3) fuel (m+1) _ _ _ (by simpa using hs) (λj u=>?_) (bc _) Y Z hl2;by_cases e:m=j
  ·subst e;have:(listed.setIfInBounds m true).getD m false=true:=by simp[Array.getD,hs,u]
   rw[this];simp
  ·rw[getD_set_ne false e];constructor
   ·intro h;have:=I.low j h;omega
   ·intro h;exact l j (by omega)
 intro fuel
 induction fuel with
 |zero=>
  intro listed a w ω n v w' hs Z I y k V p O;refine fin 0 listed a w ω n v w' hs Z I k V p λj u=>?_;cases r:listed.getD j false with
  |true=>rfl
  |false=>
   have h1:(listed.setIfInBounds m true).getD j true=false:=by rw[getD_set_ne true (by omega),getD_eq (by omega) true false];exact r
   have:=wv (show j<ops.size by omega) h1;omega
 |succ fuel ih=>
  intro listed a w ω n v w' hs Z I y k V p O;by_cases l:∀j,j<m->listed.getD j false=true
  ·exact fin _ listed a w ω n v w' hs Z I k V p l
  have first:∃j,j<m/\listed.getD j false=false/\j∈Region.ready .any ops listed:=by
   refine fN λtV=>?_;have:∀n,∀j,j<n->j<m->listed.getD j false=true:=by
    intro n
    induction n with
    |zero=>intro j u;omega
    |succ n ua=>
     intro j u IX;cases r:listed.getD j false with
     |true=>rfl
     |false=>
      exfalso;have D_:j<ops.size:=by omega
      refine tV ⟨j,IX,r,mem_ready.2 ⟨by rw[getD_eq (by omega) true false];exact r,ops[j],fR D_,λe he hb=>?_⟩⟩;have hd:=S.tY j _ (fR D_) e he hb;exact ua e.on (by omega) (by omega)
   exact l λj u=>this (j+1) j (qx j) u
  have hmL:listed.getD m false=false:=by
   cases r:listed.getD m false with
   |false=>rfl
   |true=>exact absurd (I.low m r) (nA _)
  refine⟨λhr=>?_,λi hi=>?_⟩
  ·obtain⟨j,u,_,IY⟩:=first
   have:=ready_mono (i:=m) IY (by omega);rw[hr]at this;simp at this
  ·obtain⟨h1,o,h2,h3⟩:=mem_ready.1 hi;have z:=(eZ.1 h2).1;have adh:m≠i:=λe=>by subst e;simp[Array.getD,hs,z]at h1
   have R:listed.getD i false=false:=by rw[getD_set_ne true adh,getD_eq (by omega) true false]at h1;exact h1
   have C:∀x∈PR i,x=m\/listed.getD x false=true:=by
    intro x r;obtain⟨e,he,hb,q⟩:=S.dep i o h2 x r;have T:=h3 e he hb;by_cases em:m=e.on
    ·rcases q with rfl|q
     ·exact .inl em.symm
     ·exact .inr (y x (em▸q))
    ·rw[getD_set_ne false em]at T;rcases q with rfl|q
     ·exact .inr T
     ·exact .inr (I.fc _ T x q)
   have U:i<m:=by
    rcases bR i m with h|h
    ·exact h
    ·exfalso;obtain⟨j,u,SR,_⟩:=first
     rcases C j (hT i (by omega) z j (by omega))with h|h
     ·omega
     ·rw[h]at SR;cases SR
   have E:∀x∈PR i,listed.getD x false=true:=λx r=>(C x r).resolve_left λe=>by have:=S.lt i x r;omega
   have D9:i∉PR m:=λh=>by rw[y i h]at R;cases R
   obtain⟨hg,X,hv⟩:=VA S hm hF hG B I U h2 D9 E;have SU:=B.ap i o U h2 D9;obtain⟨p1,p2,p3⟩:=Oper.apart_spec SU;have eB:execOp (a.put o.dst X).eval oB=execOp a.eval oB:=execOp_put oB (λcs b=>A m oB cs b B.at_) a o.dst X p1;have ei:execOp (a.put oB.dst v).eval o=execOp a.eval o:=OG A h2 SU v;have qc:¬listed.getD i false=true:=by rw[R];simp
   have hI:∃aq,Inv ops PR m rs M N a0 w0 bu (λj=>listed.getD j false=true\/j=i) (a.put o.dst X) w aq:=by
    have h:=I.step (Q:=λ_ _ _=>False) (K:=λa' w'=>∃aq,Inv ops PR m rs M N a0 w0 bu (λj=>listed.getD j false=true\/j=i) a' w' aq) hS S hm hF hG U h2 qc E (λa' w' aq W=>⟨aq,W⟩);unfold wpOp at h;rw[h2]at h;simp only at h;rw[if_pos (by simp[Region.wanted,hg])]at h;rcases h with h|⟨_,_,_,h⟩
    ·unfold Oper.wp at h;rw[hv w (λ_ _ _ _=>rfl)]at h;exact h
    ·exact h.elim
   obtain⟨aq,W⟩:=hI;have adi:(λj=>(listed.setIfInBounds i true).getD j false=true)=(λj=>listed.getD j false=true\/j=i):=by
    funext j;refine propext ⟨λh=>?_,λh=>?_⟩
    ·by_cases e:i=j
     ·exact .inr e.symm
     ·rw[getD_set_ne false e]at h;exact .inl h
    ·rcases h with h|rfl
     ·exact getD_set_true h
     ·simp[Array.getD,hs,z]
   have t:(listed.setIfInBounds m true).setIfInBounds i true=(listed.setIfInBounds i true).setIfInBounds m true:=OH _ _ (by omega);unfold wpOp;rw[h2];simp only;rw[if_pos (by simp[Region.wanted,hg])];left;unfold Oper.wp;rw[ei,hv w' O];show wpAny P .any ops Q fuel ((listed.setIfInBounds m true).setIfInBounds i true) ((a.put oB.dst v).put o.dst X) w';rw[t,<-Act.put_comm a X v p2];refine ih (listed.setIfInBounds i true) (a.put o.dst X) w aq n v w' (by simpa using hs) ?_ (by rw[adi];exact W) (λj u=>getD_set_true (y j u)) (by rw[eB];exact k) V ?_ O
   ·rw[<-t];have:=sQ (listed:=listed.setIfInBounds m true) z (by simpa using hs) h1;omega
   ·rintro ⟨g1,g2⟩;refine p ⟨?_,g2⟩;unfold Oper.asks at*
    rw[eB]at g1;exact g1
theorem W3 (hS:Sound P Gl Γ) (S:jk P sg Gl Γ N ops PR m rs F F0 M cS wr) (hT:∀i,m<i->i<ops.size->∀j,j<i->j∈PR i) (hm:aU w0 bu M) (W:dV w0 bu N F a0.tmps) (X:∀g,Den w0 bu.bare (Gl g) (.pointer (some ⟨g,0,none⟩))) {Q:Exit->Act->World->Prop} (Y:∀d c a v w,Q (.panic c) (Act.put a d v) w->Q (.panic c) a w)
 {KQ:List Nat} {oB:Oper} (B:Ea P Gl N ops PR m rs F0 M cS KQ oB)
 (A:∀a w ω,Inv ops PR m rs M N a0 w0 bu (λj=>j<m) a w ω->wpList P ops Q (ops.toList.drop m) a w):
 ∀(fuel:Nat) (listed:Array Bool) (a:Act) (w:World) (ω:Ow),listed.size=ops.size->kl ops.size listed<=fuel->Inv ops PR m rs M N a0 w0 bu (λj=>listed.getD j false=true) a w ω->wpAny P .any ops Q fuel listed a w:=by
 have K:m<ops.size:=(eZ.1 B.at_).1;intro fuel
 induction fuel with
 |zero=>
  intro listed a w ω hs hu I;exfalso;have r:listed.getD m true=false:=by
   cases t:listed.getD m false with
   |false=>rw[getD_eq (by omega) true false];exact t
   |true=>exact absurd (I.low m t) (nA _)
  have:=wv K r;omega
 |succ fuel ih=>
  intro listed a w ω hs hu I;have r:listed.getD m false=false:=by
   cases t:listed.getD m false with
   |false=>rfl
   |true=>exact absurd (I.low m t) (nA _)
  have l:∀i,i∈Region.ready .any ops listed->∀x∈PR i,listed.getD x false=true:=by
   intro i J x t;obtain⟨h1,o,h2,h3⟩:=mem_ready.1 J;obtain⟨e,O,Z,C⟩:=S.dep i o h2 x t;have R:=h3 e O Z;rcases C with rfl|C
   ·exact R
   ·exact I.fc _ R x C
  refine⟨λhr=>?_,λi J=>?_⟩
  ·exfalso;have:∀n,∀j,j<n->j<ops.size->listed.getD j false=true:=by
    intro n
    induction n with
    |zero=>intro j hj;omega
    |succ n ua=>
     intro j hj T;cases t:listed.getD j false with
     |true=>rfl
     |false=>
      exfalso;have:j∈Region.ready .any ops listed:=mem_ready.2 ⟨by rw[getD_eq (by omega) true false];exact t,ops[j],fR T,λe O Z=>by have hd:=S.tY j _ (fR T) e O Z;exact ua e.on (by omega) (by omega)⟩
      rw[hr]at this;simp at this
   rw[this (m+1) m (qx m) K]at r;cases r
  ·obtain⟨h1,o,h2,h3⟩:=mem_ready.1 J;have E:=(eZ.1 h2).1;have qc:¬listed.getD i false=true:=by rw[getD_eq (by omega) false true,h1];simp
   have U:(λj=>(listed.setIfInBounds i true).getD j false=true)=(λj=>listed.getD j false=true\/j=i):=by
    funext j;refine propext ⟨λh=>?_,λh=>?_⟩
    ·by_cases e:i=j
     ·exact .inr e.symm
     ·rw[getD_set_ne false e]at h;exact .inl h
    ·rcases h with h|rfl
     ·exact getD_set_true h
     ·simp[Array.getD,hs,E]
   have hu':=sQ E hs h1;rcases B8 i m with q|q|q
   ·refine I.step hS S hm W X q h2 qc (l i J) λa' w' aq I'=>ih _ a' w' aq (by simpa using hs) (by omega) ?_;rw[U];exact I'
   ·subst q;obtain rfl:o=oB:=aV (h2.symm.trans B.at_);have V:=l i J;obtain⟨g1,g2,g3⟩:=I.all S hm W V (λj hj=>S.closed i j hj);have lZ:St P Gl N (vF rs F0 (PR i)) (vM rs M (PR i)) a w (dd rs M ω (PR i)):=⟨g2,λg=>Den.ext (o:=bu.bare) (I.p5 S hm (PR i)).bare (X g),g1,I.defers⟩;obtain⟨nx,pr,κ,O,hp,vT⟩:=B.IW;obtain⟨hg,_,n,v,w',u,hn,G⟩:=Vz lZ O hp;unfold wpOp;rw[h2];simp only;rw[if_pos (by simp[Region.wanted,hg])];by_cases y:o.asks P a w/\LetsOut Q
    ·exact .inr y
    left;have IZ:SQ KQ bu w w':=by
     intro k hk L hL;obtain⟨hf,tV⟩:=B.key k hk;have z:(dd rs M ω (PR i)).β k none=some L:=by rw[sub_eq (λh=>by have:=h.1;rw[hf]at this;cases this),I.na k none (λ_ _ _=>hf)];exact hL
     refine G L.b (g1.low _ _ _ z) λk' xC p L' Ag e=>?_;obtain⟨rfl,_⟩:=g1.inj _ _ _ _ _ _ Ag z e;exact vT _ xC hk
    have:=ph2 hS S hT hm W X Y B hg A fuel listed a w ω n v w' hs (by omega) I V u hn y IZ;unfold Oper.wp;rw[u];rcases hn with rfl|⟨rfl,rfl⟩
    ·exact this
    ·exact this
   ·exfalso;have:=l i J m (hT i q E m q);rw[r]at this;cases this
end
end Go.Sy
