/-
  Sy: regions that draw their order: all orders.
-/
import Derived.Test.YthgmgkabnffniaaGreatDoorYE
set_option linter.unusedVariables false
set_option linter.unusedSimpArgs false
set_option linter.unusedVariables false
set_option linter.unusedSimpArgs false
namespace Go.Sy
open Go.RowKit Classical
def keys (rs:List Rc) (j:Nat):List Nat:=(cr rs j).u.map (·.1)
def jr (rs:List Rc) (M:Mem) (E:List Nat) (k:Nat):Prop:=cv (ae M) k=true/\(∃j,k∈keys rs j)/\ ¬ ∃j∈E,k∈keys rs j
noncomputable def db (rs:List Rc) (M:Mem) (ω:Ow) (E:List Nat):Ow:=⟨ω.A,ω.Z,λk p=>if jr rs M E k then none else ω.β k p,ω.cur⟩
def Vf (M:Mem) (e:bk) (k:Nat):Prop:= ∃r d n l,ae M k=⟨r,d,none,.cells (py n)⟩/\l.length=n/\e=⟨r,d,none,.cells l⟩
def uV (bj:Ow) (W:Nat->Prop) (w0 w:World):Prop:=w.os=w0.os/\w.tape=w0.tape/\w.output=w0.output/\w0.heap.size<=w.heap.size/\
  ∀b,b<w0.heap.size->(∀k,W k-> ∀L,bj.β k none=some L->L.b≠b)->w.heap[b]? =w0.heap[b]?
def Wr (rs:List Rc) (M:Mem) (D:Nat->Prop) (k:Nat):Prop:=cv (ae M) k=false/\ ∃j,D j/\k∈keys rs j
def kQ (ops:Array Oper) (i:Nat):Option Nat:=(ops[i]?).bind (·.dst)
theorem Ew {k:Nat}: ∀{u:aX} {M:Mem},k∈u.map (·.1)->ae (u++M) k=ae u k
  | [],_,h=>by simp at h
  |p::r,M,h=>by
   by_cases hk:p.1=k
   · obtain⟨p1,p2⟩:=p
     subst hk
     rw[List.cons_append,dp,dp]
   · obtain⟨p1,p2⟩:=p
     rw[List.cons_append,cC hk,cC hk]
     refine Ew ?_
     simp only[List.map_cons,List.mem_cons]at h
     exact h.resolve_left (λe=>hk e.symm)
theorem A1 {k:Nat}: ∀{u:aX} {M:Mem},k∉u.map (·.1)->ae (u++M) k=ae M k
  | [],_,_=>rfl
  |p::r,M,h=>by
   obtain⟨p1,p2⟩:=p
   simp only[List.map_cons,List.mem_cons,not_or]at h
   rw[List.cons_append,cC (Ne.symm h.1)]
   exact A1 h.2
theorem D6 {rs:List Rc} {M:Mem} {j:Nat} {E:List Nat}:vM rs M (j::E)=(cr rs j).u++vM rs M E:=by simp[vM]
theorem sE {rs:List Rc} {M:Mem} {k:Nat}: ∀{E:List Nat},(∀j∈E,k∉keys rs j)->ae (vM rs M E) k=ae M k
  | [],_=>rfl
  |j::E,h=>by
   rw[D6,A1 (h j (by simp))]
   exact sE λi hi=>h i (by simp[hi])
theorem xZ {rs:List Rc} {M:Mem} {k j:Nat} (hd: ∀i j,k∈keys rs i->k∈keys rs j->i=j) (hk:k∈keys rs j): ∀{E:List Nat},j∈E->ae (vM rs M E) k=ae (cr rs j).u k
  | [],h=>by simp at h
  |i::E,h=>by
   rw[D6]
   by_cases hi:k∈keys rs i
   · obtain rfl:=hd i j hi hk
     exact Ew hi
   · rw[A1 hi]
     rcases List.mem_cons.1 h with rfl|h
     · exact absurd hk hi
     · exact xZ hd hk h
structure k_ (P:Program) (sg:Bool) (Gl:Nat->SV) (Γ:Table) (N:Nat) (ops:Array Oper) (PR:Nat->List Nat) (m:Nat) (rs:List Rc) (F F0:Fr) (M:Mem) (cN wr:Nat->Bool):Prop where
  dep: ∀i o,ops[i]? =some o-> ∀x∈PR i,∃e∈o.after,Region.binds .any e=true/\(x=e.on\/x∈PR e.on)
  closed: ∀i j,j∈PR i-> ∀k∈PR j,k∈PR i
  lt: ∀i j,j∈PR i->j<i
  xj: ∀i o,ops[i]? =some o-> ∀e∈o.after,Region.binds .any e=true->e.on<i
  le:m<=ops.size
  ev: ∀i o,i<m->ops[i]? =some o->cN i=false->wr i=false-> ∃nx p,sS P sg Gl Γ N ops.toList (vF rs F0 (PR i)) (vM rs M (PR i)) (vH rs (PR i)) nx (PR i) o=some (p,cr rs i)/\p
  evw: ∀i o,i<m->ops[i]? =some o->cN i=false->wr i=true->o.dst=none/\(cr rs i).fs= []/\(cr rs i).hs= []/\ ∃k,evalW P Gl N ops.toList (vF rs F0 (PR i)) (vM rs M (PR i)) (vH rs (PR i)) o=some (k,(cr rs i).u)/\cv (ae M) k=false
  fr: ∀i,wr i=false-> ∀k∈keys rs i,cv (ae M) k=true
  J7: ∀i o,i<m->ops[i]? =some o->cN i=true->o.guard=none/\ ∃s,cr rs i=⟨jj N o.dst s,[],[]⟩/\(uT P sg (vF rs F0 (PR i)) (ae (vM rs M (PR i))) o.op).run (λs'=>s'=s)
  apart: ∀i oi,i<m->cN i=true->ops[i]? =some oi-> ∀j oj,ops[j]? =some oj->j≠i->j∉PR i->(∀e∈oj.after,Region.binds .any e=true->e.on≠i)->oi.apart ops oj=true
  gQ: ∀i,i<m->cN i=true->Region.noSelect ops=true
  fs: ∀i p,p∈(cr rs i).fs->kQ ops i=some p.1/\p.1<N
  hs: ∀i h,h∈(cr rs i).hs->kQ ops i=some h.slot/\ ∃g∈PR i,kQ ops g=some h.d
  one: ∀i j t,i<m->j<m->kQ ops i=some t->kQ ops j=some t->i=j
  key: ∀i j k,k∈keys rs i->k∈keys rs j->i=j
  free: ∀i k,k∈keys rs i->cv (ae M) k=true\/(cv (ae M) k=false/\Vf M (ae (cr rs i).u k) k)
  Vk: ∀i k,k∈keys rs i->(ae (cr rs i).u k).rs=(ae M k).rs/\(ae (cr rs i).u k).ds=(ae M k).ds
  short: ∀i,m<=i->cr rs i=⟨[],[],[]⟩
  base: ∀t,look F0 t= .aF\/(look F0 t=look F t/\ ∀i,i<m->kQ ops i≠some t)
  out: ∀t,N<=t->look F0 t= .aF
structure Inv (ops:Array Oper) (PR:Nat->List Nat) (m:Nat) (rs:List Rc) (M:Mem) (N:Nat) (a0:Act) (w0:World) (bj:Ow) (D:Nat->Prop) (a:Act) (w:World) (ω:Ow):Prop where
  low: ∀j,D j->j<m
  fJ: ∀j,D j-> ∀k∈PR j,D k
  cw:uV bj (Wr rs M D) w0 w
  J5: ∀j k,k∈keys rs j->cv (ae M) k=false-> ∀L,bj.β k none=some L-> ∃c T,w.heap[L.b]? =some (Obj.cells c T (0,0))/\c.size=L.len
  A0: ∀b,bj.A b->ω.A b
  fg: ∀b,ω.A b->b<w.heap.size
  I0: ∀b,b<w0.heap.size-> ¬bj.A b-> ¬ω.A b
  Z:ω.Z=bj.Z
  dj: ∀b,ω.A b-> ¬ω.Z b
  cur:ω.cur=bj.cur
  p8: ∀k p,(∀j,D j->k∈keys rs j->cv (ae M) k=false)->ω.β k p=bj.β k p
  own: ∀k p L,ω.β k p=some L->ω.A L.b
  inj: ∀k p L k' p' L',ω.β k p=some L->ω.β k' p'=some L'->L.b=L'.b->k=k'/\p=p'
  defers:a.defers= []
  size:a.tmps.size=N
  keep: ∀t,(∀j,D j->kQ ops j≠some t)->a.tmps[t]? =a0.tmps[t]?
  xh: ∀j,D j->aR w (db rs M ω (j::PR j)) (vM rs M (j::PR j))/\Br w (db rs M ω (j::PR j)) N a (cr rs j)
section
variable {P:Program} {sg:Bool} {Gl:Nat->SV} {Γ:Table} {N:Nat} {ops:Array Oper} {PR:Nat->List Nat} {m:Nat} {rs:List Rc} {F F0:Fr} {M:Mem} {cN wr:Nat->Bool}
variable {a0 a:Act} {w0 w:World} {bj ω:Ow} {D:Nat->Prop}
theorem sub_eq {E:List Nat} {k:Nat} {p:Path} (h: ¬jr rs M E k):(db rs M ω E).β k p=ω.β k p:=if_neg h
theorem A2 {E:List Nat} {k:Nat} {p:Path} (h:jr rs M E k):(db rs M ω E).β k p=none:=if_pos h
theorem HF {E E':List Nat} (h: ∀j∈E,j∈E'):Ext w (db rs M ω E) w (db rs M ω E'):=
  ⟨rfl,rfl,rfl,λ_ _ _=>rfl,λ_ _ h=>h,λ_ _ _ h=>h,Nat.le_refl _,λ_=>⟨Nat.le_refl _,Nat.le_refl _⟩,λk p L hL _=>by
    by_cases hk:jr rs M E k
    · rw[A2 hk]at hL;cases hL
    · rw[sub_eq hk]at hL
      rw[sub_eq]
      · exact hL
      · rintro ⟨h0,J,h2⟩
        exact hk ⟨h0,J,λ⟨j,hj,dy⟩=>h2 ⟨j,h j hj,dy⟩⟩,λ_ h=>h⟩
theorem uf {E:List Nat} {k:Nat} {p:Path} {L:Loc} (h:(db rs M ω E).β k p=some L): ¬jr rs M E k/\ω.β k p=some L:=by
  by_cases hk:jr rs M E k
  · rw[A2 hk]at h;cases h
  · exact⟨hk,by rwa [sub_eq hk]at h⟩
theorem Inv.s_ (S:k_ P sg Gl Γ N ops PR m rs F F0 M cN wr) (hm:aR w0 bj M) (I:Inv ops PR m rs M N a0 w0 bj D a w ω) (E:List Nat):Ext w0 bj w (db rs M ω E):=
  ⟨I.cw.1,I.cw.2.1,I.cw.2.2.1,λb hb hn=>I.cw.2.2.2.2 b hb (λk _ L hL e=>hn (hm.own b ⟨k,none,L,hL,e⟩)),I.I0,λb _ _ hz xk=>hz (by rw[<-I.Z];exact xk),I.cw.2.2.2.1,λk=>by rw[show(db rs M ω E).cur=bj.cur from I.cur];exact⟨Nat.le_refl _,Nat.le_refl _⟩,λk p L hL _=>by
    have cj:cv (ae M) k=false:=by
      cases hf:cv (ae M) k with
      |false=>rfl
      |true=>have:=(mV hm hf).2.2 p;rw[this]at hL;cases hL
    rw[sub_eq (λh=>by have:=h.1;rw[cj]at this;cases this),I.p8 k p (λ_ _ _=>cj)]
    exact hL,λb hz=>by show ω.Z b;rw[I.Z];exact hz⟩
theorem Inv.all (S:k_ P sg Gl Γ N ops PR m rs F F0 M cN wr) (hm:aR w0 bj M) (hF:eH w0 bj N F a0.tmps) (I:Inv ops PR m rs M N a0 w0 bj D a w ω) {E:List Nat} (hE: ∀j∈E,D j) (hc: ∀j∈E,∀k∈PR j,k∈E):
    aR w (db rs M ω E) (vM rs M E)/\eH w (db rs M ω E) N (vF rs F0 E) a.tmps/\iU w (db rs M ω E) N a (vH rs E):=by
  have e0:=I.s_ S hm E
  have inc: ∀{j},j∈E-> ∀i∈j::PR j,i∈E:=λhj i hi=>by
    rcases List.mem_cons.1 hi with rfl|hi
    · exact hj
    · exact hc _ hj _ hi
  have Ey: ∀k,(∃j∈E,k∈keys rs j)\/(∀j∈E,k∉keys rs j):=λk=>by
    by_cases h: ∃j∈E,k∈keys rs j
    · exact .inl h
    · exact .inr λj hj hk=>h ⟨j,hj,hk⟩
  have EX: ∀{j k},j∈E->k∈keys rs j->ae (vM rs M E) k=ae (vM rs M (j::PR j)) k:=λhj hk=>by
    rw[xZ (λi j=>S.key i j _) hk hj,xZ (λi j=>S.key i j _) hk (by simp)]
  have v_: ∀{j k} {E':List Nat},j∈E'->k∈keys rs j-> ¬jr rs M E' k:=λhj hk h=>h.2.2 ⟨_,hj,hk⟩
  refine⟨⟨?_,?_,I.fg,I.dj,?_,?_,?_,?_,?_,?_⟩,⟨I.size,?_,?_⟩,?_⟩
  · show ω.cur=_
    rw[I.cur,hm.cur]
    funext k
    unfold dF
    rcases Ey k with⟨j,hj,hk⟩|cj
    · rw[xZ (λi j=>S.key i j _) hk hj,(S.Vk j k hk).1,(S.Vk j k hk).2]
    · rw[sE cj]
  · rintro b ⟨k,p,L,h,rfl⟩
    exact I.own _ _ _ (uf h).2
  · intro b hz
    have hz:ω.Z b:=hz
    rw[I.Z]at hz
    exact Nat.lt_of_lt_of_le (hm.gJ b hz) I.cw.2.2.2.1
  · intro k p L k' p' L' J h2 e
    exact I.inj _ _ _ _ _ _ (uf J).2 (uf h2).2 e
  · intro k p L h
    exact I.fg _ (I.own _ _ _ (uf h).2)
  · intro k p L h
    obtain⟨J_,hL⟩:=uf h
    rcases Ey k with⟨j,hj,hk⟩|cj
    · obtain⟨xe,_⟩:=I.xh j (hE j hj)
      obtain⟨r,g1,g2,g3,g4⟩:=xe.row k p L (by rw[sub_eq (v_ (by simp) hk)];exact hL)
      refine⟨r,by unfold rowAt at g1⊢;rw[EX hj hk];exact g1,g2,g3,?_⟩
      rw[EX hj hk]
      exact g4.ext (HF (inc hj)) rfl (λq=>by rw[sub_eq J_,sub_eq (v_ (by simp) hk)]) rfl
    · have Fe: ∀i,k∈keys rs i->cv (ae M) k=false:=λi pM=>by
        cases hf:cv (ae M) k with
        |false=>rfl
        |true=>exact absurd ⟨hf,⟨i,pM⟩,λ⟨j,hj,hk⟩=>cj j hj hk⟩ J_
      rw[I.p8 k p (λj _=>Fe j)]at hL
      obtain⟨r,g1,g2,g3,g4⟩:=hm.row k p L hL
      refine⟨r,by unfold rowAt at g1⊢;rw[sE cj];exact g1,g2,g3,?_⟩
      rw[sE cj]
      by_cases hW: ∃i,k∈keys rs i
      · obtain⟨i,pM⟩:=hW
        obtain⟨_,r0,d0,n,l',e1,e2,e3⟩:=(S.free i k pM).resolve_left (by rw[Fe i pM];simp)
        cases p with
        |some ij=>unfold rowAt at g1;rw[e1]at g1;cases g1
        |none=>
         unfold rowAt at g1;rw[e1]at g1
         obtain rfl:=Option.some.inj g1
         obtain⟨c,T,J,h2⟩:=I.J5 i k pM (Fe i pM) L hL
         obtain⟨c0,T0,f1,f2,f3,f4⟩:=g4
         refine⟨c,T,J,h2,f3,λa ha b hb=>?_⟩
         have av:L.o+a*L.sz+b<c.size:=by have:=oD ha hb;omega
         exact⟨_,Array.getElem?_eq_getElem av,by show cI _ _ _ _ _ _ (aL (py n) b) _;rw[DM];trivial⟩
      · refine g4.ext e0 (by rw[show(db rs M ω E).cur=bj.cur from I.cur]) (λq=>by rw[sub_eq J_,I.p8 k q (λj _=>Fe j)]) (I.cw.2.2.2.2 _ (hm.low k p L hL) ?_)
        rintro k' ⟨tF,j',la,cR⟩ L' fK e
        obtain⟨rfl,_⟩:=hm.inj _ _ _ _ _ _ fK hL e
        exact hW ⟨j',cR⟩
  · intro k l hl
    rcases Ey k with⟨j,hj,hk⟩|cj
    · rw[EX hj hk]at hl
      obtain⟨L,hL⟩:=(I.xh j (hE j hj)).1.live k l hl
      exact⟨L,by rw[sub_eq (v_ hj hk)];exact(uf hL).2⟩
    · rw[sE cj]at hl
      have hf:cv (ae M) k=false:=by unfold cv;rw[hl];rfl
      obtain⟨L,hL⟩:=hm.live k l hl
      exact⟨L,by rw[sub_eq (λh=>by have:=h.1;rw[hf]at this;cases this),I.p8 k none (λ_ _ _=>hf)];exact hL⟩
  · intro k i j hh
    by_cases UM:jr rs M E k
    · exact A2 UM
    rw[sub_eq UM]
    rcases Ey k with⟨q,hq,hk⟩|cj
    · rw[EX hq hk]at hh
      have:=(I.xh q (hE q hq)).1.fm k i j hh
      rwa [sub_eq (v_ (by simp) hk)]at this
    · rw[sE cj]at hh
      have hf:cv (ae M) k=false:=by unfold cv;rw[hh];cases Rk (ae M k).b<;>rfl
      rw[I.p8 k _ (λ_ _ _=>hf)]
      exact hm.fm k i j hh
  · intro t u hu
    have Y9: ∀(l:List (Nat×SV)) (G:Fr),(∃s,(t,s)∈l/\look (l++G) t=s)\/((∀p∈l,p.1≠t)/\look (l++G) t=look G t):=by
      intro l G
      induction l with
      |nil=>exact .inr ⟨λp hp=>by simp at hp,rfl⟩
      |cons p r ih=>
       obtain⟨p1,p2⟩:=p
       by_cases hp:p1=t
       · subst hp
         exact .inl ⟨p2,by simp,look_eq⟩
       · rw[List.cons_append,sH hp]
         rcases ih with⟨s,J,h2⟩|⟨J,h2⟩
         · exact .inl ⟨s,by simp[J],h2⟩
         · exact .inr ⟨λq hq=>by rcases List.mem_cons.1 hq with rfl|hq;exact hp;exact J q hq,h2⟩
    show Den w _ (look (E.flatMap (λj=>(cr rs j).fs)++F0) t) u
    rcases Y9 (E.flatMap λj=>(cr rs j).fs) F0 with⟨s,J,h2⟩|⟨J,h2⟩
    · rw[h2]
      obtain⟨j,hj,rV⟩:=List.mem_flatMap.1 J
      exact((I.xh j (hE j hj)).2.1 (t,s) rV u hu).ext (HF (inc hj))
    · rw[h2]
      rcases S.base t with e|⟨e,cj⟩
      · rw[e];trivial
      · rw[e]
        refine(hF.den t u ?_).ext e0
        rw[<-I.keep t λj hj=>cj j (I.low j hj)]
        exact hu
  · intro t ht
    have Y_: ∀(l:List (Nat×SV)) (G:Fr),(∀p∈l,p.1<N)->look (l++G) t=look G t:=by
      intro l G h
      induction l with
      |nil=>rfl
      |cons p r ih=>
       obtain⟨p1,p2⟩:=p
       have:=h (p1,p2) (by simp)
       rw[List.cons_append,sH (by simp at this;omega)]
       exact ih λq hq=>h q (by simp[hq])
    show look (E.flatMap (λj=>(cr rs j).fs)++F0) t= .aF
    rw[Y_ _ _ λp hp=>by
     obtain⟨j,hj,rV⟩:=List.mem_flatMap.1 hp
     exact(S.fs j p rV).2]
    exact S.out t ht
  · intro h hh
    obtain⟨j,hj,rV⟩:=List.mem_flatMap.1 hh
    exact(iU.ext (I.xh j (hE j hj)).2.2 (HF (inc hj))) h rV
end
end Go.Sy
set_option linter.unusedVariables false
set_option linter.unusedSimpArgs false
namespace Go.Sy
open Go.RowKit Classical
theorem Cw.trans {w w' gg:World} (h:Cw w w') (k:Cw w' gg):Cw w gg:=
  ⟨k.1.trans h.1,k.2.1.trans h.2.1,k.2.2.1.trans h.2.2.1,Nat.le_trans h.2.2.2.1 k.2.2.2.1,λb hb=>(k.2.2.2.2 b (Nat.lt_of_lt_of_le hb h.2.2.2.1)).trans (h.2.2.2.2 b hb)⟩
theorem uV.cw {bj:Ow} {W W':Nat->Prop} {w0 w w':World} (h:uV bj W w0 w) (k:Cw w w') (hW: ∀q,W q->W' q):uV bj W' w0 w':=
  ⟨k.1.trans h.1,k.2.1.trans h.2.1,k.2.2.1.trans h.2.2.1,Nat.le_trans h.2.2.2.1 k.2.2.2.1,λb hb hn=>(k.2.2.2.2 b (Nat.lt_of_lt_of_le hb h.2.2.2.1)).trans (h.2.2.2.2 b hb λq hq=>hn q (hW q hq))⟩
theorem uV.one {bj:Ow} {W W':Nat->Prop} {w0 w w':World} (h:uV bj W w0 w) {L:Loc} (k:One w w' L.b) (hW: ∀q,W q->W' q) {q0:Nat} (h0:W' q0) (hL:bj.β q0 none=some L):uV bj W' w0 w':=
  ⟨k.1.trans h.1,k.2.1.trans h.2.1,k.2.2.1.trans h.2.2.1,by rw[k.2.2.2.1];exact h.2.2.2.1,λb hb hn=>(k.2.2.2.2 b (λe=>hn q0 h0 L hL e.symm)).trans (h.2.2.2.2 b hb λq hq=>hn q (hW q hq))⟩
theorem aR.grow {w w':World} {o o':Ow} {M:Mem} (hm:aR w o M) (hc:Cw w w') (he:Ext w o w' o') (cZ: ∀k p,o'.β k p=o.β k p) (yX:o'.cur=o.cur) (hZ:o'.Z=o.Z) (hA: ∀b,o.A b->o'.A b) (hlA: ∀b,o'.A b->b<w'.heap.size) (jZ: ∀b,o'.A b-> ¬o'.Z b):aR w' o' M where
  cur:=yX.trans hm.cur
  own:=λb ⟨k,p,L,J,h2⟩=>hA b (hm.own b ⟨k,p,L,by rw[<-cZ];exact J,h2⟩)
  fg:=hlA
  dj:=jZ
  gJ:=λb hz=>Nat.lt_of_lt_of_le (hm.gJ b (by rw[<-hZ];exact hz)) hc.2.2.2.1
  inj:=λk p L k' p' L' J h2 e=>hm.inj k p L k' p' L' (by rw[<-cZ];exact J) (by rw[<-cZ];exact h2) e
  low:=λk p L h=>Nat.lt_of_lt_of_le (hm.low k p L (by rw[<-cZ];exact h)) hc.2.2.2.1
  row:=λk p L h=>by
    rw[cZ]at h
    obtain⟨r,J,h2,h3,h4⟩:=hm.row k p L h
    exact⟨r,J,h2,h3,h4.ext he (by rw[yX]) (λq=>cZ k q) (hc.2.2.2.2 _ (hm.low k p L h))⟩
  live:=λk l h=>by obtain⟨L,hL⟩:=hm.live k l h;exact⟨L,by rw[cZ];exact hL⟩
  fm:=λk i j h=>by rw[cZ];exact hm.fm k i j h
section
variable {P:Program} {sg:Bool} {Gl:Nat->SV} {Γ:Table} {N:Nat} {ops:Array Oper} {PR:Nat->List Nat} {m:Nat} {rs:List Rc} {F F0:Fr} {M:Mem} {cN wr:Nat->Bool}
variable {a0 a:Act} {w0 w:World} {bj ω:Ow} {D:Nat->Prop}
theorem yw {t:Nat} {d:Option Tmp} {v:Value} (h:d≠some t):(a.put d v).tmps[t]? =a.tmps[t]? :=by
  cases d with
  |none=>rfl
  |some x=>
   have:x≠t:=λe=>h (by rw[e])
   simp only[Act.put,Array.getElem?_setIfInBounds_ne this]
theorem Y8 {d:Option Tmp} {v:Value}:(a.put d v).tmps.size=a.tmps.size:=by cases d<;>simp[Act.put]
theorem Inv.Ri (S:k_ P sg Gl Γ N ops PR m rs F F0 M cN wr) (hm:aR w0 bj M)
    (I:Inv ops PR m rs M N a0 w0 bj D a w ω) {i:Nat} {o:Oper} (hi:i<m) (ho:ops[i]? =some o) (fY: ¬D i) (gL: ∀j∈PR i,D j) (oQ: ∀k∈keys rs i,cv (ae M) k=true) {v:Value} {w':World} {d_:Ow}
    (lP:bp w (db rs M ω (PR i)) (vM rs M (PR i)) w' d_ ((cr rs i).u++vM rs M (PR i))) (iQ:kA w (db rs M ω (PR i)) w' d_ (λk=>k∈(cr rs i).u.map (·.1))) (A_:Br w' d_ N (a.put o.dst v) (cr rs i)):
    Inv ops PR m rs M N a0 w0 bj (λj=>D j\/j=i) (a.put o.dst v) w' ⟨d_.A,ω.Z,λk p=>if k∈keys rs i then d_.β k p else ω.β k p,ω.cur⟩:=by
  have fU:kQ ops i=o.dst:=by simp[kQ,ho]
  have J4:d_.Z=ω.Z:=iQ.Z
  have hcq:d_.cur=ω.cur:=iQ.cur
  have dW: ∀b,b<w.heap.size-> ¬ω.A b-> ¬d_.A b:=λb hb hn=>lP.ext.free b hb hn
  have IZ: ∀b,ω.A b->d_.A b:=λb hb=>iQ.A b hb
  have BS: ∀{k p},k∈keys rs i->(if k∈keys rs i then d_.β k p else ω.β k p)=d_.β k p:=λh=>if_pos h
  have uD: ∀{k p},k∉keys rs i->(if k∈keys rs i then d_.β k p else ω.β k p)=ω.β k p:=λh=>if_neg h
  have jq:uV bj (Wr rs M λj=>D j\/j=i) w0 w':=I.cw.cw iQ.cw λq ⟨J,j,h2,h3⟩=>⟨J,j,.inl h2,h3⟩
  have agf:db rs M ⟨d_.A,ω.Z,λk p=>if k∈keys rs i then d_.β k p else ω.β k p,ω.cur⟩ (i::PR i)=d_:=by
    show(⟨d_.A,ω.Z,_,ω.cur⟩:Ow)=⟨d_.A,d_.Z,d_.β,d_.cur⟩
    rw[J4,hcq]
    congr 1
    funext k p
    by_cases hk:k∈keys rs i
    · have: ¬jr rs M (i::PR i) k:=λh=>h.2.2 ⟨i,by simp,hk⟩
      simp only[if_neg this,if_pos hk]
    · rw[iQ.β k p hk]
      show _=if jr rs M (PR i) k then none else ω.β k p
      have:jr rs M (i::PR i) k↔jr rs M (PR i) k:=by
        constructor
        · rintro ⟨h0,J,h2⟩
          exact⟨h0,J,λ⟨j,hj,dy⟩=>h2 ⟨j,by simp[hj],dy⟩⟩
        · rintro ⟨h0,J,h2⟩
          refine⟨h0,J,?_⟩
          rintro ⟨j,hj,dy⟩
          rcases List.mem_cons.1 hj with rfl|hj
          · exact hk dy
          · exact h2 ⟨j,hj,dy⟩
      by_cases hh:jr rs M (PR i) k
      · rw[if_pos (this.2 hh),if_pos hh]
      · rw[if_neg (λh=>hh (this.1 h)),if_neg hh];exact uD hk
  refine⟨?_,?_,jq,λj k hk hf L hL=>?_,λb hb=>IZ b (I.A0 b hb),lP.mem.fg,?_,I.Z,?_,I.cur,?_,?_,?_,by rw[Act.put_defers];exact I.defers,by rw[Y8];exact I.size,?_,?_⟩
  · rintro j (h|rfl)
    · exact I.low j h
    · exact hi
  · rintro j (h|rfl) k hk
    · exact .inl (I.fJ j h k hk)
    · exact .inl (gL k hk)
  · obtain⟨c,T,J,h2⟩:=I.J5 j k hk hf L hL
    refine⟨c,T,?_,h2⟩
    rw[iQ.cw.2.2.2.2 _ (Nat.lt_of_lt_of_le (hm.low k none L hL) I.cw.2.2.2.1)]
    exact J
  · intro b hb hn
    exact dW b (Nat.lt_of_lt_of_le hb I.cw.2.2.2.1) (I.I0 b hb hn)
  · intro b hb
    show¬ω.Z b
    rw[<-J4]
    exact lP.mem.dj b hb
  · intro k p hk
    show(if k∈keys rs i then d_.β k p else ω.β k p)=_
    rw[uD (λh=>by have:=hk i (.inr rfl) h;rw[oQ k h]at this;cases this)]
    exact I.p8 k p λj hj=>hk j (.inl hj)
  · intro k p L hL
    have hL:(if k∈keys rs i then d_.β k p else ω.β k p)=some L:=hL
    by_cases hk:k∈keys rs i
    · rw[BS hk]at hL
      exact lP.mem.own _ ⟨k,p,L,hL,rfl⟩
    · rw[uD hk]at hL
      exact IZ _ (I.own k p L hL)
  · intro k p L k' p' L' J h2 e
    have J:(if k∈keys rs i then d_.β k p else ω.β k p)=some L:=J
    have h2:(if k'∈keys rs i then d_.β k' p' else ω.β k' p')=some L':=h2
    by_cases hk:k∈keys rs i<;>by_cases cR:k'∈keys rs i
    · rw[BS hk]at J;rw[BS cR]at h2
      exact lP.mem.inj _ _ _ _ _ _ J h2 e
    · rw[BS hk]at J;rw[uD cR]at h2
      have e1:=iQ.new k p L hk J
      have e2:=I.fg _ (I.own k' p' L' h2)
      omega
    · rw[uD hk]at J;rw[BS cR]at h2
      have e1:=iQ.new k' p' L' cR h2
      have e2:=I.fg _ (I.own k p L J)
      omega
    · rw[uD hk]at J;rw[uD cR]at h2
      exact I.inj _ _ _ _ _ _ J h2 e
  · intro t ht
    rw[yw (by rw[<-fU];exact ht i (.inr rfl))]
    exact I.keep t λj hj=>ht j (.inl hj)
  · rintro j (hj|rfl)
    · have tB:j≠i:=λe=>fY (e▸hj)
      have J6:i∉j::PR j:=by
        intro h
        rcases List.mem_cons.1 h with h|h
        · exact tB h.symm
        · exact fY (I.fJ j hj i h)
      have UL: ∀k p,(db rs M ⟨d_.A,ω.Z,λk p=>if k∈keys rs i then d_.β k p else ω.β k p,ω.cur⟩ (j::PR j)).β k p=(db rs M ω (j::PR j)).β k p:=by
        intro k p
        by_cases hh:jr rs M (j::PR j) k
        · rw[A2 hh,A2 hh]
        · rw[sub_eq hh,sub_eq hh]
          show(if k∈keys rs i then d_.β k p else ω.β k p)=_
          refine uD λhk=>hh ⟨oQ k hk,⟨i,hk⟩,?_⟩
          rintro ⟨q,hq,xf⟩
          exact J6 ((S.key i q k hk xf)▸hq)
      have bM:Ext w (db rs M ω (j::PR j)) w' (db rs M ⟨d_.A,ω.Z,λk p=>if k∈keys rs i then d_.β k p else ω.β k p,ω.cur⟩ (j::PR j)):=
        ⟨iQ.cw.1,iQ.cw.2.1,iQ.cw.2.2.1,λb hb _=>iQ.cw.2.2.2.2 b hb,dW,λ_ _ _ h=>h,iQ.cw.2.2.2.1,λ_=>⟨Nat.le_refl _,Nat.le_refl _⟩,λk p L hL _=>by rw[UL];exact hL,λ_ h=>h⟩
      obtain⟨k1,k2,k3⟩:=I.xh j hj
      refine⟨k1.grow iQ.cw bM UL rfl rfl IZ lP.mem.fg (λb hb=>?_),λp hp u hu=>?_,?_⟩
      · show¬ω.Z b
        rw[<-J4]
        exact lP.mem.dj b hb
      · have ba:o.dst≠some p.1:=by
          rw[<-fU]
          intro e
          exact tB (S.one j i p.1 (I.low j hj) hi (S.fs j p hp).1 e)
        rw[yw ba]at hu
        exact(k2 p hp u hu).ext bM
      · intro h hh
        obtain⟨d1,g,hg,d2⟩:=S.hs j h hh
        have Vh:D g:=I.fJ j hj g hg
        have n1:o.dst≠some h.slot:=by
          rw[<-fU];intro e
          exact tB (S.one j i _ (I.low j hj) hi d1 e)
        have n2:o.dst≠some h.d:=by
          rw[<-fU];intro e
          have:g=i:=S.one g i _ (I.low g Vh) hi d2 e
          exact fY (this▸Vh)
        have h0:=k3 h hh
        exact⟨h0.lt,λe u hu=>(h0.yes (by rw[<-yw n2];exact e) u (by rw[<-yw n1];exact hu)).ext bM,λe=>by rw[yw n1];exact h0.no (by rw[<-yw n2];exact e)⟩
    · rw[agf,D6]
      exact⟨lP.mem,A_⟩
theorem Inv.after (S:k_ P sg Gl Γ N ops PR m rs F F0 M cN wr) (hm:aR w0 bj M)
    (I:Inv ops PR m rs M N a0 w0 bj D a w ω) {i:Nat} {o:Oper} (hi:i<m) (ho:ops[i]? =some o) (fY: ¬D i) (gL: ∀j∈PR i,D j) (oQ: ∀k∈keys rs i,cv (ae M) k=true) {v:Value} {w':World} {d_:Ow}
    (lP:bp w (db rs M ω (PR i)) (vM rs M (PR i)) w' d_ ((cr rs i).u++vM rs M (PR i))) (iQ:kA w (db rs M ω (PR i)) w' d_ (λk=>k∈(cr rs i).u.map (·.1))) (A_:Br w' d_ N (a.put o.dst v) (cr rs i)):
    ∃ao,Inv ops PR m rs M N a0 w0 bj (λj=>D j\/j=i) (a.put o.dst v) w' ao:=⟨_,I.Ri S hm hi ho fY gL oQ lP iQ A_⟩
theorem Inv.TN (S:k_ P sg Gl Γ N ops PR m rs F F0 M cN wr) (hm:aR w0 bj M) (hF:eH w0 bj N F a0.tmps)
    (I:Inv ops PR m rs M N a0 w0 bj D a w ω) {i:Nat} {o:Oper} (hi:i<m) (ho:ops[i]? =some o) (jD:cN i=true) (fY: ¬D i) (gL: ∀j∈PR i,D j):
    ∃v,Yields P ops o v a/\ ∃ao,Inv ops PR m rs M N a0 w0 bj (λj=>D j\/j=i) (a.put o.dst v) w ao:=by
  obtain⟨g1,g2,g3⟩:=I.all S hm hF gL (λj hj=>S.closed i j hj)
  obtain⟨hg,s,pL,he⟩:=S.J7 i o hi ho jD
  obtain⟨v,J,h2⟩:=Ii g1 g2 he
  refine⟨v,.inl ⟨by simp[Region.wanted,hg],J⟩,?_⟩
  refine I.after S hm hi ho fY gL (λk hk=>by unfold keys at hk;rw[pL]at hk;simp at hk) (w':=w) (d_:=db rs M ω (PR i)) ?_ ?_ ?_
  · rw[pL];exact bp.refl g1
  · rw[pL];exact kA.refl _ _
  · rw[pL];exact⟨Dl h2,λx hx=>by cases hx⟩
theorem aaS {ops:List Oper} {V:Fr} {M:Mem} {H:List Hd} {o:Oper} {k:Nat} {u:aX} (h:evalW P Gl N ops V M H o=some (k,u)):u.map (·.1)= [k]:=by
  unfold evalW at h
  split at h
  · split at h
    · split at h
      · split at h
        · simp only[Option.some.injEq,Prod.mk.injEq]at h
          obtain⟨rfl,rfl⟩:=h;rfl
        · cases h
      · cases h
    · cases h
  · cases h
theorem Inv.write (S:k_ P sg Gl Γ N ops PR m rs F F0 M cN wr) (hm:aR w0 bj M)
    (I:Inv ops PR m rs M N a0 w0 bj D a w ω) {i:Nat} (hi:i<m) (fY: ¬D i) (gL: ∀j∈PR i,D j) {k:Nat} (hk:keys rs i= [k]) (xi:cv (ae M) k=false) (Cm:(cr rs i).fs= []) (J8:(cr rs i).hs= []) {w':World} {L:Loc} (hL:(db rs M ω (PR i)).β k none=some L)
    (kW:aR w' (db rs M ω (PR i)) ((cr rs i).u++vM rs M (PR i))) (ho:One w w' L.b):
    Inv ops PR m rs M N a0 w0 bj (λj=>D j\/j=i) a w' ω:=by
  have v_: ∀{E:List Nat},¬jr rs M E k:=λh=>by have:=h.1;rw[xi]at this;cases this
  have uW:ω.β k none=some L:=by rw[sub_eq v_]at hL;exact hL
  have J9:bj.β k none=some L:=by rw[<-I.p8 k none (λ_ _ _=>xi)];exact uW
  have pM:k∈keys rs i:=by rw[hk];simp
  have Rj: ∃c T,w'.heap[L.b]? =some (Obj.cells c T (0,0))/\c.size=L.len:=by
    obtain⟨r,_,_,_,c,T,J,h2,_⟩:=kW.row k none L hL
    exact⟨c,T,J,h2⟩
  have agh: ∀q,Wr rs M D q->Wr rs M (λj=>D j\/j=i) q:=λq ⟨J,j,h2,h3⟩=>⟨J,j,.inl h2,h3⟩
  have yZ:db rs M ω (i::PR i)=db rs M ω (PR i):=by
    show(⟨_,_,_,_⟩:Ow)=⟨_,_,_,_⟩
    congr 1
    funext k' p
    have:jr rs M (i::PR i) k'↔jr rs M (PR i) k':=by
      constructor
      · rintro ⟨h0,J,h2⟩
        exact⟨h0,J,λ⟨j,hj,dy⟩=>h2 ⟨j,by simp[hj],dy⟩⟩
      · rintro ⟨h0,J,h2⟩
        refine⟨h0,J,?_⟩
        rintro ⟨j,hj,dy⟩
        rcases List.mem_cons.1 hj with rfl|hj
        · rw[hk]at dy
          obtain rfl:=List.mem_singleton.1 dy
          rw[xi]at h0;cases h0
        · exact h2 ⟨j,hj,dy⟩
    by_cases hh:jr rs M (PR i) k'
    · rw[if_pos (this.2 hh),if_pos hh]
    · rw[if_neg (λh=>hh (this.1 h)),if_neg hh]
  refine⟨?_,?_,I.cw.one ho agh ⟨xi,i,.inr rfl,pM⟩ J9,λj k' cR hf L' fK=>?_,I.A0,λb h=>by rw[ho.2.2.2.1];exact I.fg b h,I.I0,I.Z,I.dj,I.cur,λk' p cR=>I.p8 k' p λj hj=>cR j (.inl hj),I.own,I.inj,I.defers,I.size,λt ht=>I.keep t λj hj=>ht j (.inl hj),?_⟩
  · rintro j (h|rfl)
    · exact I.low j h
    · exact hi
  · rintro j (h|rfl) q hq
    · exact .inl (I.fJ j h q hq)
    · exact .inl (gL q hq)
  · by_cases hb:L'.b=L.b
    · obtain⟨rfl,_⟩:=hm.inj _ _ _ _ _ _ fK J9 hb
      obtain rfl:L=L':=Option.some.inj (J9.symm.trans fK)
      exact Rj
    · obtain⟨c,T,J,h2⟩:=I.J5 j k' cR hf L' fK
      exact⟨c,T,by rw[ho.2.2.2.2 _ hb];exact J,h2⟩
  · rintro j (hj|rfl)
    · have tB:j≠i:=λe=>fY (e▸hj)
      have J6: ∀q∈j::PR j,k∉keys rs q:=by
        intro q hq xf
        obtain rfl:=S.key q i k xf pM
        rcases List.mem_cons.1 hq with h|h
        · exact tB h.symm
        · exact fY (I.fJ j hj _ h)
      obtain⟨k1,k2,k3⟩:=I.xh j hj
      obtain⟨_,r0,d0,n,l',e1,e2,e3⟩:=(S.free i k pM).resolve_left (by rw[xi];simp)
      have hb:(ae (vM rs M (j::PR j)) k).b= .cells (py n):=by rw[sE J6,e1]
      obtain⟨g1,g2⟩:=k1.agi hb (by rw[sub_eq v_];exact uW) ho Rj
      exact⟨g1,λp hp u hu=>(k2 p hp u hu).ext g2,λh hh=>(iU.ext k3 g2) h hh⟩
    · rw[yZ,D6]
      exact⟨kW,λp hp=>by rw[Cm]at hp;simp at hp,λh hh=>by rw[J8]at hh;simp at hh⟩
theorem Inv.step (hS:Sound P Gl Γ) (S:k_ P sg Gl Γ N ops PR m rs F F0 M cN wr) (hm:aR w0 bj M) (hF:eH w0 bj N F a0.tmps) (hG: ∀g,Den w0 bj.bare (Gl g) (.pointer (some ⟨g,0,none⟩)))
    (I:Inv ops PR m rs M N a0 w0 bj D a w ω) {i:Nat} {o:Oper} (hi:i<m) (ho:ops[i]? =some o) (fY: ¬D i) (gL: ∀j∈PR i,D j) {Q:Exit->Act->World->Prop} {K:Act->World->Prop}
    (hK: ∀a' w' ao,Inv ops PR m rs M N a0 w0 bj (λj=>D j\/j=i) a' w' ao->K a' w'):wpOp P ops Q i K a w:=by
  obtain⟨g1,g2,g3⟩:=I.all S hm hF gL (λj hj=>S.closed i j hj)
  have bC:St P Gl N (vF rs F0 (PR i)) (vM rs M (PR i)) a w (db rs M ω (PR i)):=⟨g2,λg=>Den.ext (o:=bj.bare) (I.s_ S hm (PR i)).bare (hG g),g1,I.defers⟩
  cases jD:cN i with
  |false=>
   cases qV:wr i with
   |false=>
    obtain⟨nx,p,zu,hp⟩:=S.ev i o hi ho jD qV
    refine agj hS ho bC g3 zu hp ?_
    intro v w' d_ lP iQ A_
    obtain⟨ao,I'⟩:=I.after S hm hi ho fY gL (S.fr i qV) lP iQ A_
    exact hK _ _ _ I'
   |true=>
    obtain⟨hd,Cm,J8,k,zu,xi⟩:=S.evw i o hi ho jD qV
    refine agk ho bC g3 zu λw' L hL kW J=>?_
    exact hK _ _ _ (I.write S hm hi fY gL (k:=k) (aaS zu) xi Cm J8 hL kW J)
  |true=>
   obtain⟨v,hy,ao,I'⟩:=I.TN S hm hF hi ho jD fY gL
   exact hy.wpOp ho (hK _ _ _ I')
/-! ### what is left to be done -/
def mI (n:Nat) (listed:Array Bool):Nat:=((List.range n).filter λj=>!listed.getD j true).length
theorem Ps {p q:Nat->Bool}: ∀(l:List Nat),(∀x∈l,q x=true->p x=true)->(∃x∈l,p x=true/\q x=false)->(l.filter q).length<(l.filter p).length
  | [],_,⟨x,hx,_⟩=>by simp at hx
  |y::r,h,⟨x,hx,J,h2⟩=>by
   have le: ∀(l:List Nat),(∀x∈l,q x=true->p x=true)->(l.filter q).length<=(l.filter p).length:=by
     intro l
     induction l with
     |nil=>intro _;exact Nat.le_refl _
     |cons z r ih=>
      intro h
      have ih:=ih λx hx=>h x (by simp[hx])
      by_cases hq:q z=true
      · rw[List.filter_cons_of_pos hq,List.filter_cons_of_pos (h z (by simp) hq)];simpa using ih
      · rw[List.filter_cons_of_neg hq]
        by_cases hp:p z=true
        · rw[List.filter_cons_of_pos hp];simp;omega
        · rw[List.filter_cons_of_neg hp];exact ih
   have hr: ∀x∈r,q x=true->p x=true:=λx hx=>h x (by simp[hx])
   rcases List.mem_cons.1 hx with rfl|hx
   · rw[List.filter_cons_of_neg (by rw[h2];simp),List.filter_cons_of_pos J]
     have:=le r hr
     simp;omega
   · have ih:=Ps r hr ⟨x,hx,J,h2⟩
     by_cases hq:q y=true
     · rw[List.filter_cons_of_pos hq,List.filter_cons_of_pos (h y (by simp) hq)];simpa using ih
     · rw[List.filter_cons_of_neg hq]
       by_cases hp:p y=true
       · rw[List.filter_cons_of_pos hp];simp;omega
       · rw[List.filter_cons_of_neg hp];exact ih
theorem getD_eq {listed:Array Bool} {j:Nat} (h:j<listed.size) (d e:Bool):listed.getD j d=listed.getD j e:=by simp[Array.getD,h]
theorem vT {n i:Nat} {listed:Array Bool} (hi:i<n) (hs:listed.size=n) (h:listed.getD i true=false):mI n (listed.setIfInBounds i true)<mI n listed:=by
  refine Ps _ (λx hx hq=>?_) ⟨i,List.mem_range.2 hi,by rw[h];rfl,?_⟩
  · by_cases e:i=x
    · subst e;rw[h];rfl
    · rwa [getD_set_ne true e]at hq
  · have:(listed.setIfInBounds i true).getD i true=true:=by simp[Array.getD,hs,hi]
    rw[this];rfl
theorem yl {n i:Nat} {listed:Array Bool} (hi:i<n) (h:listed.getD i true=false):0<mI n listed:=by
  unfold mI
  exact List.length_pos_of_mem (List.mem_filter.2 ⟨List.mem_range.2 hi,by rw[h];rfl⟩)
theorem D7 (S:k_ P sg Gl Γ N ops PR m rs F F0 M cN wr) (m1:Nat) (hT: ∀i,m1<=i->i<ops.size-> ∀j,j<i->m1<=j->j∈PR i) {Q:Exit->Act->World->Prop}: ∀(fuel t:Nat) (listed:Array Bool) (a:Act) (w:World),listed.size=ops.size->(∀j,j<ops.size->(listed.getD j false=true↔j<t))->m1<=t->t<=ops.size->mI ops.size listed<=fuel->
    wpList P ops Q (ops.toList.drop t) a w->wpAny P .any ops Q fuel listed a w:=by
  intro fuel
  induction fuel with
  |zero=>
   intro t listed a w hs hl hmt htn hu h
   have ht:t=ops.size:=by
     rcases Nat.lt_or_ge t ops.size with av|dz
     · have J:listed.getD t true=false:=by
         rw[getD_eq (by omega) true false]
         cases hx:listed.getD t false with
         |false=>rfl
         |true=>exact absurd ((hl t av).1 hx) (Nat.lt_irrefl _)
       have:=yl av J
       omega
     · omega
   refine⟨?_,?_⟩
   · rw[List.eq_nil_iff_forall_not_mem]
     intro j hj
     obtain⟨J,o,h2,_⟩:=mem_ready.1 hj
     have bz:=(Array.getElem?_eq_some_iff.1 h2).1
     have:=(hl j bz).2 (by omega)
     rw[getD_eq (by omega) true false,this]at J
     cases J
   · rw[ht,List.drop_of_length_le (by simp)]at h
     exact h
  |succ fuel ih=>
   intro t listed a w hs hl hmt htn hu h
   have rdy: ∀j,j∈Region.ready .any ops listed->j=t:=by
     intro j hj
     obtain⟨J,o,h2,h3⟩:=mem_ready.1 hj
     have bz:=(Array.getElem?_eq_some_iff.1 h2).1
     have dz: ¬j<t:=λav=>by
       have:=(hl j bz).2 av
       rw[getD_eq (by omega) true false,this]at J
       cases J
     rcases Nat.lt_or_ge t j with av|hle
     · exfalso
       obtain⟨e,he,hb,hx⟩:=S.dep j o h2 t (hT j (by omega) bz t av (by omega))
       have iT:=h3 e he hb
       have agl:e.on<t:=(hl e.on (by have:=S.xj j o h2 e he hb;omega)).1 iT
       rcases hx with hx|hx
       · omega
       · have:=S.lt _ _ hx;omega
     · omega
   refine⟨λhr=>?_,λj hj=>?_⟩
   · rcases Nat.lt_or_ge t ops.size with av|dz
     · exfalso
       have:t∈Region.ready .any ops listed:=by
         refine mem_ready.2 ⟨?_,ops[t],Array.getElem?_eq_getElem av,λe he hb=>?_⟩
         · rw[getD_eq (by omega) true false]
           cases hx:listed.getD t false with
           |false=>rfl
           |true=>exact absurd ((hl t av).1 hx) (Nat.lt_irrefl _)
         · have hd:=S.xj t _ (Array.getElem?_eq_getElem av) e he hb
           exact(hl e.on (by omega)).2 hd
       rw[hr]at this
       simp at this
     · rw[show t=ops.size by omega,List.drop_of_length_le (by simp)]at h
       exact h
   · obtain rfl:=rdy j hj
     obtain⟨J,o,h2,h3⟩:=mem_ready.1 hj
     have bz:=(Array.getElem?_eq_some_iff.1 h2).1
     have I1:ops.toList.drop j=o::ops.toList.drop (j+1):=by
       have la:j<ops.toList.length:=by simpa using bz
       rw[List.drop_eq_getElem_cons la]
       congr 1
       have:=(Array.getElem?_eq_some_iff.1 h2).2
       simpa using this
     rw[I1]at h
     have TO: ∀a' w',wpList P ops Q (ops.toList.drop (j+1)) a' w'->wpAny P .any ops Q fuel (listed.setIfInBounds j true) a' w':=by
       intro a' w' h'
       refine ih (j+1) _ a' w' (by simpa using hs) (λq hq=>?_) (by omega) (by omega) ?_ h'
       · by_cases e:j=q
         · subst e
           have:(listed.setIfInBounds j true).getD j false=true:=by simp[Array.getD,hs,bz]
           rw[this];simp
         · rw[getD_set_ne false e,hl q hq];omega
       · have:=vT bz hs J;omega
     unfold wpList at h
     unfold wpOp
     rw[h2]
     simp only
     split
     · next hw=>rw[if_pos hw]at h;exact h.imp (Oper.wp_mono TO) id
     · next hw=>rw[if_neg hw]at h;exact TO _ _ h
theorem acE (hS:Sound P Gl Γ) (S:k_ P sg Gl Γ N ops PR m rs F F0 M cN wr) (hT: ∀i,m<=i->i<ops.size-> ∀j,j<i->j∈PR i\/(j<m/\cN j=true)) (hm:aR w0 bj M) (hF:eH w0 bj N F a0.tmps) (hG: ∀g,Den w0 bj.bare (Gl g) (.pointer (some ⟨g,0,none⟩))) {Q:Exit->Act->World->Prop} (kx: ∀d c a v w,Q (.panic c) (Act.put a d v) w->Q (.panic c) a w)
    (rM: ∀a w ω,Inv ops PR m rs M N a0 w0 bj (λj=>j<m) a w ω->wpList P ops Q (ops.toList.drop m) a w):
    ∀(fuel:Nat) (listed:Array Bool) (a:Act) (w:World) (ω:Ow),listed.size=ops.size->mI ops.size listed<=fuel->Inv ops PR m rs M N a0 w0 bj (λj=>listed.getD j false=true) a w ω->wpAny P .any ops Q fuel listed a w:=by
  have Vi: ∀i,m<=i->i<ops.size-> ∀j,j<i->m<=j->j∈PR i:=λi J h2 j h3 h4=>(hT i J h2 j h3).resolve_right λh=>by omega
  intro fuel
  induction fuel with
  |zero=>
   intro listed a w ω hs hu I
   have all: ∀j,j<ops.size->listed.getD j false=true:=by
     intro j hj
     cases hx:listed.getD j false with
     |true=>rfl
     |false=>have:=yl hj (by rw[getD_eq (listed:=listed) (by omega) true false];exact hx);omega
   have zv:m=ops.size:=by
     rcases Nat.lt_or_ge m ops.size with h|h
     · exact absurd (I.low m (all m h)) (Nat.lt_irrefl _)
     · have:=S.le;omega
   have hD:(λj=>listed.getD j false=true)=(λj=>j<m):=by
     funext j
     refine propext ⟨I.low j,λh=>all j (by omega)⟩
   rw[hD]at I
   exact D7 S m Vi 0 m listed a w hs (λj hj=>⟨λ_=>by omega,λ_=>all j hj⟩) (Nat.le_refl _) S.le hu (rM a w ω I)
  |succ fuel ih=>
   intro listed a w ω hs hu I
   by_cases fW: ∀j,j<m->listed.getD j false=true
   · have hD:(λj=>listed.getD j false=true)=(λj=>j<m):=by
       funext j
       exact propext ⟨I.low j,fW j⟩
     have I':=I
     rw[hD]at I'
     exact D7 S m Vi _ m listed a w hs (λj hj=>⟨I.low j,fW j⟩) (Nat.le_refl _) S.le hu (rM a w ω I')
   · have hle:=S.le
     have hex: ∃j,j<m/\listed.getD j false=false:=by
       refine Classical.byContradiction λh=>fW λj hj=>?_
       cases hx:listed.getD j false with
       |true=>rfl
       |false=>exact absurd ⟨j,hj,hx⟩ h
     have first: ∃j,j<m/\listed.getD j false=false/\j∈Region.ready .any ops listed:=by
       refine Classical.byContradiction λcj=>?_
       have: ∀n,∀j,j<n->j<m->listed.getD j false=true:=by
         intro n
         induction n with
         |zero=>intro j hj;omega
         |succ n tC=>
          intro j hj j4
          cases hx:listed.getD j false with
          |true=>rfl
          |false=>
           exfalso
           have bz:j<ops.size:=by omega
           refine cj ⟨j,j4,hx,mem_ready.2 ⟨by rw[getD_eq (by omega) true false];exact hx,ops[j],Array.getElem?_eq_getElem bz,λe he hb=>?_⟩⟩
           have hd:=S.xj j _ (Array.getElem?_eq_getElem bz) e he hb
           exact tC e.on (by omega) (by omega)
       exact fW λj hj=>this (j+1) j (Nat.lt_succ_self j) hj
     have pz: ∀i,i∈Region.ready .any ops listed-> ∀x∈PR i,listed.getD x false=true:=by
       intro i hi x hx
       obtain⟨J,o,h2,h3⟩:=mem_ready.1 hi
       obtain⟨e,he,hb,dO⟩:=S.dep i o h2 x hx
       have iT:=h3 e he hb
       rcases dO with rfl|dO
       · exact iT
       · exact I.fJ _ iT x dO
     have mD: ∀i,i<ops.size->(λj=>(listed.setIfInBounds i true).getD j false=true)=(λj=>listed.getD j false=true\/j=i):=by
       intro i a_
       funext j
       refine propext ⟨λh=>?_,λh=>?_⟩
       · by_cases e:i=j
         · exact .inr e.symm
         · rw[getD_set_ne false e]at h;exact .inl h
       · rcases h with h|rfl
         · exact getD_set_true h
         · simp[Array.getD,hs,a_]
     by_cases TP: ∃i,i∈Region.ready .any ops listed/\m<=i
     · --a register operation is taken first
       obtain⟨i,hi,FC⟩:=TP
       obtain⟨j,j4,tD,qX⟩:=first
       have a_:i<ops.size:=by
         obtain⟨_,o,h2,_⟩:=mem_ready.1 hi
         exact(Array.getElem?_eq_some_iff.1 h2).1
       have jD:cN j=true:=by
         rcases hT i FC a_ j (by omega)with h|h
         · have:=pz i hi j h
           rw[this]at tD;cases tD
         · exact h.2
       obtain⟨J,o,h2,h3⟩:=mem_ready.1 qX
       have bz:=(Array.getElem?_eq_some_iff.1 h2).1
       obtain⟨v,hy,ao,I'⟩:=I.TN S hm hF j4 h2 jD (by rw[tD];simp) (pz j qX)
       refine wpAny_first h2 (Region.noSelect_spec (S.gQ j j4 jD)) (λc a w h=>kx _ c a v w h) fuel listed a w ?_ qX hy ?_
       · intro q oq hq ba Vj cj
         refine S.apart j o j4 jD h2 q oq hq ba (λhqp=>?_) cj
         have hqn:=(Array.getElem?_eq_some_iff.1 hq).1
         have:=pz j qX q hqp
         rw[getD_eq (by omega) true false,this]at Vj
         cases Vj
       · refine ih _ _ _ ao (by simpa using hs) ?_ ?_
         · have:=vT bz hs J;omega
         · rw[mD j bz];exact I'
     · refine⟨λhr=>?_,λi hi=>?_⟩
       · obtain⟨j,_,_,qX⟩:=first
         rw[hr]at qX
         simp at qX
       · obtain⟨J,o,h2,h3⟩:=mem_ready.1 hi
         have a_:=(Array.getElem?_eq_some_iff.1 h2).1
         have fY: ¬listed.getD i false=true:=by
           rw[getD_eq (by omega) false true,J];simp
         have iV:i<m:=by
           rcases Nat.lt_or_ge i m with h|h
           · exact h
           · exact absurd ⟨i,hi,h⟩ TP
         refine I.step hS S hm hF hG iV h2 fY (pz i hi) λa' w' ao I'=>ih _ a' w' ao (by simpa using hs) ?_ ?_
         · have:=vT a_ hs J;omega
         · rw[mD i a_]
           exact I'
end
end Go.Sy
set_option linter.unusedVariables false
set_option linter.unusedSimpArgs false
namespace Go.Sy
open Go.RowKit
def sT (ord:List Nat) (n k:Nat):Nat:=match idx ord k with|some p=>p|none=>n
def uJ (ord:List Nat) (n:Nat) (e:Edge):Edge:={e with on:=sT ord n e.on}
def oI (ord:List Nat) (n:Nat) (o:Oper):Oper:={o with after:=⟨o.after.toList.map (uJ ord n)⟩,guard:=o.guard.map λx=>(sT ord n x.1,x.2)}
def kS (ord:List Nat) (ops:List Oper):List Oper:=ord.filterMap λi=>(ops[i]?).map (oI ord ops.length)
def uC (ord:List Nat) (n:Nat):Bool:=nodupB ord&&Nat.beq ord.length n&&(ord.all λk=>Nat.blt k n)&&(List.range n).all λk=>cM ord k
structure oC (ord:List Nat) (n:Nat):Prop where
  nd:ord.Nodup
  len:ord.length=n
  lt: ∀k∈ord,k<n
  all: ∀k,k<n->k∈ord
theorem G8 {ord:List Nat} {n:Nat} (h:uC ord n=true):oC ord n:=by
  unfold uC at h
  simp only[Bool.and_eq_true]at h
  obtain⟨⟨⟨J,h2⟩,h3⟩,h4⟩:=h
  exact⟨xY J,Nat.eq_of_beq_eq_true h2,λk hk=>Nat.le_of_ble_eq_true (List.all_eq_true.1 h3 k hk),λk hk=>jf.1 (List.all_eq_true.1 h4 k (List.mem_range.2 hk))⟩
section
variable {P:Program} {ops:Array Oper} {Q:Exit->Act->World->Prop} {ord:List Nat}
theorem oC.pos {n:Nat} (h:oC ord n) {p k:Nat} (hp:ord[p]? =some k):sT ord n k=p:=by
  have hk:=h.lt k (List.mem_of_getElem? hp)
  unfold sT
  cases hi:idx ord k with
  |none=>exact absurd (List.mem_of_getElem? hp) (yf hi)
  |some q=>
   have hq:=ox hi
   have js:=(List.getElem?_eq_some_iff.1 hp).1
   have FE:=(List.getElem?_eq_some_iff.1 hq).1
   exact(List.getElem?_inj FE h.nd).1 (hq.trans hp.symm)
theorem oC.out {n:Nat} (h:oC ord n) {k:Nat} (hk:n<=k):sT ord n k=n:=by
  unfold sT
  cases hi:idx ord k with
  |none=>rfl
  |some q=>have:=h.lt k (List.mem_of_getElem? (ox hi));omega
theorem DN (h:oC ord ops.size) {p k:Nat} (hp:ord[p]? =some k) {o:Oper} (ho:ops[k]? =some o):(kS ord ops.toList).toArray[p]? =some (oI ord ops.size o):=by
  have key: ∀(l:List Nat) (p:Nat),(∀x∈l,x<ops.size)->(l.filterMap λi=>(ops.toList[i]?).map (oI ord ops.toList.length))[p]? =(l[p]?).bind λk=>(ops[k]?).map (oI ord ops.size):=by
    intro l
    induction l with
    |nil=>intro p _;simp
    |cons x r ih=>
     intro p hl
     have hx:=hl x (by simp)
     have e:(ops.toList[x]?).map (oI ord ops.toList.length)=some (oI ord ops.size ops[x]):=by simp[hx]
     rw[List.filterMap_cons,e]
     cases p with
     |zero=>simp[hx]
     |succ p=>simpa using ih p λy hy=>hl y (by simp[hy])
  rw[List.getElem?_toArray]
  unfold kS
  rw[key ord p h.lt,hp]
  simp[ho]
theorem x_ (h:oC ord ops.size):(kS ord ops.toList).toArray.size=ops.size:=by
  rw[List.size_toArray]
  unfold kS
  rw[<-h.len]
  have: ∀l:List Nat,(∀x∈l,x<ops.size)->(l.filterMap λi=>(ops.toList[i]?).map (oI ord ops.toList.length)).length=l.length:=by
    intro l
    induction l with
    |nil=>intro _;rfl
    |cons x r ih=>
     intro hl
     have hx:=hl x (by simp)
     have e:(ops.toList[x]?).map (oI ord ops.toList.length)=some (oI ord ops.size ops[x]):=by simp[hx]
     rw[List.filterMap_cons,e]
     have:=ih λy hy=>hl y (by simp[hy])
     simp only[List.length_cons,this]
  exact this ord h.lt
structure y' (ord:List Nat) (n:Nat) (ls jJ:Array Bool):Prop where
  s:ls.size=n
  s':jJ.size=n
  eq: ∀(p k:Nat),ord[p]? =some k->jJ[p]? =ls[k]?
theorem Xv (h:oC ord ops.size) (tmps:Array Value) (j:Nat):yielded (kS ord ops.toList).toArray tmps (sT ord ops.size j)=yielded ops tmps j:=by
  unfold yielded
  rcases Nat.lt_or_ge j ops.size with hj|hj
  · obtain⟨p,hp⟩:=List.getElem?_of_mem (h.all j hj)
    rw[h.pos hp,DN h hp (Array.getElem?_eq_getElem hj),Array.getElem?_eq_getElem hj]
    rfl
  · rw[h.out hj,Array.getElem?_eq_none (by rw[x_ h];exact Nat.le_refl _),Array.getElem?_eq_none hj]
theorem Yd (h:oC ord ops.size) {p k:Nat} (hp:ord[p]? =some k) {K K':Act->World->Prop} {a:Act} {w:World} (hK: ∀a w,K a w->K' a w) (hw:wpOp P (kS ord ops.toList).toArray Q p K a w):wpOp P ops Q k K' a w:=by
  have hk:=h.lt k (List.mem_of_getElem? hp)
  refine wpOp_mono hK ?_
  unfold wpOp at hw⊢
  rw[DN h hp (Array.getElem?_eq_getElem hk)]at hw
  rw[Array.getElem?_eq_getElem hk]
  have aeG:Region.wanted (oI ord ops.size ops[k]) (yielded (kS ord ops.toList).toArray a.tmps)=Region.wanted ops[k] (yielded ops a.tmps):=by
    unfold Region.wanted oI
    cases hg:ops[k].guard with
    |none=>rfl
    |some x=>
     obtain⟨j,want⟩:=x
     simp only[Option.map_some]
     rw[Xv h]
  simp only[aeG]at hw
  exact hw
theorem MC (h:oC ord ops.size) {ls jJ:Array Bool} (hl:y' ord ops.size ls jJ) {p k:Nat} (hp:ord[p]? =some k) (hr:k∈Region.ready .any ops ls):p∈Region.ready .any (kS ord ops.toList).toArray jJ:=by
  have hk:=h.lt k (List.mem_of_getElem? hp)
  have js:p<ops.size:=by rw[<-h.len];exact(List.getElem?_eq_some_iff.1 hp).1
  unfold Region.ready at hr⊢
  rw[List.mem_filter]at hr⊢
  refine⟨List.mem_range.2 (by rw[x_ h];exact js),?_⟩
  have h2:=hr.2
  rw[Array.getElem?_eq_getElem hk]at h2
  rw[DN h hp (Array.getElem?_eq_getElem hk)]
  have get: ∀d:Bool,jJ.getD p d=ls.getD k d:=λd=>by rw[Array.getD_eq_getD_getElem?,Array.getD_eq_getD_getElem?,hl.eq p k hp]
  rw[get]
  simp only[Option.map_some,Option.getD_some,Bool.and_eq_true]at h2⊢
  refine⟨h2.1,?_⟩
  have h3:=h2.2
  rw[Array.all_eq_true']at h3⊢
  intro e he
  unfold oI at he
  have he:e∈ops[k].after.toList.map (uJ ord ops.size):=by simpa using he
  rw[List.mem_map]at he
  obtain⟨e0,Cl,rfl⟩:=he
  have Cl:e0∈ops[k].after:=by simpa using Cl
  have:=h3 e0 Cl
  have hb:Region.binds .any (uJ ord ops.size e0)=Region.binds .any e0:=rfl
  rw[hb]
  have iT:jJ.getD (uJ ord ops.size e0).on false=ls.getD e0.on false:=by
    show jJ.getD (sT ord ops.size e0.on) false=_
    rcases Nat.lt_or_ge e0.on ops.size with hj|hj
    · obtain⟨q,hq⟩:=List.getElem?_of_mem (h.all _ hj)
      rw[h.pos hq,Array.getD_eq_getD_getElem?,Array.getD_eq_getD_getElem?,hl.eq q _ hq]
    · rw[h.out hj,Array.getD_eq_getD_getElem?,Array.getD_eq_getD_getElem?,Array.getElem?_eq_none (by rw[hl.s'];exact Nat.le_refl _),Array.getElem?_eq_none (by rw[hl.s];exact hj)]
  rw[iT]
  exact this
theorem y'.set {n:Nat} (h:oC ord n) {ls jJ:Array Bool} (hl:y' ord n ls jJ) {p k:Nat} (hp:ord[p]? =some k):y' ord n (ls.setIfInBounds k true) (jJ.setIfInBounds p true):=by
  refine⟨by simpa using hl.s,by simpa using hl.s',λq j hq=>?_⟩
  have js:=(List.getElem?_eq_some_iff.1 hp).1
  have FE:=(List.getElem?_eq_some_iff.1 hq).1
  by_cases e:q=p
  · subst e
    obtain rfl:j=k:=Option.some.inj (hq.symm.trans hp)
    have J:q<jJ.size:=by rw[hl.s',<-h.len];exact FE
    have h2:j<ls.size:=by rw[hl.s];exact h.lt _ (List.mem_of_getElem? hp)
    rw[Array.getElem?_setIfInBounds_self_of_lt J,Array.getElem?_setIfInBounds_self_of_lt h2]
  · have e2:k≠j:=λe2=>by
      subst e2
      exact e ((List.getElem?_inj FE h.nd).1 (hq.trans hp.symm))
    rw[Array.getElem?_setIfInBounds_ne (Ne.symm e),Array.getElem?_setIfInBounds_ne e2]
    exact hl.eq q j hq
theorem Dk (h:oC ord ops.size): ∀(fuel:Nat) {ls jJ:Array Bool} {a:Act} {w:World},y' ord ops.size ls jJ->wpAny P .any (kS ord ops.toList).toArray Q fuel jJ a w->wpAny P .any ops Q fuel ls a w
  |0,ls,jJ,a,w,hl,⟨J,h2⟩=>by
   refine⟨?_,h2⟩
   apply List.eq_nil_iff_forall_not_mem.2
   intro k hk
   obtain⟨p,hp⟩:=List.getElem?_of_mem (h.all k (by unfold Region.ready at hk;exact List.mem_range.1 (List.mem_filter.1 hk).1))
   have:=MC h hl hp hk
   rw[J]at this;cases this
  |fuel+1,ls,jJ,a,w,hl,⟨J,h2⟩=>by
   have lt: ∀{k},k∈Region.ready .any ops ls->k<ops.size:=λhk=>by unfold Region.ready at hk;exact List.mem_range.1 (List.mem_filter.1 hk).1
   refine⟨λhr=>J ?_,λk hk=>?_⟩
   · apply List.eq_nil_iff_forall_not_mem.2
     intro p hp
     have js:p<ops.size:=by unfold Region.ready at hp;have:=List.mem_range.1 (List.mem_filter.1 hp).1;rwa [x_ h]at this
     obtain⟨k,hk⟩: ∃k,ord[p]? =some k:=⟨ord[p]'(by rw[h.len];exact js),List.getElem?_eq_getElem _⟩
     have uU:=h.lt k (List.mem_of_getElem? hk)
     have:k∈Region.ready .any ops ls:=by
       unfold Region.ready at hp⊢
       rw[List.mem_filter]at hp⊢
       refine⟨List.mem_range.2 uU,?_⟩
       have h3:=hp.2
       rw[DN h hk (Array.getElem?_eq_getElem uU)]at h3
       rw[Array.getElem?_eq_getElem uU]
       have get: ∀d:Bool,jJ.getD p d=ls.getD k d:=λd=>by rw[Array.getD_eq_getD_getElem?,Array.getD_eq_getD_getElem?,hl.eq p k hk]
       rw[get]at h3
       simp only[Option.map_some,Option.getD_some,Bool.and_eq_true]at h3⊢
       refine⟨h3.1,?_⟩
       have h4:=h3.2
       rw[Array.all_eq_true']at h4⊢
       intro e0 Cl
       have:=h4 (uJ ord ops.size e0) (by unfold oI;have:uJ ord ops.size e0∈ops[k].after.toList.map (uJ ord ops.size):=List.mem_map.2 ⟨e0,by simpa using Cl,rfl⟩;simpa using this)
       have iT:jJ.getD (uJ ord ops.size e0).on false=ls.getD e0.on false:=by
         show jJ.getD (sT ord ops.size e0.on) false=_
         rcases Nat.lt_or_ge e0.on ops.size with hj|hj
         · obtain⟨q,hq⟩:=List.getElem?_of_mem (h.all _ hj)
           rw[h.pos hq,Array.getD_eq_getD_getElem?,Array.getD_eq_getD_getElem?,hl.eq q _ hq]
         · rw[h.out hj,Array.getD_eq_getD_getElem?,Array.getD_eq_getD_getElem?,Array.getElem?_eq_none (by rw[hl.s'];exact Nat.le_refl _),Array.getElem?_eq_none (by rw[hl.s];exact hj)]
       rw[iT]at this
       exact this
     rw[hr]at this;cases this
   · obtain⟨p,hp⟩:=List.getElem?_of_mem (h.all k (lt hk))
     exact Yd h hp (λa w hh=>Dk h fuel (hl.set h hp) hh) (h2 p (MC h hl hp hk))
theorem J3 {n:Nat} (h:oC ord n):y' ord n (Array.replicate n false) (Array.replicate n false):=
  ⟨by simp,by simp,λp k hp=>by
    have js:p<n:=by rw[<-h.len];exact(List.getElem?_eq_some_iff.1 hp).1
    have hk:=h.lt k (List.mem_of_getElem? hp)
    simp[js,hk]⟩
theorem G9 {o':Oper} (hm:o'∈kS ord ops.toList): ∃o,o∈ops.toList/\o'.dst=o.dst:=by
  unfold kS at hm
  rw[List.mem_filterMap]at hm
  obtain⟨i,_,h⟩:=hm
  cases ho:ops.toList[i]? with
  |none=>rw[ho]at h;cases h
  |some o=>
   rw[ho]at h
   obtain rfl:=Option.some.inj h
   exact⟨o,List.mem_of_getElem? ho,rfl⟩
end
def FF:List Edge->(List Edge->Prop)->Prop
  | [],k=>k []
  |e::r,k=>match e with|⟨o,g⟩=>gf o λo=>FF r λr=>k (⟨o,g⟩::r)
def fG:Option (Nat×Bool)->(Option (Nat×Bool)->Prop)->Prop
  |none,k=>k none
  |some (j,b),k=>gf j λj=>k (some (j,b))
def zq:List Oper->(List Oper->Prop)->Prop
  | [],k=>k []
  |o::r,k=>match o with|⟨d,op,t,p,a,g⟩=>FF a.toList λa=>fG g λg=>zq r λr=>k (⟨d,op,t,p,⟨a⟩,g⟩::r)
theorem Rh: ∀(l:List Edge) (k:List Edge->Prop),FF l k=k l
  | [],_=>rfl
  |⟨o,g⟩::r,k=>by simp only[FF,mq,Rh r]
theorem aeH (g:Option (Nat×Bool)) (k:Option (Nat×Bool)->Prop):fG g k=k g:=by
  cases g with
  |none=>rfl
  |some x=>obtain⟨j,b⟩:=x;simp only[fG,mq]
theorem Rg: ∀(l:List Oper) (k:List Oper->Prop),zq l k=k l
  | [],_=>rfl
  |⟨d,op,t,p,a,g⟩::r,k=>by simp only[zq,Rh,aeH,Rg r]
end Go.Sy
set_option linter.unusedVariables false
set_option linter.unusedSimpArgs false
namespace Go.Sy
open Go.RowKit Classical
def uk (P:Program) (Gl:Nat->SV) (F:Fr) (M:Mem) (o:Oper):Option (Prop×Option Nat):=
  match o.guard,o.op with
  |none,.load T x=>
   match P.underlying T,cX Gl F x with
   |some d,.ptr k st none _ j=>
    match oM d,cD (ae M) k st none,(ae M k).b with
    |false,true,.cells l=>(match Nat.blt j l.length with|true=>some (True,some k)|false=>none)
    |_,_,_=>none
   |_,_=>none
  |none,.nilCheck x=>
   match cX Gl F x with
   | .ptr k st p _ _=>(match cD (ae M) k st p with|true=>some (True,none)|false=>none)
   | .pt _ _ _=>some (True,none)
   |_=>none
  |none,.indexAddr T x y=>
   match P.underlying T,cX Gl F x,cX Gl F y with
   |some (.slice E),.aO k st p _ n,.v (.int _ z)=>(match P.info? E,cD (ae M) k st p with|some _,true=>some (0<=z/\z<n,none)|_,_=>none)
   |some (.slice E),.sl _ _ n _,.v (.int _ z)=>(match P.info? E with|some _=>some (0<=z/\z<n,none)|_=>none)
   |_,_,_=>none
  |_,_=>none
section
variable {P:Program} {sg:Bool} {Gl:Nat->SV} {Γ:Table} {N:Nat} {F:Fr} {M:Mem} {a:Act} {w:World} {ω:Ow}
theorem ML {o:Oper} {T E:TypeId} {x y:Operand} {ie:TypeInfo} (ho:o.op= .indexAddr T x y) (hu:P.underlying T=some (.slice E)) (hi:P.info? E=some ie) {ad:Addr} {n cap:Nat} {k:IntKind} {z:Int}
    (ex:a.eval x= .slice (some ad) n cap) (ey:a.eval y= .int k z) (h0:0<=z) (J:z<n) (w':World):(execOp a.eval o).run P w'= .ok (.value (.pointer (some (ad.add (z.toNat*ie.size))))) w':=by
  have qL:(sizeOf E).run P w'= .ok ie.size w':=by simp[sizeOf,run_typeInfo w' hi,Result.andThen]
  simp[execOp,ho,ex,ey,Instr.indexAt,asIntOf,run_underlying hu,Result.andThen,h0,J,qL]
theorem N6 (h:St P Gl N F M a w ω) {o:Oper} {p:Prop} {ko:Option Nat} (he:uk P Gl F M o=some (p,ko)) (hp:p):
    o.guard=none/\ ∃v,∀w',(∀k,ko=some k-> ∀L,ω.β k none=some L->w'.heap[L.b]? =w.heap[L.b]?)->(execOp a.eval o).run P w'= .ok (.value v) w':=by
  unfold uk at he
  split at he
  · next T x hg ho=>
    refine⟨hg,?_⟩
    have hx:=h.frame.cX h.fe x
    split at he
    · next d k st ii j hu hs=>
      split at he
      · next l hd bF hb=>
        split at he
        · next hj=>
          obtain⟨rfl,rfl⟩:=Prod.mk.inj (Option.some.inj he)
          have hj:j<l.length:=Nat.le_of_ble_eq_true hj
          rw[hs]at hx
          obtain⟨_,L,hL,Kp,ex⟩:=ir h.mem bF hx
          obtain⟨c1,c2⟩:=AQ h.mem hb hL
          obtain⟨r,_,_,_,c,T',g4,g5,g6,g7⟩:=h.mem.row _ _ _ hL
          obtain⟨y,y1,_⟩:=g7 ii Kp j (by omega)
          have rO: ∀w':World,w'.heap[L.b]? =w.heap[L.b]? ->w'.cell? ⟨L.b,L.o+ii*L.sz+j,none⟩=some y:=by
            intro w' e
            rw[g4]at e
            simp[World.cell?,e,y1]
          refine⟨y,λw' oT=>?_⟩
          have:=Dd (P:=P) hu hd w' _ y (rO w' (oT k rfl L hL))
          simp[execOp,ho,ex,Instr.loadAt,Instr.sureAddr,this,Result.andThen]
        · cases he
      · cases he
    · cases he
  · next x hg ho=>
    refine⟨hg,?_⟩
    have hx:=h.frame.cX h.fe x
    have run:(∃ad,a.eval x= .pointer (some ad))-> ∃v,∀w',(∀k,ko=some k-> ∀L,ω.β k none=some L->w'.heap[L.b]? =w.heap[L.b]?)->(execOp a.eval o).run P w'= .ok (.value v) w':=by
      rintro ⟨ad,e⟩
      exact⟨.pointer (some ad),λw' _=>by simp[execOp,ho,e]⟩
    split at he
    · next k st p' i j hs=>
      split at he
      · next bF=>
        rw[hs]at hx
        obtain⟨_,L,_,_,e⟩:=ir h.mem bF hx
        exact run ⟨_,e⟩
      · cases he
    · next q n f hs=>
      rw[hs]at hx
      obtain⟨b,e,_⟩:=hx
      exact run ⟨_,e⟩
    · cases he
  · next T x y hg ho=>
    refine⟨hg,?_⟩
    have hx:=h.frame.cX h.fe x
    have hy:=h.frame.cX h.fe y
    split at he
    · next E k st p' e n kk z hu gB fZ=>
      split at he
      · next ie bF hi hb=>
        obtain⟨rfl,rfl⟩:=Prod.mk.inj (Option.some.inj he)
        rw[gB]at hx
        rw[fZ]at hy
        have e0:st=Sy.st ω.cur k p':=by
          rw[h.mem.cur]
          cases p' with
          |none=>exact Nat.eq_of_beq_eq_true hb
          |some _=>exact Nat.eq_of_beq_eq_true hb
        rcases hx with hx|⟨_,q,cap,ex,jF,_,hx⟩
        · omega
        rcases hx with hx|⟨L,hL,rfl,_,_⟩
        · have:=hp.1;have:=hp.2;omega
        exact⟨_,λw' _=>ML ho hu hi ex hy hp.1 hp.2 w'⟩
      · cases he
    · next E q sz n f kk z hu gB fZ=>
      split at he
      · next ie hi=>
        obtain⟨rfl,rfl⟩:=Prod.mk.inj (Option.some.inj he)
        rw[gB]at hx
        rw[fZ]at hy
        obtain⟨p',cap,ex,_,_,hx⟩:=hx
        rcases hx with hx|⟨ad,rfl,_⟩
        · have:=hp.1;have:=hp.2;omega
        exact⟨_,λw' _=>ML ho hu hi ex hy hp.1 hp.2 w'⟩
      · cases he
    · cases he
  · cases he
theorem W8 (hm:aR w ω M) {sx sy:SV} {o:Oper} {T:TypeId} {x y:Operand} {nx:Nat} {pr:Prop} {s:SV} {u:aX} (hx:Den w ω sx (a.eval x)) (hy:Den w ω sy (a.eval y)) (ho:o.op= .call {callee:= .builtin .append,args:= #[x,y],argTypes:= #[T,T]})
    (hb:yI sx=false) (he:tZ P (ae M) nx T sx sy=some (pr,s,u)) (hp:pr):rQ P w ω M a o s u:=by
  unfold tZ at he
  rw[hb]at he
  simp only at he
  split at he
  · next z hz=>
    split at he
    · next v hv=>
      simp only[Option.some.injEq,Prod.mk.injEq]at he
      obtain⟨rfl,rfl,rfl⟩:=he
      obtain⟨ao,k,st,i,j,e,n,e1,e2,e3,J,h2,h3,_⟩:=Dx hm hz
      rw[e1]at hx
      have hy:Den w ao (ur (ae M) (nx+60) sx sy).2 (a.eval y):=by
        have gP:=hp.1
        revert gP hy
        rw[e1]
        generalize sy=t
        unfold ur
        split
        · next k1 st1 i1 j1 _ _ k' Kj i' j' e' n' heq=>
          split
          · next b1 b2 b3=>
            obtain⟨rfl,rfl,oR,rfl,rfl⟩:=SV.aO.inj heq
            obtain⟨rfl,rfl⟩:=Prod.mk.inj (Option.some.inj oR)
            obtain rfl:=Nat.eq_of_beq_eq_true b1
            obtain rfl:=Nat.eq_of_beq_eq_true b2
            obtain rfl:=Nat.eq_of_beq_eq_true b3
            intro hy gP
            have gP:i'=i:=gP
            subst gP
            exact h2 _ _ _ hy
          · intro hy _;exact Den.ext J.ext hy
        · intro hy _;exact Den.ext J.ext hy
      rw[oE]at hv
      have xk:Den w ao z.1 (a.eval x):=by rw[e3];exact h2 _ _ _ hx
      obtain⟨nn,vv,w',Cz,g1,g2,g3,g4⟩:=Dh (P:=P) (a:=a) (tx:=λ_=>z.1) (ty:=λ_=>(ur (ae M) (nx+60) sx sy).2) J.mem xk hy ho hv hp.2
      exact⟨nn,vv,w',Cz,g1,g2,by rw[List.append_assoc];exact J.trans g3,g4⟩
    · cases he
  · exact Dh (P:=P) (a:=a) (tx:=λ_=>sx) (ty:=λ_=>sy) hm hx hy ho he hp
/-! ### the append that ends a slice -/
def yL:SV->List Nat
  | .aO k _ _ _ _=> [k]
  |_=> []
def xA:List Nat->List Nat->List Nat
  | [],l=>l
  |k::r,l=>match cM l k with|true=>xA r l|false=>k::xA r l
end
def IB:SV->Bool
  | .aF=>true
  | .v _=>true
  | .bl _=>true
  | .es=>true
  | .sl _ _ _ _=>true
  | .pt _ _ _=>true
  | .pa _ _ _ _=>true
  | .er _ _ _ _=>true
  |_=>false
def acU:SV->Prop
  | .il sz _ g=> ∀a,oK sz λb=>IB (g a b)=true
  |s=>IB s=true
def Rw:bc->Prop
  | .row sz _ f=> ∀i,oK sz λj=>acU (f i j)
  |_=>False
def JH:List Nat->(Nat->Prop)->Prop
  | [],_=>True
  |k::r,p=>p k/\JH r p
theorem N7: ∀{l:List Nat} {p:Nat->Prop},JH l p-> ∀k∈l,p k
  | [],_,_,k,hk=>absurd hk (by simp)
  |i::r,p,h,k,hk=>by
   rcases List.mem_cons.1 hk with rfl|hk
   · exact h.1
   · exact N7 h.2 k hk
def FP:SV->SV
  | .aO k s p e n=> .aO k s p e n
  | .v x=> .v x
  | .bl b=> .bl b
  | .es=> .es
  | .sl q sz n f=> .sl q sz n f
  |_=> .aF
def sW (M:Mem) (κ:List Nat):Mem:=κ.map λk=>(k,ae M k)
theorem vQ {M:Mem}: ∀{κ:List Nat} {k:Nat},k∈κ->ae (sW M κ) k=ae M k
  | [],k,h=>absurd h (by simp)
  |i::r,k,h=>by
   unfold sW
   rw[List.map_cons]
   by_cases e:i=k
   · subst e;exact dp
   · rw[cC e]
     exact vQ (κ:=r) ((List.mem_cons.1 h).resolve_left λh=>e h.symm)
theorem GS {M:Mem}: ∀{κ:List Nat} {k:Nat},k∉κ->ae (sW M κ) k=⟨0,0,none,.dead⟩
  | [],k,_=>rfl
  |i::r,k,h=>by
   unfold sW
   rw[List.map_cons,cC (λe=>h (by simp[e]))]
   exact GS (κ:=r) λh'=>h (by simp[h'])
def ra (M:Mem) (k:Nat) (p:Path):Bool:=match p,(ae M k).b with|some ij,.row sz _ _=>Nat.blt ij.2 sz|_,_=>true
def JI (M:Mem):SV->Bool
  | .aO k _ p _ _=>ra M k p
  |_=>true
def Ev (P:Program) (Gl:Nat->SV) (F:Fr) (M:Mem) (nx:Nat) (o:Oper):Option (Prop×List Nat):=
  match o.guard,o.op with
  |none,.call {callee:= .builtin .append,args:=⟨[x,y]⟩,argTypes:=⟨[T,T']⟩}=>
   let κ:=xA (yL (cX Gl F x)) (yL (cX Gl F y))
   match Nat.beq T T'&&JI M (cX Gl F x)&&JI M (cX Gl F y)&&!yI (FP (cX Gl F x)),tZ P (ae (sW M κ)) nx T (FP (cX Gl F x)) (FP (cX Gl F y))with
   |true,some (pr,_,_)=>some (JH κ (λk=>Rw (ae M k).b)/\pr,κ)
   |_,_=>none
  |_,_=>none
theorem Eb: ∀{l r:List Nat} {k:Nat},k∈xA l r↔k∈l\/k∈r
  | [],r,k=>by simp[xA]
  |i::l,r,k=>by
   unfold xA
   split
   · next h=>
     rw[Eb,List.mem_cons]
     constructor
     · rintro (h|h)
       · exact .inl (.inr h)
       · exact .inr h
     · rintro ((h'|h')|h')
       · subst h';exact .inr (jf.1 h)
       · exact .inl h'
       · exact .inr h'
   · rw[List.mem_cons,Eb,List.mem_cons,or_assoc]
section
variable {P:Program} {sg:Bool} {Gl:Nat->SV} {Γ:Table} {N:Nat} {F:Fr} {M:Mem} {a:Act} {w:World} {ω:Ow}
noncomputable def Ow.only (ω:Ow) (M:Mem) (κ:List Nat):Ow:=⟨λb=>ω.A b/\ ∃k∈κ,∃p L,ω.β k p=some L/\L.b=b,ω.Z,λk p=>if k∈κ/\ra M k p=true then ω.β k p else none,dF (sW M κ)⟩
theorem A6 {κ:List Nat} {k:Nat} {p:Path} (h:k∈κ) (hp:ra M k p=true):(ω.only M κ).β k p=ω.β k p:=if_pos ⟨h,hp⟩
theorem AX {κ:List Nat} {k:Nat} {p:Path} {L:Loc} (h:(ω.only M κ).β k p=some L):k∈κ/\ω.β k p=some L/\ra M k p=true:=by
  by_cases hk:k∈κ/\ra M k p=true
  · exact⟨hk.1,by rwa [A6 hk.1 hk.2]at h,hk.2⟩
  · have h:(if k∈κ/\ra M k p=true then ω.β k p else none)=some L:=h
    rw[if_neg hk]at h;cases h
theorem Zp {k:Nat}:ra M k none=true:=rfl
theorem Dz {κ:List Nat}:Ext w ω.bare w (ω.only M κ).bare:=⟨rfl,rfl,rfl,λ_ _ _=>rfl,λ_ _ h h'=>h h'.1,λ_ _ _ h=>h,Nat.le_refl _,λ_=>⟨Nat.le_refl _,Nat.le_refl _⟩,λ_ _ _ h _=>h,λ_ h=>h⟩
theorem Hk {κ:List Nat} {s:SV} {x:Value} (hs:IB s=true) (h:Den w ω s x):Den w (ω.only M κ) s x:=by
  cases s with
  |aF=>trivial
  |v y=>exact h
  |bl y=>exact h
  |es=>exact h
  |sl q sz n f=>exact Den.ext (o:=ω.bare) (o':=(ω.only M κ).bare) (s:= .sl q sz n f) Dz h
  |pt q n f=>exact Den.ext (o:=ω.bare) (o':=(ω.only M κ).bare) (s:= .pt q n f) Dz h
  |pa q sz n f=>exact Den.ext (o:=ω.bare) (o':=(ω.only M κ).bare) (s:= .pa q sz n f) Dz h
  |er t tf e z=>exact Den.ext (o:=ω.bare) (o':=(ω.only M κ).bare) (s:= .er t tf e z) Dz h
  |_=>cases hs
theorem PC (hm:aR w ω M) {κ:List Nat} {k:Nat} {p:Path} (hk:k∈κ):st (ω.only M κ).cur k p=st ω.cur k p:=by
  rw[hm.cur]
  cases p with
  |none=>show(ae (sW M κ) k).rs=(ae M k).rs;rw[vQ hk]
  |some _=>show(ae (sW M κ) k).ds=(ae M k).ds;rw[vQ hk]
theorem PD (hm:aR w ω M) {κ:List Nat} {s:SV} {x:Value} (xU: ∀k∈yL s,k∈κ) (ho:JI M s=true) (h:Den w ω s x):Den w (ω.only M κ) (FP s) x:=by
  cases s with
  |aO k st p e n=>
   have hk:k∈κ:=xU k (by simp[yL])
   rcases h with h|⟨J,q,cap,h2,h3,h4,h5⟩
   · exact .inl (by rw[PC hm hk];exact h)
   · exact .inr ⟨by rw[PC hm hk];exact J,q,cap,h2,h3,h4,by rw[A6 hk ho];exact h5⟩
  |v y=>exact h
  |bl y=>exact h
  |es=>exact h
  |sl q sz n f=>exact Hk (s:= .sl q sz n f) rfl h
  |_=>trivial
theorem aR.only (hm:aR w ω M) {κ:List Nat} (hp: ∀k∈κ,Rw (ae M k).b):aR w (ω.only M κ) (sW M κ):=by
  refine⟨rfl,λb ⟨k,p,L,h,e⟩=>?_,λb h=>hm.fg b h.1,λb h=>hm.dj b h.1,hm.gJ,λk p L k' p' L' h h' e=>hm.inj k p L k' p' L' (AX h).2.1 (AX h').2.1 e,λk p L h=>hm.low k p L (AX h).2.1,λk p L h=>?_,λk l h=>?_,λk i j h=>?_⟩
  · obtain⟨hk,h,_⟩:=AX h
    exact⟨hm.own b ⟨k,p,L,h,e⟩,k,hk,p,L,h,e⟩
  · obtain⟨hk,h,bF⟩:=AX h
    obtain⟨r,g1,g2,g3,c,T,g4,g5,g6,g7⟩:=hm.row k p L h
    have tK:=hp k hk
    refine⟨r,by unfold rowAt;rw[vQ hk];exact g1,g2,g3,c,T,g4,g5,g6,λi hi j hj=>?_⟩
    obtain⟨x,x1,x2⟩:=g7 i hi j hj
    refine⟨x,x1,?_⟩
    rw[vQ hk]
    unfold rowAt at g1
    cases hb:(ae M k).b with
    |dead=>rw[hb]at tK;exact tK.elim
    |cells l=>rw[hb]at tK;exact tK.elim
    |row sz n f=>
     rw[hb]at tK g1
     cases p with
     |none=>
      obtain rfl:=Option.some.inj g1
      have la:j<sz:=by have:sz=L.sz:=g2
                       omega
      have js:=m5 (tK i) j la
      have x2:cI w ω (ae M k).hl k i j (f i j) x:=x2
      show cI w (ω.only M κ) (ae M k).hl k i j (f i j) x
      cases dn:cW (f i j)with
      |false=>
       rw[gr dn]at*
       refine Hk ?_ x2
       revert js dn
       generalize f i j=s
       intro js dn
       cases s<;>first|exact js|cases dn
      |true=>
       revert x2 dn
       generalize f i j=s
       intro x2 dn
       cases s with
       |il bq n2 g=>
        rcases x2 with x2|⟨⟨q,cap,y1,y2,y3,y4⟩,y5⟩
        · exact .inl x2
        · have US:ra M k (some (i,j))=true:=by unfold ra;rw[hb];exact Nat.ble_eq_true_of_le la
          exact .inr ⟨⟨q,cap,y1,y2,y3,by rw[A6 hk US];exact y4⟩,λL' fK=>y5 L' (by rw[A6 hk US]at fK;exact fK)⟩
       |_=>cases dn
     |some ij=>
      obtain⟨i0,j0⟩:=ij
      have g1:inner ⟨sz,n,f⟩ i0 j0=some r:=g1
      have xn:j0<sz:=by unfold ra at bF;rw[hb]at bF;exact Nat.le_of_ble_eq_true bF
      have js:=m5 (tK i0) j0 xn
      have x2:Den w ω (r.f i j) x:=x2
      show Den w (ω.only M κ) (r.f i j) x
      unfold inner at g1
      simp only at g1
      revert g1 js
      generalize f i0 j0=s
      intro g1 js
      cases s with
      |il bq n2 g=>
       obtain rfl:=Option.some.inj g1
       have Kh:j<bq:=by have:bq=L.sz:=g2
                        omega
       exact Hk (m5 (js i) j Kh) x2
      |_=>cases g1
  · by_cases hk:k∈κ
    · rw[vQ hk]at h
      obtain⟨L,hL⟩:=hm.live k l h
      exact⟨L,by rw[A6 hk Zp];exact hL⟩
    · rw[GS hk]at h;cases h
  · by_cases hk:k∈κ
    · rw[vQ hk]at h
      show(if k∈κ/\ra M k (some (i,j))=true then ω.β k (some (i,j))else none)=none
      split
      · exact hm.fm k i j h
      · rfl
    · rw[GS hk]at h;cases h
theorem Zq (h:St P Gl N F M a w ω) {nx:Nat} {o:Oper} {pr:Prop} {κ:List Nat} (he:Ev P Gl F M nx o=some (pr,κ)) (hp:pr):
    o.guard=none/\(∀cs b,o.op≠ .select cs b)/\ ∃n v w',(execOp a.eval o).run P w= .ok n w'/\(n= .value v\/(n= .skip/\v=undef))/\ ∀b,b<w.heap.size->(∀k∈κ,∀p L,ω.β k p=some L->L.b≠b)->w'.heap[b]? =w.heap[b]? :=by
  unfold Ev at he
  split at he
  · next x y T T' hg ho=>
    refine⟨hg,(λcs b e=>by rw[ho]at e;cases e),?_⟩
    simp only at he
    split at he
    · next Vv s u hT zu=>
      rw[Bool.and_eq_true,Bool.and_eq_true,Bool.and_eq_true]at hT
      obtain⟨⟨⟨hT,o1⟩,o2⟩,o3⟩:=hT
      obtain rfl:=Nat.eq_of_beq_eq_true hT
      obtain⟨rfl,rfl⟩:=Prod.mk.inj (Option.some.inj he)
      generalize xU:xA (yL (cX Gl F x)) (yL (cX Gl F y))=κ at*
      have t1:=h.mem.only (κ:=κ) (N7 hp.1)
      have hx:=PD h.mem (κ:=κ) (λk hk=>by rw[<-xU];exact Eb.2 (.inl hk)) o1 (h.frame.cX h.fe x)
      have hy:=PD h.mem (κ:=κ) (λk hk=>by rw[<-xU];exact Eb.2 (.inr hk)) o2 (h.frame.cX h.fe y)
      obtain⟨n,v,w',ao,g1,g2,g3,_⟩:=W8 (P:=P) (a:=a) t1 hx hy ho (by simpa using o3) zu hp.2
      refine⟨n,v,w',g1,g2,λb hb cj=>g3.ext.same b hb λhA=>?_⟩
      obtain⟨_,k,hk,p,L,hL,hLb⟩:=hA
      exact cj k hk p L hL hLb
    · cases he
  · cases he
end
section
variable {P:Program} {sg:Bool} {Gl:Nat->SV} {Γ:Table} {N:Nat} {ops:Array Oper} {PR:Nat->List Nat} {m:Nat} {rs:List Rc} {F F0:Fr} {M:Mem} {cN wr:Nat->Bool}
variable {a0 a:Act} {w0 w:World} {bj ω:Ow} {D:Nat->Prop}
structure FD (P:Program) (Gl:Nat->SV) (N:Nat) (ops:Array Oper) (PR:Nat->List Nat) (m:Nat) (rs:List Rc) (F0:Fr) (M:Mem) (cN:Nat->Bool) (KQ:List Nat) (oB:Oper):Prop where
  at_:ops[m]? =some oB
  Kv: ∀j o,j<m->ops[j]? =some o->j∉PR m->cN j=false-> ∃p ko,uk P Gl (vF rs F0 (PR j)) (vM rs M (PR j)) o=some (p,ko)/\p/\ ∀k,ko=some k->k∈KQ
  Kw: ∃nx pr κ,Ev P Gl (vF rs F0 (PR m)) (vM rs M (PR m)) nx oB=some (pr,κ)/\pr/\ ∀k∈κ,k∉KQ
  key: ∀k∈KQ,cv (ae M) k=false/\ ∀j,k∉keys rs j
  gQ:Region.noSelect ops=true
  ap: ∀j o,j<m->ops[j]? =some o->j∉PR m->o.apart ops oB=true
  low: ∀j∈PR m,j<m
def SQ (KQ:List Nat) (bj:Ow) (w w':World):Prop:= ∀k∈KQ,∀L,bj.β k none=some L->w'.heap[L.b]? =w.heap[L.b]?
theorem Zr (S:k_ P sg Gl Γ N ops PR m rs F F0 M cN wr) (hm:aR w0 bj M) (hF:eH w0 bj N F a0.tmps) (hG: ∀g,Den w0 bj.bare (Gl g) (.pointer (some ⟨g,0,none⟩))) {KQ:List Nat} {oB:Oper} (B:FD P Gl N ops PR m rs F0 M cN KQ oB)
    (I:Inv ops PR m rs M N a0 w0 bj D a w ω) {j:Nat} {o:Oper} (hj:j<m) (ho:ops[j]? =some o) (j4:j∉PR m) (gL: ∀i∈PR j,D i):
    o.guard=none/\ ∃v,∀w',SQ KQ bj w w'->(execOp a.eval o).run P w'= .ok (.value v) w':=by
  obtain⟨g1,g2,g3⟩:=I.all S hm hF gL (λi hi=>S.closed j i hi)
  cases hr:cN j with
  |true=>
   obtain⟨hg,s,_,he⟩:=S.J7 j o hj ho hr
   obtain⟨v,J,_⟩:=Ii g1 g2 he
   exact⟨hg,v,λw' _=>J w'⟩
  |false=>
   obtain⟨p,ko,he,hp,hk⟩:=B.Kv j o hj ho j4 hr
   have bC:St P Gl N (vF rs F0 (PR j)) (vM rs M (PR j)) a w (db rs M ω (PR j)):=⟨g2,λg=>Den.ext (o:=bj.bare) (I.s_ S hm (PR j)).bare (hG g),g1,I.defers⟩
   obtain⟨hg,v,J⟩:=N6 bC he hp
   refine⟨hg,v,λw' hs=>J w' λk CE L hL=>?_⟩
   obtain⟨_,fK⟩:=uf hL
   have hf:=(B.key k (hk k CE)).1
   rw[I.p8 k none (λ_ _ _=>hf)]at fK
   exact hs k (hk k CE) L fK
theorem Rv {oB o:Oper} (nC: ∀(j:Nat) (o:Oper) cs b,ops[j]? =some o->o.op≠ .select cs b) {j:Nat} (ho:ops[j]? =some o) (xx:o.apart ops oB=true) (v:Value):execOp (a.put oB.dst v).eval o=execOp a.eval o:=by
  obtain⟨_,_,h3⟩:=Oper.apart_spec xx
  exact execOp_put o (λcs b=>nC j o cs b ho) a oB.dst v h3
theorem ph2 (hS:Sound P Gl Γ) (S:k_ P sg Gl Γ N ops PR m rs F F0 M cN wr) (hT: ∀i,m<i->i<ops.size-> ∀j,j<i->j∈PR i) (hm:aR w0 bj M) (hF:eH w0 bj N F a0.tmps) (hG: ∀g,Den w0 bj.bare (Gl g) (.pointer (some ⟨g,0,none⟩))) {Q:Exit->Act->World->Prop} (kx: ∀d c a v w,Q (.panic c) (Act.put a d v) w->Q (.panic c) a w)
    {KQ:List Nat} {oB:Oper} (B:FD P Gl N ops PR m rs F0 M cN KQ oB) (VE:oB.guard=none)
    (rM: ∀a w ω,Inv ops PR m rs M N a0 w0 bj (λj=>j<m) a w ω->wpList P ops Q (ops.toList.drop m) a w):
    ∀(fuel:Nat) (listed:Array Bool) (a:Act) (w:World) (ω:Ow) (n:Next) (v:Value) (w':World),listed.size=ops.size->mI ops.size (listed.setIfInBounds m true)<=fuel->Inv ops PR m rs M N a0 w0 bj (λj=>listed.getD j false=true) a w ω->(∀j∈PR m,listed.getD j false=true)->
     (execOp a.eval oB).run P w= .ok n w'->(n= .value v\/(n= .skip/\v=undef))-> ¬(oB.asks P a w/\LetsOut Q)->SQ KQ bj w w'->wpAny P .any ops Q fuel (listed.setIfInBounds m true) (a.put oB.dst v) w':=by
  have qW:m<ops.size:=(Array.getElem?_eq_some_iff.1 B.at_).1
  have nC:=Region.noSelect_spec B.gQ
  have fin: ∀(fuel:Nat) (listed:Array Bool) (a:Act) (w:World) (ω:Ow) (n:Next) (v:Value) (w':World),listed.size=ops.size->mI ops.size (listed.setIfInBounds m true)<=fuel->Inv ops PR m rs M N a0 w0 bj (λj=>listed.getD j false=true) a w ω->
   (execOp a.eval oB).run P w= .ok n w'->(n= .value v\/(n= .skip/\v=undef))-> ¬(oB.asks P a w/\LetsOut Q)->(∀j,j<m->listed.getD j false=true)->wpAny P .any ops Q fuel (listed.setIfInBounds m true) (a.put oB.dst v) w':=by
    intro fuel listed a w ω n v w' hs hu I gw hn zD fW
    have hD:(λj=>listed.getD j false=true)=(λj=>j<m):=by
      funext j
      exact propext ⟨I.low j,fW j⟩
    have I':=I
    rw[hD]at I'
    have hl:=rM a w ω I'
    have I1:ops.toList.drop m=oB::ops.toList.drop (m+1):=by
      have la:m<ops.toList.length:=by simpa using qW
      rw[List.drop_eq_getElem_cons la]
      congr 1
      have:=(Array.getElem?_eq_some_iff.1 B.at_).2
      simpa using this
    rw[I1]at hl
    unfold wpList at hl
    have hw:Region.wanted oB (yielded ops a.tmps)=true:=by simp[Region.wanted,VE]
    rw[if_pos hw]at hl
    have hl:=hl.resolve_right zD
    have Kx:wpList P ops Q (ops.toList.drop (m+1)) (a.put oB.dst v) w':=by
      unfold Oper.wp at hl
      rw[gw]at hl
      rcases hn with rfl|⟨rfl,rfl⟩
      · exact hl
      · exact hl
    refine D7 S (m+1) (λi J h2 j h3 h4=>hT i (by omega) h2 j h3) fuel (m+1) _ _ _ (by simpa using hs) (λj hj=>?_) (Nat.le_refl _) qW hu Kx
    by_cases e:m=j
    · subst e
      have:(listed.setIfInBounds m true).getD m false=true:=by simp[Array.getD,hs,hj]
      rw[this];simp
    · rw[getD_set_ne false e]
      constructor
      · intro h;have:=I.low j h;omega
      · intro h;exact fW j (by omega)
  intro fuel
  induction fuel with
  |zero=>
   intro listed a w ω n v w' hs hu I mM gw hn zD xy
   refine fin 0 listed a w ω n v w' hs hu I gw hn zD λj hj=>?_
   cases hx:listed.getD j false with
   |true=>rfl
   |false=>
    have J:(listed.setIfInBounds m true).getD j true=false:=by
      rw[getD_set_ne true (by omega),getD_eq (by omega) true false];exact hx
    have:=yl (show j<ops.size by omega) J
    omega
  |succ fuel ih=>
   intro listed a w ω n v w' hs hu I mM gw hn zD xy
   by_cases fW: ∀j,j<m->listed.getD j false=true
   · exact fin _ listed a w ω n v w' hs hu I gw hn zD fW
   have first: ∃j,j<m/\listed.getD j false=false/\j∈Region.ready .any ops listed:=by
     refine Classical.byContradiction λcj=>?_
     have: ∀n,∀j,j<n->j<m->listed.getD j false=true:=by
       intro n
       induction n with
       |zero=>intro j hj;omega
       |succ n tC=>
        intro j hj j4
        cases hx:listed.getD j false with
        |true=>rfl
        |false=>
         exfalso
         have bz:j<ops.size:=by omega
         refine cj ⟨j,j4,hx,mem_ready.2 ⟨by rw[getD_eq (by omega) true false];exact hx,ops[j],Array.getElem?_eq_getElem bz,λe he hb=>?_⟩⟩
         have hd:=S.xj j _ (Array.getElem?_eq_getElem bz) e he hb
         exact tC e.on (by omega) (by omega)
     exact fW λj hj=>this (j+1) j (Nat.lt_succ_self j) hj
   have oV:listed.getD m false=false:=by
     cases hx:listed.getD m false with
     |false=>rfl
     |true=>exact absurd (I.low m hx) (Nat.lt_irrefl _)
   refine⟨λhr=>?_,λi hi=>?_⟩
   · obtain⟨j,hj,_,qX⟩:=first
     have:=ready_mono (i:=m) qX (by omega)
     rw[hr]at this
     simp at this
   · obtain⟨J,o,h2,h3⟩:=mem_ready.1 hi
     have a_:=(Array.getElem?_eq_some_iff.1 h2).1
     have JG:m≠i:=λe=>by
       subst e
       simp[Array.getD,hs,a_]at J
     have xw:listed.getD i false=false:=by
       rw[getD_set_ne true JG,getD_eq (by omega) true false]at J;exact J
     have B3: ∀x∈PR i,x=m\/listed.getD x false=true:=by
       intro x hx
       obtain⟨e,he,hb,dO⟩:=S.dep i o h2 x hx
       have iT:=h3 e he hb
       by_cases em:m=e.on
       · rcases dO with rfl|dO
         · exact .inl em.symm
         · exact .inr (mM x (em▸dO))
       · rw[getD_set_ne false em]at iT
         rcases dO with rfl|dO
         · exact .inr iT
         · exact .inr (I.fJ _ iT x dO)
     have iV:i<m:=by
       rcases Nat.lt_or_ge i m with h|h
       · exact h
       · exfalso
         obtain⟨j,hj,tD,_⟩:=first
         rcases B3 j (hT i (by omega) a_ j (by omega))with h|h
         · omega
         · rw[h]at tD;cases tD
     have gL: ∀x∈PR i,listed.getD x false=true:=λx hx=>(B3 x hx).resolve_left λe=>by have:=S.lt i x hx;omega
     have xd:i∉PR m:=λh=>by rw[mM i h]at xw;cases xw
     obtain⟨hg,vi,hv⟩:=Zr S hm hF hG B I iV h2 xd gL
     have xx:=B.ap i o iV h2 xd
     obtain⟨p1,p2,p3⟩:=Oper.apart_spec xx
     have eB:execOp (a.put o.dst vi).eval oB=execOp a.eval oB:=execOp_put oB (λcs b=>nC m oB cs b B.at_) a o.dst vi p1
     have ei:execOp (a.put oB.dst v).eval o=execOp a.eval o:=Rv nC h2 xx v
     have fY: ¬listed.getD i false=true:=by rw[xw];simp
     have hI: ∃ao,Inv ops PR m rs M N a0 w0 bj (λj=>listed.getD j false=true\/j=i) (a.put o.dst vi) w ao:=by
       have h:=I.step (Q:=λ_ _ _=>False) (K:=λa' w'=> ∃ao,Inv ops PR m rs M N a0 w0 bj (λj=>listed.getD j false=true\/j=i) a' w' ao) hS S hm hF hG iV h2 fY gL (λa' w' ao I'=>⟨ao,I'⟩)
       unfold wpOp at h
       rw[h2]at h
       simp only at h
       rw[if_pos (by simp[Region.wanted,hg])]at h
       rcases h with h|⟨_,_,_,h⟩
       · unfold Oper.wp at h
         rw[hv w (λ_ _ _ _=>rfl)]at h
         exact h
       · exact h.elim
     obtain⟨ao,I'⟩:=hI
     have mD:(λj=>(listed.setIfInBounds i true).getD j false=true)=(λj=>listed.getD j false=true\/j=i):=by
       funext j
       refine propext ⟨λh=>?_,λh=>?_⟩
       · by_cases e:i=j
         · exact .inr e.symm
         · rw[getD_set_ne false e]at h;exact .inl h
       · rcases h with h|rfl
         · exact getD_set_true h
         · simp[Array.getD,hs,a_]
     have BC:(listed.setIfInBounds m true).setIfInBounds i true=(listed.setIfInBounds i true).setIfInBounds m true:=Array.setIfInBounds_comm _ _ (by omega)
     unfold wpOp
     rw[h2]
     simp only
     rw[if_pos (by simp[Region.wanted,hg])]
     left
     unfold Oper.wp
     rw[ei,hv w' xy]
     show wpAny P .any ops Q fuel ((listed.setIfInBounds m true).setIfInBounds i true) ((a.put oB.dst v).put o.dst vi) w'
     rw[BC,<-Act.put_comm a vi v p2]
     refine ih (listed.setIfInBounds i true) (a.put o.dst vi) w ao n v w' (by simpa using hs) ?_ (by rw[mD];exact I') (λj hj=>getD_set_true (mM j hj)) (by rw[eB];exact gw) hn ?_ xy
     · rw[<-BC]
       have:=vT (listed:=listed.setIfInBounds m true) a_ (by simpa using hs) J
       omega
     · rintro ⟨g1,g2⟩
       refine zD ⟨?_,g2⟩
       unfold Oper.asks at*
       rw[eB]at g1
       exact g1
theorem aaO (hS:Sound P Gl Γ) (S:k_ P sg Gl Γ N ops PR m rs F F0 M cN wr) (hT: ∀i,m<i->i<ops.size-> ∀j,j<i->j∈PR i) (hm:aR w0 bj M) (hF:eH w0 bj N F a0.tmps) (hG: ∀g,Den w0 bj.bare (Gl g) (.pointer (some ⟨g,0,none⟩))) {Q:Exit->Act->World->Prop} (kx: ∀d c a v w,Q (.panic c) (Act.put a d v) w->Q (.panic c) a w)
    {KQ:List Nat} {oB:Oper} (B:FD P Gl N ops PR m rs F0 M cN KQ oB)
    (rM: ∀a w ω,Inv ops PR m rs M N a0 w0 bj (λj=>j<m) a w ω->wpList P ops Q (ops.toList.drop m) a w):
    ∀(fuel:Nat) (listed:Array Bool) (a:Act) (w:World) (ω:Ow),listed.size=ops.size->mI ops.size listed<=fuel->Inv ops PR m rs M N a0 w0 bj (λj=>listed.getD j false=true) a w ω->wpAny P .any ops Q fuel listed a w:=by
  have qW:m<ops.size:=(Array.getElem?_eq_some_iff.1 B.at_).1
  intro fuel
  induction fuel with
  |zero=>
   intro listed a w ω hs hu I
   exfalso
   have oV:listed.getD m true=false:=by
     cases hx:listed.getD m false with
     |false=>rw[getD_eq (by omega) true false];exact hx
     |true=>exact absurd (I.low m hx) (Nat.lt_irrefl _)
   have:=yl qW oV
   omega
  |succ fuel ih=>
   intro listed a w ω hs hu I
   have oV:listed.getD m false=false:=by
     cases hx:listed.getD m false with
     |false=>rfl
     |true=>exact absurd (I.low m hx) (Nat.lt_irrefl _)
   have pz: ∀i,i∈Region.ready .any ops listed-> ∀x∈PR i,listed.getD x false=true:=by
     intro i hi x hx
     obtain⟨J,o,h2,h3⟩:=mem_ready.1 hi
     obtain⟨e,he,hb,dO⟩:=S.dep i o h2 x hx
     have iT:=h3 e he hb
     rcases dO with rfl|dO
     · exact iT
     · exact I.fJ _ iT x dO
   refine⟨λhr=>?_,λi hi=>?_⟩
   · exfalso
     have: ∀n,∀j,j<n->j<ops.size->listed.getD j false=true:=by
       intro n
       induction n with
       |zero=>intro j hj;omega
       |succ n tC=>
        intro j hj bz
        cases hx:listed.getD j false with
        |true=>rfl
        |false=>
         exfalso
         have:j∈Region.ready .any ops listed:=mem_ready.2 ⟨by rw[getD_eq (by omega) true false];exact hx,ops[j],Array.getElem?_eq_getElem bz,λe he hb=>by
           have hd:=S.xj j _ (Array.getElem?_eq_getElem bz) e he hb
           exact tC e.on (by omega) (by omega)⟩
         rw[hr]at this
         simp at this
     rw[this (m+1) m (Nat.lt_succ_self m) qW]at oV
     cases oV
   · obtain⟨J,o,h2,h3⟩:=mem_ready.1 hi
     have a_:=(Array.getElem?_eq_some_iff.1 h2).1
     have fY: ¬listed.getD i false=true:=by
       rw[getD_eq (by omega) false true,J];simp
     have mD:(λj=>(listed.setIfInBounds i true).getD j false=true)=(λj=>listed.getD j false=true\/j=i):=by
       funext j
       refine propext ⟨λh=>?_,λh=>?_⟩
       · by_cases e:i=j
         · exact .inr e.symm
         · rw[getD_set_ne false e]at h;exact .inl h
       · rcases h with h|rfl
         · exact getD_set_true h
         · simp[Array.getD,hs,a_]
     have JU:=vT a_ hs J
     rcases Nat.lt_trichotomy i m with iV|iV|iV
     · refine I.step hS S hm hF hG iV h2 fY (pz i hi) λa' w' ao I'=>ih _ a' w' ao (by simpa using hs) (by omega) ?_
       rw[mD];exact I'
     · subst iV
       obtain rfl:o=oB:=Option.some.inj (h2.symm.trans B.at_)
       have mM:=pz i hi
       obtain⟨g1,g2,g3⟩:=I.all S hm hF mM (λj hj=>S.closed i j hj)
       have bC:St P Gl N (vF rs F0 (PR i)) (vM rs M (PR i)) a w (db rs M ω (PR i)):=⟨g2,λg=>Den.ext (o:=bj.bare) (I.s_ S hm (PR i)).bare (hG g),g1,I.defers⟩
       obtain⟨nx,pr,κ,he,hp,xU⟩:=B.Kw
       obtain⟨hg,_,n,v,w',gw,hn,BB⟩:=Zq bC he hp
       unfold wpOp
       rw[h2]
       simp only
       rw[if_pos (by simp[Region.wanted,hg])]
       by_cases UT:o.asks P a w/\LetsOut Q
       · exact .inr UT
       left
       have xy:SQ KQ bj w w':=by
         intro k hk L hL
         obtain⟨hf,cj⟩:=B.key k hk
         have uW:(db rs M ω (PR i)).β k none=some L:=by
           rw[sub_eq (λh=>by have:=h.1;rw[hf]at this;cases this),I.p8 k none (λ_ _ _=>hf)];exact hL
         refine BB L.b (g1.low _ _ _ uW) λk' cR p L' fK e=>?_
         obtain⟨rfl,_⟩:=g1.inj _ _ _ _ _ _ fK uW e
         exact xU _ cR hk
       have:=ph2 hS S hT hm hF hG kx B hg rM fuel listed a w ω n v w' hs (by omega) I mM gw hn UT xy
       unfold Oper.wp
       rw[gw]
       rcases hn with rfl|⟨rfl,rfl⟩
       · exact this
       · exact this
     · exfalso
       have:=pz i hi m (hT i iV a_ m iV)
       rw[oV]at this
       cases this
end
end Go.Sy
