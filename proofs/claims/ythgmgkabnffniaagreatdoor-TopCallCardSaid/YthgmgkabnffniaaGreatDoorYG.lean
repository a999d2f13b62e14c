/-
  Sy: regions that draw their order: a call that writes what is lent to it, and may come ahead of some loads.
-/
import Derived.Test.YthgmgkabnffniaaGreatDoorYF
set_option linter.unusedVariables false
set_option linter.unusedSimpArgs false
namespace Go.Sy
open Go.RowKit Classical
def C8 (P:Program) (Gl:Nat->SV) (Γ:Table) (F:Fr) (M:Mem) (nx:Nat) (o:Oper):Option (Prop×SV×bf):=
 match o.guard,o.op with
 |none,.call {callee:= .value f,args:=args,argTypes:=_}=>CB Γ (c_ Gl F) (ae M) nx f args.toList
 |none,.call {callee:= .invoke r name,args:=args,argTypes:=_}=>BB P Γ (c_ Gl F) (ae M) nx r name args.toList
 |_,_=>none
def G_ (P:Program) (Gl:Nat->SV) (F:Fr) (M:Mem) (nx:Nat) (o:Oper):Option (Prop×SV×bf):=
 match o.guard,o.dst,o.op with
 |none,none,.store T x y=>
  match oA (ae M) (c_ Gl F y),P.info? T,c_ Gl F x with
  |some [v],some i,.ptr k st p b j=>
   match Nat.beq 1 i.size,nQ (ae M) v,cG (ae M) k st p,wN (ae M) nx k p b j v with
   |true,true,true,some (pr,u)=>(match cR (u.map (·.1)) k with|true=>some (pr,.aI,u)|false=>none)
   |_,_,_,_=>none
  |_,_,_=>none
 |_,_,_=>none
def D6 (P:Program) (Gl:Nat->SV) (Γ:Table) (F:Fr) (M:Mem) (nx:Nat) (o:Oper):Option (Prop×SV×bf):=
 match o.op with
 | .store _ _ _=>G_ P Gl F M nx o
 |_=>C8 P Gl Γ F M nx o
def MF:Op->Bool
 | .load _ _=>true
 | .nilCheck _=>true
 | .indexAddr _ _ _=>true
 |_=>false
section
variable {P:Program} {sg:Bool} {Gl:Nat->SV} {Γ:Table} {N:Nat} {F:Fr} {M:Mem} {a:Act} {w:World} {ω:Ow} {H:List Hd}
theorem Vx (d:Sound P Gl Γ) (h:St P Gl N F M a w ω) {nx:Nat} {o:Oper} {pr:Prop} {s:SV} {u:bf} (b:C8 P Gl Γ F M nx o=some (pr,s,u)) (hp:pr):o.guard=none/\zz P w ω M a o s u:=by
 unfold C8 at b;split at b
 ·next c ho=>exact⟨c,FX d h.eo h.cx ho b hp⟩
 ·next c ho=>exact⟨c,EW d h.eo h.cx ho b hp⟩
 ·cases b
def SN (P:Program) (w:World) (ω:Ow) (M:Mem) (a:Act) (o:Oper) (s:SV) (u:bf):Prop:=
 ∀{next:Act->World->Prop} {Q:Exit->Act->World->Prop},(∀v w' aq,bz w ω M w' aq (u++M)->Den w' aq s v->QZ ω (u.map (·.1)) w w'->next (a.put o.dst v) w')->o.wp P a w next Q
theorem Uy (h:St P Gl N F M a w ω) {nx:Nat} {o:Oper} {pr:Prop} {s:SV} {u:bf} (d:G_ P Gl F M nx o=some (pr,s,u)) (hp:pr):o.guard=none/\SN P w ω M a o s u:=by
 have hm:=h.mem;unfold G_ at d;split at d
 ·next T x y O hd ho=>
  refine⟨O,?_⟩;have J:=h.cx.val x;split at d
  ·next v i k st p K j t R hs=>
   rw[hs]at J;split at d
   ·next S u' hlen g z A=>
    split at d
    ·next B=>
     simp only[bF,bJ]at d;obtain⟨rfl,rfl,rfl⟩:=d;have r:=yc hm t (h.cx.val y);have hlen:=a_ hlen;obtain⟨l,n⟩:∃l,(a.eval y).cells.toList= [l]:=by
      have:=r.len
      match hl:(a.eval y).cells.toList,this with
      | [l],_=>exact⟨l,rfl⟩
     rw[n]at r;have g:([v]:List SV).all (nQ (ae M))=true:=by simp[g]
     have h1:=Bf hm g r;have C:(a.eval y).cells.size=i.size:=by rw[<-kX,n,<-hlen];rfl
     have E:(sizeOf T).run P w= .ok i.size w:=by simp[sizeOf,run_typeInfo w R,Result.andThen]
     obtain⟨e0,L,G,q,ex⟩:=gr hm z J;obtain⟨U,I,s1,_⟩:=Ki hm A hp r.1 (h1 l (by simp)) G q;obtain⟨_,_,_,_,c,T0,V,g2,g3,W⟩:=hm.row _ _ _ G;obtain⟨_,X,_⟩:=W K q j U;have Y:=A7 (P:=P) (x:=l) V (eZ.1 X).1 (h1 l (by simp));have run:(execOp a.eval o).run P w= .ok .skip (w.setCell ⟨L.b,L.o+K*L.sz+j,none⟩ l):=by simp[execOp,ho,ex,Instr.storeAt,Instr.sureAddr,storeVar,E,C,n,storeCells,Addr.add,Y,Result.andThen]
     intro next Q Z
     unfold Oper.wp;rw[run];exact Z undef _ I s1 trivial λb hb hk=>yb w _ l (λe=>hk k (gU.1 B) p L G e.symm)
    ·cases d
   ·cases d
  ·cases d
 ·cases d
theorem Y4 (i:Sound P Gl Γ) (h:St P Gl N F M a w ω) {nx:Nat} {o:Oper} {pr:Prop} {s:SV} {u:bf} (g:D6 P Gl Γ F M nx o=some (pr,s,u)) (hp:pr):o.guard=none/\SN P w ω M a o s u:=by
 unfold D6 at g;split at g
 ·exact Uy h g hp
 ·obtain⟨j,id,vs,d,b⟩:=Vx i h g hp;refine⟨j,?_⟩;intro next Q k
  unfold Oper.wp;rw[d];unfold s8 at b;refine b.mono ?_;rintro e w' ⟨v,aq,rfl,l,n,_,c⟩;exact k v w' aq l n c
theorem Tr {o:Oper} {p:Prop} {ko:Option Nat} (c:qF P Gl F M o=some (p,ko)):o.guard=none/\MF o.op=true:=by
 unfold qF at c;split at c
 ·next b ho=>exact⟨b,by rw[ho];rfl⟩
 ·next b ho=>exact⟨b,by rw[ho];rfl⟩
 ·next b ho=>exact⟨b,by rw[ho];rfl⟩
 ·cases c
theorem abv (E:Sound P Gl Γ) (h:St P Gl N F M a w ω) (A:gO w ω N a H) {ops:List Oper} {nx:Nat} {pr:List Nat} {o:Oper} {p:Prop} {k:Rc} (B:o.guard=none) (d:MF o.op=true)
 (b:pR P sg Gl Γ N ops F M H nx pr o=some (p,k)) (hp:p):∃s v,k=⟨gZ N o.dst s,[],[]⟩/\(execOp a.eval o).run P w= .ok (.value v) w/\Den w ω s v:=by
 have l:guardOf N ops F H o= .yes:=by unfold guardOf;rw[B]
 have n:C9 o.op=false:=by
  cases ho:o.op with
  |load T x=>rfl
  |nilCheck x=>rfl
  |indexAddr T x y=>rfl
  |_=>rw[ho]at d;cases d
 unfold pR at b;rw[l,n]at b;have key:∃s u,k=⟨gZ N o.dst s,[],u⟩/\(lO P sg Gl Γ F M nx H [] o.op).run (λs' q=>s'=s/\q=u):=by
  cases g:qU H o.dst with
  |false=>rw[g]at b;cases b
  |true=>
   rw[g]at b;simp only at b;split at b
   ·next s e=>
    simp only[bF,bJ]at b;exact⟨s,[],b.2.symm,by rw[e];exact⟨rfl,rfl⟩⟩
   ·next s e=>
    simp only[bF,bJ]at b;exact⟨s,[],b.2.symm,by rw[e];exactλ_=>⟨rfl,rfl⟩⟩
   ·next s e=>
    simp only[bF,bJ]at b;exact⟨s,[],b.2.symm,by rw[e];exact⟨by rw[b.1];exact hp,rfl,rfl⟩⟩
   ·next s u e=>
    split at b
    ·simp only[bF,bJ]at b;exact⟨s,u,b.2.symm,by rw[e];exact⟨by rw[b.1];exact hp,rfl,rfl⟩⟩
    ·cases b
   ·cases b
   ·cases b
 obtain⟨s,u,rfl,c⟩:=key;have t:Cx P w ω (c_ Gl (im [] F H)) M a:=⟨(ny h.frame (As:= []) (λp hp=>by cases hp) H A).c_ h.eo,h.mem⟩;have fin:∀{r:R},(∀{z:SV->Prop},r.run z->fj P w ω a o z)->r.up.run (λs' q=>s'=s/\q=u)->∃i v,(⟨gZ N o.dst s,[],u⟩:Rc)=⟨gZ N o.dst i,[],[]⟩/\(execOp a.eval o).run P w= .ok (.value v) w/\Den w ω i v:=by
  intro r h1 h2;have:r.run (λs'=>s'=s/\([]:bf)=u):=by cases r<;>exact h2
  obtain⟨s',v,C,g2,rfl,rfl⟩:=h1 this;exact⟨s',v,rfl,C,g2⟩
 cases ho:o.op with
 |load T x=>rw[ho]at c;exact fin (λj=>s9 t (by rw[ho];exact j)) c
 |nilCheck x=>rw[ho]at c;exact fin (λj=>s9 t (by rw[ho];exact j)) c
 |indexAddr T x y=>rw[ho]at c;exact fin (λj=>s9 t (by rw[ho];exact j)) c
 |_=>rw[ho]at d;cases d
end
section
variable {P:Program} {sg:Bool} {Gl:Nat->SV} {Γ:Table} {N:Nat} {ops:Array Oper} {PR:Nat->List Nat} {m:Nat} {rs:List Rc} {F F0:Fr} {M:Mem} {cS wr:Nat->Bool}
variable {a0 a:Act} {w0 w:World} {bu ω:Ow} {D:Nat->Prop}
structure Dx (P:Program) (Gl:Nat->SV) (Γ:Table) (N:Nat) (ops:Array Oper) (PR:Nat->List Nat) (m:Nat) (rs:List Rc) (F0:Fr) (M:Mem) (cS wr:Nat->Bool) (KQ:List Nat) (oB:Oper) (sB:SV) (uB:bf):Prop where
 at_:ops[m]? =some oB
 IV:∀j o,j<m->ops[j]? =some o->j∉PR m->cS j=false->∃p ko,qF P Gl (vF rs F0 (PR j)) (vM rs M (PR j)) o=some (p,ko)/\p/\∀k,ko=some k->k∈KQ
 emp:∀j,j<m->j∉PR m->keys rs j= []/\wr j=false
 IW:∃nx pr,D6 P Gl Γ (vF rs F0 (PR m)) (vM rs M (PR m)) nx oB=some (pr,sB,uB)/\pr
 out:∀k∈uB.map (·.1),k∉KQ
 key:∀k∈KQ,cC (ae M) k=false/\∀j,k∉keys rs j
 fX:Region.noSelect ops=true
 ap:∀j o,j<m->ops[j]? =some o->j∉PR m->o.apart ops oB=true
 low:∀j∈PR m,j<m
theorem Uz (T:Sound P Gl Γ) (S:jk P sg Gl Γ N ops PR m rs F F0 M cS wr) (hm:aU w0 bu M) (U:dV w0 bu N F a0.tmps) (V:∀g,Den w0 bu.bare (Gl g) (.pointer (some ⟨g,0,none⟩))) {KQ:List Nat} {oB:Oper} {sB:SV} {uB:bf} (B:Dx P Gl Γ N ops PR m rs F0 M cS wr KQ oB sB uB)
 (I:Inv ops PR m rs M N a0 w0 bu D a w ω) {j:Nat} {o:Oper} (n:j<m) (ho:ops[j]? =some o) (l:j∉PR m) (C:¬D j) (d:∀i∈PR j,D i):
 o.guard=none/\∃v,(∀w',SQ KQ bu w w'->(execOp a.eval o).run P w'= .ok (.value v) w')/\Inv ops PR m rs M N a0 w0 bu (λi=>D i\/i=j) (a.put o.dst v) w ω:=by
 obtain⟨E,g2,W⟩:=I.all S hm U d (λi X=>S.closed j i X);have c:=(B.emp j n l).1;have inv:∀{v:Value} {s:SV},cv rs j=⟨gZ N o.dst s,[],[]⟩->Den w (dd rs M ω (PR j)) s v->Inv ops PR m rs M N a0 w0 bu (λi=>D i\/i=j) (a.put o.dst v) w ω:=by
  intro v s b hd;have h:=I.Ot S hm n ho C d (λk q=>by rw[c]at q;cases q) (v:=v) (w':=w) (dR:=dd rs M ω (PR j)) (by rw[b];exact bz.refl E) (by rw[b];exact iN.refl _ _) (by rw[b];exact⟨A6 hd,λx Y=>by cases Y⟩);have e:(⟨(dd rs M ω (PR j)).A,ω.Z,λk p=>if k∈keys rs j then(dd rs M ω (PR j)).β k p else ω.β k p,ω.cur⟩:Ow)=ω:=by
   show(⟨ω.A,ω.Z,_,ω.cur⟩:Ow)=ω;have:(λk p=>if k∈keys rs j then(dd rs M ω (PR j)).β k p else ω.β k p)=ω.β:=by funext k p;rw[if_neg (by rw[c];simp)]
   rw[this]
  rw[e]at h;exact h
 cases G:cS j with
 |true=>obtain⟨y,s,b,z⟩:=S.IF j o n ho G;obtain⟨v,h1,h2⟩:=GO E g2 z;exact⟨y,v,λw' _=>h1 w',inv b h2⟩
 |false=>
  obtain⟨p,ko,z,hp,q⟩:=B.IV j o n ho l G;have r:St P Gl N (vF rs F0 (PR j)) (vM rs M (PR j)) a w (dd rs M ω (PR j)):=⟨g2,λg=>Den.ext (o:=bu.bare) (I.p5 S hm (PR j)).bare (V g),E,I.defers⟩;obtain⟨y,v,h1⟩:=K1 r z hp;obtain⟨_,J⟩:=Tr z;obtain⟨nx,p',K,O⟩:=S.ev j o n ho G (B.emp j n l).2;obtain⟨s,R,b,h2,h3⟩:=abv T r W y J K O;have h0:=h1 w (λ_ _ _ _=>rfl);rw[h2]at h0;obtain rfl:R=v:=by cases h0;rfl
  refine⟨y,R,λw' hs=>h1 w' λk t L hL=>?_,inv b h3⟩;obtain⟨_,u⟩:=qy hL;have hf:=(B.key k (q k t)).1;rw[I.na k none (λ_ _ _=>hf)]at u;exact hs k (q k t) L u
def HN (KQ:List Nat) (PR:Nat->List Nat) (m:Nat) (rs:List Rc) (M:Mem) (bu:Ow) (sB:SV) (uB:bf) (w:World) (ω:Ow) (v:Value) (w':World):Prop:=
 SQ KQ bu w w'/\∃aq,Ext w (dd rs M ω (PR m)) w' aq/\aU w' aq (uB++vM rs M (PR m))/\Den w' aq sB v
theorem adg (hS:Sound P Gl Γ) (S:jk P sg Gl Γ N ops PR m rs F F0 M cS wr) (hT:∀i,m<i->i<ops.size->∀j,j<i->j∈PR i) (hm:aU w0 bu M) (hF:dV w0 bu N F a0.tmps) (hG:∀g,Den w0 bu.bare (Gl g) (.pointer (some ⟨g,0,none⟩))) {Q:Exit->Act->World->Prop} (IB:∀d c a v w,Q (.panic c) (Act.put a d v) w->Q (.panic c) a w)
 {KQ:List Nat} {oB:Oper} {sB:SV} {uB:bf} (B:Dx P Gl Γ N ops PR m rs F0 M cS wr KQ oB sB uB)
 (z:∀a w ω v w',Inv ops PR m rs M N a0 w0 bu (λj=>j<m) a w ω->HN KQ PR m rs M bu sB uB w ω v w'->wpList P ops Q (ops.toList.drop (m+1)) (a.put oB.dst v) w') (w:World) (ω:Ow) (v:Value) (w':World) (l:HN KQ PR m rs M bu sB uB w ω v w'):
 ∀(fuel:Nat) (listed:Array Bool) (a:Act),listed.size=ops.size->kl ops.size (listed.setIfInBounds m true)<=fuel->Inv ops PR m rs M N a0 w0 bu (λj=>listed.getD j false=true) a w ω->(∀j∈PR m,listed.getD j false=true)->
  wpAny P .any ops Q fuel (listed.setIfInBounds m true) (a.put oB.dst v) w':=by
 have Y:m<ops.size:=(eZ.1 B.at_).1;have E:=Region.noSelect_spec B.fX;have fin:∀(fuel:Nat) (listed:Array Bool) (a:Act),listed.size=ops.size->kl ops.size (listed.setIfInBounds m true)<=fuel->Inv ops PR m rs M N a0 w0 bu (λj=>listed.getD j false=true) a w ω->
  (∀j,j<m->listed.getD j false=true)->wpAny P .any ops Q fuel (listed.setIfInBounds m true) (a.put oB.dst v) w':=by
  intro fuel listed a hs G I b;have hD:(λj=>listed.getD j false=true)=(λj=>j<m):=by funext j;exact propext ⟨I.low j,b j⟩
  have X:=I;rw[hD]at X;have Z:=z a w ω v w' X l;refine BZ S (m+1) (λi h1 h2 j h3 h4=>hT i (by omega) h2 j h3) fuel (m+1) _ _ _ (by simpa using hs) (λj r=>?_) (bc _) Y G Z;by_cases e:m=j
  ·subst e;have:(listed.setIfInBounds m true).getD m false=true:=by simp[Array.getD,hs,r]
   rw[this];simp
  ·rw[getD_set_ne false e];constructor
   ·intro h;have:=I.low j h;omega
   ·intro h;exact b j (by omega)
 intro fuel
 induction fuel with
 |zero=>
  intro listed a hs G I t;refine fin 0 listed a hs G I λj r=>?_;cases p:listed.getD j false with
  |true=>rfl
  |false=>
   have h1:(listed.setIfInBounds m true).getD j true=false:=by rw[getD_set_ne true (by omega),getD_eq (by omega) true false];exact p
   have:=wv (show j<ops.size by omega) h1;omega
 |succ fuel ih=>
  intro listed a hs G I t;by_cases b:∀j,j<m->listed.getD j false=true
  ·exact fin _ listed a hs G I b
  have first:∃j,j<m/\listed.getD j false=false/\j∈Region.ready .any ops listed:=by
   refine fN λtV=>?_;have:∀n,∀j,j<n->j<m->listed.getD j false=true:=by
    intro n
    induction n with
    |zero=>intro j r;omega
    |succ n ua=>
     intro j r IX;cases p:listed.getD j false with
     |true=>rfl
     |false=>
      exfalso;have J:j<ops.size:=by omega
      refine tV ⟨j,IX,p,mem_ready.2 ⟨by rw[getD_eq (by omega) true false];exact p,ops[j],fR J,λe he hb=>?_⟩⟩;have hd:=S.tY j _ (fR J) e he hb;exact ua e.on (by omega) (by omega)
   exact b λj r=>this (j+1) j (qx j) r
  have hmL:listed.getD m false=false:=by
   cases p:listed.getD m false with
   |false=>rfl
   |true=>exact absurd (I.low m p) (nA _)
  refine⟨λhr=>?_,λi hi=>?_⟩
  ·obtain⟨j,r,_,IY⟩:=first
   have:=ready_mono (i:=m) IY (by omega);rw[hr]at this;simp at this
  ·obtain⟨h1,o,h2,h3⟩:=mem_ready.1 hi;have u:=(eZ.1 h2).1;have K:m≠i:=λe=>by subst e;simp[Array.getD,hs,u]at h1
   have A:listed.getD i false=false:=by rw[getD_set_ne true K,getD_eq (by omega) true false]at h1;exact h1
   have y:∀x∈PR i,x=m\/listed.getD x false=true:=by
    intro x p;obtain⟨e,he,hb,k⟩:=S.dep i o h2 x p;have C:=h3 e he hb;by_cases em:m=e.on
    ·rcases k with rfl|k
     ·exact .inl em.symm
     ·exact .inr (t x (em▸k))
    ·rw[getD_set_ne false em]at C;rcases k with rfl|k
     ·exact .inr C
     ·exact .inr (I.fc _ C x k)
   have O:i<m:=by
    rcases bR i m with h|h
    ·exact h
    ·exfalso;obtain⟨j,r,R,_⟩:=first
     rcases y j (hT i (by omega) u j (by omega))with h|h
     ·omega
     ·rw[h]at R;cases R
   have T:∀x∈PR i,listed.getD x false=true:=λx p=>(y x p).resolve_left λe=>by have:=S.lt i x p;omega
   have U:i∉PR m:=λh=>by rw[t i h]at A;cases A
   have qc:¬listed.getD i false=true:=by rw[A];simp
   obtain⟨hg,vi,hv,X⟩:=Uz hS S hm hF hG B I O h2 U qc T;have V:=B.ap i o O h2 U;obtain⟨p1,p2,p3⟩:=Oper.apart_spec V;have ei:execOp (a.put oB.dst v).eval o=execOp a.eval o:=OG E h2 V v;have W:(λj=>(listed.setIfInBounds i true).getD j false=true)=(λj=>listed.getD j false=true\/j=i):=by
    funext j;refine propext ⟨λh=>?_,λh=>?_⟩
    ·by_cases e:i=j
     ·exact .inr e.symm
     ·rw[getD_set_ne false e]at h;exact .inl h
    ·rcases h with h|rfl
     ·exact getD_set_true h
     ·simp[Array.getD,hs,u]
   have q:(listed.setIfInBounds m true).setIfInBounds i true=(listed.setIfInBounds i true).setIfInBounds m true:=OH _ _ (by omega);unfold wpOp;rw[h2];simp only;rw[if_pos (by simp[Region.wanted,hg])];left;unfold Oper.wp;rw[ei,hv w' l.1];show wpAny P .any ops Q fuel ((listed.setIfInBounds m true).setIfInBounds i true) ((a.put oB.dst v).put o.dst vi) w';rw[q,<-Act.put_comm a vi v p2];refine ih (listed.setIfInBounds i true) (a.put o.dst vi) (by simpa using hs) ?_ (by rw[W];exact X) (λj r=>getD_set_true (t j r));rw[<-q];have:=sQ (listed:=listed.setIfInBounds m true) u (by simpa using hs) h1;omega
theorem W5 (V:Sound P Gl Γ) (S:jk P sg Gl Γ N ops PR m rs F F0 M cS wr) (hT:∀i,m<i->i<ops.size->∀j,j<i->j∈PR i) (hm:aU w0 bu M) (W:dV w0 bu N F a0.tmps) (X:∀g,Den w0 bu.bare (Gl g) (.pointer (some ⟨g,0,none⟩))) {Q:Exit->Act->World->Prop} (Y:∀d c a v w,Q (.panic c) (Act.put a d v) w->Q (.panic c) a w)
 {KQ:List Nat} {oB:Oper} {sB:SV} {uB:bf} (B:Dx P Gl Γ N ops PR m rs F0 M cS wr KQ oB sB uB)
 (y:∀a w ω v w',Inv ops PR m rs M N a0 w0 bu (λj=>j<m) a w ω->HN KQ PR m rs M bu sB uB w ω v w'->wpList P ops Q (ops.toList.drop (m+1)) (a.put oB.dst v) w'):
 ∀(fuel:Nat) (listed:Array Bool) (a:Act) (w:World) (ω:Ow),listed.size=ops.size->kl ops.size listed<=fuel->Inv ops PR m rs M N a0 w0 bu (λj=>listed.getD j false=true) a w ω->wpAny P .any ops Q fuel listed a w:=by
 have G:m<ops.size:=(eZ.1 B.at_).1;intro fuel
 induction fuel with
 |zero=>
  intro listed a w ω hs hu I;exfalso;have r:listed.getD m true=false:=by
   cases t:listed.getD m false with
   |false=>rw[getD_eq (by omega) true false];exact t
   |true=>exact absurd (I.low m t) (nA _)
  have:=wv G r;omega
 |succ fuel ih=>
  intro listed a w ω hs hu I;have r:listed.getD m false=false:=by
   cases t:listed.getD m false with
   |false=>rfl
   |true=>exact absurd (I.low m t) (nA _)
  have l:∀i,i∈Region.ready .any ops listed->∀x∈PR i,listed.getD x false=true:=by
   intro i E x t;obtain⟨h1,o,h2,J⟩:=mem_ready.1 E;obtain⟨e,K,Z,z⟩:=S.dep i o h2 x t;have O:=J e K Z;rcases z with rfl|z
   ·exact O
   ·exact I.fc _ O x z
  refine⟨λhr=>?_,λi E=>?_⟩
  ·exfalso;have:∀n,∀j,j<n->j<ops.size->listed.getD j false=true:=by
    intro n
    induction n with
    |zero=>intro j hj;omega
    |succ n ua=>
     intro j hj R;cases t:listed.getD j false with
     |true=>rfl
     |false=>
      exfalso;have:j∈Region.ready .any ops listed:=mem_ready.2 ⟨by rw[getD_eq (by omega) true false];exact t,ops[j],fR R,λe K Z=>by have hd:=S.tY j _ (fR R) e K Z;exact ua e.on (by omega) (by omega)⟩
      rw[hr]at this;simp at this
   rw[this (m+1) m (qx m) G]at r;cases r
  ·obtain⟨h1,o,h2,J⟩:=mem_ready.1 E;have A:=(eZ.1 h2).1;have qc:¬listed.getD i false=true:=by rw[getD_eq (by omega) false true,h1];simp
   have T:(λj=>(listed.setIfInBounds i true).getD j false=true)=(λj=>listed.getD j false=true\/j=i):=by
    funext j;refine propext ⟨λh=>?_,λh=>?_⟩
    ·by_cases e:i=j
     ·exact .inr e.symm
     ·rw[getD_set_ne false e]at h;exact .inl h
    ·rcases h with h|rfl
     ·exact getD_set_true h
     ·simp[Array.getD,hs,A]
   have hu':=sQ A hs h1;rcases B8 i m with q|q|q
   ·refine I.step V S hm W X q h2 qc (l i E) λa' w' aq I'=>ih _ a' w' aq (by simpa using hs) (by omega) ?_;rw[T];exact I'
   ·subst q;obtain rfl:o=oB:=aV (h2.symm.trans B.at_);have U:=l i E;obtain⟨g1,g2,g3⟩:=I.all S hm W U (λj hj=>S.closed i j hj);have lZ:St P Gl N (vF rs F0 (PR i)) (vM rs M (PR i)) a w (dd rs M ω (PR i)):=⟨g2,λg=>Den.ext (o:=bu.bare) (I.p5 S hm (PR i)).bare (X g),g1,I.defers⟩;obtain⟨nx,pr,K,hp⟩:=B.IW;obtain⟨hg,hop⟩:=Y4 V lZ K hp;unfold wpOp;rw[h2];simp only;rw[if_pos (by simp[Region.wanted,hg])];left;refine hop ?_;intro v w' aq J h4 C;have IZ:SQ KQ bu w w':=by
     intro k hk L hL;obtain⟨hf,tV⟩:=B.key k hk;have u:(dd rs M ω (PR i)).β k none=some L:=by rw[sub_eq (λh=>by have:=h.1;rw[hf]at this;cases this),I.na k none (λ_ _ _=>hf)];exact hL
     refine C L.b (g1.low _ _ _ u) λk' xC p L' Ag e=>?_;obtain⟨rfl,_⟩:=g1.inj _ _ _ _ _ _ Ag u e;exact B.out _ xC hk
    exact adg V S hT hm W X Y B y w ω v w' ⟨IZ,aq,J.ext,J.mem,h4⟩ fuel listed a hs (by omega) I U
   ·exfalso;have:=l i E m (hT i q A m q);rw[r]at this;cases this
end
end Go.Sy
namespace Go.Sy
open Go.RowKit
/-! ### what is before an operation -/
def wI:List Nat->List Nat->List Nat
 | [],acc=>acc
 |x::r,acc=>match cR acc x with|true=>wI r acc|false=>wI r (x::acc)
theorem EH:∀{l acc:List Nat} {x:Nat},x∈wI l acc↔x∈l\/x∈acc
 | [],acc,x=>by simp[wI]
 |y::r,acc,x=>by
  unfold wI;split
  ·next h=>
   rw[EH];have:=gU.1 h;simp only[eG];constructor
   ·rintro (h|h)
    ·exact .inl (.inr h)
    ·exact .inr h
   ·rintro ((rfl|h)|h)
    ·exact .inr this
    ·exact .inl h
    ·exact .inr h
  ·rw[EH];simp only[eG];constructor
   ·rintro (h|rfl|h)
    ·exact .inl (.inr h)
    ·exact .inl (.inl rfl)
    ·exact .inr h
   ·rintro ((rfl|h)|h)
    ·exact .inr (.inl rfl)
    ·exact .inl h
    ·exact .inr (.inr h)
def nO (R:List (List Nat)):List Edge->List Nat->List Nat
 | [],acc=>acc
 |e::r,acc=>match Region.binds .any e with|true=>nO R r (wI (e.on::R.getD e.on []) acc)|false=>nO R r acc
theorem yh {R:List (List Nat)}:∀{es:List Edge} {acc:List Nat} {x:Nat},x∈nO R es acc↔x∈acc\/∃e∈es,Region.binds .any e=true/\(x=e.on\/x∈R.getD e.on [])
 | [],acc,x=>by simp[nO]
 |e::r,acc,x=>by
  unfold nO;split
  ·next b=>
   rw[yh,EH];simp only[eG,exists_eq_or_imp];constructor
   ·rintro ((h|h)|h)
    ·exact .inr (.inl ⟨b,h⟩)
    ·exact .inl h
    ·exact .inr (.inr h)
   ·rintro (h|⟨_,h⟩|h)
    ·exact .inl (.inr h)
    ·exact .inl (.inl h)
    ·exact .inr h
  ·next b=>
   rw[yh];simp only[eG,exists_eq_or_imp];constructor
   ·rintro (h|h)
    ·exact .inl h
    ·exact .inr (.inr h)
   ·rintro (h|⟨h,_⟩|h)
    ·exact .inl h
    ·rw[b]at h;cases h
    ·exact .inr h
def ey:List Oper->List (List Nat)->List (List Nat)
 | [],acc=>acc
 |o::r,acc=>ey r (acc++ [nO acc o.after.toList []])
theorem JC:∀(l:List Oper) (acc:List (List Nat)),(∃t,ey l acc=acc++t)/\∀k o,l[k]? =some o->(ey l acc)[acc.length+k]? =some (nO ((ey l acc).take (acc.length+k)) o.after.toList [])
 | [],acc=>⟨⟨[],by simp[ey]⟩,λk o h=>by simp at h⟩
 |o::r,acc=>by
  obtain⟨⟨t,c⟩,h⟩:=JC r (acc++ [nO acc o.after.toList []]);have e:ey (o::r) acc=ey r (acc++ [nO acc o.after.toList []]):=rfl;refine⟨⟨[nO acc o.after.toList []]++t,by rw[e,c];simp⟩,λk o' b=>?_⟩;cases k with
  |zero=>simp only[yU,bF]at b;subst b;rw[e,c];simp
  |succ k=>have:=h k o' (by simpa using b);rw[e];simpa [i_,jZ 1 k]using this
def sX:Nat->List Oper->Bool
 |_,[]=>true
 |i,o::r=>(o.after.toList.all λe=>!Region.binds .any e||Nat.blt e.on i)&&sX (i+1) r
theorem Jk:∀{l:List Oper} {i:Nat},sX i l=true->∀k o,l[k]? =some o->∀e∈o.after,Region.binds .any e=true->e.on<i+k
 | [],_,_,k,o,h=>by simp at h
 |x::r,i,c,k,o,h=>by
  simp only[sX,aW]at c;intro e d b;cases k with
  |zero=>simp only[yU,bF]at h;subst h;have:=cY.1 c.1 e (by simpa using d);rw[b]at this;exact bP this
  |succ k=>have:=Jk c.2 k o (by simpa using h) e d b;omega
def Cr (o:Oper):Bool:=
 match o.guard,o.op with
 |none,.extract _ _=>true
 |none,.binOp _ _ _ _ _=>true
 |none,.unOp _ _ _=>true
 |none,.convert _ _ _=>true
 |none,.move _=>true
 |none,.fieldAddr _ _ _=>true
 |none,.indexAddr _ _ _=>true
 |_,_=>false
def zx (ops:List Oper) (j:Nat):Bool:=match ops[j]? with|some o=>Cr o|none=>false
def FO (ops:List Oper):Nat->List (List Nat)->Nat->Nat
 |_,[],m=>m
 |i,p::r,m=>FO ops (i+1) r (match Nat.beq p.length i||(List.range i).all λj=>cR p j||(zx ops j&&Nat.blt j m)with|true=>m|false=>i+1)
def abf (R:List (List Nat)) (m n:Nat) (b:List Bool):Bool:=(List.range n).all λi=>Nat.blt i m||(List.range i).all λj=>cR (R.getD i []) j||(Nat.blt j m&&b.getD j false)
def Cs (ops:List Oper) (R:List (List Nat)) (b:List Bool):Bool:=
 (List.range b.length).all λi=>!(b.getD i false)||
   (match ops[i]? with
    |some oi=>Region.noSelect ops.toArray&&(List.range ops.length).all λj=>Nat.beq j i||cR (R.getD i []) j||(match ops[j]? with|some oj=>(oj.after.toList.any λe=>Region.binds .any e&&Nat.beq e.on i)||oi.apart ops.toArray oj|none=>true)
    |none=>true)
def GH (P:Program) (sg:Bool) (N:Nat) (V:Fr) (m:Nat->bw) (o:Oper):Option (Prop×Rc):=
 match Cr o,rr P sg V m o.op with
 |true,.ok s=>some (True,⟨gZ N o.dst s,[],[]⟩)
 |true,.kj _ s=>some (True,⟨gZ N o.dst s,[],[]⟩)
 |true,.dL p s=>some (p,⟨gZ N o.dst s,[],[]⟩)
 |_,_=>none
theorem Ui {P:Program} {sg:Bool} {N:Nat} {V:Fr} {m:Nat->bw} {o:Oper} {p:Prop} {d:Rc} (h:GH P sg N V m o=some (p,d)) (hp:p):o.guard=none/\∃s,d=⟨gZ N o.dst s,[],[]⟩/\(rr P sg V m o.op).run (λs'=>s'=s):=by
 have c:∀{b},Cr o=b->b=true->o.guard=none:=by intro b h e;subst e;unfold Cr at h;split at h<;>first|assumption|cases h
 unfold GH at h;split at h
 ·next s h1 h2=>
  simp only[bF,bJ]at h;exact⟨c h1 rfl,s,h.2.symm,by rw[h2];exact rfl⟩
 ·next s h1 h2=>
  simp only[bF,bJ]at h;exact⟨c h1 rfl,s,h.2.symm,by rw[h2];exactλ_=>rfl⟩
 ·next s h1 h2=>
  simp only[bF,bJ]at h;exact⟨c h1 rfl,s,h.2.symm,by rw[h2];exact⟨by rw[h.1];exact hp,rfl⟩⟩
 ·cases h
/-! ### all operations, one behind the other -/
def ke (P:Program) (sg:Bool) (Gl:Nat->SV) (Γ:Table) (N:Nat) (M:Mem):List Oper->Fr->Nat->Fr
 | [],F,_=>F
 |o::r,F,nx=>
  match lO P sg Gl Γ F M nx [] [] o.op with
  | .ok s=>ke P sg Gl Γ N M r (gy N F o.dst s) nx
  | .kj _ s=>ke P sg Gl Γ N M r (gy N F o.dst s) nx
  | .dL _ s=>ke P sg Gl Γ N M r (gy N F o.dst s) nx
  | .mem _ s _=>ke P sg Gl Γ N M r (gy N F o.dst s) nx
  | .any _ _=>ke P sg Gl Γ N M r (gy N F o.dst .aI) nx
  | .bad=>ke P sg Gl Γ N M r (gy N F o.dst .aI) nx
def wJ (Gl:Nat->SV) (F:Fr) (o:Oper):Option Nat:=
 match o.op with
 | .store _ x _=>(match c_ Gl F x with| .ptr k _ none _ _=>some k|_=>none)
 |_=>none
def nP:List Nat->Mem->Mem
 | [],M=>M
 |k::r,M=>
  match (ae M k).hl,(ae M k).b with
  |none,.cells l=>(match l.all λs=>!cZ s with|true=>nP r ((k,{ae M k with b:= .cells (mF l.length)})::M)|false=>nP r M)
  |_,_=>nP r M
def RZ:SV->Bool
 | .aI=>true
 |_=>false
def H_ (e f:bw):Bool:=
 match e.hl,e.b,f.hl,f.b with
 |none,.cells l,none,.cells l'=>Nat.beq e.rs f.rs&&Nat.beq e.ds f.ds&&l.all RZ&&Nat.beq l'.length l.length
 |_,_,_,_=>false
def pQ (P:Program) (sg:Bool) (Gl:Nat->SV) (Γ:Table) (N:Nat) (ops:List Oper) (R:List (List Nat)) (F0:Fr) (M:Mem):List Oper->Nat->List Rc->List Bool->List Bool->Nat->(List Rc->List Bool->List Bool->Nat->Prop)->Prop
 | [],_,rs,c,ws,nx,K=>K rs c ws nx
 |o::r,i,rs,c,ws,nx,K=>
  match GH P sg N (vF rs F0 (R.getD i [])) (ae (vM rs M (R.getD i []))) o with
  |some (p,d)=>p/\xn (rs++ [d]) λb=>pQ P sg Gl Γ N ops R F0 M r (i+1) b (c++ [true]) (ws++ [false]) nx K
  |none=>
   match pR P sg Gl Γ N ops (vF rs F0 (R.getD i [])) (vM rs M (R.getD i [])) (vH rs (R.getD i [])) nx (R.getD i []) o with
   |some (p,d)=>p/\xn (rs++ [d]) λb=>fy (nx+64) λdA=>pQ P sg Gl Γ N ops R F0 M r (i+1) b (c++ [false]) (ws++ [false]) dA K
   |none=>
    match evalW P Gl N ops (vF rs F0 (R.getD i [])) (vM rs M (R.getD i [])) (vH rs (R.getD i [])) o with
    |some (k,u)=>(match cC (ae M) k with|false=>xn (rs++ [⟨[],[],u⟩]) λb=>pQ P sg Gl Γ N ops R F0 M r (i+1) b (c++ [false]) (ws++ [true]) nx K|true=>False)
    |none=>False
def xA:Option Nat->Nat->Bool
 |some x,y=>Nat.beq x y
 |none,_=>false
def zO (ops:List Oper) (i:Nat):Option Nat:=match ops[i]? with|some o=>o.dst|none=>none
def zP (N:Nat) (ops:List Oper) (R:List (List Nat)) (M:Mem) (rs:List Rc) (ws:List Bool):Bool:=
 nodupB (rs.map λb=>b.u.map (·.1)).flatten&&
 ((List.range rs.length).all λi=>
   ((cv rs i).fs.all λp=>xA (zO ops i) p.1&&Nat.blt p.1 N)&&
   ((cv rs i).hs.all λh=>xA (zO ops i) h.slot&&(R.getD i []).any λg=>xA (zO ops g) h.d)&&
   ((cv rs i).u.all λp=>(cC (ae M) p.1||(ws.getD i false&&!cC (ae M) p.1&&H_ (ae M p.1) p.2))&&Nat.beq p.2.rs (ae M p.1).rs&&Nat.beq p.2.ds (ae M p.1).ds))
def dZ (l:List Oper) (F:Fr):Fr:=(l.filterMap (·.dst)).map (λt=>(t,SV.aI))++F
def Ct (P:Program) (sg:Bool) (Gl:Nat->SV) (Γ:Table) (N:Nat) (ops:List Oper) (K:Fr->Mem->Nat->Prop) (F:Fr) (M:Mem) (nx:Nat):Prop:=
 sY (ey ops []) λR=>
 fy (FO ops 0 R 0) λm=>
 match sX 0 ops,nodupB ((ops.take m).map λo=>o.dst.toList).flatten,Nat.ble m ops.length,P.follows .mixedOrders with
 |true,true,true,true=>
  let b:=nP ((ops.take m).filterMap (wJ Gl (ke P sg Gl Γ N M (ops.take m) F nx))) M
  pQ P sg Gl Γ N ops R (dZ (ops.take m) F) b (ops.take m) 0 [] [] [] nx λrs c ws dA=>
   match zP N ops R b rs ws&&abf R m ops.length c&&Cs ops R c with
   |true=>tE (vF rs (dZ (ops.take m) F) (List.range m)) (vM rs b (List.range m)) dA (vH rs (List.range m)) λF M nx H=>kW P sg Gl Γ N ops K (ops.drop m) F M nx H
   |false=>False
 |_,_,_,_=>False
def QU (R:List (List Nat)) (m n:Nat):Bool:=(List.range n).all λi=>Nat.ble i m||(List.range i).all λj=>cR (R.getD i []) j
def yr (P:Program) (Gl:Nat->SV) (ops:List Oper) (R:List (List Nat)) (F0:Fr) (M:Mem) (rs:List Rc) (b:List Bool) (m:Nat):List Nat->Option (Prop×List Nat)
 | []=>some (True,[])
 |j::r=>
  match cR (R.getD m []) j||b.getD j false,yr P Gl ops R F0 M rs b m r with
  |true,x=>x
  |false,some (q,l)=>(match ops[j]? with|some o=>(match qF P Gl (vF rs F0 (R.getD j [])) (vM rs M (R.getD j [])) o with|some (p,ko)=>some (p/\q,ko.toList++l)|none=>none)|none=>none)
  |false,none=>none
def R0 (M:Mem) (rs:List Rc) (KQ:List Nat):Bool:=KQ.all λk=>!cC (ae M) k&&rs.all λb=>!cR (b.u.map (·.1)) k
def D5 (ops:List Oper) (R:List (List Nat)) (m:Nat):Bool:=
 match ops[m]? with
 |some oB=>Region.noSelect ops.toArray&&(List.range m).all λj=>cR (R.getD m []) j||(match ops[j]? with|some o=>o.apart ops.toArray oB|none=>true)
 |none=>false
def FP (P:Program) (sg:Bool) (Gl:Nat->SV) (Γ:Table) (N:Nat) (ops:List Oper) (m:Nat) (K:Fr->Mem->Nat->Prop) (F:Fr) (M:Mem) (nx:Nat):Prop:=
 sY (ey ops []) λR=>
 match sX 0 ops,nodupB ((ops.take m).map λo=>o.dst.toList).flatten,Nat.ble m ops.length,P.follows .mixedOrders with
 |true,true,true,true=>
  let b:=nP ((ops.take m).filterMap (wJ Gl (ke P sg Gl Γ N M (ops.take m) F nx))) M
  pQ P sg Gl Γ N ops R (dZ (ops.take m) F) b (ops.take m) 0 [] [] [] nx λrs c ws dA=>
   match zP N ops R b rs ws&&QU R m ops.length&&Cs ops R c&&D5 ops R m,yr P Gl ops R (dZ (ops.take m) F) b rs c m (List.range m),ops[m]? with
   |true,some (p,KQ),some oB=>
    (match R0 b rs KQ,Cu P Gl (vF rs (dZ (ops.take m) F) (R.getD m [])) (vM rs b (R.getD m [])) (dA+100) oB with
     |true,some (pr,κ)=>(match κ.all λk=>!cR KQ k with|true=>p/\pr/\tE (vF rs (dZ (ops.take m) F) (List.range m)) (vM rs b (List.range m)) dA (vH rs (List.range m)) λF M nx H=>kW P sg Gl Γ N ops K (ops.drop m) F M nx H|false=>False)
     |_,_=>False)
   |_,_,_=>False
 |_,_,_,_=>False
def acX (R:List (List Nat)) (rs:List Rc) (ws:List Bool) (m:Nat):Bool:=(List.range m).all λj=>cR (R.getD m []) j||((match (cv rs j).u with| []=>true|_=>false)&&!(ws.getD j false))
def FQ (P:Program) (sg:Bool) (Gl:Nat->SV) (Γ:Table) (N:Nat) (ops:List Oper) (m:Nat) (K:Fr->Mem->Nat->Prop) (F:Fr) (M:Mem) (nx:Nat):Prop:=
 sY (ey ops []) λR=>
 match sX 0 ops,nodupB ((ops.take m).map λo=>o.dst.toList).flatten,Nat.ble m ops.length,P.follows .mixedOrders with
 |true,true,true,true=>
  pQ P sg Gl Γ N ops R (dZ (ops.take m) F) M (ops.take m) 0 [] [] [] nx λrs b ws dA=>
   match zP N ops R M rs ws&&QU R m ops.length&&Cs ops R b&&D5 ops R m&&acX R rs ws m,yr P Gl ops R (dZ (ops.take m) F) M rs b m (List.range m),ops[m]? with
   |true,some (p,KQ),some oB=>
    (match R0 M rs KQ,D6 P Gl Γ (vF rs (dZ (ops.take m) F) (R.getD m [])) (vM rs M (R.getD m [])) dA oB with
     |true,some (pr,sB,uB)=>
      (match (uB.map (·.1)).all (λk=>!cR KQ k),qU (vH rs (List.range m)) oB.dst with
       |true,true=>p/\pr/\tE (gy N (vF rs (dZ (ops.take m) F) (List.range m)) oB.dst sB) (uB++vM rs M (List.range m)) (dA+64) (vH rs (List.range m)) λF M nx H=>kW P sg Gl Γ N ops K (ops.drop (m+1)) F M nx H
       |_,_=>False)
     |_,_=>False)
   |_,_,_=>False
 |_,_,_,_=>False
theorem AZ {P:Program} {Gl:Nat->SV} {ops:List Oper} {R:List (List Nat)} {F0:Fr} {M:Mem} {rs:List Rc} {n:List Bool} {m:Nat}:∀{l:List Nat} {p:Prop} {KQ:List Nat},yr P Gl ops R F0 M rs n m l=some (p,KQ)->p->∀j∈l,∀o,ops[j]? =some o->j∉R.getD m []->n.getD j false=false->
 ∃q ko,qF P Gl (vF rs F0 (R.getD j [])) (vM rs M (R.getD j [])) o=some (q,ko)/\q/\∀k,ko=some k->k∈KQ
 | [],p,KQ,b,hp,j,c,o,ho,h1,h2=>absurd c (by simp)
 |i::r,p,KQ,b,hp,j,c,o,ho,h1,h2=>by
  unfold yr at b;split at b
  ·next d=>
   rcases eG.1 c with rfl|c
   ·rw[cM]at d;rcases d with d|d
    ·exact absurd (gU.1 d) h1
    ·rw[h2]at d;cases d
   ·exact AZ b hp j c o ho h1 h2
  ·next q l d t=>
   split at b
   ·next o' g=>
    split at b
    ·next p' ko u=>
     obtain⟨rfl,rfl⟩:=oz (aV b);rcases eG.1 c with rfl|c
     ·obtain rfl:=aV (ho.symm.trans g);exact⟨p',ko,u,hp.1,λk e=>by rw[e];simp⟩
     ·obtain⟨v,h,x,g2,y⟩:=AZ t hp.2 j c o ho h1 h2;exact⟨v,h,x,g2,λk e=>List.mem_append.2 (.inr (y k e))⟩
    ·cases b
   ·cases b
  ·cases b
section
variable {P:Program} {w:World} {ω:Ow} {Gl:Nat->SV} {Γ:Table} {N:Nat} {F:Fr} {M:Mem} {a:Act}
def QV (P:Program) (sg:Bool) (Gl:Nat->SV) (Γ:Table) (N:Nat) (M:Mem) (ops:List Oper) (R:List (List Nat)) (F0:Fr) (K:List Rc->List Bool->List Bool->Nat->Prop) (r:List Oper) (i:Nat) (rs:List Rc) (d ws:List Bool):Prop:=
 ∃t c b dA,K (rs++t) (d++c) (ws++b) dA/\t.length=r.length/\c.length=r.length/\b.length=r.length/\∀k o,r[k]? =some o->
  ((d++c).getD (i+k) false=true->(ws++b).getD (i+k) false=false/\o.guard=none/\∃s,cv (rs++t) (i+k)=⟨gZ N o.dst s,[],[]⟩/\(rr P sg (vF ((rs++t).take (i+k)) F0 (R.getD (i+k) [])) (ae (vM ((rs++t).take (i+k)) M (R.getD (i+k) []))) o.op).run (λs'=>s'=s))/\
  ((d++c).getD (i+k) false=false->(ws++b).getD (i+k) false=false->∃nx p,pR P sg Gl Γ N ops (vF ((rs++t).take (i+k)) F0 (R.getD (i+k) [])) (vM ((rs++t).take (i+k)) M (R.getD (i+k) [])) (vH ((rs++t).take (i+k)) (R.getD (i+k) [])) nx (R.getD (i+k) []) o=some (p,cv (rs++t) (i+k))/\p)/\
  ((ws++b).getD (i+k) false=true->∃q u,evalW P Gl N ops (vF ((rs++t).take (i+k)) F0 (R.getD (i+k) [])) (vM ((rs++t).take (i+k)) M (R.getD (i+k) [])) (vH ((rs++t).take (i+k)) (R.getD (i+k) [])) o=some (q,u)/\cv (rs++t) (i+k)=⟨[],[],u⟩/\cC (ae M) q=false)
theorem Bx {sg:Bool} {ops:List Oper} {R:List (List Nat)} {F0:Fr} {K:List Rc->List Bool->List Bool->Nat->Prop}:∀(r:List Oper) (i:Nat) (rs:List Rc) (d ws:List Bool) (nx:Nat),rs.length=i->d.length=i->ws.length=i->pQ P sg Gl Γ N ops R F0 M r i rs d ws nx K->
 QV P sg Gl Γ N M ops R F0 K r i rs d ws
 | [],i,rs,d,ws,nx,hl,y,z,h=>⟨[],[],[],nx,by rw[yT,yT,yT];exact h,rfl,rfl,rfl,λk o n=>by simp at n⟩
 |o::r,i,rs,d,ws,nx,hl,y,z,h=>by
  have I:∀{c:Rc} {t:List Rc},(rs++c::t).take (i+0)=rs:=by intro c t;rw[sP,<-hl,List.take_left]
  have J:∀{c:Rc} {t:List Rc},cv (rs++c::t) (i+0)=c:=by intro c t;simp[cv,cD,<-hl]
  have e3:∀{b:Bool} {t:List Bool},(d++b::t).getD (i+0) false=b:=by intro b t;simp[cD,<-y]
  have e4:∀{b:Bool} {t:List Bool},(ws++b::t).getD (i+0) false=b:=by intro b t;simp[cD,<-z]
  have go:∀{c:Rc} {j g:Bool} {l:Nat},pQ P sg Gl Γ N ops R F0 M r (i+1) (rs++ [c]) (d++ [j]) (ws++ [g]) l K->
   ((j=true->g=false/\o.guard=none/\∃s,c=⟨gZ N o.dst s,[],[]⟩/\(rr P sg (vF rs F0 (R.getD (i+0) [])) (ae (vM rs M (R.getD (i+0) []))) o.op).run (λs'=>s'=s))/\
     (j=false->g=false->∃nx p,pR P sg Gl Γ N ops (vF rs F0 (R.getD (i+0) [])) (vM rs M (R.getD (i+0) [])) (vH rs (R.getD (i+0) [])) nx (R.getD (i+0) []) o=some (p,c)/\p)/\
     (g=true->∃q u,evalW P Gl N ops (vF rs F0 (R.getD (i+0) [])) (vM rs M (R.getD (i+0) [])) (vH rs (R.getD (i+0) [])) o=some (q,u)/\c=⟨[],[],u⟩/\cC (ae M) q=false))->
   QV P sg Gl Γ N M ops R F0 K (o::r) i rs d ws:=by
   intro c j g l h O;obtain⟨t,A,B,dA,h1,h2,C,v,S⟩:=Bx r (i+1) (rs++ [c]) (d++ [j]) (ws++ [g]) l (by simp[hl]) (by simp[y]) (by simp[z]) h;have e:rs++c::t=rs++ [c]++t:=by simp
   have E:d++j::A=d++ [j]++A:=by simp
   have G:ws++g::B=ws++ [g]++B:=by simp
   refine⟨c::t,j::A,g::B,dA,by rw[e,E,G];exact h1,by simp[h2],by simp[C],by simp[v],λk o' n=>?_⟩;cases k with
   |zero=>simp only[yU,bF]at n;subst n;rw[I,J,e3,e4];exact O
   |succ k=>have:=S k o' (by simpa using n);rw[show i+(k+1)=i+1+k by omega,e,E,G];exact this
  unfold pQ at h;simp only[Mv,j4]at h;split at h
  ·next p c x=>
   obtain⟨hp,h⟩:=h;obtain⟨T,s,U,V⟩:=Ui x hp;exact go h ⟨λ_=>⟨rfl,T,s,U,V⟩,λh=>(by cases h),λh=>(by cases h)⟩
  ·next W=>
   split at h
   ·next p c x=>
    obtain⟨hp,h⟩:=h;exact go h ⟨λh=>(by cases h),λ_ _=>⟨nx,p,x,hp⟩,λh=>(by cases h)⟩
   ·split at h
    ·next k u x=>
     split at h
     ·next X=>exact go h ⟨λh=>(by cases h),λ_ h=>(by cases h),λ_=>⟨k,u,x,rfl,X⟩⟩
     ·exact h.elim
    ·exact h.elim
theorem Uj {ops:List Oper} {V:Fr} {M:Mem} {H:List Hd} {o:Oper} {k:Nat} {u:bf} (h:evalW P Gl N ops V M H o=some (k,u)):o.dst=none:=by
 unfold evalW at h;split at h
 ·next h1 _ _=>exact h1
 ·cases h
theorem ys:∀(l:List Nat) {M:Mem},aU w ω M->aU w ω (nP l M)
 | [],_,hm=>hm
 |k::r,M,hm=>by
  unfold nP;split
  ·next l e d=>
   split
   ·next b=>
    refine ys r ?_;refine hm.Om rfl d (by simp[mF]) (λL g c T h j i x n hd=>⟨by rw[By];rfl,by rw[By];trivial⟩) (λj=>EV b j)
   ·exact ys r hm
  ·exact ys r hm
theorem KJ:∀{l:List SV},l.all RZ=true->l=mF l.length
 | [],_=>rfl
 |s::r,h=>by
  simp only[wK,aW]at h;have:=KJ h.2;cases s<;>first|(cases h.1;done)|skip
  show _=SV.aI::mF r.length;rw[<-this]
theorem W2 {k:Nat} {e:bw} (h:H_ (ae M k) e=true):Sr M e k:=by
 unfold H_ at h;split at h
 ·next l l' h1 h2 g i=>
  simp only[aW]at h;obtain⟨⟨⟨c,g2⟩,d⟩,b⟩:=h;have c:=a_ c;have g2:=a_ g2;have b:=a_ b;refine⟨(ae M k).rs,(ae M k).ds,l.length,l',?_,b,?_⟩
  ·rw[<-KJ d];generalize ae M k=e0 at*
   cases e0;simp_all
  ·cases e;simp_all
 ·cases h
theorem qn {rs:List Rc} {i j:Nat} (h:j<i):cv (rs.take i) j=cv rs j:=by unfold cv;rw[cD,cD,kU h]
theorem pv {b:Type} {f g:Nat->List b}:∀{E:List Nat},(∀j∈E,f j=g j)->E.flatMap f=E.flatMap g
 | [],_=>rfl
 |j::E,h=>by rw[List.flatMap_cons,List.flatMap_cons,h j (by simp),pv λi c=>h i (by simp[c])]
theorem Fc:∀{l:List (List Nat)},l.flatten.Nodup->∀{i j k:Nat} {x y:List Nat},l[i]? =some x->l[j]? =some y->k∈x->k∈y->i=j
 | [],_,i,j,k,x,y,h,_,_,_=>by simp at h
 |z::l,d,i,j,k,x,y,b,c,e,g=>by
  rw[List.flatten_cons,List.nodup_append]at d;have mem:∀{q:Nat} {v:List Nat},l[q]? =some v->k∈v->k∈l.flatten:=λn o=>List.mem_flatten.2 ⟨_,fw n,o⟩;cases i with
  |zero=>
   cases j with
   |zero=>rfl
   |succ j=>simp at b c;subst b;exact absurd rfl (d.2.2 k e k (mem c g))
  |succ i=>
   cases j with
   |zero=>simp at b c;subst c;exact absurd rfl (d.2.2 k g k (mem b e))
   |succ j=>exact congrArg (· +1) (Fc d.2.1 (i:=i) (j:=j) (by simpa using b) (by simpa using c) e g)
theorem GI {x:Option Nat} {y:Nat} (h:xA x y=true):x=some y:=by
 cases x with
 |none=>cases h
 |some z=>rw[a_ h]
theorem FR {k:Nat}:∀{u:bf},k∈u.map (·.1)->∃p∈u,p.1=k/\ae u k=p.2
 | [],h=>by simp at h
 |p::r,h=>by
  obtain⟨p1,c⟩:=p;by_cases b:p1=k
  ·subst b;exact⟨(p1,c),List.mem_cons_self,rfl,dk⟩
  ·simp only[mA,eG]at h;obtain⟨q,h1,h2,d⟩:=FR (h.resolve_left λe=>b e.symm);exact⟨q,by simp[h1],h2,by rw[cF b];exact d⟩
theorem Be:∀(l:List Oper) (F:Fr) (t:Nat),look (dZ l F) t= .aI\/(look (dZ l F) t=look F t/\∀o∈l,o.dst≠some t)
 | [],F,t=> .inr ⟨rfl,λo ho=>by simp at ho⟩
 |o::l,F,t=>by
  cases hd:o.dst with
  |none=>
   have e:dZ (o::l) F=dZ l F:=by simp[dZ,hd]
   rw[e];rcases Be l F t with h|⟨h1,h2⟩
   ·exact .inl h
   ·refine .inr ⟨h1,λo' b=>?_⟩;rcases eG.1 b with rfl|b
    ·rw[hd];simp
    ·exact h2 o' b
  |some x=>
   have e:dZ (o::l) F=(x,.aI)::dZ l F:=by simp[dZ,hd]
   rw[e];by_cases c:x=t
   ·subst c;exact .inl look_eq
   ·rw[pz c];rcases Be l F t with h|⟨h1,h2⟩
    ·exact .inl h
    ·refine .inr ⟨h1,λo' b=>?_⟩;rcases eG.1 b with rfl|b
     ·rw[hd];simpa using c
     ·exact h2 o' b
theorem Fe {sg:Bool} {ops:Array Oper} {R:List (List Nat)} {m:Nat} {G:Mem} {rs:List Rc} {gs ws:List Bool} {dA:Nat} (hR:ey ops.toList []=R) (acY:m<=ops.size) (c1:sX 0 ops.toList=true) (c3:nodupB ((ops.toList.take m).map λo=>o.dst.toList).flatten=true) (D7:dV w ω N F a.tmps)
 (h2:rs.length=(ops.toList.take m).length) (Iw:gs.length=(ops.toList.take m).length) (D8:ws.length=(ops.toList.take m).length)
 (h3:∀k o,(ops.toList.take m)[k]? =some o->
   (gs.getD k false=true->ws.getD k false=false/\o.guard=none/\∃s,cv rs k=⟨gZ N o.dst s,[],[]⟩/\(rr P sg (vF (rs.take k) (dZ (ops.toList.take m) F) (R.getD k [])) (ae (vM (rs.take k) G (R.getD k []))) o.op).run (λs'=>s'=s))/\
   (gs.getD k false=false->ws.getD k false=false->∃nx p,pR P sg Gl Γ N ops.toList (vF (rs.take k) (dZ (ops.toList.take m) F) (R.getD k [])) (vM (rs.take k) G (R.getD k [])) (vH (rs.take k) (R.getD k [])) nx (R.getD k []) o=some (p,cv rs k)/\p)/\
   (ws.getD k false=true->∃q u,evalW P Gl N ops.toList (vF (rs.take k) (dZ (ops.toList.take m) F) (R.getD k [])) (vM (rs.take k) G (R.getD k [])) (vH (rs.take k) (R.getD k [])) o=some (q,u)/\cv rs k=⟨[],[],u⟩/\cC (ae G) q=false))
 (c6:zP N ops.toList R G rs ws=true) (c7:Cs ops.toList R gs=true):
 jk P sg Gl Γ N ops (λi=>R.getD i []) m rs F (dZ (ops.toList.take m) F) G (λi=>gs.getD i false) (λi=>ws.getD i false)/\∀i j,j∈R.getD i []->j<i:=by
 have hlen:rs.length=m:=by rw[h2,pG];simp;omega
 have I:=(JC ops.toList []).2;rw[hR]at I;simp only[List.length_nil,jY]at I;have b:∀{i o},ops[i]? =some o->ops.toList[i]? =some o:=λh=>by rw[pS];exact h
 have X:∀{i o},ops[i]? =some o->R.getD i []=nO (R.take i) o.after.toList []:=λh=>by rw[cD,I _ _ (b h)];rfl
 have C:∀i o,ops[i]? =some o->∀e∈o.after,Region.binds .any e=true->e.on<i:=λi o ho e E A=>by have:=Jk c1 i o (b ho) e E A;omega
 have S:∀i o,ops[i]? =some o->∀x∈R.getD i [],∃e∈o.after,Region.binds .any e=true/\(x=e.on\/x∈R.getD e.on []):=by
  intro i o ho x z;rw[X ho,yh]at z;rcases z with z|⟨e,E,A,z⟩
  ·simp at z
  ·refine⟨e,by simpa using E,A,z.imp (λh=>h) λz=>?_⟩;have n:=C i o ho e (by simpa using E) A;rwa [cD,kU n,<-cD]at z
 have T:∀{i j},j∈R.getD i []->∃o,ops[i]? =some o:=by
  intro i j c;rcases bR i ops.size with v|v
  ·exact⟨_,fR v⟩
  ·exfalso;have hRl:R.length<=ops.size:=by
    have:∀(l:List Oper) (acc:List (List Nat)),(ey l acc).length=acc.length+l.length:=by
     intro l
     induction l with
     |nil=>intro acc;simp[ey]
     |cons o r ih=>intro acc;simp only[ey,ih];simp;omega
    rw[<-hR,this];simp
   rw[cD,sW (by omega)]at c;simp at c
 have n:∀i j,j∈R.getD i []->j<i:=by
  intro i
  induction i using Nat.strongRecOn with
  |ind i ih=>
   intro j c;obtain⟨o,ho⟩:=T c;obtain⟨e,E,A,z⟩:=S i o ho j c;have:=C i o ho e E A;rcases z with rfl|z
   ·exact this
   ·have:=ih e.on this j z;omega
 have Y:∀{i o e},ops[i]? =some o->e∈o.after->Region.binds .any e=true->e.on∈R.getD i []/\∀x∈R.getD e.on [],x∈R.getD i []:=by intro i o e ho E A;have acZ:=C i o ho e E A;rw[X ho];refine⟨yh.2 (.inr ⟨e,by simpa using E,A,.inl rfl⟩),λx z=>yh.2 (.inr ⟨e,by simpa using E,A,.inr ?_⟩)⟩;rwa [cD,kU acZ,<-cD]
 have hcl:∀i j,j∈R.getD i []->∀k∈R.getD j [],k∈R.getD i []:=by
  intro i
  induction i using Nat.strongRecOn with
  |ind i ih=>
   intro j c k B;obtain⟨o,ho⟩:=T c;obtain⟨e,E,A,z⟩:=S i o ho j c;rcases z with rfl|z
   ·exact(Y ho E A).2 k B
   ·exact(Y ho E A).2 k (ih e.on (C i o ho e E A) j z k B)
 have aeT:gs.length=m:=by rw[Iw,pG];simp;omega
 simp only[zP,aW]at c6;obtain⟨k1,k2⟩:=c6;have k1:=vX k1;have kk:∀i,i<m->_:=λi v=>cY.1 k2 i (cV.2 (by rw[hlen];exact v));have short:∀i,m<=i->cv rs i=⟨[],[],[]⟩:=λi v=>by unfold cv;rw[cD,sW (by omega)];rfl
 have O:∀{i k},k∈keys rs i->i<m:=λ{i k} B=>by
  rcases bR i m with h|h
  ·exact h
  ·unfold keys at B;rw[short i h]at B;simp at B
 have J:∀i,zO ops.toList i=jc ops i:=λi=>by unfold zO jc;rw[pS];cases ops[i]? <;>rfl
 have SS:jk P sg Gl Γ N ops (λi=>R.getD i []) m rs F (dZ (ops.toList.take m) F) G (λi=>gs.getD i false) (λi=>ws.getD i false):=by
  refine⟨S,hcl,n,C,acY,?_,?_,?_,?_,?_,?_,?_,?_,?_,?_,?_,?_,short,?_,?_⟩
  ·intro i o v ho d K;obtain⟨nx1,p,Z,g2⟩:=(h3 i o (by rw[kU v];exact b ho)).2.1 d K;refine⟨nx1,p,?_,g2⟩;have U:vF (rs.take i) (dZ (ops.toList.take m) F) (R.getD i [])=vF rs (dZ (ops.toList.take m) F) (R.getD i []):=by unfold vF;rw[pv λj c=>by rw[qn (n i j c)]]
   have W:vM (rs.take i) G (R.getD i [])=vM rs G (R.getD i []):=by unfold vM;rw[pv λj c=>by rw[qn (n i j c)]]
   have e3:vH (rs.take i) (R.getD i [])=vH rs (R.getD i []):=by unfold vH;rw[pv λj c=>by rw[qn (n i j c)]]
   rw[U,W,e3]at Z;exact Z
  ·intro i o v ho d K;obtain⟨q,u,Z,g2,g3⟩:=(h3 i o (by rw[kU v];exact b ho)).2.2 K;have U:vF (rs.take i) (dZ (ops.toList.take m) F) (R.getD i [])=vF rs (dZ (ops.toList.take m) F) (R.getD i []):=by unfold vF;rw[pv λj c=>by rw[qn (n i j c)]]
   have W:vM (rs.take i) G (R.getD i [])=vM rs G (R.getD i []):=by unfold vM;rw[pv λj c=>by rw[qn (n i j c)]]
   have e3:vH (rs.take i) (R.getD i [])=vH rs (R.getD i []):=by unfold vH;rw[pv λj c=>by rw[qn (n i j c)]]
   rw[U,W,e3]at Z;exact⟨Uj Z,by rw[g2],by rw[g2],q,by rw[g2];exact Z,g3⟩
  ·intro i K k B;obtain⟨p,hp,rfl⟩:=sZ.1 B;have:=kk i (O B);simp only[aW]at this;have:=cY.1 this.2 p hp;simp only[aW,cM]at this;rcases this.1.1 with h|h
   ·exact h
   ·have K:ws.getD i false=false:=K;rw[K]at h;cases h.1.1
  ·intro i o v ho d;obtain⟨_,Z,s,g3,g4⟩:=(h3 i o (by rw[kU v];exact b ho)).1 d;have U:vF (rs.take i) (dZ (ops.toList.take m) F) (R.getD i [])=vF rs (dZ (ops.toList.take m) F) (R.getD i []):=by unfold vF;rw[pv λj c=>by rw[qn (n i j c)]]
   have W:∀G,vM (rs.take i) G (R.getD i [])=vM rs G (R.getD i []):=by intro G;unfold vM;rw[pv λj c=>by rw[qn (n i j c)]]
   rw[U,W]at g4;exact⟨Z,s,g3,g4⟩
  ·intro i oi v d ho j oj Ss tU D9 tV;have:=cY.1 c7 i (cV.2 (by omega));rw[d,b ho]at this;simp only[yV,jw,aW]at this;have D_:=(eZ.1 Ss).1;have:=cY.1 this.2 j (cV.2 (by simpa using D_));rw[b Ss,cM,cM]at this;rcases this with(h|h)|h
   ·exact absurd (a_ h) tU
   ·exact absurd (gU.1 h) D9
   ·rw[cM]at h;rcases h with h|h
    ·rw[GJ]at h;obtain⟨e,E,A⟩:=h;rw[aW]at A;exact absurd (a_ A.2) (tV e (by simpa using E) A.1)
    ·simpa using h
  ·intro i v d;have:=cY.1 c7 i (cV.2 (by omega));have ru:i<ops.toList.length:=by simp;omega
   rw[d,eO ru]at this;simp only[yV,jw,aW]at this;simpa using this.1
  ·intro i p hp;have v:i<m:=by
    rcases bR i m with h|h
    ·exact h
    ·rw[short i h]at hp;simp at hp
   have:=kk i v;simp only[aW]at this;have:=cY.1 this.1.1 p hp;rw[aW]at this;rw[<-J];exact⟨GI this.1,bP this.2⟩
  ·intro i x z;have v:i<m:=by
    rcases bR i m with h|h
    ·exact h
    ·rw[short i h]at z;simp at z
   have:=kk i v;simp only[aW]at this;have:=cY.1 this.1.2 x z;rw[aW,GJ]at this;obtain⟨d1,g,hg,d2⟩:=this;rw[<-J];exact⟨GI d1,g,hg,by rw[<-J];exact GI d2⟩
  ·intro i j t v c U W;have get:∀{q},q<m->jc ops q=some t->∃x,((ops.toList.take m).map λo=>o.dst.toList)[q]? =some x/\t∈x:=by
    intro q hq hd;unfold jc at hd;cases ho:ops[q]? with
    |none=>rw[ho]at hd;cases hd
    |some o=>rw[ho]at hd;have hd:o.dst=some t:=hd;exact⟨o.dst.toList,by rw[eX,kU hq,b ho];rfl,by rw[hd];simp⟩
   obtain⟨x,x1,x2⟩:=get v U;obtain⟨y,y1,y2⟩:=get c W;exact Fc (vX c3) x1 y1 x2 y2
  ·intro i j k v c;have get:∀{q},q<m->(rs.map λrc=>rc.u.map (·.1))[q]? =some (keys rs q):=by intro q hq;have:rs[q]? =some rs[q]:=eO (by omega);rw[eX,this];simp[keys,cv,cD,this]
   exact Fc k1 (get (O v)) (get (O c)) v c
  ·intro i k B;obtain⟨p,hp,rfl⟩:=sZ.1 B;have:=kk i (O B);simp only[aW]at this;have:=cY.1 this.2 p hp;simp only[aW,cM,dT]at this;rcases this.1.1 with h|⟨⟨_,h⟩,h2⟩
   ·exact .inl h
   ·refine .inr ⟨h,?_⟩;obtain⟨p',hp',hpe,Ix⟩:=FR B;obtain⟨x,z,hxe⟩:=sZ.1 B;rw[Ix];have:=kk i (O B);simp only[aW]at this;have:=cY.1 this.2 p' hp';simp only[aW,cM,dT]at this;rw[<-hpe]at h⊢;rcases this.1.1 with h'|⟨_,h'⟩
    ·rw[h]at h';cases h'
    ·exact W2 h'
  ·intro i k B;obtain⟨p,hp,rfl,Ix⟩:=FR B;have:=kk i (O B);simp only[aW]at this;have:=cY.1 this.2 p hp;simp only[aW]at this;rw[Ix];exact⟨a_ this.1.2,a_ this.2⟩
  ·intro t;rcases Be (ops.toList.take m) F t with e|⟨U,W⟩
   ·exact .inl e
   ·refine .inr ⟨U,λi v V=>?_⟩;unfold jc at V;cases ho:ops[i]? with
    |none=>rw[ho]at V;cases V
    |some o=>rw[ho]at V;exact W o (fw (i:=i) (by rw[kU v];exact b ho)) V
  ·intro t ht;rcases Be (ops.toList.take m) F t with e|⟨U,_⟩
   ·exact e
   ·rw[U];exact D7.out t ht
 exact⟨SS,n⟩
theorem KL (hS:Sound P Gl Γ) {sg:Bool} {ops:Array Oper} {Q:Exit->Act->World->Prop} {K:Fr->Mem->Nat->Prop} {S:List Nat} {nx:Nat}
 (C:∀d c a v w,Q (.panic c) (Act.put a d v) w->Q (.panic c) a w) (hQ:∀q w',zQ P Gl N S a w ω K q w'->Q .normal q w') (hd:∀o∈ops.toList,∀t,o.dst=some t->t∈S) (h:St P Gl N F M a w ω) (r:Ct P sg Gl Γ N ops.toList K F M nx):P.follows .mixedOrders=true/\wpAny P .any ops Q ops.size (Array.replicate ops.size false) a {w with drawn:=w.drawn+1}:=by
 unfold Ct at r;simp only[yi,j4]at r;split at r
 rotate_left
 ·exact r.elim
 next c1 c3 c4 c5=>
 generalize hR:ey ops.toList []=R at*
 generalize hm:FO ops.toList 0 R 0=m at*
 have u:m<=ops.size:=by simpa using bP c4
 have x:aU w ω (nP ((ops.toList.take m).filterMap (wJ Gl (ke P sg Gl Γ N M (ops.toList.take m) F nx))) M):=ys _ h.mem;generalize nP ((ops.toList.take m).filterMap (wJ Gl (ke P sg Gl Γ N M (ops.toList.take m) F nx))) M=G at*
 obtain⟨rs,gs,ws,dA,h1,h2,J,O,h3⟩:=Bx (ops.toList.take m) 0 [] [] [] nx rfl rfl rfl r;simp only[yD,jY]at h1 h3;split at h1
 rotate_left
 ·exact h1.elim
 next B=>
 rw[aW,aW]at B;obtain⟨⟨B,c2⟩,c7⟩:=B;have y:∀{i o},ops[i]? =some o->ops.toList[i]? =some o:=λh=>by rw[pS];exact h
 obtain⟨U,V⟩:=Fe (Gl:=Gl) (Γ:=Γ) (sg:=sg) (dA:=dA) hR u c1 c3 h.frame h2 J O h3 B c7;have hT:∀i,m<=i->i<ops.size->∀j,j<i->j∈R.getD i []\/(j<m/\gs.getD j false=true):=by
  intro i D' W j e;have:=cY.1 c2 i (cV.2 (by simpa using W));rw[cM]at this;rcases this with h|h
  ·have:i<m:=bP h;omega
  ·have h:=cY.1 h j (cV.2 e);rw[cM,aW]at h;exact h.imp gU.1 λh=>⟨bP h.1,h.2⟩
 refine⟨c5,?_⟩;have z:Cw w {w with drawn:=w.drawn+1}:=⟨rfl,rfl,rfl,bc _,λ_ _=>rfl⟩;have hJ:St P Gl N F G a w ω:=⟨h.frame,h.eo,x,h.defers⟩;have A:=hJ.step (bz.more x z);have b:=A.mem;refine YP (ω:=ω) (a0:=a) (bu:=ω) hS U hT b A.frame A.eo C ?_ ops.size (Array.replicate ops.size false) a _ (by simp) ?_ ?_
 ·intro q w' aq I;obtain⟨g1,g2,g3⟩:=I.all U b A.frame (E:=List.range m) (λj e=>cV.1 e) (λj e k hk=>cV.2 (by have:=V j k hk;have:=cV.1 e;omega));have n:=I.p5 U b (List.range m);have X:St P Gl N (vF rs (dZ (ops.toList.take m) F) (List.range m)) (vM rs G (List.range m)) q w' (dd rs G aq (List.range m)):=⟨g2,λg=>Den.ext (o:=ω.bare) n.bare (A.eo g),g1,I.defers⟩;obtain⟨F5,M5,Y,Z,h1⟩:=vU h1;refine px hS hQ (ops.toList.drop m) _ _ dA _ q w' _ (λo ho=>hd o (GK ho)) (X.congr Y Z) g3 ((z.ext ω).trans n) ⟨by rw[I.size,h.frame.size],λi hi=>?_⟩ h1;refine I.keep i λj e l=>?_;unfold jc at l;cases ho:ops[j]? with
  |none=>rw[ho]at l;cases l
  |some o=>rw[ho]at l;exact hi (hd o (fw (y ho)) i l)
 ·unfold kl;exact ft (GL _ _) (by simp)
 ·have no:∀j,¬(Array.replicate ops.size false).getD j false=true:=λj=>by simp[Array.getD]
  exact⟨λj e=>absurd e (no j),λj e=>absurd e (no j),⟨rfl,rfl,rfl,bc _,λ_ _ _=>rfl⟩,λj k _ _ L hL=>(let⟨_,_,_,_,c,T,h1,h2,_⟩:=b.row k none L hL;⟨c,T,h1,h2⟩),λ_ h=>h,b.ez,λ_ _ h=>h,rfl,b.dj,rfl,λ_ _ _=>rfl,λk p L hL=>b.own _ ⟨k,p,L,hL,rfl⟩,b.inj,h.defers,h.frame.size,λ_ _=>rfl,λj e=>absurd e (no j)⟩
theorem Uk (hS:Sound P Gl Γ) {sg:Bool} {ops:Array Oper} {Q:Exit->Act->World->Prop} {K:Fr->Mem->Nat->Prop} {S:List Nat} {nx:Nat}
 (Y:∀d c a v w,Q (.panic c) (Act.put a d v) w->Q (.panic c) a w) (hQ:∀u w',zQ P Gl N S a w ω K u w'->Q .normal u w') (hd:∀o∈ops.toList,∀t,o.dst=some t->t∈S) (h:St P Gl N F M a w ω) {m:Nat} (x:FP P sg Gl Γ N ops.toList m K F M nx):P.follows .mixedOrders=true/\wpAny P .any ops Q ops.size (Array.replicate ops.size false) a {w with drawn:=w.drawn+1}:=by
 unfold FP at x;simp only[yi]at x;split at x
 rotate_left
 ·exact x.elim
 next c1 c3 c4 c5=>
 generalize hR:ey ops.toList []=R at*
 have y:m<=ops.size:=by simpa using bP c4
 have z:aU w ω (nP ((ops.toList.take m).filterMap (wJ Gl (ke P sg Gl Γ N M (ops.toList.take m) F nx))) M):=ys _ h.mem;generalize nP ((ops.toList.take m).filterMap (wJ Gl (ke P sg Gl Γ N M (ops.toList.take m) F nx))) M=W at*
 obtain⟨rs,gs,ws,dA,h1,h2,Z,D8,h3⟩:=Bx (ops.toList.take m) 0 [] [] [] nx rfl rfl rfl x;simp only[yD,jY]at h1 h3;split at h1
 rotate_left
 ·exact h1.elim
 next p KQ oB X cq eK=>
 split at h1
 rotate_left
 ·exact h1.elim
 next pr κ ck cn=>
 split at h1
 rotate_left
 ·exact h1.elim
 next Ja=>
 obtain⟨hp,Iy,h1⟩:=h1;simp only[aW]at X;obtain⟨⟨⟨X,c2⟩,c7⟩,A⟩:=X;have l:∀{i o},ops[i]? =some o->ops.toList[i]? =some o:=λh=>by rw[pS];exact h
 obtain⟨SS,B⟩:=Fe (Gl:=Gl) (Γ:=Γ) (sg:=sg) (dA:=dA) hR y c1 c3 h.frame h2 Z D8 h3 X c7;have hT:∀i,m<i->i<ops.size->∀j,j<i->j∈R.getD i []:=by
  intro i D' ru j b;have:=cY.1 c2 i (cV.2 (by simpa using ru));rw[cM]at this;rcases this with h|h
  ·have:i<=m:=bP h;omega
  ·exact gU.1 (cY.1 h j (cV.2 b))
 have C:ops[m]? =some oB:=by rw[<-pS];exact eK
 unfold D5 at A;rw[eK]at A;simp only[aW]at A;have QQ:Ea P Gl N ops (λi=>R.getD i []) m rs (dZ (ops.toList.take m) F) W (λi=>gs.getD i false) KQ oB:=by
  refine⟨C,λj o b ho hn hr=>AZ cq hp j (cV.2 b) o (l ho) hn hr,⟨_,pr,κ,cn,Iy,λk G tW=>?_⟩,λk G=>?_,by simpa using A.1,λj o b ho hn=>?_,λj b=>B m j b⟩
  ·have:=cY.1 Ja k G;rw[gU.2 tW]at this;cases this
  ·have:=cY.1 ck k G;simp only[aW,dT]at this;refine⟨this.1,λj n=>?_⟩;unfold keys at n;have J:j<rs.length:=by
    rcases bR j rs.length with h|h
    ·exact h
    ·unfold cv at n;rw[cD,sW h]at n;simp at n
   have O:cv rs j∈rs:=by unfold cv;rw[cD,eO J];exact GM J
   have:=cY.1 this.2 (cv rs j) O;rw[gU.2 n]at this;cases this
  ·have:=cY.1 A.2 j (cV.2 b);rw[cM]at this;rcases this with h|h
   ·exact absurd (gU.1 h) hn
   ·rw[l ho]at h;simpa using h
 refine⟨c5,?_⟩;have U:Cw w {w with drawn:=w.drawn+1}:=⟨rfl,rfl,rfl,bc _,λ_ _=>rfl⟩;have hJ:St P Gl N F W a w ω:=⟨h.frame,h.eo,z,h.defers⟩;have V:=hJ.step (bz.more z U);have e:=V.mem;refine W3 (ω:=ω) (a0:=a) (bu:=ω) hS SS hT e V.frame V.eo Y QQ ?_ ops.size (Array.replicate ops.size false) a _ (by simp) ?_ ?_
 ·intro u w' aq I;obtain⟨g1,g2,g3⟩:=I.all SS e V.frame (E:=List.range m) (λj b=>cV.1 b) (λj b k G=>cV.2 (by have:=B j k G;have:=cV.1 b;omega));have r:=I.p5 SS e (List.range m);have lZ:St P Gl N (vF rs (dZ (ops.toList.take m) F) (List.range m)) (vM rs W (List.range m)) u w' (dd rs W aq (List.range m)):=⟨g2,λg=>Den.ext (o:=ω.bare) r.bare (V.eo g),g1,I.defers⟩;obtain⟨F5,M5,Iz,IA,h1⟩:=vU h1;refine px hS hQ (ops.toList.drop m) _ _ dA _ u w' _ (λo ho=>hd o (GK ho)) (lZ.congr Iz IA) g3 ((U.ext ω).trans r) ⟨by rw[I.size,h.frame.size],λi hi=>?_⟩ h1;refine I.keep i λj b q=>?_;unfold jc at q;cases ho:ops[j]? with
  |none=>rw[ho]at q;cases q
  |some o=>rw[ho]at q;exact hi (hd o (fw (l ho)) i q)
 ·unfold kl;exact ft (GL _ _) (by simp)
 ·have no:∀j,¬(Array.replicate ops.size false).getD j false=true:=λj=>by simp[Array.getD]
  exact⟨λj b=>absurd b (no j),λj b=>absurd b (no j),⟨rfl,rfl,rfl,bc _,λ_ _ _=>rfl⟩,λj k _ _ L hL=>(let⟨_,_,_,_,c,T,h1,h2,_⟩:=e.row k none L hL;⟨c,T,h1,h2⟩),λ_ h=>h,e.ez,λ_ _ h=>h,rfl,e.dj,rfl,λ_ _ _=>rfl,λk p L hL=>e.own _ ⟨k,p,L,hL,rfl⟩,e.inj,h.defers,h.frame.size,λ_ _=>rfl,λj b=>absurd b (no j)⟩
theorem W4 {u:bf} {X Y:Mem} (h:∀k,ae X k=ae Y k) (k:Nat):ae (u++X) k=ae (u++Y) k:=by
 by_cases b:k∈u.map (·.1)
 ·rw[Cv b,Cv b]
 ·rw[yE b,yE b];exact h k
theorem Ul (hS:Sound P Gl Γ) {sg:Bool} {ops:Array Oper} {Q:Exit->Act->World->Prop} {K:Fr->Mem->Nat->Prop} {S:List Nat} {nx:Nat}
 (IB:∀d c a v w,Q (.panic c) (Act.put a d v) w->Q (.panic c) a w) (hQ:∀U w',zQ P Gl N S a w ω K U w'->Q .normal U w') (hd:∀o∈ops.toList,∀t,o.dst=some t->t∈S) (h:St P Gl N F M a w ω) {m:Nat} (V:FQ P sg Gl Γ N ops.toList m K F M nx):P.follows .mixedOrders=true/\wpAny P .any ops Q ops.size (Array.replicate ops.size false) a {w with drawn:=w.drawn+1}:=by
 unfold FQ at V;simp only[yi]at V;split at V
 rotate_left
 ·exact V.elim
 next c1 c3 c4 c5=>
 generalize hR:ey ops.toList []=R at*
 have W:m<=ops.size:=by simpa using bP c4
 obtain⟨rs,gs,ws,dA,h1,h2,Iw,D8,h3⟩:=Bx (ops.toList.take m) 0 [] [] [] nx rfl rfl rfl V;simp only[yD,jY]at h1 h3;split at h1
 rotate_left
 ·exact h1.elim
 next p KQ oB c6 cq eK=>
 split at h1
 rotate_left
 ·exact h1.elim
 next pr sB uB ck cn=>
 split at h1
 rotate_left
 ·exact h1.elim
 next Ja cfr=>
 obtain⟨hp,Iy,h1⟩:=h1;simp only[aW]at c6;obtain⟨⟨⟨⟨c6,c2⟩,c7⟩,X⟩,c9⟩:=c6;have r:∀{i o},ops[i]? =some o->ops.toList[i]? =some o:=λh=>by rw[pS];exact h
 obtain⟨Y,A⟩:=Fe (Gl:=Gl) (Γ:=Γ) (sg:=sg) (dA:=dA) hR W c1 c3 h.frame h2 Iw D8 h3 c6 c7;have hT:∀i,m<i->i<ops.size->∀j,j<i->j∈R.getD i []:=by
  intro i D' ru j l;have:=cY.1 c2 i (cV.2 (by simpa using ru));rw[cM]at this;rcases this with h|h
  ·have:i<=m:=bP h;omega
  ·exact gU.1 (cY.1 h j (cV.2 l))
 have C:ops[m]? =some oB:=by rw[<-pS];exact eK
 unfold D5 at X;rw[eK]at X;simp only[aW]at X;have u:∀j,j<m->j∉R.getD m []->keys rs j= []/\ws.getD j false=false:=by
  intro j l x;have:=cY.1 c9 j (cV.2 l);rw[cM]at this;rcases this with h|h
  ·exact absurd (gU.1 h) x
  ·rw[aW,dT]at h;refine⟨?_,h.2⟩;have h:=h.1;unfold keys;split at h
   ·next e=>rw[e];rfl
   ·cases h
 have QQ:Dx P Gl Γ N ops (λi=>R.getD i []) m rs (dZ (ops.toList.take m) F) M (λi=>gs.getD i false) (λi=>ws.getD i false) KQ oB sB uB:=by
  refine⟨C,λj o l ho x hr=>AZ cq hp j (cV.2 l) o (r ho) x hr,u,⟨dA,pr,cn,Iy⟩,λk B tW=>?_,λk B=>?_,by simpa using X.1,λj o l ho x=>?_,λj l=>A m j l⟩
  ·have:=cY.1 Ja k B;rw[gU.2 tW]at this;cases this
  ·have:=cY.1 ck k B;simp only[aW,dT]at this;refine⟨this.1,λj b=>?_⟩;unfold keys at b;have Z:j<rs.length:=by
    rcases bR j rs.length with h|h
    ·exact h
    ·unfold cv at b;rw[cD,sW h]at b;simp at b
   have y:cv rs j∈rs:=by unfold cv;rw[cD,eO Z];exact GM Z
   have:=cY.1 this.2 (cv rs j) y;rw[gU.2 b]at this;cases this
  ·have:=cY.1 X.2 j (cV.2 l);rw[cM]at this;rcases this with h|h
   ·exact absurd (gU.1 h) x
   ·rw[r ho]at h;simpa using h
 refine⟨c5,?_⟩;have Eb:Cw w {w with drawn:=w.drawn+1}:=⟨rfl,rfl,rfl,bc _,λ_ _=>rfl⟩;have h':=h.step (bz.more h.mem Eb);have n:=h'.mem;have hmn:m<ops.size:=(eZ.1 C).1;refine W5 (ω:=ω) (a0:=a) (bu:=ω) hS Y hT n h'.frame h'.eo IB QQ ?_ ops.size (Array.replicate ops.size false) a _ (by simp) ?_ ?_
 ·intro U w' aq v w2 I J;obtain⟨_,I_,hx,y,ac0⟩:=J;obtain⟨g1,g2,g3⟩:=I.all Y n h'.frame (E:=List.range m) (λj l=>cV.1 l) (λj l k B=>cV.2 (by have:=A j k B;have:=cV.1 l;omega));have ac1:dd rs M aq (List.range m)=dd rs M aq (R.getD m []):=by
   show(⟨_,_,_,_⟩:Ow)=⟨_,_,_,_⟩;congr 1;funext k q;have:hH rs M (List.range m) k↔hH rs M (R.getD m []) k:=by
    constructor
    ·rintro ⟨e0,e1,e2⟩;exact⟨e0,e1,λ⟨j,l,b⟩=>e2 ⟨j,cV.2 (A m j l),b⟩⟩
    ·rintro ⟨e0,e1,e2⟩;refine⟨e0,e1,?_⟩;rintro ⟨j,l,b⟩;have O:=cV.1 l;by_cases x:j∈R.getD m []
     ·exact e2 ⟨j,x,b⟩
     ·rw[(u j O x).1]at b;cases b
   by_cases hh:hH rs M (List.range m) k
   ·rw[if_pos hh,if_pos (this.1 hh)]
   ·rw[if_neg hh,if_neg (λe=>hh (this.2 e))]
  have ac2:∀k,ae (vM rs M (List.range m)) k=ae (vM rs M (R.getD m [])) k:=by
   intro k;by_cases B:∃j∈R.getD m [],k∈keys rs j
   ·obtain⟨j,l,b⟩:=B;rw[vY (λi j=>Y.key i j _) b (cV.2 (A m j l)),vY (λi j=>Y.key i j _) b l]
   ·rw[pw λj l b=>?_,pw λj l b=>B ⟨j,l,b⟩];have O:=cV.1 l;by_cases x:j∈R.getD m []
    ·exact B ⟨j,x,b⟩
    ·rw[(u j O x).1]at b;cases b
  rw[ac1]at g1 g2 g3;have G:=I.p5 Y n (R.getD m []);have lZ:St P Gl N (vF rs (dZ (ops.toList.take m) F) (List.range m)) (uB++vM rs M (List.range m)) U w2 I_:=⟨g2.ext hx,λg=>Den.ext (o:=ω.bare) (G.trans hx).bare (h'.eo g),y.congr (W4 ac2),I.defers⟩;obtain⟨F5,M5,Iz,IA,h1⟩:=vU h1;have hoB:oB∈ops.toList:=fw eK;have hk1:dF S a U:=by
   refine⟨by rw[I.size,h.frame.size],λi hi=>?_⟩;refine I.keep i λj l z=>?_;unfold jc at z;cases ho:ops[j]? with
   |none=>rw[ho]at z;cases z
   |some o=>rw[ho]at z;exact hi (hd o (fw (r ho)) i z)
  exact px hS hQ (ops.toList.drop (m+1)) _ _ _ _ (U.put oB.dst v) w2 I_ (λo ho=>hd o (GK ho)) ((lZ.put ac0).congr Iz IA) ((g3.ext hx).put cfr v) (((Eb.ext ω).trans G).trans hx) (hk1.put (hd oB hoB) v) h1
 ·unfold kl;exact ft (GL _ _) (by simp)
 ·have no:∀j,¬(Array.replicate ops.size false).getD j false=true:=λj=>by simp[Array.getD]
  exact⟨λj l=>absurd l (no j),λj l=>absurd l (no j),⟨rfl,rfl,rfl,bc _,λ_ _ _=>rfl⟩,λj k _ _ L hL=>(let⟨_,_,_,_,c,T,h1,h2,_⟩:=n.row k none L hL;⟨c,T,h1,h2⟩),λ_ h=>h,n.ez,λ_ _ h=>h,rfl,n.dj,rfl,λ_ _ _=>rfl,λk p L hL=>n.own _ ⟨k,p,L,hL,rfl⟩,n.inj,h.defers,h.frame.size,λ_ _=>rfl,λj l=>absurd l (no j)⟩
def abg (P:Program) (Gl:Nat->SV) (Γ:Table) (ops:List Oper) (m:Nat) (F:Fr) (M:Mem) (nx:Nat):Option Nat:=
 (List.range m).find? λi=>match ops[i]? with|some o=>(match C8 P Gl Γ F M nx o with|some x=>!jd (ae M) x.2.2|none=>false)|none=>false
def abh (Gl:Nat->SV) (ops:List Oper) (m:Nat) (F:Fr) (M:Mem):Option Nat:=
 (List.range m).find? λi=>match ops[i]? with|some o=>(match o.op with| .store _ x _=>(match c_ Gl F x with| .ptr k _ _ _ _=>(match (ae M k).b with| .row _ _ _=>true|_=>false)|_=>false)|_=>false)|none=>false
def wa (ops:List Oper):Nat->List (List Nat)->Nat->Nat
 |_,[],m=>m
 |i,p::r,m=>wa ops (i+1) r (match zx ops i||Nat.beq p.length i||(List.range i).all λj=>cR p j||zx ops j with|true=>m|false=>i+1)
def On (ops:List Oper) (m:Nat):Nat->List (List Nat)->List Nat->List Nat
 |_,[],acc=>acc
 |i,p::r,acc=>On ops m (i+1) r (match !Nat.blt i m&&zx ops i&&!((List.range i).all λj=>cR p j||zx ops j)&&p.all (λj=>Nat.blt j m||cR acc j)with|true=>acc++ [i]|false=>acc)
def isApp:Op->Bool
 | .call {callee:= .builtin .append,args:=_,argTypes:=_}=>true
 |_=>false
def W6:Op->Option Nat
 | .call {callee:= .builtin .append,args:=⟨[.tmp t,_]⟩,argTypes:=_}=>some t
 |_=>none
def YQ:SV->Bool
 | .aS _ _ _ _ _=>true
 |_=>false
def ac3:Op->Bool
 | .load _ _=>true
 |_=>false
def abi (V:Fr) (ops:List Oper) (o:Oper):Bool:=
 match W6 o.op with
 |some t=>
  (match ops.any λp=>isApp p.op&&xA p.dst t with
   |true=>true
   |false=>match ops.any λp=>ac3 p.op&&xA p.dst t with
    |true=>YQ (look V t)
    |false=>false)
 |none=>false
def abj (V:Fr) (ops:List Oper) (m:Nat):Option Nat:=(List.range m).find? λi=>match ops[i]? with|some o=>abi V ops o|none=>false
def jE (R:List (List Nat)) (n i:Nat):List Nat×List Nat:=((List.range n).filter λk=>!Nat.beq k i&&!cR (R.getD k []) i,(List.range n).filter λk=>cR (R.getD k []) i)
def FK (P:Program) (sg:Bool) (Gl:Nat->SV) (Γ:Table) (N:Nat) (ops:List Oper) (K:Fr->Mem->Nat->Prop) (F:Fr) (M:Mem) (nx:Nat):Prop:=
 sY (ey ops []) λR=>
 fy (wa ops 0 R 0) λm=>
 match abj (ke P sg Gl Γ N M (ops.take m) F nx) ops m with
 |some i=>
  tF ((jE R ops.length i).1++ [i]++(jE R ops.length i).2) λord=>
  match qV ord ops.length with
  |true=>fy (jE R ops.length i).1.length λc=>xB (je ord ops) λb=>FP P sg Gl Γ N b c K F M nx
  |false=>False
 |none=>
 match (match abg P Gl Γ ops m (ke P sg Gl Γ N M (ops.take m) F nx) M nx with|some i=>some i|none=>abh Gl ops m (ke P sg Gl Γ N M (ops.take m) F nx) M)with
 |some i=>
  tF ((jE R ops.length i).1++ [i]++(jE R ops.length i).2) λord=>
  match qV ord ops.length with
  |true=>fy (jE R ops.length i).1.length λc=>xB (je ord ops) λb=>FQ P sg Gl Γ N b c K F M nx
  |false=>False
 |none=>
 match On ops m 0 R []with
 | []=>Ct P sg Gl Γ N ops K F M nx
 |i::r=>
  tF (List.range m++(i::r)++((List.range ops.length).filter λk=>!Nat.blt k m&&!cR (i::r) k)) λord=>
  match qV ord ops.length with
  |true=>xB (je ord ops) λb=>Ct P sg Gl Γ N b K F M nx
  |false=>False
theorem WZ (q:Sound P Gl Γ) {sg:Bool} {id:Nat} {ops:Array Oper} {Q:Exit->Act->World->Prop} {K:Fr->Mem->Nat->Prop} {S:List Nat} {nx:Nat}
 (n:∀d c a v w,Q (.panic c) (Act.put a d v) w->Q (.panic c) a w) (u:∀y w',zQ P Gl N S a w ω K y w'->Q .normal y w') (hd:∀o∈ops.toList,∀t,o.dst=some t->t∈S) (h:St P Gl N F M a w ω) (g:FK P sg Gl Γ N ops.toList K F M nx):(Code.region id ops true).wp P Q a w:=by
 unfold FK at g;simp only[yi,j4,Ff,Oo]at g;split at g
 ·next j _=>
  split at g
  ·next hp=>
   have hp:qV ((jE (ey ops.toList []) ops.toList.length j).1++ [j]++(jE (ey ops.toList []) ops.toList.length j).2) ops.size=true:=by simpa using hp
   revert g hp
   generalize (jE (ey ops.toList []) ops.toList.length j).1.length=x;generalize ((jE (ey ops.toList []) ops.toList.length j).1++ [j]++(jE (ey ops.toList []) ops.toList.length j).2)=ord;intro g hp;have b:=Fg hp;obtain⟨h1,h2⟩:=Uk (ops:=(je ord ops.toList).toArray) (m:=x) q n u (λo ho t p=>by obtain⟨o0,l,e⟩:=Fh (by simpa using ho);exact hd o0 l t (e▸p)) h (by simpa using g)
   rw[vZ b]at h2;exact wp_region_any h1 (A5 b ops.size (IC b) h2)
  ·exact g.elim
 split at g
 ·next j _=>
  split at g
  ·next hp=>
   have hp:qV ((jE (ey ops.toList []) ops.toList.length j).1++ [j]++(jE (ey ops.toList []) ops.toList.length j).2) ops.size=true:=by simpa using hp
   revert g hp
   generalize (jE (ey ops.toList []) ops.toList.length j).1.length=x;generalize ((jE (ey ops.toList []) ops.toList.length j).1++ [j]++(jE (ey ops.toList []) ops.toList.length j).2)=ord;intro g hp;have b:=Fg hp;obtain⟨h1,h2⟩:=Ul (ops:=(je ord ops.toList).toArray) (m:=x) q n u (λo ho t p=>by obtain⟨o0,l,e⟩:=Fh (by simpa using ho);exact hd o0 l t (e▸p)) h (by simpa using g)
   rw[vZ b]at h2;exact wp_region_any h1 (A5 b ops.size (IC b) h2)
  ·exact g.elim
 split at g
 ·obtain⟨h1,h2⟩:=KL q n u hd h g;exact wp_region_any h1 h2
 ·next i r z=>
  split at g
  ·next hp=>
   have hp:qV (List.range (wa ops.toList 0 (ey ops.toList []) 0)++(i::r)++((List.range ops.toList.length).filter λk=>!Nat.blt k (wa ops.toList 0 (ey ops.toList []) 0)&&!cR (i::r) k)) ops.size=true:=by simpa using hp
   revert g hp
   generalize (List.range (wa ops.toList 0 (ey ops.toList []) 0)++(i::r)++((List.range ops.toList.length).filter λk=>!Nat.blt k (wa ops.toList 0 (ey ops.toList []) 0)&&!cR (i::r) k))=ord;intro g hp;have b:=Fg hp;obtain⟨h1,h2⟩:=KL (ops:=(je ord ops.toList).toArray) q n u (λo ho t p=>by obtain⟨o0,l,e⟩:=Fh (by simpa using ho);exact hd o0 l t (e▸p)) h (by simpa using g)
   rw[vZ b]at h2;exact wp_region_any h1 (A5 b ops.size (IC b) h2)
  ·exact g.elim
end
end Go.Sy
