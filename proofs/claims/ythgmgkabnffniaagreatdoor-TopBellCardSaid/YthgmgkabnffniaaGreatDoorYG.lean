/-
  Sy: regions that draw their order: a call that writes what is lent to it, and may come ahead of some loads.
-/
import Derived.Test.YthgmgkabnffniaaGreatDoorYF
set_option linter.unusedVariables false
set_option linter.unusedSimpArgs false
set_option linter.unusedVariables false
set_option linter.unusedSimpArgs false
namespace Go.Sy
open Go.RowKit Classical
def EW (P:Program) (Gl:Nat->SV) (Γ:Table) (F:Fr) (M:Mem) (nx:Nat) (o:Oper):Option (Prop×SV×aX):=
  match o.guard,o.op with
  |none,.call {callee:= .value f,args:=args,argTypes:=_}=>Ez Γ (cX Gl F) (ae M) nx f args.toList
  |none,.call {callee:= .invoke r name,args:=args,argTypes:=_}=>DP P Γ (cX Gl F) (ae M) nx r name args.toList
  |_,_=>none
def IA (P:Program) (Gl:Nat->SV) (F:Fr) (M:Mem) (nx:Nat) (o:Oper):Option (Prop×SV×aX):=
  match o.guard,o.dst,o.op with
  |none,none,.store T x y=>
   match rH (ae M) (cX Gl F y),P.info? T,cX Gl F x with
   |some [v],some i,.ptr k st p ii j=>
    match Nat.beq 1 i.size,qI (ae M) v,cD (ae M) k st p,yy (ae M) nx k p ii j v with
    |true,true,true,some (pr,u)=>(match cM (u.map (·.1)) k with|true=>some (pr,.aF,u)|false=>none)
    |_,_,_,_=>none
   |_,_,_=>none
  |_,_,_=>none
def FA (P:Program) (Gl:Nat->SV) (Γ:Table) (F:Fr) (M:Mem) (nx:Nat) (o:Oper):Option (Prop×SV×aX):=
  match o.op with
  | .store _ _ _=>IA P Gl F M nx o
  |_=>EW P Gl Γ F M nx o
def PB:Op->Bool
  | .load _ _=>true
  | .nilCheck _=>true
  | .indexAddr _ _ _=>true
  |_=>false
section
variable {P:Program} {sg:Bool} {Gl:Nat->SV} {Γ:Table} {N:Nat} {F:Fr} {M:Mem} {a:Act} {w:World} {ω:Ow} {H:List Hd}
theorem Zo (hS:Sound P Gl Γ) (h:St P Gl N F M a w ω) {nx:Nat} {o:Oper} {pr:Prop} {s:SV} {u:aX} (he:EW P Gl Γ F M nx o=some (pr,s,u)) (hp:pr):o.guard=none/\Bu P w ω M a o s u:=by
  unfold EW at he
  split at he
  · next hg ho=>exact⟨hg,HH hS h.fe h.cx ho he hp⟩
  · next hg ho=>exact⟨hg,GM hS h.fe h.cx ho he hp⟩
  · cases he
def VC (P:Program) (w:World) (ω:Ow) (M:Mem) (a:Act) (o:Oper) (s:SV) (u:aX):Prop:=
  ∀{next:Act->World->Prop} {Q:Exit->Act->World->Prop},(∀v w' ao,bp w ω M w' ao (u++M)->Den w' ao s v->TU ω (u.map (·.1)) w w'->next (a.put o.dst v) w')->o.wp P a w next Q
theorem Yp (h:St P Gl N F M a w ω) {nx:Nat} {o:Oper} {pr:Prop} {s:SV} {u:aX} (he:IA P Gl F M nx o=some (pr,s,u)) (hp:pr):o.guard=none/\VC P w ω M a o s u:=by
  have hm:=h.mem
  unfold IA at he
  split at he
  · next T x y hg hd ho=>
    refine⟨hg,?_⟩
    have hx:=h.cx.val x
    split at he
    · next v i k st p ii j kD hi hs=>
      rw[hs]at hx
      split at he
      · next Vv u' hlen jE bF bC=>
        split at he
        · next a_=>
          simp only[Option.some.injEq,Prod.mk.injEq]at he
          obtain⟨rfl,rfl,rfl⟩:=he
          have hc:=Az hm kD (h.cx.val y)
          have hlen:=Nat.eq_of_beq_eq_true hlen
          obtain⟨x0,Ku⟩: ∃x0,(a.eval y).cells.toList= [x0]:=by
            have:=hc.len
            match hl:(a.eval y).cells.toList,this with
            | [x0],_=>exact⟨x0,rfl⟩
          rw[Ku]at hc
          have jE:([v]:List SV).all (qI (ae M))=true:=by simp[jE]
          have J:=Dv hm jE hc
          have bV:(a.eval y).cells.size=i.size:=by rw[<-Array.length_toList,Ku,<-hlen];rfl
          have fZ:(sizeOf T).run P w= .ok i.size w:=by simp[sizeOf,run_typeInfo w hi,Result.andThen]
          obtain⟨e0,L,hL,j5,ex⟩:=ir hm bF hx
          obtain⟨hj,gg,s1,_⟩:=Nn hm bC hp hc.1 (J x0 (by simp)) hL j5
          obtain⟨_,_,_,_,c,T0,g1,g2,g3,g4⟩:=hm.row _ _ _ hL
          obtain⟨_,y1,_⟩:=g4 ii j5 j hj
          have hr:=Dm (P:=P) (x:=x0) g1 (Array.getElem?_eq_some_iff.1 y1).1 (J x0 (by simp))
          have run:(execOp a.eval o).run P w= .ok .skip (w.setCell ⟨L.b,L.o+ii*L.sz+j,none⟩ x0):=by
            simp[execOp,ho,ex,Instr.storeAt,Instr.sureAddr,storeVar,fZ,bV,Ku,storeCells,Addr.add,hr,Result.andThen]
          intro next Q hn
          unfold Oper.wp
          rw[run]
          exact hn undef _ gg s1 trivial λb hb hk=>Ax w _ x0 (λe=>hk k (jf.1 a_) p L hL e.symm)
        · cases he
      · cases he
    · cases he
  · cases he
theorem acT (hS:Sound P Gl Γ) (h:St P Gl N F M a w ω) {nx:Nat} {o:Oper} {pr:Prop} {s:SV} {u:aX} (he:FA P Gl Γ F M nx o=some (pr,s,u)) (hp:pr):o.guard=none/\VC P w ω M a o s u:=by
  unfold FA at he
  split at he
  · exact Yp h he hp
  · obtain⟨hg,id,vs,gw,BA⟩:=Zo hS h he hp
    refine⟨hg,?_⟩
    intro next Q hn
    unfold Oper.wp
    rw[gw]
    unfold wa at BA
    refine BA.mono ?_
    rintro e w' ⟨v,ao,rfl,h3,h4,_,BB⟩
    exact hn v w' ao h3 h4 BB
theorem Xj {o:Oper} {p:Prop} {ko:Option Nat} (he:uk P Gl F M o=some (p,ko)):o.guard=none/\PB o.op=true:=by
  unfold uk at he
  split at he
  · next hg ho=>exact⟨hg,by rw[ho];rfl⟩
  · next hg ho=>exact⟨hg,by rw[ho];rfl⟩
  · next hg ho=>exact⟨hg,by rw[ho];rfl⟩
  · cases he
theorem aeT (hS:Sound P Gl Γ) (h:St P Gl N F M a w ω) (hH:iU w ω N a H) {ops:List Oper} {nx:Nat} {pr:List Nat} {o:Oper} {p:Prop} {rc:Rc} (hg:o.guard=none) (jK:PB o.op=true)
    (he:sS P sg Gl Γ N ops F M H nx pr o=some (p,rc)) (hp:p): ∃s v,rc=⟨jj N o.dst s,[],[]⟩/\(execOp a.eval o).run P w= .ok (.value v) w/\Den w ω s v:=by
  have lb:guardOf N ops F H o= .yes:=by unfold guardOf;rw[hg]
  have hnz:EY o.op=false:=by
    cases ho:o.op with
    |load T x=>rfl
    |nilCheck x=>rfl
    |indexAddr T x y=>rfl
    |_=>rw[ho]at jK;cases jK
  unfold sS at he
  rw[lb,hnz]at he
  have key: ∃s u,rc=⟨jj N o.dst s,[],u⟩/\(oH P sg Gl Γ F M nx H [] o.op).run (λs' u'=>s'=s/\u'=u):=by
    cases oQ:uA H o.dst with
    |false=>rw[oQ]at he;cases he
    |true=>
     rw[oQ]at he
     simp only at he
     split at he
     · next s hr=>
       simp only[Option.some.injEq,Prod.mk.injEq]at he
       exact⟨s,[],he.2.symm,by rw[hr];exact⟨rfl,rfl⟩⟩
     · next s hr=>
       simp only[Option.some.injEq,Prod.mk.injEq]at he
       exact⟨s,[],he.2.symm,by rw[hr];exactλ_=>⟨rfl,rfl⟩⟩
     · next s hr=>
       simp only[Option.some.injEq,Prod.mk.injEq]at he
       exact⟨s,[],he.2.symm,by rw[hr];exact⟨by rw[he.1];exact hp,rfl,rfl⟩⟩
     · next s u hr=>
       split at he
       · simp only[Option.some.injEq,Prod.mk.injEq]at he
         exact⟨s,u,he.2.symm,by rw[hr];exact⟨by rw[he.1];exact hp,rfl,rfl⟩⟩
       · cases he
     · cases he
     · cases he
  obtain⟨s,u,rfl,gw⟩:=key
  have hc:Cx P w ω (cX Gl (jS [] F H)) M a:=⟨(qo h.frame (As:= []) (λp hp=>by cases hp) H hH).cX h.fe,h.mem⟩
  have fin: ∀{r:R},(∀{K':SV->Prop},r.run K'->fR P w ω a o K')->r.up.run (λs' u'=>s'=s/\u'=u)-> ∃VD v,(⟨jj N o.dst s,[],u⟩:Rc)=⟨jj N o.dst VD,[],[]⟩/\(execOp a.eval o).run P w= .ok (.value v) w/\Den w ω VD v:=by
    intro r J h2
    have:r.run (λs'=>s'=s/\([]:aX)=u):=by cases r<;>exact h2
    obtain⟨s',v,g1,g2,rfl,rfl⟩:=J this
    exact⟨s',v,rfl,g1,g2⟩
  cases ho:o.op with
  |load T x=>rw[ho]at gw;exact fin (λhk=>wc hc (by rw[ho];exact hk)) gw
  |nilCheck x=>rw[ho]at gw;exact fin (λhk=>wc hc (by rw[ho];exact hk)) gw
  |indexAddr T x y=>rw[ho]at gw;exact fin (λhk=>wc hc (by rw[ho];exact hk)) gw
  |_=>rw[ho]at jK;cases jK
end
section
variable {P:Program} {sg:Bool} {Gl:Nat->SV} {Γ:Table} {N:Nat} {ops:Array Oper} {PR:Nat->List Nat} {m:Nat} {rs:List Rc} {F F0:Fr} {M:Mem} {cN wr:Nat->Bool}
variable {a0 a:Act} {w0 w:World} {bj ω:Ow} {D:Nat->Prop}
structure Fc (P:Program) (Gl:Nat->SV) (Γ:Table) (N:Nat) (ops:Array Oper) (PR:Nat->List Nat) (m:Nat) (rs:List Rc) (F0:Fr) (M:Mem) (cN wr:Nat->Bool) (KQ:List Nat) (oB:Oper) (sB:SV) (uB:aX):Prop where
  at_:ops[m]? =some oB
  Kv: ∀j o,j<m->ops[j]? =some o->j∉PR m->cN j=false-> ∃p ko,uk P Gl (vF rs F0 (PR j)) (vM rs M (PR j)) o=some (p,ko)/\p/\ ∀k,ko=some k->k∈KQ
  emp: ∀j,j<m->j∉PR m->keys rs j= []/\wr j=false
  Kw: ∃nx pr,FA P Gl Γ (vF rs F0 (PR m)) (vM rs M (PR m)) nx oB=some (pr,sB,uB)/\pr
  out: ∀k∈uB.map (·.1),k∉KQ
  key: ∀k∈KQ,cv (ae M) k=false/\ ∀j,k∉keys rs j
  gQ:Region.noSelect ops=true
  ap: ∀j o,j<m->ops[j]? =some o->j∉PR m->o.apart ops oB=true
  low: ∀j∈PR m,j<m
theorem Yq (hS:Sound P Gl Γ) (S:k_ P sg Gl Γ N ops PR m rs F F0 M cN wr) (hm:aR w0 bj M) (hF:eH w0 bj N F a0.tmps) (hG: ∀g,Den w0 bj.bare (Gl g) (.pointer (some ⟨g,0,none⟩))) {KQ:List Nat} {oB:Oper} {sB:SV} {uB:aX} (B:Fc P Gl Γ N ops PR m rs F0 M cN wr KQ oB sB uB)
    (I:Inv ops PR m rs M N a0 w0 bj D a w ω) {j:Nat} {o:Oper} (hj:j<m) (ho:ops[j]? =some o) (j4:j∉PR m) (fY: ¬D j) (gL: ∀i∈PR j,D i):
    o.guard=none/\ ∃v,(∀w',SQ KQ bj w w'->(execOp a.eval o).run P w'= .ok (.value v) w')/\Inv ops PR m rs M N a0 w0 bj (λi=>D i\/i=j) (a.put o.dst v) w ω:=by
  obtain⟨g1,g2,g3⟩:=I.all S hm hF gL (λi hi=>S.closed j i hi)
  have Bx:=(B.emp j hj j4).1
  have inv: ∀{v:Value} {s:SV},cr rs j=⟨jj N o.dst s,[],[]⟩->Den w (db rs M ω (PR j)) s v->Inv ops PR m rs M N a0 w0 bj (λi=>D i\/i=j) (a.put o.dst v) w ω:=by
    intro v s pL hd
    have h:=I.Ri S hm hj ho fY gL (λk hk=>by rw[Bx]at hk;cases hk) (v:=v) (w':=w) (d_:=db rs M ω (PR j)) (by rw[pL];exact bp.refl g1) (by rw[pL];exact kA.refl _ _) (by rw[pL];exact⟨Dl hd,λx hx=>by cases hx⟩)
    have e:(⟨(db rs M ω (PR j)).A,ω.Z,λk p=>if k∈keys rs j then(db rs M ω (PR j)).β k p else ω.β k p,ω.cur⟩:Ow)=ω:=by
      show(⟨ω.A,ω.Z,_,ω.cur⟩:Ow)=ω
      have:(λk p=>if k∈keys rs j then(db rs M ω (PR j)).β k p else ω.β k p)=ω.β:=by
        funext k p
        rw[if_neg (by rw[Bx];simp)]
      rw[this]
    rw[e]at h
    exact h
  cases hr:cN j with
  |true=>
   obtain⟨hg,s,pL,he⟩:=S.J7 j o hj ho hr
   obtain⟨v,J,h2⟩:=Ii g1 g2 he
   exact⟨hg,v,λw' _=>J w',inv pL h2⟩
  |false=>
   obtain⟨p,ko,he,hp,hk⟩:=B.Kv j o hj ho j4 hr
   have bC:St P Gl N (vF rs F0 (PR j)) (vM rs M (PR j)) a w (db rs M ω (PR j)):=⟨g2,λg=>Den.ext (o:=bj.bare) (I.s_ S hm (PR j)).bare (hG g),g1,I.defers⟩
   obtain⟨hg,v,J⟩:=N6 bC he hp
   obtain⟨_,jK⟩:=Xj he
   obtain⟨nx,p',he',FB⟩:=S.ev j o hj ho hr (B.emp j hj j4).2
   obtain⟨s,v',pL,h2,h3⟩:=aeT hS bC g3 hg jK he' FB
   have h0:=J w (λ_ _ _ _=>rfl)
   rw[h2]at h0
   obtain rfl:v'=v:=by cases h0;rfl
   refine⟨hg,v',λw' hs=>J w' λk CE L hL=>?_,inv pL h3⟩
   obtain⟨_,fK⟩:=uf hL
   have hf:=(B.key k (hk k CE)).1
   rw[I.p8 k none (λ_ _ _=>hf)]at fK
   exact hs k (hk k CE) L fK
def Jb (KQ:List Nat) (PR:Nat->List Nat) (m:Nat) (rs:List Rc) (M:Mem) (bj:Ow) (sB:SV) (uB:aX) (w:World) (ω:Ow) (v:Value) (w':World):Prop:=
  SQ KQ bj w w'/\ ∃ao,Ext w (db rs M ω (PR m)) w' ao/\aR w' ao (uB++vM rs M (PR m))/\Den w' ao sB v
theorem agt (hS:Sound P Gl Γ) (S:k_ P sg Gl Γ N ops PR m rs F F0 M cN wr) (hT: ∀i,m<i->i<ops.size-> ∀j,j<i->j∈PR i) (hm:aR w0 bj M) (hF:eH w0 bj N F a0.tmps) (hG: ∀g,Den w0 bj.bare (Gl g) (.pointer (some ⟨g,0,none⟩))) {Q:Exit->Act->World->Prop} (kx: ∀d c a v w,Q (.panic c) (Act.put a d v) w->Q (.panic c) a w)
    {KQ:List Nat} {oB:Oper} {sB:SV} {uB:aX} (B:Fc P Gl Γ N ops PR m rs F0 M cN wr KQ oB sB uB)
    (rM: ∀a w ω v w',Inv ops PR m rs M N a0 w0 bj (λj=>j<m) a w ω->Jb KQ PR m rs M bj sB uB w ω v w'->wpList P ops Q (ops.toList.drop (m+1)) (a.put oB.dst v) w') (w:World) (ω:Ow) (v:Value) (w':World) (EV:Jb KQ PR m rs M bj sB uB w ω v w'):
    ∀(fuel:Nat) (listed:Array Bool) (a:Act),listed.size=ops.size->mI ops.size (listed.setIfInBounds m true)<=fuel->Inv ops PR m rs M N a0 w0 bj (λj=>listed.getD j false=true) a w ω->(∀j∈PR m,listed.getD j false=true)->
     wpAny P .any ops Q fuel (listed.setIfInBounds m true) (a.put oB.dst v) w':=by
  have qW:m<ops.size:=(Array.getElem?_eq_some_iff.1 B.at_).1
  have nC:=Region.noSelect_spec B.gQ
  have fin: ∀(fuel:Nat) (listed:Array Bool) (a:Act),listed.size=ops.size->mI ops.size (listed.setIfInBounds m true)<=fuel->Inv ops PR m rs M N a0 w0 bj (λj=>listed.getD j false=true) a w ω->
   (∀j,j<m->listed.getD j false=true)->wpAny P .any ops Q fuel (listed.setIfInBounds m true) (a.put oB.dst v) w':=by
    intro fuel listed a hs hu I fW
    have hD:(λj=>listed.getD j false=true)=(λj=>j<m):=by
      funext j
      exact propext ⟨I.low j,fW j⟩
    have I':=I
    rw[hD]at I'
    have Kx:=rM a w ω v w' I' EV
    refine D7 S (m+1) (λi J h2 j h3 h4=>hT i (by omega) h2 j h3) fuel (m+1) _ _ _ (by simpa using hs) (λj hj=>?_) (Nat.le_refl _) qW hu Kx
    by_cases e:m=j
    · subst e
      have:(listed.setIfInBounds m true).getD m false=true:=by simp[Array.getD,hs,hj]
      rw[this];simp
    · rw[getD_set_ne false e]
      constructor
      · intro h;have:=I.low j h;omega
      · intro h;exact fW j (by omega)
  intro fuel
  induction fuel with
  |zero=>
   intro listed a hs hu I mM
   refine fin 0 listed a hs hu I λj hj=>?_
   cases hx:listed.getD j false with
   |true=>rfl
   |false=>
    have J:(listed.setIfInBounds m true).getD j true=false:=by
      rw[getD_set_ne true (by omega),getD_eq (by omega) true false];exact hx
    have:=yl (show j<ops.size by omega) J
    omega
  |succ fuel ih=>
   intro listed a hs hu I mM
   by_cases fW: ∀j,j<m->listed.getD j false=true
   · exact fin _ listed a hs hu I fW
   have first: ∃j,j<m/\listed.getD j false=false/\j∈Region.ready .any ops listed:=by
     refine Classical.byContradiction λcj=>?_
     have: ∀n,∀j,j<n->j<m->listed.getD j false=true:=by
       intro n
       induction n with
       |zero=>intro j hj;omega
       |succ n tC=>
        intro j hj j4
        cases hx:listed.getD j false with
        |true=>rfl
        |false=>
         exfalso
         have bz:j<ops.size:=by omega
         refine cj ⟨j,j4,hx,mem_ready.2 ⟨by rw[getD_eq (by omega) true false];exact hx,ops[j],Array.getElem?_eq_getElem bz,λe he hb=>?_⟩⟩
         have hd:=S.xj j _ (Array.getElem?_eq_getElem bz) e he hb
         exact tC e.on (by omega) (by omega)
     exact fW λj hj=>this (j+1) j (Nat.lt_succ_self j) hj
   have oV:listed.getD m false=false:=by
     cases hx:listed.getD m false with
     |false=>rfl
     |true=>exact absurd (I.low m hx) (Nat.lt_irrefl _)
   refine⟨λhr=>?_,λi hi=>?_⟩
   · obtain⟨j,hj,_,qX⟩:=first
     have:=ready_mono (i:=m) qX (by omega)
     rw[hr]at this
     simp at this
   · obtain⟨J,o,h2,h3⟩:=mem_ready.1 hi
     have a_:=(Array.getElem?_eq_some_iff.1 h2).1
     have JG:m≠i:=λe=>by
       subst e
       simp[Array.getD,hs,a_]at J
     have xw:listed.getD i false=false:=by
       rw[getD_set_ne true JG,getD_eq (by omega) true false]at J;exact J
     have B3: ∀x∈PR i,x=m\/listed.getD x false=true:=by
       intro x hx
       obtain⟨e,he,hb,dO⟩:=S.dep i o h2 x hx
       have iT:=h3 e he hb
       by_cases em:m=e.on
       · rcases dO with rfl|dO
         · exact .inl em.symm
         · exact .inr (mM x (em▸dO))
       · rw[getD_set_ne false em]at iT
         rcases dO with rfl|dO
         · exact .inr iT
         · exact .inr (I.fJ _ iT x dO)
     have iV:i<m:=by
       rcases Nat.lt_or_ge i m with h|h
       · exact h
       · exfalso
         obtain⟨j,hj,tD,_⟩:=first
         rcases B3 j (hT i (by omega) a_ j (by omega))with h|h
         · omega
         · rw[h]at tD;cases tD
     have gL: ∀x∈PR i,listed.getD x false=true:=λx hx=>(B3 x hx).resolve_left λe=>by have:=S.lt i x hx;omega
     have xd:i∉PR m:=λh=>by rw[mM i h]at xw;cases xw
     have fY: ¬listed.getD i false=true:=by rw[xw];simp
     obtain⟨hg,vi,hv,I'⟩:=Yq hS S hm hF hG B I iV h2 xd fY gL
     have xx:=B.ap i o iV h2 xd
     obtain⟨p1,p2,p3⟩:=Oper.apart_spec xx
     have ei:execOp (a.put oB.dst v).eval o=execOp a.eval o:=Rv nC h2 xx v
     have mD:(λj=>(listed.setIfInBounds i true).getD j false=true)=(λj=>listed.getD j false=true\/j=i):=by
       funext j
       refine propext ⟨λh=>?_,λh=>?_⟩
       · by_cases e:i=j
         · exact .inr e.symm
         · rw[getD_set_ne false e]at h;exact .inl h
       · rcases h with h|rfl
         · exact getD_set_true h
         · simp[Array.getD,hs,a_]
     have BC:(listed.setIfInBounds m true).setIfInBounds i true=(listed.setIfInBounds i true).setIfInBounds m true:=Array.setIfInBounds_comm _ _ (by omega)
     unfold wpOp
     rw[h2]
     simp only
     rw[if_pos (by simp[Region.wanted,hg])]
     left
     unfold Oper.wp
     rw[ei,hv w' EV.1]
     show wpAny P .any ops Q fuel ((listed.setIfInBounds m true).setIfInBounds i true) ((a.put oB.dst v).put o.dst vi) w'
     rw[BC,<-Act.put_comm a vi v p2]
     refine ih (listed.setIfInBounds i true) (a.put o.dst vi) (by simpa using hs) ?_ (by rw[mD];exact I') (λj hj=>getD_set_true (mM j hj))
     rw[<-BC]
     have:=vT (listed:=listed.setIfInBounds m true) a_ (by simpa using hs) J
     omega
theorem aaQ (hS:Sound P Gl Γ) (S:k_ P sg Gl Γ N ops PR m rs F F0 M cN wr) (hT: ∀i,m<i->i<ops.size-> ∀j,j<i->j∈PR i) (hm:aR w0 bj M) (hF:eH w0 bj N F a0.tmps) (hG: ∀g,Den w0 bj.bare (Gl g) (.pointer (some ⟨g,0,none⟩))) {Q:Exit->Act->World->Prop} (kx: ∀d c a v w,Q (.panic c) (Act.put a d v) w->Q (.panic c) a w)
    {KQ:List Nat} {oB:Oper} {sB:SV} {uB:aX} (B:Fc P Gl Γ N ops PR m rs F0 M cN wr KQ oB sB uB)
    (rM: ∀a w ω v w',Inv ops PR m rs M N a0 w0 bj (λj=>j<m) a w ω->Jb KQ PR m rs M bj sB uB w ω v w'->wpList P ops Q (ops.toList.drop (m+1)) (a.put oB.dst v) w'):
    ∀(fuel:Nat) (listed:Array Bool) (a:Act) (w:World) (ω:Ow),listed.size=ops.size->mI ops.size listed<=fuel->Inv ops PR m rs M N a0 w0 bj (λj=>listed.getD j false=true) a w ω->wpAny P .any ops Q fuel listed a w:=by
  have qW:m<ops.size:=(Array.getElem?_eq_some_iff.1 B.at_).1
  intro fuel
  induction fuel with
  |zero=>
   intro listed a w ω hs hu I
   exfalso
   have oV:listed.getD m true=false:=by
     cases hx:listed.getD m false with
     |false=>rw[getD_eq (by omega) true false];exact hx
     |true=>exact absurd (I.low m hx) (Nat.lt_irrefl _)
   have:=yl qW oV
   omega
  |succ fuel ih=>
   intro listed a w ω hs hu I
   have oV:listed.getD m false=false:=by
     cases hx:listed.getD m false with
     |false=>rfl
     |true=>exact absurd (I.low m hx) (Nat.lt_irrefl _)
   have pz: ∀i,i∈Region.ready .any ops listed-> ∀x∈PR i,listed.getD x false=true:=by
     intro i hi x hx
     obtain⟨J,o,h2,h3⟩:=mem_ready.1 hi
     obtain⟨e,he,hb,dO⟩:=S.dep i o h2 x hx
     have iT:=h3 e he hb
     rcases dO with rfl|dO
     · exact iT
     · exact I.fJ _ iT x dO
   refine⟨λhr=>?_,λi hi=>?_⟩
   · exfalso
     have: ∀n,∀j,j<n->j<ops.size->listed.getD j false=true:=by
       intro n
       induction n with
       |zero=>intro j hj;omega
       |succ n tC=>
        intro j hj bz
        cases hx:listed.getD j false with
        |true=>rfl
        |false=>
         exfalso
         have:j∈Region.ready .any ops listed:=mem_ready.2 ⟨by rw[getD_eq (by omega) true false];exact hx,ops[j],Array.getElem?_eq_getElem bz,λe he hb=>by
           have hd:=S.xj j _ (Array.getElem?_eq_getElem bz) e he hb
           exact tC e.on (by omega) (by omega)⟩
         rw[hr]at this
         simp at this
     rw[this (m+1) m (Nat.lt_succ_self m) qW]at oV
     cases oV
   · obtain⟨J,o,h2,h3⟩:=mem_ready.1 hi
     have a_:=(Array.getElem?_eq_some_iff.1 h2).1
     have fY: ¬listed.getD i false=true:=by
       rw[getD_eq (by omega) false true,J];simp
     have mD:(λj=>(listed.setIfInBounds i true).getD j false=true)=(λj=>listed.getD j false=true\/j=i):=by
       funext j
       refine propext ⟨λh=>?_,λh=>?_⟩
       · by_cases e:i=j
         · exact .inr e.symm
         · rw[getD_set_ne false e]at h;exact .inl h
       · rcases h with h|rfl
         · exact getD_set_true h
         · simp[Array.getD,hs,a_]
     have JU:=vT a_ hs J
     rcases Nat.lt_trichotomy i m with iV|iV|iV
     · refine I.step hS S hm hF hG iV h2 fY (pz i hi) λa' w' ao I'=>ih _ a' w' ao (by simpa using hs) (by omega) ?_
       rw[mD];exact I'
     · subst iV
       obtain rfl:o=oB:=Option.some.inj (h2.symm.trans B.at_)
       have mM:=pz i hi
       obtain⟨g1,g2,g3⟩:=I.all S hm hF mM (λj hj=>S.closed i j hj)
       have bC:St P Gl N (vF rs F0 (PR i)) (vM rs M (PR i)) a w (db rs M ω (PR i)):=⟨g2,λg=>Den.ext (o:=bj.bare) (I.s_ S hm (PR i)).bare (hG g),g1,I.defers⟩
       obtain⟨nx,pr,he,hp⟩:=B.Kw
       obtain⟨hg,jK⟩:=acT hS bC he hp
       unfold wpOp
       rw[h2]
       simp only
       rw[if_pos (by simp[Region.wanted,hg])]
       left
       refine jK ?_
       intro v w' ao h3 h4 BB
       have xy:SQ KQ bj w w':=by
         intro k hk L hL
         obtain⟨hf,cj⟩:=B.key k hk
         have uW:(db rs M ω (PR i)).β k none=some L:=by
           rw[sub_eq (λh=>by have:=h.1;rw[hf]at this;cases this),I.p8 k none (λ_ _ _=>hf)];exact hL
         refine BB L.b (g1.low _ _ _ uW) λk' cR p L' fK e=>?_
         obtain⟨rfl,_⟩:=g1.inj _ _ _ _ _ _ fK uW e
         exact B.out _ cR hk
       exact agt hS S hT hm hF hG kx B rM w ω v w' ⟨xy,ao,h3.ext,h3.mem,h4⟩ fuel listed a hs (by omega) I mM
     · exfalso
       have:=pz i hi m (hT i iV a_ m iV)
       rw[oV]at this
       cases this
end
end Go.Sy
set_option linter.unusedVariables false
set_option linter.unusedSimpArgs false
namespace Go.Sy
open Go.RowKit
/-! ### what is before an operation -/
def yt:List Nat->List Nat->List Nat
  | [],acc=>acc
  |x::r,acc=>match cM acc x with|true=>yt r acc|false=>yt r (x::acc)
theorem Gz: ∀{l acc:List Nat} {x:Nat},x∈yt l acc↔x∈l\/x∈acc
  | [],acc,x=>by simp[yt]
  |y::r,acc,x=>by
   unfold yt
   split
   · next h=>
     rw[Gz]
     have:=jf.1 h
     simp only[List.mem_cons]
     constructor
     · rintro (h|h)
       · exact .inl (.inr h)
       · exact .inr h
     · rintro ((rfl|h)|h)
       · exact .inr this
       · exact .inl h
       · exact .inr h
   · rw[Gz]
     simp only[List.mem_cons]
     constructor
     · rintro (h|rfl|h)
       · exact .inl (.inr h)
       · exact .inl (.inl rfl)
       · exact .inr h
     · rintro ((rfl|h)|h)
       · exact .inr (.inl rfl)
       · exact .inl h
       · exact .inr (.inr h)
def qF (R:List (List Nat)):List Edge->List Nat->List Nat
  | [],acc=>acc
  |e::r,acc=>match Region.binds .any e with|true=>qF R r (yt (e.on::R.getD e.on []) acc)|false=>qF R r acc
theorem AF {R:List (List Nat)}: ∀{es:List Edge} {acc:List Nat} {x:Nat},x∈qF R es acc↔x∈acc\/ ∃e∈es,Region.binds .any e=true/\(x=e.on\/x∈R.getD e.on [])
  | [],acc,x=>by simp[qF]
  |e::r,acc,x=>by
   unfold qF
   split
   · next hb=>
     rw[AF,Gz]
     simp only[List.mem_cons,exists_eq_or_imp]
     constructor
     · rintro ((h|h)|h)
       · exact .inr (.inl ⟨hb,h⟩)
       · exact .inl h
       · exact .inr (.inr h)
     · rintro (h|⟨_,h⟩|h)
       · exact .inl (.inr h)
       · exact .inl (.inl h)
       · exact .inr h
   · next hb=>
     rw[AF]
     simp only[List.mem_cons,exists_eq_or_imp]
     constructor
     · rintro (h|h)
       · exact .inl h
       · exact .inr (.inr h)
     · rintro (h|⟨h,_⟩|h)
       · exact .inl h
       · rw[hb]at h;cases h
       · exact .inr h
def ff:List Oper->List (List Nat)->List (List Nat)
  | [],acc=>acc
  |o::r,acc=>ff r (acc++ [qF acc o.after.toList []])
theorem MB: ∀(l:List Oper) (acc:List (List Nat)),(∃t,ff l acc=acc++t)/\ ∀k o,l[k]? =some o->(ff l acc)[acc.length+k]? =some (qF ((ff l acc).take (acc.length+k)) o.after.toList [])
  | [],acc=>⟨⟨[],by simp[ff]⟩,λk o h=>by simp at h⟩
  |o::r,acc=>by
   obtain⟨⟨t,ht⟩,h⟩:=MB r (acc++ [qF acc o.after.toList []])
   have e:ff (o::r) acc=ff r (acc++ [qF acc o.after.toList []]):=rfl
   refine⟨⟨[qF acc o.after.toList []]++t,by rw[e,ht];simp⟩,λk o' hk=>?_⟩
   cases k with
   |zero=>
    simp only[List.getElem?_cons_zero,Option.some.injEq]at hk
    subst hk
    rw[e,ht]
    simp
   |succ k=>
    have:=h k o' (by simpa using hk)
    rw[e]
    simpa [Nat.add_assoc,Nat.add_comm 1 k]using this
def vY:Nat->List Oper->Bool
  |_,[]=>true
  |i,o::r=>(o.after.toList.all λe=>!Region.binds .any e||Nat.blt e.on i)&&vY (i+1) r
theorem Mk: ∀{l:List Oper} {i:Nat},vY i l=true-> ∀k o,l[k]? =some o-> ∀e∈o.after,Region.binds .any e=true->e.on<i+k
  | [],_,_,k,o,h=>by simp at h
  |x::r,i,hb,k,o,h=>by
   simp only[vY,Bool.and_eq_true]at hb
   intro e he Ve
   cases k with
   |zero=>
    simp only[List.getElem?_cons_zero,Option.some.injEq]at h
    subst h
    have:=List.all_eq_true.1 hb.1 e (by simpa using he)
    rw[Ve]at this
    exact Nat.le_of_ble_eq_true this
   |succ k=>
    have:=Mk hb.2 k o (by simpa using h) e he Ve
    omega
def Es (o:Oper):Bool:=
  match o.guard,o.op with
  |none,.extract _ _=>true
  |none,.binOp _ _ _ _ _=>true
  |none,.unOp _ _ _=>true
  |none,.convert _ _ _=>true
  |none,.move _=>true
  |none,.fieldAddr _ _ _=>true
  |none,.indexAddr _ _ _=>true
  |_,_=>false
def Bq (ops:List Oper) (j:Nat):Bool:=match ops[j]? with|some o=>Es o|none=>false
def HB (ops:List Oper):Nat->List (List Nat)->Nat->Nat
  |_,[],m=>m
  |i,p::r,m=>HB ops (i+1) r (match Nat.beq p.length i||(List.range i).all λj=>cM p j||(Bq ops j&&Nat.blt j m)with|true=>m|false=>i+1)
def aeB (R:List (List Nat)) (m n:Nat) (gs:List Bool):Bool:=(List.range n).all λi=>Nat.blt i m||(List.range i).all λj=>cM (R.getD i []) j||(Nat.blt j m&&gs.getD j false)
def Et (ops:List Oper) (R:List (List Nat)) (gs:List Bool):Bool:=
  (List.range gs.length).all λi=>!(gs.getD i false)||
    (match ops[i]? with
     |some oi=>Region.noSelect ops.toArray&&(List.range ops.length).all λj=>Nat.beq j i||cM (R.getD i []) j||(match ops[j]? with|some oj=>(oj.after.toList.any λe=>Region.binds .any e&&Nat.beq e.on i)||oi.apart ops.toArray oj|none=>true)
     |none=>true)
def Ig (P:Program) (sg:Bool) (N:Nat) (V:Fr) (m:Nat->bk) (o:Oper):Option (Prop×Rc):=
  match Es o,uT P sg V m o.op with
  |true,.ok s=>some (True,⟨jj N o.dst s,[],[]⟩)
  |true,.mH _ s=>some (True,⟨jj N o.dst s,[],[]⟩)
  |true,.dS p s=>some (p,⟨jj N o.dst s,[],[]⟩)
  |_,_=>none
theorem X' {P:Program} {sg:Bool} {N:Nat} {V:Fr} {m:Nat->bk} {o:Oper} {p:Prop} {rc:Rc} (h:Ig P sg N V m o=some (p,rc)) (hp:p):o.guard=none/\ ∃s,rc=⟨jj N o.dst s,[],[]⟩/\(uT P sg V m o.op).run (λs'=>s'=s):=by
  have hg: ∀{b},Es o=b->b=true->o.guard=none:=by
    intro b h hb
    subst hb
    unfold Es at h
    split at h<;>first|assumption|cases h
  unfold Ig at h
  split at h
  · next s J h2=>
    simp only[Option.some.injEq,Prod.mk.injEq]at h
    exact⟨hg J rfl,s,h.2.symm,by rw[h2];exact rfl⟩
  · next s J h2=>
    simp only[Option.some.injEq,Prod.mk.injEq]at h
    exact⟨hg J rfl,s,h.2.symm,by rw[h2];exactλ_=>rfl⟩
  · next s J h2=>
    simp only[Option.some.injEq,Prod.mk.injEq]at h
    exact⟨hg J rfl,s,h.2.symm,by rw[h2];exact⟨by rw[h.1];exact hp,rfl⟩⟩
  · cases h
/-! ### all operations, one behind the other -/
def mC (P:Program) (sg:Bool) (Gl:Nat->SV) (Γ:Table) (N:Nat) (M:Mem):List Oper->Fr->Nat->Fr
  | [],F,_=>F
  |o::r,F,nx=>
   match oH P sg Gl Γ F M nx [] [] o.op with
   | .ok s=>mC P sg Gl Γ N M r (iz N F o.dst s) nx
   | .mH _ s=>mC P sg Gl Γ N M r (iz N F o.dst s) nx
   | .dS _ s=>mC P sg Gl Γ N M r (iz N F o.dst s) nx
   | .mem _ s _=>mC P sg Gl Γ N M r (iz N F o.dst s) nx
   | .any _ _=>mC P sg Gl Γ N M r (iz N F o.dst .aF) nx
   | .bad=>mC P sg Gl Γ N M r (iz N F o.dst .aF) nx
def yu (Gl:Nat->SV) (F:Fr) (o:Oper):Option Nat:=
  match o.op with
  | .store _ x _=>(match cX Gl F x with| .ptr k _ none _ _=>some k|_=>none)
  |_=>none
def qG:List Nat->Mem->Mem
  | [],M=>M
  |k::r,M=>
   match (ae M k).hl,(ae M k).b with
   |none,.cells l=>(match l.all λs=>!cW s with|true=>qG r ((k,{ae M k with b:= .cells (py l.length)})::M)|false=>qG r M)
   |_,_=>qG r M
def UI:SV->Bool
  | .aF=>true
  |_=>false
def Ju (e f:bk):Bool:=
  match e.hl,e.b,f.hl,f.b with
  |none,.cells l,none,.cells l'=>Nat.beq e.rs f.rs&&Nat.beq e.ds f.ds&&l.all UI&&Nat.beq l'.length l.length
  |_,_,_,_=>false
def sR (P:Program) (sg:Bool) (Gl:Nat->SV) (Γ:Table) (N:Nat) (ops:List Oper) (R:List (List Nat)) (F0:Fr) (M:Mem):List Oper->Nat->List Rc->List Bool->List Bool->Nat->(List Rc->List Bool->List Bool->Nat->Prop)->Prop
  | [],_,rs,gs,ws,nx,K=>K rs gs ws nx
  |o::r,i,rs,gs,ws,nx,K=>
   match Ig P sg N (vF rs F0 (R.getD i [])) (ae (vM rs M (R.getD i []))) o with
   |some (p,rc)=>p/\yY (rs++ [rc]) λCh=>sR P sg Gl Γ N ops R F0 M r (i+1) Ch (gs++ [true]) (ws++ [false]) nx K
   |none=>
    match sS P sg Gl Γ N ops (vF rs F0 (R.getD i [])) (vM rs M (R.getD i [])) (vH rs (R.getD i [])) nx (R.getD i []) o with
    |some (p,rc)=>p/\yY (rs++ [rc]) λCh=>gf (nx+64) λdH=>sR P sg Gl Γ N ops R F0 M r (i+1) Ch (gs++ [false]) (ws++ [false]) dH K
    |none=>
     match evalW P Gl N ops (vF rs F0 (R.getD i [])) (vM rs M (R.getD i [])) (vH rs (R.getD i [])) o with
     |some (k,u)=>(match cv (ae M) k with|false=>yY (rs++ [⟨[],[],u⟩]) λCh=>sR P sg Gl Γ N ops R F0 M r (i+1) Ch (gs++ [false]) (ws++ [true]) nx K|true=>False)
     |none=>False
def zn:Option Nat->Nat->Bool
  |some x,y=>Nat.beq x y
  |none,_=>false
def BN (ops:List Oper) (i:Nat):Option Nat:=match ops[i]? with|some o=>o.dst|none=>none
def BO (N:Nat) (ops:List Oper) (R:List (List Nat)) (M:Mem) (rs:List Rc) (ws:List Bool):Bool:=
  nodupB (rs.map λrc=>rc.u.map (·.1)).flatten&&
  ((List.range rs.length).all λi=>
    ((cr rs i).fs.all λp=>zn (BN ops i) p.1&&Nat.blt p.1 N)&&
    ((cr rs i).hs.all λh=>zn (BN ops i) h.slot&&(R.getD i []).any λg=>zn (BN ops g) h.d)&&
    ((cr rs i).u.all λp=>(cv (ae M) p.1||(ws.getD i false&&!cv (ae M) p.1&&Ju (ae M p.1) p.2))&&Nat.beq p.2.rs (ae M p.1).rs&&Nat.beq p.2.ds (ae M p.1).ds))
def eQ (l:List Oper) (F:Fr):Fr:=(l.filterMap (·.dst)).map (λt=>(t,SV.aF))++F
def Eu (P:Program) (sg:Bool) (Gl:Nat->SV) (Γ:Table) (N:Nat) (ops:List Oper) (K:Fr->Mem->Nat->Prop) (F:Fr) (M:Mem) (nx:Nat):Prop:=
  vZ (ff ops []) λR=>
  gf (HB ops 0 R 0) λm=>
  match vY 0 ops,nodupB ((ops.take m).map λo=>o.dst.toList).flatten,Nat.ble m ops.length,P.follows .mixedOrders with
  |true,true,true,true=>
   let MJ:=qG ((ops.take m).filterMap (yu Gl (mC P sg Gl Γ N M (ops.take m) F nx))) M
   sR P sg Gl Γ N ops R (eQ (ops.take m) F) MJ (ops.take m) 0 [] [] [] nx λrs gs ws dH=>
    match BO N ops R MJ rs ws&&aeB R m ops.length gs&&Et ops R gs with
    |true=>wD (vF rs (eQ (ops.take m) F) (List.range m)) (vM rs MJ (List.range m)) dH (vH rs (List.range m)) λF M nx H=>nj P sg Gl Γ N ops K (ops.drop m) F M nx H
    |false=>False
  |_,_,_,_=>False
def TK (R:List (List Nat)) (m n:Nat):Bool:=(List.range n).all λi=>Nat.ble i m||(List.range i).all λj=>cM (R.getD i []) j
def AO (P:Program) (Gl:Nat->SV) (ops:List Oper) (R:List (List Nat)) (F0:Fr) (M:Mem) (rs:List Rc) (gs:List Bool) (m:Nat):List Nat->Option (Prop×List Nat)
  | []=>some (True,[])
  |j::r=>
   match cM (R.getD m []) j||gs.getD j false,AO P Gl ops R F0 M rs gs m r with
   |true,x=>x
   |false,some (q,l)=>(match ops[j]? with|some o=>(match uk P Gl (vF rs F0 (R.getD j [])) (vM rs M (R.getD j [])) o with|some (p,ko)=>some (p/\q,ko.toList++l)|none=>none)|none=>none)
   |false,none=>none
def UJ (M:Mem) (rs:List Rc) (KQ:List Nat):Bool:=KQ.all λk=>!cv (ae M) k&&rs.all λrc=>!cM (rc.u.map (·.1)) k
def Fz (ops:List Oper) (R:List (List Nat)) (m:Nat):Bool:=
  match ops[m]? with
  |some oB=>Region.noSelect ops.toArray&&(List.range m).all λj=>cM (R.getD m []) j||(match ops[j]? with|some o=>o.apart ops.toArray oB|none=>true)
  |none=>false
def HC (P:Program) (sg:Bool) (Gl:Nat->SV) (Γ:Table) (N:Nat) (ops:List Oper) (m:Nat) (K:Fr->Mem->Nat->Prop) (F:Fr) (M:Mem) (nx:Nat):Prop:=
  vZ (ff ops []) λR=>
  match vY 0 ops,nodupB ((ops.take m).map λo=>o.dst.toList).flatten,Nat.ble m ops.length,P.follows .mixedOrders with
  |true,true,true,true=>
   let MJ:=qG ((ops.take m).filterMap (yu Gl (mC P sg Gl Γ N M (ops.take m) F nx))) M
   sR P sg Gl Γ N ops R (eQ (ops.take m) F) MJ (ops.take m) 0 [] [] [] nx λrs gs ws dH=>
    match BO N ops R MJ rs ws&&TK R m ops.length&&Et ops R gs&&Fz ops R m,AO P Gl ops R (eQ (ops.take m) F) MJ rs gs m (List.range m),ops[m]? with
    |true,some (p,KQ),some oB=>
     (match UJ MJ rs KQ,Ev P Gl (vF rs (eQ (ops.take m) F) (R.getD m [])) (vM rs MJ (R.getD m [])) (dH+100) oB with
      |true,some (pr,κ)=>(match κ.all λk=>!cM KQ k with|true=>p/\pr/\wD (vF rs (eQ (ops.take m) F) (List.range m)) (vM rs MJ (List.range m)) dH (vH rs (List.range m)) λF M nx H=>nj P sg Gl Γ N ops K (ops.drop m) F M nx H|false=>False)
      |_,_=>False)
    |_,_,_=>False
  |_,_,_,_=>False
def agc (R:List (List Nat)) (rs:List Rc) (ws:List Bool) (m:Nat):Bool:=(List.range m).all λj=>cM (R.getD m []) j||((match (cr rs j).u with| []=>true|_=>false)&&!(ws.getD j false))
def HD (P:Program) (sg:Bool) (Gl:Nat->SV) (Γ:Table) (N:Nat) (ops:List Oper) (m:Nat) (K:Fr->Mem->Nat->Prop) (F:Fr) (M:Mem) (nx:Nat):Prop:=
  vZ (ff ops []) λR=>
  match vY 0 ops,nodupB ((ops.take m).map λo=>o.dst.toList).flatten,Nat.ble m ops.length,P.follows .mixedOrders with
  |true,true,true,true=>
   sR P sg Gl Γ N ops R (eQ (ops.take m) F) M (ops.take m) 0 [] [] [] nx λrs gs ws dH=>
    match BO N ops R M rs ws&&TK R m ops.length&&Et ops R gs&&Fz ops R m&&agc R rs ws m,AO P Gl ops R (eQ (ops.take m) F) M rs gs m (List.range m),ops[m]? with
    |true,some (p,KQ),some oB=>
     (match UJ M rs KQ,FA P Gl Γ (vF rs (eQ (ops.take m) F) (R.getD m [])) (vM rs M (R.getD m [])) dH oB with
      |true,some (pr,sB,uB)=>
       (match (uB.map (·.1)).all (λk=>!cM KQ k),uA (vH rs (List.range m)) oB.dst with
        |true,true=>p/\pr/\wD (iz N (vF rs (eQ (ops.take m) F) (List.range m)) oB.dst sB) (uB++vM rs M (List.range m)) (dH+64) (vH rs (List.range m)) λF M nx H=>nj P sg Gl Γ N ops K (ops.drop (m+1)) F M nx H
        |_,_=>False)
      |_,_=>False)
    |_,_,_=>False
  |_,_,_,_=>False
theorem Df {P:Program} {Gl:Nat->SV} {ops:List Oper} {R:List (List Nat)} {F0:Fr} {M:Mem} {rs:List Rc} {gs:List Bool} {m:Nat}: ∀{l:List Nat} {p:Prop} {KQ:List Nat},AO P Gl ops R F0 M rs gs m l=some (p,KQ)->p-> ∀j∈l,∀o,ops[j]? =some o->j∉R.getD m []->gs.getD j false=false->
    ∃q ko,uk P Gl (vF rs F0 (R.getD j [])) (vM rs M (R.getD j [])) o=some (q,ko)/\q/\ ∀k,ko=some k->k∈KQ
  | [],p,KQ,he,hp,j,hj,o,ho,J,h2=>absurd hj (by simp)
  |i::r,p,KQ,he,hp,j,hj,o,ho,J,h2=>by
   unfold AO at he
   split at he
   · next hb=>
     rcases List.mem_cons.1 hj with rfl|hj
     · rw[Bool.or_eq_true]at hb
       rcases hb with hb|hb
       · exact absurd (jf.1 hb) J
       · rw[h2]at hb;cases hb
     · exact Df he hp j hj o ho J h2
   · next q l hb hr=>
     split at he
     · next o' jY=>
       split at he
       · next p' ko hk=>
         obtain⟨rfl,rfl⟩:=Prod.mk.inj (Option.some.inj he)
         rcases List.mem_cons.1 hj with rfl|hj
         · obtain rfl:=Option.some.inj (ho.symm.trans jY)
           exact⟨p',ko,hk,hp.1,λk e=>by rw[e];simp⟩
         · obtain⟨q1,ko1,g1,g2,g3⟩:=Df hr hp.2 j hj o ho J h2
           exact⟨q1,ko1,g1,g2,λk e=>List.mem_append.2 (.inr (g3 k e))⟩
       · cases he
     · cases he
   · cases he
section
variable {P:Program} {w:World} {ω:Ow} {Gl:Nat->SV} {Γ:Table} {N:Nat} {F:Fr} {M:Mem} {a:Act}
def TL (P:Program) (sg:Bool) (Gl:Nat->SV) (Γ:Table) (N:Nat) (M:Mem) (ops:List Oper) (R:List (List Nat)) (F0:Fr) (K:List Rc->List Bool->List Bool->Nat->Prop) (r:List Oper) (i:Nat) (rs:List Rc) (gs ws:List Bool):Prop:=
    ∃t tg tw dH,K (rs++t) (gs++tg) (ws++tw) dH/\t.length=r.length/\tg.length=r.length/\tw.length=r.length/\ ∀k o,r[k]? =some o->
     ((gs++tg).getD (i+k) false=true->(ws++tw).getD (i+k) false=false/\o.guard=none/\ ∃s,cr (rs++t) (i+k)=⟨jj N o.dst s,[],[]⟩/\(uT P sg (vF ((rs++t).take (i+k)) F0 (R.getD (i+k) [])) (ae (vM ((rs++t).take (i+k)) M (R.getD (i+k) []))) o.op).run (λs'=>s'=s))/\
     ((gs++tg).getD (i+k) false=false->(ws++tw).getD (i+k) false=false-> ∃nx p,sS P sg Gl Γ N ops (vF ((rs++t).take (i+k)) F0 (R.getD (i+k) [])) (vM ((rs++t).take (i+k)) M (R.getD (i+k) [])) (vH ((rs++t).take (i+k)) (R.getD (i+k) [])) nx (R.getD (i+k) []) o=some (p,cr (rs++t) (i+k))/\p)/\
     ((ws++tw).getD (i+k) false=true-> ∃q u,evalW P Gl N ops (vF ((rs++t).take (i+k)) F0 (R.getD (i+k) [])) (vM ((rs++t).take (i+k)) M (R.getD (i+k) [])) (vH ((rs++t).take (i+k)) (R.getD (i+k) [])) o=some (q,u)/\cr (rs++t) (i+k)=⟨[],[],u⟩/\cv (ae M) q=false)
theorem DL {sg:Bool} {ops:List Oper} {R:List (List Nat)} {F0:Fr} {K:List Rc->List Bool->List Bool->Nat->Prop}: ∀(r:List Oper) (i:Nat) (rs:List Rc) (gs ws:List Bool) (nx:Nat),rs.length=i->gs.length=i->ws.length=i->sR P sg Gl Γ N ops R F0 M r i rs gs ws nx K->
    TL P sg Gl Γ N M ops R F0 K r i rs gs ws
  | [],i,rs,gs,ws,nx,hl,hg,hw,h=>⟨[],[],[],nx,by rw[List.append_nil,List.append_nil,List.append_nil];exact h,rfl,rfl,rfl,λk o hk=>by simp at hk⟩
  |o::r,i,rs,gs,ws,nx,hl,hg,hw,h=>by
   have e1: ∀{rc:Rc} {t:List Rc},(rs++rc::t).take (i+0)=rs:=by intro rc t;rw[Nat.add_zero,<-hl,List.take_left]
   have e2: ∀{rc:Rc} {t:List Rc},cr (rs++rc::t) (i+0)=rc:=by intro rc t;simp[cr,List.getD_eq_getElem?_getD,<-hl]
   have e3: ∀{b:Bool} {t:List Bool},(gs++b::t).getD (i+0) false=b:=by intro b t;simp[List.getD_eq_getElem?_getD,<-hg]
   have e4: ∀{b:Bool} {t:List Bool},(ws++b::t).getD (i+0) false=b:=by intro b t;simp[List.getD_eq_getElem?_getD,<-hw]
   have go: ∀{rc:Rc} {bg bw:Bool} {kv:Nat},sR P sg Gl Γ N ops R F0 M r (i+1) (rs++ [rc]) (gs++ [bg]) (ws++ [bw]) kv K->
    ((bg=true->bw=false/\o.guard=none/\ ∃s,rc=⟨jj N o.dst s,[],[]⟩/\(uT P sg (vF rs F0 (R.getD (i+0) [])) (ae (vM rs M (R.getD (i+0) []))) o.op).run (λs'=>s'=s))/\
      (bg=false->bw=false-> ∃nx p,sS P sg Gl Γ N ops (vF rs F0 (R.getD (i+0) [])) (vM rs M (R.getD (i+0) [])) (vH rs (R.getD (i+0) [])) nx (R.getD (i+0) []) o=some (p,rc)/\p)/\
      (bw=true-> ∃q u,evalW P Gl N ops (vF rs F0 (R.getD (i+0) [])) (vM rs M (R.getD (i+0) [])) (vH rs (R.getD (i+0) [])) o=some (q,u)/\rc=⟨[],[],u⟩/\cv (ae M) q=false))->
    TL P sg Gl Γ N M ops R F0 K (o::r) i rs gs ws:=by
     intro rc bg bw kv h hz
     obtain⟨t,tg,tw,dH,J,h2,zm,agd,h3⟩:=DL r (i+1) (rs++ [rc]) (gs++ [bg]) (ws++ [bw]) kv (by simp[hl]) (by simp[hg]) (by simp[hw]) h
     have e:rs++rc::t=rs++ [rc]++t:=by simp
     have eg:gs++bg::tg=gs++ [bg]++tg:=by simp
     have ew:ws++bw::tw=ws++ [bw]++tw:=by simp
     refine⟨rc::t,bg::tg,bw::tw,dH,by rw[e,eg,ew];exact J,by simp[h2],by simp[zm],by simp[agd],λk o' hk=>?_⟩
     cases k with
     |zero=>
      simp only[List.getElem?_cons_zero,Option.some.injEq]at hk
      subst hk
      rw[e1,e2,e3,e4]
      exact hz
     |succ k=>
      have:=h3 k o' (by simpa using hk)
      rw[show i+(k+1)=i+1+k by omega,e,eg,ew]
      exact this
   unfold sR at h
   simp only[Pr,mq]at h
   split at h
   · next p rc he=>
     obtain⟨hp,h⟩:=h
     obtain⟨g1,s,g3,g4⟩:=X' he hp
     exact go h ⟨λ_=>⟨rfl,g1,s,g3,g4⟩,λh=>(by cases h),λh=>(by cases h)⟩
   · next cj=>
     split at h
     · next p rc he=>
       obtain⟨hp,h⟩:=h
       exact go h ⟨λh=>(by cases h),λ_ _=>⟨nx,p,he,hp⟩,λh=>(by cases h)⟩
     · split at h
       · next k u he=>
         split at h
         · next hf=>exact go h ⟨λh=>(by cases h),λ_ h=>(by cases h),λ_=>⟨k,u,he,rfl,hf⟩⟩
         · exact h.elim
       · exact h.elim
theorem Ya {ops:List Oper} {V:Fr} {M:Mem} {H:List Hd} {o:Oper} {k:Nat} {u:aX} (h:evalW P Gl N ops V M H o=some (k,u)):o.dst=none:=by
  unfold evalW at h
  split at h
  · next J _ _=>exact J
  · cases h
theorem AP: ∀(l:List Nat) {M:Mem},aR w ω M->aR w ω (qG l M)
  | [],_,hm=>hm
  |k::r,M,hm=>by
   unfold qG
   split
   · next l hh hb=>
     split
     · next hal=>
       refine AP r ?_
       refine hm.Re rfl hb (by simp[py]) (λL hL c T hc j hj x hx hd=>⟨by rw[DM];rfl,by rw[DM];trivial⟩) (λj=>GL hal j)
     · exact AP r hm
   · exact AP r hm
theorem NQ: ∀{l:List SV},l.all UI=true->l=py l.length
  | [],_=>rfl
  |s::r,h=>by
   simp only[List.all_cons,Bool.and_eq_true]at h
   have:=NQ h.2
   cases s<;>first|(cases h.1;done)|skip
   show _=SV.aF::py r.length
   rw[<-this]
theorem aaN {k:Nat} {e:bk} (h:Ju (ae M k) e=true):Vf M e k:=by
  unfold Ju at h
  split at h
  · next l l' J h2 h3 h4=>
    simp only[Bool.and_eq_true]at h
    obtain⟨⟨⟨g1,g2⟩,g3⟩,g4⟩:=h
    have g1:=Nat.eq_of_beq_eq_true g1
    have g2:=Nat.eq_of_beq_eq_true g2
    have g4:=Nat.eq_of_beq_eq_true g4
    refine⟨(ae M k).rs,(ae M k).ds,l.length,l',?_,g4,?_⟩
    · rw[<-NQ g3]
      generalize ae M k=e0 at*
      cases e0;simp_all
    · cases e;simp_all
  · cases h
theorem tY {rs:List Rc} {i j:Nat} (h:j<i):cr (rs.take i) j=cr rs j:=by
  unfold cr
  rw[List.getD_eq_getElem?_getD,List.getD_eq_getElem?_getD,List.getElem?_take_of_lt h]
theorem sD {α:Type} {f g:Nat->List α}: ∀{E:List Nat},(∀j∈E,f j=g j)->E.flatMap f=E.flatMap g
  | [],_=>rfl
  |j::E,h=>by rw[List.flatMap_cons,List.flatMap_cons,h j (by simp),sD λi hi=>h i (by simp[hi])]
theorem G5: ∀{l:List (List Nat)},l.flatten.Nodup-> ∀{i j k:Nat} {x y:List Nat},l[i]? =some x->l[j]? =some y->k∈x->k∈y->i=j
  | [],_,i,j,k,x,y,h,_,_,_=>by simp at h
  |z::l,hn,i,j,k,x,y,hi,hj,hx,hy=>by
   rw[List.flatten_cons,List.nodup_append]at hn
   have mem: ∀{q:Nat} {v:List Nat},l[q]? =some v->k∈v->k∈l.flatten:=λhq hv=>List.mem_flatten.2 ⟨_,List.mem_of_getElem? hq,hv⟩
   cases i with
   |zero=>
    cases j with
    |zero=>rfl
    |succ j=>
     simp at hi hj;subst hi
     exact absurd rfl (hn.2.2 k hx k (mem hj hy))
   |succ i=>
    cases j with
    |zero=>
     simp at hi hj;subst hj
     exact absurd rfl (hn.2.2 k hy k (mem hi hx))
    |succ j=>exact congrArg (· +1) (G5 hn.2.1 (i:=i) (j:=j) (by simpa using hi) (by simpa using hj) hx hy)
theorem Ih {x:Option Nat} {y:Nat} (h:zn x y=true):x=some y:=by
  cases x with
  |none=>cases h
  |some z=>rw[Nat.eq_of_beq_eq_true h]
theorem HE {k:Nat}: ∀{u:aX},k∈u.map (·.1)-> ∃p∈u,p.1=k/\ae u k=p.2
  | [],h=>by simp at h
  |p::r,h=>by
   obtain⟨p1,p2⟩:=p
   by_cases hk:p1=k
   · subst hk;exact⟨(p1,p2),List.mem_cons_self,rfl,dp⟩
   · simp only[List.map_cons,List.mem_cons]at h
     obtain⟨q,J,h2,h3⟩:=HE (h.resolve_left λe=>hk e.symm)
     exact⟨q,by simp[J],h2,by rw[cC hk];exact h3⟩
theorem Du: ∀(l:List Oper) (F:Fr) (t:Nat),look (eQ l F) t= .aF\/(look (eQ l F) t=look F t/\ ∀o∈l,o.dst≠some t)
  | [],F,t=> .inr ⟨rfl,λo ho=>by simp at ho⟩
  |o::l,F,t=>by
   cases hd:o.dst with
   |none=>
    have e:eQ (o::l) F=eQ l F:=by simp[eQ,hd]
    rw[e]
    rcases Du l F t with h|⟨J,h2⟩
    · exact .inl h
    · refine .inr ⟨J,λo' jY=>?_⟩
      rcases List.mem_cons.1 jY with rfl|jY
      · rw[hd];simp
      · exact h2 o' jY
   |some x=>
    have e:eQ (o::l) F=(x,.aF)::eQ l F:=by simp[eQ,hd]
    rw[e]
    by_cases hx:x=t
    · subst hx;exact .inl look_eq
    · rw[sH hx]
      rcases Du l F t with h|⟨J,h2⟩
      · exact .inl h
      · refine .inr ⟨J,λo' jY=>?_⟩
        rcases List.mem_cons.1 jY with rfl|jY
        · rw[hd];simpa using hx
        · exact h2 o' jY
theorem G6 {sg:Bool} {ops:Array Oper} {R:List (List Nat)} {m:Nat} {MJ:Mem} {rs:List Rc} {gs ws:List Bool} {dH:Nat} (hR:ff ops.toList []=R) (wQ:m<=ops.size) (c1:vY 0 ops.toList=true) (c3:nodupB ((ops.toList.take m).map λo=>o.dst.toList).flatten=true) (oQ:eH w ω N F a.tmps)
    (h2:rs.length=(ops.toList.take m).length) (xc:gs.length=(ops.toList.take m).length) (zo:ws.length=(ops.toList.take m).length)
    (h3: ∀k o,(ops.toList.take m)[k]? =some o->
      (gs.getD k false=true->ws.getD k false=false/\o.guard=none/\ ∃s,cr rs k=⟨jj N o.dst s,[],[]⟩/\(uT P sg (vF (rs.take k) (eQ (ops.toList.take m) F) (R.getD k [])) (ae (vM (rs.take k) MJ (R.getD k []))) o.op).run (λs'=>s'=s))/\
      (gs.getD k false=false->ws.getD k false=false-> ∃nx p,sS P sg Gl Γ N ops.toList (vF (rs.take k) (eQ (ops.toList.take m) F) (R.getD k [])) (vM (rs.take k) MJ (R.getD k [])) (vH (rs.take k) (R.getD k [])) nx (R.getD k []) o=some (p,cr rs k)/\p)/\
      (ws.getD k false=true-> ∃q u,evalW P Gl N ops.toList (vF (rs.take k) (eQ (ops.toList.take m) F) (R.getD k [])) (vM (rs.take k) MJ (R.getD k [])) (vH (rs.take k) (R.getD k [])) o=some (q,u)/\cr rs k=⟨[],[],u⟩/\cv (ae MJ) q=false))
    (c6:BO N ops.toList R MJ rs ws=true) (c7:Et ops.toList R gs=true):
    k_ P sg Gl Γ N ops (λi=>R.getD i []) m rs F (eQ (ops.toList.take m) F) MJ (λi=>gs.getD i false) (λi=>ws.getD i false)/\ ∀i j,j∈R.getD i []->j<i:=by
  have hlen:rs.length=m:=by rw[h2,List.length_take];simp;omega
  have IX:=(MB ops.toList []).2
  rw[hR]at IX
  simp only[List.length_nil,Nat.zero_add]at IX
  have jV: ∀{i o},ops[i]? =some o->ops.toList[i]? =some o:=λh=>by rw[Array.getElem?_toList];exact h
  have UK: ∀{i o},ops[i]? =some o->R.getD i []=qF (R.take i) o.after.toList []:=λh=>by
    rw[List.getD_eq_getElem?_getD,IX _ _ (jV h)];rfl
  have BP: ∀i o,ops[i]? =some o-> ∀e∈o.after,Region.binds .any e=true->e.on<i:=λi o ho e he hb=>by
    have:=Mk c1 i o (jV ho) e he hb
    omega
  have Jv: ∀i o,ops[i]? =some o-> ∀x∈R.getD i [],∃e∈o.after,Region.binds .any e=true/\(x=e.on\/x∈R.getD e.on []):=by
    intro i o ho x hx
    rw[UK ho,AF]at hx
    rcases hx with hx|⟨e,he,hb,hx⟩
    · simp at hx
    · refine⟨e,by simpa using he,hb,hx.imp (λh=>h) λhx=>?_⟩
      have av:=BP i o ho e (by simpa using he) hb
      rwa [List.getD_eq_getElem?_getD,List.getElem?_take_of_lt av,<-List.getD_eq_getElem?_getD]at hx
  have TM: ∀{i j},j∈R.getD i []-> ∃o,ops[i]? =some o:=by
    intro i j hj
    rcases Nat.lt_or_ge i ops.size with hi|hi
    · exact⟨_,Array.getElem?_eq_getElem hi⟩
    · exfalso
      have hRl:R.length<=ops.size:=by
        have: ∀(l:List Oper) (acc:List (List Nat)),(ff l acc).length=acc.length+l.length:=by
          intro l
          induction l with
          |nil=>intro acc;simp[ff]
          |cons o r ih=>intro acc;simp only[ff,ih];simp;omega
        rw[<-hR,this];simp
      rw[List.getD_eq_getElem?_getD,List.getElem?_eq_none (by omega)]at hj
      simp at hj
  have av: ∀i j,j∈R.getD i []->j<i:=by
    intro i
    induction i using Nat.strongRecOn with
    |ind i ih=>
     intro j hj
     obtain⟨o,ho⟩:=TM hj
     obtain⟨e,he,hb,hx⟩:=Jv i o ho j hj
     have:=BP i o ho e he hb
     rcases hx with rfl|hx
     · exact this
     · have:=ih e.on this j hx;omega
  have yZ: ∀{i o e},ops[i]? =some o->e∈o.after->Region.binds .any e=true->e.on∈R.getD i []/\ ∀x∈R.getD e.on [],x∈R.getD i []:=by
    intro i o e ho he hb
    have Jw:=BP i o ho e he hb
    rw[UK ho]
    refine⟨AF.2 (.inr ⟨e,by simpa using he,hb,.inl rfl⟩),λx hx=>AF.2 (.inr ⟨e,by simpa using he,hb,.inr ?_⟩)⟩
    rwa [List.getD_eq_getElem?_getD,List.getElem?_take_of_lt Jw,<-List.getD_eq_getElem?_getD]
  have dx: ∀i j,j∈R.getD i []-> ∀k∈R.getD j [],k∈R.getD i []:=by
    intro i
    induction i using Nat.strongRecOn with
    |ind i ih=>
     intro j hj k hk
     obtain⟨o,ho⟩:=TM hj
     obtain⟨e,he,hb,hx⟩:=Jv i o ho j hj
     rcases hx with rfl|hx
     · exact(yZ ho he hb).2 k hk
     · exact(yZ ho he hb).2 k (ih e.on (BP i o ho e he hb) j hx k hk)
  have aiD:gs.length=m:=by rw[xc,List.length_take];simp;omega
  simp only[BO,Bool.and_eq_true]at c6
  obtain⟨k1,k2⟩:=c6
  have k1:=xY k1
  have kk: ∀i,i<m->_:=λi hi=>List.all_eq_true.1 k2 i (List.mem_range.2 (by rw[hlen];exact hi))
  have short: ∀i,m<=i->cr rs i=⟨[],[],[]⟩:=λi hi=>by
    unfold cr
    rw[List.getD_eq_getElem?_getD,List.getElem?_eq_none (by omega)];rfl
  have zp: ∀{i k},k∈keys rs i->i<m:=λ{i k} hk=>by
    rcases Nat.lt_or_ge i m with h|h
    · exact h
    · unfold keys at hk;rw[short i h]at hk;simp at hk
  have IY: ∀i,BN ops.toList i=kQ ops i:=λi=>by
    unfold BN kQ
    rw[Array.getElem?_toList]
    cases ops[i]? <;>rfl
  have SS:k_ P sg Gl Γ N ops (λi=>R.getD i []) m rs F (eQ (ops.toList.take m) F) MJ (λi=>gs.getD i false) (λi=>ws.getD i false):=by
    refine⟨Jv,dx,av,BP,wQ,?_,?_,?_,?_,?_,?_,?_,?_,?_,?_,?_,?_,short,?_,?_⟩
    · intro i o hi ho jD qV
      obtain⟨kv,p,g1,g2⟩:=(h3 i o (by rw[List.getElem?_take_of_lt hi];exact jV ho)).2.1 jD qV
      refine⟨kv,p,?_,g2⟩
      have e1:vF (rs.take i) (eQ (ops.toList.take m) F) (R.getD i [])=vF rs (eQ (ops.toList.take m) F) (R.getD i []):=by
        unfold vF;rw[sD λj hj=>by rw[tY (av i j hj)]]
      have e2:vM (rs.take i) MJ (R.getD i [])=vM rs MJ (R.getD i []):=by
        unfold vM;rw[sD λj hj=>by rw[tY (av i j hj)]]
      have e3:vH (rs.take i) (R.getD i [])=vH rs (R.getD i []):=by
        unfold vH;rw[sD λj hj=>by rw[tY (av i j hj)]]
      rw[e1,e2,e3]at g1
      exact g1
    · intro i o hi ho jD qV
      obtain⟨q,u,g1,g2,g3⟩:=(h3 i o (by rw[List.getElem?_take_of_lt hi];exact jV ho)).2.2 qV
      have e1:vF (rs.take i) (eQ (ops.toList.take m) F) (R.getD i [])=vF rs (eQ (ops.toList.take m) F) (R.getD i []):=by
        unfold vF;rw[sD λj hj=>by rw[tY (av i j hj)]]
      have e2:vM (rs.take i) MJ (R.getD i [])=vM rs MJ (R.getD i []):=by
        unfold vM;rw[sD λj hj=>by rw[tY (av i j hj)]]
      have e3:vH (rs.take i) (R.getD i [])=vH rs (R.getD i []):=by
        unfold vH;rw[sD λj hj=>by rw[tY (av i j hj)]]
      rw[e1,e2,e3]at g1
      exact⟨Ya g1,by rw[g2],by rw[g2],q,by rw[g2];exact g1,g3⟩
    · intro i qV k hk
      obtain⟨p,hp,rfl⟩:=List.mem_map.1 hk
      have:=kk i (zp hk)
      simp only[Bool.and_eq_true]at this
      have:=List.all_eq_true.1 this.2 p hp
      simp only[Bool.and_eq_true,Bool.or_eq_true]at this
      rcases this.1.1 with h|h
      · exact h
      · have qV:ws.getD i false=false:=qV
        rw[qV]at h;cases h.1.1
    · intro i o hi ho jD
      obtain⟨_,g1,s,g3,g4⟩:=(h3 i o (by rw[List.getElem?_take_of_lt hi];exact jV ho)).1 jD
      have e1:vF (rs.take i) (eQ (ops.toList.take m) F) (R.getD i [])=vF rs (eQ (ops.toList.take m) F) (R.getD i []):=by
        unfold vF;rw[sD λj hj=>by rw[tY (av i j hj)]]
      have e2: ∀MJ,vM (rs.take i) MJ (R.getD i [])=vM rs MJ (R.getD i []):=by
        intro MJ
        unfold vM;rw[sD λj hj=>by rw[tY (av i j hj)]]
      rw[e1,e2]at g4
      exact⟨g1,s,g3,g4⟩
    · intro i oi hi jD ho j oj Vg ba xd cj
      have:=List.all_eq_true.1 c7 i (List.mem_range.2 (by omega))
      rw[jD,jV ho]at this
      simp only[Bool.not_true,Bool.false_or,Bool.and_eq_true]at this
      have bz:=(Array.getElem?_eq_some_iff.1 Vg).1
      have:=List.all_eq_true.1 this.2 j (List.mem_range.2 (by simpa using bz))
      rw[jV Vg,Bool.or_eq_true,Bool.or_eq_true]at this
      rcases this with(h|h)|h
      · exact absurd (Nat.eq_of_beq_eq_true h) ba
      · exact absurd (jf.1 h) xd
      · rw[Bool.or_eq_true]at h
        rcases h with h|h
        · rw[List.any_eq_true]at h
          obtain⟨e,he,hb⟩:=h
          rw[Bool.and_eq_true]at hb
          exact absurd (Nat.eq_of_beq_eq_true hb.2) (cj e (by simpa using he) hb.1)
        · simpa using h
    · intro i hi jD
      have:=List.all_eq_true.1 c7 i (List.mem_range.2 (by omega))
      have a_:i<ops.toList.length:=by simp;omega
      rw[jD,List.getElem?_eq_getElem a_]at this
      simp only[Bool.not_true,Bool.false_or,Bool.and_eq_true]at this
      simpa using this.1
    · intro i p hp
      have hi:i<m:=by
        rcases Nat.lt_or_ge i m with h|h
        · exact h
        · rw[short i h]at hp;simp at hp
      have:=kk i hi
      simp only[Bool.and_eq_true]at this
      have:=List.all_eq_true.1 this.1.1 p hp
      rw[Bool.and_eq_true]at this
      rw[<-IY]
      exact⟨Ih this.1,Nat.le_of_ble_eq_true this.2⟩
    · intro i x hx
      have hi:i<m:=by
        rcases Nat.lt_or_ge i m with h|h
        · exact h
        · rw[short i h]at hx;simp at hx
      have:=kk i hi
      simp only[Bool.and_eq_true]at this
      have:=List.all_eq_true.1 this.1.2 x hx
      rw[Bool.and_eq_true,List.any_eq_true]at this
      obtain⟨d1,g,hg,d2⟩:=this
      rw[<-IY]
      exact⟨Ih d1,g,hg,by rw[<-IY];exact Ih d2⟩
    · intro i j t hi hj e1 e2
      have get: ∀{q},q<m->kQ ops q=some t-> ∃x,((ops.toList.take m).map λo=>o.dst.toList)[q]? =some x/\t∈x:=by
        intro q hq hd
        unfold kQ at hd
        cases ho:ops[q]? with
        |none=>rw[ho]at hd;cases hd
        |some o=>
         rw[ho]at hd
         have hd:o.dst=some t:=hd
         exact⟨o.dst.toList,by rw[List.getElem?_map,List.getElem?_take_of_lt hq,jV ho];rfl,by rw[hd];simp⟩
      obtain⟨x,x1,x2⟩:=get hi e1
      obtain⟨y,y1,y2⟩:=get hj e2
      exact G5 (xY c3) x1 y1 x2 y2
    · intro i j k hi hj
      have get: ∀{q},q<m->(rs.map λrc=>rc.u.map (·.1))[q]? =some (keys rs q):=by
        intro q hq
        have:rs[q]? =some rs[q]:=List.getElem?_eq_getElem (by omega)
        rw[List.getElem?_map,this]
        simp[keys,cr,List.getD_eq_getElem?_getD,this]
      exact G5 k1 (get (zp hi)) (get (zp hj)) hi hj
    · intro i k hk
      obtain⟨p,hp,rfl⟩:=List.mem_map.1 hk
      have:=kk i (zp hk)
      simp only[Bool.and_eq_true]at this
      have:=List.all_eq_true.1 this.2 p hp
      simp only[Bool.and_eq_true,Bool.or_eq_true,Bool.not_eq_true']at this
      rcases this.1.1 with h|⟨⟨_,h⟩,h2⟩
      · exact .inl h
      · refine .inr ⟨h,?_⟩
        obtain⟨p',FB,hpe,J1⟩:=HE hk
        obtain⟨x,hx,hxe⟩:=List.mem_map.1 hk
        rw[J1]
        have:=kk i (zp hk)
        simp only[Bool.and_eq_true]at this
        have:=List.all_eq_true.1 this.2 p' FB
        simp only[Bool.and_eq_true,Bool.or_eq_true,Bool.not_eq_true']at this
        rw[<-hpe]at h⊢
        rcases this.1.1 with h'|⟨_,h'⟩
        · rw[h]at h';cases h'
        · exact aaN h'
    · intro i k hk
      obtain⟨p,hp,rfl,J1⟩:=HE hk
      have:=kk i (zp hk)
      simp only[Bool.and_eq_true]at this
      have:=List.all_eq_true.1 this.2 p hp
      simp only[Bool.and_eq_true]at this
      rw[J1]
      exact⟨Nat.eq_of_beq_eq_true this.1.2,Nat.eq_of_beq_eq_true this.2⟩
    · intro t
      rcases Du (ops.toList.take m) F t with e|⟨e1,e2⟩
      · exact .inl e
      · refine .inr ⟨e1,λi hi pK=>?_⟩
        unfold kQ at pK
        cases ho:ops[i]? with
        |none=>rw[ho]at pK;cases pK
        |some o=>
         rw[ho]at pK
         exact e2 o (List.mem_of_getElem? (i:=i) (by rw[List.getElem?_take_of_lt hi];exact jV ho)) pK
    · intro t ht
      rcases Du (ops.toList.take m) F t with e|⟨e1,_⟩
      · exact e
      · rw[e1];exact oQ.out t ht
  exact⟨SS,av⟩
theorem NR (hS:Sound P Gl Γ) {sg:Bool} {ops:Array Oper} {Q:Exit->Act->World->Prop} {K:Fr->Mem->Nat->Prop} {S:List Nat} {nx:Nat}
    (kx: ∀d c a v w,Q (.panic c) (Act.put a d v) w->Q (.panic c) a w) (hQ: ∀a' w',BQ P Gl N S a w ω K a' w'->Q .normal a' w') (hd: ∀o∈ops.toList,∀t,o.dst=some t->t∈S) (h:St P Gl N F M a w ω) (he:Eu P sg Gl Γ N ops.toList K F M nx):P.follows .mixedOrders=true/\wpAny P .any ops Q ops.size (Array.replicate ops.size false) a {w with drawn:=w.drawn+1}:=by
  unfold Eu at he
  simp only[AG,mq]at he
  split at he
  rotate_left
  · exact he.elim
  next c1 c3 c4 c5=>
  generalize hR:ff ops.toList []=R at*
  generalize hm:HB ops.toList 0 R 0=m at*
  have wQ:m<=ops.size:=by simpa using Nat.le_of_ble_eq_true c4
  have xe:aR w ω (qG ((ops.toList.take m).filterMap (yu Gl (mC P sg Gl Γ N M (ops.toList.take m) F nx))) M):=AP _ h.mem
  generalize qG ((ops.toList.take m).filterMap (yu Gl (mC P sg Gl Γ N M (ops.toList.take m) F nx))) M=MJ at*
  obtain⟨rs,gs,ws,dH,J,h2,xc,zo,h3⟩:=DL (ops.toList.take m) 0 [] [] [] nx rfl rfl rfl he
  simp only[List.nil_append,Nat.zero_add]at J h3
  split at J
  rotate_left
  · exact J.elim
  next c6=>
  rw[Bool.and_eq_true,Bool.and_eq_true]at c6
  obtain⟨⟨c6,c2⟩,c7⟩:=c6
  have jV: ∀{i o},ops[i]? =some o->ops.toList[i]? =some o:=λh=>by rw[Array.getElem?_toList];exact h
  obtain⟨SS,av⟩:=G6 (Gl:=Gl) (Γ:=Γ) (sg:=sg) (dH:=dH) hR wQ c1 c3 h.frame h2 xc zo h3 c6 c7
  have hT: ∀i,m<=i->i<ops.size-> ∀j,j<i->j∈R.getD i []\/(j<m/\gs.getD j false=true):=by
    intro i FC a_ j hj
    have:=List.all_eq_true.1 c2 i (List.mem_range.2 (by simpa using a_))
    rw[Bool.or_eq_true]at this
    rcases this with h|h
    · have:i<m:=Nat.le_of_ble_eq_true h
      omega
    · have h:=List.all_eq_true.1 h j (List.mem_range.2 hj)
      rw[Bool.or_eq_true,Bool.and_eq_true]at h
      exact h.imp jf.1 λh=>⟨Nat.le_of_ble_eq_true h.1,h.2⟩
  refine⟨c5,?_⟩
  have jq:Cw w {w with drawn:=w.drawn+1}:=⟨rfl,rfl,rfl,Nat.le_refl _,λ_ _=>rfl⟩
  have hJ:St P Gl N F MJ a w ω:=⟨h.frame,h.fe,xe,h.defers⟩
  have h':=hJ.step (bp.more xe jq)
  have fo:=h'.mem
  refine acE (ω:=ω) (a0:=a) (bj:=ω) hS SS hT fo h'.frame h'.fe kx ?_ ops.size (Array.replicate ops.size false) a _ (by simp) ?_ ?_
  · intro a' w' ao I
    obtain⟨g1,g2,g3⟩:=I.all SS fo h'.frame (E:=List.range m) (λj hj=>List.mem_range.1 hj) (λj hj k hk=>List.mem_range.2 (by have:=av j k hk;have:=List.mem_range.1 hj;omega))
    have bM:=I.s_ SS fo (List.range m)
    have bC:St P Gl N (vF rs (eQ (ops.toList.take m) F) (List.range m)) (vM rs MJ (List.range m)) a' w' (db rs MJ ao (List.range m)):=⟨g2,λg=>Den.ext (o:=ω.bare) bM.bare (h'.fe g),g1,I.defers⟩
    obtain⟨F5,M5,Ci,Cj,J⟩:=xV J
    refine sG hS hQ (ops.toList.drop m) _ _ dH _ a' w' _ (λo ho=>hd o (List.mem_of_mem_drop ho)) (bC.congr Ci Cj) g3 ((jq.ext ω).trans bM) ⟨by rw[I.size,h.frame.size],λi hi=>?_⟩ J
    refine I.keep i λj hj jZ=>?_
    unfold kQ at jZ
    cases ho:ops[j]? with
    |none=>rw[ho]at jZ;cases jZ
    |some o=>
     rw[ho]at jZ
     exact hi (hd o (List.mem_of_getElem? (jV ho)) i jZ)
  · unfold mI
    exact Nat.le_trans (List.length_filter_le _ _) (by simp)
  · have no: ∀j,¬(Array.replicate ops.size false).getD j false=true:=λj=>by
      simp[Array.getD]
    exact⟨λj hj=>absurd hj (no j),λj hj=>absurd hj (no j),⟨rfl,rfl,rfl,Nat.le_refl _,λ_ _ _=>rfl⟩,λj k _ _ L hL=>(let⟨_,_,_,_,c,T,J,h2,_⟩:=fo.row k none L hL;⟨c,T,J,h2⟩),λ_ h=>h,fo.fg,λ_ _ h=>h,rfl,fo.dj,rfl,λ_ _ _=>rfl,λk p L hL=>fo.own _ ⟨k,p,L,hL,rfl⟩,fo.inj,h.defers,h.frame.size,λ_ _=>rfl,λj hj=>absurd hj (no j)⟩
theorem Yb (hS:Sound P Gl Γ) {sg:Bool} {ops:Array Oper} {Q:Exit->Act->World->Prop} {K:Fr->Mem->Nat->Prop} {S:List Nat} {nx:Nat}
    (kx: ∀d c a v w,Q (.panic c) (Act.put a d v) w->Q (.panic c) a w) (hQ: ∀a' w',BQ P Gl N S a w ω K a' w'->Q .normal a' w') (hd: ∀o∈ops.toList,∀t,o.dst=some t->t∈S) (h:St P Gl N F M a w ω) {m:Nat} (he:HC P sg Gl Γ N ops.toList m K F M nx):P.follows .mixedOrders=true/\wpAny P .any ops Q ops.size (Array.replicate ops.size false) a {w with drawn:=w.drawn+1}:=by
  unfold HC at he
  simp only[AG]at he
  split at he
  rotate_left
  · exact he.elim
  next c1 c3 c4 c5=>
  generalize hR:ff ops.toList []=R at*
  have wQ:m<=ops.size:=by simpa using Nat.le_of_ble_eq_true c4
  have xe:aR w ω (qG ((ops.toList.take m).filterMap (yu Gl (mC P sg Gl Γ N M (ops.toList.take m) F nx))) M):=AP _ h.mem
  generalize qG ((ops.toList.take m).filterMap (yu Gl (mC P sg Gl Γ N M (ops.toList.take m) F nx))) M=MJ at*
  obtain⟨rs,gs,ws,dH,J,h2,xc,zo,h3⟩:=DL (ops.toList.take m) 0 [] [] [] nx rfl rfl rfl he
  simp only[List.nil_append,Nat.zero_add]at J h3
  split at J
  rotate_left
  · exact J.elim
  next p KQ oB c6 cq ft=>
  split at J
  rotate_left
  · exact J.elim
  next pr κ ck cn=>
  split at J
  rotate_left
  · exact J.elim
  next Ma=>
  obtain⟨hp,J2,J⟩:=J
  simp only[Bool.and_eq_true]at c6
  obtain⟨⟨⟨c6,c2⟩,c7⟩,c8⟩:=c6
  have jV: ∀{i o},ops[i]? =some o->ops.toList[i]? =some o:=λh=>by rw[Array.getElem?_toList];exact h
  obtain⟨SS,av⟩:=G6 (Gl:=Gl) (Γ:=Γ) (sg:=sg) (dH:=dH) hR wQ c1 c3 h.frame h2 xc zo h3 c6 c7
  have hT: ∀i,m<i->i<ops.size-> ∀j,j<i->j∈R.getD i []:=by
    intro i FC a_ j hj
    have:=List.all_eq_true.1 c2 i (List.mem_range.2 (by simpa using a_))
    rw[Bool.or_eq_true]at this
    rcases this with h|h
    · have:i<=m:=Nat.le_of_ble_eq_true h
      omega
    · exact jf.1 (List.all_eq_true.1 h j (List.mem_range.2 hj))
  have Fb:ops[m]? =some oB:=by rw[<-Array.getElem?_toList];exact ft
  unfold Fz at c8
  rw[ft]at c8
  simp only[Bool.and_eq_true]at c8
  have QQ:FD P Gl N ops (λi=>R.getD i []) m rs (eQ (ops.toList.take m) F) MJ (λi=>gs.getD i false) KQ oB:=by
    refine⟨Fb,λj o hj ho hn hr=>Df cq hp j (List.mem_range.2 hj) o (jV ho) hn hr,⟨_,pr,κ,cn,J2,λk hk xf=>?_⟩,λk hk=>?_,by simpa using c8.1,λj o hj ho hn=>?_,λj hj=>av m j hj⟩
    · have:=List.all_eq_true.1 Ma k hk
      rw[jf.2 xf]at this
      cases this
    · have:=List.all_eq_true.1 ck k hk
      simp only[Bool.and_eq_true,Bool.not_eq_true']at this
      refine⟨this.1,λj dy=>?_⟩
      unfold keys at dy
      have xg:j<rs.length:=by
        rcases Nat.lt_or_ge j rs.length with h|h
        · exact h
        · unfold cr at dy
          rw[List.getD_eq_getElem?_getD,List.getElem?_eq_none h]at dy
          simp at dy
      have kW:cr rs j∈rs:=by
        unfold cr
        rw[List.getD_eq_getElem?_getD,List.getElem?_eq_getElem xg]
        exact List.getElem_mem xg
      have:=List.all_eq_true.1 this.2 (cr rs j) kW
      rw[jf.2 dy]at this
      cases this
    · have:=List.all_eq_true.1 c8.2 j (List.mem_range.2 hj)
      rw[Bool.or_eq_true]at this
      rcases this with h|h
      · exact absurd (jf.1 h) hn
      · rw[jV ho]at h
        simpa using h
  refine⟨c5,?_⟩
  have jq:Cw w {w with drawn:=w.drawn+1}:=⟨rfl,rfl,rfl,Nat.le_refl _,λ_ _=>rfl⟩
  have hJ:St P Gl N F MJ a w ω:=⟨h.frame,h.fe,xe,h.defers⟩
  have h':=hJ.step (bp.more xe jq)
  have fo:=h'.mem
  refine aaO (ω:=ω) (a0:=a) (bj:=ω) hS SS hT fo h'.frame h'.fe kx QQ ?_ ops.size (Array.replicate ops.size false) a _ (by simp) ?_ ?_
  · intro a' w' ao I
    obtain⟨g1,g2,g3⟩:=I.all SS fo h'.frame (E:=List.range m) (λj hj=>List.mem_range.1 hj) (λj hj k hk=>List.mem_range.2 (by have:=av j k hk;have:=List.mem_range.1 hj;omega))
    have bM:=I.s_ SS fo (List.range m)
    have bC:St P Gl N (vF rs (eQ (ops.toList.take m) F) (List.range m)) (vM rs MJ (List.range m)) a' w' (db rs MJ ao (List.range m)):=⟨g2,λg=>Den.ext (o:=ω.bare) bM.bare (h'.fe g),g1,I.defers⟩
    obtain⟨F5,M5,Ci,Cj,J⟩:=xV J
    refine sG hS hQ (ops.toList.drop m) _ _ dH _ a' w' _ (λo ho=>hd o (List.mem_of_mem_drop ho)) (bC.congr Ci Cj) g3 ((jq.ext ω).trans bM) ⟨by rw[I.size,h.frame.size],λi hi=>?_⟩ J
    refine I.keep i λj hj jZ=>?_
    unfold kQ at jZ
    cases ho:ops[j]? with
    |none=>rw[ho]at jZ;cases jZ
    |some o=>
     rw[ho]at jZ
     exact hi (hd o (List.mem_of_getElem? (jV ho)) i jZ)
  · unfold mI
    exact Nat.le_trans (List.length_filter_le _ _) (by simp)
  · have no: ∀j,¬(Array.replicate ops.size false).getD j false=true:=λj=>by
      simp[Array.getD]
    exact⟨λj hj=>absurd hj (no j),λj hj=>absurd hj (no j),⟨rfl,rfl,rfl,Nat.le_refl _,λ_ _ _=>rfl⟩,λj k _ _ L hL=>(let⟨_,_,_,_,c,T,J,h2,_⟩:=fo.row k none L hL;⟨c,T,J,h2⟩),λ_ h=>h,fo.fg,λ_ _ h=>h,rfl,fo.dj,rfl,λ_ _ _=>rfl,λk p L hL=>fo.own _ ⟨k,p,L,hL,rfl⟩,fo.inj,h.defers,h.frame.size,λ_ _=>rfl,λj hj=>absurd hj (no j)⟩
theorem aaP {u:aX} {X Y:Mem} (h: ∀k,ae X k=ae Y k) (k:Nat):ae (u++X) k=ae (u++Y) k:=by
  by_cases hk:k∈u.map (·.1)
  · rw[Ew hk,Ew hk]
  · rw[A1 hk,A1 hk];exact h k
theorem Yc (hS:Sound P Gl Γ) {sg:Bool} {ops:Array Oper} {Q:Exit->Act->World->Prop} {K:Fr->Mem->Nat->Prop} {S:List Nat} {nx:Nat}
    (kx: ∀d c a v w,Q (.panic c) (Act.put a d v) w->Q (.panic c) a w) (hQ: ∀a' w',BQ P Gl N S a w ω K a' w'->Q .normal a' w') (hd: ∀o∈ops.toList,∀t,o.dst=some t->t∈S) (h:St P Gl N F M a w ω) {m:Nat} (he:HD P sg Gl Γ N ops.toList m K F M nx):P.follows .mixedOrders=true/\wpAny P .any ops Q ops.size (Array.replicate ops.size false) a {w with drawn:=w.drawn+1}:=by
  unfold HD at he
  simp only[AG]at he
  split at he
  rotate_left
  · exact he.elim
  next c1 c3 c4 c5=>
  generalize hR:ff ops.toList []=R at*
  have wQ:m<=ops.size:=by simpa using Nat.le_of_ble_eq_true c4
  obtain⟨rs,gs,ws,dH,J,h2,xc,zo,h3⟩:=DL (ops.toList.take m) 0 [] [] [] nx rfl rfl rfl he
  simp only[List.nil_append,Nat.zero_add]at J h3
  split at J
  rotate_left
  · exact J.elim
  next p KQ oB c6 cq ft=>
  split at J
  rotate_left
  · exact J.elim
  next pr sB uB ck cn=>
  split at J
  rotate_left
  · exact J.elim
  next Ma cfr=>
  obtain⟨hp,J2,J⟩:=J
  simp only[Bool.and_eq_true]at c6
  obtain⟨⟨⟨⟨c6,c2⟩,c7⟩,c8⟩,c9⟩:=c6
  have jV: ∀{i o},ops[i]? =some o->ops.toList[i]? =some o:=λh=>by rw[Array.getElem?_toList];exact h
  obtain⟨SS,av⟩:=G6 (Gl:=Gl) (Γ:=Γ) (sg:=sg) (dH:=dH) hR wQ c1 c3 h.frame h2 xc zo h3 c6 c7
  have hT: ∀i,m<i->i<ops.size-> ∀j,j<i->j∈R.getD i []:=by
    intro i FC a_ j hj
    have:=List.all_eq_true.1 c2 i (List.mem_range.2 (by simpa using a_))
    rw[Bool.or_eq_true]at this
    rcases this with h|h
    · have:i<=m:=Nat.le_of_ble_eq_true h
      omega
    · exact jf.1 (List.all_eq_true.1 h j (List.mem_range.2 hj))
  have Fb:ops[m]? =some oB:=by rw[<-Array.getElem?_toList];exact ft
  unfold Fz at c8
  rw[ft]at c8
  simp only[Bool.and_eq_true]at c8
  have Jx: ∀j,j<m->j∉R.getD m []->keys rs j= []/\ws.getD j false=false:=by
    intro j hj hn
    have:=List.all_eq_true.1 c9 j (List.mem_range.2 hj)
    rw[Bool.or_eq_true]at this
    rcases this with h|h
    · exact absurd (jf.1 h) hn
    · rw[Bool.and_eq_true,Bool.not_eq_true']at h
      refine⟨?_,h.2⟩
      have h:=h.1
      unfold keys
      split at h
      · next e=>rw[e];rfl
      · cases h
  have QQ:Fc P Gl Γ N ops (λi=>R.getD i []) m rs (eQ (ops.toList.take m) F) M (λi=>gs.getD i false) (λi=>ws.getD i false) KQ oB sB uB:=by
    refine⟨Fb,λj o hj ho hn hr=>Df cq hp j (List.mem_range.2 hj) o (jV ho) hn hr,Jx,⟨dH,pr,cn,J2⟩,λk hk xf=>?_,λk hk=>?_,by simpa using c8.1,λj o hj ho hn=>?_,λj hj=>av m j hj⟩
    · have:=List.all_eq_true.1 Ma k hk
      rw[jf.2 xf]at this
      cases this
    · have:=List.all_eq_true.1 ck k hk
      simp only[Bool.and_eq_true,Bool.not_eq_true']at this
      refine⟨this.1,λj dy=>?_⟩
      unfold keys at dy
      have xg:j<rs.length:=by
        rcases Nat.lt_or_ge j rs.length with h|h
        · exact h
        · unfold cr at dy
          rw[List.getD_eq_getElem?_getD,List.getElem?_eq_none h]at dy
          simp at dy
      have kW:cr rs j∈rs:=by
        unfold cr
        rw[List.getD_eq_getElem?_getD,List.getElem?_eq_getElem xg]
        exact List.getElem_mem xg
      have:=List.all_eq_true.1 this.2 (cr rs j) kW
      rw[jf.2 dy]at this
      cases this
    · have:=List.all_eq_true.1 c8.2 j (List.mem_range.2 hj)
      rw[Bool.or_eq_true]at this
      rcases this with h|h
      · exact absurd (jf.1 h) hn
      · rw[jV ho]at h
        simpa using h
  refine⟨c5,?_⟩
  have jq:Cw w {w with drawn:=w.drawn+1}:=⟨rfl,rfl,rfl,Nat.le_refl _,λ_ _=>rfl⟩
  have h':=h.step (bp.more h.mem jq)
  have fo:=h'.mem
  have qW:m<ops.size:=(Array.getElem?_eq_some_iff.1 Fb).1
  refine aaQ (ω:=ω) (a0:=a) (bj:=ω) hS SS hT fo h'.frame h'.fe kx QQ ?_ ops.size (Array.replicate ops.size false) a _ (by simp) ?_ ?_
  · intro a' w' ao v w2 I EV
    obtain⟨_,jQ,hx,kW,nz⟩:=EV
    obtain⟨g1,g2,g3⟩:=I.all SS fo h'.frame (E:=List.range m) (λj hj=>List.mem_range.1 hj) (λj hj k hk=>List.mem_range.2 (by have:=av j k hk;have:=List.mem_range.1 hj;omega))
    have yZ:db rs M ao (List.range m)=db rs M ao (R.getD m []):=by
      show(⟨_,_,_,_⟩:Ow)=⟨_,_,_,_⟩
      congr 1
      funext k q
      have:jr rs M (List.range m) k↔jr rs M (R.getD m []) k:=by
        constructor
        · rintro ⟨e0,e1,e2⟩
          exact⟨e0,e1,λ⟨j,hj,dy⟩=>e2 ⟨j,List.mem_range.2 (av m j hj),dy⟩⟩
        · rintro ⟨e0,e1,e2⟩
          refine⟨e0,e1,?_⟩
          rintro ⟨j,hj,dy⟩
          have j4:=List.mem_range.1 hj
          by_cases hn:j∈R.getD m []
          · exact e2 ⟨j,hn,dy⟩
          · rw[(Jx j j4 hn).1]at dy;cases dy
      by_cases hh:jr rs M (List.range m) k
      · rw[if_pos hh,if_pos (this.1 hh)]
      · rw[if_neg hh,if_neg (λe=>hh (this.2 e))]
    have y_: ∀k,ae (vM rs M (List.range m)) k=ae (vM rs M (R.getD m [])) k:=by
      intro k
      by_cases hk: ∃j∈R.getD m [],k∈keys rs j
      · obtain⟨j,hj,dy⟩:=hk
        rw[xZ (λi j=>SS.key i j _) dy (List.mem_range.2 (av m j hj)),xZ (λi j=>SS.key i j _) dy hj]
      · rw[sE λj hj dy=>?_,sE λj hj dy=>hk ⟨j,hj,dy⟩]
        have j4:=List.mem_range.1 hj
        by_cases hn:j∈R.getD m []
        · exact hk ⟨j,hn,dy⟩
        · rw[(Jx j j4 hn).1]at dy;cases dy
    rw[yZ]at g1 g2 g3
    have bM:=I.s_ SS fo (R.getD m [])
    have bC:St P Gl N (vF rs (eQ (ops.toList.take m) F) (List.range m)) (uB++vM rs M (List.range m)) a' w2 jQ:=⟨g2.ext hx,λg=>Den.ext (o:=ω.bare) (bM.trans hx).bare (h'.fe g),kW.congr (aaP y_),I.defers⟩
    obtain⟨F5,M5,Ci,Cj,J⟩:=xV J
    have hoB:oB∈ops.toList:=List.mem_of_getElem? ft
    have cK:dN S a a':=by
      refine⟨by rw[I.size,h.frame.size],λi hi=>?_⟩
      refine I.keep i λj hj jZ=>?_
      unfold kQ at jZ
      cases ho:ops[j]? with
      |none=>rw[ho]at jZ;cases jZ
      |some o=>
       rw[ho]at jZ
       exact hi (hd o (List.mem_of_getElem? (jV ho)) i jZ)
    exact sG hS hQ (ops.toList.drop (m+1)) _ _ _ _ (a'.put oB.dst v) w2 jQ (λo ho=>hd o (List.mem_of_mem_drop ho)) ((bC.put nz).congr Ci Cj) ((g3.ext hx).put cfr v) (((jq.ext ω).trans bM).trans hx) (cK.put (hd oB hoB) v) J
  · unfold mI
    exact Nat.le_trans (List.length_filter_le _ _) (by simp)
  · have no: ∀j,¬(Array.replicate ops.size false).getD j false=true:=λj=>by
      simp[Array.getD]
    exact⟨λj hj=>absurd hj (no j),λj hj=>absurd hj (no j),⟨rfl,rfl,rfl,Nat.le_refl _,λ_ _ _=>rfl⟩,λj k _ _ L hL=>(let⟨_,_,_,_,c,T,J,h2,_⟩:=fo.row k none L hL;⟨c,T,J,h2⟩),λ_ h=>h,fo.fg,λ_ _ h=>h,rfl,fo.dj,rfl,λ_ _ _=>rfl,λk p L hL=>fo.own _ ⟨k,p,L,hL,rfl⟩,fo.inj,h.defers,h.frame.size,λ_ _=>rfl,λj hj=>absurd hj (no j)⟩
def aeC (P:Program) (Gl:Nat->SV) (Γ:Table) (ops:List Oper) (m:Nat) (F:Fr) (M:Mem) (nx:Nat):Option Nat:=
  (List.range m).find? λi=>match ops[i]? with|some o=>(match EW P Gl Γ F M nx o with|some x=>!kR (ae M) x.2.2|none=>false)|none=>false
def aeD (Gl:Nat->SV) (ops:List Oper) (m:Nat) (F:Fr) (M:Mem):Option Nat:=
  (List.range m).find? λi=>match ops[i]? with|some o=>(match o.op with| .store _ x _=>(match cX Gl F x with| .ptr k _ _ _ _=>(match (ae M k).b with| .row _ _ _=>true|_=>false)|_=>false)|_=>false)|none=>false
def ye (ops:List Oper):Nat->List (List Nat)->Nat->Nat
  |_,[],m=>m
  |i,p::r,m=>ye ops (i+1) r (match Bq ops i||Nat.beq p.length i||(List.range i).all λj=>cM p j||Bq ops j with|true=>m|false=>i+1)
def Rf (ops:List Oper) (m:Nat):Nat->List (List Nat)->List Nat->List Nat
  |_,[],acc=>acc
  |i,p::r,acc=>Rf ops m (i+1) r (match !Nat.blt i m&&Bq ops i&&!((List.range i).all λj=>cM p j||Bq ops j)&&p.all (λj=>Nat.blt j m||cM acc j)with|true=>acc++ [i]|false=>acc)
def isApp:Op->Bool
  | .call {callee:= .builtin .append,args:=_,argTypes:=_}=>true
  |_=>false
def aaR:Op->Option Nat
  | .call {callee:= .builtin .append,args:=⟨[.tmp t,_]⟩,argTypes:=_}=>some t
  |_=>none
def acF:SV->Bool
  | .aO _ _ _ _ _=>true
  |_=>false
def age:Op->Bool
  | .load _ _=>true
  |_=>false
def aeE (V:Fr) (ops:List Oper) (o:Oper):Bool:=
  match aaR o.op with
  |some t=>
   (match ops.any λp=>isApp p.op&&zn p.dst t with
    |true=>true
    |false=>match ops.any λp=>age p.op&&zn p.dst t with
     |true=>acF (look V t)
     |false=>false)
  |none=>false
def aeF (V:Fr) (ops:List Oper) (m:Nat):Option Nat:=(List.range m).find? λi=>match ops[i]? with|some o=>aeE V ops o|none=>false
def lO (R:List (List Nat)) (n i:Nat):List Nat×List Nat:=((List.range n).filter λk=>!Nat.beq k i&&!cM (R.getD k []) i,(List.range n).filter λk=>cM (R.getD k []) i)
def Hy (P:Program) (sg:Bool) (Gl:Nat->SV) (Γ:Table) (N:Nat) (ops:List Oper) (K:Fr->Mem->Nat->Prop) (F:Fr) (M:Mem) (nx:Nat):Prop:=
  vZ (ff ops []) λR=>
  gf (ye ops 0 R 0) λm=>
  match aeF (mC P sg Gl Γ N M (ops.take m) F nx) ops m with
  |some i=>
   wF ((lO R ops.length i).1++ [i]++(lO R ops.length i).2) λord=>
   match uC ord ops.length with
   |true=>gf (lO R ops.length i).1.length λmB=>zq (kS ord ops) λBR=>HC P sg Gl Γ N BR mB K F M nx
   |false=>False
  |none=>
  match (match aeC P Gl Γ ops m (mC P sg Gl Γ N M (ops.take m) F nx) M nx with|some i=>some i|none=>aeD Gl ops m (mC P sg Gl Γ N M (ops.take m) F nx) M)with
  |some i=>
   wF ((lO R ops.length i).1++ [i]++(lO R ops.length i).2) λord=>
   match uC ord ops.length with
   |true=>gf (lO R ops.length i).1.length λmB=>zq (kS ord ops) λBR=>HD P sg Gl Γ N BR mB K F M nx
   |false=>False
  |none=>
  match Rf ops m 0 R []with
  | []=>Eu P sg Gl Γ N ops K F M nx
  |i::r=>
   wF (List.range m++(i::r)++((List.range ops.length).filter λk=>!Nat.blt k m&&!cM (i::r) k)) λord=>
   match uC ord ops.length with
   |true=>zq (kS ord ops) λBR=>Eu P sg Gl Γ N BR K F M nx
   |false=>False
theorem aaL (hS:Sound P Gl Γ) {sg:Bool} {id:Nat} {ops:Array Oper} {Q:Exit->Act->World->Prop} {K:Fr->Mem->Nat->Prop} {S:List Nat} {nx:Nat}
    (kx: ∀d c a v w,Q (.panic c) (Act.put a d v) w->Q (.panic c) a w) (hQ: ∀a' w',BQ P Gl N S a w ω K a' w'->Q .normal a' w') (hd: ∀o∈ops.toList,∀t,o.dst=some t->t∈S) (h:St P Gl N F M a w ω) (he:Hy P sg Gl Γ N ops.toList K F M nx):(Code.region id ops true).wp P Q a w:=by
  unfold Hy at he
  simp only[AG,mq,G7,Rg]at he
  split at he
  · next iB _=>
    split at he
    · next hp=>
      have hp:uC ((lO (ff ops.toList []) ops.toList.length iB).1++ [iB]++(lO (ff ops.toList []) ops.toList.length iB).2) ops.size=true:=by simpa using hp
      revert he hp
      generalize (lO (ff ops.toList []) ops.toList.length iB).1.length=mB
      generalize ((lO (ff ops.toList []) ops.toList.length iB).1++ [iB]++(lO (ff ops.toList []) ops.toList.length iB).2)=ord
      intro he hp
      have qH:=G8 hp
      obtain⟨J,h2⟩:=Yb (ops:=(kS ord ops.toList).toArray) (m:=mB) hS kx hQ (λo ho t ht=>by
        obtain⟨o0,Ck,e⟩:=G9 (by simpa using ho)
        exact hd o0 Ck t (e▸ht)) h (by simpa using he)
      rw[x_ qH]at h2
      exact wp_region_any J (Dk qH ops.size (J3 qH) h2)
    · exact he.elim
  split at he
  · next iB _=>
    split at he
    · next hp=>
      have hp:uC ((lO (ff ops.toList []) ops.toList.length iB).1++ [iB]++(lO (ff ops.toList []) ops.toList.length iB).2) ops.size=true:=by simpa using hp
      revert he hp
      generalize (lO (ff ops.toList []) ops.toList.length iB).1.length=mB
      generalize ((lO (ff ops.toList []) ops.toList.length iB).1++ [iB]++(lO (ff ops.toList []) ops.toList.length iB).2)=ord
      intro he hp
      have qH:=G8 hp
      obtain⟨J,h2⟩:=Yc (ops:=(kS ord ops.toList).toArray) (m:=mB) hS kx hQ (λo ho t ht=>by
        obtain⟨o0,Ck,e⟩:=G9 (by simpa using ho)
        exact hd o0 Ck t (e▸ht)) h (by simpa using he)
      rw[x_ qH]at h2
      exact wp_region_any J (Dk qH ops.size (J3 qH) h2)
    · exact he.elim
  split at he
  · obtain⟨J,h2⟩:=NR hS kx hQ hd h he
    exact wp_region_any J h2
  · next i r hmv=>
    split at he
    · next hp=>
      have hp:uC (List.range (ye ops.toList 0 (ff ops.toList []) 0)++(i::r)++((List.range ops.toList.length).filter λk=>!Nat.blt k (ye ops.toList 0 (ff ops.toList []) 0)&&!cM (i::r) k)) ops.size=true:=by simpa using hp
      revert he hp
      generalize (List.range (ye ops.toList 0 (ff ops.toList []) 0)++(i::r)++((List.range ops.toList.length).filter λk=>!Nat.blt k (ye ops.toList 0 (ff ops.toList []) 0)&&!cM (i::r) k))=ord
      intro he hp
      have qH:=G8 hp
      obtain⟨J,h2⟩:=NR (ops:=(kS ord ops.toList).toArray) hS kx hQ (λo ho t ht=>by
        obtain⟨o0,Ck,e⟩:=G9 (by simpa using ho)
        exact hd o0 Ck t (e▸ht)) h (by simpa using he)
      rw[x_ qH]at h2
      exact wp_region_any J (Dk qH ops.size (J3 qH) h2)
    · exact he.elim
end
end Go.Sy
