/-
  Sy: regions that draw their order: a call that writes what is lent to it, and may come ahead of some loads.
-/
import Derived.Test.YtbngaammbjaajaaGreatDoorYF
set_option linter.unusedVariables false
set_option linter.unusedSimpArgs false
set_option linter.unusedVariables false
set_option linter.unusedSimpArgs false
namespace Go.Sy
open Go.RowKit Classical
def xn (P:Program) (Gl:Nat->SV) (Γ:Table) (F:Fr) (M:Mem) (nx:Nat) (o:Oper):Option (Prop×SV×aC):=
  match o.guard,o.op with
  |none,.call {callee:= .value f,args:=args,argTypes:=_}=>wY Γ (bZ Gl F) (aa M) nx f args.toList
  |none,.call {callee:= .invoke r name,args:=args,argTypes:=_}=>vS P Γ (bZ Gl F) (aa M) nx r name args.toList
  |_,_=>none
def Bm (P:Program) (Gl:Nat->SV) (F:Fr) (M:Mem) (nx:Nat) (o:Oper):Option (Prop×SV×aC):=
  match o.guard,o.dst,o.op with
  |none,none,.store T x y=>
   match lG (aa M) (bZ Gl F y),P.info? T,bZ Gl F x with
   |some [v],some i,.ptr k st p ii j=>
    match Nat.beq 1 i.size,kV (aa M) v,bT (aa M) k st p,qH (aa M) nx k p ii j v with
    |true,true,true,some (pr,u)=>(match cb (u.map (·.1)) k with|true=>some (pr,.aq,u)|false=>none)
    |_,_,_,_=>none
   |_,_,_=>none
  |_,_,_=>none
def yG (P:Program) (Gl:Nat->SV) (Γ:Table) (F:Fr) (M:Mem) (nx:Nat) (o:Oper):Option (Prop×SV×aC):=
  match o.op with
  | .store _ _ _=>Bm P Gl F M nx o
  |_=>xn P Gl Γ F M nx o
def Ha:Op->Bool
  | .load _ _=>true
  | .nilCheck _=>true
  | .indexAddr _ _ _=>true
  |_=>false
section
variable {P:Program} {sg:Bool} {Gl:Nat->SV} {Γ:Table} {N:Nat} {F:Fr} {M:Mem} {a:Act} {w:World} {ω:Ow} {H:List Hd}
theorem NU (hS:Sound P Gl Γ) (h:St P Gl N F M a w ω) {nx:Nat} {o:Oper} {pr:Prop} {s:SV} {u:aC} (he:xn P Gl Γ F M nx o=some (pr,s,u)) (hp:pr):o.guard=none/\tq P w ω M a o s u:=by
  unfold xn at he
  split at he
  · next hg ho=>exact⟨hg,AD hS h.de h.cx ho he hp⟩
  · next hg ho=>exact⟨hg,zB hS h.de h.cx ho he hp⟩
  · cases he
def Lh (P:Program) (w:World) (ω:Ow) (M:Mem) (a:Act) (o:Oper) (s:SV) (u:aC):Prop:=
  ∀{next:Act->World->Prop} {Q:Exit->Act->World->Prop},(∀v w' ah,aT w ω M w' ah (u++M)->Den w' ah s v->JP ω (u.map (·.1)) w w'->next (a.put o.dst v) w')->o.wp P a w next Q
theorem MW (h:St P Gl N F M a w ω) {nx:Nat} {o:Oper} {pr:Prop} {s:SV} {u:aC} (he:Bm P Gl F M nx o=some (pr,s,u)) (hp:pr):o.guard=none/\Lh P w ω M a o s u:=by
  have hm:=h.mem
  unfold Bm at he
  split at he
  · next T x y hg hd ho=>
    refine⟨hg,?_⟩
    have hx:=h.cx.val x
    split at he
    · next v i k st p ii j gF hi hs=>
      rw[hs]at hx
      split at he
      · next La u' hlen gU aZ bc=>
        split at he
        · next bo=>
          simp only[Option.some.injEq,Prod.mk.injEq]at he
          obtain⟨rfl,rfl,rfl⟩:=he
          have hc:=sf hm gF (h.cx.val y)
          have hlen:=Nat.eq_of_beq_eq_true hlen
          obtain⟨x0,DE⟩: ∃x0,(a.eval y).cells.toList= [x0]:=by
            have:=hc.len
            match hl:(a.eval y).cells.toList,this with
            | [x0],_=>exact⟨x0,rfl⟩
          rw[DE]at hc
          have gU:([v]:List SV).all (kV (aa M))=true:=by simp[gU]
          have J:=vA hm gU hc
          have bu:(a.eval y).cells.size=i.size:=by rw[<-Array.length_toList,DE,<-hlen];rfl
          have cY:(sizeOf T).run P w= .ok i.size w:=by simp[sizeOf,run_typeInfo w hi,Result.andThen]
          obtain⟨e0,L,hL,fI,ex⟩:=eP hm aZ hx
          obtain⟨hj,dJ,s1,_⟩:=Fc hm bc hp hc.1 (J x0 (by simp)) hL fI
          obtain⟨_,_,_,_,c,T0,g1,g2,g3,g4⟩:=hm.row _ _ _ hL
          obtain⟨_,y1,_⟩:=g4 ii fI j hj
          have hr:=vp (P:=P) (x:=x0) g1 (Array.getElem?_eq_some_iff.1 y1).1 (J x0 (by simp))
          have run:(execOp a.eval o).run P w= .ok .skip (w.setCell ⟨L.b,L.o+ii*L.sz+j,none⟩ x0):=by
            simp[execOp,ho,ex,Instr.storeAt,Instr.sureAddr,storeVar,cY,bu,DE,storeCells,Addr.add,hr,Result.andThen]
          intro next Q hn
          unfold Oper.wp
          rw[run]
          exact hn undef _ dJ s1 trivial λb hb hk=>se w _ x0 (λe=>hk k (fv.1 bo) p L hL e.symm)
        · cases he
      · cases he
    · cases he
  · cases he
theorem Qz (hS:Sound P Gl Γ) (h:St P Gl N F M a w ω) {nx:Nat} {o:Oper} {pr:Prop} {s:SV} {u:aC} (he:yG P Gl Γ F M nx o=some (pr,s,u)) (hp:pr):o.guard=none/\Lh P w ω M a o s u:=by
  unfold yG at he
  split at he
  · exact MW h he hp
  · obtain⟨hg,id,vs,eI,JT⟩:=NU hS h he hp
    refine⟨hg,?_⟩
    intro next Q hn
    unfold Oper.wp
    rw[eI]
    unfold oQ at JT
    refine JT.mono ?_
    rintro e w' ⟨v,ah,rfl,h3,h4,_,tB⟩
    exact hn v w' ah h3 h4 tB
theorem LO {o:Oper} {p:Prop} {ko:Option Nat} (he:ny P Gl F M o=some (p,ko)):o.guard=none/\Ha o.op=true:=by
  unfold ny at he
  split at he
  · next hg ho=>exact⟨hg,by rw[ho];rfl⟩
  · next hg ho=>exact⟨hg,by rw[ho];rfl⟩
  · next hg ho=>exact⟨hg,by rw[ho];rfl⟩
  · cases he
theorem RT (hS:Sound P Gl Γ) (h:St P Gl N F M a w ω) (hH:fo w ω N a H) {ops:List Oper} {nx:Nat} {pr:List Nat} {o:Oper} {p:Prop} {rc:Rc} (hg:o.guard=none) (fU:Ha o.op=true)
    (he:mG P sg Gl Γ N ops F M H nx pr o=some (p,rc)) (hp:p): ∃s v,rc=⟨fC N o.dst s,[],[]⟩/\(execOp a.eval o).run P w= .ok (.value v) w/\Den w ω s v:=by
  have g_:guardOf N ops F H o= .yes:=by unfold guardOf;rw[hg]
  have UC:xp o.op=false:=by
    cases ho:o.op with
    |load T x=>rfl
    |nilCheck x=>rfl
    |indexAddr T x y=>rfl
    |_=>rw[ho]at fU;cases fU
  unfold mG at he
  rw[g_,UC]at he
  have key: ∃s u,rc=⟨fC N o.dst s,[],u⟩/\(jI P sg Gl Γ F M nx H [] o.op).run (λs' u'=>s'=s/\u'=u):=by
    cases gX:nE H o.dst with
    |false=>rw[gX]at he;cases he
    |true=>
     rw[gX]at he
     simp only at he
     split at he
     · next s hr=>
       simp only[Option.some.injEq,Prod.mk.injEq]at he
       exact⟨s,[],he.2.symm,by rw[hr];exact⟨rfl,rfl⟩⟩
     · next s hr=>
       simp only[Option.some.injEq,Prod.mk.injEq]at he
       exact⟨s,[],he.2.symm,by rw[hr];exactλ_=>⟨rfl,rfl⟩⟩
     · next s hr=>
       simp only[Option.some.injEq,Prod.mk.injEq]at he
       exact⟨s,[],he.2.symm,by rw[hr];exact⟨by rw[he.1];exact hp,rfl,rfl⟩⟩
     · next s u hr=>
       split at he
       · simp only[Option.some.injEq,Prod.mk.injEq]at he
         exact⟨s,u,he.2.symm,by rw[hr];exact⟨by rw[he.1];exact hp,rfl,rfl⟩⟩
       · cases he
     · cases he
     · cases he
  obtain⟨s,u,rfl,eI⟩:=key
  have hc:Cx P w ω (bZ Gl (ga [] F H)) M a:=⟨(kD h.frame (As:= []) (λp hp=>by cases hp) H hH).bZ h.de,h.mem⟩
  have fin: ∀{r:R},(∀{K':SV->Prop},r.run K'->dD P w ω a o K')->r.up.run (λs' u'=>s'=s/\u'=u)-> ∃Li v,(⟨fC N o.dst s,[],u⟩:Rc)=⟨fC N o.dst Li,[],[]⟩/\(execOp a.eval o).run P w= .ok (.value v) w/\Den w ω Li v:=by
    intro r J U
    have:r.run (λs'=>s'=s/\([]:aC)=u):=by cases r<;>exact U
    obtain⟨s',v,g1,g2,rfl,rfl⟩:=J this
    exact⟨s',v,rfl,g1,g2⟩
  cases ho:o.op with
  |load T x=>rw[ho]at eI;exact fin (λhk=>oR hc (by rw[ho];exact hk)) eI
  |nilCheck x=>rw[ho]at eI;exact fin (λhk=>oR hc (by rw[ho];exact hk)) eI
  |indexAddr T x y=>rw[ho]at eI;exact fin (λhk=>oR hc (by rw[ho];exact hk)) eI
  |_=>rw[ho]at fU;cases fU
end
section
variable {P:Program} {sg:Bool} {Gl:Nat->SV} {Γ:Table} {N:Nat} {ops:Array Oper} {PR:Nat->List Nat} {m:Nat} {rs:List Rc} {F F0:Fr} {M:Mem} {cC wr:Nat->Bool}
variable {a0 a:Act} {w0 w:World} {aN ω:Ow} {D:Nat->Prop}
structure xT (P:Program) (Gl:Nat->SV) (Γ:Table) (N:Nat) (ops:Array Oper) (PR:Nat->List Nat) (m:Nat) (rs:List Rc) (F0:Fr) (M:Mem) (cC wr:Nat->Bool) (KQ:List Nat) (oB:Oper) (sB:SV) (uB:aC):Prop where
  at_:ops[m]? =some oB
  DF: ∀j o,j<m->ops[j]? =some o->j∉PR m->cC j=false-> ∃p ko,ny P Gl (vF rs F0 (PR j)) (vM rs M (PR j)) o=some (p,ko)/\p/\ ∀k,ko=some k->k∈KQ
  emp: ∀j,j<m->j∉PR m->keys rs j= []/\wr j=false
  DG: ∃nx pr,yG P Gl Γ (vF rs F0 (PR m)) (vM rs M (PR m)) nx oB=some (pr,sB,uB)/\pr
  out: ∀k∈uB.map (·.1),k∉KQ
  key: ∀k∈KQ,bR (aa M) k=false/\ ∀j,k∉keys rs j
  dK:Region.noSelect ops=true
  ap: ∀j o,j<m->ops[j]? =some o->j∉PR m->o.apart ops oB=true
  low: ∀j∈PR m,j<m
theorem MX (hS:Sound P Gl Γ) (S:gY P sg Gl Γ N ops PR m rs F F0 M cC wr) (hm:ay w0 aN M) (hF:cW w0 aN N F a0.tmps) (hG: ∀g,Den w0 aN.bare (Gl g) (.pointer (some ⟨g,0,none⟩))) {KQ:List Nat} {oB:Oper} {sB:SV} {uB:aC} (B:xT P Gl Γ N ops PR m rs F0 M cC wr KQ oB sB uB)
    (I:Inv ops PR m rs M N a0 w0 aN D a w ω) {j:Nat} {o:Oper} (hj:j<m) (ho:ops[j]? =some o) (gn:j∉PR m) (dF: ¬D j) (eZ: ∀i∈PR j,D i):
    o.guard=none/\ ∃v,(∀w',SQ KQ aN w w'->(execOp a.eval o).run P w'= .ok (.value v) w')/\Inv ops PR m rs M N a0 w0 aN (λi=>D i\/i=j) (a.put o.dst v) w ω:=by
  obtain⟨g1,g2,g3⟩:=I.all S hm hF eZ (λi hi=>S.closed j i hi)
  have tv:=(B.emp j hj gn).1
  have inv: ∀{v:Value} {s:SV},bO rs j=⟨fC N o.dst s,[],[]⟩->Den w (cf rs M ω (PR j)) s v->Inv ops PR m rs M N a0 w0 aN (λi=>D i\/i=j) (a.put o.dst v) w ω:=by
    intro v s kl hd
    have h:=I.Ii S hm hj ho dF eZ (λk hk=>by rw[tv]at hk;cases hk) (v:=v) (w':=w) (cV:=cf rs M ω (PR j)) (by rw[kl];exact aT.refl g1) (by rw[kl];exact gD.refl _ _) (by rw[kl];exact⟨vo hd,λx hx=>by cases hx⟩)
    have e:(⟨(cf rs M ω (PR j)).A,ω.Z,λk p=>if k∈keys rs j then(cf rs M ω (PR j)).β k p else ω.β k p,ω.cur⟩:Ow)=ω:=by
      show(⟨ω.A,ω.Z,_,ω.cur⟩:Ow)=ω
      have:(λk p=>if k∈keys rs j then(cf rs M ω (PR j)).β k p else ω.β k p)=ω.β:=by
        funext k p
        rw[if_neg (by rw[tv];simp)]
      rw[this]
    rw[e]at h
    exact h
  cases hr:cC j with
  |true=>
   obtain⟨hg,s,kl,he⟩:=S.C' j o hj ho hr
   obtain⟨v,J,U⟩:=A6 g1 g2 he
   exact⟨hg,v,λw' _=>J w',inv kl U⟩
  |false=>
   obtain⟨p,ko,he,hp,hk⟩:=B.DF j o hj ho gn hr
   have bc:St P Gl N (vF rs F0 (PR j)) (vM rs M (PR j)) a w (cf rs M ω (PR j)):=⟨g2,λg=>Den.ext (o:=aN.bare) (I.mQ S hm (PR j)).bare (hG g),g1,I.defers⟩
   obtain⟨hg,v,J⟩:=FU bc he hp
   obtain⟨_,fU⟩:=LO he
   obtain⟨nx,p',UD,C5⟩:=S.ev j o hj ho hr (B.emp j hj gn).2
   obtain⟨s,v',kl,U,h3⟩:=RT hS bc g3 hg fU UD C5
   have h0:=J w (λ_ _ _ _=>rfl)
   rw[U]at h0
   obtain rfl:v'=v:=by cases h0;rfl
   refine⟨hg,v',λw' hs=>J w' λk uO L hL=>?_,inv kl h3⟩
   obtain⟨_,dS⟩:=nt hL
   have hf:=(B.key k (hk k uO)).1
   rw[I.kB k none (λ_ _ _=>hf)]at dS
   exact hs k (hk k uO) L dS
def BZ (KQ:List Nat) (PR:Nat->List Nat) (m:Nat) (rs:List Rc) (M:Mem) (aN:Ow) (sB:SV) (uB:aC) (w:World) (ω:Ow) (v:Value) (w':World):Prop:=
  SQ KQ aN w w'/\ ∃ah,Ext w (cf rs M ω (PR m)) w' ah/\ay w' ah (uB++vM rs M (PR m))/\Den w' ah sB v
theorem Ty (hS:Sound P Gl Γ) (S:gY P sg Gl Γ N ops PR m rs F F0 M cC wr) (hT: ∀i,m<i->i<ops.size-> ∀j,j<i->j∈PR i) (hm:ay w0 aN M) (hF:cW w0 aN N F a0.tmps) (hG: ∀g,Den w0 aN.bare (Gl g) (.pointer (some ⟨g,0,none⟩))) {Q:Exit->Act->World->Prop} (gB: ∀d c a v w,Q (.panic c) (Act.put a d v) w->Q (.panic c) a w)
    {KQ:List Nat} {oB:Oper} {sB:SV} {uB:aC} (B:xT P Gl Γ N ops PR m rs F0 M cC wr KQ oB sB uB)
    (lM: ∀a w ω v w',Inv ops PR m rs M N a0 w0 aN (λj=>j<m) a w ω->BZ KQ PR m rs M aN sB uB w ω v w'->wpList P ops Q (ops.toList.drop (m+1)) (a.put oB.dst v) w') (w:World) (ω:Ow) (v:Value) (w':World) (xm:BZ KQ PR m rs M aN sB uB w ω v w'):
    ∀(fuel:Nat) (listed:Array Bool) (a:Act),listed.size=ops.size->iN ops.size (listed.setIfInBounds m true)<=fuel->Inv ops PR m rs M N a0 w0 aN (λj=>listed.getD j false=true) a w ω->(∀j∈PR m,listed.getD j false=true)->
     wpAny P .any ops Q fuel (listed.setIfInBounds m true) (a.put oB.dst v) w':=by
  have lj:m<ops.size:=(Array.getElem?_eq_some_iff.1 B.at_).1
  have je:=Region.noSelect_spec B.dK
  have fin: ∀(fuel:Nat) (listed:Array Bool) (a:Act),listed.size=ops.size->iN ops.size (listed.setIfInBounds m true)<=fuel->Inv ops PR m rs M N a0 w0 aN (λj=>listed.getD j false=true) a w ω->
   (∀j,j<m->listed.getD j false=true)->wpAny P .any ops Q fuel (listed.setIfInBounds m true) (a.put oB.dst v) w':=by
    intro fuel listed a hs hu I fQ
    have hD:(λj=>listed.getD j false=true)=(λj=>j<m):=by
      funext j
      exact propext ⟨I.low j,fQ j⟩
    have I':=I
    rw[hD]at I'
    have uP:=lM a w ω v w' I' xm
    refine wD S (m+1) (λi J U j h3 h4=>hT i (by omega) U j h3) fuel (m+1) _ _ _ (by simpa using hs) (λj hj=>?_) (Nat.le_refl _) lj hu uP
    by_cases e:m=j
    · subst e
      have:(listed.setIfInBounds m true).getD m false=true:=by simp[Array.getD,hs,hj]
      rw[this];simp
    · rw[getD_set_ne false e]
      constructor
      · intro h;have:=I.low j h;omega
      · intro h;exact fQ j (by omega)
  intro fuel
  induction fuel with
  |zero=>
   intro listed a hs hu I iP
   refine fin 0 listed a hs hu I λj hj=>?_
   cases hx:listed.getD j false with
   |true=>rfl
   |false=>
    have J:(listed.setIfInBounds m true).getD j true=false:=by
      rw[getD_set_ne true (by omega),getD_eq (by omega) true false];exact hx
    have:=qu (show j<ops.size by omega) J
    omega
  |succ fuel ih=>
   intro listed a hs hu I iP
   by_cases fQ: ∀j,j<m->listed.getD j false=true
   · exact fin _ listed a hs hu I fQ
   have first: ∃j,j<m/\listed.getD j false=false/\j∈Region.ready .any ops listed:=by
     refine Classical.byContradiction λcd=>?_
     have: ∀n,∀j,j<n->j<m->listed.getD j false=true:=by
       intro n
       induction n with
       |zero=>intro j hj;omega
       |succ n mY=>
        intro j hj gn
        cases hx:listed.getD j false with
        |true=>rfl
        |false=>
         exfalso
         have aS:j<ops.size:=by omega
         refine cd ⟨j,gn,hx,mem_ready.2 ⟨by rw[getD_eq (by omega) true false];exact hx,ops[j],Array.getElem?_eq_getElem aS,λe he hb=>?_⟩⟩
         have hd:=S.pI j _ (Array.getElem?_eq_getElem aS) e he hb
         exact mY e.on (by omega) (by omega)
     exact fQ λj hj=>this (j+1) j (Nat.lt_succ_self j) hj
   have jS:listed.getD m false=false:=by
     cases hx:listed.getD m false with
     |false=>rfl
     |true=>exact absurd (I.low m hx) (Nat.lt_irrefl _)
   refine⟨λhr=>?_,λi hi=>?_⟩
   · obtain⟨j,hj,_,ll⟩:=first
     have:=ready_mono (i:=m) ll (by omega)
     rw[hr]at this
     simp at this
   · obtain⟨J,o,U,h3⟩:=mem_ready.1 hi
     have bo:=(Array.getElem?_eq_some_iff.1 U).1
     have CN:m≠i:=λe=>by
       subst e
       simp[Array.getD,hs,bo]at J
     have pS:listed.getD i false=false:=by
       rw[getD_set_ne true CN,getD_eq (by omega) true false]at J;exact J
     have t_: ∀x∈PR i,x=m\/listed.getD x false=true:=by
       intro x hx
       obtain⟨e,he,hb,cK⟩:=S.dep i o U x hx
       have fm:=h3 e he hb
       by_cases em:m=e.on
       · rcases cK with rfl|cK
         · exact .inl em.symm
         · exact .inr (iP x (em▸cK))
       · rw[getD_set_ne false em]at fm
         rcases cK with rfl|cK
         · exact .inr fm
         · exact .inr (I.dB _ fm x cK)
     have fp:i<m:=by
       rcases Nat.lt_or_ge i m with h|h
       · exact h
       · exfalso
         obtain⟨j,hj,mZ,_⟩:=first
         rcases t_ j (hT i (by omega) bo j (by omega))with h|h
         · omega
         · rw[h]at mZ;cases mZ
     have eZ: ∀x∈PR i,listed.getD x false=true:=λx hx=>(t_ x hx).resolve_left λe=>by have:=S.lt i x hx;omega
     have pC:i∉PR m:=λh=>by rw[iP i h]at pS;cases pS
     have dF: ¬listed.getD i false=true:=by rw[pS];simp
     obtain⟨hg,vi,hv,I'⟩:=MX hS S hm hF hG B I fp U pC dF eZ
     have pT:=B.ap i o fp U pC
     obtain⟨p1,p2,p3⟩:=Oper.apart_spec pT
     have ei:execOp (a.put oB.dst v).eval o=execOp a.eval o:=Iw je U pT v
     have iL:(λj=>(listed.setIfInBounds i true).getD j false=true)=(λj=>listed.getD j false=true\/j=i):=by
       funext j
       refine propext ⟨λh=>?_,λh=>?_⟩
       · by_cases e:i=j
         · exact .inr e.symm
         · rw[getD_set_ne false e]at h;exact .inl h
       · rcases h with h|rfl
         · exact getD_set_true h
         · simp[Array.getD,hs,bo]
     have tC:(listed.setIfInBounds m true).setIfInBounds i true=(listed.setIfInBounds i true).setIfInBounds m true:=Array.setIfInBounds_comm _ _ (by omega)
     unfold wpOp
     rw[U]
     simp only
     rw[if_pos (by simp[Region.wanted,hg])]
     left
     unfold Oper.wp
     rw[ei,hv w' xm.1]
     show wpAny P .any ops Q fuel ((listed.setIfInBounds m true).setIfInBounds i true) ((a.put oB.dst v).put o.dst vi) w'
     rw[tC,<-Act.put_comm a vi v p2]
     refine ih (listed.setIfInBounds i true) (a.put o.dst vi) (by simpa using hs) ?_ (by rw[iL];exact I') (λj hj=>getD_set_true (iP j hj))
     rw[<-tC]
     have:=oI (listed:=listed.setIfInBounds m true) bo (by simpa using hs) J
     omega
theorem O5 (hS:Sound P Gl Γ) (S:gY P sg Gl Γ N ops PR m rs F F0 M cC wr) (hT: ∀i,m<i->i<ops.size-> ∀j,j<i->j∈PR i) (hm:ay w0 aN M) (hF:cW w0 aN N F a0.tmps) (hG: ∀g,Den w0 aN.bare (Gl g) (.pointer (some ⟨g,0,none⟩))) {Q:Exit->Act->World->Prop} (gB: ∀d c a v w,Q (.panic c) (Act.put a d v) w->Q (.panic c) a w)
    {KQ:List Nat} {oB:Oper} {sB:SV} {uB:aC} (B:xT P Gl Γ N ops PR m rs F0 M cC wr KQ oB sB uB)
    (lM: ∀a w ω v w',Inv ops PR m rs M N a0 w0 aN (λj=>j<m) a w ω->BZ KQ PR m rs M aN sB uB w ω v w'->wpList P ops Q (ops.toList.drop (m+1)) (a.put oB.dst v) w'):
    ∀(fuel:Nat) (listed:Array Bool) (a:Act) (w:World) (ω:Ow),listed.size=ops.size->iN ops.size listed<=fuel->Inv ops PR m rs M N a0 w0 aN (λj=>listed.getD j false=true) a w ω->wpAny P .any ops Q fuel listed a w:=by
  have lj:m<ops.size:=(Array.getElem?_eq_some_iff.1 B.at_).1
  intro fuel
  induction fuel with
  |zero=>
   intro listed a w ω hs hu I
   exfalso
   have jS:listed.getD m true=false:=by
     cases hx:listed.getD m false with
     |false=>rw[getD_eq (by omega) true false];exact hx
     |true=>exact absurd (I.low m hx) (Nat.lt_irrefl _)
   have:=qu lj jS
   omega
  |succ fuel ih=>
   intro listed a w ω hs hu I
   have jS:listed.getD m false=false:=by
     cases hx:listed.getD m false with
     |false=>rfl
     |true=>exact absurd (I.low m hx) (Nat.lt_irrefl _)
   have j5: ∀i,i∈Region.ready .any ops listed-> ∀x∈PR i,listed.getD x false=true:=by
     intro i hi x hx
     obtain⟨J,o,U,h3⟩:=mem_ready.1 hi
     obtain⟨e,he,hb,cK⟩:=S.dep i o U x hx
     have fm:=h3 e he hb
     rcases cK with rfl|cK
     · exact fm
     · exact I.dB _ fm x cK
   refine⟨λhr=>?_,λi hi=>?_⟩
   · exfalso
     have: ∀n,∀j,j<n->j<ops.size->listed.getD j false=true:=by
       intro n
       induction n with
       |zero=>intro j hj;omega
       |succ n mY=>
        intro j hj aS
        cases hx:listed.getD j false with
        |true=>rfl
        |false=>
         exfalso
         have:j∈Region.ready .any ops listed:=mem_ready.2 ⟨by rw[getD_eq (by omega) true false];exact hx,ops[j],Array.getElem?_eq_getElem aS,λe he hb=>by
           have hd:=S.pI j _ (Array.getElem?_eq_getElem aS) e he hb
           exact mY e.on (by omega) (by omega)⟩
         rw[hr]at this
         simp at this
     rw[this (m+1) m (Nat.lt_succ_self m) lj]at jS
     cases jS
   · obtain⟨J,o,U,h3⟩:=mem_ready.1 hi
     have bo:=(Array.getElem?_eq_some_iff.1 U).1
     have dF: ¬listed.getD i false=true:=by
       rw[getD_eq (by omega) false true,J];simp
     have iL:(λj=>(listed.setIfInBounds i true).getD j false=true)=(λj=>listed.getD j false=true\/j=i):=by
       funext j
       refine propext ⟨λh=>?_,λh=>?_⟩
       · by_cases e:i=j
         · exact .inr e.symm
         · rw[getD_set_ne false e]at h;exact .inl h
       · rcases h with h|rfl
         · exact getD_set_true h
         · simp[Array.getD,hs,bo]
     have CZ:=oI bo hs J
     rcases Nat.lt_trichotomy i m with fp|fp|fp
     · refine I.step hS S hm hF hG fp U dF (j5 i hi) λa' w' ah I'=>ih _ a' w' ah (by simpa using hs) (by omega) ?_
       rw[iL];exact I'
     · subst fp
       obtain rfl:o=oB:=Option.some.inj (U.symm.trans B.at_)
       have iP:=j5 i hi
       obtain⟨g1,g2,g3⟩:=I.all S hm hF iP (λj hj=>S.closed i j hj)
       have bc:St P Gl N (vF rs F0 (PR i)) (vM rs M (PR i)) a w (cf rs M ω (PR i)):=⟨g2,λg=>Den.ext (o:=aN.bare) (I.mQ S hm (PR i)).bare (hG g),g1,I.defers⟩
       obtain⟨nx,pr,he,hp⟩:=B.DG
       obtain⟨hg,fU⟩:=Qz hS bc he hp
       unfold wpOp
       rw[U]
       simp only
       rw[if_pos (by simp[Region.wanted,hg])]
       left
       refine fU ?_
       intro v w' ah h3 h4 tB
       have pU:SQ KQ aN w w':=by
         intro k hk L hL
         obtain⟨hf,cd⟩:=B.key k hk
         have nY:(cf rs M ω (PR i)).β k none=some L:=by
           rw[sub_eq (λh=>by have:=h.1;rw[hf]at this;cases this),I.kB k none (λ_ _ _=>hf)];exact hL
         refine tB L.b (g1.low _ _ _ nY) λk' eD p L' dS e=>?_
         obtain⟨rfl,_⟩:=g1.inj _ _ _ _ _ _ dS nY e
         exact B.out _ eD hk
       exact Ty hS S hT hm hF hG gB B lM w ω v w' ⟨pU,ah,h3.ext,h3.mem,h4⟩ fuel listed a hs (by omega) I iP
     · exfalso
       have:=j5 i hi m (hT i fp bo m fp)
       rw[jS]at this
       cases this
end
end Go.Sy
set_option linter.unusedVariables false
set_option linter.unusedSimpArgs false
namespace Go.Sy
open Go.RowKit
/-! ### what is before an operation -/
def qD:List Nat->List Nat->List Nat
  | [],acc=>acc
  |x::r,acc=>match cb acc x with|true=>qD r acc|false=>qD r (x::acc)
theorem zo: ∀{l acc:List Nat} {x:Nat},x∈qD l acc↔x∈l\/x∈acc
  | [],acc,x=>by simp[qD]
  |y::r,acc,x=>by
   unfold qD
   split
   · next h=>
     rw[zo]
     have:=fv.1 h
     simp only[List.mem_cons]
     constructor
     · rintro (h|h)
       · exact .inl (.inr h)
       · exact .inr h
     · rintro ((rfl|h)|h)
       · exact .inr this
       · exact .inl h
       · exact .inr h
   · rw[zo]
     simp only[List.mem_cons]
     constructor
     · rintro (h|rfl|h)
       · exact .inl (.inr h)
       · exact .inl (.inl rfl)
       · exact .inr h
     · rintro ((rfl|h)|h)
       · exact .inr (.inl rfl)
       · exact .inl h
       · exact .inr (.inr h)
def kS (R:List (List Nat)):List Edge->List Nat->List Nat
  | [],acc=>acc
  |e::r,acc=>match Region.binds .any e with|true=>kS R r (qD (e.on::R.getD e.on []) acc)|false=>kS R r acc
theorem so {R:List (List Nat)}: ∀{es:List Edge} {acc:List Nat} {x:Nat},x∈kS R es acc↔x∈acc\/ ∃e∈es,Region.binds .any e=true/\(x=e.on\/x∈R.getD e.on [])
  | [],acc,x=>by simp[kS]
  |e::r,acc,x=>by
   unfold kS
   split
   · next hb=>
     rw[so,zo]
     simp only[List.mem_cons,exists_eq_or_imp]
     constructor
     · rintro ((h|h)|h)
       · exact .inr (.inl ⟨hb,h⟩)
       · exact .inl h
       · exact .inr (.inr h)
     · rintro (h|⟨_,h⟩|h)
       · exact .inl (.inr h)
       · exact .inl (.inl h)
       · exact .inr h
   · next hb=>
     rw[so]
     simp only[List.mem_cons,exists_eq_or_imp]
     constructor
     · rintro (h|h)
       · exact .inl h
       · exact .inr (.inr h)
     · rintro (h|⟨h,_⟩|h)
       · exact .inl h
       · rw[hb]at h;cases h
       · exact .inr h
def df:List Oper->List (List Nat)->List (List Nat)
  | [],acc=>acc
  |o::r,acc=>df r (acc++ [kS acc o.after.toList []])
theorem Ep: ∀(l:List Oper) (acc:List (List Nat)),(∃t,df l acc=acc++t)/\ ∀k o,l[k]? =some o->(df l acc)[acc.length+k]? =some (kS ((df l acc).take (acc.length+k)) o.after.toList [])
  | [],acc=>⟨⟨[],by simp[df]⟩,λk o h=>by simp at h⟩
  |o::r,acc=>by
   obtain⟨⟨t,ht⟩,h⟩:=Ep r (acc++ [kS acc o.after.toList []])
   have e:df (o::r) acc=df r (acc++ [kS acc o.after.toList []]):=rfl
   refine⟨⟨[kS acc o.after.toList []]++t,by rw[e,ht];simp⟩,λk o' hk=>?_⟩
   cases k with
   |zero=>
    simp only[List.getElem?_cons_zero,Option.some.injEq]at hk
    subst hk
    rw[e,ht]
    simp
   |succ k=>
    have:=h k o' (by simpa using hk)
    rw[e]
    simpa [Nat.add_assoc,Nat.add_comm 1 k]using this
def oN:Nat->List Oper->Bool
  |_,[]=>true
  |i,o::r=>(o.after.toList.all λe=>!Region.binds .any e||Nat.blt e.on i)&&oN (i+1) r
theorem D_: ∀{l:List Oper} {i:Nat},oN i l=true-> ∀k o,l[k]? =some o-> ∀e∈o.after,Region.binds .any e=true->e.on<i+k
  | [],_,_,k,o,h=>by simp at h
  |x::r,i,hb,k,o,h=>by
   simp only[oN,Bool.and_eq_true]at hb
   intro e he KV
   cases k with
   |zero=>
    simp only[List.getElem?_cons_zero,Option.some.injEq]at h
    subst h
    have:=List.all_eq_true.1 hb.1 e (by simpa using he)
    rw[KV]at this
    exact Nat.le_of_ble_eq_true this
   |succ k=>
    have:=D_ hb.2 k o (by simpa using h) e he KV
    omega
def wS (o:Oper):Bool:=
  match o.guard,o.op with
  |none,.extract _ _=>true
  |none,.binOp _ _ _ _ _=>true
  |none,.unOp _ _ _=>true
  |none,.convert _ _ _=>true
  |none,.move _=>true
  |none,.fieldAddr _ _ _=>true
  |none,.indexAddr _ _ _=>true
  |_,_=>false
def tj (ops:List Oper) (j:Nat):Bool:=match ops[j]? with|some o=>wS o|none=>false
def Aw (ops:List Oper):Nat->List (List Nat)->Nat->Nat
  |_,[],m=>m
  |i,p::r,m=>Aw ops (i+1) r (match Nat.beq p.length i||(List.range i).all λj=>cb p j||(tj ops j&&Nat.blt j m)with|true=>m|false=>i+1)
def RB (R:List (List Nat)) (m n:Nat) (gs:List Bool):Bool:=(List.range n).all λi=>Nat.blt i m||(List.range i).all λj=>cb (R.getD i []) j||(Nat.blt j m&&gs.getD j false)
def wT (ops:List Oper) (R:List (List Nat)) (gs:List Bool):Bool:=
  (List.range gs.length).all λi=>!(gs.getD i false)||
    (match ops[i]? with
     |some oi=>Region.noSelect ops.toArray&&(List.range ops.length).all λj=>Nat.beq j i||cb (R.getD i []) j||(match ops[j]? with|some oj=>(oj.after.toList.any λe=>Region.binds .any e&&Nat.beq e.on i)||oi.apart ops.toArray oj|none=>true)
     |none=>true)
def A4 (P:Program) (sg:Bool) (N:Nat) (V:Fr) (m:Nat->aP) (o:Oper):Option (Prop×Rc):=
  match wS o,nV P sg V m o.op with
  |true,.ok s=>some (True,⟨fC N o.dst s,[],[]⟩)
  |true,.iM _ s=>some (True,⟨fC N o.dst s,[],[]⟩)
  |true,.cM p s=>some (p,⟨fC N o.dst s,[],[]⟩)
  |_,_=>none
theorem MF {P:Program} {sg:Bool} {N:Nat} {V:Fr} {m:Nat->aP} {o:Oper} {p:Prop} {rc:Rc} (h:A4 P sg N V m o=some (p,rc)) (hp:p):o.guard=none/\ ∃s,rc=⟨fC N o.dst s,[],[]⟩/\(nV P sg V m o.op).run (λs'=>s'=s):=by
  have hg: ∀{b},wS o=b->b=true->o.guard=none:=by
    intro b h hb
    subst hb
    unfold wS at h
    split at h<;>first|assumption|cases h
  unfold A4 at h
  split at h
  · next s J U=>
    simp only[Option.some.injEq,Prod.mk.injEq]at h
    exact⟨hg J rfl,s,h.2.symm,by rw[U];exact rfl⟩
  · next s J U=>
    simp only[Option.some.injEq,Prod.mk.injEq]at h
    exact⟨hg J rfl,s,h.2.symm,by rw[U];exactλ_=>rfl⟩
  · next s J U=>
    simp only[Option.some.injEq,Prod.mk.injEq]at h
    exact⟨hg J rfl,s,h.2.symm,by rw[U];exact⟨by rw[h.1];exact hp,rfl⟩⟩
  · cases h
/-! ### all operations, one behind the other -/
def iK (P:Program) (sg:Bool) (Gl:Nat->SV) (Γ:Table) (N:Nat) (M:Mem):List Oper->Fr->Nat->Fr
  | [],F,_=>F
  |o::r,F,nx=>
   match jI P sg Gl Γ F M nx [] [] o.op with
   | .ok s=>iK P sg Gl Γ N M r (eY N F o.dst s) nx
   | .iM _ s=>iK P sg Gl Γ N M r (eY N F o.dst s) nx
   | .cM _ s=>iK P sg Gl Γ N M r (eY N F o.dst s) nx
   | .mem _ s _=>iK P sg Gl Γ N M r (eY N F o.dst s) nx
   | .any _ _=>iK P sg Gl Γ N M r (eY N F o.dst .aq) nx
   | .bad=>iK P sg Gl Γ N M r (eY N F o.dst .aq) nx
def qE (Gl:Nat->SV) (F:Fr) (o:Oper):Option Nat:=
  match o.op with
  | .store _ x _=>(match bZ Gl F x with| .ptr k _ none _ _=>some k|_=>none)
  |_=>none
def kT:List Nat->Mem->Mem
  | [],M=>M
  |k::r,M=>
   match (aa M k).hl,(aa M k).b with
   |none,.cells l=>(match l.all λs=>!bY s with|true=>kT r ((k,{aa M k with b:= .cells (j4 l.length)})::M)|false=>kT r M)
   |_,_=>kT r M
def Ko:SV->Bool
  | .aq=>true
  |_=>false
def CB (e f:aP):Bool:=
  match e.hl,e.b,f.hl,f.b with
  |none,.cells l,none,.cells l'=>Nat.beq e.rs f.rs&&Nat.beq e.ds f.ds&&l.all Ko&&Nat.beq l'.length l.length
  |_,_,_,_=>false
def mF (P:Program) (sg:Bool) (Gl:Nat->SV) (Γ:Table) (N:Nat) (ops:List Oper) (R:List (List Nat)) (F0:Fr) (M:Mem):List Oper->Nat->List Rc->List Bool->List Bool->Nat->(List Rc->List Bool->List Bool->Nat->Prop)->Prop
  | [],_,rs,gs,ws,nx,K=>K rs gs ws nx
  |o::r,i,rs,gs,ws,nx,K=>
   match A4 P sg N (vF rs F0 (R.getD i [])) (aa (vM rs M (R.getD i []))) o with
   |some (p,rc)=>p/\q_ (rs++ [rc]) λuk=>mF P sg Gl Γ N ops R F0 M r (i+1) uk (gs++ [true]) (ws++ [false]) nx K
   |none=>
    match mG P sg Gl Γ N ops (vF rs F0 (R.getD i [])) (vM rs M (R.getD i [])) (vH rs (R.getD i [])) nx (R.getD i []) o with
    |some (p,rc)=>p/\q_ (rs++ [rc]) λuk=>dI (nx+64) λcH=>mF P sg Gl Γ N ops R F0 M r (i+1) uk (gs++ [false]) (ws++ [false]) cH K
    |none=>
     match evalW P Gl N ops (vF rs F0 (R.getD i [])) (vM rs M (R.getD i [])) (vH rs (R.getD i [])) o with
     |some (k,u)=>(match bR (aa M) k with|false=>q_ (rs++ [⟨[],[],u⟩]) λuk=>mF P sg Gl Γ N ops R F0 M r (i+1) uk (gs++ [false]) (ws++ [true]) nx K|true=>False)
     |none=>False
def ru:Option Nat->Nat->Bool
  |some x,y=>Nat.beq x y
  |none,_=>false
def tJ (ops:List Oper) (i:Nat):Option Nat:=match ops[i]? with|some o=>o.dst|none=>none
def tK (N:Nat) (ops:List Oper) (R:List (List Nat)) (M:Mem) (rs:List Rc) (ws:List Bool):Bool:=
  nodupB (rs.map λrc=>rc.u.map (·.1)).flatten&&
  ((List.range rs.length).all λi=>
    ((bO rs i).fs.all λp=>ru (tJ ops i) p.1&&Nat.blt p.1 N)&&
    ((bO rs i).hs.all λh=>ru (tJ ops i) h.slot&&(R.getD i []).any λg=>ru (tJ ops g) h.d)&&
    ((bO rs i).u.all λp=>(bR (aa M) p.1||(ws.getD i false&&!bR (aa M) p.1&&CB (aa M p.1) p.2))&&Nat.beq p.2.rs (aa M p.1).rs&&Nat.beq p.2.ds (aa M p.1).ds))
def c_ (l:List Oper) (F:Fr):Fr:=(l.filterMap (·.dst)).map (λt=>(t,SV.aq))++F
def wU (P:Program) (sg:Bool) (Gl:Nat->SV) (Γ:Table) (N:Nat) (ops:List Oper) (K:Fr->Mem->Nat->Prop) (F:Fr) (M:Mem) (nx:Nat):Prop:=
  oO (df ops []) λR=>
  dI (Aw ops 0 R 0) λm=>
  match oN 0 ops,nodupB ((ops.take m).map λo=>o.dst.toList).flatten,Nat.ble m ops.length,P.follows .mixedOrders with
  |true,true,true,true=>
   let MJ:=kT ((ops.take m).filterMap (qE Gl (iK P sg Gl Γ N M (ops.take m) F nx))) M
   mF P sg Gl Γ N ops R (c_ (ops.take m) F) MJ (ops.take m) 0 [] [] [] nx λrs gs ws cH=>
    match tK N ops R MJ rs ws&&RB R m ops.length gs&&wT ops R gs with
    |true=>pb (vF rs (c_ (ops.take m) F) (List.range m)) (vM rs MJ (List.range m)) cH (vH rs (List.range m)) λF M nx H=>iZ P sg Gl Γ N ops K (ops.drop m) F M nx H
    |false=>False
  |_,_,_,_=>False
def JH (R:List (List Nat)) (m n:Nat):Bool:=(List.range n).all λi=>Nat.ble i m||(List.range i).all λj=>cb (R.getD i []) j
def sD (P:Program) (Gl:Nat->SV) (ops:List Oper) (R:List (List Nat)) (F0:Fr) (M:Mem) (rs:List Rc) (gs:List Bool) (m:Nat):List Nat->Option (Prop×List Nat)
  | []=>some (True,[])
  |j::r=>
   match cb (R.getD m []) j||gs.getD j false,sD P Gl ops R F0 M rs gs m r with
   |true,x=>x
   |false,some (q,l)=>(match ops[j]? with|some o=>(match ny P Gl (vF rs F0 (R.getD j [])) (vM rs M (R.getD j [])) o with|some (p,ko)=>some (p/\q,ko.toList++l)|none=>none)|none=>none)
   |false,none=>none
def Kp (M:Mem) (rs:List Rc) (KQ:List Nat):Bool:=KQ.all λk=>!bR (aa M) k&&rs.all λrc=>!cb (rc.u.map (·.1)) k
def yF (ops:List Oper) (R:List (List Nat)) (m:Nat):Bool:=
  match ops[m]? with
  |some oB=>Region.noSelect ops.toArray&&(List.range m).all λj=>cb (R.getD m []) j||(match ops[j]? with|some o=>o.apart ops.toArray oB|none=>true)
  |none=>false
def Ax (P:Program) (sg:Bool) (Gl:Nat->SV) (Γ:Table) (N:Nat) (ops:List Oper) (m:Nat) (K:Fr->Mem->Nat->Prop) (F:Fr) (M:Mem) (nx:Nat):Prop:=
  oO (df ops []) λR=>
  match oN 0 ops,nodupB ((ops.take m).map λo=>o.dst.toList).flatten,Nat.ble m ops.length,P.follows .mixedOrders with
  |true,true,true,true=>
   let MJ:=kT ((ops.take m).filterMap (qE Gl (iK P sg Gl Γ N M (ops.take m) F nx))) M
   mF P sg Gl Γ N ops R (c_ (ops.take m) F) MJ (ops.take m) 0 [] [] [] nx λrs gs ws cH=>
    match tK N ops R MJ rs ws&&JH R m ops.length&&wT ops R gs&&yF ops R m,sD P Gl ops R (c_ (ops.take m) F) MJ rs gs m (List.range m),ops[m]? with
    |true,some (p,KQ),some oB=>
     (match Kp MJ rs KQ,wV P Gl (vF rs (c_ (ops.take m) F) (R.getD m [])) (vM rs MJ (R.getD m [])) (cH+100) oB with
      |true,some (pr,κ)=>(match κ.all λk=>!cb KQ k with|true=>p/\pr/\pb (vF rs (c_ (ops.take m) F) (List.range m)) (vM rs MJ (List.range m)) cH (vH rs (List.range m)) λF M nx H=>iZ P sg Gl Γ N ops K (ops.drop m) F M nx H|false=>False)
      |_,_=>False)
    |_,_,_=>False
  |_,_,_,_=>False
def Ti (R:List (List Nat)) (rs:List Rc) (ws:List Bool) (m:Nat):Bool:=(List.range m).all λj=>cb (R.getD m []) j||((match (bO rs j).u with| []=>true|_=>false)&&!(ws.getD j false))
def Ay (P:Program) (sg:Bool) (Gl:Nat->SV) (Γ:Table) (N:Nat) (ops:List Oper) (m:Nat) (K:Fr->Mem->Nat->Prop) (F:Fr) (M:Mem) (nx:Nat):Prop:=
  oO (df ops []) λR=>
  match oN 0 ops,nodupB ((ops.take m).map λo=>o.dst.toList).flatten,Nat.ble m ops.length,P.follows .mixedOrders with
  |true,true,true,true=>
   mF P sg Gl Γ N ops R (c_ (ops.take m) F) M (ops.take m) 0 [] [] [] nx λrs gs ws cH=>
    match tK N ops R M rs ws&&JH R m ops.length&&wT ops R gs&&yF ops R m&&Ti R rs ws m,sD P Gl ops R (c_ (ops.take m) F) M rs gs m (List.range m),ops[m]? with
    |true,some (p,KQ),some oB=>
     (match Kp M rs KQ,yG P Gl Γ (vF rs (c_ (ops.take m) F) (R.getD m [])) (vM rs M (R.getD m [])) cH oB with
      |true,some (pr,sB,uB)=>
       (match (uB.map (·.1)).all (λk=>!cb KQ k),nE (vH rs (List.range m)) oB.dst with
        |true,true=>p/\pr/\pb (eY N (vF rs (c_ (ops.take m) F) (List.range m)) oB.dst sB) (uB++vM rs M (List.range m)) (cH+64) (vH rs (List.range m)) λF M nx H=>iZ P sg Gl Γ N ops K (ops.drop (m+1)) F M nx H
        |_,_=>False)
      |_,_=>False)
    |_,_,_=>False
  |_,_,_,_=>False
theorem vj {P:Program} {Gl:Nat->SV} {ops:List Oper} {R:List (List Nat)} {F0:Fr} {M:Mem} {rs:List Rc} {gs:List Bool} {m:Nat}: ∀{l:List Nat} {p:Prop} {KQ:List Nat},sD P Gl ops R F0 M rs gs m l=some (p,KQ)->p-> ∀j∈l,∀o,ops[j]? =some o->j∉R.getD m []->gs.getD j false=false->
    ∃q ko,ny P Gl (vF rs F0 (R.getD j [])) (vM rs M (R.getD j [])) o=some (q,ko)/\q/\ ∀k,ko=some k->k∈KQ
  | [],p,KQ,he,hp,j,hj,o,ho,J,U=>absurd hj (by simp)
  |i::r,p,KQ,he,hp,j,hj,o,ho,J,U=>by
   unfold sD at he
   split at he
   · next hb=>
     rcases List.mem_cons.1 hj with rfl|hj
     · rw[Bool.or_eq_true]at hb
       rcases hb with hb|hb
       · exact absurd (fv.1 hb) J
       · rw[U]at hb;cases hb
     · exact vj he hp j hj o ho J U
   · next q l hb hr=>
     split at he
     · next o' gl=>
       split at he
       · next p' ko hk=>
         obtain⟨rfl,rfl⟩:=Prod.mk.inj (Option.some.inj he)
         rcases List.mem_cons.1 hj with rfl|hj
         · obtain rfl:=Option.some.inj (ho.symm.trans gl)
           exact⟨p',ko,hk,hp.1,λk e=>by rw[e];simp⟩
         · obtain⟨q1,T6,g1,g2,g3⟩:=vj hr hp.2 j hj o ho J U
           exact⟨q1,T6,g1,g2,λk e=>List.mem_append.2 (.inr (g3 k e))⟩
       · cases he
     · cases he
   · cases he
section
variable {P:Program} {w:World} {ω:Ow} {Gl:Nat->SV} {Γ:Table} {N:Nat} {F:Fr} {M:Mem} {a:Act}
def JI (P:Program) (sg:Bool) (Gl:Nat->SV) (Γ:Table) (N:Nat) (M:Mem) (ops:List Oper) (R:List (List Nat)) (F0:Fr) (K:List Rc->List Bool->List Bool->Nat->Prop) (r:List Oper) (i:Nat) (rs:List Rc) (gs ws:List Bool):Prop:=
    ∃t tg tw cH,K (rs++t) (gs++tg) (ws++tw) cH/\t.length=r.length/\tg.length=r.length/\tw.length=r.length/\ ∀k o,r[k]? =some o->
     ((gs++tg).getD (i+k) false=true->(ws++tw).getD (i+k) false=false/\o.guard=none/\ ∃s,bO (rs++t) (i+k)=⟨fC N o.dst s,[],[]⟩/\(nV P sg (vF ((rs++t).take (i+k)) F0 (R.getD (i+k) [])) (aa (vM ((rs++t).take (i+k)) M (R.getD (i+k) []))) o.op).run (λs'=>s'=s))/\
     ((gs++tg).getD (i+k) false=false->(ws++tw).getD (i+k) false=false-> ∃nx p,mG P sg Gl Γ N ops (vF ((rs++t).take (i+k)) F0 (R.getD (i+k) [])) (vM ((rs++t).take (i+k)) M (R.getD (i+k) [])) (vH ((rs++t).take (i+k)) (R.getD (i+k) [])) nx (R.getD (i+k) []) o=some (p,bO (rs++t) (i+k))/\p)/\
     ((ws++tw).getD (i+k) false=true-> ∃q u,evalW P Gl N ops (vF ((rs++t).take (i+k)) F0 (R.getD (i+k) [])) (vM ((rs++t).take (i+k)) M (R.getD (i+k) [])) (vH ((rs++t).take (i+k)) (R.getD (i+k) [])) o=some (q,u)/\bO (rs++t) (i+k)=⟨[],[],u⟩/\bR (aa M) q=false)
theorem vO {sg:Bool} {ops:List Oper} {R:List (List Nat)} {F0:Fr} {K:List Rc->List Bool->List Bool->Nat->Prop}: ∀(r:List Oper) (i:Nat) (rs:List Rc) (gs ws:List Bool) (nx:Nat),rs.length=i->gs.length=i->ws.length=i->mF P sg Gl Γ N ops R F0 M r i rs gs ws nx K->
    JI P sg Gl Γ N M ops R F0 K r i rs gs ws
  | [],i,rs,gs,ws,nx,hl,hg,hw,h=>⟨[],[],[],nx,by rw[List.append_nil,List.append_nil,List.append_nil];exact h,rfl,rfl,rfl,λk o hk=>by simp at hk⟩
  |o::r,i,rs,gs,ws,nx,hl,hg,hw,h=>by
   have e1: ∀{rc:Rc} {t:List Rc},(rs++rc::t).take (i+0)=rs:=by intro rc t;rw[Nat.add_zero,<-hl,List.take_left]
   have e2: ∀{rc:Rc} {t:List Rc},bO (rs++rc::t) (i+0)=rc:=by intro rc t;simp[bO,List.getD_eq_getElem?_getD,<-hl]
   have e3: ∀{b:Bool} {t:List Bool},(gs++b::t).getD (i+0) false=b:=by intro b t;simp[List.getD_eq_getElem?_getD,<-hg]
   have e4: ∀{b:Bool} {t:List Bool},(ws++b::t).getD (i+0) false=b:=by intro b t;simp[List.getD_eq_getElem?_getD,<-hw]
   have go: ∀{rc:Rc} {bg bw:Bool} {gA:Nat},mF P sg Gl Γ N ops R F0 M r (i+1) (rs++ [rc]) (gs++ [bg]) (ws++ [bw]) gA K->
    ((bg=true->bw=false/\o.guard=none/\ ∃s,rc=⟨fC N o.dst s,[],[]⟩/\(nV P sg (vF rs F0 (R.getD (i+0) [])) (aa (vM rs M (R.getD (i+0) []))) o.op).run (λs'=>s'=s))/\
      (bg=false->bw=false-> ∃nx p,mG P sg Gl Γ N ops (vF rs F0 (R.getD (i+0) [])) (vM rs M (R.getD (i+0) [])) (vH rs (R.getD (i+0) [])) nx (R.getD (i+0) []) o=some (p,rc)/\p)/\
      (bw=true-> ∃q u,evalW P Gl N ops (vF rs F0 (R.getD (i+0) [])) (vM rs M (R.getD (i+0) [])) (vH rs (R.getD (i+0) [])) o=some (q,u)/\rc=⟨[],[],u⟩/\bR (aa M) q=false))->
    JI P sg Gl Γ N M ops R F0 K (o::r) i rs gs ws:=by
     intro rc bg bw gA h hz
     obtain⟨t,tg,tw,cH,J,U,mW,Tj,h3⟩:=vO r (i+1) (rs++ [rc]) (gs++ [bg]) (ws++ [bw]) gA (by simp[hl]) (by simp[hg]) (by simp[hw]) h
     have e:rs++rc::t=rs++ [rc]++t:=by simp
     have eg:gs++bg::tg=gs++ [bg]++tg:=by simp
     have ew:ws++bw::tw=ws++ [bw]++tw:=by simp
     refine⟨rc::t,bg::tg,bw::tw,cH,by rw[e,eg,ew];exact J,by simp[U],by simp[mW],by simp[Tj],λk o' hk=>?_⟩
     cases k with
     |zero=>
      simp only[List.getElem?_cons_zero,Option.some.injEq]at hk
      subst hk
      rw[e1,e2,e3,e4]
      exact hz
     |succ k=>
      have:=h3 k o' (by simpa using hk)
      rw[show i+(k+1)=i+1+k by omega,e,eg,ew]
      exact this
   unfold mF at h
   simp only[G1,iH]at h
   split at h
   · next p rc he=>
     obtain⟨hp,h⟩:=h
     obtain⟨g1,s,g3,g4⟩:=MF he hp
     exact go h ⟨λ_=>⟨rfl,g1,s,g3,g4⟩,λh=>(by cases h),λh=>(by cases h)⟩
   · next cd=>
     split at h
     · next p rc he=>
       obtain⟨hp,h⟩:=h
       exact go h ⟨λh=>(by cases h),λ_ _=>⟨nx,p,he,hp⟩,λh=>(by cases h)⟩
     · split at h
       · next k u he=>
         split at h
         · next hf=>exact go h ⟨λh=>(by cases h),λ_ h=>(by cases h),λ_=>⟨k,u,he,rfl,hf⟩⟩
         · exact h.elim
       · exact h.elim
theorem MG {ops:List Oper} {V:Fr} {M:Mem} {H:List Hd} {o:Oper} {k:Nat} {u:aC} (h:evalW P Gl N ops V M H o=some (k,u)):o.dst=none:=by
  unfold evalW at h
  split at h
  · next J _ _=>exact J
  · cases h
theorem sE: ∀(l:List Nat) {M:Mem},ay w ω M->ay w ω (kT l M)
  | [],_,hm=>hm
  |k::r,M,hm=>by
   unfold kT
   split
   · next l hh hb=>
     split
     · next T7=>
       refine sE r ?_
       refine hm.Ic rfl hb (by simp[j4]) (λL hL c T hc j hj x hx hd=>⟨by rw[vP];rfl,by rw[vP];trivial⟩) (λj=>zA T7 j)
     · exact sE r hm
   · exact sE r hm
theorem FD: ∀{l:List SV},l.all Ko=true->l=j4 l.length
  | [],_=>rfl
  |s::r,h=>by
   simp only[List.all_cons,Bool.and_eq_true]at h
   have:=FD h.2
   cases s<;>first|(cases h.1;done)|skip
   show _=SV.aq::j4 r.length
   rw[<-this]
theorem O2 {k:Nat} {e:aP} (h:CB (aa M k) e=true):KW M e k:=by
  unfold CB at h
  split at h
  · next l l' J U h3 h4=>
    simp only[Bool.and_eq_true]at h
    obtain⟨⟨⟨g1,g2⟩,g3⟩,g4⟩:=h
    have g1:=Nat.eq_of_beq_eq_true g1
    have g2:=Nat.eq_of_beq_eq_true g2
    have g4:=Nat.eq_of_beq_eq_true g4
    refine⟨(aa M k).rs,(aa M k).ds,l.length,l',?_,g4,?_⟩
    · rw[<-FD g3]
      generalize aa M k=e0 at*
      cases e0;simp_all
    · cases e;simp_all
  · cases h
theorem ni {rs:List Rc} {i j:Nat} (h:j<i):bO (rs.take i) j=bO rs j:=by
  unfold bO
  rw[List.getD_eq_getElem?_getD,List.getD_eq_getElem?_getD,List.getElem?_take_of_lt h]
theorem mn {α:Type} {f g:Nat->List α}: ∀{E:List Nat},(∀j∈E,f j=g j)->E.flatMap f=E.flatMap g
  | [],_=>rfl
  |j::E,h=>by rw[List.flatMap_cons,List.flatMap_cons,h j (by simp),mn λi hi=>h i (by simp[hi])]
theorem zS: ∀{l:List (List Nat)},l.flatten.Nodup-> ∀{i j k:Nat} {x y:List Nat},l[i]? =some x->l[j]? =some y->k∈x->k∈y->i=j
  | [],_,i,j,k,x,y,h,_,_,_=>by simp at h
  |z::l,hn,i,j,k,x,y,hi,hj,hx,hy=>by
   rw[List.flatten_cons,List.nodup_append]at hn
   have mem: ∀{q:Nat} {v:List Nat},l[q]? =some v->k∈v->k∈l.flatten:=λhq hv=>List.mem_flatten.2 ⟨_,List.mem_of_getElem? hq,hv⟩
   cases i with
   |zero=>
    cases j with
    |zero=>rfl
    |succ j=>
     simp at hi hj;subst hi
     exact absurd rfl (hn.2.2 k hx k (mem hj hy))
   |succ i=>
    cases j with
    |zero=>
     simp at hi hj;subst hj
     exact absurd rfl (hn.2.2 k hy k (mem hi hx))
    |succ j=>exact congrArg (· +1) (zS hn.2.1 (i:=i) (j:=j) (by simpa using hi) (by simpa using hj) hx hy)
theorem A5 {x:Option Nat} {y:Nat} (h:ru x y=true):x=some y:=by
  cases x with
  |none=>cases h
  |some z=>rw[Nat.eq_of_beq_eq_true h]
theorem Az {k:Nat}: ∀{u:aC},k∈u.map (·.1)-> ∃p∈u,p.1=k/\aa u k=p.2
  | [],h=>by simp at h
  |p::r,h=>by
   obtain⟨p1,p2⟩:=p
   by_cases hk:p1=k
   · subst hk;exact⟨(p1,p2),List.mem_cons_self,rfl,cz⟩
   · simp only[List.map_cons,List.mem_cons]at h
     obtain⟨q,J,U,h3⟩:=Az (h.resolve_left λe=>hk e.symm)
     exact⟨q,by simp[J],U,by rw[bV hk];exact h3⟩
theorem vz: ∀(l:List Oper) (F:Fr) (t:Nat),look (c_ l F) t= .aq\/(look (c_ l F) t=look F t/\ ∀o∈l,o.dst≠some t)
  | [],F,t=> .inr ⟨rfl,λo ho=>by simp at ho⟩
  |o::l,F,t=>by
   cases hd:o.dst with
   |none=>
    have e:c_ (o::l) F=c_ l F:=by simp[c_,hd]
    rw[e]
    rcases vz l F t with h|⟨J,U⟩
    · exact .inl h
    · refine .inr ⟨J,λo' gl=>?_⟩
      rcases List.mem_cons.1 gl with rfl|gl
      · rw[hd];simp
      · exact U o' gl
   |some x=>
    have e:c_ (o::l) F=(x,.aq)::c_ l F:=by simp[c_,hd]
    rw[e]
    by_cases hx:x=t
    · subst hx;exact .inl look_eq
    · rw[mz hx]
      rcases vz l F t with h|⟨J,U⟩
      · exact .inl h
      · refine .inr ⟨J,λo' gl=>?_⟩
        rcases List.mem_cons.1 gl with rfl|gl
        · rw[hd];simpa using hx
        · exact U o' gl
theorem zT {sg:Bool} {ops:Array Oper} {R:List (List Nat)} {m:Nat} {MJ:Mem} {rs:List Rc} {gs ws:List Bool} {cH:Nat} (hR:df ops.toList []=R) (pq:m<=ops.size) (c1:oN 0 ops.toList=true) (c3:nodupB ((ops.toList.take m).map λo=>o.dst.toList).flatten=true) (gX:cW w ω N F a.tmps)
    (U:rs.length=(ops.toList.take m).length) (pB:gs.length=(ops.toList.take m).length) (rv:ws.length=(ops.toList.take m).length)
    (h3: ∀k o,(ops.toList.take m)[k]? =some o->
      (gs.getD k false=true->ws.getD k false=false/\o.guard=none/\ ∃s,bO rs k=⟨fC N o.dst s,[],[]⟩/\(nV P sg (vF (rs.take k) (c_ (ops.toList.take m) F) (R.getD k [])) (aa (vM (rs.take k) MJ (R.getD k []))) o.op).run (λs'=>s'=s))/\
      (gs.getD k false=false->ws.getD k false=false-> ∃nx p,mG P sg Gl Γ N ops.toList (vF (rs.take k) (c_ (ops.toList.take m) F) (R.getD k [])) (vM (rs.take k) MJ (R.getD k [])) (vH (rs.take k) (R.getD k [])) nx (R.getD k []) o=some (p,bO rs k)/\p)/\
      (ws.getD k false=true-> ∃q u,evalW P Gl N ops.toList (vF (rs.take k) (c_ (ops.toList.take m) F) (R.getD k [])) (vM (rs.take k) MJ (R.getD k [])) (vH (rs.take k) (R.getD k [])) o=some (q,u)/\bO rs k=⟨[],[],u⟩/\bR (aa MJ) q=false))
    (c6:tK N ops.toList R MJ rs ws=true) (c7:wT ops.toList R gs=true):
    gY P sg Gl Γ N ops (λi=>R.getD i []) m rs F (c_ (ops.toList.take m) F) MJ (λi=>gs.getD i false) (λi=>ws.getD i false)/\ ∀i j,j∈R.getD i []->j<i:=by
  have hlen:rs.length=m:=by rw[U,List.length_take];simp;omega
  have BK:=(Ep ops.toList []).2
  rw[hR]at BK
  simp only[List.length_nil,Nat.zero_add]at BK
  have gd: ∀{i o},ops[i]? =some o->ops.toList[i]? =some o:=λh=>by rw[Array.getElem?_toList];exact h
  have Kq: ∀{i o},ops[i]? =some o->R.getD i []=kS (R.take i) o.after.toList []:=λh=>by
    rw[List.getD_eq_getElem?_getD,BK _ _ (gd h)];rfl
  have tL: ∀i o,ops[i]? =some o-> ∀e∈o.after,Region.binds .any e=true->e.on<i:=λi o ho e he hb=>by
    have:=D_ c1 i o (gd ho) e he hb
    omega
  have CC: ∀i o,ops[i]? =some o-> ∀x∈R.getD i [],∃e∈o.after,Region.binds .any e=true/\(x=e.on\/x∈R.getD e.on []):=by
    intro i o ho x hx
    rw[Kq ho,so]at hx
    rcases hx with hx|⟨e,he,hb,hx⟩
    · simp at hx
    · refine⟨e,by simpa using he,hb,hx.imp (λh=>h) λhx=>?_⟩
      have ai:=tL i o ho e (by simpa using he) hb
      rwa [List.getD_eq_getElem?_getD,List.getElem?_take_of_lt ai,<-List.getD_eq_getElem?_getD]at hx
  have JJ: ∀{i j},j∈R.getD i []-> ∃o,ops[i]? =some o:=by
    intro i j hj
    rcases Nat.lt_or_ge i ops.size with hi|hi
    · exact⟨_,Array.getElem?_eq_getElem hi⟩
    · exfalso
      have hRl:R.length<=ops.size:=by
        have: ∀(l:List Oper) (acc:List (List Nat)),(df l acc).length=acc.length+l.length:=by
          intro l
          induction l with
          |nil=>intro acc;simp[df]
          |cons o r ih=>intro acc;simp only[df,ih];simp;omega
        rw[<-hR,this];simp
      rw[List.getD_eq_getElem?_getD,List.getElem?_eq_none (by omega)]at hj
      simp at hj
  have ai: ∀i j,j∈R.getD i []->j<i:=by
    intro i
    induction i using Nat.strongRecOn with
    |ind i ih=>
     intro j hj
     obtain⟨o,ho⟩:=JJ hj
     obtain⟨e,he,hb,hx⟩:=CC i o ho j hj
     have:=tL i o ho e he hb
     rcases hx with rfl|hx
     · exact this
     · have:=ih e.on this j hx;omega
  have ra: ∀{i o e},ops[i]? =some o->e∈o.after->Region.binds .any e=true->e.on∈R.getD i []/\ ∀x∈R.getD e.on [],x∈R.getD i []:=by
    intro i o e ho he hb
    have CD:=tL i o ho e he hb
    rw[Kq ho]
    refine⟨so.2 (.inr ⟨e,by simpa using he,hb,.inl rfl⟩),λx hx=>so.2 (.inr ⟨e,by simpa using he,hb,.inr ?_⟩)⟩
    rwa [List.getD_eq_getElem?_getD,List.getElem?_take_of_lt CD,<-List.getD_eq_getElem?_getD]
  have CY: ∀i j,j∈R.getD i []-> ∀k∈R.getD j [],k∈R.getD i []:=by
    intro i
    induction i using Nat.strongRecOn with
    |ind i ih=>
     intro j hj k hk
     obtain⟨o,ho⟩:=JJ hj
     obtain⟨e,he,hb,hx⟩:=CC i o ho j hj
     rcases hx with rfl|hx
     · exact(ra ho he hb).2 k hk
     · exact(ra ho he hb).2 k (ih e.on (tL i o ho e he hb) j hx k hk)
  have Vh:gs.length=m:=by rw[pB,List.length_take];simp;omega
  simp only[tK,Bool.and_eq_true]at c6
  obtain⟨k1,k2⟩:=c6
  have k1:=qg k1
  have kk: ∀i,i<m->_:=λi hi=>List.all_eq_true.1 k2 i (List.mem_range.2 (by rw[hlen];exact hi))
  have short: ∀i,m<=i->bO rs i=⟨[],[],[]⟩:=λi hi=>by
    unfold bO
    rw[List.getD_eq_getElem?_getD,List.getElem?_eq_none (by omega)];rfl
  have ry: ∀{i k},k∈keys rs i->i<m:=λ{i k} hk=>by
    rcases Nat.lt_or_ge i m with h|h
    · exact h
    · unfold keys at hk;rw[short i h]at hk;simp at hk
  have BL: ∀i,tJ ops.toList i=gQ ops i:=λi=>by
    unfold tJ gQ
    rw[Array.getElem?_toList]
    cases ops[i]? <;>rfl
  have SS:gY P sg Gl Γ N ops (λi=>R.getD i []) m rs F (c_ (ops.toList.take m) F) MJ (λi=>gs.getD i false) (λi=>ws.getD i false):=by
    refine⟨CC,CY,ai,tL,pq,?_,?_,?_,?_,?_,?_,?_,?_,?_,?_,?_,?_,short,?_,?_⟩
    · intro i o hi ho fi lh
      obtain⟨gA,p,g1,g2⟩:=(h3 i o (by rw[List.getElem?_take_of_lt hi];exact gd ho)).2.1 fi lh
      refine⟨gA,p,?_,g2⟩
      have e1:vF (rs.take i) (c_ (ops.toList.take m) F) (R.getD i [])=vF rs (c_ (ops.toList.take m) F) (R.getD i []):=by
        unfold vF;rw[mn λj hj=>by rw[ni (ai i j hj)]]
      have e2:vM (rs.take i) MJ (R.getD i [])=vM rs MJ (R.getD i []):=by
        unfold vM;rw[mn λj hj=>by rw[ni (ai i j hj)]]
      have e3:vH (rs.take i) (R.getD i [])=vH rs (R.getD i []):=by
        unfold vH;rw[mn λj hj=>by rw[ni (ai i j hj)]]
      rw[e1,e2,e3]at g1
      exact g1
    · intro i o hi ho fi lh
      obtain⟨q,u,g1,g2,g3⟩:=(h3 i o (by rw[List.getElem?_take_of_lt hi];exact gd ho)).2.2 lh
      have e1:vF (rs.take i) (c_ (ops.toList.take m) F) (R.getD i [])=vF rs (c_ (ops.toList.take m) F) (R.getD i []):=by
        unfold vF;rw[mn λj hj=>by rw[ni (ai i j hj)]]
      have e2:vM (rs.take i) MJ (R.getD i [])=vM rs MJ (R.getD i []):=by
        unfold vM;rw[mn λj hj=>by rw[ni (ai i j hj)]]
      have e3:vH (rs.take i) (R.getD i [])=vH rs (R.getD i []):=by
        unfold vH;rw[mn λj hj=>by rw[ni (ai i j hj)]]
      rw[e1,e2,e3]at g1
      exact⟨MG g1,by rw[g2],by rw[g2],q,by rw[g2];exact g1,g3⟩
    · intro i lh k hk
      obtain⟨p,hp,rfl⟩:=List.mem_map.1 hk
      have:=kk i (ry hk)
      simp only[Bool.and_eq_true]at this
      have:=List.all_eq_true.1 this.2 p hp
      simp only[Bool.and_eq_true,Bool.or_eq_true]at this
      rcases this.1.1 with h|h
      · exact h
      · have lh:ws.getD i false=false:=lh
        rw[lh]at h;cases h.1.1
    · intro i o hi ho fi
      obtain⟨_,g1,s,g3,g4⟩:=(h3 i o (by rw[List.getElem?_take_of_lt hi];exact gd ho)).1 fi
      have e1:vF (rs.take i) (c_ (ops.toList.take m) F) (R.getD i [])=vF rs (c_ (ops.toList.take m) F) (R.getD i []):=by
        unfold vF;rw[mn λj hj=>by rw[ni (ai i j hj)]]
      have e2: ∀MJ,vM (rs.take i) MJ (R.getD i [])=vM rs MJ (R.getD i []):=by
        intro MJ
        unfold vM;rw[mn λj hj=>by rw[ni (ai i j hj)]]
      rw[e1,e2]at g4
      exact⟨g1,s,g3,g4⟩
    · intro i oi hi fi ho j oj KX bq pC cd
      have:=List.all_eq_true.1 c7 i (List.mem_range.2 (by omega))
      rw[fi,gd ho]at this
      simp only[Bool.not_true,Bool.false_or,Bool.and_eq_true]at this
      have aS:=(Array.getElem?_eq_some_iff.1 KX).1
      have:=List.all_eq_true.1 this.2 j (List.mem_range.2 (by simpa using aS))
      rw[gd KX,Bool.or_eq_true,Bool.or_eq_true]at this
      rcases this with(h|h)|h
      · exact absurd (Nat.eq_of_beq_eq_true h) bq
      · exact absurd (fv.1 h) pC
      · rw[Bool.or_eq_true]at h
        rcases h with h|h
        · rw[List.any_eq_true]at h
          obtain⟨e,he,hb⟩:=h
          rw[Bool.and_eq_true]at hb
          exact absurd (Nat.eq_of_beq_eq_true hb.2) (cd e (by simpa using he) hb.1)
        · simpa using h
    · intro i hi fi
      have:=List.all_eq_true.1 c7 i (List.mem_range.2 (by omega))
      have bo:i<ops.toList.length:=by simp;omega
      rw[fi,List.getElem?_eq_getElem bo]at this
      simp only[Bool.not_true,Bool.false_or,Bool.and_eq_true]at this
      simpa using this.1
    · intro i p hp
      have hi:i<m:=by
        rcases Nat.lt_or_ge i m with h|h
        · exact h
        · rw[short i h]at hp;simp at hp
      have:=kk i hi
      simp only[Bool.and_eq_true]at this
      have:=List.all_eq_true.1 this.1.1 p hp
      rw[Bool.and_eq_true]at this
      rw[<-BL]
      exact⟨A5 this.1,Nat.le_of_ble_eq_true this.2⟩
    · intro i x hx
      have hi:i<m:=by
        rcases Nat.lt_or_ge i m with h|h
        · exact h
        · rw[short i h]at hx;simp at hx
      have:=kk i hi
      simp only[Bool.and_eq_true]at this
      have:=List.all_eq_true.1 this.1.2 x hx
      rw[Bool.and_eq_true,List.any_eq_true]at this
      obtain⟨d1,g,hg,d2⟩:=this
      rw[<-BL]
      exact⟨A5 d1,g,hg,by rw[<-BL];exact A5 d2⟩
    · intro i j t hi hj e1 e2
      have get: ∀{q},q<m->gQ ops q=some t-> ∃x,((ops.toList.take m).map λo=>o.dst.toList)[q]? =some x/\t∈x:=by
        intro q hq hd
        unfold gQ at hd
        cases ho:ops[q]? with
        |none=>rw[ho]at hd;cases hd
        |some o=>
         rw[ho]at hd
         have hd:o.dst=some t:=hd
         exact⟨o.dst.toList,by rw[List.getElem?_map,List.getElem?_take_of_lt hq,gd ho];rfl,by rw[hd];simp⟩
      obtain⟨x,x1,x2⟩:=get hi e1
      obtain⟨y,y1,y2⟩:=get hj e2
      exact zS (qg c3) x1 y1 x2 y2
    · intro i j k hi hj
      have get: ∀{q},q<m->(rs.map λrc=>rc.u.map (·.1))[q]? =some (keys rs q):=by
        intro q hq
        have:rs[q]? =some rs[q]:=List.getElem?_eq_getElem (by omega)
        rw[List.getElem?_map,this]
        simp[keys,bO,List.getD_eq_getElem?_getD,this]
      exact zS k1 (get (ry hi)) (get (ry hj)) hi hj
    · intro i k hk
      obtain⟨p,hp,rfl⟩:=List.mem_map.1 hk
      have:=kk i (ry hk)
      simp only[Bool.and_eq_true]at this
      have:=List.all_eq_true.1 this.2 p hp
      simp only[Bool.and_eq_true,Bool.or_eq_true,Bool.not_eq_true']at this
      rcases this.1.1 with h|⟨⟨_,h⟩,U⟩
      · exact .inl h
      · refine .inr ⟨h,?_⟩
        obtain⟨p',C5,T8,C6⟩:=Az hk
        obtain⟨x,hx,hxe⟩:=List.mem_map.1 hk
        rw[C6]
        have:=kk i (ry hk)
        simp only[Bool.and_eq_true]at this
        have:=List.all_eq_true.1 this.2 p' C5
        simp only[Bool.and_eq_true,Bool.or_eq_true,Bool.not_eq_true']at this
        rw[<-T8]at h⊢
        rcases this.1.1 with h'|⟨_,h'⟩
        · rw[h]at h';cases h'
        · exact O2 h'
    · intro i k hk
      obtain⟨p,hp,rfl,C6⟩:=Az hk
      have:=kk i (ry hk)
      simp only[Bool.and_eq_true]at this
      have:=List.all_eq_true.1 this.2 p hp
      simp only[Bool.and_eq_true]at this
      rw[C6]
      exact⟨Nat.eq_of_beq_eq_true this.1.2,Nat.eq_of_beq_eq_true this.2⟩
    · intro t
      rcases vz (ops.toList.take m) F t with e|⟨e1,e2⟩
      · exact .inl e
      · refine .inr ⟨e1,λi hi kj=>?_⟩
        unfold gQ at kj
        cases ho:ops[i]? with
        |none=>rw[ho]at kj;cases kj
        |some o=>
         rw[ho]at kj
         exact e2 o (List.mem_of_getElem? (i:=i) (by rw[List.getElem?_take_of_lt hi];exact gd ho)) kj
    · intro t ht
      rcases vz (ops.toList.take m) F t with e|⟨e1,_⟩
      · exact e
      · rw[e1];exact gX.out t ht
  exact⟨SS,ai⟩
theorem FE (hS:Sound P Gl Γ) {sg:Bool} {ops:Array Oper} {Q:Exit->Act->World->Prop} {K:Fr->Mem->Nat->Prop} {S:List Nat} {nx:Nat}
    (gB: ∀d c a v w,Q (.panic c) (Act.put a d v) w->Q (.panic c) a w) (hQ: ∀a' w',tM P Gl N S a w ω K a' w'->Q .normal a' w') (hd: ∀o∈ops.toList,∀t,o.dst=some t->t∈S) (h:St P Gl N F M a w ω) (he:wU P sg Gl Γ N ops.toList K F M nx):P.follows .mixedOrders=true/\wpAny P .any ops Q ops.size (Array.replicate ops.size false) a {w with drawn:=w.drawn+1}:=by
  unfold wU at he
  simp only[sq,iH]at he
  split at he
  rotate_left
  · exact he.elim
  next c1 c3 c4 c5=>
  generalize hR:df ops.toList []=R at*
  generalize hm:Aw ops.toList 0 R 0=m at*
  have pq:m<=ops.size:=by simpa using Nat.le_of_ble_eq_true c4
  have pD:ay w ω (kT ((ops.toList.take m).filterMap (qE Gl (iK P sg Gl Γ N M (ops.toList.take m) F nx))) M):=sE _ h.mem
  generalize kT ((ops.toList.take m).filterMap (qE Gl (iK P sg Gl Γ N M (ops.toList.take m) F nx))) M=MJ at*
  obtain⟨rs,gs,ws,cH,J,U,pB,rv,h3⟩:=vO (ops.toList.take m) 0 [] [] [] nx rfl rfl rfl he
  simp only[List.nil_append,Nat.zero_add]at J h3
  split at J
  rotate_left
  · exact J.elim
  next c6=>
  rw[Bool.and_eq_true,Bool.and_eq_true]at c6
  obtain⟨⟨c6,c2⟩,c7⟩:=c6
  have gd: ∀{i o},ops[i]? =some o->ops.toList[i]? =some o:=λh=>by rw[Array.getElem?_toList];exact h
  obtain⟨SS,ai⟩:=zT (Gl:=Gl) (Γ:=Γ) (sg:=sg) (cH:=cH) hR pq c1 c3 h.frame U pB rv h3 c6 c7
  have hT: ∀i,m<=i->i<ops.size-> ∀j,j<i->j∈R.getD i []\/(j<m/\gs.getD j false=true):=by
    intro i yH bo j hj
    have:=List.all_eq_true.1 c2 i (List.mem_range.2 (by simpa using bo))
    rw[Bool.or_eq_true]at this
    rcases this with h|h
    · have:i<m:=Nat.le_of_ble_eq_true h
      omega
    · have h:=List.all_eq_true.1 h j (List.mem_range.2 hj)
      rw[Bool.or_eq_true,Bool.and_eq_true]at h
      exact h.imp fv.1 λh=>⟨Nat.le_of_ble_eq_true h.1,h.2⟩
  refine⟨c5,?_⟩
  have gC:Cw w {w with drawn:=w.drawn+1}:=⟨rfl,rfl,rfl,Nat.le_refl _,λ_ _=>rfl⟩
  have hJ:St P Gl N F MJ a w ω:=⟨h.frame,h.de,pD,h.defers⟩
  have h':=hJ.step (aT.more pD gC)
  have di:=h'.mem
  refine Qj (ω:=ω) (a0:=a) (aN:=ω) hS SS hT di h'.frame h'.de gB ?_ ops.size (Array.replicate ops.size false) a _ (by simp) ?_ ?_
  · intro a' w' ah I
    obtain⟨g1,g2,g3⟩:=I.all SS di h'.frame (E:=List.range m) (λj hj=>List.mem_range.1 hj) (λj hj k hk=>List.mem_range.2 (by have:=ai j k hk;have:=List.mem_range.1 hj;omega))
    have bh:=I.mQ SS di (List.range m)
    have bc:St P Gl N (vF rs (c_ (ops.toList.take m) F) (List.range m)) (vM rs MJ (List.range m)) a' w' (cf rs MJ ah (List.range m)):=⟨g2,λg=>Den.ext (o:=ω.bare) bh.bare (h'.de g),g1,I.defers⟩
    obtain⟨F5,M5,um,uo,J⟩:=qe J
    refine mw hS hQ (ops.toList.drop m) _ _ cH _ a' w' _ (λo ho=>hd o (List.mem_of_mem_drop ho)) (bc.congr um uo) g3 ((gC.ext ω).trans bh) ⟨by rw[I.size,h.frame.size],λi hi=>?_⟩ J
    refine I.ld i λj hj gm=>?_
    unfold gQ at gm
    cases ho:ops[j]? with
    |none=>rw[ho]at gm;cases gm
    |some o=>
     rw[ho]at gm
     exact hi (hd o (List.mem_of_getElem? (gd ho)) i gm)
  · unfold iN
    exact Nat.le_trans (List.length_filter_le _ _) (by simp)
  · have no: ∀j,¬(Array.replicate ops.size false).getD j false=true:=λj=>by
      simp[Array.getD]
    exact⟨λj hj=>absurd hj (no j),λj hj=>absurd hj (no j),⟨rfl,rfl,rfl,Nat.le_refl _,λ_ _ _=>rfl⟩,λj k _ _ L hL=>(let⟨_,_,_,_,c,T,J,U,_⟩:=di.row k none L hL;⟨c,T,J,U⟩),λ_ h=>h,di.dg,λ_ _ h=>h,rfl,di.dj,rfl,λ_ _ _=>rfl,λk p L hL=>di.own _ ⟨k,p,L,hL,rfl⟩,di.inj,h.defers,h.frame.size,λ_ _=>rfl,λj hj=>absurd hj (no j)⟩
theorem MH (hS:Sound P Gl Γ) {sg:Bool} {ops:Array Oper} {Q:Exit->Act->World->Prop} {K:Fr->Mem->Nat->Prop} {S:List Nat} {nx:Nat}
    (gB: ∀d c a v w,Q (.panic c) (Act.put a d v) w->Q (.panic c) a w) (hQ: ∀a' w',tM P Gl N S a w ω K a' w'->Q .normal a' w') (hd: ∀o∈ops.toList,∀t,o.dst=some t->t∈S) (h:St P Gl N F M a w ω) {m:Nat} (he:Ax P sg Gl Γ N ops.toList m K F M nx):P.follows .mixedOrders=true/\wpAny P .any ops Q ops.size (Array.replicate ops.size false) a {w with drawn:=w.drawn+1}:=by
  unfold Ax at he
  simp only[sq]at he
  split at he
  rotate_left
  · exact he.elim
  next c1 c3 c4 c5=>
  generalize hR:df ops.toList []=R at*
  have pq:m<=ops.size:=by simpa using Nat.le_of_ble_eq_true c4
  have pD:ay w ω (kT ((ops.toList.take m).filterMap (qE Gl (iK P sg Gl Γ N M (ops.toList.take m) F nx))) M):=sE _ h.mem
  generalize kT ((ops.toList.take m).filterMap (qE Gl (iK P sg Gl Γ N M (ops.toList.take m) F nx))) M=MJ at*
  obtain⟨rs,gs,ws,cH,J,U,pB,rv,h3⟩:=vO (ops.toList.take m) 0 [] [] [] nx rfl rfl rfl he
  simp only[List.nil_append,Nat.zero_add]at J h3
  split at J
  rotate_left
  · exact J.elim
  next p KQ oB c6 cq cE=>
  split at J
  rotate_left
  · exact J.elim
  next pr κ ck cn=>
  split at J
  rotate_left
  · exact J.elim
  next D1=>
  obtain⟨hp,yI,J⟩:=J
  simp only[Bool.and_eq_true]at c6
  obtain⟨⟨⟨c6,c2⟩,c7⟩,c8⟩:=c6
  have gd: ∀{i o},ops[i]? =some o->ops.toList[i]? =some o:=λh=>by rw[Array.getElem?_toList];exact h
  obtain⟨SS,ai⟩:=zT (Gl:=Gl) (Γ:=Γ) (sg:=sg) (cH:=cH) hR pq c1 c3 h.frame U pB rv h3 c6 c7
  have hT: ∀i,m<i->i<ops.size-> ∀j,j<i->j∈R.getD i []:=by
    intro i yH bo j hj
    have:=List.all_eq_true.1 c2 i (List.mem_range.2 (by simpa using bo))
    rw[Bool.or_eq_true]at this
    rcases this with h|h
    · have:i<=m:=Nat.le_of_ble_eq_true h
      omega
    · exact fv.1 (List.all_eq_true.1 h j (List.mem_range.2 hj))
  have xS:ops[m]? =some oB:=by rw[<-Array.getElem?_toList];exact cE
  unfold yF at c8
  rw[cE]at c8
  simp only[Bool.and_eq_true]at c8
  have QQ:yJ P Gl N ops (λi=>R.getD i []) m rs (c_ (ops.toList.take m) F) MJ (λi=>gs.getD i false) KQ oB:=by
    refine⟨xS,λj o hj ho hn hr=>vj cq hp j (List.mem_range.2 hj) o (gd ho) hn hr,⟨_,pr,κ,cn,yI,λk hk pE=>?_⟩,λk hk=>?_,by simpa using c8.1,λj o hj ho hn=>?_,λj hj=>ai m j hj⟩
    · have:=List.all_eq_true.1 D1 k hk
      rw[fv.2 pE]at this
      cases this
    · have:=List.all_eq_true.1 ck k hk
      simp only[Bool.and_eq_true,Bool.not_eq_true']at this
      refine⟨this.1,λj cI=>?_⟩
      unfold keys at cI
      have pF:j<rs.length:=by
        rcases Nat.lt_or_ge j rs.length with h|h
        · exact h
        · unfold bO at cI
          rw[List.getD_eq_getElem?_getD,List.getElem?_eq_none h]at cI
          simp at cI
      have jd:bO rs j∈rs:=by
        unfold bO
        rw[List.getD_eq_getElem?_getD,List.getElem?_eq_getElem pF]
        exact List.getElem_mem pF
      have:=List.all_eq_true.1 this.2 (bO rs j) jd
      rw[fv.2 cI]at this
      cases this
    · have:=List.all_eq_true.1 c8.2 j (List.mem_range.2 hj)
      rw[Bool.or_eq_true]at this
      rcases this with h|h
      · exact absurd (fv.1 h) hn
      · rw[gd ho]at h
        simpa using h
  refine⟨c5,?_⟩
  have gC:Cw w {w with drawn:=w.drawn+1}:=⟨rfl,rfl,rfl,Nat.le_refl _,λ_ _=>rfl⟩
  have hJ:St P Gl N F MJ a w ω:=⟨h.frame,h.de,pD,h.defers⟩
  have h':=hJ.step (aT.more pD gC)
  have di:=h'.mem
  refine O3 (ω:=ω) (a0:=a) (aN:=ω) hS SS hT di h'.frame h'.de gB QQ ?_ ops.size (Array.replicate ops.size false) a _ (by simp) ?_ ?_
  · intro a' w' ah I
    obtain⟨g1,g2,g3⟩:=I.all SS di h'.frame (E:=List.range m) (λj hj=>List.mem_range.1 hj) (λj hj k hk=>List.mem_range.2 (by have:=ai j k hk;have:=List.mem_range.1 hj;omega))
    have bh:=I.mQ SS di (List.range m)
    have bc:St P Gl N (vF rs (c_ (ops.toList.take m) F) (List.range m)) (vM rs MJ (List.range m)) a' w' (cf rs MJ ah (List.range m)):=⟨g2,λg=>Den.ext (o:=ω.bare) bh.bare (h'.de g),g1,I.defers⟩
    obtain⟨F5,M5,um,uo,J⟩:=qe J
    refine mw hS hQ (ops.toList.drop m) _ _ cH _ a' w' _ (λo ho=>hd o (List.mem_of_mem_drop ho)) (bc.congr um uo) g3 ((gC.ext ω).trans bh) ⟨by rw[I.size,h.frame.size],λi hi=>?_⟩ J
    refine I.ld i λj hj gm=>?_
    unfold gQ at gm
    cases ho:ops[j]? with
    |none=>rw[ho]at gm;cases gm
    |some o=>
     rw[ho]at gm
     exact hi (hd o (List.mem_of_getElem? (gd ho)) i gm)
  · unfold iN
    exact Nat.le_trans (List.length_filter_le _ _) (by simp)
  · have no: ∀j,¬(Array.replicate ops.size false).getD j false=true:=λj=>by
      simp[Array.getD]
    exact⟨λj hj=>absurd hj (no j),λj hj=>absurd hj (no j),⟨rfl,rfl,rfl,Nat.le_refl _,λ_ _ _=>rfl⟩,λj k _ _ L hL=>(let⟨_,_,_,_,c,T,J,U,_⟩:=di.row k none L hL;⟨c,T,J,U⟩),λ_ h=>h,di.dg,λ_ _ h=>h,rfl,di.dj,rfl,λ_ _ _=>rfl,λk p L hL=>di.own _ ⟨k,p,L,hL,rfl⟩,di.inj,h.defers,h.frame.size,λ_ _=>rfl,λj hj=>absurd hj (no j)⟩
theorem O4 {u:aC} {X Y:Mem} (h: ∀k,aa X k=aa Y k) (k:Nat):aa (u++X) k=aa (u++Y) k:=by
  by_cases hk:k∈u.map (·.1)
  · rw[wW hk,wW hk]
  · rw[sQ hk,sQ hk];exact h k
theorem MI (hS:Sound P Gl Γ) {sg:Bool} {ops:Array Oper} {Q:Exit->Act->World->Prop} {K:Fr->Mem->Nat->Prop} {S:List Nat} {nx:Nat}
    (gB: ∀d c a v w,Q (.panic c) (Act.put a d v) w->Q (.panic c) a w) (hQ: ∀a' w',tM P Gl N S a w ω K a' w'->Q .normal a' w') (hd: ∀o∈ops.toList,∀t,o.dst=some t->t∈S) (h:St P Gl N F M a w ω) {m:Nat} (he:Ay P sg Gl Γ N ops.toList m K F M nx):P.follows .mixedOrders=true/\wpAny P .any ops Q ops.size (Array.replicate ops.size false) a {w with drawn:=w.drawn+1}:=by
  unfold Ay at he
  simp only[sq]at he
  split at he
  rotate_left
  · exact he.elim
  next c1 c3 c4 c5=>
  generalize hR:df ops.toList []=R at*
  have pq:m<=ops.size:=by simpa using Nat.le_of_ble_eq_true c4
  obtain⟨rs,gs,ws,cH,J,U,pB,rv,h3⟩:=vO (ops.toList.take m) 0 [] [] [] nx rfl rfl rfl he
  simp only[List.nil_append,Nat.zero_add]at J h3
  split at J
  rotate_left
  · exact J.elim
  next p KQ oB c6 cq cE=>
  split at J
  rotate_left
  · exact J.elim
  next pr sB uB ck cn=>
  split at J
  rotate_left
  · exact J.elim
  next D1 T9=>
  obtain⟨hp,yI,J⟩:=J
  simp only[Bool.and_eq_true]at c6
  obtain⟨⟨⟨⟨c6,c2⟩,c7⟩,c8⟩,c9⟩:=c6
  have gd: ∀{i o},ops[i]? =some o->ops.toList[i]? =some o:=λh=>by rw[Array.getElem?_toList];exact h
  obtain⟨SS,ai⟩:=zT (Gl:=Gl) (Γ:=Γ) (sg:=sg) (cH:=cH) hR pq c1 c3 h.frame U pB rv h3 c6 c7
  have hT: ∀i,m<i->i<ops.size-> ∀j,j<i->j∈R.getD i []:=by
    intro i yH bo j hj
    have:=List.all_eq_true.1 c2 i (List.mem_range.2 (by simpa using bo))
    rw[Bool.or_eq_true]at this
    rcases this with h|h
    · have:i<=m:=Nat.le_of_ble_eq_true h
      omega
    · exact fv.1 (List.all_eq_true.1 h j (List.mem_range.2 hj))
  have xS:ops[m]? =some oB:=by rw[<-Array.getElem?_toList];exact cE
  unfold yF at c8
  rw[cE]at c8
  simp only[Bool.and_eq_true]at c8
  have CE: ∀j,j<m->j∉R.getD m []->keys rs j= []/\ws.getD j false=false:=by
    intro j hj hn
    have:=List.all_eq_true.1 c9 j (List.mem_range.2 hj)
    rw[Bool.or_eq_true]at this
    rcases this with h|h
    · exact absurd (fv.1 h) hn
    · rw[Bool.and_eq_true,Bool.not_eq_true']at h
      refine⟨?_,h.2⟩
      have h:=h.1
      unfold keys
      split at h
      · next e=>rw[e];rfl
      · cases h
  have QQ:xT P Gl Γ N ops (λi=>R.getD i []) m rs (c_ (ops.toList.take m) F) M (λi=>gs.getD i false) (λi=>ws.getD i false) KQ oB sB uB:=by
    refine⟨xS,λj o hj ho hn hr=>vj cq hp j (List.mem_range.2 hj) o (gd ho) hn hr,CE,⟨cH,pr,cn,yI⟩,λk hk pE=>?_,λk hk=>?_,by simpa using c8.1,λj o hj ho hn=>?_,λj hj=>ai m j hj⟩
    · have:=List.all_eq_true.1 D1 k hk
      rw[fv.2 pE]at this
      cases this
    · have:=List.all_eq_true.1 ck k hk
      simp only[Bool.and_eq_true,Bool.not_eq_true']at this
      refine⟨this.1,λj cI=>?_⟩
      unfold keys at cI
      have pF:j<rs.length:=by
        rcases Nat.lt_or_ge j rs.length with h|h
        · exact h
        · unfold bO at cI
          rw[List.getD_eq_getElem?_getD,List.getElem?_eq_none h]at cI
          simp at cI
      have jd:bO rs j∈rs:=by
        unfold bO
        rw[List.getD_eq_getElem?_getD,List.getElem?_eq_getElem pF]
        exact List.getElem_mem pF
      have:=List.all_eq_true.1 this.2 (bO rs j) jd
      rw[fv.2 cI]at this
      cases this
    · have:=List.all_eq_true.1 c8.2 j (List.mem_range.2 hj)
      rw[Bool.or_eq_true]at this
      rcases this with h|h
      · exact absurd (fv.1 h) hn
      · rw[gd ho]at h
        simpa using h
  refine⟨c5,?_⟩
  have gC:Cw w {w with drawn:=w.drawn+1}:=⟨rfl,rfl,rfl,Nat.le_refl _,λ_ _=>rfl⟩
  have h':=h.step (aT.more h.mem gC)
  have di:=h'.mem
  have lj:m<ops.size:=(Array.getElem?_eq_some_iff.1 xS).1
  refine O5 (ω:=ω) (a0:=a) (aN:=ω) hS SS hT di h'.frame h'.de gB QQ ?_ ops.size (Array.replicate ops.size false) a _ (by simp) ?_ ?_
  · intro a' w' ah v w2 I xm
    obtain⟨_,fY,hx,jd,jc⟩:=xm
    obtain⟨g1,g2,g3⟩:=I.all SS di h'.frame (E:=List.range m) (λj hj=>List.mem_range.1 hj) (λj hj k hk=>List.mem_range.2 (by have:=ai j k hk;have:=List.mem_range.1 hj;omega))
    have ra:cf rs M ah (List.range m)=cf rs M ah (R.getD m []):=by
      show(⟨_,_,_,_⟩:Ow)=⟨_,_,_,_⟩
      congr 1
      funext k q
      have:fF rs M (List.range m) k↔fF rs M (R.getD m []) k:=by
        constructor
        · rintro ⟨e0,e1,e2⟩
          exact⟨e0,e1,λ⟨j,hj,cI⟩=>e2 ⟨j,List.mem_range.2 (ai m j hj),cI⟩⟩
        · rintro ⟨e0,e1,e2⟩
          refine⟨e0,e1,?_⟩
          rintro ⟨j,hj,cI⟩
          have gn:=List.mem_range.1 hj
          by_cases hn:j∈R.getD m []
          · exact e2 ⟨j,hn,cI⟩
          · rw[(CE j gn hn).1]at cI;cases cI
      by_cases hh:fF rs M (List.range m) k
      · rw[if_pos hh,if_pos (this.1 hh)]
      · rw[if_neg hh,if_neg (λe=>hh (this.2 e))]
    have rb: ∀k,aa (vM rs M (List.range m)) k=aa (vM rs M (R.getD m [])) k:=by
      intro k
      by_cases hk: ∃j∈R.getD m [],k∈keys rs j
      · obtain⟨j,hj,cI⟩:=hk
        rw[qh (λi j=>SS.key i j _) cI (List.mem_range.2 (ai m j hj)),qh (λi j=>SS.key i j _) cI hj]
      · rw[mq λj hj cI=>?_,mq λj hj cI=>hk ⟨j,hj,cI⟩]
        have gn:=List.mem_range.1 hj
        by_cases hn:j∈R.getD m []
        · exact hk ⟨j,hn,cI⟩
        · rw[(CE j gn hn).1]at cI;cases cI
    rw[ra]at g1 g2 g3
    have bh:=I.mQ SS di (R.getD m [])
    have bc:St P Gl N (vF rs (c_ (ops.toList.take m) F) (List.range m)) (uB++vM rs M (List.range m)) a' w2 fY:=⟨g2.ext hx,λg=>Den.ext (o:=ω.bare) (bh.trans hx).bare (h'.de g),jd.congr (O4 rb),I.defers⟩
    obtain⟨F5,M5,um,uo,J⟩:=qe J
    have T_:oB∈ops.toList:=List.mem_of_getElem? cE
    have Ua:cJ S a a':=by
      refine⟨by rw[I.size,h.frame.size],λi hi=>?_⟩
      refine I.ld i λj hj gm=>?_
      unfold gQ at gm
      cases ho:ops[j]? with
      |none=>rw[ho]at gm;cases gm
      |some o=>
       rw[ho]at gm
       exact hi (hd o (List.mem_of_getElem? (gd ho)) i gm)
    exact mw hS hQ (ops.toList.drop (m+1)) _ _ _ _ (a'.put oB.dst v) w2 fY (λo ho=>hd o (List.mem_of_mem_drop ho)) ((bc.put jc).congr um uo) ((g3.ext hx).put T9 v) (((gC.ext ω).trans bh).trans hx) (Ua.put (hd oB T_) v) J
  · unfold iN
    exact Nat.le_trans (List.length_filter_le _ _) (by simp)
  · have no: ∀j,¬(Array.replicate ops.size false).getD j false=true:=λj=>by
      simp[Array.getD]
    exact⟨λj hj=>absurd hj (no j),λj hj=>absurd hj (no j),⟨rfl,rfl,rfl,Nat.le_refl _,λ_ _ _=>rfl⟩,λj k _ _ L hL=>(let⟨_,_,_,_,c,T,J,U,_⟩:=di.row k none L hL;⟨c,T,J,U⟩),λ_ h=>h,di.dg,λ_ _ h=>h,rfl,di.dj,rfl,λ_ _ _=>rfl,λk p L hL=>di.own _ ⟨k,p,L,hL,rfl⟩,di.inj,h.defers,h.frame.size,λ_ _=>rfl,λj hj=>absurd hj (no j)⟩
def RC (P:Program) (Gl:Nat->SV) (Γ:Table) (ops:List Oper) (m:Nat) (F:Fr) (M:Mem) (nx:Nat):Option Nat:=
  (List.range m).find? λi=>match ops[i]? with|some o=>(match xn P Gl Γ F M nx o with|some x=>!gR (aa M) x.2.2|none=>false)|none=>false
def RD (Gl:Nat->SV) (ops:List Oper) (m:Nat) (F:Fr) (M:Mem):Option Nat:=
  (List.range m).find? λi=>match ops[i]? with|some o=>(match o.op with| .store _ x _=>(match bZ Gl F x with| .ptr k _ _ _ _=>(match (aa M k).b with| .row _ _ _=>true|_=>false)|_=>false)|_=>false)|none=>false
def qm (ops:List Oper):Nat->List (List Nat)->Nat->Nat
  |_,[],m=>m
  |i,p::r,m=>qm ops (i+1) r (match tj ops i||Nat.beq p.length i||(List.range i).all λj=>cb p j||tj ops j with|true=>m|false=>i+1)
def Ie (ops:List Oper) (m:Nat):Nat->List (List Nat)->List Nat->List Nat
  |_,[],acc=>acc
  |i,p::r,acc=>Ie ops m (i+1) r (match !Nat.blt i m&&tj ops i&&!((List.range i).all λj=>cb p j||tj ops j)&&p.all (λj=>Nat.blt j m||cb acc j)with|true=>acc++ [i]|false=>acc)
def isApp:Op->Bool
  | .call {callee:= .builtin .append,args:=_,argTypes:=_}=>true
  |_=>false
def O6:Op->Option Nat
  | .call {callee:= .builtin .append,args:=⟨[.tmp t,_]⟩,argTypes:=_}=>some t
  |_=>none
def Qk:SV->Bool
  | .aw _ _ _ _ _=>true
  |_=>false
def Tk:Op->Bool
  | .load _ _=>true
  |_=>false
def RE (V:Fr) (ops:List Oper) (o:Oper):Bool:=
  match O6 o.op with
  |some t=>
   (match ops.any λp=>isApp p.op&&ru p.dst t with
    |true=>true
    |false=>match ops.any λp=>Tk p.op&&ru p.dst t with
     |true=>Qk (look V t)
     |false=>false)
  |none=>false
def RF (V:Fr) (ops:List Oper) (m:Nat):Option Nat:=(List.range m).find? λi=>match ops[i]? with|some o=>RE V ops o|none=>false
def iw (R:List (List Nat)) (n i:Nat):List Nat×List Nat:=((List.range n).filter λk=>!Nat.beq k i&&!cb (R.getD k []) i,(List.range n).filter λk=>cb (R.getD k []) i)
def Ar (P:Program) (sg:Bool) (Gl:Nat->SV) (Γ:Table) (N:Nat) (ops:List Oper) (K:Fr->Mem->Nat->Prop) (F:Fr) (M:Mem) (nx:Nat):Prop:=
  oO (df ops []) λR=>
  dI (qm ops 0 R 0) λm=>
  match RF (iK P sg Gl Γ N M (ops.take m) F nx) ops m with
  |some i=>
   pd ((iw R ops.length i).1++ [i]++(iw R ops.length i).2) λord=>
   match nF ord ops.length with
   |true=>dI (iw R ops.length i).1.length λmB=>rz (gS ord ops) λtN=>Ax P sg Gl Γ N tN mB K F M nx
   |false=>False
  |none=>
  match (match RC P Gl Γ ops m (iK P sg Gl Γ N M (ops.take m) F nx) M nx with|some i=>some i|none=>RD Gl ops m (iK P sg Gl Γ N M (ops.take m) F nx) M)with
  |some i=>
   pd ((iw R ops.length i).1++ [i]++(iw R ops.length i).2) λord=>
   match nF ord ops.length with
   |true=>dI (iw R ops.length i).1.length λmB=>rz (gS ord ops) λtN=>Ay P sg Gl Γ N tN mB K F M nx
   |false=>False
  |none=>
  match Ie ops m 0 R []with
  | []=>wU P sg Gl Γ N ops K F M nx
  |i::r=>
   pd (List.range m++(i::r)++((List.range ops.length).filter λk=>!Nat.blt k m&&!cb (i::r) k)) λord=>
   match nF ord ops.length with
   |true=>rz (gS ord ops) λtN=>wU P sg Gl Γ N tN K F M nx
   |false=>False
theorem O0 (hS:Sound P Gl Γ) {sg:Bool} {id:Nat} {ops:Array Oper} {Q:Exit->Act->World->Prop} {K:Fr->Mem->Nat->Prop} {S:List Nat} {nx:Nat}
    (gB: ∀d c a v w,Q (.panic c) (Act.put a d v) w->Q (.panic c) a w) (hQ: ∀a' w',tM P Gl N S a w ω K a' w'->Q .normal a' w') (hd: ∀o∈ops.toList,∀t,o.dst=some t->t∈S) (h:St P Gl N F M a w ω) (he:Ar P sg Gl Γ N ops.toList K F M nx):(Code.region id ops true).wp P Q a w:=by
  unfold Ar at he
  simp only[sq,iH,zU,Ig]at he
  split at he
  · next iB _=>
    split at he
    · next hp=>
      have hp:nF ((iw (df ops.toList []) ops.toList.length iB).1++ [iB]++(iw (df ops.toList []) ops.toList.length iB).2) ops.size=true:=by simpa using hp
      revert he hp
      generalize (iw (df ops.toList []) ops.toList.length iB).1.length=mB
      generalize ((iw (df ops.toList []) ops.toList.length iB).1++ [iB]++(iw (df ops.toList []) ops.toList.length iB).2)=ord
      intro he hp
      have kU:=zV hp
      obtain⟨J,U⟩:=MH (ops:=(gS ord ops.toList).toArray) (m:=mB) hS gB hQ (λo ho t ht=>by
        obtain⟨o0,uq,e⟩:=zW (by simpa using ho)
        exact hd o0 uq t (e▸ht)) h (by simpa using he)
      rw[qi kU]at U
      exact wp_region_any J (vn kU ops.size (C7 kU) U)
    · exact he.elim
  split at he
  · next iB _=>
    split at he
    · next hp=>
      have hp:nF ((iw (df ops.toList []) ops.toList.length iB).1++ [iB]++(iw (df ops.toList []) ops.toList.length iB).2) ops.size=true:=by simpa using hp
      revert he hp
      generalize (iw (df ops.toList []) ops.toList.length iB).1.length=mB
      generalize ((iw (df ops.toList []) ops.toList.length iB).1++ [iB]++(iw (df ops.toList []) ops.toList.length iB).2)=ord
      intro he hp
      have kU:=zV hp
      obtain⟨J,U⟩:=MI (ops:=(gS ord ops.toList).toArray) (m:=mB) hS gB hQ (λo ho t ht=>by
        obtain⟨o0,uq,e⟩:=zW (by simpa using ho)
        exact hd o0 uq t (e▸ht)) h (by simpa using he)
      rw[qi kU]at U
      exact wp_region_any J (vn kU ops.size (C7 kU) U)
    · exact he.elim
  split at he
  · obtain⟨J,U⟩:=FE hS gB hQ hd h he
    exact wp_region_any J U
  · next i r hmv=>
    split at he
    · next hp=>
      have hp:nF (List.range (qm ops.toList 0 (df ops.toList []) 0)++(i::r)++((List.range ops.toList.length).filter λk=>!Nat.blt k (qm ops.toList 0 (df ops.toList []) 0)&&!cb (i::r) k)) ops.size=true:=by simpa using hp
      revert he hp
      generalize (List.range (qm ops.toList 0 (df ops.toList []) 0)++(i::r)++((List.range ops.toList.length).filter λk=>!Nat.blt k (qm ops.toList 0 (df ops.toList []) 0)&&!cb (i::r) k))=ord
      intro he hp
      have kU:=zV hp
      obtain⟨J,U⟩:=FE (ops:=(gS ord ops.toList).toArray) hS gB hQ (λo ho t ht=>by
        obtain⟨o0,uq,e⟩:=zW (by simpa using ho)
        exact hd o0 uq t (e▸ht)) h (by simpa using he)
      rw[qi kU]at U
      exact wp_region_any J (vn kU ops.size (C7 kU) U)
    · exact he.elim
end
end Go.Sy
