/-
  Sy: regions that draw their order: one operation, seen by what is before it.
-/
import Derived.Test.YtmieeldmfehpoaaGreatDoorYD
import Derived.Orders
set_option linter.unusedVariables false
set_option linter.unusedSimpArgs false
set_option linter.unusedVariables false
set_option linter.unusedSimpArgs false
namespace Go.Sy
open Go.RowKit
structure Rc where
  fs:List (Nat×SV)
  hs:List Hd
  u:a_
def AX:a_->(a_->Prop)->Prop
  | [],k=>k []
  |p::r,k=>fh p.1 λa=>Ac p.2 λb=>AX r λr=>k ((a,b)::r)
theorem Mu: ∀(l:a_) (k:a_->Prop),AX l k=k l
  | [],_=>rfl
  |s::r,k=>by simp only[AX,jK,Kt,Mu r]
def FZ (x:Rc) (k:Rc->Prop):Prop:=match x with|⟨fs,hs,u⟩=>AY fs λfs=>vO hs λhs=>AX u λu=>k ⟨fs,hs,u⟩
theorem WV (x:Rc) (k:Rc->Prop):FZ x k=k x:=by cases x;simp only[FZ,Mv,CA,Mu]
def tq:List Rc->(List Rc->Prop)->Prop
  | [],k=>k []
  |p::r,k=>FZ p λa=>tq r λr=>k (a::r)
theorem Kr: ∀(l:List Rc) (k:List Rc->Prop),tq l k=k l
  | [],_=>rfl
  |s::r,k=>by simp only[tq,WV,Kr r]
def cr (rs:List Rc) (j:Nat):Rc:=rs.getD j ⟨[],[],[]⟩
def vF (rs:List Rc) (F:Fr) (E:List Nat):Fr:=E.flatMap (λj=>(cr rs j).fs)++F
def vM (rs:List Rc) (M:Mem) (E:List Nat):Mem:=E.flatMap (λj=>(cr rs j).u)++M
def vH (rs:List Rc) (E:List Nat):List Hd:=E.flatMap λj=>(cr rs j).hs
def zw:Op->Bool
  | .store _ _ _=>true
  | .call {callee:= .builtin .copy,args:=_,argTypes:=_}=>true
  | .call {callee:= .builtin .clear,args:=_,argTypes:=_}=>true
  |_=>false
def gK (N:Nat) (d:Option Nat) (s:SV):List (Nat×SV):=match d with|some t=>(match Nat.blt t N with|true=> [(t,s)]|false=> [])|none=> []
def nL (P:Program) (sg:Bool) (Gl:Nat->SV) (Γ:Table) (N:Nat) (ops:List Oper) (V:Fr) (M:Mem) (H:List Hd) (nx:Nat) (pr:List Nat) (o:Oper):Option (Prop×Rc):=
  match oV H o.dst,guardOf N ops V H o,zw o.op with
  |true,.yes,false=>
   match kP P sg Gl Γ V M nx H [] o.op with
   | .ok s=>some (True,⟨gK N o.dst s,[],[]⟩)
   | .jR _ s=>some (True,⟨gK N o.dst s,[],[]⟩)
   | .dz p s=>some (p,⟨gK N o.dst s,[],[]⟩)
   | .mem p s u=>match iY (ae M) u&&nD (ae M) u with|true=>some (p,⟨gK N o.dst s,[],u⟩)|false=>none
   | .any _ _=>none
   | .bad=>none
  |true,.no,_=>some (True,⟨gK N o.dst (.v undef),[],[]⟩)
  |true,.ask d want,false=>
   match o.dst,kP P sg Gl Γ V M nx H (eR H H.length d want) o.op with
   |some t,.ok s=>match Nat.blt t N&&!Nat.beq d t with|true=>some (True,⟨[(t,.aK)],[⟨t,d,want,s⟩],[]⟩)|false=>none
   |some t,.jR _ s=>match Nat.blt t N&&!Nat.beq d t with|true=>some (True,⟨[(t,.aK)],[⟨t,d,want,s⟩],[]⟩)|false=>none
   |some t,.dz p s=>match Nat.blt t N&&!Nat.beq d t with|true=>some (hyps (ir (eR H H.length d want) V H) (eR H H.length d want) p,⟨[(t,.aK)],[⟨t,d,want,s⟩],[]⟩)|false=>none
   |some t,.mem p s u=>match Nat.blt t N&&!Nat.beq d t,mW (ae M) u&&(iY (ae M) u&&nD (ae M) u)with|true,true=>some (hyps (ir (eR H H.length d want) V H) (eR H H.length d want) p,⟨[(t,.aK)],[⟨t,d,want,s⟩],u⟩)|_,_=>none
   |_,_=>none
  |_,_,_=>none
section
variable {P:Program} {w:World} {ω:Ow} {ρ:Operand->SV} {Gl:Nat->SV} {Γ:Table} {N:Nat} {F:Fr} {M:Mem} {a:Act} {H:List Hd}
theorem iT.refl (w:World) (ω:Ow):iT w ω w ω (λk=>k∈([]:a_).map (·.1)):=⟨Cw.refl w,λ_ h=>h,rfl,λ_ _ _=>rfl,λk p L hk=>by simp at hk,rfl⟩
inductive mu (P:Program) (w:World) (ω:Ow) (M:Mem) (a:Act) (o:Oper) (s:SV):a_->Prop where
  |pure (v:Value) (h:(execOp a.eval o).run P w= .ok (.value v) w) (hd:Den w ω s v):mu P w ω M a o s []
  |mem {u:a_} (h:lv P w ω M a o s u):mu P w ω M a o s u
  |call {u:a_} (h:vq P w ω M a o s u):mu P w ω M a o s u
  |app {u:a_} (h:nD (ae M) u=true->iY (ae M) u=true->lv P w ω M a o s u):mu P w ω M a o s u
theorem mu.wp {o:Oper} {s:SV} {u:a_} (hm:aR w ω M) (h:mu P w ω M a o s u) (hf:(iY (ae M) u&&nD (ae M) u)=true) {next:Act->World->Prop} {Q:Exit->Act->World->Prop}
    (hn: ∀v w' al,bz w ω M w' al (u++M)->iT w ω w' al (λk=>k∈u.map (·.1))->Den w' al s v->next (a.put o.dst v) w'):o.wp P a w next Q:=by
  rw[Bool.and_eq_true]at hf
  obtain⟨hf,F3⟩:=hf
  unfold Oper.wp
  cases h with
  |pure v h hd=>rw[h];exact hn v w ω (bz.refl hm) (iT.refl _ _) hd
  |app h=>
   obtain⟨n,v,w',al,J,U,h3,h4,h5⟩:=h F3 hf
   rw[J]
   rcases U with rfl|⟨rfl,rfl⟩
   · exact hn v w' al h3 h5 h4
   · exact hn _ w' al h3 h5 h4
  |mem h=>
   obtain⟨n,v,w',al,J,U,h3,h4,h5⟩:=h
   rw[J]
   rcases U with rfl|⟨rfl,rfl⟩
   · exact hn v w' al h3 h5 h4
   · exact hn _ w' al h3 h5 h4
  |call h=>
   obtain⟨id,vs,J,U⟩:=h
   rw[J]
   unfold qD at U
   refine U.mono ?_
   rintro e w' ⟨v,al,rfl,h3,h4,h5,_⟩
   exact hn v w' al h3 (h5 hf) h4
theorem Dw {o:Oper} {r:R} {K:SV->a_->Prop} (h: ∀{K':SV->Prop},r.run K'->fb P w ω a o K') (he:r.up.run K): ∃s u,mu P w ω M a o s u/\K s u:=by
  have:r.run (λs=>K s []):=by cases r<;>exact he
  obtain⟨s,v,J,U,h3⟩:=h this
  exact⟨s,[],.pure v J U,h3⟩
theorem p8 {o:Oper} {x:Option (Prop×SV×a_)} {K:SV->a_->Prop} (h: ∀{p s u},x=some (p,s,u)->p->mu P w ω M a o s u) (he:(lC x).run K): ∃s u,mu P w ω M a o s u/\K s u:=by
  cases x with
  |none=>exact he.elim
  |some x=>exact⟨_,_,h rfl he.1,he.2⟩
theorem Vg (hS:Sound P Gl Γ) (hG: ∀g,Den w ω.bare (Gl g) (.pointer (some ⟨g,0,none⟩))) (h:Cx P w ω ρ M a) {sg:Bool} {nx:Nat} {o:Oper} (hq:zw o.op=false) {K:SV->a_->Prop} (he:(wF P sg Γ ρ (ae M) nx o.op).run K):
    ∃s u,mu P w ω M a o s u/\K s u:=by
  unfold wF at he
  split at he
  · next T x ho=>exact p8 (λe hp=> .mem (Mw h ho e)) he
  · next T ho=>exact p8 (λe hp=> .mem (IZ h ho e)) he
  · next T x y ho=>rw[ho]at hq;cases hq
  · next T x y ho=>exact p8 (λe hp=> .mem (Ku h ho e hp)) he
  · next T len parts ho=>exact p8 (λe hp=> .mem (H3 h ho e)) he
  · next x y T T' ho=>
    split at he
    · next ht=>
      obtain rfl:=Nat.eq_of_beq_eq_true ht
      exact p8 (λe hp=> .app λJ U=>Q3 h ho e hp J U) he
    · exact he.elim
  · next x y T T' ho=>rw[ho]at hq;cases hq
  · next x T ho=>rw[ho]at hq;cases hq
  · next f args ts ho=>exact p8 (λe hp=> .call (CB hS hG h ho e hp)) he
  · next r name args ts ho=>exact p8 (λe hp=> .call (BF hS hG h ho e hp)) he
  · next c x y ho=>exact Dw (λhe=>uQ h ho he) he
  · next op T x y T' ho=>
    obtain⟨s,v,J,U,h3⟩:=Kv h ho he
    exact⟨s,[],.pure v J U,h3⟩
  · exact Dw (λhe=>qE h he) he
theorem I0 (hS:Sound P Gl Γ) (h:St P Gl N F M a w ω) (hH:gw w ω N a H) {sg:Bool} {nx:Nat} {As:List (Nat×Bool)} (hA:lx a As) {o:Oper} (hq:zw o.op=false) {K:SV->a_->Prop} (he:(kP P sg Gl Γ F M nx H As o.op).run K):
    ∃s u,mu P w ω M a o s u/\K s u:=by
  have iE: ∀{As},lx a As->Cx P w ω (cK Gl (ir As F H)) M a:=λhA=>⟨(lO h.frame hA H hH).cK h.dY,h.mem⟩
  unfold kP at he
  split at he
  · next c x y ho=>
    refine Dw ?_ he
    clear he
    intro K' he
    unfold CC at he
    split at he
    · next d=>
      split at he
      · next b hb=>
        split at he
        · next p r hp hr=>
          obtain⟨u,hu,hd⟩:=H4 (lO h.frame hA H hH) hb (by simp)
          obtain rfl:=hd
          have ec:a.eval (.tmp d)= .bool b:=by
            simp only[Act.eval,Array.getD_eq_getD_getElem?,hu];rfl
          refine⟨.v (.bool (bif b then p else r)),.bool (bif b then p else r),?_,rfl,he⟩
          cases b with
          |true=>
           have oo:=(lU hH H.length d true hu).append hA
           have ex:=j7 hp ((iE oo).val x)
           simp[execOp,ho,ec,asBool,ex]
          |false=>
           have oo:=(lU hH H.length d false hu).append hA
           have ey:=j7 hr ((iE oo).val y)
           simp[execOp,ho,ec,asBool,ey]
        · exact he.elim
      · exact uQ (iE hA) ho he
    · exact he.elim
  · exact Vg hS h.dY (iE hA) hq he
theorem H5 (hm:aR w ω M): ∀{u:a_},mW (ae M) u=true-> ∀k∈u.map (·.1),∀p,ω.β k p=none
  | [],_,k,hk,_=>by simp at hk
  |(k0,e)::r,h,k,hk,p=>by
   simp only[mW,Bool.and_eq_true]at h
   obtain⟨⟨⟨⟨⟨J,U⟩,h3⟩,h4⟩,h5⟩,h6⟩:=h
   rw[lj]at U
   simp only[List.map_cons,List.mem_cons]at hk
   rcases hk with rfl|hk
   · exact(jZ (xw hm J).mem U).2.2 p
   · exact H5 hm J k hk p
theorem Th {u:a_} (hm:aR w ω M) (h:mW (ae M) u=true):iT w ω w ω (λk=>k∈u.map (·.1)):=
  ⟨Cw.refl w,λ_ h=>h,rfl,λ_ _ _=>rfl,(λk p L hk hb=>absurd hb (by rw[H5 hm h k hk p];exactλe=>by cases e)),rfl⟩
def vp (w:World) (ω:Ow) (N:Nat) (a:Act) (rc:Rc):Prop:=(∀p∈rc.fs,∀u,a.tmps[p.1]? =some u->Den w ω p.2 u)/\gw w ω N a rc.hs
theorem xt {d:Option Nat} {s:SV} {v:Value} (hd:Den w ω s v): ∀p∈gK N d s,∀u,(a.put d v).tmps[p.1]? =some u->Den w ω p.2 u:=by
  intro p hp u hu
  unfold gK at hp
  split at hp
  · next t=>
    split at hp
    · simp only[List.mem_singleton]at hp
      subst hp
      simp only[Act.put]at hu
      rw[Array.getElem?_setIfInBounds_self]at hu
      split at hu
      · obtain rfl:=Option.some.inj hu;exact hd
      · cases hu
    · simp at hp
  · simp at hp
theorem Z3 (hS:Sound P Gl Γ) {sg:Bool} {ops:Array Oper} {Q:Exit->Act->World->Prop} {nx i:Nat} {pr:List Nat} {o:Oper} {p:Prop} {rc:Rc} (ho:ops[i]? =some o) (h:St P Gl N F M a w ω) (hH:gw w ω N a H)
    (he:nL P sg Gl Γ N ops.toList F M H nx pr o=some (p,rc)) (hp:p) {K:Act->World->Prop}
    (hK: ∀v w' al,bz w ω M w' al (rc.u++M)->iT w ω w' al (λk=>k∈rc.u.map (·.1))->vp w' al N (a.put o.dst v) rc->K (a.put o.dst v) w'):wpOp P ops Q i K a w:=by
  have jF:=B2 (ops:=ops) h.frame H o
  unfold wpOp
  rw[ho]
  simp only
  unfold nL at he
  split at he
  · next dE jl hq=>
    rw[jl]at jF
    cases jF with
    |yes hw=>
     rw[if_pos hw]
     left
     have key: ∃s u,rc=⟨gK N o.dst s,[],u⟩/\(iY (ae M) u&&nD (ae M) u)=true/\(kP P sg Gl Γ F M nx H [] o.op).run (λs' u'=>s'=s/\u'=u):=by
       split at he
       · next s hr=>
         simp only[Option.some.injEq,Prod.mk.injEq]at he
         exact⟨s,[],he.2.symm,rfl,by rw[hr];exact⟨rfl,rfl⟩⟩
       · next s hr=>
         simp only[Option.some.injEq,Prod.mk.injEq]at he
         exact⟨s,[],he.2.symm,rfl,by rw[hr];exactλ_=>⟨rfl,rfl⟩⟩
       · next s hr=>
         simp only[Option.some.injEq,Prod.mk.injEq]at he
         exact⟨s,[],he.2.symm,rfl,by rw[hr];exact⟨by rw[he.1];exact hp,rfl,rfl⟩⟩
       · next s u hr=>
         split at he
         · next hf=>
           simp only[Option.some.injEq,Prod.mk.injEq]at he
           exact⟨s,u,he.2.symm,hf,by rw[hr];exact⟨by rw[he.1];exact hp,rfl,rfl⟩⟩
         · cases he
       · cases he
       · cases he
     obtain⟨s,u,rfl,hf,fO⟩:=key
     obtain⟨s',u',hU,rfl,rfl⟩:=I0 hS h hH (λp hp=>by cases hp) hq fO
     exact hU.wp h.mem hf λv w' al J U h3=>hK v w' al J U ⟨xt h3,λx hx=>by cases hx⟩
  · next dE jl=>
    rw[jl]at jF
    cases jF with
    |no hw=>
     rw[if_neg (by rw[hw];exact Bool.false_ne_true)]
     simp only[Option.some.injEq,Prod.mk.injEq]at he
     obtain⟨_,rfl⟩:=he
     exact hK undef w ω (bz.refl h.mem) (iT.refl _ _) ⟨xt rfl,λx hx=>by cases hx⟩
  · next d want dE jl hq=>
    rw[jl]at jF
    cases jF with
    |ask _ _ hw=>
     have jn: ∀{t:Nat},(Nat.blt t N&&!Nat.beq d t)=true->t<N/\d≠t:=by
       intro t ht
       rw[Bool.and_eq_true,Bool.not_eq_true']at ht
       exact⟨Nat.le_of_ble_eq_true ht.1,λe=>by rw[e,Nat.beq_refl]at ht;cases ht.2⟩
     have key: ∃t s u,o.dst=some t/\t<N/\d≠t/\rc=⟨[(t,.aK)],[⟨t,d,want,s⟩],u⟩/\(mW (ae M) u&&(iY (ae M) u&&nD (ae M) u))=true/\(a.tmps[d]? =some (.bool want)->(kP P sg Gl Γ F M nx H (eR H H.length d want) o.op).run (λs' u'=>s'=s/\u'=u)):=by
       split at he
       · next t s fc hr=>
         split at he
         · next hc=>
           simp only[Option.some.injEq,Prod.mk.injEq]at he
           exact⟨t,s,[],fc,(jn hc).1,(jn hc).2,he.2.symm,rfl,λ_=>by rw[hr];exact⟨rfl,rfl⟩⟩
         · cases he
       · next t _ s fc hr=>
         split at he
         · next hc=>
           simp only[Option.some.injEq,Prod.mk.injEq]at he
           exact⟨t,s,[],fc,(jn hc).1,(jn hc).2,he.2.symm,rfl,λ_=>by rw[hr];exactλ_=>⟨rfl,rfl⟩⟩
         · cases he
       · next t p' s fc hr=>
         split at he
         · next hc=>
           simp only[Option.some.injEq,Prod.mk.injEq]at he
           refine⟨t,s,[],fc,(jn hc).1,(jn hc).2,he.2.symm,rfl,λgP=>?_⟩
           rw[hr]
           have hA:=lU hH H.length d want gP
           exact⟨uR (lO h.frame hA H hH) _ hA (by rw[he.1];exact hp),rfl,rfl⟩
         · cases he
       · next t p' s u fc hr=>
         split at he
         · next hc hu=>
           simp only[Option.some.injEq,Prod.mk.injEq]at he
           refine⟨t,s,u,fc,(jn hc).1,(jn hc).2,he.2.symm,hu,λgP=>?_⟩
           rw[hr]
           have hA:=lU hH H.length d want gP
           exact⟨uR (lO h.frame hA H hH) _ hA (by rw[he.1];exact hp),rfl,rfl⟩
         · cases he
       · cases he
     obtain⟨t,s,u,fc,ht,AZ,rfl,Qj,fO⟩:=key
     rw[Bool.and_eq_true]at Qj
     obtain⟨Qk,wC⟩:=Qj
     rw[fc]at dE
     have facts: ∀{v:Value} {w':World} {al:Ow},(a.tmps[d]? =some (.bool want)->Den w' al s v)->(a.tmps[d]? ≠some (.bool want)->v=undef)->vp w' al N (a.put (some t) v) ⟨[(t,.aK)],[⟨t,d,want,s⟩],u⟩:=by
       intro v w' al g1 g2
       refine⟨λp hp u hu=>?_,?_⟩
       · simp only[List.mem_singleton]at hp
         subst hp
         trivial
       · exact gw.cons (H:= []) (w:=w') (ω:=al) (λx hx=>by cases hx) (by rfl) h.frame.size ht AZ g1 g2
     by_cases gP:a.tmps[d]? =some (.bool want)
     · rw[if_pos (hw.2 gP)]
       left
       obtain⟨s',u',hU,rfl,rfl⟩:=I0 hS h hH (lU hH H.length d want gP) hq (fO gP)
       refine hU.wp h.mem wC λv w' al J U h3=>hK v w' al J U ?_
       rw[fc]
       exact facts (λ_=>h3) (λhn=>absurd gP hn)
     · have F6:Region.wanted o (yielded ops a.tmps)=false:=by
         cases hx:Region.wanted o (yielded ops a.tmps)with
         |false=>rfl
         |true=>exact absurd (hw.1 hx) gP
       rw[if_neg (by rw[F6];exact Bool.false_ne_true)]
       refine hK undef w ω (xw h.mem Qk) (Th h.mem Qk) ?_
       rw[fc]
       exact facts (λhn=>absurd hn gP) (λ_=>rfl)
  · cases he
/-! ### register operations -/
def isVal:SV->Bool
  | .v _=>true
  | .bl _=>true
  |_=>false
def ON:SV->SV
  | .v x=> .v x
  | .bl b=> .bl b
  |_=> .aK
def nN (V:Fr):Fr:=V.map λp=>(p.1,ON p.2)
theorem Hq: ∀(V:Fr) (t:Nat),look (nN V) t=ON (look V t)
  | [],_=>rfl
  |p::r,t=>by
   simp only[nN,List.map_cons,look]
   cases Nat.beq p.1 t
   · exact Hq r t
   · rfl
def s8:R->R
  | .ok s=>match isVal s with|true=> .ok s|false=> .bad
  | .dz p s=>match isVal s with|true=> .dz p s|false=> .bad
  | .jR p s=>match isVal s with|true=> .jR p s|false=> .bad
  | .bad=> .bad
theorem H6 {r:R} {K:SV->Prop} (h:(s8 r).run K):r.run (λs=>isVal s=true/\K s):=by
  cases r with
  |bad=>exact h
  |ok s=>simp only[s8]at h;cases hv:isVal s with
   |true=>rw[hv]at h;exact⟨hv,h⟩
   |false=>rw[hv]at h;exact h.elim
  |dz p s=>simp only[s8]at h;cases hv:isVal s with
   |true=>rw[hv]at h;exact⟨h.1,hv,h.2⟩
   |false=>rw[hv]at h;exact h.elim
  |jR p s=>simp only[s8]at h;cases hv:isVal s with
   |true=>rw[hv]at h;exactλhp=>⟨hv,h hp⟩
   |false=>rw[hv]at h;exact h.elim
def jG (V:Fr):Operand->SV:=cK (λ_=> .aK) V
def Z5:SV->Bool
  | .ptr _ _ _ _ _=>true
  | .pt _ _ _=>true
  |_=>false
def pB (P:Program) (sg:Bool) (V:Fr) (m:Nat->bk) (op:Op):R:=
  match op with
  | .pick c x y=>s8 (vd (jG (nN V) c) (jG (nN V) x) (jG (nN V) y))
  | .move x=> .ok (jG V x)
  | .extract x i=>uw (jG V x) i
  | .fieldAddr S x j=>match Z5 (jG V x)with|true=>sA P S (jG V x) j m|false=> .bad
  | .indexAddr T x y=>uS P T (F7 y) (jG V x) (jG V y) m
  |op=>s8 (ry P sg (jG (nN V)) (ae []) op)
theorem fb.and {o:Oper} {K:SV->Prop} {v:Value} (h:fb P w ω a o K) (hv: ∀w',(execOp a.eval o).run P w'= .ok (.value v) w'): ∃s,Den w ω s v/\K s:=by
  obtain⟨s,v',J,U,h3⟩:=h
  rw[hv w]at J
  obtain⟨e,_⟩:=Result.ok.inj J
  have:v=v':=by injection e
  subst this
  exact⟨s,U,h3⟩
theorem Dv (hm:aR w ω M) (hF:dK w ω N F a.tmps) {sg:Bool} {o:Oper} {s:SV} (he:(pB P sg F (ae M) o.op).run (λs'=>s'=s)):
    ∃v,(∀w',(execOp a.eval o).run P w'= .ok (.value v) w')/\Den w ω s v:=by
  let bY:Ow:=⟨λ_=>False,λ_=>False,λ_ _=>none,λ_=>(0,0)⟩
  have ot: ∀w',aR w' bY []:=λw'=>⟨rfl,λb ⟨k,p,L,h,_⟩=>(by cases h),λ_ h=>False.elim h,λ_ h=>False.elim h,λ_ h=>False.elim h,λ_ _ _ _ _ _ h=>(by cases h),λ_ _ _ h=>(by cases h),λ_ _ _ h=>(by cases h),λ_ _ h=>(by cases h),λ_ _ _ _=>rfl⟩
  have hv: ∀w' x,Den w' bY (jG (nN F) x) (a.eval x):=by
    intro w' x
    cases x with
    |tmp t=>
     show Den w' bY (look (nN F) t) _
     rw[Hq]
     have hd:=hF.get t
     cases hl:look F t with
     |v y=>rw[hl]at hd;exact hd
     |bl b=>rw[hl]at hd;exact hd
     |_=>trivial
    |const v=>cases v<;>exact rfl
    |global g=>trivial
    |func f=>exact⟨#[],rfl,rfl,λj hj=>absurd hj (by omega)⟩
  have PI: ∀w',Cx P w' bY (jG (nN F)) [] a:=λw'=>⟨hv w',ot w'⟩
  have hJ: ∀x,Den w ω (jG F x) (a.eval x):=by
    intro x
    cases x with
    |tmp t=>exact hF.get t
    |const v=>cases v<;>exact rfl
    |global g=>trivial
    |func f=>exact⟨#[],rfl,rfl,λj hj=>absurd hj (by omega)⟩
  have Ql:Cx P w ω (jG F) M a:=⟨hJ,hm⟩
  have bare:(∀w',fb P w' bY a o (λs'=>isVal s'=true/\s'=s))-> ∃v,(∀w',(execOp a.eval o).run P w'= .ok (.value v) w')/\Den w ω s v:=by
    intro hp
    obtain⟨s0,_,_,_,hs,rfl⟩:=hp w
    cases s0 with
    |v x=>
     refine⟨x,λw'=>?_,rfl⟩
     obtain⟨s',v,J,U,_,rfl⟩:=hp w'
     have U:v=x:=U
     rw[J,U]
    |bl b=>
     refine⟨.bool b,λw'=>?_,rfl⟩
     obtain⟨s',v,J,U,_,rfl⟩:=hp w'
     have U:v= .bool b:=U
     rw[J,U]
    |_=>cases hs
  unfold pB at he
  split at he
  · next c x y ho=>exact bare λw'=>uQ (PI w') ho (H6 he)
  · next x ho=>
    have he:jG F x=s:=he
    subst he
    exact⟨a.eval x,λw'=>by simp[execOp,ho],hJ x⟩
  · next x i ho=>
    have hx:=hJ x
    unfold uw at he
    split at he
    · next n f hs=>
      split at he
      · next hi=>
        have hi:=Nat.le_of_ble_eq_true hi
        have he:f i=s:=he
        subst he
        rw[hs]at hx
        obtain⟨cs,e,hn,hj⟩:=hx
        obtain⟨y,y1,y2⟩:=hj i hi
        exact⟨y,λw'=>by simp[execOp,ho,e,y1,Instr.extract,Result.andThen],y2⟩
      · exact he.elim
    · exact he.elim
  · next S x j ho=>
    split at he
    · next hp=>
      have hx:=hJ x
      have YP:=I1 Ql ho he
      obtain⟨ad,jE⟩: ∃ad,a.eval x= .pointer (some ad):=by
        cases ht:jG F x with
        |ptr k st p i j=>
         rw[ht]at hx he
         unfold sA at he
         split at he
         · split at he
           · split at he
             · split at he
               · next heq=>
                 obtain⟨rfl,rfl,rfl,rfl,rfl⟩:=SV.ptr.inj heq
                 split at he
                 · next bC=>obtain⟨_,L,_,_,e⟩:=fS hm bC hx;exact⟨_,e⟩
                 · exact he.elim
               · next heq=>cases heq
               · next heq=>cases heq
               · exact he.elim
             · exact he.elim
           · exact he.elim
         · exact he.elim
        |pt q n f=>rw[ht]at hx;obtain⟨ad,e,_⟩:=hx;exact⟨ad,e⟩
        |_=>rw[ht]at hp;cases hp
      obtain⟨s',v,J,U,h3⟩:=YP
      have h3:s'=s:=h3
      subst h3
      refine⟨v,λw'=>?_,U⟩
      unfold sA at he
      split at he
      · next fs hu=>
        split at he
        · next fd tL=>
          split at he
          · next i hi=>
            split at he
            · next hz hs=>
              have run: ∀w',(execOp a.eval o).run P w'= .ok (.value (.pointer (some (ad.add fd.offset)))) w':=by
                intro w'
                have hz:0<i.size:=Nat.le_of_ble_eq_true hz
                have hs:(sizeOf fd.type).run P w'= .ok i.size w':=by simp[sizeOf,run_typeInfo w' hi,Result.andThen]
                simp[execOp,ho,jE,Instr.fieldAt,Instr.sureAddr,run_underlying hu,tL,fieldPlace,hs,Result.andThen,Nat.ne_of_gt hz]
              have e:=(run w).symm.trans J
              rw[run w']
              injection e with e _
              rw[e]
            · next hz hs=>
              have run: ∀w',(execOp a.eval o).run P w'= .ok (.value (.pointer (some (ad.add fd.offset)))) w':=by
                intro w'
                have hz:0<i.size:=Nat.le_of_ble_eq_true hz
                have hs:(sizeOf fd.type).run P w'= .ok i.size w':=by simp[sizeOf,run_typeInfo w' hi,Result.andThen]
                simp[execOp,ho,jE,Instr.fieldAt,Instr.sureAddr,run_underlying hu,tL,fieldPlace,hs,Result.andThen,Nat.ne_of_gt hz]
              have e:=(run w).symm.trans J
              rw[run w']
              injection e with e _
              rw[e]
            · next hz hs=>rw[hs]at hp;cases hp
            · exact he.elim
          · exact he.elim
        · exact he.elim
      · exact he.elim
    · exact he.elim
  · next T x y ho=>
    obtain⟨s',v,J,U,rfl⟩:=H7 Ql ho he
    exact⟨v,J,U⟩
  · exact bare λw'=>qE (PI w') (H6 he)
end
end Go.Sy
set_option linter.unusedVariables false
set_option linter.unusedSimpArgs false
namespace Go.Sy
open Go.RowKit
variable {P:Program} {w w':World} {ω:Ow} {M:Mem}
def One (w w':World) (b:Nat):Prop:=w'.os=w.os/\w'.tape=w.tape/\w'.output=w.output/\w'.heap.size=w.heap.size/\ ∀b',b'≠b->w'.heap[b']? =w.heap[b']?
theorem One.trans {w w' fi:World} {b:Nat} (h:One w w' b) (k:One w' fi b):One w fi b:=
  ⟨k.1.trans h.1,k.2.1.trans h.2.1,k.2.2.1.trans h.2.2.1,k.2.2.2.1.trans h.2.2.2.1,λb' hb=>(k.2.2.2.2 b' hb).trans (h.2.2.2.2 b' hb)⟩
theorem One.set (w:World) (a:Addr) (x:Value):One w (w.setCell a x) a.block:=
  ⟨rfl,rfl,rfl,by simp[World.setCell],λb' hb=>uj w a x hb⟩
theorem H2: ∀(cs:List SV) (us:List Value) {w:World} {M:Mem} (hm:aR w ω M) {k:Nat} {l:List SV} (hb:(ae M k).b= .cells l) (hx:bX w ω cs us) (J: ∀u∈us,u.oneCell'=true) (hn: ∀s∈cs,cM s=false) {L:Loc} (hL:ω.β k none=some L) {j:Nat} (hj:j+cs.length<=l.length) {ad:Addr} (q:Nat) (jE:ad.add q=⟨L.b,L.o+j,none⟩),
    ∃w',(storeCells ad us q).run P w= .ok () w'/\(∃M',bz w ω M w' ω M'/\ae M' k={ae M k with b:= .cells (lQ l j cs)}/\ ∀k',k'≠k->ae M' k'=ae M k')/\One w w' L.b
  | [],[],w,M,hm,k,l,hb,hx,J,hn,L,hL,j,hj,ad,q,jE=>⟨w,by simp[storeCells],⟨M,bz.refl hm,by simp only[lQ];rw[<-hb],λ_ _=>rfl⟩,rfl,rfl,rfl,rfl,λ_ _=>rfl⟩
  |v::r,x::t,w,M,hm,k,l,hb,⟨hx,AW⟩,J,hn,L,hL,j,hj,ad,q,jE=>by
   obtain⟨c1,c2⟩:=uF hm hb hL
   have rp:j<l.length:=by simp at hj;omega
   have st:=bz.putCells hm hb hL (i:=0) (by omega) rp (hn v (by simp)) hx
   obtain⟨_,_,_,_,c,T,g1,g2,g3,g4⟩:=hm.row _ _ _ hL
   obtain⟨y,y1,_⟩:=g4 0 (by omega) j (by omega)
   simp only[Nat.zero_mul,Nat.add_zero]at st y1
   have r1:(store (ad.add q) x).run P w= .ok () (w.setCell ⟨L.b,L.o+j,none⟩ x):=by rw[jE];exact xu g1 (Array.getElem?_eq_some_iff.1 y1).1 (J x (by simp))
   have Fi:ad.add (q+1)=⟨L.b,L.o+(j+1),none⟩:=by
     rw[<-add_add,jE,ju];simp[Nat.add_assoc]
   obtain⟨w',r2,⟨M',s2,e1,e2⟩,o2⟩:=H2 r t st.mem (k:=k) (l:=l.set j v) (by rw[c_]) (AW.ext st.ext) (λy hy=>J y (by simp[hy])) (λs hs=>hn s (by simp[hs])) hL (j:=j+1) (by simp at hj⊢;omega) (q+1) Fi
   refine⟨w',by simp[storeCells,r1,r2,Result.andThen],⟨M',st.trans s2,?_,λk' hk=>?_⟩,(One.set w _ x).trans o2⟩
   · rw[e1,c_];rfl
   · rw[e2 k' hk,cB (Ne.symm hk)]
  | [],_::_,_,_,_,_,_,_,hx,_,_,_,_,_,_,_,_,_=>hx.elim
  |_::_,[],_,_,_,_,_,_,hx,_,_,_,_,_,_,_,_,_=>hx.elim
def lr (n:Nat):List SV:=List.replicate n .aK
theorem xR (n j:Nat):aH (lr n) j= .aK:=by
  simp only[aH,lr,List.getD_eq_getElem?_getD,List.getElem?_replicate]
  split<;>rfl
theorem aR.Mn (hm:aR w ω M) {k:Nat} {e:bk} {l l':List SV} (he:ae M k=e) (hb:e.b= .cells l) (hl:l'.length=l.length)
    (h: ∀L,ω.β k none=some L-> ∀c T,w.heap[L.b]? =some (Obj.cells c T (0,0))-> ∀j,j<l.length-> ∀x,c[L.o+j]? =some x->Den w ω (aH l j) x->cM (aH l' j)=false/\Den w ω (aH l' j) x) (cX: ∀j,cM (aH l j)=false):aR w ω ((k,{e with b:= .cells l'})::M):=by
  subst he
  have tu: ∀k',k'≠k->ae ((k,{ae M k with b:= .cells l'})::M) k'=ae M k':=λk' h=>cB (Ne.symm h)
  refine⟨?_,hm.own,hm.d_,hm.dj,hm.fD,hm.inj,hm.low,λk' p L hL=>?_,λk' l2 hk=>?_,λk' i j hk=>?_⟩
  · rw[hm.cur];exact(se (M:=M) (k:=k) (e:={ae M k with b:= .cells l'}) rfl rfl).symm
  · by_cases hk:k'=k
    · subst hk
      obtain⟨r,g1,g2,g3,c,T,g4,g5,g6,g7⟩:=hm.row k' p L hL
      rw[c_]
      cases p with
      |none=>
       unfold rowAt at g1;rw[hb]at g1
       obtain rfl:=Option.some.inj g1
       have bV:l.length=L.sz:=g2
       have qY:1=L.cY:=g3
       refine⟨⟨l'.length,1,λ_ j=>aH l' j⟩,by unfold rowAt;rw[c_];rfl,by show l'.length=_;rw[hl];exact bV,qY,c,T,g4,g5,g6,λi hi j hj=>?_⟩
       obtain⟨x,x1,x2⟩:=g7 i hi j hj
       obtain rfl:i=0:=by omega
       have x2:cF w ω (ae M k').hl k' 0 j (aH l j) x:=x2
       rw[fq (cX j)]at x2
       obtain⟨y1,y2⟩:=h L hL c T g4 j (by omega) x (by simpa using x1) x2
       refine⟨x,x1,?_⟩
       show cF w ω (ae M k').hl k' 0 j (aH l' j) x
       rw[fq y1];exact y2
      |some ij=>unfold rowAt at g1;rw[hb]at g1;cases g1
    · obtain⟨r,g1,g2,g3,g4⟩:=hm.row k' p L hL
      exact⟨r,by unfold rowAt at g1⊢;rw[tu k' hk];exact g1,g2,g3,by rw[tu k' hk];exact g4⟩
  · by_cases kr:k'=k
    · subst kr;exact hm.live k' l hb
    · rw[tu k' kr]at hk;exact hm.live k' l2 hk
  · by_cases kr:k'=k
    · subst kr;rw[c_]at hk;exact hm.eM _ _ _ hk
    · rw[tu k' kr]at hk;exact hm.eM _ _ _ hk
theorem aR.Z2 (hm:aR w ω M) {k n:Nat} (hb:(ae M k).b= .cells (lr n)) {L:Loc} (hL:ω.β k none=some L) (ho:One w w' L.b) (hs: ∃c T,w'.heap[L.b]? =some (Obj.cells c T (0,0))/\c.size=L.len):aR w' ω M/\Ext w ω w' ω:=by
  have hA:ω.A L.b:=hm.own _ ⟨k,none,L,hL,rfl⟩
  have bP:Ext w ω w' ω:=⟨ho.1,ho.2.1,ho.2.2.1,λb hb hn=>ho.2.2.2.2 b (λe=>hn (e▸hA)),λ_ _ h=>h,λ_ _ _ h=>h,Nat.le_of_eq ho.2.2.2.1.symm,λ_=>⟨Nat.le_refl _,Nat.le_refl _⟩,λ_ _ _ h _=>h,λ_ h=>h⟩
  refine⟨⟨hm.cur,hm.own,λb h=>by rw[ho.2.2.2.1];exact hm.d_ b h,hm.dj,λb h=>by rw[ho.2.2.2.1];exact hm.fD b h,hm.inj,λk p L h=>by rw[ho.2.2.2.1];exact hm.low k p L h,λk' p L' h=>?_,hm.live,hm.eM⟩,bP⟩
  obtain⟨r,g1,g2,g3,g4⟩:=hm.row k' p L' h
  refine⟨r,g1,g2,g3,?_⟩
  by_cases pF:L'.b=L.b
  · obtain⟨rfl,rfl⟩:=hm.inj _ _ _ _ _ _ h hL pF
    obtain rfl:L=L':=Option.some.inj (hL.symm.trans h)
    unfold rowAt at g1;rw[hb]at g1
    obtain rfl:=Option.some.inj g1
    obtain⟨c0,T0,J,U,h3,h4⟩:=g4
    obtain⟨c,T,e1,e2⟩:=hs
    have bV:(lr n).length=L.sz:=g2
    have qY:1=L.cY:=g3
    refine⟨c,T,e1,e2,h3,λi hi j hj=>?_⟩
    have ai:L.o+i*L.sz+j<c.size:=by
      have:=kL hi hj
      omega
    refine⟨c[L.o+i*L.sz+j],Array.getElem?_eq_getElem ai,?_⟩
    show cF _ _ _ _ _ _ (aH (lr n) j) _
    rw[xR];trivial
  · exact g4.ext bP rfl (λ_=>rfl) (ho.2.2.2.2 _ pF)
def evalW (P:Program) (Gl:Nat->SV) (N:Nat) (ops:List Oper) (V:Fr) (M:Mem) (H:List Hd) (o:Oper):Option (Nat×a_):=
  match o.dst,guardOf N ops V H o,o.op with
  |none,.yes,.store T x y=>
   match cK Gl (ir [] V H) x,mM (ae M) (cK Gl (ir [] V H) y),P.info? T with
   | .ptr k st none ii j,some cs,some i=>
     match cC (ae M) k st none,(ae M k).b,Nat.beq cs.length i.size,cs.all (mf (ae M))with
     |true,.cells l,true,true=>
      match Nat.ble (j+cs.length) l.length with
      |true=>some (k,[(k,{ae M k with b:= .cells (lQ l j cs)})])
      |false=>none
     |_,_,_,_=>none
   |_,_,_=>none
  |_,_,_=>none
theorem Z4 {Gl:Nat->SV} {N:Nat} {ops:Array Oper} {V:Fr} {H:List Hd} {a:Act} {Q:Exit->Act->World->Prop} {i:Nat} {o:Oper} {k:Nat} {u:a_} (ho:ops[i]? =some o) (h:St P Gl N V M a w ω) (hH:gw w ω N a H)
    (he:evalW P Gl N ops.toList V M H o=some (k,u)) {K:Act->World->Prop}
    (hK: ∀w' L,ω.β k none=some L->aR w' ω (u++M)->One w w' L.b->K a w'):wpOp P ops Q i K a w:=by
  have jF:=B2 (ops:=ops) h.frame H o
  unfold wpOp
  rw[ho]
  simp only
  unfold evalW at he
  split at he
  · next T x y hd jl hU=>
    rw[jl]at jF
    cases jF with
    |yes hw=>
     rw[if_pos hw]
     left
     have hF:=lO h.frame (As:= []) (λp hp=>by cases hp) H hH
     have Qi:=hF.cK h.dY x
     have hyv:=hF.cK h.dY y
     split at he
     · next k' st ii j cs inf hx gy hi=>
       split at he
       · next l bC hb hlen jd=>
         split at he
         · next hle=>
           simp only[Option.some.injEq,Prod.mk.injEq]at he
           obtain⟨rfl,rfl⟩:=he
           rw[hx]at Qi
           have hm:=h.mem
           obtain⟨e0,L,hL,jm,ex⟩:=fS hm bC Qi
           obtain⟨c1,c2⟩:=uF hm hb hL
           obtain rfl:ii=0:=by omega
           simp only[Nat.zero_mul,Nat.add_zero]at ex
           have hc:=uk hm gy hyv
           have J:=xF hm jd hc
           have hlen:=Nat.eq_of_beq_eq_true hlen
           have bV:(a.eval y).cells.size=inf.size:=by rw[<-Array.length_toList,<-hc.len,hlen]
           have eo:(sizeOf T).run P w= .ok inf.size w:=by simp[sizeOf,run_typeInfo w hi,Result.andThen]
           obtain⟨w',r1,⟨M',s1,e1,e2⟩,o1⟩:=H2 (P:=P) cs _ hm hb hc J (λs hs=>xo (List.all_eq_true.1 jd s hs)) hL (Nat.le_of_ble_eq_true hle) (ad:=⟨L.b,L.o+j,none⟩) 0 (by simp[Addr.add])
           have run:(execOp a.eval o).run P w= .ok .skip w':=by
             simp[execOp,hU,ex,Instr.storeAt,Instr.sureAddr,storeVar,eo,bV,r1,Result.andThen]
           have kj:aR w' ω ([(k',{ae M k' with b:= .cells (lQ l j cs)})]++M):=s1.mem.congr λq=>by
             by_cases hq:q=k'
             · subst hq;rw[e1];exact c_
             · rw[e2 q hq];exact cB (Ne.symm hq)
           have Fj:=hK w' L hL kj o1
           unfold Oper.wp
           rw[run]
           show K (a.put o.dst undef) w'
           rw[hd]
           exact Fj
         · cases he
       · cases he
     · cases he
  · cases he
end Go.Sy
set_option linter.unusedVariables false
set_option linter.unusedSimpArgs false
namespace Go.Sy
open Go.RowKit Classical
def keys (rs:List Rc) (j:Nat):List Nat:=(cr rs j).u.map (·.1)
def gO (rs:List Rc) (M:Mem) (E:List Nat) (k:Nat):Prop:=cv (ae M) k=true/\(∃j,k∈keys rs j)/\ ¬ ∃j∈E,k∈keys rs j
noncomputable def cR (rs:List Rc) (M:Mem) (ω:Ow) (E:List Nat):Ow:=⟨ω.A,ω.Z,λk p=>if gO rs M E k then none else ω.β k p,ω.cur⟩
def Qc (M:Mem) (e:bk) (k:Nat):Prop:= ∃r d n l,ae M k=⟨r,d,none,.cells (lr n)⟩/\l.length=n/\e=⟨r,d,none,.cells l⟩
def pD (bj:Ow) (W:Nat->Prop) (w0 w:World):Prop:=w.os=w0.os/\w.tape=w0.tape/\w.output=w0.output/\w0.heap.size<=w.heap.size/\
  ∀b,b<w0.heap.size->(∀k,W k-> ∀L,bj.β k none=some L->L.b≠b)->w.heap[b]? =w0.heap[b]?
def Wr (rs:List Rc) (M:Mem) (D:Nat->Prop) (k:Nat):Prop:=cv (ae M) k=false/\ ∃j,D j/\k∈keys rs j
def iX (ops:Array Oper) (i:Nat):Option Nat:=(ops[i]?).bind (·.dst)
theorem yP {k:Nat}: ∀{u:a_} {M:Mem},k∈u.map (·.1)->ae (u++M) k=ae u k
  | [],_,h=>by simp at h
  |p::r,M,h=>by
   by_cases hk:p.1=k
   · obtain⟨p1,p2⟩:=p
     subst hk
     rw[List.cons_append,c_,c_]
   · obtain⟨p1,p2⟩:=p
     rw[List.cons_append,cB hk,cB hk]
     refine yP ?_
     simp only[List.map_cons,List.mem_cons]at h
     exact h.resolve_left (λe=>hk e.symm)
theorem uO {k:Nat}: ∀{u:a_} {M:Mem},k∉u.map (·.1)->ae (u++M) k=ae M k
  | [],_,_=>rfl
  |p::r,M,h=>by
   obtain⟨p1,p2⟩:=p
   simp only[List.map_cons,List.mem_cons,not_or]at h
   rw[List.cons_append,cB (Ne.symm h.1)]
   exact uO h.2
theorem yn {rs:List Rc} {M:Mem} {j:Nat} {E:List Nat}:vM rs M (j::E)=(cr rs j).u++vM rs M E:=by simp[vM]
theorem nq {rs:List Rc} {M:Mem} {k:Nat}: ∀{E:List Nat},(∀j∈E,k∉keys rs j)->ae (vM rs M E) k=ae M k
  | [],_=>rfl
  |j::E,h=>by
   rw[yn,uO (h j (by simp))]
   exact nq λi hi=>h i (by simp[hi])
theorem sc {rs:List Rc} {M:Mem} {k j:Nat} (hd: ∀i j,k∈keys rs i->k∈keys rs j->i=j) (hk:k∈keys rs j): ∀{E:List Nat},j∈E->ae (vM rs M E) k=ae (cr rs j).u k
  | [],h=>by simp at h
  |i::E,h=>by
   rw[yn]
   by_cases hi:k∈keys rs i
   · obtain rfl:=hd i j hi hk
     exact yP hi
   · rw[uO hi]
     rcases List.mem_cons.1 h with rfl|h
     · exact absurd hk hi
     · exact sc hd hk h
structure ji (P:Program) (sg:Bool) (Gl:Nat->SV) (Γ:Table) (N:Nat) (ops:Array Oper) (PR:Nat->List Nat) (m:Nat) (rs:List Rc) (F F0:Fr) (M:Mem) (cG wr:Nat->Bool):Prop where
  dep: ∀i o,ops[i]? =some o-> ∀x∈PR i,∃e∈o.after,Region.binds .any e=true/\(x=e.on\/x∈PR e.on)
  closed: ∀i j,j∈PR i-> ∀k∈PR j,k∈PR i
  lt: ∀i j,j∈PR i->j<i
  ru: ∀i o,ops[i]? =some o-> ∀e∈o.after,Region.binds .any e=true->e.on<i
  le:m<=ops.size
  ev: ∀i o,i<m->ops[i]? =some o->cG i=false->wr i=false-> ∃nx p,nL P sg Gl Γ N ops.toList (vF rs F0 (PR i)) (vM rs M (PR i)) (vH rs (PR i)) nx (PR i) o=some (p,cr rs i)/\p
  evw: ∀i o,i<m->ops[i]? =some o->cG i=false->wr i=true->o.dst=none/\(cr rs i).fs= []/\(cr rs i).hs= []/\ ∃k,evalW P Gl N ops.toList (vF rs F0 (PR i)) (vM rs M (PR i)) (vH rs (PR i)) o=some (k,(cr rs i).u)/\cv (ae M) k=false
  fr: ∀i,wr i=false-> ∀k∈keys rs i,cv (ae M) k=true
  FV: ∀i o,i<m->ops[i]? =some o->cG i=true->o.guard=none/\ ∃s,cr rs i=⟨gK N o.dst s,[],[]⟩/\(pB P sg (vF rs F0 (PR i)) (ae (vM rs M (PR i))) o.op).run (λs'=>s'=s)
  apart: ∀i oi,i<m->cG i=true->ops[i]? =some oi-> ∀j oj,ops[j]? =some oj->j≠i->j∉PR i->(∀e∈oj.after,Region.binds .any e=true->e.on≠i)->oi.apart ops oj=true
  fj: ∀i,i<m->cG i=true->Region.noSelect ops=true
  fs: ∀i p,p∈(cr rs i).fs->iX ops i=some p.1/\p.1<N
  hs: ∀i h,h∈(cr rs i).hs->iX ops i=some h.slot/\ ∃g∈PR i,iX ops g=some h.d
  one: ∀i j t,i<m->j<m->iX ops i=some t->iX ops j=some t->i=j
  key: ∀i j k,k∈keys rs i->k∈keys rs j->i=j
  free: ∀i k,k∈keys rs i->cv (ae M) k=true\/(cv (ae M) k=false/\Qc M (ae (cr rs i).u k) k)
  Qh: ∀i k,k∈keys rs i->(ae (cr rs i).u k).rs=(ae M k).rs/\(ae (cr rs i).u k).ds=(ae M k).ds
  short: ∀i,m<=i->cr rs i=⟨[],[],[]⟩
  base: ∀t,look F0 t= .aK\/(look F0 t=look F t/\ ∀i,i<m->iX ops i≠some t)
  out: ∀t,N<=t->look F0 t= .aK
structure Inv (ops:Array Oper) (PR:Nat->List Nat) (m:Nat) (rs:List Rc) (M:Mem) (N:Nat) (a0:Act) (w0:World) (bj:Ow) (D:Nat->Prop) (a:Act) (w:World) (ω:Ow):Prop where
  low: ∀j,D j->j<m
  eR: ∀j,D j-> ∀k∈PR j,D k
  cw:pD bj (Wr rs M D) w0 w
  FT: ∀j k,k∈keys rs j->cv (ae M) k=false-> ∀L,bj.β k none=some L-> ∃c T,w.heap[L.b]? =some (Obj.cells c T (0,0))/\c.size=L.len
  A0: ∀b,bj.A b->ω.A b
  d_: ∀b,ω.A b->b<w.heap.size
  Ek: ∀b,b<w0.heap.size-> ¬bj.A b-> ¬ω.A b
  Z:ω.Z=bj.Z
  dj: ∀b,ω.A b-> ¬ω.Z b
  cur:ω.cur=bj.cur
  lN: ∀k p,(∀j,D j->k∈keys rs j->cv (ae M) k=false)->ω.β k p=bj.β k p
  own: ∀k p L,ω.β k p=some L->ω.A L.b
  inj: ∀k p L k' p' L',ω.β k p=some L->ω.β k' p'=some L'->L.b=L'.b->k=k'/\p=p'
  defers:a.defers= []
  size:a.tmps.size=N
  keep: ∀t,(∀j,D j->iX ops j≠some t)->a.tmps[t]? =a0.tmps[t]?
  rq: ∀j,D j->aR w (cR rs M ω (j::PR j)) (vM rs M (j::PR j))/\vp w (cR rs M ω (j::PR j)) N a (cr rs j)
section
variable {P:Program} {sg:Bool} {Gl:Nat->SV} {Γ:Table} {N:Nat} {ops:Array Oper} {PR:Nat->List Nat} {m:Nat} {rs:List Rc} {F F0:Fr} {M:Mem} {cG wr:Nat->Bool}
variable {a0 a:Act} {w0 w:World} {bj ω:Ow} {D:Nat->Prop}
theorem sub_eq {E:List Nat} {k:Nat} {p:Path} (h: ¬gO rs M E k):(cR rs M ω E).β k p=ω.β k p:=if_neg h
theorem uP {E:List Nat} {k:Nat} {p:Path} (h:gO rs M E k):(cR rs M ω E).β k p=none:=if_pos h
theorem Cz {E E':List Nat} (h: ∀j∈E,j∈E'):Ext w (cR rs M ω E) w (cR rs M ω E'):=
  ⟨rfl,rfl,rfl,λ_ _ _=>rfl,λ_ _ h=>h,λ_ _ _ h=>h,Nat.le_refl _,λ_=>⟨Nat.le_refl _,Nat.le_refl _⟩,λk p L hL _=>by
    by_cases hk:gO rs M E k
    · rw[uP hk]at hL;cases hL
    · rw[sub_eq hk]at hL
      rw[sub_eq]
      · exact hL
      · rintro ⟨h0,J,U⟩
        exact hk ⟨h0,J,λ⟨j,hj,dr⟩=>U ⟨j,h j hj,dr⟩⟩,λ_ h=>h⟩
theorem oJ {E:List Nat} {k:Nat} {p:Path} {L:Loc} (h:(cR rs M ω E).β k p=some L): ¬gO rs M E k/\ω.β k p=some L:=by
  by_cases hk:gO rs M E k
  · rw[uP hk]at h;cases h
  · exact⟨hk,by rwa [sub_eq hk]at h⟩
theorem Inv.nW (S:ji P sg Gl Γ N ops PR m rs F F0 M cG wr) (hm:aR w0 bj M) (I:Inv ops PR m rs M N a0 w0 bj D a w ω) (E:List Nat):Ext w0 bj w (cR rs M ω E):=
  ⟨I.cw.1,I.cw.2.1,I.cw.2.2.1,λb hb hn=>I.cw.2.2.2.2 b hb (λk _ L hL e=>hn (hm.own b ⟨k,none,L,hL,e⟩)),I.Ek,λb _ _ hz rv=>hz (by rw[<-I.Z];exact rv),I.cw.2.2.2.1,λk=>by rw[show(cR rs M ω E).cur=bj.cur from I.cur];exact⟨Nat.le_refl _,Nat.le_refl _⟩,λk p L hL _=>by
    have cP:cv (ae M) k=false:=by
      cases hf:cv (ae M) k with
      |false=>rfl
      |true=>have:=(jZ hm hf).2.2 p;rw[this]at hL;cases hL
    rw[sub_eq (λh=>by have:=h.1;rw[cP]at this;cases this),I.lN k p (λ_ _ _=>cP)]
    exact hL,λb hz=>by show ω.Z b;rw[I.Z];exact hz⟩
theorem Inv.all (S:ji P sg Gl Γ N ops PR m rs F F0 M cG wr) (hm:aR w0 bj M) (hF:dK w0 bj N F a0.tmps) (I:Inv ops PR m rs M N a0 w0 bj D a w ω) {E:List Nat} (hE: ∀j∈E,D j) (hc: ∀j∈E,∀k∈PR j,k∈E):
    aR w (cR rs M ω E) (vM rs M E)/\dK w (cR rs M ω E) N (vF rs F0 E) a.tmps/\gw w (cR rs M ω E) N a (vH rs E):=by
  have e0:=I.nW S hm E
  have inc: ∀{j},j∈E-> ∀i∈j::PR j,i∈E:=λhj i hi=>by
    rcases List.mem_cons.1 hi with rfl|hi
    · exact hj
    · exact hc _ hj _ hi
  have yQ: ∀k,(∃j∈E,k∈keys rs j)\/(∀j∈E,k∉keys rs j):=λk=>by
    by_cases h: ∃j∈E,k∈keys rs j
    · exact .inl h
    · exact .inr λj hj hk=>h ⟨j,hj,hk⟩
  have zv: ∀{j k},j∈E->k∈keys rs j->ae (vM rs M E) k=ae (vM rs M (j::PR j)) k:=λhj hk=>by
    rw[sc (λi j=>S.key i j _) hk hj,sc (λi j=>S.key i j _) hk (by simp)]
  have qC: ∀{j k} {E':List Nat},j∈E'->k∈keys rs j-> ¬gO rs M E' k:=λhj hk h=>h.2.2 ⟨_,hj,hk⟩
  refine⟨⟨?_,?_,I.d_,I.dj,?_,?_,?_,?_,?_,?_⟩,⟨I.size,?_,?_⟩,?_⟩
  · show ω.cur=_
    rw[I.cur,hm.cur]
    funext k
    unfold dG
    rcases yQ k with⟨j,hj,hk⟩|cP
    · rw[sc (λi j=>S.key i j _) hk hj,(S.Qh j k hk).1,(S.Qh j k hk).2]
    · rw[nq cP]
  · rintro b ⟨k,p,L,h,rfl⟩
    exact I.own _ _ _ (oJ h).2
  · intro b hz
    have hz:ω.Z b:=hz
    rw[I.Z]at hz
    exact Nat.lt_of_lt_of_le (hm.fD b hz) I.cw.2.2.2.1
  · intro k p L k' p' L' J U e
    exact I.inj _ _ _ _ _ _ (oJ J).2 (oJ U).2 e
  · intro k p L h
    exact I.d_ _ (I.own _ _ _ (oJ h).2)
  · intro k p L h
    obtain⟨FY,hL⟩:=oJ h
    rcases yQ k with⟨j,hj,hk⟩|cP
    · obtain⟨rm,_⟩:=I.rq j (hE j hj)
      obtain⟨r,g1,g2,g3,g4⟩:=rm.row k p L (by rw[sub_eq (qC (by simp) hk)];exact hL)
      refine⟨r,by unfold rowAt at g1⊢;rw[zv hj hk];exact g1,g2,g3,?_⟩
      rw[zv hj hk]
      exact g4.ext (Cz (inc hj)) rfl (λq=>by rw[sub_eq FY,sub_eq (qC (by simp) hk)]) rfl
    · have Ab: ∀i,k∈keys rs i->cv (ae M) k=false:=λi m7=>by
        cases hf:cv (ae M) k with
        |false=>rfl
        |true=>exact absurd ⟨hf,⟨i,m7⟩,λ⟨j,hj,hk⟩=>cP j hj hk⟩ FY
      rw[I.lN k p (λj _=>Ab j)]at hL
      obtain⟨r,g1,g2,g3,g4⟩:=hm.row k p L hL
      refine⟨r,by unfold rowAt at g1⊢;rw[nq cP];exact g1,g2,g3,?_⟩
      rw[nq cP]
      by_cases hW: ∃i,k∈keys rs i
      · obtain⟨i,m7⟩:=hW
        obtain⟨_,r0,d0,n,l',e1,e2,e3⟩:=(S.free i k m7).resolve_left (by rw[Ab i m7];simp)
        cases p with
        |some ij=>unfold rowAt at g1;rw[e1]at g1;cases g1
        |none=>
         unfold rowAt at g1;rw[e1]at g1
         obtain rfl:=Option.some.inj g1
         obtain⟨c,T,J,U⟩:=I.FT i k m7 (Ab i m7) L hL
         obtain⟨c0,T0,f1,f2,f3,f4⟩:=g4
         refine⟨c,T,J,U,f3,λa ha b hb=>?_⟩
         have ai:L.o+a*L.sz+b<c.size:=by have:=kL ha hb;omega
         exact⟨_,Array.getElem?_eq_getElem ai,by show cF _ _ _ _ _ _ (aH (lr n) b) _;rw[xR];trivial⟩
      · refine g4.ext e0 (by rw[show(cR rs M ω E).cur=bj.cur from I.cur]) (λq=>by rw[sub_eq FY,I.lN k q (λj _=>Ab j)]) (I.cw.2.2.2.2 _ (hm.low k p L hL) ?_)
        rintro k' ⟨wD,j',jj,fH⟩ L' fx e
        obtain⟨rfl,_⟩:=hm.inj _ _ _ _ _ _ fx hL e
        exact hW ⟨j',fH⟩
  · intro k l hl
    rcases yQ k with⟨j,hj,hk⟩|cP
    · rw[zv hj hk]at hl
      obtain⟨L,hL⟩:=(I.rq j (hE j hj)).1.live k l hl
      exact⟨L,by rw[sub_eq (qC hj hk)];exact(oJ hL).2⟩
    · rw[nq cP]at hl
      have hf:cv (ae M) k=false:=by unfold cv;rw[hl];rfl
      obtain⟨L,hL⟩:=hm.live k l hl
      exact⟨L,by rw[sub_eq (λh=>by have:=h.1;rw[hf]at this;cases this),I.lN k none (λ_ _ _=>hf)];exact hL⟩
  · intro k i j hh
    by_cases PH:gO rs M E k
    · exact uP PH
    rw[sub_eq PH]
    rcases yQ k with⟨q,hq,hk⟩|cP
    · rw[zv hq hk]at hh
      have:=(I.rq q (hE q hq)).1.eM k i j hh
      rwa [sub_eq (qC (by simp) hk)]at this
    · rw[nq cP]at hh
      have hf:cv (ae M) k=false:=by unfold cv;rw[hh];cases Mt (ae M k).b<;>rfl
      rw[I.lN k _ (λ_ _ _=>hf)]
      exact hm.eM k i j hh
  · intro t u hu
    have Tf: ∀(l:List (Nat×SV)) (G:Fr),(∃s,(t,s)∈l/\look (l++G) t=s)\/((∀p∈l,p.1≠t)/\look (l++G) t=look G t):=by
      intro l G
      induction l with
      |nil=>exact .inr ⟨λp hp=>by simp at hp,rfl⟩
      |cons p r ih=>
       obtain⟨p1,p2⟩:=p
       by_cases hp:p1=t
       · subst hp
         exact .inl ⟨p2,by simp,look_eq⟩
       · rw[List.cons_append,nC hp]
         rcases ih with⟨s,J,U⟩|⟨J,U⟩
         · exact .inl ⟨s,by simp[J],U⟩
         · exact .inr ⟨λq hq=>by rcases List.mem_cons.1 hq with rfl|hq;exact hp;exact J q hq,U⟩
    show Den w _ (look (E.flatMap (λj=>(cr rs j).fs)++F0) t) u
    rcases Tf (E.flatMap λj=>(cr rs j).fs) F0 with⟨s,J,U⟩|⟨J,U⟩
    · rw[U]
      obtain⟨j,hj,m8⟩:=List.mem_flatMap.1 J
      exact((I.rq j (hE j hj)).2.1 (t,s) m8 u hu).ext (Cz (inc hj))
    · rw[U]
      rcases S.base t with e|⟨e,cP⟩
      · rw[e];trivial
      · rw[e]
        refine(hF.den t u ?_).ext e0
        rw[<-I.keep t λj hj=>cP j (I.low j hj)]
        exact hu
  · intro t ht
    have Tg: ∀(l:List (Nat×SV)) (G:Fr),(∀p∈l,p.1<N)->look (l++G) t=look G t:=by
      intro l G h
      induction l with
      |nil=>rfl
      |cons p r ih=>
       obtain⟨p1,p2⟩:=p
       have:=h (p1,p2) (by simp)
       rw[List.cons_append,nC (by simp at this;omega)]
       exact ih λq hq=>h q (by simp[hq])
    show look (E.flatMap (λj=>(cr rs j).fs)++F0) t= .aK
    rw[Tg _ _ λp hp=>by
     obtain⟨j,hj,m8⟩:=List.mem_flatMap.1 hp
     exact(S.fs j p m8).2]
    exact S.out t ht
  · intro h hh
    obtain⟨j,hj,m8⟩:=List.mem_flatMap.1 hh
    exact(gw.ext (I.rq j (hE j hj)).2.2 (Cz (inc hj))) h m8
end
end Go.Sy
set_option linter.unusedVariables false
set_option linter.unusedSimpArgs false
namespace Go.Sy
open Go.RowKit Classical
theorem Cw.trans {w w' fi:World} (h:Cw w w') (k:Cw w' fi):Cw w fi:=
  ⟨k.1.trans h.1,k.2.1.trans h.2.1,k.2.2.1.trans h.2.2.1,Nat.le_trans h.2.2.2.1 k.2.2.2.1,λb hb=>(k.2.2.2.2 b (Nat.lt_of_lt_of_le hb h.2.2.2.1)).trans (h.2.2.2.2 b hb)⟩
theorem pD.cw {bj:Ow} {W W':Nat->Prop} {w0 w w':World} (h:pD bj W w0 w) (k:Cw w w') (hW: ∀q,W q->W' q):pD bj W' w0 w':=
  ⟨k.1.trans h.1,k.2.1.trans h.2.1,k.2.2.1.trans h.2.2.1,Nat.le_trans h.2.2.2.1 k.2.2.2.1,λb hb hn=>(k.2.2.2.2 b (Nat.lt_of_lt_of_le hb h.2.2.2.1)).trans (h.2.2.2.2 b hb λq hq=>hn q (hW q hq))⟩
theorem pD.one {bj:Ow} {W W':Nat->Prop} {w0 w w':World} (h:pD bj W w0 w) {L:Loc} (k:One w w' L.b) (hW: ∀q,W q->W' q) {q0:Nat} (h0:W' q0) (hL:bj.β q0 none=some L):pD bj W' w0 w':=
  ⟨k.1.trans h.1,k.2.1.trans h.2.1,k.2.2.1.trans h.2.2.1,by rw[k.2.2.2.1];exact h.2.2.2.1,λb hb hn=>(k.2.2.2.2 b (λe=>hn q0 h0 L hL e.symm)).trans (h.2.2.2.2 b hb λq hq=>hn q (hW q hq))⟩
theorem aR.grow {w w':World} {o o':Ow} {M:Mem} (hm:aR w o M) (hc:Cw w w') (he:Ext w o w' o') (cZ: ∀k p,o'.β k p=o.β k p) (tm:o'.cur=o.cur) (hZ:o'.Z=o.Z) (hA: ∀b,o.A b->o'.A b) (hlA: ∀b,o'.A b->b<w'.heap.size) (iG: ∀b,o'.A b-> ¬o'.Z b):aR w' o' M where
  cur:=tm.trans hm.cur
  own:=λb ⟨k,p,L,J,U⟩=>hA b (hm.own b ⟨k,p,L,by rw[<-cZ];exact J,U⟩)
  d_:=hlA
  dj:=iG
  fD:=λb hz=>Nat.lt_of_lt_of_le (hm.fD b (by rw[<-hZ];exact hz)) hc.2.2.2.1
  inj:=λk p L k' p' L' J U e=>hm.inj k p L k' p' L' (by rw[<-cZ];exact J) (by rw[<-cZ];exact U) e
  low:=λk p L h=>Nat.lt_of_lt_of_le (hm.low k p L (by rw[<-cZ];exact h)) hc.2.2.2.1
  row:=λk p L h=>by
    rw[cZ]at h
    obtain⟨r,J,U,h3,h4⟩:=hm.row k p L h
    exact⟨r,J,U,h3,h4.ext he (by rw[tm]) (λq=>cZ k q) (hc.2.2.2.2 _ (hm.low k p L h))⟩
  live:=λk l h=>by obtain⟨L,hL⟩:=hm.live k l h;exact⟨L,by rw[cZ];exact hL⟩
  eM:=λk i j h=>by rw[cZ];exact hm.eM k i j h
section
variable {P:Program} {sg:Bool} {Gl:Nat->SV} {Γ:Table} {N:Nat} {ops:Array Oper} {PR:Nat->List Nat} {m:Nat} {rs:List Rc} {F F0:Fr} {M:Mem} {cG wr:Nat->Bool}
variable {a0 a:Act} {w0 w:World} {bj ω:Ow} {D:Nat->Prop}
theorem sT {t:Nat} {d:Option Tmp} {v:Value} (h:d≠some t):(a.put d v).tmps[t]? =a.tmps[t]? :=by
  cases d with
  |none=>rfl
  |some x=>
   have:x≠t:=λe=>h (by rw[e])
   simp only[Act.put,Array.getElem?_setIfInBounds_ne this]
theorem Te {d:Option Tmp} {v:Value}:(a.put d v).tmps.size=a.tmps.size:=by cases d<;>simp[Act.put]
theorem Inv.Mr (S:ji P sg Gl Γ N ops PR m rs F F0 M cG wr) (hm:aR w0 bj M)
    (I:Inv ops PR m rs M N a0 w0 bj D a w ω) {i:Nat} {o:Oper} (hi:i<m) (ho:ops[i]? =some o) (ff: ¬D i) (gb: ∀j∈PR i,D j) (jh: ∀k∈keys rs i,cv (ae M) k=true) {v:Value} {w':World} {dJ:Ow}
    (jA:bz w (cR rs M ω (PR i)) (vM rs M (PR i)) w' dJ ((cr rs i).u++vM rs M (PR i))) (iN:iT w (cR rs M ω (PR i)) w' dJ (λk=>k∈(cr rs i).u.map (·.1))) (vc:vp w' dJ N (a.put o.dst v) (cr rs i)):
    Inv ops PR m rs M N a0 w0 bj (λj=>D j\/j=i) (a.put o.dst v) w' ⟨dJ.A,ω.Z,λk p=>if k∈keys rs i then dJ.β k p else ω.β k p,ω.cur⟩:=by
  have fc:iX ops i=o.dst:=by simp[iX,ho]
  have FR:dJ.Z=ω.Z:=iN.Z
  have hcq:dJ.cur=ω.cur:=iN.cur
  have dE: ∀b,b<w.heap.size-> ¬ω.A b-> ¬dJ.A b:=λb hb hn=>jA.ext.free b hb hn
  have Ej: ∀b,ω.A b->dJ.A b:=λb hb=>iN.A b hb
  have vN: ∀{k p},k∈keys rs i->(if k∈keys rs i then dJ.β k p else ω.β k p)=dJ.β k p:=λh=>if_pos h
  have oY: ∀{k p},k∉keys rs i->(if k∈keys rs i then dJ.β k p else ω.β k p)=ω.β k p:=λh=>if_neg h
  have iS:pD bj (Wr rs M λj=>D j\/j=i) w0 w':=I.cw.cw iN.cw λq ⟨J,j,U,h3⟩=>⟨J,j,.inl U,h3⟩
  have Z0:cR rs M ⟨dJ.A,ω.Z,λk p=>if k∈keys rs i then dJ.β k p else ω.β k p,ω.cur⟩ (i::PR i)=dJ:=by
    show(⟨dJ.A,ω.Z,_,ω.cur⟩:Ow)=⟨dJ.A,dJ.Z,dJ.β,dJ.cur⟩
    rw[FR,hcq]
    congr 1
    funext k p
    by_cases hk:k∈keys rs i
    · have: ¬gO rs M (i::PR i) k:=λh=>h.2.2 ⟨i,by simp,hk⟩
      simp only[if_neg this,if_pos hk]
    · rw[iN.β k p hk]
      show _=if gO rs M (PR i) k then none else ω.β k p
      have:gO rs M (i::PR i) k↔gO rs M (PR i) k:=by
        constructor
        · rintro ⟨h0,J,U⟩
          exact⟨h0,J,λ⟨j,hj,dr⟩=>U ⟨j,by simp[hj],dr⟩⟩
        · rintro ⟨h0,J,U⟩
          refine⟨h0,J,?_⟩
          rintro ⟨j,hj,dr⟩
          rcases List.mem_cons.1 hj with rfl|hj
          · exact hk dr
          · exact U ⟨j,hj,dr⟩
      by_cases hh:gO rs M (PR i) k
      · rw[if_pos (this.2 hh),if_pos hh]
      · rw[if_neg (λh=>hh (this.1 h)),if_neg hh];exact oY hk
  refine⟨?_,?_,iS,λj k hk hf L hL=>?_,λb hb=>Ej b (I.A0 b hb),jA.mem.d_,?_,I.Z,?_,I.cur,?_,?_,?_,by rw[Act.put_defers];exact I.defers,by rw[Te];exact I.size,?_,?_⟩
  · rintro j (h|rfl)
    · exact I.low j h
    · exact hi
  · rintro j (h|rfl) k hk
    · exact .inl (I.eR j h k hk)
    · exact .inl (gb k hk)
  · obtain⟨c,T,J,U⟩:=I.FT j k hk hf L hL
    refine⟨c,T,?_,U⟩
    rw[iN.cw.2.2.2.2 _ (Nat.lt_of_lt_of_le (hm.low k none L hL) I.cw.2.2.2.1)]
    exact J
  · intro b hb hn
    exact dE b (Nat.lt_of_lt_of_le hb I.cw.2.2.2.1) (I.Ek b hb hn)
  · intro b hb
    show¬ω.Z b
    rw[<-FR]
    exact jA.mem.dj b hb
  · intro k p hk
    show(if k∈keys rs i then dJ.β k p else ω.β k p)=_
    rw[oY (λh=>by have:=hk i (.inr rfl) h;rw[jh k h]at this;cases this)]
    exact I.lN k p λj hj=>hk j (.inl hj)
  · intro k p L hL
    have hL:(if k∈keys rs i then dJ.β k p else ω.β k p)=some L:=hL
    by_cases hk:k∈keys rs i
    · rw[vN hk]at hL
      exact jA.mem.own _ ⟨k,p,L,hL,rfl⟩
    · rw[oY hk]at hL
      exact Ej _ (I.own k p L hL)
  · intro k p L k' p' L' J U e
    have J:(if k∈keys rs i then dJ.β k p else ω.β k p)=some L:=J
    have U:(if k'∈keys rs i then dJ.β k' p' else ω.β k' p')=some L':=U
    by_cases hk:k∈keys rs i<;>by_cases fH:k'∈keys rs i
    · rw[vN hk]at J;rw[vN fH]at U
      exact jA.mem.inj _ _ _ _ _ _ J U e
    · rw[vN hk]at J;rw[oY fH]at U
      have e1:=iN.new k p L hk J
      have e2:=I.d_ _ (I.own k' p' L' U)
      omega
    · rw[oY hk]at J;rw[vN fH]at U
      have e1:=iN.new k' p' L' fH U
      have e2:=I.d_ _ (I.own k p L J)
      omega
    · rw[oY hk]at J;rw[oY fH]at U
      exact I.inj _ _ _ _ _ _ J U e
  · intro t ht
    rw[sT (by rw[<-fc];exact ht i (.inr rfl))]
    exact I.keep t λj hj=>ht j (.inl hj)
  · rintro j (hj|rfl)
    · have og:j≠i:=λe=>ff (e▸hj)
      have FU:i∉j::PR j:=by
        intro h
        rcases List.mem_cons.1 h with h|h
        · exact og h.symm
        · exact ff (I.eR j hj i h)
      have PG: ∀k p,(cR rs M ⟨dJ.A,ω.Z,λk p=>if k∈keys rs i then dJ.β k p else ω.β k p,ω.cur⟩ (j::PR j)).β k p=(cR rs M ω (j::PR j)).β k p:=by
        intro k p
        by_cases hh:gO rs M (j::PR j) k
        · rw[uP hh,uP hh]
        · rw[sub_eq hh,sub_eq hh]
          show(if k∈keys rs i then dJ.β k p else ω.β k p)=_
          refine oY λhk=>hh ⟨jh k hk,⟨i,hk⟩,?_⟩
          rintro ⟨q,hq,rn⟩
          exact FU ((S.key i q k hk rn)▸hq)
      have bP:Ext w (cR rs M ω (j::PR j)) w' (cR rs M ⟨dJ.A,ω.Z,λk p=>if k∈keys rs i then dJ.β k p else ω.β k p,ω.cur⟩ (j::PR j)):=
        ⟨iN.cw.1,iN.cw.2.1,iN.cw.2.2.1,λb hb _=>iN.cw.2.2.2.2 b hb,dE,λ_ _ _ h=>h,iN.cw.2.2.2.1,λ_=>⟨Nat.le_refl _,Nat.le_refl _⟩,λk p L hL _=>by rw[PG];exact hL,λ_ h=>h⟩
      obtain⟨k1,k2,k3⟩:=I.rq j hj
      refine⟨k1.grow iN.cw bP PG rfl rfl Ej jA.mem.d_ (λb hb=>?_),λp hp u hu=>?_,?_⟩
      · show¬ω.Z b
        rw[<-FR]
        exact jA.mem.dj b hb
      · have cf:o.dst≠some p.1:=by
          rw[<-fc]
          intro e
          exact og (S.one j i p.1 (I.low j hj) hi (S.fs j p hp).1 e)
        rw[sT cf]at hu
        exact(k2 p hp u hu).ext bP
      · intro h hh
        obtain⟨d1,g,hg,d2⟩:=S.hs j h hh
        have Qe:D g:=I.eR j hj g hg
        have n1:o.dst≠some h.slot:=by
          rw[<-fc];intro e
          exact og (S.one j i _ (I.low j hj) hi d1 e)
        have n2:o.dst≠some h.d:=by
          rw[<-fc];intro e
          have:g=i:=S.one g i _ (I.low g Qe) hi d2 e
          exact ff (this▸Qe)
        have h0:=k3 h hh
        exact⟨h0.lt,λe u hu=>(h0.yes (by rw[<-sT n2];exact e) u (by rw[<-sT n1];exact hu)).ext bP,λe=>by rw[sT n1];exact h0.no (by rw[<-sT n2];exact e)⟩
    · rw[Z0,yn]
      exact⟨jA.mem,vc⟩
theorem Inv.after (S:ji P sg Gl Γ N ops PR m rs F F0 M cG wr) (hm:aR w0 bj M)
    (I:Inv ops PR m rs M N a0 w0 bj D a w ω) {i:Nat} {o:Oper} (hi:i<m) (ho:ops[i]? =some o) (ff: ¬D i) (gb: ∀j∈PR i,D j) (jh: ∀k∈keys rs i,cv (ae M) k=true) {v:Value} {w':World} {dJ:Ow}
    (jA:bz w (cR rs M ω (PR i)) (vM rs M (PR i)) w' dJ ((cr rs i).u++vM rs M (PR i))) (iN:iT w (cR rs M ω (PR i)) w' dJ (λk=>k∈(cr rs i).u.map (·.1))) (vc:vp w' dJ N (a.put o.dst v) (cr rs i)):
    ∃al,Inv ops PR m rs M N a0 w0 bj (λj=>D j\/j=i) (a.put o.dst v) w' al:=⟨_,I.Mr S hm hi ho ff gb jh jA iN vc⟩
theorem Inv.OK (S:ji P sg Gl Γ N ops PR m rs F F0 M cG wr) (hm:aR w0 bj M) (hF:dK w0 bj N F a0.tmps)
    (I:Inv ops PR m rs M N a0 w0 bj D a w ω) {i:Nat} {o:Oper} (hi:i<m) (ho:ops[i]? =some o) (gq:cG i=true) (ff: ¬D i) (gb: ∀j∈PR i,D j):
    ∃v,Yields P ops o v a/\ ∃al,Inv ops PR m rs M N a0 w0 bj (λj=>D j\/j=i) (a.put o.dst v) w al:=by
  obtain⟨g1,g2,g3⟩:=I.all S hm hF gb (λj hj=>S.closed i j hj)
  obtain⟨hg,s,lB,he⟩:=S.FV i o hi ho gq
  obtain⟨v,J,U⟩:=Dv g1 g2 he
  refine⟨v,.inl ⟨by simp[Region.wanted,hg],J⟩,?_⟩
  refine I.after S hm hi ho ff gb (λk hk=>by unfold keys at hk;rw[lB]at hk;simp at hk) (w':=w) (dJ:=cR rs M ω (PR i)) ?_ ?_ ?_
  · rw[lB];exact bz.refl g1
  · rw[lB];exact iT.refl _ _
  · rw[lB];exact⟨xt U,λx hx=>by cases hx⟩
theorem Vf {ops:List Oper} {V:Fr} {M:Mem} {H:List Hd} {o:Oper} {k:Nat} {u:a_} (h:evalW P Gl N ops V M H o=some (k,u)):u.map (·.1)= [k]:=by
  unfold evalW at h
  split at h
  · split at h
    · split at h
      · split at h
        · simp only[Option.some.injEq,Prod.mk.injEq]at h
          obtain⟨rfl,rfl⟩:=h;rfl
        · cases h
      · cases h
    · cases h
  · cases h
theorem Inv.write (S:ji P sg Gl Γ N ops PR m rs F F0 M cG wr) (hm:aR w0 bj M)
    (I:Inv ops PR m rs M N a0 w0 bj D a w ω) {i:Nat} (hi:i<m) (ff: ¬D i) (gb: ∀j∈PR i,D j) {k:Nat} (hk:keys rs i= [k]) (rr:cv (ae M) k=false) (wC:(cr rs i).fs= []) (FW:(cr rs i).hs= []) {w':World} {L:Loc} (hL:(cR rs M ω (PR i)).β k none=some L)
    (kj:aR w' (cR rs M ω (PR i)) ((cr rs i).u++vM rs M (PR i))) (ho:One w w' L.b):
    Inv ops PR m rs M N a0 w0 bj (λj=>D j\/j=i) a w' ω:=by
  have qC: ∀{E:List Nat},¬gO rs M E k:=λh=>by have:=h.1;rw[rr]at this;cases this
  have pE:ω.β k none=some L:=by rw[sub_eq qC]at hL;exact hL
  have FX:bj.β k none=some L:=by rw[<-I.lN k none (λ_ _ _=>rr)];exact pE
  have m7:k∈keys rs i:=by rw[hk];simp
  have Ms: ∃c T,w'.heap[L.b]? =some (Obj.cells c T (0,0))/\c.size=L.len:=by
    obtain⟨r,_,_,_,c,T,J,U,_⟩:=kj.row k none L hL
    exact⟨c,T,J,U⟩
  have Z1: ∀q,Wr rs M D q->Wr rs M (λj=>D j\/j=i) q:=λq ⟨J,j,U,h3⟩=>⟨J,j,.inl U,h3⟩
  have tr:cR rs M ω (i::PR i)=cR rs M ω (PR i):=by
    show(⟨_,_,_,_⟩:Ow)=⟨_,_,_,_⟩
    congr 1
    funext k' p
    have:gO rs M (i::PR i) k'↔gO rs M (PR i) k':=by
      constructor
      · rintro ⟨h0,J,U⟩
        exact⟨h0,J,λ⟨j,hj,dr⟩=>U ⟨j,by simp[hj],dr⟩⟩
      · rintro ⟨h0,J,U⟩
        refine⟨h0,J,?_⟩
        rintro ⟨j,hj,dr⟩
        rcases List.mem_cons.1 hj with rfl|hj
        · rw[hk]at dr
          obtain rfl:=List.mem_singleton.1 dr
          rw[rr]at h0;cases h0
        · exact U ⟨j,hj,dr⟩
    by_cases hh:gO rs M (PR i) k'
    · rw[if_pos (this.2 hh),if_pos hh]
    · rw[if_neg (λh=>hh (this.1 h)),if_neg hh]
  refine⟨?_,?_,I.cw.one ho Z1 ⟨rr,i,.inr rfl,m7⟩ FX,λj k' fH hf L' fx=>?_,I.A0,λb h=>by rw[ho.2.2.2.1];exact I.d_ b h,I.Ek,I.Z,I.dj,I.cur,λk' p fH=>I.lN k' p λj hj=>fH j (.inl hj),I.own,I.inj,I.defers,I.size,λt ht=>I.keep t λj hj=>ht j (.inl hj),?_⟩
  · rintro j (h|rfl)
    · exact I.low j h
    · exact hi
  · rintro j (h|rfl) q hq
    · exact .inl (I.eR j h q hq)
    · exact .inl (gb q hq)
  · by_cases hb:L'.b=L.b
    · obtain⟨rfl,_⟩:=hm.inj _ _ _ _ _ _ fx FX hb
      obtain rfl:L=L':=Option.some.inj (FX.symm.trans fx)
      exact Ms
    · obtain⟨c,T,J,U⟩:=I.FT j k' fH hf L' fx
      exact⟨c,T,by rw[ho.2.2.2.2 _ hb];exact J,U⟩
  · rintro j (hj|rfl)
    · have og:j≠i:=λe=>ff (e▸hj)
      have FU: ∀q∈j::PR j,k∉keys rs q:=by
        intro q hq rn
        obtain rfl:=S.key q i k rn m7
        rcases List.mem_cons.1 hq with h|h
        · exact og h.symm
        · exact ff (I.eR j hj _ h)
      obtain⟨k1,k2,k3⟩:=I.rq j hj
      obtain⟨_,r0,d0,n,l',e1,e2,e3⟩:=(S.free i k m7).resolve_left (by rw[rr];simp)
      have hb:(ae (vM rs M (j::PR j)) k).b= .cells (lr n):=by rw[nq FU,e1]
      obtain⟨g1,g2⟩:=k1.Z2 hb (by rw[sub_eq qC];exact pE) ho Ms
      exact⟨g1,λp hp u hu=>(k2 p hp u hu).ext g2,λh hh=>(gw.ext k3 g2) h hh⟩
    · rw[tr,yn]
      exact⟨kj,λp hp=>by rw[wC]at hp;simp at hp,λh hh=>by rw[FW]at hh;simp at hh⟩
theorem Inv.step (hS:Sound P Gl Γ) (S:ji P sg Gl Γ N ops PR m rs F F0 M cG wr) (hm:aR w0 bj M) (hF:dK w0 bj N F a0.tmps) (hG: ∀g,Den w0 bj.bare (Gl g) (.pointer (some ⟨g,0,none⟩)))
    (I:Inv ops PR m rs M N a0 w0 bj D a w ω) {i:Nat} {o:Oper} (hi:i<m) (ho:ops[i]? =some o) (ff: ¬D i) (gb: ∀j∈PR i,D j) {Q:Exit->Act->World->Prop} {K:Act->World->Prop}
    (hK: ∀a' w' al,Inv ops PR m rs M N a0 w0 bj (λj=>D j\/j=i) a' w' al->K a' w'):wpOp P ops Q i K a w:=by
  obtain⟨g1,g2,g3⟩:=I.all S hm hF gb (λj hj=>S.closed i j hj)
  have bH:St P Gl N (vF rs F0 (PR i)) (vM rs M (PR i)) a w (cR rs M ω (PR i)):=⟨g2,λg=>Den.ext (o:=bj.bare) (I.nW S hm (PR i)).bare (hG g),g1,I.defers⟩
  cases gq:cG i with
  |false=>
   cases mo:wr i with
   |false=>
    obtain⟨nx,p,tJ,hp⟩:=S.ev i o hi ho gq mo
    refine Z3 hS ho bH g3 tJ hp ?_
    intro v w' dJ jA iN vc
    obtain⟨al,I'⟩:=I.after S hm hi ho ff gb (S.fr i mo) jA iN vc
    exact hK _ _ _ I'
   |true=>
    obtain⟨hd,wC,FW,k,tJ,rr⟩:=S.evw i o hi ho gq mo
    refine Z4 ho bH g3 tJ λw' L hL kj J=>?_
    exact hK _ _ _ (I.write S hm hi ff gb (k:=k) (Vf tJ) rr wC FW hL kj J)
  |true=>
   obtain⟨v,hy,al,I'⟩:=I.OK S hm hF hi ho gq ff gb
   exact hy.wpOp ho (hK _ _ _ I')
/-! ### what is left to be done -/
def jS (n:Nat) (listed:Array Bool):Nat:=((List.range n).filter λj=>!listed.getD j true).length
theorem Ks {p q:Nat->Bool}: ∀(l:List Nat),(∀x∈l,q x=true->p x=true)->(∃x∈l,p x=true/\q x=false)->(l.filter q).length<(l.filter p).length
  | [],_,⟨x,hx,_⟩=>by simp at hx
  |y::r,h,⟨x,hx,J,U⟩=>by
   have le: ∀(l:List Nat),(∀x∈l,q x=true->p x=true)->(l.filter q).length<=(l.filter p).length:=by
     intro l
     induction l with
     |nil=>intro _;exact Nat.le_refl _
     |cons z r ih=>
      intro h
      have ih:=ih λx hx=>h x (by simp[hx])
      by_cases hq:q z=true
      · rw[List.filter_cons_of_pos hq,List.filter_cons_of_pos (h z (by simp) hq)];simpa using ih
      · rw[List.filter_cons_of_neg hq]
        by_cases hp:p z=true
        · rw[List.filter_cons_of_pos hp];simp;omega
        · rw[List.filter_cons_of_neg hp];exact ih
   have hr: ∀x∈r,q x=true->p x=true:=λx hx=>h x (by simp[hx])
   rcases List.mem_cons.1 hx with rfl|hx
   · rw[List.filter_cons_of_neg (by rw[U];simp),List.filter_cons_of_pos J]
     have:=le r hr
     simp;omega
   · have ih:=Ks r hr ⟨x,hx,J,U⟩
     by_cases hq:q y=true
     · rw[List.filter_cons_of_pos hq,List.filter_cons_of_pos (h y (by simp) hq)];simpa using ih
     · rw[List.filter_cons_of_neg hq]
       by_cases hp:p y=true
       · rw[List.filter_cons_of_pos hp];simp;omega
       · rw[List.filter_cons_of_neg hp];exact ih
theorem getD_eq {listed:Array Bool} {j:Nat} (h:j<listed.size) (d e:Bool):listed.getD j d=listed.getD j e:=by simp[Array.getD,h]
theorem p7 {n i:Nat} {listed:Array Bool} (hi:i<n) (hs:listed.size=n) (h:listed.getD i true=false):jS n (listed.setIfInBounds i true)<jS n listed:=by
  refine Ks _ (λx hx hq=>?_) ⟨i,List.mem_range.2 hi,by rw[h];rfl,?_⟩
  · by_cases e:i=x
    · subst e;rw[h];rfl
    · rwa [getD_set_ne true e]at hq
  · have:(listed.setIfInBounds i true).getD i true=true:=by simp[Array.getD,hs,hi]
    rw[this];rfl
theorem sw {n i:Nat} {listed:Array Bool} (hi:i<n) (h:listed.getD i true=false):0<jS n listed:=by
  unfold jS
  exact List.length_pos_of_mem (List.mem_filter.2 ⟨List.mem_range.2 hi,by rw[h];rfl⟩)
theorem yo (S:ji P sg Gl Γ N ops PR m rs F F0 M cG wr) (m1:Nat) (hT: ∀i,m1<=i->i<ops.size-> ∀j,j<i->m1<=j->j∈PR i) {Q:Exit->Act->World->Prop}: ∀(fuel t:Nat) (listed:Array Bool) (a:Act) (w:World),listed.size=ops.size->(∀j,j<ops.size->(listed.getD j false=true↔j<t))->m1<=t->t<=ops.size->jS ops.size listed<=fuel->
    wpList P ops Q (ops.toList.drop t) a w->wpAny P .any ops Q fuel listed a w:=by
  intro fuel
  induction fuel with
  |zero=>
   intro t listed a w hs hl hmt htn hu h
   have ht:t=ops.size:=by
     rcases Nat.lt_or_ge t ops.size with ai|bo
     · have J:listed.getD t true=false:=by
         rw[getD_eq (by omega) true false]
         cases hx:listed.getD t false with
         |false=>rfl
         |true=>exact absurd ((hl t ai).1 hx) (Nat.lt_irrefl _)
       have:=sw ai J
       omega
     · omega
   refine⟨?_,?_⟩
   · rw[List.eq_nil_iff_forall_not_mem]
     intro j hj
     obtain⟨J,o,U,_⟩:=mem_ready.1 hj
     have br:=(Array.getElem?_eq_some_iff.1 U).1
     have:=(hl j br).2 (by omega)
     rw[getD_eq (by omega) true false,this]at J
     cases J
   · rw[ht,List.drop_of_length_le (by simp)]at h
     exact h
  |succ fuel ih=>
   intro t listed a w hs hl hmt htn hu h
   have rdy: ∀j,j∈Region.ready .any ops listed->j=t:=by
     intro j hj
     obtain⟨J,o,U,h3⟩:=mem_ready.1 hj
     have br:=(Array.getElem?_eq_some_iff.1 U).1
     have bo: ¬j<t:=λai=>by
       have:=(hl j br).2 ai
       rw[getD_eq (by omega) true false,this]at J
       cases J
     rcases Nat.lt_or_ge t j with ai|hle
     · exfalso
       obtain⟨e,he,hb,hx⟩:=S.dep j o U t (hT j (by omega) br t ai (by omega))
       have gv:=h3 e he hb
       have Fh:e.on<t:=(hl e.on (by have:=S.ru j o U e he hb;omega)).1 gv
       rcases hx with hx|hx
       · omega
       · have:=S.lt _ _ hx;omega
     · omega
   refine⟨λhr=>?_,λj hj=>?_⟩
   · rcases Nat.lt_or_ge t ops.size with ai|bo
     · exfalso
       have:t∈Region.ready .any ops listed:=by
         refine mem_ready.2 ⟨?_,ops[t],Array.getElem?_eq_getElem ai,λe he hb=>?_⟩
         · rw[getD_eq (by omega) true false]
           cases hx:listed.getD t false with
           |false=>rfl
           |true=>exact absurd ((hl t ai).1 hx) (Nat.lt_irrefl _)
         · have hd:=S.ru t _ (Array.getElem?_eq_getElem ai) e he hb
           exact(hl e.on (by omega)).2 hd
       rw[hr]at this
       simp at this
     · rw[show t=ops.size by omega,List.drop_of_length_le (by simp)]at h
       exact h
   · obtain rfl:=rdy j hj
     obtain⟨J,o,U,h3⟩:=mem_ready.1 hj
     have br:=(Array.getElem?_eq_some_iff.1 U).1
     have El:ops.toList.drop j=o::ops.toList.drop (j+1):=by
       have jj:j<ops.toList.length:=by simpa using br
       rw[List.drop_eq_getElem_cons jj]
       congr 1
       have:=(Array.getElem?_eq_some_iff.1 U).2
       simpa using this
     rw[El]at h
     have OL: ∀a' w',wpList P ops Q (ops.toList.drop (j+1)) a' w'->wpAny P .any ops Q fuel (listed.setIfInBounds j true) a' w':=by
       intro a' w' h'
       refine ih (j+1) _ a' w' (by simpa using hs) (λq hq=>?_) (by omega) (by omega) ?_ h'
       · by_cases e:j=q
         · subst e
           have:(listed.setIfInBounds j true).getD j false=true:=by simp[Array.getD,hs,br]
           rw[this];simp
         · rw[getD_set_ne false e,hl q hq];omega
       · have:=p7 br hs J;omega
     unfold wpList at h
     unfold wpOp
     rw[U]
     simp only
     split
     · next hw=>rw[if_pos hw]at h;exact h.imp (Oper.wp_mono OL) id
     · next hw=>rw[if_neg hw]at h;exact OL _ _ h
theorem WT (hS:Sound P Gl Γ) (S:ji P sg Gl Γ N ops PR m rs F F0 M cG wr) (hT: ∀i,m<=i->i<ops.size-> ∀j,j<i->j∈PR i\/(j<m/\cG j=true)) (hm:aR w0 bj M) (hF:dK w0 bj N F a0.tmps) (hG: ∀g,Den w0 bj.bare (Gl g) (.pointer (some ⟨g,0,none⟩))) {Q:Exit->Act->World->Prop} (iR: ∀d c a v w,Q (.panic c) (Act.put a d v) w->Q (.panic c) a w)
    (mV: ∀a w ω,Inv ops PR m rs M N a0 w0 bj (λj=>j<m) a w ω->wpList P ops Q (ops.toList.drop m) a w):
    ∀(fuel:Nat) (listed:Array Bool) (a:Act) (w:World) (ω:Ow),listed.size=ops.size->jS ops.size listed<=fuel->Inv ops PR m rs M N a0 w0 bj (λj=>listed.getD j false=true) a w ω->wpAny P .any ops Q fuel listed a w:=by
  have Qf: ∀i,m<=i->i<ops.size-> ∀j,j<i->m<=j->j∈PR i:=λi J U j h3 h4=>(hT i J U j h3).resolve_right λh=>by omega
  intro fuel
  induction fuel with
  |zero=>
   intro listed a w ω hs hu I
   have all: ∀j,j<ops.size->listed.getD j false=true:=by
     intro j hj
     cases hx:listed.getD j false with
     |true=>rfl
     |false=>have:=sw hj (by rw[getD_eq (listed:=listed) (by omega) true false];exact hx);omega
   have tK:m=ops.size:=by
     rcases Nat.lt_or_ge m ops.size with h|h
     · exact absurd (I.low m (all m h)) (Nat.lt_irrefl _)
     · have:=S.le;omega
   have hD:(λj=>listed.getD j false=true)=(λj=>j<m):=by
     funext j
     refine propext ⟨I.low j,λh=>all j (by omega)⟩
   rw[hD]at I
   exact yo S m Qf 0 m listed a w hs (λj hj=>⟨λ_=>by omega,λ_=>all j hj⟩) (Nat.le_refl _) S.le hu (mV a w ω I)
  |succ fuel ih=>
   intro listed a w ω hs hu I
   by_cases gX: ∀j,j<m->listed.getD j false=true
   · have hD:(λj=>listed.getD j false=true)=(λj=>j<m):=by
       funext j
       exact propext ⟨I.low j,gX j⟩
     have I':=I
     rw[hD]at I'
     exact yo S m Qf _ m listed a w hs (λj hj=>⟨I.low j,gX j⟩) (Nat.le_refl _) S.le hu (mV a w ω I')
   · have hle:=S.le
     have hex: ∃j,j<m/\listed.getD j false=false:=by
       refine Classical.byContradiction λh=>gX λj hj=>?_
       cases hx:listed.getD j false with
       |true=>rfl
       |false=>exact absurd ⟨j,hj,hx⟩ h
     have first: ∃j,j<m/\listed.getD j false=false/\j∈Region.ready .any ops listed:=by
       refine Classical.byContradiction λcP=>?_
       have: ∀n,∀j,j<n->j<m->listed.getD j false=true:=by
         intro n
         induction n with
         |zero=>intro j hj;omega
         |succ n oh=>
          intro j hj iH
          cases hx:listed.getD j false with
          |true=>rfl
          |false=>
           exfalso
           have br:j<ops.size:=by omega
           refine cP ⟨j,iH,hx,mem_ready.2 ⟨by rw[getD_eq (by omega) true false];exact hx,ops[j],Array.getElem?_eq_getElem br,λe he hb=>?_⟩⟩
           have hd:=S.ru j _ (Array.getElem?_eq_getElem br) e he hb
           exact oh e.on (by omega) (by omega)
       exact gX λj hj=>this (j+1) j (Nat.lt_succ_self j) hj
     have lu: ∀i,i∈Region.ready .any ops listed-> ∀x∈PR i,listed.getD x false=true:=by
       intro i hi x hx
       obtain⟨J,o,U,h3⟩:=mem_ready.1 hi
       obtain⟨e,he,hb,dt⟩:=S.dep i o U x hx
       have gv:=h3 e he hb
       rcases dt with rfl|dt
       · exact gv
       · exact I.eR _ gv x dt
     have jQ: ∀i,i<ops.size->(λj=>(listed.setIfInBounds i true).getD j false=true)=(λj=>listed.getD j false=true\/j=i):=by
       intro i bT
       funext j
       refine propext ⟨λh=>?_,λh=>?_⟩
       · by_cases e:i=j
         · exact .inr e.symm
         · rw[getD_set_ne false e]at h;exact .inl h
       · rcases h with h|rfl
         · exact getD_set_true h
         · simp[Array.getD,hs,bT]
     by_cases OM: ∃i,i∈Region.ready .any ops listed/\m<=i
     · --a register operation is taken first
       obtain⟨i,hi,AR⟩:=OM
       obtain⟨j,iH,om,mr⟩:=first
       have bT:i<ops.size:=by
         obtain⟨_,o,U,_⟩:=mem_ready.1 hi
         exact(Array.getElem?_eq_some_iff.1 U).1
       have gq:cG j=true:=by
         rcases hT i AR bT j (by omega)with h|h
         · have:=lu i hi j h
           rw[this]at om;cases om
         · exact h.2
       obtain⟨J,o,U,h3⟩:=mem_ready.1 mr
       have br:=(Array.getElem?_eq_some_iff.1 U).1
       obtain⟨v,hy,al,I'⟩:=I.OK S hm hF iH U gq (by rw[om];simp) (lu j mr)
       refine wpAny_first U (Region.noSelect_spec (S.fj j iH gq)) (λc a w h=>iR _ c a v w h) fuel listed a w ?_ mr hy ?_
       · intro q oq hq cf Qg cP
         refine S.apart j o iH gq U q oq hq cf (λhqp=>?_) cP
         have hqn:=(Array.getElem?_eq_some_iff.1 hq).1
         have:=lu j mr q hqp
         rw[getD_eq (by omega) true false,this]at Qg
         cases Qg
       · refine ih _ _ _ al (by simpa using hs) ?_ ?_
         · have:=p7 br hs J;omega
         · rw[jQ j br];exact I'
     · refine⟨λhr=>?_,λi hi=>?_⟩
       · obtain⟨j,_,_,mr⟩:=first
         rw[hr]at mr
         simp at mr
       · obtain⟨J,o,U,h3⟩:=mem_ready.1 hi
         have bT:=(Array.getElem?_eq_some_iff.1 U).1
         have ff: ¬listed.getD i false=true:=by
           rw[getD_eq (by omega) false true,J];simp
         have gx:i<m:=by
           rcases Nat.lt_or_ge i m with h|h
           · exact h
           · exact absurd ⟨i,hi,h⟩ OM
         refine I.step hS S hm hF hG gx U ff (lu i hi) λa' w' al I'=>ih _ a' w' al (by simpa using hs) ?_ ?_
         · have:=p7 bT hs J;omega
         · rw[jQ i bT]
           exact I'
end
end Go.Sy
set_option linter.unusedVariables false
set_option linter.unusedSimpArgs false
namespace Go.Sy
open Go.RowKit
def nM (ord:List Nat) (n k:Nat):Nat:=match idx ord k with|some p=>p|none=>n
def po (ord:List Nat) (n:Nat) (e:Edge):Edge:={e with on:=nM ord n e.on}
def kQ (ord:List Nat) (n:Nat) (o:Oper):Oper:={o with after:=⟨o.after.toList.map (po ord n)⟩,guard:=o.guard.map λx=>(nM ord n x.1,x.2)}
def iZ (ord:List Nat) (ops:List Oper):List Oper:=ord.filterMap λi=>(ops[i]?).map (kQ ord ops.length)
def oX (ord:List Nat) (n:Nat):Bool:=nodupB ord&&Nat.beq ord.length n&&(ord.all λk=>Nat.blt k n)&&(List.range n).all λk=>cO ord k
structure kK (ord:List Nat) (n:Nat):Prop where
  nd:ord.Nodup
  len:ord.length=n
  lt: ∀k∈ord,k<n
  all: ∀k,k<n->k∈ord
theorem B0 {ord:List Nat} {n:Nat} (h:oX ord n=true):kK ord n:=by
  unfold oX at h
  simp only[Bool.and_eq_true]at h
  obtain⟨⟨⟨J,U⟩,h3⟩,h4⟩:=h
  exact⟨sb J,Nat.eq_of_beq_eq_true U,λk hk=>Nat.le_of_ble_eq_true (List.all_eq_true.1 h3 k hk),λk hk=>gC.1 (List.all_eq_true.1 h4 k (List.mem_range.2 hk))⟩
section
variable {P:Program} {ops:Array Oper} {Q:Exit->Act->World->Prop} {ord:List Nat}
theorem kK.pos {n:Nat} (h:kK ord n) {p k:Nat} (hp:ord[p]? =some k):nM ord n k=p:=by
  have hk:=h.lt k (List.mem_of_getElem? hp)
  unfold nM
  cases hi:idx ord k with
  |none=>exact absurd (List.mem_of_getElem? hp) (sn hi)
  |some q=>
   have hq:=kG hi
   have iI:=(List.getElem?_eq_some_iff.1 hp).1
   have AU:=(List.getElem?_eq_some_iff.1 hq).1
   exact(List.getElem?_inj AU h.nd).1 (hq.trans hp.symm)
theorem kK.out {n:Nat} (h:kK ord n) {k:Nat} (hk:n<=k):nM ord n k=n:=by
  unfold nM
  cases hi:idx ord k with
  |none=>rfl
  |some q=>have:=h.lt k (List.mem_of_getElem? (kG hi));omega
theorem xS (h:kK ord ops.size) {p k:Nat} (hp:ord[p]? =some k) {o:Oper} (ho:ops[k]? =some o):(iZ ord ops.toList).toArray[p]? =some (kQ ord ops.size o):=by
  have key: ∀(l:List Nat) (p:Nat),(∀x∈l,x<ops.size)->(l.filterMap λi=>(ops.toList[i]?).map (kQ ord ops.toList.length))[p]? =(l[p]?).bind λk=>(ops[k]?).map (kQ ord ops.size):=by
    intro l
    induction l with
    |nil=>intro p _;simp
    |cons x r ih=>
     intro p hl
     have hx:=hl x (by simp)
     have e:(ops.toList[x]?).map (kQ ord ops.toList.length)=some (kQ ord ops.size ops[x]):=by simp[hx]
     rw[List.filterMap_cons,e]
     cases p with
     |zero=>simp[hx]
     |succ p=>simpa using ih p λy hy=>hl y (by simp[hy])
  rw[List.getElem?_toArray]
  unfold iZ
  rw[key ord p h.lt,hp]
  simp[ho]
theorem sd (h:kK ord ops.size):(iZ ord ops.toList).toArray.size=ops.size:=by
  rw[List.size_toArray]
  unfold iZ
  rw[<-h.len]
  have: ∀l:List Nat,(∀x∈l,x<ops.size)->(l.filterMap λi=>(ops.toList[i]?).map (kQ ord ops.toList.length)).length=l.length:=by
    intro l
    induction l with
    |nil=>intro _;rfl
    |cons x r ih=>
     intro hl
     have hx:=hl x (by simp)
     have e:(ops.toList[x]?).map (kQ ord ops.toList.length)=some (kQ ord ops.size ops[x]):=by simp[hx]
     rw[List.filterMap_cons,e]
     have:=ih λy hy=>hl y (by simp[hy])
     simp only[List.length_cons,this]
  exact this ord h.lt
structure tv (ord:List Nat) (n:Nat) (ls g_:Array Bool):Prop where
  s:ls.size=n
  s':g_.size=n
  eq: ∀(p k:Nat),ord[p]? =some k->g_[p]? =ls[k]?
theorem Rx (h:kK ord ops.size) (tmps:Array Value) (j:Nat):yielded (iZ ord ops.toList).toArray tmps (nM ord ops.size j)=yielded ops tmps j:=by
  unfold yielded
  rcases Nat.lt_or_ge j ops.size with hj|hj
  · obtain⟨p,hp⟩:=List.getElem?_of_mem (h.all j hj)
    rw[h.pos hp,xS h hp (Array.getElem?_eq_getElem hj),Array.getElem?_eq_getElem hj]
    rfl
  · rw[h.out hj,Array.getElem?_eq_none (by rw[sd h];exact Nat.le_refl _),Array.getElem?_eq_none hj]
theorem Sa (h:kK ord ops.size) {p k:Nat} (hp:ord[p]? =some k) {K K':Act->World->Prop} {a:Act} {w:World} (hK: ∀a w,K a w->K' a w) (hw:wpOp P (iZ ord ops.toList).toArray Q p K a w):wpOp P ops Q k K' a w:=by
  have hk:=h.lt k (List.mem_of_getElem? hp)
  refine wpOp_mono hK ?_
  unfold wpOp at hw⊢
  rw[xS h hp (Array.getElem?_eq_getElem hk)]at hw
  rw[Array.getElem?_eq_getElem hk]
  have YN:Region.wanted (kQ ord ops.size ops[k]) (yielded (iZ ord ops.toList).toArray a.tmps)=Region.wanted ops[k] (yielded ops a.tmps):=by
    unfold Region.wanted kQ
    cases hg:ops[k].guard with
    |none=>rfl
    |some x=>
     obtain⟨j,want⟩:=x
     simp only[Option.map_some]
     rw[Rx h]
  simp only[YN]at hw
  exact hw
theorem Hp (h:kK ord ops.size) {ls g_:Array Bool} (hl:tv ord ops.size ls g_) {p k:Nat} (hp:ord[p]? =some k) (hr:k∈Region.ready .any ops ls):p∈Region.ready .any (iZ ord ops.toList).toArray g_:=by
  have hk:=h.lt k (List.mem_of_getElem? hp)
  have iI:p<ops.size:=by rw[<-h.len];exact(List.getElem?_eq_some_iff.1 hp).1
  unfold Region.ready at hr⊢
  rw[List.mem_filter]at hr⊢
  refine⟨List.mem_range.2 (by rw[sd h];exact iI),?_⟩
  have U:=hr.2
  rw[Array.getElem?_eq_getElem hk]at U
  rw[xS h hp (Array.getElem?_eq_getElem hk)]
  have get: ∀d:Bool,g_.getD p d=ls.getD k d:=λd=>by rw[Array.getD_eq_getD_getElem?,Array.getD_eq_getD_getElem?,hl.eq p k hp]
  rw[get]
  simp only[Option.map_some,Option.getD_some,Bool.and_eq_true]at U⊢
  refine⟨U.1,?_⟩
  have h3:=U.2
  rw[Array.all_eq_true']at h3⊢
  intro e he
  unfold kQ at he
  have he:e∈ops[k].after.toList.map (po ord ops.size):=by simpa using he
  rw[List.mem_map]at he
  obtain⟨e0,wB,rfl⟩:=he
  have wB:e0∈ops[k].after:=by simpa using wB
  have:=h3 e0 wB
  have hb:Region.binds .any (po ord ops.size e0)=Region.binds .any e0:=rfl
  rw[hb]
  have gv:g_.getD (po ord ops.size e0).on false=ls.getD e0.on false:=by
    show g_.getD (nM ord ops.size e0.on) false=_
    rcases Nat.lt_or_ge e0.on ops.size with hj|hj
    · obtain⟨q,hq⟩:=List.getElem?_of_mem (h.all _ hj)
      rw[h.pos hq,Array.getD_eq_getD_getElem?,Array.getD_eq_getD_getElem?,hl.eq q _ hq]
    · rw[h.out hj,Array.getD_eq_getD_getElem?,Array.getD_eq_getD_getElem?,Array.getElem?_eq_none (by rw[hl.s'];exact Nat.le_refl _),Array.getElem?_eq_none (by rw[hl.s];exact hj)]
  rw[gv]
  exact this
theorem tv.set {n:Nat} (h:kK ord n) {ls g_:Array Bool} (hl:tv ord n ls g_) {p k:Nat} (hp:ord[p]? =some k):tv ord n (ls.setIfInBounds k true) (g_.setIfInBounds p true):=by
  refine⟨by simpa using hl.s,by simpa using hl.s',λq j hq=>?_⟩
  have iI:=(List.getElem?_eq_some_iff.1 hp).1
  have AU:=(List.getElem?_eq_some_iff.1 hq).1
  by_cases e:q=p
  · subst e
    obtain rfl:j=k:=Option.some.inj (hq.symm.trans hp)
    have J:q<g_.size:=by rw[hl.s',<-h.len];exact AU
    have U:j<ls.size:=by rw[hl.s];exact h.lt _ (List.mem_of_getElem? hp)
    rw[Array.getElem?_setIfInBounds_self_of_lt J,Array.getElem?_setIfInBounds_self_of_lt U]
  · have e2:k≠j:=λe2=>by
      subst e2
      exact e ((List.getElem?_inj AU h.nd).1 (hq.trans hp.symm))
    rw[Array.getElem?_setIfInBounds_ne (Ne.symm e),Array.getElem?_setIfInBounds_ne e2]
    exact hl.eq q j hq
theorem xr (h:kK ord ops.size): ∀(fuel:Nat) {ls g_:Array Bool} {a:Act} {w:World},tv ord ops.size ls g_->wpAny P .any (iZ ord ops.toList).toArray Q fuel g_ a w->wpAny P .any ops Q fuel ls a w
  |0,ls,g_,a,w,hl,⟨J,U⟩=>by
   refine⟨?_,U⟩
   apply List.eq_nil_iff_forall_not_mem.2
   intro k hk
   obtain⟨p,hp⟩:=List.getElem?_of_mem (h.all k (by unfold Region.ready at hk;exact List.mem_range.1 (List.mem_filter.1 hk).1))
   have:=Hp h hl hp hk
   rw[J]at this;cases this
  |fuel+1,ls,g_,a,w,hl,⟨J,U⟩=>by
   have lt: ∀{k},k∈Region.ready .any ops ls->k<ops.size:=λhk=>by unfold Region.ready at hk;exact List.mem_range.1 (List.mem_filter.1 hk).1
   refine⟨λhr=>J ?_,λk hk=>?_⟩
   · apply List.eq_nil_iff_forall_not_mem.2
     intro p hp
     have iI:p<ops.size:=by unfold Region.ready at hp;have:=List.mem_range.1 (List.mem_filter.1 hp).1;rwa [sd h]at this
     obtain⟨k,hk⟩: ∃k,ord[p]? =some k:=⟨ord[p]'(by rw[h.len];exact iI),List.getElem?_eq_getElem _⟩
     have pC:=h.lt k (List.mem_of_getElem? hk)
     have:k∈Region.ready .any ops ls:=by
       unfold Region.ready at hp⊢
       rw[List.mem_filter]at hp⊢
       refine⟨List.mem_range.2 pC,?_⟩
       have h3:=hp.2
       rw[xS h hk (Array.getElem?_eq_getElem pC)]at h3
       rw[Array.getElem?_eq_getElem pC]
       have get: ∀d:Bool,g_.getD p d=ls.getD k d:=λd=>by rw[Array.getD_eq_getD_getElem?,Array.getD_eq_getD_getElem?,hl.eq p k hk]
       rw[get]at h3
       simp only[Option.map_some,Option.getD_some,Bool.and_eq_true]at h3⊢
       refine⟨h3.1,?_⟩
       have h4:=h3.2
       rw[Array.all_eq_true']at h4⊢
       intro e0 wB
       have:=h4 (po ord ops.size e0) (by unfold kQ;have:po ord ops.size e0∈ops[k].after.toList.map (po ord ops.size):=List.mem_map.2 ⟨e0,by simpa using wB,rfl⟩;simpa using this)
       have gv:g_.getD (po ord ops.size e0).on false=ls.getD e0.on false:=by
         show g_.getD (nM ord ops.size e0.on) false=_
         rcases Nat.lt_or_ge e0.on ops.size with hj|hj
         · obtain⟨q,hq⟩:=List.getElem?_of_mem (h.all _ hj)
           rw[h.pos hq,Array.getD_eq_getD_getElem?,Array.getD_eq_getD_getElem?,hl.eq q _ hq]
         · rw[h.out hj,Array.getD_eq_getD_getElem?,Array.getD_eq_getD_getElem?,Array.getElem?_eq_none (by rw[hl.s'];exact Nat.le_refl _),Array.getElem?_eq_none (by rw[hl.s];exact hj)]
       rw[gv]at this
       exact this
     rw[hr]at this;cases this
   · obtain⟨p,hp⟩:=List.getElem?_of_mem (h.all k (lt hk))
     exact Sa h hp (λa w hh=>xr h fuel (hl.set h hp) hh) (U p (Hp h hl hp hk))
theorem FQ {n:Nat} (h:kK ord n):tv ord n (Array.replicate n false) (Array.replicate n false):=
  ⟨by simp,by simp,λp k hp=>by
    have iI:p<n:=by rw[<-h.len];exact(List.getElem?_eq_some_iff.1 hp).1
    have hk:=h.lt k (List.mem_of_getElem? hp)
    simp[iI,hk]⟩
theorem B1 {o':Oper} (hm:o'∈iZ ord ops.toList): ∃o,o∈ops.toList/\o'.dst=o.dst:=by
  unfold iZ at hm
  rw[List.mem_filterMap]at hm
  obtain⟨i,_,h⟩:=hm
  cases ho:ops.toList[i]? with
  |none=>rw[ho]at h;cases h
  |some o=>
   rw[ho]at h
   obtain rfl:=Option.some.inj h
   exact⟨o,List.mem_of_getElem? ho,rfl⟩
end
def AV:List Edge->(List Edge->Prop)->Prop
  | [],k=>k []
  |e::r,k=>match e with|⟨o,g⟩=>fh o λo=>AV r λr=>k (⟨o,g⟩::r)
def fG:Option (Nat×Bool)->(Option (Nat×Bool)->Prop)->Prop
  |none,k=>k none
  |some (j,b),k=>fh j λj=>k (some (j,b))
def tI:List Oper->(List Oper->Prop)->Prop
  | [],k=>k []
  |o::r,k=>match o with|⟨d,op,t,p,a,g⟩=>AV a.toList λa=>fG g λg=>tI r λr=>k (⟨d,op,t,p,⟨a⟩,g⟩::r)
theorem Mq: ∀(l:List Edge) (k:List Edge->Prop),AV l k=k l
  | [],_=>rfl
  |⟨o,g⟩::r,k=>by simp only[AV,jK,Mq r]
theorem YO (g:Option (Nat×Bool)) (k:Option (Nat×Bool)->Prop):fG g k=k g:=by
  cases g with
  |none=>rfl
  |some x=>obtain⟨j,b⟩:=x;simp only[fG,jK]
theorem Mp: ∀(l:List Oper) (k:List Oper->Prop),tI l k=k l
  | [],_=>rfl
  |⟨d,op,t,p,a,g⟩::r,k=>by simp only[tI,Mq,YO,Mp r]
end Go.Sy
