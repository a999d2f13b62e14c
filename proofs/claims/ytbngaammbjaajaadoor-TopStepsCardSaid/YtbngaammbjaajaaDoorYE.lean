/-
  Sy: regions that draw their order: one operation, seen by what is before it.
-/
import Derived.Test.YtbngaammbjaajaaDoorYD
import Derived.Orders
set_option linter.unusedVariables false
set_option linter.unusedSimpArgs false
set_option linter.unusedVariables false
set_option linter.unusedSimpArgs false
namespace Go.Sy
open Go.RowKit
structure Rc where
  fs:List (Nat×SV)
  hs:List Hd
  u:ak
def qP:ak->(ak->Prop)->Prop
  | [],k=>k []
  |p::r,k=>bZ p.1 λa=>qn p.2 λb=>qP r λr=>k ((a,b)::r)
theorem yS: ∀(l:ak) (k:ak->Prop),qP l k=k l
  | [],_=>rfl
  |s::r,k=>by simp only[qP,eL,ye,yS r]
def vG (x:Rc) (k:Rc->Prop):Prop:=match x with|⟨fs,hs,u⟩=>qQ fs λfs=>nH hs λhs=>qP u λu=>k ⟨fs,hs,u⟩
theorem C8 (x:Rc) (k:Rc->Prop):vG x k=k x:=by cases x;simp only[vG,yT,tt,yS]
def lL:List Rc->(List Rc->Prop)->Prop
  | [],k=>k []
  |p::r,k=>vG p λa=>lL r λr=>k (a::r)
theorem yc: ∀(l:List Rc) (k:List Rc->Prop),lL l k=k l
  | [],_=>rfl
  |s::r,k=>by simp only[lL,C8,yc r]
def aL (rs:List Rc) (j:Nat):Rc:=rs.getD j ⟨[],[],[]⟩
def vF (rs:List Rc) (F:Fr) (E:List Nat):Fr:=E.flatMap (λj=>(aL rs j).fs)++F
def vM (rs:List Rc) (M:Mem) (E:List Nat):Mem:=E.flatMap (λj=>(aL rs j).u)++M
def vH (rs:List Rc) (E:List Nat):List Hd:=E.flatMap λj=>(aL rs j).hs
def qa:Op->Bool
  | .store _ _ _=>true
  | .call {callee:= .builtin .copy,args:=_,argTypes:=_}=>true
  | .call {callee:= .builtin .clear,args:=_,argTypes:=_}=>true
  |_=>false
def cY (N:Nat) (d:Option Nat) (s:SV):List (Nat×SV):=match d with|some t=>(match Nat.blt t N with|true=> [(t,s)]|false=> [])|none=> []
def iz (P:Program) (sg:Bool) (Gl:Nat->SV) (Γ:Table) (N:Nat) (ops:List Oper) (V:Fr) (M:Mem) (H:List Hd) (nx:Nat) (pr:List Nat) (o:Oper):Option (Prop×Rc):=
  match je H o.dst,guardOf N ops V H o,qa o.op with
  |true,.yes,false=>
   match fu P sg Gl Γ V M nx H [] o.op with
   | .ok s=>some (True,⟨cY N o.dst s,[],[]⟩)
   | .eP _ s=>some (True,⟨cY N o.dst s,[],[]⟩)
   | .br p s=>some (p,⟨cY N o.dst s,[],[]⟩)
   | .mem p s u=>match dT (aa M) u&&iv (aa M) u with|true=>some (p,⟨cY N o.dst s,[],u⟩)|false=>none
   | .any _ _=>none
   | .bad=>none
  |true,.no,_=>some (True,⟨cY N o.dst (.v undef),[],[]⟩)
  |true,.ask d want,false=>
   match o.dst,fu P sg Gl Γ V M nx H (bU H H.length d want) o.op with
   |some t,.ok s=>match Nat.blt t N&&!Nat.beq d t with|true=>some (True,⟨[(t,.aj)],[⟨t,d,want,s⟩],[]⟩)|false=>none
   |some t,.eP _ s=>match Nat.blt t N&&!Nat.beq d t with|true=>some (True,⟨[(t,.aj)],[⟨t,d,want,s⟩],[]⟩)|false=>none
   |some t,.br p s=>match Nat.blt t N&&!Nat.beq d t with|true=>some (hyps (dp (bU H H.length d want) V H) (bU H H.length d want) p,⟨[(t,.aj)],[⟨t,d,want,s⟩],[]⟩)|false=>none
   |some t,.mem p s u=>match Nat.blt t N&&!Nat.beq d t,gU (aa M) u&&(dT (aa M) u&&iv (aa M) u)with|true,true=>some (hyps (dp (bU H H.length d want) V H) (bU H H.length d want) p,⟨[(t,.aj)],[⟨t,d,want,s⟩],u⟩)|_,_=>none
   |_,_=>none
  |_,_,_=>none
section
variable {P:Program} {w:World} {J:Ow} {ρ:Operand->SV} {Gl:Nat->SV} {Γ:Table} {N:Nat} {F:Fr} {M:Mem} {a:Act} {H:List Hd}
theorem dM.refl (w:World) (J:Ow):dM w J w J (λk=>k∈([]:ak).map (·.1)):=⟨Cw.refl w,λ_ h=>h,rfl,λ_ _ _=>rfl,λk p L hk=>by simp at hk,rfl⟩
inductive gF (P:Program) (w:World) (J:Ow) (M:Mem) (a:Act) (o:Oper) (s:SV):ak->Prop where
  |pure (v:Value) (h:(execOp a.eval o).run P w= .ok (.value v) w) (hd:Den w J s v):gF P w J M a o s []
  |mem {u:ak} (h:fR P w J M a o s u):gF P w J M a o s u
  |call {u:ak} (h:ni P w J M a o s u):gF P w J M a o s u
  |app {u:ak} (h:iv (aa M) u=true->dT (aa M) u=true->fR P w J M a o s u):gF P w J M a o s u
theorem gF.wp {o:Oper} {s:SV} {u:ak} (hm:ai w J M) (h:gF P w J M a o s u) (hf:(dT (aa M) u&&iv (aa M) u)=true) {next:Act->World->Prop} {Q:Exit->Act->World->Prop}
    (hn: ∀v w' ae,az w J M w' ae (u++M)->dM w J w' ae (λk=>k∈u.map (·.1))->Den w' ae s v->next (a.put o.dst v) w'):o.wp P a w next Q:=by
  rw[Bool.and_eq_true]at hf
  obtain⟨hf,vI⟩:=hf
  unfold Oper.wp
  cases h with
  |pure v h hd=>rw[h];exact hn v w J (az.refl hm) (dM.refl _ _) hd
  |app h=>
   obtain⟨n,v,w',ae,U,h2,h3,h4,h5⟩:=h vI hf
   rw[U]
   rcases h2 with rfl|⟨rfl,rfl⟩
   · exact hn v w' ae h3 h5 h4
   · exact hn _ w' ae h3 h5 h4
  |mem h=>
   obtain⟨n,v,w',ae,U,h2,h3,h4,h5⟩:=h
   rw[U]
   rcases h2 with rfl|⟨rfl,rfl⟩
   · exact hn v w' ae h3 h5 h4
   · exact hn _ w' ae h3 h5 h4
  |call h=>
   obtain⟨id,vs,U,h2⟩:=h
   rw[U]
   unfold j_ at h2
   refine h2.mono ?_
   rintro e w' ⟨v,ae,rfl,h3,h4,h5,_⟩
   exact hn v w' ae h3 (h5 hf) h4
theorem tU {o:Oper} {r:R} {K:SV->ak->Prop} (h: ∀{K':SV->Prop},r.run K'->bV P w J a o K') (he:r.up.run K): ∃s u,gF P w J M a o s u/\K s u:=by
  have:r.run (λs=>K s []):=by cases r<;>exact he
  obtain⟨s,v,U,h2,h3⟩:=h this
  exact⟨s,[],.pure v U h2,h3⟩
theorem j5 {o:Oper} {x:Option (Prop×SV×ak)} {K:SV->ak->Prop} (h: ∀{p s u},x=some (p,s,u)->p->gF P w J M a o s u) (he:(fZ x).run K): ∃s u,gF P w J M a o s u/\K s u:=by
  cases x with
  |none=>exact he.elim
  |some x=>exact⟨_,_,h rfl he.1,he.2⟩
theorem Cr (hS:Sound P Gl Γ) (hG: ∀g,Den w J.bare (Gl g) (.pointer (some ⟨g,0,none⟩))) (h:Cx P w J ρ M a) {sg:Bool} {nx:Nat} {o:Oper} (hq:qa o.op=false) {K:SV->ak->Prop} (he:(om P sg Γ ρ (aa M) nx o.op).run K):
    ∃s u,gF P w J M a o s u/\K s u:=by
  unfold om at he
  split at he
  · next T x ho=>exact j5 (λe hp=> .mem (yU h ho e)) he
  · next T ho=>exact j5 (λe hp=> .mem (xB h ho e)) he
  · next T x y ho=>rw[ho]at hq;cases hq
  · next T x y ho=>exact j5 (λe hp=> .mem (yf h ho e hp)) he
  · next T len parts ho=>exact j5 (λe hp=> .mem (xh h ho e)) he
  · next x y T T' ho=>
    split at he
    · next ht=>
      obtain rfl:=Nat.eq_of_beq_eq_true ht
      exact j5 (λe hp=> .app λU h2=>AU h ho e hp U h2) he
    · exact he.elim
  · next x y T T' ho=>rw[ho]at hq;cases hq
  · next x T ho=>rw[ho]at hq;cases hq
  · next f args ts ho=>exact j5 (λe hp=> .call (tu hS hG h ho e hp)) he
  · next r name args ts ho=>exact j5 (λe hp=> .call (sJ hS hG h ho e hp)) he
  · next c x y ho=>exact tU (λhe=>mW h ho he) he
  · next op T x y T' ho=>
    obtain⟨s,v,U,h2,h3⟩:=yg h ho he
    exact⟨s,[],.pure v U h2,h3⟩
  · exact tU (λhe=>ka h he) he
theorem xC (hS:Sound P Gl Γ) (h:St P Gl N F M a w J) (hH:cS w J N a H) {sg:Bool} {nx:Nat} {As:List (Nat×Bool)} (hA:fS a As) {o:Oper} (hq:qa o.op=false) {K:SV->ak->Prop} (he:(fu P sg Gl Γ F M nx H As o.op).run K):
    ∃s u,gF P w J M a o s u/\K s u:=by
  have dx: ∀{As},fS a As->Cx P w J (aW Gl (dp As F H)) M a:=λhA=>⟨(gf h.frame hA H hH).aW h.bG,h.mem⟩
  unfold fu at he
  split at he
  · next c x y ho=>
    refine tU ?_ he
    clear he
    intro K' he
    unfold tv at he
    split at he
    · next d=>
      split at he
      · next b hb=>
        split at he
        · next p r hp hr=>
          obtain⟨u,hu,hd⟩:=xi (gf h.frame hA H hH) hb (by simp)
          obtain rfl:=hd
          have ec:a.eval (.tmp d)= .bool b:=by
            simp only[Act.eval,Array.getD_eq_getD_getElem?,hu];rfl
          refine⟨.v (.bool (bif b then p else r)),.bool (bif b then p else r),?_,rfl,he⟩
          cases b with
          |true=>
           have hC:=(gl hH H.length d true hu).append hA
           have ex:=eW hp ((dx hC).val x)
           simp[execOp,ho,ec,asBool,ex]
          |false=>
           have hC:=(gl hH H.length d false hu).append hA
           have ey:=eW hr ((dx hC).val y)
           simp[execOp,ho,ec,asBool,ey]
        · exact he.elim
      · exact mW (dx hA) ho he
    · exact he.elim
  · exact Cr hS h.bG (dx hA) hq he
theorem xj (hm:ai w J M): ∀{u:ak},gU (aa M) u=true-> ∀k∈u.map (·.1),∀p,J.β k p=none
  | [],_,k,hk,_=>by simp at hk
  |(k0,e)::r,h,k,hk,p=>by
   simp only[gU,Bool.and_eq_true]at h
   obtain⟨⟨⟨⟨⟨U,h2⟩,h3⟩,h4⟩,h5⟩,h6⟩:=h
   rw[fK]at h2
   simp only[List.map_cons,List.mem_cons]at hk
   rcases hk with rfl|hk
   · exact(eU (oV hm U).mem h2).2.2 p
   · exact xj hm U k hk p
theorem BH {u:ak} (hm:ai w J M) (h:gU (aa M) u=true):dM w J w J (λk=>k∈u.map (·.1)):=
  ⟨Cw.refl w,λ_ h=>h,rfl,λ_ _ _=>rfl,(λk p L hk hb=>absurd hb (by rw[xj hm h k hk p];exactλe=>by cases e)),rfl⟩
def ng (w:World) (J:Ow) (N:Nat) (a:Act) (rc:Rc):Prop:=(∀p∈rc.fs,∀u,a.tmps[p.1]? =some u->Den w J p.2 u)/\cS w J N a rc.hs
theorem oT {d:Option Nat} {s:SV} {v:Value} (hd:Den w J s v): ∀p∈cY N d s,∀u,(a.put d v).tmps[p.1]? =some u->Den w J p.2 u:=by
  intro p hp u hu
  unfold cY at hp
  split at hp
  · next t=>
    split at hp
    · simp only[List.mem_singleton]at hp
      subst hp
      simp only[Act.put]at hu
      rw[Array.getElem?_setIfInBounds_self]at hu
      split at hu
      · obtain rfl:=Option.some.inj hu;exact hd
      · cases hu
    · simp at hp
  · simp at hp
theorem El (hS:Sound P Gl Γ) {sg:Bool} {ops:Array Oper} {Q:Exit->Act->World->Prop} {nx i:Nat} {pr:List Nat} {o:Oper} {p:Prop} {rc:Rc} (ho:ops[i]? =some o) (h:St P Gl N F M a w J) (hH:cS w J N a H)
    (he:iz P sg Gl Γ N ops.toList F M H nx pr o=some (p,rc)) (hp:p) {K:Act->World->Prop}
    (hK: ∀v w' ae,az w J M w' ae (rc.u++M)->dM w J w' ae (λk=>k∈rc.u.map (·.1))->ng w' ae N (a.put o.dst v) rc->K (a.put o.dst v) w'):wpOp P ops Q i K a w:=by
  have eJ:=sY (ops:=ops) h.frame H o
  unfold wpOp
  rw[ho]
  simp only
  unfold iz at he
  split at he
  · next bu ed hq=>
    rw[ed]at eJ
    cases eJ with
    |yes hw=>
     rw[if_pos hw]
     left
     have key: ∃s u,rc=⟨cY N o.dst s,[],u⟩/\(dT (aa M) u&&iv (aa M) u)=true/\(fu P sg Gl Γ F M nx H [] o.op).run (λs' u'=>s'=s/\u'=u):=by
       split at he
       · next s hr=>
         simp only[Option.some.injEq,Prod.mk.injEq]at he
         exact⟨s,[],he.2.symm,rfl,by rw[hr];exact⟨rfl,rfl⟩⟩
       · next s hr=>
         simp only[Option.some.injEq,Prod.mk.injEq]at he
         exact⟨s,[],he.2.symm,rfl,by rw[hr];exactλ_=>⟨rfl,rfl⟩⟩
       · next s hr=>
         simp only[Option.some.injEq,Prod.mk.injEq]at he
         exact⟨s,[],he.2.symm,rfl,by rw[hr];exact⟨by rw[he.1];exact hp,rfl,rfl⟩⟩
       · next s u hr=>
         split at he
         · next hf=>
           simp only[Option.some.injEq,Prod.mk.injEq]at he
           exact⟨s,u,he.2.symm,hf,by rw[hr];exact⟨by rw[he.1];exact hp,rfl,rfl⟩⟩
         · cases he
       · cases he
       · cases he
     obtain⟨s,u,rfl,hf,cD⟩:=key
     obtain⟨s',u',dk,rfl,rfl⟩:=xC hS h hH (λp hp=>by cases hp) hq cD
     exact dk.wp h.mem hf λv w' ae U h2 h3=>hK v w' ae U h2 ⟨oT h3,λx hx=>by cases hx⟩
  · next bu ed=>
    rw[ed]at eJ
    cases eJ with
    |no hw=>
     rw[if_neg (by rw[hw];exact Bool.false_ne_true)]
     simp only[Option.some.injEq,Prod.mk.injEq]at he
     obtain⟨_,rfl⟩:=he
     exact hK undef w J (az.refl h.mem) (dM.refl _ _) ⟨oT rfl,λx hx=>by cases hx⟩
  · next d want bu ed hq=>
    rw[ed]at eJ
    cases eJ with
    |ask _ _ hw=>
     have ej: ∀{t:Nat},(Nat.blt t N&&!Nat.beq d t)=true->t<N/\d≠t:=by
       intro t ht
       rw[Bool.and_eq_true,Bool.not_eq_true']at ht
       exact⟨Nat.le_of_ble_eq_true ht.1,λe=>by rw[e,Nat.beq_refl]at ht;cases ht.2⟩
     have key: ∃t s u,o.dst=some t/\t<N/\d≠t/\rc=⟨[(t,.aj)],[⟨t,d,want,s⟩],u⟩/\(gU (aa M) u&&(dT (aa M) u&&iv (aa M) u))=true/\(a.tmps[d]? =some (.bool want)->(fu P sg Gl Γ F M nx H (bU H H.length d want) o.op).run (λs' u'=>s'=s/\u'=u)):=by
       split at he
       · next t s bW hr=>
         split at he
         · next hc=>
           simp only[Option.some.injEq,Prod.mk.injEq]at he
           exact⟨t,s,[],bW,(ej hc).1,(ej hc).2,he.2.symm,rfl,λ_=>by rw[hr];exact⟨rfl,rfl⟩⟩
         · cases he
       · next t _ s bW hr=>
         split at he
         · next hc=>
           simp only[Option.some.injEq,Prod.mk.injEq]at he
           exact⟨t,s,[],bW,(ej hc).1,(ej hc).2,he.2.symm,rfl,λ_=>by rw[hr];exactλ_=>⟨rfl,rfl⟩⟩
         · cases he
       · next t p' s bW hr=>
         split at he
         · next hc=>
           simp only[Option.some.injEq,Prod.mk.injEq]at he
           refine⟨t,s,[],bW,(ej hc).1,(ej hc).2,he.2.symm,rfl,λda=>?_⟩
           rw[hr]
           have hA:=gl hH H.length d want da
           exact⟨mX (gf h.frame hA H hH) _ hA (by rw[he.1];exact hp),rfl,rfl⟩
         · cases he
       · next t p' s u bW hr=>
         split at he
         · next hc hu=>
           simp only[Option.some.injEq,Prod.mk.injEq]at he
           refine⟨t,s,u,bW,(ej hc).1,(ej hc).2,he.2.symm,hu,λda=>?_⟩
           rw[hr]
           have hA:=gl hH H.length d want da
           exact⟨mX (gf h.frame hA H hH) _ hA (by rw[he.1];exact hp),rfl,rfl⟩
         · cases he
       · cases he
     obtain⟨t,s,u,bW,ht,qR,rfl,Ai,cD⟩:=key
     rw[Bool.and_eq_true]at Ai
     obtain⟨Aj,og⟩:=Ai
     rw[bW]at bu
     have facts: ∀{v:Value} {w':World} {ae:Ow},(a.tmps[d]? =some (.bool want)->Den w' ae s v)->(a.tmps[d]? ≠some (.bool want)->v=undef)->ng w' ae N (a.put (some t) v) ⟨[(t,.aj)],[⟨t,d,want,s⟩],u⟩:=by
       intro v w' ae g1 g2
       refine⟨λp hp u hu=>?_,?_⟩
       · simp only[List.mem_singleton]at hp
         subst hp
         trivial
       · exact cS.cons (H:= []) (w:=w') (J:=ae) (λx hx=>by cases hx) (by rfl) h.frame.size ht qR g1 g2
     by_cases da:a.tmps[d]? =some (.bool want)
     · rw[if_pos (hw.2 da)]
       left
       obtain⟨s',u',dk,rfl,rfl⟩:=xC hS h hH (gl hH H.length d want da) hq (cD da)
       refine dk.wp h.mem og λv w' ae U h2 h3=>hK v w' ae U h2 ?_
       rw[bW]
       exact facts (λ_=>h3) (λhn=>absurd da hn)
     · have vJ:Region.wanted o (yielded ops a.tmps)=false:=by
         cases hx:Region.wanted o (yielded ops a.tmps)with
         |false=>rfl
         |true=>exact absurd (hw.1 hx) da
       rw[if_neg (by rw[vJ];exact Bool.false_ne_true)]
       refine hK undef w J (oV h.mem Aj) (BH h.mem Aj) ?_
       rw[bW]
       exact facts (λhn=>absurd hn da) (λ_=>rfl)
  · cases he
/-! ### register operations -/
def isVal:SV->Bool
  | .v _=>true
  | .bl _=>true
  |_=>false
def zu:SV->SV
  | .v x=> .v x
  | .bl b=> .bl b
  |_=> .aj
def iC (V:Fr):Fr:=V.map λp=>(p.1,zu p.2)
theorem wP: ∀(V:Fr) (t:Nat),look (iC V) t=zu (look V t)
  | [],_=>rfl
  |p::r,t=>by
   simp only[iC,List.map_cons,look]
   cases Nat.beq p.1 t
   · exact wP r t
   · rfl
def lC:R->R
  | .ok s=>match isVal s with|true=> .ok s|false=> .bad
  | .br p s=>match isVal s with|true=> .br p s|false=> .bad
  | .eP p s=>match isVal s with|true=> .eP p s|false=> .bad
  | .bad=> .bad
theorem xk {r:R} {K:SV->Prop} (h:(lC r).run K):r.run (λs=>isVal s=true/\K s):=by
  cases r with
  |bad=>exact h
  |ok s=>simp only[lC]at h;cases hv:isVal s with
   |true=>rw[hv]at h;exact⟨hv,h⟩
   |false=>rw[hv]at h;exact h.elim
  |br p s=>simp only[lC]at h;cases hv:isVal s with
   |true=>rw[hv]at h;exact⟨h.1,hv,h.2⟩
   |false=>rw[hv]at h;exact h.elim
  |eP p s=>simp only[lC]at h;cases hv:isVal s with
   |true=>rw[hv]at h;exactλhp=>⟨hv,h hp⟩
   |false=>rw[hv]at h;exact h.elim
def aO (V:Fr):Operand->SV:=aW (λ_=> .aj) V
def En:SV->Bool
  | .ptr _ _ _ _ _=>true
  | .pt _ _ _=>true
  |_=>false
def jv (P:Program) (sg:Bool) (V:Fr) (m:Nat->ao) (op:Op):R:=
  match op with
  | .pick c x y=>lC (m4 (aO (iC V) c) (aO (iC V) x) (aO (iC V) y))
  | .move x=> .ok (aO V x)
  | .extract x i=>mH (aO V x) i
  | .fieldAddr S x j=>match En (aO V x)with|true=>ln P S (aO V x) j m|false=> .bad
  | .indexAddr T x y=>mY P T (vK y) (aO V x) (aO V y) m
  |op=>lC (kK P sg (aO (iC V)) (aa []) op)
theorem bV.and {o:Oper} {K:SV->Prop} {v:Value} (h:bV P w J a o K) (hv: ∀w',(execOp a.eval o).run P w'= .ok (.value v) w'): ∃s,Den w J s v/\K s:=by
  obtain⟨s,v',U,h2,h3⟩:=h
  rw[hv w]at U
  obtain⟨e,_⟩:=Result.ok.inj U
  have:v=v':=by injection e
  subst this
  exact⟨s,h2,h3⟩
theorem tT (hm:ai w J M) (hF:bA w J N F a.tmps) {sg:Bool} {o:Oper} {s:SV} (he:(jv P sg F (aa M) o.op).run (λs'=>s'=s)):
    ∃v,(∀w',(execOp a.eval o).run P w'= .ok (.value v) w')/\Den w J s v:=by
  let aI:Ow:=⟨λ_=>False,λ_=>False,λ_ _=>none,λ_=>(0,0)⟩
  have iS: ∀w',ai w' aI []:=λw'=>⟨rfl,λb ⟨k,p,L,h,_⟩=>(by cases h),λ_ h=>False.elim h,λ_ h=>False.elim h,λ_ h=>False.elim h,λ_ _ _ _ _ _ h=>(by cases h),λ_ _ _ h=>(by cases h),λ_ _ _ h=>(by cases h),λ_ _ h=>(by cases h),λ_ _ _ _=>rfl⟩
  have hv: ∀w' x,Den w' aI (aO (iC F) x) (a.eval x):=by
    intro w' x
    cases x with
    |tmp t=>
     show Den w' aI (look (iC F) t) _
     rw[wP]
     have hd:=hF.get t
     cases hl:look F t with
     |v y=>rw[hl]at hd;exact hd
     |bl b=>rw[hl]at hd;exact hd
     |_=>trivial
    |const v=>cases v<;>exact rfl
    |global g=>trivial
    |func f=>exact⟨#[],rfl,rfl,λj hj=>absurd hj (by omega)⟩
  have zN: ∀w',Cx P w' aI (aO (iC F)) [] a:=λw'=>⟨hv w',iS w'⟩
  have hJ: ∀x,Den w J (aO F x) (a.eval x):=by
    intro x
    cases x with
    |tmp t=>exact hF.get t
    |const v=>cases v<;>exact rfl
    |global g=>trivial
    |func f=>exact⟨#[],rfl,rfl,λj hj=>absurd hj (by omega)⟩
  have Ak:Cx P w J (aO F) M a:=⟨hJ,hm⟩
  have bare:(∀w',bV P w' aI a o (λs'=>isVal s'=true/\s'=s))-> ∃v,(∀w',(execOp a.eval o).run P w'= .ok (.value v) w')/\Den w J s v:=by
    intro hp
    obtain⟨s0,_,_,_,hs,rfl⟩:=hp w
    cases s0 with
    |v x=>
     refine⟨x,λw'=>?_,rfl⟩
     obtain⟨s',v,U,h2,_,rfl⟩:=hp w'
     have h2:v=x:=h2
     rw[U,h2]
    |bl b=>
     refine⟨.bool b,λw'=>?_,rfl⟩
     obtain⟨s',v,U,h2,_,rfl⟩:=hp w'
     have h2:v= .bool b:=h2
     rw[U,h2]
    |_=>cases hs
  unfold jv at he
  split at he
  · next c x y ho=>exact bare λw'=>mW (zN w') ho (xk he)
  · next x ho=>
    have he:aO F x=s:=he
    subst he
    exact⟨a.eval x,λw'=>by simp[execOp,ho],hJ x⟩
  · next x i ho=>
    have hx:=hJ x
    unfold mH at he
    split at he
    · next n f hs=>
      split at he
      · next hi=>
        have hi:=Nat.le_of_ble_eq_true hi
        have he:f i=s:=he
        subst he
        rw[hs]at hx
        obtain⟨cs,e,hn,hj⟩:=hx
        obtain⟨y,y1,y2⟩:=hj i hi
        exact⟨y,λw'=>by simp[execOp,ho,e,y1,Instr.extract,Result.andThen],y2⟩
      · exact he.elim
    · exact he.elim
  · next S x j ho=>
    split at he
    · next hp=>
      have hx:=hJ x
      have DM:=xD Ak ho he
      obtain⟨ad,di⟩: ∃ad,a.eval x= .pointer (some ad):=by
        cases ht:aO F x with
        |ptr k st p i j=>
         rw[ht]at hx he
         unfold ln at he
         split at he
         · split at he
           · split at he
             · split at he
               · next heq=>
                 obtain⟨rfl,rfl,rfl,rfl,rfl⟩:=SV.ptr.inj heq
                 split at he
                 · next ay=>obtain⟨_,L,_,_,e⟩:=cF hm ay hx;exact⟨_,e⟩
                 · exact he.elim
               · next heq=>cases heq
               · next heq=>cases heq
               · exact he.elim
             · exact he.elim
           · exact he.elim
         · exact he.elim
        |pt q n f=>rw[ht]at hx;obtain⟨ad,e,_⟩:=hx;exact⟨ad,e⟩
        |_=>rw[ht]at hp;cases hp
      obtain⟨s',v,U,h2,h3⟩:=DM
      have h3:s'=s:=h3
      subst h3
      refine⟨v,λw'=>?_,h2⟩
      unfold ln at he
      split at he
      · next fs hu=>
        split at he
        · next fd mc=>
          split at he
          · next i hi=>
            split at he
            · next hz hs=>
              have run: ∀w',(execOp a.eval o).run P w'= .ok (.value (.pointer (some (ad.add fd.offset)))) w':=by
                intro w'
                have hz:0<i.size:=Nat.le_of_ble_eq_true hz
                have hs:(sizeOf fd.type).run P w'= .ok i.size w':=by simp[sizeOf,run_typeInfo w' hi,Result.andThen]
                simp[execOp,ho,di,Instr.fieldAt,Instr.sureAddr,run_underlying hu,mc,fieldPlace,hs,Result.andThen,Nat.ne_of_gt hz]
              have e:=(run w).symm.trans U
              rw[run w']
              injection e with e _
              rw[e]
            · next hz hs=>
              have run: ∀w',(execOp a.eval o).run P w'= .ok (.value (.pointer (some (ad.add fd.offset)))) w':=by
                intro w'
                have hz:0<i.size:=Nat.le_of_ble_eq_true hz
                have hs:(sizeOf fd.type).run P w'= .ok i.size w':=by simp[sizeOf,run_typeInfo w' hi,Result.andThen]
                simp[execOp,ho,di,Instr.fieldAt,Instr.sureAddr,run_underlying hu,mc,fieldPlace,hs,Result.andThen,Nat.ne_of_gt hz]
              have e:=(run w).symm.trans U
              rw[run w']
              injection e with e _
              rw[e]
            · next hz hs=>rw[hs]at hp;cases hp
            · exact he.elim
          · exact he.elim
        · exact he.elim
      · exact he.elim
    · exact he.elim
  · next T x y ho=>
    obtain⟨s',v,U,h2,rfl⟩:=xl Ak ho he
    exact⟨v,U,h2⟩
  · exact bare λw'=>ka (zN w') (xk he)
end
end Go.Sy
set_option linter.unusedVariables false
set_option linter.unusedSimpArgs false
namespace Go.Sy
open Go.RowKit
variable {P:Program} {w w':World} {J:Ow} {M:Mem}
def One (w w':World) (b:Nat):Prop:=w'.os=w.os/\w'.tape=w.tape/\w'.output=w.output/\w'.heap.size=w.heap.size/\ ∀b',b'≠b->w'.heap[b']? =w.heap[b']?
theorem One.trans {w w' cb:World} {b:Nat} (h:One w w' b) (k:One w' cb b):One w cb b:=
  ⟨k.1.trans h.1,k.2.1.trans h.2.1,k.2.2.1.trans h.2.2.1,k.2.2.2.1.trans h.2.2.2.1,λb' hb=>(k.2.2.2.2 b' hb).trans (h.2.2.2.2 b' hb)⟩
theorem One.set (w:World) (a:Addr) (x:Value):One w (w.setCell a x) a.block:=
  ⟨rfl,rfl,rfl,by simp[World.setCell],λb' hb=>mw w a x hb⟩
theorem xg: ∀(cs:List SV) (us:List Value) {w:World} {M:Mem} (hm:ai w J M) {k:Nat} {l:List SV} (hb:(aa M k).b= .cells l) (hx:aJ w J cs us) (U: ∀u∈us,u.oneCell'=true) (hn: ∀s∈cs,aX s=false) {L:Loc} (hL:J.β k none=some L) {j:Nat} (hj:j+cs.length<=l.length) {ad:Addr} (q:Nat) (di:ad.add q=⟨L.b,L.o+j,none⟩),
    ∃w',(storeCells ad us q).run P w= .ok () w'/\(∃M',az w J M w' J M'/\aa M' k={aa M k with b:= .cells (gk l j cs)}/\ ∀k',k'≠k->aa M' k'=aa M k')/\One w w' L.b
  | [],[],w,M,hm,k,l,hb,hx,U,hn,L,hL,j,hj,ad,q,di=>⟨w,by simp[storeCells],⟨M,az.refl hm,by simp only[gk];rw[<-hb],λ_ _=>rfl⟩,rfl,rfl,rfl,rfl,λ_ _=>rfl⟩
  |v::r,x::t,w,M,hm,k,l,hb,⟨hx,qN⟩,U,hn,L,hL,j,hj,ad,q,di=>by
   obtain⟨c1,c2⟩:=mM hm hb hL
   have kF:j<l.length:=by simp at hj;omega
   have st:=az.xA hm hb hL (i:=0) (by omega) kF (hn v (by simp)) hx
   obtain⟨_,_,_,_,c,T,g1,g2,g3,g4⟩:=hm.row _ _ _ hL
   obtain⟨y,y1,_⟩:=g4 0 (by omega) j (by omega)
   simp only[Nat.zero_mul,Nat.add_zero]at st y1
   have r1:(store (ad.add q) x).run P w= .ok () (w.setCell ⟨L.b,L.o+j,none⟩ x):=by rw[di];exact oU g1 (Array.getElem?_eq_some_iff.1 y1).1 (U x (by simp))
   have qm:ad.add (q+1)=⟨L.b,L.o+(j+1),none⟩:=by
     rw[<-add_add,di,dR];simp[Nat.add_assoc]
   obtain⟨w',r2,⟨M',s2,e1,e2⟩,o2⟩:=xg r t st.mem (k:=k) (l:=l.set j v) (by rw[ba]) (qN.ext st.ext) (λy hy=>U y (by simp[hy])) (λs hs=>hn s (by simp[hs])) hL (j:=j+1) (by simp at hj⊢;omega) (q+1) qm
   refine⟨w',by simp[storeCells,r1,r2,Result.andThen],⟨M',st.trans s2,?_,λk' hk=>?_⟩,(One.set w _ x).trans o2⟩
   · rw[e1,ba];rfl
   · rw[e2 k' hk,aQ (Ne.symm hk)]
  | [],_::_,_,_,_,_,_,_,hx,_,_,_,_,_,_,_,_,_=>hx.elim
  |_::_,[],_,_,_,_,_,_,hx,_,_,_,_,_,_,_,_,_=>hx.elim
def fN (n:Nat):List SV:=List.replicate n .aj
theorem py (n j:Nat):aq (fN n) j= .aj:=by
  simp only[aq,fN,List.getD_eq_getElem?_getD,List.getElem?_replicate]
  split<;>rfl
theorem ai.yL (hm:ai w J M) {k:Nat} {e:ao} {l l':List SV} (he:aa M k=e) (hb:e.b= .cells l) (hl:l'.length=l.length)
    (h: ∀L,J.β k none=some L-> ∀c T,w.heap[L.b]? =some (Obj.cells c T (0,0))-> ∀j,j<l.length-> ∀x,c[L.o+j]? =some x->Den w J (aq l j) x->aX (aq l' j)=false/\Den w J (aq l' j) x) (aZ: ∀j,aX (aq l j)=false):ai w J ((k,{e with b:= .cells l'})::M):=by
  subst he
  have lN: ∀k',k'≠k->aa ((k,{aa M k with b:= .cells l'})::M) k'=aa M k':=λk' h=>aQ (Ne.symm h)
  refine⟨?_,hm.own,hm.bI,hm.dj,hm.cA,hm.inj,hm.low,λk' p L hL=>?_,λk' l2 hk=>?_,λk' i j hk=>?_⟩
  · rw[hm.cur];exact(lf (M:=M) (k:=k) (e:={aa M k with b:= .cells l'}) rfl rfl).symm
  · by_cases hk:k'=k
    · subst hk
      obtain⟨r,g1,g2,g3,c,T,g4,g5,g6,g7⟩:=hm.row k' p L hL
      rw[ba]
      cases p with
      |none=>
       unfold rowAt at g1;rw[hb]at g1
       obtain rfl:=Option.some.inj g1
       have aH:l.length=L.sz:=g2
       have kx:1=L.bD:=g3
       refine⟨⟨l'.length,1,λ_ j=>aq l' j⟩,by unfold rowAt;rw[ba];rfl,by show l'.length=_;rw[hl];exact aH,kx,c,T,g4,g5,g6,λi hi j hj=>?_⟩
       obtain⟨x,x1,x2⟩:=g7 i hi j hj
       obtain rfl:i=0:=by omega
       have x2:aV w J (aa M k').hl k' 0 j (aq l j) x:=x2
       rw[cj (aZ j)]at x2
       obtain⟨y1,y2⟩:=h L hL c T g4 j (by omega) x (by simpa using x1) x2
       refine⟨x,x1,?_⟩
       show aV w J (aa M k').hl k' 0 j (aq l' j) x
       rw[cj y1];exact y2
      |some ij=>unfold rowAt at g1;rw[hb]at g1;cases g1
    · obtain⟨r,g1,g2,g3,g4⟩:=hm.row k' p L hL
      exact⟨r,by unfold rowAt at g1⊢;rw[lN k' hk];exact g1,g2,g3,by rw[lN k' hk];exact g4⟩
  · by_cases oh:k'=k
    · subst oh;exact hm.live k' l hb
    · rw[lN k' oh]at hk;exact hm.live k' l2 hk
  · by_cases oh:k'=k
    · subst oh;rw[ba]at hk;exact hm.bN _ _ _ hk
    · rw[lN k' oh]at hk;exact hm.bN _ _ _ hk
theorem ai.Ek (hm:ai w J M) {k n:Nat} (hb:(aa M k).b= .cells (fN n)) {L:Loc} (hL:J.β k none=some L) (ho:One w w' L.b) (hs: ∃c T,w'.heap[L.b]? =some (Obj.cells c T (0,0))/\c.size=L.len):ai w' J M/\Ext w J w' J:=by
  have hA:J.A L.b:=hm.own _ ⟨k,none,L,hL,rfl⟩
  have aF:Ext w J w' J:=⟨ho.1,ho.2.1,ho.2.2.1,λb hb hn=>ho.2.2.2.2 b (λe=>hn (e▸hA)),λ_ _ h=>h,λ_ _ _ h=>h,Nat.le_of_eq ho.2.2.2.1.symm,λ_=>⟨Nat.le_refl _,Nat.le_refl _⟩,λ_ _ _ h _=>h,λ_ h=>h⟩
  refine⟨⟨hm.cur,hm.own,λb h=>by rw[ho.2.2.2.1];exact hm.bI b h,hm.dj,λb h=>by rw[ho.2.2.2.1];exact hm.cA b h,hm.inj,λk p L h=>by rw[ho.2.2.2.1];exact hm.low k p L h,λk' p L' h=>?_,hm.live,hm.bN⟩,aF⟩
  obtain⟨r,g1,g2,g3,g4⟩:=hm.row k' p L' h
  refine⟨r,g1,g2,g3,?_⟩
  by_cases qO:L'.b=L.b
  · obtain⟨rfl,rfl⟩:=hm.inj _ _ _ _ _ _ h hL qO
    obtain rfl:L=L':=Option.some.inj (hL.symm.trans h)
    unfold rowAt at g1;rw[hb]at g1
    obtain rfl:=Option.some.inj g1
    obtain⟨c0,T0,U,h2,h3,h4⟩:=g4
    obtain⟨c,T,e1,e2⟩:=hs
    have aH:(fN n).length=L.sz:=g2
    have kx:1=L.bD:=g3
    refine⟨c,T,e1,e2,h3,λi hi j hj=>?_⟩
    have af:L.o+i*L.sz+j<c.size:=by
      have:=fq hi hj
      omega
    refine⟨c[L.o+i*L.sz+j],Array.getElem?_eq_getElem af,?_⟩
    show aV _ _ _ _ _ _ (aq (fN n) j) _
    rw[py];trivial
  · exact g4.ext aF rfl (λ_=>rfl) (ho.2.2.2.2 _ qO)
def evalW (P:Program) (Gl:Nat->SV) (N:Nat) (ops:List Oper) (V:Fr) (M:Mem) (H:List Hd) (o:Oper):Option (Nat×ak):=
  match o.dst,guardOf N ops V H o,o.op with
  |none,.yes,.store T x y=>
   match aW Gl (dp [] V H) x,gO (aa M) (aW Gl (dp [] V H) y),P.info? T with
   | .ptr k st none ii j,some cs,some i=>
     match aR (aa M) k st none,(aa M k).b,Nat.beq cs.length i.size,cs.all (gu (aa M))with
     |true,.cells l,true,true=>
      match Nat.ble (j+cs.length) l.length with
      |true=>some (k,[(k,{aa M k with b:= .cells (gk l j cs)})])
      |false=>none
     |_,_,_,_=>none
   |_,_,_=>none
  |_,_,_=>none
theorem Em {Gl:Nat->SV} {N:Nat} {ops:Array Oper} {V:Fr} {H:List Hd} {a:Act} {Q:Exit->Act->World->Prop} {i:Nat} {o:Oper} {k:Nat} {u:ak} (ho:ops[i]? =some o) (h:St P Gl N V M a w J) (hH:cS w J N a H)
    (he:evalW P Gl N ops.toList V M H o=some (k,u)) {K:Act->World->Prop}
    (hK: ∀w' L,J.β k none=some L->ai w' J (u++M)->One w w' L.b->K a w'):wpOp P ops Q i K a w:=by
  have eJ:=sY (ops:=ops) h.frame H o
  unfold wpOp
  rw[ho]
  simp only
  unfold evalW at he
  split at he
  · next T x y hd ed dk=>
    rw[ed]at eJ
    cases eJ with
    |yes hw=>
     rw[if_pos hw]
     left
     have hF:=gf h.frame (As:= []) (λp hp=>by cases hp) H hH
     have Ah:=hF.aW h.bG x
     have EW:=hF.aW h.bG y
     split at he
     · next k' st ii j cs inf hx dN hi=>
       split at he
       · next l ay hb hlen dX=>
         split at he
         · next hle=>
           simp only[Option.some.injEq,Prod.mk.injEq]at he
           obtain⟨rfl,rfl⟩:=he
           rw[hx]at Ah
           have hm:=h.mem
           obtain⟨e0,L,hL,eh,ex⟩:=cF hm ay Ah
           obtain⟨c1,c2⟩:=mM hm hb hL
           obtain rfl:ii=0:=by omega
           simp only[Nat.zero_mul,Nat.add_zero]at ex
           have hc:=my hm dN EW
           have U:=pb hm dX hc
           have hlen:=Nat.eq_of_beq_eq_true hlen
           have aH:(a.eval y).cells.size=inf.size:=by rw[<-Array.length_toList,<-hc.len,hlen]
           have cu:(sizeOf T).run P w= .ok inf.size w:=by simp[sizeOf,run_typeInfo w hi,Result.andThen]
           obtain⟨w',r1,⟨M',s1,e1,e2⟩,o1⟩:=xg (P:=P) cs _ hm hb hc U (λs hs=>oQ (List.all_eq_true.1 dX s hs)) hL (Nat.le_of_ble_eq_true hle) (ad:=⟨L.b,L.o+j,none⟩) 0 (by simp[Addr.add])
           have run:(execOp a.eval o).run P w= .ok .skip w':=by
             simp[execOp,dk,ex,Instr.storeAt,Instr.sureAddr,storeVar,cu,aH,r1,Result.andThen]
           have fc:ai w' J ([(k',{aa M k' with b:= .cells (gk l j cs)})]++M):=s1.mem.congr λq=>by
             by_cases hq:q=k'
             · subst hq;rw[e1];exact ba
             · rw[e2 q hq];exact aQ (Ne.symm hq)
           have uX:=hK w' L hL fc o1
           unfold Oper.wp
           rw[run]
           show K (a.put o.dst undef) w'
           rw[hd]
           exact uX
         · cases he
       · cases he
     · cases he
  · cases he
end Go.Sy
set_option linter.unusedVariables false
set_option linter.unusedSimpArgs false
namespace Go.Sy
open Go.RowKit Classical
def keys (rs:List Rc) (j:Nat):List Nat:=(aL rs j).u.map (·.1)
def c_ (rs:List Rc) (M:Mem) (E:List Nat) (k:Nat):Prop:=aM (aa M) k=true/\(∃j,k∈keys rs j)/\ ¬ ∃j∈E,k∈keys rs j
noncomputable def aY (rs:List Rc) (M:Mem) (J:Ow) (E:List Nat):Ow:=⟨J.A,J.Z,λk p=>if c_ rs M E k then none else J.β k p,J.cur⟩
def Ab (M:Mem) (e:ao) (k:Nat):Prop:= ∃r d n l,aa M k=⟨r,d,none,.cells (fN n)⟩/\l.length=n/\e=⟨r,d,none,.cells l⟩
def jx (al:Ow) (W:Nat->Prop) (w0 w:World):Prop:=w.os=w0.os/\w.tape=w0.tape/\w.output=w0.output/\w0.heap.size<=w.heap.size/\
  ∀b,b<w0.heap.size->(∀k,W k-> ∀L,al.β k none=some L->L.b≠b)->w.heap[b]? =w0.heap[b]?
def Wr (rs:List Rc) (M:Mem) (D:Nat->Prop) (k:Nat):Prop:=aM (aa M) k=false/\ ∃j,D j/\k∈keys rs j
def dS (ops:Array Oper) (i:Nat):Option Nat:=(ops[i]?).bind (·.dst)
theorem pU {k:Nat}: ∀{u:ak} {M:Mem},k∈u.map (·.1)->aa (u++M) k=aa u k
  | [],_,h=>by simp at h
  |p::r,M,h=>by
   by_cases hk:p.1=k
   · obtain⟨p1,p2⟩:=p
     subst hk
     rw[List.cons_append,ba,ba]
   · obtain⟨p1,p2⟩:=p
     rw[List.cons_append,aQ hk,aQ hk]
     refine pU ?_
     simp only[List.map_cons,List.mem_cons]at h
     exact h.resolve_left (λe=>hk e.symm)
theorem mU {k:Nat}: ∀{u:ak} {M:Mem},k∉u.map (·.1)->aa (u++M) k=aa M k
  | [],_,_=>rfl
  |p::r,M,h=>by
   obtain⟨p1,p2⟩:=p
   simp only[List.map_cons,List.mem_cons,not_or]at h
   rw[List.cons_append,aQ (Ne.symm h.1)]
   exact mU h.2
theorem pG {rs:List Rc} {M:Mem} {j:Nat} {E:List Nat}:vM rs M (j::E)=(aL rs j).u++vM rs M E:=by simp[vM]
theorem iq {rs:List Rc} {M:Mem} {k:Nat}: ∀{E:List Nat},(∀j∈E,k∉keys rs j)->aa (vM rs M E) k=aa M k
  | [],_=>rfl
  |j::E,h=>by
   rw[pG,mU (h j (by simp))]
   exact iq λi hi=>h i (by simp[hi])
theorem lb {rs:List Rc} {M:Mem} {k j:Nat} (hd: ∀i j,k∈keys rs i->k∈keys rs j->i=j) (hk:k∈keys rs j): ∀{E:List Nat},j∈E->aa (vM rs M E) k=aa (aL rs j).u k
  | [],h=>by simp at h
  |i::E,h=>by
   rw[pG]
   by_cases hi:k∈keys rs i
   · obtain rfl:=hd i j hi hk
     exact pU hi
   · rw[mU hi]
     rcases List.mem_cons.1 h with rfl|h
     · exact absurd hk hi
     · exact lb hd hk h
structure ea (P:Program) (sg:Bool) (Gl:Nat->SV) (Γ:Table) (N:Nat) (ops:Array Oper) (PR:Nat->List Nat) (m:Nat) (rs:List Rc) (F F0:Fr) (M:Mem) (bd wr:Nat->Bool):Prop where
  dep: ∀i o,ops[i]? =some o-> ∀x∈PR i,∃e∈o.after,Region.binds .any e=true/\(x=e.on\/x∈PR e.on)
  closed: ∀i j,j∈PR i-> ∀k∈PR j,k∈PR i
  lt: ∀i j,j∈PR i->j<i
  kI: ∀i o,ops[i]? =some o-> ∀e∈o.after,Region.binds .any e=true->e.on<i
  le:m<=ops.size
  ev: ∀i o,i<m->ops[i]? =some o->bd i=false->wr i=false-> ∃nx p,iz P sg Gl Γ N ops.toList (vF rs F0 (PR i)) (vM rs M (PR i)) (vH rs (PR i)) nx (PR i) o=some (p,aL rs i)/\p
  ER: ∀i o,i<m->ops[i]? =some o->bd i=false->wr i=true->o.dst=none/\(aL rs i).fs= []/\(aL rs i).hs= []/\ ∃k,evalW P Gl N ops.toList (vF rs F0 (PR i)) (vM rs M (PR i)) (vH rs (PR i)) o=some (k,(aL rs i).u)/\aM (aa M) k=false
  fr: ∀i,wr i=false-> ∀k∈keys rs i,aM (aa M) k=true
  vA: ∀i o,i<m->ops[i]? =some o->bd i=true->o.guard=none/\ ∃s,aL rs i=⟨cY N o.dst s,[],[]⟩/\(jv P sg (vF rs F0 (PR i)) (aa (vM rs M (PR i))) o.op).run (λs'=>s'=s)
  apart: ∀i oi,i<m->bd i=true->ops[i]? =some oi-> ∀j oj,ops[j]? =some oj->j≠i->j∉PR i->(∀e∈oj.after,Region.binds .any e=true->e.on≠i)->oi.apart ops oj=true
  dh: ∀i,i<m->bd i=true->Region.noSelect ops=true
  fs: ∀i p,p∈(aL rs i).fs->dS ops i=some p.1/\p.1<N
  hs: ∀i h,h∈(aL rs i).hs->dS ops i=some h.slot/\ ∃g∈PR i,dS ops g=some h.d
  one: ∀i j t,i<m->j<m->dS ops i=some t->dS ops j=some t->i=j
  key: ∀i j k,k∈keys rs i->k∈keys rs j->i=j
  free: ∀i k,k∈keys rs i->aM (aa M) k=true\/(aM (aa M) k=false/\Ab M (aa (aL rs i).u k) k)
  Ag: ∀i k,k∈keys rs i->(aa (aL rs i).u k).rs=(aa M k).rs/\(aa (aL rs i).u k).ds=(aa M k).ds
  short: ∀i,m<=i->aL rs i=⟨[],[],[]⟩
  base: ∀t,look F0 t= .aj\/(look F0 t=look F t/\ ∀i,i<m->dS ops i≠some t)
  out: ∀t,N<=t->look F0 t= .aj
structure Inv (ops:Array Oper) (PR:Nat->List Nat) (m:Nat) (rs:List Rc) (M:Mem) (N:Nat) (a0:Act) (w0:World) (al:Ow) (D:Nat->Prop) (a:Act) (w:World) (J:Ow):Prop where
  low: ∀j,D j->j<m
  bU: ∀j,D j-> ∀k∈PR j,D k
  cw:jx al (Wr rs M D) w0 w
  vy: ∀j k,k∈keys rs j->aM (aa M) k=false-> ∀L,al.β k none=some L-> ∃c T,w.heap[L.b]? =some (Obj.cells c T (0,0))/\c.size=L.len
  A0: ∀b,al.A b->J.A b
  bI: ∀b,J.A b->b<w.heap.size
  uy: ∀b,b<w0.heap.size-> ¬al.A b-> ¬J.A b
  Z:J.Z=al.Z
  dj: ∀b,J.A b-> ¬J.Z b
  cur:J.cur=al.cur
  gd: ∀k p,(∀j,D j->k∈keys rs j->aM (aa M) k=false)->J.β k p=al.β k p
  own: ∀k p L,J.β k p=some L->J.A L.b
  inj: ∀k p L k' p' L',J.β k p=some L->J.β k' p'=some L'->L.b=L'.b->k=k'/\p=p'
  defers:a.defers= []
  size:a.tmps.size=N
  gy: ∀t,(∀j,D j->dS ops j≠some t)->a.tmps[t]? =a0.tmps[t]?
  kG: ∀j,D j->ai w (aY rs M J (j::PR j)) (vM rs M (j::PR j))/\ng w (aY rs M J (j::PR j)) N a (aL rs j)
section
variable {P:Program} {sg:Bool} {Gl:Nat->SV} {Γ:Table} {N:Nat} {ops:Array Oper} {PR:Nat->List Nat} {m:Nat} {rs:List Rc} {F F0:Fr} {M:Mem} {bd wr:Nat->Bool}
variable {a0 a:Act} {w0 w:World} {al J:Ow} {D:Nat->Prop}
theorem sub_eq {E:List Nat} {k:Nat} {p:Path} (h: ¬c_ rs M E k):(aY rs M J E).β k p=J.β k p:=if_neg h
theorem mV {E:List Nat} {k:Nat} {p:Path} (h:c_ rs M E k):(aY rs M J E).β k p=none:=if_pos h
theorem tr {E E':List Nat} (h: ∀j∈E,j∈E'):Ext w (aY rs M J E) w (aY rs M J E'):=
  ⟨rfl,rfl,rfl,λ_ _ _=>rfl,λ_ _ h=>h,λ_ _ _ h=>h,Nat.le_refl _,λ_=>⟨Nat.le_refl _,Nat.le_refl _⟩,λk p L hL _=>by
    by_cases hk:c_ rs M E k
    · rw[mV hk]at hL;cases hL
    · rw[sub_eq hk]at hL
      rw[sub_eq]
      · exact hL
      · rintro ⟨h0,U,h2⟩
        exact hk ⟨h0,U,λ⟨j,hj,bk⟩=>h2 ⟨j,h j hj,bk⟩⟩,λ_ h=>h⟩
theorem iZ {E:List Nat} {k:Nat} {p:Path} {L:Loc} (h:(aY rs M J E).β k p=some L): ¬c_ rs M E k/\J.β k p=some L:=by
  by_cases hk:c_ rs M E k
  · rw[mV hk]at h;cases h
  · exact⟨hk,by rwa [sub_eq hk]at h⟩
theorem Inv.iI (S:ea P sg Gl Γ N ops PR m rs F F0 M bd wr) (hm:ai w0 al M) (I:Inv ops PR m rs M N a0 w0 al D a w J) (E:List Nat):Ext w0 al w (aY rs M J E):=
  ⟨I.cw.1,I.cw.2.1,I.cw.2.2.1,λb hb hn=>I.cw.2.2.2.2 b hb (λk _ L hL e=>hn (hm.own b ⟨k,none,L,hL,e⟩)),I.uy,λb _ _ hz kJ=>hz (by rw[<-I.Z];exact kJ),I.cw.2.2.2.1,λk=>by rw[show(aY rs M J E).cur=al.cur from I.cur];exact⟨Nat.le_refl _,Nat.le_refl _⟩,λk p L hL _=>by
    have bt:aM (aa M) k=false:=by
      cases hf:aM (aa M) k with
      |false=>rfl
      |true=>have:=(eU hm hf).2.2 p;rw[this]at hL;cases hL
    rw[sub_eq (λh=>by have:=h.1;rw[bt]at this;cases this),I.gd k p (λ_ _ _=>bt)]
    exact hL,λb hz=>by show J.Z b;rw[I.Z];exact hz⟩
theorem Inv.all (S:ea P sg Gl Γ N ops PR m rs F F0 M bd wr) (hm:ai w0 al M) (hF:bA w0 al N F a0.tmps) (I:Inv ops PR m rs M N a0 w0 al D a w J) {E:List Nat} (hE: ∀j∈E,D j) (hc: ∀j∈E,∀k∈PR j,k∈E):
    ai w (aY rs M J E) (vM rs M E)/\bA w (aY rs M J E) N (vF rs F0 E) a.tmps/\cS w (aY rs M J E) N a (vH rs E):=by
  have e0:=I.iI S hm E
  have inc: ∀{j},j∈E-> ∀i∈j::PR j,i∈E:=λhj i hi=>by
    rcases List.mem_cons.1 hi with rfl|hi
    · exact hj
    · exact hc _ hj _ hi
  have pV: ∀k,(∃j∈E,k∈keys rs j)\/(∀j∈E,k∉keys rs j):=λk=>by
    by_cases h: ∃j∈E,k∈keys rs j
    · exact .inl h
    · exact .inr λj hj hk=>h ⟨j,hj,hk⟩
  have p_: ∀{j k},j∈E->k∈keys rs j->aa (vM rs M E) k=aa (vM rs M (j::PR j)) k:=λhj hk=>by
    rw[lb (λi j=>S.key i j _) hk hj,lb (λi j=>S.key i j _) hk (by simp)]
  have j9: ∀{j k} {E':List Nat},j∈E'->k∈keys rs j-> ¬c_ rs M E' k:=λhj hk h=>h.2.2 ⟨_,hj,hk⟩
  refine⟨⟨?_,?_,I.bI,I.dj,?_,?_,?_,?_,?_,?_⟩,⟨I.size,?_,?_⟩,?_⟩
  · show J.cur=_
    rw[I.cur,hm.cur]
    funext k
    unfold bx
    rcases pV k with⟨j,hj,hk⟩|bt
    · rw[lb (λi j=>S.key i j _) hk hj,(S.Ag j k hk).1,(S.Ag j k hk).2]
    · rw[iq bt]
  · rintro b ⟨k,p,L,h,rfl⟩
    exact I.own _ _ _ (iZ h).2
  · intro b hz
    have hz:J.Z b:=hz
    rw[I.Z]at hz
    exact Nat.lt_of_lt_of_le (hm.cA b hz) I.cw.2.2.2.1
  · intro k p L k' p' L' U h2 e
    exact I.inj _ _ _ _ _ _ (iZ U).2 (iZ h2).2 e
  · intro k p L h
    exact I.bI _ (I.own _ _ _ (iZ h).2)
  · intro k p L h
    obtain⟨vD,hL⟩:=iZ h
    rcases pV k with⟨j,hj,hk⟩|bt
    · obtain⟨kD,_⟩:=I.kG j (hE j hj)
      obtain⟨r,g1,g2,g3,g4⟩:=kD.row k p L (by rw[sub_eq (j9 (by simp) hk)];exact hL)
      refine⟨r,by unfold rowAt at g1⊢;rw[p_ hj hk];exact g1,g2,g3,?_⟩
      rw[p_ hj hk]
      exact g4.ext (tr (inc hj)) rfl (λq=>by rw[sub_eq vD,sub_eq (j9 (by simp) hk)]) rfl
    · have ql: ∀i,k∈keys rs i->aM (aa M) k=false:=λi gZ=>by
        cases hf:aM (aa M) k with
        |false=>rfl
        |true=>exact absurd ⟨hf,⟨i,gZ⟩,λ⟨j,hj,hk⟩=>bt j hj hk⟩ vD
      rw[I.gd k p (λj _=>ql j)]at hL
      obtain⟨r,g1,g2,g3,g4⟩:=hm.row k p L hL
      refine⟨r,by unfold rowAt at g1⊢;rw[iq bt];exact g1,g2,g3,?_⟩
      rw[iq bt]
      by_cases hW: ∃i,k∈keys rs i
      · obtain⟨i,gZ⟩:=hW
        obtain⟨_,r0,d0,n,l',e1,e2,e3⟩:=(S.free i k gZ).resolve_left (by rw[ql i gZ];simp)
        cases p with
        |some ij=>unfold rowAt at g1;rw[e1]at g1;cases g1
        |none=>
         unfold rowAt at g1;rw[e1]at g1
         obtain rfl:=Option.some.inj g1
         obtain⟨c,T,U,h2⟩:=I.vy i k gZ (ql i gZ) L hL
         obtain⟨c0,T0,f1,f2,f3,f4⟩:=g4
         refine⟨c,T,U,h2,f3,λa ha b hb=>?_⟩
         have af:L.o+a*L.sz+b<c.size:=by have:=fq ha hb;omega
         exact⟨_,Array.getElem?_eq_getElem af,by show aV _ _ _ _ _ _ (aq (fN n) b) _;rw[py];trivial⟩
      · refine g4.ext e0 (by rw[show(aY rs M J E).cur=al.cur from I.cur]) (λq=>by rw[sub_eq vD,I.gd k q (λj _=>ql j)]) (I.cw.2.2.2.2 _ (hm.low k p L hL) ?_)
        rintro k' ⟨vE,j',fB,cC⟩ L' ct e
        obtain⟨rfl,_⟩:=hm.inj _ _ _ _ _ _ ct hL e
        exact hW ⟨j',cC⟩
  · intro k l hl
    rcases pV k with⟨j,hj,hk⟩|bt
    · rw[p_ hj hk]at hl
      obtain⟨L,hL⟩:=(I.kG j (hE j hj)).1.live k l hl
      exact⟨L,by rw[sub_eq (j9 hj hk)];exact(iZ hL).2⟩
    · rw[iq bt]at hl
      have hf:aM (aa M) k=false:=by unfold aM;rw[hl];rfl
      obtain⟨L,hL⟩:=hm.live k l hl
      exact⟨L,by rw[sub_eq (λh=>by have:=h.1;rw[hf]at this;cases this),I.gd k none (λ_ _ _=>hf)];exact hL⟩
  · intro k i j hh
    by_cases zM:c_ rs M E k
    · exact mV zM
    rw[sub_eq zM]
    rcases pV k with⟨q,hq,hk⟩|bt
    · rw[p_ hq hk]at hh
      have:=(I.kG q (hE q hq)).1.bN k i j hh
      rwa [sub_eq (j9 (by simp) hk)]at this
    · rw[iq bt]at hh
      have hf:aM (aa M) k=false:=by unfold aM;rw[hh];cases yR (aa M k).b<;>rfl
      rw[I.gd k _ (λ_ _ _=>hf)]
      exact hm.bN k i j hh
  · intro t u hu
    have BF: ∀(l:List (Nat×SV)) (G:Fr),(∃s,(t,s)∈l/\look (l++G) t=s)\/((∀p∈l,p.1≠t)/\look (l++G) t=look G t):=by
      intro l G
      induction l with
      |nil=>exact .inr ⟨λp hp=>by simp at hp,rfl⟩
      |cons p r ih=>
       obtain⟨p1,p2⟩:=p
       by_cases hp:p1=t
       · subst hp
         exact .inl ⟨p2,by simp,look_eq⟩
       · rw[List.cons_append,iu hp]
         rcases ih with⟨s,U,h2⟩|⟨U,h2⟩
         · exact .inl ⟨s,by simp[U],h2⟩
         · exact .inr ⟨λq hq=>by rcases List.mem_cons.1 hq with rfl|hq;exact hp;exact U q hq,h2⟩
    show Den w _ (look (E.flatMap (λj=>(aL rs j).fs)++F0) t) u
    rcases BF (E.flatMap λj=>(aL rs j).fs) F0 with⟨s,U,h2⟩|⟨U,h2⟩
    · rw[h2]
      obtain⟨j,hj,g_⟩:=List.mem_flatMap.1 U
      exact((I.kG j (hE j hj)).2.1 (t,s) g_ u hu).ext (tr (inc hj))
    · rw[h2]
      rcases S.base t with e|⟨e,bt⟩
      · rw[e];trivial
      · rw[e]
        refine(hF.den t u ?_).ext e0
        rw[<-I.gy t λj hj=>bt j (I.low j hj)]
        exact hu
  · intro t ht
    have BG: ∀(l:List (Nat×SV)) (G:Fr),(∀p∈l,p.1<N)->look (l++G) t=look G t:=by
      intro l G h
      induction l with
      |nil=>rfl
      |cons p r ih=>
       obtain⟨p1,p2⟩:=p
       have:=h (p1,p2) (by simp)
       rw[List.cons_append,iu (by simp at this;omega)]
       exact ih λq hq=>h q (by simp[hq])
    show look (E.flatMap (λj=>(aL rs j).fs)++F0) t= .aj
    rw[BG _ _ λp hp=>by
     obtain⟨j,hj,g_⟩:=List.mem_flatMap.1 hp
     exact(S.fs j p g_).2]
    exact S.out t ht
  · intro h hh
    obtain⟨j,hj,g_⟩:=List.mem_flatMap.1 hh
    exact(cS.ext (I.kG j (hE j hj)).2.2 (tr (inc hj))) h g_
end
end Go.Sy
set_option linter.unusedVariables false
set_option linter.unusedSimpArgs false
namespace Go.Sy
open Go.RowKit Classical
theorem Cw.trans {w w' cb:World} (h:Cw w w') (k:Cw w' cb):Cw w cb:=
  ⟨k.1.trans h.1,k.2.1.trans h.2.1,k.2.2.1.trans h.2.2.1,Nat.le_trans h.2.2.2.1 k.2.2.2.1,λb hb=>(k.2.2.2.2 b (Nat.lt_of_lt_of_le hb h.2.2.2.1)).trans (h.2.2.2.2 b hb)⟩
theorem jx.cw {al:Ow} {W W':Nat->Prop} {w0 w w':World} (h:jx al W w0 w) (k:Cw w w') (hW: ∀q,W q->W' q):jx al W' w0 w':=
  ⟨k.1.trans h.1,k.2.1.trans h.2.1,k.2.2.1.trans h.2.2.1,Nat.le_trans h.2.2.2.1 k.2.2.2.1,λb hb hn=>(k.2.2.2.2 b (Nat.lt_of_lt_of_le hb h.2.2.2.1)).trans (h.2.2.2.2 b hb λq hq=>hn q (hW q hq))⟩
theorem jx.one {al:Ow} {W W':Nat->Prop} {w0 w w':World} (h:jx al W w0 w) {L:Loc} (k:One w w' L.b) (hW: ∀q,W q->W' q) {q0:Nat} (h0:W' q0) (hL:al.β q0 none=some L):jx al W' w0 w':=
  ⟨k.1.trans h.1,k.2.1.trans h.2.1,k.2.2.1.trans h.2.2.1,by rw[k.2.2.2.1];exact h.2.2.2.1,λb hb hn=>(k.2.2.2.2 b (λe=>hn q0 h0 L hL e.symm)).trans (h.2.2.2.2 b hb λq hq=>hn q (hW q hq))⟩
theorem ai.grow {w w':World} {o o':Ow} {M:Mem} (hm:ai w o M) (hc:Cw w w') (he:Ext w o w' o') (a_: ∀k p,o'.β k p=o.β k p) (lK:o'.cur=o.cur) (hZ:o'.Z=o.Z) (hA: ∀b,o.A b->o'.A b) (EO: ∀b,o'.A b->b<w'.heap.size) (dy: ∀b,o'.A b-> ¬o'.Z b):ai w' o' M where
  cur:=lK.trans hm.cur
  own:=λb ⟨k,p,L,U,h2⟩=>hA b (hm.own b ⟨k,p,L,by rw[<-a_];exact U,h2⟩)
  bI:=EO
  dj:=dy
  cA:=λb hz=>Nat.lt_of_lt_of_le (hm.cA b (by rw[<-hZ];exact hz)) hc.2.2.2.1
  inj:=λk p L k' p' L' U h2 e=>hm.inj k p L k' p' L' (by rw[<-a_];exact U) (by rw[<-a_];exact h2) e
  low:=λk p L h=>Nat.lt_of_lt_of_le (hm.low k p L (by rw[<-a_];exact h)) hc.2.2.2.1
  row:=λk p L h=>by
    rw[a_]at h
    obtain⟨r,U,h2,h3,h4⟩:=hm.row k p L h
    exact⟨r,U,h2,h3,h4.ext he (by rw[lK]) (λq=>a_ k q) (hc.2.2.2.2 _ (hm.low k p L h))⟩
  live:=λk l h=>by obtain⟨L,hL⟩:=hm.live k l h;exact⟨L,by rw[a_];exact hL⟩
  bN:=λk i j h=>by rw[a_];exact hm.bN k i j h
section
variable {P:Program} {sg:Bool} {Gl:Nat->SV} {Γ:Table} {N:Nat} {ops:Array Oper} {PR:Nat->List Nat} {m:Nat} {rs:List Rc} {F F0:Fr} {M:Mem} {bd wr:Nat->Bool}
variable {a0 a:Act} {w0 w:World} {al J:Ow} {D:Nat->Prop}
theorem lv {t:Nat} {d:Option Tmp} {v:Value} (h:d≠some t):(a.put d v).tmps[t]? =a.tmps[t]? :=by
  cases d with
  |none=>rfl
  |some x=>
   have:x≠t:=λe=>h (by rw[e])
   simp only[Act.put,Array.getElem?_setIfInBounds_ne this]
theorem BE {d:Option Tmp} {v:Value}:(a.put d v).tmps.size=a.tmps.size:=by cases d<;>simp[Act.put]
theorem Inv.yP (S:ea P sg Gl Γ N ops PR m rs F F0 M bd wr) (hm:ai w0 al M)
    (I:Inv ops PR m rs M N a0 w0 al D a w J) {i:Nat} {o:Oper} (hi:i<m) (ho:ops[i]? =some o) (bY: ¬D i) (cL: ∀j∈PR i,D j) (gB: ∀k∈keys rs i,aM (aa M) k=true) {v:Value} {w':World} {bz:Ow}
    (eG:az w (aY rs M J (PR i)) (vM rs M (PR i)) w' bz ((aL rs i).u++vM rs M (PR i))) (dE:dM w (aY rs M J (PR i)) w' bz (λk=>k∈(aL rs i).u.map (·.1))) (m3:ng w' bz N (a.put o.dst v) (aL rs i)):
    Inv ops PR m rs M N a0 w0 al (λj=>D j\/j=i) (a.put o.dst v) w' ⟨bz.A,J.Z,λk p=>if k∈keys rs i then bz.β k p else J.β k p,J.cur⟩:=by
  have bW:dS ops i=o.dst:=by simp[dS,ho]
  have vx:bz.Z=J.Z:=dE.Z
  have EP:bz.cur=J.cur:=dE.cur
  have bu: ∀b,b<w.heap.size-> ¬J.A b-> ¬bz.A b:=λb hb hn=>eG.ext.free b hb hn
  have uw: ∀b,J.A b->bz.A b:=λb hb=>dE.A b hb
  have nG: ∀{k p},k∈keys rs i->(if k∈keys rs i then bz.β k p else J.β k p)=bz.β k p:=λh=>if_pos h
  have jg: ∀{k p},k∉keys rs i->(if k∈keys rs i then bz.β k p else J.β k p)=J.β k p:=λh=>if_neg h
  have dL:jx al (Wr rs M λj=>D j\/j=i) w0 w':=I.cw.cw dE.cw λq ⟨U,j,h2,h3⟩=>⟨U,j,.inl h2,h3⟩
  have Ei:aY rs M ⟨bz.A,J.Z,λk p=>if k∈keys rs i then bz.β k p else J.β k p,J.cur⟩ (i::PR i)=bz:=by
    show(⟨bz.A,J.Z,_,J.cur⟩:Ow)=⟨bz.A,bz.Z,bz.β,bz.cur⟩
    rw[vx,EP]
    congr 1
    funext k p
    by_cases hk:k∈keys rs i
    · have: ¬c_ rs M (i::PR i) k:=λh=>h.2.2 ⟨i,by simp,hk⟩
      simp only[if_neg this,if_pos hk]
    · rw[dE.β k p hk]
      show _=if c_ rs M (PR i) k then none else J.β k p
      have:c_ rs M (i::PR i) k↔c_ rs M (PR i) k:=by
        constructor
        · rintro ⟨h0,U,h2⟩
          exact⟨h0,U,λ⟨j,hj,bk⟩=>h2 ⟨j,by simp[hj],bk⟩⟩
        · rintro ⟨h0,U,h2⟩
          refine⟨h0,U,?_⟩
          rintro ⟨j,hj,bk⟩
          rcases List.mem_cons.1 hj with rfl|hj
          · exact hk bk
          · exact h2 ⟨j,hj,bk⟩
      by_cases hh:c_ rs M (PR i) k
      · rw[if_pos (this.2 hh),if_pos hh]
      · rw[if_neg (λh=>hh (this.1 h)),if_neg hh];exact jg hk
  refine⟨?_,?_,dL,λj k hk hf L hL=>?_,λb hb=>uw b (I.A0 b hb),eG.mem.bI,?_,I.Z,?_,I.cur,?_,?_,?_,by rw[Act.put_defers];exact I.defers,by rw[BE];exact I.size,?_,?_⟩
  · rintro j (h|rfl)
    · exact I.low j h
    · exact hi
  · rintro j (h|rfl) k hk
    · exact .inl (I.bU j h k hk)
    · exact .inl (cL k hk)
  · obtain⟨c,T,U,h2⟩:=I.vy j k hk hf L hL
    refine⟨c,T,?_,h2⟩
    rw[dE.cw.2.2.2.2 _ (Nat.lt_of_lt_of_le (hm.low k none L hL) I.cw.2.2.2.1)]
    exact U
  · intro b hb hn
    exact bu b (Nat.lt_of_lt_of_le hb I.cw.2.2.2.1) (I.uy b hb hn)
  · intro b hb
    show¬J.Z b
    rw[<-vx]
    exact eG.mem.dj b hb
  · intro k p hk
    show(if k∈keys rs i then bz.β k p else J.β k p)=_
    rw[jg (λh=>by have:=hk i (.inr rfl) h;rw[gB k h]at this;cases this)]
    exact I.gd k p λj hj=>hk j (.inl hj)
  · intro k p L hL
    have hL:(if k∈keys rs i then bz.β k p else J.β k p)=some L:=hL
    by_cases hk:k∈keys rs i
    · rw[nG hk]at hL
      exact eG.mem.own _ ⟨k,p,L,hL,rfl⟩
    · rw[jg hk]at hL
      exact uw _ (I.own k p L hL)
  · intro k p L k' p' L' U h2 e
    have U:(if k∈keys rs i then bz.β k p else J.β k p)=some L:=U
    have h2:(if k'∈keys rs i then bz.β k' p' else J.β k' p')=some L':=h2
    by_cases hk:k∈keys rs i<;>by_cases cC:k'∈keys rs i
    · rw[nG hk]at U;rw[nG cC]at h2
      exact eG.mem.inj _ _ _ _ _ _ U h2 e
    · rw[nG hk]at U;rw[jg cC]at h2
      have e1:=dE.new k p L hk U
      have e2:=I.bI _ (I.own k' p' L' h2)
      omega
    · rw[jg hk]at U;rw[nG cC]at h2
      have e1:=dE.new k' p' L' cC h2
      have e2:=I.bI _ (I.own k p L U)
      omega
    · rw[jg hk]at U;rw[jg cC]at h2
      exact I.inj _ _ _ _ _ _ U h2 e
  · intro t ht
    rw[lv (by rw[<-bW];exact ht i (.inr rfl))]
    exact I.gy t λj hj=>ht j (.inl hj)
  · rintro j (hj|rfl)
    · have iP:j≠i:=λe=>bY (e▸hj)
      have vz:i∉j::PR j:=by
        intro h
        rcases List.mem_cons.1 h with h|h
        · exact iP h.symm
        · exact bY (I.bU j hj i h)
      have zL: ∀k p,(aY rs M ⟨bz.A,J.Z,λk p=>if k∈keys rs i then bz.β k p else J.β k p,J.cur⟩ (j::PR j)).β k p=(aY rs M J (j::PR j)).β k p:=by
        intro k p
        by_cases hh:c_ rs M (j::PR j) k
        · rw[mV hh,mV hh]
        · rw[sub_eq hh,sub_eq hh]
          show(if k∈keys rs i then bz.β k p else J.β k p)=_
          refine jg λhk=>hh ⟨gB k hk,⟨i,hk⟩,?_⟩
          rintro ⟨q,hq,kE⟩
          exact vz ((S.key i q k hk kE)▸hq)
      have aF:Ext w (aY rs M J (j::PR j)) w' (aY rs M ⟨bz.A,J.Z,λk p=>if k∈keys rs i then bz.β k p else J.β k p,J.cur⟩ (j::PR j)):=
        ⟨dE.cw.1,dE.cw.2.1,dE.cw.2.2.1,λb hb _=>dE.cw.2.2.2.2 b hb,bu,λ_ _ _ h=>h,dE.cw.2.2.2.1,λ_=>⟨Nat.le_refl _,Nat.le_refl _⟩,λk p L hL _=>by rw[zL];exact hL,λ_ h=>h⟩
      obtain⟨k1,k2,k3⟩:=I.kG j hj
      refine⟨k1.grow dE.cw aF zL rfl rfl uw eG.mem.bI (λb hb=>?_),λp hp u hu=>?_,?_⟩
      · show¬J.Z b
        rw[<-vx]
        exact eG.mem.dj b hb
      · have aP:o.dst≠some p.1:=by
          rw[<-bW]
          intro e
          exact iP (S.one j i p.1 (I.low j hj) hi (S.fs j p hp).1 e)
        rw[lv aP]at hu
        exact(k2 p hp u hu).ext aF
      · intro h hh
        obtain⟨d1,g,hg,d2⟩:=S.hs j h hh
        have Ad:D g:=I.bU j hj g hg
        have n1:o.dst≠some h.slot:=by
          rw[<-bW];intro e
          exact iP (S.one j i _ (I.low j hj) hi d1 e)
        have n2:o.dst≠some h.d:=by
          rw[<-bW];intro e
          have:g=i:=S.one g i _ (I.low g Ad) hi d2 e
          exact bY (this▸Ad)
        have h0:=k3 h hh
        exact⟨h0.lt,λe u hu=>(h0.yes (by rw[<-lv n2];exact e) u (by rw[<-lv n1];exact hu)).ext aF,λe=>by rw[lv n1];exact h0.no (by rw[<-lv n2];exact e)⟩
    · rw[Ei,pG]
      exact⟨eG.mem,m3⟩
theorem Inv.after (S:ea P sg Gl Γ N ops PR m rs F F0 M bd wr) (hm:ai w0 al M)
    (I:Inv ops PR m rs M N a0 w0 al D a w J) {i:Nat} {o:Oper} (hi:i<m) (ho:ops[i]? =some o) (bY: ¬D i) (cL: ∀j∈PR i,D j) (gB: ∀k∈keys rs i,aM (aa M) k=true) {v:Value} {w':World} {bz:Ow}
    (eG:az w (aY rs M J (PR i)) (vM rs M (PR i)) w' bz ((aL rs i).u++vM rs M (PR i))) (dE:dM w (aY rs M J (PR i)) w' bz (λk=>k∈(aL rs i).u.map (·.1))) (m3:ng w' bz N (a.put o.dst v) (aL rs i)):
    ∃ae,Inv ops PR m rs M N a0 w0 al (λj=>D j\/j=i) (a.put o.dst v) w' ae:=⟨_,I.yP S hm hi ho bY cL gB eG dE m3⟩
theorem Inv.zq (S:ea P sg Gl Γ N ops PR m rs F F0 M bd wr) (hm:ai w0 al M) (hF:bA w0 al N F a0.tmps)
    (I:Inv ops PR m rs M N a0 w0 al D a w J) {i:Nat} {o:Oper} (hi:i<m) (ho:ops[i]? =some o) (dD:bd i=true) (bY: ¬D i) (cL: ∀j∈PR i,D j):
    ∃v,Yields P ops o v a/\ ∃ae,Inv ops PR m rs M N a0 w0 al (λj=>D j\/j=i) (a.put o.dst v) w ae:=by
  obtain⟨g1,g2,g3⟩:=I.all S hm hF cL (λj hj=>S.closed i j hj)
  obtain⟨hg,s,fX,he⟩:=S.vA i o hi ho dD
  obtain⟨v,U,h2⟩:=tT g1 g2 he
  refine⟨v,.inl ⟨by simp[Region.wanted,hg],U⟩,?_⟩
  refine I.after S hm hi ho bY cL (λk hk=>by unfold keys at hk;rw[fX]at hk;simp at hk) (w':=w) (bz:=aY rs M J (PR i)) ?_ ?_ ?_
  · rw[fX];exact az.refl g1
  · rw[fX];exact dM.refl _ _
  · rw[fX];exact⟨oT h2,λx hx=>by cases hx⟩
theorem Cq {ops:List Oper} {V:Fr} {M:Mem} {H:List Hd} {o:Oper} {k:Nat} {u:ak} (h:evalW P Gl N ops V M H o=some (k,u)):u.map (·.1)= [k]:=by
  unfold evalW at h
  split at h
  · split at h
    · split at h
      · split at h
        · simp only[Option.some.injEq,Prod.mk.injEq]at h
          obtain⟨rfl,rfl⟩:=h;rfl
        · cases h
      · cases h
    · cases h
  · cases h
theorem Inv.write (S:ea P sg Gl Γ N ops PR m rs F F0 M bd wr) (hm:ai w0 al M)
    (I:Inv ops PR m rs M N a0 w0 al D a w J) {i:Nat} (hi:i<m) (bY: ¬D i) (cL: ∀j∈PR i,D j) {k:Nat} (hk:keys rs i= [k]) (kH:aM (aa M) k=false) (og:(aL rs i).fs= []) (vB:(aL rs i).hs= []) {w':World} {L:Loc} (hL:(aY rs M J (PR i)).β k none=some L)
    (fc:ai w' (aY rs M J (PR i)) ((aL rs i).u++vM rs M (PR i))) (ho:One w w' L.b):
    Inv ops PR m rs M N a0 w0 al (λj=>D j\/j=i) a w' J:=by
  have j9: ∀{E:List Nat},¬c_ rs M E k:=λh=>by have:=h.1;rw[kH]at this;cases this
  have jy:J.β k none=some L:=by rw[sub_eq j9]at hL;exact hL
  have vC:al.β k none=some L:=by rw[<-I.gd k none (λ_ _ _=>kH)];exact jy
  have gZ:k∈keys rs i:=by rw[hk];simp
  have yQ: ∃c T,w'.heap[L.b]? =some (Obj.cells c T (0,0))/\c.size=L.len:=by
    obtain⟨r,_,_,_,c,T,U,h2,_⟩:=fc.row k none L hL
    exact⟨c,T,U,h2⟩
  have Ej: ∀q,Wr rs M D q->Wr rs M (λj=>D j\/j=i) q:=λq ⟨U,j,h2,h3⟩=>⟨U,j,.inl h2,h3⟩
  have lM:aY rs M J (i::PR i)=aY rs M J (PR i):=by
    show(⟨_,_,_,_⟩:Ow)=⟨_,_,_,_⟩
    congr 1
    funext k' p
    have:c_ rs M (i::PR i) k'↔c_ rs M (PR i) k':=by
      constructor
      · rintro ⟨h0,U,h2⟩
        exact⟨h0,U,λ⟨j,hj,bk⟩=>h2 ⟨j,by simp[hj],bk⟩⟩
      · rintro ⟨h0,U,h2⟩
        refine⟨h0,U,?_⟩
        rintro ⟨j,hj,bk⟩
        rcases List.mem_cons.1 hj with rfl|hj
        · rw[hk]at bk
          obtain rfl:=List.mem_singleton.1 bk
          rw[kH]at h0;cases h0
        · exact h2 ⟨j,hj,bk⟩
    by_cases hh:c_ rs M (PR i) k'
    · rw[if_pos (this.2 hh),if_pos hh]
    · rw[if_neg (λh=>hh (this.1 h)),if_neg hh]
  refine⟨?_,?_,I.cw.one ho Ej ⟨kH,i,.inr rfl,gZ⟩ vC,λj k' cC hf L' ct=>?_,I.A0,λb h=>by rw[ho.2.2.2.1];exact I.bI b h,I.uy,I.Z,I.dj,I.cur,λk' p cC=>I.gd k' p λj hj=>cC j (.inl hj),I.own,I.inj,I.defers,I.size,λt ht=>I.gy t λj hj=>ht j (.inl hj),?_⟩
  · rintro j (h|rfl)
    · exact I.low j h
    · exact hi
  · rintro j (h|rfl) q hq
    · exact .inl (I.bU j h q hq)
    · exact .inl (cL q hq)
  · by_cases hb:L'.b=L.b
    · obtain⟨rfl,_⟩:=hm.inj _ _ _ _ _ _ ct vC hb
      obtain rfl:L=L':=Option.some.inj (vC.symm.trans ct)
      exact yQ
    · obtain⟨c,T,U,h2⟩:=I.vy j k' cC hf L' ct
      exact⟨c,T,by rw[ho.2.2.2.2 _ hb];exact U,h2⟩
  · rintro j (hj|rfl)
    · have iP:j≠i:=λe=>bY (e▸hj)
      have vz: ∀q∈j::PR j,k∉keys rs q:=by
        intro q hq kE
        obtain rfl:=S.key q i k kE gZ
        rcases List.mem_cons.1 hq with h|h
        · exact iP h.symm
        · exact bY (I.bU j hj _ h)
      obtain⟨k1,k2,k3⟩:=I.kG j hj
      obtain⟨_,r0,d0,n,l',e1,e2,e3⟩:=(S.free i k gZ).resolve_left (by rw[kH];simp)
      have hb:(aa (vM rs M (j::PR j)) k).b= .cells (fN n):=by rw[iq vz,e1]
      obtain⟨g1,g2⟩:=k1.Ek hb (by rw[sub_eq j9];exact jy) ho yQ
      exact⟨g1,λp hp u hu=>(k2 p hp u hu).ext g2,λh hh=>(cS.ext k3 g2) h hh⟩
    · rw[lM,pG]
      exact⟨fc,λp hp=>by rw[og]at hp;simp at hp,λh hh=>by rw[vB]at hh;simp at hh⟩
theorem Inv.step (hS:Sound P Gl Γ) (S:ea P sg Gl Γ N ops PR m rs F F0 M bd wr) (hm:ai w0 al M) (hF:bA w0 al N F a0.tmps) (hG: ∀g,Den w0 al.bare (Gl g) (.pointer (some ⟨g,0,none⟩)))
    (I:Inv ops PR m rs M N a0 w0 al D a w J) {i:Nat} {o:Oper} (hi:i<m) (ho:ops[i]? =some o) (bY: ¬D i) (cL: ∀j∈PR i,D j) {Q:Exit->Act->World->Prop} {K:Act->World->Prop}
    (hK: ∀a' w' ae,Inv ops PR m rs M N a0 w0 al (λj=>D j\/j=i) a' w' ae->K a' w'):wpOp P ops Q i K a w:=by
  obtain⟨g1,g2,g3⟩:=I.all S hm hF cL (λj hj=>S.closed i j hj)
  have aD:St P Gl N (vF rs F0 (PR i)) (vM rs M (PR i)) a w (aY rs M J (PR i)):=⟨g2,λg=>Den.ext (o:=al.bare) (I.iI S hm (PR i)).bare (hG g),g1,I.defers⟩
  cases dD:bd i with
  |false=>
   cases gC:wr i with
   |false=>
    obtain⟨nx,p,ma,hp⟩:=S.ev i o hi ho dD gC
    refine El hS ho aD g3 ma hp ?_
    intro v w' bz eG dE m3
    obtain⟨ae,I'⟩:=I.after S hm hi ho bY cL (S.fr i gC) eG dE m3
    exact hK _ _ _ I'
   |true=>
    obtain⟨hd,og,vB,k,ma,kH⟩:=S.ER i o hi ho dD gC
    refine Em ho aD g3 ma λw' L hL fc U=>?_
    exact hK _ _ _ (I.write S hm hi bY cL (k:=k) (Cq ma) kH og vB hL fc U)
  |true=>
   obtain⟨v,hy,ae,I'⟩:=I.zq S hm hF hi ho dD bY cL
   exact hy.wpOp ho (hK _ _ _ I')
/-! ### what is left to be done -/
def eQ (n:Nat) (listed:Array Bool):Nat:=((List.range n).filter λj=>!listed.getD j true).length
theorem yd {p q:Nat->Bool}: ∀(l:List Nat),(∀x∈l,q x=true->p x=true)->(∃x∈l,p x=true/\q x=false)->(l.filter q).length<(l.filter p).length
  | [],_,⟨x,hx,_⟩=>by simp at hx
  |y::r,h,⟨x,hx,U,h2⟩=>by
   have le: ∀(l:List Nat),(∀x∈l,q x=true->p x=true)->(l.filter q).length<=(l.filter p).length:=by
     intro l
     induction l with
     |nil=>intro _;exact Nat.le_refl _
     |cons z r ih=>
      intro h
      have ih:=ih λx hx=>h x (by simp[hx])
      by_cases hq:q z=true
      · rw[List.filter_cons_of_pos hq,List.filter_cons_of_pos (h z (by simp) hq)];simpa using ih
      · rw[List.filter_cons_of_neg hq]
        by_cases hp:p z=true
        · rw[List.filter_cons_of_pos hp];simp;omega
        · rw[List.filter_cons_of_neg hp];exact ih
   have hr: ∀x∈r,q x=true->p x=true:=λx hx=>h x (by simp[hx])
   rcases List.mem_cons.1 hx with rfl|hx
   · rw[List.filter_cons_of_neg (by rw[h2];simp),List.filter_cons_of_pos U]
     have:=le r hr
     simp;omega
   · have ih:=yd r hr ⟨x,hx,U,h2⟩
     by_cases hq:q y=true
     · rw[List.filter_cons_of_pos hq,List.filter_cons_of_pos (h y (by simp) hq)];simpa using ih
     · rw[List.filter_cons_of_neg hq]
       by_cases hp:p y=true
       · rw[List.filter_cons_of_pos hp];simp;omega
       · rw[List.filter_cons_of_neg hp];exact ih
theorem getD_eq {listed:Array Bool} {j:Nat} (h:j<listed.size) (d e:Bool):listed.getD j d=listed.getD j e:=by simp[Array.getD,h]
theorem j4 {n i:Nat} {listed:Array Bool} (hi:i<n) (hs:listed.size=n) (h:listed.getD i true=false):eQ n (listed.setIfInBounds i true)<eQ n listed:=by
  refine yd _ (λx hx hq=>?_) ⟨i,List.mem_range.2 hi,by rw[h];rfl,?_⟩
  · by_cases e:i=x
    · subst e;rw[h];rfl
    · rwa [getD_set_ne true e]at hq
  · have:(listed.setIfInBounds i true).getD i true=true:=by simp[Array.getD,hs,hi]
    rw[this];rfl
theorem ll {n i:Nat} {listed:Array Bool} (hi:i<n) (h:listed.getD i true=false):0<eQ n listed:=by
  unfold eQ
  exact List.length_pos_of_mem (List.mem_filter.2 ⟨List.mem_range.2 hi,by rw[h];rfl⟩)
theorem pH (S:ea P sg Gl Γ N ops PR m rs F F0 M bd wr) (m1:Nat) (hT: ∀i,m1<=i->i<ops.size-> ∀j,j<i->m1<=j->j∈PR i) {Q:Exit->Act->World->Prop}: ∀(fuel t:Nat) (listed:Array Bool) (a:Act) (w:World),listed.size=ops.size->(∀j,j<ops.size->(listed.getD j false=true↔j<t))->m1<=t->t<=ops.size->eQ ops.size listed<=fuel->
    wpList P ops Q (ops.toList.drop t) a w->wpAny P .any ops Q fuel listed a w:=by
  intro fuel
  induction fuel with
  |zero=>
   intro t listed a w hs hl ES ET hu h
   have ht:t=ops.size:=by
     rcases Nat.lt_or_ge t ops.size with af|fY
     · have U:listed.getD t true=false:=by
         rw[getD_eq (by omega) true false]
         cases hx:listed.getD t false with
         |false=>rfl
         |true=>exact absurd ((hl t af).1 hx) (Nat.lt_irrefl _)
       have:=ll af U
       omega
     · omega
   refine⟨?_,?_⟩
   · rw[List.eq_nil_iff_forall_not_mem]
     intro j hj
     obtain⟨U,o,h2,_⟩:=mem_ready.1 hj
     have aw:=(Array.getElem?_eq_some_iff.1 h2).1
     have:=(hl j aw).2 (by omega)
     rw[getD_eq (by omega) true false,this]at U
     cases U
   · rw[ht,List.drop_of_length_le (by simp)]at h
     exact h
  |succ fuel ih=>
   intro t listed a w hs hl ES ET hu h
   have EU: ∀j,j∈Region.ready .any ops listed->j=t:=by
     intro j hj
     obtain⟨U,o,h2,h3⟩:=mem_ready.1 hj
     have aw:=(Array.getElem?_eq_some_iff.1 h2).1
     have fY: ¬j<t:=λaf=>by
       have:=(hl j aw).2 af
       rw[getD_eq (by omega) true false,this]at U
       cases U
     rcases Nat.lt_or_ge t j with af|hle
     · exfalso
       obtain⟨e,he,hb,hx⟩:=S.dep j o h2 t (hT j (by omega) aw t af (by omega))
       have cR:=h3 e he hb
       have FH:e.on<t:=(hl e.on (by have:=S.kI j o h2 e he hb;omega)).1 cR
       rcases hx with hx|hx
       · omega
       · have:=S.lt _ _ hx;omega
     · omega
   refine⟨λhr=>?_,λj hj=>?_⟩
   · rcases Nat.lt_or_ge t ops.size with af|fY
     · exfalso
       have:t∈Region.ready .any ops listed:=by
         refine mem_ready.2 ⟨?_,ops[t],Array.getElem?_eq_getElem af,λe he hb=>?_⟩
         · rw[getD_eq (by omega) true false]
           cases hx:listed.getD t false with
           |false=>rfl
           |true=>exact absurd ((hl t af).1 hx) (Nat.lt_irrefl _)
         · have hd:=S.kI t _ (Array.getElem?_eq_getElem af) e he hb
           exact(hl e.on (by omega)).2 hd
       rw[hr]at this
       simp at this
     · rw[show t=ops.size by omega,List.drop_of_length_le (by simp)]at h
       exact h
   · obtain rfl:=EU j hj
     obtain⟨U,o,h2,h3⟩:=mem_ready.1 hj
     have aw:=(Array.getElem?_eq_some_iff.1 h2).1
     have uz:ops.toList.drop j=o::ops.toList.drop (j+1):=by
       have fB:j<ops.toList.length:=by simpa using aw
       rw[List.drop_eq_getElem_cons fB]
       congr 1
       have:=(Array.getElem?_eq_some_iff.1 h2).2
       simpa using this
     rw[uz]at h
     have zr: ∀a' w',wpList P ops Q (ops.toList.drop (j+1)) a' w'->wpAny P .any ops Q fuel (listed.setIfInBounds j true) a' w':=by
       intro a' w' h'
       refine ih (j+1) _ a' w' (by simpa using hs) (λq hq=>?_) (by omega) (by omega) ?_ h'
       · by_cases e:j=q
         · subst e
           have:(listed.setIfInBounds j true).getD j false=true:=by simp[Array.getD,hs,aw]
           rw[this];simp
         · rw[getD_set_ne false e,hl q hq];omega
       · have:=j4 aw hs U;omega
     unfold wpList at h
     unfold wpOp
     rw[h2]
     simp only
     split
     · next hw=>rw[if_pos hw]at h;exact h.imp (Oper.wp_mono zr) id
     · next hw=>rw[if_neg hw]at h;exact zr _ _ h
theorem C6 (hS:Sound P Gl Γ) (S:ea P sg Gl Γ N ops PR m rs F F0 M bd wr) (hT: ∀i,m<=i->i<ops.size-> ∀j,j<i->j∈PR i\/(j<m/\bd j=true)) (hm:ai w0 al M) (hF:bA w0 al N F a0.tmps) (hG: ∀g,Den w0 al.bare (Gl g) (.pointer (some ⟨g,0,none⟩))) {Q:Exit->Act->World->Prop} (dK: ∀d c a v w,Q (.panic c) (Act.put a d v) w->Q (.panic c) a w)
    (gT: ∀a w J,Inv ops PR m rs M N a0 w0 al (λj=>j<m) a w J->wpList P ops Q (ops.toList.drop m) a w):
    ∀(fuel:Nat) (listed:Array Bool) (a:Act) (w:World) (J:Ow),listed.size=ops.size->eQ ops.size listed<=fuel->Inv ops PR m rs M N a0 w0 al (λj=>listed.getD j false=true) a w J->wpAny P .any ops Q fuel listed a w:=by
  have Ae: ∀i,m<=i->i<ops.size-> ∀j,j<i->m<=j->j∈PR i:=λi U h2 j h3 h4=>(hT i U h2 j h3).resolve_right λh=>by omega
  intro fuel
  induction fuel with
  |zero=>
   intro listed a w J hs hu I
   have all: ∀j,j<ops.size->listed.getD j false=true:=by
     intro j hj
     cases hx:listed.getD j false with
     |true=>rfl
     |false=>have:=ll hj (by rw[getD_eq (listed:=listed) (by omega) true false];exact hx);omega
   have mb:m=ops.size:=by
     rcases Nat.lt_or_ge m ops.size with h|h
     · exact absurd (I.low m (all m h)) (Nat.lt_irrefl _)
     · have:=S.le;omega
   have hD:(λj=>listed.getD j false=true)=(λj=>j<m):=by
     funext j
     refine propext ⟨I.low j,λh=>all j (by omega)⟩
   rw[hD]at I
   exact pH S m Ae 0 m listed a w hs (λj hj=>⟨λ_=>by omega,λ_=>all j hj⟩) (Nat.le_refl _) S.le hu (gT a w J I)
  |succ fuel ih=>
   intro listed a w J hs hu I
   by_cases dF: ∀j,j<m->listed.getD j false=true
   · have hD:(λj=>listed.getD j false=true)=(λj=>j<m):=by
       funext j
       exact propext ⟨I.low j,dF j⟩
     have I':=I
     rw[hD]at I'
     exact pH S m Ae _ m listed a w hs (λj hj=>⟨I.low j,dF j⟩) (Nat.le_refl _) S.le hu (gT a w J I')
   · have hle:=S.le
     have hex: ∃j,j<m/\listed.getD j false=false:=by
       refine Classical.byContradiction λh=>dF λj hj=>?_
       cases hx:listed.getD j false with
       |true=>rfl
       |false=>exact absurd ⟨j,hj,hx⟩ h
     have first: ∃j,j<m/\listed.getD j false=false/\j∈Region.ready .any ops listed:=by
       refine Classical.byContradiction λbt=>?_
       have: ∀n,∀j,j<n->j<m->listed.getD j false=true:=by
         intro n
         induction n with
         |zero=>intro j hj;omega
         |succ n iQ=>
          intro j hj dz
          cases hx:listed.getD j false with
          |true=>rfl
          |false=>
           exfalso
           have aw:j<ops.size:=by omega
           refine bt ⟨j,dz,hx,mem_ready.2 ⟨by rw[getD_eq (by omega) true false];exact hx,ops[j],Array.getElem?_eq_getElem aw,λe he hb=>?_⟩⟩
           have hd:=S.kI j _ (Array.getElem?_eq_getElem aw) e he hb
           exact iQ e.on (by omega) (by omega)
       exact dF λj hj=>this (j+1) j (Nat.lt_succ_self j) hj
     have fO: ∀i,i∈Region.ready .any ops listed-> ∀x∈PR i,listed.getD x false=true:=by
       intro i hi x hx
       obtain⟨U,o,h2,h3⟩:=mem_ready.1 hi
       obtain⟨e,he,hb,bn⟩:=S.dep i o h2 x hx
       have cR:=h3 e he hb
       rcases bn with rfl|bn
       · exact cR
       · exact I.bU _ cR x bn
     have eO: ∀i,i<ops.size->(λj=>(listed.setIfInBounds i true).getD j false=true)=(λj=>listed.getD j false=true\/j=i):=by
       intro i aN
       funext j
       refine propext ⟨λh=>?_,λh=>?_⟩
       · by_cases e:i=j
         · exact .inr e.symm
         · rw[getD_set_ne false e]at h;exact .inl h
       · rcases h with h|rfl
         · exact getD_set_true h
         · simp[Array.getD,hs,aN]
     by_cases zt: ∃i,i∈Region.ready .any ops listed/\m<=i
     · --a register operation is taken first
       obtain⟨i,hi,qJ⟩:=zt
       obtain⟨j,dz,iR,gE⟩:=first
       have aN:i<ops.size:=by
         obtain⟨_,o,h2,_⟩:=mem_ready.1 hi
         exact(Array.getElem?_eq_some_iff.1 h2).1
       have dD:bd j=true:=by
         rcases hT i qJ aN j (by omega)with h|h
         · have:=fO i hi j h
           rw[this]at iR;cases iR
         · exact h.2
       obtain⟨U,o,h2,h3⟩:=mem_ready.1 gE
       have aw:=(Array.getElem?_eq_some_iff.1 h2).1
       obtain⟨v,hy,ae,I'⟩:=I.zq S hm hF dz h2 dD (by rw[iR];simp) (fO j gE)
       refine wpAny_first h2 (Region.noSelect_spec (S.dh j dz dD)) (λc a w h=>dK _ c a v w h) fuel listed a w ?_ gE hy ?_
       · intro q oq hq aP Af bt
         refine S.apart j o dz dD h2 q oq hq aP (λEV=>?_) bt
         have hqn:=(Array.getElem?_eq_some_iff.1 hq).1
         have:=fO j gE q EV
         rw[getD_eq (by omega) true false,this]at Af
         cases Af
       · refine ih _ _ _ ae (by simpa using hs) ?_ ?_
         · have:=j4 aw hs U;omega
         · rw[eO j aw];exact I'
     · refine⟨λhr=>?_,λi hi=>?_⟩
       · obtain⟨j,_,_,gE⟩:=first
         rw[hr]at gE
         simp at gE
       · obtain⟨U,o,h2,h3⟩:=mem_ready.1 hi
         have aN:=(Array.getElem?_eq_some_iff.1 h2).1
         have bY: ¬listed.getD i false=true:=by
           rw[getD_eq (by omega) false true,U];simp
         have cd:i<m:=by
           rcases Nat.lt_or_ge i m with h|h
           · exact h
           · exact absurd ⟨i,hi,h⟩ zt
         refine I.step hS S hm hF hG cd h2 bY (fO i hi) λa' w' ae I'=>ih _ a' w' ae (by simpa using hs) ?_ ?_
         · have:=j4 aN hs U;omega
         · rw[eO i aN]
           exact I'
end
end Go.Sy
set_option linter.unusedVariables false
set_option linter.unusedSimpArgs false
namespace Go.Sy
open Go.RowKit
def iA (ord:List Nat) (n k:Nat):Nat:=match idx ord k with|some p=>p|none=>n
def jn (ord:List Nat) (n:Nat) (e:Edge):Edge:={e with on:=iA ord n e.on}
def fv (ord:List Nat) (n:Nat) (o:Oper):Oper:={o with after:=⟨o.after.toList.map (jn ord n)⟩,guard:=o.guard.map λx=>(iA ord n x.1,x.2)}
def dU (ord:List Nat) (ops:List Oper):List Oper:=ord.filterMap λi=>(ops[i]?).map (fv ord ops.length)
def jf (ord:List Nat) (n:Nat):Bool:=nodupB ord&&Nat.beq ord.length n&&(ord.all λk=>Nat.blt k n)&&(List.range n).all λk=>aT ord k
structure fp (ord:List Nat) (n:Nat):Prop where
  nd:ord.Nodup
  len:ord.length=n
  lt: ∀k∈ord,k<n
  all: ∀k,k<n->k∈ord
theorem sW {ord:List Nat} {n:Nat} (h:jf ord n=true):fp ord n:=by
  unfold jf at h
  simp only[Bool.and_eq_true]at h
  obtain⟨⟨⟨U,h2⟩,h3⟩,h4⟩:=h
  exact⟨la U,Nat.eq_of_beq_eq_true h2,λk hk=>Nat.le_of_ble_eq_true (List.all_eq_true.1 h3 k hk),λk hk=>cU.1 (List.all_eq_true.1 h4 k (List.mem_range.2 hk))⟩
section
variable {P:Program} {ops:Array Oper} {Q:Exit->Act->World->Prop} {ord:List Nat}
theorem fp.pos {n:Nat} (h:fp ord n) {p k:Nat} (hp:ord[p]? =some k):iA ord n k=p:=by
  have hk:=h.lt k (List.mem_of_getElem? hp)
  unfold iA
  cases hi:idx ord k with
  |none=>exact absurd (List.mem_of_getElem? hp) (lh hi)
  |some q=>
   have hq:=fl hi
   have dA:=(List.getElem?_eq_some_iff.1 hp).1
   have qL:=(List.getElem?_eq_some_iff.1 hq).1
   exact(List.getElem?_inj qL h.nd).1 (hq.trans hp.symm)
theorem fp.out {n:Nat} (h:fp ord n) {k:Nat} (hk:n<=k):iA ord n k=n:=by
  unfold iA
  cases hi:idx ord k with
  |none=>rfl
  |some q=>have:=h.lt k (List.mem_of_getElem? (fl hi));omega
theorem pz (h:fp ord ops.size) {p k:Nat} (hp:ord[p]? =some k) {o:Oper} (ho:ops[k]? =some o):(dU ord ops.toList).toArray[p]? =some (fv ord ops.size o):=by
  have key: ∀(l:List Nat) (p:Nat),(∀x∈l,x<ops.size)->(l.filterMap λi=>(ops.toList[i]?).map (fv ord ops.toList.length))[p]? =(l[p]?).bind λk=>(ops[k]?).map (fv ord ops.size):=by
    intro l
    induction l with
    |nil=>intro p _;simp
    |cons x r ih=>
     intro p hl
     have hx:=hl x (by simp)
     have e:(ops.toList[x]?).map (fv ord ops.toList.length)=some (fv ord ops.size ops[x]):=by simp[hx]
     rw[List.filterMap_cons,e]
     cases p with
     |zero=>simp[hx]
     |succ p=>simpa using ih p λy hy=>hl y (by simp[hy])
  rw[List.getElem?_toArray]
  unfold dU
  rw[key ord p h.lt,hp]
  simp[ho]
theorem ld (h:fp ord ops.size):(dU ord ops.toList).toArray.size=ops.size:=by
  rw[List.size_toArray]
  unfold dU
  rw[<-h.len]
  have: ∀l:List Nat,(∀x∈l,x<ops.size)->(l.filterMap λi=>(ops.toList[i]?).map (fv ord ops.toList.length)).length=l.length:=by
    intro l
    induction l with
    |nil=>intro _;rfl
    |cons x r ih=>
     intro hl
     have hx:=hl x (by simp)
     have e:(ops.toList[x]?).map (fv ord ops.toList.length)=some (fv ord ops.size ops[x]):=by simp[hx]
     rw[List.filterMap_cons,e]
     have:=ih λy hy=>hl y (by simp[hy])
     simp only[List.length_cons,this]
  exact this ord h.lt
structure lO (ord:List Nat) (n:Nat) (ls dg:Array Bool):Prop where
  s:ls.size=n
  s':dg.size=n
  eq: ∀(p k:Nat),ord[p]? =some k->dg[p]? =ls[k]?
theorem A7 (h:fp ord ops.size) (tmps:Array Value) (j:Nat):yielded (dU ord ops.toList).toArray tmps (iA ord ops.size j)=yielded ops tmps j:=by
  unfold yielded
  rcases Nat.lt_or_ge j ops.size with hj|hj
  · obtain⟨p,hp⟩:=List.getElem?_of_mem (h.all j hj)
    rw[h.pos hp,pz h hp (Array.getElem?_eq_getElem hj),Array.getElem?_eq_getElem hj]
    rfl
  · rw[h.out hj,Array.getElem?_eq_none (by rw[ld h];exact Nat.le_refl _),Array.getElem?_eq_none hj]
theorem Bj (h:fp ord ops.size) {p k:Nat} (hp:ord[p]? =some k) {K K':Act->World->Prop} {a:Act} {w:World} (hK: ∀a w,K a w->K' a w) (hw:wpOp P (dU ord ops.toList).toArray Q p K a w):wpOp P ops Q k K' a w:=by
  have hk:=h.lt k (List.mem_of_getElem? hp)
  refine wpOp_mono hK ?_
  unfold wpOp at hw⊢
  rw[pz h hp (Array.getElem?_eq_getElem hk)]at hw
  rw[Array.getElem?_eq_getElem hk]
  have DK:Region.wanted (fv ord ops.size ops[k]) (yielded (dU ord ops.toList).toArray a.tmps)=Region.wanted ops[k] (yielded ops a.tmps):=by
    unfold Region.wanted fv
    cases hg:ops[k].guard with
    |none=>rfl
    |some x=>
     obtain⟨j,want⟩:=x
     simp only[Option.map_some]
     rw[A7 h]
  simp only[DK]at hw
  exact hw
theorem wO (h:fp ord ops.size) {ls dg:Array Bool} (hl:lO ord ops.size ls dg) {p k:Nat} (hp:ord[p]? =some k) (hr:k∈Region.ready .any ops ls):p∈Region.ready .any (dU ord ops.toList).toArray dg:=by
  have hk:=h.lt k (List.mem_of_getElem? hp)
  have dA:p<ops.size:=by rw[<-h.len];exact(List.getElem?_eq_some_iff.1 hp).1
  unfold Region.ready at hr⊢
  rw[List.mem_filter]at hr⊢
  refine⟨List.mem_range.2 (by rw[ld h];exact dA),?_⟩
  have h2:=hr.2
  rw[Array.getElem?_eq_getElem hk]at h2
  rw[pz h hp (Array.getElem?_eq_getElem hk)]
  have get: ∀d:Bool,dg.getD p d=ls.getD k d:=λd=>by rw[Array.getD_eq_getD_getElem?,Array.getD_eq_getD_getElem?,hl.eq p k hp]
  rw[get]
  simp only[Option.map_some,Option.getD_some,Bool.and_eq_true]at h2⊢
  refine⟨h2.1,?_⟩
  have h3:=h2.2
  rw[Array.all_eq_true']at h3⊢
  intro e he
  unfold fv at he
  have he:e∈ops[k].after.toList.map (jn ord ops.size):=by simpa using he
  rw[List.mem_map]at he
  obtain⟨e0,oe,rfl⟩:=he
  have oe:e0∈ops[k].after:=by simpa using oe
  have:=h3 e0 oe
  have hb:Region.binds .any (jn ord ops.size e0)=Region.binds .any e0:=rfl
  rw[hb]
  have cR:dg.getD (jn ord ops.size e0).on false=ls.getD e0.on false:=by
    show dg.getD (iA ord ops.size e0.on) false=_
    rcases Nat.lt_or_ge e0.on ops.size with hj|hj
    · obtain⟨q,hq⟩:=List.getElem?_of_mem (h.all _ hj)
      rw[h.pos hq,Array.getD_eq_getD_getElem?,Array.getD_eq_getD_getElem?,hl.eq q _ hq]
    · rw[h.out hj,Array.getD_eq_getD_getElem?,Array.getD_eq_getD_getElem?,Array.getElem?_eq_none (by rw[hl.s'];exact Nat.le_refl _),Array.getElem?_eq_none (by rw[hl.s];exact hj)]
  rw[cR]
  exact this
theorem lO.set {n:Nat} (h:fp ord n) {ls dg:Array Bool} (hl:lO ord n ls dg) {p k:Nat} (hp:ord[p]? =some k):lO ord n (ls.setIfInBounds k true) (dg.setIfInBounds p true):=by
  refine⟨by simpa using hl.s,by simpa using hl.s',λq j hq=>?_⟩
  have dA:=(List.getElem?_eq_some_iff.1 hp).1
  have qL:=(List.getElem?_eq_some_iff.1 hq).1
  by_cases e:q=p
  · subst e
    obtain rfl:j=k:=Option.some.inj (hq.symm.trans hp)
    have U:q<dg.size:=by rw[hl.s',<-h.len];exact qL
    have h2:j<ls.size:=by rw[hl.s];exact h.lt _ (List.mem_of_getElem? hp)
    rw[Array.getElem?_setIfInBounds_self_of_lt U,Array.getElem?_setIfInBounds_self_of_lt h2]
  · have e2:k≠j:=λe2=>by
      subst e2
      exact e ((List.getElem?_inj qL h.nd).1 (hq.trans hp.symm))
    rw[Array.getElem?_setIfInBounds_ne (Ne.symm e),Array.getElem?_setIfInBounds_ne e2]
    exact hl.eq q j hq
theorem oS (h:fp ord ops.size): ∀(fuel:Nat) {ls dg:Array Bool} {a:Act} {w:World},lO ord ops.size ls dg->wpAny P .any (dU ord ops.toList).toArray Q fuel dg a w->wpAny P .any ops Q fuel ls a w
  |0,ls,dg,a,w,hl,⟨U,h2⟩=>by
   refine⟨?_,h2⟩
   apply List.eq_nil_iff_forall_not_mem.2
   intro k hk
   obtain⟨p,hp⟩:=List.getElem?_of_mem (h.all k (by unfold Region.ready at hk;exact List.mem_range.1 (List.mem_filter.1 hk).1))
   have:=wO h hl hp hk
   rw[U]at this;cases this
  |fuel+1,ls,dg,a,w,hl,⟨U,h2⟩=>by
   have lt: ∀{k},k∈Region.ready .any ops ls->k<ops.size:=λhk=>by unfold Region.ready at hk;exact List.mem_range.1 (List.mem_filter.1 hk).1
   refine⟨λhr=>U ?_,λk hk=>?_⟩
   · apply List.eq_nil_iff_forall_not_mem.2
     intro p hp
     have dA:p<ops.size:=by unfold Region.ready at hp;have:=List.mem_range.1 (List.mem_filter.1 hp).1;rwa [ld h]at this
     obtain⟨k,hk⟩: ∃k,ord[p]? =some k:=⟨ord[p]'(by rw[h.len];exact dA),List.getElem?_eq_getElem _⟩
     have jw:=h.lt k (List.mem_of_getElem? hk)
     have:k∈Region.ready .any ops ls:=by
       unfold Region.ready at hp⊢
       rw[List.mem_filter]at hp⊢
       refine⟨List.mem_range.2 jw,?_⟩
       have h3:=hp.2
       rw[pz h hk (Array.getElem?_eq_getElem jw)]at h3
       rw[Array.getElem?_eq_getElem jw]
       have get: ∀d:Bool,dg.getD p d=ls.getD k d:=λd=>by rw[Array.getD_eq_getD_getElem?,Array.getD_eq_getD_getElem?,hl.eq p k hk]
       rw[get]at h3
       simp only[Option.map_some,Option.getD_some,Bool.and_eq_true]at h3⊢
       refine⟨h3.1,?_⟩
       have h4:=h3.2
       rw[Array.all_eq_true']at h4⊢
       intro e0 oe
       have:=h4 (jn ord ops.size e0) (by unfold fv;have:jn ord ops.size e0∈ops[k].after.toList.map (jn ord ops.size):=List.mem_map.2 ⟨e0,by simpa using oe,rfl⟩;simpa using this)
       have cR:dg.getD (jn ord ops.size e0).on false=ls.getD e0.on false:=by
         show dg.getD (iA ord ops.size e0.on) false=_
         rcases Nat.lt_or_ge e0.on ops.size with hj|hj
         · obtain⟨q,hq⟩:=List.getElem?_of_mem (h.all _ hj)
           rw[h.pos hq,Array.getD_eq_getD_getElem?,Array.getD_eq_getD_getElem?,hl.eq q _ hq]
         · rw[h.out hj,Array.getD_eq_getD_getElem?,Array.getD_eq_getD_getElem?,Array.getElem?_eq_none (by rw[hl.s'];exact Nat.le_refl _),Array.getElem?_eq_none (by rw[hl.s];exact hj)]
       rw[cR]at this
       exact this
     rw[hr]at this;cases this
   · obtain⟨p,hp⟩:=List.getElem?_of_mem (h.all k (lt hk))
     exact Bj h hp (λa w hh=>oS h fuel (hl.set h hp) hh) (h2 p (wO h hl hp hk))
theorem vw {n:Nat} (h:fp ord n):lO ord n (Array.replicate n false) (Array.replicate n false):=
  ⟨by simp,by simp,λp k hp=>by
    have dA:p<n:=by rw[<-h.len];exact(List.getElem?_eq_some_iff.1 hp).1
    have hk:=h.lt k (List.mem_of_getElem? hp)
    simp[dA,hk]⟩
theorem sX {o':Oper} (hm:o'∈dU ord ops.toList): ∃o,o∈ops.toList/\o'.dst=o.dst:=by
  unfold dU at hm
  rw[List.mem_filterMap]at hm
  obtain⟨i,_,h⟩:=hm
  cases ho:ops.toList[i]? with
  |none=>rw[ho]at h;cases h
  |some o=>
   rw[ho]at h
   obtain rfl:=Option.some.inj h
   exact⟨o,List.mem_of_getElem? ho,rfl⟩
end
def qM:List Edge->(List Edge->Prop)->Prop
  | [],k=>k []
  |e::r,k=>match e with|⟨o,g⟩=>bZ o λo=>qM r λr=>k (⟨o,g⟩::r)
def fG:Option (Nat×Bool)->(Option (Nat×Bool)->Prop)->Prop
  |none,k=>k none
  |some (j,b),k=>bZ j λj=>k (some (j,b))
def l_:List Oper->(List Oper->Prop)->Prop
  | [],k=>k []
  |o::r,k=>match o with|⟨d,op,t,p,a,g⟩=>qM a.toList λa=>fG g λg=>l_ r λr=>k (⟨d,op,t,p,⟨a⟩,g⟩::r)
theorem yO: ∀(l:List Edge) (k:List Edge->Prop),qM l k=k l
  | [],_=>rfl
  |⟨o,g⟩::r,k=>by simp only[qM,eL,yO r]
theorem DL (g:Option (Nat×Bool)) (k:Option (Nat×Bool)->Prop):fG g k=k g:=by
  cases g with
  |none=>rfl
  |some x=>obtain⟨j,b⟩:=x;simp only[fG,eL]
theorem yN: ∀(l:List Oper) (k:List Oper->Prop),l_ l k=k l
  | [],_=>rfl
  |⟨d,op,t,p,a,g⟩::r,k=>by simp only[l_,yO,DL,yN r]
end Go.Sy
