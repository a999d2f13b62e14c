/-
  Sy: regions that draw their order: one operation, seen by what is before it.
-/
import Derived.Test.YtmieeldmfehpoaaDoorYD
import Derived.Orders
set_option linter.unusedVariables false
set_option linter.unusedSimpArgs false
set_option linter.unusedVariables false
set_option linter.unusedSimpArgs false
namespace Go.Sy
open Go.RowKit
structure Rc where
  fs:List (Nat×SV)
  hs:List Hd
  u:Upd
def fUp:Upd→(Upd→Prop)→Prop
  | [],k=>k []
  |p::r,k=>fNat p.1 fun a=>fEnt p.2 fun b=>fUp r fun r=>k ((a,b)::r)
theorem fUp_eq: ∀(l:Upd) (k:Upd→Prop),fUp l k=k l
  | [],_=>rfl
  |s::r,k=>by simp only [fUp,fNat_eq,fEnt_eq,fUp_eq r]
def fRc (x:Rc) (k:Rc→Prop):Prop:=match x with|⟨fs,hs,u⟩=>fFs fs fun fs=>fHds hs fun hs=>fUp u fun u=>k ⟨fs,hs,u⟩
theorem fRc_eq (x:Rc) (k:Rc→Prop):fRc x k=k x:=by cases x;simp only [fRc,fFs_eq,fHds_eq,fUp_eq]
def fRcs:List Rc→(List Rc→Prop)→Prop
  | [],k=>k []
  |p::r,k=>fRc p fun a=>fRcs r fun r=>k (a::r)
theorem fRcs_eq: ∀(l:List Rc) (k:List Rc→Prop),fRcs l k=k l
  | [],_=>rfl
  |s::r,k=>by simp only [fRcs,fRc_eq,fRcs_eq r]
def rcAt (rs:List Rc) (j:Nat):Rc:=rs.getD j ⟨[],[],[]⟩
def vF (rs:List Rc) (F:Fr) (E:List Nat):Fr:=E.flatMap (fun j=>(rcAt rs j).fs)++F
def vM (rs:List Rc) (M:Mem) (E:List Nat):Mem:=E.flatMap (fun j=>(rcAt rs j).u)++M
def vH (rs:List Rc) (E:List Nat):List Hd:=E.flatMap fun j=>(rcAt rs j).hs
def noisy:Op→Bool
  | .store _ _ _=>true
  | .call {callee:= .builtin .copy,args:=_,argTypes:=_}=>true
  | .call {callee:= .builtin .clear,args:=_,argTypes:=_}=>true
  |_=>false
def ent1 (N:Nat) (d:Option Nat) (s:SV):List (Nat×SV):=match d with|some t=>(match Nat.blt t N with|true=> [(t,s)]|false=> [])|none=> []
def evalQ (P:Program) (sg:Bool) (Gl:Nat→SV) (Γ:Table) (N:Nat) (ops:List Oper) (V:Fr) (M:Mem) (H:List Hd) (nx:Nat) (pr:List Nat) (o:Oper):Option (Prop×Rc):=
  match freeH H o.dst,guardOf N ops V H o,noisy o.op with
  |true,.yes,false=>
   match evO2 P sg Gl Γ V M nx H [] o.op with
   | .ok s=>some (True,⟨ent1 N o.dst s,[],[]⟩)
   | .asm _ s=>some (True,⟨ent1 N o.dst s,[],[]⟩)
   | .req p s=>some (p,⟨ent1 N o.dst s,[],[]⟩)
   | .mem p s u=>match freeU (ent M) u&&stampsU (ent M) u with|true=>some (p,⟨ent1 N o.dst s,[],u⟩)|false=>none
   | .any _ _=>none
   | .bad=>none
  |true,.no,_=>some (True,⟨ent1 N o.dst (.v undef),[],[]⟩)
  |true,.ask d want,false=>
   match o.dst,evO2 P sg Gl Γ V M nx H (clo H H.length d want) o.op with
   |some t,.ok s=>match Nat.blt t N&&!Nat.beq d t with|true=>some (True,⟨[(t,.junk)],[⟨t,d,want,s⟩],[]⟩)|false=>none
   |some t,.asm _ s=>match Nat.blt t N&&!Nat.beq d t with|true=>some (True,⟨[(t,.junk)],[⟨t,d,want,s⟩],[]⟩)|false=>none
   |some t,.req p s=>match Nat.blt t N&&!Nat.beq d t with|true=>some (hyps (openF (clo H H.length d want) V H) (clo H H.length d want) p,⟨[(t,.junk)],[⟨t,d,want,s⟩],[]⟩)|false=>none
   |some t,.mem p s u=>match Nat.blt t N&&!Nat.beq d t,rowsU (ent M) u&&(freeU (ent M) u&&stampsU (ent M) u) with|true,true=>some (hyps (openF (clo H H.length d want) V H) (clo H H.length d want) p,⟨[(t,.junk)],[⟨t,d,want,s⟩],u⟩)|_,_=>none
   |_,_=>none
  |_,_,_=>none
section
variable {P:Program} {w:World} {ω:Ow} {ρ:Operand→SV} {Gl:Nat→SV} {Γ:Table} {N:Nat} {F:Fr} {M:Mem} {a:Act} {H:List Hd}
theorem New.refl (w:World) (ω:Ow):New w ω w ω (fun k=>k∈([]:Upd).map (·.1)):=⟨Cw.refl w,fun _ h=>h,rfl,fun _ _ _=>rfl,fun k p L hk=>by simp at hk,rfl⟩
inductive OpN (P:Program) (w:World) (ω:Ow) (M:Mem) (a:Act) (o:Oper) (s:SV):Upd→Prop where
  |pure (v:Value) (h:(execOp a.eval o).run P w= .ok (.value v) w) (hd:Den w ω s v):OpN P w ω M a o s []
  |mem {u:Upd} (h:MemN P w ω M a o s u):OpN P w ω M a o s u
  |call {u:Upd} (h:CallS P w ω M a o s u):OpN P w ω M a o s u
  |app {u:Upd} (h:stampsU (ent M) u=true→freeU (ent M) u=true→MemN P w ω M a o s u):OpN P w ω M a o s u
theorem OpN.wp {o:Oper} {s:SV} {u:Upd} (hm:MemOK w ω M) (h:OpN P w ω M a o s u) (hf:(freeU (ent M) u&&stampsU (ent M) u)=true) {next:Act→World→Prop} {Q:Exit→Act→World→Prop}
    (hn: ∀v w' ω',Stp w ω M w' ω' (u++M)→New w ω w' ω' (fun k=>k∈u.map (·.1))→Den w' ω' s v→next (a.put o.dst v) w'):o.wp P a w next Q:=by
  rw [Bool.and_eq_true] at hf
  obtain ⟨hf,hf2⟩:=hf
  unfold Oper.wp
  cases h with
  |pure v h hd=>rw [h];exact hn v w ω (Stp.refl hm) (New.refl _ _) hd
  |app h=>
   obtain ⟨n,v,w',ω',h1,h2,h3,h4,h5⟩:=h hf2 hf
   rw [h1]
   rcases h2 with rfl|⟨rfl,rfl⟩
   · exact hn v w' ω' h3 h5 h4
   · exact hn _ w' ω' h3 h5 h4
  |mem h=>
   obtain ⟨n,v,w',ω',h1,h2,h3,h4,h5⟩:=h
   rw [h1]
   rcases h2 with rfl|⟨rfl,rfl⟩
   · exact hn v w' ω' h3 h5 h4
   · exact hn _ w' ω' h3 h5 h4
  |call h=>
   obtain ⟨id,vs,h1,h2⟩:=h
   rw [h1]
   unfold EnterS at h2
   refine h2.mono ?_
   rintro e w' ⟨v,ω',rfl,h3,h4,h5,_⟩
   exact hn v w' ω' h3 (h5 hf) h4
theorem upN_ok {o:Oper} {r:R} {K:SV→Upd→Prop} (h: ∀{K':SV→Prop},r.run K'→PureOK P w ω a o K') (he:r.up.run K): ∃s u,OpN P w ω M a o s u∧K s u:=by
  have:r.run (fun s=>K s []):=by cases r<;>exact he
  obtain ⟨s,v,h1,h2,h3⟩:=h this
  exact ⟨s,[],.pure v h1 h2,h3⟩
theorem upMN_ok {o:Oper} {x:Option (Prop×SV×Upd)} {K:SV→Upd→Prop} (h: ∀{p s u},x=some (p,s,u)→p→OpN P w ω M a o s u) (he:(upM x).run K): ∃s u,OpN P w ω M a o s u∧K s u:=by
  cases x with
  |none=>exact he.elim
  |some x=>exact ⟨_,_,h rfl he.1,he.2⟩
theorem evON_ok (hS:Sound P Gl Γ) (hG: ∀g,Den w ω.bare (Gl g) (.pointer (some ⟨g,0,none⟩))) (h:Cx P w ω ρ M a) {sg:Bool} {nx:Nat} {o:Oper} (hq:noisy o.op=false) {K:SV→Upd→Prop} (he:(evO P sg Γ ρ (ent M) nx o.op).run K):
    ∃s u,OpN P w ω M a o s u∧K s u:=by
  unfold evO at he
  split at he
  · next T x ho=>exact upMN_ok (fun e hp=> .mem (box_ok h ho e)) he
  · next T ho=>exact upMN_ok (fun e hp=> .mem (alloc_ok h ho e)) he
  · next T x y ho=>rw [ho] at hq;cases hq
  · next T x y ho=>exact upMN_ok (fun e hp=> .mem (make_ok h ho e hp)) he
  · next T len parts ho=>exact upMN_ok (fun e hp=> .mem (buildE_ok h ho e)) he
  · next x y T T' ho=>
    split at he
    · next ht=>
      obtain rfl:=Nat.eq_of_beq_eq_true ht
      exact upMN_ok (fun e hp=> .app fun h1 h2=>appendT_new h ho e hp h1 h2) he
    · exact he.elim
  · next x y T T' ho=>rw [ho] at hq;cases hq
  · next x T ho=>rw [ho] at hq;cases hq
  · next f args ts ho=>exact upMN_ok (fun e hp=> .call (call_ok hS hG h ho e hp)) he
  · next r name args ts ho=>exact upMN_ok (fun e hp=> .call (invoke_ok hS hG h ho e hp)) he
  · next c x y ho=>exact upN_ok (fun he=>pick_ok h ho he) he
  · next op T x y T' ho=>
    obtain ⟨s,v,h1,h2,h3⟩:=binN_ok h ho he
    exact ⟨s,[],.pure v h1 h2,h3⟩
  · exact upN_ok (fun he=>evP_ok h he) he
theorem evO2N_ok (hS:Sound P Gl Γ) (h:St P Gl N F M a w ω) (hH:HOK w ω N a H) {sg:Bool} {nx:Nat} {As:List (Nat×Bool)} (hA:AsOK a As) {o:Oper} (hq:noisy o.op=false) {K:SV→Upd→Prop} (he:(evO2 P sg Gl Γ F M nx H As o.op).run K):
    ∃s u,OpN P w ω M a o s u∧K s u:=by
  have ho': ∀{As},AsOK a As→Cx P w ω (opnd Gl (openF As F H)) M a:=fun hA=>⟨(openF_ok h.frame hA H hH).opnd h.globs,h.mem⟩
  unfold evO2 at he
  split at he
  · next c x y ho=>
    refine upN_ok ?_ he
    clear he
    intro K' he
    unfold evPickH at he
    split at he
    · next d=>
      split at he
      · next b hb=>
        split at he
        · next p r hp hr=>
          obtain ⟨u,hu,hd⟩:=look_some (openF_ok h.frame hA H hH) hb (by simp)
          obtain rfl:=hd
          have ec:a.eval (.tmp d)= .bool b:=by
            simp only [Act.eval,Array.getD_eq_getD_getElem?,hu];rfl
          refine ⟨.v (.bool (bif b then p else r)),.bool (bif b then p else r),?_,rfl,he⟩
          cases b with
          |true=>
           have hA':=(clo_ok hH H.length d true hu).append hA
           have ex:=asB_den hp ((ho' hA').val x)
           simp [execOp,ho,ec,asBool,ex]
          |false=>
           have hA':=(clo_ok hH H.length d false hu).append hA
           have ey:=asB_den hr ((ho' hA').val y)
           simp [execOp,ho,ec,asBool,ey]
        · exact he.elim
      · exact pick_ok (ho' hA) ho he
    · exact he.elim
  · exact evON_ok hS h.globs (ho' hA) hq he
theorem rows_none (hm:MemOK w ω M): ∀{u:Upd},rowsU (ent M) u=true→ ∀k∈u.map (·.1),∀p,ω.β k p=none
  | [],_,k,hk,_=>by simp at hk
  |(k0,e)::r,h,k,hk,p=>by
   simp only [rowsU,Bool.and_eq_true] at h
   obtain ⟨⟨⟨⟨⟨h1,h2⟩,h3⟩,h4⟩,h5⟩,h6⟩:=h
   rw [ov_ent] at h2
   simp only [List.map_cons,List.mem_cons] at hk
   rcases hk with rfl|hk
   · exact (freeB_free (rows_dummy hm h1).mem h2).2.2 p
   · exact rows_none hm h1 k hk p
theorem rows_new {u:Upd} (hm:MemOK w ω M) (h:rowsU (ent M) u=true):New w ω w ω (fun k=>k∈u.map (·.1)):=
  ⟨Cw.refl w,fun _ h=>h,rfl,fun _ _ _=>rfl,(fun k p L hk hb=>absurd hb (by rw [rows_none hm h k hk p];exact fun e=>by cases e)),rfl⟩
def Facts (w:World) (ω:Ow) (N:Nat) (a:Act) (rc:Rc):Prop:=(∀p∈rc.fs,∀u,a.tmps[p.1]? =some u→Den w ω p.2 u)∧HOK w ω N a rc.hs
theorem ent1_facts {d:Option Nat} {s:SV} {v:Value} (hd:Den w ω s v): ∀p∈ent1 N d s,∀u,(a.put d v).tmps[p.1]? =some u→Den w ω p.2 u:=by
  intro p hp u hu
  unfold ent1 at hp
  split at hp
  · next t=>
    split at hp
    · simp only [List.mem_singleton] at hp
      subst hp
      simp only [Act.put] at hu
      rw [Array.getElem?_setIfInBounds_self] at hu
      split at hu
      · obtain rfl:=Option.some.inj hu;exact hd
      · cases hu
    · simp at hp
  · simp at hp
theorem q_ok (hS:Sound P Gl Γ) {sg:Bool} {ops:Array Oper} {Q:Exit→Act→World→Prop} {nx i:Nat} {pr:List Nat} {o:Oper} {p:Prop} {rc:Rc} (ho:ops[i]? =some o) (h:St P Gl N F M a w ω) (hH:HOK w ω N a H)
    (he:evalQ P sg Gl Γ N ops.toList F M H nx pr o=some (p,rc)) (hp:p) {K:Act→World→Prop}
    (hK: ∀v w' ω',Stp w ω M w' ω' (rc.u++M)→New w ω w' ω' (fun k=>k∈rc.u.map (·.1))→Facts w' ω' N (a.put o.dst v) rc→K (a.put o.dst v) w'):wpOp P ops Q i K a w:=by
  have hgd:=guard_ok (ops:=ops) h.frame H o
  unfold wpOp
  rw [ho]
  simp only
  unfold evalQ at he
  split at he
  · next hfree hgo hq=>
    rw [hgo] at hgd
    cases hgd with
    |yes hw=>
     rw [if_pos hw]
     left
     have key: ∃s u,rc=⟨ent1 N o.dst s,[],u⟩∧(freeU (ent M) u&&stampsU (ent M) u)=true∧(evO2 P sg Gl Γ F M nx H [] o.op).run (fun s' u'=>s'=s∧u'=u):=by
       split at he
       · next s hr=>
         simp only [Option.some.injEq,Prod.mk.injEq] at he
         exact ⟨s,[],he.2.symm,rfl,by rw [hr];exact ⟨rfl,rfl⟩⟩
       · next s hr=>
         simp only [Option.some.injEq,Prod.mk.injEq] at he
         exact ⟨s,[],he.2.symm,rfl,by rw [hr];exact fun _=>⟨rfl,rfl⟩⟩
       · next s hr=>
         simp only [Option.some.injEq,Prod.mk.injEq] at he
         exact ⟨s,[],he.2.symm,rfl,by rw [hr];exact ⟨by rw [he.1];exact hp,rfl,rfl⟩⟩
       · next s u hr=>
         split at he
         · next hf=>
           simp only [Option.some.injEq,Prod.mk.injEq] at he
           exact ⟨s,u,he.2.symm,hf,by rw [hr];exact ⟨by rw [he.1];exact hp,rfl,rfl⟩⟩
         · cases he
       · cases he
       · cases he
     obtain ⟨s,u,rfl,hf,hrun⟩:=key
     obtain ⟨s',u',hop,rfl,rfl⟩:=evO2N_ok hS h hH (fun p hp=>by cases hp) hq hrun
     exact hop.wp h.mem hf fun v w' ω' h1 h2 h3=>hK v w' ω' h1 h2 ⟨ent1_facts h3,fun x hx=>by cases hx⟩
  · next hfree hgo=>
    rw [hgo] at hgd
    cases hgd with
    |no hw=>
     rw [if_neg (by rw [hw];exact Bool.false_ne_true)]
     simp only [Option.some.injEq,Prod.mk.injEq] at he
     obtain ⟨_,rfl⟩:=he
     exact hK undef w ω (Stp.refl h.mem) (New.refl _ _) ⟨ent1_facts rfl,fun x hx=>by cases hx⟩
  · next d want hfree hgo hq=>
    rw [hgo] at hgd
    cases hgd with
    |ask _ _ hw=>
     have chk: ∀{t:Nat},(Nat.blt t N&&!Nat.beq d t)=true→t<N∧d≠t:=by
       intro t ht
       rw [Bool.and_eq_true,Bool.not_eq_true'] at ht
       exact ⟨Nat.le_of_ble_eq_true ht.1,fun e=>by rw [e,Nat.beq_refl] at ht;cases ht.2⟩
     have key: ∃t s u,o.dst=some t∧t<N∧d≠t∧rc=⟨[(t,.junk)],[⟨t,d,want,s⟩],u⟩∧(rowsU (ent M) u&&(freeU (ent M) u&&stampsU (ent M) u))=true∧(a.tmps[d]? =some (.bool want)→(evO2 P sg Gl Γ F M nx H (clo H H.length d want) o.op).run (fun s' u'=>s'=s∧u'=u)):=by
       split at he
       · next t s hdst hr=>
         split at he
         · next hc=>
           simp only [Option.some.injEq,Prod.mk.injEq] at he
           exact ⟨t,s,[],hdst,(chk hc).1,(chk hc).2,he.2.symm,rfl,fun _=>by rw [hr];exact ⟨rfl,rfl⟩⟩
         · cases he
       · next t _ s hdst hr=>
         split at he
         · next hc=>
           simp only [Option.some.injEq,Prod.mk.injEq] at he
           exact ⟨t,s,[],hdst,(chk hc).1,(chk hc).2,he.2.symm,rfl,fun _=>by rw [hr];exact fun _=>⟨rfl,rfl⟩⟩
         · cases he
       · next t p' s hdst hr=>
         split at he
         · next hc=>
           simp only [Option.some.injEq,Prod.mk.injEq] at he
           refine ⟨t,s,[],hdst,(chk hc).1,(chk hc).2,he.2.symm,rfl,fun hdw=>?_⟩
           rw [hr]
           have hA:=clo_ok hH H.length d want hdw
           exact ⟨hyps_ok (openF_ok h.frame hA H hH) _ hA (by rw [he.1];exact hp),rfl,rfl⟩
         · cases he
       · next t p' s u hdst hr=>
         split at he
         · next hc hu=>
           simp only [Option.some.injEq,Prod.mk.injEq] at he
           refine ⟨t,s,u,hdst,(chk hc).1,(chk hc).2,he.2.symm,hu,fun hdw=>?_⟩
           rw [hr]
           have hA:=clo_ok hH H.length d want hdw
           exact ⟨hyps_ok (openF_ok h.frame hA H hH) _ hA (by rw [he.1];exact hp),rfl,rfl⟩
         · cases he
       · cases he
     obtain ⟨t,s,u,hdst,ht,hdt,rfl,hru,hrun⟩:=key
     rw [Bool.and_eq_true] at hru
     obtain ⟨hrw,hfs⟩:=hru
     rw [hdst] at hfree
     have facts: ∀{v:Value} {w':World} {ω':Ow},(a.tmps[d]? =some (.bool want)→Den w' ω' s v)→(a.tmps[d]? ≠some (.bool want)→v=undef)→Facts w' ω' N (a.put (some t) v) ⟨[(t,.junk)],[⟨t,d,want,s⟩],u⟩:=by
       intro v w' ω' g1 g2
       refine ⟨fun p hp u hu=>?_,?_⟩
       · simp only [List.mem_singleton] at hp
         subst hp
         trivial
       · exact HOK.cons (H:= []) (w:=w') (ω:=ω') (fun x hx=>by cases hx) (by rfl) h.frame.size ht hdt g1 g2
     by_cases hdw:a.tmps[d]? =some (.bool want)
     · rw [if_pos (hw.2 hdw)]
       left
       obtain ⟨s',u',hop,rfl,rfl⟩:=evO2N_ok hS h hH (clo_ok hH H.length d want hdw) hq (hrun hdw)
       refine hop.wp h.mem hfs fun v w' ω' h1 h2 h3=>hK v w' ω' h1 h2 ?_
       rw [hdst]
       exact facts (fun _=>h3) (fun hn=>absurd hdw hn)
     · have hwf:Region.wanted o (yielded ops a.tmps)=false:=by
         cases hx:Region.wanted o (yielded ops a.tmps) with
         |false=>rfl
         |true=>exact absurd (hw.1 hx) hdw
       rw [if_neg (by rw [hwf];exact Bool.false_ne_true)]
       refine hK undef w ω (rows_dummy h.mem hrw) (rows_new h.mem hrw) ?_
       rw [hdst]
       exact facts (fun hn=>absurd hn hdw) (fun _=>rfl)
  · cases he
/-! ### register operations -/
def isVal:SV→Bool
  | .v _=>true
  | .bl _=>true
  |_=>false
def bareS:SV→SV
  | .v x=> .v x
  | .bl b=> .bl b
  |_=> .junk
def bareF (V:Fr):Fr:=V.map fun p=>(p.1,bareS p.2)
theorem bareF_look: ∀(V:Fr) (t:Nat),look (bareF V) t=bareS (look V t)
  | [],_=>rfl
  |p::r,t=>by
   simp only [bareF,List.map_cons,look]
   cases Nat.beq p.1 t
   · exact bareF_look r t
   · rfl
def onlyV:R→R
  | .ok s=>match isVal s with|true=> .ok s|false=> .bad
  | .req p s=>match isVal s with|true=> .req p s|false=> .bad
  | .asm p s=>match isVal s with|true=> .asm p s|false=> .bad
  | .bad=> .bad
theorem onlyV_run {r:R} {K:SV→Prop} (h:(onlyV r).run K):r.run (fun s=>isVal s=true∧K s):=by
  cases r with
  |bad=>exact h
  |ok s=>simp only [onlyV] at h;cases hv:isVal s with
   |true=>rw [hv] at h;exact ⟨hv,h⟩
   |false=>rw [hv] at h;exact h.elim
  |req p s=>simp only [onlyV] at h;cases hv:isVal s with
   |true=>rw [hv] at h;exact ⟨h.1,hv,h.2⟩
   |false=>rw [hv] at h;exact h.elim
  |asm p s=>simp only [onlyV] at h;cases hv:isVal s with
   |true=>rw [hv] at h;exact fun hp=>⟨hv,h hp⟩
   |false=>rw [hv] at h;exact h.elim
def opJ (V:Fr):Operand→SV:=opnd (fun _=> .junk) V
def isPt:SV→Bool
  | .ptr _ _ _ _ _=>true
  | .pt _ _ _=>true
  |_=>false
def evR (P:Program) (sg:Bool) (V:Fr) (m:Nat→Ent) (op:Op):R:=
  match op with
  | .pick c x y=>onlyV (evPick (opJ (bareF V) c) (opJ (bareF V) x) (opJ (bareF V) y))
  | .move x=> .ok (opJ V x)
  | .extract x i=>evExtract (opJ V x) i
  | .fieldAddr S x j=>match isPt (opJ V x) with|true=>evField P S (opJ V x) j m|false=> .bad
  | .indexAddr T x y=>evIndex P T (isC y) (opJ V x) (opJ V y) m
  |op=>onlyV (evP P sg (opJ (bareF V)) (ent []) op)
theorem PureOK.and {o:Oper} {K:SV→Prop} {v:Value} (h:PureOK P w ω a o K) (hv: ∀w',(execOp a.eval o).run P w'= .ok (.value v) w'): ∃s,Den w ω s v∧K s:=by
  obtain ⟨s,v',h1,h2,h3⟩:=h
  rw [hv w] at h1
  obtain ⟨e,_⟩:=Result.ok.inj h1
  have:v=v':=by injection e
  subst this
  exact ⟨s,h2,h3⟩
theorem reg_ok (hm:MemOK w ω M) (hF:FrOK w ω N F a.tmps) {sg:Bool} {o:Oper} {s:SV} (he:(evR P sg F (ent M) o.op).run (fun s'=>s'=s)):
    ∃v,(∀w',(execOp a.eval o).run P w'= .ok (.value v) w')∧Den w ω s v:=by
  let ω1:Ow:=⟨fun _=>False,fun _=>False,fun _ _=>none,fun _=>(0,0)⟩
  have hm1: ∀w',MemOK w' ω1 []:=fun w'=>⟨rfl,fun b ⟨k,p,L,h,_⟩=>(by cases h),fun _ h=>False.elim h,fun _ h=>False.elim h,fun _ h=>False.elim h,fun _ _ _ _ _ _ h=>(by cases h),fun _ _ _ h=>(by cases h),fun _ _ _ h=>(by cases h),fun _ _ h=>(by cases h),fun _ _ _ _=>rfl⟩
  have hv: ∀w' x,Den w' ω1 (opJ (bareF F) x) (a.eval x):=by
    intro w' x
    cases x with
    |tmp t=>
     show Den w' ω1 (look (bareF F) t) _
     rw [bareF_look]
     have hd:=hF.get t
     cases hl:look F t with
     |v y=>rw [hl] at hd;exact hd
     |bl b=>rw [hl] at hd;exact hd
     |_=>trivial
    |const v=>cases v<;>exact rfl
    |global g=>trivial
    |func f=>exact ⟨#[],rfl,rfl,fun j hj=>absurd hj (by omega)⟩
  have hcx1: ∀w',Cx P w' ω1 (opJ (bareF F)) [] a:=fun w'=>⟨hv w',hm1 w'⟩
  have hJ: ∀x,Den w ω (opJ F x) (a.eval x):=by
    intro x
    cases x with
    |tmp t=>exact hF.get t
    |const v=>cases v<;>exact rfl
    |global g=>trivial
    |func f=>exact ⟨#[],rfl,rfl,fun j hj=>absurd hj (by omega)⟩
  have hcx:Cx P w ω (opJ F) M a:=⟨hJ,hm⟩
  have bare:(∀w',PureOK P w' ω1 a o (fun s'=>isVal s'=true∧s'=s))→ ∃v,(∀w',(execOp a.eval o).run P w'= .ok (.value v) w')∧Den w ω s v:=by
    intro hp
    obtain ⟨s0,_,_,_,hs,rfl⟩:=hp w
    cases s0 with
    |v x=>
     refine ⟨x,fun w'=>?_,rfl⟩
     obtain ⟨s',v,h1,h2,_,rfl⟩:=hp w'
     have h2:v=x:=h2
     rw [h1,h2]
    |bl b=>
     refine ⟨.bool b,fun w'=>?_,rfl⟩
     obtain ⟨s',v,h1,h2,_,rfl⟩:=hp w'
     have h2:v= .bool b:=h2
     rw [h1,h2]
    |_=>cases hs
  unfold evR at he
  split at he
  · next c x y ho=>exact bare fun w'=>pick_ok (hcx1 w') ho (onlyV_run he)
  · next x ho=>
    have he:opJ F x=s:=he
    subst he
    exact ⟨a.eval x,fun w'=>by simp [execOp,ho],hJ x⟩
  · next x i ho=>
    have hx:=hJ x
    unfold evExtract at he
    split at he
    · next n f hs=>
      split at he
      · next hi=>
        have hi:=Nat.le_of_ble_eq_true hi
        have he:f i=s:=he
        subst he
        rw [hs] at hx
        obtain ⟨cs,e,hn,hj⟩:=hx
        obtain ⟨y,y1,y2⟩:=hj i hi
        exact ⟨y,fun w'=>by simp [execOp,ho,e,y1,Instr.extract,Result.andThen],y2⟩
      · exact he.elim
    · exact he.elim
  · next S x j ho=>
    split at he
    · next hp=>
      have hx:=hJ x
      have hpure:=field_ok hcx ho he
      obtain ⟨ad,had⟩: ∃ad,a.eval x= .pointer (some ad):=by
        cases ht:opJ F x with
        |ptr k st p i j=>
         rw [ht] at hx he
         unfold evField at he
         split at he
         · split at he
           · split at he
             · split at he
               · next heq=>
                 obtain ⟨rfl,rfl,rfl,rfl,rfl⟩:=SV.ptr.inj heq
                 split at he
                 · next hok=>obtain ⟨_,L,_,_,e⟩:=okRef_at hm hok hx;exact ⟨_,e⟩
                 · exact he.elim
               · next heq=>cases heq
               · next heq=>cases heq
               · exact he.elim
             · exact he.elim
           · exact he.elim
         · exact he.elim
        |pt q n f=>rw [ht] at hx;obtain ⟨ad,e,_⟩:=hx;exact ⟨ad,e⟩
        |_=>rw [ht] at hp;cases hp
      obtain ⟨s',v,h1,h2,h3⟩:=hpure
      have h3:s'=s:=h3
      subst h3
      refine ⟨v,fun w'=>?_,h2⟩
      unfold evField at he
      split at he
      · next fs hu=>
        split at he
        · next fd hfd=>
          split at he
          · next i hi=>
            split at he
            · next hz hs=>
              have run: ∀w',(execOp a.eval o).run P w'= .ok (.value (.pointer (some (ad.add fd.offset)))) w':=by
                intro w'
                have hz:0<i.size:=Nat.le_of_ble_eq_true hz
                have hs:(sizeOf fd.type).run P w'= .ok i.size w':=by simp [sizeOf,run_typeInfo w' hi,Result.andThen]
                simp [execOp,ho,had,Instr.fieldAt,Instr.sureAddr,run_underlying hu,hfd,fieldPlace,hs,Result.andThen,Nat.ne_of_gt hz]
              have e:=(run w).symm.trans h1
              rw [run w']
              injection e with e _
              rw [e]
            · next hz hs=>
              have run: ∀w',(execOp a.eval o).run P w'= .ok (.value (.pointer (some (ad.add fd.offset)))) w':=by
                intro w'
                have hz:0<i.size:=Nat.le_of_ble_eq_true hz
                have hs:(sizeOf fd.type).run P w'= .ok i.size w':=by simp [sizeOf,run_typeInfo w' hi,Result.andThen]
                simp [execOp,ho,had,Instr.fieldAt,Instr.sureAddr,run_underlying hu,hfd,fieldPlace,hs,Result.andThen,Nat.ne_of_gt hz]
              have e:=(run w).symm.trans h1
              rw [run w']
              injection e with e _
              rw [e]
            · next hz hs=>rw [hs] at hp;cases hp
            · exact he.elim
          · exact he.elim
        · exact he.elim
      · exact he.elim
    · exact he.elim
  · next T x y ho=>
    obtain ⟨s',v,h1,h2,rfl⟩:=index_any hcx ho he
    exact ⟨v,h1,h2⟩
  · exact bare fun w'=>evP_ok (hcx1 w') (onlyV_run he)
end
end Go.Sy
set_option linter.unusedVariables false
set_option linter.unusedSimpArgs false
namespace Go.Sy
open Go.RowKit
variable {P:Program} {w w':World} {ω:Ow} {M:Mem}
def One (w w':World) (b:Nat):Prop:=w'.os=w.os∧w'.tape=w.tape∧w'.output=w.output∧w'.heap.size=w.heap.size∧ ∀b',b'≠b→w'.heap[b']? =w.heap[b']?
theorem One.trans {w w' w'':World} {b:Nat} (h:One w w' b) (k:One w' w'' b):One w w'' b:=
  ⟨k.1.trans h.1,k.2.1.trans h.2.1,k.2.2.1.trans h.2.2.1,k.2.2.2.1.trans h.2.2.2.1,fun b' hb=>(k.2.2.2.2 b' hb).trans (h.2.2.2.2 b' hb)⟩
theorem One.set (w:World) (a:Addr) (x:Value):One w (w.setCell a x) a.block:=
  ⟨rfl,rfl,rfl,by simp [World.setCell],fun b' hb=>setCell_heap_ne w a x hb⟩
theorem storeC_ok: ∀(cs:List SV) (us:List Value) {w:World} {M:Mem} (hm:MemOK w ω M) {k:Nat} {l:List SV} (hb:(ent M k).b= .cells l) (hx:DenL w ω cs us) (h1: ∀u∈us,u.oneCell'=true) (hn: ∀s∈cs,isIl s=false) {L:Loc} (hL:ω.β k none=some L) {j:Nat} (hj:j+cs.length≤l.length) {ad:Addr} (q:Nat) (had:ad.add q=⟨L.b,L.o+j,none⟩),
    ∃w',(storeCells ad us q).run P w= .ok () w'∧(∃M',Stp w ω M w' ω M'∧ent M' k={ent M k with b:= .cells (setMany l j cs)}∧ ∀k',k'≠k→ent M' k'=ent M k')∧One w w' L.b
  | [],[],w,M,hm,k,l,hb,hx,h1,hn,L,hL,j,hj,ad,q,had=>⟨w,by simp [storeCells],⟨M,Stp.refl hm,by simp only [setMany];rw [←hb],fun _ _=>rfl⟩,rfl,rfl,rfl,rfl,fun _ _=>rfl⟩
  |v::r,x::t,w,M,hm,k,l,hb,⟨hx,hxr⟩,h1,hn,L,hL,j,hj,ad,q,had=>by
   obtain ⟨c1,c2⟩:=cells_at hm hb hL
   have hjl:j<l.length:=by simp at hj;omega
   have st:=Stp.putCells hm hb hL (i:=0) (by omega) hjl (hn v (by simp)) hx
   obtain ⟨_,_,_,_,c,T,g1,g2,g3,g4⟩:=hm.row _ _ _ hL
   obtain ⟨y,y1,_⟩:=g4 0 (by omega) j (by omega)
   simp only [Nat.zero_mul,Nat.add_zero] at st y1
   have r1:(store (ad.add q) x).run P w= .ok () (w.setCell ⟨L.b,L.o+j,none⟩ x):=by rw [had];exact run_store1 g1 (Array.getElem?_eq_some_iff.1 y1).1 (h1 x (by simp))
   have had2:ad.add (q+1)=⟨L.b,L.o+(j+1),none⟩:=by
     rw [←add_add,had,add_mk];simp [Nat.add_assoc]
   obtain ⟨w',r2,⟨M',s2,e1,e2⟩,o2⟩:=storeC_ok r t st.mem (k:=k) (l:=l.set j v) (by rw [ent_eq]) (hxr.ext st.ext) (fun y hy=>h1 y (by simp [hy])) (fun s hs=>hn s (by simp [hs])) hL (j:=j+1) (by simp at hj⊢;omega) (q+1) had2
   refine ⟨w',by simp [storeCells,r1,r2,Result.andThen],⟨M',st.trans s2,?_,fun k' hk=>?_⟩,(One.set w _ x).trans o2⟩
   · rw [e1,ent_eq];rfl
   · rw [e2 k' hk,ent_ne (Ne.symm hk)]
  | [],_::_,_,_,_,_,_,_,hx,_,_,_,_,_,_,_,_,_=>hx.elim
  |_::_,[],_,_,_,_,_,_,hx,_,_,_,_,_,_,_,_,_=>hx.elim
def junkL (n:Nat):List SV:=List.replicate n .junk
theorem junkL_at (n j:Nat):lsv (junkL n) j= .junk:=by
  simp only [lsv,junkL,List.getD_eq_getElem?_getD,List.getElem?_replicate]
  split<;>rfl
theorem MemOK.retell (hm:MemOK w ω M) {k:Nat} {e:Ent} {l l':List SV} (he:ent M k=e) (hb:e.b= .cells l) (hl:l'.length=l.length)
    (h: ∀L,ω.β k none=some L→ ∀c T,w.heap[L.b]? =some (Obj.cells c T (0,0))→ ∀j,j<l.length→ ∀x,c[L.o+j]? =some x→Den w ω (lsv l j) x→isIl (lsv l' j)=false∧Den w ω (lsv l' j) x) (hil: ∀j,isIl (lsv l j)=false):MemOK w ω ((k,{e with b:= .cells l'})::M):=by
  subst he
  have hent: ∀k',k'≠k→ent ((k,{ent M k with b:= .cells l'})::M) k'=ent M k':=fun k' h=>ent_ne (Ne.symm h)
  refine ⟨?_,hm.own,hm.lowA,hm.dj,hm.lowZ,hm.inj,hm.low,fun k' p L hL=>?_,fun k' l2 hk=>?_,fun k' i j hk=>?_⟩
  · rw [hm.cur];exact (curM_same (M:=M) (k:=k) (e:={ent M k with b:= .cells l'}) rfl rfl).symm
  · by_cases hk:k'=k
    · subst hk
      obtain ⟨r,g1,g2,g3,c,T,g4,g5,g6,g7⟩:=hm.row k' p L hL
      rw [ent_eq]
      cases p with
      |none=>
       unfold rowAt at g1;rw [hb] at g1
       obtain rfl:=Option.some.inj g1
       have hsz:l.length=L.sz:=g2
       have hcnt:1=L.cnt:=g3
       refine ⟨⟨l'.length,1,fun _ j=>lsv l' j⟩,by unfold rowAt;rw [ent_eq];rfl,by show l'.length=_;rw [hl];exact hsz,hcnt,c,T,g4,g5,g6,fun i hi j hj=>?_⟩
       obtain ⟨x,x1,x2⟩:=g7 i hi j hj
       obtain rfl:i=0:=by omega
       have x2:CellOK w ω (ent M k').hl k' 0 j (lsv l j) x:=x2
       rw [den_not_il (hil j)] at x2
       obtain ⟨y1,y2⟩:=h L hL c T g4 j (by omega) x (by simpa using x1) x2
       refine ⟨x,x1,?_⟩
       show CellOK w ω (ent M k').hl k' 0 j (lsv l' j) x
       rw [den_not_il y1];exact y2
      |some ij=>unfold rowAt at g1;rw [hb] at g1;cases g1
    · obtain ⟨r,g1,g2,g3,g4⟩:=hm.row k' p L hL
      exact ⟨r,by unfold rowAt at g1⊢;rw [hent k' hk];exact g1,g2,g3,by rw [hent k' hk];exact g4⟩
  · by_cases hkk:k'=k
    · subst hkk;exact hm.live k' l hb
    · rw [hent k' hkk] at hk;exact hm.live k' l2 hk
  · by_cases hkk:k'=k
    · subst hkk;rw [ent_eq] at hk;exact hm.hol _ _ _ hk
    · rw [hent k' hkk] at hk;exact hm.hol _ _ _ hk
theorem MemOK.blur (hm:MemOK w ω M) {k n:Nat} (hb:(ent M k).b= .cells (junkL n)) {L:Loc} (hL:ω.β k none=some L) (ho:One w w' L.b) (hs: ∃c T,w'.heap[L.b]? =some (Obj.cells c T (0,0))∧c.size=L.len):MemOK w' ω M∧Ext w ω w' ω:=by
  have hA:ω.A L.b:=hm.own _ ⟨k,none,L,hL,rfl⟩
  have hext:Ext w ω w' ω:=⟨ho.1,ho.2.1,ho.2.2.1,fun b hb hn=>ho.2.2.2.2 b (fun e=>hn (e▸hA)),fun _ _ h=>h,fun _ _ _ h=>h,Nat.le_of_eq ho.2.2.2.1.symm,fun _=>⟨Nat.le_refl _,Nat.le_refl _⟩,fun _ _ _ h _=>h,fun _ h=>h⟩
  refine ⟨⟨hm.cur,hm.own,fun b h=>by rw [ho.2.2.2.1];exact hm.lowA b h,hm.dj,fun b h=>by rw [ho.2.2.2.1];exact hm.lowZ b h,hm.inj,fun k p L h=>by rw [ho.2.2.2.1];exact hm.low k p L h,fun k' p L' h=>?_,hm.live,hm.hol⟩,hext⟩
  obtain ⟨r,g1,g2,g3,g4⟩:=hm.row k' p L' h
  refine ⟨r,g1,g2,g3,?_⟩
  by_cases hbb:L'.b=L.b
  · obtain ⟨rfl,rfl⟩:=hm.inj _ _ _ _ _ _ h hL hbb
    obtain rfl:L=L':=Option.some.inj (hL.symm.trans h)
    unfold rowAt at g1;rw [hb] at g1
    obtain rfl:=Option.some.inj g1
    obtain ⟨c0,T0,h1,h2,h3,h4⟩:=g4
    obtain ⟨c,T,e1,e2⟩:=hs
    have hsz:(junkL n).length=L.sz:=g2
    have hcnt:1=L.cnt:=g3
    refine ⟨c,T,e1,e2,h3,fun i hi j hj=>?_⟩
    have hlt:L.o+i*L.sz+j<c.size:=by
      have:=idx_lt hi hj
      omega
    refine ⟨c[L.o+i*L.sz+j],Array.getElem?_eq_getElem hlt,?_⟩
    show CellOK _ _ _ _ _ _ (lsv (junkL n) j) _
    rw [junkL_at];trivial
  · exact g4.ext hext rfl (fun _=>rfl) (ho.2.2.2.2 _ hbb)
def evalW (P:Program) (Gl:Nat→SV) (N:Nat) (ops:List Oper) (V:Fr) (M:Mem) (H:List Hd) (o:Oper):Option (Nat×Upd):=
  match o.dst,guardOf N ops V H o,o.op with
  |none,.yes,.store T x y=>
   match opnd Gl (openF [] V H) x,cellsSV (ent M) (opnd Gl (openF [] V H) y),P.info? T with
   | .ptr k st none ii j,some cs,some i=>
     match okRef (ent M) k st none,(ent M k).b,Nat.beq cs.length i.size,cs.all (oneSV (ent M)) with
     |true,.cells l,true,true=>
      match Nat.ble (j+cs.length) l.length with
      |true=>some (k,[(k,{ent M k with b:= .cells (setMany l j cs)})])
      |false=>none
     |_,_,_,_=>none
   |_,_,_=>none
  |_,_,_=>none
theorem w_ok {Gl:Nat→SV} {N:Nat} {ops:Array Oper} {V:Fr} {H:List Hd} {a:Act} {Q:Exit→Act→World→Prop} {i:Nat} {o:Oper} {k:Nat} {u:Upd} (ho:ops[i]? =some o) (h:St P Gl N V M a w ω) (hH:HOK w ω N a H)
    (he:evalW P Gl N ops.toList V M H o=some (k,u)) {K:Act→World→Prop}
    (hK: ∀w' L,ω.β k none=some L→MemOK w' ω (u++M)→One w w' L.b→K a w'):wpOp P ops Q i K a w:=by
  have hgd:=guard_ok (ops:=ops) h.frame H o
  unfold wpOp
  rw [ho]
  simp only
  unfold evalW at he
  split at he
  · next T x y hd hgo hop=>
    rw [hgo] at hgd
    cases hgd with
    |yes hw=>
     rw [if_pos hw]
     left
     have hF:=openF_ok h.frame (As:= []) (fun p hp=>by cases hp) H hH
     have hxv:=hF.opnd h.globs x
     have hyv:=hF.opnd h.globs y
     split at he
     · next k' st ii j cs inf hx hcs hi=>
       split at he
       · next l hok hb hlen hone=>
         split at he
         · next hle=>
           simp only [Option.some.injEq,Prod.mk.injEq] at he
           obtain ⟨rfl,rfl⟩:=he
           rw [hx] at hxv
           have hm:=h.mem
           obtain ⟨e0,L,hL,hc0,ex⟩:=okRef_at hm hok hxv
           obtain ⟨c1,c2⟩:=cells_at hm hb hL
           obtain rfl:ii=0:=by omega
           simp only [Nat.zero_mul,Nat.add_zero] at ex
           have hc:=cellsSV_den hm hcs hyv
           have h1:=oneSV_all hm hone hc
           have hlen:=Nat.eq_of_beq_eq_true hlen
           have hsz:(a.eval y).cells.size=inf.size:=by rw [←Array.length_toList,←hc.len,hlen]
           have hs2:(sizeOf T).run P w= .ok inf.size w:=by simp [sizeOf,run_typeInfo w hi,Result.andThen]
           obtain ⟨w',r1,⟨M',s1,e1,e2⟩,o1⟩:=storeC_ok (P:=P) cs _ hm hb hc h1 (fun s hs=>oneSV_notIl (List.all_eq_true.1 hone s hs)) hL (Nat.le_of_ble_eq_true hle) (ad:=⟨L.b,L.o+j,none⟩) 0 (by simp [Addr.add])
           have run:(execOp a.eval o).run P w= .ok .skip w':=by
             simp [execOp,hop,ex,Instr.storeAt,Instr.sureAddr,storeVar,hs2,hsz,r1,Result.andThen]
           have hmem:MemOK w' ω ([(k',{ent M k' with b:= .cells (setMany l j cs)})]++M):=s1.mem.congr fun q=>by
             by_cases hq:q=k'
             · subst hq;rw [e1];exact ent_eq
             · rw [e2 q hq];exact ent_ne (Ne.symm hq)
           have hfin:=hK w' L hL hmem o1
           unfold Oper.wp
           rw [run]
           show K (a.put o.dst undef) w'
           rw [hd]
           exact hfin
         · cases he
       · cases he
     · cases he
  · cases he
end Go.Sy
set_option linter.unusedVariables false
set_option linter.unusedSimpArgs false
namespace Go.Sy
open Go.RowKit Classical
def keys (rs:List Rc) (j:Nat):List Nat:=(rcAt rs j).u.map (·.1)
def hid (rs:List Rc) (M:Mem) (E:List Nat) (k:Nat):Prop:=freeB (ent M) k=true∧(∃j,k∈keys rs j)∧ ¬ ∃j∈E,k∈keys rs j
noncomputable def subω (rs:List Rc) (M:Mem) (ω:Ow) (E:List Nat):Ow:=⟨ω.A,ω.Z,fun k p=>if hid rs M E k then none else ω.β k p,ω.cur⟩
def WOK (M:Mem) (e:Ent) (k:Nat):Prop:= ∃r d n l,ent M k=⟨r,d,none,.cells (junkL n)⟩∧l.length=n∧e=⟨r,d,none,.cells l⟩
def CwX (ω0:Ow) (W:Nat→Prop) (w0 w:World):Prop:=w.os=w0.os∧w.tape=w0.tape∧w.output=w0.output∧w0.heap.size≤w.heap.size∧
  ∀b,b<w0.heap.size→(∀k,W k→ ∀L,ω0.β k none=some L→L.b≠b)→w.heap[b]? =w0.heap[b]?
def Wr (rs:List Rc) (M:Mem) (D:Nat→Prop) (k:Nat):Prop:=freeB (ent M) k=false∧ ∃j,D j∧k∈keys rs j
def dstOf (ops:Array Oper) (i:Nat):Option Nat:=(ops[i]?).bind (·.dst)
theorem ent_in {k:Nat}: ∀{u:Upd} {M:Mem},k∈u.map (·.1)→ent (u++M) k=ent u k
  | [],_,h=>by simp at h
  |p::r,M,h=>by
   by_cases hk:p.1=k
   · obtain ⟨p1,p2⟩:=p
     subst hk
     rw [List.cons_append,ent_eq,ent_eq]
   · obtain ⟨p1,p2⟩:=p
     rw [List.cons_append,ent_ne hk,ent_ne hk]
     refine ent_in ?_
     simp only [List.map_cons,List.mem_cons] at h
     exact h.resolve_left (fun e=>hk e.symm)
theorem ent_out {k:Nat}: ∀{u:Upd} {M:Mem},k∉u.map (·.1)→ent (u++M) k=ent M k
  | [],_,_=>rfl
  |p::r,M,h=>by
   obtain ⟨p1,p2⟩:=p
   simp only [List.map_cons,List.mem_cons,not_or] at h
   rw [List.cons_append,ent_ne (Ne.symm h.1)]
   exact ent_out h.2
theorem vM_cons {rs:List Rc} {M:Mem} {j:Nat} {E:List Nat}:vM rs M (j::E)=(rcAt rs j).u++vM rs M E:=by simp [vM]
theorem ent_vM_out {rs:List Rc} {M:Mem} {k:Nat}: ∀{E:List Nat},(∀j∈E,k∉keys rs j)→ent (vM rs M E) k=ent M k
  | [],_=>rfl
  |j::E,h=>by
   rw [vM_cons,ent_out (h j (by simp))]
   exact ent_vM_out fun i hi=>h i (by simp [hi])
theorem ent_vM_in {rs:List Rc} {M:Mem} {k j:Nat} (hd: ∀i j,k∈keys rs i→k∈keys rs j→i=j) (hk:k∈keys rs j): ∀{E:List Nat},j∈E→ent (vM rs M E) k=ent (rcAt rs j).u k
  | [],h=>by simp at h
  |i::E,h=>by
   rw [vM_cons]
   by_cases hi:k∈keys rs i
   · obtain rfl:=hd i j hi hk
     exact ent_in hi
   · rw [ent_out hi]
     rcases List.mem_cons.1 h with rfl|h
     · exact absurd hk hi
     · exact ent_vM_in hd hk h
structure Sta (P:Program) (sg:Bool) (Gl:Nat→SV) (Γ:Table) (N:Nat) (ops:Array Oper) (PR:Nat→List Nat) (m:Nat) (rs:List Rc) (F F0:Fr) (M:Mem) (reg wr:Nat→Bool):Prop where
  dep: ∀i o,ops[i]? =some o→ ∀x∈PR i,∃e∈o.after,Region.binds .any e=true∧(x=e.on∨x∈PR e.on)
  closed: ∀i j,j∈PR i→ ∀k∈PR j,k∈PR i
  lt: ∀i j,j∈PR i→j<i
  dlt: ∀i o,ops[i]? =some o→ ∀e∈o.after,Region.binds .any e=true→e.on<i
  le:m≤ops.size
  ev: ∀i o,i<m→ops[i]? =some o→reg i=false→wr i=false→ ∃nx p,evalQ P sg Gl Γ N ops.toList (vF rs F0 (PR i)) (vM rs M (PR i)) (vH rs (PR i)) nx (PR i) o=some (p,rcAt rs i)∧p
  evw: ∀i o,i<m→ops[i]? =some o→reg i=false→wr i=true→o.dst=none∧(rcAt rs i).fs= []∧(rcAt rs i).hs= []∧ ∃k,evalW P Gl N ops.toList (vF rs F0 (PR i)) (vM rs M (PR i)) (vH rs (PR i)) o=some (k,(rcAt rs i).u)∧freeB (ent M) k=false
  fr: ∀i,wr i=false→ ∀k∈keys rs i,freeB (ent M) k=true
  evr: ∀i o,i<m→ops[i]? =some o→reg i=true→o.guard=none∧ ∃s,rcAt rs i=⟨ent1 N o.dst s,[],[]⟩∧(evR P sg (vF rs F0 (PR i)) (ent (vM rs M (PR i))) o.op).run (fun s'=>s'=s)
  apart: ∀i oi,i<m→reg i=true→ops[i]? =some oi→ ∀j oj,ops[j]? =some oj→j≠i→j∉PR i→(∀e∈oj.after,Region.binds .any e=true→e.on≠i)→oi.apart ops oj=true
  sel: ∀i,i<m→reg i=true→Region.noSelect ops=true
  fs: ∀i p,p∈(rcAt rs i).fs→dstOf ops i=some p.1∧p.1<N
  hs: ∀i h,h∈(rcAt rs i).hs→dstOf ops i=some h.slot∧ ∃g∈PR i,dstOf ops g=some h.d
  one: ∀i j t,i<m→j<m→dstOf ops i=some t→dstOf ops j=some t→i=j
  key: ∀i j k,k∈keys rs i→k∈keys rs j→i=j
  free: ∀i k,k∈keys rs i→freeB (ent M) k=true∨(freeB (ent M) k=false∧WOK M (ent (rcAt rs i).u k) k)
  stm: ∀i k,k∈keys rs i→(ent (rcAt rs i).u k).rs=(ent M k).rs∧(ent (rcAt rs i).u k).ds=(ent M k).ds
  short: ∀i,m≤i→rcAt rs i=⟨[],[],[]⟩
  base: ∀t,look F0 t= .junk∨(look F0 t=look F t∧ ∀i,i<m→dstOf ops i≠some t)
  out: ∀t,N≤t→look F0 t= .junk
structure Inv (ops:Array Oper) (PR:Nat→List Nat) (m:Nat) (rs:List Rc) (M:Mem) (N:Nat) (a0:Act) (w0:World) (ω0:Ow) (D:Nat→Prop) (a:Act) (w:World) (ω:Ow):Prop where
  low: ∀j,D j→j<m
  clo: ∀j,D j→ ∀k∈PR j,D k
  cw:CwX ω0 (Wr rs M D) w0 w
  shp: ∀j k,k∈keys rs j→freeB (ent M) k=false→ ∀L,ω0.β k none=some L→ ∃c T,w.heap[L.b]? =some (Obj.cells c T (0,0))∧c.size=L.len
  A0: ∀b,ω0.A b→ω.A b
  lowA: ∀b,ω.A b→b<w.heap.size
  freeA: ∀b,b<w0.heap.size→ ¬ω0.A b→ ¬ω.A b
  Z:ω.Z=ω0.Z
  dj: ∀b,ω.A b→ ¬ω.Z b
  cur:ω.cur=ω0.cur
  β0: ∀k p,(∀j,D j→k∈keys rs j→freeB (ent M) k=false)→ω.β k p=ω0.β k p
  own: ∀k p L,ω.β k p=some L→ω.A L.b
  inj: ∀k p L k' p' L',ω.β k p=some L→ω.β k' p'=some L'→L.b=L'.b→k=k'∧p=p'
  defers:a.defers= []
  size:a.tmps.size=N
  keep: ∀t,(∀j,D j→dstOf ops j≠some t)→a.tmps[t]? =a0.tmps[t]?
  pkg: ∀j,D j→MemOK w (subω rs M ω (j::PR j)) (vM rs M (j::PR j))∧Facts w (subω rs M ω (j::PR j)) N a (rcAt rs j)
section
variable {P:Program} {sg:Bool} {Gl:Nat→SV} {Γ:Table} {N:Nat} {ops:Array Oper} {PR:Nat→List Nat} {m:Nat} {rs:List Rc} {F F0:Fr} {M:Mem} {reg wr:Nat→Bool}
variable {a0 a:Act} {w0 w:World} {ω0 ω:Ow} {D:Nat→Prop}
theorem sub_eq {E:List Nat} {k:Nat} {p:Path} (h: ¬hid rs M E k):(subω rs M ω E).β k p=ω.β k p:=if_neg h
theorem sub_hid {E:List Nat} {k:Nat} {p:Path} (h:hid rs M E k):(subω rs M ω E).β k p=none:=if_pos h
theorem sub_ext {E E':List Nat} (h: ∀j∈E,j∈E'):Ext w (subω rs M ω E) w (subω rs M ω E'):=
  ⟨rfl,rfl,rfl,fun _ _ _=>rfl,fun _ _ h=>h,fun _ _ _ h=>h,Nat.le_refl _,fun _=>⟨Nat.le_refl _,Nat.le_refl _⟩,fun k p L hL _=>by
    by_cases hk:hid rs M E k
    · rw [sub_hid hk] at hL;cases hL
    · rw [sub_eq hk] at hL
      rw [sub_eq]
      · exact hL
      · rintro ⟨h0,h1,h2⟩
        exact hk ⟨h0,h1,fun ⟨j,hj,hkj⟩=>h2 ⟨j,h j hj,hkj⟩⟩,fun _ h=>h⟩
theorem sub_get {E:List Nat} {k:Nat} {p:Path} {L:Loc} (h:(subω rs M ω E).β k p=some L): ¬hid rs M E k∧ω.β k p=some L:=by
  by_cases hk:hid rs M E k
  · rw [sub_hid hk] at h;cases h
  · exact ⟨hk,by rwa [sub_eq hk] at h⟩
theorem Inv.ext0 (S:Sta P sg Gl Γ N ops PR m rs F F0 M reg wr) (hm:MemOK w0 ω0 M) (I:Inv ops PR m rs M N a0 w0 ω0 D a w ω) (E:List Nat):Ext w0 ω0 w (subω rs M ω E):=
  ⟨I.cw.1,I.cw.2.1,I.cw.2.2.1,fun b hb hn=>I.cw.2.2.2.2 b hb (fun k _ L hL e=>hn (hm.own b ⟨k,none,L,hL,e⟩)),I.freeA,fun b _ _ hz hz'=>hz (by rw [←I.Z];exact hz'),I.cw.2.2.2.1,fun k=>by rw [show (subω rs M ω E).cur=ω0.cur from I.cur];exact ⟨Nat.le_refl _,Nat.le_refl _⟩,fun k p L hL _=>by
    have hno:freeB (ent M) k=false:=by
      cases hf:freeB (ent M) k with
      |false=>rfl
      |true=>have:=(freeB_free hm hf).2.2 p;rw [this] at hL;cases hL
    rw [sub_eq (fun h=>by have:=h.1;rw [hno] at this;cases this),I.β0 k p (fun _ _ _=>hno)]
    exact hL,fun b hz=>by show ω.Z b;rw [I.Z];exact hz⟩
theorem Inv.all (S:Sta P sg Gl Γ N ops PR m rs F F0 M reg wr) (hm:MemOK w0 ω0 M) (hF:FrOK w0 ω0 N F a0.tmps) (I:Inv ops PR m rs M N a0 w0 ω0 D a w ω) {E:List Nat} (hE: ∀j∈E,D j) (hc: ∀j∈E,∀k∈PR j,k∈E):
    MemOK w (subω rs M ω E) (vM rs M E)∧FrOK w (subω rs M ω E) N (vF rs F0 E) a.tmps∧HOK w (subω rs M ω E) N a (vH rs E):=by
  have e0:=I.ext0 S hm E
  have inc: ∀{j},j∈E→ ∀i∈j::PR j,i∈E:=fun hj i hi=>by
    rcases List.mem_cons.1 hi with rfl|hi
    · exact hj
    · exact hc _ hj _ hi
  have where_: ∀k,(∃j∈E,k∈keys rs j)∨(∀j∈E,k∉keys rs j):=fun k=>by
    by_cases h: ∃j∈E,k∈keys rs j
    · exact .inl h
    · exact .inr fun j hj hk=>h ⟨j,hj,hk⟩
  have entIn: ∀{j k},j∈E→k∈keys rs j→ent (vM rs M E) k=ent (vM rs M (j::PR j)) k:=fun hj hk=>by
    rw [ent_vM_in (fun i j=>S.key i j _) hk hj,ent_vM_in (fun i j=>S.key i j _) hk (by simp)]
  have notHid: ∀{j k} {E':List Nat},j∈E'→k∈keys rs j→ ¬hid rs M E' k:=fun hj hk h=>h.2.2 ⟨_,hj,hk⟩
  refine ⟨⟨?_,?_,I.lowA,I.dj,?_,?_,?_,?_,?_,?_⟩,⟨I.size,?_,?_⟩,?_⟩
  · show ω.cur=_
    rw [I.cur,hm.cur]
    funext k
    unfold curM
    rcases where_ k with ⟨j,hj,hk⟩|hno
    · rw [ent_vM_in (fun i j=>S.key i j _) hk hj,(S.stm j k hk).1,(S.stm j k hk).2]
    · rw [ent_vM_out hno]
  · rintro b ⟨k,p,L,h,rfl⟩
    exact I.own _ _ _ (sub_get h).2
  · intro b hz
    have hz:ω.Z b:=hz
    rw [I.Z] at hz
    exact Nat.lt_of_lt_of_le (hm.lowZ b hz) I.cw.2.2.2.1
  · intro k p L k' p' L' h1 h2 e
    exact I.inj _ _ _ _ _ _ (sub_get h1).2 (sub_get h2).2 e
  · intro k p L h
    exact I.lowA _ (I.own _ _ _ (sub_get h).2)
  · intro k p L h
    obtain ⟨hnh,hL⟩:=sub_get h
    rcases where_ k with ⟨j,hj,hk⟩|hno
    · obtain ⟨hmj,_⟩:=I.pkg j (hE j hj)
      obtain ⟨r,g1,g2,g3,g4⟩:=hmj.row k p L (by rw [sub_eq (notHid (by simp) hk)];exact hL)
      refine ⟨r,by unfold rowAt at g1⊢;rw [entIn hj hk];exact g1,g2,g3,?_⟩
      rw [entIn hj hk]
      exact g4.ext (sub_ext (inc hj)) rfl (fun q=>by rw [sub_eq hnh,sub_eq (notHid (by simp) hk)]) rfl
    · have hno': ∀i,k∈keys rs i→freeB (ent M) k=false:=fun i hki=>by
        cases hf:freeB (ent M) k with
        |false=>rfl
        |true=>exact absurd ⟨hf,⟨i,hki⟩,fun ⟨j,hj,hk⟩=>hno j hj hk⟩ hnh
      rw [I.β0 k p (fun j _=>hno' j)] at hL
      obtain ⟨r,g1,g2,g3,g4⟩:=hm.row k p L hL
      refine ⟨r,by unfold rowAt at g1⊢;rw [ent_vM_out hno];exact g1,g2,g3,?_⟩
      rw [ent_vM_out hno]
      by_cases hW: ∃i,k∈keys rs i
      · obtain ⟨i,hki⟩:=hW
        obtain ⟨_,r0,d0,n,l',e1,e2,e3⟩:=(S.free i k hki).resolve_left (by rw [hno' i hki];simp)
        cases p with
        |some ij=>unfold rowAt at g1;rw [e1] at g1;cases g1
        |none=>
         unfold rowAt at g1;rw [e1] at g1
         obtain rfl:=Option.some.inj g1
         obtain ⟨c,T,h1,h2⟩:=I.shp i k hki (hno' i hki) L hL
         obtain ⟨c0,T0,f1,f2,f3,f4⟩:=g4
         refine ⟨c,T,h1,h2,f3,fun a ha b hb=>?_⟩
         have hlt:L.o+a*L.sz+b<c.size:=by have:=idx_lt ha hb;omega
         exact ⟨_,Array.getElem?_eq_getElem hlt,by show CellOK _ _ _ _ _ _ (lsv (junkL n) b) _;rw [junkL_at];trivial⟩
      · refine g4.ext e0 (by rw [show (subω rs M ω E).cur=ω0.cur from I.cur]) (fun q=>by rw [sub_eq hnh,I.β0 k q (fun j _=>hno' j)]) (I.cw.2.2.2.2 _ (hm.low k p L hL) ?_)
        rintro k' ⟨hf',j',hj',hk'⟩ L' hL' e
        obtain ⟨rfl,_⟩:=hm.inj _ _ _ _ _ _ hL' hL e
        exact hW ⟨j',hk'⟩
  · intro k l hl
    rcases where_ k with ⟨j,hj,hk⟩|hno
    · rw [entIn hj hk] at hl
      obtain ⟨L,hL⟩:=(I.pkg j (hE j hj)).1.live k l hl
      exact ⟨L,by rw [sub_eq (notHid hj hk)];exact (sub_get hL).2⟩
    · rw [ent_vM_out hno] at hl
      have hf:freeB (ent M) k=false:=by unfold freeB;rw [hl];rfl
      obtain ⟨L,hL⟩:=hm.live k l hl
      exact ⟨L,by rw [sub_eq (fun h=>by have:=h.1;rw [hf] at this;cases this),I.β0 k none (fun _ _ _=>hf)];exact hL⟩
  · intro k i j hh
    by_cases hhid:hid rs M E k
    · exact sub_hid hhid
    rw [sub_eq hhid]
    rcases where_ k with ⟨q,hq,hk⟩|hno
    · rw [entIn hq hk] at hh
      have:=(I.pkg q (hE q hq)).1.hol k i j hh
      rwa [sub_eq (notHid (by simp) hk)] at this
    · rw [ent_vM_out hno] at hh
      have hf:freeB (ent M) k=false:=by unfold freeB;rw [hh];cases isDead (ent M k).b<;>rfl
      rw [I.β0 k _ (fun _ _ _=>hf)]
      exact hm.hol k i j hh
  · intro t u hu
    have look_app: ∀(l:List (Nat×SV)) (G:Fr),(∃s,(t,s)∈l∧look (l++G) t=s)∨((∀p∈l,p.1≠t)∧look (l++G) t=look G t):=by
      intro l G
      induction l with
      |nil=>exact .inr ⟨fun p hp=>by simp at hp,rfl⟩
      |cons p r ih=>
       obtain ⟨p1,p2⟩:=p
       by_cases hp:p1=t
       · subst hp
         exact .inl ⟨p2,by simp,look_eq⟩
       · rw [List.cons_append,look_ne hp]
         rcases ih with ⟨s,h1,h2⟩|⟨h1,h2⟩
         · exact .inl ⟨s,by simp [h1],h2⟩
         · exact .inr ⟨fun q hq=>by rcases List.mem_cons.1 hq with rfl|hq;exact hp;exact h1 q hq,h2⟩
    show Den w _ (look (E.flatMap (fun j=>(rcAt rs j).fs)++F0) t) u
    rcases look_app (E.flatMap fun j=>(rcAt rs j).fs) F0 with ⟨s,h1,h2⟩|⟨h1,h2⟩
    · rw [h2]
      obtain ⟨j,hj,hjs⟩:=List.mem_flatMap.1 h1
      exact ((I.pkg j (hE j hj)).2.1 (t,s) hjs u hu).ext (sub_ext (inc hj))
    · rw [h2]
      rcases S.base t with e|⟨e,hno⟩
      · rw [e];trivial
      · rw [e]
        refine (hF.den t u ?_).ext e0
        rw [←I.keep t fun j hj=>hno j (I.low j hj)]
        exact hu
  · intro t ht
    have look_out: ∀(l:List (Nat×SV)) (G:Fr),(∀p∈l,p.1<N)→look (l++G) t=look G t:=by
      intro l G h
      induction l with
      |nil=>rfl
      |cons p r ih=>
       obtain ⟨p1,p2⟩:=p
       have:=h (p1,p2) (by simp)
       rw [List.cons_append,look_ne (by simp at this;omega)]
       exact ih fun q hq=>h q (by simp [hq])
    show look (E.flatMap (fun j=>(rcAt rs j).fs)++F0) t= .junk
    rw [look_out _ _ fun p hp=>by
     obtain ⟨j,hj,hjs⟩:=List.mem_flatMap.1 hp
     exact (S.fs j p hjs).2]
    exact S.out t ht
  · intro h hh
    obtain ⟨j,hj,hjs⟩:=List.mem_flatMap.1 hh
    exact (HOK.ext (I.pkg j (hE j hj)).2.2 (sub_ext (inc hj))) h hjs
end
end Go.Sy
set_option linter.unusedVariables false
set_option linter.unusedSimpArgs false
namespace Go.Sy
open Go.RowKit Classical
theorem Cw.trans {w w' w'':World} (h:Cw w w') (k:Cw w' w''):Cw w w'':=
  ⟨k.1.trans h.1,k.2.1.trans h.2.1,k.2.2.1.trans h.2.2.1,Nat.le_trans h.2.2.2.1 k.2.2.2.1,fun b hb=>(k.2.2.2.2 b (Nat.lt_of_lt_of_le hb h.2.2.2.1)).trans (h.2.2.2.2 b hb)⟩
theorem CwX.cw {ω0:Ow} {W W':Nat→Prop} {w0 w w':World} (h:CwX ω0 W w0 w) (k:Cw w w') (hW: ∀q,W q→W' q):CwX ω0 W' w0 w':=
  ⟨k.1.trans h.1,k.2.1.trans h.2.1,k.2.2.1.trans h.2.2.1,Nat.le_trans h.2.2.2.1 k.2.2.2.1,fun b hb hn=>(k.2.2.2.2 b (Nat.lt_of_lt_of_le hb h.2.2.2.1)).trans (h.2.2.2.2 b hb fun q hq=>hn q (hW q hq))⟩
theorem CwX.one {ω0:Ow} {W W':Nat→Prop} {w0 w w':World} (h:CwX ω0 W w0 w) {L:Loc} (k:One w w' L.b) (hW: ∀q,W q→W' q) {q0:Nat} (h0:W' q0) (hL:ω0.β q0 none=some L):CwX ω0 W' w0 w':=
  ⟨k.1.trans h.1,k.2.1.trans h.2.1,k.2.2.1.trans h.2.2.1,by rw [k.2.2.2.1];exact h.2.2.2.1,fun b hb hn=>(k.2.2.2.2 b (fun e=>hn q0 h0 L hL e.symm)).trans (h.2.2.2.2 b hb fun q hq=>hn q (hW q hq))⟩
theorem MemOK.grow {w w':World} {o o':Ow} {M:Mem} (hm:MemOK w o M) (hc:Cw w w') (he:Ext w o w' o') (hβ: ∀k p,o'.β k p=o.β k p) (hcur:o'.cur=o.cur) (hZ:o'.Z=o.Z) (hA: ∀b,o.A b→o'.A b) (hlA: ∀b,o'.A b→b<w'.heap.size) (hdj: ∀b,o'.A b→ ¬o'.Z b):MemOK w' o' M where
  cur:=hcur.trans hm.cur
  own:=fun b ⟨k,p,L,h1,h2⟩=>hA b (hm.own b ⟨k,p,L,by rw [←hβ];exact h1,h2⟩)
  lowA:=hlA
  dj:=hdj
  lowZ:=fun b hz=>Nat.lt_of_lt_of_le (hm.lowZ b (by rw [←hZ];exact hz)) hc.2.2.2.1
  inj:=fun k p L k' p' L' h1 h2 e=>hm.inj k p L k' p' L' (by rw [←hβ];exact h1) (by rw [←hβ];exact h2) e
  low:=fun k p L h=>Nat.lt_of_lt_of_le (hm.low k p L (by rw [←hβ];exact h)) hc.2.2.2.1
  row:=fun k p L h=>by
    rw [hβ] at h
    obtain ⟨r,h1,h2,h3,h4⟩:=hm.row k p L h
    exact ⟨r,h1,h2,h3,h4.ext he (by rw [hcur]) (fun q=>hβ k q) (hc.2.2.2.2 _ (hm.low k p L h))⟩
  live:=fun k l h=>by obtain ⟨L,hL⟩:=hm.live k l h;exact ⟨L,by rw [hβ];exact hL⟩
  hol:=fun k i j h=>by rw [hβ];exact hm.hol k i j h
section
variable {P:Program} {sg:Bool} {Gl:Nat→SV} {Γ:Table} {N:Nat} {ops:Array Oper} {PR:Nat→List Nat} {m:Nat} {rs:List Rc} {F F0:Fr} {M:Mem} {reg wr:Nat→Bool}
variable {a0 a:Act} {w0 w:World} {ω0 ω:Ow} {D:Nat→Prop}
theorem put_ne {t:Nat} {d:Option Tmp} {v:Value} (h:d≠some t):(a.put d v).tmps[t]? =a.tmps[t]? :=by
  cases d with
  |none=>rfl
  |some x=>
   have:x≠t:=fun e=>h (by rw [e])
   simp only [Act.put,Array.getElem?_setIfInBounds_ne this]
theorem put_size {d:Option Tmp} {v:Value}:(a.put d v).tmps.size=a.tmps.size:=by cases d<;>simp [Act.put]
theorem Inv.after' (S:Sta P sg Gl Γ N ops PR m rs F F0 M reg wr) (hm:MemOK w0 ω0 M)
    (I:Inv ops PR m rs M N a0 w0 ω0 D a w ω) {i:Nat} {o:Oper} (hi:i<m) (ho:ops[i]? =some o) (hni: ¬D i) (hpre: ∀j∈PR i,D j) (hfr: ∀k∈keys rs i,freeB (ent M) k=true) {v:Value} {w':World} {ωq:Ow}
    (hstp:Stp w (subω rs M ω (PR i)) (vM rs M (PR i)) w' ωq ((rcAt rs i).u++vM rs M (PR i))) (hnew:New w (subω rs M ω (PR i)) w' ωq (fun k=>k∈(rcAt rs i).u.map (·.1))) (hfacts:Facts w' ωq N (a.put o.dst v) (rcAt rs i)):
    Inv ops PR m rs M N a0 w0 ω0 (fun j=>D j∨j=i) (a.put o.dst v) w' ⟨ωq.A,ω.Z,fun k p=>if k∈keys rs i then ωq.β k p else ω.β k p,ω.cur⟩:=by
  have hdst:dstOf ops i=o.dst:=by simp [dstOf,ho]
  have hZq:ωq.Z=ω.Z:=hnew.Z
  have hcq:ωq.cur=ω.cur:=hnew.cur
  have hfree: ∀b,b<w.heap.size→ ¬ω.A b→ ¬ωq.A b:=fun b hb hn=>hstp.ext.free b hb hn
  have hgrow: ∀b,ω.A b→ωq.A b:=fun b hb=>hnew.A b hb
  have hβin: ∀{k p},k∈keys rs i→(if k∈keys rs i then ωq.β k p else ω.β k p)=ωq.β k p:=fun h=>if_pos h
  have hβout: ∀{k p},k∉keys rs i→(if k∈keys rs i then ωq.β k p else ω.β k p)=ω.β k p:=fun h=>if_neg h
  have hcw:CwX ω0 (Wr rs M fun j=>D j∨j=i) w0 w':=I.cw.cw hnew.cw fun q ⟨h1,j,h2,h3⟩=>⟨h1,j,.inl h2,h3⟩
  have hqeq:subω rs M ⟨ωq.A,ω.Z,fun k p=>if k∈keys rs i then ωq.β k p else ω.β k p,ω.cur⟩ (i::PR i)=ωq:=by
    show (⟨ωq.A,ω.Z,_,ω.cur⟩:Ow)=⟨ωq.A,ωq.Z,ωq.β,ωq.cur⟩
    rw [hZq,hcq]
    congr 1
    funext k p
    by_cases hk:k∈keys rs i
    · have: ¬hid rs M (i::PR i) k:=fun h=>h.2.2 ⟨i,by simp,hk⟩
      simp only [if_neg this,if_pos hk]
    · rw [hnew.β k p hk]
      show _=if hid rs M (PR i) k then none else ω.β k p
      have:hid rs M (i::PR i) k↔hid rs M (PR i) k:=by
        constructor
        · rintro ⟨h0,h1,h2⟩
          exact ⟨h0,h1,fun ⟨j,hj,hkj⟩=>h2 ⟨j,by simp [hj],hkj⟩⟩
        · rintro ⟨h0,h1,h2⟩
          refine ⟨h0,h1,?_⟩
          rintro ⟨j,hj,hkj⟩
          rcases List.mem_cons.1 hj with rfl|hj
          · exact hk hkj
          · exact h2 ⟨j,hj,hkj⟩
      by_cases hh:hid rs M (PR i) k
      · rw [if_pos (this.2 hh),if_pos hh]
      · rw [if_neg (fun h=>hh (this.1 h)),if_neg hh];exact hβout hk
  refine ⟨?_,?_,hcw,fun j k hk hf L hL=>?_,fun b hb=>hgrow b (I.A0 b hb),hstp.mem.lowA,?_,I.Z,?_,I.cur,?_,?_,?_,by rw [Act.put_defers];exact I.defers,by rw [put_size];exact I.size,?_,?_⟩
  · rintro j (h|rfl)
    · exact I.low j h
    · exact hi
  · rintro j (h|rfl) k hk
    · exact .inl (I.clo j h k hk)
    · exact .inl (hpre k hk)
  · obtain ⟨c,T,h1,h2⟩:=I.shp j k hk hf L hL
    refine ⟨c,T,?_,h2⟩
    rw [hnew.cw.2.2.2.2 _ (Nat.lt_of_lt_of_le (hm.low k none L hL) I.cw.2.2.2.1)]
    exact h1
  · intro b hb hn
    exact hfree b (Nat.lt_of_lt_of_le hb I.cw.2.2.2.1) (I.freeA b hb hn)
  · intro b hb
    show¬ω.Z b
    rw [←hZq]
    exact hstp.mem.dj b hb
  · intro k p hk
    show (if k∈keys rs i then ωq.β k p else ω.β k p)=_
    rw [hβout (fun h=>by have:=hk i (.inr rfl) h;rw [hfr k h] at this;cases this)]
    exact I.β0 k p fun j hj=>hk j (.inl hj)
  · intro k p L hL
    have hL:(if k∈keys rs i then ωq.β k p else ω.β k p)=some L:=hL
    by_cases hk:k∈keys rs i
    · rw [hβin hk] at hL
      exact hstp.mem.own _ ⟨k,p,L,hL,rfl⟩
    · rw [hβout hk] at hL
      exact hgrow _ (I.own k p L hL)
  · intro k p L k' p' L' h1 h2 e
    have h1:(if k∈keys rs i then ωq.β k p else ω.β k p)=some L:=h1
    have h2:(if k'∈keys rs i then ωq.β k' p' else ω.β k' p')=some L':=h2
    by_cases hk:k∈keys rs i<;>by_cases hk':k'∈keys rs i
    · rw [hβin hk] at h1;rw [hβin hk'] at h2
      exact hstp.mem.inj _ _ _ _ _ _ h1 h2 e
    · rw [hβin hk] at h1;rw [hβout hk'] at h2
      have e1:=hnew.new k p L hk h1
      have e2:=I.lowA _ (I.own k' p' L' h2)
      omega
    · rw [hβout hk] at h1;rw [hβin hk'] at h2
      have e1:=hnew.new k' p' L' hk' h2
      have e2:=I.lowA _ (I.own k p L h1)
      omega
    · rw [hβout hk] at h1;rw [hβout hk'] at h2
      exact I.inj _ _ _ _ _ _ h1 h2 e
  · intro t ht
    rw [put_ne (by rw [←hdst];exact ht i (.inr rfl))]
    exact I.keep t fun j hj=>ht j (.inl hj)
  · rintro j (hj|rfl)
    · have hji:j≠i:=fun e=>hni (e▸hj)
      have hEi:i∉j::PR j:=by
        intro h
        rcases List.mem_cons.1 h with h|h
        · exact hji h.symm
        · exact hni (I.clo j hj i h)
      have hβeq: ∀k p,(subω rs M ⟨ωq.A,ω.Z,fun k p=>if k∈keys rs i then ωq.β k p else ω.β k p,ω.cur⟩ (j::PR j)).β k p=(subω rs M ω (j::PR j)).β k p:=by
        intro k p
        by_cases hh:hid rs M (j::PR j) k
        · rw [sub_hid hh,sub_hid hh]
        · rw [sub_eq hh,sub_eq hh]
          show (if k∈keys rs i then ωq.β k p else ω.β k p)=_
          refine hβout fun hk=>hh ⟨hfr k hk,⟨i,hk⟩,?_⟩
          rintro ⟨q,hq,hkq⟩
          exact hEi ((S.key i q k hk hkq)▸hq)
      have hext:Ext w (subω rs M ω (j::PR j)) w' (subω rs M ⟨ωq.A,ω.Z,fun k p=>if k∈keys rs i then ωq.β k p else ω.β k p,ω.cur⟩ (j::PR j)):=
        ⟨hnew.cw.1,hnew.cw.2.1,hnew.cw.2.2.1,fun b hb _=>hnew.cw.2.2.2.2 b hb,hfree,fun _ _ _ h=>h,hnew.cw.2.2.2.1,fun _=>⟨Nat.le_refl _,Nat.le_refl _⟩,fun k p L hL _=>by rw [hβeq];exact hL,fun _ h=>h⟩
      obtain ⟨k1,k2,k3⟩:=I.pkg j hj
      refine ⟨k1.grow hnew.cw hext hβeq rfl rfl hgrow hstp.mem.lowA (fun b hb=>?_),fun p hp u hu=>?_,?_⟩
      · show¬ω.Z b
        rw [←hZq]
        exact hstp.mem.dj b hb
      · have hne:o.dst≠some p.1:=by
          rw [←hdst]
          intro e
          exact hji (S.one j i p.1 (I.low j hj) hi (S.fs j p hp).1 e)
        rw [put_ne hne] at hu
        exact (k2 p hp u hu).ext hext
      · intro h hh
        obtain ⟨d1,g,hg,d2⟩:=S.hs j h hh
        have hDg:D g:=I.clo j hj g hg
        have n1:o.dst≠some h.slot:=by
          rw [←hdst];intro e
          exact hji (S.one j i _ (I.low j hj) hi d1 e)
        have n2:o.dst≠some h.d:=by
          rw [←hdst];intro e
          have:g=i:=S.one g i _ (I.low g hDg) hi d2 e
          exact hni (this▸hDg)
        have h0:=k3 h hh
        exact ⟨h0.lt,fun e u hu=>(h0.yes (by rw [←put_ne n2];exact e) u (by rw [←put_ne n1];exact hu)).ext hext,fun e=>by rw [put_ne n1];exact h0.no (by rw [←put_ne n2];exact e)⟩
    · rw [hqeq,vM_cons]
      exact ⟨hstp.mem,hfacts⟩
theorem Inv.after (S:Sta P sg Gl Γ N ops PR m rs F F0 M reg wr) (hm:MemOK w0 ω0 M)
    (I:Inv ops PR m rs M N a0 w0 ω0 D a w ω) {i:Nat} {o:Oper} (hi:i<m) (ho:ops[i]? =some o) (hni: ¬D i) (hpre: ∀j∈PR i,D j) (hfr: ∀k∈keys rs i,freeB (ent M) k=true) {v:Value} {w':World} {ωq:Ow}
    (hstp:Stp w (subω rs M ω (PR i)) (vM rs M (PR i)) w' ωq ((rcAt rs i).u++vM rs M (PR i))) (hnew:New w (subω rs M ω (PR i)) w' ωq (fun k=>k∈(rcAt rs i).u.map (·.1))) (hfacts:Facts w' ωq N (a.put o.dst v) (rcAt rs i)):
    ∃ω',Inv ops PR m rs M N a0 w0 ω0 (fun j=>D j∨j=i) (a.put o.dst v) w' ω':=⟨_,I.after' S hm hi ho hni hpre hfr hstp hnew hfacts⟩
theorem Inv.stepR (S:Sta P sg Gl Γ N ops PR m rs F F0 M reg wr) (hm:MemOK w0 ω0 M) (hF:FrOK w0 ω0 N F a0.tmps)
    (I:Inv ops PR m rs M N a0 w0 ω0 D a w ω) {i:Nat} {o:Oper} (hi:i<m) (ho:ops[i]? =some o) (hreg:reg i=true) (hni: ¬D i) (hpre: ∀j∈PR i,D j):
    ∃v,Yields P ops o v a∧ ∃ω',Inv ops PR m rs M N a0 w0 ω0 (fun j=>D j∨j=i) (a.put o.dst v) w ω':=by
  obtain ⟨g1,g2,g3⟩:=I.all S hm hF hpre (fun j hj=>S.closed i j hj)
  obtain ⟨hg,s,hrc,he⟩:=S.evr i o hi ho hreg
  obtain ⟨v,h1,h2⟩:=reg_ok g1 g2 he
  refine ⟨v,.inl ⟨by simp [Region.wanted,hg],h1⟩,?_⟩
  refine I.after S hm hi ho hni hpre (fun k hk=>by unfold keys at hk;rw [hrc] at hk;simp at hk) (w':=w) (ωq:=subω rs M ω (PR i)) ?_ ?_ ?_
  · rw [hrc];exact Stp.refl g1
  · rw [hrc];exact New.refl _ _
  · rw [hrc];exact ⟨ent1_facts h2,fun x hx=>by cases hx⟩
theorem evalW_u {ops:List Oper} {V:Fr} {M:Mem} {H:List Hd} {o:Oper} {k:Nat} {u:Upd} (h:evalW P Gl N ops V M H o=some (k,u)):u.map (·.1)= [k]:=by
  unfold evalW at h
  split at h
  · split at h
    · split at h
      · split at h
        · simp only [Option.some.injEq,Prod.mk.injEq] at h
          obtain ⟨rfl,rfl⟩:=h;rfl
        · cases h
      · cases h
    · cases h
  · cases h
theorem Inv.write (S:Sta P sg Gl Γ N ops PR m rs F F0 M reg wr) (hm:MemOK w0 ω0 M)
    (I:Inv ops PR m rs M N a0 w0 ω0 D a w ω) {i:Nat} (hi:i<m) (hni: ¬D i) (hpre: ∀j∈PR i,D j) {k:Nat} (hk:keys rs i= [k]) (hkf:freeB (ent M) k=false) (hfs:(rcAt rs i).fs= []) (hhs:(rcAt rs i).hs= []) {w':World} {L:Loc} (hL:(subω rs M ω (PR i)).β k none=some L)
    (hmem:MemOK w' (subω rs M ω (PR i)) ((rcAt rs i).u++vM rs M (PR i))) (ho:One w w' L.b):
    Inv ops PR m rs M N a0 w0 ω0 (fun j=>D j∨j=i) a w' ω:=by
  have notHid: ∀{E:List Nat},¬hid rs M E k:=fun h=>by have:=h.1;rw [hkf] at this;cases this
  have hLω:ω.β k none=some L:=by rw [sub_eq notHid] at hL;exact hL
  have hL0:ω0.β k none=some L:=by rw [←I.β0 k none (fun _ _ _=>hkf)];exact hLω
  have hki:k∈keys rs i:=by rw [hk];simp
  have hshape: ∃c T,w'.heap[L.b]? =some (Obj.cells c T (0,0))∧c.size=L.len:=by
    obtain ⟨r,_,_,_,c,T,h1,h2,_⟩:=hmem.row k none L hL
    exact ⟨c,T,h1,h2⟩
  have hWin: ∀q,Wr rs M D q→Wr rs M (fun j=>D j∨j=i) q:=fun q ⟨h1,j,h2,h3⟩=>⟨h1,j,.inl h2,h3⟩
  have hsub:subω rs M ω (i::PR i)=subω rs M ω (PR i):=by
    show (⟨_,_,_,_⟩:Ow)=⟨_,_,_,_⟩
    congr 1
    funext k' p
    have:hid rs M (i::PR i) k'↔hid rs M (PR i) k':=by
      constructor
      · rintro ⟨h0,h1,h2⟩
        exact ⟨h0,h1,fun ⟨j,hj,hkj⟩=>h2 ⟨j,by simp [hj],hkj⟩⟩
      · rintro ⟨h0,h1,h2⟩
        refine ⟨h0,h1,?_⟩
        rintro ⟨j,hj,hkj⟩
        rcases List.mem_cons.1 hj with rfl|hj
        · rw [hk] at hkj
          obtain rfl:=List.mem_singleton.1 hkj
          rw [hkf] at h0;cases h0
        · exact h2 ⟨j,hj,hkj⟩
    by_cases hh:hid rs M (PR i) k'
    · rw [if_pos (this.2 hh),if_pos hh]
    · rw [if_neg (fun h=>hh (this.1 h)),if_neg hh]
  refine ⟨?_,?_,I.cw.one ho hWin ⟨hkf,i,.inr rfl,hki⟩ hL0,fun j k' hk' hf L' hL'=>?_,I.A0,fun b h=>by rw [ho.2.2.2.1];exact I.lowA b h,I.freeA,I.Z,I.dj,I.cur,fun k' p hk'=>I.β0 k' p fun j hj=>hk' j (.inl hj),I.own,I.inj,I.defers,I.size,fun t ht=>I.keep t fun j hj=>ht j (.inl hj),?_⟩
  · rintro j (h|rfl)
    · exact I.low j h
    · exact hi
  · rintro j (h|rfl) q hq
    · exact .inl (I.clo j h q hq)
    · exact .inl (hpre q hq)
  · by_cases hb:L'.b=L.b
    · obtain ⟨rfl,_⟩:=hm.inj _ _ _ _ _ _ hL' hL0 hb
      obtain rfl:L=L':=Option.some.inj (hL0.symm.trans hL')
      exact hshape
    · obtain ⟨c,T,h1,h2⟩:=I.shp j k' hk' hf L' hL'
      exact ⟨c,T,by rw [ho.2.2.2.2 _ hb];exact h1,h2⟩
  · rintro j (hj|rfl)
    · have hji:j≠i:=fun e=>hni (e▸hj)
      have hEi: ∀q∈j::PR j,k∉keys rs q:=by
        intro q hq hkq
        obtain rfl:=S.key q i k hkq hki
        rcases List.mem_cons.1 hq with h|h
        · exact hji h.symm
        · exact hni (I.clo j hj _ h)
      obtain ⟨k1,k2,k3⟩:=I.pkg j hj
      obtain ⟨_,r0,d0,n,l',e1,e2,e3⟩:=(S.free i k hki).resolve_left (by rw [hkf];simp)
      have hb:(ent (vM rs M (j::PR j)) k).b= .cells (junkL n):=by rw [ent_vM_out hEi,e1]
      obtain ⟨g1,g2⟩:=k1.blur hb (by rw [sub_eq notHid];exact hLω) ho hshape
      exact ⟨g1,fun p hp u hu=>(k2 p hp u hu).ext g2,fun h hh=>(HOK.ext k3 g2) h hh⟩
    · rw [hsub,vM_cons]
      exact ⟨hmem,fun p hp=>by rw [hfs] at hp;simp at hp,fun h hh=>by rw [hhs] at hh;simp at hh⟩
theorem Inv.step (hS:Sound P Gl Γ) (S:Sta P sg Gl Γ N ops PR m rs F F0 M reg wr) (hm:MemOK w0 ω0 M) (hF:FrOK w0 ω0 N F a0.tmps) (hG: ∀g,Den w0 ω0.bare (Gl g) (.pointer (some ⟨g,0,none⟩)))
    (I:Inv ops PR m rs M N a0 w0 ω0 D a w ω) {i:Nat} {o:Oper} (hi:i<m) (ho:ops[i]? =some o) (hni: ¬D i) (hpre: ∀j∈PR i,D j) {Q:Exit→Act→World→Prop} {K:Act→World→Prop}
    (hK: ∀a' w' ω',Inv ops PR m rs M N a0 w0 ω0 (fun j=>D j∨j=i) a' w' ω'→K a' w'):wpOp P ops Q i K a w:=by
  obtain ⟨g1,g2,g3⟩:=I.all S hm hF hpre (fun j hj=>S.closed i j hj)
  have hst:St P Gl N (vF rs F0 (PR i)) (vM rs M (PR i)) a w (subω rs M ω (PR i)):=⟨g2,fun g=>Den.ext (o:=ω0.bare) (I.ext0 S hm (PR i)).bare (hG g),g1,I.defers⟩
  cases hreg:reg i with
  |false=>
   cases hwr:wr i with
   |false=>
    obtain ⟨nx,p,hev,hp⟩:=S.ev i o hi ho hreg hwr
    refine q_ok hS ho hst g3 hev hp ?_
    intro v w' ωq hstp hnew hfacts
    obtain ⟨ω',I'⟩:=I.after S hm hi ho hni hpre (S.fr i hwr) hstp hnew hfacts
    exact hK _ _ _ I'
   |true=>
    obtain ⟨hd,hfs,hhs,k,hev,hkf⟩:=S.evw i o hi ho hreg hwr
    refine w_ok ho hst g3 hev fun w' L hL hmem h1=>?_
    exact hK _ _ _ (I.write S hm hi hni hpre (k:=k) (evalW_u hev) hkf hfs hhs hL hmem h1)
  |true=>
   obtain ⟨v,hy,ω',I'⟩:=I.stepR S hm hF hi ho hreg hni hpre
   exact hy.wpOp ho (hK _ _ _ I')
/-! ### what is left to be done -/
def und (n:Nat) (listed:Array Bool):Nat:=((List.range n).filter fun j=>!listed.getD j true).length
theorem filt_lt {p q:Nat→Bool}: ∀(l:List Nat),(∀x∈l,q x=true→p x=true)→(∃x∈l,p x=true∧q x=false)→(l.filter q).length<(l.filter p).length
  | [],_,⟨x,hx,_⟩=>by simp at hx
  |y::r,h,⟨x,hx,h1,h2⟩=>by
   have le: ∀(l:List Nat),(∀x∈l,q x=true→p x=true)→(l.filter q).length≤(l.filter p).length:=by
     intro l
     induction l with
     |nil=>intro _;exact Nat.le_refl _
     |cons z r ih=>
      intro h
      have ih:=ih fun x hx=>h x (by simp [hx])
      by_cases hq:q z=true
      · rw [List.filter_cons_of_pos hq,List.filter_cons_of_pos (h z (by simp) hq)];simpa using ih
      · rw [List.filter_cons_of_neg hq]
        by_cases hp:p z=true
        · rw [List.filter_cons_of_pos hp];simp;omega
        · rw [List.filter_cons_of_neg hp];exact ih
   have hr: ∀x∈r,q x=true→p x=true:=fun x hx=>h x (by simp [hx])
   rcases List.mem_cons.1 hx with rfl|hx
   · rw [List.filter_cons_of_neg (by rw [h2];simp),List.filter_cons_of_pos h1]
     have:=le r hr
     simp;omega
   · have ih:=filt_lt r hr ⟨x,hx,h1,h2⟩
     by_cases hq:q y=true
     · rw [List.filter_cons_of_pos hq,List.filter_cons_of_pos (h y (by simp) hq)];simpa using ih
     · rw [List.filter_cons_of_neg hq]
       by_cases hp:p y=true
       · rw [List.filter_cons_of_pos hp];simp;omega
       · rw [List.filter_cons_of_neg hp];exact ih
theorem getD_eq {listed:Array Bool} {j:Nat} (h:j<listed.size) (d e:Bool):listed.getD j d=listed.getD j e:=by simp [Array.getD,h]
theorem und_set {n i:Nat} {listed:Array Bool} (hi:i<n) (hs:listed.size=n) (h:listed.getD i true=false):und n (listed.setIfInBounds i true)<und n listed:=by
  refine filt_lt _ (fun x hx hq=>?_) ⟨i,List.mem_range.2 hi,by rw [h];rfl,?_⟩
  · by_cases e:i=x
    · subst e;rw [h];rfl
    · rwa [getD_set_ne true e] at hq
  · have:(listed.setIfInBounds i true).getD i true=true:=by simp [Array.getD,hs,hi]
    rw [this];rfl
theorem und_pos {n i:Nat} {listed:Array Bool} (hi:i<n) (h:listed.getD i true=false):0<und n listed:=by
  unfold und
  exact List.length_pos_of_mem (List.mem_filter.2 ⟨List.mem_range.2 hi,by rw [h];rfl⟩)
theorem tail_ok (S:Sta P sg Gl Γ N ops PR m rs F F0 M reg wr) (m1:Nat) (hT: ∀i,m1≤i→i<ops.size→ ∀j,j<i→m1≤j→j∈PR i) {Q:Exit→Act→World→Prop}: ∀(fuel t:Nat) (listed:Array Bool) (a:Act) (w:World),listed.size=ops.size→(∀j,j<ops.size→(listed.getD j false=true↔j<t))→m1≤t→t≤ops.size→und ops.size listed≤fuel→
    wpList P ops Q (ops.toList.drop t) a w→wpAny P .any ops Q fuel listed a w:=by
  intro fuel
  induction fuel with
  |zero=>
   intro t listed a w hs hl hmt htn hu h
   have ht:t=ops.size:=by
     rcases Nat.lt_or_ge t ops.size with hlt|hge
     · have h1:listed.getD t true=false:=by
         rw [getD_eq (by omega) true false]
         cases hx:listed.getD t false with
         |false=>rfl
         |true=>exact absurd ((hl t hlt).1 hx) (Nat.lt_irrefl _)
       have:=und_pos hlt h1
       omega
     · omega
   refine ⟨?_,?_⟩
   · rw [List.eq_nil_iff_forall_not_mem]
     intro j hj
     obtain ⟨h1,o,h2,_⟩:=mem_ready.1 hj
     have hjn:=(Array.getElem?_eq_some_iff.1 h2).1
     have:=(hl j hjn).2 (by omega)
     rw [getD_eq (by omega) true false,this] at h1
     cases h1
   · rw [ht,List.drop_of_length_le (by simp)] at h
     exact h
  |succ fuel ih=>
   intro t listed a w hs hl hmt htn hu h
   have rdy: ∀j,j∈Region.ready .any ops listed→j=t:=by
     intro j hj
     obtain ⟨h1,o,h2,h3⟩:=mem_ready.1 hj
     have hjn:=(Array.getElem?_eq_some_iff.1 h2).1
     have hge: ¬j<t:=fun hlt=>by
       have:=(hl j hjn).2 hlt
       rw [getD_eq (by omega) true false,this] at h1
       cases h1
     rcases Nat.lt_or_ge t j with hlt|hle
     · exfalso
       obtain ⟨e,he,hb,hx⟩:=S.dep j o h2 t (hT j (by omega) hjn t hlt (by omega))
       have hon:=h3 e he hb
       have hlt2:e.on<t:=(hl e.on (by have:=S.dlt j o h2 e he hb;omega)).1 hon
       rcases hx with hx|hx
       · omega
       · have:=S.lt _ _ hx;omega
     · omega
   refine ⟨fun hr=>?_,fun j hj=>?_⟩
   · rcases Nat.lt_or_ge t ops.size with hlt|hge
     · exfalso
       have:t∈Region.ready .any ops listed:=by
         refine mem_ready.2 ⟨?_,ops[t],Array.getElem?_eq_getElem hlt,fun e he hb=>?_⟩
         · rw [getD_eq (by omega) true false]
           cases hx:listed.getD t false with
           |false=>rfl
           |true=>exact absurd ((hl t hlt).1 hx) (Nat.lt_irrefl _)
         · have hd:=S.dlt t _ (Array.getElem?_eq_getElem hlt) e he hb
           exact (hl e.on (by omega)).2 hd
       rw [hr] at this
       simp at this
     · rw [show t=ops.size by omega,List.drop_of_length_le (by simp)] at h
       exact h
   · obtain rfl:=rdy j hj
     obtain ⟨h1,o,h2,h3⟩:=mem_ready.1 hj
     have hjn:=(Array.getElem?_eq_some_iff.1 h2).1
     have hdrop:ops.toList.drop j=o::ops.toList.drop (j+1):=by
       have hj':j<ops.toList.length:=by simpa using hjn
       rw [List.drop_eq_getElem_cons hj']
       congr 1
       have:=(Array.getElem?_eq_some_iff.1 h2).2
       simpa using this
     rw [hdrop] at h
     have hnext: ∀a' w',wpList P ops Q (ops.toList.drop (j+1)) a' w'→wpAny P .any ops Q fuel (listed.setIfInBounds j true) a' w':=by
       intro a' w' h'
       refine ih (j+1) _ a' w' (by simpa using hs) (fun q hq=>?_) (by omega) (by omega) ?_ h'
       · by_cases e:j=q
         · subst e
           have:(listed.setIfInBounds j true).getD j false=true:=by simp [Array.getD,hs,hjn]
           rw [this];simp
         · rw [getD_set_ne false e,hl q hq];omega
       · have:=und_set hjn hs h1;omega
     unfold wpList at h
     unfold wpOp
     rw [h2]
     simp only
     split
     · next hw=>rw [if_pos hw] at h;exact h.imp (Oper.wp_mono hnext) id
     · next hw=>rw [if_neg hw] at h;exact hnext _ _ h
theorem any_ok (hS:Sound P Gl Γ) (S:Sta P sg Gl Γ N ops PR m rs F F0 M reg wr) (hT: ∀i,m≤i→i<ops.size→ ∀j,j<i→j∈PR i∨(j<m∧reg j=true)) (hm:MemOK w0 ω0 M) (hF:FrOK w0 ω0 N F a0.tmps) (hG: ∀g,Den w0 ω0.bare (Gl g) (.pointer (some ⟨g,0,none⟩))) {Q:Exit→Act→World→Prop} (hQp: ∀d c a v w,Q (.panic c) (Act.put a d v) w→Q (.panic c) a w)
    (htail: ∀a w ω,Inv ops PR m rs M N a0 w0 ω0 (fun j=>j<m) a w ω→wpList P ops Q (ops.toList.drop m) a w):
    ∀(fuel:Nat) (listed:Array Bool) (a:Act) (w:World) (ω:Ow),listed.size=ops.size→und ops.size listed≤fuel→Inv ops PR m rs M N a0 w0 ω0 (fun j=>listed.getD j false=true) a w ω→wpAny P .any ops Q fuel listed a w:=by
  have hT2: ∀i,m≤i→i<ops.size→ ∀j,j<i→m≤j→j∈PR i:=fun i h1 h2 j h3 h4=>(hT i h1 h2 j h3).resolve_right fun h=>by omega
  intro fuel
  induction fuel with
  |zero=>
   intro listed a w ω hs hu I
   have all: ∀j,j<ops.size→listed.getD j false=true:=by
     intro j hj
     cases hx:listed.getD j false with
     |true=>rfl
     |false=>have:=und_pos hj (by rw [getD_eq (listed:=listed) (by omega) true false];exact hx);omega
   have hmm:m=ops.size:=by
     rcases Nat.lt_or_ge m ops.size with h|h
     · exact absurd (I.low m (all m h)) (Nat.lt_irrefl _)
     · have:=S.le;omega
   have hD:(fun j=>listed.getD j false=true)=(fun j=>j<m):=by
     funext j
     refine propext ⟨I.low j,fun h=>all j (by omega)⟩
   rw [hD] at I
   exact tail_ok S m hT2 0 m listed a w hs (fun j hj=>⟨fun _=>by omega,fun _=>all j hj⟩) (Nat.le_refl _) S.le hu (htail a w ω I)
  |succ fuel ih=>
   intro listed a w ω hs hu I
   by_cases hall: ∀j,j<m→listed.getD j false=true
   · have hD:(fun j=>listed.getD j false=true)=(fun j=>j<m):=by
       funext j
       exact propext ⟨I.low j,hall j⟩
     have I':=I
     rw [hD] at I'
     exact tail_ok S m hT2 _ m listed a w hs (fun j hj=>⟨I.low j,hall j⟩) (Nat.le_refl _) S.le hu (htail a w ω I')
   · have hle:=S.le
     have hex: ∃j,j<m∧listed.getD j false=false:=by
       refine Classical.byContradiction fun h=>hall fun j hj=>?_
       cases hx:listed.getD j false with
       |true=>rfl
       |false=>exact absurd ⟨j,hj,hx⟩ h
     have first: ∃j,j<m∧listed.getD j false=false∧j∈Region.ready .any ops listed:=by
       refine Classical.byContradiction fun hno=>?_
       have: ∀n,∀j,j<n→j<m→listed.getD j false=true:=by
         intro n
         induction n with
         |zero=>intro j hj;omega
         |succ n ihn=>
          intro j hj hjm
          cases hx:listed.getD j false with
          |true=>rfl
          |false=>
           exfalso
           have hjn:j<ops.size:=by omega
           refine hno ⟨j,hjm,hx,mem_ready.2 ⟨by rw [getD_eq (by omega) true false];exact hx,ops[j],Array.getElem?_eq_getElem hjn,fun e he hb=>?_⟩⟩
           have hd:=S.dlt j _ (Array.getElem?_eq_getElem hjn) e he hb
           exact ihn e.on (by omega) (by omega)
       exact hall fun j hj=>this (j+1) j (Nat.lt_succ_self j) hj
     have hprer: ∀i,i∈Region.ready .any ops listed→ ∀x∈PR i,listed.getD x false=true:=by
       intro i hi x hx
       obtain ⟨h1,o,h2,h3⟩:=mem_ready.1 hi
       obtain ⟨e,he,hb,hx'⟩:=S.dep i o h2 x hx
       have hon:=h3 e he hb
       rcases hx' with rfl|hx'
       · exact hon
       · exact I.clo _ hon x hx'
     have hset: ∀i,i<ops.size→(fun j=>(listed.setIfInBounds i true).getD j false=true)=(fun j=>listed.getD j false=true∨j=i):=by
       intro i hin
       funext j
       refine propext ⟨fun h=>?_,fun h=>?_⟩
       · by_cases e:i=j
         · exact .inr e.symm
         · rw [getD_set_ne false e] at h;exact .inl h
       · rcases h with h|rfl
         · exact getD_set_true h
         · simp [Array.getD,hs,hin]
     by_cases hlate: ∃i,i∈Region.ready .any ops listed∧m≤i
     · --a register operation is taken first
       obtain ⟨i,hi,hmi⟩:=hlate
       obtain ⟨j,hjm,hjf,hjr⟩:=first
       have hin:i<ops.size:=by
         obtain ⟨_,o,h2,_⟩:=mem_ready.1 hi
         exact (Array.getElem?_eq_some_iff.1 h2).1
       have hreg:reg j=true:=by
         rcases hT i hmi hin j (by omega) with h|h
         · have:=hprer i hi j h
           rw [this] at hjf;cases hjf
         · exact h.2
       obtain ⟨h1,o,h2,h3⟩:=mem_ready.1 hjr
       have hjn:=(Array.getElem?_eq_some_iff.1 h2).1
       obtain ⟨v,hy,ω',I'⟩:=I.stepR S hm hF hjm h2 hreg (by rw [hjf];simp) (hprer j hjr)
       refine wpAny_first h2 (Region.noSelect_spec (S.sel j hjm hreg)) (fun c a w h=>hQp _ c a v w h) fuel listed a w ?_ hjr hy ?_
       · intro q oq hq hne hun hno
         refine S.apart j o hjm hreg h2 q oq hq hne (fun hqp=>?_) hno
         have hqn:=(Array.getElem?_eq_some_iff.1 hq).1
         have:=hprer j hjr q hqp
         rw [getD_eq (by omega) true false,this] at hun
         cases hun
       · refine ih _ _ _ ω' (by simpa using hs) ?_ ?_
         · have:=und_set hjn hs h1;omega
         · rw [hset j hjn];exact I'
     · refine ⟨fun hr=>?_,fun i hi=>?_⟩
       · obtain ⟨j,_,_,hjr⟩:=first
         rw [hr] at hjr
         simp at hjr
       · obtain ⟨h1,o,h2,h3⟩:=mem_ready.1 hi
         have hin:=(Array.getElem?_eq_some_iff.1 h2).1
         have hni: ¬listed.getD i false=true:=by
           rw [getD_eq (by omega) false true,h1];simp
         have him:i<m:=by
           rcases Nat.lt_or_ge i m with h|h
           · exact h
           · exact absurd ⟨i,hi,h⟩ hlate
         refine I.step hS S hm hF hG him h2 hni (hprer i hi) fun a' w' ω' I'=>ih _ a' w' ω' (by simpa using hs) ?_ ?_
         · have:=und_set hin hs h1;omega
         · rw [hset i hin]
           exact I'
end
end Go.Sy
set_option linter.unusedVariables false
set_option linter.unusedSimpArgs false
namespace Go.Sy
open Go.RowKit
def posIn (ord:List Nat) (n k:Nat):Nat:=match idx ord k with|some p=>p|none=>n
def renE (ord:List Nat) (n:Nat) (e:Edge):Edge:={e with on:=posIn ord n e.on}
def renO (ord:List Nat) (n:Nat) (o:Oper):Oper:={o with after:=⟨o.after.toList.map (renE ord n)⟩,guard:=o.guard.map fun x=>(posIn ord n x.1,x.2)}
def permL (ord:List Nat) (ops:List Oper):List Oper:=ord.filterMap fun i=>(ops[i]?).map (renO ord ops.length)
def permB (ord:List Nat) (n:Nat):Bool:=nodupB ord&&Nat.beq ord.length n&&(ord.all fun k=>Nat.blt k n)&&(List.range n).all fun k=>inL ord k
structure PermOK (ord:List Nat) (n:Nat):Prop where
  nd:ord.Nodup
  len:ord.length=n
  lt: ∀k∈ord,k<n
  all: ∀k,k<n→k∈ord
theorem permB_ok {ord:List Nat} {n:Nat} (h:permB ord n=true):PermOK ord n:=by
  unfold permB at h
  simp only [Bool.and_eq_true] at h
  obtain ⟨⟨⟨h1,h2⟩,h3⟩,h4⟩:=h
  exact ⟨nodupB_ok h1,Nat.eq_of_beq_eq_true h2,fun k hk=>Nat.le_of_ble_eq_true (List.all_eq_true.1 h3 k hk),fun k hk=>inL_iff.1 (List.all_eq_true.1 h4 k (List.mem_range.2 hk))⟩
section
variable {P:Program} {ops:Array Oper} {Q:Exit→Act→World→Prop} {ord:List Nat}
theorem PermOK.pos {n:Nat} (h:PermOK ord n) {p k:Nat} (hp:ord[p]? =some k):posIn ord n k=p:=by
  have hk:=h.lt k (List.mem_of_getElem? hp)
  unfold posIn
  cases hi:idx ord k with
  |none=>exact absurd (List.mem_of_getElem? hp) (idx_none hi)
  |some q=>
   have hq:=idx_get hi
   have hpl:=(List.getElem?_eq_some_iff.1 hp).1
   have hql:=(List.getElem?_eq_some_iff.1 hq).1
   exact (List.getElem?_inj hql h.nd).1 (hq.trans hp.symm)
theorem PermOK.out {n:Nat} (h:PermOK ord n) {k:Nat} (hk:n≤k):posIn ord n k=n:=by
  unfold posIn
  cases hi:idx ord k with
  |none=>rfl
  |some q=>have:=h.lt k (List.mem_of_getElem? (idx_get hi));omega
theorem perm_get (h:PermOK ord ops.size) {p k:Nat} (hp:ord[p]? =some k) {o:Oper} (ho:ops[k]? =some o):(permL ord ops.toList).toArray[p]? =some (renO ord ops.size o):=by
  have key: ∀(l:List Nat) (p:Nat),(∀x∈l,x<ops.size)→(l.filterMap fun i=>(ops.toList[i]?).map (renO ord ops.toList.length))[p]? =(l[p]?).bind fun k=>(ops[k]?).map (renO ord ops.size):=by
    intro l
    induction l with
    |nil=>intro p _;simp
    |cons x r ih=>
     intro p hl
     have hx:=hl x (by simp)
     have e:(ops.toList[x]?).map (renO ord ops.toList.length)=some (renO ord ops.size ops[x]):=by simp [hx]
     rw [List.filterMap_cons,e]
     cases p with
     |zero=>simp [hx]
     |succ p=>simpa using ih p fun y hy=>hl y (by simp [hy])
  rw [List.getElem?_toArray]
  unfold permL
  rw [key ord p h.lt,hp]
  simp [ho]
theorem perm_size (h:PermOK ord ops.size):(permL ord ops.toList).toArray.size=ops.size:=by
  rw [List.size_toArray]
  unfold permL
  rw [←h.len]
  have: ∀l:List Nat,(∀x∈l,x<ops.size)→(l.filterMap fun i=>(ops.toList[i]?).map (renO ord ops.toList.length)).length=l.length:=by
    intro l
    induction l with
    |nil=>intro _;rfl
    |cons x r ih=>
     intro hl
     have hx:=hl x (by simp)
     have e:(ops.toList[x]?).map (renO ord ops.toList.length)=some (renO ord ops.size ops[x]):=by simp [hx]
     rw [List.filterMap_cons,e]
     have:=ih fun y hy=>hl y (by simp [hy])
     simp only [List.length_cons,this]
  exact this ord h.lt
structure LsOK (ord:List Nat) (n:Nat) (ls ls':Array Bool):Prop where
  s:ls.size=n
  s':ls'.size=n
  eq: ∀(p k:Nat),ord[p]? =some k→ls'[p]? =ls[k]?
theorem perm_yield (h:PermOK ord ops.size) (tmps:Array Value) (j:Nat):yielded (permL ord ops.toList).toArray tmps (posIn ord ops.size j)=yielded ops tmps j:=by
  unfold yielded
  rcases Nat.lt_or_ge j ops.size with hj|hj
  · obtain ⟨p,hp⟩:=List.getElem?_of_mem (h.all j hj)
    rw [h.pos hp,perm_get h hp (Array.getElem?_eq_getElem hj),Array.getElem?_eq_getElem hj]
    rfl
  · rw [h.out hj,Array.getElem?_eq_none (by rw [perm_size h];exact Nat.le_refl _),Array.getElem?_eq_none hj]
theorem perm_wpOp (h:PermOK ord ops.size) {p k:Nat} (hp:ord[p]? =some k) {K K':Act→World→Prop} {a:Act} {w:World} (hK: ∀a w,K a w→K' a w) (hw:wpOp P (permL ord ops.toList).toArray Q p K a w):wpOp P ops Q k K' a w:=by
  have hk:=h.lt k (List.mem_of_getElem? hp)
  refine wpOp_mono hK ?_
  unfold wpOp at hw⊢
  rw [perm_get h hp (Array.getElem?_eq_getElem hk)] at hw
  rw [Array.getElem?_eq_getElem hk]
  have hwant:Region.wanted (renO ord ops.size ops[k]) (yielded (permL ord ops.toList).toArray a.tmps)=Region.wanted ops[k] (yielded ops a.tmps):=by
    unfold Region.wanted renO
    cases hg:ops[k].guard with
    |none=>rfl
    |some x=>
     obtain ⟨j,want⟩:=x
     simp only [Option.map_some]
     rw [perm_yield h]
  simp only [hwant] at hw
  exact hw
theorem perm_ready (h:PermOK ord ops.size) {ls ls':Array Bool} (hl:LsOK ord ops.size ls ls') {p k:Nat} (hp:ord[p]? =some k) (hr:k∈Region.ready .any ops ls):p∈Region.ready .any (permL ord ops.toList).toArray ls':=by
  have hk:=h.lt k (List.mem_of_getElem? hp)
  have hpl:p<ops.size:=by rw [←h.len];exact (List.getElem?_eq_some_iff.1 hp).1
  unfold Region.ready at hr⊢
  rw [List.mem_filter] at hr⊢
  refine ⟨List.mem_range.2 (by rw [perm_size h];exact hpl),?_⟩
  have h2:=hr.2
  rw [Array.getElem?_eq_getElem hk] at h2
  rw [perm_get h hp (Array.getElem?_eq_getElem hk)]
  have get: ∀d:Bool,ls'.getD p d=ls.getD k d:=fun d=>by rw [Array.getD_eq_getD_getElem?,Array.getD_eq_getD_getElem?,hl.eq p k hp]
  rw [get]
  simp only [Option.map_some,Option.getD_some,Bool.and_eq_true] at h2⊢
  refine ⟨h2.1,?_⟩
  have h3:=h2.2
  rw [Array.all_eq_true'] at h3⊢
  intro e he
  unfold renO at he
  have he:e∈ops[k].after.toList.map (renE ord ops.size):=by simpa using he
  rw [List.mem_map] at he
  obtain ⟨e0,he0,rfl⟩:=he
  have he0:e0∈ops[k].after:=by simpa using he0
  have:=h3 e0 he0
  have hb:Region.binds .any (renE ord ops.size e0)=Region.binds .any e0:=rfl
  rw [hb]
  have hon:ls'.getD (renE ord ops.size e0).on false=ls.getD e0.on false:=by
    show ls'.getD (posIn ord ops.size e0.on) false=_
    rcases Nat.lt_or_ge e0.on ops.size with hj|hj
    · obtain ⟨q,hq⟩:=List.getElem?_of_mem (h.all _ hj)
      rw [h.pos hq,Array.getD_eq_getD_getElem?,Array.getD_eq_getD_getElem?,hl.eq q _ hq]
    · rw [h.out hj,Array.getD_eq_getD_getElem?,Array.getD_eq_getD_getElem?,Array.getElem?_eq_none (by rw [hl.s'];exact Nat.le_refl _),Array.getElem?_eq_none (by rw [hl.s];exact hj)]
  rw [hon]
  exact this
theorem LsOK.set {n:Nat} (h:PermOK ord n) {ls ls':Array Bool} (hl:LsOK ord n ls ls') {p k:Nat} (hp:ord[p]? =some k):LsOK ord n (ls.setIfInBounds k true) (ls'.setIfInBounds p true):=by
  refine ⟨by simpa using hl.s,by simpa using hl.s',fun q j hq=>?_⟩
  have hpl:=(List.getElem?_eq_some_iff.1 hp).1
  have hql:=(List.getElem?_eq_some_iff.1 hq).1
  by_cases e:q=p
  · subst e
    obtain rfl:j=k:=Option.some.inj (hq.symm.trans hp)
    have h1:q<ls'.size:=by rw [hl.s',←h.len];exact hql
    have h2:j<ls.size:=by rw [hl.s];exact h.lt _ (List.mem_of_getElem? hp)
    rw [Array.getElem?_setIfInBounds_self_of_lt h1,Array.getElem?_setIfInBounds_self_of_lt h2]
  · have e2:k≠j:=fun e2=>by
      subst e2
      exact e ((List.getElem?_inj hql h.nd).1 (hq.trans hp.symm))
    rw [Array.getElem?_setIfInBounds_ne (Ne.symm e),Array.getElem?_setIfInBounds_ne e2]
    exact hl.eq q j hq
theorem wpAny_perm (h:PermOK ord ops.size): ∀(fuel:Nat) {ls ls':Array Bool} {a:Act} {w:World},LsOK ord ops.size ls ls'→wpAny P .any (permL ord ops.toList).toArray Q fuel ls' a w→wpAny P .any ops Q fuel ls a w
  |0,ls,ls',a,w,hl,⟨h1,h2⟩=>by
   refine ⟨?_,h2⟩
   apply List.eq_nil_iff_forall_not_mem.2
   intro k hk
   obtain ⟨p,hp⟩:=List.getElem?_of_mem (h.all k (by unfold Region.ready at hk;exact List.mem_range.1 (List.mem_filter.1 hk).1))
   have:=perm_ready h hl hp hk
   rw [h1] at this;cases this
  |fuel+1,ls,ls',a,w,hl,⟨h1,h2⟩=>by
   have lt: ∀{k},k∈Region.ready .any ops ls→k<ops.size:=fun hk=>by unfold Region.ready at hk;exact List.mem_range.1 (List.mem_filter.1 hk).1
   refine ⟨fun hr=>h1 ?_,fun k hk=>?_⟩
   · apply List.eq_nil_iff_forall_not_mem.2
     intro p hp
     have hpl:p<ops.size:=by unfold Region.ready at hp;have:=List.mem_range.1 (List.mem_filter.1 hp).1;rwa [perm_size h] at this
     obtain ⟨k,hk⟩: ∃k,ord[p]? =some k:=⟨ord[p]'(by rw [h.len];exact hpl),List.getElem?_eq_getElem _⟩
     have hkn:=h.lt k (List.mem_of_getElem? hk)
     have:k∈Region.ready .any ops ls:=by
       unfold Region.ready at hp⊢
       rw [List.mem_filter] at hp⊢
       refine ⟨List.mem_range.2 hkn,?_⟩
       have h3:=hp.2
       rw [perm_get h hk (Array.getElem?_eq_getElem hkn)] at h3
       rw [Array.getElem?_eq_getElem hkn]
       have get: ∀d:Bool,ls'.getD p d=ls.getD k d:=fun d=>by rw [Array.getD_eq_getD_getElem?,Array.getD_eq_getD_getElem?,hl.eq p k hk]
       rw [get] at h3
       simp only [Option.map_some,Option.getD_some,Bool.and_eq_true] at h3⊢
       refine ⟨h3.1,?_⟩
       have h4:=h3.2
       rw [Array.all_eq_true'] at h4⊢
       intro e0 he0
       have:=h4 (renE ord ops.size e0) (by unfold renO;have:renE ord ops.size e0∈ops[k].after.toList.map (renE ord ops.size):=List.mem_map.2 ⟨e0,by simpa using he0,rfl⟩;simpa using this)
       have hon:ls'.getD (renE ord ops.size e0).on false=ls.getD e0.on false:=by
         show ls'.getD (posIn ord ops.size e0.on) false=_
         rcases Nat.lt_or_ge e0.on ops.size with hj|hj
         · obtain ⟨q,hq⟩:=List.getElem?_of_mem (h.all _ hj)
           rw [h.pos hq,Array.getD_eq_getD_getElem?,Array.getD_eq_getD_getElem?,hl.eq q _ hq]
         · rw [h.out hj,Array.getD_eq_getD_getElem?,Array.getD_eq_getD_getElem?,Array.getElem?_eq_none (by rw [hl.s'];exact Nat.le_refl _),Array.getElem?_eq_none (by rw [hl.s];exact hj)]
       rw [hon] at this
       exact this
     rw [hr] at this;cases this
   · obtain ⟨p,hp⟩:=List.getElem?_of_mem (h.all k (lt hk))
     exact perm_wpOp h hp (fun a w hh=>wpAny_perm h fuel (hl.set h hp) hh) (h2 p (perm_ready h hl hp hk))
theorem ls0 {n:Nat} (h:PermOK ord n):LsOK ord n (Array.replicate n false) (Array.replicate n false):=
  ⟨by simp,by simp,fun p k hp=>by
    have hpl:p<n:=by rw [←h.len];exact (List.getElem?_eq_some_iff.1 hp).1
    have hk:=h.lt k (List.mem_of_getElem? hp)
    simp [hpl,hk]⟩
theorem perm_dst {o':Oper} (hm:o'∈permL ord ops.toList): ∃o,o∈ops.toList∧o'.dst=o.dst:=by
  unfold permL at hm
  rw [List.mem_filterMap] at hm
  obtain ⟨i,_,h⟩:=hm
  cases ho:ops.toList[i]? with
  |none=>rw [ho] at h;cases h
  |some o=>
   rw [ho] at h
   obtain rfl:=Option.some.inj h
   exact ⟨o,List.mem_of_getElem? ho,rfl⟩
end
def fEs:List Edge→(List Edge→Prop)→Prop
  | [],k=>k []
  |e::r,k=>match e with|⟨o,g⟩=>fNat o fun o=>fEs r fun r=>k (⟨o,g⟩::r)
def fG:Option (Nat×Bool)→(Option (Nat×Bool)→Prop)→Prop
  |none,k=>k none
  |some (j,b),k=>fNat j fun j=>k (some (j,b))
def fOs:List Oper→(List Oper→Prop)→Prop
  | [],k=>k []
  |o::r,k=>match o with|⟨d,op,t,p,a,g⟩=>fEs a.toList fun a=>fG g fun g=>fOs r fun r=>k (⟨d,op,t,p,⟨a⟩,g⟩::r)
theorem fEs_eq: ∀(l:List Edge) (k:List Edge→Prop),fEs l k=k l
  | [],_=>rfl
  |⟨o,g⟩::r,k=>by simp only [fEs,fNat_eq,fEs_eq r]
theorem fG_eq (g:Option (Nat×Bool)) (k:Option (Nat×Bool)→Prop):fG g k=k g:=by
  cases g with
  |none=>rfl
  |some x=>obtain ⟨j,b⟩:=x;simp only [fG,fNat_eq]
theorem fOs_eq: ∀(l:List Oper) (k:List Oper→Prop),fOs l k=k l
  | [],_=>rfl
  |⟨d,op,t,p,a,g⟩::r,k=>by simp only [fOs,fEs_eq,fG_eq,fOs_eq r]
end Go.Sy
