/-
  Sy, part 15: frames; regions in the text's order.
-/
import Derived.Test.YtbngaammbjaajaaGreatDoorYD
import Derived.Orders
set_option linter.unusedVariables false
set_option linter.unusedSimpArgs false
set_option linter.unusedVariables false
set_option linter.unusedSimpArgs false
namespace Go.Sy
open Go.RowKit
/-! ### frames -/
abbrev Fr:=List (Nat×SV)
def look:Fr->Nat->SV
  | [],_=> .aq
  |p::r,t=>match Nat.beq p.1 t with|true=>p.2|false=>look r t
theorem look_eq {d:Nat} {s:SV} {F:Fr}:look ((d,s)::F) d=s:=by
  simp[look]
theorem mz {d t:Nat} {s:SV} {F:Fr} (h:d≠t):look ((d,s)::F) t=look F t:=by
  have:Nat.beq d t=false:=by
    cases hb:Nat.beq d t
    · rfl
    · exact absurd (Nat.eq_of_beq_eq_true hb) h
  simp only[look,this]
structure cW (w:World) (o:Ow) (N:Nat) (F:Fr) (t:Array Value):Prop where
  size:t.size=N
  den: ∀(i:Nat) u,t[i]? =some u->Den w o (look F i) u
  out: ∀(i:Nat),N<=i->look F i= .aq
theorem cW.ext {w w':World} {o o':Ow} {N:Nat} {F:Fr} {t:Array Value} (h:cW w o N F t) (he:Ext w o w' o'):cW w' o' N F t:=
  ⟨h.size,λi u hu=>(h.den i u hu).ext he,h.out⟩
theorem cW.get {w:World} {o:Ow} {N:Nat} {F:Fr} {t:Array Value} (h:cW w o N F t) (i:Nat):Den w o (look F i) (t.getD i undef):=by
  rw[Array.getD_eq_getD_getElem?]
  cases hu:t[i]? with
  |none=>
   rw[h.out i (by rw[<-h.size];exact Array.getElem?_eq_none_iff.1 hu)]
   trivial
  |some u=>exact h.den i u hu
def eY (N:Nat) (F:Fr) (d:Option Nat) (s:SV):Fr:=
  match d with
  |some d=>match Nat.blt d N with|true=>(d,s)::F|false=>F
  |none=>F
theorem cW.put {w:World} {o:Ow} {N:Nat} {F:Fr} {t:Array Value} (h:cW w o N F t) {d:Nat} {s:SV} {v:Value} (hd:Den w o s v):cW w o N (eY N F (some d) s) (t.setIfInBounds d v):=by
  cases ai:Nat.blt d N with
  |true=>
   have e:eY N F (some d) s=(d,s)::F:=by simp only[eY,ai]
   rw[e]
   have ai:d<N:=Nat.le_of_ble_eq_true ai
   refine⟨by simpa using h.size,λi u hu=>?_,λi hi=>?_⟩
   · by_cases kj:d=i
     · subst kj
       rw[look_eq]
       rw[Array.getElem?_setIfInBounds_self_of_lt (by rw[h.size];exact ai)]at hu
       obtain rfl:=Option.some.inj hu
       exact hd
     · rw[mz kj]
       rw[Array.getElem?_setIfInBounds_ne kj]at hu
       exact h.den i u hu
   · rw[mz (by omega)]
     exact h.out i hi
  |false=>
   have bI:N<=d:=by
     rcases Nat.lt_or_ge d N with h'|h'
     · exact absurd (Nat.ble_eq_true_of_le h') (by unfold Nat.blt at ai;rw[ai];simp)
     · exact h'
   have e:t.setIfInBounds d v=t:=by
     rw[Array.setIfInBounds_eq_of_size_le (by rw[h.size];exact bI)]
   have e2:eY N F (some d) s=F:=by simp only[eY,ai]
   rw[e,e2];exact h
theorem cW.tell {w:World} {o:Ow} {N:Nat} {F:Fr} {t:Array Value} (h:cW w o N F t) {d:Nat} {s:SV} (ai:d<N) (hs: ∀u,t[d]? =some u->Den w o s u):cW w o N ((d,s)::F) t:=by
  refine⟨h.size,λi u hu=>?_,λi hi=>?_⟩
  · by_cases kj:d=i
    · subst kj;rw[look_eq];exact hs u hu
    · rw[mz kj];exact h.den i u hu
  · rw[mz (by omega)];exact h.out i hi
def bZ (Gl:Nat->SV) (F:Fr):Operand->SV
  | .tmp t=>look F t
  | .const (.bool b)=> .bl b
  | .const v=> .v v
  | .global g=>Gl g
  | .func f=> .fn f 0 (λ_=> .aq)
structure St (P:Program) (Gl:Nat->SV) (N:Nat) (F:Fr) (M:Mem) (a:Act) (w:World) (ω:Ow):Prop where
  frame:cW w ω N F a.tmps
  de: ∀g,Den w ω.bare (Gl g) (.pointer (some ⟨g,0,none⟩))
  mem:ay w ω M
  defers:a.defers= []
theorem Act.put_defers (a:Act) (d:Option Tmp) (v:Value):(a.put d v).defers=a.defers:=by cases d<;>rfl
def cJ (S:List Nat) (a a':Act):Prop:=a'.tmps.size=a.tmps.size/\ ∀i,i∉S->a'.tmps[i]? =a.tmps[i]?
theorem cJ.refl (S:List Nat) (a:Act):cJ S a a:=⟨rfl,λ_ _=>rfl⟩
theorem cJ.trans {S:List Nat} {a b c:Act} (h:cJ S a b) (k:cJ S b c):cJ S a c:=⟨k.1.trans h.1,λi hi=>(k.2 i hi).trans (h.2 i hi)⟩
theorem cJ.put {S:List Nat} {a b:Act} (h:cJ S a b) {d:Option Tmp} (hd: ∀t,d=some t->t∈S) (v:Value):cJ S a (b.put d v):=by
  cases d with
  |none=>exact h
  |some t=>
   refine⟨by simpa [Act.put]using h.1,λi hi=>?_⟩
   have:t≠i:=λe=>hi (e▸hd t rfl)
   simp only[Act.put,Array.getElem?_setIfInBounds_ne this]
   exact h.2 i hi
theorem cJ.mono {S S':List Nat} {a b:Act} (h:cJ S a b) (hs: ∀i∈S,i∈S'):cJ S' a b:=⟨h.1,λi hi=>h.2 i (λhn=>hi (hs i hn))⟩
section
variable {P:Program} {w:World} {ω:Ow} {Gl:Nat->SV} {Γ:Table} {N:Nat} {F:Fr} {M:Mem} {a:Act}
theorem cW.bZ (h:cW w ω N F a.tmps) (hG: ∀g,Den w ω.bare (Gl g) (.pointer (some ⟨g,0,none⟩))) (x:Operand):Den w ω (Sy.bZ Gl F x) (a.eval x):=by
  cases x with
  |tmp t=>exact h.get t
  |const v=>cases v<;>exact rfl
  |global g=>exact(hG g).up
  |func f=>exact⟨#[],rfl,rfl,λj hj=>absurd hj (by omega)⟩
theorem St.cx (h:St P Gl N F M a w ω):Cx P w ω (bZ Gl F) M a:=⟨h.frame.bZ h.de,h.mem⟩
theorem St.step (h:St P Gl N F M a w ω) {w':World} {ah:Ow} {M':Mem} (hs:aT w ω M w' ah M'):St P Gl N F M' a w' ah:=
  ⟨h.frame.ext hs.ext,λg=>Den.ext (o:=ω.bare) hs.ext.bare (h.de g),hs.mem,h.defers⟩
theorem St.put (h:St P Gl N F M a w ω) {d:Option Tmp} {s:SV} {v:Value} (hd:Den w ω s v):St P Gl N (eY N F d s) M (a.put d v) w ω where
  frame:=by
    cases d with
    |none=>exact h.frame
    |some d=>exact h.frame.put hd
  de:=h.de
  mem:=h.mem
  defers:=by rw[Act.put_defers];exact h.defers
theorem St.tell (h:St P Gl N F M a w ω) {d:Nat} {s:SV} (ai:d<N) (hs: ∀u,a.tmps[d]? =some u->Den w ω s u):St P Gl N ((d,s)::F) M a w ω:=
  {h with frame:=h.frame.tell ai hs}
theorem St.aq (h:St P Gl N F M a w ω) {t:Nat} (ht:t<N) (v:Value):St P Gl N ((t,.aq)::F) M (a.put (some t) v) w ω:=by
  have:=h.put (d:=some t) (s:= .aq) (v:=v) trivial
  have e:eY N F (some t) .aq=(t,.aq)::F:=by
    have:Nat.blt t N=true:=Nat.ble_eq_true_of_le ht
    simp only[eY,this]
  rwa [e]at this
end
/-! ### one operation -/
inductive R2 where
  |bad
  |ok (s:SV)
  |cM (p:Prop) (s:SV)
  |iM (p:Prop) (s:SV)
  |mem (p:Prop) (s:SV) (u:aC)
  |any (n:Nat) (neg:Bool)
def R.up:R->R2
  | .bad=> .bad
  | .ok s=> .ok s
  | .cM p s=> .cM p s
  | .iM p s=> .iM p s
def km:Option (Prop×SV×aC)->R2
  |some (p,s,u)=> .mem p s u
  |none=> .bad
def R2.run (r:R2) (K:SV->aC->Prop):Prop:=
  match r with
  | .bad=>False
  | .ok s=>K s []
  | .cM p s=>p/\K s []
  | .iM p s=>p->K s []
  | .mem p s u=>p/\K s u
  | .any n neg=> ∀b:Bool,(b=true->n=0)->K (.v (.bool (tR neg b))) []
def A9 (P:Program) (sg:Bool) (ρ:Operand->SV) (m:Nat->aP) (op:BinOp) (T T':TypeId) (x y:Operand):R2:=
  match A_ P op T (ρ x) (ρ y) m with
  |some q=> .any q.1 q.2
  |none=>(pK P sg ρ m (.binOp op T x y T')).up
def uy (P:Program) (sg:Bool) (Γ:Table) (ρ:Operand->SV) (m:Nat->aP) (nx:Nat) (op:Op):R2:=
  match op with
  | .box _ x=>km (BQ m nx (ρ x))
  | .alloc T=>km (AF P m nx T)
  | .store T x y=>km (AG P m nx T (ρ x) (ρ y))
  | .makeSlice T x y=>km (A' P m nx T (ρ x) (ρ y))
  | .buildSlice T len parts=>km (sH P m nx T len (parts.toList.map λp=>(p.1,ρ p.2)))
  | .call {callee:= .builtin .append,args:=⟨[x,y]⟩,argTypes:=⟨[T,T']⟩}=>match Nat.beq T T' with|true=>km (nj P m nx T (ρ x) (ρ y))|false=> .bad
  | .call {callee:= .builtin .copy,args:=⟨[x,y]⟩,argTypes:=⟨[T,T']⟩}=>match Nat.beq T T' with|true=>km (Ba P m T (ρ x) (ρ y))|false=> .bad
  | .call {callee:= .builtin .clear,args:=⟨[x]⟩,argTypes:=⟨[T]⟩}=>km (AH P m T (ρ x))
  | .call {callee:= .value f,args:=args,argTypes:=_}=>km (wY Γ ρ m nx f args.toList)
  | .call {callee:= .invoke r name,args:=args,argTypes:=_}=>km (vS P Γ ρ m nx r name args.toList)
  | .pick c x y=>(s4 (ρ c) (ρ x) (ρ y)).up
  | .binOp op T x y T'=>A9 P sg ρ m op T T' x y
  |op=>(pK P sg ρ m op).up
section
variable {P:Program} {w:World} {ω:Ow} {ρ:Operand->SV} {Gl:Nat->SV} {Γ:Table} {M:Mem} {a:Act}
inductive lU (P:Program) (w:World) (ω:Ow) (M:Mem) (a:Act) (o:Oper) (s:SV):aC->Prop where
  |pure (v:Value) (h:(execOp a.eval o).run P w= .ok (.value v) w) (hd:Den w ω s v):lU P w ω M a o s []
  |mem {u:aC} (h:lP P w ω M a o s u):lU P w ω M a o s u
  |call {u:aC} (h:tq P w ω M a o s u):lU P w ω M a o s u
theorem lU.wp {o:Oper} {s:SV} {u:aC} (hm:ay w ω M) (h:lU P w ω M a o s u) {next:Act->World->Prop} {Q:Exit->Act->World->Prop}
    (hn: ∀v w' ah,aT w ω M w' ah (u++M)->Den w' ah s v->next (a.put o.dst v) w'):o.wp P a w next Q:=by
  unfold Oper.wp
  cases h with
  |pure v h hd=>rw[h];exact hn v w ω (aT.refl hm) hd
  |mem h=>
   obtain⟨n,v,w',ah,J,U,h3,h4⟩:=h
   rw[J]
   rcases U with rfl|⟨rfl,rfl⟩
   · exact hn v w' ah h3 h4
   · exact hn _ w' ah h3 h4
  |call h=>
   obtain⟨id,vs,J,U⟩:=h
   rw[J]
   unfold oQ at U
   refine U.mono ?_
   rintro e w' ⟨v,ah,rfl,h3,h4,_⟩
   exact hn v w' ah h3 h4
theorem BR {o:Oper} {r:R} {K:SV->aC->Prop} (h: ∀{K':SV->Prop},r.run K'->dD P w ω a o K') (he:r.up.run K): ∃s u,lU P w ω M a o s u/\K s u:=by
  have:r.run (λs=>K s []):=by cases r<;>exact he
  obtain⟨s,v,J,U,h3⟩:=h this
  exact⟨s,[],.pure v J U,h3⟩
theorem lH {o:Oper} {x:Option (Prop×SV×aC)} {K:SV->aC->Prop} (h: ∀{p s u},x=some (p,s,u)->p->lU P w ω M a o s u) (he:(km x).run K): ∃s u,lU P w ω M a o s u/\K s u:=by
  cases x with
  |none=>exact he.elim
  |some x=>exact⟨_,_,h rfl he.1,he.2⟩
theorem G5 (h:Cx P w ω ρ M a) {sg:Bool} {o:Oper} {op:BinOp} {T T':TypeId} {x y:Operand} {K:SV->aC->Prop} (ho:o.op= .binOp op T x y T') (he:(A9 P sg ρ (aa M) op T T' x y).run K): ∃s v,(execOp a.eval o).run P w= .ok (.value v) w/\Den w ω s v/\K s []:=by
  unfold A9 at he
  split at he
  · next q hq=>
    obtain⟨b,J,U⟩:=O_ h ho (n:=q.1) (neg:=q.2) hq
    exact⟨.v (.bool (tR q.2 b)),_,U,rfl,he b J⟩
  · have e:(pK P sg ρ (aa M) o.op).run (λs=>K s []):=by rw[ho];revert he;cases pK P sg ρ (aa M) (.binOp op T x y T')<;>exact id
    exact oR h e
theorem Qn (hS:Sound P Gl Γ) (hG: ∀g,Den w ω.bare (Gl g) (.pointer (some ⟨g,0,none⟩))) (h:Cx P w ω ρ M a) {sg:Bool} {nx:Nat} {o:Oper} {K:SV->aC->Prop} (he:(uy P sg Γ ρ (aa M) nx o.op).run K):
    ∃s u,lU P w ω M a o s u/\K s u:=by
  unfold uy at he
  split at he
  · next T x ho=>exact lH (λe hp=> .mem (Io h ho e).rE) he
  · next T ho=>exact lH (λe hp=> .mem (FG h ho e).rE) he
  · next T x y ho=>exact lH (λe hp=> .mem (NH h ho e hp)) he
  · next T x y ho=>exact lH (λe hp=> .mem (G4 h ho e hp).rE) he
  · next T len parts ho=>exact lH (λe hp=> .mem (ML h ho e hp)) he
  · next x y T T' ho=>
    split at he
    · next ht=>
      obtain rfl:=Nat.eq_of_beq_eq_true ht
      exact lH (λe hp=> .mem (Mc h ho e hp)) he
    · exact he.elim
  · next x y T T' ho=>
    split at he
    · next ht=>
      obtain rfl:=Nat.eq_of_beq_eq_true ht
      exact lH (λe hp=> .mem (O' h ho e hp)) he
    · exact he.elim
  · next x T ho=>exact lH (λe hp=> .mem (NI h ho e hp)) he
  · next f args ts ho=>exact lH (λe hp=> .call (AD hS hG h ho e hp)) he
  · next r name args ts ho=>exact lH (λe hp=> .call (zB hS hG h ho e hp)) he
  · next c x y ho=>exact BR (λhe=>sS h ho he) he
  · next op T x y T' ho=>
    obtain⟨s,v,J,U,h3⟩:=G5 h ho he
    exact⟨s,[],.pure v J U,h3⟩
  · exact BR (λhe=>oR h he) he
end
/-! ### guards that are not decided -/
structure Hd where
  slot:Nat
  d:Nat
  want:Bool
  s:SV
def K5:Bool->Bool->Bool
  |true,true|false,false=>true
  |_,_=>false
def tt:List Hd->Nat->Option Hd
  | [],_=>none
  |h::r,t=>match Nat.beq h.slot t with|true=>some h|false=>tt r t
def dB (H:List Hd):Nat->Nat->Bool->List (Nat×Bool)
  |0,d,want=> [(d,want)]
  |n+1,d,want=>(d,want)::match tt H d with|some h=>dB H n h.d h.want|none=> []
def CH (As:List (Nat×Bool)) (d:Nat) (want:Bool):Bool:=As.any λp=>Nat.beq p.1 d&&K5 p.2 want
def ga (As:List (Nat×Bool)) (F:Fr):List Hd->Fr
  | []=>F
  |h::r=>match CH As h.d h.want with|true=>(h.slot,h.s)::ga As F r|false=>ga As F r
def hyps (F:Fr):List (Nat×Bool)->Prop->Prop
  | [],p=>p
  |(d,want)::r,p=>match look F d with| .v (.bool b)=>b=want->hyps F r p|_=>hyps F r p
def nE (H:List Hd) (d:Option Nat):Bool:=
  match d with
  |none=>true
  |some d=>H.all λh=>!Nat.beq h.d d&&!Nat.beq h.slot d
inductive Gd where
  |yes|no|bad
  |ask (d:Nat) (want:Bool)
def guardOf (N:Nat) (ops:List Oper) (F:Fr) (H:List Hd) (o:Oper):Gd:=
  match o.guard with
  |none=> .yes
  |some (j,want)=>
   match ops[j]? with
   |some oj=>
    match oj.dst with
    |some d=>
     match Nat.blt d N,tt H d,look F d with
     |true,some _,_=> .ask d want
     |true,none,.bl b=>match b,want with|true,true=> .yes|false,false=> .yes|_,_=> .no
     |true,none,.v (.bool _)=> .ask d want
     |true,none,.v (.tuple _)=> .no
     |_,_,_=> .bad
    |none=> .bad
   |none=> .bad
def AE (Gl:Nat->SV) (H:List Hd) (As:List (Nat×Bool)) (F:Fr) (c x y:Operand):R:=
  match c with
  | .tmp d=>
    match look (ga As F H) d with
    | .v (.bool b)=>
      match kn (bZ Gl (ga (dB H H.length d true++As) F H) x),kn (bZ Gl (ga (dB H H.length d false++As) F H) y)with
      |some p,some q=> .ok (.v (.bool (bif b then p else q)))
      |_,_=> .bad
    |s=>s4 s (bZ Gl (ga As F H) x) (bZ Gl (ga As F H) y)
  |_=> .bad
def jI (P:Program) (sg:Bool) (Gl:Nat->SV) (Γ:Table) (F:Fr) (M:Mem) (nx:Nat) (H:List Hd) (As:List (Nat×Bool)) (op:Op):R2:=
  match op with
  | .pick c x y=>(AE Gl H As F c x y).up
  |op=>uy P sg Γ (bZ Gl (ga As F H)) (aa M) nx op
def K6 (nx:Nat) (u:aC):Nat:=match u with| []=>nx|_::_=>nx+64
def Qo:aO->Bool
  | .row _ _ _=>true
  |_=>false
def lN (m:Nat->aP):aC->Bool
  | []=>true
  |p::r=>lN m r&&bR (ov r m) p.1&&Nat.beq p.2.rs (ov r m p.1).rs&&Nat.beq p.2.ds (ov r m p.1).ds&&(match p.2.hl with|none=>true|some _=>false)&&Qo p.2.b
theorem vq {w:World} {ω:Ow} {M:Mem} (hm:ay w ω M): ∀{u:aC},lN (aa M) u=true->aT w ω M w ω (u++M)
  | [],_=>aT.refl hm
  |(k,⟨rs,ds,hl,b⟩)::r,h=>by
   simp only[lN,Bool.and_eq_true]at h
   obtain⟨⟨⟨⟨⟨J,U⟩,h3⟩,h4⟩,h5⟩,h6⟩:=h
   have hr:=vq hm J
   rw[jA]at U h3 h4
   cases b with
   |row sz n f=>
    cases hl with
    |some _=>cases h5
    |none=>
     obtain rfl:=Nat.eq_of_beq_eq_true h3
     obtain rfl:=Nat.eq_of_beq_eq_true h4
     exact hr.trans (aT.dummy hr.mem (iV hr.mem U) sz n f)
   |dead=>cases h6
   |cells l=>cases h6
def rr:List Nat->Fr->(Fr->Prop)->Prop
  |_,[],k=>k []
  |seen,p::r,k=>match cb seen p.1 with|true=>rr seen r k|false=>dI p.1 λq=>rG p.2 λs=>rr (q::seen) r λr=>k ((q,s)::r)
theorem vK: ∀(F:Fr) (seen:List Nat) (k:Fr->Prop),rr seen F k-> ∃F',k F'/\ ∀q,cb seen q=false->look F' q=look F q
  | [],_,k,h=>⟨[],h,λ_ _=>rfl⟩
  |p::r,seen,k,h=>by
   unfold rr at h
   split at h
   · next hs=>
     obtain⟨M',J,U⟩:=vK r seen k h
     refine⟨M',J,λq hq=>?_⟩
     rw[U q hq]
     have hb:Nat.beq p.1 q=false:=by
       cases hb:Nat.beq p.1 q with
       |false=>rfl
       |true=>have e:=Nat.eq_of_beq_eq_true hb;rw[e,hq]at hs;cases hs
     simp only[look,hb]
   · next hs=>
     rw[iH,wZ]at h
     obtain⟨M',J,U⟩:=vK r _ _ h
     refine⟨_,J,λq hq=>?_⟩
     cases hb:Nat.beq p.1 q with
     |true=>simp only[look,hb]
     |false=>
      simp only[look,hb]
      refine U q ?_
      simp only[cb,hb]
      exact hq
def tP:List Hd->(List Hd->Prop)->Prop
  | [],k=>k []
  |h::r,k=>match h with|⟨a,b,c,s⟩=>dI a λa=>dI b λb=>rG s λs=>tP r λr=>k (⟨a,b,c,s⟩::r)
theorem AB: ∀(l:List Hd) (k:List Hd->Prop),tP l k=k l
  | [],_=>rfl
  |⟨a,b,c,s⟩::r,k=>by simp only[tP,iH,wZ,AB r]
def pb (F:Fr) (M:Mem) (nx:Nat) (H:List Hd) (K:Fr->Mem->Nat->List Hd->Prop):Prop:=rr [] F λF=>qX [] M λM=>dI nx λnx=>tP H λH=>K F M nx H
theorem qe {F:Fr} {M:Mem} {nx:Nat} {H:List Hd} {K:Fr->Mem->Nat->List Hd->Prop} (h:pb F M nx H K): ∃F' M',(∀t,look F' t=look F t)/\(∀k,aa M' k=aa M k)/\K F' M' nx H:=by
  obtain⟨F',J,U⟩:=vK _ _ _ h
  obtain⟨M',h3,h4⟩:=vy _ _ _ J
  rw[iH,AB]at h3
  exact⟨F',M',λt=>U t rfl,λk=>h4 k rfl,h3⟩
def iZ (P:Program) (sg:Bool) (Gl:Nat->SV) (Γ:Table) (N:Nat) (ops:List Oper) (K:Fr->Mem->Nat->Prop):List Oper->Fr->Mem->Nat->List Hd->Prop
  | [],F,M,nx,_=>K F M nx
  |o::r,F,M,nx,H=>
   match nE H o.dst,guardOf N ops F H o with
   |true,.yes=>match jI P sg Gl Γ F M nx H [] o.op with| .ok s=>iZ P sg Gl Γ N ops K r (eY N F o.dst s) M nx H|x=>x.run λs u=>pb (eY N F o.dst s) (u++M) (K6 nx u) H λF M nx H=>iZ P sg Gl Γ N ops K r F M nx H
   |true,.no=>iZ P sg Gl Γ N ops K r (eY N F o.dst (.v undef)) M nx H
   |true,.ask d want=>
    match o.dst,jI P sg Gl Γ F M nx H (dB H H.length d want) o.op with
    |some t,.ok s=>match Nat.blt t N&&!Nat.beq d t with|true=>iZ P sg Gl Γ N ops K r ((t,.aq)::F) M nx (⟨t,d,want,s⟩::H)|false=>False
    |some t,.iM _ s=>match Nat.blt t N&&!Nat.beq d t with|true=>iZ P sg Gl Γ N ops K r ((t,.aq)::F) M nx (⟨t,d,want,s⟩::H)|false=>False
    |some t,.cM p s=>match Nat.blt t N&&!Nat.beq d t with|true=>hyps (ga (dB H H.length d want) F H) (dB H H.length d want) p/\pb ((t,.aq)::F) M nx (⟨t,d,want,s⟩::H) λF M nx H=>iZ P sg Gl Γ N ops K r F M nx H|false=>False
    |some t,.mem p s u=>match Nat.blt t N&&!Nat.beq d t,lN (aa M) u with|true,true=>hyps (ga (dB H H.length d want) F H) (dB H H.length d want) p/\pb ((t,.aq)::F) (u++M) (K6 nx u) (⟨t,d,want,s⟩::H) λF M nx H=>iZ P sg Gl Γ N ops K r F M nx H|_,_=>False
    |_,_=>False
   |_,_=>False
section
variable {P:Program} {w:World} {ω:Ow} {Gl:Nat->SV} {Γ:Table} {N:Nat} {F:Fr} {M:Mem} {a:Act} {H:List Hd}
structure Tr (w:World) (ω:Ow) (N:Nat) (a:Act) (h:Hd):Prop where
  lt:h.slot<N
  yes:a.tmps[h.d]? =some (.bool h.want)-> ∀u,a.tmps[h.slot]? =some u->Den w ω h.s u
  no:a.tmps[h.d]? ≠some (.bool h.want)->a.tmps[h.slot]? =some undef
def fo (w:World) (ω:Ow) (N:Nat) (a:Act) (H:List Hd):Prop:= ∀h∈H,Tr w ω N a h
def j7 (a:Act) (As:List (Nat×Bool)):Prop:= ∀p∈As,a.tmps[p.1]? =some (.bool p.2)
theorem Et: ∀{H:List Hd} {t:Nat} {h:Hd},tt H t=some h->h∈H/\h.slot=t
  | [],_,_,e=>by cases e
  |x::r,t,h,e=>by
   unfold tt at e
   split at e
   · next hb=>
     obtain rfl:=Option.some.inj e
     exact⟨by simp,Nat.eq_of_beq_eq_true hb⟩
   · obtain⟨J,U⟩:=Et e
     exact⟨by simp[J],U⟩
theorem kK (hH:fo w ω N a H): ∀(n d:Nat) (want:Bool),a.tmps[d]? =some (.bool want)->j7 a (dB H n d want)
  |0,d,want,h=>λp hp=>by
   simp[dB]at hp;subst hp;exact h
  |n+1,d,want,h=>λp hp=>by
   simp only[dB,List.mem_cons]at hp
   rcases hp with rfl|hp
   · exact h
   · split at hp
     · next h' hf=>
       obtain⟨J,U⟩:=Et hf
       refine kK hH n h'.d h'.want ?_ p hp
       rcases Classical.em (a.tmps[h'.d]? =some (.bool h'.want))with e|e
       · exact e
       · have:=(hH h' J).no e
         rw[U,h]at this
         cases this
     · cases hp
theorem Qp {a b:Bool} (h:K5 a b=true):a=b:=by cases a<;>cases b<;>first|rfl|cases h
theorem Pa {As:List (Nat×Bool)} (hA:j7 a As) {d:Nat} {want:Bool} (h:CH As d want=true):a.tmps[d]? =some (.bool want):=by
  unfold CH at h
  rw[List.any_eq_true]at h
  obtain⟨p,hp,e⟩:=h
  rw[Bool.and_eq_true]at e
  have:=hA p hp
  rw[Nat.eq_of_beq_eq_true e.1,Qp e.2]at this
  exact this
theorem kD (hF:cW w ω N F a.tmps) {As:List (Nat×Bool)} (hA:j7 a As): ∀(H:List Hd),fo w ω N a H->cW w ω N (ga As F H) a.tmps
  | [],_=>hF
  |h::r,hH=>by
   have ih:=kD hF hA r λh' hh=>hH h' (by simp[hh])
   unfold ga
   split
   · next hi=>exact ih.tell (hH h (by simp)).lt ((hH h (by simp)).yes (Pa hA hi))
   · exact ih
theorem sT (hF:cW w ω N F a.tmps) {p:Prop}: ∀(As:List (Nat×Bool)),j7 a As->hyps F As p->p
  | [],_,h=>h
  |q::r,hA,h=>by
   have ih:=sT hF (p:=p) r λx hx=>hA x (by simp[hx])
   unfold hyps at h
   split at h
   · next b hb=>
     have J:=hA q (by simp)
     have U:=hF.den _ _ J
     rw[hb]at U
     have h3:(q.2:Bool)=b:=by cases U;rfl
     exact ih (h h3.symm)
   · exact ih h
theorem E1 (hF:cW w ω N F a.tmps) {d:Nat} {s:SV} (h:look F d=s) (hs:s≠ .aq): ∃u,a.tmps[d]? =some u/\Den w ω s u:=by
  rcases Nat.lt_or_ge d a.tmps.size with hd|hd
  · exact⟨a.tmps[d],by simp[hd],by rw[<-h];exact hF.den d _ (by simp[hd])⟩
  · exact absurd (h.symm.trans (hF.out d (by rw[<-hF.size];exact hd))) hs
theorem j7.append {As Bs:List (Nat×Bool)} (h:j7 a As) (k:j7 a Bs):j7 a (As++Bs):=λp hp=>(List.mem_append.1 hp).elim (h p) (k p)
inductive tS (ops:Array Oper) (a:Act) (o:Oper):Gd->Prop where
  |yes (h:Region.wanted o (yielded ops a.tmps)=true):tS ops a o .yes
  |no (h:Region.wanted o (yielded ops a.tmps)=false):tS ops a o .no
  |ask (d:Nat) (want:Bool) (h:Region.wanted o (yielded ops a.tmps)=true↔a.tmps[d]? =some (.bool want)):tS ops a o (.ask d want)
  |bad:tS ops a o .bad
theorem zX {ops:Array Oper} (hF:cW w ω N F a.tmps) (H:List Hd) (o:Oper):tS ops a o (guardOf N ops.toList F H o):=by
  have get: ∀(d:Nat),d<N-> ∃x,a.tmps[d]? =some x/\Den w ω (look F d) x:=by
    intro d hd
    have:d<a.tmps.size:=by rw[hF.size];exact hd
    exact⟨a.tmps[d],by simp[this],hF.den d _ (by simp[this])⟩
  have wanted: ∀{j:Nat} {want:Bool} {oj:Oper} {d:Nat},o.guard=some (j,want)->ops.toList[j]? =some oj->oj.dst=some d->
   (Region.wanted o (yielded ops a.tmps)=true↔a.tmps[d]? =some (.bool want)):=by
    intro j want oj d hg hj hd
    have gZ:ops[j]? =some oj:=by simpa using hj
    simp only[Region.wanted,hg,yielded,gZ,Option.bind_some,hd]
    cases hx:a.tmps[d]? with
    |none=>simp
    |some x=>cases x<;>simp
  have Kv: ∀{d:Nat} {want:Bool},(Region.wanted o (yielded ops a.tmps)=true↔a.tmps[d]? =some (.bool want))-> ∀{x:Value},a.tmps[d]? =some x->x≠ .bool want->Region.wanted o (yielded ops a.tmps)=false:=by
    intro d want h x hx bq
    cases hw:Region.wanted o (yielded ops a.tmps)with
    |false=>rfl
    |true=>exact absurd (Option.some.inj (hx.symm.trans (h.1 hw))) bq
  unfold guardOf
  split
  · next hg=>exact .yes (by simp[Region.wanted,hg])
  · next j want hg=>
    split
    · next oj hj=>
      split
      · next d hd=>
        have hw:=wanted hg hj hd
        split
        · exact .ask d want hw
        · next b ai _ hs=>
          obtain⟨x,J,U⟩:=get d (Nat.le_of_ble_eq_true ai)
          rw[hs]at U
          obtain rfl:=U
          split
          · exact .yes (hw.2 J)
          · exact .yes (hw.2 J)
          · next g1 g2=>
            refine .no (Kv hw J ?_)
            cases b<;>cases want<;>first|(exact absurd rfl (g1 rfl))|(exact absurd rfl (g2 rfl))|simp
        · exact .ask d want hw
        · next l ai _ hs=>
          obtain⟨x,J,U⟩:=get d (Nat.le_of_ble_eq_true ai)
          rw[hs]at U
          obtain rfl:=U
          exact .no (Kv hw J (by simp))
        · exact .bad
      · exact .bad
    · exact .bad
theorem NJ {t:Nat} (h:nE H (some t)=true): ∀x∈H,x.d≠t/\x.slot≠t:=by
  intro x hx
  simp only[nE,List.all_eq_true]at h
  have:=h x hx
  simp only[Bool.and_eq_true,Bool.not_eq_true']at this
  refine⟨λe=>?_,λe=>?_⟩
  · have J:=this.1;rw[e,Nat.beq_refl]at J;cases J
  · have J:=this.2;rw[e,Nat.beq_refl]at J;cases J
theorem fo.put (hH:fo w ω N a H) {d:Option Tmp} (hf:nE H d=true) (v:Value):fo w ω N (a.put d v) H:=by
  cases d with
  |none=>exact hH
  |some t=>
   intro x hx
   obtain⟨J,U⟩:=NJ hf x hx
   have e1:(a.put (some t) v).tmps[x.d]? =a.tmps[x.d]? :=by simp only[Act.put,Array.getElem?_setIfInBounds_ne (Ne.symm J)]
   have e2:(a.put (some t) v).tmps[x.slot]? =a.tmps[x.slot]? :=by simp only[Act.put,Array.getElem?_setIfInBounds_ne (Ne.symm U)]
   exact⟨(hH x hx).lt,λh=>by rw[e2];exact(hH x hx).yes (by rw[<-e1];exact h),λh=>by rw[e2];exact(hH x hx).no (by rw[<-e1];exact h)⟩
theorem fo.ext (hH:fo w ω N a H) {w':World} {ah:Ow} (he:Ext w ω w' ah):fo w' ah N a H:=
  λx hx=>⟨(hH x hx).lt,λh u hu=>((hH x hx).yes h u hu).ext he,(hH x hx).no⟩
theorem fo.cons (hH:fo w ω N a H) {t d:Nat} {want:Bool} {s:SV} (hf:nE H (some t)=true) (hN:a.tmps.size=N) (ht:t<N) (hd:d≠t) {v:Value}
    (J:a.tmps[d]? =some (.bool want)->Den w ω s v) (U:a.tmps[d]? ≠some (.bool want)->v=undef):fo w ω N (a.put (some t) v) (⟨t,d,want,s⟩::H):=by
  intro x hx
  rcases List.mem_cons.1 hx with rfl|hx
  · have e1:(a.put (some t) v).tmps[d]? =a.tmps[d]? :=by simp only[Act.put,Array.getElem?_setIfInBounds_ne (Ne.symm hd)]
    have e2:(a.put (some t) v).tmps[t]? =some v:=by simp only[Act.put];rw[Array.getElem?_setIfInBounds_self_of_lt (by rw[hN];exact ht)]
    refine⟨ht,λh u hu=>?_,λh=>?_⟩
    · simp only[e1]at h
      simp only[e2]at hu
      obtain rfl:=Option.some.inj hu
      exact J h
    · simp only[e1]at h
      show(a.put (some t) v).tmps[t]? =_
      rw[e2,U h]
  · exact hH.put hf v x hx
theorem MM:Den w ω (.v undef) undef:=rfl
theorem AI (hS:Sound P Gl Γ) (h:St P Gl N F M a w ω) (hH:fo w ω N a H) {sg:Bool} {nx:Nat} {As:List (Nat×Bool)} (hA:j7 a As) {o:Oper} {K:SV->aC->Prop} (he:(jI P sg Gl Γ F M nx H As o.op).run K):
    ∃s u,lU P w ω M a o s u/\K s u:=by
  have gl: ∀{As},j7 a As->Cx P w ω (bZ Gl (ga As F H)) M a:=λhA=>⟨(kD h.frame hA H hH).bZ h.de,h.mem⟩
  unfold jI at he
  split at he
  · next c x y ho=>
    refine BR ?_ he
    clear he
    intro K' he
    unfold AE at he
    split at he
    · next d=>
      split at he
      · next b hb=>
        split at he
        · next p r hp hr=>
          obtain⟨u,hu,hd⟩:=E1 (kD h.frame hA H hH) hb (by simp)
          obtain rfl:=hd
          have ec:a.eval (.tmp d)= .bool b:=by
            simp only[Act.eval,Array.getD_eq_getD_getElem?,hu];rfl
          refine⟨.v (.bool (bif b then p else r)),.bool (bif b then p else r),?_,rfl,he⟩
          cases b with
          |true=>
           have m0:=(kK hH H.length d true hu).append hA
           have ex:=iX hp ((gl m0).val x)
           simp[execOp,ho,ec,asBool,ex]
          |false=>
           have m0:=(kK hH H.length d false hu).append hA
           have ey:=iX hr ((gl m0).val y)
           simp[execOp,ho,ec,asBool,ey]
        · exact he.elim
      · exact sS (gl hA) ho he
    · exact he.elim
  · exact Qn hS h.de (gl hA) he
def tM (P:Program) (Gl:Nat->SV) (N:Nat) (S:List Nat) (a0:Act) (w1:World) (bC:Ow) (K:Fr->Mem->Nat->Prop) (a:Act) (w:World):Prop:=
  ∃ω F M nx,St P Gl N F M a w ω/\Ext w1 bC w ω/\cJ S a0 a/\K F M nx
theorem St.congr (h:St P Gl N F M a w ω) {F':Fr} {M':Mem} (hF: ∀t,look F' t=look F t) (hM: ∀k,aa M' k=aa M k):St P Gl N F' M' a w ω:=
  ⟨⟨h.frame.size,λi u hu=>by rw[hF];exact h.frame.den i u hu,λi hi=>by rw[hF];exact h.frame.out i hi⟩,h.de,h.mem.congr hM,h.defers⟩
theorem mw (hS:Sound P Gl Γ) {sg:Bool} {ops:Array Oper} {Q:Exit->Act->World->Prop} {K:Fr->Mem->Nat->Prop} {S:List Nat} {a0:Act} {w1:World} {bC:Ow}
    (hQ: ∀a w,tM P Gl N S a0 w1 bC K a w->Q .normal a w):
    ∀(r:List Oper) (F:Fr) (M:Mem) (nx:Nat) (H:List Hd) (a:Act) (w:World) (ω:Ow),(∀o∈r,∀t,o.dst=some t->t∈S)->St P Gl N F M a w ω->fo w ω N a H->Ext w1 bC w ω->cJ S a0 a->
     iZ P sg Gl Γ N ops.toList K r F M nx H->wpList P ops Q r a w
  | [],F,M,nx,H,a,w,ω,_,h,_,hg,hk,he=>hQ a w ⟨ω,F,M,nx,h,hg,hk,he⟩
  |o::r,F,M,nx,H,a,w,ω,hd,h,hH,hg,hk,he=>by
   have uD: ∀t,o.dst=some t->t∈S:=hd o (by simp)
   have uE: ∀o∈r,∀t,o.dst=some t->t∈S:=λo ho=>hd o (by simp[ho])
   have iC:=zX (ops:=ops) h.frame H o
   unfold iZ at he
   split at he
   · next cS g_=>
     rw[g_]at iC
     cases iC with
     |yes hw=>
      unfold wpList
      rw[if_pos hw]
      refine .inl ?_
      split at he
      · next s0 heq=>
        obtain⟨s,u,fU,rfl,rfl⟩:=AI hS h hH (As:= []) (K:=λs u=>s=s0/\u= []) (λp hp=>by cases hp) (by rw[heq];exact⟨rfl,rfl⟩)
        refine fU.wp h.mem ?_
        intro v w' ah bc jc
        exact mw hS hQ r _ _ _ H _ w' ah uE ((h.step bc).put jc) ((hH.ext bc.ext).put cS v) (hg.trans bc.ext) (hk.put uD v) he
      · obtain⟨s,u,fU,xq⟩:=AI hS h hH (λp hp=>by cases hp) he
        refine fU.wp h.mem ?_
        intro v w' ah bc jc
        obtain⟨F',M',hF,hM,hc⟩:=qe xq
        exact mw hS hQ r _ _ _ H _ w' ah uE (((h.step bc).put jc).congr hF hM) ((hH.ext bc.ext).put cS v) (hg.trans bc.ext) (hk.put uD v) hc
   · next cS g_=>
     rw[g_]at iC
     cases iC with
     |no hw=>
      unfold wpList
      rw[if_neg (by rw[hw];exact Bool.false_ne_true)]
      exact mw hS hQ r _ M _ H _ w ω uE (h.put MM) (hH.put cS undef) hg (hk.put uD undef) he
   · next d want cS g_=>
     rw[g_]at iC
     cases iC with
     |ask _ _ hw=>
      have key: ∃t s u cH F' M',o.dst=some t/\t<N/\d≠t/\lN (aa M) u=true/\(a.tmps[d]? =some (.bool want)->(jI P sg Gl Γ F M nx H (dB H H.length d want) o.op).run (λs' u'=>s'=s/\u'=u))/\
       (∀q,look F' q=look ((t,.aq)::F) q)/\(∀q,aa M' q=aa (u++M) q)/\iZ P sg Gl Γ N ops.toList K r F' M' cH (⟨t,d,want,s⟩::H):=by
        have hC: ∀{t:Nat},(Nat.blt t N&&!Nat.beq d t)=true->t<N/\d≠t:=by
          intro t ht
          rw[Bool.and_eq_true,Bool.not_eq_true']at ht
          exact⟨Nat.le_of_ble_eq_true ht.1,λe=>by rw[e,Nat.beq_refl]at ht;cases ht.2⟩
        split at he
        · next t s dE hr=>
          split at he
          · next hc=>exact⟨t,s,[],nx,_,_,dE,(hC hc).1,(hC hc).2,rfl,λ_=>by rw[hr];exact⟨rfl,rfl⟩,λ_=>rfl,λ_=>rfl,he⟩
          · exact he.elim
        · next t p s dE hr=>
          split at he
          · next hc=>exact⟨t,s,[],nx,_,_,dE,(hC hc).1,(hC hc).2,rfl,λ_=>by rw[hr];exactλ_=>⟨rfl,rfl⟩,λ_=>rfl,λ_=>rfl,he⟩
          · exact he.elim
        · next t p s dE hr=>
          split at he
          · next hc=>
            obtain⟨F',M',hF,hM,Dl⟩:=qe he.2
            refine⟨t,s,[],nx,F',M',dE,(hC hc).1,(hC hc).2,rfl,λfJ=>?_,hF,hM,Dl⟩
            rw[hr]
            have hA:=kK hH H.length d want fJ
            exact⟨sT (kD h.frame hA H hH) _ hA he.1,rfl,rfl⟩
          · exact he.elim
        · next t p s u dE hr=>
          split at he
          · next hc hu=>
            obtain⟨F',M',hF,hM,Dl⟩:=qe he.2
            refine⟨t,s,u,_,F',M',dE,(hC hc).1,(hC hc).2,hu,λfJ=>?_,hF,hM,Dl⟩
            rw[hr]
            have hA:=kK hH H.length d want fJ
            exact⟨sT (kD h.frame hA H hH) _ hA he.1,rfl,rfl⟩
          · exact he.elim
        · exact he.elim
      obtain⟨t,s,u,cH,F',M',dE,ht,yP,hu,eI,hF,hM,xq⟩:=key
      rw[dE]at cS
      by_cases fJ:a.tmps[d]? =some (.bool want)
      · unfold wpList
        rw[if_pos (hw.2 fJ)]
        obtain⟨s',u',fU,rfl,rfl⟩:=AI hS h hH (kK hH H.length d want fJ) (eI fJ)
        refine .inl (fU.wp h.mem ?_)
        intro v w' ah hs jc
        have bc:=(h.step hs).aq ht v
        have Dm:=(hH.ext hs.ext).cons (t:=t) (d:=d) (want:=want) (s:=s') cS h.frame.size ht yP (v:=v) (λ_=>jc) (λhn=>absurd fJ hn)
        have uF:=hk.put uD v
        rw[dE]at uF⊢
        exact mw hS hQ r _ _ _ _ _ w' ah uE (bc.congr hF hM) Dm (hg.trans hs.ext) uF xq
      · have Dg:Region.wanted o (yielded ops a.tmps)=false:=by
          cases hx:Region.wanted o (yielded ops a.tmps)with
          |false=>rfl
          |true=>exact absurd (hw.1 hx) fJ
        unfold wpList
        rw[if_neg (by rw[Dg];exact Bool.false_ne_true)]
        have bc:=(h.step (vq h.mem hu)).aq ht undef
        have Dm:=hH.cons (t:=t) (d:=d) (want:=want) (s:=s) cS h.frame.size ht yP (v:=undef) (λhn=>absurd hn fJ) (λ_=>rfl)
        have uF:=hk.put uD undef
        rw[dE]at uF⊢
        exact mw hS hQ r _ _ _ _ _ w ω uE (bc.congr hF hM) Dm hg uF xq
   · exact he.elim
end
end Go.Sy
set_option linter.unusedVariables false
set_option linter.unusedSimpArgs false
namespace Go.Sy
open Go.RowKit
def d_ (m:Nat->aP) (κ:List Nat):Nat->Nat->Path->Option (Nat×Nat):=λk s p=>
  match p with
  |none=>j8 m κ k s none
  |some _=>none
def jL:Nat->(Nat->Prop)->Prop
  |0,_=>True
  |n+1,p=>jL n p/\p n
theorem iW: ∀{n:Nat} {p:Nat->Prop},jL n p-> ∀j,j<n->p j
  |0,_,_,_,h=>absurd h (by omega)
  |n+1,p,⟨J,U⟩,j,h=>by
   rcases Nat.lt_or_ge j n with h'|h'
   · exact iW J j h'
   · obtain rfl:j=n:=by omega
     exact U
def uz (x y:Value):Prop:=
  match x,y with
  | .int k a,.int k' b=>match oS k k' with|true=>a=b|false=>False
  | .string a,.string b=>a=b
  | .bool a,.bool b=>a=b
  |x,y=>x=y
theorem A8 {x y:Value} (h:uz x y):x=y:=by
  unfold uz at h
  split at h
  · split at h
    · next hk=>rw[su hk,h]
    · exact h.elim
  · rw[h]
  · rw[h]
  · exact h
def BP:Path->Path->Bool
  |none,none=>true
  |some (i,j),some (i',j')=>Nat.beq i i'&&Nat.beq j j'
  |_,_=>false
theorem NF {p q:Path} (h:BP p q=true):p=q:=by
  cases p with
  |none=>cases q<;>first|rfl|cases h
  |some x=>
   cases q with
   |none=>cases h
   |some y=>
    simp only[BP,Bool.and_eq_true]at h
    rw[Prod.ext (Nat.eq_of_beq_eq_true h.1) (Nat.eq_of_beq_eq_true h.2)]
def qB:Bool->Bool->Bool
  |true,false=>false
  |_,_=>true
def Di (t tf:Nat) (e z:Int):SV->Prop
  | .v .nilIface=>e=0/\z= -1
  | .v (.iface t' (.int .i64 c))=>match Nat.beq t' t with|true=>c≠0/\e=c/\z= -1|false=>False
  | .er t' Dj e' z'=>match Nat.beq t' t,Nat.beq Dj tf with|true,true=>e'=e/\z'=z|_,_=>False
  | .ic t' (.pt false n f)=>
    match Nat.beq t' tf,Nat.ble 2 n,f 0,f 1 with
    |true,true,.v (.int .i64 a),.v (.iface t2 (.int .i64 c))=>(match Nat.beq t2 t with|true=>c≠0/\0<=a/\e=c/\z=a|false=>False)
    |true,true,.v (.int .i64 a),.er t2 _ c b=>(match Nat.beq t2 t with|true=>c≠0/\b= -1/\0<=a/\e=c/\z=a|false=>False)
    |_,_,_,_=>False
  |_=>False
theorem jx {w:World} {o:Ow} {t tf:Nat} {e z:Int} {a:SV} {u:Value} (h:Di t tf e z a) (hd:Den w o a u):Den w o (.er t tf e z) u:=by
  unfold Di at h
  split at h
  · exact .inl ⟨h.1,h.2,hd⟩
  · split at h
    · next hb=>obtain rfl:=Nat.eq_of_beq_eq_true hb;exact .inr (.inl ⟨by rw[h.2.1];exact h.1,h.2.2,by rw[h.2.1];exact hd⟩)
    · exact h.elim
  · split at h
    · next J U=>rw[<-Nat.eq_of_beq_eq_true J,<-Nat.eq_of_beq_eq_true U,<-h.1,<-h.2];exact hd
    · exact h.elim
  · split at h
    · next hb hn h0 J=>
      split at h
      · next eE=>
        obtain rfl:=Nat.eq_of_beq_eq_true hb
        obtain rfl:=Nat.eq_of_beq_eq_true eE
        have hn:=Nat.le_of_ble_eq_true hn
        obtain⟨hc,ha,rfl,rfl⟩:=h
        obtain⟨x,rfl,q,rfl,hj⟩:=hd
        obtain⟨x0,c0,n0,d0⟩:=hj 0 (by omega)
        obtain⟨x1,c1,_,d1⟩:=hj 1 (by omega)
        rw[h0]at d0
        rw[J]at d1
        obtain rfl:=d0
        obtain rfl:=d1
        exact .inr (.inr ⟨hc,ha,q,rfl,n0.1,n0.2 rfl,c0,c1⟩)
      · exact h.elim
    · next hb hn h0 J=>
      split at h
      · next eE=>
        obtain rfl:=Nat.eq_of_beq_eq_true hb
        obtain rfl:=Nat.eq_of_beq_eq_true eE
        have hn:=Nat.le_of_ble_eq_true hn
        obtain⟨hc,Uj,ha,rfl,rfl⟩:=h
        obtain⟨x,rfl,q,rfl,hj⟩:=hd
        obtain⟨x0,c0,n0,d0⟩:=hj 0 (by omega)
        obtain⟨x1,c1,_,d1⟩:=hj 1 (by omega)
        rw[h0]at d0
        rw[J]at d1
        obtain rfl:=d0
        rcases d1 with⟨g,_⟩|⟨_,_,rfl⟩|⟨_,g,_⟩
        · exact absurd g hc
        · exact .inr (.inr ⟨hc,ha,q,rfl,n0.1,n0.2 rfl,c0,c1⟩)
        · omega
      · exact h.elim
    · exact h.elim
  · exact h.elim
def dz (a b:SV):Prop:=
  match b with
  | .aq=>True
  | .er t tf e z=>Di t tf e z a
  |b=>
   match a with
   | .v x=>(match b with| .v y=>uz x y| .bl y=>uz x (.bool y)| .sl _ _ n _=>(match x with| .slice none 0 0=>n=0|_=>False)|_=>False)
   | .bl x=>(match b with| .v y=>uz (.bool x) y| .bl y=>x=y|_=>False)
   | .aw k s p e n=>(match b with| .aw k' s' p' e' n'=>(match Nat.beq k k',Nat.beq s s',BP p p' with|true,true,true=>e=e'/\n=n'|_,_,_=>False)|_=>False)
   | .ag n f=>(match b with| .ag n' f'=>(match Nat.beq n n' with|true=>jL n' λj=>dz (f j) (f' j)|false=>False)|_=>False)
   | .tp n f=>(match b with| .tp n' f'=>(match Nat.beq n n' with|true=>jL n' λj=>dz (f j) (f' j)|false=>False)|_=>False)
   | .pt q n f=>(match b with| .pt q' n' f'=>(match Nat.ble n' n,qB q q' with|true,true=>jL n' λj=>dz (f j) (f' j)|_,_=>False)|_=>False)
   | .ic t s=>(match b with| .ic t' s'=>(match Nat.beq t t' with|true=>dz s s'|false=>False)|_=>False)
   | .sl q sz n f=>(match b with| .sl q' eO n' f'=>(match Nat.beq sz eO,qB q q' with|true,true=>n=n'/\ ∀i,i<n'->jL eO λj=>dz (f i j) (f' i j)|_,_=>False)|_=>False)
   | .fn id n f=>(match b with| .fn uA n' f'=>(match Nat.beq id uA,Nat.beq n n' with|true,true=>jL n' λj=>dz (f j) (f' j)|_,_=>False)|_=>False)
   | .bm id s=>(match b with| .bm uA s'=>(match Nat.beq id uA with|true=>dz s s'|false=>False)|_=>False)
   | .pa q sz n f=>(match b with| .pa q' eO n' f'=>(match Nat.beq sz eO,qB q q' with|true,true=>n=n'/\ ∀i,i<n'->jL eO λj=>dz (f i j) (f' i j)|_,_=>False)|_=>False)
   | .es=>(match b with| .es=>True| .sl _ _ n _=>n=0|_=>False)
   |a=>a=b
theorem oH {w:World} {a:SV}: ∀{b:SV} {o:Ow} {u:Value},dz a b->Den w o a u->Den w o b u:=by
  induction a with
  |v x=>
   intro b o u h hd
   cases b<;>first|trivial|exact jx h hd|exact h.elim|skip
   · obtain rfl:=A8 h;exact hd
   · have:=A8 h;subst this;exact hd
   · next q sz n f=>
     simp only[dz]at h
     split at h
     · subst h
       have hd:u= .slice none 0 0:=hd
       subst hd
       exact⟨none,0,rfl,Nat.le_refl _,Nat.zero_le _,.inl rfl⟩
     · exact h.elim
  |bl x=>
   intro b o u h hd
   cases b<;>first|trivial|exact jx h hd|exact h.elim|skip
   · obtain rfl:=A8 h;exact hd
   · have h:_=_:=h;subst h;exact hd
  |es=>
   intro b o u h hd
   obtain⟨p,rfl⟩:=hd
   cases b<;>first|trivial|exact jx h ⟨p,rfl⟩|exact h.elim|skip
   · have h:_=0:=h
     subst h
     exact⟨p,0,rfl,Nat.le_refl _,Nat.zero_le _,.inl rfl⟩
   · exact⟨p,rfl⟩
  |aw k s p e n=>
   intro b o u h hd
   cases b<;>first|trivial|exact jx h hd|exact h.elim|skip
   simp only[dz]at h
   split at h
   · next J U h3=>rw[<-Nat.eq_of_beq_eq_true J,<-Nat.eq_of_beq_eq_true U,<-NF h3,<-h.1,<-h.2];exact hd
   · exact h.elim
  |pt q n f ih=>
   intro b o u h hd
   cases b<;>first|trivial|exact jx h hd|exact h.elim|skip
   next q' n' f'=>
   simp only[dz]at h
   split at h
   · next J U=>
     have J:=Nat.le_of_ble_eq_true J
     obtain⟨a,rfl,hj⟩:=hd
     refine⟨a,rfl,λj aS=>?_⟩
     obtain⟨x,hc,hf,hx⟩:=hj j (by omega)
     have hq:q'=false->q=false:=λe=>by subst e;cases q<;>first|rfl|cases U
     exact⟨x,hc,⟨hf.1,λe=>hf.2 (hq e)⟩,ih j (iW h j aS) hx⟩
   · exact h.elim
  |ag n f ih=>
   intro b o u h hd
   cases b<;>first|trivial|exact jx h hd|exact h.elim|skip
   simp only[dz]at h
   split at h
   · next J=>
     obtain rfl:=Nat.eq_of_beq_eq_true J
     obtain⟨cs,rfl,hs,hj⟩:=hd
     exact⟨cs,rfl,hs,λj aS=>let⟨x,e1,e2⟩:=hj j aS;⟨x,e1,ih j (iW h j aS) e2⟩⟩
   · exact h.elim
  |tp n f ih=>
   intro b o u h hd
   cases b<;>first|trivial|exact jx h hd|exact h.elim|skip
   simp only[dz]at h
   split at h
   · next J=>
     obtain rfl:=Nat.eq_of_beq_eq_true J
     obtain⟨cs,rfl,hs,hj⟩:=hd
     exact⟨cs,rfl,hs,λj aS=>let⟨x,e1,e2⟩:=hj j aS;⟨x,e1,ih j (iW h j aS) e2⟩⟩
   · exact h.elim
  |fn id n f ih=>
   intro b o u h hd
   cases b<;>first|trivial|exact jx h hd|exact h.elim|skip
   simp only[dz]at h
   split at h
   · next h0 J=>
     obtain rfl:=Nat.eq_of_beq_eq_true h0
     obtain rfl:=Nat.eq_of_beq_eq_true J
     obtain⟨cs,rfl,hs,hj⟩:=hd
     exact⟨cs,rfl,hs,λj aS=>let⟨x,e1,e2⟩:=hj j aS;⟨x,e1,ih j (iW h j aS) e2⟩⟩
   · exact h.elim
  |bm id s ih=>
   intro b o u h hd
   cases b<;>first|trivial|exact jx h hd|exact h.elim|skip
   simp only[dz]at h
   split at h
   · next J=>
     obtain rfl:=Nat.eq_of_beq_eq_true J
     obtain⟨x,rfl,hx⟩:=hd
     exact⟨x,rfl,ih h hx⟩
   · exact h.elim
  |pa q sz n f ih=>
   intro b o u h hd
   cases b<;>first|trivial|exact jx h hd|exact h.elim|skip
   next q' eO n' f'=>
   simp only[dz]at h
   split at h
   · next J U=>
     obtain rfl:=Nat.eq_of_beq_eq_true J
     obtain⟨rfl,h⟩:=h
     obtain⟨a,rfl,hk⟩:=hd
     refine⟨a,rfl,λi hi j aS=>?_⟩
     obtain⟨x,hc,hf,hx⟩:=hk i hi j aS
     have hq:q'=false->q=false:=λe=>by subst e;cases q<;>first|rfl|cases U
     exact⟨x,hc,⟨hf.1,λe=>hf.2 (hq e)⟩,ih i j (iW (h i hi) j aS) hx⟩
   · exact h.elim
  |ic t s ih=>
   intro b o u h hd
   cases b<;>first|trivial|exact jx h hd|exact h.elim|skip
   simp only[dz]at h
   split at h
   · next J=>
     obtain rfl:=Nat.eq_of_beq_eq_true J
     obtain⟨x,rfl,hx⟩:=hd
     exact⟨x,rfl,ih h hx⟩
   · exact h.elim
  |sl q sz n f ih=>
   intro b o u h hd
   cases b<;>first|trivial|exact jx h hd|exact h.elim|skip
   next q' eO n' f'=>
   simp only[dz]at h
   split at h
   · next J U=>
     obtain rfl:=Nat.eq_of_beq_eq_true J
     obtain⟨rfl,h⟩:=h
     obtain⟨p,cap,rfl,gy,fK,hj⟩:=hd
     refine⟨p,cap,rfl,gy,fK,hj.imp id ?_⟩
     rintro ⟨a,e,hk⟩
     refine⟨a,e,λi hi j aS=>?_⟩
     obtain⟨x,hc,hf,hx⟩:=hk i hi j aS
     have hq:q'=false->q=false:=λe=>by subst e;cases q<;>first|rfl|cases U
     exact⟨x,hc,⟨hf.1,λe=>hf.2 (hq e)⟩,ih i j (iW (h i hi) j aS) hx⟩
   · exact h.elim
  |_=>intro b o u h hd;cases b<;>first|trivial|exact jx h hd|(have h:_=_:=h;cases h;exact hd)|(have h:_=_:=h;cases h)
theorem Qm {a b:SV} (h:dz a b) (hb:bY b=true):a=b:=by
  cases b with
  |il sz n f=>cases a<;>first|exact h.elim|exact h
  |_=>cases hb
def rD:SV->SV->Prop
  | .il sz n f,.il eO n' f'=>match Nat.beq sz eO with|true=>n=n'/\ ∀a,a<n'->jL eO λb=>dz (f a b) (f' a b)|false=>False
  | .il _ _ _,_=>False
  |a,b=>dz a b
def uC:aO->aO->Prop
  | .cells l,.cells l'=>match Nat.beq l.length l'.length with|true=>jL l'.length λj=>rD (aA l j) (aA l' j)|false=>False
  | .row sz n f,.row eO n' f'=>match Nat.beq sz eO with|true=>n=n'/\ ∀i,i<n'->jL eO λj=>rD (f i j) (f' i j)|false=>False
  |_,_=>False
def kg:List aO->List aO->Prop
  | [],[]=>True
  |a::r,b::t=>uC a b/\kg r t
  |_,_=>False
theorem wz: ∀{l l':List aO},kg l l'->l.length=l'.length
  | [],[],_=>rfl
  |_::_,_::_,⟨_,h⟩=>by simp[wz h]
  | [],_::_,h=>h.elim
  |_::_,[],h=>h.elim
theorem wB: ∀{l l':List aO},kg l l'-> ∀{q:Nat} {a b:aO},l[q]? =some a->l'[q]? =some b->uC a b
  | [],_,_,_,_,_,h,_=>by simp at h
  |_::_,_::_,⟨J,_⟩,0,a,b,ha,hb=>by simp at ha hb;subst ha;subst hb;exact J
  |_::_,_::_,⟨_,U⟩,q+1,a,b,ha,hb=>wB U (by simpa using ha) (by simpa using hb)
  |_::_,[],h,_,_,_,_,_=>h.elim
def lO:aO->Nat->Nat->Bool
  | .row sz n _,i,j=>Nat.blt i n&&Nat.blt j sz
  |_,_,_=>true
def dk (ω:Ow) (κ:List Nat) (B:List aO):Ow:=
  let β:Nat->Path->Option Loc:=λq p=>
    match κ[q]? with
    |some k=>(match p with|none=>ω.β k none|some ij=>match lO (B.getD q .dead) ij.1 ij.2 with|true=>ω.β k (some ij)|false=>none)
    |none=>none
  ⟨ω.A,ω.Z,β,λ_=>(0,0)⟩
section
variable {P:Program} {w:World} {ω:Ow} {M:Mem}
theorem qC {κ:List Nat} {B:List aO} {q:Nat} {p:Path} {L:Loc} (h:(dk ω κ B).β q p=some L): ∃k,κ[q]? =some k/\ω.β k p=some L/\ ∀i j,p=some (i,j)->lO (B.getD q .dead) i j=true:=by
  simp only[dk]at h
  split at h
  · next k hk=>
    cases p with
    |none=>exact⟨k,hk,h,λ_ _ e=>by cases e⟩
    |some ij=>
     simp only at h
     split at h
     · next hr=>exact⟨k,hk,h,λi j e=>by obtain rfl:=Option.some.inj e;exact hr⟩
     · cases h
  · cases h
theorem vw {κ:List Nat} {B:List aO} {q k:Nat} (hk:κ[q]? =some k):(dk ω κ B).β q none=ω.β k none:=by
  show(match κ[q]? with
    |some k=>_
    |none=>none)=_
  rw[hk]
theorem zy {κ:List Nat} {B:List aO} {q k i j:Nat} (hk:κ[q]? =some k) (hr:lO (B.getD q .dead) i j=true):(dk ω κ B).β q (some (i,j))=ω.β k (some (i,j)):=by
  show(match κ[q]? with
    |some k=>(match lO (B.getD q .dead) i j with|true=>ω.β k (some (i,j))|false=>none)
    |none=>none)=_
  rw[hk]
  simp only[hr]
theorem NG (hm:ay w ω M) (κ:List Nat) (B:List aO):nH ω (dk ω κ B) (d_ (aa M) κ):=by
  intro k s p k' s' h
  unfold d_ at h
  split at h
  · unfold j8 at h
    split at h
    · next q hq=>
      split at h
      · next aZ=>
        simp only[Option.some.injEq,Prod.mk.injEq]at h
        obtain⟨rfl,rfl⟩:=h
        exact⟨gP hm aZ,rfl,vw (jw hq)⟩
      · cases h
    · cases h
  · cases h
theorem sk (κ:List Nat) (B:List aO):Ext w ω.bare w (dk ω κ B).bare:=
  ⟨rfl,rfl,rfl,λ_ _ _=>rfl,λ_ _ h=>h,λ_ _ _ h=>h,Nat.le_refl _,λ_=>⟨Nat.le_refl _,Nat.le_refl _⟩,λ_ _ _ h=>(by cases h),λ_ h=>h⟩
theorem O9 (κ:List Nat) (B:List aO):tQ false w ω (dk ω κ B):=λ_ _ _ _ J U=>⟨J,U⟩
theorem sA (hm:ay w ω M) (κ:List Nat) (B:List aO) {s:SV} {x:Value} (h:Den w ω s x):Den w (dk ω κ B) (cD (d_ (aa M) κ) false s) x:=
  vR (NG hm κ B) (λ_=>sk κ B) (O9 κ B) h
theorem Ip {sz n:Nat} {f:Nat->Nat->SV} {b:SV} (h:rD (.il sz n f) b): ∃f',b= .il sz n f'/\ ∀i,i<n-> ∀j,j<sz->dz (f i j) (f' i j):=by
  cases b with
  |il eO n' f'=>
   simp only[rD]at h
   split at h
   · next hs=>
     obtain rfl:=Nat.eq_of_beq_eq_true hs
     obtain⟨rfl,h⟩:=h
     exact⟨f',rfl,λi hi j hj=>iW (h i hi) j hj⟩
   · exact h.elim
  |_=>exact h.elim
theorem FJ {k i j:Nat} {a b:SV} {x:Value} (h:rD a b) (hc:bW w ω none k i j a x):bW w ω none k i j b x:=by
  cases cu:bY a with
  |true=>
   cases a with
   |il sz n f=>obtain⟨f',rfl,_⟩:=Ip h;exact hc
   |_=>cases cu
  |false=>
   have h':dz a b:=by cases a<;>first|exact h|cases cu
   rw[dO cu]at hc
   cases hb:bY b with
   |true=>rw[Qm h' hb,hb]at cu;cases cu
   |false=>rw[dO hb];exact oH h' hc
theorem GW (hm:ay w ω M) {κ:List Nat} {B:List aO} (n4:κ.Nodup) (hw: ∀k∈κ,whole (aa M k)=true)
    (ha:kg (κ.map λk=>gw (d_ (aa M) κ) false (aa M k).b) B):ay w (dk ω κ B) (cF 0 B):=by
  have lT: ∀{q k:Nat},κ[q]? =some k-> ∃b,B[q]? =some b/\B.getD q .dead=b/\uC (gw (d_ (aa M) κ) false (aa M k).b) b:=by
    intro q k hk
    have hl:=wz ha
    rw[List.length_map]at hl
    have hq:=(List.getElem?_eq_some_iff.1 hk).1
    have hb:B[q]? =some B[q]:=List.getElem?_eq_getElem (by omega)
    refine⟨B[q],hb,by rw[List.getD_eq_getElem?_getD,hb];rfl,wB ha (a:=gw (d_ (aa M) κ) false (aa M k).b) (by rw[List.getElem?_map,hk];rfl) hb⟩
  have ju: ∀{s:SV} {x:Value},Den w ω s x->Den w (dk ω κ B) (cD (d_ (aa M) κ) false s) x:=λh=>sA hm κ B h
  refine⟨(vC _).symm,?_,hm.dg,hm.dj,hm.ed,?_,?_,?_,?_,?_⟩
  · rintro b ⟨q,p,L,h,rfl⟩
    obtain⟨k,_,U,_⟩:=qC h
    exact hm.own _ ⟨k,p,L,U,rfl⟩
  · intro q p L q' p' L' J U e
    obtain⟨k,e1,e2,_⟩:=qC J
    obtain⟨k',e3,e4,_⟩:=qC U
    obtain⟨rfl,rfl⟩:=hm.inj _ _ _ _ _ _ e2 e4 e
    have:=(sG n4 e1).symm.trans (sG n4 e3)
    exact⟨Option.some.inj this,rfl⟩
  · intro q p L h
    obtain⟨k,_,U,_⟩:=qC h
    exact hm.low _ _ _ U
  · intro q p L h
    obtain⟨k,e1,e2,e3⟩:=qC h
    obtain⟨b,hb,Dk,eL⟩:=lT e1
    have gW:=FK (hw k (List.mem_of_getElem? e1))
    obtain⟨r,g1,g2,g3,c,T,g4,g5,g6,g7⟩:=hm.row _ _ _ e2
    rw[gW]at g7
    have he:aa (cF 0 B) q=⟨0,0,none,b⟩:=by rw[jX,hb]
    rw[Dk]at e3
    unfold rowAt at g1⊢
    rw[he]
    have fin: ∀{r':Row},dP b p=some r'->r'.sz=r.sz->r'.n=r.n->(∀i,i<r.n-> ∀j,j<r.sz-> ∀x,fx w ω none k p i j (r.f i j) x->fx w (dk ω κ B) none q p i j (r'.f i j) x)->
     ∃r',dP b p=some r'/\r'.sz=L.sz/\r'.n=L.db/\kR w (dk ω κ B) none q p L r':=by
      intro r' f1 f2 f3 f4
      refine⟨r',f1,f2.trans g2,f3.trans g3,c,T,g4,g5,g6,λi hi j hj=>?_⟩
      obtain⟨x,x1,x2⟩:=g7 i hi j hj
      exact⟨x,x1,f4 i (by rw[g3];exact hi) j (by rw[g2];exact hj) x x2⟩
    cases kh:(aa M k).b with
    |dead=>exact absurd kh (G6 (hw k (List.mem_of_getElem? e1)))
    |cells l=>
     rw[kh]at eL g1
     cases p with
     |some ij=>cases g1
     |none=>
      obtain rfl:=Option.some.inj g1
      cases b with
      |dead=>exact eL.elim
      |row _ _ _=>exact eL.elim
      |cells l'=>
       simp only[gw,uC,List.length_map]at eL
       split at eL
       · next hlen=>
         have hlen:=Nat.eq_of_beq_eq_true hlen
         refine fin (r':=⟨l'.length,1,λ_ j=>aA l' j⟩) rfl hlen.symm rfl ?_
         intro i hi j hj x hx
         have hj:j<l.length:=hj
         have hi:i<1:=hi
         have yQ:i=0:=by omega
         subst yQ
         have hx:bW w ω none k 0 j (aA l j) x:=hx
         have hq:=iW eL j (by omega)
         have di:aA (l.map λs=>cD (d_ (aa M) κ) false s) j=cD (d_ (aa M) κ) false (aA l j):=by simp[aA,List.getD_eq_getElem?_getD,hj]
         rw[di]at hq
         show bW w (dk ω κ B) none q 0 j (aA l' j) x
         exact FJ hq (vr ju (zy e1 (by rw[Dk];rfl)) hx)
       · exact eL.elim
    |row sz n f=>
     rw[kh]at eL g1
     cases b with
     |dead=>exact eL.elim
     |cells _=>exact eL.elim
     |row eO n' f'=>
      simp only[gw,uC]at eL
      split at eL
      · next bu=>
        obtain rfl:=Nat.eq_of_beq_eq_true bu
        obtain⟨rfl,eL⟩:=eL
        cases p with
        |none=>
         obtain rfl:=Option.some.inj g1
         refine fin (r':=⟨sz,n,f'⟩) rfl rfl rfl ?_
         intro i hi j hj x hx
         have hc:=iW (eL i hi) j hj
         have bo:lO (B.getD q .dead) i j=true:=by
           rw[Dk]
           simp only[lO,Bool.and_eq_true]
           exact⟨Nat.ble_eq_true_of_le hi,Nat.ble_eq_true_of_le hj⟩
         have hx:bW w ω none k i j (f i j) x:=hx
         have cK:=vr (d:=false) ju (zy (B:=B) e1 bo) hx
         show bW w (dk ω κ B) none q i j (f' i j) x
         exact FJ hc cK
        |some ij=>
         obtain⟨i,j⟩:=ij
         have bo:=e3 i j rfl
         simp only[lO,Bool.and_eq_true]at bo
         have hi:i<n:=Nat.le_of_ble_eq_true bo.1
         have hj:j<sz:=Nat.le_of_ble_eq_true bo.2
         have hc:=iW (eL i hi) j hj
         have g1:inner ⟨sz,n,f⟩ i j=some r:=g1
         unfold inner at g1
         split at g1
         · next aR n2 g hg=>
           obtain rfl:=Option.some.inj g1
           have hg:f i j= .il aR n2 g:=hg
           rw[hg]at hc
           obtain⟨g',e,Uk⟩:=Ip (show rD (.il aR n2 λa b=>cD (d_ (aa M) κ) false (g a b)) (f' i j)from hc)
           refine fin (r':=⟨aR,n2,g'⟩) ?_ rfl rfl ?_
           · show inner ⟨sz,n,f'⟩ i j=_
             unfold inner
             simp only[e]
           · intro a ha b hb x hx
             have hx:Den w ω (g a b) x:=hx
             show Den w (dk ω κ B) (g' a b) x
             exact oH (Uk a ha b hb) (ju hx)
         · cases g1
      · exact eL.elim
  · intro q l hl
    rw[jX]at hl
    cases hb:B[q]? with
    |none=>rw[hb]at hl;cases hl
    |some b=>
     rw[hb]at hl
     have hl:b= .cells l:=hl
     have hlen:=wz ha
     rw[List.length_map]at hlen
     have hq:=(List.getElem?_eq_some_iff.1 hb).1
     have hk:κ[q]? =some κ[q]:=List.getElem?_eq_getElem (by omega)
     obtain⟨b',dc,_,eL⟩:=lT hk
     obtain rfl:b=b':=Option.some.inj (hb.symm.trans dc)
     subst hl
     rw[vw hk]
     cases kh:(aa M κ[q]).b with
     |dead=>rw[kh]at eL;exact eL.elim
     |row _ _ _=>rw[kh]at eL;exact eL.elim
     |cells l0=>exact hm.live _ _ kh
  · intro q i j h
    rw[jX]at h
    split at h<;>cases h
end
end Go.Sy
set_option linter.unusedVariables false
set_option linter.unusedSimpArgs false
namespace Go.Sy
open Go.RowKit
structure Rc where
  fs:List (Nat×SV)
  hs:List Hd
  u:aC
def yN:aC->(aC->Prop)->Prop
  | [],k=>k []
  |p::r,k=>dI p.1 λa=>xV p.2 λb=>yN r λr=>k ((a,b)::r)
theorem Il: ∀(l:aC) (k:aC->Prop),yN l k=k l
  | [],_=>rfl
  |s::r,k=>by simp only[yN,iH,G3,Il r]
def Df (x:Rc) (k:Rc->Prop):Prop:=match x with|⟨fs,hs,u⟩=>yO fs λfs=>tP hs λhs=>yN u λu=>k ⟨fs,hs,u⟩
theorem Ql (x:Rc) (k:Rc->Prop):Df x k=k x:=by cases x;simp only[Df,Im,AB,Il]
def q_:List Rc->(List Rc->Prop)->Prop
  | [],k=>k []
  |p::r,k=>Df p λa=>q_ r λr=>k (a::r)
theorem G1: ∀(l:List Rc) (k:List Rc->Prop),q_ l k=k l
  | [],_=>rfl
  |s::r,k=>by simp only[q_,Ql,G1 r]
def bO (rs:List Rc) (j:Nat):Rc:=rs.getD j ⟨[],[],[]⟩
def vF (rs:List Rc) (F:Fr) (E:List Nat):Fr:=E.flatMap (λj=>(bO rs j).fs)++F
def vM (rs:List Rc) (M:Mem) (E:List Nat):Mem:=E.flatMap (λj=>(bO rs j).u)++M
def vH (rs:List Rc) (E:List Nat):List Hd:=E.flatMap λj=>(bO rs j).hs
def xp:Op->Bool
  | .store _ _ _=>true
  | .call {callee:= .builtin .copy,args:=_,argTypes:=_}=>true
  | .call {callee:= .builtin .clear,args:=_,argTypes:=_}=>true
  |_=>false
def fC (N:Nat) (d:Option Nat) (s:SV):List (Nat×SV):=match d with|some t=>(match Nat.blt t N with|true=> [(t,s)]|false=> [])|none=> []
def mG (P:Program) (sg:Bool) (Gl:Nat->SV) (Γ:Table) (N:Nat) (ops:List Oper) (V:Fr) (M:Mem) (H:List Hd) (nx:Nat) (pr:List Nat) (o:Oper):Option (Prop×Rc):=
  match nE H o.dst,guardOf N ops V H o,xp o.op with
  |true,.yes,false=>
   match jI P sg Gl Γ V M nx H [] o.op with
   | .ok s=>some (True,⟨fC N o.dst s,[],[]⟩)
   | .iM _ s=>some (True,⟨fC N o.dst s,[],[]⟩)
   | .cM p s=>some (p,⟨fC N o.dst s,[],[]⟩)
   | .mem p s u=>match gR (aa M) u&&kG (aa M) u with|true=>some (p,⟨fC N o.dst s,[],u⟩)|false=>none
   | .any _ _=>none
   | .bad=>none
  |true,.no,_=>some (True,⟨fC N o.dst (.v undef),[],[]⟩)
  |true,.ask d want,false=>
   match o.dst,jI P sg Gl Γ V M nx H (dB H H.length d want) o.op with
   |some t,.ok s=>match Nat.blt t N&&!Nat.beq d t with|true=>some (True,⟨[(t,.aq)],[⟨t,d,want,s⟩],[]⟩)|false=>none
   |some t,.iM _ s=>match Nat.blt t N&&!Nat.beq d t with|true=>some (True,⟨[(t,.aq)],[⟨t,d,want,s⟩],[]⟩)|false=>none
   |some t,.cM p s=>match Nat.blt t N&&!Nat.beq d t with|true=>some (hyps (ga (dB H H.length d want) V H) (dB H H.length d want) p,⟨[(t,.aq)],[⟨t,d,want,s⟩],[]⟩)|false=>none
   |some t,.mem p s u=>match Nat.blt t N&&!Nat.beq d t,lN (aa M) u&&(gR (aa M) u&&kG (aa M) u)with|true,true=>some (hyps (ga (dB H H.length d want) V H) (dB H H.length d want) p,⟨[(t,.aq)],[⟨t,d,want,s⟩],u⟩)|_,_=>none
   |_,_=>none
  |_,_,_=>none
section
variable {P:Program} {w:World} {ω:Ow} {ρ:Operand->SV} {Gl:Nat->SV} {Γ:Table} {N:Nat} {F:Fr} {M:Mem} {a:Act} {H:List Hd}
theorem gD.refl (w:World) (ω:Ow):gD w ω w ω (λk=>k∈([]:aC).map (·.1)):=⟨Cw.refl w,λ_ h=>h,rfl,λ_ _ _=>rfl,λk p L hk=>by simp at hk,rfl⟩
inductive lp (P:Program) (w:World) (ω:Ow) (M:Mem) (a:Act) (o:Oper) (s:SV):aC->Prop where
  |pure (v:Value) (h:(execOp a.eval o).run P w= .ok (.value v) w) (hd:Den w ω s v):lp P w ω M a o s []
  |mem {u:aC} (h:jK P w ω M a o s u):lp P w ω M a o s u
  |call {u:aC} (h:tq P w ω M a o s u):lp P w ω M a o s u
  |app {u:aC} (h:kG (aa M) u=true->gR (aa M) u=true->jK P w ω M a o s u):lp P w ω M a o s u
theorem lp.wp {o:Oper} {s:SV} {u:aC} (hm:ay w ω M) (h:lp P w ω M a o s u) (hf:(gR (aa M) u&&kG (aa M) u)=true) {next:Act->World->Prop} {Q:Exit->Act->World->Prop}
    (hn: ∀v w' ah,aT w ω M w' ah (u++M)->gD w ω w' ah (λk=>k∈u.map (·.1))->Den w' ah s v->next (a.put o.dst v) w'):o.wp P a w next Q:=by
  rw[Bool.and_eq_true]at hf
  obtain⟨hf,uw⟩:=hf
  unfold Oper.wp
  cases h with
  |pure v h hd=>rw[h];exact hn v w ω (aT.refl hm) (gD.refl _ _) hd
  |app h=>
   obtain⟨n,v,w',ah,J,U,h3,h4,h5⟩:=h uw hf
   rw[J]
   rcases U with rfl|⟨rfl,rfl⟩
   · exact hn v w' ah h3 h5 h4
   · exact hn _ w' ah h3 h5 h4
  |mem h=>
   obtain⟨n,v,w',ah,J,U,h3,h4,h5⟩:=h
   rw[J]
   rcases U with rfl|⟨rfl,rfl⟩
   · exact hn v w' ah h3 h5 h4
   · exact hn _ w' ah h3 h5 h4
  |call h=>
   obtain⟨id,vs,J,U⟩:=h
   rw[J]
   unfold oQ at U
   refine U.mono ?_
   rintro e w' ⟨v,ah,rfl,h3,h4,h5,_⟩
   exact hn v w' ah h3 (h5 hf) h4
theorem A7 {o:Oper} {r:R} {K:SV->aC->Prop} (h: ∀{K':SV->Prop},r.run K'->dD P w ω a o K') (he:r.up.run K): ∃s u,lp P w ω M a o s u/\K s u:=by
  have:r.run (λs=>K s []):=by cases r<;>exact he
  obtain⟨s,v,J,U,h3⟩:=h this
  exact⟨s,[],.pure v J U,h3⟩
theorem oJ {o:Oper} {x:Option (Prop×SV×aC)} {K:SV->aC->Prop} (h: ∀{p s u},x=some (p,s,u)->p->lp P w ω M a o s u) (he:(km x).run K): ∃s u,lp P w ω M a o s u/\K s u:=by
  cases x with
  |none=>exact he.elim
  |some x=>exact⟨_,_,h rfl he.1,he.2⟩
theorem O8 (hS:Sound P Gl Γ) (hG: ∀g,Den w ω.bare (Gl g) (.pointer (some ⟨g,0,none⟩))) (h:Cx P w ω ρ M a) {sg:Bool} {nx:Nat} {o:Oper} (hq:xp o.op=false) {K:SV->aC->Prop} (he:(uy P sg Γ ρ (aa M) nx o.op).run K):
    ∃s u,lp P w ω M a o s u/\K s u:=by
  unfold uy at he
  split at he
  · next T x ho=>exact oJ (λe hp=> .mem (Io h ho e)) he
  · next T ho=>exact oJ (λe hp=> .mem (FG h ho e)) he
  · next T x y ho=>rw[ho]at hq;cases hq
  · next T x y ho=>exact oJ (λe hp=> .mem (G4 h ho e hp)) he
  · next T len parts ho=>exact oJ (λe hp=> .app λJ _=>Mb h ho e J) he
  · next x y T T' ho=>
    split at he
    · next ht=>
      obtain rfl:=Nat.eq_of_beq_eq_true ht
      exact oJ (λe hp=> .app λJ U=>LH h ho e hp J U) he
    · exact he.elim
  · next x y T T' ho=>rw[ho]at hq;cases hq
  · next x T ho=>rw[ho]at hq;cases hq
  · next f args ts ho=>exact oJ (λe hp=> .call (AD hS hG h ho e hp)) he
  · next r name args ts ho=>exact oJ (λe hp=> .call (zB hS hG h ho e hp)) he
  · next c x y ho=>exact A7 (λhe=>sS h ho he) he
  · next op T x y T' ho=>
    obtain⟨s,v,J,U,h3⟩:=G5 h ho he
    exact⟨s,[],.pure v J U,h3⟩
  · exact A7 (λhe=>oR h he) he
theorem FH (hS:Sound P Gl Γ) (h:St P Gl N F M a w ω) (hH:fo w ω N a H) {sg:Bool} {nx:Nat} {As:List (Nat×Bool)} (hA:j7 a As) {o:Oper} (hq:xp o.op=false) {K:SV->aC->Prop} (he:(jI P sg Gl Γ F M nx H As o.op).run K):
    ∃s u,lp P w ω M a o s u/\K s u:=by
  have gl: ∀{As},j7 a As->Cx P w ω (bZ Gl (ga As F H)) M a:=λhA=>⟨(kD h.frame hA H hH).bZ h.de,h.mem⟩
  unfold jI at he
  split at he
  · next c x y ho=>
    refine A7 ?_ he
    clear he
    intro K' he
    unfold AE at he
    split at he
    · next d=>
      split at he
      · next b hb=>
        split at he
        · next p r hp hr=>
          obtain⟨u,hu,hd⟩:=E1 (kD h.frame hA H hH) hb (by simp)
          obtain rfl:=hd
          have ec:a.eval (.tmp d)= .bool b:=by
            simp only[Act.eval,Array.getD_eq_getD_getElem?,hu];rfl
          refine⟨.v (.bool (bif b then p else r)),.bool (bif b then p else r),?_,rfl,he⟩
          cases b with
          |true=>
           have m0:=(kK hH H.length d true hu).append hA
           have ex:=iX hp ((gl m0).val x)
           simp[execOp,ho,ec,asBool,ex]
          |false=>
           have m0:=(kK hH H.length d false hu).append hA
           have ey:=iX hr ((gl m0).val y)
           simp[execOp,ho,ec,asBool,ey]
        · exact he.elim
      · exact sS (gl hA) ho he
    · exact he.elim
  · exact O8 hS h.de (gl hA) hq he
theorem E2 (hm:ay w ω M): ∀{u:aC},lN (aa M) u=true-> ∀k∈u.map (·.1),∀p,ω.β k p=none
  | [],_,k,hk,_=>by simp at hk
  |(k0,e)::r,h,k,hk,p=>by
   simp only[lN,Bool.and_eq_true]at h
   obtain⟨⟨⟨⟨⟨J,U⟩,h3⟩,h4⟩,h5⟩,h6⟩:=h
   rw[jA]at U
   simp only[List.map_cons,List.mem_cons]at hk
   rcases hk with rfl|hk
   · exact(iV (vq hm J).mem U).2.2 p
   · exact E2 hm J k hk p
theorem ND {u:aC} (hm:ay w ω M) (h:lN (aa M) u=true):gD w ω w ω (λk=>k∈u.map (·.1)):=
  ⟨Cw.refl w,λ_ h=>h,rfl,λ_ _ _=>rfl,(λk p L hk hb=>absurd hb (by rw[E2 hm h k hk p];exactλe=>by cases e)),rfl⟩
def tm (w:World) (ω:Ow) (N:Nat) (a:Act) (rc:Rc):Prop:=(∀p∈rc.fs,∀u,a.tmps[p.1]? =some u->Den w ω p.2 u)/\fo w ω N a rc.hs
theorem vo {d:Option Nat} {s:SV} {v:Value} (hd:Den w ω s v): ∀p∈fC N d s,∀u,(a.put d v).tmps[p.1]? =some u->Den w ω p.2 u:=by
  intro p hp u hu
  unfold fC at hp
  split at hp
  · next t=>
    split at hp
    · simp only[List.mem_singleton]at hp
      subst hp
      simp only[Act.put]at hu
      rw[Array.getElem?_setIfInBounds_self]at hu
      split at hu
      · obtain rfl:=Option.some.inj hu;exact hd
      · cases hu
    · simp at hp
  · simp at hp
theorem To (hS:Sound P Gl Γ) {sg:Bool} {ops:Array Oper} {Q:Exit->Act->World->Prop} {nx i:Nat} {pr:List Nat} {o:Oper} {p:Prop} {rc:Rc} (ho:ops[i]? =some o) (h:St P Gl N F M a w ω) (hH:fo w ω N a H)
    (he:mG P sg Gl Γ N ops.toList F M H nx pr o=some (p,rc)) (hp:p) {K:Act->World->Prop}
    (hK: ∀v w' ah,aT w ω M w' ah (rc.u++M)->gD w ω w' ah (λk=>k∈rc.u.map (·.1))->tm w' ah N (a.put o.dst v) rc->K (a.put o.dst v) w'):wpOp P ops Q i K a w:=by
  have iC:=zX (ops:=ops) h.frame H o
  unfold wpOp
  rw[ho]
  simp only
  unfold mG at he
  split at he
  · next cS g_ hq=>
    rw[g_]at iC
    cases iC with
    |yes hw=>
     rw[if_pos hw]
     left
     have key: ∃s u,rc=⟨fC N o.dst s,[],u⟩/\(gR (aa M) u&&kG (aa M) u)=true/\(jI P sg Gl Γ F M nx H [] o.op).run (λs' u'=>s'=s/\u'=u):=by
       split at he
       · next s hr=>
         simp only[Option.some.injEq,Prod.mk.injEq]at he
         exact⟨s,[],he.2.symm,rfl,by rw[hr];exact⟨rfl,rfl⟩⟩
       · next s hr=>
         simp only[Option.some.injEq,Prod.mk.injEq]at he
         exact⟨s,[],he.2.symm,rfl,by rw[hr];exactλ_=>⟨rfl,rfl⟩⟩
       · next s hr=>
         simp only[Option.some.injEq,Prod.mk.injEq]at he
         exact⟨s,[],he.2.symm,rfl,by rw[hr];exact⟨by rw[he.1];exact hp,rfl,rfl⟩⟩
       · next s u hr=>
         split at he
         · next hf=>
           simp only[Option.some.injEq,Prod.mk.injEq]at he
           exact⟨s,u,he.2.symm,hf,by rw[hr];exact⟨by rw[he.1];exact hp,rfl,rfl⟩⟩
         · cases he
       · cases he
       · cases he
     obtain⟨s,u,rfl,hf,eI⟩:=key
     obtain⟨s',u',fU,rfl,rfl⟩:=FH hS h hH (λp hp=>by cases hp) hq eI
     exact fU.wp h.mem hf λv w' ah J U h3=>hK v w' ah J U ⟨vo h3,λx hx=>by cases hx⟩
  · next cS g_=>
    rw[g_]at iC
    cases iC with
    |no hw=>
     rw[if_neg (by rw[hw];exact Bool.false_ne_true)]
     simp only[Option.some.injEq,Prod.mk.injEq]at he
     obtain⟨_,rfl⟩:=he
     exact hK undef w ω (aT.refl h.mem) (gD.refl _ _) ⟨vo rfl,λx hx=>by cases hx⟩
  · next d want cS g_ hq=>
    rw[g_]at iC
    cases iC with
    |ask _ _ hw=>
     have hC: ∀{t:Nat},(Nat.blt t N&&!Nat.beq d t)=true->t<N/\d≠t:=by
       intro t ht
       rw[Bool.and_eq_true,Bool.not_eq_true']at ht
       exact⟨Nat.le_of_ble_eq_true ht.1,λe=>by rw[e,Nat.beq_refl]at ht;cases ht.2⟩
     have key: ∃t s u,o.dst=some t/\t<N/\d≠t/\rc=⟨[(t,.aq)],[⟨t,d,want,s⟩],u⟩/\(lN (aa M) u&&(gR (aa M) u&&kG (aa M) u))=true/\(a.tmps[d]? =some (.bool want)->(jI P sg Gl Γ F M nx H (dB H H.length d want) o.op).run (λs' u'=>s'=s/\u'=u)):=by
       split at he
       · next t s dE hr=>
         split at he
         · next hc=>
           simp only[Option.some.injEq,Prod.mk.injEq]at he
           exact⟨t,s,[],dE,(hC hc).1,(hC hc).2,he.2.symm,rfl,λ_=>by rw[hr];exact⟨rfl,rfl⟩⟩
         · cases he
       · next t _ s dE hr=>
         split at he
         · next hc=>
           simp only[Option.some.injEq,Prod.mk.injEq]at he
           exact⟨t,s,[],dE,(hC hc).1,(hC hc).2,he.2.symm,rfl,λ_=>by rw[hr];exactλ_=>⟨rfl,rfl⟩⟩
         · cases he
       · next t p' s dE hr=>
         split at he
         · next hc=>
           simp only[Option.some.injEq,Prod.mk.injEq]at he
           refine⟨t,s,[],dE,(hC hc).1,(hC hc).2,he.2.symm,rfl,λfJ=>?_⟩
           rw[hr]
           have hA:=kK hH H.length d want fJ
           exact⟨sT (kD h.frame hA H hH) _ hA (by rw[he.1];exact hp),rfl,rfl⟩
         · cases he
       · next t p' s u dE hr=>
         split at he
         · next hc hu=>
           simp only[Option.some.injEq,Prod.mk.injEq]at he
           refine⟨t,s,u,dE,(hC hc).1,(hC hc).2,he.2.symm,hu,λfJ=>?_⟩
           rw[hr]
           have hA:=kK hH H.length d want fJ
           exact⟨sT (kD h.frame hA H hH) _ hA (by rw[he.1];exact hp),rfl,rfl⟩
         · cases he
       · cases he
     obtain⟨t,s,u,dE,ht,yP,rfl,K2,eI⟩:=key
     rw[Bool.and_eq_true]at K2
     obtain⟨K3,uu⟩:=K2
     rw[dE]at cS
     have facts: ∀{v:Value} {w':World} {ah:Ow},(a.tmps[d]? =some (.bool want)->Den w' ah s v)->(a.tmps[d]? ≠some (.bool want)->v=undef)->tm w' ah N (a.put (some t) v) ⟨[(t,.aq)],[⟨t,d,want,s⟩],u⟩:=by
       intro v w' ah g1 g2
       refine⟨λp hp u hu=>?_,?_⟩
       · simp only[List.mem_singleton]at hp
         subst hp
         trivial
       · exact fo.cons (H:= []) (w:=w') (ω:=ah) (λx hx=>by cases hx) (by rfl) h.frame.size ht yP g1 g2
     by_cases fJ:a.tmps[d]? =some (.bool want)
     · rw[if_pos (hw.2 fJ)]
       left
       obtain⟨s',u',fU,rfl,rfl⟩:=FH hS h hH (kK hH H.length d want fJ) hq (eI fJ)
       refine fU.wp h.mem uu λv w' ah J U h3=>hK v w' ah J U ?_
       rw[dE]
       exact facts (λ_=>h3) (λhn=>absurd fJ hn)
     · have Dg:Region.wanted o (yielded ops a.tmps)=false:=by
         cases hx:Region.wanted o (yielded ops a.tmps)with
         |false=>rfl
         |true=>exact absurd (hw.1 hx) fJ
       rw[if_neg (by rw[Dg];exact Bool.false_ne_true)]
       refine hK undef w ω (vq h.mem K3) (ND h.mem K3) ?_
       rw[dE]
       exact facts (λhn=>absurd hn fJ) (λ_=>rfl)
  · cases he
/-! ### register operations -/
def isVal:SV->Bool
  | .v _=>true
  | .bl _=>true
  |_=>false
def JN:SV->SV
  | .v x=> .v x
  | .bl b=> .bl b
  |_=> .aq
def mI (V:Fr):Fr:=V.map λp=>(p.1,JN p.2)
theorem Es: ∀(V:Fr) (t:Nat),look (mI V) t=JN (look V t)
  | [],_=>rfl
  |p::r,t=>by
   simp only[mI,List.map_cons,look]
   cases Nat.beq p.1 t
   · exact Es r t
   · rfl
def qN:R->R
  | .ok s=>match isVal s with|true=> .ok s|false=> .bad
  | .cM p s=>match isVal s with|true=> .cM p s|false=> .bad
  | .iM p s=>match isVal s with|true=> .iM p s|false=> .bad
  | .bad=> .bad
theorem E3 {r:R} {K:SV->Prop} (h:(qN r).run K):r.run (λs=>isVal s=true/\K s):=by
  cases r with
  |bad=>exact h
  |ok s=>simp only[qN]at h;cases hv:isVal s with
   |true=>rw[hv]at h;exact⟨hv,h⟩
   |false=>rw[hv]at h;exact h.elim
  |cM p s=>simp only[qN]at h;cases hv:isVal s with
   |true=>rw[hv]at h;exact⟨h.1,hv,h.2⟩
   |false=>rw[hv]at h;exact h.elim
  |iM p s=>simp only[qN]at h;cases hv:isVal s with
   |true=>rw[hv]at h;exactλhp=>⟨hv,h hp⟩
   |false=>rw[hv]at h;exact h.elim
def iD (V:Fr):Operand->SV:=bZ (λ_=> .aq) V
def Tq:SV->Bool
  | .ptr _ _ _ _ _=>true
  | .pt _ _ _=>true
  |_=>false
def nV (P:Program) (sg:Bool) (V:Fr) (m:Nat->aP) (op:Op):R:=
  match op with
  | .pick c x y=>qN (s4 (iD (mI V) c) (iD (mI V) x) (iD (mI V) y))
  | .move x=> .ok (iD V x)
  | .extract x i=>sr (iD V x) i
  | .fieldAddr S x j=>match Tq (iD V x)with|true=>qv P S (iD V x) j m|false=> .bad
  | .indexAddr T x y=>sU P T (Dh y) (iD V x) (iD V y) m
  |op=>qN (pK P sg (iD (mI V)) (aa []) op)
theorem dD.and {o:Oper} {K:SV->Prop} {v:Value} (h:dD P w ω a o K) (hv: ∀w',(execOp a.eval o).run P w'= .ok (.value v) w'): ∃s,Den w ω s v/\K s:=by
  obtain⟨s,v',J,U,h3⟩:=h
  rw[hv w]at J
  obtain⟨e,_⟩:=Result.ok.inj J
  have:v=v':=by injection e
  subst this
  exact⟨s,U,h3⟩
theorem A6 (hm:ay w ω M) (hF:cW w ω N F a.tmps) {sg:Bool} {o:Oper} {s:SV} (he:(nV P sg F (aa M) o.op).run (λs'=>s'=s)):
    ∃v,(∀w',(execOp a.eval o).run P w'= .ok (.value v) w')/\Den w ω s v:=by
  let bC:Ow:=⟨λ_=>False,λ_=>False,λ_ _=>none,λ_=>(0,0)⟩
  have m3: ∀w',ay w' bC []:=λw'=>⟨rfl,λb ⟨k,p,L,h,_⟩=>(by cases h),λ_ h=>False.elim h,λ_ h=>False.elim h,λ_ h=>False.elim h,λ_ _ _ _ _ _ h=>(by cases h),λ_ _ _ h=>(by cases h),λ_ _ _ h=>(by cases h),λ_ _ h=>(by cases h),λ_ _ _ _=>rfl⟩
  have hv: ∀w' x,Den w' bC (iD (mI F) x) (a.eval x):=by
    intro w' x
    cases x with
    |tmp t=>
     show Den w' bC (look (mI F) t) _
     rw[Es]
     have hd:=hF.get t
     cases hl:look F t with
     |v y=>rw[hl]at hd;exact hd
     |bl b=>rw[hl]at hd;exact hd
     |_=>trivial
    |const v=>cases v<;>exact rfl
    |global g=>trivial
    |func f=>exact⟨#[],rfl,rfl,λj hj=>absurd hj (by omega)⟩
  have Ku: ∀w',Cx P w' bC (iD (mI F)) [] a:=λw'=>⟨hv w',m3 w'⟩
  have hJ: ∀x,Den w ω (iD F x) (a.eval x):=by
    intro x
    cases x with
    |tmp t=>exact hF.get t
    |const v=>cases v<;>exact rfl
    |global g=>trivial
    |func f=>exact⟨#[],rfl,rfl,λj hj=>absurd hj (by omega)⟩
  have K4:Cx P w ω (iD F) M a:=⟨hJ,hm⟩
  have bare:(∀w',dD P w' bC a o (λs'=>isVal s'=true/\s'=s))-> ∃v,(∀w',(execOp a.eval o).run P w'= .ok (.value v) w')/\Den w ω s v:=by
    intro hp
    obtain⟨s0,_,_,_,hs,rfl⟩:=hp w
    cases s0 with
    |v x=>
     refine⟨x,λw'=>?_,rfl⟩
     obtain⟨s',v,J,U,_,rfl⟩:=hp w'
     have U:v=x:=U
     rw[J,U]
    |bl b=>
     refine⟨.bool b,λw'=>?_,rfl⟩
     obtain⟨s',v,J,U,_,rfl⟩:=hp w'
     have U:v= .bool b:=U
     rw[J,U]
    |_=>cases hs
  unfold nV at he
  split at he
  · next c x y ho=>exact bare λw'=>sS (Ku w') ho (E3 he)
  · next x ho=>
    have he:iD F x=s:=he
    subst he
    exact⟨a.eval x,λw'=>by simp[execOp,ho],hJ x⟩
  · next x i ho=>
    have hx:=hJ x
    unfold sr at he
    split at he
    · next n f hs=>
      split at he
      · next hi=>
        have hi:=Nat.le_of_ble_eq_true hi
        have he:f i=s:=he
        subst he
        rw[hs]at hx
        obtain⟨cs,e,hn,hj⟩:=hx
        obtain⟨y,y1,y2⟩:=hj i hi
        exact⟨y,λw'=>by simp[execOp,ho,e,y1,Instr.extract,Result.andThen],y2⟩
      · exact he.elim
    · exact he.elim
  · next S x j ho=>
    split at he
    · next hp=>
      have hx:=hJ x
      have RI:=FI K4 ho he
      obtain⟨ad,iA⟩: ∃ad,a.eval x= .pointer (some ad):=by
        cases ht:iD F x with
        |ptr k st p i j=>
         rw[ht]at hx he
         unfold qv at he
         split at he
         · split at he
           · split at he
             · split at he
               · next heq=>
                 obtain⟨rfl,rfl,rfl,rfl,rfl⟩:=SV.ptr.inj heq
                 split at he
                 · next aZ=>obtain⟨_,L,_,_,e⟩:=eP hm aZ hx;exact⟨_,e⟩
                 · exact he.elim
               · next heq=>cases heq
               · next heq=>cases heq
               · exact he.elim
             · exact he.elim
           · exact he.elim
         · exact he.elim
        |pt q n f=>rw[ht]at hx;obtain⟨ad,e,_⟩:=hx;exact⟨ad,e⟩
        |_=>rw[ht]at hp;cases hp
      obtain⟨s',v,J,U,h3⟩:=RI
      have h3:s'=s:=h3
      subst h3
      refine⟨v,λw'=>?_,U⟩
      unfold qv at he
      split at he
      · next fs hu=>
        split at he
        · next fd rC=>
          split at he
          · next i hi=>
            split at he
            · next hz hs=>
              have run: ∀w',(execOp a.eval o).run P w'= .ok (.value (.pointer (some (ad.add fd.offset)))) w':=by
                intro w'
                have hz:0<i.size:=Nat.le_of_ble_eq_true hz
                have hs:(sizeOf fd.type).run P w'= .ok i.size w':=by simp[sizeOf,run_typeInfo w' hi,Result.andThen]
                simp[execOp,ho,iA,Instr.fieldAt,Instr.sureAddr,run_underlying hu,rC,fieldPlace,hs,Result.andThen,Nat.ne_of_gt hz]
              have e:=(run w).symm.trans J
              rw[run w']
              injection e with e _
              rw[e]
            · next hz hs=>
              have run: ∀w',(execOp a.eval o).run P w'= .ok (.value (.pointer (some (ad.add fd.offset)))) w':=by
                intro w'
                have hz:0<i.size:=Nat.le_of_ble_eq_true hz
                have hs:(sizeOf fd.type).run P w'= .ok i.size w':=by simp[sizeOf,run_typeInfo w' hi,Result.andThen]
                simp[execOp,ho,iA,Instr.fieldAt,Instr.sureAddr,run_underlying hu,rC,fieldPlace,hs,Result.andThen,Nat.ne_of_gt hz]
              have e:=(run w).symm.trans J
              rw[run w']
              injection e with e _
              rw[e]
            · next hz hs=>rw[hs]at hp;cases hp
            · exact he.elim
          · exact he.elim
        · exact he.elim
      · exact he.elim
    · exact he.elim
  · next T x y ho=>
    obtain⟨s',v,J,U,rfl⟩:=E4 K4 ho he
    exact⟨v,J,U⟩
  · exact bare λw'=>oR (Ku w') (E3 he)
end
end Go.Sy
set_option linter.unusedVariables false
set_option linter.unusedSimpArgs false
namespace Go.Sy
open Go.RowKit
variable {P:Program} {w w':World} {ω:Ow} {M:Mem}
def One (w w':World) (b:Nat):Prop:=w'.os=w.os/\w'.tape=w.tape/\w'.output=w.output/\w'.heap.size=w.heap.size/\ ∀b',b'≠b->w'.heap[b']? =w.heap[b']?
theorem One.trans {w w' dJ:World} {b:Nat} (h:One w w' b) (k:One w' dJ b):One w dJ b:=
  ⟨k.1.trans h.1,k.2.1.trans h.2.1,k.2.2.1.trans h.2.2.1,k.2.2.2.1.trans h.2.2.2.1,λb' hb=>(k.2.2.2.2 b' hb).trans (h.2.2.2.2 b' hb)⟩
theorem One.set (w:World) (a:Addr) (x:Value):One w (w.setCell a x) a.block:=
  ⟨rfl,rfl,rfl,by simp[World.setCell],λb' hb=>se w a x hb⟩
theorem E0: ∀(cs:List SV) (us:List Value) {w:World} {M:Mem} (hm:ay w ω M) {k:Nat} {l:List SV} (hb:(aa M k).b= .cells l) (hx:bB w ω cs us) (J: ∀u∈us,u.oneCell'=true) (hn: ∀s∈cs,bY s=false) {L:Loc} (hL:ω.β k none=some L) {j:Nat} (hj:j+cs.length<=l.length) {ad:Addr} (q:Nat) (iA:ad.add q=⟨L.b,L.o+j,none⟩),
    ∃w',(storeCells ad us q).run P w= .ok () w'/\(∃M',aT w ω M w' ω M'/\aa M' k={aa M k with b:= .cells (kF l j cs)}/\ ∀k',k'≠k->aa M' k'=aa M k')/\One w w' L.b
  | [],[],w,M,hm,k,l,hb,hx,J,hn,L,hL,j,hj,ad,q,iA=>⟨w,by simp[storeCells],⟨M,aT.refl hm,by simp only[kF];rw[<-hb],λ_ _=>rfl⟩,rfl,rfl,rfl,rfl,λ_ _=>rfl⟩
  |v::r,x::t,w,M,hm,k,l,hb,⟨hx,yM⟩,J,hn,L,hL,j,hj,ad,q,iA=>by
   obtain⟨c1,c2⟩:=sF hm hb hL
   have pF:j<l.length:=by simp at hj;omega
   have st:=aT.FF hm hb hL (i:=0) (by omega) pF (hn v (by simp)) hx
   obtain⟨_,_,_,_,c,T,g1,g2,g3,g4⟩:=hm.row _ _ _ hL
   obtain⟨y,y1,_⟩:=g4 0 (by omega) j (by omega)
   simp only[Nat.zero_mul,Nat.add_zero]at st y1
   have r1:(store (ad.add q) x).run P w= .ok () (w.setCell ⟨L.b,L.o+j,none⟩ x):=by rw[iA];exact vp g1 (Array.getElem?_eq_some_iff.1 y1).1 (J x (by simp))
   have CF:ad.add (q+1)=⟨L.b,L.o+(j+1),none⟩:=by
     rw[<-add_add,iA,iq];simp[Nat.add_assoc]
   obtain⟨w',r2,⟨M',s2,e1,e2⟩,o2⟩:=E0 r t st.mem (k:=k) (l:=l.set j v) (by rw[cz]) (yM.ext st.ext) (λy hy=>J y (by simp[hy])) (λs hs=>hn s (by simp[hs])) hL (j:=j+1) (by simp at hj⊢;omega) (q+1) CF
   refine⟨w',by simp[storeCells,r1,r2,Result.andThen],⟨M',st.trans s2,?_,λk' hk=>?_⟩,(One.set w _ x).trans o2⟩
   · rw[e1,cz];rfl
   · rw[e2 k' hk,bV (Ne.symm hk)]
  | [],_::_,_,_,_,_,_,_,hx,_,_,_,_,_,_,_,_,_=>hx.elim
  |_::_,[],_,_,_,_,_,_,hx,_,_,_,_,_,_,_,_,_=>hx.elim
def j4 (n:Nat):List SV:=List.replicate n .aq
theorem vP (n j:Nat):aA (j4 n) j= .aq:=by
  simp only[aA,j4,List.getD_eq_getElem?_getD,List.getElem?_replicate]
  split<;>rfl
theorem ay.Ic (hm:ay w ω M) {k:Nat} {e:aP} {l l':List SV} (he:aa M k=e) (hb:e.b= .cells l) (hl:l'.length=l.length)
    (h: ∀L,ω.β k none=some L-> ∀c T,w.heap[L.b]? =some (Obj.cells c T (0,0))-> ∀j,j<l.length-> ∀x,c[L.o+j]? =some x->Den w ω (aA l j) x->bY (aA l' j)=false/\Den w ω (aA l' j) x) (cu: ∀j,bY (aA l j)=false):ay w ω ((k,{e with b:= .cells l'})::M):=by
  subst he
  have rb: ∀k',k'≠k->aa ((k,{aa M k with b:= .cells l'})::M) k'=aa M k':=λk' h=>bV (Ne.symm h)
  refine⟨?_,hm.own,hm.dg,hm.dj,hm.ed,hm.inj,hm.low,λk' p L hL=>?_,λk' l2 hk=>?_,λk' i j hk=>?_⟩
  · rw[hm.cur];exact(qj (M:=M) (k:=k) (e:={aa M k with b:= .cells l'}) rfl rfl).symm
  · by_cases hk:k'=k
    · subst hk
      obtain⟨r,g1,g2,g3,c,T,g4,g5,g6,g7⟩:=hm.row k' p L hL
      rw[cz]
      cases p with
      |none=>
       unfold rowAt at g1;rw[hb]at g1
       obtain rfl:=Option.some.inj g1
       have bu:l.length=L.sz:=g2
       have pv:1=L.db:=g3
       refine⟨⟨l'.length,1,λ_ j=>aA l' j⟩,by unfold rowAt;rw[cz];rfl,by show l'.length=_;rw[hl];exact bu,pv,c,T,g4,g5,g6,λi hi j hj=>?_⟩
       obtain⟨x,x1,x2⟩:=g7 i hi j hj
       obtain rfl:i=0:=by omega
       have x2:bW w ω (aa M k').hl k' 0 j (aA l j) x:=x2
       rw[dO (cu j)]at x2
       obtain⟨y1,y2⟩:=h L hL c T g4 j (by omega) x (by simpa using x1) x2
       refine⟨x,x1,?_⟩
       show bW w ω (aa M k').hl k' 0 j (aA l' j) x
       rw[dO y1];exact y2
      |some ij=>unfold rowAt at g1;rw[hb]at g1;cases g1
    · obtain⟨r,g1,g2,g3,g4⟩:=hm.row k' p L hL
      exact⟨r,by unfold rowAt at g1⊢;rw[rb k' hk];exact g1,g2,g3,by rw[rb k' hk];exact g4⟩
  · by_cases uv:k'=k
    · subst uv;exact hm.live k' l hb
    · rw[rb k' uv]at hk;exact hm.live k' l2 hk
  · by_cases uv:k'=k
    · subst uv;rw[cz]at hk;exact hm.dh _ _ _ hk
    · rw[rb k' uv]at hk;exact hm.dh _ _ _ hk
theorem ay.Tn (hm:ay w ω M) {k n:Nat} (hb:(aa M k).b= .cells (j4 n)) {L:Loc} (hL:ω.β k none=some L) (ho:One w w' L.b) (hs: ∃c T,w'.heap[L.b]? =some (Obj.cells c T (0,0))/\c.size=L.len):ay w' ω M/\Ext w ω w' ω:=by
  have hA:ω.A L.b:=hm.own _ ⟨k,none,L,hL,rfl⟩
  have bh:Ext w ω w' ω:=⟨ho.1,ho.2.1,ho.2.2.1,λb hb hn=>ho.2.2.2.2 b (λe=>hn (e▸hA)),λ_ _ h=>h,λ_ _ _ h=>h,Nat.le_of_eq ho.2.2.2.1.symm,λ_=>⟨Nat.le_refl _,Nat.le_refl _⟩,λ_ _ _ h _=>h,λ_ h=>h⟩
  refine⟨⟨hm.cur,hm.own,λb h=>by rw[ho.2.2.2.1];exact hm.dg b h,hm.dj,λb h=>by rw[ho.2.2.2.1];exact hm.ed b h,hm.inj,λk p L h=>by rw[ho.2.2.2.1];exact hm.low k p L h,λk' p L' h=>?_,hm.live,hm.dh⟩,bh⟩
  obtain⟨r,g1,g2,g3,g4⟩:=hm.row k' p L' h
  refine⟨r,g1,g2,g3,?_⟩
  by_cases nZ:L'.b=L.b
  · obtain⟨rfl,rfl⟩:=hm.inj _ _ _ _ _ _ h hL nZ
    obtain rfl:L=L':=Option.some.inj (hL.symm.trans h)
    unfold rowAt at g1;rw[hb]at g1
    obtain rfl:=Option.some.inj g1
    obtain⟨c0,T0,J,U,h3,h4⟩:=g4
    obtain⟨c,T,e1,e2⟩:=hs
    have bu:(j4 n).length=L.sz:=g2
    have pv:1=L.db:=g3
    refine⟨c,T,e1,e2,h3,λi hi j hj=>?_⟩
    have ai:L.o+i*L.sz+j<c.size:=by
      have:=jz hi hj
      omega
    refine⟨c[L.o+i*L.sz+j],Array.getElem?_eq_getElem ai,?_⟩
    show bW _ _ _ _ _ _ (aA (j4 n) j) _
    rw[vP];trivial
  · exact g4.ext bh rfl (λ_=>rfl) (ho.2.2.2.2 _ nZ)
def evalW (P:Program) (Gl:Nat->SV) (N:Nat) (ops:List Oper) (V:Fr) (M:Mem) (H:List Hd) (o:Oper):Option (Nat×aC):=
  match o.dst,guardOf N ops V H o,o.op with
  |none,.yes,.store T x y=>
   match bZ Gl (ga [] V H) x,lG (aa M) (bZ Gl (ga [] V H) y),P.info? T with
   | .ptr k st none ii j,some cs,some i=>
     match bT (aa M) k st none,(aa M k).b,Nat.beq cs.length i.size,cs.all (kV (aa M))with
     |true,.cells l,true,true=>
      match Nat.ble (j+cs.length) l.length with
      |true=>some (k,[(k,{aa M k with b:= .cells (kF l j cs)})])
      |false=>none
     |_,_,_,_=>none
   |_,_,_=>none
  |_,_,_=>none
theorem Tp {Gl:Nat->SV} {N:Nat} {ops:Array Oper} {V:Fr} {H:List Hd} {a:Act} {Q:Exit->Act->World->Prop} {i:Nat} {o:Oper} {k:Nat} {u:aC} (ho:ops[i]? =some o) (h:St P Gl N V M a w ω) (hH:fo w ω N a H)
    (he:evalW P Gl N ops.toList V M H o=some (k,u)) {K:Act->World->Prop}
    (hK: ∀w' L,ω.β k none=some L->ay w' ω (u++M)->One w w' L.b->K a w'):wpOp P ops Q i K a w:=by
  have iC:=zX (ops:=ops) h.frame H o
  unfold wpOp
  rw[ho]
  simp only
  unfold evalW at he
  split at he
  · next T x y hd g_ fU=>
    rw[g_]at iC
    cases iC with
    |yes hw=>
     rw[if_pos hw]
     left
     have hF:=kD h.frame (As:= []) (λp hp=>by cases hp) H hH
     have K1:=hF.bZ h.de x
     have Ui:=hF.bZ h.de y
     split at he
     · next k' st ii j cs inf hx gF hi=>
       split at he
       · next l aZ hb hlen gU=>
         split at he
         · next hle=>
           simp only[Option.some.injEq,Prod.mk.injEq]at he
           obtain⟨rfl,rfl⟩:=he
           rw[hx]at K1
           have hm:=h.mem
           obtain⟨e0,L,hL,fI,ex⟩:=eP hm aZ K1
           obtain⟨c1,c2⟩:=sF hm hb hL
           obtain rfl:ii=0:=by omega
           simp only[Nat.zero_mul,Nat.add_zero]at ex
           have hc:=sf hm gF Ui
           have J:=vA hm gU hc
           have hlen:=Nat.eq_of_beq_eq_true hlen
           have bu:(a.eval y).cells.size=inf.size:=by rw[<-Array.length_toList,<-hc.len,hlen]
           have cY:(sizeOf T).run P w= .ok inf.size w:=by simp[sizeOf,run_typeInfo w hi,Result.andThen]
           obtain⟨w',r1,⟨M',s1,e1,e2⟩,o1⟩:=E0 (P:=P) cs _ hm hb hc J (λs hs=>vk (List.all_eq_true.1 gU s hs)) hL (Nat.le_of_ble_eq_true hle) (ad:=⟨L.b,L.o+j,none⟩) 0 (by simp[Addr.add])
           have run:(execOp a.eval o).run P w= .ok .skip w':=by
             simp[execOp,fU,ex,Instr.storeAt,Instr.sureAddr,storeVar,cY,bu,r1,Result.andThen]
           have jd:ay w' ω ([(k',{aa M k' with b:= .cells (kF l j cs)})]++M):=s1.mem.congr λq=>by
             by_cases hq:q=k'
             · subst hq;rw[e1];exact cz
             · rw[e2 q hq];exact bV (Ne.symm hq)
           have CG:=hK w' L hL jd o1
           unfold Oper.wp
           rw[run]
           show K (a.put o.dst undef) w'
           rw[hd]
           exact CG
         · cases he
       · cases he
     · cases he
  · cases he
end Go.Sy
