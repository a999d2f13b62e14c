/-
  Sy, part 15: frames; regions in the text's order.
-/
import Derived.Test.YthgmgkabnffniaaGreatDoorYD
import Derived.Orders
set_option linter.unusedVariables false
set_option linter.unusedSimpArgs false
set_option linter.unusedVariables false
set_option linter.unusedSimpArgs false
namespace Go.Sy
open Go.RowKit
/-! ### frames -/
abbrev Fr:=List (Nat×SV)
def look:Fr->Nat->SV
  | [],_=> .aF
  |p::r,t=>match Nat.beq p.1 t with|true=>p.2|false=>look r t
theorem look_eq {d:Nat} {s:SV} {F:Fr}:look ((d,s)::F) d=s:=by
  simp[look]
theorem sH {d t:Nat} {s:SV} {F:Fr} (h:d≠t):look ((d,s)::F) t=look F t:=by
  have:Nat.beq d t=false:=by
    cases hb:Nat.beq d t
    · rfl
    · exact absurd (Nat.eq_of_beq_eq_true hb) h
  simp only[look,this]
structure eH (w:World) (o:Ow) (N:Nat) (F:Fr) (t:Array Value):Prop where
  size:t.size=N
  den: ∀(i:Nat) u,t[i]? =some u->Den w o (look F i) u
  out: ∀(i:Nat),N<=i->look F i= .aF
theorem eH.ext {w w':World} {o o':Ow} {N:Nat} {F:Fr} {t:Array Value} (h:eH w o N F t) (he:Ext w o w' o'):eH w' o' N F t:=
  ⟨h.size,λi u hu=>(h.den i u hu).ext he,h.out⟩
theorem eH.get {w:World} {o:Ow} {N:Nat} {F:Fr} {t:Array Value} (h:eH w o N F t) (i:Nat):Den w o (look F i) (t.getD i undef):=by
  rw[Array.getD_eq_getD_getElem?]
  cases hu:t[i]? with
  |none=>
   rw[h.out i (by rw[<-h.size];exact Array.getElem?_eq_none_iff.1 hu)]
   trivial
  |some u=>exact h.den i u hu
def iz (N:Nat) (F:Fr) (d:Option Nat) (s:SV):Fr:=
  match d with
  |some d=>match Nat.blt d N with|true=>(d,s)::F|false=>F
  |none=>F
theorem eH.put {w:World} {o:Ow} {N:Nat} {F:Fr} {t:Array Value} (h:eH w o N F t) {d:Nat} {s:SV} {v:Value} (hd:Den w o s v):eH w o N (iz N F (some d) s) (t.setIfInBounds d v):=by
  cases av:Nat.blt d N with
  |true=>
   have e:iz N F (some d) s=(d,s)::F:=by simp only[iz,av]
   rw[e]
   have av:d<N:=Nat.le_of_ble_eq_true av
   refine⟨by simpa using h.size,λi u hu=>?_,λi hi=>?_⟩
   · by_cases pK:d=i
     · subst pK
       rw[look_eq]
       rw[Array.getElem?_setIfInBounds_self_of_lt (by rw[h.size];exact av)]at hu
       obtain rfl:=Option.some.inj hu
       exact hd
     · rw[sH pK]
       rw[Array.getElem?_setIfInBounds_ne pK]at hu
       exact h.den i u hu
   · rw[sH (by omega)]
     exact h.out i hi
  |false=>
   have dz:N<=d:=by
     rcases Nat.lt_or_ge d N with h'|h'
     · exact absurd (Nat.ble_eq_true_of_le h') (by unfold Nat.blt at av;rw[av];simp)
     · exact h'
   have e:t.setIfInBounds d v=t:=by
     rw[Array.setIfInBounds_eq_of_size_le (by rw[h.size];exact dz)]
   have e2:iz N F (some d) s=F:=by simp only[iz,av]
   rw[e,e2];exact h
theorem eH.tell {w:World} {o:Ow} {N:Nat} {F:Fr} {t:Array Value} (h:eH w o N F t) {d:Nat} {s:SV} (av:d<N) (hs: ∀u,t[d]? =some u->Den w o s u):eH w o N ((d,s)::F) t:=by
  refine⟨h.size,λi u hu=>?_,λi hi=>?_⟩
  · by_cases pK:d=i
    · subst pK;rw[look_eq];exact hs u hu
    · rw[sH pK];exact h.den i u hu
  · rw[sH (by omega)];exact h.out i hi
def cX (Gl:Nat->SV) (F:Fr):Operand->SV
  | .tmp t=>look F t
  | .const (.bool b)=> .bl b
  | .const v=> .v v
  | .global g=>Gl g
  | .func f=> .fn f 0 (λ_=> .aF)
structure St (P:Program) (Gl:Nat->SV) (N:Nat) (F:Fr) (M:Mem) (a:Act) (w:World) (ω:Ow):Prop where
  frame:eH w ω N F a.tmps
  fe: ∀g,Den w ω.bare (Gl g) (.pointer (some ⟨g,0,none⟩))
  mem:aR w ω M
  defers:a.defers= []
theorem Act.put_defers (a:Act) (d:Option Tmp) (v:Value):(a.put d v).defers=a.defers:=by cases d<;>rfl
def dN (S:List Nat) (a a':Act):Prop:=a'.tmps.size=a.tmps.size/\ ∀i,i∉S->a'.tmps[i]? =a.tmps[i]?
theorem dN.refl (S:List Nat) (a:Act):dN S a a:=⟨rfl,λ_ _=>rfl⟩
theorem dN.trans {S:List Nat} {a b c:Act} (h:dN S a b) (k:dN S b c):dN S a c:=⟨k.1.trans h.1,λi hi=>(k.2 i hi).trans (h.2 i hi)⟩
theorem dN.put {S:List Nat} {a b:Act} (h:dN S a b) {d:Option Tmp} (hd: ∀t,d=some t->t∈S) (v:Value):dN S a (b.put d v):=by
  cases d with
  |none=>exact h
  |some t=>
   refine⟨by simpa [Act.put]using h.1,λi hi=>?_⟩
   have:t≠i:=λe=>hi (e▸hd t rfl)
   simp only[Act.put,Array.getElem?_setIfInBounds_ne this]
   exact h.2 i hi
theorem dN.mono {S S':List Nat} {a b:Act} (h:dN S a b) (hs: ∀i∈S,i∈S'):dN S' a b:=⟨h.1,λi hi=>h.2 i (λhn=>hi (hs i hn))⟩
section
variable {P:Program} {w:World} {ω:Ow} {Gl:Nat->SV} {Γ:Table} {N:Nat} {F:Fr} {M:Mem} {a:Act}
theorem eH.cX (h:eH w ω N F a.tmps) (hG: ∀g,Den w ω.bare (Gl g) (.pointer (some ⟨g,0,none⟩))) (x:Operand):Den w ω (Sy.cX Gl F x) (a.eval x):=by
  cases x with
  |tmp t=>exact h.get t
  |const v=>cases v<;>exact rfl
  |global g=>exact(hG g).up
  |func f=>exact⟨#[],rfl,rfl,λj hj=>absurd hj (by omega)⟩
theorem St.cx (h:St P Gl N F M a w ω):Cx P w ω (cX Gl F) M a:=⟨h.frame.cX h.fe,h.mem⟩
theorem St.step (h:St P Gl N F M a w ω) {w':World} {ao:Ow} {M':Mem} (hs:bp w ω M w' ao M'):St P Gl N F M' a w' ao:=
  ⟨h.frame.ext hs.ext,λg=>Den.ext (o:=ω.bare) hs.ext.bare (h.fe g),hs.mem,h.defers⟩
theorem St.put (h:St P Gl N F M a w ω) {d:Option Tmp} {s:SV} {v:Value} (hd:Den w ω s v):St P Gl N (iz N F d s) M (a.put d v) w ω where
  frame:=by
    cases d with
    |none=>exact h.frame
    |some d=>exact h.frame.put hd
  fe:=h.fe
  mem:=h.mem
  defers:=by rw[Act.put_defers];exact h.defers
theorem St.tell (h:St P Gl N F M a w ω) {d:Nat} {s:SV} (av:d<N) (hs: ∀u,a.tmps[d]? =some u->Den w ω s u):St P Gl N ((d,s)::F) M a w ω:=
  {h with frame:=h.frame.tell av hs}
theorem St.aF (h:St P Gl N F M a w ω) {t:Nat} (ht:t<N) (v:Value):St P Gl N ((t,.aF)::F) M (a.put (some t) v) w ω:=by
  have:=h.put (d:=some t) (s:= .aF) (v:=v) trivial
  have e:iz N F (some t) .aF=(t,.aF)::F:=by
    have:Nat.blt t N=true:=Nat.ble_eq_true_of_le ht
    simp only[iz,this]
  rwa [e]at this
end
/-! ### one operation -/
inductive R2 where
  |bad
  |ok (s:SV)
  |dS (p:Prop) (s:SV)
  |mH (p:Prop) (s:SV)
  |mem (p:Prop) (s:SV) (u:aX)
  |any (n:Nat) (neg:Bool)
def R.up:R->R2
  | .bad=> .bad
  | .ok s=> .ok s
  | .dS p s=> .dS p s
  | .mH p s=> .mH p s
def pN:Option (Prop×SV×aX)->R2
  |some (p,s,u)=> .mem p s u
  |none=> .bad
def R2.run (r:R2) (K:SV->aX->Prop):Prop:=
  match r with
  | .bad=>False
  | .ok s=>K s []
  | .dS p s=>p/\K s []
  | .mH p s=>p->K s []
  | .mem p s u=>p/\K s u
  | .any n neg=> ∀b:Bool,(b=true->n=0)->K (.v (.bool (BV neg b))) []
def Il (P:Program) (sg:Bool) (ρ:Operand->SV) (m:Nat->bk) (op:BinOp) (T T':TypeId) (x y:Operand):R2:=
  match Im P op T (ρ x) (ρ y) m with
  |some q=> .any q.1 q.2
  |none=>(xl P sg ρ m (.binOp op T x y T')).up
def Co (P:Program) (sg:Bool) (Γ:Table) (ρ:Operand->SV) (m:Nat->bk) (nx:Nat) (op:Op):R2:=
  match op with
  | .box _ x=>pN (I3 m nx (ρ x))
  | .alloc T=>pN (HJ P m nx T)
  | .store T x y=>pN (HK P m nx T (ρ x) (ρ y))
  | .makeSlice T x y=>pN (Io P m nx T (ρ x) (ρ y))
  | .buildSlice T len parts=>pN (AS P m nx T len (parts.toList.map λp=>(p.1,ρ p.2)))
  | .call {callee:= .builtin .append,args:=⟨[x,y]⟩,argTypes:=⟨[T,T']⟩}=>match Nat.beq T T' with|true=>pN (tZ P m nx T (ρ x) (ρ y))|false=> .bad
  | .call {callee:= .builtin .copy,args:=⟨[x,y]⟩,argTypes:=⟨[T,T']⟩}=>match Nat.beq T T' with|true=>pN (Ip P m T (ρ x) (ρ y))|false=> .bad
  | .call {callee:= .builtin .clear,args:=⟨[x]⟩,argTypes:=⟨[T]⟩}=>pN (HL P m T (ρ x))
  | .call {callee:= .value f,args:=args,argTypes:=_}=>pN (Ez Γ ρ m nx f args.toList)
  | .call {callee:= .invoke r name,args:=args,argTypes:=_}=>pN (DP P Γ ρ m nx r name args.toList)
  | .pick c x y=>(A' (ρ c) (ρ x) (ρ y)).up
  | .binOp op T x y T'=>Il P sg ρ m op T T' x y
  |op=>(xl P sg ρ m op).up
section
variable {P:Program} {w:World} {ω:Ow} {ρ:Operand->SV} {Gl:Nat->SV} {Γ:Table} {M:Mem} {a:Act}
inductive rW (P:Program) (w:World) (ω:Ow) (M:Mem) (a:Act) (o:Oper) (s:SV):aX->Prop where
  |pure (v:Value) (h:(execOp a.eval o).run P w= .ok (.value v) w) (hd:Den w ω s v):rW P w ω M a o s []
  |mem {u:aX} (h:rQ P w ω M a o s u):rW P w ω M a o s u
  |call {u:aX} (h:Bu P w ω M a o s u):rW P w ω M a o s u
theorem rW.wp {o:Oper} {s:SV} {u:aX} (hm:aR w ω M) (h:rW P w ω M a o s u) {next:Act->World->Prop} {Q:Exit->Act->World->Prop}
    (hn: ∀v w' ao,bp w ω M w' ao (u++M)->Den w' ao s v->next (a.put o.dst v) w'):o.wp P a w next Q:=by
  unfold Oper.wp
  cases h with
  |pure v h hd=>rw[h];exact hn v w ω (bp.refl hm) hd
  |mem h=>
   obtain⟨n,v,w',ao,J,h2,h3,h4⟩:=h
   rw[J]
   rcases h2 with rfl|⟨rfl,rfl⟩
   · exact hn v w' ao h3 h4
   · exact hn _ w' ao h3 h4
  |call h=>
   obtain⟨id,vs,J,h2⟩:=h
   rw[J]
   unfold wa at h2
   refine h2.mono ?_
   rintro e w' ⟨v,ao,rfl,h3,h4,_⟩
   exact hn v w' ao h3 h4
theorem I4 {o:Oper} {r:R} {K:SV->aX->Prop} (h: ∀{K':SV->Prop},r.run K'->fR P w ω a o K') (he:r.up.run K): ∃s u,rW P w ω M a o s u/\K s u:=by
  have:r.run (λs=>K s []):=by cases r<;>exact he
  obtain⟨s,v,J,h2,h3⟩:=h this
  exact⟨s,[],.pure v J h2,h3⟩
theorem rI {o:Oper} {x:Option (Prop×SV×aX)} {K:SV->aX->Prop} (h: ∀{p s u},x=some (p,s,u)->p->rW P w ω M a o s u) (he:(pN x).run K): ∃s u,rW P w ω M a o s u/\K s u:=by
  cases x with
  |none=>exact he.elim
  |some x=>exact⟨_,_,h rfl he.1,he.2⟩
theorem Pv (h:Cx P w ω ρ M a) {sg:Bool} {o:Oper} {op:BinOp} {T T':TypeId} {x y:Operand} {K:SV->aX->Prop} (ho:o.op= .binOp op T x y T') (he:(Il P sg ρ (ae M) op T T' x y).run K): ∃s v,(execOp a.eval o).run P w= .ok (.value v) w/\Den w ω s v/\K s []:=by
  unfold Il at he
  split at he
  · next q hq=>
    obtain⟨b,J,h2⟩:=aaV h ho (n:=q.1) (neg:=q.2) hq
    exact⟨.v (.bool (BV q.2 b)),_,h2,rfl,he b J⟩
  · have e:(xl P sg ρ (ae M) o.op).run (λs=>K s []):=by rw[ho];revert he;cases xl P sg ρ (ae M) (.binOp op T x y T')<;>exact id
    exact wc h e
theorem acI (hS:Sound P Gl Γ) (hG: ∀g,Den w ω.bare (Gl g) (.pointer (some ⟨g,0,none⟩))) (h:Cx P w ω ρ M a) {sg:Bool} {nx:Nat} {o:Oper} {K:SV->aX->Prop} (he:(Co P sg Γ ρ (ae M) nx o.op).run K):
    ∃s u,rW P w ω M a o s u/\K s u:=by
  unfold Co at he
  split at he
  · next T x ho=>exact rI (λe hp=> .mem (Rn h ho e).zz) he
  · next T ho=>exact rI (λe hp=> .mem (NS h ho e).zz) he
  · next T x y ho=>exact rI (λe hp=> .mem (Zc h ho e hp)) he
  · next T x y ho=>exact rI (λe hp=> .mem (Pu h ho e hp).zz) he
  · next T len parts ho=>exact rI (λe hp=> .mem (Ye h ho e hp)) he
  · next x y T T' ho=>
    split at he
    · next ht=>
      obtain rfl:=Nat.eq_of_beq_eq_true ht
      exact rI (λe hp=> .mem (Xx h ho e hp)) he
    · exact he.elim
  · next x y T T' ho=>
    split at he
    · next ht=>
      obtain rfl:=Nat.eq_of_beq_eq_true ht
      exact rI (λe hp=> .mem (aaW h ho e hp)) he
    · exact he.elim
  · next x T ho=>exact rI (λe hp=> .mem (Zd h ho e hp)) he
  · next f args ts ho=>exact rI (λe hp=> .call (HH hS hG h ho e hp)) he
  · next r name args ts ho=>exact rI (λe hp=> .call (GM hS hG h ho e hp)) he
  · next c x y ho=>exact I4 (λhe=>A3 h ho he) he
  · next op T x y T' ho=>
    obtain⟨s,v,J,h2,h3⟩:=Pv h ho he
    exact⟨s,[],.pure v J h2,h3⟩
  · exact I4 (λhe=>wc h he) he
end
/-! ### guards that are not decided -/
structure Hd where
  slot:Nat
  d:Nat
  want:Bool
  s:SV
def Vp:Bool->Bool->Bool
  |true,true|false,false=>true
  |_,_=>false
def Bv:List Hd->Nat->Option Hd
  | [],_=>none
  |h::r,t=>match Nat.beq h.slot t with|true=>some h|false=>Bv r t
def fJ (H:List Hd):Nat->Nat->Bool->List (Nat×Bool)
  |0,d,want=> [(d,want)]
  |n+1,d,want=>(d,want)::match Bv H d with|some h=>fJ H n h.d h.want|none=> []
def JA (As:List (Nat×Bool)) (d:Nat) (want:Bool):Bool:=As.any λp=>Nat.beq p.1 d&&Vp p.2 want
def jS (As:List (Nat×Bool)) (F:Fr):List Hd->Fr
  | []=>F
  |h::r=>match JA As h.d h.want with|true=>(h.slot,h.s)::jS As F r|false=>jS As F r
def hyps (F:Fr):List (Nat×Bool)->Prop->Prop
  | [],p=>p
  |(d,want)::r,p=>match look F d with| .v (.bool b)=>b=want->hyps F r p|_=>hyps F r p
def uA (H:List Hd) (d:Option Nat):Bool:=
  match d with
  |none=>true
  |some d=>H.all λh=>!Nat.beq h.d d&&!Nat.beq h.slot d
inductive Gd where
  |yes|no|bad
  |ask (d:Nat) (want:Bool)
def guardOf (N:Nat) (ops:List Oper) (F:Fr) (H:List Hd) (o:Oper):Gd:=
  match o.guard with
  |none=> .yes
  |some (j,want)=>
   match ops[j]? with
   |some oj=>
    match oj.dst with
    |some d=>
     match Nat.blt d N,Bv H d,look F d with
     |true,some _,_=> .ask d want
     |true,none,.bl b=>match b,want with|true,true=> .yes|false,false=> .yes|_,_=> .no
     |true,none,.v (.bool _)=> .ask d want
     |true,none,.v (.tuple _)=> .no
     |_,_,_=> .bad
    |none=> .bad
   |none=> .bad
def HI (Gl:Nat->SV) (H:List Hd) (As:List (Nat×Bool)) (F:Fr) (c x y:Operand):R:=
  match c with
  | .tmp d=>
    match look (jS As F H) d with
    | .v (.bool b)=>
      match pP (cX Gl (jS (fJ H H.length d true++As) F H) x),pP (cX Gl (jS (fJ H H.length d false++As) F H) y)with
      |some p,some q=> .ok (.v (.bool (bif b then p else q)))
      |_,_=> .bad
    |s=>A' s (cX Gl (jS As F H) x) (cX Gl (jS As F H) y)
  |_=> .bad
def oH (P:Program) (sg:Bool) (Gl:Nat->SV) (Γ:Table) (F:Fr) (M:Mem) (nx:Nat) (H:List Hd) (As:List (Nat×Bool)) (op:Op):R2:=
  match op with
  | .pick c x y=>(HI Gl H As F c x y).up
  |op=>Co P sg Γ (cX Gl (jS As F H)) (ae M) nx op
def Vq (nx:Nat) (u:aX):Nat:=match u with| []=>nx|_::_=>nx+64
def acJ:bc->Bool
  | .row _ _ _=>true
  |_=>false
def rN (m:Nat->bk):aX->Bool
  | []=>true
  |p::r=>rN m r&&cv (ov r m) p.1&&Nat.beq p.2.rs (ov r m p.1).rs&&Nat.beq p.2.ds (ov r m p.1).ds&&(match p.2.hl with|none=>true|some _=>false)&&acJ p.2.b
theorem Dn {w:World} {ω:Ow} {M:Mem} (hm:aR w ω M): ∀{u:aX},rN (ae M) u=true->bp w ω M w ω (u++M)
  | [],_=>bp.refl hm
  |(k,⟨rs,ds,hl,b⟩)::r,h=>by
   simp only[rN,Bool.and_eq_true]at h
   obtain⟨⟨⟨⟨⟨J,h2⟩,h3⟩,h4⟩,h5⟩,h6⟩:=h
   have hr:=Dn hm J
   rw[oE]at h2 h3 h4
   cases b with
   |row sz n f=>
    cases hl with
    |some _=>cases h5
    |none=>
     obtain rfl:=Nat.eq_of_beq_eq_true h3
     obtain rfl:=Nat.eq_of_beq_eq_true h4
     exact hr.trans (bp.dummy hr.mem (mV hr.mem h2) sz n f)
   |dead=>cases h6
   |cells l=>cases h6
def zj:List Nat->Fr->(Fr->Prop)->Prop
  |_,[],k=>k []
  |seen,p::r,k=>match cM seen p.1 with|true=>zj seen r k|false=>gf p.1 λq=>zA p.2 λs=>zj (q::seen) r λr=>k ((q,s)::r)
theorem DH: ∀(F:Fr) (seen:List Nat) (k:Fr->Prop),zj seen F k-> ∃F',k F'/\ ∀q,cM seen q=false->look F' q=look F q
  | [],_,k,h=>⟨[],h,λ_ _=>rfl⟩
  |p::r,seen,k,h=>by
   unfold zj at h
   split at h
   · next hs=>
     obtain⟨M',J,h2⟩:=DH r seen k h
     refine⟨M',J,λq hq=>?_⟩
     rw[h2 q hq]
     have hb:Nat.beq p.1 q=false:=by
       cases hb:Nat.beq p.1 q with
       |false=>rfl
       |true=>have e:=Nat.eq_of_beq_eq_true hb;rw[e,hq]at hs;cases hs
     simp only[look,hb]
   · next hs=>
     rw[mq,EA]at h
     obtain⟨M',J,h2⟩:=DH r _ _ h
     refine⟨_,J,λq hq=>?_⟩
     cases hb:Nat.beq p.1 q with
     |true=>simp only[look,hb]
     |false=>
      simp only[look,hb]
      refine h2 q ?_
      simp only[cM,hb]
      exact hq
def BT:List Hd->(List Hd->Prop)->Prop
  | [],k=>k []
  |h::r,k=>match h with|⟨a,b,c,s⟩=>gf a λa=>gf b λb=>zA s λs=>BT r λr=>k (⟨a,b,c,s⟩::r)
theorem HG: ∀(l:List Hd) (k:List Hd->Prop),BT l k=k l
  | [],_=>rfl
  |⟨a,b,c,s⟩::r,k=>by simp only[BT,mq,EA,HG r]
def wD (F:Fr) (M:Mem) (nx:Nat) (H:List Hd) (K:Fr->Mem->Nat->List Hd->Prop):Prop:=zj [] F λF=>yV [] M λM=>gf nx λnx=>BT H λH=>K F M nx H
theorem xV {F:Fr} {M:Mem} {nx:Nat} {H:List Hd} {K:Fr->Mem->Nat->List Hd->Prop} (h:wD F M nx H K): ∃F' M',(∀t,look F' t=look F t)/\(∀k,ae M' k=ae M k)/\K F' M' nx H:=by
  obtain⟨F',J,h2⟩:=DH _ _ _ h
  obtain⟨M',h3,h4⟩:=Dt _ _ _ J
  rw[mq,HG]at h3
  exact⟨F',M',λt=>h2 t rfl,λk=>h4 k rfl,h3⟩
def nj (P:Program) (sg:Bool) (Gl:Nat->SV) (Γ:Table) (N:Nat) (ops:List Oper) (K:Fr->Mem->Nat->Prop):List Oper->Fr->Mem->Nat->List Hd->Prop
  | [],F,M,nx,_=>K F M nx
  |o::r,F,M,nx,H=>
   match uA H o.dst,guardOf N ops F H o with
   |true,.yes=>match oH P sg Gl Γ F M nx H [] o.op with| .ok s=>nj P sg Gl Γ N ops K r (iz N F o.dst s) M nx H|x=>x.run λs u=>wD (iz N F o.dst s) (u++M) (Vq nx u) H λF M nx H=>nj P sg Gl Γ N ops K r F M nx H
   |true,.no=>nj P sg Gl Γ N ops K r (iz N F o.dst (.v undef)) M nx H
   |true,.ask d want=>
    match o.dst,oH P sg Gl Γ F M nx H (fJ H H.length d want) o.op with
    |some t,.ok s=>match Nat.blt t N&&!Nat.beq d t with|true=>nj P sg Gl Γ N ops K r ((t,.aF)::F) M nx (⟨t,d,want,s⟩::H)|false=>False
    |some t,.mH _ s=>match Nat.blt t N&&!Nat.beq d t with|true=>nj P sg Gl Γ N ops K r ((t,.aF)::F) M nx (⟨t,d,want,s⟩::H)|false=>False
    |some t,.dS p s=>match Nat.blt t N&&!Nat.beq d t with|true=>hyps (jS (fJ H H.length d want) F H) (fJ H H.length d want) p/\wD ((t,.aF)::F) M nx (⟨t,d,want,s⟩::H) λF M nx H=>nj P sg Gl Γ N ops K r F M nx H|false=>False
    |some t,.mem p s u=>match Nat.blt t N&&!Nat.beq d t,rN (ae M) u with|true,true=>hyps (jS (fJ H H.length d want) F H) (fJ H H.length d want) p/\wD ((t,.aF)::F) (u++M) (Vq nx u) (⟨t,d,want,s⟩::H) λF M nx H=>nj P sg Gl Γ N ops K r F M nx H|_,_=>False
    |_,_=>False
   |_,_=>False
section
variable {P:Program} {w:World} {ω:Ow} {Gl:Nat->SV} {Γ:Table} {N:Nat} {F:Fr} {M:Mem} {a:Act} {H:List Hd}
structure agn (w:World) (ω:Ow) (N:Nat) (a:Act) (h:Hd):Prop where
  lt:h.slot<N
  yes:a.tmps[h.d]? =some (.bool h.want)-> ∀u,a.tmps[h.slot]? =some u->Den w ω h.s u
  no:a.tmps[h.d]? ≠some (.bool h.want)->a.tmps[h.slot]? =some undef
def iU (w:World) (ω:Ow) (N:Nat) (a:Act) (H:List Hd):Prop:= ∀h∈H,agn w ω N a h
def pC (a:Act) (As:List (Nat×Bool)):Prop:= ∀p∈As,a.tmps[p.1]? =some (.bool p.2)
theorem ME: ∀{H:List Hd} {t:Nat} {h:Hd},Bv H t=some h->h∈H/\h.slot=t
  | [],_,_,e=>by cases e
  |x::r,t,h,e=>by
   unfold Bv at e
   split at e
   · next hb=>
     obtain rfl:=Option.some.inj e
     exact⟨by simp,Nat.eq_of_beq_eq_true hb⟩
   · obtain⟨J,h2⟩:=ME e
     exact⟨by simp[J],h2⟩
theorem qx (hH:iU w ω N a H): ∀(n d:Nat) (want:Bool),a.tmps[d]? =some (.bool want)->pC a (fJ H n d want)
  |0,d,want,h=>λp hp=>by
   simp[fJ]at hp;subst hp;exact h
  |n+1,d,want,h=>λp hp=>by
   simp only[fJ,List.mem_cons]at hp
   rcases hp with rfl|hp
   · exact h
   · split at hp
     · next h' hf=>
       obtain⟨J,h2⟩:=ME hf
       refine qx hH n h'.d h'.want ?_ p hp
       rcases Classical.em (a.tmps[h'.d]? =some (.bool h'.want))with e|e
       · exact e
       · have:=(hH h' J).no e
         rw[h2,h]at this
         cases this
     · cases hp
theorem acK {a b:Bool} (h:Vp a b=true):a=b:=by cases a<;>cases b<;>first|rfl|cases h
theorem aaX {As:List (Nat×Bool)} (hA:pC a As) {d:Nat} {want:Bool} (h:JA As d want=true):a.tmps[d]? =some (.bool want):=by
  unfold JA at h
  rw[List.any_eq_true]at h
  obtain⟨p,hp,e⟩:=h
  rw[Bool.and_eq_true]at e
  have:=hA p hp
  rw[Nat.eq_of_beq_eq_true e.1,acK e.2]at this
  exact this
theorem qo (hF:eH w ω N F a.tmps) {As:List (Nat×Bool)} (hA:pC a As): ∀(H:List Hd),iU w ω N a H->eH w ω N (jS As F H) a.tmps
  | [],_=>hF
  |h::r,hH=>by
   have ih:=qo hF hA r λh' hh=>hH h' (by simp[hh])
   unfold jS
   split
   · next hi=>exact ih.tell (hH h (by simp)).lt ((hH h (by simp)).yes (aaX hA hi))
   · exact ih
theorem A4 (hF:eH w ω N F a.tmps) {p:Prop}: ∀(As:List (Nat×Bool)),pC a As->hyps F As p->p
  | [],_,h=>h
  |q::r,hA,h=>by
   have ih:=A4 hF (p:=p) r λx hx=>hA x (by simp[hx])
   unfold hyps at h
   split at h
   · next b hb=>
     have J:=hA q (by simp)
     have h2:=hF.den _ _ J
     rw[hb]at h2
     have h3:(q.2:Bool)=b:=by cases h2;rfl
     exact ih (h h3.symm)
   · exact ih h
theorem M_ (hF:eH w ω N F a.tmps) {d:Nat} {s:SV} (h:look F d=s) (hs:s≠ .aF): ∃u,a.tmps[d]? =some u/\Den w ω s u:=by
  rcases Nat.lt_or_ge d a.tmps.size with hd|hd
  · exact⟨a.tmps[d],by simp[hd],by rw[<-h];exact hF.den d _ (by simp[hd])⟩
  · exact absurd (h.symm.trans (hF.out d (by rw[<-hF.size];exact hd))) hs
theorem pC.append {As Bs:List (Nat×Bool)} (h:pC a As) (k:pC a Bs):pC a (As++Bs):=λp hp=>(List.mem_append.1 hp).elim (h p) (k p)
inductive BW (ops:Array Oper) (a:Act) (o:Oper):Gd->Prop where
  |yes (h:Region.wanted o (yielded ops a.tmps)=true):BW ops a o .yes
  |no (h:Region.wanted o (yielded ops a.tmps)=false):BW ops a o .no
  |ask (d:Nat) (want:Bool) (h:Region.wanted o (yielded ops a.tmps)=true↔a.tmps[d]? =some (.bool want)):BW ops a o (.ask d want)
  |bad:BW ops a o .bad
theorem G_ {ops:Array Oper} (hF:eH w ω N F a.tmps) (H:List Hd) (o:Oper):BW ops a o (guardOf N ops.toList F H o):=by
  have get: ∀(d:Nat),d<N-> ∃x,a.tmps[d]? =some x/\Den w ω (look F d) x:=by
    intro d hd
    have:d<a.tmps.size:=by rw[hF.size];exact hd
    exact⟨a.tmps[d],by simp[this],hF.den d _ (by simp[this])⟩
  have wanted: ∀{j:Nat} {want:Bool} {oj:Oper} {d:Nat},o.guard=some (j,want)->ops.toList[j]? =some oj->oj.dst=some d->
   (Region.wanted o (yielded ops a.tmps)=true↔a.tmps[d]? =some (.bool want)):=by
    intro j want oj d hg hj hd
    have la:ops[j]? =some oj:=by simpa using hj
    simp only[Region.wanted,hg,yielded,la,Option.bind_some,hd]
    cases hx:a.tmps[d]? with
    |none=>simp
    |some x=>cases x<;>simp
  have UO: ∀{d:Nat} {want:Bool},(Region.wanted o (yielded ops a.tmps)=true↔a.tmps[d]? =some (.bool want))-> ∀{x:Value},a.tmps[d]? =some x->x≠ .bool want->Region.wanted o (yielded ops a.tmps)=false:=by
    intro d want h x hx ba
    cases hw:Region.wanted o (yielded ops a.tmps)with
    |false=>rfl
    |true=>exact absurd (Option.some.inj (hx.symm.trans (h.1 hw))) ba
  unfold guardOf
  split
  · next hg=>exact .yes (by simp[Region.wanted,hg])
  · next j want hg=>
    split
    · next oj hj=>
      split
      · next d hd=>
        have hw:=wanted hg hj hd
        split
        · exact .ask d want hw
        · next b av _ hs=>
          obtain⟨x,J,h2⟩:=get d (Nat.le_of_ble_eq_true av)
          rw[hs]at h2
          obtain rfl:=h2
          split
          · exact .yes (hw.2 J)
          · exact .yes (hw.2 J)
          · next g1 g2=>
            refine .no (UO hw J ?_)
            cases b<;>cases want<;>first|(exact absurd rfl (g1 rfl))|(exact absurd rfl (g2 rfl))|simp
        · exact .ask d want hw
        · next l av _ hs=>
          obtain⟨x,J,h2⟩:=get d (Nat.le_of_ble_eq_true av)
          rw[hs]at h2
          obtain rfl:=h2
          exact .no (UO hw J (by simp))
        · exact .bad
      · exact .bad
    · exact .bad
theorem Ze {t:Nat} (h:uA H (some t)=true): ∀x∈H,x.d≠t/\x.slot≠t:=by
  intro x hx
  simp only[uA,List.all_eq_true]at h
  have:=h x hx
  simp only[Bool.and_eq_true,Bool.not_eq_true']at this
  refine⟨λe=>?_,λe=>?_⟩
  · have J:=this.1;rw[e,Nat.beq_refl]at J;cases J
  · have J:=this.2;rw[e,Nat.beq_refl]at J;cases J
theorem iU.put (hH:iU w ω N a H) {d:Option Tmp} (hf:uA H d=true) (v:Value):iU w ω N (a.put d v) H:=by
  cases d with
  |none=>exact hH
  |some t=>
   intro x hx
   obtain⟨J,h2⟩:=Ze hf x hx
   have e1:(a.put (some t) v).tmps[x.d]? =a.tmps[x.d]? :=by simp only[Act.put,Array.getElem?_setIfInBounds_ne (Ne.symm J)]
   have e2:(a.put (some t) v).tmps[x.slot]? =a.tmps[x.slot]? :=by simp only[Act.put,Array.getElem?_setIfInBounds_ne (Ne.symm h2)]
   exact⟨(hH x hx).lt,λh=>by rw[e2];exact(hH x hx).yes (by rw[<-e1];exact h),λh=>by rw[e2];exact(hH x hx).no (by rw[<-e1];exact h)⟩
theorem iU.ext (hH:iU w ω N a H) {w':World} {ao:Ow} (he:Ext w ω w' ao):iU w' ao N a H:=
  λx hx=>⟨(hH x hx).lt,λh u hu=>((hH x hx).yes h u hu).ext he,(hH x hx).no⟩
theorem iU.cons (hH:iU w ω N a H) {t d:Nat} {want:Bool} {s:SV} (hf:uA H (some t)=true) (hN:a.tmps.size=N) (ht:t<N) (hd:d≠t) {v:Value}
    (J:a.tmps[d]? =some (.bool want)->Den w ω s v) (h2:a.tmps[d]? ≠some (.bool want)->v=undef):iU w ω N (a.put (some t) v) (⟨t,d,want,s⟩::H):=by
  intro x hx
  rcases List.mem_cons.1 hx with rfl|hx
  · have e1:(a.put (some t) v).tmps[d]? =a.tmps[d]? :=by simp only[Act.put,Array.getElem?_setIfInBounds_ne (Ne.symm hd)]
    have e2:(a.put (some t) v).tmps[t]? =some v:=by simp only[Act.put];rw[Array.getElem?_setIfInBounds_self_of_lt (by rw[hN];exact ht)]
    refine⟨ht,λh u hu=>?_,λh=>?_⟩
    · simp only[e1]at h
      simp only[e2]at hu
      obtain rfl:=Option.some.inj hu
      exact J h
    · simp only[e1]at h
      show(a.put (some t) v).tmps[t]? =_
      rw[e2,h2 h]
  · exact hH.put hf v x hx
theorem Yf:Den w ω (.v undef) undef:=rfl
theorem HM (hS:Sound P Gl Γ) (h:St P Gl N F M a w ω) (hH:iU w ω N a H) {sg:Bool} {nx:Nat} {As:List (Nat×Bool)} (hA:pC a As) {o:Oper} {K:SV->aX->Prop} (he:(oH P sg Gl Γ F M nx H As o.op).run K):
    ∃s u,rW P w ω M a o s u/\K s u:=by
  have jY: ∀{As},pC a As->Cx P w ω (cX Gl (jS As F H)) M a:=λhA=>⟨(qo h.frame hA H hH).cX h.fe,h.mem⟩
  unfold oH at he
  split at he
  · next c x y ho=>
    refine I4 ?_ he
    clear he
    intro K' he
    unfold HI at he
    split at he
    · next d=>
      split at he
      · next b hb=>
        split at he
        · next p r hp hr=>
          obtain⟨u,hu,hd⟩:=M_ (qo h.frame hA H hH) hb (by simp)
          obtain rfl:=hd
          have ec:a.eval (.tmp d)= .bool b:=by
            simp only[Act.eval,Array.getD_eq_getD_getElem?,hu];rfl
          refine⟨.v (.bool (bif b then p else r)),.bool (bif b then p else r),?_,rfl,he⟩
          cases b with
          |true=>
           have tG:=(qx hH H.length d true hu).append hA
           have ex:=m9 hp ((jY tG).val x)
           simp[execOp,ho,ec,asBool,ex]
          |false=>
           have tG:=(qx hH H.length d false hu).append hA
           have ey:=m9 hr ((jY tG).val y)
           simp[execOp,ho,ec,asBool,ey]
        · exact he.elim
      · exact A3 (jY hA) ho he
    · exact he.elim
  · exact acI hS h.fe (jY hA) he
def BQ (P:Program) (Gl:Nat->SV) (N:Nat) (S:List Nat) (a0:Act) (w1:World) (bZ:Ow) (K:Fr->Mem->Nat->Prop) (a:Act) (w:World):Prop:=
  ∃ω F M nx,St P Gl N F M a w ω/\Ext w1 bZ w ω/\dN S a0 a/\K F M nx
theorem St.congr (h:St P Gl N F M a w ω) {F':Fr} {M':Mem} (hF: ∀t,look F' t=look F t) (hM: ∀k,ae M' k=ae M k):St P Gl N F' M' a w ω:=
  ⟨⟨h.frame.size,λi u hu=>by rw[hF];exact h.frame.den i u hu,λi hi=>by rw[hF];exact h.frame.out i hi⟩,h.fe,h.mem.congr hM,h.defers⟩
theorem sG (hS:Sound P Gl Γ) {sg:Bool} {ops:Array Oper} {Q:Exit->Act->World->Prop} {K:Fr->Mem->Nat->Prop} {S:List Nat} {a0:Act} {w1:World} {bZ:Ow}
    (hQ: ∀a w,BQ P Gl N S a0 w1 bZ K a w->Q .normal a w):
    ∀(r:List Oper) (F:Fr) (M:Mem) (nx:Nat) (H:List Hd) (a:Act) (w:World) (ω:Ow),(∀o∈r,∀t,o.dst=some t->t∈S)->St P Gl N F M a w ω->iU w ω N a H->Ext w1 bZ w ω->dN S a0 a->
     nj P sg Gl Γ N ops.toList K r F M nx H->wpList P ops Q r a w
  | [],F,M,nx,H,a,w,ω,_,h,_,hg,hk,he=>hQ a w ⟨ω,F,M,nx,h,hg,hk,he⟩
  |o::r,F,M,nx,H,a,w,ω,hd,h,hH,hg,hk,he=>by
   have Cs: ∀t,o.dst=some t->t∈S:=hd o (by simp)
   have Ct: ∀o∈r,∀t,o.dst=some t->t∈S:=λo ho=>hd o (by simp[ho])
   have l_:=G_ (ops:=ops) h.frame H o
   unfold nj at he
   split at he
   · next dW lb=>
     rw[lb]at l_
     cases l_ with
     |yes hw=>
      unfold wpList
      rw[if_pos hw]
      refine .inl ?_
      split at he
      · next s0 heq=>
        obtain⟨s,u,jK,rfl,rfl⟩:=HM hS h hH (As:= []) (K:=λs u=>s=s0/\u= []) (λp hp=>by cases hp) (by rw[heq];exact⟨rfl,rfl⟩)
        refine jK.wp h.mem ?_
        intro v w' ao bC nz
        exact sG hS hQ r _ _ _ H _ w' ao Ct ((h.step bC).put nz) ((hH.ext bC.ext).put dW v) (hg.trans bC.ext) (hk.put Cs v) he
      · obtain⟨s,u,jK,EZ⟩:=HM hS h hH (λp hp=>by cases hp) he
        refine jK.wp h.mem ?_
        intro v w' ao bC nz
        obtain⟨F',M',hF,hM,hc⟩:=xV EZ
        exact sG hS hQ r _ _ _ H _ w' ao Ct (((h.step bC).put nz).congr hF hM) ((hH.ext bC.ext).put dW v) (hg.trans bC.ext) (hk.put Cs v) hc
   · next dW lb=>
     rw[lb]at l_
     cases l_ with
     |no hw=>
      unfold wpList
      rw[if_neg (by rw[hw];exact Bool.false_ne_true)]
      exact sG hS hQ r _ M _ H _ w ω Ct (h.put Yf) (hH.put dW undef) hg (hk.put Cs undef) he
   · next d want dW lb=>
     rw[lb]at l_
     cases l_ with
     |ask _ _ hw=>
      have key: ∃t s u dH F' M',o.dst=some t/\t<N/\d≠t/\rN (ae M) u=true/\(a.tmps[d]? =some (.bool want)->(oH P sg Gl Γ F M nx H (fJ H H.length d want) o.op).run (λs' u'=>s'=s/\u'=u))/\
       (∀q,look F' q=look ((t,.aF)::F) q)/\(∀q,ae M' q=ae (u++M) q)/\nj P sg Gl Γ N ops.toList K r F' M' dH (⟨t,d,want,s⟩::H):=by
        have ld: ∀{t:Nat},(Nat.blt t N&&!Nat.beq d t)=true->t<N/\d≠t:=by
          intro t ht
          rw[Bool.and_eq_true,Bool.not_eq_true']at ht
          exact⟨Nat.le_of_ble_eq_true ht.1,λe=>by rw[e,Nat.beq_refl]at ht;cases ht.2⟩
        split at he
        · next t s fU hr=>
          split at he
          · next hc=>exact⟨t,s,[],nx,_,_,fU,(ld hc).1,(ld hc).2,rfl,λ_=>by rw[hr];exact⟨rfl,rfl⟩,λ_=>rfl,λ_=>rfl,he⟩
          · exact he.elim
        · next t p s fU hr=>
          split at he
          · next hc=>exact⟨t,s,[],nx,_,_,fU,(ld hc).1,(ld hc).2,rfl,λ_=>by rw[hr];exactλ_=>⟨rfl,rfl⟩,λ_=>rfl,λ_=>rfl,he⟩
          · exact he.elim
        · next t p s fU hr=>
          split at he
          · next hc=>
            obtain⟨F',M',hF,hM,Kf⟩:=xV he.2
            refine⟨t,s,[],nx,F',M',fU,(ld hc).1,(ld hc).2,rfl,λjt=>?_,hF,hM,Kf⟩
            rw[hr]
            have hA:=qx hH H.length d want jt
            exact⟨A4 (qo h.frame hA H hH) _ hA he.1,rfl,rfl⟩
          · exact he.elim
        · next t p s u fU hr=>
          split at he
          · next hc hu=>
            obtain⟨F',M',hF,hM,Kf⟩:=xV he.2
            refine⟨t,s,u,_,F',M',fU,(ld hc).1,(ld hc).2,hu,λjt=>?_,hF,hM,Kf⟩
            rw[hr]
            have hA:=qx hH H.length d want jt
            exact⟨A4 (qo h.frame hA H hH) _ hA he.1,rfl,rfl⟩
          · exact he.elim
        · exact he.elim
      obtain⟨t,s,u,dH,F',M',fU,ht,FK,hu,gw,hF,hM,EZ⟩:=key
      rw[fU]at dW
      by_cases jt:a.tmps[d]? =some (.bool want)
      · unfold wpList
        rw[if_pos (hw.2 jt)]
        obtain⟨s',u',jK,rfl,rfl⟩:=HM hS h hH (qx hH H.length d want jt) (gw jt)
        refine .inl (jK.wp h.mem ?_)
        intro v w' ao hs nz
        have bC:=(h.step hs).aF ht v
        have Kg:=(hH.ext hs.ext).cons (t:=t) (d:=d) (want:=want) (s:=s') dW h.frame.size ht FK (v:=v) (λ_=>nz) (λhn=>absurd jt hn)
        have Cu:=hk.put Cs v
        rw[fU]at Cu⊢
        exact sG hS hQ r _ _ _ _ _ w' ao Ct (bC.congr hF hM) Kg (hg.trans hs.ext) Cu EZ
      · have Ka:Region.wanted o (yielded ops a.tmps)=false:=by
          cases hx:Region.wanted o (yielded ops a.tmps)with
          |false=>rfl
          |true=>exact absurd (hw.1 hx) jt
        unfold wpList
        rw[if_neg (by rw[Ka];exact Bool.false_ne_true)]
        have bC:=(h.step (Dn h.mem hu)).aF ht undef
        have Kg:=hH.cons (t:=t) (d:=d) (want:=want) (s:=s) dW h.frame.size ht FK (v:=undef) (λhn=>absurd hn jt) (λ_=>rfl)
        have Cu:=hk.put Cs undef
        rw[fU]at Cu⊢
        exact sG hS hQ r _ _ _ _ _ w ω Ct (bC.congr hF hM) Kg hg Cu EZ
   · exact he.elim
end
end Go.Sy
set_option linter.unusedVariables false
set_option linter.unusedSimpArgs false
namespace Go.Sy
open Go.RowKit
def gI (m:Nat->bk) (κ:List Nat):Nat->Nat->Path->Option (Nat×Nat):=λk s p=>
  match p with
  |none=>pD m κ k s none
  |some _=>none
def oK:Nat->(Nat->Prop)->Prop
  |0,_=>True
  |n+1,p=>oK n p/\p n
theorem m5: ∀{n:Nat} {p:Nat->Prop},oK n p-> ∀j,j<n->p j
  |0,_,_,_,h=>absurd h (by omega)
  |n+1,p,⟨J,h2⟩,j,h=>by
   rcases Nat.lt_or_ge j n with h'|h'
   · exact m5 J j h'
   · obtain rfl:j=n:=by omega
     exact h2
def Cp (x y:Value):Prop:=
  match x,y with
  | .int k a,.int k' b=>match we k k' with|true=>a=b|false=>False
  | .string a,.string b=>a=b
  | .bool a,.bool b=>a=b
  |x,y=>x=y
theorem Ik {x y:Value} (h:Cp x y):x=y:=by
  unfold Cp at h
  split at h
  · split at h
    · next hk=>rw[AI hk,h]
    · exact h.elim
  · rw[h]
  · rw[h]
  · exact h
def I2:Path->Path->Bool
  |none,none=>true
  |some (i,j),some (i',j')=>Nat.beq i i'&&Nat.beq j j'
  |_,_=>false
theorem Za {p q:Path} (h:I2 p q=true):p=q:=by
  cases p with
  |none=>cases q<;>first|rfl|cases h
  |some x=>
   cases q with
   |none=>cases h
   |some y=>
    simp only[I2,Bool.and_eq_true]at h
    rw[Prod.ext (Nat.eq_of_beq_eq_true h.1) (Nat.eq_of_beq_eq_true h.2)]
def qB:Bool->Bool->Bool
  |true,false=>false
  |_,_=>true
def Kc (t tf:Nat) (e z:Int):SV->Prop
  | .v .nilIface=>e=0/\z= -1
  | .v (.iface t' (.int .i64 c))=>match Nat.beq t' t with|true=>c≠0/\e=c/\z= -1|false=>False
  | .er t' Kd e' z'=>match Nat.beq t' t,Nat.beq Kd tf with|true,true=>e'=e/\z'=z|_,_=>False
  | .ic t' (.pt false n f)=>
    match Nat.beq t' tf,Nat.ble 2 n,f 0,f 1 with
    |true,true,.v (.int .i64 a),.v (.iface t2 (.int .i64 c))=>(match Nat.beq t2 t with|true=>c≠0/\0<=a/\e=c/\z=a|false=>False)
    |true,true,.v (.int .i64 a),.er t2 _ c b=>(match Nat.beq t2 t with|true=>c≠0/\b= -1/\0<=a/\e=c/\z=a|false=>False)
    |_,_,_,_=>False
  |_=>False
theorem oy {w:World} {o:Ow} {t tf:Nat} {e z:Int} {a:SV} {u:Value} (h:Kc t tf e z a) (hd:Den w o a u):Den w o (.er t tf e z) u:=by
  unfold Kc at h
  split at h
  · exact .inl ⟨h.1,h.2,hd⟩
  · split at h
    · next hb=>obtain rfl:=Nat.eq_of_beq_eq_true hb;exact .inr (.inl ⟨by rw[h.2.1];exact h.1,h.2.2,by rw[h.2.1];exact hd⟩)
    · exact h.elim
  · split at h
    · next J h2=>rw[<-Nat.eq_of_beq_eq_true J,<-Nat.eq_of_beq_eq_true h2,<-h.1,<-h.2];exact hd
    · exact h.elim
  · split at h
    · next hb hn h0 J=>
      split at h
      · next nJ=>
        obtain rfl:=Nat.eq_of_beq_eq_true hb
        obtain rfl:=Nat.eq_of_beq_eq_true nJ
        have hn:=Nat.le_of_ble_eq_true hn
        obtain⟨hc,ha,rfl,rfl⟩:=h
        obtain⟨x,rfl,q,rfl,hj⟩:=hd
        obtain⟨x0,c0,n0,d0⟩:=hj 0 (by omega)
        obtain⟨x1,c1,_,d1⟩:=hj 1 (by omega)
        rw[h0]at d0
        rw[J]at d1
        obtain rfl:=d0
        obtain rfl:=d1
        exact .inr (.inr ⟨hc,ha,q,rfl,n0.1,n0.2 rfl,c0,c1⟩)
      · exact h.elim
    · next hb hn h0 J=>
      split at h
      · next nJ=>
        obtain rfl:=Nat.eq_of_beq_eq_true hb
        obtain rfl:=Nat.eq_of_beq_eq_true nJ
        have hn:=Nat.le_of_ble_eq_true hn
        obtain⟨hc,hb1,ha,rfl,rfl⟩:=h
        obtain⟨x,rfl,q,rfl,hj⟩:=hd
        obtain⟨x0,c0,n0,d0⟩:=hj 0 (by omega)
        obtain⟨x1,c1,_,d1⟩:=hj 1 (by omega)
        rw[h0]at d0
        rw[J]at d1
        obtain rfl:=d0
        rcases d1 with⟨g,_⟩|⟨_,_,rfl⟩|⟨_,g,_⟩
        · exact absurd g hc
        · exact .inr (.inr ⟨hc,ha,q,rfl,n0.1,n0.2 rfl,c0,c1⟩)
        · omega
      · exact h.elim
    · exact h.elim
  · exact h.elim
def fI (a b:SV):Prop:=
  match b with
  | .aF=>True
  | .er t tf e z=>Kc t tf e z a
  |b=>
   match a with
   | .v x=>(match b with| .v y=>Cp x y| .bl y=>Cp x (.bool y)| .sl _ _ n _=>(match x with| .slice none 0 0=>n=0|_=>False)|_=>False)
   | .bl x=>(match b with| .v y=>Cp (.bool x) y| .bl y=>x=y|_=>False)
   | .aO k s p e n=>(match b with| .aO k' s' p' e' n'=>(match Nat.beq k k',Nat.beq s s',I2 p p' with|true,true,true=>e=e'/\n=n'|_,_,_=>False)|_=>False)
   | .ag n f=>(match b with| .ag n' f'=>(match Nat.beq n n' with|true=>oK n' λj=>fI (f j) (f' j)|false=>False)|_=>False)
   | .tp n f=>(match b with| .tp n' f'=>(match Nat.beq n n' with|true=>oK n' λj=>fI (f j) (f' j)|false=>False)|_=>False)
   | .pt q n f=>(match b with| .pt q' n' f'=>(match Nat.ble n' n,qB q q' with|true,true=>oK n' λj=>fI (f j) (f' j)|_,_=>False)|_=>False)
   | .ic t s=>(match b with| .ic t' s'=>(match Nat.beq t t' with|true=>fI s s'|false=>False)|_=>False)
   | .sl q sz n f=>(match b with| .sl q' ia n' f'=>(match Nat.beq sz ia,qB q q' with|true,true=>n=n'/\ ∀i,i<n'->oK ia λj=>fI (f i j) (f' i j)|_,_=>False)|_=>False)
   | .fn id n f=>(match b with| .fn Cq n' f'=>(match Nat.beq id Cq,Nat.beq n n' with|true,true=>oK n' λj=>fI (f j) (f' j)|_,_=>False)|_=>False)
   | .bm id s=>(match b with| .bm Cq s'=>(match Nat.beq id Cq with|true=>fI s s'|false=>False)|_=>False)
   | .pa q sz n f=>(match b with| .pa q' ia n' f'=>(match Nat.beq sz ia,qB q q' with|true,true=>n=n'/\ ∀i,i<n'->oK ia λj=>fI (f i j) (f' i j)|_,_=>False)|_=>False)
   | .es=>(match b with| .es=>True| .sl _ _ n _=>n=0|_=>False)
   |a=>a=b
theorem vS {w:World} {a:SV}: ∀{b:SV} {o:Ow} {u:Value},fI a b->Den w o a u->Den w o b u:=by
  induction a with
  |v x=>
   intro b o u h hd
   cases b<;>first|trivial|exact oy h hd|exact h.elim|skip
   · obtain rfl:=Ik h;exact hd
   · have:=Ik h;subst this;exact hd
   · next q sz n f=>
     simp only[fI]at h
     split at h
     · subst h
       have hd:u= .slice none 0 0:=hd
       subst hd
       exact⟨none,0,rfl,Nat.le_refl _,Nat.zero_le _,.inl rfl⟩
     · exact h.elim
  |bl x=>
   intro b o u h hd
   cases b<;>first|trivial|exact oy h hd|exact h.elim|skip
   · obtain rfl:=Ik h;exact hd
   · have h:_=_:=h;subst h;exact hd
  |es=>
   intro b o u h hd
   obtain⟨p,rfl⟩:=hd
   cases b<;>first|trivial|exact oy h ⟨p,rfl⟩|exact h.elim|skip
   · have h:_=0:=h
     subst h
     exact⟨p,0,rfl,Nat.le_refl _,Nat.zero_le _,.inl rfl⟩
   · exact⟨p,rfl⟩
  |aO k s p e n=>
   intro b o u h hd
   cases b<;>first|trivial|exact oy h hd|exact h.elim|skip
   simp only[fI]at h
   split at h
   · next J h2 h3=>rw[<-Nat.eq_of_beq_eq_true J,<-Nat.eq_of_beq_eq_true h2,<-Za h3,<-h.1,<-h.2];exact hd
   · exact h.elim
  |pt q n f ih=>
   intro b o u h hd
   cases b<;>first|trivial|exact oy h hd|exact h.elim|skip
   next q' n' f'=>
   simp only[fI]at h
   split at h
   · next J h2=>
     have J:=Nat.le_of_ble_eq_true J
     obtain⟨a,rfl,hj⟩:=hd
     refine⟨a,rfl,λj bz=>?_⟩
     obtain⟨x,hc,hf,hx⟩:=hj j (by omega)
     have hq:q'=false->q=false:=λe=>by subst e;cases q<;>first|rfl|cases h2
     exact⟨x,hc,⟨hf.1,λe=>hf.2 (hq e)⟩,ih j (m5 h j bz) hx⟩
   · exact h.elim
  |ag n f ih=>
   intro b o u h hd
   cases b<;>first|trivial|exact oy h hd|exact h.elim|skip
   simp only[fI]at h
   split at h
   · next J=>
     obtain rfl:=Nat.eq_of_beq_eq_true J
     obtain⟨cs,rfl,hs,hj⟩:=hd
     exact⟨cs,rfl,hs,λj bz=>let⟨x,e1,e2⟩:=hj j bz;⟨x,e1,ih j (m5 h j bz) e2⟩⟩
   · exact h.elim
  |tp n f ih=>
   intro b o u h hd
   cases b<;>first|trivial|exact oy h hd|exact h.elim|skip
   simp only[fI]at h
   split at h
   · next J=>
     obtain rfl:=Nat.eq_of_beq_eq_true J
     obtain⟨cs,rfl,hs,hj⟩:=hd
     exact⟨cs,rfl,hs,λj bz=>let⟨x,e1,e2⟩:=hj j bz;⟨x,e1,ih j (m5 h j bz) e2⟩⟩
   · exact h.elim
  |fn id n f ih=>
   intro b o u h hd
   cases b<;>first|trivial|exact oy h hd|exact h.elim|skip
   simp only[fI]at h
   split at h
   · next h0 J=>
     obtain rfl:=Nat.eq_of_beq_eq_true h0
     obtain rfl:=Nat.eq_of_beq_eq_true J
     obtain⟨cs,rfl,hs,hj⟩:=hd
     exact⟨cs,rfl,hs,λj bz=>let⟨x,e1,e2⟩:=hj j bz;⟨x,e1,ih j (m5 h j bz) e2⟩⟩
   · exact h.elim
  |bm id s ih=>
   intro b o u h hd
   cases b<;>first|trivial|exact oy h hd|exact h.elim|skip
   simp only[fI]at h
   split at h
   · next J=>
     obtain rfl:=Nat.eq_of_beq_eq_true J
     obtain⟨x,rfl,hx⟩:=hd
     exact⟨x,rfl,ih h hx⟩
   · exact h.elim
  |pa q sz n f ih=>
   intro b o u h hd
   cases b<;>first|trivial|exact oy h hd|exact h.elim|skip
   next q' ia n' f'=>
   simp only[fI]at h
   split at h
   · next J h2=>
     obtain rfl:=Nat.eq_of_beq_eq_true J
     obtain⟨rfl,h⟩:=h
     obtain⟨a,rfl,hk⟩:=hd
     refine⟨a,rfl,λi hi j bz=>?_⟩
     obtain⟨x,hc,hf,hx⟩:=hk i hi j bz
     have hq:q'=false->q=false:=λe=>by subst e;cases q<;>first|rfl|cases h2
     exact⟨x,hc,⟨hf.1,λe=>hf.2 (hq e)⟩,ih i j (m5 (h i hi) j bz) hx⟩
   · exact h.elim
  |ic t s ih=>
   intro b o u h hd
   cases b<;>first|trivial|exact oy h hd|exact h.elim|skip
   simp only[fI]at h
   split at h
   · next J=>
     obtain rfl:=Nat.eq_of_beq_eq_true J
     obtain⟨x,rfl,hx⟩:=hd
     exact⟨x,rfl,ih h hx⟩
   · exact h.elim
  |sl q sz n f ih=>
   intro b o u h hd
   cases b<;>first|trivial|exact oy h hd|exact h.elim|skip
   next q' ia n' f'=>
   simp only[fI]at h
   split at h
   · next J h2=>
     obtain rfl:=Nat.eq_of_beq_eq_true J
     obtain⟨rfl,h⟩:=h
     obtain⟨p,cap,rfl,jF,iH,hj⟩:=hd
     refine⟨p,cap,rfl,jF,iH,hj.imp id ?_⟩
     rintro ⟨a,e,hk⟩
     refine⟨a,e,λi hi j bz=>?_⟩
     obtain⟨x,hc,hf,hx⟩:=hk i hi j bz
     have hq:q'=false->q=false:=λe=>by subst e;cases q<;>first|rfl|cases h2
     exact⟨x,hc,⟨hf.1,λe=>hf.2 (hq e)⟩,ih i j (m5 (h i hi) j bz) hx⟩
   · exact h.elim
  |_=>intro b o u h hd;cases b<;>first|trivial|exact oy h hd|(have h:_=_:=h;cases h;exact hd)|(have h:_=_:=h;cases h)
theorem acH {a b:SV} (h:fI a b) (hb:cW b=true):a=b:=by
  cases b with
  |il sz n f=>cases a<;>first|exact h.elim|exact h
  |_=>cases hb
def zy:SV->SV->Prop
  | .il sz n f,.il ia n' f'=>match Nat.beq sz ia with|true=>n=n'/\ ∀a,a<n'->oK ia λb=>fI (f a b) (f' a b)|false=>False
  | .il _ _ _,_=>False
  |a,b=>fI a b
def Cr:bc->bc->Prop
  | .cells l,.cells l'=>match Nat.beq l.length l'.length with|true=>oK l'.length λj=>zy (aL l j) (aL l' j)|false=>False
  | .row sz n f,.row ia n' f'=>match Nat.beq sz ia with|true=>n=n'/\ ∀i,i<n'->oK ia λj=>zy (f i j) (f' i j)|false=>False
  |_,_=>False
def pH:List bc->List bc->Prop
  | [],[]=>True
  |a::r,b::t=>Cr a b/\pH r t
  |_,_=>False
theorem D4: ∀{l l':List bc},pH l l'->l.length=l'.length
  | [],[],_=>rfl
  |_::_,_::_,⟨_,h⟩=>by simp[D4 h]
  | [],_::_,h=>h.elim
  |_::_,[],h=>h.elim
theorem D5: ∀{l l':List bc},pH l l'-> ∀{q:Nat} {a b:bc},l[q]? =some a->l'[q]? =some b->Cr a b
  | [],_,_,_,_,_,h,_=>by simp at h
  |_::_,_::_,⟨J,_⟩,0,a,b,ha,hb=>by simp at ha hb;subst ha;subst hb;exact J
  |_::_,_::_,⟨_,h2⟩,q+1,a,b,ha,hb=>D5 h2 (by simpa using ha) (by simpa using hb)
  |_::_,[],h,_,_,_,_,_=>h.elim
def rP:bc->Nat->Nat->Bool
  | .row sz n _,i,j=>Nat.blt i n&&Nat.blt j sz
  |_,_,_=>true
def fp (ω:Ow) (κ:List Nat) (B:List bc):Ow:=
  let β:Nat->Path->Option Loc:=λq p=>
    match κ[q]? with
    |some k=>(match p with|none=>ω.β k none|some ij=>match rP (B.getD q .dead) ij.1 ij.2 with|true=>ω.β k (some ij)|false=>none)
    |none=>none
  ⟨ω.A,ω.Z,β,λ_=>(0,0)⟩
section
variable {P:Program} {w:World} {ω:Ow} {M:Mem}
theorem yr {κ:List Nat} {B:List bc} {q:Nat} {p:Path} {L:Loc} (h:(fp ω κ B).β q p=some L): ∃k,κ[q]? =some k/\ω.β k p=some L/\ ∀i j,p=some (i,j)->rP (B.getD q .dead) i j=true:=by
  simp only[fp]at h
  split at h
  · next k hk=>
    cases p with
    |none=>exact⟨k,hk,h,λ_ _ e=>by cases e⟩
    |some ij=>
     simp only at h
     split at h
     · next hr=>exact⟨k,hk,h,λi j e=>by obtain rfl:=Option.some.inj e;exact hr⟩
     · cases h
  · cases h
theorem Dr {κ:List Nat} {B:List bc} {q k:Nat} (hk:κ[q]? =some k):(fp ω κ B).β q none=ω.β k none:=by
  show(match κ[q]? with
    |some k=>_
    |none=>none)=_
  rw[hk]
theorem GJ {κ:List Nat} {B:List bc} {q k i j:Nat} (hk:κ[q]? =some k) (hr:rP (B.getD q .dead) i j=true):(fp ω κ B).β q (some (i,j))=ω.β k (some (i,j)):=by
  show(match κ[q]? with
    |some k=>(match rP (B.getD q .dead) i j with|true=>ω.β k (some (i,j))|false=>none)
    |none=>none)=_
  rw[hk]
  simp only[hr]
theorem Zb (hm:aR w ω M) (κ:List Nat) (B:List bc):uE ω (fp ω κ B) (gI (ae M) κ):=by
  intro k s p k' s' h
  unfold gI at h
  split at h
  · unfold pD at h
    split at h
    · next q hq=>
      split at h
      · next bF=>
        simp only[Option.some.injEq,Prod.mk.injEq]at h
        obtain⟨rfl,rfl⟩:=h
        exact⟨kO hm bF,rfl,Dr (ox hq)⟩
      · cases h
    · cases h
  · cases h
theorem AD (κ:List Nat) (B:List bc):Ext w ω.bare w (fp ω κ B).bare:=
  ⟨rfl,rfl,rfl,λ_ _ _=>rfl,λ_ _ h=>h,λ_ _ _ h=>h,Nat.le_refl _,λ_=>⟨Nat.le_refl _,Nat.le_refl _⟩,λ_ _ _ h=>(by cases h),λ_ h=>h⟩
theorem aaU (κ:List Nat) (B:List bc):BU false w ω (fp ω κ B):=λ_ _ _ _ J h2=>⟨J,h2⟩
theorem AM (hm:aR w ω M) (κ:List Nat) (B:List bc) {s:SV} {x:Value} (h:Den w ω s x):Den w (fp ω κ B) (dB (gI (ae M) κ) false s) x:=
  DO (Zb hm κ B) (λ_=>AD κ B) (aaU κ B) h
theorem Ro {sz n:Nat} {f:Nat->Nat->SV} {b:SV} (h:zy (.il sz n f) b): ∃f',b= .il sz n f'/\ ∀i,i<n-> ∀j,j<sz->fI (f i j) (f' i j):=by
  cases b with
  |il ia n' f'=>
   simp only[zy]at h
   split at h
   · next hs=>
     obtain rfl:=Nat.eq_of_beq_eq_true hs
     obtain⟨rfl,h⟩:=h
     exact⟨f',rfl,λi hi j hj=>m5 (h i hi) j hj⟩
   · exact h.elim
  |_=>exact h.elim
theorem NV {k i j:Nat} {a b:SV} {x:Value} (h:zy a b) (hc:cI w ω none k i j a x):cI w ω none k i j b x:=by
  cases dn:cW a with
  |true=>
   cases a with
   |il sz n f=>obtain⟨f',rfl,_⟩:=Ro h;exact hc
   |_=>cases dn
  |false=>
   have h':fI a b:=by cases a<;>first|exact h|cases dn
   rw[gr dn]at hc
   cases hb:cW b with
   |true=>rw[acH h' hb,hb]at dn;cases dn
   |false=>rw[gr hb];exact vS h' hc
theorem Pn (hm:aR w ω M) {κ:List Nat} {B:List bc} (jL:κ.Nodup) (hw: ∀k∈κ,whole (ae M k)=true)
    (ha:pH (κ.map λk=>km (gI (ae M) κ) false (ae M k).b) B):aR w (fp ω κ B) (di 0 B):=by
  have qZ: ∀{q k:Nat},κ[q]? =some k-> ∃b,B[q]? =some b/\B.getD q .dead=b/\Cr (km (gI (ae M) κ) false (ae M k).b) b:=by
    intro q k hk
    have hl:=D4 ha
    rw[List.length_map]at hl
    have hq:=(List.getElem?_eq_some_iff.1 hk).1
    have hb:B[q]? =some B[q]:=List.getElem?_eq_getElem (by omega)
    refine⟨B[q],hb,by rw[List.getD_eq_getElem?_getD,hb];rfl,D5 ha (a:=km (gI (ae M) κ) false (ae M k).b) (by rw[List.getElem?_map,hk];rfl) hb⟩
  have nX: ∀{s:SV} {x:Value},Den w ω s x->Den w (fp ω κ B) (dB (gI (ae M) κ) false s) x:=λh=>AM hm κ B h
  refine⟨(Dw _).symm,?_,hm.fg,hm.dj,hm.gJ,?_,?_,?_,?_,?_⟩
  · rintro b ⟨q,p,L,h,rfl⟩
    obtain⟨k,_,h2,_⟩:=yr h
    exact hm.own _ ⟨k,p,L,h2,rfl⟩
  · intro q p L q' p' L' J h2 e
    obtain⟨k,e1,e2,_⟩:=yr J
    obtain⟨k',e3,e4,_⟩:=yr h2
    obtain⟨rfl,rfl⟩:=hm.inj _ _ _ _ _ _ e2 e4 e
    have:=(AR jL e1).symm.trans (AR jL e3)
    exact⟨Option.some.inj this,rfl⟩
  · intro q p L h
    obtain⟨k,_,h2,_⟩:=yr h
    exact hm.low _ _ _ h2
  · intro q p L h
    obtain⟨k,e1,e2,e3⟩:=yr h
    obtain⟨b,hb,Ke,h_⟩:=qZ e1
    have kZ:=NW (hw k (List.mem_of_getElem? e1))
    obtain⟨r,g1,g2,g3,c,T,g4,g5,g6,g7⟩:=hm.row _ _ _ e2
    rw[kZ]at g7
    have he:ae (di 0 B) q=⟨0,0,none,b⟩:=by rw[mX,hb]
    rw[Ke]at e3
    unfold rowAt at g1⊢
    rw[he]
    have fin: ∀{r':Row},gu b p=some r'->r'.sz=r.sz->r'.n=r.n->(∀i,i<r.n-> ∀j,j<r.sz-> ∀x,iN w ω none k p i j (r.f i j) x->iN w (fp ω κ B) none q p i j (r'.f i j) x)->
     ∃r',gu b p=some r'/\r'.sz=L.sz/\r'.n=L.dh/\qE w (fp ω κ B) none q p L r':=by
      intro r' f1 f2 f3 f4
      refine⟨r',f1,f2.trans g2,f3.trans g3,c,T,g4,g5,g6,λi hi j hj=>?_⟩
      obtain⟨x,x1,x2⟩:=g7 i hi j hj
      exact⟨x,x1,f4 i (by rw[g3];exact hi) j (by rw[g2];exact hj) x x2⟩
    cases pI:(ae M k).b with
    |dead=>exact absurd pI (Pw (hw k (List.mem_of_getElem? e1)))
    |cells l=>
     rw[pI]at h_ g1
     cases p with
     |some ij=>cases g1
     |none=>
      obtain rfl:=Option.some.inj g1
      cases b with
      |dead=>exact h_.elim
      |row _ _ _=>exact h_.elim
      |cells l'=>
       simp only[km,Cr,List.length_map]at h_
       split at h_
       · next hlen=>
         have hlen:=Nat.eq_of_beq_eq_true hlen
         refine fin (r':=⟨l'.length,1,λ_ j=>aL l' j⟩) rfl hlen.symm rfl ?_
         intro i hi j hj x hx
         have hj:j<l.length:=hj
         have hi:i<1:=hi
         have FL:i=0:=by omega
         subst FL
         have hx:cI w ω none k 0 j (aL l j) x:=hx
         have hq:=m5 h_ j (by omega)
         have fo:aL (l.map λs=>dB (gI (ae M) κ) false s) j=dB (gI (ae M) κ) false (aL l j):=by simp[aL,List.getD_eq_getElem?_getD,hj]
         rw[fo]at hq
         show cI w (fp ω κ B) none q 0 j (aL l' j) x
         exact NV hq (Dp nX (GJ e1 (by rw[Ke];rfl)) hx)
       · exact h_.elim
    |row sz n f=>
     rw[pI]at h_ g1
     cases b with
     |dead=>exact h_.elim
     |cells _=>exact h_.elim
     |row ia n' f'=>
      simp only[km,Cr]at h_
      split at h_
      · next bV=>
        obtain rfl:=Nat.eq_of_beq_eq_true bV
        obtain⟨rfl,h_⟩:=h_
        cases p with
        |none=>
         obtain rfl:=Option.some.inj g1
         refine fin (r':=⟨sz,n,f'⟩) rfl rfl rfl ?_
         intro i hi j hj x hx
         have hc:=m5 (h_ i hi) j hj
         have a_:rP (B.getD q .dead) i j=true:=by
           rw[Ke]
           simp only[rP,Bool.and_eq_true]
           exact⟨Nat.ble_eq_true_of_le hi,Nat.ble_eq_true_of_le hj⟩
         have hx:cI w ω none k i j (f i j) x:=hx
         have dO:=Dp (d:=false) nX (GJ (B:=B) e1 a_) hx
         show cI w (fp ω κ B) none q i j (f' i j) x
         exact NV hc dO
        |some ij=>
         obtain⟨i,j⟩:=ij
         have a_:=e3 i j rfl
         simp only[rP,Bool.and_eq_true]at a_
         have hi:i<n:=Nat.le_of_ble_eq_true a_.1
         have hj:j<sz:=Nat.le_of_ble_eq_true a_.2
         have hc:=m5 (h_ i hi) j hj
         have g1:inner ⟨sz,n,f⟩ i j=some r:=g1
         unfold inner at g1
         split at g1
         · next bq n2 g hg=>
           obtain rfl:=Option.some.inj g1
           have hg:f i j= .il bq n2 g:=hg
           rw[hg]at hc
           obtain⟨g',e,hgg⟩:=Ro (show zy (.il bq n2 λa b=>dB (gI (ae M) κ) false (g a b)) (f' i j)from hc)
           refine fin (r':=⟨bq,n2,g'⟩) ?_ rfl rfl ?_
           · show inner ⟨sz,n,f'⟩ i j=_
             unfold inner
             simp only[e]
           · intro a ha b hb x hx
             have hx:Den w ω (g a b) x:=hx
             show Den w (fp ω κ B) (g' a b) x
             exact vS (hgg a ha b hb) (nX hx)
         · cases g1
      · exact h_.elim
  · intro q l hl
    rw[mX]at hl
    cases hb:B[q]? with
    |none=>rw[hb]at hl;cases hl
    |some b=>
     rw[hb]at hl
     have hl:b= .cells l:=hl
     have hlen:=D4 ha
     rw[List.length_map]at hlen
     have hq:=(List.getElem?_eq_some_iff.1 hb).1
     have hk:κ[q]? =some κ[q]:=List.getElem?_eq_getElem (by omega)
     obtain⟨b',dC,_,h_⟩:=qZ hk
     obtain rfl:b=b':=Option.some.inj (hb.symm.trans dC)
     subst hl
     rw[Dr hk]
     cases pI:(ae M κ[q]).b with
     |dead=>rw[pI]at h_;exact h_.elim
     |row _ _ _=>rw[pI]at h_;exact h_.elim
     |cells l0=>exact hm.live _ _ pI
  · intro q i j h
    rw[mX]at h
    split at h<;>cases h
end
end Go.Sy
set_option linter.unusedVariables false
set_option linter.unusedSimpArgs false
namespace Go.Sy
open Go.RowKit
structure Rc where
  fs:List (Nat×SV)
  hs:List Hd
  u:aX
def FH:aX->(aX->Prop)->Prop
  | [],k=>k []
  |p::r,k=>gf p.1 λa=>Ff p.2 λb=>FH r λr=>k ((a,b)::r)
theorem Rl: ∀(l:aX) (k:aX->Prop),FH l k=k l
  | [],_=>rfl
  |s::r,k=>by simp only[FH,mq,Pt,Rl r]
def J' (x:Rc) (k:Rc->Prop):Prop:=match x with|⟨fs,hs,u⟩=>FI fs λfs=>BT hs λhs=>FH u λu=>k ⟨fs,hs,u⟩
theorem acG (x:Rc) (k:Rc->Prop):J' x k=k x:=by cases x;simp only[J',Rm,HG,Rl]
def yY:List Rc->(List Rc->Prop)->Prop
  | [],k=>k []
  |p::r,k=>J' p λa=>yY r λr=>k (a::r)
theorem Pr: ∀(l:List Rc) (k:List Rc->Prop),yY l k=k l
  | [],_=>rfl
  |s::r,k=>by simp only[yY,acG,Pr r]
def cr (rs:List Rc) (j:Nat):Rc:=rs.getD j ⟨[],[],[]⟩
def vF (rs:List Rc) (F:Fr) (E:List Nat):Fr:=E.flatMap (λj=>(cr rs j).fs)++F
def vM (rs:List Rc) (M:Mem) (E:List Nat):Mem:=E.flatMap (λj=>(cr rs j).u)++M
def vH (rs:List Rc) (E:List Nat):List Hd:=E.flatMap λj=>(cr rs j).hs
def EY:Op->Bool
  | .store _ _ _=>true
  | .call {callee:= .builtin .copy,args:=_,argTypes:=_}=>true
  | .call {callee:= .builtin .clear,args:=_,argTypes:=_}=>true
  |_=>false
def jj (N:Nat) (d:Option Nat) (s:SV):List (Nat×SV):=match d with|some t=>(match Nat.blt t N with|true=> [(t,s)]|false=> [])|none=> []
def sS (P:Program) (sg:Bool) (Gl:Nat->SV) (Γ:Table) (N:Nat) (ops:List Oper) (V:Fr) (M:Mem) (H:List Hd) (nx:Nat) (pr:List Nat) (o:Oper):Option (Prop×Rc):=
  match uA H o.dst,guardOf N ops V H o,EY o.op with
  |true,.yes,false=>
   match oH P sg Gl Γ V M nx H [] o.op with
   | .ok s=>some (True,⟨jj N o.dst s,[],[]⟩)
   | .mH _ s=>some (True,⟨jj N o.dst s,[],[]⟩)
   | .dS p s=>some (p,⟨jj N o.dst s,[],[]⟩)
   | .mem p s u=>match kR (ae M) u&&qw (ae M) u with|true=>some (p,⟨jj N o.dst s,[],u⟩)|false=>none
   | .any _ _=>none
   | .bad=>none
  |true,.no,_=>some (True,⟨jj N o.dst (.v undef),[],[]⟩)
  |true,.ask d want,false=>
   match o.dst,oH P sg Gl Γ V M nx H (fJ H H.length d want) o.op with
   |some t,.ok s=>match Nat.blt t N&&!Nat.beq d t with|true=>some (True,⟨[(t,.aF)],[⟨t,d,want,s⟩],[]⟩)|false=>none
   |some t,.mH _ s=>match Nat.blt t N&&!Nat.beq d t with|true=>some (True,⟨[(t,.aF)],[⟨t,d,want,s⟩],[]⟩)|false=>none
   |some t,.dS p s=>match Nat.blt t N&&!Nat.beq d t with|true=>some (hyps (jS (fJ H H.length d want) V H) (fJ H H.length d want) p,⟨[(t,.aF)],[⟨t,d,want,s⟩],[]⟩)|false=>none
   |some t,.mem p s u=>match Nat.blt t N&&!Nat.beq d t,rN (ae M) u&&(kR (ae M) u&&qw (ae M) u)with|true,true=>some (hyps (jS (fJ H H.length d want) V H) (fJ H H.length d want) p,⟨[(t,.aF)],[⟨t,d,want,s⟩],u⟩)|_,_=>none
   |_,_=>none
  |_,_,_=>none
section
variable {P:Program} {w:World} {ω:Ow} {ρ:Operand->SV} {Gl:Nat->SV} {Γ:Table} {N:Nat} {F:Fr} {M:Mem} {a:Act} {H:List Hd}
theorem kA.refl (w:World) (ω:Ow):kA w ω w ω (λk=>k∈([]:aX).map (·.1)):=⟨Cw.refl w,λ_ h=>h,rfl,λ_ _ _=>rfl,λk p L hk=>by simp at hk,rfl⟩
inductive qY (P:Program) (w:World) (ω:Ow) (M:Mem) (a:Act) (o:Oper) (s:SV):aX->Prop where
  |pure (v:Value) (h:(execOp a.eval o).run P w= .ok (.value v) w) (hd:Den w ω s v):qY P w ω M a o s []
  |mem {u:aX} (h:oJ P w ω M a o s u):qY P w ω M a o s u
  |call {u:aX} (h:Bu P w ω M a o s u):qY P w ω M a o s u
  |app {u:aX} (h:qw (ae M) u=true->kR (ae M) u=true->oJ P w ω M a o s u):qY P w ω M a o s u
theorem qY.wp {o:Oper} {s:SV} {u:aX} (hm:aR w ω M) (h:qY P w ω M a o s u) (hf:(kR (ae M) u&&qw (ae M) u)=true) {next:Act->World->Prop} {Q:Exit->Act->World->Prop}
    (hn: ∀v w' ao,bp w ω M w' ao (u++M)->kA w ω w' ao (λk=>k∈u.map (·.1))->Den w' ao s v->next (a.put o.dst v) w'):o.wp P a w next Q:=by
  rw[Bool.and_eq_true]at hf
  obtain⟨hf,FJ⟩:=hf
  unfold Oper.wp
  cases h with
  |pure v h hd=>rw[h];exact hn v w ω (bp.refl hm) (kA.refl _ _) hd
  |app h=>
   obtain⟨n,v,w',ao,J,h2,h3,h4,h5⟩:=h FJ hf
   rw[J]
   rcases h2 with rfl|⟨rfl,rfl⟩
   · exact hn v w' ao h3 h5 h4
   · exact hn _ w' ao h3 h5 h4
  |mem h=>
   obtain⟨n,v,w',ao,J,h2,h3,h4,h5⟩:=h
   rw[J]
   rcases h2 with rfl|⟨rfl,rfl⟩
   · exact hn v w' ao h3 h5 h4
   · exact hn _ w' ao h3 h5 h4
  |call h=>
   obtain⟨id,vs,J,h2⟩:=h
   rw[J]
   unfold wa at h2
   refine h2.mono ?_
   rintro e w' ⟨v,ao,rfl,h3,h4,h5,_⟩
   exact hn v w' ao h3 (h5 hf) h4
theorem Ij {o:Oper} {r:R} {K:SV->aX->Prop} (h: ∀{K':SV->Prop},r.run K'->fR P w ω a o K') (he:r.up.run K): ∃s u,qY P w ω M a o s u/\K s u:=by
  have:r.run (λs=>K s []):=by cases r<;>exact he
  obtain⟨s,v,J,h2,h3⟩:=h this
  exact⟨s,[],.pure v J h2,h3⟩
theorem vU {o:Oper} {x:Option (Prop×SV×aX)} {K:SV->aX->Prop} (h: ∀{p s u},x=some (p,s,u)->p->qY P w ω M a o s u) (he:(pN x).run K): ∃s u,qY P w ω M a o s u/\K s u:=by
  cases x with
  |none=>exact he.elim
  |some x=>exact⟨_,_,h rfl he.1,he.2⟩
theorem aaT (hS:Sound P Gl Γ) (hG: ∀g,Den w ω.bare (Gl g) (.pointer (some ⟨g,0,none⟩))) (h:Cx P w ω ρ M a) {sg:Bool} {nx:Nat} {o:Oper} (hq:EY o.op=false) {K:SV->aX->Prop} (he:(Co P sg Γ ρ (ae M) nx o.op).run K):
    ∃s u,qY P w ω M a o s u/\K s u:=by
  unfold Co at he
  split at he
  · next T x ho=>exact vU (λe hp=> .mem (Rn h ho e)) he
  · next T ho=>exact vU (λe hp=> .mem (NS h ho e)) he
  · next T x y ho=>rw[ho]at hq;cases hq
  · next T x y ho=>exact vU (λe hp=> .mem (Pu h ho e hp)) he
  · next T len parts ho=>exact vU (λe hp=> .app λJ _=>Xw h ho e J) he
  · next x y T T' ho=>
    split at he
    · next ht=>
      obtain rfl:=Nat.eq_of_beq_eq_true ht
      exact vU (λe hp=> .app λJ h2=>Xc h ho e hp J h2) he
    · exact he.elim
  · next x y T T' ho=>rw[ho]at hq;cases hq
  · next x T ho=>rw[ho]at hq;cases hq
  · next f args ts ho=>exact vU (λe hp=> .call (HH hS hG h ho e hp)) he
  · next r name args ts ho=>exact vU (λe hp=> .call (GM hS hG h ho e hp)) he
  · next c x y ho=>exact Ij (λhe=>A3 h ho he) he
  · next op T x y T' ho=>
    obtain⟨s,v,J,h2,h3⟩:=Pv h ho he
    exact⟨s,[],.pure v J h2,h3⟩
  · exact Ij (λhe=>wc h he) he
theorem NT (hS:Sound P Gl Γ) (h:St P Gl N F M a w ω) (hH:iU w ω N a H) {sg:Bool} {nx:Nat} {As:List (Nat×Bool)} (hA:pC a As) {o:Oper} (hq:EY o.op=false) {K:SV->aX->Prop} (he:(oH P sg Gl Γ F M nx H As o.op).run K):
    ∃s u,qY P w ω M a o s u/\K s u:=by
  have jY: ∀{As},pC a As->Cx P w ω (cX Gl (jS As F H)) M a:=λhA=>⟨(qo h.frame hA H hH).cX h.fe,h.mem⟩
  unfold oH at he
  split at he
  · next c x y ho=>
    refine Ij ?_ he
    clear he
    intro K' he
    unfold HI at he
    split at he
    · next d=>
      split at he
      · next b hb=>
        split at he
        · next p r hp hr=>
          obtain⟨u,hu,hd⟩:=M_ (qo h.frame hA H hH) hb (by simp)
          obtain rfl:=hd
          have ec:a.eval (.tmp d)= .bool b:=by
            simp only[Act.eval,Array.getD_eq_getD_getElem?,hu];rfl
          refine⟨.v (.bool (bif b then p else r)),.bool (bif b then p else r),?_,rfl,he⟩
          cases b with
          |true=>
           have tG:=(qx hH H.length d true hu).append hA
           have ex:=m9 hp ((jY tG).val x)
           simp[execOp,ho,ec,asBool,ex]
          |false=>
           have tG:=(qx hH H.length d false hu).append hA
           have ey:=m9 hr ((jY tG).val y)
           simp[execOp,ho,ec,asBool,ey]
        · exact he.elim
      · exact A3 (jY hA) ho he
    · exact he.elim
  · exact aaT hS h.fe (jY hA) hq he
theorem Na (hm:aR w ω M): ∀{u:aX},rN (ae M) u=true-> ∀k∈u.map (·.1),∀p,ω.β k p=none
  | [],_,k,hk,_=>by simp at hk
  |(k0,e)::r,h,k,hk,p=>by
   simp only[rN,Bool.and_eq_true]at h
   obtain⟨⟨⟨⟨⟨J,h2⟩,h3⟩,h4⟩,h5⟩,h6⟩:=h
   rw[oE]at h2
   simp only[List.map_cons,List.mem_cons]at hk
   rcases hk with rfl|hk
   · exact(mV (Dn hm J).mem h2).2.2 p
   · exact Na hm J k hk p
theorem Y' {u:aX} (hm:aR w ω M) (h:rN (ae M) u=true):kA w ω w ω (λk=>k∈u.map (·.1)):=
  ⟨Cw.refl w,λ_ h=>h,rfl,λ_ _ _=>rfl,(λk p L hk hb=>absurd hb (by rw[Na hm h k hk p];exactλe=>by cases e)),rfl⟩
def Br (w:World) (ω:Ow) (N:Nat) (a:Act) (rc:Rc):Prop:=(∀p∈rc.fs,∀u,a.tmps[p.1]? =some u->Den w ω p.2 u)/\iU w ω N a rc.hs
theorem Dl {d:Option Nat} {s:SV} {v:Value} (hd:Den w ω s v): ∀p∈jj N d s,∀u,(a.put d v).tmps[p.1]? =some u->Den w ω p.2 u:=by
  intro p hp u hu
  unfold jj at hp
  split at hp
  · next t=>
    split at hp
    · simp only[List.mem_singleton]at hp
      subst hp
      simp only[Act.put]at hu
      rw[Array.getElem?_setIfInBounds_self]at hu
      split at hu
      · obtain rfl:=Option.some.inj hu;exact hd
      · cases hu
    · simp at hp
  · simp at hp
theorem agj (hS:Sound P Gl Γ) {sg:Bool} {ops:Array Oper} {Q:Exit->Act->World->Prop} {nx i:Nat} {pr:List Nat} {o:Oper} {p:Prop} {rc:Rc} (ho:ops[i]? =some o) (h:St P Gl N F M a w ω) (hH:iU w ω N a H)
    (he:sS P sg Gl Γ N ops.toList F M H nx pr o=some (p,rc)) (hp:p) {K:Act->World->Prop}
    (hK: ∀v w' ao,bp w ω M w' ao (rc.u++M)->kA w ω w' ao (λk=>k∈rc.u.map (·.1))->Br w' ao N (a.put o.dst v) rc->K (a.put o.dst v) w'):wpOp P ops Q i K a w:=by
  have l_:=G_ (ops:=ops) h.frame H o
  unfold wpOp
  rw[ho]
  simp only
  unfold sS at he
  split at he
  · next dW lb hq=>
    rw[lb]at l_
    cases l_ with
    |yes hw=>
     rw[if_pos hw]
     left
     have key: ∃s u,rc=⟨jj N o.dst s,[],u⟩/\(kR (ae M) u&&qw (ae M) u)=true/\(oH P sg Gl Γ F M nx H [] o.op).run (λs' u'=>s'=s/\u'=u):=by
       split at he
       · next s hr=>
         simp only[Option.some.injEq,Prod.mk.injEq]at he
         exact⟨s,[],he.2.symm,rfl,by rw[hr];exact⟨rfl,rfl⟩⟩
       · next s hr=>
         simp only[Option.some.injEq,Prod.mk.injEq]at he
         exact⟨s,[],he.2.symm,rfl,by rw[hr];exactλ_=>⟨rfl,rfl⟩⟩
       · next s hr=>
         simp only[Option.some.injEq,Prod.mk.injEq]at he
         exact⟨s,[],he.2.symm,rfl,by rw[hr];exact⟨by rw[he.1];exact hp,rfl,rfl⟩⟩
       · next s u hr=>
         split at he
         · next hf=>
           simp only[Option.some.injEq,Prod.mk.injEq]at he
           exact⟨s,u,he.2.symm,hf,by rw[hr];exact⟨by rw[he.1];exact hp,rfl,rfl⟩⟩
         · cases he
       · cases he
       · cases he
     obtain⟨s,u,rfl,hf,gw⟩:=key
     obtain⟨s',u',jK,rfl,rfl⟩:=NT hS h hH (λp hp=>by cases hp) hq gw
     exact jK.wp h.mem hf λv w' ao J h2 h3=>hK v w' ao J h2 ⟨Dl h3,λx hx=>by cases hx⟩
  · next dW lb=>
    rw[lb]at l_
    cases l_ with
    |no hw=>
     rw[if_neg (by rw[hw];exact Bool.false_ne_true)]
     simp only[Option.some.injEq,Prod.mk.injEq]at he
     obtain⟨_,rfl⟩:=he
     exact hK undef w ω (bp.refl h.mem) (kA.refl _ _) ⟨Dl rfl,λx hx=>by cases hx⟩
  · next d want dW lb hq=>
    rw[lb]at l_
    cases l_ with
    |ask _ _ hw=>
     have ld: ∀{t:Nat},(Nat.blt t N&&!Nat.beq d t)=true->t<N/\d≠t:=by
       intro t ht
       rw[Bool.and_eq_true,Bool.not_eq_true']at ht
       exact⟨Nat.le_of_ble_eq_true ht.1,λe=>by rw[e,Nat.beq_refl]at ht;cases ht.2⟩
     have key: ∃t s u,o.dst=some t/\t<N/\d≠t/\rc=⟨[(t,.aF)],[⟨t,d,want,s⟩],u⟩/\(rN (ae M) u&&(kR (ae M) u&&qw (ae M) u))=true/\(a.tmps[d]? =some (.bool want)->(oH P sg Gl Γ F M nx H (fJ H H.length d want) o.op).run (λs' u'=>s'=s/\u'=u)):=by
       split at he
       · next t s fU hr=>
         split at he
         · next hc=>
           simp only[Option.some.injEq,Prod.mk.injEq]at he
           exact⟨t,s,[],fU,(ld hc).1,(ld hc).2,he.2.symm,rfl,λ_=>by rw[hr];exact⟨rfl,rfl⟩⟩
         · cases he
       · next t _ s fU hr=>
         split at he
         · next hc=>
           simp only[Option.some.injEq,Prod.mk.injEq]at he
           exact⟨t,s,[],fU,(ld hc).1,(ld hc).2,he.2.symm,rfl,λ_=>by rw[hr];exactλ_=>⟨rfl,rfl⟩⟩
         · cases he
       · next t p' s fU hr=>
         split at he
         · next hc=>
           simp only[Option.some.injEq,Prod.mk.injEq]at he
           refine⟨t,s,[],fU,(ld hc).1,(ld hc).2,he.2.symm,rfl,λjt=>?_⟩
           rw[hr]
           have hA:=qx hH H.length d want jt
           exact⟨A4 (qo h.frame hA H hH) _ hA (by rw[he.1];exact hp),rfl,rfl⟩
         · cases he
       · next t p' s u fU hr=>
         split at he
         · next hc hu=>
           simp only[Option.some.injEq,Prod.mk.injEq]at he
           refine⟨t,s,u,fU,(ld hc).1,(ld hc).2,he.2.symm,hu,λjt=>?_⟩
           rw[hr]
           have hA:=qx hH H.length d want jt
           exact⟨A4 (qo h.frame hA H hH) _ hA (by rw[he.1];exact hp),rfl,rfl⟩
         · cases he
       · cases he
     obtain⟨t,s,u,fU,ht,FK,rfl,Vm,gw⟩:=key
     rw[Bool.and_eq_true]at Vm
     obtain⟨Vn,Cm⟩:=Vm
     rw[fU]at dW
     have facts: ∀{v:Value} {w':World} {ao:Ow},(a.tmps[d]? =some (.bool want)->Den w' ao s v)->(a.tmps[d]? ≠some (.bool want)->v=undef)->Br w' ao N (a.put (some t) v) ⟨[(t,.aF)],[⟨t,d,want,s⟩],u⟩:=by
       intro v w' ao g1 g2
       refine⟨λp hp u hu=>?_,?_⟩
       · simp only[List.mem_singleton]at hp
         subst hp
         trivial
       · exact iU.cons (H:= []) (w:=w') (ω:=ao) (λx hx=>by cases hx) (by rfl) h.frame.size ht FK g1 g2
     by_cases jt:a.tmps[d]? =some (.bool want)
     · rw[if_pos (hw.2 jt)]
       left
       obtain⟨s',u',jK,rfl,rfl⟩:=NT hS h hH (qx hH H.length d want jt) hq (gw jt)
       refine jK.wp h.mem Cm λv w' ao J h2 h3=>hK v w' ao J h2 ?_
       rw[fU]
       exact facts (λ_=>h3) (λhn=>absurd jt hn)
     · have Ka:Region.wanted o (yielded ops a.tmps)=false:=by
         cases hx:Region.wanted o (yielded ops a.tmps)with
         |false=>rfl
         |true=>exact absurd (hw.1 hx) jt
       rw[if_neg (by rw[Ka];exact Bool.false_ne_true)]
       refine hK undef w ω (Dn h.mem Vn) (Y' h.mem Vn) ?_
       rw[fU]
       exact facts (λhn=>absurd hn jt) (λ_=>rfl)
  · cases he
/-! ### register operations -/
def isVal:SV->Bool
  | .v _=>true
  | .bl _=>true
  |_=>false
def TQ:SV->SV
  | .v x=> .v x
  | .bl b=> .bl b
  |_=> .aF
def sU (V:Fr):Fr:=V.map λp=>(p.1,TQ p.2)
theorem MD: ∀(V:Fr) (t:Nat),look (sU V) t=TQ (look V t)
  | [],_=>rfl
  |p::r,t=>by
   simp only[sU,List.map_cons,look]
   cases Nat.beq p.1 t
   · exact MD r t
   · rfl
def yH:R->R
  | .ok s=>match isVal s with|true=> .ok s|false=> .bad
  | .dS p s=>match isVal s with|true=> .dS p s|false=> .bad
  | .mH p s=>match isVal s with|true=> .mH p s|false=> .bad
  | .bad=> .bad
theorem Nb {r:R} {K:SV->Prop} (h:(yH r).run K):r.run (λs=>isVal s=true/\K s):=by
  cases r with
  |bad=>exact h
  |ok s=>simp only[yH]at h;cases hv:isVal s with
   |true=>rw[hv]at h;exact⟨hv,h⟩
   |false=>rw[hv]at h;exact h.elim
  |dS p s=>simp only[yH]at h;cases hv:isVal s with
   |true=>rw[hv]at h;exact⟨h.1,hv,h.2⟩
   |false=>rw[hv]at h;exact h.elim
  |mH p s=>simp only[yH]at h;cases hv:isVal s with
   |true=>rw[hv]at h;exactλhp=>⟨hv,h hp⟩
   |false=>rw[hv]at h;exact h.elim
def ma (V:Fr):Operand->SV:=cX (λ_=> .aF) V
def agm:SV->Bool
  | .ptr _ _ _ _ _=>true
  | .pt _ _ _=>true
  |_=>false
def uT (P:Program) (sg:Bool) (V:Fr) (m:Nat->bk) (op:Op):R:=
  match op with
  | .pick c x y=>yH (A' (ma (sU V) c) (ma (sU V) x) (ma (sU V) y))
  | .move x=> .ok (ma V x)
  | .extract x i=>AH (ma V x) i
  | .fieldAddr S x j=>match agm (ma V x)with|true=>ym P S (ma V x) j m|false=> .bad
  | .indexAddr T x y=>A5 P T (Kb y) (ma V x) (ma V y) m
  |op=>yH (xl P sg (ma (sU V)) (ae []) op)
theorem fR.and {o:Oper} {K:SV->Prop} {v:Value} (h:fR P w ω a o K) (hv: ∀w',(execOp a.eval o).run P w'= .ok (.value v) w'): ∃s,Den w ω s v/\K s:=by
  obtain⟨s,v',J,h2,h3⟩:=h
  rw[hv w]at J
  obtain⟨e,_⟩:=Result.ok.inj J
  have:v=v':=by injection e
  subst this
  exact⟨s,h2,h3⟩
theorem Ii (hm:aR w ω M) (hF:eH w ω N F a.tmps) {sg:Bool} {o:Oper} {s:SV} (he:(uT P sg F (ae M) o.op).run (λs'=>s'=s)):
    ∃v,(∀w',(execOp a.eval o).run P w'= .ok (.value v) w')/\Den w ω s v:=by
  let bZ:Ow:=⟨λ_=>False,λ_=>False,λ_ _=>none,λ_=>(0,0)⟩
  have pO: ∀w',aR w' bZ []:=λw'=>⟨rfl,λb ⟨k,p,L,h,_⟩=>(by cases h),λ_ h=>False.elim h,λ_ h=>False.elim h,λ_ h=>False.elim h,λ_ _ _ _ _ _ h=>(by cases h),λ_ _ _ h=>(by cases h),λ_ _ _ h=>(by cases h),λ_ _ h=>(by cases h),λ_ _ _ _=>rfl⟩
  have hv: ∀w' x,Den w' bZ (ma (sU F) x) (a.eval x):=by
    intro w' x
    cases x with
    |tmp t=>
     show Den w' bZ (look (sU F) t) _
     rw[MD]
     have hd:=hF.get t
     cases hl:look F t with
     |v y=>rw[hl]at hd;exact hd
     |bl b=>rw[hl]at hd;exact hd
     |_=>trivial
    |const v=>cases v<;>exact rfl
    |global g=>trivial
    |func f=>exact⟨#[],rfl,rfl,λj hj=>absurd hj (by omega)⟩
  have UN: ∀w',Cx P w' bZ (ma (sU F)) [] a:=λw'=>⟨hv w',pO w'⟩
  have hJ: ∀x,Den w ω (ma F x) (a.eval x):=by
    intro x
    cases x with
    |tmp t=>exact hF.get t
    |const v=>cases v<;>exact rfl
    |global g=>trivial
    |func f=>exact⟨#[],rfl,rfl,λj hj=>absurd hj (by omega)⟩
  have Vo:Cx P w ω (ma F) M a:=⟨hJ,hm⟩
  have bare:(∀w',fR P w' bZ a o (λs'=>isVal s'=true/\s'=s))-> ∃v,(∀w',(execOp a.eval o).run P w'= .ok (.value v) w')/\Den w ω s v:=by
    intro hp
    obtain⟨s0,_,_,_,hs,rfl⟩:=hp w
    cases s0 with
    |v x=>
     refine⟨x,λw'=>?_,rfl⟩
     obtain⟨s',v,J,h2,_,rfl⟩:=hp w'
     have h2:v=x:=h2
     rw[J,h2]
    |bl b=>
     refine⟨.bool b,λw'=>?_,rfl⟩
     obtain⟨s',v,J,h2,_,rfl⟩:=hp w'
     have h2:v= .bool b:=h2
     rw[J,h2]
    |_=>cases hs
  unfold uT at he
  split at he
  · next c x y ho=>exact bare λw'=>A3 (UN w') ho (Nb he)
  · next x ho=>
    have he:ma F x=s:=he
    subst he
    exact⟨a.eval x,λw'=>by simp[execOp,ho],hJ x⟩
  · next x i ho=>
    have hx:=hJ x
    unfold AH at he
    split at he
    · next n f hs=>
      split at he
      · next hi=>
        have hi:=Nat.le_of_ble_eq_true hi
        have he:f i=s:=he
        subst he
        rw[hs]at hx
        obtain⟨cs,e,hn,hj⟩:=hx
        obtain⟨y,y1,y2⟩:=hj i hi
        exact⟨y,λw'=>by simp[execOp,ho,e,y1,Instr.extract,Result.andThen],y2⟩
      · exact he.elim
    · exact he.elim
  · next S x j ho=>
    split at he
    · next hp=>
      have hx:=hJ x
      have aeI:=NU Vo ho he
      obtain⟨ad,lZ⟩: ∃ad,a.eval x= .pointer (some ad):=by
        cases ht:ma F x with
        |ptr k st p i j=>
         rw[ht]at hx he
         unfold ym at he
         split at he
         · split at he
           · split at he
             · split at he
               · next heq=>
                 obtain⟨rfl,rfl,rfl,rfl,rfl⟩:=SV.ptr.inj heq
                 split at he
                 · next bF=>obtain⟨_,L,_,_,e⟩:=ir hm bF hx;exact⟨_,e⟩
                 · exact he.elim
               · next heq=>cases heq
               · next heq=>cases heq
               · exact he.elim
             · exact he.elim
           · exact he.elim
         · exact he.elim
        |pt q n f=>rw[ht]at hx;obtain⟨ad,e,_⟩:=hx;exact⟨ad,e⟩
        |_=>rw[ht]at hp;cases hp
      obtain⟨s',v,J,h2,h3⟩:=aeI
      have h3:s'=s:=h3
      subst h3
      refine⟨v,λw'=>?_,h2⟩
      unfold ym at he
      split at he
      · next fs hu=>
        split at he
        · next fd zx=>
          split at he
          · next i hi=>
            split at he
            · next hz hs=>
              have run: ∀w',(execOp a.eval o).run P w'= .ok (.value (.pointer (some (ad.add fd.offset)))) w':=by
                intro w'
                have hz:0<i.size:=Nat.le_of_ble_eq_true hz
                have hs:(sizeOf fd.type).run P w'= .ok i.size w':=by simp[sizeOf,run_typeInfo w' hi,Result.andThen]
                simp[execOp,ho,lZ,Instr.fieldAt,Instr.sureAddr,run_underlying hu,zx,fieldPlace,hs,Result.andThen,Nat.ne_of_gt hz]
              have e:=(run w).symm.trans J
              rw[run w']
              injection e with e _
              rw[e]
            · next hz hs=>
              have run: ∀w',(execOp a.eval o).run P w'= .ok (.value (.pointer (some (ad.add fd.offset)))) w':=by
                intro w'
                have hz:0<i.size:=Nat.le_of_ble_eq_true hz
                have hs:(sizeOf fd.type).run P w'= .ok i.size w':=by simp[sizeOf,run_typeInfo w' hi,Result.andThen]
                simp[execOp,ho,lZ,Instr.fieldAt,Instr.sureAddr,run_underlying hu,zx,fieldPlace,hs,Result.andThen,Nat.ne_of_gt hz]
              have e:=(run w).symm.trans J
              rw[run w']
              injection e with e _
              rw[e]
            · next hz hs=>rw[hs]at hp;cases hp
            · exact he.elim
          · exact he.elim
        · exact he.elim
      · exact he.elim
    · exact he.elim
  · next T x y ho=>
    obtain⟨s',v,J,h2,rfl⟩:=Nc Vo ho he
    exact⟨v,J,h2⟩
  · exact bare λw'=>wc (UN w') (Nb he)
end
end Go.Sy
set_option linter.unusedVariables false
set_option linter.unusedSimpArgs false
namespace Go.Sy
open Go.RowKit
variable {P:Program} {w w':World} {ω:Ow} {M:Mem}
def One (w w':World) (b:Nat):Prop:=w'.os=w.os/\w'.tape=w.tape/\w'.output=w.output/\w'.heap.size=w.heap.size/\ ∀b',b'≠b->w'.heap[b']? =w.heap[b']?
theorem One.trans {w w' gg:World} {b:Nat} (h:One w w' b) (k:One w' gg b):One w gg b:=
  ⟨k.1.trans h.1,k.2.1.trans h.2.1,k.2.2.1.trans h.2.2.1,k.2.2.2.1.trans h.2.2.2.1,λb' hb=>(k.2.2.2.2 b' hb).trans (h.2.2.2.2 b' hb)⟩
theorem One.set (w:World) (a:Addr) (x:Value):One w (w.setCell a x) a.block:=
  ⟨rfl,rfl,rfl,by simp[World.setCell],λb' hb=>Ax w a x hb⟩
theorem M9: ∀(cs:List SV) (us:List Value) {w:World} {M:Mem} (hm:aR w ω M) {k:Nat} {l:List SV} (hb:(ae M k).b= .cells l) (hx:b_ w ω cs us) (J: ∀u∈us,u.oneCell'=true) (hn: ∀s∈cs,cW s=false) {L:Loc} (hL:ω.β k none=some L) {j:Nat} (hj:j+cs.length<=l.length) {ad:Addr} (q:Nat) (lZ:ad.add q=⟨L.b,L.o+j,none⟩),
    ∃w',(storeCells ad us q).run P w= .ok () w'/\(∃M',bp w ω M w' ω M'/\ae M' k={ae M k with b:= .cells (qv l j cs)}/\ ∀k',k'≠k->ae M' k'=ae M k')/\One w w' L.b
  | [],[],w,M,hm,k,l,hb,hx,J,hn,L,hL,j,hj,ad,q,lZ=>⟨w,by simp[storeCells],⟨M,bp.refl hm,by simp only[qv];rw[<-hb],λ_ _=>rfl⟩,rfl,rfl,rfl,rfl,λ_ _=>rfl⟩
  |v::r,x::t,w,M,hm,k,l,hb,⟨hx,FG⟩,J,hn,L,hL,j,hj,ad,q,lZ=>by
   obtain⟨c1,c2⟩:=AQ hm hb hL
   have xg:j<l.length:=by simp at hj;omega
   have st:=bp.putCells hm hb hL (i:=0) (by omega) xg (hn v (by simp)) hx
   obtain⟨_,_,_,_,c,T,g1,g2,g3,g4⟩:=hm.row _ _ _ hL
   obtain⟨y,y1,_⟩:=g4 0 (by omega) j (by omega)
   simp only[Nat.zero_mul,Nat.add_zero]at st y1
   have r1:(store (ad.add q) x).run P w= .ok () (w.setCell ⟨L.b,L.o+j,none⟩ x):=by rw[lZ];exact Dm g1 (Array.getElem?_eq_some_iff.1 y1).1 (J x (by simp))
   have Jy:ad.add (q+1)=⟨L.b,L.o+(j+1),none⟩:=by
     rw[<-add_add,lZ,lG];simp[Nat.add_assoc]
   obtain⟨w',r2,⟨M',s2,e1,e2⟩,o2⟩:=M9 r t st.mem (k:=k) (l:=l.set j v) (by rw[dp]) (FG.ext st.ext) (λy hy=>J y (by simp[hy])) (λs hs=>hn s (by simp[hs])) hL (j:=j+1) (by simp at hj⊢;omega) (q+1) Jy
   refine⟨w',by simp[storeCells,r1,r2,Result.andThen],⟨M',st.trans s2,?_,λk' hk=>?_⟩,(One.set w _ x).trans o2⟩
   · rw[e1,dp];rfl
   · rw[e2 k' hk,cC (Ne.symm hk)]
  | [],_::_,_,_,_,_,_,_,hx,_,_,_,_,_,_,_,_,_=>hx.elim
  |_::_,[],_,_,_,_,_,_,hx,_,_,_,_,_,_,_,_,_=>hx.elim
def py (n:Nat):List SV:=List.replicate n .aF
theorem DM (n j:Nat):aL (py n) j= .aF:=by
  simp only[aL,py,List.getD_eq_getElem?_getD,List.getElem?_replicate]
  split<;>rfl
theorem aR.Re (hm:aR w ω M) {k:Nat} {e:bk} {l l':List SV} (he:ae M k=e) (hb:e.b= .cells l) (hl:l'.length=l.length)
    (h: ∀L,ω.β k none=some L-> ∀c T,w.heap[L.b]? =some (Obj.cells c T (0,0))-> ∀j,j<l.length-> ∀x,c[L.o+j]? =some x->Den w ω (aL l j) x->cW (aL l' j)=false/\Den w ω (aL l' j) x) (dn: ∀j,cW (aL l j)=false):aR w ω ((k,{e with b:= .cells l'})::M):=by
  subst he
  have y_: ∀k',k'≠k->ae ((k,{ae M k with b:= .cells l'})::M) k'=ae M k':=λk' h=>cC (Ne.symm h)
  refine⟨?_,hm.own,hm.fg,hm.dj,hm.gJ,hm.inj,hm.low,λk' p L hL=>?_,λk' l2 hk=>?_,λk' i j hk=>?_⟩
  · rw[hm.cur];exact(ya (M:=M) (k:=k) (e:={ae M k with b:= .cells l'}) rfl rfl).symm
  · by_cases hk:k'=k
    · subst hk
      obtain⟨r,g1,g2,g3,c,T,g4,g5,g6,g7⟩:=hm.row k' p L hL
      rw[dp]
      cases p with
      |none=>
       unfold rowAt at g1;rw[hb]at g1
       obtain rfl:=Option.some.inj g1
       have bV:l.length=L.sz:=g2
       have wR:1=L.dh:=g3
       refine⟨⟨l'.length,1,λ_ j=>aL l' j⟩,by unfold rowAt;rw[dp];rfl,by show l'.length=_;rw[hl];exact bV,wR,c,T,g4,g5,g6,λi hi j hj=>?_⟩
       obtain⟨x,x1,x2⟩:=g7 i hi j hj
       obtain rfl:i=0:=by omega
       have x2:cI w ω (ae M k').hl k' 0 j (aL l j) x:=x2
       rw[gr (dn j)]at x2
       obtain⟨y1,y2⟩:=h L hL c T g4 j (by omega) x (by simpa using x1) x2
       refine⟨x,x1,?_⟩
       show cI w ω (ae M k').hl k' 0 j (aL l' j) x
       rw[gr y1];exact y2
      |some ij=>unfold rowAt at g1;rw[hb]at g1;cases g1
    · obtain⟨r,g1,g2,g3,g4⟩:=hm.row k' p L hL
      exact⟨r,by unfold rowAt at g1⊢;rw[y_ k' hk];exact g1,g2,g3,by rw[y_ k' hk];exact g4⟩
  · by_cases Cn:k'=k
    · subst Cn;exact hm.live k' l hb
    · rw[y_ k' Cn]at hk;exact hm.live k' l2 hk
  · by_cases Cn:k'=k
    · subst Cn;rw[dp]at hk;exact hm.fm _ _ _ hk
    · rw[y_ k' Cn]at hk;exact hm.fm _ _ _ hk
theorem aR.agi (hm:aR w ω M) {k n:Nat} (hb:(ae M k).b= .cells (py n)) {L:Loc} (hL:ω.β k none=some L) (ho:One w w' L.b) (hs: ∃c T,w'.heap[L.b]? =some (Obj.cells c T (0,0))/\c.size=L.len):aR w' ω M/\Ext w ω w' ω:=by
  have hA:ω.A L.b:=hm.own _ ⟨k,none,L,hL,rfl⟩
  have bM:Ext w ω w' ω:=⟨ho.1,ho.2.1,ho.2.2.1,λb hb hn=>ho.2.2.2.2 b (λe=>hn (e▸hA)),λ_ _ h=>h,λ_ _ _ h=>h,Nat.le_of_eq ho.2.2.2.1.symm,λ_=>⟨Nat.le_refl _,Nat.le_refl _⟩,λ_ _ _ h _=>h,λ_ h=>h⟩
  refine⟨⟨hm.cur,hm.own,λb h=>by rw[ho.2.2.2.1];exact hm.fg b h,hm.dj,λb h=>by rw[ho.2.2.2.1];exact hm.gJ b h,hm.inj,λk p L h=>by rw[ho.2.2.2.1];exact hm.low k p L h,λk' p L' h=>?_,hm.live,hm.fm⟩,bM⟩
  obtain⟨r,g1,g2,g3,g4⟩:=hm.row k' p L' h
  refine⟨r,g1,g2,g3,?_⟩
  by_cases zw:L'.b=L.b
  · obtain⟨rfl,rfl⟩:=hm.inj _ _ _ _ _ _ h hL zw
    obtain rfl:L=L':=Option.some.inj (hL.symm.trans h)
    unfold rowAt at g1;rw[hb]at g1
    obtain rfl:=Option.some.inj g1
    obtain⟨c0,T0,J,h2,h3,h4⟩:=g4
    obtain⟨c,T,e1,e2⟩:=hs
    have bV:(py n).length=L.sz:=g2
    have wR:1=L.dh:=g3
    refine⟨c,T,e1,e2,h3,λi hi j hj=>?_⟩
    have av:L.o+i*L.sz+j<c.size:=by
      have:=oD hi hj
      omega
    refine⟨c[L.o+i*L.sz+j],Array.getElem?_eq_getElem av,?_⟩
    show cI _ _ _ _ _ _ (aL (py n) j) _
    rw[DM];trivial
  · exact g4.ext bM rfl (λ_=>rfl) (ho.2.2.2.2 _ zw)
def evalW (P:Program) (Gl:Nat->SV) (N:Nat) (ops:List Oper) (V:Fr) (M:Mem) (H:List Hd) (o:Oper):Option (Nat×aX):=
  match o.dst,guardOf N ops V H o,o.op with
  |none,.yes,.store T x y=>
   match cX Gl (jS [] V H) x,rH (ae M) (cX Gl (jS [] V H) y),P.info? T with
   | .ptr k st none ii j,some cs,some i=>
     match cD (ae M) k st none,(ae M k).b,Nat.beq cs.length i.size,cs.all (qI (ae M))with
     |true,.cells l,true,true=>
      match Nat.ble (j+cs.length) l.length with
      |true=>some (k,[(k,{ae M k with b:= .cells (qv l j cs)})])
      |false=>none
     |_,_,_,_=>none
   |_,_,_=>none
  |_,_,_=>none
theorem agk {Gl:Nat->SV} {N:Nat} {ops:Array Oper} {V:Fr} {H:List Hd} {a:Act} {Q:Exit->Act->World->Prop} {i:Nat} {o:Oper} {k:Nat} {u:aX} (ho:ops[i]? =some o) (h:St P Gl N V M a w ω) (hH:iU w ω N a H)
    (he:evalW P Gl N ops.toList V M H o=some (k,u)) {K:Act->World->Prop}
    (hK: ∀w' L,ω.β k none=some L->aR w' ω (u++M)->One w w' L.b->K a w'):wpOp P ops Q i K a w:=by
  have l_:=G_ (ops:=ops) h.frame H o
  unfold wpOp
  rw[ho]
  simp only
  unfold evalW at he
  split at he
  · next T x y hd lb jK=>
    rw[lb]at l_
    cases l_ with
    |yes hw=>
     rw[if_pos hw]
     left
     have hF:=qo h.frame (As:= []) (λp hp=>by cases hp) H hH
     have Vl:=hF.cX h.fe x
     have hyv:=hF.cX h.fe y
     split at he
     · next k' st ii j cs inf hx kD hi=>
       split at he
       · next l bF hb hlen jE=>
         split at he
         · next hle=>
           simp only[Option.some.injEq,Prod.mk.injEq]at he
           obtain⟨rfl,rfl⟩:=he
           rw[hx]at Vl
           have hm:=h.mem
           obtain⟨e0,L,hL,j5,ex⟩:=ir hm bF Vl
           obtain⟨c1,c2⟩:=AQ hm hb hL
           obtain rfl:ii=0:=by omega
           simp only[Nat.zero_mul,Nat.add_zero]at ex
           have hc:=Az hm kD hyv
           have J:=Dv hm jE hc
           have hlen:=Nat.eq_of_beq_eq_true hlen
           have bV:(a.eval y).cells.size=inf.size:=by rw[<-Array.length_toList,<-hc.len,hlen]
           have fZ:(sizeOf T).run P w= .ok inf.size w:=by simp[sizeOf,run_typeInfo w hi,Result.andThen]
           obtain⟨w',r1,⟨M',s1,e1,e2⟩,o1⟩:=M9 (P:=P) cs _ hm hb hc J (λs hs=>Dg (List.all_eq_true.1 jE s hs)) hL (Nat.le_of_ble_eq_true hle) (ad:=⟨L.b,L.o+j,none⟩) 0 (by simp[Addr.add])
           have run:(execOp a.eval o).run P w= .ok .skip w':=by
             simp[execOp,jK,ex,Instr.storeAt,Instr.sureAddr,storeVar,fZ,bV,r1,Result.andThen]
           have kW:aR w' ω ([(k',{ae M k' with b:= .cells (qv l j cs)})]++M):=s1.mem.congr λq=>by
             by_cases hq:q=k'
             · subst hq;rw[e1];exact dp
             · rw[e2 q hq];exact cC (Ne.symm hq)
           have Jz:=hK w' L hL kW o1
           unfold Oper.wp
           rw[run]
           show K (a.put o.dst undef) w'
           rw[hd]
           exact Jz
         · cases he
       · cases he
     · cases he
  · cases he
end Go.Sy
