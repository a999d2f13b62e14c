/-
  Sy: regions that draw their order: an append that ends a slice of one's own, and may come ahead of some loads.
-/
import Derived.Test.YtbngaammbjaajaaDoorYE
set_option linter.unusedVariables false
set_option linter.unusedSimpArgs false
set_option linter.unusedVariables false
set_option linter.unusedSimpArgs false
namespace Go.Sy
open Go.RowKit Classical
def ja (P:Program) (Gl:Nat->SV) (F:Fr) (M:Mem) (o:Oper):Option (Prop×Option Nat):=
  match o.guard,o.op with
  |none,.load T x=>
   match P.underlying T,aW Gl F x with
   |some d,.ptr k st none _ j=>
    match fy d,aR (aa M) k st none,(aa M k).b with
    |false,true,.cells l=>(match Nat.blt j l.length with|true=>some (True,some k)|false=>none)
    |_,_,_=>none
   |_,_=>none
  |none,.nilCheck x=>
   match aW Gl F x with
   | .ptr k st p _ _=>(match aR (aa M) k st p with|true=>some (True,none)|false=>none)
   | .pt _ _ _=>some (True,none)
   |_=>none
  |none,.indexAddr T x y=>
   match P.underlying T,aW Gl F x,aW Gl F y with
   |some (.slice E),.aC k st p _ n,.v (.int _ z)=>(match P.info? E,aR (aa M) k st p with|some _,true=>some (0<=z/\z<n,none)|_,_=>none)
   |some (.slice E),.sl _ _ n _,.v (.int _ z)=>(match P.info? E with|some _=>some (0<=z/\z<n,none)|_=>none)
   |_,_,_=>none
  |_,_=>none
section
variable {P:Program} {sg:Bool} {Gl:Nat->SV} {Γ:Table} {N:Nat} {F:Fr} {M:Mem} {a:Act} {w:World} {J:Ow}
theorem wV {o:Oper} {T E:TypeId} {x y:Operand} {ie:TypeInfo} (ho:o.op= .indexAddr T x y) (hu:P.underlying T=some (.slice E)) (hi:P.info? E=some ie) {ad:Addr} {n cap:Nat} {k:IntKind} {z:Int}
    (ex:a.eval x= .slice (some ad) n cap) (ey:a.eval y= .int k z) (h0:0<=z) (U:z<n) (w':World):(execOp a.eval o).run P w'= .ok (.value (.pointer (some (ad.add (z.toNat*ie.size))))) w':=by
  have gw:(sizeOf E).run P w'= .ok ie.size w':=by simp[sizeOf,run_typeInfo w' hi,Result.andThen]
  simp[execOp,ho,ex,ey,Instr.indexAt,asIntOf,run_underlying hu,Result.andThen,h0,U,gw]
theorem xO (h:St P Gl N F M a w J) {o:Oper} {p:Prop} {ko:Option Nat} (he:ja P Gl F M o=some (p,ko)) (hp:p):
    o.guard=none/\ ∃v,∀w',(∀k,ko=some k-> ∀L,J.β k none=some L->w'.heap[L.b]? =w.heap[L.b]?)->(execOp a.eval o).run P w'= .ok (.value v) w':=by
  unfold ja at he
  split at he
  · next T x hg ho=>
    refine⟨hg,?_⟩
    have hx:=h.frame.aW h.bG x
    split at he
    · next d k st ii j hu hs=>
      split at he
      · next l hd ay hb=>
        split at he
        · next hj=>
          obtain⟨rfl,rfl⟩:=Prod.mk.inj (Option.some.inj he)
          have hj:j<l.length:=Nat.le_of_ble_eq_true hj
          rw[hs]at hx
          obtain⟨_,L,hL,v_,ex⟩:=cF h.mem ay hx
          obtain⟨c1,c2⟩:=mM h.mem hb hL
          obtain⟨r,_,_,_,c,T',g4,g5,g6,g7⟩:=h.mem.row _ _ _ hL
          obtain⟨y,y1,_⟩:=g7 ii v_ j (by omega)
          have jj: ∀w':World,w'.heap[L.b]? =w.heap[L.b]? ->w'.cell? ⟨L.b,L.o+ii*L.sz+j,none⟩=some y:=by
            intro w' e
            rw[g4]at e
            simp[World.cell?,e,y1]
          refine⟨y,λw' fC=>?_⟩
          have:=oN (P:=P) hu hd w' _ y (jj w' (fC k rfl L hL))
          simp[execOp,ho,ex,Instr.loadAt,Instr.sureAddr,this,Result.andThen]
        · cases he
      · cases he
    · cases he
  · next x hg ho=>
    refine⟨hg,?_⟩
    have hx:=h.frame.aW h.bG x
    have run:(∃ad,a.eval x= .pointer (some ad))-> ∃v,∀w',(∀k,ko=some k-> ∀L,J.β k none=some L->w'.heap[L.b]? =w.heap[L.b]?)->(execOp a.eval o).run P w'= .ok (.value v) w':=by
      rintro ⟨ad,e⟩
      exact⟨.pointer (some ad),λw' _=>by simp[execOp,ho,e]⟩
    split at he
    · next k st p' i j hs=>
      split at he
      · next ay=>
        rw[hs]at hx
        obtain⟨_,L,_,_,e⟩:=cF h.mem ay hx
        exact run ⟨_,e⟩
      · cases he
    · next q n f hs=>
      rw[hs]at hx
      obtain⟨b,e,_⟩:=hx
      exact run ⟨_,e⟩
    · cases he
  · next T x y hg ho=>
    refine⟨hg,?_⟩
    have hx:=h.frame.aW h.bG x
    have hy:=h.frame.aW h.bG y
    split at he
    · next E k st p' e n kk z hu cP cu=>
      split at he
      · next ie ay hi hb=>
        obtain⟨rfl,rfl⟩:=Prod.mk.inj (Option.some.inj he)
        rw[cP]at hx
        rw[cu]at hy
        have e0:st=Sy.st J.cur k p':=by
          rw[h.mem.cur]
          cases p' with
          |none=>exact Nat.eq_of_beq_eq_true hb
          |some _=>exact Nat.eq_of_beq_eq_true hb
        rcases hx with hx|⟨_,q,cap,ex,dG,_,hx⟩
        · omega
        rcases hx with hx|⟨L,hL,rfl,_,_⟩
        · have:=hp.1;have:=hp.2;omega
        exact⟨_,λw' _=>wV ho hu hi ex hy hp.1 hp.2 w'⟩
      · cases he
    · next E q sz n f kk z hu cP cu=>
      split at he
      · next ie hi=>
        obtain⟨rfl,rfl⟩:=Prod.mk.inj (Option.some.inj he)
        rw[cP]at hx
        rw[cu]at hy
        obtain⟨p',cap,ex,_,_,hx⟩:=hx
        rcases hx with hx|⟨ad,rfl,_⟩
        · have:=hp.1;have:=hp.2;omega
        exact⟨_,λw' _=>wV ho hu hi ex hy hp.1 hp.2 w'⟩
      · cases he
    · cases he
  · cases he
theorem AS (hm:ai w J M) {sx sy:SV} {o:Oper} {T:TypeId} {x y:Operand} {nx:Nat} {pr:Prop} {s:SV} {u:ak} (hx:Den w J sx (a.eval x)) (hy:Den w J sy (a.eval y)) (ho:o.op= .call {callee:= .builtin .append,args:= #[x,y],argTypes:= #[T,T]})
    (hb:lD sx=false) (he:iW P (aa M) nx T sx sy=some (pr,s,u)) (hp:pr):iJ P w J M a o s u:=by
  unfold iW at he
  rw[hb]at he
  simp only at he
  split at he
  · next z hz=>
    split at he
    · next v hv=>
      simp only[Option.some.injEq,Prod.mk.injEq]at he
      obtain⟨rfl,rfl,rfl⟩:=he
      obtain⟨ae,k,st,i,j,e,n,e1,e2,e3,U,h2,h3,_⟩:=pf hm hz
      rw[e1]at hx
      have hy:Den w ae (jc (aa M) (nx+60) sx sy).2 (a.eval y):=by
        have dJ:=hp.1
        revert dJ hy
        rw[e1]
        generalize sy=t
        unfold jc
        split
        · next k1 E4 i1 j1 _ _ k' vT i' j' e' n' heq=>
          split
          · next b1 b2 b3=>
            obtain⟨rfl,rfl,vU,rfl,rfl⟩:=SV.aC.inj heq
            obtain⟨rfl,rfl⟩:=Prod.mk.inj (Option.some.inj vU)
            obtain rfl:=Nat.eq_of_beq_eq_true b1
            obtain rfl:=Nat.eq_of_beq_eq_true b2
            obtain rfl:=Nat.eq_of_beq_eq_true b3
            intro hy dJ
            have dJ:i'=i:=dJ
            subst dJ
            exact h2 _ _ _ hy
          · intro hy _;exact Den.ext U.ext hy
        · intro hy _;exact Den.ext U.ext hy
      rw[fK]at hv
      have kJ:Den w ae z.1 (a.eval x):=by rw[e3];exact h2 _ _ _ hx
      obtain⟨nn,vv,w',vV,g1,g2,g3,g4⟩:=oR (P:=P) (a:=a) (tx:=λ_=>z.1) (ty:=λ_=>(jc (aa M) (nx+60) sx sy).2) U.mem kJ hy ho hv hp.2
      exact⟨nn,vv,w',vV,g1,g2,by rw[List.append_assoc];exact U.trans g3,g4⟩
    · cases he
  · exact oR (P:=P) (a:=a) (tx:=λ_=>sx) (ty:=λ_=>sy) hm hx hy ho he hp
/-! ### the append that ends a slice -/
def lG:SV->List Nat
  | .aC k _ _ _ _=> [k]
  |_=> []
def kU:List Nat->List Nat->List Nat
  | [],l=>l
  |k::r,l=>match aT l k with|true=>kU r l|false=>k::kU r l
end
def um:SV->Bool
  | .aj=>true
  | .v _=>true
  | .bl _=>true
  | .es=>true
  | .sl _ _ _ _=>true
  | .pt _ _ _=>true
  | .pa _ _ _ _=>true
  | .er _ _ _ _=>true
  |_=>false
def Dk:SV->Prop
  | .il sz _ g=> ∀a,fx sz λb=>um (g a b)=true
  |s=>um s=true
def zb:ar->Prop
  | .row sz _ f=> ∀i,fx sz λj=>Dk (f i j)
  |_=>False
def ve:List Nat->(Nat->Prop)->Prop
  | [],_=>True
  |k::r,p=>p k/\ve r p
theorem xP: ∀{l:List Nat} {p:Nat->Prop},ve l p-> ∀k∈l,p k
  | [],_,_,k,hk=>absurd hk (by simp)
  |i::r,p,h,k,hk=>by
   rcases List.mem_cons.1 hk with rfl|hk
   · exact h.1
   · exact xP h.2 k hk
def qV:SV->SV
  | .aC k s p e n=> .aC k s p e n
  | .v x=> .v x
  | .bl b=> .bl b
  | .es=> .es
  | .sl q sz n f=> .sl q sz n f
  |_=> .aj
def iF (M:Mem) (κ:List Nat):Mem:=κ.map λk=>(k,aa M k)
theorem jZ {M:Mem}: ∀{κ:List Nat} {k:Nat},k∈κ->aa (iF M κ) k=aa M k
  | [],k,h=>absurd h (by simp)
  |i::r,k,h=>by
   unfold iF
   rw[List.map_cons]
   by_cases e:i=k
   · subst e;exact ba
   · rw[aQ e]
     exact jZ (κ:=r) ((List.mem_cons.1 h).resolve_left λh=>e h.symm)
theorem sP {M:Mem}: ∀{κ:List Nat} {k:Nat},k∉κ->aa (iF M κ) k=⟨0,0,none,.dead⟩
  | [],k,_=>rfl
  |i::r,k,h=>by
   unfold iF
   rw[List.map_cons,aQ (λe=>h (by simp[e]))]
   exact sP (κ:=r) λh'=>h (by simp[h'])
def gI (M:Mem) (k:Nat) (p:Path):Bool:=match p,(aa M k).b with|some ij,.row sz _ _=>Nat.blt ij.2 sz|_,_=>true
def vf (M:Mem):SV->Bool
  | .aC k _ p _ _=>gI M k p
  |_=>true
def pT (P:Program) (Gl:Nat->SV) (F:Fr) (M:Mem) (nx:Nat) (o:Oper):Option (Prop×List Nat):=
  match o.guard,o.op with
  |none,.call {callee:= .builtin .append,args:=⟨[x,y]⟩,argTypes:=⟨[T,T']⟩}=>
   let κ:=kU (lG (aW Gl F x)) (lG (aW Gl F y))
   match Nat.beq T T'&&vf M (aW Gl F x)&&vf M (aW Gl F y)&&!lD (qV (aW Gl F x)),iW P (aa (iF M κ)) nx T (qV (aW Gl F x)) (qV (aW Gl F y))with
   |true,some (pr,_,_)=>some (ve κ (λk=>zb (aa M k).b)/\pr,κ)
   |_,_=>none
  |_,_=>none
theorem pM: ∀{l r:List Nat} {k:Nat},k∈kU l r↔k∈l\/k∈r
  | [],r,k=>by simp[kU]
  |i::l,r,k=>by
   unfold kU
   split
   · next h=>
     rw[pM,List.mem_cons]
     constructor
     · rintro (h|h)
       · exact .inl (.inr h)
       · exact .inr h
     · rintro ((h'|h')|h')
       · subst h';exact .inr (cU.1 h)
       · exact .inl h'
       · exact .inr h'
   · rw[List.mem_cons,pM,List.mem_cons,or_assoc]
section
variable {P:Program} {sg:Bool} {Gl:Nat->SV} {Γ:Table} {N:Nat} {F:Fr} {M:Mem} {a:Act} {w:World} {J:Ow}
noncomputable def Ow.only (J:Ow) (M:Mem) (κ:List Nat):Ow:=⟨λb=>J.A b/\ ∃k∈κ,∃p L,J.β k p=some L/\L.b=b,J.Z,λk p=>if k∈κ/\gI M k p=true then J.β k p else none,bx (iF M κ)⟩
theorem mZ {κ:List Nat} {k:Nat} {p:Path} (h:k∈κ) (hp:gI M k p=true):(J.only M κ).β k p=J.β k p:=if_pos ⟨h,hp⟩
theorem mS {κ:List Nat} {k:Nat} {p:Path} {L:Loc} (h:(J.only M κ).β k p=some L):k∈κ/\J.β k p=some L/\gI M k p=true:=by
  by_cases hk:k∈κ/\gI M k p=true
  · exact⟨hk.1,by rwa [mZ hk.1 hk.2]at h,hk.2⟩
  · have h:(if k∈κ/\gI M k p=true then J.β k p else none)=some L:=h
    rw[if_neg hk]at h;cases h
theorem BX {k:Nat}:gI M k none=true:=rfl
theorem ph {κ:List Nat}:Ext w J.bare w (J.only M κ).bare:=⟨rfl,rfl,rfl,λ_ _ _=>rfl,λ_ _ h h'=>h h'.1,λ_ _ _ h=>h,Nat.le_refl _,λ_=>⟨Nat.le_refl _,Nat.le_refl _⟩,λ_ _ _ h _=>h,λ_ h=>h⟩
theorem te {κ:List Nat} {s:SV} {x:Value} (hs:um s=true) (h:Den w J s x):Den w (J.only M κ) s x:=by
  cases s with
  |aj=>trivial
  |v y=>exact h
  |bl y=>exact h
  |es=>exact h
  |sl q sz n f=>exact Den.ext (o:=J.bare) (o':=(J.only M κ).bare) (s:= .sl q sz n f) ph h
  |pt q n f=>exact Den.ext (o:=J.bare) (o':=(J.only M κ).bare) (s:= .pt q n f) ph h
  |pa q sz n f=>exact Den.ext (o:=J.bare) (o':=(J.only M κ).bare) (s:= .pa q sz n f) ph h
  |er t tf e z=>exact Den.ext (o:=J.bare) (o':=(J.only M κ).bare) (s:= .er t tf e z) ph h
  |_=>cases hs
theorem yn (hm:ai w J M) {κ:List Nat} {k:Nat} {p:Path} (hk:k∈κ):st (J.only M κ).cur k p=st J.cur k p:=by
  rw[hm.cur]
  cases p with
  |none=>show(aa (iF M κ) k).rs=(aa M k).rs;rw[jZ hk]
  |some _=>show(aa (iF M κ) k).ds=(aa M k).ds;rw[jZ hk]
theorem yo (hm:ai w J M) {κ:List Nat} {s:SV} {x:Value} (kY: ∀k∈lG s,k∈κ) (ho:vf M s=true) (h:Den w J s x):Den w (J.only M κ) (qV s) x:=by
  cases s with
  |aC k st p e n=>
   have hk:k∈κ:=kY k (by simp[lG])
   rcases h with h|⟨U,q,cap,h2,h3,h4,h5⟩
   · exact .inl (by rw[yn hm hk];exact h)
   · exact .inr ⟨by rw[yn hm hk];exact U,q,cap,h2,h3,h4,by rw[mZ hk ho];exact h5⟩
  |v y=>exact h
  |bl y=>exact h
  |es=>exact h
  |sl q sz n f=>exact te (s:= .sl q sz n f) rfl h
  |_=>trivial
theorem ai.only (hm:ai w J M) {κ:List Nat} (hp: ∀k∈κ,zb (aa M k).b):ai w (J.only M κ) (iF M κ):=by
  refine⟨rfl,λb ⟨k,p,L,h,e⟩=>?_,λb h=>hm.bI b h.1,λb h=>hm.dj b h.1,hm.cA,λk p L k' p' L' h h' e=>hm.inj k p L k' p' L' (mS h).2.1 (mS h').2.1 e,λk p L h=>hm.low k p L (mS h).2.1,λk p L h=>?_,λk l h=>?_,λk i j h=>?_⟩
  · obtain⟨hk,h,_⟩:=mS h
    exact⟨hm.own b ⟨k,p,L,h,e⟩,k,hk,p,L,h,e⟩
  · obtain⟨hk,h,ay⟩:=mS h
    obtain⟨r,g1,g2,g3,c,T,g4,g5,g6,g7⟩:=hm.row k p L h
    have kV:=hp k hk
    refine⟨r,by unfold rowAt;rw[jZ hk];exact g1,g2,g3,c,T,g4,g5,g6,λi hi j hj=>?_⟩
    obtain⟨x,x1,x2⟩:=g7 i hi j hj
    refine⟨x,x1,?_⟩
    rw[jZ hk]
    unfold rowAt at g1
    cases hb:(aa M k).b with
    |dead=>rw[hb]at kV;exact kV.elim
    |cells l=>rw[hb]at kV;exact kV.elim
    |row sz n f=>
     rw[hb]at kV g1
     cases p with
     |none=>
      obtain rfl:=Option.some.inj g1
      have fB:j<sz:=by have:sz=L.sz:=g2
                       omega
      have dA:=eV (kV i) j fB
      have x2:aV w J (aa M k).hl k i j (f i j) x:=x2
      show aV w (J.only M κ) (aa M k).hl k i j (f i j) x
      cases aZ:aX (f i j)with
      |false=>
       rw[cj aZ]at*
       refine te ?_ x2
       revert dA aZ
       generalize f i j=s
       intro dA aZ
       cases s<;>first|exact dA|cases aZ
      |true=>
       revert x2 aZ
       generalize f i j=s
       intro x2 aZ
       cases s with
       |il av n2 g=>
        rcases x2 with x2|⟨⟨q,cap,y1,y2,y3,y4⟩,y5⟩
        · exact .inl x2
        · have zS:gI M k (some (i,j))=true:=by unfold gI;rw[hb];exact Nat.ble_eq_true_of_le fB
          exact .inr ⟨⟨q,cap,y1,y2,y3,by rw[mZ hk zS];exact y4⟩,λL' ct=>y5 L' (by rw[mZ hk zS]at ct;exact ct)⟩
       |_=>cases aZ
     |some ij=>
      obtain⟨i0,j0⟩:=ij
      have g1:inner ⟨sz,n,f⟩ i0 j0=some r:=g1
      have kL:j0<sz:=by unfold gI at ay;rw[hb]at ay;exact Nat.le_of_ble_eq_true ay
      have dA:=eV (kV i0) j0 kL
      have x2:Den w J (r.f i j) x:=x2
      show Den w (J.only M κ) (r.f i j) x
      unfold inner at g1
      simp only at g1
      revert g1 dA
      generalize f i0 j0=s
      intro g1 dA
      cases s with
      |il av n2 g=>
       obtain rfl:=Option.some.inj g1
       have vR:j<av:=by have:av=L.sz:=g2
                        omega
       exact te (eV (dA i) j vR) x2
      |_=>cases g1
  · by_cases hk:k∈κ
    · rw[jZ hk]at h
      obtain⟨L,hL⟩:=hm.live k l h
      exact⟨L,by rw[mZ hk BX];exact hL⟩
    · rw[sP hk]at h;cases h
  · by_cases hk:k∈κ
    · rw[jZ hk]at h
      show(if k∈κ/\gI M k (some (i,j))=true then J.β k (some (i,j))else none)=none
      split
      · exact hm.bN k i j h
      · rfl
    · rw[sP hk]at h;cases h
theorem BY (h:St P Gl N F M a w J) {nx:Nat} {o:Oper} {pr:Prop} {κ:List Nat} (he:pT P Gl F M nx o=some (pr,κ)) (hp:pr):
    o.guard=none/\(∀cs b,o.op≠ .select cs b)/\ ∃n v w',(execOp a.eval o).run P w= .ok n w'/\(n= .value v\/(n= .skip/\v=undef))/\ ∀b,b<w.heap.size->(∀k∈κ,∀p L,J.β k p=some L->L.b≠b)->w'.heap[b]? =w.heap[b]? :=by
  unfold pT at he
  split at he
  · next x y T T' hg ho=>
    refine⟨hg,(λcs b e=>by rw[ho]at e;cases e),?_⟩
    simp only at he
    split at he
    · next Ar s u hT ma=>
      rw[Bool.and_eq_true,Bool.and_eq_true,Bool.and_eq_true]at hT
      obtain⟨⟨⟨hT,o1⟩,o2⟩,o3⟩:=hT
      obtain rfl:=Nat.eq_of_beq_eq_true hT
      obtain⟨rfl,rfl⟩:=Prod.mk.inj (Option.some.inj he)
      generalize kY:kU (lG (aW Gl F x)) (lG (aW Gl F y))=κ at*
      have t1:=h.mem.only (κ:=κ) (xP hp.1)
      have hx:=yo h.mem (κ:=κ) (λk hk=>by rw[<-kY];exact pM.2 (.inl hk)) o1 (h.frame.aW h.bG x)
      have hy:=yo h.mem (κ:=κ) (λk hk=>by rw[<-kY];exact pM.2 (.inr hk)) o2 (h.frame.aW h.bG y)
      obtain⟨n,v,w',ae,g1,g2,g3,_⟩:=AS (P:=P) (a:=a) t1 hx hy ho (by simpa using o3) ma hp.2
      refine⟨n,v,w',g1,g2,λb hb bt=>g3.ext.same b hb λhA=>?_⟩
      obtain⟨_,k,hk,p,L,hL,Fj⟩:=hA
      exact bt k hk p L hL Fj
    · cases he
  · cases he
end
section
variable {P:Program} {sg:Bool} {Gl:Nat->SV} {Γ:Table} {N:Nat} {ops:Array Oper} {PR:Nat->List Nat} {m:Nat} {rs:List Rc} {F F0:Fr} {M:Mem} {bd wr:Nat->Bool}
variable {a0 a:Act} {w0 w:World} {al J:Ow} {D:Nat->Prop}
structure qK (P:Program) (Gl:Nat->SV) (N:Nat) (ops:Array Oper) (PR:Nat->List Nat) (m:Nat) (rs:List Rc) (F0:Fr) (M:Mem) (bd:Nat->Bool) (KQ:List Nat) (oB:Oper):Prop where
  at_:ops[m]? =some oB
  wi: ∀j o,j<m->ops[j]? =some o->j∉PR m->bd j=false-> ∃p ko,ja P Gl (vF rs F0 (PR j)) (vM rs M (PR j)) o=some (p,ko)/\p/\ ∀k,ko=some k->k∈KQ
  wj: ∃nx pr κ,pT P Gl (vF rs F0 (PR m)) (vM rs M (PR m)) nx oB=some (pr,κ)/\pr/\ ∀k∈κ,k∉KQ
  key: ∀k∈KQ,aM (aa M) k=false/\ ∀j,k∉keys rs j
  dh:Region.noSelect ops=true
  ap: ∀j o,j<m->ops[j]? =some o->j∉PR m->o.apart ops oB=true
  low: ∀j∈PR m,j<m
def SQ (KQ:List Nat) (al:Ow) (w w':World):Prop:= ∀k∈KQ,∀L,al.β k none=some L->w'.heap[L.b]? =w.heap[L.b]?
theorem BZ (S:ea P sg Gl Γ N ops PR m rs F F0 M bd wr) (hm:ai w0 al M) (hF:bA w0 al N F a0.tmps) (hG: ∀g,Den w0 al.bare (Gl g) (.pointer (some ⟨g,0,none⟩))) {KQ:List Nat} {oB:Oper} (B:qK P Gl N ops PR m rs F0 M bd KQ oB)
    (I:Inv ops PR m rs M N a0 w0 al D a w J) {j:Nat} {o:Oper} (hj:j<m) (ho:ops[j]? =some o) (dz:j∉PR m) (cL: ∀i∈PR j,D i):
    o.guard=none/\ ∃v,∀w',SQ KQ al w w'->(execOp a.eval o).run P w'= .ok (.value v) w':=by
  obtain⟨g1,g2,g3⟩:=I.all S hm hF cL (λi hi=>S.closed j i hi)
  cases hr:bd j with
  |true=>
   obtain⟨hg,s,_,he⟩:=S.vA j o hj ho hr
   obtain⟨v,U,_⟩:=tT g1 g2 he
   exact⟨hg,v,λw' _=>U w'⟩
  |false=>
   obtain⟨p,ko,he,hp,hk⟩:=B.wi j o hj ho dz hr
   have aD:St P Gl N (vF rs F0 (PR j)) (vM rs M (PR j)) a w (aY rs M J (PR j)):=⟨g2,λg=>Den.ext (o:=al.bare) (I.iI S hm (PR j)).bare (hG g),g1,I.defers⟩
   obtain⟨hg,v,U⟩:=xO aD he hp
   refine⟨hg,v,λw' hs=>U w' λk oJ L hL=>?_⟩
   obtain⟨_,ct⟩:=iZ hL
   have hf:=(B.key k (hk k oJ)).1
   rw[I.gd k none (λ_ _ _=>hf)]at ct
   exact hs k (hk k oJ) L ct
theorem za {oB o:Oper} (fe: ∀(j:Nat) (o:Oper) cs b,ops[j]? =some o->o.op≠ .select cs b) {j:Nat} (ho:ops[j]? =some o) (bo:o.apart ops oB=true) (v:Value):execOp (a.put oB.dst v).eval o=execOp a.eval o:=by
  obtain⟨_,_,h3⟩:=Oper.apart_spec bo
  exact execOp_put o (λcs b=>fe j o cs b ho) a oB.dst v h3
theorem Fk (hS:Sound P Gl Γ) (S:ea P sg Gl Γ N ops PR m rs F F0 M bd wr) (hT: ∀i,m<i->i<ops.size-> ∀j,j<i->j∈PR i) (hm:ai w0 al M) (hF:bA w0 al N F a0.tmps) (hG: ∀g,Den w0 al.bare (Gl g) (.pointer (some ⟨g,0,none⟩))) {Q:Exit->Act->World->Prop} (dK: ∀d c a v w,Q (.panic c) (Act.put a d v) w->Q (.panic c) a w)
    {KQ:List Nat} {oB:Oper} (B:qK P Gl N ops PR m rs F0 M bd KQ oB) (Fl:oB.guard=none)
    (gT: ∀a w J,Inv ops PR m rs M N a0 w0 al (λj=>j<m) a w J->wpList P ops Q (ops.toList.drop m) a w):
    ∀(fuel:Nat) (listed:Array Bool) (a:Act) (w:World) (J:Ow) (n:Next) (v:Value) (w':World),listed.size=ops.size->eQ ops.size (listed.setIfInBounds m true)<=fuel->Inv ops PR m rs M N a0 w0 al (λj=>listed.getD j false=true) a w J->(∀j∈PR m,listed.getD j false=true)->
     (execOp a.eval oB).run P w= .ok n w'->(n= .value v\/(n= .skip/\v=undef))-> ¬(oB.asks P a w/\LetsOut Q)->SQ KQ al w w'->wpAny P .any ops Q fuel (listed.setIfInBounds m true) (a.put oB.dst v) w':=by
  have gD:m<ops.size:=(Array.getElem?_eq_some_iff.1 B.at_).1
  have fe:=Region.noSelect_spec B.dh
  have fin: ∀(fuel:Nat) (listed:Array Bool) (a:Act) (w:World) (J:Ow) (n:Next) (v:Value) (w':World),listed.size=ops.size->eQ ops.size (listed.setIfInBounds m true)<=fuel->Inv ops PR m rs M N a0 w0 al (λj=>listed.getD j false=true) a w J->
   (execOp a.eval oB).run P w= .ok n w'->(n= .value v\/(n= .skip/\v=undef))-> ¬(oB.asks P a w/\LetsOut Q)->(∀j,j<m->listed.getD j false=true)->wpAny P .any ops Q fuel (listed.setIfInBounds m true) (a.put oB.dst v) w':=by
    intro fuel listed a w J n v w' hs hu I cD hn ml dF
    have hD:(λj=>listed.getD j false=true)=(λj=>j<m):=by
      funext j
      exact propext ⟨I.low j,dF j⟩
    have I':=I
    rw[hD]at I'
    have hl:=gT a w J I'
    have uz:ops.toList.drop m=oB::ops.toList.drop (m+1):=by
      have fB:m<ops.toList.length:=by simpa using gD
      rw[List.drop_eq_getElem_cons fB]
      congr 1
      have:=(Array.getElem?_eq_some_iff.1 B.at_).2
      simpa using this
    rw[uz]at hl
    unfold wpList at hl
    have hw:Region.wanted oB (yielded ops a.tmps)=true:=by simp[Region.wanted,Fl]
    rw[if_pos hw]at hl
    have hl:=hl.resolve_right ml
    have wk:wpList P ops Q (ops.toList.drop (m+1)) (a.put oB.dst v) w':=by
      unfold Oper.wp at hl
      rw[cD]at hl
      rcases hn with rfl|⟨rfl,rfl⟩
      · exact hl
      · exact hl
    refine pH S (m+1) (λi U h2 j h3 h4=>hT i (by omega) h2 j h3) fuel (m+1) _ _ _ (by simpa using hs) (λj hj=>?_) (Nat.le_refl _) gD hu wk
    by_cases e:m=j
    · subst e
      have:(listed.setIfInBounds m true).getD m false=true:=by simp[Array.getD,hs,hj]
      rw[this];simp
    · rw[getD_set_ne false e]
      constructor
      · intro h;have:=I.low j h;omega
      · intro h;exact dF j (by omega)
  intro fuel
  induction fuel with
  |zero=>
   intro listed a w J n v w' hs hu I eT cD hn ml kT
   refine fin 0 listed a w J n v w' hs hu I cD hn ml λj hj=>?_
   cases hx:listed.getD j false with
   |true=>rfl
   |false=>
    have U:(listed.setIfInBounds m true).getD j true=false:=by
      rw[getD_set_ne true (by omega),getD_eq (by omega) true false];exact hx
    have:=ll (show j<ops.size by omega) U
    omega
  |succ fuel ih=>
   intro listed a w J n v w' hs hu I eT cD hn ml kT
   by_cases dF: ∀j,j<m->listed.getD j false=true
   · exact fin _ listed a w J n v w' hs hu I cD hn ml dF
   have first: ∃j,j<m/\listed.getD j false=false/\j∈Region.ready .any ops listed:=by
     refine Classical.byContradiction λbt=>?_
     have: ∀n,∀j,j<n->j<m->listed.getD j false=true:=by
       intro n
       induction n with
       |zero=>intro j hj;omega
       |succ n iQ=>
        intro j hj dz
        cases hx:listed.getD j false with
        |true=>rfl
        |false=>
         exfalso
         have aw:j<ops.size:=by omega
         refine bt ⟨j,dz,hx,mem_ready.2 ⟨by rw[getD_eq (by omega) true false];exact hx,ops[j],Array.getElem?_eq_getElem aw,λe he hb=>?_⟩⟩
         have hd:=S.kI j _ (Array.getElem?_eq_getElem aw) e he hb
         exact iQ e.on (by omega) (by omega)
     exact dF λj hj=>this (j+1) j (Nat.lt_succ_self j) hj
   have fE:listed.getD m false=false:=by
     cases hx:listed.getD m false with
     |false=>rfl
     |true=>exact absurd (I.low m hx) (Nat.lt_irrefl _)
   refine⟨λhr=>?_,λi hi=>?_⟩
   · obtain⟨j,hj,_,gE⟩:=first
     have:=ready_mono (i:=m) gE (by omega)
     rw[hr]at this
     simp at this
   · obtain⟨U,o,h2,h3⟩:=mem_ready.1 hi
     have aN:=(Array.getElem?_eq_some_iff.1 h2).1
     have vd:m≠i:=λe=>by
       subst e
       simp[Array.getD,hs,aN]at U
     have kS:listed.getD i false=false:=by
       rw[getD_set_ne true vd,getD_eq (by omega) true false]at U;exact U
     have nS: ∀x∈PR i,x=m\/listed.getD x false=true:=by
       intro x hx
       obtain⟨e,he,hb,bn⟩:=S.dep i o h2 x hx
       have cR:=h3 e he hb
       by_cases em:m=e.on
       · rcases bn with rfl|bn
         · exact .inl em.symm
         · exact .inr (eT x (em▸bn))
       · rw[getD_set_ne false em]at cR
         rcases bn with rfl|bn
         · exact .inr cR
         · exact .inr (I.bU _ cR x bn)
     have cd:i<m:=by
       rcases Nat.lt_or_ge i m with h|h
       · exact h
       · exfalso
         obtain⟨j,hj,iR,_⟩:=first
         rcases nS j (hT i (by omega) aN j (by omega))with h|h
         · omega
         · rw[h]at iR;cases iR
     have cL: ∀x∈PR i,listed.getD x false=true:=λx hx=>(nS x hx).resolve_left λe=>by have:=S.lt i x hx;omega
     have kC:i∉PR m:=λh=>by rw[eT i h]at kS;cases kS
     obtain⟨hg,vi,hv⟩:=BZ S hm hF hG B I cd h2 kC cL
     have bo:=B.ap i o cd h2 kC
     obtain⟨p1,p2,p3⟩:=Oper.apart_spec bo
     have eB:execOp (a.put o.dst vi).eval oB=execOp a.eval oB:=execOp_put oB (λcs b=>fe m oB cs b B.at_) a o.dst vi p1
     have ei:execOp (a.put oB.dst v).eval o=execOp a.eval o:=za fe h2 bo v
     have bY: ¬listed.getD i false=true:=by rw[kS];simp
     have hI: ∃ae,Inv ops PR m rs M N a0 w0 al (λj=>listed.getD j false=true\/j=i) (a.put o.dst vi) w ae:=by
       have h:=I.step (Q:=λ_ _ _=>False) (K:=λa' w'=> ∃ae,Inv ops PR m rs M N a0 w0 al (λj=>listed.getD j false=true\/j=i) a' w' ae) hS S hm hF hG cd h2 bY cL (λa' w' ae I'=>⟨ae,I'⟩)
       unfold wpOp at h
       rw[h2]at h
       simp only at h
       rw[if_pos (by simp[Region.wanted,hg])]at h
       rcases h with h|⟨_,_,_,h⟩
       · unfold Oper.wp at h
         rw[hv w (λ_ _ _ _=>rfl)]at h
         exact h
       · exact h.elim
     obtain⟨ae,I'⟩:=hI
     have eO:(λj=>(listed.setIfInBounds i true).getD j false=true)=(λj=>listed.getD j false=true\/j=i):=by
       funext j
       refine propext ⟨λh=>?_,λh=>?_⟩
       · by_cases e:i=j
         · exact .inr e.symm
         · rw[getD_set_ne false e]at h;exact .inl h
       · rcases h with h|rfl
         · exact getD_set_true h
         · simp[Array.getD,hs,aN]
     have nv:(listed.setIfInBounds m true).setIfInBounds i true=(listed.setIfInBounds i true).setIfInBounds m true:=Array.setIfInBounds_comm _ _ (by omega)
     unfold wpOp
     rw[h2]
     simp only
     rw[if_pos (by simp[Region.wanted,hg])]
     left
     unfold Oper.wp
     rw[ei,hv w' kT]
     show wpAny P .any ops Q fuel ((listed.setIfInBounds m true).setIfInBounds i true) ((a.put oB.dst v).put o.dst vi) w'
     rw[nv,<-Act.put_comm a vi v p2]
     refine ih (listed.setIfInBounds i true) (a.put o.dst vi) w ae n v w' (by simpa using hs) ?_ (by rw[eO];exact I') (λj hj=>getD_set_true (eT j hj)) (by rw[eB];exact cD) hn ?_ kT
     · rw[<-nv]
       have:=j4 (listed:=listed.setIfInBounds m true) aN (by simpa using hs) U
       omega
     · rintro ⟨g1,g2⟩
       refine ml ⟨?_,g2⟩
       unfold Oper.asks at*
       rw[eB]at g1
       exact g1
theorem Cm (hS:Sound P Gl Γ) (S:ea P sg Gl Γ N ops PR m rs F F0 M bd wr) (hT: ∀i,m<i->i<ops.size-> ∀j,j<i->j∈PR i) (hm:ai w0 al M) (hF:bA w0 al N F a0.tmps) (hG: ∀g,Den w0 al.bare (Gl g) (.pointer (some ⟨g,0,none⟩))) {Q:Exit->Act->World->Prop} (dK: ∀d c a v w,Q (.panic c) (Act.put a d v) w->Q (.panic c) a w)
    {KQ:List Nat} {oB:Oper} (B:qK P Gl N ops PR m rs F0 M bd KQ oB)
    (gT: ∀a w J,Inv ops PR m rs M N a0 w0 al (λj=>j<m) a w J->wpList P ops Q (ops.toList.drop m) a w):
    ∀(fuel:Nat) (listed:Array Bool) (a:Act) (w:World) (J:Ow),listed.size=ops.size->eQ ops.size listed<=fuel->Inv ops PR m rs M N a0 w0 al (λj=>listed.getD j false=true) a w J->wpAny P .any ops Q fuel listed a w:=by
  have gD:m<ops.size:=(Array.getElem?_eq_some_iff.1 B.at_).1
  intro fuel
  induction fuel with
  |zero=>
   intro listed a w J hs hu I
   exfalso
   have fE:listed.getD m true=false:=by
     cases hx:listed.getD m false with
     |false=>rw[getD_eq (by omega) true false];exact hx
     |true=>exact absurd (I.low m hx) (Nat.lt_irrefl _)
   have:=ll gD fE
   omega
  |succ fuel ih=>
   intro listed a w J hs hu I
   have fE:listed.getD m false=false:=by
     cases hx:listed.getD m false with
     |false=>rfl
     |true=>exact absurd (I.low m hx) (Nat.lt_irrefl _)
   have fO: ∀i,i∈Region.ready .any ops listed-> ∀x∈PR i,listed.getD x false=true:=by
     intro i hi x hx
     obtain⟨U,o,h2,h3⟩:=mem_ready.1 hi
     obtain⟨e,he,hb,bn⟩:=S.dep i o h2 x hx
     have cR:=h3 e he hb
     rcases bn with rfl|bn
     · exact cR
     · exact I.bU _ cR x bn
   refine⟨λhr=>?_,λi hi=>?_⟩
   · exfalso
     have: ∀n,∀j,j<n->j<ops.size->listed.getD j false=true:=by
       intro n
       induction n with
       |zero=>intro j hj;omega
       |succ n iQ=>
        intro j hj aw
        cases hx:listed.getD j false with
        |true=>rfl
        |false=>
         exfalso
         have:j∈Region.ready .any ops listed:=mem_ready.2 ⟨by rw[getD_eq (by omega) true false];exact hx,ops[j],Array.getElem?_eq_getElem aw,λe he hb=>by
           have hd:=S.kI j _ (Array.getElem?_eq_getElem aw) e he hb
           exact iQ e.on (by omega) (by omega)⟩
         rw[hr]at this
         simp at this
     rw[this (m+1) m (Nat.lt_succ_self m) gD]at fE
     cases fE
   · obtain⟨U,o,h2,h3⟩:=mem_ready.1 hi
     have aN:=(Array.getElem?_eq_some_iff.1 h2).1
     have bY: ¬listed.getD i false=true:=by
       rw[getD_eq (by omega) false true,U];simp
     have eO:(λj=>(listed.setIfInBounds i true).getD j false=true)=(λj=>listed.getD j false=true\/j=i):=by
       funext j
       refine propext ⟨λh=>?_,λh=>?_⟩
       · by_cases e:i=j
         · exact .inr e.symm
         · rw[getD_set_ne false e]at h;exact .inl h
       · rcases h with h|rfl
         · exact getD_set_true h
         · simp[Array.getD,hs,aN]
     have vk:=j4 aN hs U
     rcases Nat.lt_trichotomy i m with cd|cd|cd
     · refine I.step hS S hm hF hG cd h2 bY (fO i hi) λa' w' ae I'=>ih _ a' w' ae (by simpa using hs) (by omega) ?_
       rw[eO];exact I'
     · subst cd
       obtain rfl:o=oB:=Option.some.inj (h2.symm.trans B.at_)
       have eT:=fO i hi
       obtain⟨g1,g2,g3⟩:=I.all S hm hF eT (λj hj=>S.closed i j hj)
       have aD:St P Gl N (vF rs F0 (PR i)) (vM rs M (PR i)) a w (aY rs M J (PR i)):=⟨g2,λg=>Den.ext (o:=al.bare) (I.iI S hm (PR i)).bare (hG g),g1,I.defers⟩
       obtain⟨nx,pr,κ,he,hp,kY⟩:=B.wj
       obtain⟨hg,_,n,v,w',cD,hn,nu⟩:=BY aD he hp
       unfold wpOp
       rw[h2]
       simp only
       rw[if_pos (by simp[Region.wanted,hg])]
       by_cases zT:o.asks P a w/\LetsOut Q
       · exact .inr zT
       left
       have kT:SQ KQ al w w':=by
         intro k hk L hL
         obtain⟨hf,bt⟩:=B.key k hk
         have jy:(aY rs M J (PR i)).β k none=some L:=by
           rw[sub_eq (λh=>by have:=h.1;rw[hf]at this;cases this),I.gd k none (λ_ _ _=>hf)];exact hL
         refine nu L.b (g1.low _ _ _ jy) λk' cC p L' ct e=>?_
         obtain⟨rfl,_⟩:=g1.inj _ _ _ _ _ _ ct jy e
         exact kY _ cC hk
       have:=Fk hS S hT hm hF hG dK B hg gT fuel listed a w J n v w' hs (by omega) I eT cD hn zT kT
       unfold Oper.wp
       rw[cD]
       rcases hn with rfl|⟨rfl,rfl⟩
       · exact this
       · exact this
     · exfalso
       have:=fO i hi m (hT i cd aN m cd)
       rw[fE]at this
       cases this
end
end Go.Sy
set_option linter.unusedVariables false
set_option linter.unusedSimpArgs false
namespace Go.Sy
open Go.RowKit Classical
def p9 (P:Program) (Gl:Nat->SV) (Γ:Table) (F:Fr) (M:Mem) (nx:Nat) (o:Oper):Option (Prop×SV×ak):=
  match o.guard,o.op with
  |none,.call {callee:= .value f,args:=args,argTypes:=_}=>pW Γ (aW Gl F) (aa M) nx f args.toList
  |none,.call {callee:= .invoke r name,args:=args,argTypes:=_}=>pB P Γ (aW Gl F) (aa M) nx r name args.toList
  |_,_=>none
def uk (P:Program) (Gl:Nat->SV) (F:Fr) (M:Mem) (nx:Nat) (o:Oper):Option (Prop×SV×ak):=
  match o.guard,o.dst,o.op with
  |none,none,.store T x y=>
   match gO (aa M) (aW Gl F y),P.info? T,aW Gl F x with
   |some [v],some i,.ptr k st p ii j=>
    match Nat.beq 1 i.size,gu (aa M) v,aR (aa M) k st p,ly (aa M) nx k p ii j v with
    |true,true,true,some (pr,u)=>(match aT (u.map (·.1)) k with|true=>some (pr,.aj,u)|false=>none)
    |_,_,_,_=>none
   |_,_,_=>none
  |_,_,_=>none
def qI (P:Program) (Gl:Nat->SV) (Γ:Table) (F:Fr) (M:Mem) (nx:Nat) (o:Oper):Option (Prop×SV×ak):=
  match o.op with
  | .store _ _ _=>uk P Gl F M nx o
  |_=>p9 P Gl Γ F M nx o
def ym:Op->Bool
  | .load _ _=>true
  | .nilCheck _=>true
  | .indexAddr _ _ _=>true
  |_=>false
section
variable {P:Program} {sg:Bool} {Gl:Nat->SV} {Γ:Table} {N:Nat} {F:Fr} {M:Mem} {a:Act} {w:World} {J:Ow} {H:List Hd}
theorem BW (hS:Sound P Gl Γ) (h:St P Gl N F M a w J) {nx:Nat} {o:Oper} {pr:Prop} {s:SV} {u:ak} (he:p9 P Gl Γ F M nx o=some (pr,s,u)) (hp:pr):o.guard=none/\ni P w J M a o s u:=by
  unfold p9 at he
  split at he
  · next hg ho=>exact⟨hg,tu hS h.bG h.cx ho he hp⟩
  · next hg ho=>exact⟨hg,sJ hS h.bG h.cx ho he hp⟩
  · cases he
def AA (P:Program) (w:World) (J:Ow) (M:Mem) (a:Act) (o:Oper) (s:SV) (u:ak):Prop:=
  ∀{next:Act->World->Prop} {Q:Exit->Act->World->Prop},(∀v w' ae,az w J M w' ae (u++M)->Den w' ae s v->zw J (u.map (·.1)) w w'->next (a.put o.dst v) w')->o.wp P a w next Q
theorem Bx (h:St P Gl N F M a w J) {nx:Nat} {o:Oper} {pr:Prop} {s:SV} {u:ak} (he:uk P Gl F M nx o=some (pr,s,u)) (hp:pr):o.guard=none/\AA P w J M a o s u:=by
  have hm:=h.mem
  unfold uk at he
  split at he
  · next T x y hg hd ho=>
    refine⟨hg,?_⟩
    have hx:=h.cx.val x
    split at he
    · next v i k st p ii j dN hi hs=>
      rw[hs]at hx
      split at he
      · next Ar u' hlen dX ay aD=>
        split at he
        · next aN=>
          simp only[Option.some.injEq,Prod.mk.injEq]at he
          obtain⟨rfl,rfl,rfl⟩:=he
          have hc:=my hm dN (h.cx.val y)
          have hlen:=Nat.eq_of_beq_eq_true hlen
          obtain⟨x0,wg⟩: ∃x0,(a.eval y).cells.toList= [x0]:=by
            have:=hc.len
            match hl:(a.eval y).cells.toList,this with
            | [x0],_=>exact⟨x0,rfl⟩
          rw[wg]at hc
          have dX:([v]:List SV).all (gu (aa M))=true:=by simp[dX]
          have U:=pb hm dX hc
          have aH:(a.eval y).cells.size=i.size:=by rw[<-Array.length_toList,wg,<-hlen];rfl
          have cu:(sizeOf T).run P w= .ok i.size w:=by simp[sizeOf,run_typeInfo w hi,Result.andThen]
          obtain⟨e0,L,hL,eh,ex⟩:=cF hm ay hx
          obtain⟨hj,cb,s1,_⟩:=xr hm aD hp hc.1 (U x0 (by simp)) hL eh
          obtain⟨_,_,_,_,c,T0,g1,g2,g3,g4⟩:=hm.row _ _ _ hL
          obtain⟨_,y1,_⟩:=g4 ii eh j hj
          have hr:=oU (P:=P) (x:=x0) g1 (Array.getElem?_eq_some_iff.1 y1).1 (U x0 (by simp))
          have run:(execOp a.eval o).run P w= .ok .skip (w.setCell ⟨L.b,L.o+ii*L.sz+j,none⟩ x0):=by
            simp[execOp,ho,ex,Instr.storeAt,Instr.sureAddr,storeVar,cu,aH,wg,storeCells,Addr.add,hr,Result.andThen]
          intro next Q hn
          unfold Oper.wp
          rw[run]
          exact hn undef _ cb s1 trivial λb hb hk=>mw w _ x0 (λe=>hk k (cU.1 aN) p L hL e.symm)
        · cases he
      · cases he
    · cases he
  · cases he
theorem Dj (hS:Sound P Gl Γ) (h:St P Gl N F M a w J) {nx:Nat} {o:Oper} {pr:Prop} {s:SV} {u:ak} (he:qI P Gl Γ F M nx o=some (pr,s,u)) (hp:pr):o.guard=none/\AA P w J M a o s u:=by
  unfold qI at he
  split at he
  · exact Bx h he hp
  · obtain⟨hg,id,vs,cD,zz⟩:=BW hS h he hp
    refine⟨hg,?_⟩
    intro next Q hn
    unfold Oper.wp
    rw[cD]
    unfold j_ at zz
    refine zz.mono ?_
    rintro e w' ⟨v,ae,rfl,h3,h4,_,nu⟩
    exact hn v w' ae h3 h4 nu
theorem A2 {o:Oper} {p:Prop} {ko:Option Nat} (he:ja P Gl F M o=some (p,ko)):o.guard=none/\ym o.op=true:=by
  unfold ja at he
  split at he
  · next hg ho=>exact⟨hg,by rw[ho];rfl⟩
  · next hg ho=>exact⟨hg,by rw[ho];rfl⟩
  · next hg ho=>exact⟨hg,by rw[ho];rfl⟩
  · cases he
theorem DW (hS:Sound P Gl Γ) (h:St P Gl N F M a w J) (hH:cS w J N a H) {ops:List Oper} {nx:Nat} {pr:List Nat} {o:Oper} {p:Prop} {rc:Rc} (hg:o.guard=none) (dk:ym o.op=true)
    (he:iz P sg Gl Γ N ops F M H nx pr o=some (p,rc)) (hp:p): ∃s v,rc=⟨cY N o.dst s,[],[]⟩/\(execOp a.eval o).run P w= .ok (.value v) w/\Den w J s v:=by
  have ed:guardOf N ops F H o= .yes:=by unfold guardOf;rw[hg]
  have Fh:qa o.op=false:=by
    cases ho:o.op with
    |load T x=>rfl
    |nilCheck x=>rfl
    |indexAddr T x y=>rfl
    |_=>rw[ho]at dk;cases dk
  unfold iz at he
  rw[ed,Fh]at he
  have key: ∃s u,rc=⟨cY N o.dst s,[],u⟩/\(fu P sg Gl Γ F M nx H [] o.op).run (λs' u'=>s'=s/\u'=u):=by
    cases gB:je H o.dst with
    |false=>rw[gB]at he;cases he
    |true=>
     rw[gB]at he
     simp only at he
     split at he
     · next s hr=>
       simp only[Option.some.injEq,Prod.mk.injEq]at he
       exact⟨s,[],he.2.symm,by rw[hr];exact⟨rfl,rfl⟩⟩
     · next s hr=>
       simp only[Option.some.injEq,Prod.mk.injEq]at he
       exact⟨s,[],he.2.symm,by rw[hr];exactλ_=>⟨rfl,rfl⟩⟩
     · next s hr=>
       simp only[Option.some.injEq,Prod.mk.injEq]at he
       exact⟨s,[],he.2.symm,by rw[hr];exact⟨by rw[he.1];exact hp,rfl,rfl⟩⟩
     · next s u hr=>
       split at he
       · simp only[Option.some.injEq,Prod.mk.injEq]at he
         exact⟨s,u,he.2.symm,by rw[hr];exact⟨by rw[he.1];exact hp,rfl,rfl⟩⟩
       · cases he
     · cases he
     · cases he
  obtain⟨s,u,rfl,cD⟩:=key
  have hc:Cx P w J (aW Gl (dp [] F H)) M a:=⟨(gf h.frame (As:= []) (λp hp=>by cases hp) H hH).aW h.bG,h.mem⟩
  have fin: ∀{r:R},(∀{K':SV->Prop},r.run K'->bV P w J a o K')->r.up.run (λs' u'=>s'=s/\u'=u)-> ∃AB v,(⟨cY N o.dst s,[],u⟩:Rc)=⟨cY N o.dst AB,[],[]⟩/\(execOp a.eval o).run P w= .ok (.value v) w/\Den w J AB v:=by
    intro r U h2
    have:r.run (λs'=>s'=s/\([]:ak)=u):=by cases r<;>exact h2
    obtain⟨s',v,g1,g2,rfl,rfl⟩:=U this
    exact⟨s',v,rfl,g1,g2⟩
  cases ho:o.op with
  |load T x=>rw[ho]at cD;exact fin (λhk=>ka hc (by rw[ho];exact hk)) cD
  |nilCheck x=>rw[ho]at cD;exact fin (λhk=>ka hc (by rw[ho];exact hk)) cD
  |indexAddr T x y=>rw[ho]at cD;exact fin (λhk=>ka hc (by rw[ho];exact hk)) cD
  |_=>rw[ho]at dk;cases dk
end
section
variable {P:Program} {sg:Bool} {Gl:Nat->SV} {Γ:Table} {N:Nat} {ops:Array Oper} {PR:Nat->List Nat} {m:Nat} {rs:List Rc} {F F0:Fr} {M:Mem} {bd wr:Nat->Bool}
variable {a0 a:Act} {w0 w:World} {al J:Ow} {D:Nat->Prop}
structure qk (P:Program) (Gl:Nat->SV) (Γ:Table) (N:Nat) (ops:Array Oper) (PR:Nat->List Nat) (m:Nat) (rs:List Rc) (F0:Fr) (M:Mem) (bd wr:Nat->Bool) (KQ:List Nat) (oB:Oper) (sB:SV) (uB:ak):Prop where
  at_:ops[m]? =some oB
  wi: ∀j o,j<m->ops[j]? =some o->j∉PR m->bd j=false-> ∃p ko,ja P Gl (vF rs F0 (PR j)) (vM rs M (PR j)) o=some (p,ko)/\p/\ ∀k,ko=some k->k∈KQ
  emp: ∀j,j<m->j∉PR m->keys rs j= []/\wr j=false
  wj: ∃nx pr,qI P Gl Γ (vF rs F0 (PR m)) (vM rs M (PR m)) nx oB=some (pr,sB,uB)/\pr
  out: ∀k∈uB.map (·.1),k∉KQ
  key: ∀k∈KQ,aM (aa M) k=false/\ ∀j,k∉keys rs j
  dh:Region.noSelect ops=true
  ap: ∀j o,j<m->ops[j]? =some o->j∉PR m->o.apart ops oB=true
  low: ∀j∈PR m,j<m
theorem By (hS:Sound P Gl Γ) (S:ea P sg Gl Γ N ops PR m rs F F0 M bd wr) (hm:ai w0 al M) (hF:bA w0 al N F a0.tmps) (hG: ∀g,Den w0 al.bare (Gl g) (.pointer (some ⟨g,0,none⟩))) {KQ:List Nat} {oB:Oper} {sB:SV} {uB:ak} (B:qk P Gl Γ N ops PR m rs F0 M bd wr KQ oB sB uB)
    (I:Inv ops PR m rs M N a0 w0 al D a w J) {j:Nat} {o:Oper} (hj:j<m) (ho:ops[j]? =some o) (dz:j∉PR m) (bY: ¬D j) (cL: ∀i∈PR j,D i):
    o.guard=none/\ ∃v,(∀w',SQ KQ al w w'->(execOp a.eval o).run P w'= .ok (.value v) w')/\Inv ops PR m rs M N a0 w0 al (λi=>D i\/i=j) (a.put o.dst v) w J:=by
  obtain⟨g1,g2,g3⟩:=I.all S hm hF cL (λi hi=>S.closed j i hi)
  have np:=(B.emp j hj dz).1
  have inv: ∀{v:Value} {s:SV},aL rs j=⟨cY N o.dst s,[],[]⟩->Den w (aY rs M J (PR j)) s v->Inv ops PR m rs M N a0 w0 al (λi=>D i\/i=j) (a.put o.dst v) w J:=by
    intro v s fX hd
    have h:=I.yP S hm hj ho bY cL (λk hk=>by rw[np]at hk;cases hk) (v:=v) (w':=w) (bz:=aY rs M J (PR j)) (by rw[fX];exact az.refl g1) (by rw[fX];exact dM.refl _ _) (by rw[fX];exact⟨oT hd,λx hx=>by cases hx⟩)
    have e:(⟨(aY rs M J (PR j)).A,J.Z,λk p=>if k∈keys rs j then(aY rs M J (PR j)).β k p else J.β k p,J.cur⟩:Ow)=J:=by
      show(⟨J.A,J.Z,_,J.cur⟩:Ow)=J
      have:(λk p=>if k∈keys rs j then(aY rs M J (PR j)).β k p else J.β k p)=J.β:=by
        funext k p
        rw[if_neg (by rw[np];simp)]
      rw[this]
    rw[e]at h
    exact h
  cases hr:bd j with
  |true=>
   obtain⟨hg,s,fX,he⟩:=S.vA j o hj ho hr
   obtain⟨v,U,h2⟩:=tT g1 g2 he
   exact⟨hg,v,λw' _=>U w',inv fX h2⟩
  |false=>
   obtain⟨p,ko,he,hp,hk⟩:=B.wi j o hj ho dz hr
   have aD:St P Gl N (vF rs F0 (PR j)) (vM rs M (PR j)) a w (aY rs M J (PR j)):=⟨g2,λg=>Den.ext (o:=al.bare) (I.iI S hm (PR j)).bare (hG g),g1,I.defers⟩
   obtain⟨hg,v,U⟩:=xO aD he hp
   obtain⟨_,dk⟩:=A2 he
   obtain⟨nx,p',Fi,n_⟩:=S.ev j o hj ho hr (B.emp j hj dz).2
   obtain⟨s,v',fX,h2,h3⟩:=DW hS aD g3 hg dk Fi n_
   have h0:=U w (λ_ _ _ _=>rfl)
   rw[h2]at h0
   obtain rfl:v'=v:=by cases h0;rfl
   refine⟨hg,v',λw' hs=>U w' λk oJ L hL=>?_,inv fX h3⟩
   obtain⟨_,ct⟩:=iZ hL
   have hf:=(B.key k (hk k oJ)).1
   rw[I.gd k none (λ_ _ _=>hf)]at ct
   exact hs k (hk k oJ) L ct
def uL (KQ:List Nat) (PR:Nat->List Nat) (m:Nat) (rs:List Rc) (M:Mem) (al:Ow) (sB:SV) (uB:ak) (w:World) (J:Ow) (v:Value) (w':World):Prop:=
  SQ KQ al w w'/\ ∃ae,Ext w (aY rs M J (PR m)) w' ae/\ai w' ae (uB++vM rs M (PR m))/\Den w' ae sB v
theorem Ew (hS:Sound P Gl Γ) (S:ea P sg Gl Γ N ops PR m rs F F0 M bd wr) (hT: ∀i,m<i->i<ops.size-> ∀j,j<i->j∈PR i) (hm:ai w0 al M) (hF:bA w0 al N F a0.tmps) (hG: ∀g,Den w0 al.bare (Gl g) (.pointer (some ⟨g,0,none⟩))) {Q:Exit->Act->World->Prop} (dK: ∀d c a v w,Q (.panic c) (Act.put a d v) w->Q (.panic c) a w)
    {KQ:List Nat} {oB:Oper} {sB:SV} {uB:ak} (B:qk P Gl Γ N ops PR m rs F0 M bd wr KQ oB sB uB)
    (gT: ∀a w J v w',Inv ops PR m rs M N a0 w0 al (λj=>j<m) a w J->uL KQ PR m rs M al sB uB w J v w'->wpList P ops Q (ops.toList.drop (m+1)) (a.put oB.dst v) w') (w:World) (J:Ow) (v:Value) (w':World) (p8:uL KQ PR m rs M al sB uB w J v w'):
    ∀(fuel:Nat) (listed:Array Bool) (a:Act),listed.size=ops.size->eQ ops.size (listed.setIfInBounds m true)<=fuel->Inv ops PR m rs M N a0 w0 al (λj=>listed.getD j false=true) a w J->(∀j∈PR m,listed.getD j false=true)->
     wpAny P .any ops Q fuel (listed.setIfInBounds m true) (a.put oB.dst v) w':=by
  have gD:m<ops.size:=(Array.getElem?_eq_some_iff.1 B.at_).1
  have fe:=Region.noSelect_spec B.dh
  have fin: ∀(fuel:Nat) (listed:Array Bool) (a:Act),listed.size=ops.size->eQ ops.size (listed.setIfInBounds m true)<=fuel->Inv ops PR m rs M N a0 w0 al (λj=>listed.getD j false=true) a w J->
   (∀j,j<m->listed.getD j false=true)->wpAny P .any ops Q fuel (listed.setIfInBounds m true) (a.put oB.dst v) w':=by
    intro fuel listed a hs hu I dF
    have hD:(λj=>listed.getD j false=true)=(λj=>j<m):=by
      funext j
      exact propext ⟨I.low j,dF j⟩
    have I':=I
    rw[hD]at I'
    have wk:=gT a w J v w' I' p8
    refine pH S (m+1) (λi U h2 j h3 h4=>hT i (by omega) h2 j h3) fuel (m+1) _ _ _ (by simpa using hs) (λj hj=>?_) (Nat.le_refl _) gD hu wk
    by_cases e:m=j
    · subst e
      have:(listed.setIfInBounds m true).getD m false=true:=by simp[Array.getD,hs,hj]
      rw[this];simp
    · rw[getD_set_ne false e]
      constructor
      · intro h;have:=I.low j h;omega
      · intro h;exact dF j (by omega)
  intro fuel
  induction fuel with
  |zero=>
   intro listed a hs hu I eT
   refine fin 0 listed a hs hu I λj hj=>?_
   cases hx:listed.getD j false with
   |true=>rfl
   |false=>
    have U:(listed.setIfInBounds m true).getD j true=false:=by
      rw[getD_set_ne true (by omega),getD_eq (by omega) true false];exact hx
    have:=ll (show j<ops.size by omega) U
    omega
  |succ fuel ih=>
   intro listed a hs hu I eT
   by_cases dF: ∀j,j<m->listed.getD j false=true
   · exact fin _ listed a hs hu I dF
   have first: ∃j,j<m/\listed.getD j false=false/\j∈Region.ready .any ops listed:=by
     refine Classical.byContradiction λbt=>?_
     have: ∀n,∀j,j<n->j<m->listed.getD j false=true:=by
       intro n
       induction n with
       |zero=>intro j hj;omega
       |succ n iQ=>
        intro j hj dz
        cases hx:listed.getD j false with
        |true=>rfl
        |false=>
         exfalso
         have aw:j<ops.size:=by omega
         refine bt ⟨j,dz,hx,mem_ready.2 ⟨by rw[getD_eq (by omega) true false];exact hx,ops[j],Array.getElem?_eq_getElem aw,λe he hb=>?_⟩⟩
         have hd:=S.kI j _ (Array.getElem?_eq_getElem aw) e he hb
         exact iQ e.on (by omega) (by omega)
     exact dF λj hj=>this (j+1) j (Nat.lt_succ_self j) hj
   have fE:listed.getD m false=false:=by
     cases hx:listed.getD m false with
     |false=>rfl
     |true=>exact absurd (I.low m hx) (Nat.lt_irrefl _)
   refine⟨λhr=>?_,λi hi=>?_⟩
   · obtain⟨j,hj,_,gE⟩:=first
     have:=ready_mono (i:=m) gE (by omega)
     rw[hr]at this
     simp at this
   · obtain⟨U,o,h2,h3⟩:=mem_ready.1 hi
     have aN:=(Array.getElem?_eq_some_iff.1 h2).1
     have vd:m≠i:=λe=>by
       subst e
       simp[Array.getD,hs,aN]at U
     have kS:listed.getD i false=false:=by
       rw[getD_set_ne true vd,getD_eq (by omega) true false]at U;exact U
     have nS: ∀x∈PR i,x=m\/listed.getD x false=true:=by
       intro x hx
       obtain⟨e,he,hb,bn⟩:=S.dep i o h2 x hx
       have cR:=h3 e he hb
       by_cases em:m=e.on
       · rcases bn with rfl|bn
         · exact .inl em.symm
         · exact .inr (eT x (em▸bn))
       · rw[getD_set_ne false em]at cR
         rcases bn with rfl|bn
         · exact .inr cR
         · exact .inr (I.bU _ cR x bn)
     have cd:i<m:=by
       rcases Nat.lt_or_ge i m with h|h
       · exact h
       · exfalso
         obtain⟨j,hj,iR,_⟩:=first
         rcases nS j (hT i (by omega) aN j (by omega))with h|h
         · omega
         · rw[h]at iR;cases iR
     have cL: ∀x∈PR i,listed.getD x false=true:=λx hx=>(nS x hx).resolve_left λe=>by have:=S.lt i x hx;omega
     have kC:i∉PR m:=λh=>by rw[eT i h]at kS;cases kS
     have bY: ¬listed.getD i false=true:=by rw[kS];simp
     obtain⟨hg,vi,hv,I'⟩:=By hS S hm hF hG B I cd h2 kC bY cL
     have bo:=B.ap i o cd h2 kC
     obtain⟨p1,p2,p3⟩:=Oper.apart_spec bo
     have ei:execOp (a.put oB.dst v).eval o=execOp a.eval o:=za fe h2 bo v
     have eO:(λj=>(listed.setIfInBounds i true).getD j false=true)=(λj=>listed.getD j false=true\/j=i):=by
       funext j
       refine propext ⟨λh=>?_,λh=>?_⟩
       · by_cases e:i=j
         · exact .inr e.symm
         · rw[getD_set_ne false e]at h;exact .inl h
       · rcases h with h|rfl
         · exact getD_set_true h
         · simp[Array.getD,hs,aN]
     have nv:(listed.setIfInBounds m true).setIfInBounds i true=(listed.setIfInBounds i true).setIfInBounds m true:=Array.setIfInBounds_comm _ _ (by omega)
     unfold wpOp
     rw[h2]
     simp only
     rw[if_pos (by simp[Region.wanted,hg])]
     left
     unfold Oper.wp
     rw[ei,hv w' p8.1]
     show wpAny P .any ops Q fuel ((listed.setIfInBounds m true).setIfInBounds i true) ((a.put oB.dst v).put o.dst vi) w'
     rw[nv,<-Act.put_comm a vi v p2]
     refine ih (listed.setIfInBounds i true) (a.put o.dst vi) (by simpa using hs) ?_ (by rw[eO];exact I') (λj hj=>getD_set_true (eT j hj))
     rw[<-nv]
     have:=j4 (listed:=listed.setIfInBounds m true) aN (by simpa using hs) U
     omega
theorem Co (hS:Sound P Gl Γ) (S:ea P sg Gl Γ N ops PR m rs F F0 M bd wr) (hT: ∀i,m<i->i<ops.size-> ∀j,j<i->j∈PR i) (hm:ai w0 al M) (hF:bA w0 al N F a0.tmps) (hG: ∀g,Den w0 al.bare (Gl g) (.pointer (some ⟨g,0,none⟩))) {Q:Exit->Act->World->Prop} (dK: ∀d c a v w,Q (.panic c) (Act.put a d v) w->Q (.panic c) a w)
    {KQ:List Nat} {oB:Oper} {sB:SV} {uB:ak} (B:qk P Gl Γ N ops PR m rs F0 M bd wr KQ oB sB uB)
    (gT: ∀a w J v w',Inv ops PR m rs M N a0 w0 al (λj=>j<m) a w J->uL KQ PR m rs M al sB uB w J v w'->wpList P ops Q (ops.toList.drop (m+1)) (a.put oB.dst v) w'):
    ∀(fuel:Nat) (listed:Array Bool) (a:Act) (w:World) (J:Ow),listed.size=ops.size->eQ ops.size listed<=fuel->Inv ops PR m rs M N a0 w0 al (λj=>listed.getD j false=true) a w J->wpAny P .any ops Q fuel listed a w:=by
  have gD:m<ops.size:=(Array.getElem?_eq_some_iff.1 B.at_).1
  intro fuel
  induction fuel with
  |zero=>
   intro listed a w J hs hu I
   exfalso
   have fE:listed.getD m true=false:=by
     cases hx:listed.getD m false with
     |false=>rw[getD_eq (by omega) true false];exact hx
     |true=>exact absurd (I.low m hx) (Nat.lt_irrefl _)
   have:=ll gD fE
   omega
  |succ fuel ih=>
   intro listed a w J hs hu I
   have fE:listed.getD m false=false:=by
     cases hx:listed.getD m false with
     |false=>rfl
     |true=>exact absurd (I.low m hx) (Nat.lt_irrefl _)
   have fO: ∀i,i∈Region.ready .any ops listed-> ∀x∈PR i,listed.getD x false=true:=by
     intro i hi x hx
     obtain⟨U,o,h2,h3⟩:=mem_ready.1 hi
     obtain⟨e,he,hb,bn⟩:=S.dep i o h2 x hx
     have cR:=h3 e he hb
     rcases bn with rfl|bn
     · exact cR
     · exact I.bU _ cR x bn
   refine⟨λhr=>?_,λi hi=>?_⟩
   · exfalso
     have: ∀n,∀j,j<n->j<ops.size->listed.getD j false=true:=by
       intro n
       induction n with
       |zero=>intro j hj;omega
       |succ n iQ=>
        intro j hj aw
        cases hx:listed.getD j false with
        |true=>rfl
        |false=>
         exfalso
         have:j∈Region.ready .any ops listed:=mem_ready.2 ⟨by rw[getD_eq (by omega) true false];exact hx,ops[j],Array.getElem?_eq_getElem aw,λe he hb=>by
           have hd:=S.kI j _ (Array.getElem?_eq_getElem aw) e he hb
           exact iQ e.on (by omega) (by omega)⟩
         rw[hr]at this
         simp at this
     rw[this (m+1) m (Nat.lt_succ_self m) gD]at fE
     cases fE
   · obtain⟨U,o,h2,h3⟩:=mem_ready.1 hi
     have aN:=(Array.getElem?_eq_some_iff.1 h2).1
     have bY: ¬listed.getD i false=true:=by
       rw[getD_eq (by omega) false true,U];simp
     have eO:(λj=>(listed.setIfInBounds i true).getD j false=true)=(λj=>listed.getD j false=true\/j=i):=by
       funext j
       refine propext ⟨λh=>?_,λh=>?_⟩
       · by_cases e:i=j
         · exact .inr e.symm
         · rw[getD_set_ne false e]at h;exact .inl h
       · rcases h with h|rfl
         · exact getD_set_true h
         · simp[Array.getD,hs,aN]
     have vk:=j4 aN hs U
     rcases Nat.lt_trichotomy i m with cd|cd|cd
     · refine I.step hS S hm hF hG cd h2 bY (fO i hi) λa' w' ae I'=>ih _ a' w' ae (by simpa using hs) (by omega) ?_
       rw[eO];exact I'
     · subst cd
       obtain rfl:o=oB:=Option.some.inj (h2.symm.trans B.at_)
       have eT:=fO i hi
       obtain⟨g1,g2,g3⟩:=I.all S hm hF eT (λj hj=>S.closed i j hj)
       have aD:St P Gl N (vF rs F0 (PR i)) (vM rs M (PR i)) a w (aY rs M J (PR i)):=⟨g2,λg=>Den.ext (o:=al.bare) (I.iI S hm (PR i)).bare (hG g),g1,I.defers⟩
       obtain⟨nx,pr,he,hp⟩:=B.wj
       obtain⟨hg,dk⟩:=Dj hS aD he hp
       unfold wpOp
       rw[h2]
       simp only
       rw[if_pos (by simp[Region.wanted,hg])]
       left
       refine dk ?_
       intro v w' ae h3 h4 nu
       have kT:SQ KQ al w w':=by
         intro k hk L hL
         obtain⟨hf,bt⟩:=B.key k hk
         have jy:(aY rs M J (PR i)).β k none=some L:=by
           rw[sub_eq (λh=>by have:=h.1;rw[hf]at this;cases this),I.gd k none (λ_ _ _=>hf)];exact hL
         refine nu L.b (g1.low _ _ _ jy) λk' cC p L' ct e=>?_
         obtain⟨rfl,_⟩:=g1.inj _ _ _ _ _ _ ct jy e
         exact B.out _ cC hk
       exact Ew hS S hT hm hF hG dK B gT w J v w' ⟨kT,ae,h3.ext,h3.mem,h4⟩ fuel listed a hs (by omega) I eT
     · exfalso
       have:=fO i hi m (hT i cd aN m cd)
       rw[fE]at this
       cases this
end
end Go.Sy
