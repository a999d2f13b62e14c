/-
  Sy: regions that draw their order: an append that ends a slice of one's own, and may come ahead of some loads.
-/
import Derived.Test.YtmieeldmfehpoaaGreatDoorYE
set_option linter.unusedVariables false
set_option linter.unusedSimpArgs false
set_option linter.unusedVariables false
set_option linter.unusedSimpArgs false
namespace Go.Sy
open Go.RowKit Classical
def oO (P:Program) (Gl:Nat->SV) (F:Fr) (M:Mem) (o:Oper):Option (Prop×Option Nat):=
  match o.guard,o.op with
  |none,.load T x=>
   match P.underlying T,cK Gl F x with
   |some d,.ptr k st none _ j=>
    match kT d,cC (ae M) k st none,(ae M k).b with
    |false,true,.cells l=>(match Nat.blt j l.length with|true=>some (True,some k)|false=>none)
    |_,_,_=>none
   |_,_=>none
  |none,.nilCheck x=>
   match cK Gl F x with
   | .ptr k st p _ _=>(match cC (ae M) k st p with|true=>some (True,none)|false=>none)
   | .pt _ _ _=>some (True,none)
   |_=>none
  |none,.indexAddr T x y=>
   match P.underlying T,cK Gl F x,cK Gl F y with
   |some (.slice E),.aV k st p _ n,.v (.int _ z)=>(match P.info? E,cC (ae M) k st p with|some _,true=>some (0<=z/\z<n,none)|_,_=>none)
   |some (.slice E),.sl _ _ n _,.v (.int _ z)=>(match P.info? E with|some _=>some (0<=z/\z<n,none)|_=>none)
   |_,_,_=>none
  |_,_=>none
section
variable {P:Program} {sg:Bool} {Gl:Nat->SV} {Γ:Table} {N:Nat} {F:Fr} {M:Mem} {a:Act} {w:World} {ω:Ow}
theorem Hw {o:Oper} {T E:TypeId} {x y:Operand} {ie:TypeInfo} (ho:o.op= .indexAddr T x y) (hu:P.underlying T=some (.slice E)) (hi:P.info? E=some ie) {ad:Addr} {n cap:Nat} {k:IntKind} {z:Int}
    (ex:a.eval x= .slice (some ad) n cap) (ey:a.eval y= .int k z) (h0:0<=z) (J:z<n) (w':World):(execOp a.eval o).run P w'= .ok (.value (.pointer (some (ad.add (z.toNat*ie.size))))) w':=by
  have mi:(sizeOf E).run P w'= .ok ie.size w':=by simp[sizeOf,run_typeInfo w' hi,Result.andThen]
  simp[execOp,ho,ex,ey,Instr.indexAt,asIntOf,run_underlying hu,Result.andThen,h0,J,mi]
theorem Jb (h:St P Gl N F M a w ω) {o:Oper} {p:Prop} {ko:Option Nat} (he:oO P Gl F M o=some (p,ko)) (hp:p):
    o.guard=none/\ ∃v,∀w',(∀k,ko=some k-> ∀L,ω.β k none=some L->w'.heap[L.b]? =w.heap[L.b]?)->(execOp a.eval o).run P w'= .ok (.value v) w':=by
  unfold oO at he
  split at he
  · next T x hg ho=>
    refine⟨hg,?_⟩
    have hx:=h.frame.cK h.dY x
    split at he
    · next d k st ii j hu hs=>
      split at he
      · next l hd bC hb=>
        split at he
        · next hj=>
          obtain⟨rfl,rfl⟩:=Prod.mk.inj (Option.some.inj he)
          have hj:j<l.length:=Nat.le_of_ble_eq_true hj
          rw[hs]at hx
          obtain⟨_,L,hL,Gn,ex⟩:=fS h.mem bC hx
          obtain⟨c1,c2⟩:=uF h.mem hb hL
          obtain⟨r,_,_,_,c,T',g4,g5,g6,g7⟩:=h.mem.row _ _ _ hL
          obtain⟨y,y1,_⟩:=g7 ii Gn j (by omega)
          have pb: ∀w':World,w'.heap[L.b]? =w.heap[L.b]? ->w'.cell? ⟨L.b,L.o+ii*L.sz+j,none⟩=some y:=by
            intro w' e
            rw[g4]at e
            simp[World.cell?,e,y1]
          refine⟨y,λw' kW=>?_⟩
          have:=xl (P:=P) hu hd w' _ y (pb w' (kW k rfl L hL))
          simp[execOp,ho,ex,Instr.loadAt,Instr.sureAddr,this,Result.andThen]
        · cases he
      · cases he
    · cases he
  · next x hg ho=>
    refine⟨hg,?_⟩
    have hx:=h.frame.cK h.dY x
    have run:(∃ad,a.eval x= .pointer (some ad))-> ∃v,∀w',(∀k,ko=some k-> ∀L,ω.β k none=some L->w'.heap[L.b]? =w.heap[L.b]?)->(execOp a.eval o).run P w'= .ok (.value v) w':=by
      rintro ⟨ad,e⟩
      exact⟨.pointer (some ad),λw' _=>by simp[execOp,ho,e]⟩
    split at he
    · next k st p' i j hs=>
      split at he
      · next bC=>
        rw[hs]at hx
        obtain⟨_,L,_,_,e⟩:=fS h.mem bC hx
        exact run ⟨_,e⟩
      · cases he
    · next q n f hs=>
      rw[hs]at hx
      obtain⟨b,e,_⟩:=hx
      exact run ⟨_,e⟩
    · cases he
  · next T x y hg ho=>
    refine⟨hg,?_⟩
    have hx:=h.frame.cK h.dY x
    have hy:=h.frame.cK h.dY y
    split at he
    · next E k st p' e n kk z hu eV eo=>
      split at he
      · next ie bC hi hb=>
        obtain⟨rfl,rfl⟩:=Prod.mk.inj (Option.some.inj he)
        rw[eV]at hx
        rw[eo]at hy
        have e0:st=Sy.st ω.cur k p':=by
          rw[h.mem.cur]
          cases p' with
          |none=>exact Nat.eq_of_beq_eq_true hb
          |some _=>exact Nat.eq_of_beq_eq_true hb
        rcases hx with hx|⟨_,q,cap,ex,iO,_,hx⟩
        · omega
        rcases hx with hx|⟨L,hL,rfl,_,_⟩
        · have:=hp.1;have:=hp.2;omega
        exact⟨_,λw' _=>Hw ho hu hi ex hy hp.1 hp.2 w'⟩
      · cases he
    · next E q sz n f kk z hu eV eo=>
      split at he
      · next ie hi=>
        obtain⟨rfl,rfl⟩:=Prod.mk.inj (Option.some.inj he)
        rw[eV]at hx
        rw[eo]at hy
        obtain⟨p',cap,ex,_,_,hx⟩:=hx
        rcases hx with hx|⟨ad,rfl,_⟩
        · have:=hp.1;have:=hp.2;omega
        exact⟨_,λw' _=>Hw ho hu hi ex hy hp.1 hp.2 w'⟩
      · cases he
    · cases he
  · cases he
theorem QY (hm:aR w ω M) {sx sy:SV} {o:Oper} {T:TypeId} {x y:Operand} {nx:Nat} {pr:Prop} {s:SV} {u:a_} (hx:Den w ω sx (a.eval x)) (hy:Den w ω sy (a.eval y)) (ho:o.op= .call {callee:= .builtin .append,args:= #[x,y],argTypes:= #[T,T]})
    (hb:s9 sx=false) (he:oE P (ae M) nx T sx sy=some (pr,s,u)) (hp:pr):nX P w ω M a o s u:=by
  unfold oE at he
  rw[hb]at he
  simp only at he
  split at he
  · next z hz=>
    split at he
    · next v hv=>
      simp only[Option.some.injEq,Prod.mk.injEq]at he
      obtain⟨rfl,rfl,rfl⟩:=he
      obtain⟨al,k,st,i,j,e,n,e1,e2,e3,J,U,h3,_⟩:=xH hm hz
      rw[e1]at hx
      have hy:Den w al (oQ (ae M) (nx+60) sx sy).2 (a.eval y):=by
        have gu:=hp.1
        revert gu hy
        rw[e1]
        generalize sy=t
        unfold oQ
        split
        · next k1 st1 i1 j1 _ _ k' Gf i' j' e' n' heq=>
          split
          · next b1 b2 b3=>
            obtain⟨rfl,rfl,Gg,rfl,rfl⟩:=SV.aV.inj heq
            obtain⟨rfl,rfl⟩:=Prod.mk.inj (Option.some.inj Gg)
            obtain rfl:=Nat.eq_of_beq_eq_true b1
            obtain rfl:=Nat.eq_of_beq_eq_true b2
            obtain rfl:=Nat.eq_of_beq_eq_true b3
            intro hy gu
            have gu:i'=i:=gu
            subst gu
            exact U _ _ _ hy
          · intro hy _;exact Den.ext J.ext hy
        · intro hy _;exact Den.ext J.ext hy
      rw[lj]at hv
      have rv:Den w al z.1 (a.eval x):=by rw[e3];exact U _ _ _ hx
      obtain⟨nn,vv,w',Gh,g1,g2,g3,g4⟩:=xp (P:=P) (a:=a) (tx:=λ_=>z.1) (ty:=λ_=>(oQ (ae M) (nx+60) sx sy).2) J.mem rv hy ho hv hp.2
      exact⟨nn,vv,w',Gh,g1,g2,by rw[List.append_assoc];exact J.trans g3,g4⟩
    · cases he
  · exact xp (P:=P) (a:=a) (tx:=λ_=>sx) (ty:=λ_=>sy) hm hx hy ho he hp
/-! ### the append that ends a slice -/
def tc:SV->List Nat
  | .aV k _ _ _ _=> [k]
  |_=> []
def rK:List Nat->List Nat->List Nat
  | [],l=>l
  |k::r,l=>match cO l k with|true=>rK r l|false=>k::rK r l
end
def DQ:SV->Bool
  | .aK=>true
  | .v _=>true
  | .bl _=>true
  | .es=>true
  | .sl _ _ _ _=>true
  | .pt _ _ _=>true
  | .pa _ _ _ _=>true
  | .er _ _ _ _=>true
  |_=>false
def W8:SV->Prop
  | .il sz _ g=> ∀a,kS sz λb=>DQ (g a b)=true
  |s=>DQ s=true
def MF:bh->Prop
  | .row sz _ f=> ∀i,kS sz λj=>W8 (f i j)
  |_=>False
def Ft:List Nat->(Nat->Prop)->Prop
  | [],_=>True
  |k::r,p=>p k/\Ft r p
theorem Jc: ∀{l:List Nat} {p:Nat->Prop},Ft l p-> ∀k∈l,p k
  | [],_,_,k,hk=>absurd hk (by simp)
  |i::r,p,h,k,hk=>by
   rcases List.mem_cons.1 hk with rfl|hk
   · exact h.1
   · exact Jc h.2 k hk
def A5:SV->SV
  | .aV k s p e n=> .aV k s p e n
  | .v x=> .v x
  | .bl b=> .bl b
  | .es=> .es
  | .sl q sz n f=> .sl q sz n f
  |_=> .aK
def nQ (M:Mem) (κ:List Nat):Mem:=κ.map λk=>(k,ae M k)
theorem p4 {M:Mem}: ∀{κ:List Nat} {k:Nat},k∈κ->ae (nQ M κ) k=ae M k
  | [],k,h=>absurd h (by simp)
  |i::r,k,h=>by
   unfold nQ
   rw[List.map_cons]
   by_cases e:i=k
   · subst e;exact c_
   · rw[cB e]
     exact p4 (κ:=r) ((List.mem_cons.1 h).resolve_left λh=>e h.symm)
theorem BL {M:Mem}: ∀{κ:List Nat} {k:Nat},k∉κ->ae (nQ M κ) k=⟨0,0,none,.dead⟩
  | [],k,_=>rfl
  |i::r,k,h=>by
   unfold nQ
   rw[List.map_cons,cB (λe=>h (by simp[e]))]
   exact BL (κ:=r) λh'=>h (by simp[h'])
def mz (M:Mem) (k:Nat) (p:Path):Bool:=match p,(ae M k).b with|some ij,.row sz _ _=>Nat.blt ij.2 sz|_,_=>true
def Fu (M:Mem):SV->Bool
  | .aV k _ p _ _=>mz M k p
  |_=>true
def yO (P:Program) (Gl:Nat->SV) (F:Fr) (M:Mem) (nx:Nat) (o:Oper):Option (Prop×List Nat):=
  match o.guard,o.op with
  |none,.call {callee:= .builtin .append,args:=⟨[x,y]⟩,argTypes:=⟨[T,T']⟩}=>
   let κ:=rK (tc (cK Gl F x)) (tc (cK Gl F y))
   match Nat.beq T T'&&Fu M (cK Gl F x)&&Fu M (cK Gl F y)&&!s9 (A5 (cK Gl F x)),oE P (ae (nQ M κ)) nx T (A5 (cK Gl F x)) (A5 (cK Gl F y))with
   |true,some (pr,_,_)=>some (Ft κ (λk=>MF (ae M k).b)/\pr,κ)
   |_,_=>none
  |_,_=>none
theorem yu: ∀{l r:List Nat} {k:Nat},k∈rK l r↔k∈l\/k∈r
  | [],r,k=>by simp[rK]
  |i::l,r,k=>by
   unfold rK
   split
   · next h=>
     rw[yu,List.mem_cons]
     constructor
     · rintro (h|h)
       · exact .inl (.inr h)
       · exact .inr h
     · rintro ((h'|h')|h')
       · subst h';exact .inr (gC.1 h)
       · exact .inl h'
       · exact .inr h'
   · rw[List.mem_cons,yu,List.mem_cons,or_assoc]
section
variable {P:Program} {sg:Bool} {Gl:Nat->SV} {Γ:Table} {N:Nat} {F:Fr} {M:Mem} {a:Act} {w:World} {ω:Ow}
noncomputable def Ow.only (ω:Ow) (M:Mem) (κ:List Nat):Ow:=⟨λb=>ω.A b/\ ∃k∈κ,∃p L,ω.β k p=some L/\L.b=b,ω.Z,λk p=>if k∈κ/\mz M k p=true then ω.β k p else none,dG (nQ M κ)⟩
theorem uT {κ:List Nat} {k:Nat} {p:Path} (h:k∈κ) (hp:mz M k p=true):(ω.only M κ).β k p=ω.β k p:=if_pos ⟨h,hp⟩
theorem uL {κ:List Nat} {k:Nat} {p:Path} {L:Loc} (h:(ω.only M κ).β k p=some L):k∈κ/\ω.β k p=some L/\mz M k p=true:=by
  by_cases hk:k∈κ/\mz M k p=true
  · exact⟨hk.1,by rwa [uT hk.1 hk.2]at h,hk.2⟩
  · have h:(if k∈κ/\mz M k p=true then ω.β k p else none)=some L:=h
    rw[if_neg hk]at h;cases h
theorem Tx {k:Nat}:mz M k none=true:=rfl
theorem xJ {κ:List Nat}:Ext w ω.bare w (ω.only M κ).bare:=⟨rfl,rfl,rfl,λ_ _ _=>rfl,λ_ _ h h'=>h h'.1,λ_ _ _ h=>h,Nat.le_refl _,λ_=>⟨Nat.le_refl _,Nat.le_refl _⟩,λ_ _ _ h _=>h,λ_ h=>h⟩
theorem Cc {κ:List Nat} {s:SV} {x:Value} (hs:DQ s=true) (h:Den w ω s x):Den w (ω.only M κ) s x:=by
  cases s with
  |aK=>trivial
  |v y=>exact h
  |bl y=>exact h
  |es=>exact h
  |sl q sz n f=>exact Den.ext (o:=ω.bare) (o':=(ω.only M κ).bare) (s:= .sl q sz n f) xJ h
  |pt q n f=>exact Den.ext (o:=ω.bare) (o':=(ω.only M κ).bare) (s:= .pt q n f) xJ h
  |pa q sz n f=>exact Den.ext (o:=ω.bare) (o':=(ω.only M κ).bare) (s:= .pa q sz n f) xJ h
  |er t tf e z=>exact Den.ext (o:=ω.bare) (o':=(ω.only M κ).bare) (s:= .er t tf e z) xJ h
  |_=>cases hs
theorem KC (hm:aR w ω M) {κ:List Nat} {k:Nat} {p:Path} (hk:k∈κ):st (ω.only M κ).cur k p=st ω.cur k p:=by
  rw[hm.cur]
  cases p with
  |none=>show(ae (nQ M κ) k).rs=(ae M k).rs;rw[p4 hk]
  |some _=>show(ae (nQ M κ) k).ds=(ae M k).ds;rw[p4 hk]
theorem KD (hm:aR w ω M) {κ:List Nat} {s:SV} {x:Value} (rX: ∀k∈tc s,k∈κ) (ho:Fu M s=true) (h:Den w ω s x):Den w (ω.only M κ) (A5 s) x:=by
  cases s with
  |aV k st p e n=>
   have hk:k∈κ:=rX k (by simp[tc])
   rcases h with h|⟨J,q,cap,U,h3,h4,h5⟩
   · exact .inl (by rw[KC hm hk];exact h)
   · exact .inr ⟨by rw[KC hm hk];exact J,q,cap,U,h3,h4,by rw[uT hk ho];exact h5⟩
  |v y=>exact h
  |bl y=>exact h
  |es=>exact h
  |sl q sz n f=>exact Cc (s:= .sl q sz n f) rfl h
  |_=>trivial
theorem aR.only (hm:aR w ω M) {κ:List Nat} (hp: ∀k∈κ,MF (ae M k).b):aR w (ω.only M κ) (nQ M κ):=by
  refine⟨rfl,λb ⟨k,p,L,h,e⟩=>?_,λb h=>hm.d_ b h.1,λb h=>hm.dj b h.1,hm.fD,λk p L k' p' L' h h' e=>hm.inj k p L k' p' L' (uL h).2.1 (uL h').2.1 e,λk p L h=>hm.low k p L (uL h).2.1,λk p L h=>?_,λk l h=>?_,λk i j h=>?_⟩
  · obtain⟨hk,h,_⟩:=uL h
    exact⟨hm.own b ⟨k,p,L,h,e⟩,k,hk,p,L,h,e⟩
  · obtain⟨hk,h,bC⟩:=uL h
    obtain⟨r,g1,g2,g3,c,T,g4,g5,g6,g7⟩:=hm.row k p L h
    have rL:=hp k hk
    refine⟨r,by unfold rowAt;rw[p4 hk];exact g1,g2,g3,c,T,g4,g5,g6,λi hi j hj=>?_⟩
    obtain⟨x,x1,x2⟩:=g7 i hi j hj
    refine⟨x,x1,?_⟩
    rw[p4 hk]
    unfold rowAt at g1
    cases hb:(ae M k).b with
    |dead=>rw[hb]at rL;exact rL.elim
    |cells l=>rw[hb]at rL;exact rL.elim
    |row sz n f=>
     rw[hb]at rL g1
     cases p with
     |none=>
      obtain rfl:=Option.some.inj g1
      have jj:j<sz:=by have:sz=L.sz:=g2
                       omega
      have iI:=j4 (rL i) j jj
      have x2:cF w ω (ae M k).hl k i j (f i j) x:=x2
      show cF w (ω.only M κ) (ae M k).hl k i j (f i j) x
      cases cX:cM (f i j)with
      |false=>
       rw[fq cX]at*
       refine Cc ?_ x2
       revert iI cX
       generalize f i j=s
       intro iI cX
       cases s<;>first|exact iI|cases cX
      |true=>
       revert x2 cX
       generalize f i j=s
       intro x2 cX
       cases s with
       |il bp n2 g=>
        rcases x2 with x2|⟨⟨q,cap,y1,y2,y3,y4⟩,y5⟩
        · exact .inl x2
        · have PN:mz M k (some (i,j))=true:=by unfold mz;rw[hb];exact Nat.ble_eq_true_of_le jj
          exact .inr ⟨⟨q,cap,y1,y2,y3,by rw[uT hk PN];exact y4⟩,λL' fx=>y5 L' (by rw[uT hk PN]at fx;exact fx)⟩
       |_=>cases cX
     |some ij=>
      obtain⟨i0,j0⟩:=ij
      have g1:inner ⟨sz,n,f⟩ i0 j0=some r:=g1
      have rz:j0<sz:=by unfold mz at bC;rw[hb]at bC;exact Nat.le_of_ble_eq_true bC
      have iI:=j4 (rL i0) j0 rz
      have x2:Den w ω (r.f i j) x:=x2
      show Den w (ω.only M κ) (r.f i j) x
      unfold inner at g1
      simp only at g1
      revert g1 iI
      generalize f i0 j0=s
      intro g1 iI
      cases s with
      |il bp n2 g=>
       obtain rfl:=Option.some.inj g1
       have Gb:j<bp:=by have:bp=L.sz:=g2
                        omega
       exact Cc (j4 (iI i) j Gb) x2
      |_=>cases g1
  · by_cases hk:k∈κ
    · rw[p4 hk]at h
      obtain⟨L,hL⟩:=hm.live k l h
      exact⟨L,by rw[uT hk Tx];exact hL⟩
    · rw[BL hk]at h;cases h
  · by_cases hk:k∈κ
    · rw[p4 hk]at h
      show(if k∈κ/\mz M k (some (i,j))=true then ω.β k (some (i,j))else none)=none
      split
      · exact hm.eM k i j h
      · rfl
    · rw[BL hk]at h;cases h
theorem Ty (h:St P Gl N F M a w ω) {nx:Nat} {o:Oper} {pr:Prop} {κ:List Nat} (he:yO P Gl F M nx o=some (pr,κ)) (hp:pr):
    o.guard=none/\(∀cs b,o.op≠ .select cs b)/\ ∃n v w',(execOp a.eval o).run P w= .ok n w'/\(n= .value v\/(n= .skip/\v=undef))/\ ∀b,b<w.heap.size->(∀k∈κ,∀p L,ω.β k p=some L->L.b≠b)->w'.heap[b]? =w.heap[b]? :=by
  unfold yO at he
  split at he
  · next x y T T' hg ho=>
    refine⟨hg,(λcs b e=>by rw[ho]at e;cases e),?_⟩
    simp only at he
    split at he
    · next Qr s u hT tJ=>
      rw[Bool.and_eq_true,Bool.and_eq_true,Bool.and_eq_true]at hT
      obtain⟨⟨⟨hT,o1⟩,o2⟩,o3⟩:=hT
      obtain rfl:=Nat.eq_of_beq_eq_true hT
      obtain⟨rfl,rfl⟩:=Prod.mk.inj (Option.some.inj he)
      generalize rX:rK (tc (cK Gl F x)) (tc (cK Gl F y))=κ at*
      have t1:=h.mem.only (κ:=κ) (Jc hp.1)
      have hx:=KD h.mem (κ:=κ) (λk hk=>by rw[<-rX];exact yu.2 (.inl hk)) o1 (h.frame.cK h.dY x)
      have hy:=KD h.mem (κ:=κ) (λk hk=>by rw[<-rX];exact yu.2 (.inr hk)) o2 (h.frame.cK h.dY y)
      obtain⟨n,v,w',al,g1,g2,g3,_⟩:=QY (P:=P) (a:=a) t1 hx hy ho (by simpa using o3) tJ hp.2
      refine⟨n,v,w',g1,g2,λb hb cP=>g3.ext.same b hb λhA=>?_⟩
      obtain⟨_,k,hk,p,L,hL,hLb⟩:=hA
      exact cP k hk p L hL hLb
    · cases he
  · cases he
end
section
variable {P:Program} {sg:Bool} {Gl:Nat->SV} {Γ:Table} {N:Nat} {ops:Array Oper} {PR:Nat->List Nat} {m:Nat} {rs:List Rc} {F F0:Fr} {M:Mem} {cG wr:Nat->Bool}
variable {a0 a:Act} {w0 w:World} {bj ω:Ow} {D:Nat->Prop}
structure AT (P:Program) (Gl:Nat->SV) (N:Nat) (ops:Array Oper) (PR:Nat->List Nat) (m:Nat) (rs:List Rc) (F0:Fr) (M:Mem) (cG:Nat->Bool) (KQ:List Nat) (oB:Oper):Prop where
  at_:ops[m]? =some oB
  Gu: ∀j o,j<m->ops[j]? =some o->j∉PR m->cG j=false-> ∃p ko,oO P Gl (vF rs F0 (PR j)) (vM rs M (PR j)) o=some (p,ko)/\p/\ ∀k,ko=some k->k∈KQ
  Gv: ∃nx pr κ,yO P Gl (vF rs F0 (PR m)) (vM rs M (PR m)) nx oB=some (pr,κ)/\pr/\ ∀k∈κ,k∉KQ
  key: ∀k∈KQ,cv (ae M) k=false/\ ∀j,k∉keys rs j
  fj:Region.noSelect ops=true
  ap: ∀j o,j<m->ops[j]? =some o->j∉PR m->o.apart ops oB=true
  low: ∀j∈PR m,j<m
def SQ (KQ:List Nat) (bj:Ow) (w w':World):Prop:= ∀k∈KQ,∀L,bj.β k none=some L->w'.heap[L.b]? =w.heap[L.b]?
theorem Tz (S:ji P sg Gl Γ N ops PR m rs F F0 M cG wr) (hm:aR w0 bj M) (hF:dK w0 bj N F a0.tmps) (hG: ∀g,Den w0 bj.bare (Gl g) (.pointer (some ⟨g,0,none⟩))) {KQ:List Nat} {oB:Oper} (B:AT P Gl N ops PR m rs F0 M cG KQ oB)
    (I:Inv ops PR m rs M N a0 w0 bj D a w ω) {j:Nat} {o:Oper} (hj:j<m) (ho:ops[j]? =some o) (iH:j∉PR m) (gb: ∀i∈PR j,D i):
    o.guard=none/\ ∃v,∀w',SQ KQ bj w w'->(execOp a.eval o).run P w'= .ok (.value v) w':=by
  obtain⟨g1,g2,g3⟩:=I.all S hm hF gb (λi hi=>S.closed j i hi)
  cases hr:cG j with
  |true=>
   obtain⟨hg,s,_,he⟩:=S.FV j o hj ho hr
   obtain⟨v,J,_⟩:=Dv g1 g2 he
   exact⟨hg,v,λw' _=>J w'⟩
  |false=>
   obtain⟨p,ko,he,hp,hk⟩:=B.Gu j o hj ho iH hr
   have bH:St P Gl N (vF rs F0 (PR j)) (vM rs M (PR j)) a w (cR rs M ω (PR j)):=⟨g2,λg=>Den.ext (o:=bj.bare) (I.nW S hm (PR j)).bare (hG g),g1,I.defers⟩
   obtain⟨hg,v,J⟩:=Jb bH he hp
   refine⟨hg,v,λw' hs=>J w' λk wV L hL=>?_⟩
   obtain⟨_,fx⟩:=oJ hL
   have hf:=(B.key k (hk k wV)).1
   rw[I.lN k none (λ_ _ _=>hf)]at fx
   exact hs k (hk k wV) L fx
theorem ME {oB o:Oper} (kl: ∀(j:Nat) (o:Oper) cs b,ops[j]? =some o->o.op≠ .select cs b) {j:Nat} (ho:ops[j]? =some o) (rI:o.apart ops oB=true) (v:Value):execOp (a.put oB.dst v).eval o=execOp a.eval o:=by
  obtain⟨_,_,h3⟩:=Oper.apart_spec rI
  exact execOp_put o (λcs b=>kl j o cs b ho) a oB.dst v h3
theorem ph2 (hS:Sound P Gl Γ) (S:ji P sg Gl Γ N ops PR m rs F F0 M cG wr) (hT: ∀i,m<i->i<ops.size-> ∀j,j<i->j∈PR i) (hm:aR w0 bj M) (hF:dK w0 bj N F a0.tmps) (hG: ∀g,Den w0 bj.bare (Gl g) (.pointer (some ⟨g,0,none⟩))) {Q:Exit->Act->World->Prop} (iR: ∀d c a v w,Q (.panic c) (Act.put a d v) w->Q (.panic c) a w)
    {KQ:List Nat} {oB:Oper} (B:AT P Gl N ops PR m rs F0 M cG KQ oB) (jI:oB.guard=none)
    (mV: ∀a w ω,Inv ops PR m rs M N a0 w0 bj (λj=>j<m) a w ω->wpList P ops Q (ops.toList.drop m) a w):
    ∀(fuel:Nat) (listed:Array Bool) (a:Act) (w:World) (ω:Ow) (n:Next) (v:Value) (w':World),listed.size=ops.size->jS ops.size (listed.setIfInBounds m true)<=fuel->Inv ops PR m rs M N a0 w0 bj (λj=>listed.getD j false=true) a w ω->(∀j∈PR m,listed.getD j false=true)->
     (execOp a.eval oB).run P w= .ok n w'->(n= .value v\/(n= .skip/\v=undef))-> ¬(oB.asks P a w/\LetsOut Q)->SQ KQ bj w w'->wpAny P .any ops Q fuel (listed.setIfInBounds m true) (a.put oB.dst v) w':=by
  have mq:m<ops.size:=(Array.getElem?_eq_some_iff.1 B.at_).1
  have kl:=Region.noSelect_spec B.fj
  have fin: ∀(fuel:Nat) (listed:Array Bool) (a:Act) (w:World) (ω:Ow) (n:Next) (v:Value) (w':World),listed.size=ops.size->jS ops.size (listed.setIfInBounds m true)<=fuel->Inv ops PR m rs M N a0 w0 bj (λj=>listed.getD j false=true) a w ω->
   (execOp a.eval oB).run P w= .ok n w'->(n= .value v\/(n= .skip/\v=undef))-> ¬(oB.asks P a w/\LetsOut Q)->(∀j,j<m->listed.getD j false=true)->wpAny P .any ops Q fuel (listed.setIfInBounds m true) (a.put oB.dst v) w':=by
    intro fuel listed a w ω n v w' hs hu I fO hn tS gX
    have hD:(λj=>listed.getD j false=true)=(λj=>j<m):=by
      funext j
      exact propext ⟨I.low j,gX j⟩
    have I':=I
    rw[hD]at I'
    have hl:=mV a w ω I'
    have El:ops.toList.drop m=oB::ops.toList.drop (m+1):=by
      have jj:m<ops.toList.length:=by simpa using mq
      rw[List.drop_eq_getElem_cons jj]
      congr 1
      have:=(Array.getElem?_eq_some_iff.1 B.at_).2
      simpa using this
    rw[El]at hl
    unfold wpList at hl
    have hw:Region.wanted oB (yielded ops a.tmps)=true:=by simp[Region.wanted,jI]
    rw[if_pos hw]at hl
    have hl:=hl.resolve_right tS
    have wW:wpList P ops Q (ops.toList.drop (m+1)) (a.put oB.dst v) w':=by
      unfold Oper.wp at hl
      rw[fO]at hl
      rcases hn with rfl|⟨rfl,rfl⟩
      · exact hl
      · exact hl
    refine yo S (m+1) (λi J U j h3 h4=>hT i (by omega) U j h3) fuel (m+1) _ _ _ (by simpa using hs) (λj hj=>?_) (Nat.le_refl _) mq hu wW
    by_cases e:m=j
    · subst e
      have:(listed.setIfInBounds m true).getD m false=true:=by simp[Array.getD,hs,hj]
      rw[this];simp
    · rw[getD_set_ne false e]
      constructor
      · intro h;have:=I.low j h;omega
      · intro h;exact gX j (by omega)
  intro fuel
  induction fuel with
  |zero=>
   intro listed a w ω n v w' hs hu I jV fO hn tS rJ
   refine fin 0 listed a w ω n v w' hs hu I fO hn tS λj hj=>?_
   cases hx:listed.getD j false with
   |true=>rfl
   |false=>
    have J:(listed.setIfInBounds m true).getD j true=false:=by
      rw[getD_set_ne true (by omega),getD_eq (by omega) true false];exact hx
    have:=sw (show j<ops.size by omega) J
    omega
  |succ fuel ih=>
   intro listed a w ω n v w' hs hu I jV fO hn tS rJ
   by_cases gX: ∀j,j<m->listed.getD j false=true
   · exact fin _ listed a w ω n v w' hs hu I fO hn tS gX
   have first: ∃j,j<m/\listed.getD j false=false/\j∈Region.ready .any ops listed:=by
     refine Classical.byContradiction λcP=>?_
     have: ∀n,∀j,j<n->j<m->listed.getD j false=true:=by
       intro n
       induction n with
       |zero=>intro j hj;omega
       |succ n oh=>
        intro j hj iH
        cases hx:listed.getD j false with
        |true=>rfl
        |false=>
         exfalso
         have br:j<ops.size:=by omega
         refine cP ⟨j,iH,hx,mem_ready.2 ⟨by rw[getD_eq (by omega) true false];exact hx,ops[j],Array.getElem?_eq_getElem br,λe he hb=>?_⟩⟩
         have hd:=S.ru j _ (Array.getElem?_eq_getElem br) e he hb
         exact oh e.on (by omega) (by omega)
     exact gX λj hj=>this (j+1) j (Nat.lt_succ_self j) hj
   have kY:listed.getD m false=false:=by
     cases hx:listed.getD m false with
     |false=>rfl
     |true=>exact absurd (I.low m hx) (Nat.lt_irrefl _)
   refine⟨λhr=>?_,λi hi=>?_⟩
   · obtain⟨j,hj,_,mr⟩:=first
     have:=ready_mono (i:=m) mr (by omega)
     rw[hr]at this
     simp at this
   · obtain⟨J,o,U,h3⟩:=mem_ready.1 hi
     have bT:=(Array.getElem?_eq_some_iff.1 U).1
     have Fs:m≠i:=λe=>by
       subst e
       simp[Array.getD,hs,bT]at J
     have rH:listed.getD i false=false:=by
       rw[getD_set_ne true Fs,getD_eq (by omega) true false]at J;exact J
     have vZ: ∀x∈PR i,x=m\/listed.getD x false=true:=by
       intro x hx
       obtain⟨e,he,hb,dt⟩:=S.dep i o U x hx
       have gv:=h3 e he hb
       by_cases em:m=e.on
       · rcases dt with rfl|dt
         · exact .inl em.symm
         · exact .inr (jV x (em▸dt))
       · rw[getD_set_ne false em]at gv
         rcases dt with rfl|dt
         · exact .inr gv
         · exact .inr (I.eR _ gv x dt)
     have gx:i<m:=by
       rcases Nat.lt_or_ge i m with h|h
       · exact h
       · exfalso
         obtain⟨j,hj,om,_⟩:=first
         rcases vZ j (hT i (by omega) bT j (by omega))with h|h
         · omega
         · rw[h]at om;cases om
     have gb: ∀x∈PR i,listed.getD x false=true:=λx hx=>(vZ x hx).resolve_left λe=>by have:=S.lt i x hx;omega
     have rk:i∉PR m:=λh=>by rw[jV i h]at rH;cases rH
     obtain⟨hg,vi,hv⟩:=Tz S hm hF hG B I gx U rk gb
     have rI:=B.ap i o gx U rk
     obtain⟨p1,p2,p3⟩:=Oper.apart_spec rI
     have eB:execOp (a.put o.dst vi).eval oB=execOp a.eval oB:=execOp_put oB (λcs b=>kl m oB cs b B.at_) a o.dst vi p1
     have ei:execOp (a.put oB.dst v).eval o=execOp a.eval o:=ME kl U rI v
     have ff: ¬listed.getD i false=true:=by rw[rH];simp
     have hI: ∃al,Inv ops PR m rs M N a0 w0 bj (λj=>listed.getD j false=true\/j=i) (a.put o.dst vi) w al:=by
       have h:=I.step (Q:=λ_ _ _=>False) (K:=λa' w'=> ∃al,Inv ops PR m rs M N a0 w0 bj (λj=>listed.getD j false=true\/j=i) a' w' al) hS S hm hF hG gx U ff gb (λa' w' al I'=>⟨al,I'⟩)
       unfold wpOp at h
       rw[U]at h
       simp only at h
       rw[if_pos (by simp[Region.wanted,hg])]at h
       rcases h with h|⟨_,_,_,h⟩
       · unfold Oper.wp at h
         rw[hv w (λ_ _ _ _=>rfl)]at h
         exact h
       · exact h.elim
     obtain⟨al,I'⟩:=hI
     have jQ:(λj=>(listed.setIfInBounds i true).getD j false=true)=(λj=>listed.getD j false=true\/j=i):=by
       funext j
       refine propext ⟨λh=>?_,λh=>?_⟩
       · by_cases e:i=j
         · exact .inr e.symm
         · rw[getD_set_ne false e]at h;exact .inl h
       · rcases h with h|rfl
         · exact getD_set_true h
         · simp[Array.getD,hs,bT]
     have vz:(listed.setIfInBounds m true).setIfInBounds i true=(listed.setIfInBounds i true).setIfInBounds m true:=Array.setIfInBounds_comm _ _ (by omega)
     unfold wpOp
     rw[U]
     simp only
     rw[if_pos (by simp[Region.wanted,hg])]
     left
     unfold Oper.wp
     rw[ei,hv w' rJ]
     show wpAny P .any ops Q fuel ((listed.setIfInBounds m true).setIfInBounds i true) ((a.put oB.dst v).put o.dst vi) w'
     rw[vz,<-Act.put_comm a vi v p2]
     refine ih (listed.setIfInBounds i true) (a.put o.dst vi) w al n v w' (by simpa using hs) ?_ (by rw[jQ];exact I') (λj hj=>getD_set_true (jV j hj)) (by rw[eB];exact fO) hn ?_ rJ
     · rw[<-vz]
       have:=p7 (listed:=listed.setIfInBounds m true) bT (by simpa using hs) J
       omega
     · rintro ⟨g1,g2⟩
       refine tS ⟨?_,g2⟩
       unfold Oper.asks at*
       rw[eB]at g1
       exact g1
theorem Vb (hS:Sound P Gl Γ) (S:ji P sg Gl Γ N ops PR m rs F F0 M cG wr) (hT: ∀i,m<i->i<ops.size-> ∀j,j<i->j∈PR i) (hm:aR w0 bj M) (hF:dK w0 bj N F a0.tmps) (hG: ∀g,Den w0 bj.bare (Gl g) (.pointer (some ⟨g,0,none⟩))) {Q:Exit->Act->World->Prop} (iR: ∀d c a v w,Q (.panic c) (Act.put a d v) w->Q (.panic c) a w)
    {KQ:List Nat} {oB:Oper} (B:AT P Gl N ops PR m rs F0 M cG KQ oB)
    (mV: ∀a w ω,Inv ops PR m rs M N a0 w0 bj (λj=>j<m) a w ω->wpList P ops Q (ops.toList.drop m) a w):
    ∀(fuel:Nat) (listed:Array Bool) (a:Act) (w:World) (ω:Ow),listed.size=ops.size->jS ops.size listed<=fuel->Inv ops PR m rs M N a0 w0 bj (λj=>listed.getD j false=true) a w ω->wpAny P .any ops Q fuel listed a w:=by
  have mq:m<ops.size:=(Array.getElem?_eq_some_iff.1 B.at_).1
  intro fuel
  induction fuel with
  |zero=>
   intro listed a w ω hs hu I
   exfalso
   have kY:listed.getD m true=false:=by
     cases hx:listed.getD m false with
     |false=>rw[getD_eq (by omega) true false];exact hx
     |true=>exact absurd (I.low m hx) (Nat.lt_irrefl _)
   have:=sw mq kY
   omega
  |succ fuel ih=>
   intro listed a w ω hs hu I
   have kY:listed.getD m false=false:=by
     cases hx:listed.getD m false with
     |false=>rfl
     |true=>exact absurd (I.low m hx) (Nat.lt_irrefl _)
   have lu: ∀i,i∈Region.ready .any ops listed-> ∀x∈PR i,listed.getD x false=true:=by
     intro i hi x hx
     obtain⟨J,o,U,h3⟩:=mem_ready.1 hi
     obtain⟨e,he,hb,dt⟩:=S.dep i o U x hx
     have gv:=h3 e he hb
     rcases dt with rfl|dt
     · exact gv
     · exact I.eR _ gv x dt
   refine⟨λhr=>?_,λi hi=>?_⟩
   · exfalso
     have: ∀n,∀j,j<n->j<ops.size->listed.getD j false=true:=by
       intro n
       induction n with
       |zero=>intro j hj;omega
       |succ n oh=>
        intro j hj br
        cases hx:listed.getD j false with
        |true=>rfl
        |false=>
         exfalso
         have:j∈Region.ready .any ops listed:=mem_ready.2 ⟨by rw[getD_eq (by omega) true false];exact hx,ops[j],Array.getElem?_eq_getElem br,λe he hb=>by
           have hd:=S.ru j _ (Array.getElem?_eq_getElem br) e he hb
           exact oh e.on (by omega) (by omega)⟩
         rw[hr]at this
         simp at this
     rw[this (m+1) m (Nat.lt_succ_self m) mq]at kY
     cases kY
   · obtain⟨J,o,U,h3⟩:=mem_ready.1 hi
     have bT:=(Array.getElem?_eq_some_iff.1 U).1
     have ff: ¬listed.getD i false=true:=by
       rw[getD_eq (by omega) false true,J];simp
     have jQ:(λj=>(listed.setIfInBounds i true).getD j false=true)=(λj=>listed.getD j false=true\/j=i):=by
       funext j
       refine propext ⟨λh=>?_,λh=>?_⟩
       · by_cases e:i=j
         · exact .inr e.symm
         · rw[getD_set_ne false e]at h;exact .inl h
       · rcases h with h|rfl
         · exact getD_set_true h
         · simp[Array.getD,hs,bT]
     have FI:=p7 bT hs J
     rcases Nat.lt_trichotomy i m with gx|gx|gx
     · refine I.step hS S hm hF hG gx U ff (lu i hi) λa' w' al I'=>ih _ a' w' al (by simpa using hs) (by omega) ?_
       rw[jQ];exact I'
     · subst gx
       obtain rfl:o=oB:=Option.some.inj (U.symm.trans B.at_)
       have jV:=lu i hi
       obtain⟨g1,g2,g3⟩:=I.all S hm hF jV (λj hj=>S.closed i j hj)
       have bH:St P Gl N (vF rs F0 (PR i)) (vM rs M (PR i)) a w (cR rs M ω (PR i)):=⟨g2,λg=>Den.ext (o:=bj.bare) (I.nW S hm (PR i)).bare (hG g),g1,I.defers⟩
       obtain⟨nx,pr,κ,he,hp,rX⟩:=B.Gv
       obtain⟨hg,_,n,v,w',fO,hn,vy⟩:=Ty bH he hp
       unfold wpOp
       rw[U]
       simp only
       rw[if_pos (by simp[Region.wanted,hg])]
       by_cases PO:o.asks P a w/\LetsOut Q
       · exact .inr PO
       left
       have rJ:SQ KQ bj w w':=by
         intro k hk L hL
         obtain⟨hf,cP⟩:=B.key k hk
         have pE:(cR rs M ω (PR i)).β k none=some L:=by
           rw[sub_eq (λh=>by have:=h.1;rw[hf]at this;cases this),I.lN k none (λ_ _ _=>hf)];exact hL
         refine vy L.b (g1.low _ _ _ pE) λk' fH p L' fx e=>?_
         obtain⟨rfl,_⟩:=g1.inj _ _ _ _ _ _ fx pE e
         exact rX _ fH hk
       have:=ph2 hS S hT hm hF hG iR B hg mV fuel listed a w ω n v w' hs (by omega) I jV fO hn PO rJ
       unfold Oper.wp
       rw[fO]
       rcases hn with rfl|⟨rfl,rfl⟩
       · exact this
       · exact this
     · exfalso
       have:=lu i hi m (hT i gx bT m gx)
       rw[kY]at this
       cases this
end
end Go.Sy
set_option linter.unusedVariables false
set_option linter.unusedSimpArgs false
namespace Go.Sy
open Go.RowKit Classical
def zu (P:Program) (Gl:Nat->SV) (Γ:Table) (F:Fr) (M:Mem) (nx:Nat) (o:Oper):Option (Prop×SV×a_):=
  match o.guard,o.op with
  |none,.call {callee:= .value f,args:=args,argTypes:=_}=>yR Γ (cK Gl F) (ae M) nx f args.toList
  |none,.call {callee:= .invoke r name,args:=args,argTypes:=_}=>xU P Γ (cK Gl F) (ae M) nx r name args.toList
  |_,_=>none
def DP (P:Program) (Gl:Nat->SV) (F:Fr) (M:Mem) (nx:Nat) (o:Oper):Option (Prop×SV×a_):=
  match o.guard,o.dst,o.op with
  |none,none,.store T x y=>
   match mM (ae M) (cK Gl F y),P.info? T,cK Gl F x with
   |some [v],some i,.ptr k st p ii j=>
    match Nat.beq 1 i.size,mf (ae M) v,cC (ae M) k st p,sV (ae M) nx k p ii j v with
    |true,true,true,some (pr,u)=>(match cO (u.map (·.1)) k with|true=>some (pr,.aK,u)|false=>none)
    |_,_,_,_=>none
   |_,_,_=>none
  |_,_,_=>none
def AQ (P:Program) (Gl:Nat->SV) (Γ:Table) (F:Fr) (M:Mem) (nx:Nat) (o:Oper):Option (Prop×SV×a_):=
  match o.op with
  | .store _ _ _=>DP P Gl F M nx o
  |_=>zu P Gl Γ F M nx o
def KB:Op->Bool
  | .load _ _=>true
  | .nilCheck _=>true
  | .indexAddr _ _ _=>true
  |_=>false
section
variable {P:Program} {sg:Bool} {Gl:Nat->SV} {Γ:Table} {N:Nat} {F:Fr} {M:Mem} {a:Act} {w:World} {ω:Ow} {H:List Hd}
theorem Tw (hS:Sound P Gl Γ) (h:St P Gl N F M a w ω) {nx:Nat} {o:Oper} {pr:Prop} {s:SV} {u:a_} (he:zu P Gl Γ F M nx o=some (pr,s,u)) (hp:pr):o.guard=none/\vq P w ω M a o s u:=by
  unfold zu at he
  split at he
  · next hg ho=>exact⟨hg,CB hS h.dY h.cx ho he hp⟩
  · next hg ho=>exact⟨hg,BF hS h.dY h.cx ho he hp⟩
  · cases he
def Qw (P:Program) (w:World) (ω:Ow) (M:Mem) (a:Act) (o:Oper) (s:SV) (u:a_):Prop:=
  ∀{next:Act->World->Prop} {Q:Exit->Act->World->Prop},(∀v w' al,bz w ω M w' al (u++M)->Den w' al s v->OP ω (u.map (·.1)) w w'->next (a.put o.dst v) w')->o.wp P a w next Q
theorem Sn (h:St P Gl N F M a w ω) {nx:Nat} {o:Oper} {pr:Prop} {s:SV} {u:a_} (he:DP P Gl F M nx o=some (pr,s,u)) (hp:pr):o.guard=none/\Qw P w ω M a o s u:=by
  have hm:=h.mem
  unfold DP at he
  split at he
  · next T x y hg hd ho=>
    refine⟨hg,?_⟩
    have hx:=h.cx.val x
    split at he
    · next v i k st p ii j gy hi hs=>
      rw[hs]at hx
      split at he
      · next Qr u' hlen jd bC bH=>
        split at he
        · next bT=>
          simp only[Option.some.injEq,Prod.mk.injEq]at he
          obtain⟨rfl,rfl,rfl⟩:=he
          have hc:=uk hm gy (h.cx.val y)
          have hlen:=Nat.eq_of_beq_eq_true hlen
          obtain⟨x0,Gt⟩: ∃x0,(a.eval y).cells.toList= [x0]:=by
            have:=hc.len
            match hl:(a.eval y).cells.toList,this with
            | [x0],_=>exact⟨x0,rfl⟩
          rw[Gt]at hc
          have jd:([v]:List SV).all (mf (ae M))=true:=by simp[jd]
          have J:=xF hm jd hc
          have bV:(a.eval y).cells.size=i.size:=by rw[<-Array.length_toList,Gt,<-hlen];rfl
          have eo:(sizeOf T).run P w= .ok i.size w:=by simp[sizeOf,run_typeInfo w hi,Result.andThen]
          obtain⟨e0,L,hL,jm,ex⟩:=fS hm bC hx
          obtain⟨hj,fi,s1,_⟩:=Ib hm bH hp hc.1 (J x0 (by simp)) hL jm
          obtain⟨_,_,_,_,c,T0,g1,g2,g3,g4⟩:=hm.row _ _ _ hL
          obtain⟨_,y1,_⟩:=g4 ii jm j hj
          have hr:=xu (P:=P) (x:=x0) g1 (Array.getElem?_eq_some_iff.1 y1).1 (J x0 (by simp))
          have run:(execOp a.eval o).run P w= .ok .skip (w.setCell ⟨L.b,L.o+ii*L.sz+j,none⟩ x0):=by
            simp[execOp,ho,ex,Instr.storeAt,Instr.sureAddr,storeVar,eo,bV,Gt,storeCells,Addr.add,hr,Result.andThen]
          intro next Q hn
          unfold Oper.wp
          rw[run]
          exact hn undef _ fi s1 trivial λb hb hk=>uj w _ x0 (λe=>hk k (gC.1 bT) p L hL e.symm)
        · cases he
      · cases he
    · cases he
  · cases he
theorem W7 (hS:Sound P Gl Γ) (h:St P Gl N F M a w ω) {nx:Nat} {o:Oper} {pr:Prop} {s:SV} {u:a_} (he:AQ P Gl Γ F M nx o=some (pr,s,u)) (hp:pr):o.guard=none/\Qw P w ω M a o s u:=by
  unfold AQ at he
  split at he
  · exact Sn h he hp
  · obtain⟨hg,id,vs,fO,OS⟩:=Tw hS h he hp
    refine⟨hg,?_⟩
    intro next Q hn
    unfold Oper.wp
    rw[fO]
    unfold qD at OS
    refine OS.mono ?_
    rintro e w' ⟨v,al,rfl,h3,h4,_,vy⟩
    exact hn v w' al h3 h4 vy
theorem Q_ {o:Oper} {p:Prop} {ko:Option Nat} (he:oO P Gl F M o=some (p,ko)):o.guard=none/\KB o.op=true:=by
  unfold oO at he
  split at he
  · next hg ho=>exact⟨hg,by rw[ho];rfl⟩
  · next hg ho=>exact⟨hg,by rw[ho];rfl⟩
  · next hg ho=>exact⟨hg,by rw[ho];rfl⟩
  · cases he
theorem YZ (hS:Sound P Gl Γ) (h:St P Gl N F M a w ω) (hH:gw w ω N a H) {ops:List Oper} {nx:Nat} {pr:List Nat} {o:Oper} {p:Prop} {rc:Rc} (hg:o.guard=none) (hU:KB o.op=true)
    (he:nL P sg Gl Γ N ops F M H nx pr o=some (p,rc)) (hp:p): ∃s v,rc=⟨gK N o.dst s,[],[]⟩/\(execOp a.eval o).run P w= .ok (.value v) w/\Den w ω s v:=by
  have jl:guardOf N ops F H o= .yes:=by unfold guardOf;rw[hg]
  have hnz:zw o.op=false:=by
    cases ho:o.op with
    |load T x=>rfl
    |nilCheck x=>rfl
    |indexAddr T x y=>rfl
    |_=>rw[ho]at hU;cases hU
  unfold nL at he
  rw[jl,hnz]at he
  have key: ∃s u,rc=⟨gK N o.dst s,[],u⟩/\(kP P sg Gl Γ F M nx H [] o.op).run (λs' u'=>s'=s/\u'=u):=by
    cases jh:oV H o.dst with
    |false=>rw[jh]at he;cases he
    |true=>
     rw[jh]at he
     simp only at he
     split at he
     · next s hr=>
       simp only[Option.some.injEq,Prod.mk.injEq]at he
       exact⟨s,[],he.2.symm,by rw[hr];exact⟨rfl,rfl⟩⟩
     · next s hr=>
       simp only[Option.some.injEq,Prod.mk.injEq]at he
       exact⟨s,[],he.2.symm,by rw[hr];exactλ_=>⟨rfl,rfl⟩⟩
     · next s hr=>
       simp only[Option.some.injEq,Prod.mk.injEq]at he
       exact⟨s,[],he.2.symm,by rw[hr];exact⟨by rw[he.1];exact hp,rfl,rfl⟩⟩
     · next s u hr=>
       split at he
       · simp only[Option.some.injEq,Prod.mk.injEq]at he
         exact⟨s,u,he.2.symm,by rw[hr];exact⟨by rw[he.1];exact hp,rfl,rfl⟩⟩
       · cases he
     · cases he
     · cases he
  obtain⟨s,u,rfl,fO⟩:=key
  have hc:Cx P w ω (cK Gl (ir [] F H)) M a:=⟨(lO h.frame (As:= []) (λp hp=>by cases hp) H hH).cK h.dY,h.mem⟩
  have fin: ∀{r:R},(∀{K':SV->Prop},r.run K'->fb P w ω a o K')->r.up.run (λs' u'=>s'=s/\u'=u)-> ∃Qx v,(⟨gK N o.dst s,[],u⟩:Rc)=⟨gK N o.dst Qx,[],[]⟩/\(execOp a.eval o).run P w= .ok (.value v) w/\Den w ω Qx v:=by
    intro r J U
    have:r.run (λs'=>s'=s/\([]:a_)=u):=by cases r<;>exact U
    obtain⟨s',v,g1,g2,rfl,rfl⟩:=J this
    exact⟨s',v,rfl,g1,g2⟩
  cases ho:o.op with
  |load T x=>rw[ho]at fO;exact fin (λhk=>qE hc (by rw[ho];exact hk)) fO
  |nilCheck x=>rw[ho]at fO;exact fin (λhk=>qE hc (by rw[ho];exact hk)) fO
  |indexAddr T x y=>rw[ho]at fO;exact fin (λhk=>qE hc (by rw[ho];exact hk)) fO
  |_=>rw[ho]at hU;cases hU
end
section
variable {P:Program} {sg:Bool} {Gl:Nat->SV} {Γ:Table} {N:Nat} {ops:Array Oper} {PR:Nat->List Nat} {m:Nat} {rs:List Rc} {F F0:Fr} {M:Mem} {cG wr:Nat->Bool}
variable {a0 a:Act} {w0 w:World} {bj ω:Ow} {D:Nat->Prop}
structure Aa (P:Program) (Gl:Nat->SV) (Γ:Table) (N:Nat) (ops:Array Oper) (PR:Nat->List Nat) (m:Nat) (rs:List Rc) (F0:Fr) (M:Mem) (cG wr:Nat->Bool) (KQ:List Nat) (oB:Oper) (sB:SV) (uB:a_):Prop where
  at_:ops[m]? =some oB
  Gu: ∀j o,j<m->ops[j]? =some o->j∉PR m->cG j=false-> ∃p ko,oO P Gl (vF rs F0 (PR j)) (vM rs M (PR j)) o=some (p,ko)/\p/\ ∀k,ko=some k->k∈KQ
  emp: ∀j,j<m->j∉PR m->keys rs j= []/\wr j=false
  Gv: ∃nx pr,AQ P Gl Γ (vF rs F0 (PR m)) (vM rs M (PR m)) nx oB=some (pr,sB,uB)/\pr
  out: ∀k∈uB.map (·.1),k∉KQ
  key: ∀k∈KQ,cv (ae M) k=false/\ ∀j,k∉keys rs j
  fj:Region.noSelect ops=true
  ap: ∀j o,j<m->ops[j]? =some o->j∉PR m->o.apart ops oB=true
  low: ∀j∈PR m,j<m
theorem Sp (hS:Sound P Gl Γ) (S:ji P sg Gl Γ N ops PR m rs F F0 M cG wr) (hm:aR w0 bj M) (hF:dK w0 bj N F a0.tmps) (hG: ∀g,Den w0 bj.bare (Gl g) (.pointer (some ⟨g,0,none⟩))) {KQ:List Nat} {oB:Oper} {sB:SV} {uB:a_} (B:Aa P Gl Γ N ops PR m rs F0 M cG wr KQ oB sB uB)
    (I:Inv ops PR m rs M N a0 w0 bj D a w ω) {j:Nat} {o:Oper} (hj:j<m) (ho:ops[j]? =some o) (iH:j∉PR m) (ff: ¬D j) (gb: ∀i∈PR j,D i):
    o.guard=none/\ ∃v,(∀w',SQ KQ bj w w'->(execOp a.eval o).run P w'= .ok (.value v) w')/\Inv ops PR m rs M N a0 w0 bj (λi=>D i\/i=j) (a.put o.dst v) w ω:=by
  obtain⟨g1,g2,g3⟩:=I.all S hm hF gb (λi hi=>S.closed j i hi)
  have vu:=(B.emp j hj iH).1
  have inv: ∀{v:Value} {s:SV},cr rs j=⟨gK N o.dst s,[],[]⟩->Den w (cR rs M ω (PR j)) s v->Inv ops PR m rs M N a0 w0 bj (λi=>D i\/i=j) (a.put o.dst v) w ω:=by
    intro v s lB hd
    have h:=I.Mr S hm hj ho ff gb (λk hk=>by rw[vu]at hk;cases hk) (v:=v) (w':=w) (dJ:=cR rs M ω (PR j)) (by rw[lB];exact bz.refl g1) (by rw[lB];exact iT.refl _ _) (by rw[lB];exact⟨xt hd,λx hx=>by cases hx⟩)
    have e:(⟨(cR rs M ω (PR j)).A,ω.Z,λk p=>if k∈keys rs j then(cR rs M ω (PR j)).β k p else ω.β k p,ω.cur⟩:Ow)=ω:=by
      show(⟨ω.A,ω.Z,_,ω.cur⟩:Ow)=ω
      have:(λk p=>if k∈keys rs j then(cR rs M ω (PR j)).β k p else ω.β k p)=ω.β:=by
        funext k p
        rw[if_neg (by rw[vu];simp)]
      rw[this]
    rw[e]at h
    exact h
  cases hr:cG j with
  |true=>
   obtain⟨hg,s,lB,he⟩:=S.FV j o hj ho hr
   obtain⟨v,J,U⟩:=Dv g1 g2 he
   exact⟨hg,v,λw' _=>J w',inv lB U⟩
  |false=>
   obtain⟨p,ko,he,hp,hk⟩:=B.Gu j o hj ho iH hr
   have bH:St P Gl N (vF rs F0 (PR j)) (vM rs M (PR j)) a w (cR rs M ω (PR j)):=⟨g2,λg=>Den.ext (o:=bj.bare) (I.nW S hm (PR j)).bare (hG g),g1,I.defers⟩
   obtain⟨hg,v,J⟩:=Jb bH he hp
   obtain⟨_,hU⟩:=Q_ he
   obtain⟨nx,p',he',FO⟩:=S.ev j o hj ho hr (B.emp j hj iH).2
   obtain⟨s,v',lB,U,h3⟩:=YZ hS bH g3 hg hU he' FO
   have h0:=J w (λ_ _ _ _=>rfl)
   rw[U]at h0
   obtain rfl:v'=v:=by cases h0;rfl
   refine⟨hg,v',λw' hs=>J w' λk wV L hL=>?_,inv lB h3⟩
   obtain⟨_,fx⟩:=oJ hL
   have hf:=(B.key k (hk k wV)).1
   rw[I.lN k none (λ_ _ _=>hf)]at fx
   exact hs k (hk k wV) L fx
def Ey (KQ:List Nat) (PR:Nat->List Nat) (m:Nat) (rs:List Rc) (M:Mem) (bj:Ow) (sB:SV) (uB:a_) (w:World) (ω:Ow) (v:Value) (w':World):Prop:=
  SQ KQ bj w w'/\ ∃al,Ext w (cR rs M ω (PR m)) w' al/\aR w' al (uB++vM rs M (PR m))/\Den w' al sB v
theorem aab (hS:Sound P Gl Γ) (S:ji P sg Gl Γ N ops PR m rs F F0 M cG wr) (hT: ∀i,m<i->i<ops.size-> ∀j,j<i->j∈PR i) (hm:aR w0 bj M) (hF:dK w0 bj N F a0.tmps) (hG: ∀g,Den w0 bj.bare (Gl g) (.pointer (some ⟨g,0,none⟩))) {Q:Exit->Act->World->Prop} (iR: ∀d c a v w,Q (.panic c) (Act.put a d v) w->Q (.panic c) a w)
    {KQ:List Nat} {oB:Oper} {sB:SV} {uB:a_} (B:Aa P Gl Γ N ops PR m rs F0 M cG wr KQ oB sB uB)
    (mV: ∀a w ω v w',Inv ops PR m rs M N a0 w0 bj (λj=>j<m) a w ω->Ey KQ PR m rs M bj sB uB w ω v w'->wpList P ops Q (ops.toList.drop (m+1)) (a.put oB.dst v) w') (w:World) (ω:Ow) (v:Value) (w':World) (zr:Ey KQ PR m rs M bj sB uB w ω v w'):
    ∀(fuel:Nat) (listed:Array Bool) (a:Act),listed.size=ops.size->jS ops.size (listed.setIfInBounds m true)<=fuel->Inv ops PR m rs M N a0 w0 bj (λj=>listed.getD j false=true) a w ω->(∀j∈PR m,listed.getD j false=true)->
     wpAny P .any ops Q fuel (listed.setIfInBounds m true) (a.put oB.dst v) w':=by
  have mq:m<ops.size:=(Array.getElem?_eq_some_iff.1 B.at_).1
  have kl:=Region.noSelect_spec B.fj
  have fin: ∀(fuel:Nat) (listed:Array Bool) (a:Act),listed.size=ops.size->jS ops.size (listed.setIfInBounds m true)<=fuel->Inv ops PR m rs M N a0 w0 bj (λj=>listed.getD j false=true) a w ω->
   (∀j,j<m->listed.getD j false=true)->wpAny P .any ops Q fuel (listed.setIfInBounds m true) (a.put oB.dst v) w':=by
    intro fuel listed a hs hu I gX
    have hD:(λj=>listed.getD j false=true)=(λj=>j<m):=by
      funext j
      exact propext ⟨I.low j,gX j⟩
    have I':=I
    rw[hD]at I'
    have wW:=mV a w ω v w' I' zr
    refine yo S (m+1) (λi J U j h3 h4=>hT i (by omega) U j h3) fuel (m+1) _ _ _ (by simpa using hs) (λj hj=>?_) (Nat.le_refl _) mq hu wW
    by_cases e:m=j
    · subst e
      have:(listed.setIfInBounds m true).getD m false=true:=by simp[Array.getD,hs,hj]
      rw[this];simp
    · rw[getD_set_ne false e]
      constructor
      · intro h;have:=I.low j h;omega
      · intro h;exact gX j (by omega)
  intro fuel
  induction fuel with
  |zero=>
   intro listed a hs hu I jV
   refine fin 0 listed a hs hu I λj hj=>?_
   cases hx:listed.getD j false with
   |true=>rfl
   |false=>
    have J:(listed.setIfInBounds m true).getD j true=false:=by
      rw[getD_set_ne true (by omega),getD_eq (by omega) true false];exact hx
    have:=sw (show j<ops.size by omega) J
    omega
  |succ fuel ih=>
   intro listed a hs hu I jV
   by_cases gX: ∀j,j<m->listed.getD j false=true
   · exact fin _ listed a hs hu I gX
   have first: ∃j,j<m/\listed.getD j false=false/\j∈Region.ready .any ops listed:=by
     refine Classical.byContradiction λcP=>?_
     have: ∀n,∀j,j<n->j<m->listed.getD j false=true:=by
       intro n
       induction n with
       |zero=>intro j hj;omega
       |succ n oh=>
        intro j hj iH
        cases hx:listed.getD j false with
        |true=>rfl
        |false=>
         exfalso
         have br:j<ops.size:=by omega
         refine cP ⟨j,iH,hx,mem_ready.2 ⟨by rw[getD_eq (by omega) true false];exact hx,ops[j],Array.getElem?_eq_getElem br,λe he hb=>?_⟩⟩
         have hd:=S.ru j _ (Array.getElem?_eq_getElem br) e he hb
         exact oh e.on (by omega) (by omega)
     exact gX λj hj=>this (j+1) j (Nat.lt_succ_self j) hj
   have kY:listed.getD m false=false:=by
     cases hx:listed.getD m false with
     |false=>rfl
     |true=>exact absurd (I.low m hx) (Nat.lt_irrefl _)
   refine⟨λhr=>?_,λi hi=>?_⟩
   · obtain⟨j,hj,_,mr⟩:=first
     have:=ready_mono (i:=m) mr (by omega)
     rw[hr]at this
     simp at this
   · obtain⟨J,o,U,h3⟩:=mem_ready.1 hi
     have bT:=(Array.getElem?_eq_some_iff.1 U).1
     have Fs:m≠i:=λe=>by
       subst e
       simp[Array.getD,hs,bT]at J
     have rH:listed.getD i false=false:=by
       rw[getD_set_ne true Fs,getD_eq (by omega) true false]at J;exact J
     have vZ: ∀x∈PR i,x=m\/listed.getD x false=true:=by
       intro x hx
       obtain⟨e,he,hb,dt⟩:=S.dep i o U x hx
       have gv:=h3 e he hb
       by_cases em:m=e.on
       · rcases dt with rfl|dt
         · exact .inl em.symm
         · exact .inr (jV x (em▸dt))
       · rw[getD_set_ne false em]at gv
         rcases dt with rfl|dt
         · exact .inr gv
         · exact .inr (I.eR _ gv x dt)
     have gx:i<m:=by
       rcases Nat.lt_or_ge i m with h|h
       · exact h
       · exfalso
         obtain⟨j,hj,om,_⟩:=first
         rcases vZ j (hT i (by omega) bT j (by omega))with h|h
         · omega
         · rw[h]at om;cases om
     have gb: ∀x∈PR i,listed.getD x false=true:=λx hx=>(vZ x hx).resolve_left λe=>by have:=S.lt i x hx;omega
     have rk:i∉PR m:=λh=>by rw[jV i h]at rH;cases rH
     have ff: ¬listed.getD i false=true:=by rw[rH];simp
     obtain⟨hg,vi,hv,I'⟩:=Sp hS S hm hF hG B I gx U rk ff gb
     have rI:=B.ap i o gx U rk
     obtain⟨p1,p2,p3⟩:=Oper.apart_spec rI
     have ei:execOp (a.put oB.dst v).eval o=execOp a.eval o:=ME kl U rI v
     have jQ:(λj=>(listed.setIfInBounds i true).getD j false=true)=(λj=>listed.getD j false=true\/j=i):=by
       funext j
       refine propext ⟨λh=>?_,λh=>?_⟩
       · by_cases e:i=j
         · exact .inr e.symm
         · rw[getD_set_ne false e]at h;exact .inl h
       · rcases h with h|rfl
         · exact getD_set_true h
         · simp[Array.getD,hs,bT]
     have vz:(listed.setIfInBounds m true).setIfInBounds i true=(listed.setIfInBounds i true).setIfInBounds m true:=Array.setIfInBounds_comm _ _ (by omega)
     unfold wpOp
     rw[U]
     simp only
     rw[if_pos (by simp[Region.wanted,hg])]
     left
     unfold Oper.wp
     rw[ei,hv w' zr.1]
     show wpAny P .any ops Q fuel ((listed.setIfInBounds m true).setIfInBounds i true) ((a.put oB.dst v).put o.dst vi) w'
     rw[vz,<-Act.put_comm a vi v p2]
     refine ih (listed.setIfInBounds i true) (a.put o.dst vi) (by simpa using hs) ?_ (by rw[jQ];exact I') (λj hj=>getD_set_true (jV j hj))
     rw[<-vz]
     have:=p7 (listed:=listed.setIfInBounds m true) bT (by simpa using hs) J
     omega
theorem Vd (hS:Sound P Gl Γ) (S:ji P sg Gl Γ N ops PR m rs F F0 M cG wr) (hT: ∀i,m<i->i<ops.size-> ∀j,j<i->j∈PR i) (hm:aR w0 bj M) (hF:dK w0 bj N F a0.tmps) (hG: ∀g,Den w0 bj.bare (Gl g) (.pointer (some ⟨g,0,none⟩))) {Q:Exit->Act->World->Prop} (iR: ∀d c a v w,Q (.panic c) (Act.put a d v) w->Q (.panic c) a w)
    {KQ:List Nat} {oB:Oper} {sB:SV} {uB:a_} (B:Aa P Gl Γ N ops PR m rs F0 M cG wr KQ oB sB uB)
    (mV: ∀a w ω v w',Inv ops PR m rs M N a0 w0 bj (λj=>j<m) a w ω->Ey KQ PR m rs M bj sB uB w ω v w'->wpList P ops Q (ops.toList.drop (m+1)) (a.put oB.dst v) w'):
    ∀(fuel:Nat) (listed:Array Bool) (a:Act) (w:World) (ω:Ow),listed.size=ops.size->jS ops.size listed<=fuel->Inv ops PR m rs M N a0 w0 bj (λj=>listed.getD j false=true) a w ω->wpAny P .any ops Q fuel listed a w:=by
  have mq:m<ops.size:=(Array.getElem?_eq_some_iff.1 B.at_).1
  intro fuel
  induction fuel with
  |zero=>
   intro listed a w ω hs hu I
   exfalso
   have kY:listed.getD m true=false:=by
     cases hx:listed.getD m false with
     |false=>rw[getD_eq (by omega) true false];exact hx
     |true=>exact absurd (I.low m hx) (Nat.lt_irrefl _)
   have:=sw mq kY
   omega
  |succ fuel ih=>
   intro listed a w ω hs hu I
   have kY:listed.getD m false=false:=by
     cases hx:listed.getD m false with
     |false=>rfl
     |true=>exact absurd (I.low m hx) (Nat.lt_irrefl _)
   have lu: ∀i,i∈Region.ready .any ops listed-> ∀x∈PR i,listed.getD x false=true:=by
     intro i hi x hx
     obtain⟨J,o,U,h3⟩:=mem_ready.1 hi
     obtain⟨e,he,hb,dt⟩:=S.dep i o U x hx
     have gv:=h3 e he hb
     rcases dt with rfl|dt
     · exact gv
     · exact I.eR _ gv x dt
   refine⟨λhr=>?_,λi hi=>?_⟩
   · exfalso
     have: ∀n,∀j,j<n->j<ops.size->listed.getD j false=true:=by
       intro n
       induction n with
       |zero=>intro j hj;omega
       |succ n oh=>
        intro j hj br
        cases hx:listed.getD j false with
        |true=>rfl
        |false=>
         exfalso
         have:j∈Region.ready .any ops listed:=mem_ready.2 ⟨by rw[getD_eq (by omega) true false];exact hx,ops[j],Array.getElem?_eq_getElem br,λe he hb=>by
           have hd:=S.ru j _ (Array.getElem?_eq_getElem br) e he hb
           exact oh e.on (by omega) (by omega)⟩
         rw[hr]at this
         simp at this
     rw[this (m+1) m (Nat.lt_succ_self m) mq]at kY
     cases kY
   · obtain⟨J,o,U,h3⟩:=mem_ready.1 hi
     have bT:=(Array.getElem?_eq_some_iff.1 U).1
     have ff: ¬listed.getD i false=true:=by
       rw[getD_eq (by omega) false true,J];simp
     have jQ:(λj=>(listed.setIfInBounds i true).getD j false=true)=(λj=>listed.getD j false=true\/j=i):=by
       funext j
       refine propext ⟨λh=>?_,λh=>?_⟩
       · by_cases e:i=j
         · exact .inr e.symm
         · rw[getD_set_ne false e]at h;exact .inl h
       · rcases h with h|rfl
         · exact getD_set_true h
         · simp[Array.getD,hs,bT]
     have FI:=p7 bT hs J
     rcases Nat.lt_trichotomy i m with gx|gx|gx
     · refine I.step hS S hm hF hG gx U ff (lu i hi) λa' w' al I'=>ih _ a' w' al (by simpa using hs) (by omega) ?_
       rw[jQ];exact I'
     · subst gx
       obtain rfl:o=oB:=Option.some.inj (U.symm.trans B.at_)
       have jV:=lu i hi
       obtain⟨g1,g2,g3⟩:=I.all S hm hF jV (λj hj=>S.closed i j hj)
       have bH:St P Gl N (vF rs F0 (PR i)) (vM rs M (PR i)) a w (cR rs M ω (PR i)):=⟨g2,λg=>Den.ext (o:=bj.bare) (I.nW S hm (PR i)).bare (hG g),g1,I.defers⟩
       obtain⟨nx,pr,he,hp⟩:=B.Gv
       obtain⟨hg,hU⟩:=W7 hS bH he hp
       unfold wpOp
       rw[U]
       simp only
       rw[if_pos (by simp[Region.wanted,hg])]
       left
       refine hU ?_
       intro v w' al h3 h4 vy
       have rJ:SQ KQ bj w w':=by
         intro k hk L hL
         obtain⟨hf,cP⟩:=B.key k hk
         have pE:(cR rs M ω (PR i)).β k none=some L:=by
           rw[sub_eq (λh=>by have:=h.1;rw[hf]at this;cases this),I.lN k none (λ_ _ _=>hf)];exact hL
         refine vy L.b (g1.low _ _ _ pE) λk' fH p L' fx e=>?_
         obtain⟨rfl,_⟩:=g1.inj _ _ _ _ _ _ fx pE e
         exact B.out _ fH hk
       exact aab hS S hT hm hF hG iR B mV w ω v w' ⟨rJ,al,h3.ext,h3.mem,h4⟩ fuel listed a hs (by omega) I jV
     · exfalso
       have:=lu i hi m (hT i gx bT m gx)
       rw[kY]at this
       cases this
end
end Go.Sy
