/-
  Sy: regions that draw their order: an append that ends a slice of one's own, and may come ahead of some loads.
-/
import Derived.Test.YtmieeldmfehpoaaDoorYE
set_option linter.unusedVariables false
set_option linter.unusedSimpArgs false
set_option linter.unusedVariables false
set_option linter.unusedSimpArgs false
namespace Go.Sy
open Go.RowKit Classical
def quietK (P:Program) (Gl:Nat→SV) (F:Fr) (M:Mem) (o:Oper):Option (Prop×Option Nat):=
  match o.guard,o.op with
  |none,.load T x=>
   match P.underlying T,opnd Gl F x with
   |some d,.ptr k st none _ j=>
    match aggD d,okRef (ent M) k st none,(ent M k).b with
    |false,true,.cells l=>(match Nat.blt j l.length with|true=>some (True,some k)|false=>none)
    |_,_,_=>none
   |_,_=>none
  |none,.nilCheck x=>
   match opnd Gl F x with
   | .ptr k st p _ _=>(match okRef (ent M) k st p with|true=>some (True,none)|false=>none)
   | .pt _ _ _=>some (True,none)
   |_=>none
  |none,.indexAddr T x y=>
   match P.underlying T,opnd Gl F x,opnd Gl F y with
   |some (.slice E),.slc k st p _ n,.v (.int _ z)=>(match P.info? E,okRef (ent M) k st p with|some _,true=>some (0≤z∧z<n,none)|_,_=>none)
   |some (.slice E),.sl _ _ n _,.v (.int _ z)=>(match P.info? E with|some _=>some (0≤z∧z<n,none)|_=>none)
   |_,_,_=>none
  |_,_=>none
section
variable {P:Program} {sg:Bool} {Gl:Nat→SV} {Γ:Table} {N:Nat} {F:Fr} {M:Mem} {a:Act} {w:World} {ω:Ow}
theorem indexS_any {o:Oper} {T E:TypeId} {x y:Operand} {ie:TypeInfo} (ho:o.op= .indexAddr T x y) (hu:P.underlying T=some (.slice E)) (hi:P.info? E=some ie) {ad:Addr} {n cap:Nat} {k:IntKind} {z:Int}
    (ex:a.eval x= .slice (some ad) n cap) (ey:a.eval y= .int k z) (h0:0≤z) (h1:z<n) (w':World):(execOp a.eval o).run P w'= .ok (.value (.pointer (some (ad.add (z.toNat*ie.size))))) w':=by
  have hsize:(sizeOf E).run P w'= .ok ie.size w':=by simp [sizeOf,run_typeInfo w' hi,Result.andThen]
  simp [execOp,ho,ex,ey,Instr.indexAt,asIntOf,run_underlying hu,Result.andThen,h0,h1,hsize]
theorem quiet_ok (h:St P Gl N F M a w ω) {o:Oper} {p:Prop} {ko:Option Nat} (he:quietK P Gl F M o=some (p,ko)) (hp:p):
    o.guard=none∧ ∃v,∀w',(∀k,ko=some k→ ∀L,ω.β k none=some L→w'.heap[L.b]? =w.heap[L.b]?)→(execOp a.eval o).run P w'= .ok (.value v) w':=by
  unfold quietK at he
  split at he
  · next T x hg ho=>
    refine ⟨hg,?_⟩
    have hx:=h.frame.opnd h.globs x
    split at he
    · next d k st ii j hu hs=>
      split at he
      · next l hd hok hb=>
        split at he
        · next hj=>
          obtain ⟨rfl,rfl⟩:=Prod.mk.inj (Option.some.inj he)
          have hj:j<l.length:=Nat.le_of_ble_eq_true hj
          rw [hs] at hx
          obtain ⟨_,L,hL,hii,ex⟩:=okRef_at h.mem hok hx
          obtain ⟨c1,c2⟩:=cells_at h.mem hb hL
          obtain ⟨r,_,_,_,c,T',g4,g5,g6,g7⟩:=h.mem.row _ _ _ hL
          obtain ⟨y,y1,_⟩:=g7 ii hii j (by omega)
          have hcell: ∀w':World,w'.heap[L.b]? =w.heap[L.b]? →w'.cell? ⟨L.b,L.o+ii*L.sz+j,none⟩=some y:=by
            intro w' e
            rw [g4] at e
            simp [World.cell?,e,y1]
          refine ⟨y,fun w' hw'=>?_⟩
          have:=run_loadVar_one (P:=P) hu hd w' _ y (hcell w' (hw' k rfl L hL))
          simp [execOp,ho,ex,Instr.loadAt,Instr.sureAddr,this,Result.andThen]
        · cases he
      · cases he
    · cases he
  · next x hg ho=>
    refine ⟨hg,?_⟩
    have hx:=h.frame.opnd h.globs x
    have run:(∃ad,a.eval x= .pointer (some ad))→ ∃v,∀w',(∀k,ko=some k→ ∀L,ω.β k none=some L→w'.heap[L.b]? =w.heap[L.b]?)→(execOp a.eval o).run P w'= .ok (.value v) w':=by
      rintro ⟨ad,e⟩
      exact ⟨.pointer (some ad),fun w' _=>by simp [execOp,ho,e]⟩
    split at he
    · next k st p' i j hs=>
      split at he
      · next hok=>
        rw [hs] at hx
        obtain ⟨_,L,_,_,e⟩:=okRef_at h.mem hok hx
        exact run ⟨_,e⟩
      · cases he
    · next q n f hs=>
      rw [hs] at hx
      obtain ⟨b,e,_⟩:=hx
      exact run ⟨_,e⟩
    · cases he
  · next T x y hg ho=>
    refine ⟨hg,?_⟩
    have hx:=h.frame.opnd h.globs x
    have hy:=h.frame.opnd h.globs y
    split at he
    · next E k st p' e n kk z hu hs1 hs2=>
      split at he
      · next ie hok hi hb=>
        obtain ⟨rfl,rfl⟩:=Prod.mk.inj (Option.some.inj he)
        rw [hs1] at hx
        rw [hs2] at hy
        have e0:st=Sy.st ω.cur k p':=by
          rw [h.mem.cur]
          cases p' with
          |none=>exact Nat.eq_of_beq_eq_true hb
          |some _=>exact Nat.eq_of_beq_eq_true hb
        rcases hx with hx|⟨_,q,cap,ex,hcap,_,hx⟩
        · omega
        rcases hx with hx|⟨L,hL,rfl,_,_⟩
        · have:=hp.1;have:=hp.2;omega
        exact ⟨_,fun w' _=>indexS_any ho hu hi ex hy hp.1 hp.2 w'⟩
      · cases he
    · next E q sz n f kk z hu hs1 hs2=>
      split at he
      · next ie hi=>
        obtain ⟨rfl,rfl⟩:=Prod.mk.inj (Option.some.inj he)
        rw [hs1] at hx
        rw [hs2] at hy
        obtain ⟨p',cap,ex,_,_,hx⟩:=hx
        rcases hx with hx|⟨ad,rfl,_⟩
        · have:=hp.1;have:=hp.2;omega
        exact ⟨_,fun w' _=>indexS_any ho hu hi ex hy hp.1 hp.2 w'⟩
      · cases he
    · cases he
  · cases he
theorem appendT_core (hm:MemOK w ω M) {sx sy:SV} {o:Oper} {T:TypeId} {x y:Operand} {nx:Nat} {pr:Prop} {s:SV} {u:Upd} (hx:Den w ω sx (a.eval x)) (hy:Den w ω sy (a.eval y)) (ho:o.op= .call {callee:= .builtin .append,args:= #[x,y],argTypes:= #[T,T]})
    (hb:baseN sx=false) (he:evAppendT P (ent M) nx T sx sy=some (pr,s,u)) (hp:pr):MemS P w ω M a o s u:=by
  unfold evAppendT at he
  rw [hb] at he
  simp only at he
  split at he
  · next z hz=>
    split at he
    · next v hv=>
      simp only [Option.some.injEq,Prod.mk.injEq] at he
      obtain ⟨rfl,rfl,rfl⟩:=he
      obtain ⟨ω',k,st,i,j,e,n,e1,e2,e3,h1,h2,h3,_⟩:=take_core hm hz
      rw [e1] at hx
      have hy:Den w ω' (aliasS (ent M) (nx+60) sx sy).2 (a.eval y):=by
        have hp1:=hp.1
        revert hp1 hy
        rw [e1]
        generalize sy=t
        unfold aliasS
        split
        · next k1 st1 i1 j1 _ _ k' st' i' j' e' n' heq=>
          split
          · next b1 b2 b3=>
            obtain ⟨rfl,rfl,hij,rfl,rfl⟩:=SV.slc.inj heq
            obtain ⟨rfl,rfl⟩:=Prod.mk.inj (Option.some.inj hij)
            obtain rfl:=Nat.eq_of_beq_eq_true b1
            obtain rfl:=Nat.eq_of_beq_eq_true b2
            obtain rfl:=Nat.eq_of_beq_eq_true b3
            intro hy hp1
            have hp1:i'=i:=hp1
            subst hp1
            exact h2 _ _ _ hy
          · intro hy _;exact Den.ext h1.ext hy
        · intro hy _;exact Den.ext h1.ext hy
      rw [ov_ent] at hv
      have hz':Den w ω' z.1 (a.eval x):=by rw [e3];exact h2 _ _ _ hx
      obtain ⟨nn,vv,w',ω'',g1,g2,g3,g4⟩:=append_core (P:=P) (a:=a) (tx:=fun _=>z.1) (ty:=fun _=>(aliasS (ent M) (nx+60) sx sy).2) h1.mem hz' hy ho hv hp.2
      exact ⟨nn,vv,w',ω'',g1,g2,by rw [List.append_assoc];exact h1.trans g3,g4⟩
    · cases he
  · exact append_core (P:=P) (a:=a) (tx:=fun _=>sx) (ty:=fun _=>sy) hm hx hy ho he hp
/-! ### the append that ends a slice -/
def rootS:SV→List Nat
  | .slc k _ _ _ _=> [k]
  |_=> []
def uni:List Nat→List Nat→List Nat
  | [],l=>l
  |k::r,l=>match inL l k with|true=>uni r l|false=>k::uni r l
end
def plainS:SV→Bool
  | .junk=>true
  | .v _=>true
  | .bl _=>true
  | .es=>true
  | .sl _ _ _ _=>true
  | .pt _ _ _=>true
  | .pa _ _ _ _=>true
  | .er _ _ _ _=>true
  |_=>false
def plainP:SV→Prop
  | .il sz _ g=> ∀a,allJ sz fun b=>plainS (g a b)=true
  |s=>plainS s=true
def plainB:Blk→Prop
  | .row sz _ f=> ∀i,allJ sz fun j=>plainP (f i j)
  |_=>False
def allP:List Nat→(Nat→Prop)→Prop
  | [],_=>True
  |k::r,p=>p k∧allP r p
theorem allP_get: ∀{l:List Nat} {p:Nat→Prop},allP l p→ ∀k∈l,p k
  | [],_,_,k,hk=>absurd hk (by simp)
  |i::r,p,h,k,hk=>by
   rcases List.mem_cons.1 hk with rfl|hk
   · exact h.1
   · exact allP_get h.2 k hk
def vwS:SV→SV
  | .slc k s p e n=> .slc k s p e n
  | .v x=> .v x
  | .bl b=> .bl b
  | .es=> .es
  | .sl q sz n f=> .sl q sz n f
  |_=> .junk
def onlyM (M:Mem) (κ:List Nat):Mem:=κ.map fun k=>(k,ent M k)
theorem onlyM_in {M:Mem}: ∀{κ:List Nat} {k:Nat},k∈κ→ent (onlyM M κ) k=ent M k
  | [],k,h=>absurd h (by simp)
  |i::r,k,h=>by
   unfold onlyM
   rw [List.map_cons]
   by_cases e:i=k
   · subst e;exact ent_eq
   · rw [ent_ne e]
     exact onlyM_in (κ:=r) ((List.mem_cons.1 h).resolve_left fun h=>e h.symm)
theorem onlyM_out {M:Mem}: ∀{κ:List Nat} {k:Nat},k∉κ→ent (onlyM M κ) k=⟨0,0,none,.dead⟩
  | [],k,_=>rfl
  |i::r,k,h=>by
   unfold onlyM
   rw [List.map_cons,ent_ne (fun e=>h (by simp [e]))]
   exact onlyM_out (κ:=r) fun h'=>h (by simp [h'])
def okP (M:Mem) (k:Nat) (p:Path):Bool:=match p,(ent M k).b with|some ij,.row sz _ _=>Nat.blt ij.2 sz|_,_=>true
def okPS (M:Mem):SV→Bool
  | .slc k _ p _ _=>okP M k p
  |_=>true
def noiseB (P:Program) (Gl:Nat→SV) (F:Fr) (M:Mem) (nx:Nat) (o:Oper):Option (Prop×List Nat):=
  match o.guard,o.op with
  |none,.call {callee:= .builtin .append,args:=⟨[x,y]⟩,argTypes:=⟨[T,T']⟩}=>
   let κ:=uni (rootS (opnd Gl F x)) (rootS (opnd Gl F y))
   match Nat.beq T T'&&okPS M (opnd Gl F x)&&okPS M (opnd Gl F y)&&!baseN (vwS (opnd Gl F x)),evAppendT P (ent (onlyM M κ)) nx T (vwS (opnd Gl F x)) (vwS (opnd Gl F y)) with
   |true,some (pr,_,_)=>some (allP κ (fun k=>plainB (ent M k).b)∧pr,κ)
   |_,_=>none
  |_,_=>none
theorem mem_uni: ∀{l r:List Nat} {k:Nat},k∈uni l r↔k∈l∨k∈r
  | [],r,k=>by simp [uni]
  |i::l,r,k=>by
   unfold uni
   split
   · next h=>
     rw [mem_uni,List.mem_cons]
     constructor
     · rintro (h|h)
       · exact .inl (.inr h)
       · exact .inr h
     · rintro ((h'|h')|h')
       · subst h';exact .inr (inL_iff.1 h)
       · exact .inl h'
       · exact .inr h'
   · rw [List.mem_cons,mem_uni,List.mem_cons,or_assoc]
section
variable {P:Program} {sg:Bool} {Gl:Nat→SV} {Γ:Table} {N:Nat} {F:Fr} {M:Mem} {a:Act} {w:World} {ω:Ow}
noncomputable def Ow.only (ω:Ow) (M:Mem) (κ:List Nat):Ow:=⟨fun b=>ω.A b∧ ∃k∈κ,∃p L,ω.β k p=some L∧L.b=b,ω.Z,fun k p=>if k∈κ∧okP M k p=true then ω.β k p else none,curM (onlyM M κ)⟩
theorem only_in {κ:List Nat} {k:Nat} {p:Path} (h:k∈κ) (hp:okP M k p=true):(ω.only M κ).β k p=ω.β k p:=if_pos ⟨h,hp⟩
theorem only_get {κ:List Nat} {k:Nat} {p:Path} {L:Loc} (h:(ω.only M κ).β k p=some L):k∈κ∧ω.β k p=some L∧okP M k p=true:=by
  by_cases hk:k∈κ∧okP M k p=true
  · exact ⟨hk.1,by rwa [only_in hk.1 hk.2] at h,hk.2⟩
  · have h:(if k∈κ∧okP M k p=true then ω.β k p else none)=some L:=h
    rw [if_neg hk] at h;cases h
theorem okP_none {k:Nat}:okP M k none=true:=rfl
theorem only_bare {κ:List Nat}:Ext w ω.bare w (ω.only M κ).bare:=⟨rfl,rfl,rfl,fun _ _ _=>rfl,fun _ _ h h'=>h h'.1,fun _ _ _ h=>h,Nat.le_refl _,fun _=>⟨Nat.le_refl _,Nat.le_refl _⟩,fun _ _ _ h _=>h,fun _ h=>h⟩
theorem only_den {κ:List Nat} {s:SV} {x:Value} (hs:plainS s=true) (h:Den w ω s x):Den w (ω.only M κ) s x:=by
  cases s with
  |junk=>trivial
  |v y=>exact h
  |bl y=>exact h
  |es=>exact h
  |sl q sz n f=>exact Den.ext (o:=ω.bare) (o':=(ω.only M κ).bare) (s:= .sl q sz n f) only_bare h
  |pt q n f=>exact Den.ext (o:=ω.bare) (o':=(ω.only M κ).bare) (s:= .pt q n f) only_bare h
  |pa q sz n f=>exact Den.ext (o:=ω.bare) (o':=(ω.only M κ).bare) (s:= .pa q sz n f) only_bare h
  |er t tf e z=>exact Den.ext (o:=ω.bare) (o':=(ω.only M κ).bare) (s:= .er t tf e z) only_bare h
  |_=>cases hs
theorem only_st (hm:MemOK w ω M) {κ:List Nat} {k:Nat} {p:Path} (hk:k∈κ):st (ω.only M κ).cur k p=st ω.cur k p:=by
  rw [hm.cur]
  cases p with
  |none=>show (ent (onlyM M κ) k).rs=(ent M k).rs;rw [onlyM_in hk]
  |some _=>show (ent (onlyM M κ) k).ds=(ent M k).ds;rw [onlyM_in hk]
theorem only_vw (hm:MemOK w ω M) {κ:List Nat} {s:SV} {x:Value} (hκ: ∀k∈rootS s,k∈κ) (ho:okPS M s=true) (h:Den w ω s x):Den w (ω.only M κ) (vwS s) x:=by
  cases s with
  |slc k st p e n=>
   have hk:k∈κ:=hκ k (by simp [rootS])
   rcases h with h|⟨h1,q,cap,h2,h3,h4,h5⟩
   · exact .inl (by rw [only_st hm hk];exact h)
   · exact .inr ⟨by rw [only_st hm hk];exact h1,q,cap,h2,h3,h4,by rw [only_in hk ho];exact h5⟩
  |v y=>exact h
  |bl y=>exact h
  |es=>exact h
  |sl q sz n f=>exact only_den (s:= .sl q sz n f) rfl h
  |_=>trivial
theorem MemOK.only (hm:MemOK w ω M) {κ:List Nat} (hp: ∀k∈κ,plainB (ent M k).b):MemOK w (ω.only M κ) (onlyM M κ):=by
  refine ⟨rfl,fun b ⟨k,p,L,h,e⟩=>?_,fun b h=>hm.lowA b h.1,fun b h=>hm.dj b h.1,hm.lowZ,fun k p L k' p' L' h h' e=>hm.inj k p L k' p' L' (only_get h).2.1 (only_get h').2.1 e,fun k p L h=>hm.low k p L (only_get h).2.1,fun k p L h=>?_,fun k l h=>?_,fun k i j h=>?_⟩
  · obtain ⟨hk,h,_⟩:=only_get h
    exact ⟨hm.own b ⟨k,p,L,h,e⟩,k,hk,p,L,h,e⟩
  · obtain ⟨hk,h,hok⟩:=only_get h
    obtain ⟨r,g1,g2,g3,c,T,g4,g5,g6,g7⟩:=hm.row k p L h
    have hpb:=hp k hk
    refine ⟨r,by unfold rowAt;rw [onlyM_in hk];exact g1,g2,g3,c,T,g4,g5,g6,fun i hi j hj=>?_⟩
    obtain ⟨x,x1,x2⟩:=g7 i hi j hj
    refine ⟨x,x1,?_⟩
    rw [onlyM_in hk]
    unfold rowAt at g1
    cases hb:(ent M k).b with
    |dead=>rw [hb] at hpb;exact hpb.elim
    |cells l=>rw [hb] at hpb;exact hpb.elim
    |row sz n f=>
     rw [hb] at hpb g1
     cases p with
     |none=>
      obtain rfl:=Option.some.inj g1
      have hj':j<sz:=by have:sz=L.sz:=g2
                        omega
      have hpl:=allJ_get (hpb i) j hj'
      have x2:CellOK w ω (ent M k).hl k i j (f i j) x:=x2
      show CellOK w (ω.only M κ) (ent M k).hl k i j (f i j) x
      cases hil:isIl (f i j) with
      |false=>
       rw [den_not_il hil] at*
       refine only_den ?_ x2
       revert hpl hil
       generalize f i j=s
       intro hpl hil
       cases s<;>first|exact hpl|cases hil
      |true=>
       revert x2 hil
       generalize f i j=s
       intro x2 hil
       cases s with
       |il sz2 n2 g=>
        rcases x2 with x2|⟨⟨q,cap,y1,y2,y3,y4⟩,y5⟩
        · exact .inl x2
        · have hok2:okP M k (some (i,j))=true:=by unfold okP;rw [hb];exact Nat.ble_eq_true_of_le hj'
          exact .inr ⟨⟨q,cap,y1,y2,y3,by rw [only_in hk hok2];exact y4⟩,fun L' hL'=>y5 L' (by rw [only_in hk hok2] at hL';exact hL')⟩
       |_=>cases hil
     |some ij=>
      obtain ⟨i0,j0⟩:=ij
      have g1:inner ⟨sz,n,f⟩ i0 j0=some r:=g1
      have hj0:j0<sz:=by unfold okP at hok;rw [hb] at hok;exact Nat.le_of_ble_eq_true hok
      have hpl:=allJ_get (hpb i0) j0 hj0
      have x2:Den w ω (r.f i j) x:=x2
      show Den w (ω.only M κ) (r.f i j) x
      unfold inner at g1
      simp only at g1
      revert g1 hpl
      generalize f i0 j0=s
      intro g1 hpl
      cases s with
      |il sz2 n2 g=>
       obtain rfl:=Option.some.inj g1
       have hj2:j<sz2:=by have:sz2=L.sz:=g2
                          omega
       exact only_den (allJ_get (hpl i) j hj2) x2
      |_=>cases g1
  · by_cases hk:k∈κ
    · rw [onlyM_in hk] at h
      obtain ⟨L,hL⟩:=hm.live k l h
      exact ⟨L,by rw [only_in hk okP_none];exact hL⟩
    · rw [onlyM_out hk] at h;cases h
  · by_cases hk:k∈κ
    · rw [onlyM_in hk] at h
      show (if k∈κ∧okP M k (some (i,j))=true then ω.β k (some (i,j)) else none)=none
      split
      · exact hm.hol k i j h
      · rfl
    · rw [onlyM_out hk] at h;cases h
theorem noise_ok (h:St P Gl N F M a w ω) {nx:Nat} {o:Oper} {pr:Prop} {κ:List Nat} (he:noiseB P Gl F M nx o=some (pr,κ)) (hp:pr):
    o.guard=none∧(∀cs b,o.op≠ .select cs b)∧ ∃n v w',(execOp a.eval o).run P w= .ok n w'∧(n= .value v∨(n= .skip∧v=undef))∧ ∀b,b<w.heap.size→(∀k∈κ,∀p L,ω.β k p=some L→L.b≠b)→w'.heap[b]? =w.heap[b]? :=by
  unfold noiseB at he
  split at he
  · next x y T T' hg ho=>
    refine ⟨hg,(fun cs b e=>by rw [ho] at e;cases e),?_⟩
    simp only at he
    split at he
    · next pr' s u hT hev=>
      rw [Bool.and_eq_true,Bool.and_eq_true,Bool.and_eq_true] at hT
      obtain ⟨⟨⟨hT,o1⟩,o2⟩,o3⟩:=hT
      obtain rfl:=Nat.eq_of_beq_eq_true hT
      obtain ⟨rfl,rfl⟩:=Prod.mk.inj (Option.some.inj he)
      generalize hκ:uni (rootS (opnd Gl F x)) (rootS (opnd Gl F y))=κ at*
      have t1:=h.mem.only (κ:=κ) (allP_get hp.1)
      have hx:=only_vw h.mem (κ:=κ) (fun k hk=>by rw [←hκ];exact mem_uni.2 (.inl hk)) o1 (h.frame.opnd h.globs x)
      have hy:=only_vw h.mem (κ:=κ) (fun k hk=>by rw [←hκ];exact mem_uni.2 (.inr hk)) o2 (h.frame.opnd h.globs y)
      obtain ⟨n,v,w',ω',g1,g2,g3,_⟩:=appendT_core (P:=P) (a:=a) t1 hx hy ho (by simpa using o3) hev hp.2
      refine ⟨n,v,w',g1,g2,fun b hb hno=>g3.ext.same b hb fun hA=>?_⟩
      obtain ⟨_,k,hk,p,L,hL,hLb⟩:=hA
      exact hno k hk p L hL hLb
    · cases he
  · cases he
end
section
variable {P:Program} {sg:Bool} {Gl:Nat→SV} {Γ:Table} {N:Nat} {ops:Array Oper} {PR:Nat→List Nat} {m:Nat} {rs:List Rc} {F F0:Fr} {M:Mem} {reg wr:Nat→Bool}
variable {a0 a:Act} {w0 w:World} {ω0 ω:Ow} {D:Nat→Prop}
structure Qui (P:Program) (Gl:Nat→SV) (N:Nat) (ops:Array Oper) (PR:Nat→List Nat) (m:Nat) (rs:List Rc) (F0:Fr) (M:Mem) (reg:Nat→Bool) (KQ:List Nat) (oB:Oper):Prop where
  at_:ops[m]? =some oB
  qui: ∀j o,j<m→ops[j]? =some o→j∉PR m→reg j=false→ ∃p ko,quietK P Gl (vF rs F0 (PR j)) (vM rs M (PR j)) o=some (p,ko)∧p∧ ∀k,ko=some k→k∈KQ
  noi: ∃nx pr κ,noiseB P Gl (vF rs F0 (PR m)) (vM rs M (PR m)) nx oB=some (pr,κ)∧pr∧ ∀k∈κ,k∉KQ
  key: ∀k∈KQ,freeB (ent M) k=false∧ ∀j,k∉keys rs j
  sel:Region.noSelect ops=true
  ap: ∀j o,j<m→ops[j]? =some o→j∉PR m→o.apart ops oB=true
  low: ∀j∈PR m,j<m
def SQ (KQ:List Nat) (ω0:Ow) (w w':World):Prop:= ∀k∈KQ,∀L,ω0.β k none=some L→w'.heap[L.b]? =w.heap[L.b]?
theorem quiet_at (S:Sta P sg Gl Γ N ops PR m rs F F0 M reg wr) (hm:MemOK w0 ω0 M) (hF:FrOK w0 ω0 N F a0.tmps) (hG: ∀g,Den w0 ω0.bare (Gl g) (.pointer (some ⟨g,0,none⟩))) {KQ:List Nat} {oB:Oper} (B:Qui P Gl N ops PR m rs F0 M reg KQ oB)
    (I:Inv ops PR m rs M N a0 w0 ω0 D a w ω) {j:Nat} {o:Oper} (hj:j<m) (ho:ops[j]? =some o) (hjm:j∉PR m) (hpre: ∀i∈PR j,D i):
    o.guard=none∧ ∃v,∀w',SQ KQ ω0 w w'→(execOp a.eval o).run P w'= .ok (.value v) w':=by
  obtain ⟨g1,g2,g3⟩:=I.all S hm hF hpre (fun i hi=>S.closed j i hi)
  cases hr:reg j with
  |true=>
   obtain ⟨hg,s,_,he⟩:=S.evr j o hj ho hr
   obtain ⟨v,h1,_⟩:=reg_ok g1 g2 he
   exact ⟨hg,v,fun w' _=>h1 w'⟩
  |false=>
   obtain ⟨p,ko,he,hp,hk⟩:=B.qui j o hj ho hjm hr
   have hst:St P Gl N (vF rs F0 (PR j)) (vM rs M (PR j)) a w (subω rs M ω (PR j)):=⟨g2,fun g=>Den.ext (o:=ω0.bare) (I.ext0 S hm (PR j)).bare (hG g),g1,I.defers⟩
   obtain ⟨hg,v,h1⟩:=quiet_ok hst he hp
   refine ⟨hg,v,fun w' hs=>h1 w' fun k hko L hL=>?_⟩
   obtain ⟨_,hL'⟩:=sub_get hL
   have hf:=(B.key k (hk k hko)).1
   rw [I.β0 k none (fun _ _ _=>hf)] at hL'
   exact hs k (hk k hko) L hL'
theorem ap_put {oB o:Oper} (hsel: ∀(j:Nat) (o:Oper) cs b,ops[j]? =some o→o.op≠ .select cs b) {j:Nat} (ho:ops[j]? =some o) (hap:o.apart ops oB=true) (v:Value):execOp (a.put oB.dst v).eval o=execOp a.eval o:=by
  obtain ⟨_,_,h3⟩:=Oper.apart_spec hap
  exact execOp_put o (fun cs b=>hsel j o cs b ho) a oB.dst v h3
theorem ph2 (hS:Sound P Gl Γ) (S:Sta P sg Gl Γ N ops PR m rs F F0 M reg wr) (hT: ∀i,m<i→i<ops.size→ ∀j,j<i→j∈PR i) (hm:MemOK w0 ω0 M) (hF:FrOK w0 ω0 N F a0.tmps) (hG: ∀g,Den w0 ω0.bare (Gl g) (.pointer (some ⟨g,0,none⟩))) {Q:Exit→Act→World→Prop} (hQp: ∀d c a v w,Q (.panic c) (Act.put a d v) w→Q (.panic c) a w)
    {KQ:List Nat} {oB:Oper} (B:Qui P Gl N ops PR m rs F0 M reg KQ oB) (hgB:oB.guard=none)
    (htail: ∀a w ω,Inv ops PR m rs M N a0 w0 ω0 (fun j=>j<m) a w ω→wpList P ops Q (ops.toList.drop m) a w):
    ∀(fuel:Nat) (listed:Array Bool) (a:Act) (w:World) (ω:Ow) (n:Next) (v:Value) (w':World),listed.size=ops.size→und ops.size (listed.setIfInBounds m true)≤fuel→Inv ops PR m rs M N a0 w0 ω0 (fun j=>listed.getD j false=true) a w ω→(∀j∈PR m,listed.getD j false=true)→
     (execOp a.eval oB).run P w= .ok n w'→(n= .value v∨(n= .skip∧v=undef))→ ¬(oB.asks P a w∧LetsOut Q)→SQ KQ ω0 w w'→wpAny P .any ops Q fuel (listed.setIfInBounds m true) (a.put oB.dst v) w':=by
  have hmn:m<ops.size:=(Array.getElem?_eq_some_iff.1 B.at_).1
  have hsel:=Region.noSelect_spec B.sel
  have fin: ∀(fuel:Nat) (listed:Array Bool) (a:Act) (w:World) (ω:Ow) (n:Next) (v:Value) (w':World),listed.size=ops.size→und ops.size (listed.setIfInBounds m true)≤fuel→Inv ops PR m rs M N a0 w0 ω0 (fun j=>listed.getD j false=true) a w ω→
   (execOp a.eval oB).run P w= .ok n w'→(n= .value v∨(n= .skip∧v=undef))→ ¬(oB.asks P a w∧LetsOut Q)→(∀j,j<m→listed.getD j false=true)→wpAny P .any ops Q fuel (listed.setIfInBounds m true) (a.put oB.dst v) w':=by
    intro fuel listed a w ω n v w' hs hu I hrun hn hna hall
    have hD:(fun j=>listed.getD j false=true)=(fun j=>j<m):=by
      funext j
      exact propext ⟨I.low j,hall j⟩
    have I':=I
    rw [hD] at I'
    have hl:=htail a w ω I'
    have hdrop:ops.toList.drop m=oB::ops.toList.drop (m+1):=by
      have hj':m<ops.toList.length:=by simpa using hmn
      rw [List.drop_eq_getElem_cons hj']
      congr 1
      have:=(Array.getElem?_eq_some_iff.1 B.at_).2
      simpa using this
    rw [hdrop] at hl
    unfold wpList at hl
    have hw:Region.wanted oB (yielded ops a.tmps)=true:=by simp [Region.wanted,hgB]
    rw [if_pos hw] at hl
    have hl:=hl.resolve_right hna
    have hl2:wpList P ops Q (ops.toList.drop (m+1)) (a.put oB.dst v) w':=by
      unfold Oper.wp at hl
      rw [hrun] at hl
      rcases hn with rfl|⟨rfl,rfl⟩
      · exact hl
      · exact hl
    refine tail_ok S (m+1) (fun i h1 h2 j h3 h4=>hT i (by omega) h2 j h3) fuel (m+1) _ _ _ (by simpa using hs) (fun j hj=>?_) (Nat.le_refl _) hmn hu hl2
    by_cases e:m=j
    · subst e
      have:(listed.setIfInBounds m true).getD m false=true:=by simp [Array.getD,hs,hj]
      rw [this];simp
    · rw [getD_set_ne false e]
      constructor
      · intro h;have:=I.low j h;omega
      · intro h;exact hall j (by omega)
  intro fuel
  induction fuel with
  |zero=>
   intro listed a w ω n v w' hs hu I hpm hrun hn hna hsq
   refine fin 0 listed a w ω n v w' hs hu I hrun hn hna fun j hj=>?_
   cases hx:listed.getD j false with
   |true=>rfl
   |false=>
    have h1:(listed.setIfInBounds m true).getD j true=false:=by
      rw [getD_set_ne true (by omega),getD_eq (by omega) true false];exact hx
    have:=und_pos (show j<ops.size by omega) h1
    omega
  |succ fuel ih=>
   intro listed a w ω n v w' hs hu I hpm hrun hn hna hsq
   by_cases hall: ∀j,j<m→listed.getD j false=true
   · exact fin _ listed a w ω n v w' hs hu I hrun hn hna hall
   have first: ∃j,j<m∧listed.getD j false=false∧j∈Region.ready .any ops listed:=by
     refine Classical.byContradiction fun hno=>?_
     have: ∀n,∀j,j<n→j<m→listed.getD j false=true:=by
       intro n
       induction n with
       |zero=>intro j hj;omega
       |succ n ihn=>
        intro j hj hjm
        cases hx:listed.getD j false with
        |true=>rfl
        |false=>
         exfalso
         have hjn:j<ops.size:=by omega
         refine hno ⟨j,hjm,hx,mem_ready.2 ⟨by rw [getD_eq (by omega) true false];exact hx,ops[j],Array.getElem?_eq_getElem hjn,fun e he hb=>?_⟩⟩
         have hd:=S.dlt j _ (Array.getElem?_eq_getElem hjn) e he hb
         exact ihn e.on (by omega) (by omega)
     exact hall fun j hj=>this (j+1) j (Nat.lt_succ_self j) hj
   have hmL:listed.getD m false=false:=by
     cases hx:listed.getD m false with
     |false=>rfl
     |true=>exact absurd (I.low m hx) (Nat.lt_irrefl _)
   refine ⟨fun hr=>?_,fun i hi=>?_⟩
   · obtain ⟨j,hj,_,hjr⟩:=first
     have:=ready_mono (i:=m) hjr (by omega)
     rw [hr] at this
     simp at this
   · obtain ⟨h1,o,h2,h3⟩:=mem_ready.1 hi
     have hin:=(Array.getElem?_eq_some_iff.1 h2).1
     have him':m≠i:=fun e=>by
       subst e
       simp [Array.getD,hs,hin] at h1
     have hif:listed.getD i false=false:=by
       rw [getD_set_ne true him',getD_eq (by omega) true false] at h1;exact h1
     have prer: ∀x∈PR i,x=m∨listed.getD x false=true:=by
       intro x hx
       obtain ⟨e,he,hb,hx'⟩:=S.dep i o h2 x hx
       have hon:=h3 e he hb
       by_cases em:m=e.on
       · rcases hx' with rfl|hx'
         · exact .inl em.symm
         · exact .inr (hpm x (em▸hx'))
       · rw [getD_set_ne false em] at hon
         rcases hx' with rfl|hx'
         · exact .inr hon
         · exact .inr (I.clo _ hon x hx')
     have him:i<m:=by
       rcases Nat.lt_or_ge i m with h|h
       · exact h
       · exfalso
         obtain ⟨j,hj,hjf,_⟩:=first
         rcases prer j (hT i (by omega) hin j (by omega)) with h|h
         · omega
         · rw [h] at hjf;cases hjf
     have hpre: ∀x∈PR i,listed.getD x false=true:=fun x hx=>(prer x hx).resolve_left fun e=>by have:=S.lt i x hx;omega
     have hnp:i∉PR m:=fun h=>by rw [hpm i h] at hif;cases hif
     obtain ⟨hg,vi,hv⟩:=quiet_at S hm hF hG B I him h2 hnp hpre
     have hap:=B.ap i o him h2 hnp
     obtain ⟨p1,p2,p3⟩:=Oper.apart_spec hap
     have eB:execOp (a.put o.dst vi).eval oB=execOp a.eval oB:=execOp_put oB (fun cs b=>hsel m oB cs b B.at_) a o.dst vi p1
     have ei:execOp (a.put oB.dst v).eval o=execOp a.eval o:=ap_put hsel h2 hap v
     have hni: ¬listed.getD i false=true:=by rw [hif];simp
     have hI: ∃ω',Inv ops PR m rs M N a0 w0 ω0 (fun j=>listed.getD j false=true∨j=i) (a.put o.dst vi) w ω':=by
       have h:=I.step (Q:=fun _ _ _=>False) (K:=fun a' w'=> ∃ω',Inv ops PR m rs M N a0 w0 ω0 (fun j=>listed.getD j false=true∨j=i) a' w' ω') hS S hm hF hG him h2 hni hpre (fun a' w' ω' I'=>⟨ω',I'⟩)
       unfold wpOp at h
       rw [h2] at h
       simp only at h
       rw [if_pos (by simp [Region.wanted,hg])] at h
       rcases h with h|⟨_,_,_,h⟩
       · unfold Oper.wp at h
         rw [hv w (fun _ _ _ _=>rfl)] at h
         exact h
       · exact h.elim
     obtain ⟨ω',I'⟩:=hI
     have hset:(fun j=>(listed.setIfInBounds i true).getD j false=true)=(fun j=>listed.getD j false=true∨j=i):=by
       funext j
       refine propext ⟨fun h=>?_,fun h=>?_⟩
       · by_cases e:i=j
         · exact .inr e.symm
         · rw [getD_set_ne false e] at h;exact .inl h
       · rcases h with h|rfl
         · exact getD_set_true h
         · simp [Array.getD,hs,hin]
     have hcomm:(listed.setIfInBounds m true).setIfInBounds i true=(listed.setIfInBounds i true).setIfInBounds m true:=Array.setIfInBounds_comm _ _ (by omega)
     unfold wpOp
     rw [h2]
     simp only
     rw [if_pos (by simp [Region.wanted,hg])]
     left
     unfold Oper.wp
     rw [ei,hv w' hsq]
     show wpAny P .any ops Q fuel ((listed.setIfInBounds m true).setIfInBounds i true) ((a.put oB.dst v).put o.dst vi) w'
     rw [hcomm,←Act.put_comm a vi v p2]
     refine ih (listed.setIfInBounds i true) (a.put o.dst vi) w ω' n v w' (by simpa using hs) ?_ (by rw [hset];exact I') (fun j hj=>getD_set_true (hpm j hj)) (by rw [eB];exact hrun) hn ?_ hsq
     · rw [←hcomm]
       have:=und_set (listed:=listed.setIfInBounds m true) hin (by simpa using hs) h1
       omega
     · rintro ⟨g1,g2⟩
       refine hna ⟨?_,g2⟩
       unfold Oper.asks at*
       rw [eB] at g1
       exact g1
theorem any_okB (hS:Sound P Gl Γ) (S:Sta P sg Gl Γ N ops PR m rs F F0 M reg wr) (hT: ∀i,m<i→i<ops.size→ ∀j,j<i→j∈PR i) (hm:MemOK w0 ω0 M) (hF:FrOK w0 ω0 N F a0.tmps) (hG: ∀g,Den w0 ω0.bare (Gl g) (.pointer (some ⟨g,0,none⟩))) {Q:Exit→Act→World→Prop} (hQp: ∀d c a v w,Q (.panic c) (Act.put a d v) w→Q (.panic c) a w)
    {KQ:List Nat} {oB:Oper} (B:Qui P Gl N ops PR m rs F0 M reg KQ oB)
    (htail: ∀a w ω,Inv ops PR m rs M N a0 w0 ω0 (fun j=>j<m) a w ω→wpList P ops Q (ops.toList.drop m) a w):
    ∀(fuel:Nat) (listed:Array Bool) (a:Act) (w:World) (ω:Ow),listed.size=ops.size→und ops.size listed≤fuel→Inv ops PR m rs M N a0 w0 ω0 (fun j=>listed.getD j false=true) a w ω→wpAny P .any ops Q fuel listed a w:=by
  have hmn:m<ops.size:=(Array.getElem?_eq_some_iff.1 B.at_).1
  intro fuel
  induction fuel with
  |zero=>
   intro listed a w ω hs hu I
   exfalso
   have hmL:listed.getD m true=false:=by
     cases hx:listed.getD m false with
     |false=>rw [getD_eq (by omega) true false];exact hx
     |true=>exact absurd (I.low m hx) (Nat.lt_irrefl _)
   have:=und_pos hmn hmL
   omega
  |succ fuel ih=>
   intro listed a w ω hs hu I
   have hmL:listed.getD m false=false:=by
     cases hx:listed.getD m false with
     |false=>rfl
     |true=>exact absurd (I.low m hx) (Nat.lt_irrefl _)
   have hprer: ∀i,i∈Region.ready .any ops listed→ ∀x∈PR i,listed.getD x false=true:=by
     intro i hi x hx
     obtain ⟨h1,o,h2,h3⟩:=mem_ready.1 hi
     obtain ⟨e,he,hb,hx'⟩:=S.dep i o h2 x hx
     have hon:=h3 e he hb
     rcases hx' with rfl|hx'
     · exact hon
     · exact I.clo _ hon x hx'
   refine ⟨fun hr=>?_,fun i hi=>?_⟩
   · exfalso
     have: ∀n,∀j,j<n→j<ops.size→listed.getD j false=true:=by
       intro n
       induction n with
       |zero=>intro j hj;omega
       |succ n ihn=>
        intro j hj hjn
        cases hx:listed.getD j false with
        |true=>rfl
        |false=>
         exfalso
         have:j∈Region.ready .any ops listed:=mem_ready.2 ⟨by rw [getD_eq (by omega) true false];exact hx,ops[j],Array.getElem?_eq_getElem hjn,fun e he hb=>by
           have hd:=S.dlt j _ (Array.getElem?_eq_getElem hjn) e he hb
           exact ihn e.on (by omega) (by omega)⟩
         rw [hr] at this
         simp at this
     rw [this (m+1) m (Nat.lt_succ_self m) hmn] at hmL
     cases hmL
   · obtain ⟨h1,o,h2,h3⟩:=mem_ready.1 hi
     have hin:=(Array.getElem?_eq_some_iff.1 h2).1
     have hni: ¬listed.getD i false=true:=by
       rw [getD_eq (by omega) false true,h1];simp
     have hset:(fun j=>(listed.setIfInBounds i true).getD j false=true)=(fun j=>listed.getD j false=true∨j=i):=by
       funext j
       refine propext ⟨fun h=>?_,fun h=>?_⟩
       · by_cases e:i=j
         · exact .inr e.symm
         · rw [getD_set_ne false e] at h;exact .inl h
       · rcases h with h|rfl
         · exact getD_set_true h
         · simp [Array.getD,hs,hin]
     have hu':=und_set hin hs h1
     rcases Nat.lt_trichotomy i m with him|him|him
     · refine I.step hS S hm hF hG him h2 hni (hprer i hi) fun a' w' ω' I'=>ih _ a' w' ω' (by simpa using hs) (by omega) ?_
       rw [hset];exact I'
     · subst him
       obtain rfl:o=oB:=Option.some.inj (h2.symm.trans B.at_)
       have hpm:=hprer i hi
       obtain ⟨g1,g2,g3⟩:=I.all S hm hF hpm (fun j hj=>S.closed i j hj)
       have hst:St P Gl N (vF rs F0 (PR i)) (vM rs M (PR i)) a w (subω rs M ω (PR i)):=⟨g2,fun g=>Den.ext (o:=ω0.bare) (I.ext0 S hm (PR i)).bare (hG g),g1,I.defers⟩
       obtain ⟨nx,pr,κ,he,hp,hκ⟩:=B.noi
       obtain ⟨hg,_,n,v,w',hrun,hn,hsame⟩:=noise_ok hst he hp
       unfold wpOp
       rw [h2]
       simp only
       rw [if_pos (by simp [Region.wanted,hg])]
       by_cases hask:o.asks P a w∧LetsOut Q
       · exact .inr hask
       left
       have hsq:SQ KQ ω0 w w':=by
         intro k hk L hL
         obtain ⟨hf,hno⟩:=B.key k hk
         have hLω:(subω rs M ω (PR i)).β k none=some L:=by
           rw [sub_eq (fun h=>by have:=h.1;rw [hf] at this;cases this),I.β0 k none (fun _ _ _=>hf)];exact hL
         refine hsame L.b (g1.low _ _ _ hLω) fun k' hk' p L' hL' e=>?_
         obtain ⟨rfl,_⟩:=g1.inj _ _ _ _ _ _ hL' hLω e
         exact hκ _ hk' hk
       have:=ph2 hS S hT hm hF hG hQp B hg htail fuel listed a w ω n v w' hs (by omega) I hpm hrun hn hask hsq
       unfold Oper.wp
       rw [hrun]
       rcases hn with rfl|⟨rfl,rfl⟩
       · exact this
       · exact this
     · exfalso
       have:=hprer i hi m (hT i him hin m him)
       rw [hmL] at this
       cases this
end
end Go.Sy
set_option linter.unusedVariables false
set_option linter.unusedSimpArgs false
namespace Go.Sy
open Go.RowKit Classical
def callB (P:Program) (Gl:Nat→SV) (Γ:Table) (F:Fr) (M:Mem) (nx:Nat) (o:Oper):Option (Prop×SV×Upd):=
  match o.guard,o.op with
  |none,.call {callee:= .value f,args:=args,argTypes:=_}=>evCall Γ (opnd Gl F) (ent M) nx f args.toList
  |none,.call {callee:= .invoke r name,args:=args,argTypes:=_}=>evInvoke P Γ (opnd Gl F) (ent M) nx r name args.toList
  |_,_=>none
def storeB (P:Program) (Gl:Nat→SV) (F:Fr) (M:Mem) (nx:Nat) (o:Oper):Option (Prop×SV×Upd):=
  match o.guard,o.dst,o.op with
  |none,none,.store T x y=>
   match cellsSV (ent M) (opnd Gl F y),P.info? T,opnd Gl F x with
   |some [v],some i,.ptr k st p ii j=>
    match Nat.beq 1 i.size,oneSV (ent M) v,okRef (ent M) k st p,store1 (ent M) nx k p ii j v with
    |true,true,true,some (pr,u)=>(match inL (u.map (·.1)) k with|true=>some (pr,.junk,u)|false=>none)
    |_,_,_,_=>none
   |_,_,_=>none
  |_,_,_=>none
def opB (P:Program) (Gl:Nat→SV) (Γ:Table) (F:Fr) (M:Mem) (nx:Nat) (o:Oper):Option (Prop×SV×Upd):=
  match o.op with
  | .store _ _ _=>storeB P Gl F M nx o
  |_=>callB P Gl Γ F M nx o
def plainOp:Op→Bool
  | .load _ _=>true
  | .nilCheck _=>true
  | .indexAddr _ _ _=>true
  |_=>false
section
variable {P:Program} {sg:Bool} {Gl:Nat→SV} {Γ:Table} {N:Nat} {F:Fr} {M:Mem} {a:Act} {w:World} {ω:Ow} {H:List Hd}
theorem callB_ok (hS:Sound P Gl Γ) (h:St P Gl N F M a w ω) {nx:Nat} {o:Oper} {pr:Prop} {s:SV} {u:Upd} (he:callB P Gl Γ F M nx o=some (pr,s,u)) (hp:pr):o.guard=none∧CallS P w ω M a o s u:=by
  unfold callB at he
  split at he
  · next hg ho=>exact ⟨hg,call_ok hS h.globs h.cx ho he hp⟩
  · next hg ho=>exact ⟨hg,invoke_ok hS h.globs h.cx ho he hp⟩
  · cases he
def OpB (P:Program) (w:World) (ω:Ow) (M:Mem) (a:Act) (o:Oper) (s:SV) (u:Upd):Prop:=
  ∀{next:Act→World→Prop} {Q:Exit→Act→World→Prop},(∀v w' ω',Stp w ω M w' ω' (u++M)→Den w' ω' s v→SameB ω (u.map (·.1)) w w'→next (a.put o.dst v) w')→o.wp P a w next Q
theorem storeB_ok (h:St P Gl N F M a w ω) {nx:Nat} {o:Oper} {pr:Prop} {s:SV} {u:Upd} (he:storeB P Gl F M nx o=some (pr,s,u)) (hp:pr):o.guard=none∧OpB P w ω M a o s u:=by
  have hm:=h.mem
  unfold storeB at he
  split at he
  · next T x y hg hd ho=>
    refine ⟨hg,?_⟩
    have hx:=h.cx.val x
    split at he
    · next v i k st p ii j hcs hi hs=>
      rw [hs] at hx
      split at he
      · next pr' u' hlen hone hok hst=>
        split at he
        · next hin=>
          simp only [Option.some.injEq,Prod.mk.injEq] at he
          obtain ⟨rfl,rfl,rfl⟩:=he
          have hc:=cellsSV_den hm hcs (h.cx.val y)
          have hlen:=Nat.eq_of_beq_eq_true hlen
          obtain ⟨x0,hx0⟩: ∃x0,(a.eval y).cells.toList= [x0]:=by
            have:=hc.len
            match hl:(a.eval y).cells.toList,this with
            | [x0],_=>exact ⟨x0,rfl⟩
          rw [hx0] at hc
          have hone:([v]:List SV).all (oneSV (ent M))=true:=by simp [hone]
          have h1:=oneSV_all hm hone hc
          have hsz:(a.eval y).cells.size=i.size:=by rw [←Array.length_toList,hx0,←hlen];rfl
          have hs2:(sizeOf T).run P w= .ok i.size w:=by simp [sizeOf,run_typeInfo w hi,Result.andThen]
          obtain ⟨e0,L,hL,hc0,ex⟩:=okRef_at hm hok hx
          obtain ⟨hj,w'',s1,_⟩:=store1_ok hm hst hp hc.1 (h1 x0 (by simp)) hL hc0
          obtain ⟨_,_,_,_,c,T0,g1,g2,g3,g4⟩:=hm.row _ _ _ hL
          obtain ⟨_,y1,_⟩:=g4 ii hc0 j hj
          have hr:=run_store1 (P:=P) (x:=x0) g1 (Array.getElem?_eq_some_iff.1 y1).1 (h1 x0 (by simp))
          have run:(execOp a.eval o).run P w= .ok .skip (w.setCell ⟨L.b,L.o+ii*L.sz+j,none⟩ x0):=by
            simp [execOp,ho,ex,Instr.storeAt,Instr.sureAddr,storeVar,hs2,hsz,hx0,storeCells,Addr.add,hr,Result.andThen]
          intro next Q hn
          unfold Oper.wp
          rw [run]
          exact hn undef _ w'' s1 trivial fun b hb hk=>setCell_heap_ne w _ x0 (fun e=>hk k (inL_iff.1 hin) p L hL e.symm)
        · cases he
      · cases he
    · cases he
  · cases he
theorem opB_ok (hS:Sound P Gl Γ) (h:St P Gl N F M a w ω) {nx:Nat} {o:Oper} {pr:Prop} {s:SV} {u:Upd} (he:opB P Gl Γ F M nx o=some (pr,s,u)) (hp:pr):o.guard=none∧OpB P w ω M a o s u:=by
  unfold opB at he
  split at he
  · exact storeB_ok h he hp
  · obtain ⟨hg,id,vs,hrun,hcall⟩:=callB_ok hS h he hp
    refine ⟨hg,?_⟩
    intro next Q hn
    unfold Oper.wp
    rw [hrun]
    unfold EnterS at hcall
    refine hcall.mono ?_
    rintro e w' ⟨v,ω',rfl,h3,h4,_,hsame⟩
    exact hn v w' ω' h3 h4 hsame
theorem quiet_plain {o:Oper} {p:Prop} {ko:Option Nat} (he:quietK P Gl F M o=some (p,ko)):o.guard=none∧plainOp o.op=true:=by
  unfold quietK at he
  split at he
  · next hg ho=>exact ⟨hg,by rw [ho];rfl⟩
  · next hg ho=>exact ⟨hg,by rw [ho];rfl⟩
  · next hg ho=>exact ⟨hg,by rw [ho];rfl⟩
  · cases he
theorem pureQ (hS:Sound P Gl Γ) (h:St P Gl N F M a w ω) (hH:HOK w ω N a H) {ops:List Oper} {nx:Nat} {pr:List Nat} {o:Oper} {p:Prop} {rc:Rc} (hg:o.guard=none) (hop:plainOp o.op=true)
    (he:evalQ P sg Gl Γ N ops F M H nx pr o=some (p,rc)) (hp:p): ∃s v,rc=⟨ent1 N o.dst s,[],[]⟩∧(execOp a.eval o).run P w= .ok (.value v) w∧Den w ω s v:=by
  have hgo:guardOf N ops F H o= .yes:=by unfold guardOf;rw [hg]
  have hnz:noisy o.op=false:=by
    cases ho:o.op with
    |load T x=>rfl
    |nilCheck x=>rfl
    |indexAddr T x y=>rfl
    |_=>rw [ho] at hop;cases hop
  unfold evalQ at he
  rw [hgo,hnz] at he
  have key: ∃s u,rc=⟨ent1 N o.dst s,[],u⟩∧(evO2 P sg Gl Γ F M nx H [] o.op).run (fun s' u'=>s'=s∧u'=u):=by
    cases hfr:freeH H o.dst with
    |false=>rw [hfr] at he;cases he
    |true=>
     rw [hfr] at he
     simp only at he
     split at he
     · next s hr=>
       simp only [Option.some.injEq,Prod.mk.injEq] at he
       exact ⟨s,[],he.2.symm,by rw [hr];exact ⟨rfl,rfl⟩⟩
     · next s hr=>
       simp only [Option.some.injEq,Prod.mk.injEq] at he
       exact ⟨s,[],he.2.symm,by rw [hr];exact fun _=>⟨rfl,rfl⟩⟩
     · next s hr=>
       simp only [Option.some.injEq,Prod.mk.injEq] at he
       exact ⟨s,[],he.2.symm,by rw [hr];exact ⟨by rw [he.1];exact hp,rfl,rfl⟩⟩
     · next s u hr=>
       split at he
       · simp only [Option.some.injEq,Prod.mk.injEq] at he
         exact ⟨s,u,he.2.symm,by rw [hr];exact ⟨by rw [he.1];exact hp,rfl,rfl⟩⟩
       · cases he
     · cases he
     · cases he
  obtain ⟨s,u,rfl,hrun⟩:=key
  have hc:Cx P w ω (opnd Gl (openF [] F H)) M a:=⟨(openF_ok h.frame (As:= []) (fun p hp=>by cases hp) H hH).opnd h.globs,h.mem⟩
  have fin: ∀{r:R},(∀{K':SV→Prop},r.run K'→PureOK P w ω a o K')→r.up.run (fun s' u'=>s'=s∧u'=u)→ ∃s_1 v,(⟨ent1 N o.dst s,[],u⟩:Rc)=⟨ent1 N o.dst s_1,[],[]⟩∧(execOp a.eval o).run P w= .ok (.value v) w∧Den w ω s_1 v:=by
    intro r h1 h2
    have:r.run (fun s'=>s'=s∧([]:Upd)=u):=by cases r<;>exact h2
    obtain ⟨s',v,g1,g2,rfl,rfl⟩:=h1 this
    exact ⟨s',v,rfl,g1,g2⟩
  cases ho:o.op with
  |load T x=>rw [ho] at hrun;exact fin (fun hk=>evP_ok hc (by rw [ho];exact hk)) hrun
  |nilCheck x=>rw [ho] at hrun;exact fin (fun hk=>evP_ok hc (by rw [ho];exact hk)) hrun
  |indexAddr T x y=>rw [ho] at hrun;exact fin (fun hk=>evP_ok hc (by rw [ho];exact hk)) hrun
  |_=>rw [ho] at hop;cases hop
end
section
variable {P:Program} {sg:Bool} {Gl:Nat→SV} {Γ:Table} {N:Nat} {ops:Array Oper} {PR:Nat→List Nat} {m:Nat} {rs:List Rc} {F F0:Fr} {M:Mem} {reg wr:Nat→Bool}
variable {a0 a:Act} {w0 w:World} {ω0 ω:Ow} {D:Nat→Prop}
structure QuiC (P:Program) (Gl:Nat→SV) (Γ:Table) (N:Nat) (ops:Array Oper) (PR:Nat→List Nat) (m:Nat) (rs:List Rc) (F0:Fr) (M:Mem) (reg wr:Nat→Bool) (KQ:List Nat) (oB:Oper) (sB:SV) (uB:Upd):Prop where
  at_:ops[m]? =some oB
  qui: ∀j o,j<m→ops[j]? =some o→j∉PR m→reg j=false→ ∃p ko,quietK P Gl (vF rs F0 (PR j)) (vM rs M (PR j)) o=some (p,ko)∧p∧ ∀k,ko=some k→k∈KQ
  emp: ∀j,j<m→j∉PR m→keys rs j= []∧wr j=false
  noi: ∃nx pr,opB P Gl Γ (vF rs F0 (PR m)) (vM rs M (PR m)) nx oB=some (pr,sB,uB)∧pr
  out: ∀k∈uB.map (·.1),k∉KQ
  key: ∀k∈KQ,freeB (ent M) k=false∧ ∀j,k∉keys rs j
  sel:Region.noSelect ops=true
  ap: ∀j o,j<m→ops[j]? =some o→j∉PR m→o.apart ops oB=true
  low: ∀j∈PR m,j<m
theorem quiet_inv (hS:Sound P Gl Γ) (S:Sta P sg Gl Γ N ops PR m rs F F0 M reg wr) (hm:MemOK w0 ω0 M) (hF:FrOK w0 ω0 N F a0.tmps) (hG: ∀g,Den w0 ω0.bare (Gl g) (.pointer (some ⟨g,0,none⟩))) {KQ:List Nat} {oB:Oper} {sB:SV} {uB:Upd} (B:QuiC P Gl Γ N ops PR m rs F0 M reg wr KQ oB sB uB)
    (I:Inv ops PR m rs M N a0 w0 ω0 D a w ω) {j:Nat} {o:Oper} (hj:j<m) (ho:ops[j]? =some o) (hjm:j∉PR m) (hni: ¬D j) (hpre: ∀i∈PR j,D i):
    o.guard=none∧ ∃v,(∀w',SQ KQ ω0 w w'→(execOp a.eval o).run P w'= .ok (.value v) w')∧Inv ops PR m rs M N a0 w0 ω0 (fun i=>D i∨i=j) (a.put o.dst v) w ω:=by
  obtain ⟨g1,g2,g3⟩:=I.all S hm hF hpre (fun i hi=>S.closed j i hi)
  have hkeys:=(B.emp j hj hjm).1
  have inv: ∀{v:Value} {s:SV},rcAt rs j=⟨ent1 N o.dst s,[],[]⟩→Den w (subω rs M ω (PR j)) s v→Inv ops PR m rs M N a0 w0 ω0 (fun i=>D i∨i=j) (a.put o.dst v) w ω:=by
    intro v s hrc hd
    have h:=I.after' S hm hj ho hni hpre (fun k hk=>by rw [hkeys] at hk;cases hk) (v:=v) (w':=w) (ωq:=subω rs M ω (PR j)) (by rw [hrc];exact Stp.refl g1) (by rw [hrc];exact New.refl _ _) (by rw [hrc];exact ⟨ent1_facts hd,fun x hx=>by cases hx⟩)
    have e:(⟨(subω rs M ω (PR j)).A,ω.Z,fun k p=>if k∈keys rs j then (subω rs M ω (PR j)).β k p else ω.β k p,ω.cur⟩:Ow)=ω:=by
      show (⟨ω.A,ω.Z,_,ω.cur⟩:Ow)=ω
      have:(fun k p=>if k∈keys rs j then (subω rs M ω (PR j)).β k p else ω.β k p)=ω.β:=by
        funext k p
        rw [if_neg (by rw [hkeys];simp)]
      rw [this]
    rw [e] at h
    exact h
  cases hr:reg j with
  |true=>
   obtain ⟨hg,s,hrc,he⟩:=S.evr j o hj ho hr
   obtain ⟨v,h1,h2⟩:=reg_ok g1 g2 he
   exact ⟨hg,v,fun w' _=>h1 w',inv hrc h2⟩
  |false=>
   obtain ⟨p,ko,he,hp,hk⟩:=B.qui j o hj ho hjm hr
   have hst:St P Gl N (vF rs F0 (PR j)) (vM rs M (PR j)) a w (subω rs M ω (PR j)):=⟨g2,fun g=>Den.ext (o:=ω0.bare) (I.ext0 S hm (PR j)).bare (hG g),g1,I.defers⟩
   obtain ⟨hg,v,h1⟩:=quiet_ok hst he hp
   obtain ⟨_,hop⟩:=quiet_plain he
   obtain ⟨nx,p',he',hp'⟩:=S.ev j o hj ho hr (B.emp j hj hjm).2
   obtain ⟨s,v',hrc,h2,h3⟩:=pureQ hS hst g3 hg hop he' hp'
   have h0:=h1 w (fun _ _ _ _=>rfl)
   rw [h2] at h0
   obtain rfl:v'=v:=by cases h0;rfl
   refine ⟨hg,v',fun w' hs=>h1 w' fun k hko L hL=>?_,inv hrc h3⟩
   obtain ⟨_,hL'⟩:=sub_get hL
   have hf:=(B.key k (hk k hko)).1
   rw [I.β0 k none (fun _ _ _=>hf)] at hL'
   exact hs k (hk k hko) L hL'
def PostC (KQ:List Nat) (PR:Nat→List Nat) (m:Nat) (rs:List Rc) (M:Mem) (ω0:Ow) (sB:SV) (uB:Upd) (w:World) (ω:Ow) (v:Value) (w':World):Prop:=
  SQ KQ ω0 w w'∧ ∃ω',Ext w (subω rs M ω (PR m)) w' ω'∧MemOK w' ω' (uB++vM rs M (PR m))∧Den w' ω' sB v
theorem ph2C (hS:Sound P Gl Γ) (S:Sta P sg Gl Γ N ops PR m rs F F0 M reg wr) (hT: ∀i,m<i→i<ops.size→ ∀j,j<i→j∈PR i) (hm:MemOK w0 ω0 M) (hF:FrOK w0 ω0 N F a0.tmps) (hG: ∀g,Den w0 ω0.bare (Gl g) (.pointer (some ⟨g,0,none⟩))) {Q:Exit→Act→World→Prop} (hQp: ∀d c a v w,Q (.panic c) (Act.put a d v) w→Q (.panic c) a w)
    {KQ:List Nat} {oB:Oper} {sB:SV} {uB:Upd} (B:QuiC P Gl Γ N ops PR m rs F0 M reg wr KQ oB sB uB)
    (htail: ∀a w ω v w',Inv ops PR m rs M N a0 w0 ω0 (fun j=>j<m) a w ω→PostC KQ PR m rs M ω0 sB uB w ω v w'→wpList P ops Q (ops.toList.drop (m+1)) (a.put oB.dst v) w') (w:World) (ω:Ow) (v:Value) (w':World) (hpost:PostC KQ PR m rs M ω0 sB uB w ω v w'):
    ∀(fuel:Nat) (listed:Array Bool) (a:Act),listed.size=ops.size→und ops.size (listed.setIfInBounds m true)≤fuel→Inv ops PR m rs M N a0 w0 ω0 (fun j=>listed.getD j false=true) a w ω→(∀j∈PR m,listed.getD j false=true)→
     wpAny P .any ops Q fuel (listed.setIfInBounds m true) (a.put oB.dst v) w':=by
  have hmn:m<ops.size:=(Array.getElem?_eq_some_iff.1 B.at_).1
  have hsel:=Region.noSelect_spec B.sel
  have fin: ∀(fuel:Nat) (listed:Array Bool) (a:Act),listed.size=ops.size→und ops.size (listed.setIfInBounds m true)≤fuel→Inv ops PR m rs M N a0 w0 ω0 (fun j=>listed.getD j false=true) a w ω→
   (∀j,j<m→listed.getD j false=true)→wpAny P .any ops Q fuel (listed.setIfInBounds m true) (a.put oB.dst v) w':=by
    intro fuel listed a hs hu I hall
    have hD:(fun j=>listed.getD j false=true)=(fun j=>j<m):=by
      funext j
      exact propext ⟨I.low j,hall j⟩
    have I':=I
    rw [hD] at I'
    have hl2:=htail a w ω v w' I' hpost
    refine tail_ok S (m+1) (fun i h1 h2 j h3 h4=>hT i (by omega) h2 j h3) fuel (m+1) _ _ _ (by simpa using hs) (fun j hj=>?_) (Nat.le_refl _) hmn hu hl2
    by_cases e:m=j
    · subst e
      have:(listed.setIfInBounds m true).getD m false=true:=by simp [Array.getD,hs,hj]
      rw [this];simp
    · rw [getD_set_ne false e]
      constructor
      · intro h;have:=I.low j h;omega
      · intro h;exact hall j (by omega)
  intro fuel
  induction fuel with
  |zero=>
   intro listed a hs hu I hpm
   refine fin 0 listed a hs hu I fun j hj=>?_
   cases hx:listed.getD j false with
   |true=>rfl
   |false=>
    have h1:(listed.setIfInBounds m true).getD j true=false:=by
      rw [getD_set_ne true (by omega),getD_eq (by omega) true false];exact hx
    have:=und_pos (show j<ops.size by omega) h1
    omega
  |succ fuel ih=>
   intro listed a hs hu I hpm
   by_cases hall: ∀j,j<m→listed.getD j false=true
   · exact fin _ listed a hs hu I hall
   have first: ∃j,j<m∧listed.getD j false=false∧j∈Region.ready .any ops listed:=by
     refine Classical.byContradiction fun hno=>?_
     have: ∀n,∀j,j<n→j<m→listed.getD j false=true:=by
       intro n
       induction n with
       |zero=>intro j hj;omega
       |succ n ihn=>
        intro j hj hjm
        cases hx:listed.getD j false with
        |true=>rfl
        |false=>
         exfalso
         have hjn:j<ops.size:=by omega
         refine hno ⟨j,hjm,hx,mem_ready.2 ⟨by rw [getD_eq (by omega) true false];exact hx,ops[j],Array.getElem?_eq_getElem hjn,fun e he hb=>?_⟩⟩
         have hd:=S.dlt j _ (Array.getElem?_eq_getElem hjn) e he hb
         exact ihn e.on (by omega) (by omega)
     exact hall fun j hj=>this (j+1) j (Nat.lt_succ_self j) hj
   have hmL:listed.getD m false=false:=by
     cases hx:listed.getD m false with
     |false=>rfl
     |true=>exact absurd (I.low m hx) (Nat.lt_irrefl _)
   refine ⟨fun hr=>?_,fun i hi=>?_⟩
   · obtain ⟨j,hj,_,hjr⟩:=first
     have:=ready_mono (i:=m) hjr (by omega)
     rw [hr] at this
     simp at this
   · obtain ⟨h1,o,h2,h3⟩:=mem_ready.1 hi
     have hin:=(Array.getElem?_eq_some_iff.1 h2).1
     have him':m≠i:=fun e=>by
       subst e
       simp [Array.getD,hs,hin] at h1
     have hif:listed.getD i false=false:=by
       rw [getD_set_ne true him',getD_eq (by omega) true false] at h1;exact h1
     have prer: ∀x∈PR i,x=m∨listed.getD x false=true:=by
       intro x hx
       obtain ⟨e,he,hb,hx'⟩:=S.dep i o h2 x hx
       have hon:=h3 e he hb
       by_cases em:m=e.on
       · rcases hx' with rfl|hx'
         · exact .inl em.symm
         · exact .inr (hpm x (em▸hx'))
       · rw [getD_set_ne false em] at hon
         rcases hx' with rfl|hx'
         · exact .inr hon
         · exact .inr (I.clo _ hon x hx')
     have him:i<m:=by
       rcases Nat.lt_or_ge i m with h|h
       · exact h
       · exfalso
         obtain ⟨j,hj,hjf,_⟩:=first
         rcases prer j (hT i (by omega) hin j (by omega)) with h|h
         · omega
         · rw [h] at hjf;cases hjf
     have hpre: ∀x∈PR i,listed.getD x false=true:=fun x hx=>(prer x hx).resolve_left fun e=>by have:=S.lt i x hx;omega
     have hnp:i∉PR m:=fun h=>by rw [hpm i h] at hif;cases hif
     have hni: ¬listed.getD i false=true:=by rw [hif];simp
     obtain ⟨hg,vi,hv,I'⟩:=quiet_inv hS S hm hF hG B I him h2 hnp hni hpre
     have hap:=B.ap i o him h2 hnp
     obtain ⟨p1,p2,p3⟩:=Oper.apart_spec hap
     have ei:execOp (a.put oB.dst v).eval o=execOp a.eval o:=ap_put hsel h2 hap v
     have hset:(fun j=>(listed.setIfInBounds i true).getD j false=true)=(fun j=>listed.getD j false=true∨j=i):=by
       funext j
       refine propext ⟨fun h=>?_,fun h=>?_⟩
       · by_cases e:i=j
         · exact .inr e.symm
         · rw [getD_set_ne false e] at h;exact .inl h
       · rcases h with h|rfl
         · exact getD_set_true h
         · simp [Array.getD,hs,hin]
     have hcomm:(listed.setIfInBounds m true).setIfInBounds i true=(listed.setIfInBounds i true).setIfInBounds m true:=Array.setIfInBounds_comm _ _ (by omega)
     unfold wpOp
     rw [h2]
     simp only
     rw [if_pos (by simp [Region.wanted,hg])]
     left
     unfold Oper.wp
     rw [ei,hv w' hpost.1]
     show wpAny P .any ops Q fuel ((listed.setIfInBounds m true).setIfInBounds i true) ((a.put oB.dst v).put o.dst vi) w'
     rw [hcomm,←Act.put_comm a vi v p2]
     refine ih (listed.setIfInBounds i true) (a.put o.dst vi) (by simpa using hs) ?_ (by rw [hset];exact I') (fun j hj=>getD_set_true (hpm j hj))
     rw [←hcomm]
     have:=und_set (listed:=listed.setIfInBounds m true) hin (by simpa using hs) h1
     omega
theorem any_okC (hS:Sound P Gl Γ) (S:Sta P sg Gl Γ N ops PR m rs F F0 M reg wr) (hT: ∀i,m<i→i<ops.size→ ∀j,j<i→j∈PR i) (hm:MemOK w0 ω0 M) (hF:FrOK w0 ω0 N F a0.tmps) (hG: ∀g,Den w0 ω0.bare (Gl g) (.pointer (some ⟨g,0,none⟩))) {Q:Exit→Act→World→Prop} (hQp: ∀d c a v w,Q (.panic c) (Act.put a d v) w→Q (.panic c) a w)
    {KQ:List Nat} {oB:Oper} {sB:SV} {uB:Upd} (B:QuiC P Gl Γ N ops PR m rs F0 M reg wr KQ oB sB uB)
    (htail: ∀a w ω v w',Inv ops PR m rs M N a0 w0 ω0 (fun j=>j<m) a w ω→PostC KQ PR m rs M ω0 sB uB w ω v w'→wpList P ops Q (ops.toList.drop (m+1)) (a.put oB.dst v) w'):
    ∀(fuel:Nat) (listed:Array Bool) (a:Act) (w:World) (ω:Ow),listed.size=ops.size→und ops.size listed≤fuel→Inv ops PR m rs M N a0 w0 ω0 (fun j=>listed.getD j false=true) a w ω→wpAny P .any ops Q fuel listed a w:=by
  have hmn:m<ops.size:=(Array.getElem?_eq_some_iff.1 B.at_).1
  intro fuel
  induction fuel with
  |zero=>
   intro listed a w ω hs hu I
   exfalso
   have hmL:listed.getD m true=false:=by
     cases hx:listed.getD m false with
     |false=>rw [getD_eq (by omega) true false];exact hx
     |true=>exact absurd (I.low m hx) (Nat.lt_irrefl _)
   have:=und_pos hmn hmL
   omega
  |succ fuel ih=>
   intro listed a w ω hs hu I
   have hmL:listed.getD m false=false:=by
     cases hx:listed.getD m false with
     |false=>rfl
     |true=>exact absurd (I.low m hx) (Nat.lt_irrefl _)
   have hprer: ∀i,i∈Region.ready .any ops listed→ ∀x∈PR i,listed.getD x false=true:=by
     intro i hi x hx
     obtain ⟨h1,o,h2,h3⟩:=mem_ready.1 hi
     obtain ⟨e,he,hb,hx'⟩:=S.dep i o h2 x hx
     have hon:=h3 e he hb
     rcases hx' with rfl|hx'
     · exact hon
     · exact I.clo _ hon x hx'
   refine ⟨fun hr=>?_,fun i hi=>?_⟩
   · exfalso
     have: ∀n,∀j,j<n→j<ops.size→listed.getD j false=true:=by
       intro n
       induction n with
       |zero=>intro j hj;omega
       |succ n ihn=>
        intro j hj hjn
        cases hx:listed.getD j false with
        |true=>rfl
        |false=>
         exfalso
         have:j∈Region.ready .any ops listed:=mem_ready.2 ⟨by rw [getD_eq (by omega) true false];exact hx,ops[j],Array.getElem?_eq_getElem hjn,fun e he hb=>by
           have hd:=S.dlt j _ (Array.getElem?_eq_getElem hjn) e he hb
           exact ihn e.on (by omega) (by omega)⟩
         rw [hr] at this
         simp at this
     rw [this (m+1) m (Nat.lt_succ_self m) hmn] at hmL
     cases hmL
   · obtain ⟨h1,o,h2,h3⟩:=mem_ready.1 hi
     have hin:=(Array.getElem?_eq_some_iff.1 h2).1
     have hni: ¬listed.getD i false=true:=by
       rw [getD_eq (by omega) false true,h1];simp
     have hset:(fun j=>(listed.setIfInBounds i true).getD j false=true)=(fun j=>listed.getD j false=true∨j=i):=by
       funext j
       refine propext ⟨fun h=>?_,fun h=>?_⟩
       · by_cases e:i=j
         · exact .inr e.symm
         · rw [getD_set_ne false e] at h;exact .inl h
       · rcases h with h|rfl
         · exact getD_set_true h
         · simp [Array.getD,hs,hin]
     have hu':=und_set hin hs h1
     rcases Nat.lt_trichotomy i m with him|him|him
     · refine I.step hS S hm hF hG him h2 hni (hprer i hi) fun a' w' ω' I'=>ih _ a' w' ω' (by simpa using hs) (by omega) ?_
       rw [hset];exact I'
     · subst him
       obtain rfl:o=oB:=Option.some.inj (h2.symm.trans B.at_)
       have hpm:=hprer i hi
       obtain ⟨g1,g2,g3⟩:=I.all S hm hF hpm (fun j hj=>S.closed i j hj)
       have hst:St P Gl N (vF rs F0 (PR i)) (vM rs M (PR i)) a w (subω rs M ω (PR i)):=⟨g2,fun g=>Den.ext (o:=ω0.bare) (I.ext0 S hm (PR i)).bare (hG g),g1,I.defers⟩
       obtain ⟨nx,pr,he,hp⟩:=B.noi
       obtain ⟨hg,hop⟩:=opB_ok hS hst he hp
       unfold wpOp
       rw [h2]
       simp only
       rw [if_pos (by simp [Region.wanted,hg])]
       left
       refine hop ?_
       intro v w' ω' h3 h4 hsame
       have hsq:SQ KQ ω0 w w':=by
         intro k hk L hL
         obtain ⟨hf,hno⟩:=B.key k hk
         have hLω:(subω rs M ω (PR i)).β k none=some L:=by
           rw [sub_eq (fun h=>by have:=h.1;rw [hf] at this;cases this),I.β0 k none (fun _ _ _=>hf)];exact hL
         refine hsame L.b (g1.low _ _ _ hLω) fun k' hk' p L' hL' e=>?_
         obtain ⟨rfl,_⟩:=g1.inj _ _ _ _ _ _ hL' hLω e
         exact B.out _ hk' hk
       exact ph2C hS S hT hm hF hG hQp B htail w ω v w' ⟨hsq,ω',h3.ext,h3.mem,h4⟩ fuel listed a hs (by omega) I hpm
     · exfalso
       have:=hprer i hi m (hT i him hin m him)
       rw [hmL] at this
       cases this
end
end Go.Sy
