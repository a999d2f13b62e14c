/-
  Sy, part 13: calls.
-/
import Derived.Test.YtmieeldmfehpoaaGreatDoorYC
set_option linter.unusedVariables false
set_option linter.unusedSimpArgs false
set_option linter.unusedVariables false
set_option linter.unusedSimpArgs false
namespace Go.Sy
open Go.RowKit
/-! ### what is lent to be written -/
def mU:SV->List Nat
  | .ptr k _ _ _ _=> [k]
  | .pe k _ _ _ _ _ _=> [k]
  | .aV k _ _ _ _=> [k]
  | .sa k _ _ _ _ _=> [k]
  | .ag n f=>(List.range n).flatMap λj=>mU (f j)
  | .tp n f=>(List.range n).flatMap λj=>mU (f j)
  | .fn _ n f=>(List.range n).flatMap λj=>mU (f j)
  | .bm _ s=>mU s
  | .mv _ s=>mU s
  | .ic _ s=>mU s
  |_=> []
def reach (m:Nat->bk):Nat->List Nat->List Nat->List Nat
  |0,_,acc=>acc
  |_+1,[],acc=>acc
  |d+1,k::r,acc=>
   match cO acc k with
   |true=>reach m d r acc
   |false=>
    match (m k).b with
    | .cells l=>reach m d (l.flatMap mU++r) (acc++ [k])
    | .row _ _ _=>reach m d r (acc++ [k])
    | .dead=>reach m d r acc
def idx:List Nat->Nat->Option Nat
  | [],_=>none
  |x::r,k=>match Nat.beq x k with|true=>some 0|false=>match idx r k with|some q=>some (q+1)|none=>none
theorem kG: ∀{l:List Nat} {k q:Nat},idx l k=some q->l[q]? =some k
  | [],_,_,h=>by cases h
  |x::r,k,q,h=>by
   unfold idx at h
   split at h
   · next hb=>obtain rfl:=Option.some.inj h;simp[Nat.eq_of_beq_eq_true hb]
   · split at h
     · next q' hq=>obtain rfl:=Option.some.inj h;simpa using kG hq
     · cases h
theorem sn: ∀{l:List Nat} {k:Nat},idx l k=none->k∉l
  | [],_,_=>by simp
  |x::r,k,h=>by
   unfold idx at h
   split at h
   · cases h
   · next hb=>
     split at h
     · cases h
     · next hq=>simp[sn hq,Ne.symm (beq_false hb)]
def nodupB:List Nat->Bool
  | []=>true
  |x::r=>!cO r x&&nodupB r
theorem sb: ∀{l:List Nat},nodupB l=true->l.Nodup
  | [],_=>List.nodup_nil
  |x::r,h=>by
   simp only[nodupB,Bool.and_eq_true,Bool.not_eq_true']at h
   refine List.nodup_cons.2 ⟨λhm=>?_,sb h.2⟩
   rw[gC.2 hm]at h
   cases h.1
theorem uG {l:List Nat} (hl:l.Nodup) {k q:Nat} (h:l[q]? =some k):idx l k=some q:=by
  cases hi:idx l k with
  |none=>exact absurd (List.mem_of_getElem? h) (sn hi)
  |some q'=>
   have h':=kG hi
   obtain⟨J,U⟩:=List.getElem?_eq_some_iff.1 h
   obtain⟨h3,h4⟩:=List.getElem?_eq_some_iff.1 h'
   have:=(List.getElem_inj hl).1 (U.trans h4.symm)
   rw[this]
def kR (m:Nat->bk) (ks:List Nat):Nat->Nat->Path->Option (Nat×Nat):=λk s p=>
  match idx ks k with
  |some q=>match cC m k s p with|true=>some (q,0)|false=>none
  |none=>none
def iM (φ:Nat->Nat->Path->Option (Nat×Nat)) (d:Bool):bh->bh
  | .dead=> .dead
  | .cells l=> .cells (l.map λs=>da φ d s)
  | .row sz n f=> .row sz n λi j=>da φ d (f i j)
def whole (e:bk):Bool:=match e.hl,e.b with|_,.dead=>false|none,_=>true|some _,_=>false
theorem I3 {e:bk} (h:whole e=true):e.hl=none:=by
  unfold whole at h
  split at h
  · cases h
  · next hh _=>exact hh
  · cases h
theorem CD {e:bk} (h:whole e=true):e.b≠ .dead:=by
  intro hb
  unfold whole at h
  rw[hb]at h
  simp at h
def jx (ω:Ow) (ks:List Nat):Ow:=
  let β:Nat->Path->Option Loc:=λq p=>match ks[q]? with|some k=>ω.β k p|none=>none
  let A:Nat->Prop:=λb=> ∃q p L,β q p=some L/\L.b=b
  ⟨A,λb=>ω.Z b\/(ω.A b/\ ¬A b),β,λ_=>(0,0)⟩
section
variable {P:Program} {w:World} {ω:Ow} {ρ:Operand->SV} {M:Mem} {a:Act}
theorem vg {ks:List Nat} {q:Nat} {p:Path} {L:Loc} (h:(jx ω ks).β q p=some L): ∃k,ks[q]? =some k/\ω.β k p=some L:=by
  have h:(match ks[q]? with|some k=>ω.β k p|none=>none)=some L:=h
  split at h
  · next k hk=>exact⟨k,hk,h⟩
  · cases h
theorem mP (hm:aR w ω M) {ks:List Nat} {b:Nat} (h:(jx ω ks).A b):ω.A b/\ ∃k∈ks,∃p L,ω.β k p=some L/\L.b=b:=by
  obtain⟨q,p,L,J,U⟩:=h
  obtain⟨k,h3,h4⟩:=vg J
  exact⟨(hm.own b) ⟨k,p,L,h4,U⟩,k,List.mem_of_getElem? h3,p,L,h4,U⟩
theorem uH (hm:aR w ω M) (ks:List Nat):Ext w ω.bare w (jx ω ks).bare where
  os:=rfl
  tape:=rfl
  output:=rfl
  same:=λ_ _ _=>rfl
  free:=λb _ h h'=>h (mP hm h').1
  fZ:=λb _ h hz h'=>h'.elim hz λh''=>h h''.1
  size:=Nat.le_refl _
  mono:=λ_=>⟨Nat.le_refl _,Nat.le_refl _⟩
  lz:=λ_ _ _ h=>by cases h
  zs:=λ_ h=> .inl h
theorem Ky (hm:aR w ω M) (ks:List Nat):vP false w ω (jx ω ks):=by
  intro b q hb _ J U
  exact⟨λh=>J (mP hm h).1,λhq h=>h.elim (U hq) λh=>J h.1⟩
theorem Kx (hm:aR w ω M) (ks:List Nat):oZ ω (jx ω ks) (kR (ae M) ks):=by
  intro k s p k' s' h
  unfold kR at h
  split at h
  · next q hq=>
    split at h
    · next bC=>
      simp only[Option.some.injEq,Prod.mk.injEq]at h
      obtain⟨rfl,rfl⟩:=h
      refine⟨js hm bC,by cases p<;>rfl,?_⟩
      show(match ks[q]? with|some k=>ω.β k p|none=>none)=_
      rw[kG hq]
    · cases h
  · cases h
theorem RA {φ:Nat->Nat->Path->Option (Nat×Nat)} {d:Bool} {s:SV} (h:cM s=false):cM (da φ d s)=false:=by
  cases s with
  |il _ _ _=>cases h
  |ptr k s p i j=>simp only[da,gW];split<;>rfl
  |pe k s p i j len z=>simp only[da,gW];split<;>rfl
  |aV k s p e n=>simp only[da,gW];split<;>rfl
  |sa k s p i j n=>simp only[da,gW];split<;>rfl
  |pt q n f=>cases d<;>cases q<;>rfl
  |sl q sz n f=>cases d<;>cases q<;>rfl
  |pa q sz n f=>cases d<;>cases q<;>rfl
  |_=>rfl
theorem H9 {φ:Nat->Nat->Path->Option (Nat×Nat)} {d:Bool} {b:bh} {p:Path} {r:Row} (h:fC b p=some r): ∃r',fC (iM φ d b) p=some r'/\r'.sz=r.sz/\r'.n=r.n/\ ∀i j,i<r.n->j<r.sz->r'.f i j=da φ d (r.f i j):=by
  cases p with
  |none=>
   cases b with
   |dead=>cases h
   |cells l=>
    obtain rfl:=Option.some.inj h
    refine⟨_,rfl,by simp,rfl,λi j _ hj=>?_⟩
    have hj:j<l.length:=hj
    simp[aH,List.getD_eq_getElem?_getD,hj]
   |row sz n f=>
    obtain rfl:=Option.some.inj h
    exact⟨_,rfl,rfl,rfl,λ_ _ _ _=>rfl⟩
  |some ij=>
   obtain⟨i,j⟩:=ij
   cases b with
   |dead=>cases h
   |cells l=>cases h
   |row sz n f=>
    have h:inner ⟨sz,n,f⟩ i j=some r:=h
    unfold inner at h
    split at h
    · next bp n2 g hg=>
      obtain rfl:=Option.some.inj h
      have hg:f i j= .il bp n2 g:=hg
      refine⟨⟨bp,n2,λa b=>da φ d (g a b)⟩,?_,rfl,rfl,λ_ _ _ _=>rfl⟩
      show inner ⟨sz,n,λi j=>da φ d (f i j)⟩ i j=_
      unfold inner
      simp only[hg,da,gW]
    · cases h
theorem xx {w':World} {al:Ow} {φ:Nat->Nat->Path->Option (Nat×Nat)} {d:Bool} (kB: ∀{s:SV} {x:Value},Den w ω s x->Den w' al (da φ d s) x) {k k' i j:Nat} (cZ:al.β k' (some (i,j))=ω.β k (some (i,j))) {s:SV} {x:Value} (h:cF w ω none k i j s x):cF w' al none k' i j (da φ d s) x:=by
  cases hi:cM s with
  |false=>rw[fq hi]at h;rw[fq (RA hi)];exact kB h
  |true=>
   cases s with
   |il sz n g=>
    rcases h with h|⟨⟨q,cap,y1,y2,y3,y4⟩,U⟩
    · cases h
    · exact .inr ⟨⟨q,cap,y1,y2,y3,by rw[cZ];exact y4⟩,λL hL=>U L (by rw[<-cZ];exact hL)⟩
   |_=>cases hi
theorem Tn (hm:aR w ω M) {ks:List Nat} (pG:ks.Nodup) (hw: ∀k∈ks,whole (ae M k)=true):aR w (jx ω ks) (di 0 (ks.map λk=>iM (kR (ae M) ks) false (ae M k).b)) where
  cur:=(xG _).symm
  own:=λ_ h=>h
  d_:=λb h=>hm.d_ b (mP hm h).1
  dj:=λb h hz=>hz.elim (hm.dj b (mP hm h).1) λhz=>hz.2 h
  fD:=λb hz=>hz.elim (hm.fD b) λhz=>hm.d_ b hz.1
  inj:=λq p L q' p' L' J U e=>by
    obtain⟨k,e1,e2⟩:=vg J
    obtain⟨k',e3,e4⟩:=vg U
    obtain⟨rfl,rfl⟩:=hm.inj _ _ _ _ _ _ e2 e4 e
    have:=(uG pG e1).symm.trans (uG pG e3)
    exact⟨Option.some.inj this,rfl⟩
  low:=λq p L h=>by
    obtain⟨k,e1,e2⟩:=vg h
    exact hm.low _ _ _ e2
  row:=λq p L h=>by
    obtain⟨k,e1,e2⟩:=vg h
    obtain⟨r,g1,g2,g3,c,T,g4,g5,g6,g7⟩:=hm.row _ _ _ e2
    obtain⟨r',f1,f2,f3,f4⟩:=H9 (φ:=kR (ae M) ks) (d:=false) g1
    have he:ae (di 0 (ks.map λk=>iM (kR (ae M) ks) false (ae M k).b)) q=⟨0,0,none,iM (kR (ae M) ks) false (ae M k).b⟩:=by
      rw[kC,List.getElem?_map,e1];rfl
    refine⟨r',by unfold rowAt;rw[he];exact f1,f2.trans g2,f3.trans g3,c,T,g4,g5,g6,λi hi j hj=>?_⟩
    obtain⟨x,x1,x2⟩:=g7 i hi j hj
    refine⟨x,x1,?_⟩
    rw[f4 i j (by rw[g3];exact hi) (by rw[g2];exact hj),he]
    have kB: ∀{s:SV} {x:Value},Den w ω s x->Den w (jx ω ks) (da (kR (ae M) ks) false s) x:=λh=>xT (Kx hm ks) (λ_=>uH hm ks) (Ky hm ks) h
    cases p with
    |some _=>exact kB x2
    |none=>
     have jg:=I3 (hw k (List.mem_of_getElem? e1))
     rw[jg]at x2
     refine xx kB ?_ x2
     show(match ks[q]? with|some k=>ω.β k _|none=>none)=_
     rw[e1]
  live:=λq l h=>by
    rw[kC,List.getElem?_map]at h
    cases hq:ks[q]? with
    |none=>rw[hq]at h;cases h
    |some k=>
     rw[hq]at h
     have h:iM (kR (ae M) ks) false (ae M k).b= .cells l:=h
     cases hb:(ae M k).b with
     |dead=>rw[hb]at h;cases h
     |row _ _ _=>rw[hb]at h;cases h
     |cells l0=>
      obtain⟨L,hL⟩:=hm.live _ _ hb
      refine⟨L,?_⟩
      show(match ks[q]? with|some k=>ω.β k none|none=>none)=_
      rw[hq];exact hL
  eM:=λq i j h=>by
   rw[kC]at h
   split at h<;>cases h
/-! ### behind the call -/
def nY (ks:List Nat) (m:Nat->bk) (k:Nat):Nat×Nat:=
  match cO ks k with
  |true=>(match (m k).b with| .cells _=>(m k).rs|_=>(m k).rs+1,(m k).ds+1)
  |false=>((m k).rs,(m k).ds)
def pH (ig ks:List Nat) (m:Nat->bk):Nat->Nat->Path->Option (Nat×Nat):=λq s p=>
  match ig[q]? with
  |some k=>match Nat.beq s 0 with|true=>some (k,match p with|none=>(nY ks m k).1|some _=>(nY ks m k).2)|false=>none
  |none=>none
def gl (ks:List Nat) (m:Nat->bk) (φ:Nat->Nat->Path->Option (Nat×Nat)):List Nat->List bh->a_
  |k::r,b::t=>(k,⟨(nY ks m k).1,(nY ks m k).2,none,iM φ true b⟩)::gl ks m φ r t
  |_,_=> []
theorem lP {ks:List Nat} {m:Nat->bk} {φ:Nat->Nat->Path->Option (Nat×Nat)} {M:Mem}: ∀{ig:List Nat} {bs:List bh} {k q:Nat} {b:bh},idx ig k=some q->bs[q]? =some b->
    ae (gl ks m φ ig bs++M) k=⟨(nY ks m k).1,(nY ks m k).2,none,iM φ true b⟩
  | [],_,_,_,_,h,_=>by cases h
  |x::r,[],_,_,_,_,h=>by simp at h
  |x::r,c::t,k,q,b,h,hb=>by
   unfold idx at h
   split at h
   · next he=>
     obtain rfl:=Nat.eq_of_beq_eq_true he
     obtain rfl:=Option.some.inj h
     simp only[List.getElem?_cons_zero,Option.some.injEq]at hb
     subst hb
     exact c_
   · next he=>
     split at h
     · next q' hq=>
       obtain rfl:=Option.some.inj h
       simp only[List.getElem?_cons_succ]at hb
       rw[gl,List.cons_append,cB (beq_false he)]
       exact lP hq hb
     · cases h
theorem oG {ks:List Nat} {m:Nat->bk} {φ:Nat->Nat->Path->Option (Nat×Nat)} {M:Mem}: ∀{ig:List Nat} {bs:List bh} {k:Nat},idx ig k=none->ae (gl ks m φ ig bs++M) k=ae M k
  | [],_,_,_=>by simp[gl]
  |x::r,[],_,_=>by simp[gl]
  |x::r,c::t,k,h=>by
   have hn:=sn h
   simp only[List.mem_cons,not_or]at hn
   rw[gl,List.cons_append,cB (Ne.symm hn.1)]
   refine oG ?_
   cases hi:idx r k with
   |none=>rfl
   |some q=>exact absurd (List.mem_of_getElem? (kG hi)) hn.2
theorem qU {l:List Nat} {k q:Nat} (h:idx l k=some q):q<l.length:=(List.getElem?_eq_some_iff.1 (kG h)).1
def pI (ω al:Ow) (ks ig:List Nat) (M':Mem):Ow:=
  let β:Nat->Path->Option Loc:=λk p=>match idx ig k with|some q=>al.β q p|none=>ω.β k p
  ⟨λb=>al.A b\/(ω.A b/\ ¬(jx ω ks).A b),ω.Z,β,dG M'⟩
theorem tz {al:Ow} {ks ig:List Nat} {M':Mem} {k:Nat} {p:Path} {L:Loc} (h:(pI ω al ks ig M').β k p=some L):(∃q,idx ig k=some q/\al.β q p=some L)\/(idx ig k=none/\ω.β k p=some L):=by
  have h:(match idx ig k with|some q=>al.β q p|none=>ω.β k p)=some L:=h
  split at h
  · next q hq=>exact .inl ⟨q,hq,h⟩
  · next hq=>exact .inr ⟨hq,h⟩
structure gL (w:World) (ω:Ow) (M:Mem) (ks ns:List Nat) (bf:List bh) (w':World) (al:Ow):Prop where
  hm:aR w ω M
  nd:(ks++ns).Nodup
  wh: ∀k∈ks,whole (ae M k)=true
  fr: ∀k∈ns,cv (ae M) k=true
  len:bf.length=(ks++ns).length
  iJ:FN w (jx ω ks) w' al
  mem:aR w' al (di 0 bf)
  keep: ∀q k l,ks[q]? =some k->(ae M k).b= .cells l->al.β q none=ω.β k none
section
variable {ks ns:List Nat} {bf:List bh} {w':World} {al:Ow}
theorem gL.apart (h:gL w ω M ks ns bf w' al) {k:Nat} {p:Path} {L:Loc} (hk:idx (ks++ns) k=none) (hL:ω.β k p=some L): ¬(jx ω ks).A L.b:=by
  intro hA
  obtain⟨k',fH,p',L',J,U⟩:=(mP h.hm hA).2
  obtain⟨rfl,_⟩:=h.hm.inj _ _ _ _ _ _ J hL U
  exact sn hk (List.mem_append_left _ fH)
theorem gL.free (h:gL w ω M ks ns bf w' al) {k:Nat} {p:Path} {L:Loc} (hk:idx (ks++ns) k=none) (hL:ω.β k p=some L): ¬al.A L.b:=h.iJ.free _ (h.hm.low _ _ _ hL) (h.apart hk hL)
theorem gL.lD (h:gL w ω M ks ns bf w' al) {q:Nat} (hq:q<(ks++ns).length): ∃b,bf[q]? =some b:=⟨_,List.getElem?_eq_getElem (h.len▸hq)⟩
theorem gL.new (h:gL w ω M ks ns bf w' al) {k:Nat} (hk:k∈ns) (p:Path):ω.β k p=none:=(jZ h.hm (h.fr k hk)).2.2 p
variable (ig:List Nat) (rX:ig=ks++ns)
theorem gL.ext (h:gL w ω M ks ns bf w' al) (φ:Nat->Nat->Path->Option (Nat×Nat)):Ext w ω w' (pI ω al ks (ks++ns) (gl ks (ae M) φ (ks++ns) bf++M)) where
  os:=h.iJ.os
  tape:=h.iJ.tape
  output:=h.iJ.output
  same:=λb hb hn=>h.iJ.same b hb λh'=>hn (mP h.hm h').1
  free:=λb hb hn h'=>by
    rcases h' with h'|h'
    · exact h.iJ.free b hb (λh'=>hn (mP h.hm h').1) h'
    · exact hn h'.1
  fZ:=λb _ _ hz=>hz
  size:=h.iJ.size
  zs:=λ_ h=>h
  mono:=λk=>by
    rw[h.hm.cur]
    show(dG M k).1<=(dG _ k).1/\(dG M k).2<=(dG _ k).2
    unfold dG
    cases hi:idx (ks++ns) k with
    |none=>rw[oG hi];exact⟨Nat.le_refl _,Nat.le_refl _⟩
    |some q=>
     obtain⟨b,hb⟩:=h.lD (qU hi)
     rw[lP hi hb]
     simp only[nY]
     split
     · split<;>simp
     · simp
  lz:=λk p L hL bH=>by
   show(match idx (ks++ns) k with|some q=>al.β q p|none=>ω.β k p)=some L
   cases hi:idx (ks++ns) k with
   |none=>exact hL
   |some q=>
    obtain⟨b,hb⟩:=h.lD (qU hi)
    have hg:=kG hi
    rcases Nat.lt_or_ge q ks.length with hq|hq
    · rw[List.getElem?_append_left hq]at hg
      have bT:=gC.2 (List.mem_of_getElem? hg)
      rw[h.hm.cur]at bH
      have tm:(pI ω al ks (ks++ns) (gl ks (ae M) φ (ks++ns) bf++M)).cur=dG (gl ks (ae M) φ (ks++ns) bf++M):=rfl
      rw[tm]at bH
      cases p with
      |some ij=>
       have bH:(ae (gl ks (ae M) φ (ks++ns) bf++M) k).ds=(ae M k).ds:=bH
       rw[lP hi hb]at bH
       simp only[nY,bT]at bH
       omega
      |none=>
       have bH:(ae (gl ks (ae M) φ (ks++ns) bf++M) k).rs=(ae M k).rs:=bH
       rw[lP hi hb]at bH
       simp only[nY,bT]at bH
       cases jD:(ae M k).b with
       |dead=>exact absurd jD (CD (h.wh k (List.mem_of_getElem? hg)))
       |row _ _ _=>rw[jD]at bH;simp only at bH;omega
       |cells l=>exact(h.keep q k l hg jD).trans hL
    · rw[List.getElem?_append_right hq]at hg
      rw[h.new (List.mem_of_getElem? hg)]at hL
      cases hL
theorem gL.ref (h:gL w ω M ks ns bf w' al) (φ:Nat->Nat->Path->Option (Nat×Nat)):oZ al (pI ω al ks (ks++ns) (gl ks (ae M) φ (ks++ns) bf++M)) (pH (ks++ns) ks (ae M)):=by
  intro q s p k' s' he
  unfold pH at he
  split at he
  · next k hk=>
    split at he
    · next hs=>
      simp only[Option.some.injEq,Prod.mk.injEq]at he
      obtain⟨rfl,rfl⟩:=he
      have hi:=uG h.nd hk
      obtain⟨b,hb⟩:=h.lD (qU hi)
      refine⟨?_,?_,?_⟩
      · rw[Nat.eq_of_beq_eq_true hs,h.mem.cur,xG];cases p<;>rfl
      · show _=st (dG _) k p
        cases p with
        |none=>show _=(ae _ k).rs;rw[lP hi hb]
        |some _=>show _=(ae _ k).ds;rw[lP hi hb]
      · show(match idx (ks++ns) k with|some q=>al.β q p|none=>ω.β k p)=_
        rw[hi]
    · cases he
  · cases he
theorem gL.ro (h:gL w ω M ks ns bf w' al) (M':Mem):vP true w' al (pI ω al ks (ks++ns) M'):=by
  intro b q hb hq J U
  obtain rfl:=hq rfl
  have hz: ¬(jx ω ks).Z b:=λhz=>U rfl (h.iJ.fZ b hz)
  refine⟨?_,λ_ rv=>hz (.inl rv)⟩
  rintro (h3|h3)
  · exact J h3
  · exact hz (.inr h3)
theorem gL.den (h:gL w ω M ks ns bf w' al) (φ:Nat->Nat->Path->Option (Nat×Nat)) {s:SV} {u:Value} (hd:Den w' al s u):Den w' (pI ω al ks (ks++ns) (gl ks (ae M) φ (ks++ns) bf++M)) (da (pH (ks++ns) ks (ae M)) true s) u:=xT (d:=true) (h.ref φ) (λe=>by cases e) (h.ro _) hd
theorem gL.back (h:gL w ω M ks ns bf w' al):aR w' (pI ω al ks (ks++ns) (gl ks (ae M) (pH (ks++ns) ks (ae M)) (ks++ns) bf++M)) (gl ks (ae M) (pH (ks++ns) ks (ae M)) (ks++ns) bf++M) where
  cur:=rfl
  own:=by
    rintro b ⟨k,p,L,J,rfl⟩
    rcases tz J with⟨q,g1,g2⟩|⟨g1,g2⟩
    · exact .inl (h.mem.own _ ⟨q,p,L,g2,rfl⟩)
    · exact .inr ⟨h.hm.own _ ⟨k,p,L,g2,rfl⟩,h.apart g1 g2⟩
  d_:=λb hb=>hb.elim (h.mem.d_ b) λhb=>Nat.lt_of_lt_of_le (h.hm.d_ b hb.1) h.iJ.size
  dj:=λb hb hz=>hb.elim (λhb=>h.mem.dj b hb (h.iJ.fZ b (.inl hz))) λhb=>h.hm.dj b hb.1 hz
  fD:=λb hz=>Nat.lt_of_lt_of_le (h.hm.fD b hz) h.iJ.size
  inj:=λk p L k' p' L' J U e=>by
    rcases tz J with⟨q,g1,g2⟩|⟨g1,g2⟩<;>rcases tz U with⟨q',g3,g4⟩|⟨g3,g4⟩
    · obtain⟨rfl,rfl⟩:=h.mem.inj _ _ _ _ _ _ g2 g4 e
      exact⟨Option.some.inj ((kG g1).symm.trans (kG g3)),rfl⟩
    · exact absurd ((h.mem.own _) ⟨_,_,_,g2,e⟩) (h.free g3 g4)
    · exact absurd ((h.mem.own _) ⟨_,_,_,g4,e.symm⟩) (h.free g1 g2)
    · exact h.hm.inj _ _ _ _ _ _ g2 g4 e
  low:=λk p L J=>by
    rcases tz J with⟨q,g1,g2⟩|⟨g1,g2⟩
    · exact h.mem.low _ _ _ g2
    · exact Nat.lt_of_lt_of_le (h.hm.low _ _ _ g2) h.iJ.size
  row:=λk p L J=>by
    rcases tz J with⟨q,g1,g2⟩|⟨g1,g2⟩
    · obtain⟨b,hb⟩:=h.lD (qU g1)
      obtain⟨r,e1,e2,e3,c,T,e4,e5,e6,e7⟩:=h.mem.row _ _ _ g2
      have he:ae (di 0 bf) q=⟨0,0,none,b⟩:=by rw[kC,hb]
      unfold rowAt at e1
      rw[he]at e1 e7
      obtain⟨r',f1,f2,f3,f4⟩:=H9 (φ:=pH (ks++ns) ks (ae M)) (d:=true) e1
      refine⟨r',by unfold rowAt;rw[lP g1 hb];exact f1,f2.trans e2,f3.trans e3,c,T,e4,e5,e6,λi hi j hj=>?_⟩
      obtain⟨x,x1,x2⟩:=e7 i hi j hj
      refine⟨x,x1,?_⟩
      rw[f4 i j (by rw[e3];exact hi) (by rw[e2];exact hj),lP g1 hb]
      cases p with
      |some _=>exact h.den _ x2
      |none=>
       refine xx (λhd=>h.den _ hd) ?_ x2
       show(match idx (ks++ns) k with|some q=>al.β q _|none=>ω.β k _)=_
       rw[g1]
    · obtain⟨r,e1,e2,e3,e4⟩:=h.hm.row _ _ _ g2
      refine⟨r,by unfold rowAt;rw[oG g1];exact e1,e2,e3,?_⟩
      rw[oG g1]
      refine ma.ext (h.ext _) ?_ ?_ ?_ e4
      · rw[h.hm.cur]
        show(ae _ k).ds=(ae M k).ds
        rw[oG g1]
      · intro q
        show(match idx (ks++ns) k with|some q'=>al.β q' q|none=>ω.β k q)=_
        rw[g1]
      · exact h.iJ.same _ (h.hm.low _ _ _ g2) (h.apart g1 g2)
  live:=λk l hl=>by
    show∃L,(match idx (ks++ns) k with|some q=>al.β q none|none=>ω.β k none)=some L
    cases hi:idx (ks++ns) k with
    |none=>rw[oG hi]at hl;exact h.hm.live _ _ hl
    |some q=>
     obtain⟨b,hb⟩:=h.lD (qU hi)
     rw[lP hi hb]at hl
     have hl:iM _ true b= .cells l:=hl
     cases b with
     |dead=>cases hl
     |row _ _ _=>cases hl
     |cells l0=>exact h.mem.live q l0 (by rw[kC,hb])
  eM:=λk i j hh=>by
   show(match idx (ks++ns) k with|some q=>al.β q _|none=>ω.β k _)=none
   cases hi:idx (ks++ns) k with
   |none=>rw[oG hi]at hh;exact h.hm.eM _ _ _ hh
   |some q=>
    obtain⟨b,hb⟩:=h.lD (qU hi)
    rw[lP hi hb]at hh
    cases hh
end
end
end Go.Sy
set_option linter.unusedVariables false
set_option linter.unusedSimpArgs false
namespace Go.Sy
open Go.RowKit
def fh {α:Type} (n:Nat) (k:Nat->α):α:=match n with|0=>k 0|m+1=>k (m+1)
theorem jK {α:Type} (n:Nat) (k:Nat->α):fh n k=k n:=by cases n<;>rfl
def fP {α:Type} (p:Path) (k:Path->α):α:=match p with|none=>k none|some (i,j)=>k (some (i,j))
theorem OO {α:Type} (p:Path) (k:Path->α):fP p k=k p:=by cases p with|none=>rfl|some ij=>cases ij;rfl
def fV {α:Type} (x:Value) (k:Value->α):α:=
  match x with
  | .int a z=>k (.int a z)
  | .bool b=>k (.bool b)
  |x=>k x
theorem YR {α:Type} (x:Value) (k:Value->α):fV x k=k x:=by cases x<;>rfl
def tN {α:Type} (s:SV) (k:SV->α):α:=
  match s with
  | .ptr q st p i j=>fh q λq=>fh st λst=>fP p λp=>k (.ptr q st p i j)
  | .pe q st p i j l z=>fh q λq=>fh st λst=>fP p λp=>k (.pe q st p i j l z)
  | .aV q st p e n=>fh q λq=>fh st λst=>fP p λp=>k (.aV q st p e n)
  | .sa q st p i j n=>fh q λq=>fh st λst=>fP p λp=>k (.sa q st p i j n)
  | .v x=>fV x λx=>k (.v x)
  | .pt q n f=>k (.pt q n f)
  | .ag n f=>k (.ag n f)
  |s=>k s
theorem yS {α:Type} (s:SV) (k:SV->α):tN s k=k s:=by
  cases s<;>simp only[tN,jK,OO,YR]
def vS {α:Type}:List SV->(List SV->α)->α
  | [],k=>k []
  |s::r,k=>tN s λs=>vS r λr=>k (s::r)
theorem CI {α:Type}: ∀(l:List SV) (k:List SV->α),vS l k=k l
  | [],_=>rfl
  |s::r,k=>by simp only[vS,yS,CI r]
def Ad {α:Type} (b:bh) (k:bh->α):α:=
  match b with
  | .dead=>k .dead
  | .cells l=>vS l λl=>k (.cells l)
  | .row sz n f=>fh sz λsz=>k (.row sz n f)
theorem Kw {α:Type} (b:bh) (k:bh->α):Ad b k=k b:=by
  cases b<;>simp only[Ad,jK,CI]
def zy {α:Type}:List bh->(List bh->α)->α
  | [],k=>k []
  |b::r,k=>Ad b λb=>zy r λr=>k (b::r)
theorem I5 {α:Type}: ∀(l:List bh) (k:List bh->α),zy l k=k l
  | [],_=>rfl
  |s::r,k=>by simp only[zy,Kw,I5 r]
def qT {α:Type}:List Nat->(List Nat->α)->α
  | [],k=>k []
  |b::r,k=>fh b λb=>qT r λr=>k (b::r)
theorem BZ {α:Type}: ∀(l:List Nat) (k:List Nat->α),qT l k=k l
  | [],_=>rfl
  |s::r,k=>by simp only[qT,jK,BZ r]
def qA {α:Type}:List (List Nat)->(List (List Nat)->α)->α
  | [],k=>k []
  |b::r,k=>qT b λb=>qA r λr=>k (b::r)
theorem uv {α:Type}: ∀(l:List (List Nat)) (k:List (List Nat)->α),qA l k=k l
  | [],_=>rfl
  |s::r,k=>by simp only[qA,BZ,uv r]
def AY {α:Type}:List (Nat×SV)->(List (Nat×SV)->α)->α
  | [],k=>k []
  |p::r,k=>fh p.1 λa=>tN p.2 λb=>AY r λr=>k ((a,b)::r)
theorem Mv {α:Type}: ∀(l:List (Nat×SV)) (k:List (Nat×SV)->α),AY l k=k l
  | [],_=>rfl
  |s::r,k=>by simp only[AY,jK,yS,Mv r]
end Go.Sy
set_option linter.unusedVariables false
set_option linter.unusedSimpArgs false
namespace Go.Sy
open Go.RowKit
def vt (m:Nat->bk) (ks:List Nat):List Bool->List SV->List SV
  |_,[]=> []
  | [],s::r=>ro true 12 m ks s::vt m ks [] r
  |b::t,s::r=>(match b with|true=>da (kR m ks) false s|false=>ro true 12 m ks s)::vt m ks t r
def oP:List Bool->List SV->List Nat
  |true::t,s::r=>mU s++oP t r
  |false::t,_::r=>oP t r
  |_,_=> []
def My (n:Nat) (m:Nat->bk):List SV->Option (Prop×SV×a_)
  | [.ptr k s p i j]=>match cC m k s p with|true=>some (True,.ptr k s p i (j+n),[])|false=>none
  |_=>none
def xV (Γ:Table) (m:Nat->bk) (nx id:Nat) (as:List SV):Option (Prop×SV×a_):=
  match Γ id with
  |some c=>
   match c.pj with
   |some n=>My n m as
   |none=>
   let ks:=reach m 64 (oP c.ws as) []
   match (vS (vt m ks c.ws as) λl=>zy (ks.map λk=>iM (kR m ks) false (m k).b) λb=>c.g l b)with
   |some (pre,res,bf)=>
    let ns:=(List.range (bf.length -ks.length)).map λq=>nx+q
    match nodupB (ks++ns),ks.all λk=>whole (m k),ns.all λk=>cv m k,Nat.ble ks.length bf.length with
    |true,true,true,true=>some (pre,da (pH (ks++ns) ks m) true res,gl ks m (pH (ks++ns) ks m) (ks++ns) bf)
    |_,_,_,_=>none
   |none=>none
  |none=>none
def so (m:Nat->bk) (r:Nat):List Bool->List SV->Option (List SV×a_)
  |b::t,s::l=>
   match b,ve m r s with
   |true,some x=>some (x.1::l,x.2)
   |_,_=>match so m r t l with|some x=>some (s::x.1,x.2)|none=>none
  |_,_=>none
def yp (Γ:Table) (m:Nat->bk) (nx id:Nat) (as:List SV):Option (Prop×SV×a_):=
  match Γ id with
  |some c=>
   match so m (nx+60) c.ws as with
   |some x=>match xV Γ (ov x.2 m) nx id x.1 with|some y=>some (y.1,y.2.1,y.2.2++x.2)|none=>none
   |none=>xV Γ m nx id as
  |none=>none
def I4 (ρ:Operand->SV) (f:Operand) (args:List Operand):Option (Nat×List SV):=
  match ρ f with
  | .fn id n fv=>some (id,args.map ρ++(List.range n).map fv)
  | .bm id s=>some (id,s::args.map ρ)
  |_=>none
def yR (Γ:Table) (ρ:Operand->SV) (m:Nat->bk) (nx:Nat) (f:Operand) (args:List Operand):Option (Prop×SV×a_):=
  match I4 ρ f args with
  |some (id,as)=>yp Γ m nx id as
  |none=>none
section
variable {P:Program} {w:World} {ω:Ow} {ρ:Operand->SV} {M:Mem} {a:Act} {Gl:Nat->SV} {Γ:Table}
def xU (P:Program) (Γ:Table) (ρ:Operand->SV) (m:Nat->bk) (nx:Nat) (r:Operand) (name:String) (args:List Operand):Option (Prop×SV×a_):=
  match ρ r with
  | .ic t s=>match vf P t name with|some id=>yp Γ m nx id (s::args.map ρ)|none=>none
  |_=>none
theorem BG (hm:aR w ω M) (ks:List Nat): ∀{ws:List Bool} {ss:List SV} {us:List Value},bX w ω ss us->bX w (jx ω ks) (vt (ae M) ks ws ss) us
  |_,[],[],_=>by simp[vt,bX]
  | [],s::r,u::t,⟨J,U⟩=>⟨(lh (al:=jx ω ks) hm (λb hb=>(mP hm hb).2) (uH hm ks) (qq:=true) (λe=>by cases e) 12 J).up,BG hm ks U⟩
  |b::t',s::r,u::t,⟨J,U⟩=>by
   refine⟨?_,BG hm ks U⟩
   cases b with
   |true=>exact xT (Kx hm ks) (λ_=>uH hm ks) (Ky hm ks) J
   |false=>exact(lh (al:=jx ω ks) hm (λb hb=>(mP hm hb).2) (uH hm ks) (qq:=true) (λe=>by cases e) 12 J).up
  |_,[],_::_,h=>h.elim
  | [],_::_,[],h=>h.elim
  |_::_,_::_,[],h=>h.elim
def OP (ω:Ow) (κ:List Nat) (w w':World):Prop:= ∀b,b<w.heap.size->(∀k∈κ,∀p L,ω.β k p=some L->L.b≠b)->w'.heap[b]? =w.heap[b]?
def qD (P:Program) (w:World) (ω:Ow) (M:Mem) (id:Nat) (vs:Array Value) (s:SV) (u:a_):Prop:=
  Calls P id vs w λe w'=> ∃v al,e= .returned v/\bz w ω M w' al (u++M)/\Den w' al s v/\(iY (ae M) u=true->iT w ω w' al (λk=>k∈u.map (·.1)))/\OP ω (u.map (·.1)) w w'
theorem B4 {ks:List Nat} {m:Nat->bk} {φ:Nat->Nat->Path->Option (Nat×Nat)}: ∀{ig:List Nat} {bs:List bh},bs.length=ig.length->(gl ks m φ ig bs).map (·.1)=ig
  | [],bs,_=>by simp[gl]
  |k::r,[],h=>by simp at h
  |k::r,b::t,h=>by simp[gl,B4 (by simpa using h)]
theorem gL.YQ {ks ns:List Nat} {bf:List bh} {w':World} {al:Ow} (h:gL w ω M ks ns bf w' al) (φ:Nat->Nat->Path->Option (Nat×Nat)) (hf:iY (ae M) (gl ks (ae M) φ (ks++ns) bf)=true):
    iT w ω w' (pI ω al ks (ks++ns) (gl ks (ae M) φ (ks++ns) bf++M)) (λk=>k∈(gl ks (ae M) φ (ks++ns) bf).map (·.1)):=by
  have vu:=B4 (ks:=ks) (m:=ae M) (φ:=φ) h.len
  have gX: ∀k∈ks++ns,cv (ae M) k=true:=by
    intro k hk
    rw[<-vu,List.mem_map]at hk
    obtain⟨p,hp,rfl⟩:=hk
    exact List.all_eq_true.1 hf p hp
  have lF:ks= []:=by
    cases ks with
    |nil=>rfl
    |cons k r=>
     exfalso
     exact CD (h.wh k (by simp)) ((jZ h.hm (gX k (by simp))).1)
  subst lF
  have cP: ∀b,¬(jx ω []).A b:=by
    rintro b ⟨q,p,L,J,_⟩
    simp at J
  rw[vu]
  refine⟨⟨h.iJ.os,h.iJ.tape,h.iJ.output,h.iJ.size,λb hb=>h.iJ.same b hb (cP b)⟩,λb hb=> .inr ⟨hb,cP b⟩,rfl,λk p hk=>?_,λk p L hk hL=>?_,?_⟩
  · show(match idx ([]++ns) k with|some q=>al.β q p|none=>ω.β k p)=_
    cases hi:idx ([]++ns) k with
    |none=>rfl
    |some q=>exact absurd (List.mem_of_getElem? (kG hi)) hk
  · rcases tz hL with⟨q,_,h3⟩|⟨hi,_⟩
    · rcases Nat.lt_or_ge L.b w.heap.size with ai|bo
      · exact absurd (h.mem.own _ ⟨q,p,L,h3,rfl⟩) (h.iJ.free _ ai (cP _))
      · exact bo
    · exact absurd hk (sn hi)
  · rw[h.hm.cur]
    show dG _=dG M
    funext k
    unfold dG
    cases hi:idx ([]++ns) k with
    |none=>rw[oG hi]
    |some q=>
     obtain⟨b,hb⟩:=h.lD (qU hi)
     rw[lP hi hb]
     rfl
theorem H8 (hS:Sound P Gl Γ) (hG: ∀g,Den w ω.bare (Gl g) (.pointer (some ⟨g,0,none⟩))) (hm:aR w ω M) {nx id:Nat} {as:List SV} {pr:Prop} {s:SV} {u:a_} (he:xV Γ (ae M) nx id as=some (pr,s,u)) (hp:pr)
    {vs:Array Value} (hd:bX w ω as vs.toList):qD P w ω M id vs s u/\ ∃c,Γ id=some c:=by
  unfold xV at he
  simp only[CI,I5]at he
  split at he
  · next c hc=>
    split at he
    · next n hn=>
      refine⟨?_,c,hc⟩
      unfold My at he
      split at he
      · next k s0 p i j=>
        split at he
        · next hk=>
          simp only[Option.some.injEq,Prod.mk.injEq]at he
          obtain⟨rfl,rfl,rfl⟩:=he
          match hvs:vs.toList,hd with
          | [u],⟨J,_⟩=>
            obtain⟨U,L,h3,h4,rfl⟩:=fS hm hk J
            obtain rfl:vs= #[.pointer (some ⟨L.b,L.o+i*L.sz+j,none⟩)]:=by rw[<-Array.toList_inj,hvs]
            refine(hS.pj id c n hc hn _ w).mono ?_
            rintro e w' ⟨rfl,iS⟩
            have hx:=bz.more hm iS
            have kh:Den w' ω (.ptr k s0 p i (j+n)) (.pointer (some ⟨L.b,L.o+i*L.sz+(j+n),none⟩)):= .inr ⟨U,L,h3,h4,rfl⟩
            rw[ju]
            refine⟨_,ω,rfl,hx,by rw[Nat.add_assoc];exact kh,λ_=>⟨iS,λ_ h=>h,rfl,λ_ _ _=>rfl,λk p L hk=>by simp at hk,rfl⟩,λb hb _=>iS.2.2.2.2 b hb⟩
        · cases he
      · cases he
    try simp only at he
    split at he
    · next pre res bf hg=>
      split at he
      · next J U h3 h4=>
        simp only[Option.some.injEq,Prod.mk.injEq]at he
        obtain⟨rfl,rfl,rfl⟩:=he
        refine⟨?_,c,hc⟩
        have pG:=sb J
        have AM: ∀k∈reach (ae M) 64 (oP c.ws as) [],whole (ae M k)=true:=λk hk=>List.all_eq_true.1 U k hk
        have jh: ∀k∈(List.range (bf.length -(reach (ae M) 64 (oP c.ws as) []).length)).map (λq=>nx+q),cv (ae M) k=true:=λk hk=>List.all_eq_true.1 h3 k hk
        have hlen:bf.length=(reach (ae M) 64 (oP c.ws as) []++(List.range (bf.length -(reach (ae M) 64 (oP c.ws as) []).length)).map (λq=>nx+q)).length:=by
          have:=Nat.le_of_ble_eq_true h4
          simp;omega
        generalize lF:reach (ae M) 64 (oP c.ws as) []=ks at*
        generalize hns:(List.range (bf.length -ks.length)).map (λq=>nx+q)=ns at*
        have mw:=hS.fn id c _ _ _ _ _ hc hg hp w (jx ω ks) vs (λg=>Den.ext (o:=ω.bare) (uH hm ks) (hG g)) (Tn hm ((List.nodup_append.1 pG).1) AM) (BG hm ks hd)
        refine mw.mono ?_
        rintro e w' ⟨v,al,rfl,ha,eh,hr,hk⟩
        have hb:gL w ω M ks ns bf w' al:=⟨hm,pG,AM,jh,hlen,ha,eh,λq k l hq hl=>by
          rw[hk q (l.map λs=>da (kR (ae M) ks) false s) (by rw[List.getElem?_map,hq];simp[hl,iM])]
          show(match ks[q]? with|some k=>ω.β k none|none=>none)=_
          rw[hq]⟩
        exact⟨v,_,rfl,⟨hb.ext _,hb.back⟩,hb.den _ hr,λhf=>hb.YQ _ hf,λb wO hk=>ha.same b wO λhA=>by
          obtain⟨_,k,fH,p,L,g1,g2⟩:=mP hm hA
          exact hk k (by rw[B4 hb.len];exact List.mem_append_left _ fH) p L g1 g2⟩
      · cases he
    · cases he
  · cases he
theorem G4 (hm:aR w ω M) {r:Nat}: ∀{ws:List Bool} {l l':List SV} {u:a_} {xs:List Value},bX w ω l xs->so (ae M) r ws l=some (l',u)-> ∃al,bz w ω M w al (u++M)/\bX w al l' xs/\iY (ae M) u=false/\(∀k' p L,al.β k' p=some L->ω.β k' p=some L\/ ∃k∈u.map (·.1),∃p0,ω.β k p0=some L)
  |b::t,s::l,l',u,[],hd,he=>hd.elim
  |b::t,s::l,l',u,x::xs,⟨J,U⟩,he=>by
   unfold so at he
   split at he
   · next y hy=>
     simp only[Option.some.injEq,Prod.mk.injEq]at he
     obtain⟨rfl,rfl⟩:=he
     obtain⟨al,s1,d1,f1,b1⟩:=Vl hm J hy
     exact⟨al,s1,⟨d1,U.ext s1.ext⟩,f1,b1⟩
   · split at he
     · next y hy=>
       simp only[Option.some.injEq,Prod.mk.injEq]at he
       obtain⟨rfl,rfl⟩:=he
       obtain⟨al,s1,d1,f1,b1⟩:=G4 hm U hy
       exact⟨al,s1,⟨J.ext s1.ext,d1⟩,f1,b1⟩
     · cases he
  | [],_,_,_,_,_,he=>by unfold so at he;cases he
  |_::_,[],_,_,_,_,he=>by unfold so at he;cases he
theorem B5 (hS:Sound P Gl Γ) (hG: ∀g,Den w ω.bare (Gl g) (.pointer (some ⟨g,0,none⟩))) (hm:aR w ω M) {nx id:Nat} {as:List SV} {pr:Prop} {s:SV} {u:a_} (he:yp Γ (ae M) nx id as=some (pr,s,u)) (hp:pr)
    {vs:Array Value} (hd:bX w ω as vs.toList):qD P w ω M id vs s u/\ ∃c,Γ id=some c:=by
  unfold yp at he
  split at he
  · next c hc=>
    split at he
    · next x hx=>
      split at he
      · next y hy=>
        simp only[Option.some.injEq,Prod.mk.injEq]at he
        obtain⟨rfl,rfl,rfl⟩:=he
        obtain⟨bY,s1,d1,f1,b1⟩:=G4 hm hd hx
        rw[lj]at hy
        obtain⟨J,U⟩:=H8 hS (λg=>Den.ext (o:=ω.bare) s1.ext.bare (hG g)) s1.mem hy hp d1
        refine⟨?_,U⟩
        unfold qD at J⊢
        refine J.mono ?_
        rintro e w' ⟨v,al,rfl,h3,h4,_,h5⟩
        refine⟨v,al,rfl,?_,h4,λhf=>?_,λb wO hk=>?_⟩
        · rw[List.append_assoc];exact s1.trans h3
        · have hf:iY (ae M) (y.2.2++x.2)=true:=hf
          unfold iY at hf f1
          rw[List.all_append,f1,Bool.and_false]at hf
          cases hf
        · refine h5 b wO λk fH p L hL e=>?_
          rcases b1 k p L hL with h|⟨k0,Qo,p0,h⟩
          · exact hk k (by rw[List.map_append];exact List.mem_append_left _ fH) p L h e
          · exact hk k0 (by rw[List.map_append];exact List.mem_append_right _ Qo) p0 L h e
      · cases he
    · exact H8 hS hG hm he hp hd
  · cases he
theorem DE (h: ∀x,Den w ω (ρ x) (a.eval x)) (args:List Operand):bX w ω (args.map ρ) (args.map a.eval):=by
  induction args with
  |nil=>trivial
  |cons x r ih=>exact⟨h x,ih⟩
theorem W0 {n:Nat} {fv:Nat->SV} {cs:Array Value} (hn:cs.size=n) (hj: ∀j,j<n-> ∃x,cs[j]? =some x/\Den w ω (fv j) x):bX w ω ((List.range n).map fv) cs.toList:=by
  refine bX.mk (by simp[hn]) λi hi=>?_
  have gR:i<n:=by simpa using hi
  obtain⟨x,J,U⟩:=hj i gR
  refine⟨x,by simpa using J,?_⟩
  rw[List.getD_eq_getElem?_getD,List.getElem?_map,List.getElem?_range gR]
  exact U
def vq (P:Program) (w:World) (ω:Ow) (M:Mem) (a:Act) (o:Oper) (s:SV) (u:a_):Prop:=
  ∃id vs,(execOp a.eval o).run P w= .ok (.enter id vs) w/\qD P w ω M id vs s u
theorem I6 {o:Oper} {f:Operand} {args:Array Operand} {ts:Array TypeId} (ho:o.op= .call {callee:= .value f,args:=args,argTypes:=ts}) {id:Nat} {fs cs:Array Value} (hf:a.eval f= .func (.func id) fs cs)
    (hc: ∀(l:Array Value) (w:World),(callFunc id l).run P w= .ok (.enter id l) w):(execOp a.eval o).run P w= .ok (.enter id (fs++args.map a.eval++cs)) w:=by
  simp[execOp,ho,resolve,hf,Deferred.ofValue,invoke,hc,Result.andThen]
theorem CB (hS:Sound P Gl Γ) (hG: ∀g,Den w ω.bare (Gl g) (.pointer (some ⟨g,0,none⟩))) (h:Cx P w ω ρ M a) {o:Oper} {f:Operand} {args:Array Operand} {ts:Array TypeId} (ho:o.op= .call {callee:= .value f,args:=args,argTypes:=ts})
    {nx:Nat} {pr:Prop} {s:SV} {u:a_} (he:yR Γ ρ (ae M) nx f args.toList=some (pr,s,u)) (hp:pr):vq P w ω M a o s u:=by
  unfold yR at he
  split at he
  · next id as hc=>
    have hf:=h.val f
    unfold I4 at hc
    split at hc
    · next wH n fv hs=>
      simp only[Option.some.injEq,Prod.mk.injEq]at hc
      obtain⟨rfl,rfl⟩:=hc
      rw[hs]at hf
      obtain⟨cs,ef,jH,hcj⟩:=hf
      have oU:=(DE h.val args.toList).append (W0 jH hcj)
      obtain⟨J,c,U⟩:=B5 (vs:= #[]++args.map a.eval++cs) hS hG h.mem he hp (by simpa using oU)
      exact⟨_,_,I6 ho ef (hS.call _ _ U),J⟩
    · next wH s' hs=>
      simp only[Option.some.injEq,Prod.mk.injEq]at hc
      obtain⟨rfl,rfl⟩:=hc
      rw[hs]at hf
      obtain⟨x,ef,hx⟩:=hf
      have oU:bX w ω (s'::args.toList.map ρ) (x::args.toList.map a.eval):=⟨hx,DE h.val args.toList⟩
      obtain⟨J,c,U⟩:=B5 (vs:= #[x]++args.map a.eval++ #[]) hS hG h.mem he hp (by simpa using oU)
      exact⟨_,_,I6 ho ef (hS.call _ _ U),J⟩
    · cases hc
  · cases he
theorem Rz {o:Oper} {r:Operand} {name:String} {args:Array Operand} {ts:Array TypeId} (ho:o.op= .call {callee:= .invoke r name,args:=args,argTypes:=ts}) {t:TypeId} {x:Value} (hr:a.eval r= .iface t x) {id:Nat}
    (hm:vf P t name=some id) (hc: ∀(l:Array Value) (w:World),(callFunc id l).run P w= .ok (.enter id l) w):(execOp a.eval o).run P w= .ok (.enter id (#[x]++args.map a.eval)) w:=by
  unfold vf at hm
  split at hm
  · next i d hi hd=>
    split at hm
    · next m hf=>
      split at hm
      · next f e hp mw=>
        obtain rfl:=Option.some.inj hm
        obtain⟨k,hk⟩: ∃k,P.types.size+Made.depth=k+1:=⟨P.types.size+99,by show P.types.size+100=_;omega⟩
        have e0:(execOp a.eval o).run P w=((callMethod (.iface t x) name (args.map a.eval)).run P w):=by
          simp[execOp,ho,resolve,hr,invoke,Array.getElem?_append,Result.andThen]
          rw[Array.extract_eq_self_of_le (by simp)]
        rw[e0]
        simp[callMethod,hk,method,typeInfo,hi,hf,hp,follow,mw,receiverAt,underlying,hd,Place.get,hc,Result.andThen]
      · cases hm
    · cases hm
  · cases hm
theorem BF (hS:Sound P Gl Γ) (hG: ∀g,Den w ω.bare (Gl g) (.pointer (some ⟨g,0,none⟩))) (h:Cx P w ω ρ M a) {o:Oper} {r:Operand} {name:String} {args:Array Operand} {ts:Array TypeId} (ho:o.op= .call {callee:= .invoke r name,args:=args,argTypes:=ts})
    {nx:Nat} {pr:Prop} {s:SV} {u:a_} (he:xU P Γ ρ (ae M) nx r name args.toList=some (pr,s,u)) (hp:pr):vq P w ω M a o s u:=by
  unfold xU at he
  split at he
  · next t s' hs=>
    split at he
    · next id hm=>
      have hr:=h.val r
      rw[hs]at hr
      obtain⟨x,ex,hx⟩:=hr
      have oU:bX w ω (s'::args.toList.map ρ) (x::args.toList.map a.eval):=⟨hx,DE h.val args.toList⟩
      obtain⟨J,c,U⟩:=B5 (vs:= #[x]++args.map a.eval) hS hG h.mem he hp (by simpa using oU)
      exact⟨_,_,Rz ho ex hm (hS.call _ _ U),J⟩
    · cases he
  · cases he
end
end Go.Sy
set_option linter.unusedVariables false
set_option linter.unusedSimpArgs false
namespace Go.Sy
open Go.RowKit
def Ac (e:bk) (k:bk->Prop):Prop:=
  match e with
  |⟨rs,ds,hl,b⟩=>fh rs λrs=>fh ds λds=>fP hl λhl=>Ad b λb=>k ⟨rs,ds,hl,b⟩
theorem Kt (e:bk) (k:bk->Prop):Ac e k=k e:=by
  cases e;simp only[Ac,jK,OO,Kw]
def ti:List Nat->Mem->(Mem->Prop)->Prop
  |_,[],k=>k []
  |seen,p::r,k=>match cO seen p.1 with|true=>ti seen r k|false=>fh p.1 λq=>Ac p.2 λe=>ti (q::seen) r λr=>k ((q,e)::r)
theorem xD: ∀(M:Mem) (seen:List Nat) (k:Mem->Prop),ti seen M k-> ∃M',k M'/\ ∀q,cO seen q=false->ae M' q=ae M q
  | [],_,k,h=>⟨[],h,λ_ _=>rfl⟩
  |p::r,seen,k,h=>by
   unfold ti at h
   split at h
   · next hs=>
     obtain⟨M',J,U⟩:=xD r seen k h
     refine⟨M',J,λq hq=>?_⟩
     rw[U q hq]
     have cf:p.1≠q:=λe=>by rw[e,hq]at hs;cases hs
     obtain⟨a,b⟩:=p
     exact(cB cf).symm
   · next hs=>
     rw[jK,Kt]at h
     obtain⟨M',J,U⟩:=xD r _ _ h
     refine⟨_,J,λq hq=>?_⟩
     obtain⟨a,b⟩:=p
     by_cases e:a=q
     · subst e;rw[c_,c_]
     · rw[cB e,cB e]
       refine U q ?_
       have:Nat.beq a q=false:=by
         cases hb:Nat.beq a q with
         |false=>rfl
         |true=>exact absurd (Nat.eq_of_beq_eq_true hb) e
       simp only[cO,this]
       exact hq
section
variable {w:World} {ω:Ow}
theorem aR.congr {M M':Mem} (hm:aR w ω M) (h: ∀k,ae M' k=ae M k):aR w ω M':=
  ⟨by rw[hm.cur];funext k;simp only[dG,h],hm.own,hm.d_,hm.dj,hm.fD,hm.inj,hm.low,λk p L hL=>by
    obtain⟨r,g1,g2,g3,g4⟩:=hm.row k p L hL
    exact⟨r,by unfold rowAt at g1⊢;rw[h];exact g1,g2,g3,by rw[h];exact g4⟩,λk l hk=>hm.live k l (by rw[<-h];exact hk),λk i j hk=>hm.eM k i j (by rw[<-h];exact hk)⟩
end
end Go.Sy
set_option linter.unusedVariables false
set_option linter.unusedSimpArgs false
namespace Go.Sy
open Go.RowKit
/-! ### frames -/
abbrev Fr:=List (Nat×SV)
def look:Fr->Nat->SV
  | [],_=> .aK
  |p::r,t=>match Nat.beq p.1 t with|true=>p.2|false=>look r t
theorem look_eq {d:Nat} {s:SV} {F:Fr}:look ((d,s)::F) d=s:=by
  simp[look]
theorem nC {d t:Nat} {s:SV} {F:Fr} (h:d≠t):look ((d,s)::F) t=look F t:=by
  have:Nat.beq d t=false:=by
    cases hb:Nat.beq d t
    · rfl
    · exact absurd (Nat.eq_of_beq_eq_true hb) h
  simp only[look,this]
structure dK (w:World) (o:Ow) (N:Nat) (F:Fr) (t:Array Value):Prop where
  size:t.size=N
  den: ∀(i:Nat) u,t[i]? =some u->Den w o (look F i) u
  out: ∀(i:Nat),N<=i->look F i= .aK
theorem dK.ext {w w':World} {o o':Ow} {N:Nat} {F:Fr} {t:Array Value} (h:dK w o N F t) (he:Ext w o w' o'):dK w' o' N F t:=
  ⟨h.size,λi u hu=>(h.den i u hu).ext he,h.out⟩
theorem dK.get {w:World} {o:Ow} {N:Nat} {F:Fr} {t:Array Value} (h:dK w o N F t) (i:Nat):Den w o (look F i) (t.getD i undef):=by
  rw[Array.getD_eq_getD_getElem?]
  cases hu:t[i]? with
  |none=>
   rw[h.out i (by rw[<-h.size];exact Array.getElem?_eq_none_iff.1 hu)]
   trivial
  |some u=>exact h.den i u hu
def f_ (N:Nat) (F:Fr) (d:Option Nat) (s:SV):Fr:=
  match d with
  |some d=>match Nat.blt d N with|true=>(d,s)::F|false=>F
  |none=>F
theorem dK.put {w:World} {o:Ow} {N:Nat} {F:Fr} {t:Array Value} (h:dK w o N F t) {d:Nat} {s:SV} {v:Value} (hd:Den w o s v):dK w o N (f_ N F (some d) s) (t.setIfInBounds d v):=by
  cases ai:Nat.blt d N with
  |true=>
   have e:f_ N F (some d) s=(d,s)::F:=by simp only[f_,ai]
   rw[e]
   have ai:d<N:=Nat.le_of_ble_eq_true ai
   refine⟨by simpa using h.size,λi u hu=>?_,λi hi=>?_⟩
   · by_cases lA:d=i
     · subst lA
       rw[look_eq]
       rw[Array.getElem?_setIfInBounds_self_of_lt (by rw[h.size];exact ai)]at hu
       obtain rfl:=Option.some.inj hu
       exact hd
     · rw[nC lA]
       rw[Array.getElem?_setIfInBounds_ne lA]at hu
       exact h.den i u hu
   · rw[nC (by omega)]
     exact h.out i hi
  |false=>
   have bo:N<=d:=by
     rcases Nat.lt_or_ge d N with h'|h'
     · exact absurd (Nat.ble_eq_true_of_le h') (by unfold Nat.blt at ai;rw[ai];simp)
     · exact h'
   have e:t.setIfInBounds d v=t:=by
     rw[Array.setIfInBounds_eq_of_size_le (by rw[h.size];exact bo)]
   have e2:f_ N F (some d) s=F:=by simp only[f_,ai]
   rw[e,e2];exact h
theorem dK.tell {w:World} {o:Ow} {N:Nat} {F:Fr} {t:Array Value} (h:dK w o N F t) {d:Nat} {s:SV} (ai:d<N) (hs: ∀u,t[d]? =some u->Den w o s u):dK w o N ((d,s)::F) t:=by
  refine⟨h.size,λi u hu=>?_,λi hi=>?_⟩
  · by_cases lA:d=i
    · subst lA;rw[look_eq];exact hs u hu
    · rw[nC lA];exact h.den i u hu
  · rw[nC (by omega)];exact h.out i hi
def cK (Gl:Nat->SV) (F:Fr):Operand->SV
  | .tmp t=>look F t
  | .const (.bool b)=> .bl b
  | .const v=> .v v
  | .global g=>Gl g
  | .func f=> .fn f 0 (λ_=> .aK)
structure St (P:Program) (Gl:Nat->SV) (N:Nat) (F:Fr) (M:Mem) (a:Act) (w:World) (ω:Ow):Prop where
  frame:dK w ω N F a.tmps
  dY: ∀g,Den w ω.bare (Gl g) (.pointer (some ⟨g,0,none⟩))
  mem:aR w ω M
  defers:a.defers= []
theorem Act.put_defers (a:Act) (d:Option Tmp) (v:Value):(a.put d v).defers=a.defers:=by cases d<;>rfl
def dx (S:List Nat) (a a':Act):Prop:=a'.tmps.size=a.tmps.size/\ ∀i,i∉S->a'.tmps[i]? =a.tmps[i]?
theorem dx.refl (S:List Nat) (a:Act):dx S a a:=⟨rfl,λ_ _=>rfl⟩
theorem dx.trans {S:List Nat} {a b c:Act} (h:dx S a b) (k:dx S b c):dx S a c:=⟨k.1.trans h.1,λi hi=>(k.2 i hi).trans (h.2 i hi)⟩
theorem dx.put {S:List Nat} {a b:Act} (h:dx S a b) {d:Option Tmp} (hd: ∀t,d=some t->t∈S) (v:Value):dx S a (b.put d v):=by
  cases d with
  |none=>exact h
  |some t=>
   refine⟨by simpa [Act.put]using h.1,λi hi=>?_⟩
   have:t≠i:=λe=>hi (e▸hd t rfl)
   simp only[Act.put,Array.getElem?_setIfInBounds_ne this]
   exact h.2 i hi
theorem dx.mono {S S':List Nat} {a b:Act} (h:dx S a b) (hs: ∀i∈S,i∈S'):dx S' a b:=⟨h.1,λi hi=>h.2 i (λhn=>hi (hs i hn))⟩
section
variable {P:Program} {w:World} {ω:Ow} {Gl:Nat->SV} {Γ:Table} {N:Nat} {F:Fr} {M:Mem} {a:Act}
theorem dK.cK (h:dK w ω N F a.tmps) (hG: ∀g,Den w ω.bare (Gl g) (.pointer (some ⟨g,0,none⟩))) (x:Operand):Den w ω (Sy.cK Gl F x) (a.eval x):=by
  cases x with
  |tmp t=>exact h.get t
  |const v=>cases v<;>exact rfl
  |global g=>exact(hG g).up
  |func f=>exact⟨#[],rfl,rfl,λj hj=>absurd hj (by omega)⟩
theorem St.cx (h:St P Gl N F M a w ω):Cx P w ω (cK Gl F) M a:=⟨h.frame.cK h.dY,h.mem⟩
theorem St.step (h:St P Gl N F M a w ω) {w':World} {al:Ow} {M':Mem} (hs:bz w ω M w' al M'):St P Gl N F M' a w' al:=
  ⟨h.frame.ext hs.ext,λg=>Den.ext (o:=ω.bare) hs.ext.bare (h.dY g),hs.mem,h.defers⟩
theorem St.put (h:St P Gl N F M a w ω) {d:Option Tmp} {s:SV} {v:Value} (hd:Den w ω s v):St P Gl N (f_ N F d s) M (a.put d v) w ω where
  frame:=by
    cases d with
    |none=>exact h.frame
    |some d=>exact h.frame.put hd
  dY:=h.dY
  mem:=h.mem
  defers:=by rw[Act.put_defers];exact h.defers
theorem St.tell (h:St P Gl N F M a w ω) {d:Nat} {s:SV} (ai:d<N) (hs: ∀u,a.tmps[d]? =some u->Den w ω s u):St P Gl N ((d,s)::F) M a w ω:=
  {h with frame:=h.frame.tell ai hs}
theorem St.aK (h:St P Gl N F M a w ω) {t:Nat} (ht:t<N) (v:Value):St P Gl N ((t,.aK)::F) M (a.put (some t) v) w ω:=by
  have:=h.put (d:=some t) (s:= .aK) (v:=v) trivial
  have e:f_ N F (some t) .aK=(t,.aK)::F:=by
    have:Nat.blt t N=true:=Nat.ble_eq_true_of_le ht
    simp only[f_,this]
  rwa [e]at this
end
/-! ### one operation -/
inductive R2 where
  |bad
  |ok (s:SV)
  |dz (p:Prop) (s:SV)
  |jR (p:Prop) (s:SV)
  |mem (p:Prop) (s:SV) (u:a_)
  |any (n:Nat) (neg:Bool)
def R.up:R->R2
  | .bad=> .bad
  | .ok s=> .ok s
  | .dz p s=> .dz p s
  | .jR p s=> .jR p s
def lC:Option (Prop×SV×a_)->R2
  |some (p,s,u)=> .mem p s u
  |none=> .bad
def R2.run (r:R2) (K:SV->a_->Prop):Prop:=
  match r with
  | .bad=>False
  | .ok s=>K s []
  | .dz p s=>p/\K s []
  | .jR p s=>p->K s []
  | .mem p s u=>p/\K s u
  | .any n neg=> ∀b:Bool,(b=true->n=0)->K (.v (.bool (vQ neg b))) []
def Dy (P:Program) (sg:Bool) (ρ:Operand->SV) (m:Nat->bk) (op:BinOp) (T T':TypeId) (x y:Operand):R2:=
  match Dz P op T (ρ x) (ρ y) m with
  |some q=> .any q.1 q.2
  |none=>(ry P sg ρ m (.binOp op T x y T')).up
def wF (P:Program) (sg:Bool) (Γ:Table) (ρ:Operand->SV) (m:Nat->bk) (nx:Nat) (op:Op):R2:=
  match op with
  | .box _ x=>lC (En m nx (ρ x))
  | .alloc T=>lC (CE P m nx T)
  | .store T x y=>lC (CF P m nx T (ρ x) (ρ y))
  | .makeSlice T x y=>lC (DC P m nx T (ρ x) (ρ y))
  | .buildSlice T len parts=>lC (B3 P m nx T len (parts.toList.map λp=>(p.1,ρ p.2)))
  | .call {callee:= .builtin .append,args:=⟨[x,y]⟩,argTypes:=⟨[T,T']⟩}=>match Nat.beq T T' with|true=>lC (oE P m nx T (ρ x) (ρ y))|false=> .bad
  | .call {callee:= .builtin .copy,args:=⟨[x,y]⟩,argTypes:=⟨[T,T']⟩}=>match Nat.beq T T' with|true=>lC (DD P m T (ρ x) (ρ y))|false=> .bad
  | .call {callee:= .builtin .clear,args:=⟨[x]⟩,argTypes:=⟨[T]⟩}=>lC (CG P m T (ρ x))
  | .call {callee:= .value f,args:=args,argTypes:=_}=>lC (yR Γ ρ m nx f args.toList)
  | .call {callee:= .invoke r name,args:=args,argTypes:=_}=>lC (xU P Γ ρ m nx r name args.toList)
  | .pick c x y=>(vd (ρ c) (ρ x) (ρ y)).up
  | .binOp op T x y T'=>Dy P sg ρ m op T T' x y
  |op=>(ry P sg ρ m op).up
section
variable {P:Program} {w:World} {ω:Ow} {ρ:Operand->SV} {Gl:Nat->SV} {Γ:Table} {M:Mem} {a:Act}
inductive m9 (P:Program) (w:World) (ω:Ow) (M:Mem) (a:Act) (o:Oper) (s:SV):a_->Prop where
  |pure (v:Value) (h:(execOp a.eval o).run P w= .ok (.value v) w) (hd:Den w ω s v):m9 P w ω M a o s []
  |mem {u:a_} (h:nX P w ω M a o s u):m9 P w ω M a o s u
  |call {u:a_} (h:vq P w ω M a o s u):m9 P w ω M a o s u
theorem m9.wp {o:Oper} {s:SV} {u:a_} (hm:aR w ω M) (h:m9 P w ω M a o s u) {next:Act->World->Prop} {Q:Exit->Act->World->Prop}
    (hn: ∀v w' al,bz w ω M w' al (u++M)->Den w' al s v->next (a.put o.dst v) w'):o.wp P a w next Q:=by
  unfold Oper.wp
  cases h with
  |pure v h hd=>rw[h];exact hn v w ω (bz.refl hm) hd
  |mem h=>
   obtain⟨n,v,w',al,J,U,h3,h4⟩:=h
   rw[J]
   rcases U with rfl|⟨rfl,rfl⟩
   · exact hn v w' al h3 h4
   · exact hn _ w' al h3 h4
  |call h=>
   obtain⟨id,vs,J,U⟩:=h
   rw[J]
   unfold qD at U
   refine U.mono ?_
   rintro e w' ⟨v,al,rfl,h3,h4,_⟩
   exact hn v w' al h3 h4
theorem Eo {o:Oper} {r:R} {K:SV->a_->Prop} (h: ∀{K':SV->Prop},r.run K'->fb P w ω a o K') (he:r.up.run K): ∃s u,m9 P w ω M a o s u/\K s u:=by
  have:r.run (λs=>K s []):=by cases r<;>exact he
  obtain⟨s,v,J,U,h3⟩:=h this
  exact⟨s,[],.pure v J U,h3⟩
theorem mO {o:Oper} {x:Option (Prop×SV×a_)} {K:SV->a_->Prop} (h: ∀{p s u},x=some (p,s,u)->p->m9 P w ω M a o s u) (he:(lC x).run K): ∃s u,m9 P w ω M a o s u/\K s u:=by
  cases x with
  |none=>exact he.elim
  |some x=>exact⟨_,_,h rfl he.1,he.2⟩
theorem Kv (h:Cx P w ω ρ M a) {sg:Bool} {o:Oper} {op:BinOp} {T T':TypeId} {x y:Operand} {K:SV->a_->Prop} (ho:o.op= .binOp op T x y T') (he:(Dy P sg ρ (ae M) op T T' x y).run K): ∃s v,(execOp a.eval o).run P w= .ok (.value v) w/\Den w ω s v/\K s []:=by
  unfold Dy at he
  split at he
  · next q hq=>
    obtain⟨b,J,U⟩:=Vi h ho (n:=q.1) (neg:=q.2) hq
    exact⟨.v (.bool (vQ q.2 b)),_,U,rfl,he b J⟩
  · have e:(ry P sg ρ (ae M) o.op).run (λs=>K s []):=by rw[ho];revert he;cases ry P sg ρ (ae M) (.binOp op T x y T')<;>exact id
    exact qE h e
theorem WX (hS:Sound P Gl Γ) (hG: ∀g,Den w ω.bare (Gl g) (.pointer (some ⟨g,0,none⟩))) (h:Cx P w ω ρ M a) {sg:Bool} {nx:Nat} {o:Oper} {K:SV->a_->Prop} (he:(wF P sg Γ ρ (ae M) nx o.op).run K):
    ∃s u,m9 P w ω M a o s u/\K s u:=by
  unfold wF at he
  split at he
  · next T x ho=>exact mO (λe hp=> .mem (Mw h ho e).wJ) he
  · next T ho=>exact mO (λe hp=> .mem (IZ h ho e).wJ) he
  · next T x y ho=>exact mO (λe hp=> .mem (Tk h ho e hp)) he
  · next T x y ho=>exact mO (λe hp=> .mem (Ku h ho e hp).wJ) he
  · next T len parts ho=>exact mO (λe hp=> .mem (H3 h ho e).wJ) he
  · next x y T T' ho=>
    split at he
    · next ht=>
      obtain rfl:=Nat.eq_of_beq_eq_true ht
      exact mO (λe hp=> .mem (Ry h ho e hp)) he
    · exact he.elim
  · next x y T T' ho=>
    split at he
    · next ht=>
      obtain rfl:=Nat.eq_of_beq_eq_true ht
      exact mO (λe hp=> .mem (Vj h ho e hp)) he
    · exact he.elim
  · next x T ho=>exact mO (λe hp=> .mem (Tl h ho e hp)) he
  · next f args ts ho=>exact mO (λe hp=> .call (CB hS hG h ho e hp)) he
  · next r name args ts ho=>exact mO (λe hp=> .call (BF hS hG h ho e hp)) he
  · next c x y ho=>exact Eo (λhe=>uQ h ho he) he
  · next op T x y T' ho=>
    obtain⟨s,v,J,U,h3⟩:=Kv h ho he
    exact⟨s,[],.pure v J U,h3⟩
  · exact Eo (λhe=>qE h he) he
end
/-! ### guards that are not decided -/
structure Hd where
  slot:Nat
  d:Nat
  want:Bool
  s:SV
def Qm:Bool->Bool->Bool
  |true,true|false,false=>true
  |_,_=>false
def vr:List Hd->Nat->Option Hd
  | [],_=>none
  |h::r,t=>match Nat.beq h.slot t with|true=>some h|false=>vr r t
def eR (H:List Hd):Nat->Nat->Bool->List (Nat×Bool)
  |0,d,want=> [(d,want)]
  |n+1,d,want=>(d,want)::match vr H d with|some h=>eR H n h.d h.want|none=> []
def Fk (As:List (Nat×Bool)) (d:Nat) (want:Bool):Bool:=As.any λp=>Nat.beq p.1 d&&Qm p.2 want
def ir (As:List (Nat×Bool)) (F:Fr):List Hd->Fr
  | []=>F
  |h::r=>match Fk As h.d h.want with|true=>(h.slot,h.s)::ir As F r|false=>ir As F r
def hyps (F:Fr):List (Nat×Bool)->Prop->Prop
  | [],p=>p
  |(d,want)::r,p=>match look F d with| .v (.bool b)=>b=want->hyps F r p|_=>hyps F r p
def oV (H:List Hd) (d:Option Nat):Bool:=
  match d with
  |none=>true
  |some d=>H.all λh=>!Nat.beq h.d d&&!Nat.beq h.slot d
inductive Gd where
  |yes|no|bad
  |ask (d:Nat) (want:Bool)
def guardOf (N:Nat) (ops:List Oper) (F:Fr) (H:List Hd) (o:Oper):Gd:=
  match o.guard with
  |none=> .yes
  |some (j,want)=>
   match ops[j]? with
   |some oj=>
    match oj.dst with
    |some d=>
     match Nat.blt d N,vr H d,look F d with
     |true,some _,_=> .ask d want
     |true,none,.bl b=>match b,want with|true,true=> .yes|false,false=> .yes|_,_=> .no
     |true,none,.v (.bool _)=> .ask d want
     |true,none,.v (.tuple _)=> .no
     |_,_,_=> .bad
    |none=> .bad
   |none=> .bad
def CC (Gl:Nat->SV) (H:List Hd) (As:List (Nat×Bool)) (F:Fr) (c x y:Operand):R:=
  match c with
  | .tmp d=>
    match look (ir As F H) d with
    | .v (.bool b)=>
      match lE (cK Gl (ir (eR H H.length d true++As) F H) x),lE (cK Gl (ir (eR H H.length d false++As) F H) y)with
      |some p,some q=> .ok (.v (.bool (bif b then p else q)))
      |_,_=> .bad
    |s=>vd s (cK Gl (ir As F H) x) (cK Gl (ir As F H) y)
  |_=> .bad
def kP (P:Program) (sg:Bool) (Gl:Nat->SV) (Γ:Table) (F:Fr) (M:Mem) (nx:Nat) (H:List Hd) (As:List (Nat×Bool)) (op:Op):R2:=
  match op with
  | .pick c x y=>(CC Gl H As F c x y).up
  |op=>wF P sg Γ (cK Gl (ir As F H)) (ae M) nx op
def Qn (nx:Nat) (u:a_):Nat:=match u with| []=>nx|_::_=>nx+64
def WY:bh->Bool
  | .row _ _ _=>true
  |_=>false
def mW (m:Nat->bk):a_->Bool
  | []=>true
  |p::r=>mW m r&&cv (ov r m) p.1&&Nat.beq p.2.rs (ov r m p.1).rs&&Nat.beq p.2.ds (ov r m p.1).ds&&(match p.2.hl with|none=>true|some _=>false)&&WY p.2.b
theorem xw {w:World} {ω:Ow} {M:Mem} (hm:aR w ω M): ∀{u:a_},mW (ae M) u=true->bz w ω M w ω (u++M)
  | [],_=>bz.refl hm
  |(k,⟨rs,ds,hl,b⟩)::r,h=>by
   simp only[mW,Bool.and_eq_true]at h
   obtain⟨⟨⟨⟨⟨J,U⟩,h3⟩,h4⟩,h5⟩,h6⟩:=h
   have hr:=xw hm J
   rw[lj]at U h3 h4
   cases b with
   |row sz n f=>
    cases hl with
    |some _=>cases h5
    |none=>
     obtain rfl:=Nat.eq_of_beq_eq_true h3
     obtain rfl:=Nat.eq_of_beq_eq_true h4
     exact hr.trans (bz.dummy hr.mem (jZ hr.mem U) sz n f)
   |dead=>cases h6
   |cells l=>cases h6
def tE:List Nat->Fr->(Fr->Prop)->Prop
  |_,[],k=>k []
  |seen,p::r,k=>match cO seen p.1 with|true=>tE seen r k|false=>fh p.1 λq=>tN p.2 λs=>tE (q::seen) r λr=>k ((q,s)::r)
theorem xM: ∀(F:Fr) (seen:List Nat) (k:Fr->Prop),tE seen F k-> ∃F',k F'/\ ∀q,cO seen q=false->look F' q=look F q
  | [],_,k,h=>⟨[],h,λ_ _=>rfl⟩
  |p::r,seen,k,h=>by
   unfold tE at h
   split at h
   · next hs=>
     obtain⟨M',J,U⟩:=xM r seen k h
     refine⟨M',J,λq hq=>?_⟩
     rw[U q hq]
     have hb:Nat.beq p.1 q=false:=by
       cases hb:Nat.beq p.1 q with
       |false=>rfl
       |true=>have e:=Nat.eq_of_beq_eq_true hb;rw[e,hq]at hs;cases hs
     simp only[look,hb]
   · next hs=>
     rw[jK,yS]at h
     obtain⟨M',J,U⟩:=xM r _ _ h
     refine⟨_,J,λq hq=>?_⟩
     cases hb:Nat.beq p.1 q with
     |true=>simp only[look,hb]
     |false=>
      simp only[look,hb]
      refine U q ?_
      simp only[cO,hb]
      exact hq
def vO:List Hd->(List Hd->Prop)->Prop
  | [],k=>k []
  |h::r,k=>match h with|⟨a,b,c,s⟩=>fh a λa=>fh b λb=>tN s λs=>vO r λr=>k (⟨a,b,c,s⟩::r)
theorem CA: ∀(l:List Hd) (k:List Hd->Prop),vO l k=k l
  | [],_=>rfl
  |⟨a,b,c,s⟩::r,k=>by simp only[vO,jK,yS,CA r]
def qS (F:Fr) (M:Mem) (nx:Nat) (H:List Hd) (K:Fr->Mem->Nat->List Hd->Prop):Prop:=tE [] F λF=>ti [] M λM=>fh nx λnx=>vO H λH=>K F M nx H
theorem rZ {F:Fr} {M:Mem} {nx:Nat} {H:List Hd} {K:Fr->Mem->Nat->List Hd->Prop} (h:qS F M nx H K): ∃F' M',(∀t,look F' t=look F t)/\(∀k,ae M' k=ae M k)/\K F' M' nx H:=by
  obtain⟨F',J,U⟩:=xM _ _ _ h
  obtain⟨M',h3,h4⟩:=xD _ _ _ J
  rw[jK,CA]at h3
  exact⟨F',M',λt=>U t rfl,λk=>h4 k rfl,h3⟩
def j_ (P:Program) (sg:Bool) (Gl:Nat->SV) (Γ:Table) (N:Nat) (ops:List Oper) (K:Fr->Mem->Nat->Prop):List Oper->Fr->Mem->Nat->List Hd->Prop
  | [],F,M,nx,_=>K F M nx
  |o::r,F,M,nx,H=>
   match oV H o.dst,guardOf N ops F H o with
   |true,.yes=>match kP P sg Gl Γ F M nx H [] o.op with| .ok s=>j_ P sg Gl Γ N ops K r (f_ N F o.dst s) M nx H|x=>x.run λs u=>qS (f_ N F o.dst s) (u++M) (Qn nx u) H λF M nx H=>j_ P sg Gl Γ N ops K r F M nx H
   |true,.no=>j_ P sg Gl Γ N ops K r (f_ N F o.dst (.v undef)) M nx H
   |true,.ask d want=>
    match o.dst,kP P sg Gl Γ F M nx H (eR H H.length d want) o.op with
    |some t,.ok s=>match Nat.blt t N&&!Nat.beq d t with|true=>j_ P sg Gl Γ N ops K r ((t,.aK)::F) M nx (⟨t,d,want,s⟩::H)|false=>False
    |some t,.jR _ s=>match Nat.blt t N&&!Nat.beq d t with|true=>j_ P sg Gl Γ N ops K r ((t,.aK)::F) M nx (⟨t,d,want,s⟩::H)|false=>False
    |some t,.dz p s=>match Nat.blt t N&&!Nat.beq d t with|true=>hyps (ir (eR H H.length d want) F H) (eR H H.length d want) p/\qS ((t,.aK)::F) M nx (⟨t,d,want,s⟩::H) λF M nx H=>j_ P sg Gl Γ N ops K r F M nx H|false=>False
    |some t,.mem p s u=>match Nat.blt t N&&!Nat.beq d t,mW (ae M) u with|true,true=>hyps (ir (eR H H.length d want) F H) (eR H H.length d want) p/\qS ((t,.aK)::F) (u++M) (Qn nx u) (⟨t,d,want,s⟩::H) λF M nx H=>j_ P sg Gl Γ N ops K r F M nx H|_,_=>False
    |_,_=>False
   |_,_=>False
section
variable {P:Program} {w:World} {ω:Ow} {Gl:Nat->SV} {Γ:Table} {N:Nat} {F:Fr} {M:Mem} {a:Act} {H:List Hd}
structure Z6 (w:World) (ω:Ow) (N:Nat) (a:Act) (h:Hd):Prop where
  lt:h.slot<N
  yes:a.tmps[h.d]? =some (.bool h.want)-> ∀u,a.tmps[h.slot]? =some u->Den w ω h.s u
  no:a.tmps[h.d]? ≠some (.bool h.want)->a.tmps[h.slot]? =some undef
def gw (w:World) (ω:Ow) (N:Nat) (a:Act) (H:List Hd):Prop:= ∀h∈H,Z6 w ω N a h
def lx (a:Act) (As:List (Nat×Bool)):Prop:= ∀p∈As,a.tmps[p.1]? =some (.bool p.2)
theorem Hr: ∀{H:List Hd} {t:Nat} {h:Hd},vr H t=some h->h∈H/\h.slot=t
  | [],_,_,e=>by cases e
  |x::r,t,h,e=>by
   unfold vr at e
   split at e
   · next hb=>
     obtain rfl:=Option.some.inj e
     exact⟨by simp,Nat.eq_of_beq_eq_true hb⟩
   · obtain⟨J,U⟩:=Hr e
     exact⟨by simp[J],U⟩
theorem lU (hH:gw w ω N a H): ∀(n d:Nat) (want:Bool),a.tmps[d]? =some (.bool want)->lx a (eR H n d want)
  |0,d,want,h=>λp hp=>by
   simp[eR]at hp;subst hp;exact h
  |n+1,d,want,h=>λp hp=>by
   simp only[eR,List.mem_cons]at hp
   rcases hp with rfl|hp
   · exact h
   · split at hp
     · next h' hf=>
       obtain⟨J,U⟩:=Hr hf
       refine lU hH n h'.d h'.want ?_ p hp
       rcases Classical.em (a.tmps[h'.d]? =some (.bool h'.want))with e|e
       · exact e
       · have:=(hH h' J).no e
         rw[U,h]at this
         cases this
     · cases hp
theorem WZ {a b:Bool} (h:Qm a b=true):a=b:=by cases a<;>cases b<;>first|rfl|cases h
theorem Vk {As:List (Nat×Bool)} (hA:lx a As) {d:Nat} {want:Bool} (h:Fk As d want=true):a.tmps[d]? =some (.bool want):=by
  unfold Fk at h
  rw[List.any_eq_true]at h
  obtain⟨p,hp,e⟩:=h
  rw[Bool.and_eq_true]at e
  have:=hA p hp
  rw[Nat.eq_of_beq_eq_true e.1,WZ e.2]at this
  exact this
theorem lO (hF:dK w ω N F a.tmps) {As:List (Nat×Bool)} (hA:lx a As): ∀(H:List Hd),gw w ω N a H->dK w ω N (ir As F H) a.tmps
  | [],_=>hF
  |h::r,hH=>by
   have ih:=lO hF hA r λh' hh=>hH h' (by simp[hh])
   unfold ir
   split
   · next hi=>exact ih.tell (hH h (by simp)).lt ((hH h (by simp)).yes (Vk hA hi))
   · exact ih
theorem uR (hF:dK w ω N F a.tmps) {p:Prop}: ∀(As:List (Nat×Bool)),lx a As->hyps F As p->p
  | [],_,h=>h
  |q::r,hA,h=>by
   have ih:=uR hF (p:=p) r λx hx=>hA x (by simp[hx])
   unfold hyps at h
   split at h
   · next b hb=>
     have J:=hA q (by simp)
     have U:=hF.den _ _ J
     rw[hb]at U
     have h3:(q.2:Bool)=b:=by cases U;rfl
     exact ih (h h3.symm)
   · exact ih h
theorem H4 (hF:dK w ω N F a.tmps) {d:Nat} {s:SV} (h:look F d=s) (hs:s≠ .aK): ∃u,a.tmps[d]? =some u/\Den w ω s u:=by
  rcases Nat.lt_or_ge d a.tmps.size with hd|hd
  · exact⟨a.tmps[d],by simp[hd],by rw[<-h];exact hF.den d _ (by simp[hd])⟩
  · exact absurd (h.symm.trans (hF.out d (by rw[<-hF.size];exact hd))) hs
theorem lx.append {As Bs:List (Nat×Bool)} (h:lx a As) (k:lx a Bs):lx a (As++Bs):=λp hp=>(List.mem_append.1 hp).elim (h p) (k p)
inductive vR (ops:Array Oper) (a:Act) (o:Oper):Gd->Prop where
  |yes (h:Region.wanted o (yielded ops a.tmps)=true):vR ops a o .yes
  |no (h:Region.wanted o (yielded ops a.tmps)=false):vR ops a o .no
  |ask (d:Nat) (want:Bool) (h:Region.wanted o (yielded ops a.tmps)=true↔a.tmps[d]? =some (.bool want)):vR ops a o (.ask d want)
  |bad:vR ops a o .bad
theorem B2 {ops:Array Oper} (hF:dK w ω N F a.tmps) (H:List Hd) (o:Oper):vR ops a o (guardOf N ops.toList F H o):=by
  have get: ∀(d:Nat),d<N-> ∃x,a.tmps[d]? =some x/\Den w ω (look F d) x:=by
    intro d hd
    have:d<a.tmps.size:=by rw[hF.size];exact hd
    exact⟨a.tmps[d],by simp[this],hF.den d _ (by simp[this])⟩
  have wanted: ∀{j:Nat} {want:Bool} {oj:Oper} {d:Nat},o.guard=some (j,want)->ops.toList[j]? =some oj->oj.dst=some d->
   (Region.wanted o (yielded ops a.tmps)=true↔a.tmps[d]? =some (.bool want)):=by
    intro j want oj d hg hj hd
    have jj:ops[j]? =some oj:=by simpa using hj
    simp only[Region.wanted,hg,yielded,jj,Option.bind_some,hd]
    cases hx:a.tmps[d]? with
    |none=>simp
    |some x=>cases x<;>simp
  have PJ: ∀{d:Nat} {want:Bool},(Region.wanted o (yielded ops a.tmps)=true↔a.tmps[d]? =some (.bool want))-> ∀{x:Value},a.tmps[d]? =some x->x≠ .bool want->Region.wanted o (yielded ops a.tmps)=false:=by
    intro d want h x hx cf
    cases hw:Region.wanted o (yielded ops a.tmps)with
    |false=>rfl
    |true=>exact absurd (Option.some.inj (hx.symm.trans (h.1 hw))) cf
  unfold guardOf
  split
  · next hg=>exact .yes (by simp[Region.wanted,hg])
  · next j want hg=>
    split
    · next oj hj=>
      split
      · next d hd=>
        have hw:=wanted hg hj hd
        split
        · exact .ask d want hw
        · next b ai _ hs=>
          obtain⟨x,J,U⟩:=get d (Nat.le_of_ble_eq_true ai)
          rw[hs]at U
          obtain rfl:=U
          split
          · exact .yes (hw.2 J)
          · exact .yes (hw.2 J)
          · next g1 g2=>
            refine .no (PJ hw J ?_)
            cases b<;>cases want<;>first|(exact absurd rfl (g1 rfl))|(exact absurd rfl (g2 rfl))|simp
        · exact .ask d want hw
        · next l ai _ hs=>
          obtain⟨x,J,U⟩:=get d (Nat.le_of_ble_eq_true ai)
          rw[hs]at U
          obtain rfl:=U
          exact .no (PJ hw J (by simp))
        · exact .bad
      · exact .bad
    · exact .bad
theorem Tm {t:Nat} (h:oV H (some t)=true): ∀x∈H,x.d≠t/\x.slot≠t:=by
  intro x hx
  simp only[oV,List.all_eq_true]at h
  have:=h x hx
  simp only[Bool.and_eq_true,Bool.not_eq_true']at this
  refine⟨λe=>?_,λe=>?_⟩
  · have J:=this.1;rw[e,Nat.beq_refl]at J;cases J
  · have J:=this.2;rw[e,Nat.beq_refl]at J;cases J
theorem gw.put (hH:gw w ω N a H) {d:Option Tmp} (hf:oV H d=true) (v:Value):gw w ω N (a.put d v) H:=by
  cases d with
  |none=>exact hH
  |some t=>
   intro x hx
   obtain⟨J,U⟩:=Tm hf x hx
   have e1:(a.put (some t) v).tmps[x.d]? =a.tmps[x.d]? :=by simp only[Act.put,Array.getElem?_setIfInBounds_ne (Ne.symm J)]
   have e2:(a.put (some t) v).tmps[x.slot]? =a.tmps[x.slot]? :=by simp only[Act.put,Array.getElem?_setIfInBounds_ne (Ne.symm U)]
   exact⟨(hH x hx).lt,λh=>by rw[e2];exact(hH x hx).yes (by rw[<-e1];exact h),λh=>by rw[e2];exact(hH x hx).no (by rw[<-e1];exact h)⟩
theorem gw.ext (hH:gw w ω N a H) {w':World} {al:Ow} (he:Ext w ω w' al):gw w' al N a H:=
  λx hx=>⟨(hH x hx).lt,λh u hu=>((hH x hx).yes h u hu).ext he,(hH x hx).no⟩
theorem gw.cons (hH:gw w ω N a H) {t d:Nat} {want:Bool} {s:SV} (hf:oV H (some t)=true) (hN:a.tmps.size=N) (ht:t<N) (hd:d≠t) {v:Value}
    (J:a.tmps[d]? =some (.bool want)->Den w ω s v) (U:a.tmps[d]? ≠some (.bool want)->v=undef):gw w ω N (a.put (some t) v) (⟨t,d,want,s⟩::H):=by
  intro x hx
  rcases List.mem_cons.1 hx with rfl|hx
  · have e1:(a.put (some t) v).tmps[d]? =a.tmps[d]? :=by simp only[Act.put,Array.getElem?_setIfInBounds_ne (Ne.symm hd)]
    have e2:(a.put (some t) v).tmps[t]? =some v:=by simp only[Act.put];rw[Array.getElem?_setIfInBounds_self_of_lt (by rw[hN];exact ht)]
    refine⟨ht,λh u hu=>?_,λh=>?_⟩
    · simp only[e1]at h
      simp only[e2]at hu
      obtain rfl:=Option.some.inj hu
      exact J h
    · simp only[e1]at h
      show(a.put (some t) v).tmps[t]? =_
      rw[e2,U h]
  · exact hH.put hf v x hx
theorem Sb:Den w ω (.v undef) undef:=rfl
theorem CH (hS:Sound P Gl Γ) (h:St P Gl N F M a w ω) (hH:gw w ω N a H) {sg:Bool} {nx:Nat} {As:List (Nat×Bool)} (hA:lx a As) {o:Oper} {K:SV->a_->Prop} (he:(kP P sg Gl Γ F M nx H As o.op).run K):
    ∃s u,m9 P w ω M a o s u/\K s u:=by
  have iE: ∀{As},lx a As->Cx P w ω (cK Gl (ir As F H)) M a:=λhA=>⟨(lO h.frame hA H hH).cK h.dY,h.mem⟩
  unfold kP at he
  split at he
  · next c x y ho=>
    refine Eo ?_ he
    clear he
    intro K' he
    unfold CC at he
    split at he
    · next d=>
      split at he
      · next b hb=>
        split at he
        · next p r hp hr=>
          obtain⟨u,hu,hd⟩:=H4 (lO h.frame hA H hH) hb (by simp)
          obtain rfl:=hd
          have ec:a.eval (.tmp d)= .bool b:=by
            simp only[Act.eval,Array.getD_eq_getD_getElem?,hu];rfl
          refine⟨.v (.bool (bif b then p else r)),.bool (bif b then p else r),?_,rfl,he⟩
          cases b with
          |true=>
           have oo:=(lU hH H.length d true hu).append hA
           have ex:=j7 hp ((iE oo).val x)
           simp[execOp,ho,ec,asBool,ex]
          |false=>
           have oo:=(lU hH H.length d false hu).append hA
           have ey:=j7 hr ((iE oo).val y)
           simp[execOp,ho,ec,asBool,ey]
        · exact he.elim
      · exact uQ (iE hA) ho he
    · exact he.elim
  · exact WX hS h.dY (iE hA) he
def vK (P:Program) (Gl:Nat->SV) (N:Nat) (S:List Nat) (a0:Act) (w1:World) (bY:Ow) (K:Fr->Mem->Nat->Prop) (a:Act) (w:World):Prop:=
  ∃ω F M nx,St P Gl N F M a w ω/\Ext w1 bY w ω/\dx S a0 a/\K F M nx
theorem St.congr (h:St P Gl N F M a w ω) {F':Fr} {M':Mem} (hF: ∀t,look F' t=look F t) (hM: ∀k,ae M' k=ae M k):St P Gl N F' M' a w ω:=
  ⟨⟨h.frame.size,λi u hu=>by rw[hF];exact h.frame.den i u hu,λi hi=>by rw[hF];exact h.frame.out i hi⟩,h.dY,h.mem.congr hM,h.defers⟩
theorem ny (hS:Sound P Gl Γ) {sg:Bool} {ops:Array Oper} {Q:Exit->Act->World->Prop} {K:Fr->Mem->Nat->Prop} {S:List Nat} {a0:Act} {w1:World} {bY:Ow}
    (hQ: ∀a w,vK P Gl N S a0 w1 bY K a w->Q .normal a w):
    ∀(r:List Oper) (F:Fr) (M:Mem) (nx:Nat) (H:List Hd) (a:Act) (w:World) (ω:Ow),(∀o∈r,∀t,o.dst=some t->t∈S)->St P Gl N F M a w ω->gw w ω N a H->Ext w1 bY w ω->dx S a0 a->
     j_ P sg Gl Γ N ops.toList K r F M nx H->wpList P ops Q r a w
  | [],F,M,nx,H,a,w,ω,_,h,_,hg,hk,he=>hQ a w ⟨ω,F,M,nx,h,hg,hk,he⟩
  |o::r,F,M,nx,H,a,w,ω,hd,h,hH,hg,hk,he=>by
   have wK: ∀t,o.dst=some t->t∈S:=hd o (by simp)
   have wM: ∀o∈r,∀t,o.dst=some t->t∈S:=λo ho=>hd o (by simp[ho])
   have jF:=B2 (ops:=ops) h.frame H o
   unfold j_ at he
   split at he
   · next dE jl=>
     rw[jl]at jF
     cases jF with
     |yes hw=>
      unfold wpList
      rw[if_pos hw]
      refine .inl ?_
      split at he
      · next s0 heq=>
        obtain⟨s,u,hU,rfl,rfl⟩:=CH hS h hH (As:= []) (K:=λs u=>s=s0/\u= []) (λp hp=>by cases hp) (by rw[heq];exact⟨rfl,rfl⟩)
        refine hU.wp h.mem ?_
        intro v w' al bH kh
        exact ny hS hQ r _ _ _ H _ w' al wM ((h.step bH).put kh) ((hH.ext bH.ext).put dE v) (hg.trans bH.ext) (hk.put wK v) he
      · obtain⟨s,u,hU,zx⟩:=CH hS h hH (λp hp=>by cases hp) he
        refine hU.wp h.mem ?_
        intro v w' al bH kh
        obtain⟨F',M',hF,hM,hc⟩:=rZ zx
        exact ny hS hQ r _ _ _ H _ w' al wM (((h.step bH).put kh).congr hF hM) ((hH.ext bH.ext).put dE v) (hg.trans bH.ext) (hk.put wK v) hc
   · next dE jl=>
     rw[jl]at jF
     cases jF with
     |no hw=>
      unfold wpList
      rw[if_neg (by rw[hw];exact Bool.false_ne_true)]
      exact ny hS hQ r _ M _ H _ w ω wM (h.put Sb) (hH.put dE undef) hg (hk.put wK undef) he
   · next d want dE jl=>
     rw[jl]at jF
     cases jF with
     |ask _ _ hw=>
      have key: ∃t s u dq F' M',o.dst=some t/\t<N/\d≠t/\mW (ae M) u=true/\(a.tmps[d]? =some (.bool want)->(kP P sg Gl Γ F M nx H (eR H H.length d want) o.op).run (λs' u'=>s'=s/\u'=u))/\
       (∀q,look F' q=look ((t,.aK)::F) q)/\(∀q,ae M' q=ae (u++M) q)/\j_ P sg Gl Γ N ops.toList K r F' M' dq (⟨t,d,want,s⟩::H):=by
        have jn: ∀{t:Nat},(Nat.blt t N&&!Nat.beq d t)=true->t<N/\d≠t:=by
          intro t ht
          rw[Bool.and_eq_true,Bool.not_eq_true']at ht
          exact⟨Nat.le_of_ble_eq_true ht.1,λe=>by rw[e,Nat.beq_refl]at ht;cases ht.2⟩
        split at he
        · next t s fc hr=>
          split at he
          · next hc=>exact⟨t,s,[],nx,_,_,fc,(jn hc).1,(jn hc).2,rfl,λ_=>by rw[hr];exact⟨rfl,rfl⟩,λ_=>rfl,λ_=>rfl,he⟩
          · exact he.elim
        · next t p s fc hr=>
          split at he
          · next hc=>exact⟨t,s,[],nx,_,_,fc,(jn hc).1,(jn hc).2,rfl,λ_=>by rw[hr];exactλ_=>⟨rfl,rfl⟩,λ_=>rfl,λ_=>rfl,he⟩
          · exact he.elim
        · next t p s fc hr=>
          split at he
          · next hc=>
            obtain⟨F',M',hF,hM,tO⟩:=rZ he.2
            refine⟨t,s,[],nx,F',M',fc,(jn hc).1,(jn hc).2,rfl,λgP=>?_,hF,hM,tO⟩
            rw[hr]
            have hA:=lU hH H.length d want gP
            exact⟨uR (lO h.frame hA H hH) _ hA he.1,rfl,rfl⟩
          · exact he.elim
        · next t p s u fc hr=>
          split at he
          · next hc hu=>
            obtain⟨F',M',hF,hM,tO⟩:=rZ he.2
            refine⟨t,s,u,_,F',M',fc,(jn hc).1,(jn hc).2,hu,λgP=>?_,hF,hM,tO⟩
            rw[hr]
            have hA:=lU hH H.length d want gP
            exact⟨uR (lO h.frame hA H hH) _ hA he.1,rfl,rfl⟩
          · exact he.elim
        · exact he.elim
      obtain⟨t,s,u,dq,F',M',fc,ht,AZ,hu,fO,hF,hM,zx⟩:=key
      rw[fc]at dE
      by_cases gP:a.tmps[d]? =some (.bool want)
      · unfold wpList
        rw[if_pos (hw.2 gP)]
        obtain⟨s',u',hU,rfl,rfl⟩:=CH hS h hH (lU hH H.length d want gP) (fO gP)
        refine .inl (hU.wp h.mem ?_)
        intro v w' al hs kh
        have bH:=(h.step hs).aK ht v
        have Ga:=(hH.ext hs.ext).cons (t:=t) (d:=d) (want:=want) (s:=s') dE h.frame.size ht AZ (v:=v) (λ_=>kh) (λhn=>absurd gP hn)
        have wN:=hk.put wK v
        rw[fc]at wN⊢
        exact ny hS hQ r _ _ _ _ _ w' al wM (bH.congr hF hM) Ga (hg.trans hs.ext) wN zx
      · have F6:Region.wanted o (yielded ops a.tmps)=false:=by
          cases hx:Region.wanted o (yielded ops a.tmps)with
          |false=>rfl
          |true=>exact absurd (hw.1 hx) gP
        unfold wpList
        rw[if_neg (by rw[F6];exact Bool.false_ne_true)]
        have bH:=(h.step (xw h.mem hu)).aK ht undef
        have Ga:=hH.cons (t:=t) (d:=d) (want:=want) (s:=s) dE h.frame.size ht AZ (v:=undef) (λhn=>absurd hn gP) (λ_=>rfl)
        have wN:=hk.put wK undef
        rw[fc]at wN⊢
        exact ny hS hQ r _ _ _ _ _ w ω wM (bH.congr hF hM) Ga hg wN zx
   · exact he.elim
end
end Go.Sy
set_option linter.unusedVariables false
set_option linter.unusedSimpArgs false
namespace Go.Sy
open Go.RowKit
def fB (m:Nat->bk) (κ:List Nat):Nat->Nat->Path->Option (Nat×Nat):=λk s p=>
  match p with
  |none=>kR m κ k s none
  |some _=>none
def kS:Nat->(Nat->Prop)->Prop
  |0,_=>True
  |n+1,p=>kS n p/\p n
theorem j4: ∀{n:Nat} {p:Nat->Prop},kS n p-> ∀j,j<n->p j
  |0,_,_,_,h=>absurd h (by omega)
  |n+1,p,⟨J,U⟩,j,h=>by
   rcases Nat.lt_or_ge j n with h'|h'
   · exact j4 J j h'
   · obtain rfl:j=n:=by omega
     exact U
def wG (x y:Value):Prop:=
  match x,y with
  | .int k a,.int k' b=>match qF k k' with|true=>a=b|false=>False
  | .string a,.string b=>a=b
  | .bool a,.bool b=>a=b
  |x,y=>x=y
theorem Dx {x y:Value} (h:wG x y):x=y:=by
  unfold wG at h
  split at h
  · split at h
    · next hk=>rw[uy hk,h]
    · exact h.elim
  · rw[h]
  · rw[h]
  · exact h
def Em:Path->Path->Bool
  |none,none=>true
  |some (i,j),some (i',j')=>Nat.beq i i'&&Nat.beq j j'
  |_,_=>false
theorem Ti {p q:Path} (h:Em p q=true):p=q:=by
  cases p with
  |none=>cases q<;>first|rfl|cases h
  |some x=>
   cases q with
   |none=>cases h
   |some y=>
    simp only[Em,Bool.and_eq_true]at h
    rw[Prod.ext (Nat.eq_of_beq_eq_true h.1) (Nat.eq_of_beq_eq_true h.2)]
def qB:Bool->Bool->Bool
  |true,false=>false
  |_,_=>true
def F8 (t tf:Nat) (e z:Int):SV->Prop
  | .v .nilIface=>e=0/\z= -1
  | .v (.iface t' (.int .i64 c))=>match Nat.beq t' t with|true=>c≠0/\e=c/\z= -1|false=>False
  | .er t' F9 e' z'=>match Nat.beq t' t,Nat.beq F9 tf with|true,true=>e'=e/\z'=z|_,_=>False
  | .ic t' (.pt false n f)=>
    match Nat.beq t' tf,Nat.ble 2 n,f 0,f 1 with
    |true,true,.v (.int .i64 a),.v (.iface t2 (.int .i64 c))=>(match Nat.beq t2 t with|true=>c≠0/\0<=a/\e=c/\z=a|false=>False)
    |true,true,.v (.int .i64 a),.er t2 _ c b=>(match Nat.beq t2 t with|true=>c≠0/\b= -1/\0<=a/\e=c/\z=a|false=>False)
    |_,_,_,_=>False
  |_=>False
theorem kH {w:World} {o:Ow} {t tf:Nat} {e z:Int} {a:SV} {u:Value} (h:F8 t tf e z a) (hd:Den w o a u):Den w o (.er t tf e z) u:=by
  unfold F8 at h
  split at h
  · exact .inl ⟨h.1,h.2,hd⟩
  · split at h
    · next hb=>obtain rfl:=Nat.eq_of_beq_eq_true hb;exact .inr (.inl ⟨by rw[h.2.1];exact h.1,h.2.2,by rw[h.2.1];exact hd⟩)
    · exact h.elim
  · split at h
    · next J U=>rw[<-Nat.eq_of_beq_eq_true J,<-Nat.eq_of_beq_eq_true U,<-h.1,<-h.2];exact hd
    · exact h.elim
  · split at h
    · next hb hn h0 J=>
      split at h
      · next jT=>
        obtain rfl:=Nat.eq_of_beq_eq_true hb
        obtain rfl:=Nat.eq_of_beq_eq_true jT
        have hn:=Nat.le_of_ble_eq_true hn
        obtain⟨hc,ha,rfl,rfl⟩:=h
        obtain⟨x,rfl,q,rfl,hj⟩:=hd
        obtain⟨x0,c0,n0,d0⟩:=hj 0 (by omega)
        obtain⟨x1,c1,_,d1⟩:=hj 1 (by omega)
        rw[h0]at d0
        rw[J]at d1
        obtain rfl:=d0
        obtain rfl:=d1
        exact .inr (.inr ⟨hc,ha,q,rfl,n0.1,n0.2 rfl,c0,c1⟩)
      · exact h.elim
    · next hb hn h0 J=>
      split at h
      · next jT=>
        obtain rfl:=Nat.eq_of_beq_eq_true hb
        obtain rfl:=Nat.eq_of_beq_eq_true jT
        have hn:=Nat.le_of_ble_eq_true hn
        obtain⟨hc,hb1,ha,rfl,rfl⟩:=h
        obtain⟨x,rfl,q,rfl,hj⟩:=hd
        obtain⟨x0,c0,n0,d0⟩:=hj 0 (by omega)
        obtain⟨x1,c1,_,d1⟩:=hj 1 (by omega)
        rw[h0]at d0
        rw[J]at d1
        obtain rfl:=d0
        rcases d1 with⟨g,_⟩|⟨_,_,rfl⟩|⟨_,g,_⟩
        · exact absurd g hc
        · exact .inr (.inr ⟨hc,ha,q,rfl,n0.1,n0.2 rfl,c0,c1⟩)
        · omega
      · exact h.elim
    · exact h.elim
  · exact h.elim
def eQ (a b:SV):Prop:=
  match b with
  | .aK=>True
  | .er t tf e z=>F8 t tf e z a
  |b=>
   match a with
   | .v x=>(match b with| .v y=>wG x y| .bl y=>wG x (.bool y)| .sl _ _ n _=>(match x with| .slice none 0 0=>n=0|_=>False)|_=>False)
   | .bl x=>(match b with| .v y=>wG (.bool x) y| .bl y=>x=y|_=>False)
   | .aV k s p e n=>(match b with| .aV k' s' p' e' n'=>(match Nat.beq k k',Nat.beq s s',Em p p' with|true,true,true=>e=e'/\n=n'|_,_,_=>False)|_=>False)
   | .ag n f=>(match b with| .ag n' f'=>(match Nat.beq n n' with|true=>kS n' λj=>eQ (f j) (f' j)|false=>False)|_=>False)
   | .tp n f=>(match b with| .tp n' f'=>(match Nat.beq n n' with|true=>kS n' λj=>eQ (f j) (f' j)|false=>False)|_=>False)
   | .pt q n f=>(match b with| .pt q' n' f'=>(match Nat.ble n' n,qB q q' with|true,true=>kS n' λj=>eQ (f j) (f' j)|_,_=>False)|_=>False)
   | .ic t s=>(match b with| .ic t' s'=>(match Nat.beq t t' with|true=>eQ s s'|false=>False)|_=>False)
   | .sl q sz n f=>(match b with| .sl q' gz n' f'=>(match Nat.beq sz gz,qB q q' with|true,true=>n=n'/\ ∀i,i<n'->kS gz λj=>eQ (f i j) (f' i j)|_,_=>False)|_=>False)
   | .fn id n f=>(match b with| .fn wH n' f'=>(match Nat.beq id wH,Nat.beq n n' with|true,true=>kS n' λj=>eQ (f j) (f' j)|_,_=>False)|_=>False)
   | .bm id s=>(match b with| .bm wH s'=>(match Nat.beq id wH with|true=>eQ s s'|false=>False)|_=>False)
   | .pa q sz n f=>(match b with| .pa q' gz n' f'=>(match Nat.beq sz gz,qB q q' with|true,true=>n=n'/\ ∀i,i<n'->kS gz λj=>eQ (f i j) (f' i j)|_,_=>False)|_=>False)
   | .es=>(match b with| .es=>True| .sl _ _ n _=>n=0|_=>False)
   |a=>a=b
theorem p5 {w:World} {a:SV}: ∀{b:SV} {o:Ow} {u:Value},eQ a b->Den w o a u->Den w o b u:=by
  induction a with
  |v x=>
   intro b o u h hd
   cases b<;>first|trivial|exact kH h hd|exact h.elim|skip
   · obtain rfl:=Dx h;exact hd
   · have:=Dx h;subst this;exact hd
   · next q sz n f=>
     simp only[eQ]at h
     split at h
     · subst h
       have hd:u= .slice none 0 0:=hd
       subst hd
       exact⟨none,0,rfl,Nat.le_refl _,Nat.zero_le _,.inl rfl⟩
     · exact h.elim
  |bl x=>
   intro b o u h hd
   cases b<;>first|trivial|exact kH h hd|exact h.elim|skip
   · obtain rfl:=Dx h;exact hd
   · have h:_=_:=h;subst h;exact hd
  |es=>
   intro b o u h hd
   obtain⟨p,rfl⟩:=hd
   cases b<;>first|trivial|exact kH h ⟨p,rfl⟩|exact h.elim|skip
   · have h:_=0:=h
     subst h
     exact⟨p,0,rfl,Nat.le_refl _,Nat.zero_le _,.inl rfl⟩
   · exact⟨p,rfl⟩
  |aV k s p e n=>
   intro b o u h hd
   cases b<;>first|trivial|exact kH h hd|exact h.elim|skip
   simp only[eQ]at h
   split at h
   · next J U h3=>rw[<-Nat.eq_of_beq_eq_true J,<-Nat.eq_of_beq_eq_true U,<-Ti h3,<-h.1,<-h.2];exact hd
   · exact h.elim
  |pt q n f ih=>
   intro b o u h hd
   cases b<;>first|trivial|exact kH h hd|exact h.elim|skip
   next q' n' f'=>
   simp only[eQ]at h
   split at h
   · next J U=>
     have J:=Nat.le_of_ble_eq_true J
     obtain⟨a,rfl,hj⟩:=hd
     refine⟨a,rfl,λj br=>?_⟩
     obtain⟨x,hc,hf,hx⟩:=hj j (by omega)
     have hq:q'=false->q=false:=λe=>by subst e;cases q<;>first|rfl|cases U
     exact⟨x,hc,⟨hf.1,λe=>hf.2 (hq e)⟩,ih j (j4 h j br) hx⟩
   · exact h.elim
  |ag n f ih=>
   intro b o u h hd
   cases b<;>first|trivial|exact kH h hd|exact h.elim|skip
   simp only[eQ]at h
   split at h
   · next J=>
     obtain rfl:=Nat.eq_of_beq_eq_true J
     obtain⟨cs,rfl,hs,hj⟩:=hd
     exact⟨cs,rfl,hs,λj br=>let⟨x,e1,e2⟩:=hj j br;⟨x,e1,ih j (j4 h j br) e2⟩⟩
   · exact h.elim
  |tp n f ih=>
   intro b o u h hd
   cases b<;>first|trivial|exact kH h hd|exact h.elim|skip
   simp only[eQ]at h
   split at h
   · next J=>
     obtain rfl:=Nat.eq_of_beq_eq_true J
     obtain⟨cs,rfl,hs,hj⟩:=hd
     exact⟨cs,rfl,hs,λj br=>let⟨x,e1,e2⟩:=hj j br;⟨x,e1,ih j (j4 h j br) e2⟩⟩
   · exact h.elim
  |fn id n f ih=>
   intro b o u h hd
   cases b<;>first|trivial|exact kH h hd|exact h.elim|skip
   simp only[eQ]at h
   split at h
   · next h0 J=>
     obtain rfl:=Nat.eq_of_beq_eq_true h0
     obtain rfl:=Nat.eq_of_beq_eq_true J
     obtain⟨cs,rfl,hs,hj⟩:=hd
     exact⟨cs,rfl,hs,λj br=>let⟨x,e1,e2⟩:=hj j br;⟨x,e1,ih j (j4 h j br) e2⟩⟩
   · exact h.elim
  |bm id s ih=>
   intro b o u h hd
   cases b<;>first|trivial|exact kH h hd|exact h.elim|skip
   simp only[eQ]at h
   split at h
   · next J=>
     obtain rfl:=Nat.eq_of_beq_eq_true J
     obtain⟨x,rfl,hx⟩:=hd
     exact⟨x,rfl,ih h hx⟩
   · exact h.elim
  |pa q sz n f ih=>
   intro b o u h hd
   cases b<;>first|trivial|exact kH h hd|exact h.elim|skip
   next q' gz n' f'=>
   simp only[eQ]at h
   split at h
   · next J U=>
     obtain rfl:=Nat.eq_of_beq_eq_true J
     obtain⟨rfl,h⟩:=h
     obtain⟨a,rfl,hk⟩:=hd
     refine⟨a,rfl,λi hi j br=>?_⟩
     obtain⟨x,hc,hf,hx⟩:=hk i hi j br
     have hq:q'=false->q=false:=λe=>by subst e;cases q<;>first|rfl|cases U
     exact⟨x,hc,⟨hf.1,λe=>hf.2 (hq e)⟩,ih i j (j4 (h i hi) j br) hx⟩
   · exact h.elim
  |ic t s ih=>
   intro b o u h hd
   cases b<;>first|trivial|exact kH h hd|exact h.elim|skip
   simp only[eQ]at h
   split at h
   · next J=>
     obtain rfl:=Nat.eq_of_beq_eq_true J
     obtain⟨x,rfl,hx⟩:=hd
     exact⟨x,rfl,ih h hx⟩
   · exact h.elim
  |sl q sz n f ih=>
   intro b o u h hd
   cases b<;>first|trivial|exact kH h hd|exact h.elim|skip
   next q' gz n' f'=>
   simp only[eQ]at h
   split at h
   · next J U=>
     obtain rfl:=Nat.eq_of_beq_eq_true J
     obtain⟨rfl,h⟩:=h
     obtain⟨p,cap,rfl,iO,gQ,hj⟩:=hd
     refine⟨p,cap,rfl,iO,gQ,hj.imp id ?_⟩
     rintro ⟨a,e,hk⟩
     refine⟨a,e,λi hi j br=>?_⟩
     obtain⟨x,hc,hf,hx⟩:=hk i hi j br
     have hq:q'=false->q=false:=λe=>by subst e;cases q<;>first|rfl|cases U
     exact⟨x,hc,⟨hf.1,λe=>hf.2 (hq e)⟩,ih i j (j4 (h i hi) j br) hx⟩
   · exact h.elim
  |_=>intro b o u h hd;cases b<;>first|trivial|exact kH h hd|(have h:_=_:=h;cases h;exact hd)|(have h:_=_:=h;cases h)
theorem WW {a b:SV} (h:eQ a b) (hb:cM b=true):a=b:=by
  cases b with
  |il sz n f=>cases a<;>first|exact h.elim|exact h
  |_=>cases hb
def tM:SV->SV->Prop
  | .il sz n f,.il gz n' f'=>match Nat.beq sz gz with|true=>n=n'/\ ∀a,a<n'->kS gz λb=>eQ (f a b) (f' a b)|false=>False
  | .il _ _ _,_=>False
  |a,b=>eQ a b
def wI:bh->bh->Prop
  | .cells l,.cells l'=>match Nat.beq l.length l'.length with|true=>kS l'.length λj=>tM (aH l j) (aH l' j)|false=>False
  | .row sz n f,.row gz n' f'=>match Nat.beq sz gz with|true=>n=n'/\ ∀i,i<n'->kS gz λj=>tM (f i j) (f' i j)|false=>False
  |_,_=>False
def ly:List bh->List bh->Prop
  | [],[]=>True
  |a::r,b::t=>wI a b/\ly r t
  |_,_=>False
theorem yl: ∀{l l':List bh},ly l l'->l.length=l'.length
  | [],[],_=>rfl
  |_::_,_::_,⟨_,h⟩=>by simp[yl h]
  | [],_::_,h=>h.elim
  |_::_,[],h=>h.elim
theorem ym: ∀{l l':List bh},ly l l'-> ∀{q:Nat} {a b:bh},l[q]? =some a->l'[q]? =some b->wI a b
  | [],_,_,_,_,_,h,_=>by simp at h
  |_::_,_::_,⟨J,_⟩,0,a,b,ha,hb=>by simp at ha hb;subst ha;subst hb;exact J
  |_::_,_::_,⟨_,U⟩,q+1,a,b,ha,hb=>ym U (by simpa using ha) (by simpa using hb)
  |_::_,[],h,_,_,_,_,_=>h.elim
def m0:bh->Nat->Nat->Bool
  | .row sz n _,i,j=>Nat.blt i n&&Nat.blt j sz
  |_,_,_=>true
def eH (ω:Ow) (κ:List Nat) (B:List bh):Ow:=
  let β:Nat->Path->Option Loc:=λq p=>
    match κ[q]? with
    |some k=>(match p with|none=>ω.β k none|some ij=>match m0 (B.getD q .dead) ij.1 ij.2 with|true=>ω.β k (some ij)|false=>none)
    |none=>none
  ⟨ω.A,ω.Z,β,λ_=>(0,0)⟩
section
variable {P:Program} {w:World} {ω:Ow} {M:Mem}
theorem sQ {κ:List Nat} {B:List bh} {q:Nat} {p:Path} {L:Loc} (h:(eH ω κ B).β q p=some L): ∃k,κ[q]? =some k/\ω.β k p=some L/\ ∀i j,p=some (i,j)->m0 (B.getD q .dead) i j=true:=by
  simp only[eH]at h
  split at h
  · next k hk=>
    cases p with
    |none=>exact⟨k,hk,h,λ_ _ e=>by cases e⟩
    |some ij=>
     simp only at h
     split at h
     · next hr=>exact⟨k,hk,h,λi j e=>by obtain rfl:=Option.some.inj e;exact hr⟩
     · cases h
  · cases h
theorem xB {κ:List Nat} {B:List bh} {q k:Nat} (hk:κ[q]? =some k):(eH ω κ B).β q none=ω.β k none:=by
  show(match κ[q]? with
    |some k=>_
    |none=>none)=_
  rw[hk]
theorem BC {κ:List Nat} {B:List bh} {q k i j:Nat} (hk:κ[q]? =some k) (hr:m0 (B.getD q .dead) i j=true):(eH ω κ B).β q (some (i,j))=ω.β k (some (i,j)):=by
  show(match κ[q]? with
    |some k=>(match m0 (B.getD q .dead) i j with|true=>ω.β k (some (i,j))|false=>none)
    |none=>none)=_
  rw[hk]
  simp only[hr]
theorem Tj (hm:aR w ω M) (κ:List Nat) (B:List bh):oZ ω (eH ω κ B) (fB (ae M) κ):=by
  intro k s p k' s' h
  unfold fB at h
  split at h
  · unfold kR at h
    split at h
    · next q hq=>
      split at h
      · next bC=>
        simp only[Option.some.injEq,Prod.mk.injEq]at h
        obtain⟨rfl,rfl⟩:=h
        exact⟨js hm bC,rfl,xB (kG hq)⟩
      · cases h
    · cases h
  · cases h
theorem uq (κ:List Nat) (B:List bh):Ext w ω.bare w (eH ω κ B).bare:=
  ⟨rfl,rfl,rfl,λ_ _ _=>rfl,λ_ _ h=>h,λ_ _ _ h=>h,Nat.le_refl _,λ_=>⟨Nat.le_refl _,Nat.le_refl _⟩,λ_ _ _ h=>(by cases h),λ_ h=>h⟩
theorem Vh (κ:List Nat) (B:List bh):vP false w ω (eH ω κ B):=λ_ _ _ _ J U=>⟨J,U⟩
theorem uC (hm:aR w ω M) (κ:List Nat) (B:List bh) {s:SV} {x:Value} (h:Den w ω s x):Den w (eH ω κ B) (da (fB (ae M) κ) false s) x:=
  xT (Tj hm κ B) (λ_=>uq κ B) (Vh κ B) h
theorem Mx {sz n:Nat} {f:Nat->Nat->SV} {b:SV} (h:tM (.il sz n f) b): ∃f',b= .il sz n f'/\ ∀i,i<n-> ∀j,j<sz->eQ (f i j) (f' i j):=by
  cases b with
  |il gz n' f'=>
   simp only[tM]at h
   split at h
   · next hs=>
     obtain rfl:=Nat.eq_of_beq_eq_true hs
     obtain⟨rfl,h⟩:=h
     exact⟨f',rfl,λi hi j hj=>j4 (h i hi) j hj⟩
   · exact h.elim
  |_=>exact h.elim
theorem I2 {k i j:Nat} {a b:SV} {x:Value} (h:tM a b) (hc:cF w ω none k i j a x):cF w ω none k i j b x:=by
  cases cX:cM a with
  |true=>
   cases a with
   |il sz n f=>obtain⟨f',rfl,_⟩:=Mx h;exact hc
   |_=>cases cX
  |false=>
   have h':eQ a b:=by cases a<;>first|exact h|cases cX
   rw[fq cX]at hc
   cases hb:cM b with
   |true=>rw[WW h' hb,hb]at cX;cases cX
   |false=>rw[fq hb];exact p5 h' hc
theorem Kn (hm:aR w ω M) {κ:List Nat} {B:List bh} (pG:κ.Nodup) (hw: ∀k∈κ,whole (ae M k)=true)
    (ha:ly (κ.map λk=>iM (fB (ae M) κ) false (ae M k).b) B):aR w (eH ω κ B) (di 0 B):=by
  have lD: ∀{q k:Nat},κ[q]? =some k-> ∃b,B[q]? =some b/\B.getD q .dead=b/\wI (iM (fB (ae M) κ) false (ae M k).b) b:=by
    intro q k hk
    have hl:=yl ha
    rw[List.length_map]at hl
    have hq:=(List.getElem?_eq_some_iff.1 hk).1
    have hb:B[q]? =some B[q]:=List.getElem?_eq_getElem (by omega)
    refine⟨B[q],hb,by rw[List.getD_eq_getElem?_getD,hb];rfl,ym ha (a:=iM (fB (ae M) κ) false (ae M k).b) (by rw[List.getElem?_map,hk];rfl) hb⟩
  have kB: ∀{s:SV} {x:Value},Den w ω s x->Den w (eH ω κ B) (da (fB (ae M) κ) false s) x:=λh=>uC hm κ B h
  refine⟨(xG _).symm,?_,hm.d_,hm.dj,hm.fD,?_,?_,?_,?_,?_⟩
  · rintro b ⟨q,p,L,h,rfl⟩
    obtain⟨k,_,U,_⟩:=sQ h
    exact hm.own _ ⟨k,p,L,U,rfl⟩
  · intro q p L q' p' L' J U e
    obtain⟨k,e1,e2,_⟩:=sQ J
    obtain⟨k',e3,e4,_⟩:=sQ U
    obtain⟨rfl,rfl⟩:=hm.inj _ _ _ _ _ _ e2 e4 e
    have:=(uG pG e1).symm.trans (uG pG e3)
    exact⟨Option.some.inj this,rfl⟩
  · intro q p L h
    obtain⟨k,_,U,_⟩:=sQ h
    exact hm.low _ _ _ U
  · intro q p L h
    obtain⟨k,e1,e2,e3⟩:=sQ h
    obtain⟨b,hb,F_,fQ⟩:=lD e1
    have jg:=I3 (hw k (List.mem_of_getElem? e1))
    obtain⟨r,g1,g2,g3,c,T,g4,g5,g6,g7⟩:=hm.row _ _ _ e2
    rw[jg]at g7
    have he:ae (di 0 B) q=⟨0,0,none,b⟩:=by rw[kC,hb]
    rw[F_]at e3
    unfold rowAt at g1⊢
    rw[he]
    have fin: ∀{r':Row},fC b p=some r'->r'.sz=r.sz->r'.n=r.n->(∀i,i<r.n-> ∀j,j<r.sz-> ∀x,gD w ω none k p i j (r.f i j) x->gD w (eH ω κ B) none q p i j (r'.f i j) x)->
     ∃r',fC b p=some r'/\r'.sz=L.sz/\r'.n=L.cY/\ma w (eH ω κ B) none q p L r':=by
      intro r' f1 f2 f3 f4
      refine⟨r',f1,f2.trans g2,f3.trans g3,c,T,g4,g5,g6,λi hi j hj=>?_⟩
      obtain⟨x,x1,x2⟩:=g7 i hi j hj
      exact⟨x,x1,f4 i (by rw[g3];exact hi) j (by rw[g2];exact hj) x x2⟩
    cases jD:(ae M k).b with
    |dead=>exact absurd jD (CD (hw k (List.mem_of_getElem? e1)))
    |cells l=>
     rw[jD]at fQ g1
     cases p with
     |some ij=>cases g1
     |none=>
      obtain rfl:=Option.some.inj g1
      cases b with
      |dead=>exact fQ.elim
      |row _ _ _=>exact fQ.elim
      |cells l'=>
       simp only[iM,wI,List.length_map]at fQ
       split at fQ
       · next hlen=>
         have hlen:=Nat.eq_of_beq_eq_true hlen
         refine fin (r':=⟨l'.length,1,λ_ j=>aH l' j⟩) rfl hlen.symm rfl ?_
         intro i hi j hj x hx
         have hj:j<l.length:=hj
         have hi:i<1:=hi
         have A1:i=0:=by omega
         subst A1
         have hx:cF w ω none k 0 j (aH l j) x:=hx
         have hq:=j4 fQ j (by omega)
         have eh:aH (l.map λs=>da (fB (ae M) κ) false s) j=da (fB (ae M) κ) false (aH l j):=by simp[aH,List.getD_eq_getElem?_getD,hj]
         rw[eh]at hq
         show cF w (eH ω κ B) none q 0 j (aH l' j) x
         exact I2 hq (xx kB (BC e1 (by rw[F_];rfl)) hx)
       · exact fQ.elim
    |row sz n f=>
     rw[jD]at fQ g1
     cases b with
     |dead=>exact fQ.elim
     |cells _=>exact fQ.elim
     |row gz n' f'=>
      simp only[iM,wI]at fQ
      split at fQ
      · next bV=>
        obtain rfl:=Nat.eq_of_beq_eq_true bV
        obtain⟨rfl,fQ⟩:=fQ
        cases p with
        |none=>
         obtain rfl:=Option.some.inj g1
         refine fin (r':=⟨sz,n,f'⟩) rfl rfl rfl ?_
         intro i hi j hj x hx
         have hc:=j4 (fQ i hi) j hj
         have bT:m0 (B.getD q .dead) i j=true:=by
           rw[F_]
           simp only[m0,Bool.and_eq_true]
           exact⟨Nat.ble_eq_true_of_le hi,Nat.ble_eq_true_of_le hj⟩
         have hx:cF w ω none k i j (f i j) x:=hx
         have dt:=xx (d:=false) kB (BC (B:=B) e1 bT) hx
         show cF w (eH ω κ B) none q i j (f' i j) x
         exact I2 hc dt
        |some ij=>
         obtain⟨i,j⟩:=ij
         have bT:=e3 i j rfl
         simp only[m0,Bool.and_eq_true]at bT
         have hi:i<n:=Nat.le_of_ble_eq_true bT.1
         have hj:j<sz:=Nat.le_of_ble_eq_true bT.2
         have hc:=j4 (fQ i hi) j hj
         have g1:inner ⟨sz,n,f⟩ i j=some r:=g1
         unfold inner at g1
         split at g1
         · next bp n2 g hg=>
           obtain rfl:=Option.some.inj g1
           have hg:f i j= .il bp n2 g:=hg
           rw[hg]at hc
           obtain⟨g',e,hgg⟩:=Mx (show tM (.il bp n2 λa b=>da (fB (ae M) κ) false (g a b)) (f' i j)from hc)
           refine fin (r':=⟨bp,n2,g'⟩) ?_ rfl rfl ?_
           · show inner ⟨sz,n,f'⟩ i j=_
             unfold inner
             simp only[e]
           · intro a ha b hb x hx
             have hx:Den w ω (g a b) x:=hx
             show Den w (eH ω κ B) (g' a b) x
             exact p5 (hgg a ha b hb) (kB hx)
         · cases g1
      · exact fQ.elim
  · intro q l hl
    rw[kC]at hl
    cases hb:B[q]? with
    |none=>rw[hb]at hl;cases hl
    |some b=>
     rw[hb]at hl
     have hl:b= .cells l:=hl
     have hlen:=yl ha
     rw[List.length_map]at hlen
     have hq:=(List.getElem?_eq_some_iff.1 hb).1
     have hk:κ[q]? =some κ[q]:=List.getElem?_eq_getElem (by omega)
     obtain⟨b',dQ,_,fQ⟩:=lD hk
     obtain rfl:b=b':=Option.some.inj (hb.symm.trans dQ)
     subst hl
     rw[xB hk]
     cases jD:(ae M κ[q]).b with
     |dead=>rw[jD]at fQ;exact fQ.elim
     |row _ _ _=>rw[jD]at fQ;exact fQ.elim
     |cells l0=>exact hm.live _ _ jD
  · intro q i j h
    rw[kC]at h
    split at h<;>cases h
end
end Go.Sy
