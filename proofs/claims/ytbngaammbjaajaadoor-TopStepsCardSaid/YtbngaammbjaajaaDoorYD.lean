/-
  Sy, part 13: calls.
-/
import Derived.Test.YtbngaammbjaajaaDoorYC
set_option linter.unusedVariables false
set_option linter.unusedSimpArgs false
set_option linter.unusedVariables false
set_option linter.unusedSimpArgs false
namespace Go.Sy
open Go.RowKit
/-! ### what is lent to be written -/
def gR:SV->List Nat
  | .ptr k _ _ _ _=> [k]
  | .pe k _ _ _ _ _ _=> [k]
  | .aC k _ _ _ _=> [k]
  | .sa k _ _ _ _ _=> [k]
  | .ag n f=>(List.range n).flatMap λj=>gR (f j)
  | .tp n f=>(List.range n).flatMap λj=>gR (f j)
  | .fn _ n f=>(List.range n).flatMap λj=>gR (f j)
  | .bm _ s=>gR s
  | .mv _ s=>gR s
  | .ic _ s=>gR s
  |_=> []
def reach (m:Nat->ao):Nat->List Nat->List Nat->List Nat
  |0,_,acc=>acc
  |_+1,[],acc=>acc
  |d+1,k::r,acc=>
   match aT acc k with
   |true=>reach m d r acc
   |false=>
    match (m k).b with
    | .cells l=>reach m d (l.flatMap gR++r) (acc++ [k])
    | .row _ _ _=>reach m d r (acc++ [k])
    | .dead=>reach m d r acc
def idx:List Nat->Nat->Option Nat
  | [],_=>none
  |x::r,k=>match Nat.beq x k with|true=>some 0|false=>match idx r k with|some q=>some (q+1)|none=>none
theorem fl: ∀{l:List Nat} {k q:Nat},idx l k=some q->l[q]? =some k
  | [],_,_,h=>by cases h
  |x::r,k,q,h=>by
   unfold idx at h
   split at h
   · next hb=>obtain rfl:=Option.some.inj h;simp[Nat.eq_of_beq_eq_true hb]
   · split at h
     · next q' hq=>obtain rfl:=Option.some.inj h;simpa using fl hq
     · cases h
theorem lh: ∀{l:List Nat} {k:Nat},idx l k=none->k∉l
  | [],_,_=>by simp
  |x::r,k,h=>by
   unfold idx at h
   split at h
   · cases h
   · next hb=>
     split at h
     · cases h
     · next hq=>simp[lh hq,Ne.symm (beq_false hb)]
def nodupB:List Nat->Bool
  | []=>true
  |x::r=>!aT r x&&nodupB r
theorem la: ∀{l:List Nat},nodupB l=true->l.Nodup
  | [],_=>List.nodup_nil
  |x::r,h=>by
   simp only[nodupB,Bool.and_eq_true,Bool.not_eq_true']at h
   refine List.nodup_cons.2 ⟨λhm=>?_,la h.2⟩
   rw[cU.2 hm]at h
   cases h.1
theorem mN {l:List Nat} (hl:l.Nodup) {k q:Nat} (h:l[q]? =some k):idx l k=some q:=by
  cases hi:idx l k with
  |none=>exact absurd (List.mem_of_getElem? h) (lh hi)
  |some q'=>
   have h':=fl hi
   obtain⟨U,h2⟩:=List.getElem?_eq_some_iff.1 h
   obtain⟨h3,h4⟩:=List.getElem?_eq_some_iff.1 h'
   have:=(List.getElem_inj hl).1 (h2.trans h4.symm)
   rw[this]
def fw (m:Nat->ao) (ks:List Nat):Nat->Nat->Path->Option (Nat×Nat):=λk s p=>
  match idx ks k with
  |some q=>match aR m k s p with|true=>some (q,0)|false=>none
  |none=>none
def dC (φ:Nat->Nat->Path->Option (Nat×Nat)) (d:Bool):ar->ar
  | .dead=> .dead
  | .cells l=> .cells (l.map λs=>bc φ d s)
  | .row sz n f=> .row sz n λi j=>bc φ d (f i j)
def whole (e:ao):Bool:=match e.hl,e.b with|_,.dead=>false|none,_=>true|some _,_=>false
theorem xF {e:ao} (h:whole e=true):e.hl=none:=by
  unfold whole at h
  split at h
  · cases h
  · next hh _=>exact hh
  · cases h
theorem tz {e:ao} (h:whole e=true):e.b≠ .dead:=by
  intro hb
  unfold whole at h
  rw[hb]at h
  simp at h
def eA (J:Ow) (ks:List Nat):Ow:=
  let β:Nat->Path->Option Loc:=λq p=>match ks[q]? with|some k=>J.β k p|none=>none
  let A:Nat->Prop:=λb=> ∃q p L,β q p=some L/\L.b=b
  ⟨A,λb=>J.Z b\/(J.A b/\ ¬A b),β,λ_=>(0,0)⟩
section
variable {P:Program} {w:World} {J:Ow} {ρ:Operand->SV} {M:Mem} {a:Act}
theorem m7 {ks:List Nat} {q:Nat} {p:Path} {L:Loc} (h:(eA J ks).β q p=some L): ∃k,ks[q]? =some k/\J.β k p=some L:=by
  have h:(match ks[q]? with|some k=>J.β k p|none=>none)=some L:=h
  split at h
  · next k hk=>exact⟨k,hk,h⟩
  · cases h
theorem gQ (hm:ai w J M) {ks:List Nat} {b:Nat} (h:(eA J ks).A b):J.A b/\ ∃k∈ks,∃p L,J.β k p=some L/\L.b=b:=by
  obtain⟨q,p,L,U,h2⟩:=h
  obtain⟨k,h3,h4⟩:=m7 U
  exact⟨(hm.own b) ⟨k,p,L,h4,h2⟩,k,List.mem_of_getElem? h3,p,L,h4,h2⟩
theorem mO (hm:ai w J M) (ks:List Nat):Ext w J.bare w (eA J ks).bare where
  os:=rfl
  tape:=rfl
  output:=rfl
  same:=λ_ _ _=>rfl
  free:=λb _ h h'=>h (gQ hm h').1
  cI:=λb _ h hz h'=>h'.elim hz λE1=>h E1.1
  size:=Nat.le_refl _
  mono:=λ_=>⟨Nat.le_refl _,Nat.le_refl _⟩
  fU:=λ_ _ _ h=>by cases h
  zs:=λ_ h=> .inl h
theorem yj (hm:ai w J M) (ks:List Nat):nI false w J (eA J ks):=by
  intro b q hb _ U h2
  exact⟨λh=>U (gQ hm h).1,λhq h=>h.elim (h2 hq) λh=>U h.1⟩
theorem yi (hm:ai w J M) (ks:List Nat):jh J (eA J ks) (fw (aa M) ks):=by
  intro k s p k' s' h
  unfold fw at h
  split at h
  · next q hq=>
    split at h
    · next ay=>
      simp only[Option.some.injEq,Prod.mk.injEq]at h
      obtain⟨rfl,rfl⟩:=h
      refine⟨et hm ay,by cases p<;>rfl,?_⟩
      show(match ks[q]? with|some k=>J.β k p|none=>none)=_
      rw[fl hq]
    · cases h
  · cases h
theorem A_ {φ:Nat->Nat->Path->Option (Nat×Nat)} {d:Bool} {s:SV} (h:aX s=false):aX (bc φ d s)=false:=by
  cases s with
  |il _ _ _=>cases h
  |ptr k s p i j=>simp only[bc,de];split<;>rfl
  |pe k s p i j len z=>simp only[bc,de];split<;>rfl
  |aC k s p e n=>simp only[bc,de];split<;>rfl
  |sa k s p i j n=>simp only[bc,de];split<;>rfl
  |pt q n f=>cases d<;>cases q<;>rfl
  |sl q sz n f=>cases d<;>cases q<;>rfl
  |pa q sz n f=>cases d<;>cases q<;>rfl
  |_=>rfl
theorem xn {φ:Nat->Nat->Path->Option (Nat×Nat)} {d:Bool} {b:ar} {p:Path} {r:Row} (h:cy b p=some r): ∃r',cy (dC φ d b) p=some r'/\r'.sz=r.sz/\r'.n=r.n/\ ∀i j,i<r.n->j<r.sz->r'.f i j=bc φ d (r.f i j):=by
  cases p with
  |none=>
   cases b with
   |dead=>cases h
   |cells l=>
    obtain rfl:=Option.some.inj h
    refine⟨_,rfl,by simp,rfl,λi j _ hj=>?_⟩
    have hj:j<l.length:=hj
    simp[aq,List.getD_eq_getElem?_getD,hj]
   |row sz n f=>
    obtain rfl:=Option.some.inj h
    exact⟨_,rfl,rfl,rfl,λ_ _ _ _=>rfl⟩
  |some ij=>
   obtain⟨i,j⟩:=ij
   cases b with
   |dead=>cases h
   |cells l=>cases h
   |row sz n f=>
    have h:inner ⟨sz,n,f⟩ i j=some r:=h
    unfold inner at h
    split at h
    · next av n2 g hg=>
      obtain rfl:=Option.some.inj h
      have hg:f i j= .il av n2 g:=hg
      refine⟨⟨av,n2,λa b=>bc φ d (g a b)⟩,?_,rfl,rfl,λ_ _ _ _=>rfl⟩
      show inner ⟨sz,n,λi j=>bc φ d (f i j)⟩ i j=_
      unfold inner
      simp only[hg,bc,de]
    · cases h
theorem oW {w':World} {ae:Ow} {φ:Nat->Nat->Path->Option (Nat×Nat)} {d:Bool} (fj: ∀{s:SV} {x:Value},Den w J s x->Den w' ae (bc φ d s) x) {k k' i j:Nat} (a_:ae.β k' (some (i,j))=J.β k (some (i,j))) {s:SV} {x:Value} (h:aV w J none k i j s x):aV w' ae none k' i j (bc φ d s) x:=by
  cases hi:aX s with
  |false=>rw[cj hi]at h;rw[cj (A_ hi)];exact fj h
  |true=>
   cases s with
   |il sz n g=>
    rcases h with h|⟨⟨q,cap,y1,y2,y3,y4⟩,h2⟩
    · cases h
    · exact .inr ⟨⟨q,cap,y1,y2,y3,by rw[a_];exact y4⟩,λL hL=>h2 L (by rw[<-a_];exact hL)⟩
   |_=>cases hi
theorem BN (hm:ai w J M) {ks:List Nat} (jz:ks.Nodup) (hw: ∀k∈ks,whole (aa M k)=true):ai w (eA J ks) (bf 0 (ks.map λk=>dC (fw (aa M) ks) false (aa M k).b)) where
  cur:=(pd _).symm
  own:=λ_ h=>h
  bI:=λb h=>hm.bI b (gQ hm h).1
  dj:=λb h hz=>hz.elim (hm.dj b (gQ hm h).1) λhz=>hz.2 h
  cA:=λb hz=>hz.elim (hm.cA b) λhz=>hm.bI b hz.1
  inj:=λq p L q' p' L' U h2 e=>by
    obtain⟨k,e1,e2⟩:=m7 U
    obtain⟨k',e3,e4⟩:=m7 h2
    obtain⟨rfl,rfl⟩:=hm.inj _ _ _ _ _ _ e2 e4 e
    have:=(mN jz e1).symm.trans (mN jz e3)
    exact⟨Option.some.inj this,rfl⟩
  low:=λq p L h=>by
    obtain⟨k,e1,e2⟩:=m7 h
    exact hm.low _ _ _ e2
  row:=λq p L h=>by
    obtain⟨k,e1,e2⟩:=m7 h
    obtain⟨r,g1,g2,g3,c,T,g4,g5,g6,g7⟩:=hm.row _ _ _ e2
    obtain⟨r',f1,f2,f3,f4⟩:=xn (φ:=fw (aa M) ks) (d:=false) g1
    have he:aa (bf 0 (ks.map λk=>dC (fw (aa M) ks) false (aa M k).b)) q=⟨0,0,none,dC (fw (aa M) ks) false (aa M k).b⟩:=by
      rw[fk,List.getElem?_map,e1];rfl
    refine⟨r',by unfold rowAt;rw[he];exact f1,f2.trans g2,f3.trans g3,c,T,g4,g5,g6,λi hi j hj=>?_⟩
    obtain⟨x,x1,x2⟩:=g7 i hi j hj
    refine⟨x,x1,?_⟩
    rw[f4 i j (by rw[g3];exact hi) (by rw[g2];exact hj),he]
    have fj: ∀{s:SV} {x:Value},Den w J s x->Den w (eA J ks) (bc (fw (aa M) ks) false s) x:=λh=>pA (yi hm ks) (λ_=>mO hm ks) (yj hm ks) h
    cases p with
    |some _=>exact fj x2
    |none=>
     have d_:=xF (hw k (List.mem_of_getElem? e1))
     rw[d_]at x2
     refine oW fj ?_ x2
     show(match ks[q]? with|some k=>J.β k _|none=>none)=_
     rw[e1]
  live:=λq l h=>by
    rw[fk,List.getElem?_map]at h
    cases hq:ks[q]? with
    |none=>rw[hq]at h;cases h
    |some k=>
     rw[hq]at h
     have h:dC (fw (aa M) ks) false (aa M k).b= .cells l:=h
     cases hb:(aa M k).b with
     |dead=>rw[hb]at h;cases h
     |row _ _ _=>rw[hb]at h;cases h
     |cells l0=>
      obtain⟨L,hL⟩:=hm.live _ _ hb
      refine⟨L,?_⟩
      show(match ks[q]? with|some k=>J.β k none|none=>none)=_
      rw[hq];exact hL
  bN:=λq i j h=>by
   rw[fk]at h
   split at h<;>cases h
/-! ### behind the call -/
def iK (ks:List Nat) (m:Nat->ao) (k:Nat):Nat×Nat:=
  match aT ks k with
  |true=>(match (m k).b with| .cells _=>(m k).rs|_=>(m k).rs+1,(m k).ds+1)
  |false=>((m k).rs,(m k).ds)
def jA (dn ks:List Nat) (m:Nat->ao):Nat->Nat->Path->Option (Nat×Nat):=λq s p=>
  match dn[q]? with
  |some k=>match Nat.beq s 0 with|true=>some (k,match p with|none=>(iK ks m k).1|some _=>(iK ks m k).2)|false=>none
  |none=>none
def cO (ks:List Nat) (m:Nat->ao) (φ:Nat->Nat->Path->Option (Nat×Nat)):List Nat->List ar->ak
  |k::r,b::t=>(k,⟨(iK ks m k).1,(iK ks m k).2,none,dC φ true b⟩)::cO ks m φ r t
  |_,_=> []
theorem gj {ks:List Nat} {m:Nat->ao} {φ:Nat->Nat->Path->Option (Nat×Nat)} {M:Mem}: ∀{dn:List Nat} {bs:List ar} {k q:Nat} {b:ar},idx dn k=some q->bs[q]? =some b->
    aa (cO ks m φ dn bs++M) k=⟨(iK ks m k).1,(iK ks m k).2,none,dC φ true b⟩
  | [],_,_,_,_,h,_=>by cases h
  |x::r,[],_,_,_,_,h=>by simp at h
  |x::r,c::t,k,q,b,h,hb=>by
   unfold idx at h
   split at h
   · next he=>
     obtain rfl:=Nat.eq_of_beq_eq_true he
     obtain rfl:=Option.some.inj h
     simp only[List.getElem?_cons_zero,Option.some.injEq]at hb
     subst hb
     exact ba
   · next he=>
     split at h
     · next q' hq=>
       obtain rfl:=Option.some.inj h
       simp only[List.getElem?_cons_succ]at hb
       rw[cO,List.cons_append,aQ (beq_false he)]
       exact gj hq hb
     · cases h
theorem iY {ks:List Nat} {m:Nat->ao} {φ:Nat->Nat->Path->Option (Nat×Nat)} {M:Mem}: ∀{dn:List Nat} {bs:List ar} {k:Nat},idx dn k=none->aa (cO ks m φ dn bs++M) k=aa M k
  | [],_,_,_=>by simp[cO]
  |x::r,[],_,_=>by simp[cO]
  |x::r,c::t,k,h=>by
   have hn:=lh h
   simp only[List.mem_cons,not_or]at hn
   rw[cO,List.cons_append,aQ (Ne.symm hn.1)]
   refine iY ?_
   cases hi:idx r k with
   |none=>rfl
   |some q=>exact absurd (List.mem_of_getElem? (fl hi)) hn.2
theorem kq {l:List Nat} {k q:Nat} (h:idx l k=some q):q<l.length:=(List.getElem?_eq_some_iff.1 (fl h)).1
def jB (J ae:Ow) (ks dn:List Nat) (M':Mem):Ow:=
  let β:Nat->Path->Option Loc:=λk p=>match idx dn k with|some q=>ae.β q p|none=>J.β k p
  ⟨λb=>ae.A b\/(J.A b/\ ¬(eA J ks).A b),J.Z,β,bx M'⟩
theorem lP {ae:Ow} {ks dn:List Nat} {M':Mem} {k:Nat} {p:Path} {L:Loc} (h:(jB J ae ks dn M').β k p=some L):(∃q,idx dn k=some q/\ae.β q p=some L)\/(idx dn k=none/\J.β k p=some L):=by
  have h:(match idx dn k with|some q=>ae.β q p|none=>J.β k p)=some L:=h
  split at h
  · next q hq=>exact .inl ⟨q,hq,h⟩
  · next hq=>exact .inr ⟨hq,h⟩
structure cZ (w:World) (J:Ow) (M:Mem) (ks ns:List Nat) (aB:List ar) (w':World) (ae:Ow):Prop where
  hm:ai w J M
  nd:(ks++ns).Nodup
  wh: ∀k∈ks,whole (aa M k)=true
  fr: ∀k∈ns,aM (aa M) k=true
  len:aB.length=(ks++ns).length
  dB:vr w (eA J ks) w' ae
  mem:ai w' ae (bf 0 aB)
  gy: ∀q k l,ks[q]? =some k->(aa M k).b= .cells l->ae.β q none=J.β k none
section
variable {ks ns:List Nat} {aB:List ar} {w':World} {ae:Ow}
theorem cZ.apart (h:cZ w J M ks ns aB w' ae) {k:Nat} {p:Path} {L:Loc} (hk:idx (ks++ns) k=none) (hL:J.β k p=some L): ¬(eA J ks).A L.b:=by
  intro hA
  obtain⟨k',cC,p',L',U,h2⟩:=(gQ h.hm hA).2
  obtain⟨rfl,_⟩:=h.hm.inj _ _ _ _ _ _ U hL h2
  exact lh hk (List.mem_append_left _ cC)
theorem cZ.free (h:cZ w J M ks ns aB w' ae) {k:Nat} {p:Path} {L:Loc} (hk:idx (ks++ns) k=none) (hL:J.β k p=some L): ¬ae.A L.b:=h.dB.free _ (h.hm.low _ _ _ hL) (h.apart hk hL)
theorem cZ.hO (h:cZ w J M ks ns aB w' ae) {q:Nat} (hq:q<(ks++ns).length): ∃b,aB[q]? =some b:=⟨_,List.getElem?_eq_getElem (h.len▸hq)⟩
theorem cZ.new (h:cZ w J M ks ns aB w' ae) {k:Nat} (hk:k∈ns) (p:Path):J.β k p=none:=(eU h.hm (h.fr k hk)).2.2 p
variable (dn:List Nat) (kY:dn=ks++ns)
theorem cZ.ext (h:cZ w J M ks ns aB w' ae) (φ:Nat->Nat->Path->Option (Nat×Nat)):Ext w J w' (jB J ae ks (ks++ns) (cO ks (aa M) φ (ks++ns) aB++M)) where
  os:=h.dB.os
  tape:=h.dB.tape
  output:=h.dB.output
  same:=λb hb hn=>h.dB.same b hb λh'=>hn (gQ h.hm h').1
  free:=λb hb hn h'=>by
    rcases h' with h'|h'
    · exact h.dB.free b hb (λh'=>hn (gQ h.hm h').1) h'
    · exact hn h'.1
  cI:=λb _ _ hz=>hz
  size:=h.dB.size
  zs:=λ_ h=>h
  mono:=λk=>by
    rw[h.hm.cur]
    show(bx M k).1<=(bx _ k).1/\(bx M k).2<=(bx _ k).2
    unfold bx
    cases hi:idx (ks++ns) k with
    |none=>rw[iY hi];exact⟨Nat.le_refl _,Nat.le_refl _⟩
    |some q=>
     obtain⟨b,hb⟩:=h.hO (kq hi)
     rw[gj hi hb]
     simp only[iK]
     split
     · split<;>simp
     · simp
  fU:=λk p L hL aD=>by
   show(match idx (ks++ns) k with|some q=>ae.β q p|none=>J.β k p)=some L
   cases hi:idx (ks++ns) k with
   |none=>exact hL
   |some q=>
    obtain⟨b,hb⟩:=h.hO (kq hi)
    have hg:=fl hi
    rcases Nat.lt_or_ge q ks.length with hq|hq
    · rw[List.getElem?_append_left hq]at hg
      have aN:=cU.2 (List.mem_of_getElem? hg)
      rw[h.hm.cur]at aD
      have lK:(jB J ae ks (ks++ns) (cO ks (aa M) φ (ks++ns) aB++M)).cur=bx (cO ks (aa M) φ (ks++ns) aB++M):=rfl
      rw[lK]at aD
      cases p with
      |some ij=>
       have aD:(aa (cO ks (aa M) φ (ks++ns) aB++M) k).ds=(aa M k).ds:=aD
       rw[gj hi hb]at aD
       simp only[iK,aN]at aD
       omega
      |none=>
       have aD:(aa (cO ks (aa M) φ (ks++ns) aB++M) k).rs=(aa M k).rs:=aD
       rw[gj hi hb]at aD
       simp only[iK,aN]at aD
       cases eI:(aa M k).b with
       |dead=>exact absurd eI (tz (h.wh k (List.mem_of_getElem? hg)))
       |row _ _ _=>rw[eI]at aD;simp only at aD;omega
       |cells l=>exact(h.gy q k l hg eI).trans hL
    · rw[List.getElem?_append_right hq]at hg
      rw[h.new (List.mem_of_getElem? hg)]at hL
      cases hL
theorem cZ.ref (h:cZ w J M ks ns aB w' ae) (φ:Nat->Nat->Path->Option (Nat×Nat)):jh ae (jB J ae ks (ks++ns) (cO ks (aa M) φ (ks++ns) aB++M)) (jA (ks++ns) ks (aa M)):=by
  intro q s p k' s' he
  unfold jA at he
  split at he
  · next k hk=>
    split at he
    · next hs=>
      simp only[Option.some.injEq,Prod.mk.injEq]at he
      obtain⟨rfl,rfl⟩:=he
      have hi:=mN h.nd hk
      obtain⟨b,hb⟩:=h.hO (kq hi)
      refine⟨?_,?_,?_⟩
      · rw[Nat.eq_of_beq_eq_true hs,h.mem.cur,pd];cases p<;>rfl
      · show _=st (bx _) k p
        cases p with
        |none=>show _=(aa _ k).rs;rw[gj hi hb]
        |some _=>show _=(aa _ k).ds;rw[gj hi hb]
      · show(match idx (ks++ns) k with|some q=>ae.β q p|none=>J.β k p)=_
        rw[hi]
    · cases he
  · cases he
theorem cZ.ro (h:cZ w J M ks ns aB w' ae) (M':Mem):nI true w' ae (jB J ae ks (ks++ns) M'):=by
  intro b q hb hq U h2
  obtain rfl:=hq rfl
  have hz: ¬(eA J ks).Z b:=λhz=>h2 rfl (h.dB.cI b hz)
  refine⟨?_,λ_ kJ=>hz (.inl kJ)⟩
  rintro (h3|h3)
  · exact U h3
  · exact hz (.inr h3)
theorem cZ.den (h:cZ w J M ks ns aB w' ae) (φ:Nat->Nat->Path->Option (Nat×Nat)) {s:SV} {u:Value} (hd:Den w' ae s u):Den w' (jB J ae ks (ks++ns) (cO ks (aa M) φ (ks++ns) aB++M)) (bc (jA (ks++ns) ks (aa M)) true s) u:=pA (d:=true) (h.ref φ) (λe=>by cases e) (h.ro _) hd
theorem cZ.back (h:cZ w J M ks ns aB w' ae):ai w' (jB J ae ks (ks++ns) (cO ks (aa M) (jA (ks++ns) ks (aa M)) (ks++ns) aB++M)) (cO ks (aa M) (jA (ks++ns) ks (aa M)) (ks++ns) aB++M) where
  cur:=rfl
  own:=by
    rintro b ⟨k,p,L,U,rfl⟩
    rcases lP U with⟨q,g1,g2⟩|⟨g1,g2⟩
    · exact .inl (h.mem.own _ ⟨q,p,L,g2,rfl⟩)
    · exact .inr ⟨h.hm.own _ ⟨k,p,L,g2,rfl⟩,h.apart g1 g2⟩
  bI:=λb hb=>hb.elim (h.mem.bI b) λhb=>Nat.lt_of_lt_of_le (h.hm.bI b hb.1) h.dB.size
  dj:=λb hb hz=>hb.elim (λhb=>h.mem.dj b hb (h.dB.cI b (.inl hz))) λhb=>h.hm.dj b hb.1 hz
  cA:=λb hz=>Nat.lt_of_lt_of_le (h.hm.cA b hz) h.dB.size
  inj:=λk p L k' p' L' U h2 e=>by
    rcases lP U with⟨q,g1,g2⟩|⟨g1,g2⟩<;>rcases lP h2 with⟨q',g3,g4⟩|⟨g3,g4⟩
    · obtain⟨rfl,rfl⟩:=h.mem.inj _ _ _ _ _ _ g2 g4 e
      exact⟨Option.some.inj ((fl g1).symm.trans (fl g3)),rfl⟩
    · exact absurd ((h.mem.own _) ⟨_,_,_,g2,e⟩) (h.free g3 g4)
    · exact absurd ((h.mem.own _) ⟨_,_,_,g4,e.symm⟩) (h.free g1 g2)
    · exact h.hm.inj _ _ _ _ _ _ g2 g4 e
  low:=λk p L U=>by
    rcases lP U with⟨q,g1,g2⟩|⟨g1,g2⟩
    · exact h.mem.low _ _ _ g2
    · exact Nat.lt_of_lt_of_le (h.hm.low _ _ _ g2) h.dB.size
  row:=λk p L U=>by
    rcases lP U with⟨q,g1,g2⟩|⟨g1,g2⟩
    · obtain⟨b,hb⟩:=h.hO (kq g1)
      obtain⟨r,e1,e2,e3,c,T,e4,e5,e6,e7⟩:=h.mem.row _ _ _ g2
      have he:aa (bf 0 aB) q=⟨0,0,none,b⟩:=by rw[fk,hb]
      unfold rowAt at e1
      rw[he]at e1 e7
      obtain⟨r',f1,f2,f3,f4⟩:=xn (φ:=jA (ks++ns) ks (aa M)) (d:=true) e1
      refine⟨r',by unfold rowAt;rw[gj g1 hb];exact f1,f2.trans e2,f3.trans e3,c,T,e4,e5,e6,λi hi j hj=>?_⟩
      obtain⟨x,x1,x2⟩:=e7 i hi j hj
      refine⟨x,x1,?_⟩
      rw[f4 i j (by rw[e3];exact hi) (by rw[e2];exact hj),gj g1 hb]
      cases p with
      |some _=>exact h.den _ x2
      |none=>
       refine oW (λhd=>h.den _ hd) ?_ x2
       show(match idx (ks++ns) k with|some q=>ae.β q _|none=>J.β k _)=_
       rw[g1]
    · obtain⟨r,e1,e2,e3,e4⟩:=h.hm.row _ _ _ g2
      refine⟨r,by unfold rowAt;rw[iY g1];exact e1,e2,e3,?_⟩
      rw[iY g1]
      refine gn.ext (h.ext _) ?_ ?_ ?_ e4
      · rw[h.hm.cur]
        show(aa _ k).ds=(aa M k).ds
        rw[iY g1]
      · intro q
        show(match idx (ks++ns) k with|some q'=>ae.β q' q|none=>J.β k q)=_
        rw[g1]
      · exact h.dB.same _ (h.hm.low _ _ _ g2) (h.apart g1 g2)
  live:=λk l hl=>by
    show∃L,(match idx (ks++ns) k with|some q=>ae.β q none|none=>J.β k none)=some L
    cases hi:idx (ks++ns) k with
    |none=>rw[iY hi]at hl;exact h.hm.live _ _ hl
    |some q=>
     obtain⟨b,hb⟩:=h.hO (kq hi)
     rw[gj hi hb]at hl
     have hl:dC _ true b= .cells l:=hl
     cases b with
     |dead=>cases hl
     |row _ _ _=>cases hl
     |cells l0=>exact h.mem.live q l0 (by rw[fk,hb])
  bN:=λk i j hh=>by
   show(match idx (ks++ns) k with|some q=>ae.β q _|none=>J.β k _)=none
   cases hi:idx (ks++ns) k with
   |none=>rw[iY hi]at hh;exact h.hm.bN _ _ _ hh
   |some q=>
    obtain⟨b,hb⟩:=h.hO (kq hi)
    rw[gj hi hb]at hh
    cases hh
end
end
end Go.Sy
set_option linter.unusedVariables false
set_option linter.unusedSimpArgs false
namespace Go.Sy
open Go.RowKit
def bZ {α:Type} (n:Nat) (k:Nat->α):α:=match n with|0=>k 0|m+1=>k (m+1)
theorem eL {α:Type} (n:Nat) (k:Nat->α):bZ n k=k n:=by cases n<;>rfl
def fP {α:Type} (p:Path) (k:Path->α):α:=match p with|none=>k none|some (i,j)=>k (some (i,j))
theorem zv {α:Type} (p:Path) (k:Path->α):fP p k=k p:=by cases p with|none=>rfl|some ij=>cases ij;rfl
def fV {α:Type} (x:Value) (k:Value->α):α:=
  match x with
  | .int a z=>k (.int a z)
  | .bool b=>k (.bool b)
  |x=>k x
theorem DO {α:Type} (x:Value) (k:Value->α):fV x k=k x:=by cases x<;>rfl
def mf {α:Type} (s:SV) (k:SV->α):α:=
  match s with
  | .ptr q st p i j=>bZ q λq=>bZ st λst=>fP p λp=>k (.ptr q st p i j)
  | .pe q st p i j l z=>bZ q λq=>bZ st λst=>fP p λp=>k (.pe q st p i j l z)
  | .aC q st p e n=>bZ q λq=>bZ st λst=>fP p λp=>k (.aC q st p e n)
  | .sa q st p i j n=>bZ q λq=>bZ st λst=>fP p λp=>k (.sa q st p i j n)
  | .v x=>fV x λx=>k (.v x)
  | .pt q n f=>k (.pt q n f)
  | .ag n f=>k (.ag n f)
  |s=>k s
theorem pX {α:Type} (s:SV) (k:SV->α):mf s k=k s:=by
  cases s<;>simp only[mf,eL,zv,DO]
def nL {α:Type}:List SV->(List SV->α)->α
  | [],k=>k []
  |s::r,k=>mf s λs=>nL r λr=>k (s::r)
theorem tE {α:Type}: ∀(l:List SV) (k:List SV->α),nL l k=k l
  | [],_=>rfl
  |s::r,k=>by simp only[nL,pX,tE r]
def qo {α:Type} (b:ar) (k:ar->α):α:=
  match b with
  | .dead=>k .dead
  | .cells l=>nL l λl=>k (.cells l)
  | .row sz n f=>bZ sz λsz=>k (.row sz n f)
theorem yh {α:Type} (b:ar) (k:ar->α):qo b k=k b:=by
  cases b<;>simp only[qo,eL,tE]
def qd {α:Type}:List ar->(List ar->α)->α
  | [],k=>k []
  |b::r,k=>qo b λb=>qd r λr=>k (b::r)
theorem xH {α:Type}: ∀(l:List ar) (k:List ar->α),qd l k=k l
  | [],_=>rfl
  |s::r,k=>by simp only[qd,yh,xH r]
def kp {α:Type}:List Nat->(List Nat->α)->α
  | [],k=>k []
  |b::r,k=>bZ b λb=>kp r λr=>k (b::r)
theorem sV {α:Type}: ∀(l:List Nat) (k:List Nat->α),kp l k=k l
  | [],_=>rfl
  |s::r,k=>by simp only[kp,eL,sV r]
def j8 {α:Type}:List (List Nat)->(List (List Nat)->α)->α
  | [],k=>k []
  |b::r,k=>kp b λb=>j8 r λr=>k (b::r)
theorem mG {α:Type}: ∀(l:List (List Nat)) (k:List (List Nat)->α),j8 l k=k l
  | [],_=>rfl
  |s::r,k=>by simp only[j8,sV,mG r]
def qQ {α:Type}:List (Nat×SV)->(List (Nat×SV)->α)->α
  | [],k=>k []
  |p::r,k=>bZ p.1 λa=>mf p.2 λb=>qQ r λr=>k ((a,b)::r)
theorem yT {α:Type}: ∀(l:List (Nat×SV)) (k:List (Nat×SV)->α),qQ l k=k l
  | [],_=>rfl
  |s::r,k=>by simp only[qQ,eL,pX,yT r]
end Go.Sy
set_option linter.unusedVariables false
set_option linter.unusedSimpArgs false
namespace Go.Sy
open Go.RowKit
def nk (m:Nat->ao) (ks:List Nat):List Bool->List SV->List SV
  |_,[]=> []
  | [],s::r=>ro true 12 m ks s::nk m ks [] r
  |b::t,s::r=>(match b with|true=>bc (fw m ks) false s|false=>ro true 12 m ks s)::nk m ks t r
def jb:List Bool->List SV->List Nat
  |true::t,s::r=>gR s++jb t r
  |false::t,_::r=>jb t r
  |_,_=> []
def yW (n:Nat) (m:Nat->ao):List SV->Option (Prop×SV×ak)
  | [.ptr k s p i j]=>match aR m k s p with|true=>some (True,.ptr k s p i (j+n),[])|false=>none
  |_=>none
def pC (Γ:Table) (m:Nat->ao) (nx id:Nat) (as:List SV):Option (Prop×SV×ak):=
  match Γ id with
  |some c=>
   match c.pj with
   |some n=>yW n m as
   |none=>
   let ks:=reach m 64 (jb c.ws as) []
   match (nL (nk m ks c.ws as) λl=>qd (ks.map λk=>dC (fw m ks) false (m k).b) λb=>c.g l b)with
   |some (pre,res,aB)=>
    let ns:=(List.range (aB.length -ks.length)).map λq=>nx+q
    match nodupB (ks++ns),ks.all λk=>whole (m k),ns.all λk=>aM m k,Nat.ble ks.length aB.length with
    |true,true,true,true=>some (pre,bc (jA (ks++ns) ks m) true res,cO ks m (jA (ks++ns) ks m) (ks++ns) aB)
    |_,_,_,_=>none
   |none=>none
  |none=>none
def lj (m:Nat->ao) (r:Nat):List Bool->List SV->Option (List SV×ak)
  |b::t,s::l=>
   match b,m5 m r s with
   |true,some x=>some (x.1::l,x.2)
   |_,_=>match lj m r t l with|some x=>some (s::x.1,x.2)|none=>none
  |_,_=>none
def pI (Γ:Table) (m:Nat->ao) (nx id:Nat) (as:List SV):Option (Prop×SV×ak):=
  match Γ id with
  |some c=>
   match lj m (nx+60) c.ws as with
   |some x=>match pC Γ (ov x.2 m) nx id x.1 with|some y=>some (y.1,y.2.1,y.2.2++x.2)|none=>none
   |none=>pC Γ m nx id as
  |none=>none
def xG (ρ:Operand->SV) (f:Operand) (args:List Operand):Option (Nat×List SV):=
  match ρ f with
  | .fn id n cr=>some (id,args.map ρ++(List.range n).map cr)
  | .bm id s=>some (id,s::args.map ρ)
  |_=>none
def pW (Γ:Table) (ρ:Operand->SV) (m:Nat->ao) (nx:Nat) (f:Operand) (args:List Operand):Option (Prop×SV×ak):=
  match xG ρ f args with
  |some (id,as)=>pI Γ m nx id as
  |none=>none
section
variable {P:Program} {w:World} {J:Ow} {ρ:Operand->SV} {M:Mem} {a:Act} {Gl:Nat->SV} {Γ:Table}
def pB (P:Program) (Γ:Table) (ρ:Operand->SV) (m:Nat->ao) (nx:Nat) (r:Operand) (name:String) (args:List Operand):Option (Prop×SV×ak):=
  match ρ r with
  | .ic t s=>match m6 P t name with|some id=>pI Γ m nx id (s::args.map ρ)|none=>none
  |_=>none
theorem sK (hm:ai w J M) (ks:List Nat): ∀{ws:List Bool} {ss:List SV} {us:List Value},aJ w J ss us->aJ w (eA J ks) (nk (aa M) ks ws ss) us
  |_,[],[],_=>by simp[nk,aJ]
  | [],s::r,u::t,⟨U,h2⟩=>⟨(fJ (ae:=eA J ks) hm (λb hb=>(gQ hm hb).2) (mO hm ks) (qq:=true) (λe=>by cases e) 12 U).up,sK hm ks h2⟩
  |b::t',s::r,u::t,⟨U,h2⟩=>by
   refine⟨?_,sK hm ks h2⟩
   cases b with
   |true=>exact pA (yi hm ks) (λ_=>mO hm ks) (yj hm ks) U
   |false=>exact(fJ (ae:=eA J ks) hm (λb hb=>(gQ hm hb).2) (mO hm ks) (qq:=true) (λe=>by cases e) 12 U).up
  |_,[],_::_,h=>h.elim
  | [],_::_,[],h=>h.elim
  |_::_,_::_,[],h=>h.elim
def zw (J:Ow) (κ:List Nat) (w w':World):Prop:= ∀b,b<w.heap.size->(∀k∈κ,∀p L,J.β k p=some L->L.b≠b)->w'.heap[b]? =w.heap[b]?
def j_ (P:Program) (w:World) (J:Ow) (M:Mem) (id:Nat) (vs:Array Value) (s:SV) (u:ak):Prop:=
  Calls P id vs w λe w'=> ∃v ae,e= .returned v/\az w J M w' ae (u++M)/\Den w' ae s v/\(dT (aa M) u=true->dM w J w' ae (λk=>k∈u.map (·.1)))/\zw J (u.map (·.1)) w w'
theorem s4 {ks:List Nat} {m:Nat->ao} {φ:Nat->Nat->Path->Option (Nat×Nat)}: ∀{dn:List Nat} {bs:List ar},bs.length=dn.length->(cO ks m φ dn bs).map (·.1)=dn
  | [],bs,_=>by simp[cO]
  |k::r,[],h=>by simp at h
  |k::r,b::t,h=>by simp[cO,s4 (by simpa using h)]
theorem cZ.DN {ks ns:List Nat} {aB:List ar} {w':World} {ae:Ow} (h:cZ w J M ks ns aB w' ae) (φ:Nat->Nat->Path->Option (Nat×Nat)) (hf:dT (aa M) (cO ks (aa M) φ (ks++ns) aB)=true):
    dM w J w' (jB J ae ks (ks++ns) (cO ks (aa M) φ (ks++ns) aB++M)) (λk=>k∈(cO ks (aa M) φ (ks++ns) aB).map (·.1)):=by
  have np:=s4 (ks:=ks) (m:=aa M) (φ:=φ) h.len
  have dF: ∀k∈ks++ns,aM (aa M) k=true:=by
    intro k hk
    rw[<-np,List.mem_map]at hk
    obtain⟨p,hp,rfl⟩:=hk
    exact List.all_eq_true.1 hf p hp
  have Ao:ks= []:=by
    cases ks with
    |nil=>rfl
    |cons k r=>
     exfalso
     exact tz (h.wh k (by simp)) ((eU h.hm (dF k (by simp))).1)
  subst Ao
  have bt: ∀b,¬(eA J []).A b:=by
    rintro b ⟨q,p,L,U,_⟩
    simp at U
  rw[np]
  refine⟨⟨h.dB.os,h.dB.tape,h.dB.output,h.dB.size,λb hb=>h.dB.same b hb (bt b)⟩,λb hb=> .inr ⟨hb,bt b⟩,rfl,λk p hk=>?_,λk p L hk hL=>?_,?_⟩
  · show(match idx ([]++ns) k with|some q=>ae.β q p|none=>J.β k p)=_
    cases hi:idx ([]++ns) k with
    |none=>rfl
    |some q=>exact absurd (List.mem_of_getElem? (fl hi)) hk
  · rcases lP hL with⟨q,_,h3⟩|⟨hi,_⟩
    · rcases Nat.lt_or_ge L.b w.heap.size with af|fY
      · exact absurd (h.mem.own _ ⟨q,p,L,h3,rfl⟩) (h.dB.free _ af (bt _))
      · exact fY
    · exact absurd hk (lh hi)
  · rw[h.hm.cur]
    show bx _=bx M
    funext k
    unfold bx
    cases hi:idx ([]++ns) k with
    |none=>rw[iY hi]
    |some q=>
     obtain⟨b,hb⟩:=h.hO (kq hi)
     rw[gj hi hb]
     rfl
theorem xm (hS:Sound P Gl Γ) (hG: ∀g,Den w J.bare (Gl g) (.pointer (some ⟨g,0,none⟩))) (hm:ai w J M) {nx id:Nat} {as:List SV} {pr:Prop} {s:SV} {u:ak} (he:pC Γ (aa M) nx id as=some (pr,s,u)) (hp:pr)
    {vs:Array Value} (hd:aJ w J as vs.toList):j_ P w J M id vs s u/\ ∃c,Γ id=some c:=by
  unfold pC at he
  simp only[tE,xH]at he
  split at he
  · next c hc=>
    split at he
    · next n hn=>
      refine⟨?_,c,hc⟩
      unfold yW at he
      split at he
      · next k s0 p i j=>
        split at he
        · next hk=>
          simp only[Option.some.injEq,Prod.mk.injEq]at he
          obtain⟨rfl,rfl,rfl⟩:=he
          match EY:vs.toList,hd with
          | [u],⟨U,_⟩=>
            obtain⟨h2,L,h3,h4,rfl⟩:=cF hm hk U
            obtain rfl:vs= #[.pointer (some ⟨L.b,L.o+i*L.sz+j,none⟩)]:=by rw[<-Array.toList_inj,EY]
            refine(hS.pj id c n hc hn _ w).mono ?_
            rintro e w' ⟨rfl,dL⟩
            have hx:=az.more hm dL
            have fb:Den w' J (.ptr k s0 p i (j+n)) (.pointer (some ⟨L.b,L.o+i*L.sz+(j+n),none⟩)):= .inr ⟨h2,L,h3,h4,rfl⟩
            rw[dR]
            refine⟨_,J,rfl,hx,by rw[Nat.add_assoc];exact fb,λ_=>⟨dL,λ_ h=>h,rfl,λ_ _ _=>rfl,λk p L hk=>by simp at hk,rfl⟩,λb hb _=>dL.2.2.2.2 b hb⟩
        · cases he
      · cases he
    try simp only at he
    split at he
    · next pre res aB hg=>
      split at he
      · next U h2 h3 h4=>
        simp only[Option.some.injEq,Prod.mk.injEq]at he
        obtain⟨rfl,rfl,rfl⟩:=he
        refine⟨?_,c,hc⟩
        have jz:=la U
        have qC: ∀k∈reach (aa M) 64 (jb c.ws as) [],whole (aa M k)=true:=λk hk=>List.all_eq_true.1 h2 k hk
        have gB: ∀k∈(List.range (aB.length -(reach (aa M) 64 (jb c.ws as) []).length)).map (λq=>nx+q),aM (aa M) k=true:=λk hk=>List.all_eq_true.1 h3 k hk
        have hlen:aB.length=(reach (aa M) 64 (jb c.ws as) []++(List.range (aB.length -(reach (aa M) 64 (jb c.ws as) []).length)).map (λq=>nx+q)).length:=by
          have:=Nat.le_of_ble_eq_true h4
          simp;omega
        generalize Ao:reach (aa M) 64 (jb c.ws as) []=ks at*
        generalize hns:(List.range (aB.length -ks.length)).map (λq=>nx+q)=ns at*
        have eR:=hS.fn id c _ _ _ _ _ hc hg hp w (eA J ks) vs (λg=>Den.ext (o:=J.bare) (mO hm ks) (hG g)) (BN hm ((List.nodup_append.1 jz).1) qC) (sK hm ks hd)
        refine eR.mono ?_
        rintro e w' ⟨v,ae,rfl,ha,bJ,hr,hk⟩
        have hb:cZ w J M ks ns aB w' ae:=⟨hm,jz,qC,gB,hlen,ha,bJ,λq k l hq hl=>by
          rw[hk q (l.map λs=>bc (fw (aa M) ks) false s) (by rw[List.getElem?_map,hq];simp[hl,dC])]
          show(match ks[q]? with|some k=>J.β k none|none=>none)=_
          rw[hq]⟩
        exact⟨v,_,rfl,⟨hb.ext _,hb.back⟩,hb.den _ hr,λhf=>hb.DN _ hf,λb oA hk=>ha.same b oA λhA=>by
          obtain⟨_,k,cC,p,L,g1,g2⟩:=gQ hm hA
          exact hk k (by rw[s4 hb.len];exact List.mem_append_left _ cC) p L g1 g2⟩
      · cases he
    · cases he
  · cases he
theorem wI (hm:ai w J M) {r:Nat}: ∀{ws:List Bool} {l l':List SV} {u:ak} {xs:List Value},aJ w J l xs->lj (aa M) r ws l=some (l',u)-> ∃ae,az w J M w ae (u++M)/\aJ w ae l' xs/\dT (aa M) u=false/\(∀k' p L,ae.β k' p=some L->J.β k' p=some L\/ ∃k∈u.map (·.1),∃p0,J.β k p0=some L)
  |b::t,s::l,l',u,[],hd,he=>hd.elim
  |b::t,s::l,l',u,x::xs,⟨U,h2⟩,he=>by
   unfold lj at he
   split at he
   · next y hy=>
     simp only[Option.some.injEq,Prod.mk.injEq]at he
     obtain⟨rfl,rfl⟩:=he
     obtain⟨ae,s1,d1,f1,b1⟩:=Cy hm U hy
     exact⟨ae,s1,⟨d1,h2.ext s1.ext⟩,f1,b1⟩
   · split at he
     · next y hy=>
       simp only[Option.some.injEq,Prod.mk.injEq]at he
       obtain⟨rfl,rfl⟩:=he
       obtain⟨ae,s1,d1,f1,b1⟩:=wI hm h2 hy
       exact⟨ae,s1,⟨U.ext s1.ext,d1⟩,f1,b1⟩
     · cases he
  | [],_,_,_,_,_,he=>by unfold lj at he;cases he
  |_::_,[],_,_,_,_,he=>by unfold lj at he;cases he
theorem s7 (hS:Sound P Gl Γ) (hG: ∀g,Den w J.bare (Gl g) (.pointer (some ⟨g,0,none⟩))) (hm:ai w J M) {nx id:Nat} {as:List SV} {pr:Prop} {s:SV} {u:ak} (he:pI Γ (aa M) nx id as=some (pr,s,u)) (hp:pr)
    {vs:Array Value} (hd:aJ w J as vs.toList):j_ P w J M id vs s u/\ ∃c,Γ id=some c:=by
  unfold pI at he
  split at he
  · next c hc=>
    split at he
    · next x hx=>
      split at he
      · next y hy=>
        simp only[Option.some.injEq,Prod.mk.injEq]at he
        obtain⟨rfl,rfl,rfl⟩:=he
        obtain⟨aI,s1,d1,f1,b1⟩:=wI hm hd hx
        rw[fK]at hy
        obtain⟨U,h2⟩:=xm hS (λg=>Den.ext (o:=J.bare) s1.ext.bare (hG g)) s1.mem hy hp d1
        refine⟨?_,h2⟩
        unfold j_ at U⊢
        refine U.mono ?_
        rintro e w' ⟨v,ae,rfl,h3,h4,_,h5⟩
        refine⟨v,ae,rfl,?_,h4,λhf=>?_,λb oA hk=>?_⟩
        · rw[List.append_assoc];exact s1.trans h3
        · have hf:dT (aa M) (y.2.2++x.2)=true:=hf
          unfold dT at hf f1
          rw[List.all_append,f1,Bool.and_false]at hf
          cases hf
        · refine h5 b oA λk cC p L hL e=>?_
          rcases b1 k p L hL with h|⟨k0,EZ,p0,h⟩
          · exact hk k (by rw[List.map_append];exact List.mem_append_left _ cC) p L h e
          · exact hk k0 (by rw[List.map_append];exact List.mem_append_right _ EZ) p0 L h e
      · cases he
    · exact xm hS hG hm he hp hd
  · cases he
theorem t_ (h: ∀x,Den w J (ρ x) (a.eval x)) (args:List Operand):aJ w J (args.map ρ) (args.map a.eval):=by
  induction args with
  |nil=>trivial
  |cons x r ih=>exact⟨h x,ih⟩
theorem Db {n:Nat} {cr:Nat->SV} {cs:Array Value} (hn:cs.size=n) (hj: ∀j,j<n-> ∃x,cs[j]? =some x/\Den w J (cr j) x):aJ w J ((List.range n).map cr) cs.toList:=by
  refine aJ.mk (by simp[hn]) λi hi=>?_
  have ek:i<n:=by simpa using hi
  obtain⟨x,U,h2⟩:=hj i ek
  refine⟨x,by simpa using U,?_⟩
  rw[List.getD_eq_getElem?_getD,List.getElem?_map,List.getElem?_range ek]
  exact h2
def ni (P:Program) (w:World) (J:Ow) (M:Mem) (a:Act) (o:Oper) (s:SV) (u:ak):Prop:=
  ∃id vs,(execOp a.eval o).run P w= .ok (.enter id vs) w/\j_ P w J M id vs s u
theorem xI {o:Oper} {f:Operand} {args:Array Operand} {ts:Array TypeId} (ho:o.op= .call {callee:= .value f,args:=args,argTypes:=ts}) {id:Nat} {fs cs:Array Value} (hf:a.eval f= .func (.func id) fs cs)
    (hc: ∀(l:Array Value) (w:World),(callFunc id l).run P w= .ok (.enter id l) w):(execOp a.eval o).run P w= .ok (.enter id (fs++args.map a.eval++cs)) w:=by
  simp[execOp,ho,resolve,hf,Deferred.ofValue,invoke,hc,Result.andThen]
theorem tu (hS:Sound P Gl Γ) (hG: ∀g,Den w J.bare (Gl g) (.pointer (some ⟨g,0,none⟩))) (h:Cx P w J ρ M a) {o:Oper} {f:Operand} {args:Array Operand} {ts:Array TypeId} (ho:o.op= .call {callee:= .value f,args:=args,argTypes:=ts})
    {nx:Nat} {pr:Prop} {s:SV} {u:ak} (he:pW Γ ρ (aa M) nx f args.toList=some (pr,s,u)) (hp:pr):ni P w J M a o s u:=by
  unfold pW at he
  split at he
  · next id as hc=>
    have hf:=h.val f
    unfold xG at hc
    split at hc
    · next ot n cr hs=>
      simp only[Option.some.injEq,Prod.mk.injEq]at hc
      obtain⟨rfl,rfl⟩:=hc
      rw[hs]at hf
      obtain⟨cs,ef,eK,E0⟩:=hf
      have jd:=(t_ h.val args.toList).append (Db eK E0)
      obtain⟨U,c,h2⟩:=s7 (vs:= #[]++args.map a.eval++cs) hS hG h.mem he hp (by simpa using jd)
      exact⟨_,_,xI ho ef (hS.call _ _ h2),U⟩
    · next ot s' hs=>
      simp only[Option.some.injEq,Prod.mk.injEq]at hc
      obtain⟨rfl,rfl⟩:=hc
      rw[hs]at hf
      obtain⟨x,ef,hx⟩:=hf
      have jd:aJ w J (s'::args.toList.map ρ) (x::args.toList.map a.eval):=⟨hx,t_ h.val args.toList⟩
      obtain⟨U,c,h2⟩:=s7 (vs:= #[x]++args.map a.eval++ #[]) hS hG h.mem he hp (by simpa using jd)
      exact⟨_,_,xI ho ef (hS.call _ _ h2),U⟩
    · cases hc
  · cases he
theorem A9 {o:Oper} {r:Operand} {name:String} {args:Array Operand} {ts:Array TypeId} (ho:o.op= .call {callee:= .invoke r name,args:=args,argTypes:=ts}) {t:TypeId} {x:Value} (hr:a.eval r= .iface t x) {id:Nat}
    (hm:m6 P t name=some id) (hc: ∀(l:Array Value) (w:World),(callFunc id l).run P w= .ok (.enter id l) w):(execOp a.eval o).run P w= .ok (.enter id (#[x]++args.map a.eval)) w:=by
  unfold m6 at hm
  split at hm
  · next i d hi hd=>
    split at hm
    · next m hf=>
      split at hm
      · next f e hp eR=>
        obtain rfl:=Option.some.inj hm
        obtain⟨k,hk⟩: ∃k,P.types.size+Made.depth=k+1:=⟨P.types.size+99,by show P.types.size+100=_;omega⟩
        have e0:(execOp a.eval o).run P w=((callMethod (.iface t x) name (args.map a.eval)).run P w):=by
          simp[execOp,ho,resolve,hr,invoke,Array.getElem?_append,Result.andThen]
          rw[Array.extract_eq_self_of_le (by simp)]
        rw[e0]
        simp[callMethod,hk,method,typeInfo,hi,hf,hp,follow,eR,receiverAt,underlying,hd,Place.get,hc,Result.andThen]
      · next f e hp eR=>
        obtain rfl:=Option.some.inj hm
        obtain⟨k,hk⟩: ∃k,P.types.size+Made.depth=k+1:=⟨P.types.size+99,by show P.types.size+100=_;omega⟩
        have e0:(execOp a.eval o).run P w=((callMethod (.iface t x) name (args.map a.eval)).run P w):=by
          simp[execOp,ho,resolve,hr,invoke,Array.getElem?_append,Result.andThen]
          rw[Array.extract_eq_self_of_le (by simp)]
        rw[e0]
        simp[callMethod,hk,method,typeInfo,hi,hf,hp,follow,eR,receiverAt,underlying,hd,Place.get,hc,Result.andThen]
      · cases hm
    · cases hm
  · cases hm
theorem sJ (hS:Sound P Gl Γ) (hG: ∀g,Den w J.bare (Gl g) (.pointer (some ⟨g,0,none⟩))) (h:Cx P w J ρ M a) {o:Oper} {r:Operand} {name:String} {args:Array Operand} {ts:Array TypeId} (ho:o.op= .call {callee:= .invoke r name,args:=args,argTypes:=ts})
    {nx:Nat} {pr:Prop} {s:SV} {u:ak} (he:pB P Γ ρ (aa M) nx r name args.toList=some (pr,s,u)) (hp:pr):ni P w J M a o s u:=by
  unfold pB at he
  split at he
  · next t s' hs=>
    split at he
    · next id hm=>
      have hr:=h.val r
      rw[hs]at hr
      obtain⟨x,ex,hx⟩:=hr
      have jd:aJ w J (s'::args.toList.map ρ) (x::args.toList.map a.eval):=⟨hx,t_ h.val args.toList⟩
      obtain⟨U,c,h2⟩:=s7 (vs:= #[x]++args.map a.eval) hS hG h.mem he hp (by simpa using jd)
      exact⟨_,_,A9 ho ex hm (hS.call _ _ h2),U⟩
    · cases he
  · cases he
end
end Go.Sy
set_option linter.unusedVariables false
set_option linter.unusedSimpArgs false
namespace Go.Sy
open Go.RowKit
def qn (e:ao) (k:ao->Prop):Prop:=
  match e with
  |⟨rs,ds,hl,b⟩=>bZ rs λrs=>bZ ds λds=>fP hl λhl=>qo b λb=>k ⟨rs,ds,hl,b⟩
theorem ye (e:ao) (k:ao->Prop):qn e k=k e:=by
  cases e;simp only[qn,eL,zv,yh]
def lI:List Nat->Mem->(Mem->Prop)->Prop
  |_,[],k=>k []
  |seen,p::r,k=>match aT seen p.1 with|true=>lI seen r k|false=>bZ p.1 λq=>qn p.2 λe=>lI (q::seen) r λr=>k ((q,e)::r)
theorem oZ: ∀(M:Mem) (seen:List Nat) (k:Mem->Prop),lI seen M k-> ∃M',k M'/\ ∀q,aT seen q=false->aa M' q=aa M q
  | [],_,k,h=>⟨[],h,λ_ _=>rfl⟩
  |p::r,seen,k,h=>by
   unfold lI at h
   split at h
   · next hs=>
     obtain⟨M',U,h2⟩:=oZ r seen k h
     refine⟨M',U,λq hq=>?_⟩
     rw[h2 q hq]
     have aP:p.1≠q:=λe=>by rw[e,hq]at hs;cases hs
     obtain⟨a,b⟩:=p
     exact(aQ aP).symm
   · next hs=>
     rw[eL,ye]at h
     obtain⟨M',U,h2⟩:=oZ r _ _ h
     refine⟨_,U,λq hq=>?_⟩
     obtain⟨a,b⟩:=p
     by_cases e:a=q
     · subst e;rw[ba,ba]
     · rw[aQ e,aQ e]
       refine h2 q ?_
       have:Nat.beq a q=false:=by
         cases hb:Nat.beq a q with
         |false=>rfl
         |true=>exact absurd (Nat.eq_of_beq_eq_true hb) e
       simp only[aT,this]
       exact hq
section
variable {w:World} {J:Ow}
theorem ai.congr {M M':Mem} (hm:ai w J M) (h: ∀k,aa M' k=aa M k):ai w J M':=
  ⟨by rw[hm.cur];funext k;simp only[bx,h],hm.own,hm.bI,hm.dj,hm.cA,hm.inj,hm.low,λk p L hL=>by
    obtain⟨r,g1,g2,g3,g4⟩:=hm.row k p L hL
    exact⟨r,by unfold rowAt at g1⊢;rw[h];exact g1,g2,g3,by rw[h];exact g4⟩,λk l hk=>hm.live k l (by rw[<-h];exact hk),λk i j hk=>hm.bN k i j (by rw[<-h];exact hk)⟩
end
end Go.Sy
set_option linter.unusedVariables false
set_option linter.unusedSimpArgs false
namespace Go.Sy
open Go.RowKit
/-! ### frames -/
abbrev Fr:=List (Nat×SV)
def look:Fr->Nat->SV
  | [],_=> .aj
  |p::r,t=>match Nat.beq p.1 t with|true=>p.2|false=>look r t
theorem look_eq {d:Nat} {s:SV} {F:Fr}:look ((d,s)::F) d=s:=by
  simp[look]
theorem iu {d t:Nat} {s:SV} {F:Fr} (h:d≠t):look ((d,s)::F) t=look F t:=by
  have:Nat.beq d t=false:=by
    cases hb:Nat.beq d t
    · rfl
    · exact absurd (Nat.eq_of_beq_eq_true hb) h
  simp only[look,this]
structure bA (w:World) (o:Ow) (N:Nat) (F:Fr) (t:Array Value):Prop where
  size:t.size=N
  den: ∀(i:Nat) u,t[i]? =some u->Den w o (look F i) u
  out: ∀(i:Nat),N<=i->look F i= .aj
theorem bA.ext {w w':World} {o o':Ow} {N:Nat} {F:Fr} {t:Array Value} (h:bA w o N F t) (he:Ext w o w' o'):bA w' o' N F t:=
  ⟨h.size,λi u hu=>(h.den i u hu).ext he,h.out⟩
theorem bA.get {w:World} {o:Ow} {N:Nat} {F:Fr} {t:Array Value} (h:bA w o N F t) (i:Nat):Den w o (look F i) (t.getD i undef):=by
  rw[Array.getD_eq_getD_getElem?]
  cases hu:t[i]? with
  |none=>
   rw[h.out i (by rw[<-h.size];exact Array.getElem?_eq_none_iff.1 hu)]
   trivial
  |some u=>exact h.den i u hu
def cJ (N:Nat) (F:Fr) (d:Option Nat) (s:SV):Fr:=
  match d with
  |some d=>match Nat.blt d N with|true=>(d,s)::F|false=>F
  |none=>F
theorem bA.put {w:World} {o:Ow} {N:Nat} {F:Fr} {t:Array Value} (h:bA w o N F t) {d:Nat} {s:SV} {v:Value} (hd:Den w o s v):bA w o N (cJ N F (some d) s) (t.setIfInBounds d v):=by
  cases af:Nat.blt d N with
  |true=>
   have e:cJ N F (some d) s=(d,s)::F:=by simp only[cJ,af]
   rw[e]
   have af:d<N:=Nat.le_of_ble_eq_true af
   refine⟨by simpa using h.size,λi u hu=>?_,λi hi=>?_⟩
   · by_cases fW:d=i
     · subst fW
       rw[look_eq]
       rw[Array.getElem?_setIfInBounds_self_of_lt (by rw[h.size];exact af)]at hu
       obtain rfl:=Option.some.inj hu
       exact hd
     · rw[iu fW]
       rw[Array.getElem?_setIfInBounds_ne fW]at hu
       exact h.den i u hu
   · rw[iu (by omega)]
     exact h.out i hi
  |false=>
   have fY:N<=d:=by
     rcases Nat.lt_or_ge d N with h'|h'
     · exact absurd (Nat.ble_eq_true_of_le h') (by unfold Nat.blt at af;rw[af];simp)
     · exact h'
   have e:t.setIfInBounds d v=t:=by
     rw[Array.setIfInBounds_eq_of_size_le (by rw[h.size];exact fY)]
   have e2:cJ N F (some d) s=F:=by simp only[cJ,af]
   rw[e,e2];exact h
theorem bA.tell {w:World} {o:Ow} {N:Nat} {F:Fr} {t:Array Value} (h:bA w o N F t) {d:Nat} {s:SV} (af:d<N) (hs: ∀u,t[d]? =some u->Den w o s u):bA w o N ((d,s)::F) t:=by
  refine⟨h.size,λi u hu=>?_,λi hi=>?_⟩
  · by_cases fW:d=i
    · subst fW;rw[look_eq];exact hs u hu
    · rw[iu fW];exact h.den i u hu
  · rw[iu (by omega)];exact h.out i hi
def aW (Gl:Nat->SV) (F:Fr):Operand->SV
  | .tmp t=>look F t
  | .const (.bool b)=> .bl b
  | .const v=> .v v
  | .global g=>Gl g
  | .func f=> .fn f 0 (λ_=> .aj)
structure St (P:Program) (Gl:Nat->SV) (N:Nat) (F:Fr) (M:Mem) (a:Act) (w:World) (J:Ow):Prop where
  frame:bA w J N F a.tmps
  bG: ∀g,Den w J.bare (Gl g) (.pointer (some ⟨g,0,none⟩))
  mem:ai w J M
  defers:a.defers= []
theorem Act.put_defers (a:Act) (d:Option Tmp) (v:Value):(a.put d v).defers=a.defers:=by cases d<;>rfl
def bq (S:List Nat) (a a':Act):Prop:=a'.tmps.size=a.tmps.size/\ ∀i,i∉S->a'.tmps[i]? =a.tmps[i]?
theorem bq.refl (S:List Nat) (a:Act):bq S a a:=⟨rfl,λ_ _=>rfl⟩
theorem bq.trans {S:List Nat} {a b c:Act} (h:bq S a b) (k:bq S b c):bq S a c:=⟨k.1.trans h.1,λi hi=>(k.2 i hi).trans (h.2 i hi)⟩
theorem bq.put {S:List Nat} {a b:Act} (h:bq S a b) {d:Option Tmp} (hd: ∀t,d=some t->t∈S) (v:Value):bq S a (b.put d v):=by
  cases d with
  |none=>exact h
  |some t=>
   refine⟨by simpa [Act.put]using h.1,λi hi=>?_⟩
   have:t≠i:=λe=>hi (e▸hd t rfl)
   simp only[Act.put,Array.getElem?_setIfInBounds_ne this]
   exact h.2 i hi
theorem bq.mono {S S':List Nat} {a b:Act} (h:bq S a b) (hs: ∀i∈S,i∈S'):bq S' a b:=⟨h.1,λi hi=>h.2 i (λhn=>hi (hs i hn))⟩
section
variable {P:Program} {w:World} {J:Ow} {Gl:Nat->SV} {Γ:Table} {N:Nat} {F:Fr} {M:Mem} {a:Act}
theorem bA.aW (h:bA w J N F a.tmps) (hG: ∀g,Den w J.bare (Gl g) (.pointer (some ⟨g,0,none⟩))) (x:Operand):Den w J (Sy.aW Gl F x) (a.eval x):=by
  cases x with
  |tmp t=>exact h.get t
  |const v=>cases v<;>exact rfl
  |global g=>exact(hG g).up
  |func f=>exact⟨#[],rfl,rfl,λj hj=>absurd hj (by omega)⟩
theorem St.cx (h:St P Gl N F M a w J):Cx P w J (aW Gl F) M a:=⟨h.frame.aW h.bG,h.mem⟩
theorem St.step (h:St P Gl N F M a w J) {w':World} {ae:Ow} {M':Mem} (hs:az w J M w' ae M'):St P Gl N F M' a w' ae:=
  ⟨h.frame.ext hs.ext,λg=>Den.ext (o:=J.bare) hs.ext.bare (h.bG g),hs.mem,h.defers⟩
theorem St.put (h:St P Gl N F M a w J) {d:Option Tmp} {s:SV} {v:Value} (hd:Den w J s v):St P Gl N (cJ N F d s) M (a.put d v) w J where
  frame:=by
    cases d with
    |none=>exact h.frame
    |some d=>exact h.frame.put hd
  bG:=h.bG
  mem:=h.mem
  defers:=by rw[Act.put_defers];exact h.defers
theorem St.tell (h:St P Gl N F M a w J) {d:Nat} {s:SV} (af:d<N) (hs: ∀u,a.tmps[d]? =some u->Den w J s u):St P Gl N ((d,s)::F) M a w J:=
  {h with frame:=h.frame.tell af hs}
theorem St.aj (h:St P Gl N F M a w J) {t:Nat} (ht:t<N) (v:Value):St P Gl N ((t,.aj)::F) M (a.put (some t) v) w J:=by
  have:=h.put (d:=some t) (s:= .aj) (v:=v) trivial
  have e:cJ N F (some t) .aj=(t,.aj)::F:=by
    have:Nat.blt t N=true:=Nat.ble_eq_true_of_le ht
    simp only[cJ,this]
  rwa [e]at this
end
/-! ### one operation -/
inductive R2 where
  |bad
  |ok (s:SV)
  |br (p:Prop) (s:SV)
  |eP (p:Prop) (s:SV)
  |mem (p:Prop) (s:SV) (u:ak)
  |any (n:Nat) (neg:Bool)
def R.up:R->R2
  | .bad=> .bad
  | .ok s=> .ok s
  | .br p s=> .br p s
  | .eP p s=> .eP p s
def fZ:Option (Prop×SV×ak)->R2
  |some (p,s,u)=> .mem p s u
  |none=> .bad
def R2.run (r:R2) (K:SV->ak->Prop):Prop:=
  match r with
  | .bad=>False
  | .ok s=>K s []
  | .br p s=>p/\K s []
  | .eP p s=>p->K s []
  | .mem p s u=>p/\K s u
  | .any n neg=> ∀b:Bool,(b=true->n=0)->K (.v (.bool (nJ neg b))) []
def tW (P:Program) (sg:Bool) (ρ:Operand->SV) (m:Nat->ao) (op:BinOp) (T T':TypeId) (x y:Operand):R2:=
  match tX P op T (ρ x) (ρ y) m with
  |some q=> .any q.1 q.2
  |none=>(kK P sg ρ m (.binOp op T x y T')).up
def om (P:Program) (sg:Bool) (Γ:Table) (ρ:Operand->SV) (m:Nat->ao) (nx:Nat) (op:Op):R2:=
  match op with
  | .box _ x=>fZ (uC m nx (ρ x))
  | .alloc T=>fZ (tA P m nx T)
  | .store T x y=>fZ (tB P m nx T (ρ x) (ρ y))
  | .makeSlice T x y=>fZ (tY P m nx T (ρ x) (ρ y))
  | .buildSlice T len parts=>fZ (sZ P m nx T len (parts.toList.map λp=>(p.1,ρ p.2)))
  | .call {callee:= .builtin .append,args:=⟨[x,y]⟩,argTypes:=⟨[T,T']⟩}=>match Nat.beq T T' with|true=>fZ (iW P m nx T (ρ x) (ρ y))|false=> .bad
  | .call {callee:= .builtin .copy,args:=⟨[x,y]⟩,argTypes:=⟨[T,T']⟩}=>match Nat.beq T T' with|true=>fZ (tZ P m T (ρ x) (ρ y))|false=> .bad
  | .call {callee:= .builtin .clear,args:=⟨[x]⟩,argTypes:=⟨[T]⟩}=>fZ (tC P m T (ρ x))
  | .call {callee:= .value f,args:=args,argTypes:=_}=>fZ (pW Γ ρ m nx f args.toList)
  | .call {callee:= .invoke r name,args:=args,argTypes:=_}=>fZ (pB P Γ ρ m nx r name args.toList)
  | .pick c x y=>(m4 (ρ c) (ρ x) (ρ y)).up
  | .binOp op T x y T'=>tW P sg ρ m op T T' x y
  |op=>(kK P sg ρ m op).up
section
variable {P:Program} {w:World} {J:Ow} {ρ:Operand->SV} {Gl:Nat->SV} {Γ:Table} {M:Mem} {a:Act}
inductive hP (P:Program) (w:World) (J:Ow) (M:Mem) (a:Act) (o:Oper) (s:SV):ak->Prop where
  |pure (v:Value) (h:(execOp a.eval o).run P w= .ok (.value v) w) (hd:Den w J s v):hP P w J M a o s []
  |mem {u:ak} (h:iJ P w J M a o s u):hP P w J M a o s u
  |call {u:ak} (h:ni P w J M a o s u):hP P w J M a o s u
theorem hP.wp {o:Oper} {s:SV} {u:ak} (hm:ai w J M) (h:hP P w J M a o s u) {next:Act->World->Prop} {Q:Exit->Act->World->Prop}
    (hn: ∀v w' ae,az w J M w' ae (u++M)->Den w' ae s v->next (a.put o.dst v) w'):o.wp P a w next Q:=by
  unfold Oper.wp
  cases h with
  |pure v h hd=>rw[h];exact hn v w J (az.refl hm) hd
  |mem h=>
   obtain⟨n,v,w',ae,U,h2,h3,h4⟩:=h
   rw[U]
   rcases h2 with rfl|⟨rfl,rfl⟩
   · exact hn v w' ae h3 h4
   · exact hn _ w' ae h3 h4
  |call h=>
   obtain⟨id,vs,U,h2⟩:=h
   rw[U]
   unfold j_ at h2
   refine h2.mono ?_
   rintro e w' ⟨v,ae,rfl,h3,h4,_⟩
   exact hn v w' ae h3 h4
theorem uD {o:Oper} {r:R} {K:SV->ak->Prop} (h: ∀{K':SV->Prop},r.run K'->bV P w J a o K') (he:r.up.run K): ∃s u,hP P w J M a o s u/\K s u:=by
  have:r.run (λs=>K s []):=by cases r<;>exact he
  obtain⟨s,v,U,h2,h3⟩:=h this
  exact⟨s,[],.pure v U h2,h3⟩
theorem gP {o:Oper} {x:Option (Prop×SV×ak)} {K:SV->ak->Prop} (h: ∀{p s u},x=some (p,s,u)->p->hP P w J M a o s u) (he:(fZ x).run K): ∃s u,hP P w J M a o s u/\K s u:=by
  cases x with
  |none=>exact he.elim
  |some x=>exact⟨_,_,h rfl he.1,he.2⟩
theorem yg (h:Cx P w J ρ M a) {sg:Bool} {o:Oper} {op:BinOp} {T T':TypeId} {x y:Operand} {K:SV->ak->Prop} (ho:o.op= .binOp op T x y T') (he:(tW P sg ρ (aa M) op T T' x y).run K): ∃s v,(execOp a.eval o).run P w= .ok (.value v) w/\Den w J s v/\K s []:=by
  unfold tW at he
  split at he
  · next q hq=>
    obtain⟨b,U,h2⟩:=Ct h ho (n:=q.1) (neg:=q.2) hq
    exact⟨.v (.bool (nJ q.2 b)),_,h2,rfl,he b U⟩
  · have e:(kK P sg ρ (aa M) o.op).run (λs=>K s []):=by rw[ho];revert he;cases kK P sg ρ (aa M) (.binOp op T x y T')<;>exact id
    exact ka h e
theorem C_ (hS:Sound P Gl Γ) (hG: ∀g,Den w J.bare (Gl g) (.pointer (some ⟨g,0,none⟩))) (h:Cx P w J ρ M a) {sg:Bool} {nx:Nat} {o:Oper} {K:SV->ak->Prop} (he:(om P sg Γ ρ (aa M) nx o.op).run K):
    ∃s u,hP P w J M a o s u/\K s u:=by
  unfold om at he
  split at he
  · next T x ho=>exact gP (λe hp=> .mem (yU h ho e).ow) he
  · next T ho=>exact gP (λe hp=> .mem (xB h ho e).ow) he
  · next T x y ho=>exact gP (λe hp=> .mem (BK h ho e hp)) he
  · next T x y ho=>exact gP (λe hp=> .mem (yf h ho e hp).ow) he
  · next T len parts ho=>exact gP (λe hp=> .mem (xh h ho e).ow) he
  · next x y T T' ho=>
    split at he
    · next ht=>
      obtain rfl:=Nat.eq_of_beq_eq_true ht
      exact gP (λe hp=> .mem (A8 h ho e hp)) he
    · exact he.elim
  · next x y T T' ho=>
    split at he
    · next ht=>
      obtain rfl:=Nat.eq_of_beq_eq_true ht
      exact gP (λe hp=> .mem (Cu h ho e hp)) he
    · exact he.elim
  · next x T ho=>exact gP (λe hp=> .mem (BL h ho e hp)) he
  · next f args ts ho=>exact gP (λe hp=> .call (tu hS hG h ho e hp)) he
  · next r name args ts ho=>exact gP (λe hp=> .call (sJ hS hG h ho e hp)) he
  · next c x y ho=>exact uD (λhe=>mW h ho he) he
  · next op T x y T' ho=>
    obtain⟨s,v,U,h2,h3⟩:=yg h ho he
    exact⟨s,[],.pure v U h2,h3⟩
  · exact uD (λhe=>ka h he) he
end
/-! ### guards that are not decided -/
structure Hd where
  slot:Nat
  d:Nat
  want:Bool
  s:SV
def Al:Bool->Bool->Bool
  |true,true|false,false=>true
  |_,_=>false
def nj:List Hd->Nat->Option Hd
  | [],_=>none
  |h::r,t=>match Nat.beq h.slot t with|true=>some h|false=>nj r t
def bU (H:List Hd):Nat->Nat->Bool->List (Nat×Bool)
  |0,d,want=> [(d,want)]
  |n+1,d,want=>(d,want)::match nj H d with|some h=>bU H n h.d h.want|none=> []
def uY (As:List (Nat×Bool)) (d:Nat) (want:Bool):Bool:=As.any λp=>Nat.beq p.1 d&&Al p.2 want
def dp (As:List (Nat×Bool)) (F:Fr):List Hd->Fr
  | []=>F
  |h::r=>match uY As h.d h.want with|true=>(h.slot,h.s)::dp As F r|false=>dp As F r
def hyps (F:Fr):List (Nat×Bool)->Prop->Prop
  | [],p=>p
  |(d,want)::r,p=>match look F d with| .v (.bool b)=>b=want->hyps F r p|_=>hyps F r p
def je (H:List Hd) (d:Option Nat):Bool:=
  match d with
  |none=>true
  |some d=>H.all λh=>!Nat.beq h.d d&&!Nat.beq h.slot d
inductive Gd where
  |yes|no|bad
  |ask (d:Nat) (want:Bool)
def guardOf (N:Nat) (ops:List Oper) (F:Fr) (H:List Hd) (o:Oper):Gd:=
  match o.guard with
  |none=> .yes
  |some (j,want)=>
   match ops[j]? with
   |some oj=>
    match oj.dst with
    |some d=>
     match Nat.blt d N,nj H d,look F d with
     |true,some _,_=> .ask d want
     |true,none,.bl b=>match b,want with|true,true=> .yes|false,false=> .yes|_,_=> .no
     |true,none,.v (.bool _)=> .ask d want
     |true,none,.v (.tuple _)=> .no
     |_,_,_=> .bad
    |none=> .bad
   |none=> .bad
def tv (Gl:Nat->SV) (H:List Hd) (As:List (Nat×Bool)) (F:Fr) (c x y:Operand):R:=
  match c with
  | .tmp d=>
    match look (dp As F H) d with
    | .v (.bool b)=>
      match f_ (aW Gl (dp (bU H H.length d true++As) F H) x),f_ (aW Gl (dp (bU H H.length d false++As) F H) y)with
      |some p,some q=> .ok (.v (.bool (bif b then p else q)))
      |_,_=> .bad
    |s=>m4 s (aW Gl (dp As F H) x) (aW Gl (dp As F H) y)
  |_=> .bad
def fu (P:Program) (sg:Bool) (Gl:Nat->SV) (Γ:Table) (F:Fr) (M:Mem) (nx:Nat) (H:List Hd) (As:List (Nat×Bool)) (op:Op):R2:=
  match op with
  | .pick c x y=>(tv Gl H As F c x y).up
  |op=>om P sg Γ (aW Gl (dp As F H)) (aa M) nx op
def Am (nx:Nat) (u:ak):Nat:=match u with| []=>nx|_::_=>nx+64
def C':ar->Bool
  | .row _ _ _=>true
  |_=>false
def gU (m:Nat->ao):ak->Bool
  | []=>true
  |p::r=>gU m r&&aM (ov r m) p.1&&Nat.beq p.2.rs (ov r m p.1).rs&&Nat.beq p.2.ds (ov r m p.1).ds&&(match p.2.hl with|none=>true|some _=>false)&&C' p.2.b
theorem oV {w:World} {J:Ow} {M:Mem} (hm:ai w J M): ∀{u:ak},gU (aa M) u=true->az w J M w J (u++M)
  | [],_=>az.refl hm
  |(k,⟨rs,ds,hl,b⟩)::r,h=>by
   simp only[gU,Bool.and_eq_true]at h
   obtain⟨⟨⟨⟨⟨U,h2⟩,h3⟩,h4⟩,h5⟩,h6⟩:=h
   have hr:=oV hm U
   rw[fK]at h2 h3 h4
   cases b with
   |row sz n f=>
    cases hl with
    |some _=>cases h5
    |none=>
     obtain rfl:=Nat.eq_of_beq_eq_true h3
     obtain rfl:=Nat.eq_of_beq_eq_true h4
     exact hr.trans (az.dummy hr.mem (eU hr.mem h2) sz n f)
   |dead=>cases h6
   |cells l=>cases h6
def lV:List Nat->Fr->(Fr->Prop)->Prop
  |_,[],k=>k []
  |seen,p::r,k=>match aT seen p.1 with|true=>lV seen r k|false=>bZ p.1 λq=>mf p.2 λs=>lV (q::seen) r λr=>k ((q,s)::r)
theorem po: ∀(F:Fr) (seen:List Nat) (k:Fr->Prop),lV seen F k-> ∃F',k F'/\ ∀q,aT seen q=false->look F' q=look F q
  | [],_,k,h=>⟨[],h,λ_ _=>rfl⟩
  |p::r,seen,k,h=>by
   unfold lV at h
   split at h
   · next hs=>
     obtain⟨M',U,h2⟩:=po r seen k h
     refine⟨M',U,λq hq=>?_⟩
     rw[h2 q hq]
     have hb:Nat.beq p.1 q=false:=by
       cases hb:Nat.beq p.1 q with
       |false=>rfl
       |true=>have e:=Nat.eq_of_beq_eq_true hb;rw[e,hq]at hs;cases hs
     simp only[look,hb]
   · next hs=>
     rw[eL,pX]at h
     obtain⟨M',U,h2⟩:=po r _ _ h
     refine⟨_,U,λq hq=>?_⟩
     cases hb:Nat.beq p.1 q with
     |true=>simp only[look,hb]
     |false=>
      simp only[look,hb]
      refine h2 q ?_
      simp only[aT,hb]
      exact hq
def nH:List Hd->(List Hd->Prop)->Prop
  | [],k=>k []
  |h::r,k=>match h with|⟨a,b,c,s⟩=>bZ a λa=>bZ b λb=>mf s λs=>nH r λr=>k (⟨a,b,c,s⟩::r)
theorem tt: ∀(l:List Hd) (k:List Hd->Prop),nH l k=k l
  | [],_=>rfl
  |⟨a,b,c,s⟩::r,k=>by simp only[nH,eL,pX,tt r]
def kn (F:Fr) (M:Mem) (nx:Nat) (H:List Hd) (K:Fr->Mem->Nat->List Hd->Prop):Prop:=lV [] F λF=>lI [] M λM=>bZ nx λnx=>nH H λH=>K F M nx H
theorem kZ {F:Fr} {M:Mem} {nx:Nat} {H:List Hd} {K:Fr->Mem->Nat->List Hd->Prop} (h:kn F M nx H K): ∃F' M',(∀t,look F' t=look F t)/\(∀k,aa M' k=aa M k)/\K F' M' nx H:=by
  obtain⟨F',U,h2⟩:=po _ _ _ h
  obtain⟨M',h3,h4⟩:=oZ _ _ _ U
  rw[eL,tt]at h3
  exact⟨F',M',λt=>h2 t rfl,λk=>h4 k rfl,h3⟩
def eZ (P:Program) (sg:Bool) (Gl:Nat->SV) (Γ:Table) (N:Nat) (ops:List Oper) (K:Fr->Mem->Nat->Prop):List Oper->Fr->Mem->Nat->List Hd->Prop
  | [],F,M,nx,_=>K F M nx
  |o::r,F,M,nx,H=>
   match je H o.dst,guardOf N ops F H o with
   |true,.yes=>match fu P sg Gl Γ F M nx H [] o.op with| .ok s=>eZ P sg Gl Γ N ops K r (cJ N F o.dst s) M nx H|x=>x.run λs u=>kn (cJ N F o.dst s) (u++M) (Am nx u) H λF M nx H=>eZ P sg Gl Γ N ops K r F M nx H
   |true,.no=>eZ P sg Gl Γ N ops K r (cJ N F o.dst (.v undef)) M nx H
   |true,.ask d want=>
    match o.dst,fu P sg Gl Γ F M nx H (bU H H.length d want) o.op with
    |some t,.ok s=>match Nat.blt t N&&!Nat.beq d t with|true=>eZ P sg Gl Γ N ops K r ((t,.aj)::F) M nx (⟨t,d,want,s⟩::H)|false=>False
    |some t,.eP _ s=>match Nat.blt t N&&!Nat.beq d t with|true=>eZ P sg Gl Γ N ops K r ((t,.aj)::F) M nx (⟨t,d,want,s⟩::H)|false=>False
    |some t,.br p s=>match Nat.blt t N&&!Nat.beq d t with|true=>hyps (dp (bU H H.length d want) F H) (bU H H.length d want) p/\kn ((t,.aj)::F) M nx (⟨t,d,want,s⟩::H) λF M nx H=>eZ P sg Gl Γ N ops K r F M nx H|false=>False
    |some t,.mem p s u=>match Nat.blt t N&&!Nat.beq d t,gU (aa M) u with|true,true=>hyps (dp (bU H H.length d want) F H) (bU H H.length d want) p/\kn ((t,.aj)::F) (u++M) (Am nx u) (⟨t,d,want,s⟩::H) λF M nx H=>eZ P sg Gl Γ N ops K r F M nx H|_,_=>False
    |_,_=>False
   |_,_=>False
section
variable {P:Program} {w:World} {J:Ow} {Gl:Nat->SV} {Γ:Table} {N:Nat} {F:Fr} {M:Mem} {a:Act} {H:List Hd}
structure Eo (w:World) (J:Ow) (N:Nat) (a:Act) (h:Hd):Prop where
  lt:h.slot<N
  yes:a.tmps[h.d]? =some (.bool h.want)-> ∀u,a.tmps[h.slot]? =some u->Den w J h.s u
  no:a.tmps[h.d]? ≠some (.bool h.want)->a.tmps[h.slot]? =some undef
def cS (w:World) (J:Ow) (N:Nat) (a:Act) (H:List Hd):Prop:= ∀h∈H,Eo w J N a h
def fS (a:Act) (As:List (Nat×Bool)):Prop:= ∀p∈As,a.tmps[p.1]? =some (.bool p.2)
theorem wQ: ∀{H:List Hd} {t:Nat} {h:Hd},nj H t=some h->h∈H/\h.slot=t
  | [],_,_,e=>by cases e
  |x::r,t,h,e=>by
   unfold nj at e
   split at e
   · next hb=>
     obtain rfl:=Option.some.inj e
     exact⟨by simp,Nat.eq_of_beq_eq_true hb⟩
   · obtain⟨U,h2⟩:=wQ e
     exact⟨by simp[U],h2⟩
theorem gl (hH:cS w J N a H): ∀(n d:Nat) (want:Bool),a.tmps[d]? =some (.bool want)->fS a (bU H n d want)
  |0,d,want,h=>λp hp=>by
   simp[bU]at hp;subst hp;exact h
  |n+1,d,want,h=>λp hp=>by
   simp only[bU,List.mem_cons]at hp
   rcases hp with rfl|hp
   · exact h
   · split at hp
     · next h' hf=>
       obtain⟨U,h2⟩:=wQ hf
       refine gl hH n h'.d h'.want ?_ p hp
       rcases Classical.em (a.tmps[h'.d]? =some (.bool h'.want))with e|e
       · exact e
       · have:=(hH h' U).no e
         rw[h2,h]at this
         cases this
     · cases hp
theorem Da {a b:Bool} (h:Al a b=true):a=b:=by cases a<;>cases b<;>first|rfl|cases h
theorem Cv {As:List (Nat×Bool)} (hA:fS a As) {d:Nat} {want:Bool} (h:uY As d want=true):a.tmps[d]? =some (.bool want):=by
  unfold uY at h
  rw[List.any_eq_true]at h
  obtain⟨p,hp,e⟩:=h
  rw[Bool.and_eq_true]at e
  have:=hA p hp
  rw[Nat.eq_of_beq_eq_true e.1,Da e.2]at this
  exact this
theorem gf (hF:bA w J N F a.tmps) {As:List (Nat×Bool)} (hA:fS a As): ∀(H:List Hd),cS w J N a H->bA w J N (dp As F H) a.tmps
  | [],_=>hF
  |h::r,hH=>by
   have ih:=gf hF hA r λh' hh=>hH h' (by simp[hh])
   unfold dp
   split
   · next hi=>exact ih.tell (hH h (by simp)).lt ((hH h (by simp)).yes (Cv hA hi))
   · exact ih
theorem mX (hF:bA w J N F a.tmps) {p:Prop}: ∀(As:List (Nat×Bool)),fS a As->hyps F As p->p
  | [],_,h=>h
  |q::r,hA,h=>by
   have ih:=mX hF (p:=p) r λx hx=>hA x (by simp[hx])
   unfold hyps at h
   split at h
   · next b hb=>
     have U:=hA q (by simp)
     have h2:=hF.den _ _ U
     rw[hb]at h2
     have h3:(q.2:Bool)=b:=by cases h2;rfl
     exact ih (h h3.symm)
   · exact ih h
theorem xi (hF:bA w J N F a.tmps) {d:Nat} {s:SV} (h:look F d=s) (hs:s≠ .aj): ∃u,a.tmps[d]? =some u/\Den w J s u:=by
  rcases Nat.lt_or_ge d a.tmps.size with hd|hd
  · exact⟨a.tmps[d],by simp[hd],by rw[<-h];exact hF.den d _ (by simp[hd])⟩
  · exact absurd (h.symm.trans (hF.out d (by rw[<-hF.size];exact hd))) hs
theorem fS.append {As Bs:List (Nat×Bool)} (h:fS a As) (k:fS a Bs):fS a (As++Bs):=λp hp=>(List.mem_append.1 hp).elim (h p) (k p)
inductive nK (ops:Array Oper) (a:Act) (o:Oper):Gd->Prop where
  |yes (h:Region.wanted o (yielded ops a.tmps)=true):nK ops a o .yes
  |no (h:Region.wanted o (yielded ops a.tmps)=false):nK ops a o .no
  |ask (d:Nat) (want:Bool) (h:Region.wanted o (yielded ops a.tmps)=true↔a.tmps[d]? =some (.bool want)):nK ops a o (.ask d want)
  |bad:nK ops a o .bad
theorem sY {ops:Array Oper} (hF:bA w J N F a.tmps) (H:List Hd) (o:Oper):nK ops a o (guardOf N ops.toList F H o):=by
  have get: ∀(d:Nat),d<N-> ∃x,a.tmps[d]? =some x/\Den w J (look F d) x:=by
    intro d hd
    have:d<a.tmps.size:=by rw[hF.size];exact hd
    exact⟨a.tmps[d],by simp[this],hF.den d _ (by simp[this])⟩
  have wanted: ∀{j:Nat} {want:Bool} {oj:Oper} {d:Nat},o.guard=some (j,want)->ops.toList[j]? =some oj->oj.dst=some d->
   (Region.wanted o (yielded ops a.tmps)=true↔a.tmps[d]? =some (.bool want)):=by
    intro j want oj d hg hj hd
    have fB:ops[j]? =some oj:=by simpa using hj
    simp only[Region.wanted,hg,yielded,fB,Option.bind_some,hd]
    cases hx:a.tmps[d]? with
    |none=>simp
    |some x=>cases x<;>simp
  have zO: ∀{d:Nat} {want:Bool},(Region.wanted o (yielded ops a.tmps)=true↔a.tmps[d]? =some (.bool want))-> ∀{x:Value},a.tmps[d]? =some x->x≠ .bool want->Region.wanted o (yielded ops a.tmps)=false:=by
    intro d want h x hx aP
    cases hw:Region.wanted o (yielded ops a.tmps)with
    |false=>rfl
    |true=>exact absurd (Option.some.inj (hx.symm.trans (h.1 hw))) aP
  unfold guardOf
  split
  · next hg=>exact .yes (by simp[Region.wanted,hg])
  · next j want hg=>
    split
    · next oj hj=>
      split
      · next d hd=>
        have hw:=wanted hg hj hd
        split
        · exact .ask d want hw
        · next b af _ hs=>
          obtain⟨x,U,h2⟩:=get d (Nat.le_of_ble_eq_true af)
          rw[hs]at h2
          obtain rfl:=h2
          split
          · exact .yes (hw.2 U)
          · exact .yes (hw.2 U)
          · next g1 g2=>
            refine .no (zO hw U ?_)
            cases b<;>cases want<;>first|(exact absurd rfl (g1 rfl))|(exact absurd rfl (g2 rfl))|simp
        · exact .ask d want hw
        · next l af _ hs=>
          obtain⟨x,U,h2⟩:=get d (Nat.le_of_ble_eq_true af)
          rw[hs]at h2
          obtain rfl:=h2
          exact .no (zO hw U (by simp))
        · exact .bad
      · exact .bad
    · exact .bad
theorem BM {t:Nat} (h:je H (some t)=true): ∀x∈H,x.d≠t/\x.slot≠t:=by
  intro x hx
  simp only[je,List.all_eq_true]at h
  have:=h x hx
  simp only[Bool.and_eq_true,Bool.not_eq_true']at this
  refine⟨λe=>?_,λe=>?_⟩
  · have U:=this.1;rw[e,Nat.beq_refl]at U;cases U
  · have U:=this.2;rw[e,Nat.beq_refl]at U;cases U
theorem cS.put (hH:cS w J N a H) {d:Option Tmp} (hf:je H d=true) (v:Value):cS w J N (a.put d v) H:=by
  cases d with
  |none=>exact hH
  |some t=>
   intro x hx
   obtain⟨U,h2⟩:=BM hf x hx
   have e1:(a.put (some t) v).tmps[x.d]? =a.tmps[x.d]? :=by simp only[Act.put,Array.getElem?_setIfInBounds_ne (Ne.symm U)]
   have e2:(a.put (some t) v).tmps[x.slot]? =a.tmps[x.slot]? :=by simp only[Act.put,Array.getElem?_setIfInBounds_ne (Ne.symm h2)]
   exact⟨(hH x hx).lt,λh=>by rw[e2];exact(hH x hx).yes (by rw[<-e1];exact h),λh=>by rw[e2];exact(hH x hx).no (by rw[<-e1];exact h)⟩
theorem cS.ext (hH:cS w J N a H) {w':World} {ae:Ow} (he:Ext w J w' ae):cS w' ae N a H:=
  λx hx=>⟨(hH x hx).lt,λh u hu=>((hH x hx).yes h u hu).ext he,(hH x hx).no⟩
theorem cS.cons (hH:cS w J N a H) {t d:Nat} {want:Bool} {s:SV} (hf:je H (some t)=true) (hN:a.tmps.size=N) (ht:t<N) (hd:d≠t) {v:Value}
    (U:a.tmps[d]? =some (.bool want)->Den w J s v) (h2:a.tmps[d]? ≠some (.bool want)->v=undef):cS w J N (a.put (some t) v) (⟨t,d,want,s⟩::H):=by
  intro x hx
  rcases List.mem_cons.1 hx with rfl|hx
  · have e1:(a.put (some t) v).tmps[d]? =a.tmps[d]? :=by simp only[Act.put,Array.getElem?_setIfInBounds_ne (Ne.symm hd)]
    have e2:(a.put (some t) v).tmps[t]? =some v:=by simp only[Act.put];rw[Array.getElem?_setIfInBounds_self_of_lt (by rw[hN];exact ht)]
    refine⟨ht,λh u hu=>?_,λh=>?_⟩
    · simp only[e1]at h
      simp only[e2]at hu
      obtain rfl:=Option.some.inj hu
      exact U h
    · simp only[e1]at h
      show(a.put (some t) v).tmps[t]? =_
      rw[e2,h2 h]
  · exact hH.put hf v x hx
theorem Bk:Den w J (.v undef) undef:=rfl
theorem tD (hS:Sound P Gl Γ) (h:St P Gl N F M a w J) (hH:cS w J N a H) {sg:Bool} {nx:Nat} {As:List (Nat×Bool)} (hA:fS a As) {o:Oper} {K:SV->ak->Prop} (he:(fu P sg Gl Γ F M nx H As o.op).run K):
    ∃s u,hP P w J M a o s u/\K s u:=by
  have dx: ∀{As},fS a As->Cx P w J (aW Gl (dp As F H)) M a:=λhA=>⟨(gf h.frame hA H hH).aW h.bG,h.mem⟩
  unfold fu at he
  split at he
  · next c x y ho=>
    refine uD ?_ he
    clear he
    intro K' he
    unfold tv at he
    split at he
    · next d=>
      split at he
      · next b hb=>
        split at he
        · next p r hp hr=>
          obtain⟨u,hu,hd⟩:=xi (gf h.frame hA H hH) hb (by simp)
          obtain rfl:=hd
          have ec:a.eval (.tmp d)= .bool b:=by
            simp only[Act.eval,Array.getD_eq_getD_getElem?,hu];rfl
          refine⟨.v (.bool (bif b then p else r)),.bool (bif b then p else r),?_,rfl,he⟩
          cases b with
          |true=>
           have hC:=(gl hH H.length d true hu).append hA
           have ex:=eW hp ((dx hC).val x)
           simp[execOp,ho,ec,asBool,ex]
          |false=>
           have hC:=(gl hH H.length d false hu).append hA
           have ey:=eW hr ((dx hC).val y)
           simp[execOp,ho,ec,asBool,ey]
        · exact he.elim
      · exact mW (dx hA) ho he
    · exact he.elim
  · exact C_ hS h.bG (dx hA) he
def nE (P:Program) (Gl:Nat->SV) (N:Nat) (S:List Nat) (a0:Act) (w1:World) (aI:Ow) (K:Fr->Mem->Nat->Prop) (a:Act) (w:World):Prop:=
  ∃J F M nx,St P Gl N F M a w J/\Ext w1 aI w J/\bq S a0 a/\K F M nx
theorem St.congr (h:St P Gl N F M a w J) {F':Fr} {M':Mem} (hF: ∀t,look F' t=look F t) (hM: ∀k,aa M' k=aa M k):St P Gl N F' M' a w J:=
  ⟨⟨h.frame.size,λi u hu=>by rw[hF];exact h.frame.den i u hu,λi hi=>by rw[hF];exact h.frame.out i hi⟩,h.bG,h.mem.congr hM,h.defers⟩
theorem ir (hS:Sound P Gl Γ) {sg:Bool} {ops:Array Oper} {Q:Exit->Act->World->Prop} {K:Fr->Mem->Nat->Prop} {S:List Nat} {a0:Act} {w1:World} {aI:Ow}
    (hQ: ∀a w,nE P Gl N S a0 w1 aI K a w->Q .normal a w):
    ∀(r:List Oper) (F:Fr) (M:Mem) (nx:Nat) (H:List Hd) (a:Act) (w:World) (J:Ow),(∀o∈r,∀t,o.dst=some t->t∈S)->St P Gl N F M a w J->cS w J N a H->Ext w1 aI w J->bq S a0 a->
     eZ P sg Gl Γ N ops.toList K r F M nx H->wpList P ops Q r a w
  | [],F,M,nx,H,a,w,J,_,h,_,hg,hk,he=>hQ a w ⟨J,F,M,nx,h,hg,hk,he⟩
  |o::r,F,M,nx,H,a,w,J,hd,h,hH,hg,hk,he=>by
   have ox: ∀t,o.dst=some t->t∈S:=hd o (by simp)
   have oy: ∀o∈r,∀t,o.dst=some t->t∈S:=λo ho=>hd o (by simp[ho])
   have eJ:=sY (ops:=ops) h.frame H o
   unfold eZ at he
   split at he
   · next bu ed=>
     rw[ed]at eJ
     cases eJ with
     |yes hw=>
      unfold wpList
      rw[if_pos hw]
      refine .inl ?_
      split at he
      · next s0 heq=>
        obtain⟨s,u,dk,rfl,rfl⟩:=tD hS h hH (As:= []) (K:=λs u=>s=s0/\u= []) (λp hp=>by cases hp) (by rw[heq];exact⟨rfl,rfl⟩)
        refine dk.wp h.mem ?_
        intro v w' ae aD fb
        exact ir hS hQ r _ _ _ H _ w' ae oy ((h.step aD).put fb) ((hH.ext aD.ext).put bu v) (hg.trans aD.ext) (hk.put ox v) he
      · obtain⟨s,u,dk,qc⟩:=tD hS h hH (λp hp=>by cases hp) he
        refine dk.wp h.mem ?_
        intro v w' ae aD fb
        obtain⟨F',M',hF,hM,hc⟩:=kZ qc
        exact ir hS hQ r _ _ _ H _ w' ae oy (((h.step aD).put fb).congr hF hM) ((hH.ext aD.ext).put bu v) (hg.trans aD.ext) (hk.put ox v) hc
   · next bu ed=>
     rw[ed]at eJ
     cases eJ with
     |no hw=>
      unfold wpList
      rw[if_neg (by rw[hw];exact Bool.false_ne_true)]
      exact ir hS hQ r _ M _ H _ w J oy (h.put Bk) (hH.put bu undef) hg (hk.put ox undef) he
   · next d want bu ed=>
     rw[ed]at eJ
     cases eJ with
     |ask _ _ hw=>
      have key: ∃t s u bj F' M',o.dst=some t/\t<N/\d≠t/\gU (aa M) u=true/\(a.tmps[d]? =some (.bool want)->(fu P sg Gl Γ F M nx H (bU H H.length d want) o.op).run (λs' u'=>s'=s/\u'=u))/\
       (∀q,look F' q=look ((t,.aj)::F) q)/\(∀q,aa M' q=aa (u++M) q)/\eZ P sg Gl Γ N ops.toList K r F' M' bj (⟨t,d,want,s⟩::H):=by
        have ej: ∀{t:Nat},(Nat.blt t N&&!Nat.beq d t)=true->t<N/\d≠t:=by
          intro t ht
          rw[Bool.and_eq_true,Bool.not_eq_true']at ht
          exact⟨Nat.le_of_ble_eq_true ht.1,λe=>by rw[e,Nat.beq_refl]at ht;cases ht.2⟩
        split at he
        · next t s bW hr=>
          split at he
          · next hc=>exact⟨t,s,[],nx,_,_,bW,(ej hc).1,(ej hc).2,rfl,λ_=>by rw[hr];exact⟨rfl,rfl⟩,λ_=>rfl,λ_=>rfl,he⟩
          · exact he.elim
        · next t p s bW hr=>
          split at he
          · next hc=>exact⟨t,s,[],nx,_,_,bW,(ej hc).1,(ej hc).2,rfl,λ_=>by rw[hr];exactλ_=>⟨rfl,rfl⟩,λ_=>rfl,λ_=>rfl,he⟩
          · exact he.elim
        · next t p s bW hr=>
          split at he
          · next hc=>
            obtain⟨F',M',hF,hM,vP⟩:=kZ he.2
            refine⟨t,s,[],nx,F',M',bW,(ej hc).1,(ej hc).2,rfl,λda=>?_,hF,hM,vP⟩
            rw[hr]
            have hA:=gl hH H.length d want da
            exact⟨mX (gf h.frame hA H hH) _ hA he.1,rfl,rfl⟩
          · exact he.elim
        · next t p s u bW hr=>
          split at he
          · next hc hu=>
            obtain⟨F',M',hF,hM,vP⟩:=kZ he.2
            refine⟨t,s,u,_,F',M',bW,(ej hc).1,(ej hc).2,hu,λda=>?_,hF,hM,vP⟩
            rw[hr]
            have hA:=gl hH H.length d want da
            exact⟨mX (gf h.frame hA H hH) _ hA he.1,rfl,rfl⟩
          · exact he.elim
        · exact he.elim
      obtain⟨t,s,u,bj,F',M',bW,ht,qR,hu,cD,hF,hM,qc⟩:=key
      rw[bW]at bu
      by_cases da:a.tmps[d]? =some (.bool want)
      · unfold wpList
        rw[if_pos (hw.2 da)]
        obtain⟨s',u',dk,rfl,rfl⟩:=tD hS h hH (gl hH H.length d want da) (cD da)
        refine .inl (dk.wp h.mem ?_)
        intro v w' ae hs fb
        have aD:=(h.step hs).aj ht v
        have vQ:=(hH.ext hs.ext).cons (t:=t) (d:=d) (want:=want) (s:=s') bu h.frame.size ht qR (v:=v) (λ_=>fb) (λhn=>absurd da hn)
        have oz:=hk.put ox v
        rw[bW]at oz⊢
        exact ir hS hQ r _ _ _ _ _ w' ae oy (aD.congr hF hM) vQ (hg.trans hs.ext) oz qc
      · have vJ:Region.wanted o (yielded ops a.tmps)=false:=by
          cases hx:Region.wanted o (yielded ops a.tmps)with
          |false=>rfl
          |true=>exact absurd (hw.1 hx) da
        unfold wpList
        rw[if_neg (by rw[vJ];exact Bool.false_ne_true)]
        have aD:=(h.step (oV h.mem hu)).aj ht undef
        have vQ:=hH.cons (t:=t) (d:=d) (want:=want) (s:=s) bu h.frame.size ht qR (v:=undef) (λhn=>absurd hn da) (λ_=>rfl)
        have oz:=hk.put ox undef
        rw[bW]at oz⊢
        exact ir hS hQ r _ _ _ _ _ w J oy (aD.congr hF hM) vQ hg oz qc
   · exact he.elim
end
end Go.Sy
set_option linter.unusedVariables false
set_option linter.unusedSimpArgs false
namespace Go.Sy
open Go.RowKit
def cv (m:Nat->ao) (κ:List Nat):Nat->Nat->Path->Option (Nat×Nat):=λk s p=>
  match p with
  |none=>fw m κ k s none
  |some _=>none
def fx:Nat->(Nat->Prop)->Prop
  |0,_=>True
  |n+1,p=>fx n p/\p n
theorem eV: ∀{n:Nat} {p:Nat->Prop},fx n p-> ∀j,j<n->p j
  |0,_,_,_,h=>absurd h (by omega)
  |n+1,p,⟨U,h2⟩,j,h=>by
   rcases Nat.lt_or_ge j n with h'|h'
   · exact eV U j h'
   · obtain rfl:j=n:=by omega
     exact h2
def oo (x y:Value):Prop:=
  match x,y with
  | .int k a,.int k' b=>match kb k k' with|true=>a=b|false=>False
  | .string a,.string b=>a=b
  | .bool a,.bool b=>a=b
  |x,y=>x=y
theorem tV {x y:Value} (h:oo x y):x=y:=by
  unfold oo at h
  split at h
  · split at h
    · next hk=>rw[mI hk,h]
    · exact h.elim
  · rw[h]
  · rw[h]
  · exact h
def uA:Path->Path->Bool
  |none,none=>true
  |some (i,j),some (i',j')=>Nat.beq i i'&&Nat.beq j j'
  |_,_=>false
theorem BI {p q:Path} (h:uA p q=true):p=q:=by
  cases p with
  |none=>cases q<;>first|rfl|cases h
  |some x=>
   cases q with
   |none=>cases h
   |some y=>
    simp only[uA,Bool.and_eq_true]at h
    rw[Prod.ext (Nat.eq_of_beq_eq_true h.1) (Nat.eq_of_beq_eq_true h.2)]
def qB:Bool->Bool->Bool
  |true,false=>false
  |_,_=>true
def vL (t tf:Nat) (e z:Int):SV->Prop
  | .v .nilIface=>e=0/\z= -1
  | .v (.iface t' (.int .i64 c))=>match Nat.beq t' t with|true=>c≠0/\e=c/\z= -1|false=>False
  | .er t' vN e' z'=>match Nat.beq t' t,Nat.beq vN tf with|true,true=>e'=e/\z'=z|_,_=>False
  | .ic t' (.pt false n f)=>
    match Nat.beq t' tf,Nat.ble 2 n,f 0,f 1 with
    |true,true,.v (.int .i64 a),.v (.iface t2 (.int .i64 c))=>(match Nat.beq t2 t with|true=>c≠0/\0<=a/\e=c/\z=a|false=>False)
    |true,true,.v (.int .i64 a),.er t2 _ c b=>(match Nat.beq t2 t with|true=>c≠0/\b= -1/\0<=a/\e=c/\z=a|false=>False)
    |_,_,_,_=>False
  |_=>False
theorem fm {w:World} {o:Ow} {t tf:Nat} {e z:Int} {a:SV} {u:Value} (h:vL t tf e z a) (hd:Den w o a u):Den w o (.er t tf e z) u:=by
  unfold vL at h
  split at h
  · exact .inl ⟨h.1,h.2,hd⟩
  · split at h
    · next hb=>obtain rfl:=Nat.eq_of_beq_eq_true hb;exact .inr (.inl ⟨by rw[h.2.1];exact h.1,h.2.2,by rw[h.2.1];exact hd⟩)
    · exact h.elim
  · split at h
    · next U h2=>rw[<-Nat.eq_of_beq_eq_true U,<-Nat.eq_of_beq_eq_true h2,<-h.1,<-h.2];exact hd
    · exact h.elim
  · split at h
    · next hb hn h0 U=>
      split at h
      · next fi=>
        obtain rfl:=Nat.eq_of_beq_eq_true hb
        obtain rfl:=Nat.eq_of_beq_eq_true fi
        have hn:=Nat.le_of_ble_eq_true hn
        obtain⟨hc,ha,rfl,rfl⟩:=h
        obtain⟨x,rfl,q,rfl,hj⟩:=hd
        obtain⟨x0,c0,n0,d0⟩:=hj 0 (by omega)
        obtain⟨x1,c1,_,d1⟩:=hj 1 (by omega)
        rw[h0]at d0
        rw[U]at d1
        obtain rfl:=d0
        obtain rfl:=d1
        exact .inr (.inr ⟨hc,ha,q,rfl,n0.1,n0.2 rfl,c0,c1⟩)
      · exact h.elim
    · next hb hn h0 U=>
      split at h
      · next fi=>
        obtain rfl:=Nat.eq_of_beq_eq_true hb
        obtain rfl:=Nat.eq_of_beq_eq_true fi
        have hn:=Nat.le_of_ble_eq_true hn
        obtain⟨hc,hb1,ha,rfl,rfl⟩:=h
        obtain⟨x,rfl,q,rfl,hj⟩:=hd
        obtain⟨x0,c0,n0,d0⟩:=hj 0 (by omega)
        obtain⟨x1,c1,_,d1⟩:=hj 1 (by omega)
        rw[h0]at d0
        rw[U]at d1
        obtain rfl:=d0
        rcases d1 with⟨g,_⟩|⟨_,_,rfl⟩|⟨_,g,_⟩
        · exact absurd g hc
        · exact .inr (.inr ⟨hc,ha,q,rfl,n0.1,n0.2 rfl,c0,c1⟩)
        · omega
      · exact h.elim
    · exact h.elim
  · exact h.elim
def bT (a b:SV):Prop:=
  match b with
  | .aj=>True
  | .er t tf e z=>vL t tf e z a
  |b=>
   match a with
   | .v x=>(match b with| .v y=>oo x y| .bl y=>oo x (.bool y)| .sl _ _ n _=>(match x with| .slice none 0 0=>n=0|_=>False)|_=>False)
   | .bl x=>(match b with| .v y=>oo (.bool x) y| .bl y=>x=y|_=>False)
   | .aC k s p e n=>(match b with| .aC k' s' p' e' n'=>(match Nat.beq k k',Nat.beq s s',uA p p' with|true,true,true=>e=e'/\n=n'|_,_,_=>False)|_=>False)
   | .ag n f=>(match b with| .ag n' f'=>(match Nat.beq n n' with|true=>fx n' λj=>bT (f j) (f' j)|false=>False)|_=>False)
   | .tp n f=>(match b with| .tp n' f'=>(match Nat.beq n n' with|true=>fx n' λj=>bT (f j) (f' j)|false=>False)|_=>False)
   | .pt q n f=>(match b with| .pt q' n' f'=>(match Nat.ble n' n,qB q q' with|true,true=>fx n' λj=>bT (f j) (f' j)|_,_=>False)|_=>False)
   | .ic t s=>(match b with| .ic t' s'=>(match Nat.beq t t' with|true=>bT s s'|false=>False)|_=>False)
   | .sl q sz n f=>(match b with| .sl q' cT n' f'=>(match Nat.beq sz cT,qB q q' with|true,true=>n=n'/\ ∀i,i<n'->fx cT λj=>bT (f i j) (f' i j)|_,_=>False)|_=>False)
   | .fn id n f=>(match b with| .fn ot n' f'=>(match Nat.beq id ot,Nat.beq n n' with|true,true=>fx n' λj=>bT (f j) (f' j)|_,_=>False)|_=>False)
   | .bm id s=>(match b with| .bm ot s'=>(match Nat.beq id ot with|true=>bT s s'|false=>False)|_=>False)
   | .pa q sz n f=>(match b with| .pa q' cT n' f'=>(match Nat.beq sz cT,qB q q' with|true,true=>n=n'/\ ∀i,i<n'->fx cT λj=>bT (f i j) (f' i j)|_,_=>False)|_=>False)
   | .es=>(match b with| .es=>True| .sl _ _ n _=>n=0|_=>False)
   |a=>a=b
theorem j3 {w:World} {a:SV}: ∀{b:SV} {o:Ow} {u:Value},bT a b->Den w o a u->Den w o b u:=by
  induction a with
  |v x=>
   intro b o u h hd
   cases b<;>first|trivial|exact fm h hd|exact h.elim|skip
   · obtain rfl:=tV h;exact hd
   · have:=tV h;subst this;exact hd
   · next q sz n f=>
     simp only[bT]at h
     split at h
     · subst h
       have hd:u= .slice none 0 0:=hd
       subst hd
       exact⟨none,0,rfl,Nat.le_refl _,Nat.zero_le _,.inl rfl⟩
     · exact h.elim
  |bl x=>
   intro b o u h hd
   cases b<;>first|trivial|exact fm h hd|exact h.elim|skip
   · obtain rfl:=tV h;exact hd
   · have h:_=_:=h;subst h;exact hd
  |es=>
   intro b o u h hd
   obtain⟨p,rfl⟩:=hd
   cases b<;>first|trivial|exact fm h ⟨p,rfl⟩|exact h.elim|skip
   · have h:_=0:=h
     subst h
     exact⟨p,0,rfl,Nat.le_refl _,Nat.zero_le _,.inl rfl⟩
   · exact⟨p,rfl⟩
  |aC k s p e n=>
   intro b o u h hd
   cases b<;>first|trivial|exact fm h hd|exact h.elim|skip
   simp only[bT]at h
   split at h
   · next U h2 h3=>rw[<-Nat.eq_of_beq_eq_true U,<-Nat.eq_of_beq_eq_true h2,<-BI h3,<-h.1,<-h.2];exact hd
   · exact h.elim
  |pt q n f ih=>
   intro b o u h hd
   cases b<;>first|trivial|exact fm h hd|exact h.elim|skip
   next q' n' f'=>
   simp only[bT]at h
   split at h
   · next U h2=>
     have U:=Nat.le_of_ble_eq_true U
     obtain⟨a,rfl,hj⟩:=hd
     refine⟨a,rfl,λj aw=>?_⟩
     obtain⟨x,hc,hf,hx⟩:=hj j (by omega)
     have hq:q'=false->q=false:=λe=>by subst e;cases q<;>first|rfl|cases h2
     exact⟨x,hc,⟨hf.1,λe=>hf.2 (hq e)⟩,ih j (eV h j aw) hx⟩
   · exact h.elim
  |ag n f ih=>
   intro b o u h hd
   cases b<;>first|trivial|exact fm h hd|exact h.elim|skip
   simp only[bT]at h
   split at h
   · next U=>
     obtain rfl:=Nat.eq_of_beq_eq_true U
     obtain⟨cs,rfl,hs,hj⟩:=hd
     exact⟨cs,rfl,hs,λj aw=>let⟨x,e1,e2⟩:=hj j aw;⟨x,e1,ih j (eV h j aw) e2⟩⟩
   · exact h.elim
  |tp n f ih=>
   intro b o u h hd
   cases b<;>first|trivial|exact fm h hd|exact h.elim|skip
   simp only[bT]at h
   split at h
   · next U=>
     obtain rfl:=Nat.eq_of_beq_eq_true U
     obtain⟨cs,rfl,hs,hj⟩:=hd
     exact⟨cs,rfl,hs,λj aw=>let⟨x,e1,e2⟩:=hj j aw;⟨x,e1,ih j (eV h j aw) e2⟩⟩
   · exact h.elim
  |fn id n f ih=>
   intro b o u h hd
   cases b<;>first|trivial|exact fm h hd|exact h.elim|skip
   simp only[bT]at h
   split at h
   · next h0 U=>
     obtain rfl:=Nat.eq_of_beq_eq_true h0
     obtain rfl:=Nat.eq_of_beq_eq_true U
     obtain⟨cs,rfl,hs,hj⟩:=hd
     exact⟨cs,rfl,hs,λj aw=>let⟨x,e1,e2⟩:=hj j aw;⟨x,e1,ih j (eV h j aw) e2⟩⟩
   · exact h.elim
  |bm id s ih=>
   intro b o u h hd
   cases b<;>first|trivial|exact fm h hd|exact h.elim|skip
   simp only[bT]at h
   split at h
   · next U=>
     obtain rfl:=Nat.eq_of_beq_eq_true U
     obtain⟨x,rfl,hx⟩:=hd
     exact⟨x,rfl,ih h hx⟩
   · exact h.elim
  |pa q sz n f ih=>
   intro b o u h hd
   cases b<;>first|trivial|exact fm h hd|exact h.elim|skip
   next q' cT n' f'=>
   simp only[bT]at h
   split at h
   · next U h2=>
     obtain rfl:=Nat.eq_of_beq_eq_true U
     obtain⟨rfl,h⟩:=h
     obtain⟨a,rfl,hk⟩:=hd
     refine⟨a,rfl,λi hi j aw=>?_⟩
     obtain⟨x,hc,hf,hx⟩:=hk i hi j aw
     have hq:q'=false->q=false:=λe=>by subst e;cases q<;>first|rfl|cases h2
     exact⟨x,hc,⟨hf.1,λe=>hf.2 (hq e)⟩,ih i j (eV (h i hi) j aw) hx⟩
   · exact h.elim
  |ic t s ih=>
   intro b o u h hd
   cases b<;>first|trivial|exact fm h hd|exact h.elim|skip
   simp only[bT]at h
   split at h
   · next U=>
     obtain rfl:=Nat.eq_of_beq_eq_true U
     obtain⟨x,rfl,hx⟩:=hd
     exact⟨x,rfl,ih h hx⟩
   · exact h.elim
  |sl q sz n f ih=>
   intro b o u h hd
   cases b<;>first|trivial|exact fm h hd|exact h.elim|skip
   next q' cT n' f'=>
   simp only[bT]at h
   split at h
   · next U h2=>
     obtain rfl:=Nat.eq_of_beq_eq_true U
     obtain⟨rfl,h⟩:=h
     obtain⟨p,cap,rfl,dG,db,hj⟩:=hd
     refine⟨p,cap,rfl,dG,db,hj.imp id ?_⟩
     rintro ⟨a,e,hk⟩
     refine⟨a,e,λi hi j aw=>?_⟩
     obtain⟨x,hc,hf,hx⟩:=hk i hi j aw
     have hq:q'=false->q=false:=λe=>by subst e;cases q<;>first|rfl|cases h2
     exact⟨x,hc,⟨hf.1,λe=>hf.2 (hq e)⟩,ih i j (eV (h i hi) j aw) hx⟩
   · exact h.elim
  |_=>intro b o u h hd;cases b<;>first|trivial|exact fm h hd|(have h:_=_:=h;cases h;exact hd)|(have h:_=_:=h;cases h)
theorem C9 {a b:SV} (h:bT a b) (hb:aX b=true):a=b:=by
  cases b with
  |il sz n f=>cases a<;>first|exact h.elim|exact h
  |_=>cases hb
def me:SV->SV->Prop
  | .il sz n f,.il cT n' f'=>match Nat.beq sz cT with|true=>n=n'/\ ∀a,a<n'->fx cT λb=>bT (f a b) (f' a b)|false=>False
  | .il _ _ _,_=>False
  |a,b=>bT a b
def ou:ar->ar->Prop
  | .cells l,.cells l'=>match Nat.beq l.length l'.length with|true=>fx l'.length λj=>me (aq l j) (aq l' j)|false=>False
  | .row sz n f,.row cT n' f'=>match Nat.beq sz cT with|true=>n=n'/\ ∀i,i<n'->fx cT λj=>me (f i j) (f' i j)|false=>False
  |_,_=>False
def fT:List ar->List ar->Prop
  | [],[]=>True
  |a::r,b::t=>ou a b/\fT r t
  |_,_=>False
theorem pE: ∀{l l':List ar},fT l l'->l.length=l'.length
  | [],[],_=>rfl
  |_::_,_::_,⟨_,h⟩=>by simp[pE h]
  | [],_::_,h=>h.elim
  |_::_,[],h=>h.elim
theorem pF: ∀{l l':List ar},fT l l'-> ∀{q:Nat} {a b:ar},l[q]? =some a->l'[q]? =some b->ou a b
  | [],_,_,_,_,_,h,_=>by simp at h
  |_::_,_::_,⟨U,_⟩,0,a,b,ha,hb=>by simp at ha hb;subst ha;subst hb;exact U
  |_::_,_::_,⟨_,h2⟩,q+1,a,b,ha,hb=>pF h2 (by simpa using ha) (by simpa using hb)
  |_::_,[],h,_,_,_,_,_=>h.elim
def gW:ar->Nat->Nat->Bool
  | .row sz n _,i,j=>Nat.blt i n&&Nat.blt j sz
  |_,_,_=>true
def bM (J:Ow) (κ:List Nat) (B:List ar):Ow:=
  let β:Nat->Path->Option Loc:=λq p=>
    match κ[q]? with
    |some k=>(match p with|none=>J.β k none|some ij=>match gW (B.getD q .dead) ij.1 ij.2 with|true=>J.β k (some ij)|false=>none)
    |none=>none
  ⟨J.A,J.Z,β,λ_=>(0,0)⟩
section
variable {P:Program} {w:World} {J:Ow} {M:Mem}
theorem lq {κ:List Nat} {B:List ar} {q:Nat} {p:Path} {L:Loc} (h:(bM J κ B).β q p=some L): ∃k,κ[q]? =some k/\J.β k p=some L/\ ∀i j,p=some (i,j)->gW (B.getD q .dead) i j=true:=by
  simp only[bM]at h
  split at h
  · next k hk=>
    cases p with
    |none=>exact⟨k,hk,h,λ_ _ e=>by cases e⟩
    |some ij=>
     simp only at h
     split at h
     · next hr=>exact⟨k,hk,h,λi j e=>by obtain rfl:=Option.some.inj e;exact hr⟩
     · cases h
  · cases h
theorem oX {κ:List Nat} {B:List ar} {q k:Nat} (hk:κ[q]? =some k):(bM J κ B).β q none=J.β k none:=by
  show(match κ[q]? with
    |some k=>_
    |none=>none)=_
  rw[hk]
theorem sG {κ:List Nat} {B:List ar} {q k i j:Nat} (hk:κ[q]? =some k) (hr:gW (B.getD q .dead) i j=true):(bM J κ B).β q (some (i,j))=J.β k (some (i,j)):=by
  show(match κ[q]? with
    |some k=>(match gW (B.getD q .dead) i j with|true=>J.β k (some (i,j))|false=>none)
    |none=>none)=_
  rw[hk]
  simp only[hr]
theorem BJ (hm:ai w J M) (κ:List Nat) (B:List ar):jh J (bM J κ B) (cv (aa M) κ):=by
  intro k s p k' s' h
  unfold cv at h
  split at h
  · unfold fw at h
    split at h
    · next q hq=>
      split at h
      · next ay=>
        simp only[Option.some.injEq,Prod.mk.injEq]at h
        obtain⟨rfl,rfl⟩:=h
        exact⟨et hm ay,rfl,oX (fl hq)⟩
      · cases h
    · cases h
  · cases h
theorem mD (κ:List Nat) (B:List ar):Ext w J.bare w (bM J κ B).bare:=
  ⟨rfl,rfl,rfl,λ_ _ _=>rfl,λ_ _ h=>h,λ_ _ _ h=>h,Nat.le_refl _,λ_=>⟨Nat.le_refl _,Nat.le_refl _⟩,λ_ _ _ h=>(by cases h),λ_ h=>h⟩
theorem Cs (κ:List Nat) (B:List ar):nI false w J (bM J κ B):=λ_ _ _ _ U h2=>⟨U,h2⟩
theorem mJ (hm:ai w J M) (κ:List Nat) (B:List ar) {s:SV} {x:Value} (h:Den w J s x):Den w (bM J κ B) (bc (cv (aa M) κ) false s) x:=
  pA (BJ hm κ B) (λ_=>mD κ B) (Cs κ B) h
theorem yV {sz n:Nat} {f:Nat->Nat->SV} {b:SV} (h:me (.il sz n f) b): ∃f',b= .il sz n f'/\ ∀i,i<n-> ∀j,j<sz->bT (f i j) (f' i j):=by
  cases b with
  |il cT n' f'=>
   simp only[me]at h
   split at h
   · next hs=>
     obtain rfl:=Nat.eq_of_beq_eq_true hs
     obtain⟨rfl,h⟩:=h
     exact⟨f',rfl,λi hi j hj=>eV (h i hi) j hj⟩
   · exact h.elim
  |_=>exact h.elim
theorem xE {k i j:Nat} {a b:SV} {x:Value} (h:me a b) (hc:aV w J none k i j a x):aV w J none k i j b x:=by
  cases aZ:aX a with
  |true=>
   cases a with
   |il sz n f=>obtain⟨f',rfl,_⟩:=yV h;exact hc
   |_=>cases aZ
  |false=>
   have h':bT a b:=by cases a<;>first|exact h|cases aZ
   rw[cj aZ]at hc
   cases hb:aX b with
   |true=>rw[C9 h' hb,hb]at aZ;cases aZ
   |false=>rw[cj hb];exact j3 h' hc
theorem xZ (hm:ai w J M) {κ:List Nat} {B:List ar} (jz:κ.Nodup) (hw: ∀k∈κ,whole (aa M k)=true)
    (ha:fT (κ.map λk=>dC (cv (aa M) κ) false (aa M k).b) B):ai w (bM J κ B) (bf 0 B):=by
  have hO: ∀{q k:Nat},κ[q]? =some k-> ∃b,B[q]? =some b/\B.getD q .dead=b/\ou (dC (cv (aa M) κ) false (aa M k).b) b:=by
    intro q k hk
    have hl:=pE ha
    rw[List.length_map]at hl
    have hq:=(List.getElem?_eq_some_iff.1 hk).1
    have hb:B[q]? =some B[q]:=List.getElem?_eq_getElem (by omega)
    refine⟨B[q],hb,by rw[List.getD_eq_getElem?_getD,hb];rfl,pF ha (a:=dC (cv (aa M) κ) false (aa M k).b) (by rw[List.getElem?_map,hk];rfl) hb⟩
  have fj: ∀{s:SV} {x:Value},Den w J s x->Den w (bM J κ B) (bc (cv (aa M) κ) false s) x:=λh=>mJ hm κ B h
  refine⟨(pd _).symm,?_,hm.bI,hm.dj,hm.cA,?_,?_,?_,?_,?_⟩
  · rintro b ⟨q,p,L,h,rfl⟩
    obtain⟨k,_,h2,_⟩:=lq h
    exact hm.own _ ⟨k,p,L,h2,rfl⟩
  · intro q p L q' p' L' U h2 e
    obtain⟨k,e1,e2,_⟩:=lq U
    obtain⟨k',e3,e4,_⟩:=lq h2
    obtain⟨rfl,rfl⟩:=hm.inj _ _ _ _ _ _ e2 e4 e
    have:=(mN jz e1).symm.trans (mN jz e3)
    exact⟨Option.some.inj this,rfl⟩
  · intro q p L h
    obtain⟨k,_,h2,_⟩:=lq h
    exact hm.low _ _ _ h2
  · intro q p L h
    obtain⟨k,e1,e2,e3⟩:=lq h
    obtain⟨b,hb,vO,cE⟩:=hO e1
    have d_:=xF (hw k (List.mem_of_getElem? e1))
    obtain⟨r,g1,g2,g3,c,T,g4,g5,g6,g7⟩:=hm.row _ _ _ e2
    rw[d_]at g7
    have he:aa (bf 0 B) q=⟨0,0,none,b⟩:=by rw[fk,hb]
    rw[vO]at e3
    unfold rowAt at g1⊢
    rw[he]
    have fin: ∀{r':Row},cy b p=some r'->r'.sz=r.sz->r'.n=r.n->(∀i,i<r.n-> ∀j,j<r.sz-> ∀x,cV w J none k p i j (r.f i j) x->cV w (bM J κ B) none q p i j (r'.f i j) x)->
     ∃r',cy b p=some r'/\r'.sz=L.sz/\r'.n=L.bD/\gn w (bM J κ B) none q p L r':=by
      intro r' f1 f2 f3 f4
      refine⟨r',f1,f2.trans g2,f3.trans g3,c,T,g4,g5,g6,λi hi j hj=>?_⟩
      obtain⟨x,x1,x2⟩:=g7 i hi j hj
      exact⟨x,x1,f4 i (by rw[g3];exact hi) j (by rw[g2];exact hj) x x2⟩
    cases eI:(aa M k).b with
    |dead=>exact absurd eI (tz (hw k (List.mem_of_getElem? e1)))
    |cells l=>
     rw[eI]at cE g1
     cases p with
     |some ij=>cases g1
     |none=>
      obtain rfl:=Option.some.inj g1
      cases b with
      |dead=>exact cE.elim
      |row _ _ _=>exact cE.elim
      |cells l'=>
       simp only[dC,ou,List.length_map]at cE
       split at cE
       · next hlen=>
         have hlen:=Nat.eq_of_beq_eq_true hlen
         refine fin (r':=⟨l'.length,1,λ_ j=>aq l' j⟩) rfl hlen.symm rfl ?_
         intro i hi j hj x hx
         have hj:j<l.length:=hj
         have hi:i<1:=hi
         have qS:i=0:=by omega
         subst qS
         have hx:aV w J none k 0 j (aq l j) x:=hx
         have hq:=eV cE j (by omega)
         have bJ:aq (l.map λs=>bc (cv (aa M) κ) false s) j=bc (cv (aa M) κ) false (aq l j):=by simp[aq,List.getD_eq_getElem?_getD,hj]
         rw[bJ]at hq
         show aV w (bM J κ B) none q 0 j (aq l' j) x
         exact xE hq (oW fj (sG e1 (by rw[vO];rfl)) hx)
       · exact cE.elim
    |row sz n f=>
     rw[eI]at cE g1
     cases b with
     |dead=>exact cE.elim
     |cells _=>exact cE.elim
     |row cT n' f'=>
      simp only[dC,ou]at cE
      split at cE
      · next aH=>
        obtain rfl:=Nat.eq_of_beq_eq_true aH
        obtain⟨rfl,cE⟩:=cE
        cases p with
        |none=>
         obtain rfl:=Option.some.inj g1
         refine fin (r':=⟨sz,n,f'⟩) rfl rfl rfl ?_
         intro i hi j hj x hx
         have hc:=eV (cE i hi) j hj
         have aN:gW (B.getD q .dead) i j=true:=by
           rw[vO]
           simp only[gW,Bool.and_eq_true]
           exact⟨Nat.ble_eq_true_of_le hi,Nat.ble_eq_true_of_le hj⟩
         have hx:aV w J none k i j (f i j) x:=hx
         have bn:=oW (d:=false) fj (sG (B:=B) e1 aN) hx
         show aV w (bM J κ B) none q i j (f' i j) x
         exact xE hc bn
        |some ij=>
         obtain⟨i,j⟩:=ij
         have aN:=e3 i j rfl
         simp only[gW,Bool.and_eq_true]at aN
         have hi:i<n:=Nat.le_of_ble_eq_true aN.1
         have hj:j<sz:=Nat.le_of_ble_eq_true aN.2
         have hc:=eV (cE i hi) j hj
         have g1:inner ⟨sz,n,f⟩ i j=some r:=g1
         unfold inner at g1
         split at g1
         · next av n2 g hg=>
           obtain rfl:=Option.some.inj g1
           have hg:f i j= .il av n2 g:=hg
           rw[hg]at hc
           obtain⟨g',e,EX⟩:=yV (show me (.il av n2 λa b=>bc (cv (aa M) κ) false (g a b)) (f' i j)from hc)
           refine fin (r':=⟨av,n2,g'⟩) ?_ rfl rfl ?_
           · show inner ⟨sz,n,f'⟩ i j=_
             unfold inner
             simp only[e]
           · intro a ha b hb x hx
             have hx:Den w J (g a b) x:=hx
             show Den w (bM J κ B) (g' a b) x
             exact j3 (EX a ha b hb) (fj hx)
         · cases g1
      · exact cE.elim
  · intro q l hl
    rw[fk]at hl
    cases hb:B[q]? with
    |none=>rw[hb]at hl;cases hl
    |some b=>
     rw[hb]at hl
     have hl:b= .cells l:=hl
     have hlen:=pE ha
     rw[List.length_map]at hlen
     have hq:=(List.getElem?_eq_some_iff.1 hb).1
     have hk:κ[q]? =some κ[q]:=List.getElem?_eq_getElem (by omega)
     obtain⟨b',bK,_,cE⟩:=hO hk
     obtain rfl:b=b':=Option.some.inj (hb.symm.trans bK)
     subst hl
     rw[oX hk]
     cases eI:(aa M κ[q]).b with
     |dead=>rw[eI]at cE;exact cE.elim
     |row _ _ _=>rw[eI]at cE;exact cE.elim
     |cells l0=>exact hm.live _ _ eI
  · intro q i j h
    rw[fk]at h
    split at h<;>cases h
end
end Go.Sy
