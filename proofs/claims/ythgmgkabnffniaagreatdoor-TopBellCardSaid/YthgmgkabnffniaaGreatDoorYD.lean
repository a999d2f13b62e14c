/-
  Sy, part 12: what is handed to a callee, and what comes back.
-/
import Derived.Test.YthgmgkabnffniaaGreatDoorYC
set_option linter.unusedVariables false
set_option linter.unusedSimpArgs false
set_option linter.unusedVariables false
set_option linter.unusedSimpArgs false
namespace Go.Sy
open Go.RowKit
/-! ### references are told anew -/
def qJ:Nat->Nat->Path->Option (Nat×Nat):=λ_ _ _=>none
def jB (d:Bool):SV->(Nat->Nat->Path->Option (Nat×Nat))->SV
  | .ptr k s p i j,φ=>match φ k s p with|some (k',s')=> .ptr k' s' p i j|none=> .aF
  | .pe k s p i j len z,φ=>match φ k s p with|some (k',s')=> .pe k' s' p i j len z|none=> .aF
  | .aO k s p e n,φ=>match φ k s p with|some (k',s')=> .aO k' s' p e n|none=> .aF
  | .sa k s p i j n,φ=>match φ k s p with|some (k',s')=> .sa k' s' p i j n|none=> .aF
  | .ag n f,φ=> .ag n λj=>jB d (f j) φ
  | .tp n f,φ=> .tp n λj=>jB d (f j) φ
  | .fn id n f,φ=> .fn id n λj=>jB d (f j) φ
  | .bm id s,φ=> .bm id (jB d s φ)
  | .mv nm s,φ=> .mv nm (jB d s φ)
  | .ic t s,φ=> .ic t (jB d s φ)
  | .il sz n f,φ=> .il sz n λi j=>jB d (f i j) φ
  | .pt q n f,_=>match d,q with|true,true=> .aF|true,false=> .pt q n λj=>jB d (f j) qJ|false,_=> .pt q n f
  | .sl q sz n f,_=>match d,q with|true,true=> .aF|true,false=> .sl q sz n λi j=>jB d (f i j) qJ|false,_=> .sl q sz n f
  | .pa q sz n f,_=>match d,q with|true,true=> .aF|true,false=> .pa q sz n λi j=>jB d (f i j) qJ|false,_=> .pa q sz n f
  |s,_=>s
abbrev dB (φ:Nat->Nat->Path->Option (Nat×Nat)) (d:Bool) (s:SV):SV:=jB d s φ
def uE (ω ao:Ow) (φ:Nat->Nat->Path->Option (Nat×Nat)):Prop:=
  ∀k s p k' s',φ k s p=some (k',s')->s=st ω.cur k p/\s'=st ao.cur k' p/\ao.β k' p=ω.β k p
theorem uE.at {ω ao:Ow} {φ:Nat->Nat->Path->Option (Nat×Nat)} (h:uE ω ao φ) {k s:Nat} {p:Path} {k' s':Nat} (e:φ k s p=some (k',s')) {R:Loc->Prop} (ha:At ω k s p R):At ao k' s' p R:=by
  obtain⟨J,h2,h3⟩:=h _ _ _ _ _ e
  rcases ha with ha|⟨_,L,hL,hR⟩
  · omega
  · exact .inr ⟨h2,L,h3.trans hL,hR⟩
theorem uE.head {ω ao:Ow} {φ:Nat->Nat->Path->Option (Nat×Nat)} (h:uE ω ao φ) {k s:Nat} {p:Path} {k' s':Nat} (e:φ k s p=some (k',s')) {ee n:Nat} {u:Value} (ha:Head ω k p ee n u):Head ao k' p ee n u:=by
  obtain⟨J,h2,h3⟩:=h _ _ _ _ _ e
  obtain⟨q,cap,y1,y2,y3,y4⟩:=ha
  exact⟨q,cap,y1,y2,y3,by rw[h3];exact y4⟩
def BU (d:Bool) (w:World) (ω ao:Ow):Prop:= ∀b (q:Bool),b<w.heap.size->(d=true->q=false)-> ¬ω.A b->(q=false-> ¬ω.Z b)-> ¬ao.A b/\(q=false-> ¬ao.Z b)
theorem Hb {w:World} {ω ao:Ow} {d:Bool} (hE:d=false->Ext w ω.bare w ao.bare) (h:BU d w ω ao) {s:SV}: ∀{u:Value},Den w ω.bare s u->Den w ao.bare (dB qJ d s) u:=by
  intro u hd
  induction s generalizing u with
  |aF=>trivial
  |il sz n f=>trivial
  |v x=>exact hd
  |bl b=>exact hd
  |es=>exact hd
  |ptr k s p i j=>trivial
  |pe k s p i j len z=>trivial
  |sa k s p i j n=>trivial
  |aO k s p e n=>trivial
  |pt q n f ih=>
   cases d with
   |false=>exact Den.ext (o:=ω.bare) (o':=ao.bare) (s:= .pt q n f) (hE rfl) hd
   |true=>
   cases q with
   |true=>trivial
   |false=>
    obtain⟨a,rfl,hj⟩:=hd
    refine⟨a,rfl,λj bz=>?_⟩
    obtain⟨x,hc,hf,hx⟩:=hj j bz
    have av:=m_ hc
    rw[iM]at av
    exact⟨x,hc,h _ false av (λ_=>rfl) hf.1 hf.2,ih j hx⟩
  |sl q sz n f ih=>
   cases d with
   |false=>exact Den.ext (o:=ω.bare) (o':=ao.bare) (s:= .sl q sz n f) (hE rfl) hd
   |true=>
   cases q with
   |true=>trivial
   |false=>
    obtain⟨p,cap,rfl,jF,iH,hj⟩:=hd
    refine⟨p,cap,rfl,jF,iH,hj.imp id ?_⟩
    rintro ⟨a,e,hk⟩
    refine⟨a,e,λi hi j bz=>?_⟩
    obtain⟨x,hc,hf,hx⟩:=hk i hi j bz
    have av:=m_ hc
    rw[iM]at av
    exact⟨x,hc,h _ false av (λ_=>rfl) hf.1 hf.2,ih i j hx⟩
  |pa q sz n f ih=>
   cases d with
   |false=>exact Den.ext (o:=ω.bare) (o':=ao.bare) (s:= .pa q sz n f) (hE rfl) hd
   |true=>
   cases q with
   |true=>trivial
   |false=>
    obtain⟨a,rfl,hk⟩:=hd
    refine⟨a,rfl,λi hi j bz=>?_⟩
    obtain⟨x,hc,hf,hx⟩:=hk i hi j bz
    have av:=m_ hc
    rw[iM]at av
    exact⟨x,hc,h _ false av (λ_=>rfl) hf.1 hf.2,ih i j hx⟩
  |ag n f ih=>
   obtain⟨cs,rfl,hs,hj⟩:=hd
   exact⟨cs,rfl,hs,λj bz=>let⟨x,J,h2⟩:=hj j bz;⟨x,J,ih j h2⟩⟩
  |tp n f ih=>
   obtain⟨cs,rfl,hs,hj⟩:=hd
   exact⟨cs,rfl,hs,λj bz=>let⟨x,J,h2⟩:=hj j bz;⟨x,J,ih j h2⟩⟩
  |fn id n f ih=>
   obtain⟨cs,rfl,hs,hj⟩:=hd
   exact⟨cs,rfl,hs,λj bz=>let⟨x,J,h2⟩:=hj j bz;⟨x,J,ih j h2⟩⟩
  |bm id s ih=>
   obtain⟨x,rfl,hx⟩:=hd
   exact⟨x,rfl,ih hx⟩
  |mv nm s ih=>
   obtain⟨x,rfl,hx⟩:=hd
   exact⟨x,rfl,ih hx⟩
  |ic t s ih=>
   obtain⟨x,rfl,hx⟩:=hd
   exact⟨x,rfl,ih hx⟩
  |er t tf e at_=>
   rcases hd with hd|hd|⟨J,h2,a,rfl,hf,hz,j5,mK⟩
   · exact .inl hd
   · exact .inr (.inl hd)
   · have av:=m_ j5
     rw[iM]at av
     obtain⟨k1,k2⟩:=h a.block false av (by simp) hf (λ_=>hz)
     exact .inr (.inr ⟨J,h2,a,rfl,k1,k2 rfl,j5,mK⟩)
theorem DO {w:World} {ω ao:Ow} {φ:Nat->Nat->Path->Option (Nat×Nat)} {d:Bool} (nX:uE ω ao φ) (hE:d=false->Ext w ω.bare w ao.bare) (h:BU d w ω ao) {s:SV}: ∀{u:Value},Den w ω s u->Den w ao (dB φ d s) u:=by
  intro u hd
  induction s generalizing u with
  |aF=>trivial
  |il sz n f=>trivial
  |v x=>exact hd
  |bl b=>exact hd
  |es=>exact hd
  |ptr k s p i j=>
   simp only[dB,jB]
   split
   · next k' s' e=>exact nX.at e hd
   · trivial
  |pe k s p i j len z=>
   simp only[dB,jB]
   split
   · next k' s' e=>exact nX.at e hd
   · trivial
  |sa k s p i j n=>
   simp only[dB,jB]
   split
   · next k' s' e=>exact nX.at e hd
   · trivial
  |aO k s p e n=>
   simp only[dB,jB]
   split
   · next k' s' e=>
     obtain⟨J,h2,h3⟩:=nX _ _ _ _ _ e
     rcases hd with hd|⟨_,hd⟩
     · omega
     · exact .inr ⟨h2,nX.head e hd⟩
   · trivial
  |pt q n f ih=>
   cases d with
   |false=>exact Den.ext (o:=ω.bare) (o':=ao.bare) (s:= .pt q n f) (hE rfl) hd
   |true=>
   cases q with
   |true=>trivial
   |false=>
    obtain⟨a,rfl,hj⟩:=hd
    refine⟨a,rfl,λj bz=>?_⟩
    obtain⟨x,hc,hf,hx⟩:=hj j bz
    have av:=m_ hc
    rw[iM]at av
    exact⟨x,hc,h _ false av (λ_=>rfl) hf.1 hf.2,Hb hE h hx⟩
  |sl q sz n f ih=>
   cases d with
   |false=>exact Den.ext (o:=ω.bare) (o':=ao.bare) (s:= .sl q sz n f) (hE rfl) hd
   |true=>
   cases q with
   |true=>trivial
   |false=>
    obtain⟨p,cap,rfl,jF,iH,hj⟩:=hd
    refine⟨p,cap,rfl,jF,iH,hj.imp id ?_⟩
    rintro ⟨a,e,hk⟩
    refine⟨a,e,λi hi j bz=>?_⟩
    obtain⟨x,hc,hf,hx⟩:=hk i hi j bz
    have av:=m_ hc
    rw[iM]at av
    exact⟨x,hc,h _ false av (λ_=>rfl) hf.1 hf.2,Hb hE h hx⟩
  |pa q sz n f ih=>
   cases d with
   |false=>exact Den.ext (o:=ω.bare) (o':=ao.bare) (s:= .pa q sz n f) (hE rfl) hd
   |true=>
   cases q with
   |true=>trivial
   |false=>
    obtain⟨a,rfl,hk⟩:=hd
    refine⟨a,rfl,λi hi j bz=>?_⟩
    obtain⟨x,hc,hf,hx⟩:=hk i hi j bz
    have av:=m_ hc
    rw[iM]at av
    exact⟨x,hc,h _ false av (λ_=>rfl) hf.1 hf.2,Hb hE h hx⟩
  |ag n f ih=>
   obtain⟨cs,rfl,hs,hj⟩:=hd
   exact⟨cs,rfl,hs,λj bz=>let⟨x,J,h2⟩:=hj j bz;⟨x,J,ih j h2⟩⟩
  |tp n f ih=>
   obtain⟨cs,rfl,hs,hj⟩:=hd
   exact⟨cs,rfl,hs,λj bz=>let⟨x,J,h2⟩:=hj j bz;⟨x,J,ih j h2⟩⟩
  |fn id n f ih=>
   obtain⟨cs,rfl,hs,hj⟩:=hd
   exact⟨cs,rfl,hs,λj bz=>let⟨x,J,h2⟩:=hj j bz;⟨x,J,ih j h2⟩⟩
  |bm id s ih=>
   obtain⟨x,rfl,hx⟩:=hd
   exact⟨x,rfl,ih hx⟩
  |mv nm s ih=>
   obtain⟨x,rfl,hx⟩:=hd
   exact⟨x,rfl,ih hx⟩
  |ic t s ih=>
   obtain⟨x,rfl,hx⟩:=hd
   exact⟨x,rfl,ih hx⟩
  |er t tf e at_=>
   rcases hd with hd|hd|⟨J,h2,a,rfl,hf,hz,j5,mK⟩
   · exact .inl hd
   · exact .inr (.inl hd)
   · have av:=m_ j5
     rw[iM]at av
     obtain⟨k1,k2⟩:=h a.block false av (by simp) hf (λ_=>hz)
     exact .inr (.inr ⟨J,h2,a,rfl,k1,k2 rfl,j5,mK⟩)
/-! ### lent to be read -/
def cM:List Nat->Nat->Bool
  | [],_=>false
  |x::r,k=>match Nat.beq x k with|true=>true|false=>cM r k
theorem jf: ∀{l:List Nat} {k:Nat},cM l k=true↔k∈l
  | [],k=>by simp[cM]
  |x::r,k=>by
   unfold cM
   split
   · next h=>simp[Nat.eq_of_beq_eq_true h]
   · next h=>
     have:=beq_false h
     rw[jf]
     simp[Ne.symm this]
def By (e:bk) (k:Nat) (p:Path) (i j:Nat) (s:SV):SV:=match wg e k p i j s with|some s=>s|none=> .aF
def ro (qq:Bool):Nat->(Nat->bk)->List Nat->SV->SV
  |0,_,_,_=> .aF
  |d+1,m,ks,s=>
   match s with
   | .ptr k st p i j=>
     match cD m k st p,cM ks k,gu (m k).b p with
     |true,false,some r=> .pt qq (r.sz -j) λq=>ro qq d m ks (By (m k) k p i (j+q) (r.f i (j+q)))
     |_,_,_=> .aF
   | .aO k st p e n=>
     match cD m k st p,cM ks k,gu (m k).b p with
     |true,false,some r=> .sl qq r.sz n λi j=>ro qq d m ks (By (m k) k p (e+i) j (r.f (e+i) j))
     |_,_,_=> .aF
   | .sa k st p ii j n=>
     match cD m k st p,cM ks k,gu (m k).b p with
     |true,false,some r=>match Nat.ble (j+n) r.sz with|true=> .sl qq 1 n λi _=>ro qq d m ks (By (m k) k p ii (j+i) (r.f ii (j+i)))|false=> .aF
     |_,_,_=> .aF
   | .pe _ _ _ _ _ _ _=> .aF
   | .il _ _ _=> .aF
   | .ag n f=> .ag n λj=>ro qq d m ks (f j)
   | .tp n f=> .tp n λj=>ro qq d m ks (f j)
   | .fn id n f=> .fn id n λj=>ro qq d m ks (f j)
   | .bm id s=> .bm id (ro qq d m ks s)
   | .mv nm s=> .mv nm (ro qq d m ks s)
   | .ic t s=> .ic t (ro qq d m ks s)
   |s=>s
theorem GO {w:World} {ω:Ow} {M:Mem} (hm:aR w ω M) {k i j:Nat} {p:Path} {s:SV} {x:Value} (hl:iN w ω (ae M k).hl k p i j s x):Den w ω (By (ae M k) k p i j s) x:=by
  unfold By
  split
  · next s' h=>exact Hc hm hl h
  · trivial
theorem pw {w:World} {ω ao:Ow} {M:Mem} (hm:aR w ω M) {ks:List Nat} (hA: ∀b,ao.A b-> ∃k∈ks,∃p L,ω.β k p=some L/\L.b=b) (hE:Ext w ω.bare w ao.bare) {qq:Bool} (hZ:qq=false-> ∀b,ω.A b-> ¬ao.Z b):
    ∀(d:Nat) {s:SV} {u:Value},Den w ω s u->Den w ao.bare (ro qq d (ae M) ks s) u
  |0,_,_,_=>trivial
  |d+1,s,u,hd=>by
   have nA: ∀{k:Nat} {p:Path} {L:Loc},ω.β k p=some L->cM ks k=false-> ¬ao.A L.b:=by
     intro k p L hL hk h
     obtain⟨k',cR,p',L',J,h2⟩:=hA _ h
     obtain⟨rfl,_⟩:=hm.inj _ _ _ _ _ _ J hL h2
     rw[jf.2 cR]at hk
     cases hk
   cases s with
   |aF=>trivial
   |v x=>exact hd
   |bl b=>exact hd
   |es=>exact hd
   |il sz n f=>trivial
   |pe k s p i j len z=>trivial
   |ptr k st p i j=>
    simp only[ro]
    split
    · next r bF hk hr=>
      obtain⟨_,L,hL,hc,e⟩:=ir hm bF hd
      obtain⟨g1,g2,g3⟩:=vG hm hL hr
      refine⟨_,e,λq hq=>?_⟩
      obtain⟨x,x1,x2⟩:=g3 i hc (j+q) (by omega)
      exact⟨x,by rw[lG,Nat.add_assoc];exact x1,⟨nA hL hk,λe=>hZ e _ (hm.own _ ⟨_,_,_,hL,rfl⟩)⟩,pw hm hA hE hZ d (GO hm x2)⟩
    · trivial
   |aO k st p e n=>
    simp only[ro]
    split
    · next r bF hk hr=>
      have e0:=kO hm bF
      rcases hd with hd|⟨_,q,cap,rfl,J,h2,h3⟩
      · omega
      refine⟨q,cap,rfl,J,Nat.le_trans J h2,?_⟩
      rcases h3 with h3|⟨L,hL,rfl,h4,h5⟩
      · left;omega
      · right
        obtain⟨g1,g2,g3⟩:=vG hm hL hr
        refine⟨_,rfl,λi hi j hj=>?_⟩
        obtain⟨x,x1,x2⟩:=g3 (e+i) (by omega) j (by omega)
        refine⟨x,?_,⟨nA hL hk,λe=>hZ e _ (hm.own _ ⟨_,_,_,hL,rfl⟩)⟩,pw hm hA hE hZ d (GO hm x2)⟩
        rw[lG,g1,show L.o+e*L.sz+(i*L.sz+j)=L.o+(e+i)*L.sz+j by rw[Nat.add_mul];omega]
        exact x1
    · trivial
   |sa k st p ii j n=>
    simp only[ro]
    split
    · next r bF hk hr=>
      split
      · next hle=>
        have hle:=Nat.le_of_ble_eq_true hle
        obtain⟨_,L,hL,hc,iH,rfl⟩:=ir hm bF hd
        obtain⟨g1,g2,g3⟩:=vG hm hL hr
        refine⟨_,_,rfl,Nat.le_refl _,iH,.inr ⟨_,rfl,λi hi j2 Kh=>?_⟩⟩
        have xn:j2=0:=by omega
        subst xn
        obtain⟨x,x1,x2⟩:=g3 ii hc (j+i) (by omega)
        exact⟨x,by rw[lG];simpa [Nat.add_assoc]using x1,⟨nA hL hk,λe=>hZ e _ (hm.own _ ⟨_,_,_,hL,rfl⟩)⟩,pw hm hA hE hZ d (GO hm x2)⟩
      · trivial
    · trivial
   |pt q n f=>exact Den.ext (o:=ω.bare) hE hd
   |sl q sz n f=>exact Den.ext (o:=ω.bare) hE hd
   |pa q sz n f=>exact Den.ext (o:=ω.bare) hE hd
   |er t tf e at_=>exact Den.ext (o:=ω.bare) hE hd
   |ag n f=>
    obtain⟨cs,rfl,hs,hj⟩:=hd
    exact⟨cs,rfl,hs,λj bz=>let⟨x,J,h2⟩:=hj j bz;⟨x,J,pw hm hA hE hZ d h2⟩⟩
   |tp n f=>
    obtain⟨cs,rfl,hs,hj⟩:=hd
    exact⟨cs,rfl,hs,λj bz=>let⟨x,J,h2⟩:=hj j bz;⟨x,J,pw hm hA hE hZ d h2⟩⟩
   |fn id n f=>
    obtain⟨cs,rfl,hs,hj⟩:=hd
    exact⟨cs,rfl,hs,λj bz=>let⟨x,J,h2⟩:=hj j bz;⟨x,J,pw hm hA hE hZ d h2⟩⟩
   |bm id s=>
    obtain⟨x,rfl,hx⟩:=hd
    exact⟨x,rfl,pw hm hA hE hZ d hx⟩
   |mv nm s=>
    obtain⟨x,rfl,hx⟩:=hd
    exact⟨x,rfl,pw hm hA hE hZ d hx⟩
   |ic t s=>
    obtain⟨x,rfl,hx⟩:=hd
    exact⟨x,rfl,pw hm hA hE hZ d hx⟩
/-! ### contracts -/
def di:Nat->List bc->Mem
  |_,[]=> []
  |q,b::r=>(q,⟨0,0,none,b⟩)::di (q+1) r
theorem Ng: ∀(l:List bc) (q k:Nat),ae (di q l) (q+k)=match l[k]? with|some b=>⟨0,0,none,b⟩|none=>⟨0,0,none,.dead⟩
  | [],q,k=>by simp[di,ae]
  |b::r,q,0=>by simp[di,dp]
  |b::r,q,k+1=>by
   rw[di,cC (by omega),show q+(k+1)=(q+1)+k by omega,Ng r (q+1) k]
   simp
theorem mX (l:List bc) (k:Nat):ae (di 0 l) k=match l[k]? with|some b=>⟨0,0,none,b⟩|none=>⟨0,0,none,.dead⟩:=by
  have:=Ng l 0 k
  rwa [Nat.zero_add]at this
theorem Dw (l:List bc):dF (di 0 l)=λ_=>(0,0):=by
  funext k
  unfold dF
  rw[mX]
  split<;>rfl
structure J0 (w:World) (ω:Ow) (w':World) (ao:Ow):Prop where
  os:w'.os=w.os
  tape:w'.tape=w.tape
  output:w'.output=w.output
  same:Fh ω.A w w'
  free: ∀b,b<w.heap.size-> ¬ω.A b-> ¬ao.A b
  iy: ∀b,ω.Z b->ao.Z b
  size:w.heap.size<=w'.heap.size
def qD:SV->Bool
  | .tp 0 f=>(match f 0 with| .v (.bool true)=>true|_=>false)
  |_=>false
def uy (kp:Bool):Option bc->Bool
  |some (.cells _)=>true
  |some (.row _ _ _)=>kp
  |_=>false
def lY (P:Program) (Gl:Nat->SV) (f:Nat) (args:List SV) (mem:List bc) (res:SV) (bI:List bc):Prop:=
  ∀(w:World) (ω:Ow) (vs:Array Value),(∀g,Den w ω.bare (Gl g) (.pointer (some ⟨g,0,none⟩)))->aR w ω (di 0 mem)->b_ w ω args vs.toList->
   Calls P f vs w λe w'=> ∃v ao,e= .returned v/\J0 w ω w' ao/\aR w' ao (di 0 bI)/\Den w' ao res v/\ ∀k,uy (qD res) mem[k]? =true-> ∀L,ω.β k none=some L->ao.β k none=some L
structure aT where
  ws:List Bool
  g:List SV->List bc->Option (Prop×SV×List bc)
  pj:Option Nat
abbrev Table:=Nat->Option aT
def TG (P:Program) (f n:Nat):Prop:= ∀(ad:Addr) (w:World),Calls P f #[.pointer (some ad)] w λe w'=>e= .returned (.pointer (some (ad.add n)))/\Cw w w'
structure Sound (P:Program) (Gl:Nat->SV) (Γ:Table):Prop where
  call: ∀f c,Γ f=some c-> ∀(l:Array Value) (w:World),(callFunc f l).run P w= .ok (.enter f l) w
  fn: ∀f c args mem pre res bI,Γ f=some c->c.g args mem=some (pre,res,bI)->pre->lY P Gl f args mem res bI
  pj: ∀f c n,Γ f=some c->c.pj=some n->TG P f n
end Go.Sy
set_option linter.unusedVariables false
set_option linter.unusedSimpArgs false
namespace Go.Sy
open Go.RowKit
/-! ### what is lent to be written -/
def rL:SV->List Nat
  | .ptr k _ _ _ _=> [k]
  | .pe k _ _ _ _ _ _=> [k]
  | .aO k _ _ _ _=> [k]
  | .sa k _ _ _ _ _=> [k]
  | .ag n f=>(List.range n).flatMap λj=>rL (f j)
  | .tp n f=>(List.range n).flatMap λj=>rL (f j)
  | .fn _ n f=>(List.range n).flatMap λj=>rL (f j)
  | .bm _ s=>rL s
  | .mv _ s=>rL s
  | .ic _ s=>rL s
  |_=> []
def reach (m:Nat->bk):Nat->List Nat->List Nat->List Nat
  |0,_,acc=>acc
  |_+1,[],acc=>acc
  |d+1,k::r,acc=>
   match cM acc k with
   |true=>reach m d r acc
   |false=>
    match (m k).b with
    | .cells l=>reach m d (l.flatMap rL++r) (acc++ [k])
    | .row _ _ _=>reach m d r (acc++ [k])
    | .dead=>reach m d r acc
def idx:List Nat->Nat->Option Nat
  | [],_=>none
  |x::r,k=>match Nat.beq x k with|true=>some 0|false=>match idx r k with|some q=>some (q+1)|none=>none
theorem ox: ∀{l:List Nat} {k q:Nat},idx l k=some q->l[q]? =some k
  | [],_,_,h=>by cases h
  |x::r,k,q,h=>by
   unfold idx at h
   split at h
   · next hb=>obtain rfl:=Option.some.inj h;simp[Nat.eq_of_beq_eq_true hb]
   · split at h
     · next q' hq=>obtain rfl:=Option.some.inj h;simpa using ox hq
     · cases h
theorem yf: ∀{l:List Nat} {k:Nat},idx l k=none->k∉l
  | [],_,_=>by simp
  |x::r,k,h=>by
   unfold idx at h
   split at h
   · cases h
   · next hb=>
     split at h
     · cases h
     · next hq=>simp[yf hq,Ne.symm (beq_false hb)]
def nodupB:List Nat->Bool
  | []=>true
  |x::r=>!cM r x&&nodupB r
theorem xY: ∀{l:List Nat},nodupB l=true->l.Nodup
  | [],_=>List.nodup_nil
  |x::r,h=>by
   simp only[nodupB,Bool.and_eq_true,Bool.not_eq_true']at h
   refine List.nodup_cons.2 ⟨λhm=>?_,xY h.2⟩
   rw[jf.2 hm]at h
   cases h.1
theorem AR {l:List Nat} (hl:l.Nodup) {k q:Nat} (h:l[q]? =some k):idx l k=some q:=by
  cases hi:idx l k with
  |none=>exact absurd (List.mem_of_getElem? h) (yf hi)
  |some q'=>
   have h':=ox hi
   obtain⟨J,h2⟩:=List.getElem?_eq_some_iff.1 h
   obtain⟨h3,h4⟩:=List.getElem?_eq_some_iff.1 h'
   have:=(List.getElem_inj hl).1 (h2.trans h4.symm)
   rw[this]
def pD (m:Nat->bk) (ks:List Nat):Nat->Nat->Path->Option (Nat×Nat):=λk s p=>
  match idx ks k with
  |some q=>match cD m k s p with|true=>some (q,0)|false=>none
  |none=>none
def km (φ:Nat->Nat->Path->Option (Nat×Nat)) (d:Bool):bc->bc
  | .dead=> .dead
  | .cells l=> .cells (l.map λs=>dB φ d s)
  | .row sz n f=> .row sz n λi j=>dB φ d (f i j)
def whole (e:bk):Bool:=match e.hl,e.b with|_,.dead=>false|none,_=>true|some _,_=>false
theorem NW {e:bk} (h:whole e=true):e.hl=none:=by
  unfold whole at h
  split at h
  · cases h
  · next hh _=>exact hh
  · cases h
theorem Pw {e:bk} (h:whole e=true):e.b≠ .dead:=by
  intro hb
  unfold whole at h
  rw[hb]at h
  simp at h
def lK (ω:Ow) (ks:List Nat):Ow:=
  let β:Nat->Path->Option Loc:=λq p=>match ks[q]? with|some k=>ω.β k p|none=>none
  let A:Nat->Prop:=λb=> ∃q p L,β q p=some L/\L.b=b
  ⟨A,λb=>ω.Z b\/(ω.A b/\ ¬A b),β,λ_=>(0,0)⟩
section
variable {P:Program} {w:World} {ω:Ow} {ρ:Operand->SV} {M:Mem} {a:Act}
theorem Bc {ks:List Nat} {q:Nat} {p:Path} {L:Loc} (h:(lK ω ks).β q p=some L): ∃k,ks[q]? =some k/\ω.β k p=some L:=by
  have h:(match ks[q]? with|some k=>ω.β k p|none=>none)=some L:=h
  split at h
  · next k hk=>exact⟨k,hk,h⟩
  · cases h
theorem rJ (hm:aR w ω M) {ks:List Nat} {b:Nat} (h:(lK ω ks).A b):ω.A b/\ ∃k∈ks,∃p L,ω.β k p=some L/\L.b=b:=by
  obtain⟨q,p,L,J,h2⟩:=h
  obtain⟨k,h3,h4⟩:=Bc J
  exact⟨(hm.own b) ⟨k,p,L,h4,h2⟩,k,List.mem_of_getElem? h3,p,L,h4,h2⟩
theorem AT (hm:aR w ω M) (ks:List Nat):Ext w ω.bare w (lK ω ks).bare where
  os:=rfl
  tape:=rfl
  output:=rfl
  same:=λ_ _ _=>rfl
  free:=λb _ h h'=>h (rJ hm h').1
  iy:=λb _ h hz h'=>h'.elim hz λh''=>h h''.1
  size:=Nat.le_refl _
  mono:=λ_=>⟨Nat.le_refl _,Nat.le_refl _⟩
  pJ:=λ_ _ _ h=>by cases h
  zs:=λ_ h=> .inl h
theorem Pz (hm:aR w ω M) (ks:List Nat):BU false w ω (lK ω ks):=by
  intro b q hb _ J h2
  exact⟨λh=>J (rJ hm h).1,λhq h=>h.elim (h2 hq) λh=>J h.1⟩
theorem Py (hm:aR w ω M) (ks:List Nat):uE ω (lK ω ks) (pD (ae M) ks):=by
  intro k s p k' s' h
  unfold pD at h
  split at h
  · next q hq=>
    split at h
    · next bF=>
      simp only[Option.some.injEq,Prod.mk.injEq]at h
      obtain⟨rfl,rfl⟩:=h
      refine⟨kO hm bF,by cases p<;>rfl,?_⟩
      show(match ks[q]? with|some k=>ω.β k p|none=>none)=_
      rw[ox hq]
    · cases h
  · cases h
theorem Xz {φ:Nat->Nat->Path->Option (Nat×Nat)} {d:Bool} {s:SV} (h:cW s=false):cW (dB φ d s)=false:=by
  cases s with
  |il _ _ _=>cases h
  |ptr k s p i j=>simp only[dB,jB];split<;>rfl
  |pe k s p i j len z=>simp only[dB,jB];split<;>rfl
  |aO k s p e n=>simp only[dB,jB];split<;>rfl
  |sa k s p i j n=>simp only[dB,jB];split<;>rfl
  |pt q n f=>cases d<;>cases q<;>rfl
  |sl q sz n f=>cases d<;>cases q<;>rfl
  |pa q sz n f=>cases d<;>cases q<;>rfl
  |_=>rfl
theorem Nf {φ:Nat->Nat->Path->Option (Nat×Nat)} {d:Bool} {b:bc} {p:Path} {r:Row} (h:gu b p=some r): ∃r',gu (km φ d b) p=some r'/\r'.sz=r.sz/\r'.n=r.n/\ ∀i j,i<r.n->j<r.sz->r'.f i j=dB φ d (r.f i j):=by
  cases p with
  |none=>
   cases b with
   |dead=>cases h
   |cells l=>
    obtain rfl:=Option.some.inj h
    refine⟨_,rfl,by simp,rfl,λi j _ hj=>?_⟩
    have hj:j<l.length:=hj
    simp[aL,List.getD_eq_getElem?_getD,hj]
   |row sz n f=>
    obtain rfl:=Option.some.inj h
    exact⟨_,rfl,rfl,rfl,λ_ _ _ _=>rfl⟩
  |some ij=>
   obtain⟨i,j⟩:=ij
   cases b with
   |dead=>cases h
   |cells l=>cases h
   |row sz n f=>
    have h:inner ⟨sz,n,f⟩ i j=some r:=h
    unfold inner at h
    split at h
    · next bq n2 g hg=>
      obtain rfl:=Option.some.inj h
      have hg:f i j= .il bq n2 g:=hg
      refine⟨⟨bq,n2,λa b=>dB φ d (g a b)⟩,?_,rfl,rfl,λ_ _ _ _=>rfl⟩
      show inner ⟨sz,n,λi j=>dB φ d (f i j)⟩ i j=_
      unfold inner
      simp only[hg,dB,jB]
    · cases h
theorem Dp {w':World} {ao:Ow} {φ:Nat->Nat->Path->Option (Nat×Nat)} {d:Bool} (nX: ∀{s:SV} {x:Value},Den w ω s x->Den w' ao (dB φ d s) x) {k k' i j:Nat} (cZ:ao.β k' (some (i,j))=ω.β k (some (i,j))) {s:SV} {x:Value} (h:cI w ω none k i j s x):cI w' ao none k' i j (dB φ d s) x:=by
  cases hi:cW s with
  |false=>rw[gr hi]at h;rw[gr (Xz hi)];exact nX h
  |true=>
   cases s with
   |il sz n g=>
    rcases h with h|⟨⟨q,cap,y1,y2,y3,y4⟩,h2⟩
    · cases h
    · exact .inr ⟨⟨q,cap,y1,y2,y3,by rw[cZ];exact y4⟩,λL hL=>h2 L (by rw[<-cZ];exact hL)⟩
   |_=>cases hi
theorem Zf (hm:aR w ω M) {ks:List Nat} (jL:ks.Nodup) (hw: ∀k∈ks,whole (ae M k)=true):aR w (lK ω ks) (di 0 (ks.map λk=>km (pD (ae M) ks) false (ae M k).b)) where
  cur:=(Dw _).symm
  own:=λ_ h=>h
  fg:=λb h=>hm.fg b (rJ hm h).1
  dj:=λb h hz=>hz.elim (hm.dj b (rJ hm h).1) λhz=>hz.2 h
  gJ:=λb hz=>hz.elim (hm.gJ b) λhz=>hm.fg b hz.1
  inj:=λq p L q' p' L' J h2 e=>by
    obtain⟨k,e1,e2⟩:=Bc J
    obtain⟨k',e3,e4⟩:=Bc h2
    obtain⟨rfl,rfl⟩:=hm.inj _ _ _ _ _ _ e2 e4 e
    have:=(AR jL e1).symm.trans (AR jL e3)
    exact⟨Option.some.inj this,rfl⟩
  low:=λq p L h=>by
    obtain⟨k,e1,e2⟩:=Bc h
    exact hm.low _ _ _ e2
  row:=λq p L h=>by
    obtain⟨k,e1,e2⟩:=Bc h
    obtain⟨r,g1,g2,g3,c,T,g4,g5,g6,g7⟩:=hm.row _ _ _ e2
    obtain⟨r',f1,f2,f3,f4⟩:=Nf (φ:=pD (ae M) ks) (d:=false) g1
    have he:ae (di 0 (ks.map λk=>km (pD (ae M) ks) false (ae M k).b)) q=⟨0,0,none,km (pD (ae M) ks) false (ae M k).b⟩:=by
      rw[mX,List.getElem?_map,e1];rfl
    refine⟨r',by unfold rowAt;rw[he];exact f1,f2.trans g2,f3.trans g3,c,T,g4,g5,g6,λi hi j hj=>?_⟩
    obtain⟨x,x1,x2⟩:=g7 i hi j hj
    refine⟨x,x1,?_⟩
    rw[f4 i j (by rw[g3];exact hi) (by rw[g2];exact hj),he]
    have nX: ∀{s:SV} {x:Value},Den w ω s x->Den w (lK ω ks) (dB (pD (ae M) ks) false s) x:=λh=>DO (Py hm ks) (λ_=>AT hm ks) (Pz hm ks) h
    cases p with
    |some _=>exact nX x2
    |none=>
     have kZ:=NW (hw k (List.mem_of_getElem? e1))
     rw[kZ]at x2
     refine Dp nX ?_ x2
     show(match ks[q]? with|some k=>ω.β k _|none=>none)=_
     rw[e1]
  live:=λq l h=>by
    rw[mX,List.getElem?_map]at h
    cases hq:ks[q]? with
    |none=>rw[hq]at h;cases h
    |some k=>
     rw[hq]at h
     have h:km (pD (ae M) ks) false (ae M k).b= .cells l:=h
     cases hb:(ae M k).b with
     |dead=>rw[hb]at h;cases h
     |row _ _ _=>rw[hb]at h;cases h
     |cells l0=>
      obtain⟨L,hL⟩:=hm.live _ _ hb
      refine⟨L,?_⟩
      show(match ks[q]? with|some k=>ω.β k none|none=>none)=_
      rw[hq];exact hL
  fm:=λq i j h=>by
   rw[mX]at h
   split at h<;>cases h
/-! ### behind the call -/
def ta (kp:Bool) (ks:List Nat) (m:Nat->bk) (k:Nat):Nat×Nat:=
  match cM ks k with
  |true=>(match uy kp (some (m k).b)with|true=>(m k).rs|false=>(m k).rs+1,(m k).ds+1)
  |false=>((m k).rs,(m k).ds)
def uX (kp:Bool) (jR ks:List Nat) (m:Nat->bk):Nat->Nat->Path->Option (Nat×Nat):=λq s p=>
  match jR[q]? with
  |some k=>match Nat.beq s 0 with|true=>some (k,match p with|none=>(ta kp ks m k).1|some _=>(ta kp ks m k).2)|false=>none
  |none=>none
def iI (kp:Bool) (ks:List Nat) (m:Nat->bk) (φ:Nat->Nat->Path->Option (Nat×Nat)):List Nat->List bc->aX
  |k::r,b::t=>(k,⟨(ta kp ks m k).1,(ta kp ks m k).2,none,km φ true b⟩)::iI kp ks m φ r t
  |_,_=> []
theorem qp {kp:Bool} {ks:List Nat} {m:Nat->bk} {φ:Nat->Nat->Path->Option (Nat×Nat)} {M:Mem}: ∀{jR:List Nat} {bs:List bc} {k q:Nat} {b:bc},idx jR k=some q->bs[q]? =some b->
    ae (iI kp ks m φ jR bs++M) k=⟨(ta kp ks m k).1,(ta kp ks m k).2,none,km φ true b⟩
  | [],_,_,_,_,h,_=>by cases h
  |x::r,[],_,_,_,_,h=>by simp at h
  |x::r,c::t,k,q,b,h,hb=>by
   unfold idx at h
   split at h
   · next he=>
     obtain rfl:=Nat.eq_of_beq_eq_true he
     obtain rfl:=Option.some.inj h
     simp only[List.getElem?_cons_zero,Option.some.injEq]at hb
     subst hb
     exact dp
   · next he=>
     split at h
     · next q' hq=>
       obtain rfl:=Option.some.inj h
       simp only[List.getElem?_cons_succ]at hb
       rw[iI,List.cons_append,cC (beq_false he)]
       exact qp hq hb
     · cases h
theorem ub {kp:Bool} {ks:List Nat} {m:Nat->bk} {φ:Nat->Nat->Path->Option (Nat×Nat)} {M:Mem}: ∀{jR:List Nat} {bs:List bc} {k:Nat},idx jR k=none->ae (iI kp ks m φ jR bs++M) k=ae M k
  | [],_,_,_=>by simp[iI]
  |x::r,[],_,_=>by simp[iI]
  |x::r,c::t,k,h=>by
   have hn:=yf h
   simp only[List.mem_cons,not_or]at hn
   rw[iI,List.cons_append,cC (Ne.symm hn.1)]
   refine ub ?_
   cases hi:idx r k with
   |none=>rfl
   |some q=>exact absurd (List.mem_of_getElem? (ox hi)) hn.2
theorem wG {l:List Nat} {k q:Nat} (h:idx l k=some q):q<l.length:=(List.getElem?_eq_some_iff.1 (ox h)).1
def uY (ω ao:Ow) (ks jR:List Nat) (M':Mem):Ow:=
  let β:Nat->Path->Option Loc:=λk p=>match idx jR k with|some q=>ao.β q p|none=>ω.β k p
  ⟨λb=>ao.A b\/(ω.A b/\ ¬(lK ω ks).A b),ω.Z,β,dF M'⟩
theorem za {ao:Ow} {ks jR:List Nat} {M':Mem} {k:Nat} {p:Path} {L:Loc} (h:(uY ω ao ks jR M').β k p=some L):(∃q,idx jR k=some q/\ao.β q p=some L)\/(idx jR k=none/\ω.β k p=some L):=by
  have h:(match idx jR k with|some q=>ao.β q p|none=>ω.β k p)=some L:=h
  split at h
  · next q hq=>exact .inl ⟨q,hq,h⟩
  · next hq=>exact .inr ⟨hq,h⟩
structure jl (kp:Bool) (w:World) (ω:Ow) (M:Mem) (ks ns:List Nat) (bI:List bc) (w':World) (ao:Ow):Prop where
  hm:aR w ω M
  nd:(ks++ns).Nodup
  wh: ∀k∈ks,whole (ae M k)=true
  fr: ∀k∈ns,cv (ae M) k=true
  len:bI.length=(ks++ns).length
  j6:J0 w (lK ω ks) w' ao
  mem:aR w' ao (di 0 bI)
  keep: ∀q k,ks[q]? =some k->uy kp (some (ae M k).b)=true-> ∀L,ω.β k none=some L->ao.β q none=some L
section
variable {kp:Bool} {ks ns:List Nat} {bI:List bc} {w':World} {ao:Ow}
theorem jl.apart (h:jl kp w ω M ks ns bI w' ao) {k:Nat} {p:Path} {L:Loc} (hk:idx (ks++ns) k=none) (hL:ω.β k p=some L): ¬(lK ω ks).A L.b:=by
  intro hA
  obtain⟨k',cR,p',L',J,h2⟩:=(rJ h.hm hA).2
  obtain⟨rfl,_⟩:=h.hm.inj _ _ _ _ _ _ J hL h2
  exact yf hk (List.mem_append_left _ cR)
theorem jl.free (h:jl kp w ω M ks ns bI w' ao) {k:Nat} {p:Path} {L:Loc} (hk:idx (ks++ns) k=none) (hL:ω.β k p=some L): ¬ao.A L.b:=h.j6.free _ (h.hm.low _ _ _ hL) (h.apart hk hL)
theorem jl.qZ (h:jl kp w ω M ks ns bI w' ao) {q:Nat} (hq:q<(ks++ns).length): ∃b,bI[q]? =some b:=⟨_,List.getElem?_eq_getElem (h.len▸hq)⟩
theorem jl.new (h:jl kp w ω M ks ns bI w' ao) {k:Nat} (hk:k∈ns) (p:Path):ω.β k p=none:=(mV h.hm (h.fr k hk)).2.2 p
variable (jR:List Nat) (xU:jR=ks++ns)
theorem jl.ext (h:jl kp w ω M ks ns bI w' ao) (φ:Nat->Nat->Path->Option (Nat×Nat)):Ext w ω w' (uY ω ao ks (ks++ns) (iI kp ks (ae M) φ (ks++ns) bI++M)) where
  os:=h.j6.os
  tape:=h.j6.tape
  output:=h.j6.output
  same:=λb hb hn=>h.j6.same b hb λh'=>hn (rJ h.hm h').1
  free:=λb hb hn h'=>by
    rcases h' with h'|h'
    · exact h.j6.free b hb (λh'=>hn (rJ h.hm h').1) h'
    · exact hn h'.1
  iy:=λb _ _ hz=>hz
  size:=h.j6.size
  zs:=λ_ h=>h
  mono:=λk=>by
    rw[h.hm.cur]
    show(dF M k).1<=(dF _ k).1/\(dF M k).2<=(dF _ k).2
    unfold dF
    cases hi:idx (ks++ns) k with
    |none=>rw[ub hi];exact⟨Nat.le_refl _,Nat.le_refl _⟩
    |some q=>
     obtain⟨b,hb⟩:=h.qZ (wG hi)
     rw[qp hi hb]
     simp only[ta]
     split
     · split<;>simp
     · simp
  pJ:=λk p L hL bC=>by
   show(match idx (ks++ns) k with|some q=>ao.β q p|none=>ω.β k p)=some L
   cases hi:idx (ks++ns) k with
   |none=>exact hL
   |some q=>
    obtain⟨b,hb⟩:=h.qZ (wG hi)
    have hg:=ox hi
    rcases Nat.lt_or_ge q ks.length with hq|hq
    · rw[List.getElem?_append_left hq]at hg
      have a_:=jf.2 (List.mem_of_getElem? hg)
      rw[h.hm.cur]at bC
      have yX:(uY ω ao ks (ks++ns) (iI kp ks (ae M) φ (ks++ns) bI++M)).cur=dF (iI kp ks (ae M) φ (ks++ns) bI++M):=rfl
      rw[yX]at bC
      cases p with
      |some ij=>
       have bC:(ae (iI kp ks (ae M) φ (ks++ns) bI++M) k).ds=(ae M k).ds:=bC
       rw[qp hi hb]at bC
       simp only[ta,a_]at bC
       omega
      |none=>
       have bC:(ae (iI kp ks (ae M) φ (ks++ns) bI++M) k).rs=(ae M k).rs:=bC
       rw[qp hi hb]at bC
       simp only[ta,a_]at bC
       cases hs:uy kp (some (ae M k).b)with
       |false=>rw[hs]at bC;simp only at bC;omega
       |true=>exact h.keep q k hg hs L hL
    · rw[List.getElem?_append_right hq]at hg
      rw[h.new (List.mem_of_getElem? hg)]at hL
      cases hL
theorem jl.ref (h:jl kp w ω M ks ns bI w' ao) (φ:Nat->Nat->Path->Option (Nat×Nat)):uE ao (uY ω ao ks (ks++ns) (iI kp ks (ae M) φ (ks++ns) bI++M)) (uX kp (ks++ns) ks (ae M)):=by
  intro q s p k' s' he
  unfold uX at he
  split at he
  · next k hk=>
    split at he
    · next hs=>
      simp only[Option.some.injEq,Prod.mk.injEq]at he
      obtain⟨rfl,rfl⟩:=he
      have hi:=AR h.nd hk
      obtain⟨b,hb⟩:=h.qZ (wG hi)
      refine⟨?_,?_,?_⟩
      · rw[Nat.eq_of_beq_eq_true hs,h.mem.cur,Dw];cases p<;>rfl
      · show _=st (dF _) k p
        cases p with
        |none=>show _=(ae _ k).rs;rw[qp hi hb]
        |some _=>show _=(ae _ k).ds;rw[qp hi hb]
      · show(match idx (ks++ns) k with|some q=>ao.β q p|none=>ω.β k p)=_
        rw[hi]
    · cases he
  · cases he
theorem jl.ro (h:jl kp w ω M ks ns bI w' ao) (M':Mem):BU true w' ao (uY ω ao ks (ks++ns) M'):=by
  intro b q hb hq J h2
  obtain rfl:=hq rfl
  have hz: ¬(lK ω ks).Z b:=λhz=>h2 rfl (h.j6.iy b hz)
  refine⟨?_,λ_ xk=>hz (.inl xk)⟩
  rintro (h3|h3)
  · exact J h3
  · exact hz (.inr h3)
theorem jl.den (h:jl kp w ω M ks ns bI w' ao) (φ:Nat->Nat->Path->Option (Nat×Nat)) {s:SV} {u:Value} (hd:Den w' ao s u):Den w' (uY ω ao ks (ks++ns) (iI kp ks (ae M) φ (ks++ns) bI++M)) (dB (uX kp (ks++ns) ks (ae M)) true s) u:=DO (d:=true) (h.ref φ) (λe=>by cases e) (h.ro _) hd
theorem jl.back (h:jl kp w ω M ks ns bI w' ao):aR w' (uY ω ao ks (ks++ns) (iI kp ks (ae M) (uX kp (ks++ns) ks (ae M)) (ks++ns) bI++M)) (iI kp ks (ae M) (uX kp (ks++ns) ks (ae M)) (ks++ns) bI++M) where
  cur:=rfl
  own:=by
    rintro b ⟨k,p,L,J,rfl⟩
    rcases za J with⟨q,g1,g2⟩|⟨g1,g2⟩
    · exact .inl (h.mem.own _ ⟨q,p,L,g2,rfl⟩)
    · exact .inr ⟨h.hm.own _ ⟨k,p,L,g2,rfl⟩,h.apart g1 g2⟩
  fg:=λb hb=>hb.elim (h.mem.fg b) λhb=>Nat.lt_of_lt_of_le (h.hm.fg b hb.1) h.j6.size
  dj:=λb hb hz=>hb.elim (λhb=>h.mem.dj b hb (h.j6.iy b (.inl hz))) λhb=>h.hm.dj b hb.1 hz
  gJ:=λb hz=>Nat.lt_of_lt_of_le (h.hm.gJ b hz) h.j6.size
  inj:=λk p L k' p' L' J h2 e=>by
    rcases za J with⟨q,g1,g2⟩|⟨g1,g2⟩<;>rcases za h2 with⟨q',g3,g4⟩|⟨g3,g4⟩
    · obtain⟨rfl,rfl⟩:=h.mem.inj _ _ _ _ _ _ g2 g4 e
      exact⟨Option.some.inj ((ox g1).symm.trans (ox g3)),rfl⟩
    · exact absurd ((h.mem.own _) ⟨_,_,_,g2,e⟩) (h.free g3 g4)
    · exact absurd ((h.mem.own _) ⟨_,_,_,g4,e.symm⟩) (h.free g1 g2)
    · exact h.hm.inj _ _ _ _ _ _ g2 g4 e
  low:=λk p L J=>by
    rcases za J with⟨q,g1,g2⟩|⟨g1,g2⟩
    · exact h.mem.low _ _ _ g2
    · exact Nat.lt_of_lt_of_le (h.hm.low _ _ _ g2) h.j6.size
  row:=λk p L J=>by
    rcases za J with⟨q,g1,g2⟩|⟨g1,g2⟩
    · obtain⟨b,hb⟩:=h.qZ (wG g1)
      obtain⟨r,e1,e2,e3,c,T,e4,e5,e6,e7⟩:=h.mem.row _ _ _ g2
      have he:ae (di 0 bI) q=⟨0,0,none,b⟩:=by rw[mX,hb]
      unfold rowAt at e1
      rw[he]at e1 e7
      obtain⟨r',f1,f2,f3,f4⟩:=Nf (φ:=uX kp (ks++ns) ks (ae M)) (d:=true) e1
      refine⟨r',by unfold rowAt;rw[qp g1 hb];exact f1,f2.trans e2,f3.trans e3,c,T,e4,e5,e6,λi hi j hj=>?_⟩
      obtain⟨x,x1,x2⟩:=e7 i hi j hj
      refine⟨x,x1,?_⟩
      rw[f4 i j (by rw[e3];exact hi) (by rw[e2];exact hj),qp g1 hb]
      cases p with
      |some _=>exact h.den _ x2
      |none=>
       refine Dp (λhd=>h.den _ hd) ?_ x2
       show(match idx (ks++ns) k with|some q=>ao.β q _|none=>ω.β k _)=_
       rw[g1]
    · obtain⟨r,e1,e2,e3,e4⟩:=h.hm.row _ _ _ g2
      refine⟨r,by unfold rowAt;rw[ub g1];exact e1,e2,e3,?_⟩
      rw[ub g1]
      refine qE.ext (h.ext _) ?_ ?_ ?_ e4
      · rw[h.hm.cur]
        show(ae _ k).ds=(ae M k).ds
        rw[ub g1]
      · intro q
        show(match idx (ks++ns) k with|some q'=>ao.β q' q|none=>ω.β k q)=_
        rw[g1]
      · exact h.j6.same _ (h.hm.low _ _ _ g2) (h.apart g1 g2)
  live:=λk l hl=>by
    show∃L,(match idx (ks++ns) k with|some q=>ao.β q none|none=>ω.β k none)=some L
    cases hi:idx (ks++ns) k with
    |none=>rw[ub hi]at hl;exact h.hm.live _ _ hl
    |some q=>
     obtain⟨b,hb⟩:=h.qZ (wG hi)
     rw[qp hi hb]at hl
     have hl:km _ true b= .cells l:=hl
     cases b with
     |dead=>cases hl
     |row _ _ _=>cases hl
     |cells l0=>exact h.mem.live q l0 (by rw[mX,hb])
  fm:=λk i j hh=>by
   show(match idx (ks++ns) k with|some q=>ao.β q _|none=>ω.β k _)=none
   cases hi:idx (ks++ns) k with
   |none=>rw[ub hi]at hh;exact h.hm.fm _ _ _ hh
   |some q=>
    obtain⟨b,hb⟩:=h.qZ (wG hi)
    rw[qp hi hb]at hh
    cases hh
end
end
end Go.Sy
set_option linter.unusedVariables false
set_option linter.unusedSimpArgs false
namespace Go.Sy
open Go.RowKit
def gf {α:Type} (n:Nat) (k:Nat->α):α:=match n with|0=>k 0|m+1=>k (m+1)
theorem mq {α:Type} (n:Nat) (k:Nat->α):gf n k=k n:=by cases n<;>rfl
def fP {α:Type} (p:Path) (k:Path->α):α:=match p with|none=>k none|some (i,j)=>k (some (i,j))
theorem TR {α:Type} (p:Path) (k:Path->α):fP p k=k p:=by cases p with|none=>rfl|some ij=>cases ij;rfl
def fV {α:Type} (x:Value) (k:Value->α):α:=
  match x with
  | .int a z=>k (.int a z)
  | .bool b=>k (.bool b)
  |x=>k x
theorem aeK {α:Type} (x:Value) (k:Value->α):fV x k=k x:=by cases x<;>rfl
def zA {α:Type} (s:SV) (k:SV->α):α:=
  match s with
  | .ptr q st p i j=>gf q λq=>gf st λst=>fP p λp=>k (.ptr q st p i j)
  | .pe q st p i j l z=>gf q λq=>gf st λst=>fP p λp=>k (.pe q st p i j l z)
  | .aO q st p e n=>gf q λq=>gf st λst=>fP p λp=>k (.aO q st p e n)
  | .sa q st p i j n=>gf q λq=>gf st λst=>fP p λp=>k (.sa q st p i j n)
  | .v x=>fV x λx=>k (.v x)
  | .pt q n f=>k (.pt q n f)
  | .ag n f=>k (.ag n f)
  |s=>k s
theorem EA {α:Type} (s:SV) (k:SV->α):zA s k=k s:=by
  cases s<;>simp only[zA,mq,TR,aeK]
def BX {α:Type}:List SV->(List SV->α)->α
  | [],k=>k []
  |s::r,k=>zA s λs=>BX r λr=>k (s::r)
theorem HN {α:Type}: ∀(l:List SV) (k:List SV->α),BX l k=k l
  | [],_=>rfl
  |s::r,k=>by simp only[BX,EA,HN r]
def Fg {α:Type} (b:bc) (k:bc->α):α:=
  match b with
  | .dead=>k .dead
  | .cells l=>BX l λl=>k (.cells l)
  | .row sz n f=>gf sz λsz=>k (.row sz n f)
theorem Px {α:Type} (b:bc) (k:bc->α):Fg b k=k b:=by
  cases b<;>simp only[Fg,mq,HN]
def E0 {α:Type}:List bc->(List bc->α)->α
  | [],k=>k []
  |b::r,k=>Fg b λb=>E0 r λr=>k (b::r)
theorem NY {α:Type}: ∀(l:List bc) (k:List bc->α),E0 l k=k l
  | [],_=>rfl
  |s::r,k=>by simp only[E0,Px,NY r]
def wF {α:Type}:List Nat->(List Nat->α)->α
  | [],k=>k []
  |b::r,k=>gf b λb=>wF r λr=>k (b::r)
theorem G7 {α:Type}: ∀(l:List Nat) (k:List Nat->α),wF l k=k l
  | [],_=>rfl
  |s::r,k=>by simp only[wF,mq,G7 r]
def vZ {α:Type}:List (List Nat)->(List (List Nat)->α)->α
  | [],k=>k []
  |b::r,k=>wF b λb=>vZ r λr=>k (b::r)
theorem AG {α:Type}: ∀(l:List (List Nat)) (k:List (List Nat)->α),vZ l k=k l
  | [],_=>rfl
  |s::r,k=>by simp only[vZ,G7,AG r]
def FI {α:Type}:List (Nat×SV)->(List (Nat×SV)->α)->α
  | [],k=>k []
  |p::r,k=>gf p.1 λa=>zA p.2 λb=>FI r λr=>k ((a,b)::r)
theorem Rm {α:Type}: ∀(l:List (Nat×SV)) (k:List (Nat×SV)->α),FI l k=k l
  | [],_=>rfl
  |s::r,k=>by simp only[FI,mq,EA,Rm r]
end Go.Sy
set_option linter.unusedVariables false
set_option linter.unusedSimpArgs false
namespace Go.Sy
open Go.RowKit
def Bw (m:Nat->bk) (ks:List Nat):List Bool->List SV->List SV
  |_,[]=> []
  | [],s::r=>ro true 12 m ks s::Bw m ks [] r
  |b::t,s::r=>(match b with|true=>dB (pD m ks) false s|false=>ro true 12 m ks s)::Bw m ks t r
def uo:List Bool->List SV->List Nat
  |true::t,s::r=>rL s++uo t r
  |false::t,_::r=>uo t r
  |_,_=> []
def Rp (n:Nat) (m:Nat->bk):List SV->Option (Prop×SV×aX)
  | [.ptr k s p i j]=>match cD m k s p with|true=>some (True,.ptr k s p i (j+n),[])|false=>none
  |_=>none
def DQ (Γ:Table) (m:Nat->bk) (nx id:Nat) (as:List SV):Option (Prop×SV×aX):=
  match Γ id with
  |some c=>
   match c.pj with
   |some n=>Rp n m as
   |none=>
   let ks:=reach m 64 (uo c.ws as) []
   match (BX (Bw m ks c.ws as) λl=>E0 (ks.map λk=>km (pD m ks) false (m k).b) λb=>c.g l b)with
   |some (pre,res,bI)=>
    let ns:=(List.range (bI.length -ks.length)).map λq=>nx+q
    match nodupB (ks++ns),ks.all λk=>whole (m k),ns.all λk=>cv m k,Nat.ble ks.length bI.length with
    |true,true,true,true=>some (pre,dB (uX (qD res) (ks++ns) ks m) true res,iI (qD res) ks m (uX (qD res) (ks++ns) ks m) (ks++ns) bI)
    |_,_,_,_=>none
   |none=>none
  |none=>none
def yg (m:Nat->bk) (r:Nat):List Bool->List SV->Option (List SV×aX)
  |b::t,s::l=>
   match b,Ba m r s with
   |true,some x=>some (x.1::l,x.2)
   |_,_=>match yg m r t l with|some x=>some (s::x.1,x.2)|none=>none
  |_,_=>none
def D8 (Γ:Table) (m:Nat->bk) (nx id:Nat) (as:List SV):Option (Prop×SV×aX):=
  match Γ id with
  |some c=>
   match yg m (nx+60) c.ws as with
   |some x=>match DQ Γ (ov x.2 m) nx id x.1 with|some y=>some (y.1,y.2.1,y.2.2++x.2)|none=>none
   |none=>DQ Γ m nx id as
  |none=>none
def NX (ρ:Operand->SV) (f:Operand) (args:List Operand):Option (Nat×List SV):=
  match ρ f with
  | .fn id n gx=>some (id,args.map ρ++(List.range n).map gx)
  | .bm id s=>some (id,s::args.map ρ)
  |_=>none
def Ez (Γ:Table) (ρ:Operand->SV) (m:Nat->bk) (nx:Nat) (f:Operand) (args:List Operand):Option (Prop×SV×aX):=
  match NX ρ f args with
  |some (id,as)=>D8 Γ m nx id as
  |none=>none
section
variable {P:Program} {w:World} {ω:Ow} {ρ:Operand->SV} {M:Mem} {a:Act} {Gl:Nat->SV} {Γ:Table}
def DP (P:Program) (Γ:Table) (ρ:Operand->SV) (m:Nat->bk) (nx:Nat) (r:Operand) (name:String) (args:List Operand):Option (Prop×SV×aX):=
  match ρ r with
  | .ic t s=>match Bb P t name with|some id=>D8 Γ m nx id (s::args.map ρ)|none=>none
  |_=>none
theorem GN (hm:aR w ω M) (ks:List Nat): ∀{ws:List Bool} {ss:List SV} {us:List Value},b_ w ω ss us->b_ w (lK ω ks) (Bw (ae M) ks ws ss) us
  |_,[],[],_=>by simp[Bw,b_]
  | [],s::r,u::t,⟨J,h2⟩=>⟨(pw (ao:=lK ω ks) hm (λb hb=>(rJ hm hb).2) (AT hm ks) (qq:=true) (λe=>by cases e) 12 J).up,GN hm ks h2⟩
  |b::t',s::r,u::t,⟨J,h2⟩=>by
   refine⟨?_,GN hm ks h2⟩
   cases b with
   |true=>exact DO (Py hm ks) (λ_=>AT hm ks) (Pz hm ks) J
   |false=>exact(pw (ao:=lK ω ks) hm (λb hb=>(rJ hm hb).2) (AT hm ks) (qq:=true) (λe=>by cases e) 12 J).up
  |_,[],_::_,h=>h.elim
  | [],_::_,[],h=>h.elim
  |_::_,_::_,[],h=>h.elim
def TU (ω:Ow) (κ:List Nat) (w w':World):Prop:= ∀b,b<w.heap.size->(∀k∈κ,∀p L,ω.β k p=some L->L.b≠b)->w'.heap[b]? =w.heap[b]?
def wa (P:Program) (w:World) (ω:Ow) (M:Mem) (id:Nat) (vs:Array Value) (s:SV) (u:aX):Prop:=
  Calls P id vs w λe w'=> ∃v ao,e= .returned v/\bp w ω M w' ao (u++M)/\Den w' ao s v/\(kR (ae M) u=true->kA w ω w' ao (λk=>k∈u.map (·.1)))/\TU ω (u.map (·.1)) w w'
theorem Yg {kp d:Bool} {φ:Nat->Nat->Path->Option (Nat×Nat)} {b:bc}:uy kp (some (km φ d b))=uy kp (some b):=by cases b<;>rfl
theorem G' {kp:Bool} {ks:List Nat} {m:Nat->bk} {φ:Nat->Nat->Path->Option (Nat×Nat)}: ∀{jR:List Nat} {bs:List bc},bs.length=jR.length->(iI kp ks m φ jR bs).map (·.1)=jR
  | [],bs,_=>by simp[iI]
  |k::r,[],h=>by simp at h
  |k::r,b::t,h=>by simp[iI,G' (by simpa using h)]
theorem jl.aeJ {kp:Bool} {ks ns:List Nat} {bI:List bc} {w':World} {ao:Ow} (h:jl kp w ω M ks ns bI w' ao) (φ:Nat->Nat->Path->Option (Nat×Nat)) (hf:kR (ae M) (iI kp ks (ae M) φ (ks++ns) bI)=true):
    kA w ω w' (uY ω ao ks (ks++ns) (iI kp ks (ae M) φ (ks++ns) bI++M)) (λk=>k∈(iI kp ks (ae M) φ (ks++ns) bI).map (·.1)):=by
  have Bx:=G' (kp:=kp) (ks:=ks) (m:=ae M) (φ:=φ) h.len
  have fW: ∀k∈ks++ns,cv (ae M) k=true:=by
    intro k hk
    rw[<-Bx,List.mem_map]at hk
    obtain⟨p,hp,rfl⟩:=hk
    exact List.all_eq_true.1 hf p hp
  have Vr:ks= []:=by
    cases ks with
    |nil=>rfl
    |cons k r=>
     exfalso
     exact Pw (h.wh k (by simp)) ((mV h.hm (fW k (by simp))).1)
  subst Vr
  have cj: ∀b,¬(lK ω []).A b:=by
    rintro b ⟨q,p,L,J,_⟩
    simp at J
  rw[Bx]
  refine⟨⟨h.j6.os,h.j6.tape,h.j6.output,h.j6.size,λb hb=>h.j6.same b hb (cj b)⟩,λb hb=> .inr ⟨hb,cj b⟩,rfl,λk p hk=>?_,λk p L hk hL=>?_,?_⟩
  · show(match idx ([]++ns) k with|some q=>ao.β q p|none=>ω.β k p)=_
    cases hi:idx ([]++ns) k with
    |none=>rfl
    |some q=>exact absurd (List.mem_of_getElem? (ox hi)) hk
  · rcases za hL with⟨q,_,h3⟩|⟨hi,_⟩
    · rcases Nat.lt_or_ge L.b w.heap.size with av|dz
      · exact absurd (h.mem.own _ ⟨q,p,L,h3,rfl⟩) (h.j6.free _ av (cj _))
      · exact dz
    · exact absurd hk (yf hi)
  · rw[h.hm.cur]
    show dF _=dF M
    funext k
    unfold dF
    cases hi:idx ([]++ns) k with
    |none=>rw[ub hi]
    |some q=>
     obtain⟨b,hb⟩:=h.qZ (wG hi)
     rw[qp hi hb]
     rfl
theorem Nd (hS:Sound P Gl Γ) (hG: ∀g,Den w ω.bare (Gl g) (.pointer (some ⟨g,0,none⟩))) (hm:aR w ω M) {nx id:Nat} {as:List SV} {pr:Prop} {s:SV} {u:aX} (he:DQ Γ (ae M) nx id as=some (pr,s,u)) (hp:pr)
    {vs:Array Value} (hd:b_ w ω as vs.toList):wa P w ω M id vs s u/\ ∃c,Γ id=some c:=by
  unfold DQ at he
  simp only[HN,NY]at he
  split at he
  · next c hc=>
    split at he
    · next n hn=>
      refine⟨?_,c,hc⟩
      unfold Rp at he
      split at he
      · next k s0 p i j=>
        split at he
        · next hk=>
          simp only[Option.some.injEq,Prod.mk.injEq]at he
          obtain⟨rfl,rfl,rfl⟩:=he
          match hvs:vs.toList,hd with
          | [u],⟨J,_⟩=>
            obtain⟨h2,L,h3,h4,rfl⟩:=ir hm hk J
            obtain rfl:vs= #[.pointer (some ⟨L.b,L.o+i*L.sz+j,none⟩)]:=by rw[<-Array.toList_inj,hvs]
            refine(hS.pj id c n hc hn _ w).mono ?_
            rintro e w' ⟨rfl,jq⟩
            have hx:=bp.more hm jq
            have nz:Den w' ω (.ptr k s0 p i (j+n)) (.pointer (some ⟨L.b,L.o+i*L.sz+(j+n),none⟩)):= .inr ⟨h2,L,h3,h4,rfl⟩
            rw[lG]
            refine⟨_,ω,rfl,hx,by rw[Nat.add_assoc];exact nz,λ_=>⟨jq,λ_ h=>h,rfl,λ_ _ _=>rfl,λk p L hk=>by simp at hk,rfl⟩,λb hb _=>jq.2.2.2.2 b hb⟩
        · cases he
      · cases he
    try simp only at he
    split at he
    · next pre res bI hg=>
      split at he
      · next J h2 h3 h4=>
        simp only[Option.some.injEq,Prod.mk.injEq]at he
        obtain⟨rfl,rfl,rfl⟩:=he
        refine⟨?_,c,hc⟩
        have jL:=xY J
        have Fw: ∀k∈reach (ae M) 64 (uo c.ws as) [],whole (ae M k)=true:=λk hk=>List.all_eq_true.1 h2 k hk
        have oQ: ∀k∈(List.range (bI.length -(reach (ae M) 64 (uo c.ws as) []).length)).map (λq=>nx+q),cv (ae M) k=true:=λk hk=>List.all_eq_true.1 h3 k hk
        have hlen:bI.length=(reach (ae M) 64 (uo c.ws as) []++(List.range (bI.length -(reach (ae M) 64 (uo c.ws as) []).length)).map (λq=>nx+q)).length:=by
          have:=Nat.le_of_ble_eq_true h4
          simp;omega
        generalize Vr:reach (ae M) 64 (uo c.ws as) []=ks at*
        generalize hns:(List.range (bI.length -ks.length)).map (λq=>nx+q)=ns at*
        have mJ:=hS.fn id c _ _ _ _ _ hc hg hp w (lK ω ks) vs (λg=>Den.ext (o:=ω.bare) (AT hm ks) (hG g)) (Zf hm ((List.nodup_append.1 jL).1) Fw) (GN hm ks hd)
        refine mJ.mono ?_
        rintro e w' ⟨v,ao,rfl,ha,fo,hr,hk⟩
        have hb:jl (qD res) w ω M ks ns bI w' ao:=⟨hm,jL,Fw,oQ,hlen,ha,fo,λq k hq hs L hL=>hk q (by rw[List.getElem?_map,hq];exact Yg.trans hs) L (by
          show(match ks[q]? with|some k=>ω.β k none|none=>none)=_
          rw[hq];exact hL)⟩
        exact⟨v,_,rfl,⟨hb.ext _,hb.back⟩,hb.den _ hr,λhf=>hb.aeJ _ hf,λb xm hk=>ha.same b xm λhA=>by
          obtain⟨_,k,cR,p,L,g1,g2⟩:=rJ hm hA
          exact hk k (by rw[G' hb.len];exact List.mem_append_left _ cR) p L g1 g2⟩
      · cases he
    · cases he
  · cases he
theorem Ml (hm:aR w ω M) {r:Nat}: ∀{ws:List Bool} {l l':List SV} {u:aX} {xs:List Value},b_ w ω l xs->yg (ae M) r ws l=some (l',u)-> ∃ao,bp w ω M w ao (u++M)/\b_ w ao l' xs/\kR (ae M) u=false/\(∀k' p L,ao.β k' p=some L->ω.β k' p=some L\/ ∃k∈u.map (·.1),∃p0,ω.β k p0=some L)
  |b::t,s::l,l',u,[],hd,he=>hd.elim
  |b::t,s::l,l',u,x::xs,⟨J,h2⟩,he=>by
   unfold yg at he
   split at he
   · next y hy=>
     simp only[Option.some.injEq,Prod.mk.injEq]at he
     obtain⟨rfl,rfl⟩:=he
     obtain⟨ao,s1,d1,f1,b1⟩:=aaY hm J hy
     exact⟨ao,s1,⟨d1,h2.ext s1.ext⟩,f1,b1⟩
   · split at he
     · next y hy=>
       simp only[Option.some.injEq,Prod.mk.injEq]at he
       obtain⟨rfl,rfl⟩:=he
       obtain⟨ao,s1,d1,f1,b1⟩:=Ml hm h2 hy
       exact⟨ao,s1,⟨J.ext s1.ext,d1⟩,f1,b1⟩
     · cases he
  | [],_,_,_,_,_,he=>by unfold yg at he;cases he
  |_::_,[],_,_,_,_,he=>by unfold yg at he;cases he
theorem Ha (hS:Sound P Gl Γ) (hG: ∀g,Den w ω.bare (Gl g) (.pointer (some ⟨g,0,none⟩))) (hm:aR w ω M) {nx id:Nat} {as:List SV} {pr:Prop} {s:SV} {u:aX} (he:D8 Γ (ae M) nx id as=some (pr,s,u)) (hp:pr)
    {vs:Array Value} (hd:b_ w ω as vs.toList):wa P w ω M id vs s u/\ ∃c,Γ id=some c:=by
  unfold D8 at he
  split at he
  · next c hc=>
    split at he
    · next x hx=>
      split at he
      · next y hy=>
        simp only[Option.some.injEq,Prod.mk.injEq]at he
        obtain⟨rfl,rfl,rfl⟩:=he
        obtain⟨bZ,s1,d1,f1,b1⟩:=Ml hm hd hx
        rw[oE]at hy
        obtain⟨J,h2⟩:=Nd hS (λg=>Den.ext (o:=ω.bare) s1.ext.bare (hG g)) s1.mem hy hp d1
        refine⟨?_,h2⟩
        unfold wa at J⊢
        refine J.mono ?_
        rintro e w' ⟨v,ao,rfl,h3,h4,_,h5⟩
        refine⟨v,ao,rfl,?_,h4,λhf=>?_,λb xm hk=>?_⟩
        · rw[List.append_assoc];exact s1.trans h3
        · have hf:kR (ae M) (y.2.2++x.2)=true:=hf
          unfold kR at hf f1
          rw[List.all_append,f1,Bool.and_false]at hf
          cases hf
        · refine h5 b xm λk cR p L hL e=>?_
          rcases b1 k p L hL with h|⟨k0,ct,p0,h⟩
          · exact hk k (by rw[List.map_append];exact List.mem_append_left _ cR) p L h e
          · exact hk k0 (by rw[List.map_append];exact List.mem_append_right _ ct) p0 L h e
      · cases he
    · exact Nd hS hG hm he hp hd
  · cases he
theorem Iq (h: ∀x,Den w ω (ρ x) (a.eval x)) (args:List Operand):b_ w ω (args.map ρ) (args.map a.eval):=by
  induction args with
  |nil=>trivial
  |cons x r ih=>exact⟨h x,ih⟩
theorem acL {n:Nat} {gx:Nat->SV} {cs:Array Value} (hn:cs.size=n) (hj: ∀j,j<n-> ∃x,cs[j]? =some x/\Den w ω (gx j) x):b_ w ω ((List.range n).map gx) cs.toList:=by
  refine b_.mk (by simp[hn]) λi hi=>?_
  have lg:i<n:=by simpa using hi
  obtain⟨x,J,h2⟩:=hj i lg
  refine⟨x,by simpa using J,?_⟩
  rw[List.getD_eq_getElem?_getD,List.getElem?_map,List.getElem?_range lg]
  exact h2
def Bu (P:Program) (w:World) (ω:Ow) (M:Mem) (a:Act) (o:Oper) (s:SV) (u:aX):Prop:=
  ∃id vs,(execOp a.eval o).run P w= .ok (.enter id vs) w/\wa P w ω M id vs s u
theorem NZ {o:Oper} {f:Operand} {args:Array Operand} {ts:Array TypeId} (ho:o.op= .call {callee:= .value f,args:=args,argTypes:=ts}) {id:Nat} {fs cs:Array Value} (hf:a.eval f= .func (.func id) fs cs)
    (hc: ∀(l:Array Value) (w:World),(callFunc id l).run P w= .ok (.enter id l) w):(execOp a.eval o).run P w= .ok (.enter id (fs++args.map a.eval++cs)) w:=by
  simp[execOp,ho,resolve,hf,Deferred.ofValue,invoke,hc,Result.andThen]
theorem HH (hS:Sound P Gl Γ) (hG: ∀g,Den w ω.bare (Gl g) (.pointer (some ⟨g,0,none⟩))) (h:Cx P w ω ρ M a) {o:Oper} {f:Operand} {args:Array Operand} {ts:Array TypeId} (ho:o.op= .call {callee:= .value f,args:=args,argTypes:=ts})
    {nx:Nat} {pr:Prop} {s:SV} {u:aX} (he:Ez Γ ρ (ae M) nx f args.toList=some (pr,s,u)) (hp:pr):Bu P w ω M a o s u:=by
  unfold Ez at he
  split at he
  · next id as hc=>
    have hf:=h.val f
    unfold NX at hc
    split at hc
    · next Cq n gx hs=>
      simp only[Option.some.injEq,Prod.mk.injEq]at hc
      obtain⟨rfl,rfl⟩:=hc
      rw[hs]at hf
      obtain⟨cs,ef,mb,hcj⟩:=hf
      have uz:=(Iq h.val args.toList).append (acL mb hcj)
      obtain⟨J,c,h2⟩:=Ha (vs:= #[]++args.map a.eval++cs) hS hG h.mem he hp (by simpa using uz)
      exact⟨_,_,NZ ho ef (hS.call _ _ h2),J⟩
    · next Cq s' hs=>
      simp only[Option.some.injEq,Prod.mk.injEq]at hc
      obtain⟨rfl,rfl⟩:=hc
      rw[hs]at hf
      obtain⟨x,ef,hx⟩:=hf
      have uz:b_ w ω (s'::args.toList.map ρ) (x::args.toList.map a.eval):=⟨hx,Iq h.val args.toList⟩
      obtain⟨J,c,h2⟩:=Ha (vs:= #[x]++args.map a.eval++ #[]) hS hG h.mem he hp (by simpa using uz)
      exact⟨_,_,NZ ho ef (hS.call _ _ h2),J⟩
    · cases hc
  · cases he
theorem Xy {o:Oper} {r:Operand} {name:String} {args:Array Operand} {ts:Array TypeId} (ho:o.op= .call {callee:= .invoke r name,args:=args,argTypes:=ts}) {t:TypeId} {x:Value} (hr:a.eval r= .iface t x) {id:Nat}
    (hm:Bb P t name=some id) (hc: ∀(l:Array Value) (w:World),(callFunc id l).run P w= .ok (.enter id l) w):(execOp a.eval o).run P w= .ok (.enter id (#[x]++args.map a.eval)) w:=by
  unfold Bb at hm
  split at hm
  · next i d hi hd=>
    split at hm
    · next m hf=>
      split at hm
      · next f e hp mJ=>
        obtain rfl:=Option.some.inj hm
        obtain⟨k,hk⟩: ∃k,P.types.size+Made.depth=k+1:=⟨P.types.size+99,by show P.types.size+100=_;omega⟩
        have e0:(execOp a.eval o).run P w=((callMethod (.iface t x) name (args.map a.eval)).run P w):=by
          simp[execOp,ho,resolve,hr,invoke,Array.getElem?_append,Result.andThen]
          rw[Array.extract_eq_self_of_le (by simp)]
        rw[e0]
        simp[callMethod,hk,method,typeInfo,hi,hf,hp,follow,mJ,receiverAt,underlying,hd,Place.get,hc,Result.andThen]
      · next f e hp mJ=>
        obtain rfl:=Option.some.inj hm
        obtain⟨k,hk⟩: ∃k,P.types.size+Made.depth=k+1:=⟨P.types.size+99,by show P.types.size+100=_;omega⟩
        have e0:(execOp a.eval o).run P w=((callMethod (.iface t x) name (args.map a.eval)).run P w):=by
          simp[execOp,ho,resolve,hr,invoke,Array.getElem?_append,Result.andThen]
          rw[Array.extract_eq_self_of_le (by simp)]
        rw[e0]
        simp[callMethod,hk,method,typeInfo,hi,hf,hp,follow,mJ,receiverAt,underlying,hd,Place.get,hc,Result.andThen]
      · cases hm
    · cases hm
  · cases hm
theorem GM (hS:Sound P Gl Γ) (hG: ∀g,Den w ω.bare (Gl g) (.pointer (some ⟨g,0,none⟩))) (h:Cx P w ω ρ M a) {o:Oper} {r:Operand} {name:String} {args:Array Operand} {ts:Array TypeId} (ho:o.op= .call {callee:= .invoke r name,args:=args,argTypes:=ts})
    {nx:Nat} {pr:Prop} {s:SV} {u:aX} (he:DP P Γ ρ (ae M) nx r name args.toList=some (pr,s,u)) (hp:pr):Bu P w ω M a o s u:=by
  unfold DP at he
  split at he
  · next t s' hs=>
    split at he
    · next id hm=>
      have hr:=h.val r
      rw[hs]at hr
      obtain⟨x,ex,hx⟩:=hr
      have uz:b_ w ω (s'::args.toList.map ρ) (x::args.toList.map a.eval):=⟨hx,Iq h.val args.toList⟩
      obtain⟨J,c,h2⟩:=Ha (vs:= #[x]++args.map a.eval) hS hG h.mem he hp (by simpa using uz)
      exact⟨_,_,Xy ho ex hm (hS.call _ _ h2),J⟩
    · cases he
  · cases he
end
end Go.Sy
set_option linter.unusedVariables false
set_option linter.unusedSimpArgs false
namespace Go.Sy
open Go.RowKit
def Ff (e:bk) (k:bk->Prop):Prop:=
  match e with
  |⟨rs,ds,hl,b⟩=>gf rs λrs=>gf ds λds=>fP hl λhl=>Fg b λb=>k ⟨rs,ds,hl,b⟩
theorem Pt (e:bk) (k:bk->Prop):Ff e k=k e:=by
  cases e;simp only[Ff,mq,TR,Px]
def yV:List Nat->Mem->(Mem->Prop)->Prop
  |_,[],k=>k []
  |seen,p::r,k=>match cM seen p.1 with|true=>yV seen r k|false=>gf p.1 λq=>Ff p.2 λe=>yV (q::seen) r λr=>k ((q,e)::r)
theorem Dt: ∀(M:Mem) (seen:List Nat) (k:Mem->Prop),yV seen M k-> ∃M',k M'/\ ∀q,cM seen q=false->ae M' q=ae M q
  | [],_,k,h=>⟨[],h,λ_ _=>rfl⟩
  |p::r,seen,k,h=>by
   unfold yV at h
   split at h
   · next hs=>
     obtain⟨M',J,h2⟩:=Dt r seen k h
     refine⟨M',J,λq hq=>?_⟩
     rw[h2 q hq]
     have ba:p.1≠q:=λe=>by rw[e,hq]at hs;cases hs
     obtain⟨a,b⟩:=p
     exact(cC ba).symm
   · next hs=>
     rw[mq,Pt]at h
     obtain⟨M',J,h2⟩:=Dt r _ _ h
     refine⟨_,J,λq hq=>?_⟩
     obtain⟨a,b⟩:=p
     by_cases e:a=q
     · subst e;rw[dp,dp]
     · rw[cC e,cC e]
       refine h2 q ?_
       have:Nat.beq a q=false:=by
         cases hb:Nat.beq a q with
         |false=>rfl
         |true=>exact absurd (Nat.eq_of_beq_eq_true hb) e
       simp only[cM,this]
       exact hq
section
variable {w:World} {ω:Ow}
theorem aR.congr {M M':Mem} (hm:aR w ω M) (h: ∀k,ae M' k=ae M k):aR w ω M':=
  ⟨by rw[hm.cur];funext k;simp only[dF,h],hm.own,hm.fg,hm.dj,hm.gJ,hm.inj,hm.low,λk p L hL=>by
    obtain⟨r,g1,g2,g3,g4⟩:=hm.row k p L hL
    exact⟨r,by unfold rowAt at g1⊢;rw[h];exact g1,g2,g3,by rw[h];exact g4⟩,λk l hk=>hm.live k l (by rw[<-h];exact hk),λk i j hk=>hm.fm k i j (by rw[<-h];exact hk)⟩
end
end Go.Sy
set_option linter.unusedVariables false
set_option linter.unusedSimpArgs false
namespace Go.Sy
open Go.RowKit
def vB:SV->Bool
  | .v _=>true
  |_=>false
def wT (m:Nat->bk) (k sz:Nat) (f:Nat->Nat->SV):SV->SV
  | .aO k' st none e n=>match Nat.beq k' k,cD m k' st none with|true,true=> .sl false sz n λi j=>f (e+i) j|_,_=> .aO k' st none e n
  |s=>s
section
variable {P:Program} {w:World} {ω:Ow} {ρ:Operand->SV} {M:Mem} {a:Act}
theorem bp.aeS {w:World} {o:Ow} {M:Mem} (hm:aR w o M) (k:Nat): ∃o',bp w o M w o' (Sy.kill M k)/\(∀k' p,k'≠k->o'.β k' p=o.β k' p)/\(∀p,o'.β k p=none)/\(∀b,o'.A b-> ∃k' p L,o'.β k' p=some L/\L.b=b)/\o'.Z=o.Z:=by
  refine⟨o.re (λk' p=>if k'=k then none else o.β k' p) (Sy.kill M k),?_,λk' p h=>if_neg h,λp=>if_pos rfl,λ_ h=>h,rfl⟩
  have cZ: ∀{k' p L},(if k'=k then none else o.β k' p)=some L->k'≠k/\o.β k' p=some L:=by
    intro k' p L h
    split at h
    · cases h
    · next ba=>exact⟨ba,h⟩
  have bM:Ext w o w (o.re (λk' p=>if k'=k then none else o.β k' p) (Sy.kill M k)):=by
    refine ED hm (λk' p L h=>⟨k',p,L,(cZ h).2,rfl⟩) (λk'=>?_) (λk' p L h e=>?_)
    · by_cases hk:k=k'
      · subst hk;rw[tW];exact⟨Nat.le_succ _,Nat.le_succ _⟩
      · rw[ki hk];exact⟨Nat.le_refl _,Nat.le_refl _⟩
    · show(if k'=k then none else o.β k' p)=some L
      rw[if_neg]
      · exact h
      · intro hk
        subst hk
        cases p<;>simp[st,dF,tW]at e
  refine bp.re hm (λk p=>(k,p)) (λk' p L h=>⟨L,(cZ h).2,rfl⟩) (λ_ _ _ _ _ _ _ _ e=>by simpa using e) bM (λk' p L h=>?_) (λk' l h=>?_) (λk' i j h=>?_)
  · obtain⟨ba,h⟩:=cZ h
    obtain⟨r,e1,e2,e3,e4⟩:=hm.row _ _ _ h
    refine⟨r,by unfold rowAt;rw[ki (Ne.symm ba)];exact e1,e2,e3,?_⟩
    rw[ki (Ne.symm ba)]
    refine e4.ext bM ?_ (λq=>if_neg ba) rfl
    show(dF _ k').2=_
    rw[hm.cur]
    simp only[dF,ki (Ne.symm ba)]
  · have ba:k≠k':=by
      intro e;subst e;rw[tW]at h;cases h
    rw[ki ba]at h
    obtain⟨L,hL⟩:=hm.live _ _ h
    exact⟨L,(if_neg (Ne.symm ba)).trans hL⟩
  · by_cases hk:k=k'
    · subst hk;exact if_pos rfl
    · rw[ki hk]at h
      exact(if_neg (Ne.symm hk)).trans (hm.fm _ _ _ h)
theorem acS (hm:aR w ω M) {k sz nn:Nat} {f:Nat->Nat->SV} (hb:(ae M k).b= .row sz nn f) (hv: ∀i j,vB (f i j)=true):
    ∃ao,bp w ω M w ao (Sy.kill M k)/\ ∀s x,Den w ω s x->Den w ao (wT (ae M) k sz f s) x:=by
  obtain⟨ao,s1,b1,b2,b3,b4⟩:=bp.aeS hm k
  refine⟨ao,s1,λs x hd=>?_⟩
  unfold wT
  split
  · next k' st e n=>
    split
    · next J h2=>
      obtain rfl:=Nat.eq_of_beq_eq_true J
      have e0:=kO hm h2
      rcases hd with hd|⟨_,q,cap,e1,h3,h4,h5⟩
      · omega
      · refine⟨q,cap,e1,h3,by omega,?_⟩
        rcases h5 with h5|⟨L,hL,hq,h6,h7⟩
        · left;omega
        · right
          refine⟨_,hq,λi hi j hj=>?_⟩
          obtain⟨r,r1,r2,r3,c,T,c1,c2,c3,c4⟩:=hm.row _ _ _ hL
          have r1:(bc.row sz nn f).row? =some r:=by
            have r1:gu (ae M k').b none=some r:=r1
            rw[hb]at r1
            exact r1
          obtain rfl:=Option.some.inj r1
          have r2:sz=L.sz:=r2
          subst r2
          obtain⟨y,y1,y2⟩:=c4 (e+i) (by omega) j hj
          have y2:cI w ω (ae M k').hl k' (e+i) j (f (e+i) j) y:=y2
          have VA:=hv (e+i) j
          refine⟨y,?_,⟨λhA=>?_,λ_ hZ=>?_⟩,?_⟩
          · have e9:L.o+e*L.sz+(i*L.sz+j)=L.o+(e+i)*L.sz+j:=by rw[Nat.add_mul];omega
            have e8:(⟨L.b,L.o+e*L.sz,none⟩:Addr).add (i*L.sz+j)=⟨L.b,L.o+(e+i)*L.sz+j,none⟩:=by rw[<-e9];simp[Addr.add]
            rw[e8]
            unfold World.cell?
            simp[c1,y1]
          · obtain⟨k2,p2,L2,g1,g2⟩:=b3 _ hA
            have ba:k2≠k':=λz=>by subst z;rw[b2]at g1;cases g1
            rw[b1 _ _ ba]at g1
            exact ba (hm.inj _ _ _ _ _ _ g1 hL g2).1
          · rw[b4]at hZ
            exact hm.dj _ (hm.own _ ⟨_,_,_,hL,rfl⟩) hZ
          · show Den w ao.bare (f (e+i) j) y
            generalize f (e+i) j=s at y2 VA
            cases s with
            |v z=>exact y2
            |_=>cases VA
    · exact Den.ext s1.ext hd
  · exact Den.ext s1.ext hd
def AS (P:Program) (m:Nat->bk) (nx:Nat) (T:TypeId) (len:Nat) (parts:List (Nat×SV)):Option (Prop×SV×aX):=
  match parts with
  | [(0,.aO k st none e n)]=>
    match cD m k st none,uq (m k).b with
    |true,some (sz,nn,f)=>
     match DR P (ov (oG m k) m) nx T len [(0,wT m k sz f (.aO k st none e n))]with
     |some y=>some ((∀i j,vB (f i j)=true)/\y.1,y.2.1,y.2.2++oG m k)
     |none=>none
    |_,_=>none
  |_=>He P m nx T len parts
theorem Ye (h:Cx P w ω ρ M a) {o:Oper} {T:TypeId} {len:Nat} {parts:Array (Nat×Operand)} {nx:Nat} {pr:Prop} {s:SV} {u:aX} (ho:o.op= .buildSlice T len parts)
    (he:AS P (ae M) nx T len (parts.toList.map λp=>(p.1,ρ p.2))=some (pr,s,u)) (hp:pr):rQ P w ω M a o s u:=by
  unfold AS at he
  split at he
  · next k st e n VB=>
    split at he
    · next sz nn f bF gM=>
      split at he
      · next y hy=>
        simp only[Option.some.injEq,Prod.mk.injEq]at he
        obtain⟨rfl,rfl,rfl⟩:=he
        obtain⟨ao,s1,d1⟩:=acS h.mem (Nh gM) hp.1
        have hc:Cx P w ao (λx=>wT (ae M) k sz f (ρ x)) (Sy.kill M k) a:=⟨λx=>d1 _ _ (h.val x),s1.mem⟩
        have js:(parts.toList.map λp=>(p.1,wT (ae M) k sz f (ρ p.2)))= [(0,wT (ae M) k sz f (.aO k st none e n))]:=by
          have:=congrArg (List.map λq:Nat×SV=>(q.1,wT (ae M) k sz f q.2)) VB
          simpa [List.map_map,Function.comp]using this
        have hov:ov (oG (ae M) k) (ae M)=ae (Sy.kill M k):=by rw[oE];rfl
        rw[hov,<-js]at hy
        obtain⟨n2,v,w',Cz,g1,g2,g3,g4⟩:=(Nj hc ho hy).zz
        refine⟨n2,v,w',Cz,g1,g2,?_,g4⟩
        rw[List.append_assoc]
        exact s1.trans g3
      · cases he
    · cases he
  · exact(Ni h ho he).zz
theorem Xw (h:Cx P w ω ρ M a) {o:Oper} {T:TypeId} {len:Nat} {parts:Array (Nat×Operand)} {nx:Nat} {pr:Prop} {s:SV} {u:aX} (ho:o.op= .buildSlice T len parts)
    (he:AS P (ae M) nx T len (parts.toList.map λp=>(p.1,ρ p.2))=some (pr,s,u)) (J:qw (ae M) u=true):oJ P w ω M a o s u:=by
  unfold AS at he
  split at he
  · next k st e n VB=>
    split at he
    · split at he
      · next y hy=>
        simp only[Option.some.injEq,Prod.mk.injEq]at he
        obtain⟨_,_,rfl⟩:=he
        unfold qw at J
        rw[List.all_append,Bool.and_eq_true]at J
        have h2:=J.2
        simp only[oG,List.all_cons,List.all_nil,Bool.and_true]at h2
        have:=Nat.eq_of_beq_eq_true h2
        omega
      · cases he
    · cases he
  · exact Ni h ho he
end
end Go.Sy
