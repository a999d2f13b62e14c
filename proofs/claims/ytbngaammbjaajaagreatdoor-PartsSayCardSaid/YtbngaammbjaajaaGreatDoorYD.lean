/-
  Sy, part 12: what is handed to a callee, and what comes back.
-/
import Derived.Test.YtbngaammbjaajaaGreatDoorYC
set_option linter.unusedVariables false
set_option linter.unusedSimpArgs false
set_option linter.unusedVariables false
set_option linter.unusedSimpArgs false
namespace Go.Sy
open Go.RowKit
/-! ### references are told anew -/
def xt:Nat->Nat->Path->Option (Nat×Nat):=λ_ _ _=>none
def fO (d:Bool):SV->(Nat->Nat->Path->Option (Nat×Nat))->SV
  | .ptr k s p i j,φ=>match φ k s p with|some (k',s')=> .ptr k' s' p i j|none=> .aq
  | .pe k s p i j len z,φ=>match φ k s p with|some (k',s')=> .pe k' s' p i j len z|none=> .aq
  | .aw k s p e n,φ=>match φ k s p with|some (k',s')=> .aw k' s' p e n|none=> .aq
  | .sa k s p i j n,φ=>match φ k s p with|some (k',s')=> .sa k' s' p i j n|none=> .aq
  | .ag n f,φ=> .ag n λj=>fO d (f j) φ
  | .tp n f,φ=> .tp n λj=>fO d (f j) φ
  | .fn id n f,φ=> .fn id n λj=>fO d (f j) φ
  | .bm id s,φ=> .bm id (fO d s φ)
  | .mv nm s,φ=> .mv nm (fO d s φ)
  | .ic t s,φ=> .ic t (fO d s φ)
  | .il sz n f,φ=> .il sz n λi j=>fO d (f i j) φ
  | .pt q n f,_=>match d,q with|true,true=> .aq|true,false=> .pt q n λj=>fO d (f j) xt|false,_=> .pt q n f
  | .sl q sz n f,_=>match d,q with|true,true=> .aq|true,false=> .sl q sz n λi j=>fO d (f i j) xt|false,_=> .sl q sz n f
  | .pa q sz n f,_=>match d,q with|true,true=> .aq|true,false=> .pa q sz n λi j=>fO d (f i j) xt|false,_=> .pa q sz n f
  |s,_=>s
abbrev cD (φ:Nat->Nat->Path->Option (Nat×Nat)) (d:Bool) (s:SV):SV:=fO d s φ
def nH (ω ah:Ow) (φ:Nat->Nat->Path->Option (Nat×Nat)):Prop:=
  ∀k s p k' s',φ k s p=some (k',s')->s=st ω.cur k p/\s'=st ah.cur k' p/\ah.β k' p=ω.β k p
theorem nH.at {ω ah:Ow} {φ:Nat->Nat->Path->Option (Nat×Nat)} (h:nH ω ah φ) {k s:Nat} {p:Path} {k' s':Nat} (e:φ k s p=some (k',s')) {R:Loc->Prop} (ha:At ω k s p R):At ah k' s' p R:=by
  obtain⟨J,U,h3⟩:=h _ _ _ _ _ e
  rcases ha with ha|⟨_,L,hL,hR⟩
  · omega
  · exact .inr ⟨U,L,h3.trans hL,hR⟩
theorem nH.head {ω ah:Ow} {φ:Nat->Nat->Path->Option (Nat×Nat)} (h:nH ω ah φ) {k s:Nat} {p:Path} {k' s':Nat} (e:φ k s p=some (k',s')) {ee n:Nat} {u:Value} (ha:Head ω k p ee n u):Head ah k' p ee n u:=by
  obtain⟨J,U,h3⟩:=h _ _ _ _ _ e
  obtain⟨q,cap,y1,y2,y3,y4⟩:=ha
  exact⟨q,cap,y1,y2,y3,by rw[h3];exact y4⟩
def tQ (d:Bool) (w:World) (ω ah:Ow):Prop:= ∀b (q:Bool),b<w.heap.size->(d=true->q=false)-> ¬ω.A b->(q=false-> ¬ω.Z b)-> ¬ah.A b/\(q=false-> ¬ah.Z b)
theorem z_ {w:World} {ω ah:Ow} {d:Bool} (hE:d=false->Ext w ω.bare w ah.bare) (h:tQ d w ω ah) {s:SV}: ∀{u:Value},Den w ω.bare s u->Den w ah.bare (cD xt d s) u:=by
  intro u hd
  induction s generalizing u with
  |aq=>trivial
  |il sz n f=>trivial
  |v x=>exact hd
  |bl b=>exact hd
  |es=>exact hd
  |ptr k s p i j=>trivial
  |pe k s p i j len z=>trivial
  |sa k s p i j n=>trivial
  |aw k s p e n=>trivial
  |pt q n f ih=>
   cases d with
   |false=>exact Den.ext (o:=ω.bare) (o':=ah.bare) (s:= .pt q n f) (hE rfl) hd
   |true=>
   cases q with
   |true=>trivial
   |false=>
    obtain⟨a,rfl,hj⟩:=hd
    refine⟨a,rfl,λj aS=>?_⟩
    obtain⟨x,hc,hf,hx⟩:=hj j aS
    have ai:=dG hc
    rw[fh]at ai
    exact⟨x,hc,h _ false ai (λ_=>rfl) hf.1 hf.2,ih j hx⟩
  |sl q sz n f ih=>
   cases d with
   |false=>exact Den.ext (o:=ω.bare) (o':=ah.bare) (s:= .sl q sz n f) (hE rfl) hd
   |true=>
   cases q with
   |true=>trivial
   |false=>
    obtain⟨p,cap,rfl,gy,fK,hj⟩:=hd
    refine⟨p,cap,rfl,gy,fK,hj.imp id ?_⟩
    rintro ⟨a,e,hk⟩
    refine⟨a,e,λi hi j aS=>?_⟩
    obtain⟨x,hc,hf,hx⟩:=hk i hi j aS
    have ai:=dG hc
    rw[fh]at ai
    exact⟨x,hc,h _ false ai (λ_=>rfl) hf.1 hf.2,ih i j hx⟩
  |pa q sz n f ih=>
   cases d with
   |false=>exact Den.ext (o:=ω.bare) (o':=ah.bare) (s:= .pa q sz n f) (hE rfl) hd
   |true=>
   cases q with
   |true=>trivial
   |false=>
    obtain⟨a,rfl,hk⟩:=hd
    refine⟨a,rfl,λi hi j aS=>?_⟩
    obtain⟨x,hc,hf,hx⟩:=hk i hi j aS
    have ai:=dG hc
    rw[fh]at ai
    exact⟨x,hc,h _ false ai (λ_=>rfl) hf.1 hf.2,ih i j hx⟩
  |ag n f ih=>
   obtain⟨cs,rfl,hs,hj⟩:=hd
   exact⟨cs,rfl,hs,λj aS=>let⟨x,J,U⟩:=hj j aS;⟨x,J,ih j U⟩⟩
  |tp n f ih=>
   obtain⟨cs,rfl,hs,hj⟩:=hd
   exact⟨cs,rfl,hs,λj aS=>let⟨x,J,U⟩:=hj j aS;⟨x,J,ih j U⟩⟩
  |fn id n f ih=>
   obtain⟨cs,rfl,hs,hj⟩:=hd
   exact⟨cs,rfl,hs,λj aS=>let⟨x,J,U⟩:=hj j aS;⟨x,J,ih j U⟩⟩
  |bm id s ih=>
   obtain⟨x,rfl,hx⟩:=hd
   exact⟨x,rfl,ih hx⟩
  |mv nm s ih=>
   obtain⟨x,rfl,hx⟩:=hd
   exact⟨x,rfl,ih hx⟩
  |ic t s ih=>
   obtain⟨x,rfl,hx⟩:=hd
   exact⟨x,rfl,ih hx⟩
  |er t tf e at_=>
   rcases hd with hd|hd|⟨J,U,a,rfl,hf,hz,fI,uH⟩
   · exact .inl hd
   · exact .inr (.inl hd)
   · have ai:=dG fI
     rw[fh]at ai
     obtain⟨k1,k2⟩:=h a.block false ai (by simp) hf (λ_=>hz)
     exact .inr (.inr ⟨J,U,a,rfl,k1,k2 rfl,fI,uH⟩)
theorem vR {w:World} {ω ah:Ow} {φ:Nat->Nat->Path->Option (Nat×Nat)} {d:Bool} (ju:nH ω ah φ) (hE:d=false->Ext w ω.bare w ah.bare) (h:tQ d w ω ah) {s:SV}: ∀{u:Value},Den w ω s u->Den w ah (cD φ d s) u:=by
  intro u hd
  induction s generalizing u with
  |aq=>trivial
  |il sz n f=>trivial
  |v x=>exact hd
  |bl b=>exact hd
  |es=>exact hd
  |ptr k s p i j=>
   simp only[cD,fO]
   split
   · next k' s' e=>exact ju.at e hd
   · trivial
  |pe k s p i j len z=>
   simp only[cD,fO]
   split
   · next k' s' e=>exact ju.at e hd
   · trivial
  |sa k s p i j n=>
   simp only[cD,fO]
   split
   · next k' s' e=>exact ju.at e hd
   · trivial
  |aw k s p e n=>
   simp only[cD,fO]
   split
   · next k' s' e=>
     obtain⟨J,U,h3⟩:=ju _ _ _ _ _ e
     rcases hd with hd|⟨_,hd⟩
     · omega
     · exact .inr ⟨U,ju.head e hd⟩
   · trivial
  |pt q n f ih=>
   cases d with
   |false=>exact Den.ext (o:=ω.bare) (o':=ah.bare) (s:= .pt q n f) (hE rfl) hd
   |true=>
   cases q with
   |true=>trivial
   |false=>
    obtain⟨a,rfl,hj⟩:=hd
    refine⟨a,rfl,λj aS=>?_⟩
    obtain⟨x,hc,hf,hx⟩:=hj j aS
    have ai:=dG hc
    rw[fh]at ai
    exact⟨x,hc,h _ false ai (λ_=>rfl) hf.1 hf.2,z_ hE h hx⟩
  |sl q sz n f ih=>
   cases d with
   |false=>exact Den.ext (o:=ω.bare) (o':=ah.bare) (s:= .sl q sz n f) (hE rfl) hd
   |true=>
   cases q with
   |true=>trivial
   |false=>
    obtain⟨p,cap,rfl,gy,fK,hj⟩:=hd
    refine⟨p,cap,rfl,gy,fK,hj.imp id ?_⟩
    rintro ⟨a,e,hk⟩
    refine⟨a,e,λi hi j aS=>?_⟩
    obtain⟨x,hc,hf,hx⟩:=hk i hi j aS
    have ai:=dG hc
    rw[fh]at ai
    exact⟨x,hc,h _ false ai (λ_=>rfl) hf.1 hf.2,z_ hE h hx⟩
  |pa q sz n f ih=>
   cases d with
   |false=>exact Den.ext (o:=ω.bare) (o':=ah.bare) (s:= .pa q sz n f) (hE rfl) hd
   |true=>
   cases q with
   |true=>trivial
   |false=>
    obtain⟨a,rfl,hk⟩:=hd
    refine⟨a,rfl,λi hi j aS=>?_⟩
    obtain⟨x,hc,hf,hx⟩:=hk i hi j aS
    have ai:=dG hc
    rw[fh]at ai
    exact⟨x,hc,h _ false ai (λ_=>rfl) hf.1 hf.2,z_ hE h hx⟩
  |ag n f ih=>
   obtain⟨cs,rfl,hs,hj⟩:=hd
   exact⟨cs,rfl,hs,λj aS=>let⟨x,J,U⟩:=hj j aS;⟨x,J,ih j U⟩⟩
  |tp n f ih=>
   obtain⟨cs,rfl,hs,hj⟩:=hd
   exact⟨cs,rfl,hs,λj aS=>let⟨x,J,U⟩:=hj j aS;⟨x,J,ih j U⟩⟩
  |fn id n f ih=>
   obtain⟨cs,rfl,hs,hj⟩:=hd
   exact⟨cs,rfl,hs,λj aS=>let⟨x,J,U⟩:=hj j aS;⟨x,J,ih j U⟩⟩
  |bm id s ih=>
   obtain⟨x,rfl,hx⟩:=hd
   exact⟨x,rfl,ih hx⟩
  |mv nm s ih=>
   obtain⟨x,rfl,hx⟩:=hd
   exact⟨x,rfl,ih hx⟩
  |ic t s ih=>
   obtain⟨x,rfl,hx⟩:=hd
   exact⟨x,rfl,ih hx⟩
  |er t tf e at_=>
   rcases hd with hd|hd|⟨J,U,a,rfl,hf,hz,fI,uH⟩
   · exact .inl hd
   · exact .inr (.inl hd)
   · have ai:=dG fI
     rw[fh]at ai
     obtain⟨k1,k2⟩:=h a.block false ai (by simp) hf (λ_=>hz)
     exact .inr (.inr ⟨J,U,a,rfl,k1,k2 rfl,fI,uH⟩)
/-! ### lent to be read -/
def cb:List Nat->Nat->Bool
  | [],_=>false
  |x::r,k=>match Nat.beq x k with|true=>true|false=>cb r k
theorem fv: ∀{l:List Nat} {k:Nat},cb l k=true↔k∈l
  | [],k=>by simp[cb]
  |x::r,k=>by
   unfold cb
   split
   · next h=>simp[Nat.eq_of_beq_eq_true h]
   · next h=>
     have:=beq_false h
     rw[fv]
     simp[Ne.symm this]
def tz (e:aP) (k:Nat) (p:Path) (i j:Nat) (s:SV):SV:=match oT e k p i j s with|some s=>s|none=> .aq
def ro (qq:Bool):Nat->(Nat->aP)->List Nat->SV->SV
  |0,_,_,_=> .aq
  |d+1,m,ks,s=>
   match s with
   | .ptr k st p i j=>
     match bT m k st p,cb ks k,dP (m k).b p with
     |true,false,some r=> .pt qq (r.sz -j) λq=>ro qq d m ks (tz (m k) k p i (j+q) (r.f i (j+q)))
     |_,_,_=> .aq
   | .aw k st p e n=>
     match bT m k st p,cb ks k,dP (m k).b p with
     |true,false,some r=> .sl qq r.sz n λi j=>ro qq d m ks (tz (m k) k p (e+i) j (r.f (e+i) j))
     |_,_,_=> .aq
   | .sa k st p ii j n=>
     match bT m k st p,cb ks k,dP (m k).b p with
     |true,false,some r=>match Nat.ble (j+n) r.sz with|true=> .sl qq 1 n λi _=>ro qq d m ks (tz (m k) k p ii (j+i) (r.f ii (j+i)))|false=> .aq
     |_,_,_=> .aq
   | .pe _ _ _ _ _ _ _=> .aq
   | .il _ _ _=> .aq
   | .ag n f=> .ag n λj=>ro qq d m ks (f j)
   | .tp n f=> .tp n λj=>ro qq d m ks (f j)
   | .fn id n f=> .fn id n λj=>ro qq d m ks (f j)
   | .bm id s=> .bm id (ro qq d m ks s)
   | .mv nm s=> .mv nm (ro qq d m ks s)
   | .ic t s=> .ic t (ro qq d m ks s)
   |s=>s
theorem zD {w:World} {ω:Ow} {M:Mem} (hm:ay w ω M) {k i j:Nat} {p:Path} {s:SV} {x:Value} (hl:fx w ω (aa M k).hl k p i j s x):Den w ω (tz (aa M k) k p i j s) x:=by
  unfold tz
  split
  · next s' h=>exact Aa hm hl h
  · trivial
theorem jY {w:World} {ω ah:Ow} {M:Mem} (hm:ay w ω M) {ks:List Nat} (hA: ∀b,ah.A b-> ∃k∈ks,∃p L,ω.β k p=some L/\L.b=b) (hE:Ext w ω.bare w ah.bare) {qq:Bool} (hZ:qq=false-> ∀b,ω.A b-> ¬ah.Z b):
    ∀(d:Nat) {s:SV} {u:Value},Den w ω s u->Den w ah.bare (ro qq d (aa M) ks s) u
  |0,_,_,_=>trivial
  |d+1,s,u,hd=>by
   have nA: ∀{k:Nat} {p:Path} {L:Loc},ω.β k p=some L->cb ks k=false-> ¬ah.A L.b:=by
     intro k p L hL hk h
     obtain⟨k',eD,p',L',J,U⟩:=hA _ h
     obtain⟨rfl,_⟩:=hm.inj _ _ _ _ _ _ J hL U
     rw[fv.2 eD]at hk
     cases hk
   cases s with
   |aq=>trivial
   |v x=>exact hd
   |bl b=>exact hd
   |es=>exact hd
   |il sz n f=>trivial
   |pe k s p i j len z=>trivial
   |ptr k st p i j=>
    simp only[ro]
    split
    · next r aZ hk hr=>
      obtain⟨_,L,hL,hc,e⟩:=eP hm aZ hd
      obtain⟨g1,g2,g3⟩:=oD hm hL hr
      refine⟨_,e,λq hq=>?_⟩
      obtain⟨x,x1,x2⟩:=g3 i hc (j+q) (by omega)
      exact⟨x,by rw[iq,Nat.add_assoc];exact x1,⟨nA hL hk,λe=>hZ e _ (hm.own _ ⟨_,_,_,hL,rfl⟩)⟩,jY hm hA hE hZ d (zD hm x2)⟩
    · trivial
   |aw k st p e n=>
    simp only[ro]
    split
    · next r aZ hk hr=>
      have e0:=gP hm aZ
      rcases hd with hd|⟨_,q,cap,rfl,J,U,h3⟩
      · omega
      refine⟨q,cap,rfl,J,Nat.le_trans J U,?_⟩
      rcases h3 with h3|⟨L,hL,rfl,h4,h5⟩
      · left;omega
      · right
        obtain⟨g1,g2,g3⟩:=oD hm hL hr
        refine⟨_,rfl,λi hi j hj=>?_⟩
        obtain⟨x,x1,x2⟩:=g3 (e+i) (by omega) j (by omega)
        refine⟨x,?_,⟨nA hL hk,λe=>hZ e _ (hm.own _ ⟨_,_,_,hL,rfl⟩)⟩,jY hm hA hE hZ d (zD hm x2)⟩
        rw[iq,g1,show L.o+e*L.sz+(i*L.sz+j)=L.o+(e+i)*L.sz+j by rw[Nat.add_mul];omega]
        exact x1
    · trivial
   |sa k st p ii j n=>
    simp only[ro]
    split
    · next r aZ hk hr=>
      split
      · next hle=>
        have hle:=Nat.le_of_ble_eq_true hle
        obtain⟨_,L,hL,hc,fK,rfl⟩:=eP hm aZ hd
        obtain⟨g1,g2,g3⟩:=oD hm hL hr
        refine⟨_,_,rfl,Nat.le_refl _,fK,.inr ⟨_,rfl,λi hi j2 Dn=>?_⟩⟩
        have pL:j2=0:=by omega
        subst pL
        obtain⟨x,x1,x2⟩:=g3 ii hc (j+i) (by omega)
        exact⟨x,by rw[iq];simpa [Nat.add_assoc]using x1,⟨nA hL hk,λe=>hZ e _ (hm.own _ ⟨_,_,_,hL,rfl⟩)⟩,jY hm hA hE hZ d (zD hm x2)⟩
      · trivial
    · trivial
   |pt q n f=>exact Den.ext (o:=ω.bare) hE hd
   |sl q sz n f=>exact Den.ext (o:=ω.bare) hE hd
   |pa q sz n f=>exact Den.ext (o:=ω.bare) hE hd
   |er t tf e at_=>exact Den.ext (o:=ω.bare) hE hd
   |ag n f=>
    obtain⟨cs,rfl,hs,hj⟩:=hd
    exact⟨cs,rfl,hs,λj aS=>let⟨x,J,U⟩:=hj j aS;⟨x,J,jY hm hA hE hZ d U⟩⟩
   |tp n f=>
    obtain⟨cs,rfl,hs,hj⟩:=hd
    exact⟨cs,rfl,hs,λj aS=>let⟨x,J,U⟩:=hj j aS;⟨x,J,jY hm hA hE hZ d U⟩⟩
   |fn id n f=>
    obtain⟨cs,rfl,hs,hj⟩:=hd
    exact⟨cs,rfl,hs,λj aS=>let⟨x,J,U⟩:=hj j aS;⟨x,J,jY hm hA hE hZ d U⟩⟩
   |bm id s=>
    obtain⟨x,rfl,hx⟩:=hd
    exact⟨x,rfl,jY hm hA hE hZ d hx⟩
   |mv nm s=>
    obtain⟨x,rfl,hx⟩:=hd
    exact⟨x,rfl,jY hm hA hE hZ d hx⟩
   |ic t s=>
    obtain⟨x,rfl,hx⟩:=hd
    exact⟨x,rfl,jY hm hA hE hZ d hx⟩
/-! ### contracts -/
def cF:Nat->List aO->Mem
  |_,[]=> []
  |q,b::r=>(q,⟨0,0,none,b⟩)::cF (q+1) r
theorem E7: ∀(l:List aO) (q k:Nat),aa (cF q l) (q+k)=match l[k]? with|some b=>⟨0,0,none,b⟩|none=>⟨0,0,none,.dead⟩
  | [],q,k=>by simp[cF,aa]
  |b::r,q,0=>by simp[cF,cz]
  |b::r,q,k+1=>by
   rw[cF,bV (by omega),show q+(k+1)=(q+1)+k by omega,E7 r (q+1) k]
   simp
theorem jX (l:List aO) (k:Nat):aa (cF 0 l) k=match l[k]? with|some b=>⟨0,0,none,b⟩|none=>⟨0,0,none,.dead⟩:=by
  have:=E7 l 0 k
  rwa [Nat.zero_add]at this
theorem vC (l:List aO):cG (cF 0 l)=λ_=>(0,0):=by
  funext k
  unfold cG
  rw[jX]
  split<;>rfl
structure C4 (w:World) (ω:Ow) (w':World) (ah:Ow):Prop where
  os:w'.os=w.os
  tape:w'.tape=w.tape
  output:w'.output=w.output
  same:xX ω.A w w'
  free: ∀b,b<w.heap.size-> ¬ω.A b-> ¬ah.A b
  eX: ∀b,ω.Z b->ah.Z b
  size:w.heap.size<=w'.heap.size
def kQ:SV->Bool
  | .tp 0 f=>(match f 0 with| .v (.bool true)=>true|_=>false)
  |_=>false
def mE (kp:Bool):Option aO->Bool
  |some (.cells _)=>true
  |some (.row _ _ _)=>kp
  |_=>false
def ke (P:Program) (Gl:Nat->SV) (f:Nat) (args:List SV) (mem:List aO) (res:SV) (ba:List aO):Prop:=
  ∀(w:World) (ω:Ow) (vs:Array Value),(∀g,Den w ω.bare (Gl g) (.pointer (some ⟨g,0,none⟩)))->ay w ω (cF 0 mem)->bB w ω args vs.toList->
   Calls P f vs w λe w'=> ∃v ah,e= .returned v/\C4 w ω w' ah/\ay w' ah (cF 0 ba)/\Den w' ah res v/\ ∀k,mE (kQ res) mem[k]? =true-> ∀L,ω.β k none=some L->ah.β k none=some L
structure aX where
  ws:List Bool
  g:List SV->List aO->Option (Prop×SV×List aO)
  pj:Option Nat
abbrev Table:=Nat->Option aX
def JD (P:Program) (f n:Nat):Prop:= ∀(ad:Addr) (w:World),Calls P f #[.pointer (some ad)] w λe w'=>e= .returned (.pointer (some (ad.add n)))/\Cw w w'
structure Sound (P:Program) (Gl:Nat->SV) (Γ:Table):Prop where
  call: ∀f c,Γ f=some c-> ∀(l:Array Value) (w:World),(callFunc f l).run P w= .ok (.enter f l) w
  fn: ∀f c args mem pre res ba,Γ f=some c->c.g args mem=some (pre,res,ba)->pre->ke P Gl f args mem res ba
  pj: ∀f c n,Γ f=some c->c.pj=some n->JD P f n
end Go.Sy
set_option linter.unusedVariables false
set_option linter.unusedSimpArgs false
namespace Go.Sy
open Go.RowKit
/-! ### what is lent to be written -/
def lL:SV->List Nat
  | .ptr k _ _ _ _=> [k]
  | .pe k _ _ _ _ _ _=> [k]
  | .aw k _ _ _ _=> [k]
  | .sa k _ _ _ _ _=> [k]
  | .ag n f=>(List.range n).flatMap λj=>lL (f j)
  | .tp n f=>(List.range n).flatMap λj=>lL (f j)
  | .fn _ n f=>(List.range n).flatMap λj=>lL (f j)
  | .bm _ s=>lL s
  | .mv _ s=>lL s
  | .ic _ s=>lL s
  |_=> []
def reach (m:Nat->aP):Nat->List Nat->List Nat->List Nat
  |0,_,acc=>acc
  |_+1,[],acc=>acc
  |d+1,k::r,acc=>
   match cb acc k with
   |true=>reach m d r acc
   |false=>
    match (m k).b with
    | .cells l=>reach m d (l.flatMap lL++r) (acc++ [k])
    | .row _ _ _=>reach m d r (acc++ [k])
    | .dead=>reach m d r acc
def idx:List Nat->Nat->Option Nat
  | [],_=>none
  |x::r,k=>match Nat.beq x k with|true=>some 0|false=>match idx r k with|some q=>some (q+1)|none=>none
theorem jw: ∀{l:List Nat} {k q:Nat},idx l k=some q->l[q]? =some k
  | [],_,_,h=>by cases h
  |x::r,k,q,h=>by
   unfold idx at h
   split at h
   · next hb=>obtain rfl:=Option.some.inj h;simp[Nat.eq_of_beq_eq_true hb]
   · split at h
     · next q' hq=>obtain rfl:=Option.some.inj h;simpa using jw hq
     · cases h
theorem qn: ∀{l:List Nat} {k:Nat},idx l k=none->k∉l
  | [],_,_=>by simp
  |x::r,k,h=>by
   unfold idx at h
   split at h
   · cases h
   · next hb=>
     split at h
     · cases h
     · next hq=>simp[qn hq,Ne.symm (beq_false hb)]
def nodupB:List Nat->Bool
  | []=>true
  |x::r=>!cb r x&&nodupB r
theorem qg: ∀{l:List Nat},nodupB l=true->l.Nodup
  | [],_=>List.nodup_nil
  |x::r,h=>by
   simp only[nodupB,Bool.and_eq_true,Bool.not_eq_true']at h
   refine List.nodup_cons.2 ⟨λhm=>?_,qg h.2⟩
   rw[fv.2 hm]at h
   cases h.1
theorem sG {l:List Nat} (hl:l.Nodup) {k q:Nat} (h:l[q]? =some k):idx l k=some q:=by
  cases hi:idx l k with
  |none=>exact absurd (List.mem_of_getElem? h) (qn hi)
  |some q'=>
   have h':=jw hi
   obtain⟨J,U⟩:=List.getElem?_eq_some_iff.1 h
   obtain⟨h3,h4⟩:=List.getElem?_eq_some_iff.1 h'
   have:=(List.getElem_inj hl).1 (U.trans h4.symm)
   rw[this]
def j8 (m:Nat->aP) (ks:List Nat):Nat->Nat->Path->Option (Nat×Nat):=λk s p=>
  match idx ks k with
  |some q=>match bT m k s p with|true=>some (q,0)|false=>none
  |none=>none
def gw (φ:Nat->Nat->Path->Option (Nat×Nat)) (d:Bool):aO->aO
  | .dead=> .dead
  | .cells l=> .cells (l.map λs=>cD φ d s)
  | .row sz n f=> .row sz n λi j=>cD φ d (f i j)
def whole (e:aP):Bool:=match e.hl,e.b with|_,.dead=>false|none,_=>true|some _,_=>false
theorem FK {e:aP} (h:whole e=true):e.hl=none:=by
  unfold whole at h
  split at h
  · cases h
  · next hh _=>exact hh
  · cases h
theorem G6 {e:aP} (h:whole e=true):e.b≠ .dead:=by
  intro hb
  unfold whole at h
  rw[hb]at h
  simp at h
def iu (ω:Ow) (ks:List Nat):Ow:=
  let β:Nat->Path->Option Loc:=λq p=>match ks[q]? with|some k=>ω.β k p|none=>none
  let A:Nat->Prop:=λb=> ∃q p L,β q p=some L/\L.b=b
  ⟨A,λb=>ω.Z b\/(ω.A b/\ ¬A b),β,λ_=>(0,0)⟩
section
variable {P:Program} {w:World} {ω:Ow} {ρ:Operand->SV} {M:Mem} {a:Act}
theorem s9 {ks:List Nat} {q:Nat} {p:Path} {L:Loc} (h:(iu ω ks).β q p=some L): ∃k,ks[q]? =some k/\ω.β k p=some L:=by
  have h:(match ks[q]? with|some k=>ω.β k p|none=>none)=some L:=h
  split at h
  · next k hk=>exact⟨k,hk,h⟩
  · cases h
theorem lI (hm:ay w ω M) {ks:List Nat} {b:Nat} (h:(iu ω ks).A b):ω.A b/\ ∃k∈ks,∃p L,ω.β k p=some L/\L.b=b:=by
  obtain⟨q,p,L,J,U⟩:=h
  obtain⟨k,h3,h4⟩:=s9 J
  exact⟨(hm.own b) ⟨k,p,L,h4,U⟩,k,List.mem_of_getElem? h3,p,L,h4,U⟩
theorem sI (hm:ay w ω M) (ks:List Nat):Ext w ω.bare w (iu ω ks).bare where
  os:=rfl
  tape:=rfl
  output:=rfl
  same:=λ_ _ _=>rfl
  free:=λb _ h h'=>h (lI hm h').1
  eX:=λb _ h hz h'=>h'.elim hz λUn=>h Un.1
  size:=Nat.le_refl _
  mono:=λ_=>⟨Nat.le_refl _,Nat.le_refl _⟩
  ki:=λ_ _ _ h=>by cases h
  zs:=λ_ h=> .inl h
theorem G9 (hm:ay w ω M) (ks:List Nat):tQ false w ω (iu ω ks):=by
  intro b q hb _ J U
  exact⟨λh=>J (lI hm h).1,λhq h=>h.elim (U hq) λh=>J h.1⟩
theorem G8 (hm:ay w ω M) (ks:List Nat):nH ω (iu ω ks) (j8 (aa M) ks):=by
  intro k s p k' s' h
  unfold j8 at h
  split at h
  · next q hq=>
    split at h
    · next aZ=>
      simp only[Option.some.injEq,Prod.mk.injEq]at h
      obtain⟨rfl,rfl⟩:=h
      refine⟨gP hm aZ,by cases p<;>rfl,?_⟩
      show(match ks[q]? with|some k=>ω.β k p|none=>none)=_
      rw[jw hq]
    · cases h
  · cases h
theorem Me {φ:Nat->Nat->Path->Option (Nat×Nat)} {d:Bool} {s:SV} (h:bY s=false):bY (cD φ d s)=false:=by
  cases s with
  |il _ _ _=>cases h
  |ptr k s p i j=>simp only[cD,fO];split<;>rfl
  |pe k s p i j len z=>simp only[cD,fO];split<;>rfl
  |aw k s p e n=>simp only[cD,fO];split<;>rfl
  |sa k s p i j n=>simp only[cD,fO];split<;>rfl
  |pt q n f=>cases d<;>cases q<;>rfl
  |sl q sz n f=>cases d<;>cases q<;>rfl
  |pa q sz n f=>cases d<;>cases q<;>rfl
  |_=>rfl
theorem E6 {φ:Nat->Nat->Path->Option (Nat×Nat)} {d:Bool} {b:aO} {p:Path} {r:Row} (h:dP b p=some r): ∃r',dP (gw φ d b) p=some r'/\r'.sz=r.sz/\r'.n=r.n/\ ∀i j,i<r.n->j<r.sz->r'.f i j=cD φ d (r.f i j):=by
  cases p with
  |none=>
   cases b with
   |dead=>cases h
   |cells l=>
    obtain rfl:=Option.some.inj h
    refine⟨_,rfl,by simp,rfl,λi j _ hj=>?_⟩
    have hj:j<l.length:=hj
    simp[aA,List.getD_eq_getElem?_getD,hj]
   |row sz n f=>
    obtain rfl:=Option.some.inj h
    exact⟨_,rfl,rfl,rfl,λ_ _ _ _=>rfl⟩
  |some ij=>
   obtain⟨i,j⟩:=ij
   cases b with
   |dead=>cases h
   |cells l=>cases h
   |row sz n f=>
    have h:inner ⟨sz,n,f⟩ i j=some r:=h
    unfold inner at h
    split at h
    · next aR n2 g hg=>
      obtain rfl:=Option.some.inj h
      have hg:f i j= .il aR n2 g:=hg
      refine⟨⟨aR,n2,λa b=>cD φ d (g a b)⟩,?_,rfl,rfl,λ_ _ _ _=>rfl⟩
      show inner ⟨sz,n,λi j=>cD φ d (f i j)⟩ i j=_
      unfold inner
      simp only[hg,cD,fO]
    · cases h
theorem vr {w':World} {ah:Ow} {φ:Nat->Nat->Path->Option (Nat×Nat)} {d:Bool} (ju: ∀{s:SV} {x:Value},Den w ω s x->Den w' ah (cD φ d s) x) {k k' i j:Nat} (ca:ah.β k' (some (i,j))=ω.β k (some (i,j))) {s:SV} {x:Value} (h:bW w ω none k i j s x):bW w' ah none k' i j (cD φ d s) x:=by
  cases hi:bY s with
  |false=>rw[dO hi]at h;rw[dO (Me hi)];exact ju h
  |true=>
   cases s with
   |il sz n g=>
    rcases h with h|⟨⟨q,cap,y1,y2,y3,y4⟩,U⟩
    · cases h
    · exact .inr ⟨⟨q,cap,y1,y2,y3,by rw[ca];exact y4⟩,λL hL=>U L (by rw[<-ca];exact hL)⟩
   |_=>cases hi
theorem NK (hm:ay w ω M) {ks:List Nat} (n4:ks.Nodup) (hw: ∀k∈ks,whole (aa M k)=true):ay w (iu ω ks) (cF 0 (ks.map λk=>gw (j8 (aa M) ks) false (aa M k).b)) where
  cur:=(vC _).symm
  own:=λ_ h=>h
  dg:=λb h=>hm.dg b (lI hm h).1
  dj:=λb h hz=>hz.elim (hm.dj b (lI hm h).1) λhz=>hz.2 h
  ed:=λb hz=>hz.elim (hm.ed b) λhz=>hm.dg b hz.1
  inj:=λq p L q' p' L' J U e=>by
    obtain⟨k,e1,e2⟩:=s9 J
    obtain⟨k',e3,e4⟩:=s9 U
    obtain⟨rfl,rfl⟩:=hm.inj _ _ _ _ _ _ e2 e4 e
    have:=(sG n4 e1).symm.trans (sG n4 e3)
    exact⟨Option.some.inj this,rfl⟩
  low:=λq p L h=>by
    obtain⟨k,e1,e2⟩:=s9 h
    exact hm.low _ _ _ e2
  row:=λq p L h=>by
    obtain⟨k,e1,e2⟩:=s9 h
    obtain⟨r,g1,g2,g3,c,T,g4,g5,g6,g7⟩:=hm.row _ _ _ e2
    obtain⟨r',f1,f2,f3,f4⟩:=E6 (φ:=j8 (aa M) ks) (d:=false) g1
    have he:aa (cF 0 (ks.map λk=>gw (j8 (aa M) ks) false (aa M k).b)) q=⟨0,0,none,gw (j8 (aa M) ks) false (aa M k).b⟩:=by
      rw[jX,List.getElem?_map,e1];rfl
    refine⟨r',by unfold rowAt;rw[he];exact f1,f2.trans g2,f3.trans g3,c,T,g4,g5,g6,λi hi j hj=>?_⟩
    obtain⟨x,x1,x2⟩:=g7 i hi j hj
    refine⟨x,x1,?_⟩
    rw[f4 i j (by rw[g3];exact hi) (by rw[g2];exact hj),he]
    have ju: ∀{s:SV} {x:Value},Den w ω s x->Den w (iu ω ks) (cD (j8 (aa M) ks) false s) x:=λh=>vR (G8 hm ks) (λ_=>sI hm ks) (G9 hm ks) h
    cases p with
    |some _=>exact ju x2
    |none=>
     have gW:=FK (hw k (List.mem_of_getElem? e1))
     rw[gW]at x2
     refine vr ju ?_ x2
     show(match ks[q]? with|some k=>ω.β k _|none=>none)=_
     rw[e1]
  live:=λq l h=>by
    rw[jX,List.getElem?_map]at h
    cases hq:ks[q]? with
    |none=>rw[hq]at h;cases h
    |some k=>
     rw[hq]at h
     have h:gw (j8 (aa M) ks) false (aa M k).b= .cells l:=h
     cases hb:(aa M k).b with
     |dead=>rw[hb]at h;cases h
     |row _ _ _=>rw[hb]at h;cases h
     |cells l0=>
      obtain⟨L,hL⟩:=hm.live _ _ hb
      refine⟨L,?_⟩
      show(match ks[q]? with|some k=>ω.β k none|none=>none)=_
      rw[hq];exact hL
  dh:=λq i j h=>by
   rw[jX]at h
   split at h<;>cases h
/-! ### behind the call -/
def mR (kp:Bool) (ks:List Nat) (m:Nat->aP) (k:Nat):Nat×Nat:=
  match cb ks k with
  |true=>(match mE kp (some (m k).b)with|true=>(m k).rs|false=>(m k).rs+1,(m k).ds+1)
  |false=>((m k).rs,(m k).ds)
def n7 (kp:Bool) (fZ ks:List Nat) (m:Nat->aP):Nat->Nat->Path->Option (Nat×Nat):=λq s p=>
  match fZ[q]? with
  |some k=>match Nat.beq s 0 with|true=>some (k,match p with|none=>(mR kp ks m k).1|some _=>(mR kp ks m k).2)|false=>none
  |none=>none
def fc (kp:Bool) (ks:List Nat) (m:Nat->aP) (φ:Nat->Nat->Path->Option (Nat×Nat)):List Nat->List aO->aC
  |k::r,b::t=>(k,⟨(mR kp ks m k).1,(mR kp ks m k).2,none,gw φ true b⟩)::fc kp ks m φ r t
  |_,_=> []
theorem kE {kp:Bool} {ks:List Nat} {m:Nat->aP} {φ:Nat->Nat->Path->Option (Nat×Nat)} {M:Mem}: ∀{fZ:List Nat} {bs:List aO} {k q:Nat} {b:aO},idx fZ k=some q->bs[q]? =some b->
    aa (fc kp ks m φ fZ bs++M) k=⟨(mR kp ks m k).1,(mR kp ks m k).2,none,gw φ true b⟩
  | [],_,_,_,_,h,_=>by cases h
  |x::r,[],_,_,_,_,h=>by simp at h
  |x::r,c::t,k,q,b,h,hb=>by
   unfold idx at h
   split at h
   · next he=>
     obtain rfl:=Nat.eq_of_beq_eq_true he
     obtain rfl:=Option.some.inj h
     simp only[List.getElem?_cons_zero,Option.some.injEq]at hb
     subst hb
     exact cz
   · next he=>
     split at h
     · next q' hq=>
       obtain rfl:=Option.some.inj h
       simp only[List.getElem?_cons_succ]at hb
       rw[fc,List.cons_append,bV (beq_false he)]
       exact kE hq hb
     · cases h
theorem nq {kp:Bool} {ks:List Nat} {m:Nat->aP} {φ:Nat->Nat->Path->Option (Nat×Nat)} {M:Mem}: ∀{fZ:List Nat} {bs:List aO} {k:Nat},idx fZ k=none->aa (fc kp ks m φ fZ bs++M) k=aa M k
  | [],_,_,_=>by simp[fc]
  |x::r,[],_,_=>by simp[fc]
  |x::r,c::t,k,h=>by
   have hn:=qn h
   simp only[List.mem_cons,not_or]at hn
   rw[fc,List.cons_append,bV (Ne.symm hn.1)]
   refine nq ?_
   cases hi:idx r k with
   |none=>rfl
   |some q=>exact absurd (List.mem_of_getElem? (jw hi)) hn.2
theorem pf {l:List Nat} {k q:Nat} (h:idx l k=some q):q<l.length:=(List.getElem?_eq_some_iff.1 (jw h)).1
def n9 (ω ah:Ow) (ks fZ:List Nat) (M':Mem):Ow:=
  let β:Nat->Path->Option Loc:=λk p=>match idx fZ k with|some q=>ah.β q p|none=>ω.β k p
  ⟨λb=>ah.A b\/(ω.A b/\ ¬(iu ω ks).A b),ω.Z,β,cG M'⟩
theorem ri {ah:Ow} {ks fZ:List Nat} {M':Mem} {k:Nat} {p:Path} {L:Loc} (h:(n9 ω ah ks fZ M').β k p=some L):(∃q,idx fZ k=some q/\ah.β q p=some L)\/(idx fZ k=none/\ω.β k p=some L):=by
  have h:(match idx fZ k with|some q=>ah.β q p|none=>ω.β k p)=some L:=h
  split at h
  · next q hq=>exact .inl ⟨q,hq,h⟩
  · next hq=>exact .inr ⟨hq,h⟩
structure fD (kp:Bool) (w:World) (ω:Ow) (M:Mem) (ks ns:List Nat) (ba:List aO) (w':World) (ah:Ow):Prop where
  hm:ay w ω M
  nd:(ks++ns).Nodup
  wh: ∀k∈ks,whole (aa M k)=true
  fr: ∀k∈ns,bR (aa M) k=true
  len:ba.length=(ks++ns).length
  gp:C4 w (iu ω ks) w' ah
  mem:ay w' ah (cF 0 ba)
  ld: ∀q k,ks[q]? =some k->mE kp (some (aa M k).b)=true-> ∀L,ω.β k none=some L->ah.β q none=some L
section
variable {kp:Bool} {ks ns:List Nat} {ba:List aO} {w':World} {ah:Ow}
theorem fD.apart (h:fD kp w ω M ks ns ba w' ah) {k:Nat} {p:Path} {L:Loc} (hk:idx (ks++ns) k=none) (hL:ω.β k p=some L): ¬(iu ω ks).A L.b:=by
  intro hA
  obtain⟨k',eD,p',L',J,U⟩:=(lI h.hm hA).2
  obtain⟨rfl,_⟩:=h.hm.inj _ _ _ _ _ _ J hL U
  exact qn hk (List.mem_append_left _ eD)
theorem fD.free (h:fD kp w ω M ks ns ba w' ah) {k:Nat} {p:Path} {L:Loc} (hk:idx (ks++ns) k=none) (hL:ω.β k p=some L): ¬ah.A L.b:=h.gp.free _ (h.hm.low _ _ _ hL) (h.apart hk hL)
theorem fD.lT (h:fD kp w ω M ks ns ba w' ah) {q:Nat} (hq:q<(ks++ns).length): ∃b,ba[q]? =some b:=⟨_,List.getElem?_eq_getElem (h.len▸hq)⟩
theorem fD.new (h:fD kp w ω M ks ns ba w' ah) {k:Nat} (hk:k∈ns) (p:Path):ω.β k p=none:=(iV h.hm (h.fr k hk)).2.2 p
variable (fZ:List Nat) (qc:fZ=ks++ns)
theorem fD.ext (h:fD kp w ω M ks ns ba w' ah) (φ:Nat->Nat->Path->Option (Nat×Nat)):Ext w ω w' (n9 ω ah ks (ks++ns) (fc kp ks (aa M) φ (ks++ns) ba++M)) where
  os:=h.gp.os
  tape:=h.gp.tape
  output:=h.gp.output
  same:=λb hb hn=>h.gp.same b hb λh'=>hn (lI h.hm h').1
  free:=λb hb hn h'=>by
    rcases h' with h'|h'
    · exact h.gp.free b hb (λh'=>hn (lI h.hm h').1) h'
    · exact hn h'.1
  eX:=λb _ _ hz=>hz
  size:=h.gp.size
  zs:=λ_ h=>h
  mono:=λk=>by
    rw[h.hm.cur]
    show(cG M k).1<=(cG _ k).1/\(cG M k).2<=(cG _ k).2
    unfold cG
    cases hi:idx (ks++ns) k with
    |none=>rw[nq hi];exact⟨Nat.le_refl _,Nat.le_refl _⟩
    |some q=>
     obtain⟨b,hb⟩:=h.lT (pf hi)
     rw[kE hi hb]
     simp only[mR]
     split
     · split<;>simp
     · simp
  ki:=λk p L hL bc=>by
   show(match idx (ks++ns) k with|some q=>ah.β q p|none=>ω.β k p)=some L
   cases hi:idx (ks++ns) k with
   |none=>exact hL
   |some q=>
    obtain⟨b,hb⟩:=h.lT (pf hi)
    have hg:=jw hi
    rcases Nat.lt_or_ge q ks.length with hq|hq
    · rw[List.getElem?_append_left hq]at hg
      have bo:=fv.2 (List.mem_of_getElem? hg)
      rw[h.hm.cur]at bc
      have qZ:(n9 ω ah ks (ks++ns) (fc kp ks (aa M) φ (ks++ns) ba++M)).cur=cG (fc kp ks (aa M) φ (ks++ns) ba++M):=rfl
      rw[qZ]at bc
      cases p with
      |some ij=>
       have bc:(aa (fc kp ks (aa M) φ (ks++ns) ba++M) k).ds=(aa M k).ds:=bc
       rw[kE hi hb]at bc
       simp only[mR,bo]at bc
       omega
      |none=>
       have bc:(aa (fc kp ks (aa M) φ (ks++ns) ba++M) k).rs=(aa M k).rs:=bc
       rw[kE hi hb]at bc
       simp only[mR,bo]at bc
       cases hs:mE kp (some (aa M k).b)with
       |false=>rw[hs]at bc;simp only at bc;omega
       |true=>exact h.ld q k hg hs L hL
    · rw[List.getElem?_append_right hq]at hg
      rw[h.new (List.mem_of_getElem? hg)]at hL
      cases hL
theorem fD.ref (h:fD kp w ω M ks ns ba w' ah) (φ:Nat->Nat->Path->Option (Nat×Nat)):nH ah (n9 ω ah ks (ks++ns) (fc kp ks (aa M) φ (ks++ns) ba++M)) (n7 kp (ks++ns) ks (aa M)):=by
  intro q s p k' s' he
  unfold n7 at he
  split at he
  · next k hk=>
    split at he
    · next hs=>
      simp only[Option.some.injEq,Prod.mk.injEq]at he
      obtain⟨rfl,rfl⟩:=he
      have hi:=sG h.nd hk
      obtain⟨b,hb⟩:=h.lT (pf hi)
      refine⟨?_,?_,?_⟩
      · rw[Nat.eq_of_beq_eq_true hs,h.mem.cur,vC];cases p<;>rfl
      · show _=st (cG _) k p
        cases p with
        |none=>show _=(aa _ k).rs;rw[kE hi hb]
        |some _=>show _=(aa _ k).ds;rw[kE hi hb]
      · show(match idx (ks++ns) k with|some q=>ah.β q p|none=>ω.β k p)=_
        rw[hi]
    · cases he
  · cases he
theorem fD.ro (h:fD kp w ω M ks ns ba w' ah) (M':Mem):tQ true w' ah (n9 ω ah ks (ks++ns) M'):=by
  intro b q hb hq J U
  obtain rfl:=hq rfl
  have hz: ¬(iu ω ks).Z b:=λhz=>U rfl (h.gp.eX b hz)
  refine⟨?_,λ_ pJ=>hz (.inl pJ)⟩
  rintro (h3|h3)
  · exact J h3
  · exact hz (.inr h3)
theorem fD.den (h:fD kp w ω M ks ns ba w' ah) (φ:Nat->Nat->Path->Option (Nat×Nat)) {s:SV} {u:Value} (hd:Den w' ah s u):Den w' (n9 ω ah ks (ks++ns) (fc kp ks (aa M) φ (ks++ns) ba++M)) (cD (n7 kp (ks++ns) ks (aa M)) true s) u:=vR (d:=true) (h.ref φ) (λe=>by cases e) (h.ro _) hd
theorem fD.back (h:fD kp w ω M ks ns ba w' ah):ay w' (n9 ω ah ks (ks++ns) (fc kp ks (aa M) (n7 kp (ks++ns) ks (aa M)) (ks++ns) ba++M)) (fc kp ks (aa M) (n7 kp (ks++ns) ks (aa M)) (ks++ns) ba++M) where
  cur:=rfl
  own:=by
    rintro b ⟨k,p,L,J,rfl⟩
    rcases ri J with⟨q,g1,g2⟩|⟨g1,g2⟩
    · exact .inl (h.mem.own _ ⟨q,p,L,g2,rfl⟩)
    · exact .inr ⟨h.hm.own _ ⟨k,p,L,g2,rfl⟩,h.apart g1 g2⟩
  dg:=λb hb=>hb.elim (h.mem.dg b) λhb=>Nat.lt_of_lt_of_le (h.hm.dg b hb.1) h.gp.size
  dj:=λb hb hz=>hb.elim (λhb=>h.mem.dj b hb (h.gp.eX b (.inl hz))) λhb=>h.hm.dj b hb.1 hz
  ed:=λb hz=>Nat.lt_of_lt_of_le (h.hm.ed b hz) h.gp.size
  inj:=λk p L k' p' L' J U e=>by
    rcases ri J with⟨q,g1,g2⟩|⟨g1,g2⟩<;>rcases ri U with⟨q',g3,g4⟩|⟨g3,g4⟩
    · obtain⟨rfl,rfl⟩:=h.mem.inj _ _ _ _ _ _ g2 g4 e
      exact⟨Option.some.inj ((jw g1).symm.trans (jw g3)),rfl⟩
    · exact absurd ((h.mem.own _) ⟨_,_,_,g2,e⟩) (h.free g3 g4)
    · exact absurd ((h.mem.own _) ⟨_,_,_,g4,e.symm⟩) (h.free g1 g2)
    · exact h.hm.inj _ _ _ _ _ _ g2 g4 e
  low:=λk p L J=>by
    rcases ri J with⟨q,g1,g2⟩|⟨g1,g2⟩
    · exact h.mem.low _ _ _ g2
    · exact Nat.lt_of_lt_of_le (h.hm.low _ _ _ g2) h.gp.size
  row:=λk p L J=>by
    rcases ri J with⟨q,g1,g2⟩|⟨g1,g2⟩
    · obtain⟨b,hb⟩:=h.lT (pf g1)
      obtain⟨r,e1,e2,e3,c,T,e4,e5,e6,e7⟩:=h.mem.row _ _ _ g2
      have he:aa (cF 0 ba) q=⟨0,0,none,b⟩:=by rw[jX,hb]
      unfold rowAt at e1
      rw[he]at e1 e7
      obtain⟨r',f1,f2,f3,f4⟩:=E6 (φ:=n7 kp (ks++ns) ks (aa M)) (d:=true) e1
      refine⟨r',by unfold rowAt;rw[kE g1 hb];exact f1,f2.trans e2,f3.trans e3,c,T,e4,e5,e6,λi hi j hj=>?_⟩
      obtain⟨x,x1,x2⟩:=e7 i hi j hj
      refine⟨x,x1,?_⟩
      rw[f4 i j (by rw[e3];exact hi) (by rw[e2];exact hj),kE g1 hb]
      cases p with
      |some _=>exact h.den _ x2
      |none=>
       refine vr (λhd=>h.den _ hd) ?_ x2
       show(match idx (ks++ns) k with|some q=>ah.β q _|none=>ω.β k _)=_
       rw[g1]
    · obtain⟨r,e1,e2,e3,e4⟩:=h.hm.row _ _ _ g2
      refine⟨r,by unfold rowAt;rw[nq g1];exact e1,e2,e3,?_⟩
      rw[nq g1]
      refine kR.ext (h.ext _) ?_ ?_ ?_ e4
      · rw[h.hm.cur]
        show(aa _ k).ds=(aa M k).ds
        rw[nq g1]
      · intro q
        show(match idx (ks++ns) k with|some q'=>ah.β q' q|none=>ω.β k q)=_
        rw[g1]
      · exact h.gp.same _ (h.hm.low _ _ _ g2) (h.apart g1 g2)
  live:=λk l hl=>by
    show∃L,(match idx (ks++ns) k with|some q=>ah.β q none|none=>ω.β k none)=some L
    cases hi:idx (ks++ns) k with
    |none=>rw[nq hi]at hl;exact h.hm.live _ _ hl
    |some q=>
     obtain⟨b,hb⟩:=h.lT (pf hi)
     rw[kE hi hb]at hl
     have hl:gw _ true b= .cells l:=hl
     cases b with
     |dead=>cases hl
     |row _ _ _=>cases hl
     |cells l0=>exact h.mem.live q l0 (by rw[jX,hb])
  dh:=λk i j hh=>by
   show(match idx (ks++ns) k with|some q=>ah.β q _|none=>ω.β k _)=none
   cases hi:idx (ks++ns) k with
   |none=>rw[nq hi]at hh;exact h.hm.dh _ _ _ hh
   |some q=>
    obtain⟨b,hb⟩:=h.lT (pf hi)
    rw[kE hi hb]at hh
    cases hh
end
end
end Go.Sy
set_option linter.unusedVariables false
set_option linter.unusedSimpArgs false
namespace Go.Sy
open Go.RowKit
def dI {α:Type} (n:Nat) (k:Nat->α):α:=match n with|0=>k 0|m+1=>k (m+1)
theorem iH {α:Type} (n:Nat) (k:Nat->α):dI n k=k n:=by cases n<;>rfl
def fP {α:Type} (p:Path) (k:Path->α):α:=match p with|none=>k none|some (i,j)=>k (some (i,j))
theorem JO {α:Type} (p:Path) (k:Path->α):fP p k=k p:=by cases p with|none=>rfl|some ij=>cases ij;rfl
def fV {α:Type} (x:Value) (k:Value->α):α:=
  match x with
  | .int a z=>k (.int a z)
  | .bool b=>k (.bool b)
  |x=>k x
theorem RK {α:Type} (x:Value) (k:Value->α):fV x k=k x:=by cases x<;>rfl
def rG {α:Type} (s:SV) (k:SV->α):α:=
  match s with
  | .ptr q st p i j=>dI q λq=>dI st λst=>fP p λp=>k (.ptr q st p i j)
  | .pe q st p i j l z=>dI q λq=>dI st λst=>fP p λp=>k (.pe q st p i j l z)
  | .aw q st p e n=>dI q λq=>dI st λst=>fP p λp=>k (.aw q st p e n)
  | .sa q st p i j n=>dI q λq=>dI st λst=>fP p λp=>k (.sa q st p i j n)
  | .v x=>fV x λx=>k (.v x)
  | .pt q n f=>k (.pt q n f)
  | .ag n f=>k (.ag n f)
  |s=>k s
theorem wZ {α:Type} (s:SV) (k:SV->α):rG s k=k s:=by
  cases s<;>simp only[rG,iH,JO,RK]
def tT {α:Type}:List SV->(List SV->α)->α
  | [],k=>k []
  |s::r,k=>rG s λs=>tT r λr=>k (s::r)
theorem AJ {α:Type}: ∀(l:List SV) (k:List SV->α),tT l k=k l
  | [],_=>rfl
  |s::r,k=>by simp only[tT,wZ,AJ r]
def xW {α:Type} (b:aO) (k:aO->α):α:=
  match b with
  | .dead=>k .dead
  | .cells l=>tT l λl=>k (.cells l)
  | .row sz n f=>dI sz λsz=>k (.row sz n f)
theorem G7 {α:Type} (b:aO) (k:aO->α):xW b k=k b:=by
  cases b<;>simp only[xW,iH,AJ]
def xr {α:Type}:List aO->(List aO->α)->α
  | [],k=>k []
  |b::r,k=>xW b λb=>xr r λr=>k (b::r)
theorem FM {α:Type}: ∀(l:List aO) (k:List aO->α),xr l k=k l
  | [],_=>rfl
  |s::r,k=>by simp only[xr,G7,FM r]
def pd {α:Type}:List Nat->(List Nat->α)->α
  | [],k=>k []
  |b::r,k=>dI b λb=>pd r λr=>k (b::r)
theorem zU {α:Type}: ∀(l:List Nat) (k:List Nat->α),pd l k=k l
  | [],_=>rfl
  |s::r,k=>by simp only[pd,iH,zU r]
def oO {α:Type}:List (List Nat)->(List (List Nat)->α)->α
  | [],k=>k []
  |b::r,k=>pd b λb=>oO r λr=>k (b::r)
theorem sq {α:Type}: ∀(l:List (List Nat)) (k:List (List Nat)->α),oO l k=k l
  | [],_=>rfl
  |s::r,k=>by simp only[oO,zU,sq r]
def yO {α:Type}:List (Nat×SV)->(List (Nat×SV)->α)->α
  | [],k=>k []
  |p::r,k=>dI p.1 λa=>rG p.2 λb=>yO r λr=>k ((a,b)::r)
theorem Im {α:Type}: ∀(l:List (Nat×SV)) (k:List (Nat×SV)->α),yO l k=k l
  | [],_=>rfl
  |s::r,k=>by simp only[yO,iH,wZ,Im r]
end Go.Sy
set_option linter.unusedVariables false
set_option linter.unusedSimpArgs false
namespace Go.Sy
open Go.RowKit
def tu (m:Nat->aP) (ks:List Nat):List Bool->List SV->List SV
  |_,[]=> []
  | [],s::r=>ro true 12 m ks s::tu m ks [] r
  |b::t,s::r=>(match b with|true=>cD (j8 m ks) false s|false=>ro true 12 m ks s)::tu m ks t r
def nz:List Bool->List SV->List Nat
  |true::t,s::r=>lL s++nz t r
  |false::t,_::r=>nz t r
  |_,_=> []
def Iq (n:Nat) (m:Nat->aP):List SV->Option (Prop×SV×aC)
  | [.ptr k s p i j]=>match bT m k s p with|true=>some (True,.ptr k s p i (j+n),[])|false=>none
  |_=>none
def vT (Γ:Table) (m:Nat->aP) (nx id:Nat) (as:List SV):Option (Prop×SV×aC):=
  match Γ id with
  |some c=>
   match c.pj with
   |some n=>Iq n m as
   |none=>
   let ks:=reach m 64 (nz c.ws as) []
   match (tT (tu m ks c.ws as) λl=>xr (ks.map λk=>gw (j8 m ks) false (m k).b) λb=>c.g l b)with
   |some (pre,res,ba)=>
    let ns:=(List.range (ba.length -ks.length)).map λq=>nx+q
    match nodupB (ks++ns),ks.all λk=>whole (m k),ns.all λk=>bR m k,Nat.ble ks.length ba.length with
    |true,true,true,true=>some (pre,cD (n7 (kQ res) (ks++ns) ks m) true res,fc (kQ res) ks m (n7 (kQ res) (ks++ns) ks m) (ks++ns) ba)
    |_,_,_,_=>none
   |none=>none
  |none=>none
def qo (m:Nat->aP) (r:Nat):List Bool->List SV->Option (List SV×aC)
  |b::t,s::l=>
   match b,s7 m r s with
   |true,some x=>some (x.1::l,x.2)
   |_,_=>match qo m r t l with|some x=>some (s::x.1,x.2)|none=>none
  |_,_=>none
def wF (Γ:Table) (m:Nat->aP) (nx id:Nat) (as:List SV):Option (Prop×SV×aC):=
  match Γ id with
  |some c=>
   match qo m (nx+60) c.ws as with
   |some x=>match vT Γ (ov x.2 m) nx id x.1 with|some y=>some (y.1,y.2.1,y.2.2++x.2)|none=>none
   |none=>vT Γ m nx id as
  |none=>none
def FL (ρ:Operand->SV) (f:Operand) (args:List Operand):Option (Nat×List SV):=
  match ρ f with
  | .fn id n dQ=>some (id,args.map ρ++(List.range n).map dQ)
  | .bm id s=>some (id,s::args.map ρ)
  |_=>none
def wY (Γ:Table) (ρ:Operand->SV) (m:Nat->aP) (nx:Nat) (f:Operand) (args:List Operand):Option (Prop×SV×aC):=
  match FL ρ f args with
  |some (id,as)=>wF Γ m nx id as
  |none=>none
section
variable {P:Program} {w:World} {ω:Ow} {ρ:Operand->SV} {M:Mem} {a:Act} {Gl:Nat->SV} {Γ:Table}
def vS (P:Program) (Γ:Table) (ρ:Operand->SV) (m:Nat->aP) (nx:Nat) (r:Operand) (name:String) (args:List Operand):Option (Prop×SV×aC):=
  match ρ r with
  | .ic t s=>match s8 P t name with|some id=>wF Γ m nx id (s::args.map ρ)|none=>none
  |_=>none
theorem zC (hm:ay w ω M) (ks:List Nat): ∀{ws:List Bool} {ss:List SV} {us:List Value},bB w ω ss us->bB w (iu ω ks) (tu (aa M) ks ws ss) us
  |_,[],[],_=>by simp[tu,bB]
  | [],s::r,u::t,⟨J,U⟩=>⟨(jY (ah:=iu ω ks) hm (λb hb=>(lI hm hb).2) (sI hm ks) (qq:=true) (λe=>by cases e) 12 J).up,zC hm ks U⟩
  |b::t',s::r,u::t,⟨J,U⟩=>by
   refine⟨?_,zC hm ks U⟩
   cases b with
   |true=>exact vR (G8 hm ks) (λ_=>sI hm ks) (G9 hm ks) J
   |false=>exact(jY (ah:=iu ω ks) hm (λb hb=>(lI hm hb).2) (sI hm ks) (qq:=true) (λe=>by cases e) 12 J).up
  |_,[],_::_,h=>h.elim
  | [],_::_,[],h=>h.elim
  |_::_,_::_,[],h=>h.elim
def JP (ω:Ow) (κ:List Nat) (w w':World):Prop:= ∀b,b<w.heap.size->(∀k∈κ,∀p L,ω.β k p=some L->L.b≠b)->w'.heap[b]? =w.heap[b]?
def oQ (P:Program) (w:World) (ω:Ow) (M:Mem) (id:Nat) (vs:Array Value) (s:SV) (u:aC):Prop:=
  Calls P id vs w λe w'=> ∃v ah,e= .returned v/\aT w ω M w' ah (u++M)/\Den w' ah s v/\(gR (aa M) u=true->gD w ω w' ah (λk=>k∈u.map (·.1)))/\JP ω (u.map (·.1)) w w'
theorem MN {kp d:Bool} {φ:Nat->Nat->Path->Option (Nat×Nat)} {b:aO}:mE kp (some (gw φ d b))=mE kp (some b):=by cases b<;>rfl
theorem zY {kp:Bool} {ks:List Nat} {m:Nat->aP} {φ:Nat->Nat->Path->Option (Nat×Nat)}: ∀{fZ:List Nat} {bs:List aO},bs.length=fZ.length->(fc kp ks m φ fZ bs).map (·.1)=fZ
  | [],bs,_=>by simp[fc]
  |k::r,[],h=>by simp at h
  |k::r,b::t,h=>by simp[fc,zY (by simpa using h)]
theorem fD.RJ {kp:Bool} {ks ns:List Nat} {ba:List aO} {w':World} {ah:Ow} (h:fD kp w ω M ks ns ba w' ah) (φ:Nat->Nat->Path->Option (Nat×Nat)) (hf:gR (aa M) (fc kp ks (aa M) φ (ks++ns) ba)=true):
    gD w ω w' (n9 ω ah ks (ks++ns) (fc kp ks (aa M) φ (ks++ns) ba++M)) (λk=>k∈(fc kp ks (aa M) φ (ks++ns) ba).map (·.1)):=by
  have tv:=zY (kp:=kp) (ks:=ks) (m:=aa M) (φ:=φ) h.len
  have fQ: ∀k∈ks++ns,bR (aa M) k=true:=by
    intro k hk
    rw[<-tv,List.mem_map]at hk
    obtain⟨p,hp,rfl⟩:=hk
    exact List.all_eq_true.1 hf p hp
  have K7:ks= []:=by
    cases ks with
    |nil=>rfl
    |cons k r=>
     exfalso
     exact G6 (h.wh k (by simp)) ((iV h.hm (fQ k (by simp))).1)
  subst K7
  have cd: ∀b,¬(iu ω []).A b:=by
    rintro b ⟨q,p,L,J,_⟩
    simp at J
  rw[tv]
  refine⟨⟨h.gp.os,h.gp.tape,h.gp.output,h.gp.size,λb hb=>h.gp.same b hb (cd b)⟩,λb hb=> .inr ⟨hb,cd b⟩,rfl,λk p hk=>?_,λk p L hk hL=>?_,?_⟩
  · show(match idx ([]++ns) k with|some q=>ah.β q p|none=>ω.β k p)=_
    cases hi:idx ([]++ns) k with
    |none=>rfl
    |some q=>exact absurd (List.mem_of_getElem? (jw hi)) hk
  · rcases ri hL with⟨q,_,h3⟩|⟨hi,_⟩
    · rcases Nat.lt_or_ge L.b w.heap.size with ai|bI
      · exact absurd (h.mem.own _ ⟨q,p,L,h3,rfl⟩) (h.gp.free _ ai (cd _))
      · exact bI
    · exact absurd hk (qn hi)
  · rw[h.hm.cur]
    show cG _=cG M
    funext k
    unfold cG
    cases hi:idx ([]++ns) k with
    |none=>rw[nq hi]
    |some q=>
     obtain⟨b,hb⟩:=h.lT (pf hi)
     rw[kE hi hb]
     rfl
theorem E5 (hS:Sound P Gl Γ) (hG: ∀g,Den w ω.bare (Gl g) (.pointer (some ⟨g,0,none⟩))) (hm:ay w ω M) {nx id:Nat} {as:List SV} {pr:Prop} {s:SV} {u:aC} (he:vT Γ (aa M) nx id as=some (pr,s,u)) (hp:pr)
    {vs:Array Value} (hd:bB w ω as vs.toList):oQ P w ω M id vs s u/\ ∃c,Γ id=some c:=by
  unfold vT at he
  simp only[AJ,FM]at he
  split at he
  · next c hc=>
    split at he
    · next n hn=>
      refine⟨?_,c,hc⟩
      unfold Iq at he
      split at he
      · next k s0 p i j=>
        split at he
        · next hk=>
          simp only[Option.some.injEq,Prod.mk.injEq]at he
          obtain⟨rfl,rfl,rfl⟩:=he
          match Ul:vs.toList,hd with
          | [u],⟨J,_⟩=>
            obtain⟨U,L,h3,h4,rfl⟩:=eP hm hk J
            obtain rfl:vs= #[.pointer (some ⟨L.b,L.o+i*L.sz+j,none⟩)]:=by rw[<-Array.toList_inj,Ul]
            refine(hS.pj id c n hc hn _ w).mono ?_
            rintro e w' ⟨rfl,gC⟩
            have hx:=aT.more hm gC
            have jc:Den w' ω (.ptr k s0 p i (j+n)) (.pointer (some ⟨L.b,L.o+i*L.sz+(j+n),none⟩)):= .inr ⟨U,L,h3,h4,rfl⟩
            rw[iq]
            refine⟨_,ω,rfl,hx,by rw[Nat.add_assoc];exact jc,λ_=>⟨gC,λ_ h=>h,rfl,λ_ _ _=>rfl,λk p L hk=>by simp at hk,rfl⟩,λb hb _=>gC.2.2.2.2 b hb⟩
        · cases he
      · cases he
    try simp only at he
    split at he
    · next pre res ba hg=>
      split at he
      · next J U h3 h4=>
        simp only[Option.some.injEq,Prod.mk.injEq]at he
        obtain⟨rfl,rfl,rfl⟩:=he
        refine⟨?_,c,hc⟩
        have n4:=qg J
        have yB: ∀k∈reach (aa M) 64 (nz c.ws as) [],whole (aa M k)=true:=λk hk=>List.all_eq_true.1 U k hk
        have gX: ∀k∈(List.range (ba.length -(reach (aa M) 64 (nz c.ws as) []).length)).map (λq=>nx+q),bR (aa M) k=true:=λk hk=>List.all_eq_true.1 h3 k hk
        have hlen:ba.length=(reach (aa M) 64 (nz c.ws as) []++(List.range (ba.length -(reach (aa M) 64 (nz c.ws as) []).length)).map (λq=>nx+q)).length:=by
          have:=Nat.le_of_ble_eq_true h4
          simp;omega
        generalize K7:reach (aa M) 64 (nz c.ws as) []=ks at*
        generalize hns:(List.range (ba.length -ks.length)).map (λq=>nx+q)=ns at*
        have gG:=hS.fn id c _ _ _ _ _ hc hg hp w (iu ω ks) vs (λg=>Den.ext (o:=ω.bare) (sI hm ks) (hG g)) (NK hm ((List.nodup_append.1 n4).1) yB) (zC hm ks hd)
        refine gG.mono ?_
        rintro e w' ⟨v,ah,rfl,ha,di,hr,hk⟩
        have hb:fD (kQ res) w ω M ks ns ba w' ah:=⟨hm,n4,yB,gX,hlen,ha,di,λq k hq hs L hL=>hk q (by rw[List.getElem?_map,hq];exact MN.trans hs) L (by
          show(match ks[q]? with|some k=>ω.β k none|none=>none)=_
          rw[hq];exact hL)⟩
        exact⟨v,_,rfl,⟨hb.ext _,hb.back⟩,hb.den _ hr,λhf=>hb.RJ _ hf,λb uG hk=>ha.same b uG λhA=>by
          obtain⟨_,k,eD,p,L,g1,g2⟩:=lI hm hA
          exact hk k (by rw[zY hb.len];exact List.mem_append_left _ eD) p L g1 g2⟩
      · cases he
    · cases he
  · cases he
theorem D' (hm:ay w ω M) {r:Nat}: ∀{ws:List Bool} {l l':List SV} {u:aC} {xs:List Value},bB w ω l xs->qo (aa M) r ws l=some (l',u)-> ∃ah,aT w ω M w ah (u++M)/\bB w ah l' xs/\gR (aa M) u=false/\(∀k' p L,ah.β k' p=some L->ω.β k' p=some L\/ ∃k∈u.map (·.1),∃p0,ω.β k p0=some L)
  |b::t,s::l,l',u,[],hd,he=>hd.elim
  |b::t,s::l,l',u,x::xs,⟨J,U⟩,he=>by
   unfold qo at he
   split at he
   · next y hy=>
     simp only[Option.some.injEq,Prod.mk.injEq]at he
     obtain⟨rfl,rfl⟩:=he
     obtain⟨ah,s1,d1,f1,b1⟩:=Pb hm J hy
     exact⟨ah,s1,⟨d1,U.ext s1.ext⟩,f1,b1⟩
   · split at he
     · next y hy=>
       simp only[Option.some.injEq,Prod.mk.injEq]at he
       obtain⟨rfl,rfl⟩:=he
       obtain⟨ah,s1,d1,f1,b1⟩:=D' hm U hy
       exact⟨ah,s1,⟨J.ext s1.ext,d1⟩,f1,b1⟩
     · cases he
  | [],_,_,_,_,_,he=>by unfold qo at he;cases he
  |_::_,[],_,_,_,_,he=>by unfold qo at he;cases he
theorem zZ (hS:Sound P Gl Γ) (hG: ∀g,Den w ω.bare (Gl g) (.pointer (some ⟨g,0,none⟩))) (hm:ay w ω M) {nx id:Nat} {as:List SV} {pr:Prop} {s:SV} {u:aC} (he:wF Γ (aa M) nx id as=some (pr,s,u)) (hp:pr)
    {vs:Array Value} (hd:bB w ω as vs.toList):oQ P w ω M id vs s u/\ ∃c,Γ id=some c:=by
  unfold wF at he
  split at he
  · next c hc=>
    split at he
    · next x hx=>
      split at he
      · next y hy=>
        simp only[Option.some.injEq,Prod.mk.injEq]at he
        obtain⟨rfl,rfl,rfl⟩:=he
        obtain⟨bC,s1,d1,f1,b1⟩:=D' hm hd hx
        rw[jA]at hy
        obtain⟨J,U⟩:=E5 hS (λg=>Den.ext (o:=ω.bare) s1.ext.bare (hG g)) s1.mem hy hp d1
        refine⟨?_,U⟩
        unfold oQ at J⊢
        refine J.mono ?_
        rintro e w' ⟨v,ah,rfl,h3,h4,_,h5⟩
        refine⟨v,ah,rfl,?_,h4,λhf=>?_,λb uG hk=>?_⟩
        · rw[List.append_assoc];exact s1.trans h3
        · have hf:gR (aa M) (y.2.2++x.2)=true:=hf
          unfold gR at hf f1
          rw[List.all_append,f1,Bool.and_false]at hf
          cases hf
        · refine h5 b uG λk eD p L hL e=>?_
          rcases b1 k p L hL with h|⟨k0,K8,p0,h⟩
          · exact hk k (by rw[List.map_append];exact List.mem_append_left _ eD) p L h e
          · exact hk k0 (by rw[List.map_append];exact List.mem_append_right _ K8) p0 L h e
      · cases he
    · exact E5 hS hG hm he hp hd
  · cases he
theorem Bb (h: ∀x,Den w ω (ρ x) (a.eval x)) (args:List Operand):bB w ω (args.map ρ) (args.map a.eval):=by
  induction args with
  |nil=>trivial
  |cons x r ih=>exact⟨h x,ih⟩
theorem Qq {n:Nat} {dQ:Nat->SV} {cs:Array Value} (hn:cs.size=n) (hj: ∀j,j<n-> ∃x,cs[j]? =some x/\Den w ω (dQ j) x):bB w ω ((List.range n).map dQ) cs.toList:=by
  refine bB.mk (by simp[hn]) λi hi=>?_
  have h_:i<n:=by simpa using hi
  obtain⟨x,J,U⟩:=hj i h_
  refine⟨x,by simpa using J,?_⟩
  rw[List.getD_eq_getElem?_getD,List.getElem?_map,List.getElem?_range h_]
  exact U
def tq (P:Program) (w:World) (ω:Ow) (M:Mem) (a:Act) (o:Oper) (s:SV) (u:aC):Prop:=
  ∃id vs,(execOp a.eval o).run P w= .ok (.enter id vs) w/\oQ P w ω M id vs s u
theorem FN {o:Oper} {f:Operand} {args:Array Operand} {ts:Array TypeId} (ho:o.op= .call {callee:= .value f,args:=args,argTypes:=ts}) {id:Nat} {fs cs:Array Value} (hf:a.eval f= .func (.func id) fs cs)
    (hc: ∀(l:Array Value) (w:World),(callFunc id l).run P w= .ok (.enter id l) w):(execOp a.eval o).run P w= .ok (.enter id (fs++args.map a.eval++cs)) w:=by
  simp[execOp,ho,resolve,hf,Deferred.ofValue,invoke,hc,Result.andThen]
theorem AD (hS:Sound P Gl Γ) (hG: ∀g,Den w ω.bare (Gl g) (.pointer (some ⟨g,0,none⟩))) (h:Cx P w ω ρ M a) {o:Oper} {f:Operand} {args:Array Operand} {ts:Array TypeId} (ho:o.op= .call {callee:= .value f,args:=args,argTypes:=ts})
    {nx:Nat} {pr:Prop} {s:SV} {u:aC} (he:wY Γ ρ (aa M) nx f args.toList=some (pr,s,u)) (hp:pr):tq P w ω M a o s u:=by
  unfold wY at he
  split at he
  · next id as hc=>
    have hf:=h.val f
    unfold FL at hc
    split at hc
    · next uA n dQ hs=>
      simp only[Option.some.injEq,Prod.mk.injEq]at hc
      obtain⟨rfl,rfl⟩:=hc
      rw[hs]at hf
      obtain⟨cs,ef,gH,Um⟩:=hf
      have nD:=(Bb h.val args.toList).append (Qq gH Um)
      obtain⟨J,c,U⟩:=zZ (vs:= #[]++args.map a.eval++cs) hS hG h.mem he hp (by simpa using nD)
      exact⟨_,_,FN ho ef (hS.call _ _ U),J⟩
    · next uA s' hs=>
      simp only[Option.some.injEq,Prod.mk.injEq]at hc
      obtain⟨rfl,rfl⟩:=hc
      rw[hs]at hf
      obtain⟨x,ef,hx⟩:=hf
      have nD:bB w ω (s'::args.toList.map ρ) (x::args.toList.map a.eval):=⟨hx,Bb h.val args.toList⟩
      obtain⟨J,c,U⟩:=zZ (vs:= #[x]++args.map a.eval++ #[]) hS hG h.mem he hp (by simpa using nD)
      exact⟨_,_,FN ho ef (hS.call _ _ U),J⟩
    · cases hc
  · cases he
theorem Md {o:Oper} {r:Operand} {name:String} {args:Array Operand} {ts:Array TypeId} (ho:o.op= .call {callee:= .invoke r name,args:=args,argTypes:=ts}) {t:TypeId} {x:Value} (hr:a.eval r= .iface t x) {id:Nat}
    (hm:s8 P t name=some id) (hc: ∀(l:Array Value) (w:World),(callFunc id l).run P w= .ok (.enter id l) w):(execOp a.eval o).run P w= .ok (.enter id (#[x]++args.map a.eval)) w:=by
  unfold s8 at hm
  split at hm
  · next i d hi hd=>
    split at hm
    · next m hf=>
      split at hm
      · next f e hp gG=>
        obtain rfl:=Option.some.inj hm
        obtain⟨k,hk⟩: ∃k,P.types.size+Made.depth=k+1:=⟨P.types.size+99,by show P.types.size+100=_;omega⟩
        have e0:(execOp a.eval o).run P w=((callMethod (.iface t x) name (args.map a.eval)).run P w):=by
          simp[execOp,ho,resolve,hr,invoke,Array.getElem?_append,Result.andThen]
          rw[Array.extract_eq_self_of_le (by simp)]
        rw[e0]
        simp[callMethod,hk,method,typeInfo,hi,hf,hp,follow,gG,receiverAt,underlying,hd,Place.get,hc,Result.andThen]
      · next f e hp gG=>
        obtain rfl:=Option.some.inj hm
        obtain⟨k,hk⟩: ∃k,P.types.size+Made.depth=k+1:=⟨P.types.size+99,by show P.types.size+100=_;omega⟩
        have e0:(execOp a.eval o).run P w=((callMethod (.iface t x) name (args.map a.eval)).run P w):=by
          simp[execOp,ho,resolve,hr,invoke,Array.getElem?_append,Result.andThen]
          rw[Array.extract_eq_self_of_le (by simp)]
        rw[e0]
        simp[callMethod,hk,method,typeInfo,hi,hf,hp,follow,gG,receiverAt,underlying,hd,Place.get,hc,Result.andThen]
      · cases hm
    · cases hm
  · cases hm
theorem zB (hS:Sound P Gl Γ) (hG: ∀g,Den w ω.bare (Gl g) (.pointer (some ⟨g,0,none⟩))) (h:Cx P w ω ρ M a) {o:Oper} {r:Operand} {name:String} {args:Array Operand} {ts:Array TypeId} (ho:o.op= .call {callee:= .invoke r name,args:=args,argTypes:=ts})
    {nx:Nat} {pr:Prop} {s:SV} {u:aC} (he:vS P Γ ρ (aa M) nx r name args.toList=some (pr,s,u)) (hp:pr):tq P w ω M a o s u:=by
  unfold vS at he
  split at he
  · next t s' hs=>
    split at he
    · next id hm=>
      have hr:=h.val r
      rw[hs]at hr
      obtain⟨x,ex,hx⟩:=hr
      have nD:bB w ω (s'::args.toList.map ρ) (x::args.toList.map a.eval):=⟨hx,Bb h.val args.toList⟩
      obtain⟨J,c,U⟩:=zZ (vs:= #[x]++args.map a.eval) hS hG h.mem he hp (by simpa using nD)
      exact⟨_,_,Md ho ex hm (hS.call _ _ U),J⟩
    · cases he
  · cases he
end
end Go.Sy
set_option linter.unusedVariables false
set_option linter.unusedSimpArgs false
namespace Go.Sy
open Go.RowKit
def xV (e:aP) (k:aP->Prop):Prop:=
  match e with
  |⟨rs,ds,hl,b⟩=>dI rs λrs=>dI ds λds=>fP hl λhl=>xW b λb=>k ⟨rs,ds,hl,b⟩
theorem G3 (e:aP) (k:aP->Prop):xV e k=k e:=by
  cases e;simp only[xV,iH,JO,G7]
def qX:List Nat->Mem->(Mem->Prop)->Prop
  |_,[],k=>k []
  |seen,p::r,k=>match cb seen p.1 with|true=>qX seen r k|false=>dI p.1 λq=>xV p.2 λe=>qX (q::seen) r λr=>k ((q,e)::r)
theorem vy: ∀(M:Mem) (seen:List Nat) (k:Mem->Prop),qX seen M k-> ∃M',k M'/\ ∀q,cb seen q=false->aa M' q=aa M q
  | [],_,k,h=>⟨[],h,λ_ _=>rfl⟩
  |p::r,seen,k,h=>by
   unfold qX at h
   split at h
   · next hs=>
     obtain⟨M',J,U⟩:=vy r seen k h
     refine⟨M',J,λq hq=>?_⟩
     rw[U q hq]
     have bq:p.1≠q:=λe=>by rw[e,hq]at hs;cases hs
     obtain⟨a,b⟩:=p
     exact(bV bq).symm
   · next hs=>
     rw[iH,G3]at h
     obtain⟨M',J,U⟩:=vy r _ _ h
     refine⟨_,J,λq hq=>?_⟩
     obtain⟨a,b⟩:=p
     by_cases e:a=q
     · subst e;rw[cz,cz]
     · rw[bV e,bV e]
       refine U q ?_
       have:Nat.beq a q=false:=by
         cases hb:Nat.beq a q with
         |false=>rfl
         |true=>exact absurd (Nat.eq_of_beq_eq_true hb) e
       simp only[cb,this]
       exact hq
section
variable {w:World} {ω:Ow}
theorem ay.congr {M M':Mem} (hm:ay w ω M) (h: ∀k,aa M' k=aa M k):ay w ω M':=
  ⟨by rw[hm.cur];funext k;simp only[cG,h],hm.own,hm.dg,hm.dj,hm.ed,hm.inj,hm.low,λk p L hL=>by
    obtain⟨r,g1,g2,g3,g4⟩:=hm.row k p L hL
    exact⟨r,by unfold rowAt at g1⊢;rw[h];exact g1,g2,g3,by rw[h];exact g4⟩,λk l hk=>hm.live k l (by rw[<-h];exact hk),λk i j hk=>hm.dh k i j (by rw[<-h];exact hk)⟩
end
end Go.Sy
set_option linter.unusedVariables false
set_option linter.unusedSimpArgs false
namespace Go.Sy
open Go.RowKit
def vB:SV->Bool
  | .v _=>true
  |_=>false
def px (m:Nat->aP) (k sz:Nat) (f:Nat->Nat->SV):SV->SV
  | .aw k' st none e n=>match Nat.beq k' k,bT m k' st none with|true,true=> .sl false sz n λi j=>f (e+i) j|_,_=> .aw k' st none e n
  |s=>s
section
variable {P:Program} {w:World} {ω:Ow} {ρ:Operand->SV} {M:Mem} {a:Act}
theorem aT.RS {w:World} {o:Ow} {M:Mem} (hm:ay w o M) (k:Nat): ∃o',aT w o M w o' (Sy.kill M k)/\(∀k' p,k'≠k->o'.β k' p=o.β k' p)/\(∀p,o'.β k p=none)/\(∀b,o'.A b-> ∃k' p L,o'.β k' p=some L/\L.b=b)/\o'.Z=o.Z:=by
  refine⟨o.re (λk' p=>if k'=k then none else o.β k' p) (Sy.kill M k),?_,λk' p h=>if_neg h,λp=>if_pos rfl,λ_ h=>h,rfl⟩
  have ca: ∀{k' p L},(if k'=k then none else o.β k' p)=some L->k'≠k/\o.β k' p=some L:=by
    intro k' p L h
    split at h
    · cases h
    · next bq=>exact⟨bq,h⟩
  have bh:Ext w o w (o.re (λk' p=>if k'=k then none else o.β k' p) (Sy.kill M k)):=by
    refine xb hm (λk' p L h=>⟨k',p,L,(ca h).2,rfl⟩) (λk'=>?_) (λk' p L h e=>?_)
    · by_cases hk:k=k'
      · subst hk;rw[ng];exact⟨Nat.le_succ _,Nat.le_succ _⟩
      · rw[gv hk];exact⟨Nat.le_refl _,Nat.le_refl _⟩
    · show(if k'=k then none else o.β k' p)=some L
      rw[if_neg]
      · exact h
      · intro hk
        subst hk
        cases p<;>simp[st,cG,ng]at e
  refine aT.re hm (λk p=>(k,p)) (λk' p L h=>⟨L,(ca h).2,rfl⟩) (λ_ _ _ _ _ _ _ _ e=>by simpa using e) bh (λk' p L h=>?_) (λk' l h=>?_) (λk' i j h=>?_)
  · obtain⟨bq,h⟩:=ca h
    obtain⟨r,e1,e2,e3,e4⟩:=hm.row _ _ _ h
    refine⟨r,by unfold rowAt;rw[gv (Ne.symm bq)];exact e1,e2,e3,?_⟩
    rw[gv (Ne.symm bq)]
    refine e4.ext bh ?_ (λq=>if_neg bq) rfl
    show(cG _ k').2=_
    rw[hm.cur]
    simp only[cG,gv (Ne.symm bq)]
  · have bq:k≠k':=by
      intro e;subst e;rw[ng]at h;cases h
    rw[gv bq]at h
    obtain⟨L,hL⟩:=hm.live _ _ h
    exact⟨L,(if_neg (Ne.symm bq)).trans hL⟩
  · by_cases hk:k=k'
    · subst hk;exact if_pos rfl
    · rw[gv hk]at h
      exact(if_neg (Ne.symm hk)).trans (hm.dh _ _ _ h)
theorem Qy (hm:ay w ω M) {k sz nn:Nat} {f:Nat->Nat->SV} (hb:(aa M k).b= .row sz nn f) (hv: ∀i j,vB (f i j)=true):
    ∃ah,aT w ω M w ah (Sy.kill M k)/\ ∀s x,Den w ω s x->Den w ah (px (aa M) k sz f s) x:=by
  obtain⟨ah,s1,b1,b2,b3,b4⟩:=aT.RS hm k
  refine⟨ah,s1,λs x hd=>?_⟩
  unfold px
  split
  · next k' st e n=>
    split
    · next J U=>
      obtain rfl:=Nat.eq_of_beq_eq_true J
      have e0:=gP hm U
      rcases hd with hd|⟨_,q,cap,e1,h3,h4,h5⟩
      · omega
      · refine⟨q,cap,e1,h3,by omega,?_⟩
        rcases h5 with h5|⟨L,hL,hq,h6,h7⟩
        · left;omega
        · right
          refine⟨_,hq,λi hi j hj=>?_⟩
          obtain⟨r,r1,r2,r3,c,T,c1,c2,c3,c4⟩:=hm.row _ _ _ hL
          have r1:(aO.row sz nn f).row? =some r:=by
            have r1:dP (aa M k').b none=some r:=r1
            rw[hb]at r1
            exact r1
          obtain rfl:=Option.some.inj r1
          have r2:sz=L.sz:=r2
          subst r2
          obtain⟨y,y1,y2⟩:=c4 (e+i) (by omega) j hj
          have y2:bW w ω (aa M k').hl k' (e+i) j (f (e+i) j) y:=y2
          have Lf:=hv (e+i) j
          refine⟨y,?_,⟨λhA=>?_,λ_ hZ=>?_⟩,?_⟩
          · have e9:L.o+e*L.sz+(i*L.sz+j)=L.o+(e+i)*L.sz+j:=by rw[Nat.add_mul];omega
            have e8:(⟨L.b,L.o+e*L.sz,none⟩:Addr).add (i*L.sz+j)=⟨L.b,L.o+(e+i)*L.sz+j,none⟩:=by rw[<-e9];simp[Addr.add]
            rw[e8]
            unfold World.cell?
            simp[c1,y1]
          · obtain⟨k2,p2,L2,g1,g2⟩:=b3 _ hA
            have bq:k2≠k':=λz=>by subst z;rw[b2]at g1;cases g1
            rw[b1 _ _ bq]at g1
            exact bq (hm.inj _ _ _ _ _ _ g1 hL g2).1
          · rw[b4]at hZ
            exact hm.dj _ (hm.own _ ⟨_,_,_,hL,rfl⟩) hZ
          · show Den w ah.bare (f (e+i) j) y
            generalize f (e+i) j=s at y2 Lf
            cases s with
            |v z=>exact y2
            |_=>cases Lf
    · exact Den.ext s1.ext hd
  · exact Den.ext s1.ext hd
def sH (P:Program) (m:Nat->aP) (nx:Nat) (T:TypeId) (len:Nat) (parts:List (Nat×SV)):Option (Prop×SV×aC):=
  match parts with
  | [(0,.aw k st none e n)]=>
    match bT m k st none,nB (m k).b with
    |true,some (sz,nn,f)=>
     match vU P (ov (jF m k) m) nx T len [(0,px m k sz f (.aw k st none e n))]with
     |some y=>some ((∀i j,vB (f i j)=true)/\y.1,y.2.1,y.2.2++jF m k)
     |none=>none
    |_,_=>none
  |_=>Ab P m nx T len parts
theorem ML (h:Cx P w ω ρ M a) {o:Oper} {T:TypeId} {len:Nat} {parts:Array (Nat×Operand)} {nx:Nat} {pr:Prop} {s:SV} {u:aC} (ho:o.op= .buildSlice T len parts)
    (he:sH P (aa M) nx T len (parts.toList.map λp=>(p.1,ρ p.2))=some (pr,s,u)) (hp:pr):lP P w ω M a o s u:=by
  unfold sH at he
  split at he
  · next k st e n Lg=>
    split at he
    · next sz nn f aZ eh=>
      split at he
      · next y hy=>
        simp only[Option.some.injEq,Prod.mk.injEq]at he
        obtain⟨rfl,rfl,rfl⟩:=he
        obtain⟨ah,s1,d1⟩:=Qy h.mem (E8 eh) hp.1
        have hc:Cx P w ah (λx=>px (aa M) k sz f (ρ x)) (Sy.kill M k) a:=⟨λx=>d1 _ _ (h.val x),s1.mem⟩
        have fH:(parts.toList.map λp=>(p.1,px (aa M) k sz f (ρ p.2)))= [(0,px (aa M) k sz f (.aw k st none e n))]:=by
          have:=congrArg (List.map λq:Nat×SV=>(q.1,px (aa M) k sz f q.2)) Lg
          simpa [List.map_map,Function.comp]using this
        have UB:ov (jF (aa M) k) (aa M)=aa (Sy.kill M k):=by rw[jA];rfl
        rw[UB,<-fH]at hy
        obtain⟨n2,v,w',uJ,g1,g2,g3,g4⟩:=(E_ hc ho hy).rE
        refine⟨n2,v,w',uJ,g1,g2,?_,g4⟩
        rw[List.append_assoc]
        exact s1.trans g3
      · cases he
    · cases he
  · exact(E9 h ho he).rE
theorem Mb (h:Cx P w ω ρ M a) {o:Oper} {T:TypeId} {len:Nat} {parts:Array (Nat×Operand)} {nx:Nat} {pr:Prop} {s:SV} {u:aC} (ho:o.op= .buildSlice T len parts)
    (he:sH P (aa M) nx T len (parts.toList.map λp=>(p.1,ρ p.2))=some (pr,s,u)) (J:kG (aa M) u=true):jK P w ω M a o s u:=by
  unfold sH at he
  split at he
  · next k st e n Lg=>
    split at he
    · split at he
      · next y hy=>
        simp only[Option.some.injEq,Prod.mk.injEq]at he
        obtain⟨_,_,rfl⟩:=he
        unfold kG at J
        rw[List.all_append,Bool.and_eq_true]at J
        have U:=J.2
        simp only[jF,List.all_cons,List.all_nil,Bool.and_true]at U
        have:=Nat.eq_of_beq_eq_true U
        omega
      · cases he
    · cases he
  · exact E9 h ho he
end
end Go.Sy
