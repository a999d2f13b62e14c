/-
  Sy, part 12: what is handed to a callee, and what comes back.
-/
import Derived.Test.YthgmgkabnffniaaGreatDoorYC
set_option linter.unusedVariables false
set_option linter.unusedSimpArgs false
namespace Go.Sy
open Go.RowKit
/-! ### references are told anew -/
def nR:Nat->Nat->Path->Option (Nat×Nat):=λ_ _ _=>none
def hX (d:Bool):SV->(Nat->Nat->Path->Option (Nat×Nat))->SV
 | .ptr k s p i j,φ=>match φ k s p with|some (k',s')=> .ptr k' s' p i j|none=> .aI
 | .pe k s p i j len z,φ=>match φ k s p with|some (k',s')=> .pe k' s' p i j len z|none=> .aI
 | .aS k s p e n,φ=>match φ k s p with|some (k',s')=> .aS k' s' p e n|none=> .aI
 | .sa k s p i j n,φ=>match φ k s p with|some (k',s')=> .sa k' s' p i j n|none=> .aI
 | .ag n f,φ=> .ag n λj=>hX d (f j) φ
 | .tp n f,φ=> .tp n λj=>hX d (f j) φ
 | .fn id n f,φ=> .fn id n λj=>hX d (f j) φ
 | .bm id s,φ=> .bm id (hX d s φ)
 | .mv nm s,φ=> .mv nm (hX d s φ)
 | .ic t s,φ=> .ic t (hX d s φ)
 | .il sz n f,φ=> .il sz n λi j=>hX d (f i j) φ
 | .pt q n f,_=>match d,q with|true,true=> .aI|true,false=> .pt q n λj=>hX d (f j) nR|false,_=> .pt q n f
 | .sl q sz n f,_=>match d,q with|true,true=> .aI|true,false=> .sl q sz n λi j=>hX d (f i j) nR|false,_=> .sl q sz n f
 | .pa q sz n f,_=>match d,q with|true,true=> .aI|true,false=> .pa q sz n λi j=>hX d (f i j) nR|false,_=> .pa q sz n f
 |s,_=>s
abbrev dv (φ:Nat->Nat->Path->Option (Nat×Nat)) (d:Bool) (s:SV):SV:=hX d s φ
def qX (ω aq:Ow) (φ:Nat->Nat->Path->Option (Nat×Nat)):Prop:=
 ∀k s p k' s',φ k s p=some (k',s')->s=st ω.cur k p/\s'=st aq.cur k' p/\aq.β k' p=ω.β k p
theorem qX.at {ω aq:Ow} {φ:Nat->Nat->Path->Option (Nat×Nat)} (h:qX ω aq φ) {k s:Nat} {p:Path} {k' s':Nat} (e:φ k s p=some (k',s')) {R:Loc->Prop} (b:At ω k s p R):At aq k' s' p R:=by
 obtain⟨h1,h2,c⟩:=h _ _ _ _ _ e;rcases b with b|⟨_,L,d,g⟩
 ·omega
 ·exact .inr ⟨h2,L,c.trans d,g⟩
theorem qX.head {ω aq:Ow} {φ:Nat->Nat->Path->Option (Nat×Nat)} (h:qX ω aq φ) {k s:Nat} {p:Path} {k' s':Nat} (e:φ k s p=some (k',s')) {b n:Nat} {u:Value} (c:Head ω k p b n u):Head aq k' p b n u:=by obtain⟨h1,h2,d⟩:=h _ _ _ _ _ e;obtain⟨q,cap,g,i,j,l⟩:=c;exact⟨q,cap,g,i,j,by rw[d];exact l⟩
def zS (d:Bool) (w:World) (ω aq:Ow):Prop:=∀b (q:Bool),b<w.heap.size->(d=true->q=false)->¬ω.A b->(q=false->¬ω.Z b)->¬aq.A b/\(q=false->¬aq.Z b)
theorem Fl {w:World} {ω aq:Ow} {d:Bool} (hE:d=false->Ext w ω.bare w aq.bare) (h:zS d w ω aq) {s:SV}:∀{u:Value},Den w ω.bare s u->Den w aq.bare (dv nR d s) u:=by
 intro u hd
 induction s generalizing u with
 |aI=>trivial
 |il sz n f=>trivial
 |v x=>exact hd
 |bl b=>exact hd
 |es=>exact hd
 |ptr k s p i j=>trivial
 |pe k s p i j len z=>trivial
 |sa k s p i j n=>trivial
 |aS k s p e n=>trivial
 |pt q n f l=>
  cases d with
  |false=>exact Den.ext (o:=ω.bare) (o':=aq.bare) (s:= .pt q n f) (hE rfl) hd
  |true=>
  cases q with
  |true=>trivial
  |false=>obtain⟨a,rfl,A⟩:=hd;refine⟨a,rfl,λj c=>?_⟩;obtain⟨x,B,y,r⟩:=A j c;have g:=fu B;rw[gI]at g;exact⟨x,B,h _ false g (λ_=>rfl) y.1 y.2,l j r⟩
 |sl q sz n f l=>
  cases d with
  |false=>exact Den.ext (o:=ω.bare) (o':=aq.bare) (s:= .sl q sz n f) (hE rfl) hd
  |true=>
  cases q with
  |true=>trivial
  |false=>obtain⟨p,cap,rfl,C,I,A⟩:=hd;refine⟨p,cap,rfl,C,I,A.imp id ?_⟩;rintro ⟨a,e,J⟩;refine⟨a,e,λi K j c=>?_⟩;obtain⟨x,B,y,r⟩:=J i K j c;have g:=fu B;rw[gI]at g;exact⟨x,B,h _ false g (λ_=>rfl) y.1 y.2,l i j r⟩
 |pa q sz n f l=>
  cases d with
  |false=>exact Den.ext (o:=ω.bare) (o':=aq.bare) (s:= .pa q sz n f) (hE rfl) hd
  |true=>
  cases q with
  |true=>trivial
  |false=>obtain⟨a,rfl,J⟩:=hd;refine⟨a,rfl,λi K j c=>?_⟩;obtain⟨x,B,y,r⟩:=J i K j c;have g:=fu B;rw[gI]at g;exact⟨x,B,h _ false g (λ_=>rfl) y.1 y.2,l i j r⟩
 |ag n f l=>obtain⟨E,rfl,hs,A⟩:=hd;exact⟨E,rfl,hs,λj c=>let⟨x,h1,h2⟩:=A j c;⟨x,h1,l j h2⟩⟩
 |tp n f l=>obtain⟨E,rfl,hs,A⟩:=hd;exact⟨E,rfl,hs,λj c=>let⟨x,h1,h2⟩:=A j c;⟨x,h1,l j h2⟩⟩
 |fn id n f l=>obtain⟨E,rfl,hs,A⟩:=hd;exact⟨E,rfl,hs,λj c=>let⟨x,h1,h2⟩:=A j c;⟨x,h1,l j h2⟩⟩
 |bm id s l=>obtain⟨x,rfl,r⟩:=hd;exact⟨x,rfl,l r⟩
 |mv nm s l=>obtain⟨x,rfl,r⟩:=hd;exact⟨x,rfl,l r⟩
 |ic t s l=>obtain⟨x,rfl,r⟩:=hd;exact⟨x,rfl,l r⟩
 |er t tf e at_=>
  rcases hd with hd|hd|⟨h1,h2,a,rfl,y,R,G,O⟩
  ·exact .inl hd
  ·exact .inr (.inl hd)
  ·have g:=fu G;rw[gI]at g;obtain⟨k1,k2⟩:=h a.block false g (by simp) y (λ_=>R);exact .inr (.inr ⟨h1,h2,a,rfl,k1,k2 rfl,G,O⟩)
theorem BA {w:World} {ω aq:Ow} {φ:Nat->Nat->Path->Option (Nat×Nat)} {d:Bool} (r:qX ω aq φ) (hE:d=false->Ext w ω.bare w aq.bare) (h:zS d w ω aq) {s:SV}:∀{u:Value},Den w ω s u->Den w aq (dv φ d s) u:=by
 intro u hd
 induction s generalizing u with
 |aI=>trivial
 |il sz n f=>trivial
 |v x=>exact hd
 |bl b=>exact hd
 |es=>exact hd
 |ptr k s p i j=>
  simp only[dv,hX];split
  ·next k' s' e=>exact r.at e hd
  ·trivial
 |pe k s p i j len z=>
  simp only[dv,hX];split
  ·next k' s' e=>exact r.at e hd
  ·trivial
 |sa k s p i j n=>
  simp only[dv,hX];split
  ·next k' s' e=>exact r.at e hd
  ·trivial
 |aS k s p e n=>
  simp only[dv,hX];split
  ·next k' s' e=>
   obtain⟨h1,h2,T⟩:=r _ _ _ _ _ e;rcases hd with hd|⟨_,hd⟩
   ·omega
   ·exact .inr ⟨h2,r.head e hd⟩
  ·trivial
 |pt q n f l=>
  cases d with
  |false=>exact Den.ext (o:=ω.bare) (o':=aq.bare) (s:= .pt q n f) (hE rfl) hd
  |true=>
  cases q with
  |true=>trivial
  |false=>obtain⟨a,rfl,B⟩:=hd;refine⟨a,rfl,λj c=>?_⟩;obtain⟨x,C,A,y⟩:=B j c;have g:=fu C;rw[gI]at g;exact⟨x,C,h _ false g (λ_=>rfl) A.1 A.2,Fl hE h y⟩
 |sl q sz n f l=>
  cases d with
  |false=>exact Den.ext (o:=ω.bare) (o':=aq.bare) (s:= .sl q sz n f) (hE rfl) hd
  |true=>
  cases q with
  |true=>trivial
  |false=>obtain⟨p,cap,rfl,E,J,B⟩:=hd;refine⟨p,cap,rfl,E,J,B.imp id ?_⟩;rintro ⟨a,e,K⟩;refine⟨a,e,λi O j c=>?_⟩;obtain⟨x,C,A,y⟩:=K i O j c;have g:=fu C;rw[gI]at g;exact⟨x,C,h _ false g (λ_=>rfl) A.1 A.2,Fl hE h y⟩
 |pa q sz n f l=>
  cases d with
  |false=>exact Den.ext (o:=ω.bare) (o':=aq.bare) (s:= .pa q sz n f) (hE rfl) hd
  |true=>
  cases q with
  |true=>trivial
  |false=>obtain⟨a,rfl,K⟩:=hd;refine⟨a,rfl,λi O j c=>?_⟩;obtain⟨x,C,A,y⟩:=K i O j c;have g:=fu C;rw[gI]at g;exact⟨x,C,h _ false g (λ_=>rfl) A.1 A.2,Fl hE h y⟩
 |ag n f l=>obtain⟨G,rfl,hs,B⟩:=hd;exact⟨G,rfl,hs,λj c=>let⟨x,h1,h2⟩:=B j c;⟨x,h1,l j h2⟩⟩
 |tp n f l=>obtain⟨G,rfl,hs,B⟩:=hd;exact⟨G,rfl,hs,λj c=>let⟨x,h1,h2⟩:=B j c;⟨x,h1,l j h2⟩⟩
 |fn id n f l=>obtain⟨G,rfl,hs,B⟩:=hd;exact⟨G,rfl,hs,λj c=>let⟨x,h1,h2⟩:=B j c;⟨x,h1,l j h2⟩⟩
 |bm id s l=>obtain⟨x,rfl,y⟩:=hd;exact⟨x,rfl,l y⟩
 |mv nm s l=>obtain⟨x,rfl,y⟩:=hd;exact⟨x,rfl,l y⟩
 |ic t s l=>obtain⟨x,rfl,y⟩:=hd;exact⟨x,rfl,l y⟩
 |er t tf e at_=>
  rcases hd with hd|hd|⟨h1,h2,a,rfl,A,S,I,R⟩
  ·exact .inl hd
  ·exact .inr (.inl hd)
  ·have g:=fu I;rw[gI]at g;obtain⟨k1,k2⟩:=h a.block false g (by simp) A (λ_=>S);exact .inr (.inr ⟨h1,h2,a,rfl,k1,k2 rfl,I,R⟩)
/-! ### lent to be read -/
def cR:List Nat->Nat->Bool
 | [],_=>false
 |x::r,k=>match Nat.beq x k with|true=>true|false=>cR r k
theorem gU:∀{l:List Nat} {k:Nat},cR l k=true↔k∈l
 | [],k=>by simp[cR]
 |x::r,k=>by
  unfold cR;split
  ·next h=>simp[a_ h]
  ·next h=>
   have:=beq_false h;rw[gU];simp[cA this]
def zC (e:bw) (k:Nat) (p:Path) (i j:Nat) (s:SV):SV:=match tb e k p i j s with|some s=>s|none=> .aI
def ro (qq:Bool):Nat->(Nat->bw)->List Nat->SV->SV
 |0,_,_,_=> .aI
 |d+1,m,ks,s=>
  match s with
  | .ptr k st p i j=>
    match cG m k st p,cR ks k,fD (m k).b p with
    |true,false,some r=> .pt qq (r.sz -j) λq=>ro qq d m ks (zC (m k) k p i (j+q) (r.f i (j+q)))
    |_,_,_=> .aI
  | .aS k st p e n=>
    match cG m k st p,cR ks k,fD (m k).b p with
    |true,false,some r=> .sl qq r.sz n λi j=>ro qq d m ks (zC (m k) k p (e+i) j (r.f (e+i) j))
    |_,_,_=> .aI
  | .sa k st p c j n=>
    match cG m k st p,cR ks k,fD (m k).b p with
    |true,false,some r=>match Nat.ble (j+n) r.sz with|true=> .sl qq 1 n λi _=>ro qq d m ks (zC (m k) k p c (j+i) (r.f c (j+i)))|false=> .aI
    |_,_,_=> .aI
  | .pe _ _ _ _ _ _ _=> .aI
  | .il _ _ _=> .aI
  | .ag n f=> .ag n λj=>ro qq d m ks (f j)
  | .tp n f=> .tp n λj=>ro qq d m ks (f j)
  | .fn id n f=> .fn id n λj=>ro qq d m ks (f j)
  | .bm id s=> .bm id (ro qq d m ks s)
  | .mv nm s=> .mv nm (ro qq d m ks s)
  | .ic t s=> .ic t (ro qq d m ks s)
  |s=>s
theorem EY {w:World} {ω:Ow} {M:Mem} (hm:aU w ω M) {k i j:Nat} {p:Path} {s:SV} {x:Value} (hl:gJ w ω (ae M k).hl k p i j s x):Den w ω (zC (ae M k) k p i j s) x:=by
 unfold zC;split
 ·next s' h=>exact Fm hm hl h
 ·trivial
theorem mB {w:World} {ω aq:Ow} {M:Mem} (hm:aU w ω M) {ks:List Nat} (B:∀b,aq.A b->∃k∈ks,∃p L,ω.β k p=some L/\L.b=b) (hE:Ext w ω.bare w aq.bare) {qq:Bool} (g:qq=false->∀b,ω.A b->¬aq.Z b):
 ∀(d:Nat) {s:SV} {u:Value},Den w ω s u->Den w aq.bare (ro qq d (ae M) ks s) u
 |0,_,_,_=>trivial
 |d+1,s,u,hd=>by
  have S:∀{k:Nat} {p:Path} {L:Loc},ω.β k p=some L->cR ks k=false->¬aq.A L.b:=by intro k p L c C h;obtain⟨k',T,p',L',h1,h2⟩:=B _ h;obtain⟨rfl,_⟩:=hm.inj _ _ _ _ _ _ h1 c h2;rw[gU.2 T]at C;cases C
  cases s with
  |aI=>trivial
  |v x=>exact hd
  |bl b=>exact hd
  |es=>exact hd
  |il sz n f=>trivial
  |pe k s p i j len z=>trivial
  |ptr k st p i j=>
   simp only[ro];split
   ·next r l C G=>
    obtain⟨_,L,c,U,e⟩:=gr hm l hd;obtain⟨V,g2,I⟩:=si hm c G;refine⟨_,e,λq hq=>?_⟩;obtain⟨x,J,K⟩:=I i U (j+q) (by omega);exact⟨x,by rw[jx,i_];exact J,⟨S c C,λe=>g e _ (hm.own _ ⟨_,_,_,c,rfl⟩)⟩,mB hm B hE g d (EY hm K)⟩
   ·trivial
  |aS k st p e n=>
   simp only[ro];split
   ·next r l C G=>
    have e0:=iZ hm l;rcases hd with hd|⟨_,q,cap,rfl,h1,h2,Y⟩
    ·omega
    refine⟨q,cap,rfl,h1,ft h1 h2,?_⟩;rcases Y with Y|⟨L,c,rfl,h4,h5⟩
    ·left;omega
    ·right;obtain⟨V,g2,I⟩:=si hm c G;refine⟨_,rfl,λi hi j E=>?_⟩;obtain⟨x,J,K⟩:=I (e+i) (by omega) j (by omega);refine⟨x,?_,⟨S c C,λe=>g e _ (hm.own _ ⟨_,_,_,c,rfl⟩)⟩,mB hm B hE g d (EY hm K)⟩;rw[jx,V,show L.o+e*L.sz+(i*L.sz+j)=L.o+(e+i)*L.sz+j by rw[iD];omega];exact J
   ·trivial
  |sa k st p ii j n=>
   simp only[ro];split
   ·next r l C G=>
    split
    ·next hle=>
     have hle:=bP hle;obtain⟨_,L,c,U,W,rfl⟩:=gr hm l hd;obtain⟨V,g2,I⟩:=si hm c G;refine⟨_,_,rfl,bc _,W,.inr ⟨_,rfl,λi hi j2 hj2=>?_⟩⟩;have X:j2=0:=by omega
     subst X;obtain⟨x,J,K⟩:=I ii U (j+i) (by omega);exact⟨x,by rw[jx];simpa [i_]using J,⟨S c C,λe=>g e _ (hm.own _ ⟨_,_,_,c,rfl⟩)⟩,mB hm B hE g d (EY hm K)⟩
    ·trivial
   ·trivial
  |pt q n f=>exact Den.ext (o:=ω.bare) hE hd
  |sl q sz n f=>exact Den.ext (o:=ω.bare) hE hd
  |pa q sz n f=>exact Den.ext (o:=ω.bare) hE hd
  |er t tf e at_=>exact Den.ext (o:=ω.bare) hE hd
  |ag n f=>obtain⟨O,rfl,hs,E⟩:=hd;exact⟨O,rfl,hs,λj y=>let⟨x,h1,h2⟩:=E j y;⟨x,h1,mB hm B hE g d h2⟩⟩
  |tp n f=>obtain⟨O,rfl,hs,E⟩:=hd;exact⟨O,rfl,hs,λj y=>let⟨x,h1,h2⟩:=E j y;⟨x,h1,mB hm B hE g d h2⟩⟩
  |fn id n f=>obtain⟨O,rfl,hs,E⟩:=hd;exact⟨O,rfl,hs,λj y=>let⟨x,h1,h2⟩:=E j y;⟨x,h1,mB hm B hE g d h2⟩⟩
  |bm id s=>obtain⟨x,rfl,R⟩:=hd;exact⟨x,rfl,mB hm B hE g d R⟩
  |mv nm s=>obtain⟨x,rfl,R⟩:=hd;exact⟨x,rfl,mB hm B hE g d R⟩
  |ic t s=>obtain⟨x,rfl,R⟩:=hd;exact⟨x,rfl,mB hm B hE g d R⟩
/-! ### contracts -/
def dh:Nat->List bp->Mem
 |_,[]=> []
 |q,b::r=>(q,⟨0,0,none,b⟩)::dh (q+1) r
theorem Kc:∀(l:List bp) (q k:Nat),ae (dh q l) (q+k)=match l[k]? with|some b=>⟨0,0,none,b⟩|none=>⟨0,0,none,.dead⟩
 | [],q,k=>by simp[dh,ae]
 |b::r,q,0=>by simp[dh,dk]
 |b::r,q,k+1=>by rw[dh,cF (by omega),show q+(k+1)=(q+1)+k by omega,Kc r (q+1) k];simp
theorem kI (l:List bp) (k:Nat):ae (dh 0 l) k=match l[k]? with|some b=>⟨0,0,none,b⟩|none=>⟨0,0,none,.dead⟩:=by have:=Kc l 0 k;rwa [jY]at this
theorem Bg (l:List bp):dy (dh 0 l)=λ_=>(0,0):=by funext k;unfold dy;rw[kI];split<;>rfl
structure Iv (w:World) (ω:Ow) (w':World) (aq:Ow):Prop where
 os:w'.os=w.os
 tape:w'.tape=w.tape
 output:w'.output=w.output
 same:DA ω.A w w'
 free:∀b,b<w.heap.size->¬ω.A b->¬aq.A b
 gx:∀b,ω.Z b->aq.Z b
 size:w.heap.size<=w'.heap.size
def nM:SV->Bool
 | .tp 0 f=>(match f 0 with| .v (.bool true)=>true|_=>false)
 |_=>false
def pP (kp:Bool):Option bp->Bool
 |some (.cells _)=>true
 |some (.row _ _ _)=>kp
 |_=>false
def gl (P:Program) (Gl:Nat->SV) (f:Nat) (args:List SV) (mem:List bp) (res:SV) (bH:List bp):Prop:=
 ∀(w:World) (ω:Ow) (vs:Array Value),(∀g,Den w ω.bare (Gl g) (.pointer (some ⟨g,0,none⟩)))->aU w ω (dh 0 mem)->bY w ω args vs.toList->
  Calls P f vs w λe w'=>∃v aq,e= .returned v/\Iv w ω w' aq/\aU w' aq (dh 0 bH)/\Den w' aq res v/\∀k,pP (nM res) mem[k]? =true->∀L,ω.β k none=some L->aq.β k none=some L
structure aZ where
 ws:List Bool
 g:List SV->List bp->Option (Prop×SV×List bp)
 pj:Option Nat
abbrev Table:=Nat->Option aZ
def QO (P:Program) (f n:Nat):Prop:=∀(ad:Addr) (w:World),Calls P f #[.pointer (some ad)] w λe w'=>e= .returned (.pointer (some (ad.add n)))/\Cw w w'
structure Sound (P:Program) (Gl:Nat->SV) (Γ:Table):Prop where
 call:∀f c,Γ f=some c->∀(l:Array Value) (w:World),(callFunc f l).run P w= .ok (.enter f l) w
 fn:∀f c args mem pre res bH,Γ f=some c->c.g args mem=some (pre,res,bH)->pre->gl P Gl f args mem res bH
 pj:∀f c n,Γ f=some c->c.pj=some n->QO P f n
/-! ### what is lent to be written -/
def oI:SV->List Nat
 | .ptr k _ _ _ _=> [k]
 | .pe k _ _ _ _ _ _=> [k]
 | .aS k _ _ _ _=> [k]
 | .sa k _ _ _ _ _=> [k]
 | .ag n f=>(List.range n).flatMap λj=>oI (f j)
 | .tp n f=>(List.range n).flatMap λj=>oI (f j)
 | .fn _ n f=>(List.range n).flatMap λj=>oI (f j)
 | .bm _ s=>oI s
 | .mv _ s=>oI s
 | .ic _ s=>oI s
 |_=> []
def reach (m:Nat->bw):Nat->List Nat->List Nat->List Nat
 |0,_,acc=>acc
 |_+1,[],acc=>acc
 |d+1,k::r,acc=>
  match cR acc k with
  |true=>reach m d r acc
  |false=>
   match (m k).b with
   | .cells l=>reach m d (l.flatMap oI++r) (acc++ [k])
   | .row _ _ _=>reach m d r (acc++ [k])
   | .dead=>reach m d r acc
def idx:List Nat->Nat->Option Nat
 | [],_=>none
 |x::r,k=>match Nat.beq x k with|true=>some 0|false=>match idx r k with|some q=>some (q+1)|none=>none
theorem lA:∀{l:List Nat} {k q:Nat},idx l k=some q->l[q]? =some k
 | [],_,_,h=>by cases h
 |x::r,k,q,h=>by
  unfold idx at h;split at h
  ·next b=>obtain rfl:=aV h;simp[a_ b]
  ·split at h
   ·next d c=>obtain rfl:=aV h;simpa using lA c
   ·cases h
theorem we:∀{l:List Nat} {k:Nat},idx l k=none->k∉l
 | [],_,_=>by simp
 |x::r,k,h=>by
  unfold idx at h;split at h
  ·cases h
  ·next b=>
   split at h
   ·cases h
   ·next c=>simp[we c,cA (beq_false b)]
def nodupB:List Nat->Bool
 | []=>true
 |x::r=>!cR r x&&nodupB r
theorem vX:∀{l:List Nat},nodupB l=true->l.Nodup
 | [],_=>List.nodup_nil
 |x::r,h=>by simp only[nodupB,aW,dT]at h;refine List.nodup_cons.2 ⟨λhm=>?_,vX h.2⟩;rw[gU.2 hm]at h;cases h.1
theorem yu {l:List Nat} (hl:l.Nodup) {k q:Nat} (h:l[q]? =some k):idx l k=some q:=by
 cases b:idx l k with
 |none=>exact absurd (fw h) (we b)
 |some e=>have c:=lA b;obtain⟨h1,h2⟩:=ik.1 h;obtain⟨g,d⟩:=ik.1 c;have:=(List.getElem_inj hl).1 (h2.trans d.symm);rw[this]
def mK (m:Nat->bw) (ks:List Nat):Nat->Nat->Path->Option (Nat×Nat):=λk s p=>
 match idx ks k with
 |some q=>match cG m k s p with|true=>some (q,0)|false=>none
 |none=>none
def iH (φ:Nat->Nat->Path->Option (Nat×Nat)) (d:Bool):bp->bp
 | .dead=> .dead
 | .cells l=> .cells (l.map λs=>dv φ d s)
 | .row sz n f=> .row sz n λi j=>dv φ d (f i j)
def whole (e:bw):Bool:=match e.hl,e.b with|_,.dead=>false|none,_=>true|some _,_=>false
theorem KR {e:bw} (h:whole e=true):e.hl=none:=by
 unfold whole at h;split at h
 ·cases h
 ·next b _=>exact b
 ·cases h
theorem MA {e:bw} (h:whole e=true):e.b≠ .dead:=by intro c;unfold whole at h;rw[c]at h;simp at h
def jB (ω:Ow) (ks:List Nat):Ow:=
 let β:Nat->Path->Option Loc:=λq p=>match ks[q]? with|some k=>ω.β k p|none=>none
 let A:Nat->Prop:=λb=>∃q p L,β q p=some L/\L.b=b
 ⟨A,λb=>ω.Z b\/(ω.A b/\¬A b),β,λ_=>(0,0)⟩
section
variable {P:Program} {w:World} {ω:Ow} {ρ:Operand->SV} {M:Mem} {a:Act}
theorem za {ks:List Nat} {q:Nat} {p:Path} {L:Loc} (h:(jB ω ks).β q p=some L):∃k,ks[q]? =some k/\ω.β k p=some L:=by
 have h:(match ks[q]? with|some k=>ω.β k p|none=>none)=some L:=h;split at h
 ·next k b=>exact⟨k,b,h⟩
 ·cases h
theorem oE (hm:aU w ω M) {ks:List Nat} {b:Nat} (h:(jB ω ks).A b):ω.A b/\∃k∈ks,∃p L,ω.β k p=some L/\L.b=b:=by obtain⟨q,p,L,h1,h2⟩:=h;obtain⟨k,d,c⟩:=za h1;exact⟨(hm.own b) ⟨k,p,L,c,h2⟩,k,fw d,p,L,c,h2⟩
theorem yx (hm:aU w ω M) (ks:List Nat):Ext w ω.bare w (jB ω ks).bare where
 os:=rfl
 tape:=rfl
 output:=rfl
 same:=λ_ _ _=>rfl
 free:=λb _ h c=>h (oE hm c).1
 gx:=λb _ h e c=>c.elim e λd=>h d.1
 size:=bc _
 mono:=λ_=>⟨bc _,bc _⟩
 mP:=λ_ _ _ h=>by cases h
 zs:=λ_ h=> .inl h
theorem MD (hm:aU w ω M) (ks:List Nat):zS false w ω (jB ω ks):=by intro b q d _ h1 h2;exact⟨λh=>h1 (oE hm h).1,λc h=>h.elim (h2 c) λh=>h1 h.1⟩
theorem MC (hm:aU w ω M) (ks:List Nat):qX ω (jB ω ks) (mK (ae M) ks):=by
 intro k s p k' s' h;unfold mK at h;split at h
 ·next q c=>
  split at h
  ·next b=>
   simp only[bF,bJ]at h;obtain⟨rfl,rfl⟩:=h;refine⟨iZ hm b,by cases p<;>rfl,?_⟩;show(match ks[q]? with|some k=>ω.β k p|none=>none)=_;rw[lA c]
  ·cases h
 ·cases h
theorem TK {φ:Nat->Nat->Path->Option (Nat×Nat)} {d:Bool} {s:SV} (h:cZ s=false):cZ (dv φ d s)=false:=by
 cases s with
 |il _ _ _=>cases h
 |ptr k s p i j=>simp only[dv,hX];split<;>rfl
 |pe k s p i j len z=>simp only[dv,hX];split<;>rfl
 |aS k s p e n=>simp only[dv,hX];split<;>rfl
 |sa k s p i j n=>simp only[dv,hX];split<;>rfl
 |pt q n f=>cases d<;>cases q<;>rfl
 |sl q sz n f=>cases d<;>cases q<;>rfl
 |pa q sz n f=>cases d<;>cases q<;>rfl
 |_=>rfl
theorem Kb {φ:Nat->Nat->Path->Option (Nat×Nat)} {d:Bool} {b:bp} {p:Path} {r:Row} (h:fD b p=some r):∃r',fD (iH φ d b) p=some r'/\r'.sz=r.sz/\r'.n=r.n/\∀i j,i<r.n->j<r.sz->r'.f i j=dv φ d (r.f i j):=by
 cases p with
 |none=>
  cases b with
  |dead=>cases h
  |cells l=>obtain rfl:=aV h;refine⟨_,rfl,by simp,rfl,λi j _ e=>?_⟩;have e:j<l.length:=e;simp[aN,cD,e]
  |row sz n f=>obtain rfl:=aV h;exact⟨_,rfl,rfl,rfl,λ_ _ _ _=>rfl⟩
 |some q=>
  obtain⟨i,j⟩:=q;cases b with
  |dead=>cases h
  |cells l=>cases h
  |row sz n f=>
   have h:inner ⟨sz,n,f⟩ i j=some r:=h;unfold inner at h;split at h
   ·next c o g k=>
    obtain rfl:=aV h;have k:f i j= .il c o g:=k;refine⟨⟨c,o,λa b=>dv φ d (g a b)⟩,?_,rfl,rfl,λ_ _ _ _=>rfl⟩;show inner ⟨sz,n,λi j=>dv φ d (f i j)⟩ i j=_;unfold inner;simp only[k,dv,hX]
   ·cases h
theorem A9 {w':World} {aq:Ow} {φ:Nat->Nat->Path->Option (Nat×Nat)} {d:Bool} (c:∀{s:SV} {x:Value},Den w ω s x->Den w' aq (dv φ d s) x) {k k' i j:Nat} (b:aq.β k' (some (i,j))=ω.β k (some (i,j))) {s:SV} {x:Value} (h:cO w ω none k i j s x):cO w' aq none k' i j (dv φ d s) x:=by
 cases e:cZ s with
 |false=>rw[fC e]at h;rw[fC (TK e)];exact c h
 |true=>
  cases s with
  |il sz n g=>
   rcases h with h|⟨⟨q,cap,l,o,p,r⟩,h2⟩
   ·cases h
   ·exact .inr ⟨⟨q,cap,l,o,p,by rw[b];exact r⟩,λL t=>h2 L (by rw[<-b];exact t)⟩
  |_=>cases e
theorem Vo (hm:aU w ω M) {ks:List Nat} (o:ks.Nodup) (I:∀k∈ks,whole (ae M k)=true):aU w (jB ω ks) (dh 0 (ks.map λk=>iH (mK (ae M) ks) false (ae M k).b)) where
 cur:=(Bg _).symm
 own:=λ_ h=>h
 ez:=λb h=>hm.ez b (oE hm h).1
 dj:=λb h g=>g.elim (hm.dj b (oE hm h).1) λg=>g.2 h
 fS:=λb g=>g.elim (hm.fS b) λg=>hm.ez b g.1
 inj:=λq p L q' p' L' h1 h2 e=>by obtain⟨k,n,t⟩:=za h1;obtain⟨k',e3,e4⟩:=za h2;obtain⟨rfl,rfl⟩:=hm.inj _ _ _ _ _ _ t e4 e;have:=(yu o n).symm.trans (yu o e3);exact⟨aV this,rfl⟩
 low:=λq p L h=>by obtain⟨k,n,t⟩:=za h;exact hm.low _ _ _ t
 row:=λq p L h=>by
  obtain⟨k,n,t⟩:=za h;obtain⟨r,J,g2,B,c,T,K,O,R,S⟩:=hm.row _ _ _ t;obtain⟨r',U,V,W,X⟩:=Kb (φ:=mK (ae M) ks) (d:=false) J;have C:ae (dh 0 (ks.map λk=>iH (mK (ae M) ks) false (ae M k).b)) q=⟨0,0,none,iH (mK (ae M) ks) false (ae M k).b⟩:=by rw[kI,eX,n];rfl
  refine⟨r',by unfold rowAt;rw[C];exact U,V.trans g2,W.trans B,c,T,K,O,R,λi E j G=>?_⟩;obtain⟨x,Y,v⟩:=S i E j G;refine⟨x,Y,?_⟩;rw[X i j (by rw[B];exact E) (by rw[g2];exact G),C];have u:∀{s:SV} {x:Value},Den w ω s x->Den w (jB ω ks) (dv (mK (ae M) ks) false s) x:=λh=>BA (MC hm ks) (λ_=>yx hm ks) (MD hm ks) h;cases p with
  |some _=>exact u v
  |none=>have y:=KR (I k (fw n));rw[y]at v;refine A9 u ?_ v;show(match ks[q]? with|some k=>ω.β k _|none=>none)=_;rw[n]
 live:=λq l h=>by
  rw[kI,eX]at h;cases z:ks[q]? with
  |none=>rw[z]at h;cases h
  |some k=>
   rw[z]at h;have h:iH (mK (ae M) ks) false (ae M k).b= .cells l:=h;cases A:(ae M k).b with
   |dead=>rw[A]at h;cases h
   |row _ _ _=>rw[A]at h;cases h
   |cells l0=>obtain⟨L,Z⟩:=hm.live _ _ A;refine⟨L,?_⟩;show(match ks[q]? with|some k=>ω.β k none|none=>none)=_;rw[z];exact Z
 eE:=λq i j h=>by rw[kI]at h;split at h<;>cases h
/-! ### behind the call -/
def p6 (kp:Bool) (ks:List Nat) (m:Nat->bw) (k:Nat):Nat×Nat:=
 match cR ks k with
 |true=>(match pP kp (some (m k).b)with|true=>(m k).rs|false=>(m k).rs+1,(m k).ds+1)
 |false=>((m k).rs,(m k).ds)
def ry (kp:Bool) (ig ks:List Nat) (m:Nat->bw):Nat->Nat->Path->Option (Nat×Nat):=λq s p=>
 match ig[q]? with
 |some k=>match Nat.beq s 0 with|true=>some (k,match p with|none=>(p6 kp ks m k).1|some _=>(p6 kp ks m k).2)|false=>none
 |none=>none
def gD (kp:Bool) (ks:List Nat) (m:Nat->bw) (φ:Nat->Nat->Path->Option (Nat×Nat)):List Nat->List bp->bf
 |k::r,b::t=>(k,⟨(p6 kp ks m k).1,(p6 kp ks m k).2,none,iH φ true b⟩)::gD kp ks m φ r t
 |_,_=> []
theorem nz {kp:Bool} {ks:List Nat} {m:Nat->bw} {φ:Nat->Nat->Path->Option (Nat×Nat)} {M:Mem}:∀{ig:List Nat} {g:List bp} {k q:Nat} {b:bp},idx ig k=some q->g[q]? =some b->
 ae (gD kp ks m φ ig g++M) k=⟨(p6 kp ks m k).1,(p6 kp ks m k).2,none,iH φ true b⟩
 | [],_,_,_,_,h,_=>by cases h
 |x::r,[],_,_,_,_,h=>by simp at h
 |x::r,c::t,k,q,b,h,d=>by
  unfold idx at h;split at h
  ·next e=>
   obtain rfl:=a_ e;obtain rfl:=aV h;simp only[yU,bF]at d;subst d;exact dk
  ·next e=>
   split at h
   ·next j i=>
    obtain rfl:=aV h;simp only[List.getElem?_cons_succ]at d;rw[gD,pH,cF (beq_false e)];exact nz i d
   ·cases h
theorem qu {kp:Bool} {ks:List Nat} {m:Nat->bw} {φ:Nat->Nat->Path->Option (Nat×Nat)} {M:Mem}:∀{ig:List Nat} {d:List bp} {k:Nat},idx ig k=none->ae (gD kp ks m φ ig d++M) k=ae M k
 | [],_,_,_=>by simp[gD]
 |x::r,[],_,_=>by simp[gD]
 |x::r,c::t,k,h=>by
  have b:=we h;simp only[eG,not_or]at b;rw[gD,pH,cF (cA b.1)];refine qu ?_;cases e:idx r k with
  |none=>rfl
  |some q=>exact absurd (fw (lA e)) b.2
theorem tG {l:List Nat} {k q:Nat} (h:idx l k=some q):q<l.length:=(ik.1 (lA h)).1
def rz (ω aq:Ow) (ks ig:List Nat) (M':Mem):Ow:=
 let β:Nat->Path->Option Loc:=λk p=>match idx ig k with|some q=>aq.β q p|none=>ω.β k p
 ⟨λb=>aq.A b\/(ω.A b/\¬(jB ω ks).A b),ω.Z,β,dy M'⟩
theorem xp {aq:Ow} {ks ig:List Nat} {M':Mem} {k:Nat} {p:Path} {L:Loc} (h:(rz ω aq ks ig M').β k p=some L):(∃q,idx ig k=some q/\aq.β q p=some L)\/(idx ig k=none/\ω.β k p=some L):=by
 have h:(match idx ig k with|some q=>aq.β q p|none=>ω.β k p)=some L:=h;split at h
 ·next q b=>exact .inl ⟨q,b,h⟩
 ·next b=>exact .inr ⟨b,h⟩
structure g_ (kp:Bool) (w:World) (ω:Ow) (M:Mem) (ks ns:List Nat) (bH:List bp) (w':World) (aq:Ow):Prop where
 hm:aU w ω M
 nd:(ks++ns).Nodup
 wh:∀k∈ks,whole (ae M k)=true
 fr:∀k∈ns,cC (ae M) k=true
 len:bH.length=(ks++ns).length
 iv:Iv w (jB ω ks) w' aq
 mem:aU w' aq (dh 0 bH)
 keep:∀q k,ks[q]? =some k->pP kp (some (ae M k).b)=true->∀L,ω.β k none=some L->aq.β q none=some L
section
variable {kp:Bool} {ks ns:List Nat} {bH:List bp} {w':World} {aq:Ow}
theorem g_.apart (h:g_ kp w ω M ks ns bH w' aq) {k:Nat} {p:Path} {L:Loc} (d:idx (ks++ns) k=none) (e:ω.β k p=some L):¬(jB ω ks).A L.b:=by intro g;obtain⟨k',c,p',L',h1,h2⟩:=(oE h.hm g).2;obtain⟨rfl,_⟩:=h.hm.inj _ _ _ _ _ _ h1 e h2;exact we d (y_ _ c)
theorem g_.free (h:g_ kp w ω M ks ns bH w' aq) {k:Nat} {p:Path} {L:Loc} (d:idx (ks++ns) k=none) (c:ω.β k p=some L):¬aq.A L.b:=h.iv.free _ (h.hm.low _ _ _ c) (h.apart d c)
theorem g_.n4 (h:g_ kp w ω M ks ns bH w' aq) {q:Nat} (c:q<(ks++ns).length):∃b,bH[q]? =some b:=⟨_,eO (h.len▸c)⟩
theorem g_.new (h:g_ kp w ω M ks ns bH w' aq) {k:Nat} (b:k∈ns) (p:Path):ω.β k p=none:=(kC h.hm (h.fr k b)).2.2 p
variable (ig:List Nat) (vT:ig=ks++ns)
theorem g_.ext (h:g_ kp w ω M ks ns bH w' aq) (φ:Nat->Nat->Path->Option (Nat×Nat)):Ext w ω w' (rz ω aq ks (ks++ns) (gD kp ks (ae M) φ (ks++ns) bH++M)) where
 os:=h.iv.os
 tape:=h.iv.tape
 output:=h.iv.output
 same:=λb e n=>h.iv.same b e λd=>n (oE h.hm d).1
 free:=λb e n d=>by
  rcases d with d|d
  ·exact h.iv.free b e (λd=>n (oE h.hm d).1) d
  ·exact n d.1
 gx:=λb _ _ t=>t
 size:=h.iv.size
 zs:=λ_ h=>h
 mono:=λk=>by
  rw[h.hm.cur];show(dy M k).1<=(dy _ k).1/\(dy M k).2<=(dy _ k).2;unfold dy;cases g:idx (ks++ns) k with
  |none=>rw[qu g];exact⟨bc _,bc _⟩
  |some q=>
   obtain⟨b,e⟩:=h.n4 (tG g);rw[nz g e];simp only[p6];split
   ·split<;>simp
   ·simp
 mP:=λk p L o c=>by
  show(match idx (ks++ns) k with|some q=>aq.β q p|none=>ω.β k p)=some L;cases g:idx (ks++ns) k with
  |none=>exact o
  |some q=>
   obtain⟨b,e⟩:=h.n4 (tG g);have i:=lA g;rcases bR q ks.length with r|r
   ·rw[mD r]at i;have j:=gU.2 (fw i);rw[h.hm.cur]at c;have l:(rz ω aq ks (ks++ns) (gD kp ks (ae M) φ (ks++ns) bH++M)).cur=dy (gD kp ks (ae M) φ (ks++ns) bH++M):=rfl;rw[l]at c;cases p with
    |some u=>have c:(ae (gD kp ks (ae M) φ (ks++ns) bH++M) k).ds=(ae M k).ds:=c;rw[nz g e]at c;simp only[p6,j]at c;omega
    |none=>
     have c:(ae (gD kp ks (ae M) φ (ks++ns) bH++M) k).rs=(ae M k).rs:=c;rw[nz g e]at c;simp only[p6,j]at c;cases hs:pP kp (some (ae M k).b)with
     |false=>rw[hs]at c;simp only at c;omega
     |true=>exact h.keep q k i hs L o
   ·rw[qJ r]at i;rw[h.new (fw i)]at o;cases o
theorem g_.ref (h:g_ kp w ω M ks ns bH w' aq) (φ:Nat->Nat->Path->Option (Nat×Nat)):qX aq (rz ω aq ks (ks++ns) (gD kp ks (ae M) φ (ks++ns) bH++M)) (ry kp (ks++ns) ks (ae M)):=by
 intro q s p k' s' c;unfold ry at c;split at c
 ·next k g=>
  split at c
  ·next hs=>
   simp only[bF,bJ]at c;obtain⟨rfl,rfl⟩:=c;have d:=yu h.nd g;obtain⟨b,e⟩:=h.n4 (tG d);refine⟨?_,?_,?_⟩
   ·rw[a_ hs,h.mem.cur,Bg];cases p<;>rfl
   ·show _=st (dy _) k p;cases p with
    |none=>show _=(ae _ k).rs;rw[nz d e]
    |some _=>show _=(ae _ k).ds;rw[nz d e]
   ·show(match idx (ks++ns) k with|some q=>aq.β q p|none=>ω.β k p)=_;rw[d]
  ·cases c
 ·cases c
theorem g_.ro (h:g_ kp w ω M ks ns bH w' aq) (M':Mem):zS true w' aq (rz ω aq ks (ks++ns) M'):=by
 intro b q i g h1 h2;obtain rfl:=g rfl;have c:¬(jB ω ks).Z b:=λc=>h2 rfl (h.iv.gx b c);refine⟨?_,λ_ d=>c (.inl d)⟩;rintro (e|e)
 ·exact h1 e
 ·exact c (.inr e)
theorem g_.den (h:g_ kp w ω M ks ns bH w' aq) (φ:Nat->Nat->Path->Option (Nat×Nat)) {s:SV} {u:Value} (hd:Den w' aq s u):Den w' (rz ω aq ks (ks++ns) (gD kp ks (ae M) φ (ks++ns) bH++M)) (dv (ry kp (ks++ns) ks (ae M)) true s) u:=BA (d:=true) (h.ref φ) (λe=>by cases e) (h.ro _) hd
theorem g_.back (h:g_ kp w ω M ks ns bH w' aq):aU w' (rz ω aq ks (ks++ns) (gD kp ks (ae M) (ry kp (ks++ns) ks (ae M)) (ks++ns) bH++M)) (gD kp ks (ae M) (ry kp (ks++ns) ks (ae M)) (ks++ns) bH++M) where
 cur:=rfl
 own:=by
  rintro b ⟨k,p,L,h1,rfl⟩;rcases xp h1 with⟨q,g,g2⟩|⟨g,g2⟩
  ·exact .inl (h.mem.own _ ⟨q,p,L,g2,rfl⟩)
  ·exact .inr ⟨h.hm.own _ ⟨k,p,L,g2,rfl⟩,h.apart g g2⟩
 ez:=λb n=>n.elim (h.mem.ez b) λn=>gg (h.hm.ez b n.1) h.iv.size
 dj:=λb n v=>n.elim (λn=>h.mem.dj b n (h.iv.gx b (.inl v))) λn=>h.hm.dj b n.1 v
 fS:=λb v=>gg (h.hm.fS b v) h.iv.size
 inj:=λk p L k' p' L' h1 h2 e=>by
  rcases xp h1 with⟨q,g,g2⟩|⟨g,g2⟩<;>rcases xp h2 with⟨B,A,t⟩|⟨A,t⟩
  ·obtain⟨rfl,rfl⟩:=h.mem.inj _ _ _ _ _ _ g2 t e;exact⟨aV ((lA g).symm.trans (lA A)),rfl⟩
  ·exact absurd ((h.mem.own _) ⟨_,_,_,g2,e⟩) (h.free A t)
  ·exact absurd ((h.mem.own _) ⟨_,_,_,t,e.symm⟩) (h.free g g2)
  ·exact h.hm.inj _ _ _ _ _ _ g2 t e
 low:=λk p L h1=>by
  rcases xp h1 with⟨q,g,g2⟩|⟨g,g2⟩
  ·exact h.mem.low _ _ _ g2
  ·exact gg (h.hm.low _ _ _ g2) h.iv.size
 row:=λk p L h1=>by
  rcases xp h1 with⟨q,g,g2⟩|⟨g,g2⟩
  ·obtain⟨b,n⟩:=h.n4 (tG g);obtain⟨r,u,y,e3,c,T,e4,I,J,C⟩:=h.mem.row _ _ _ g2;have K:ae (dh 0 bH) q=⟨0,0,none,b⟩:=by rw[kI,n]
   unfold rowAt at u;rw[K]at u C;obtain⟨r',O,R,S,U⟩:=Kb (φ:=ry kp (ks++ns) ks (ae M)) (d:=true) u;refine⟨r',by unfold rowAt;rw[nz g n];exact O,R.trans y,S.trans e3,c,T,e4,I,J,λi o j E=>?_⟩;obtain⟨x,V,G⟩:=C i o j E;refine⟨x,V,?_⟩;rw[U i j (by rw[e3];exact o) (by rw[y];exact E),nz g n];cases p with
   |some _=>exact h.den _ G
   |none=>refine A9 (λhd=>h.den _ hd) ?_ G;show(match idx (ks++ns) k with|some q=>aq.β q _|none=>ω.β k _)=_;rw[g]
  ·obtain⟨r,u,y,e3,e4⟩:=h.hm.row _ _ _ g2;refine⟨r,by unfold rowAt;rw[qu g];exact u,y,e3,?_⟩;rw[qu g];refine nN.ext (h.ext _) ?_ ?_ ?_ e4
   ·rw[h.hm.cur];show(ae _ k).ds=(ae M k).ds;rw[qu g]
   ·intro q;show(match idx (ks++ns) k with|some B=>aq.β B q|none=>ω.β k q)=_;rw[g]
   ·exact h.iv.same _ (h.hm.low _ _ _ g2) (h.apart g g2)
 live:=λk l hl=>by
  show∃L,(match idx (ks++ns) k with|some q=>aq.β q none|none=>ω.β k none)=some L;cases o:idx (ks++ns) k with
  |none=>rw[qu o]at hl;exact h.hm.live _ _ hl
  |some q=>
   obtain⟨b,n⟩:=h.n4 (tG o);rw[nz o n]at hl;have hl:iH _ true b= .cells l:=hl;cases b with
   |dead=>cases hl
   |row _ _ _=>cases hl
   |cells W=>exact h.mem.live q W (by rw[kI,n])
 eE:=λk i j z=>by
  show(match idx (ks++ns) k with|some q=>aq.β q _|none=>ω.β k _)=none;cases o:idx (ks++ns) k with
  |none=>rw[qu o]at z;exact h.hm.eE _ _ _ z
  |some q=>obtain⟨b,n⟩:=h.n4 (tG o);rw[nz o n]at z;cases z
end
end
end Go.Sy
namespace Go.Sy
open Go.RowKit
def fy {b:Type} (n:Nat) (k:Nat->b):b:=match n with|0=>k 0|m+1=>k (m+1)
theorem j4 {b:Type} (n:Nat) (k:Nat->b):fy n k=k n:=by cases n<;>rfl
def fP {b:Type} (p:Path) (k:Path->b):b:=match p with|none=>k none|some (i,j)=>k (some (i,j))
theorem QY {b:Type} (p:Path) (k:Path->b):fP p k=k p:=by cases p with|none=>rfl|some c=>cases c;rfl
def fV {c:Type} (x:Value) (k:Value->c):c:=
 match x with
 | .int a z=>k (.int a z)
 | .bool b=>k (.bool b)
 |x=>k x
theorem abm {b:Type} (x:Value) (k:Value->b):fV x k=k x:=by cases x<;>rfl
def xF {b:Type} (s:SV) (k:SV->b):b:=
 match s with
 | .ptr q st p i j=>fy q λq=>fy st λst=>fP p λp=>k (.ptr q st p i j)
 | .pe q st p i j l z=>fy q λq=>fy st λst=>fP p λp=>k (.pe q st p i j l z)
 | .aS q st p e n=>fy q λq=>fy st λst=>fP p λp=>k (.aS q st p e n)
 | .sa q st p i j n=>fy q λq=>fy st λst=>fP p λp=>k (.sa q st p i j n)
 | .v x=>fV x λx=>k (.v x)
 | .pt q n f=>k (.pt q n f)
 | .ag n f=>k (.ag n f)
 |s=>k s
theorem CC {b:Type} (s:SV) (k:SV->b):xF s k=k s:=by cases s<;>simp only[xF,j4,QY,abm]
def zV {b:Type}:List SV->(List SV->b)->b
 | [],k=>k []
 |s::r,k=>xF s λs=>zV r λr=>k (s::r)
theorem F7 {b:Type}:∀(l:List SV) (k:List SV->b),zV l k=k l
 | [],_=>rfl
 |s::r,k=>by simp only[zV,CC,F7 r]
def Dz {c:Type} (b:bp) (k:bp->c):c:=
 match b with
 | .dead=>k .dead
 | .cells l=>zV l λl=>k (.cells l)
 | .row sz n f=>fy sz λsz=>k (.row sz n f)
theorem MB {c:Type} (b:bp) (k:bp->c):Dz b k=k b:=by cases b<;>simp only[Dz,j4,F7]
def C_ {c:Type}:List bp->(List bp->c)->c
 | [],k=>k []
 |b::r,k=>Dz b λb=>C_ r λr=>k (b::r)
theorem KU {b:Type}:∀(l:List bp) (k:List bp->b),C_ l k=k l
 | [],_=>rfl
 |s::r,k=>by simp only[C_,MB,KU r]
def tF {c:Type}:List Nat->(List Nat->c)->c
 | [],k=>k []
 |b::r,k=>fy b λb=>tF r λr=>k (b::r)
theorem Ff {b:Type}:∀(l:List Nat) (k:List Nat->b),tF l k=k l
 | [],_=>rfl
 |s::r,k=>by simp only[tF,j4,Ff r]
def sY {c:Type}:List (List Nat)->(List (List Nat)->c)->c
 | [],k=>k []
 |b::r,k=>tF b λb=>sY r λr=>k (b::r)
theorem yi {b:Type}:∀(l:List (List Nat)) (k:List (List Nat)->b),sY l k=k l
 | [],_=>rfl
 |s::r,k=>by simp only[sY,Ff,yi r]
def Ee {c:Type}:List (Nat×SV)->(List (Nat×SV)->c)->c
 | [],k=>k []
 |p::r,k=>fy p.1 λa=>xF p.2 λb=>Ee r λr=>k ((a,b)::r)
theorem Ox {b:Type}:∀(l:List (Nat×SV)) (k:List (Nat×SV)->b),Ee l k=k l
 | [],_=>rfl
 |s::r,k=>by simp only[Ee,j4,CC,Ox r]
def zB (m:Nat->bw) (ks:List Nat):List Bool->List SV->List SV
 |_,[]=> []
 | [],s::r=>ro true 12 m ks s::zB m ks [] r
 |b::t,s::r=>(match b with|true=>dv (mK m ks) false s|false=>ro true 12 m ks s)::zB m ks t r
def qH:List Bool->List SV->List Nat
 |true::t,s::r=>oI s++qH t r
 |false::t,_::r=>qH t r
 |_,_=> []
def OA (n:Nat) (m:Nat->bw):List SV->Option (Prop×SV×bf)
 | [.ptr k s p i j]=>match cG m k s p with|true=>some (True,.ptr k s p i (j+n),[])|false=>none
 |_=>none
def BC (Γ:Table) (m:Nat->bw) (nx id:Nat) (as:List SV):Option (Prop×SV×bf):=
 match Γ id with
 |some c=>
  match c.pj with
  |some n=>OA n m as
  |none=>
  let ks:=reach m 64 (qH c.ws as) []
  match (zV (zB m ks c.ws as) λl=>C_ (ks.map λk=>iH (mK m ks) false (m k).b) λb=>c.g l b)with
  |some (pre,res,bH)=>
   let ns:=(List.range (bH.length -ks.length)).map λq=>nx+q
   match nodupB (ks++ns),ks.all λk=>whole (m k),ns.all λk=>cC m k,Nat.ble ks.length bH.length with
   |true,true,true,true=>some (pre,dv (ry (nM res) (ks++ns) ks m) true res,gD (nM res) ks m (ry (nM res) (ks++ns) ks m) (ks++ns) bH)
   |_,_,_,_=>none
  |none=>none
 |none=>none
def wi (m:Nat->bw) (r:Nat):List Bool->List SV->Option (List SV×bf)
 |b::t,s::l=>
  match b,yY m r s with
  |true,some x=>some (x.1::l,x.2)
  |_,_=>match wi m r t l with|some x=>some (s::x.1,x.2)|none=>none
 |_,_=>none
def B0 (Γ:Table) (m:Nat->bw) (nx id:Nat) (as:List SV):Option (Prop×SV×bf):=
 match Γ id with
 |some c=>
  match wi m (nx+60) c.ws as with
  |some x=>match BC Γ (ov x.2 m) nx id x.1 with|some y=>some (y.1,y.2.1,y.2.2++x.2)|none=>none
  |none=>BC Γ m nx id as
 |none=>none
def KT (ρ:Operand->SV) (f:Operand) (args:List Operand):Option (Nat×List SV):=
 match ρ f with
 | .fn id n b=>some (id,args.map ρ++(List.range n).map b)
 | .bm id s=>some (id,s::args.map ρ)
 |_=>none
def CB (Γ:Table) (ρ:Operand->SV) (m:Nat->bw) (nx:Nat) (f:Operand) (args:List Operand):Option (Prop×SV×bf):=
 match KT ρ f args with
 |some (id,as)=>B0 Γ m nx id as
 |none=>none
section
variable {P:Program} {w:World} {ω:Ow} {ρ:Operand->SV} {M:Mem} {a:Act} {Gl:Nat->SV} {Γ:Table}
def BB (P:Program) (Γ:Table) (ρ:Operand->SV) (m:Nat->bw) (nx:Nat) (r:Operand) (name:String) (args:List Operand):Option (Prop×SV×bf):=
 match ρ r with
 | .ic t s=>match yZ P t name with|some id=>B0 Γ m nx id (s::args.map ρ)|none=>none
 |_=>none
theorem EX (hm:aU w ω M) (ks:List Nat):∀{ws:List Bool} {ss:List SV} {us:List Value},bY w ω ss us->bY w (jB ω ks) (zB (ae M) ks ws ss) us
 |_,[],[],_=>by simp[zB,bY]
 | [],s::r,u::t,⟨h1,h2⟩=>⟨(mB (aq:=jB ω ks) hm (λb c=>(oE hm c).2) (yx hm ks) (qq:=true) (λe=>by cases e) 12 h1).up,EX hm ks h2⟩
 |b::d,s::r,u::t,⟨h1,h2⟩=>by
  refine⟨?_,EX hm ks h2⟩;cases b with
  |true=>exact BA (MC hm ks) (λ_=>yx hm ks) (MD hm ks) h1
  |false=>exact(mB (aq:=jB ω ks) hm (λb c=>(oE hm c).2) (yx hm ks) (qq:=true) (λe=>by cases e) 12 h1).up
 |_,[],_::_,h=>h.elim
 | [],_::_,[],h=>h.elim
 |_::_,_::_,[],h=>h.elim
def QZ (ω:Ow) (κ:List Nat) (w w':World):Prop:=∀b,b<w.heap.size->(∀k∈κ,∀p L,ω.β k p=some L->L.b≠b)->w'.heap[b]? =w.heap[b]?
def s8 (P:Program) (w:World) (ω:Ow) (M:Mem) (id:Nat) (vs:Array Value) (s:SV) (u:bf):Prop:=
 Calls P id vs w λe w'=>∃v aq,e= .returned v/\bz w ω M w' aq (u++M)/\Den w' aq s v/\(jd (ae M) u=true->iN w ω w' aq (λk=>k∈u.map (·.1)))/\QZ ω (u.map (·.1)) w w'
theorem Up {kp d:Bool} {φ:Nat->Nat->Path->Option (Nat×Nat)} {b:bp}:pP kp (some (iH φ d b))=pP kp (some b):=by cases b<;>rfl
theorem Fj {kp:Bool} {ks:List Nat} {m:Nat->bw} {φ:Nat->Nat->Path->Option (Nat×Nat)}:∀{ig:List Nat} {c:List bp},c.length=ig.length->(gD kp ks m φ ig c).map (·.1)=ig
 | [],c,_=>by simp[gD]
 |k::r,[],h=>by simp at h
 |k::r,b::t,h=>by simp[gD,Fj (by simpa using h)]
theorem g_.abl {kp:Bool} {ks ns:List Nat} {bH:List bp} {w':World} {aq:Ow} (h:g_ kp w ω M ks ns bH w' aq) (φ:Nat->Nat->Path->Option (Nat×Nat)) (t:jd (ae M) (gD kp ks (ae M) φ (ks++ns) bH)=true):
 iN w ω w' (rz ω aq ks (ks++ns) (gD kp ks (ae M) φ (ks++ns) bH++M)) (λk=>k∈(gD kp ks (ae M) φ (ks++ns) bH).map (·.1)):=by
 have c:=Fj (kp:=kp) (ks:=ks) (m:=ae M) (φ:=φ) h.len;have i:∀k∈ks++ns,cC (ae M) k=true:=by intro k g;rw[<-c,sZ]at g;obtain⟨p,hp,rfl⟩:=g;exact cY.1 t p hp
 have l:ks= []:=by
  cases ks with
  |nil=>rfl
  |cons k r=>exfalso;exact MA (h.wh k (by simp)) ((kC h.hm (i k (by simp))).1)
 subst l;have d:∀b,¬(jB ω []).A b:=by rintro b ⟨q,p,L,h1,_⟩;simp at h1
 rw[c];refine⟨⟨h.iv.os,h.iv.tape,h.iv.output,h.iv.size,λb j=>h.iv.same b j (d b)⟩,λb j=> .inr ⟨j,d b⟩,rfl,λk p g=>?_,λk p L g u=>?_,?_⟩
 ·show(match idx ([]++ns) k with|some q=>aq.β q p|none=>ω.β k p)=_;cases e:idx ([]++ns) k with
  |none=>rfl
  |some q=>exact absurd (fw (lA e)) g
 ·rcases xp u with⟨q,_,v⟩|⟨e,_⟩
  ·rcases bR L.b w.heap.size with n|o
   ·exact absurd (h.mem.own _ ⟨q,p,L,v,rfl⟩) (h.iv.free _ n (d _))
   ·exact o
  ·exact absurd g (we e)
 ·rw[h.hm.cur];show dy _=dy M;funext k;unfold dy;cases e:idx ([]++ns) k with
  |none=>rw[qu e]
  |some q=>obtain⟨b,j⟩:=h.n4 (tG e);rw[nz e j];rfl
theorem Ka (R:Sound P Gl Γ) (U:∀g,Den w ω.bare (Gl g) (.pointer (some ⟨g,0,none⟩))) (hm:aU w ω M) {nx id:Nat} {as:List SV} {pr:Prop} {s:SV} {u:bf} (d:BC Γ (ae M) nx id as=some (pr,s,u)) (hp:pr)
 {vs:Array Value} (hd:bY w ω as vs.toList):s8 P w ω M id vs s u/\∃c,Γ id=some c:=by
 unfold BC at d;simp only[F7,KU]at d;split at d
 ·next c A=>
  split at d
  ·next n V=>
   refine⟨?_,c,A⟩;unfold OA at d;split at d
   ·next k s0 p i j=>
    split at d
    ·next l=>
     simp only[bF,bJ]at d;obtain⟨rfl,rfl,rfl⟩:=d
     match B:vs.toList,hd with
     | [u],⟨h1,_⟩=>
       obtain⟨h2,L,C,E,rfl⟩:=gr hm l h1;obtain rfl:vs= #[.pointer (some ⟨L.b,L.o+i*L.sz+j,none⟩)]:=by rw[<-GY,B]
       refine(R.pj id c n A V _ w).mono ?_;rintro e w' ⟨rfl,r⟩;have W:=bz.more hm r;have x:Den w' ω (.ptr k s0 p i (j+n)) (.pointer (some ⟨L.b,L.o+i*L.sz+(j+n),none⟩)):= .inr ⟨h2,L,C,E,rfl⟩;rw[jx];refine⟨_,ω,rfl,W,by rw[i_];exact x,λ_=>⟨r,λ_ h=>h,rfl,λ_ _ _=>rfl,λk p L l=>by simp at l,rfl⟩,λb t _=>r.2.2.2.2 b t⟩
    ·cases d
   ·cases d
  try simp only at d
  split at d
  ·next pre res bH X=>
   split at d
   ·next h1 h2 C E=>
    simp only[bF,bJ]at d;obtain⟨rfl,rfl,rfl⟩:=d;refine⟨?_,c,A⟩;have y:=vX h1;have z:∀k∈reach (ae M) 64 (qH c.ws as) [],whole (ae M k)=true:=λk l=>cY.1 h2 k l;have G:∀k∈(List.range (bH.length -(reach (ae M) 64 (qH c.ws as) []).length)).map (λq=>nx+q),cC (ae M) k=true:=λk l=>cY.1 C k l;have hlen:bH.length=(reach (ae M) 64 (qH c.ws as) []++(List.range (bH.length -(reach (ae M) 64 (qH c.ws as) []).length)).map (λq=>nx+q)).length:=by have:=bP E;simp;omega
    generalize Y:reach (ae M) 64 (qH c.ws as) []=ks at*
    generalize Z:(List.range (bH.length -ks.length)).map (λq=>nx+q)=ns at*
    have I:=R.fn id c _ _ _ _ _ A X hp w (jB ω ks) vs (λg=>Den.ext (o:=ω.bare) (yx hm ks) (U g)) (Vo hm ((List.nodup_append.1 y).1) z) (EX hm ks hd);refine I.mono ?_;rintro e w' ⟨v,aq,rfl,S,J,hr,l⟩;have t:g_ (nM res) w ω M ks ns bH w' aq:=⟨hm,y,z,G,hlen,S,J,λq k T hs L hL=>l q (by rw[eX,T];exact Up.trans hs) L (by
     show(match ks[q]? with|some k=>ω.β k none|none=>none)=_;rw[T];exact hL)⟩
    exact⟨v,_,rfl,⟨t.ext _,t.back⟩,t.den _ hr,λhf=>t.abl _ hf,λb K l=>S.same b K λhA=>by obtain⟨_,k,O,p,L,g1,g2⟩:=oE hm hA;exact l k (by rw[Fj t.len];exact y_ _ O) p L g1 g2⟩
   ·cases d
  ·cases d
 ·cases d
theorem Jl (hm:aU w ω M) {r:Nat}:∀{ws:List Bool} {l l':List SV} {u:bf} {xs:List Value},bY w ω l xs->wi (ae M) r ws l=some (l',u)->∃aq,bz w ω M w aq (u++M)/\bY w aq l' xs/\jd (ae M) u=false/\(∀k' p L,aq.β k' p=some L->ω.β k' p=some L\/∃k∈u.map (·.1),∃p0,ω.β k p0=some L)
 |b::t,s::l,l',u,[],hd,c=>hd.elim
 |b::t,s::l,l',u,x::xs,⟨h1,h2⟩,c=>by
  unfold wi at c;split at c
  ·next y d=>
   simp only[bF,bJ]at c;obtain⟨rfl,rfl⟩:=c;obtain⟨aq,s1,d1,e,b1⟩:=Xc hm h1 d;exact⟨aq,s1,⟨d1,h2.ext s1.ext⟩,e,b1⟩
  ·split at c
   ·next y d=>
    simp only[bF,bJ]at c;obtain⟨rfl,rfl⟩:=c;obtain⟨aq,s1,d1,e,b1⟩:=Jl hm h2 d;exact⟨aq,s1,⟨h1.ext s1.ext,d1⟩,e,b1⟩
   ·cases c
 | [],_,_,_,_,_,c=>by unfold wi at c;cases c
 |_::_,[],_,_,_,_,c=>by unfold wi at c;cases c
theorem Fk (q:Sound P Gl Γ) (r:∀g,Den w ω.bare (Gl g) (.pointer (some ⟨g,0,none⟩))) (hm:aU w ω M) {nx id:Nat} {as:List SV} {pr:Prop} {s:SV} {u:bf} (d:B0 Γ (ae M) nx id as=some (pr,s,u)) (hp:pr)
 {vs:Array Value} (hd:bY w ω as vs.toList):s8 P w ω M id vs s u/\∃c,Γ id=some c:=by
 unfold B0 at d;split at d
 ·next c J=>
  split at d
  ·next x B=>
   split at d
   ·next y t=>
    simp only[bF,bJ]at d;obtain⟨rfl,rfl,rfl⟩:=d;obtain⟨bZ,s1,d1,z,b1⟩:=Jl hm hd B;rw[lH]at t;obtain⟨h1,h2⟩:=Ka q (λg=>Den.ext (o:=ω.bare) s1.ext.bare (r g)) s1.mem t hp d1;refine⟨?_,h2⟩;unfold s8 at h1⊢;refine h1.mono ?_;rintro e w' ⟨v,aq,rfl,C,E,_,G⟩;refine⟨v,aq,rfl,?_,E,λi=>?_,λb j A=>?_⟩
    ·rw[mC];exact s1.trans C
    ·have i:jd (ae M) (y.2.2++x.2)=true:=i;unfold jd at i z;rw[y',z,qI]at i;cases i
    ·refine G b j λk l p L I e=>?_;rcases b1 k p L I with h|⟨k0,n,p0,h⟩
     ·exact A k (by rw[GZ];exact y_ _ l) p L h e
     ·exact A k0 (by rw[GZ];exact List.mem_append_right _ n) p0 L h e
   ·cases d
  ·exact Ka q r hm d hp hd
 ·cases d
theorem G0 (h:∀x,Den w ω (ρ x) (a.eval x)) (args:List Operand):bY w ω (args.map ρ) (args.map a.eval):=by
 induction args with
 |nil=>trivial
 |cons x r b=>exact⟨h x,b⟩
theorem YW {n:Nat} {b:Nat->SV} {d:Array Value} (e:d.size=n) (g:∀j,j<n->∃x,d[j]? =some x/\Den w ω (b j) x):bY w ω ((List.range n).map b) d.toList:=by
 refine bY.mk (by simp[e]) λi h=>?_;have c:i<n:=by simpa using h
 obtain⟨x,h1,h2⟩:=g i c;refine⟨x,by simpa using h1,?_⟩;rw[cD,eX,nD c];exact h2
def zz (P:Program) (w:World) (ω:Ow) (M:Mem) (a:Act) (o:Oper) (s:SV) (u:bf):Prop:=
 ∃id vs,(execOp a.eval o).run P w= .ok (.enter id vs) w/\s8 P w ω M id vs s u
theorem KV {o:Oper} {f:Operand} {args:Array Operand} {c:Array TypeId} (ho:o.op= .call {callee:= .value f,args:=args,argTypes:=c}) {id:Nat} {fs b:Array Value} (d:a.eval f= .func (.func id) fs b)
 (e:∀(l:Array Value) (w:World),(callFunc id l).run P w= .ok (.enter id l) w):(execOp a.eval o).run P w= .ok (.enter id (fs++args.map a.eval++b)) w:=by
 simp[execOp,ho,resolve,d,Deferred.ofValue,invoke,e,Result.andThen]
theorem FX (i:Sound P Gl Γ) (r:∀g,Den w ω.bare (Gl g) (.pointer (some ⟨g,0,none⟩))) (h:Cx P w ω ρ M a) {o:Oper} {f:Operand} {args:Array Operand} {v:Array TypeId} (ho:o.op= .call {callee:= .value f,args:=args,argTypes:=v})
 {nx:Nat} {pr:Prop} {s:SV} {u:bf} (e:CB Γ ρ (ae M) nx f args.toList=some (pr,s,u)) (hp:pr):zz P w ω M a o s u:=by
 unfold CB at e;split at e
 ·next id as d=>
  have j:=h.val f;unfold KT at d;split at d
  ·next k n t hs=>
   simp only[bF,bJ]at d;obtain⟨rfl,rfl⟩:=d;rw[hs]at j;obtain⟨y,l,p,q⟩:=j;have b:=(G0 h.val args.toList).append (YW p q);obtain⟨h1,c,h2⟩:=Fk (vs:= #[]++args.map a.eval++y) i r h.mem e hp (by simpa using b);exact⟨_,_,KV ho l (i.call _ _ h2),h1⟩
  ·next k s' hs=>
   simp only[bF,bJ]at d;obtain⟨rfl,rfl⟩:=d;rw[hs]at j;obtain⟨x,l,z⟩:=j;have b:bY w ω (s'::args.toList.map ρ) (x::args.toList.map a.eval):=⟨z,G0 h.val args.toList⟩;obtain⟨h1,c,h2⟩:=Fk (vs:= #[x]++args.map a.eval++ #[]) i r h.mem e hp (by simpa using b);exact⟨_,_,KV ho l (i.call _ _ h2),h1⟩
  ·cases d
 ·cases e
theorem TJ {o:Oper} {r:Operand} {name:String} {args:Array Operand} {p:Array TypeId} (ho:o.op= .call {callee:= .invoke r name,args:=args,argTypes:=p}) {t:TypeId} {x:Value} (g:a.eval r= .iface t x) {id:Nat}
 (hm:yZ P t name=some id) (h:∀(l:Array Value) (w:World),(callFunc id l).run P w= .ok (.enter id l) w):(execOp a.eval o).run P w= .ok (.enter id (#[x]++args.map a.eval)) w:=by
 unfold yZ at hm;split at hm
 ·next i d j hd=>
  split at hm
  ·next m n=>
   split at hm
   ·next f e hp b=>
    obtain rfl:=aV hm;obtain⟨k,c⟩:∃k,P.types.size+Made.depth=k+1:=⟨P.types.size+99,by show P.types.size+100=_;omega⟩;have e0:(execOp a.eval o).run P w=((callMethod (.iface t x) name (args.map a.eval)).run P w):=by simp[execOp,ho,resolve,g,invoke,Array.getElem?_append,Result.andThen];rw[Q0 (by simp)]
    rw[e0];simp[callMethod,c,method,typeInfo,j,n,hp,follow,b,receiverAt,underlying,hd,Place.get,h,Result.andThen]
   ·next f e hp b=>
    obtain rfl:=aV hm;obtain⟨k,c⟩:∃k,P.types.size+Made.depth=k+1:=⟨P.types.size+99,by show P.types.size+100=_;omega⟩;have e0:(execOp a.eval o).run P w=((callMethod (.iface t x) name (args.map a.eval)).run P w):=by simp[execOp,ho,resolve,g,invoke,Array.getElem?_append,Result.andThen];rw[Q0 (by simp)]
    rw[e0];simp[callMethod,c,method,typeInfo,j,n,hp,follow,b,receiverAt,underlying,hd,Place.get,h,Result.andThen]
   ·cases hm
  ·cases hm
 ·cases hm
theorem EW (e:Sound P Gl Γ) (j:∀g,Den w ω.bare (Gl g) (.pointer (some ⟨g,0,none⟩))) (h:Cx P w ω ρ M a) {o:Oper} {r:Operand} {name:String} {args:Array Operand} {k:Array TypeId} (ho:o.op= .call {callee:= .invoke r name,args:=args,argTypes:=k})
 {nx:Nat} {pr:Prop} {s:SV} {u:bf} (d:BB P Γ ρ (ae M) nx r name args.toList=some (pr,s,u)) (hp:pr):zz P w ω M a o s u:=by
 unfold BB at d;split at d
 ·next t s' hs=>
  split at d
  ·next id hm=>
   have i:=h.val r;rw[hs]at i;obtain⟨x,ex,l⟩:=i;have b:bY w ω (s'::args.toList.map ρ) (x::args.toList.map a.eval):=⟨l,G0 h.val args.toList⟩;obtain⟨h1,c,h2⟩:=Fk (vs:= #[x]++args.map a.eval) e j h.mem d hp (by simpa using b);exact⟨_,_,TJ ho ex hm (e.call _ _ h2),h1⟩
  ·cases d
 ·cases d
end
end Go.Sy
namespace Go.Sy
open Go.RowKit
def Dy (e:bw) (k:bw->Prop):Prop:=
 match e with
 |⟨rs,ds,hl,b⟩=>fy rs λrs=>fy ds λds=>fP hl λhl=>Dz b λb=>k ⟨rs,ds,hl,b⟩
theorem Mx (e:bw) (k:bw->Prop):Dy e k=k e:=by cases e;simp only[Dy,j4,QY,MB]
def xl:List Nat->Mem->(Mem->Prop)->Prop
 |_,[],k=>k []
 |seen,p::r,k=>match cR seen p.1 with|true=>xl seen r k|false=>fy p.1 λq=>Dy p.2 λe=>xl (q::seen) r λr=>k ((q,e)::r)
theorem Bd:∀(M:Mem) (seen:List Nat) (k:Mem->Prop),xl seen M k->∃M',k M'/\∀q,cR seen q=false->ae M' q=ae M q
 | [],_,k,h=>⟨[],h,λ_ _=>rfl⟩
 |p::r,seen,k,h=>by
  unfold xl at h;split at h
  ·next hs=>
   obtain⟨M',h1,h2⟩:=Bd r seen k h;refine⟨M',h1,λq c=>?_⟩;rw[h2 q c];have d:p.1≠q:=λe=>by rw[e,c]at hs;cases hs
   obtain⟨a,b⟩:=p;exact(cF d).symm
  ·next hs=>
   rw[j4,Mx]at h;obtain⟨M',h1,h2⟩:=Bd r _ _ h;refine⟨_,h1,λq c=>?_⟩;obtain⟨a,b⟩:=p;by_cases e:a=q
   ·subst e;rw[dk,dk]
   ·rw[cF e,cF e];refine h2 q ?_;have:Nat.beq a q=false:=by
     cases g:Nat.beq a q with
     |false=>rfl
     |true=>exact absurd (a_ g) e
    simp only[cR,this];exact c
section
variable {w:World} {ω:Ow}
theorem aU.congr {M M':Mem} (hm:aU w ω M) (h:∀k,ae M' k=ae M k):aU w ω M':=
 ⟨by rw[hm.cur];funext k;simp only[dy,h],hm.own,hm.ez,hm.dj,hm.fS,hm.inj,hm.low,λk p L d=>by obtain⟨r,c,g2,e,g⟩:=hm.row k p L d;exact⟨r,by unfold rowAt at c⊢;rw[h];exact c,g2,e,by rw[h];exact g⟩,λk l b=>hm.live k l (by rw[<-h];exact b),λk i j b=>hm.eE k i j (by rw[<-h];exact b)⟩
end
end Go.Sy
namespace Go.Sy
open Go.RowKit
def vB:SV->Bool
 | .v _=>true
 |_=>false
def tO (m:Nat->bw) (k sz:Nat) (f:Nat->Nat->SV):SV->SV
 | .aS k' st none e n=>match Nat.beq k' k,cG m k' st none with|true,true=> .sl false sz n λi j=>f (e+i) j|_,_=> .aS k' st none e n
 |s=>s
section
variable {P:Program} {w:World} {ω:Ow} {ρ:Operand->SV} {M:Mem} {a:Act}
theorem bz.abu {w:World} {o:Ow} {M:Mem} (hm:aU w o M) (k:Nat):∃o',bz w o M w o' (Sy.kill M k)/\(∀k' p,k'≠k->o'.β k' p=o.β k' p)/\(∀p,o'.β k p=none)/\(∀b,o'.A b->∃k' p L,o'.β k' p=some L/\L.b=b)/\o'.Z=o.Z:=by
 refine⟨o.re (λk' p=>if k'=k then none else o.β k' p) (Sy.kill M k),?_,λk' p h=>if_neg h,λp=>if_pos rfl,λ_ h=>h,rfl⟩;have n:∀{k' p L},(if k'=k then none else o.β k' p)=some L->k'≠k/\o.β k' p=some L:=by
  intro k' p L h;split at h
  ·cases h
  ·next c=>exact⟨c,h⟩
 have d:Ext w o w (o.re (λk' p=>if k'=k then none else o.β k' p) (Sy.kill M k)):=by
  refine CJ hm (λk' p L h=>⟨k',p,L,(n h).2,rfl⟩) (λk'=>?_) (λk' p L h e=>?_)
  ·by_cases g:k=k'
   ·subst g;rw[ql];exact⟨oC _,oC _⟩
   ·rw[iA g];exact⟨bc _,bc _⟩
  ·show(if k'=k then none else o.β k' p)=some L;rw[if_neg]
   ·exact h
   ·intro g;subst g;cases p<;>simp[st,dy,ql]at e
 refine bz.re hm (λk p=>(k,p)) (λk' p L h=>⟨L,(n h).2,rfl⟩) (λ_ _ _ _ _ _ _ _ e=>by simpa using e) d (λk' p L h=>?_) (λk' l h=>?_) (λk' i j h=>?_)
 ·obtain⟨c,h⟩:=n h;obtain⟨r,t,u,e3,e4⟩:=hm.row _ _ _ h;refine⟨r,by unfold rowAt;rw[iA (cA c)];exact t,u,e3,?_⟩;rw[iA (cA c)];refine e4.ext d ?_ (λq=>if_neg c) rfl;show(dy _ k').2=_;rw[hm.cur];simp only[dy,iA (cA c)]
 ·have c:k≠k':=by intro e;subst e;rw[ql]at h;cases h
  rw[iA c]at h;obtain⟨L,v⟩:=hm.live _ _ h;exact⟨L,(if_neg (cA c)).trans v⟩
 ·by_cases g:k=k'
  ·subst g;exact if_pos rfl
  ·rw[iA g]at h;exact(if_neg (cA g)).trans (hm.eE _ _ _ h)
theorem Y3 (hm:aU w ω M) {k sz nn:Nat} {f:Nat->Nat->SV} (A:(ae M k).b= .row sz nn f) (B:∀i j,vB (f i j)=true):
 ∃aq,bz w ω M w aq (Sy.kill M k)/\∀s x,Den w ω s x->Den w aq (tO (ae M) k sz f s) x:=by
 obtain⟨aq,s1,b1,b2,C,E⟩:=bz.abu hm k;refine⟨aq,s1,λs x hd=>?_⟩;unfold tO;split
 ·next k' st e n=>
  split
  ·next h1 h2=>
   obtain rfl:=a_ h1;have e0:=iZ hm h2;rcases hd with hd|⟨_,q,cap,G,I,W,t⟩
   ·omega
   ·refine⟨q,cap,G,I,by omega,?_⟩;rcases t with t|⟨L,p,J,X,Y⟩
    ·left;omega
    ·right;refine⟨_,J,λi Z j K=>?_⟩;obtain⟨r,r1,r2,r3,c,T,c1,c2,c3,O⟩:=hm.row _ _ _ p;have r1:(bp.row sz nn f).row? =some r:=by have r1:fD (ae M k').b none=some r:=r1;rw[A]at r1;exact r1
     obtain rfl:=aV r1;have r2:sz=L.sz:=r2;subst r2;obtain⟨y,R,h⟩:=O (e+i) (by omega) j K;have h:cO w ω (ae M k').hl k' (e+i) j (f (e+i) j) y:=h;have d:=B (e+i) j;refine⟨y,?_,⟨λS=>?_,λ_ u=>?_⟩,?_⟩
     ·have U:L.o+e*L.sz+(i*L.sz+j)=L.o+(e+i)*L.sz+j:=by rw[iD];omega
      have V:(⟨L.b,L.o+e*L.sz,none⟩:Addr).add (i*L.sz+j)=⟨L.b,L.o+(e+i)*L.sz+j,none⟩:=by rw[<-U];simp[Addr.add]
      rw[V];unfold World.cell?;simp[c1,R]
     ·obtain⟨k2,p2,L2,l,g2⟩:=C _ S;have g:k2≠k':=λz=>by subst z;rw[b2]at l;cases l
      rw[b1 _ _ g]at l;exact g (hm.inj _ _ _ _ _ _ l p g2).1
     ·rw[E]at u;exact hm.dj _ (hm.own _ ⟨_,_,_,p,rfl⟩) u
     ·show Den w aq.bare (f (e+i) j) y;generalize f (e+i) j=s at h d;cases s with
      |v z=>exact h
      |_=>cases d
  ·exact Den.ext s1.ext hd
 ·exact Den.ext s1.ext hd
def yw (P:Program) (m:Nat->bw) (nx:Nat) (T:TypeId) (len:Nat) (parts:List (Nat×SV)):Option (Prop×SV×bf):=
 match parts with
 | [(0,.aS k st none e n)]=>
   match cG m k st none,qK (m k).b with
   |true,some (sz,nn,f)=>
    match BD P (ov (lL m k) m) nx T len [(0,tO m k sz f (.aS k st none e n))]with
    |some y=>some ((∀i j,vB (f i j)=true)/\y.1,y.2.1,y.2.2++lL m k)
    |none=>none
   |_,_=>none
 |_=>Fo P m nx T len parts
theorem Un (h:Cx P w ω ρ M a) {o:Oper} {T:TypeId} {len:Nat} {parts:Array (Nat×Operand)} {nx:Nat} {pr:Prop} {s:SV} {u:bf} (ho:o.op= .buildSlice T len parts)
 (b:yw P (ae M) nx T len (parts.toList.map λp=>(p.1,ρ p.2))=some (pr,s,u)) (hp:pr):oM P w ω M a o s u:=by
 unfold yw at b;split at b
 ·next k st e n g=>
  split at b
  ·next sz nn f r c=>
   split at b
   ·next y l=>
    simp only[bF,bJ]at b;obtain⟨rfl,rfl,rfl⟩:=b;obtain⟨aq,s1,d1⟩:=Y3 h.mem (Kd c) hp.1;have t:Cx P w aq (λx=>tO (ae M) k sz f (ρ x)) (Sy.kill M k) a:=⟨λx=>d1 _ _ (h.val x),s1.mem⟩;have i:(parts.toList.map λp=>(p.1,tO (ae M) k sz f (ρ p.2)))= [(0,tO (ae M) k sz f (.aS k st none e n))]:=by have:=congrArg (List.map λq:Nat×SV=>(q.1,tO (ae M) k sz f q.2)) g;simpa [List.map_map,Function.comp]using this
    have j:ov (lL (ae M) k) (ae M)=ae (Sy.kill M k):=by rw[lH];rfl
    rw[j,<-i]at l;obtain⟨z,v,w',d,A,g2,B,C⟩:=(Kf t ho l).xE;refine⟨z,v,w',d,A,g2,?_,C⟩;rw[mC];exact s1.trans B
   ·cases b
  ·cases b
 ·exact(Ke h ho b).xE
theorem TH (h:Cx P w ω ρ M a) {o:Oper} {T:TypeId} {len:Nat} {parts:Array (Nat×Operand)} {nx:Nat} {pr:Prop} {s:SV} {u:bf} (ho:o.op= .buildSlice T len parts)
 (b:yw P (ae M) nx T len (parts.toList.map λp=>(p.1,ρ p.2))=some (pr,s,u)) (h1:nC (ae M) u=true):lQ P w ω M a o s u:=by
 unfold yw at b;split at b
 ·next k st e n c=>
  split at b
  ·split at b
   ·next y d=>
    simp only[bF,bJ]at b;obtain⟨_,_,rfl⟩:=b;unfold nC at h1;rw[y',aW]at h1;have h2:=h1.2;simp only[lL,wK,List.all_nil,CD]at h2;have:=a_ h2;omega
   ·cases b
  ·cases b
 ·exact Ke h ho b
end
end Go.Sy
