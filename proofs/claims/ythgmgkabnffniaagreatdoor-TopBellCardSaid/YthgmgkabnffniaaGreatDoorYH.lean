/-
  Sy, part 17: whole bodies.
-/
import Derived.Test.YthgmgkabnffniaaGreatDoorYG
import Derived.Deep.LoopGhost
set_option linter.unusedVariables false
set_option linter.unusedSimpArgs false
set_option linter.unusedVariables false
set_option linter.unusedSimpArgs false
namespace Go.Sy
open Go.RowKit
inductive Ex where
  |normal|exit (id:Nat)|ret
structure cG where
  σ:Type
  rt:List (Nat×Nat)
  sh:σ->List (Nat×SV)
  mh:σ->List (Nat×bc)
  inv:σ->Prop
  μ:σ->Nat
  init:σ
  nc:List (Nat×Nat×Nat):= []
structure Cut where
  σ:Type
  rt:List (Nat×Nat)
  sh:σ->List (Nat×SV)
  mem:σ->List bc
  inv:σ->Prop
  dec:(Nat->SV)->List bc->σ
  nc:List (Nat×Nat×Nat):= []
inductive An where
  |Jn (au:Bool) (a:cG)
  |Jo (a:cG) (sub:a.σ->List An)
  |af5 (a:cG) (sub:a.σ->List An)
  |BK (au:Bool) (g:(Nat->SV)->cG)
  |Ib (n:Nat)
  |dec
  |Jp (l:List Nat)
  |cut (r:Nat) (c:Cut)
def An.inv (a:cG):An:= .Jn false a
def UG (F:Fr):List An->List An
  | .BK au g::r=> .Jn au (g λd=>look F d)::r
  |l=>l
def nr:Code->Nat
  | .region _ _ _=>1
  | .seq x y=>nr x+nr y
  | .cond _ x y=>nr x+nr y
  | .block _ x=>nr x
  | .loop x=>nr x
  |_=>0
def uP:Code->Bool
  | .exit _=>true
  |_=>false
def af6 (dl:Option (List Nat)) (pos:Nat) (x y:Code):Bool:=match dl with|none=>false|some []=>(match uP x with|true=>true|false=>uP y)|some (p::r)=>cM (p::r) pos
def nl:Code->Nat
  | .seq x y=>nl x+nl y
  | .cond _ x y=>nl x+nl y
  | .block _ x=>nl x
  | .loop x=>nl x+1
  |_=>0
def assigned:Code->List Nat
  | .region _ ops _=>ops.toList.filterMap (·.dst)
  | .seq x y=>assigned x++assigned y
  | .cond _ x y=>assigned x++assigned y
  | .block _ x=>assigned x
  | .loop x=>assigned x
  |_=> []
def rG:SV->Bool
  | .aF=>true
  | .v _=>true
  | .bl _=>true
  | .pt _ _ _=>true
  | .sl _ _ _ _=>true
  | .pa _ _ _ _=>true
  | .il _ _ _=>true
  | .er _ _ _ _=>true
  | .es=>true
  | .ag n f=>(List.range n).all λj=>rG (f j)
  | .tp n f=>(List.range n).all λj=>rG (f j)
  | .fn _ n f=>(List.range n).all λj=>rG (f j)
  | .bm _ s=>rG s
  | .mv _ s=>rG s
  | .ic _ s=>rG s
  |_=>false
def wz (l:List Nat) (F:Fr):Fr:=F.map λp=>(p.1,match cM l p.1,rG p.2 with|false,true=>p.2|_,_=> .aF)
def yU (N:Nat) (F:Fr):List (Nat×SV)->Fr
  | []=>F
  |p::r=>yU N (iz N F (some p.1) p.2) r
def rootOf:SV->Option Nat
  | .ptr k _ _ _ _=>some k
  | .pe k _ _ _ _ _ _=>some k
  | .aO k _ _ _ _=>some k
  | .sa k _ _ _ _ _=>some k
  |_=>none
def AZ (F:Fr):List (Nat×Nat)->Option (List Nat)
  | []=>some []
  |d::r=>match rootOf (look F d.1),AZ F r with|some k,some l=>some (k::l)|_,_=>none
def Er (M:Mem) (nx sz:Nat) (s:SV):Option (SV×Mem):=
  match yk s with
  |true=>(match cv (ae M) nx with|true=>some (.aO nx (ae M nx).rs none 0 0,fresh M nx (.row sz 0 λ_ _=> .aF))|false=>none)
  |false=>some (s,M)
def BL (N:Nat):List (Nat×Nat)->Fr->Mem->Nat->Option (Fr×Mem)
  | [],F,M,_=>some (F,M)
  |d::r,F,M,nx=>match Er M nx d.2 (look F d.1),Nat.blt d.1 N with|some p,true=>BL N r ((d.1,p.1)::F) p.2 (nx+1)|_,_=>none
def nI (m:Nat->bk) (L l:List Nat):List Nat:=reach m 200 (L++l) []
def Ic (m:Nat->bk) (n:Nat):List Nat:=((List.range n).foldl (λ(acc:List Nat×List Nat) k=>match cM acc.2 k with|true=>acc|false=>(acc.1++ [k],reach m 200 [k] acc.2)) ([],[])).1
def stays (κ:List Nat) (k:Nat):Bool:=match κ[k]? with|some k'=>Nat.beq k' k|none=>false
def Bm:List (Nat×Nat×Nat)->Fr->Mem->Nat->Option Mem
  | [],F,M,_=>some M
  |d::r,F,M,nx=>
   match look F d.1 with
   | .ptr k s none _ _=>
     match cD (ae M) k s none,(ae M k).hl,(ae M k).b with
     |true,none,.cells l=>
      match l.all λs=>!cW s,yk (aL l d.2.1),cv (ae M) nx with
      |true,true,true=>Bm r F ((k,⟨(ae M k).rs,(ae M k).ds,none,.cells (l.set d.2.1 (.aO nx (ae M nx).rs none 0 0))⟩)::fresh M nx (.row d.2.2 0 λ_ _=> .aF)) (nx+1)
      |true,false,_=>Bm r F M (nx+1)
      |_,_,_=>none
     |_,_,_=>none
   |_=>none
def wB (N:Nat) (rt:List (Nat×Nat)) (nc:List (Nat×Nat×Nat)) (F:Fr) (M:Mem) (nx:Nat):Option (Fr×Mem):=
  match BL N rt F M nx with
  |some x=>match Bm nc x.1 x.2 (nx+20)with|some M=>some (x.1,M)|none=>none
  |none=>none
def uI (cl:List Nat) (m:Nat->bk) (κ:List Nat):Bool:=
  match nodupB κ,κ.all λk=>whole (m k),cl.all λk=>stays κ k&&Nat.beq (m k).rs 0 with
  |true,true,true=>true
  |_,_,_=>false
def lJ (m:Nat->bk) (κ:List Nat):List bc:=κ.map λk=>km (gI m κ) false (m k).b
def uQ:List (Nat×bc)->List bc->List bc
  | [],B=>B
  |p::r,B=>uQ r (B.set p.1 p.2)
def Jq:bc->Nat->Nat->Prop
  | .row sz n _,i,j=>i<n/\j<sz
  |_,_,_=>True
theorem acz {b:bc} {i j:Nat} (h:Jq b i j):rP b i j=true:=by
  unfold Jq at h
  split at h
  · simp only[rP,Bool.and_eq_true]
    exact⟨by simpa [Nat.blt_eq]using h.1,by simpa [Nat.blt_eq]using h.2⟩
  · next hn=>unfold rP;split
             · next sz n f=>exact absurd rfl (hn sz n f)
             · rfl
def B9 (m:Nat->bk) (κ:List Nat) (B:List bc) (x y:SV):Prop:=
  match y with
  | .aO k' s' (some B_) e' n'=>
    match x with
    | .aO k s (some ij) e n=>
      match idx κ k,cD m k s (some ij),Nat.beq s' 0 with
      |some q,true,true=>(match Nat.beq q k' with|true=>Jq (B.getD q .dead) ij.1 ij.2/\ij.1=B_.1/\ij.2=B_.2/\e=e'/\n=n'|false=>False)
      |_,_,_=>False
    |x=>fI (dB (gI m κ) false x) (.aO k' s' (some B_) e' n')
  |y=>fI (dB (gI m κ) false x) y
def Ca (m:Nat->bk) (κ:List Nat) (B:List bc) (F:Fr):List (Nat×SV)->Prop->Prop
  | [],R=>R
  |p::r,R=>B9 m κ B (look F p.1) p.2/\Ca m κ B F r R
def AE (m:Nat->bk) (Cb:List Nat):Fr->List Nat->List Nat
  | [],_=> []
  |p::r,seen=>
   match cM seen p.1||cM Cb p.1 with
   |true=>AE m Cb r (p.1::seen)
   |false=>
    match p.2 with
    | .ptr k s none _ _=>
      match cD m k s none,(m k).b with
      |true,.cells _=>p.1::AE m Cb r (p.1::seen)
      |_,_=>AE m Cb r (p.1::seen)
    |_=>AE m Cb r (p.1::seen)
def TH (au:Bool) (L:List Nat) (F:Fr) (M:Mem) (x:Code) (n:cG):cG:=
  match au with
  |false=>n
  |true=>
   let ds:=AE (ae M) (assigned x) F []
   match AZ F (n.rt++ds.map λd=>(d,0))with
   |some l=>{n with rt:=n.rt++ds.map λd=>(d,0),sh:=λs=>(ds.map λd=>(d,dB (gI (ae M) (nI (ae M) L l)) false (look F d)))++n.sh s}
   |none=>n
abbrev KK:=Ex->Fr->Mem->Nat->Prop
def ES (b:Fr->Mem->Nat->KK->Prop) (K:KK):Nat->Fr->Mem->Nat->Prop
  |0,_,_,_=>False
  |n+1,F,M,nx=>b F M nx λe F M nx=>match e with| .normal=>ES b K n F M nx|e=>K e F M nx
def cutAt (gZ:Nat->Option Cut) (k:Nat):Nat->Option Cut
  |0=>none
  |_+1=>gZ k
def mark (F:Fr) (M:Mem) (K:Fr->Mem->Prop):Prop:=zj [] F λF=>yV [] M λM=>K F M
theorem Ds {F:Fr} {M:Mem} {K:Fr->Mem->Prop} (h:mark F M K): ∃F' M',(∀t,look F' t=look F t)/\(∀k,ae M' k=ae M k)/\K F' M':=by
  obtain⟨F',J,h2⟩:=DH _ _ _ h
  obtain⟨M',h3,h4⟩:=Dt _ _ _ J
  exact⟨F',M',λt=>h2 t rfl,λk=>h4 k rfl,h3⟩
def Bo (ev:List An->Fr->Mem->Nat->(Ex->Fr->Mem->Nat->Prop)->Prop) (N:Nat) (cl L ax:List Nat) (n:cG) (s0:n.σ) (sub:n.σ->List An) (F:Fr) (M:Mem) (nx:Nat) (K:Ex->Fr->Mem->Nat->Prop):Prop:=
  match AZ F n.rt with
  |some l=>
   let κ:=nI (ae M) L l
   let B:=lJ (ae M) κ
   match uI cl (ae M) κ with
   |true=>Ca (ae M) κ (uQ (n.mh s0) B) F (n.sh s0) (pH B (uQ (n.mh s0) B)/\n.inv s0/\ ∀s,n.inv s->
      mark (yU N (wz ax F) (n.sh s)) (di 0 (uQ (n.mh s) B)) λF M=>ev (sub s) F M nx λe F' M' dH=>
        match e with
        | .normal=>
          match wB N n.rt n.nc F' M' dH with
          |none=>False
          |some (F',M')=>
          match AZ F' n.rt with
          |some l'=>
           match uI cl (ae M') (nI (ae M') L l')with
           |true=> ∃s',Ca (ae M') (nI (ae M') L l') (uQ (n.mh s') B) F' (n.sh s') (pH (lJ (ae M') (nI (ae M') L l')) (uQ (n.mh s') B)/\n.inv s'/\n.μ s'<n.μ s)
           |false=>False
          |none=>False
        |e=>K e F' M' dH)
   |false=>False
  |none=>False
def gd (P:Program) (dl:Option (List Nat)) (sg:Bool) (Gl:Nat->SV) (Γ:Table) (N:Nat) (cl:List Nat) (L:List Nat) (gZ:Nat->Option Cut):Code->Nat->List An->Fr->Mem->Nat->KK->Prop
  | .skip,_,_,F,M,nx,K=>K .normal F M nx
  | .region _ ops draw,_,_,F,M,nx,K=>
    match draw with
    |false=>nj P sg Gl Γ N ops.toList (K .normal) ops.toList F M nx []
    |true=>Hy P sg Gl Γ N ops.toList (K .normal) F M nx
  | .seq x y,pos,an,F,M,nx,K=>
    match cutAt gZ (pos+nr x) (nr y)with
    |none=>gd P dl sg Gl Γ N cl L gZ x pos (an.take (nl x)) F M nx λe F M nx=>match e with| .normal=>gd P dl sg Gl Γ N cl L gZ y (pos+nr x) (an.drop (nl x)) F M nx K|e=>K e F M nx
    |some c=>(gd P dl sg Gl Γ N cl L gZ x pos (an.take (nl x)) F M nx λe F' M' dH=>
       match e with
       | .normal=>
         match wB N c.rt c.nc F' M' dH with
         |none=>False
         |some (F',M')=>
         match AZ F' c.rt with
         |some l'=>
          match uI cl (ae M') (nI (ae M') L l')with
          |true=>
           let s':=c.dec (λd=>dB (gI (ae M') (nI (ae M') L l')) false (look F' d)) (lJ (ae M') (nI (ae M') L l'))
           Ca (ae M') (nI (ae M') L l') (c.mem s') F' (c.sh s') (pH (lJ (ae M') (nI (ae M') L l')) (c.mem s')/\c.inv s')
          |false=>False
         |none=>False
       |e=>K e F' M' dH)/\
     ∀s,c.inv s->mark (yU N (wz (assigned x) F) (c.sh s)) (di 0 (c.mem s)) λF M=>gd P dl sg Gl Γ N cl L gZ y (pos+nr x) (an.drop (nl x)) F M nx K
  | .cond c x y,pos,an,F,M,nx,K=>
    match cX Gl F c with
    | .bl true=>gd P dl sg Gl Γ N cl L gZ x pos (an.take (nl x)) F M nx K
    | .bl false=>gd P dl sg Gl Γ N cl L gZ y (pos+nr x) (an.drop (nl x)) F M nx K
    | .v (.bool b)=>
      match af6 dl pos x y with
      |true=>(match b with|true=>gd P dl sg Gl Γ N cl L gZ x pos (an.take (nl x)) F M nx K|false=>gd P dl sg Gl Γ N cl L gZ y (pos+nr x) (an.drop (nl x)) F M nx K)
      |false=>(b=true->mark F M λF M=>gd P dl sg Gl Γ N cl L gZ x pos (an.take (nl x)) F M nx K)/\(b=false->mark F M λF M=>gd P dl sg Gl Γ N cl L gZ y (pos+nr x) (an.drop (nl x)) F M nx K)
    |_=>False
  | .block id x,pos,an,F,M,nx,K=>gd P dl sg Gl Γ N cl L gZ x pos an F M nx λe F M nx=>match e with| .exit i=>(match Nat.beq i id with|true=>K .normal F M nx|false=>K (.exit i) F M nx)|e=>K e F M nx
  | .loop x,pos,an,F,M,nx,K=>
    match UG F an with
    | []=>False
    | .dec::_=>False
    | .Jp _::_=>False
    | .cut _ _::_=>False
    | .BK _ _::_=>False
    | .Ib n::r=>ES (gd P dl sg Gl Γ N cl L gZ x pos r) K n F M nx
    | .Jo n sub::_=>
      match wB N n.rt n.nc F M nx with
      |none=>False
      |some (F,M)=>Bo (gd P dl sg Gl Γ N cl L gZ x pos) N cl L (assigned x) n n.init sub F M nx K
    | .af5 n sub::_=>
      match wB N n.rt n.nc F M nx with
      |none=>False
      |some (F,M)=> ∃s0,Bo (gd P dl sg Gl Γ N cl L gZ x pos) N cl L (assigned x) n s0 sub F M nx K
    | .Jn au n0::r=>
      match wB N n0.rt n0.nc F M nx with
      |none=>False
      |some (F,M)=>Bo (gd P dl sg Gl Γ N cl L gZ x pos) N cl L (assigned x) (TH au L F M x n0) (TH au L F M x n0).init (λ_=>r) F M nx K
  | .exit id,_,_,F,M,nx,K=>K (.exit id) F M nx
  | .ret,_,_,F,M,nx,K=>K .ret F M nx
  |_,_,_,_,_,_,_=>False
def wC (P:Program) (F:Fr) (M:Mem) (K:List SV->Prop):List ResultVar->List SV->Prop
  | [],acc=>K acc.reverse
  | .tmp t::r,acc=>wC P F M K r (look F t::acc)
  | .cell ad T::r,acc=>(A9 P T (look F ad) (ae M)).run λs=>wC P F M K r (s::acc)
def lN (m:Nat->bk) (κ:List Nat):SV->SV
  | .ptr k s p i j=>match idx κ k with|some _=>dB (gI m κ) false (.ptr k s p i j)|none=>ro false 12 m κ (.ptr k s p i j)
  | .pe k s p i j n z=>match idx κ k with|some _=>dB (gI m κ) false (.pe k s p i j n z)|none=>ro false 12 m κ (.pe k s p i j n z)
  | .aO k s p e n=>match idx κ k with|some _=>dB (gI m κ) false (.aO k s p e n)|none=>ro false 12 m κ (.aO k s p e n)
  | .sa k s p i j n=>match idx κ k with|some _=>dB (gI m κ) false (.sa k s p i j n)|none=>ro false 12 m κ (.sa k s p i j n)
  | .ag n f=> .ag n λj=>lN m κ (f j)
  | .tp n f=> .tp n λj=>lN m κ (f j)
  | .fn id n f=> .fn id n λj=>lN m κ (f j)
  | .bm id s=> .bm id (lN m κ s)
  | .mv nm s=> .mv nm (lN m κ s)
  | .ic t s=> .ic t (lN m κ s)
  |s=>s
def vX (bI:List bc):List SV->List SV->Mem->Nat->Option (List SV×Mem)
  |s::r,t::q,M,nx=>
   match t with
   | .aO k _ none _ _=>
     match bI[k]? with
     |some (.row sz _ _)=>match Er M nx sz s with|some x=>(match vX bI r q x.2 (nx+1)with|some y=>some (x.1::y.1,y.2)|none=>none)|none=>none
     |_=>none
   |_=>match vX bI r q M nx with|some y=>some (s::y.1,y.2)|none=>none
  |l,_,M,_=>some (l,M)
def af7 (n:Nat) (res:SV):List SV:=match n,res with|1,r=> [r]|n,.tp _ f=>(List.range n).map f|_,_=> []
def Rd (cl:List Nat) (L:List Nat) (M:Mem) (res:SV) (bI:List bc) (l:List SV):Prop:=
  let κ:=(nI (ae M) L (l.flatMap rL)).take bI.length
  match uI cl (ae M) κ with
  |true=>(match l with| [s]=>fI (lN (ae M) κ s) res|l=>fI (.tp l.length (aL (l.map λs=>lN (ae M) κ s))) res)/\pH (lJ (ae M) κ) bI
  |false=>False
def ET (cl:List Nat) (L:List Nat) (M:Mem) (nx:Nat) (res:SV) (bI:List bc) (l:List SV):Prop:=
  match vX bI l (af7 l.length res) M nx with
  |some x=>Rd cl L x.2 res bI x.1
  |none=>False
def s8:Nat->List SV->Fr
  |_,[]=> []
  |i,s::r=>(i,s)::s8 (i+1) r
def yW (kp:Bool) (mem:List bc):List Nat:=(List.range mem.length).filter λk=>uy kp mem[k]?
def TI:List An->Option (List Nat)
  | []=>none
  | .dec::_=>some []
  | .Jp l::_=>some l
  |_::r=>TI r
def yG:List An->List An
  | []=> []
  | .dec::r=>yG r
  | .Jp _::r=>yG r
  | .cut _ _::r=>yG r
  |a::r=>a::yG r
def Ie:List An->Nat->Option Cut
  | [],_=>none
  | .cut k c::r,n=>match Nat.beq k n with|true=>some c|false=>Ie r n
  |_::r,n=>Ie r n
def Ep (P:Program) (sg:Bool) (Gl:Nat->SV) (Γ:Table) (fn:Func) (args:List SV) (mem:List bc) (an:List An) (res:SV) (bI:List bc):Prop:=
  match fn.body with
  |some c=>match Nat.ble args.length fn.ntmps with
   |false=>False
   |true=>gd P (TI an) sg Gl Γ fn.ntmps (yW (qD res) mem) (Ic (ae (di 0 mem)) mem.length) (Ie an) c 0 (yG an) (s8 0 args) (di 0 mem) 100 λe F M nx=>
    match e with
    | .exit _=>False
    |_=>wC P F M (ET (yW (qD res) mem) (Ic (ae (di 0 mem)) mem.length) M nx res bI) fn.results.toList []
  |none=>False
section
variable {P:Program} {w:World} {ω:Ow} {Gl:Nat->SV} {Γ:Table} {N:Nat} {F:Fr} {M:Mem} {a:Act} {cl:List Nat} {L:List Nat}
structure Rel (cl:List Nat) (w1:World) (bZ:Ow) (M1:Mem) (w:World) (ω:Ow) (M:Mem):Prop where
  bare:Ext w1 bZ.bare w ω.bare
  iy: ∀k∈cl,(ae M k).rs=0->(ae M1 k).rs=0/\ ∀L,bZ.β k none=some L->ω.β k none=some L
theorem Rel.refl (w:World) (ω:Ow) (M:Mem):Rel cl w ω M w ω M:=⟨Ext.refl _ _,λ_ _ h=>⟨h,λ_ h=>h⟩⟩
theorem Rel.trans {w1 w2 w3:World} {bZ jQ sC:Ow} {M1 M2 M3:Mem} (h:Rel cl w1 bZ M1 w2 jQ M2) (k:Rel cl w2 jQ M2 w3 sC M3):Rel cl w1 bZ M1 w3 sC M3:=
  ⟨h.bare.trans k.bare,λq hq h0=>let⟨e1,e2⟩:=k.iy q hq h0;let⟨e3,e4⟩:=h.iy q hq e1;⟨e3,λL hL=>e2 L (e4 L hL)⟩⟩
theorem Rel.of {w1:World} {bZ:Ow} {M1:Mem} (J:aR w1 bZ M1) (h2:aR w ω M) (he:Ext w1 bZ w ω):Rel cl w1 bZ M1 w ω M:=by
  refine⟨he.bare,λk _ h0=>?_⟩
  have hm:=(he.mono k).1
  rw[J.cur,h2.cur]at hm
  have hm:(ae M1 k).rs<=(ae M k).rs:=hm
  refine⟨by omega,λL hL=>he.pJ k none L hL ?_⟩
  rw[J.cur,h2.cur]
  show(ae M k).rs=(ae M1 k).rs
  omega
def jh (P:Program) (Gl:Nat->SV) (N:Nat) (cl:List Nat) (S:List Nat) (a0:Act) (w1:World) (bZ:Ow) (M1:Mem) (K:Fr->Mem->Nat->Prop) (a:Act) (w:World):Prop:=
  ∃ω F M nx,St P Gl N F M a w ω/\Rel cl w1 bZ M1 w ω M/\dN S a0 a/\K F M nx
theorem jh.weaken {S S':List Nat} {a0 a1:Act} {w1 w2:World} {bZ jQ:Ow} {M1 M2:Mem} {K K':Fr->Mem->Nat->Prop} {a:Act} {w:World} (h:jh P Gl N cl S a1 w2 jQ M2 K a w)
    (hS: ∀i∈S,i∈S') (hk:dN S' a0 a1) (hg:Rel cl w1 bZ M1 w2 jQ M2) (hK: ∀F M nx,K F M nx->K' F M nx):jh P Gl N cl S' a0 w1 bZ M1 K' a w:=by
  obtain⟨ω,F,M,nx,J,h2,h3,h4⟩:=h
  exact⟨ω,F,M,nx,J,hg.trans h2,hk.trans (h3.mono hS),hK _ _ _ h4⟩
def QQ (P:Program) (Gl:Nat->SV) (N:Nat) (cl:List Nat) (S:List Nat) (a0:Act) (w1:World) (bZ:Ow) (M1:Mem) (K:KK):Exit->Act->World->Prop
  | .normal,a,w=>jh P Gl N cl S a0 w1 bZ M1 (K .normal) a w
  | .exit id,a,w=>jh P Gl N cl S a0 w1 bZ M1 (K (.exit id)) a w
  | .ret,a,w=>jh P Gl N cl S a0 w1 bZ M1 (K .ret) a w
  |_,_,_=>False
theorem QQ.weaken {S S':List Nat} {a0 a1:Act} {w1 w2:World} {bZ jQ:Ow} {M1 M2:Mem} {K:KK} (hS: ∀i∈S,i∈S') (hk:dN S' a0 a1) (hg:Rel cl w1 bZ M1 w2 jQ M2):
    ∀e a w,QQ P Gl N cl S a1 w2 jQ M2 K e a w->QQ P Gl N cl S' a0 w1 bZ M1 K e a w
  | .normal,_,_,h=>jh.weaken h hS hk hg λ_ _ _ h=>h
  | .exit _,_,_,h=>jh.weaken h hS hk hg λ_ _ _ h=>h
  | .ret,_,_,h=>jh.weaken h hS hk hg λ_ _ _ h=>h
  | .goto _,_,_,h=>h
  | .panic _,_,_,h=>h
  | .outgrown,_,_,h=>h
theorem Rel.congr {w1:World} {bZ:Ow} {M1 M':Mem} (h:Rel cl w1 bZ M1 w ω M) (hM: ∀k,ae M' k=ae M k):Rel cl w1 bZ M1 w ω M':=⟨h.bare,λk hk h0=>h.iy k hk (by rw[<-hM];exact h0)⟩
theorem Rel.acA {w1:World} {bZ:Ow} {M1 M':Mem} (h:Rel cl w1 bZ M' w ω M) (hM: ∀k,ae M' k=ae M1 k):Rel cl w1 bZ M1 w ω M:=⟨h.bare,λk hk h0=>by rw[<-hM];exact h.iy k hk h0⟩
theorem QQ.congr {S:List Nat} {a0:Act} {w1:World} {bZ:Ow} {M1 M':Mem} {K:KK} (hM: ∀k,ae M' k=ae M1 k): ∀e a w,QQ P Gl N cl S a0 w1 bZ M' K e a w->QQ P Gl N cl S a0 w1 bZ M1 K e a w:=by
  have key: ∀{K:Fr->Mem->Nat->Prop} {a w},jh P Gl N cl S a0 w1 bZ M' K a w->jh P Gl N cl S a0 w1 bZ M1 K a w:=λ⟨ω,F,M,nx,J,h2,h3,h4⟩=>⟨ω,F,M,nx,J,h2.acA hM,h3,h4⟩
  intro e a w h
  cases e with
  |normal=>exact key h
  |exit i=>exact key h
  |ret=>exact key h
  |goto l=>exact h
  |panic c=>exact h
  |outgrown=>exact h
theorem Xb {s:SV}: ∀{u:Value},rG s=true->Den w ω s u->Den w ω.bare s u:=by
  induction s with
  |ptr _ _ _ _ _=>intro u h;cases h
  |pe _ _ _ _ _ _ _=>intro u h;cases h
  |aO _ _ _ _ _=>intro u h;cases h
  |sa _ _ _ _ _ _=>intro u h;cases h
  |ag n f ih=>
   intro u h hd
   obtain⟨cs,rfl,hs,hj⟩:=hd
   exact⟨cs,rfl,hs,λj bz=>let⟨x,J,h2⟩:=hj j bz;⟨x,J,ih j (List.all_eq_true.1 h j (List.mem_range.2 bz)) h2⟩⟩
  |tp n f ih=>
   intro u h hd
   obtain⟨cs,rfl,hs,hj⟩:=hd
   exact⟨cs,rfl,hs,λj bz=>let⟨x,J,h2⟩:=hj j bz;⟨x,J,ih j (List.all_eq_true.1 h j (List.mem_range.2 bz)) h2⟩⟩
  |fn id n f ih=>
   intro u h hd
   obtain⟨cs,rfl,hs,hj⟩:=hd
   exact⟨cs,rfl,hs,λj bz=>let⟨x,J,h2⟩:=hj j bz;⟨x,J,ih j (List.all_eq_true.1 h j (List.mem_range.2 bz)) h2⟩⟩
  |bm id s ih=>intro u h hd;obtain⟨x,rfl,hx⟩:=hd;exact⟨x,rfl,ih h hx⟩
  |mv nm s ih=>intro u h hd;obtain⟨x,rfl,hx⟩:=hd;exact⟨x,rfl,ih h hx⟩
  |ic t s ih=>intro u h hd;obtain⟨x,rfl,hx⟩:=hd;exact⟨x,rfl,ih h hx⟩
  |_=>intro u _ hd;exact hd
theorem Gy (l:List Nat): ∀(F:Fr) (i:Nat),look (wz l F) i= .aF\/(look (wz l F) i=look F i/\rG (look F i)=true/\i∉l)
  | [],_=> .inl rfl
  |p::r,i=>by
   simp only[wz,List.map_cons,look]
   cases hb:Nat.beq p.1 i with
   |false=>exact Gy l r i
   |true=>
    have e:=Nat.eq_of_beq_eq_true hb
    subst e
    cases J:cM l p.1 with
    |true=>exact .inl rfl
    |false=>
     cases h2:rG p.2 with
     |false=>exact .inl rfl
     |true=>exact .inr ⟨rfl,rfl,λhm=>by rw[jf.2 hm]at J;cases J⟩
theorem Po {w':World} {ao:Ow} {t':Array Value}: ∀(l:List (Nat×SV)) {F:Fr},eH w' ao N F t'->(∀p∈l,∀u,t'[p.1]? =some u->Den w' ao p.2 u)->eH w' ao N (yU N F l) t'
  | [],_,h,_=>h
  |p::r,F,h,hp=>by
   refine Po r ?_ λq hq=>hp q (by simp[hq])
   cases av:Nat.blt p.1 N with
   |true=>
    have e:iz N F (some p.1) p.2=(p.1,p.2)::F:=by simp only[iz,av]
    rw[e]
    exact h.tell (Nat.le_of_ble_eq_true av) (hp p (by simp))
   |false=>
    have e:iz N F (some p.1) p.2=F:=by simp only[iz,av]
    rw[e];exact h
theorem DI {m:Nat->bk} {κ:List Nat} {B:List bc}: ∀{l:List (Nat×SV)} {R:Prop},Ca m κ B F l R->(∀p∈l,B9 m κ B (look F p.1) p.2)/\R
  | [],_,h=>⟨λp hp=>by simp at hp,h⟩
  |p::r,_,⟨J,h2⟩=>by
   obtain⟨h3,h4⟩:=DI h2
   refine⟨λq hq=>?_,h4⟩
   rcases List.mem_cons.1 hq with rfl|hq
   · exact J
   · exact h3 q hq
theorem X9 {m:Nat->bk} {κ:List Nat} (h:uI cl m κ=true):κ.Nodup/\(∀k∈κ,whole (m k)=true)/\ ∀k∈cl,κ[k]? =some k/\(m k).rs=0:=by
  unfold uI at h
  split at h
  · next J h2 h3=>
    refine⟨xY J,λk hk=>List.all_eq_true.1 h2 k hk,λk hk=>?_⟩
    have:=List.all_eq_true.1 h3 k hk
    rw[Bool.and_eq_true]at this
    refine⟨?_,Nat.eq_of_beq_eq_true this.2⟩
    have h4:=this.1
    unfold stays at h4
    split at h4
    · next k' cR=>rw[cR,Nat.eq_of_beq_eq_true h4]
    · cases h4
  · cases h
theorem St.TJ (h:St P Gl N F M a w ω) {κ:List Nat} {B:List bc} (hc:uI cl (ae M) κ=true) (ha:pH (lJ (ae M) κ) B):
    aR w (fp ω κ B) (di 0 B)/\Rel cl w ω M w (fp ω κ B) (di 0 B):=by
  obtain⟨J,h2,h3⟩:=X9 hc
  refine⟨Pn h.mem J h2 ha,AD _ _,λk hk _=>⟨(h3 k hk).2,λL hL=>?_⟩⟩
  rw[Dr (k:=k) (h3 k hk).1]
  exact hL
theorem aaK (hm:aR w ω M) {κ:List Nat} {B:List bc} {x y:SV} {u:Value} (h:B9 (ae M) κ B x y) (hd:Den w ω x u):Den w (fp ω κ B) y u:=by
  unfold B9 at h
  split at h
  · next k' s' B_ e' n'=>
    split at h
    · next k s ij e n=>
      split at h
      · next q hq bF xa=>
        split at h
        · next hqk=>
          obtain rfl:=Nat.eq_of_beq_eq_true hqk
          obtain rfl:=Nat.eq_of_beq_eq_true xa
          obtain⟨hr,J,h2,rfl,rfl⟩:=h
          have hr:=acz hr
          obtain⟨i,j⟩:=ij
          obtain⟨i',j'⟩:=B_
          have J:i=i':=J
          have h2:j=j':=h2
          subst J h2
          have e0:=kO hm bF
          rcases hd with hd|⟨_,p,cap,y1,y2,y3,y4⟩
          · omega
          exact .inr ⟨rfl,p,cap,y1,y2,y3,by rw[GJ (ox hq) hr];exact y4⟩
        · exact h.elim
      · exact h.elim
    · exact vS h (AM hm _ _ hd)
  · exact vS h (AM hm _ _ hd)
theorem Hz {a1:Act} {w1:World} {bZ:Ow} {M1:Mem} {F1:Fr} (J:St P Gl N F1 M1 a1 w1 bZ) (h:St P Gl N F M a w ω) {S:List Nat} (hr:Rel cl w1 bZ M1 w ω M) (hk:dN S a1 a)
    {κ:List Nat} {B:List bc} {sh:List (Nat×SV)} (hc:uI cl (ae M) κ=true) (ha:pH (lJ (ae M) κ) B) (hs: ∀p∈sh,B9 (ae M) κ B (look F p.1) p.2):
    ∃ao,St P Gl N (yU N (wz S F1) sh) (di 0 B) a w ao/\Rel cl w1 bZ M1 w ao (di 0 B):=by
  obtain⟨hm,Jr⟩:=h.TJ hc ha
  have U':=hr.trans Jr
  refine⟨_,⟨?_,λg=>Den.ext (o:=ω.bare) (AD _ _) (h.fe g),hm,h.defers⟩,U'⟩
  refine Po _ ⟨h.frame.size,λi u hu=>?_,λi hi=>?_⟩ ?_
  · rcases Gy S F1 i with e|⟨e,dx,fY⟩
    · rw[e];trivial
    · rw[e]
      have JU:a1.tmps[i]? =some u:=by rw[<-hk.2 i fY];exact hu
      exact(Den.ext (o:=bZ.bare) U'.bare (Xb dx (J.frame.den i u JU))).up
  · rcases Gy S F1 i with e|⟨e,_,_⟩
    · exact e
    · rw[e];exact J.frame.out i hi
  · intro p hp u hu
    exact aaK h.mem (hs p hp) (h.frame.den p.1 u hu)
theorem Mj {s:SV} {u:Value} (h:yk s=true) (hd:Den w ω s u): ∃p,u= .slice p 0 0:=by
  unfold yk at h
  split at h
  · exact⟨none,hd⟩
  · exact hd
  · cases h
theorem MZ (hm:aR w ω M) {nx sz:Nat} {s s':SV} {M':Mem} {u:Value} (hd:Den w ω s u) (h:Er M nx sz s=some (s',M')):Den w ω s' u/\aR w ω M'/\Rel cl w ω M w ω M':=by
  unfold Er at h
  split at h
  · next hn=>
    split at h
    · next hf=>
      simp only[Option.some.injEq,Prod.mk.injEq]at h
      obtain⟨rfl,rfl⟩:=h
      obtain⟨pn,hu⟩:=Mj hn hd
      have bC:=bp.dummy hm (mV hm hf) sz 0 (λ_ _=> .aF)
      refine⟨?_,bC.mem,Rel.of hm bC.mem bC.ext⟩
      subst hu
      exact .inr ⟨by rw[hm.cur];rfl,pn,0,rfl,Nat.le_refl _,Nat.zero_le _,.inl rfl⟩
    · cases h
  · simp only[Option.some.injEq,Prod.mk.injEq]at h
    obtain⟨rfl,rfl⟩:=h
    exact⟨hd,hm,Rel.refl _ _ _⟩
theorem Pp: ∀{rt:List (Nat×Nat)} {F F':Fr} {M M':Mem} {nx:Nat},St P Gl N F M a w ω->BL N rt F M nx=some (F',M')->St P Gl N F' M' a w ω/\Rel cl w ω M w ω M'
  | [],F,F',M,M',nx,h,he=>by
    simp only[BL,Option.some.injEq,Prod.mk.injEq]at he
    obtain⟨rfl,rfl⟩:=he
    exact⟨h,Rel.refl _ _ _⟩
  |d::r,F,F',M,M',nx,h,he=>by
   unfold BL at he
   split at he
   · next p hp av=>
     have av:d.1<N:=Nat.le_of_ble_eq_true av
     obtain⟨p1,p2⟩:=p
     have hx:d.1<a.tmps.size:=by rw[h.frame.size];exact av
     obtain⟨g1,g2,g3⟩:=MZ (cl:=cl) h.mem (h.frame.den d.1 a.tmps[d.1] (by simp[hx])) hp
     have h':St P Gl N ((d.1,p1)::F) p2 a w ω:=⟨h.frame.tell av (λu hu=>by
       have:a.tmps[d.1]? =some a.tmps[d.1]:=by simp[hx]
       obtain rfl:=Option.some.inj (this.symm.trans hu)
       exact g1),h.fe,g2,h.defers⟩
     obtain⟨k1,k2⟩:=Pp h' he
     exact⟨k1,g3.trans k2⟩
   · cases he
theorem G3: ∀{nc:List (Nat×Nat×Nat)} {M M':Mem} {nx:Nat},St P Gl N F M a w ω->Bm nc F M nx=some M'->St P Gl N F M' a w ω/\Rel cl w ω M w ω M'
  | [],M,M',nx,h,he=>by
    obtain rfl:=Option.some.inj he
    exact⟨h,Rel.refl _ _ _⟩
  |d::r,M,M',nx,h,he=>by
   unfold Bm at he
   split at he
   · next k s i j hl=>
     split at he
     · next l bF kZ hb=>
       split at he
       · next dn Js hf=>
         have dW:=mV h.mem hf
         have bC:=bp.dummy h.mem dW d.2.2 0 (λ_ _=> .aF)
         have ba:nx≠k:=by
           intro e;subst e
           have:=dW.1
           rw[hb]at this;cases this
         have hek:ae (fresh M nx (.row d.2.2 0 λ_ _=> .aF)) k=⟨(ae M k).rs,(ae M k).ds,none,.cells l⟩:=by
           unfold fresh;rw[cC ba]
           cases he:ae M k;rw[he]at kZ hb;subst kZ;subst hb;rfl
         have UH: ∀j,cW (aL l j)=false:=λj=>by
           unfold aL
           rw[List.getD_eq_getElem?_getD]
           cases hj:l[j]? with
           |none=>rfl
           |some y=>have:=List.all_eq_true.1 dn y (List.mem_of_getElem? hj);simpa using this
         have yX:(ae M nx).rs=st ω.cur nx none:=by rw[h.mem.cur];rfl
         have Va:=aR.Re bC.mem hek rfl (l':=l.set d.2.1 (.aO nx (ae M nx).rs none 0 0)) (by simp) (λL hL c T hc j hj x hx hd=>by
           by_cases JV:j=d.2.1
           · have e:aL (l.set d.2.1 (.aO nx (ae M nx).rs none 0 0)) j= .aO nx (ae M nx).rs none 0 0:=by
               rw[<-JV];unfold aL;simp[List.getD_eq_getElem?_getD,hj]
             rw[e]
             obtain⟨pn,hu⟩:=Mj Js (by rw[<-JV];exact hd)
             subst hu
             exact⟨rfl,.inr ⟨yX,pn,0,rfl,Nat.le_refl _,Nat.zero_le _,.inl rfl⟩⟩
           · have e:aL (l.set d.2.1 (.aO nx (ae M nx).rs none 0 0)) j=aL l j:=by
               unfold aL;simp[List.getD_eq_getElem?_getD,Ne.symm JV]
             rw[e]
             exact⟨UH j,hd⟩) UH
         have h':St P Gl N F ((k,⟨(ae M k).rs,(ae M k).ds,none,.cells (l.set d.2.1 (.aO nx (ae M nx).rs none 0 0))⟩)::fresh M nx (.row d.2.2 0 λ_ _=> .aF)) a w ω:=⟨h.frame,h.fe,Va,h.defers⟩
         obtain⟨k1,k2⟩:=G3 h' he
         exact⟨k1,(Rel.of h.mem Va (Ext.refl _ _)).trans k2⟩
       · exact G3 h he
       · cases he
     · cases he
   · cases he
theorem AN {rt:List (Nat×Nat)} {nc:List (Nat×Nat×Nat)} {F F':Fr} {M M':Mem} {nx:Nat} (h:St P Gl N F M a w ω) (he:wB N rt nc F M nx=some (F',M')):St P Gl N F' M' a w ω/\Rel cl w ω M w ω M':=by
  unfold wB at he
  split at he
  · next x hx=>
    split at he
    · next M1 Cc=>
      simp only[Option.some.injEq,Prod.mk.injEq]at he
      obtain⟨rfl,rfl⟩:=he
      obtain⟨g1,g2⟩:=Pp (cl:=cl) h hx
      obtain⟨g3,g4⟩:=G3 (cl:=cl) g1 Cc
      exact⟨g3,g2.trans g4⟩
    · cases he
  · cases he
theorem X_ (hS:Sound P Gl Γ) {dl:Option (List Nat)} {sg:Bool} {gZ:Nat->Option Cut}: ∀(c:Code) (pos:Nat) (an:List An) (F:Fr) (M:Mem) (nx:Nat) (a:Act) (w:World) (ω:Ow) (K:KK),
    St P Gl N F M a w ω->gd P dl sg Gl Γ N cl L gZ c pos an F M nx K->c.wp P (QQ P Gl N cl (assigned c) a w ω M K) a w:=by
  intro c
  induction c with
  |skip=>intro pos an F M nx a w ω K h he;exact wp_skip ⟨ω,F,M,nx,h,Rel.refl _ _ _,dN.refl _ _,he⟩
  |region id ops draw=>
   intro pos an F M nx a w ω K h he
   have hd: ∀o∈ops.toList,∀t,o.dst=some t->t∈assigned (.region id ops draw):=by
     intro o ho t ht
     simp only[assigned,List.mem_filterMap]
     exact⟨o,ho,ht⟩
   cases draw with
   |false=>
    simp only[gd]at he
    refine wp_region_list (sG hS (Q:=QQ P Gl N cl (assigned (.region id ops false)) a w ω M K) (S:=assigned (.region id ops false)) (a0:=a) (w1:=w) (bZ:=ω) ?_ ops.toList F M nx [] a w ω hd h (λx hx=>by cases hx) (Ext.refl _ _) (dN.refl _ _) he)
    rintro a' w' ⟨ao,F',M',dH,g1,g2,g3,g4⟩
    exact⟨ao,F',M',dH,g1,Rel.of h.mem g1.mem g2,g3,g4⟩
   |true=>
    simp only[gd]at he
    refine aaL hS (Q:=QQ P Gl N cl (assigned (.region id ops true)) a w ω M K) (S:=assigned (.region id ops true)) (λ_ _ _ _ _ h=>h.elim) ?_ hd h he
    rintro a' w' ⟨ao,F',M',dH,g1,g2,g3,g4⟩
    exact⟨ao,F',M',dH,g1,Rel.of h.mem g1.mem g2,g3,g4⟩
  |seq x y Cd Ce=>
   intro pos an F M nx a w ω K h he
   simp only[gd]at he
   have s9: ∀i∈assigned x,i∈assigned (.seq x y):=λi hi=>by simp[assigned,hi]
   have BM: ∀i∈assigned y,i∈assigned (.seq x y):=λi hi=>by simp[assigned,hi]
   split at he
   next af8=>
     refine wp_seq (wp_mono (Cd _ _ F M nx a w ω _ h he) ?_)
     intro e a1 w1 hq
     cases e with
     |normal=>
      obtain⟨bZ,F1,M1,kv,J,g1,k1,jX⟩:=hq
      exact wp_mono (Ce _ _ F1 M1 kv a1 w1 bZ K J jX) (QQ.weaken BM (k1.mono s9) g1)
     |exit id=>exact jh.weaken hq s9 (dN.refl _ _) (Rel.refl _ _ _) (λ_ _ _ h=>h)
     |ret=>exact jh.weaken hq s9 (dN.refl _ _) (Rel.refl _ _ _) (λ_ _ _ h=>h)
     |goto l=>exact hq
     |panic ch=>exact hq
     |outgrown=>exact hq
   next c af8=>
   obtain⟨he1,he2⟩:=he
   refine wp_seq (wp_mono (Cd _ _ F M nx a w ω _ h he1) ?_)
   intro e a1 w1 hq
   cases e with
   |normal=>
    obtain⟨bZ,F1,M1,kv,J,g1,k1,jX⟩:=hq
    simp only at jX
    split at jX
    · exact jX.elim
    · next F2 M2 hp=>
      obtain⟨h2,g2⟩:=AN (cl:=cl) J hp
      split at jX
      · next l' hl=>
        split at jX
        · next Jt=>
          obtain⟨hs,ha,hinv⟩:=DI jX
          obtain⟨sC,h3,g3⟩:=Hz h h2 (g1.trans g2) k1 Jt ha hs
          obtain⟨F4,M4,JX,Cf,JY⟩:=Ds (he2 _ hinv)
          exact wp_mono (Ce _ _ _ _ nx a1 w1 sC K (h3.congr JX Cf) JY) (QQ.weaken BM (k1.mono s9) (g3.congr Cf))
        · exact jX.elim
      · exact jX.elim
   |exit id=>exact jh.weaken hq s9 (dN.refl _ _) (Rel.refl _ _ _) (λ_ _ _ h=>h)
   |ret=>exact jh.weaken hq s9 (dN.refl _ _) (Rel.refl _ _ _) (λ_ _ _ h=>h)
   |goto l=>exact hq
   |panic ch=>exact hq
   |outgrown=>exact hq
  |cond c x y Cd Ce=>
   intro pos an F M nx a w ω K h he
   have s9: ∀i∈assigned x,i∈assigned (.cond c x y):=λi hi=>by simp[assigned,hi]
   have BM: ∀i∈assigned y,i∈assigned (.cond c x y):=λi hi=>by simp[assigned,hi]
   have hc:=h.cx.val c
   simp only[gd]at he
   split at he
   · next hs=>
     rw[hs]at hc
     exact wp_cond_true hc (wp_mono (Cd _ _ F M nx a w ω K h he) (QQ.weaken s9 (dN.refl _ _) (Rel.refl _ _ _)))
   · next hs=>
     rw[hs]at hc
     exact wp_cond_false hc (wp_mono (Ce _ _ F M nx a w ω K h he) (QQ.weaken BM (dN.refl _ _) (Rel.refl _ _ _)))
   · next b hs=>
     rw[hs]at hc
     replace he:(b=true-> ∃F' M',(∀t,look F' t=look F t)/\(∀k,ae M' k=ae M k)/\gd P dl sg Gl Γ N cl L gZ x pos (an.take (nl x)) F' M' nx K)/\(b=false-> ∃F' M',(∀t,look F' t=look F t)/\(∀k,ae M' k=ae M k)/\gd P dl sg Gl Γ N cl L gZ y (pos+nr x) (an.drop (nl x)) F' M' nx K):=by
       split at he
       · cases b
         · exact⟨λe=>(nomatch e),λ_=>⟨F,M,λ_=>rfl,λ_=>rfl,he⟩⟩
         · exact⟨λ_=>⟨F,M,λ_=>rfl,λ_=>rfl,he⟩,λe=>(nomatch e)⟩
       · exact⟨λhb=>Ds (he.1 hb),λhb=>Ds (he.2 hb)⟩
     refine wp_cond_split (t:=b) hc (λhb=>?_) (λhb=>?_)
     · obtain⟨F',M',hF,hM,hc⟩:=he.1 hb
       exact wp_mono (Cd _ _ F' M' nx a w ω K (h.congr hF hM) hc) (λe a w hq=>QQ.weaken s9 (dN.refl _ _) (Rel.refl _ _ _) e a w (QQ.congr hM e a w hq))
     · obtain⟨F',M',hF,hM,hc⟩:=he.2 hb
       exact wp_mono (Ce _ _ F' M' nx a w ω K (h.congr hF hM) hc) (λe a w hq=>QQ.weaken BM (dN.refl _ _) (Rel.refl _ _ _) e a w (QQ.congr hM e a w hq))
   · exact he.elim
  |block id x ih=>
   intro pos an F M nx a w ω K h he
   simp only[gd]at he
   refine wp_block (wp_mono (ih _ _ F M nx a w ω _ h he) ?_)
   intro e a1 w1 hq
   cases e with
   |normal=>exact hq
   |exit i=>
    show(if i=id then _ else _)
    obtain⟨bZ,F1,M1,kv,J,g1,k1,jX⟩:=hq
    by_cases hi:i=id
    · rw[if_pos hi]
      subst hi
      have:Nat.beq i i=true:=Nat.beq_refl i
      simp only[this]at jX
      exact⟨bZ,F1,M1,kv,J,g1,k1,jX⟩
    · rw[if_neg hi]
      have:Nat.beq i id=false:=by
        cases hb:Nat.beq i id
        · rfl
        · exact absurd (Nat.eq_of_beq_eq_true hb) hi
      simp only[this]at jX
      exact⟨bZ,F1,M1,kv,J,g1,k1,jX⟩
   |ret=>exact hq
   |goto l=>exact hq
   |panic ch=>exact hq
   |outgrown=>exact hq
  |loop x ih=>
   intro pos an F M nx a w ω K h he
   have key: ∀(n:cG) (s0:n.σ) (sub:n.σ->List An) (F:Fr) (M:Mem),St P Gl N F M a w ω->Bo (gd P dl sg Gl Γ N cl L gZ x pos) N cl L (assigned x) n s0 sub F M nx K->(Code.loop x).wp P (QQ P Gl N cl (assigned x) a w ω M K) a w:=by
     intro n s0 sub F M h he
     simp only[Bo]at he
     split at he
     · next l hl=>
       split at he
       · next Jt=>
         obtain⟨h_,af9,hinv,acB⟩:=DI he
         obtain⟨bj,af_,aew⟩:=Hz h h (S:=assigned x) (Rel.refl _ _ _) (dN.refl _ _) Jt af9 h_
         refine wp_loop_ghost (λk a' w'=> ∃s ao,n.inv s/\n.μ s=k/\St P Gl N (yU N (wz (assigned x) F) (n.sh s)) (di 0 (uQ (n.mh s) (lJ (ae M) (nI (ae M) L l)))) a' w' ao/\
             Rel cl w ω M w' ao (di 0 (uQ (n.mh s) (lJ (ae M) (nI (ae M) L l))))/\dN (assigned x) a a') (n.μ s0) ⟨s0,bj,hinv,rfl,af_,aew,dN.refl _ _⟩ ?_
         rintro k a1 w1 ⟨s,bZ,hi,rfl,J,g1,k1⟩
         obtain⟨F4,M4,JX,Cf,JY⟩:=Ds (acB s hi)
         refine wp_mono (wp_mono (ih _ (sub s) _ _ nx a1 w1 bZ _ (J.congr JX Cf) JY) (QQ.congr Cf)) ?_
         intro e a2 w2 hq
         cases e with
         |normal=>
          obtain⟨jQ,F2',M2',nx2,zm,g2',k2,uR⟩:=hq
          simp only at uR
          split at uR
          · exact uR.elim
          next F2 M2 acC=>
          obtain⟨h2,af'⟩:=AN (cl:=cl) zm acC
          have g2:=g2'.trans af'
          split at uR
          · next l' Vb=>
            split at uR
            · next aex=>
              obtain⟨s',JZ⟩:=uR
              obtain⟨aga,aey,aez,hμ⟩:=DI JZ
              obtain⟨sC,agb,aeA⟩:=Hz h h2 (S:=assigned x) (g1.trans g2) (k1.trans k2) aex aey aga
              exact⟨n.μ s',hμ,s',sC,aez,rfl,agb,aeA,k1.trans k2⟩
            · exact uR.elim
          · exact uR.elim
         |exit id=>exact jh.weaken hq (λ_ h=>h) k1 g1 (λ_ _ _ h=>h)
         |ret=>exact jh.weaken hq (λ_ h=>h) k1 g1 (λ_ _ _ h=>h)
         |goto l=>exact hq
         |panic ch=>exact hq
         |outgrown=>exact hq
       · exact he.elim
     · exact he.elim
   simp only[gd]at he
   generalize UG F an=an at he
   split at he
   · exact he.elim
   · exact he.elim
   · exact he.elim
   · exact he.elim
   · exact he.elim
   · next n r=>
     refine wp_loop_ghost (λk a' w'=>jh P Gl N cl (assigned x) a w ω M (λF M nx=>ES (gd P dl sg Gl Γ N cl L gZ x pos r) K k F M nx) a' w') n ⟨ω,F,M,nx,h,Rel.refl _ _ _,dN.refl _ _,he⟩ ?_
     rintro k a1 w1 ⟨bZ,F1,M1,kv,J,g1,k1,jX⟩
     cases k with
     |zero=>exact jX.elim
     |succ k=>
      simp only[ES]at jX
      refine wp_mono (ih _ r F1 M1 kv a1 w1 bZ _ J jX) ?_
      intro e a2 w2 hq
      cases e with
      |normal=>exact⟨k,Nat.lt_succ_self k,jh.weaken hq (λ_ h=>h) k1 g1 (λ_ _ _ h=>h)⟩
      |exit id=>exact jh.weaken hq (λ_ h=>h) k1 g1 (λ_ _ _ h=>h)
      |ret=>exact jh.weaken hq (λ_ h=>h) k1 g1 (λ_ _ _ h=>h)
      |goto l=>exact hq
      |panic ch=>exact hq
      |outgrown=>exact hq
   · next n sub _=>
     split at he
     · exact he.elim
     next F0 M0 Bp=>
     obtain⟨gP,xb⟩:=AN (cl:=cl) h Bp
     exact wp_mono (key n n.init sub F0 M0 gP he) (QQ.weaken (λ_ h=>h) (dN.refl _ _) xb)
   · next n sub _=>
     split at he
     · exact he.elim
     next F0 M0 Bp=>
     obtain⟨gP,xb⟩:=AN (cl:=cl) h Bp
     obtain⟨s0,he⟩:=he
     exact wp_mono (key n s0 sub F0 M0 gP he) (QQ.weaken (λ_ h=>h) (dN.refl _ _) xb)
   · next au n0 r=>
     split at he
     · exact he.elim
     next F0 M0 Bp=>
     obtain⟨gP,xb⟩:=AN (cl:=cl) h Bp
     exact wp_mono (key _ _ _ F0 M0 gP he) (QQ.weaken (λ_ h=>h) (dN.refl _ _) xb)
  |exit id=>intro pos an F M nx a w ω K h he;exact wp_exit ⟨ω,F,M,nx,h,Rel.refl _ _ _,dN.refl _ _,he⟩
  |ret=>intro pos an F M nx a w ω K h he;exact wp_ret ⟨ω,F,M,nx,h,Rel.refl _ _ _,dN.refl _ _,he⟩
  |rangeFunc f p as b iha ihb=>intro pos an F M nx a w ω K h he;exact he.elim
  |scope x ih=>intro pos an F M nx a w ω K h he;exact he.elim
  |label l=>intro pos an F M nx a w ω K h he;exact he.elim
  |goto l=>intro pos an F M nx a w ω K h he;exact he.elim
  |refuse s=>intro pos an F M nx a w ω K h he;exact he.elim
/-! ### results, bodies -/
def EU (tmps:Array Value):ResultVar->Sem Value
  | .tmp t=>pure (tmps.getD t undef)
  | .cell ad t=>do loadVar t (<-asAddr (tmps.getD ad undef))
theorem HA (hm:aR w ω M) (hF:eH w ω N F a.tmps): ∀(rs:List ResultVar) (K:List SV->Prop) (acc:List SV) (wO:List Value),b_ w ω acc wO->wC P F M K rs acc->
    ∃vs l,(rs.mapM (EU a.tmps)).run P w= .ok vs w/\b_ w ω l (wO.reverse++vs)/\K l
  | [],K,acc,wO,ha,he=>by
    refine⟨[],acc.reverse,by simp,?_,he⟩
    rw[List.append_nil]
    have rev: ∀{F:List SV} {l:List Value},b_ w ω F l->b_ w ω F.reverse l.reverse:=by
      intro F
      induction F with
      |nil=>intro l h;cases l with
       |nil=>trivial
       |cons _ _=>exact h.elim
      |cons s r ih=>intro l h;cases l with
       |nil=>exact h.elim
       |cons u t=>rw[List.reverse_cons,List.reverse_cons];exact(ih h.2).append ⟨h.1,trivial⟩
    exact rev ha
  | .tmp t::r,K,acc,wO,ha,he=>by
    have hd:Den w ω (look F t) (a.tmps.getD t undef):=hF.get t
    obtain⟨vs,l,J,h2,h3⟩:=HA hm hF r K (look F t::acc) (a.tmps.getD t undef::wO) ⟨hd,ha⟩ he
    refine⟨a.tmps.getD t undef::vs,l,?_,by simpa using h2,h3⟩
    simp only[List.mapM_cons,EU,Sem.run_bind,Sem.run_pure,Result.andThen_ok,J]
  | .cell ad T::r,K,acc,wO,ha,he=>by
    have hd:Den w ω (look F ad) (a.tmps.getD ad undef):=hF.get ad
    simp only[wC]at he
    obtain⟨s,v,p,e,hr,hs,hK⟩:=M6 hm hd he
    obtain⟨vs,l,J,h2,h3⟩:=HA hm hF r K (s::acc) (v::wO) ⟨hs,ha⟩ hK
    refine⟨v::vs,l,?_,by simpa using h2,h3⟩
    have ha:(asAddr (a.tmps.getD ad undef)).run P w= .ok p w:=by rw[e];rfl
    simp only[List.mapM_cons,EU,Sem.run_bind,ha,Sem.run_pure,Result.andThen_ok,hr,J]
theorem M7 {l:List SV} {vs:List Value} (h:b_ w ω l vs):(∃s v,l= [s]/\vs= [v]/\Den w ω s v)\/((∀s,l≠ [s])/\vs.length≠1):=by
  match l,vs,h with
  | [],[],_=>exact .inr ⟨by simp,by simp⟩
  | [s],[v],⟨h,_⟩=>exact .inl ⟨s,v,rfl,rfl,h⟩
  |_::_::_,_::_::_,_=>exact .inr ⟨by simp,by simp⟩
def Ow.less (o:Ow):Ow:=⟨λb=> ∃k p L,o.β k p=some L/\L.b=b,o.Z,o.β,o.cur⟩
theorem DJ (hm:aR w ω M):Ext w ω w ω.less:=⟨rfl,rfl,rfl,λ_ _ _=>rfl,λb _ h h'=>h (hm.own b h'),λ_ _ _ h=>h,Nat.le_refl _,λ_=>⟨Nat.le_refl _,Nat.le_refl _⟩,λ_ _ _ h _=>h,λ_ h=>h⟩
theorem Pq (hm:aR w ω M):aR w ω.less M where
  cur:=hm.cur
  own:=λ_ h=>h
  fg:=λb h=>hm.fg b (hm.own b h)
  dj:=λb h=>hm.dj b (hm.own b h)
  gJ:=hm.gJ
  inj:=hm.inj
  low:=hm.low
  row:=λk p L hL=>by
    obtain⟨r,J,h2,h3,h4⟩:=hm.row k p L hL
    exact⟨r,J,h2,h3,qE.ext (DJ hm) rfl (λ_=>rfl) rfl h4⟩
  live:=hm.live
  fm:=hm.fm
theorem aaM (hm:aR w ω M) {κ:List Nat} {B:List bc} (ht:aR w (fp ω κ B) (di 0 B)) {s:SV}: ∀{u:Value},Den w ω s u->Den w (fp ω κ B).less (lN (ae M) κ s) u:=by
  have hb:Ext w ω.bare w (fp ω κ B).less.bare:=(AD κ B).trans (DJ ht).bare
  have a_: ∀{s:SV} {u:Value},Den w ω s u->Den w (fp ω κ B).less (dB (gI (ae M) κ) false s) u:=λhd=>(AM hm κ B hd).ext (DJ ht)
  have Fy: ∀{s:SV} {u:Value},Den w ω s u->Den w (fp ω κ B).less (ro false 12 (ae M) κ s) u:=by
    intro s u hd
    refine(pw (ao:=(fp ω κ B).less) hm ?_ hb (λ_ b h=>hm.dj b h) 12 hd).up
    rintro b ⟨q,p,L,J,h2⟩
    obtain⟨k,e1,e2,_⟩:=yr J
    exact⟨k,List.mem_of_getElem? e1,p,L,e2,h2⟩
  induction s with
  |ptr k s p i j=>intro u hd;simp only[lN];split;exact a_ hd;exact Fy hd
  |pe k s p i j n z=>intro u hd;simp only[lN];split;exact a_ hd;exact Fy hd
  |aO k s p e n=>intro u hd;simp only[lN];split;exact a_ hd;exact Fy hd
  |sa k s p i j n=>intro u hd;simp only[lN];split;exact a_ hd;exact Fy hd
  |ag n f ih=>intro u hd;obtain⟨cs,rfl,hs,hj⟩:=hd;exact⟨cs,rfl,hs,λj bz=>let⟨x,J,h2⟩:=hj j bz;⟨x,J,ih j h2⟩⟩
  |tp n f ih=>intro u hd;obtain⟨cs,rfl,hs,hj⟩:=hd;exact⟨cs,rfl,hs,λj bz=>let⟨x,J,h2⟩:=hj j bz;⟨x,J,ih j h2⟩⟩
  |fn id n f ih=>intro u hd;obtain⟨cs,rfl,hs,hj⟩:=hd;exact⟨cs,rfl,hs,λj bz=>let⟨x,J,h2⟩:=hj j bz;⟨x,J,ih j h2⟩⟩
  |bm id s ih=>intro u hd;obtain⟨x,rfl,hx⟩:=hd;exact⟨x,rfl,ih hx⟩
  |mv nm s ih=>intro u hd;obtain⟨x,rfl,hx⟩:=hd;exact⟨x,rfl,ih hx⟩
  |ic t s ih=>intro u hd;obtain⟨x,rfl,hx⟩:=hd;exact⟨x,rfl,ih hx⟩
  |pt q n f=>intro u hd;exact Den.ext (o:=ω.bare) (o':=(fp ω κ B).less.bare) (s:= .pt q n f) hb hd
  |sl q sz n f=>intro u hd;exact Den.ext (o:=ω.bare) (o':=(fp ω κ B).less.bare) (s:= .sl q sz n f) hb hd
  |pa q sz n f=>intro u hd;exact Den.ext (o:=ω.bare) (o':=(fp ω κ B).less.bare) (s:= .pa q sz n f) hb hd
  |er t tf e z=>intro u hd;exact Den.ext (o:=ω.bare) (o':=(fp ω κ B).less.bare) (s:= .er t tf e z) hb hd
  |_=>intro u hd;exact hd
theorem GK {bI:List bc}: ∀{l t l':List SV} {M M':Mem} {nx:Nat} {vs:List Value},aR w ω M->b_ w ω l vs->vX bI l t M nx=some (l',M')->b_ w ω l' vs/\aR w ω M'/\Rel cl w ω M w ω M'
  | [],t,l',M,M',nx,vs,hm,hd,he=>by
    simp only[vX,Option.some.injEq,Prod.mk.injEq]at he
    obtain⟨rfl,rfl⟩:=he
    exact⟨hd,hm,Rel.refl _ _ _⟩
  |s::r,[],l',M,M',nx,vs,hm,hd,he=>by
   simp only[vX,Option.some.injEq,Prod.mk.injEq]at he
   obtain⟨rfl,rfl⟩:=he
   exact⟨hd,hm,Rel.refl _ _ _⟩
  |s::r,t::q,l',M,M',nx,[],hm,hd,he=>hd.elim
  |s::r,t::q,l',M,M',nx,v::vs,hm,⟨Vc,Vd⟩,he=>by
   unfold vX at he
   split at he
   · split at he
     · split at he
       · next x hx=>
         split at he
         · next y hy=>
           obtain⟨x1,x2⟩:=x
           simp only[Option.some.injEq,Prod.mk.injEq]at he
           obtain⟨rfl,rfl⟩:=he
           obtain⟨g1,g2,g3⟩:=MZ (cl:=cl) hm Vc hx
           obtain⟨k1,k2,k3⟩:=GK g2 Vd hy
           exact⟨⟨g1,k1⟩,k2,g3.trans k3⟩
         · cases he
       · cases he
     · cases he
   · split at he
     · next y hy=>
       simp only[Option.some.injEq,Prod.mk.injEq]at he
       obtain⟨rfl,rfl⟩:=he
       obtain⟨k1,k2,k3⟩:=GK hm Vd hy
       exact⟨⟨Vc,k1⟩,k2,k3⟩
     · cases he
theorem acD (h:St P Gl N F M a w ω) {nx:Nat} {fn:Func} {res:SV} {bI:List bc} (he:wC P F M (ET cl L M nx res bI) fn.results.toList []):
    ∃v ao,(results fn a.tmps).run P w= .ok v w/\Den w ao res v/\aR w ao (di 0 bI)/\Rel cl w ω M w ao (di 0 bI):=by
  obtain⟨vs,l,J,h2,h3⟩:=HA (a:=a) h.mem h.frame _ _ [] [] trivial he
  simp only[List.reverse_nil,List.nil_append]at h2
  have hlen:=h2.len
  have hr: ∀v,(v=if h:vs.toArray.size=1 then vs.toArray[0]else .tuple vs.toArray)->(results fn a.tmps).run P w= .ok v w:=by
    intro v hv
    have e:results fn a.tmps=(do let vs<-fn.results.mapM (EU a.tmps);pure (if h:vs.size=1 then vs[0]else .tuple vs)):=by
      unfold results
      congr 1
    rw[e]
    simp only[Array.mapM_eq_mapM_toList,Sem.run_bind,Sem.run_map,J,Result.andThen_ok,Sem.run_pure,hv]
  unfold ET at h3
  split at h3
  rotate_left
  · exact h3.elim
  next x hx=>
  obtain⟨l0,M0⟩:=x
  obtain⟨h2,uS,rU⟩:=GK (cl:=cl) h.mem h2 hx
  have hlen:=h2.len
  have h:St P Gl N [] M0 {a with tmps:=Array.replicate N undef} w ω:=⟨⟨by simp,λi u hu=>trivial,λi _=>rfl⟩,h.fe,uS,h.defers⟩
  revert h3 h2 hlen
  generalize l0=l
  intro h3 h2 hlen
  simp only[Rd]at h3
  split at h3
  · next hc=>
    revert hc h3
    generalize (nI (ae M0) L (l.flatMap rL)).take bI.length=κ
    intro hc h3
    obtain⟨h4,h5⟩:=h3
    obtain⟨g1,g2⟩:=h.TJ hc h5
    have nz: ∀{s:SV} {x:Value},Den w ω s x->Den w (fp ω κ bI).less (lN (ae M0) κ s) x:=λhd=>aaM h.mem g1 hd
    have g2:=rU.trans (g2.trans (Rel.of (cl:=cl) g1 (Pq g1) (DJ g1)))
    have g1:=Pq g1
    split at h4
    · next s=>
      rcases M7 h2 with⟨s',v,e1,rfl,Cg⟩|⟨h6,_⟩
      · obtain rfl:s=s':=by simpa using e1
        exact⟨v,_,hr v (by simp),vS h4 (nz Cg),g1,g2⟩
      · exact absurd rfl (h6 s)
    · next l' ba=>
      refine⟨.tuple vs.toArray,_,hr _ ?_,vS h4 ⟨_,rfl,by simpa using hlen.symm,λj hj=>?_⟩,g1,g2⟩
      · rw[dif_neg]
        intro e
        rcases M7 h2 with⟨s,v,rfl,_⟩|⟨_,h6⟩
        · exact ba s rfl
        · exact h6 (by simpa using e)
      · obtain⟨x,e1,e2⟩:=h2.get? j hj
        refine⟨x,by simpa using e1,?_⟩
        have:aL (l.map λs=>lN (ae M0) κ s) j=lN (ae M0) κ (l.getD j .aF):=by simp[aL,List.getD_eq_getElem?_getD,hj]
        rw[this]
        exact nz e2
  · exact h3.elim
theorem M8: ∀(l:List SV) (k i:Nat),i<l.length->look (s8 k l) (k+i)=l.getD i .aF
  | [],_,_,h=>absurd h (by simp)
  |s::r,k,0,_=>by simp[s8,look_eq]
  |s::r,k,i+1,h=>by
   rw[s8,sH (by omega),show k+(i+1)=(k+1)+i by omega,M8 r (k+1) i (by simpa using h)]
   simp
theorem G4: ∀(l:List SV) (k i:Nat),k+l.length<=i->look (s8 k l) i= .aF
  | [],_,_,_=>rfl
  |s::r,k,i,h=>by
   simp only[List.length_cons]at h
   rw[s8,sH (by omega),G4 r (k+1) i (by omega)]
theorem aaJ (hS:Sound P Gl Γ) {sg:Bool} {f:Nat} {fn:Func} (hf:P.funcs[f]? =some fn) {args:List SV} {mem:List bc} {an:List An} {res:SV} {bI:List bc} (he:Ep P sg Gl Γ fn args mem an res bI):lY P Gl f args mem res bI:=by
  intro w ω vs hG hm uz
  unfold Ep at he
  split at he
  · next c hc=>
    refine calls_of_wp hf hc ?_
    split at he
    · exact he.elim
    next hle=>
    have hle:=Nat.le_of_ble_eq_true hle
    have hlen:=uz.len
    simp at hlen
    have bC:St P Gl fn.ntmps (s8 0 args) (di 0 mem) {tmps:=vs++Array.replicate (fn.ntmps -vs.size) undef,defers:= []} w ω:=by
      refine⟨⟨by simp;omega,?_,?_⟩,hG,hm,rfl⟩
      · intro i u hu
        by_cases hi:i<args.length
        · obtain⟨x,J,h2⟩:=uz.get? i hi
          rw[show look (s8 0 args) i=args.getD i .aF by have:=M8 args 0 i hi;rwa [Nat.zero_add]at this]
          rw[Array.getElem?_append_left (by omega)]at hu
          have J:vs[i]? =some x:=by simpa using J
          obtain rfl:=Option.some.inj (hu.symm.trans J)
          exact h2
        · rw[G4 args 0 i (by omega)]
          trivial
      · intro i hi
        exact G4 args 0 i (by omega)
    refine wp_mono (X_ hS c _ (yG an) _ _ _ _ w ω _ bC he) ?_
    have fin: ∀{a':Act} {w':World} {bZ:Ow} {F1:Fr} {M1:Mem} {kv:Nat},St P Gl fn.ntmps F1 M1 a' w' bZ->Rel (yW (qD res) mem) w ω (di 0 mem) w' bZ M1->wC P F1 M1 (ET (yW (qD res) mem) (Ic (ae (di 0 mem)) mem.length) M1 kv res bI) fn.results.toList []->
     ∃v,(results fn a'.tmps).run P w'= .ok v w'/\ ∃v' ao,(Ending.returned v)= .returned v'/\J0 w ω w' ao/\aR w' ao (di 0 bI)/\Den w' ao res v'/\ ∀k,uy (qD res) mem[k]? =true-> ∀L,ω.β k none=some L->ao.β k none=some L:=by
      intro a' w' bZ F1 M1 kv J g1 hK
      obtain⟨v,ao,hr,hd,fo,Jr⟩:=acD J hK
      have hR:=g1.trans Jr
      refine⟨v,hr,v,ao,rfl,⟨hR.bare.os,hR.bare.tape,hR.bare.output,hR.bare.same,hR.bare.free,hR.bare.zs,hR.bare.size⟩,fo,hd,λk hk L hL=>?_⟩
      have Fx:k<mem.length:=by
        rcases Nat.lt_or_ge k mem.length with h|h
        · exact h
        · rw[List.getElem?_eq_none h]at hk;exact absurd hk Bool.false_ne_true
      have kW:k∈yW (qD res) mem:=by
        unfold yW
        rw[List.mem_filter]
        exact⟨List.mem_range.2 Fx,hk⟩
      have h0:(ae (di 0 bI) k).rs=0:=by rw[mX];split<;>rfl
      exact(hR.iy k kW h0).2 L hL
    intro e a' w' hq
    cases e with
    |normal=>
     obtain⟨bZ,F1,M1,kv,J,g1,k1,hK⟩:=hq
     obtain⟨v,h2,h3⟩:=fin J g1 hK
     exact⟨J.defers,v,h2,h3⟩
    |ret=>
     obtain⟨bZ,F1,M1,kv,J,g1,k1,hK⟩:=hq
     obtain⟨v,h2,h3⟩:=fin J g1 hK
     exact⟨J.defers,v,h2,h3⟩
    |exit id=>obtain⟨_,_,_,_,_,_,_,hK⟩:=hq;exact hK.elim
    |goto l=>exact hq.elim
    |panic ch=>exact hq.elim
    |outgrown=>exact hq.elim
  · exact he.elim
end
end Go.Sy
set_option linter.unusedVariables false
set_option linter.unusedSimpArgs false
namespace Go.Sy
open Go.RowKit
def Fv:List SV->List SV->Prop
  | [],[]=>True
  |a::r,b::t=>fI a b/\Fv r t
  |_,_=>False
theorem Pm {w:World} {o:Ow}: ∀{l m:List SV} {us:List Value},Fv l m->b_ w o l us->b_ w o m us
  | [],[],[],_,h=>h
  |_::_,_::_,_::_,⟨J,h2⟩,⟨h3,h4⟩=>⟨vS J h3,Pm h2 h4⟩
  | [],_::_,_,h,_=>h.elim
  |_::_,[],_,h,_=>h.elim
  | [],[],_::_,_,h=>h.elim
  |_::_,_::_,[],_,h=>h.elim
def oP (mem:List bc):Nat->bk:=ae (di 0 mem)
theorem lY.more {P:Program} {Gl:Nat->SV} {f:Nat} {A:List SV} {B:List bc} {res:SV} {B':List bc} (h:lY P Gl f A B res B') {args:List SV} {mem:List bc}
    (ha:Fv (args.map λs=>dB (gI (oP mem) (List.range mem.length)) false s) A) (hb:pH (lJ (oP mem) (List.range mem.length)) B):lY P Gl f args mem res B':=by
  intro w ω vs hG hm hd
  have hlen:mem.length=B.length:=by have:=D4 hb;simpa [lJ]using this
  have get: ∀{k:Nat},k<mem.length->(List.range mem.length)[k]? =some k:=λhk=>List.getElem?_range hk
  have Fw: ∀k∈List.range mem.length,whole (ae (di 0 mem) k)=true:=by
    intro k hk
    have hk:=List.mem_range.1 hk
    have e1:(lJ (oP mem) (List.range mem.length))[k]? =some (km (gI (oP mem) (List.range mem.length)) false (oP mem k).b):=by
      simp[lJ,hk]
    have hg:=D5 hb e1 (List.getElem?_eq_getElem (by omega))
    have e2:ae (di 0 mem) k=⟨0,0,none,mem[k]⟩:=by rw[mX,List.getElem?_eq_getElem hk]
    unfold oP at hg
    rw[e2]at hg⊢
    cases pI:mem[k]with
    |dead=>rw[pI]at hg;exact hg.elim
    |cells _=>rfl
    |row _ _ _=>rfl
  have ht:=Pn hm List.nodup_range Fw hb
  have nz: ∀{s:SV} {x:Value},Den w ω s x->Den w (fp ω (List.range mem.length) B) (dB (gI (ae (di 0 mem)) (List.range mem.length)) false s) x:=λhd=>AM hm _ _ hd
  refine(h w (fp ω (List.range mem.length) B) vs (λg=>Den.ext (o:=ω.bare) (AD _ _) (hG g)) ht (Pm ha (hd.map λs u hs=>nz hs))).mono ?_
  rintro e w' ⟨v,ao,rfl,J,h2,h3,h4⟩
  refine⟨v,ao,rfl,⟨J.os,J.tape,J.output,J.same,J.free,J.iy,J.size⟩,h2,h3,λk hk L hL=>?_⟩
  cases zi:mem[k]? with
  |none=>rw[zi]at hk;exact absurd hk Bool.false_ne_true
  |some b=>
   have Fx:=(List.getElem?_eq_some_iff.1 zi).1
   have e1:(lJ (oP mem) (List.range mem.length))[k]? =some (km (gI (oP mem) (List.range mem.length)) false (oP mem k).b):=by
     simp[lJ,Fx]
   have pI:B[k]? =some B[k]:=List.getElem?_eq_getElem (by omega)
   have hg:=D5 hb e1 pI
   have e2:oP mem k=⟨0,0,none,b⟩:=by unfold oP;rw[mX,zi]
   rw[e2]at hg
   refine h4 k ?_ L (by rw[Dr (get Fx)];exact hL)
   rw[pI]
   rw[zi]at hk
   cases b with
   |dead=>exact absurd hk Bool.false_ne_true
   |row _ _ _=>
    cases hB:B[k]with
    |dead=>rw[hB]at hg;exact hg.elim
    |cells _=>rw[hB]at hg;exact hg.elim
    |row _ _ _=>exact hk
   |cells _=>
    cases hB:B[k]with
    |dead=>rw[hB]at hg;exact hg.elim
    |row _ _ _=>rw[hB]at hg;exact hg.elim
    |cells _=>rfl
def aw:SV->Int| .v (.int _ x)=>x|_=>0
def ER:SV->Bool| .v (.bool x)=>x| .bl x=>x|_=>false
def wN:SV->ByteArray| .v (.string x)=>x|_=>ByteArray.empty
def cQ:SV->Nat->SV| .ag _ f,j=>f j| .tp _ f,j=>f j|_,_=> .aF
def bX:SV->Nat| .sl _ _ n _=>n|_=>0
def bN:SV->Nat->Nat->SV| .sl _ _ _ f,i,j=>f i j|_,_,_=> .aF
def bQ:SV->Nat->SV| .pt _ _ f,j=>f j|_,_=> .aF
structure Spec where
  X:Type
  args:X->List SV
  mem:X->List bc
  pre:X->Prop
  res:X->SV
  bI:X->List bc
  dec:List SV->List bc->Option X
def Spec.g (s:Spec) (args:List SV) (mem:List bc):Option (Prop×SV×List bc):=
  match s.dec args mem with
  |some x=>some (Fv (args.map λs=>dB (gI (oP mem) (List.range mem.length)) false s) (s.args x)/\pH (lJ (oP mem) (List.range mem.length)) (s.mem x)/\s.pre x,s.res x,s.bI x)
  |none=>none
structure aU (P:Program) (Gl:Nat->SV) (f:Nat) (c:aT):Prop where
  call: ∀(l:Array Value) (w:World),(callFunc f l).run P w= .ok (.enter f l) w
  fn: ∀args mem pre res bI,c.g args mem=some (pre,res,bI)->pre->lY P Gl f args mem res bI
  pj: ∀n,c.pj=some n->TG P f n
theorem yj {P:Program} {Gl:Nat->SV} {f:Nat} {ws:List Bool} {s:Spec} (hc: ∀(l:Array Value) (w:World),(callFunc f l).run P w= .ok (.enter f l) w)
    (h: ∀x,s.pre x->lY P Gl f (s.args x) (s.mem x) (s.res x) (s.bI x)):aU P Gl f ⟨ws,s.g,none⟩:=by
  refine⟨hc,λargs mem pre res bI e hp=>?_,λn e=>nomatch e⟩
  have e:s.g args mem=some (pre,res,bI):=e
  unfold Spec.g at e
  split at e
  · next x hx=>
    simp only[Option.some.injEq,Prod.mk.injEq]at e
    obtain⟨rfl,rfl,rfl⟩:=e
    exact(h x hp.2.2).more hp.1 hp.2.1
  · cases e
def aT.or (a b:aT):aT:=⟨a.ws,λl m=>match a.g l m with|some x=>some x|none=>b.g l m,none⟩
theorem aU.or {P:Program} {Gl:Nat->SV} {f:Nat} {a b:aT} (ha:aU P Gl f a) (hb:aU P Gl f b):aU P Gl f (a.or b):=by
  refine⟨ha.call,λargs mem pre res bI e hp=>?_,λn e=>nomatch e⟩
  have e:(match a.g args mem with|some x=>some x|none=>b.g args mem)=some (pre,res,bI):=e
  split at e
  · next x hx=>
    obtain rfl:=Option.some.inj e
    exact ha.fn args mem _ _ _ hx hp
  · exact hb.fn args mem pre res bI e hp
def mA (k:Nat):SV->Bool
  | .fn id _ _=>Nat.beq id k
  |_=>false
def fl:SV->Nat->SV
  | .fn _ _ f,j=>f j
  |_,_=> .aF
def rT:List (Nat×aT)->Table
  | [],_=>none
  |p::r,f=>match Nat.beq p.1 f with|true=>some p.2|false=>rT r f
section
variable {P:Program} {Gl:Nat->SV}
theorem X0:Sound P Gl (rT []):=⟨λ_ _ h=>(nomatch h),λ_ _ _ _ _ _ _ h=>(nomatch h),λ_ _ _ h=>(nomatch h)⟩
theorem Xu {g:Nat} {s:aT} {r:List (Nat×aT)} (h:aU P Gl g s) (hr:Sound P Gl (rT r)):Sound P Gl (rT ((g,s)::r)):=by
  constructor
  · intro f c e
    simp only[rT]at e
    split at e
    · next hb=>obtain rfl:=Nat.eq_of_beq_eq_true hb;exact h.call
    · exact hr.call f c e
  · intro f c args mem pre res bI e
    simp only[rT]at e
    split at e
    · next hb=>
      obtain rfl:=Nat.eq_of_beq_eq_true hb
      obtain rfl:=Option.some.inj e
      exact h.fn args mem pre res bI
    · exact hr.fn f c args mem pre res bI e
  · intro f c n e
    simp only[rT]at e
    split at e
    · next hb=>
      obtain rfl:=Nat.eq_of_beq_eq_true hb
      obtain rfl:=Option.some.inj e
      exact h.pj n
    · exact hr.pj f c n e
theorem Bl {Γ:Table} (hS:Sound P Gl Γ) (sg:Bool) {f:Nat} {fn:Func} (hf:P.funcs[f]? =some fn) {args:List SV} {mem:List bc} (an:List An) {res:SV} {bI:List bc} {V:Prop} (he:Ep P sg Gl Γ fn args mem an res bI=V) (hV:V):lY P Gl f args mem res bI:=
  aaJ hS hf (he▸hV)
end
def af4:bc->Nat| .row _ n _=>n|_=>0
def UF:bc->Nat->Nat->SV| .row _ _ f=>f| .cells l=>λ_ j=>aL l j| .dead=>λ_ _=> .aF
def qP (mem:List bc) (k:Nat):Nat:=af4 (mem.getD k .dead)
def nB (mem:List bc) (k i j:Nat):SV:=UF (mem.getD k .dead) i j
def Fa (mem:List bc) (k j:Nat):SV:=UF (mem.getD k .dead) 0 j
def JS:SV->Nat| .il _ n _=>n| .sl _ _ n _=>n|_=>0
def JT:SV->Nat->Nat->SV| .il _ _ f,i,j=>f i j| .sl _ _ _ f,i,j=>f i j|_,_,_=> .aF
def tn:Nat->Prop->Prop
  |0,p=>p
  |n+1,p=>True/\tn n p
abbrev ar (x:Int):Int:=IntKind.wrap .i64 x
section
variable {P:Program} {Gl:Nat->SV}
theorem Sound.nil:Sound P Gl (rT []):=X0
theorem Sound.cons {g:Nat} {s:aT} {r:List (Nat×aT)} (h:aU P Gl g s) (hr:Sound P Gl (rT r)):Sound P Gl (rT ((g,s)::r)):=Xu h hr
theorem bf {f:Nat} {fn:Func} {ws:List Bool} {s:Spec} {Γ:Table} (hS:Sound P Gl Γ) (sg:Bool) (hc: ∀(l:Array Value) (w:World),(callFunc f l).run P w= .ok (.enter f l) w) (hf:P.funcs[f]? =some fn) (an:s.X->List An) {V:s.X->Prop}
    (he: ∀x,Ep P sg Gl Γ fn (s.args x) (s.mem x) (an x) (s.res x) (s.bI x)=V x) (hV: ∀x,s.pre x->V x):aU P Gl f ⟨ws,s.g,none⟩:=
  yj hc λx hp=>Bl hS sg hf (an x) (he x) (hV x hp)
end
theorem bn:(∀p:Prop,(True/\p)=p)/\(∀p:Prop,(p/\True)=p)/\(∀p:Prop,(p/\p)=p)/\(∀n:Nat,((n:Nat):Int).toNat=n)/\(∀n:Nat,0+n=n)/\(∀n:Nat,(0:Int)<=(n:Int))/\(∀n:Nat,¬n<0)/\(∀p:Prop,(False->p)=True)/\(∀n:Nat,0<=n)/\((0:Nat):Int)=0:=
  ⟨true_and,and_true,and_self,Int.toNat_natCast,Nat.zero_add,Int.natCast_nonneg,Nat.not_lt_zero,false_implies,Nat.zero_le,Int.natCast_zero⟩
theorem bD:(∀c f:Bool,(bif c then true else f)=(c||f))/\(∀c t:Bool,(bif c then t else false)=(c&&t))/\(∀c t:Bool,(bif c then t else true)=(!c||t))/\(∀c f:Bool,(bif c then false else f)=(!c&&f)):=
  ⟨Bool.cond_true_left,Bool.cond_false_right,Bool.cond_true_right,Bool.cond_false_left⟩
end Go.Sy
