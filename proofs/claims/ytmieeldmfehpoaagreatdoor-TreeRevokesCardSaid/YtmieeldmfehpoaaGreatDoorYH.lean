/-
  Sy, part 17: whole bodies.
-/
import Derived.Test.YtmieeldmfehpoaaGreatDoorYG
import Derived.Deep.LoopGhost
set_option linter.unusedVariables false
set_option linter.unusedSimpArgs false
set_option linter.unusedVariables false
set_option linter.unusedSimpArgs false
namespace Go.Sy
open Go.RowKit
inductive Ex where
  |normal|exit (id:Nat)|ret
structure bS where
  σ:Type
  rt:List (Nat×Nat)
  sh:σ->List (Nat×SV)
  mh:σ->List (Nat×bh)
  inv:σ->Prop
  μ:σ->Nat
  init:σ
  nc:List (Nat×Nat×Nat):= []
structure Cut where
  σ:Type
  rt:List (Nat×Nat)
  sh:σ->List (Nat×SV)
  mem:σ->List bh
  inv:σ->Prop
  dec:(Nat->SV)->List bh->σ
  nc:List (Nat×Nat×Nat):= []
inductive An where
  |E9 (au:Bool) (a:bS)
  |PA (a:bS) (sub:a.σ->List An)
  |ph (au:Bool) (g:(Nat->SV)->bS)
  |Dq (n:Nat)
  |dec
  |gJ (l:List Nat)
  |cut (r:Nat) (c:Cut)
def An.inv (a:bS):An:= .E9 false a
def PB (F:Fr):List An->List An
  | .ph au g::r=> .E9 au (g λd=>look F d)::r
  |l=>l
def nr:Code->Nat
  | .region _ _ _=>1
  | .seq x y=>nr x+nr y
  | .cond _ x y=>nr x+nr y
  | .block _ x=>nr x
  | .loop x=>nr x
  |_=>0
def gk:Code->Bool
  | .exit _=>true
  |_=>false
def ZP (dl:Option (List Nat)) (pos:Nat) (x y:Code):Bool:=match dl with|none=>false|some []=>(match gk x with|true=>true|false=>gk y)|some (p::r)=>cO (p::r) pos
def nl:Code->Nat
  | .seq x y=>nl x+nl y
  | .cond _ x y=>nl x+nl y
  | .block _ x=>nl x
  | .loop x=>nl x+1
  |_=>0
def assigned:Code->List Nat
  | .region _ ops _=>ops.toList.filterMap (·.dst)
  | .seq x y=>assigned x++assigned y
  | .cond _ x y=>assigned x++assigned y
  | .block _ x=>assigned x
  | .loop x=>assigned x
  |_=> []
def mL:SV->Bool
  | .aK=>true
  | .v _=>true
  | .bl _=>true
  | .pt _ _ _=>true
  | .sl _ _ _ _=>true
  | .pa _ _ _ _=>true
  | .il _ _ _=>true
  | .er _ _ _ _=>true
  | .es=>true
  | .ag n f=>(List.range n).all λj=>mL (f j)
  | .tp n f=>(List.range n).all λj=>mL (f j)
  | .fn _ n f=>(List.range n).all λj=>mL (f j)
  | .bm _ s=>mL s
  | .mv _ s=>mL s
  | .ic _ s=>mL s
  |_=>false
def qQ (l:List Nat) (F:Fr):Fr:=F.map λp=>(p.1,match cO l p.1,mL p.2 with|false,true=>p.2|_,_=> .aK)
def th (N:Nat) (F:Fr):List (Nat×SV)->Fr
  | []=>F
  |p::r=>th N (f_ N F (some p.1) p.2) r
def rootOf:SV->Option Nat
  | .ptr k _ _ _ _=>some k
  | .pe k _ _ _ _ _ _=>some k
  | .aV k _ _ _ _=>some k
  | .sa k _ _ _ _ _=>some k
  |_=>none
def uN (F:Fr):List (Nat×Nat)->Option (List Nat)
  | []=>some []
  |d::r=>match rootOf (look F d.1),uN F r with|some k,some l=>some (k::l)|_,_=>none
def yK (M:Mem) (nx sz:Nat) (s:SV):Option (SV×Mem):=
  match sv s with
  |true=>(match cv (ae M) nx with|true=>some (.aV nx (ae M nx).rs none 0 0,fresh M nx (.row sz 0 λ_ _=> .aK))|false=>none)
  |false=>some (s,M)
def vD (N:Nat):List (Nat×Nat)->Fr->Mem->Nat->Option (Fr×Mem)
  | [],F,M,_=>some (F,M)
  |d::r,F,M,nx=>match yK M nx d.2 (look F d.1),Nat.blt d.1 N with|some p,true=>vD N r ((d.1,p.1)::F) p.2 (nx+1)|_,_=>none
def kq (m:Nat->bk) (L l:List Nat):List Nat:=reach m 200 (L++l) []
def Dr (m:Nat->bk) (n:Nat):List Nat:=((List.range n).foldl (λ(acc:List Nat×List Nat) k=>match cO acc.2 k with|true=>acc|false=>(acc.1++ [k],reach m 200 [k] acc.2)) ([],[])).1
def stays (κ:List Nat) (k:Nat):Bool:=match κ[k]? with|some k'=>Nat.beq k' k|none=>false
def vn:List (Nat×Nat×Nat)->Fr->Mem->Nat->Option Mem
  | [],F,M,_=>some M
  |d::r,F,M,nx=>
   match look F d.1 with
   | .ptr k s none _ _=>
     match cC (ae M) k s none,(ae M k).hl,(ae M k).b with
     |true,none,.cells l=>
      match l.all λs=>!cM s,sv (aH l d.2.1),cv (ae M) nx with
      |true,true,true=>vn r F ((k,⟨(ae M k).rs,(ae M k).ds,none,.cells (l.set d.2.1 (.aV nx (ae M nx).rs none 0 0))⟩)::fresh M nx (.row d.2.2 0 λ_ _=> .aK)) (nx+1)
      |true,false,_=>vn r F M (nx+1)
      |_,_,_=>none
     |_,_,_=>none
   |_=>none
def s4 (N:Nat) (rt:List (Nat×Nat)) (nc:List (Nat×Nat×Nat)) (F:Fr) (M:Mem) (nx:Nat):Option (Fr×Mem):=
  match vD N rt F M nx with
  |some x=>match vn nc x.1 x.2 (nx+20)with|some M=>some (x.1,M)|none=>none
  |none=>none
def pk (cl:List Nat) (m:Nat->bk) (κ:List Nat):Bool:=
  match nodupB κ,κ.all λk=>whole (m k),cl.all λk=>stays κ k&&Nat.beq (m k).rs 0 with
  |true,true,true=>true
  |_,_,_=>false
def jw (m:Nat->bk) (κ:List Nat):List bh:=κ.map λk=>iM (fB m κ) false (m k).b
def px:List (Nat×bh)->List bh->List bh
  | [],B=>B
  |p::r,B=>px r (B.set p.1 p.2)
def E_:bh->Nat->Nat->Prop
  | .row sz n _,i,j=>i<n/\j<sz
  |_,_,_=>True
theorem WN {b:bh} {i j:Nat} (h:E_ b i j):m0 b i j=true:=by
  unfold E_ at h
  split at h
  · simp only[m0,Bool.and_eq_true]
    exact⟨by simpa [Nat.blt_eq]using h.1,by simpa [Nat.blt_eq]using h.2⟩
  · next hn=>unfold m0;split
             · next sz n f=>exact absurd rfl (hn sz n f)
             · rfl
def wa (m:Nat->bk) (κ:List Nat) (B:List bh) (x y:SV):Prop:=
  match y with
  | .aV k' s' (some wb) e' n'=>
    match x with
    | .aV k s (some ij) e n=>
      match idx κ k,cC m k s (some ij),Nat.beq s' 0 with
      |some q,true,true=>(match Nat.beq q k' with|true=>E_ (B.getD q .dead) ij.1 ij.2/\ij.1=wb.1/\ij.2=wb.2/\e=e'/\n=n'|false=>False)
      |_,_,_=>False
    |x=>eQ (da (fB m κ) false x) (.aV k' s' (some wb) e' n')
  |y=>eQ (da (fB m κ) false x) y
def wc (m:Nat->bk) (κ:List Nat) (B:List bh) (F:Fr):List (Nat×SV)->Prop->Prop
  | [],R=>R
  |p::r,R=>wa m κ B (look F p.1) p.2/\wc m κ B F r R
def ur (m:Nat->bk) (we:List Nat):Fr->List Nat->List Nat
  | [],_=> []
  |p::r,seen=>
   match cO seen p.1||cO we p.1 with
   |true=>ur m we r (p.1::seen)
   |false=>
    match p.2 with
    | .ptr k s none _ _=>
      match cC m k s none,(m k).b with
      |true,.cells _=>p.1::ur m we r (p.1::seen)
      |_,_=>ur m we r (p.1::seen)
    |_=>ur m we r (p.1::seen)
def YC (au:Bool) (L:List Nat) (F:Fr) (M:Mem) (x:Code) (n:bS):bS:=
  match au with
  |false=>n
  |true=>
   let ds:=ur (ae M) (assigned x) F []
   match uN F (n.rt++ds.map λd=>(d,0))with
   |some l=>{n with rt:=n.rt++ds.map λd=>(d,0),sh:=λs=>(ds.map λd=>(d,da (fB (ae M) (kq (ae M) L l)) false (look F d)))++n.sh s}
   |none=>n
abbrev KK:=Ex->Fr->Mem->Nat->Prop
def zn (b:Fr->Mem->Nat->KK->Prop) (K:KK):Nat->Fr->Mem->Nat->Prop
  |0,_,_,_=>False
  |n+1,F,M,nx=>b F M nx λe F M nx=>match e with| .normal=>zn b K n F M nx|e=>K e F M nx
def cutAt (ga:Nat->Option Cut) (k:Nat):Nat->Option Cut
  |0=>none
  |_+1=>ga k
def mark (F:Fr) (M:Mem) (K:Fr->Mem->Prop):Prop:=tE [] F λF=>ti [] M λM=>K F M
theorem xC {F:Fr} {M:Mem} {K:Fr->Mem->Prop} (h:mark F M K): ∃F' M',(∀t,look F' t=look F t)/\(∀k,ae M' k=ae M k)/\K F' M':=by
  obtain⟨F',J,U⟩:=xM _ _ _ h
  obtain⟨M',h3,h4⟩:=xD _ _ _ J
  exact⟨F',M',λt=>U t rfl,λk=>h4 k rfl,h3⟩
def zo (ev:List An->Fr->Mem->Nat->(Ex->Fr->Mem->Nat->Prop)->Prop) (N:Nat) (cl L ax:List Nat) (n:bS) (sub:n.σ->List An) (F:Fr) (M:Mem) (nx:Nat) (K:Ex->Fr->Mem->Nat->Prop):Prop:=
  match uN F n.rt with
  |some l=>
   let κ:=kq (ae M) L l
   let B:=jw (ae M) κ
   match pk cl (ae M) κ with
   |true=>wc (ae M) κ (px (n.mh n.init) B) F (n.sh n.init) (ly B (px (n.mh n.init) B)/\n.inv n.init/\ ∀s,n.inv s->
      mark (th N (qQ ax F) (n.sh s)) (di 0 (px (n.mh s) B)) λF M=>ev (sub s) F M nx λe F' M' dq=>
        match e with
        | .normal=>
          match s4 N n.rt n.nc F' M' dq with
          |none=>False
          |some (F',M')=>
          match uN F' n.rt with
          |some l'=>
           match pk cl (ae M') (kq (ae M') L l')with
           |true=> ∃s',wc (ae M') (kq (ae M') L l') (px (n.mh s') B) F' (n.sh s') (ly (jw (ae M') (kq (ae M') L l')) (px (n.mh s') B)/\n.inv s'/\n.μ s'<n.μ s)
           |false=>False
          |none=>False
        |e=>K e F' M' dq)
   |false=>False
  |none=>False
def fu (P:Program) (dl:Option (List Nat)) (sg:Bool) (Gl:Nat->SV) (Γ:Table) (N:Nat) (cl:List Nat) (L:List Nat) (ga:Nat->Option Cut):Code->Nat->List An->Fr->Mem->Nat->KK->Prop
  | .skip,_,_,F,M,nx,K=>K .normal F M nx
  | .region _ ops draw,_,_,F,M,nx,K=>
    match draw with
    |false=>j_ P sg Gl Γ N ops.toList (K .normal) ops.toList F M nx []
    |true=>Cq P sg Gl Γ N ops.toList (K .normal) F M nx
  | .seq x y,pos,an,F,M,nx,K=>
    match cutAt ga (pos+nr x) (nr y)with
    |none=>fu P dl sg Gl Γ N cl L ga x pos (an.take (nl x)) F M nx λe F M nx=>match e with| .normal=>fu P dl sg Gl Γ N cl L ga y (pos+nr x) (an.drop (nl x)) F M nx K|e=>K e F M nx
    |some c=>(fu P dl sg Gl Γ N cl L ga x pos (an.take (nl x)) F M nx λe F' M' dq=>
       match e with
       | .normal=>
         match s4 N c.rt c.nc F' M' dq with
         |none=>False
         |some (F',M')=>
         match uN F' c.rt with
         |some l'=>
          match pk cl (ae M') (kq (ae M') L l')with
          |true=>
           let s':=c.dec (λd=>da (fB (ae M') (kq (ae M') L l')) false (look F' d)) (jw (ae M') (kq (ae M') L l'))
           wc (ae M') (kq (ae M') L l') (c.mem s') F' (c.sh s') (ly (jw (ae M') (kq (ae M') L l')) (c.mem s')/\c.inv s')
          |false=>False
         |none=>False
       |e=>K e F' M' dq)/\
     ∀s,c.inv s->mark (th N (qQ (assigned x) F) (c.sh s)) (di 0 (c.mem s)) λF M=>fu P dl sg Gl Γ N cl L ga y (pos+nr x) (an.drop (nl x)) F M nx K
  | .cond c x y,pos,an,F,M,nx,K=>
    match cK Gl F c with
    | .bl true=>fu P dl sg Gl Γ N cl L ga x pos (an.take (nl x)) F M nx K
    | .bl false=>fu P dl sg Gl Γ N cl L ga y (pos+nr x) (an.drop (nl x)) F M nx K
    | .v (.bool b)=>
      match ZP dl pos x y with
      |true=>(match b with|true=>fu P dl sg Gl Γ N cl L ga x pos (an.take (nl x)) F M nx K|false=>fu P dl sg Gl Γ N cl L ga y (pos+nr x) (an.drop (nl x)) F M nx K)
      |false=>(b=true->mark F M λF M=>fu P dl sg Gl Γ N cl L ga x pos (an.take (nl x)) F M nx K)/\(b=false->mark F M λF M=>fu P dl sg Gl Γ N cl L ga y (pos+nr x) (an.drop (nl x)) F M nx K)
    |_=>False
  | .block id x,pos,an,F,M,nx,K=>fu P dl sg Gl Γ N cl L ga x pos an F M nx λe F M nx=>match e with| .exit i=>(match Nat.beq i id with|true=>K .normal F M nx|false=>K (.exit i) F M nx)|e=>K e F M nx
  | .loop x,pos,an,F,M,nx,K=>
    match PB F an with
    | []=>False
    | .dec::_=>False
    | .gJ _::_=>False
    | .cut _ _::_=>False
    | .ph _ _::_=>False
    | .Dq n::r=>zn (fu P dl sg Gl Γ N cl L ga x pos r) K n F M nx
    | .PA n sub::_=>
      match s4 N n.rt n.nc F M nx with
      |none=>False
      |some (F,M)=>zo (fu P dl sg Gl Γ N cl L ga x pos) N cl L (assigned x) n sub F M nx K
    | .E9 au n0::r=>
      match s4 N n0.rt n0.nc F M nx with
      |none=>False
      |some (F,M)=>zo (fu P dl sg Gl Γ N cl L ga x pos) N cl L (assigned x) (YC au L F M x n0) (λ_=>r) F M nx K
  | .exit id,_,_,F,M,nx,K=>K (.exit id) F M nx
  | .ret,_,_,F,M,nx,K=>K .ret F M nx
  |_,_,_,_,_,_,_=>False
def qR (P:Program) (F:Fr) (M:Mem) (K:List SV->Prop):List ResultVar->List SV->Prop
  | [],acc=>K acc.reverse
  | .tmp t::r,acc=>qR P F M K r (look F t::acc)
  | .cell ad T::r,acc=>(vb P T (look F ad) (ae M)).run λs=>qR P F M K r (s::acc)
def jy (m:Nat->bk) (κ:List Nat):SV->SV
  | .ptr k s p i j=>match idx κ k with|some _=>da (fB m κ) false (.ptr k s p i j)|none=>ro false 12 m κ (.ptr k s p i j)
  | .pe k s p i j n z=>match idx κ k with|some _=>da (fB m κ) false (.pe k s p i j n z)|none=>ro false 12 m κ (.pe k s p i j n z)
  | .aV k s p e n=>match idx κ k with|some _=>da (fB m κ) false (.aV k s p e n)|none=>ro false 12 m κ (.aV k s p e n)
  | .sa k s p i j n=>match idx κ k with|some _=>da (fB m κ) false (.sa k s p i j n)|none=>ro false 12 m κ (.sa k s p i j n)
  | .ag n f=> .ag n λj=>jy m κ (f j)
  | .tp n f=> .tp n λj=>jy m κ (f j)
  | .fn id n f=> .fn id n λj=>jy m κ (f j)
  | .bm id s=> .bm id (jy m κ s)
  | .mv nm s=> .mv nm (jy m κ s)
  | .ic t s=> .ic t (jy m κ s)
  |s=>s
def qy (bf:List bh):List SV->List SV->Mem->Nat->Option (List SV×Mem)
  |s::r,t::q,M,nx=>
   match t with
   | .aV k _ none _ _=>
     match bf[k]? with
     |some (.row sz _ _)=>match yK M nx sz s with|some x=>(match qy bf r q x.2 (nx+1)with|some y=>some (x.1::y.1,y.2)|none=>none)|none=>none
     |_=>none
   |_=>match qy bf r q M nx with|some y=>some (s::y.1,y.2)|none=>none
  |l,_,M,_=>some (l,M)
def ZQ (n:Nat) (res:SV):List SV:=match n,res with|1,r=> [r]|n,.tp _ f=>(List.range n).map f|_,_=> []
def Mm (cl:List Nat) (L:List Nat) (M:Mem) (res:SV) (bf:List bh) (l:List SV):Prop:=
  let κ:=(kq (ae M) L (l.flatMap mU)).take bf.length
  match pk cl (ae M) κ with
  |true=>(match l with| [s]=>eQ (jy (ae M) κ s) res|l=>eQ (.tp l.length (aH (l.map λs=>jy (ae M) κ s))) res)/\ly (jw (ae M) κ) bf
  |false=>False
def zp (cl:List Nat) (L:List Nat) (M:Mem) (nx:Nat) (res:SV) (bf:List bh) (l:List SV):Prop:=
  match qy bf l (ZQ l.length res) M nx with
  |some x=>Mm cl L x.2 res bf x.1
  |none=>False
def nU:Nat->List SV->Fr
  |_,[]=> []
  |i,s::r=>(i,s)::nU (i+1) r
def tj (mem:List bh):List Nat:=(List.range mem.length).filter λk=>match mem[k]? with|some (.cells _)=>true|_=>false
def OF:List An->Option (List Nat)
  | []=>none
  | .dec::_=>some []
  | .gJ l::_=>some l
  |_::r=>OF r
def s7:List An->List An
  | []=> []
  | .dec::r=>s7 r
  | .gJ _::r=>s7 r
  | .cut _ _::r=>s7 r
  |a::r=>a::s7 r
def Ds:List An->Nat->Option Cut
  | [],_=>none
  | .cut k c::r,n=>match Nat.beq k n with|true=>some c|false=>Ds r n
  |_::r,n=>Ds r n
def yJ (P:Program) (sg:Bool) (Gl:Nat->SV) (Γ:Table) (fn:Func) (args:List SV) (mem:List bh) (an:List An) (res:SV) (bf:List bh):Prop:=
  match fn.body with
  |some c=>match Nat.ble args.length fn.ntmps with
   |false=>False
   |true=>fu P (OF an) sg Gl Γ fn.ntmps (tj mem) (Dr (ae (di 0 mem)) mem.length) (Ds an) c 0 (s7 an) (nU 0 args) (di 0 mem) 100 λe F M nx=>
    match e with
    | .exit _=>False
    |_=>qR P F M (zp (tj mem) (Dr (ae (di 0 mem)) mem.length) M nx res bf) fn.results.toList []
  |none=>False
section
variable {P:Program} {w:World} {ω:Ow} {Gl:Nat->SV} {Γ:Table} {N:Nat} {F:Fr} {M:Mem} {a:Act} {cl:List Nat} {L:List Nat}
structure Rel (cl:List Nat) (w1:World) (bY:Ow) (M1:Mem) (w:World) (ω:Ow) (M:Mem):Prop where
  bare:Ext w1 bY.bare w ω.bare
  fZ: ∀k∈cl,(ae M k).rs=0->(ae M1 k).rs=0/\ ∀L,bY.β k none=some L->ω.β k none=some L
theorem Rel.refl (w:World) (ω:Ow) (M:Mem):Rel cl w ω M w ω M:=⟨Ext.refl _ _,λ_ _ h=>⟨h,λ_ h=>h⟩⟩
theorem Rel.trans {w1 w2 w3:World} {bY ib nj:Ow} {M1 M2 M3:Mem} (h:Rel cl w1 bY M1 w2 ib M2) (k:Rel cl w2 ib M2 w3 nj M3):Rel cl w1 bY M1 w3 nj M3:=
  ⟨h.bare.trans k.bare,λq hq h0=>let⟨e1,e2⟩:=k.fZ q hq h0;let⟨e3,e4⟩:=h.fZ q hq e1;⟨e3,λL hL=>e2 L (e4 L hL)⟩⟩
theorem Rel.of {w1:World} {bY:Ow} {M1:Mem} (J:aR w1 bY M1) (U:aR w ω M) (he:Ext w1 bY w ω):Rel cl w1 bY M1 w ω M:=by
  refine⟨he.bare,λk _ h0=>?_⟩
  have hm:=(he.mono k).1
  rw[J.cur,U.cur]at hm
  have hm:(ae M1 k).rs<=(ae M k).rs:=hm
  refine⟨by omega,λL hL=>he.lz k none L hL ?_⟩
  rw[J.cur,U.cur]
  show(ae M k).rs=(ae M1 k).rs
  omega
def gH (P:Program) (Gl:Nat->SV) (N:Nat) (cl:List Nat) (S:List Nat) (a0:Act) (w1:World) (bY:Ow) (M1:Mem) (K:Fr->Mem->Nat->Prop) (a:Act) (w:World):Prop:=
  ∃ω F M nx,St P Gl N F M a w ω/\Rel cl w1 bY M1 w ω M/\dx S a0 a/\K F M nx
theorem gH.weaken {S S':List Nat} {a0 a1:Act} {w1 w2:World} {bY ib:Ow} {M1 M2:Mem} {K K':Fr->Mem->Nat->Prop} {a:Act} {w:World} (h:gH P Gl N cl S a1 w2 ib M2 K a w)
    (hS: ∀i∈S,i∈S') (hk:dx S' a0 a1) (hg:Rel cl w1 bY M1 w2 ib M2) (hK: ∀F M nx,K F M nx->K' F M nx):gH P Gl N cl S' a0 w1 bY M1 K' a w:=by
  obtain⟨ω,F,M,nx,J,U,h3,h4⟩:=h
  exact⟨ω,F,M,nx,J,hg.trans U,hk.trans (h3.mono hS),hK _ _ _ h4⟩
def QQ (P:Program) (Gl:Nat->SV) (N:Nat) (cl:List Nat) (S:List Nat) (a0:Act) (w1:World) (bY:Ow) (M1:Mem) (K:KK):Exit->Act->World->Prop
  | .normal,a,w=>gH P Gl N cl S a0 w1 bY M1 (K .normal) a w
  | .exit id,a,w=>gH P Gl N cl S a0 w1 bY M1 (K (.exit id)) a w
  | .ret,a,w=>gH P Gl N cl S a0 w1 bY M1 (K .ret) a w
  |_,_,_=>False
theorem QQ.weaken {S S':List Nat} {a0 a1:Act} {w1 w2:World} {bY ib:Ow} {M1 M2:Mem} {K:KK} (hS: ∀i∈S,i∈S') (hk:dx S' a0 a1) (hg:Rel cl w1 bY M1 w2 ib M2):
    ∀e a w,QQ P Gl N cl S a1 w2 ib M2 K e a w->QQ P Gl N cl S' a0 w1 bY M1 K e a w
  | .normal,_,_,h=>gH.weaken h hS hk hg λ_ _ _ h=>h
  | .exit _,_,_,h=>gH.weaken h hS hk hg λ_ _ _ h=>h
  | .ret,_,_,h=>gH.weaken h hS hk hg λ_ _ _ h=>h
  | .goto _,_,_,h=>h
  | .panic _,_,_,h=>h
  | .outgrown,_,_,h=>h
theorem Rel.congr {w1:World} {bY:Ow} {M1 M':Mem} (h:Rel cl w1 bY M1 w ω M) (hM: ∀k,ae M' k=ae M k):Rel cl w1 bY M1 w ω M':=⟨h.bare,λk hk h0=>h.fZ k hk (by rw[<-hM];exact h0)⟩
theorem Rel.WO {w1:World} {bY:Ow} {M1 M':Mem} (h:Rel cl w1 bY M' w ω M) (hM: ∀k,ae M' k=ae M1 k):Rel cl w1 bY M1 w ω M:=⟨h.bare,λk hk h0=>by rw[<-hM];exact h.fZ k hk h0⟩
theorem QQ.congr {S:List Nat} {a0:Act} {w1:World} {bY:Ow} {M1 M':Mem} {K:KK} (hM: ∀k,ae M' k=ae M1 k): ∀e a w,QQ P Gl N cl S a0 w1 bY M' K e a w->QQ P Gl N cl S a0 w1 bY M1 K e a w:=by
  have key: ∀{K:Fr->Mem->Nat->Prop} {a w},gH P Gl N cl S a0 w1 bY M' K a w->gH P Gl N cl S a0 w1 bY M1 K a w:=λ⟨ω,F,M,nx,J,U,h3,h4⟩=>⟨ω,F,M,nx,J,U.WO hM,h3,h4⟩
  intro e a w h
  cases e with
  |normal=>exact key h
  |exit i=>exact key h
  |ret=>exact key h
  |goto l=>exact h
  |panic c=>exact h
  |outgrown=>exact h
theorem Q2 {s:SV}: ∀{u:Value},mL s=true->Den w ω s u->Den w ω.bare s u:=by
  induction s with
  |ptr _ _ _ _ _=>intro u h;cases h
  |pe _ _ _ _ _ _ _=>intro u h;cases h
  |aV _ _ _ _ _=>intro u h;cases h
  |sa _ _ _ _ _ _=>intro u h;cases h
  |ag n f ih=>
   intro u h hd
   obtain⟨cs,rfl,hs,hj⟩:=hd
   exact⟨cs,rfl,hs,λj br=>let⟨x,J,U⟩:=hj j br;⟨x,J,ih j (List.all_eq_true.1 h j (List.mem_range.2 br)) U⟩⟩
  |tp n f ih=>
   intro u h hd
   obtain⟨cs,rfl,hs,hj⟩:=hd
   exact⟨cs,rfl,hs,λj br=>let⟨x,J,U⟩:=hj j br;⟨x,J,ih j (List.all_eq_true.1 h j (List.mem_range.2 br)) U⟩⟩
  |fn id n f ih=>
   intro u h hd
   obtain⟨cs,rfl,hs,hj⟩:=hd
   exact⟨cs,rfl,hs,λj br=>let⟨x,J,U⟩:=hj j br;⟨x,J,ih j (List.all_eq_true.1 h j (List.mem_range.2 br)) U⟩⟩
  |bm id s ih=>intro u h hd;obtain⟨x,rfl,hx⟩:=hd;exact⟨x,rfl,ih h hx⟩
  |mv nm s ih=>intro u h hd;obtain⟨x,rfl,hx⟩:=hd;exact⟨x,rfl,ih h hx⟩
  |ic t s ih=>intro u h hd;obtain⟨x,rfl,hx⟩:=hd;exact⟨x,rfl,ih h hx⟩
  |_=>intro u _ hd;exact hd
theorem Bu (l:List Nat): ∀(F:Fr) (i:Nat),look (qQ l F) i= .aK\/(look (qQ l F) i=look F i/\mL (look F i)=true/\i∉l)
  | [],_=> .inl rfl
  |p::r,i=>by
   simp only[qQ,List.map_cons,look]
   cases hb:Nat.beq p.1 i with
   |false=>exact Bu l r i
   |true=>
    have e:=Nat.eq_of_beq_eq_true hb
    subst e
    cases J:cO l p.1 with
    |true=>exact .inl rfl
    |false=>
     cases U:mL p.2 with
     |false=>exact .inl rfl
     |true=>exact .inr ⟨rfl,rfl,λhm=>by rw[gC.2 hm]at J;cases J⟩
theorem Ko {w':World} {al:Ow} {t':Array Value}: ∀(l:List (Nat×SV)) {F:Fr},dK w' al N F t'->(∀p∈l,∀u,t'[p.1]? =some u->Den w' al p.2 u)->dK w' al N (th N F l) t'
  | [],_,h,_=>h
  |p::r,F,h,hp=>by
   refine Ko r ?_ λq hq=>hp q (by simp[hq])
   cases ai:Nat.blt p.1 N with
   |true=>
    have e:f_ N F (some p.1) p.2=(p.1,p.2)::F:=by simp only[f_,ai]
    rw[e]
    exact h.tell (Nat.le_of_ble_eq_true ai) (hp p (by simp))
   |false=>
    have e:f_ N F (some p.1) p.2=F:=by simp only[f_,ai]
    rw[e];exact h
theorem xN {m:Nat->bk} {κ:List Nat} {B:List bh}: ∀{l:List (Nat×SV)} {R:Prop},wc m κ B F l R->(∀p∈l,wa m κ B (look F p.1) p.2)/\R
  | [],_,h=>⟨λp hp=>by simp at hp,h⟩
  |p::r,_,⟨J,U⟩=>by
   obtain⟨h3,h4⟩:=xN U
   refine⟨λq hq=>?_,h4⟩
   rcases List.mem_cons.1 hq with rfl|hq
   · exact J
   · exact h3 q hq
theorem R5 {m:Nat->bk} {κ:List Nat} (h:pk cl m κ=true):κ.Nodup/\(∀k∈κ,whole (m k)=true)/\ ∀k∈cl,κ[k]? =some k/\(m k).rs=0:=by
  unfold pk at h
  split at h
  · next J U h3=>
    refine⟨sb J,λk hk=>List.all_eq_true.1 U k hk,λk hk=>?_⟩
    have:=List.all_eq_true.1 h3 k hk
    rw[Bool.and_eq_true]at this
    refine⟨?_,Nat.eq_of_beq_eq_true this.2⟩
    have h4:=this.1
    unfold stays at h4
    split at h4
    · next k' fH=>rw[fH,Nat.eq_of_beq_eq_true h4]
    · cases h4
  · cases h
theorem St.OG (h:St P Gl N F M a w ω) {κ:List Nat} {B:List bh} (hc:pk cl (ae M) κ=true) (ha:ly (jw (ae M) κ) B):
    aR w (eH ω κ B) (di 0 B)/\Rel cl w ω M w (eH ω κ B) (di 0 B):=by
  obtain⟨J,U,h3⟩:=R5 hc
  refine⟨Kn h.mem J U ha,uq _ _,λk hk _=>⟨(h3 k hk).2,λL hL=>?_⟩⟩
  rw[xB (k:=k) (h3 k hk).1]
  exact hL
theorem U9 (hm:aR w ω M) {κ:List Nat} {B:List bh} {x y:SV} {u:Value} (h:wa (ae M) κ B x y) (hd:Den w ω x u):Den w (eH ω κ B) y u:=by
  unfold wa at h
  split at h
  · next k' s' wb e' n'=>
    split at h
    · next k s ij e n=>
      split at h
      · next q hq bC py=>
        split at h
        · next hqk=>
          obtain rfl:=Nat.eq_of_beq_eq_true hqk
          obtain rfl:=Nat.eq_of_beq_eq_true py
          obtain⟨hr,J,U,rfl,rfl⟩:=h
          have hr:=WN hr
          obtain⟨i,j⟩:=ij
          obtain⟨i',j'⟩:=wb
          have J:i=i':=J
          have U:j=j':=U
          subst J U
          have e0:=js hm bC
          rcases hd with hd|⟨_,p,cap,y1,y2,y3,y4⟩
          · omega
          exact .inr ⟨rfl,p,cap,y1,y2,y3,by rw[BC (kG hq) hr];exact y4⟩
        · exact h.elim
      · exact h.elim
    · exact p5 h (uC hm _ _ hd)
  · exact p5 h (uC hm _ _ hd)
theorem Cr {a1:Act} {w1:World} {bY:Ow} {M1:Mem} {F1:Fr} (J:St P Gl N F1 M1 a1 w1 bY) (h:St P Gl N F M a w ω) {S:List Nat} (hr:Rel cl w1 bY M1 w ω M) (hk:dx S a1 a)
    {κ:List Nat} {B:List bh} {sh:List (Nat×SV)} (hc:pk cl (ae M) κ=true) (ha:ly (jw (ae M) κ) B) (hs: ∀p∈sh,wa (ae M) κ B (look F p.1) p.2):
    ∃al,St P Gl N (th N (qQ S F1) sh) (di 0 B) a w al/\Rel cl w1 bY M1 w al (di 0 B):=by
  obtain⟨hm,Fa⟩:=h.OG hc ha
  have P9:=hr.trans Fa
  refine⟨_,⟨?_,λg=>Den.ext (o:=ω.bare) (uq _ _) (h.dY g),hm,h.defers⟩,P9⟩
  refine Ko _ ⟨h.frame.size,λi u hu=>?_,λi hi=>?_⟩ ?_
  · rcases Bu S F1 i with e|⟨e,FH,ff⟩
    · rw[e];trivial
    · rw[e]
      have FI:a1.tmps[i]? =some u:=by rw[<-hk.2 i ff];exact hu
      exact(Den.ext (o:=bY.bare) P9.bare (Q2 FH (J.frame.den i u FI))).up
  · rcases Bu S F1 i with e|⟨e,_,_⟩
    · exact e
    · rw[e];exact J.frame.out i hi
  · intro p hp u hu
    exact U9 h.mem (hs p hp) (h.frame.den p.1 u hu)
theorem G2 {s:SV} {u:Value} (h:sv s=true) (hd:Den w ω s u): ∃p,u= .slice p 0 0:=by
  unfold sv at h
  split at h
  · exact⟨none,hd⟩
  · exact hd
  · cases h
theorem HX (hm:aR w ω M) {nx sz:Nat} {s s':SV} {M':Mem} {u:Value} (hd:Den w ω s u) (h:yK M nx sz s=some (s',M')):Den w ω s' u/\aR w ω M'/\Rel cl w ω M w ω M':=by
  unfold yK at h
  split at h
  · next hn=>
    split at h
    · next hf=>
      simp only[Option.some.injEq,Prod.mk.injEq]at h
      obtain⟨rfl,rfl⟩:=h
      obtain⟨pn,hu⟩:=G2 hn hd
      have bH:=bz.dummy hm (jZ hm hf) sz 0 (λ_ _=> .aK)
      refine⟨?_,bH.mem,Rel.of hm bH.mem bH.ext⟩
      subst hu
      exact .inr ⟨by rw[hm.cur];rfl,pn,0,rfl,Nat.le_refl _,Nat.zero_le _,.inl rfl⟩
    · cases h
  · simp only[Option.some.injEq,Prod.mk.injEq]at h
    obtain⟨rfl,rfl⟩:=h
    exact⟨hd,hm,Rel.refl _ _ _⟩
theorem Kp: ∀{rt:List (Nat×Nat)} {F F':Fr} {M M':Mem} {nx:Nat},St P Gl N F M a w ω->vD N rt F M nx=some (F',M')->St P Gl N F' M' a w ω/\Rel cl w ω M w ω M'
  | [],F,F',M,M',nx,h,he=>by
    simp only[vD,Option.some.injEq,Prod.mk.injEq]at he
    obtain⟨rfl,rfl⟩:=he
    exact⟨h,Rel.refl _ _ _⟩
  |d::r,F,F',M,M',nx,h,he=>by
   unfold vD at he
   split at he
   · next p hp ai=>
     have ai:d.1<N:=Nat.le_of_ble_eq_true ai
     obtain⟨p1,p2⟩:=p
     have hx:d.1<a.tmps.size:=by rw[h.frame.size];exact ai
     obtain⟨g1,g2,g3⟩:=HX (cl:=cl) h.mem (h.frame.den d.1 a.tmps[d.1] (by simp[hx])) hp
     have h':St P Gl N ((d.1,p1)::F) p2 a w ω:=⟨h.frame.tell ai (λu hu=>by
       have:a.tmps[d.1]? =some a.tmps[d.1]:=by simp[hx]
       obtain rfl:=Option.some.inj (this.symm.trans hu)
       exact g1),h.dY,g2,h.defers⟩
     obtain⟨k1,k2⟩:=Kp h' he
     exact⟨k1,g3.trans k2⟩
   · cases he
theorem BV: ∀{nc:List (Nat×Nat×Nat)} {M M':Mem} {nx:Nat},St P Gl N F M a w ω->vn nc F M nx=some M'->St P Gl N F M' a w ω/\Rel cl w ω M w ω M'
  | [],M,M',nx,h,he=>by
    obtain rfl:=Option.some.inj he
    exact⟨h,Rel.refl _ _ _⟩
  |d::r,M,M',nx,h,he=>by
   unfold vn at he
   split at he
   · next k s i j hl=>
     split at he
     · next l bC jg hb=>
       split at he
       · next cX Fb hf=>
         have dE:=jZ h.mem hf
         have bH:=bz.dummy h.mem dE d.2.2 0 (λ_ _=> .aK)
         have cf:nx≠k:=by
           intro e;subst e
           have:=dE.1
           rw[hb]at this;cases this
         have hek:ae (fresh M nx (.row d.2.2 0 λ_ _=> .aK)) k=⟨(ae M k).rs,(ae M k).ds,none,.cells l⟩:=by
           unfold fresh;rw[cB cf]
           cases he:ae M k;rw[he]at jg hb;subst jg;subst hb;rfl
         have PC: ∀j,cM (aH l j)=false:=λj=>by
           unfold aH
           rw[List.getD_eq_getElem?_getD]
           cases hj:l[j]? with
           |none=>rfl
           |some y=>have:=List.all_eq_true.1 cX y (List.mem_of_getElem? hj);simpa using this
         have tm:(ae M nx).rs=st ω.cur nx none:=by rw[h.mem.cur];rfl
         have P_:=aR.Mn bH.mem hek rfl (l':=l.set d.2.1 (.aV nx (ae M nx).rs none 0 0)) (by simp) (λL hL c T hc j hj x hx hd=>by
           by_cases FJ:j=d.2.1
           · have e:aH (l.set d.2.1 (.aV nx (ae M nx).rs none 0 0)) j= .aV nx (ae M nx).rs none 0 0:=by
               rw[<-FJ];unfold aH;simp[List.getD_eq_getElem?_getD,hj]
             rw[e]
             obtain⟨pn,hu⟩:=G2 Fb (by rw[<-FJ];exact hd)
             subst hu
             exact⟨rfl,.inr ⟨tm,pn,0,rfl,Nat.le_refl _,Nat.zero_le _,.inl rfl⟩⟩
           · have e:aH (l.set d.2.1 (.aV nx (ae M nx).rs none 0 0)) j=aH l j:=by
               unfold aH;simp[List.getD_eq_getElem?_getD,Ne.symm FJ]
             rw[e]
             exact⟨PC j,hd⟩) PC
         have h':St P Gl N F ((k,⟨(ae M k).rs,(ae M k).ds,none,.cells (l.set d.2.1 (.aV nx (ae M nx).rs none 0 0))⟩)::fresh M nx (.row d.2.2 0 λ_ _=> .aK)) a w ω:=⟨h.frame,h.dY,P_,h.defers⟩
         obtain⟨k1,k2⟩:=BV h' he
         exact⟨k1,(Rel.of h.mem P_ (Ext.refl _ _)).trans k2⟩
       · exact BV h he
       · cases he
     · cases he
   · cases he
theorem xO {rt:List (Nat×Nat)} {nc:List (Nat×Nat×Nat)} {F F':Fr} {M M':Mem} {nx:Nat} (h:St P Gl N F M a w ω) (he:s4 N rt nc F M nx=some (F',M')):St P Gl N F' M' a w ω/\Rel cl w ω M w ω M':=by
  unfold s4 at he
  split at he
  · next x hx=>
    split at he
    · next M1 wg=>
      simp only[Option.some.injEq,Prod.mk.injEq]at he
      obtain⟨rfl,rfl⟩:=he
      obtain⟨g1,g2⟩:=Kp (cl:=cl) h hx
      obtain⟨g3,g4⟩:=BV (cl:=cl) g1 wg
      exact⟨g3,g2.trans g4⟩
    · cases he
  · cases he
theorem R6 (hS:Sound P Gl Γ) {dl:Option (List Nat)} {sg:Bool} {ga:Nat->Option Cut}: ∀(c:Code) (pos:Nat) (an:List An) (F:Fr) (M:Mem) (nx:Nat) (a:Act) (w:World) (ω:Ow) (K:KK),
    St P Gl N F M a w ω->fu P dl sg Gl Γ N cl L ga c pos an F M nx K->c.wp P (QQ P Gl N cl (assigned c) a w ω M K) a w:=by
  intro c
  induction c with
  |skip=>intro pos an F M nx a w ω K h he;exact wp_skip ⟨ω,F,M,nx,h,Rel.refl _ _ _,dx.refl _ _,he⟩
  |region id ops draw=>
   intro pos an F M nx a w ω K h he
   have hd: ∀o∈ops.toList,∀t,o.dst=some t->t∈assigned (.region id ops draw):=by
     intro o ho t ht
     simp only[assigned,List.mem_filterMap]
     exact⟨o,ho,ht⟩
   cases draw with
   |false=>
    simp only[fu]at he
    refine wp_region_list (ny hS (Q:=QQ P Gl N cl (assigned (.region id ops false)) a w ω M K) (S:=assigned (.region id ops false)) (a0:=a) (w1:=w) (bY:=ω) ?_ ops.toList F M nx [] a w ω hd h (λx hx=>by cases hx) (Ext.refl _ _) (dx.refl _ _) he)
    rintro a' w' ⟨al,F',M',dq,g1,g2,g3,g4⟩
    exact⟨al,F',M',dq,g1,Rel.of h.mem g1.mem g2,g3,g4⟩
   |true=>
    simp only[fu]at he
    refine U_ hS (Q:=QQ P Gl N cl (assigned (.region id ops true)) a w ω M K) (S:=assigned (.region id ops true)) (λ_ _ _ _ _ h=>h.elim) ?_ hd h he
    rintro a' w' ⟨al,F',M',dq,g1,g2,g3,g4⟩
    exact⟨al,F',M',dq,g1,Rel.of h.mem g1.mem g2,g3,g4⟩
  |seq x y wi wj=>
   intro pos an F M nx a w ω K h he
   simp only[fu]at he
   have nV: ∀i∈assigned x,i∈assigned (.seq x y):=λi hi=>by simp[assigned,hi]
   have vE: ∀i∈assigned y,i∈assigned (.seq x y):=λi hi=>by simp[assigned,hi]
   split at he
   next ZR=>
     refine wp_seq (wp_mono (wi _ _ F M nx a w ω _ h he) ?_)
     intro e a1 w1 hq
     cases e with
     |normal=>
      obtain⟨bY,F1,M1,iQ,J,g1,k1,iD⟩:=hq
      exact wp_mono (wj _ _ F1 M1 iQ a1 w1 bY K J iD) (QQ.weaken vE (k1.mono nV) g1)
     |exit id=>exact gH.weaken hq nV (dx.refl _ _) (Rel.refl _ _ _) (λ_ _ _ h=>h)
     |ret=>exact gH.weaken hq nV (dx.refl _ _) (Rel.refl _ _ _) (λ_ _ _ h=>h)
     |goto l=>exact hq
     |panic ch=>exact hq
     |outgrown=>exact hq
   next c ZR=>
   obtain⟨he1,he2⟩:=he
   refine wp_seq (wp_mono (wi _ _ F M nx a w ω _ h he1) ?_)
   intro e a1 w1 hq
   cases e with
   |normal=>
    obtain⟨bY,F1,M1,iQ,J,g1,k1,iD⟩:=hq
    simp only at iD
    split at iD
    · exact iD.elim
    · next F2 M2 hp=>
      obtain⟨U,g2⟩:=xO (cl:=cl) J hp
      split at iD
      · next l' hl=>
        split at iD
        · next Fc=>
          obtain⟨hs,ha,hinv⟩:=xN iD
          obtain⟨nj,h3,g3⟩:=Cr h U (g1.trans g2) k1 Fc ha hs
          obtain⟨F4,M4,FK,wk,FL⟩:=xC (he2 _ hinv)
          exact wp_mono (wj _ _ _ _ nx a1 w1 nj K (h3.congr FK wk) FL) (QQ.weaken vE (k1.mono nV) (g3.congr wk))
        · exact iD.elim
      · exact iD.elim
   |exit id=>exact gH.weaken hq nV (dx.refl _ _) (Rel.refl _ _ _) (λ_ _ _ h=>h)
   |ret=>exact gH.weaken hq nV (dx.refl _ _) (Rel.refl _ _ _) (λ_ _ _ h=>h)
   |goto l=>exact hq
   |panic ch=>exact hq
   |outgrown=>exact hq
  |cond c x y wi wj=>
   intro pos an F M nx a w ω K h he
   have nV: ∀i∈assigned x,i∈assigned (.cond c x y):=λi hi=>by simp[assigned,hi]
   have vE: ∀i∈assigned y,i∈assigned (.cond c x y):=λi hi=>by simp[assigned,hi]
   have hc:=h.cx.val c
   simp only[fu]at he
   split at he
   · next hs=>
     rw[hs]at hc
     exact wp_cond_true hc (wp_mono (wi _ _ F M nx a w ω K h he) (QQ.weaken nV (dx.refl _ _) (Rel.refl _ _ _)))
   · next hs=>
     rw[hs]at hc
     exact wp_cond_false hc (wp_mono (wj _ _ F M nx a w ω K h he) (QQ.weaken vE (dx.refl _ _) (Rel.refl _ _ _)))
   · next b hs=>
     rw[hs]at hc
     replace he:(b=true-> ∃F' M',(∀t,look F' t=look F t)/\(∀k,ae M' k=ae M k)/\fu P dl sg Gl Γ N cl L ga x pos (an.take (nl x)) F' M' nx K)/\(b=false-> ∃F' M',(∀t,look F' t=look F t)/\(∀k,ae M' k=ae M k)/\fu P dl sg Gl Γ N cl L ga y (pos+nr x) (an.drop (nl x)) F' M' nx K):=by
       split at he
       · cases b
         · exact⟨λe=>(nomatch e),λ_=>⟨F,M,λ_=>rfl,λ_=>rfl,he⟩⟩
         · exact⟨λ_=>⟨F,M,λ_=>rfl,λ_=>rfl,he⟩,λe=>(nomatch e)⟩
       · exact⟨λhb=>xC (he.1 hb),λhb=>xC (he.2 hb)⟩
     refine wp_cond_split (t:=b) hc (λhb=>?_) (λhb=>?_)
     · obtain⟨F',M',hF,hM,hc⟩:=he.1 hb
       exact wp_mono (wi _ _ F' M' nx a w ω K (h.congr hF hM) hc) (λe a w hq=>QQ.weaken nV (dx.refl _ _) (Rel.refl _ _ _) e a w (QQ.congr hM e a w hq))
     · obtain⟨F',M',hF,hM,hc⟩:=he.2 hb
       exact wp_mono (wj _ _ F' M' nx a w ω K (h.congr hF hM) hc) (λe a w hq=>QQ.weaken vE (dx.refl _ _) (Rel.refl _ _ _) e a w (QQ.congr hM e a w hq))
   · exact he.elim
  |block id x ih=>
   intro pos an F M nx a w ω K h he
   simp only[fu]at he
   refine wp_block (wp_mono (ih _ _ F M nx a w ω _ h he) ?_)
   intro e a1 w1 hq
   cases e with
   |normal=>exact hq
   |exit i=>
    show(if i=id then _ else _)
    obtain⟨bY,F1,M1,iQ,J,g1,k1,iD⟩:=hq
    by_cases hi:i=id
    · rw[if_pos hi]
      subst hi
      have:Nat.beq i i=true:=Nat.beq_refl i
      simp only[this]at iD
      exact⟨bY,F1,M1,iQ,J,g1,k1,iD⟩
    · rw[if_neg hi]
      have:Nat.beq i id=false:=by
        cases hb:Nat.beq i id
        · rfl
        · exact absurd (Nat.eq_of_beq_eq_true hb) hi
      simp only[this]at iD
      exact⟨bY,F1,M1,iQ,J,g1,k1,iD⟩
   |ret=>exact hq
   |goto l=>exact hq
   |panic ch=>exact hq
   |outgrown=>exact hq
  |loop x ih=>
   intro pos an F M nx a w ω K h he
   have key: ∀(n:bS) (sub:n.σ->List An) (F:Fr) (M:Mem),St P Gl N F M a w ω->zo (fu P dl sg Gl Γ N cl L ga x pos) N cl L (assigned x) n sub F M nx K->(Code.loop x).wp P (QQ P Gl N cl (assigned x) a w ω M K) a w:=by
     intro n sub F M h he
     simp only[zo]at he
     split at he
     · next l hl=>
       split at he
       · next Fc=>
         obtain⟨fQ,ZS,hinv,WQ⟩:=xN he
         obtain⟨bj,ZT,YD⟩:=Cr h h (S:=assigned x) (Rel.refl _ _ _) (dx.refl _ _) Fc ZS fQ
         refine wp_loop_ghost (λk a' w'=> ∃s al,n.inv s/\n.μ s=k/\St P Gl N (th N (qQ (assigned x) F) (n.sh s)) (di 0 (px (n.mh s) (jw (ae M) (kq (ae M) L l)))) a' w' al/\
             Rel cl w ω M w' al (di 0 (px (n.mh s) (jw (ae M) (kq (ae M) L l))))/\dx (assigned x) a a') (n.μ n.init) ⟨n.init,bj,hinv,rfl,ZT,YD,dx.refl _ _⟩ ?_
         rintro k a1 w1 ⟨s,bY,hi,rfl,J,g1,k1⟩
         obtain⟨F4,M4,FK,wk,FL⟩:=xC (WQ s hi)
         refine wp_mono (wp_mono (ih _ (sub s) _ _ nx a1 w1 bY _ (J.congr FK wk) FL) (QQ.congr wk)) ?_
         intro e a2 w2 hq
         cases e with
         |normal=>
          obtain⟨ib,F2',M2',nx2,oe,g2',k2,pz⟩:=hq
          simp only at pz
          split at pz
          · exact pz.elim
          next F2 M2 WR=>
          obtain⟨U,ZU⟩:=xO (cl:=cl) oe WR
          have g2:=g2'.trans ZU
          split at pz
          · next l' hl'=>
            split at pz
            · next YE=>
              obtain⟨s',FM⟩:=pz
              obtain⟨ZV,YF,YG,hμ⟩:=xN FM
              obtain⟨nj,ZW,YH⟩:=Cr h U (S:=assigned x) (g1.trans g2) (k1.trans k2) YE YF ZV
              exact⟨n.μ s',hμ,s',nj,YG,rfl,ZW,YH,k1.trans k2⟩
            · exact pz.elim
          · exact pz.elim
         |exit id=>exact gH.weaken hq (λ_ h=>h) k1 g1 (λ_ _ _ h=>h)
         |ret=>exact gH.weaken hq (λ_ h=>h) k1 g1 (λ_ _ _ h=>h)
         |goto l=>exact hq
         |panic ch=>exact hq
         |outgrown=>exact hq
       · exact he.elim
     · exact he.elim
   simp only[fu]at he
   generalize PB F an=an at he
   split at he
   · exact he.elim
   · exact he.elim
   · exact he.elim
   · exact he.elim
   · exact he.elim
   · next n r=>
     refine wp_loop_ghost (λk a' w'=>gH P Gl N cl (assigned x) a w ω M (λF M nx=>zn (fu P dl sg Gl Γ N cl L ga x pos r) K k F M nx) a' w') n ⟨ω,F,M,nx,h,Rel.refl _ _ _,dx.refl _ _,he⟩ ?_
     rintro k a1 w1 ⟨bY,F1,M1,iQ,J,g1,k1,iD⟩
     cases k with
     |zero=>exact iD.elim
     |succ k=>
      simp only[zn]at iD
      refine wp_mono (ih _ r F1 M1 iQ a1 w1 bY _ J iD) ?_
      intro e a2 w2 hq
      cases e with
      |normal=>exact⟨k,Nat.lt_succ_self k,gH.weaken hq (λ_ h=>h) k1 g1 (λ_ _ _ h=>h)⟩
      |exit id=>exact gH.weaken hq (λ_ h=>h) k1 g1 (λ_ _ _ h=>h)
      |ret=>exact gH.weaken hq (λ_ h=>h) k1 g1 (λ_ _ _ h=>h)
      |goto l=>exact hq
      |panic ch=>exact hq
      |outgrown=>exact hq
   · next n sub _=>
     split at he
     · exact he.elim
     next F0 M0 Eg=>
     obtain⟨gu,wo⟩:=xO (cl:=cl) h Eg
     exact wp_mono (key n sub F0 M0 gu he) (QQ.weaken (λ_ h=>h) (dx.refl _ _) wo)
   · next au n0 r=>
     split at he
     · exact he.elim
     next F0 M0 Eg=>
     obtain⟨gu,wo⟩:=xO (cl:=cl) h Eg
     exact wp_mono (key _ _ F0 M0 gu he) (QQ.weaken (λ_ h=>h) (dx.refl _ _) wo)
  |exit id=>intro pos an F M nx a w ω K h he;exact wp_exit ⟨ω,F,M,nx,h,Rel.refl _ _ _,dx.refl _ _,he⟩
  |ret=>intro pos an F M nx a w ω K h he;exact wp_ret ⟨ω,F,M,nx,h,Rel.refl _ _ _,dx.refl _ _,he⟩
  |rangeFunc f p as b iha ihb=>intro pos an F M nx a w ω K h he;exact he.elim
  |scope x ih=>intro pos an F M nx a w ω K h he;exact he.elim
  |label l=>intro pos an F M nx a w ω K h he;exact he.elim
  |goto l=>intro pos an F M nx a w ω K h he;exact he.elim
  |refuse s=>intro pos an F M nx a w ω K h he;exact he.elim
/-! ### results, bodies -/
def zq (tmps:Array Value):ResultVar->Sem Value
  | .tmp t=>pure (tmps.getD t undef)
  | .cell ad t=>do loadVar t (<-asAddr (tmps.getD ad undef))
theorem Cs (hm:aR w ω M) (hF:dK w ω N F a.tmps): ∀(rs:List ResultVar) (K:List SV->Prop) (acc:List SV) (qW:List Value),bX w ω acc qW->qR P F M K rs acc->
    ∃vs l,(rs.mapM (zq a.tmps)).run P w= .ok vs w/\bX w ω l (qW.reverse++vs)/\K l
  | [],K,acc,qW,ha,he=>by
    refine⟨[],acc.reverse,by simp,?_,he⟩
    rw[List.append_nil]
    have rev: ∀{F:List SV} {l:List Value},bX w ω F l->bX w ω F.reverse l.reverse:=by
      intro F
      induction F with
      |nil=>intro l h;cases l with
       |nil=>trivial
       |cons _ _=>exact h.elim
      |cons s r ih=>intro l h;cases l with
       |nil=>exact h.elim
       |cons u t=>rw[List.reverse_cons,List.reverse_cons];exact(ih h.2).append ⟨h.1,trivial⟩
    exact rev ha
  | .tmp t::r,K,acc,qW,ha,he=>by
    have hd:Den w ω (look F t) (a.tmps.getD t undef):=hF.get t
    obtain⟨vs,l,J,U,h3⟩:=Cs hm hF r K (look F t::acc) (a.tmps.getD t undef::qW) ⟨hd,ha⟩ he
    refine⟨a.tmps.getD t undef::vs,l,?_,by simpa using U,h3⟩
    simp only[List.mapM_cons,zq,Sem.run_bind,Sem.run_pure,Result.andThen_ok,J]
  | .cell ad T::r,K,acc,qW,ha,he=>by
    have hd:Den w ω (look F ad) (a.tmps.getD ad undef):=hF.get ad
    simp only[qR]at he
    obtain⟨s,v,p,e,hr,hs,hK⟩:=HY hm hd he
    obtain⟨vs,l,J,U,h3⟩:=Cs hm hF r K (s::acc) (v::qW) ⟨hs,ha⟩ hK
    refine⟨v::vs,l,?_,by simpa using U,h3⟩
    have ha:(asAddr (a.tmps.getD ad undef)).run P w= .ok p w:=by rw[e];rfl
    simp only[List.mapM_cons,zq,Sem.run_bind,ha,Sem.run_pure,Result.andThen_ok,hr,J]
theorem HZ {l:List SV} {vs:List Value} (h:bX w ω l vs):(∃s v,l= [s]/\vs= [v]/\Den w ω s v)\/((∀s,l≠ [s])/\vs.length≠1):=by
  match l,vs,h with
  | [],[],_=>exact .inr ⟨by simp,by simp⟩
  | [s],[v],⟨h,_⟩=>exact .inl ⟨s,v,rfl,rfl,h⟩
  |_::_::_,_::_::_,_=>exact .inr ⟨by simp,by simp⟩
def Ow.less (o:Ow):Ow:=⟨λb=> ∃k p L,o.β k p=some L/\L.b=b,o.Z,o.β,o.cur⟩
theorem xP (hm:aR w ω M):Ext w ω w ω.less:=⟨rfl,rfl,rfl,λ_ _ _=>rfl,λb _ h h'=>h (hm.own b h'),λ_ _ _ h=>h,Nat.le_refl _,λ_=>⟨Nat.le_refl _,Nat.le_refl _⟩,λ_ _ _ h _=>h,λ_ h=>h⟩
theorem Kq (hm:aR w ω M):aR w ω.less M where
  cur:=hm.cur
  own:=λ_ h=>h
  d_:=λb h=>hm.d_ b (hm.own b h)
  dj:=λb h=>hm.dj b (hm.own b h)
  fD:=hm.fD
  inj:=hm.inj
  low:=hm.low
  row:=λk p L hL=>by
    obtain⟨r,J,U,h3,h4⟩:=hm.row k p L hL
    exact⟨r,J,U,h3,ma.ext (xP hm) rfl (λ_=>rfl) rfl h4⟩
  live:=hm.live
  eM:=hm.eM
theorem U' (hm:aR w ω M) {κ:List Nat} {B:List bh} (ht:aR w (eH ω κ B) (di 0 B)) {s:SV}: ∀{u:Value},Den w ω s u->Den w (eH ω κ B).less (jy (ae M) κ s) u:=by
  have hb:Ext w ω.bare w (eH ω κ B).less.bare:=(uq κ B).trans (xP ht).bare
  have bT: ∀{s:SV} {u:Value},Den w ω s u->Den w (eH ω κ B).less (da (fB (ae M) κ) false s) u:=λhd=>(uC hm κ B hd).ext (xP ht)
  have AO: ∀{s:SV} {u:Value},Den w ω s u->Den w (eH ω κ B).less (ro false 12 (ae M) κ s) u:=by
    intro s u hd
    refine(lh (al:=(eH ω κ B).less) hm ?_ hb (λ_ b h=>hm.dj b h) 12 hd).up
    rintro b ⟨q,p,L,J,U⟩
    obtain⟨k,e1,e2,_⟩:=sQ J
    exact⟨k,List.mem_of_getElem? e1,p,L,e2,U⟩
  induction s with
  |ptr k s p i j=>intro u hd;simp only[jy];split;exact bT hd;exact AO hd
  |pe k s p i j n z=>intro u hd;simp only[jy];split;exact bT hd;exact AO hd
  |aV k s p e n=>intro u hd;simp only[jy];split;exact bT hd;exact AO hd
  |sa k s p i j n=>intro u hd;simp only[jy];split;exact bT hd;exact AO hd
  |ag n f ih=>intro u hd;obtain⟨cs,rfl,hs,hj⟩:=hd;exact⟨cs,rfl,hs,λj br=>let⟨x,J,U⟩:=hj j br;⟨x,J,ih j U⟩⟩
  |tp n f ih=>intro u hd;obtain⟨cs,rfl,hs,hj⟩:=hd;exact⟨cs,rfl,hs,λj br=>let⟨x,J,U⟩:=hj j br;⟨x,J,ih j U⟩⟩
  |fn id n f ih=>intro u hd;obtain⟨cs,rfl,hs,hj⟩:=hd;exact⟨cs,rfl,hs,λj br=>let⟨x,J,U⟩:=hj j br;⟨x,J,ih j U⟩⟩
  |bm id s ih=>intro u hd;obtain⟨x,rfl,hx⟩:=hd;exact⟨x,rfl,ih hx⟩
  |mv nm s ih=>intro u hd;obtain⟨x,rfl,hx⟩:=hd;exact⟨x,rfl,ih hx⟩
  |ic t s ih=>intro u hd;obtain⟨x,rfl,hx⟩:=hd;exact⟨x,rfl,ih hx⟩
  |pt q n f=>intro u hd;exact Den.ext (o:=ω.bare) (o':=(eH ω κ B).less.bare) (s:= .pt q n f) hb hd
  |sl q sz n f=>intro u hd;exact Den.ext (o:=ω.bare) (o':=(eH ω κ B).less.bare) (s:= .sl q sz n f) hb hd
  |pa q sz n f=>intro u hd;exact Den.ext (o:=ω.bare) (o':=(eH ω κ B).less.bare) (s:= .pa q sz n f) hb hd
  |er t tf e z=>intro u hd;exact Den.ext (o:=ω.bare) (o':=(eH ω κ B).less.bare) (s:= .er t tf e z) hb hd
  |_=>intro u hd;exact hd
theorem BD {bf:List bh}: ∀{l t l':List SV} {M M':Mem} {nx:Nat} {vs:List Value},aR w ω M->bX w ω l vs->qy bf l t M nx=some (l',M')->bX w ω l' vs/\aR w ω M'/\Rel cl w ω M w ω M'
  | [],t,l',M,M',nx,vs,hm,hd,he=>by
    simp only[qy,Option.some.injEq,Prod.mk.injEq]at he
    obtain⟨rfl,rfl⟩:=he
    exact⟨hd,hm,Rel.refl _ _ _⟩
  |s::r,[],l',M,M',nx,vs,hm,hd,he=>by
   simp only[qy,Option.some.injEq,Prod.mk.injEq]at he
   obtain⟨rfl,rfl⟩:=he
   exact⟨hd,hm,Rel.refl _ _ _⟩
  |s::r,t::q,l',M,M',nx,[],hm,hd,he=>hd.elim
  |s::r,t::q,l',M,M',nx,v::vs,hm,⟨P',Qa⟩,he=>by
   unfold qy at he
   split at he
   · split at he
     · split at he
       · next x hx=>
         split at he
         · next y hy=>
           obtain⟨x1,x2⟩:=x
           simp only[Option.some.injEq,Prod.mk.injEq]at he
           obtain⟨rfl,rfl⟩:=he
           obtain⟨g1,g2,g3⟩:=HX (cl:=cl) hm P' hx
           obtain⟨k1,k2,k3⟩:=BD g2 Qa hy
           exact⟨⟨g1,k1⟩,k2,g3.trans k3⟩
         · cases he
       · cases he
     · cases he
   · split at he
     · next y hy=>
       simp only[Option.some.injEq,Prod.mk.injEq]at he
       obtain⟨rfl,rfl⟩:=he
       obtain⟨k1,k2,k3⟩:=BD hm Qa hy
       exact⟨⟨P',k1⟩,k2,k3⟩
     · cases he
theorem WS (h:St P Gl N F M a w ω) {nx:Nat} {fn:Func} {res:SV} {bf:List bh} (he:qR P F M (zp cl L M nx res bf) fn.results.toList []):
    ∃v al,(results fn a.tmps).run P w= .ok v w/\Den w al res v/\aR w al (di 0 bf)/\Rel cl w ω M w al (di 0 bf):=by
  obtain⟨vs,l,J,U,h3⟩:=Cs (a:=a) h.mem h.frame _ _ [] [] trivial he
  simp only[List.reverse_nil,List.nil_append]at U
  have hlen:=U.len
  have hr: ∀v,(v=if h:vs.toArray.size=1 then vs.toArray[0]else .tuple vs.toArray)->(results fn a.tmps).run P w= .ok v w:=by
    intro v hv
    have e:results fn a.tmps=(do let vs<-fn.results.mapM (zq a.tmps);pure (if h:vs.size=1 then vs[0]else .tuple vs)):=by
      unfold results
      congr 1
    rw[e]
    simp only[Array.mapM_eq_mapM_toList,Sem.run_bind,Sem.run_map,J,Result.andThen_ok,Sem.run_pure,hv]
  unfold zp at h3
  split at h3
  rotate_left
  · exact h3.elim
  next x hx=>
  obtain⟨l0,M0⟩:=x
  obtain⟨U,pA,m6⟩:=BD (cl:=cl) h.mem U hx
  have hlen:=U.len
  have h:St P Gl N [] M0 {a with tmps:=Array.replicate N undef} w ω:=⟨⟨by simp,λi u hu=>trivial,λi _=>rfl⟩,h.dY,pA,h.defers⟩
  revert h3 U hlen
  generalize l0=l
  intro h3 U hlen
  simp only[Mm]at h3
  split at h3
  · next hc=>
    revert hc h3
    generalize (kq (ae M0) L (l.flatMap mU)).take bf.length=κ
    intro hc h3
    obtain⟨h4,h5⟩:=h3
    obtain⟨g1,g2⟩:=h.OG hc h5
    have kh: ∀{s:SV} {x:Value},Den w ω s x->Den w (eH ω κ bf).less (jy (ae M0) κ s) x:=λhd=>U' h.mem g1 hd
    have g2:=m6.trans (g2.trans (Rel.of (cl:=cl) g1 (Kq g1) (xP g1)))
    have g1:=Kq g1
    split at h4
    · next s=>
      rcases HZ U with⟨s',v,e1,rfl,wq⟩|⟨h6,_⟩
      · obtain rfl:s=s':=by simpa using e1
        exact⟨v,_,hr v (by simp),p5 h4 (kh wq),g1,g2⟩
      · exact absurd rfl (h6 s)
    · next l' cf=>
      refine⟨.tuple vs.toArray,_,hr _ ?_,p5 h4 ⟨_,rfl,by simpa using hlen.symm,λj hj=>?_⟩,g1,g2⟩
      · rw[dif_neg]
        intro e
        rcases HZ U with⟨s,v,rfl,_⟩|⟨_,h6⟩
        · exact cf s rfl
        · exact h6 (by simpa using e)
      · obtain⟨x,e1,e2⟩:=U.get? j hj
        refine⟨x,by simpa using e1,?_⟩
        have:aH (l.map λs=>jy (ae M0) κ s) j=jy (ae M0) κ (l.getD j .aK):=by simp[aH,List.getD_eq_getElem?_getD,hj]
        rw[this]
        exact kh e2
  · exact h3.elim
theorem H0: ∀(l:List SV) (k i:Nat),i<l.length->look (nU k l) (k+i)=l.getD i .aK
  | [],_,_,h=>absurd h (by simp)
  |s::r,k,0,_=>by simp[nU,look_eq]
  |s::r,k,i+1,h=>by
   rw[nU,nC (by omega),show k+(i+1)=(k+1)+i by omega,H0 r (k+1) i (by simpa using h)]
   simp
theorem BW: ∀(l:List SV) (k i:Nat),k+l.length<=i->look (nU k l) i= .aK
  | [],_,_,_=>rfl
  |s::r,k,i,h=>by
   simp only[List.length_cons]at h
   rw[nU,nC (by omega),BW r (k+1) i (by omega)]
theorem U8 (hS:Sound P Gl Γ) {sg:Bool} {f:Nat} {fn:Func} (hf:P.funcs[f]? =some fn) {args:List SV} {mem:List bh} {an:List An} {res:SV} {bf:List bh} (he:yJ P sg Gl Γ fn args mem an res bf):ed P Gl f args mem res bf:=by
  intro w ω vs hG hm oU
  unfold yJ at he
  split at he
  · next c hc=>
    refine calls_of_wp hf hc ?_
    split at he
    · exact he.elim
    next hle=>
    have hle:=Nat.le_of_ble_eq_true hle
    have hlen:=oU.len
    simp at hlen
    have bH:St P Gl fn.ntmps (nU 0 args) (di 0 mem) {tmps:=vs++Array.replicate (fn.ntmps -vs.size) undef,defers:= []} w ω:=by
      refine⟨⟨by simp;omega,?_,?_⟩,hG,hm,rfl⟩
      · intro i u hu
        by_cases hi:i<args.length
        · obtain⟨x,J,U⟩:=oU.get? i hi
          rw[show look (nU 0 args) i=args.getD i .aK by have:=H0 args 0 i hi;rwa [Nat.zero_add]at this]
          rw[Array.getElem?_append_left (by omega)]at hu
          have J:vs[i]? =some x:=by simpa using J
          obtain rfl:=Option.some.inj (hu.symm.trans J)
          exact U
        · rw[BW args 0 i (by omega)]
          trivial
      · intro i hi
        exact BW args 0 i (by omega)
    refine wp_mono (R6 hS c _ (s7 an) _ _ _ _ w ω _ bH he) ?_
    have fin: ∀{a':Act} {w':World} {bY:Ow} {F1:Fr} {M1:Mem} {iQ:Nat},St P Gl fn.ntmps F1 M1 a' w' bY->Rel (tj mem) w ω (di 0 mem) w' bY M1->qR P F1 M1 (zp (tj mem) (Dr (ae (di 0 mem)) mem.length) M1 iQ res bf) fn.results.toList []->
     ∃v,(results fn a'.tmps).run P w'= .ok v w'/\ ∃v' al,(Ending.returned v)= .returned v'/\FN w ω w' al/\aR w' al (di 0 bf)/\Den w' al res v'/\ ∀k l,mem[k]? =some (.cells l)->al.β k none=ω.β k none:=by
      intro a' w' bY F1 M1 iQ J g1 hK
      obtain⟨v,al,hr,hd,eh,Fa⟩:=WS J hK
      have hR:=g1.trans Fa
      refine⟨v,hr,v,al,rfl,⟨hR.bare.os,hR.bare.tape,hR.bare.output,hR.bare.same,hR.bare.free,hR.bare.zs,hR.bare.size⟩,eh,hd,λk l hk=>?_⟩
      have AN:=(List.getElem?_eq_some_iff.1 hk).1
      have kj:k∈tj mem:=by
        unfold tj
        rw[List.mem_filter]
        exact⟨List.mem_range.2 AN,by simp[hk]⟩
      obtain⟨L,hL⟩:=hm.live k l (by rw[kC,hk])
      have h0:(ae (di 0 bf) k).rs=0:=by rw[kC];split<;>rfl
      rw[(hR.fZ k kj h0).2 L hL,hL]
    intro e a' w' hq
    cases e with
    |normal=>
     obtain⟨bY,F1,M1,iQ,J,g1,k1,hK⟩:=hq
     obtain⟨v,U,h3⟩:=fin J g1 hK
     exact⟨J.defers,v,U,h3⟩
    |ret=>
     obtain⟨bY,F1,M1,iQ,J,g1,k1,hK⟩:=hq
     obtain⟨v,U,h3⟩:=fin J g1 hK
     exact⟨J.defers,v,U,h3⟩
    |exit id=>obtain⟨_,_,_,_,_,_,_,hK⟩:=hq;exact hK.elim
    |goto l=>exact hq.elim
    |panic ch=>exact hq.elim
    |outgrown=>exact hq.elim
  · exact he.elim
end
end Go.Sy
set_option linter.unusedVariables false
set_option linter.unusedSimpArgs false
namespace Go.Sy
open Go.RowKit
def AL:List SV->List SV->Prop
  | [],[]=>True
  |a::r,b::t=>eQ a b/\AL r t
  |_,_=>False
theorem Km {w:World} {o:Ow}: ∀{l m:List SV} {us:List Value},AL l m->bX w o l us->bX w o m us
  | [],[],[],_,h=>h
  |_::_,_::_,_::_,⟨J,U⟩,⟨h3,h4⟩=>⟨p5 J h3,Km U h4⟩
  | [],_::_,_,h,_=>h.elim
  |_::_,[],_,h,_=>h.elim
  | [],[],_::_,_,h=>h.elim
  |_::_,_::_,[],_,h=>h.elim
def kV (mem:List bh):Nat->bk:=ae (di 0 mem)
theorem ed.more {P:Program} {Gl:Nat->SV} {f:Nat} {A:List SV} {B:List bh} {res:SV} {B':List bh} (h:ed P Gl f A B res B') {args:List SV} {mem:List bh}
    (ha:AL (args.map λs=>da (fB (kV mem) (List.range mem.length)) false s) A) (hb:ly (jw (kV mem) (List.range mem.length)) B):ed P Gl f args mem res B':=by
  intro w ω vs hG hm hd
  have hlen:mem.length=B.length:=by have:=yl hb;simpa [jw]using this
  have get: ∀{k:Nat},k<mem.length->(List.range mem.length)[k]? =some k:=λhk=>List.getElem?_range hk
  have AM: ∀k∈List.range mem.length,whole (ae (di 0 mem) k)=true:=by
    intro k hk
    have hk:=List.mem_range.1 hk
    have e1:(jw (kV mem) (List.range mem.length))[k]? =some (iM (fB (kV mem) (List.range mem.length)) false (kV mem k).b):=by
      simp[jw,hk]
    have hg:=ym hb e1 (List.getElem?_eq_getElem (by omega))
    have e2:ae (di 0 mem) k=⟨0,0,none,mem[k]⟩:=by rw[kC,List.getElem?_eq_getElem hk]
    unfold kV at hg
    rw[e2]at hg⊢
    cases jD:mem[k]with
    |dead=>rw[jD]at hg;exact hg.elim
    |cells _=>rfl
    |row _ _ _=>rfl
  have ht:=Kn hm List.nodup_range AM hb
  have kh: ∀{s:SV} {x:Value},Den w ω s x->Den w (eH ω (List.range mem.length) B) (da (fB (ae (di 0 mem)) (List.range mem.length)) false s) x:=λhd=>uC hm _ _ hd
  refine(h w (eH ω (List.range mem.length) B) vs (λg=>Den.ext (o:=ω.bare) (uq _ _) (hG g)) ht (Km ha (hd.map λs u hs=>kh hs))).mono ?_
  rintro e w' ⟨v,al,rfl,J,U,h3,h4⟩
  refine⟨v,al,rfl,⟨J.os,J.tape,J.output,J.same,J.free,J.fZ,J.size⟩,U,h3,λk l hk=>?_⟩
  have AN:=(List.getElem?_eq_some_iff.1 hk).1
  have e1:(jw (kV mem) (List.range mem.length))[k]? =some (iM (fB (kV mem) (List.range mem.length)) false (kV mem k).b):=by
    simp[jw,AN]
  have jD:B[k]? =some B[k]:=List.getElem?_eq_getElem (by omega)
  have hg:=ym hb e1 jD
  have e2:kV mem k=⟨0,0,none,.cells l⟩:=by unfold kV;rw[kC,hk]
  rw[e2]at hg
  cases hB:B[k]with
  |dead=>rw[hB]at hg;exact hg.elim
  |row _ _ _=>rw[hB]at hg;exact hg.elim
  |cells l'=>rw[h4 k l' (by rw[jD,hB]),xB (get AN)]
def av:SV->Int| .v (.int _ x)=>x|_=>0
def vm:SV->Bool| .v (.bool x)=>x| .bl x=>x|_=>false
def cy:SV->Nat->SV| .ag _ f,j=>f j| .tp _ f,j=>f j|_,_=> .aK
def bO:SV->Nat| .sl _ _ n _=>n|_=>0
def bF:SV->Nat->Nat->SV| .sl _ _ _ f,i,j=>f i j|_,_,_=> .aK
def bx:SV->Nat->SV| .pt _ _ f,j=>f j|_,_=> .aK
def P7:SV->Int| .er _ _ e _=>e| .v (.iface _ (.int _ c))=>c| .ic _ (.pt _ _ f)=>(match f 1 with| .er _ _ c _=>c| .v (.iface _ (.int _ c))=>c|_=>0)|_=>0
def P8:SV->Int| .er _ _ _ z=>z| .ic _ (.pt _ _ f)=>(match f 0 with| .v (.int _ a)=>a|_=>0)|_=> -1
structure Spec where
  X:Type
  args:X->List SV
  mem:X->List bh
  pre:X->Prop
  res:X->SV
  bf:X->List bh
  dec:List SV->List bh->Option X
def Spec.g (s:Spec) (args:List SV) (mem:List bh):Option (Prop×SV×List bh):=
  match s.dec args mem with
  |some x=>some (AL (args.map λs=>da (fB (kV mem) (List.range mem.length)) false s) (s.args x)/\ly (jw (kV mem) (List.range mem.length)) (s.mem x)/\s.pre x,s.res x,s.bf x)
  |none=>none
structure aL (P:Program) (Gl:Nat->SV) (f:Nat) (c:aQ):Prop where
  call: ∀(l:Array Value) (w:World),(callFunc f l).run P w= .ok (.enter f l) w
  fn: ∀args mem pre res bf,c.g args mem=some (pre,res,bf)->pre->ed P Gl f args mem res bf
  pj: ∀n,c.pj=some n->OE P f n
theorem p6 {P:Program} {Gl:Nat->SV} {f:Nat} {ws:List Bool} {s:Spec} (hc: ∀(l:Array Value) (w:World),(callFunc f l).run P w= .ok (.enter f l) w)
    (h: ∀x,s.pre x->ed P Gl f (s.args x) (s.mem x) (s.res x) (s.bf x)):aL P Gl f ⟨ws,s.g,none⟩:=by
  refine⟨hc,λargs mem pre res bf e hp=>?_,λn e=>nomatch e⟩
  have e:s.g args mem=some (pre,res,bf):=e
  unfold Spec.g at e
  split at e
  · next x hx=>
    simp only[Option.some.injEq,Prod.mk.injEq]at e
    obtain⟨rfl,rfl,rfl⟩:=e
    exact(h x hp.2.2).more hp.1 hp.2.1
  · cases e
def aQ.or (a b:aQ):aQ:=⟨a.ws,λl m=>match a.g l m with|some x=>some x|none=>b.g l m,none⟩
theorem aL.or {P:Program} {Gl:Nat->SV} {f:Nat} {a b:aQ} (ha:aL P Gl f a) (hb:aL P Gl f b):aL P Gl f (a.or b):=by
  refine⟨ha.call,λargs mem pre res bf e hp=>?_,λn e=>nomatch e⟩
  have e:(match a.g args mem with|some x=>some x|none=>b.g args mem)=some (pre,res,bf):=e
  split at e
  · next x hx=>
    obtain rfl:=Option.some.inj e
    exact ha.fn args mem _ _ _ hx hp
  · exact hb.fn args mem pre res bf e hp
def fN (k:Nat):SV->Bool
  | .fn id _ _=>Nat.beq id k
  |_=>false
def dc:SV->Nat->SV
  | .fn _ _ f,j=>f j
  |_,_=> .aK
def m5:List (Nat×aQ)->Table
  | [],_=>none
  |p::r,f=>match Nat.beq p.1 f with|true=>some p.2|false=>m5 r f
section
variable {P:Program} {Gl:Nat->SV}
theorem R4:Sound P Gl (m5 []):=⟨λ_ _ h=>(nomatch h),λ_ _ _ _ _ _ _ h=>(nomatch h),λ_ _ _ h=>(nomatch h)⟩
theorem Rw {g:Nat} {s:aQ} {r:List (Nat×aQ)} (h:aL P Gl g s) (hr:Sound P Gl (m5 r)):Sound P Gl (m5 ((g,s)::r)):=by
  constructor
  · intro f c e
    simp only[m5]at e
    split at e
    · next hb=>obtain rfl:=Nat.eq_of_beq_eq_true hb;exact h.call
    · exact hr.call f c e
  · intro f c args mem pre res bf e
    simp only[m5]at e
    split at e
    · next hb=>
      obtain rfl:=Nat.eq_of_beq_eq_true hb
      obtain rfl:=Option.some.inj e
      exact h.fn args mem pre res bf
    · exact hr.fn f c args mem pre res bf e
  · intro f c n e
    simp only[m5]at e
    split at e
    · next hb=>
      obtain rfl:=Nat.eq_of_beq_eq_true hb
      obtain rfl:=Option.some.inj e
      exact h.pj n
    · exact hr.pj f c n e
theorem gG {Γ:Table} (hS:Sound P Gl Γ) (sg:Bool) {f:Nat} {fn:Func} (hf:P.funcs[f]? =some fn) {args:List SV} {mem:List bh} (an:List An) {res:SV} {bf:List bh} {V:Prop} (he:yJ P sg Gl Γ fn args mem an res bf=V) (hV:V):ed P Gl f args mem res bf:=
  U8 hS hf (he▸hV)
end
def ZN:bh->Nat| .row _ n _=>n|_=>0
def Pz:bh->Nat->Nat->SV| .row _ _ f=>f| .cells l=>λ_ j=>aH l j| .dead=>λ_ _=> .aK
def ki (mem:List bh) (k:Nat):Nat:=ZN (mem.getD k .dead)
def jc (mem:List bh) (k i j:Nat):SV:=Pz (mem.getD k .dead) i j
def ZO (mem:List bh) (k j:Nat):SV:=Pz (mem.getD k .dead) 0 j
def FF:SV->Nat| .il _ n _=>n| .sl _ _ n _=>n|_=>0
def FG:SV->Nat->Nat->SV| .il _ _ f,i,j=>f i j| .sl _ _ _ f,i,j=>f i j|_,_,_=> .aK
def tn:Nat->Prop->Prop
  |0,p=>p
  |n+1,p=>True/\tn n p
abbrev ah (x:Int):Int:=IntKind.wrap .i64 x
section
variable {P:Program} {Gl:Nat->SV}
theorem Sound.nil:Sound P Gl (m5 []):=R4
theorem Sound.cons {g:Nat} {s:aQ} {r:List (Nat×aQ)} (h:aL P Gl g s) (hr:Sound P Gl (m5 r)):Sound P Gl (m5 ((g,s)::r)):=Rw h hr
theorem aW {f:Nat} {fn:Func} {ws:List Bool} {s:Spec} {Γ:Table} (hS:Sound P Gl Γ) (sg:Bool) (hc: ∀(l:Array Value) (w:World),(callFunc f l).run P w= .ok (.enter f l) w) (hf:P.funcs[f]? =some fn) (an:s.X->List An) {V:s.X->Prop}
    (he: ∀x,yJ P sg Gl Γ fn (s.args x) (s.mem x) (an x) (s.res x) (s.bf x)=V x) (hV: ∀x,s.pre x->V x):aL P Gl f ⟨ws,s.g,none⟩:=
  p6 hc λx hp=>gG hS sg hf (an x) (he x) (hV x hp)
end
theorem aS:(∀p:Prop,(True/\p)=p)/\(∀p:Prop,(p/\True)=p)/\(∀p:Prop,(p/\p)=p)/\(∀n:Nat,((n:Nat):Int).toNat=n)/\(∀n:Nat,0+n=n)/\(∀n:Nat,(0:Int)<=(n:Int))/\(∀n:Nat,¬n<0)/\(∀p:Prop,(False->p)=True)/\(∀n:Nat,0<=n)/\((0:Nat):Int)=0:=
  ⟨true_and,and_true,and_self,Int.toNat_natCast,Nat.zero_add,Int.natCast_nonneg,Nat.not_lt_zero,false_implies,Nat.zero_le,Int.natCast_zero⟩
theorem aZ:(∀c f:Bool,(bif c then true else f)=(c||f))/\(∀c t:Bool,(bif c then t else false)=(c&&t))/\(∀c t:Bool,(bif c then t else true)=(!c||t))/\(∀c f:Bool,(bif c then false else f)=(!c&&f)):=
  ⟨Bool.cond_true_left,Bool.cond_false_right,Bool.cond_true_right,Bool.cond_false_left⟩
end Go.Sy
