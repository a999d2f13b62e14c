/-
  Sy, part 17: whole bodies.
-/
import Derived.Test.YtbngaammbjaajaaGreatDoorYG
import Derived.Deep.LoopGhost
set_option linter.unusedVariables false
set_option linter.unusedSimpArgs false
set_option linter.unusedVariables false
set_option linter.unusedSimpArgs false
namespace Go.Sy
open Go.RowKit
inductive Ex where
  |normal|exit (id:Nat)|ret
structure bH where
  σ:Type
  rt:List (Nat×Nat)
  sh:σ->List (Nat×SV)
  mh:σ->List (Nat×aO)
  inv:σ->Prop
  μ:σ->Nat
  init:σ
  nc:List (Nat×Nat×Nat):= []
structure Cut where
  σ:Type
  rt:List (Nat×Nat)
  sh:σ->List (Nat×SV)
  mem:σ->List aO
  inv:σ->Prop
  dec:(Nat->SV)->List aO->σ
  nc:List (Nat×Nat×Nat):= []
inductive An where
  |Ct (au:Bool) (a:bH)
  |xR (a:bH) (sub:a.σ->List An)
  |jH (a:bH) (sub:a.σ->List An)
  |pk (au:Bool) (g:(Nat->SV)->bH)
  |kJ (n:Nat)
  |dec
  |Cu (l:List Nat)
  |cut (r:Nat) (c:Cut)
def An.inv (a:bH):An:= .Ct false a
def Km (F:Fr):List An->List An
  | .pk au g::r=> .Ct au (g λd=>look F d)::r
  |l=>l
def nr:Code->Nat
  | .region _ _ _=>1
  | .seq x y=>nr x+nr y
  | .cond _ x y=>nr x+nr y
  | .block _ x=>nr x
  | .loop x=>nr x
  |_=>0
def KR:Code->Bool
  | .exit _=>true
  |_=>false
def Ta (dl:Option (List Nat)) (pos:Nat) (x y:Code):Bool:=match dl with|none=>false|some []=>(match KR x with|true=>true|false=>KR y)|some (p::r)=>cb (p::r) pos
def nl:Code->Nat
  | .seq x y=>nl x+nl y
  | .cond _ x y=>nl x+nl y
  | .block _ x=>nl x
  | .loop x=>nl x+1
  |_=>0
def assigned:Code->List Nat
  | .region _ ops _=>ops.toList.filterMap (·.dst)
  | .seq x y=>assigned x++assigned y
  | .cond _ x y=>assigned x++assigned y
  | .block _ x=>assigned x
  | .loop x=>assigned x
  |_=> []
def lF:SV->Bool
  | .aq=>true
  | .v _=>true
  | .bl _=>true
  | .pt _ _ _=>true
  | .sl _ _ _ _=>true
  | .pa _ _ _ _=>true
  | .il _ _ _=>true
  | .er _ _ _ _=>true
  | .es=>true
  | .ag n f=>(List.range n).all λj=>lF (f j)
  | .tp n f=>(List.range n).all λj=>lF (f j)
  | .fn _ n f=>(List.range n).all λj=>lF (f j)
  | .bm _ s=>lF s
  | .mv _ s=>lF s
  | .ic _ s=>lF s
  |_=>false
def oY (l:List Nat) (F:Fr):Fr:=F.map λp=>(p.1,match cb l p.1,lF p.2 with|false,true=>p.2|_,_=> .aq)
def qW (N:Nat) (F:Fr):List (Nat×SV)->Fr
  | []=>F
  |p::r=>qW N (eY N F (some p.1) p.2) r
def rootOf:SV->Option Nat
  | .ptr k _ _ _ _=>some k
  | .pe k _ _ _ _ _ _=>some k
  | .aw k _ _ _ _=>some k
  | .sa k _ _ _ _ _=>some k
  |_=>none
def sP (F:Fr):List (Nat×Nat)->Option (List Nat)
  | []=>some []
  |d::r=>match rootOf (look F d.1),sP F r with|some k,some l=>some (k::l)|_,_=>none
def wR (M:Mem) (nx sz:Nat) (s:SV):Option (SV×Mem):=
  match qt s with
  |true=>(match bR (aa M) nx with|true=>some (.aw nx (aa M nx).rs none 0 0,fresh M nx (.row sz 0 λ_ _=> .aq))|false=>none)
  |false=>some (s,M)
def tH (N:Nat):List (Nat×Nat)->Fr->Mem->Nat->Option (Fr×Mem)
  | [],F,M,_=>some (F,M)
  |d::r,F,M,nx=>match wR M nx d.2 (look F d.1),Nat.blt d.1 N with|some p,true=>tH N r ((d.1,p.1)::F) p.2 (nx+1)|_,_=>none
def ji (m:Nat->aP) (L l:List Nat):List Nat:=reach m 200 (L++l) []
def A2 (m:Nat->aP) (n:Nat):List Nat:=((List.range n).foldl (λ(acc:List Nat×List Nat) k=>match cb acc.2 k with|true=>acc|false=>(acc.1++ [k],reach m 200 [k] acc.2)) ([],[])).1
def stays (κ:List Nat) (k:Nat):Bool:=match κ[k]? with|some k'=>Nat.beq k' k|none=>false
def te:List (Nat×Nat×Nat)->Fr->Mem->Nat->Option Mem
  | [],F,M,_=>some M
  |d::r,F,M,nx=>
   match look F d.1 with
   | .ptr k s none _ _=>
     match bT (aa M) k s none,(aa M k).hl,(aa M k).b with
     |true,none,.cells l=>
      match l.all λs=>!bY s,qt (aA l d.2.1),bR (aa M) nx with
      |true,true,true=>te r F ((k,⟨(aa M k).rs,(aa M k).ds,none,.cells (l.set d.2.1 (.aw nx (aa M nx).rs none 0 0))⟩)::fresh M nx (.row d.2.2 0 λ_ _=> .aq)) (nx+1)
      |true,false,_=>te r F M (nx+1)
      |_,_,_=>none
     |_,_,_=>none
   |_=>none
def oZ (N:Nat) (rt:List (Nat×Nat)) (nc:List (Nat×Nat×Nat)) (F:Fr) (M:Mem) (nx:Nat):Option (Fr×Mem):=
  match tH N rt F M nx with
  |some x=>match te nc x.1 x.2 (nx+20)with|some M=>some (x.1,M)|none=>none
  |none=>none
def nM (cl:List Nat) (m:Nat->aP) (κ:List Nat):Bool:=
  match nodupB κ,κ.all λk=>whole (m k),cl.all λk=>stays κ k&&Nat.beq (m k).rs 0 with
  |true,true,true=>true
  |_,_,_=>false
def ir (m:Nat->aP) (κ:List Nat):List aO:=κ.map λk=>gw (d_ m κ) false (m k).b
def nR:List (Nat×aO)->List aO->List aO
  | [],B=>B
  |p::r,B=>nR r (B.set p.1 p.2)
def Cv:aO->Nat->Nat->Prop
  | .row sz n _,i,j=>i<n/\j<sz
  |_,_,_=>True
theorem Qe {b:aO} {i j:Nat} (h:Cv b i j):lO b i j=true:=by
  unfold Cv at h
  split at h
  · simp only[lO,Bool.and_eq_true]
    exact⟨by simpa [Nat.blt_eq]using h.1,by simpa [Nat.blt_eq]using h.2⟩
  · next hn=>unfold lO;split
             · next sz n f=>exact absurd rfl (hn sz n f)
             · rfl
def ub (m:Nat->aP) (κ:List Nat) (B:List aO) (x y:SV):Prop:=
  match y with
  | .aw k' s' (some uc) e' n'=>
    match x with
    | .aw k s (some ij) e n=>
      match idx κ k,bT m k s (some ij),Nat.beq s' 0 with
      |some q,true,true=>(match Nat.beq q k' with|true=>Cv (B.getD q .dead) ij.1 ij.2/\ij.1=uc.1/\ij.2=uc.2/\e=e'/\n=n'|false=>False)
      |_,_,_=>False
    |x=>dz (cD (d_ m κ) false x) (.aw k' s' (some uc) e' n')
  |y=>dz (cD (d_ m κ) false x) y
def ud (m:Nat->aP) (κ:List Nat) (B:List aO) (F:Fr):List (Nat×SV)->Prop->Prop
  | [],R=>R
  |p::r,R=>ub m κ B (look F p.1) p.2/\ud m κ B F r R
def sn (m:Nat->aP) (ue:List Nat):Fr->List Nat->List Nat
  | [],_=> []
  |p::r,seen=>
   match cb seen p.1||cb ue p.1 with
   |true=>sn m ue r (p.1::seen)
   |false=>
    match p.2 with
    | .ptr k s none _ _=>
      match bT m k s none,(m k).b with
      |true,.cells _=>p.1::sn m ue r (p.1::seen)
      |_,_=>sn m ue r (p.1::seen)
    |_=>sn m ue r (p.1::seen)
def JE (au:Bool) (L:List Nat) (F:Fr) (M:Mem) (x:Code) (n:bH):bH:=
  match au with
  |false=>n
  |true=>
   let ds:=sn (aa M) (assigned x) F []
   match sP F (n.rt++ds.map λd=>(d,0))with
   |some l=>{n with rt:=n.rt++ds.map λd=>(d,0),sh:=λs=>(ds.map λd=>(d,cD (d_ (aa M) (ji (aa M) L l)) false (look F d)))++n.sh s}
   |none=>n
abbrev KK:=Ex->Fr->Mem->Nat->Prop
def xj (b:Fr->Mem->Nat->KK->Prop) (K:KK):Nat->Fr->Mem->Nat->Prop
  |0,_,_,_=>False
  |n+1,F,M,nx=>b F M nx λe F M nx=>match e with| .normal=>xj b K n F M nx|e=>K e F M nx
def cutAt (eH:Nat->Option Cut) (k:Nat):Nat->Option Cut
  |0=>none
  |_+1=>eH k
def mark (F:Fr) (M:Mem) (K:Fr->Mem->Prop):Prop:=rr [] F λF=>qX [] M λM=>K F M
theorem vx {F:Fr} {M:Mem} {K:Fr->Mem->Prop} (h:mark F M K): ∃F' M',(∀t,look F' t=look F t)/\(∀k,aa M' k=aa M k)/\K F' M':=by
  obtain⟨F',J,U⟩:=vK _ _ _ h
  obtain⟨M',h3,h4⟩:=vy _ _ _ J
  exact⟨F',M',λt=>U t rfl,λk=>h4 k rfl,h3⟩
def th (ev:List An->Fr->Mem->Nat->(Ex->Fr->Mem->Nat->Prop)->Prop) (N:Nat) (cl L ax:List Nat) (n:bH) (s0:n.σ) (sub:n.σ->List An) (F:Fr) (M:Mem) (nx:Nat) (K:Ex->Fr->Mem->Nat->Prop):Prop:=
  match sP F n.rt with
  |some l=>
   let κ:=ji (aa M) L l
   let B:=ir (aa M) κ
   match nM cl (aa M) κ with
   |true=>ud (aa M) κ (nR (n.mh s0) B) F (n.sh s0) (kg B (nR (n.mh s0) B)/\n.inv s0/\ ∀s,n.inv s->
      mark (qW N (oY ax F) (n.sh s)) (cF 0 (nR (n.mh s) B)) λF M=>ev (sub s) F M nx λe F' M' cH=>
        match e with
        | .normal=>
          match oZ N n.rt n.nc F' M' cH with
          |none=>False
          |some (F',M')=>
          match sP F' n.rt with
          |some l'=>
           match nM cl (aa M') (ji (aa M') L l')with
           |true=> ∃s',ud (aa M') (ji (aa M') L l') (nR (n.mh s') B) F' (n.sh s') (kg (ir (aa M') (ji (aa M') L l')) (nR (n.mh s') B)/\n.inv s'/\n.μ s'<n.μ s)
           |false=>False
          |none=>False
        |e=>K e F' M' cH)
   |false=>False
  |none=>False
def dH (P:Program) (dl:Option (List Nat)) (sg:Bool) (Gl:Nat->SV) (Γ:Table) (N:Nat) (cl:List Nat) (L:List Nat) (eH:Nat->Option Cut):Code->Nat->List An->Fr->Mem->Nat->KK->Prop
  | .skip,_,_,F,M,nx,K=>K .normal F M nx
  | .region _ ops draw,_,_,F,M,nx,K=>
    match draw with
    |false=>iZ P sg Gl Γ N ops.toList (K .normal) ops.toList F M nx []
    |true=>Ar P sg Gl Γ N ops.toList (K .normal) F M nx
  | .seq x y,pos,an,F,M,nx,K=>
    match cutAt eH (pos+nr x) (nr y)with
    |none=>dH P dl sg Gl Γ N cl L eH x pos (an.take (nl x)) F M nx λe F M nx=>match e with| .normal=>dH P dl sg Gl Γ N cl L eH y (pos+nr x) (an.drop (nl x)) F M nx K|e=>K e F M nx
    |some c=>(dH P dl sg Gl Γ N cl L eH x pos (an.take (nl x)) F M nx λe F' M' cH=>
       match e with
       | .normal=>
         match oZ N c.rt c.nc F' M' cH with
         |none=>False
         |some (F',M')=>
         match sP F' c.rt with
         |some l'=>
          match nM cl (aa M') (ji (aa M') L l')with
          |true=>
           let s':=c.dec (λd=>cD (d_ (aa M') (ji (aa M') L l')) false (look F' d)) (ir (aa M') (ji (aa M') L l'))
           ud (aa M') (ji (aa M') L l') (c.mem s') F' (c.sh s') (kg (ir (aa M') (ji (aa M') L l')) (c.mem s')/\c.inv s')
          |false=>False
         |none=>False
       |e=>K e F' M' cH)/\
     ∀s,c.inv s->mark (qW N (oY (assigned x) F) (c.sh s)) (cF 0 (c.mem s)) λF M=>dH P dl sg Gl Γ N cl L eH y (pos+nr x) (an.drop (nl x)) F M nx K
  | .cond c x y,pos,an,F,M,nx,K=>
    match bZ Gl F c with
    | .bl true=>dH P dl sg Gl Γ N cl L eH x pos (an.take (nl x)) F M nx K
    | .bl false=>dH P dl sg Gl Γ N cl L eH y (pos+nr x) (an.drop (nl x)) F M nx K
    | .v (.bool b)=>
      match Ta dl pos x y with
      |true=>(match b with|true=>dH P dl sg Gl Γ N cl L eH x pos (an.take (nl x)) F M nx K|false=>dH P dl sg Gl Γ N cl L eH y (pos+nr x) (an.drop (nl x)) F M nx K)
      |false=>(b=true->mark F M λF M=>dH P dl sg Gl Γ N cl L eH x pos (an.take (nl x)) F M nx K)/\(b=false->mark F M λF M=>dH P dl sg Gl Γ N cl L eH y (pos+nr x) (an.drop (nl x)) F M nx K)
    |_=>False
  | .block id x,pos,an,F,M,nx,K=>dH P dl sg Gl Γ N cl L eH x pos an F M nx λe F M nx=>match e with| .exit i=>(match Nat.beq i id with|true=>K .normal F M nx|false=>K (.exit i) F M nx)|e=>K e F M nx
  | .loop x,pos,an,F,M,nx,K=>
    match Km F an with
    | []=>False
    | .dec::_=>False
    | .Cu _::_=>False
    | .cut _ _::_=>False
    | .pk _ _::_=>False
    | .kJ n::r=>xj (dH P dl sg Gl Γ N cl L eH x pos r) K n F M nx
    | .xR n sub::_=>
      match oZ N n.rt n.nc F M nx with
      |none=>False
      |some (F,M)=>th (dH P dl sg Gl Γ N cl L eH x pos) N cl L (assigned x) n n.init sub F M nx K
    | .jH n sub::_=>
      match oZ N n.rt n.nc F M nx with
      |none=>False
      |some (F,M)=> ∃s0,th (dH P dl sg Gl Γ N cl L eH x pos) N cl L (assigned x) n s0 sub F M nx K
    | .Ct au n0::r=>
      match oZ N n0.rt n0.nc F M nx with
      |none=>False
      |some (F,M)=>th (dH P dl sg Gl Γ N cl L eH x pos) N cl L (assigned x) (JE au L F M x n0) (JE au L F M x n0).init (λ_=>r) F M nx K
  | .exit id,_,_,F,M,nx,K=>K (.exit id) F M nx
  | .ret,_,_,F,M,nx,K=>K .ret F M nx
  |_,_,_,_,_,_,_=>False
def o_ (P:Program) (F:Fr) (M:Mem) (K:List SV->Prop):List ResultVar->List SV->Prop
  | [],acc=>K acc.reverse
  | .tmp t::r,acc=>o_ P F M K r (look F t::acc)
  | .cell ad T::r,acc=>(sY P T (look F ad) (aa M)).run λs=>o_ P F M K r (s::acc)
def iv (m:Nat->aP) (κ:List Nat):SV->SV
  | .ptr k s p i j=>match idx κ k with|some _=>cD (d_ m κ) false (.ptr k s p i j)|none=>ro false 12 m κ (.ptr k s p i j)
  | .pe k s p i j n z=>match idx κ k with|some _=>cD (d_ m κ) false (.pe k s p i j n z)|none=>ro false 12 m κ (.pe k s p i j n z)
  | .aw k s p e n=>match idx κ k with|some _=>cD (d_ m κ) false (.aw k s p e n)|none=>ro false 12 m κ (.aw k s p e n)
  | .sa k s p i j n=>match idx κ k with|some _=>cD (d_ m κ) false (.sa k s p i j n)|none=>ro false 12 m κ (.sa k s p i j n)
  | .ag n f=> .ag n λj=>iv m κ (f j)
  | .tp n f=> .tp n λj=>iv m κ (f j)
  | .fn id n f=> .fn id n λj=>iv m κ (f j)
  | .bm id s=> .bm id (iv m κ s)
  | .mv nm s=> .mv nm (iv m κ s)
  | .ic t s=> .ic t (iv m κ s)
  |s=>s
def oM (ba:List aO):List SV->List SV->Mem->Nat->Option (List SV×Mem)
  |s::r,t::q,M,nx=>
   match t with
   | .aw k _ none _ _=>
     match ba[k]? with
     |some (.row sz _ _)=>match wR M nx sz s with|some x=>(match oM ba r q x.2 (nx+1)with|some y=>some (x.1::y.1,y.2)|none=>none)|none=>none
     |_=>none
   |_=>match oM ba r q M nx with|some y=>some (s::y.1,y.2)|none=>none
  |l,_,M,_=>some (l,M)
def Tb (n:Nat) (res:SV):List SV:=match n,res with|1,r=> [r]|n,.tp _ f=>(List.range n).map f|_,_=> []
def Ib (cl:List Nat) (L:List Nat) (M:Mem) (res:SV) (ba:List aO) (l:List SV):Prop:=
  let κ:=(ji (aa M) L (l.flatMap lL)).take ba.length
  match nM cl (aa M) κ with
  |true=>(match l with| [s]=>dz (iv (aa M) κ s) res|l=>dz (.tp l.length (aA (l.map λs=>iv (aa M) κ s))) res)/\kg (ir (aa M) κ) ba
  |false=>False
def xk (cl:List Nat) (L:List Nat) (M:Mem) (nx:Nat) (res:SV) (ba:List aO) (l:List SV):Prop:=
  match oM ba l (Tb l.length res) M nx with
  |some x=>Ib cl L x.2 res ba x.1
  |none=>False
def mO:Nat->List SV->Fr
  |_,[]=> []
  |i,s::r=>(i,s)::mO (i+1) r
def qY (kp:Bool) (mem:List aO):List Nat:=(List.range mem.length).filter λk=>mE kp mem[k]?
def JF:List An->Option (List Nat)
  | []=>none
  | .dec::_=>some []
  | .Cu l::_=>some l
  |_::r=>JF r
def qM:List An->List An
  | []=> []
  | .dec::r=>qM r
  | .Cu _::r=>qM r
  | .cut _ _::r=>qM r
  |a::r=>a::qM r
def A3:List An->Nat->Option Cut
  | [],_=>none
  | .cut k c::r,n=>match Nat.beq k n with|true=>some c|false=>A3 r n
  |_::r,n=>A3 r n
def wQ (P:Program) (sg:Bool) (Gl:Nat->SV) (Γ:Table) (fn:Func) (args:List SV) (mem:List aO) (an:List An) (res:SV) (ba:List aO):Prop:=
  match fn.body with
  |some c=>match Nat.ble args.length fn.ntmps with
   |false=>False
   |true=>dH P (JF an) sg Gl Γ fn.ntmps (qY (kQ res) mem) (A2 (aa (cF 0 mem)) mem.length) (A3 an) c 0 (qM an) (mO 0 args) (cF 0 mem) 100 λe F M nx=>
    match e with
    | .exit _=>False
    |_=>o_ P F M (xk (qY (kQ res) mem) (A2 (aa (cF 0 mem)) mem.length) M nx res ba) fn.results.toList []
  |none=>False
section
variable {P:Program} {w:World} {ω:Ow} {Gl:Nat->SV} {Γ:Table} {N:Nat} {F:Fr} {M:Mem} {a:Act} {cl:List Nat} {L:List Nat}
structure Rel (cl:List Nat) (w1:World) (bC:Ow) (M1:Mem) (w:World) (ω:Ow) (M:Mem):Prop where
  bare:Ext w1 bC.bare w ω.bare
  eX: ∀k∈cl,(aa M k).rs=0->(aa M1 k).rs=0/\ ∀L,bC.β k none=some L->ω.β k none=some L
theorem Rel.refl (w:World) (ω:Ow) (M:Mem):Rel cl w ω M w ω M:=⟨Ext.refl _ _,λ_ _ h=>⟨h,λ_ h=>h⟩⟩
theorem Rel.trans {w1 w2 w3:World} {bC fY ml:Ow} {M1 M2 M3:Mem} (h:Rel cl w1 bC M1 w2 fY M2) (k:Rel cl w2 fY M2 w3 ml M3):Rel cl w1 bC M1 w3 ml M3:=
  ⟨h.bare.trans k.bare,λq hq h0=>let⟨e1,e2⟩:=k.eX q hq h0;let⟨e3,e4⟩:=h.eX q hq e1;⟨e3,λL hL=>e2 L (e4 L hL)⟩⟩
theorem Rel.of {w1:World} {bC:Ow} {M1:Mem} (J:ay w1 bC M1) (U:ay w ω M) (he:Ext w1 bC w ω):Rel cl w1 bC M1 w ω M:=by
  refine⟨he.bare,λk _ h0=>?_⟩
  have hm:=(he.mono k).1
  rw[J.cur,U.cur]at hm
  have hm:(aa M1 k).rs<=(aa M k).rs:=hm
  refine⟨by omega,λL hL=>he.ki k none L hL ?_⟩
  rw[J.cur,U.cur]
  show(aa M k).rs=(aa M1 k).rs
  omega
def fA (P:Program) (Gl:Nat->SV) (N:Nat) (cl:List Nat) (S:List Nat) (a0:Act) (w1:World) (bC:Ow) (M1:Mem) (K:Fr->Mem->Nat->Prop) (a:Act) (w:World):Prop:=
  ∃ω F M nx,St P Gl N F M a w ω/\Rel cl w1 bC M1 w ω M/\cJ S a0 a/\K F M nx
theorem fA.weaken {S S':List Nat} {a0 a1:Act} {w1 w2:World} {bC fY:Ow} {M1 M2:Mem} {K K':Fr->Mem->Nat->Prop} {a:Act} {w:World} (h:fA P Gl N cl S a1 w2 fY M2 K a w)
    (hS: ∀i∈S,i∈S') (hk:cJ S' a0 a1) (hg:Rel cl w1 bC M1 w2 fY M2) (hK: ∀F M nx,K F M nx->K' F M nx):fA P Gl N cl S' a0 w1 bC M1 K' a w:=by
  obtain⟨ω,F,M,nx,J,U,h3,h4⟩:=h
  exact⟨ω,F,M,nx,J,hg.trans U,hk.trans (h3.mono hS),hK _ _ _ h4⟩
def QQ (P:Program) (Gl:Nat->SV) (N:Nat) (cl:List Nat) (S:List Nat) (a0:Act) (w1:World) (bC:Ow) (M1:Mem) (K:KK):Exit->Act->World->Prop
  | .normal,a,w=>fA P Gl N cl S a0 w1 bC M1 (K .normal) a w
  | .exit id,a,w=>fA P Gl N cl S a0 w1 bC M1 (K (.exit id)) a w
  | .ret,a,w=>fA P Gl N cl S a0 w1 bC M1 (K .ret) a w
  |_,_,_=>False
theorem QQ.weaken {S S':List Nat} {a0 a1:Act} {w1 w2:World} {bC fY:Ow} {M1 M2:Mem} {K:KK} (hS: ∀i∈S,i∈S') (hk:cJ S' a0 a1) (hg:Rel cl w1 bC M1 w2 fY M2):
    ∀e a w,QQ P Gl N cl S a1 w2 fY M2 K e a w->QQ P Gl N cl S' a0 w1 bC M1 K e a w
  | .normal,_,_,h=>fA.weaken h hS hk hg λ_ _ _ h=>h
  | .exit _,_,_,h=>fA.weaken h hS hk hg λ_ _ _ h=>h
  | .ret,_,_,h=>fA.weaken h hS hk hg λ_ _ _ h=>h
  | .goto _,_,_,h=>h
  | .panic _,_,_,h=>h
  | .outgrown,_,_,h=>h
theorem Rel.congr {w1:World} {bC:Ow} {M1 M':Mem} (h:Rel cl w1 bC M1 w ω M) (hM: ∀k,aa M' k=aa M k):Rel cl w1 bC M1 w ω M':=⟨h.bare,λk hk h0=>h.eX k hk (by rw[<-hM];exact h0)⟩
theorem Rel.Qf {w1:World} {bC:Ow} {M1 M':Mem} (h:Rel cl w1 bC M' w ω M) (hM: ∀k,aa M' k=aa M1 k):Rel cl w1 bC M1 w ω M:=⟨h.bare,λk hk h0=>by rw[<-hM];exact h.eX k hk h0⟩
theorem QQ.congr {S:List Nat} {a0:Act} {w1:World} {bC:Ow} {M1 M':Mem} {K:KK} (hM: ∀k,aa M' k=aa M1 k): ∀e a w,QQ P Gl N cl S a0 w1 bC M' K e a w->QQ P Gl N cl S a0 w1 bC M1 K e a w:=by
  have key: ∀{K:Fr->Mem->Nat->Prop} {a w},fA P Gl N cl S a0 w1 bC M' K a w->fA P Gl N cl S a0 w1 bC M1 K a w:=λ⟨ω,F,M,nx,J,U,h3,h4⟩=>⟨ω,F,M,nx,J,U.Qf hM,h3,h4⟩
  intro e a w h
  cases e with
  |normal=>exact key h
  |exit i=>exact key h
  |ret=>exact key h
  |goto l=>exact h
  |panic c=>exact h
  |outgrown=>exact h
theorem LG {s:SV}: ∀{u:Value},lF s=true->Den w ω s u->Den w ω.bare s u:=by
  induction s with
  |ptr _ _ _ _ _=>intro u h;cases h
  |pe _ _ _ _ _ _ _=>intro u h;cases h
  |aw _ _ _ _ _=>intro u h;cases h
  |sa _ _ _ _ _ _=>intro u h;cases h
  |ag n f ih=>
   intro u h hd
   obtain⟨cs,rfl,hs,hj⟩:=hd
   exact⟨cs,rfl,hs,λj aS=>let⟨x,J,U⟩:=hj j aS;⟨x,J,ih j (List.all_eq_true.1 h j (List.mem_range.2 aS)) U⟩⟩
  |tp n f ih=>
   intro u h hd
   obtain⟨cs,rfl,hs,hj⟩:=hd
   exact⟨cs,rfl,hs,λj aS=>let⟨x,J,U⟩:=hj j aS;⟨x,J,ih j (List.all_eq_true.1 h j (List.mem_range.2 aS)) U⟩⟩
  |fn id n f ih=>
   intro u h hd
   obtain⟨cs,rfl,hs,hj⟩:=hd
   exact⟨cs,rfl,hs,λj aS=>let⟨x,J,U⟩:=hj j aS;⟨x,J,ih j (List.all_eq_true.1 h j (List.mem_range.2 aS)) U⟩⟩
  |bm id s ih=>intro u h hd;obtain⟨x,rfl,hx⟩:=hd;exact⟨x,rfl,ih h hx⟩
  |mv nm s ih=>intro u h hd;obtain⟨x,rfl,hx⟩:=hd;exact⟨x,rfl,ih h hx⟩
  |ic t s ih=>intro u h hd;obtain⟨x,rfl,hx⟩:=hd;exact⟨x,rfl,ih h hx⟩
  |_=>intro u _ hd;exact hd
theorem zn (l:List Nat): ∀(F:Fr) (i:Nat),look (oY l F) i= .aq\/(look (oY l F) i=look F i/\lF (look F i)=true/\i∉l)
  | [],_=> .inl rfl
  |p::r,i=>by
   simp only[oY,List.map_cons,look]
   cases hb:Nat.beq p.1 i with
   |false=>exact zn l r i
   |true=>
    have e:=Nat.eq_of_beq_eq_true hb
    subst e
    cases J:cb l p.1 with
    |true=>exact .inl rfl
    |false=>
     cases U:lF p.2 with
     |false=>exact .inl rfl
     |true=>exact .inr ⟨rfl,rfl,λhm=>by rw[fv.2 hm]at J;cases J⟩
theorem GY {w':World} {ah:Ow} {t':Array Value}: ∀(l:List (Nat×SV)) {F:Fr},cW w' ah N F t'->(∀p∈l,∀u,t'[p.1]? =some u->Den w' ah p.2 u)->cW w' ah N (qW N F l) t'
  | [],_,h,_=>h
  |p::r,F,h,hp=>by
   refine GY r ?_ λq hq=>hp q (by simp[hq])
   cases ai:Nat.blt p.1 N with
   |true=>
    have e:eY N F (some p.1) p.2=(p.1,p.2)::F:=by simp only[eY,ai]
    rw[e]
    exact h.tell (Nat.le_of_ble_eq_true ai) (hp p (by simp))
   |false=>
    have e:eY N F (some p.1) p.2=F:=by simp only[eY,ai]
    rw[e];exact h
theorem vL {m:Nat->aP} {κ:List Nat} {B:List aO}: ∀{l:List (Nat×SV)} {R:Prop},ud m κ B F l R->(∀p∈l,ub m κ B (look F p.1) p.2)/\R
  | [],_,h=>⟨λp hp=>by simp at hp,h⟩
  |p::r,_,⟨J,U⟩=>by
   obtain⟨h3,h4⟩:=vL U
   refine⟨λq hq=>?_,h4⟩
   rcases List.mem_cons.1 hq with rfl|hq
   · exact J
   · exact h3 q hq
theorem MD {m:Nat->aP} {κ:List Nat} (h:nM cl m κ=true):κ.Nodup/\(∀k∈κ,whole (m k)=true)/\ ∀k∈cl,κ[k]? =some k/\(m k).rs=0:=by
  unfold nM at h
  split at h
  · next J U h3=>
    refine⟨qg J,λk hk=>List.all_eq_true.1 U k hk,λk hk=>?_⟩
    have:=List.all_eq_true.1 h3 k hk
    rw[Bool.and_eq_true]at this
    refine⟨?_,Nat.eq_of_beq_eq_true this.2⟩
    have h4:=this.1
    unfold stays at h4
    split at h4
    · next k' eD=>rw[eD,Nat.eq_of_beq_eq_true h4]
    · cases h4
  · cases h
theorem St.JG (h:St P Gl N F M a w ω) {κ:List Nat} {B:List aO} (hc:nM cl (aa M) κ=true) (ha:kg (ir (aa M) κ) B):
    ay w (dk ω κ B) (cF 0 B)/\Rel cl w ω M w (dk ω κ B) (cF 0 B):=by
  obtain⟨J,U,h3⟩:=MD hc
  refine⟨GW h.mem J U ha,sk _ _,λk hk _=>⟨(h3 k hk).2,λL hL=>?_⟩⟩
  rw[vw (k:=k) (h3 k hk).1]
  exact hL
theorem OZ (hm:ay w ω M) {κ:List Nat} {B:List aO} {x y:SV} {u:Value} (h:ub (aa M) κ B x y) (hd:Den w ω x u):Den w (dk ω κ B) y u:=by
  unfold ub at h
  split at h
  · next k' s' uc e' n'=>
    split at h
    · next k s ij e n=>
      split at h
      · next q hq aZ nS=>
        split at h
        · next TW=>
          obtain rfl:=Nat.eq_of_beq_eq_true TW
          obtain rfl:=Nat.eq_of_beq_eq_true nS
          obtain⟨hr,J,U,rfl,rfl⟩:=h
          have hr:=Qe hr
          obtain⟨i,j⟩:=ij
          obtain⟨i',j'⟩:=uc
          have J:i=i':=J
          have U:j=j':=U
          subst J U
          have e0:=gP hm aZ
          rcases hd with hd|⟨_,p,cap,y1,y2,y3,y4⟩
          · omega
          exact .inr ⟨rfl,p,cap,y1,y2,y3,by rw[zy (jw hq) hr];exact y4⟩
        · exact h.elim
      · exact h.elim
    · exact oH h (sA hm _ _ hd)
  · exact oH h (sA hm _ _ hd)
theorem Au {a1:Act} {w1:World} {bC:Ow} {M1:Mem} {F1:Fr} (J:St P Gl N F1 M1 a1 w1 bC) (h:St P Gl N F M a w ω) {S:List Nat} (hr:Rel cl w1 bC M1 w ω M) (hk:cJ S a1 a)
    {κ:List Nat} {B:List aO} {sh:List (Nat×SV)} (hc:nM cl (aa M) κ=true) (ha:kg (ir (aa M) κ) B) (hs: ∀p∈sh,ub (aa M) κ B (look F p.1) p.2):
    ∃ah,St P Gl N (qW N (oY S F1) sh) (cF 0 B) a w ah/\Rel cl w1 bC M1 w ah (cF 0 B):=by
  obtain⟨hm,Cy⟩:=h.JG hc ha
  have KS:=hr.trans Cy
  refine⟨_,⟨?_,λg=>Den.ext (o:=ω.bare) (sk _ _) (h.de g),hm,h.defers⟩,KS⟩
  refine GY _ ⟨h.frame.size,λi u hu=>?_,λi hi=>?_⟩ ?_
  · rcases zn S F1 i with e|⟨e,CY,dF⟩
    · rw[e];trivial
    · rw[e]
      have CZ:a1.tmps[i]? =some u:=by rw[<-hk.2 i dF];exact hu
      exact(Den.ext (o:=bC.bare) KS.bare (LG CY (J.frame.den i u CZ))).up
  · rcases zn S F1 i with e|⟨e,_,_⟩
    · exact e
    · rw[e];exact J.frame.out i hi
  · intro p hp u hu
    exact OZ h.mem (hs p hp) (h.frame.den p.1 u hu)
theorem D9 {s:SV} {u:Value} (h:qt s=true) (hd:Den w ω s u): ∃p,u= .slice p 0 0:=by
  unfold qt at h
  split at h
  · exact⟨none,hd⟩
  · exact hd
  · cases h
theorem EW (hm:ay w ω M) {nx sz:Nat} {s s':SV} {M':Mem} {u:Value} (hd:Den w ω s u) (h:wR M nx sz s=some (s',M')):Den w ω s' u/\ay w ω M'/\Rel cl w ω M w ω M':=by
  unfold wR at h
  split at h
  · next hn=>
    split at h
    · next hf=>
      simp only[Option.some.injEq,Prod.mk.injEq]at h
      obtain⟨rfl,rfl⟩:=h
      obtain⟨pn,hu⟩:=D9 hn hd
      have bc:=aT.dummy hm (iV hm hf) sz 0 (λ_ _=> .aq)
      refine⟨?_,bc.mem,Rel.of hm bc.mem bc.ext⟩
      subst hu
      exact .inr ⟨by rw[hm.cur];rfl,pn,0,rfl,Nat.le_refl _,Nat.zero_le _,.inl rfl⟩
    · cases h
  · simp only[Option.some.injEq,Prod.mk.injEq]at h
    obtain⟨rfl,rfl⟩:=h
    exact⟨hd,hm,Rel.refl _ _ _⟩
theorem GZ: ∀{rt:List (Nat×Nat)} {F F':Fr} {M M':Mem} {nx:Nat},St P Gl N F M a w ω->tH N rt F M nx=some (F',M')->St P Gl N F' M' a w ω/\Rel cl w ω M w ω M'
  | [],F,F',M,M',nx,h,he=>by
    simp only[tH,Option.some.injEq,Prod.mk.injEq]at he
    obtain⟨rfl,rfl⟩:=he
    exact⟨h,Rel.refl _ _ _⟩
  |d::r,F,F',M,M',nx,h,he=>by
   unfold tH at he
   split at he
   · next p hp ai=>
     have ai:d.1<N:=Nat.le_of_ble_eq_true ai
     obtain⟨p1,p2⟩:=p
     have hx:d.1<a.tmps.size:=by rw[h.frame.size];exact ai
     obtain⟨g1,g2,g3⟩:=EW (cl:=cl) h.mem (h.frame.den d.1 a.tmps[d.1] (by simp[hx])) hp
     have h':St P Gl N ((d.1,p1)::F) p2 a w ω:=⟨h.frame.tell ai (λu hu=>by
       have:a.tmps[d.1]? =some a.tmps[d.1]:=by simp[hx]
       obtain rfl:=Option.some.inj (this.symm.trans hu)
       exact g1),h.de,g2,h.defers⟩
     obtain⟨k1,k2⟩:=GZ h' he
     exact⟨k1,g3.trans k2⟩
   · cases he
theorem zQ: ∀{nc:List (Nat×Nat×Nat)} {M M':Mem} {nx:Nat},St P Gl N F M a w ω->te nc F M nx=some M'->St P Gl N F M' a w ω/\Rel cl w ω M w ω M'
  | [],M,M',nx,h,he=>by
    obtain rfl:=Option.some.inj he
    exact⟨h,Rel.refl _ _ _⟩
  |d::r,M,M',nx,h,he=>by
   unfold te at he
   split at he
   · next k s i j hl=>
     split at he
     · next l aZ gW hb=>
       split at he
       · next cu Cz hf=>
         have cS:=iV h.mem hf
         have bc:=aT.dummy h.mem cS d.2.2 0 (λ_ _=> .aq)
         have bq:nx≠k:=by
           intro e;subst e
           have:=cS.1
           rw[hb]at this;cases this
         have TX:aa (fresh M nx (.row d.2.2 0 λ_ _=> .aq)) k=⟨(aa M k).rs,(aa M k).ds,none,.cells l⟩:=by
           unfold fresh;rw[bV bq]
           cases he:aa M k;rw[he]at gW hb;subst gW;subst hb;rfl
         have Kn: ∀j,bY (aA l j)=false:=λj=>by
           unfold aA
           rw[List.getD_eq_getElem?_getD]
           cases hj:l[j]? with
           |none=>rfl
           |some y=>have:=List.all_eq_true.1 cu y (List.mem_of_getElem? hj);simpa using this
         have qZ:(aa M nx).rs=st ω.cur nx none:=by rw[h.mem.cur];rfl
         have yD:=ay.Ic bc.mem TX rfl (l':=l.set d.2.1 (.aw nx (aa M nx).rs none 0 0)) (by simp) (λL hL c T hc j hj x hx hd=>by
           by_cases C0:j=d.2.1
           · have e:aA (l.set d.2.1 (.aw nx (aa M nx).rs none 0 0)) j= .aw nx (aa M nx).rs none 0 0:=by
               rw[<-C0];unfold aA;simp[List.getD_eq_getElem?_getD,hj]
             rw[e]
             obtain⟨pn,hu⟩:=D9 Cz (by rw[<-C0];exact hd)
             subst hu
             exact⟨rfl,.inr ⟨qZ,pn,0,rfl,Nat.le_refl _,Nat.zero_le _,.inl rfl⟩⟩
           · have e:aA (l.set d.2.1 (.aw nx (aa M nx).rs none 0 0)) j=aA l j:=by
               unfold aA;simp[List.getD_eq_getElem?_getD,Ne.symm C0]
             rw[e]
             exact⟨Kn j,hd⟩) Kn
         have h':St P Gl N F ((k,⟨(aa M k).rs,(aa M k).ds,none,.cells (l.set d.2.1 (.aw nx (aa M nx).rs none 0 0))⟩)::fresh M nx (.row d.2.2 0 λ_ _=> .aq)) a w ω:=⟨h.frame,h.de,yD,h.defers⟩
         obtain⟨k1,k2⟩:=zQ h' he
         exact⟨k1,(Rel.of h.mem yD (Ext.refl _ _)).trans k2⟩
       · exact zQ h he
       · cases he
     · cases he
   · cases he
theorem sC {rt:List (Nat×Nat)} {nc:List (Nat×Nat×Nat)} {F F':Fr} {M M':Mem} {nx:Nat} (h:St P Gl N F M a w ω) (he:oZ N rt nc F M nx=some (F',M')):St P Gl N F' M' a w ω/\Rel cl w ω M w ω M':=by
  unfold oZ at he
  split at he
  · next x hx=>
    split at he
    · next M1 uf=>
      simp only[Option.some.injEq,Prod.mk.injEq]at he
      obtain⟨rfl,rfl⟩:=he
      obtain⟨g1,g2⟩:=GZ (cl:=cl) h hx
      obtain⟨g3,g4⟩:=zQ (cl:=cl) g1 uf
      exact⟨g3,g2.trans g4⟩
    · cases he
  · cases he
theorem ME (hS:Sound P Gl Γ) {dl:Option (List Nat)} {sg:Bool} {eH:Nat->Option Cut}: ∀(c:Code) (pos:Nat) (an:List An) (F:Fr) (M:Mem) (nx:Nat) (a:Act) (w:World) (ω:Ow) (K:KK),
    St P Gl N F M a w ω->dH P dl sg Gl Γ N cl L eH c pos an F M nx K->c.wp P (QQ P Gl N cl (assigned c) a w ω M K) a w:=by
  intro c
  induction c with
  |skip=>intro pos an F M nx a w ω K h he;exact wp_skip ⟨ω,F,M,nx,h,Rel.refl _ _ _,cJ.refl _ _,he⟩
  |region id ops draw=>
   intro pos an F M nx a w ω K h he
   have hd: ∀o∈ops.toList,∀t,o.dst=some t->t∈assigned (.region id ops draw):=by
     intro o ho t ht
     simp only[assigned,List.mem_filterMap]
     exact⟨o,ho,ht⟩
   cases draw with
   |false=>
    simp only[dH]at he
    refine wp_region_list (mw hS (Q:=QQ P Gl N cl (assigned (.region id ops false)) a w ω M K) (S:=assigned (.region id ops false)) (a0:=a) (w1:=w) (bC:=ω) ?_ ops.toList F M nx [] a w ω hd h (λx hx=>by cases hx) (Ext.refl _ _) (cJ.refl _ _) he)
    rintro a' w' ⟨ah,F',M',cH,g1,g2,g3,g4⟩
    exact⟨ah,F',M',cH,g1,Rel.of h.mem g1.mem g2,g3,g4⟩
   |true=>
    simp only[dH]at he
    refine O0 hS (Q:=QQ P Gl N cl (assigned (.region id ops true)) a w ω M K) (S:=assigned (.region id ops true)) (λ_ _ _ _ _ h=>h.elim) ?_ hd h he
    rintro a' w' ⟨ah,F',M',cH,g1,g2,g3,g4⟩
    exact⟨ah,F',M',cH,g1,Rel.of h.mem g1.mem g2,g3,g4⟩
  |seq x y ug uh=>
   intro pos an F M nx a w ω K h he
   simp only[dH]at he
   have mP: ∀i∈assigned x,i∈assigned (.seq x y):=λi hi=>by simp[assigned,hi]
   have tI: ∀i∈assigned y,i∈assigned (.seq x y):=λi hi=>by simp[assigned,hi]
   split at he
   next Tc=>
     refine wp_seq (wp_mono (ug _ _ F M nx a w ω _ h he) ?_)
     intro e a1 w1 hq
     cases e with
     |normal=>
      obtain⟨bC,F1,M1,gA,J,g1,k1,gk⟩:=hq
      exact wp_mono (uh _ _ F1 M1 gA a1 w1 bC K J gk) (QQ.weaken tI (k1.mono mP) g1)
     |exit id=>exact fA.weaken hq mP (cJ.refl _ _) (Rel.refl _ _ _) (λ_ _ _ h=>h)
     |ret=>exact fA.weaken hq mP (cJ.refl _ _) (Rel.refl _ _ _) (λ_ _ _ h=>h)
     |goto l=>exact hq
     |panic ch=>exact hq
     |outgrown=>exact hq
   next c Tc=>
   obtain⟨TY,TZ⟩:=he
   refine wp_seq (wp_mono (ug _ _ F M nx a w ω _ h TY) ?_)
   intro e a1 w1 hq
   cases e with
   |normal=>
    obtain⟨bC,F1,M1,gA,J,g1,k1,gk⟩:=hq
    simp only at gk
    split at gk
    · exact gk.elim
    · next F2 M2 hp=>
      obtain⟨U,g2⟩:=sC (cl:=cl) J hp
      split at gk
      · next l' hl=>
        split at gk
        · next CA=>
          obtain⟨hs,ha,hinv⟩:=vL gk
          obtain⟨ml,h3,g3⟩:=Au h U (g1.trans g2) k1 CA ha hs
          obtain⟨F4,M4,C1,ui,C2⟩:=vx (TZ _ hinv)
          exact wp_mono (uh _ _ _ _ nx a1 w1 ml K (h3.congr C1 ui) C2) (QQ.weaken tI (k1.mono mP) (g3.congr ui))
        · exact gk.elim
      · exact gk.elim
   |exit id=>exact fA.weaken hq mP (cJ.refl _ _) (Rel.refl _ _ _) (λ_ _ _ h=>h)
   |ret=>exact fA.weaken hq mP (cJ.refl _ _) (Rel.refl _ _ _) (λ_ _ _ h=>h)
   |goto l=>exact hq
   |panic ch=>exact hq
   |outgrown=>exact hq
  |cond c x y ug uh=>
   intro pos an F M nx a w ω K h he
   have mP: ∀i∈assigned x,i∈assigned (.cond c x y):=λi hi=>by simp[assigned,hi]
   have tI: ∀i∈assigned y,i∈assigned (.cond c x y):=λi hi=>by simp[assigned,hi]
   have hc:=h.cx.val c
   simp only[dH]at he
   split at he
   · next hs=>
     rw[hs]at hc
     exact wp_cond_true hc (wp_mono (ug _ _ F M nx a w ω K h he) (QQ.weaken mP (cJ.refl _ _) (Rel.refl _ _ _)))
   · next hs=>
     rw[hs]at hc
     exact wp_cond_false hc (wp_mono (uh _ _ F M nx a w ω K h he) (QQ.weaken tI (cJ.refl _ _) (Rel.refl _ _ _)))
   · next b hs=>
     rw[hs]at hc
     replace he:(b=true-> ∃F' M',(∀t,look F' t=look F t)/\(∀k,aa M' k=aa M k)/\dH P dl sg Gl Γ N cl L eH x pos (an.take (nl x)) F' M' nx K)/\(b=false-> ∃F' M',(∀t,look F' t=look F t)/\(∀k,aa M' k=aa M k)/\dH P dl sg Gl Γ N cl L eH y (pos+nr x) (an.drop (nl x)) F' M' nx K):=by
       split at he
       · cases b
         · exact⟨λe=>(nomatch e),λ_=>⟨F,M,λ_=>rfl,λ_=>rfl,he⟩⟩
         · exact⟨λ_=>⟨F,M,λ_=>rfl,λ_=>rfl,he⟩,λe=>(nomatch e)⟩
       · exact⟨λhb=>vx (he.1 hb),λhb=>vx (he.2 hb)⟩
     refine wp_cond_split (t:=b) hc (λhb=>?_) (λhb=>?_)
     · obtain⟨F',M',hF,hM,hc⟩:=he.1 hb
       exact wp_mono (ug _ _ F' M' nx a w ω K (h.congr hF hM) hc) (λe a w hq=>QQ.weaken mP (cJ.refl _ _) (Rel.refl _ _ _) e a w (QQ.congr hM e a w hq))
     · obtain⟨F',M',hF,hM,hc⟩:=he.2 hb
       exact wp_mono (uh _ _ F' M' nx a w ω K (h.congr hF hM) hc) (λe a w hq=>QQ.weaken tI (cJ.refl _ _) (Rel.refl _ _ _) e a w (QQ.congr hM e a w hq))
   · exact he.elim
  |block id x ih=>
   intro pos an F M nx a w ω K h he
   simp only[dH]at he
   refine wp_block (wp_mono (ih _ _ F M nx a w ω _ h he) ?_)
   intro e a1 w1 hq
   cases e with
   |normal=>exact hq
   |exit i=>
    show(if i=id then _ else _)
    obtain⟨bC,F1,M1,gA,J,g1,k1,gk⟩:=hq
    by_cases hi:i=id
    · rw[if_pos hi]
      subst hi
      have:Nat.beq i i=true:=Nat.beq_refl i
      simp only[this]at gk
      exact⟨bC,F1,M1,gA,J,g1,k1,gk⟩
    · rw[if_neg hi]
      have:Nat.beq i id=false:=by
        cases hb:Nat.beq i id
        · rfl
        · exact absurd (Nat.eq_of_beq_eq_true hb) hi
      simp only[this]at gk
      exact⟨bC,F1,M1,gA,J,g1,k1,gk⟩
   |ret=>exact hq
   |goto l=>exact hq
   |panic ch=>exact hq
   |outgrown=>exact hq
  |loop x ih=>
   intro pos an F M nx a w ω K h he
   have key: ∀(n:bH) (s0:n.σ) (sub:n.σ->List An) (F:Fr) (M:Mem),St P Gl N F M a w ω->th (dH P dl sg Gl Γ N cl L eH x pos) N cl L (assigned x) n s0 sub F M nx K->(Code.loop x).wp P (QQ P Gl N cl (assigned x) a w ω M K) a w:=by
     intro n s0 sub F M h he
     simp only[th]at he
     split at he
     · next l hl=>
       split at he
       · next CA=>
         obtain⟨eL,Td,hinv,Qg⟩:=vL he
         obtain⟨aN,Te,Rw⟩:=Au h h (S:=assigned x) (Rel.refl _ _ _) (cJ.refl _ _) CA Td eL
         refine wp_loop_ghost (λk a' w'=> ∃s ah,n.inv s/\n.μ s=k/\St P Gl N (qW N (oY (assigned x) F) (n.sh s)) (cF 0 (nR (n.mh s) (ir (aa M) (ji (aa M) L l)))) a' w' ah/\
             Rel cl w ω M w' ah (cF 0 (nR (n.mh s) (ir (aa M) (ji (aa M) L l))))/\cJ (assigned x) a a') (n.μ s0) ⟨s0,aN,hinv,rfl,Te,Rw,cJ.refl _ _⟩ ?_
         rintro k a1 w1 ⟨s,bC,hi,rfl,J,g1,k1⟩
         obtain⟨F4,M4,C1,ui,C2⟩:=vx (Qg s hi)
         refine wp_mono (wp_mono (ih _ (sub s) _ _ nx a1 w1 bC _ (J.congr C1 ui) C2) (QQ.congr ui)) ?_
         intro e a2 w2 hq
         cases e with
         |normal=>
          obtain⟨fY,F2',M2',nx2,mW,T5,k2,nT⟩:=hq
          simp only at nT
          split at nT
          · exact nT.elim
          next F2 M2 Qh=>
          obtain⟨U,Tf⟩:=sC (cl:=cl) mW Qh
          have g2:=T5.trans Tf
          split at nT
          · next l' hl'=>
            split at nT
            · next Rx=>
              obtain⟨s',C3⟩:=nT
              obtain⟨Tg,Ry,Rz,Vg⟩:=vL C3
              obtain⟨ml,Th,RA⟩:=Au h U (S:=assigned x) (g1.trans g2) (k1.trans k2) Rx Ry Tg
              exact⟨n.μ s',Vg,s',ml,Rz,rfl,Th,RA,k1.trans k2⟩
            · exact nT.elim
          · exact nT.elim
         |exit id=>exact fA.weaken hq (λ_ h=>h) k1 g1 (λ_ _ _ h=>h)
         |ret=>exact fA.weaken hq (λ_ h=>h) k1 g1 (λ_ _ _ h=>h)
         |goto l=>exact hq
         |panic ch=>exact hq
         |outgrown=>exact hq
       · exact he.elim
     · exact he.elim
   simp only[dH]at he
   generalize Km F an=an at he
   split at he
   · exact he.elim
   · exact he.elim
   · exact he.elim
   · exact he.elim
   · exact he.elim
   · next n r=>
     refine wp_loop_ghost (λk a' w'=>fA P Gl N cl (assigned x) a w ω M (λF M nx=>xj (dH P dl sg Gl Γ N cl L eH x pos r) K k F M nx) a' w') n ⟨ω,F,M,nx,h,Rel.refl _ _ _,cJ.refl _ _,he⟩ ?_
     rintro k a1 w1 ⟨bC,F1,M1,gA,J,g1,k1,gk⟩
     cases k with
     |zero=>exact gk.elim
     |succ k=>
      simp only[xj]at gk
      refine wp_mono (ih _ r F1 M1 gA a1 w1 bC _ J gk) ?_
      intro e a2 w2 hq
      cases e with
      |normal=>exact⟨k,Nat.lt_succ_self k,fA.weaken hq (λ_ h=>h) k1 g1 (λ_ _ _ h=>h)⟩
      |exit id=>exact fA.weaken hq (λ_ h=>h) k1 g1 (λ_ _ _ h=>h)
      |ret=>exact fA.weaken hq (λ_ h=>h) k1 g1 (λ_ _ _ h=>h)
      |goto l=>exact hq
      |panic ch=>exact hq
      |outgrown=>exact hq
   · next n sub _=>
     split at he
     · exact he.elim
     next F0 M0 ti=>
     obtain⟨eM,pA⟩:=sC (cl:=cl) h ti
     exact wp_mono (key n n.init sub F0 M0 eM he) (QQ.weaken (λ_ h=>h) (cJ.refl _ _) pA)
   · next n sub _=>
     split at he
     · exact he.elim
     next F0 M0 ti=>
     obtain⟨eM,pA⟩:=sC (cl:=cl) h ti
     obtain⟨s0,he⟩:=he
     exact wp_mono (key n s0 sub F0 M0 eM he) (QQ.weaken (λ_ h=>h) (cJ.refl _ _) pA)
   · next au n0 r=>
     split at he
     · exact he.elim
     next F0 M0 ti=>
     obtain⟨eM,pA⟩:=sC (cl:=cl) h ti
     exact wp_mono (key _ _ _ F0 M0 eM he) (QQ.weaken (λ_ h=>h) (cJ.refl _ _) pA)
  |exit id=>intro pos an F M nx a w ω K h he;exact wp_exit ⟨ω,F,M,nx,h,Rel.refl _ _ _,cJ.refl _ _,he⟩
  |ret=>intro pos an F M nx a w ω K h he;exact wp_ret ⟨ω,F,M,nx,h,Rel.refl _ _ _,cJ.refl _ _,he⟩
  |rangeFunc f p as b iha ihb=>intro pos an F M nx a w ω K h he;exact he.elim
  |scope x ih=>intro pos an F M nx a w ω K h he;exact he.elim
  |label l=>intro pos an F M nx a w ω K h he;exact he.elim
  |goto l=>intro pos an F M nx a w ω K h he;exact he.elim
  |refuse s=>intro pos an F M nx a w ω K h he;exact he.elim
/-! ### results, bodies -/
def xl (tmps:Array Value):ResultVar->Sem Value
  | .tmp t=>pure (tmps.getD t undef)
  | .cell ad t=>do loadVar t (<-asAddr (tmps.getD ad undef))
theorem Av (hm:ay w ω M) (hF:cW w ω N F a.tmps): ∀(rs:List ResultVar) (K:List SV->Prop) (acc:List SV) (po:List Value),bB w ω acc po->o_ P F M K rs acc->
    ∃vs l,(rs.mapM (xl a.tmps)).run P w= .ok vs w/\bB w ω l (po.reverse++vs)/\K l
  | [],K,acc,po,ha,he=>by
    refine⟨[],acc.reverse,by simp,?_,he⟩
    rw[List.append_nil]
    have rev: ∀{F:List SV} {l:List Value},bB w ω F l->bB w ω F.reverse l.reverse:=by
      intro F
      induction F with
      |nil=>intro l h;cases l with
       |nil=>trivial
       |cons _ _=>exact h.elim
      |cons s r ih=>intro l h;cases l with
       |nil=>exact h.elim
       |cons u t=>rw[List.reverse_cons,List.reverse_cons];exact(ih h.2).append ⟨h.1,trivial⟩
    exact rev ha
  | .tmp t::r,K,acc,po,ha,he=>by
    have hd:Den w ω (look F t) (a.tmps.getD t undef):=hF.get t
    obtain⟨vs,l,J,U,h3⟩:=Av hm hF r K (look F t::acc) (a.tmps.getD t undef::po) ⟨hd,ha⟩ he
    refine⟨a.tmps.getD t undef::vs,l,?_,by simpa using U,h3⟩
    simp only[List.mapM_cons,xl,Sem.run_bind,Sem.run_pure,Result.andThen_ok,J]
  | .cell ad T::r,K,acc,po,ha,he=>by
    have hd:Den w ω (look F ad) (a.tmps.getD ad undef):=hF.get ad
    simp only[o_]at he
    obtain⟨s,v,p,e,hr,hs,hK⟩:=EX hm hd he
    obtain⟨vs,l,J,U,h3⟩:=Av hm hF r K (s::acc) (v::po) ⟨hs,ha⟩ hK
    refine⟨v::vs,l,?_,by simpa using U,h3⟩
    have ha:(asAddr (a.tmps.getD ad undef)).run P w= .ok p w:=by rw[e];rfl
    simp only[List.mapM_cons,xl,Sem.run_bind,ha,Sem.run_pure,Result.andThen_ok,hr,J]
theorem EY {l:List SV} {vs:List Value} (h:bB w ω l vs):(∃s v,l= [s]/\vs= [v]/\Den w ω s v)\/((∀s,l≠ [s])/\vs.length≠1):=by
  match l,vs,h with
  | [],[],_=>exact .inr ⟨by simp,by simp⟩
  | [s],[v],⟨h,_⟩=>exact .inl ⟨s,v,rfl,rfl,h⟩
  |_::_::_,_::_::_,_=>exact .inr ⟨by simp,by simp⟩
def Ow.less (o:Ow):Ow:=⟨λb=> ∃k p L,o.β k p=some L/\L.b=b,o.Z,o.β,o.cur⟩
theorem vN (hm:ay w ω M):Ext w ω w ω.less:=⟨rfl,rfl,rfl,λ_ _ _=>rfl,λb _ h h'=>h (hm.own b h'),λ_ _ _ h=>h,Nat.le_refl _,λ_=>⟨Nat.le_refl _,Nat.le_refl _⟩,λ_ _ _ h _=>h,λ_ h=>h⟩
theorem G0 (hm:ay w ω M):ay w ω.less M where
  cur:=hm.cur
  own:=λ_ h=>h
  dg:=λb h=>hm.dg b (hm.own b h)
  dj:=λb h=>hm.dj b (hm.own b h)
  ed:=hm.ed
  inj:=hm.inj
  low:=hm.low
  row:=λk p L hL=>by
    obtain⟨r,J,U,h3,h4⟩:=hm.row k p L hL
    exact⟨r,J,U,h3,kR.ext (vN hm) rfl (λ_=>rfl) rfl h4⟩
  live:=hm.live
  dh:=hm.dh
theorem O1 (hm:ay w ω M) {κ:List Nat} {B:List aO} (ht:ay w (dk ω κ B) (cF 0 B)) {s:SV}: ∀{u:Value},Den w ω s u->Den w (dk ω κ B).less (iv (aa M) κ s) u:=by
  have hb:Ext w ω.bare w (dk ω κ B).less.bare:=(sk κ B).trans (vN ht).bare
  have bo: ∀{s:SV} {u:Value},Den w ω s u->Den w (dk ω κ B).less (cD (d_ (aa M) κ) false s) u:=λhd=>(sA hm κ B hd).ext (vN ht)
  have yE: ∀{s:SV} {u:Value},Den w ω s u->Den w (dk ω κ B).less (ro false 12 (aa M) κ s) u:=by
    intro s u hd
    refine(jY (ah:=(dk ω κ B).less) hm ?_ hb (λ_ b h=>hm.dj b h) 12 hd).up
    rintro b ⟨q,p,L,J,U⟩
    obtain⟨k,e1,e2,_⟩:=qC J
    exact⟨k,List.mem_of_getElem? e1,p,L,e2,U⟩
  induction s with
  |ptr k s p i j=>intro u hd;simp only[iv];split;exact bo hd;exact yE hd
  |pe k s p i j n z=>intro u hd;simp only[iv];split;exact bo hd;exact yE hd
  |aw k s p e n=>intro u hd;simp only[iv];split;exact bo hd;exact yE hd
  |sa k s p i j n=>intro u hd;simp only[iv];split;exact bo hd;exact yE hd
  |ag n f ih=>intro u hd;obtain⟨cs,rfl,hs,hj⟩:=hd;exact⟨cs,rfl,hs,λj aS=>let⟨x,J,U⟩:=hj j aS;⟨x,J,ih j U⟩⟩
  |tp n f ih=>intro u hd;obtain⟨cs,rfl,hs,hj⟩:=hd;exact⟨cs,rfl,hs,λj aS=>let⟨x,J,U⟩:=hj j aS;⟨x,J,ih j U⟩⟩
  |fn id n f ih=>intro u hd;obtain⟨cs,rfl,hs,hj⟩:=hd;exact⟨cs,rfl,hs,λj aS=>let⟨x,J,U⟩:=hj j aS;⟨x,J,ih j U⟩⟩
  |bm id s ih=>intro u hd;obtain⟨x,rfl,hx⟩:=hd;exact⟨x,rfl,ih hx⟩
  |mv nm s ih=>intro u hd;obtain⟨x,rfl,hx⟩:=hd;exact⟨x,rfl,ih hx⟩
  |ic t s ih=>intro u hd;obtain⟨x,rfl,hx⟩:=hd;exact⟨x,rfl,ih hx⟩
  |pt q n f=>intro u hd;exact Den.ext (o:=ω.bare) (o':=(dk ω κ B).less.bare) (s:= .pt q n f) hb hd
  |sl q sz n f=>intro u hd;exact Den.ext (o:=ω.bare) (o':=(dk ω κ B).less.bare) (s:= .sl q sz n f) hb hd
  |pa q sz n f=>intro u hd;exact Den.ext (o:=ω.bare) (o':=(dk ω κ B).less.bare) (s:= .pa q sz n f) hb hd
  |er t tf e z=>intro u hd;exact Den.ext (o:=ω.bare) (o':=(dk ω κ B).less.bare) (s:= .er t tf e z) hb hd
  |_=>intro u hd;exact hd
theorem zz {ba:List aO}: ∀{l t l':List SV} {M M':Mem} {nx:Nat} {vs:List Value},ay w ω M->bB w ω l vs->oM ba l t M nx=some (l',M')->bB w ω l' vs/\ay w ω M'/\Rel cl w ω M w ω M'
  | [],t,l',M,M',nx,vs,hm,hd,he=>by
    simp only[oM,Option.some.injEq,Prod.mk.injEq]at he
    obtain⟨rfl,rfl⟩:=he
    exact⟨hd,hm,Rel.refl _ _ _⟩
  |s::r,[],l',M,M',nx,vs,hm,hd,he=>by
   simp only[oM,Option.some.injEq,Prod.mk.injEq]at he
   obtain⟨rfl,rfl⟩:=he
   exact⟨hd,hm,Rel.refl _ _ _⟩
  |s::r,t::q,l',M,M',nx,[],hm,hd,he=>hd.elim
  |s::r,t::q,l',M,M',nx,v::vs,hm,⟨KT,KU⟩,he=>by
   unfold oM at he
   split at he
   · split at he
     · split at he
       · next x hx=>
         split at he
         · next y hy=>
           obtain⟨x1,x2⟩:=x
           simp only[Option.some.injEq,Prod.mk.injEq]at he
           obtain⟨rfl,rfl⟩:=he
           obtain⟨g1,g2,g3⟩:=EW (cl:=cl) hm KT hx
           obtain⟨k1,k2,k3⟩:=zz g2 KU hy
           exact⟨⟨g1,k1⟩,k2,g3.trans k3⟩
         · cases he
       · cases he
     · cases he
   · split at he
     · next y hy=>
       simp only[Option.some.injEq,Prod.mk.injEq]at he
       obtain⟨rfl,rfl⟩:=he
       obtain⟨k1,k2,k3⟩:=zz hm KU hy
       exact⟨⟨KT,k1⟩,k2,k3⟩
     · cases he
theorem Qi (h:St P Gl N F M a w ω) {nx:Nat} {fn:Func} {res:SV} {ba:List aO} (he:o_ P F M (xk cl L M nx res ba) fn.results.toList []):
    ∃v ah,(results fn a.tmps).run P w= .ok v w/\Den w ah res v/\ay w ah (cF 0 ba)/\Rel cl w ω M w ah (cF 0 ba):=by
  obtain⟨vs,l,J,U,h3⟩:=Av (a:=a) h.mem h.frame _ _ [] [] trivial he
  simp only[List.reverse_nil,List.nil_append]at U
  have hlen:=U.len
  have hr: ∀v,(v=if h:vs.toArray.size=1 then vs.toArray[0]else .tuple vs.toArray)->(results fn a.tmps).run P w= .ok v w:=by
    intro v hv
    have e:results fn a.tmps=(do let vs<-fn.results.mapM (xl a.tmps);pure (if h:vs.size=1 then vs[0]else .tuple vs)):=by
      unfold results
      congr 1
    rw[e]
    simp only[Array.mapM_eq_mapM_toList,Sem.run_bind,Sem.run_map,J,Result.andThen_ok,Sem.run_pure,hv]
  unfold xk at h3
  split at h3
  rotate_left
  · exact h3.elim
  next x hx=>
  obtain⟨l0,M0⟩:=x
  obtain⟨U,nU,lR⟩:=zz (cl:=cl) h.mem U hx
  have hlen:=U.len
  have h:St P Gl N [] M0 {a with tmps:=Array.replicate N undef} w ω:=⟨⟨by simp,λi u hu=>trivial,λi _=>rfl⟩,h.de,nU,h.defers⟩
  revert h3 U hlen
  generalize l0=l
  intro h3 U hlen
  simp only[Ib]at h3
  split at h3
  · next hc=>
    revert hc h3
    generalize (ji (aa M0) L (l.flatMap lL)).take ba.length=κ
    intro hc h3
    obtain⟨h4,h5⟩:=h3
    obtain⟨g1,g2⟩:=h.JG hc h5
    have jc: ∀{s:SV} {x:Value},Den w ω s x->Den w (dk ω κ ba).less (iv (aa M0) κ s) x:=λhd=>O1 h.mem g1 hd
    have g2:=lR.trans (g2.trans (Rel.of (cl:=cl) g1 (G0 g1) (vN g1)))
    have g1:=G0 g1
    split at h4
    · next s=>
      rcases EY U with⟨s',v,e1,rfl,uj⟩|⟨h6,_⟩
      · obtain rfl:s=s':=by simpa using e1
        exact⟨v,_,hr v (by simp),oH h4 (jc uj),g1,g2⟩
      · exact absurd rfl (h6 s)
    · next l' bq=>
      refine⟨.tuple vs.toArray,_,hr _ ?_,oH h4 ⟨_,rfl,by simpa using hlen.symm,λj hj=>?_⟩,g1,g2⟩
      · rw[dif_neg]
        intro e
        rcases EY U with⟨s,v,rfl,_⟩|⟨_,h6⟩
        · exact bq s rfl
        · exact h6 (by simpa using e)
      · obtain⟨x,e1,e2⟩:=U.get? j hj
        refine⟨x,by simpa using e1,?_⟩
        have:aA (l.map λs=>iv (aa M0) κ s) j=iv (aa M0) κ (l.getD j .aq):=by simp[aA,List.getD_eq_getElem?_getD,hj]
        rw[this]
        exact jc e2
  · exact h3.elim
theorem EZ: ∀(l:List SV) (k i:Nat),i<l.length->look (mO k l) (k+i)=l.getD i .aq
  | [],_,_,h=>absurd h (by simp)
  |s::r,k,0,_=>by simp[mO,look_eq]
  |s::r,k,i+1,h=>by
   rw[mO,mz (by omega),show k+(i+1)=(k+1)+i by omega,EZ r (k+1) i (by simpa using h)]
   simp
theorem zR: ∀(l:List SV) (k i:Nat),k+l.length<=i->look (mO k l) i= .aq
  | [],_,_,_=>rfl
  |s::r,k,i,h=>by
   simp only[List.length_cons]at h
   rw[mO,mz (by omega),zR r (k+1) i (by omega)]
theorem OY (hS:Sound P Gl Γ) {sg:Bool} {f:Nat} {fn:Func} (hf:P.funcs[f]? =some fn) {args:List SV} {mem:List aO} {an:List An} {res:SV} {ba:List aO} (he:wQ P sg Gl Γ fn args mem an res ba):ke P Gl f args mem res ba:=by
  intro w ω vs hG hm nD
  unfold wQ at he
  split at he
  · next c hc=>
    refine calls_of_wp hf hc ?_
    split at he
    · exact he.elim
    next hle=>
    have hle:=Nat.le_of_ble_eq_true hle
    have hlen:=nD.len
    simp at hlen
    have bc:St P Gl fn.ntmps (mO 0 args) (cF 0 mem) {tmps:=vs++Array.replicate (fn.ntmps -vs.size) undef,defers:= []} w ω:=by
      refine⟨⟨by simp;omega,?_,?_⟩,hG,hm,rfl⟩
      · intro i u hu
        by_cases hi:i<args.length
        · obtain⟨x,J,U⟩:=nD.get? i hi
          rw[show look (mO 0 args) i=args.getD i .aq by have:=EZ args 0 i hi;rwa [Nat.zero_add]at this]
          rw[Array.getElem?_append_left (by omega)]at hu
          have J:vs[i]? =some x:=by simpa using J
          obtain rfl:=Option.some.inj (hu.symm.trans J)
          exact U
        · rw[zR args 0 i (by omega)]
          trivial
      · intro i hi
        exact zR args 0 i (by omega)
    refine wp_mono (ME hS c _ (qM an) _ _ _ _ w ω _ bc he) ?_
    have fin: ∀{a':Act} {w':World} {bC:Ow} {F1:Fr} {M1:Mem} {gA:Nat},St P Gl fn.ntmps F1 M1 a' w' bC->Rel (qY (kQ res) mem) w ω (cF 0 mem) w' bC M1->o_ P F1 M1 (xk (qY (kQ res) mem) (A2 (aa (cF 0 mem)) mem.length) M1 gA res ba) fn.results.toList []->
     ∃v,(results fn a'.tmps).run P w'= .ok v w'/\ ∃v' ah,(Ending.returned v)= .returned v'/\C4 w ω w' ah/\ay w' ah (cF 0 ba)/\Den w' ah res v'/\ ∀k,mE (kQ res) mem[k]? =true-> ∀L,ω.β k none=some L->ah.β k none=some L:=by
      intro a' w' bC F1 M1 gA J g1 hK
      obtain⟨v,ah,hr,hd,di,Cy⟩:=Qi J hK
      have hR:=g1.trans Cy
      refine⟨v,hr,v,ah,rfl,⟨hR.bare.os,hR.bare.tape,hR.bare.output,hR.bare.same,hR.bare.free,hR.bare.zs,hR.bare.size⟩,di,hd,λk hk L hL=>?_⟩
      have yC:k<mem.length:=by
        rcases Nat.lt_or_ge k mem.length with h|h
        · exact h
        · rw[List.getElem?_eq_none h]at hk;exact absurd hk Bool.false_ne_true
      have jd:k∈qY (kQ res) mem:=by
        unfold qY
        rw[List.mem_filter]
        exact⟨List.mem_range.2 yC,hk⟩
      have h0:(aa (cF 0 ba) k).rs=0:=by rw[jX];split<;>rfl
      exact(hR.eX k jd h0).2 L hL
    intro e a' w' hq
    cases e with
    |normal=>
     obtain⟨bC,F1,M1,gA,J,g1,k1,hK⟩:=hq
     obtain⟨v,U,h3⟩:=fin J g1 hK
     exact⟨J.defers,v,U,h3⟩
    |ret=>
     obtain⟨bC,F1,M1,gA,J,g1,k1,hK⟩:=hq
     obtain⟨v,U,h3⟩:=fin J g1 hK
     exact⟨J.defers,v,U,h3⟩
    |exit id=>obtain⟨_,_,_,_,_,_,_,hK⟩:=hq;exact hK.elim
    |goto l=>exact hq.elim
    |panic ch=>exact hq.elim
    |outgrown=>exact hq.elim
  · exact he.elim
end
end Go.Sy
set_option linter.unusedVariables false
set_option linter.unusedSimpArgs false
namespace Go.Sy
open Go.RowKit
def yA:List SV->List SV->Prop
  | [],[]=>True
  |a::r,b::t=>dz a b/\yA r t
  |_,_=>False
theorem GV {w:World} {o:Ow}: ∀{l m:List SV} {us:List Value},yA l m->bB w o l us->bB w o m us
  | [],[],[],_,h=>h
  |_::_,_::_,_::_,⟨J,U⟩,⟨h3,h4⟩=>⟨oH J h3,GV U h4⟩
  | [],_::_,_,h,_=>h.elim
  |_::_,[],_,h,_=>h.elim
  | [],[],_::_,_,h=>h.elim
  |_::_,_::_,[],_,h=>h.elim
def jP (mem:List aO):Nat->aP:=aa (cF 0 mem)
theorem ke.more {P:Program} {Gl:Nat->SV} {f:Nat} {A:List SV} {B:List aO} {res:SV} {B':List aO} (h:ke P Gl f A B res B') {args:List SV} {mem:List aO}
    (ha:yA (args.map λs=>cD (d_ (jP mem) (List.range mem.length)) false s) A) (hb:kg (ir (jP mem) (List.range mem.length)) B):ke P Gl f args mem res B':=by
  intro w ω vs hG hm hd
  have hlen:mem.length=B.length:=by have:=wz hb;simpa [ir]using this
  have get: ∀{k:Nat},k<mem.length->(List.range mem.length)[k]? =some k:=λhk=>List.getElem?_range hk
  have yB: ∀k∈List.range mem.length,whole (aa (cF 0 mem) k)=true:=by
    intro k hk
    have hk:=List.mem_range.1 hk
    have e1:(ir (jP mem) (List.range mem.length))[k]? =some (gw (d_ (jP mem) (List.range mem.length)) false (jP mem k).b):=by
      simp[ir,hk]
    have hg:=wB hb e1 (List.getElem?_eq_getElem (by omega))
    have e2:aa (cF 0 mem) k=⟨0,0,none,mem[k]⟩:=by rw[jX,List.getElem?_eq_getElem hk]
    unfold jP at hg
    rw[e2]at hg⊢
    cases kh:mem[k]with
    |dead=>rw[kh]at hg;exact hg.elim
    |cells _=>rfl
    |row _ _ _=>rfl
  have ht:=GW hm List.nodup_range yB hb
  have jc: ∀{s:SV} {x:Value},Den w ω s x->Den w (dk ω (List.range mem.length) B) (cD (d_ (aa (cF 0 mem)) (List.range mem.length)) false s) x:=λhd=>sA hm _ _ hd
  refine(h w (dk ω (List.range mem.length) B) vs (λg=>Den.ext (o:=ω.bare) (sk _ _) (hG g)) ht (GV ha (hd.map λs u hs=>jc hs))).mono ?_
  rintro e w' ⟨v,ah,rfl,J,U,h3,h4⟩
  refine⟨v,ah,rfl,⟨J.os,J.tape,J.output,J.same,J.free,J.eX,J.size⟩,U,h3,λk hk L hL=>?_⟩
  cases rq:mem[k]? with
  |none=>rw[rq]at hk;exact absurd hk Bool.false_ne_true
  |some b=>
   have yC:=(List.getElem?_eq_some_iff.1 rq).1
   have e1:(ir (jP mem) (List.range mem.length))[k]? =some (gw (d_ (jP mem) (List.range mem.length)) false (jP mem k).b):=by
     simp[ir,yC]
   have kh:B[k]? =some B[k]:=List.getElem?_eq_getElem (by omega)
   have hg:=wB hb e1 kh
   have e2:jP mem k=⟨0,0,none,b⟩:=by unfold jP;rw[jX,rq]
   rw[e2]at hg
   refine h4 k ?_ L (by rw[vw (get yC)];exact hL)
   rw[kh]
   rw[rq]at hk
   cases b with
   |dead=>exact absurd hk Bool.false_ne_true
   |row _ _ _=>
    cases hB:B[k]with
    |dead=>rw[hB]at hg;exact hg.elim
    |cells _=>rw[hB]at hg;exact hg.elim
    |row _ _ _=>exact hk
   |cells _=>
    cases hB:B[k]with
    |dead=>rw[hB]at hg;exact hg.elim
    |row _ _ _=>rw[hB]at hg;exact hg.elim
    |cells _=>rfl
def ao:SV->Int| .v (.int _ x)=>x|_=>0
def qL:SV->Bool| .v (.bool x)=>x| .bl x=>x|_=>false
def bU:SV->Nat->SV| .ag _ f,j=>f j| .tp _ f,j=>f j|_,_=> .aq
def bN:SV->Nat| .sl _ _ n _=>n|_=>0
def bD:SV->Nat->Nat->SV| .sl _ _ _ f,i,j=>f i j|_,_,_=> .aq
def bp:SV->Nat->SV| .pt _ _ f,j=>f j|_,_=> .aq
def KO:SV->Int| .er _ _ e _=>e| .v (.iface _ (.int _ c))=>c| .ic _ (.pt _ _ f)=>(match f 1 with| .er _ _ c _=>c| .v (.iface _ (.int _ c))=>c|_=>0)|_=>0
def KP:SV->Int| .er _ _ _ z=>z| .ic _ (.pt _ _ f)=>(match f 0 with| .v (.int _ a)=>a|_=>0)|_=> -1
structure Spec where
  X:Type
  args:X->List SV
  mem:X->List aO
  pre:X->Prop
  res:X->SV
  ba:X->List aO
  dec:List SV->List aO->Option X
def Spec.g (s:Spec) (args:List SV) (mem:List aO):Option (Prop×SV×List aO):=
  match s.dec args mem with
  |some x=>some (yA (args.map λs=>cD (d_ (jP mem) (List.range mem.length)) false s) (s.args x)/\kg (ir (jP mem) (List.range mem.length)) (s.mem x)/\s.pre x,s.res x,s.ba x)
  |none=>none
structure aW (P:Program) (Gl:Nat->SV) (f:Nat) (c:aX):Prop where
  call: ∀(l:Array Value) (w:World),(callFunc f l).run P w= .ok (.enter f l) w
  fn: ∀args mem pre res ba,c.g args mem=some (pre,res,ba)->pre->ke P Gl f args mem res ba
  pj: ∀n,c.pj=some n->JD P f n
theorem GX {P:Program} {Gl:Nat->SV} {f:Nat} {ws:List Bool} {s:Spec} (hc: ∀(l:Array Value) (w:World),(callFunc f l).run P w= .ok (.enter f l) w)
    (h: ∀x,s.pre x->ke P Gl f (s.args x) (s.mem x) (s.res x) (s.ba x)):aW P Gl f ⟨ws,s.g,none⟩:=by
  refine⟨hc,λargs mem pre res ba e hp=>?_,λn e=>nomatch e⟩
  have e:s.g args mem=some (pre,res,ba):=e
  unfold Spec.g at e
  split at e
  · next x hx=>
    simp only[Option.some.injEq,Prod.mk.injEq]at e
    obtain⟨rfl,rfl,rfl⟩:=e
    exact(h x hp.2.2).more hp.1 hp.2.1
  · cases e
def aX.or (a b:aX):aX:=⟨a.ws,λl m=>match a.g l m with|some x=>some x|none=>b.g l m,none⟩
theorem aW.or {P:Program} {Gl:Nat->SV} {f:Nat} {a b:aX} (ha:aW P Gl f a) (hb:aW P Gl f b):aW P Gl f (a.or b):=by
  refine⟨ha.call,λargs mem pre res ba e hp=>?_,λn e=>nomatch e⟩
  have e:(match a.g args mem with|some x=>some x|none=>b.g args mem)=some (pre,res,ba):=e
  split at e
  · next x hx=>
    obtain rfl:=Option.some.inj e
    exact ha.fn args mem _ _ _ hx hp
  · exact hb.fn args mem pre res ba e hp
def jG (k:Nat):SV->Bool
  | .fn id _ _=>Nat.beq id k
  |_=>false
def dA:SV->Nat->SV
  | .fn _ _ f,j=>f j
  |_,_=> .aq
def lQ:List (Nat×aX)->Table
  | [],_=>none
  |p::r,f=>match Nat.beq p.1 f with|true=>some p.2|false=>lQ r f
section
variable {P:Program} {Gl:Nat->SV}
theorem MC:Sound P Gl (lQ []):=⟨λ_ _ h=>(nomatch h),λ_ _ _ _ _ _ _ h=>(nomatch h),λ_ _ _ h=>(nomatch h)⟩
theorem L_ {g:Nat} {s:aX} {r:List (Nat×aX)} (h:aW P Gl g s) (hr:Sound P Gl (lQ r)):Sound P Gl (lQ ((g,s)::r)):=by
  constructor
  · intro f c e
    simp only[lQ]at e
    split at e
    · next hb=>obtain rfl:=Nat.eq_of_beq_eq_true hb;exact h.call
    · exact hr.call f c e
  · intro f c args mem pre res ba e
    simp only[lQ]at e
    split at e
    · next hb=>
      obtain rfl:=Nat.eq_of_beq_eq_true hb
      obtain rfl:=Option.some.inj e
      exact h.fn args mem pre res ba
    · exact hr.fn f c args mem pre res ba e
  · intro f c n e
    simp only[lQ]at e
    split at e
    · next hb=>
      obtain rfl:=Nat.eq_of_beq_eq_true hb
      obtain rfl:=Option.some.inj e
      exact h.pj n
    · exact hr.pj f c n e
theorem Rv {Γ:Table} (hS:Sound P Gl Γ) (sg:Bool) {f:Nat} {fn:Func} (hf:P.funcs[f]? =some fn) {args:List SV} {mem:List aO} (an:List An) {res:SV} {ba:List aO} {V:Prop} (he:wQ P sg Gl Γ fn args mem an res ba=V) (hV:V):ke P Gl f args mem res ba:=
  OY hS hf (he▸hV)
end
def S9:aO->Nat| .row _ n _=>n|_=>0
def S_:aO->Nat->Nat->SV| .row _ _ f=>f| .cells l=>λ_ j=>aA l j| .dead=>λ_ _=> .aq
def Kk (mem:List aO) (k:Nat):Nat:=S9 (mem.getD k .dead)
def Kl (mem:List aO) (k i j:Nat):SV:=S_ (mem.getD k .dead) i j
def TV:SV->Nat->Nat->SV| .il _ _ f,i,j=>f i j| .sl _ _ _ f,i,j=>f i j|_,_,_=> .aq
def tn:Nat->Prop->Prop
  |0,p=>p
  |n+1,p=>True/\tn n p
abbrev ak (x:Int):Int:=IntKind.wrap .i64 x
section
variable {P:Program} {Gl:Nat->SV}
theorem Sound.nil:Sound P Gl (lQ []):=MC
theorem Sound.cons {g:Nat} {s:aX} {r:List (Nat×aX)} (h:aW P Gl g s) (hr:Sound P Gl (lQ r)):Sound P Gl (lQ ((g,s)::r)):=L_ h hr
theorem bd {f:Nat} {fn:Func} {ws:List Bool} {s:Spec} {Γ:Table} (hS:Sound P Gl Γ) (sg:Bool) (hc: ∀(l:Array Value) (w:World),(callFunc f l).run P w= .ok (.enter f l) w) (hf:P.funcs[f]? =some fn) (an:s.X->List An) {V:s.X->Prop}
    (he: ∀x,wQ P sg Gl Γ fn (s.args x) (s.mem x) (an x) (s.res x) (s.ba x)=V x) (hV: ∀x,s.pre x->V x):aW P Gl f ⟨ws,s.g,none⟩:=
  GX hc λx hp=>Rv hS sg hf (an x) (he x) (hV x hp)
end
theorem bn:(∀p:Prop,(True/\p)=p)/\(∀p:Prop,(p/\True)=p)/\(∀p:Prop,(p/\p)=p)/\(∀n:Nat,((n:Nat):Int).toNat=n)/\(∀n:Nat,0+n=n)/\(∀n:Nat,(0:Int)<=(n:Int))/\(∀n:Nat,¬n<0)/\(∀p:Prop,(False->p)=True)/\(∀n:Nat,0<=n)/\((0:Nat):Int)=0:=
  ⟨true_and,and_true,and_self,Int.toNat_natCast,Nat.zero_add,Int.natCast_nonneg,Nat.not_lt_zero,false_implies,Nat.zero_le,Int.natCast_zero⟩
theorem bG:(∀c f:Bool,(bif c then true else f)=(c||f))/\(∀c t:Bool,(bif c then t else false)=(c&&t))/\(∀c t:Bool,(bif c then t else true)=(!c||t))/\(∀c f:Bool,(bif c then false else f)=(!c&&f)):=
  ⟨Bool.cond_true_left,Bool.cond_false_right,Bool.cond_true_right,Bool.cond_false_left⟩
end Go.Sy
