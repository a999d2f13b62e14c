/-
  Sy, part 17: whole bodies.
-/
import Derived.Test.YtbngaammbjaajaaDoorYG
import Derived.Deep.LoopGhost
set_option linter.unusedVariables false
set_option linter.unusedSimpArgs false
set_option linter.unusedVariables false
set_option linter.unusedSimpArgs false
namespace Go.Sy
open Go.RowKit
inductive Ex where
  |normal|exit (id:Nat)|ret
structure iO where
  σ:Type
  rt:List (Nat×Nat)
  sh:σ->List (Nat×SV)
  mh:σ->List (Nat×ar)
  inv:σ->Prop
  μ:σ->Nat
  init:σ
  nc:List (Nat×Nat×Nat):= []
structure Cut where
  σ:Type
  rt:List (Nat×Nat)
  sh:σ->List (Nat×SV)
  mem:σ->List ar
  inv:σ->Prop
  dec:(Nat->SV)->List ar->σ
  nc:List (Nat×Nat×Nat):= []
inductive An where
  |uN (au:Bool) (a:iO)
  |D8 (a:iO) (sub:a.σ->List An)
  |zF (au:Bool) (g:(Nat->SV)->iO)
  |pO (n:Nat)
  |dec
  |uO (l:List Nat)
  |cut (r:Nat) (c:Cut)
def An.inv (a:iO):An:= .uN false a
def zG (F:Fr):List An->List An
  | .zF au g::r=> .uN au (g λd=>look F d)::r
  |l=>l
def nr:Code->Nat
  | .region _ _ _=>1
  | .seq x y=>nr x+nr y
  | .cond _ x y=>nr x+nr y
  | .block _ x=>nr x
  | .loop x=>nr x
  |_=>0
def zW:Code->Bool
  | .exit _=>true
  |_=>false
def D9 (dl:Option (List Nat)) (pos:Nat) (x y:Code):Bool:=match dl with|none=>false|some []=>(match zW x with|true=>true|false=>zW y)|some (p::r)=>aT (p::r) pos
def nl:Code->Nat
  | .seq x y=>nl x+nl y
  | .cond _ x y=>nl x+nl y
  | .block _ x=>nl x
  | .loop x=>nl x+1
  |_=>0
def assigned:Code->List Nat
  | .region _ ops _=>ops.toList.filterMap (·.dst)
  | .seq x y=>assigned x++assigned y
  | .cond _ x y=>assigned x++assigned y
  | .block _ x=>assigned x
  | .loop x=>assigned x
  |_=> []
def gN:SV->Bool
  | .aj=>true
  | .v _=>true
  | .bl _=>true
  | .pt _ _ _=>true
  | .sl _ _ _ _=>true
  | .pa _ _ _ _=>true
  | .il _ _ _=>true
  | .er _ _ _ _=>true
  | .es=>true
  | .ag n f=>(List.range n).all λj=>gN (f j)
  | .tp n f=>(List.range n).all λj=>gN (f j)
  | .fn _ n f=>(List.range n).all λj=>gN (f j)
  | .bm _ s=>gN s
  | .mv _ s=>gN s
  | .ic _ s=>gN s
  |_=>false
def kl (l:List Nat) (F:Fr):Fr:=F.map λp=>(p.1,match aT l p.1,gN p.2 with|false,true=>p.2|_,_=> .aj)
def lH (N:Nat) (F:Fr):List (Nat×SV)->Fr
  | []=>F
  |p::r=>lH N (cJ N F (some p.1) p.2) r
def rootOf:SV->Option Nat
  | .ptr k _ _ _ _=>some k
  | .pe k _ _ _ _ _ _=>some k
  | .aC k _ _ _ _=>some k
  | .sa k _ _ _ _ _=>some k
  |_=>none
def mT (F:Fr):List (Nat×Nat)->Option (List Nat)
  | []=>some []
  |d::r=>match rootOf (look F d.1),mT F r with|some k,some l=>some (k::l)|_,_=>none
def pP (M:Mem) (nx sz:Nat) (s:SV):Option (SV×Mem):=
  match lk s with
  |true=>(match aM (aa M) nx with|true=>some (.aC nx (aa M nx).rs none 0 0,fresh M nx (.row sz 0 λ_ _=> .aj))|false=>none)
  |false=>some (s,M)
def ny (N:Nat):List (Nat×Nat)->Fr->Mem->Nat->Option (Fr×Mem)
  | [],F,M,_=>some (F,M)
  |d::r,F,M,nx=>match pP M nx d.2 (look F d.1),Nat.blt d.1 N with|some p,true=>ny N r ((d.1,p.1)::F) p.2 (nx+1)|_,_=>none
def fh (m:Nat->ao) (L l:List Nat):List Nat:=reach m 200 (L++l) []
def tP (m:Nat->ao) (n:Nat):List Nat:=((List.range n).foldl (λ(acc:List Nat×List Nat) k=>match aT acc.2 k with|true=>acc|false=>(acc.1++ [k],reach m 200 [k] acc.2)) ([],[])).1
def stays (κ:List Nat) (k:Nat):Bool:=match κ[k]? with|some k'=>Nat.beq k' k|none=>false
def na:List (Nat×Nat×Nat)->Fr->Mem->Nat->Option Mem
  | [],F,M,_=>some M
  |d::r,F,M,nx=>
   match look F d.1 with
   | .ptr k s none _ _=>
     match aR (aa M) k s none,(aa M k).hl,(aa M k).b with
     |true,none,.cells l=>
      match l.all λs=>!aX s,lk (aq l d.2.1),aM (aa M) nx with
      |true,true,true=>na r F ((k,⟨(aa M k).rs,(aa M k).ds,none,.cells (l.set d.2.1 (.aC nx (aa M nx).rs none 0 0))⟩)::fresh M nx (.row d.2.2 0 λ_ _=> .aj)) (nx+1)
      |true,false,_=>na r F M (nx+1)
      |_,_,_=>none
     |_,_,_=>none
   |_=>none
def lA (N:Nat) (rt:List (Nat×Nat)) (nc:List (Nat×Nat×Nat)) (F:Fr) (M:Mem) (nx:Nat):Option (Fr×Mem):=
  match ny N rt F M nx with
  |some x=>match na nc x.1 x.2 (nx+20)with|some M=>some (x.1,M)|none=>none
  |none=>none
def jm (cl:List Nat) (m:Nat->ao) (κ:List Nat):Bool:=
  match nodupB κ,κ.all λk=>whole (m k),cl.all λk=>stays κ k&&Nat.beq (m k).rs 0 with
  |true,true,true=>true
  |_,_,_=>false
def ez (m:Nat->ao) (κ:List Nat):List ar:=κ.map λk=>dC (cv m κ) false (m k).b
def js:List (Nat×ar)->List ar->List ar
  | [],B=>B
  |p::r,B=>js r (B.set p.1 p.2)
def uP:ar->Nat->Nat->Prop
  | .row sz n _,i,j=>i<n/\j<sz
  |_,_,_=>True
theorem C1 {b:ar} {i j:Nat} (h:uP b i j):gW b i j=true:=by
  unfold uP at h
  split at h
  · simp only[gW,Bool.and_eq_true]
    exact⟨by simpa [Nat.blt_eq]using h.1,by simpa [Nat.blt_eq]using h.2⟩
  · next hn=>unfold gW;split
             · next sz n f=>exact absurd rfl (hn sz n f)
             · rfl
def nU (m:Nat->ao) (κ:List Nat) (B:List ar) (x y:SV):Prop:=
  match y with
  | .aC k' s' (some nV) e' n'=>
    match x with
    | .aC k s (some ij) e n=>
      match idx κ k,aR m k s (some ij),Nat.beq s' 0 with
      |some q,true,true=>(match Nat.beq q k' with|true=>uP (B.getD q .dead) ij.1 ij.2/\ij.1=nV.1/\ij.2=nV.2/\e=e'/\n=n'|false=>False)
      |_,_,_=>False
    |x=>bT (bc (cv m κ) false x) (.aC k' s' (some nV) e' n')
  |y=>bT (bc (cv m κ) false x) y
def nW (m:Nat->ao) (κ:List Nat) (B:List ar) (F:Fr):List (Nat×SV)->Prop->Prop
  | [],R=>R
  |p::r,R=>nU m κ B (look F p.1) p.2/\nW m κ B F r R
def mE (m:Nat->ao) (nX:List Nat):Fr->List Nat->List Nat
  | [],_=> []
  |p::r,seen=>
   match aT seen p.1||aT nX p.1 with
   |true=>mE m nX r (p.1::seen)
   |false=>
    match p.2 with
    | .ptr k s none _ _=>
      match aR m k s none,(m k).b with
      |true,.cells _=>p.1::mE m nX r (p.1::seen)
      |_,_=>mE m nX r (p.1::seen)
    |_=>mE m nX r (p.1::seen)
def Dz (au:Bool) (L:List Nat) (F:Fr) (M:Mem) (x:Code) (n:iO):iO:=
  match au with
  |false=>n
  |true=>
   let ds:=mE (aa M) (assigned x) F []
   match mT F (n.rt++ds.map λd=>(d,0))with
   |some l=>{n with rt:=n.rt++ds.map λd=>(d,0),sh:=λs=>(ds.map λd=>(d,bc (cv (aa M) (fh (aa M) L l)) false (look F d)))++n.sh s}
   |none=>n
abbrev KK:=Ex->Fr->Mem->Nat->Prop
def p4 (b:Fr->Mem->Nat->KK->Prop) (K:KK):Nat->Fr->Mem->Nat->Prop
  |0,_,_,_=>False
  |n+1,F,M,nx=>b F M nx λe F M nx=>match e with| .normal=>p4 b K n F M nx|e=>K e F M nx
def cutAt (cK:Nat->Option Cut) (k:Nat):Nat->Option Cut
  |0=>none
  |_+1=>cK k
def mark (F:Fr) (M:Mem) (K:Fr->Mem->Prop):Prop:=lV [] F λF=>lI [] M λM=>K F M
theorem oY {F:Fr} {M:Mem} {K:Fr->Mem->Prop} (h:mark F M K): ∃F' M',(∀t,look F' t=look F t)/\(∀k,aa M' k=aa M k)/\K F' M':=by
  obtain⟨F',U,h2⟩:=po _ _ _ h
  obtain⟨M',h3,h4⟩:=oZ _ _ _ U
  exact⟨F',M',λt=>h2 t rfl,λk=>h4 k rfl,h3⟩
def p5 (ev:List An->Fr->Mem->Nat->(Ex->Fr->Mem->Nat->Prop)->Prop) (N:Nat) (cl L ax:List Nat) (n:iO) (sub:n.σ->List An) (F:Fr) (M:Mem) (nx:Nat) (K:Ex->Fr->Mem->Nat->Prop):Prop:=
  match mT F n.rt with
  |some l=>
   let κ:=fh (aa M) L l
   let B:=ez (aa M) κ
   match jm cl (aa M) κ with
   |true=>nW (aa M) κ (js (n.mh n.init) B) F (n.sh n.init) (fT B (js (n.mh n.init) B)/\n.inv n.init/\ ∀s,n.inv s->
      mark (lH N (kl ax F) (n.sh s)) (bf 0 (js (n.mh s) B)) λF M=>ev (sub s) F M nx λe F' M' bj=>
        match e with
        | .normal=>
          match lA N n.rt n.nc F' M' bj with
          |none=>False
          |some (F',M')=>
          match mT F' n.rt with
          |some l'=>
           match jm cl (aa M') (fh (aa M') L l')with
           |true=> ∃s',nW (aa M') (fh (aa M') L l') (js (n.mh s') B) F' (n.sh s') (fT (ez (aa M') (fh (aa M') L l')) (js (n.mh s') B)/\n.inv s'/\n.μ s'<n.μ s)
           |false=>False
          |none=>False
        |e=>K e F' M' bj)
   |false=>False
  |none=>False
def cm (P:Program) (dl:Option (List Nat)) (sg:Bool) (Gl:Nat->SV) (Γ:Table) (N:Nat) (cl:List Nat) (L:List Nat) (cK:Nat->Option Cut):Code->Nat->List An->Fr->Mem->Nat->KK->Prop
  | .skip,_,_,F,M,nx,K=>K .normal F M nx
  | .region _ ops draw,_,_,F,M,nx,K=>
    match draw with
    |false=>eZ P sg Gl Γ N ops.toList (K .normal) ops.toList F M nx []
    |true=>th P sg Gl Γ N ops.toList (K .normal) F M nx
  | .seq x y,pos,an,F,M,nx,K=>
    match cutAt cK (pos+nr x) (nr y)with
    |none=>cm P dl sg Gl Γ N cl L cK x pos (an.take (nl x)) F M nx λe F M nx=>match e with| .normal=>cm P dl sg Gl Γ N cl L cK y (pos+nr x) (an.drop (nl x)) F M nx K|e=>K e F M nx
    |some c=>(cm P dl sg Gl Γ N cl L cK x pos (an.take (nl x)) F M nx λe F' M' bj=>
       match e with
       | .normal=>
         match lA N c.rt c.nc F' M' bj with
         |none=>False
         |some (F',M')=>
         match mT F' c.rt with
         |some l'=>
          match jm cl (aa M') (fh (aa M') L l')with
          |true=>
           let s':=c.dec (λd=>bc (cv (aa M') (fh (aa M') L l')) false (look F' d)) (ez (aa M') (fh (aa M') L l'))
           nW (aa M') (fh (aa M') L l') (c.mem s') F' (c.sh s') (fT (ez (aa M') (fh (aa M') L l')) (c.mem s')/\c.inv s')
          |false=>False
         |none=>False
       |e=>K e F' M' bj)/\
     ∀s,c.inv s->mark (lH N (kl (assigned x) F) (c.sh s)) (bf 0 (c.mem s)) λF M=>cm P dl sg Gl Γ N cl L cK y (pos+nr x) (an.drop (nl x)) F M nx K
  | .cond c x y,pos,an,F,M,nx,K=>
    match aW Gl F c with
    | .bl true=>cm P dl sg Gl Γ N cl L cK x pos (an.take (nl x)) F M nx K
    | .bl false=>cm P dl sg Gl Γ N cl L cK y (pos+nr x) (an.drop (nl x)) F M nx K
    | .v (.bool b)=>
      match D9 dl pos x y with
      |true=>(match b with|true=>cm P dl sg Gl Γ N cl L cK x pos (an.take (nl x)) F M nx K|false=>cm P dl sg Gl Γ N cl L cK y (pos+nr x) (an.drop (nl x)) F M nx K)
      |false=>(b=true->mark F M λF M=>cm P dl sg Gl Γ N cl L cK x pos (an.take (nl x)) F M nx K)/\(b=false->mark F M λF M=>cm P dl sg Gl Γ N cl L cK y (pos+nr x) (an.drop (nl x)) F M nx K)
    |_=>False
  | .block id x,pos,an,F,M,nx,K=>cm P dl sg Gl Γ N cl L cK x pos an F M nx λe F M nx=>match e with| .exit i=>(match Nat.beq i id with|true=>K .normal F M nx|false=>K (.exit i) F M nx)|e=>K e F M nx
  | .loop x,pos,an,F,M,nx,K=>
    match zG F an with
    | []=>False
    | .dec::_=>False
    | .uO _::_=>False
    | .cut _ _::_=>False
    | .zF _ _::_=>False
    | .pO n::r=>p4 (cm P dl sg Gl Γ N cl L cK x pos r) K n F M nx
    | .D8 n sub::_=>
      match lA N n.rt n.nc F M nx with
      |none=>False
      |some (F,M)=>p5 (cm P dl sg Gl Γ N cl L cK x pos) N cl L (assigned x) n sub F M nx K
    | .uN au n0::r=>
      match lA N n0.rt n0.nc F M nx with
      |none=>False
      |some (F,M)=>p5 (cm P dl sg Gl Γ N cl L cK x pos) N cl L (assigned x) (Dz au L F M x n0) (λ_=>r) F M nx K
  | .exit id,_,_,F,M,nx,K=>K (.exit id) F M nx
  | .ret,_,_,F,M,nx,K=>K .ret F M nx
  |_,_,_,_,_,_,_=>False
def km (P:Program) (F:Fr) (M:Mem) (K:List SV->Prop):List ResultVar->List SV->Prop
  | [],acc=>K acc.reverse
  | .tmp t::r,acc=>km P F M K r (look F t::acc)
  | .cell ad T::r,acc=>(m2 P T (look F ad) (aa M)).run λs=>km P F M K r (s::acc)
def eE (m:Nat->ao) (κ:List Nat):SV->SV
  | .ptr k s p i j=>match idx κ k with|some _=>bc (cv m κ) false (.ptr k s p i j)|none=>ro false 12 m κ (.ptr k s p i j)
  | .pe k s p i j n z=>match idx κ k with|some _=>bc (cv m κ) false (.pe k s p i j n z)|none=>ro false 12 m κ (.pe k s p i j n z)
  | .aC k s p e n=>match idx κ k with|some _=>bc (cv m κ) false (.aC k s p e n)|none=>ro false 12 m κ (.aC k s p e n)
  | .sa k s p i j n=>match idx κ k with|some _=>bc (cv m κ) false (.sa k s p i j n)|none=>ro false 12 m κ (.sa k s p i j n)
  | .ag n f=> .ag n λj=>eE m κ (f j)
  | .tp n f=> .tp n λj=>eE m κ (f j)
  | .fn id n f=> .fn id n λj=>eE m κ (f j)
  | .bm id s=> .bm id (eE m κ s)
  | .mv nm s=> .mv nm (eE m κ s)
  | .ic t s=> .ic t (eE m κ s)
  |s=>s
def j6 (aB:List ar):List SV->List SV->Mem->Nat->Option (List SV×Mem)
  |s::r,t::q,M,nx=>
   match t with
   | .aC k _ none _ _=>
     match aB[k]? with
     |some (.row sz _ _)=>match pP M nx sz s with|some x=>(match j6 aB r q x.2 (nx+1)with|some y=>some (x.1::y.1,y.2)|none=>none)|none=>none
     |_=>none
   |_=>match j6 aB r q M nx with|some y=>some (s::y.1,y.2)|none=>none
  |l,_,M,_=>some (l,M)
def D_ (n:Nat) (res:SV):List SV:=match n,res with|1,r=> [r]|n,.tp _ f=>(List.range n).map f|_,_=> []
def yK (cl:List Nat) (L:List Nat) (M:Mem) (res:SV) (aB:List ar) (l:List SV):Prop:=
  let κ:=(fh (aa M) L (l.flatMap gR)).take aB.length
  match jm cl (aa M) κ with
  |true=>(match l with| [s]=>bT (eE (aa M) κ s) res|l=>bT (.tp l.length (aq (l.map λs=>eE (aa M) κ s))) res)/\fT (ez (aa M) κ) aB
  |false=>False
def p6 (cl:List Nat) (L:List Nat) (M:Mem) (nx:Nat) (res:SV) (aB:List ar) (l:List SV):Prop:=
  match j6 aB l (D_ l.length res) M nx with
  |some x=>yK cl L x.2 res aB x.1
  |none=>False
def iG:Nat->List SV->Fr
  |_,[]=> []
  |i,s::r=>(i,s)::iG (i+1) r
def lJ (mem:List ar):List Nat:=(List.range mem.length).filter λk=>match mem[k]? with|some (.cells _)=>true|_=>false
def zl:List An->Option (List Nat)
  | []=>none
  | .dec::_=>some []
  | .uO l::_=>some l
  |_::r=>zl r
def lB:List An->List An
  | []=> []
  | .dec::r=>lB r
  | .uO _::r=>lB r
  | .cut _ _::r=>lB r
  |a::r=>a::lB r
def tQ:List An->Nat->Option Cut
  | [],_=>none
  | .cut k c::r,n=>match Nat.beq k n with|true=>some c|false=>tQ r n
  |_::r,n=>tQ r n
def pN (P:Program) (sg:Bool) (Gl:Nat->SV) (Γ:Table) (fn:Func) (args:List SV) (mem:List ar) (an:List An) (res:SV) (aB:List ar):Prop:=
  match fn.body with
  |some c=>match Nat.ble args.length fn.ntmps with
   |false=>False
   |true=>cm P (zl an) sg Gl Γ fn.ntmps (lJ mem) (tP (aa (bf 0 mem)) mem.length) (tQ an) c 0 (lB an) (iG 0 args) (bf 0 mem) 100 λe F M nx=>
    match e with
    | .exit _=>False
    |_=>km P F M (p6 (lJ mem) (tP (aa (bf 0 mem)) mem.length) M nx res aB) fn.results.toList []
  |none=>False
section
variable {P:Program} {w:World} {J:Ow} {Gl:Nat->SV} {Γ:Table} {N:Nat} {F:Fr} {M:Mem} {a:Act} {cl:List Nat} {L:List Nat}
structure Rel (cl:List Nat) (w1:World) (aI:Ow) (M1:Mem) (w:World) (J:Ow) (M:Mem):Prop where
  bare:Ext w1 aI.bare w J.bare
  cI: ∀k∈cl,(aa M k).rs=0->(aa M1 k).rs=0/\ ∀L,aI.β k none=some L->J.β k none=some L
theorem Rel.refl (w:World) (J:Ow) (M:Mem):Rel cl w J M w J M:=⟨Ext.refl _ _,λ_ _ h=>⟨h,λ_ h=>h⟩⟩
theorem Rel.trans {w1 w2 w3:World} {aI dm ig:Ow} {M1 M2 M3:Mem} (h:Rel cl w1 aI M1 w2 dm M2) (k:Rel cl w2 dm M2 w3 ig M3):Rel cl w1 aI M1 w3 ig M3:=
  ⟨h.bare.trans k.bare,λq hq h0=>let⟨e1,e2⟩:=k.cI q hq h0;let⟨e3,e4⟩:=h.cI q hq e1;⟨e3,λL hL=>e2 L (e4 L hL)⟩⟩
theorem Rel.of {w1:World} {aI:Ow} {M1:Mem} (U:ai w1 aI M1) (h2:ai w J M) (he:Ext w1 aI w J):Rel cl w1 aI M1 w J M:=by
  refine⟨he.bare,λk _ h0=>?_⟩
  have hm:=(he.mono k).1
  rw[U.cur,h2.cur]at hm
  have hm:(aa M1 k).rs<=(aa M k).rs:=hm
  refine⟨by omega,λL hL=>he.fU k none L hL ?_⟩
  rw[U.cur,h2.cur]
  show(aa M k).rs=(aa M1 k).rs
  omega
def cW (P:Program) (Gl:Nat->SV) (N:Nat) (cl:List Nat) (S:List Nat) (a0:Act) (w1:World) (aI:Ow) (M1:Mem) (K:Fr->Mem->Nat->Prop) (a:Act) (w:World):Prop:=
  ∃J F M nx,St P Gl N F M a w J/\Rel cl w1 aI M1 w J M/\bq S a0 a/\K F M nx
theorem cW.weaken {S S':List Nat} {a0 a1:Act} {w1 w2:World} {aI dm:Ow} {M1 M2:Mem} {K K':Fr->Mem->Nat->Prop} {a:Act} {w:World} (h:cW P Gl N cl S a1 w2 dm M2 K a w)
    (hS: ∀i∈S,i∈S') (hk:bq S' a0 a1) (hg:Rel cl w1 aI M1 w2 dm M2) (hK: ∀F M nx,K F M nx->K' F M nx):cW P Gl N cl S' a0 w1 aI M1 K' a w:=by
  obtain⟨J,F,M,nx,U,h2,h3,h4⟩:=h
  exact⟨J,F,M,nx,U,hg.trans h2,hk.trans (h3.mono hS),hK _ _ _ h4⟩
def QQ (P:Program) (Gl:Nat->SV) (N:Nat) (cl:List Nat) (S:List Nat) (a0:Act) (w1:World) (aI:Ow) (M1:Mem) (K:KK):Exit->Act->World->Prop
  | .normal,a,w=>cW P Gl N cl S a0 w1 aI M1 (K .normal) a w
  | .exit id,a,w=>cW P Gl N cl S a0 w1 aI M1 (K (.exit id)) a w
  | .ret,a,w=>cW P Gl N cl S a0 w1 aI M1 (K .ret) a w
  |_,_,_=>False
theorem QQ.weaken {S S':List Nat} {a0 a1:Act} {w1 w2:World} {aI dm:Ow} {M1 M2:Mem} {K:KK} (hS: ∀i∈S,i∈S') (hk:bq S' a0 a1) (hg:Rel cl w1 aI M1 w2 dm M2):
    ∀e a w,QQ P Gl N cl S a1 w2 dm M2 K e a w->QQ P Gl N cl S' a0 w1 aI M1 K e a w
  | .normal,_,_,h=>cW.weaken h hS hk hg λ_ _ _ h=>h
  | .exit _,_,_,h=>cW.weaken h hS hk hg λ_ _ _ h=>h
  | .ret,_,_,h=>cW.weaken h hS hk hg λ_ _ _ h=>h
  | .goto _,_,_,h=>h
  | .panic _,_,_,h=>h
  | .outgrown,_,_,h=>h
theorem Rel.congr {w1:World} {aI:Ow} {M1 M':Mem} (h:Rel cl w1 aI M1 w J M) (hM: ∀k,aa M' k=aa M k):Rel cl w1 aI M1 w J M':=⟨h.bare,λk hk h0=>h.cI k hk (by rw[<-hM];exact h0)⟩
theorem Rel.C2 {w1:World} {aI:Ow} {M1 M':Mem} (h:Rel cl w1 aI M' w J M) (hM: ∀k,aa M' k=aa M1 k):Rel cl w1 aI M1 w J M:=⟨h.bare,λk hk h0=>by rw[<-hM];exact h.cI k hk h0⟩
theorem QQ.congr {S:List Nat} {a0:Act} {w1:World} {aI:Ow} {M1 M':Mem} {K:KK} (hM: ∀k,aa M' k=aa M1 k): ∀e a w,QQ P Gl N cl S a0 w1 aI M' K e a w->QQ P Gl N cl S a0 w1 aI M1 K e a w:=by
  have key: ∀{K:Fr->Mem->Nat->Prop} {a w},cW P Gl N cl S a0 w1 aI M' K a w->cW P Gl N cl S a0 w1 aI M1 K a w:=λ⟨J,F,M,nx,U,h2,h3,h4⟩=>⟨J,F,M,nx,U,h2.C2 hM,h3,h4⟩
  intro e a w h
  cases e with
  |normal=>exact key h
  |exit i=>exact key h
  |ret=>exact key h
  |goto l=>exact h
  |panic c=>exact h
  |outgrown=>exact h
theorem AT {s:SV}: ∀{u:Value},gN s=true->Den w J s u->Den w J.bare s u:=by
  induction s with
  |ptr _ _ _ _ _=>intro u h;cases h
  |pe _ _ _ _ _ _ _=>intro u h;cases h
  |aC _ _ _ _ _=>intro u h;cases h
  |sa _ _ _ _ _ _=>intro u h;cases h
  |ag n f ih=>
   intro u h hd
   obtain⟨cs,rfl,hs,hj⟩:=hd
   exact⟨cs,rfl,hs,λj aw=>let⟨x,U,h2⟩:=hj j aw;⟨x,U,ih j (List.all_eq_true.1 h j (List.mem_range.2 aw)) h2⟩⟩
  |tp n f ih=>
   intro u h hd
   obtain⟨cs,rfl,hs,hj⟩:=hd
   exact⟨cs,rfl,hs,λj aw=>let⟨x,U,h2⟩:=hj j aw;⟨x,U,ih j (List.all_eq_true.1 h j (List.mem_range.2 aw)) h2⟩⟩
  |fn id n f ih=>
   intro u h hd
   obtain⟨cs,rfl,hs,hj⟩:=hd
   exact⟨cs,rfl,hs,λj aw=>let⟨x,U,h2⟩:=hj j aw;⟨x,U,ih j (List.all_eq_true.1 h j (List.mem_range.2 aw)) h2⟩⟩
  |bm id s ih=>intro u h hd;obtain⟨x,rfl,hx⟩:=hd;exact⟨x,rfl,ih h hx⟩
  |mv nm s ih=>intro u h hd;obtain⟨x,rfl,hx⟩:=hd;exact⟨x,rfl,ih h hx⟩
  |ic t s ih=>intro u h hd;obtain⟨x,rfl,hx⟩:=hd;exact⟨x,rfl,ih h hx⟩
  |_=>intro u _ hd;exact hd
theorem sr (l:List Nat): ∀(F:Fr) (i:Nat),look (kl l F) i= .aj\/(look (kl l F) i=look F i/\gN (look F i)=true/\i∉l)
  | [],_=> .inl rfl
  |p::r,i=>by
   simp only[kl,List.map_cons,look]
   cases hb:Nat.beq p.1 i with
   |false=>exact sr l r i
   |true=>
    have e:=Nat.eq_of_beq_eq_true hb
    subst e
    cases U:aT l p.1 with
    |true=>exact .inl rfl
    |false=>
     cases h2:gN p.2 with
     |false=>exact .inl rfl
     |true=>exact .inr ⟨rfl,rfl,λhm=>by rw[cU.2 hm]at U;cases U⟩
theorem x_ {w':World} {ae:Ow} {t':Array Value}: ∀(l:List (Nat×SV)) {F:Fr},bA w' ae N F t'->(∀p∈l,∀u,t'[p.1]? =some u->Den w' ae p.2 u)->bA w' ae N (lH N F l) t'
  | [],_,h,_=>h
  |p::r,F,h,hp=>by
   refine x_ r ?_ λq hq=>hp q (by simp[hq])
   cases af:Nat.blt p.1 N with
   |true=>
    have e:cJ N F (some p.1) p.2=(p.1,p.2)::F:=by simp only[cJ,af]
    rw[e]
    exact h.tell (Nat.le_of_ble_eq_true af) (hp p (by simp))
   |false=>
    have e:cJ N F (some p.1) p.2=F:=by simp only[cJ,af]
    rw[e];exact h
theorem pq {m:Nat->ao} {κ:List Nat} {B:List ar}: ∀{l:List (Nat×SV)} {R:Prop},nW m κ B F l R->(∀p∈l,nU m κ B (look F p.1) p.2)/\R
  | [],_,h=>⟨λp hp=>by simp at hp,h⟩
  |p::r,_,⟨U,h2⟩=>by
   obtain⟨h3,h4⟩:=pq h2
   refine⟨λq hq=>?_,h4⟩
   rcases List.mem_cons.1 hq with rfl|hq
   · exact U
   · exact h3 q hq
theorem Bd {m:Nat->ao} {κ:List Nat} (h:jm cl m κ=true):κ.Nodup/\(∀k∈κ,whole (m k)=true)/\ ∀k∈cl,κ[k]? =some k/\(m k).rs=0:=by
  unfold jm at h
  split at h
  · next U h2 h3=>
    refine⟨la U,λk hk=>List.all_eq_true.1 h2 k hk,λk hk=>?_⟩
    have:=List.all_eq_true.1 h3 k hk
    rw[Bool.and_eq_true]at this
    refine⟨?_,Nat.eq_of_beq_eq_true this.2⟩
    have h4:=this.1
    unfold stays at h4
    split at h4
    · next k' cC=>rw[cC,Nat.eq_of_beq_eq_true h4]
    · cases h4
  · cases h
theorem St.zm (h:St P Gl N F M a w J) {κ:List Nat} {B:List ar} (hc:jm cl (aa M) κ=true) (ha:fT (ez (aa M) κ) B):
    ai w (bM J κ B) (bf 0 B)/\Rel cl w J M w (bM J κ B) (bf 0 B):=by
  obtain⟨U,h2,h3⟩:=Bd hc
  refine⟨xZ h.mem U h2 ha,mD _ _,λk hk _=>⟨(h3 k hk).2,λL hL=>?_⟩⟩
  rw[oX (k:=k) (h3 k hk).1]
  exact hL
theorem Ci (hm:ai w J M) {κ:List Nat} {B:List ar} {x y:SV} {u:Value} (h:nU (aa M) κ B x y) (hd:Den w J x u):Den w (bM J κ B) y u:=by
  unfold nU at h
  split at h
  · next k' s' nV e' n'=>
    split at h
    · next k s ij e n=>
      split at h
      · next q hq ay kA=>
        split at h
        · next ED=>
          obtain rfl:=Nat.eq_of_beq_eq_true ED
          obtain rfl:=Nat.eq_of_beq_eq_true kA
          obtain⟨hr,U,h2,rfl,rfl⟩:=h
          have hr:=C1 hr
          obtain⟨i,j⟩:=ij
          obtain⟨i',j'⟩:=nV
          have U:i=i':=U
          have h2:j=j':=h2
          subst U h2
          have e0:=et hm ay
          rcases hd with hd|⟨_,p,cap,y1,y2,y3,y4⟩
          · omega
          exact .inr ⟨rfl,p,cap,y1,y2,y3,by rw[sG (fl hq) hr];exact y4⟩
        · exact h.elim
      · exact h.elim
    · exact j3 h (mJ hm _ _ hd)
  · exact j3 h (mJ hm _ _ hd)
theorem ti {a1:Act} {w1:World} {aI:Ow} {M1:Mem} {F1:Fr} (U:St P Gl N F1 M1 a1 w1 aI) (h:St P Gl N F M a w J) {S:List Nat} (hr:Rel cl w1 aI M1 w J M) (hk:bq S a1 a)
    {κ:List Nat} {B:List ar} {sh:List (Nat×SV)} (hc:jm cl (aa M) κ=true) (ha:fT (ez (aa M) κ) B) (hs: ∀p∈sh,nU (aa M) κ B (look F p.1) p.2):
    ∃ae,St P Gl N (lH N (kl S F1) sh) (bf 0 B) a w ae/\Rel cl w1 aI M1 w ae (bf 0 B):=by
  obtain⟨hm,uQ⟩:=h.zm hc ha
  have zX:=hr.trans uQ
  refine⟨_,⟨?_,λg=>Den.ext (o:=J.bare) (mD _ _) (h.bG g),hm,h.defers⟩,zX⟩
  refine x_ _ ⟨h.frame.size,λi u hu=>?_,λi hi=>?_⟩ ?_
  · rcases sr S F1 i with e|⟨e,vj,bY⟩
    · rw[e];trivial
    · rw[e]
      have vk:a1.tmps[i]? =some u:=by rw[<-hk.2 i bY];exact hu
      exact(Den.ext (o:=aI.bare) zX.bare (AT vj (U.frame.den i u vk))).up
  · rcases sr S F1 i with e|⟨e,_,_⟩
    · exact e
    · rw[e];exact U.frame.out i hi
  · intro p hp u hu
    exact Ci h.mem (hs p hp) (h.frame.den p.1 u hu)
theorem wG {s:SV} {u:Value} (h:lk s=true) (hd:Den w J s u): ∃p,u= .slice p 0 0:=by
  unfold lk at h
  split at h
  · exact⟨none,hd⟩
  · exact hd
  · cases h
theorem xc (hm:ai w J M) {nx sz:Nat} {s s':SV} {M':Mem} {u:Value} (hd:Den w J s u) (h:pP M nx sz s=some (s',M')):Den w J s' u/\ai w J M'/\Rel cl w J M w J M':=by
  unfold pP at h
  split at h
  · next hn=>
    split at h
    · next hf=>
      simp only[Option.some.injEq,Prod.mk.injEq]at h
      obtain⟨rfl,rfl⟩:=h
      obtain⟨pn,hu⟩:=wG hn hd
      have aD:=az.dummy hm (eU hm hf) sz 0 (λ_ _=> .aj)
      refine⟨?_,aD.mem,Rel.of hm aD.mem aD.ext⟩
      subst hu
      exact .inr ⟨by rw[hm.cur];rfl,pn,0,rfl,Nat.le_refl _,Nat.zero_le _,.inl rfl⟩
    · cases h
  · simp only[Option.some.injEq,Prod.mk.injEq]at h
    obtain⟨rfl,rfl⟩:=h
    exact⟨hd,hm,Rel.refl _ _ _⟩
theorem ya: ∀{rt:List (Nat×Nat)} {F F':Fr} {M M':Mem} {nx:Nat},St P Gl N F M a w J->ny N rt F M nx=some (F',M')->St P Gl N F' M' a w J/\Rel cl w J M w J M'
  | [],F,F',M,M',nx,h,he=>by
    simp only[ny,Option.some.injEq,Prod.mk.injEq]at he
    obtain⟨rfl,rfl⟩:=he
    exact⟨h,Rel.refl _ _ _⟩
  |d::r,F,F',M,M',nx,h,he=>by
   unfold ny at he
   split at he
   · next p hp af=>
     have af:d.1<N:=Nat.le_of_ble_eq_true af
     obtain⟨p1,p2⟩:=p
     have hx:d.1<a.tmps.size:=by rw[h.frame.size];exact af
     obtain⟨g1,g2,g3⟩:=xc (cl:=cl) h.mem (h.frame.den d.1 a.tmps[d.1] (by simp[hx])) hp
     have h':St P Gl N ((d.1,p1)::F) p2 a w J:=⟨h.frame.tell af (λu hu=>by
       have:a.tmps[d.1]? =some a.tmps[d.1]:=by simp[hx]
       obtain rfl:=Option.some.inj (this.symm.trans hu)
       exact g1),h.bG,g2,h.defers⟩
     obtain⟨k1,k2⟩:=ya h' he
     exact⟨k1,g3.trans k2⟩
   · cases he
theorem sR: ∀{nc:List (Nat×Nat×Nat)} {M M':Mem} {nx:Nat},St P Gl N F M a w J->na nc F M nx=some M'->St P Gl N F M' a w J/\Rel cl w J M w J M'
  | [],M,M',nx,h,he=>by
    obtain rfl:=Option.some.inj he
    exact⟨h,Rel.refl _ _ _⟩
  |d::r,M,M',nx,h,he=>by
   unfold na at he
   split at he
   · next k s i j hl=>
     split at he
     · next l ay d_ hb=>
       split at he
       · next aZ uR hf=>
         have bu:=eU h.mem hf
         have aD:=az.dummy h.mem bu d.2.2 0 (λ_ _=> .aj)
         have aP:nx≠k:=by
           intro e;subst e
           have:=bu.1
           rw[hb]at this;cases this
         have EE:aa (fresh M nx (.row d.2.2 0 λ_ _=> .aj)) k=⟨(aa M k).rs,(aa M k).ds,none,.cells l⟩:=by
           unfold fresh;rw[aQ aP]
           cases he:aa M k;rw[he]at d_ hb;subst d_;subst hb;rfl
         have zH: ∀j,aX (aq l j)=false:=λj=>by
           unfold aq
           rw[List.getD_eq_getElem?_getD]
           cases hj:l[j]? with
           |none=>rfl
           |some y=>have:=List.all_eq_true.1 aZ y (List.mem_of_getElem? hj);simpa using this
         have lK:(aa M nx).rs=st J.cur nx none:=by rw[h.mem.cur];rfl
         have zY:=ai.yL aD.mem EE rfl (l':=l.set d.2.1 (.aC nx (aa M nx).rs none 0 0)) (by simp) (λL hL c T hc j hj x hx hd=>by
           by_cases vl:j=d.2.1
           · have e:aq (l.set d.2.1 (.aC nx (aa M nx).rs none 0 0)) j= .aC nx (aa M nx).rs none 0 0:=by
               rw[<-vl];unfold aq;simp[List.getD_eq_getElem?_getD,hj]
             rw[e]
             obtain⟨pn,hu⟩:=wG uR (by rw[<-vl];exact hd)
             subst hu
             exact⟨rfl,.inr ⟨lK,pn,0,rfl,Nat.le_refl _,Nat.zero_le _,.inl rfl⟩⟩
           · have e:aq (l.set d.2.1 (.aC nx (aa M nx).rs none 0 0)) j=aq l j:=by
               unfold aq;simp[List.getD_eq_getElem?_getD,Ne.symm vl]
             rw[e]
             exact⟨zH j,hd⟩) zH
         have h':St P Gl N F ((k,⟨(aa M k).rs,(aa M k).ds,none,.cells (l.set d.2.1 (.aC nx (aa M nx).rs none 0 0))⟩)::fresh M nx (.row d.2.2 0 λ_ _=> .aj)) a w J:=⟨h.frame,h.bG,zY,h.defers⟩
         obtain⟨k1,k2⟩:=sR h' he
         exact⟨k1,(Rel.of h.mem zY (Ext.refl _ _)).trans k2⟩
       · exact sR h he
       · cases he
     · cases he
   · cases he
theorem pv {rt:List (Nat×Nat)} {nc:List (Nat×Nat×Nat)} {F F':Fr} {M M':Mem} {nx:Nat} (h:St P Gl N F M a w J) (he:lA N rt nc F M nx=some (F',M')):St P Gl N F' M' a w J/\Rel cl w J M w J M':=by
  unfold lA at he
  split at he
  · next x hx=>
    split at he
    · next M1 nY=>
      simp only[Option.some.injEq,Prod.mk.injEq]at he
      obtain⟨rfl,rfl⟩:=he
      obtain⟨g1,g2⟩:=ya (cl:=cl) h hx
      obtain⟨g3,g4⟩:=sR (cl:=cl) g1 nY
      exact⟨g3,g2.trans g4⟩
    · cases he
  · cases he
theorem Be (hS:Sound P Gl Γ) {dl:Option (List Nat)} {sg:Bool} {cK:Nat->Option Cut}: ∀(c:Code) (pos:Nat) (an:List An) (F:Fr) (M:Mem) (nx:Nat) (a:Act) (w:World) (J:Ow) (K:KK),
    St P Gl N F M a w J->cm P dl sg Gl Γ N cl L cK c pos an F M nx K->c.wp P (QQ P Gl N cl (assigned c) a w J M K) a w:=by
  intro c
  induction c with
  |skip=>intro pos an F M nx a w J K h he;exact wp_skip ⟨J,F,M,nx,h,Rel.refl _ _ _,bq.refl _ _,he⟩
  |region id ops draw=>
   intro pos an F M nx a w J K h he
   have hd: ∀o∈ops.toList,∀t,o.dst=some t->t∈assigned (.region id ops draw):=by
     intro o ho t ht
     simp only[assigned,List.mem_filterMap]
     exact⟨o,ho,ht⟩
   cases draw with
   |false=>
    simp only[cm]at he
    refine wp_region_list (ir hS (Q:=QQ P Gl N cl (assigned (.region id ops false)) a w J M K) (S:=assigned (.region id ops false)) (a0:=a) (w1:=w) (aI:=J) ?_ ops.toList F M nx [] a w J hd h (λx hx=>by cases hx) (Ext.refl _ _) (bq.refl _ _) he)
    rintro a' w' ⟨ae,F',M',bj,g1,g2,g3,g4⟩
    exact⟨ae,F',M',bj,g1,Rel.of h.mem g1.mem g2,g3,g4⟩
   |true=>
    simp only[cm]at he
    refine Cj hS (Q:=QQ P Gl N cl (assigned (.region id ops true)) a w J M K) (S:=assigned (.region id ops true)) (λ_ _ _ _ _ h=>h.elim) ?_ hd h he
    rintro a' w' ⟨ae,F',M',bj,g1,g2,g3,g4⟩
    exact⟨ae,F',M',bj,g1,Rel.of h.mem g1.mem g2,g3,g4⟩
  |seq x y nZ n4=>
   intro pos an F M nx a w J K h he
   simp only[cm]at he
   have iH: ∀i∈assigned x,i∈assigned (.seq x y):=λi hi=>by simp[assigned,hi]
   have nz: ∀i∈assigned y,i∈assigned (.seq x y):=λi hi=>by simp[assigned,hi]
   split at he
   next D'=>
     refine wp_seq (wp_mono (nZ _ _ F M nx a w J _ h he) ?_)
     intro e a1 w1 hq
     cases e with
     |normal=>
      obtain⟨aI,F1,M1,dI,U,g1,k1,dw⟩:=hq
      exact wp_mono (n4 _ _ F1 M1 dI a1 w1 aI K U dw) (QQ.weaken nz (k1.mono iH) g1)
     |exit id=>exact cW.weaken hq iH (bq.refl _ _) (Rel.refl _ _ _) (λ_ _ _ h=>h)
     |ret=>exact cW.weaken hq iH (bq.refl _ _) (Rel.refl _ _ _) (λ_ _ _ h=>h)
     |goto l=>exact hq
     |panic ch=>exact hq
     |outgrown=>exact hq
   next c D'=>
   obtain⟨EF,EG⟩:=he
   refine wp_seq (wp_mono (nZ _ _ F M nx a w J _ h EF) ?_)
   intro e a1 w1 hq
   cases e with
   |normal=>
    obtain⟨aI,F1,M1,dI,U,g1,k1,dw⟩:=hq
    simp only at dw
    split at dw
    · exact dw.elim
    · next F2 M2 hp=>
      obtain⟨h2,g2⟩:=pv (cl:=cl) U hp
      split at dw
      · next l' hl=>
        split at dw
        · next uS=>
          obtain⟨hs,ha,hinv⟩:=pq dw
          obtain⟨ig,h3,g3⟩:=ti h h2 (g1.trans g2) k1 uS ha hs
          obtain⟨F4,M4,vm,n7,vn⟩:=oY (EG _ hinv)
          exact wp_mono (n4 _ _ _ _ nx a1 w1 ig K (h3.congr vm n7) vn) (QQ.weaken nz (k1.mono iH) (g3.congr n7))
        · exact dw.elim
      · exact dw.elim
   |exit id=>exact cW.weaken hq iH (bq.refl _ _) (Rel.refl _ _ _) (λ_ _ _ h=>h)
   |ret=>exact cW.weaken hq iH (bq.refl _ _) (Rel.refl _ _ _) (λ_ _ _ h=>h)
   |goto l=>exact hq
   |panic ch=>exact hq
   |outgrown=>exact hq
  |cond c x y nZ n4=>
   intro pos an F M nx a w J K h he
   have iH: ∀i∈assigned x,i∈assigned (.cond c x y):=λi hi=>by simp[assigned,hi]
   have nz: ∀i∈assigned y,i∈assigned (.cond c x y):=λi hi=>by simp[assigned,hi]
   have hc:=h.cx.val c
   simp only[cm]at he
   split at he
   · next hs=>
     rw[hs]at hc
     exact wp_cond_true hc (wp_mono (nZ _ _ F M nx a w J K h he) (QQ.weaken iH (bq.refl _ _) (Rel.refl _ _ _)))
   · next hs=>
     rw[hs]at hc
     exact wp_cond_false hc (wp_mono (n4 _ _ F M nx a w J K h he) (QQ.weaken nz (bq.refl _ _) (Rel.refl _ _ _)))
   · next b hs=>
     rw[hs]at hc
     replace he:(b=true-> ∃F' M',(∀t,look F' t=look F t)/\(∀k,aa M' k=aa M k)/\cm P dl sg Gl Γ N cl L cK x pos (an.take (nl x)) F' M' nx K)/\(b=false-> ∃F' M',(∀t,look F' t=look F t)/\(∀k,aa M' k=aa M k)/\cm P dl sg Gl Γ N cl L cK y (pos+nr x) (an.drop (nl x)) F' M' nx K):=by
       split at he
       · cases b
         · exact⟨λe=>(nomatch e),λ_=>⟨F,M,λ_=>rfl,λ_=>rfl,he⟩⟩
         · exact⟨λ_=>⟨F,M,λ_=>rfl,λ_=>rfl,he⟩,λe=>(nomatch e)⟩
       · exact⟨λhb=>oY (he.1 hb),λhb=>oY (he.2 hb)⟩
     refine wp_cond_split (t:=b) hc (λhb=>?_) (λhb=>?_)
     · obtain⟨F',M',hF,hM,hc⟩:=he.1 hb
       exact wp_mono (nZ _ _ F' M' nx a w J K (h.congr hF hM) hc) (λe a w hq=>QQ.weaken iH (bq.refl _ _) (Rel.refl _ _ _) e a w (QQ.congr hM e a w hq))
     · obtain⟨F',M',hF,hM,hc⟩:=he.2 hb
       exact wp_mono (n4 _ _ F' M' nx a w J K (h.congr hF hM) hc) (λe a w hq=>QQ.weaken nz (bq.refl _ _) (Rel.refl _ _ _) e a w (QQ.congr hM e a w hq))
   · exact he.elim
  |block id x ih=>
   intro pos an F M nx a w J K h he
   simp only[cm]at he
   refine wp_block (wp_mono (ih _ _ F M nx a w J _ h he) ?_)
   intro e a1 w1 hq
   cases e with
   |normal=>exact hq
   |exit i=>
    show(if i=id then _ else _)
    obtain⟨aI,F1,M1,dI,U,g1,k1,dw⟩:=hq
    by_cases hi:i=id
    · rw[if_pos hi]
      subst hi
      have:Nat.beq i i=true:=Nat.beq_refl i
      simp only[this]at dw
      exact⟨aI,F1,M1,dI,U,g1,k1,dw⟩
    · rw[if_neg hi]
      have:Nat.beq i id=false:=by
        cases hb:Nat.beq i id
        · rfl
        · exact absurd (Nat.eq_of_beq_eq_true hb) hi
      simp only[this]at dw
      exact⟨aI,F1,M1,dI,U,g1,k1,dw⟩
   |ret=>exact hq
   |goto l=>exact hq
   |panic ch=>exact hq
   |outgrown=>exact hq
  |loop x ih=>
   intro pos an F M nx a w J K h he
   have key: ∀(n:iO) (sub:n.σ->List An) (F:Fr) (M:Mem),St P Gl N F M a w J->p5 (cm P dl sg Gl Γ N cl L cK x pos) N cl L (assigned x) n sub F M nx K->(Code.loop x).wp P (QQ P Gl N cl (assigned x) a w J M K) a w:=by
     intro n sub F M h he
     simp only[p5]at he
     split at he
     · next l hl=>
       split at he
       · next uS=>
         obtain⟨cE,Ea,hinv,C3⟩:=pq he
         obtain⟨al,Eb,DA⟩:=ti h h (S:=assigned x) (Rel.refl _ _ _) (bq.refl _ _) uS Ea cE
         refine wp_loop_ghost (λk a' w'=> ∃s ae,n.inv s/\n.μ s=k/\St P Gl N (lH N (kl (assigned x) F) (n.sh s)) (bf 0 (js (n.mh s) (ez (aa M) (fh (aa M) L l)))) a' w' ae/\
             Rel cl w J M w' ae (bf 0 (js (n.mh s) (ez (aa M) (fh (aa M) L l))))/\bq (assigned x) a a') (n.μ n.init) ⟨n.init,al,hinv,rfl,Eb,DA,bq.refl _ _⟩ ?_
         rintro k a1 w1 ⟨s,aI,hi,rfl,U,g1,k1⟩
         obtain⟨F4,M4,vm,n7,vn⟩:=oY (C3 s hi)
         refine wp_mono (wp_mono (ih _ (sub s) _ _ nx a1 w1 aI _ (U.congr vm n7) vn) (QQ.congr n7)) ?_
         intro e a2 w2 hq
         cases e with
         |normal=>
          obtain⟨dm,F2',M2',nx2,vo,EH,k2,jt⟩:=hq
          simp only at jt
          split at jt
          · exact jt.elim
          next F2 M2 C4=>
          obtain⟨h2,Ec⟩:=pv (cl:=cl) vo C4
          have g2:=EH.trans Ec
          split at jt
          · next l' hl'=>
            split at jt
            · next DB=>
              obtain⟨s',vp⟩:=jt
              obtain⟨Ed,DC,DD,FE⟩:=pq vp
              obtain⟨ig,Ee,DE⟩:=ti h h2 (S:=assigned x) (g1.trans g2) (k1.trans k2) DB DC Ed
              exact⟨n.μ s',FE,s',ig,DD,rfl,Ee,DE,k1.trans k2⟩
            · exact jt.elim
          · exact jt.elim
         |exit id=>exact cW.weaken hq (λ_ h=>h) k1 g1 (λ_ _ _ h=>h)
         |ret=>exact cW.weaken hq (λ_ h=>h) k1 g1 (λ_ _ _ h=>h)
         |goto l=>exact hq
         |panic ch=>exact hq
         |outgrown=>exact hq
       · exact he.elim
     · exact he.elim
   simp only[cm]at he
   generalize zG F an=an at he
   split at he
   · exact he.elim
   · exact he.elim
   · exact he.elim
   · exact he.elim
   · exact he.elim
   · next n r=>
     refine wp_loop_ghost (λk a' w'=>cW P Gl N cl (assigned x) a w J M (λF M nx=>p4 (cm P dl sg Gl Γ N cl L cK x pos r) K k F M nx) a' w') n ⟨J,F,M,nx,h,Rel.refl _ _ _,bq.refl _ _,he⟩ ?_
     rintro k a1 w1 ⟨aI,F1,M1,dI,U,g1,k1,dw⟩
     cases k with
     |zero=>exact dw.elim
     |succ k=>
      simp only[p4]at dw
      refine wp_mono (ih _ r F1 M1 dI a1 w1 aI _ U dw) ?_
      intro e a2 w2 hq
      cases e with
      |normal=>exact⟨k,Nat.lt_succ_self k,cW.weaken hq (λ_ h=>h) k1 g1 (λ_ _ _ h=>h)⟩
      |exit id=>exact cW.weaken hq (λ_ h=>h) k1 g1 (λ_ _ _ h=>h)
      |ret=>exact cW.weaken hq (λ_ h=>h) k1 g1 (λ_ _ _ h=>h)
      |goto l=>exact hq
      |panic ch=>exact hq
      |outgrown=>exact hq
   · next n sub _=>
     split at he
     · exact he.elim
     next F0 M0 ur=>
     obtain⟨dJ,vq⟩:=pv (cl:=cl) h ur
     exact wp_mono (key n sub F0 M0 dJ he) (QQ.weaken (λ_ h=>h) (bq.refl _ _) vq)
   · next au n0 r=>
     split at he
     · exact he.elim
     next F0 M0 ur=>
     obtain⟨dJ,vq⟩:=pv (cl:=cl) h ur
     exact wp_mono (key _ _ F0 M0 dJ he) (QQ.weaken (λ_ h=>h) (bq.refl _ _) vq)
  |exit id=>intro pos an F M nx a w J K h he;exact wp_exit ⟨J,F,M,nx,h,Rel.refl _ _ _,bq.refl _ _,he⟩
  |ret=>intro pos an F M nx a w J K h he;exact wp_ret ⟨J,F,M,nx,h,Rel.refl _ _ _,bq.refl _ _,he⟩
  |rangeFunc f p as b iha ihb=>intro pos an F M nx a w J K h he;exact he.elim
  |scope x ih=>intro pos an F M nx a w J K h he;exact he.elim
  |label l=>intro pos an F M nx a w J K h he;exact he.elim
  |goto l=>intro pos an F M nx a w J K h he;exact he.elim
  |refuse s=>intro pos an F M nx a w J K h he;exact he.elim
/-! ### results, bodies -/
def p7 (tmps:Array Value):ResultVar->Sem Value
  | .tmp t=>pure (tmps.getD t undef)
  | .cell ad t=>do loadVar t (<-asAddr (tmps.getD ad undef))
theorem tj (hm:ai w J M) (hF:bA w J N F a.tmps): ∀(rs:List ResultVar) (K:List SV->Prop) (acc:List SV) (ku:List Value),aJ w J acc ku->km P F M K rs acc->
    ∃vs l,(rs.mapM (p7 a.tmps)).run P w= .ok vs w/\aJ w J l (ku.reverse++vs)/\K l
  | [],K,acc,ku,ha,he=>by
    refine⟨[],acc.reverse,by simp,?_,he⟩
    rw[List.append_nil]
    have rev: ∀{F:List SV} {l:List Value},aJ w J F l->aJ w J F.reverse l.reverse:=by
      intro F
      induction F with
      |nil=>intro l h;cases l with
       |nil=>trivial
       |cons _ _=>exact h.elim
      |cons s r ih=>intro l h;cases l with
       |nil=>exact h.elim
       |cons u t=>rw[List.reverse_cons,List.reverse_cons];exact(ih h.2).append ⟨h.1,trivial⟩
    exact rev ha
  | .tmp t::r,K,acc,ku,ha,he=>by
    have hd:Den w J (look F t) (a.tmps.getD t undef):=hF.get t
    obtain⟨vs,l,U,h2,h3⟩:=tj hm hF r K (look F t::acc) (a.tmps.getD t undef::ku) ⟨hd,ha⟩ he
    refine⟨a.tmps.getD t undef::vs,l,?_,by simpa using h2,h3⟩
    simp only[List.mapM_cons,p7,Sem.run_bind,Sem.run_pure,Result.andThen_ok,U]
  | .cell ad T::r,K,acc,ku,ha,he=>by
    have hd:Den w J (look F ad) (a.tmps.getD ad undef):=hF.get ad
    simp only[km]at he
    obtain⟨s,v,p,e,hr,hs,hK⟩:=xd hm hd he
    obtain⟨vs,l,U,h2,h3⟩:=tj hm hF r K (s::acc) (v::ku) ⟨hs,ha⟩ hK
    refine⟨v::vs,l,?_,by simpa using h2,h3⟩
    have ha:(asAddr (a.tmps.getD ad undef)).run P w= .ok p w:=by rw[e];rfl
    simp only[List.mapM_cons,p7,Sem.run_bind,ha,Sem.run_pure,Result.andThen_ok,hr,U]
theorem xe {l:List SV} {vs:List Value} (h:aJ w J l vs):(∃s v,l= [s]/\vs= [v]/\Den w J s v)\/((∀s,l≠ [s])/\vs.length≠1):=by
  match l,vs,h with
  | [],[],_=>exact .inr ⟨by simp,by simp⟩
  | [s],[v],⟨h,_⟩=>exact .inl ⟨s,v,rfl,rfl,h⟩
  |_::_::_,_::_::_,_=>exact .inr ⟨by simp,by simp⟩
def Ow.less (o:Ow):Ow:=⟨λb=> ∃k p L,o.β k p=some L/\L.b=b,o.Z,o.β,o.cur⟩
theorem pw (hm:ai w J M):Ext w J w J.less:=⟨rfl,rfl,rfl,λ_ _ _=>rfl,λb _ h h'=>h (hm.own b h'),λ_ _ _ h=>h,Nat.le_refl _,λ_=>⟨Nat.le_refl _,Nat.le_refl _⟩,λ_ _ _ h _=>h,λ_ h=>h⟩
theorem yb (hm:ai w J M):ai w J.less M where
  cur:=hm.cur
  own:=λ_ h=>h
  bI:=λb h=>hm.bI b (hm.own b h)
  dj:=λb h=>hm.dj b (hm.own b h)
  cA:=hm.cA
  inj:=hm.inj
  low:=hm.low
  row:=λk p L hL=>by
    obtain⟨r,U,h2,h3,h4⟩:=hm.row k p L hL
    exact⟨r,U,h2,h3,gn.ext (pw hm) rfl (λ_=>rfl) rfl h4⟩
  live:=hm.live
  bN:=hm.bN
theorem Ck (hm:ai w J M) {κ:List Nat} {B:List ar} (ht:ai w (bM J κ B) (bf 0 B)) {s:SV}: ∀{u:Value},Den w J s u->Den w (bM J κ B).less (eE (aa M) κ s) u:=by
  have hb:Ext w J.bare w (bM J κ B).less.bare:=(mD κ B).trans (pw ht).bare
  have aN: ∀{s:SV} {u:Value},Den w J s u->Den w (bM J κ B).less (bc (cv (aa M) κ) false s) u:=λhd=>(mJ hm κ B hd).ext (pw ht)
  have qG: ∀{s:SV} {u:Value},Den w J s u->Den w (bM J κ B).less (ro false 12 (aa M) κ s) u:=by
    intro s u hd
    refine(fJ (ae:=(bM J κ B).less) hm ?_ hb (λ_ b h=>hm.dj b h) 12 hd).up
    rintro b ⟨q,p,L,U,h2⟩
    obtain⟨k,e1,e2,_⟩:=lq U
    exact⟨k,List.mem_of_getElem? e1,p,L,e2,h2⟩
  induction s with
  |ptr k s p i j=>intro u hd;simp only[eE];split;exact aN hd;exact qG hd
  |pe k s p i j n z=>intro u hd;simp only[eE];split;exact aN hd;exact qG hd
  |aC k s p e n=>intro u hd;simp only[eE];split;exact aN hd;exact qG hd
  |sa k s p i j n=>intro u hd;simp only[eE];split;exact aN hd;exact qG hd
  |ag n f ih=>intro u hd;obtain⟨cs,rfl,hs,hj⟩:=hd;exact⟨cs,rfl,hs,λj aw=>let⟨x,U,h2⟩:=hj j aw;⟨x,U,ih j h2⟩⟩
  |tp n f ih=>intro u hd;obtain⟨cs,rfl,hs,hj⟩:=hd;exact⟨cs,rfl,hs,λj aw=>let⟨x,U,h2⟩:=hj j aw;⟨x,U,ih j h2⟩⟩
  |fn id n f ih=>intro u hd;obtain⟨cs,rfl,hs,hj⟩:=hd;exact⟨cs,rfl,hs,λj aw=>let⟨x,U,h2⟩:=hj j aw;⟨x,U,ih j h2⟩⟩
  |bm id s ih=>intro u hd;obtain⟨x,rfl,hx⟩:=hd;exact⟨x,rfl,ih hx⟩
  |mv nm s ih=>intro u hd;obtain⟨x,rfl,hx⟩:=hd;exact⟨x,rfl,ih hx⟩
  |ic t s ih=>intro u hd;obtain⟨x,rfl,hx⟩:=hd;exact⟨x,rfl,ih hx⟩
  |pt q n f=>intro u hd;exact Den.ext (o:=J.bare) (o':=(bM J κ B).less.bare) (s:= .pt q n f) hb hd
  |sl q sz n f=>intro u hd;exact Den.ext (o:=J.bare) (o':=(bM J κ B).less.bare) (s:= .sl q sz n f) hb hd
  |pa q sz n f=>intro u hd;exact Den.ext (o:=J.bare) (o':=(bM J κ B).less.bare) (s:= .pa q sz n f) hb hd
  |er t tf e z=>intro u hd;exact Den.ext (o:=J.bare) (o':=(bM J κ B).less.bare) (s:= .er t tf e z) hb hd
  |_=>intro u hd;exact hd
theorem sH {aB:List ar}: ∀{l t l':List SV} {M M':Mem} {nx:Nat} {vs:List Value},ai w J M->aJ w J l vs->j6 aB l t M nx=some (l',M')->aJ w J l' vs/\ai w J M'/\Rel cl w J M w J M'
  | [],t,l',M,M',nx,vs,hm,hd,he=>by
    simp only[j6,Option.some.injEq,Prod.mk.injEq]at he
    obtain⟨rfl,rfl⟩:=he
    exact⟨hd,hm,Rel.refl _ _ _⟩
  |s::r,[],l',M,M',nx,vs,hm,hd,he=>by
   simp only[j6,Option.some.injEq,Prod.mk.injEq]at he
   obtain⟨rfl,rfl⟩:=he
   exact⟨hd,hm,Rel.refl _ _ _⟩
  |s::r,t::q,l',M,M',nx,[],hm,hd,he=>hd.elim
  |s::r,t::q,l',M,M',nx,v::vs,hm,⟨zZ,z_⟩,he=>by
   unfold j6 at he
   split at he
   · split at he
     · split at he
       · next x hx=>
         split at he
         · next y hy=>
           obtain⟨x1,x2⟩:=x
           simp only[Option.some.injEq,Prod.mk.injEq]at he
           obtain⟨rfl,rfl⟩:=he
           obtain⟨g1,g2,g3⟩:=xc (cl:=cl) hm zZ hx
           obtain⟨k1,k2,k3⟩:=sH g2 z_ hy
           exact⟨⟨g1,k1⟩,k2,g3.trans k3⟩
         · cases he
       · cases he
     · cases he
   · split at he
     · next y hy=>
       simp only[Option.some.injEq,Prod.mk.injEq]at he
       obtain⟨rfl,rfl⟩:=he
       obtain⟨k1,k2,k3⟩:=sH hm z_ hy
       exact⟨⟨zZ,k1⟩,k2,k3⟩
     · cases he
theorem C5 (h:St P Gl N F M a w J) {nx:Nat} {fn:Func} {res:SV} {aB:List ar} (he:km P F M (p6 cl L M nx res aB) fn.results.toList []):
    ∃v ae,(results fn a.tmps).run P w= .ok v w/\Den w ae res v/\ai w ae (bf 0 aB)/\Rel cl w J M w ae (bf 0 aB):=by
  obtain⟨vs,l,U,h2,h3⟩:=tj (a:=a) h.mem h.frame _ _ [] [] trivial he
  simp only[List.reverse_nil,List.nil_append]at h2
  have hlen:=h2.len
  have hr: ∀v,(v=if h:vs.toArray.size=1 then vs.toArray[0]else .tuple vs.toArray)->(results fn a.tmps).run P w= .ok v w:=by
    intro v hv
    have e:results fn a.tmps=(do let vs<-fn.results.mapM (p7 a.tmps);pure (if h:vs.size=1 then vs[0]else .tuple vs)):=by
      unfold results
      congr 1
    rw[e]
    simp only[Array.mapM_eq_mapM_toList,Sem.run_bind,Sem.run_map,U,Result.andThen_ok,Sem.run_pure,hv]
  unfold p6 at h3
  split at h3
  rotate_left
  · exact h3.elim
  next x hx=>
  obtain⟨l0,M0⟩:=x
  obtain⟨h2,ju,gY⟩:=sH (cl:=cl) h.mem h2 hx
  have hlen:=h2.len
  have h:St P Gl N [] M0 {a with tmps:=Array.replicate N undef} w J:=⟨⟨by simp,λi u hu=>trivial,λi _=>rfl⟩,h.bG,ju,h.defers⟩
  revert h3 h2 hlen
  generalize l0=l
  intro h3 h2 hlen
  simp only[yK]at h3
  split at h3
  · next hc=>
    revert hc h3
    generalize (fh (aa M0) L (l.flatMap gR)).take aB.length=κ
    intro hc h3
    obtain⟨h4,h5⟩:=h3
    obtain⟨g1,g2⟩:=h.zm hc h5
    have fb: ∀{s:SV} {x:Value},Den w J s x->Den w (bM J κ aB).less (eE (aa M0) κ s) x:=λhd=>Ck h.mem g1 hd
    have g2:=gY.trans (g2.trans (Rel.of (cl:=cl) g1 (yb g1) (pw g1)))
    have g1:=yb g1
    split at h4
    · next s=>
      rcases xe h2 with⟨s',v,e1,rfl,n8⟩|⟨h6,_⟩
      · obtain rfl:s=s':=by simpa using e1
        exact⟨v,_,hr v (by simp),j3 h4 (fb n8),g1,g2⟩
      · exact absurd rfl (h6 s)
    · next l' aP=>
      refine⟨.tuple vs.toArray,_,hr _ ?_,j3 h4 ⟨_,rfl,by simpa using hlen.symm,λj hj=>?_⟩,g1,g2⟩
      · rw[dif_neg]
        intro e
        rcases xe h2 with⟨s,v,rfl,_⟩|⟨_,h6⟩
        · exact aP s rfl
        · exact h6 (by simpa using e)
      · obtain⟨x,e1,e2⟩:=h2.get? j hj
        refine⟨x,by simpa using e1,?_⟩
        have:aq (l.map λs=>eE (aa M0) κ s) j=eE (aa M0) κ (l.getD j .aj):=by simp[aq,List.getD_eq_getElem?_getD,hj]
        rw[this]
        exact fb e2
  · exact h3.elim
theorem xf: ∀(l:List SV) (k i:Nat),i<l.length->look (iG k l) (k+i)=l.getD i .aj
  | [],_,_,h=>absurd h (by simp)
  |s::r,k,0,_=>by simp[iG,look_eq]
  |s::r,k,i+1,h=>by
   rw[iG,iu (by omega),show k+(i+1)=(k+1)+i by omega,xf r (k+1) i (by simpa using h)]
   simp
theorem sS: ∀(l:List SV) (k i:Nat),k+l.length<=i->look (iG k l) i= .aj
  | [],_,_,_=>rfl
  |s::r,k,i,h=>by
   simp only[List.length_cons]at h
   rw[iG,iu (by omega),sS r (k+1) i (by omega)]
theorem Ch (hS:Sound P Gl Γ) {sg:Bool} {f:Nat} {fn:Func} (hf:P.funcs[f]? =some fn) {args:List SV} {mem:List ar} {an:List An} {res:SV} {aB:List ar} (he:pN P sg Gl Γ fn args mem an res aB):jq P Gl f args mem res aB:=by
  intro w J vs hG hm jd
  unfold pN at he
  split at he
  · next c hc=>
    refine calls_of_wp hf hc ?_
    split at he
    · exact he.elim
    next hle=>
    have hle:=Nat.le_of_ble_eq_true hle
    have hlen:=jd.len
    simp at hlen
    have aD:St P Gl fn.ntmps (iG 0 args) (bf 0 mem) {tmps:=vs++Array.replicate (fn.ntmps -vs.size) undef,defers:= []} w J:=by
      refine⟨⟨by simp;omega,?_,?_⟩,hG,hm,rfl⟩
      · intro i u hu
        by_cases hi:i<args.length
        · obtain⟨x,U,h2⟩:=jd.get? i hi
          rw[show look (iG 0 args) i=args.getD i .aj by have:=xf args 0 i hi;rwa [Nat.zero_add]at this]
          rw[Array.getElem?_append_left (by omega)]at hu
          have U:vs[i]? =some x:=by simpa using U
          obtain rfl:=Option.some.inj (hu.symm.trans U)
          exact h2
        · rw[sS args 0 i (by omega)]
          trivial
      · intro i hi
        exact sS args 0 i (by omega)
    refine wp_mono (Be hS c _ (lB an) _ _ _ _ w J _ aD he) ?_
    have fin: ∀{a':Act} {w':World} {aI:Ow} {F1:Fr} {M1:Mem} {dI:Nat},St P Gl fn.ntmps F1 M1 a' w' aI->Rel (lJ mem) w J (bf 0 mem) w' aI M1->km P F1 M1 (p6 (lJ mem) (tP (aa (bf 0 mem)) mem.length) M1 dI res aB) fn.results.toList []->
     ∃v,(results fn a'.tmps).run P w'= .ok v w'/\ ∃v' ae,(Ending.returned v)= .returned v'/\vr w J w' ae/\ai w' ae (bf 0 aB)/\Den w' ae res v'/\ ∀k l,mem[k]? =some (.cells l)->ae.β k none=J.β k none:=by
      intro a' w' aI F1 M1 dI U g1 hK
      obtain⟨v,ae,hr,hd,bJ,uQ⟩:=C5 U hK
      have hR:=g1.trans uQ
      refine⟨v,hr,v,ae,rfl,⟨hR.bare.os,hR.bare.tape,hR.bare.output,hR.bare.same,hR.bare.free,hR.bare.zs,hR.bare.size⟩,bJ,hd,λk l hk=>?_⟩
      have qD:=(List.getElem?_eq_some_iff.1 hk).1
      have fc:k∈lJ mem:=by
        unfold lJ
        rw[List.mem_filter]
        exact⟨List.mem_range.2 qD,by simp[hk]⟩
      obtain⟨L,hL⟩:=hm.live k l (by rw[fk,hk])
      have h0:(aa (bf 0 aB) k).rs=0:=by rw[fk];split<;>rfl
      rw[(hR.cI k fc h0).2 L hL,hL]
    intro e a' w' hq
    cases e with
    |normal=>
     obtain⟨aI,F1,M1,dI,U,g1,k1,hK⟩:=hq
     obtain⟨v,h2,h3⟩:=fin U g1 hK
     exact⟨U.defers,v,h2,h3⟩
    |ret=>
     obtain⟨aI,F1,M1,dI,U,g1,k1,hK⟩:=hq
     obtain⟨v,h2,h3⟩:=fin U g1 hK
     exact⟨U.defers,v,h2,h3⟩
    |exit id=>obtain⟨_,_,_,_,_,_,_,hK⟩:=hq;exact hK.elim
    |goto l=>exact hq.elim
    |panic ch=>exact hq.elim
    |outgrown=>exact hq.elim
  · exact he.elim
end
end Go.Sy
set_option linter.unusedVariables false
set_option linter.unusedSimpArgs false
namespace Go.Sy
open Go.RowKit
def qA:List SV->List SV->Prop
  | [],[]=>True
  |a::r,b::t=>bT a b/\qA r t
  |_,_=>False
theorem xY {w:World} {o:Ow}: ∀{l m:List SV} {us:List Value},qA l m->aJ w o l us->aJ w o m us
  | [],[],[],_,h=>h
  |_::_,_::_,_::_,⟨U,h2⟩,⟨h3,h4⟩=>⟨j3 U h3,xY h2 h4⟩
  | [],_::_,_,h,_=>h.elim
  |_::_,[],_,h,_=>h.elim
  | [],[],_::_,_,h=>h.elim
  |_::_,_::_,[],_,h=>h.elim
def fA (mem:List ar):Nat->ao:=aa (bf 0 mem)
theorem jq.more {P:Program} {Gl:Nat->SV} {f:Nat} {A:List SV} {B:List ar} {res:SV} {B':List ar} (h:jq P Gl f A B res B') {args:List SV} {mem:List ar}
    (ha:qA (args.map λs=>bc (cv (fA mem) (List.range mem.length)) false s) A) (hb:fT (ez (fA mem) (List.range mem.length)) B):jq P Gl f args mem res B':=by
  intro w J vs hG hm hd
  have hlen:mem.length=B.length:=by have:=pE hb;simpa [ez]using this
  have get: ∀{k:Nat},k<mem.length->(List.range mem.length)[k]? =some k:=λhk=>List.getElem?_range hk
  have qC: ∀k∈List.range mem.length,whole (aa (bf 0 mem) k)=true:=by
    intro k hk
    have hk:=List.mem_range.1 hk
    have e1:(ez (fA mem) (List.range mem.length))[k]? =some (dC (cv (fA mem) (List.range mem.length)) false (fA mem k).b):=by
      simp[ez,hk]
    have hg:=pF hb e1 (List.getElem?_eq_getElem (by omega))
    have e2:aa (bf 0 mem) k=⟨0,0,none,mem[k]⟩:=by rw[fk,List.getElem?_eq_getElem hk]
    unfold fA at hg
    rw[e2]at hg⊢
    cases eI:mem[k]with
    |dead=>rw[eI]at hg;exact hg.elim
    |cells _=>rfl
    |row _ _ _=>rfl
  have ht:=xZ hm List.nodup_range qC hb
  have fb: ∀{s:SV} {x:Value},Den w J s x->Den w (bM J (List.range mem.length) B) (bc (cv (aa (bf 0 mem)) (List.range mem.length)) false s) x:=λhd=>mJ hm _ _ hd
  refine(h w (bM J (List.range mem.length) B) vs (λg=>Den.ext (o:=J.bare) (mD _ _) (hG g)) ht (xY ha (hd.map λs u hs=>fb hs))).mono ?_
  rintro e w' ⟨v,ae,rfl,U,h2,h3,h4⟩
  refine⟨v,ae,rfl,⟨U.os,U.tape,U.output,U.same,U.free,U.cI,U.size⟩,h2,h3,λk l hk=>?_⟩
  have qD:=(List.getElem?_eq_some_iff.1 hk).1
  have e1:(ez (fA mem) (List.range mem.length))[k]? =some (dC (cv (fA mem) (List.range mem.length)) false (fA mem k).b):=by
    simp[ez,qD]
  have eI:B[k]? =some B[k]:=List.getElem?_eq_getElem (by omega)
  have hg:=pF hb e1 eI
  have e2:fA mem k=⟨0,0,none,.cells l⟩:=by unfold fA;rw[fk,hk]
  rw[e2]at hg
  cases hB:B[k]with
  |dead=>rw[hB]at hg;exact hg.elim
  |row _ _ _=>rw[hB]at hg;exact hg.elim
  |cells l'=>rw[h4 k l' (by rw[eI,hB]),oX (get qD)]
def aA:SV->Int| .v (.int _ x)=>x|_=>0
def Dx:SV->Bool| .v (.bool x)=>x| .bl x=>x|_=>false
def bh:SV->Nat->SV| .ag _ f,j=>f j| .tp _ f,j=>f j|_,_=> .aj
def qE:SV->Nat| .sl _ _ n _=>n|_=>0
def qF:SV->Nat->Nat->SV| .sl _ _ _ f,i,j=>f i j|_,_,_=> .aj
structure Spec where
  X:Type
  args:X->List SV
  mem:X->List ar
  pre:X->Prop
  res:X->SV
  aB:X->List ar
  dec:List SV->List ar->Option X
def Spec.g (s:Spec) (args:List SV) (mem:List ar):Option (Prop×SV×List ar):=
  match s.dec args mem with
  |some x=>some (qA (args.map λs=>bc (cv (fA mem) (List.range mem.length)) false s) (s.args x)/\fT (ez (fA mem) (List.range mem.length)) (s.mem x)/\s.pre x,s.res x,s.aB x)
  |none=>none
structure cp (P:Program) (Gl:Nat->SV) (f:Nat) (c:ca):Prop where
  call: ∀(l:Array Value) (w:World),(callFunc f l).run P w= .ok (.enter f l) w
  fn: ∀args mem pre res aB,c.g args mem=some (pre,res,aB)->pre->jq P Gl f args mem res aB
  pj: ∀n,c.pj=some n->zk P f n
theorem Cg {P:Program} {Gl:Nat->SV} {f:Nat} {ws:List Bool} {s:Spec} (hc: ∀(l:Array Value) (w:World),(callFunc f l).run P w= .ok (.enter f l) w)
    (h: ∀x,s.pre x->jq P Gl f (s.args x) (s.mem x) (s.res x) (s.aB x)):cp P Gl f ⟨ws,s.g,none⟩:=by
  refine⟨hc,λargs mem pre res aB e hp=>?_,λn e=>nomatch e⟩
  have e:s.g args mem=some (pre,res,aB):=e
  unfold Spec.g at e
  split at e
  · next x hx=>
    simp only[Option.some.injEq,Prod.mk.injEq]at e
    obtain⟨rfl,rfl,rfl⟩:=e
    exact(h x hp.2.2).more hp.1 hp.2.1
  · cases e
def ca.or (a b:ca):ca:=⟨a.ws,λl m=>match a.g l m with|some x=>some x|none=>b.g l m,none⟩
theorem cp.or {P:Program} {Gl:Nat->SV} {f:Nat} {a b:ca} (ha:cp P Gl f a) (hb:cp P Gl f b):cp P Gl f (a.or b):=by
  refine⟨ha.call,λargs mem pre res aB e hp=>?_,λn e=>nomatch e⟩
  have e:(match a.g args mem with|some x=>some x|none=>b.g args mem)=some (pre,res,aB):=e
  split at e
  · next x hx=>
    obtain rfl:=Option.some.inj e
    exact ha.fn args mem _ _ _ hx hp
  · exact hb.fn args mem pre res aB e hp
def gX:List (Nat×ca)->Table
  | [],_=>none
  |p::r,f=>match Nat.beq p.1 f with|true=>some p.2|false=>gX r f
section
variable {P:Program} {Gl:Nat->SV}
theorem Bc:Sound P Gl (gX []):=⟨λ_ _ h=>(nomatch h),λ_ _ _ _ _ _ _ h=>(nomatch h),λ_ _ _ h=>(nomatch h)⟩
theorem A6 {g:Nat} {s:ca} {r:List (Nat×ca)} (h:cp P Gl g s) (hr:Sound P Gl (gX r)):Sound P Gl (gX ((g,s)::r)):=by
  constructor
  · intro f c e
    simp only[gX]at e
    split at e
    · next hb=>obtain rfl:=Nat.eq_of_beq_eq_true hb;exact h.call
    · exact hr.call f c e
  · intro f c args mem pre res aB e
    simp only[gX]at e
    split at e
    · next hb=>
      obtain rfl:=Nat.eq_of_beq_eq_true hb
      obtain rfl:=Option.some.inj e
      exact h.fn args mem pre res aB
    · exact hr.fn f c args mem pre res aB e
  · intro f c n e
    simp only[gX]at e
    split at e
    · next hb=>
      obtain rfl:=Nat.eq_of_beq_eq_true hb
      obtain rfl:=Option.some.inj e
      exact h.pj n
    · exact hr.pj f c n e
theorem Dy {Γ:Table} (hS:Sound P Gl Γ) (sg:Bool) {f:Nat} {fn:Func} (hf:P.funcs[f]? =some fn) {args:List SV} {mem:List ar} (an:List An) {res:SV} {aB:List ar} {V:Prop} (he:pN P sg Gl Γ fn args mem an res aB=V) (hV:V):jq P Gl f args mem res aB:=
  Ch hS hf (he▸hV)
end
def D7:ar->Nat->Nat->SV| .row _ _ f=>f| .cells l=>λ_ j=>aq l j| .dead=>λ_ _=> .aj
def gV (mem:List ar) (k j:Nat):SV:=D7 (mem.getD k .dead) 0 j
def tn:Nat->Prop->Prop
  |0,p=>p
  |n+1,p=>True/\tn n p
abbrev aK (x:Int):Int:=IntKind.wrap .i64 x
section
variable {P:Program} {Gl:Nat->SV}
theorem Sound.nil:Sound P Gl (gX []):=Bc
theorem Sound.cons {g:Nat} {s:ca} {r:List (Nat×ca)} (h:cp P Gl g s) (hr:Sound P Gl (gX r)):Sound P Gl (gX ((g,s)::r)):=A6 h hr
theorem eY {f:Nat} {fn:Func} {ws:List Bool} {s:Spec} {Γ:Table} (hS:Sound P Gl Γ) (sg:Bool) (hc: ∀(l:Array Value) (w:World),(callFunc f l).run P w= .ok (.enter f l) w) (hf:P.funcs[f]? =some fn) (an:s.X->List An) {V:s.X->Prop}
    (he: ∀x,pN P sg Gl Γ fn (s.args x) (s.mem x) (an x) (s.res x) (s.aB x)=V x) (hV: ∀x,s.pre x->V x):cp P Gl f ⟨ws,s.g,none⟩:=
  Cg hc λx hp=>Dy hS sg hf (an x) (he x) (hV x hp)
end
theorem jr:(∀p:Prop,(True/\p)=p)/\(∀p:Prop,(p/\True)=p)/\(∀p:Prop,(p/\p)=p)/\(∀n:Nat,((n:Nat):Int).toNat=n)/\(∀n:Nat,0+n=n)/\(∀n:Nat,(0:Int)<=(n:Int))/\(∀n:Nat,¬n<0)/\(∀p:Prop,(False->p)=True)/\(∀n:Nat,0<=n)/\((0:Nat):Int)=0:=
  ⟨true_and,and_true,and_self,Int.toNat_natCast,Nat.zero_add,Int.natCast_nonneg,Nat.not_lt_zero,false_implies,Nat.zero_le,Int.natCast_zero⟩
theorem kz:(∀c f:Bool,(bif c then true else f)=(c||f))/\(∀c t:Bool,(bif c then t else false)=(c&&t))/\(∀c t:Bool,(bif c then t else true)=(!c||t))/\(∀c f:Bool,(bif c then false else f)=(!c&&f)):=
  ⟨Bool.cond_true_left,Bool.cond_false_right,Bool.cond_true_right,Bool.cond_false_left⟩
end Go.Sy
