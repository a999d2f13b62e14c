/-
  Sy, part 17: whole bodies.
-/
import Derived.Test.YthgmgkabnffniaaGreatDoorYG
import Derived.Deep.LoopGhost
set_option linter.unusedVariables false
set_option linter.unusedSimpArgs false
namespace Go.Sy
open Go.RowKit
inductive Ex where
 |normal|exit (id:Nat)|ret
structure cQ where
 σ:Type
 rt:List (Nat×Nat)
 sh:σ->List (Nat×SV)
 mh:σ->List (Nat×bp)
 inv:σ->Prop
 μ:σ->Nat
 init:σ
 nc:List (Nat×Nat×Nat):= []
structure Cut where
 σ:Type
 rt:List (Nat×Nat)
 sh:σ->List (Nat×SV)
 mem:σ->List bp
 inv:σ->Prop
 dec:(Nat->SV)->List bp->σ
 nc:List (Nat×Nat×Nat):= []
inductive An where
 |H8 (au:Bool) (a:cQ)
 |RX (a:cQ) (sub:a.σ->List An)
 |acO (a:cQ) (sub:a.σ->List An)
 |zL (au:Bool) (g:(Nat->SV)->cQ)
 |GD (n:Nat)
 |dec
 |zM (l:List Nat)
 |cut (r:Nat) (c:Cut)
def An.inv (a:cQ):An:= .H8 false a
def RY (F:Fr):List An->List An
 | .zL au g::r=> .H8 au (g λd=>look F d)::r
 |l=>l
def nr:Code->Nat
 | .region _ _ _=>1
 | .seq x y=>nr x+nr y
 | .cond _ x y=>nr x+nr y
 | .block _ x=>nr x
 | .loop x=>nr x
 |_=>0
def rp:Code->Bool
 | .exit _=>true
 |_=>false
def acP (b:Option (List Nat)) (pos:Nat) (x y:Code):Bool:=match b with|none=>false|some []=>(match rp x with|true=>true|false=>rp y)|some (p::r)=>cR (p::r) pos
def nl:Code->Nat
 | .seq x y=>nl x+nl y
 | .cond _ x y=>nl x+nl y
 | .block _ x=>nl x
 | .loop x=>nl x+1
 |_=>0
def assigned:Code->List Nat
 | .region _ ops _=>ops.toList.filterMap (·.dst)
 | .seq x y=>assigned x++assigned y
 | .cond _ x y=>assigned x++assigned y
 | .block _ x=>assigned x
 | .loop x=>assigned x
 |_=> []
def oy:SV->Bool
 | .aI=>true
 | .v _=>true
 | .bl _=>true
 | .pt _ _ _=>true
 | .sl _ _ _ _=>true
 | .pa _ _ _ _=>true
 | .il _ _ _=>true
 | .er _ _ _ _=>true
 | .es=>true
 | .ag n f=>(List.range n).all λj=>oy (f j)
 | .tp n f=>(List.range n).all λj=>oy (f j)
 | .fn _ n f=>(List.range n).all λj=>oy (f j)
 | .bm _ s=>oy s
 | .mv _ s=>oy s
 | .ic _ s=>oy s
 |_=>false
def tB (l:List Nat) (F:Fr):Fr:=F.map λp=>(p.1,match cR l p.1,oy p.2 with|false,true=>p.2|_,_=> .aI)
def xk (N:Nat) (F:Fr):List (Nat×SV)->Fr
 | []=>F
 |p::r=>xk N (gy N F (some p.1) p.2) r
def rootOf:SV->Option Nat
 | .ptr k _ _ _ _=>some k
 | .pe k _ _ _ _ _ _=>some k
 | .aS k _ _ _ _=>some k
 | .sa k _ _ _ _ _=>some k
 |_=>none
def yC (F:Fr):List (Nat×Nat)->Option (List Nat)
 | []=>some []
 |d::r=>match rootOf (look F d.1),yC F r with|some k,some l=>some (k::l)|_,_=>none
def Cq (M:Mem) (nx sz:Nat) (s:SV):Option (SV×Mem):=
 match wu s with
 |true=>(match cC (ae M) nx with|true=>some (.aS nx (ae M nx).rs none 0 0,fresh M nx (.row sz 0 λ_ _=> .aI))|false=>none)
 |false=>some (s,M)
def zN (N:Nat):List (Nat×Nat)->Fr->Mem->Nat->Option (Fr×Mem)
 | [],F,M,_=>some (F,M)
 |d::r,F,M,nx=>match Cq M nx d.2 (look F d.1),Nat.blt d.1 N with|some p,true=>zN N r ((d.1,p.1)::F) p.2 (nx+1)|_,_=>none
def lj (m:Nat->bw) (L l:List Nat):List Nat:=reach m 200 (L++l) []
def GF (m:Nat->bw) (n:Nat):List Nat:=((List.range n).foldl (λ(acc:List Nat×List Nat) k=>match cR acc.2 k with|true=>acc|false=>(acc.1++ [k],reach m 200 [k] acc.2)) ([],[])).1
def stays (κ:List Nat) (k:Nat):Bool:=match κ[k]? with|some k'=>Nat.beq k' k|none=>false
def zv:List (Nat×Nat×Nat)->Fr->Mem->Nat->Option Mem
 | [],F,M,_=>some M
 |d::r,F,M,nx=>
  match look F d.1 with
  | .ptr k s none _ _=>
    match cG (ae M) k s none,(ae M k).hl,(ae M k).b with
    |true,none,.cells l=>
     match l.all λs=>!cZ s,wu (aN l d.2.1),cC (ae M) nx with
     |true,true,true=>zv r F ((k,⟨(ae M k).rs,(ae M k).ds,none,.cells (l.set d.2.1 (.aS nx (ae M nx).rs none 0 0))⟩)::fresh M nx (.row d.2.2 0 λ_ _=> .aI)) (nx+1)
     |true,false,_=>zv r F M (nx+1)
     |_,_,_=>none
    |_,_,_=>none
  |_=>none
def tC (N:Nat) (rt:List (Nat×Nat)) (nc:List (Nat×Nat×Nat)) (F:Fr) (M:Mem) (nx:Nat):Option (Fr×Mem):=
 match zN N rt F M nx with
 |some x=>match zv nc x.1 x.2 (nx+20)with|some M=>some (x.1,M)|none=>none
 |none=>none
def q_ (cl:List Nat) (m:Nat->bw) (κ:List Nat):Bool:=
 match nodupB κ,κ.all λk=>whole (m k),cl.all λk=>stays κ k&&Nat.beq (m k).rs 0 with
 |true,true,true=>true
 |_,_,_=>false
def jA (m:Nat->bw) (κ:List Nat):List bp:=κ.map λk=>iH (fQ m κ) false (m k).b
def rq:List (Nat×bp)->List bp->List bp
 | [],B=>B
 |p::r,B=>rq r (B.set p.1 p.2)
def H9:bp->Nat->Nat->Prop
 | .row sz n _,i,j=>i<n/\j<sz
 |_,_,_=>True
theorem YM {b:bp} {i j:Nat} (h:H9 b i j):oL b i j=true:=by
 unfold H9 at h;split at h
 ·simp only[oL,aW];exact⟨by simpa [Nat.blt_eq]using h.1,by simpa [Nat.blt_eq]using h.2⟩
 ·next c=>unfold oL;split
          ·next sz n f=>exact absurd rfl (c sz n f)
          ·rfl
def Ad (m:Nat->bw) (κ:List Nat) (B:List bp) (x y:SV):Prop:=
 match y with
 | .aS k' s' (some b) e' d=>
   match x with
   | .aS k s (some c) e n=>
     match idx κ k,cG m k s (some c),Nat.beq s' 0 with
     |some q,true,true=>(match Nat.beq q k' with|true=>H9 (B.getD q .dead) c.1 c.2/\c.1=b.1/\c.2=b.2/\e=e'/\n=d|false=>False)
     |_,_,_=>False
   |x=>fb (dv (fQ m κ) false x) (.aS k' s' (some b) e' d)
 |y=>fb (dv (fQ m κ) false x) y
def Ae (m:Nat->bw) (κ:List Nat) (B:List bp) (F:Fr):List (Nat×SV)->Prop->Prop
 | [],R=>R
 |p::r,R=>Ad m κ B (look F p.1) p.2/\Ae m κ B F r R
def yg (m:Nat->bw) (c:List Nat):Fr->List Nat->List Nat
 | [],_=> []
 |p::r,seen=>
  match cR seen p.1||cR c p.1 with
  |true=>yg m c r (p.1::seen)
  |false=>
   match p.2 with
   | .ptr k s none _ _=>
     match cG m k s none,(m k).b with
     |true,.cells _=>p.1::yg m c r (p.1::seen)
     |_,_=>yg m c r (p.1::seen)
   |_=>yg m c r (p.1::seen)
def QP (au:Bool) (L:List Nat) (F:Fr) (M:Mem) (x:Code) (n:cQ):cQ:=
 match au with
 |false=>n
 |true=>
  let ds:=yg (ae M) (assigned x) F []
  match yC F (n.rt++ds.map λd=>(d,0))with
  |some l=>{n with rt:=n.rt++ds.map λd=>(d,0),sh:=λs=>(ds.map λd=>(d,dv (fQ (ae M) (lj (ae M) L l)) false (look F d)))++n.sh s}
  |none=>n
abbrev KK:=Ex->Fr->Mem->Nat->Prop
def C5 (b:Fr->Mem->Nat->KK->Prop) (K:KK):Nat->Fr->Mem->Nat->Prop
 |0,_,_,_=>False
 |n+1,F,M,nx=>b F M nx λe F M nx=>match e with| .normal=>C5 b K n F M nx|e=>K e F M nx
def cutAt (b:Nat->Option Cut) (k:Nat):Nat->Option Cut
 |0=>none
 |_+1=>b k
def mark (F:Fr) (M:Mem) (K:Fr->Mem->Prop):Prop:=xz [] F λF=>xl [] M λM=>K F M
theorem Bc {F:Fr} {M:Mem} {K:Fr->Mem->Prop} (h:mark F M K):∃b M',(∀t,look b t=look F t)/\(∀k,ae M' k=ae M k)/\K b M':=by obtain⟨b,h1,h2⟩:=Bu _ _ _ h;obtain⟨M',c,d⟩:=Bd _ _ _ h1;exact⟨b,M',λt=>h2 t rfl,λk=>d k rfl,c⟩
def zw (ev:List An->Fr->Mem->Nat->(Ex->Fr->Mem->Nat->Prop)->Prop) (N:Nat) (cl L c:List Nat) (n:cQ) (s0:n.σ) (sub:n.σ->List An) (F:Fr) (M:Mem) (nx:Nat) (K:Ex->Fr->Mem->Nat->Prop):Prop:=
 match yC F n.rt with
 |some l=>
  let κ:=lj (ae M) L l;let B:=jA (ae M) κ
  match q_ cl (ae M) κ with
  |true=>Ae (ae M) κ (rq (n.mh s0) B) F (n.sh s0) (mO B (rq (n.mh s0) B)/\n.inv s0/\∀s,n.inv s->
    mark (xk N (tB c F) (n.sh s)) (dh 0 (rq (n.mh s) B)) λF M=>ev (sub s) F M nx λe b M' dA=>
     match e with
     | .normal=>
       match tC N n.rt n.nc b M' dA with
       |none=>False
       |some (b,M')=>
       match yC b n.rt with
       |some l'=>
        match q_ cl (ae M') (lj (ae M') L l')with
        |true=>∃s',Ae (ae M') (lj (ae M') L l') (rq (n.mh s') B) b (n.sh s') (mO (jA (ae M') (lj (ae M') L l')) (rq (n.mh s') B)/\n.inv s'/\n.μ s'<n.μ s)
        |false=>False
       |none=>False
     |e=>K e b M' dA)
  |false=>False
 |none=>False
def fv (P:Program) (h:Option (List Nat)) (sg:Bool) (Gl:Nat->SV) (Γ:Table) (N:Nat) (cl:List Nat) (L:List Nat) (g:Nat->Option Cut):Code->Nat->List An->Fr->Mem->Nat->KK->Prop
 | .skip,_,_,F,M,nx,K=>K .normal F M nx
 | .region _ ops draw,_,_,F,M,nx,K=>
   match draw with
   |false=>kW P sg Gl Γ N ops.toList (K .normal) ops.toList F M nx []
   |true=>FK P sg Gl Γ N ops.toList (K .normal) F M nx
 | .seq x y,pos,an,F,M,nx,K=>
   match cutAt g (pos+nr x) (nr y)with
   |none=>fv P h sg Gl Γ N cl L g x pos (an.take (nl x)) F M nx λe F M nx=>match e with| .normal=>fv P h sg Gl Γ N cl L g y (pos+nr x) (an.drop (nl x)) F M nx K|e=>K e F M nx
   |some c=>(fv P h sg Gl Γ N cl L g x pos (an.take (nl x)) F M nx λe j M' dA=>
     match e with
     | .normal=>
       match tC N c.rt c.nc j M' dA with
       |none=>False
       |some (j,M')=>
       match yC j c.rt with
       |some l'=>
        match q_ cl (ae M') (lj (ae M') L l')with
        |true=>
         let s':=c.dec (λd=>dv (fQ (ae M') (lj (ae M') L l')) false (look j d)) (jA (ae M') (lj (ae M') L l'))
         Ae (ae M') (lj (ae M') L l') (c.mem s') j (c.sh s') (mO (jA (ae M') (lj (ae M') L l')) (c.mem s')/\c.inv s')
        |false=>False
       |none=>False
     |e=>K e j M' dA)/\
    ∀s,c.inv s->mark (xk N (tB (assigned x) F) (c.sh s)) (dh 0 (c.mem s)) λF M=>fv P h sg Gl Γ N cl L g y (pos+nr x) (an.drop (nl x)) F M nx K
 | .cond c x y,pos,an,F,M,nx,K=>
   match c_ Gl F c with
   | .bl true=>fv P h sg Gl Γ N cl L g x pos (an.take (nl x)) F M nx K
   | .bl false=>fv P h sg Gl Γ N cl L g y (pos+nr x) (an.drop (nl x)) F M nx K
   | .v (.bool b)=>
     match acP h pos x y with
     |true=>(match b with|true=>fv P h sg Gl Γ N cl L g x pos (an.take (nl x)) F M nx K|false=>fv P h sg Gl Γ N cl L g y (pos+nr x) (an.drop (nl x)) F M nx K)
     |false=>(b=true->mark F M λF M=>fv P h sg Gl Γ N cl L g x pos (an.take (nl x)) F M nx K)/\(b=false->mark F M λF M=>fv P h sg Gl Γ N cl L g y (pos+nr x) (an.drop (nl x)) F M nx K)
   |_=>False
 | .block id x,pos,an,F,M,nx,K=>fv P h sg Gl Γ N cl L g x pos an F M nx λe F M nx=>match e with| .exit i=>(match Nat.beq i id with|true=>K .normal F M nx|false=>K (.exit i) F M nx)|e=>K e F M nx
 | .loop x,pos,an,F,M,nx,K=>
   match RY F an with
   | []=>False
   | .dec::_=>False
   | .zM _::_=>False
   | .cut _ _::_=>False
   | .zL _ _::_=>False
   | .GD n::r=>C5 (fv P h sg Gl Γ N cl L g x pos r) K n F M nx
   | .RX n sub::_=>
     match tC N n.rt n.nc F M nx with
     |none=>False
     |some (F,M)=>zw (fv P h sg Gl Γ N cl L g x pos) N cl L (assigned x) n n.init sub F M nx K
   | .acO n sub::_=>
     match tC N n.rt n.nc F M nx with
     |none=>False
     |some (F,M)=>∃s0,zw (fv P h sg Gl Γ N cl L g x pos) N cl L (assigned x) n s0 sub F M nx K
   | .H8 au k::r=>
     match tC N k.rt k.nc F M nx with
     |none=>False
     |some (F,M)=>zw (fv P h sg Gl Γ N cl L g x pos) N cl L (assigned x) (QP au L F M x k) (QP au L F M x k).init (λ_=>r) F M nx K
 | .exit id,_,_,F,M,nx,K=>K (.exit id) F M nx
 | .ret,_,_,F,M,nx,K=>K .ret F M nx
 |_,_,_,_,_,_,_=>False
def tD (P:Program) (F:Fr) (M:Mem) (K:List SV->Prop):List ResultVar->List SV->Prop
 | [],acc=>K acc.reverse
 | .tmp t::r,acc=>tD P F M K r (look F t::acc)
 | .cell ad T::r,acc=>(yS P T (look F ad) (ae M)).run λs=>tD P F M K r (s::acc)
def jD (m:Nat->bw) (κ:List Nat):SV->SV
 | .ptr k s p i j=>match idx κ k with|some _=>dv (fQ m κ) false (.ptr k s p i j)|none=>ro false 12 m κ (.ptr k s p i j)
 | .pe k s p i j n z=>match idx κ k with|some _=>dv (fQ m κ) false (.pe k s p i j n z)|none=>ro false 12 m κ (.pe k s p i j n z)
 | .aS k s p e n=>match idx κ k with|some _=>dv (fQ m κ) false (.aS k s p e n)|none=>ro false 12 m κ (.aS k s p e n)
 | .sa k s p i j n=>match idx κ k with|some _=>dv (fQ m κ) false (.sa k s p i j n)|none=>ro false 12 m κ (.sa k s p i j n)
 | .ag n f=> .ag n λj=>jD m κ (f j)
 | .tp n f=> .tp n λj=>jD m κ (f j)
 | .fn id n f=> .fn id n λj=>jD m κ (f j)
 | .bm id s=> .bm id (jD m κ s)
 | .mv nm s=> .mv nm (jD m κ s)
 | .ic t s=> .ic t (jD m κ s)
 |s=>s
def sV (bH:List bp):List SV->List SV->Mem->Nat->Option (List SV×Mem)
 |s::r,t::q,M,nx=>
  match t with
  | .aS k _ none _ _=>
    match bH[k]? with
    |some (.row sz _ _)=>match Cq M nx sz s with|some x=>(match sV bH r q x.2 (nx+1)with|some y=>some (x.1::y.1,y.2)|none=>none)|none=>none
    |_=>none
  |_=>match sV bH r q M nx with|some y=>some (s::y.1,y.2)|none=>none
 |l,_,M,_=>some (l,M)
def acQ (n:Nat) (res:SV):List SV:=match n,res with|1,r=> [r]|n,.tp _ f=>(List.range n).map f|_,_=> []
def Ol (cl:List Nat) (L:List Nat) (M:Mem) (res:SV) (bH:List bp) (l:List SV):Prop:=
 let κ:=(lj (ae M) L (l.flatMap oI)).take bH.length
 match q_ cl (ae M) κ with
 |true=>(match l with| [s]=>fb (jD (ae M) κ s) res|l=>fb (.tp l.length (aN (l.map λs=>jD (ae M) κ s))) res)/\mO (jA (ae M) κ) bH
 |false=>False
def C6 (cl:List Nat) (L:List Nat) (M:Mem) (nx:Nat) (res:SV) (bH:List bp) (l:List SV):Prop:=
 match sV bH l (acQ l.length res) M nx with
 |some x=>Ol cl L x.2 res bH x.1
 |none=>False
def p4:Nat->List SV->Fr
 |_,[]=> []
 |i,s::r=>(i,s)::p4 (i+1) r
def xm (kp:Bool) (mem:List bp):List Nat:=(List.range mem.length).filter λk=>pP kp mem[k]?
def QR:List An->Option (List Nat)
 | []=>none
 | .dec::_=>some []
 | .zM l::_=>some l
 |_::r=>QR r
def wX:List An->List An
 | []=> []
 | .dec::r=>wX r
 | .zM _::r=>wX r
 | .cut _ _::r=>wX r
 |a::r=>a::wX r
def GG:List An->Nat->Option Cut
 | [],_=>none
 | .cut k c::r,n=>match Nat.beq k n with|true=>some c|false=>GG r n
 |_::r,n=>GG r n
def Cp (P:Program) (sg:Bool) (Gl:Nat->SV) (Γ:Table) (fn:Func) (args:List SV) (mem:List bp) (an:List An) (res:SV) (bH:List bp):Prop:=
 match fn.body with
 |some c=>match Nat.ble args.length fn.ntmps with
  |false=>False
  |true=>fv P (QR an) sg Gl Γ fn.ntmps (xm (nM res) mem) (GF (ae (dh 0 mem)) mem.length) (GG an) c 0 (wX an) (p4 0 args) (dh 0 mem) 100 λe F M nx=>
   match e with
   | .exit _=>False
   |_=>tD P F M (C6 (xm (nM res) mem) (GF (ae (dh 0 mem)) mem.length) M nx res bH) fn.results.toList []
 |none=>False
section
variable {P:Program} {w:World} {ω:Ow} {Gl:Nat->SV} {Γ:Table} {N:Nat} {F:Fr} {M:Mem} {a:Act} {cl:List Nat} {L:List Nat}
structure Rel (cl:List Nat) (w1:World) (bZ:Ow) (M1:Mem) (w:World) (ω:Ow) (M:Mem):Prop where
 bare:Ext w1 bZ.bare w ω.bare
 gx:∀k∈cl,(ae M k).rs=0->(ae M1 k).rs=0/\∀L,bZ.β k none=some L->ω.β k none=some L
theorem Rel.refl (w:World) (ω:Ow) (M:Mem):Rel cl w ω M w ω M:=⟨Ext.refl _ _,λ_ _ h=>⟨h,λ_ h=>h⟩⟩
theorem Rel.trans {w1 d e:World} {bZ b c:Ow} {M1 g i:Mem} (h:Rel cl w1 bZ M1 d b g) (k:Rel cl d b g e c i):Rel cl w1 bZ M1 e c i:=
 ⟨h.bare.trans k.bare,λq j h0=>let⟨l,n⟩:=k.gx q j h0;let⟨e3,e4⟩:=h.gx q j l;⟨e3,λL o=>n L (e4 L o)⟩⟩
theorem Rel.of {w1:World} {bZ:Ow} {M1:Mem} (h1:aU w1 bZ M1) (h2:aU w ω M) (b:Ext w1 bZ w ω):Rel cl w1 bZ M1 w ω M:=by refine⟨b.bare,λk _ h0=>?_⟩;have hm:=(b.mono k).1;rw[h1.cur,h2.cur]at hm;have hm:(ae M1 k).rs<=(ae M k).rs:=hm;refine⟨by omega,λL c=>b.mP k none L c ?_⟩;rw[h1.cur,h2.cur];show(ae M k).rs=(ae M1 k).rs;omega
def gW (P:Program) (Gl:Nat->SV) (N:Nat) (cl:List Nat) (S:List Nat) (a0:Act) (w1:World) (bZ:Ow) (M1:Mem) (K:Fr->Mem->Nat->Prop) (a:Act) (w:World):Prop:=
 ∃ω F M nx,St P Gl N F M a w ω/\Rel cl w1 bZ M1 w ω M/\dF S a0 a/\K F M nx
theorem gW.weaken {S c:List Nat} {a0 a1:Act} {w1 d:World} {bZ b:Ow} {M1 e:Mem} {K g:Fr->Mem->Nat->Prop} {a:Act} {w:World} (h:gW P Gl N cl S a1 d b e K a w)
 (j:∀i∈S,i∈c) (k:dF c a0 a1) (l:Rel cl w1 bZ M1 d b e) (n:∀F M nx,K F M nx->g F M nx):gW P Gl N cl c a0 w1 bZ M1 g a w:=by
 obtain⟨ω,F,M,nx,h1,h2,o,p⟩:=h;exact⟨ω,F,M,nx,h1,l.trans h2,k.trans (o.mono j),n _ _ _ p⟩
def QQ (P:Program) (Gl:Nat->SV) (N:Nat) (cl:List Nat) (S:List Nat) (a0:Act) (w1:World) (bZ:Ow) (M1:Mem) (K:KK):Exit->Act->World->Prop
 | .normal,a,w=>gW P Gl N cl S a0 w1 bZ M1 (K .normal) a w
 | .exit id,a,w=>gW P Gl N cl S a0 w1 bZ M1 (K (.exit id)) a w
 | .ret,a,w=>gW P Gl N cl S a0 w1 bZ M1 (K .ret) a w
 |_,_,_=>False
theorem QQ.weaken {S c:List Nat} {a0 a1:Act} {w1 k:World} {bZ b:Ow} {M1 l:Mem} {K:KK} (d:∀i∈S,i∈c) (g:dF c a0 a1) (j:Rel cl w1 bZ M1 k b l):
 ∀e a w,QQ P Gl N cl S a1 k b l K e a w->QQ P Gl N cl c a0 w1 bZ M1 K e a w
 | .normal,_,_,h=>gW.weaken h d g j λ_ _ _ h=>h
 | .exit _,_,_,h=>gW.weaken h d g j λ_ _ _ h=>h
 | .ret,_,_,h=>gW.weaken h d g j λ_ _ _ h=>h
 | .goto _,_,_,h=>h
 | .panic _,_,_,h=>h
 | .outgrown,_,_,h=>h
theorem Rel.congr {w1:World} {bZ:Ow} {M1 M':Mem} (h:Rel cl w1 bZ M1 w ω M) (b:∀k,ae M' k=ae M k):Rel cl w1 bZ M1 w ω M':=⟨h.bare,λk c h0=>h.gx k c (by rw[<-b];exact h0)⟩
theorem Rel.YN {w1:World} {bZ:Ow} {M1 M':Mem} (h:Rel cl w1 bZ M' w ω M) (b:∀k,ae M' k=ae M1 k):Rel cl w1 bZ M1 w ω M:=⟨h.bare,λk c h0=>by rw[<-b];exact h.gx k c h0⟩
theorem QQ.congr {S:List Nat} {a0:Act} {w1:World} {bZ:Ow} {M1 M':Mem} {K:KK} (b:∀k,ae M' k=ae M1 k):∀e a w,QQ P Gl N cl S a0 w1 bZ M' K e a w->QQ P Gl N cl S a0 w1 bZ M1 K e a w:=by
 have key:∀{K:Fr->Mem->Nat->Prop} {a w},gW P Gl N cl S a0 w1 bZ M' K a w->gW P Gl N cl S a0 w1 bZ M1 K a w:=λ⟨ω,F,M,nx,h1,h2,d,g⟩=>⟨ω,F,M,nx,h1,h2.YN b,d,g⟩;intro e a w h;cases e with
 |normal=>exact key h
 |exit i=>exact key h
 |ret=>exact key h
 |goto l=>exact h
 |panic c=>exact h
 |outgrown=>exact h
theorem Tj {s:SV}:∀{u:Value},oy s=true->Den w ω s u->Den w ω.bare s u:=by
 induction s with
 |ptr _ _ _ _ _=>intro u h;cases h
 |pe _ _ _ _ _ _ _=>intro u h;cases h
 |aS _ _ _ _ _=>intro u h;cases h
 |sa _ _ _ _ _ _=>intro u h;cases h
 |ag n f c=>intro u h hd;obtain⟨d,rfl,hs,e⟩:=hd;exact⟨d,rfl,hs,λj b=>let⟨x,h1,h2⟩:=e j b;⟨x,h1,c j (cY.1 h j (cV.2 b)) h2⟩⟩
 |tp n f c=>intro u h hd;obtain⟨d,rfl,hs,e⟩:=hd;exact⟨d,rfl,hs,λj b=>let⟨x,h1,h2⟩:=e j b;⟨x,h1,c j (cY.1 h j (cV.2 b)) h2⟩⟩
 |fn id n f c=>intro u h hd;obtain⟨d,rfl,hs,e⟩:=hd;exact⟨d,rfl,hs,λj b=>let⟨x,h1,h2⟩:=e j b;⟨x,h1,c j (cY.1 h j (cV.2 b)) h2⟩⟩
 |bm id s c=>intro u h hd;obtain⟨x,rfl,g⟩:=hd;exact⟨x,rfl,c h g⟩
 |mv nm s c=>intro u h hd;obtain⟨x,rfl,g⟩:=hd;exact⟨x,rfl,c h g⟩
 |ic t s c=>intro u h hd;obtain⟨x,rfl,g⟩:=hd;exact⟨x,rfl,c h g⟩
 |_=>intro u _ hd;exact hd
theorem EG (l:List Nat):∀(F:Fr) (i:Nat),look (tB l F) i= .aI\/(look (tB l F) i=look F i/\oy (look F i)=true/\i∉l)
 | [],_=> .inl rfl
 |p::r,i=>by
  simp only[tB,mA,look];cases b:Nat.beq p.1 i with
  |false=>exact EG l r i
  |true=>
   have e:=a_ b;subst e;cases h1:cR l p.1 with
   |true=>exact .inl rfl
   |false=>
    cases h2:oy p.2 with
    |false=>exact .inl rfl
    |true=>exact .inr ⟨rfl,rfl,λhm=>by rw[gU.2 hm]at h1;cases h1⟩
theorem Ms {w':World} {aq:Ow} {c:Array Value}:∀(l:List (Nat×SV)) {F:Fr},dV w' aq N F c->(∀p∈l,∀u,c[p.1]? =some u->Den w' aq p.2 u)->dV w' aq N (xk N F l) c
 | [],_,h,_=>h
 |p::r,F,h,hp=>by
  refine Ms r ?_ λq d=>hp q (by simp[d]);cases b:Nat.blt p.1 N with
  |true=>
   have e:gy N F (some p.1) p.2=(p.1,p.2)::F:=by simp only[gy,b]
   rw[e];exact h.tell (bP b) (hp p (by simp))
  |false=>
   have e:gy N F (some p.1) p.2=F:=by simp only[gy,b]
   rw[e];exact h
theorem Bv {m:Nat->bw} {κ:List Nat} {B:List bp}:∀{l:List (Nat×SV)} {R:Prop},Ae m κ B F l R->(∀p∈l,Ad m κ B (look F p.1) p.2)/\R
 | [],_,h=>⟨λp hp=>by simp at hp,h⟩
 |p::r,_,⟨h1,h2⟩=>by
  obtain⟨c,d⟩:=Bv h2;refine⟨λq b=>?_,d⟩;rcases eG.1 b with rfl|b
  ·exact h1
  ·exact c q b
theorem Ug {m:Nat->bw} {κ:List Nat} (h:q_ cl m κ=true):κ.Nodup/\(∀k∈κ,whole (m k)=true)/\∀k∈cl,κ[k]? =some k/\(m k).rs=0:=by
 unfold q_ at h;split at h
 ·next h1 h2 e=>
  refine⟨vX h1,λk c=>cY.1 h2 k c,λk c=>?_⟩;have:=cY.1 e k c;rw[aW]at this;refine⟨?_,a_ this.2⟩;have b:=this.1;unfold stays at b;split at b
  ·next k' d=>rw[d,a_ b]
  ·cases b
 ·cases h
theorem St.QS (h:St P Gl N F M a w ω) {κ:List Nat} {B:List bp} (d:q_ cl (ae M) κ=true) (e:mO (jA (ae M) κ) B):
 aU w (eH ω κ B) (dh 0 B)/\Rel cl w ω M w (eH ω κ B) (dh 0 B):=by
 obtain⟨h1,h2,b⟩:=Ug d;refine⟨Mr h.mem h1 h2 e,yf _ _,λk c _=>⟨(b k c).2,λL g=>?_⟩⟩;rw[Bb (k:=k) (b k c).1];exact g
theorem WY (hm:aU w ω M) {κ:List Nat} {B:List bp} {x y:SV} {u:Value} (h:Ad (ae M) κ B x y) (hd:Den w ω x u):Den w (eH ω κ B) y u:=by
 unfold Ad at h;split at h
 ·next k' s' b e' G=>
  split at h
  ·next k s o e n=>
   split at h
   ·next q r c d=>
    split at h
    ·next g=>
     obtain rfl:=a_ g;obtain rfl:=a_ d;obtain⟨l,h1,h2,rfl,rfl⟩:=h;have l:=YM l;obtain⟨i,j⟩:=o;obtain⟨t,v⟩:=b;have h1:i=t:=h1;have h2:j=v:=h2;subst h1 h2;have e0:=iZ hm c;rcases hd with hd|⟨_,p,cap,z,A,C,E⟩
     ·omega
     exact .inr ⟨rfl,p,cap,z,A,C,by rw[ET (lA r) l];exact E⟩
    ·exact h.elim
   ·exact h.elim
  ·exact sO h (yp hm _ _ hd)
 ·exact sO h (yp hm _ _ hd)
theorem FL {a1:Act} {w1:World} {bZ:Ow} {M1:Mem} {d:Fr} (h1:St P Gl N d M1 a1 w1 bZ) (h:St P Gl N F M a w ω) {S:List Nat} (q:Rel cl w1 bZ M1 w ω M) (r:dF S a1 a)
 {κ:List Nat} {B:List bp} {sh:List (Nat×SV)} (t:q_ cl (ae M) κ=true) (v:mO (jA (ae M) κ) B) (hs:∀p∈sh,Ad (ae M) κ B (look F p.1) p.2):
 ∃aq,St P Gl N (xk N (tB S d) sh) (dh 0 B) a w aq/\Rel cl w1 bZ M1 w aq (dh 0 B):=by
 obtain⟨hm,b⟩:=h.QS t v;have c:=q.trans b;refine⟨_,⟨?_,λg=>Den.ext (o:=ω.bare) (yf _ _) (h.eo g),hm,h.defers⟩,c⟩;refine Ms _ ⟨h.frame.size,λi u j=>?_,λi x=>?_⟩ ?_
 ·rcases EG S d i with e|⟨e,k,l⟩
  ·rw[e];trivial
  ·rw[e];have n:a1.tmps[i]? =some u:=by rw[<-r.2 i l];exact j
   exact(Den.ext (o:=bZ.bare) c.bare (Tj k (h1.frame.den i u n))).up
 ·rcases EG S d i with e|⟨e,_,_⟩
  ·exact e
  ·rw[e];exact h1.frame.out i x
 ·intro p hp u j;exact WY h.mem (hs p hp) (h.frame.den p.1 u j)
theorem Jj {s:SV} {u:Value} (h:wu s=true) (hd:Den w ω s u):∃p,u= .slice p 0 0:=by
 unfold wu at h;split at h
 ·exact⟨none,hd⟩
 ·exact hd
 ·cases h
theorem J3 (hm:aU w ω M) {nx sz:Nat} {s s':SV} {M':Mem} {u:Value} (hd:Den w ω s u) (h:Cq M nx sz s=some (s',M')):Den w ω s' u/\aU w ω M'/\Rel cl w ω M w ω M':=by
 unfold Cq at h;split at h
 ·next c=>
  split at h
  ·next d=>
   simp only[bF,bJ]at h;obtain⟨rfl,rfl⟩:=h;obtain⟨e,g⟩:=Jj c hd;have b:=bz.dummy hm (kC hm d) sz 0 (λ_ _=> .aI);refine⟨?_,b.mem,Rel.of hm b.mem b.ext⟩;subst g;exact .inr ⟨by rw[hm.cur];rfl,e,0,rfl,bc _,gf _,.inl rfl⟩
  ·cases h
 ·simp only[bF,bJ]at h;obtain⟨rfl,rfl⟩:=h;exact⟨hd,hm,Rel.refl _ _ _⟩
theorem Mt:∀{rt:List (Nat×Nat)} {F e:Fr} {M M':Mem} {nx:Nat},St P Gl N F M a w ω->zN N rt F M nx=some (e,M')->St P Gl N e M' a w ω/\Rel cl w ω M w ω M'
 | [],F,e,M,M',nx,h,c=>by simp only[zN,bF,bJ]at c;obtain⟨rfl,rfl⟩:=c;exact⟨h,Rel.refl _ _ _⟩
 |d::r,F,e,M,M',nx,h,c=>by
  unfold zN at c;split at c
  ·next p hp b=>
   have b:d.1<N:=bP b;obtain⟨p1,i⟩:=p;have g:d.1<a.tmps.size:=by rw[h.frame.size];exact b
   obtain⟨j,g2,k⟩:=J3 (cl:=cl) h.mem (h.frame.den d.1 a.tmps[d.1] (by simp[g])) hp;have l:St P Gl N ((d.1,p1)::F) i a w ω:=⟨h.frame.tell b (λu n=>by
    have:a.tmps[d.1]? =some a.tmps[d.1]:=by simp[g]
    obtain rfl:=aV (this.symm.trans n);exact j),h.eo,g2,h.defers⟩
   obtain⟨k1,k2⟩:=Mt l c;exact⟨k1,k.trans k2⟩
  ·cases c
theorem Fa:∀{nc:List (Nat×Nat×Nat)} {M M':Mem} {nx:Nat},St P Gl N F M a w ω->zv nc F M nx=some M'->St P Gl N F M' a w ω/\Rel cl w ω M w ω M'
 | [],M,M',nx,h,b=>by obtain rfl:=aV b;exact⟨h,Rel.refl _ _ _⟩
 |d::r,M,M',nx,h,b=>by
  unfold zv at b;split at b
  ·next k s i j hl=>
   split at b
   ·next l G p v=>
    split at b
    ·next z q I=>
     have g:=kC h.mem I;have A:=bz.dummy h.mem g d.2.2 0 (λ_ _=> .aI);have B:nx≠k:=by intro e;subst e;have:=g.1;rw[v]at this;cases this
     have C:ae (fresh M nx (.row d.2.2 0 λ_ _=> .aI)) k=⟨(ae M k).rs,(ae M k).ds,none,.cells l⟩:=by unfold fresh;rw[cF B];cases b:ae M k;rw[b]at p v;subst p;subst v;rfl
     have n:∀j,cZ (aN l j)=false:=λj=>by
      unfold aN;rw[cD];cases E:l[j]? with
      |none=>rfl
      |some y=>have:=cY.1 z y (fw E);simpa using this
     have t:(ae M nx).rs=st ω.cur nx none:=by rw[h.mem.cur];rfl
     have u:=aU.Om A.mem C rfl (l':=l.set d.2.1 (.aS nx (ae M nx).rs none 0 0)) (by simp) (λL R c T S j E x U hd=>by
      by_cases o:j=d.2.1
      ·have e:aN (l.set d.2.1 (.aS nx (ae M nx).rs none 0 0)) j= .aS nx (ae M nx).rs none 0 0:=by rw[<-o];unfold aN;simp[cD,E]
       rw[e];obtain⟨J,K⟩:=Jj q (by rw[<-o];exact hd);subst K;exact⟨rfl,.inr ⟨t,J,0,rfl,bc _,gf _,.inl rfl⟩⟩
      ·have e:aN (l.set d.2.1 (.aS nx (ae M nx).rs none 0 0)) j=aN l j:=by unfold aN;simp[cD,cA o]
       rw[e];exact⟨n j,hd⟩) n
     have O:St P Gl N F ((k,⟨(ae M k).rs,(ae M k).ds,none,.cells (l.set d.2.1 (.aS nx (ae M nx).rs none 0 0))⟩)::fresh M nx (.row d.2.2 0 λ_ _=> .aI)) a w ω:=⟨h.frame,h.eo,u,h.defers⟩;obtain⟨k1,k2⟩:=Fa O b;exact⟨k1,(Rel.of h.mem u (Ext.refl _ _)).trans k2⟩
    ·exact Fa h b
    ·cases b
   ·cases b
  ·cases b
theorem yq {rt:List (Nat×Nat)} {nc:List (Nat×Nat×Nat)} {F d:Fr} {M M':Mem} {nx:Nat} (h:St P Gl N F M a w ω) (b:tC N rt nc F M nx=some (d,M')):St P Gl N d M' a w ω/\Rel cl w ω M w ω M':=by
 unfold tC at b;split at b
 ·next x e=>
  split at b
  ·next M1 c=>
   simp only[bF,bJ]at b;obtain⟨rfl,rfl⟩:=b;obtain⟨g,g2⟩:=Mt (cl:=cl) h e;obtain⟨i,j⟩:=Fa (cl:=cl) g c;exact⟨i,g2.trans j⟩
  ·cases b
 ·cases b
theorem Uh (hS:Sound P Gl Γ) {dl:Option (List Nat)} {sg:Bool} {z:Nat->Option Cut}:∀(c:Code) (pos:Nat) (an:List An) (F:Fr) (M:Mem) (nx:Nat) (a:Act) (w:World) (ω:Ow) (K:KK),
 St P Gl N F M a w ω->fv P dl sg Gl Γ N cl L z c pos an F M nx K->c.wp P (QQ P Gl N cl (assigned c) a w ω M K) a w:=by
 intro c
 induction c with
 |skip=>intro pos an F M nx a w ω K h d;exact wp_skip ⟨ω,F,M,nx,h,Rel.refl _ _ _,dF.refl _ _,d⟩
 |region id ops draw=>
  intro pos an F M nx a w ω K h d;have hd:∀o∈ops.toList,∀t,o.dst=some t->t∈assigned (.region id ops draw):=by intro o ho t ht;simp only[assigned,List.mem_filterMap];exact⟨o,ho,ht⟩
  cases draw with
  |false=>simp only[fv]at d;refine wp_region_list (px hS (Q:=QQ P Gl N cl (assigned (.region id ops false)) a w ω M K) (S:=assigned (.region id ops false)) (a0:=a) (w1:=w) (bZ:=ω) ?_ ops.toList F M nx [] a w ω hd h (λx hx=>by cases hx) (Ext.refl _ _) (dF.refl _ _) d);rintro a' w' ⟨aq,G,M',dA,v,g2,g3,g4⟩;exact⟨aq,G,M',dA,v,Rel.of h.mem v.mem g2,g3,g4⟩
  |true=>simp only[fv]at d;refine WZ hS (Q:=QQ P Gl N cl (assigned (.region id ops true)) a w ω M K) (S:=assigned (.region id ops true)) (λ_ _ _ _ _ h=>h.elim) ?_ hd h d;rintro a' w' ⟨aq,G,M',dA,v,g2,g3,g4⟩;exact⟨aq,G,M',dA,v,Rel.of h.mem v.mem g2,g3,g4⟩
 |seq x y I J=>
  intro pos an F M nx a w ω K h d;simp only[fv]at d;have q:∀i∈assigned x,i∈assigned (.seq x y):=λi E=>by simp[assigned,E]
  have A:∀i∈assigned y,i∈assigned (.seq x y):=λi E=>by simp[assigned,E]
  split at d
  next acR=>
   refine wp_seq (wp_mono (I _ _ F M nx a w ω _ h d) ?_);intro e a1 w1 j;cases e with
   |normal=>obtain⟨bZ,Z,M1,C,h1,v,k1,g⟩:=j;exact wp_mono (J _ _ Z M1 C a1 w1 bZ K h1 g) (QQ.weaken A (k1.mono q) v)
   |exit id=>exact gW.weaken j q (dF.refl _ _) (Rel.refl _ _ _) (λ_ _ _ h=>h)
   |ret=>exact gW.weaken j q (dF.refl _ _) (Rel.refl _ _ _) (λ_ _ _ h=>h)
   |goto l=>exact j
   |panic ch=>exact j
   |outgrown=>exact j
  next c acR=>
  obtain⟨he1,he2⟩:=d;refine wp_seq (wp_mono (I _ _ F M nx a w ω _ h he1) ?_);intro e a1 w1 j;cases e with
  |normal=>
   obtain⟨bZ,Z,M1,C,h1,v,k1,g⟩:=j;simp only at g;split at g
   ·exact g.elim
   ·next F2 M2 hp=>
    obtain⟨h2,g2⟩:=yq (cl:=cl) h1 hp;split at g
    ·next l' hl=>
     split at g
     ·next O=>
      obtain⟨hs,ha,hinv⟩:=Bv g;obtain⟨I9,h3,g3⟩:=FL h h2 (v.trans g2) k1 O ha hs;obtain⟨F4,M4,It,R,Iu⟩:=Bc (he2 _ hinv);exact wp_mono (J _ _ _ _ nx a1 w1 I9 K (h3.congr It R) Iu) (QQ.weaken A (k1.mono q) (g3.congr R))
     ·exact g.elim
    ·exact g.elim
  |exit id=>exact gW.weaken j q (dF.refl _ _) (Rel.refl _ _ _) (λ_ _ _ h=>h)
  |ret=>exact gW.weaken j q (dF.refl _ _) (Rel.refl _ _ _) (λ_ _ _ h=>h)
  |goto l=>exact j
  |panic ch=>exact j
  |outgrown=>exact j
 |cond c x y I J=>
  intro pos an F M nx a w ω K h d;have q:∀i∈assigned x,i∈assigned (.cond c x y):=λi E=>by simp[assigned,E]
  have A:∀i∈assigned y,i∈assigned (.cond c x y):=λi E=>by simp[assigned,E]
  have V:=h.cx.val c;simp only[fv]at d;split at d
  ·next hs=>
   rw[hs]at V;exact wp_cond_true V (wp_mono (I _ _ F M nx a w ω K h d) (QQ.weaken q (dF.refl _ _) (Rel.refl _ _ _)))
  ·next hs=>
   rw[hs]at V;exact wp_cond_false V (wp_mono (J _ _ F M nx a w ω K h d) (QQ.weaken A (dF.refl _ _) (Rel.refl _ _ _)))
  ·next b hs=>
   rw[hs]at V;replace d:(b=true->∃G M',(∀t,look G t=look F t)/\(∀k,ae M' k=ae M k)/\fv P dl sg Gl Γ N cl L z x pos (an.take (nl x)) G M' nx K)/\(b=false->∃G M',(∀t,look G t=look F t)/\(∀k,ae M' k=ae M k)/\fv P dl sg Gl Γ N cl L z y (pos+nr x) (an.drop (nl x)) G M' nx K):=by
    split at d
    ·cases b
     ·exact⟨λe=>(nomatch e),λ_=>⟨F,M,λ_=>rfl,λ_=>rfl,d⟩⟩
     ·exact⟨λ_=>⟨F,M,λ_=>rfl,λ_=>rfl,d⟩,λe=>(nomatch e)⟩
    ·exact⟨λW=>Bc (d.1 W),λW=>Bc (d.2 W)⟩
   refine wp_cond_split (t:=b) V (λW=>?_) (λW=>?_)
   ·obtain⟨G,M',hF,hM,V⟩:=d.1 W;exact wp_mono (I _ _ G M' nx a w ω K (h.congr hF hM) V) (λe a w j=>QQ.weaken q (dF.refl _ _) (Rel.refl _ _ _) e a w (QQ.congr hM e a w j))
   ·obtain⟨G,M',hF,hM,V⟩:=d.2 W;exact wp_mono (J _ _ G M' nx a w ω K (h.congr hF hM) V) (λe a w j=>QQ.weaken A (dF.refl _ _) (Rel.refl _ _ _) e a w (QQ.congr hM e a w j))
  ·exact d.elim
 |block id x ih=>
  intro pos an F M nx a w ω K h d;simp only[fv]at d;refine wp_block (wp_mono (ih _ _ F M nx a w ω _ h d) ?_);intro e a1 w1 j;cases e with
  |normal=>exact j
  |exit i=>
   show(if i=id then _ else _);obtain⟨bZ,Z,M1,C,h1,v,k1,g⟩:=j;by_cases E:i=id
   ·rw[if_pos E];subst E;have:Nat.beq i i=true:=cy i;simp only[this]at g;exact⟨bZ,Z,M1,C,h1,v,k1,g⟩
   ·rw[if_neg E];have:Nat.beq i id=false:=by
     cases W:Nat.beq i id
     ·rfl
     ·exact absurd (a_ W) E
    simp only[this]at g;exact⟨bZ,Z,M1,C,h1,v,k1,g⟩
  |ret=>exact j
  |goto l=>exact j
  |panic ch=>exact j
  |outgrown=>exact j
 |loop x ih=>
  intro pos an F M nx a w ω K h d;have key:∀(n:cQ) (s0:n.σ) (sub:n.σ->List An) (F:Fr) (M:Mem),St P Gl N F M a w ω->zw (fv P dl sg Gl Γ N cl L z x pos) N cl L (assigned x) n s0 sub F M nx K->(Code.loop x).wp P (QQ P Gl N cl (assigned x) a w ω M K) a w:=by
   intro n s0 sub F M h d;simp only[zw]at d;split at d
   ·next l hl=>
    split at d
    ·next O=>
     obtain⟨hag,acS,hinv,X⟩:=Bv d;obtain⟨bu,acT,aba⟩:=FL h h (S:=assigned x) (Rel.refl _ _ _) (dF.refl _ _) O acS hag;refine wp_loop_ghost (λk a' w'=>∃s aq,n.inv s/\n.μ s=k/\St P Gl N (xk N (tB (assigned x) F) (n.sh s)) (dh 0 (rq (n.mh s) (jA (ae M) (lj (ae M) L l)))) a' w' aq/\
      Rel cl w ω M w' aq (dh 0 (rq (n.mh s) (jA (ae M) (lj (ae M) L l))))/\dF (assigned x) a a') (n.μ s0) ⟨s0,bu,hinv,rfl,acT,aba,dF.refl _ _⟩ ?_
     rintro k a1 w1 ⟨s,bZ,E,rfl,h1,v,k1⟩;obtain⟨F4,M4,It,R,Iu⟩:=Bc (X s E);refine wp_mono (wp_mono (ih _ (sub s) _ _ nx a1 w1 bZ _ (h1.congr It R) Iu) (QQ.congr R)) ?_;intro e a2 w2 j;cases e with
     |normal=>
      obtain⟨I_,F2',M2',nx2,h2',g2',k2,B⟩:=j;simp only at B;split at B
      ·exact B.elim
      next F2 M2 Y=>
      obtain⟨h2,acU⟩:=yq (cl:=cl) h2' Y;have g2:=g2'.trans acU;split at B
      ·next l' hl'=>
       split at B
       ·next abb=>
        obtain⟨s',hs'⟩:=B;obtain⟨acV,abc,abd,hμ⟩:=Bv hs';obtain⟨I9,acW,abe⟩:=FL h h2 (S:=assigned x) (v.trans g2) (k1.trans k2) abb abc acV;exact⟨n.μ s',hμ,s',I9,abd,rfl,acW,abe,k1.trans k2⟩
       ·exact B.elim
      ·exact B.elim
     |exit id=>exact gW.weaken j (λ_ h=>h) k1 v (λ_ _ _ h=>h)
     |ret=>exact gW.weaken j (λ_ h=>h) k1 v (λ_ _ _ h=>h)
     |goto l=>exact j
     |panic ch=>exact j
     |outgrown=>exact j
    ·exact d.elim
   ·exact d.elim
  simp only[fv]at d;generalize RY F an=an at d;split at d
  ·exact d.elim
  ·exact d.elim
  ·exact d.elim
  ·exact d.elim
  ·exact d.elim
  ·next n r=>
   refine wp_loop_ghost (λk a' w'=>gW P Gl N cl (assigned x) a w ω M (λF M nx=>C5 (fv P dl sg Gl Γ N cl L z x pos r) K k F M nx) a' w') n ⟨ω,F,M,nx,h,Rel.refl _ _ _,dF.refl _ _,d⟩ ?_;rintro k a1 w1 ⟨bZ,Z,M1,C,h1,v,k1,g⟩;cases k with
   |zero=>exact g.elim
   |succ k=>
    simp only[C5]at g;refine wp_mono (ih _ r Z M1 C a1 w1 bZ _ h1 g) ?_;intro e a2 w2 j;cases e with
    |normal=>exact⟨k,qx k,gW.weaken j (λ_ h=>h) k1 v (λ_ _ _ h=>h)⟩
    |exit id=>exact gW.weaken j (λ_ h=>h) k1 v (λ_ _ _ h=>h)
    |ret=>exact gW.weaken j (λ_ h=>h) k1 v (λ_ _ _ h=>h)
    |goto l=>exact j
    |panic ch=>exact j
    |outgrown=>exact j
  ·next n sub _=>
   split at d
   ·exact d.elim
   next F0 M0 u=>
   obtain⟨T,U⟩:=yq (cl:=cl) h u;exact wp_mono (key n n.init sub F0 M0 T d) (QQ.weaken (λ_ h=>h) (dF.refl _ _) U)
  ·next n sub _=>
   split at d
   ·exact d.elim
   next F0 M0 u=>
   obtain⟨T,U⟩:=yq (cl:=cl) h u;obtain⟨s0,d⟩:=d;exact wp_mono (key n s0 sub F0 M0 T d) (QQ.weaken (λ_ h=>h) (dF.refl _ _) U)
  ·next au n0 r=>
   split at d
   ·exact d.elim
   next F0 M0 u=>
   obtain⟨T,U⟩:=yq (cl:=cl) h u;exact wp_mono (key _ _ _ F0 M0 T d) (QQ.weaken (λ_ h=>h) (dF.refl _ _) U)
 |exit id=>intro pos an F M nx a w ω K h d;exact wp_exit ⟨ω,F,M,nx,h,Rel.refl _ _ _,dF.refl _ _,d⟩
 |ret=>intro pos an F M nx a w ω K h d;exact wp_ret ⟨ω,F,M,nx,h,Rel.refl _ _ _,dF.refl _ _,d⟩
 |rangeFunc f p as b iha ihb=>intro pos an F M nx a w ω K h d;exact d.elim
 |scope x ih=>intro pos an F M nx a w ω K h d;exact d.elim
 |label l=>intro pos an F M nx a w ω K h d;exact d.elim
 |goto l=>intro pos an F M nx a w ω K h d;exact d.elim
 |refuse s=>intro pos an F M nx a w ω K h d;exact d.elim
/-! ### results, bodies -/
def C7 (tmps:Array Value):ResultVar->Sem Value
 | .tmp t=>pure (tmps.getD t undef)
 | .cell ad t=>do loadVar t (<-asAddr (tmps.getD ad undef))
theorem FM (hm:aU w ω M) (g:dV w ω N F a.tmps):∀(rs:List ResultVar) (K:List SV->Prop) (acc:List SV) (b:List Value),bY w ω acc b->tD P F M K rs acc->
 ∃vs l,(rs.mapM (C7 a.tmps)).run P w= .ok vs w/\bY w ω l (b.reverse++vs)/\K l
 | [],K,acc,b,c,d=>by
   refine⟨[],acc.reverse,by simp,?_,d⟩;rw[yT];have rev:∀{F:List SV} {l:List Value},bY w ω F l->bY w ω F.reverse l.reverse:=by
    intro F
    induction F with
    |nil=>intro l h;cases l with
     |nil=>trivial
     |cons _ _=>exact h.elim
    |cons s r j=>intro l h;cases l with
     |nil=>exact h.elim
     |cons u t=>rw[FN,FN];exact(j h.2).append ⟨h.1,trivial⟩
   exact rev c
 | .tmp t::r,K,acc,b,c,d=>by have hd:Den w ω (look F t) (a.tmps.getD t undef):=g.get t;obtain⟨vs,l,h1,h2,i⟩:=FM hm g r K (look F t::acc) (a.tmps.getD t undef::b) ⟨hd,c⟩ d;refine⟨a.tmps.getD t undef::vs,l,?_,by simpa using h2,i⟩;simp only[List.mapM_cons,C7,Sem.run_bind,Sem.run_pure,Result.andThen_ok,h1]
 | .cell ad T::r,K,acc,b,c,d=>by
   have hd:Den w ω (look F ad) (a.tmps.getD ad undef):=g.get ad;simp only[tD]at d;obtain⟨s,v,p,e,k,hs,n⟩:=J4 hm hd d;obtain⟨vs,l,h1,h2,i⟩:=FM hm g r K (s::acc) (v::b) ⟨hs,c⟩ n;refine⟨v::vs,l,?_,by simpa using h2,i⟩;have c:(asAddr (a.tmps.getD ad undef)).run P w= .ok p w:=by rw[e];rfl
   simp only[List.mapM_cons,C7,Sem.run_bind,c,Sem.run_pure,Result.andThen_ok,k,h1]
theorem J5 {l:List SV} {vs:List Value} (h:bY w ω l vs):(∃s v,l= [s]/\vs= [v]/\Den w ω s v)\/((∀s,l≠ [s])/\vs.length≠1):=by
 match l,vs,h with
 | [],[],_=>exact .inr ⟨by simp,by simp⟩
 | [s],[v],⟨h,_⟩=>exact .inl ⟨s,v,rfl,rfl,h⟩
 |_::_::_,_::_::_,_=>exact .inr ⟨by simp,by simp⟩
def Ow.less (o:Ow):Ow:=⟨λb=>∃k p L,o.β k p=some L/\L.b=b,o.Z,o.β,o.cur⟩
theorem Bw (hm:aU w ω M):Ext w ω w ω.less:=⟨rfl,rfl,rfl,λ_ _ _=>rfl,λb _ h c=>h (hm.own b c),λ_ _ _ h=>h,bc _,λ_=>⟨bc _,bc _⟩,λ_ _ _ h _=>h,λ_ h=>h⟩
theorem Mu (hm:aU w ω M):aU w ω.less M where
 cur:=hm.cur
 own:=λ_ h=>h
 ez:=λb h=>hm.ez b (hm.own b h)
 dj:=λb h=>hm.dj b (hm.own b h)
 fS:=hm.fS
 inj:=hm.inj
 low:=hm.low
 row:=λk p L c=>by obtain⟨r,h1,h2,d,e⟩:=hm.row k p L c;exact⟨r,h1,h2,d,nN.ext (Bw hm) rfl (λ_=>rfl) rfl e⟩
 live:=hm.live
 eE:=hm.eE
theorem W1 (hm:aU w ω M) {κ:List Nat} {B:List bp} (C:aU w (eH ω κ B) (dh 0 B)) {s:SV}:∀{u:Value},Den w ω s u->Den w (eH ω κ B).less (jD (ae M) κ s) u:=by
 have r:Ext w ω.bare w (eH ω κ B).less.bare:=(yf κ B).trans (Bw C).bare;have g:∀{s:SV} {u:Value},Den w ω s u->Den w (eH ω κ B).less (dv (fQ (ae M) κ) false s) u:=λhd=>(yp hm κ B hd).ext (Bw C);have l:∀{s:SV} {u:Value},Den w ω s u->Den w (eH ω κ B).less (ro false 12 (ae M) κ s) u:=by intro s u hd;refine(mB (aq:=(eH ω κ B).less) hm ?_ r (λ_ b h=>hm.dj b h) 12 hd).up;rintro b ⟨q,p,L,h1,h2⟩;obtain⟨k,E,G,_⟩:=wH h1;exact⟨k,fw E,p,L,G,h2⟩
 induction s with
 |ptr k s p i j=>intro u hd;simp only[jD];split;exact g hd;exact l hd
 |pe k s p i j n z=>intro u hd;simp only[jD];split;exact g hd;exact l hd
 |aS k s p e n=>intro u hd;simp only[jD];split;exact g hd;exact l hd
 |sa k s p i j n=>intro u hd;simp only[jD];split;exact g hd;exact l hd
 |ag n f c=>intro u hd;obtain⟨v,rfl,hs,y⟩:=hd;exact⟨v,rfl,hs,λj d=>let⟨x,h1,h2⟩:=y j d;⟨x,h1,c j h2⟩⟩
 |tp n f c=>intro u hd;obtain⟨v,rfl,hs,y⟩:=hd;exact⟨v,rfl,hs,λj d=>let⟨x,h1,h2⟩:=y j d;⟨x,h1,c j h2⟩⟩
 |fn id n f c=>intro u hd;obtain⟨v,rfl,hs,y⟩:=hd;exact⟨v,rfl,hs,λj d=>let⟨x,h1,h2⟩:=y j d;⟨x,h1,c j h2⟩⟩
 |bm id s c=>intro u hd;obtain⟨x,rfl,A⟩:=hd;exact⟨x,rfl,c A⟩
 |mv nm s c=>intro u hd;obtain⟨x,rfl,A⟩:=hd;exact⟨x,rfl,c A⟩
 |ic t s c=>intro u hd;obtain⟨x,rfl,A⟩:=hd;exact⟨x,rfl,c A⟩
 |pt q n f=>intro u hd;exact Den.ext (o:=ω.bare) (o':=(eH ω κ B).less.bare) (s:= .pt q n f) r hd
 |sl q sz n f=>intro u hd;exact Den.ext (o:=ω.bare) (o':=(eH ω κ B).less.bare) (s:= .sl q sz n f) r hd
 |pa q sz n f=>intro u hd;exact Den.ext (o:=ω.bare) (o':=(eH ω κ B).less.bare) (s:= .pa q sz n f) r hd
 |er t tf e z=>intro u hd;exact Den.ext (o:=ω.bare) (o':=(eH ω κ B).less.bare) (s:= .er t tf e z) r hd
 |_=>intro u hd;exact hd
theorem EU {bH:List bp}:∀{l t l':List SV} {M M':Mem} {nx:Nat} {vs:List Value},aU w ω M->bY w ω l vs->sV bH l t M nx=some (l',M')->bY w ω l' vs/\aU w ω M'/\Rel cl w ω M w ω M'
 | [],t,l',M,M',nx,vs,hm,hd,b=>by simp only[sV,bF,bJ]at b;obtain⟨rfl,rfl⟩:=b;exact⟨hd,hm,Rel.refl _ _ _⟩
 |s::r,[],l',M,M',nx,vs,hm,hd,b=>by simp only[sV,bF,bJ]at b;obtain⟨rfl,rfl⟩:=b;exact⟨hd,hm,Rel.refl _ _ _⟩
 |s::r,t::q,l',M,M',nx,[],hm,hd,b=>hd.elim
 |s::r,t::q,l',M,M',nx,v::vs,hm,⟨c,d⟩,b=>by
  unfold sV at b;split at b
  ·split at b
   ·split at b
    ·next x h=>
     split at b
     ·next y e=>
      obtain⟨k,n⟩:=x;simp only[bF,bJ]at b;obtain⟨rfl,rfl⟩:=b;obtain⟨i,g2,j⟩:=J3 (cl:=cl) hm c h;obtain⟨k1,k2,g⟩:=EU g2 d e;exact⟨⟨i,k1⟩,k2,j.trans g⟩
     ·cases b
    ·cases b
   ·cases b
  ·split at b
   ·next y e=>
    simp only[bF,bJ]at b;obtain⟨rfl,rfl⟩:=b;obtain⟨k1,k2,g⟩:=EU hm d e;exact⟨⟨c,k1⟩,k2,g⟩
   ·cases b
theorem YO (h:St P Gl N F M a w ω) {nx:Nat} {fn:Func} {res:SV} {bH:List bp} (B:tD P F M (C6 cl L M nx res bH) fn.results.toList []):
 ∃v aq,(results fn a.tmps).run P w= .ok v w/\Den w aq res v/\aU w aq (dh 0 bH)/\Rel cl w ω M w aq (dh 0 bH):=by
 obtain⟨vs,l,h1,h2,b⟩:=FM (a:=a) h.mem h.frame _ _ [] [] trivial B;simp only[List.reverse_nil,yD]at h2;have hlen:=h2.len;have z:∀v,(v=if h:vs.toArray.size=1 then vs.toArray[0]else .tuple vs.toArray)->(results fn a.tmps).run P w= .ok v w:=by
  intro v C;have e:results fn a.tmps=(do let vs<-fn.results.mapM (C7 a.tmps);pure (if h:vs.size=1 then vs[0]else .tuple vs)):=by unfold results;congr 1
  rw[e];simp only[QT,Sem.run_bind,Sem.run_map,h1,Result.andThen_ok,Sem.run_pure,C]
 unfold C6 at b;split at b
 rotate_left
 ·exact b.elim
 next x E=>
 obtain⟨G,g⟩:=x;obtain⟨h2,k,n⟩:=EU (cl:=cl) h.mem h2 E;have hlen:=h2.len;have h:St P Gl N [] g {a with tmps:=Array.replicate N undef} w ω:=⟨⟨by simp,λi u K=>trivial,λi _=>rfl⟩,h.eo,k,h.defers⟩
 revert b h2 hlen
 generalize G=l;intro b h2 hlen;simp only[Ol]at b;split at b
 ·next o=>
  revert o b
  generalize (lj (ae g) L (l.flatMap oI)).take bH.length=κ;intro o b;obtain⟨p,I⟩:=b;obtain⟨c,g2⟩:=h.QS o I;have d:∀{s:SV} {x:Value},Den w ω s x->Den w (eH ω κ bH).less (jD (ae g) κ s) x:=λhd=>W1 h.mem c hd;have g2:=n.trans (g2.trans (Rel.of (cl:=cl) c (Mu c) (Bw c)));have c:=Mu c;split at p
  ·next s=>
   rcases J5 h2 with⟨s',v,q,rfl,r⟩|⟨t,_⟩
   ·obtain rfl:s=s':=by simpa using q
    exact⟨v,_,z v (by simp),sO p (d r),c,g2⟩
   ·exact absurd rfl (t s)
  ·next l' y=>
   refine⟨.tuple vs.toArray,_,z _ ?_,sO p ⟨_,rfl,by simpa using hlen.symm,λj A=>?_⟩,c,g2⟩
   ·rw[dif_neg];intro e;rcases J5 h2 with⟨s,v,rfl,_⟩|⟨_,t⟩
    ·exact y s rfl
    ·exact t (by simpa using e)
   ·obtain⟨x,q,J⟩:=h2.get? j A;refine⟨x,by simpa using q,?_⟩;have:aN (l.map λs=>jD (ae g) κ s) j=jD (ae g) κ (l.getD j .aI):=by simp[aN,cD,A]
    rw[this];exact d J
 ·exact b.elim
theorem J6:∀(l:List SV) (k i:Nat),i<l.length->look (p4 k l) (k+i)=l.getD i .aI
 | [],_,_,h=>absurd h (by simp)
 |s::r,k,0,_=>by simp[p4,look_eq]
 |s::r,k,i+1,h=>by rw[p4,pz (by omega),show k+(i+1)=(k+1)+i by omega,J6 r (k+1) i (by simpa using h)];simp
theorem Fb:∀(l:List SV) (k i:Nat),k+l.length<=i->look (p4 k l) i= .aI
 | [],_,_,_=>rfl
 |s::r,k,i,h=>by simp only[List.length_cons]at h;rw[p4,pz (by omega),Fb r (k+1) i (by omega)]
theorem WX (K:Sound P Gl Γ) {sg:Bool} {f:Nat} {fn:Func} (O:P.funcs[f]? =some fn) {args:List SV} {mem:List bp} {an:List An} {res:SV} {bH:List bp} (n:Cp P sg Gl Γ fn args mem an res bH):gl P Gl f args mem res bH:=by
 intro w ω vs R hm b;unfold Cp at n;split at n
 ·next c S=>
  refine calls_of_wp O S ?_;split at n
  ·exact n.elim
  next hle=>
  have hle:=bP hle;have hlen:=b.len;simp at hlen;have z:St P Gl fn.ntmps (p4 0 args) (dh 0 mem) {tmps:=vs++Array.replicate (fn.ntmps -vs.size) undef,defers:= []} w ω:=by
   refine⟨⟨by simp;omega,?_,?_⟩,R,hm,rfl⟩
   ·intro i u I;by_cases A:i<args.length
    ·obtain⟨x,h1,h2⟩:=b.get? i A;rw[show look (p4 0 args) i=args.getD i .aI by have:=J6 args 0 i A;rwa [jY]at this];rw[Array.getElem?_append_left (by omega)]at I;have h1:vs[i]? =some x:=by simpa using h1
     obtain rfl:=aV (I.symm.trans h1);exact h2
    ·rw[Fb args 0 i (by omega)];trivial
   ·intro i A;exact Fb args 0 i (by omega)
  refine wp_mono (Uh K c _ (wX an) _ _ _ _ w ω _ z n) ?_;have fin:∀{y:Act} {w':World} {bZ:Ow} {p:Fr} {M1:Mem} {d:Nat},St P Gl fn.ntmps p M1 y w' bZ->Rel (xm (nM res) mem) w ω (dh 0 mem) w' bZ M1->tD P p M1 (C6 (xm (nM res) mem) (GF (ae (dh 0 mem)) mem.length) M1 d res bH) fn.results.toList []->
   ∃v,(results fn y.tmps).run P w'= .ok v w'/\∃J aq,(Ending.returned v)= .returned J/\Iv w ω w' aq/\aU w' aq (dh 0 bH)/\Den w' aq res J/\∀k,pP (nM res) mem[k]? =true->∀L,ω.β k none=some L->aq.β k none=some L:=by
   intro y w' bZ p M1 d h1 q j;obtain⟨v,aq,T,hd,B,r⟩:=YO h1 j;have g:=q.trans r;refine⟨v,T,v,aq,rfl,⟨g.bare.os,g.bare.tape,g.bare.output,g.bare.same,g.bare.free,g.bare.zs,g.bare.size⟩,B,hd,λk C L U=>?_⟩;have E:k<mem.length:=by
    rcases bR k mem.length with h|h
    ·exact h
    ·rw[sW h]at C;exact absurd C nE
   have t:k∈xm (nM res) mem:=by unfold xm;rw[nF];exact⟨cV.2 E,C⟩
   have h0:(ae (dh 0 bH) k).rs=0:=by rw[kI];split<;>rfl
   exact(g.gx k t h0).2 L U
  intro e y w' o;cases e with
  |normal=>obtain⟨bZ,p,M1,d,h1,q,k1,j⟩:=o;obtain⟨v,h2,G⟩:=fin h1 q j;exact⟨h1.defers,v,h2,G⟩
  |ret=>obtain⟨bZ,p,M1,d,h1,q,k1,j⟩:=o;obtain⟨v,h2,G⟩:=fin h1 q j;exact⟨h1.defers,v,h2,G⟩
  |exit id=>obtain⟨_,_,_,_,_,_,_,j⟩:=o;exact j.elim
  |goto l=>exact o.elim
  |panic V=>exact o.elim
  |outgrown=>exact o.elim
 ·exact n.elim
end
end Go.Sy
namespace Go.Sy
open Go.RowKit
def D4:List SV->List SV->Prop
 | [],[]=>True
 |a::r,b::t=>fb a b/\D4 r t
 |_,_=>False
theorem Mq {w:World} {o:Ow}:∀{l m:List SV} {us:List Value},D4 l m->bY w o l us->bY w o m us
 | [],[],[],_,h=>h
 |_::_,_::_,_::_,⟨h1,h2⟩,⟨b,c⟩=>⟨sO h1 b,Mq h2 c⟩
 | [],_::_,_,h,_=>h.elim
 |_::_,[],_,h,_=>h.elim
 | [],[],_::_,_,h=>h.elim
 |_::_,_::_,[],_,h=>h.elim
def lY (mem:List bp):Nat->bw:=ae (dh 0 mem)
theorem gl.more {P:Program} {Gl:Nat->SV} {f:Nat} {A:List SV} {B:List bp} {res:SV} {z:List bp} (h:gl P Gl f A B res z) {args:List SV} {mem:List bp}
 (C:D4 (args.map λs=>dv (fQ (lY mem) (List.range mem.length)) false s) A) (q:mO (jA (lY mem) (List.range mem.length)) B):gl P Gl f args mem res z:=by
 intro w ω vs E hm hd;have hlen:mem.length=B.length:=by have:=BW q;simpa [jA]using this
 have get:∀{k:Nat},k<mem.length->(List.range mem.length)[k]? =some k:=λd=>nD d;have r:∀k∈List.range mem.length,whole (ae (dh 0 mem) k)=true:=by
  intro k d;have d:=cV.1 d;have t:(jA (lY mem) (List.range mem.length))[k]? =some (iH (fQ (lY mem) (List.range mem.length)) false (lY mem k).b):=by simp[jA,d]
  have c:=BX q t (eO (by omega));have y:ae (dh 0 mem) k=⟨0,0,none,mem[k]⟩:=by rw[kI,eO d]
  unfold lY at c;rw[y]at c⊢;cases i:mem[k]with
  |dead=>rw[i]at c;exact c.elim
  |cells _=>rfl
  |row _ _ _=>rfl
 have G:=Mr hm List.nodup_range r q;have l:∀{s:SV} {x:Value},Den w ω s x->Den w (eH ω (List.range mem.length) B) (dv (fQ (ae (dh 0 mem)) (List.range mem.length)) false s) x:=λhd=>yp hm _ _ hd;refine(h w (eH ω (List.range mem.length) B) vs (λg=>Den.ext (o:=ω.bare) (yf _ _) (E g)) G (Mq C (hd.map λs u hs=>l hs))).mono ?_;rintro e w' ⟨v,aq,rfl,h1,h2,I,J⟩;refine⟨v,aq,rfl,⟨h1.os,h1.tape,h1.output,h1.same,h1.free,h1.gx,h1.size⟩,h2,I,λk d L K=>?_⟩;cases j:mem[k]? with
 |none=>rw[j]at d;exact absurd d nE
 |some b=>
  have n:=(ik.1 j).1;have t:(jA (lY mem) (List.range mem.length))[k]? =some (iH (fQ (lY mem) (List.range mem.length)) false (lY mem k).b):=by simp[jA,n]
  have i:B[k]? =some B[k]:=eO (by omega);have c:=BX q t i;have y:lY mem k=⟨0,0,none,b⟩:=by unfold lY;rw[kI,j]
  rw[y]at c;refine J k ?_ L (by rw[Bb (get n)];exact K);rw[i];rw[j]at d;cases b with
  |dead=>exact absurd d nE
  |row _ _ _=>
   cases p:B[k]with
   |dead=>rw[p]at c;exact c.elim
   |cells _=>rw[p]at c;exact c.elim
   |row _ _ _=>exact d
  |cells _=>
   cases p:B[k]with
   |dead=>rw[p]at c;exact c.elim
   |row _ _ _=>rw[p]at c;exact c.elim
   |cells _=>rfl
def av:SV->Int| .v (.int _ x)=>x|_=>0
def oH:SV->Bool| .v (.bool x)=>x| .bl x=>x|_=>false
def tN:SV->ByteArray| .v (.string x)=>x|_=>ByteArray.empty
def cW:SV->Nat->SV| .ag _ f,j=>f j| .tp _ f,j=>f j|_,_=> .aI
def bT:SV->Nat| .sl _ _ n _=>n|_=>0
def bO:SV->Nat->Nat->SV| .sl _ _ _ f,i,j=>f i j|_,_,_=> .aI
def bN:SV->Nat->SV| .pt _ _ f,j=>f j|_,_=> .aI
def erE:SV->Int| .er _ _ e _=>e| .v (.iface _ (.int _ c))=>c| .ic _ (.pt _ _ f)=>(match f 1 with| .er _ _ c _=>c| .v (.iface _ (.int _ c))=>c|_=>0)|_=>0
def erA:SV->Int| .er _ _ _ z=>z| .ic _ (.pt _ _ f)=>(match f 0 with| .v (.int _ a)=>a|_=>0)|_=> -1
structure Spec where
 X:Type
 args:X->List SV
 mem:X->List bp
 pre:X->Prop
 res:X->SV
 bH:X->List bp
 dec:List SV->List bp->Option X
def Spec.g (s:Spec) (args:List SV) (mem:List bp):Option (Prop×SV×List bp):=
 match s.dec args mem with
 |some x=>some (D4 (args.map λs=>dv (fQ (lY mem) (List.range mem.length)) false s) (s.args x)/\mO (jA (lY mem) (List.range mem.length)) (s.mem x)/\s.pre x,s.res x,s.bH x)
 |none=>none
structure aY (P:Program) (Gl:Nat->SV) (f:Nat) (c:aZ):Prop where
 call:∀(l:Array Value) (w:World),(callFunc f l).run P w= .ok (.enter f l) w
 fn:∀args mem pre res bH,c.g args mem=some (pre,res,bH)->pre->gl P Gl f args mem res bH
 pj:∀n,c.pj=some n->QO P f n
theorem py {P:Program} {Gl:Nat->SV} {f:Nat} {ws:List Bool} {s:Spec} (b:∀(l:Array Value) (w:World),(callFunc f l).run P w= .ok (.enter f l) w)
 (h:∀x,s.pre x->gl P Gl f (s.args x) (s.mem x) (s.res x) (s.bH x)):aY P Gl f ⟨ws,s.g,none⟩:=by
 refine⟨b,λargs mem pre res bH e hp=>?_,λn e=>nomatch e⟩;have e:s.g args mem=some (pre,res,bH):=e;unfold Spec.g at e;split at e
 ·next x c=>
  simp only[bF,bJ]at e;obtain⟨rfl,rfl,rfl⟩:=e;exact(h x hp.2.2).more hp.1 hp.2.1
 ·cases e
def aZ.or (a b:aZ):aZ:=⟨a.ws,λl m=>match a.g l m with|some x=>some x|none=>b.g l m,none⟩
theorem aY.or {P:Program} {Gl:Nat->SV} {f:Nat} {a b:aZ} (c:aY P Gl f a) (d:aY P Gl f b):aY P Gl f (a.or b):=by
 refine⟨c.call,λargs mem pre res bH e hp=>?_,λn e=>nomatch e⟩;have e:(match a.g args mem with|some x=>some x|none=>b.g args mem)=some (pre,res,bH):=e;split at e
 ·next x h=>
  obtain rfl:=aV e;exact c.fn args mem _ _ _ h hp
 ·exact d.fn args mem pre res bH e hp
def jC (k:Nat):SV->Bool
 | .fn id _ _=>Nat.beq id k
 |_=>false
def dK:SV->Nat->SV
 | .fn _ _ f,j=>f j
 |_,_=> .aI
def oR:List (Nat×aZ)->Table
 | [],_=>none
 |p::r,f=>match Nat.beq p.1 f with|true=>some p.2|false=>oR r f
section
variable {P:Program} {Gl:Nat->SV}
theorem Uf:Sound P Gl (oR []):=⟨λ_ _ h=>(nomatch h),λ_ _ _ _ _ _ _ h=>(nomatch h),λ_ _ _ h=>(nomatch h)⟩
theorem TF {g:Nat} {s:aZ} {r:List (Nat×aZ)} (h:aY P Gl g s) (d:Sound P Gl (oR r)):Sound P Gl (oR ((g,s)::r)):=by
 constructor
 ·intro f c e;simp only[oR]at e;split at e
  ·next b=>obtain rfl:=a_ b;exact h.call
  ·exact d.call f c e
 ·intro f c args mem pre res bH e;simp only[oR]at e;split at e
  ·next b=>
   obtain rfl:=a_ b;obtain rfl:=aV e;exact h.fn args mem pre res bH
  ·exact d.fn f c args mem pre res bH e
 ·intro f c n e;simp only[oR]at e;split at e
  ·next b=>
   obtain rfl:=a_ b;obtain rfl:=aV e;exact h.pj n
  ·exact d.pj f c n e
theorem qT {Γ:Table} (b:Sound P Gl Γ) (sg:Bool) {f:Nat} {fn:Func} (c:P.funcs[f]? =some fn) {args:List SV} {mem:List bp} (an:List An) {res:SV} {bH:List bp} {V:Prop} (d:Cp P sg Gl Γ fn args mem an res bH=V) (e:V):gl P Gl f args mem res bH:=
 WX b c (d▸e)
end
def acN:bp->Nat| .row _ n _=>n|_=>0
def RW:bp->Nat->Nat->SV| .row _ _ f=>f| .cells l=>λ_ j=>aN l j| .dead=>λ_ _=> .aI
def nU (mem:List bp) (k:Nat):Nat:=acN (mem.getD k .dead)
def k_ (mem:List bp) (k i j:Nat):SV:=RW (mem.getD k .dead) i j
def Dw (mem:List bp) (k j:Nat):SV:=RW (mem.getD k .dead) 0 j
def Ir:SV->Nat| .il _ n _=>n| .sl _ _ n _=>n|_=>0
def Is:SV->Nat->Nat->SV| .il _ _ f,i,j=>f i j| .sl _ _ _ f,i,j=>f i j|_,_,_=> .aI
def tn:Nat->Prop->Prop
 |0,p=>p
 |n+1,p=>True/\tn n p
abbrev aw (x:Int):Int:=IntKind.wrap .i64 x
section
variable {P:Program} {Gl:Nat->SV}
theorem Sound.nil:Sound P Gl (oR []):=Uf
theorem Sound.cons {g:Nat} {s:aZ} {r:List (Nat×aZ)} (h:aY P Gl g s) (b:Sound P Gl (oR r)):Sound P Gl (oR ((g,s)::r)):=TF h b
theorem bn {f:Nat} {fn:Func} {ws:List Bool} {s:Spec} {Γ:Table} (b:Sound P Gl Γ) (sg:Bool) (c:∀(l:Array Value) (w:World),(callFunc f l).run P w= .ok (.enter f l) w) (d:P.funcs[f]? =some fn) (an:s.X->List An) {V:s.X->Prop}
 (e:∀x,Cp P sg Gl Γ fn (s.args x) (s.mem x) (an x) (s.res x) (s.bH x)=V x) (h:∀x,s.pre x->V x):aY P Gl f ⟨ws,s.g,none⟩:=
 py c λx hp=>qT b sg d (an x) (e x) (h x hp)
end
theorem bq:(∀p:Prop,(True/\p)=p)/\(∀p:Prop,(p/\True)=p)/\(∀p:Prop,(p/\p)=p)/\(∀n:Nat,((n:Nat):Int).toNat=n)/\(∀n:Nat,0+n=n)/\(∀n:Nat,(0:Int)<=(n:Int))/\(∀n:Nat,¬n<0)/\(∀p:Prop,(False->p)=True)/\(∀n:Nat,0<=n)/\((0:Nat):Int)=0:=
 ⟨true_and,and_true,and_self,cj,jY,pF,dS,false_implies,gf,Int.natCast_zero⟩
theorem bx:(∀c f:Bool,(bif c then true else f)=(c||f))/\(∀c t:Bool,(bif c then t else false)=(c&&t))/\(∀c t:Bool,(bif c then t else true)=(!c||t))/\(∀c f:Bool,(bif c then false else f)=(!c&&f)):=
 ⟨Bool.cond_true_left,Bool.cond_false_right,Bool.cond_true_right,Bool.cond_false_left⟩
end Go.Sy
