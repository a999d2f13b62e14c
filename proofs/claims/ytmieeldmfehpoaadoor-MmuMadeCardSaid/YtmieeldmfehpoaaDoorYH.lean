/-
  Sy, part 17: whole bodies.
-/
import Derived.Test.YtmieeldmfehpoaaDoorYG
import Derived.Deep.LoopGhost
set_option linter.unusedVariables false
set_option linter.unusedSimpArgs false
set_option linter.unusedVariables false
set_option linter.unusedSimpArgs false
namespace Go.Sy
open Go.RowKit
inductive Ex where
  |normal|exit (id:Nat)|ret
structure Ann where
  σ:Type
  rt:List (Nat×Nat)
  sh:σ→List (Nat×SV)
  mh:σ→List (Nat×Blk)
  inv:σ→Prop
  μ:σ→Nat
  init:σ
  nc:List (Nat×Nat×Nat):= []
structure Cut where
  σ:Type
  rt:List (Nat×Nat)
  sh:σ→List (Nat×SV)
  mem:σ→List Blk
  inv:σ→Prop
  dec:(Nat→SV)→List Blk→σ
  nc:List (Nat×Nat×Nat):= []
inductive An where
  |inv' (au:Bool) (a:Ann)
  |invF (au:Bool) (g:(Nat→SV)→Ann)
  |unroll (n:Nat)
  |dec
  |decs (l:List Nat)
  |cut (r:Nat) (c:Cut)
def An.inv (a:Ann):An:= .inv' false a
def resA (F:Fr):List An→List An
  | .invF au g::r=> .inv' au (g fun d=>look F d)::r
  |l=>l
def nr:Code→Nat
  | .region _ _ _=>1
  | .seq x y=>nr x+nr y
  | .cond _ x y=>nr x+nr y
  | .block _ x=>nr x
  | .loop x=>nr x
  |_=>0
def isX:Code→Bool
  | .exit _=>true
  |_=>false
def decd (dl:Option (List Nat)) (pos:Nat) (x y:Code):Bool:=match dl with|none=>false|some []=>(match isX x with|true=>true|false=>isX y)|some (p::r)=>inL (p::r) pos
def nl:Code→Nat
  | .seq x y=>nl x+nl y
  | .cond _ x y=>nl x+nl y
  | .block _ x=>nl x
  | .loop x=>nl x+1
  |_=>0
def assigned:Code→List Nat
  | .region _ ops _=>ops.toList.filterMap (·.dst)
  | .seq x y=>assigned x++assigned y
  | .cond _ x y=>assigned x++assigned y
  | .block _ x=>assigned x
  | .loop x=>assigned x
  |_=> []
def closedB:SV→Bool
  | .junk=>true
  | .v _=>true
  | .bl _=>true
  | .pt _ _ _=>true
  | .sl _ _ _ _=>true
  | .pa _ _ _ _=>true
  | .il _ _ _=>true
  | .er _ _ _ _=>true
  | .es=>true
  | .ag n f=>(List.range n).all fun j=>closedB (f j)
  | .tp n f=>(List.range n).all fun j=>closedB (f j)
  | .fn _ n f=>(List.range n).all fun j=>closedB (f j)
  | .bm _ s=>closedB s
  | .mv _ s=>closedB s
  | .ic _ s=>closedB s
  |_=>false
def keepF (l:List Nat) (F:Fr):Fr:=F.map fun p=>(p.1,match inL l p.1,closedB p.2 with|false,true=>p.2|_,_=> .junk)
def setL (N:Nat) (F:Fr):List (Nat×SV)→Fr
  | []=>F
  |p::r=>setL N (putF N F (some p.1) p.2) r
def rootOf:SV→Option Nat
  | .ptr k _ _ _ _=>some k
  | .pe k _ _ _ _ _ _=>some k
  | .slc k _ _ _ _=>some k
  | .sa k _ _ _ _ _=>some k
  |_=>none
def rootsOf (F:Fr):List (Nat×Nat)→Option (List Nat)
  | []=>some []
  |d::r=>match rootOf (look F d.1),rootsOf F r with|some k,some l=>some (k::l)|_,_=>none
def ownNil (M:Mem) (nx sz:Nat) (s:SV):Option (SV×Mem):=
  match isNilSl s with
  |true=>(match freeB (ent M) nx with|true=>some (.slc nx (ent M nx).rs none 0 0,fresh M nx (.row sz 0 fun _ _=> .junk))|false=>none)
  |false=>some (s,M)
def prep (N:Nat):List (Nat×Nat)→Fr→Mem→Nat→Option (Fr×Mem)
  | [],F,M,_=>some (F,M)
  |d::r,F,M,nx=>match ownNil M nx d.2 (look F d.1),Nat.blt d.1 N with|some p,true=>prep N r ((d.1,p.1)::F) p.2 (nx+1)|_,_=>none
def kap (m:Nat→Ent) (L l:List Nat):List Nat:=reach m 200 (L++l) []
def headsL (m:Nat→Ent) (n:Nat):List Nat:=((List.range n).foldl (fun (acc:List Nat×List Nat) k=>match inL acc.2 k with|true=>acc|false=>(acc.1++ [k],reach m 200 [k] acc.2)) ([],[])).1
def stays (κ:List Nat) (k:Nat):Bool:=match κ[k]? with|some k'=>Nat.beq k' k|none=>false
def prepC:List (Nat×Nat×Nat)→Fr→Mem→Nat→Option Mem
  | [],F,M,_=>some M
  |d::r,F,M,nx=>
   match look F d.1 with
   | .ptr k s none _ _=>
     match okRef (ent M) k s none,(ent M k).hl,(ent M k).b with
     |true,none,.cells l=>
      match l.all fun s=>!isIl s,isNilSl (lsv l d.2.1),freeB (ent M) nx with
      |true,true,true=>prepC r F ((k,⟨(ent M k).rs,(ent M k).ds,none,.cells (l.set d.2.1 (.slc nx (ent M nx).rs none 0 0))⟩)::fresh M nx (.row d.2.2 0 fun _ _=> .junk)) (nx+1)
      |true,false,_=>prepC r F M (nx+1)
      |_,_,_=>none
     |_,_,_=>none
   |_=>none
def prep2 (N:Nat) (rt:List (Nat×Nat)) (nc:List (Nat×Nat×Nat)) (F:Fr) (M:Mem) (nx:Nat):Option (Fr×Mem):=
  match prep N rt F M nx with
  |some x=>match prepC nc x.1 x.2 (nx+20) with|some M=>some (x.1,M)|none=>none
  |none=>none
def canB (cl:List Nat) (m:Nat→Ent) (κ:List Nat):Bool:=
  match nodupB κ,κ.all fun k=>whole (m k),cl.all fun k=>stays κ k&&Nat.beq (m k).rs 0 with
  |true,true,true=>true
  |_,_,_=>false
def tellB (m:Nat→Ent) (κ:List Nat):List Blk:=κ.map fun k=>blkRen (tellφ m κ) false (m k).b
def ovB:List (Nat×Blk)→List Blk→List Blk
  | [],B=>B
  |p::r,B=>ovB r (B.set p.1 p.2)
def inRP:Blk→Nat→Nat→Prop
  | .row sz n _,i,j=>i<n∧j<sz
  |_,_,_=>True
theorem inRP_B {b:Blk} {i j:Nat} (h:inRP b i j):inRB b i j=true:=by
  unfold inRP at h
  split at h
  · simp only [inRB,Bool.and_eq_true]
    exact ⟨by simpa [Nat.blt_eq] using h.1,by simpa [Nat.blt_eq] using h.2⟩
  · next hn=>unfold inRB;split
             · next sz n f=>exact absurd rfl (hn sz n f)
             · rfl
def agH (m:Nat→Ent) (κ:List Nat) (B:List Blk) (x y:SV):Prop:=
  match y with
  | .slc k' s' (some ij') e' n'=>
    match x with
    | .slc k s (some ij) e n=>
      match idx κ k,okRef m k s (some ij),Nat.beq s' 0 with
      |some q,true,true=>(match Nat.beq q k' with|true=>inRP (B.getD q .dead) ij.1 ij.2∧ij.1=ij'.1∧ij.2=ij'.2∧e=e'∧n=n'|false=>False)
      |_,_,_=>False
    |x=>agV (mref (tellφ m κ) false x) (.slc k' s' (some ij') e' n')
  |y=>agV (mref (tellφ m κ) false x) y
def agF (m:Nat→Ent) (κ:List Nat) (B:List Blk) (F:Fr):List (Nat×SV)→Prop→Prop
  | [],R=>R
  |p::r,R=>agH m κ B (look F p.1) p.2∧agF m κ B F r R
def autoSlots (m:Nat→Ent) (asg:List Nat):Fr→List Nat→List Nat
  | [],_=> []
  |p::r,seen=>
   match inL seen p.1||inL asg p.1 with
   |true=>autoSlots m asg r (p.1::seen)
   |false=>
    match p.2 with
    | .ptr k s none _ _=>
      match okRef m k s none,(m k).b with
      |true,.cells _=>p.1::autoSlots m asg r (p.1::seen)
      |_,_=>autoSlots m asg r (p.1::seen)
    |_=>autoSlots m asg r (p.1::seen)
def autoA (au:Bool) (L:List Nat) (F:Fr) (M:Mem) (x:Code) (n:Ann):Ann:=
  match au with
  |false=>n
  |true=>
   let ds:=autoSlots (ent M) (assigned x) F []
   match rootsOf F (n.rt++ds.map fun d=>(d,0)) with
   |some l=>{n with rt:=n.rt++ds.map fun d=>(d,0),sh:=fun s=>(ds.map fun d=>(d,mref (tellφ (ent M) (kap (ent M) L l)) false (look F d)))++n.sh s}
   |none=>n
abbrev KK:=Ex→Fr→Mem→Nat→Prop
def iterN (b:Fr→Mem→Nat→KK→Prop) (K:KK):Nat→Fr→Mem→Nat→Prop
  |0,_,_,_=>False
  |n+1,F,M,nx=>b F M nx fun e F M nx=>match e with| .normal=>iterN b K n F M nx|e=>K e F M nx
def cutAt (cuts:Nat→Option Cut) (k:Nat):Nat→Option Cut
  |0=>none
  |_+1=>cuts k
def mark (F:Fr) (M:Mem) (K:Fr→Mem→Prop):Prop:=fFr [] F fun F=>fMem [] M fun M=>K F M
theorem mark_spec {F:Fr} {M:Mem} {K:Fr→Mem→Prop} (h:mark F M K): ∃F' M',(∀t,look F' t=look F t)∧(∀k,ent M' k=ent M k)∧K F' M':=by
  obtain ⟨F',h1,h2⟩:=fFr_spec _ _ _ h
  obtain ⟨M',h3,h4⟩:=fMem_spec _ _ _ h1
  exact ⟨F',M',fun t=>h2 t rfl,fun k=>h4 k rfl,h3⟩
def evCode (P:Program) (dl:Option (List Nat)) (sg:Bool) (Gl:Nat→SV) (Γ:Table) (N:Nat) (cl:List Nat) (L:List Nat) (cuts:Nat→Option Cut):Code→Nat→List An→Fr→Mem→Nat→KK→Prop
  | .skip,_,_,F,M,nx,K=>K .normal F M nx
  | .region _ ops draw,_,_,F,M,nx,K=>
    match draw with
    |false=>evOps P sg Gl Γ N ops.toList (K .normal) ops.toList F M nx []
    |true=>evDrawP P sg Gl Γ N ops.toList (K .normal) F M nx
  | .seq x y,pos,an,F,M,nx,K=>
    match cutAt cuts (pos+nr x) (nr y) with
    |none=>evCode P dl sg Gl Γ N cl L cuts x pos (an.take (nl x)) F M nx fun e F M nx=>match e with| .normal=>evCode P dl sg Gl Γ N cl L cuts y (pos+nr x) (an.drop (nl x)) F M nx K|e=>K e F M nx
    |some c=>(evCode P dl sg Gl Γ N cl L cuts x pos (an.take (nl x)) F M nx fun e F' M' nx'=>
       match e with
       | .normal=>
         match prep2 N c.rt c.nc F' M' nx' with
         |none=>False
         |some (F',M')=>
         match rootsOf F' c.rt with
         |some l'=>
          match canB cl (ent M') (kap (ent M') L l') with
          |true=>
           let s':=c.dec (fun d=>mref (tellφ (ent M') (kap (ent M') L l')) false (look F' d)) (tellB (ent M') (kap (ent M') L l'))
           agF (ent M') (kap (ent M') L l') (c.mem s') F' (c.sh s') (agL (tellB (ent M') (kap (ent M') L l')) (c.mem s')∧c.inv s')
          |false=>False
         |none=>False
       |e=>K e F' M' nx')∧
     ∀s,c.inv s→mark (setL N (keepF (assigned x) F) (c.sh s)) (memOf 0 (c.mem s)) fun F M=>evCode P dl sg Gl Γ N cl L cuts y (pos+nr x) (an.drop (nl x)) F M nx K
  | .cond c x y,pos,an,F,M,nx,K=>
    match opnd Gl F c with
    | .bl true=>evCode P dl sg Gl Γ N cl L cuts x pos (an.take (nl x)) F M nx K
    | .bl false=>evCode P dl sg Gl Γ N cl L cuts y (pos+nr x) (an.drop (nl x)) F M nx K
    | .v (.bool b)=>
      match decd dl pos x y with
      |true=>(match b with|true=>evCode P dl sg Gl Γ N cl L cuts x pos (an.take (nl x)) F M nx K|false=>evCode P dl sg Gl Γ N cl L cuts y (pos+nr x) (an.drop (nl x)) F M nx K)
      |false=>(b=true→mark F M fun F M=>evCode P dl sg Gl Γ N cl L cuts x pos (an.take (nl x)) F M nx K)∧(b=false→mark F M fun F M=>evCode P dl sg Gl Γ N cl L cuts y (pos+nr x) (an.drop (nl x)) F M nx K)
    |_=>False
  | .block id x,pos,an,F,M,nx,K=>evCode P dl sg Gl Γ N cl L cuts x pos an F M nx fun e F M nx=>match e with| .exit i=>(match Nat.beq i id with|true=>K .normal F M nx|false=>K (.exit i) F M nx)|e=>K e F M nx
  | .loop x,pos,an,F,M,nx,K=>
    match resA F an with
    | []=>False
    | .dec::_=>False
    | .decs _::_=>False
    | .cut _ _::_=>False
    | .invF _ _::_=>False
    | .unroll n::r=>iterN (evCode P dl sg Gl Γ N cl L cuts x pos r) K n F M nx
    | .inv' au n0::r=>
      match prep2 N n0.rt n0.nc F M nx with
      |none=>False
      |some (F,M)=>
      let n:=autoA au L F M x n0
      match rootsOf F n.rt with
      |some l=>
       let κ:=kap (ent M) L l
       let B:=tellB (ent M) κ
       match canB cl (ent M) κ with
       |true=>agF (ent M) κ (ovB (n.mh n.init) B) F (n.sh n.init) (agL B (ovB (n.mh n.init) B)∧n.inv n.init∧ ∀s,n.inv s→
          mark (setL N (keepF (assigned x) F) (n.sh s)) (memOf 0 (ovB (n.mh s) B)) fun F M=>evCode P dl sg Gl Γ N cl L cuts x pos r F M nx fun e F' M' nx'=>
            match e with
            | .normal=>
              match prep2 N n.rt n.nc F' M' nx' with
              |none=>False
              |some (F',M')=>
              match rootsOf F' n.rt with
              |some l'=>
               match canB cl (ent M') (kap (ent M') L l') with
               |true=> ∃s',agF (ent M') (kap (ent M') L l') (ovB (n.mh s') B) F' (n.sh s') (agL (tellB (ent M') (kap (ent M') L l')) (ovB (n.mh s') B)∧n.inv s'∧n.μ s'<n.μ s)
               |false=>False
              |none=>False
            |e=>K e F' M' nx')
       |false=>False
      |none=>False
  | .exit id,_,_,F,M,nx,K=>K (.exit id) F M nx
  | .ret,_,_,F,M,nx,K=>K .ret F M nx
  |_,_,_,_,_,_,_=>False
def evRes (P:Program) (F:Fr) (M:Mem) (K:List SV→Prop):List ResultVar→List SV→Prop
  | [],acc=>K acc.reverse
  | .tmp t::r,acc=>evRes P F M K r (look F t::acc)
  | .cell ad T::r,acc=>(evLoad P T (look F ad) (ent M)).run fun s=>evRes P F M K r (s::acc)
def outS (m:Nat→Ent) (κ:List Nat):SV→SV
  | .ptr k s p i j=>match idx κ k with|some _=>mref (tellφ m κ) false (.ptr k s p i j)|none=>ro false 12 m κ (.ptr k s p i j)
  | .pe k s p i j n z=>match idx κ k with|some _=>mref (tellφ m κ) false (.pe k s p i j n z)|none=>ro false 12 m κ (.pe k s p i j n z)
  | .slc k s p e n=>match idx κ k with|some _=>mref (tellφ m κ) false (.slc k s p e n)|none=>ro false 12 m κ (.slc k s p e n)
  | .sa k s p i j n=>match idx κ k with|some _=>mref (tellφ m κ) false (.sa k s p i j n)|none=>ro false 12 m κ (.sa k s p i j n)
  | .ag n f=> .ag n fun j=>outS m κ (f j)
  | .tp n f=> .tp n fun j=>outS m κ (f j)
  | .fn id n f=> .fn id n fun j=>outS m κ (f j)
  | .bm id s=> .bm id (outS m κ s)
  | .mv nm s=> .mv nm (outS m κ s)
  | .ic t s=> .ic t (outS m κ s)
  |s=>s
def nilEnd (mem':List Blk):List SV→List SV→Mem→Nat→Option (List SV×Mem)
  |s::r,t::q,M,nx=>
   match t with
   | .slc k _ none _ _=>
     match mem'[k]? with
     |some (.row sz _ _)=>match ownNil M nx sz s with|some x=>(match nilEnd mem' r q x.2 (nx+1) with|some y=>some (x.1::y.1,y.2)|none=>none)|none=>none
     |_=>none
   |_=>match nilEnd mem' r q M nx with|some y=>some (s::y.1,y.2)|none=>none
  |l,_,M,_=>some (l,M)
def resL (n:Nat) (res:SV):List SV:=match n,res with|1,r=> [r]|n,.tp _ f=>(List.range n).map f|_,_=> []
def evEnd0 (cl:List Nat) (L:List Nat) (M:Mem) (res:SV) (mem':List Blk) (l:List SV):Prop:=
  let κ:=(kap (ent M) L (l.flatMap refsS)).take mem'.length
  match canB cl (ent M) κ with
  |true=>(match l with| [s]=>agV (outS (ent M) κ s) res|l=>agV (.tp l.length (lsv (l.map fun s=>outS (ent M) κ s))) res)∧agL (tellB (ent M) κ) mem'
  |false=>False
def evEnd (cl:List Nat) (L:List Nat) (M:Mem) (nx:Nat) (res:SV) (mem':List Blk) (l:List SV):Prop:=
  match nilEnd mem' l (resL l.length res) M nx with
  |some x=>evEnd0 cl L x.2 res mem' x.1
  |none=>False
def argF:Nat→List SV→Fr
  |_,[]=> []
  |i,s::r=>(i,s)::argF (i+1) r
def clOf (mem:List Blk):List Nat:=(List.range mem.length).filter fun k=>match mem[k]? with|some (.cells _)=>true|_=>false
def isDec:List An→Option (List Nat)
  | []=>none
  | .dec::_=>some []
  | .decs l::_=>some l
  |_::r=>isDec r
def unDec:List An→List An
  | []=> []
  | .dec::r=>unDec r
  | .decs _::r=>unDec r
  | .cut _ _::r=>unDec r
  |a::r=>a::unDec r
def cutsOf:List An→Nat→Option Cut
  | [],_=>none
  | .cut k c::r,n=>match Nat.beq k n with|true=>some c|false=>cutsOf r n
  |_::r,n=>cutsOf r n
def evBody (P:Program) (sg:Bool) (Gl:Nat→SV) (Γ:Table) (fn:Func) (args:List SV) (mem:List Blk) (an:List An) (res:SV) (mem':List Blk):Prop:=
  match fn.body with
  |some c=>match Nat.ble args.length fn.ntmps with
   |false=>False
   |true=>evCode P (isDec an) sg Gl Γ fn.ntmps (clOf mem) (headsL (ent (memOf 0 mem)) mem.length) (cutsOf an) c 0 (unDec an) (argF 0 args) (memOf 0 mem) 100 fun e F M nx=>
    match e with
    | .exit _=>False
    |_=>evRes P F M (evEnd (clOf mem) (headsL (ent (memOf 0 mem)) mem.length) M nx res mem') fn.results.toList []
  |none=>False
section
variable {P:Program} {w:World} {ω:Ow} {Gl:Nat→SV} {Γ:Table} {N:Nat} {F:Fr} {M:Mem} {a:Act} {cl:List Nat} {L:List Nat}
structure Rel (cl:List Nat) (w1:World) (ω1:Ow) (M1:Mem) (w:World) (ω:Ow) (M:Mem):Prop where
  bare:Ext w1 ω1.bare w ω.bare
  lent: ∀k∈cl,(ent M k).rs=0→(ent M1 k).rs=0∧ ∀L,ω1.β k none=some L→ω.β k none=some L
theorem Rel.refl (w:World) (ω:Ow) (M:Mem):Rel cl w ω M w ω M:=⟨Ext.refl _ _,fun _ _ h=>⟨h,fun _ h=>h⟩⟩
theorem Rel.trans {w1 w2 w3:World} {ω1 ω2 ω3:Ow} {M1 M2 M3:Mem} (h:Rel cl w1 ω1 M1 w2 ω2 M2) (k:Rel cl w2 ω2 M2 w3 ω3 M3):Rel cl w1 ω1 M1 w3 ω3 M3:=
  ⟨h.bare.trans k.bare,fun q hq h0=>let ⟨e1,e2⟩:=k.lent q hq h0;let ⟨e3,e4⟩:=h.lent q hq e1;⟨e3,fun L hL=>e2 L (e4 L hL)⟩⟩
theorem Rel.of {w1:World} {ω1:Ow} {M1:Mem} (h1:MemOK w1 ω1 M1) (h2:MemOK w ω M) (he:Ext w1 ω1 w ω):Rel cl w1 ω1 M1 w ω M:=by
  refine ⟨he.bare,fun k _ h0=>?_⟩
  have hm:=(he.mono k).1
  rw [h1.cur,h2.cur] at hm
  have hm:(ent M1 k).rs≤(ent M k).rs:=hm
  refine ⟨by omega,fun L hL=>he.lab k none L hL ?_⟩
  rw [h1.cur,h2.cur]
  show (ent M k).rs=(ent M1 k).rs
  omega
def DoneC (P:Program) (Gl:Nat→SV) (N:Nat) (cl:List Nat) (S:List Nat) (a0:Act) (w1:World) (ω1:Ow) (M1:Mem) (K:Fr→Mem→Nat→Prop) (a:Act) (w:World):Prop:=
  ∃ω F M nx,St P Gl N F M a w ω∧Rel cl w1 ω1 M1 w ω M∧Keep S a0 a∧K F M nx
theorem DoneC.weaken {S S':List Nat} {a0 a1:Act} {w1 w2:World} {ω1 ω2:Ow} {M1 M2:Mem} {K K':Fr→Mem→Nat→Prop} {a:Act} {w:World} (h:DoneC P Gl N cl S a1 w2 ω2 M2 K a w)
    (hS: ∀i∈S,i∈S') (hk:Keep S' a0 a1) (hg:Rel cl w1 ω1 M1 w2 ω2 M2) (hK: ∀F M nx,K F M nx→K' F M nx):DoneC P Gl N cl S' a0 w1 ω1 M1 K' a w:=by
  obtain ⟨ω,F,M,nx,h1,h2,h3,h4⟩:=h
  exact ⟨ω,F,M,nx,h1,hg.trans h2,hk.trans (h3.mono hS),hK _ _ _ h4⟩
def QQ (P:Program) (Gl:Nat→SV) (N:Nat) (cl:List Nat) (S:List Nat) (a0:Act) (w1:World) (ω1:Ow) (M1:Mem) (K:KK):Exit→Act→World→Prop
  | .normal,a,w=>DoneC P Gl N cl S a0 w1 ω1 M1 (K .normal) a w
  | .exit id,a,w=>DoneC P Gl N cl S a0 w1 ω1 M1 (K (.exit id)) a w
  | .ret,a,w=>DoneC P Gl N cl S a0 w1 ω1 M1 (K .ret) a w
  |_,_,_=>False
theorem QQ.weaken {S S':List Nat} {a0 a1:Act} {w1 w2:World} {ω1 ω2:Ow} {M1 M2:Mem} {K:KK} (hS: ∀i∈S,i∈S') (hk:Keep S' a0 a1) (hg:Rel cl w1 ω1 M1 w2 ω2 M2):
    ∀e a w,QQ P Gl N cl S a1 w2 ω2 M2 K e a w→QQ P Gl N cl S' a0 w1 ω1 M1 K e a w
  | .normal,_,_,h=>DoneC.weaken h hS hk hg fun _ _ _ h=>h
  | .exit _,_,_,h=>DoneC.weaken h hS hk hg fun _ _ _ h=>h
  | .ret,_,_,h=>DoneC.weaken h hS hk hg fun _ _ _ h=>h
  | .goto _,_,_,h=>h
  | .panic _,_,_,h=>h
  | .outgrown,_,_,h=>h
theorem Rel.congr {w1:World} {ω1:Ow} {M1 M':Mem} (h:Rel cl w1 ω1 M1 w ω M) (hM: ∀k,ent M' k=ent M k):Rel cl w1 ω1 M1 w ω M':=⟨h.bare,fun k hk h0=>h.lent k hk (by rw [←hM];exact h0)⟩
theorem Rel.congr1 {w1:World} {ω1:Ow} {M1 M':Mem} (h:Rel cl w1 ω1 M' w ω M) (hM: ∀k,ent M' k=ent M1 k):Rel cl w1 ω1 M1 w ω M:=⟨h.bare,fun k hk h0=>by rw [←hM];exact h.lent k hk h0⟩
theorem QQ.congr {S:List Nat} {a0:Act} {w1:World} {ω1:Ow} {M1 M':Mem} {K:KK} (hM: ∀k,ent M' k=ent M1 k): ∀e a w,QQ P Gl N cl S a0 w1 ω1 M' K e a w→QQ P Gl N cl S a0 w1 ω1 M1 K e a w:=by
  have key: ∀{K:Fr→Mem→Nat→Prop} {a w},DoneC P Gl N cl S a0 w1 ω1 M' K a w→DoneC P Gl N cl S a0 w1 ω1 M1 K a w:=fun ⟨ω,F,M,nx,h1,h2,h3,h4⟩=>⟨ω,F,M,nx,h1,h2.congr1 hM,h3,h4⟩
  intro e a w h
  cases e with
  |normal=>exact key h
  |exit i=>exact key h
  |ret=>exact key h
  |goto l=>exact h
  |panic c=>exact h
  |outgrown=>exact h
theorem closed_bare {s:SV}: ∀{u:Value},closedB s=true→Den w ω s u→Den w ω.bare s u:=by
  induction s with
  |ptr _ _ _ _ _=>intro u h;cases h
  |pe _ _ _ _ _ _ _=>intro u h;cases h
  |slc _ _ _ _ _=>intro u h;cases h
  |sa _ _ _ _ _ _=>intro u h;cases h
  |ag n f ih=>
   intro u h hd
   obtain ⟨cs,rfl,hs,hj⟩:=hd
   exact ⟨cs,rfl,hs,fun j hjn=>let ⟨x,h1,h2⟩:=hj j hjn;⟨x,h1,ih j (List.all_eq_true.1 h j (List.mem_range.2 hjn)) h2⟩⟩
  |tp n f ih=>
   intro u h hd
   obtain ⟨cs,rfl,hs,hj⟩:=hd
   exact ⟨cs,rfl,hs,fun j hjn=>let ⟨x,h1,h2⟩:=hj j hjn;⟨x,h1,ih j (List.all_eq_true.1 h j (List.mem_range.2 hjn)) h2⟩⟩
  |fn id n f ih=>
   intro u h hd
   obtain ⟨cs,rfl,hs,hj⟩:=hd
   exact ⟨cs,rfl,hs,fun j hjn=>let ⟨x,h1,h2⟩:=hj j hjn;⟨x,h1,ih j (List.all_eq_true.1 h j (List.mem_range.2 hjn)) h2⟩⟩
  |bm id s ih=>intro u h hd;obtain ⟨x,rfl,hx⟩:=hd;exact ⟨x,rfl,ih h hx⟩
  |mv nm s ih=>intro u h hd;obtain ⟨x,rfl,hx⟩:=hd;exact ⟨x,rfl,ih h hx⟩
  |ic t s ih=>intro u h hd;obtain ⟨x,rfl,hx⟩:=hd;exact ⟨x,rfl,ih h hx⟩
  |_=>intro u _ hd;exact hd
theorem keepF_look (l:List Nat): ∀(F:Fr) (i:Nat),look (keepF l F) i= .junk∨(look (keepF l F) i=look F i∧closedB (look F i)=true∧i∉l)
  | [],_=> .inl rfl
  |p::r,i=>by
   simp only [keepF,List.map_cons,look]
   cases hb:Nat.beq p.1 i with
   |false=>exact keepF_look l r i
   |true=>
    have e:=Nat.eq_of_beq_eq_true hb
    subst e
    cases h1:inL l p.1 with
    |true=>exact .inl rfl
    |false=>
     cases h2:closedB p.2 with
     |false=>exact .inl rfl
     |true=>exact .inr ⟨rfl,rfl,fun hm=>by rw [inL_iff.2 hm] at h1;cases h1⟩
theorem setL_ok {w':World} {ω':Ow} {t':Array Value}: ∀(l:List (Nat×SV)) {F:Fr},FrOK w' ω' N F t'→(∀p∈l,∀u,t'[p.1]? =some u→Den w' ω' p.2 u)→FrOK w' ω' N (setL N F l) t'
  | [],_,h,_=>h
  |p::r,F,h,hp=>by
   refine setL_ok r ?_ fun q hq=>hp q (by simp [hq])
   cases hlt:Nat.blt p.1 N with
   |true=>
    have e:putF N F (some p.1) p.2=(p.1,p.2)::F:=by simp only [putF,hlt]
    rw [e]
    exact h.tell (Nat.le_of_ble_eq_true hlt) (hp p (by simp))
   |false=>
    have e:putF N F (some p.1) p.2=F:=by simp only [putF,hlt]
    rw [e];exact h
theorem agF_spec {m:Nat→Ent} {κ:List Nat} {B:List Blk}: ∀{l:List (Nat×SV)} {R:Prop},agF m κ B F l R→(∀p∈l,agH m κ B (look F p.1) p.2)∧R
  | [],_,h=>⟨fun p hp=>by simp at hp,h⟩
  |p::r,_,⟨h1,h2⟩=>by
   obtain ⟨h3,h4⟩:=agF_spec h2
   refine ⟨fun q hq=>?_,h4⟩
   rcases List.mem_cons.1 hq with rfl|hq
   · exact h1
   · exact h3 q hq
theorem canB_spec {m:Nat→Ent} {κ:List Nat} (h:canB cl m κ=true):κ.Nodup∧(∀k∈κ,whole (m k)=true)∧ ∀k∈cl,κ[k]? =some k∧(m k).rs=0:=by
  unfold canB at h
  split at h
  · next h1 h2 h3=>
    refine ⟨nodupB_ok h1,fun k hk=>List.all_eq_true.1 h2 k hk,fun k hk=>?_⟩
    have:=List.all_eq_true.1 h3 k hk
    rw [Bool.and_eq_true] at this
    refine ⟨?_,Nat.eq_of_beq_eq_true this.2⟩
    have h4:=this.1
    unfold stays at h4
    split at h4
    · next k' hk'=>rw [hk',Nat.eq_of_beq_eq_true h4]
    · cases h4
  · cases h
theorem St.tell' (h:St P Gl N F M a w ω) {κ:List Nat} {B:List Blk} (hc:canB cl (ent M) κ=true) (ha:agL (tellB (ent M) κ) B):
    MemOK w (tellω ω κ B) (memOf 0 B)∧Rel cl w ω M w (tellω ω κ B) (memOf 0 B):=by
  obtain ⟨h1,h2,h3⟩:=canB_spec hc
  refine ⟨tell_ok h.mem h1 h2 ha,tell_bare _ _,fun k hk _=>⟨(h3 k hk).2,fun L hL=>?_⟩⟩
  rw [tell_none (k:=k) (h3 k hk).1]
  exact hL
theorem agH_den (hm:MemOK w ω M) {κ:List Nat} {B:List Blk} {x y:SV} {u:Value} (h:agH (ent M) κ B x y) (hd:Den w ω x u):Den w (tellω ω κ B) y u:=by
  unfold agH at h
  split at h
  · next k' s' ij' e' n'=>
    split at h
    · next k s ij e n=>
      split at h
      · next q hq hok hs0=>
        split at h
        · next hqk=>
          obtain rfl:=Nat.eq_of_beq_eq_true hqk
          obtain rfl:=Nat.eq_of_beq_eq_true hs0
          obtain ⟨hr,h1,h2,rfl,rfl⟩:=h
          have hr:=inRP_B hr
          obtain ⟨i,j⟩:=ij
          obtain ⟨i',j'⟩:=ij'
          have h1:i=i':=h1
          have h2:j=j':=h2
          subst h1 h2
          have e0:=okRef_st hm hok
          rcases hd with hd|⟨_,p,cap,y1,y2,y3,y4⟩
          · omega
          exact .inr ⟨rfl,p,cap,y1,y2,y3,by rw [tell_some (idx_get hq) hr];exact y4⟩
        · exact h.elim
      · exact h.elim
    · exact agV_den h (tell_den hm _ _ hd)
  · exact agV_den h (tell_den hm _ _ hd)
theorem head_ok {a1:Act} {w1:World} {ω1:Ow} {M1:Mem} {F1:Fr} (h1:St P Gl N F1 M1 a1 w1 ω1) (h:St P Gl N F M a w ω) {S:List Nat} (hr:Rel cl w1 ω1 M1 w ω M) (hk:Keep S a1 a)
    {κ:List Nat} {B:List Blk} {sh:List (Nat×SV)} (hc:canB cl (ent M) κ=true) (ha:agL (tellB (ent M) κ) B) (hs: ∀p∈sh,agH (ent M) κ B (look F p.1) p.2):
    ∃ω',St P Gl N (setL N (keepF S F1) sh) (memOf 0 B) a w ω'∧Rel cl w1 ω1 M1 w ω' (memOf 0 B):=by
  obtain ⟨hm,hrel⟩:=h.tell' hc ha
  have hr':=hr.trans hrel
  refine ⟨_,⟨?_,fun g=>Den.ext (o:=ω.bare) (tell_bare _ _) (h.globs g),hm,h.defers⟩,hr'⟩
  refine setL_ok _ ⟨h.frame.size,fun i u hu=>?_,fun i hi=>?_⟩ ?_
  · rcases keepF_look S F1 i with e|⟨e,hcl,hni⟩
    · rw [e];trivial
    · rw [e]
      have hu':a1.tmps[i]? =some u:=by rw [←hk.2 i hni];exact hu
      exact (Den.ext (o:=ω1.bare) hr'.bare (closed_bare hcl (h1.frame.den i u hu'))).up
  · rcases keepF_look S F1 i with e|⟨e,_,_⟩
    · exact e
    · rw [e];exact h1.frame.out i hi
  · intro p hp u hu
    exact agH_den h.mem (hs p hp) (h.frame.den p.1 u hu)
theorem isNilSl_den {s:SV} {u:Value} (h:isNilSl s=true) (hd:Den w ω s u): ∃p,u= .slice p 0 0:=by
  unfold isNilSl at h
  split at h
  · exact ⟨none,hd⟩
  · exact hd
  · cases h
theorem ownNil_ok (hm:MemOK w ω M) {nx sz:Nat} {s s':SV} {M':Mem} {u:Value} (hd:Den w ω s u) (h:ownNil M nx sz s=some (s',M')):Den w ω s' u∧MemOK w ω M'∧Rel cl w ω M w ω M':=by
  unfold ownNil at h
  split at h
  · next hn=>
    split at h
    · next hf=>
      simp only [Option.some.injEq,Prod.mk.injEq] at h
      obtain ⟨rfl,rfl⟩:=h
      obtain ⟨pn,hu⟩:=isNilSl_den hn hd
      have hst:=Stp.dummy hm (freeB_free hm hf) sz 0 (fun _ _=> .junk)
      refine ⟨?_,hst.mem,Rel.of hm hst.mem hst.ext⟩
      subst hu
      exact .inr ⟨by rw [hm.cur];rfl,pn,0,rfl,Nat.le_refl _,Nat.zero_le _,.inl rfl⟩
    · cases h
  · simp only [Option.some.injEq,Prod.mk.injEq] at h
    obtain ⟨rfl,rfl⟩:=h
    exact ⟨hd,hm,Rel.refl _ _ _⟩
theorem prep_ok: ∀{rt:List (Nat×Nat)} {F F':Fr} {M M':Mem} {nx:Nat},St P Gl N F M a w ω→prep N rt F M nx=some (F',M')→St P Gl N F' M' a w ω∧Rel cl w ω M w ω M'
  | [],F,F',M,M',nx,h,he=>by
    simp only [prep,Option.some.injEq,Prod.mk.injEq] at he
    obtain ⟨rfl,rfl⟩:=he
    exact ⟨h,Rel.refl _ _ _⟩
  |d::r,F,F',M,M',nx,h,he=>by
   unfold prep at he
   split at he
   · next p hp hlt=>
     have hlt:d.1<N:=Nat.le_of_ble_eq_true hlt
     obtain ⟨p1,p2⟩:=p
     have hx:d.1<a.tmps.size:=by rw [h.frame.size];exact hlt
     obtain ⟨g1,g2,g3⟩:=ownNil_ok (cl:=cl) h.mem (h.frame.den d.1 a.tmps[d.1] (by simp [hx])) hp
     have h':St P Gl N ((d.1,p1)::F) p2 a w ω:=⟨h.frame.tell hlt (fun u hu=>by
       have:a.tmps[d.1]? =some a.tmps[d.1]:=by simp [hx]
       obtain rfl:=Option.some.inj (this.symm.trans hu)
       exact g1),h.globs,g2,h.defers⟩
     obtain ⟨k1,k2⟩:=prep_ok h' he
     exact ⟨k1,g3.trans k2⟩
   · cases he
theorem prepC_ok: ∀{nc:List (Nat×Nat×Nat)} {M M':Mem} {nx:Nat},St P Gl N F M a w ω→prepC nc F M nx=some M'→St P Gl N F M' a w ω∧Rel cl w ω M w ω M'
  | [],M,M',nx,h,he=>by
    obtain rfl:=Option.some.inj he
    exact ⟨h,Rel.refl _ _ _⟩
  |d::r,M,M',nx,h,he=>by
   unfold prepC at he
   split at he
   · next k s i j hl=>
     split at he
     · next l hok hhl hb=>
       split at he
       · next hil hnil hf=>
         have hfree:=freeB_free h.mem hf
         have hst:=Stp.dummy h.mem hfree d.2.2 0 (fun _ _=> .junk)
         have hne:nx≠k:=by
           intro e;subst e
           have:=hfree.1
           rw [hb] at this;cases this
         have hek:ent (fresh M nx (.row d.2.2 0 fun _ _=> .junk)) k=⟨(ent M k).rs,(ent M k).ds,none,.cells l⟩:=by
           unfold fresh;rw [ent_ne hne]
           cases he:ent M k;rw [he] at hhl hb;subst hhl;subst hb;rfl
         have hilj: ∀j,isIl (lsv l j)=false:=fun j=>by
           unfold lsv
           rw [List.getD_eq_getElem?_getD]
           cases hj:l[j]? with
           |none=>rfl
           |some y=>have:=List.all_eq_true.1 hil y (List.mem_of_getElem? hj);simpa using this
         have hcur:(ent M nx).rs=st ω.cur nx none:=by rw [h.mem.cur];rfl
         have hm2:=MemOK.retell hst.mem hek rfl (l':=l.set d.2.1 (.slc nx (ent M nx).rs none 0 0)) (by simp) (fun L hL c T hc j hj x hx hd=>by
           by_cases hjd:j=d.2.1
           · have e:lsv (l.set d.2.1 (.slc nx (ent M nx).rs none 0 0)) j= .slc nx (ent M nx).rs none 0 0:=by
               rw [←hjd];unfold lsv;simp [List.getD_eq_getElem?_getD,hj]
             rw [e]
             obtain ⟨pn,hu⟩:=isNilSl_den hnil (by rw [←hjd];exact hd)
             subst hu
             exact ⟨rfl,.inr ⟨hcur,pn,0,rfl,Nat.le_refl _,Nat.zero_le _,.inl rfl⟩⟩
           · have e:lsv (l.set d.2.1 (.slc nx (ent M nx).rs none 0 0)) j=lsv l j:=by
               unfold lsv;simp [List.getD_eq_getElem?_getD,Ne.symm hjd]
             rw [e]
             exact ⟨hilj j,hd⟩) hilj
         have h':St P Gl N F ((k,⟨(ent M k).rs,(ent M k).ds,none,.cells (l.set d.2.1 (.slc nx (ent M nx).rs none 0 0))⟩)::fresh M nx (.row d.2.2 0 fun _ _=> .junk)) a w ω:=⟨h.frame,h.globs,hm2,h.defers⟩
         obtain ⟨k1,k2⟩:=prepC_ok h' he
         exact ⟨k1,(Rel.of h.mem hm2 (Ext.refl _ _)).trans k2⟩
       · exact prepC_ok h he
       · cases he
     · cases he
   · cases he
theorem prep2_ok {rt:List (Nat×Nat)} {nc:List (Nat×Nat×Nat)} {F F':Fr} {M M':Mem} {nx:Nat} (h:St P Gl N F M a w ω) (he:prep2 N rt nc F M nx=some (F',M')):St P Gl N F' M' a w ω∧Rel cl w ω M w ω M':=by
  unfold prep2 at he
  split at he
  · next x hx=>
    split at he
    · next M1 hM1=>
      simp only [Option.some.injEq,Prod.mk.injEq] at he
      obtain ⟨rfl,rfl⟩:=he
      obtain ⟨g1,g2⟩:=prep_ok (cl:=cl) h hx
      obtain ⟨g3,g4⟩:=prepC_ok (cl:=cl) g1 hM1
      exact ⟨g3,g2.trans g4⟩
    · cases he
  · cases he
theorem evCode_ok (hS:Sound P Gl Γ) {dl:Option (List Nat)} {sg:Bool} {cuts:Nat→Option Cut}: ∀(c:Code) (pos:Nat) (an:List An) (F:Fr) (M:Mem) (nx:Nat) (a:Act) (w:World) (ω:Ow) (K:KK),
    St P Gl N F M a w ω→evCode P dl sg Gl Γ N cl L cuts c pos an F M nx K→c.wp P (QQ P Gl N cl (assigned c) a w ω M K) a w:=by
  intro c
  induction c with
  |skip=>intro pos an F M nx a w ω K h he;exact wp_skip ⟨ω,F,M,nx,h,Rel.refl _ _ _,Keep.refl _ _,he⟩
  |region id ops draw=>
   intro pos an F M nx a w ω K h he
   have hd: ∀o∈ops.toList,∀t,o.dst=some t→t∈assigned (.region id ops draw):=by
     intro o ho t ht
     simp only [assigned,List.mem_filterMap]
     exact ⟨o,ho,ht⟩
   cases draw with
   |false=>
    simp only [evCode] at he
    refine wp_region_list (evOps_ok hS (Q:=QQ P Gl N cl (assigned (.region id ops false)) a w ω M K) (S:=assigned (.region id ops false)) (a0:=a) (w1:=w) (ω1:=ω) ?_ ops.toList F M nx [] a w ω hd h (fun x hx=>by cases hx) (Ext.refl _ _) (Keep.refl _ _) he)
    rintro a' w' ⟨ω',F',M',nx',g1,g2,g3,g4⟩
    exact ⟨ω',F',M',nx',g1,Rel.of h.mem g1.mem g2,g3,g4⟩
   |true=>
    simp only [evCode] at he
    refine draw_ok hS (Q:=QQ P Gl N cl (assigned (.region id ops true)) a w ω M K) (S:=assigned (.region id ops true)) (fun _ _ _ _ _ h=>h.elim) ?_ hd h he
    rintro a' w' ⟨ω',F',M',nx',g1,g2,g3,g4⟩
    exact ⟨ω',F',M',nx',g1,Rel.of h.mem g1.mem g2,g3,g4⟩
  |seq x y ihx ihy=>
   intro pos an F M nx a w ω K h he
   simp only [evCode] at he
   have sub1: ∀i∈assigned x,i∈assigned (.seq x y):=fun i hi=>by simp [assigned,hi]
   have sub2: ∀i∈assigned y,i∈assigned (.seq x y):=fun i hi=>by simp [assigned,hi]
   split at he
   next hcut=>
     refine wp_seq (wp_mono (ihx _ _ F M nx a w ω _ h he) ?_)
     intro e a1 w1 hq
     cases e with
     |normal=>
      obtain ⟨ω1,F1,M1,nx1,h1,g1,k1,hK1⟩:=hq
      exact wp_mono (ihy _ _ F1 M1 nx1 a1 w1 ω1 K h1 hK1) (QQ.weaken sub2 (k1.mono sub1) g1)
     |exit id=>exact DoneC.weaken hq sub1 (Keep.refl _ _) (Rel.refl _ _ _) (fun _ _ _ h=>h)
     |ret=>exact DoneC.weaken hq sub1 (Keep.refl _ _) (Rel.refl _ _ _) (fun _ _ _ h=>h)
     |goto l=>exact hq
     |panic ch=>exact hq
     |outgrown=>exact hq
   next c hcut=>
   obtain ⟨he1,he2⟩:=he
   refine wp_seq (wp_mono (ihx _ _ F M nx a w ω _ h he1) ?_)
   intro e a1 w1 hq
   cases e with
   |normal=>
    obtain ⟨ω1,F1,M1,nx1,h1,g1,k1,hK1⟩:=hq
    simp only at hK1
    split at hK1
    · exact hK1.elim
    · next F2 M2 hp=>
      obtain ⟨h2,g2⟩:=prep2_ok (cl:=cl) h1 hp
      split at hK1
      · next l' hl=>
        split at hK1
        · next hcan=>
          obtain ⟨hs,ha,hinv⟩:=agF_spec hK1
          obtain ⟨ω3,h3,g3⟩:=head_ok h h2 (g1.trans g2) k1 hcan ha hs
          obtain ⟨F4,M4,hF4,hM4,he4⟩:=mark_spec (he2 _ hinv)
          exact wp_mono (ihy _ _ _ _ nx a1 w1 ω3 K (h3.congr hF4 hM4) he4) (QQ.weaken sub2 (k1.mono sub1) (g3.congr hM4))
        · exact hK1.elim
      · exact hK1.elim
   |exit id=>exact DoneC.weaken hq sub1 (Keep.refl _ _) (Rel.refl _ _ _) (fun _ _ _ h=>h)
   |ret=>exact DoneC.weaken hq sub1 (Keep.refl _ _) (Rel.refl _ _ _) (fun _ _ _ h=>h)
   |goto l=>exact hq
   |panic ch=>exact hq
   |outgrown=>exact hq
  |cond c x y ihx ihy=>
   intro pos an F M nx a w ω K h he
   have sub1: ∀i∈assigned x,i∈assigned (.cond c x y):=fun i hi=>by simp [assigned,hi]
   have sub2: ∀i∈assigned y,i∈assigned (.cond c x y):=fun i hi=>by simp [assigned,hi]
   have hc:=h.cx.val c
   simp only [evCode] at he
   split at he
   · next hs=>
     rw [hs] at hc
     exact wp_cond_true hc (wp_mono (ihx _ _ F M nx a w ω K h he) (QQ.weaken sub1 (Keep.refl _ _) (Rel.refl _ _ _)))
   · next hs=>
     rw [hs] at hc
     exact wp_cond_false hc (wp_mono (ihy _ _ F M nx a w ω K h he) (QQ.weaken sub2 (Keep.refl _ _) (Rel.refl _ _ _)))
   · next b hs=>
     rw [hs] at hc
     replace he:(b=true→ ∃F' M',(∀t,look F' t=look F t)∧(∀k,ent M' k=ent M k)∧evCode P dl sg Gl Γ N cl L cuts x pos (an.take (nl x)) F' M' nx K)∧(b=false→ ∃F' M',(∀t,look F' t=look F t)∧(∀k,ent M' k=ent M k)∧evCode P dl sg Gl Γ N cl L cuts y (pos+nr x) (an.drop (nl x)) F' M' nx K):=by
       split at he
       · cases b
         · exact ⟨fun e=>(nomatch e),fun _=>⟨F,M,fun _=>rfl,fun _=>rfl,he⟩⟩
         · exact ⟨fun _=>⟨F,M,fun _=>rfl,fun _=>rfl,he⟩,fun e=>(nomatch e)⟩
       · exact ⟨fun hb=>mark_spec (he.1 hb),fun hb=>mark_spec (he.2 hb)⟩
     refine wp_cond_split (t:=b) hc (fun hb=>?_) (fun hb=>?_)
     · obtain ⟨F',M',hF,hM,hc⟩:=he.1 hb
       exact wp_mono (ihx _ _ F' M' nx a w ω K (h.congr hF hM) hc) (fun e a w hq=>QQ.weaken sub1 (Keep.refl _ _) (Rel.refl _ _ _) e a w (QQ.congr hM e a w hq))
     · obtain ⟨F',M',hF,hM,hc⟩:=he.2 hb
       exact wp_mono (ihy _ _ F' M' nx a w ω K (h.congr hF hM) hc) (fun e a w hq=>QQ.weaken sub2 (Keep.refl _ _) (Rel.refl _ _ _) e a w (QQ.congr hM e a w hq))
   · exact he.elim
  |block id x ih=>
   intro pos an F M nx a w ω K h he
   simp only [evCode] at he
   refine wp_block (wp_mono (ih _ _ F M nx a w ω _ h he) ?_)
   intro e a1 w1 hq
   cases e with
   |normal=>exact hq
   |exit i=>
    show (if i=id then _ else _)
    obtain ⟨ω1,F1,M1,nx1,h1,g1,k1,hK1⟩:=hq
    by_cases hi:i=id
    · rw [if_pos hi]
      subst hi
      have:Nat.beq i i=true:=Nat.beq_refl i
      simp only [this] at hK1
      exact ⟨ω1,F1,M1,nx1,h1,g1,k1,hK1⟩
    · rw [if_neg hi]
      have:Nat.beq i id=false:=by
        cases hb:Nat.beq i id
        · rfl
        · exact absurd (Nat.eq_of_beq_eq_true hb) hi
      simp only [this] at hK1
      exact ⟨ω1,F1,M1,nx1,h1,g1,k1,hK1⟩
   |ret=>exact hq
   |goto l=>exact hq
   |panic ch=>exact hq
   |outgrown=>exact hq
  |loop x ih=>
   intro pos an F M nx a w ω K h he
   simp only [evCode] at he
   generalize resA F an=an at he
   split at he
   · exact he.elim
   · exact he.elim
   · exact he.elim
   · exact he.elim
   · exact he.elim
   · next n r=>
     refine wp_loop_ghost (fun k a' w'=>DoneC P Gl N cl (assigned x) a w ω M (fun F M nx=>iterN (evCode P dl sg Gl Γ N cl L cuts x pos r) K k F M nx) a' w') n ⟨ω,F,M,nx,h,Rel.refl _ _ _,Keep.refl _ _,he⟩ ?_
     rintro k a1 w1 ⟨ω1,F1,M1,nx1,h1,g1,k1,hK1⟩
     cases k with
     |zero=>exact hK1.elim
     |succ k=>
      simp only [iterN] at hK1
      refine wp_mono (ih _ r F1 M1 nx1 a1 w1 ω1 _ h1 hK1) ?_
      intro e a2 w2 hq
      cases e with
      |normal=>exact ⟨k,Nat.lt_succ_self k,DoneC.weaken hq (fun _ h=>h) k1 g1 (fun _ _ _ h=>h)⟩
      |exit id=>exact DoneC.weaken hq (fun _ h=>h) k1 g1 (fun _ _ _ h=>h)
      |ret=>exact DoneC.weaken hq (fun _ h=>h) k1 g1 (fun _ _ _ h=>h)
      |goto l=>exact hq
      |panic ch=>exact hq
      |outgrown=>exact hq
   · next au n0 r=>
     split at he
     · exact he.elim
     next F0 M0 hprep=>
     obtain ⟨hp1,hp2⟩:=prep2_ok (cl:=cl) h hprep
     suffices hgoal:(Code.loop x).wp P (QQ P Gl N cl (assigned x) a w ω M0 K) a w from wp_mono hgoal (QQ.weaken (fun _ h=>h) (Keep.refl _ _) hp2)
     clear h hprep hp2
     have h:=hp1
     clear hp1
     revert he
     generalize autoA au L F0 M0 x n0=n
     generalize F0=F at h⊢
     generalize M0=M at h⊢
     intro he
     split at he
     · next l hl=>
       split at he
       · next hcan=>
         obtain ⟨hag,hagl,hinv,hround⟩:=agF_spec he
         obtain ⟨ω0,hst0,hrel0⟩:=head_ok h h (S:=assigned x) (Rel.refl _ _ _) (Keep.refl _ _) hcan hagl hag
         refine wp_loop_ghost (fun k a' w'=> ∃s ω',n.inv s∧n.μ s=k∧St P Gl N (setL N (keepF (assigned x) F) (n.sh s)) (memOf 0 (ovB (n.mh s) (tellB (ent M) (kap (ent M) L l)))) a' w' ω'∧
             Rel cl w ω M w' ω' (memOf 0 (ovB (n.mh s) (tellB (ent M) (kap (ent M) L l))))∧Keep (assigned x) a a') (n.μ n.init) ⟨n.init,ω0,hinv,rfl,hst0,hrel0,Keep.refl _ _⟩ ?_
         rintro k a1 w1 ⟨s,ω1,hi,rfl,h1,g1,k1⟩
         obtain ⟨F4,M4,hF4,hM4,he4⟩:=mark_spec (hround s hi)
         refine wp_mono (wp_mono (ih _ r _ _ nx a1 w1 ω1 _ (h1.congr hF4 hM4) he4) (QQ.congr hM4)) ?_
         intro e a2 w2 hq
         cases e with
         |normal=>
          obtain ⟨ω2,F2',M2',nx2,h2',g2',k2,hK2⟩:=hq
          simp only at hK2
          split at hK2
          · exact hK2.elim
          next F2 M2 hprep2=>
          obtain ⟨h2,g2''⟩:=prep2_ok (cl:=cl) h2' hprep2
          have g2:=g2'.trans g2''
          split at hK2
          · next l' hl'=>
            split at hK2
            · next hcan'=>
              obtain ⟨s',hs'⟩:=hK2
              obtain ⟨hag',hagl',hinv',hμ⟩:=agF_spec hs'
              obtain ⟨ω3,hst3,hrel3⟩:=head_ok h h2 (S:=assigned x) (g1.trans g2) (k1.trans k2) hcan' hagl' hag'
              exact ⟨n.μ s',hμ,s',ω3,hinv',rfl,hst3,hrel3,k1.trans k2⟩
            · exact hK2.elim
          · exact hK2.elim
         |exit id=>exact DoneC.weaken hq (fun _ h=>h) k1 g1 (fun _ _ _ h=>h)
         |ret=>exact DoneC.weaken hq (fun _ h=>h) k1 g1 (fun _ _ _ h=>h)
         |goto l=>exact hq
         |panic ch=>exact hq
         |outgrown=>exact hq
       · exact he.elim
     · exact he.elim
  |exit id=>intro pos an F M nx a w ω K h he;exact wp_exit ⟨ω,F,M,nx,h,Rel.refl _ _ _,Keep.refl _ _,he⟩
  |ret=>intro pos an F M nx a w ω K h he;exact wp_ret ⟨ω,F,M,nx,h,Rel.refl _ _ _,Keep.refl _ _,he⟩
  |rangeFunc f p as b iha ihb=>intro pos an F M nx a w ω K h he;exact he.elim
  |scope x ih=>intro pos an F M nx a w ω K h he;exact he.elim
  |label l=>intro pos an F M nx a w ω K h he;exact he.elim
  |goto l=>intro pos an F M nx a w ω K h he;exact he.elim
  |refuse s=>intro pos an F M nx a w ω K h he;exact he.elim
/-! ### results, bodies -/
def rvSem (tmps:Array Value):ResultVar→Sem Value
  | .tmp t=>pure (tmps.getD t undef)
  | .cell ad t=>do loadVar t (←asAddr (tmps.getD ad undef))
theorem res_run (hm:MemOK w ω M) (hF:FrOK w ω N F a.tmps): ∀(rs:List ResultVar) (K:List SV→Prop) (acc:List SV) (accv:List Value),DenL w ω acc accv→evRes P F M K rs acc→
    ∃vs l,(rs.mapM (rvSem a.tmps)).run P w= .ok vs w∧DenL w ω l (accv.reverse++vs)∧K l
  | [],K,acc,accv,ha,he=>by
    refine ⟨[],acc.reverse,by simp,?_,he⟩
    rw [List.append_nil]
    have rev: ∀{F:List SV} {l:List Value},DenL w ω F l→DenL w ω F.reverse l.reverse:=by
      intro F
      induction F with
      |nil=>intro l h;cases l with
       |nil=>trivial
       |cons _ _=>exact h.elim
      |cons s r ih=>intro l h;cases l with
       |nil=>exact h.elim
       |cons u t=>rw [List.reverse_cons,List.reverse_cons];exact (ih h.2).append ⟨h.1,trivial⟩
    exact rev ha
  | .tmp t::r,K,acc,accv,ha,he=>by
    have hd:Den w ω (look F t) (a.tmps.getD t undef):=hF.get t
    obtain ⟨vs,l,h1,h2,h3⟩:=res_run hm hF r K (look F t::acc) (a.tmps.getD t undef::accv) ⟨hd,ha⟩ he
    refine ⟨a.tmps.getD t undef::vs,l,?_,by simpa using h2,h3⟩
    simp only [List.mapM_cons,rvSem,Sem.run_bind,Sem.run_pure,Result.andThen_ok,h1]
  | .cell ad T::r,K,acc,accv,ha,he=>by
    have hd:Den w ω (look F ad) (a.tmps.getD ad undef):=hF.get ad
    simp only [evRes] at he
    obtain ⟨s,v,p,e,hr,hs,hK⟩:=load_core hm hd he
    obtain ⟨vs,l,h1,h2,h3⟩:=res_run hm hF r K (s::acc) (v::accv) ⟨hs,ha⟩ hK
    refine ⟨v::vs,l,?_,by simpa using h2,h3⟩
    have ha:(asAddr (a.tmps.getD ad undef)).run P w= .ok p w:=by rw [e];rfl
    simp only [List.mapM_cons,rvSem,Sem.run_bind,ha,Sem.run_pure,Result.andThen_ok,hr,h1]
theorem single_or {l:List SV} {vs:List Value} (h:DenL w ω l vs):(∃s v,l= [s]∧vs= [v]∧Den w ω s v)∨((∀s,l≠ [s])∧vs.length≠1):=by
  match l,vs,h with
  | [],[],_=>exact .inr ⟨by simp,by simp⟩
  | [s],[v],⟨h,_⟩=>exact .inl ⟨s,v,rfl,rfl,h⟩
  |_::_::_,_::_::_,_=>exact .inr ⟨by simp,by simp⟩
def Ow.less (o:Ow):Ow:=⟨fun b=> ∃k p L,o.β k p=some L∧L.b=b,o.Z,o.β,o.cur⟩
theorem less_ext (hm:MemOK w ω M):Ext w ω w ω.less:=⟨rfl,rfl,rfl,fun _ _ _=>rfl,fun b _ h h'=>h (hm.own b h'),fun _ _ _ h=>h,Nat.le_refl _,fun _=>⟨Nat.le_refl _,Nat.le_refl _⟩,fun _ _ _ h _=>h,fun _ h=>h⟩
theorem less_ok (hm:MemOK w ω M):MemOK w ω.less M where
  cur:=hm.cur
  own:=fun _ h=>h
  lowA:=fun b h=>hm.lowA b (hm.own b h)
  dj:=fun b h=>hm.dj b (hm.own b h)
  lowZ:=hm.lowZ
  inj:=hm.inj
  low:=hm.low
  row:=fun k p L hL=>by
    obtain ⟨r,h1,h2,h3,h4⟩:=hm.row k p L hL
    exact ⟨r,h1,h2,h3,RowOK.ext (less_ext hm) rfl (fun _=>rfl) rfl h4⟩
  live:=hm.live
  hol:=hm.hol
theorem out_den (hm:MemOK w ω M) {κ:List Nat} {B:List Blk} (ht:MemOK w (tellω ω κ B) (memOf 0 B)) {s:SV}: ∀{u:Value},Den w ω s u→Den w (tellω ω κ B).less (outS (ent M) κ s) u:=by
  have hb:Ext w ω.bare w (tellω ω κ B).less.bare:=(tell_bare κ B).trans (less_ext ht).bare
  have hin: ∀{s:SV} {u:Value},Den w ω s u→Den w (tellω ω κ B).less (mref (tellφ (ent M) κ) false s) u:=fun hd=>(tell_den hm κ B hd).ext (less_ext ht)
  have hro: ∀{s:SV} {u:Value},Den w ω s u→Den w (tellω ω κ B).less (ro false 12 (ent M) κ s) u:=by
    intro s u hd
    refine (ro_den (ω':=(tellω ω κ B).less) hm ?_ hb (fun _ b h=>hm.dj b h) 12 hd).up
    rintro b ⟨q,p,L,h1,h2⟩
    obtain ⟨k,e1,e2,_⟩:=tell_β h1
    exact ⟨k,List.mem_of_getElem? e1,p,L,e2,h2⟩
  induction s with
  |ptr k s p i j=>intro u hd;simp only [outS];split;exact hin hd;exact hro hd
  |pe k s p i j n z=>intro u hd;simp only [outS];split;exact hin hd;exact hro hd
  |slc k s p e n=>intro u hd;simp only [outS];split;exact hin hd;exact hro hd
  |sa k s p i j n=>intro u hd;simp only [outS];split;exact hin hd;exact hro hd
  |ag n f ih=>intro u hd;obtain ⟨cs,rfl,hs,hj⟩:=hd;exact ⟨cs,rfl,hs,fun j hjn=>let ⟨x,h1,h2⟩:=hj j hjn;⟨x,h1,ih j h2⟩⟩
  |tp n f ih=>intro u hd;obtain ⟨cs,rfl,hs,hj⟩:=hd;exact ⟨cs,rfl,hs,fun j hjn=>let ⟨x,h1,h2⟩:=hj j hjn;⟨x,h1,ih j h2⟩⟩
  |fn id n f ih=>intro u hd;obtain ⟨cs,rfl,hs,hj⟩:=hd;exact ⟨cs,rfl,hs,fun j hjn=>let ⟨x,h1,h2⟩:=hj j hjn;⟨x,h1,ih j h2⟩⟩
  |bm id s ih=>intro u hd;obtain ⟨x,rfl,hx⟩:=hd;exact ⟨x,rfl,ih hx⟩
  |mv nm s ih=>intro u hd;obtain ⟨x,rfl,hx⟩:=hd;exact ⟨x,rfl,ih hx⟩
  |ic t s ih=>intro u hd;obtain ⟨x,rfl,hx⟩:=hd;exact ⟨x,rfl,ih hx⟩
  |pt q n f=>intro u hd;exact Den.ext (o:=ω.bare) (o':=(tellω ω κ B).less.bare) (s:= .pt q n f) hb hd
  |sl q sz n f=>intro u hd;exact Den.ext (o:=ω.bare) (o':=(tellω ω κ B).less.bare) (s:= .sl q sz n f) hb hd
  |pa q sz n f=>intro u hd;exact Den.ext (o:=ω.bare) (o':=(tellω ω κ B).less.bare) (s:= .pa q sz n f) hb hd
  |er t tf e z=>intro u hd;exact Den.ext (o:=ω.bare) (o':=(tellω ω κ B).less.bare) (s:= .er t tf e z) hb hd
  |_=>intro u hd;exact hd
theorem nilEnd_ok {mem':List Blk}: ∀{l t l':List SV} {M M':Mem} {nx:Nat} {vs:List Value},MemOK w ω M→DenL w ω l vs→nilEnd mem' l t M nx=some (l',M')→DenL w ω l' vs∧MemOK w ω M'∧Rel cl w ω M w ω M'
  | [],t,l',M,M',nx,vs,hm,hd,he=>by
    simp only [nilEnd,Option.some.injEq,Prod.mk.injEq] at he
    obtain ⟨rfl,rfl⟩:=he
    exact ⟨hd,hm,Rel.refl _ _ _⟩
  |s::r,[],l',M,M',nx,vs,hm,hd,he=>by
   simp only [nilEnd,Option.some.injEq,Prod.mk.injEq] at he
   obtain ⟨rfl,rfl⟩:=he
   exact ⟨hd,hm,Rel.refl _ _ _⟩
  |s::r,t::q,l',M,M',nx,[],hm,hd,he=>hd.elim
  |s::r,t::q,l',M,M',nx,v::vs,hm,⟨hd1,hd2⟩,he=>by
   unfold nilEnd at he
   split at he
   · split at he
     · split at he
       · next x hx=>
         split at he
         · next y hy=>
           obtain ⟨x1,x2⟩:=x
           simp only [Option.some.injEq,Prod.mk.injEq] at he
           obtain ⟨rfl,rfl⟩:=he
           obtain ⟨g1,g2,g3⟩:=ownNil_ok (cl:=cl) hm hd1 hx
           obtain ⟨k1,k2,k3⟩:=nilEnd_ok g2 hd2 hy
           exact ⟨⟨g1,k1⟩,k2,g3.trans k3⟩
         · cases he
       · cases he
     · cases he
   · split at he
     · next y hy=>
       simp only [Option.some.injEq,Prod.mk.injEq] at he
       obtain ⟨rfl,rfl⟩:=he
       obtain ⟨k1,k2,k3⟩:=nilEnd_ok hm hd2 hy
       exact ⟨⟨hd1,k1⟩,k2,k3⟩
     · cases he
theorem ret_ok (h:St P Gl N F M a w ω) {nx:Nat} {fn:Func} {res:SV} {mem':List Blk} (he:evRes P F M (evEnd cl L M nx res mem') fn.results.toList []):
    ∃v ω',(results fn a.tmps).run P w= .ok v w∧Den w ω' res v∧MemOK w ω' (memOf 0 mem')∧Rel cl w ω M w ω' (memOf 0 mem'):=by
  obtain ⟨vs,l,h1,h2,h3⟩:=res_run (a:=a) h.mem h.frame _ _ [] [] trivial he
  simp only [List.reverse_nil,List.nil_append] at h2
  have hlen:=h2.len
  have hr: ∀v,(v=if h:vs.toArray.size=1 then vs.toArray[0] else .tuple vs.toArray)→(results fn a.tmps).run P w= .ok v w:=by
    intro v hv
    have e:results fn a.tmps=(do let vs←fn.results.mapM (rvSem a.tmps);pure (if h:vs.size=1 then vs[0] else .tuple vs)):=by
      unfold results
      congr 1
    rw [e]
    simp only [Array.mapM_eq_mapM_toList,Sem.run_bind,Sem.run_map,h1,Result.andThen_ok,Sem.run_pure,hv]
  unfold evEnd at h3
  split at h3
  rotate_left
  · exact h3.elim
  next x hx=>
  obtain ⟨l0,M0⟩:=x
  obtain ⟨h2,hm0,hr0⟩:=nilEnd_ok (cl:=cl) h.mem h2 hx
  have hlen:=h2.len
  have h:St P Gl N [] M0 {a with tmps:=Array.replicate N undef} w ω:=⟨⟨by simp,fun i u hu=>trivial,fun i _=>rfl⟩,h.globs,hm0,h.defers⟩
  revert h3 h2 hlen
  generalize l0=l
  intro h3 h2 hlen
  simp only [evEnd0] at h3
  split at h3
  · next hc=>
    revert hc h3
    generalize (kap (ent M0) L (l.flatMap refsS)).take mem'.length=κ
    intro hc h3
    obtain ⟨h4,h5⟩:=h3
    obtain ⟨g1,g2⟩:=h.tell' hc h5
    have hden: ∀{s:SV} {x:Value},Den w ω s x→Den w (tellω ω κ mem').less (outS (ent M0) κ s) x:=fun hd=>out_den h.mem g1 hd
    have g2:=hr0.trans (g2.trans (Rel.of (cl:=cl) g1 (less_ok g1) (less_ext g1)))
    have g1:=less_ok g1
    split at h4
    · next s=>
      rcases single_or h2 with ⟨s',v,e1,rfl,hd'⟩|⟨h6,_⟩
      · obtain rfl:s=s':=by simpa using e1
        exact ⟨v,_,hr v (by simp),agV_den h4 (hden hd'),g1,g2⟩
      · exact absurd rfl (h6 s)
    · next l' hne=>
      refine ⟨.tuple vs.toArray,_,hr _ ?_,agV_den h4 ⟨_,rfl,by simpa using hlen.symm,fun j hj=>?_⟩,g1,g2⟩
      · rw [dif_neg]
        intro e
        rcases single_or h2 with ⟨s,v,rfl,_⟩|⟨_,h6⟩
        · exact hne s rfl
        · exact h6 (by simpa using e)
      · obtain ⟨x,e1,e2⟩:=h2.get? j hj
        refine ⟨x,by simpa using e1,?_⟩
        have:lsv (l.map fun s=>outS (ent M0) κ s) j=outS (ent M0) κ (l.getD j .junk):=by simp [lsv,List.getD_eq_getElem?_getD,hj]
        rw [this]
        exact hden e2
  · exact h3.elim
theorem argF_look: ∀(l:List SV) (k i:Nat),i<l.length→look (argF k l) (k+i)=l.getD i .junk
  | [],_,_,h=>absurd h (by simp)
  |s::r,k,0,_=>by simp [argF,look_eq]
  |s::r,k,i+1,h=>by
   rw [argF,look_ne (by omega),show k+(i+1)=(k+1)+i by omega,argF_look r (k+1) i (by simpa using h)]
   simp
theorem argF_out: ∀(l:List SV) (k i:Nat),k+l.length≤i→look (argF k l) i= .junk
  | [],_,_,_=>rfl
  |s::r,k,i,h=>by
   simp only [List.length_cons] at h
   rw [argF,look_ne (by omega),argF_out r (k+1) i (by omega)]
theorem body_ok (hS:Sound P Gl Γ) {sg:Bool} {f:Nat} {fn:Func} (hf:P.funcs[f]? =some fn) {args:List SV} {mem:List Blk} {an:List An} {res:SV} {mem':List Blk} (he:evBody P sg Gl Γ fn args mem an res mem'):FnC P Gl f args mem res mem':=by
  intro w ω vs hG hm hargs
  unfold evBody at he
  split at he
  · next c hc=>
    refine calls_of_wp hf hc ?_
    split at he
    · exact he.elim
    next hle=>
    have hle:=Nat.le_of_ble_eq_true hle
    have hlen:=hargs.len
    simp at hlen
    have hst:St P Gl fn.ntmps (argF 0 args) (memOf 0 mem) {tmps:=vs++Array.replicate (fn.ntmps -vs.size) undef,defers:= []} w ω:=by
      refine ⟨⟨by simp;omega,?_,?_⟩,hG,hm,rfl⟩
      · intro i u hu
        by_cases hi:i<args.length
        · obtain ⟨x,h1,h2⟩:=hargs.get? i hi
          rw [show look (argF 0 args) i=args.getD i .junk by have:=argF_look args 0 i hi;rwa [Nat.zero_add] at this]
          rw [Array.getElem?_append_left (by omega)] at hu
          have h1:vs[i]? =some x:=by simpa using h1
          obtain rfl:=Option.some.inj (hu.symm.trans h1)
          exact h2
        · rw [argF_out args 0 i (by omega)]
          trivial
      · intro i hi
        exact argF_out args 0 i (by omega)
    refine wp_mono (evCode_ok hS c _ (unDec an) _ _ _ _ w ω _ hst he) ?_
    have fin: ∀{a':Act} {w':World} {ω1:Ow} {F1:Fr} {M1:Mem} {nx1:Nat},St P Gl fn.ntmps F1 M1 a' w' ω1→Rel (clOf mem) w ω (memOf 0 mem) w' ω1 M1→evRes P F1 M1 (evEnd (clOf mem) (headsL (ent (memOf 0 mem)) mem.length) M1 nx1 res mem') fn.results.toList []→
     ∃v,(results fn a'.tmps).run P w'= .ok v w'∧ ∃v' ω',(Ending.returned v)= .returned v'∧Aft w ω w' ω'∧MemOK w' ω' (memOf 0 mem')∧Den w' ω' res v'∧ ∀k l,mem[k]? =some (.cells l)→ω'.β k none=ω.β k none:=by
      intro a' w' ω1 F1 M1 nx1 h1 g1 hK
      obtain ⟨v,ω',hr,hd,hm',hrel⟩:=ret_ok h1 hK
      have hR:=g1.trans hrel
      refine ⟨v,hr,v,ω',rfl,⟨hR.bare.os,hR.bare.tape,hR.bare.output,hR.bare.same,hR.bare.free,hR.bare.zs,hR.bare.size⟩,hm',hd,fun k l hk=>?_⟩
      have hkl:=(List.getElem?_eq_some_iff.1 hk).1
      have hmem:k∈clOf mem:=by
        unfold clOf
        rw [List.mem_filter]
        exact ⟨List.mem_range.2 hkl,by simp [hk]⟩
      obtain ⟨L,hL⟩:=hm.live k l (by rw [memOf_ent,hk])
      have h0:(ent (memOf 0 mem') k).rs=0:=by rw [memOf_ent];split<;>rfl
      rw [(hR.lent k hmem h0).2 L hL,hL]
    intro e a' w' hq
    cases e with
    |normal=>
     obtain ⟨ω1,F1,M1,nx1,h1,g1,k1,hK⟩:=hq
     obtain ⟨v,h2,h3⟩:=fin h1 g1 hK
     exact ⟨h1.defers,v,h2,h3⟩
    |ret=>
     obtain ⟨ω1,F1,M1,nx1,h1,g1,k1,hK⟩:=hq
     obtain ⟨v,h2,h3⟩:=fin h1 g1 hK
     exact ⟨h1.defers,v,h2,h3⟩
    |exit id=>obtain ⟨_,_,_,_,_,_,_,hK⟩:=hq;exact hK.elim
    |goto l=>exact hq.elim
    |panic ch=>exact hq.elim
    |outgrown=>exact hq.elim
  · exact he.elim
end
end Go.Sy
set_option linter.unusedVariables false
set_option linter.unusedSimpArgs false
namespace Go.Sy
open Go.RowKit
def agA:List SV→List SV→Prop
  | [],[]=>True
  |a::r,b::t=>agV a b∧agA r t
  |_,_=>False
theorem agA_den {w:World} {o:Ow}: ∀{l m:List SV} {us:List Value},agA l m→DenL w o l us→DenL w o m us
  | [],[],[],_,h=>h
  |_::_,_::_,_::_,⟨h1,h2⟩,⟨h3,h4⟩=>⟨agV_den h1 h3,agA_den h2 h4⟩
  | [],_::_,_,h,_=>h.elim
  |_::_,[],_,h,_=>h.elim
  | [],[],_::_,_,h=>h.elim
  |_::_,_::_,[],_,h=>h.elim
def inn (mem:List Blk):Nat→Ent:=ent (memOf 0 mem)
theorem FnC.more {P:Program} {Gl:Nat→SV} {f:Nat} {A:List SV} {B:List Blk} {res:SV} {B':List Blk} (h:FnC P Gl f A B res B') {args:List SV} {mem:List Blk}
    (ha:agA (args.map fun s=>mref (tellφ (inn mem) (List.range mem.length)) false s) A) (hb:agL (tellB (inn mem) (List.range mem.length)) B):FnC P Gl f args mem res B':=by
  intro w ω vs hG hm hd
  have hlen:mem.length=B.length:=by have:=agL_len hb;simpa [tellB] using this
  have get: ∀{k:Nat},k<mem.length→(List.range mem.length)[k]? =some k:=fun hk=>List.getElem?_range hk
  have hwh: ∀k∈List.range mem.length,whole (ent (memOf 0 mem) k)=true:=by
    intro k hk
    have hk:=List.mem_range.1 hk
    have e1:(tellB (inn mem) (List.range mem.length))[k]? =some (blkRen (tellφ (inn mem) (List.range mem.length)) false (inn mem k).b):=by
      simp [tellB,hk]
    have hg:=agL_get hb e1 (List.getElem?_eq_getElem (by omega))
    have e2:ent (memOf 0 mem) k=⟨0,0,none,mem[k]⟩:=by rw [memOf_ent,List.getElem?_eq_getElem hk]
    unfold inn at hg
    rw [e2] at hg⊢
    cases hbk:mem[k] with
    |dead=>rw [hbk] at hg;exact hg.elim
    |cells _=>rfl
    |row _ _ _=>rfl
  have ht:=tell_ok hm List.nodup_range hwh hb
  have hden: ∀{s:SV} {x:Value},Den w ω s x→Den w (tellω ω (List.range mem.length) B) (mref (tellφ (ent (memOf 0 mem)) (List.range mem.length)) false s) x:=fun hd=>tell_den hm _ _ hd
  refine (h w (tellω ω (List.range mem.length) B) vs (fun g=>Den.ext (o:=ω.bare) (tell_bare _ _) (hG g)) ht (agA_den ha (hd.map fun s u hs=>hden hs))).mono ?_
  rintro e w' ⟨v,ω',rfl,h1,h2,h3,h4⟩
  refine ⟨v,ω',rfl,⟨h1.os,h1.tape,h1.output,h1.same,h1.free,h1.lent,h1.size⟩,h2,h3,fun k l hk=>?_⟩
  have hkl:=(List.getElem?_eq_some_iff.1 hk).1
  have e1:(tellB (inn mem) (List.range mem.length))[k]? =some (blkRen (tellφ (inn mem) (List.range mem.length)) false (inn mem k).b):=by
    simp [tellB,hkl]
  have hbk:B[k]? =some B[k]:=List.getElem?_eq_getElem (by omega)
  have hg:=agL_get hb e1 hbk
  have e2:inn mem k=⟨0,0,none,.cells l⟩:=by unfold inn;rw [memOf_ent,hk]
  rw [e2] at hg
  cases hB:B[k] with
  |dead=>rw [hB] at hg;exact hg.elim
  |row _ _ _=>rw [hB] at hg;exact hg.elim
  |cells l'=>rw [h4 k l' (by rw [hbk,hB]),tell_none (get hkl)]
def intD:SV→Int| .v (.int _ x)=>x|_=>0
def boolD:SV→Bool| .v (.bool x)=>x| .bl x=>x|_=>false
def agD:SV→Nat→SV| .ag _ f,j=>f j| .tp _ f,j=>f j|_,_=> .junk
def slN:SV→Nat| .sl _ _ n _=>n|_=>0
def slF:SV→Nat→Nat→SV| .sl _ _ _ f,i,j=>f i j|_,_,_=> .junk
def ptF:SV→Nat→SV| .pt _ _ f,j=>f j|_,_=> .junk
def erE:SV→Int| .er _ _ e _=>e| .v (.iface _ (.int _ c))=>c| .ic _ (.pt _ _ f)=>(match f 1 with| .er _ _ c _=>c| .v (.iface _ (.int _ c))=>c|_=>0)|_=>0
def erA:SV→Int| .er _ _ _ z=>z| .ic _ (.pt _ _ f)=>(match f 0 with| .v (.int _ a)=>a|_=>0)|_=> -1
structure Spec where
  X:Type
  args:X→List SV
  mem:X→List Blk
  pre:X→Prop
  res:X→SV
  mem':X→List Blk
  dec:List SV→List Blk→Option X
def Spec.g (s:Spec) (args:List SV) (mem:List Blk):Option (Prop×SV×List Blk):=
  match s.dec args mem with
  |some x=>some (agA (args.map fun s=>mref (tellφ (inn mem) (List.range mem.length)) false s) (s.args x)∧agL (tellB (inn mem) (List.range mem.length)) (s.mem x)∧s.pre x,s.res x,s.mem' x)
  |none=>none
structure FnOK (P:Program) (Gl:Nat→SV) (f:Nat) (c:Con):Prop where
  call: ∀(l:Array Value) (w:World),(callFunc f l).run P w= .ok (.enter f l) w
  fn: ∀args mem pre res mem',c.g args mem=some (pre,res,mem')→pre→FnC P Gl f args mem res mem'
  pj: ∀n,c.pj=some n→ProjC P f n
theorem fnOK_of {P:Program} {Gl:Nat→SV} {f:Nat} {ws:List Bool} {s:Spec} (hc: ∀(l:Array Value) (w:World),(callFunc f l).run P w= .ok (.enter f l) w)
    (h: ∀x,s.pre x→FnC P Gl f (s.args x) (s.mem x) (s.res x) (s.mem' x)):FnOK P Gl f ⟨ws,s.g,none⟩:=by
  refine ⟨hc,fun args mem pre res mem' e hp=>?_,fun n e=>nomatch e⟩
  have e:s.g args mem=some (pre,res,mem'):=e
  unfold Spec.g at e
  split at e
  · next x hx=>
    simp only [Option.some.injEq,Prod.mk.injEq] at e
    obtain ⟨rfl,rfl,rfl⟩:=e
    exact (h x hp.2.2).more hp.1 hp.2.1
  · cases e
def Con.or (a b:Con):Con:=⟨a.ws,fun l m=>match a.g l m with|some x=>some x|none=>b.g l m,none⟩
theorem FnOK.or {P:Program} {Gl:Nat→SV} {f:Nat} {a b:Con} (ha:FnOK P Gl f a) (hb:FnOK P Gl f b):FnOK P Gl f (a.or b):=by
  refine ⟨ha.call,fun args mem pre res mem' e hp=>?_,fun n e=>nomatch e⟩
  have e:(match a.g args mem with|some x=>some x|none=>b.g args mem)=some (pre,res,mem'):=e
  split at e
  · next x hx=>
    obtain rfl:=Option.some.inj e
    exact ha.fn args mem _ _ _ hx hp
  · exact hb.fn args mem pre res mem' e hp
def isFn (k:Nat):SV→Bool
  | .fn id _ _=>Nat.beq id k
  |_=>false
def fnF:SV→Nat→SV
  | .fn _ _ f,j=>f j
  |_,_=> .junk
def mkT:List (Nat×Con)→Table
  | [],_=>none
  |p::r,f=>match Nat.beq p.1 f with|true=>some p.2|false=>mkT r f
section
variable {P:Program} {Gl:Nat→SV}
theorem sound_nil:Sound P Gl (mkT []):=⟨fun _ _ h=>(nomatch h),fun _ _ _ _ _ _ _ h=>(nomatch h),fun _ _ _ h=>(nomatch h)⟩
theorem sound_cons {g:Nat} {s:Con} {r:List (Nat×Con)} (h:FnOK P Gl g s) (hr:Sound P Gl (mkT r)):Sound P Gl (mkT ((g,s)::r)):=by
  constructor
  · intro f c e
    simp only [mkT] at e
    split at e
    · next hb=>obtain rfl:=Nat.eq_of_beq_eq_true hb;exact h.call
    · exact hr.call f c e
  · intro f c args mem pre res mem' e
    simp only [mkT] at e
    split at e
    · next hb=>
      obtain rfl:=Nat.eq_of_beq_eq_true hb
      obtain rfl:=Option.some.inj e
      exact h.fn args mem pre res mem'
    · exact hr.fn f c args mem pre res mem' e
  · intro f c n e
    simp only [mkT] at e
    split at e
    · next hb=>
      obtain rfl:=Nat.eq_of_beq_eq_true hb
      obtain rfl:=Option.some.inj e
      exact h.pj n
    · exact hr.pj f c n e
theorem fn_of {Γ:Table} (hS:Sound P Gl Γ) (sg:Bool) {f:Nat} {fn:Func} (hf:P.funcs[f]? =some fn) {args:List SV} {mem:List Blk} (an:List An) {res:SV} {mem':List Blk} {V:Prop} (he:evBody P sg Gl Γ fn args mem an res mem'=V) (hV:V):FnC P Gl f args mem res mem':=
  body_ok hS hf (he▸hV)
end
def blkN:Blk→Nat| .row _ n _=>n|_=>0
def blkF:Blk→Nat→Nat→SV| .row _ _ f=>f| .cells l=>fun _ j=>lsv l j| .dead=>fun _ _=> .junk
def rowN (mem:List Blk) (k:Nat):Nat:=blkN (mem.getD k .dead)
def rowF (mem:List Blk) (k i j:Nat):SV:=blkF (mem.getD k .dead) i j
def tn:Nat→Prop→Prop
  |0,p=>p
  |n+1,p=>True∧tn n p
abbrev w64 (x:Int):Int:=IntKind.wrap .i64 x
section
variable {P:Program} {Gl:Nat→SV}
theorem Sound.nil:Sound P Gl (mkT []):=sound_nil
theorem Sound.cons {g:Nat} {s:Con} {r:List (Nat×Con)} (h:FnOK P Gl g s) (hr:Sound P Gl (mkT r)):Sound P Gl (mkT ((g,s)::r)):=sound_cons h hr
theorem ok_of {f:Nat} {fn:Func} {ws:List Bool} {s:Spec} {Γ:Table} (hS:Sound P Gl Γ) (sg:Bool) (hc: ∀(l:Array Value) (w:World),(callFunc f l).run P w= .ok (.enter f l) w) (hf:P.funcs[f]? =some fn) (an:s.X→List An) {V:s.X→Prop}
    (he: ∀x,evBody P sg Gl Γ fn (s.args x) (s.mem x) (an x) (s.res x) (s.mem' x)=V x) (hV: ∀x,s.pre x→V x):FnOK P Gl f ⟨ws,s.g,none⟩:=
  fnOK_of hc fun x hp=>fn_of hS sg hf (an x) (he x) (hV x hp)
end
theorem std:(∀p:Prop,(True∧p)=p)∧(∀p:Prop,(p∧True)=p)∧(∀p:Prop,(p∧p)=p)∧(∀n:Nat,((n:Nat):Int).toNat=n)∧(∀n:Nat,0+n=n)∧(∀n:Nat,(0:Int)≤(n:Int))∧(∀n:Nat,¬n<0)∧(∀p:Prop,(False→p)=True)∧(∀n:Nat,0≤n)∧((0:Nat):Int)=0:=
  ⟨true_and,and_true,and_self,Int.toNat_natCast,Nat.zero_add,Int.natCast_nonneg,Nat.not_lt_zero,false_implies,Nat.zero_le,Int.natCast_zero⟩
theorem stb:(∀c f:Bool,(bif c then true else f)=(c||f))∧(∀c t:Bool,(bif c then t else false)=(c&&t))∧(∀c t:Bool,(bif c then t else true)=(!c||t))∧(∀c f:Bool,(bif c then false else f)=(!c&&f)):=
  ⟨Bool.cond_true_left,Bool.cond_false_right,Bool.cond_true_right,Bool.cond_false_left⟩
end Go.Sy
