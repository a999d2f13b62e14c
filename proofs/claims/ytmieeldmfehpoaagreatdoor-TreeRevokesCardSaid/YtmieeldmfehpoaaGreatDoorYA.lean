/-
  Sy, part 1: symbolic values; what they stand for in a world; that they stand for it in a later world too.
-/
import Derived.WalkKit
import Derived.Deep.Quiet
import Derived.Laws.StructEq
import Derived.Laws.Tables
import Derived.Laws.CopyOwn
set_option linter.unusedVariables false
set_option linter.unusedSimpArgs false
set_option linter.unusedVariables false
set_option linter.unusedSimpArgs false
namespace Go.Sy
open Go.RowKit
abbrev Path:=Option (Nat×Nat)
inductive SV where
  |aK
  |v (x:Value)
  |bl (b:Bool)
  |ptr (k s:Nat) (p:Path) (i j:Nat)
  |pe (k s:Nat) (p:Path) (i j len z:Nat)
  |aV (k s:Nat) (p:Path) (e n:Nat)
  |sa (k s:Nat) (p:Path) (i j n:Nat)
  |pt (q:Bool) (n:Nat) (f:Nat->SV)
  |sl (q:Bool) (sz n:Nat) (f:Nat->Nat->SV)
  |pa (q:Bool) (sz n:Nat) (f:Nat->Nat->SV)
  |il (sz n:Nat) (f:Nat->Nat->SV)
  |ag (n:Nat) (f:Nat->SV)
  |tp (n:Nat) (f:Nat->SV)
  |fn (id n:Nat) (f:Nat->SV)
  |bm (id:Nat) (s:SV)
  |mv (nm:String) (s:SV)
  |ic (t:Nat) (s:SV)
  |er (t tf:Nat) (e at_:Int)
  |es
instance:Inhabited SV:=⟨.aK⟩
def aH (l:List SV):Nat->SV:=λj=>l.getD j .aK
def out (n:Nat) (f:Nat->SV):Nat->SV:=aH ((List.range n).map f)
theorem MD {n:Nat} {f:Nat->SV} {j:Nat} (h:j<n):out n f j=f j:=by
  simp[out,aH,List.getD_eq_getElem?_getD,h]
structure Loc where
  b:Nat
  o:Nat
  sz:Nat
  cY:Nat
  len:Nat
structure Ow where
  A:Nat->Prop
  Z:Nat->Prop
  β:Nat->Path->Option Loc
  cur:Nat->Nat×Nat
def Ow.bare (o:Ow):Ow:=⟨o.A,o.Z,λ_ _=>none,λ_=>(0,0)⟩
def st (cur:Nat->Nat×Nat) (k:Nat):Path->Nat
  |none=>(cur k).1
  |some _=>(cur k).2
def YY (w:World) (A Z:Nat->Prop) (t tf:Nat) (e at_:Int) (u:Value):Prop:=
  (e=0/\at_= -1/\u= .nilIface)\/(e≠0/\at_= -1/\u= .iface t (.int .i64 e))\/
  (e≠0/\0<=at_/\ ∃a,u= .iface tf (.pointer (some a))/\ ¬A a.block/\ ¬Z a.block/\w.cell? (a.add 0)=some (.int .i64 at_)/\w.cell? (a.add 1)=some (.iface t (.int .i64 e)))
def At (o:Ow) (k s:Nat) (p:Path) (R:Loc->Prop):Prop:=s<st o.cur k p\/(s=st o.cur k p/\ ∃L,o.β k p=some L/\R L)
def Head (o:Ow) (k:Nat) (p:Path) (e n:Nat) (u:Value):Prop:=
  ∃q cap,u= .slice q n cap/\n<=cap/\cap<=maxLen/\(cap=0\/ ∃L,o.β k p=some L/\q=some ⟨L.b,L.o+e*L.sz,none⟩/\L.o+(e+cap)*L.sz<=L.len/\e+n<=L.cY)
def Den (w:World) (o:Ow):SV->Value->Prop
  | .aK,_=>True
  | .il _ _ _,_=>True
  | .v x,u=>u=x
  | .bl b,u=>u= .bool b
  | .ptr k s p i j,u=>At o k s p λL=>i<L.cY/\u= .pointer (some ⟨L.b,L.o+i*L.sz+j,none⟩)
  | .pe k s p i j len z,u=>At o k s p λL=>i<L.cY/\z<len/\u= .pointer (some ⟨L.b,L.o+i*L.sz+(j+z),none⟩)
  | .aV k s p e n,u=>s<st o.cur k p\/(s=st o.cur k p/\Head o k p e n u)
  | .sa k s p i j n,u=>At o k s p λL=>i<L.cY/\n<=maxLen/\u= .slice (some ⟨L.b,L.o+i*L.sz+j,none⟩) n n
  | .pt q n f,u=> ∃a,u= .pointer (some a)/\ ∀j,j<n-> ∃x,w.cell? (a.add j)=some x/\(¬o.A a.block/\(q=false-> ¬o.Z a.block))/\Den w o.bare (f j) x
  | .sl q sz n f,u=> ∃p cap,u= .slice p n cap/\n<=cap/\n<=maxLen/\(n=0\/ ∃a,p=some a/\ ∀i,i<n-> ∀j,j<sz-> ∃x,w.cell? (a.add (i*sz+j))=some x/\(¬o.A a.block/\(q=false-> ¬o.Z a.block))/\Den w o.bare (f i j) x)
  | .pa q sz n f,u=> ∃a,u= .pointer (some a)/\ ∀i,i<n-> ∀j,j<sz-> ∃x,w.cell? (a.add (i*sz+j))=some x/\(¬o.A a.block/\(q=false-> ¬o.Z a.block))/\Den w o.bare (f i j) x
  | .ag n f,u=> ∃cs,u= .agg cs/\cs.size=n/\ ∀j,j<n-> ∃x,cs[j]? =some x/\Den w o (f j) x
  | .tp n f,u=> ∃cs,u= .tuple cs/\cs.size=n/\ ∀j,j<n-> ∃x,cs[j]? =some x/\Den w o (f j) x
  | .fn id n f,u=> ∃cs,u= .func (.func id) #[] cs/\cs.size=n/\ ∀j,j<n-> ∃x,cs[j]? =some x/\Den w o (f j) x
  | .bm id s,u=> ∃x,u= .func (.func id) #[x] #[]/\Den w o s x
  | .mv nm s,u=> ∃x,u= .func (.method nm) #[x] #[]/\Den w o s x
  | .ic t s,u=> ∃x,u= .iface t x/\Den w o s x
  | .er t tf e at_,u=>YY w o.A o.Z t tf e at_ u
  | .es,u=> ∃p,u= .slice p 0 0
def Ae (A:Nat->Prop) (w w':World):Prop:= ∀b,b<w.heap.size-> ¬A b->w'.heap[b]? =w.heap[b]?
theorem fg {w:World} {a:Addr} {x:Value} (h:w.cell? a=some x):a.block<w.heap.size:=by
  rcases Nat.lt_or_ge a.block w.heap.size with h'|h'
  · exact h'
  · simp[World.cell?,Array.getElem?_eq_none h']at h
theorem gn (a:Addr) (n:Nat):(a.add n).block=a.block:=by unfold Addr.add;split<;>rfl
theorem add_add (a:Addr) (n m:Nat):(a.add n).add m=a.add (n+m):=by
  unfold Addr.add
  by_cases h:n=0
  · subst h;simp
  · by_cases U:m=0
    · subst U;simp[h]
    · simp only[h,U,if_false]
      rw[if_neg (by omega)]
      simp only[Nat.add_assoc]
theorem ju (b o n:Nat):(⟨b,o,none⟩:Addr).add n=⟨b,o+n,none⟩:=by
  unfold Addr.add;split
  · next h=>subst h;rfl
  · rfl
theorem Ae.cell {A:Nat->Prop} {w w':World} (h:Ae A w w') {a:Addr} {x:Value} (hf: ¬A a.block) (hc:w.cell? a=some x):w'.cell? a=some x:=by
  have:=h a.block (fg hc) hf
  unfold World.cell? at*
  rw[this];exact hc
structure Ext (w:World) (o:Ow) (w':World) (o':Ow):Prop where
  os:w'.os=w.os
  tape:w'.tape=w.tape
  output:w'.output=w.output
  same:Ae o.A w w'
  free: ∀b,b<w.heap.size-> ¬o.A b-> ¬o'.A b
  fZ: ∀b,b<w.heap.size-> ¬o.A b-> ¬o.Z b-> ¬o'.Z b
  size:w.heap.size<=w'.heap.size
  mono: ∀k,(o.cur k).1<=(o'.cur k).1/\(o.cur k).2<=(o'.cur k).2
  lz: ∀k p L,o.β k p=some L->st o'.cur k p=st o.cur k p->o'.β k p=some L
  zs: ∀b,o.Z b->o'.Z b
theorem Ext.refl (w:World) (o:Ow):Ext w o w o:=⟨rfl,rfl,rfl,λ_ _ _=>rfl,λ_ _ h=>h,λ_ _ _ h=>h,Nat.le_refl _,λ_=>⟨Nat.le_refl _,Nat.le_refl _⟩,λ_ _ _ h _=>h,λ_ h=>h⟩
theorem yt {c c':Nat->Nat×Nat} (h: ∀k,(c k).1<=(c' k).1/\(c k).2<=(c' k).2) (k:Nat) (p:Path):st c k p<=st c' k p:=by
  cases p with
  |none=>exact(h k).1
  |some _=>exact(h k).2
theorem Ext.trans {w w' fi:World} {o o' wU:Ow} (h:Ext w o w' o') (k:Ext w' o' fi wU):Ext w o fi wU where
  os:=k.os.trans h.os
  tape:=k.tape.trans h.tape
  output:=k.output.trans h.output
  same:=λb hb hf=>(k.same b (Nat.lt_of_lt_of_le hb h.size) (h.free b hb hf)).trans (h.same b hb hf)
  free:=λb hb hf=>k.free b (Nat.lt_of_lt_of_le hb h.size) (h.free b hb hf)
  fZ:=λb hb hf hz=>k.fZ b (Nat.lt_of_lt_of_le hb h.size) (h.free b hb hf) (h.fZ b hb hf hz)
  size:=Nat.le_trans h.size k.size
  mono:=λq=>⟨Nat.le_trans (h.mono q).1 (k.mono q).1,Nat.le_trans (h.mono q).2 (k.mono q).2⟩
  lz:=λq p L hL e=>by
   have J:=yt h.mono q p
   have U:=yt k.mono q p
   have e1:st o'.cur q p=st o.cur q p:=by omega
   exact k.lz q p L (h.lz q p L hL e1) (by omega)
  zs:=λb hb=>k.zs b (h.zs b hb)
theorem Ext.bare {w w':World} {o o':Ow} (h:Ext w o w' o'):Ext w o.bare w' o'.bare:=⟨h.os,h.tape,h.output,h.same,h.free,h.fZ,h.size,λ_=>⟨Nat.le_refl _,Nat.le_refl _⟩,λ_ _ _ h=>(by cases h),h.zs⟩
theorem At.ext {w w':World} {o o':Ow} (h:Ext w o w' o') {k s:Nat} {p:Path} {R:Loc->Prop} (ha:At o k s p R):At o' k s p R:=by
  have hm:=yt h.mono k p
  rcases ha with ha|⟨ha,L,hL,hR⟩
  · exact .inl (Nat.lt_of_lt_of_le ha hm)
  · rcases Nat.lt_or_ge s (st o'.cur k p)with h'|h'
    · exact .inl h'
    · exact .inr ⟨by omega,L,h.lz k p L hL (by omega),hR⟩
theorem Head.ext {w w':World} {o o':Ow} (h:Ext w o w' o') {k:Nat} {p:Path} {e n:Nat} {u:Value} (he:st o'.cur k p=st o.cur k p) (ha:Head o k p e n u):Head o' k p e n u:=by
  obtain⟨q,cap,J,U,h3,h4⟩:=ha
  exact⟨q,cap,J,U,h3,h4.imp id λ⟨L,hL,hr⟩=>⟨L,h.lz k p L hL he,hr⟩⟩
theorem Den.ext {w w':World} {o o':Ow} (h:Ext w o w' o') {s:SV} {u:Value} (hd:Den w o s u):Den w' o' s u:=by
  induction s generalizing o o' u with
  |aK=>trivial
  |il sz n f=>trivial
  |es=>exact hd
  |v x=>exact hd
  |bl b=>exact hd
  |ptr k s p i j=>exact At.ext h hd
  |pe k s p i j len z=>exact At.ext h hd
  |sa k s p i j n=>exact At.ext h hd
  |aV k s p e n=>
   have hm:=yt h.mono k p
   rcases hd with hd|⟨hd,hh⟩
   · exact .inl (Nat.lt_of_lt_of_le hd hm)
   · rcases Nat.lt_or_ge s (st o'.cur k p)with h'|h'
     · exact .inl h'
     · exact .inr ⟨by omega,hh.ext h (by omega)⟩
  |pt q n f ih=>
   obtain⟨a,rfl,hj⟩:=hd
   refine⟨a,rfl,λj br=>?_⟩
   obtain⟨x,hc,hf,hx⟩:=hj j br
   have ai:=fg hc
   rw[gn]at ai
   exact⟨x,h.same.cell (by rw[gn];exact hf.1) hc,⟨h.free _ ai hf.1,λe=>h.fZ _ ai hf.1 (hf.2 e)⟩,ih j h.bare hx⟩
  |sl q sz n f ih=>
   obtain⟨p,cap,rfl,iO,gQ,hj⟩:=hd
   refine⟨p,cap,rfl,iO,gQ,hj.imp id ?_⟩
   intro hk
   obtain⟨a,e,hk⟩:=hk
   refine⟨a,e,λi hi j br=>?_⟩
   obtain⟨x,hc,hf,hx⟩:=hk i hi j br
   have ai:=fg hc
   rw[gn]at ai
   exact⟨x,h.same.cell (by rw[gn];exact hf.1) hc,⟨h.free _ ai hf.1,λe=>h.fZ _ ai hf.1 (hf.2 e)⟩,ih i j h.bare hx⟩
  |pa q sz n f ih=>
   obtain⟨a,rfl,hk⟩:=hd
   refine⟨a,rfl,λi hi j br=>?_⟩
   obtain⟨x,hc,hf,hx⟩:=hk i hi j br
   have ai:=fg hc
   rw[gn]at ai
   exact⟨x,h.same.cell (by rw[gn];exact hf.1) hc,⟨h.free _ ai hf.1,λe=>h.fZ _ ai hf.1 (hf.2 e)⟩,ih i j h.bare hx⟩
  |ag n f ih=>
   obtain⟨cs,rfl,hs,hj⟩:=hd
   exact⟨cs,rfl,hs,λj br=>let⟨x,J,U⟩:=hj j br;⟨x,J,ih j h U⟩⟩
  |tp n f ih=>
   obtain⟨cs,rfl,hs,hj⟩:=hd
   exact⟨cs,rfl,hs,λj br=>let⟨x,J,U⟩:=hj j br;⟨x,J,ih j h U⟩⟩
  |fn id n f ih=>
   obtain⟨cs,rfl,hs,hj⟩:=hd
   exact⟨cs,rfl,hs,λj br=>let⟨x,J,U⟩:=hj j br;⟨x,J,ih j h U⟩⟩
  |bm id s ih=>
   obtain⟨x,rfl,hx⟩:=hd
   exact⟨x,rfl,ih h hx⟩
  |mv nm s ih=>
   obtain⟨x,rfl,hx⟩:=hd
   exact⟨x,rfl,ih h hx⟩
  |ic t s ih=>
   obtain⟨x,rfl,hx⟩:=hd
   exact⟨x,rfl,ih h hx⟩
  |er t tf e at_=>
   rcases hd with hd|hd|⟨J,U,a,rfl,hf,hz,jm,wP⟩
   · exact .inl hd
   · exact .inr (.inl hd)
   · have ai:=fg jm
     rw[gn]at ai
     exact .inr (.inr ⟨J,U,a,rfl,h.free _ ai hf,h.fZ _ ai hf hz,h.same.cell (by rw[gn];exact hf) jm,h.same.cell (by rw[gn];exact hf) wP⟩)
theorem Den.up {w:World} {o:Ow} {s:SV} {u:Value} (hd:Den w o.bare s u):Den w o s u:=
  Den.ext (o:=o.bare) (o':=o) ⟨rfl,rfl,rfl,λ_ _ _=>rfl,λ_ _ h=>h,λ_ _ _ h=>h,Nat.le_refl _,λ_=>⟨Nat.zero_le _,Nat.zero_le _⟩,λ_ _ _ h=>(by cases h),λ_ h=>h⟩ hd
def bX (w:World) (o:Ow):List SV->List Value->Prop
  | [],[]=>True
  |s::r,u::t=>Den w o s u/\bX w o r t
  |_,_=>False
theorem bX.ext {w w':World} {o o':Ow} (h:Ext w o w' o'): ∀{F:List SV} {l:List Value},bX w o F l->bX w' o' F l
  | [],[],_=>trivial
  |_::_,_::_,⟨J,U⟩=>⟨J.ext h,bX.ext h U⟩
  | [],_::_,hd=>hd.elim
  |_::_,[],hd=>hd.elim
theorem bX.len {w:World} {o:Ow}: ∀{F:List SV} {l:List Value},bX w o F l->F.length=l.length
  | [],[],_=>rfl
  |_::_,_::_,⟨_,U⟩=>by simp[U.len]
  | [],_::_,hd=>hd.elim
  |_::_,[],hd=>hd.elim
theorem bX.get {w:World} {o:Ow}: ∀{F:List SV} {l:List Value},bX w o F l-> ∀(i:Nat) (d:Value),Den w o (F.getD i .aK) (l.getD i d)
  | [],[],_,_,_=>by simp[Den]
  |_::_,_::_,⟨J,_⟩,0,_=>by simpa using J
  |_::_,_::_,⟨_,U⟩,i+1,d=>by simpa using U.get i d
  | [],_::_,hd,_,_=>hd.elim
  |_::_,[],hd,_,_=>hd.elim
theorem bX.get? {w:World} {o:Ow}: ∀{F:List SV} {l:List Value},bX w o F l-> ∀(i:Nat),i<F.length-> ∃x,l[i]? =some x/\Den w o (F.getD i .aK) x
  |_::_,u::_,⟨J,_⟩,0,_=>⟨u,by simp,by simpa using J⟩
  |_::_,_::_,⟨_,U⟩,i+1,hi=>by simpa using U.get? i (by simpa using hi)
  | [],[],_,_,hi=>absurd hi (by simp)
  | [],_::_,hd,_,_=>hd.elim
  |_::_,[],hd,_,_=>hd.elim
theorem bX.set {w:World} {o:Ow} {s:SV} {u:Value} (hs:Den w o s u): ∀{F:List SV} {l:List Value},bX w o F l-> ∀(i:Nat),bX w o (F.set i s) (l.set i u)
  | [],[],_,_=>by simp[bX]
  |_::_,_::_,⟨_,U⟩,0=>by simpa [bX]using ⟨hs,U⟩
  |_::_,_::_,⟨J,U⟩,i+1=>by simpa [bX]using ⟨J,U.set hs i⟩
  | [],_::_,hd,_=>hd.elim
  |_::_,[],hd,_=>hd.elim
theorem bX.mk {w:World} {o:Ow}: ∀{F:List SV} {l:List Value},F.length=l.length->(∀i,i<F.length-> ∃x,l[i]? =some x/\Den w o (F.getD i .aK) x)->bX w o F l
  | [],[],_,_=>trivial
  |s::r,u::t,hl,h=>by
   refine⟨?_,bX.mk (by simpa using hl) λi hi=>?_⟩
   · obtain⟨x,J,U⟩:=h 0 (by simp)
     simp at J U;subst J;exact U
   · obtain⟨x,J,U⟩:=h (i+1) (by simp;exact hi)
     exact⟨x,by simpa using J,by simpa using U⟩
  | [],_::_,hl,_=>by simp at hl
  |_::_,[],hl,_=>by simp at hl
theorem bX.append {w:World} {o:Ow}: ∀{F G:List SV} {l m:List Value},bX w o F l->bX w o G m->bX w o (F++G) (l++m)
  | [],_,[],_,_,h=>by simpa using h
  |_::_,_,_::_,_,⟨J,U⟩,h=>⟨J,U.append h⟩
  | [],_,_::_,_,hd,_=>hd.elim
  |_::_,_,[],_,hd,_=>hd.elim
theorem bX.map {w:World} {o o':Ow} {g:SV->SV} (hg: ∀s u,Den w o s u->Den w o' (g s) u): ∀{F:List SV} {l:List Value},bX w o F l->bX w o' (F.map g) l
  | [],[],_=>trivial
  |_::_,_::_,⟨J,U⟩=>⟨hg _ _ J,U.map hg⟩
  | [],_::_,hd=>hd.elim
  |_::_,[],hd=>hd.elim
end Go.Sy
set_option linter.unusedVariables false
set_option linter.unusedSimpArgs false
namespace Go.Sy
open Go.RowKit
def qF:IntKind->IntKind->Bool
  | .i8,.i8| .i16,.i16| .i32,.i32| .i64,.i64| .u8,.u8| .u16,.u16| .u32,.u32| .u64,.u64=>true
  |_,_=>false
theorem uy {a b:IntKind} (h:qF a b=true):a=b:=by cases a<;>cases b<;>first|rfl|cases h
def lE:SV->Option Bool
  | .bl b=>some b
  | .v (.bool b)=>some b
  |_=>none
theorem j7 {w:World} {o:Ow} {s:SV} {b:Bool} {u:Value} (h:lE s=some b) (hd:Den w o s u):u= .bool b:=by
  unfold lE at h
  split at h<;>simp at h<;>subst h<;>exact hd
def jB (c:Bool) (x y:SV):SV:=
  match x,y with
  | .v (.int k a),.v (.int k' b)=>match qF k k' with|true=> .v (.int k (bif c then a else b))|false=> .aK
  | .v (.string a),.v (.string b)=> .v (.string (bif c then a else b))
  | .er t tf e a,.er t' F9 e' a'=>match Nat.beq t t',Nat.beq tf F9 with|true,true=> .er t tf (bif c then e else e') (bif c then a else a')|_,_=> .aK
  |x,y=>match lE x,lE y with|some a,some b=> .v (.bool (bif c then a else b))|_,_=> .aK
theorem uK {w:World} {o:Ow} {c:Bool} {x y:SV} {u:Value} (J:c=true->Den w o x u) (U:c=false->Den w o y u):Den w o (jB c x y) u:=by
  unfold jB
  split
  · split
    · next hk=>
      obtain rfl:=uy hk
      cases c
      · exact U rfl
      · exact J rfl
    · trivial
  · cases c
    · exact U rfl
    · exact J rfl
  · split
    · next hb jT=>
      obtain rfl:=Nat.eq_of_beq_eq_true hb
      obtain rfl:=Nat.eq_of_beq_eq_true jT
      cases c
      · exact U rfl
      · exact J rfl
    · trivial
  · split
    · next a b ha hb=>
      cases c
      · exact j7 hb (U rfl)
      · exact j7 ha (J rfl)
    · trivial
def cM:SV->Bool
  | .il _ _ _=>true
  |_=>false
theorem Bx (c:Bool) (x y:SV):cM (jB c x y)=false:=by
  unfold jB
  split
  · split<;>rfl
  · rfl
  · split<;>rfl
  · split<;>rfl
def iu (c:Bool) (x y:SV):SV:=
  match x,y with
  | .il sz n g,.il gz n' g'=>match Nat.beq sz gz with|true=> .il sz (bif c then n else n') (λa b=>jB c (g a b) (g' a b))|false=> .aK
  |x,y=>jB c x y
theorem oF {w:World} {o:Ow} {c:Bool} {x y:SV} {u:Value} (J:c=true->Den w o x u) (U:c=false->Den w o y u):Den w o (iu c x y) u:=by
  unfold iu
  split
  · split<;>trivial
  · exact uK J U
theorem Bw {c:Bool} {x y:SV} (h:cM x=false):iu c x y=jB c x y:=by
  unfold iu
  split
  · cases h
  · rfl
structure Row where
  sz:Nat
  n:Nat
  f:Nat->Nat->SV
inductive bh where
  |dead
  |cells (l:List SV)
  |row (sz n:Nat) (f:Nat->Nat->SV)
structure bk where
  rs:Nat
  ds:Nat
  hl:Option (Nat×Nat)
  b:bh
abbrev Mem:=List (Nat×bk)
def ae:Mem->Nat->bk
  | [],_=>⟨0,0,none,.dead⟩
  |p::r,k=>match Nat.beq p.1 k with|true=>p.2|false=>ae r k
theorem c_ {k:Nat} {e:bk} {M:Mem}:ae ((k,e)::M) k=e:=by simp[ae]
theorem cB {k k':Nat} {e:bk} {M:Mem} (h:k≠k'):ae ((k,e)::M) k'=ae M k':=by
  have:Nat.beq k k'=false:=by
    cases hb:Nat.beq k k'
    · rfl
    · exact absurd (Nat.eq_of_beq_eq_true hb) h
  simp only[ae,this]
def dG (M:Mem):Nat->Nat×Nat:=λk=>((ae M k).rs,(ae M k).ds)
def bh.row? :bh->Option Row
  | .dead=>none
  | .cells l=>some ⟨l.length,1,λ_ j=>aH l j⟩
  | .row sz n f=>some ⟨sz,n,f⟩
def inner (r:Row) (i j:Nat):Option Row:=
  match r.f i j with
  | .il sz n g=>some ⟨sz,n,g⟩
  |_=>none
def fC (b:bh):Path->Option Row
  |none=>b.row?
  |some (i,j)=>match b with| .row sz n f=>inner ⟨sz,n,f⟩ i j|_=>none
def rowAt (M:Mem) (k:Nat) (p:Path):Option Row:=fC (ae M k).b p
def Row.set (r:Row) (i j:Nat) (v:SV):Row:=⟨r.sz,r.n,λi' j'=>match Nat.beq j' j with|false=>r.f i' j'|true=>iu (Nat.beq i' i) v (r.f i' j')⟩
def cF (w:World) (o:Ow) (hl:Option (Nat×Nat)) (k i j:Nat) (s:SV) (x:Value):Prop:=
  match s with
  | .il sz n _=>hl=some (i,j)\/(Head o k (some (i,j)) 0 n x/\ ∀L,o.β k (some (i,j))=some L->L.sz=sz)
  |s=>Den w o s x
def gD (w:World) (o:Ow) (hl:Option (Nat×Nat)) (k:Nat):Path->Nat->Nat->SV->Value->Prop
  |none,i,j,s,x=>cF w o hl k i j s x
  |some _,_,_,s,x=>Den w o s x
def ma (w:World) (o:Ow) (hl:Option (Nat×Nat)) (k:Nat) (p:Path) (L:Loc) (r:Row):Prop:=
  ∃(c:Array Value) (T:TypeId),w.heap[L.b]? =some (Obj.cells c T (0,0))/\c.size=L.len/\L.o+L.cY*L.sz<=L.len/\
   ∀i,i<L.cY-> ∀j,j<L.sz-> ∃x,c[L.o+i*L.sz+j]? =some x/\gD w o hl k p i j (r.f i j) x
structure aR (w:World) (o:Ow) (M:Mem):Prop where
  cur:o.cur=dG M
  own: ∀b,(∃k p L,o.β k p=some L/\L.b=b)->o.A b
  d_: ∀b,o.A b->b<w.heap.size
  dj: ∀b,o.A b-> ¬o.Z b
  fD: ∀b,o.Z b->b<w.heap.size
  inj: ∀k p L k' p' L',o.β k p=some L->o.β k' p'=some L'->L.b=L'.b->k=k'/\p=p'
  low: ∀k p L,o.β k p=some L->L.b<w.heap.size
  row: ∀k p L,o.β k p=some L-> ∃r,rowAt M k p=some r/\r.sz=L.sz/\r.n=L.cY/\ma w o (ae M k).hl k p L r
  live: ∀k l,(ae M k).b= .cells l-> ∃L,o.β k none=some L
  eM: ∀k i j,(ae M k).hl=some (i,j)->o.β k (some (i,j))=none
theorem fq {w:World} {o:Ow} {hl:Option (Nat×Nat)} {k i j:Nat} {s:SV} {x:Value} (h:cM s=false):cF w o hl k i j s x=Den w o s x:=by
  unfold cF
  split
  · cases h
  · rfl
theorem cF.ext {w w':World} {o o':Ow} (h:Ext w o w' o') {hl:Option (Nat×Nat)} {k i j:Nat} (hs:(o'.cur k).2=(o.cur k).2) (hb: ∀q,o'.β k q=o.β k q) {s:SV} {x:Value} (hc:cF w o hl k i j s x):cF w' o' hl k i j s x:=by
  cases hi:cM s with
  |false=>
   rw[fq hi]at*
   exact Den.ext h hc
  |true=>
   cases s with
   |il sz n g=>
    rcases hc with hc|⟨J,U⟩
    · exact .inl hc
    · exact .inr ⟨J.ext h hs,λL hL=>U L (by rw[<-hb];exact hL)⟩
   |_=>cases hi
theorem gD.ext {w w':World} {o o':Ow} (h:Ext w o w' o') {hl:Option (Nat×Nat)} {k i j:Nat} {p:Path} (hs:(o'.cur k).2=(o.cur k).2) (hb: ∀q,o'.β k q=o.β k q) {s:SV} {x:Value} (hc:gD w o hl k p i j s x):gD w' o' hl k p i j s x:=by
  cases p with
  |none=>exact cF.ext h hs hb hc
  |some _=>exact Den.ext h hc
theorem ma.ext {w w':World} {o o':Ow} (h:Ext w o w' o') {hl:Option (Nat×Nat)} {k:Nat} {p:Path} {L:Loc} {r:Row} (hs:(o'.cur k).2=(o.cur k).2) (hb: ∀q,o'.β k q=o.β k q) (hh:w'.heap[L.b]? =w.heap[L.b]?)
    (hr:ma w o hl k p L r):ma w' o' hl k p L r:=by
  obtain⟨c,T,J,U,h3,h4⟩:=hr
  refine⟨c,T,hh.trans J,U,h3,λi hi j hj=>?_⟩
  obtain⟨x,h5,h6⟩:=h4 i hi j hj
  exact⟨x,h5,h6.ext h hs hb⟩
theorem ma.lt {w:World} {o:Ow} {hl:Option (Nat×Nat)} {k:Nat} {p:Path} {L:Loc} {r:Row} (hr:ma w o hl k p L r):L.b<w.heap.size:=by
  obtain⟨c,T,J,_⟩:=hr
  exact(Array.getElem?_eq_some_iff.1 J).1
structure bz (w:World) (o:Ow) (M:Mem) (w':World) (o':Ow) (M':Mem):Prop where
  ext:Ext w o w' o'
  mem:aR w' o' M'
theorem bz.trans {w w' fi:World} {o o' wU:Ow} {M M' Qv:Mem} (h:bz w o M w' o' M') (k:bz w' o' M' fi wU Qv):bz w o M fi wU Qv:=⟨h.ext.trans k.ext,k.mem⟩
theorem bz.refl {w:World} {o:Ow} {M:Mem} (h:aR w o M):bz w o M w o M:=⟨Ext.refl _ _,h⟩
/-! ### a world with the same memory, or more of it -/
def Cw (w w':World):Prop:=w'.os=w.os/\w'.tape=w.tape/\w'.output=w.output/\w.heap.size<=w'.heap.size/\ ∀b,b<w.heap.size->w'.heap[b]? =w.heap[b]?
theorem Cw.refl (w:World):Cw w w:=⟨rfl,rfl,rfl,Nat.le_refl _,λ_ _=>rfl⟩
theorem Cw.ext {w w':World} (h:Cw w w') (o:Ow):Ext w o w' o:=⟨h.1,h.2.1,h.2.2.1,λb hb _=>h.2.2.2.2 b hb,λ_ _ h=>h,λ_ _ _ h=>h,h.2.2.2.1,λ_=>⟨Nat.le_refl _,Nat.le_refl _⟩,λ_ _ _ h _=>h,λ_ h=>h⟩
theorem aR.more {w w':World} {o:Ow} {M:Mem} (hm:aR w o M) (h:Cw w w'):aR w' o M where
  cur:=hm.cur
  own:=hm.own
  d_:=λb hb=>Nat.lt_of_lt_of_le (hm.d_ b hb) h.2.2.2.1
  dj:=hm.dj
  fD:=λb hb=>Nat.lt_of_lt_of_le (hm.fD b hb) h.2.2.2.1
  inj:=hm.inj
  low:=λk p L hL=>Nat.lt_of_lt_of_le (hm.low k p L hL) h.2.2.2.1
  row:=λk p L hL=>by
    obtain⟨r,J,U,h3,h4⟩:=hm.row k p L hL
    exact⟨r,J,U,h3,h4.ext (h.ext o) rfl (λ_=>rfl) (h.2.2.2.2 _ (hm.low k p L hL))⟩
  live:=hm.live
  eM:=hm.eM
theorem bz.more {w w':World} {o:Ow} {M:Mem} (hm:aR w o M) (h:Cw w w'):bz w o M w' o M:=⟨h.ext o,hm.more h⟩
/-! ### a new root -/
def Ow.add (o:Ow) (k:Nat) (L:Loc):Ow:=⟨λb=>o.A b\/b=L.b,o.Z,λk' p=>if k'=k/\p=none then some L else o.β k' p,o.cur⟩
def tA (o:Ow) (M:Mem) (k:Nat):Prop:=(ae M k).b= .dead/\(ae M k).hl=none/\ ∀p,o.β k p=none
def fresh (M:Mem) (k:Nat) (b:bh):Mem:=(k,⟨(ae M k).rs,(ae M k).ds,none,b⟩)::M
theorem se {M:Mem} {k:Nat} {e:bk} (J:e.rs=(ae M k).rs) (U:e.ds=(ae M k).ds):dG ((k,e)::M)=dG M:=by
  funext k'
  unfold dG
  by_cases hk:k=k'
  · subst hk;rw[c_,J,U]
  · rw[cB hk]
theorem BJ {w:World} {o:Ow} {k:Nat} {ob:Obj} {L:Loc} (hb:L.b=w.heap.size) (hf: ∀p,o.β k p=none):Ext w o (w.alloc ob) (o.add k L) where
  os:=rfl
  tape:=rfl
  output:=rfl
  same:=λb hb _=>Below.heap_alloc _ _ _ hb
  free:=λb ai h U=>U.elim h (λe=>by omega)
  fZ:=λ_ _ _ h=>h
  size:=by simp
  mono:=λ_=>⟨Nat.le_refl _,Nat.le_refl _⟩
  lz:=λk' p L' h _=>by
   show(if k'=k/\p=none then some L else o.β k' p)=some L'
   rw[if_neg]
   · exact h
   · rintro ⟨rfl,rfl⟩;rw[hf]at h;cases h
  zs:=λ_ h=>h
theorem bz.alloc {w:World} {o:Ow} {M:Mem} (hm:aR w o M) {k:Nat} (hf:tA o M k) {c:Array Value} {T:TypeId} {b:bh} {r:Row} (hr:b.row? =some r)
    {L:Loc} (hL:L=⟨w.heap.size,0,r.sz,r.n,c.size⟩) (hc:r.n*r.sz<=c.size)
    (pb: ∀i,i<r.n-> ∀j,j<r.sz-> ∃x,c[i*r.sz+j]? =some x/\gD (w.alloc (.cells c T)) (o.add k L) none k none i j (r.f i j) x):
    bz w o M (w.alloc (.cells c T)) (o.add k L) (fresh M k b):=by
  have bP:Ext w o (w.alloc (.cells c T)) (o.add k L):=BJ (by rw[hL]) hf.2.2
  have cZ: ∀k' p L',(o.add k L).β k' p=some L'->(k'=k/\p=none/\L'=L)\/(¬(k'=k)/\o.β k' p=some L'):=by
    intro k' p L' h
    by_cases hk:k'=k/\p=none
    · have h':(if k'=k/\p=none then some L else o.β k' p)=some L':=h
      rw[if_pos hk]at h'
      exact .inl ⟨hk.1,hk.2,(Option.some.inj h').symm⟩
    · have h':(if k'=k/\p=none then some L else o.β k' p)=some L':=h
      rw[if_neg hk]at h'
      refine .inr ⟨λe=>?_,h'⟩
      subst e;rw[hf.2.2]at h';cases h'
  have OR:L.b=w.heap.size:=by rw[hL]
  refine⟨bP,?_,?_,?_,?_,?_,?_,?_,?_,?_,?_⟩
  · show o.cur=_
    rw[hm.cur]
    unfold fresh
    exact(se (M:=M) (k:=k) (e:=⟨(ae M k).rs,(ae M k).ds,none,b⟩) rfl rfl).symm
  · rintro b' ⟨k',p,L',J,U⟩
    rcases cZ k' p L' J with⟨_,_,rfl⟩|⟨_,h⟩
    · exact .inr U.symm
    · exact .inl ((hm.own b') ⟨k',p,L',h,U⟩)
  · rintro b' (h|rfl)
    · exact Nat.lt_of_lt_of_le (hm.d_ b' h) bP.size
    · rw[hL];simp
  · rintro b' (h|rfl) hz
    · exact hm.dj b' h hz
    · have:=hm.fD _ hz;omega
  · exactλb' hz=>Nat.lt_of_lt_of_le (hm.fD b' hz) bP.size
  · intro k1 p1 L1 k2 p2 L2 J U e
    rcases cZ _ _ _ J with⟨rfl,rfl,rfl⟩|⟨_,g1⟩<;>rcases cZ _ _ _ U with⟨rfl,rfl,rfl⟩|⟨_,g2⟩
    · exact⟨rfl,rfl⟩
    · have:=hm.low _ _ _ g2;omega
    · have:=hm.low _ _ _ g1;omega
    · exact hm.inj _ _ _ _ _ _ g1 g2 e
  · intro k1 p1 L1 J
    rcases cZ _ _ _ J with⟨rfl,rfl,rfl⟩|⟨_,g1⟩
    · rw[OR];simp
    · have:=hm.low _ _ _ g1;simp;omega
  · intro k1 p1 L1 J
    rcases cZ _ _ _ J with⟨rfl,rfl,rfl⟩|⟨cf,g1⟩
    · refine⟨r,by unfold rowAt fresh;rw[c_];exact hr,by rw[hL],by rw[hL],c,T,by rw[OR];exact heap_alloc_new w _,by rw[hL],by rw[hL];simpa using hc,?_⟩
      rw[hL]
      intro i hi j hj
      obtain⟨x,e1,e2⟩:=pb i hi j hj
      refine⟨x,by simpa using e1,?_⟩
      unfold fresh;rw[c_]
      rw[hL]at e2
      exact e2
    · obtain⟨r1,e1,e2,e3,e4⟩:=hm.row k1 p1 L1 g1
      refine⟨r1,by unfold rowAt fresh;rw[cB (Ne.symm cf)];exact e1,e2,e3,?_⟩
      unfold fresh;rw[cB (Ne.symm cf)]
      refine e4.ext bP rfl (λq=>?_) (Below.heap_alloc _ _ _ (hm.low _ _ _ g1))
      show(if k1=k/\q=none then some L else o.β k1 q)=_
      rw[if_neg (λh=>cf h.1)]
  · intro k1 l h
    by_cases hk:k1=k
    · subst hk;exact⟨L,by simp[Ow.add]⟩
    · unfold fresh at h;rw[cB (Ne.symm hk)]at h
      obtain⟨L1,J⟩:=hm.live k1 l h
      exact⟨L1,bP.lz _ _ _ J rfl⟩
  · intro k1 i1 j1 h
    by_cases hk:k1=k
    · subst hk;unfold fresh at h;rw[c_]at h;cases h
    · unfold fresh at h;rw[cB (Ne.symm hk)]at h
      show(if k1=k/\some (i1,j1)=none then some L else o.β k1 (some (i1,j1)))=none
      rw[if_neg (λh=>hk h.1)]
      exact hm.eM _ _ _ h
/-! ### one cell is written -/
theorem uj (w:World) (a:Addr) (x:Value) {b:Nat} (h:b≠a.block):(w.setCell a x).heap[b]? =w.heap[b]? :=Below.heap_setCell w a x b h
theorem GQ {w:World} {b off:Nat} {x:Value} {c:Array Value} {T:TypeId} {fz:Nat×Nat} (h:w.heap[b]? =some (Obj.cells c T fz)):(w.setCell ⟨b,off,none⟩ x).heap[b]? =some (Obj.cells (c.setIfInBounds off x) T fz):=by
  simp only[World.setCell,Array.getElem?_modify,if_pos,h,Option.map_some,Option.isSome_none,Bool.false_eq_true,if_false]
theorem Q8 {w:World} {o:Ow} {a:Addr} (x:Value) (ha:o.A a.block):Ext w o (w.setCell a x) o where
  os:=rfl
  tape:=rfl
  output:=rfl
  same:=λb _ hb=>uj w a x (λe=>hb (e▸ha))
  free:=λ_ _ h=>h
  fZ:=λ_ _ _ h=>h
  size:=by simp[World.setCell]
  mono:=λ_=>⟨Nat.le_refl _,Nat.le_refl _⟩
  lz:=λ_ _ _ h _=>h
  zs:=λ_ h=>h
theorem Vv {i j i' j' sz o:Nat} (hj:j<sz) (jj:j'<sz) (h:o+i*sz+j=o+i'*sz+j'):i=i'/\j=j':=by
  have h:i*sz+j=i'*sz+j':=by omega
  have J:(i*sz+j)/sz=i:=by rw[Nat.add_comm,Nat.add_mul_div_right _ _ (by omega),Nat.div_eq_of_lt hj];omega
  have U:(i'*sz+j')/sz=i':=by rw[Nat.add_comm,Nat.add_mul_div_right _ _ (by omega),Nat.div_eq_of_lt jj];omega
  have:i=i':=by rw[<-J,<-U,h]
  subst this
  exact⟨rfl,by omega⟩
theorem kL {i j sz cY:Nat} (hi:i<cY) (hj:j<sz):i*sz+j<cY*sz:=by
  have:=Nat.mul_le_mul_right sz (show i+1<=cY by omega)
  rw[Nat.add_mul]at this
  omega
theorem bz.put {w:World} {o:Ow} {M:Mem} (hm:aR w o M) {k:Nat} {p:Path} {L:Loc} (hL:o.β k p=some L) {i j:Nat} (hi:i<L.cY) (hj:j<L.sz) {x:Value} {e':bk}
    (he:e'.rs=(ae M k).rs/\e'.ds=(ae M k).ds/\e'.hl=(ae M k).hl) (o_: ∀l',e'.b= .cells l'-> ∃l,(ae M k).b= .cells l)
    (gd: ∀q r,fC (ae M k).b q=some r-> ∃r',fC e'.b q=some r'/\r'.sz=r.sz/\r'.n=r.n/\ ∀a,a<r.n-> ∀b,b<r.sz->
     ((q=p/\a=i/\b=j)-> ∀w',Ext w o w' o->gD w' o (ae M k).hl k q a b (r'.f a b) x)/\(¬(q=p/\a=i/\b=j)-> ∀w' y,gD w' o (ae M k).hl k q a b (r.f a b) y->gD w' o (ae M k).hl k q a b (r'.f a b) y)):
    bz w o M (w.setCell ⟨L.b,L.o+i*L.sz+j,none⟩ x) o ((k,e')::M):=by
  have hA:o.A L.b:=(hm.own _) ⟨k,p,L,hL,rfl⟩
  have bP:=Q8 (w:=w) (o:=o) (a:=⟨L.b,L.o+i*L.sz+j,none⟩) x hA
  refine⟨bP,?_,hm.own,λb h=>by simpa [World.setCell]using hm.d_ b h,hm.dj,λb h=>by simpa [World.setCell]using hm.fD b h,hm.inj,λk p L h=>by simpa [World.setCell]using hm.low k p L h,?_,?_,?_⟩
  · rw[hm.cur];exact(se he.1 he.2.1).symm
  · intro k1 p1 L1 J
    obtain⟨r,e1,e2,e3,e4⟩:=hm.row k1 p1 L1 J
    by_cases hk:k1=k
    · subst hk
      obtain⟨r',f1,f2,f3,f4⟩:=gd p1 r e1
      refine⟨r',by unfold rowAt;rw[c_];exact f1,f2.trans e2,f3.trans e3,?_⟩
      rw[c_,he.2.2]
      obtain⟨c,T,g1,g2,g3,g4⟩:=e4
      by_cases hp:p1=p
      · subst hp
        obtain rfl:L1=L:=Option.some.inj (J.symm.trans hL)
        refine⟨c.setIfInBounds (L1.o+i*L1.sz+j) x,T,GQ g1,by simpa using g2,g3,λa ha b hb=>?_⟩
        obtain⟨y,y1,y2⟩:=g4 a ha b hb
        have ai:L1.o+a*L1.sz+b<c.size:=(Array.getElem?_eq_some_iff.1 y1).1
        by_cases na:a=i/\b=j
        · obtain⟨rfl,rfl⟩:=na
          exact⟨x,by rw[Array.getElem?_setIfInBounds_self_of_lt ai],(f4 a (by rw[e3];exact ha) b (by rw[e2];exact hb)).1 ⟨rfl,rfl,rfl⟩ _ bP⟩
        · refine⟨y,?_,(f4 a (by rw[e3];exact ha) b (by rw[e2];exact hb)).2 (λh=>na h.2) _ y (y2.ext bP rfl (λ_=>rfl))⟩
          rw[Array.getElem?_setIfInBounds_ne]
          · exact y1
          · intro e
            obtain⟨h5,h6⟩:=Vv hj hb e
            exact na ⟨h5.symm,h6.symm⟩
      · have cf:L1.b≠L.b:=λe=>hp (hm.inj _ _ _ _ _ _ J hL e).2
        refine⟨c,T,(uj w _ x cf).trans g1,g2,g3,λa ha b hb=>?_⟩
        obtain⟨y,y1,y2⟩:=g4 a ha b hb
        exact⟨y,y1,(f4 a (by rw[e3];exact ha) b (by rw[e2];exact hb)).2 (λh=>hp h.1) _ y (y2.ext bP rfl (λ_=>rfl))⟩
    · have cf:L1.b≠L.b:=λe=>hk (hm.inj _ _ _ _ _ _ J hL e).1
      refine⟨r,by unfold rowAt;rw[cB (Ne.symm hk)];exact e1,e2,e3,?_⟩
      rw[cB (Ne.symm hk)]
      exact e4.ext bP rfl (λ_=>rfl) (uj w _ x cf)
  · intro k1 l h
    by_cases hk:k1=k
    · subst hk
      rw[c_]at h
      obtain⟨l0,h0⟩:=o_ l h
      exact hm.live k1 l0 h0
    · rw[cB (Ne.symm hk)]at h
      exact hm.live k1 l h
  · intro k1 i1 j1 h
    by_cases hk:k1=k
    · subst hk;rw[c_,he.2.2]at h;exact hm.eM _ _ _ h
    · rw[cB (Ne.symm hk)]at h;exact hm.eM _ _ _ h
theorem bz.putCells {w:World} {o:Ow} {M:Mem} (hm:aR w o M) {k:Nat} {l:List SV} (hb:(ae M k).b= .cells l) {L:Loc} (hL:o.β k none=some L) {i j:Nat} (hi:i<L.cY) (hj:j<l.length) {v:SV} {x:Value} (hv:cM v=false) (hx:Den w o v x):
    bz w o M (w.setCell ⟨L.b,L.o+i*L.sz+j,none⟩ x) o ((k,{ae M k with b:= .cells (l.set j v)})::M):=by
  obtain⟨r,e1,e2,e3,e4⟩:=hm.row k none L hL
  have e1':=e1
  unfold rowAt at e1
  rw[hb]at e1
  obtain rfl:=Option.some.inj e1
  refine bz.put hm hL hi (by rw[<-e2];exact hj) ⟨rfl,rfl,rfl⟩ (λ_ _=>⟨l,hb⟩) ?_
  intro q r hr
  rw[hb]at hr
  cases q with
  |none=>
   obtain rfl:=Option.some.inj hr
   refine⟨⟨(l.set j v).length,1,λ_ q=>aH (l.set j v) q⟩,rfl,by simp,rfl,λa ha b dQ=>⟨?_,?_⟩⟩
   · rintro ⟨_,rfl,rfl⟩ w' kW
     have:aH (l.set b v) b=v:=by simp[aH,List.getD_eq_getElem?_getD,dQ]
     show cF _ _ _ _ _ _ (aH (l.set b v) b) _
     rw[this,fq hv]
     exact hx.ext kW
   · intro cf w' y hy
     have A1:i=0:=by
       have:L.cY=1:=e3.symm
       omega
     have ha0:a=0:=by simp at ha;omega
     have iU:b≠j:=λe=>cf ⟨rfl,by omega,e⟩
     have:aH (l.set j v) b=aH l b:=by simp[aH,List.getD_eq_getElem?_getD,List.getElem?_set_ne (Ne.symm iU)]
     show cF _ _ _ _ _ _ (aH (l.set j v) b) _
     rw[this]
     exact hy
  |some ij=>obtain⟨i',j'⟩:=ij;cases hr
theorem qL {r:Row} {i j i' j':Nat} {v:SV} (h:j'≠j):(r.set i j v).f i' j'=r.f i' j':=by
  have:Nat.beq j' j=false:=by
    cases hb:Nat.beq j' j
    · rfl
    · exact absurd (Nat.eq_of_beq_eq_true hb) h
  simp only[Row.set,this]
theorem qK {r:Row} {i j i':Nat} {v:SV}:(r.set i j v).f i' j=iu (Nat.beq i' i) v (r.f i' j):=by simp[Row.set]
theorem Q9 {r:Row} {i j:Nat} (h:cM (r.f i j)=false):inner r i j=none:=by
  unfold inner
  split
  · next e=>rw[e]at h;cases h
  · rfl
theorem bz.putRow {w:World} {o:Ow} {M:Mem} (hm:aR w o M) {k sz n:Nat} {f:Nat->Nat->SV} (hb:(ae M k).b= .row sz n f) {L:Loc} (hL:o.β k none=some L) {i j:Nat} (hi:i<L.cY) (hj:j<sz) {v:SV} {x:Value} (hv:cM v=false) (hx:Den w o v x)
    (n7: ∀i',cM (f i' j)=false):
    bz w o M (w.setCell ⟨L.b,L.o+i*L.sz+j,none⟩ x) o ((k,{ae M k with b:= .row sz n ((⟨sz,n,f⟩:Row).set i j v).f})::M):=by
  obtain⟨r,e1,e2,e3,e4⟩:=hm.row k none L hL
  unfold rowAt at e1
  rw[hb]at e1
  obtain rfl:=Option.some.inj e1
  have zA: ∀i',cM (((⟨sz,n,f⟩:Row).set i j v).f i' j)=false:=λi'=>by rw[qK,Bw hv];exact Bx _ _ _
  refine bz.put hm hL hi (by rw[<-e2];exact hj) ⟨rfl,rfl,rfl⟩ (λ_ h=>by cases h) ?_
  intro q r hr
  rw[hb]at hr
  cases q with
  |none=>
   obtain rfl:=Option.some.inj hr
   refine⟨⟨sz,n,((⟨sz,n,f⟩:Row).set i j v).f⟩,rfl,rfl,rfl,λa ha b dQ=>⟨?_,?_⟩⟩
   · rintro ⟨_,rfl,rfl⟩ w' kW
     show cF _ _ _ _ _ _ (((⟨sz,n,f⟩:Row).set a b v).f a b) _
     rw[fq (zA a),qK]
     exact oF (λ_=>hx.ext kW) (λh=>by rw[Nat.beq_refl]at h;cases h)
   · intro cf w' y hy
     show cF _ _ _ _ _ _ (((⟨sz,n,f⟩:Row).set i j v).f a b) _
     by_cases iU:b=j
     · subst iU
       rw[fq (zA a),qK]
       have hy:cF w' o (ae M k).hl k a b (f a b) y:=hy
       rw[fq (n7 a)]at hy
       exact oF (λh=>absurd (Nat.eq_of_beq_eq_true h) (λe=>cf ⟨rfl,e,rfl⟩)) (λ_=>hy)
     · rw[qL iU];exact hy
  |some ij=>
   obtain⟨i',j'⟩:=ij
   have hr:inner ⟨sz,n,f⟩ i' j'=some r:=hr
   have ou:j'≠j:=by
     intro e
     subst e
     rw[Q9 (n7 i')]at hr
     cases hr
   refine⟨r,?_,rfl,rfl,λa ha b dQ=>⟨?_,λ_ _ _ h=>h⟩⟩
   · show inner ⟨sz,n,((⟨sz,n,f⟩:Row).set i j v).f⟩ i' j'=some r
     unfold inner at hr⊢
     simp only[qL ou]
     exact hr
   · rintro ⟨h,_⟩;cases h
def qV (sz:Nat):SV->Bool
  | .il gz _ _=>Nat.beq gz sz
  |_=>false
theorem Cb {sz:Nat} {s:SV} (h:qV sz s=true): ∃n g,s= .il sz n g:=by
  unfold qV at h
  split at h
  · obtain rfl:=Nat.eq_of_beq_eq_true h;exact⟨_,_,rfl⟩
  · cases h
theorem bz.Tv {w:World} {o:Ow} {M:Mem} (hm:aR w o M) {k sz n:Nat} {f:Nat->Nat->SV} (hb:(ae M k).b= .row sz n f) {i0 j0:Nat} {bp n2:Nat} {g:Nat->Nat->SV} (hg:f i0 j0= .il bp n2 g)
    {L:Loc} (hL:o.β k (some (i0,j0))=some L) {i j:Nat} (hi:i<L.cY) (hj:j<bp) {v:SV} {x:Value} (hv:cM v=false) (hx:Den w o v x) (n7: ∀i',qV bp (f i' j0)=true):
    bz w o M (w.setCell ⟨L.b,L.o+i*L.sz+j,none⟩ x) o ((k,{ae M k with b:= .row sz n ((⟨sz,n,f⟩:Row).set i0 j0 (.il bp n2 ((⟨bp,n2,g⟩:Row).set i j v).f)).f})::M):=by
  obtain⟨r,e1,e2,e3,e4⟩:=hm.row k _ L hL
  unfold rowAt at e1
  rw[hb]at e1
  have e1:inner ⟨sz,n,f⟩ i0 j0=some r:=e1
  unfold inner at e1
  simp only[hg]at e1
  obtain rfl:=Option.some.inj e1
  have wD: ∀i',∃n' g',f i' j0= .il bp n' g'/\((⟨sz,n,f⟩:Row).set i0 j0 (.il bp n2 ((⟨bp,n2,g⟩:Row).set i j v).f)).f i' j0= .il bp (bif Nat.beq i' i0 then n2 else n') (λa b=>jB (Nat.beq i' i0) (((⟨bp,n2,g⟩:Row).set i j v).f a b) (g' a b)):=by
    intro i'
    obtain⟨n',g',h⟩:=Cb (n7 i')
    exact⟨n',g',h,by rw[qK];show iu _ _ (f i' j0)=_;rw[h];simp[iu]⟩
  have A4: ∀i' n' g',f i' j0= .il bp n' g'->(bif Nat.beq i' i0 then n2 else n')=n':=by
    intro i' n' g' h
    cases hb:Nat.beq i' i0
    · rfl
    · obtain rfl:=Nat.eq_of_beq_eq_true hb
      rw[hg]at h;cases h;rfl
  refine bz.put hm hL hi (by rw[<-e2];exact hj) ⟨rfl,rfl,rfl⟩ (λ_ h=>by cases h) ?_
  intro q r hr
  rw[hb]at hr
  cases q with
  |none=>
   obtain rfl:=Option.some.inj hr
   refine⟨⟨sz,n,((⟨sz,n,f⟩:Row).set i0 j0 (.il bp n2 ((⟨bp,n2,g⟩:Row).set i j v).f)).f⟩,rfl,rfl,rfl,λa ha b dQ=>⟨?_,?_⟩⟩
   · rintro ⟨h,_⟩;cases h
   · intro _ w' y hy
     show cF _ _ _ _ _ _ (((⟨sz,n,f⟩:Row).set i0 j0 (.il bp n2 ((⟨bp,n2,g⟩:Row).set i j v).f)).f a b) _
     by_cases iU:b=j0
     · subst iU
       obtain⟨n',g',J,U⟩:=wD a
       rw[U]
       have hy:cF w' o (ae M k).hl k a b (f a b) y:=hy
       rw[J]at hy
       show _\/_
       rw[A4 a n' g' J]
       exact hy
     · rw[qL iU];exact hy
  |some ij=>
   obtain⟨i',j'⟩:=ij
   have hr:inner ⟨sz,n,f⟩ i' j'=some r:=hr
   by_cases ou:j'=j0
   · subst ou
     obtain⟨n',g',J,U⟩:=wD i'
     unfold inner at hr
     simp only[J]at hr
     obtain rfl:=Option.some.inj hr
     refine⟨⟨bp,bif Nat.beq i' i0 then n2 else n',λa b=>jB (Nat.beq i' i0) (((⟨bp,n2,g⟩:Row).set i j v).f a b) (g' a b)⟩,by show inner ⟨sz,n,_⟩ i' j'=_;unfold inner;simp only[U],rfl,A4 i' n' g' J,λa ha b dQ=>⟨?_,?_⟩⟩
     · rintro ⟨hq,rfl,rfl⟩ w' kW
       simp only[Option.some.injEq,Prod.mk.injEq,and_true]at hq
       subst hq
       refine uK (λ_=>?_) (λh=>by rw[Nat.beq_refl]at h;cases h)
       rw[qK]
       exact oF (λ_=>hx.ext kW) (λh=>by rw[Nat.beq_refl]at h;cases h)
     · intro cf w' y hy
       refine uK (λh=>?_) (λ_=>hy)
       have h:=Nat.eq_of_beq_eq_true h
       subst h
       rw[hg]at J;cases J
       by_cases iU:b=j
       · subst iU
         rw[qK]
         exact oF (λh=>absurd (Nat.eq_of_beq_eq_true h) (λe=>cf ⟨rfl,e,rfl⟩)) (λ_=>hy)
       · rw[qL iU];exact hy
   · refine⟨r,?_,rfl,rfl,λa ha b dQ=>⟨?_,λ_ _ _ h=>h⟩⟩
     · show inner ⟨sz,n,_⟩ i' j'=some r
       unfold inner at hr⊢
       simp only[qL ou]
       exact hr
     · rintro ⟨h,_⟩
       simp only[Option.some.injEq,Prod.mk.injEq]at h
       exact absurd h.2 ou
end Go.Sy
set_option linter.unusedVariables false
set_option linter.unusedSimpArgs false
namespace Go.Sy
open Go.RowKit
def Ow.re (o:Ow) (β:Nat->Path->Option Loc) (M:Mem):Ow:=⟨λb=> ∃k p L,β k p=some L/\L.b=b,o.Z,β,dG M⟩
theorem bz.re {w:World} {o:Ow} {M:Mem} (hm:aR w o M) {β:Nat->Path->Option Loc} {M':Mem} (φ:Nat->Path->Nat×Path)
    (J: ∀k p L,β k p=some L-> ∃L0,o.β (φ k p).1 (φ k p).2=some L0/\L.b=L0.b)
    (U: ∀k p L k' p' L',β k p=some L->β k' p'=some L'->φ k p=φ k' p'->k=k'/\p=p')
    (bP:Ext w o w (o.re β M')) (h3: ∀k p L,β k p=some L-> ∃r,rowAt M' k p=some r/\r.sz=L.sz/\r.n=L.cY/\ma w (o.re β M') (ae M' k).hl k p L r)
    (h4: ∀k l,(ae M' k).b= .cells l-> ∃L,β k none=some L) (h5: ∀k i j,(ae M' k).hl=some (i,j)->β k (some (i,j))=none):bz w o M w (o.re β M') M':=by
  refine⟨bP,rfl,λ_ h=>h,?_,?_,hm.fD,?_,?_,h3,h4,h5⟩
  · rintro b ⟨k,p,L,e1,rfl⟩
    obtain⟨L0,f1,f2⟩:=J _ _ _ e1
    rw[f2];exact hm.low _ _ _ f1
  · rintro b ⟨k,p,L,e1,rfl⟩
    obtain⟨L0,f1,f2⟩:=J _ _ _ e1
    rw[f2];exact hm.dj _ (hm.own _ ⟨_,_,_,f1,rfl⟩)
  · intro k p L k' p' L' e1 e2 e
    obtain⟨L0,f1,f2⟩:=J _ _ _ e1
    obtain⟨L1,g1,g2⟩:=J _ _ _ e2
    obtain⟨q1,q2⟩:=hm.inj _ _ _ _ _ _ f1 g1 (by rw[<-f2,<-g2];exact e)
    exact U _ _ _ _ _ _ e1 e2 (Prod.ext q1 q2)
  · intro k p L e1
    obtain⟨L0,f1,f2⟩:=J _ _ _ e1
    rw[f2];exact hm.low _ _ _ f1
theorem DO {w:World} {o:Ow} {M M':Mem} (hm:aR w o M) {β:Nat->Path->Option Loc} (J: ∀k p L,β k p=some L-> ∃k0 p0 L0,o.β k0 p0=some L0/\L.b=L0.b)
    (U: ∀k,(ae M k).rs<=(ae M' k).rs/\(ae M k).ds<=(ae M' k).ds) (h3: ∀k p L,o.β k p=some L->st (dG M') k p=st (dG M) k p->β k p=some L):Ext w o w (o.re β M') where
  os:=rfl
  tape:=rfl
  output:=rfl
  same:=λ_ _ _=>rfl
  free:=λb _ h h'=>by
    obtain⟨k,p,L,e1,e2⟩:=h'
    obtain⟨k0,p0,L0,f1,f2⟩:=J _ _ _ e1
    exact h ((hm.own b) ⟨k0,p0,L0,f1,by rw[<-f2];exact e2⟩)
  fZ:=λ_ _ _ h=>h
  size:=Nat.le_refl _
  mono:=λk=>by rw[hm.cur];exact U k
  lz:=λk p L h e=>h3 k p L h (by rw[hm.cur]at e;exact e)
  zs:=λ_ h=>h
def kill (M:Mem) (k:Nat):Mem:=(k,⟨(ae M k).rs+1,(ae M k).ds+1,none,.dead⟩)::M
theorem uo {M:Mem} {k:Nat}:ae (kill M k) k=⟨(ae M k).rs+1,(ae M k).ds+1,none,.dead⟩:=c_
theorem lb {M:Mem} {k k':Nat} (h:k≠k'):ae (kill M k) k'=ae M k':=cB h
theorem bz.kill {w:World} {o:Ow} {M:Mem} (hm:aR w o M) (k:Nat): ∃o',bz w o M w o' (kill M k)/\(∀k' p,k'≠k->o'.β k' p=o.β k' p)/\(∀p,o'.β k p=none):=by
  refine⟨o.re (λk' p=>if k'=k then none else o.β k' p) (Sy.kill M k),?_,λk' p h=>if_neg h,λp=>if_pos rfl⟩
  have cZ: ∀{k' p L},(if k'=k then none else o.β k' p)=some L->k'≠k/\o.β k' p=some L:=by
    intro k' p L h
    split at h
    · cases h
    · next cf=>exact⟨cf,h⟩
  have bP:Ext w o w (o.re (λk' p=>if k'=k then none else o.β k' p) (Sy.kill M k)):=by
    refine DO hm (λk' p L h=>⟨k',p,L,(cZ h).2,rfl⟩) (λk'=>?_) (λk' p L h e=>?_)
    · by_cases hk:k=k'
      · subst hk;rw[uo];exact⟨Nat.le_succ _,Nat.le_succ _⟩
      · rw[lb hk];exact⟨Nat.le_refl _,Nat.le_refl _⟩
    · show(if k'=k then none else o.β k' p)=some L
      rw[if_neg]
      · exact h
      · intro hk
        subst hk
        cases p<;>simp[st,dG,uo]at e
  refine bz.re hm (λk p=>(k,p)) (λk' p L h=>⟨L,(cZ h).2,rfl⟩) (λ_ _ _ _ _ _ _ _ e=>by simpa using e) bP (λk' p L h=>?_) (λk' l h=>?_) (λk' i j h=>?_)
  · obtain⟨cf,h⟩:=cZ h
    obtain⟨r,e1,e2,e3,e4⟩:=hm.row _ _ _ h
    refine⟨r,by unfold rowAt;rw[lb (Ne.symm cf)];exact e1,e2,e3,?_⟩
    rw[lb (Ne.symm cf)]
    refine e4.ext bP ?_ (λq=>if_neg cf) rfl
    show(dG _ k').2=_
    rw[hm.cur]
    simp only[dG,lb (Ne.symm cf)]
  · have cf:k≠k':=by
      intro e;subst e;rw[uo]at h;cases h
    rw[lb cf]at h
    obtain⟨L,hL⟩:=hm.live _ _ h
    exact⟨L,(if_neg (Ne.symm cf)).trans hL⟩
  · by_cases hk:k=k'
    · subst hk;exact if_pos rfl
    · rw[lb hk]at h
      exact(if_neg (Ne.symm hk)).trans (hm.eM _ _ _ h)
/-! ### a slice is taken out of its cell -/
def dw:SV->SV
  | .il _ _ _=> .aK
  |s=>s
theorem um (s:SV):cM (dw s)=false:=by cases s<;>rfl
theorem pY {w:World} {o:Ow} {s:SV} {u:Value} (h:Den w o s u):Den w o (dw s) u:=by cases s<;>first|exact h|trivial
def kb (M:Mem) (k i j:Nat):Mem:=(k,⟨(ae M k).rs,(ae M k).ds+1,some (i,j),(ae M k).b⟩)::M
theorem GW {M:Mem} {k i j:Nat}:ae (kb M k i j) k=⟨(ae M k).rs,(ae M k).ds+1,some (i,j),(ae M k).b⟩:=c_
theorem xm {M:Mem} {k i j k':Nat} (h:k≠k'):ae (kb M k i j) k'=ae M k':=cB h
theorem bz.MA {w:World} {o:Ow} {M:Mem} (hm:aR w o M) {k r i j:Nat} (jo:k≠r) (hf:tA o M r) (jg:(ae M k).hl=none) {sz n bp n2:Nat} {f g:Nat->Nat->SV} (hb:(ae M k).b= .row sz n f) (hg:f i j= .il bp n2 g):
    ∃o',bz w o M w o' (fresh (kb M k i j) r (.row bp n2 λa b=>dw (g a b)))/\o'.β r none=o.β k (some (i,j))/\(∀p,p≠none->o'.β r p=none)/\(∀k' p,k'≠r->(k',p)≠(k,some (i,j))->o'.β k' p=o.β k' p):=by
  let β:Nat->Path->Option Loc:=λk' p=>if k'=r then(if p=none then o.β k (some (i,j))else none)else if k'=k/\p=some (i,j)then none else o.β k' p
  let φ:Nat->Path->Nat×Path:=λk' p=>if k'=r then(k,some (i,j))else(k',p)
  have cZ: ∀{k' p L},β k' p=some L->(k'=r/\p=none/\o.β k (some (i,j))=some L)\/(k'≠r/\ ¬(k'=k/\p=some (i,j))/\o.β k' p=some L):=by
    intro k' p L h
    by_cases J:k'=r
    · simp only[β,if_pos J]at h
      by_cases U:p=none
      · simp only[if_pos U]at h;exact .inl ⟨J,U,h⟩
      · simp only[if_neg U]at h;cases h
    · simp only[β,if_neg J]at h
      by_cases U:k'=k/\p=some (i,j)
      · simp only[if_pos U]at h;cases h
      · simp only[if_neg U]at h;exact .inr ⟨J,U,h⟩
  have gY: ∀k',k'≠r->k'≠k->ae (fresh (kb M k i j) r (.row bp n2 λa b=>dw (g a b))) k'=ae M k':=λk' J U=>by
    unfold fresh;rw[cB (Ne.symm J),xm (Ne.symm U)]
  have fE:ae (fresh (kb M k i j) r (.row bp n2 λa b=>dw (g a b))) k=⟨(ae M k).rs,(ae M k).ds+1,some (i,j),(ae M k).b⟩:=by
    unfold fresh;rw[cB (Ne.symm jo),GW]
  have iP:ae (fresh (kb M k i j) r (.row bp n2 λa b=>dw (g a b))) r=⟨(ae M r).rs,(ae M r).ds,none,.row bp n2 λa b=>dw (g a b)⟩:=by
    unfold fresh;rw[c_,xm jo]
  have vY: ∀k' p L,β k' p=some L-> ∃L0,o.β (φ k' p).1 (φ k' p).2=some L0/\L.b=L0.b:=by
    intro k' p L h
    rcases cZ h with⟨rfl,rfl,h3⟩|⟨J,U,h3⟩
    · exact⟨L,by simpa [φ]using h3,rfl⟩
    · exact⟨L,by simpa [φ,J]using h3,rfl⟩
  have bP:Ext w o w (o.re β (fresh (kb M k i j) r (.row bp n2 λa b=>dw (g a b)))):=by
    refine DO hm (λk' p L h=>let⟨L0,e1,e2⟩:=vY k' p L h;⟨_,_,L0,e1,e2⟩) (λk'=>?_) (λk' p L h e=>?_)
    · by_cases J:k'=r
      · subst J;rw[iP];exact⟨Nat.le_refl _,Nat.le_refl _⟩
      · by_cases U:k'=k
        · subst U;rw[fE];exact⟨Nat.le_refl _,Nat.le_succ _⟩
        · rw[gY k' J U];exact⟨Nat.le_refl _,Nat.le_refl _⟩
    · have J:k'≠r:=by intro e;subst e;rw[hf.2.2]at h;cases h
      simp only[β,if_neg J]
      rw[if_neg]
      · exact h
      · rintro ⟨rfl,rfl⟩
        simp[st,dG,fE]at e
  refine⟨o.re β _,bz.re hm φ vY ?_ bP ?_ ?_ ?_,?_,?_,?_⟩
  · intro k1 p1 L1 k2 p2 L2 e1 e2 e
    rcases cZ e1 with⟨rfl,rfl,_⟩|⟨J,U,_⟩<;>rcases cZ e2 with⟨rfl,rfl,_⟩|⟨g1,g2,_⟩
    · exact⟨rfl,rfl⟩
    · simp only[φ,if_true,if_neg g1,Prod.mk.injEq]at e;exact absurd ⟨e.1.symm,e.2.symm⟩ g2
    · simp only[φ,if_true,if_neg J,Prod.mk.injEq]at e;exact absurd e U
    · simp only[φ,if_neg J,if_neg g1,Prod.mk.injEq]at e;exact e
  · intro k' p L h
    rcases cZ h with⟨rfl,rfl,h5⟩|⟨J,U,h5⟩
    · obtain⟨r1,e1,e2,e3,c,T,e4,e5,e6,e7⟩:=hm.row _ _ _ h5
      unfold rowAt at e1
      rw[hb]at e1
      have e1:inner ⟨sz,n,f⟩ i j=some r1:=e1
      unfold inner at e1
      simp only[hg]at e1
      obtain rfl:=Option.some.inj e1
      refine⟨⟨bp,n2,λa b=>dw (g a b)⟩,by unfold rowAt;rw[iP];rfl,e2,e3,c,T,e4,e5,e6,λa ha b dQ=>?_⟩
      obtain⟨x,x1,x2⟩:=e7 a ha b dQ
      refine⟨x,x1,?_⟩
      have x2:Den w o (g a b) x:=x2
      have x3:=x2.ext bP
      rw[iP]
      show cF _ _ none k' a b (dw (g a b)) x
      rw[fq (um _)]
      exact pY x3
    · obtain⟨r1,e1,e2,e3,e4⟩:=hm.row _ _ _ h5
      by_cases hk:k'=k
      · subst hk
        refine⟨r1,by unfold rowAt;rw[fE];exact e1,e2,e3,?_⟩
        rw[fE]
        obtain⟨c,T,f1,f2,f3,f4⟩:=e4
        refine⟨c,T,f1,f2,f3,λa ha b dQ=>?_⟩
        obtain⟨x,x1,x2⟩:=f4 a ha b dQ
        refine⟨x,x1,?_⟩
        cases p with
        |some _=>exact Den.ext bP x2
        |none=>
         have x2:cF w o (ae M k').hl k' a b (r1.f a b) x:=x2
         show cF _ _ (some (i,j)) k' a b (r1.f a b) x
         generalize r1.f a b=s1 at x2⊢
         cases hi:cM s1 with
         |false=>rw[fq hi]at*;exact x2.ext bP
         |true=>
          cases s1 with
          |il s5 n5 g5=>
           rcases x2 with x2|⟨⟨q,cap,y1,y2,y3,y4⟩,y5⟩
           · rw[jg]at x2;cases x2
           · by_cases na:(a,b)=(i,j)
             · simp only[Prod.mk.injEq]at na;obtain⟨rfl,rfl⟩:=na;exact .inl rfl
             · have jT:(o.re β (fresh (kb M k' i j) r (.row bp n2 λa b=>dw (g a b)))).β k' (some (a,b))=o.β k' (some (a,b)):=by
                 show β k' (some (a,b))=_
                 simp only[β,if_neg J]
                 rw[if_neg]
                 rintro ⟨_,e⟩
                 exact na (Option.some.inj e)
               exact .inr ⟨⟨q,cap,y1,y2,y3,by rw[jT];exact y4⟩,by rw[jT];exact y5⟩
          |_=>cases hi
      · refine⟨r1,by unfold rowAt;rw[gY k' J hk];exact e1,e2,e3,?_⟩
        rw[gY k' J hk]
        refine e4.ext bP ?_ (λq=>?_) rfl
        · show(dG _ k').2=_
          rw[hm.cur];simp only[dG,gY k' J hk]
        · show β k' q=_
          simp only[β,if_neg J]
          rw[if_neg (λh=>hk h.1)]
  · intro k' l h
    by_cases J:k'=r
    · subst J;rw[iP]at h;cases h
    · by_cases U:k'=k
      · subst U;rw[fE,hb]at h;cases h
      · rw[gY k' J U]at h
        obtain⟨L,hL⟩:=hm.live _ _ h
        refine⟨L,?_⟩
        simp only[β,if_neg J]
        rw[if_neg (λh=>U h.1)]
        exact hL
  · intro k' a b h
    by_cases J:k'=r
    · subst J;rw[iP]at h;cases h
    · simp only[β,if_neg J]
      by_cases U:k'=k
      · subst U
        rw[fE]at h
        rw[if_pos ⟨rfl,h.symm⟩]
      · rw[gY k' J U]at h
        rw[if_neg (λh=>U h.1)]
        exact hm.eM _ _ _ h
  · show β r none=_
    simp[β]
  · intro p hp
    show β r p=none
    simp[β,hp]
  · intro k' p J U
    show β k' p=_
    simp only[β,if_neg J]
    rw[if_neg]
    rintro ⟨rfl,rfl⟩
    exact U rfl
theorem bz.dummy {w:World} {o:Ow} {M:Mem} (hm:aR w o M) {r:Nat} (hf:tA o M r) (sz n:Nat) (f:Nat->Nat->SV):bz w o M w o (fresh M r (.row sz n f)):=by
  refine⟨Ext.refl _ _,?_,hm.own,hm.d_,hm.dj,hm.fD,hm.inj,hm.low,λk p L h=>?_,λk l h=>?_,λk i j h=>?_⟩
  · rw[hm.cur];exact(se (M:=M) (k:=r) (e:=⟨(ae M r).rs,(ae M r).ds,none,.row sz n f⟩) rfl rfl).symm
  · have cf:r≠k:=λe=>by subst e;rw[hf.2.2]at h;cases h
    obtain⟨r1,e1,e2,e3,e4⟩:=hm.row k p L h
    exact⟨r1,by unfold rowAt fresh;rw[cB cf];exact e1,e2,e3,by unfold fresh;rw[cB cf];exact e4⟩
  · have cf:r≠k:=λe=>by subst e;unfold fresh at h;rw[c_]at h;cases h
    unfold fresh at h;rw[cB cf]at h
    exact hm.live k l h
  · by_cases cf:r=k
    · subst cf;exact hf.2.2 _
    · unfold fresh at h;rw[cB cf]at h
      exact hm.eM _ _ _ h
def fill (M:Mem) (k i j r sz n:Nat) (f:Nat->Nat->SV) (bp n2:Nat) (g:Nat->Nat->SV):Mem:=
  (k,⟨(ae M k).rs,(ae M k).ds+1,none,.row sz n ((⟨sz,n,f⟩:Row).set i j (.il bp n2 g)).f⟩)::kill M r
theorem bz.fill {w:World} {o:Ow} {M:Mem} (hm:aR w o M) {k r i j:Nat} (jo:k≠r) (jg:(ae M k).hl=some (i,j)) {sz n bp n2 nr:Nat} {f g:Nat->Nat->SV} (hb:(ae M k).b= .row sz n f) (n7: ∀i',qV bp (f i' j)=true)
    (hr:(ae M r).b= .row bp nr g) {x:Value} (hx:Head o r none 0 n2 x) {L:Loc} (hL:o.β k none=some L) (hi:i<L.cY) (hj:j<sz):
    ∃o',bz w o M (w.setCell ⟨L.b,L.o+i*L.sz+j,none⟩ x) o' (Sy.fill M k i j r sz n f bp n2 g)/\(∀k' p,k'≠r->(k',p)≠(k,some (i,j))->o'.β k' p=o.β k' p)/\(∀p,o'.β r p=none):=by
  obtain⟨nh,gh,cX⟩:=Cb (n7 i)
  obtain⟨r0,e1,e2,e3,_⟩:=hm.row k none L hL
  unfold rowAt at e1
  rw[hb]at e1
  obtain rfl:=Option.some.inj e1
  have s1:bz w o M (w.setCell ⟨L.b,L.o+i*L.sz+j,none⟩ x) o ((k,ae M k)::M):=by
    refine bz.put hm hL hi (by rw[<-e2];exact hj) ⟨rfl,rfl,rfl⟩ (λl h=>⟨l,h⟩) (λq r h=>⟨r,h,rfl,rfl,λa ha b dQ=>⟨?_,λ_ _ _ h=>h⟩⟩)
    rintro ⟨rfl,rfl,rfl⟩ w' kW
    rw[hb]at h
    obtain rfl:=Option.some.inj h
    show cF _ _ _ _ _ _ (f a b) _
    rw[cX]
    exact .inl jg
  have ot:=s1.mem
  have pb: ∀c T,(w.setCell ⟨L.b,L.o+i*L.sz+j,none⟩ x).heap[L.b]? =some (Obj.cells c T (0,0))->L.o+i*L.sz+j<c.size->c[L.o+i*L.sz+j]? =some x:=by
    intro c T h ai
    obtain⟨_,_,_,_,c0,T0,f1,f2,f3,f4⟩:=hm.row k none L hL
    rw[GQ f1]at h
    obtain⟨rfl,_⟩:=Obj.cells.inj (Option.some.inj h)
    rw[Array.getElem?_setIfInBounds_self_of_lt (by simpa using ai)]
  generalize hw1:w.setCell ⟨L.b,L.o+i*L.sz+j,none⟩ x=w1 at s1 ot pb
  let β:Nat->Path->Option Loc:=λk' p=>if k'=r then none else if k'=k/\p=some (i,j)then(o.β r none).map (λL=>{L with cY:=n2})else o.β k' p
  let φ:Nat->Path->Nat×Path:=λk' p=>if k'=k/\p=some (i,j)then(r,none)else(k',p)
  have cZ: ∀{k' p L'},β k' p=some L'->(k'=k/\p=some (i,j)/\ ∃L0,o.β r none=some L0/\L'={L0 with cY:=n2})\/(k'≠r/\ ¬(k'=k/\p=some (i,j))/\o.β k' p=some L'):=by
    intro k' p L' h
    by_cases J:k'=r
    · simp only[β,if_pos J]at h;cases h
    · simp only[β,if_neg J]at h
      by_cases U:k'=k/\p=some (i,j)
      · rw[if_pos U]at h
        cases m6:o.β r none with
        |none=>rw[m6]at h;cases h
        |some L0=>rw[m6]at h;exact .inl ⟨U.1,U.2,L0,rfl,(Option.some.inj h).symm⟩
      · rw[if_neg U]at h;exact .inr ⟨J,U,h⟩
  have fE:ae (Sy.fill M k i j r sz n f bp n2 g) k=⟨(ae M k).rs,(ae M k).ds+1,none,.row sz n ((⟨sz,n,f⟩:Row).set i j (.il bp n2 g)).f⟩:=c_
  have iP:ae (Sy.fill M k i j r sz n f bp n2 g) r=⟨(ae M r).rs+1,(ae M r).ds+1,none,.dead⟩:=by unfold Sy.fill;rw[cB jo,uo]
  have gY: ∀k',k'≠r->k'≠k->ae (Sy.fill M k i j r sz n f bp n2 g) k'=ae M k':=λk' J U=>by unfold Sy.fill;rw[cB (Ne.symm U),lb (Ne.symm J)]
  have nP: ∀k',ae ((k,ae M k)::M) k'=ae M k':=λk'=>by
    by_cases h:k=k'
    · subst h;rw[c_]
    · rw[cB h]
  have vY: ∀k' p L',β k' p=some L'-> ∃L0,o.β (φ k' p).1 (φ k' p).2=some L0/\L'.b=L0.b:=by
    intro k' p L' h
    rcases cZ h with⟨rfl,rfl,L0,h3,rfl⟩|⟨J,U,h3⟩
    · exact⟨L0,by simpa [φ]using h3,rfl⟩
    · exact⟨L',by simpa [φ,U]using h3,rfl⟩
  have bP:Ext w1 o w1 (o.re β (Sy.fill M k i j r sz n f bp n2 g)):=by
    refine DO ot (λk' p L' h=>let⟨L0,e1,e2⟩:=vY k' p L' h;⟨_,_,L0,e1,e2⟩) (λk'=>?_) (λk' p L' h e=>?_)
    · rw[nP]
      by_cases J:k'=k
      · subst J;rw[fE];exact⟨Nat.le_refl _,Nat.le_succ _⟩
      · by_cases U:k'=r
        · subst U;rw[iP];exact⟨Nat.le_succ _,Nat.le_succ _⟩
        · rw[gY k' U J];exact⟨Nat.le_refl _,Nat.le_refl _⟩
    · have J:k'≠r:=by
        intro e;subst e
        cases p<;>simp[st,dG,iP,nP]at e
      simp only[β,if_neg J]
      rw[if_neg]
      · exact h
      · rintro ⟨rfl,rfl⟩
        simp[st,dG,fE,nP]at e
  have jQ: ∀i',∃n' g',f i' j= .il bp n' g'/\((⟨sz,n,f⟩:Row).set i j (.il bp n2 g)).f i' j= .il bp (bif Nat.beq i' i then n2 else n') (λa b=>jB (Nat.beq i' i) (g a b) (g' a b)):=by
    intro i'
    obtain⟨n',g',h⟩:=Cb (n7 i')
    exact⟨n',g',h,by rw[qK];show iu _ _ (f i' j)=_;rw[h];simp[iu]⟩
  refine⟨o.re β _,s1.trans (⟨bP,(bz.re ot φ vY ?_ bP ?_ ?_ ?_).mem⟩:bz w1 o _ w1 _ _),?_,?_⟩
  · intro k1 p1 L1 k2 p2 L2 e1 e2 e
    rcases cZ e1 with⟨rfl,rfl,_⟩|⟨J,U,_⟩<;>rcases cZ e2 with⟨rfl,rfl,_⟩|⟨g1,g2,_⟩
    · exact⟨rfl,rfl⟩
    · simp only[φ,if_neg g2,and_self,if_true,Prod.mk.injEq]at e;exact absurd e.1.symm g1
    · simp only[φ,if_neg U,and_self,if_true,Prod.mk.injEq]at e;exact absurd e.1 J
    · simp only[φ,if_neg U,if_neg g2,Prod.mk.injEq]at e;exact e
  · intro k' p L' h
    rcases cZ h with⟨rfl,rfl,L0,h5,rfl⟩|⟨J,U,h5⟩
    · obtain⟨r1,e4,e5,e6,c,T,e7,e8,e9,lI⟩:=ot.row _ _ _ h5
      unfold rowAt at e4
      rw[nP,hr]at e4
      obtain rfl:=Option.some.inj e4
      obtain⟨n',g',g1,g2⟩:=jQ i
      have Qu:n2<=L0.cY:=by
        obtain⟨q,cap,y1,y2,y3,y4⟩:=hx
        rcases y4 with rfl|⟨L2,y5,y6,y7,y8⟩
        · omega
        · obtain rfl:L0=L2:=Option.some.inj (h5.symm.trans y5)
          omega
      have Ew:inner ⟨sz,n,((⟨sz,n,f⟩:Row).set i j (.il bp n2 g)).f⟩ i j=some ⟨bp,bif Nat.beq i i then n2 else n',λa b=>jB (Nat.beq i i) (g a b) (g' a b)⟩:=by
        unfold inner;simp only[g2]
      refine⟨⟨bp,bif Nat.beq i i then n2 else n',λa b=>jB (Nat.beq i i) (g a b) (g' a b)⟩,by unfold rowAt;rw[fE];exact Ew,e5,by simp,c,T,e7,e8,?_,λa ha b dQ=>?_⟩
      · have:=Nat.mul_le_mul_right L0.sz Qu
        show L0.o+n2*L0.sz<=L0.len
        omega
      · obtain⟨y,y1,y2⟩:=lI a (Nat.lt_of_lt_of_le ha Qu) b dQ
        refine⟨y,y1,?_⟩
        rw[nP]at y2
        have y2:cF w1 o _ r a b (g a b) y:=y2
        show Den _ _ (jB (Nat.beq i i) (g a b) (g' a b)) y
        refine uK (λ_=>?_) (λh=>by rw[Nat.beq_refl]at h;cases h)
        cases rG:cM (g a b)with
        |false=>rw[fq rG]at y2;exact y2.ext bP
        |true=>
         cases hs:g a b with
         |il _ _ _=>trivial
         |_=>rw[hs]at rG;cases rG
    · obtain⟨r1,e4,e5,e6,e7⟩:=ot.row _ _ _ h5
      by_cases hk:k'=k
      · subst hk
        unfold rowAt at e4
        rw[nP,hb]at e4
        cases p with
        |none=>
         obtain rfl:=Option.some.inj e4
         obtain rfl:L=L':=Option.some.inj (hL.symm.trans h5)
         refine⟨⟨sz,n,((⟨sz,n,f⟩:Row).set i j (.il bp n2 g)).f⟩,by unfold rowAt;rw[fE];rfl,e5,e6,?_⟩
         rw[fE]
         obtain⟨c,T,f1,f2,f3,f4⟩:=e7
         refine⟨c,T,f1,f2,f3,λa ha b dQ=>?_⟩
         obtain⟨y,y1,y2⟩:=f4 a ha b dQ
         refine⟨y,y1,?_⟩
         rw[nP,jg]at y2
         have y2:cF w1 o _ k' a b (f a b) y:=y2
         show cF _ _ none k' a b (((⟨sz,n,f⟩:Row).set i j (.il bp n2 g)).f a b) y
         by_cases na:a=i/\b=j
         · obtain⟨rfl,rfl⟩:=na
           obtain⟨n',g',g1,g2⟩:=jQ a
           rw[g2]
           obtain rfl:y=x:=Option.some.inj (y1.symm.trans (pb c T f1 (Array.getElem?_eq_some_iff.1 y1).1))
           refine .inr ⟨?_,?_⟩
           · rw[Nat.beq_refl]
             obtain⟨q,cap,z1,z2,z3,z4⟩:=hx
             refine⟨q,cap,z1,z2,z3,z4.imp id ?_⟩
             rintro ⟨L2,z5,z6,z7,z8⟩
             refine⟨{L2 with cY:=n2},?_,z6,z7,by simp⟩
             show β k' (some (a,b))=_
             simp only[β,if_neg J,and_self,if_true,z5,Option.map_some]
           · intro L2 Gs
             have Gs:β k' (some (a,b))=some L2:=Gs
             rcases cZ Gs with⟨_,_,L3,z5,rfl⟩|⟨_,hh,_⟩
             · obtain⟨r3,u1,u2,u3,_⟩:=hm.row _ _ _ z5
               unfold rowAt at u1
               rw[hr]at u1
               obtain rfl:=Option.some.inj u1
               exact u2.symm
             · exact absurd ⟨rfl,rfl⟩ hh
         · by_cases iU:b=j
           · subst iU
             have wT:a≠i:=λe=>na ⟨e,rfl⟩
             have Ah:Nat.beq a i=false:=by
               cases hq:Nat.beq a i
               · rfl
               · exact absurd (Nat.eq_of_beq_eq_true hq) wT
             obtain⟨n',g',g1,g2⟩:=jQ a
             rw[g2,Ah]
             rw[g1]at y2
             rcases y2 with y2|⟨⟨q,cap,z1,z2,z3,z4⟩,z9⟩
             · simp only[Option.some.injEq,Prod.mk.injEq,and_true]at y2;exact absurd y2.symm wT
             · have jT:β k' (some (a,b))=o.β k' (some (a,b)):=by
                 simp only[β,if_neg J]
                 rw[if_neg]
                 rintro ⟨_,e⟩
                 simp only[Option.some.injEq,Prod.mk.injEq,and_true]at e
                 exact wT e
               exact .inr ⟨⟨q,cap,z1,z2,z3,by show _\/ ∃L,β k' (some (a,b))=_/\_;rw[jT];exact z4⟩,λL2 U=>z9 L2 (by rw[<-jT];exact U)⟩
           · rw[qL iU]
             show cF _ _ none k' a b (f a b) y
             cases rG:cM (f a b)with
             |false=>rw[fq rG]at*;exact y2.ext bP
             |true=>
              generalize hs:f a b=s5 at y2⊢
              cases s5 with
              |il s6 n6 g6=>
               rcases y2 with y2|⟨⟨q,cap,z1,z2,z3,z4⟩,z9⟩
               · simp only[Option.some.injEq,Prod.mk.injEq]at y2;exact absurd y2.2.symm iU
               · have jT:β k' (some (a,b))=o.β k' (some (a,b)):=by
                   simp only[β,if_neg J]
                   rw[if_neg]
                   rintro ⟨_,e⟩
                   simp only[Option.some.injEq,Prod.mk.injEq]at e
                   exact iU e.2
                 exact .inr ⟨⟨q,cap,z1,z2,z3,by show _\/ ∃L,β k' (some (a,b))=_/\_;rw[jT];exact z4⟩,λL2 U=>z9 L2 (by rw[<-jT];exact U)⟩
              |_=>rw[hs]at rG;cases rG
        |some ab=>
         obtain⟨a',b'⟩:=ab
         have e4:inner ⟨sz,n,f⟩ a' b'=some r1:=e4
         by_cases iU:b'=j
         · subst iU
           have wT:a'≠i:=λe=>U ⟨rfl,by rw[e]⟩
           have Ah:Nat.beq a' i=false:=by
             cases hq:Nat.beq a' i
             · rfl
             · exact absurd (Nat.eq_of_beq_eq_true hq) wT
           obtain⟨n',g',g1,g2⟩:=jQ a'
           unfold inner at e4
           simp only[g1]at e4
           obtain rfl:=Option.some.inj e4
           have Ew:inner ⟨sz,n,((⟨sz,n,f⟩:Row).set i b' (.il bp n2 g)).f⟩ a' b'=some ⟨bp,bif Nat.beq a' i then n2 else n',λa b=>jB (Nat.beq a' i) (g a b) (g' a b)⟩:=by
             unfold inner;simp only[g2]
           refine⟨⟨bp,bif Nat.beq a' i then n2 else n',λa b=>jB (Nat.beq a' i) (g a b) (g' a b)⟩,by unfold rowAt;rw[fE];exact Ew,e5,by rw[Ah];exact e6,?_⟩
           obtain⟨c,T,f1,f2,f3,f4⟩:=e7
           refine⟨c,T,f1,f2,f3,λa ha b dQ=>?_⟩
           obtain⟨y,y1,y2⟩:=f4 a ha b dQ
           refine⟨y,y1,?_⟩
           have y2:Den w1 o (g' a b) y:=y2
           show Den _ _ (jB (Nat.beq a' i) (g a b) (g' a b)) y
           exact uK (λh=>by rw[Ah]at h;cases h) (λ_=>y2.ext bP)
         · refine⟨r1,?_,e5,e6,?_⟩
           · unfold rowAt;rw[fE]
             show inner ⟨sz,n,((⟨sz,n,f⟩:Row).set i j (.il bp n2 g)).f⟩ a' b'=some r1
             unfold inner at e4⊢
             simp only[qL iU]
             exact e4
           · obtain⟨c,T,f1,f2,f3,f4⟩:=e7
             exact⟨c,T,f1,f2,f3,λa ha b dQ=>let⟨y,y1,y2⟩:=f4 a ha b dQ;⟨y,y1,Den.ext bP y2⟩⟩
      · refine⟨r1,by unfold rowAt at e4⊢;rw[gY k' J hk];rw[nP]at e4;exact e4,e5,e6,?_⟩
        rw[gY k' J hk]
        rw[nP]at e7
        refine e7.ext bP ?_ (λq=>?_) rfl
        · show(dG _ k').2=_
          rw[hm.cur];simp only[dG,gY k' J hk]
        · show β k' q=_
          simp only[β,if_neg J]
          rw[if_neg (λh=>hk h.1)]
  · intro k' l h
    by_cases J:k'=k
    · subst J;rw[fE]at h;cases h
    · by_cases U:k'=r
      · subst U;rw[iP]at h;cases h
      · rw[gY k' U J]at h
        obtain⟨L1,Gi⟩:=hm.live _ _ h
        refine⟨L1,?_⟩
        simp only[β,if_neg U]
        rw[if_neg (λh=>J h.1)]
        exact Gi
  · intro k' a b h
    by_cases J:k'=k
    · subst J;rw[fE]at h;cases h
    · by_cases U:k'=r
      · subst U;simp[β]
      · rw[gY k' U J]at h
        simp only[β,if_neg U]
        rw[if_neg (λh=>J h.1)]
        exact hm.eM _ _ _ h
  · intro k' p J U
    show β k' p=_
    simp only[β,if_neg J]
    rw[if_neg]
    rintro ⟨rfl,rfl⟩
    exact U rfl
  · intro p
    show β r p=none
    simp[β]
end Go.Sy
set_option linter.unusedVariables false
set_option linter.unusedSimpArgs false
namespace Go.Sy
open Go.RowKit
structure Cx (P:Program) (w:World) (ω:Ow) (ρ:Operand->SV) (M:Mem) (a:Act):Prop where
  val: ∀x,Den w ω (ρ x) (a.eval x)
  mem:aR w ω M
inductive R where
  |bad
  |ok (s:SV)
  |dz (p:Prop) (s:SV)
  |jR (p:Prop) (s:SV)
def R.run (r:R) (K:SV->Prop):Prop:=
  match r with
  | .bad=>False
  | .ok s=>K s
  | .dz p s=>p/\K s
  | .jR p s=>p->K s
section
variable {P:Program} {w:World} {ω:Ow} {ρ:Operand->SV} {M:Mem} {a:Act}
def fb (P:Program) (w:World) (ω:Ow) (a:Act) (o:Oper) (K:SV->Prop):Prop:=
  ∃s v,(execOp a.eval o).run P w= .ok (.value v) w/\Den w ω s v/\K s
/-! ### loads -/
def kT:TypeDesc->Bool
  | .struct _| .array _ _=>true
  |_=>false
def cC (m:Nat->bk) (k s:Nat):Path->Bool
  |none=>Nat.beq s (m k).rs
  |some _=>Nat.beq s (m k).ds
def qG (e:bk) (k:Nat) (p:Path) (i j:Nat) (s:SV):Option SV:=
  match s with
  | .il _ n _=>
    match p,e.hl with
    |none,none=>some (.aV k e.ds (some (i,j)) 0 n)
    |none,some (_,j0)=>match Nat.beq j0 j with|false=>some (.aV k e.ds (some (i,j)) 0 n)|true=>none
    |some _,_=>some .aK
  |s=>some s
def vX:List (Option SV)->Option (List SV)
  | []=>some []
  |x::r=>match x,vX r with|some x,some r=>some (x::r)|_,_=>none
theorem Ja: ∀{l:List (Option SV)} {vs:List SV},vX l=some vs->l=vs.map some
  | [],vs,h=>by simp[vX]at h;subst h;rfl
  |x::r,vs,h=>by
   unfold vX at h
   split at h
   · next x' r' hr=>
     obtain rfl:=Option.some.inj h
     simp[Ja hr]
   · cases h
def nG (k:IntKind):List SV->Option (List Int)
  | []=>some []
  | .v (.int k' x)::r=>match qF k' k,nG k r with|true,some l=>some (x::l)|_,_=>none
  |_::_=>none
def fj (l:List Int) (z:Nat):Int:=l.getD z 0
def vb (P:Program) (T:TypeId) (s:SV) (m:Nat->bk):R:=
  match P.info? T,P.underlying T with
  |some i,some d=>
   match s with
   | .ptr k st p ii j=>
     match cC m k st p,fC (m k).b p with
     |true,some r=>
      match kT d with
      |true=>
       match Nat.ble (j+i.size) r.sz with
       |true=>match vX ((List.range i.size).map λq=>qG (m k) k p ii (j+q) (r.f ii (j+q)))with|some l=> .ok (.ag i.size (aH l))|none=> .bad
       |false=> .bad
      |false=>match Nat.blt j r.sz with|true=>(match qG (m k) k p ii j (r.f ii j)with|some s=> .ok s|none=> .bad)|false=> .bad
     |_,_=> .bad
   | .pe k st p ii j len z=>
     match cC m k st p,fC (m k).b p,d with
     |true,some r,.int kk=>
      match Nat.ble (j+len) r.sz,nG kk ((List.range len).map λq=>r.f ii (j+q))with
      |true,some l=> .ok (.v (.int kk (fj l z)))
      |_,_=> .bad
     |_,_,_=> .bad
   | .pt _ n f=>
     match kT d with
     |true=>match Nat.ble i.size n with|true=> .ok (.ag i.size (out i.size f))|false=> .bad
     |false=>match Nat.blt 0 n with|true=> .ok (f 0)|false=> .bad
   |_=> .bad
  |_,_=> .bad
theorem GP {T:TypeId} {i:TypeInfo} {d:TypeDesc} (hi:P.info? T=some i) (hu:P.underlying T=some d) (hd:kT d=true) (w:World) (ad:Addr) (f:Nat->Value)
    (h: ∀j,j<i.size->w.cell? (ad.add j)=some (f j)):(loadVar T ad).run P w= .ok (.agg ((List.range i.size).map f).toArray) w:=by
  have ha:(isAgg T).run P w= .ok true w:=by
    simp only[isAgg,Sem.run_bind,run_underlying hu,Result.andThen]
    cases d<;>simp[kT]at hd<;>simp
  have hs:(sizeOf T).run P w= .ok i.size w:=by simp[sizeOf,run_typeInfo w hi,Result.andThen]
  simp[loadVar,ha,hs,run_loadCells w ad i.size f h,Result.andThen]
theorem xl {T:TypeId} {d:TypeDesc} (hu:P.underlying T=some d) (hd:kT d=false) (w:World) (ad:Addr) (x:Value)
    (h:w.cell? ad=some x):(loadVar T ad).run P w= .ok x w:=by
  have ha:(isAgg T).run P w= .ok false w:=by
    simp only[isAgg,Sem.run_bind,run_underlying hu,Result.andThen]
    cases d<;>simp[kT]at hd<;>simp
  simp[loadVar,ha,h,Result.andThen]
theorem fS (hm:aR w ω M) {k s:Nat} {p:Path} {R:Loc->Prop} (h:cC (ae M) k s p=true) (ha:At ω k s p R):s=st ω.cur k p/\ ∃L,ω.β k p=some L/\R L:=by
  have e:s=st ω.cur k p:=by
    rw[hm.cur]
    cases p with
    |none=>exact Nat.eq_of_beq_eq_true h
    |some _=>exact Nat.eq_of_beq_eq_true h
  rcases ha with ha|ha
  · omega
  · exact ha
theorem B7 (hm:aR w ω M) {k i j:Nat} {p:Path} {s s':SV} {x:Value} (hl:gD w ω (ae M k).hl k p i j s x) (h:qG (ae M k) k p i j s=some s'):Den w ω s' x:=by
  cases hi:cM s with
  |false=>
   have hd:Den w ω s x:=by
     cases p with
     |none=>have hl:cF _ _ _ _ _ _ _ _:=hl;rwa [fq hi]at hl
     |some _=>exact hl
   have:qG (ae M k) k p i j s=some s:=by cases s<;>first|rfl|cases hi
   rw[this]at h
   obtain rfl:=Option.some.inj h
   exact hd
  |true=>
   cases s with
   |il sz n g=>
    have key:p=none->(ae M k).hl≠some (i,j)->Den w ω (.aV k (ae M k).ds (some (i,j)) 0 n) x:=by
      rintro rfl cf
      have hl:_\/_:=hl
      rcases hl with hl|⟨hl,_⟩
      · exact absurd hl cf
      · exact .inr ⟨by rw[hm.cur];rfl,hl⟩
    unfold qG at h
    simp only at h
    split at h
    · next hh=>
      obtain rfl:=Option.some.inj h
      exact key rfl (by rw[hh];simp)
    · next i0 j0 hh=>
      split at h
      · next hb=>
        obtain rfl:=Option.some.inj h
        refine key rfl ?_
        rw[hh]
        intro e
        simp only[Option.some.injEq,Prod.mk.injEq]at e
        rw[e.2,Nat.beq_refl]at hb
        cases hb
      · cases h
    · obtain rfl:=Option.some.inj h
      trivial
   |_=>cases hi
theorem pX (hm:aR w ω M) {k:Nat} {p:Path} {L:Loc} {r:Row} (hL:ω.β k p=some L) (hr:fC (ae M k).b p=some r):
    r.sz=L.sz/\r.n=L.cY/\ ∀i,i<L.cY-> ∀j,j<L.sz-> ∃x,w.cell? ⟨L.b,L.o+i*L.sz+j,none⟩=some x/\gD w ω (ae M k).hl k p i j (r.f i j) x:=by
  obtain⟨r',J,U,h3,c,T,h4,h5,h6,h7⟩:=hm.row k p L hL
  obtain rfl:r=r':=Option.some.inj (hr.symm.trans J)
  refine⟨U,h3,λi hi j hj=>?_⟩
  obtain⟨x,e1,e2⟩:=h7 i hi j hj
  exact⟨x,by simp only[World.cell?,h4];simpa using e1,e2⟩
theorem r_: ∀{k:IntKind} {l:List SV} {zs:List Int},nG k l=some zs->l=zs.map λz=> .v (.int k z)
  |_,[],_,h=>by simp[nG]at h;subst h;rfl
  |k,s::r,zs,h=>by
   unfold nG at h
   split at h
   · next heq=>cases heq
   · next heq=>
     cases heq
     split at h
     · next hk hr=>
       obtain rfl:=Option.some.inj h
       obtain rfl:=uy hk
       rw[r_ hr];rfl
     · cases h
   · cases h
theorem HY (hm:aR w ω M) {T:TypeId} {sx:SV} {ux:Value} (hx:Den w ω sx ux) {K:SV->Prop} (he:(vb P T sx (ae M)).run K):
    ∃s v ad,ux= .pointer (some ad)/\(loadVar T ad).run P w= .ok v w/\Den w ω s v/\K s:=by
  unfold vb at he
  split at he
  · next i d hi hu=>
    split at he
    · next k st p ii j=>
      split at he
      · next r hs hr=>
        obtain⟨_,L,hL,qY,e⟩:=fS hm hs hx
        obtain⟨e1,e2,e3⟩:=pX hm hL hr
        split at he
        · next hd=>
          split at he
          · next hle=>
            have hle:=Nat.le_of_ble_eq_true hle
            split at he
            · next l hl=>
              have hl:=Ja hl
              have hlen:l.length=i.size:=by simpa using (congrArg List.length hl).symm
              have hex: ∀q,∃x,q<i.size->w.cell? ((⟨L.b,L.o+ii*L.sz+j,none⟩:Addr).add q)=some x/\Den w ω (l.getD q .aK) x:=by
                intro q
                by_cases hq:q<i.size
                · obtain⟨x,x1,x2⟩:=e3 ii qY (j+q) (by omega)
                  refine⟨x,λ_=>⟨by rw[ju,Nat.add_assoc];exact x1,?_⟩⟩
                  have:qG (ae M k) k p ii (j+q) (r.f ii (j+q))=some (l.getD q .aK):=by
                    have e:=congrArg (λl=>l[q]?) hl
                    simp only[List.getElem?_map,List.getElem?_range hq,Option.map_some]at e
                    rw[List.getElem?_eq_getElem (by omega)]at e
                    simp only[Option.map_some,Option.some.injEq]at e
                    rw[e,List.getD_eq_getElem?_getD,List.getElem?_eq_getElem (by omega)];rfl
                  exact B7 hm x2 this
                · exact⟨undef,λh=>absurd h hq⟩
              refine⟨_,_,_,e,GP hi hu hd w _ (λq=>Classical.choose (hex q)) (λq hq=>(Classical.choose_spec (hex q) hq).1),?_,he⟩
              exact⟨_,rfl,by simp,λq hq=>⟨Classical.choose (hex q),by simp[hq],(Classical.choose_spec (hex q) hq).2⟩⟩
            · exact he.elim
          · exact he.elim
        · next hd=>
          split at he
          · next ai=>
            have ai:j<r.sz:=Nat.le_of_ble_eq_true ai
            split at he
            · next s FM=>
              obtain⟨x,x1,x2⟩:=e3 ii qY j (by omega)
              exact⟨_,x,_,e,xl hu hd w _ _ x1,B7 hm x2 FM,he⟩
            · exact he.elim
          · exact he.elim
      · exact he.elim
    · next k st p ii j len z=>
      split at he
      · next r kk hs hr=>
        obtain⟨_,L,hL,qY,hz,e⟩:=fS hm hs hx
        obtain⟨e1,e2,e3⟩:=pX hm hL hr
        split at he
        · next l hle hl=>
          have hle:=Nat.le_of_ble_eq_true hle
          have hl:=r_ hl
          obtain⟨x,x1,x2⟩:=e3 ii qY (j+z) (by omega)
          have hq:=congrArg (λl=>l[z]?) hl
          simp only[List.getElem?_map,List.getElem?_range hz,Option.map_some]at hq
          cases jU:l[z]? with
          |none=>rw[jU]at hq;cases hq
          |some y=>
           rw[jU]at hq
           simp only[Option.map_some,Option.some.injEq]at hq
           rw[hq]at x2
           have hd:Den w ω (.v (.int kk y)) x:=by
             cases p with
             |none=>exact x2
             |some _=>exact x2
           have kl:fj l z=y:=by simp[fj,List.getD_eq_getElem?_getD,jU]
           exact⟨_,x,_,e,xl hu rfl w _ _ (by rw[<-Nat.add_assoc]at x1⊢;exact x1),by rw[kl];exact hd,he⟩
        · exact he.elim
      · exact he.elim
    · next q n f=>
      obtain⟨ad,e,hj⟩:=hx
      split at he
      · next hd=>
        split at he
        · next hle=>
          have hle:=Nat.le_of_ble_eq_true hle
          have hex: ∀j,∃x,j<i.size->w.cell? (ad.add j)=some x/\Den w ω (f j) x:=by
            intro j
            by_cases og:j<i.size
            · obtain⟨x,J,_,h3⟩:=hj j (by omega)
              exact⟨x,λ_=>⟨J,h3.up⟩⟩
            · exact⟨undef,λh=>absurd h og⟩
          refine⟨_,_,ad,e,GP hi hu hd w _ (λj=>Classical.choose (hex j)) (λj hj=>(Classical.choose_spec (hex j) hj).1),?_,he⟩
          exact⟨_,rfl,by simp,λj hj=>⟨Classical.choose (hex j),by simp[hj],by rw[MD hj];exact(Classical.choose_spec (hex j) hj).2⟩⟩
        · exact he.elim
      · next hd=>
        split at he
        · next ai=>
          have ai:0<n:=Nat.le_of_ble_eq_true ai
          obtain⟨x,J,_,h3⟩:=hj 0 ai
          exact⟨_,x,ad,e,xl hu hd w _ _ (by simpa [Addr.add]using J),h3.up,he⟩
        · exact he.elim
    · exact he.elim
  · exact he.elim
theorem Vn (h:Cx P w ω ρ M a) {o:Oper} {T:TypeId} {x:Operand} {K:SV->Prop} (ho:o.op= .load T x) (he:(vb P T (ρ x) (ae M)).run K):fb P w ω a o K:=by
  obtain⟨s,v,ad,e,hr,hd,hK⟩:=HY h.mem (h.val x) he
  exact⟨s,v,by simp[execOp,ho,e,Instr.loadAt,Instr.sureAddr,hr,Result.andThen],hd,hK⟩
/-! ### addresses of fields and elements -/
def sA (P:Program) (S:TypeId) (s:SV) (j:Nat) (m:Nat->bk):R:=
  match P.underlying S with
  |some (.struct fs)=>
   match fs[j]? with
   |some fd=>
    match P.info? fd.type with
    |some i=>
     match Nat.blt 0 i.size,s with
     |true,.ptr k st p ii off=>match cC m k st p with|true=> .ok (.ptr k st p ii (off+fd.offset))|false=> .bad
     |true,.pt q n f=> .ok (.pt q (n -fd.offset) λm=>f (fd.offset+m))
     |true,.v (.pointer (some ad))=> .ok (.v (.pointer (some (ad.add fd.offset))))
     |_,_=> .bad
    |none=> .bad
   |none=> .bad
  |_=> .bad
theorem At.map {o:Ow} {k s:Nat} {p:Path} {R R':Loc->Prop} (h: ∀L,R L->R' L) (ha:At o k s p R):At o k s p R':=ha.imp id λ⟨e,L,hL,hR⟩=>⟨e,L,hL,h L hR⟩
theorem I1 (h:Cx P w ω ρ M a) {o:Oper} {S:TypeId} {x:Operand} {j:Nat} {K:SV->Prop} (ho:o.op= .fieldAddr S x j) (he:(sA P S (ρ x) j (ae M)).run K):fb P w ω a o K:=by
  have hx:=h.val x
  unfold sA at he
  split at he
  · next fs hu=>
    split at he
    · next fd tL=>
      split at he
      · next i hi=>
        have run: ∀(ad:Addr),a.eval x= .pointer (some ad)->Nat.blt 0 i.size=true->(execOp a.eval o).run P w= .ok (.value (.pointer (some (ad.add fd.offset)))) w:=by
          intro ad e hz
          have hz:0<i.size:=Nat.le_of_ble_eq_true hz
          have hs:(sizeOf fd.type).run P w= .ok i.size w:=by simp[sizeOf,run_typeInfo w hi,Result.andThen]
          simp[execOp,ho,e,Instr.fieldAt,Instr.sureAddr,run_underlying hu,tL,fieldPlace,hs,Result.andThen,Nat.ne_of_gt hz]
        split at he
        · next k st p ii off hz hs=>
          rw[hs]at hx
          split at he
          · next bC=>
            obtain⟨e0,L,hL,hi,e⟩:=fS h.mem bC hx
            exact⟨.ptr k st p ii (off+fd.offset),_,run _ e hz,Or.inr ⟨e0,L,hL,hi,by rw[ju,Nat.add_assoc]⟩,he⟩
          · exact he.elim
        · next q n f hz hs=>
          rw[hs]at hx
          obtain⟨ad,e,hj⟩:=hx
          refine⟨.pt q (n -fd.offset) λm=>f (fd.offset+m),_,run _ e hz,⟨_,rfl,λm hm=>?_⟩,he⟩
          obtain⟨y,J,U,h3⟩:=hj (fd.offset+m) (by omega)
          exact⟨y,by rw[add_add];exact J,by rw[gn];exact U,h3⟩
        · next ad hz hs=>
          rw[hs]at hx
          exact⟨.v (.pointer (some (ad.add fd.offset))),_,run _ hx hz,rfl,he⟩
        · exact he.elim
      · exact he.elim
    · exact he.elim
  · exact he.elim
def F7:Operand->Bool
  | .const _=>true
  |_=>false
def uS (P:Program) (T:TypeId) (lit:Bool) (s i:SV) (m:Nat->bk):R:=
  match P.underlying T,i with
  |some (.slice E),.v (.int _ z)=>
   match P.info? E,s with
   |some ie,.sl q sz n f=>match Nat.beq ie.size sz with|true=> .dz ((0<=z/\z<n)) (.pt q sz (f z.toNat))|false=> .bad
   |some ie,.aV k st p e n=>
    match cC m k st p,fC (m k).b p with
    |true,some r=>match Nat.beq ie.size r.sz with|true=> .dz ((0<=z/\z<n)) (.ptr k st p (e+z.toNat) 0)|false=> .bad
    |_,_=> .bad
   |_,_=> .bad
  |some (.array len E),.v (.int _ z)=>
   match P.info? E,Nat.blt 1 len,s with
   |some ie,true,.pt q mm f=>match Nat.beq (len*ie.size) mm with|true=> .dz ((0<=z/\z<len)) (.pt q ie.size λj=>f (z.toNat*ie.size+j))|false=> .bad
   |some ie,true,.pa q sz n f=>match Nat.beq ie.size sz,Nat.beq n len with|true,true=> .dz ((0<=z/\z<len)) (.pt q sz (f z.toNat))|_,_=> .bad
   |some ie,true,.ptr k st p ii j=>
    match cC m k st p,lit,Nat.beq ie.size 1 with
    |true,true,_=> .dz ((0<=z/\z<len)) (.ptr k st p ii (j+z.toNat*ie.size))
    |true,false,true=> .dz ((0<=z/\z<len)) (.pe k st p ii j len z.toNat)
    |_,_,_=> .bad
   |_,_,_=> .bad
  |_,_=> .bad
theorem H7 (h:Cx P w ω ρ M a) {o:Oper} {T:TypeId} {lit:Bool} {x y:Operand} {K:SV->Prop} (ho:o.op= .indexAddr T x y) (he:(uS P T lit (ρ x) (ρ y) (ae M)).run K): ∃s v,(∀w',(execOp a.eval o).run P w'= .ok (.value v) w')/\Den w ω s v/\K s:=by
  have hx:=h.val x
  have hy:=h.val y
  unfold uS at he
  split at he
  · next E k z hu hs=>
    rw[hs]at hy
    have ey:a.eval y= .int k z:=hy
    split at he
    · next ie q sz n f hi eo=>
      rw[eo]at hx
      split at he
      · next bV=>
        have bV:=Nat.eq_of_beq_eq_true bV
        obtain⟨⟨h0,J⟩,hK⟩:=he
        obtain⟨p,cap,ex,_,_,hj⟩:=hx
        have hn:n≠0:=by omega
        obtain⟨ad,ep,hk⟩:=hj.resolve_left hn
        subst ep
        refine⟨.pt q sz (f z.toNat),.pointer (some (ad.add (z.toNat*sz))),?_,⟨_,rfl,λj m8=>?_⟩,hK⟩
        · intro w'
          have mi:(sizeOf E).run P w'= .ok sz w':=by simp[sizeOf,run_typeInfo w' hi,Result.andThen,bV]
          simp[execOp,ho,ex,ey,Instr.indexAt,asIntOf,run_underlying hu,Result.andThen,h0,J,mi]
        · obtain⟨u,g1,g2,g3⟩:=hk z.toNat (by omega) j m8
          exact⟨u,by rw[add_add];exact g1,by rw[gn];exact g2,g3⟩
      · exact he.elim
    · next ie k2 st p e n hi eo=>
      rw[eo]at hx
      split at he
      · next r bC hr=>
        split at he
        · next bV=>
          have bV:=Nat.eq_of_beq_eq_true bV
          obtain⟨⟨h0,J⟩,hK⟩:=he
          have e0:st=Sy.st ω.cur k2 p:=by
            rw[h.mem.cur]
            cases p with
            |none=>exact Nat.eq_of_beq_eq_true bC
            |some _=>exact Nat.eq_of_beq_eq_true bC
          rcases hx with hx|⟨_,q,cap,ex,iO,_,hx⟩
          · omega
          rcases hx with hx|⟨L,hL,rfl,A3,hx3⟩
          · omega
          obtain⟨r',g1,g2,g3,_⟩:=h.mem.row _ _ _ hL
          obtain rfl:r=r':=Option.some.inj (hr.symm.trans g1)
          refine⟨.ptr k2 st p (e+z.toNat) 0,.pointer (some ⟨L.b,L.o+(e+z.toNat)*L.sz,none⟩),?_,Or.inr ⟨e0,L,hL,by omega,by simp⟩,hK⟩
          intro w'
          have mi:(sizeOf E).run P w'= .ok L.sz w':=by simp[sizeOf,run_typeInfo w' hi,Result.andThen,bV,g2]
          simp[execOp,ho,ex,ey,Instr.indexAt,asIntOf,run_underlying hu,Result.andThen,h0,J,mi,ju,Nat.add_mul,Nat.add_assoc]
        · exact he.elim
      · exact he.elim
    · exact he.elim
  · next len E k z hu hs=>
    rw[hs]at hy
    have ey:a.eval y= .int k z:=hy
    split at he
    · next ie q m f hi hlen eo=>
      rw[eo]at hx
      have hlen:1<len:=Nat.le_of_ble_eq_true hlen
      split at he
      · next hm=>
        have hm:=Nat.eq_of_beq_eq_true hm
        obtain⟨⟨h0,J⟩,hK⟩:=he
        obtain⟨ad,ex,hj⟩:=hx
        refine⟨.pt q ie.size λj=>f (z.toNat*ie.size+j),.pointer (some (ad.add (z.toNat*ie.size))),?_,⟨_,rfl,λj m8=>?_⟩,hK⟩
        · intro w'
          have mi:(sizeOf E).run P w'= .ok ie.size w':=by simp[sizeOf,run_typeInfo w' hi,Result.andThen]
          simp[execOp,ho,ex,ey,Instr.indexAt,Instr.sureAddr,asIntOf,run_underlying hu,Result.andThen,h0,J,mi]
        · have ai:z.toNat*ie.size+j<m:=by
            have:z.toNat+1<=len:=by omega
            have:=Nat.mul_le_mul_right ie.size this
            rw[Nat.add_mul]at this
            omega
          obtain⟨u,g1,g2,g3⟩:=hj _ ai
          exact⟨u,by rw[add_add];exact g1,by rw[gn];exact g2,g3⟩
      · exact he.elim
    · next ie q sz n f hi hlen eo=>
      rw[eo]at hx
      have hlen:1<len:=Nat.le_of_ble_eq_true hlen
      split at he
      · next bV hn=>
        have bV:=Nat.eq_of_beq_eq_true bV
        have hn:=Nat.eq_of_beq_eq_true hn
        obtain⟨⟨h0,J⟩,hK⟩:=he
        obtain⟨ad,ex,hj⟩:=hx
        refine⟨.pt q sz (f z.toNat),.pointer (some (ad.add (z.toNat*sz))),?_,⟨_,rfl,λj m8=>?_⟩,hK⟩
        · intro w'
          have mi:(sizeOf E).run P w'= .ok sz w':=by simp[sizeOf,run_typeInfo w' hi,Result.andThen,bV]
          simp[execOp,ho,ex,ey,Instr.indexAt,Instr.sureAddr,asIntOf,run_underlying hu,Result.andThen,h0,J,mi]
        · obtain⟨u,g1,g2,g3⟩:=hj z.toNat (by omega) j m8
          exact⟨u,by rw[add_add];exact g1,by rw[gn];exact g2,g3⟩
      · exact he.elim
    · next ie k2 st p ii j hi hlen eo=>
      rw[eo]at hx
      have hlen:1<len:=Nat.le_of_ble_eq_true hlen
      have run: ∀ad,a.eval x= .pointer (some ad)->0<=z->z<len-> ∀w',(execOp a.eval o).run P w'= .ok (.value (.pointer (some (ad.add (z.toNat*ie.size))))) w':=by
        intro ad ex h0 J
        intro w'
        have mi:(sizeOf E).run P w'= .ok ie.size w':=by simp[sizeOf,run_typeInfo w' hi,Result.andThen]
        simp[execOp,ho,ex,ey,Instr.indexAt,Instr.sureAddr,asIntOf,run_underlying hu,Result.andThen,h0,J,mi]
      split at he
      · next bC=>
        obtain⟨⟨h0,J⟩,hK⟩:=he
        obtain⟨e0,L,hL,gS,ex⟩:=fS h.mem bC hx
        exact⟨.ptr k2 st p ii (j+z.toNat*ie.size),_,run _ ex h0 J,Or.inr ⟨e0,L,hL,gS,by rw[ju,Nat.add_assoc]⟩,hK⟩
      · next bC Gr=>
        have Gr:=Nat.eq_of_beq_eq_true Gr
        obtain⟨⟨h0,J⟩,hK⟩:=he
        obtain⟨e0,L,hL,gS,ex⟩:=fS h.mem bC hx
        exact⟨.pe k2 st p ii j len z.toNat,_,run _ ex h0 J,Or.inr ⟨e0,L,hL,gS,by omega,by rw[ju,Gr,Nat.mul_one,Nat.add_assoc]⟩,hK⟩
      · exact he.elim
    · exact he.elim
  · exact he.elim
theorem Tr (h:Cx P w ω ρ M a) {o:Oper} {T:TypeId} {lit:Bool} {x y:Operand} {K:SV->Prop} (ho:o.op= .indexAddr T x y) (he:(uS P T lit (ρ x) (ρ y) (ae M)).run K):fb P w ω a o K:=
  let⟨s,v,J,U,h3⟩:=H7 h ho he
  ⟨s,v,J w,U,h3⟩
end
end Go.Sy
set_option linter.unusedVariables false
set_option linter.unusedSimpArgs false
namespace Go.Sy
open Go.RowKit
def dF (op:BinOp) (k:IntKind) (x y:Int):Int:=
  match op with
  | .and=>k.wrap (BitVec.ofInt k.bits x&&&BitVec.ofInt k.bits y).toNat
  | .or=>k.wrap (BitVec.ofInt k.bits x|||BitVec.ofInt k.bits y).toNat
  | .xor=>k.wrap (BitVec.ofInt k.bits x^^^BitVec.ofInt k.bits y).toNat
  |_=>k.wrap (BitVec.ofInt k.bits x&&& ~~~BitVec.ofInt k.bits y).toNat
def rE (k:IntKind) (z:Int):Prop:=k.wrap z=z
def DM (sg:Bool) (op:BinOp) (k:IntKind) (x y:Int):R:=
  match op with
  | .add=>match sg with|true=> .ok (.v (.int k (k.wrap (x+y))))|false=> .dz (rE k (x+y)) (.v (.int k (x+y)))
  | .sub=>match sg with|true=> .ok (.v (.int k (k.wrap (x -y))))|false=> .dz (rE k (x -y)) (.v (.int k (x -y)))
  | .mul=>match sg with|true=> .ok (.v (.int k (k.wrap (x*y))))|false=> .dz (rE k (x*y)) (.v (.int k (x*y)))
  | .quo=>match sg with|true=> .dz (y≠0) (.v (.int k (k.wrap (x.tdiv y))))|false=> .dz (0<=x/\0<y/\rE k (x/y)) (.v (.int k (x/y)))
  | .rem=>match sg with|true=> .dz (y≠0) (.v (.int k (x.tmod y)))|false=> .dz (0<=x/\0<y) (.v (.int k (x%y)))
  | .and=> .ok (.v (.int k (dF .and k x y)))
  | .or=> .ok (.v (.int k (dF .or k x y)))
  | .xor=> .ok (.v (.int k (dF .xor k x y)))
  | .andNot=> .ok (.v (.int k (dF .andNot k x y)))
  | .eql=> .ok (.v (.bool (x==y)))
  | .neq=> .ok (.v (.bool (x !=y)))
  | .lss=> .ok (.v (.bool (decide (x<y))))
  | .leq=> .ok (.v (.bool (decide (x<=y))))
  | .gtr=> .ok (.v (.bool (decide (y<x))))
  | .geq=> .ok (.v (.bool (decide (y<=x))))
  |_=> .bad
def CP (op:BinOp) (k:IntKind) (x y:Int):R:=
  match op with
  | .shl=> .dz (0<=y) (.v (.int k (k.wrap (x*2^(min y.toNat k.bits)))))
  | .shr=> .dz (0<=y) (.v (.int k (x.fdiv (2^(min y.toNat k.bits)))))
  |_=> .bad
def vj:Operand->Bool
  | .const .nilIface=>true
  |_=>false
def Ev (op:BinOp) (a b:ByteArray):R:=
  match op with
  | .add=> .dz ((a.size:Int)+b.size<=9223372036854775807) (.v (.string (a++b)))
  | .eql=> .ok (.v (.bool (a.toList==b.toList)))
  | .neq=> .ok (.v (.bool (a.toList !=b.toList)))
  |_=> .bad
def isIface:Option TypeDesc->Bool
  |some (.interface _)=>true
  |_=>false
def tb (P:Program) (op:BinOp) (T:TypeId) (b:SV) (nb:SV):R:=
  match isIface (P.underlying T),op with
  |true,.eql=> .ok b
  |true,.neq=> .ok nb
  |_,_=> .bad
def DN (P:Program) (op:BinOp) (T:TypeId) (s t:SV):R:=
  match P.underlying T,lE s,lE t,op with
  |some .bool,some a,some b,.eql=> .ok (.v (.bool (a==b)))
  |some .bool,some a,some b,.neq=> .ok (.v (.bool (a !=b)))
  |_,_,_,_=> .bad
def Es (P:Program) (sg:Bool) (op:BinOp) (T:TypeId) (y:Operand) (s t:SV):R:=
  match s,t with
  | .v (.int k a),.v (.int k' b)=>
    match op with
    | .shl| .shr=>CP op k a b
    |_=>match qF k k' with|true=>DM sg op k a b|false=> .bad
  | .v (.string a),.v (.string b)=>Ev op a b
  | .er _ _ e _,.v .nilIface=>match vj y with|true=>tb P op T (.v (.bool (e==0))) (.v (.bool (e !=0)))|false=> .bad
  | .v .nilIface,.v .nilIface=>match vj y with|true=>tb P op T (.bl true) (.bl false)|false=> .bad
  | .ic _ _,.v .nilIface=>tb P op T (.bl false) (.bl true)
  | .v (.iface _ _),.v .nilIface=>tb P op T (.bl false) (.bl true)
  |s,t=>DN P op T s t
section
variable {P:Program} {w:World} {ω:Ow} {ρ:Operand->SV} {M:Mem} {a:Act}
theorem Bm (op:BinOp) (T:TypeId) (x y:Operand) (k k':IntKind) (m n:Int) (w:World):(eqGuard op T x y (.int k m) (.int k' n)).run P w= .ok () w:=by
  unfold eqGuard
  cases op<;>simp
theorem Bp (op:BinOp) (T:TypeId) (x y:Operand) (m n:ByteArray) (w:World):(eqGuard op T x y (.string m) (.string n)).run P w= .ok () w:=by
  unfold eqGuard
  cases op<;>simp
theorem GX (op:BinOp) (T:TypeId) (x y:Operand) (m n:Bool) (w:World):(eqGuard op T x y (.bool m) (.bool n)).run P w= .ok () w:=by
  unfold eqGuard
  cases op<;>simp
theorem QT (op:BinOp) (T:TypeId) (x y:Operand) (t:TypeId) (m:Value) (w:World):(eqGuard op T x y (.iface t m) .nilIface).run P w= .ok () w:=by
  unfold eqGuard
  cases op<;>simp
theorem Q7 (op:BinOp) (T:TypeId) (x y:Operand) (hy:vj y=true) (w:World):(eqGuard op T x y .nilIface .nilIface).run P w= .ok () w:=by
  unfold vj at hy
  split at hy
  · unfold eqGuard
    cases op<;>simp
  · cases hy
theorem Vr {x y:Int} (h:0<=x):x.tdiv y=x/y:=Int.tdiv_eq_ediv_of_nonneg h
theorem Vs {x y:Int} (h:0<=x):x.tmod y=x%y:=Int.tmod_eq_emod_of_nonneg h
theorem Vt (sg:Bool) (op:BinOp) (T:TypeId) (k:IntKind) (x y:Int) (K:SV->Prop) (he:(DM sg op k x y).run K):
    ∃u,(∀w,(binOp op T (.int k x) (.int k y)).run P w= .ok u w)/\K (.v u):=by
  unfold DM at he
  split at he
  case h_1=>
    cases sg with
    |true=>exact⟨_,λw=>by simp[binOp,Op.intArith],he⟩
    |false=>exact⟨_,λw=>by simp[binOp,Op.intArith,show k.wrap (x+y)=x+y from he.1],he.2⟩
  case h_2=>
    cases sg with
    |true=>exact⟨_,λw=>by simp[binOp,Op.intArith],he⟩
    |false=>exact⟨_,λw=>by simp[binOp,Op.intArith,show k.wrap (x -y)=x -y from he.1],he.2⟩
  case h_3=>
    cases sg with
    |true=>exact⟨_,λw=>by simp[binOp,Op.intArith],he⟩
    |false=>exact⟨_,λw=>by simp[binOp,Op.intArith,show k.wrap (x*y)=x*y from he.1],he.2⟩
  case h_4=>
    cases sg with
    |true=>exact⟨_,λw=>by simp[binOp,Op.intDiv,he.1],he.2⟩
    |false=>
     obtain⟨⟨J,U,h3⟩,h4⟩:=he
     exact⟨_,λw=>by simp[binOp,Op.intDiv,show y≠0 by omega,Vr J,show k.wrap (x/y)=x/y from h3],h4⟩
  case h_5=>
    cases sg with
    |true=>exact⟨_,λw=>by simp[binOp,Op.intDiv,he.1],he.2⟩
    |false=>
     obtain⟨⟨J,U⟩,h4⟩:=he
     exact⟨_,λw=>by simp[binOp,Op.intDiv,show y≠0 by omega,Vs J],h4⟩
  case h_16=>exact he.elim
  all_goals exact⟨_,λw=>by simp[binOp,Op.intArith,Op.intBits,Op.intCmp,dF],he⟩
theorem I_ (op:BinOp) (T:TypeId) (k k':IntKind) (x y:Int) (K:SV->Prop) (he:(CP op k x y).run K):
    ∃u,(∀w,(binOp op T (.int k x) (.int k' y)).run P w= .ok u w)/\K (.v u):=by
  unfold CP at he
  split at he
  · exact⟨_,λw=>by simp[binOp,Op.shift,Int.not_lt.2 he.1],he.2⟩
  · exact⟨_,λw=>by simp[binOp,Op.shift,Int.not_lt.2 he.1],he.2⟩
  · exact he.elim
theorem j8 {o:Oper} {op:BinOp} {T T':TypeId} {x y:Operand} (ho:o.op= .binOp op T x y T') {u v r:Value} (ex:a.eval x=u) (ey:a.eval y=v)
    (hg: ∀w:World,(eqGuard op T x y u v).run P w= .ok () w) (hr: ∀w:World,(binOp op T u v).run P w= .ok r w):(execOp a.eval o).run P w= .ok (.value r) w:=by
  simp[execOp,ho,ex,ey,hg,hr,Result.andThen]
theorem QX {d:Option TypeDesc} (h:isIface d=true): ∃ms,d=some (.interface ms):=by
  unfold isIface at h
  split at h
  · exact⟨_,rfl⟩
  · cases h
theorem G8 {T:TypeId} (hu:isIface (P.underlying T)=true) (b:Bool) (u:Value) (hb:(b=true/\u= .nilIface)\/(b=false/\ ∃t x,u= .iface t x)) (w:World):
    (Op.equal T u .nilIface).run P w= .ok b w:=by
  obtain⟨ms,hu⟩:=QX hu
  have J: ∀d:Nat,(Op.equalIn (d+1) T .nilIface .nilIface).run P w= .ok true w:=λd=>by simp[Op.equalIn,run_underlying hu]
  have U: ∀(d:Nat) t x,(Op.equalIn (d+1) T (.iface t x) .nilIface).run P w= .ok false w:=λd t x=>by simp[Op.equalIn,run_underlying hu]
  rcases hb with⟨rfl,rfl⟩|⟨rfl,t,x,rfl⟩
  · simp[Op.equal,Op.maxDepth,J 9999]
  · simp[Op.equal,Op.maxDepth,U 9999]
theorem sC {T:TypeId} {u v:Value} (hk:(∀k n,u≠ .int k n)/\(∀k n,u≠ .float k n)/\(∀k n m,u≠ .complex k n m)/\(∀s,u≠ .string s)):binOp .eql T u v=(do pure (.bool (<-Op.equal T u v)))/\binOp .neq T u v=(do pure (.bool (!(<-Op.equal T u v)))):=by
  obtain⟨J,U,h3,h4⟩:=hk
  constructor<;>(unfold binOp;cases u<;>first|rfl|exact absurd rfl (J _ _)|exact absurd rfl (U _ _)|exact absurd rfl (h3 _ _ _)|exact absurd rfl (h4 _))
theorem sW {o:Oper} {op:BinOp} {T T':TypeId} {x y:Operand} (ho:o.op= .binOp op T x y T') {u:Value} (ex:a.eval x=u) (ey:a.eval y= .nilIface) (b:Bool)
    (hb:(b=true/\u= .nilIface/\vj y=true)\/(b=false/\ ∃t x,u= .iface t x)) {s t:SV} (hs:Den w ω s (.bool b)) (ht:Den w ω t (.bool !b)) {K:SV->Prop} (he:(tb P op T s t).run K):fb P w ω a o K:=by
  have hg: ∀(op:BinOp) (w:World),(eqGuard op T x y u .nilIface).run P w= .ok () w:=by
    intro op w
    rcases hb with⟨_,rfl,hy⟩|⟨_,t,z,rfl⟩
    · exact Q7 op T x y hy w
    · exact QT op T x y t z w
  have dQ:(b=true/\u= .nilIface)\/(b=false/\ ∃t x,u= .iface t x):=hb.imp (λh=>⟨h.1,h.2.1⟩) id
  have hk:(∀k n,u≠ .int k n)/\(∀k n,u≠ .float k n)/\(∀k n m,u≠ .complex k n m)/\(∀s,u≠ .string s):=by
    rcases dQ with⟨_,rfl⟩|⟨_,t,x,rfl⟩<;>simp
  unfold tb at he
  split at he
  · next hu=>exact⟨_,.bool b,j8 ho ex ey (hg _) (λw=>by rw[(sC hk).1];simp[G8 hu b u dQ w,Result.andThen]),hs,he⟩
  · next hu=>exact⟨_,.bool !b,j8 ho ex ey (hg _) (λw=>by rw[(sC hk).2];simp[G8 hu b u dQ w,Result.andThen]),ht,he⟩
  · exact he.elim
theorem Vu {o:Oper} {op:BinOp} {T T':TypeId} {x y:Operand} (ho:o.op= .binOp op T x y T') {s t:SV} (hx:Den w ω s (a.eval x)) (hy:Den w ω t (a.eval y)) {K:SV->Prop} (he:(DN P op T s t).run K):fb P w ω a o K:=by
  unfold DN at he
  split at he
  · next m n hu hs ht=>
    have ex:=j7 hs hx
    have ey:=j7 ht hy
    have J: ∀(d:Nat) (w:World),(Op.equalIn (d+1) T (.bool m) (.bool n)).run P w= .ok (m==n) w:=λd w=>by simp[Op.equalIn,run_underlying hu]
    exact⟨.v (.bool (m==n)),.bool (m==n),j8 ho ex ey (λw=>GX _ _ _ _ _ _ w) (λw=>by rw[(sC (by simp)).1];simp[Op.equal,Op.maxDepth,J 9999]),rfl,he⟩
  · next m n hu hs ht=>
    have ex:=j7 hs hx
    have ey:=j7 ht hy
    have J: ∀(d:Nat) (w:World),(Op.equalIn (d+1) T (.bool m) (.bool n)).run P w= .ok (m==n) w:=λd w=>by simp[Op.equalIn,run_underlying hu]
    exact⟨.v (.bool (m !=n)),.bool (m !=n),j8 ho ex ey (λw=>GX _ _ _ _ _ _ w) (λw=>by rw[(sC (by simp)).2];simp[Op.equal,Op.maxDepth,J 9999,bne]),rfl,he⟩
  · exact he.elim
theorem W6 {o:Oper} {op:BinOp} {T T':TypeId} {x y:Operand} (ho:o.op= .binOp op T x y T') {m n:ByteArray} (ex:a.eval x= .string m) (ey:a.eval y= .string n) {K:SV->Prop} (he:(Ev op m n).run K):fb P w ω a o K:=by
  unfold Ev at he
  split at he
  · exact⟨.v (.string (m++n)),.string (m++n),j8 ho ex ey (λw=>Bp _ _ _ _ _ _ w) (λw=>by simp[binOp,Op.stringOp,he.1]),rfl,he.2⟩
  · exact⟨.v (.bool (m.toList==n.toList)),.bool (m.toList==n.toList),j8 ho ex ey (λw=>Bp _ _ _ _ _ _ w) (λw=>by simp[binOp,Op.stringOp]),rfl,he⟩
  · exact⟨.v (.bool (m.toList !=n.toList)),.bool (m.toList !=n.toList),j8 ho ex ey (λw=>Bp _ _ _ _ _ _ w) (λw=>by simp[binOp,Op.stringOp,bne]),rfl,he⟩
  · exact he.elim
theorem W3 (h:Cx P w ω ρ M a) {sg:Bool} {o:Oper} {op:BinOp} {T T':TypeId} {x y:Operand} {K:SV->Prop} (ho:o.op= .binOp op T x y T')
    (he:(Es P sg op T y (ρ x) (ρ y)).run K):fb P w ω a o K:=by
  have hx:=h.val x
  have hy:=h.val y
  unfold Es at he
  split at he
  · next k m k' n hs ht=>
    rw[hs]at hx;rw[ht]at hy
    have ex:a.eval x= .int k m:=hx
    have ey:a.eval y= .int k' n:=hy
    split at he
    · obtain⟨u,J,U⟩:=I_ (P:=P) _ T k k' m n K he
      exact⟨.v u,u,j8 ho ex ey (λw=>Bm _ _ _ _ _ _ _ _ w) J,rfl,U⟩
    · obtain⟨u,J,U⟩:=I_ (P:=P) _ T k k' m n K he
      exact⟨.v u,u,j8 ho ex ey (λw=>Bm _ _ _ _ _ _ _ _ w) J,rfl,U⟩
    · next J U=>
      split at he
      · next hk=>
        obtain rfl:=uy hk
        obtain⟨u,h3,h4⟩:=Vt (P:=P) sg op T k m n K he
        exact⟨.v u,u,j8 ho ex ey (λw=>Bm _ _ _ _ _ _ _ _ w) h3,rfl,h4⟩
      · exact he.elim
  · next m n hs ht=>
    rw[hs]at hx;rw[ht]at hy
    exact W6 ho hx hy he
  · next t tf e at_ hs ht=>
    rw[hs]at hx;rw[ht]at hy
    split at he
    · next hc=>
      rcases hx with⟨J,_,ex⟩|⟨J,_,ex⟩|⟨J,_,ad,ex,_⟩
      · exact sW ho ex hy true (.inl ⟨rfl,rfl,hc⟩) (by simp[Den,J]) (by simp[Den,J]) he
      · exact sW ho ex hy false (.inr ⟨rfl,_,_,rfl⟩) (by simp[Den,J]) (by simp[Den,J]) he
      · exact sW ho ex hy false (.inr ⟨rfl,_,_,rfl⟩) (by simp[Den,J]) (by simp[Den,J]) he
    · exact he.elim
  · next hs ht=>
    rw[hs]at hx;rw[ht]at hy
    split at he
    · next hc=>exact sW ho hx hy true (.inl ⟨rfl,rfl,hc⟩) (by simp[Den]) (by simp[Den]) he
    · exact he.elim
  · next t s hs ht=>
    rw[hs]at hx;rw[ht]at hy
    obtain⟨u,ex,_⟩:=hx
    exact sW ho ex hy false (.inr ⟨rfl,_,_,rfl⟩) (by simp[Den]) (by simp[Den]) he
  · next t s hs ht=>
    rw[hs]at hx;rw[ht]at hy
    exact sW ho hx hy false (.inr ⟨rfl,_,_,rfl⟩) (by simp[Den]) (by simp[Den]) he
  · exact Vu ho hx hy he
end
end Go.Sy
