/-
  Sy, part 1: symbolic values; what they stand for in a world; that they stand for it in a later world too.
-/
import Derived.WalkKit
import Derived.Deep.Quiet
import Derived.Laws.StructEq
import Derived.Laws.Tables
import Derived.Laws.CopyOwn
set_option linter.unusedVariables false
set_option linter.unusedSimpArgs false
set_option linter.unusedVariables false
set_option linter.unusedSimpArgs false
namespace Go.Sy
open Go.RowKit
abbrev Path:=Option (Nat×Nat)
inductive SV where
  |junk
  |v (x:Value)
  |bl (b:Bool)
  |ptr (k s:Nat) (p:Path) (i j:Nat)
  |pe (k s:Nat) (p:Path) (i j len z:Nat)
  |slc (k s:Nat) (p:Path) (e n:Nat)
  |sa (k s:Nat) (p:Path) (i j n:Nat)
  |pt (q:Bool) (n:Nat) (f:Nat→SV)
  |sl (q:Bool) (sz n:Nat) (f:Nat→Nat→SV)
  |pa (q:Bool) (sz n:Nat) (f:Nat→Nat→SV)
  |il (sz n:Nat) (f:Nat→Nat→SV)
  |ag (n:Nat) (f:Nat→SV)
  |tp (n:Nat) (f:Nat→SV)
  |fn (id n:Nat) (f:Nat→SV)
  |bm (id:Nat) (s:SV)
  |mv (nm:String) (s:SV)
  |ic (t:Nat) (s:SV)
  |er (t tf:Nat) (e at_:Int)
  |es
instance:Inhabited SV:=⟨.junk⟩
def lsv (l:List SV):Nat→SV:=fun j=>l.getD j .junk
def out (n:Nat) (f:Nat→SV):Nat→SV:=lsv ((List.range n).map f)
theorem out_eq {n:Nat} {f:Nat→SV} {j:Nat} (h:j<n):out n f j=f j:=by
  simp [out,lsv,List.getD_eq_getElem?_getD,h]
structure Loc where
  b:Nat
  o:Nat
  sz:Nat
  cnt:Nat
  len:Nat
structure Ow where
  A:Nat→Prop
  Z:Nat→Prop
  β:Nat→Path→Option Loc
  cur:Nat→Nat×Nat
def Ow.bare (o:Ow):Ow:=⟨o.A,o.Z,fun _ _=>none,fun _=>(0,0)⟩
def st (cur:Nat→Nat×Nat) (k:Nat):Path→Nat
  |none=>(cur k).1
  |some _=>(cur k).2
def ErrAt (w:World) (A Z:Nat→Prop) (t tf:Nat) (e at_:Int) (u:Value):Prop:=
  (e=0∧at_= -1∧u= .nilIface)∨(e≠0∧at_= -1∧u= .iface t (.int .i64 e))∨
  (e≠0∧0≤at_∧ ∃a,u= .iface tf (.pointer (some a))∧ ¬A a.block∧ ¬Z a.block∧w.cell? (a.add 0)=some (.int .i64 at_)∧w.cell? (a.add 1)=some (.iface t (.int .i64 e)))
def At (o:Ow) (k s:Nat) (p:Path) (R:Loc→Prop):Prop:=s<st o.cur k p∨(s=st o.cur k p∧ ∃L,o.β k p=some L∧R L)
def Head (o:Ow) (k:Nat) (p:Path) (e n:Nat) (u:Value):Prop:=
  ∃q cap,u= .slice q n cap∧n≤cap∧cap≤maxLen∧(cap=0∨ ∃L,o.β k p=some L∧q=some ⟨L.b,L.o+e*L.sz,none⟩∧L.o+(e+cap)*L.sz≤L.len∧e+n≤L.cnt)
def Den (w:World) (o:Ow):SV→Value→Prop
  | .junk,_=>True
  | .il _ _ _,_=>True
  | .v x,u=>u=x
  | .bl b,u=>u= .bool b
  | .ptr k s p i j,u=>At o k s p fun L=>i<L.cnt∧u= .pointer (some ⟨L.b,L.o+i*L.sz+j,none⟩)
  | .pe k s p i j len z,u=>At o k s p fun L=>i<L.cnt∧z<len∧u= .pointer (some ⟨L.b,L.o+i*L.sz+(j+z),none⟩)
  | .slc k s p e n,u=>s<st o.cur k p∨(s=st o.cur k p∧Head o k p e n u)
  | .sa k s p i j n,u=>At o k s p fun L=>i<L.cnt∧n≤maxLen∧u= .slice (some ⟨L.b,L.o+i*L.sz+j,none⟩) n n
  | .pt q n f,u=> ∃a,u= .pointer (some a)∧ ∀j,j<n→ ∃x,w.cell? (a.add j)=some x∧(¬o.A a.block∧(q=false→ ¬o.Z a.block))∧Den w o.bare (f j) x
  | .sl q sz n f,u=> ∃p cap,u= .slice p n cap∧n≤cap∧n≤maxLen∧(n=0∨ ∃a,p=some a∧ ∀i,i<n→ ∀j,j<sz→ ∃x,w.cell? (a.add (i*sz+j))=some x∧(¬o.A a.block∧(q=false→ ¬o.Z a.block))∧Den w o.bare (f i j) x)
  | .pa q sz n f,u=> ∃a,u= .pointer (some a)∧ ∀i,i<n→ ∀j,j<sz→ ∃x,w.cell? (a.add (i*sz+j))=some x∧(¬o.A a.block∧(q=false→ ¬o.Z a.block))∧Den w o.bare (f i j) x
  | .ag n f,u=> ∃cs,u= .agg cs∧cs.size=n∧ ∀j,j<n→ ∃x,cs[j]? =some x∧Den w o (f j) x
  | .tp n f,u=> ∃cs,u= .tuple cs∧cs.size=n∧ ∀j,j<n→ ∃x,cs[j]? =some x∧Den w o (f j) x
  | .fn id n f,u=> ∃cs,u= .func (.func id) #[] cs∧cs.size=n∧ ∀j,j<n→ ∃x,cs[j]? =some x∧Den w o (f j) x
  | .bm id s,u=> ∃x,u= .func (.func id) #[x] #[]∧Den w o s x
  | .mv nm s,u=> ∃x,u= .func (.method nm) #[x] #[]∧Den w o s x
  | .ic t s,u=> ∃x,u= .iface t x∧Den w o s x
  | .er t tf e at_,u=>ErrAt w o.A o.Z t tf e at_ u
  | .es,u=> ∃p,u= .slice p 0 0
def Same (A:Nat→Prop) (w w':World):Prop:= ∀b,b<w.heap.size→ ¬A b→w'.heap[b]? =w.heap[b]?
theorem cell_lt {w:World} {a:Addr} {x:Value} (h:w.cell? a=some x):a.block<w.heap.size:=by
  rcases Nat.lt_or_ge a.block w.heap.size with h'|h'
  · exact h'
  · simp [World.cell?,Array.getElem?_eq_none h'] at h
theorem add_block (a:Addr) (n:Nat):(a.add n).block=a.block:=by unfold Addr.add;split<;>rfl
theorem add_add (a:Addr) (n m:Nat):(a.add n).add m=a.add (n+m):=by
  unfold Addr.add
  by_cases h:n=0
  · subst h;simp
  · by_cases h2:m=0
    · subst h2;simp [h]
    · simp only [h,h2,if_false]
      rw [if_neg (by omega)]
      simp only [Nat.add_assoc]
theorem add_mk (b o n:Nat):(⟨b,o,none⟩:Addr).add n=⟨b,o+n,none⟩:=by
  unfold Addr.add;split
  · next h=>subst h;rfl
  · rfl
theorem Same.cell {A:Nat→Prop} {w w':World} (h:Same A w w') {a:Addr} {x:Value} (hf: ¬A a.block) (hc:w.cell? a=some x):w'.cell? a=some x:=by
  have:=h a.block (cell_lt hc) hf
  unfold World.cell? at*
  rw [this];exact hc
structure Ext (w:World) (o:Ow) (w':World) (o':Ow):Prop where
  os:w'.os=w.os
  tape:w'.tape=w.tape
  output:w'.output=w.output
  same:Same o.A w w'
  free: ∀b,b<w.heap.size→ ¬o.A b→ ¬o'.A b
  lent: ∀b,b<w.heap.size→ ¬o.A b→ ¬o.Z b→ ¬o'.Z b
  size:w.heap.size≤w'.heap.size
  mono: ∀k,(o.cur k).1≤(o'.cur k).1∧(o.cur k).2≤(o'.cur k).2
  lab: ∀k p L,o.β k p=some L→st o'.cur k p=st o.cur k p→o'.β k p=some L
  zs: ∀b,o.Z b→o'.Z b
theorem Ext.refl (w:World) (o:Ow):Ext w o w o:=⟨rfl,rfl,rfl,fun _ _ _=>rfl,fun _ _ h=>h,fun _ _ _ h=>h,Nat.le_refl _,fun _=>⟨Nat.le_refl _,Nat.le_refl _⟩,fun _ _ _ h _=>h,fun _ h=>h⟩
theorem st_mono {c c':Nat→Nat×Nat} (h: ∀k,(c k).1≤(c' k).1∧(c k).2≤(c' k).2) (k:Nat) (p:Path):st c k p≤st c' k p:=by
  cases p with
  |none=>exact (h k).1
  |some _=>exact (h k).2
theorem Ext.trans {w w' w'':World} {o o' o'':Ow} (h:Ext w o w' o') (k:Ext w' o' w'' o''):Ext w o w'' o'' where
  os:=k.os.trans h.os
  tape:=k.tape.trans h.tape
  output:=k.output.trans h.output
  same:=fun b hb hf=>(k.same b (Nat.lt_of_lt_of_le hb h.size) (h.free b hb hf)).trans (h.same b hb hf)
  free:=fun b hb hf=>k.free b (Nat.lt_of_lt_of_le hb h.size) (h.free b hb hf)
  lent:=fun b hb hf hz=>k.lent b (Nat.lt_of_lt_of_le hb h.size) (h.free b hb hf) (h.lent b hb hf hz)
  size:=Nat.le_trans h.size k.size
  mono:=fun q=>⟨Nat.le_trans (h.mono q).1 (k.mono q).1,Nat.le_trans (h.mono q).2 (k.mono q).2⟩
  lab:=fun q p L hL e=>by
    have h1:=st_mono h.mono q p
    have h2:=st_mono k.mono q p
    have e1:st o'.cur q p=st o.cur q p:=by omega
    exact k.lab q p L (h.lab q p L hL e1) (by omega)
  zs:=fun b hb=>k.zs b (h.zs b hb)
theorem Ext.bare {w w':World} {o o':Ow} (h:Ext w o w' o'):Ext w o.bare w' o'.bare:=⟨h.os,h.tape,h.output,h.same,h.free,h.lent,h.size,fun _=>⟨Nat.le_refl _,Nat.le_refl _⟩,fun _ _ _ h=>(by cases h),h.zs⟩
theorem At.ext {w w':World} {o o':Ow} (h:Ext w o w' o') {k s:Nat} {p:Path} {R:Loc→Prop} (ha:At o k s p R):At o' k s p R:=by
  have hm:=st_mono h.mono k p
  rcases ha with ha|⟨ha,L,hL,hR⟩
  · exact .inl (Nat.lt_of_lt_of_le ha hm)
  · rcases Nat.lt_or_ge s (st o'.cur k p) with h'|h'
    · exact .inl h'
    · exact .inr ⟨by omega,L,h.lab k p L hL (by omega),hR⟩
theorem Head.ext {w w':World} {o o':Ow} (h:Ext w o w' o') {k:Nat} {p:Path} {e n:Nat} {u:Value} (he:st o'.cur k p=st o.cur k p) (ha:Head o k p e n u):Head o' k p e n u:=by
  obtain ⟨q,cap,h1,h2,h3,h4⟩:=ha
  exact ⟨q,cap,h1,h2,h3,h4.imp id fun ⟨L,hL,hr⟩=>⟨L,h.lab k p L hL he,hr⟩⟩
theorem Den.ext {w w':World} {o o':Ow} (h:Ext w o w' o') {s:SV} {u:Value} (hd:Den w o s u):Den w' o' s u:=by
  induction s generalizing o o' u with
  |junk=>trivial
  |il sz n f=>trivial
  |es=>exact hd
  |v x=>exact hd
  |bl b=>exact hd
  |ptr k s p i j=>exact At.ext h hd
  |pe k s p i j len z=>exact At.ext h hd
  |sa k s p i j n=>exact At.ext h hd
  |slc k s p e n=>
   have hm:=st_mono h.mono k p
   rcases hd with hd|⟨hd,hh⟩
   · exact .inl (Nat.lt_of_lt_of_le hd hm)
   · rcases Nat.lt_or_ge s (st o'.cur k p) with h'|h'
     · exact .inl h'
     · exact .inr ⟨by omega,hh.ext h (by omega)⟩
  |pt q n f ih=>
   obtain ⟨a,rfl,hj⟩:=hd
   refine ⟨a,rfl,fun j hjn=>?_⟩
   obtain ⟨x,hc,hf,hx⟩:=hj j hjn
   have hlt:=cell_lt hc
   rw [add_block] at hlt
   exact ⟨x,h.same.cell (by rw [add_block];exact hf.1) hc,⟨h.free _ hlt hf.1,fun e=>h.lent _ hlt hf.1 (hf.2 e)⟩,ih j h.bare hx⟩
  |sl q sz n f ih=>
   obtain ⟨p,cap,rfl,hcap,hml,hj⟩:=hd
   refine ⟨p,cap,rfl,hcap,hml,hj.imp id ?_⟩
   intro hk
   obtain ⟨a,e,hk⟩:=hk
   refine ⟨a,e,fun i hi j hjn=>?_⟩
   obtain ⟨x,hc,hf,hx⟩:=hk i hi j hjn
   have hlt:=cell_lt hc
   rw [add_block] at hlt
   exact ⟨x,h.same.cell (by rw [add_block];exact hf.1) hc,⟨h.free _ hlt hf.1,fun e=>h.lent _ hlt hf.1 (hf.2 e)⟩,ih i j h.bare hx⟩
  |pa q sz n f ih=>
   obtain ⟨a,rfl,hk⟩:=hd
   refine ⟨a,rfl,fun i hi j hjn=>?_⟩
   obtain ⟨x,hc,hf,hx⟩:=hk i hi j hjn
   have hlt:=cell_lt hc
   rw [add_block] at hlt
   exact ⟨x,h.same.cell (by rw [add_block];exact hf.1) hc,⟨h.free _ hlt hf.1,fun e=>h.lent _ hlt hf.1 (hf.2 e)⟩,ih i j h.bare hx⟩
  |ag n f ih=>
   obtain ⟨cs,rfl,hs,hj⟩:=hd
   exact ⟨cs,rfl,hs,fun j hjn=>let ⟨x,h1,h2⟩:=hj j hjn;⟨x,h1,ih j h h2⟩⟩
  |tp n f ih=>
   obtain ⟨cs,rfl,hs,hj⟩:=hd
   exact ⟨cs,rfl,hs,fun j hjn=>let ⟨x,h1,h2⟩:=hj j hjn;⟨x,h1,ih j h h2⟩⟩
  |fn id n f ih=>
   obtain ⟨cs,rfl,hs,hj⟩:=hd
   exact ⟨cs,rfl,hs,fun j hjn=>let ⟨x,h1,h2⟩:=hj j hjn;⟨x,h1,ih j h h2⟩⟩
  |bm id s ih=>
   obtain ⟨x,rfl,hx⟩:=hd
   exact ⟨x,rfl,ih h hx⟩
  |mv nm s ih=>
   obtain ⟨x,rfl,hx⟩:=hd
   exact ⟨x,rfl,ih h hx⟩
  |ic t s ih=>
   obtain ⟨x,rfl,hx⟩:=hd
   exact ⟨x,rfl,ih h hx⟩
  |er t tf e at_=>
   rcases hd with hd|hd|⟨h1,h2,a,rfl,hf,hz,hc0,hc1⟩
   · exact .inl hd
   · exact .inr (.inl hd)
   · have hlt:=cell_lt hc0
     rw [add_block] at hlt
     exact .inr (.inr ⟨h1,h2,a,rfl,h.free _ hlt hf,h.lent _ hlt hf hz,h.same.cell (by rw [add_block];exact hf) hc0,h.same.cell (by rw [add_block];exact hf) hc1⟩)
theorem Den.up {w:World} {o:Ow} {s:SV} {u:Value} (hd:Den w o.bare s u):Den w o s u:=
  Den.ext (o:=o.bare) (o':=o) ⟨rfl,rfl,rfl,fun _ _ _=>rfl,fun _ _ h=>h,fun _ _ _ h=>h,Nat.le_refl _,fun _=>⟨Nat.zero_le _,Nat.zero_le _⟩,fun _ _ _ h=>(by cases h),fun _ h=>h⟩ hd
def DenL (w:World) (o:Ow):List SV→List Value→Prop
  | [],[]=>True
  |s::r,u::t=>Den w o s u∧DenL w o r t
  |_,_=>False
theorem DenL.ext {w w':World} {o o':Ow} (h:Ext w o w' o'): ∀{F:List SV} {l:List Value},DenL w o F l→DenL w' o' F l
  | [],[],_=>trivial
  |_::_,_::_,⟨h1,h2⟩=>⟨h1.ext h,DenL.ext h h2⟩
  | [],_::_,hd=>hd.elim
  |_::_,[],hd=>hd.elim
theorem DenL.len {w:World} {o:Ow}: ∀{F:List SV} {l:List Value},DenL w o F l→F.length=l.length
  | [],[],_=>rfl
  |_::_,_::_,⟨_,h2⟩=>by simp [h2.len]
  | [],_::_,hd=>hd.elim
  |_::_,[],hd=>hd.elim
theorem DenL.get {w:World} {o:Ow}: ∀{F:List SV} {l:List Value},DenL w o F l→ ∀(i:Nat) (d:Value),Den w o (F.getD i .junk) (l.getD i d)
  | [],[],_,_,_=>by simp [Den]
  |_::_,_::_,⟨h1,_⟩,0,_=>by simpa using h1
  |_::_,_::_,⟨_,h2⟩,i+1,d=>by simpa using h2.get i d
  | [],_::_,hd,_,_=>hd.elim
  |_::_,[],hd,_,_=>hd.elim
theorem DenL.get? {w:World} {o:Ow}: ∀{F:List SV} {l:List Value},DenL w o F l→ ∀(i:Nat),i<F.length→ ∃x,l[i]? =some x∧Den w o (F.getD i .junk) x
  |_::_,u::_,⟨h1,_⟩,0,_=>⟨u,by simp,by simpa using h1⟩
  |_::_,_::_,⟨_,h2⟩,i+1,hi=>by simpa using h2.get? i (by simpa using hi)
  | [],[],_,_,hi=>absurd hi (by simp)
  | [],_::_,hd,_,_=>hd.elim
  |_::_,[],hd,_,_=>hd.elim
theorem DenL.set {w:World} {o:Ow} {s:SV} {u:Value} (hs:Den w o s u): ∀{F:List SV} {l:List Value},DenL w o F l→ ∀(i:Nat),DenL w o (F.set i s) (l.set i u)
  | [],[],_,_=>by simp [DenL]
  |_::_,_::_,⟨_,h2⟩,0=>by simpa [DenL] using ⟨hs,h2⟩
  |_::_,_::_,⟨h1,h2⟩,i+1=>by simpa [DenL] using ⟨h1,h2.set hs i⟩
  | [],_::_,hd,_=>hd.elim
  |_::_,[],hd,_=>hd.elim
theorem DenL.mk {w:World} {o:Ow}: ∀{F:List SV} {l:List Value},F.length=l.length→(∀i,i<F.length→ ∃x,l[i]? =some x∧Den w o (F.getD i .junk) x)→DenL w o F l
  | [],[],_,_=>trivial
  |s::r,u::t,hl,h=>by
   refine ⟨?_,DenL.mk (by simpa using hl) fun i hi=>?_⟩
   · obtain ⟨x,h1,h2⟩:=h 0 (by simp)
     simp at h1 h2;subst h1;exact h2
   · obtain ⟨x,h1,h2⟩:=h (i+1) (by simp;exact hi)
     exact ⟨x,by simpa using h1,by simpa using h2⟩
  | [],_::_,hl,_=>by simp at hl
  |_::_,[],hl,_=>by simp at hl
theorem DenL.append {w:World} {o:Ow}: ∀{F G:List SV} {l m:List Value},DenL w o F l→DenL w o G m→DenL w o (F++G) (l++m)
  | [],_,[],_,_,h=>by simpa using h
  |_::_,_,_::_,_,⟨h1,h2⟩,h=>⟨h1,h2.append h⟩
  | [],_,_::_,_,hd,_=>hd.elim
  |_::_,_,[],_,hd,_=>hd.elim
theorem DenL.map {w:World} {o o':Ow} {g:SV→SV} (hg: ∀s u,Den w o s u→Den w o' (g s) u): ∀{F:List SV} {l:List Value},DenL w o F l→DenL w o' (F.map g) l
  | [],[],_=>trivial
  |_::_,_::_,⟨h1,h2⟩=>⟨hg _ _ h1,h2.map hg⟩
  | [],_::_,hd=>hd.elim
  |_::_,[],hd=>hd.elim
end Go.Sy
set_option linter.unusedVariables false
set_option linter.unusedSimpArgs false
namespace Go.Sy
open Go.RowKit
def kindEq:IntKind→IntKind→Bool
  | .i8,.i8| .i16,.i16| .i32,.i32| .i64,.i64| .u8,.u8| .u16,.u16| .u32,.u32| .u64,.u64=>true
  |_,_=>false
theorem kindEq_eq {a b:IntKind} (h:kindEq a b=true):a=b:=by cases a<;>cases b<;>first|rfl|cases h
def asB:SV→Option Bool
  | .bl b=>some b
  | .v (.bool b)=>some b
  |_=>none
theorem asB_den {w:World} {o:Ow} {s:SV} {b:Bool} {u:Value} (h:asB s=some b) (hd:Den w o s u):u= .bool b:=by
  unfold asB at h
  split at h<;>simp at h<;>subst h<;>exact hd
def iteL (c:Bool) (x y:SV):SV:=
  match x,y with
  | .v (.int k a),.v (.int k' b)=>match kindEq k k' with|true=> .v (.int k (bif c then a else b))|false=> .junk
  | .v (.string a),.v (.string b)=> .v (.string (bif c then a else b))
  | .er t tf e a,.er t' tf' e' a'=>match Nat.beq t t',Nat.beq tf tf' with|true,true=> .er t tf (bif c then e else e') (bif c then a else a')|_,_=> .junk
  |x,y=>match asB x,asB y with|some a,some b=> .v (.bool (bif c then a else b))|_,_=> .junk
theorem iteL_den {w:World} {o:Ow} {c:Bool} {x y:SV} {u:Value} (h1:c=true→Den w o x u) (h2:c=false→Den w o y u):Den w o (iteL c x y) u:=by
  unfold iteL
  split
  · split
    · next hk=>
      obtain rfl:=kindEq_eq hk
      cases c
      · exact h2 rfl
      · exact h1 rfl
    · trivial
  · cases c
    · exact h2 rfl
    · exact h1 rfl
  · split
    · next hb hb2=>
      obtain rfl:=Nat.eq_of_beq_eq_true hb
      obtain rfl:=Nat.eq_of_beq_eq_true hb2
      cases c
      · exact h2 rfl
      · exact h1 rfl
    · trivial
  · split
    · next a b ha hb=>
      cases c
      · exact asB_den hb (h2 rfl)
      · exact asB_den ha (h1 rfl)
    · trivial
def isIl:SV→Bool
  | .il _ _ _=>true
  |_=>false
theorem iteL_notIl (c:Bool) (x y:SV):isIl (iteL c x y)=false:=by
  unfold iteL
  split
  · split<;>rfl
  · rfl
  · split<;>rfl
  · split<;>rfl
def iteSV (c:Bool) (x y:SV):SV:=
  match x,y with
  | .il sz n g,.il sz' n' g'=>match Nat.beq sz sz' with|true=> .il sz (bif c then n else n') (fun a b=>iteL c (g a b) (g' a b))|false=> .junk
  |x,y=>iteL c x y
theorem iteSV_den {w:World} {o:Ow} {c:Bool} {x y:SV} {u:Value} (h1:c=true→Den w o x u) (h2:c=false→Den w o y u):Den w o (iteSV c x y) u:=by
  unfold iteSV
  split
  · split<;>trivial
  · exact iteL_den h1 h2
theorem iteSV_leaf {c:Bool} {x y:SV} (h:isIl x=false):iteSV c x y=iteL c x y:=by
  unfold iteSV
  split
  · cases h
  · rfl
structure Row where
  sz:Nat
  n:Nat
  f:Nat→Nat→SV
inductive Blk where
  |dead
  |cells (l:List SV)
  |row (sz n:Nat) (f:Nat→Nat→SV)
structure Ent where
  rs:Nat
  ds:Nat
  hl:Option (Nat×Nat)
  b:Blk
abbrev Mem:=List (Nat×Ent)
def ent:Mem→Nat→Ent
  | [],_=>⟨0,0,none,.dead⟩
  |p::r,k=>match Nat.beq p.1 k with|true=>p.2|false=>ent r k
theorem ent_eq {k:Nat} {e:Ent} {M:Mem}:ent ((k,e)::M) k=e:=by simp [ent]
theorem ent_ne {k k':Nat} {e:Ent} {M:Mem} (h:k≠k'):ent ((k,e)::M) k'=ent M k':=by
  have:Nat.beq k k'=false:=by
    cases hb:Nat.beq k k'
    · rfl
    · exact absurd (Nat.eq_of_beq_eq_true hb) h
  simp only [ent,this]
def curM (M:Mem):Nat→Nat×Nat:=fun k=>((ent M k).rs,(ent M k).ds)
def Blk.row? :Blk→Option Row
  | .dead=>none
  | .cells l=>some ⟨l.length,1,fun _ j=>lsv l j⟩
  | .row sz n f=>some ⟨sz,n,f⟩
def inner (r:Row) (i j:Nat):Option Row:=
  match r.f i j with
  | .il sz n g=>some ⟨sz,n,g⟩
  |_=>none
def rowIn (b:Blk):Path→Option Row
  |none=>b.row?
  |some (i,j)=>match b with| .row sz n f=>inner ⟨sz,n,f⟩ i j|_=>none
def rowAt (M:Mem) (k:Nat) (p:Path):Option Row:=rowIn (ent M k).b p
def Row.set (r:Row) (i j:Nat) (v:SV):Row:=⟨r.sz,r.n,fun i' j'=>match Nat.beq j' j with|false=>r.f i' j'|true=>iteSV (Nat.beq i' i) v (r.f i' j')⟩
def CellOK (w:World) (o:Ow) (hl:Option (Nat×Nat)) (k i j:Nat) (s:SV) (x:Value):Prop:=
  match s with
  | .il sz n _=>hl=some (i,j)∨(Head o k (some (i,j)) 0 n x∧ ∀L,o.β k (some (i,j))=some L→L.sz=sz)
  |s=>Den w o s x
def LeafOK (w:World) (o:Ow) (hl:Option (Nat×Nat)) (k:Nat):Path→Nat→Nat→SV→Value→Prop
  |none,i,j,s,x=>CellOK w o hl k i j s x
  |some _,_,_,s,x=>Den w o s x
def RowOK (w:World) (o:Ow) (hl:Option (Nat×Nat)) (k:Nat) (p:Path) (L:Loc) (r:Row):Prop:=
  ∃(c:Array Value) (T:TypeId),w.heap[L.b]? =some (Obj.cells c T (0,0))∧c.size=L.len∧L.o+L.cnt*L.sz≤L.len∧
   ∀i,i<L.cnt→ ∀j,j<L.sz→ ∃x,c[L.o+i*L.sz+j]? =some x∧LeafOK w o hl k p i j (r.f i j) x
structure MemOK (w:World) (o:Ow) (M:Mem):Prop where
  cur:o.cur=curM M
  own: ∀b,(∃k p L,o.β k p=some L∧L.b=b)→o.A b
  lowA: ∀b,o.A b→b<w.heap.size
  dj: ∀b,o.A b→ ¬o.Z b
  lowZ: ∀b,o.Z b→b<w.heap.size
  inj: ∀k p L k' p' L',o.β k p=some L→o.β k' p'=some L'→L.b=L'.b→k=k'∧p=p'
  low: ∀k p L,o.β k p=some L→L.b<w.heap.size
  row: ∀k p L,o.β k p=some L→ ∃r,rowAt M k p=some r∧r.sz=L.sz∧r.n=L.cnt∧RowOK w o (ent M k).hl k p L r
  live: ∀k l,(ent M k).b= .cells l→ ∃L,o.β k none=some L
  hol: ∀k i j,(ent M k).hl=some (i,j)→o.β k (some (i,j))=none
theorem den_not_il {w:World} {o:Ow} {hl:Option (Nat×Nat)} {k i j:Nat} {s:SV} {x:Value} (h:isIl s=false):CellOK w o hl k i j s x=Den w o s x:=by
  unfold CellOK
  split
  · cases h
  · rfl
theorem CellOK.ext {w w':World} {o o':Ow} (h:Ext w o w' o') {hl:Option (Nat×Nat)} {k i j:Nat} (hs:(o'.cur k).2=(o.cur k).2) (hb: ∀q,o'.β k q=o.β k q) {s:SV} {x:Value} (hc:CellOK w o hl k i j s x):CellOK w' o' hl k i j s x:=by
  cases hi:isIl s with
  |false=>
   rw [den_not_il hi] at*
   exact Den.ext h hc
  |true=>
   cases s with
   |il sz n g=>
    rcases hc with hc|⟨h1,h2⟩
    · exact .inl hc
    · exact .inr ⟨h1.ext h hs,fun L hL=>h2 L (by rw [←hb];exact hL)⟩
   |_=>cases hi
theorem LeafOK.ext {w w':World} {o o':Ow} (h:Ext w o w' o') {hl:Option (Nat×Nat)} {k i j:Nat} {p:Path} (hs:(o'.cur k).2=(o.cur k).2) (hb: ∀q,o'.β k q=o.β k q) {s:SV} {x:Value} (hc:LeafOK w o hl k p i j s x):LeafOK w' o' hl k p i j s x:=by
  cases p with
  |none=>exact CellOK.ext h hs hb hc
  |some _=>exact Den.ext h hc
theorem RowOK.ext {w w':World} {o o':Ow} (h:Ext w o w' o') {hl:Option (Nat×Nat)} {k:Nat} {p:Path} {L:Loc} {r:Row} (hs:(o'.cur k).2=(o.cur k).2) (hb: ∀q,o'.β k q=o.β k q) (hh:w'.heap[L.b]? =w.heap[L.b]?)
    (hr:RowOK w o hl k p L r):RowOK w' o' hl k p L r:=by
  obtain ⟨c,T,h1,h2,h3,h4⟩:=hr
  refine ⟨c,T,hh.trans h1,h2,h3,fun i hi j hj=>?_⟩
  obtain ⟨x,h5,h6⟩:=h4 i hi j hj
  exact ⟨x,h5,h6.ext h hs hb⟩
theorem RowOK.lt {w:World} {o:Ow} {hl:Option (Nat×Nat)} {k:Nat} {p:Path} {L:Loc} {r:Row} (hr:RowOK w o hl k p L r):L.b<w.heap.size:=by
  obtain ⟨c,T,h1,_⟩:=hr
  exact (Array.getElem?_eq_some_iff.1 h1).1
structure Stp (w:World) (o:Ow) (M:Mem) (w':World) (o':Ow) (M':Mem):Prop where
  ext:Ext w o w' o'
  mem:MemOK w' o' M'
theorem Stp.trans {w w' w'':World} {o o' o'':Ow} {M M' M'':Mem} (h:Stp w o M w' o' M') (k:Stp w' o' M' w'' o'' M''):Stp w o M w'' o'' M'':=⟨h.ext.trans k.ext,k.mem⟩
theorem Stp.refl {w:World} {o:Ow} {M:Mem} (h:MemOK w o M):Stp w o M w o M:=⟨Ext.refl _ _,h⟩
/-! ### a world with the same memory, or more of it -/
def Cw (w w':World):Prop:=w'.os=w.os∧w'.tape=w.tape∧w'.output=w.output∧w.heap.size≤w'.heap.size∧ ∀b,b<w.heap.size→w'.heap[b]? =w.heap[b]?
theorem Cw.refl (w:World):Cw w w:=⟨rfl,rfl,rfl,Nat.le_refl _,fun _ _=>rfl⟩
theorem Cw.ext {w w':World} (h:Cw w w') (o:Ow):Ext w o w' o:=⟨h.1,h.2.1,h.2.2.1,fun b hb _=>h.2.2.2.2 b hb,fun _ _ h=>h,fun _ _ _ h=>h,h.2.2.2.1,fun _=>⟨Nat.le_refl _,Nat.le_refl _⟩,fun _ _ _ h _=>h,fun _ h=>h⟩
theorem MemOK.more {w w':World} {o:Ow} {M:Mem} (hm:MemOK w o M) (h:Cw w w'):MemOK w' o M where
  cur:=hm.cur
  own:=hm.own
  lowA:=fun b hb=>Nat.lt_of_lt_of_le (hm.lowA b hb) h.2.2.2.1
  dj:=hm.dj
  lowZ:=fun b hb=>Nat.lt_of_lt_of_le (hm.lowZ b hb) h.2.2.2.1
  inj:=hm.inj
  low:=fun k p L hL=>Nat.lt_of_lt_of_le (hm.low k p L hL) h.2.2.2.1
  row:=fun k p L hL=>by
    obtain ⟨r,h1,h2,h3,h4⟩:=hm.row k p L hL
    exact ⟨r,h1,h2,h3,h4.ext (h.ext o) rfl (fun _=>rfl) (h.2.2.2.2 _ (hm.low k p L hL))⟩
  live:=hm.live
  hol:=hm.hol
theorem Stp.more {w w':World} {o:Ow} {M:Mem} (hm:MemOK w o M) (h:Cw w w'):Stp w o M w' o M:=⟨h.ext o,hm.more h⟩
/-! ### a new root -/
def Ow.add (o:Ow) (k:Nat) (L:Loc):Ow:=⟨fun b=>o.A b∨b=L.b,o.Z,fun k' p=>if k'=k∧p=none then some L else o.β k' p,o.cur⟩
def Free (o:Ow) (M:Mem) (k:Nat):Prop:=(ent M k).b= .dead∧(ent M k).hl=none∧ ∀p,o.β k p=none
def fresh (M:Mem) (k:Nat) (b:Blk):Mem:=(k,⟨(ent M k).rs,(ent M k).ds,none,b⟩)::M
theorem curM_same {M:Mem} {k:Nat} {e:Ent} (h1:e.rs=(ent M k).rs) (h2:e.ds=(ent M k).ds):curM ((k,e)::M)=curM M:=by
  funext k'
  unfold curM
  by_cases hk:k=k'
  · subst hk;rw [ent_eq,h1,h2]
  · rw [ent_ne hk]
theorem ext_alloc {w:World} {o:Ow} {k:Nat} {ob:Obj} {L:Loc} (hb:L.b=w.heap.size) (hf: ∀p,o.β k p=none):Ext w o (w.alloc ob) (o.add k L) where
  os:=rfl
  tape:=rfl
  output:=rfl
  same:=fun b hb _=>Below.heap_alloc _ _ _ hb
  free:=fun b hlt h h2=>h2.elim h (fun e=>by omega)
  lent:=fun _ _ _ h=>h
  size:=by simp
  mono:=fun _=>⟨Nat.le_refl _,Nat.le_refl _⟩
  lab:=fun k' p L' h _=>by
    show (if k'=k∧p=none then some L else o.β k' p)=some L'
    rw [if_neg]
    · exact h
    · rintro ⟨rfl,rfl⟩;rw [hf] at h;cases h
  zs:=fun _ h=>h
theorem Stp.alloc {w:World} {o:Ow} {M:Mem} (hm:MemOK w o M) {k:Nat} (hf:Free o M k) {c:Array Value} {T:TypeId} {b:Blk} {r:Row} (hr:b.row? =some r)
    {L:Loc} (hL:L=⟨w.heap.size,0,r.sz,r.n,c.size⟩) (hc:r.n*r.sz≤c.size)
    (hcell: ∀i,i<r.n→ ∀j,j<r.sz→ ∃x,c[i*r.sz+j]? =some x∧LeafOK (w.alloc (.cells c T)) (o.add k L) none k none i j (r.f i j) x):
    Stp w o M (w.alloc (.cells c T)) (o.add k L) (fresh M k b):=by
  have hext:Ext w o (w.alloc (.cells c T)) (o.add k L):=ext_alloc (by rw [hL]) hf.2.2
  have hβ: ∀k' p L',(o.add k L).β k' p=some L'→(k'=k∧p=none∧L'=L)∨(¬(k'=k)∧o.β k' p=some L'):=by
    intro k' p L' h
    by_cases hk:k'=k∧p=none
    · have h':(if k'=k∧p=none then some L else o.β k' p)=some L':=h
      rw [if_pos hk] at h'
      exact .inl ⟨hk.1,hk.2,(Option.some.inj h').symm⟩
    · have h':(if k'=k∧p=none then some L else o.β k' p)=some L':=h
      rw [if_neg hk] at h'
      refine .inr ⟨fun e=>?_,h'⟩
      subst e;rw [hf.2.2] at h';cases h'
  have hbnew:L.b=w.heap.size:=by rw [hL]
  refine ⟨hext,?_,?_,?_,?_,?_,?_,?_,?_,?_,?_⟩
  · show o.cur=_
    rw [hm.cur]
    unfold fresh
    exact (curM_same (M:=M) (k:=k) (e:=⟨(ent M k).rs,(ent M k).ds,none,b⟩) rfl rfl).symm
  · rintro b' ⟨k',p,L',h1,h2⟩
    rcases hβ k' p L' h1 with ⟨_,_,rfl⟩|⟨_,h⟩
    · exact .inr h2.symm
    · exact .inl ((hm.own b') ⟨k',p,L',h,h2⟩)
  · rintro b' (h|rfl)
    · exact Nat.lt_of_lt_of_le (hm.lowA b' h) hext.size
    · rw [hL];simp
  · rintro b' (h|rfl) hz
    · exact hm.dj b' h hz
    · have:=hm.lowZ _ hz;omega
  · exact fun b' hz=>Nat.lt_of_lt_of_le (hm.lowZ b' hz) hext.size
  · intro k1 p1 L1 k2 p2 L2 h1 h2 e
    rcases hβ _ _ _ h1 with ⟨rfl,rfl,rfl⟩|⟨_,g1⟩<;>rcases hβ _ _ _ h2 with ⟨rfl,rfl,rfl⟩|⟨_,g2⟩
    · exact ⟨rfl,rfl⟩
    · have:=hm.low _ _ _ g2;omega
    · have:=hm.low _ _ _ g1;omega
    · exact hm.inj _ _ _ _ _ _ g1 g2 e
  · intro k1 p1 L1 h1
    rcases hβ _ _ _ h1 with ⟨rfl,rfl,rfl⟩|⟨_,g1⟩
    · rw [hbnew];simp
    · have:=hm.low _ _ _ g1;simp;omega
  · intro k1 p1 L1 h1
    rcases hβ _ _ _ h1 with ⟨rfl,rfl,rfl⟩|⟨hne,g1⟩
    · refine ⟨r,by unfold rowAt fresh;rw [ent_eq];exact hr,by rw [hL],by rw [hL],c,T,by rw [hbnew];exact heap_alloc_new w _,by rw [hL],by rw [hL];simpa using hc,?_⟩
      rw [hL]
      intro i hi j hj
      obtain ⟨x,e1,e2⟩:=hcell i hi j hj
      refine ⟨x,by simpa using e1,?_⟩
      unfold fresh;rw [ent_eq]
      rw [hL] at e2
      exact e2
    · obtain ⟨r1,e1,e2,e3,e4⟩:=hm.row k1 p1 L1 g1
      refine ⟨r1,by unfold rowAt fresh;rw [ent_ne (Ne.symm hne)];exact e1,e2,e3,?_⟩
      unfold fresh;rw [ent_ne (Ne.symm hne)]
      refine e4.ext hext rfl (fun q=>?_) (Below.heap_alloc _ _ _ (hm.low _ _ _ g1))
      show (if k1=k∧q=none then some L else o.β k1 q)=_
      rw [if_neg (fun h=>hne h.1)]
  · intro k1 l h
    by_cases hk:k1=k
    · subst hk;exact ⟨L,by simp [Ow.add]⟩
    · unfold fresh at h;rw [ent_ne (Ne.symm hk)] at h
      obtain ⟨L1,h1⟩:=hm.live k1 l h
      exact ⟨L1,hext.lab _ _ _ h1 rfl⟩
  · intro k1 i1 j1 h
    by_cases hk:k1=k
    · subst hk;unfold fresh at h;rw [ent_eq] at h;cases h
    · unfold fresh at h;rw [ent_ne (Ne.symm hk)] at h
      show (if k1=k∧some (i1,j1)=none then some L else o.β k1 (some (i1,j1)))=none
      rw [if_neg (fun h=>hk h.1)]
      exact hm.hol _ _ _ h
/-! ### one cell is written -/
theorem setCell_heap_ne (w:World) (a:Addr) (x:Value) {b:Nat} (h:b≠a.block):(w.setCell a x).heap[b]? =w.heap[b]? :=Below.heap_setCell w a x b h
theorem setCell_heap_eq {w:World} {b off:Nat} {x:Value} {c:Array Value} {T:TypeId} {fz:Nat×Nat} (h:w.heap[b]? =some (Obj.cells c T fz)):(w.setCell ⟨b,off,none⟩ x).heap[b]? =some (Obj.cells (c.setIfInBounds off x) T fz):=by
  simp only [World.setCell,Array.getElem?_modify,if_pos,h,Option.map_some,Option.isSome_none,Bool.false_eq_true,if_false]
theorem ext_setCell {w:World} {o:Ow} {a:Addr} (x:Value) (ha:o.A a.block):Ext w o (w.setCell a x) o where
  os:=rfl
  tape:=rfl
  output:=rfl
  same:=fun b _ hb=>setCell_heap_ne w a x (fun e=>hb (e▸ha))
  free:=fun _ _ h=>h
  lent:=fun _ _ _ h=>h
  size:=by simp [World.setCell]
  mono:=fun _=>⟨Nat.le_refl _,Nat.le_refl _⟩
  lab:=fun _ _ _ h _=>h
  zs:=fun _ h=>h
theorem idx_inj {i j i' j' sz o:Nat} (hj:j<sz) (hj':j'<sz) (h:o+i*sz+j=o+i'*sz+j'):i=i'∧j=j':=by
  have h:i*sz+j=i'*sz+j':=by omega
  have h1:(i*sz+j)/sz=i:=by rw [Nat.add_comm,Nat.add_mul_div_right _ _ (by omega),Nat.div_eq_of_lt hj];omega
  have h2:(i'*sz+j')/sz=i':=by rw [Nat.add_comm,Nat.add_mul_div_right _ _ (by omega),Nat.div_eq_of_lt hj'];omega
  have:i=i':=by rw [←h1,←h2,h]
  subst this
  exact ⟨rfl,by omega⟩
theorem idx_lt {i j sz cnt:Nat} (hi:i<cnt) (hj:j<sz):i*sz+j<cnt*sz:=by
  have:=Nat.mul_le_mul_right sz (show i+1≤cnt by omega)
  rw [Nat.add_mul] at this
  omega
theorem Stp.put {w:World} {o:Ow} {M:Mem} (hm:MemOK w o M) {k:Nat} {p:Path} {L:Loc} (hL:o.β k p=some L) {i j:Nat} (hi:i<L.cnt) (hj:j<L.sz) {x:Value} {e':Ent}
    (he:e'.rs=(ent M k).rs∧e'.ds=(ent M k).ds∧e'.hl=(ent M k).hl) (hlive: ∀l',e'.b= .cells l'→ ∃l,(ent M k).b= .cells l)
    (hrow: ∀q r,rowIn (ent M k).b q=some r→ ∃r',rowIn e'.b q=some r'∧r'.sz=r.sz∧r'.n=r.n∧ ∀a,a<r.n→ ∀b,b<r.sz→
      ((q=p∧a=i∧b=j)→ ∀w',Ext w o w' o→LeafOK w' o (ent M k).hl k q a b (r'.f a b) x)∧(¬(q=p∧a=i∧b=j)→ ∀w' y,LeafOK w' o (ent M k).hl k q a b (r.f a b) y→LeafOK w' o (ent M k).hl k q a b (r'.f a b) y)):
    Stp w o M (w.setCell ⟨L.b,L.o+i*L.sz+j,none⟩ x) o ((k,e')::M):=by
  have hA:o.A L.b:=(hm.own _) ⟨k,p,L,hL,rfl⟩
  have hext:=ext_setCell (w:=w) (o:=o) (a:=⟨L.b,L.o+i*L.sz+j,none⟩) x hA
  refine ⟨hext,?_,hm.own,fun b h=>by simpa [World.setCell] using hm.lowA b h,hm.dj,fun b h=>by simpa [World.setCell] using hm.lowZ b h,hm.inj,fun k p L h=>by simpa [World.setCell] using hm.low k p L h,?_,?_,?_⟩
  · rw [hm.cur];exact (curM_same he.1 he.2.1).symm
  · intro k1 p1 L1 h1
    obtain ⟨r,e1,e2,e3,e4⟩:=hm.row k1 p1 L1 h1
    by_cases hk:k1=k
    · subst hk
      obtain ⟨r',f1,f2,f3,f4⟩:=hrow p1 r e1
      refine ⟨r',by unfold rowAt;rw [ent_eq];exact f1,f2.trans e2,f3.trans e3,?_⟩
      rw [ent_eq,he.2.2]
      obtain ⟨c,T,g1,g2,g3,g4⟩:=e4
      by_cases hp:p1=p
      · subst hp
        obtain rfl:L1=L:=Option.some.inj (h1.symm.trans hL)
        refine ⟨c.setIfInBounds (L1.o+i*L1.sz+j) x,T,setCell_heap_eq g1,by simpa using g2,g3,fun a ha b hb=>?_⟩
        obtain ⟨y,y1,y2⟩:=g4 a ha b hb
        have hlt:L1.o+a*L1.sz+b<c.size:=(Array.getElem?_eq_some_iff.1 y1).1
        by_cases hab:a=i∧b=j
        · obtain ⟨rfl,rfl⟩:=hab
          exact ⟨x,by rw [Array.getElem?_setIfInBounds_self_of_lt hlt],(f4 a (by rw [e3];exact ha) b (by rw [e2];exact hb)).1 ⟨rfl,rfl,rfl⟩ _ hext⟩
        · refine ⟨y,?_,(f4 a (by rw [e3];exact ha) b (by rw [e2];exact hb)).2 (fun h=>hab h.2) _ y (y2.ext hext rfl (fun _=>rfl))⟩
          rw [Array.getElem?_setIfInBounds_ne]
          · exact y1
          · intro e
            obtain ⟨h5,h6⟩:=idx_inj hj hb e
            exact hab ⟨h5.symm,h6.symm⟩
      · have hne:L1.b≠L.b:=fun e=>hp (hm.inj _ _ _ _ _ _ h1 hL e).2
        refine ⟨c,T,(setCell_heap_ne w _ x hne).trans g1,g2,g3,fun a ha b hb=>?_⟩
        obtain ⟨y,y1,y2⟩:=g4 a ha b hb
        exact ⟨y,y1,(f4 a (by rw [e3];exact ha) b (by rw [e2];exact hb)).2 (fun h=>hp h.1) _ y (y2.ext hext rfl (fun _=>rfl))⟩
    · have hne:L1.b≠L.b:=fun e=>hk (hm.inj _ _ _ _ _ _ h1 hL e).1
      refine ⟨r,by unfold rowAt;rw [ent_ne (Ne.symm hk)];exact e1,e2,e3,?_⟩
      rw [ent_ne (Ne.symm hk)]
      exact e4.ext hext rfl (fun _=>rfl) (setCell_heap_ne w _ x hne)
  · intro k1 l h
    by_cases hk:k1=k
    · subst hk
      rw [ent_eq] at h
      obtain ⟨l0,h0⟩:=hlive l h
      exact hm.live k1 l0 h0
    · rw [ent_ne (Ne.symm hk)] at h
      exact hm.live k1 l h
  · intro k1 i1 j1 h
    by_cases hk:k1=k
    · subst hk;rw [ent_eq,he.2.2] at h;exact hm.hol _ _ _ h
    · rw [ent_ne (Ne.symm hk)] at h;exact hm.hol _ _ _ h
theorem Stp.putCells {w:World} {o:Ow} {M:Mem} (hm:MemOK w o M) {k:Nat} {l:List SV} (hb:(ent M k).b= .cells l) {L:Loc} (hL:o.β k none=some L) {i j:Nat} (hi:i<L.cnt) (hj:j<l.length) {v:SV} {x:Value} (hv:isIl v=false) (hx:Den w o v x):
    Stp w o M (w.setCell ⟨L.b,L.o+i*L.sz+j,none⟩ x) o ((k,{ent M k with b:= .cells (l.set j v)})::M):=by
  obtain ⟨r,e1,e2,e3,e4⟩:=hm.row k none L hL
  have e1':=e1
  unfold rowAt at e1
  rw [hb] at e1
  obtain rfl:=Option.some.inj e1
  refine Stp.put hm hL hi (by rw [←e2];exact hj) ⟨rfl,rfl,rfl⟩ (fun _ _=>⟨l,hb⟩) ?_
  intro q r hr
  rw [hb] at hr
  cases q with
  |none=>
   obtain rfl:=Option.some.inj hr
   refine ⟨⟨(l.set j v).length,1,fun _ q=>lsv (l.set j v) q⟩,rfl,by simp,rfl,fun a ha b hb'=>⟨?_,?_⟩⟩
   · rintro ⟨_,rfl,rfl⟩ w' hw'
     have:lsv (l.set b v) b=v:=by simp [lsv,List.getD_eq_getElem?_getD,hb']
     show CellOK _ _ _ _ _ _ (lsv (l.set b v) b) _
     rw [this,den_not_il hv]
     exact hx.ext hw'
   · intro hne w' y hy
     have hi0:i=0:=by
       have:L.cnt=1:=e3.symm
       omega
     have ha0:a=0:=by simp at ha;omega
     have hbj:b≠j:=fun e=>hne ⟨rfl,by omega,e⟩
     have:lsv (l.set j v) b=lsv l b:=by simp [lsv,List.getD_eq_getElem?_getD,List.getElem?_set_ne (Ne.symm hbj)]
     show CellOK _ _ _ _ _ _ (lsv (l.set j v) b) _
     rw [this]
     exact hy
  |some ij=>obtain ⟨i',j'⟩:=ij;cases hr
theorem set_ne {r:Row} {i j i' j':Nat} {v:SV} (h:j'≠j):(r.set i j v).f i' j'=r.f i' j':=by
  have:Nat.beq j' j=false:=by
    cases hb:Nat.beq j' j
    · rfl
    · exact absurd (Nat.eq_of_beq_eq_true hb) h
  simp only [Row.set,this]
theorem set_eq {r:Row} {i j i':Nat} {v:SV}:(r.set i j v).f i' j=iteSV (Nat.beq i' i) v (r.f i' j):=by simp [Row.set]
theorem inner_notIl {r:Row} {i j:Nat} (h:isIl (r.f i j)=false):inner r i j=none:=by
  unfold inner
  split
  · next e=>rw [e] at h;cases h
  · rfl
theorem Stp.putRow {w:World} {o:Ow} {M:Mem} (hm:MemOK w o M) {k sz n:Nat} {f:Nat→Nat→SV} (hb:(ent M k).b= .row sz n f) {L:Loc} (hL:o.β k none=some L) {i j:Nat} (hi:i<L.cnt) (hj:j<sz) {v:SV} {x:Value} (hv:isIl v=false) (hx:Den w o v x)
    (hcol: ∀i',isIl (f i' j)=false):
    Stp w o M (w.setCell ⟨L.b,L.o+i*L.sz+j,none⟩ x) o ((k,{ent M k with b:= .row sz n ((⟨sz,n,f⟩:Row).set i j v).f})::M):=by
  obtain ⟨r,e1,e2,e3,e4⟩:=hm.row k none L hL
  unfold rowAt at e1
  rw [hb] at e1
  obtain rfl:=Option.some.inj e1
  have hleaf: ∀i',isIl (((⟨sz,n,f⟩:Row).set i j v).f i' j)=false:=fun i'=>by rw [set_eq,iteSV_leaf hv];exact iteL_notIl _ _ _
  refine Stp.put hm hL hi (by rw [←e2];exact hj) ⟨rfl,rfl,rfl⟩ (fun _ h=>by cases h) ?_
  intro q r hr
  rw [hb] at hr
  cases q with
  |none=>
   obtain rfl:=Option.some.inj hr
   refine ⟨⟨sz,n,((⟨sz,n,f⟩:Row).set i j v).f⟩,rfl,rfl,rfl,fun a ha b hb'=>⟨?_,?_⟩⟩
   · rintro ⟨_,rfl,rfl⟩ w' hw'
     show CellOK _ _ _ _ _ _ (((⟨sz,n,f⟩:Row).set a b v).f a b) _
     rw [den_not_il (hleaf a),set_eq]
     exact iteSV_den (fun _=>hx.ext hw') (fun h=>by rw [Nat.beq_refl] at h;cases h)
   · intro hne w' y hy
     show CellOK _ _ _ _ _ _ (((⟨sz,n,f⟩:Row).set i j v).f a b) _
     by_cases hbj:b=j
     · subst hbj
       rw [den_not_il (hleaf a),set_eq]
       have hy:CellOK w' o (ent M k).hl k a b (f a b) y:=hy
       rw [den_not_il (hcol a)] at hy
       exact iteSV_den (fun h=>absurd (Nat.eq_of_beq_eq_true h) (fun e=>hne ⟨rfl,e,rfl⟩)) (fun _=>hy)
     · rw [set_ne hbj];exact hy
  |some ij=>
   obtain ⟨i',j'⟩:=ij
   have hr:inner ⟨sz,n,f⟩ i' j'=some r:=hr
   have hjj:j'≠j:=by
     intro e
     subst e
     rw [inner_notIl (hcol i')] at hr
     cases hr
   refine ⟨r,?_,rfl,rfl,fun a ha b hb'=>⟨?_,fun _ _ _ h=>h⟩⟩
   · show inner ⟨sz,n,((⟨sz,n,f⟩:Row).set i j v).f⟩ i' j'=some r
     unfold inner at hr⊢
     simp only [set_ne hjj]
     exact hr
   · rintro ⟨h,_⟩;cases h
def isIlz (sz:Nat):SV→Bool
  | .il sz' _ _=>Nat.beq sz' sz
  |_=>false
theorem isIlz_eq {sz:Nat} {s:SV} (h:isIlz sz s=true): ∃n g,s= .il sz n g:=by
  unfold isIlz at h
  split at h
  · obtain rfl:=Nat.eq_of_beq_eq_true h;exact ⟨_,_,rfl⟩
  · cases h
theorem Stp.putInner {w:World} {o:Ow} {M:Mem} (hm:MemOK w o M) {k sz n:Nat} {f:Nat→Nat→SV} (hb:(ent M k).b= .row sz n f) {i0 j0:Nat} {sz2 n2:Nat} {g:Nat→Nat→SV} (hg:f i0 j0= .il sz2 n2 g)
    {L:Loc} (hL:o.β k (some (i0,j0))=some L) {i j:Nat} (hi:i<L.cnt) (hj:j<sz2) {v:SV} {x:Value} (hv:isIl v=false) (hx:Den w o v x) (hcol: ∀i',isIlz sz2 (f i' j0)=true):
    Stp w o M (w.setCell ⟨L.b,L.o+i*L.sz+j,none⟩ x) o ((k,{ent M k with b:= .row sz n ((⟨sz,n,f⟩:Row).set i0 j0 (.il sz2 n2 ((⟨sz2,n2,g⟩:Row).set i j v).f)).f})::M):=by
  obtain ⟨r,e1,e2,e3,e4⟩:=hm.row k _ L hL
  unfold rowAt at e1
  rw [hb] at e1
  have e1:inner ⟨sz,n,f⟩ i0 j0=some r:=e1
  unfold inner at e1
  simp only [hg] at e1
  obtain rfl:=Option.some.inj e1
  have hf': ∀i',∃n' g',f i' j0= .il sz2 n' g'∧((⟨sz,n,f⟩:Row).set i0 j0 (.il sz2 n2 ((⟨sz2,n2,g⟩:Row).set i j v).f)).f i' j0= .il sz2 (bif Nat.beq i' i0 then n2 else n') (fun a b=>iteL (Nat.beq i' i0) (((⟨sz2,n2,g⟩:Row).set i j v).f a b) (g' a b)):=by
    intro i'
    obtain ⟨n',g',h⟩:=isIlz_eq (hcol i')
    exact ⟨n',g',h,by rw [set_eq];show iteSV _ _ (f i' j0)=_;rw [h];simp [iteSV]⟩
  have hnn: ∀i' n' g',f i' j0= .il sz2 n' g'→(bif Nat.beq i' i0 then n2 else n')=n':=by
    intro i' n' g' h
    cases hb:Nat.beq i' i0
    · rfl
    · obtain rfl:=Nat.eq_of_beq_eq_true hb
      rw [hg] at h;cases h;rfl
  refine Stp.put hm hL hi (by rw [←e2];exact hj) ⟨rfl,rfl,rfl⟩ (fun _ h=>by cases h) ?_
  intro q r hr
  rw [hb] at hr
  cases q with
  |none=>
   obtain rfl:=Option.some.inj hr
   refine ⟨⟨sz,n,((⟨sz,n,f⟩:Row).set i0 j0 (.il sz2 n2 ((⟨sz2,n2,g⟩:Row).set i j v).f)).f⟩,rfl,rfl,rfl,fun a ha b hb'=>⟨?_,?_⟩⟩
   · rintro ⟨h,_⟩;cases h
   · intro _ w' y hy
     show CellOK _ _ _ _ _ _ (((⟨sz,n,f⟩:Row).set i0 j0 (.il sz2 n2 ((⟨sz2,n2,g⟩:Row).set i j v).f)).f a b) _
     by_cases hbj:b=j0
     · subst hbj
       obtain ⟨n',g',h1,h2⟩:=hf' a
       rw [h2]
       have hy:CellOK w' o (ent M k).hl k a b (f a b) y:=hy
       rw [h1] at hy
       show _∨_
       rw [hnn a n' g' h1]
       exact hy
     · rw [set_ne hbj];exact hy
  |some ij=>
   obtain ⟨i',j'⟩:=ij
   have hr:inner ⟨sz,n,f⟩ i' j'=some r:=hr
   by_cases hjj:j'=j0
   · subst hjj
     obtain ⟨n',g',h1,h2⟩:=hf' i'
     unfold inner at hr
     simp only [h1] at hr
     obtain rfl:=Option.some.inj hr
     refine ⟨⟨sz2,bif Nat.beq i' i0 then n2 else n',fun a b=>iteL (Nat.beq i' i0) (((⟨sz2,n2,g⟩:Row).set i j v).f a b) (g' a b)⟩,by show inner ⟨sz,n,_⟩ i' j'=_;unfold inner;simp only [h2],rfl,hnn i' n' g' h1,fun a ha b hb'=>⟨?_,?_⟩⟩
     · rintro ⟨hq,rfl,rfl⟩ w' hw'
       simp only [Option.some.injEq,Prod.mk.injEq,and_true] at hq
       subst hq
       refine iteL_den (fun _=>?_) (fun h=>by rw [Nat.beq_refl] at h;cases h)
       rw [set_eq]
       exact iteSV_den (fun _=>hx.ext hw') (fun h=>by rw [Nat.beq_refl] at h;cases h)
     · intro hne w' y hy
       refine iteL_den (fun h=>?_) (fun _=>hy)
       have h:=Nat.eq_of_beq_eq_true h
       subst h
       rw [hg] at h1;cases h1
       by_cases hbj:b=j
       · subst hbj
         rw [set_eq]
         exact iteSV_den (fun h=>absurd (Nat.eq_of_beq_eq_true h) (fun e=>hne ⟨rfl,e,rfl⟩)) (fun _=>hy)
       · rw [set_ne hbj];exact hy
   · refine ⟨r,?_,rfl,rfl,fun a ha b hb'=>⟨?_,fun _ _ _ h=>h⟩⟩
     · show inner ⟨sz,n,_⟩ i' j'=some r
       unfold inner at hr⊢
       simp only [set_ne hjj]
       exact hr
     · rintro ⟨h,_⟩
       simp only [Option.some.injEq,Prod.mk.injEq] at h
       exact absurd h.2 hjj
end Go.Sy
set_option linter.unusedVariables false
set_option linter.unusedSimpArgs false
namespace Go.Sy
open Go.RowKit
def Ow.re (o:Ow) (β:Nat→Path→Option Loc) (M:Mem):Ow:=⟨fun b=> ∃k p L,β k p=some L∧L.b=b,o.Z,β,curM M⟩
theorem Stp.re {w:World} {o:Ow} {M:Mem} (hm:MemOK w o M) {β:Nat→Path→Option Loc} {M':Mem} (φ:Nat→Path→Nat×Path)
    (h1: ∀k p L,β k p=some L→ ∃L0,o.β (φ k p).1 (φ k p).2=some L0∧L.b=L0.b)
    (h2: ∀k p L k' p' L',β k p=some L→β k' p'=some L'→φ k p=φ k' p'→k=k'∧p=p')
    (hext:Ext w o w (o.re β M')) (h3: ∀k p L,β k p=some L→ ∃r,rowAt M' k p=some r∧r.sz=L.sz∧r.n=L.cnt∧RowOK w (o.re β M') (ent M' k).hl k p L r)
    (h4: ∀k l,(ent M' k).b= .cells l→ ∃L,β k none=some L) (h5: ∀k i j,(ent M' k).hl=some (i,j)→β k (some (i,j))=none):Stp w o M w (o.re β M') M':=by
  refine ⟨hext,rfl,fun _ h=>h,?_,?_,hm.lowZ,?_,?_,h3,h4,h5⟩
  · rintro b ⟨k,p,L,e1,rfl⟩
    obtain ⟨L0,f1,f2⟩:=h1 _ _ _ e1
    rw [f2];exact hm.low _ _ _ f1
  · rintro b ⟨k,p,L,e1,rfl⟩
    obtain ⟨L0,f1,f2⟩:=h1 _ _ _ e1
    rw [f2];exact hm.dj _ (hm.own _ ⟨_,_,_,f1,rfl⟩)
  · intro k p L k' p' L' e1 e2 e
    obtain ⟨L0,f1,f2⟩:=h1 _ _ _ e1
    obtain ⟨L1,g1,g2⟩:=h1 _ _ _ e2
    obtain ⟨q1,q2⟩:=hm.inj _ _ _ _ _ _ f1 g1 (by rw [←f2,←g2];exact e)
    exact h2 _ _ _ _ _ _ e1 e2 (Prod.ext q1 q2)
  · intro k p L e1
    obtain ⟨L0,f1,f2⟩:=h1 _ _ _ e1
    rw [f2];exact hm.low _ _ _ f1
theorem ext_re {w:World} {o:Ow} {M M':Mem} (hm:MemOK w o M) {β:Nat→Path→Option Loc} (h1: ∀k p L,β k p=some L→ ∃k0 p0 L0,o.β k0 p0=some L0∧L.b=L0.b)
    (h2: ∀k,(ent M k).rs≤(ent M' k).rs∧(ent M k).ds≤(ent M' k).ds) (h3: ∀k p L,o.β k p=some L→st (curM M') k p=st (curM M) k p→β k p=some L):Ext w o w (o.re β M') where
  os:=rfl
  tape:=rfl
  output:=rfl
  same:=fun _ _ _=>rfl
  free:=fun b _ h h'=>by
    obtain ⟨k,p,L,e1,e2⟩:=h'
    obtain ⟨k0,p0,L0,f1,f2⟩:=h1 _ _ _ e1
    exact h ((hm.own b) ⟨k0,p0,L0,f1,by rw [←f2];exact e2⟩)
  lent:=fun _ _ _ h=>h
  size:=Nat.le_refl _
  mono:=fun k=>by rw [hm.cur];exact h2 k
  lab:=fun k p L h e=>h3 k p L h (by rw [hm.cur] at e;exact e)
  zs:=fun _ h=>h
def kill (M:Mem) (k:Nat):Mem:=(k,⟨(ent M k).rs+1,(ent M k).ds+1,none,.dead⟩)::M
theorem ent_kill_eq {M:Mem} {k:Nat}:ent (kill M k) k=⟨(ent M k).rs+1,(ent M k).ds+1,none,.dead⟩:=ent_eq
theorem ent_kill_ne {M:Mem} {k k':Nat} (h:k≠k'):ent (kill M k) k'=ent M k':=ent_ne h
theorem Stp.kill {w:World} {o:Ow} {M:Mem} (hm:MemOK w o M) (k:Nat): ∃o',Stp w o M w o' (kill M k)∧(∀k' p,k'≠k→o'.β k' p=o.β k' p)∧(∀p,o'.β k p=none):=by
  refine ⟨o.re (fun k' p=>if k'=k then none else o.β k' p) (Sy.kill M k),?_,fun k' p h=>if_neg h,fun p=>if_pos rfl⟩
  have hβ: ∀{k' p L},(if k'=k then none else o.β k' p)=some L→k'≠k∧o.β k' p=some L:=by
    intro k' p L h
    split at h
    · cases h
    · next hne=>exact ⟨hne,h⟩
  have hext:Ext w o w (o.re (fun k' p=>if k'=k then none else o.β k' p) (Sy.kill M k)):=by
    refine ext_re hm (fun k' p L h=>⟨k',p,L,(hβ h).2,rfl⟩) (fun k'=>?_) (fun k' p L h e=>?_)
    · by_cases hk:k=k'
      · subst hk;rw [ent_kill_eq];exact ⟨Nat.le_succ _,Nat.le_succ _⟩
      · rw [ent_kill_ne hk];exact ⟨Nat.le_refl _,Nat.le_refl _⟩
    · show (if k'=k then none else o.β k' p)=some L
      rw [if_neg]
      · exact h
      · intro hk
        subst hk
        cases p<;>simp [st,curM,ent_kill_eq] at e
  refine Stp.re hm (fun k p=>(k,p)) (fun k' p L h=>⟨L,(hβ h).2,rfl⟩) (fun _ _ _ _ _ _ _ _ e=>by simpa using e) hext (fun k' p L h=>?_) (fun k' l h=>?_) (fun k' i j h=>?_)
  · obtain ⟨hne,h⟩:=hβ h
    obtain ⟨r,e1,e2,e3,e4⟩:=hm.row _ _ _ h
    refine ⟨r,by unfold rowAt;rw [ent_kill_ne (Ne.symm hne)];exact e1,e2,e3,?_⟩
    rw [ent_kill_ne (Ne.symm hne)]
    refine e4.ext hext ?_ (fun q=>if_neg hne) rfl
    show (curM _ k').2=_
    rw [hm.cur]
    simp only [curM,ent_kill_ne (Ne.symm hne)]
  · have hne:k≠k':=by
      intro e;subst e;rw [ent_kill_eq] at h;cases h
    rw [ent_kill_ne hne] at h
    obtain ⟨L,hL⟩:=hm.live _ _ h
    exact ⟨L,(if_neg (Ne.symm hne)).trans hL⟩
  · by_cases hk:k=k'
    · subst hk;exact if_pos rfl
    · rw [ent_kill_ne hk] at h
      exact (if_neg (Ne.symm hk)).trans (hm.hol _ _ _ h)
/-! ### a slice is taken out of its cell -/
def flatS:SV→SV
  | .il _ _ _=> .junk
  |s=>s
theorem flatS_notIl (s:SV):isIl (flatS s)=false:=by cases s<;>rfl
theorem flatS_den {w:World} {o:Ow} {s:SV} {u:Value} (h:Den w o s u):Den w o (flatS s) u:=by cases s<;>first|exact h|trivial
def punch (M:Mem) (k i j:Nat):Mem:=(k,⟨(ent M k).rs,(ent M k).ds+1,some (i,j),(ent M k).b⟩)::M
theorem ent_punch_eq {M:Mem} {k i j:Nat}:ent (punch M k i j) k=⟨(ent M k).rs,(ent M k).ds+1,some (i,j),(ent M k).b⟩:=ent_eq
theorem ent_punch_ne {M:Mem} {k i j k':Nat} (h:k≠k'):ent (punch M k i j) k'=ent M k':=ent_ne h
theorem Stp.detach {w:World} {o:Ow} {M:Mem} (hm:MemOK w o M) {k r i j:Nat} (hkr:k≠r) (hf:Free o M r) (hhl:(ent M k).hl=none) {sz n sz2 n2:Nat} {f g:Nat→Nat→SV} (hb:(ent M k).b= .row sz n f) (hg:f i j= .il sz2 n2 g):
    ∃o',Stp w o M w o' (fresh (punch M k i j) r (.row sz2 n2 fun a b=>flatS (g a b)))∧o'.β r none=o.β k (some (i,j))∧(∀p,p≠none→o'.β r p=none)∧(∀k' p,k'≠r→(k',p)≠(k,some (i,j))→o'.β k' p=o.β k' p):=by
  let β:Nat→Path→Option Loc:=fun k' p=>if k'=r then (if p=none then o.β k (some (i,j)) else none) else if k'=k∧p=some (i,j) then none else o.β k' p
  let φ:Nat→Path→Nat×Path:=fun k' p=>if k'=r then (k,some (i,j)) else (k',p)
  have hβ: ∀{k' p L},β k' p=some L→(k'=r∧p=none∧o.β k (some (i,j))=some L)∨(k'≠r∧ ¬(k'=k∧p=some (i,j))∧o.β k' p=some L):=by
    intro k' p L h
    by_cases h1:k'=r
    · simp only [β,if_pos h1] at h
      by_cases h2:p=none
      · simp only [if_pos h2] at h;exact .inl ⟨h1,h2,h⟩
      · simp only [if_neg h2] at h;cases h
    · simp only [β,if_neg h1] at h
      by_cases h2:k'=k∧p=some (i,j)
      · simp only [if_pos h2] at h;cases h
      · simp only [if_neg h2] at h;exact .inr ⟨h1,h2,h⟩
  have entM: ∀k',k'≠r→k'≠k→ent (fresh (punch M k i j) r (.row sz2 n2 fun a b=>flatS (g a b))) k'=ent M k':=fun k' h1 h2=>by
    unfold fresh;rw [ent_ne (Ne.symm h1),ent_punch_ne (Ne.symm h2)]
  have entK:ent (fresh (punch M k i j) r (.row sz2 n2 fun a b=>flatS (g a b))) k=⟨(ent M k).rs,(ent M k).ds+1,some (i,j),(ent M k).b⟩:=by
    unfold fresh;rw [ent_ne (Ne.symm hkr),ent_punch_eq]
  have entR:ent (fresh (punch M k i j) r (.row sz2 n2 fun a b=>flatS (g a b))) r=⟨(ent M r).rs,(ent M r).ds,none,.row sz2 n2 fun a b=>flatS (g a b)⟩:=by
    unfold fresh;rw [ent_eq,ent_punch_ne hkr]
  have hsrc: ∀k' p L,β k' p=some L→ ∃L0,o.β (φ k' p).1 (φ k' p).2=some L0∧L.b=L0.b:=by
    intro k' p L h
    rcases hβ h with ⟨rfl,rfl,h3⟩|⟨h1,h2,h3⟩
    · exact ⟨L,by simpa [φ] using h3,rfl⟩
    · exact ⟨L,by simpa [φ,h1] using h3,rfl⟩
  have hext:Ext w o w (o.re β (fresh (punch M k i j) r (.row sz2 n2 fun a b=>flatS (g a b)))):=by
    refine ext_re hm (fun k' p L h=>let ⟨L0,e1,e2⟩:=hsrc k' p L h;⟨_,_,L0,e1,e2⟩) (fun k'=>?_) (fun k' p L h e=>?_)
    · by_cases h1:k'=r
      · subst h1;rw [entR];exact ⟨Nat.le_refl _,Nat.le_refl _⟩
      · by_cases h2:k'=k
        · subst h2;rw [entK];exact ⟨Nat.le_refl _,Nat.le_succ _⟩
        · rw [entM k' h1 h2];exact ⟨Nat.le_refl _,Nat.le_refl _⟩
    · have h1:k'≠r:=by intro e;subst e;rw [hf.2.2] at h;cases h
      simp only [β,if_neg h1]
      rw [if_neg]
      · exact h
      · rintro ⟨rfl,rfl⟩
        simp [st,curM,entK] at e
  refine ⟨o.re β _,Stp.re hm φ hsrc ?_ hext ?_ ?_ ?_,?_,?_,?_⟩
  · intro k1 p1 L1 k2 p2 L2 e1 e2 e
    rcases hβ e1 with ⟨rfl,rfl,_⟩|⟨h1,h2,_⟩<;>rcases hβ e2 with ⟨rfl,rfl,_⟩|⟨g1,g2,_⟩
    · exact ⟨rfl,rfl⟩
    · simp only [φ,if_true,if_neg g1,Prod.mk.injEq] at e;exact absurd ⟨e.1.symm,e.2.symm⟩ g2
    · simp only [φ,if_true,if_neg h1,Prod.mk.injEq] at e;exact absurd e h2
    · simp only [φ,if_neg h1,if_neg g1,Prod.mk.injEq] at e;exact e
  · intro k' p L h
    rcases hβ h with ⟨rfl,rfl,h5⟩|⟨h1,h2,h5⟩
    · obtain ⟨r1,e1,e2,e3,c,T,e4,e5,e6,e7⟩:=hm.row _ _ _ h5
      unfold rowAt at e1
      rw [hb] at e1
      have e1:inner ⟨sz,n,f⟩ i j=some r1:=e1
      unfold inner at e1
      simp only [hg] at e1
      obtain rfl:=Option.some.inj e1
      refine ⟨⟨sz2,n2,fun a b=>flatS (g a b)⟩,by unfold rowAt;rw [entR];rfl,e2,e3,c,T,e4,e5,e6,fun a ha b hb'=>?_⟩
      obtain ⟨x,x1,x2⟩:=e7 a ha b hb'
      refine ⟨x,x1,?_⟩
      have x2:Den w o (g a b) x:=x2
      have x3:=x2.ext hext
      rw [entR]
      show CellOK _ _ none k' a b (flatS (g a b)) x
      rw [den_not_il (flatS_notIl _)]
      exact flatS_den x3
    · obtain ⟨r1,e1,e2,e3,e4⟩:=hm.row _ _ _ h5
      by_cases hk:k'=k
      · subst hk
        refine ⟨r1,by unfold rowAt;rw [entK];exact e1,e2,e3,?_⟩
        rw [entK]
        obtain ⟨c,T,f1,f2,f3,f4⟩:=e4
        refine ⟨c,T,f1,f2,f3,fun a ha b hb'=>?_⟩
        obtain ⟨x,x1,x2⟩:=f4 a ha b hb'
        refine ⟨x,x1,?_⟩
        cases p with
        |some _=>exact Den.ext hext x2
        |none=>
         have x2:CellOK w o (ent M k').hl k' a b (r1.f a b) x:=x2
         show CellOK _ _ (some (i,j)) k' a b (r1.f a b) x
         generalize r1.f a b=s1 at x2⊢
         cases hi:isIl s1 with
         |false=>rw [den_not_il hi] at*;exact x2.ext hext
         |true=>
          cases s1 with
          |il s5 n5 g5=>
           rcases x2 with x2|⟨⟨q,cap,y1,y2,y3,y4⟩,y5⟩
           · rw [hhl] at x2;cases x2
           · by_cases hab:(a,b)=(i,j)
             · simp only [Prod.mk.injEq] at hab;obtain ⟨rfl,rfl⟩:=hab;exact .inl rfl
             · have hb2:(o.re β (fresh (punch M k' i j) r (.row sz2 n2 fun a b=>flatS (g a b)))).β k' (some (a,b))=o.β k' (some (a,b)):=by
                 show β k' (some (a,b))=_
                 simp only [β,if_neg h1]
                 rw [if_neg]
                 rintro ⟨_,e⟩
                 exact hab (Option.some.inj e)
               exact .inr ⟨⟨q,cap,y1,y2,y3,by rw [hb2];exact y4⟩,by rw [hb2];exact y5⟩
          |_=>cases hi
      · refine ⟨r1,by unfold rowAt;rw [entM k' h1 hk];exact e1,e2,e3,?_⟩
        rw [entM k' h1 hk]
        refine e4.ext hext ?_ (fun q=>?_) rfl
        · show (curM _ k').2=_
          rw [hm.cur];simp only [curM,entM k' h1 hk]
        · show β k' q=_
          simp only [β,if_neg h1]
          rw [if_neg (fun h=>hk h.1)]
  · intro k' l h
    by_cases h1:k'=r
    · subst h1;rw [entR] at h;cases h
    · by_cases h2:k'=k
      · subst h2;rw [entK,hb] at h;cases h
      · rw [entM k' h1 h2] at h
        obtain ⟨L,hL⟩:=hm.live _ _ h
        refine ⟨L,?_⟩
        simp only [β,if_neg h1]
        rw [if_neg (fun h=>h2 h.1)]
        exact hL
  · intro k' a b h
    by_cases h1:k'=r
    · subst h1;rw [entR] at h;cases h
    · simp only [β,if_neg h1]
      by_cases h2:k'=k
      · subst h2
        rw [entK] at h
        rw [if_pos ⟨rfl,h.symm⟩]
      · rw [entM k' h1 h2] at h
        rw [if_neg (fun h=>h2 h.1)]
        exact hm.hol _ _ _ h
  · show β r none=_
    simp [β]
  · intro p hp
    show β r p=none
    simp [β,hp]
  · intro k' p h1 h2
    show β k' p=_
    simp only [β,if_neg h1]
    rw [if_neg]
    rintro ⟨rfl,rfl⟩
    exact h2 rfl
theorem Stp.dummy {w:World} {o:Ow} {M:Mem} (hm:MemOK w o M) {r:Nat} (hf:Free o M r) (sz n:Nat) (f:Nat→Nat→SV):Stp w o M w o (fresh M r (.row sz n f)):=by
  refine ⟨Ext.refl _ _,?_,hm.own,hm.lowA,hm.dj,hm.lowZ,hm.inj,hm.low,fun k p L h=>?_,fun k l h=>?_,fun k i j h=>?_⟩
  · rw [hm.cur];exact (curM_same (M:=M) (k:=r) (e:=⟨(ent M r).rs,(ent M r).ds,none,.row sz n f⟩) rfl rfl).symm
  · have hne:r≠k:=fun e=>by subst e;rw [hf.2.2] at h;cases h
    obtain ⟨r1,e1,e2,e3,e4⟩:=hm.row k p L h
    exact ⟨r1,by unfold rowAt fresh;rw [ent_ne hne];exact e1,e2,e3,by unfold fresh;rw [ent_ne hne];exact e4⟩
  · have hne:r≠k:=fun e=>by subst e;unfold fresh at h;rw [ent_eq] at h;cases h
    unfold fresh at h;rw [ent_ne hne] at h
    exact hm.live k l h
  · by_cases hne:r=k
    · subst hne;exact hf.2.2 _
    · unfold fresh at h;rw [ent_ne hne] at h
      exact hm.hol _ _ _ h
def fill (M:Mem) (k i j r sz n:Nat) (f:Nat→Nat→SV) (sz2 n2:Nat) (g:Nat→Nat→SV):Mem:=
  (k,⟨(ent M k).rs,(ent M k).ds+1,none,.row sz n ((⟨sz,n,f⟩:Row).set i j (.il sz2 n2 g)).f⟩)::kill M r
theorem Stp.fill {w:World} {o:Ow} {M:Mem} (hm:MemOK w o M) {k r i j:Nat} (hkr:k≠r) (hhl:(ent M k).hl=some (i,j)) {sz n sz2 n2 nr:Nat} {f g:Nat→Nat→SV} (hb:(ent M k).b= .row sz n f) (hcol: ∀i',isIlz sz2 (f i' j)=true)
    (hr:(ent M r).b= .row sz2 nr g) {x:Value} (hx:Head o r none 0 n2 x) {L:Loc} (hL:o.β k none=some L) (hi:i<L.cnt) (hj:j<sz):
    ∃o',Stp w o M (w.setCell ⟨L.b,L.o+i*L.sz+j,none⟩ x) o' (Sy.fill M k i j r sz n f sz2 n2 g)∧(∀k' p,k'≠r→(k',p)≠(k,some (i,j))→o'.β k' p=o.β k' p)∧(∀p,o'.β r p=none):=by
  obtain ⟨nh,gh,hil⟩:=isIlz_eq (hcol i)
  obtain ⟨r0,e1,e2,e3,_⟩:=hm.row k none L hL
  unfold rowAt at e1
  rw [hb] at e1
  obtain rfl:=Option.some.inj e1
  have s1:Stp w o M (w.setCell ⟨L.b,L.o+i*L.sz+j,none⟩ x) o ((k,ent M k)::M):=by
    refine Stp.put hm hL hi (by rw [←e2];exact hj) ⟨rfl,rfl,rfl⟩ (fun l h=>⟨l,h⟩) (fun q r h=>⟨r,h,rfl,rfl,fun a ha b hb'=>⟨?_,fun _ _ _ h=>h⟩⟩)
    rintro ⟨rfl,rfl,rfl⟩ w' hw'
    rw [hb] at h
    obtain rfl:=Option.some.inj h
    show CellOK _ _ _ _ _ _ (f a b) _
    rw [hil]
    exact .inl hhl
  have hm1:=s1.mem
  have hcell: ∀c T,(w.setCell ⟨L.b,L.o+i*L.sz+j,none⟩ x).heap[L.b]? =some (Obj.cells c T (0,0))→L.o+i*L.sz+j<c.size→c[L.o+i*L.sz+j]? =some x:=by
    intro c T h hlt
    obtain ⟨_,_,_,_,c0,T0,f1,f2,f3,f4⟩:=hm.row k none L hL
    rw [setCell_heap_eq f1] at h
    obtain ⟨rfl,_⟩:=Obj.cells.inj (Option.some.inj h)
    rw [Array.getElem?_setIfInBounds_self_of_lt (by simpa using hlt)]
  generalize hw1:w.setCell ⟨L.b,L.o+i*L.sz+j,none⟩ x=w1 at s1 hm1 hcell
  let β:Nat→Path→Option Loc:=fun k' p=>if k'=r then none else if k'=k∧p=some (i,j) then (o.β r none).map (fun L=>{L with cnt:=n2}) else o.β k' p
  let φ:Nat→Path→Nat×Path:=fun k' p=>if k'=k∧p=some (i,j) then (r,none) else (k',p)
  have hβ: ∀{k' p L'},β k' p=some L'→(k'=k∧p=some (i,j)∧ ∃L0,o.β r none=some L0∧L'={L0 with cnt:=n2})∨(k'≠r∧ ¬(k'=k∧p=some (i,j))∧o.β k' p=some L'):=by
    intro k' p L' h
    by_cases h1:k'=r
    · simp only [β,if_pos h1] at h;cases h
    · simp only [β,if_neg h1] at h
      by_cases h2:k'=k∧p=some (i,j)
      · rw [if_pos h2] at h
        cases hr0:o.β r none with
        |none=>rw [hr0] at h;cases h
        |some L0=>rw [hr0] at h;exact .inl ⟨h2.1,h2.2,L0,rfl,(Option.some.inj h).symm⟩
      · rw [if_neg h2] at h;exact .inr ⟨h1,h2,h⟩
  have entK:ent (Sy.fill M k i j r sz n f sz2 n2 g) k=⟨(ent M k).rs,(ent M k).ds+1,none,.row sz n ((⟨sz,n,f⟩:Row).set i j (.il sz2 n2 g)).f⟩:=ent_eq
  have entR:ent (Sy.fill M k i j r sz n f sz2 n2 g) r=⟨(ent M r).rs+1,(ent M r).ds+1,none,.dead⟩:=by unfold Sy.fill;rw [ent_ne hkr,ent_kill_eq]
  have entM: ∀k',k'≠r→k'≠k→ent (Sy.fill M k i j r sz n f sz2 n2 g) k'=ent M k':=fun k' h1 h2=>by unfold Sy.fill;rw [ent_ne (Ne.symm h2),ent_kill_ne (Ne.symm h1)]
  have entM1: ∀k',ent ((k,ent M k)::M) k'=ent M k':=fun k'=>by
    by_cases h:k=k'
    · subst h;rw [ent_eq]
    · rw [ent_ne h]
  have hsrc: ∀k' p L',β k' p=some L'→ ∃L0,o.β (φ k' p).1 (φ k' p).2=some L0∧L'.b=L0.b:=by
    intro k' p L' h
    rcases hβ h with ⟨rfl,rfl,L0,h3,rfl⟩|⟨h1,h2,h3⟩
    · exact ⟨L0,by simpa [φ] using h3,rfl⟩
    · exact ⟨L',by simpa [φ,h2] using h3,rfl⟩
  have hext:Ext w1 o w1 (o.re β (Sy.fill M k i j r sz n f sz2 n2 g)):=by
    refine ext_re hm1 (fun k' p L' h=>let ⟨L0,e1,e2⟩:=hsrc k' p L' h;⟨_,_,L0,e1,e2⟩) (fun k'=>?_) (fun k' p L' h e=>?_)
    · rw [entM1]
      by_cases h1:k'=k
      · subst h1;rw [entK];exact ⟨Nat.le_refl _,Nat.le_succ _⟩
      · by_cases h2:k'=r
        · subst h2;rw [entR];exact ⟨Nat.le_succ _,Nat.le_succ _⟩
        · rw [entM k' h2 h1];exact ⟨Nat.le_refl _,Nat.le_refl _⟩
    · have h1:k'≠r:=by
        intro e;subst e
        cases p<;>simp [st,curM,entR,entM1] at e
      simp only [β,if_neg h1]
      rw [if_neg]
      · exact h
      · rintro ⟨rfl,rfl⟩
        simp [st,curM,entK,entM1] at e
  have hset: ∀i',∃n' g',f i' j= .il sz2 n' g'∧((⟨sz,n,f⟩:Row).set i j (.il sz2 n2 g)).f i' j= .il sz2 (bif Nat.beq i' i then n2 else n') (fun a b=>iteL (Nat.beq i' i) (g a b) (g' a b)):=by
    intro i'
    obtain ⟨n',g',h⟩:=isIlz_eq (hcol i')
    exact ⟨n',g',h,by rw [set_eq];show iteSV _ _ (f i' j)=_;rw [h];simp [iteSV]⟩
  refine ⟨o.re β _,s1.trans (⟨hext,(Stp.re hm1 φ hsrc ?_ hext ?_ ?_ ?_).mem⟩:Stp w1 o _ w1 _ _),?_,?_⟩
  · intro k1 p1 L1 k2 p2 L2 e1 e2 e
    rcases hβ e1 with ⟨rfl,rfl,_⟩|⟨h1,h2,_⟩<;>rcases hβ e2 with ⟨rfl,rfl,_⟩|⟨g1,g2,_⟩
    · exact ⟨rfl,rfl⟩
    · simp only [φ,if_neg g2,and_self,if_true,Prod.mk.injEq] at e;exact absurd e.1.symm g1
    · simp only [φ,if_neg h2,and_self,if_true,Prod.mk.injEq] at e;exact absurd e.1 h1
    · simp only [φ,if_neg h2,if_neg g2,Prod.mk.injEq] at e;exact e
  · intro k' p L' h
    rcases hβ h with ⟨rfl,rfl,L0,h5,rfl⟩|⟨h1,h2,h5⟩
    · obtain ⟨r1,e4,e5,e6,c,T,e7,e8,e9,e10⟩:=hm1.row _ _ _ h5
      unfold rowAt at e4
      rw [entM1,hr] at e4
      obtain rfl:=Option.some.inj e4
      obtain ⟨n',g',g1,g2⟩:=hset i
      have hn2:n2≤L0.cnt:=by
        obtain ⟨q,cap,y1,y2,y3,y4⟩:=hx
        rcases y4 with rfl|⟨L2,y5,y6,y7,y8⟩
        · omega
        · obtain rfl:L0=L2:=Option.some.inj (h5.symm.trans y5)
          omega
      have hrow':inner ⟨sz,n,((⟨sz,n,f⟩:Row).set i j (.il sz2 n2 g)).f⟩ i j=some ⟨sz2,bif Nat.beq i i then n2 else n',fun a b=>iteL (Nat.beq i i) (g a b) (g' a b)⟩:=by
        unfold inner;simp only [g2]
      refine ⟨⟨sz2,bif Nat.beq i i then n2 else n',fun a b=>iteL (Nat.beq i i) (g a b) (g' a b)⟩,by unfold rowAt;rw [entK];exact hrow',e5,by simp,c,T,e7,e8,?_,fun a ha b hb'=>?_⟩
      · have:=Nat.mul_le_mul_right L0.sz hn2
        show L0.o+n2*L0.sz≤L0.len
        omega
      · obtain ⟨y,y1,y2⟩:=e10 a (Nat.lt_of_lt_of_le ha hn2) b hb'
        refine ⟨y,y1,?_⟩
        rw [entM1] at y2
        have y2:CellOK w1 o _ r a b (g a b) y:=y2
        show Den _ _ (iteL (Nat.beq i i) (g a b) (g' a b)) y
        refine iteL_den (fun _=>?_) (fun h=>by rw [Nat.beq_refl] at h;cases h)
        cases hi5:isIl (g a b) with
        |false=>rw [den_not_il hi5] at y2;exact y2.ext hext
        |true=>
         cases hs:g a b with
         |il _ _ _=>trivial
         |_=>rw [hs] at hi5;cases hi5
    · obtain ⟨r1,e4,e5,e6,e7⟩:=hm1.row _ _ _ h5
      by_cases hk:k'=k
      · subst hk
        unfold rowAt at e4
        rw [entM1,hb] at e4
        cases p with
        |none=>
         obtain rfl:=Option.some.inj e4
         obtain rfl:L=L':=Option.some.inj (hL.symm.trans h5)
         refine ⟨⟨sz,n,((⟨sz,n,f⟩:Row).set i j (.il sz2 n2 g)).f⟩,by unfold rowAt;rw [entK];rfl,e5,e6,?_⟩
         rw [entK]
         obtain ⟨c,T,f1,f2,f3,f4⟩:=e7
         refine ⟨c,T,f1,f2,f3,fun a ha b hb'=>?_⟩
         obtain ⟨y,y1,y2⟩:=f4 a ha b hb'
         refine ⟨y,y1,?_⟩
         rw [entM1,hhl] at y2
         have y2:CellOK w1 o _ k' a b (f a b) y:=y2
         show CellOK _ _ none k' a b (((⟨sz,n,f⟩:Row).set i j (.il sz2 n2 g)).f a b) y
         by_cases hab:a=i∧b=j
         · obtain ⟨rfl,rfl⟩:=hab
           obtain ⟨n',g',g1,g2⟩:=hset a
           rw [g2]
           obtain rfl:y=x:=Option.some.inj (y1.symm.trans (hcell c T f1 (Array.getElem?_eq_some_iff.1 y1).1))
           refine .inr ⟨?_,?_⟩
           · rw [Nat.beq_refl]
             obtain ⟨q,cap,z1,z2,z3,z4⟩:=hx
             refine ⟨q,cap,z1,z2,z3,z4.imp id ?_⟩
             rintro ⟨L2,z5,z6,z7,z8⟩
             refine ⟨{L2 with cnt:=n2},?_,z6,z7,by simp⟩
             show β k' (some (a,b))=_
             simp only [β,if_neg h1,and_self,if_true,z5,Option.map_some]
           · intro L2 hL2
             have hL2:β k' (some (a,b))=some L2:=hL2
             rcases hβ hL2 with ⟨_,_,L3,z5,rfl⟩|⟨_,hh,_⟩
             · obtain ⟨r3,u1,u2,u3,_⟩:=hm.row _ _ _ z5
               unfold rowAt at u1
               rw [hr] at u1
               obtain rfl:=Option.some.inj u1
               exact u2.symm
             · exact absurd ⟨rfl,rfl⟩ hh
         · by_cases hbj:b=j
           · subst hbj
             have hai:a≠i:=fun e=>hab ⟨e,rfl⟩
             have hbeq:Nat.beq a i=false:=by
               cases hq:Nat.beq a i
               · rfl
               · exact absurd (Nat.eq_of_beq_eq_true hq) hai
             obtain ⟨n',g',g1,g2⟩:=hset a
             rw [g2,hbeq]
             rw [g1] at y2
             rcases y2 with y2|⟨⟨q,cap,z1,z2,z3,z4⟩,z9⟩
             · simp only [Option.some.injEq,Prod.mk.injEq,and_true] at y2;exact absurd y2.symm hai
             · have hb2:β k' (some (a,b))=o.β k' (some (a,b)):=by
                 simp only [β,if_neg h1]
                 rw [if_neg]
                 rintro ⟨_,e⟩
                 simp only [Option.some.injEq,Prod.mk.injEq,and_true] at e
                 exact hai e
               exact .inr ⟨⟨q,cap,z1,z2,z3,by show _∨ ∃L,β k' (some (a,b))=_∧_;rw [hb2];exact z4⟩,fun L2 h2=>z9 L2 (by rw [←hb2];exact h2)⟩
           · rw [set_ne hbj]
             show CellOK _ _ none k' a b (f a b) y
             cases hi5:isIl (f a b) with
             |false=>rw [den_not_il hi5] at*;exact y2.ext hext
             |true=>
              generalize hs:f a b=s5 at y2⊢
              cases s5 with
              |il s6 n6 g6=>
               rcases y2 with y2|⟨⟨q,cap,z1,z2,z3,z4⟩,z9⟩
               · simp only [Option.some.injEq,Prod.mk.injEq] at y2;exact absurd y2.2.symm hbj
               · have hb2:β k' (some (a,b))=o.β k' (some (a,b)):=by
                   simp only [β,if_neg h1]
                   rw [if_neg]
                   rintro ⟨_,e⟩
                   simp only [Option.some.injEq,Prod.mk.injEq] at e
                   exact hbj e.2
                 exact .inr ⟨⟨q,cap,z1,z2,z3,by show _∨ ∃L,β k' (some (a,b))=_∧_;rw [hb2];exact z4⟩,fun L2 h2=>z9 L2 (by rw [←hb2];exact h2)⟩
              |_=>rw [hs] at hi5;cases hi5
        |some ab=>
         obtain ⟨a',b'⟩:=ab
         have e4:inner ⟨sz,n,f⟩ a' b'=some r1:=e4
         by_cases hbj:b'=j
         · subst hbj
           have hai:a'≠i:=fun e=>h2 ⟨rfl,by rw [e]⟩
           have hbeq:Nat.beq a' i=false:=by
             cases hq:Nat.beq a' i
             · rfl
             · exact absurd (Nat.eq_of_beq_eq_true hq) hai
           obtain ⟨n',g',g1,g2⟩:=hset a'
           unfold inner at e4
           simp only [g1] at e4
           obtain rfl:=Option.some.inj e4
           have hrow':inner ⟨sz,n,((⟨sz,n,f⟩:Row).set i b' (.il sz2 n2 g)).f⟩ a' b'=some ⟨sz2,bif Nat.beq a' i then n2 else n',fun a b=>iteL (Nat.beq a' i) (g a b) (g' a b)⟩:=by
             unfold inner;simp only [g2]
           refine ⟨⟨sz2,bif Nat.beq a' i then n2 else n',fun a b=>iteL (Nat.beq a' i) (g a b) (g' a b)⟩,by unfold rowAt;rw [entK];exact hrow',e5,by rw [hbeq];exact e6,?_⟩
           obtain ⟨c,T,f1,f2,f3,f4⟩:=e7
           refine ⟨c,T,f1,f2,f3,fun a ha b hb'=>?_⟩
           obtain ⟨y,y1,y2⟩:=f4 a ha b hb'
           refine ⟨y,y1,?_⟩
           have y2:Den w1 o (g' a b) y:=y2
           show Den _ _ (iteL (Nat.beq a' i) (g a b) (g' a b)) y
           exact iteL_den (fun h=>by rw [hbeq] at h;cases h) (fun _=>y2.ext hext)
         · refine ⟨r1,?_,e5,e6,?_⟩
           · unfold rowAt;rw [entK]
             show inner ⟨sz,n,((⟨sz,n,f⟩:Row).set i j (.il sz2 n2 g)).f⟩ a' b'=some r1
             unfold inner at e4⊢
             simp only [set_ne hbj]
             exact e4
           · obtain ⟨c,T,f1,f2,f3,f4⟩:=e7
             exact ⟨c,T,f1,f2,f3,fun a ha b hb'=>let ⟨y,y1,y2⟩:=f4 a ha b hb';⟨y,y1,Den.ext hext y2⟩⟩
      · refine ⟨r1,by unfold rowAt at e4⊢;rw [entM k' h1 hk];rw [entM1] at e4;exact e4,e5,e6,?_⟩
        rw [entM k' h1 hk]
        rw [entM1] at e7
        refine e7.ext hext ?_ (fun q=>?_) rfl
        · show (curM _ k').2=_
          rw [hm.cur];simp only [curM,entM k' h1 hk]
        · show β k' q=_
          simp only [β,if_neg h1]
          rw [if_neg (fun h=>hk h.1)]
  · intro k' l h
    by_cases h1:k'=k
    · subst h1;rw [entK] at h;cases h
    · by_cases h2:k'=r
      · subst h2;rw [entR] at h;cases h
      · rw [entM k' h2 h1] at h
        obtain ⟨L1,hL1⟩:=hm.live _ _ h
        refine ⟨L1,?_⟩
        simp only [β,if_neg h2]
        rw [if_neg (fun h=>h1 h.1)]
        exact hL1
  · intro k' a b h
    by_cases h1:k'=k
    · subst h1;rw [entK] at h;cases h
    · by_cases h2:k'=r
      · subst h2;simp [β]
      · rw [entM k' h2 h1] at h
        simp only [β,if_neg h2]
        rw [if_neg (fun h=>h1 h.1)]
        exact hm.hol _ _ _ h
  · intro k' p h1 h2
    show β k' p=_
    simp only [β,if_neg h1]
    rw [if_neg]
    rintro ⟨rfl,rfl⟩
    exact h2 rfl
  · intro p
    show β r p=none
    simp [β]
end Go.Sy
set_option linter.unusedVariables false
set_option linter.unusedSimpArgs false
namespace Go.Sy
open Go.RowKit
structure Cx (P:Program) (w:World) (ω:Ow) (ρ:Operand→SV) (M:Mem) (a:Act):Prop where
  val: ∀x,Den w ω (ρ x) (a.eval x)
  mem:MemOK w ω M
inductive R where
  |bad
  |ok (s:SV)
  |req (p:Prop) (s:SV)
  |asm (p:Prop) (s:SV)
def R.run (r:R) (K:SV→Prop):Prop:=
  match r with
  | .bad=>False
  | .ok s=>K s
  | .req p s=>p∧K s
  | .asm p s=>p→K s
section
variable {P:Program} {w:World} {ω:Ow} {ρ:Operand→SV} {M:Mem} {a:Act}
def PureOK (P:Program) (w:World) (ω:Ow) (a:Act) (o:Oper) (K:SV→Prop):Prop:=
  ∃s v,(execOp a.eval o).run P w= .ok (.value v) w∧Den w ω s v∧K s
/-! ### loads -/
def aggD:TypeDesc→Bool
  | .struct _| .array _ _=>true
  |_=>false
def okRef (m:Nat→Ent) (k s:Nat):Path→Bool
  |none=>Nat.beq s (m k).rs
  |some _=>Nat.beq s (m k).ds
def leafSV (e:Ent) (k:Nat) (p:Path) (i j:Nat) (s:SV):Option SV:=
  match s with
  | .il _ n _=>
    match p,e.hl with
    |none,none=>some (.slc k e.ds (some (i,j)) 0 n)
    |none,some (_,j0)=>match Nat.beq j0 j with|false=>some (.slc k e.ds (some (i,j)) 0 n)|true=>none
    |some _,_=>some .junk
  |s=>some s
def allS:List (Option SV)→Option (List SV)
  | []=>some []
  |x::r=>match x,allS r with|some x,some r=>some (x::r)|_,_=>none
theorem allS_get: ∀{l:List (Option SV)} {vs:List SV},allS l=some vs→l=vs.map some
  | [],vs,h=>by simp [allS] at h;subst h;rfl
  |x::r,vs,h=>by
   unfold allS at h
   split at h
   · next x' r' hr=>
     obtain rfl:=Option.some.inj h
     simp [allS_get hr]
   · cases h
def intsOf (k:IntKind):List SV→Option (List Int)
  | []=>some []
  | .v (.int k' x)::r=>match kindEq k' k,intsOf k r with|true,some l=>some (x::l)|_,_=>none
  |_::_=>none
def sel (l:List Int) (z:Nat):Int:=l.getD z 0
def evLoad (P:Program) (T:TypeId) (s:SV) (m:Nat→Ent):R:=
  match P.info? T,P.underlying T with
  |some i,some d=>
   match s with
   | .ptr k st p ii j=>
     match okRef m k st p,rowIn (m k).b p with
     |true,some r=>
      match aggD d with
      |true=>
       match Nat.ble (j+i.size) r.sz with
       |true=>match allS ((List.range i.size).map fun q=>leafSV (m k) k p ii (j+q) (r.f ii (j+q))) with|some l=> .ok (.ag i.size (lsv l))|none=> .bad
       |false=> .bad
      |false=>match Nat.blt j r.sz with|true=>(match leafSV (m k) k p ii j (r.f ii j) with|some s=> .ok s|none=> .bad)|false=> .bad
     |_,_=> .bad
   | .pe k st p ii j len z=>
     match okRef m k st p,rowIn (m k).b p,d with
     |true,some r,.int kk=>
      match Nat.ble (j+len) r.sz,intsOf kk ((List.range len).map fun q=>r.f ii (j+q)) with
      |true,some l=> .ok (.v (.int kk (sel l z)))
      |_,_=> .bad
     |_,_,_=> .bad
   | .pt _ n f=>
     match aggD d with
     |true=>match Nat.ble i.size n with|true=> .ok (.ag i.size (out i.size f))|false=> .bad
     |false=>match Nat.blt 0 n with|true=> .ok (f 0)|false=> .bad
   |_=> .bad
  |_,_=> .bad
theorem run_loadVar_agg {T:TypeId} {i:TypeInfo} {d:TypeDesc} (hi:P.info? T=some i) (hu:P.underlying T=some d) (hd:aggD d=true) (w:World) (ad:Addr) (f:Nat→Value)
    (h: ∀j,j<i.size→w.cell? (ad.add j)=some (f j)):(loadVar T ad).run P w= .ok (.agg ((List.range i.size).map f).toArray) w:=by
  have ha:(isAgg T).run P w= .ok true w:=by
    simp only [isAgg,Sem.run_bind,run_underlying hu,Result.andThen]
    cases d<;>simp [aggD] at hd<;>simp
  have hs:(sizeOf T).run P w= .ok i.size w:=by simp [sizeOf,run_typeInfo w hi,Result.andThen]
  simp [loadVar,ha,hs,run_loadCells w ad i.size f h,Result.andThen]
theorem run_loadVar_one {T:TypeId} {d:TypeDesc} (hu:P.underlying T=some d) (hd:aggD d=false) (w:World) (ad:Addr) (x:Value)
    (h:w.cell? ad=some x):(loadVar T ad).run P w= .ok x w:=by
  have ha:(isAgg T).run P w= .ok false w:=by
    simp only [isAgg,Sem.run_bind,run_underlying hu,Result.andThen]
    cases d<;>simp [aggD] at hd<;>simp
  simp [loadVar,ha,h,Result.andThen]
theorem okRef_at (hm:MemOK w ω M) {k s:Nat} {p:Path} {R:Loc→Prop} (h:okRef (ent M) k s p=true) (ha:At ω k s p R):s=st ω.cur k p∧ ∃L,ω.β k p=some L∧R L:=by
  have e:s=st ω.cur k p:=by
    rw [hm.cur]
    cases p with
    |none=>exact Nat.eq_of_beq_eq_true h
    |some _=>exact Nat.eq_of_beq_eq_true h
  rcases ha with ha|ha
  · omega
  · exact ha
theorem leaf_den (hm:MemOK w ω M) {k i j:Nat} {p:Path} {s s':SV} {x:Value} (hl:LeafOK w ω (ent M k).hl k p i j s x) (h:leafSV (ent M k) k p i j s=some s'):Den w ω s' x:=by
  cases hi:isIl s with
  |false=>
   have hd:Den w ω s x:=by
     cases p with
     |none=>have hl:CellOK _ _ _ _ _ _ _ _:=hl;rwa [den_not_il hi] at hl
     |some _=>exact hl
   have:leafSV (ent M k) k p i j s=some s:=by cases s<;>first|rfl|cases hi
   rw [this] at h
   obtain rfl:=Option.some.inj h
   exact hd
  |true=>
   cases s with
   |il sz n g=>
    have key:p=none→(ent M k).hl≠some (i,j)→Den w ω (.slc k (ent M k).ds (some (i,j)) 0 n) x:=by
      rintro rfl hne
      have hl:_∨_:=hl
      rcases hl with hl|⟨hl,_⟩
      · exact absurd hl hne
      · exact .inr ⟨by rw [hm.cur];rfl,hl⟩
    unfold leafSV at h
    simp only at h
    split at h
    · next hh=>
      obtain rfl:=Option.some.inj h
      exact key rfl (by rw [hh];simp)
    · next i0 j0 hh=>
      split at h
      · next hb=>
        obtain rfl:=Option.some.inj h
        refine key rfl ?_
        rw [hh]
        intro e
        simp only [Option.some.injEq,Prod.mk.injEq] at e
        rw [e.2,Nat.beq_refl] at hb
        cases hb
      · cases h
    · obtain rfl:=Option.some.inj h
      trivial
   |_=>cases hi
theorem row_cells (hm:MemOK w ω M) {k:Nat} {p:Path} {L:Loc} {r:Row} (hL:ω.β k p=some L) (hr:rowIn (ent M k).b p=some r):
    r.sz=L.sz∧r.n=L.cnt∧ ∀i,i<L.cnt→ ∀j,j<L.sz→ ∃x,w.cell? ⟨L.b,L.o+i*L.sz+j,none⟩=some x∧LeafOK w ω (ent M k).hl k p i j (r.f i j) x:=by
  obtain ⟨r',h1,h2,h3,c,T,h4,h5,h6,h7⟩:=hm.row k p L hL
  obtain rfl:r=r':=Option.some.inj (hr.symm.trans h1)
  refine ⟨h2,h3,fun i hi j hj=>?_⟩
  obtain ⟨x,e1,e2⟩:=h7 i hi j hj
  exact ⟨x,by simp only [World.cell?,h4];simpa using e1,e2⟩
theorem intsOf_get: ∀{k:IntKind} {l:List SV} {zs:List Int},intsOf k l=some zs→l=zs.map fun z=> .v (.int k z)
  |_,[],_,h=>by simp [intsOf] at h;subst h;rfl
  |k,s::r,zs,h=>by
   unfold intsOf at h
   split at h
   · next heq=>cases heq
   · next heq=>
     cases heq
     split at h
     · next hk hr=>
       obtain rfl:=Option.some.inj h
       obtain rfl:=kindEq_eq hk
       rw [intsOf_get hr];rfl
     · cases h
   · cases h
theorem load_core (hm:MemOK w ω M) {T:TypeId} {sx:SV} {ux:Value} (hx:Den w ω sx ux) {K:SV→Prop} (he:(evLoad P T sx (ent M)).run K):
    ∃s v ad,ux= .pointer (some ad)∧(loadVar T ad).run P w= .ok v w∧Den w ω s v∧K s:=by
  unfold evLoad at he
  split at he
  · next i d hi hu=>
    split at he
    · next k st p ii j=>
      split at he
      · next r hs hr=>
        obtain ⟨_,L,hL,hcnt,e⟩:=okRef_at hm hs hx
        obtain ⟨e1,e2,e3⟩:=row_cells hm hL hr
        split at he
        · next hd=>
          split at he
          · next hle=>
            have hle:=Nat.le_of_ble_eq_true hle
            split at he
            · next l hl=>
              have hl:=allS_get hl
              have hlen:l.length=i.size:=by simpa using (congrArg List.length hl).symm
              have hex: ∀q,∃x,q<i.size→w.cell? ((⟨L.b,L.o+ii*L.sz+j,none⟩:Addr).add q)=some x∧Den w ω (l.getD q .junk) x:=by
                intro q
                by_cases hq:q<i.size
                · obtain ⟨x,x1,x2⟩:=e3 ii hcnt (j+q) (by omega)
                  refine ⟨x,fun _=>⟨by rw [add_mk,Nat.add_assoc];exact x1,?_⟩⟩
                  have:leafSV (ent M k) k p ii (j+q) (r.f ii (j+q))=some (l.getD q .junk):=by
                    have e:=congrArg (fun l=>l[q]?) hl
                    simp only [List.getElem?_map,List.getElem?_range hq,Option.map_some] at e
                    rw [List.getElem?_eq_getElem (by omega)] at e
                    simp only [Option.map_some,Option.some.injEq] at e
                    rw [e,List.getD_eq_getElem?_getD,List.getElem?_eq_getElem (by omega)];rfl
                  exact leaf_den hm x2 this
                · exact ⟨undef,fun h=>absurd h hq⟩
              refine ⟨_,_,_,e,run_loadVar_agg hi hu hd w _ (fun q=>Classical.choose (hex q)) (fun q hq=>(Classical.choose_spec (hex q) hq).1),?_,he⟩
              exact ⟨_,rfl,by simp,fun q hq=>⟨Classical.choose (hex q),by simp [hq],(Classical.choose_spec (hex q) hq).2⟩⟩
            · exact he.elim
          · exact he.elim
        · next hd=>
          split at he
          · next hlt=>
            have hlt:j<r.sz:=Nat.le_of_ble_eq_true hlt
            split at he
            · next s hs'=>
              obtain ⟨x,x1,x2⟩:=e3 ii hcnt j (by omega)
              exact ⟨_,x,_,e,run_loadVar_one hu hd w _ _ x1,leaf_den hm x2 hs',he⟩
            · exact he.elim
          · exact he.elim
      · exact he.elim
    · next k st p ii j len z=>
      split at he
      · next r kk hs hr=>
        obtain ⟨_,L,hL,hcnt,hz,e⟩:=okRef_at hm hs hx
        obtain ⟨e1,e2,e3⟩:=row_cells hm hL hr
        split at he
        · next l hle hl=>
          have hle:=Nat.le_of_ble_eq_true hle
          have hl:=intsOf_get hl
          obtain ⟨x,x1,x2⟩:=e3 ii hcnt (j+z) (by omega)
          have hq:=congrArg (fun l=>l[z]?) hl
          simp only [List.getElem?_map,List.getElem?_range hz,Option.map_some] at hq
          cases hlz:l[z]? with
          |none=>rw [hlz] at hq;cases hq
          |some y=>
           rw [hlz] at hq
           simp only [Option.map_some,Option.some.injEq] at hq
           rw [hq] at x2
           have hd:Den w ω (.v (.int kk y)) x:=by
             cases p with
             |none=>exact x2
             |some _=>exact x2
           have hsel:sel l z=y:=by simp [sel,List.getD_eq_getElem?_getD,hlz]
           exact ⟨_,x,_,e,run_loadVar_one hu rfl w _ _ (by rw [←Nat.add_assoc] at x1⊢;exact x1),by rw [hsel];exact hd,he⟩
        · exact he.elim
      · exact he.elim
    · next q n f=>
      obtain ⟨ad,e,hj⟩:=hx
      split at he
      · next hd=>
        split at he
        · next hle=>
          have hle:=Nat.le_of_ble_eq_true hle
          have hex: ∀j,∃x,j<i.size→w.cell? (ad.add j)=some x∧Den w ω (f j) x:=by
            intro j
            by_cases hji:j<i.size
            · obtain ⟨x,h1,_,h3⟩:=hj j (by omega)
              exact ⟨x,fun _=>⟨h1,h3.up⟩⟩
            · exact ⟨undef,fun h=>absurd h hji⟩
          refine ⟨_,_,ad,e,run_loadVar_agg hi hu hd w _ (fun j=>Classical.choose (hex j)) (fun j hj=>(Classical.choose_spec (hex j) hj).1),?_,he⟩
          exact ⟨_,rfl,by simp,fun j hj=>⟨Classical.choose (hex j),by simp [hj],by rw [out_eq hj];exact (Classical.choose_spec (hex j) hj).2⟩⟩
        · exact he.elim
      · next hd=>
        split at he
        · next hlt=>
          have hlt:0<n:=Nat.le_of_ble_eq_true hlt
          obtain ⟨x,h1,_,h3⟩:=hj 0 hlt
          exact ⟨_,x,ad,e,run_loadVar_one hu hd w _ _ (by simpa [Addr.add] using h1),h3.up,he⟩
        · exact he.elim
    · exact he.elim
  · exact he.elim
theorem load_ok (h:Cx P w ω ρ M a) {o:Oper} {T:TypeId} {x:Operand} {K:SV→Prop} (ho:o.op= .load T x) (he:(evLoad P T (ρ x) (ent M)).run K):PureOK P w ω a o K:=by
  obtain ⟨s,v,ad,e,hr,hd,hK⟩:=load_core h.mem (h.val x) he
  exact ⟨s,v,by simp [execOp,ho,e,Instr.loadAt,Instr.sureAddr,hr,Result.andThen],hd,hK⟩
/-! ### addresses of fields and elements -/
def evField (P:Program) (S:TypeId) (s:SV) (j:Nat) (m:Nat→Ent):R:=
  match P.underlying S with
  |some (.struct fs)=>
   match fs[j]? with
   |some fd=>
    match P.info? fd.type with
    |some i=>
     match Nat.blt 0 i.size,s with
     |true,.ptr k st p ii off=>match okRef m k st p with|true=> .ok (.ptr k st p ii (off+fd.offset))|false=> .bad
     |true,.pt q n f=> .ok (.pt q (n -fd.offset) fun m=>f (fd.offset+m))
     |true,.v (.pointer (some ad))=> .ok (.v (.pointer (some (ad.add fd.offset))))
     |_,_=> .bad
    |none=> .bad
   |none=> .bad
  |_=> .bad
theorem At.map {o:Ow} {k s:Nat} {p:Path} {R R':Loc→Prop} (h: ∀L,R L→R' L) (ha:At o k s p R):At o k s p R':=ha.imp id fun ⟨e,L,hL,hR⟩=>⟨e,L,hL,h L hR⟩
theorem field_ok (h:Cx P w ω ρ M a) {o:Oper} {S:TypeId} {x:Operand} {j:Nat} {K:SV→Prop} (ho:o.op= .fieldAddr S x j) (he:(evField P S (ρ x) j (ent M)).run K):PureOK P w ω a o K:=by
  have hx:=h.val x
  unfold evField at he
  split at he
  · next fs hu=>
    split at he
    · next fd hfd=>
      split at he
      · next i hi=>
        have run: ∀(ad:Addr),a.eval x= .pointer (some ad)→Nat.blt 0 i.size=true→(execOp a.eval o).run P w= .ok (.value (.pointer (some (ad.add fd.offset)))) w:=by
          intro ad e hz
          have hz:0<i.size:=Nat.le_of_ble_eq_true hz
          have hs:(sizeOf fd.type).run P w= .ok i.size w:=by simp [sizeOf,run_typeInfo w hi,Result.andThen]
          simp [execOp,ho,e,Instr.fieldAt,Instr.sureAddr,run_underlying hu,hfd,fieldPlace,hs,Result.andThen,Nat.ne_of_gt hz]
        split at he
        · next k st p ii off hz hs=>
          rw [hs] at hx
          split at he
          · next hok=>
            obtain ⟨e0,L,hL,hi,e⟩:=okRef_at h.mem hok hx
            exact ⟨.ptr k st p ii (off+fd.offset),_,run _ e hz,Or.inr ⟨e0,L,hL,hi,by rw [add_mk,Nat.add_assoc]⟩,he⟩
          · exact he.elim
        · next q n f hz hs=>
          rw [hs] at hx
          obtain ⟨ad,e,hj⟩:=hx
          refine ⟨.pt q (n -fd.offset) fun m=>f (fd.offset+m),_,run _ e hz,⟨_,rfl,fun m hm=>?_⟩,he⟩
          obtain ⟨y,h1,h2,h3⟩:=hj (fd.offset+m) (by omega)
          exact ⟨y,by rw [add_add];exact h1,by rw [add_block];exact h2,h3⟩
        · next ad hz hs=>
          rw [hs] at hx
          exact ⟨.v (.pointer (some (ad.add fd.offset))),_,run _ hx hz,rfl,he⟩
        · exact he.elim
      · exact he.elim
    · exact he.elim
  · exact he.elim
def isC:Operand→Bool
  | .const _=>true
  |_=>false
def evIndex (P:Program) (T:TypeId) (lit:Bool) (s i:SV) (m:Nat→Ent):R:=
  match P.underlying T,i with
  |some (.slice E),.v (.int _ z)=>
   match P.info? E,s with
   |some ie,.sl q sz n f=>match Nat.beq ie.size sz with|true=> .req ((0≤z∧z<n)) (.pt q sz (f z.toNat))|false=> .bad
   |some ie,.slc k st p e n=>
    match okRef m k st p,rowIn (m k).b p with
    |true,some r=>match Nat.beq ie.size r.sz with|true=> .req ((0≤z∧z<n)) (.ptr k st p (e+z.toNat) 0)|false=> .bad
    |_,_=> .bad
   |_,_=> .bad
  |some (.array len E),.v (.int _ z)=>
   match P.info? E,Nat.blt 1 len,s with
   |some ie,true,.pt q mm f=>match Nat.beq (len*ie.size) mm with|true=> .req ((0≤z∧z<len)) (.pt q ie.size fun j=>f (z.toNat*ie.size+j))|false=> .bad
   |some ie,true,.pa q sz n f=>match Nat.beq ie.size sz,Nat.beq n len with|true,true=> .req ((0≤z∧z<len)) (.pt q sz (f z.toNat))|_,_=> .bad
   |some ie,true,.ptr k st p ii j=>
    match okRef m k st p,lit,Nat.beq ie.size 1 with
    |true,true,_=> .req ((0≤z∧z<len)) (.ptr k st p ii (j+z.toNat*ie.size))
    |true,false,true=> .req ((0≤z∧z<len)) (.pe k st p ii j len z.toNat)
    |_,_,_=> .bad
   |_,_,_=> .bad
  |_,_=> .bad
theorem index_any (h:Cx P w ω ρ M a) {o:Oper} {T:TypeId} {lit:Bool} {x y:Operand} {K:SV→Prop} (ho:o.op= .indexAddr T x y) (he:(evIndex P T lit (ρ x) (ρ y) (ent M)).run K): ∃s v,(∀w',(execOp a.eval o).run P w'= .ok (.value v) w')∧Den w ω s v∧K s:=by
  have hx:=h.val x
  have hy:=h.val y
  unfold evIndex at he
  split at he
  · next E k z hu hs=>
    rw [hs] at hy
    have ey:a.eval y= .int k z:=hy
    split at he
    · next ie q sz n f hi hs2=>
      rw [hs2] at hx
      split at he
      · next hsz=>
        have hsz:=Nat.eq_of_beq_eq_true hsz
        obtain ⟨⟨h0,h1⟩,hK⟩:=he
        obtain ⟨p,cap,ex,_,_,hj⟩:=hx
        have hn:n≠0:=by omega
        obtain ⟨ad,ep,hk⟩:=hj.resolve_left hn
        subst ep
        refine ⟨.pt q sz (f z.toNat),.pointer (some (ad.add (z.toNat*sz))),?_,⟨_,rfl,fun j hjs=>?_⟩,hK⟩
        · intro w'
          have hsize:(sizeOf E).run P w'= .ok sz w':=by simp [sizeOf,run_typeInfo w' hi,Result.andThen,hsz]
          simp [execOp,ho,ex,ey,Instr.indexAt,asIntOf,run_underlying hu,Result.andThen,h0,h1,hsize]
        · obtain ⟨u,g1,g2,g3⟩:=hk z.toNat (by omega) j hjs
          exact ⟨u,by rw [add_add];exact g1,by rw [add_block];exact g2,g3⟩
      · exact he.elim
    · next ie k2 st p e n hi hs2=>
      rw [hs2] at hx
      split at he
      · next r hok hr=>
        split at he
        · next hsz=>
          have hsz:=Nat.eq_of_beq_eq_true hsz
          obtain ⟨⟨h0,h1⟩,hK⟩:=he
          have e0:st=Sy.st ω.cur k2 p:=by
            rw [h.mem.cur]
            cases p with
            |none=>exact Nat.eq_of_beq_eq_true hok
            |some _=>exact Nat.eq_of_beq_eq_true hok
          rcases hx with hx|⟨_,q,cap,ex,hcap,_,hx⟩
          · omega
          rcases hx with hx|⟨L,hL,rfl,hx2,hx3⟩
          · omega
          obtain ⟨r',g1,g2,g3,_⟩:=h.mem.row _ _ _ hL
          obtain rfl:r=r':=Option.some.inj (hr.symm.trans g1)
          refine ⟨.ptr k2 st p (e+z.toNat) 0,.pointer (some ⟨L.b,L.o+(e+z.toNat)*L.sz,none⟩),?_,Or.inr ⟨e0,L,hL,by omega,by simp⟩,hK⟩
          intro w'
          have hsize:(sizeOf E).run P w'= .ok L.sz w':=by simp [sizeOf,run_typeInfo w' hi,Result.andThen,hsz,g2]
          simp [execOp,ho,ex,ey,Instr.indexAt,asIntOf,run_underlying hu,Result.andThen,h0,h1,hsize,add_mk,Nat.add_mul,Nat.add_assoc]
        · exact he.elim
      · exact he.elim
    · exact he.elim
  · next len E k z hu hs=>
    rw [hs] at hy
    have ey:a.eval y= .int k z:=hy
    split at he
    · next ie q m f hi hlen hs2=>
      rw [hs2] at hx
      have hlen:1<len:=Nat.le_of_ble_eq_true hlen
      split at he
      · next hm=>
        have hm:=Nat.eq_of_beq_eq_true hm
        obtain ⟨⟨h0,h1⟩,hK⟩:=he
        obtain ⟨ad,ex,hj⟩:=hx
        refine ⟨.pt q ie.size fun j=>f (z.toNat*ie.size+j),.pointer (some (ad.add (z.toNat*ie.size))),?_,⟨_,rfl,fun j hjs=>?_⟩,hK⟩
        · intro w'
          have hsize:(sizeOf E).run P w'= .ok ie.size w':=by simp [sizeOf,run_typeInfo w' hi,Result.andThen]
          simp [execOp,ho,ex,ey,Instr.indexAt,Instr.sureAddr,asIntOf,run_underlying hu,Result.andThen,h0,h1,hsize]
        · have hlt:z.toNat*ie.size+j<m:=by
            have:z.toNat+1≤len:=by omega
            have:=Nat.mul_le_mul_right ie.size this
            rw [Nat.add_mul] at this
            omega
          obtain ⟨u,g1,g2,g3⟩:=hj _ hlt
          exact ⟨u,by rw [add_add];exact g1,by rw [add_block];exact g2,g3⟩
      · exact he.elim
    · next ie q sz n f hi hlen hs2=>
      rw [hs2] at hx
      have hlen:1<len:=Nat.le_of_ble_eq_true hlen
      split at he
      · next hsz hn=>
        have hsz:=Nat.eq_of_beq_eq_true hsz
        have hn:=Nat.eq_of_beq_eq_true hn
        obtain ⟨⟨h0,h1⟩,hK⟩:=he
        obtain ⟨ad,ex,hj⟩:=hx
        refine ⟨.pt q sz (f z.toNat),.pointer (some (ad.add (z.toNat*sz))),?_,⟨_,rfl,fun j hjs=>?_⟩,hK⟩
        · intro w'
          have hsize:(sizeOf E).run P w'= .ok sz w':=by simp [sizeOf,run_typeInfo w' hi,Result.andThen,hsz]
          simp [execOp,ho,ex,ey,Instr.indexAt,Instr.sureAddr,asIntOf,run_underlying hu,Result.andThen,h0,h1,hsize]
        · obtain ⟨u,g1,g2,g3⟩:=hj z.toNat (by omega) j hjs
          exact ⟨u,by rw [add_add];exact g1,by rw [add_block];exact g2,g3⟩
      · exact he.elim
    · next ie k2 st p ii j hi hlen hs2=>
      rw [hs2] at hx
      have hlen:1<len:=Nat.le_of_ble_eq_true hlen
      have run: ∀ad,a.eval x= .pointer (some ad)→0≤z→z<len→ ∀w',(execOp a.eval o).run P w'= .ok (.value (.pointer (some (ad.add (z.toNat*ie.size))))) w':=by
        intro ad ex h0 h1
        intro w'
        have hsize:(sizeOf E).run P w'= .ok ie.size w':=by simp [sizeOf,run_typeInfo w' hi,Result.andThen]
        simp [execOp,ho,ex,ey,Instr.indexAt,Instr.sureAddr,asIntOf,run_underlying hu,Result.andThen,h0,h1,hsize]
      split at he
      · next hok=>
        obtain ⟨⟨h0,h1⟩,hK⟩:=he
        obtain ⟨e0,L,hL,hi2,ex⟩:=okRef_at h.mem hok hx
        exact ⟨.ptr k2 st p ii (j+z.toNat*ie.size),_,run _ ex h0 h1,Or.inr ⟨e0,L,hL,hi2,by rw [add_mk,Nat.add_assoc]⟩,hK⟩
      · next hok h1s=>
        have h1s:=Nat.eq_of_beq_eq_true h1s
        obtain ⟨⟨h0,h1⟩,hK⟩:=he
        obtain ⟨e0,L,hL,hi2,ex⟩:=okRef_at h.mem hok hx
        exact ⟨.pe k2 st p ii j len z.toNat,_,run _ ex h0 h1,Or.inr ⟨e0,L,hL,hi2,by omega,by rw [add_mk,h1s,Nat.mul_one,Nat.add_assoc]⟩,hK⟩
      · exact he.elim
    · exact he.elim
  · exact he.elim
theorem index_ok (h:Cx P w ω ρ M a) {o:Oper} {T:TypeId} {lit:Bool} {x y:Operand} {K:SV→Prop} (ho:o.op= .indexAddr T x y) (he:(evIndex P T lit (ρ x) (ρ y) (ent M)).run K):PureOK P w ω a o K:=
  let ⟨s,v,h1,h2,h3⟩:=index_any h ho he
  ⟨s,v,h1 w,h2,h3⟩
end
end Go.Sy
set_option linter.unusedVariables false
set_option linter.unusedSimpArgs false
namespace Go.Sy
open Go.RowKit
def bitsI (op:BinOp) (k:IntKind) (x y:Int):Int:=
  match op with
  | .and=>k.wrap (BitVec.ofInt k.bits x&&&BitVec.ofInt k.bits y).toNat
  | .or=>k.wrap (BitVec.ofInt k.bits x|||BitVec.ofInt k.bits y).toNat
  | .xor=>k.wrap (BitVec.ofInt k.bits x^^^BitVec.ofInt k.bits y).toNat
  |_=>k.wrap (BitVec.ofInt k.bits x&&& ~~~BitVec.ofInt k.bits y).toNat
def inK (k:IntKind) (z:Int):Prop:=k.wrap z=z
def evInts (sg:Bool) (op:BinOp) (k:IntKind) (x y:Int):R:=
  match op with
  | .add=>match sg with|true=> .ok (.v (.int k (k.wrap (x+y))))|false=> .req (inK k (x+y)) (.v (.int k (x+y)))
  | .sub=>match sg with|true=> .ok (.v (.int k (k.wrap (x -y))))|false=> .req (inK k (x -y)) (.v (.int k (x -y)))
  | .mul=>match sg with|true=> .ok (.v (.int k (k.wrap (x*y))))|false=> .req (inK k (x*y)) (.v (.int k (x*y)))
  | .quo=>match sg with|true=> .req (y≠0) (.v (.int k (k.wrap (x.tdiv y))))|false=> .req (0≤x∧0<y∧inK k (x/y)) (.v (.int k (x/y)))
  | .rem=>match sg with|true=> .req (y≠0) (.v (.int k (x.tmod y)))|false=> .req (0≤x∧0<y) (.v (.int k (x%y)))
  | .and=> .ok (.v (.int k (bitsI .and k x y)))
  | .or=> .ok (.v (.int k (bitsI .or k x y)))
  | .xor=> .ok (.v (.int k (bitsI .xor k x y)))
  | .andNot=> .ok (.v (.int k (bitsI .andNot k x y)))
  | .eql=> .ok (.v (.bool (x==y)))
  | .neq=> .ok (.v (.bool (x !=y)))
  | .lss=> .ok (.v (.bool (decide (x<y))))
  | .leq=> .ok (.v (.bool (decide (x≤y))))
  | .gtr=> .ok (.v (.bool (decide (y<x))))
  | .geq=> .ok (.v (.bool (decide (y≤x))))
  |_=> .bad
def evShift (op:BinOp) (k:IntKind) (x y:Int):R:=
  match op with
  | .shl=> .req (0≤y) (.v (.int k (k.wrap (x*2^(min y.toNat k.bits)))))
  | .shr=> .req (0≤y) (.v (.int k (x.fdiv (2^(min y.toNat k.bits)))))
  |_=> .bad
def isNilC:Operand→Bool
  | .const .nilIface=>true
  |_=>false
def evStr (op:BinOp) (a b:ByteArray):R:=
  match op with
  | .add=> .req ((a.size:Int)+b.size≤9223372036854775807) (.v (.string (a++b)))
  | .eql=> .ok (.v (.bool (a.toList==b.toList)))
  | .neq=> .ok (.v (.bool (a.toList !=b.toList)))
  |_=> .bad
def isIface:Option TypeDesc→Bool
  |some (.interface _)=>true
  |_=>false
def evNil (P:Program) (op:BinOp) (T:TypeId) (b:SV) (nb:SV):R:=
  match isIface (P.underlying T),op with
  |true,.eql=> .ok b
  |true,.neq=> .ok nb
  |_,_=> .bad
def evBool (P:Program) (op:BinOp) (T:TypeId) (s t:SV):R:=
  match P.underlying T,asB s,asB t,op with
  |some .bool,some a,some b,.eql=> .ok (.v (.bool (a==b)))
  |some .bool,some a,some b,.neq=> .ok (.v (.bool (a !=b)))
  |_,_,_,_=> .bad
def evBin (P:Program) (sg:Bool) (op:BinOp) (T:TypeId) (y:Operand) (s t:SV):R:=
  match s,t with
  | .v (.int k a),.v (.int k' b)=>
    match op with
    | .shl| .shr=>evShift op k a b
    |_=>match kindEq k k' with|true=>evInts sg op k a b|false=> .bad
  | .v (.string a),.v (.string b)=>evStr op a b
  | .er _ _ e _,.v .nilIface=>match isNilC y with|true=>evNil P op T (.v (.bool (e==0))) (.v (.bool (e !=0)))|false=> .bad
  | .v .nilIface,.v .nilIface=>match isNilC y with|true=>evNil P op T (.bl true) (.bl false)|false=> .bad
  | .ic _ _,.v .nilIface=>evNil P op T (.bl false) (.bl true)
  | .v (.iface _ _),.v .nilIface=>evNil P op T (.bl false) (.bl true)
  |s,t=>evBool P op T s t
section
variable {P:Program} {w:World} {ω:Ow} {ρ:Operand→SV} {M:Mem} {a:Act}
theorem eqGuard_int (op:BinOp) (T:TypeId) (x y:Operand) (k k':IntKind) (m n:Int) (w:World):(eqGuard op T x y (.int k m) (.int k' n)).run P w= .ok () w:=by
  unfold eqGuard
  cases op<;>simp
theorem eqGuard_str (op:BinOp) (T:TypeId) (x y:Operand) (m n:ByteArray) (w:World):(eqGuard op T x y (.string m) (.string n)).run P w= .ok () w:=by
  unfold eqGuard
  cases op<;>simp
theorem eqGuard_bool (op:BinOp) (T:TypeId) (x y:Operand) (m n:Bool) (w:World):(eqGuard op T x y (.bool m) (.bool n)).run P w= .ok () w:=by
  unfold eqGuard
  cases op<;>simp
theorem eqGuard_iface (op:BinOp) (T:TypeId) (x y:Operand) (t:TypeId) (m:Value) (w:World):(eqGuard op T x y (.iface t m) .nilIface).run P w= .ok () w:=by
  unfold eqGuard
  cases op<;>simp
theorem eqGuard_nil (op:BinOp) (T:TypeId) (x y:Operand) (hy:isNilC y=true) (w:World):(eqGuard op T x y .nilIface .nilIface).run P w= .ok () w:=by
  unfold isNilC at hy
  split at hy
  · unfold eqGuard
    cases op<;>simp
  · cases hy
theorem tdiv_nn {x y:Int} (h:0≤x):x.tdiv y=x/y:=Int.tdiv_eq_ediv_of_nonneg h
theorem tmod_nn {x y:Int} (h:0≤x):x.tmod y=x%y:=Int.tmod_eq_emod_of_nonneg h
theorem ints_ok (sg:Bool) (op:BinOp) (T:TypeId) (k:IntKind) (x y:Int) (K:SV→Prop) (he:(evInts sg op k x y).run K):
    ∃u,(∀w,(binOp op T (.int k x) (.int k y)).run P w= .ok u w)∧K (.v u):=by
  unfold evInts at he
  split at he
  case h_1=>
    cases sg with
    |true=>exact ⟨_,fun w=>by simp [binOp,Op.intArith],he⟩
    |false=>exact ⟨_,fun w=>by simp [binOp,Op.intArith,show k.wrap (x+y)=x+y from he.1],he.2⟩
  case h_2=>
    cases sg with
    |true=>exact ⟨_,fun w=>by simp [binOp,Op.intArith],he⟩
    |false=>exact ⟨_,fun w=>by simp [binOp,Op.intArith,show k.wrap (x -y)=x -y from he.1],he.2⟩
  case h_3=>
    cases sg with
    |true=>exact ⟨_,fun w=>by simp [binOp,Op.intArith],he⟩
    |false=>exact ⟨_,fun w=>by simp [binOp,Op.intArith,show k.wrap (x*y)=x*y from he.1],he.2⟩
  case h_4=>
    cases sg with
    |true=>exact ⟨_,fun w=>by simp [binOp,Op.intDiv,he.1],he.2⟩
    |false=>
     obtain ⟨⟨h1,h2,h3⟩,h4⟩:=he
     exact ⟨_,fun w=>by simp [binOp,Op.intDiv,show y≠0 by omega,tdiv_nn h1,show k.wrap (x/y)=x/y from h3],h4⟩
  case h_5=>
    cases sg with
    |true=>exact ⟨_,fun w=>by simp [binOp,Op.intDiv,he.1],he.2⟩
    |false=>
     obtain ⟨⟨h1,h2⟩,h4⟩:=he
     exact ⟨_,fun w=>by simp [binOp,Op.intDiv,show y≠0 by omega,tmod_nn h1],h4⟩
  case h_16=>exact he.elim
  all_goals exact ⟨_,fun w=>by simp [binOp,Op.intArith,Op.intBits,Op.intCmp,bitsI],he⟩
theorem shift_ok (op:BinOp) (T:TypeId) (k k':IntKind) (x y:Int) (K:SV→Prop) (he:(evShift op k x y).run K):
    ∃u,(∀w,(binOp op T (.int k x) (.int k' y)).run P w= .ok u w)∧K (.v u):=by
  unfold evShift at he
  split at he
  · exact ⟨_,fun w=>by simp [binOp,Op.shift,Int.not_lt.2 he.1],he.2⟩
  · exact ⟨_,fun w=>by simp [binOp,Op.shift,Int.not_lt.2 he.1],he.2⟩
  · exact he.elim
theorem run_bin {o:Oper} {op:BinOp} {T T':TypeId} {x y:Operand} (ho:o.op= .binOp op T x y T') {u v r:Value} (ex:a.eval x=u) (ey:a.eval y=v)
    (hg: ∀w:World,(eqGuard op T x y u v).run P w= .ok () w) (hr: ∀w:World,(binOp op T u v).run P w= .ok r w):(execOp a.eval o).run P w= .ok (.value r) w:=by
  simp [execOp,ho,ex,ey,hg,hr,Result.andThen]
theorem isIface_some {d:Option TypeDesc} (h:isIface d=true): ∃ms,d=some (.interface ms):=by
  unfold isIface at h
  split at h
  · exact ⟨_,rfl⟩
  · cases h
theorem eql_nil_run {T:TypeId} (hu:isIface (P.underlying T)=true) (b:Bool) (u:Value) (hb:(b=true∧u= .nilIface)∨(b=false∧ ∃t x,u= .iface t x)) (w:World):
    (Op.equal T u .nilIface).run P w= .ok b w:=by
  obtain ⟨ms,hu⟩:=isIface_some hu
  have h1: ∀d:Nat,(Op.equalIn (d+1) T .nilIface .nilIface).run P w= .ok true w:=fun d=>by simp [Op.equalIn,run_underlying hu]
  have h2: ∀(d:Nat) t x,(Op.equalIn (d+1) T (.iface t x) .nilIface).run P w= .ok false w:=fun d t x=>by simp [Op.equalIn,run_underlying hu]
  rcases hb with ⟨rfl,rfl⟩|⟨rfl,t,x,rfl⟩
  · simp [Op.equal,Op.maxDepth,h1 9999]
  · simp [Op.equal,Op.maxDepth,h2 9999]
theorem bin_eql {T:TypeId} {u v:Value} (hk:(∀k n,u≠ .int k n)∧(∀k n,u≠ .float k n)∧(∀k n m,u≠ .complex k n m)∧(∀s,u≠ .string s)):binOp .eql T u v=(do pure (.bool (←Op.equal T u v)))∧binOp .neq T u v=(do pure (.bool (!(←Op.equal T u v)))):=by
  obtain ⟨h1,h2,h3,h4⟩:=hk
  constructor<;>(unfold binOp;cases u<;>first|rfl|exact absurd rfl (h1 _ _)|exact absurd rfl (h2 _ _)|exact absurd rfl (h3 _ _ _)|exact absurd rfl (h4 _))
theorem nil_ok {o:Oper} {op:BinOp} {T T':TypeId} {x y:Operand} (ho:o.op= .binOp op T x y T') {u:Value} (ex:a.eval x=u) (ey:a.eval y= .nilIface) (b:Bool)
    (hb:(b=true∧u= .nilIface∧isNilC y=true)∨(b=false∧ ∃t x,u= .iface t x)) {s t:SV} (hs:Den w ω s (.bool b)) (ht:Den w ω t (.bool !b)) {K:SV→Prop} (he:(evNil P op T s t).run K):PureOK P w ω a o K:=by
  have hg: ∀(op:BinOp) (w:World),(eqGuard op T x y u .nilIface).run P w= .ok () w:=by
    intro op w
    rcases hb with ⟨_,rfl,hy⟩|⟨_,t,z,rfl⟩
    · exact eqGuard_nil op T x y hy w
    · exact eqGuard_iface op T x y t z w
  have hb':(b=true∧u= .nilIface)∨(b=false∧ ∃t x,u= .iface t x):=hb.imp (fun h=>⟨h.1,h.2.1⟩) id
  have hk:(∀k n,u≠ .int k n)∧(∀k n,u≠ .float k n)∧(∀k n m,u≠ .complex k n m)∧(∀s,u≠ .string s):=by
    rcases hb' with ⟨_,rfl⟩|⟨_,t,x,rfl⟩<;>simp
  unfold evNil at he
  split at he
  · next hu=>exact ⟨_,.bool b,run_bin ho ex ey (hg _) (fun w=>by rw [(bin_eql hk).1];simp [eql_nil_run hu b u hb' w,Result.andThen]),hs,he⟩
  · next hu=>exact ⟨_,.bool !b,run_bin ho ex ey (hg _) (fun w=>by rw [(bin_eql hk).2];simp [eql_nil_run hu b u hb' w,Result.andThen]),ht,he⟩
  · exact he.elim
theorem bool_ok {o:Oper} {op:BinOp} {T T':TypeId} {x y:Operand} (ho:o.op= .binOp op T x y T') {s t:SV} (hx:Den w ω s (a.eval x)) (hy:Den w ω t (a.eval y)) {K:SV→Prop} (he:(evBool P op T s t).run K):PureOK P w ω a o K:=by
  unfold evBool at he
  split at he
  · next m n hu hs ht=>
    have ex:=asB_den hs hx
    have ey:=asB_den ht hy
    have h1: ∀(d:Nat) (w:World),(Op.equalIn (d+1) T (.bool m) (.bool n)).run P w= .ok (m==n) w:=fun d w=>by simp [Op.equalIn,run_underlying hu]
    exact ⟨.v (.bool (m==n)),.bool (m==n),run_bin ho ex ey (fun w=>eqGuard_bool _ _ _ _ _ _ w) (fun w=>by rw [(bin_eql (by simp)).1];simp [Op.equal,Op.maxDepth,h1 9999]),rfl,he⟩
  · next m n hu hs ht=>
    have ex:=asB_den hs hx
    have ey:=asB_den ht hy
    have h1: ∀(d:Nat) (w:World),(Op.equalIn (d+1) T (.bool m) (.bool n)).run P w= .ok (m==n) w:=fun d w=>by simp [Op.equalIn,run_underlying hu]
    exact ⟨.v (.bool (m !=n)),.bool (m !=n),run_bin ho ex ey (fun w=>eqGuard_bool _ _ _ _ _ _ w) (fun w=>by rw [(bin_eql (by simp)).2];simp [Op.equal,Op.maxDepth,h1 9999,bne]),rfl,he⟩
  · exact he.elim
theorem str_ok {o:Oper} {op:BinOp} {T T':TypeId} {x y:Operand} (ho:o.op= .binOp op T x y T') {m n:ByteArray} (ex:a.eval x= .string m) (ey:a.eval y= .string n) {K:SV→Prop} (he:(evStr op m n).run K):PureOK P w ω a o K:=by
  unfold evStr at he
  split at he
  · exact ⟨.v (.string (m++n)),.string (m++n),run_bin ho ex ey (fun w=>eqGuard_str _ _ _ _ _ _ w) (fun w=>by simp [binOp,Op.stringOp,he.1]),rfl,he.2⟩
  · exact ⟨.v (.bool (m.toList==n.toList)),.bool (m.toList==n.toList),run_bin ho ex ey (fun w=>eqGuard_str _ _ _ _ _ _ w) (fun w=>by simp [binOp,Op.stringOp]),rfl,he⟩
  · exact ⟨.v (.bool (m.toList !=n.toList)),.bool (m.toList !=n.toList),run_bin ho ex ey (fun w=>eqGuard_str _ _ _ _ _ _ w) (fun w=>by simp [binOp,Op.stringOp,bne]),rfl,he⟩
  · exact he.elim
theorem bin_ok (h:Cx P w ω ρ M a) {sg:Bool} {o:Oper} {op:BinOp} {T T':TypeId} {x y:Operand} {K:SV→Prop} (ho:o.op= .binOp op T x y T')
    (he:(evBin P sg op T y (ρ x) (ρ y)).run K):PureOK P w ω a o K:=by
  have hx:=h.val x
  have hy:=h.val y
  unfold evBin at he
  split at he
  · next k m k' n hs ht=>
    rw [hs] at hx;rw [ht] at hy
    have ex:a.eval x= .int k m:=hx
    have ey:a.eval y= .int k' n:=hy
    split at he
    · obtain ⟨u,h1,h2⟩:=shift_ok (P:=P) _ T k k' m n K he
      exact ⟨.v u,u,run_bin ho ex ey (fun w=>eqGuard_int _ _ _ _ _ _ _ _ w) h1,rfl,h2⟩
    · obtain ⟨u,h1,h2⟩:=shift_ok (P:=P) _ T k k' m n K he
      exact ⟨.v u,u,run_bin ho ex ey (fun w=>eqGuard_int _ _ _ _ _ _ _ _ w) h1,rfl,h2⟩
    · next h1 h2=>
      split at he
      · next hk=>
        obtain rfl:=kindEq_eq hk
        obtain ⟨u,h3,h4⟩:=ints_ok (P:=P) sg op T k m n K he
        exact ⟨.v u,u,run_bin ho ex ey (fun w=>eqGuard_int _ _ _ _ _ _ _ _ w) h3,rfl,h4⟩
      · exact he.elim
  · next m n hs ht=>
    rw [hs] at hx;rw [ht] at hy
    exact str_ok ho hx hy he
  · next t tf e at_ hs ht=>
    rw [hs] at hx;rw [ht] at hy
    split at he
    · next hc=>
      rcases hx with ⟨h1,_,ex⟩|⟨h1,_,ex⟩|⟨h1,_,ad,ex,_⟩
      · exact nil_ok ho ex hy true (.inl ⟨rfl,rfl,hc⟩) (by simp [Den,h1]) (by simp [Den,h1]) he
      · exact nil_ok ho ex hy false (.inr ⟨rfl,_,_,rfl⟩) (by simp [Den,h1]) (by simp [Den,h1]) he
      · exact nil_ok ho ex hy false (.inr ⟨rfl,_,_,rfl⟩) (by simp [Den,h1]) (by simp [Den,h1]) he
    · exact he.elim
  · next hs ht=>
    rw [hs] at hx;rw [ht] at hy
    split at he
    · next hc=>exact nil_ok ho hx hy true (.inl ⟨rfl,rfl,hc⟩) (by simp [Den]) (by simp [Den]) he
    · exact he.elim
  · next t s hs ht=>
    rw [hs] at hx;rw [ht] at hy
    obtain ⟨u,ex,_⟩:=hx
    exact nil_ok ho ex hy false (.inr ⟨rfl,_,_,rfl⟩) (by simp [Den]) (by simp [Den]) he
  · next t s hs ht=>
    rw [hs] at hx;rw [ht] at hy
    exact nil_ok ho hx hy false (.inr ⟨rfl,_,_,rfl⟩) (by simp [Den]) (by simp [Den]) he
  · exact bool_ok ho hx hy he
end
end Go.Sy
