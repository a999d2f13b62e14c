/-
  Sy, part 1: symbolic values; what they stand for in a world; that they stand for it in a later world too.
-/
import Derived.WalkKit
import Derived.Deep.Quiet
import Derived.Laws.StructEq
import Derived.Laws.Tables
import Derived.Laws.CopyOwn
set_option linter.unusedVariables false
set_option linter.unusedSimpArgs false
set_option linter.unusedVariables false
set_option linter.unusedSimpArgs false
namespace Go.Sy
open Go.RowKit
abbrev Path:=Option (Nat×Nat)
inductive SV where
  |aF
  |v (x:Value)
  |bl (b:Bool)
  |ptr (k s:Nat) (p:Path) (i j:Nat)
  |pe (k s:Nat) (p:Path) (i j len z:Nat)
  |aO (k s:Nat) (p:Path) (e n:Nat)
  |sa (k s:Nat) (p:Path) (i j n:Nat)
  |pt (q:Bool) (n:Nat) (f:Nat->SV)
  |sl (q:Bool) (sz n:Nat) (f:Nat->Nat->SV)
  |pa (q:Bool) (sz n:Nat) (f:Nat->Nat->SV)
  |il (sz n:Nat) (f:Nat->Nat->SV)
  |ag (n:Nat) (f:Nat->SV)
  |tp (n:Nat) (f:Nat->SV)
  |fn (id n:Nat) (f:Nat->SV)
  |bm (id:Nat) (s:SV)
  |mv (nm:String) (s:SV)
  |ic (t:Nat) (s:SV)
  |er (t tf:Nat) (e at_:Int)
  |es
instance:Inhabited SV:=⟨.aF⟩
def aL (l:List SV):Nat->SV:=λj=>l.getD j .aF
def out (n:Nat) (f:Nat->SV):Nat->SV:=aL ((List.range n).map f)
theorem Ru {n:Nat} {f:Nat->SV} {j:Nat} (h:j<n):out n f j=f j:=by
  simp[out,aL,List.getD_eq_getElem?_getD,h]
structure Loc where
  b:Nat
  o:Nat
  sz:Nat
  dh:Nat
  len:Nat
structure Ow where
  A:Nat->Prop
  Z:Nat->Prop
  β:Nat->Path->Option Loc
  cur:Nat->Nat×Nat
def Ow.bare (o:Ow):Ow:=⟨o.A,o.Z,λ_ _=>none,λ_=>(0,0)⟩
def st (cur:Nat->Nat×Nat) (k:Nat):Path->Nat
  |none=>(cur k).1
  |some _=>(cur k).2
def aeR (w:World) (A Z:Nat->Prop) (t tf:Nat) (e at_:Int) (u:Value):Prop:=
  (e=0/\at_= -1/\u= .nilIface)\/(e≠0/\at_= -1/\u= .iface t (.int .i64 e))\/
  (e≠0/\0<=at_/\ ∃a,u= .iface tf (.pointer (some a))/\ ¬A a.block/\ ¬Z a.block/\w.cell? (a.add 0)=some (.int .i64 at_)/\w.cell? (a.add 1)=some (.iface t (.int .i64 e)))
def At (o:Ow) (k s:Nat) (p:Path) (R:Loc->Prop):Prop:=s<st o.cur k p\/(s=st o.cur k p/\ ∃L,o.β k p=some L/\R L)
def Head (o:Ow) (k:Nat) (p:Path) (e n:Nat) (u:Value):Prop:=
  ∃q cap,u= .slice q n cap/\n<=cap/\cap<=maxLen/\(cap=0\/ ∃L,o.β k p=some L/\q=some ⟨L.b,L.o+e*L.sz,none⟩/\L.o+(e+cap)*L.sz<=L.len/\e+n<=L.dh)
def Den (w:World) (o:Ow):SV->Value->Prop
  | .aF,_=>True
  | .il _ _ _,_=>True
  | .v x,u=>u=x
  | .bl b,u=>u= .bool b
  | .ptr k s p i j,u=>At o k s p λL=>i<L.dh/\u= .pointer (some ⟨L.b,L.o+i*L.sz+j,none⟩)
  | .pe k s p i j len z,u=>At o k s p λL=>i<L.dh/\z<len/\u= .pointer (some ⟨L.b,L.o+i*L.sz+(j+z),none⟩)
  | .aO k s p e n,u=>s<st o.cur k p\/(s=st o.cur k p/\Head o k p e n u)
  | .sa k s p i j n,u=>At o k s p λL=>i<L.dh/\n<=maxLen/\u= .slice (some ⟨L.b,L.o+i*L.sz+j,none⟩) n n
  | .pt q n f,u=> ∃a,u= .pointer (some a)/\ ∀j,j<n-> ∃x,w.cell? (a.add j)=some x/\(¬o.A a.block/\(q=false-> ¬o.Z a.block))/\Den w o.bare (f j) x
  | .sl q sz n f,u=> ∃p cap,u= .slice p n cap/\n<=cap/\n<=maxLen/\(n=0\/ ∃a,p=some a/\ ∀i,i<n-> ∀j,j<sz-> ∃x,w.cell? (a.add (i*sz+j))=some x/\(¬o.A a.block/\(q=false-> ¬o.Z a.block))/\Den w o.bare (f i j) x)
  | .pa q sz n f,u=> ∃a,u= .pointer (some a)/\ ∀i,i<n-> ∀j,j<sz-> ∃x,w.cell? (a.add (i*sz+j))=some x/\(¬o.A a.block/\(q=false-> ¬o.Z a.block))/\Den w o.bare (f i j) x
  | .ag n f,u=> ∃cs,u= .agg cs/\cs.size=n/\ ∀j,j<n-> ∃x,cs[j]? =some x/\Den w o (f j) x
  | .tp n f,u=> ∃cs,u= .tuple cs/\cs.size=n/\ ∀j,j<n-> ∃x,cs[j]? =some x/\Den w o (f j) x
  | .fn id n f,u=> ∃cs,u= .func (.func id) #[] cs/\cs.size=n/\ ∀j,j<n-> ∃x,cs[j]? =some x/\Den w o (f j) x
  | .bm id s,u=> ∃x,u= .func (.func id) #[x] #[]/\Den w o s x
  | .mv nm s,u=> ∃x,u= .func (.method nm) #[x] #[]/\Den w o s x
  | .ic t s,u=> ∃x,u= .iface t x/\Den w o s x
  | .er t tf e at_,u=>aeR w o.A o.Z t tf e at_ u
  | .es,u=> ∃p,u= .slice p 0 0
def Fh (A:Nat->Prop) (w w':World):Prop:= ∀b,b<w.heap.size-> ¬A b->w'.heap[b]? =w.heap[b]?
theorem m_ {w:World} {a:Addr} {x:Value} (h:w.cell? a=some x):a.block<w.heap.size:=by
  rcases Nat.lt_or_ge a.block w.heap.size with h'|h'
  · exact h'
  · simp[World.cell?,Array.getElem?_eq_none h']at h
theorem iM (a:Addr) (n:Nat):(a.add n).block=a.block:=by unfold Addr.add;split<;>rfl
theorem add_add (a:Addr) (n m:Nat):(a.add n).add m=a.add (n+m):=by
  unfold Addr.add
  by_cases h:n=0
  · subst h;simp
  · by_cases h2:m=0
    · subst h2;simp[h]
    · simp only[h,h2,if_false]
      rw[if_neg (by omega)]
      simp only[Nat.add_assoc]
theorem lG (b o n:Nat):(⟨b,o,none⟩:Addr).add n=⟨b,o+n,none⟩:=by
  unfold Addr.add;split
  · next h=>subst h;rfl
  · rfl
theorem Fh.cell {A:Nat->Prop} {w w':World} (h:Fh A w w') {a:Addr} {x:Value} (hf: ¬A a.block) (hc:w.cell? a=some x):w'.cell? a=some x:=by
  have:=h a.block (m_ hc) hf
  unfold World.cell? at*
  rw[this];exact hc
structure Ext (w:World) (o:Ow) (w':World) (o':Ow):Prop where
  os:w'.os=w.os
  tape:w'.tape=w.tape
  output:w'.output=w.output
  same:Fh o.A w w'
  free: ∀b,b<w.heap.size-> ¬o.A b-> ¬o'.A b
  iy: ∀b,b<w.heap.size-> ¬o.A b-> ¬o.Z b-> ¬o'.Z b
  size:w.heap.size<=w'.heap.size
  mono: ∀k,(o.cur k).1<=(o'.cur k).1/\(o.cur k).2<=(o'.cur k).2
  pJ: ∀k p L,o.β k p=some L->st o'.cur k p=st o.cur k p->o'.β k p=some L
  zs: ∀b,o.Z b->o'.Z b
theorem Ext.refl (w:World) (o:Ow):Ext w o w o:=⟨rfl,rfl,rfl,λ_ _ _=>rfl,λ_ _ h=>h,λ_ _ _ h=>h,Nat.le_refl _,λ_=>⟨Nat.le_refl _,Nat.le_refl _⟩,λ_ _ _ h _=>h,λ_ h=>h⟩
theorem Ea {c c':Nat->Nat×Nat} (h: ∀k,(c k).1<=(c' k).1/\(c k).2<=(c' k).2) (k:Nat) (p:Path):st c k p<=st c' k p:=by
  cases p with
  |none=>exact(h k).1
  |some _=>exact(h k).2
theorem Ext.trans {w w' gg:World} {o o' CD:Ow} (h:Ext w o w' o') (k:Ext w' o' gg CD):Ext w o gg CD where
  os:=k.os.trans h.os
  tape:=k.tape.trans h.tape
  output:=k.output.trans h.output
  same:=λb hb hf=>(k.same b (Nat.lt_of_lt_of_le hb h.size) (h.free b hb hf)).trans (h.same b hb hf)
  free:=λb hb hf=>k.free b (Nat.lt_of_lt_of_le hb h.size) (h.free b hb hf)
  iy:=λb hb hf hz=>k.iy b (Nat.lt_of_lt_of_le hb h.size) (h.free b hb hf) (h.iy b hb hf hz)
  size:=Nat.le_trans h.size k.size
  mono:=λq=>⟨Nat.le_trans (h.mono q).1 (k.mono q).1,Nat.le_trans (h.mono q).2 (k.mono q).2⟩
  pJ:=λq p L hL e=>by
   have J:=Ea h.mono q p
   have h2:=Ea k.mono q p
   have e1:st o'.cur q p=st o.cur q p:=by omega
   exact k.pJ q p L (h.pJ q p L hL e1) (by omega)
  zs:=λb hb=>k.zs b (h.zs b hb)
theorem Ext.bare {w w':World} {o o':Ow} (h:Ext w o w' o'):Ext w o.bare w' o'.bare:=⟨h.os,h.tape,h.output,h.same,h.free,h.iy,h.size,λ_=>⟨Nat.le_refl _,Nat.le_refl _⟩,λ_ _ _ h=>(by cases h),h.zs⟩
theorem At.ext {w w':World} {o o':Ow} (h:Ext w o w' o') {k s:Nat} {p:Path} {R:Loc->Prop} (ha:At o k s p R):At o' k s p R:=by
  have hm:=Ea h.mono k p
  rcases ha with ha|⟨ha,L,hL,hR⟩
  · exact .inl (Nat.lt_of_lt_of_le ha hm)
  · rcases Nat.lt_or_ge s (st o'.cur k p)with h'|h'
    · exact .inl h'
    · exact .inr ⟨by omega,L,h.pJ k p L hL (by omega),hR⟩
theorem Head.ext {w w':World} {o o':Ow} (h:Ext w o w' o') {k:Nat} {p:Path} {e n:Nat} {u:Value} (he:st o'.cur k p=st o.cur k p) (ha:Head o k p e n u):Head o' k p e n u:=by
  obtain⟨q,cap,J,h2,h3,h4⟩:=ha
  exact⟨q,cap,J,h2,h3,h4.imp id λ⟨L,hL,hr⟩=>⟨L,h.pJ k p L hL he,hr⟩⟩
theorem Den.ext {w w':World} {o o':Ow} (h:Ext w o w' o') {s:SV} {u:Value} (hd:Den w o s u):Den w' o' s u:=by
  induction s generalizing o o' u with
  |aF=>trivial
  |il sz n f=>trivial
  |es=>exact hd
  |v x=>exact hd
  |bl b=>exact hd
  |ptr k s p i j=>exact At.ext h hd
  |pe k s p i j len z=>exact At.ext h hd
  |sa k s p i j n=>exact At.ext h hd
  |aO k s p e n=>
   have hm:=Ea h.mono k p
   rcases hd with hd|⟨hd,hh⟩
   · exact .inl (Nat.lt_of_lt_of_le hd hm)
   · rcases Nat.lt_or_ge s (st o'.cur k p)with h'|h'
     · exact .inl h'
     · exact .inr ⟨by omega,hh.ext h (by omega)⟩
  |pt q n f ih=>
   obtain⟨a,rfl,hj⟩:=hd
   refine⟨a,rfl,λj bz=>?_⟩
   obtain⟨x,hc,hf,hx⟩:=hj j bz
   have av:=m_ hc
   rw[iM]at av
   exact⟨x,h.same.cell (by rw[iM];exact hf.1) hc,⟨h.free _ av hf.1,λe=>h.iy _ av hf.1 (hf.2 e)⟩,ih j h.bare hx⟩
  |sl q sz n f ih=>
   obtain⟨p,cap,rfl,jF,iH,hj⟩:=hd
   refine⟨p,cap,rfl,jF,iH,hj.imp id ?_⟩
   intro hk
   obtain⟨a,e,hk⟩:=hk
   refine⟨a,e,λi hi j bz=>?_⟩
   obtain⟨x,hc,hf,hx⟩:=hk i hi j bz
   have av:=m_ hc
   rw[iM]at av
   exact⟨x,h.same.cell (by rw[iM];exact hf.1) hc,⟨h.free _ av hf.1,λe=>h.iy _ av hf.1 (hf.2 e)⟩,ih i j h.bare hx⟩
  |pa q sz n f ih=>
   obtain⟨a,rfl,hk⟩:=hd
   refine⟨a,rfl,λi hi j bz=>?_⟩
   obtain⟨x,hc,hf,hx⟩:=hk i hi j bz
   have av:=m_ hc
   rw[iM]at av
   exact⟨x,h.same.cell (by rw[iM];exact hf.1) hc,⟨h.free _ av hf.1,λe=>h.iy _ av hf.1 (hf.2 e)⟩,ih i j h.bare hx⟩
  |ag n f ih=>
   obtain⟨cs,rfl,hs,hj⟩:=hd
   exact⟨cs,rfl,hs,λj bz=>let⟨x,J,h2⟩:=hj j bz;⟨x,J,ih j h h2⟩⟩
  |tp n f ih=>
   obtain⟨cs,rfl,hs,hj⟩:=hd
   exact⟨cs,rfl,hs,λj bz=>let⟨x,J,h2⟩:=hj j bz;⟨x,J,ih j h h2⟩⟩
  |fn id n f ih=>
   obtain⟨cs,rfl,hs,hj⟩:=hd
   exact⟨cs,rfl,hs,λj bz=>let⟨x,J,h2⟩:=hj j bz;⟨x,J,ih j h h2⟩⟩
  |bm id s ih=>
   obtain⟨x,rfl,hx⟩:=hd
   exact⟨x,rfl,ih h hx⟩
  |mv nm s ih=>
   obtain⟨x,rfl,hx⟩:=hd
   exact⟨x,rfl,ih h hx⟩
  |ic t s ih=>
   obtain⟨x,rfl,hx⟩:=hd
   exact⟨x,rfl,ih h hx⟩
  |er t tf e at_=>
   rcases hd with hd|hd|⟨J,h2,a,rfl,hf,hz,j5,mK⟩
   · exact .inl hd
   · exact .inr (.inl hd)
   · have av:=m_ j5
     rw[iM]at av
     exact .inr (.inr ⟨J,h2,a,rfl,h.free _ av hf,h.iy _ av hf hz,h.same.cell (by rw[iM];exact hf) j5,h.same.cell (by rw[iM];exact hf) mK⟩)
theorem Den.up {w:World} {o:Ow} {s:SV} {u:Value} (hd:Den w o.bare s u):Den w o s u:=
  Den.ext (o:=o.bare) (o':=o) ⟨rfl,rfl,rfl,λ_ _ _=>rfl,λ_ _ h=>h,λ_ _ _ h=>h,Nat.le_refl _,λ_=>⟨Nat.zero_le _,Nat.zero_le _⟩,λ_ _ _ h=>(by cases h),λ_ h=>h⟩ hd
def b_ (w:World) (o:Ow):List SV->List Value->Prop
  | [],[]=>True
  |s::r,u::t=>Den w o s u/\b_ w o r t
  |_,_=>False
theorem b_.ext {w w':World} {o o':Ow} (h:Ext w o w' o'): ∀{F:List SV} {l:List Value},b_ w o F l->b_ w' o' F l
  | [],[],_=>trivial
  |_::_,_::_,⟨J,h2⟩=>⟨J.ext h,b_.ext h h2⟩
  | [],_::_,hd=>hd.elim
  |_::_,[],hd=>hd.elim
theorem b_.len {w:World} {o:Ow}: ∀{F:List SV} {l:List Value},b_ w o F l->F.length=l.length
  | [],[],_=>rfl
  |_::_,_::_,⟨_,h2⟩=>by simp[h2.len]
  | [],_::_,hd=>hd.elim
  |_::_,[],hd=>hd.elim
theorem b_.get {w:World} {o:Ow}: ∀{F:List SV} {l:List Value},b_ w o F l-> ∀(i:Nat) (d:Value),Den w o (F.getD i .aF) (l.getD i d)
  | [],[],_,_,_=>by simp[Den]
  |_::_,_::_,⟨J,_⟩,0,_=>by simpa using J
  |_::_,_::_,⟨_,h2⟩,i+1,d=>by simpa using h2.get i d
  | [],_::_,hd,_,_=>hd.elim
  |_::_,[],hd,_,_=>hd.elim
theorem b_.get? {w:World} {o:Ow}: ∀{F:List SV} {l:List Value},b_ w o F l-> ∀(i:Nat),i<F.length-> ∃x,l[i]? =some x/\Den w o (F.getD i .aF) x
  |_::_,u::_,⟨J,_⟩,0,_=>⟨u,by simp,by simpa using J⟩
  |_::_,_::_,⟨_,h2⟩,i+1,hi=>by simpa using h2.get? i (by simpa using hi)
  | [],[],_,_,hi=>absurd hi (by simp)
  | [],_::_,hd,_,_=>hd.elim
  |_::_,[],hd,_,_=>hd.elim
theorem b_.set {w:World} {o:Ow} {s:SV} {u:Value} (hs:Den w o s u): ∀{F:List SV} {l:List Value},b_ w o F l-> ∀(i:Nat),b_ w o (F.set i s) (l.set i u)
  | [],[],_,_=>by simp[b_]
  |_::_,_::_,⟨_,h2⟩,0=>by simpa [b_]using ⟨hs,h2⟩
  |_::_,_::_,⟨J,h2⟩,i+1=>by simpa [b_]using ⟨J,h2.set hs i⟩
  | [],_::_,hd,_=>hd.elim
  |_::_,[],hd,_=>hd.elim
theorem b_.mk {w:World} {o:Ow}: ∀{F:List SV} {l:List Value},F.length=l.length->(∀i,i<F.length-> ∃x,l[i]? =some x/\Den w o (F.getD i .aF) x)->b_ w o F l
  | [],[],_,_=>trivial
  |s::r,u::t,hl,h=>by
   refine⟨?_,b_.mk (by simpa using hl) λi hi=>?_⟩
   · obtain⟨x,J,h2⟩:=h 0 (by simp)
     simp at J h2;subst J;exact h2
   · obtain⟨x,J,h2⟩:=h (i+1) (by simp;exact hi)
     exact⟨x,by simpa using J,by simpa using h2⟩
  | [],_::_,hl,_=>by simp at hl
  |_::_,[],hl,_=>by simp at hl
theorem b_.append {w:World} {o:Ow}: ∀{F G:List SV} {l m:List Value},b_ w o F l->b_ w o G m->b_ w o (F++G) (l++m)
  | [],_,[],_,_,h=>by simpa using h
  |_::_,_,_::_,_,⟨J,h2⟩,h=>⟨J,h2.append h⟩
  | [],_,_::_,_,hd,_=>hd.elim
  |_::_,_,[],_,hd,_=>hd.elim
theorem b_.map {w:World} {o o':Ow} {g:SV->SV} (hg: ∀s u,Den w o s u->Den w o' (g s) u): ∀{F:List SV} {l:List Value},b_ w o F l->b_ w o' (F.map g) l
  | [],[],_=>trivial
  |_::_,_::_,⟨J,h2⟩=>⟨hg _ _ J,h2.map hg⟩
  | [],_::_,hd=>hd.elim
  |_::_,[],hd=>hd.elim
end Go.Sy
set_option linter.unusedVariables false
set_option linter.unusedSimpArgs false
namespace Go.Sy
open Go.RowKit
def we:IntKind->IntKind->Bool
  | .i8,.i8| .i16,.i16| .i32,.i32| .i64,.i64| .u8,.u8| .u16,.u16| .u32,.u32| .u64,.u64=>true
  |_,_=>false
theorem AI {a b:IntKind} (h:we a b=true):a=b:=by cases a<;>cases b<;>first|rfl|cases h
def pP:SV->Option Bool
  | .bl b=>some b
  | .v (.bool b)=>some b
  |_=>none
theorem m9 {w:World} {o:Ow} {s:SV} {b:Bool} {u:Value} (h:pP s=some b) (hd:Den w o s u):u= .bool b:=by
  unfold pP at h
  split at h<;>simp at h<;>subst h<;>exact hd
def ze (c:Bool) (x y:SV):SV:=
  match x,y with
  | .v (.int k a),.v (.int k' b)=>match we k k' with|true=> .v (.int k (bif c then a else b))|false=> .aF
  | .v (.string a),.v (.string b)=> .v (.string (bif c then a else b))
  | .er t tf e a,.er t' Kd e' a'=>match Nat.beq t t',Nat.beq tf Kd with|true,true=> .er t tf (bif c then e else e') (bif c then a else a')|_,_=> .aF
  |x,y=>match pP x,pP y with|some a,some b=> .v (.bool (bif c then a else b))|_,_=> .aF
theorem Hj {w:World} {o:Ow} {c:Bool} {x y:SV} {u:Value} (J:c=true->Den w o x u) (h2:c=false->Den w o y u):Den w o (ze c x y) u:=by
  unfold ze
  split
  · split
    · next hk=>
      obtain rfl:=AI hk
      cases c
      · exact h2 rfl
      · exact J rfl
    · trivial
  · cases c
    · exact h2 rfl
    · exact J rfl
  · split
    · next hb nJ=>
      obtain rfl:=Nat.eq_of_beq_eq_true hb
      obtain rfl:=Nat.eq_of_beq_eq_true nJ
      cases c
      · exact h2 rfl
      · exact J rfl
    · trivial
  · split
    · next a b ha hb=>
      cases c
      · exact m9 hb (h2 rfl)
      · exact m9 ha (J rfl)
    · trivial
def lQ (c:Bool) (x y:SV):SV:=
  match x,y with
  | .sl q sz n f,.sl q' ia n' f'=>match Nat.beq sz ia,q==q' with|true,true=> .sl q sz (bif c then n else n') (λa b=>ze c (f a b) (f' a b))|_,_=> .aF
  |x,y=>ze c x y
theorem AW {w:World} {o:Ow} {c:Bool} {x y:SV} {u:Value} (J:c=true->Den w o x u) (h2:c=false->Den w o y u):Den w o (lQ c x y) u:=by
  unfold lQ
  split
  · split
    · next hb hq=>
      obtain rfl:=Nat.eq_of_beq_eq_true hb
      obtain rfl:=eq_of_beq hq
      cases c
      · obtain⟨p,cap,h,h3,h4,h5⟩:=h2 rfl
        refine⟨p,cap,h,h3,h4,h5.imp_right ?_⟩
        rintro ⟨a,ha,h6⟩
        refine⟨a,ha,λi hi j hj=>?_⟩
        obtain⟨v,h7,h8,h9⟩:=h6 i hi j hj
        exact⟨v,h7,h8,Hj (λh=>nomatch h) (λ_=>h9)⟩
      · obtain⟨p,cap,h,h3,h4,h5⟩:=J rfl
        refine⟨p,cap,h,h3,h4,h5.imp_right ?_⟩
        rintro ⟨a,ha,h6⟩
        refine⟨a,ha,λi hi j hj=>?_⟩
        obtain⟨v,h7,h8,h9⟩:=h6 i hi j hj
        exact⟨v,h7,h8,Hj (λ_=>h9) (λh=>nomatch h)⟩
    · trivial
  · exact Hj J h2
def cW:SV->Bool
  | .il _ _ _=>true
  |_=>false
theorem XC (c:Bool) (x y:SV):cW (ze c x y)=false:=by
  unfold ze
  split
  · split<;>rfl
  · rfl
  · split<;>rfl
  · split<;>rfl
theorem GB (c:Bool) (x y:SV):cW (lQ c x y)=false:=by
  unfold lQ
  split
  · split<;>rfl
  · exact XC _ _ _
def jC (c:Bool) (x y:SV):SV:=
  match x,y with
  | .il sz n g,.il ia n' g'=>match Nat.beq sz ia with|true=> .il sz (bif c then n else n') (λa b=>lQ c (g a b) (g' a b))|false=> .aF
  |x,y=>lQ c x y
theorem t_ {w:World} {o:Ow} {c:Bool} {x y:SV} {u:Value} (J:c=true->Den w o x u) (h2:c=false->Den w o y u):Den w o (jC c x y) u:=by
  unfold jC
  split
  · split<;>trivial
  · exact AW J h2
theorem GA {c:Bool} {x y:SV} (h:cW x=false):jC c x y=lQ c x y:=by
  unfold jC
  split
  · cases h
  · rfl
structure Row where
  sz:Nat
  n:Nat
  f:Nat->Nat->SV
inductive bc where
  |dead
  |cells (l:List SV)
  |row (sz n:Nat) (f:Nat->Nat->SV)
structure bk where
  rs:Nat
  ds:Nat
  hl:Option (Nat×Nat)
  b:bc
abbrev Mem:=List (Nat×bk)
def ae:Mem->Nat->bk
  | [],_=>⟨0,0,none,.dead⟩
  |p::r,k=>match Nat.beq p.1 k with|true=>p.2|false=>ae r k
theorem dp {k:Nat} {e:bk} {M:Mem}:ae ((k,e)::M) k=e:=by simp[ae]
theorem cC {k k':Nat} {e:bk} {M:Mem} (h:k≠k'):ae ((k,e)::M) k'=ae M k':=by
  have:Nat.beq k k'=false:=by
    cases hb:Nat.beq k k'
    · rfl
    · exact absurd (Nat.eq_of_beq_eq_true hb) h
  simp only[ae,this]
def dF (M:Mem):Nat->Nat×Nat:=λk=>((ae M k).rs,(ae M k).ds)
def bc.row? :bc->Option Row
  | .dead=>none
  | .cells l=>some ⟨l.length,1,λ_ j=>aL l j⟩
  | .row sz n f=>some ⟨sz,n,f⟩
def inner (r:Row) (i j:Nat):Option Row:=
  match r.f i j with
  | .il sz n g=>some ⟨sz,n,g⟩
  |_=>none
def gu (b:bc):Path->Option Row
  |none=>b.row?
  |some (i,j)=>match b with| .row sz n f=>inner ⟨sz,n,f⟩ i j|_=>none
def rowAt (M:Mem) (k:Nat) (p:Path):Option Row:=gu (ae M k).b p
def Row.set (r:Row) (i j:Nat) (v:SV):Row:=⟨r.sz,r.n,λi' j'=>match Nat.beq j' j with|false=>r.f i' j'|true=>jC (Nat.beq i' i) v (r.f i' j')⟩
def cI (w:World) (o:Ow) (hl:Option (Nat×Nat)) (k i j:Nat) (s:SV) (x:Value):Prop:=
  match s with
  | .il sz n _=>hl=some (i,j)\/(Head o k (some (i,j)) 0 n x/\ ∀L,o.β k (some (i,j))=some L->L.sz=sz)
  |s=>Den w o s x
def iN (w:World) (o:Ow) (hl:Option (Nat×Nat)) (k:Nat):Path->Nat->Nat->SV->Value->Prop
  |none,i,j,s,x=>cI w o hl k i j s x
  |some _,_,_,s,x=>Den w o s x
def qE (w:World) (o:Ow) (hl:Option (Nat×Nat)) (k:Nat) (p:Path) (L:Loc) (r:Row):Prop:=
  ∃(c:Array Value) (T:TypeId),w.heap[L.b]? =some (Obj.cells c T (0,0))/\c.size=L.len/\L.o+L.dh*L.sz<=L.len/\
   ∀i,i<L.dh-> ∀j,j<L.sz-> ∃x,c[L.o+i*L.sz+j]? =some x/\iN w o hl k p i j (r.f i j) x
structure aR (w:World) (o:Ow) (M:Mem):Prop where
  cur:o.cur=dF M
  own: ∀b,(∃k p L,o.β k p=some L/\L.b=b)->o.A b
  fg: ∀b,o.A b->b<w.heap.size
  dj: ∀b,o.A b-> ¬o.Z b
  gJ: ∀b,o.Z b->b<w.heap.size
  inj: ∀k p L k' p' L',o.β k p=some L->o.β k' p'=some L'->L.b=L'.b->k=k'/\p=p'
  low: ∀k p L,o.β k p=some L->L.b<w.heap.size
  row: ∀k p L,o.β k p=some L-> ∃r,rowAt M k p=some r/\r.sz=L.sz/\r.n=L.dh/\qE w o (ae M k).hl k p L r
  live: ∀k l,(ae M k).b= .cells l-> ∃L,o.β k none=some L
  fm: ∀k i j,(ae M k).hl=some (i,j)->o.β k (some (i,j))=none
theorem gr {w:World} {o:Ow} {hl:Option (Nat×Nat)} {k i j:Nat} {s:SV} {x:Value} (h:cW s=false):cI w o hl k i j s x=Den w o s x:=by
  unfold cI
  split
  · cases h
  · rfl
theorem cI.ext {w w':World} {o o':Ow} (h:Ext w o w' o') {hl:Option (Nat×Nat)} {k i j:Nat} (hs:(o'.cur k).2=(o.cur k).2) (hb: ∀q,o'.β k q=o.β k q) {s:SV} {x:Value} (hc:cI w o hl k i j s x):cI w' o' hl k i j s x:=by
  cases hi:cW s with
  |false=>
   rw[gr hi]at*
   exact Den.ext h hc
  |true=>
   cases s with
   |il sz n g=>
    rcases hc with hc|⟨J,h2⟩
    · exact .inl hc
    · exact .inr ⟨J.ext h hs,λL hL=>h2 L (by rw[<-hb];exact hL)⟩
   |_=>cases hi
theorem iN.ext {w w':World} {o o':Ow} (h:Ext w o w' o') {hl:Option (Nat×Nat)} {k i j:Nat} {p:Path} (hs:(o'.cur k).2=(o.cur k).2) (hb: ∀q,o'.β k q=o.β k q) {s:SV} {x:Value} (hc:iN w o hl k p i j s x):iN w' o' hl k p i j s x:=by
  cases p with
  |none=>exact cI.ext h hs hb hc
  |some _=>exact Den.ext h hc
theorem qE.ext {w w':World} {o o':Ow} (h:Ext w o w' o') {hl:Option (Nat×Nat)} {k:Nat} {p:Path} {L:Loc} {r:Row} (hs:(o'.cur k).2=(o.cur k).2) (hb: ∀q,o'.β k q=o.β k q) (hh:w'.heap[L.b]? =w.heap[L.b]?)
    (hr:qE w o hl k p L r):qE w' o' hl k p L r:=by
  obtain⟨c,T,J,h2,h3,h4⟩:=hr
  refine⟨c,T,hh.trans J,h2,h3,λi hi j hj=>?_⟩
  obtain⟨x,h5,h6⟩:=h4 i hi j hj
  exact⟨x,h5,h6.ext h hs hb⟩
theorem qE.lt {w:World} {o:Ow} {hl:Option (Nat×Nat)} {k:Nat} {p:Path} {L:Loc} {r:Row} (hr:qE w o hl k p L r):L.b<w.heap.size:=by
  obtain⟨c,T,J,_⟩:=hr
  exact(Array.getElem?_eq_some_iff.1 J).1
structure bp (w:World) (o:Ow) (M:Mem) (w':World) (o':Ow) (M':Mem):Prop where
  ext:Ext w o w' o'
  mem:aR w' o' M'
theorem bp.trans {w w' gg:World} {o o' CD:Ow} {M M' Vz:Mem} (h:bp w o M w' o' M') (k:bp w' o' M' gg CD Vz):bp w o M gg CD Vz:=⟨h.ext.trans k.ext,k.mem⟩
theorem bp.refl {w:World} {o:Ow} {M:Mem} (h:aR w o M):bp w o M w o M:=⟨Ext.refl _ _,h⟩
/-! ### a world with the same memory, or more of it -/
def Cw (w w':World):Prop:=w'.os=w.os/\w'.tape=w.tape/\w'.output=w.output/\w.heap.size<=w'.heap.size/\ ∀b,b<w.heap.size->w'.heap[b]? =w.heap[b]?
theorem Cw.refl (w:World):Cw w w:=⟨rfl,rfl,rfl,Nat.le_refl _,λ_ _=>rfl⟩
theorem Cw.ext {w w':World} (h:Cw w w') (o:Ow):Ext w o w' o:=⟨h.1,h.2.1,h.2.2.1,λb hb _=>h.2.2.2.2 b hb,λ_ _ h=>h,λ_ _ _ h=>h,h.2.2.2.1,λ_=>⟨Nat.le_refl _,Nat.le_refl _⟩,λ_ _ _ h _=>h,λ_ h=>h⟩
theorem aR.more {w w':World} {o:Ow} {M:Mem} (hm:aR w o M) (h:Cw w w'):aR w' o M where
  cur:=hm.cur
  own:=hm.own
  fg:=λb hb=>Nat.lt_of_lt_of_le (hm.fg b hb) h.2.2.2.1
  dj:=hm.dj
  gJ:=λb hb=>Nat.lt_of_lt_of_le (hm.gJ b hb) h.2.2.2.1
  inj:=hm.inj
  low:=λk p L hL=>Nat.lt_of_lt_of_le (hm.low k p L hL) h.2.2.2.1
  row:=λk p L hL=>by
    obtain⟨r,J,h2,h3,h4⟩:=hm.row k p L hL
    exact⟨r,J,h2,h3,h4.ext (h.ext o) rfl (λ_=>rfl) (h.2.2.2.2 _ (hm.low k p L hL))⟩
  live:=hm.live
  fm:=hm.fm
theorem bp.more {w w':World} {o:Ow} {M:Mem} (hm:aR w o M) (h:Cw w w'):bp w o M w' o M:=⟨h.ext o,hm.more h⟩
/-! ### a new root -/
def Ow.add (o:Ow) (k:Nat) (L:Loc):Ow:=⟨λb=>o.A b\/b=L.b,o.Z,λk' p=>if k'=k/\p=none then some L else o.β k' p,o.cur⟩
def zb (o:Ow) (M:Mem) (k:Nat):Prop:=(ae M k).b= .dead/\(ae M k).hl=none/\ ∀p,o.β k p=none
def fresh (M:Mem) (k:Nat) (b:bc):Mem:=(k,⟨(ae M k).rs,(ae M k).ds,none,b⟩)::M
theorem ya {M:Mem} {k:Nat} {e:bk} (J:e.rs=(ae M k).rs) (h2:e.ds=(ae M k).ds):dF ((k,e)::M)=dF M:=by
  funext k'
  unfold dF
  by_cases hk:k=k'
  · subst hk;rw[dp,J,h2]
  · rw[cC hk]
theorem GQ {w:World} {o:Ow} {k:Nat} {ob:Obj} {L:Loc} (hb:L.b=w.heap.size) (hf: ∀p,o.β k p=none):Ext w o (w.alloc ob) (o.add k L) where
  os:=rfl
  tape:=rfl
  output:=rfl
  same:=λb hb _=>Below.heap_alloc _ _ _ hb
  free:=λb av h h2=>h2.elim h (λe=>by omega)
  iy:=λ_ _ _ h=>h
  size:=by simp
  mono:=λ_=>⟨Nat.le_refl _,Nat.le_refl _⟩
  pJ:=λk' p L' h _=>by
   show(if k'=k/\p=none then some L else o.β k' p)=some L'
   rw[if_neg]
   · exact h
   · rintro ⟨rfl,rfl⟩;rw[hf]at h;cases h
  zs:=λ_ h=>h
theorem bp.alloc {w:World} {o:Ow} {M:Mem} (hm:aR w o M) {k:Nat} (hf:zb o M k) {c:Array Value} {T:TypeId} {b:bc} {r:Row} (hr:b.row? =some r)
    {L:Loc} (hL:L=⟨w.heap.size,0,r.sz,r.n,c.size⟩) (hc:r.n*r.sz<=c.size)
    (rO: ∀i,i<r.n-> ∀j,j<r.sz-> ∃x,c[i*r.sz+j]? =some x/\iN (w.alloc (.cells c T)) (o.add k L) none k none i j (r.f i j) x):
    bp w o M (w.alloc (.cells c T)) (o.add k L) (fresh M k b):=by
  have bM:Ext w o (w.alloc (.cells c T)) (o.add k L):=GQ (by rw[hL]) hf.2.2
  have cZ: ∀k' p L',(o.add k L).β k' p=some L'->(k'=k/\p=none/\L'=L)\/(¬(k'=k)/\o.β k' p=some L'):=by
    intro k' p L' h
    by_cases hk:k'=k/\p=none
    · have h':(if k'=k/\p=none then some L else o.β k' p)=some L':=h
      rw[if_pos hk]at h'
      exact .inl ⟨hk.1,hk.2,(Option.some.inj h').symm⟩
    · have h':(if k'=k/\p=none then some L else o.β k' p)=some L':=h
      rw[if_neg hk]at h'
      refine .inr ⟨λe=>?_,h'⟩
      subst e;rw[hf.2.2]at h';cases h'
  have TW:L.b=w.heap.size:=by rw[hL]
  refine⟨bM,?_,?_,?_,?_,?_,?_,?_,?_,?_,?_⟩
  · show o.cur=_
    rw[hm.cur]
    unfold fresh
    exact(ya (M:=M) (k:=k) (e:=⟨(ae M k).rs,(ae M k).ds,none,b⟩) rfl rfl).symm
  · rintro b' ⟨k',p,L',J,h2⟩
    rcases cZ k' p L' J with⟨_,_,rfl⟩|⟨_,h⟩
    · exact .inr h2.symm
    · exact .inl ((hm.own b') ⟨k',p,L',h,h2⟩)
  · rintro b' (h|rfl)
    · exact Nat.lt_of_lt_of_le (hm.fg b' h) bM.size
    · rw[hL];simp
  · rintro b' (h|rfl) hz
    · exact hm.dj b' h hz
    · have:=hm.gJ _ hz;omega
  · exactλb' hz=>Nat.lt_of_lt_of_le (hm.gJ b' hz) bM.size
  · intro k1 p1 L1 k2 p2 L2 J h2 e
    rcases cZ _ _ _ J with⟨rfl,rfl,rfl⟩|⟨_,g1⟩<;>rcases cZ _ _ _ h2 with⟨rfl,rfl,rfl⟩|⟨_,g2⟩
    · exact⟨rfl,rfl⟩
    · have:=hm.low _ _ _ g2;omega
    · have:=hm.low _ _ _ g1;omega
    · exact hm.inj _ _ _ _ _ _ g1 g2 e
  · intro k1 p1 L1 J
    rcases cZ _ _ _ J with⟨rfl,rfl,rfl⟩|⟨_,g1⟩
    · rw[TW];simp
    · have:=hm.low _ _ _ g1;simp;omega
  · intro k1 p1 L1 J
    rcases cZ _ _ _ J with⟨rfl,rfl,rfl⟩|⟨ba,g1⟩
    · refine⟨r,by unfold rowAt fresh;rw[dp];exact hr,by rw[hL],by rw[hL],c,T,by rw[TW];exact heap_alloc_new w _,by rw[hL],by rw[hL];simpa using hc,?_⟩
      rw[hL]
      intro i hi j hj
      obtain⟨x,e1,e2⟩:=rO i hi j hj
      refine⟨x,by simpa using e1,?_⟩
      unfold fresh;rw[dp]
      rw[hL]at e2
      exact e2
    · obtain⟨r1,e1,e2,e3,e4⟩:=hm.row k1 p1 L1 g1
      refine⟨r1,by unfold rowAt fresh;rw[cC (Ne.symm ba)];exact e1,e2,e3,?_⟩
      unfold fresh;rw[cC (Ne.symm ba)]
      refine e4.ext bM rfl (λq=>?_) (Below.heap_alloc _ _ _ (hm.low _ _ _ g1))
      show(if k1=k/\q=none then some L else o.β k1 q)=_
      rw[if_neg (λh=>ba h.1)]
  · intro k1 l h
    by_cases hk:k1=k
    · subst hk;exact⟨L,by simp[Ow.add]⟩
    · unfold fresh at h;rw[cC (Ne.symm hk)]at h
      obtain⟨L1,J⟩:=hm.live k1 l h
      exact⟨L1,bM.pJ _ _ _ J rfl⟩
  · intro k1 i1 j1 h
    by_cases hk:k1=k
    · subst hk;unfold fresh at h;rw[dp]at h;cases h
    · unfold fresh at h;rw[cC (Ne.symm hk)]at h
      show(if k1=k/\some (i1,j1)=none then some L else o.β k1 (some (i1,j1)))=none
      rw[if_neg (λh=>hk h.1)]
      exact hm.fm _ _ _ h
/-! ### one cell is written -/
theorem Ax (w:World) (a:Addr) (x:Value) {b:Nat} (h:b≠a.block):(w.setCell a x).heap[b]? =w.heap[b]? :=Below.heap_setCell w a x b h
theorem Mc {w:World} {b off:Nat} {x:Value} {c:Array Value} {T:TypeId} {fz:Nat×Nat} (h:w.heap[b]? =some (Obj.cells c T fz)):(w.setCell ⟨b,off,none⟩ x).heap[b]? =some (Obj.cells (c.setIfInBounds off x) T fz):=by
  simp only[World.setCell,Array.getElem?_modify,if_pos,h,Option.map_some,Option.isSome_none,Bool.false_eq_true,if_false]
theorem Xh {w:World} {o:Ow} {a:Addr} (x:Value) (ha:o.A a.block):Ext w o (w.setCell a x) o where
  os:=rfl
  tape:=rfl
  output:=rfl
  same:=λb _ hb=>Ax w a x (λe=>hb (e▸ha))
  free:=λ_ _ h=>h
  iy:=λ_ _ _ h=>h
  size:=by simp[World.setCell]
  mono:=λ_=>⟨Nat.le_refl _,Nat.le_refl _⟩
  pJ:=λ_ _ _ h _=>h
  zs:=λ_ h=>h
theorem aa8 {i j i' j' sz o:Nat} (hj:j<sz) (la:j'<sz) (h:o+i*sz+j=o+i'*sz+j'):i=i'/\j=j':=by
  have h:i*sz+j=i'*sz+j':=by omega
  have J:(i*sz+j)/sz=i:=by rw[Nat.add_comm,Nat.add_mul_div_right _ _ (by omega),Nat.div_eq_of_lt hj];omega
  have h2:(i'*sz+j')/sz=i':=by rw[Nat.add_comm,Nat.add_mul_div_right _ _ (by omega),Nat.div_eq_of_lt la];omega
  have:i=i':=by rw[<-J,<-h2,h]
  subst this
  exact⟨rfl,by omega⟩
theorem oD {i j sz dh:Nat} (hi:i<dh) (hj:j<sz):i*sz+j<dh*sz:=by
  have:=Nat.mul_le_mul_right sz (show i+1<=dh by omega)
  rw[Nat.add_mul]at this
  omega
theorem bp.put {w:World} {o:Ow} {M:Mem} (hm:aR w o M) {k:Nat} {p:Path} {L:Loc} (hL:o.β k p=some L) {i j:Nat} (hi:i<L.dh) (hj:j<L.sz) {x:Value} {e':bk}
    (he:e'.rs=(ae M k).rs/\e'.ds=(ae M k).ds/\e'.hl=(ae M k).hl) (uF: ∀l',e'.b= .cells l'-> ∃l,(ae M k).b= .cells l)
    (gM: ∀q r,gu (ae M k).b q=some r-> ∃r',gu e'.b q=some r'/\r'.sz=r.sz/\r'.n=r.n/\ ∀a,a<r.n-> ∀b,b<r.sz->
     ((q=p/\a=i/\b=j)-> ∀w',Ext w o w' o->iN w' o (ae M k).hl k q a b (r'.f a b) x)/\(¬(q=p/\a=i/\b=j)-> ∀w' y,iN w' o (ae M k).hl k q a b (r.f a b) y->iN w' o (ae M k).hl k q a b (r'.f a b) y)):
    bp w o M (w.setCell ⟨L.b,L.o+i*L.sz+j,none⟩ x) o ((k,e')::M):=by
  have hA:o.A L.b:=(hm.own _) ⟨k,p,L,hL,rfl⟩
  have bM:=Xh (w:=w) (o:=o) (a:=⟨L.b,L.o+i*L.sz+j,none⟩) x hA
  refine⟨bM,?_,hm.own,λb h=>by simpa [World.setCell]using hm.fg b h,hm.dj,λb h=>by simpa [World.setCell]using hm.gJ b h,hm.inj,λk p L h=>by simpa [World.setCell]using hm.low k p L h,?_,?_,?_⟩
  · rw[hm.cur];exact(ya he.1 he.2.1).symm
  · intro k1 p1 L1 J
    obtain⟨r,e1,e2,e3,e4⟩:=hm.row k1 p1 L1 J
    by_cases hk:k1=k
    · subst hk
      obtain⟨r',f1,f2,f3,f4⟩:=gM p1 r e1
      refine⟨r',by unfold rowAt;rw[dp];exact f1,f2.trans e2,f3.trans e3,?_⟩
      rw[dp,he.2.2]
      obtain⟨c,T,g1,g2,g3,g4⟩:=e4
      by_cases hp:p1=p
      · subst hp
        obtain rfl:L1=L:=Option.some.inj (J.symm.trans hL)
        refine⟨c.setIfInBounds (L1.o+i*L1.sz+j) x,T,Mc g1,by simpa using g2,g3,λa ha b hb=>?_⟩
        obtain⟨y,y1,y2⟩:=g4 a ha b hb
        have av:L1.o+a*L1.sz+b<c.size:=(Array.getElem?_eq_some_iff.1 y1).1
        by_cases nM:a=i/\b=j
        · obtain⟨rfl,rfl⟩:=nM
          exact⟨x,by rw[Array.getElem?_setIfInBounds_self_of_lt av],(f4 a (by rw[e3];exact ha) b (by rw[e2];exact hb)).1 ⟨rfl,rfl,rfl⟩ _ bM⟩
        · refine⟨y,?_,(f4 a (by rw[e3];exact ha) b (by rw[e2];exact hb)).2 (λh=>nM h.2) _ y (y2.ext bM rfl (λ_=>rfl))⟩
          rw[Array.getElem?_setIfInBounds_ne]
          · exact y1
          · intro e
            obtain⟨h5,h6⟩:=aa8 hj hb e
            exact nM ⟨h5.symm,h6.symm⟩
      · have ba:L1.b≠L.b:=λe=>hp (hm.inj _ _ _ _ _ _ J hL e).2
        refine⟨c,T,(Ax w _ x ba).trans g1,g2,g3,λa ha b hb=>?_⟩
        obtain⟨y,y1,y2⟩:=g4 a ha b hb
        exact⟨y,y1,(f4 a (by rw[e3];exact ha) b (by rw[e2];exact hb)).2 (λh=>hp h.1) _ y (y2.ext bM rfl (λ_=>rfl))⟩
    · have ba:L1.b≠L.b:=λe=>hk (hm.inj _ _ _ _ _ _ J hL e).1
      refine⟨r,by unfold rowAt;rw[cC (Ne.symm hk)];exact e1,e2,e3,?_⟩
      rw[cC (Ne.symm hk)]
      exact e4.ext bM rfl (λ_=>rfl) (Ax w _ x ba)
  · intro k1 l h
    by_cases hk:k1=k
    · subst hk
      rw[dp]at h
      obtain⟨l0,h0⟩:=uF l h
      exact hm.live k1 l0 h0
    · rw[cC (Ne.symm hk)]at h
      exact hm.live k1 l h
  · intro k1 i1 j1 h
    by_cases hk:k1=k
    · subst hk;rw[dp,he.2.2]at h;exact hm.fm _ _ _ h
    · rw[cC (Ne.symm hk)]at h;exact hm.fm _ _ _ h
theorem bp.putCells {w:World} {o:Ow} {M:Mem} (hm:aR w o M) {k:Nat} {l:List SV} (hb:(ae M k).b= .cells l) {L:Loc} (hL:o.β k none=some L) {i j:Nat} (hi:i<L.dh) (hj:j<l.length) {v:SV} {x:Value} (hv:cW v=false) (hx:Den w o v x):
    bp w o M (w.setCell ⟨L.b,L.o+i*L.sz+j,none⟩ x) o ((k,{ae M k with b:= .cells (l.set j v)})::M):=by
  obtain⟨r,e1,e2,e3,e4⟩:=hm.row k none L hL
  have e1':=e1
  unfold rowAt at e1
  rw[hb]at e1
  obtain rfl:=Option.some.inj e1
  refine bp.put hm hL hi (by rw[<-e2];exact hj) ⟨rfl,rfl,rfl⟩ (λ_ _=>⟨l,hb⟩) ?_
  intro q r hr
  rw[hb]at hr
  cases q with
  |none=>
   obtain rfl:=Option.some.inj hr
   refine⟨⟨(l.set j v).length,1,λ_ q=>aL (l.set j v) q⟩,rfl,by simp,rfl,λa ha b dC=>⟨?_,?_⟩⟩
   · rintro ⟨_,rfl,rfl⟩ w' oT
     have:aL (l.set b v) b=v:=by simp[aL,List.getD_eq_getElem?_getD,dC]
     show cI _ _ _ _ _ _ (aL (l.set b v) b) _
     rw[this,gr hv]
     exact hx.ext oT
   · intro ba w' y hy
     have FL:i=0:=by
       have:L.dh=1:=e3.symm
       omega
     have ha0:a=0:=by simp at ha;omega
     have kE:b≠j:=λe=>ba ⟨rfl,by omega,e⟩
     have:aL (l.set j v) b=aL l b:=by simp[aL,List.getD_eq_getElem?_getD,List.getElem?_set_ne (Ne.symm kE)]
     show cI _ _ _ _ _ _ (aL (l.set j v) b) _
     rw[this]
     exact hy
  |some ij=>obtain⟨i',j'⟩:=ij;cases hr
theorem wq {r:Row} {i j i' j':Nat} {v:SV} (h:j'≠j):(r.set i j v).f i' j'=r.f i' j':=by
  have:Nat.beq j' j=false:=by
    cases hb:Nat.beq j' j
    · rfl
    · exact absurd (Nat.eq_of_beq_eq_true hb) h
  simp only[Row.set,this]
theorem wo {r:Row} {i j i':Nat} {v:SV}:(r.set i j v).f i' j=jC (Nat.beq i' i) v (r.f i' j):=by simp[Row.set]
theorem Xi {r:Row} {i j:Nat} (h:cW (r.f i j)=false):inner r i j=none:=by
  unfold inner
  split
  · next e=>rw[e]at h;cases h
  · rfl
theorem bp.putRow {w:World} {o:Ow} {M:Mem} (hm:aR w o M) {k sz n:Nat} {f:Nat->Nat->SV} (hb:(ae M k).b= .row sz n f) {L:Loc} (hL:o.β k none=some L) {i j:Nat} (hi:i<L.dh) (hj:j<sz) {v:SV} {x:Value} (hv:cW v=false) (hx:Den w o v x)
    (th: ∀i',cW (f i' j)=false):
    bp w o M (w.setCell ⟨L.b,L.o+i*L.sz+j,none⟩ x) o ((k,{ae M k with b:= .row sz n ((⟨sz,n,f⟩:Row).set i j v).f})::M):=by
  obtain⟨r,e1,e2,e3,e4⟩:=hm.row k none L hL
  unfold rowAt at e1
  rw[hb]at e1
  obtain rfl:=Option.some.inj e1
  have E1: ∀i',cW (((⟨sz,n,f⟩:Row).set i j v).f i' j)=false:=λi'=>by rw[wo,GA hv];exact GB _ _ _
  refine bp.put hm hL hi (by rw[<-e2];exact hj) ⟨rfl,rfl,rfl⟩ (λ_ h=>by cases h) ?_
  intro q r hr
  rw[hb]at hr
  cases q with
  |none=>
   obtain rfl:=Option.some.inj hr
   refine⟨⟨sz,n,((⟨sz,n,f⟩:Row).set i j v).f⟩,rfl,rfl,rfl,λa ha b dC=>⟨?_,?_⟩⟩
   · rintro ⟨_,rfl,rfl⟩ w' oT
     show cI _ _ _ _ _ _ (((⟨sz,n,f⟩:Row).set a b v).f a b) _
     rw[gr (E1 a),wo]
     exact t_ (λ_=>hx.ext oT) (λh=>by rw[Nat.beq_refl]at h;cases h)
   · intro ba w' y hy
     show cI _ _ _ _ _ _ (((⟨sz,n,f⟩:Row).set i j v).f a b) _
     by_cases kE:b=j
     · subst kE
       rw[gr (E1 a),wo]
       have hy:cI w' o (ae M k).hl k a b (f a b) y:=hy
       rw[gr (th a)]at hy
       exact t_ (λh=>absurd (Nat.eq_of_beq_eq_true h) (λe=>ba ⟨rfl,e,rfl⟩)) (λ_=>hy)
     · rw[wq kE];exact hy
  |some ij=>
   obtain⟨i',j'⟩:=ij
   have hr:inner ⟨sz,n,f⟩ i' j'=some r:=hr
   have tI:j'≠j:=by
     intro e
     subst e
     rw[Xi (th i')]at hr
     cases hr
   refine⟨r,?_,rfl,rfl,λa ha b dC=>⟨?_,λ_ _ _ h=>h⟩⟩
   · show inner ⟨sz,n,((⟨sz,n,f⟩:Row).set i j v).f⟩ i' j'=some r
     unfold inner at hr⊢
     simp only[wq tI]
     exact hr
   · rintro ⟨h,_⟩;cases h
def wH (sz:Nat):SV->Bool
  | .il ia _ _=>Nat.beq ia sz
  |_=>false
theorem Hi {sz:Nat} {s:SV} (h:wH sz s=true): ∃n g,s= .il sz n g:=by
  unfold wH at h
  split at h
  · obtain rfl:=Nat.eq_of_beq_eq_true h;exact⟨_,_,rfl⟩
  · cases h
theorem bp.Zn {w:World} {o:Ow} {M:Mem} (hm:aR w o M) {k sz n:Nat} {f:Nat->Nat->SV} (hb:(ae M k).b= .row sz n f) {i0 j0:Nat} {bq n2:Nat} {g:Nat->Nat->SV} (hg:f i0 j0= .il bq n2 g)
    {L:Loc} (hL:o.β k (some (i0,j0))=some L) {i j:Nat} (hi:i<L.dh) (hj:j<bq) {v:SV} {x:Value} (hv:cW v=false) (hx:Den w o v x) (th: ∀i',wH bq (f i' j0)=true):
    bp w o M (w.setCell ⟨L.b,L.o+i*L.sz+j,none⟩ x) o ((k,{ae M k with b:= .row sz n ((⟨sz,n,f⟩:Row).set i0 j0 (.il bq n2 ((⟨bq,n2,g⟩:Row).set i j v).f)).f})::M):=by
  obtain⟨r,e1,e2,e3,e4⟩:=hm.row k _ L hL
  unfold rowAt at e1
  rw[hb]at e1
  have e1:inner ⟨sz,n,f⟩ i0 j0=some r:=e1
  unfold inner at e1
  simp only[hg]at e1
  obtain rfl:=Option.some.inj e1
  have tF: ∀i',∃n' g',f i' j0= .il bq n' g'/\((⟨sz,n,f⟩:Row).set i0 j0 (.il bq n2 ((⟨bq,n2,g⟩:Row).set i j v).f)).f i' j0= .il bq (bif Nat.beq i' i0 then n2 else n') (λa b=>lQ (Nat.beq i' i0) (((⟨bq,n2,g⟩:Row).set i j v).f a b) (g' a b)):=by
    intro i'
    obtain⟨n',g',h⟩:=Hi (th i')
    exact⟨n',g',h,by rw[wo];show jC _ _ (f i' j0)=_;rw[h];simp[jC]⟩
  have FO: ∀i' n' g',f i' j0= .il bq n' g'->(bif Nat.beq i' i0 then n2 else n')=n':=by
    intro i' n' g' h
    cases hb:Nat.beq i' i0
    · rfl
    · obtain rfl:=Nat.eq_of_beq_eq_true hb
      rw[hg]at h;cases h;rfl
  refine bp.put hm hL hi (by rw[<-e2];exact hj) ⟨rfl,rfl,rfl⟩ (λ_ h=>by cases h) ?_
  intro q r hr
  rw[hb]at hr
  cases q with
  |none=>
   obtain rfl:=Option.some.inj hr
   refine⟨⟨sz,n,((⟨sz,n,f⟩:Row).set i0 j0 (.il bq n2 ((⟨bq,n2,g⟩:Row).set i j v).f)).f⟩,rfl,rfl,rfl,λa ha b dC=>⟨?_,?_⟩⟩
   · rintro ⟨h,_⟩;cases h
   · intro _ w' y hy
     show cI _ _ _ _ _ _ (((⟨sz,n,f⟩:Row).set i0 j0 (.il bq n2 ((⟨bq,n2,g⟩:Row).set i j v).f)).f a b) _
     by_cases kE:b=j0
     · subst kE
       obtain⟨n',g',J,h2⟩:=tF a
       rw[h2]
       have hy:cI w' o (ae M k).hl k a b (f a b) y:=hy
       rw[J]at hy
       show _\/_
       rw[FO a n' g' J]
       exact hy
     · rw[wq kE];exact hy
  |some ij=>
   obtain⟨i',j'⟩:=ij
   have hr:inner ⟨sz,n,f⟩ i' j'=some r:=hr
   by_cases tI:j'=j0
   · subst tI
     obtain⟨n',g',J,h2⟩:=tF i'
     unfold inner at hr
     simp only[J]at hr
     obtain rfl:=Option.some.inj hr
     refine⟨⟨bq,bif Nat.beq i' i0 then n2 else n',λa b=>lQ (Nat.beq i' i0) (((⟨bq,n2,g⟩:Row).set i j v).f a b) (g' a b)⟩,by show inner ⟨sz,n,_⟩ i' j'=_;unfold inner;simp only[h2],rfl,FO i' n' g' J,λa ha b dC=>⟨?_,?_⟩⟩
     · rintro ⟨hq,rfl,rfl⟩ w' oT
       simp only[Option.some.injEq,Prod.mk.injEq,and_true]at hq
       subst hq
       refine AW (λ_=>?_) (λh=>by rw[Nat.beq_refl]at h;cases h)
       rw[wo]
       exact t_ (λ_=>hx.ext oT) (λh=>by rw[Nat.beq_refl]at h;cases h)
     · intro ba w' y hy
       refine AW (λh=>?_) (λ_=>hy)
       have h:=Nat.eq_of_beq_eq_true h
       subst h
       rw[hg]at J;cases J
       by_cases kE:b=j
       · subst kE
         rw[wo]
         exact t_ (λh=>absurd (Nat.eq_of_beq_eq_true h) (λe=>ba ⟨rfl,e,rfl⟩)) (λ_=>hy)
       · rw[wq kE];exact hy
   · refine⟨r,?_,rfl,rfl,λa ha b dC=>⟨?_,λ_ _ _ h=>h⟩⟩
     · show inner ⟨sz,n,_⟩ i' j'=some r
       unfold inner at hr⊢
       simp only[wq tI]
       exact hr
     · rintro ⟨h,_⟩
       simp only[Option.some.injEq,Prod.mk.injEq]at h
       exact absurd h.2 tI
end Go.Sy
set_option linter.unusedVariables false
set_option linter.unusedSimpArgs false
namespace Go.Sy
open Go.RowKit
def Ow.re (o:Ow) (β:Nat->Path->Option Loc) (M:Mem):Ow:=⟨λb=> ∃k p L,β k p=some L/\L.b=b,o.Z,β,dF M⟩
theorem bp.re {w:World} {o:Ow} {M:Mem} (hm:aR w o M) {β:Nat->Path->Option Loc} {M':Mem} (φ:Nat->Path->Nat×Path)
    (J: ∀k p L,β k p=some L-> ∃L0,o.β (φ k p).1 (φ k p).2=some L0/\L.b=L0.b)
    (h2: ∀k p L k' p' L',β k p=some L->β k' p'=some L'->φ k p=φ k' p'->k=k'/\p=p')
    (bM:Ext w o w (o.re β M')) (h3: ∀k p L,β k p=some L-> ∃r,rowAt M' k p=some r/\r.sz=L.sz/\r.n=L.dh/\qE w (o.re β M') (ae M' k).hl k p L r)
    (h4: ∀k l,(ae M' k).b= .cells l-> ∃L,β k none=some L) (h5: ∀k i j,(ae M' k).hl=some (i,j)->β k (some (i,j))=none):bp w o M w (o.re β M') M':=by
  refine⟨bM,rfl,λ_ h=>h,?_,?_,hm.gJ,?_,?_,h3,h4,h5⟩
  · rintro b ⟨k,p,L,e1,rfl⟩
    obtain⟨L0,f1,f2⟩:=J _ _ _ e1
    rw[f2];exact hm.low _ _ _ f1
  · rintro b ⟨k,p,L,e1,rfl⟩
    obtain⟨L0,f1,f2⟩:=J _ _ _ e1
    rw[f2];exact hm.dj _ (hm.own _ ⟨_,_,_,f1,rfl⟩)
  · intro k p L k' p' L' e1 e2 e
    obtain⟨L0,f1,f2⟩:=J _ _ _ e1
    obtain⟨L1,g1,g2⟩:=J _ _ _ e2
    obtain⟨q1,q2⟩:=hm.inj _ _ _ _ _ _ f1 g1 (by rw[<-f2,<-g2];exact e)
    exact h2 _ _ _ _ _ _ e1 e2 (Prod.ext q1 q2)
  · intro k p L e1
    obtain⟨L0,f1,f2⟩:=J _ _ _ e1
    rw[f2];exact hm.low _ _ _ f1
theorem ED {w:World} {o:Ow} {M M':Mem} (hm:aR w o M) {β:Nat->Path->Option Loc} (J: ∀k p L,β k p=some L-> ∃k0 p0 L0,o.β k0 p0=some L0/\L.b=L0.b)
    (h2: ∀k,(ae M k).rs<=(ae M' k).rs/\(ae M k).ds<=(ae M' k).ds) (h3: ∀k p L,o.β k p=some L->st (dF M') k p=st (dF M) k p->β k p=some L):Ext w o w (o.re β M') where
  os:=rfl
  tape:=rfl
  output:=rfl
  same:=λ_ _ _=>rfl
  free:=λb _ h h'=>by
    obtain⟨k,p,L,e1,e2⟩:=h'
    obtain⟨k0,p0,L0,f1,f2⟩:=J _ _ _ e1
    exact h ((hm.own b) ⟨k0,p0,L0,f1,by rw[<-f2];exact e2⟩)
  iy:=λ_ _ _ h=>h
  size:=Nat.le_refl _
  mono:=λk=>by rw[hm.cur];exact h2 k
  pJ:=λk p L h e=>h3 k p L h (by rw[hm.cur]at e;exact e)
  zs:=λ_ h=>h
def kill (M:Mem) (k:Nat):Mem:=(k,⟨(ae M k).rs+1,(ae M k).ds+1,none,.dead⟩)::M
theorem tW {M:Mem} {k:Nat}:ae (kill M k) k=⟨(ae M k).rs+1,(ae M k).ds+1,none,.dead⟩:=dp
theorem ki {M:Mem} {k k':Nat} (h:k≠k'):ae (kill M k) k'=ae M k':=cC h
theorem bp.kill {w:World} {o:Ow} {M:Mem} (hm:aR w o M) (k:Nat): ∃o',bp w o M w o' (kill M k)/\(∀k' p,k'≠k->o'.β k' p=o.β k' p)/\(∀p,o'.β k p=none):=by
  refine⟨o.re (λk' p=>if k'=k then none else o.β k' p) (Sy.kill M k),?_,λk' p h=>if_neg h,λp=>if_pos rfl⟩
  have cZ: ∀{k' p L},(if k'=k then none else o.β k' p)=some L->k'≠k/\o.β k' p=some L:=by
    intro k' p L h
    split at h
    · cases h
    · next ba=>exact⟨ba,h⟩
  have bM:Ext w o w (o.re (λk' p=>if k'=k then none else o.β k' p) (Sy.kill M k)):=by
    refine ED hm (λk' p L h=>⟨k',p,L,(cZ h).2,rfl⟩) (λk'=>?_) (λk' p L h e=>?_)
    · by_cases hk:k=k'
      · subst hk;rw[tW];exact⟨Nat.le_succ _,Nat.le_succ _⟩
      · rw[ki hk];exact⟨Nat.le_refl _,Nat.le_refl _⟩
    · show(if k'=k then none else o.β k' p)=some L
      rw[if_neg]
      · exact h
      · intro hk
        subst hk
        cases p<;>simp[st,dF,tW]at e
  refine bp.re hm (λk p=>(k,p)) (λk' p L h=>⟨L,(cZ h).2,rfl⟩) (λ_ _ _ _ _ _ _ _ e=>by simpa using e) bM (λk' p L h=>?_) (λk' l h=>?_) (λk' i j h=>?_)
  · obtain⟨ba,h⟩:=cZ h
    obtain⟨r,e1,e2,e3,e4⟩:=hm.row _ _ _ h
    refine⟨r,by unfold rowAt;rw[ki (Ne.symm ba)];exact e1,e2,e3,?_⟩
    rw[ki (Ne.symm ba)]
    refine e4.ext bM ?_ (λq=>if_neg ba) rfl
    show(dF _ k').2=_
    rw[hm.cur]
    simp only[dF,ki (Ne.symm ba)]
  · have ba:k≠k':=by
      intro e;subst e;rw[tW]at h;cases h
    rw[ki ba]at h
    obtain⟨L,hL⟩:=hm.live _ _ h
    exact⟨L,(if_neg (Ne.symm ba)).trans hL⟩
  · by_cases hk:k=k'
    · subst hk;exact if_pos rfl
    · rw[ki hk]at h
      exact(if_neg (Ne.symm hk)).trans (hm.fm _ _ _ h)
/-! ### a slice is taken out of its cell -/
def dM:SV->SV
  | .il _ _ _=> .aF
  |s=>s
theorem AA (s:SV):cW (dM s)=false:=by cases s<;>rfl
theorem vI {w:World} {o:Ow} {s:SV} {u:Value} (h:Den w o s u):Den w o (dM s) u:=by cases s<;>first|exact h|trivial
def nq (M:Mem) (k i j:Nat):Mem:=(k,⟨(ae M k).rs,(ae M k).ds+1,some (i,j),(ae M k).b⟩)::M
theorem Me {M:Mem} {k i j:Nat}:ae (nq M k i j) k=⟨(ae M k).rs,(ae M k).ds+1,some (i,j),(ae M k).b⟩:=dp
theorem De {M:Mem} {k i j k':Nat} (h:k≠k'):ae (nq M k i j) k'=ae M k':=cC h
theorem bp.Rr {w:World} {o:Ow} {M:Mem} (hm:aR w o M) {k r i j:Nat} (lh:k≠r) (hf:zb o M r) (kZ:(ae M k).hl=none) {sz n bq n2:Nat} {f g:Nat->Nat->SV} (hb:(ae M k).b= .row sz n f) (hg:f i j= .il bq n2 g):
    ∃o',bp w o M w o' (fresh (nq M k i j) r (.row bq n2 λa b=>dM (g a b)))/\o'.β r none=o.β k (some (i,j))/\(∀p,p≠none->o'.β r p=none)/\(∀k' p,k'≠r->(k',p)≠(k,some (i,j))->o'.β k' p=o.β k' p):=by
  let β:Nat->Path->Option Loc:=λk' p=>if k'=r then(if p=none then o.β k (some (i,j))else none)else if k'=k/\p=some (i,j)then none else o.β k' p
  let φ:Nat->Path->Nat×Path:=λk' p=>if k'=r then(k,some (i,j))else(k',p)
  have cZ: ∀{k' p L},β k' p=some L->(k'=r/\p=none/\o.β k (some (i,j))=some L)\/(k'≠r/\ ¬(k'=k/\p=some (i,j))/\o.β k' p=some L):=by
    intro k' p L h
    by_cases J:k'=r
    · simp only[β,if_pos J]at h
      by_cases h2:p=none
      · simp only[if_pos h2]at h;exact .inl ⟨J,h2,h⟩
      · simp only[if_neg h2]at h;cases h
    · simp only[β,if_neg J]at h
      by_cases h2:k'=k/\p=some (i,j)
      · simp only[if_pos h2]at h;cases h
      · simp only[if_neg h2]at h;exact .inr ⟨J,h2,h⟩
  have jG: ∀k',k'≠r->k'≠k->ae (fresh (nq M k i j) r (.row bq n2 λa b=>dM (g a b))) k'=ae M k':=λk' J h2=>by
    unfold fresh;rw[cC (Ne.symm J),De (Ne.symm h2)]
  have gN:ae (fresh (nq M k i j) r (.row bq n2 λa b=>dM (g a b))) k=⟨(ae M k).rs,(ae M k).ds+1,some (i,j),(ae M k).b⟩:=by
    unfold fresh;rw[cC (Ne.symm lh),Me]
  have kq:ae (fresh (nq M k i j) r (.row bq n2 λa b=>dM (g a b))) r=⟨(ae M r).rs,(ae M r).ds,none,.row bq n2 λa b=>dM (g a b)⟩:=by
    unfold fresh;rw[dp,De lh]
  have B2: ∀k' p L,β k' p=some L-> ∃L0,o.β (φ k' p).1 (φ k' p).2=some L0/\L.b=L0.b:=by
    intro k' p L h
    rcases cZ h with⟨rfl,rfl,h3⟩|⟨J,h2,h3⟩
    · exact⟨L,by simpa [φ]using h3,rfl⟩
    · exact⟨L,by simpa [φ,J]using h3,rfl⟩
  have bM:Ext w o w (o.re β (fresh (nq M k i j) r (.row bq n2 λa b=>dM (g a b)))):=by
    refine ED hm (λk' p L h=>let⟨L0,e1,e2⟩:=B2 k' p L h;⟨_,_,L0,e1,e2⟩) (λk'=>?_) (λk' p L h e=>?_)
    · by_cases J:k'=r
      · subst J;rw[kq];exact⟨Nat.le_refl _,Nat.le_refl _⟩
      · by_cases h2:k'=k
        · subst h2;rw[gN];exact⟨Nat.le_refl _,Nat.le_succ _⟩
        · rw[jG k' J h2];exact⟨Nat.le_refl _,Nat.le_refl _⟩
    · have J:k'≠r:=by intro e;subst e;rw[hf.2.2]at h;cases h
      simp only[β,if_neg J]
      rw[if_neg]
      · exact h
      · rintro ⟨rfl,rfl⟩
        simp[st,dF,gN]at e
  refine⟨o.re β _,bp.re hm φ B2 ?_ bM ?_ ?_ ?_,?_,?_,?_⟩
  · intro k1 p1 L1 k2 p2 L2 e1 e2 e
    rcases cZ e1 with⟨rfl,rfl,_⟩|⟨J,h2,_⟩<;>rcases cZ e2 with⟨rfl,rfl,_⟩|⟨g1,g2,_⟩
    · exact⟨rfl,rfl⟩
    · simp only[φ,if_true,if_neg g1,Prod.mk.injEq]at e;exact absurd ⟨e.1.symm,e.2.symm⟩ g2
    · simp only[φ,if_true,if_neg J,Prod.mk.injEq]at e;exact absurd e h2
    · simp only[φ,if_neg J,if_neg g1,Prod.mk.injEq]at e;exact e
  · intro k' p L h
    rcases cZ h with⟨rfl,rfl,h5⟩|⟨J,h2,h5⟩
    · obtain⟨r1,e1,e2,e3,c,T,e4,e5,e6,e7⟩:=hm.row _ _ _ h5
      unfold rowAt at e1
      rw[hb]at e1
      have e1:inner ⟨sz,n,f⟩ i j=some r1:=e1
      unfold inner at e1
      simp only[hg]at e1
      obtain rfl:=Option.some.inj e1
      refine⟨⟨bq,n2,λa b=>dM (g a b)⟩,by unfold rowAt;rw[kq];rfl,e2,e3,c,T,e4,e5,e6,λa ha b dC=>?_⟩
      obtain⟨x,x1,x2⟩:=e7 a ha b dC
      refine⟨x,x1,?_⟩
      have x2:Den w o (g a b) x:=x2
      have x3:=x2.ext bM
      rw[kq]
      show cI _ _ none k' a b (dM (g a b)) x
      rw[gr (AA _)]
      exact vI x3
    · obtain⟨r1,e1,e2,e3,e4⟩:=hm.row _ _ _ h5
      by_cases hk:k'=k
      · subst hk
        refine⟨r1,by unfold rowAt;rw[gN];exact e1,e2,e3,?_⟩
        rw[gN]
        obtain⟨c,T,f1,f2,f3,f4⟩:=e4
        refine⟨c,T,f1,f2,f3,λa ha b dC=>?_⟩
        obtain⟨x,x1,x2⟩:=f4 a ha b dC
        refine⟨x,x1,?_⟩
        cases p with
        |some _=>exact Den.ext bM x2
        |none=>
         have x2:cI w o (ae M k').hl k' a b (r1.f a b) x:=x2
         show cI _ _ (some (i,j)) k' a b (r1.f a b) x
         generalize r1.f a b=s1 at x2⊢
         cases hi:cW s1 with
         |false=>rw[gr hi]at*;exact x2.ext bM
         |true=>
          cases s1 with
          |il s5 n5 g5=>
           rcases x2 with x2|⟨⟨q,cap,y1,y2,y3,y4⟩,y5⟩
           · rw[kZ]at x2;cases x2
           · by_cases nM:(a,b)=(i,j)
             · simp only[Prod.mk.injEq]at nM;obtain⟨rfl,rfl⟩:=nM;exact .inl rfl
             · have nJ:(o.re β (fresh (nq M k' i j) r (.row bq n2 λa b=>dM (g a b)))).β k' (some (a,b))=o.β k' (some (a,b)):=by
                 show β k' (some (a,b))=_
                 simp only[β,if_neg J]
                 rw[if_neg]
                 rintro ⟨_,e⟩
                 exact nM (Option.some.inj e)
               exact .inr ⟨⟨q,cap,y1,y2,y3,by rw[nJ];exact y4⟩,by rw[nJ];exact y5⟩
          |_=>cases hi
      · refine⟨r1,by unfold rowAt;rw[jG k' J hk];exact e1,e2,e3,?_⟩
        rw[jG k' J hk]
        refine e4.ext bM ?_ (λq=>?_) rfl
        · show(dF _ k').2=_
          rw[hm.cur];simp only[dF,jG k' J hk]
        · show β k' q=_
          simp only[β,if_neg J]
          rw[if_neg (λh=>hk h.1)]
  · intro k' l h
    by_cases J:k'=r
    · subst J;rw[kq]at h;cases h
    · by_cases h2:k'=k
      · subst h2;rw[gN,hb]at h;cases h
      · rw[jG k' J h2]at h
        obtain⟨L,hL⟩:=hm.live _ _ h
        refine⟨L,?_⟩
        simp only[β,if_neg J]
        rw[if_neg (λh=>h2 h.1)]
        exact hL
  · intro k' a b h
    by_cases J:k'=r
    · subst J;rw[kq]at h;cases h
    · simp only[β,if_neg J]
      by_cases h2:k'=k
      · subst h2
        rw[gN]at h
        rw[if_pos ⟨rfl,h.symm⟩]
      · rw[jG k' J h2]at h
        rw[if_neg (λh=>h2 h.1)]
        exact hm.fm _ _ _ h
  · show β r none=_
    simp[β]
  · intro p hp
    show β r p=none
    simp[β,hp]
  · intro k' p J h2
    show β k' p=_
    simp only[β,if_neg J]
    rw[if_neg]
    rintro ⟨rfl,rfl⟩
    exact h2 rfl
theorem bp.dummy {w:World} {o:Ow} {M:Mem} (hm:aR w o M) {r:Nat} (hf:zb o M r) (sz n:Nat) (f:Nat->Nat->SV):bp w o M w o (fresh M r (.row sz n f)):=by
  refine⟨Ext.refl _ _,?_,hm.own,hm.fg,hm.dj,hm.gJ,hm.inj,hm.low,λk p L h=>?_,λk l h=>?_,λk i j h=>?_⟩
  · rw[hm.cur];exact(ya (M:=M) (k:=r) (e:=⟨(ae M r).rs,(ae M r).ds,none,.row sz n f⟩) rfl rfl).symm
  · have ba:r≠k:=λe=>by subst e;rw[hf.2.2]at h;cases h
    obtain⟨r1,e1,e2,e3,e4⟩:=hm.row k p L h
    exact⟨r1,by unfold rowAt fresh;rw[cC ba];exact e1,e2,e3,by unfold fresh;rw[cC ba];exact e4⟩
  · have ba:r≠k:=λe=>by subst e;unfold fresh at h;rw[dp]at h;cases h
    unfold fresh at h;rw[cC ba]at h
    exact hm.live k l h
  · by_cases ba:r=k
    · subst ba;exact hf.2.2 _
    · unfold fresh at h;rw[cC ba]at h
      exact hm.fm _ _ _ h
def fill (M:Mem) (k i j r sz n:Nat) (f:Nat->Nat->SV) (bq n2:Nat) (g:Nat->Nat->SV):Mem:=
  (k,⟨(ae M k).rs,(ae M k).ds+1,none,.row sz n ((⟨sz,n,f⟩:Row).set i j (.il bq n2 g)).f⟩)::kill M r
theorem bp.fill {w:World} {o:Ow} {M:Mem} (hm:aR w o M) {k r i j:Nat} (lh:k≠r) (kZ:(ae M k).hl=some (i,j)) {sz n bq n2 nr:Nat} {f g:Nat->Nat->SV} (hb:(ae M k).b= .row sz n f) (th: ∀i',wH bq (f i' j)=true)
    (hr:(ae M r).b= .row bq nr g) {x:Value} (hx:Head o r none 0 n2 x) {L:Loc} (hL:o.β k none=some L) (hi:i<L.dh) (hj:j<sz):
    ∃o',bp w o M (w.setCell ⟨L.b,L.o+i*L.sz+j,none⟩ x) o' (Sy.fill M k i j r sz n f bq n2 g)/\(∀k' p,k'≠r->(k',p)≠(k,some (i,j))->o'.β k' p=o.β k' p)/\(∀p,o'.β r p=none):=by
  obtain⟨nh,gh,dn⟩:=Hi (th i)
  obtain⟨r0,e1,e2,e3,_⟩:=hm.row k none L hL
  unfold rowAt at e1
  rw[hb]at e1
  obtain rfl:=Option.some.inj e1
  have s1:bp w o M (w.setCell ⟨L.b,L.o+i*L.sz+j,none⟩ x) o ((k,ae M k)::M):=by
    refine bp.put hm hL hi (by rw[<-e2];exact hj) ⟨rfl,rfl,rfl⟩ (λl h=>⟨l,h⟩) (λq r h=>⟨r,h,rfl,rfl,λa ha b dC=>⟨?_,λ_ _ _ h=>h⟩⟩)
    rintro ⟨rfl,rfl,rfl⟩ w' oT
    rw[hb]at h
    obtain rfl:=Option.some.inj h
    show cI _ _ _ _ _ _ (f a b) _
    rw[dn]
    exact .inl kZ
  have pO:=s1.mem
  have rO: ∀c T,(w.setCell ⟨L.b,L.o+i*L.sz+j,none⟩ x).heap[L.b]? =some (Obj.cells c T (0,0))->L.o+i*L.sz+j<c.size->c[L.o+i*L.sz+j]? =some x:=by
    intro c T h av
    obtain⟨_,_,_,_,c0,T0,f1,f2,f3,f4⟩:=hm.row k none L hL
    rw[Mc f1]at h
    obtain⟨rfl,_⟩:=Obj.cells.inj (Option.some.inj h)
    rw[Array.getElem?_setIfInBounds_self_of_lt (by simpa using av)]
  generalize hw1:w.setCell ⟨L.b,L.o+i*L.sz+j,none⟩ x=w1 at s1 pO rO
  let β:Nat->Path->Option Loc:=λk' p=>if k'=r then none else if k'=k/\p=some (i,j)then(o.β r none).map (λL=>{L with dh:=n2})else o.β k' p
  let φ:Nat->Path->Nat×Path:=λk' p=>if k'=k/\p=some (i,j)then(r,none)else(k',p)
  have cZ: ∀{k' p L'},β k' p=some L'->(k'=k/\p=some (i,j)/\ ∃L0,o.β r none=some L0/\L'={L0 with dh:=n2})\/(k'≠r/\ ¬(k'=k/\p=some (i,j))/\o.β k' p=some L'):=by
    intro k' p L' h
    by_cases J:k'=r
    · simp only[β,if_pos J]at h;cases h
    · simp only[β,if_neg J]at h
      by_cases h2:k'=k/\p=some (i,j)
      · rw[if_pos h2]at h
        cases rU:o.β r none with
        |none=>rw[rU]at h;cases h
        |some L0=>rw[rU]at h;exact .inl ⟨h2.1,h2.2,L0,rfl,(Option.some.inj h).symm⟩
      · rw[if_neg h2]at h;exact .inr ⟨J,h2,h⟩
  have gN:ae (Sy.fill M k i j r sz n f bq n2 g) k=⟨(ae M k).rs,(ae M k).ds+1,none,.row sz n ((⟨sz,n,f⟩:Row).set i j (.il bq n2 g)).f⟩:=dp
  have kq:ae (Sy.fill M k i j r sz n f bq n2 g) r=⟨(ae M r).rs+1,(ae M r).ds+1,none,.dead⟩:=by unfold Sy.fill;rw[cC lh,tW]
  have jG: ∀k',k'≠r->k'≠k->ae (Sy.fill M k i j r sz n f bq n2 g) k'=ae M k':=λk' J h2=>by unfold Sy.fill;rw[cC (Ne.symm h2),ki (Ne.symm J)]
  have sV: ∀k',ae ((k,ae M k)::M) k'=ae M k':=λk'=>by
    by_cases h:k=k'
    · subst h;rw[dp]
    · rw[cC h]
  have B2: ∀k' p L',β k' p=some L'-> ∃L0,o.β (φ k' p).1 (φ k' p).2=some L0/\L'.b=L0.b:=by
    intro k' p L' h
    rcases cZ h with⟨rfl,rfl,L0,h3,rfl⟩|⟨J,h2,h3⟩
    · exact⟨L0,by simpa [φ]using h3,rfl⟩
    · exact⟨L',by simpa [φ,h2]using h3,rfl⟩
  have bM:Ext w1 o w1 (o.re β (Sy.fill M k i j r sz n f bq n2 g)):=by
    refine ED pO (λk' p L' h=>let⟨L0,e1,e2⟩:=B2 k' p L' h;⟨_,_,L0,e1,e2⟩) (λk'=>?_) (λk' p L' h e=>?_)
    · rw[sV]
      by_cases J:k'=k
      · subst J;rw[gN];exact⟨Nat.le_refl _,Nat.le_succ _⟩
      · by_cases h2:k'=r
        · subst h2;rw[kq];exact⟨Nat.le_succ _,Nat.le_succ _⟩
        · rw[jG k' h2 J];exact⟨Nat.le_refl _,Nat.le_refl _⟩
    · have J:k'≠r:=by
        intro e;subst e
        cases p<;>simp[st,dF,kq,sV]at e
      simp only[β,if_neg J]
      rw[if_neg]
      · exact h
      · rintro ⟨rfl,rfl⟩
        simp[st,dF,gN,sV]at e
  have mD: ∀i',∃n' g',f i' j= .il bq n' g'/\((⟨sz,n,f⟩:Row).set i j (.il bq n2 g)).f i' j= .il bq (bif Nat.beq i' i then n2 else n') (λa b=>lQ (Nat.beq i' i) (g a b) (g' a b)):=by
    intro i'
    obtain⟨n',g',h⟩:=Hi (th i')
    exact⟨n',g',h,by rw[wo];show jC _ _ (f i' j)=_;rw[h];simp[jC]⟩
  refine⟨o.re β _,s1.trans (⟨bM,(bp.re pO φ B2 ?_ bM ?_ ?_ ?_).mem⟩:bp w1 o _ w1 _ _),?_,?_⟩
  · intro k1 p1 L1 k2 p2 L2 e1 e2 e
    rcases cZ e1 with⟨rfl,rfl,_⟩|⟨J,h2,_⟩<;>rcases cZ e2 with⟨rfl,rfl,_⟩|⟨g1,g2,_⟩
    · exact⟨rfl,rfl⟩
    · simp only[φ,if_neg g2,and_self,if_true,Prod.mk.injEq]at e;exact absurd e.1.symm g1
    · simp only[φ,if_neg h2,and_self,if_true,Prod.mk.injEq]at e;exact absurd e.1 J
    · simp only[φ,if_neg h2,if_neg g2,Prod.mk.injEq]at e;exact e
  · intro k' p L' h
    rcases cZ h with⟨rfl,rfl,L0,h5,rfl⟩|⟨J,h2,h5⟩
    · obtain⟨r1,e4,e5,e6,c,T,e7,e8,e9,rX⟩:=pO.row _ _ _ h5
      unfold rowAt at e4
      rw[sV,hr]at e4
      obtain rfl:=Option.some.inj e4
      obtain⟨n',g',g1,g2⟩:=mD i
      have Vy:n2<=L0.dh:=by
        obtain⟨q,cap,y1,y2,y3,y4⟩:=hx
        rcases y4 with rfl|⟨L2,y5,y6,y7,y8⟩
        · omega
        · obtain rfl:L0=L2:=Option.some.inj (h5.symm.trans y5)
          omega
      have Ja:inner ⟨sz,n,((⟨sz,n,f⟩:Row).set i j (.il bq n2 g)).f⟩ i j=some ⟨bq,bif Nat.beq i i then n2 else n',λa b=>lQ (Nat.beq i i) (g a b) (g' a b)⟩:=by
        unfold inner;simp only[g2]
      refine⟨⟨bq,bif Nat.beq i i then n2 else n',λa b=>lQ (Nat.beq i i) (g a b) (g' a b)⟩,by unfold rowAt;rw[gN];exact Ja,e5,by simp,c,T,e7,e8,?_,λa ha b dC=>?_⟩
      · have:=Nat.mul_le_mul_right L0.sz Vy
        show L0.o+n2*L0.sz<=L0.len
        omega
      · obtain⟨y,y1,y2⟩:=rX a (Nat.lt_of_lt_of_le ha Vy) b dC
        refine⟨y,y1,?_⟩
        rw[sV]at y2
        have y2:cI w1 o _ r a b (g a b) y:=y2
        show Den _ _ (lQ (Nat.beq i i) (g a b) (g' a b)) y
        refine AW (λ_=>?_) (λh=>by rw[Nat.beq_refl]at h;cases h)
        cases xu:cW (g a b)with
        |false=>rw[gr xu]at y2;exact y2.ext bM
        |true=>
         cases hs:g a b with
         |il _ _ _=>trivial
         |_=>rw[hs]at xu;cases xu
    · obtain⟨r1,e4,e5,e6,e7⟩:=pO.row _ _ _ h5
      by_cases hk:k'=k
      · subst hk
        unfold rowAt at e4
        rw[sV,hb]at e4
        cases p with
        |none=>
         obtain rfl:=Option.some.inj e4
         obtain rfl:L=L':=Option.some.inj (hL.symm.trans h5)
         refine⟨⟨sz,n,((⟨sz,n,f⟩:Row).set i j (.il bq n2 g)).f⟩,by unfold rowAt;rw[gN];rfl,e5,e6,?_⟩
         rw[gN]
         obtain⟨c,T,f1,f2,f3,f4⟩:=e7
         refine⟨c,T,f1,f2,f3,λa ha b dC=>?_⟩
         obtain⟨y,y1,y2⟩:=f4 a ha b dC
         refine⟨y,y1,?_⟩
         rw[sV,kZ]at y2
         have y2:cI w1 o _ k' a b (f a b) y:=y2
         show cI _ _ none k' a b (((⟨sz,n,f⟩:Row).set i j (.il bq n2 g)).f a b) y
         by_cases nM:a=i/\b=j
         · obtain⟨rfl,rfl⟩:=nM
           obtain⟨n',g',g1,g2⟩:=mD a
           rw[g2]
           obtain rfl:y=x:=Option.some.inj (y1.symm.trans (rO c T f1 (Array.getElem?_eq_some_iff.1 y1).1))
           refine .inr ⟨?_,?_⟩
           · rw[Nat.beq_refl]
             obtain⟨q,cap,z1,z2,z3,z4⟩:=hx
             refine⟨q,cap,z1,z2,z3,z4.imp id ?_⟩
             rintro ⟨L2,z5,z6,z7,z8⟩
             refine⟨{L2 with dh:=n2},?_,z6,z7,by simp⟩
             show β k' (some (a,b))=_
             simp only[β,if_neg J,and_self,if_true,z5,Option.map_some]
           · intro L2 Kt
             have Kt:β k' (some (a,b))=some L2:=Kt
             rcases cZ Kt with⟨_,_,L3,z5,rfl⟩|⟨_,hh,_⟩
             · obtain⟨r3,u1,u2,u3,_⟩:=hm.row _ _ _ z5
               unfold rowAt at u1
               rw[hr]at u1
               obtain rfl:=Option.some.inj u1
               exact u2.symm
             · exact absurd ⟨rfl,rfl⟩ hh
         · by_cases kE:b=j
           · subst kE
             have CC:a≠i:=λe=>nM ⟨e,rfl⟩
             have Fl:Nat.beq a i=false:=by
               cases hq:Nat.beq a i
               · rfl
               · exact absurd (Nat.eq_of_beq_eq_true hq) CC
             obtain⟨n',g',g1,g2⟩:=mD a
             rw[g2,Fl]
             rw[g1]at y2
             rcases y2 with y2|⟨⟨q,cap,z1,z2,z3,z4⟩,z9⟩
             · simp only[Option.some.injEq,Prod.mk.injEq,and_true]at y2;exact absurd y2.symm CC
             · have nJ:β k' (some (a,b))=o.β k' (some (a,b)):=by
                 simp only[β,if_neg J]
                 rw[if_neg]
                 rintro ⟨_,e⟩
                 simp only[Option.some.injEq,Prod.mk.injEq,and_true]at e
                 exact CC e
               exact .inr ⟨⟨q,cap,z1,z2,z3,by show _\/ ∃L,β k' (some (a,b))=_/\_;rw[nJ];exact z4⟩,λL2 h2=>z9 L2 (by rw[<-nJ];exact h2)⟩
           · rw[wq kE]
             show cI _ _ none k' a b (f a b) y
             cases xu:cW (f a b)with
             |false=>rw[gr xu]at*;exact y2.ext bM
             |true=>
              generalize hs:f a b=s5 at y2⊢
              cases s5 with
              |il s6 n6 g6=>
               rcases y2 with y2|⟨⟨q,cap,z1,z2,z3,z4⟩,z9⟩
               · simp only[Option.some.injEq,Prod.mk.injEq]at y2;exact absurd y2.2.symm kE
               · have nJ:β k' (some (a,b))=o.β k' (some (a,b)):=by
                   simp only[β,if_neg J]
                   rw[if_neg]
                   rintro ⟨_,e⟩
                   simp only[Option.some.injEq,Prod.mk.injEq]at e
                   exact kE e.2
                 exact .inr ⟨⟨q,cap,z1,z2,z3,by show _\/ ∃L,β k' (some (a,b))=_/\_;rw[nJ];exact z4⟩,λL2 h2=>z9 L2 (by rw[<-nJ];exact h2)⟩
              |_=>rw[hs]at xu;cases xu
        |some ab=>
         obtain⟨a',b'⟩:=ab
         have e4:inner ⟨sz,n,f⟩ a' b'=some r1:=e4
         by_cases kE:b'=j
         · subst kE
           have CC:a'≠i:=λe=>h2 ⟨rfl,by rw[e]⟩
           have Fl:Nat.beq a' i=false:=by
             cases hq:Nat.beq a' i
             · rfl
             · exact absurd (Nat.eq_of_beq_eq_true hq) CC
           obtain⟨n',g',g1,g2⟩:=mD a'
           unfold inner at e4
           simp only[g1]at e4
           obtain rfl:=Option.some.inj e4
           have Ja:inner ⟨sz,n,((⟨sz,n,f⟩:Row).set i b' (.il bq n2 g)).f⟩ a' b'=some ⟨bq,bif Nat.beq a' i then n2 else n',λa b=>lQ (Nat.beq a' i) (g a b) (g' a b)⟩:=by
             unfold inner;simp only[g2]
           refine⟨⟨bq,bif Nat.beq a' i then n2 else n',λa b=>lQ (Nat.beq a' i) (g a b) (g' a b)⟩,by unfold rowAt;rw[gN];exact Ja,e5,by rw[Fl];exact e6,?_⟩
           obtain⟨c,T,f1,f2,f3,f4⟩:=e7
           refine⟨c,T,f1,f2,f3,λa ha b dC=>?_⟩
           obtain⟨y,y1,y2⟩:=f4 a ha b dC
           refine⟨y,y1,?_⟩
           have y2:Den w1 o (g' a b) y:=y2
           show Den _ _ (lQ (Nat.beq a' i) (g a b) (g' a b)) y
           exact AW (λh=>by rw[Fl]at h;cases h) (λ_=>y2.ext bM)
         · refine⟨r1,?_,e5,e6,?_⟩
           · unfold rowAt;rw[gN]
             show inner ⟨sz,n,((⟨sz,n,f⟩:Row).set i j (.il bq n2 g)).f⟩ a' b'=some r1
             unfold inner at e4⊢
             simp only[wq kE]
             exact e4
           · obtain⟨c,T,f1,f2,f3,f4⟩:=e7
             exact⟨c,T,f1,f2,f3,λa ha b dC=>let⟨y,y1,y2⟩:=f4 a ha b dC;⟨y,y1,Den.ext bM y2⟩⟩
      · refine⟨r1,by unfold rowAt at e4⊢;rw[jG k' J hk];rw[sV]at e4;exact e4,e5,e6,?_⟩
        rw[jG k' J hk]
        rw[sV]at e7
        refine e7.ext bM ?_ (λq=>?_) rfl
        · show(dF _ k').2=_
          rw[hm.cur];simp only[dF,jG k' J hk]
        · show β k' q=_
          simp only[β,if_neg J]
          rw[if_neg (λh=>hk h.1)]
  · intro k' l h
    by_cases J:k'=k
    · subst J;rw[gN]at h;cases h
    · by_cases h2:k'=r
      · subst h2;rw[kq]at h;cases h
      · rw[jG k' h2 J]at h
        obtain⟨L1,Kk⟩:=hm.live _ _ h
        refine⟨L1,?_⟩
        simp only[β,if_neg h2]
        rw[if_neg (λh=>J h.1)]
        exact Kk
  · intro k' a b h
    by_cases J:k'=k
    · subst J;rw[gN]at h;cases h
    · by_cases h2:k'=r
      · subst h2;simp[β]
      · rw[jG k' h2 J]at h
        simp only[β,if_neg h2]
        rw[if_neg (λh=>J h.1)]
        exact hm.fm _ _ _ h
  · intro k' p J h2
    show β k' p=_
    simp only[β,if_neg J]
    rw[if_neg]
    rintro ⟨rfl,rfl⟩
    exact h2 rfl
  · intro p
    show β r p=none
    simp[β]
end Go.Sy
set_option linter.unusedVariables false
set_option linter.unusedSimpArgs false
namespace Go.Sy
open Go.RowKit
structure Cx (P:Program) (w:World) (ω:Ow) (ρ:Operand->SV) (M:Mem) (a:Act):Prop where
  val: ∀x,Den w ω (ρ x) (a.eval x)
  mem:aR w ω M
inductive R where
  |bad
  |ok (s:SV)
  |dS (p:Prop) (s:SV)
  |mH (p:Prop) (s:SV)
def R.run (r:R) (K:SV->Prop):Prop:=
  match r with
  | .bad=>False
  | .ok s=>K s
  | .dS p s=>p/\K s
  | .mH p s=>p->K s
section
variable {P:Program} {w:World} {ω:Ow} {ρ:Operand->SV} {M:Mem} {a:Act}
def fR (P:Program) (w:World) (ω:Ow) (a:Act) (o:Oper) (K:SV->Prop):Prop:=
  ∃s v,(execOp a.eval o).run P w= .ok (.value v) w/\Den w ω s v/\K s
/-! ### loads -/
def oM:TypeDesc->Bool
  | .struct _| .array _ _=>true
  |_=>false
def cD (m:Nat->bk) (k s:Nat):Path->Bool
  |none=>Nat.beq s (m k).rs
  |some _=>Nat.beq s (m k).ds
def wg (e:bk) (k:Nat) (p:Path) (i j:Nat) (s:SV):Option SV:=
  match s with
  | .il _ n _=>
    match p,e.hl with
    |none,none=>some (.aO k e.ds (some (i,j)) 0 n)
    |none,some (_,j0)=>match Nat.beq j0 j with|false=>some (.aO k e.ds (some (i,j)) 0 n)|true=>none
    |some _,_=>some .aF
  |s=>some s
def B1:List (Option SV)->Option (List SV)
  | []=>some []
  |x::r=>match x,B1 r with|some x,some r=>some (x::r)|_,_=>none
theorem N5: ∀{l:List (Option SV)} {vs:List SV},B1 l=some vs->l=vs.map some
  | [],vs,h=>by simp[B1]at h;subst h;rfl
  |x::r,vs,h=>by
   unfold B1 at h
   split at h
   · next x' r' hr=>
     obtain rfl:=Option.some.inj h
     simp[N5 hr]
   · cases h
def sL (k:IntKind):List SV->Option (List Int)
  | []=>some []
  | .v (.int k' x)::r=>match we k' k,sL k r with|true,some l=>some (x::l)|_,_=>none
  |_::_=>none
def gQ (l:List Int) (z:Nat):Int:=l.getD z 0
def A9 (P:Program) (T:TypeId) (s:SV) (m:Nat->bk):R:=
  match P.info? T,P.underlying T with
  |some i,some d=>
   match s with
   | .ptr k st p ii j=>
     match cD m k st p,gu (m k).b p with
     |true,some r=>
      match oM d with
      |true=>
       match Nat.ble (j+i.size) r.sz with
       |true=>match B1 ((List.range i.size).map λq=>wg (m k) k p ii (j+q) (r.f ii (j+q)))with|some l=> .ok (.ag i.size (aL l))|none=> .bad
       |false=> .bad
      |false=>match Nat.blt j r.sz with|true=>(match wg (m k) k p ii j (r.f ii j)with|some s=> .ok s|none=> .bad)|false=> .bad
     |_,_=> .bad
   | .pe k st p ii j len z=>
     match cD m k st p,gu (m k).b p,d with
     |true,some r,.int kk=>
      match Nat.ble (j+len) r.sz,sL kk ((List.range len).map λq=>r.f ii (j+q))with
      |true,some l=> .ok (.v (.int kk (gQ l z)))
      |_,_=> .bad
     |_,_,_=> .bad
   | .pt _ n f=>
     match oM d with
     |true=>match Nat.ble i.size n with|true=> .ok (.ag i.size (out i.size f))|false=> .bad
     |false=>match Nat.blt 0 n with|true=> .ok (f 0)|false=> .bad
   |_=> .bad
  |_,_=> .bad
theorem Mb {T:TypeId} {i:TypeInfo} {d:TypeDesc} (hi:P.info? T=some i) (hu:P.underlying T=some d) (hd:oM d=true) (w:World) (ad:Addr) (f:Nat->Value)
    (h: ∀j,j<i.size->w.cell? (ad.add j)=some (f j)):(loadVar T ad).run P w= .ok (.agg ((List.range i.size).map f).toArray) w:=by
  have ha:(isAgg T).run P w= .ok true w:=by
    simp only[isAgg,Sem.run_bind,run_underlying hu,Result.andThen]
    cases d<;>simp[oM]at hd<;>simp
  have hs:(sizeOf T).run P w= .ok i.size w:=by simp[sizeOf,run_typeInfo w hi,Result.andThen]
  simp[loadVar,ha,hs,run_loadCells w ad i.size f h,Result.andThen]
theorem Dd {T:TypeId} {d:TypeDesc} (hu:P.underlying T=some d) (hd:oM d=false) (w:World) (ad:Addr) (x:Value)
    (h:w.cell? ad=some x):(loadVar T ad).run P w= .ok x w:=by
  have ha:(isAgg T).run P w= .ok false w:=by
    simp only[isAgg,Sem.run_bind,run_underlying hu,Result.andThen]
    cases d<;>simp[oM]at hd<;>simp
  simp[loadVar,ha,h,Result.andThen]
theorem ir (hm:aR w ω M) {k s:Nat} {p:Path} {R:Loc->Prop} (h:cD (ae M) k s p=true) (ha:At ω k s p R):s=st ω.cur k p/\ ∃L,ω.β k p=some L/\R L:=by
  have e:s=st ω.cur k p:=by
    rw[hm.cur]
    cases p with
    |none=>exact Nat.eq_of_beq_eq_true h
    |some _=>exact Nat.eq_of_beq_eq_true h
  rcases ha with ha|ha
  · omega
  · exact ha
theorem Hc (hm:aR w ω M) {k i j:Nat} {p:Path} {s s':SV} {x:Value} (hl:iN w ω (ae M k).hl k p i j s x) (h:wg (ae M k) k p i j s=some s'):Den w ω s' x:=by
  cases hi:cW s with
  |false=>
   have hd:Den w ω s x:=by
     cases p with
     |none=>have hl:cI _ _ _ _ _ _ _ _:=hl;rwa [gr hi]at hl
     |some _=>exact hl
   have:wg (ae M k) k p i j s=some s:=by cases s<;>first|rfl|cases hi
   rw[this]at h
   obtain rfl:=Option.some.inj h
   exact hd
  |true=>
   cases s with
   |il sz n g=>
    have key:p=none->(ae M k).hl≠some (i,j)->Den w ω (.aO k (ae M k).ds (some (i,j)) 0 n) x:=by
      rintro rfl ba
      have hl:_\/_:=hl
      rcases hl with hl|⟨hl,_⟩
      · exact absurd hl ba
      · exact .inr ⟨by rw[hm.cur];rfl,hl⟩
    unfold wg at h
    simp only at h
    split at h
    · next hh=>
      obtain rfl:=Option.some.inj h
      exact key rfl (by rw[hh];simp)
    · next i0 j0 hh=>
      split at h
      · next hb=>
        obtain rfl:=Option.some.inj h
        refine key rfl ?_
        rw[hh]
        intro e
        simp only[Option.some.injEq,Prod.mk.injEq]at e
        rw[e.2,Nat.beq_refl]at hb
        cases hb
      · cases h
    · obtain rfl:=Option.some.inj h
      trivial
   |_=>cases hi
theorem vG (hm:aR w ω M) {k:Nat} {p:Path} {L:Loc} {r:Row} (hL:ω.β k p=some L) (hr:gu (ae M k).b p=some r):
    r.sz=L.sz/\r.n=L.dh/\ ∀i,i<L.dh-> ∀j,j<L.sz-> ∃x,w.cell? ⟨L.b,L.o+i*L.sz+j,none⟩=some x/\iN w ω (ae M k).hl k p i j (r.f i j) x:=by
  obtain⟨r',J,h2,h3,c,T,h4,h5,h6,h7⟩:=hm.row k p L hL
  obtain rfl:r=r':=Option.some.inj (hr.symm.trans J)
  refine⟨h2,h3,λi hi j hj=>?_⟩
  obtain⟨x,e1,e2⟩:=h7 i hi j hj
  exact⟨x,by simp only[World.cell?,h4];simpa using e1,e2⟩
theorem xW: ∀{k:IntKind} {l:List SV} {zs:List Int},sL k l=some zs->l=zs.map λz=> .v (.int k z)
  |_,[],_,h=>by simp[sL]at h;subst h;rfl
  |k,s::r,zs,h=>by
   unfold sL at h
   split at h
   · next heq=>cases heq
   · next heq=>
     cases heq
     split at h
     · next hk hr=>
       obtain rfl:=Option.some.inj h
       obtain rfl:=AI hk
       rw[xW hr];rfl
     · cases h
   · cases h
theorem M6 (hm:aR w ω M) {T:TypeId} {sx:SV} {ux:Value} (hx:Den w ω sx ux) {K:SV->Prop} (he:(A9 P T sx (ae M)).run K):
    ∃s v ad,ux= .pointer (some ad)/\(loadVar T ad).run P w= .ok v w/\Den w ω s v/\K s:=by
  unfold A9 at he
  split at he
  · next i d hi hu=>
    split at he
    · next k st p ii j=>
      split at he
      · next r hs hr=>
        obtain⟨_,L,hL,wR,e⟩:=ir hm hs hx
        obtain⟨e1,e2,e3⟩:=vG hm hL hr
        split at he
        · next hd=>
          split at he
          · next hle=>
            have hle:=Nat.le_of_ble_eq_true hle
            split at he
            · next l hl=>
              have hl:=N5 hl
              have hlen:l.length=i.size:=by simpa using (congrArg List.length hl).symm
              have hex: ∀q,∃x,q<i.size->w.cell? ((⟨L.b,L.o+ii*L.sz+j,none⟩:Addr).add q)=some x/\Den w ω (l.getD q .aF) x:=by
                intro q
                by_cases hq:q<i.size
                · obtain⟨x,x1,x2⟩:=e3 ii wR (j+q) (by omega)
                  refine⟨x,λ_=>⟨by rw[lG,Nat.add_assoc];exact x1,?_⟩⟩
                  have:wg (ae M k) k p ii (j+q) (r.f ii (j+q))=some (l.getD q .aF):=by
                    have e:=congrArg (λl=>l[q]?) hl
                    simp only[List.getElem?_map,List.getElem?_range hq,Option.map_some]at e
                    rw[List.getElem?_eq_getElem (by omega)]at e
                    simp only[Option.map_some,Option.some.injEq]at e
                    rw[e,List.getD_eq_getElem?_getD,List.getElem?_eq_getElem (by omega)];rfl
                  exact Hc hm x2 this
                · exact⟨undef,λh=>absurd h hq⟩
              refine⟨_,_,_,e,Mb hi hu hd w _ (λq=>Classical.choose (hex q)) (λq hq=>(Classical.choose_spec (hex q) hq).1),?_,he⟩
              exact⟨_,rfl,by simp,λq hq=>⟨Classical.choose (hex q),by simp[hq],(Classical.choose_spec (hex q) hq).2⟩⟩
            · exact he.elim
          · exact he.elim
        · next hd=>
          split at he
          · next av=>
            have av:j<r.sz:=Nat.le_of_ble_eq_true av
            split at he
            · next s JZ=>
              obtain⟨x,x1,x2⟩:=e3 ii wR j (by omega)
              exact⟨_,x,_,e,Dd hu hd w _ _ x1,Hc hm x2 JZ,he⟩
            · exact he.elim
          · exact he.elim
      · exact he.elim
    · next k st p ii j len z=>
      split at he
      · next r kk hs hr=>
        obtain⟨_,L,hL,wR,hz,e⟩:=ir hm hs hx
        obtain⟨e1,e2,e3⟩:=vG hm hL hr
        split at he
        · next l hle hl=>
          have hle:=Nat.le_of_ble_eq_true hle
          have hl:=xW hl
          obtain⟨x,x1,x2⟩:=e3 ii wR (j+z) (by omega)
          have hq:=congrArg (λl=>l[z]?) hl
          simp only[List.getElem?_map,List.getElem?_range hz,Option.map_some]at hq
          cases mL:l[z]? with
          |none=>rw[mL]at hq;cases hq
          |some y=>
           rw[mL]at hq
           simp only[Option.map_some,Option.some.injEq]at hq
           rw[hq]at x2
           have hd:Den w ω (.v (.int kk y)) x:=by
             cases p with
             |none=>exact x2
             |some _=>exact x2
           have nC:gQ l z=y:=by simp[gQ,List.getD_eq_getElem?_getD,mL]
           exact⟨_,x,_,e,Dd hu rfl w _ _ (by rw[<-Nat.add_assoc]at x1⊢;exact x1),by rw[nC];exact hd,he⟩
        · exact he.elim
      · exact he.elim
    · next q n f=>
      obtain⟨ad,e,hj⟩:=hx
      split at he
      · next hd=>
        split at he
        · next hle=>
          have hle:=Nat.le_of_ble_eq_true hle
          have hex: ∀j,∃x,j<i.size->w.cell? (ad.add j)=some x/\Den w ω (f j) x:=by
            intro j
            by_cases tB:j<i.size
            · obtain⟨x,J,_,h3⟩:=hj j (by omega)
              exact⟨x,λ_=>⟨J,h3.up⟩⟩
            · exact⟨undef,λh=>absurd h tB⟩
          refine⟨_,_,ad,e,Mb hi hu hd w _ (λj=>Classical.choose (hex j)) (λj hj=>(Classical.choose_spec (hex j) hj).1),?_,he⟩
          exact⟨_,rfl,by simp,λj hj=>⟨Classical.choose (hex j),by simp[hj],by rw[Ru hj];exact(Classical.choose_spec (hex j) hj).2⟩⟩
        · exact he.elim
      · next hd=>
        split at he
        · next av=>
          have av:0<n:=Nat.le_of_ble_eq_true av
          obtain⟨x,J,_,h3⟩:=hj 0 av
          exact⟨_,x,ad,e,Dd hu hd w _ _ (by simpa [Addr.add]using J),h3.up,he⟩
        · exact he.elim
    · exact he.elim
  · exact he.elim
theorem aa0 (h:Cx P w ω ρ M a) {o:Oper} {T:TypeId} {x:Operand} {K:SV->Prop} (ho:o.op= .load T x) (he:(A9 P T (ρ x) (ae M)).run K):fR P w ω a o K:=by
  obtain⟨s,v,ad,e,hr,hd,hK⟩:=M6 h.mem (h.val x) he
  exact⟨s,v,by simp[execOp,ho,e,Instr.loadAt,Instr.sureAddr,hr,Result.andThen],hd,hK⟩
/-! ### addresses of fields and elements -/
def ym (P:Program) (S:TypeId) (s:SV) (j:Nat) (m:Nat->bk):R:=
  match P.underlying S with
  |some (.struct fs)=>
   match fs[j]? with
   |some fd=>
    match P.info? fd.type with
    |some i=>
     match Nat.blt 0 i.size,s with
     |true,.ptr k st p ii off=>match cD m k st p with|true=> .ok (.ptr k st p ii (off+fd.offset))|false=> .bad
     |true,.pt q n f=> .ok (.pt q (n -fd.offset) λm=>f (fd.offset+m))
     |true,.v (.pointer (some ad))=> .ok (.v (.pointer (some (ad.add fd.offset))))
     |_,_=> .bad
    |none=> .bad
   |none=> .bad
  |_=> .bad
theorem At.map {o:Ow} {k s:Nat} {p:Path} {R R':Loc->Prop} (h: ∀L,R L->R' L) (ha:At o k s p R):At o k s p R':=ha.imp id λ⟨e,L,hL,hR⟩=>⟨e,L,hL,h L hR⟩
theorem NU (h:Cx P w ω ρ M a) {o:Oper} {S:TypeId} {x:Operand} {j:Nat} {K:SV->Prop} (ho:o.op= .fieldAddr S x j) (he:(ym P S (ρ x) j (ae M)).run K):fR P w ω a o K:=by
  have hx:=h.val x
  unfold ym at he
  split at he
  · next fs hu=>
    split at he
    · next fd zx=>
      split at he
      · next i hi=>
        have run: ∀(ad:Addr),a.eval x= .pointer (some ad)->Nat.blt 0 i.size=true->(execOp a.eval o).run P w= .ok (.value (.pointer (some (ad.add fd.offset)))) w:=by
          intro ad e hz
          have hz:0<i.size:=Nat.le_of_ble_eq_true hz
          have hs:(sizeOf fd.type).run P w= .ok i.size w:=by simp[sizeOf,run_typeInfo w hi,Result.andThen]
          simp[execOp,ho,e,Instr.fieldAt,Instr.sureAddr,run_underlying hu,zx,fieldPlace,hs,Result.andThen,Nat.ne_of_gt hz]
        split at he
        · next k st p ii off hz hs=>
          rw[hs]at hx
          split at he
          · next bF=>
            obtain⟨e0,L,hL,hi,e⟩:=ir h.mem bF hx
            exact⟨.ptr k st p ii (off+fd.offset),_,run _ e hz,Or.inr ⟨e0,L,hL,hi,by rw[lG,Nat.add_assoc]⟩,he⟩
          · exact he.elim
        · next q n f hz hs=>
          rw[hs]at hx
          obtain⟨ad,e,hj⟩:=hx
          refine⟨.pt q (n -fd.offset) λm=>f (fd.offset+m),_,run _ e hz,⟨_,rfl,λm hm=>?_⟩,he⟩
          obtain⟨y,J,h2,h3⟩:=hj (fd.offset+m) (by omega)
          exact⟨y,by rw[add_add];exact J,by rw[iM];exact h2,h3⟩
        · next ad hz hs=>
          rw[hs]at hx
          exact⟨.v (.pointer (some (ad.add fd.offset))),_,run _ hx hz,rfl,he⟩
        · exact he.elim
      · exact he.elim
    · exact he.elim
  · exact he.elim
def Kb:Operand->Bool
  | .const _=>true
  |_=>false
def A5 (P:Program) (T:TypeId) (lit:Bool) (s i:SV) (m:Nat->bk):R:=
  match P.underlying T,i with
  |some (.slice E),.v (.int _ z)=>
   match P.info? E,s with
   |some ie,.sl q sz n f=>match Nat.beq ie.size sz with|true=> .dS ((0<=z/\z<n)) (.pt q sz (f z.toNat))|false=> .bad
   |some ie,.aO k st p e n=>
    match cD m k st p,gu (m k).b p with
    |true,some r=>match Nat.beq ie.size r.sz with|true=> .dS ((0<=z/\z<n)) (.ptr k st p (e+z.toNat) 0)|false=> .bad
    |_,_=> .bad
   |_,_=> .bad
  |some (.array len E),.v (.int _ z)=>
   match P.info? E,Nat.blt 1 len,s with
   |some ie,true,.pt q mm f=>match Nat.ble (len*ie.size) mm with|true=> .dS ((0<=z/\z<len)) (.pt q ie.size λj=>f (z.toNat*ie.size+j))|false=> .bad
   |some ie,true,.pa q sz n f=>match Nat.beq ie.size sz,Nat.beq n len with|true,true=> .dS ((0<=z/\z<len)) (.pt q sz (f z.toNat))|_,_=> .bad
   |some ie,true,.ptr k st p ii j=>
    match cD m k st p,lit,Nat.beq ie.size 1 with
    |true,true,_=> .dS ((0<=z/\z<len)) (.ptr k st p ii (j+z.toNat*ie.size))
    |true,false,true=> .dS ((0<=z/\z<len)) (.pe k st p ii j len z.toNat)
    |_,_,_=> .bad
   |_,_,_=> .bad
  |_,_=> .bad
theorem Nc (h:Cx P w ω ρ M a) {o:Oper} {T:TypeId} {lit:Bool} {x y:Operand} {K:SV->Prop} (ho:o.op= .indexAddr T x y) (he:(A5 P T lit (ρ x) (ρ y) (ae M)).run K): ∃s v,(∀w',(execOp a.eval o).run P w'= .ok (.value v) w')/\Den w ω s v/\K s:=by
  have hx:=h.val x
  have hy:=h.val y
  unfold A5 at he
  split at he
  · next E k z hu hs=>
    rw[hs]at hy
    have ey:a.eval y= .int k z:=hy
    split at he
    · next ie q sz n f hi fZ=>
      rw[fZ]at hx
      split at he
      · next bV=>
        have bV:=Nat.eq_of_beq_eq_true bV
        obtain⟨⟨h0,J⟩,hK⟩:=he
        obtain⟨p,cap,ex,_,_,hj⟩:=hx
        have hn:n≠0:=by omega
        obtain⟨ad,ep,hk⟩:=hj.resolve_left hn
        subst ep
        refine⟨.pt q sz (f z.toNat),.pointer (some (ad.add (z.toNat*sz))),?_,⟨_,rfl,λj rV=>?_⟩,hK⟩
        · intro w'
          have qL:(sizeOf E).run P w'= .ok sz w':=by simp[sizeOf,run_typeInfo w' hi,Result.andThen,bV]
          simp[execOp,ho,ex,ey,Instr.indexAt,asIntOf,run_underlying hu,Result.andThen,h0,J,qL]
        · obtain⟨u,g1,g2,g3⟩:=hk z.toNat (by omega) j rV
          exact⟨u,by rw[add_add];exact g1,by rw[iM];exact g2,g3⟩
      · exact he.elim
    · next ie k2 st p e n hi fZ=>
      rw[fZ]at hx
      split at he
      · next r bF hr=>
        split at he
        · next bV=>
          have bV:=Nat.eq_of_beq_eq_true bV
          obtain⟨⟨h0,J⟩,hK⟩:=he
          have e0:st=Sy.st ω.cur k2 p:=by
            rw[h.mem.cur]
            cases p with
            |none=>exact Nat.eq_of_beq_eq_true bF
            |some _=>exact Nat.eq_of_beq_eq_true bF
          rcases hx with hx|⟨_,q,cap,ex,jF,_,hx⟩
          · omega
          rcases hx with hx|⟨L,hL,rfl,FN,hx3⟩
          · omega
          obtain⟨r',g1,g2,g3,_⟩:=h.mem.row _ _ _ hL
          obtain rfl:r=r':=Option.some.inj (hr.symm.trans g1)
          refine⟨.ptr k2 st p (e+z.toNat) 0,.pointer (some ⟨L.b,L.o+(e+z.toNat)*L.sz,none⟩),?_,Or.inr ⟨e0,L,hL,by omega,by simp⟩,hK⟩
          intro w'
          have qL:(sizeOf E).run P w'= .ok L.sz w':=by simp[sizeOf,run_typeInfo w' hi,Result.andThen,bV,g2]
          simp[execOp,ho,ex,ey,Instr.indexAt,asIntOf,run_underlying hu,Result.andThen,h0,J,qL,lG,Nat.add_mul,Nat.add_assoc]
        · exact he.elim
      · exact he.elim
    · exact he.elim
  · next len E k z hu hs=>
    rw[hs]at hy
    have ey:a.eval y= .int k z:=hy
    split at he
    · next ie q m f hi hlen fZ=>
      rw[fZ]at hx
      have hlen:1<len:=Nat.le_of_ble_eq_true hlen
      split at he
      · next hm=>
        have hm:=Nat.le_of_ble_eq_true hm
        obtain⟨⟨h0,J⟩,hK⟩:=he
        obtain⟨ad,ex,hj⟩:=hx
        refine⟨.pt q ie.size λj=>f (z.toNat*ie.size+j),.pointer (some (ad.add (z.toNat*ie.size))),?_,⟨_,rfl,λj rV=>?_⟩,hK⟩
        · intro w'
          have qL:(sizeOf E).run P w'= .ok ie.size w':=by simp[sizeOf,run_typeInfo w' hi,Result.andThen]
          simp[execOp,ho,ex,ey,Instr.indexAt,Instr.sureAddr,asIntOf,run_underlying hu,Result.andThen,h0,J,qL]
        · have av:z.toNat*ie.size+j<m:=by
            have:z.toNat+1<=len:=by omega
            have:=Nat.mul_le_mul_right ie.size this
            rw[Nat.add_mul]at this
            omega
          obtain⟨u,g1,g2,g3⟩:=hj _ av
          exact⟨u,by rw[add_add];exact g1,by rw[iM];exact g2,g3⟩
      · exact he.elim
    · next ie q sz n f hi hlen fZ=>
      rw[fZ]at hx
      have hlen:1<len:=Nat.le_of_ble_eq_true hlen
      split at he
      · next bV hn=>
        have bV:=Nat.eq_of_beq_eq_true bV
        have hn:=Nat.eq_of_beq_eq_true hn
        obtain⟨⟨h0,J⟩,hK⟩:=he
        obtain⟨ad,ex,hj⟩:=hx
        refine⟨.pt q sz (f z.toNat),.pointer (some (ad.add (z.toNat*sz))),?_,⟨_,rfl,λj rV=>?_⟩,hK⟩
        · intro w'
          have qL:(sizeOf E).run P w'= .ok sz w':=by simp[sizeOf,run_typeInfo w' hi,Result.andThen,bV]
          simp[execOp,ho,ex,ey,Instr.indexAt,Instr.sureAddr,asIntOf,run_underlying hu,Result.andThen,h0,J,qL]
        · obtain⟨u,g1,g2,g3⟩:=hj z.toNat (by omega) j rV
          exact⟨u,by rw[add_add];exact g1,by rw[iM];exact g2,g3⟩
      · exact he.elim
    · next ie k2 st p ii j hi hlen fZ=>
      rw[fZ]at hx
      have hlen:1<len:=Nat.le_of_ble_eq_true hlen
      have run: ∀ad,a.eval x= .pointer (some ad)->0<=z->z<len-> ∀w',(execOp a.eval o).run P w'= .ok (.value (.pointer (some (ad.add (z.toNat*ie.size))))) w':=by
        intro ad ex h0 J
        intro w'
        have qL:(sizeOf E).run P w'= .ok ie.size w':=by simp[sizeOf,run_typeInfo w' hi,Result.andThen]
        simp[execOp,ho,ex,ey,Instr.indexAt,Instr.sureAddr,asIntOf,run_underlying hu,Result.andThen,h0,J,qL]
      split at he
      · next bF=>
        obtain⟨⟨h0,J⟩,hK⟩:=he
        obtain⟨e0,L,hL,ju,ex⟩:=ir h.mem bF hx
        exact⟨.ptr k2 st p ii (j+z.toNat*ie.size),_,run _ ex h0 J,Or.inr ⟨e0,L,hL,ju,by rw[lG,Nat.add_assoc]⟩,hK⟩
      · next bF Ks=>
        have Ks:=Nat.eq_of_beq_eq_true Ks
        obtain⟨⟨h0,J⟩,hK⟩:=he
        obtain⟨e0,L,hL,ju,ex⟩:=ir h.mem bF hx
        exact⟨.pe k2 st p ii j len z.toNat,_,run _ ex h0 J,Or.inr ⟨e0,L,hL,ju,by omega,by rw[lG,Ks,Nat.mul_one,Nat.add_assoc]⟩,hK⟩
      · exact he.elim
    · exact he.elim
  · exact he.elim
theorem Zj (h:Cx P w ω ρ M a) {o:Oper} {T:TypeId} {lit:Bool} {x y:Operand} {K:SV->Prop} (ho:o.op= .indexAddr T x y) (he:(A5 P T lit (ρ x) (ρ y) (ae M)).run K):fR P w ω a o K:=
  let⟨s,v,J,h2,h3⟩:=Nc h ho he
  ⟨s,v,J w,h2,h3⟩
end
end Go.Sy
