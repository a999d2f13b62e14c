/-
  Sy, part 1: symbolic values; what they stand for in a world; that they stand for it in a later world too.
-/
import Derived.WalkKit
import Derived.Deep.Quiet
import Derived.Laws.StructEq
import Derived.Laws.Tables
import Derived.Laws.CopyOwn
set_option linter.unusedVariables false
set_option linter.unusedSimpArgs false
set_option linter.unusedVariables false
set_option linter.unusedSimpArgs false
namespace Go.Sy
open Go.RowKit
abbrev Path:=Option (Nat×Nat)
inductive SV where
  |aj
  |v (x:Value)
  |bl (b:Bool)
  |ptr (k s:Nat) (p:Path) (i j:Nat)
  |pe (k s:Nat) (p:Path) (i j len z:Nat)
  |aC (k s:Nat) (p:Path) (e n:Nat)
  |sa (k s:Nat) (p:Path) (i j n:Nat)
  |pt (q:Bool) (n:Nat) (f:Nat->SV)
  |sl (q:Bool) (sz n:Nat) (f:Nat->Nat->SV)
  |pa (q:Bool) (sz n:Nat) (f:Nat->Nat->SV)
  |il (sz n:Nat) (f:Nat->Nat->SV)
  |ag (n:Nat) (f:Nat->SV)
  |tp (n:Nat) (f:Nat->SV)
  |fn (id n:Nat) (f:Nat->SV)
  |bm (id:Nat) (s:SV)
  |mv (nm:String) (s:SV)
  |ic (t:Nat) (s:SV)
  |er (t tf:Nat) (e at_:Int)
  |es
instance:Inhabited SV:=⟨.aj⟩
def aq (l:List SV):Nat->SV:=λj=>l.getD j .aj
def out (n:Nat) (f:Nat->SV):Nat->SV:=aq ((List.range n).map f)
theorem y' {n:Nat} {f:Nat->SV} {j:Nat} (h:j<n):out n f j=f j:=by
  simp[out,aq,List.getD_eq_getElem?_getD,h]
structure Loc where
  b:Nat
  o:Nat
  sz:Nat
  bD:Nat
  len:Nat
structure Ow where
  A:Nat->Prop
  Z:Nat->Prop
  β:Nat->Path->Option Loc
  cur:Nat->Nat×Nat
def Ow.bare (o:Ow):Ow:=⟨o.A,o.Z,λ_ _=>none,λ_=>(0,0)⟩
def st (cur:Nat->Nat×Nat) (k:Nat):Path->Nat
  |none=>(cur k).1
  |some _=>(cur k).2
def DV (w:World) (A Z:Nat->Prop) (t tf:Nat) (e at_:Int) (u:Value):Prop:=
  (e=0/\at_= -1/\u= .nilIface)\/(e≠0/\at_= -1/\u= .iface t (.int .i64 e))\/
  (e≠0/\0<=at_/\ ∃a,u= .iface tf (.pointer (some a))/\ ¬A a.block/\ ¬Z a.block/\w.cell? (a.add 0)=some (.int .i64 at_)/\w.cell? (a.add 1)=some (.iface t (.int .i64 e)))
def At (o:Ow) (k s:Nat) (p:Path) (R:Loc->Prop):Prop:=s<st o.cur k p\/(s=st o.cur k p/\ ∃L,o.β k p=some L/\R L)
def Head (o:Ow) (k:Nat) (p:Path) (e n:Nat) (u:Value):Prop:=
  ∃q cap,u= .slice q n cap/\n<=cap/\cap<=maxLen/\(cap=0\/ ∃L,o.β k p=some L/\q=some ⟨L.b,L.o+e*L.sz,none⟩/\L.o+(e+cap)*L.sz<=L.len/\e+n<=L.bD)
def Den (w:World) (o:Ow):SV->Value->Prop
  | .aj,_=>True
  | .il _ _ _,_=>True
  | .v x,u=>u=x
  | .bl b,u=>u= .bool b
  | .ptr k s p i j,u=>At o k s p λL=>i<L.bD/\u= .pointer (some ⟨L.b,L.o+i*L.sz+j,none⟩)
  | .pe k s p i j len z,u=>At o k s p λL=>i<L.bD/\z<len/\u= .pointer (some ⟨L.b,L.o+i*L.sz+(j+z),none⟩)
  | .aC k s p e n,u=>s<st o.cur k p\/(s=st o.cur k p/\Head o k p e n u)
  | .sa k s p i j n,u=>At o k s p λL=>i<L.bD/\n<=maxLen/\u= .slice (some ⟨L.b,L.o+i*L.sz+j,none⟩) n n
  | .pt q n f,u=> ∃a,u= .pointer (some a)/\ ∀j,j<n-> ∃x,w.cell? (a.add j)=some x/\(¬o.A a.block/\(q=false-> ¬o.Z a.block))/\Den w o.bare (f j) x
  | .sl q sz n f,u=> ∃p cap,u= .slice p n cap/\n<=cap/\n<=maxLen/\(n=0\/ ∃a,p=some a/\ ∀i,i<n-> ∀j,j<sz-> ∃x,w.cell? (a.add (i*sz+j))=some x/\(¬o.A a.block/\(q=false-> ¬o.Z a.block))/\Den w o.bare (f i j) x)
  | .pa q sz n f,u=> ∃a,u= .pointer (some a)/\ ∀i,i<n-> ∀j,j<sz-> ∃x,w.cell? (a.add (i*sz+j))=some x/\(¬o.A a.block/\(q=false-> ¬o.Z a.block))/\Den w o.bare (f i j) x
  | .ag n f,u=> ∃cs,u= .agg cs/\cs.size=n/\ ∀j,j<n-> ∃x,cs[j]? =some x/\Den w o (f j) x
  | .tp n f,u=> ∃cs,u= .tuple cs/\cs.size=n/\ ∀j,j<n-> ∃x,cs[j]? =some x/\Den w o (f j) x
  | .fn id n f,u=> ∃cs,u= .func (.func id) #[] cs/\cs.size=n/\ ∀j,j<n-> ∃x,cs[j]? =some x/\Den w o (f j) x
  | .bm id s,u=> ∃x,u= .func (.func id) #[x] #[]/\Den w o s x
  | .mv nm s,u=> ∃x,u= .func (.method nm) #[x] #[]/\Den w o s x
  | .ic t s,u=> ∃x,u= .iface t x/\Den w o s x
  | .er t tf e at_,u=>DV w o.A o.Z t tf e at_ u
  | .es,u=> ∃p,u= .slice p 0 0
def qp (A:Nat->Prop) (w w':World):Prop:= ∀b,b<w.heap.size-> ¬A b->w'.heap[b]? =w.heap[b]?
theorem fo {w:World} {a:Addr} {x:Value} (h:w.cell? a=some x):a.block<w.heap.size:=by
  rcases Nat.lt_or_ge a.block w.heap.size with h'|h'
  · exact h'
  · simp[World.cell?,Array.getElem?_eq_none h']at h
theorem cQ (a:Addr) (n:Nat):(a.add n).block=a.block:=by unfold Addr.add;split<;>rfl
theorem add_add (a:Addr) (n m:Nat):(a.add n).add m=a.add (n+m):=by
  unfold Addr.add
  by_cases h:n=0
  · subst h;simp
  · by_cases h2:m=0
    · subst h2;simp[h]
    · simp only[h,h2,if_false]
      rw[if_neg (by omega)]
      simp only[Nat.add_assoc]
theorem dR (b o n:Nat):(⟨b,o,none⟩:Addr).add n=⟨b,o+n,none⟩:=by
  unfold Addr.add;split
  · next h=>subst h;rfl
  · rfl
theorem qp.cell {A:Nat->Prop} {w w':World} (h:qp A w w') {a:Addr} {x:Value} (hf: ¬A a.block) (hc:w.cell? a=some x):w'.cell? a=some x:=by
  have:=h a.block (fo hc) hf
  unfold World.cell? at*
  rw[this];exact hc
structure Ext (w:World) (o:Ow) (w':World) (o':Ow):Prop where
  os:w'.os=w.os
  tape:w'.tape=w.tape
  output:w'.output=w.output
  same:qp o.A w w'
  free: ∀b,b<w.heap.size-> ¬o.A b-> ¬o'.A b
  cI: ∀b,b<w.heap.size-> ¬o.A b-> ¬o.Z b-> ¬o'.Z b
  size:w.heap.size<=w'.heap.size
  mono: ∀k,(o.cur k).1<=(o'.cur k).1/\(o.cur k).2<=(o'.cur k).2
  fU: ∀k p L,o.β k p=some L->st o'.cur k p=st o.cur k p->o'.β k p=some L
  zs: ∀b,o.Z b->o'.Z b
theorem Ext.refl (w:World) (o:Ow):Ext w o w o:=⟨rfl,rfl,rfl,λ_ _ _=>rfl,λ_ _ h=>h,λ_ _ _ h=>h,Nat.le_refl _,λ_=>⟨Nat.le_refl _,Nat.le_refl _⟩,λ_ _ _ h _=>h,λ_ h=>h⟩
theorem pL {c c':Nat->Nat×Nat} (h: ∀k,(c k).1<=(c' k).1/\(c k).2<=(c' k).2) (k:Nat) (p:Path):st c k p<=st c' k p:=by
  cases p with
  |none=>exact(h k).1
  |some _=>exact(h k).2
theorem Ext.trans {w w' cb:World} {o o' oI:Ow} (h:Ext w o w' o') (k:Ext w' o' cb oI):Ext w o cb oI where
  os:=k.os.trans h.os
  tape:=k.tape.trans h.tape
  output:=k.output.trans h.output
  same:=λb hb hf=>(k.same b (Nat.lt_of_lt_of_le hb h.size) (h.free b hb hf)).trans (h.same b hb hf)
  free:=λb hb hf=>k.free b (Nat.lt_of_lt_of_le hb h.size) (h.free b hb hf)
  cI:=λb hb hf hz=>k.cI b (Nat.lt_of_lt_of_le hb h.size) (h.free b hb hf) (h.cI b hb hf hz)
  size:=Nat.le_trans h.size k.size
  mono:=λq=>⟨Nat.le_trans (h.mono q).1 (k.mono q).1,Nat.le_trans (h.mono q).2 (k.mono q).2⟩
  fU:=λq p L hL e=>by
   have U:=pL h.mono q p
   have h2:=pL k.mono q p
   have e1:st o'.cur q p=st o.cur q p:=by omega
   exact k.fU q p L (h.fU q p L hL e1) (by omega)
  zs:=λb hb=>k.zs b (h.zs b hb)
theorem Ext.bare {w w':World} {o o':Ow} (h:Ext w o w' o'):Ext w o.bare w' o'.bare:=⟨h.os,h.tape,h.output,h.same,h.free,h.cI,h.size,λ_=>⟨Nat.le_refl _,Nat.le_refl _⟩,λ_ _ _ h=>(by cases h),h.zs⟩
theorem At.ext {w w':World} {o o':Ow} (h:Ext w o w' o') {k s:Nat} {p:Path} {R:Loc->Prop} (ha:At o k s p R):At o' k s p R:=by
  have hm:=pL h.mono k p
  rcases ha with ha|⟨ha,L,hL,hR⟩
  · exact .inl (Nat.lt_of_lt_of_le ha hm)
  · rcases Nat.lt_or_ge s (st o'.cur k p)with h'|h'
    · exact .inl h'
    · exact .inr ⟨by omega,L,h.fU k p L hL (by omega),hR⟩
theorem Head.ext {w w':World} {o o':Ow} (h:Ext w o w' o') {k:Nat} {p:Path} {e n:Nat} {u:Value} (he:st o'.cur k p=st o.cur k p) (ha:Head o k p e n u):Head o' k p e n u:=by
  obtain⟨q,cap,U,h2,h3,h4⟩:=ha
  exact⟨q,cap,U,h2,h3,h4.imp id λ⟨L,hL,hr⟩=>⟨L,h.fU k p L hL he,hr⟩⟩
theorem Den.ext {w w':World} {o o':Ow} (h:Ext w o w' o') {s:SV} {u:Value} (hd:Den w o s u):Den w' o' s u:=by
  induction s generalizing o o' u with
  |aj=>trivial
  |il sz n f=>trivial
  |es=>exact hd
  |v x=>exact hd
  |bl b=>exact hd
  |ptr k s p i j=>exact At.ext h hd
  |pe k s p i j len z=>exact At.ext h hd
  |sa k s p i j n=>exact At.ext h hd
  |aC k s p e n=>
   have hm:=pL h.mono k p
   rcases hd with hd|⟨hd,hh⟩
   · exact .inl (Nat.lt_of_lt_of_le hd hm)
   · rcases Nat.lt_or_ge s (st o'.cur k p)with h'|h'
     · exact .inl h'
     · exact .inr ⟨by omega,hh.ext h (by omega)⟩
  |pt q n f ih=>
   obtain⟨a,rfl,hj⟩:=hd
   refine⟨a,rfl,λj aw=>?_⟩
   obtain⟨x,hc,hf,hx⟩:=hj j aw
   have af:=fo hc
   rw[cQ]at af
   exact⟨x,h.same.cell (by rw[cQ];exact hf.1) hc,⟨h.free _ af hf.1,λe=>h.cI _ af hf.1 (hf.2 e)⟩,ih j h.bare hx⟩
  |sl q sz n f ih=>
   obtain⟨p,cap,rfl,dG,db,hj⟩:=hd
   refine⟨p,cap,rfl,dG,db,hj.imp id ?_⟩
   intro hk
   obtain⟨a,e,hk⟩:=hk
   refine⟨a,e,λi hi j aw=>?_⟩
   obtain⟨x,hc,hf,hx⟩:=hk i hi j aw
   have af:=fo hc
   rw[cQ]at af
   exact⟨x,h.same.cell (by rw[cQ];exact hf.1) hc,⟨h.free _ af hf.1,λe=>h.cI _ af hf.1 (hf.2 e)⟩,ih i j h.bare hx⟩
  |pa q sz n f ih=>
   obtain⟨a,rfl,hk⟩:=hd
   refine⟨a,rfl,λi hi j aw=>?_⟩
   obtain⟨x,hc,hf,hx⟩:=hk i hi j aw
   have af:=fo hc
   rw[cQ]at af
   exact⟨x,h.same.cell (by rw[cQ];exact hf.1) hc,⟨h.free _ af hf.1,λe=>h.cI _ af hf.1 (hf.2 e)⟩,ih i j h.bare hx⟩
  |ag n f ih=>
   obtain⟨cs,rfl,hs,hj⟩:=hd
   exact⟨cs,rfl,hs,λj aw=>let⟨x,U,h2⟩:=hj j aw;⟨x,U,ih j h h2⟩⟩
  |tp n f ih=>
   obtain⟨cs,rfl,hs,hj⟩:=hd
   exact⟨cs,rfl,hs,λj aw=>let⟨x,U,h2⟩:=hj j aw;⟨x,U,ih j h h2⟩⟩
  |fn id n f ih=>
   obtain⟨cs,rfl,hs,hj⟩:=hd
   exact⟨cs,rfl,hs,λj aw=>let⟨x,U,h2⟩:=hj j aw;⟨x,U,ih j h h2⟩⟩
  |bm id s ih=>
   obtain⟨x,rfl,hx⟩:=hd
   exact⟨x,rfl,ih h hx⟩
  |mv nm s ih=>
   obtain⟨x,rfl,hx⟩:=hd
   exact⟨x,rfl,ih h hx⟩
  |ic t s ih=>
   obtain⟨x,rfl,hx⟩:=hd
   exact⟨x,rfl,ih h hx⟩
  |er t tf e at_=>
   rcases hd with hd|hd|⟨U,h2,a,rfl,hf,hz,eh,oC⟩
   · exact .inl hd
   · exact .inr (.inl hd)
   · have af:=fo eh
     rw[cQ]at af
     exact .inr (.inr ⟨U,h2,a,rfl,h.free _ af hf,h.cI _ af hf hz,h.same.cell (by rw[cQ];exact hf) eh,h.same.cell (by rw[cQ];exact hf) oC⟩)
theorem Den.up {w:World} {o:Ow} {s:SV} {u:Value} (hd:Den w o.bare s u):Den w o s u:=
  Den.ext (o:=o.bare) (o':=o) ⟨rfl,rfl,rfl,λ_ _ _=>rfl,λ_ _ h=>h,λ_ _ _ h=>h,Nat.le_refl _,λ_=>⟨Nat.zero_le _,Nat.zero_le _⟩,λ_ _ _ h=>(by cases h),λ_ h=>h⟩ hd
def aJ (w:World) (o:Ow):List SV->List Value->Prop
  | [],[]=>True
  |s::r,u::t=>Den w o s u/\aJ w o r t
  |_,_=>False
theorem aJ.ext {w w':World} {o o':Ow} (h:Ext w o w' o'): ∀{F:List SV} {l:List Value},aJ w o F l->aJ w' o' F l
  | [],[],_=>trivial
  |_::_,_::_,⟨U,h2⟩=>⟨U.ext h,aJ.ext h h2⟩
  | [],_::_,hd=>hd.elim
  |_::_,[],hd=>hd.elim
theorem aJ.len {w:World} {o:Ow}: ∀{F:List SV} {l:List Value},aJ w o F l->F.length=l.length
  | [],[],_=>rfl
  |_::_,_::_,⟨_,h2⟩=>by simp[h2.len]
  | [],_::_,hd=>hd.elim
  |_::_,[],hd=>hd.elim
theorem aJ.get {w:World} {o:Ow}: ∀{F:List SV} {l:List Value},aJ w o F l-> ∀(i:Nat) (d:Value),Den w o (F.getD i .aj) (l.getD i d)
  | [],[],_,_,_=>by simp[Den]
  |_::_,_::_,⟨U,_⟩,0,_=>by simpa using U
  |_::_,_::_,⟨_,h2⟩,i+1,d=>by simpa using h2.get i d
  | [],_::_,hd,_,_=>hd.elim
  |_::_,[],hd,_,_=>hd.elim
theorem aJ.get? {w:World} {o:Ow}: ∀{F:List SV} {l:List Value},aJ w o F l-> ∀(i:Nat),i<F.length-> ∃x,l[i]? =some x/\Den w o (F.getD i .aj) x
  |_::_,u::_,⟨U,_⟩,0,_=>⟨u,by simp,by simpa using U⟩
  |_::_,_::_,⟨_,h2⟩,i+1,hi=>by simpa using h2.get? i (by simpa using hi)
  | [],[],_,_,hi=>absurd hi (by simp)
  | [],_::_,hd,_,_=>hd.elim
  |_::_,[],hd,_,_=>hd.elim
theorem aJ.set {w:World} {o:Ow} {s:SV} {u:Value} (hs:Den w o s u): ∀{F:List SV} {l:List Value},aJ w o F l-> ∀(i:Nat),aJ w o (F.set i s) (l.set i u)
  | [],[],_,_=>by simp[aJ]
  |_::_,_::_,⟨_,h2⟩,0=>by simpa [aJ]using ⟨hs,h2⟩
  |_::_,_::_,⟨U,h2⟩,i+1=>by simpa [aJ]using ⟨U,h2.set hs i⟩
  | [],_::_,hd,_=>hd.elim
  |_::_,[],hd,_=>hd.elim
theorem aJ.mk {w:World} {o:Ow}: ∀{F:List SV} {l:List Value},F.length=l.length->(∀i,i<F.length-> ∃x,l[i]? =some x/\Den w o (F.getD i .aj) x)->aJ w o F l
  | [],[],_,_=>trivial
  |s::r,u::t,hl,h=>by
   refine⟨?_,aJ.mk (by simpa using hl) λi hi=>?_⟩
   · obtain⟨x,U,h2⟩:=h 0 (by simp)
     simp at U h2;subst U;exact h2
   · obtain⟨x,U,h2⟩:=h (i+1) (by simp;exact hi)
     exact⟨x,by simpa using U,by simpa using h2⟩
  | [],_::_,hl,_=>by simp at hl
  |_::_,[],hl,_=>by simp at hl
theorem aJ.append {w:World} {o:Ow}: ∀{F G:List SV} {l m:List Value},aJ w o F l->aJ w o G m->aJ w o (F++G) (l++m)
  | [],_,[],_,_,h=>by simpa using h
  |_::_,_,_::_,_,⟨U,h2⟩,h=>⟨U,h2.append h⟩
  | [],_,_::_,_,hd,_=>hd.elim
  |_::_,_,[],_,hd,_=>hd.elim
theorem aJ.map {w:World} {o o':Ow} {g:SV->SV} (hg: ∀s u,Den w o s u->Den w o' (g s) u): ∀{F:List SV} {l:List Value},aJ w o F l->aJ w o' (F.map g) l
  | [],[],_=>trivial
  |_::_,_::_,⟨U,h2⟩=>⟨hg _ _ U,h2.map hg⟩
  | [],_::_,hd=>hd.elim
  |_::_,[],hd=>hd.elim
end Go.Sy
set_option linter.unusedVariables false
set_option linter.unusedSimpArgs false
namespace Go.Sy
open Go.RowKit
def kb:IntKind->IntKind->Bool
  | .i8,.i8| .i16,.i16| .i32,.i32| .i64,.i64| .u8,.u8| .u16,.u16| .u32,.u32| .u64,.u64=>true
  |_,_=>false
theorem mI {a b:IntKind} (h:kb a b=true):a=b:=by cases a<;>cases b<;>first|rfl|cases h
def f_:SV->Option Bool
  | .bl b=>some b
  | .v (.bool b)=>some b
  |_=>none
theorem eW {w:World} {o:Ow} {s:SV} {b:Bool} {u:Value} (h:f_ s=some b) (hd:Den w o s u):u= .bool b:=by
  unfold f_ at h
  split at h<;>simp at h<;>subst h<;>exact hd
def eH (c:Bool) (x y:SV):SV:=
  match x,y with
  | .v (.int k a),.v (.int k' b)=>match kb k k' with|true=> .v (.int k (bif c then a else b))|false=> .aj
  | .v (.string a),.v (.string b)=> .v (.string (bif c then a else b))
  | .er t tf e a,.er t' vN e' a'=>match Nat.beq t t',Nat.beq tf vN with|true,true=> .er t tf (bif c then e else e') (bif c then a else a')|_,_=> .aj
  |x,y=>match f_ x,f_ y with|some a,some b=> .v (.bool (bif c then a else b))|_,_=> .aj
theorem mR {w:World} {o:Ow} {c:Bool} {x y:SV} {u:Value} (U:c=true->Den w o x u) (h2:c=false->Den w o y u):Den w o (eH c x y) u:=by
  unfold eH
  split
  · split
    · next hk=>
      obtain rfl:=mI hk
      cases c
      · exact h2 rfl
      · exact U rfl
    · trivial
  · cases c
    · exact h2 rfl
    · exact U rfl
  · split
    · next hb fi=>
      obtain rfl:=Nat.eq_of_beq_eq_true hb
      obtain rfl:=Nat.eq_of_beq_eq_true fi
      cases c
      · exact h2 rfl
      · exact U rfl
    · trivial
  · split
    · next a b ha hb=>
      cases c
      · exact eW hb (h2 rfl)
      · exact eW ha (U rfl)
    · trivial
def aX:SV->Bool
  | .il _ _ _=>true
  |_=>false
theorem sw (c:Bool) (x y:SV):aX (eH c x y)=false:=by
  unfold eH
  split
  · split<;>rfl
  · rfl
  · split<;>rfl
  · split<;>rfl
def dq (c:Bool) (x y:SV):SV:=
  match x,y with
  | .il sz n g,.il cT n' g'=>match Nat.beq sz cT with|true=> .il sz (bif c then n else n') (λa b=>eH c (g a b) (g' a b))|false=> .aj
  |x,y=>eH c x y
theorem iX {w:World} {o:Ow} {c:Bool} {x y:SV} {u:Value} (U:c=true->Den w o x u) (h2:c=false->Den w o y u):Den w o (dq c x y) u:=by
  unfold dq
  split
  · split<;>trivial
  · exact mR U h2
theorem sv {c:Bool} {x y:SV} (h:aX x=false):dq c x y=eH c x y:=by
  unfold dq
  split
  · cases h
  · rfl
structure Row where
  sz:Nat
  n:Nat
  f:Nat->Nat->SV
inductive ar where
  |dead
  |cells (l:List SV)
  |row (sz n:Nat) (f:Nat->Nat->SV)
structure ao where
  rs:Nat
  ds:Nat
  hl:Option (Nat×Nat)
  b:ar
abbrev Mem:=List (Nat×ao)
def aa:Mem->Nat->ao
  | [],_=>⟨0,0,none,.dead⟩
  |p::r,k=>match Nat.beq p.1 k with|true=>p.2|false=>aa r k
theorem ba {k:Nat} {e:ao} {M:Mem}:aa ((k,e)::M) k=e:=by simp[aa]
theorem aQ {k k':Nat} {e:ao} {M:Mem} (h:k≠k'):aa ((k,e)::M) k'=aa M k':=by
  have:Nat.beq k k'=false:=by
    cases hb:Nat.beq k k'
    · rfl
    · exact absurd (Nat.eq_of_beq_eq_true hb) h
  simp only[aa,this]
def bx (M:Mem):Nat->Nat×Nat:=λk=>((aa M k).rs,(aa M k).ds)
def ar.row? :ar->Option Row
  | .dead=>none
  | .cells l=>some ⟨l.length,1,λ_ j=>aq l j⟩
  | .row sz n f=>some ⟨sz,n,f⟩
def inner (r:Row) (i j:Nat):Option Row:=
  match r.f i j with
  | .il sz n g=>some ⟨sz,n,g⟩
  |_=>none
def cy (b:ar):Path->Option Row
  |none=>b.row?
  |some (i,j)=>match b with| .row sz n f=>inner ⟨sz,n,f⟩ i j|_=>none
def rowAt (M:Mem) (k:Nat) (p:Path):Option Row:=cy (aa M k).b p
def Row.set (r:Row) (i j:Nat) (v:SV):Row:=⟨r.sz,r.n,λi' j'=>match Nat.beq j' j with|false=>r.f i' j'|true=>dq (Nat.beq i' i) v (r.f i' j')⟩
def aV (w:World) (o:Ow) (hl:Option (Nat×Nat)) (k i j:Nat) (s:SV) (x:Value):Prop:=
  match s with
  | .il sz n _=>hl=some (i,j)\/(Head o k (some (i,j)) 0 n x/\ ∀L,o.β k (some (i,j))=some L->L.sz=sz)
  |s=>Den w o s x
def cV (w:World) (o:Ow) (hl:Option (Nat×Nat)) (k:Nat):Path->Nat->Nat->SV->Value->Prop
  |none,i,j,s,x=>aV w o hl k i j s x
  |some _,_,_,s,x=>Den w o s x
def gn (w:World) (o:Ow) (hl:Option (Nat×Nat)) (k:Nat) (p:Path) (L:Loc) (r:Row):Prop:=
  ∃(c:Array Value) (T:TypeId),w.heap[L.b]? =some (Obj.cells c T (0,0))/\c.size=L.len/\L.o+L.bD*L.sz<=L.len/\
   ∀i,i<L.bD-> ∀j,j<L.sz-> ∃x,c[L.o+i*L.sz+j]? =some x/\cV w o hl k p i j (r.f i j) x
structure ai (w:World) (o:Ow) (M:Mem):Prop where
  cur:o.cur=bx M
  own: ∀b,(∃k p L,o.β k p=some L/\L.b=b)->o.A b
  bI: ∀b,o.A b->b<w.heap.size
  dj: ∀b,o.A b-> ¬o.Z b
  cA: ∀b,o.Z b->b<w.heap.size
  inj: ∀k p L k' p' L',o.β k p=some L->o.β k' p'=some L'->L.b=L'.b->k=k'/\p=p'
  low: ∀k p L,o.β k p=some L->L.b<w.heap.size
  row: ∀k p L,o.β k p=some L-> ∃r,rowAt M k p=some r/\r.sz=L.sz/\r.n=L.bD/\gn w o (aa M k).hl k p L r
  live: ∀k l,(aa M k).b= .cells l-> ∃L,o.β k none=some L
  bN: ∀k i j,(aa M k).hl=some (i,j)->o.β k (some (i,j))=none
theorem cj {w:World} {o:Ow} {hl:Option (Nat×Nat)} {k i j:Nat} {s:SV} {x:Value} (h:aX s=false):aV w o hl k i j s x=Den w o s x:=by
  unfold aV
  split
  · cases h
  · rfl
theorem aV.ext {w w':World} {o o':Ow} (h:Ext w o w' o') {hl:Option (Nat×Nat)} {k i j:Nat} (hs:(o'.cur k).2=(o.cur k).2) (hb: ∀q,o'.β k q=o.β k q) {s:SV} {x:Value} (hc:aV w o hl k i j s x):aV w' o' hl k i j s x:=by
  cases hi:aX s with
  |false=>
   rw[cj hi]at*
   exact Den.ext h hc
  |true=>
   cases s with
   |il sz n g=>
    rcases hc with hc|⟨U,h2⟩
    · exact .inl hc
    · exact .inr ⟨U.ext h hs,λL hL=>h2 L (by rw[<-hb];exact hL)⟩
   |_=>cases hi
theorem cV.ext {w w':World} {o o':Ow} (h:Ext w o w' o') {hl:Option (Nat×Nat)} {k i j:Nat} {p:Path} (hs:(o'.cur k).2=(o.cur k).2) (hb: ∀q,o'.β k q=o.β k q) {s:SV} {x:Value} (hc:cV w o hl k p i j s x):cV w' o' hl k p i j s x:=by
  cases p with
  |none=>exact aV.ext h hs hb hc
  |some _=>exact Den.ext h hc
theorem gn.ext {w w':World} {o o':Ow} (h:Ext w o w' o') {hl:Option (Nat×Nat)} {k:Nat} {p:Path} {L:Loc} {r:Row} (hs:(o'.cur k).2=(o.cur k).2) (hb: ∀q,o'.β k q=o.β k q) (hh:w'.heap[L.b]? =w.heap[L.b]?)
    (hr:gn w o hl k p L r):gn w' o' hl k p L r:=by
  obtain⟨c,T,U,h2,h3,h4⟩:=hr
  refine⟨c,T,hh.trans U,h2,h3,λi hi j hj=>?_⟩
  obtain⟨x,h5,h6⟩:=h4 i hi j hj
  exact⟨x,h5,h6.ext h hs hb⟩
theorem gn.lt {w:World} {o:Ow} {hl:Option (Nat×Nat)} {k:Nat} {p:Path} {L:Loc} {r:Row} (hr:gn w o hl k p L r):L.b<w.heap.size:=by
  obtain⟨c,T,U,_⟩:=hr
  exact(Array.getElem?_eq_some_iff.1 U).1
structure az (w:World) (o:Ow) (M:Mem) (w':World) (o':Ow) (M':Mem):Prop where
  ext:Ext w o w' o'
  mem:ai w' o' M'
theorem az.trans {w w' cb:World} {o o' oI:Ow} {M M' Ay:Mem} (h:az w o M w' o' M') (k:az w' o' M' cb oI Ay):az w o M cb oI Ay:=⟨h.ext.trans k.ext,k.mem⟩
theorem az.refl {w:World} {o:Ow} {M:Mem} (h:ai w o M):az w o M w o M:=⟨Ext.refl _ _,h⟩
/-! ### a world with the same memory, or more of it -/
def Cw (w w':World):Prop:=w'.os=w.os/\w'.tape=w.tape/\w'.output=w.output/\w.heap.size<=w'.heap.size/\ ∀b,b<w.heap.size->w'.heap[b]? =w.heap[b]?
theorem Cw.refl (w:World):Cw w w:=⟨rfl,rfl,rfl,Nat.le_refl _,λ_ _=>rfl⟩
theorem Cw.ext {w w':World} (h:Cw w w') (o:Ow):Ext w o w' o:=⟨h.1,h.2.1,h.2.2.1,λb hb _=>h.2.2.2.2 b hb,λ_ _ h=>h,λ_ _ _ h=>h,h.2.2.2.1,λ_=>⟨Nat.le_refl _,Nat.le_refl _⟩,λ_ _ _ h _=>h,λ_ h=>h⟩
theorem ai.more {w w':World} {o:Ow} {M:Mem} (hm:ai w o M) (h:Cw w w'):ai w' o M where
  cur:=hm.cur
  own:=hm.own
  bI:=λb hb=>Nat.lt_of_lt_of_le (hm.bI b hb) h.2.2.2.1
  dj:=hm.dj
  cA:=λb hb=>Nat.lt_of_lt_of_le (hm.cA b hb) h.2.2.2.1
  inj:=hm.inj
  low:=λk p L hL=>Nat.lt_of_lt_of_le (hm.low k p L hL) h.2.2.2.1
  row:=λk p L hL=>by
    obtain⟨r,U,h2,h3,h4⟩:=hm.row k p L hL
    exact⟨r,U,h2,h3,h4.ext (h.ext o) rfl (λ_=>rfl) (h.2.2.2.2 _ (hm.low k p L hL))⟩
  live:=hm.live
  bN:=hm.bN
theorem az.more {w w':World} {o:Ow} {M:Mem} (hm:ai w o M) (h:Cw w w'):az w o M w' o M:=⟨h.ext o,hm.more h⟩
/-! ### a new root -/
def Ow.add (o:Ow) (k:Nat) (L:Loc):Ow:=⟨λb=>o.A b\/b=L.b,o.Z,λk' p=>if k'=k/\p=none then some L else o.β k' p,o.cur⟩
def lQ (o:Ow) (M:Mem) (k:Nat):Prop:=(aa M k).b= .dead/\(aa M k).hl=none/\ ∀p,o.β k p=none
def fresh (M:Mem) (k:Nat) (b:ar):Mem:=(k,⟨(aa M k).rs,(aa M k).ds,none,b⟩)::M
theorem lf {M:Mem} {k:Nat} {e:ao} (U:e.rs=(aa M k).rs) (h2:e.ds=(aa M k).ds):bx ((k,e)::M)=bx M:=by
  funext k'
  unfold bx
  by_cases hk:k=k'
  · subst hk;rw[ba,U,h2]
  · rw[aQ hk]
theorem sN {w:World} {o:Ow} {k:Nat} {ob:Obj} {L:Loc} (hb:L.b=w.heap.size) (hf: ∀p,o.β k p=none):Ext w o (w.alloc ob) (o.add k L) where
  os:=rfl
  tape:=rfl
  output:=rfl
  same:=λb hb _=>Below.heap_alloc _ _ _ hb
  free:=λb af h h2=>h2.elim h (λe=>by omega)
  cI:=λ_ _ _ h=>h
  size:=by simp
  mono:=λ_=>⟨Nat.le_refl _,Nat.le_refl _⟩
  fU:=λk' p L' h _=>by
   show(if k'=k/\p=none then some L else o.β k' p)=some L'
   rw[if_neg]
   · exact h
   · rintro ⟨rfl,rfl⟩;rw[hf]at h;cases h
  zs:=λ_ h=>h
theorem az.alloc {w:World} {o:Ow} {M:Mem} (hm:ai w o M) {k:Nat} (hf:lQ o M k) {c:Array Value} {T:TypeId} {b:ar} {r:Row} (hr:b.row? =some r)
    {L:Loc} (hL:L=⟨w.heap.size,0,r.sz,r.n,c.size⟩) (hc:r.n*r.sz<=c.size)
    (jj: ∀i,i<r.n-> ∀j,j<r.sz-> ∃x,c[i*r.sz+j]? =some x/\cV (w.alloc (.cells c T)) (o.add k L) none k none i j (r.f i j) x):
    az w o M (w.alloc (.cells c T)) (o.add k L) (fresh M k b):=by
  have aF:Ext w o (w.alloc (.cells c T)) (o.add k L):=sN (by rw[hL]) hf.2.2
  have a_: ∀k' p L',(o.add k L).β k' p=some L'->(k'=k/\p=none/\L'=L)\/(¬(k'=k)/\o.β k' p=some L'):=by
    intro k' p L' h
    by_cases hk:k'=k/\p=none
    · have h':(if k'=k/\p=none then some L else o.β k' p)=some L':=h
      rw[if_pos hk]at h'
      exact .inl ⟨hk.1,hk.2,(Option.some.inj h').symm⟩
    · have h':(if k'=k/\p=none then some L else o.β k' p)=some L':=h
      rw[if_neg hk]at h'
      refine .inr ⟨λe=>?_,h'⟩
      subst e;rw[hf.2.2]at h';cases h'
  have zy:L.b=w.heap.size:=by rw[hL]
  refine⟨aF,?_,?_,?_,?_,?_,?_,?_,?_,?_,?_⟩
  · show o.cur=_
    rw[hm.cur]
    unfold fresh
    exact(lf (M:=M) (k:=k) (e:=⟨(aa M k).rs,(aa M k).ds,none,b⟩) rfl rfl).symm
  · rintro b' ⟨k',p,L',U,h2⟩
    rcases a_ k' p L' U with⟨_,_,rfl⟩|⟨_,h⟩
    · exact .inr h2.symm
    · exact .inl ((hm.own b') ⟨k',p,L',h,h2⟩)
  · rintro b' (h|rfl)
    · exact Nat.lt_of_lt_of_le (hm.bI b' h) aF.size
    · rw[hL];simp
  · rintro b' (h|rfl) hz
    · exact hm.dj b' h hz
    · have:=hm.cA _ hz;omega
  · exactλb' hz=>Nat.lt_of_lt_of_le (hm.cA b' hz) aF.size
  · intro k1 p1 L1 k2 p2 L2 U h2 e
    rcases a_ _ _ _ U with⟨rfl,rfl,rfl⟩|⟨_,g1⟩<;>rcases a_ _ _ _ h2 with⟨rfl,rfl,rfl⟩|⟨_,g2⟩
    · exact⟨rfl,rfl⟩
    · have:=hm.low _ _ _ g2;omega
    · have:=hm.low _ _ _ g1;omega
    · exact hm.inj _ _ _ _ _ _ g1 g2 e
  · intro k1 p1 L1 U
    rcases a_ _ _ _ U with⟨rfl,rfl,rfl⟩|⟨_,g1⟩
    · rw[zy];simp
    · have:=hm.low _ _ _ g1;simp;omega
  · intro k1 p1 L1 U
    rcases a_ _ _ _ U with⟨rfl,rfl,rfl⟩|⟨aP,g1⟩
    · refine⟨r,by unfold rowAt fresh;rw[ba];exact hr,by rw[hL],by rw[hL],c,T,by rw[zy];exact heap_alloc_new w _,by rw[hL],by rw[hL];simpa using hc,?_⟩
      rw[hL]
      intro i hi j hj
      obtain⟨x,e1,e2⟩:=jj i hi j hj
      refine⟨x,by simpa using e1,?_⟩
      unfold fresh;rw[ba]
      rw[hL]at e2
      exact e2
    · obtain⟨r1,e1,e2,e3,e4⟩:=hm.row k1 p1 L1 g1
      refine⟨r1,by unfold rowAt fresh;rw[aQ (Ne.symm aP)];exact e1,e2,e3,?_⟩
      unfold fresh;rw[aQ (Ne.symm aP)]
      refine e4.ext aF rfl (λq=>?_) (Below.heap_alloc _ _ _ (hm.low _ _ _ g1))
      show(if k1=k/\q=none then some L else o.β k1 q)=_
      rw[if_neg (λh=>aP h.1)]
  · intro k1 l h
    by_cases hk:k1=k
    · subst hk;exact⟨L,by simp[Ow.add]⟩
    · unfold fresh at h;rw[aQ (Ne.symm hk)]at h
      obtain⟨L1,U⟩:=hm.live k1 l h
      exact⟨L1,aF.fU _ _ _ U rfl⟩
  · intro k1 i1 j1 h
    by_cases hk:k1=k
    · subst hk;unfold fresh at h;rw[ba]at h;cases h
    · unfold fresh at h;rw[aQ (Ne.symm hk)]at h
      show(if k1=k/\some (i1,j1)=none then some L else o.β k1 (some (i1,j1)))=none
      rw[if_neg (λh=>hk h.1)]
      exact hm.bN _ _ _ h
/-! ### one cell is written -/
theorem mw (w:World) (a:Addr) (x:Value) {b:Nat} (h:b≠a.block):(w.setCell a x).heap[b]? =w.heap[b]? :=Below.heap_setCell w a x b h
theorem wB {w:World} {b off:Nat} {x:Value} {c:Array Value} {T:TypeId} {fz:Nat×Nat} (h:w.heap[b]? =some (Obj.cells c T fz)):(w.setCell ⟨b,off,none⟩ x).heap[b]? =some (Obj.cells (c.setIfInBounds off x) T fz):=by
  simp only[World.setCell,Array.getElem?_modify,if_pos,h,Option.map_some,Option.isSome_none,Bool.false_eq_true,if_false]
theorem AZ {w:World} {o:Ow} {a:Addr} (x:Value) (ha:o.A a.block):Ext w o (w.setCell a x) o where
  os:=rfl
  tape:=rfl
  output:=rfl
  same:=λb _ hb=>mw w a x (λe=>hb (e▸ha))
  free:=λ_ _ h=>h
  cI:=λ_ _ _ h=>h
  size:=by simp[World.setCell]
  mono:=λ_=>⟨Nat.le_refl _,Nat.le_refl _⟩
  fU:=λ_ _ _ h _=>h
  zs:=λ_ h=>h
theorem CI {i j i' j' sz o:Nat} (hj:j<sz) (fB:j'<sz) (h:o+i*sz+j=o+i'*sz+j'):i=i'/\j=j':=by
  have h:i*sz+j=i'*sz+j':=by omega
  have U:(i*sz+j)/sz=i:=by rw[Nat.add_comm,Nat.add_mul_div_right _ _ (by omega),Nat.div_eq_of_lt hj];omega
  have h2:(i'*sz+j')/sz=i':=by rw[Nat.add_comm,Nat.add_mul_div_right _ _ (by omega),Nat.div_eq_of_lt fB];omega
  have:i=i':=by rw[<-U,<-h2,h]
  subst this
  exact⟨rfl,by omega⟩
theorem fq {i j sz bD:Nat} (hi:i<bD) (hj:j<sz):i*sz+j<bD*sz:=by
  have:=Nat.mul_le_mul_right sz (show i+1<=bD by omega)
  rw[Nat.add_mul]at this
  omega
theorem az.put {w:World} {o:Ow} {M:Mem} (hm:ai w o M) {k:Nat} {p:Path} {L:Loc} (hL:o.β k p=some L) {i j:Nat} (hi:i<L.bD) (hj:j<L.sz) {x:Value} {e':ao}
    (he:e'.rs=(aa M k).rs/\e'.ds=(aa M k).ds/\e'.hl=(aa M k).hl) (ji: ∀l',e'.b= .cells l'-> ∃l,(aa M k).b= .cells l)
    (cM: ∀q r,cy (aa M k).b q=some r-> ∃r',cy e'.b q=some r'/\r'.sz=r.sz/\r'.n=r.n/\ ∀a,a<r.n-> ∀b,b<r.sz->
     ((q=p/\a=i/\b=j)-> ∀w',Ext w o w' o->cV w' o (aa M k).hl k q a b (r'.f a b) x)/\(¬(q=p/\a=i/\b=j)-> ∀w' y,cV w' o (aa M k).hl k q a b (r.f a b) y->cV w' o (aa M k).hl k q a b (r'.f a b) y)):
    az w o M (w.setCell ⟨L.b,L.o+i*L.sz+j,none⟩ x) o ((k,e')::M):=by
  have hA:o.A L.b:=(hm.own _) ⟨k,p,L,hL,rfl⟩
  have aF:=AZ (w:=w) (o:=o) (a:=⟨L.b,L.o+i*L.sz+j,none⟩) x hA
  refine⟨aF,?_,hm.own,λb h=>by simpa [World.setCell]using hm.bI b h,hm.dj,λb h=>by simpa [World.setCell]using hm.cA b h,hm.inj,λk p L h=>by simpa [World.setCell]using hm.low k p L h,?_,?_,?_⟩
  · rw[hm.cur];exact(lf he.1 he.2.1).symm
  · intro k1 p1 L1 U
    obtain⟨r,e1,e2,e3,e4⟩:=hm.row k1 p1 L1 U
    by_cases hk:k1=k
    · subst hk
      obtain⟨r',f1,f2,f3,f4⟩:=cM p1 r e1
      refine⟨r',by unfold rowAt;rw[ba];exact f1,f2.trans e2,f3.trans e3,?_⟩
      rw[ba,he.2.2]
      obtain⟨c,T,g1,g2,g3,g4⟩:=e4
      by_cases hp:p1=p
      · subst hp
        obtain rfl:L1=L:=Option.some.inj (U.symm.trans hL)
        refine⟨c.setIfInBounds (L1.o+i*L1.sz+j) x,T,wB g1,by simpa using g2,g3,λa ha b hb=>?_⟩
        obtain⟨y,y1,y2⟩:=g4 a ha b hb
        have af:L1.o+a*L1.sz+b<c.size:=(Array.getElem?_eq_some_iff.1 y1).1
        by_cases gH:a=i/\b=j
        · obtain⟨rfl,rfl⟩:=gH
          exact⟨x,by rw[Array.getElem?_setIfInBounds_self_of_lt af],(f4 a (by rw[e3];exact ha) b (by rw[e2];exact hb)).1 ⟨rfl,rfl,rfl⟩ _ aF⟩
        · refine⟨y,?_,(f4 a (by rw[e3];exact ha) b (by rw[e2];exact hb)).2 (λh=>gH h.2) _ y (y2.ext aF rfl (λ_=>rfl))⟩
          rw[Array.getElem?_setIfInBounds_ne]
          · exact y1
          · intro e
            obtain⟨h5,h6⟩:=CI hj hb e
            exact gH ⟨h5.symm,h6.symm⟩
      · have aP:L1.b≠L.b:=λe=>hp (hm.inj _ _ _ _ _ _ U hL e).2
        refine⟨c,T,(mw w _ x aP).trans g1,g2,g3,λa ha b hb=>?_⟩
        obtain⟨y,y1,y2⟩:=g4 a ha b hb
        exact⟨y,y1,(f4 a (by rw[e3];exact ha) b (by rw[e2];exact hb)).2 (λh=>hp h.1) _ y (y2.ext aF rfl (λ_=>rfl))⟩
    · have aP:L1.b≠L.b:=λe=>hk (hm.inj _ _ _ _ _ _ U hL e).1
      refine⟨r,by unfold rowAt;rw[aQ (Ne.symm hk)];exact e1,e2,e3,?_⟩
      rw[aQ (Ne.symm hk)]
      exact e4.ext aF rfl (λ_=>rfl) (mw w _ x aP)
  · intro k1 l h
    by_cases hk:k1=k
    · subst hk
      rw[ba]at h
      obtain⟨l0,h0⟩:=ji l h
      exact hm.live k1 l0 h0
    · rw[aQ (Ne.symm hk)]at h
      exact hm.live k1 l h
  · intro k1 i1 j1 h
    by_cases hk:k1=k
    · subst hk;rw[ba,he.2.2]at h;exact hm.bN _ _ _ h
    · rw[aQ (Ne.symm hk)]at h;exact hm.bN _ _ _ h
theorem az.xA {w:World} {o:Ow} {M:Mem} (hm:ai w o M) {k:Nat} {l:List SV} (hb:(aa M k).b= .cells l) {L:Loc} (hL:o.β k none=some L) {i j:Nat} (hi:i<L.bD) (hj:j<l.length) {v:SV} {x:Value} (hv:aX v=false) (hx:Den w o v x):
    az w o M (w.setCell ⟨L.b,L.o+i*L.sz+j,none⟩ x) o ((k,{aa M k with b:= .cells (l.set j v)})::M):=by
  obtain⟨r,e1,e2,e3,e4⟩:=hm.row k none L hL
  have e1':=e1
  unfold rowAt at e1
  rw[hb]at e1
  obtain rfl:=Option.some.inj e1
  refine az.put hm hL hi (by rw[<-e2];exact hj) ⟨rfl,rfl,rfl⟩ (λ_ _=>⟨l,hb⟩) ?_
  intro q r hr
  rw[hb]at hr
  cases q with
  |none=>
   obtain rfl:=Option.some.inj hr
   refine⟨⟨(l.set j v).length,1,λ_ q=>aq (l.set j v) q⟩,rfl,by simp,rfl,λa ha b bK=>⟨?_,?_⟩⟩
   · rintro ⟨_,rfl,rfl⟩ w' fC
     have:aq (l.set b v) b=v:=by simp[aq,List.getD_eq_getElem?_getD,bK]
     show aV _ _ _ _ _ _ (aq (l.set b v) b) _
     rw[this,cj hv]
     exact hx.ext fC
   · intro aP w' y hy
     have qS:i=0:=by
       have:L.bD=1:=e3.symm
       omega
     have ha0:a=0:=by simp at ha;omega
     have dO:b≠j:=λe=>aP ⟨rfl,by omega,e⟩
     have:aq (l.set j v) b=aq l b:=by simp[aq,List.getD_eq_getElem?_getD,List.getElem?_set_ne (Ne.symm dO)]
     show aV _ _ _ _ _ _ (aq (l.set j v) b) _
     rw[this]
     exact hy
  |some ij=>obtain⟨i',j'⟩:=ij;cases hr
theorem kj {r:Row} {i j i' j':Nat} {v:SV} (h:j'≠j):(r.set i j v).f i' j'=r.f i' j':=by
  have:Nat.beq j' j=false:=by
    cases hb:Nat.beq j' j
    · rfl
    · exact absurd (Nat.eq_of_beq_eq_true hb) h
  simp only[Row.set,this]
theorem ki {r:Row} {i j i':Nat} {v:SV}:(r.set i j v).f i' j=dq (Nat.beq i' i) v (r.f i' j):=by simp[Row.set]
theorem A1 {r:Row} {i j:Nat} (h:aX (r.f i j)=false):inner r i j=none:=by
  unfold inner
  split
  · next e=>rw[e]at h;cases h
  · rfl
theorem az.Dg {w:World} {o:Ow} {M:Mem} (hm:ai w o M) {k sz n:Nat} {f:Nat->Nat->SV} (hb:(aa M k).b= .row sz n f) {L:Loc} (hL:o.β k none=some L) {i j:Nat} (hi:i<L.bD) (hj:j<sz) {v:SV} {x:Value} (hv:aX v=false) (hx:Den w o v x)
    (iM: ∀i',aX (f i' j)=false):
    az w o M (w.setCell ⟨L.b,L.o+i*L.sz+j,none⟩ x) o ((k,{aa M k with b:= .row sz n ((⟨sz,n,f⟩:Row).set i j v).f})::M):=by
  obtain⟨r,e1,e2,e3,e4⟩:=hm.row k none L hL
  unfold rowAt at e1
  rw[hb]at e1
  obtain rfl:=Option.some.inj e1
  have qg: ∀i',aX (((⟨sz,n,f⟩:Row).set i j v).f i' j)=false:=λi'=>by rw[ki,sv hv];exact sw _ _ _
  refine az.put hm hL hi (by rw[<-e2];exact hj) ⟨rfl,rfl,rfl⟩ (λ_ h=>by cases h) ?_
  intro q r hr
  rw[hb]at hr
  cases q with
  |none=>
   obtain rfl:=Option.some.inj hr
   refine⟨⟨sz,n,((⟨sz,n,f⟩:Row).set i j v).f⟩,rfl,rfl,rfl,λa ha b bK=>⟨?_,?_⟩⟩
   · rintro ⟨_,rfl,rfl⟩ w' fC
     show aV _ _ _ _ _ _ (((⟨sz,n,f⟩:Row).set a b v).f a b) _
     rw[cj (qg a),ki]
     exact iX (λ_=>hx.ext fC) (λh=>by rw[Nat.beq_refl]at h;cases h)
   · intro aP w' y hy
     show aV _ _ _ _ _ _ (((⟨sz,n,f⟩:Row).set i j v).f a b) _
     by_cases dO:b=j
     · subst dO
       rw[cj (qg a),ki]
       have hy:aV w' o (aa M k).hl k a b (f a b) y:=hy
       rw[cj (iM a)]at hy
       exact iX (λh=>absurd (Nat.eq_of_beq_eq_true h) (λe=>aP ⟨rfl,e,rfl⟩)) (λ_=>hy)
     · rw[kj dO];exact hy
  |some ij=>
   obtain⟨i',j'⟩:=ij
   have hr:inner ⟨sz,n,f⟩ i' j'=some r:=hr
   have iT:j'≠j:=by
     intro e
     subst e
     rw[A1 (iM i')]at hr
     cases hr
   refine⟨r,?_,rfl,rfl,λa ha b bK=>⟨?_,λ_ _ _ h=>h⟩⟩
   · show inner ⟨sz,n,((⟨sz,n,f⟩:Row).set i j v).f⟩ i' j'=some r
     unfold inner at hr⊢
     simp only[kj iT]
     exact hr
   · rintro ⟨h,_⟩;cases h
def kr (sz:Nat):SV->Bool
  | .il cT _ _=>Nat.beq cT sz
  |_=>false
theorem td {sz:Nat} {s:SV} (h:kr sz s=true): ∃n g,s= .il sz n g:=by
  unfold kr at h
  split at h
  · obtain rfl:=Nat.eq_of_beq_eq_true h;exact⟨_,_,rfl⟩
  · cases h
theorem az.BV {w:World} {o:Ow} {M:Mem} (hm:ai w o M) {k sz n:Nat} {f:Nat->Nat->SV} (hb:(aa M k).b= .row sz n f) {i0 j0:Nat} {av n2:Nat} {g:Nat->Nat->SV} (hg:f i0 j0= .il av n2 g)
    {L:Loc} (hL:o.β k (some (i0,j0))=some L) {i j:Nat} (hi:i<L.bD) (hj:j<av) {v:SV} {x:Value} (hv:aX v=false) (hx:Den w o v x) (iM: ∀i',kr av (f i' j0)=true):
    az w o M (w.setCell ⟨L.b,L.o+i*L.sz+j,none⟩ x) o ((k,{aa M k with b:= .row sz n ((⟨sz,n,f⟩:Row).set i0 j0 (.il av n2 ((⟨av,n2,g⟩:Row).set i j v).f)).f})::M):=by
  obtain⟨r,e1,e2,e3,e4⟩:=hm.row k _ L hL
  unfold rowAt at e1
  rw[hb]at e1
  have e1:inner ⟨sz,n,f⟩ i0 j0=some r:=e1
  unfold inner at e1
  simp only[hg]at e1
  obtain rfl:=Option.some.inj e1
  have vE: ∀i',∃n' g',f i' j0= .il av n' g'/\((⟨sz,n,f⟩:Row).set i0 j0 (.il av n2 ((⟨av,n2,g⟩:Row).set i j v).f)).f i' j0= .il av (bif Nat.beq i' i0 then n2 else n') (λa b=>eH (Nat.beq i' i0) (((⟨av,n2,g⟩:Row).set i j v).f a b) (g' a b)):=by
    intro i'
    obtain⟨n',g',h⟩:=td (iM i')
    exact⟨n',g',h,by rw[ki];show dq _ _ (f i' j0)=_;rw[h];simp[dq]⟩
  have Az: ∀i' n' g',f i' j0= .il av n' g'->(bif Nat.beq i' i0 then n2 else n')=n':=by
    intro i' n' g' h
    cases hb:Nat.beq i' i0
    · rfl
    · obtain rfl:=Nat.eq_of_beq_eq_true hb
      rw[hg]at h;cases h;rfl
  refine az.put hm hL hi (by rw[<-e2];exact hj) ⟨rfl,rfl,rfl⟩ (λ_ h=>by cases h) ?_
  intro q r hr
  rw[hb]at hr
  cases q with
  |none=>
   obtain rfl:=Option.some.inj hr
   refine⟨⟨sz,n,((⟨sz,n,f⟩:Row).set i0 j0 (.il av n2 ((⟨av,n2,g⟩:Row).set i j v).f)).f⟩,rfl,rfl,rfl,λa ha b bK=>⟨?_,?_⟩⟩
   · rintro ⟨h,_⟩;cases h
   · intro _ w' y hy
     show aV _ _ _ _ _ _ (((⟨sz,n,f⟩:Row).set i0 j0 (.il av n2 ((⟨av,n2,g⟩:Row).set i j v).f)).f a b) _
     by_cases dO:b=j0
     · subst dO
       obtain⟨n',g',U,h2⟩:=vE a
       rw[h2]
       have hy:aV w' o (aa M k).hl k a b (f a b) y:=hy
       rw[U]at hy
       show _\/_
       rw[Az a n' g' U]
       exact hy
     · rw[kj dO];exact hy
  |some ij=>
   obtain⟨i',j'⟩:=ij
   have hr:inner ⟨sz,n,f⟩ i' j'=some r:=hr
   by_cases iT:j'=j0
   · subst iT
     obtain⟨n',g',U,h2⟩:=vE i'
     unfold inner at hr
     simp only[U]at hr
     obtain rfl:=Option.some.inj hr
     refine⟨⟨av,bif Nat.beq i' i0 then n2 else n',λa b=>eH (Nat.beq i' i0) (((⟨av,n2,g⟩:Row).set i j v).f a b) (g' a b)⟩,by show inner ⟨sz,n,_⟩ i' j'=_;unfold inner;simp only[h2],rfl,Az i' n' g' U,λa ha b bK=>⟨?_,?_⟩⟩
     · rintro ⟨hq,rfl,rfl⟩ w' fC
       simp only[Option.some.injEq,Prod.mk.injEq,and_true]at hq
       subst hq
       refine mR (λ_=>?_) (λh=>by rw[Nat.beq_refl]at h;cases h)
       rw[ki]
       exact iX (λ_=>hx.ext fC) (λh=>by rw[Nat.beq_refl]at h;cases h)
     · intro aP w' y hy
       refine mR (λh=>?_) (λ_=>hy)
       have h:=Nat.eq_of_beq_eq_true h
       subst h
       rw[hg]at U;cases U
       by_cases dO:b=j
       · subst dO
         rw[ki]
         exact iX (λh=>absurd (Nat.eq_of_beq_eq_true h) (λe=>aP ⟨rfl,e,rfl⟩)) (λ_=>hy)
       · rw[kj dO];exact hy
   · refine⟨r,?_,rfl,rfl,λa ha b bK=>⟨?_,λ_ _ _ h=>h⟩⟩
     · show inner ⟨sz,n,_⟩ i' j'=some r
       unfold inner at hr⊢
       simp only[kj iT]
       exact hr
     · rintro ⟨h,_⟩
       simp only[Option.some.injEq,Prod.mk.injEq]at h
       exact absurd h.2 iT
end Go.Sy
set_option linter.unusedVariables false
set_option linter.unusedSimpArgs false
namespace Go.Sy
open Go.RowKit
def Ow.re (o:Ow) (β:Nat->Path->Option Loc) (M:Mem):Ow:=⟨λb=> ∃k p L,β k p=some L/\L.b=b,o.Z,β,bx M⟩
theorem az.re {w:World} {o:Ow} {M:Mem} (hm:ai w o M) {β:Nat->Path->Option Loc} {M':Mem} (φ:Nat->Path->Nat×Path)
    (U: ∀k p L,β k p=some L-> ∃L0,o.β (φ k p).1 (φ k p).2=some L0/\L.b=L0.b)
    (h2: ∀k p L k' p' L',β k p=some L->β k' p'=some L'->φ k p=φ k' p'->k=k'/\p=p')
    (aF:Ext w o w (o.re β M')) (h3: ∀k p L,β k p=some L-> ∃r,rowAt M' k p=some r/\r.sz=L.sz/\r.n=L.bD/\gn w (o.re β M') (aa M' k).hl k p L r)
    (h4: ∀k l,(aa M' k).b= .cells l-> ∃L,β k none=some L) (h5: ∀k i j,(aa M' k).hl=some (i,j)->β k (some (i,j))=none):az w o M w (o.re β M') M':=by
  refine⟨aF,rfl,λ_ h=>h,?_,?_,hm.cA,?_,?_,h3,h4,h5⟩
  · rintro b ⟨k,p,L,e1,rfl⟩
    obtain⟨L0,f1,f2⟩:=U _ _ _ e1
    rw[f2];exact hm.low _ _ _ f1
  · rintro b ⟨k,p,L,e1,rfl⟩
    obtain⟨L0,f1,f2⟩:=U _ _ _ e1
    rw[f2];exact hm.dj _ (hm.own _ ⟨_,_,_,f1,rfl⟩)
  · intro k p L k' p' L' e1 e2 e
    obtain⟨L0,f1,f2⟩:=U _ _ _ e1
    obtain⟨L1,g1,g2⟩:=U _ _ _ e2
    obtain⟨q1,q2⟩:=hm.inj _ _ _ _ _ _ f1 g1 (by rw[<-f2,<-g2];exact e)
    exact h2 _ _ _ _ _ _ e1 e2 (Prod.ext q1 q2)
  · intro k p L e1
    obtain⟨L0,f1,f2⟩:=U _ _ _ e1
    rw[f2];exact hm.low _ _ _ f1
theorem uj {w:World} {o:Ow} {M M':Mem} (hm:ai w o M) {β:Nat->Path->Option Loc} (U: ∀k p L,β k p=some L-> ∃k0 p0 L0,o.β k0 p0=some L0/\L.b=L0.b)
    (h2: ∀k,(aa M k).rs<=(aa M' k).rs/\(aa M k).ds<=(aa M' k).ds) (h3: ∀k p L,o.β k p=some L->st (bx M') k p=st (bx M) k p->β k p=some L):Ext w o w (o.re β M') where
  os:=rfl
  tape:=rfl
  output:=rfl
  same:=λ_ _ _=>rfl
  free:=λb _ h h'=>by
    obtain⟨k,p,L,e1,e2⟩:=h'
    obtain⟨k0,p0,L0,f1,f2⟩:=U _ _ _ e1
    exact h ((hm.own b) ⟨k0,p0,L0,f1,by rw[<-f2];exact e2⟩)
  cI:=λ_ _ _ h=>h
  size:=Nat.le_refl _
  mono:=λk=>by rw[hm.cur];exact h2 k
  fU:=λk p L h e=>h3 k p L h (by rw[hm.cur]at e;exact e)
  zs:=λ_ h=>h
def kill (M:Mem) (k:Nat):Mem:=(k,⟨(aa M k).rs+1,(aa M k).ds+1,none,.dead⟩)::M
theorem mA {M:Mem} {k:Nat}:aa (kill M k) k=⟨(aa M k).rs+1,(aa M k).ds+1,none,.dead⟩:=ba
theorem fI {M:Mem} {k k':Nat} (h:k≠k'):aa (kill M k) k'=aa M k':=aQ h
theorem az.kill {w:World} {o:Ow} {M:Mem} (hm:ai w o M) (k:Nat): ∃o',az w o M w o' (kill M k)/\(∀k' p,k'≠k->o'.β k' p=o.β k' p)/\(∀p,o'.β k p=none):=by
  refine⟨o.re (λk' p=>if k'=k then none else o.β k' p) (Sy.kill M k),?_,λk' p h=>if_neg h,λp=>if_pos rfl⟩
  have a_: ∀{k' p L},(if k'=k then none else o.β k' p)=some L->k'≠k/\o.β k' p=some L:=by
    intro k' p L h
    split at h
    · cases h
    · next aP=>exact⟨aP,h⟩
  have aF:Ext w o w (o.re (λk' p=>if k'=k then none else o.β k' p) (Sy.kill M k)):=by
    refine uj hm (λk' p L h=>⟨k',p,L,(a_ h).2,rfl⟩) (λk'=>?_) (λk' p L h e=>?_)
    · by_cases hk:k=k'
      · subst hk;rw[mA];exact⟨Nat.le_succ _,Nat.le_succ _⟩
      · rw[fI hk];exact⟨Nat.le_refl _,Nat.le_refl _⟩
    · show(if k'=k then none else o.β k' p)=some L
      rw[if_neg]
      · exact h
      · intro hk
        subst hk
        cases p<;>simp[st,bx,mA]at e
  refine az.re hm (λk p=>(k,p)) (λk' p L h=>⟨L,(a_ h).2,rfl⟩) (λ_ _ _ _ _ _ _ _ e=>by simpa using e) aF (λk' p L h=>?_) (λk' l h=>?_) (λk' i j h=>?_)
  · obtain⟨aP,h⟩:=a_ h
    obtain⟨r,e1,e2,e3,e4⟩:=hm.row _ _ _ h
    refine⟨r,by unfold rowAt;rw[fI (Ne.symm aP)];exact e1,e2,e3,?_⟩
    rw[fI (Ne.symm aP)]
    refine e4.ext aF ?_ (λq=>if_neg aP) rfl
    show(bx _ k').2=_
    rw[hm.cur]
    simp only[bx,fI (Ne.symm aP)]
  · have aP:k≠k':=by
      intro e;subst e;rw[mA]at h;cases h
    rw[fI aP]at h
    obtain⟨L,hL⟩:=hm.live _ _ h
    exact⟨L,(if_neg (Ne.symm aP)).trans hL⟩
  · by_cases hk:k=k'
    · subst hk;exact if_pos rfl
    · rw[fI hk]at h
      exact(if_neg (Ne.symm hk)).trans (hm.bN _ _ _ h)
/-! ### a slice is taken out of its cell -/
def bp:SV->SV
  | .il _ _ _=> .aj
  |s=>s
theorem mz (s:SV):aX (bp s)=false:=by cases s<;>rfl
theorem jX {w:World} {o:Ow} {s:SV} {u:Value} (h:Den w o s u):Den w o (bp s) u:=by cases s<;>first|exact h|trivial
def e_ (M:Mem) (k i j:Nat):Mem:=(k,⟨(aa M k).rs,(aa M k).ds+1,some (i,j),(aa M k).b⟩)::M
theorem wD {M:Mem} {k i j:Nat}:aa (e_ M k i j) k=⟨(aa M k).rs,(aa M k).ds+1,some (i,j),(aa M k).b⟩:=ba
theorem oO {M:Mem} {k i j k':Nat} (h:k≠k'):aa (e_ M k i j) k'=aa M k':=aQ h
theorem az.yY {w:World} {o:Ow} {M:Mem} (hm:ai w o M) {k r i j:Nat} (en:k≠r) (hf:lQ o M r) (d_:(aa M k).hl=none) {sz n av n2:Nat} {f g:Nat->Nat->SV} (hb:(aa M k).b= .row sz n f) (hg:f i j= .il av n2 g):
    ∃o',az w o M w o' (fresh (e_ M k i j) r (.row av n2 λa b=>bp (g a b)))/\o'.β r none=o.β k (some (i,j))/\(∀p,p≠none->o'.β r p=none)/\(∀k' p,k'≠r->(k',p)≠(k,some (i,j))->o'.β k' p=o.β k' p):=by
  let β:Nat->Path->Option Loc:=λk' p=>if k'=r then(if p=none then o.β k (some (i,j))else none)else if k'=k/\p=some (i,j)then none else o.β k' p
  let φ:Nat->Path->Nat×Path:=λk' p=>if k'=r then(k,some (i,j))else(k',p)
  have a_: ∀{k' p L},β k' p=some L->(k'=r/\p=none/\o.β k (some (i,j))=some L)\/(k'≠r/\ ¬(k'=k/\p=some (i,j))/\o.β k' p=some L):=by
    intro k' p L h
    by_cases U:k'=r
    · simp only[β,if_pos U]at h
      by_cases h2:p=none
      · simp only[if_pos h2]at h;exact .inl ⟨U,h2,h⟩
      · simp only[if_neg h2]at h;cases h
    · simp only[β,if_neg U]at h
      by_cases h2:k'=k/\p=some (i,j)
      · simp only[if_pos h2]at h;cases h
      · simp only[if_neg h2]at h;exact .inr ⟨U,h2,h⟩
  have df: ∀k',k'≠r->k'≠k->aa (fresh (e_ M k i j) r (.row av n2 λa b=>bp (g a b))) k'=aa M k':=λk' U h2=>by
    unfold fresh;rw[aQ (Ne.symm U),oO (Ne.symm h2)]
  have cB:aa (fresh (e_ M k i j) r (.row av n2 λa b=>bp (g a b))) k=⟨(aa M k).rs,(aa M k).ds+1,some (i,j),(aa M k).b⟩:=by
    unfold fresh;rw[aQ (Ne.symm en),wD]
  have dH:aa (fresh (e_ M k i j) r (.row av n2 λa b=>bp (g a b))) r=⟨(aa M r).rs,(aa M r).ds,none,.row av n2 λa b=>bp (g a b)⟩:=by
    unfold fresh;rw[ba,oO en]
  have nR: ∀k' p L,β k' p=some L-> ∃L0,o.β (φ k' p).1 (φ k' p).2=some L0/\L.b=L0.b:=by
    intro k' p L h
    rcases a_ h with⟨rfl,rfl,h3⟩|⟨U,h2,h3⟩
    · exact⟨L,by simpa [φ]using h3,rfl⟩
    · exact⟨L,by simpa [φ,U]using h3,rfl⟩
  have aF:Ext w o w (o.re β (fresh (e_ M k i j) r (.row av n2 λa b=>bp (g a b)))):=by
    refine uj hm (λk' p L h=>let⟨L0,e1,e2⟩:=nR k' p L h;⟨_,_,L0,e1,e2⟩) (λk'=>?_) (λk' p L h e=>?_)
    · by_cases U:k'=r
      · subst U;rw[dH];exact⟨Nat.le_refl _,Nat.le_refl _⟩
      · by_cases h2:k'=k
        · subst h2;rw[cB];exact⟨Nat.le_refl _,Nat.le_succ _⟩
        · rw[df k' U h2];exact⟨Nat.le_refl _,Nat.le_refl _⟩
    · have U:k'≠r:=by intro e;subst e;rw[hf.2.2]at h;cases h
      simp only[β,if_neg U]
      rw[if_neg]
      · exact h
      · rintro ⟨rfl,rfl⟩
        simp[st,bx,cB]at e
  refine⟨o.re β _,az.re hm φ nR ?_ aF ?_ ?_ ?_,?_,?_,?_⟩
  · intro k1 p1 L1 k2 p2 L2 e1 e2 e
    rcases a_ e1 with⟨rfl,rfl,_⟩|⟨U,h2,_⟩<;>rcases a_ e2 with⟨rfl,rfl,_⟩|⟨g1,g2,_⟩
    · exact⟨rfl,rfl⟩
    · simp only[φ,if_true,if_neg g1,Prod.mk.injEq]at e;exact absurd ⟨e.1.symm,e.2.symm⟩ g2
    · simp only[φ,if_true,if_neg U,Prod.mk.injEq]at e;exact absurd e h2
    · simp only[φ,if_neg U,if_neg g1,Prod.mk.injEq]at e;exact e
  · intro k' p L h
    rcases a_ h with⟨rfl,rfl,h5⟩|⟨U,h2,h5⟩
    · obtain⟨r1,e1,e2,e3,c,T,e4,e5,e6,e7⟩:=hm.row _ _ _ h5
      unfold rowAt at e1
      rw[hb]at e1
      have e1:inner ⟨sz,n,f⟩ i j=some r1:=e1
      unfold inner at e1
      simp only[hg]at e1
      obtain rfl:=Option.some.inj e1
      refine⟨⟨av,n2,λa b=>bp (g a b)⟩,by unfold rowAt;rw[dH];rfl,e2,e3,c,T,e4,e5,e6,λa ha b bK=>?_⟩
      obtain⟨x,x1,x2⟩:=e7 a ha b bK
      refine⟨x,x1,?_⟩
      have x2:Den w o (g a b) x:=x2
      have x3:=x2.ext aF
      rw[dH]
      show aV _ _ none k' a b (bp (g a b)) x
      rw[cj (mz _)]
      exact jX x3
    · obtain⟨r1,e1,e2,e3,e4⟩:=hm.row _ _ _ h5
      by_cases hk:k'=k
      · subst hk
        refine⟨r1,by unfold rowAt;rw[cB];exact e1,e2,e3,?_⟩
        rw[cB]
        obtain⟨c,T,f1,f2,f3,f4⟩:=e4
        refine⟨c,T,f1,f2,f3,λa ha b bK=>?_⟩
        obtain⟨x,x1,x2⟩:=f4 a ha b bK
        refine⟨x,x1,?_⟩
        cases p with
        |some _=>exact Den.ext aF x2
        |none=>
         have x2:aV w o (aa M k').hl k' a b (r1.f a b) x:=x2
         show aV _ _ (some (i,j)) k' a b (r1.f a b) x
         generalize r1.f a b=s1 at x2⊢
         cases hi:aX s1 with
         |false=>rw[cj hi]at*;exact x2.ext aF
         |true=>
          cases s1 with
          |il s5 n5 g5=>
           rcases x2 with x2|⟨⟨q,cap,y1,y2,y3,y4⟩,y5⟩
           · rw[d_]at x2;cases x2
           · by_cases gH:(a,b)=(i,j)
             · simp only[Prod.mk.injEq]at gH;obtain⟨rfl,rfl⟩:=gH;exact .inl rfl
             · have fi:(o.re β (fresh (e_ M k' i j) r (.row av n2 λa b=>bp (g a b)))).β k' (some (a,b))=o.β k' (some (a,b)):=by
                 show β k' (some (a,b))=_
                 simp only[β,if_neg U]
                 rw[if_neg]
                 rintro ⟨_,e⟩
                 exact gH (Option.some.inj e)
               exact .inr ⟨⟨q,cap,y1,y2,y3,by rw[fi];exact y4⟩,by rw[fi];exact y5⟩
          |_=>cases hi
      · refine⟨r1,by unfold rowAt;rw[df k' U hk];exact e1,e2,e3,?_⟩
        rw[df k' U hk]
        refine e4.ext aF ?_ (λq=>?_) rfl
        · show(bx _ k').2=_
          rw[hm.cur];simp only[bx,df k' U hk]
        · show β k' q=_
          simp only[β,if_neg U]
          rw[if_neg (λh=>hk h.1)]
  · intro k' l h
    by_cases U:k'=r
    · subst U;rw[dH]at h;cases h
    · by_cases h2:k'=k
      · subst h2;rw[cB,hb]at h;cases h
      · rw[df k' U h2]at h
        obtain⟨L,hL⟩:=hm.live _ _ h
        refine⟨L,?_⟩
        simp only[β,if_neg U]
        rw[if_neg (λh=>h2 h.1)]
        exact hL
  · intro k' a b h
    by_cases U:k'=r
    · subst U;rw[dH]at h;cases h
    · simp only[β,if_neg U]
      by_cases h2:k'=k
      · subst h2
        rw[cB]at h
        rw[if_pos ⟨rfl,h.symm⟩]
      · rw[df k' U h2]at h
        rw[if_neg (λh=>h2 h.1)]
        exact hm.bN _ _ _ h
  · show β r none=_
    simp[β]
  · intro p hp
    show β r p=none
    simp[β,hp]
  · intro k' p U h2
    show β k' p=_
    simp only[β,if_neg U]
    rw[if_neg]
    rintro ⟨rfl,rfl⟩
    exact h2 rfl
theorem az.dummy {w:World} {o:Ow} {M:Mem} (hm:ai w o M) {r:Nat} (hf:lQ o M r) (sz n:Nat) (f:Nat->Nat->SV):az w o M w o (fresh M r (.row sz n f)):=by
  refine⟨Ext.refl _ _,?_,hm.own,hm.bI,hm.dj,hm.cA,hm.inj,hm.low,λk p L h=>?_,λk l h=>?_,λk i j h=>?_⟩
  · rw[hm.cur];exact(lf (M:=M) (k:=r) (e:=⟨(aa M r).rs,(aa M r).ds,none,.row sz n f⟩) rfl rfl).symm
  · have aP:r≠k:=λe=>by subst e;rw[hf.2.2]at h;cases h
    obtain⟨r1,e1,e2,e3,e4⟩:=hm.row k p L h
    exact⟨r1,by unfold rowAt fresh;rw[aQ aP];exact e1,e2,e3,by unfold fresh;rw[aQ aP];exact e4⟩
  · have aP:r≠k:=λe=>by subst e;unfold fresh at h;rw[ba]at h;cases h
    unfold fresh at h;rw[aQ aP]at h
    exact hm.live k l h
  · by_cases aP:r=k
    · subst aP;exact hf.2.2 _
    · unfold fresh at h;rw[aQ aP]at h
      exact hm.bN _ _ _ h
def fill (M:Mem) (k i j r sz n:Nat) (f:Nat->Nat->SV) (av n2:Nat) (g:Nat->Nat->SV):Mem:=
  (k,⟨(aa M k).rs,(aa M k).ds+1,none,.row sz n ((⟨sz,n,f⟩:Row).set i j (.il av n2 g)).f⟩)::kill M r
theorem az.fill {w:World} {o:Ow} {M:Mem} (hm:ai w o M) {k r i j:Nat} (en:k≠r) (d_:(aa M k).hl=some (i,j)) {sz n av n2 nr:Nat} {f g:Nat->Nat->SV} (hb:(aa M k).b= .row sz n f) (iM: ∀i',kr av (f i' j)=true)
    (hr:(aa M r).b= .row av nr g) {x:Value} (hx:Head o r none 0 n2 x) {L:Loc} (hL:o.β k none=some L) (hi:i<L.bD) (hj:j<sz):
    ∃o',az w o M (w.setCell ⟨L.b,L.o+i*L.sz+j,none⟩ x) o' (Sy.fill M k i j r sz n f av n2 g)/\(∀k' p,k'≠r->(k',p)≠(k,some (i,j))->o'.β k' p=o.β k' p)/\(∀p,o'.β r p=none):=by
  obtain⟨nh,gh,aZ⟩:=td (iM i)
  obtain⟨r0,e1,e2,e3,_⟩:=hm.row k none L hL
  unfold rowAt at e1
  rw[hb]at e1
  obtain rfl:=Option.some.inj e1
  have s1:az w o M (w.setCell ⟨L.b,L.o+i*L.sz+j,none⟩ x) o ((k,aa M k)::M):=by
    refine az.put hm hL hi (by rw[<-e2];exact hj) ⟨rfl,rfl,rfl⟩ (λl h=>⟨l,h⟩) (λq r h=>⟨r,h,rfl,rfl,λa ha b bK=>⟨?_,λ_ _ _ h=>h⟩⟩)
    rintro ⟨rfl,rfl,rfl⟩ w' fC
    rw[hb]at h
    obtain rfl:=Option.some.inj h
    show aV _ _ _ _ _ _ (f a b) _
    rw[aZ]
    exact .inl d_
  have iS:=s1.mem
  have jj: ∀c T,(w.setCell ⟨L.b,L.o+i*L.sz+j,none⟩ x).heap[L.b]? =some (Obj.cells c T (0,0))->L.o+i*L.sz+j<c.size->c[L.o+i*L.sz+j]? =some x:=by
    intro c T h af
    obtain⟨_,_,_,_,c0,T0,f1,f2,f3,f4⟩:=hm.row k none L hL
    rw[wB f1]at h
    obtain⟨rfl,_⟩:=Obj.cells.inj (Option.some.inj h)
    rw[Array.getElem?_setIfInBounds_self_of_lt (by simpa using af)]
  generalize hw1:w.setCell ⟨L.b,L.o+i*L.sz+j,none⟩ x=w1 at s1 iS jj
  let β:Nat->Path->Option Loc:=λk' p=>if k'=r then none else if k'=k/\p=some (i,j)then(o.β r none).map (λL=>{L with bD:=n2})else o.β k' p
  let φ:Nat->Path->Nat×Path:=λk' p=>if k'=k/\p=some (i,j)then(r,none)else(k',p)
  have a_: ∀{k' p L'},β k' p=some L'->(k'=k/\p=some (i,j)/\ ∃L0,o.β r none=some L0/\L'={L0 with bD:=n2})\/(k'≠r/\ ¬(k'=k/\p=some (i,j))/\o.β k' p=some L'):=by
    intro k' p L' h
    by_cases U:k'=r
    · simp only[β,if_pos U]at h;cases h
    · simp only[β,if_neg U]at h
      by_cases h2:k'=k/\p=some (i,j)
      · rw[if_pos h2]at h
        cases gY:o.β r none with
        |none=>rw[gY]at h;cases h
        |some L0=>rw[gY]at h;exact .inl ⟨h2.1,h2.2,L0,rfl,(Option.some.inj h).symm⟩
      · rw[if_neg h2]at h;exact .inr ⟨U,h2,h⟩
  have cB:aa (Sy.fill M k i j r sz n f av n2 g) k=⟨(aa M k).rs,(aa M k).ds+1,none,.row sz n ((⟨sz,n,f⟩:Row).set i j (.il av n2 g)).f⟩:=ba
  have dH:aa (Sy.fill M k i j r sz n f av n2 g) r=⟨(aa M r).rs+1,(aa M r).ds+1,none,.dead⟩:=by unfold Sy.fill;rw[aQ en,mA]
  have df: ∀k',k'≠r->k'≠k->aa (Sy.fill M k i j r sz n f av n2 g) k'=aa M k':=λk' U h2=>by unfold Sy.fill;rw[aQ (Ne.symm h2),fI (Ne.symm U)]
  have iE: ∀k',aa ((k,aa M k)::M) k'=aa M k':=λk'=>by
    by_cases h:k=k'
    · subst h;rw[ba]
    · rw[aQ h]
  have nR: ∀k' p L',β k' p=some L'-> ∃L0,o.β (φ k' p).1 (φ k' p).2=some L0/\L'.b=L0.b:=by
    intro k' p L' h
    rcases a_ h with⟨rfl,rfl,L0,h3,rfl⟩|⟨U,h2,h3⟩
    · exact⟨L0,by simpa [φ]using h3,rfl⟩
    · exact⟨L',by simpa [φ,h2]using h3,rfl⟩
  have aF:Ext w1 o w1 (o.re β (Sy.fill M k i j r sz n f av n2 g)):=by
    refine uj iS (λk' p L' h=>let⟨L0,e1,e2⟩:=nR k' p L' h;⟨_,_,L0,e1,e2⟩) (λk'=>?_) (λk' p L' h e=>?_)
    · rw[iE]
      by_cases U:k'=k
      · subst U;rw[cB];exact⟨Nat.le_refl _,Nat.le_succ _⟩
      · by_cases h2:k'=r
        · subst h2;rw[dH];exact⟨Nat.le_succ _,Nat.le_succ _⟩
        · rw[df k' h2 U];exact⟨Nat.le_refl _,Nat.le_refl _⟩
    · have U:k'≠r:=by
        intro e;subst e
        cases p<;>simp[st,bx,dH,iE]at e
      simp only[β,if_neg U]
      rw[if_neg]
      · exact h
      · rintro ⟨rfl,rfl⟩
        simp[st,bx,cB,iE]at e
  have eO: ∀i',∃n' g',f i' j= .il av n' g'/\((⟨sz,n,f⟩:Row).set i j (.il av n2 g)).f i' j= .il av (bif Nat.beq i' i then n2 else n') (λa b=>eH (Nat.beq i' i) (g a b) (g' a b)):=by
    intro i'
    obtain⟨n',g',h⟩:=td (iM i')
    exact⟨n',g',h,by rw[ki];show dq _ _ (f i' j)=_;rw[h];simp[dq]⟩
  refine⟨o.re β _,s1.trans (⟨aF,(az.re iS φ nR ?_ aF ?_ ?_ ?_).mem⟩:az w1 o _ w1 _ _),?_,?_⟩
  · intro k1 p1 L1 k2 p2 L2 e1 e2 e
    rcases a_ e1 with⟨rfl,rfl,_⟩|⟨U,h2,_⟩<;>rcases a_ e2 with⟨rfl,rfl,_⟩|⟨g1,g2,_⟩
    · exact⟨rfl,rfl⟩
    · simp only[φ,if_neg g2,and_self,if_true,Prod.mk.injEq]at e;exact absurd e.1.symm g1
    · simp only[φ,if_neg h2,and_self,if_true,Prod.mk.injEq]at e;exact absurd e.1 U
    · simp only[φ,if_neg h2,if_neg g2,Prod.mk.injEq]at e;exact e
  · intro k' p L' h
    rcases a_ h with⟨rfl,rfl,L0,h5,rfl⟩|⟨U,h2,h5⟩
    · obtain⟨r1,e4,e5,e6,c,T,e7,e8,e9,hU⟩:=iS.row _ _ _ h5
      unfold rowAt at e4
      rw[iE,hr]at e4
      obtain rfl:=Option.some.inj e4
      obtain⟨n',g',g1,g2⟩:=eO i
      have Ax:n2<=L0.bD:=by
        obtain⟨q,cap,y1,y2,y3,y4⟩:=hx
        rcases y4 with rfl|⟨L2,y5,y6,y7,y8⟩
        · omega
        · obtain rfl:L0=L2:=Option.some.inj (h5.symm.trans y5)
          omega
      have uK:inner ⟨sz,n,((⟨sz,n,f⟩:Row).set i j (.il av n2 g)).f⟩ i j=some ⟨av,bif Nat.beq i i then n2 else n',λa b=>eH (Nat.beq i i) (g a b) (g' a b)⟩:=by
        unfold inner;simp only[g2]
      refine⟨⟨av,bif Nat.beq i i then n2 else n',λa b=>eH (Nat.beq i i) (g a b) (g' a b)⟩,by unfold rowAt;rw[cB];exact uK,e5,by simp,c,T,e7,e8,?_,λa ha b bK=>?_⟩
      · have:=Nat.mul_le_mul_right L0.sz Ax
        show L0.o+n2*L0.sz<=L0.len
        omega
      · obtain⟨y,y1,y2⟩:=hU a (Nat.lt_of_lt_of_le ha Ax) b bK
        refine⟨y,y1,?_⟩
        rw[iE]at y2
        have y2:aV w1 o _ r a b (g a b) y:=y2
        show Den _ _ (eH (Nat.beq i i) (g a b) (g' a b)) y
        refine mR (λ_=>?_) (λh=>by rw[Nat.beq_refl]at h;cases h)
        cases kR:aX (g a b)with
        |false=>rw[cj kR]at y2;exact y2.ext aF
        |true=>
         cases hs:g a b with
         |il _ _ _=>trivial
         |_=>rw[hs]at kR;cases kR
    · obtain⟨r1,e4,e5,e6,e7⟩:=iS.row _ _ _ h5
      by_cases hk:k'=k
      · subst hk
        unfold rowAt at e4
        rw[iE,hb]at e4
        cases p with
        |none=>
         obtain rfl:=Option.some.inj e4
         obtain rfl:L=L':=Option.some.inj (hL.symm.trans h5)
         refine⟨⟨sz,n,((⟨sz,n,f⟩:Row).set i j (.il av n2 g)).f⟩,by unfold rowAt;rw[cB];rfl,e5,e6,?_⟩
         rw[cB]
         obtain⟨c,T,f1,f2,f3,f4⟩:=e7
         refine⟨c,T,f1,f2,f3,λa ha b bK=>?_⟩
         obtain⟨y,y1,y2⟩:=f4 a ha b bK
         refine⟨y,y1,?_⟩
         rw[iE,d_]at y2
         have y2:aV w1 o _ k' a b (f a b) y:=y2
         show aV _ _ none k' a b (((⟨sz,n,f⟩:Row).set i j (.il av n2 g)).f a b) y
         by_cases gH:a=i/\b=j
         · obtain⟨rfl,rfl⟩:=gH
           obtain⟨n',g',g1,g2⟩:=eO a
           rw[g2]
           obtain rfl:y=x:=Option.some.inj (y1.symm.trans (jj c T f1 (Array.getElem?_eq_some_iff.1 y1).1))
           refine .inr ⟨?_,?_⟩
           · rw[Nat.beq_refl]
             obtain⟨q,cap,z1,z2,z3,z4⟩:=hx
             refine⟨q,cap,z1,z2,z3,z4.imp id ?_⟩
             rintro ⟨L2,z5,z6,z7,z8⟩
             refine⟨{L2 with bD:=n2},?_,z6,z7,by simp⟩
             show β k' (some (a,b))=_
             simp only[β,if_neg U,and_self,if_true,z5,Option.map_some]
           · intro L2 we
             have we:β k' (some (a,b))=some L2:=we
             rcases a_ we with⟨_,_,L3,z5,rfl⟩|⟨_,hh,_⟩
             · obtain⟨r3,u1,u2,u3,_⟩:=hm.row _ _ _ z5
               unfold rowAt at u1
               rw[hr]at u1
               obtain rfl:=Option.some.inj u1
               exact u2.symm
             · exact absurd ⟨rfl,rfl⟩ hh
         · by_cases dO:b=j
           · subst dO
             have oH:a≠i:=λe=>gH ⟨e,rfl⟩
             have qw:Nat.beq a i=false:=by
               cases hq:Nat.beq a i
               · rfl
               · exact absurd (Nat.eq_of_beq_eq_true hq) oH
             obtain⟨n',g',g1,g2⟩:=eO a
             rw[g2,qw]
             rw[g1]at y2
             rcases y2 with y2|⟨⟨q,cap,z1,z2,z3,z4⟩,z9⟩
             · simp only[Option.some.injEq,Prod.mk.injEq,and_true]at y2;exact absurd y2.symm oH
             · have fi:β k' (some (a,b))=o.β k' (some (a,b)):=by
                 simp only[β,if_neg U]
                 rw[if_neg]
                 rintro ⟨_,e⟩
                 simp only[Option.some.injEq,Prod.mk.injEq,and_true]at e
                 exact oH e
               exact .inr ⟨⟨q,cap,z1,z2,z3,by show _\/ ∃L,β k' (some (a,b))=_/\_;rw[fi];exact z4⟩,λL2 h2=>z9 L2 (by rw[<-fi];exact h2)⟩
           · rw[kj dO]
             show aV _ _ none k' a b (f a b) y
             cases kR:aX (f a b)with
             |false=>rw[cj kR]at*;exact y2.ext aF
             |true=>
              generalize hs:f a b=s5 at y2⊢
              cases s5 with
              |il s6 n6 g6=>
               rcases y2 with y2|⟨⟨q,cap,z1,z2,z3,z4⟩,z9⟩
               · simp only[Option.some.injEq,Prod.mk.injEq]at y2;exact absurd y2.2.symm dO
               · have fi:β k' (some (a,b))=o.β k' (some (a,b)):=by
                   simp only[β,if_neg U]
                   rw[if_neg]
                   rintro ⟨_,e⟩
                   simp only[Option.some.injEq,Prod.mk.injEq]at e
                   exact dO e.2
                 exact .inr ⟨⟨q,cap,z1,z2,z3,by show _\/ ∃L,β k' (some (a,b))=_/\_;rw[fi];exact z4⟩,λL2 h2=>z9 L2 (by rw[<-fi];exact h2)⟩
              |_=>rw[hs]at kR;cases kR
        |some ab=>
         obtain⟨a',b'⟩:=ab
         have e4:inner ⟨sz,n,f⟩ a' b'=some r1:=e4
         by_cases dO:b'=j
         · subst dO
           have oH:a'≠i:=λe=>h2 ⟨rfl,by rw[e]⟩
           have qw:Nat.beq a' i=false:=by
             cases hq:Nat.beq a' i
             · rfl
             · exact absurd (Nat.eq_of_beq_eq_true hq) oH
           obtain⟨n',g',g1,g2⟩:=eO a'
           unfold inner at e4
           simp only[g1]at e4
           obtain rfl:=Option.some.inj e4
           have uK:inner ⟨sz,n,((⟨sz,n,f⟩:Row).set i b' (.il av n2 g)).f⟩ a' b'=some ⟨av,bif Nat.beq a' i then n2 else n',λa b=>eH (Nat.beq a' i) (g a b) (g' a b)⟩:=by
             unfold inner;simp only[g2]
           refine⟨⟨av,bif Nat.beq a' i then n2 else n',λa b=>eH (Nat.beq a' i) (g a b) (g' a b)⟩,by unfold rowAt;rw[cB];exact uK,e5,by rw[qw];exact e6,?_⟩
           obtain⟨c,T,f1,f2,f3,f4⟩:=e7
           refine⟨c,T,f1,f2,f3,λa ha b bK=>?_⟩
           obtain⟨y,y1,y2⟩:=f4 a ha b bK
           refine⟨y,y1,?_⟩
           have y2:Den w1 o (g' a b) y:=y2
           show Den _ _ (eH (Nat.beq a' i) (g a b) (g' a b)) y
           exact mR (λh=>by rw[qw]at h;cases h) (λ_=>y2.ext aF)
         · refine⟨r1,?_,e5,e6,?_⟩
           · unfold rowAt;rw[cB]
             show inner ⟨sz,n,((⟨sz,n,f⟩:Row).set i j (.il av n2 g)).f⟩ a' b'=some r1
             unfold inner at e4⊢
             simp only[kj dO]
             exact e4
           · obtain⟨c,T,f1,f2,f3,f4⟩:=e7
             exact⟨c,T,f1,f2,f3,λa ha b bK=>let⟨y,y1,y2⟩:=f4 a ha b bK;⟨y,y1,Den.ext aF y2⟩⟩
      · refine⟨r1,by unfold rowAt at e4⊢;rw[df k' U hk];rw[iE]at e4;exact e4,e5,e6,?_⟩
        rw[df k' U hk]
        rw[iE]at e7
        refine e7.ext aF ?_ (λq=>?_) rfl
        · show(bx _ k').2=_
          rw[hm.cur];simp only[bx,df k' U hk]
        · show β k' q=_
          simp only[β,if_neg U]
          rw[if_neg (λh=>hk h.1)]
  · intro k' l h
    by_cases U:k'=k
    · subst U;rw[cB]at h;cases h
    · by_cases h2:k'=r
      · subst h2;rw[dH]at h;cases h
      · rw[df k' h2 U]at h
        obtain⟨L1,vW⟩:=hm.live _ _ h
        refine⟨L1,?_⟩
        simp only[β,if_neg h2]
        rw[if_neg (λh=>U h.1)]
        exact vW
  · intro k' a b h
    by_cases U:k'=k
    · subst U;rw[cB]at h;cases h
    · by_cases h2:k'=r
      · subst h2;simp[β]
      · rw[df k' h2 U]at h
        simp only[β,if_neg h2]
        rw[if_neg (λh=>U h.1)]
        exact hm.bN _ _ _ h
  · intro k' p U h2
    show β k' p=_
    simp only[β,if_neg U]
    rw[if_neg]
    rintro ⟨rfl,rfl⟩
    exact h2 rfl
  · intro p
    show β r p=none
    simp[β]
end Go.Sy
set_option linter.unusedVariables false
set_option linter.unusedSimpArgs false
namespace Go.Sy
open Go.RowKit
structure Cx (P:Program) (w:World) (J:Ow) (ρ:Operand->SV) (M:Mem) (a:Act):Prop where
  val: ∀x,Den w J (ρ x) (a.eval x)
  mem:ai w J M
inductive R where
  |bad
  |ok (s:SV)
  |br (p:Prop) (s:SV)
  |eP (p:Prop) (s:SV)
def R.run (r:R) (K:SV->Prop):Prop:=
  match r with
  | .bad=>False
  | .ok s=>K s
  | .br p s=>p/\K s
  | .eP p s=>p->K s
section
variable {P:Program} {w:World} {J:Ow} {ρ:Operand->SV} {M:Mem} {a:Act}
def bV (P:Program) (w:World) (J:Ow) (a:Act) (o:Oper) (K:SV->Prop):Prop:=
  ∃s v,(execOp a.eval o).run P w= .ok (.value v) w/\Den w J s v/\K s
/-! ### loads -/
def fy:TypeDesc->Bool
  | .struct _| .array _ _=>true
  |_=>false
def aR (m:Nat->ao) (k s:Nat):Path->Bool
  |none=>Nat.beq s (m k).rs
  |some _=>Nat.beq s (m k).ds
def kd (e:ao) (k:Nat) (p:Path) (i j:Nat) (s:SV):Option SV:=
  match s with
  | .il _ n _=>
    match p,e.hl with
    |none,none=>some (.aC k e.ds (some (i,j)) 0 n)
    |none,some (_,j0)=>match Nat.beq j0 j with|false=>some (.aC k e.ds (some (i,j)) 0 n)|true=>none
    |some _,_=>some .aj
  |s=>some s
def nQ:List (Option SV)->Option (List SV)
  | []=>some []
  |x::r=>match x,nQ r with|some x,some r=>some (x::r)|_,_=>none
theorem xN: ∀{l:List (Option SV)} {vs:List SV},nQ l=some vs->l=vs.map some
  | [],vs,h=>by simp[nQ]at h;subst h;rfl
  |x::r,vs,h=>by
   unfold nQ at h
   split at h
   · next x' r' hr=>
     obtain rfl:=Option.some.inj h
     simp[xN hr]
   · cases h
def ix (k:IntKind):List SV->Option (List Int)
  | []=>some []
  | .v (.int k' x)::r=>match kb k' k,ix k r with|true,some l=>some (x::l)|_,_=>none
  |_::_=>none
def dh (l:List Int) (z:Nat):Int:=l.getD z 0
def m2 (P:Program) (T:TypeId) (s:SV) (m:Nat->ao):R:=
  match P.info? T,P.underlying T with
  |some i,some d=>
   match s with
   | .ptr k st p ii j=>
     match aR m k st p,cy (m k).b p with
     |true,some r=>
      match fy d with
      |true=>
       match Nat.ble (j+i.size) r.sz with
       |true=>match nQ ((List.range i.size).map λq=>kd (m k) k p ii (j+q) (r.f ii (j+q)))with|some l=> .ok (.ag i.size (aq l))|none=> .bad
       |false=> .bad
      |false=>match Nat.blt j r.sz with|true=>(match kd (m k) k p ii j (r.f ii j)with|some s=> .ok s|none=> .bad)|false=> .bad
     |_,_=> .bad
   | .pe k st p ii j len z=>
     match aR m k st p,cy (m k).b p,d with
     |true,some r,.int kk=>
      match Nat.ble (j+len) r.sz,ix kk ((List.range len).map λq=>r.f ii (j+q))with
      |true,some l=> .ok (.v (.int kk (dh l z)))
      |_,_=> .bad
     |_,_,_=> .bad
   | .pt _ n f=>
     match fy d with
     |true=>match Nat.ble i.size n with|true=> .ok (.ag i.size (out i.size f))|false=> .bad
     |false=>match Nat.blt 0 n with|true=> .ok (f 0)|false=> .bad
   |_=> .bad
  |_,_=> .bad
theorem wA {T:TypeId} {i:TypeInfo} {d:TypeDesc} (hi:P.info? T=some i) (hu:P.underlying T=some d) (hd:fy d=true) (w:World) (ad:Addr) (f:Nat->Value)
    (h: ∀j,j<i.size->w.cell? (ad.add j)=some (f j)):(loadVar T ad).run P w= .ok (.agg ((List.range i.size).map f).toArray) w:=by
  have ha:(isAgg T).run P w= .ok true w:=by
    simp only[isAgg,Sem.run_bind,run_underlying hu,Result.andThen]
    cases d<;>simp[fy]at hd<;>simp
  have hs:(sizeOf T).run P w= .ok i.size w:=by simp[sizeOf,run_typeInfo w hi,Result.andThen]
  simp[loadVar,ha,hs,run_loadCells w ad i.size f h,Result.andThen]
theorem oN {T:TypeId} {d:TypeDesc} (hu:P.underlying T=some d) (hd:fy d=false) (w:World) (ad:Addr) (x:Value)
    (h:w.cell? ad=some x):(loadVar T ad).run P w= .ok x w:=by
  have ha:(isAgg T).run P w= .ok false w:=by
    simp only[isAgg,Sem.run_bind,run_underlying hu,Result.andThen]
    cases d<;>simp[fy]at hd<;>simp
  simp[loadVar,ha,h,Result.andThen]
theorem cF (hm:ai w J M) {k s:Nat} {p:Path} {R:Loc->Prop} (h:aR (aa M) k s p=true) (ha:At J k s p R):s=st J.cur k p/\ ∃L,J.β k p=some L/\R L:=by
  have e:s=st J.cur k p:=by
    rw[hm.cur]
    cases p with
    |none=>exact Nat.eq_of_beq_eq_true h
    |some _=>exact Nat.eq_of_beq_eq_true h
  rcases ha with ha|ha
  · omega
  · exact ha
theorem s9 (hm:ai w J M) {k i j:Nat} {p:Path} {s s':SV} {x:Value} (hl:cV w J (aa M k).hl k p i j s x) (h:kd (aa M k) k p i j s=some s'):Den w J s' x:=by
  cases hi:aX s with
  |false=>
   have hd:Den w J s x:=by
     cases p with
     |none=>have hl:aV _ _ _ _ _ _ _ _:=hl;rwa [cj hi]at hl
     |some _=>exact hl
   have:kd (aa M k) k p i j s=some s:=by cases s<;>first|rfl|cases hi
   rw[this]at h
   obtain rfl:=Option.some.inj h
   exact hd
  |true=>
   cases s with
   |il sz n g=>
    have key:p=none->(aa M k).hl≠some (i,j)->Den w J (.aC k (aa M k).ds (some (i,j)) 0 n) x:=by
      rintro rfl aP
      have hl:_\/_:=hl
      rcases hl with hl|⟨hl,_⟩
      · exact absurd hl aP
      · exact .inr ⟨by rw[hm.cur];rfl,hl⟩
    unfold kd at h
    simp only at h
    split at h
    · next hh=>
      obtain rfl:=Option.some.inj h
      exact key rfl (by rw[hh];simp)
    · next i0 j0 hh=>
      split at h
      · next hb=>
        obtain rfl:=Option.some.inj h
        refine key rfl ?_
        rw[hh]
        intro e
        simp only[Option.some.injEq,Prod.mk.injEq]at e
        rw[e.2,Nat.beq_refl]at hb
        cases hb
      · cases h
    · obtain rfl:=Option.some.inj h
      trivial
   |_=>cases hi
theorem jW (hm:ai w J M) {k:Nat} {p:Path} {L:Loc} {r:Row} (hL:J.β k p=some L) (hr:cy (aa M k).b p=some r):
    r.sz=L.sz/\r.n=L.bD/\ ∀i,i<L.bD-> ∀j,j<L.sz-> ∃x,w.cell? ⟨L.b,L.o+i*L.sz+j,none⟩=some x/\cV w J (aa M k).hl k p i j (r.f i j) x:=by
  obtain⟨r',U,h2,h3,c,T,h4,h5,h6,h7⟩:=hm.row k p L hL
  obtain rfl:r=r':=Option.some.inj (hr.symm.trans U)
  refine⟨h2,h3,λi hi j hj=>?_⟩
  obtain⟨x,e1,e2⟩:=h7 i hi j hj
  exact⟨x,by simp only[World.cell?,h4];simpa using e1,e2⟩
theorem k_: ∀{k:IntKind} {l:List SV} {zs:List Int},ix k l=some zs->l=zs.map λz=> .v (.int k z)
  |_,[],_,h=>by simp[ix]at h;subst h;rfl
  |k,s::r,zs,h=>by
   unfold ix at h
   split at h
   · next heq=>cases heq
   · next heq=>
     cases heq
     split at h
     · next hk hr=>
       obtain rfl:=Option.some.inj h
       obtain rfl:=mI hk
       rw[k_ hr];rfl
     · cases h
   · cases h
theorem xd (hm:ai w J M) {T:TypeId} {sx:SV} {ux:Value} (hx:Den w J sx ux) {K:SV->Prop} (he:(m2 P T sx (aa M)).run K):
    ∃s v ad,ux= .pointer (some ad)/\(loadVar T ad).run P w= .ok v w/\Den w J s v/\K s:=by
  unfold m2 at he
  split at he
  · next i d hi hu=>
    split at he
    · next k st p ii j=>
      split at he
      · next r hs hr=>
        obtain⟨_,L,hL,kx,e⟩:=cF hm hs hx
        obtain⟨e1,e2,e3⟩:=jW hm hL hr
        split at he
        · next hd=>
          split at he
          · next hle=>
            have hle:=Nat.le_of_ble_eq_true hle
            split at he
            · next l hl=>
              have hl:=xN hl
              have hlen:l.length=i.size:=by simpa using (congrArg List.length hl).symm
              have hex: ∀q,∃x,q<i.size->w.cell? ((⟨L.b,L.o+ii*L.sz+j,none⟩:Addr).add q)=some x/\Den w J (l.getD q .aj) x:=by
                intro q
                by_cases hq:q<i.size
                · obtain⟨x,x1,x2⟩:=e3 ii kx (j+q) (by omega)
                  refine⟨x,λ_=>⟨by rw[dR,Nat.add_assoc];exact x1,?_⟩⟩
                  have:kd (aa M k) k p ii (j+q) (r.f ii (j+q))=some (l.getD q .aj):=by
                    have e:=congrArg (λl=>l[q]?) hl
                    simp only[List.getElem?_map,List.getElem?_range hq,Option.map_some]at e
                    rw[List.getElem?_eq_getElem (by omega)]at e
                    simp only[Option.map_some,Option.some.injEq]at e
                    rw[e,List.getD_eq_getElem?_getD,List.getElem?_eq_getElem (by omega)];rfl
                  exact s9 hm x2 this
                · exact⟨undef,λh=>absurd h hq⟩
              refine⟨_,_,_,e,wA hi hu hd w _ (λq=>Classical.choose (hex q)) (λq hq=>(Classical.choose_spec (hex q) hq).1),?_,he⟩
              exact⟨_,rfl,by simp,λq hq=>⟨Classical.choose (hex q),by simp[hq],(Classical.choose_spec (hex q) hq).2⟩⟩
            · exact he.elim
          · exact he.elim
        · next hd=>
          split at he
          · next af=>
            have af:j<r.sz:=Nat.le_of_ble_eq_true af
            split at he
            · next s vp=>
              obtain⟨x,x1,x2⟩:=e3 ii kx j (by omega)
              exact⟨_,x,_,e,oN hu hd w _ _ x1,s9 hm x2 vp,he⟩
            · exact he.elim
          · exact he.elim
      · exact he.elim
    · next k st p ii j len z=>
      split at he
      · next r kk hs hr=>
        obtain⟨_,L,hL,kx,hz,e⟩:=cF hm hs hx
        obtain⟨e1,e2,e3⟩:=jW hm hL hr
        split at he
        · next l hle hl=>
          have hle:=Nat.le_of_ble_eq_true hle
          have hl:=k_ hl
          obtain⟨x,x1,x2⟩:=e3 ii kx (j+z) (by omega)
          have hq:=congrArg (λl=>l[z]?) hl
          simp only[List.getElem?_map,List.getElem?_range hz,Option.map_some]at hq
          cases eS:l[z]? with
          |none=>rw[eS]at hq;cases hq
          |some y=>
           rw[eS]at hq
           simp only[Option.map_some,Option.some.injEq]at hq
           rw[hq]at x2
           have hd:Den w J (.v (.int kk y)) x:=by
             cases p with
             |none=>exact x2
             |some _=>exact x2
           have fe:dh l z=y:=by simp[dh,List.getD_eq_getElem?_getD,eS]
           exact⟨_,x,_,e,oN hu rfl w _ _ (by rw[<-Nat.add_assoc]at x1⊢;exact x1),by rw[fe];exact hd,he⟩
        · exact he.elim
      · exact he.elim
    · next q n f=>
      obtain⟨ad,e,hj⟩:=hx
      split at he
      · next hd=>
        split at he
        · next hle=>
          have hle:=Nat.le_of_ble_eq_true hle
          have hex: ∀j,∃x,j<i.size->w.cell? (ad.add j)=some x/\Den w J (f j) x:=by
            intro j
            by_cases iP:j<i.size
            · obtain⟨x,U,_,h3⟩:=hj j (by omega)
              exact⟨x,λ_=>⟨U,h3.up⟩⟩
            · exact⟨undef,λh=>absurd h iP⟩
          refine⟨_,_,ad,e,wA hi hu hd w _ (λj=>Classical.choose (hex j)) (λj hj=>(Classical.choose_spec (hex j) hj).1),?_,he⟩
          exact⟨_,rfl,by simp,λj hj=>⟨Classical.choose (hex j),by simp[hj],by rw[y' hj];exact(Classical.choose_spec (hex j) hj).2⟩⟩
        · exact he.elim
      · next hd=>
        split at he
        · next af=>
          have af:0<n:=Nat.le_of_ble_eq_true af
          obtain⟨x,U,_,h3⟩:=hj 0 af
          exact⟨_,x,ad,e,oN hu hd w _ _ (by simpa [Addr.add]using U),h3.up,he⟩
        · exact he.elim
    · exact he.elim
  · exact he.elim
theorem CA (h:Cx P w J ρ M a) {o:Oper} {T:TypeId} {x:Operand} {K:SV->Prop} (ho:o.op= .load T x) (he:(m2 P T (ρ x) (aa M)).run K):bV P w J a o K:=by
  obtain⟨s,v,ad,e,hr,hd,hK⟩:=xd h.mem (h.val x) he
  exact⟨s,v,by simp[execOp,ho,e,Instr.loadAt,Instr.sureAddr,hr,Result.andThen],hd,hK⟩
/-! ### addresses of fields and elements -/
def ln (P:Program) (S:TypeId) (s:SV) (j:Nat) (m:Nat->ao):R:=
  match P.underlying S with
  |some (.struct fs)=>
   match fs[j]? with
   |some fd=>
    match P.info? fd.type with
    |some i=>
     match Nat.blt 0 i.size,s with
     |true,.ptr k st p ii off=>match aR m k st p with|true=> .ok (.ptr k st p ii (off+fd.offset))|false=> .bad
     |true,.pt q n f=> .ok (.pt q (n -fd.offset) λm=>f (fd.offset+m))
     |true,.v (.pointer (some ad))=> .ok (.v (.pointer (some (ad.add fd.offset))))
     |_,_=> .bad
    |none=> .bad
   |none=> .bad
  |_=> .bad
theorem At.map {o:Ow} {k s:Nat} {p:Path} {R R':Loc->Prop} (h: ∀L,R L->R' L) (ha:At o k s p R):At o k s p R':=ha.imp id λ⟨e,L,hL,hR⟩=>⟨e,L,hL,h L hR⟩
theorem xD (h:Cx P w J ρ M a) {o:Oper} {S:TypeId} {x:Operand} {j:Nat} {K:SV->Prop} (ho:o.op= .fieldAddr S x j) (he:(ln P S (ρ x) j (aa M)).run K):bV P w J a o K:=by
  have hx:=h.val x
  unfold ln at he
  split at he
  · next fs hu=>
    split at he
    · next fd mc=>
      split at he
      · next i hi=>
        have run: ∀(ad:Addr),a.eval x= .pointer (some ad)->Nat.blt 0 i.size=true->(execOp a.eval o).run P w= .ok (.value (.pointer (some (ad.add fd.offset)))) w:=by
          intro ad e hz
          have hz:0<i.size:=Nat.le_of_ble_eq_true hz
          have hs:(sizeOf fd.type).run P w= .ok i.size w:=by simp[sizeOf,run_typeInfo w hi,Result.andThen]
          simp[execOp,ho,e,Instr.fieldAt,Instr.sureAddr,run_underlying hu,mc,fieldPlace,hs,Result.andThen,Nat.ne_of_gt hz]
        split at he
        · next k st p ii off hz hs=>
          rw[hs]at hx
          split at he
          · next ay=>
            obtain⟨e0,L,hL,hi,e⟩:=cF h.mem ay hx
            exact⟨.ptr k st p ii (off+fd.offset),_,run _ e hz,Or.inr ⟨e0,L,hL,hi,by rw[dR,Nat.add_assoc]⟩,he⟩
          · exact he.elim
        · next q n f hz hs=>
          rw[hs]at hx
          obtain⟨ad,e,hj⟩:=hx
          refine⟨.pt q (n -fd.offset) λm=>f (fd.offset+m),_,run _ e hz,⟨_,rfl,λm hm=>?_⟩,he⟩
          obtain⟨y,U,h2,h3⟩:=hj (fd.offset+m) (by omega)
          exact⟨y,by rw[add_add];exact U,by rw[cQ];exact h2,h3⟩
        · next ad hz hs=>
          rw[hs]at hx
          exact⟨.v (.pointer (some (ad.add fd.offset))),_,run _ hx hz,rfl,he⟩
        · exact he.elim
      · exact he.elim
    · exact he.elim
  · exact he.elim
def vK:Operand->Bool
  | .const _=>true
  |_=>false
def mY (P:Program) (T:TypeId) (lit:Bool) (s i:SV) (m:Nat->ao):R:=
  match P.underlying T,i with
  |some (.slice E),.v (.int _ z)=>
   match P.info? E,s with
   |some ie,.sl q sz n f=>match Nat.beq ie.size sz with|true=> .br ((0<=z/\z<n)) (.pt q sz (f z.toNat))|false=> .bad
   |some ie,.aC k st p e n=>
    match aR m k st p,cy (m k).b p with
    |true,some r=>match Nat.beq ie.size r.sz with|true=> .br ((0<=z/\z<n)) (.ptr k st p (e+z.toNat) 0)|false=> .bad
    |_,_=> .bad
   |_,_=> .bad
  |some (.array len E),.v (.int _ z)=>
   match P.info? E,Nat.blt 1 len,s with
   |some ie,true,.pt q mm f=>match Nat.beq (len*ie.size) mm with|true=> .br ((0<=z/\z<len)) (.pt q ie.size λj=>f (z.toNat*ie.size+j))|false=> .bad
   |some ie,true,.pa q sz n f=>match Nat.beq ie.size sz,Nat.beq n len with|true,true=> .br ((0<=z/\z<len)) (.pt q sz (f z.toNat))|_,_=> .bad
   |some ie,true,.ptr k st p ii j=>
    match aR m k st p,lit,Nat.beq ie.size 1 with
    |true,true,_=> .br ((0<=z/\z<len)) (.ptr k st p ii (j+z.toNat*ie.size))
    |true,false,true=> .br ((0<=z/\z<len)) (.pe k st p ii j len z.toNat)
    |_,_,_=> .bad
   |_,_,_=> .bad
  |_,_=> .bad
theorem xl (h:Cx P w J ρ M a) {o:Oper} {T:TypeId} {lit:Bool} {x y:Operand} {K:SV->Prop} (ho:o.op= .indexAddr T x y) (he:(mY P T lit (ρ x) (ρ y) (aa M)).run K): ∃s v,(∀w',(execOp a.eval o).run P w'= .ok (.value v) w')/\Den w J s v/\K s:=by
  have hx:=h.val x
  have hy:=h.val y
  unfold mY at he
  split at he
  · next E k z hu hs=>
    rw[hs]at hy
    have ey:a.eval y= .int k z:=hy
    split at he
    · next ie q sz n f hi cu=>
      rw[cu]at hx
      split at he
      · next aH=>
        have aH:=Nat.eq_of_beq_eq_true aH
        obtain⟨⟨h0,U⟩,hK⟩:=he
        obtain⟨p,cap,ex,_,_,hj⟩:=hx
        have hn:n≠0:=by omega
        obtain⟨ad,ep,hk⟩:=hj.resolve_left hn
        subst ep
        refine⟨.pt q sz (f z.toNat),.pointer (some (ad.add (z.toNat*sz))),?_,⟨_,rfl,λj g_=>?_⟩,hK⟩
        · intro w'
          have gw:(sizeOf E).run P w'= .ok sz w':=by simp[sizeOf,run_typeInfo w' hi,Result.andThen,aH]
          simp[execOp,ho,ex,ey,Instr.indexAt,asIntOf,run_underlying hu,Result.andThen,h0,U,gw]
        · obtain⟨u,g1,g2,g3⟩:=hk z.toNat (by omega) j g_
          exact⟨u,by rw[add_add];exact g1,by rw[cQ];exact g2,g3⟩
      · exact he.elim
    · next ie k2 st p e n hi cu=>
      rw[cu]at hx
      split at he
      · next r ay hr=>
        split at he
        · next aH=>
          have aH:=Nat.eq_of_beq_eq_true aH
          obtain⟨⟨h0,U⟩,hK⟩:=he
          have e0:st=Sy.st J.cur k2 p:=by
            rw[h.mem.cur]
            cases p with
            |none=>exact Nat.eq_of_beq_eq_true ay
            |some _=>exact Nat.eq_of_beq_eq_true ay
          rcases hx with hx|⟨_,q,cap,ex,dG,_,hx⟩
          · omega
          rcases hx with hx|⟨L,hL,rfl,oG,Aw⟩
          · omega
          obtain⟨r',g1,g2,g3,_⟩:=h.mem.row _ _ _ hL
          obtain rfl:r=r':=Option.some.inj (hr.symm.trans g1)
          refine⟨.ptr k2 st p (e+z.toNat) 0,.pointer (some ⟨L.b,L.o+(e+z.toNat)*L.sz,none⟩),?_,Or.inr ⟨e0,L,hL,by omega,by simp⟩,hK⟩
          intro w'
          have gw:(sizeOf E).run P w'= .ok L.sz w':=by simp[sizeOf,run_typeInfo w' hi,Result.andThen,aH,g2]
          simp[execOp,ho,ex,ey,Instr.indexAt,asIntOf,run_underlying hu,Result.andThen,h0,U,gw,dR,Nat.add_mul,Nat.add_assoc]
        · exact he.elim
      · exact he.elim
    · exact he.elim
  · next len E k z hu hs=>
    rw[hs]at hy
    have ey:a.eval y= .int k z:=hy
    split at he
    · next ie q m f hi hlen cu=>
      rw[cu]at hx
      have hlen:1<len:=Nat.le_of_ble_eq_true hlen
      split at he
      · next hm=>
        have hm:=Nat.eq_of_beq_eq_true hm
        obtain⟨⟨h0,U⟩,hK⟩:=he
        obtain⟨ad,ex,hj⟩:=hx
        refine⟨.pt q ie.size λj=>f (z.toNat*ie.size+j),.pointer (some (ad.add (z.toNat*ie.size))),?_,⟨_,rfl,λj g_=>?_⟩,hK⟩
        · intro w'
          have gw:(sizeOf E).run P w'= .ok ie.size w':=by simp[sizeOf,run_typeInfo w' hi,Result.andThen]
          simp[execOp,ho,ex,ey,Instr.indexAt,Instr.sureAddr,asIntOf,run_underlying hu,Result.andThen,h0,U,gw]
        · have af:z.toNat*ie.size+j<m:=by
            have:z.toNat+1<=len:=by omega
            have:=Nat.mul_le_mul_right ie.size this
            rw[Nat.add_mul]at this
            omega
          obtain⟨u,g1,g2,g3⟩:=hj _ af
          exact⟨u,by rw[add_add];exact g1,by rw[cQ];exact g2,g3⟩
      · exact he.elim
    · next ie q sz n f hi hlen cu=>
      rw[cu]at hx
      have hlen:1<len:=Nat.le_of_ble_eq_true hlen
      split at he
      · next aH hn=>
        have aH:=Nat.eq_of_beq_eq_true aH
        have hn:=Nat.eq_of_beq_eq_true hn
        obtain⟨⟨h0,U⟩,hK⟩:=he
        obtain⟨ad,ex,hj⟩:=hx
        refine⟨.pt q sz (f z.toNat),.pointer (some (ad.add (z.toNat*sz))),?_,⟨_,rfl,λj g_=>?_⟩,hK⟩
        · intro w'
          have gw:(sizeOf E).run P w'= .ok sz w':=by simp[sizeOf,run_typeInfo w' hi,Result.andThen,aH]
          simp[execOp,ho,ex,ey,Instr.indexAt,Instr.sureAddr,asIntOf,run_underlying hu,Result.andThen,h0,U,gw]
        · obtain⟨u,g1,g2,g3⟩:=hj z.toNat (by omega) j g_
          exact⟨u,by rw[add_add];exact g1,by rw[cQ];exact g2,g3⟩
      · exact he.elim
    · next ie k2 st p ii j hi hlen cu=>
      rw[cu]at hx
      have hlen:1<len:=Nat.le_of_ble_eq_true hlen
      have run: ∀ad,a.eval x= .pointer (some ad)->0<=z->z<len-> ∀w',(execOp a.eval o).run P w'= .ok (.value (.pointer (some (ad.add (z.toNat*ie.size))))) w':=by
        intro ad ex h0 U
        intro w'
        have gw:(sizeOf E).run P w'= .ok ie.size w':=by simp[sizeOf,run_typeInfo w' hi,Result.andThen]
        simp[execOp,ho,ex,ey,Instr.indexAt,Instr.sureAddr,asIntOf,run_underlying hu,Result.andThen,h0,U,gw]
      split at he
      · next ay=>
        obtain⟨⟨h0,U⟩,hK⟩:=he
        obtain⟨e0,L,hL,jD,ex⟩:=cF h.mem ay hx
        exact⟨.ptr k2 st p ii (j+z.toNat*ie.size),_,run _ ex h0 U,Or.inr ⟨e0,L,hL,jD,by rw[dR,Nat.add_assoc]⟩,hK⟩
      · next ay wc=>
        have wc:=Nat.eq_of_beq_eq_true wc
        obtain⟨⟨h0,U⟩,hK⟩:=he
        obtain⟨e0,L,hL,jD,ex⟩:=cF h.mem ay hx
        exact⟨.pe k2 st p ii j len z.toNat,_,run _ ex h0 U,Or.inr ⟨e0,L,hL,jD,by omega,by rw[dR,wc,Nat.mul_one,Nat.add_assoc]⟩,hK⟩
      · exact he.elim
    · exact he.elim
  · exact he.elim
theorem BR (h:Cx P w J ρ M a) {o:Oper} {T:TypeId} {lit:Bool} {x y:Operand} {K:SV->Prop} (ho:o.op= .indexAddr T x y) (he:(mY P T lit (ρ x) (ρ y) (aa M)).run K):bV P w J a o K:=
  let⟨s,v,U,h2,h3⟩:=xl h ho he
  ⟨s,v,U w,h2,h3⟩
end
end Go.Sy
set_option linter.unusedVariables false
set_option linter.unusedSimpArgs false
namespace Go.Sy
open Go.RowKit
def aS (op:BinOp) (k:IntKind) (x y:Int):Int:=
  match op with
  | .and=>k.wrap (BitVec.ofInt k.bits x&&&BitVec.ofInt k.bits y).toNat
  | .or=>k.wrap (BitVec.ofInt k.bits x|||BitVec.ofInt k.bits y).toNat
  | .xor=>k.wrap (BitVec.ofInt k.bits x^^^BitVec.ofInt k.bits y).toNat
  |_=>k.wrap (BitVec.ofInt k.bits x&&& ~~~BitVec.ofInt k.bits y).toNat
def kQ (k:IntKind) (z:Int):Prop:=k.wrap z=z
def uh (sg:Bool) (op:BinOp) (k:IntKind) (x y:Int):R:=
  match op with
  | .add=>match sg with|true=> .ok (.v (.int k (k.wrap (x+y))))|false=> .br (kQ k (x+y)) (.v (.int k (x+y)))
  | .sub=>match sg with|true=> .ok (.v (.int k (k.wrap (x -y))))|false=> .br (kQ k (x -y)) (.v (.int k (x -y)))
  | .mul=>match sg with|true=> .ok (.v (.int k (k.wrap (x*y))))|false=> .br (kQ k (x*y)) (.v (.int k (x*y)))
  | .quo=>match sg with|true=> .br (y≠0) (.v (.int k (k.wrap (x.tdiv y))))|false=> .br (0<=x/\0<y/\kQ k (x/y)) (.v (.int k (x/y)))
  | .rem=>match sg with|true=> .br (y≠0) (.v (.int k (x.tmod y)))|false=> .br (0<=x/\0<y) (.v (.int k (x%y)))
  | .and=> .ok (.v (.int k (aS .and k x y)))
  | .or=> .ok (.v (.int k (aS .or k x y)))
  | .xor=> .ok (.v (.int k (aS .xor k x y)))
  | .andNot=> .ok (.v (.int k (aS .andNot k x y)))
  | .eql=> .ok (.v (.bool (x==y)))
  | .neq=> .ok (.v (.bool (x !=y)))
  | .lss=> .ok (.v (.bool (decide (x<y))))
  | .leq=> .ok (.v (.bool (decide (x<=y))))
  | .gtr=> .ok (.v (.bool (decide (y<x))))
  | .geq=> .ok (.v (.bool (decide (y<=x))))
  |_=> .bad
def tL (op:BinOp) (k:IntKind) (x y:Int):R:=
  match op with
  | .shl=> .br (0<=y) (.v (.int k (k.wrap (x*2^(min y.toNat k.bits)))))
  | .shr=> .br (0<=y) (.v (.int k (x.fdiv (2^(min y.toNat k.bits)))))
  |_=> .bad
def m9:Operand->Bool
  | .const .nilIface=>true
  |_=>false
def uJ (op:BinOp) (a b:ByteArray):R:=
  match op with
  | .add=> .br ((a.size:Int)+b.size<=9223372036854775807) (.v (.string (a++b)))
  | .eql=> .ok (.v (.bool (a.toList==b.toList)))
  | .neq=> .ok (.v (.bool (a.toList !=b.toList)))
  |_=> .bad
def isIface:Option TypeDesc->Bool
  |some (.interface _)=>true
  |_=>false
def lF (P:Program) (op:BinOp) (T:TypeId) (b:SV) (nb:SV):R:=
  match isIface (P.underlying T),op with
  |true,.eql=> .ok b
  |true,.neq=> .ok nb
  |_,_=> .bad
def ui (P:Program) (op:BinOp) (T:TypeId) (s t:SV):R:=
  match P.underlying T,f_ s,f_ t,op with
  |some .bool,some a,some b,.eql=> .ok (.v (.bool (a==b)))
  |some .bool,some a,some b,.neq=> .ok (.v (.bool (a !=b)))
  |_,_,_,_=> .bad
def uG (P:Program) (sg:Bool) (op:BinOp) (T:TypeId) (y:Operand) (s t:SV):R:=
  match s,t with
  | .v (.int k a),.v (.int k' b)=>
    match op with
    | .shl| .shr=>tL op k a b
    |_=>match kb k k' with|true=>uh sg op k a b|false=> .bad
  | .v (.string a),.v (.string b)=>uJ op a b
  | .er _ _ e _,.v .nilIface=>match m9 y with|true=>lF P op T (.v (.bool (e==0))) (.v (.bool (e !=0)))|false=> .bad
  | .v .nilIface,.v .nilIface=>match m9 y with|true=>lF P op T (.bl true) (.bl false)|false=> .bad
  | .ic _ _,.v .nilIface=>lF P op T (.bl false) (.bl true)
  | .v (.iface _ _),.v .nilIface=>lF P op T (.bl false) (.bl true)
  |s,t=>ui P op T s t
section
variable {P:Program} {w:World} {J:Ow} {ρ:Operand->SV} {M:Mem} {a:Act}
theorem so (op:BinOp) (T:TypeId) (x y:Operand) (k k':IntKind) (m n:Int) (w:World):(eqGuard op T x y (.int k m) (.int k' n)).run P w= .ok () w:=by
  unfold eqGuard
  cases op<;>simp
theorem sq (op:BinOp) (T:TypeId) (x y:Operand) (m n:ByteArray) (w:World):(eqGuard op T x y (.string m) (.string n)).run P w= .ok () w:=by
  unfold eqGuard
  cases op<;>simp
theorem wE (op:BinOp) (T:TypeId) (x y:Operand) (m n:Bool) (w:World):(eqGuard op T x y (.bool m) (.bool n)).run P w= .ok () w:=by
  unfold eqGuard
  cases op<;>simp
theorem AP (op:BinOp) (T:TypeId) (x y:Operand) (t:TypeId) (m:Value) (w:World):(eqGuard op T x y (.iface t m) .nilIface).run P w= .ok () w:=by
  unfold eqGuard
  cases op<;>simp
theorem AY (op:BinOp) (T:TypeId) (x y:Operand) (hy:m9 y=true) (w:World):(eqGuard op T x y .nilIface .nilIface).run P w= .ok () w:=by
  unfold m9 at hy
  split at hy
  · unfold eqGuard
    cases op<;>simp
  · cases hy
theorem CE {x y:Int} (h:0<=x):x.tdiv y=x/y:=Int.tdiv_eq_ediv_of_nonneg h
theorem CF {x y:Int} (h:0<=x):x.tmod y=x%y:=Int.tmod_eq_emod_of_nonneg h
theorem CG (sg:Bool) (op:BinOp) (T:TypeId) (k:IntKind) (x y:Int) (K:SV->Prop) (he:(uh sg op k x y).run K):
    ∃u,(∀w,(binOp op T (.int k x) (.int k y)).run P w= .ok u w)/\K (.v u):=by
  unfold uh at he
  split at he
  case h_1=>
    cases sg with
    |true=>exact⟨_,λw=>by simp[binOp,Op.intArith],he⟩
    |false=>exact⟨_,λw=>by simp[binOp,Op.intArith,show k.wrap (x+y)=x+y from he.1],he.2⟩
  case h_2=>
    cases sg with
    |true=>exact⟨_,λw=>by simp[binOp,Op.intArith],he⟩
    |false=>exact⟨_,λw=>by simp[binOp,Op.intArith,show k.wrap (x -y)=x -y from he.1],he.2⟩
  case h_3=>
    cases sg with
    |true=>exact⟨_,λw=>by simp[binOp,Op.intArith],he⟩
    |false=>exact⟨_,λw=>by simp[binOp,Op.intArith,show k.wrap (x*y)=x*y from he.1],he.2⟩
  case h_4=>
    cases sg with
    |true=>exact⟨_,λw=>by simp[binOp,Op.intDiv,he.1],he.2⟩
    |false=>
     obtain⟨⟨U,h2,h3⟩,h4⟩:=he
     exact⟨_,λw=>by simp[binOp,Op.intDiv,show y≠0 by omega,CE U,show k.wrap (x/y)=x/y from h3],h4⟩
  case h_5=>
    cases sg with
    |true=>exact⟨_,λw=>by simp[binOp,Op.intDiv,he.1],he.2⟩
    |false=>
     obtain⟨⟨U,h2⟩,h4⟩:=he
     exact⟨_,λw=>by simp[binOp,Op.intDiv,show y≠0 by omega,CF U],h4⟩
  case h_16=>exact he.elim
  all_goals exact⟨_,λw=>by simp[binOp,Op.intArith,Op.intBits,Op.intCmp,aS],he⟩
theorem xM (op:BinOp) (T:TypeId) (k k':IntKind) (x y:Int) (K:SV->Prop) (he:(tL op k x y).run K):
    ∃u,(∀w,(binOp op T (.int k x) (.int k' y)).run P w= .ok u w)/\K (.v u):=by
  unfold tL at he
  split at he
  · exact⟨_,λw=>by simp[binOp,Op.shift,Int.not_lt.2 he.1],he.2⟩
  · exact⟨_,λw=>by simp[binOp,Op.shift,Int.not_lt.2 he.1],he.2⟩
  · exact he.elim
theorem eX {o:Oper} {op:BinOp} {T T':TypeId} {x y:Operand} (ho:o.op= .binOp op T x y T') {u v r:Value} (ex:a.eval x=u) (ey:a.eval y=v)
    (hg: ∀w:World,(eqGuard op T x y u v).run P w= .ok () w) (hr: ∀w:World,(binOp op T u v).run P w= .ok r w):(execOp a.eval o).run P w= .ok (.value r) w:=by
  simp[execOp,ho,ex,ey,hg,hr,Result.andThen]
theorem AR {d:Option TypeDesc} (h:isIface d=true): ∃ms,d=some (.interface ms):=by
  unfold isIface at h
  split at h
  · exact⟨_,rfl⟩
  · cases h
theorem wM {T:TypeId} (hu:isIface (P.underlying T)=true) (b:Bool) (u:Value) (hb:(b=true/\u= .nilIface)\/(b=false/\ ∃t x,u= .iface t x)) (w:World):
    (Op.equal T u .nilIface).run P w= .ok b w:=by
  obtain⟨ms,hu⟩:=AR hu
  have U: ∀d:Nat,(Op.equalIn (d+1) T .nilIface .nilIface).run P w= .ok true w:=λd=>by simp[Op.equalIn,run_underlying hu]
  have h2: ∀(d:Nat) t x,(Op.equalIn (d+1) T (.iface t x) .nilIface).run P w= .ok false w:=λd t x=>by simp[Op.equalIn,run_underlying hu]
  rcases hb with⟨rfl,rfl⟩|⟨rfl,t,x,rfl⟩
  · simp[Op.equal,Op.maxDepth,U 9999]
  · simp[Op.equal,Op.maxDepth,h2 9999]
theorem lp {T:TypeId} {u v:Value} (hk:(∀k n,u≠ .int k n)/\(∀k n,u≠ .float k n)/\(∀k n m,u≠ .complex k n m)/\(∀s,u≠ .string s)):binOp .eql T u v=(do pure (.bool (<-Op.equal T u v)))/\binOp .neq T u v=(do pure (.bool (!(<-Op.equal T u v)))):=by
  obtain⟨U,h2,h3,h4⟩:=hk
  constructor<;>(unfold binOp;cases u<;>first|rfl|exact absurd rfl (U _ _)|exact absurd rfl (h2 _ _)|exact absurd rfl (h3 _ _ _)|exact absurd rfl (h4 _))
theorem lz {o:Oper} {op:BinOp} {T T':TypeId} {x y:Operand} (ho:o.op= .binOp op T x y T') {u:Value} (ex:a.eval x=u) (ey:a.eval y= .nilIface) (b:Bool)
    (hb:(b=true/\u= .nilIface/\m9 y=true)\/(b=false/\ ∃t x,u= .iface t x)) {s t:SV} (hs:Den w J s (.bool b)) (ht:Den w J t (.bool !b)) {K:SV->Prop} (he:(lF P op T s t).run K):bV P w J a o K:=by
  have hg: ∀(op:BinOp) (w:World),(eqGuard op T x y u .nilIface).run P w= .ok () w:=by
    intro op w
    rcases hb with⟨_,rfl,hy⟩|⟨_,t,z,rfl⟩
    · exact AY op T x y hy w
    · exact AP op T x y t z w
  have bK:(b=true/\u= .nilIface)\/(b=false/\ ∃t x,u= .iface t x):=hb.imp (λh=>⟨h.1,h.2.1⟩) id
  have hk:(∀k n,u≠ .int k n)/\(∀k n,u≠ .float k n)/\(∀k n m,u≠ .complex k n m)/\(∀s,u≠ .string s):=by
    rcases bK with⟨_,rfl⟩|⟨_,t,x,rfl⟩<;>simp
  unfold lF at he
  split at he
  · next hu=>exact⟨_,.bool b,eX ho ex ey (hg _) (λw=>by rw[(lp hk).1];simp[wM hu b u bK w,Result.andThen]),hs,he⟩
  · next hu=>exact⟨_,.bool !b,eX ho ex ey (hg _) (λw=>by rw[(lp hk).2];simp[wM hu b u bK w,Result.andThen]),ht,he⟩
  · exact he.elim
theorem CH {o:Oper} {op:BinOp} {T T':TypeId} {x y:Operand} (ho:o.op= .binOp op T x y T') {s t:SV} (hx:Den w J s (a.eval x)) (hy:Den w J t (a.eval y)) {K:SV->Prop} (he:(ui P op T s t).run K):bV P w J a o K:=by
  unfold ui at he
  split at he
  · next m n hu hs ht=>
    have ex:=eW hs hx
    have ey:=eW ht hy
    have U: ∀(d:Nat) (w:World),(Op.equalIn (d+1) T (.bool m) (.bool n)).run P w= .ok (m==n) w:=λd w=>by simp[Op.equalIn,run_underlying hu]
    exact⟨.v (.bool (m==n)),.bool (m==n),eX ho ex ey (λw=>wE _ _ _ _ _ _ w) (λw=>by rw[(lp (by simp)).1];simp[Op.equal,Op.maxDepth,U 9999]),rfl,he⟩
  · next m n hu hs ht=>
    have ex:=eW hs hx
    have ey:=eW ht hy
    have U: ∀(d:Nat) (w:World),(Op.equalIn (d+1) T (.bool m) (.bool n)).run P w= .ok (m==n) w:=λd w=>by simp[Op.equalIn,run_underlying hu]
    exact⟨.v (.bool (m !=n)),.bool (m !=n),eX ho ex ey (λw=>wE _ _ _ _ _ _ w) (λw=>by rw[(lp (by simp)).2];simp[Op.equal,Op.maxDepth,U 9999,bne]),rfl,he⟩
  · exact he.elim
theorem Di {o:Oper} {op:BinOp} {T T':TypeId} {x y:Operand} (ho:o.op= .binOp op T x y T') {m n:ByteArray} (ex:a.eval x= .string m) (ey:a.eval y= .string n) {K:SV->Prop} (he:(uJ op m n).run K):bV P w J a o K:=by
  unfold uJ at he
  split at he
  · exact⟨.v (.string (m++n)),.string (m++n),eX ho ex ey (λw=>sq _ _ _ _ _ _ w) (λw=>by simp[binOp,Op.stringOp,he.1]),rfl,he.2⟩
  · exact⟨.v (.bool (m.toList==n.toList)),.bool (m.toList==n.toList),eX ho ex ey (λw=>sq _ _ _ _ _ _ w) (λw=>by simp[binOp,Op.stringOp]),rfl,he⟩
  · exact⟨.v (.bool (m.toList !=n.toList)),.bool (m.toList !=n.toList),eX ho ex ey (λw=>sq _ _ _ _ _ _ w) (λw=>by simp[binOp,Op.stringOp,bne]),rfl,he⟩
  · exact he.elim
theorem De (h:Cx P w J ρ M a) {sg:Bool} {o:Oper} {op:BinOp} {T T':TypeId} {x y:Operand} {K:SV->Prop} (ho:o.op= .binOp op T x y T')
    (he:(uG P sg op T y (ρ x) (ρ y)).run K):bV P w J a o K:=by
  have hx:=h.val x
  have hy:=h.val y
  unfold uG at he
  split at he
  · next k m k' n hs ht=>
    rw[hs]at hx;rw[ht]at hy
    have ex:a.eval x= .int k m:=hx
    have ey:a.eval y= .int k' n:=hy
    split at he
    · obtain⟨u,U,h2⟩:=xM (P:=P) _ T k k' m n K he
      exact⟨.v u,u,eX ho ex ey (λw=>so _ _ _ _ _ _ _ _ w) U,rfl,h2⟩
    · obtain⟨u,U,h2⟩:=xM (P:=P) _ T k k' m n K he
      exact⟨.v u,u,eX ho ex ey (λw=>so _ _ _ _ _ _ _ _ w) U,rfl,h2⟩
    · next U h2=>
      split at he
      · next hk=>
        obtain rfl:=mI hk
        obtain⟨u,h3,h4⟩:=CG (P:=P) sg op T k m n K he
        exact⟨.v u,u,eX ho ex ey (λw=>so _ _ _ _ _ _ _ _ w) h3,rfl,h4⟩
      · exact he.elim
  · next m n hs ht=>
    rw[hs]at hx;rw[ht]at hy
    exact Di ho hx hy he
  · next t tf e at_ hs ht=>
    rw[hs]at hx;rw[ht]at hy
    split at he
    · next hc=>
      rcases hx with⟨U,_,ex⟩|⟨U,_,ex⟩|⟨U,_,ad,ex,_⟩
      · exact lz ho ex hy true (.inl ⟨rfl,rfl,hc⟩) (by simp[Den,U]) (by simp[Den,U]) he
      · exact lz ho ex hy false (.inr ⟨rfl,_,_,rfl⟩) (by simp[Den,U]) (by simp[Den,U]) he
      · exact lz ho ex hy false (.inr ⟨rfl,_,_,rfl⟩) (by simp[Den,U]) (by simp[Den,U]) he
    · exact he.elim
  · next hs ht=>
    rw[hs]at hx;rw[ht]at hy
    split at he
    · next hc=>exact lz ho hx hy true (.inl ⟨rfl,rfl,hc⟩) (by simp[Den]) (by simp[Den]) he
    · exact he.elim
  · next t s hs ht=>
    rw[hs]at hx;rw[ht]at hy
    obtain⟨u,ex,_⟩:=hx
    exact lz ho ex hy false (.inr ⟨rfl,_,_,rfl⟩) (by simp[Den]) (by simp[Den]) he
  · next t s hs ht=>
    rw[hs]at hx;rw[ht]at hy
    exact lz ho hx hy false (.inr ⟨rfl,_,_,rfl⟩) (by simp[Den]) (by simp[Den]) he
  · exact CH ho hx hy he
end
end Go.Sy
