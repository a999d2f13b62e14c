/-
  Sy, part 1: symbolic values; what they stand for in a world; that they stand for it in a later world too.
-/
import Derived.WalkKit
import Derived.Deep.Quiet
import Derived.Laws.StructEq
import Derived.Laws.Tables
import Derived.Laws.CopyOwn
set_option linter.unusedVariables false
set_option linter.unusedSimpArgs false
namespace Go
abbrev Q0:=@Array.extract_eq_self_of_le
abbrev ka:=@Array.getD_eq_getD_getElem?
abbrev fR:=@Array.getElem?_eq_getElem
abbrev qW:=@Array.getElem?_eq_none
abbrev eZ:=@Array.getElem?_eq_some_iff
abbrev pU:=@Array.getElem?_setIfInBounds_ne
abbrev wY:=@Array.getElem?_setIfInBounds_self_of_lt
abbrev pS:=@Array.getElem?_toList
abbrev kX:=@Array.length_toList
abbrev QT:=@Array.mapM_eq_mapM_toList
abbrev OH:=@Array.setIfInBounds_comm
abbrev GY:=@Array.toList_inj
abbrev zn:=@BitVec.toNat_and
abbrev zm:=@BitVec.toNat_ofInt
abbrev pI:=@Bool.and_eq_false_iff
abbrev aW:=@Bool.and_eq_true
abbrev qI:=@Bool.and_false
abbrev CD:=@Bool.and_true
abbrev Ho:=@Bool.beq_comm
abbrev bo:=@Bool.cond_self
abbrev lJ:=@Bool.eq_iff_iff
abbrev zd:=@Bool.false_eq_true
abbrev nE:=@Bool.false_ne_true
abbrev jw:=@Bool.false_or
abbrev zo:=@Bool.not_and
abbrev zg:=@Bool.not_eq_false'
abbrev dT:=@Bool.not_eq_true'
abbrev CV:=@Bool.not_not
abbrev zf:=@Bool.not_or
abbrev yV:=@Bool.not_true
abbrev CW:=@Bool.or_assoc
abbrev bX:=@Bool.or_eq_false_iff
abbrev cM:=@Bool.or_eq_true
abbrev iI:=@Bool.or_false
abbrev qS:=@Bool.or_self
abbrev j9:=@Bool.or_true
abbrev qO:=@Bool.true_and
abbrev kV:=@Bool.true_or
abbrev fN:=@Classical.byContradiction
abbrev wP:=@Classical.choose_spec
abbrev ta:=@Classical.em
abbrev tq:=@Decidable.byContradiction
abbrev aT:=@Decidable.em
abbrev Hr:=@Int.ediv_le_self
abbrev Hq:=@Int.ediv_nonneg
abbrev Hl:=@Int.emod_eq_of_lt
abbrev CS:=@Int.emod_lt_of_pos
abbrev wR:=@Int.emod_nonneg
abbrev oF:=@Int.le_refl
abbrev tv:=@Int.lt_or_le
abbrev pF:=@Int.natCast_nonneg
abbrev CM:=@Int.ofNat.inj
abbrev cj:=@Int.toNat_natCast
abbrev zh:=@Int.toNat_of_nonneg
abbrev y':=@List.all_append
abbrev wK:=@List.all_cons
abbrev cY:=@List.all_eq_true
abbrev GJ:=@List.any_eq_true
abbrev mC:=@List.append_assoc
abbrev yT:=@List.append_nil
abbrev pN:=@List.cons.injEq
abbrev pH:=@List.cons_append
abbrev CA:=@List.drop_eq_getElem_cons
abbrev GP:=@List.drop_of_length_le
abbrev GN:=@List.eq_nil_iff_forall_not_mem
abbrev CH:=@List.eq_nil_of_length_eq_zero
abbrev yW:=@List.filter_cons_of_neg
abbrev s7:=@List.filter_cons_of_pos
abbrev cD:=@List.getD_eq_getElem?_getD
abbrev mD:=@List.getElem?_append_left
abbrev qJ:=@List.getElem?_append_right
abbrev yU:=@List.getElem?_cons_zero
abbrev pJ:=@List.getElem?_drop
abbrev eO:=@List.getElem?_eq_getElem
abbrev sW:=@List.getElem?_eq_none
abbrev ik:=@List.getElem?_eq_some_iff
abbrev eX:=@List.getElem?_map
abbrev qG:=@List.getElem?_of_mem
abbrev nD:=@List.getElem?_range
abbrev kU:=@List.getElem?_take_of_lt
abbrev Cy:=@List.getElem?_toArray
abbrev GM:=@List.getElem_mem
abbrev G2:=@List.length_append
abbrev GL:=@List.length_filter_le
abbrev nH:=@List.length_map
abbrev wU:=@List.length_range
abbrev pG:=@List.length_take
abbrev GZ:=@List.map_append
abbrev mA:=@List.map_cons
abbrev CG:=@List.map_nil
abbrev CF:=@List.map_toArray
abbrev y_:=@List.mem_append_left
abbrev eG:=@List.mem_cons
abbrev nF:=@List.mem_filter
abbrev GQ:=@List.mem_flatMap
abbrev sZ:=@List.mem_map
abbrev fw:=@List.mem_of_getElem?
abbrev GK:=@List.mem_of_mem_drop
abbrev cV:=@List.mem_range
abbrev Cz:=@List.mem_singleton
abbrev yD:=@List.nil_append
abbrev FN:=@List.reverse_cons
abbrev FT:=@List.size_toArray
abbrev i_:=@Nat.add_assoc
abbrev jZ:=@Nat.add_comm
abbrev iD:=@Nat.add_mul
abbrev B2:=@Nat.add_mul_div_right
abbrev B4:=@Nat.add_mul_mod_self_right
abbrev sP:=@Nat.add_zero
abbrev wD:=@Nat.and_le_left
abbrev cy:=@Nat.beq_refl
abbrev iC:=@Nat.ble_eq_true_of_le
abbrev sS:=@Nat.div_add_mod
abbrev B3:=@Nat.div_eq_of_lt
abbrev wB:=@Nat.div_lt_of_lt_mul
abbrev a_:=@Nat.eq_of_beq_eq_true
abbrev ja:=@Nat.eq_zero_or_pos
abbrev bP:=@Nat.le_of_ble_eq_true
abbrev bc:=@Nat.le_refl
abbrev oC:=@Nat.le_succ
abbrev ft:=@Nat.le_trans
abbrev nA:=@Nat.lt_irrefl
abbrev yP:=@Nat.lt_of_le_of_lt
abbrev gg:=@Nat.lt_of_lt_of_le
abbrev bR:=@Nat.lt_or_ge
abbrev qx:=@Nat.lt_succ_self
abbrev B8:=@Nat.lt_trichotomy
abbrev yK:=@Nat.mod_eq_of_lt
abbrev kQ:=@Nat.mod_lt
abbrev Gp:=@Nat.mod_two_eq_zero_or_one
abbrev lC:=@Nat.mul_comm
abbrev qz:=@Nat.mul_le_mul_right
abbrev dS:=@Nat.not_lt_zero
abbrev yO:=@Nat.pos_of_ne_zero
abbrev Cg:=@Nat.pow_le_pow_right
abbrev Gq:=@Nat.testBit_and
abbrev Gn:=@Nat.testBit_eq_decide_div_mod_eq
abbrev Ci:=@Nat.testBit_two_pow
abbrev jY:=@Nat.zero_add
abbrev gf:=@Nat.zero_le
abbrev yG:=@Nat.zero_mul
abbrev cA:=@Ne.symm
abbrev MK:=@Option.bind_eq_some_iff
abbrev FU:=@Option.getD_some
abbrev Ga:=@Option.map_none
abbrev iB:=@Option.map_some
abbrev aV:=@Option.some.inj
abbrev bF:=@Option.some.injEq
abbrev oz:=@Prod.mk.inj
abbrev bJ:=@Prod.mk.injEq
end Go
namespace Go.Sy
open Go.RowKit
abbrev Path:=Option (Nat×Nat)
inductive SV where
 |aI
 |v (x:Value)
 |bl (b:Bool)
 |ptr (k s:Nat) (p:Path) (i j:Nat)
 |pe (k s:Nat) (p:Path) (i j len z:Nat)
 |aS (k s:Nat) (p:Path) (e n:Nat)
 |sa (k s:Nat) (p:Path) (i j n:Nat)
 |pt (q:Bool) (n:Nat) (f:Nat->SV)
 |sl (q:Bool) (sz n:Nat) (f:Nat->Nat->SV)
 |pa (q:Bool) (sz n:Nat) (f:Nat->Nat->SV)
 |il (sz n:Nat) (f:Nat->Nat->SV)
 |ag (n:Nat) (f:Nat->SV)
 |tp (n:Nat) (f:Nat->SV)
 |fn (id n:Nat) (f:Nat->SV)
 |bm (id:Nat) (s:SV)
 |mv (nm:String) (s:SV)
 |ic (t:Nat) (s:SV)
 |er (t tf:Nat) (e at_:Int)
 |es
instance:Inhabited SV:=⟨.aI⟩
def aN (l:List SV):Nat->SV:=λj=>l.getD j .aI
def out (n:Nat) (f:Nat->SV):Nat->SV:=aN ((List.range n).map f)
theorem OF {n:Nat} {f:Nat->SV} {j:Nat} (h:j<n):out n f j=f j:=by simp[out,aN,cD,h]
structure Loc where
 b:Nat
 o:Nat
 sz:Nat
 dg:Nat
 len:Nat
structure Ow where
 A:Nat->Prop
 Z:Nat->Prop
 β:Nat->Path->Option Loc
 cur:Nat->Nat×Nat
def Ow.bare (o:Ow):Ow:=⟨o.A,o.Z,λ_ _=>none,λ_=>(0,0)⟩
def st (cur:Nat->Nat×Nat) (k:Nat):Path->Nat
 |none=>(cur k).1
 |some _=>(cur k).2
def abt (w:World) (A Z:Nat->Prop) (t tf:Nat) (e at_:Int) (u:Value):Prop:=
 (e=0/\at_= -1/\u= .nilIface)\/(e≠0/\at_= -1/\u= .iface t (.int .i64 e))\/
 (e≠0/\0<=at_/\∃a,u= .iface tf (.pointer (some a))/\¬A a.block/\¬Z a.block/\w.cell? (a.add 0)=some (.int .i64 at_)/\w.cell? (a.add 1)=some (.iface t (.int .i64 e)))
def At (o:Ow) (k s:Nat) (p:Path) (R:Loc->Prop):Prop:=s<st o.cur k p\/(s=st o.cur k p/\∃L,o.β k p=some L/\R L)
def Head (o:Ow) (k:Nat) (p:Path) (e n:Nat) (u:Value):Prop:=
 ∃q cap,u= .slice q n cap/\n<=cap/\cap<=maxLen/\(cap=0\/∃L,o.β k p=some L/\q=some ⟨L.b,L.o+e*L.sz,none⟩/\L.o+(e+cap)*L.sz<=L.len/\e+n<=L.dg)
def Den (w:World) (o:Ow):SV->Value->Prop
 | .aI,_=>True
 | .il _ _ _,_=>True
 | .v x,u=>u=x
 | .bl b,u=>u= .bool b
 | .ptr k s p i j,u=>At o k s p λL=>i<L.dg/\u= .pointer (some ⟨L.b,L.o+i*L.sz+j,none⟩)
 | .pe k s p i j len z,u=>At o k s p λL=>i<L.dg/\z<len/\u= .pointer (some ⟨L.b,L.o+i*L.sz+(j+z),none⟩)
 | .aS k s p e n,u=>s<st o.cur k p\/(s=st o.cur k p/\Head o k p e n u)
 | .sa k s p i j n,u=>At o k s p λL=>i<L.dg/\n<=maxLen/\u= .slice (some ⟨L.b,L.o+i*L.sz+j,none⟩) n n
 | .pt q n f,u=>∃a,u= .pointer (some a)/\∀j,j<n->∃x,w.cell? (a.add j)=some x/\(¬o.A a.block/\(q=false->¬o.Z a.block))/\Den w o.bare (f j) x
 | .sl q sz n f,u=>∃p cap,u= .slice p n cap/\n<=cap/\n<=maxLen/\(n=0\/∃a,p=some a/\∀i,i<n->∀j,j<sz->∃x,w.cell? (a.add (i*sz+j))=some x/\(¬o.A a.block/\(q=false->¬o.Z a.block))/\Den w o.bare (f i j) x)
 | .pa q sz n f,u=>∃a,u= .pointer (some a)/\∀i,i<n->∀j,j<sz->∃x,w.cell? (a.add (i*sz+j))=some x/\(¬o.A a.block/\(q=false->¬o.Z a.block))/\Den w o.bare (f i j) x
 | .ag n f,u=>∃c,u= .agg c/\c.size=n/\∀j,j<n->∃x,c[j]? =some x/\Den w o (f j) x
 | .tp n f,u=>∃c,u= .tuple c/\c.size=n/\∀j,j<n->∃x,c[j]? =some x/\Den w o (f j) x
 | .fn id n f,u=>∃c,u= .func (.func id) #[] c/\c.size=n/\∀j,j<n->∃x,c[j]? =some x/\Den w o (f j) x
 | .bm id s,u=>∃x,u= .func (.func id) #[x] #[]/\Den w o s x
 | .mv nm s,u=>∃x,u= .func (.method nm) #[x] #[]/\Den w o s x
 | .ic t s,u=>∃x,u= .iface t x/\Den w o s x
 | .er t tf e at_,u=>abt w o.A o.Z t tf e at_ u
 | .es,u=>∃p,u= .slice p 0 0
def DA (A:Nat->Prop) (w w':World):Prop:=∀b,b<w.heap.size->¬A b->w'.heap[b]? =w.heap[b]?
theorem fu {w:World} {a:Addr} {x:Value} (h:w.cell? a=some x):a.block<w.heap.size:=by
 rcases bR a.block w.heap.size with b|b
 ·exact b
 ·simp[World.cell?,qW b]at h
theorem gI (a:Addr) (n:Nat):(a.add n).block=a.block:=by unfold Addr.add;split<;>rfl
theorem add_add (a:Addr) (n m:Nat):(a.add n).add m=a.add (n+m):=by
 unfold Addr.add;by_cases h:n=0
 ·subst h;simp
 ·by_cases h2:m=0
  ·subst h2;simp[h]
  ·simp only[h,h2,if_false];rw[if_neg (by omega)];simp only[i_]
theorem jx (b o n:Nat):(⟨b,o,none⟩:Addr).add n=⟨b,o+n,none⟩:=by
 unfold Addr.add;split
 ·next h=>subst h;rfl
 ·rfl
theorem DA.cell {A:Nat->Prop} {w w':World} (h:DA A w w') {a:Addr} {x:Value} (c:¬A a.block) (b:w.cell? a=some x):w'.cell? a=some x:=by
 have:=h a.block (fu b) c;unfold World.cell? at*
 rw[this];exact b
structure Ext (w:World) (o:Ow) (w':World) (o':Ow):Prop where
 os:w'.os=w.os
 tape:w'.tape=w.tape
 output:w'.output=w.output
 same:DA o.A w w'
 free:∀b,b<w.heap.size->¬o.A b->¬o'.A b
 gx:∀b,b<w.heap.size->¬o.A b->¬o.Z b->¬o'.Z b
 size:w.heap.size<=w'.heap.size
 mono:∀k,(o.cur k).1<=(o'.cur k).1/\(o.cur k).2<=(o'.cur k).2
 mP:∀k p L,o.β k p=some L->st o'.cur k p=st o.cur k p->o'.β k p=some L
 zs:∀b,o.Z b->o'.Z b
theorem Ext.refl (w:World) (o:Ow):Ext w o w o:=⟨rfl,rfl,rfl,λ_ _ _=>rfl,λ_ _ h=>h,λ_ _ _ h=>h,bc _,λ_=>⟨bc _,bc _⟩,λ_ _ _ h _=>h,λ_ h=>h⟩
theorem B7 {c b:Nat->Nat×Nat} (h:∀k,(c k).1<=(b k).1/\(c k).2<=(b k).2) (k:Nat) (p:Path):st c k p<=st b k p:=by
 cases p with
 |none=>exact(h k).1
 |some _=>exact(h k).2
theorem Ext.trans {w w' g:World} {o o' i:Ow} (h:Ext w o w' o') (k:Ext w' o' g i):Ext w o g i where
 os:=k.os.trans h.os
 tape:=k.tape.trans h.tape
 output:=k.output.trans h.output
 same:=λb c d=>(k.same b (gg c h.size) (h.free b c d)).trans (h.same b c d)
 free:=λb c d=>k.free b (gg c h.size) (h.free b c d)
 gx:=λb c d j=>k.gx b (gg c h.size) (h.free b c d) (h.gx b c d j)
 size:=ft h.size k.size
 mono:=λq=>⟨ft (h.mono q).1 (k.mono q).1,ft (h.mono q).2 (k.mono q).2⟩
 mP:=λq p L l e=>by
  have h1:=B7 h.mono q p;have h2:=B7 k.mono q p;have n:st o'.cur q p=st o.cur q p:=by omega
  exact k.mP q p L (h.mP q p L l n) (by omega)
 zs:=λb c=>k.zs b (h.zs b c)
theorem Ext.bare {w w':World} {o o':Ow} (h:Ext w o w' o'):Ext w o.bare w' o'.bare:=⟨h.os,h.tape,h.output,h.same,h.free,h.gx,h.size,λ_=>⟨bc _,bc _⟩,λ_ _ _ h=>(by cases h),h.zs⟩
theorem At.ext {w w':World} {o o':Ow} (h:Ext w o w' o') {k s:Nat} {p:Path} {R:Loc->Prop} (b:At o k s p R):At o' k s p R:=by
 have hm:=B7 h.mono k p;rcases b with b|⟨b,L,d,e⟩
 ·exact .inl (gg b hm)
 ·rcases bR s (st o'.cur k p)with c|c
  ·exact .inl c
  ·exact .inr ⟨by omega,L,h.mP k p L d (by omega),e⟩
theorem Head.ext {w w':World} {o o':Ow} (h:Ext w o w' o') {k:Nat} {p:Path} {e n:Nat} {u:Value} (b:st o'.cur k p=st o.cur k p) (c:Head o k p e n u):Head o' k p e n u:=by obtain⟨q,cap,h1,h2,d,g⟩:=c;exact⟨q,cap,h1,h2,d,g.imp id λ⟨L,i,j⟩=>⟨L,h.mP k p L i b,j⟩⟩
theorem Den.ext {w w':World} {o o':Ow} (h:Ext w o w' o') {s:SV} {u:Value} (hd:Den w o s u):Den w' o' s u:=by
 induction s generalizing o o' u with
 |aI=>trivial
 |il sz n f=>trivial
 |es=>exact hd
 |v x=>exact hd
 |bl b=>exact hd
 |ptr k s p i j=>exact At.ext h hd
 |pe k s p i j len z=>exact At.ext h hd
 |sa k s p i j n=>exact At.ext h hd
 |aS k s p e n=>
  have hm:=B7 h.mono k p;rcases hd with hd|⟨hd,R⟩
  ·exact .inl (gg hd hm)
  ·rcases bR s (st o'.cur k p)with O|O
   ·exact .inl O
   ·exact .inr ⟨by omega,R.ext h (by omega)⟩
 |pt q n f l=>obtain⟨a,rfl,y⟩:=hd;refine⟨a,rfl,λj d=>?_⟩;obtain⟨x,A,g,r⟩:=y j d;have c:=fu A;rw[gI]at c;exact⟨x,h.same.cell (by rw[gI];exact g.1) A,⟨h.free _ c g.1,λe=>h.gx _ c g.1 (g.2 e)⟩,l j h.bare r⟩
 |sl q sz n f l=>obtain⟨p,cap,rfl,B,I,y⟩:=hd;refine⟨p,cap,rfl,B,I,y.imp id ?_⟩;intro C;obtain⟨a,e,C⟩:=C;refine⟨a,e,λi J j d=>?_⟩;obtain⟨x,A,g,r⟩:=C i J j d;have c:=fu A;rw[gI]at c;exact⟨x,h.same.cell (by rw[gI];exact g.1) A,⟨h.free _ c g.1,λe=>h.gx _ c g.1 (g.2 e)⟩,l i j h.bare r⟩
 |pa q sz n f l=>obtain⟨a,rfl,C⟩:=hd;refine⟨a,rfl,λi J j d=>?_⟩;obtain⟨x,A,g,r⟩:=C i J j d;have c:=fu A;rw[gI]at c;exact⟨x,h.same.cell (by rw[gI];exact g.1) A,⟨h.free _ c g.1,λe=>h.gx _ c g.1 (g.2 e)⟩,l i j h.bare r⟩
 |ag n f l=>obtain⟨E,rfl,hs,y⟩:=hd;exact⟨E,rfl,hs,λj d=>let⟨x,h1,h2⟩:=y j d;⟨x,h1,l j h h2⟩⟩
 |tp n f l=>obtain⟨E,rfl,hs,y⟩:=hd;exact⟨E,rfl,hs,λj d=>let⟨x,h1,h2⟩:=y j d;⟨x,h1,l j h h2⟩⟩
 |fn id n f l=>obtain⟨E,rfl,hs,y⟩:=hd;exact⟨E,rfl,hs,λj d=>let⟨x,h1,h2⟩:=y j d;⟨x,h1,l j h h2⟩⟩
 |bm id s l=>obtain⟨x,rfl,r⟩:=hd;exact⟨x,rfl,l h r⟩
 |mv nm s l=>obtain⟨x,rfl,r⟩:=hd;exact⟨x,rfl,l h r⟩
 |ic t s l=>obtain⟨x,rfl,r⟩:=hd;exact⟨x,rfl,l h r⟩
 |er t tf e at_=>
  rcases hd with hd|hd|⟨h1,h2,a,rfl,g,S,G,K⟩
  ·exact .inl hd
  ·exact .inr (.inl hd)
  ·have c:=fu G;rw[gI]at c;exact .inr (.inr ⟨h1,h2,a,rfl,h.free _ c g,h.gx _ c g S,h.same.cell (by rw[gI];exact g) G,h.same.cell (by rw[gI];exact g) K⟩)
theorem Den.up {w:World} {o:Ow} {s:SV} {u:Value} (hd:Den w o.bare s u):Den w o s u:=
 Den.ext (o:=o.bare) (o':=o) ⟨rfl,rfl,rfl,λ_ _ _=>rfl,λ_ _ h=>h,λ_ _ _ h=>h,bc _,λ_=>⟨gf _,gf _⟩,λ_ _ _ h=>(by cases h),λ_ h=>h⟩ hd
def bY (w:World) (o:Ow):List SV->List Value->Prop
 | [],[]=>True
 |s::r,u::t=>Den w o s u/\bY w o r t
 |_,_=>False
theorem bY.ext {w w':World} {o o':Ow} (h:Ext w o w' o'):∀{F:List SV} {l:List Value},bY w o F l->bY w' o' F l
 | [],[],_=>trivial
 |_::_,_::_,⟨h1,h2⟩=>⟨h1.ext h,bY.ext h h2⟩
 | [],_::_,hd=>hd.elim
 |_::_,[],hd=>hd.elim
theorem bY.len {w:World} {o:Ow}:∀{F:List SV} {l:List Value},bY w o F l->F.length=l.length
 | [],[],_=>rfl
 |_::_,_::_,⟨_,h2⟩=>by simp[h2.len]
 | [],_::_,hd=>hd.elim
 |_::_,[],hd=>hd.elim
theorem bY.get {w:World} {o:Ow}:∀{F:List SV} {l:List Value},bY w o F l->∀(i:Nat) (d:Value),Den w o (F.getD i .aI) (l.getD i d)
 | [],[],_,_,_=>by simp[Den]
 |_::_,_::_,⟨h1,_⟩,0,_=>by simpa using h1
 |_::_,_::_,⟨_,h2⟩,i+1,d=>by simpa using h2.get i d
 | [],_::_,hd,_,_=>hd.elim
 |_::_,[],hd,_,_=>hd.elim
theorem bY.get? {w:World} {o:Ow}:∀{F:List SV} {l:List Value},bY w o F l->∀(i:Nat),i<F.length->∃x,l[i]? =some x/\Den w o (F.getD i .aI) x
 |_::_,u::_,⟨h1,_⟩,0,_=>⟨u,by simp,by simpa using h1⟩
 |_::_,_::_,⟨_,h2⟩,i+1,b=>by simpa using h2.get? i (by simpa using b)
 | [],[],_,_,b=>absurd b (by simp)
 | [],_::_,hd,_,_=>hd.elim
 |_::_,[],hd,_,_=>hd.elim
theorem bY.set {w:World} {o:Ow} {s:SV} {u:Value} (hs:Den w o s u):∀{F:List SV} {l:List Value},bY w o F l->∀(i:Nat),bY w o (F.set i s) (l.set i u)
 | [],[],_,_=>by simp[bY]
 |_::_,_::_,⟨_,h2⟩,0=>by simpa [bY]using ⟨hs,h2⟩
 |_::_,_::_,⟨h1,h2⟩,i+1=>by simpa [bY]using ⟨h1,h2.set hs i⟩
 | [],_::_,hd,_=>hd.elim
 |_::_,[],hd,_=>hd.elim
theorem bY.mk {w:World} {o:Ow}:∀{F:List SV} {l:List Value},F.length=l.length->(∀i,i<F.length->∃x,l[i]? =some x/\Den w o (F.getD i .aI) x)->bY w o F l
 | [],[],_,_=>trivial
 |s::r,u::t,hl,h=>by
  refine⟨?_,bY.mk (by simpa using hl) λi b=>?_⟩
  ·obtain⟨x,h1,h2⟩:=h 0 (by simp);simp at h1 h2;subst h1;exact h2
  ·obtain⟨x,h1,h2⟩:=h (i+1) (by simp;exact b);exact⟨x,by simpa using h1,by simpa using h2⟩
 | [],_::_,hl,_=>by simp at hl
 |_::_,[],hl,_=>by simp at hl
theorem bY.append {w:World} {o:Ow}:∀{F G:List SV} {l m:List Value},bY w o F l->bY w o G m->bY w o (F++G) (l++m)
 | [],_,[],_,_,h=>by simpa using h
 |_::_,_,_::_,_,⟨h1,h2⟩,h=>⟨h1,h2.append h⟩
 | [],_,_::_,_,hd,_=>hd.elim
 |_::_,_,[],_,hd,_=>hd.elim
theorem bY.map {w:World} {o o':Ow} {g:SV->SV} (b:∀s u,Den w o s u->Den w o' (g s) u):∀{F:List SV} {l:List Value},bY w o F l->bY w o' (F.map g) l
 | [],[],_=>trivial
 |_::_,_::_,⟨h1,h2⟩=>⟨b _ _ h1,h2.map b⟩
 | [],_::_,hd=>hd.elim
 |_::_,[],hd=>hd.elim
def s_:IntKind->IntKind->Bool
 | .i8,.i8| .i16,.i16| .i32,.i32| .i64,.i64| .u8,.u8| .u16,.u16| .u32,.u32| .u64,.u64=>true
 |_,_=>false
theorem yk {a b:IntKind} (h:s_ a b=true):a=b:=by cases a<;>cases b<;>first|rfl|cases h
def mR:SV->Option Bool
 | .bl b=>some b
 | .v (.bool b)=>some b
 |_=>none
theorem kO {w:World} {o:Ow} {s:SV} {b:Bool} {u:Value} (h:mR s=some b) (hd:Den w o s u):u= .bool b:=by unfold mR at h;split at h<;>simp at h<;>subst h<;>exact hd
def xt (c:Bool) (x y:SV):SV:=
 match x,y with
 | .v (.int k a),.v (.int k' b)=>match s_ k k' with|true=> .v (.int k (bif c then a else b))|false=> .aI
 | .v (.string a),.v (.string b)=> .v (.string (bif c then a else b))
 | .er t tf e a,.er g d e' h=>match Nat.beq t g,Nat.beq tf d with|true,true=> .er t tf (bif c then e else e') (bif c then a else h)|_,_=> .aI
 |x,y=>match mR x,mR y with|some a,some b=> .v (.bool (bif c then a else b))|_,_=> .aI
theorem Fu {w:World} {o:Ow} {c:Bool} {x y:SV} {u:Value} (h1:c=true->Den w o x u) (h2:c=false->Den w o y u):Den w o (xt c x y) u:=by
 unfold xt;split
 ·split
  ·next g=>
   obtain rfl:=yk g;cases c
   ·exact h2 rfl
   ·exact h1 rfl
  ·trivial
 ·cases c
  ·exact h2 rfl
  ·exact h1 rfl
 ·split
  ·next d e=>
   obtain rfl:=a_ d;obtain rfl:=a_ e;cases c
   ·exact h2 rfl
   ·exact h1 rfl
  ·trivial
 ·split
  ·next a b h d=>
   cases c
   ·exact kO d (h2 rfl)
   ·exact kO h (h1 rfl)
  ·trivial
def jF (c:Bool) (x y:SV):SV:=
 match x,y with
 | .sl q sz n f,.sl e d g h=>match Nat.beq sz d,q==e with|true,true=> .sl q sz (bif c then n else g) (λa b=>xt c (f a b) (h a b))|_,_=> .aI
 |x,y=>xt c x y
theorem yA {w:World} {o:Ow} {c:Bool} {x y:SV} {u:Value} (h1:c=true->Den w o x u) (h2:c=false->Den w o y u):Den w o (jF c x y) u:=by
 unfold jF;split
 ·split
  ·next z A=>
   obtain rfl:=a_ z;obtain rfl:=eq_of_beq A;cases c
   ·obtain⟨p,cap,h,b,d,e⟩:=h2 rfl;refine⟨p,cap,h,b,d,e.imp_right ?_⟩;rintro ⟨a,g,k⟩;refine⟨a,g,λi l j n=>?_⟩;obtain⟨v,q,r,t⟩:=k i l j n;exact⟨v,q,r,Fu (λh=>nomatch h) (λ_=>t)⟩
   ·obtain⟨p,cap,h,b,d,e⟩:=h1 rfl;refine⟨p,cap,h,b,d,e.imp_right ?_⟩;rintro ⟨a,g,k⟩;refine⟨a,g,λi l j n=>?_⟩;obtain⟨v,q,r,t⟩:=k i l j n;exact⟨v,q,r,Fu (λ_=>t) (λh=>nomatch h)⟩
  ·trivial
 ·exact Fu h1 h2
def cZ:SV->Bool
 | .il _ _ _=>true
 |_=>false
theorem TN (c:Bool) (x y:SV):cZ (xt c x y)=false:=by
 unfold xt;split
 ·split<;>rfl
 ·rfl
 ·split<;>rfl
 ·split<;>rfl
theorem EJ (c:Bool) (x y:SV):cZ (jF c x y)=false:=by
 unfold jF;split
 ·split<;>rfl
 ·exact TN _ _ _
def hY (c:Bool) (x y:SV):SV:=
 match x,y with
 | .il sz n g,.il d e h=>match Nat.beq sz d with|true=> .il sz (bif c then n else e) (λa b=>jF c (g a b) (h a b))|false=> .aI
 |x,y=>jF c x y
theorem qp {w:World} {o:Ow} {c:Bool} {x y:SV} {u:Value} (h1:c=true->Den w o x u) (h2:c=false->Den w o y u):Den w o (hY c x y) u:=by
 unfold hY;split
 ·split<;>trivial
 ·exact yA h1 h2
theorem EI {c:Bool} {x y:SV} (h:cZ x=false):hY c x y=jF c x y:=by
 unfold hY;split
 ·cases h
 ·rfl
structure Row where
 sz:Nat
 n:Nat
 f:Nat->Nat->SV
inductive bp where
 |dead
 |cells (l:List SV)
 |row (sz n:Nat) (f:Nat->Nat->SV)
structure bw where
 rs:Nat
 ds:Nat
 hl:Option (Nat×Nat)
 b:bp
abbrev Mem:=List (Nat×bw)
def ae:Mem->Nat->bw
 | [],_=>⟨0,0,none,.dead⟩
 |p::r,k=>match Nat.beq p.1 k with|true=>p.2|false=>ae r k
theorem dk {k:Nat} {e:bw} {M:Mem}:ae ((k,e)::M) k=e:=by simp[ae]
theorem cF {k k':Nat} {e:bw} {M:Mem} (h:k≠k'):ae ((k,e)::M) k'=ae M k':=by
 have:Nat.beq k k'=false:=by
  cases b:Nat.beq k k'
  ·rfl
  ·exact absurd (a_ b) h
 simp only[ae,this]
def dy (M:Mem):Nat->Nat×Nat:=λk=>((ae M k).rs,(ae M k).ds)
def bp.row? :bp->Option Row
 | .dead=>none
 | .cells l=>some ⟨l.length,1,λ_ j=>aN l j⟩
 | .row sz n f=>some ⟨sz,n,f⟩
def inner (r:Row) (i j:Nat):Option Row:=
 match r.f i j with
 | .il sz n g=>some ⟨sz,n,g⟩
 |_=>none
def fD (b:bp):Path->Option Row
 |none=>b.row?
 |some (i,j)=>match b with| .row sz n f=>inner ⟨sz,n,f⟩ i j|_=>none
def rowAt (M:Mem) (k:Nat) (p:Path):Option Row:=fD (ae M k).b p
def Row.set (r:Row) (i j:Nat) (v:SV):Row:=⟨r.sz,r.n,λb c=>match Nat.beq c j with|false=>r.f b c|true=>hY (Nat.beq b i) v (r.f b c)⟩
def cO (w:World) (o:Ow) (hl:Option (Nat×Nat)) (k i j:Nat) (s:SV) (x:Value):Prop:=
 match s with
 | .il sz n _=>hl=some (i,j)\/(Head o k (some (i,j)) 0 n x/\∀L,o.β k (some (i,j))=some L->L.sz=sz)
 |s=>Den w o s x
def gJ (w:World) (o:Ow) (hl:Option (Nat×Nat)) (k:Nat):Path->Nat->Nat->SV->Value->Prop
 |none,i,j,s,x=>cO w o hl k i j s x
 |some _,_,_,s,x=>Den w o s x
def nN (w:World) (o:Ow) (hl:Option (Nat×Nat)) (k:Nat) (p:Path) (L:Loc) (r:Row):Prop:=
 ∃(c:Array Value) (T:TypeId),w.heap[L.b]? =some (Obj.cells c T (0,0))/\c.size=L.len/\L.o+L.dg*L.sz<=L.len/\
  ∀i,i<L.dg->∀j,j<L.sz->∃x,c[L.o+i*L.sz+j]? =some x/\gJ w o hl k p i j (r.f i j) x
structure aU (w:World) (o:Ow) (M:Mem):Prop where
 cur:o.cur=dy M
 own:∀b,(∃k p L,o.β k p=some L/\L.b=b)->o.A b
 ez:∀b,o.A b->b<w.heap.size
 dj:∀b,o.A b->¬o.Z b
 fS:∀b,o.Z b->b<w.heap.size
 inj:∀k p L k' p' L',o.β k p=some L->o.β k' p'=some L'->L.b=L'.b->k=k'/\p=p'
 low:∀k p L,o.β k p=some L->L.b<w.heap.size
 row:∀k p L,o.β k p=some L->∃r,rowAt M k p=some r/\r.sz=L.sz/\r.n=L.dg/\nN w o (ae M k).hl k p L r
 live:∀k l,(ae M k).b= .cells l->∃L,o.β k none=some L
 eE:∀k i j,(ae M k).hl=some (i,j)->o.β k (some (i,j))=none
theorem fC {w:World} {o:Ow} {hl:Option (Nat×Nat)} {k i j:Nat} {s:SV} {x:Value} (h:cZ s=false):cO w o hl k i j s x=Den w o s x:=by
 unfold cO;split
 ·cases h
 ·rfl
theorem cO.ext {w w':World} {o o':Ow} (h:Ext w o w' o') {hl:Option (Nat×Nat)} {k i j:Nat} (hs:(o'.cur k).2=(o.cur k).2) (d:∀q,o'.β k q=o.β k q) {s:SV} {x:Value} (b:cO w o hl k i j s x):cO w' o' hl k i j s x:=by
 cases c:cZ s with
 |false=>
  rw[fC c]at*
  exact Den.ext h b
 |true=>
  cases s with
  |il sz n g=>
   rcases b with b|⟨h1,h2⟩
   ·exact .inl b
   ·exact .inr ⟨h1.ext h hs,λL e=>h2 L (by rw[<-d];exact e)⟩
  |_=>cases c
theorem gJ.ext {w w':World} {o o':Ow} (h:Ext w o w' o') {hl:Option (Nat×Nat)} {k i j:Nat} {p:Path} (hs:(o'.cur k).2=(o.cur k).2) (c:∀q,o'.β k q=o.β k q) {s:SV} {x:Value} (b:gJ w o hl k p i j s x):gJ w' o' hl k p i j s x:=by
 cases p with
 |none=>exact cO.ext h hs c b
 |some _=>exact Den.ext h b
theorem nN.ext {w w':World} {o o':Ow} (h:Ext w o w' o') {hl:Option (Nat×Nat)} {k:Nat} {p:Path} {L:Loc} {r:Row} (hs:(o'.cur k).2=(o.cur k).2) (d:∀q,o'.β k q=o.β k q) (e:w'.heap[L.b]? =w.heap[L.b]?)
 (g:nN w o hl k p L r):nN w' o' hl k p L r:=by
 obtain⟨c,T,h1,h2,l,n⟩:=g;refine⟨c,T,e.trans h1,h2,l,λi t j u=>?_⟩;obtain⟨x,v,y⟩:=n i t j u;exact⟨x,v,y.ext h hs d⟩
theorem nN.lt {w:World} {o:Ow} {hl:Option (Nat×Nat)} {k:Nat} {p:Path} {L:Loc} {r:Row} (d:nN w o hl k p L r):L.b<w.heap.size:=by obtain⟨c,T,h1,_⟩:=d;exact(eZ.1 h1).1
structure bz (w:World) (o:Ow) (M:Mem) (w':World) (o':Ow) (M':Mem):Prop where
 ext:Ext w o w' o'
 mem:aU w' o' M'
theorem bz.trans {w w' b:World} {o o' c:Ow} {M M' d:Mem} (h:bz w o M w' o' M') (k:bz w' o' M' b c d):bz w o M b c d:=⟨h.ext.trans k.ext,k.mem⟩
theorem bz.refl {w:World} {o:Ow} {M:Mem} (h:aU w o M):bz w o M w o M:=⟨Ext.refl _ _,h⟩
/-! ### a world with the same memory, or more of it -/
def Cw (w w':World):Prop:=w'.os=w.os/\w'.tape=w.tape/\w'.output=w.output/\w.heap.size<=w'.heap.size/\∀b,b<w.heap.size->w'.heap[b]? =w.heap[b]?
theorem Cw.refl (w:World):Cw w w:=⟨rfl,rfl,rfl,bc _,λ_ _=>rfl⟩
theorem Cw.ext {w w':World} (h:Cw w w') (o:Ow):Ext w o w' o:=⟨h.1,h.2.1,h.2.2.1,λb c _=>h.2.2.2.2 b c,λ_ _ h=>h,λ_ _ _ h=>h,h.2.2.2.1,λ_=>⟨bc _,bc _⟩,λ_ _ _ h _=>h,λ_ h=>h⟩
theorem aU.more {w w':World} {o:Ow} {M:Mem} (hm:aU w o M) (h:Cw w w'):aU w' o M where
 cur:=hm.cur
 own:=hm.own
 ez:=λb d=>gg (hm.ez b d) h.2.2.2.1
 dj:=hm.dj
 fS:=λb d=>gg (hm.fS b d) h.2.2.2.1
 inj:=hm.inj
 low:=λk p L c=>gg (hm.low k p L c) h.2.2.2.1
 row:=λk p L c=>by obtain⟨r,h1,h2,e,g⟩:=hm.row k p L c;exact⟨r,h1,h2,e,g.ext (h.ext o) rfl (λ_=>rfl) (h.2.2.2.2 _ (hm.low k p L c))⟩
 live:=hm.live
 eE:=hm.eE
theorem bz.more {w w':World} {o:Ow} {M:Mem} (hm:aU w o M) (h:Cw w w'):bz w o M w' o M:=⟨h.ext o,hm.more h⟩
/-! ### a new root -/
def Ow.add (o:Ow) (k:Nat) (L:Loc):Ow:=⟨λb=>o.A b\/b=L.b,o.Z,λk' p=>if k'=k/\p=none then some L else o.β k' p,o.cur⟩
def xq (o:Ow) (M:Mem) (k:Nat):Prop:=(ae M k).b= .dead/\(ae M k).hl=none/\∀p,o.β k p=none
def fresh (M:Mem) (k:Nat) (b:bp):Mem:=(k,⟨(ae M k).rs,(ae M k).ds,none,b⟩)::M
theorem v_ {M:Mem} {k:Nat} {e:bw} (h1:e.rs=(ae M k).rs) (h2:e.ds=(ae M k).ds):dy ((k,e)::M)=dy M:=by
 funext k';unfold dy;by_cases b:k=k'
 ·subst b;rw[dk,h1,h2]
 ·rw[cF b]
theorem E0 {w:World} {o:Ow} {k:Nat} {d:Obj} {L:Loc} (c:L.b=w.heap.size) (g:∀p,o.β k p=none):Ext w o (w.alloc d) (o.add k L) where
 os:=rfl
 tape:=rfl
 output:=rfl
 same:=λb c _=>Below.heap_alloc _ _ _ c
 free:=λb i h h2=>h2.elim h (λe=>by omega)
 gx:=λ_ _ _ h=>h
 size:=by simp
 mono:=λ_=>⟨bc _,bc _⟩
 mP:=λk' p L' h _=>by
  show(if k'=k/\p=none then some L else o.β k' p)=some L';rw[if_neg]
  ·exact h
  ·rintro ⟨rfl,rfl⟩;rw[g]at h;cases h
 zs:=λ_ h=>h
theorem bz.alloc {w:World} {o:Ow} {M:Mem} (hm:aU w o M) {k:Nat} (K:xq o M k) {c:Array Value} {T:TypeId} {b:bp} {r:Row} (S:b.row? =some r)
 {L:Loc} (v:L=⟨w.heap.size,0,r.sz,r.n,c.size⟩) (U:r.n*r.sz<=c.size)
 (y:∀i,i<r.n->∀j,j<r.sz->∃x,c[i*r.sz+j]? =some x/\gJ (w.alloc (.cells c T)) (o.add k L) none k none i j (r.f i j) x):
 bz w o M (w.alloc (.cells c T)) (o.add k L) (fresh M k b):=by
 have d:Ext w o (w.alloc (.cells c T)) (o.add k L):=E0 (by rw[v]) K.2.2;have g:∀k' p L',(o.add k L).β k' p=some L'->(k'=k/\p=none/\L'=L)\/(¬(k'=k)/\o.β k' p=some L'):=by
  intro k' p L' h;by_cases t:k'=k/\p=none
  ·have z:(if k'=k/\p=none then some L else o.β k' p)=some L':=h;rw[if_pos t]at z;exact .inl ⟨t.1,t.2,(aV z).symm⟩
  ·have z:(if k'=k/\p=none then some L else o.β k' p)=some L':=h;rw[if_neg t]at z;refine .inr ⟨λe=>?_,z⟩;subst e;rw[K.2.2]at z;cases z
 have u:L.b=w.heap.size:=by rw[v]
 refine⟨d,?_,?_,?_,?_,?_,?_,?_,?_,?_,?_⟩
 ·show o.cur=_;rw[hm.cur];unfold fresh;exact(v_ (M:=M) (k:=k) (e:=⟨(ae M k).rs,(ae M k).ds,none,b⟩) rfl rfl).symm
 ·rintro A ⟨k',p,L',h1,h2⟩;rcases g k' p L' h1 with⟨_,_,rfl⟩|⟨_,h⟩
  ·exact .inr h2.symm
  ·exact .inl ((hm.own A) ⟨k',p,L',h,h2⟩)
 ·rintro A (h|rfl)
  ·exact gg (hm.ez A h) d.size
  ·rw[v];simp
 ·rintro A (h|rfl) G
  ·exact hm.dj A h G
  ·have:=hm.fS _ G;omega
 ·exactλA G=>gg (hm.fS A G) d.size
 ·intro k1 p1 E k2 X Y h1 h2 e;rcases g _ _ _ h1 with⟨rfl,rfl,rfl⟩|⟨_,B⟩<;>rcases g _ _ _ h2 with⟨rfl,rfl,rfl⟩|⟨_,g2⟩
  ·exact⟨rfl,rfl⟩
  ·have:=hm.low _ _ _ g2;omega
  ·have:=hm.low _ _ _ B;omega
  ·exact hm.inj _ _ _ _ _ _ B g2 e
 ·intro k1 p1 E h1;rcases g _ _ _ h1 with⟨rfl,rfl,rfl⟩|⟨_,B⟩
  ·rw[u];simp
  ·have:=hm.low _ _ _ B;simp;omega
 ·intro k1 p1 E h1;rcases g _ _ _ h1 with⟨rfl,rfl,rfl⟩|⟨C,B⟩
  ·refine⟨r,by unfold rowAt fresh;rw[dk];exact S,by rw[v],by rw[v],c,T,by rw[u];exact heap_alloc_new w _,by rw[v],by rw[v];simpa using U,?_⟩;rw[v];intro i V j W;obtain⟨x,J,I⟩:=y i V j W;refine⟨x,by simpa using J,?_⟩;unfold fresh;rw[dk];rw[v]at I;exact I
  ·obtain⟨r1,J,I,e3,e4⟩:=hm.row k1 p1 E B;refine⟨r1,by unfold rowAt fresh;rw[cF (cA C)];exact J,I,e3,?_⟩;unfold fresh;rw[cF (cA C)];refine e4.ext d rfl (λq=>?_) (Below.heap_alloc _ _ _ (hm.low _ _ _ B));show(if k1=k/\q=none then some L else o.β k1 q)=_;rw[if_neg (λh=>C h.1)]
 ·intro k1 l h;by_cases t:k1=k
  ·subst t;exact⟨L,by simp[Ow.add]⟩
  ·unfold fresh at h;rw[cF (cA t)]at h;obtain⟨E,h1⟩:=hm.live k1 l h;exact⟨E,d.mP _ _ _ h1 rfl⟩
 ·intro k1 O R h;by_cases t:k1=k
  ·subst t;unfold fresh at h;rw[dk]at h;cases h
  ·unfold fresh at h;rw[cF (cA t)]at h;show(if k1=k/\some (O,R)=none then some L else o.β k1 (some (O,R)))=none;rw[if_neg (λh=>t h.1)];exact hm.eE _ _ _ h
/-! ### one cell is written -/
theorem yb (w:World) (a:Addr) (x:Value) {b:Nat} (h:b≠a.block):(w.setCell a x).heap[b]? =w.heap[b]? :=Below.heap_setCell w a x b h
theorem Jc {w:World} {b off:Nat} {x:Value} {c:Array Value} {T:TypeId} {d:Nat×Nat} (h:w.heap[b]? =some (Obj.cells c T d)):(w.setCell ⟨b,off,none⟩ x).heap[b]? =some (Obj.cells (c.setIfInBounds off x) T d):=by simp only[World.setCell,Array.getElem?_modify,if_pos,h,iB,Option.isSome_none,zd,if_false]
theorem Tp {w:World} {o:Ow} {a:Addr} (x:Value) (c:o.A a.block):Ext w o (w.setCell a x) o where
 os:=rfl
 tape:=rfl
 output:=rfl
 same:=λb _ d=>yb w a x (λe=>d (e▸c))
 free:=λ_ _ h=>h
 gx:=λ_ _ _ h=>h
 size:=by simp[World.setCell]
 mono:=λ_=>⟨bc _,bc _⟩
 mP:=λ_ _ _ h _=>h
 zs:=λ_ h=>h
theorem Xm {i j b c sz o:Nat} (e:j<sz) (d:c<sz) (h:o+i*sz+j=o+b*sz+c):i=b/\j=c:=by
 have h:i*sz+j=b*sz+c:=by omega
 have h1:(i*sz+j)/sz=i:=by rw[jZ,B2 _ _ (by omega),B3 e];omega
 have h2:(b*sz+c)/sz=b:=by rw[jZ,B2 _ _ (by omega),B3 d];omega
 have:i=b:=by rw[<-h1,<-h2,h]
 subst this;exact⟨rfl,by omega⟩
theorem lG {i j sz dg:Nat} (b:i<dg) (c:j<sz):i*sz+j<dg*sz:=by have:=qz sz (show i+1<=dg by omega);rw[iD]at this;omega
theorem bz.put {w:World} {o:Ow} {M:Mem} (hm:aU w o M) {k:Nat} {p:Path} {L:Loc} (I:o.β k p=some L) {i j:Nat} (hi:i<L.dg) (Y:j<L.sz) {x:Value} {e':bw}
 (J:e'.rs=(ae M k).rs/\e'.ds=(ae M k).ds/\e'.hl=(ae M k).hl) (u:∀l',e'.b= .cells l'->∃l,(ae M k).b= .cells l)
 (E:∀q r,fD (ae M k).b q=some r->∃r',fD e'.b q=some r'/\r'.sz=r.sz/\r'.n=r.n/\∀a,a<r.n->∀b,b<r.sz->
   ((q=p/\a=i/\b=j)->∀w',Ext w o w' o->gJ w' o (ae M k).hl k q a b (r'.f a b) x)/\(¬(q=p/\a=i/\b=j)->∀w' y,gJ w' o (ae M k).hl k q a b (r.f a b) y->gJ w' o (ae M k).hl k q a b (r'.f a b) y)):
 bz w o M (w.setCell ⟨L.b,L.o+i*L.sz+j,none⟩ x) o ((k,e')::M):=by
 have Z:o.A L.b:=(hm.own _) ⟨k,p,L,I,rfl⟩;have d:=Tp (w:=w) (o:=o) (a:=⟨L.b,L.o+i*L.sz+j,none⟩) x Z;refine⟨d,?_,hm.own,λb h=>by simpa [World.setCell]using hm.ez b h,hm.dj,λb h=>by simpa [World.setCell]using hm.fS b h,hm.inj,λk p L h=>by simpa [World.setCell]using hm.low k p L h,?_,?_,?_⟩
 ·rw[hm.cur];exact(v_ J.1 J.2.1).symm
 ·intro k1 p1 t h1;obtain⟨r,U,G,e3,e4⟩:=hm.row k1 p1 t h1;by_cases g:k1=k
  ·subst g;obtain⟨r',f1,f2,f3,O⟩:=E p1 r U;refine⟨r',by unfold rowAt;rw[dk];exact f1,f2.trans G,f3.trans e3,?_⟩;rw[dk,J.2.2];obtain⟨c,T,V,g2,W,X⟩:=e4;by_cases hp:p1=p
   ·subst hp;obtain rfl:t=L:=aV (h1.symm.trans I);refine⟨c.setIfInBounds (t.o+i*t.sz+j) x,T,Jc V,by simpa using g2,W,λa C b v=>?_⟩;obtain⟨y,K,R⟩:=X a C b v;have S:t.o+a*t.sz+b<c.size:=(eZ.1 K).1;by_cases z:a=i/\b=j
    ·obtain⟨rfl,rfl⟩:=z;exact⟨x,by rw[wY S],(O a (by rw[e3];exact C) b (by rw[G];exact v)).1 ⟨rfl,rfl,rfl⟩ _ d⟩
    ·refine⟨y,?_,(O a (by rw[e3];exact C) b (by rw[G];exact v)).2 (λh=>z h.2) _ y (R.ext d rfl (λ_=>rfl))⟩;rw[pU]
     ·exact K
     ·intro e;obtain⟨h5,h6⟩:=Xm Y v e;exact z ⟨h5.symm,h6.symm⟩
   ·have B:t.b≠L.b:=λe=>hp (hm.inj _ _ _ _ _ _ h1 I e).2;refine⟨c,T,(yb w _ x B).trans V,g2,W,λa C b v=>?_⟩;obtain⟨y,K,R⟩:=X a C b v;exact⟨y,K,(O a (by rw[e3];exact C) b (by rw[G];exact v)).2 (λh=>hp h.1) _ y (R.ext d rfl (λ_=>rfl))⟩
  ·have B:t.b≠L.b:=λe=>g (hm.inj _ _ _ _ _ _ h1 I e).1;refine⟨r,by unfold rowAt;rw[cF (cA g)];exact U,G,e3,?_⟩;rw[cF (cA g)];exact e4.ext d rfl (λ_=>rfl) (yb w _ x B)
 ·intro k1 l h;by_cases g:k1=k
  ·subst g;rw[dk]at h;obtain⟨l0,h0⟩:=u l h;exact hm.live k1 l0 h0
  ·rw[cF (cA g)]at h;exact hm.live k1 l h
 ·intro k1 i1 j1 h;by_cases g:k1=k
  ·subst g;rw[dk,J.2.2]at h;exact hm.eE _ _ _ h
  ·rw[cF (cA g)]at h;exact hm.eE _ _ _ h
theorem bz.putCells {w:World} {o:Ow} {M:Mem} (hm:aU w o M) {k:Nat} {l:List SV} (d:(ae M k).b= .cells l) {L:Loc} (u:o.β k none=some L) {i j:Nat} (z:i<L.dg) (A:j<l.length) {v:SV} {x:Value} (B:cZ v=false) (C:Den w o v x):
 bz w o M (w.setCell ⟨L.b,L.o+i*L.sz+j,none⟩ x) o ((k,{ae M k with b:= .cells (l.set j v)})::M):=by
 obtain⟨r,c,E,e3,e4⟩:=hm.row k none L u;have G:=c;unfold rowAt at c;rw[d]at c;obtain rfl:=aV c;refine bz.put hm u z (by rw[<-E];exact A) ⟨rfl,rfl,rfl⟩ (λ_ _=>⟨l,d⟩) ?_;intro q r g;rw[d]at g;cases q with
 |none=>
  obtain rfl:=aV g;refine⟨⟨(l.set j v).length,1,λ_ q=>aN (l.set j v) q⟩,rfl,by simp,rfl,λa I b h=>⟨?_,?_⟩⟩
  ·rintro ⟨_,rfl,rfl⟩ w' n;have:aN (l.set b v) b=v:=by simp[aN,cD,h]
   show cO _ _ _ _ _ _ (aN (l.set b v) b) _;rw[this,fC B];exact C.ext n
  ·intro p w' y J;have K:i=0:=by have:L.dg=1:=e3.symm;omega
   have O:a=0:=by simp at I;omega
   have t:b≠j:=λe=>p ⟨rfl,by omega,e⟩;have:aN (l.set j v) b=aN l b:=by simp[aN,cD,List.getElem?_set_ne (cA t)]
   show cO _ _ _ _ _ _ (aN (l.set j v) b) _;rw[this];exact J
 |some R=>obtain⟨S,T⟩:=R;cases g
theorem th {r:Row} {i j c b:Nat} {v:SV} (h:b≠j):(r.set i j v).f c b=r.f c b:=by
 have:Nat.beq b j=false:=by
  cases d:Nat.beq b j
  ·rfl
  ·exact absurd (a_ d) h
 simp only[Row.set,this]
theorem tg {r:Row} {i j b:Nat} {v:SV}:(r.set i j v).f b j=hY (Nat.beq b i) v (r.f b j):=by simp[Row.set]
theorem Tq {r:Row} {i j:Nat} (h:cZ (r.f i j)=false):inner r i j=none:=by
 unfold inner;split
 ·next e=>rw[e]at h;cases h
 ·rfl
theorem bz.putRow {w:World} {o:Ow} {M:Mem} (hm:aU w o M) {k sz n:Nat} {f:Nat->Nat->SV} (G:(ae M k).b= .row sz n f) {L:Loc} (I:o.β k none=some L) {i j:Nat} (J:i<L.dg) (K:j<sz) {v:SV} {x:Value} (O:cZ v=false) (R:Den w o v x)
 (d:∀g,cZ (f g j)=false):
 bz w o M (w.setCell ⟨L.b,L.o+i*L.sz+j,none⟩ x) o ((k,{ae M k with b:= .row sz n ((⟨sz,n,f⟩:Row).set i j v).f})::M):=by
 obtain⟨r,u,S,e3,e4⟩:=hm.row k none L I;unfold rowAt at u;rw[G]at u;obtain rfl:=aV u;have c:∀g,cZ (((⟨sz,n,f⟩:Row).set i j v).f g j)=false:=λg=>by rw[tg,EI O];exact EJ _ _ _
 refine bz.put hm I J (by rw[<-S];exact K) ⟨rfl,rfl,rfl⟩ (λ_ h=>by cases h) ?_;intro q r l;rw[G]at l;cases q with
 |none=>
  obtain rfl:=aV l;refine⟨⟨sz,n,((⟨sz,n,f⟩:Row).set i j v).f⟩,rfl,rfl,rfl,λa T b z=>⟨?_,?_⟩⟩
  ·rintro ⟨_,rfl,rfl⟩ w' A;show cO _ _ _ _ _ _ (((⟨sz,n,f⟩:Row).set a b v).f a b) _;rw[fC (c a),tg];exact qp (λ_=>R.ext A) (λh=>by rw[cy]at h;cases h)
  ·intro B w' y p;show cO _ _ _ _ _ _ (((⟨sz,n,f⟩:Row).set i j v).f a b) _;by_cases t:b=j
   ·subst t;rw[fC (c a),tg];have p:cO w' o (ae M k).hl k a b (f a b) y:=p;rw[fC (d a)]at p;exact qp (λh=>absurd (a_ h) (λe=>B ⟨rfl,e,rfl⟩)) (λ_=>p)
   ·rw[th t];exact p
 |some U=>
  obtain⟨g,C⟩:=U;have l:inner ⟨sz,n,f⟩ g C=some r:=l;have E:C≠j:=by intro e;subst e;rw[Tq (d g)]at l;cases l
  refine⟨r,?_,rfl,rfl,λa T b z=>⟨?_,λ_ _ _ h=>h⟩⟩
  ·show inner ⟨sz,n,((⟨sz,n,f⟩:Row).set i j v).f⟩ g C=some r;unfold inner at l⊢;simp only[th E];exact l
  ·rintro ⟨h,_⟩;cases h
def tH (sz:Nat):SV->Bool
 | .il b _ _=>Nat.beq b sz
 |_=>false
theorem Ft {sz:Nat} {s:SV} (h:tH sz s=true):∃n g,s= .il sz n g:=by
 unfold tH at h;split at h
 ·obtain rfl:=a_ h;exact⟨_,_,rfl⟩
 ·cases h
theorem bz.Vw {w:World} {o:Ow} {M:Mem} (hm:aU w o M) {k sz n:Nat} {f:Nat->Nat->SV} (R:(ae M k).b= .row sz n f) {u l:Nat} {c p:Nat} {g:Nat->Nat->SV} (T:f u l= .il c p g)
 {L:Loc} (W:o.β k (some (u,l))=some L) {i j:Nat} (Z:i<L.dg) (hj:j<c) {v:SV} {x:Value} (hv:cZ v=false) (hx:Den w o v x) (I:∀d,tH c (f d l)=true):
 bz w o M (w.setCell ⟨L.b,L.o+i*L.sz+j,none⟩ x) o ((k,{ae M k with b:= .row sz n ((⟨sz,n,f⟩:Row).set u l (.il c p ((⟨c,p,g⟩:Row).set i j v).f)).f})::M):=by
 obtain⟨r,E,e2,e3,e4⟩:=hm.row k _ L W;unfold rowAt at E;rw[R]at E;have E:inner ⟨sz,n,f⟩ u l=some r:=E;unfold inner at E;simp only[T]at E;obtain rfl:=aV E;have J:∀d,∃t z,f d l= .il c t z/\((⟨sz,n,f⟩:Row).set u l (.il c p ((⟨c,p,g⟩:Row).set i j v).f)).f d l= .il c (bif Nat.beq d u then p else t) (λa b=>jF (Nat.beq d u) (((⟨c,p,g⟩:Row).set i j v).f a b) (z a b)):=by intro d;obtain⟨t,z,h⟩:=Ft (I d);exact⟨t,z,h,by rw[tg];show hY _ _ (f d l)=_;rw[h];simp[hY]⟩
 have K:∀d t z,f d l= .il c t z->(bif Nat.beq d u then p else t)=t:=by
  intro d t z h;cases R:Nat.beq d u
  ·rfl
  ·obtain rfl:=a_ R;rw[T]at h;cases h;rfl
 refine bz.put hm W Z (by rw[<-e2];exact hj) ⟨rfl,rfl,rfl⟩ (λ_ h=>by cases h) ?_;intro q r B;rw[R]at B;cases q with
 |none=>
  obtain rfl:=aV B;refine⟨⟨sz,n,((⟨sz,n,f⟩:Row).set u l (.il c p ((⟨c,p,g⟩:Row).set i j v).f)).f⟩,rfl,rfl,rfl,λa X b O=>⟨?_,?_⟩⟩
  ·rintro ⟨h,_⟩;cases h
  ·intro _ w' y C;show cO _ _ _ _ _ _ (((⟨sz,n,f⟩:Row).set u l (.il c p ((⟨c,p,g⟩:Row).set i j v).f)).f a b) _;by_cases A:b=l
   ·subst A;obtain⟨t,z,h1,h2⟩:=J a;rw[h2];have C:cO w' o (ae M k).hl k a b (f a b) y:=C;rw[h1]at C;show _\/_;rw[K a t z h1];exact C
   ·rw[th A];exact C
 |some ij=>
  obtain⟨d,S⟩:=ij;have B:inner ⟨sz,n,f⟩ d S=some r:=B;by_cases G:S=l
  ·subst G;obtain⟨t,z,h1,h2⟩:=J d;unfold inner at B;simp only[h1]at B;obtain rfl:=aV B;refine⟨⟨c,bif Nat.beq d u then p else t,λa b=>jF (Nat.beq d u) (((⟨c,p,g⟩:Row).set i j v).f a b) (z a b)⟩,by show inner ⟨sz,n,_⟩ d S=_;unfold inner;simp only[h2],rfl,K d t z h1,λa X b O=>⟨?_,?_⟩⟩
   ·rintro ⟨Y,rfl,rfl⟩ w' U;simp only[bF,bJ,and_true]at Y;subst Y;refine yA (λ_=>?_) (λh=>by rw[cy]at h;cases h);rw[tg];exact qp (λ_=>hx.ext U) (λh=>by rw[cy]at h;cases h)
   ·intro V w' y C;refine yA (λh=>?_) (λ_=>C);have h:=a_ h;subst h;rw[T]at h1;cases h1;by_cases A:b=j
    ·subst A;rw[tg];exact qp (λh=>absurd (a_ h) (λe=>V ⟨rfl,e,rfl⟩)) (λ_=>C)
    ·rw[th A];exact C
  ·refine⟨r,?_,rfl,rfl,λa X b O=>⟨?_,λ_ _ _ h=>h⟩⟩
   ·show inner ⟨sz,n,_⟩ d S=some r;unfold inner at B⊢;simp only[th G];exact B
   ·rintro ⟨h,_⟩;simp only[bF,bJ]at h;exact absurd h.2 G
def Ow.re (o:Ow) (β:Nat->Path->Option Loc) (M:Mem):Ow:=⟨λb=>∃k p L,β k p=some L/\L.b=b,o.Z,β,dy M⟩
theorem bz.re {w:World} {o:Ow} {M:Mem} (hm:aU w o M) {β:Nat->Path->Option Loc} {M':Mem} (φ:Nat->Path->Nat×Path)
 (h1:∀k p L,β k p=some L->∃q,o.β (φ k p).1 (φ k p).2=some q/\L.b=q.b)
 (h2:∀k p L k' p' L',β k p=some L->β k' p'=some L'->φ k p=φ k' p'->k=k'/\p=p')
 (t:Ext w o w (o.re β M')) (v:∀k p L,β k p=some L->∃r,rowAt M' k p=some r/\r.sz=L.sz/\r.n=L.dg/\nN w (o.re β M') (ae M' k).hl k p L r)
 (x:∀k l,(ae M' k).b= .cells l->∃L,β k none=some L) (y:∀k i j,(ae M' k).hl=some (i,j)->β k (some (i,j))=none):bz w o M w (o.re β M') M':=by
 refine⟨t,rfl,λ_ h=>h,?_,?_,hm.fS,?_,?_,v,x,y⟩
 ·rintro b ⟨k,p,L,c,rfl⟩;obtain⟨q,d,g⟩:=h1 _ _ _ c;rw[g];exact hm.low _ _ _ d
 ·rintro b ⟨k,p,L,c,rfl⟩;obtain⟨q,d,g⟩:=h1 _ _ _ c;rw[g];exact hm.dj _ (hm.own _ ⟨_,_,_,d,rfl⟩)
 ·intro k p L k' p' L' c u e;obtain⟨q,d,g⟩:=h1 _ _ _ c;obtain⟨C,z,g2⟩:=h1 _ _ _ u;obtain⟨A,B⟩:=hm.inj _ _ _ _ _ _ d z (by rw[<-g,<-g2];exact e);exact h2 _ _ _ _ _ _ c u (Prod.ext A B)
 ·intro k p L c;obtain⟨q,d,g⟩:=h1 _ _ _ c;rw[g];exact hm.low _ _ _ d
theorem CJ {w:World} {o:Ow} {M M':Mem} (hm:aU w o M) {β:Nat->Path->Option Loc} (h1:∀k p L,β k p=some L->∃k0 p0 c,o.β k0 p0=some c/\L.b=c.b)
 (h2:∀k,(ae M k).rs<=(ae M' k).rs/\(ae M k).ds<=(ae M' k).ds) (d:∀k p L,o.β k p=some L->st (dy M') k p=st (dy M) k p->β k p=some L):Ext w o w (o.re β M') where
 os:=rfl
 tape:=rfl
 output:=rfl
 same:=λ_ _ _=>rfl
 free:=λb _ h g=>by obtain⟨k,p,L,i,j⟩:=g;obtain⟨k0,p0,c,l,n⟩:=h1 _ _ _ i;exact h ((hm.own b) ⟨k0,p0,c,l,by rw[<-n];exact j⟩)
 gx:=λ_ _ _ h=>h
 size:=bc _
 mono:=λk=>by rw[hm.cur];exact h2 k
 mP:=λk p L h e=>d k p L h (by rw[hm.cur]at e;exact e)
 zs:=λ_ h=>h
def kill (M:Mem) (k:Nat):Mem:=(k,⟨(ae M k).rs+1,(ae M k).ds+1,none,.dead⟩)::M
theorem ql {M:Mem} {k:Nat}:ae (kill M k) k=⟨(ae M k).rs+1,(ae M k).ds+1,none,.dead⟩:=dk
theorem iA {M:Mem} {k k':Nat} (h:k≠k'):ae (kill M k) k'=ae M k':=cF h
theorem bz.kill {w:World} {o:Ow} {M:Mem} (hm:aU w o M) (k:Nat):∃o',bz w o M w o' (kill M k)/\(∀k' p,k'≠k->o'.β k' p=o.β k' p)/\(∀p,o'.β k p=none):=by
 refine⟨o.re (λk' p=>if k'=k then none else o.β k' p) (Sy.kill M k),?_,λk' p h=>if_neg h,λp=>if_pos rfl⟩;have g:∀{k' p L},(if k'=k then none else o.β k' p)=some L->k'≠k/\o.β k' p=some L:=by
  intro k' p L h;split at h
  ·cases h
  ·next b=>exact⟨b,h⟩
 have c:Ext w o w (o.re (λk' p=>if k'=k then none else o.β k' p) (Sy.kill M k)):=by
  refine CJ hm (λk' p L h=>⟨k',p,L,(g h).2,rfl⟩) (λk'=>?_) (λk' p L h e=>?_)
  ·by_cases d:k=k'
   ·subst d;rw[ql];exact⟨oC _,oC _⟩
   ·rw[iA d];exact⟨bc _,bc _⟩
  ·show(if k'=k then none else o.β k' p)=some L;rw[if_neg]
   ·exact h
   ·intro d;subst d;cases p<;>simp[st,dy,ql]at e
 refine bz.re hm (λk p=>(k,p)) (λk' p L h=>⟨L,(g h).2,rfl⟩) (λ_ _ _ _ _ _ _ _ e=>by simpa using e) c (λk' p L h=>?_) (λk' l h=>?_) (λk' i j h=>?_)
 ·obtain⟨b,h⟩:=g h;obtain⟨r,n,t,e3,e4⟩:=hm.row _ _ _ h;refine⟨r,by unfold rowAt;rw[iA (cA b)];exact n,t,e3,?_⟩;rw[iA (cA b)];refine e4.ext c ?_ (λq=>if_neg b) rfl;show(dy _ k').2=_;rw[hm.cur];simp only[dy,iA (cA b)]
 ·have b:k≠k':=by intro e;subst e;rw[ql]at h;cases h
  rw[iA b]at h;obtain⟨L,u⟩:=hm.live _ _ h;exact⟨L,(if_neg (cA b)).trans u⟩
 ·by_cases d:k=k'
  ·subst d;exact if_pos rfl
  ·rw[iA d]at h;exact(if_neg (cA d)).trans (hm.eE _ _ _ h)
/-! ### a slice is taken out of its cell -/
def dE:SV->SV
 | .il _ _ _=> .aI
 |s=>s
theorem yd (s:SV):cZ (dE s)=false:=by cases s<;>rfl
theorem sj {w:World} {o:Ow} {s:SV} {u:Value} (h:Den w o s u):Den w o (dE s) u:=by cases s<;>first|exact h|trivial
def kY (M:Mem) (k i j:Nat):Mem:=(k,⟨(ae M k).rs,(ae M k).ds+1,some (i,j),(ae M k).b⟩)::M
theorem Je {M:Mem} {k i j:Nat}:ae (kY M k i j) k=⟨(ae M k).rs,(ae M k).ds+1,some (i,j),(ae M k).b⟩:=dk
theorem AY {M:Mem} {k i j k':Nat} (h:k≠k'):ae (kY M k i j) k'=ae M k':=cF h
theorem bz.OC {w:World} {o:Ow} {M:Mem} (hm:aU w o M) {k r i j:Nat} (K:k≠r) (hf:xq o M r) (U:(ae M k).hl=none) {sz n u B:Nat} {f g:Nat->Nat->SV} (Z:(ae M k).b= .row sz n f) (hg:f i j= .il u B g):
 ∃o',bz w o M w o' (fresh (kY M k i j) r (.row u B λa b=>dE (g a b)))/\o'.β r none=o.β k (some (i,j))/\(∀p,p≠none->o'.β r p=none)/\(∀k' p,k'≠r->(k',p)≠(k,some (i,j))->o'.β k' p=o.β k' p):=by
 let β:Nat->Path->Option Loc:=λk' p=>if k'=r then(if p=none then o.β k (some (i,j))else none)else if k'=k/\p=some (i,j)then none else o.β k' p;let φ:Nat->Path->Nat×Path:=λk' p=>if k'=r then(k,some (i,j))else(k',p);have C:∀{k' p L},β k' p=some L->(k'=r/\p=none/\o.β k (some (i,j))=some L)\/(k'≠r/\¬(k'=k/\p=some (i,j))/\o.β k' p=some L):=by
  intro k' p L h;by_cases h1:k'=r
  ·simp only[β,if_pos h1]at h;by_cases h2:p=none
   ·simp only[if_pos h2]at h;exact .inl ⟨h1,h2,h⟩
   ·simp only[if_neg h2]at h;cases h
  ·simp only[β,if_neg h1]at h;by_cases h2:k'=k/\p=some (i,j)
   ·simp only[if_pos h2]at h;cases h
   ·simp only[if_neg h2]at h;exact .inr ⟨h1,h2,h⟩
 have d:∀k',k'≠r->k'≠k->ae (fresh (kY M k i j) r (.row u B λa b=>dE (g a b))) k'=ae M k':=λk' h1 h2=>by unfold fresh;rw[cF (cA h1),AY (cA h2)]
 have t:ae (fresh (kY M k i j) r (.row u B λa b=>dE (g a b))) k=⟨(ae M k).rs,(ae M k).ds+1,some (i,j),(ae M k).b⟩:=by unfold fresh;rw[cF (cA K),Je]
 have v:ae (fresh (kY M k i j) r (.row u B λa b=>dE (g a b))) r=⟨(ae M r).rs,(ae M r).ds,none,.row u B λa b=>dE (g a b)⟩:=by unfold fresh;rw[dk,AY K]
 have E:∀k' p L,β k' p=some L->∃S,o.β (φ k' p).1 (φ k' p).2=some S/\L.b=S.b:=by
  intro k' p L h;rcases C h with⟨rfl,rfl,V⟩|⟨h1,h2,V⟩
  ·exact⟨L,by simpa [φ]using V,rfl⟩
  ·exact⟨L,by simpa [φ,h1]using V,rfl⟩
 have y:Ext w o w (o.re β (fresh (kY M k i j) r (.row u B λa b=>dE (g a b)))):=by
  refine CJ hm (λk' p L h=>let⟨S,z,G⟩:=E k' p L h;⟨_,_,S,z,G⟩) (λk'=>?_) (λk' p L h e=>?_)
  ·by_cases h1:k'=r
   ·subst h1;rw[v];exact⟨bc _,bc _⟩
   ·by_cases h2:k'=k
    ·subst h2;rw[t];exact⟨bc _,oC _⟩
    ·rw[d k' h1 h2];exact⟨bc _,bc _⟩
  ·have h1:k'≠r:=by intro e;subst e;rw[hf.2.2]at h;cases h
   simp only[β,if_neg h1];rw[if_neg]
   ·exact h
   ·rintro ⟨rfl,rfl⟩;simp[st,dy,t]at e
 refine⟨o.re β _,bz.re hm φ E ?_ y ?_ ?_ ?_,?_,?_,?_⟩
 ·intro k1 p1 L1 k2 p2 L2 z G e;rcases C z with⟨rfl,rfl,_⟩|⟨h1,h2,_⟩<;>rcases C G with⟨rfl,rfl,_⟩|⟨g1,g2,_⟩
  ·exact⟨rfl,rfl⟩
  ·simp only[φ,if_true,if_neg g1,bJ]at e;exact absurd ⟨e.1.symm,e.2.symm⟩ g2
  ·simp only[φ,if_true,if_neg h1,bJ]at e;exact absurd e h2
  ·simp only[φ,if_neg h1,if_neg g1,bJ]at e;exact e
 ·intro k' p L h;rcases C h with⟨rfl,rfl,W⟩|⟨h1,h2,W⟩
  ·obtain⟨r1,z,G,e3,c,T,e4,e5,e6,e7⟩:=hm.row _ _ _ W;unfold rowAt at z;rw[Z]at z;have z:inner ⟨sz,n,f⟩ i j=some r1:=z;unfold inner at z;simp only[hg]at z;obtain rfl:=aV z;refine⟨⟨u,B,λa b=>dE (g a b)⟩,by unfold rowAt;rw[v];rfl,G,e3,c,T,e4,e5,e6,λa X b I=>?_⟩;obtain⟨x,Y,A⟩:=e7 a X b I;refine⟨x,Y,?_⟩;have A:Den w o (g a b) x:=A;have x3:=A.ext y;rw[v];show cO _ _ none k' a b (dE (g a b)) x;rw[fC (yd _)];exact sj x3
  ·obtain⟨r1,z,G,e3,e4⟩:=hm.row _ _ _ W;by_cases O:k'=k
   ·subst O;refine⟨r1,by unfold rowAt;rw[t];exact z,G,e3,?_⟩;rw[t];obtain⟨c,T,f1,f2,f3,f4⟩:=e4;refine⟨c,T,f1,f2,f3,λa X b I=>?_⟩;obtain⟨x,Y,A⟩:=f4 a X b I;refine⟨x,Y,?_⟩;cases p with
    |some _=>exact Den.ext y A
    |none=>
     have A:cO w o (ae M k').hl k' a b (r1.f a b) x:=A;show cO _ _ (some (i,j)) k' a b (r1.f a b) x;generalize r1.f a b=s1 at A⊢;cases hi:cZ s1 with
     |false=>rw[fC hi]at*;exact A.ext y
     |true=>
      cases s1 with
      |il s5 n5 g5=>
       rcases A with A|⟨⟨q,cap,y1,y2,y3,y4⟩,y5⟩
       ·rw[U]at A;cases A
       ·by_cases J:(a,b)=(i,j)
        ·simp only[bJ]at J;obtain⟨rfl,rfl⟩:=J;exact .inl rfl
        ·have R:(o.re β (fresh (kY M k' i j) r (.row u B λa b=>dE (g a b)))).β k' (some (a,b))=o.β k' (some (a,b)):=by show β k' (some (a,b))=_;simp only[β,if_neg h1];rw[if_neg];rintro ⟨_,e⟩;exact J (aV e)
         exact .inr ⟨⟨q,cap,y1,y2,y3,by rw[R];exact y4⟩,by rw[R];exact y5⟩
      |_=>cases hi
   ·refine⟨r1,by unfold rowAt;rw[d k' h1 O];exact z,G,e3,?_⟩;rw[d k' h1 O];refine e4.ext y ?_ (λq=>?_) rfl
    ·show(dy _ k').2=_;rw[hm.cur];simp only[dy,d k' h1 O]
    ·show β k' q=_;simp only[β,if_neg h1];rw[if_neg (λh=>O h.1)]
 ·intro k' l h;by_cases h1:k'=r
  ·subst h1;rw[v]at h;cases h
  ·by_cases h2:k'=k
   ·subst h2;rw[t,Z]at h;cases h
   ·rw[d k' h1 h2]at h;obtain⟨L,hL⟩:=hm.live _ _ h;refine⟨L,?_⟩;simp only[β,if_neg h1];rw[if_neg (λh=>h2 h.1)];exact hL
 ·intro k' a b h;by_cases h1:k'=r
  ·subst h1;rw[v]at h;cases h
  ·simp only[β,if_neg h1];by_cases h2:k'=k
   ·subst h2;rw[t]at h;rw[if_pos ⟨rfl,h.symm⟩]
   ·rw[d k' h1 h2]at h;rw[if_neg (λh=>h2 h.1)];exact hm.eE _ _ _ h
 ·show β r none=_;simp[β]
 ·intro p hp;show β r p=none;simp[β,hp]
 ·intro k' p h1 h2;show β k' p=_;simp only[β,if_neg h1];rw[if_neg];rintro ⟨rfl,rfl⟩;exact h2 rfl
theorem bz.dummy {w:World} {o:Ow} {M:Mem} (hm:aU w o M) {r:Nat} (c:xq o M r) (sz n:Nat) (f:Nat->Nat->SV):bz w o M w o (fresh M r (.row sz n f)):=by
 refine⟨Ext.refl _ _,?_,hm.own,hm.ez,hm.dj,hm.fS,hm.inj,hm.low,λk p L h=>?_,λk l h=>?_,λk i j h=>?_⟩
 ·rw[hm.cur];exact(v_ (M:=M) (k:=r) (e:=⟨(ae M r).rs,(ae M r).ds,none,.row sz n f⟩) rfl rfl).symm
 ·have b:r≠k:=λe=>by subst e;rw[c.2.2]at h;cases h
  obtain⟨r1,d,g,e3,e4⟩:=hm.row k p L h;exact⟨r1,by unfold rowAt fresh;rw[cF b];exact d,g,e3,by unfold fresh;rw[cF b];exact e4⟩
 ·have b:r≠k:=λe=>by subst e;unfold fresh at h;rw[dk]at h;cases h
  unfold fresh at h;rw[cF b]at h;exact hm.live k l h
 ·by_cases b:r=k
  ·subst b;exact c.2.2 _
  ·unfold fresh at h;rw[cF b]at h;exact hm.eE _ _ _ h
def fill (M:Mem) (k i j r sz n:Nat) (f:Nat->Nat->SV) (b c:Nat) (g:Nat->Nat->SV):Mem:=
 (k,⟨(ae M k).rs,(ae M k).ds+1,none,.row sz n ((⟨sz,n,f⟩:Row).set i j (.il b c g)).f⟩)::kill M r
theorem bz.fill {w:World} {o:Ow} {M:Mem} (hm:aU w o M) {k r i j:Nat} (hkr:k≠r) (SK:(ae M k).hl=some (i,j)) {sz n d z nr:Nat} {f g:Nat->Nat->SV} (hb:(ae M k).b= .row sz n f) (R6:∀i',tH d (f i' j)=true)
 (hr:(ae M r).b= .row d nr g) {x:Value} (hx:Head o r none 0 z x) {L:Loc} (hL:o.β k none=some L) (hi:i<L.dg) (hj:j<sz):
 ∃o',bz w o M (w.setCell ⟨L.b,L.o+i*L.sz+j,none⟩ x) o' (Sy.fill M k i j r sz n f d z g)/\(∀k' p,k'≠r->(k',p)≠(k,some (i,j))->o'.β k' p=o.β k' p)/\(∀p,o'.β r p=none):=by
 obtain⟨nh,gh,Ak⟩:=Ft (R6 i);obtain⟨r0,e1,e2,e3,_⟩:=hm.row k none L hL;unfold rowAt at e1;rw[hb]at e1;obtain rfl:=aV e1;have s1:bz w o M (w.setCell ⟨L.b,L.o+i*L.sz+j,none⟩ x) o ((k,ae M k)::M):=by refine bz.put hm hL hi (by rw[<-e2];exact hj) ⟨rfl,rfl,rfl⟩ (λl h=>⟨l,h⟩) (λq r h=>⟨r,h,rfl,rfl,λa ha b E=>⟨?_,λ_ _ _ h=>h⟩⟩);rintro ⟨rfl,rfl,rfl⟩ w' hw';rw[hb]at h;obtain rfl:=aV h;show cO _ _ _ _ _ _ (f a b) _;rw[Ak];exact .inl SK
 have V:=s1.mem;have W:∀c T,(w.setCell ⟨L.b,L.o+i*L.sz+j,none⟩ x).heap[L.b]? =some (Obj.cells c T (0,0))->L.o+i*L.sz+j<c.size->c[L.o+i*L.sz+j]? =some x:=by intro c T h jl;obtain⟨_,_,_,_,c0,T0,f1,f2,f3,f4⟩:=hm.row k none L hL;rw[Jc f1]at h;obtain⟨rfl,_⟩:=Obj.cells.inj (aV h);rw[wY (by simpa using jl)]
 generalize hw1:w.setCell ⟨L.b,L.o+i*L.sz+j,none⟩ x=w1 at s1 V W;let β:Nat->Path->Option Loc:=λk' p=>if k'=r then none else if k'=k/\p=some (i,j)then(o.β r none).map (λL=>{L with dg:=z})else o.β k' p;let φ:Nat->Path->Nat×Path:=λk' p=>if k'=k/\p=some (i,j)then(r,none)else(k',p);have X:∀{k' p L'},β k' p=some L'->(k'=k/\p=some (i,j)/\∃C,o.β r none=some C/\L'={C with dg:=z})\/(k'≠r/\¬(k'=k/\p=some (i,j))/\o.β k' p=some L'):=by
  intro k' p L' h;by_cases h1:k'=r
  ·simp only[β,if_pos h1]at h;cases h
  ·simp only[β,if_neg h1]at h;by_cases h2:k'=k/\p=some (i,j)
   ·rw[if_pos h2]at h;cases Ef:o.β r none with
    |none=>rw[Ef]at h;cases h
    |some C=>rw[Ef]at h;exact .inl ⟨h2.1,h2.2,C,rfl,(aV h).symm⟩
   ·rw[if_neg h2]at h;exact .inr ⟨h1,h2,h⟩
 have u:ae (Sy.fill M k i j r sz n f d z g) k=⟨(ae M k).rs,(ae M k).ds+1,none,.row sz n ((⟨sz,n,f⟩:Row).set i j (.il d z g)).f⟩:=dk;have Y:ae (Sy.fill M k i j r sz n f d z g) r=⟨(ae M r).rs+1,(ae M r).ds+1,none,.dead⟩:=by unfold Sy.fill;rw[cF hkr,ql]
 have B:∀k',k'≠r->k'≠k->ae (Sy.fill M k i j r sz n f d z g) k'=ae M k':=λk' h1 h2=>by unfold Sy.fill;rw[cF (cA h2),iA (cA h1)]
 have t:∀k',ae ((k,ae M k)::M) k'=ae M k':=λk'=>by
  by_cases h:k=k'
  ·subst h;rw[dk]
  ·rw[cF h]
 have R7:∀k' p L',β k' p=some L'->∃C,o.β (φ k' p).1 (φ k' p).2=some C/\L'.b=C.b:=by
  intro k' p L' h;rcases X h with⟨rfl,rfl,C,h3,rfl⟩|⟨h1,h2,h3⟩
  ·exact⟨C,by simpa [φ]using h3,rfl⟩
  ·exact⟨L',by simpa [φ,h2]using h3,rfl⟩
 have A:Ext w1 o w1 (o.re β (Sy.fill M k i j r sz n f d z g)):=by
  refine CJ V (λk' p L' h=>let⟨C,e1,e2⟩:=R7 k' p L' h;⟨_,_,C,e1,e2⟩) (λk'=>?_) (λk' p L' h e=>?_)
  ·rw[t];by_cases h1:k'=k
   ·subst h1;rw[u];exact⟨bc _,oC _⟩
   ·by_cases h2:k'=r
    ·subst h2;rw[Y];exact⟨oC _,oC _⟩
    ·rw[B k' h2 h1];exact⟨bc _,bc _⟩
  ·have h1:k'≠r:=by intro e;subst e;cases p<;>simp[st,dy,Y,t]at e
   simp only[β,if_neg h1];rw[if_neg]
   ·exact h
   ·rintro ⟨rfl,rfl⟩;simp[st,dy,u,t]at e
 have O:∀i',∃S G,f i' j= .il d S G/\((⟨sz,n,f⟩:Row).set i j (.il d z g)).f i' j= .il d (bif Nat.beq i' i then z else S) (λa b=>jF (Nat.beq i' i) (g a b) (G a b)):=by intro i';obtain⟨S,G,h⟩:=Ft (R6 i');exact⟨S,G,h,by rw[tg];show hY _ _ (f i' j)=_;rw[h];simp[hY]⟩
 refine⟨o.re β _,s1.trans (⟨A,(bz.re V φ R7 ?_ A ?_ ?_ ?_).mem⟩:bz w1 o _ w1 _ _),?_,?_⟩
 ·intro k1 p1 L1 k2 p2 L2 e1 e2 e;rcases X e1 with⟨rfl,rfl,_⟩|⟨h1,h2,_⟩<;>rcases X e2 with⟨rfl,rfl,_⟩|⟨g1,g2,_⟩
  ·exact⟨rfl,rfl⟩
  ·simp only[φ,if_neg g2,and_self,if_true,bJ]at e;exact absurd e.1.symm g1
  ·simp only[φ,if_neg h2,and_self,if_true,bJ]at e;exact absurd e.1 h1
  ·simp only[φ,if_neg h2,if_neg g2,bJ]at e;exact e
 ·intro k' p L' h;rcases X h with⟨rfl,rfl,C,h5,rfl⟩|⟨h1,h2,h5⟩
  ·obtain⟨r1,e4,e5,e6,c,T,e7,e8,e9,e10⟩:=V.row _ _ _ h5;unfold rowAt at e4;rw[t,hr]at e4;obtain rfl:=aV e4;obtain⟨S,G,g1,g2⟩:=O i;have SL:z<=C.dg:=by
    obtain⟨q,cap,y1,v,y3,y4⟩:=hx;rcases y4 with rfl|⟨L2,y5,y6,y7,y8⟩
    ·omega
    ·obtain rfl:C=L2:=aV (h5.symm.trans y5);omega
   have I:inner ⟨sz,n,((⟨sz,n,f⟩:Row).set i j (.il d z g)).f⟩ i j=some ⟨d,bif Nat.beq i i then z else S,λa b=>jF (Nat.beq i i) (g a b) (G a b)⟩:=by unfold inner;simp only[g2]
   refine⟨⟨d,bif Nat.beq i i then z else S,λa b=>jF (Nat.beq i i) (g a b) (G a b)⟩,by unfold rowAt;rw[u];exact I,e5,by simp,c,T,e7,e8,?_,λa ha b E=>?_⟩
   ·have:=qz C.sz SL;show C.o+z*C.sz<=C.len;omega
   ·obtain⟨y,y1,v⟩:=e10 a (gg ha SL) b E;refine⟨y,y1,?_⟩;rw[t]at v;have v:cO w1 o _ r a b (g a b) y:=v;show Den _ _ (jF (Nat.beq i i) (g a b) (G a b)) y;refine yA (λ_=>?_) (λh=>by rw[cy]at h;cases h);cases J:cZ (g a b)with
    |false=>rw[fC J]at v;exact v.ext A
    |true=>
     cases hs:g a b with
     |il _ _ _=>trivial
     |_=>rw[hs]at J;cases J
  ·obtain⟨r1,e4,e5,e6,e7⟩:=V.row _ _ _ h5;by_cases hk:k'=k
   ·subst hk;unfold rowAt at e4;rw[t,hb]at e4;cases p with
    |none=>
     obtain rfl:=aV e4;obtain rfl:L=L':=aV (hL.symm.trans h5);refine⟨⟨sz,n,((⟨sz,n,f⟩:Row).set i j (.il d z g)).f⟩,by unfold rowAt;rw[u];rfl,e5,e6,?_⟩;rw[u];obtain⟨c,T,f1,f2,f3,f4⟩:=e7;refine⟨c,T,f1,f2,f3,λa ha b E=>?_⟩;obtain⟨y,y1,v⟩:=f4 a ha b E;refine⟨y,y1,?_⟩;rw[t,SK]at v;have v:cO w1 o _ k' a b (f a b) y:=v;show cO _ _ none k' a b (((⟨sz,n,f⟩:Row).set i j (.il d z g)).f a b) y;by_cases SM:a=i/\b=j
     ·obtain⟨rfl,rfl⟩:=SM;obtain⟨S,G,g1,g2⟩:=O a;rw[g2];obtain rfl:y=x:=aV (y1.symm.trans (W c T f1 (eZ.1 y1).1));refine .inr ⟨?_,?_⟩
      ·rw[cy];obtain⟨q,cap,z1,z2,z3,z4⟩:=hx;refine⟨q,cap,z1,z2,z3,z4.imp id ?_⟩;rintro ⟨L2,z5,z6,z7,z8⟩;refine⟨{L2 with dg:=z},?_,z6,z7,by simp⟩;show β k' (some (a,b))=_;simp only[β,if_neg h1,and_self,if_true,z5,iB]
      ·intro L2 IU;have IU:β k' (some (a,b))=some L2:=IU;rcases X IU with⟨_,_,L3,z5,rfl⟩|⟨_,hh,_⟩
       ·obtain⟨r3,u1,u2,u3,_⟩:=hm.row _ _ _ z5;unfold rowAt at u1;rw[hr]at u1;obtain rfl:=aV u1;exact u2.symm
       ·exact absurd ⟨rfl,rfl⟩ hh
     ·by_cases K:b=j
      ·subst K;have Z:a≠i:=λe=>SM ⟨e,rfl⟩;have R:Nat.beq a i=false:=by
        cases hq:Nat.beq a i
        ·rfl
        ·exact absurd (a_ hq) Z
       obtain⟨S,G,g1,g2⟩:=O a;rw[g2,R];rw[g1]at v;rcases v with v|⟨⟨q,cap,z1,z2,z3,z4⟩,z9⟩
       ·simp only[bF,bJ,and_true]at v;exact absurd v.symm Z
       ·have Al:β k' (some (a,b))=o.β k' (some (a,b)):=by simp only[β,if_neg h1];rw[if_neg];rintro ⟨_,e⟩;simp only[bF,bJ,and_true]at e;exact Z e
        exact .inr ⟨⟨q,cap,z1,z2,z3,by show _\/∃L,β k' (some (a,b))=_/\_;rw[Al];exact z4⟩,λL2 h2=>z9 L2 (by rw[<-Al];exact h2)⟩
      ·rw[th K];show cO _ _ none k' a b (f a b) y;cases J:cZ (f a b)with
       |false=>rw[fC J]at*;exact v.ext A
       |true=>
        generalize hs:f a b=s5 at v⊢;cases s5 with
        |il s6 n6 g6=>
         rcases v with v|⟨⟨q,cap,z1,z2,z3,z4⟩,z9⟩
         ·simp only[bF,bJ]at v;exact absurd v.2.symm K
         ·have Al:β k' (some (a,b))=o.β k' (some (a,b)):=by simp only[β,if_neg h1];rw[if_neg];rintro ⟨_,e⟩;simp only[bF,bJ]at e;exact K e.2
          exact .inr ⟨⟨q,cap,z1,z2,z3,by show _\/∃L,β k' (some (a,b))=_/\_;rw[Al];exact z4⟩,λL2 h2=>z9 L2 (by rw[<-Al];exact h2)⟩
        |_=>rw[hs]at J;cases J
    |some ab=>
     obtain⟨U,b'⟩:=ab;have e4:inner ⟨sz,n,f⟩ U b'=some r1:=e4;by_cases K:b'=j
     ·subst K;have Z:U≠i:=λe=>h2 ⟨rfl,by rw[e]⟩;have R:Nat.beq U i=false:=by
       cases hq:Nat.beq U i
       ·rfl
       ·exact absurd (a_ hq) Z
      obtain⟨S,G,g1,g2⟩:=O U;unfold inner at e4;simp only[g1]at e4;obtain rfl:=aV e4;have I:inner ⟨sz,n,((⟨sz,n,f⟩:Row).set i b' (.il d z g)).f⟩ U b'=some ⟨d,bif Nat.beq U i then z else S,λa b=>jF (Nat.beq U i) (g a b) (G a b)⟩:=by unfold inner;simp only[g2]
      refine⟨⟨d,bif Nat.beq U i then z else S,λa b=>jF (Nat.beq U i) (g a b) (G a b)⟩,by unfold rowAt;rw[u];exact I,e5,by rw[R];exact e6,?_⟩;obtain⟨c,T,f1,f2,f3,f4⟩:=e7;refine⟨c,T,f1,f2,f3,λa ha b E=>?_⟩;obtain⟨y,y1,v⟩:=f4 a ha b E;refine⟨y,y1,?_⟩;have v:Den w1 o (G a b) y:=v;show Den _ _ (jF (Nat.beq U i) (g a b) (G a b)) y;exact yA (λh=>by rw[R]at h;cases h) (λ_=>v.ext A)
     ·refine⟨r1,?_,e5,e6,?_⟩
      ·unfold rowAt;rw[u];show inner ⟨sz,n,((⟨sz,n,f⟩:Row).set i j (.il d z g)).f⟩ U b'=some r1;unfold inner at e4⊢;simp only[th K];exact e4
      ·obtain⟨c,T,f1,f2,f3,f4⟩:=e7;exact⟨c,T,f1,f2,f3,λa ha b E=>let⟨y,y1,v⟩:=f4 a ha b E;⟨y,y1,Den.ext A v⟩⟩
   ·refine⟨r1,by unfold rowAt at e4⊢;rw[B k' h1 hk];rw[t]at e4;exact e4,e5,e6,?_⟩;rw[B k' h1 hk];rw[t]at e7;refine e7.ext A ?_ (λq=>?_) rfl
    ·show(dy _ k').2=_;rw[hm.cur];simp only[dy,B k' h1 hk]
    ·show β k' q=_;simp only[β,if_neg h1];rw[if_neg (λh=>hk h.1)]
 ·intro k' l h;by_cases h1:k'=k
  ·subst h1;rw[u]at h;cases h
  ·by_cases h2:k'=r
   ·subst h2;rw[Y]at h;cases h
   ·rw[B k' h2 h1]at h;obtain⟨L1,hL1⟩:=hm.live _ _ h;refine⟨L1,?_⟩;simp only[β,if_neg h2];rw[if_neg (λh=>h1 h.1)];exact hL1
 ·intro k' a b h;by_cases h1:k'=k
  ·subst h1;rw[u]at h;cases h
  ·by_cases h2:k'=r
   ·subst h2;simp[β]
   ·rw[B k' h2 h1]at h;simp only[β,if_neg h2];rw[if_neg (λh=>h1 h.1)];exact hm.eE _ _ _ h
 ·intro k' p h1 h2;show β k' p=_;simp only[β,if_neg h1];rw[if_neg];rintro ⟨rfl,rfl⟩;exact h2 rfl
 ·intro p;show β r p=none;simp[β]
structure Cx (P:Program) (w:World) (ω:Ow) (ρ:Operand->SV) (M:Mem) (a:Act):Prop where
 val:∀x,Den w ω (ρ x) (a.eval x)
 mem:aU w ω M
inductive R where
 |bad
 |ok (s:SV)
 |dL (p:Prop) (s:SV)
 |kj (p:Prop) (s:SV)
def R.run (r:R) (K:SV->Prop):Prop:=
 match r with
 | .bad=>False
 | .ok s=>K s
 | .dL p s=>p/\K s
 | .kj p s=>p->K s
section
variable {P:Program} {w:World} {ω:Ow} {ρ:Operand->SV} {M:Mem} {a:Act}
def fj (P:Program) (w:World) (ω:Ow) (a:Act) (o:Oper) (K:SV->Prop):Prop:=
 ∃s v,(execOp a.eval o).run P w= .ok (.value v) w/\Den w ω s v/\K s
/-! ### loads -/
def lT:TypeDesc->Bool
 | .struct _| .array _ _=>true
 |_=>false
def cG (m:Nat->bw) (k s:Nat):Path->Bool
 |none=>Nat.beq s (m k).rs
 |some _=>Nat.beq s (m k).ds
def tb (e:bw) (k:Nat) (p:Path) (i j:Nat) (s:SV):Option SV:=
 match s with
 | .il _ n _=>
   match p,e.hl with
   |none,none=>some (.aS k e.ds (some (i,j)) 0 n)
   |none,some (_,b)=>match Nat.beq b j with|false=>some (.aS k e.ds (some (i,j)) 0 n)|true=>none
   |some _,_=>some .aI
 |s=>some s
def zX:List (Option SV)->Option (List SV)
 | []=>some []
 |x::r=>match x,zX r with|some x,some r=>some (x::r)|_,_=>none
theorem K0:∀{l:List (Option SV)} {vs:List SV},zX l=some vs->l=vs.map some
 | [],vs,h=>by simp[zX]at h;subst h;rfl
 |x::r,vs,h=>by
  unfold zX at h;split at h
  ·next c r' b=>
   obtain rfl:=aV h;simp[K0 b]
  ·cases h
def pK (k:IntKind):List SV->Option (List Int)
 | []=>some []
 | .v (.int k' x)::r=>match s_ k' k,pK k r with|true,some l=>some (x::l)|_,_=>none
 |_::_=>none
def fX (l:List Int) (z:Nat):Int:=l.getD z 0
def yS (P:Program) (T:TypeId) (s:SV) (m:Nat->bw):R:=
 match P.info? T,P.underlying T with
 |some i,some d=>
  match s with
  | .ptr k st p c j=>
    match cG m k st p,fD (m k).b p with
    |true,some r=>
     match lT d with
     |true=>
      match Nat.ble (j+i.size) r.sz with
      |true=>match zX ((List.range i.size).map λq=>tb (m k) k p c (j+q) (r.f c (j+q)))with|some l=> .ok (.ag i.size (aN l))|none=> .bad
      |false=> .bad
     |false=>match Nat.blt j r.sz with|true=>(match tb (m k) k p c j (r.f c j)with|some s=> .ok s|none=> .bad)|false=> .bad
    |_,_=> .bad
  | .pe k st p c j len z=>
    match cG m k st p,fD (m k).b p,d with
    |true,some r,.int e=>
     match Nat.ble (j+len) r.sz,pK e ((List.range len).map λq=>r.f c (j+q))with
     |true,some l=> .ok (.v (.int e (fX l z)))
     |_,_=> .bad
    |_,_,_=> .bad
  | .pt _ n f=>
    match lT d with
    |true=>match Nat.ble i.size n with|true=> .ok (.ag i.size (out i.size f))|false=> .bad
    |false=>match Nat.blt 0 n with|true=> .ok (f 0)|false=> .bad
  |_=> .bad
 |_,_=> .bad
theorem Jb {T:TypeId} {i:TypeInfo} {d:TypeDesc} (b:P.info? T=some i) (c:P.underlying T=some d) (hd:lT d=true) (w:World) (ad:Addr) (f:Nat->Value)
 (h:∀j,j<i.size->w.cell? (ad.add j)=some (f j)):(loadVar T ad).run P w= .ok (.agg ((List.range i.size).map f).toArray) w:=by
 have e:(isAgg T).run P w= .ok true w:=by simp only[isAgg,Sem.run_bind,run_underlying c,Result.andThen];cases d<;>simp[lT]at hd<;>simp
 have hs:(sizeOf T).run P w= .ok i.size w:=by simp[sizeOf,run_typeInfo w b,Result.andThen]
 simp[loadVar,e,hs,run_loadCells w ad i.size f h,Result.andThen]
theorem AX {T:TypeId} {d:TypeDesc} (b:P.underlying T=some d) (hd:lT d=false) (w:World) (ad:Addr) (x:Value)
 (h:w.cell? ad=some x):(loadVar T ad).run P w= .ok x w:=by
 have c:(isAgg T).run P w= .ok false w:=by simp only[isAgg,Sem.run_bind,run_underlying b,Result.andThen];cases d<;>simp[lT]at hd<;>simp
 simp[loadVar,c,h,Result.andThen]
theorem gr (hm:aU w ω M) {k s:Nat} {p:Path} {R:Loc->Prop} (h:cG (ae M) k s p=true) (b:At ω k s p R):s=st ω.cur k p/\∃L,ω.β k p=some L/\R L:=by
 have e:s=st ω.cur k p:=by
  rw[hm.cur];cases p with
  |none=>exact a_ h
  |some _=>exact a_ h
 rcases b with b|b
 ·omega
 ·exact b
theorem Fm (hm:aU w ω M) {k i j:Nat} {p:Path} {s s':SV} {x:Value} (hl:gJ w ω (ae M k).hl k p i j s x) (h:tb (ae M k) k p i j s=some s'):Den w ω s' x:=by
 cases b:cZ s with
 |false=>
  have hd:Den w ω s x:=by
   cases p with
   |none=>have hl:cO _ _ _ _ _ _ _ _:=hl;rwa [fC b]at hl
   |some _=>exact hl
  have:tb (ae M k) k p i j s=some s:=by cases s<;>first|rfl|cases b
  rw[this]at h;obtain rfl:=aV h;exact hd
 |true=>
  cases s with
  |il sz n g=>
   have key:p=none->(ae M k).hl≠some (i,j)->Den w ω (.aS k (ae M k).ds (some (i,j)) 0 n) x:=by
    rintro rfl c;have hl:_\/_:=hl;rcases hl with hl|⟨hl,_⟩
    ·exact absurd hl c
    ·exact .inr ⟨by rw[hm.cur];rfl,hl⟩
   unfold tb at h;simp only at h;split at h
   ·next d=>
    obtain rfl:=aV h;exact key rfl (by rw[d];simp)
   ·next o q d=>
    split at h
    ·next l=>
     obtain rfl:=aV h;refine key rfl ?_;rw[d];intro e;simp only[bF,bJ]at e;rw[e.2,cy]at l;cases l
    ·cases h
   ·obtain rfl:=aV h;trivial
  |_=>cases b
theorem si (hm:aU w ω M) {k:Nat} {p:Path} {L:Loc} {r:Row} (d:ω.β k p=some L) (e:fD (ae M k).b p=some r):
 r.sz=L.sz/\r.n=L.dg/\∀i,i<L.dg->∀j,j<L.sz->∃x,w.cell? ⟨L.b,L.o+i*L.sz+j,none⟩=some x/\gJ w ω (ae M k).hl k p i j (r.f i j) x:=by
 obtain⟨r',h1,h2,g,c,T,h,y,z,l⟩:=hm.row k p L d;obtain rfl:r=r':=aV (e.symm.trans h1);refine⟨h2,g,λi q j t=>?_⟩;obtain⟨x,u,v⟩:=l i q j t;exact⟨x,by simp only[World.cell?,h];simpa using u,v⟩
theorem vV:∀{k:IntKind} {l:List SV} {zs:List Int},pK k l=some zs->l=zs.map λz=> .v (.int k z)
 |_,[],_,h=>by simp[pK]at h;subst h;rfl
 |k,s::r,zs,h=>by
  unfold pK at h;split at h
  ·next heq=>cases heq
  ·next heq=>
   cases heq;split at h
   ·next b c=>
    obtain rfl:=aV h;obtain rfl:=yk b;rw[vV c];rfl
   ·cases h
  ·cases h
theorem J4 (hm:aU w ω M) {T:TypeId} {sx:SV} {X:Value} (O:Den w ω sx X) {K:SV->Prop} (c:(yS P T sx (ae M)).run K):
 ∃s v ad,X= .pointer (some ad)/\(loadVar T ad).run P w= .ok v w/\Den w ω s v/\K s:=by
 unfold yS at c;split at c
 ·next i d Y I=>
  split at c
  ·next k st p B j=>
   split at c
   ·next r hs R=>
    obtain⟨_,L,S,g,e⟩:=gr hm hs O;obtain⟨Z,e2,e3⟩:=si hm S R;split at c
    ·next hd=>
     split at c
     ·next hle=>
      have hle:=bP hle;split at c
      ·next l hl=>
       have hl:=K0 hl;have hlen:l.length=i.size:=by simpa using (congrArg List.length hl).symm
       have hex:∀q,∃x,q<i.size->w.cell? ((⟨L.b,L.o+B*L.sz+j,none⟩:Addr).add q)=some x/\Den w ω (l.getD q .aI) x:=by
        intro q;by_cases t:q<i.size
        ·obtain⟨x,G,C⟩:=e3 B g (j+q) (by omega);refine⟨x,λ_=>⟨by rw[jx,i_];exact G,?_⟩⟩;have:tb (ae M k) k p B (j+q) (r.f B (j+q))=some (l.getD q .aI):=by have e:=congrArg (λl=>l[q]?) hl;simp only[eX,nD t,iB]at e;rw[eO (by omega)]at e;simp only[iB,bF]at e;rw[e,cD,eO (by omega)];rfl
         exact Fm hm C this
        ·exact⟨undef,λh=>absurd h t⟩
       refine⟨_,_,_,e,Jb Y I hd w _ (λq=>Classical.choose (hex q)) (λq t=>(wP (hex q) t).1),?_,c⟩;exact⟨_,rfl,by simp,λq t=>⟨Classical.choose (hex q),by simp[t],(wP (hex q) t).2⟩⟩
      ·exact c.elim
     ·exact c.elim
    ·next hd=>
     split at c
     ·next u=>
      have u:j<r.sz:=bP u;split at c
      ·next s U=>
       obtain⟨x,G,C⟩:=e3 B g j (by omega);exact⟨_,x,_,e,AX I hd w _ _ G,Fm hm C U,c⟩
      ·exact c.elim
     ·exact c.elim
   ·exact c.elim
  ·next k st p B j len z=>
   split at c
   ·next r kk hs R=>
    obtain⟨_,L,S,g,hz,e⟩:=gr hm hs O;obtain⟨Z,e2,e3⟩:=si hm S R;split at c
    ·next l hle hl=>
     have hle:=bP hle;have hl:=vV hl;obtain⟨x,G,C⟩:=e3 B g (j+z) (by omega);have t:=congrArg (λl=>l[z]?) hl;simp only[eX,nD hz,iB]at t;cases E:l[z]? with
     |none=>rw[E]at t;cases t
     |some y=>
      rw[E]at t;simp only[iB,bF]at t;rw[t]at C;have hd:Den w ω (.v (.int kk y)) x:=by
       cases p with
       |none=>exact C
       |some _=>exact C
      have J:fX l z=y:=by simp[fX,cD,E]
      exact⟨_,x,_,e,AX I rfl w _ _ (by rw[<-i_]at G⊢;exact G),by rw[J];exact hd,c⟩
    ·exact c.elim
   ·exact c.elim
  ·next q n f=>
   obtain⟨ad,e,A⟩:=O;split at c
   ·next hd=>
    split at c
    ·next hle=>
     have hle:=bP hle;have hex:∀j,∃x,j<i.size->w.cell? (ad.add j)=some x/\Den w ω (f j) x:=by
      intro j;by_cases V:j<i.size
      ·obtain⟨x,h1,_,W⟩:=A j (by omega);exact⟨x,λ_=>⟨h1,W.up⟩⟩
      ·exact⟨undef,λh=>absurd h V⟩
     refine⟨_,_,ad,e,Jb Y I hd w _ (λj=>Classical.choose (hex j)) (λj A=>(wP (hex j) A).1),?_,c⟩;exact⟨_,rfl,by simp,λj A=>⟨Classical.choose (hex j),by simp[A],by rw[OF A];exact(wP (hex j) A).2⟩⟩
    ·exact c.elim
   ·next hd=>
    split at c
    ·next u=>
     have u:0<n:=bP u;obtain⟨x,h1,_,W⟩:=A 0 u;exact⟨_,x,ad,e,AX I hd w _ _ (by simpa [Addr.add]using h1),W.up,c⟩
    ·exact c.elim
  ·exact c.elim
 ·exact c.elim
theorem Xe (h:Cx P w ω ρ M a) {o:Oper} {T:TypeId} {x:Operand} {K:SV->Prop} (ho:o.op= .load T x) (b:(yS P T (ρ x) (ae M)).run K):fj P w ω a o K:=by obtain⟨s,v,ad,e,c,hd,d⟩:=J4 h.mem (h.val x) b;exact⟨s,v,by simp[execOp,ho,e,Instr.loadAt,Instr.sureAddr,c,Result.andThen],hd,d⟩
/-! ### addresses of fields and elements -/
def wx (P:Program) (S:TypeId) (s:SV) (j:Nat) (m:Nat->bw):R:=
 match P.underlying S with
 |some (.struct fs)=>
  match fs[j]? with
  |some b=>
   match P.info? b.type with
   |some i=>
    match Nat.blt 0 i.size,s with
    |true,.ptr k st p c off=>match cG m k st p with|true=> .ok (.ptr k st p c (off+b.offset))|false=> .bad
    |true,.pt q n f=> .ok (.pt q (n -b.offset) λm=>f (b.offset+m))
    |true,.v (.pointer (some ad))=> .ok (.v (.pointer (some (ad.add b.offset))))
    |_,_=> .bad
   |none=> .bad
  |none=> .bad
 |_=> .bad
theorem At.map {o:Ow} {k s:Nat} {p:Path} {R b:Loc->Prop} (h:∀L,R L->b L) (c:At o k s p R):At o k s p b:=c.imp id λ⟨e,L,d,g⟩=>⟨e,L,d,h L g⟩
theorem KO (h:Cx P w ω ρ M a) {o:Oper} {S:TypeId} {x:Operand} {j:Nat} {K:SV->Prop} (ho:o.op= .fieldAddr S x j) (b:(wx P S (ρ x) j (ae M)).run K):fj P w ω a o K:=by
 have g:=h.val x;unfold wx at b;split at b
 ·next fs u=>
  split at b
  ·next d l=>
   split at b
   ·next i r=>
    have run:∀(ad:Addr),a.eval x= .pointer (some ad)->Nat.blt 0 i.size=true->(execOp a.eval o).run P w= .ok (.value (.pointer (some (ad.add d.offset)))) w:=by
     intro ad e c;have c:0<i.size:=bP c;have hs:(sizeOf d.type).run P w= .ok i.size w:=by simp[sizeOf,run_typeInfo w r,Result.andThen]
     simp[execOp,ho,e,Instr.fieldAt,Instr.sureAddr,run_underlying u,l,fieldPlace,hs,Result.andThen,Nat.ne_of_gt c]
    split at b
    ·next k st p z off c hs=>
     rw[hs]at g;split at b
     ·next t=>
      obtain⟨e0,L,A,r,e⟩:=gr h.mem t g;exact⟨.ptr k st p z (off+d.offset),_,run _ e c,Or.inr ⟨e0,L,A,r,by rw[jx,i_]⟩,b⟩
     ·exact b.elim
    ·next q n f c hs=>
     rw[hs]at g;obtain⟨ad,e,B⟩:=g;refine⟨.pt q (n -d.offset) λm=>f (d.offset+m),_,run _ e c,⟨_,rfl,λm hm=>?_⟩,b⟩;obtain⟨y,h1,h2,C⟩:=B (d.offset+m) (by omega);exact⟨y,by rw[add_add];exact h1,by rw[gI];exact h2,C⟩
    ·next ad c hs=>
     rw[hs]at g;exact⟨.v (.pointer (some (ad.add d.offset))),_,run _ g c,rfl,b⟩
    ·exact b.elim
   ·exact b.elim
  ·exact b.elim
 ·exact b.elim
def IJ:Operand->Bool
 | .const _=>true
 |_=>false
def yJ (P:Program) (T:TypeId) (lit:Bool) (s i:SV) (m:Nat->bw):R:=
 match P.underlying T,i with
 |some (.slice E),.v (.int _ z)=>
  match P.info? E,s with
  |some c,.sl q sz n f=>match Nat.beq c.size sz with|true=> .dL ((0<=z/\z<n)) (.pt q sz (f z.toNat))|false=> .bad
  |some c,.aS k st p e n=>
   match cG m k st p,fD (m k).b p with
   |true,some r=>match Nat.beq c.size r.sz with|true=> .dL ((0<=z/\z<n)) (.ptr k st p (e+z.toNat) 0)|false=> .bad
   |_,_=> .bad
  |_,_=> .bad
 |some (.array len E),.v (.int _ z)=>
  match P.info? E,Nat.blt 1 len,s with
  |some c,true,.pt q g f=>match Nat.ble (len*c.size) g with|true=> .dL ((0<=z/\z<len)) (.pt q c.size λj=>f (z.toNat*c.size+j))|false=> .bad
  |some c,true,.pa q sz n f=>match Nat.beq c.size sz,Nat.beq n len with|true,true=> .dL ((0<=z/\z<len)) (.pt q sz (f z.toNat))|_,_=> .bad
  |some c,true,.ptr k st p d j=>
   match cG m k st p,lit,Nat.beq c.size 1 with
   |true,true,_=> .dL ((0<=z/\z<len)) (.ptr k st p d (j+z.toNat*c.size))
   |true,false,true=> .dL ((0<=z/\z<len)) (.pe k st p d j len z.toNat)
   |_,_,_=> .bad
  |_,_,_=> .bad
 |_,_=> .bad
theorem J' (h:Cx P w ω ρ M a) {o:Oper} {T:TypeId} {lit:Bool} {x y:Operand} {K:SV->Prop} (ho:o.op= .indexAddr T x y) (d:(yJ P T lit (ρ x) (ρ y) (ae M)).run K):∃s v,(∀w',(execOp a.eval o).run P w'= .ok (.value v) w')/\Den w ω s v/\K s:=by
 have l:=h.val x;have X:=h.val y;unfold yJ at d;split at d
 ·next E k z R hs=>
  rw[hs]at X;have S:a.eval y= .int k z:=X;split at d
  ·next t q sz n f C i=>
   rw[i]at l;split at d
   ·next g=>
    have g:=a_ g;obtain⟨⟨h0,h1⟩,B⟩:=d;obtain⟨p,cap,ex,_,_,W⟩:=l;have Y:n≠0:=by omega
    obtain⟨ad,ep,hk⟩:=W.resolve_left Y;subst ep;refine⟨.pt q sz (f z.toNat),.pointer (some (ad.add (z.toNat*sz))),?_,⟨_,rfl,λj G=>?_⟩,B⟩
    ·intro w';have c:(sizeOf E).run P w'= .ok sz w':=by simp[sizeOf,run_typeInfo w' C,Result.andThen,g]
     simp[execOp,ho,ex,S,Instr.indexAt,asIntOf,run_underlying R,Result.andThen,h0,h1,c]
    ·obtain⟨u,I,g2,U⟩:=hk z.toNat (by omega) j G;exact⟨u,by rw[add_add];exact I,by rw[gI];exact g2,U⟩
   ·exact d.elim
  ·next t k2 st p e n C i=>
   rw[i]at l;split at d
   ·next r A hr=>
    split at d
    ·next g=>
     have g:=a_ g;obtain⟨⟨h0,h1⟩,B⟩:=d;have e0:st=Sy.st ω.cur k2 p:=by
      rw[h.mem.cur];cases p with
      |none=>exact a_ A
      |some _=>exact a_ A
     rcases l with l|⟨_,q,cap,ex,aeX,_,l⟩
     ·omega
     rcases l with l|⟨L,V,rfl,SJ,hx3⟩
     ·omega
     obtain⟨r',I,g2,U,_⟩:=h.mem.row _ _ _ V;obtain rfl:r=r':=aV (hr.symm.trans I);refine⟨.ptr k2 st p (e+z.toNat) 0,.pointer (some ⟨L.b,L.o+(e+z.toNat)*L.sz,none⟩),?_,Or.inr ⟨e0,L,V,by omega,by simp⟩,B⟩;intro w';have c:(sizeOf E).run P w'= .ok L.sz w':=by simp[sizeOf,run_typeInfo w' C,Result.andThen,g,g2]
     simp[execOp,ho,ex,S,Instr.indexAt,asIntOf,run_underlying R,Result.andThen,h0,h1,c,jx,iD,i_]
    ·exact d.elim
   ·exact d.elim
  ·exact d.elim
 ·next len E k z R hs=>
  rw[hs]at X;have S:a.eval y= .int k z:=X;split at d
  ·next t q m f C hlen i=>
   rw[i]at l;have hlen:1<len:=bP hlen;split at d
   ·next hm=>
    have hm:=bP hm;obtain⟨⟨h0,h1⟩,B⟩:=d;obtain⟨ad,ex,W⟩:=l;refine⟨.pt q t.size λj=>f (z.toNat*t.size+j),.pointer (some (ad.add (z.toNat*t.size))),?_,⟨_,rfl,λj G=>?_⟩,B⟩
    ·intro w';have c:(sizeOf E).run P w'= .ok t.size w':=by simp[sizeOf,run_typeInfo w' C,Result.andThen]
     simp[execOp,ho,ex,S,Instr.indexAt,Instr.sureAddr,asIntOf,run_underlying R,Result.andThen,h0,h1,c]
    ·have Z:z.toNat*t.size+j<m:=by
      have:z.toNat+1<=len:=by omega
      have:=qz t.size this;rw[iD]at this;omega
     obtain⟨u,I,g2,U⟩:=W _ Z;exact⟨u,by rw[add_add];exact I,by rw[gI];exact g2,U⟩
   ·exact d.elim
  ·next t q sz n f C hlen i=>
   rw[i]at l;have hlen:1<len:=bP hlen;split at d
   ·next g Y=>
    have g:=a_ g;have Y:=a_ Y;obtain⟨⟨h0,h1⟩,B⟩:=d;obtain⟨ad,ex,W⟩:=l;refine⟨.pt q sz (f z.toNat),.pointer (some (ad.add (z.toNat*sz))),?_,⟨_,rfl,λj G=>?_⟩,B⟩
    ·intro w';have c:(sizeOf E).run P w'= .ok sz w':=by simp[sizeOf,run_typeInfo w' C,Result.andThen,g]
     simp[execOp,ho,ex,S,Instr.indexAt,Instr.sureAddr,asIntOf,run_underlying R,Result.andThen,h0,h1,c]
    ·obtain⟨u,I,g2,U⟩:=W z.toNat (by omega) j G;exact⟨u,by rw[add_add];exact I,by rw[gI];exact g2,U⟩
   ·exact d.elim
  ·next t k2 st p ii j C hlen i=>
   rw[i]at l;have hlen:1<len:=bP hlen;have run:∀ad,a.eval x= .pointer (some ad)->0<=z->z<len->∀w',(execOp a.eval o).run P w'= .ok (.value (.pointer (some (ad.add (z.toNat*t.size))))) w':=by
    intro ad ex h0 h1;intro w';have c:(sizeOf E).run P w'= .ok t.size w':=by simp[sizeOf,run_typeInfo w' C,Result.andThen]
    simp[execOp,ho,ex,S,Instr.indexAt,Instr.sureAddr,asIntOf,run_underlying R,Result.andThen,h0,h1,c]
   split at d
   ·next A=>
    obtain⟨⟨h0,h1⟩,B⟩:=d;obtain⟨e0,L,V,J,ex⟩:=gr h.mem A l;exact⟨.ptr k2 st p ii (j+z.toNat*t.size),_,run _ ex h0 h1,Or.inr ⟨e0,L,V,J,by rw[jx,i_]⟩,B⟩
   ·next A O=>
    have O:=a_ O;obtain⟨⟨h0,h1⟩,B⟩:=d;obtain⟨e0,L,V,J,ex⟩:=gr h.mem A l;exact⟨.pe k2 st p ii j len z.toNat,_,run _ ex h0 h1,Or.inr ⟨e0,L,V,J,by omega,by rw[jx,O,Nat.mul_one,i_]⟩,B⟩
   ·exact d.elim
  ·exact d.elim
 ·exact d.elim
theorem Vs (h:Cx P w ω ρ M a) {o:Oper} {T:TypeId} {lit:Bool} {x y:Operand} {K:SV->Prop} (ho:o.op= .indexAddr T x y) (b:(yJ P T lit (ρ x) (ρ y) (ae M)).run K):fj P w ω a o K:=
 let⟨s,v,h1,h2,c⟩:=J' h ho b
 ⟨s,v,h1 w,h2,c⟩
end
end Go.Sy
