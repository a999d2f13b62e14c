/-
  Sy, part 10: rows that are made; append.
-/
import Derived.Test.YthgmgkabnffniaaGreatDoorYB
set_option linter.unusedVariables false
set_option linter.unusedSimpArgs false
namespace Go.Sy
open Go.RowKit
section
variable {P:Program} {w:World} {ω:Ow} {ρ:Operand->SV} {M:Mem} {a:Act}
def Ia (P:Program):Nat->TypeId->Nat->Option Nat
 |0,_,_=>none
 |d+1,T,j=>
  match P.underlying T with
  |some (.slice E)=>match j,P.info? E with|0,some i=>some i.size|_,_=>none
  |some (.struct fs)=>fs.toList.findSome? λb=>match P.info? b.type with|some i=>(match Nat.ble b.offset j,Nat.blt j (b.offset+i.size)with|true,true=>Ia P d b.type (j -b.offset)|_,_=>none)|none=>none
  |_=>none
def yy (P:Program) (E:TypeId) (z:Array Value):List SV:=
 (List.range z.size).map λj=>match Ia P 4 E j,z[j]? with
   |some sz,some (.slice none 0 0)=> .il sz 0 λ_ _=> .aI
   |_,some x=> .v x
   |_,none=> .aI
theorem G1 (hm:aU w ω M) {nx:Nat} (p:cC (ae M) nx=true) {sz n cap:Nat} {f:Nat->Nat->SV} {c:Array Value} {T:TypeId} (l:n<=cap) (h:cap<=maxLen) (o:cap*sz<=c.size)
 (e:∀w' aq,Ext w ω w' aq->(∀i j,aq.β nx (some (i,j))=none)->∀i,i<n->∀j,j<sz->∃x,c[i*sz+j]? =some x/\cO w' aq none nx i j (f i j) x):
 ∃aq,bz w ω M (w.alloc (.cells c T)) aq (gu (ae M) nx (.row sz n f)++M)/\Den (w.alloc (.cells c T)) aq (.aS nx (ae M nx).rs none 0 n) (.slice (some ⟨w.heap.size,0,none⟩) n cap)/\iN w ω (w.alloc (.cells c T)) aq (λk=>k∈(gu (ae M) nx (.row sz n f)).map (·.1)):=by
 have d:=kC hm p;let L:Loc:=⟨w.heap.size,0,sz,n,c.size⟩;have g:Ext w ω (w.alloc (.cells c T)) (ω.add nx L):=E0 rfl d.2.2;refine⟨ω.add nx L,bz.alloc (r:=⟨sz,n,f⟩) hm d rfl rfl (ft (qz _ l) o) (λi q j t=>e _ _ g (λa b=>by simp[Ow.add,d.2.2]) i q j t),Or.inr ⟨?_,_,cap,rfl,l,h,.inr ⟨L,by simp[Ow.add],by simp[L],by show 0+(0+cap)*sz<=c.size;simpa using o,by show 0+n<=n;omega⟩⟩,ME rfl d.2.2 rfl⟩;show _=st ω.cur nx none;rw[hm.cur];rfl
theorem Jn:∀(b:List SV) (off:Nat) (l:List SV),(nB l off b).length=l.length
 | [],_,_=>rfl
 |c::r,off,l=>by rw[nB,Jn];simp
theorem JI {m:Nat->bw} {place:Nat->Option (Nat×Nat)}:∀{b:List (Nat×SV)} {l l':List SV},nI m place l b=some l'->l'.length=l.length
 | [],l,l',h=>by simp[nI]at h;rw[h]
 |(k,s)::r,l,l',h=>by
  unfold nI at h;split at h
  ·split at h
   ·rw[JI h,Jn]
   ·cases h
  ·cases h
def GW (P:Program) (m:Nat->bw) (nx:Nat) (T:TypeId) (l c:SV):Option (Prop×SV×bf):=
 match P.underlying T,l,c with
 |some (.slice E),.v (.int _ l),.v (.int _ c)=>
  match P.info? E,cC m nx with
  |some i,true=>
   match i.zero,Nat.blt 0 i.bytes with
   |some z,true=>
    match Nat.beq z.cells.size i.size with
    |true=>some (0<=l/\l<=c/\(i.bytes:Int)*c<=140737488355328,.aS nx (m nx).rs none 0 l.toNat,gu m nx (.row i.size l.toNat λ_ j=>aN (yy P E z.cells) j))
    |false=>none
   |_,_=>none
  |_,_=>none
 |_,_,_=>none
theorem Tl {E:TypeId} {z:Array Value} {j:Nat} {x:Value} (b:z[j]? =some x) {w:World} {ω:Ow} {k i:Nat} (d:ω.β k (some (i,j))=none):cO w ω none k i j (aN (yy P E z) j) x:=by
 have g:=(eZ.1 b).1;have e:aN (yy P E z) j=(match Ia P 4 E j,z[j]? with
  |some sz,some (.slice none 0 0)=> .il sz 0 λ_ _=> .aI
  |_,some x=> .v x
  |_,none=> .aI):=by
  simp[aN,yy,cD,g]
 rw[e];split
 ·next h1=>
  rw[b]at h1;obtain rfl:=aV h1;exact .inr ⟨⟨none,0,rfl,bc _,gf _,.inl rfl⟩,λL c=>by rw[d]at c;cases c⟩
 ·next h1 _=>
  rw[b]at h1;obtain rfl:=aV h1;exact rfl
 ·trivial
theorem My (h:Cx P w ω ρ M a) {o:Oper} {T:TypeId} {x y:Operand} {nx:Nat} {pr:Prop} {s:SV} {u:bf} (ho:o.op= .makeSlice T x y) (b:GW P (ae M) nx T (ρ x) (ρ y)=some (pr,s,u)) (hp:pr):lQ P w ω M a o s u:=by
 have p:=h.val x;have r:=h.val y;unfold GW at b;split at b
 ·next E k1 l k2 c A h1 h2=>
  rw[h1]at p;rw[h2]at r;have ex:a.eval x= .int k1 l:=p;have B:a.eval y= .int k2 c:=r;split at b
  ·next i C G=>
   split at b
   ·next z I t=>
    have t:0<i.bytes:=bP t;split at b
    ·next d=>
     have d:=a_ d;simp only[bF,bJ]at b;obtain⟨rfl,rfl,rfl⟩:=b;obtain⟨h0,h1,h2⟩:=hp;have J:c<=140737488355328:=by have:c*1<=c*(i.bytes:Int):=Int.mul_le_mul_of_nonneg_left (by omega) (by omega);rw[Int.mul_comm c (i.bytes:Int)]at this;omega
     have K:=run_make (P:=P) w T E i z A C I k1 k2 l c h0 h1 (by omega) (by omega);obtain⟨aq,s1,s2,O⟩:=G1 h.mem G (sz:=i.size) (n:=l.toNat) (cap:=c.toNat) (f:=λ_ j=>aN (yy P E z.cells) j) (c:=madeCells z.cells (c.toNat*i.size)) (T:=E) (by omega) (by unfold maxLen;omega) (by rw[size_madeCells];exact bc _) (by
      intro w' aq _ e q R j v;have g:q*i.size+j<c.toNat*i.size:=lG (by omega) v;have k:z.cells[j]? =some (z.cells[(q*i.size+j)%z.cells.size]!):=by
       have:(q*i.size+j)%z.cells.size=j:=by rw[d,jZ,B4,yK v]
       rw[this];rw[getElem?_pos z.cells j (by omega),getElem!_pos z.cells j (by omega)]
      refine⟨z.cells[(q*i.size+j)%z.cells.size]!,by simp[madeCells,g],Tl k (e q j)⟩)
     exact⟨_,_,_,aq,by simp[execOp,ho,ex,B,K,Result.andThen],.inl rfl,s1,s2,O⟩
    ·cases b
   ·cases b
  ·cases b
 ·cases b
/-! ### a slice told element by element -/
def rowOf (sz len:Nat) (l:List SV):Nat->Nat->SV:=
 match len with
 |1=>λ_ j=>aN l j
 |_=>λi j=>aN l (i*sz+j)
def G3 (k:IntKind) (zs:List Int):Nat->Nat->SV:=λi _=> .v (.int k (fX zs i))
def BD (P:Program) (m:Nat->bw) (nx:Nat) (T:TypeId) (len:Nat) (parts:List (Nat×SV)):Option (Prop×SV×bf):=
 match P.underlying T with
 |some (.slice E)=>
  match P.info? E,cC m nx with
  |some i,true=>
   match i.zero,Nat.ble len 1000 with
   |some z,true=>
    match Nat.beq z.cells.size i.size,nI m (λk=>some (k*i.size,i.size)) ((List.range (len*i.size)).map λq=>aN (z.cells.toList.map .v) (q%i.size)) parts,Nat.ble (len*i.size) 16777216 with
    |true,some l,true=>
     match l.all λs=>!cZ s with
     |true=>
      match Nat.beq i.size 1,P.underlying E with
      |true,some (.int b)=>
       match pK b l with
       |some zs=>some (True,.aS nx (m nx).rs none 0 len,gu m nx (.row i.size len (G3 b zs)))
       |none=>none
      |_,_=>some (True,.aS nx (m nx).rs none 0 len,gu m nx (.row i.size len (rowOf i.size len l)))
     |false=>none
    |_,_,_=>none
   |_,_=>none
  |_,_=>none
 |_=>none
theorem Kf (h:Cx P w ω ρ M a) {o:Oper} {T:TypeId} {len:Nat} {parts:Array (Nat×Operand)} {nx:Nat} {pr:Prop} {s:SV} {u:bf} (ho:o.op= .buildSlice T len parts)
 (b:BD P (ae M) nx T len (parts.toList.map λp=>(p.1,ρ p.2))=some (pr,s,u)):lQ P w ω M a o s u:=by
 have d:∀(i:Nat) (s:Nat×SV),(parts.toList.map λp=>(p.1,ρ p.2))[i]? =some s->∃u,(parts.toList.map λp=>(p.1,a.eval p.2))[i]? =some (s.1,u)/\Den w ω s.2 u:=by
  intro i s hs;rw[eX]at hs;cases hp:parts.toList[i]? with
  |none=>rw[hp]at hs;cases hs
  |some p=>rw[hp]at hs;obtain rfl:=aV hs;exact⟨a.eval p.2,by rw[eX,hp];rfl,h.val p.2⟩
 unfold BD at b;split at b
 ·next E hu=>
  split at b
  ·next i hi hf=>
   split at b
   ·next z hz hlen=>
    have hlen:=bP hlen;split at b
    ·next l k hl t=>
     have k:=a_ k;have t:=bP t;have y:bY w ω ((List.range (len*i.size)).map λq=>aN (z.cells.toList.map .v) (q%i.size)) (((Array.range (len*i.size)).map λq=>(if len*i.size=0 then #[]else z.cells)[q%(if len*i.size=0 then(#[]:Array Value)else z.cells).size]!).toList):=by
      refine bY.mk (by simp) λq C=>?_;have A:q<len*i.size:=by simpa using C
      have h0:¬len*i.size=0:=by omega
      have O:0<i.size:=by
       rcases ja i.size with h|h
       ·rw[h]at A;omega
       ·exact h
      have G:q%i.size<z.cells.size:=by rw[k];exact kQ _ O
      refine⟨z.cells[q%i.size],?_,?_⟩
      ·have e:z.cells[q%z.cells.size]! =z.cells[q%i.size]:=by rw[k,getElem!_pos z.cells (q%i.size) G]
       simp only[if_neg h0];simp[A,e]
      ·rw[cD,eX,nD A];simp[aN,cD,G,Den]
     obtain⟨c,h1,h2⟩:=Fq h.mem _ _ (by simp) d _ _ _ y hl;have B:=h2.len;have R:c.size=len*i.size:=by
      have e1:l.length=len*i.size:=by have:=JI hl;simpa using this
      simp at B;omega
     have run:(execOp a.eval o).run P w= .ok (.value (.slice (some ⟨w.heap.size,0,none⟩) len len)) (w.alloc (.cells c E)):=by
      have hs:(sizeOf E).run P w= .ok i.size w:=by simp[sizeOf,run_typeInfo w hi,Result.andThen]
      have S:(zeroValue E).run P w= .ok z w:=by simp[zeroValue,run_typeInfo w hi,hz,Result.andThen]
      have U:¬(len*i.size>2^24):=by omega
      simp only[execOp,ho,Instr.buildSlice,Sem.run_bind,run_underlying hu,Result.andThen_ok,hs,if_neg U,Sem.run_pure];by_cases h0:len*i.size=0
      ·have hA:∀(g:Nat->Value),(Array.range (len*i.size)).map g= #[]:=λg=>by simp[h0]
       simp only[hA]at h1;have V:Array.range 0= #[]:=rfl;simp[h0,V,h1,newRow,Result.andThen]
      ·simp only[if_neg h0]at h1⊢;simp[S,h1,newRow,Result.andThen]
     split at b
     ·next W=>
      have key:∀{f:Nat->Nat->SV},(∀q,q<len->∀j,j<i.size->f q j=aN l (q*i.size+j))->some (True,SV.aS nx (ae M nx).rs none 0 len,gu (ae M) nx (.row i.size len f))=some (pr,s,u)->lQ P w ω M a o s u:=by
       intro f X b;simp only[bF,bJ]at b;obtain⟨_,rfl,rfl⟩:=b;obtain⟨aq,s1,s2,s3⟩:=G1 h.mem hf (sz:=i.size) (n:=len) (cap:=len) (f:=f) (c:=c) (T:=E) (bc _) (by unfold maxLen;omega) (by omega) (by
        intro w' aq I Y q C j K;have jl:q*i.size+j<len*i.size:=lG C K;obtain⟨x,e1,e2⟩:=h2.get? (q*i.size+j) (by simp at B;omega);refine⟨x,by simpa using e1,?_⟩;rw[X q C j K,fC (EV W _)];exact e2.ext I)
       exact⟨_,_,_,aq,run,.inl rfl,s1,s2,s3⟩
      split at b
      ·next kk r hk=>
       have r:=a_ r;split at b
       ·next zs J=>
        refine key (λq C j K=>?_) b;have Z:j=0:=by omega
        subst Z;have e:=vV J;rw[e,r];have hzl:zs.length=len:=by have:=congrArg List.length e;simp at this B;rw[r]at R;omega
        simp[G3,aN,fX,cD,show q<zs.length by omega]
       ·cases b
      ·refine key (λq C j K=>?_) b;unfold rowOf;split
       ·have:q=0:=by omega
        subst this;simp
       ·rfl
     ·cases b
    ·cases b
   ·cases b
  ·cases b
 ·cases b
end
end Go.Sy
namespace Go.Sy
open Go.RowKit
theorem bz.swap {w:World} {ω:Ow} {M:Mem} (hm:aU w ω M) {k r:Nat} (E:k≠r) (Y:xq ω M r) {w':World} (o:w'.os=w.os/\w'.tape=w.tape/\w'.output=w.output/\w.heap.size<=w'.heap.size)
 (x:∀b,b<w.heap.size->(∀L,ω.β k none=some L->b≠L.b)->w'.heap[b]? =w.heap[b]?) {sz n:Nat} {f:Nat->Nat->SV} {L':Option Loc}
 (t:∀c,L'=some c->((∃L,ω.β k none=some L/\c.b=L.b)\/w.heap.size<=c.b)/\c.b<w'.heap.size/\c.sz=sz/\c.dg=n)
 (G:∀aq,Ext w ω w' aq->(∀q,q≠none->aq.β r q=none)->∀c,L'=some c->nN w' aq none r none c ⟨sz,n,f⟩):
 ∃aq,bz w ω M w' aq (fresh (Sy.kill M k) r (.row sz n f))/\aq.β r none=L'/\(∀q p,q≠r->q≠k->aq.β q p=ω.β q p):=by
 let β:Nat->Path->Option Loc:=λq p=>if q=r then(if p=none then L' else none)else if q=k then none else ω.β q p;let M':=fresh (Sy.kill M k) r (.row sz n f);let aq:Ow:=ω.re β M';have u:∀{q p c},β q p=some c->(q=r/\p=none/\L'=some c)\/(q≠r/\q≠k/\ω.β q p=some c):=by
  intro q p c h;by_cases h1:q=r
  ·simp only[β,if_pos h1]at h;by_cases h2:p=none
   ·rw[if_pos h2]at h;exact .inl ⟨h1,h2,h⟩
   ·rw[if_neg h2]at h;cases h
  ·simp only[β,if_neg h1]at h;by_cases h2:q=k
   ·rw[if_pos h2]at h;cases h
   ·rw[if_neg h2]at h;exact .inr ⟨h1,h2,h⟩
 have v:ae M' r=⟨(ae M r).rs,(ae M r).ds,none,.row sz n f⟩:=by show ae (fresh (Sy.kill M k) r _) r=_;unfold fresh;rw[dk,iA E]
 have y:ae M' k=⟨(ae M k).rs+1,(ae M k).ds+1,none,.dead⟩:=by show ae (fresh (Sy.kill M k) r _) k=_;unfold fresh;rw[cF (cA E),ql]
 have g:∀q,q≠r->q≠k->ae M' q=ae M q:=λq h1 h2=>by show ae (fresh (Sy.kill M k) r _) q=_;unfold fresh;rw[cF (cA h1),iA (cA h2)]
 have z:Ext w ω w' aq:=by
  refine⟨o.1,o.2.1,o.2.2.1,λb W K=>x b W λL O e=>?_,λb W K R=>?_,λ_ _ _ h=>h,o.2.2.2,λq=>?_,λq p c h e=>?_,λ_ h=>h⟩
  ·exact K ((hm.own b) ⟨k,none,L,O,e.symm⟩)
  ·obtain⟨q,p,c,h1,h2⟩:=R;rcases u h1 with⟨_,_,S⟩|⟨_,_,S⟩
   ·rcases(t c S).1 with⟨L,A,B⟩|A
    ·exact K ((hm.own b) ⟨k,none,L,A,by rw[<-B];exact h2⟩)
    ·omega
   ·exact K ((hm.own b) ⟨q,p,c,S,h2⟩)
  ·rw[hm.cur];show(ae M q).rs<=(ae M' q).rs/\_<=(ae M' q).ds;by_cases h1:q=r
   ·subst h1;rw[v];exact⟨bc _,bc _⟩
   ·by_cases h2:q=k
    ·subst h2;rw[y];exact⟨oC _,oC _⟩
    ·rw[g q h1 h2];exact⟨bc _,bc _⟩
  ·have h1:q≠r:=λe=>by subst e;rw[Y.2.2]at h;cases h
   have h2:q≠k:=by intro I;subst I;rw[hm.cur]at e;have e:st (dy M') q p=st (dy M) q p:=e;cases p<;>simp[st,dy,y]at e
   show β q p=some c;simp only[β,if_neg h1,if_neg h2];exact h
 refine⟨aq,⟨z,rfl,λ_ h=>h,?_,?_,λb J=>gg (hm.fS b J) o.2.2.2,?_,?_,?_,?_,?_⟩,by simp[aq,Ow.re,β],λq p h1 h2=>by simp[aq,Ow.re,β,h1,h2]⟩
 ·rintro b ⟨q,p,c,h1,rfl⟩;rcases u h1 with⟨rfl,rfl,d⟩|⟨_,_,d⟩
  ·exact(t c d).2.1
  ·exact gg (hm.low _ _ _ d) o.2.2.2
 ·rintro b ⟨q,p,c,h1,rfl⟩ J;rcases u h1 with⟨rfl,rfl,d⟩|⟨_,_,d⟩
  ·rcases(t c d).1 with⟨L,A,B⟩|A
   ·exact hm.dj _ (hm.own _ ⟨_,_,_,A,B.symm⟩) J
   ·have:=hm.fS _ J;omega
  ·exact hm.dj _ (hm.own _ ⟨_,_,_,d,rfl⟩) J
 ·intro q1 p1 c q2 p2 Z h1 h2 e;rcases u h1 with⟨rfl,rfl,d⟩|⟨a1,C,d⟩<;>rcases u h2 with⟨rfl,rfl,g2⟩|⟨b1,b2,g2⟩
  ·exact⟨rfl,rfl⟩
  ·exfalso;have hl:=hm.low _ _ _ g2;rcases(t c d).1 with⟨L,A,B⟩|A
   ·exact b2 (hm.inj _ _ _ _ _ _ g2 A (by rw[<-B,e])).1
   ·omega
  ·exfalso;have hl:=hm.low _ _ _ d;rcases(t Z g2).1 with⟨L,A,B⟩|A
   ·exact C (hm.inj _ _ _ _ _ _ d A (by rw[<-B,e])).1
   ·omega
  ·exact hm.inj _ _ _ _ _ _ d g2 e
 ·intro q p c h1;rcases u h1 with⟨rfl,rfl,d⟩|⟨_,_,d⟩
  ·exact(t c d).2.1
  ·exact gg (hm.low _ _ _ d) o.2.2.2
 ·intro q p c h1;rcases u h1 with⟨rfl,rfl,d⟩|⟨a1,C,d⟩
  ·obtain⟨_,_,T,I⟩:=t c d;refine⟨⟨sz,n,f⟩,by unfold rowAt;rw[v];rfl,T.symm,I.symm,?_⟩;rw[v];exact G aq z (λX U=>by simp[aq,Ow.re,β,U]) c d
  ·obtain⟨r1,T,I,e3,e4⟩:=hm.row _ _ _ d;refine⟨r1,by unfold rowAt;rw[g q a1 C];exact T,I,e3,?_⟩;rw[g q a1 C];refine e4.ext z ?_ (λX=>?_) (x _ (hm.low _ _ _ d) λL O e=>?_)
   ·rw[hm.cur];show(ae M' q).ds=(ae M q).ds;rw[g q a1 C]
   ·show β q X=_;simp only[β,if_neg a1,if_neg C]
   ·exact C (hm.inj _ _ _ _ _ _ d O e).1
 ·intro q l h;by_cases h1:q=r
  ·subst h1;rw[v]at h;cases h
  ·by_cases h2:q=k
   ·subst h2;rw[y]at h;cases h
   ·rw[g q h1 h2]at h;obtain⟨c,V⟩:=hm.live _ _ h;exact⟨c,by show β q none=_;simp only[β,if_neg h1,if_neg h2];exact V⟩
 ·intro q i j h;show β q (some (i,j))=none;by_cases h1:q=r
  ·simp[β,h1]
  ·by_cases h2:q=k
   ·simp[β,h1,h2]
   ·rw[g q h1 h2]at h;simp only[β,if_neg h1,if_neg h2];exact hm.eE _ _ _ h
def fT:SV->Bool
 | .v (.agg _)| .v (.tuple _)| .aI| .ag _ _| .tp _ _| .il _ _ _| .ptr _ _ _ _ _| .pe _ _ _ _ _ _ _| .aS _ _ _ _ _| .sa _ _ _ _ _ _=>false
 |_=>true
theorem EK {m:Nat->bw} {s:SV} (h:fT s=true):nQ m s=true:=by
 cases s with
 |v x=>cases x<;>first|rfl|cases h
 |_=>first|rfl|cases h
def lK (m:Nat->bw) (sz:Nat) (c:Option IntKind) (s:SV):Option (Nat×(Nat->Nat->SV)):=
 match s with
 | .aS k st p e n=>
   match cG m k st p,fD (m k).b p with
   |true,some r=>match Nat.beq r.sz sz with|true=>some (n,λi j=>dE (r.f (e+i) j))|false=>none
   |true,none=>match Nat.beq n 0 with|true=>some (0,λ_ _=> .aI)|false=>none
   |_,_=>none
 | .sl _ d n f=>match Nat.beq d sz with|true=>some (n,f)|false=>none
 | .sa k st p g j n=>
   match cG m k st p,fD (m k).b p,Nat.beq sz 1,c with
   |true,some r,true,some c=>match Nat.ble (j+n) r.sz,pK c ((List.range n).map λq=>r.f g (j+q))with|true,some l=>some (n,G3 c l)|_,_=>none
   |_,_,_,_=>none
 | .v (.slice none 0 0)=>some (0,λ_ _=> .aI)
 | .es=>some (0,λ_ _=> .aI)
 |_=>none
section
variable {P:Program} {w:World} {ω:Ow} {ρ:Operand->SV} {M:Mem} {a:Act}
theorem CE (hm:aU w ω M) {sz:Nat} {G:Option IntKind} {s:SV} {u:Value} (hd:Den w ω s u) {n:Nat} {f:Nat->Nat->SV} (hs:lK (ae M) sz G s=some (n,f)):
 ∃q cap,u= .slice q n cap/\n<=cap/\n<=maxLen/\(n=0\/∃ad,q=some ad/\∀i,i<n->∀j,j<sz->∃x,w.cell? (ad.add (i*sz+j))=some x/\Den w ω (f i j) x):=by
 unfold lK at hs;split at hs
 ·next k st p e S=>
  split at hs
  ·next r c C=>
   split at hs
   ·next b=>
    have b:=a_ b;simp only[bF,bJ]at hs;obtain⟨rfl,rfl⟩:=hs;have e0:=iZ hm c;rcases hd with hd|⟨_,q,cap,rfl,h1,h2,z⟩
    ·omega
    refine⟨q,cap,rfl,h1,ft h1 h2,?_⟩;rcases z with z|⟨L,I,rfl,T,h5⟩
    ·left;omega
    ·right;obtain⟨U,g2,J⟩:=si hm I C;refine⟨_,rfl,λi E j V=>?_⟩;obtain⟨x,A,d⟩:=J (e+i) (by omega) j (by omega);refine⟨x,?_,?_⟩
     ·rw[jx,<-b,U,show L.o+e*L.sz+(i*L.sz+j)=L.o+(e+i)*L.sz+j by rw[iD];omega];exact A
     ·cases g:cZ (r.f (e+i) j)with
      |true=>cases W:r.f (e+i) j with
       |il _ _ _=>show Den w ω (dE (r.f (e+i) j)) x;rw[W];trivial
       |_=>rw[W]at g;cases g
      |false=>
       cases p with
       |none=>have d:cO _ _ _ _ _ _ _ _:=d;rw[fC g]at d;exact sj d
       |some _=>exact sj d
   ·cases hs
  ·next c C=>
   split at hs
   ·next K=>
    have K:=a_ K;subst K;simp only[bF,bJ]at hs;obtain⟨rfl,rfl⟩:=hs;have e0:=iZ hm c;rcases hd with hd|⟨_,q,cap,rfl,h1,h2,z⟩
    ·omega
    exact⟨q,cap,rfl,h1,ft h1 h2,.inl rfl⟩
   ·cases hs
  ·cases hs
 ·next q X S f0=>
  split at hs
  ·next b=>
   have b:=a_ b;subst b;simp only[bF,bJ]at hs;obtain⟨rfl,rfl⟩:=hs;obtain⟨p,cap,rfl,h1,h2,z⟩:=hd;refine⟨p,cap,rfl,h1,h2,z.imp id ?_⟩;rintro ⟨ad,rfl,T⟩;exact⟨ad,rfl,λi E j V=>let⟨x,A,_,d⟩:=T i E j V;⟨x,A,d.up⟩⟩
  ·cases hs
 ·next k st p Y j S=>
  split at hs
  ·next r G c C b=>
   have b:=a_ b;subst b;split at hs
   ·next l hle hl=>
    have hle:=bP hle;simp only[bF,bJ]at hs;obtain⟨rfl,rfl⟩:=hs;obtain⟨_,L,I,Z,O,rfl⟩:=gr hm c hd;obtain⟨U,g2,J⟩:=si hm I C;refine⟨_,_,rfl,bc _,O,.inr ⟨_,rfl,λi E j2 hj2=>?_⟩⟩;have R:j2=0:=by omega
    subst R;obtain⟨x,A,d⟩:=J Y Z (j+i) (by omega);refine⟨x,by rw[jx];simpa [i_]using A,?_⟩;have hl:=vV hl;have t:=congrArg (λl=>l[i]?) hl;simp only[eX,nD E,iB]at t;cases h:l[i]? with
    |none=>rw[h]at t;cases t
    |some y=>
     rw[h]at t;simp only[iB,bF]at t;rw[t]at d;have B:fX l i=y:=by simp[fX,cD,h]
     show Den w ω (.v (.int G (fX l i))) x;rw[B];cases p with
     |none=>exact d
     |some _=>exact d
   ·cases hs
  ·cases hs
 ·simp only[bF,bJ]at hs;obtain⟨rfl,rfl⟩:=hs;obtain rfl:=hd;exact⟨none,0,rfl,bc _,gf _,.inl rfl⟩
 ·simp only[bF,bJ]at hs;obtain⟨rfl,rfl⟩:=hs;obtain⟨p,rfl⟩:=hd;exact⟨p,0,rfl,bc _,gf _,.inl rfl⟩
 ·cases hs
theorem Fp {sz n:Nat} {f:Nat->Nat->SV} {u:Value} (h:∃q cap,u= .slice q n cap/\n<=cap/\n<=maxLen/\(n=0\/∃ad,q=some ad/\∀i,i<n->∀j,j<sz->∃x,w.cell? (ad.add (i*sz+j))=some x/\Den w ω (f i j) x)):
 ∃(xs:List Value),xs.length=n*sz/\(∀w':World,w'.heap=w.heap->(Builtin.firstCells sz n u).run P w'= .ok xs.toArray w')/\∀i,i<n->∀j,j<sz->∃x,xs[i*sz+j]? =some x/\Den w ω (f i j) x:=by
 obtain⟨q,cap,rfl,_,_,h⟩:=h;rcases h with rfl|⟨ad,rfl,h⟩
 ·refine⟨[],by simp,λw' _=>?_,λi d=>absurd d (dS _)⟩;cases q with
  |none=>simp[Builtin.firstCells]
  |some ad=>simp[Builtin.firstCells,loadCells,loadCellsFrom]
 ·by_cases e:sz=0
  ·subst e;exact⟨[],by simp,λw' _=>by simp[Builtin.firstCells,loadCells,loadCellsFrom],λi _ j b=>absurd b (dS _)⟩
  ·have hex:∀q,∃x,q<n*sz->w.cell? (ad.add q)=some x/\Den w ω (f (q/sz) (q%sz)) x:=by
    intro q;by_cases o:q<n*sz
    ·obtain⟨x,p,t⟩:=h (q/sz) (wB (by rw[lC];exact o)) (q%sz) (kQ _ (by omega));exact⟨x,λ_=>⟨by rw[lC,sS]at p;exact p,t⟩⟩
    ·exact⟨undef,λh=>absurd h o⟩
   obtain⟨g,r⟩:=Classical.skolem.1 hex;refine⟨(List.range (n*sz)).map g,by simp,λw' k=>?_,λi d j b=>?_⟩
   ·refine run_firstCells_some (P:=P) w' sz n ad n cap _ (by simp) λj v l=>?_;have b:j<n*sz:=by have:=(ik.1 l).1;simpa using this
    simp[b]at l;rw[<-l];have:=(r j b).1;unfold World.cell? at this⊢;rw[k];exact this
   ·have c:=lG d b;refine⟨g (i*sz+j),by simp[c],?_⟩;have:=(r (i*sz+j) c).2;rw[show(i*sz+j)/sz=i by rw[jZ,B2 _ _ (by omega),B3 b];omega,
     show(i*sz+j)%sz=j by rw[jZ,B4,yK b]]at this
    exact this
theorem Kg {m:Nat->bw} {sz:Nat} {l:Option IntKind} {k st:Nat} {p:Path} {e j n:Nat} {f:Nat->Nat->SV} (h:lK m sz l (.aS k st p e j)=some (n,f)):cG m k st p=true/\j=n/\∀r,fD (m k).b p=some r->r.sz=sz:=by
 simp only[lK]at h;split at h
 ·next r c g=>
  split at h
  ·next i=>
   simp only[bF,bJ]at h;exact⟨c,h.1,λr' d=>by rw[g]at d;obtain rfl:=aV d;exact a_ i⟩
  ·cases h
 ·next c g=>
  split at h
  ·next o=>
   simp only[bF,bJ]at h;exact⟨c,(a_ o).trans h.1,λr' d=>by rw[g]at d;cases d⟩
  ·cases h
 ·cases h
theorem Vp {m:Nat->bw} {sz:Nat} {c:Option IntKind} {k st:Nat} {p:Path} {i j b n:Nat} {f:Nat->Nat->SV} (h:lK m sz c (.sa k st p i j b)=some (n,f)):cG m k st p=true/\b=n:=by
 simp only[lK]at h;split at h
 ·next d _ _ _=>
  split at h
  ·simp only[bF,bJ]at h;exact⟨by assumption,h.1⟩
  ·cases h
 ·cases h
theorem Ez {t ty e:TypeId} {i:TypeInfo} (j:P.underlying t=some (.slice e)) (k:P.info? e=some i) {b:Option Addr} {gz ji n c:Nat} {q:Option Addr} {news:List Value} (d:gz+n<=ji)
 (l:(Builtin.firstCells i.size n (.slice q n c)).run P w= .ok news.toArray w) {w':World} (g:∀ad,b=some ad->(storeCells (ad.add (gz*i.size)) news).run P w= .ok () w') (h:b=none->w'=w):
 (Builtin.append_ #[t,t] ty #[.slice b gz ji,.slice q n c]).run P w= .ok (.slice b (gz+n) ji) w':=by
 cases b with
 |none=>obtain rfl:=h rfl;simp[Builtin.append_,run_underlying j,sizeOf,typeInfo,k,Builtin.lenOf,d,l]
 |some ad=>have g:=g ad rfl;simp[Builtin.append_,run_underlying j,sizeOf,typeInfo,k,Builtin.lenOf,d,l,g]
theorem Jd {t ty e:TypeId} {i:TypeInfo} {z:Value} (l:P.underlying t=some (.slice e)) (o:P.info? e=some i) (p:i.zero=some z) {b:Option Addr} {gz ji n c:Nat} {q:Option Addr} {p7 news:List Value} (v:ji<gz+n)
 (h:∀w':World,w'.heap=w.heap->(Builtin.firstCells i.size gz (.slice b gz ji)).run P w'= .ok p7.toArray w') (j:∀w':World,w'.heap=w.heap->(Builtin.firstCells i.size n (.slice q n c)).run P w'= .ok news.toArray w')
 (r:((gz+n:Nat):Int)<=9223372036854775807) (k:Builtin.nextslicecap (gz+n) ji*i.bytes<=281474976710656):
 (Builtin.append_ #[t,t] ty #[.slice b gz ji,.slice q n c]).run P w=
   .ok (.slice (some ⟨w.heap.size,0,none⟩) (gz+n) (grownCap w (gz+n) ji e)) (w.drew.alloc (.cells (p7.toArray++news.toArray++Builtin.zeroCells z.cells (grownCap w (gz+n) ji e -(gz+n))) e)):=by
 have u:¬(gz+n<=ji):=by omega
 have d:¬(9223372036854775807<((gz:Int)+(n:Int))):=by omega
 have g:¬(281474976710656<Builtin.nextslicecap (gz+n) ji*i.bytes):=by omega
 have h1:=h w.drew rfl;have h2:=j w.drew rfl;simp[Builtin.append_,run_underlying l,sizeOf,typeInfo,zeroValue,o,p,Builtin.lenOf,u,d,g,Question.forced,h1,h2,newRow,grownCap];congr 2;apply Array.ext';simp[mC]
def intKind (P:Program) (E:TypeId):Option IntKind:=match P.underlying E with|some (.int b)=>some b|_=>none
def zD (m:Nat->bw) (nx b:Nat):SV->Option Nat
 | .aS k _ none _ _=>match Nat.beq nx k with|true=>none|false=>some k
 | .v (.slice none 0 0)=>match cC m (nx+1)with|true=>some (nx+1)|false=>none
 | .sa _ _ _ _ _ _=>match Nat.blt 0 b,cC m (nx+1)with|true,true=>some (nx+1)|_,_=>none
 |_=>none
def sJ (P:Program) (m:Nat->bw) (nx:Nat) (T:TypeId) (s x:SV):Option (Prop×SV×bf):=
 match P.underlying T with
 |some (.slice E)=>
  match P.info? E with
  |some i=>
   match lK m i.size (intKind P E) s,lK m i.size (intKind P E) x,i.zero,cC m nx,Nat.blt 0 i.size,Nat.blt 0 i.bytes with
   |some (n,f),some (b,g),some z,true,true,true=>
    match zD m nx b s,Nat.beq z.cells.size i.size with
    |some k,true=>some ((n+b)*i.bytes<=140737488355328/\(∀q,((List.range i.size).all λj=>fT (g q j))=true),.aS nx (m nx).rs none 0 (n+b),
      gu (ov (lL m k) m) nx (.row i.size (n+b) λq j=>hY (Nat.blt q n) (dE (f q j)) (dE (g (q -n) j)))++lL m k)
    |_,_=>none
   |_,_,_,_,_,_=>none
  |none=>none
 |_=>none
theorem Vq {w:World} {ω:Ow} {M:Mem} (hm:aU w ω M) {s:SV} {u:Value} (hd:Den w ω s u) {nx h k sz nn:Nat} {l:Option IntKind} {f:Nat->Nat->SV} (d:zD (ae M) nx h s=some k) (hs:lK (ae M) sz l s=some (nn,f)) {q:Option Addr} {n cap:Nat} (o:u= .slice q n cap):cap<=maxLen:=by
 subst o;unfold zD at d;split at d
 ·next k' st e r=>
  have e0:st=Sy.st ω.cur k' none:=by
   unfold lK at hs;simp only at hs;split at hs
   ·next c _=>exact iZ hm c
   ·next c _=>exact iZ hm c
   ·cases hs
  rcases hd with hd|⟨_,t,g,b,h1,h2,v⟩
  ·omega
  ·injection b with _ _ b;rw[b];exact h2
 ·have hd:Value.slice q n cap= .slice none 0 0:=hd;injection hd with _ _ b;rw[b];exact gf _
 ·next k' st p i j r=>
  have e0:st=Sy.st ω.cur k' p:=by
   unfold lK at hs;simp only at hs;split at hs
   ·next h1 _ _=>exact iZ hm h1
   ·cases hs
  rcases hd with hd|⟨_,L,_,_,h2,b⟩
  ·omega
  ·injection b with _ _ b;rw[b];exact h2
 ·cases d
theorem lS {a b:Nat}:Nat.blt a b=decide (a<b):=by
 cases h:Nat.blt a b with
 |true=>exact(decide_eq_true (bP h:a<b)).symm
 |false=>
  symm
  rw[decide_eq_false_iff_not];intro h2;have:Nat.blt a b=true:=iC h2;rw[h]at this;cases this
theorem A2 (hm:aU w ω M) {tx ty:Nat->SV} {o:Oper} {T:TypeId} {x y:Operand} {nx:Nat} {pr:Prop} {s:SV} {u:bf} (U:Den w ω (tx 0) (a.eval x)) (hy:Den w ω (ty 0) (a.eval y)) (ho:o.op= .call {callee:= .builtin .append,args:= #[x,y],argTypes:= #[T,T]})
 (V:sJ P (ae M) nx T (tx 0) (ty 0)=some (pr,s,u)) (hp:pr):oM P w ω M a o s u:=by
 unfold sJ at V;split at V
 ·next E hu=>
  split at V
  ·next i hi=>
   split at V
   ·next n f d g z G IP hz hf W IQ=>
    have W:0<i.size:=bP W;have IQ:0<i.bytes:=bP IQ;split at V
    ·next k l IS=>
     have IS:=a_ IS;simp only[bF,bJ]at V;obtain⟨rfl,rfl,rfl⟩:=V;obtain⟨hbound,R3⟩:=hp;have I:=kC hm hf;have A:=CE hm U G;have B:=CE hm hy IP;obtain⟨p7,o1,o2,o3⟩:=Fp (P:=P) A;obtain⟨news,n1,n2,n3⟩:=Fp (P:=P) B;obtain⟨qb,cap,eb,b1,b2,b3⟩:=A;have abo:cap<=maxLen:=Vq hm U l G eb;obtain⟨qs,cs,es,c1,c2,c3⟩:=B;rw[eb]at o2;rw[es]at n2;have IL:((n+d:Nat):Int)<=9223372036854775807:=by have:(n+d)*1<=(n+d)*i.bytes:=Nat.mul_le_mul_left _ IQ;omega
     have Eg:k≠nx:=by
      unfold zD at l;split at l
      ·split at l
       ·cases l
       ·next O=>obtain rfl:=aV l;exactλe=>beq_false O e.symm
      ·split at l
       ·obtain rfl:=aV l;omega
       ·cases l
      ·split at l
       ·obtain rfl:=aV l;omega
       ·cases l
      ·cases l
     have Q1:∀v∈news,v.oneCell'=true:=by
      intro v hv;obtain⟨q,hq⟩:=qG hv;have jl:q<d*i.size:=by have:=(ik.1 hq).1;omega
      obtain⟨y,y1,y2⟩:=n3 (q/i.size) (wB (by rw[lC];exact jl)) (q%i.size) (kQ _ W);rw[lC,sS,hq]at y1;obtain rfl:=aV y1;have:=cY.1 (R3 (q/i.size)) (q%i.size) (cV.2 (kQ _ W));exact Bi hm (EK this) y2
     have R5:∀(xs:List Value) (aq:Ow) (w':World),Ext w ω w' aq->(∀q,q<n*i.size->xs[q]? =p7[q]?)->(∀q,q<d*i.size->xs[n*i.size+q]? =news[q]?)->
      ∀a,a<n+d->∀b,b<i.size->∃x,xs[a*i.size+b]? =some x/\cO w' aq none nx a b (hY (Nat.blt a n) (dE (f a b)) (dE (g (a -n) b))) x:=by
      intro xs aq w' r h1 h2 a ha b O;have Ak:cZ (hY (Nat.blt a n) (dE (f a b)) (dE (g (a -n) b)))=false:=by rw[EI (yd _)];exact EJ _ _ _
      rw[lS]at Ak⊢;by_cases lk:a<n
      ·obtain⟨x,x1,x2⟩:=o3 a lk b O;refine⟨x,by rw[h1 _ (lG lk O)];exact x1,?_⟩;rw[fC Ak];exact qp (λ_=>sj (x2.ext r)) (λh=>by simp[lk]at h)
      ·obtain⟨x,x1,x2⟩:=n3 (a -n) (by omega) b O;refine⟨x,?_,?_⟩
       ·have e:a*i.size+b=n*i.size+((a -n)*i.size+b):=by
         have:a=n+(a -n):=by omega
         conv=>lhs;rw[this,iD]
         omega
        rw[e,h2 _ (lG (by omega) O)];exact x1
       ·rw[fC Ak];exact qp (λh=>absurd (of_decide_eq_true h) lk) (λ_=>sj (x2.ext r))
     have IT:∀(b:bp),fresh (Sy.kill M k) nx b=gu (ov (lL (ae M) k) (ae M)) nx b++lL (ae M) k++M:=by intro b;rw[lH];rfl
     have X:∀{aq:Ow} {w':World} {bb:bp},bz w ω M w' aq (fresh (Sy.kill M k) nx bb)->(ae M nx).rs=st aq.cur nx none:=by intro aq w' bb s;rw[s.mem.cur];show _=(ae (fresh (Sy.kill M k) nx bb) nx).rs;unfold fresh;rw[dk,iA Eg]
     have run:∀{v:Value} {w':World},(Builtin.append_ #[T,T] o.type #[.slice qb n cap,.slice qs d cs]).run P w= .ok v w'->(execOp a.eval o).run P w= .ok (.value v) w':=by intro v w' Z;simp only[execOp,ho,resolve,invoke,builtin,Sem.run_bind,Sem.run_pure,Result.andThen_ok,CF,mA,CG,eb,es,Z]
     by_cases J:n+d<=cap
     ·
      by_cases Y:cap=0
      ·have hn0:n=0:=by omega
       have hm0:d=0:=by omega
       subst hn0;subst hm0;have abp:news= []:=CH (by simpa using n1);have Z:=Ez (P:=P) (w:=w) (ty:=o.type) hu hi (b:=qb) (gz:=0) (ji:=cap) (n:=0) (c:=cs) (q:=qs) (news:= []) (by omega) (by rw[<-abp];exact n2 w rfl) (w':=w) (λad _=>by simp[storeCells]) (λ_=>rfl);obtain⟨aq,s1,e1,_⟩:=bz.swap (w':=w) (sz:=i.size) (n:=0+0) (f:=λq j=>hY (Nat.blt q 0) (dE (f q j)) (dE (g (q -0) j))) (L':=none) hm Eg I ⟨rfl,rfl,rfl,bc _⟩ (λ_ _ _=>rfl) (λ_ h=>by cases h) (λ_ _ _ _ h=>by cases h);refine⟨_,_,w,aq,run Z,.inl rfl,by rw[<-IT];exact s1,Or.inr ⟨X s1,qb,cap,rfl,by omega,by omega,.inl Y⟩⟩
      ·
       have hL:∃st e,(tx 0)= .aS k st none e n/\cG (ae M) k st none=true:=by
        unfold zD at l;split at l
        ·next k2 st e n2' t=>
         split at l
         ·cases l
         ·obtain rfl:=aV l;rw[t]at G;obtain⟨q1,q2,_⟩:=Kg G;exact⟨st,e,by rw[t,q2],q1⟩
        ·next t=>
         rw[t]at U;have U:a.eval x= .slice none 0 0:=U;rw[eb]at U;exact absurd (Value.slice.inj U).2.2 Y
        ·next k2 st p ii j n2' t=>
         exfalso;split at l
         ·next IG _=>
          have IG:0<d:=bP IG;rw[t]at G U;obtain⟨q1,q2⟩:=Vp G;obtain⟨_,L,_,_,_,e5⟩:=gr hm q1 U;rw[eb]at e5;have:=Value.slice.inj e5;omega
         ·cases l
        ·cases l
       obtain⟨st,e,t,IM⟩:=hL;have e0:=iZ hm IM;rw[t]at U;rcases U with U|⟨_,q',ade,ev,d1,d2,d3⟩
       ·omega
       rw[eb]at ev;obtain⟨rfl,_,rfl⟩:=Value.slice.inj ev;obtain⟨L,hL,rfl,d4,d5⟩:=d3.resolve_left Y;obtain⟨r0,r1,r2,r3,cc,TT,g1,g2,g3,g4⟩:=hm.row _ _ _ hL;have R:L.sz=i.size:=by rw[t]at G;rw[<-r2];exact(Kg G).2.2 _ r1
       have adf:L.o+e*L.sz+n*i.size+news.length<=cc.size:=by rw[g2,n1,R];have:=qz i.size J;rw[R,iD]at d4;rw[iD]at this;omega
       have lZ:=run_storeCells_at P L.b (L.o+e*L.sz+n*i.size) TT news 0 cc w g1 (by simpa using adf) Q1;simp only[sP]at lZ;have Z:=Ez (P:=P) (w:=w) (ty:=o.type) hu hi (b:=some ⟨L.b,L.o+e*L.sz,none⟩) (gz:=n) (ji:=cap) (n:=d) (c:=cs) (q:=qs) (news:=news) J (n2 w rfl) (λad IN=>by obtain rfl:=aV IN;rw[jx];exact lZ) (λh=>by cases h)
       generalize K:(cc.toList.take (L.o+e*L.sz+n*i.size)++news++cc.toList.drop (L.o+e*L.sz+n*i.size+news.length)).toArray=C at Z;have S:C.size=cc.size:=by subst K;simp;omega
       let L1:Loc:=⟨L.b,L.o+e*L.sz,i.size,n+d,L.len⟩;have hbl:L.b<w.heap.size:=hm.low _ _ _ hL;obtain⟨aq,s1,e1,_⟩:=bz.swap (w':=w.setRow L.b C) (sz:=i.size) (n:=n+d) (f:=λq j=>hY (Nat.blt q n) (dE (f q j)) (dE (g (q -n) j))) (L':=some L1) hm Eg I ⟨rfl,rfl,rfl,by simp⟩
        (λb _ O=>setRow_other w L.b b C (O L hL)) (λL2 h2=>by obtain rfl:=aV h2;exact⟨.inl ⟨L,hL,rfl⟩,by simpa using hbl,rfl,rfl⟩) (by
          intro aq r _ L2 h2;obtain rfl:=aV h2;refine⟨C,TT,setRow_heap w L.b cc C TT (0,0) g1,by rw[S];exact g2,?_,?_⟩
          ·show L.o+e*L.sz+(n+d)*i.size<=L.len;rw[<-g2,iD,<-n1];omega
          ·intro a ha b O;have key:=R5 ((C.toList).drop (L.o+e*L.sz)) aq _ r ?_ ?_ a ha b O
           ·obtain⟨xv,x1,x2⟩:=key;refine⟨xv,?_,x2⟩;rw[pJ]at x1;show C[L.o+e*L.sz+a*i.size+b]? =some xv;rw[i_];simpa using x1
           ·intro q hq;subst K;rw[pJ];simp only[mC];rw[mD (by simp;omega),kU (by omega)];obtain⟨y,y1,_⟩:=o3 (q/i.size) (wB (by rw[lC];exact hq)) (q%i.size) (kQ _ W);rw[lC,sS]at y1;have SH:=o2 w rfl;have:=run_firstCells_some (P:=P) w i.size n ⟨L.b,L.o+e*L.sz,none⟩ n cap ((cc.toList.drop (L.o+e*L.sz)).take (n*i.size)) (by simp;omega) (λj v hv=>by
             have hj:j<n*i.size:=by have:=(ik.1 hv).1;simp at this;omega
             rw[kU hj,pJ]at hv;rw[jx];simp only[World.cell?,g1];simpa using hv)
            rw[this]at SH;have eE:p7=(cc.toList.drop (L.o+e*L.sz)).take (n*i.size):=by have:=(Result.ok.inj SH).1;exact(GY.2 this).symm
            rw[eE,kU hq,pJ]
           ·intro q hq;subst K;rw[pJ];simp only[mC];rw[qJ (by simp;omega)];simp only[pG,kX];rw[show L.o+e*L.sz+(n*i.size+q) -min (L.o+e*L.sz+n*i.size) cc.size=q by omega];rw[mD (by omega)]);refine⟨_,_,_,aq,run Z,.inl rfl,by rw[<-IT];exact s1,Or.inr ⟨X s1,_,cap,rfl,J,abo,.inr ⟨L1,e1,by simp[L1],?_,by simp[L1]⟩⟩⟩;show L.o+e*L.sz+(0+cap)*i.size<=L.len;rw[R,iD]at d4;rw[R,jY];omega
     ·
      have Z:=Jd (P:=P) (w:=w) (ty:=o.type) hu hi hz (b:=qb) (gz:=n) (ji:=cap) (n:=d) (c:=cs) (q:=qs) (by omega) o2 n2 IL (growslice_fits (by omega) hbound);have xG:=grownCap_ge w (n+d) cap E;have SI:=grownCap_le_maxLen w (n+d) cap E (by unfold maxLen;omega);generalize abn:grownCap w (n+d) cap E=gc at Z xG SI;generalize K:p7.toArray++news.toArray++Builtin.zeroCells z.cells (gc -(n+d))=C at Z;have S:C.size=gc*i.size:=by subst K;simp only[Array.size_append,FT,size_zeroCells,IS,o1,n1,<-iD];congr 1;omega
      let L1:Loc:=⟨w.heap.size,0,i.size,n+d,C.size⟩;obtain⟨aq,s1,e1,_⟩:=bz.swap (w':=w.drew.alloc (.cells C E)) (sz:=i.size) (n:=n+d) (f:=λq j=>hY (Nat.blt q n) (dE (f q j)) (dE (g (q -n) j))) (L':=some L1) hm Eg I ⟨rfl,rfl,rfl,by simp⟩
       (λb O _=>Below.heap_alloc w.drew _ b O) (λL2 h2=>by obtain rfl:=aV h2;exact⟨.inr (bc _),by simp[L1],rfl,rfl⟩) (by
         intro aq r _ L2 h2;obtain rfl:=aV h2;refine⟨C,E,heap_alloc_new w.drew _,rfl,?_,?_⟩
         ·show 0+(n+d)*i.size<=C.size;rw[S,jY];exact qz _ xG
         ·intro a ha b O;have key:=R5 C.toList aq _ r ?_ ?_ a ha b O
          ·obtain⟨xv,x1,x2⟩:=key;refine⟨xv,?_,x2⟩;show C[0+a*i.size+b]? =some xv;rw[jY];simpa using x1
          ·intro q hq;have e1:C.toList=p7++(news++(Builtin.zeroCells z.cells (gc -(n+d))).toList):=by subst K;simp
           rw[e1,mD (by omega)]
          ·intro q hq;have e1:C.toList=p7++(news++(Builtin.zeroCells z.cells (gc -(n+d))).toList):=by subst K;simp
           rw[e1,qJ (by omega),o1,Nat.add_sub_cancel_left,mD (by omega)]);refine⟨_,_,_,aq,run Z,.inl rfl,by rw[<-IT];exact s1,Or.inr ⟨X s1,_,gc,rfl,xG,SI,.inr ⟨L1,e1,by simp[L1],?_,by simp[L1]⟩⟩⟩;show 0+(0+gc)*i.size<=C.size;rw[S];simp
    ·cases V
   ·cases V
  ·cases V
 ·cases V
theorem Ur (h:Cx P w ω ρ M a) {o:Oper} {T:TypeId} {x y:Operand} {nx:Nat} {pr:Prop} {s:SV} {u:bf} (ho:o.op= .call {callee:= .builtin .append,args:= #[x,y],argTypes:= #[T,T]})
 (b:sJ P (ae M) nx T (ρ x) (ρ y)=some (pr,s,u)) (hp:pr):oM P w ω M a o s u:=A2 (tx:=λ_=>ρ x) (ty:=λ_=>ρ y) h.mem (h.val x) (h.val y) ho b hp
end
end Go.Sy
namespace Go.Sy
open Go.RowKit
theorem bz.ada {w w':World} {o:Ow} {M:Mem} (hm:aU w o M) {k:Nat} {p:Path} {L:Loc} (I:o.β k p=some L)
 (j:w'.os=w.os/\w'.tape=w.tape/\w'.output=w.output/\w'.heap.size=w.heap.size) (u:∀b,b≠L.b->w'.heap[b]? =w.heap[b]?)
 {c B:Array Value} {T:TypeId} (hc:w.heap[L.b]? =some (Obj.cells c T (0,0))) (J:w'.heap[L.b]? =some (Obj.cells B T (0,0))) (K:B.size=c.size) {e':bw}
 (C:e'.rs=(ae M k).rs/\e'.ds=(ae M k).ds/\e'.hl=(ae M k).hl) (t:∀l',e'.b= .cells l'->∃l,(ae M k).b= .cells l)
 (v:∀q r,fD (ae M k).b q=some r->∃r',fD e'.b q=some r'/\r'.sz=r.sz/\r'.n=r.n/\∀a,a<r.n->∀b,b<r.sz->
   (q=p->∀y,c[L.o+a*L.sz+b]? =some y->gJ w' o (ae M k).hl k q a b (r.f a b) y->∃x,B[L.o+a*L.sz+b]? =some x/\gJ w' o (ae M k).hl k q a b (r'.f a b) x)/\
   (q≠p->∀y,gJ w' o (ae M k).hl k q a b (r.f a b) y->gJ w' o (ae M k).hl k q a b (r'.f a b) y)):
 Ext w o w' o->bz w o M w' o ((k,e')::M):=by
 intro d;refine⟨d,?_,hm.own,λb h=>by rw[j.2.2.2];exact hm.ez b h,hm.dj,λb h=>by rw[j.2.2.2];exact hm.fS b h,hm.inj,λk p L h=>by rw[j.2.2.2];exact hm.low k p L h,?_,?_,?_⟩
 ·rw[hm.cur];exact(v_ C.1 C.2.1).symm
 ·intro k1 p1 E h1;obtain⟨r,S,G,e3,e4⟩:=hm.row k1 p1 E h1;by_cases i:k1=k
  ·subst i;obtain⟨r',f1,f2,f3,U⟩:=v p1 r S;refine⟨r',by unfold rowAt;rw[dk];exact f1,f2.trans G,f3.trans e3,?_⟩;rw[dk,C.2.2];obtain⟨c1,T1,V,g2,W,X⟩:=e4;by_cases hp:p1=p
   ·subst hp;obtain rfl:E=L:=aV (h1.symm.trans I);have e:=hc.symm.trans V;simp only[bF,Obj.cells.injEq]at e;obtain⟨rfl,rfl,_⟩:=e;refine⟨B,T,J,by rw[K];exact g2,W,λa z b A=>?_⟩;obtain⟨y,O,R⟩:=X a z b A;exact(U a (by rw[e3];exact z) b (by rw[G];exact A)).1 rfl y O (R.ext d rfl (λ_=>rfl))
   ·have g:E.b≠L.b:=λe=>hp (hm.inj _ _ _ _ _ _ h1 I e).2;refine⟨c1,T1,(u _ g).trans V,g2,W,λa z b A=>?_⟩;obtain⟨y,O,R⟩:=X a z b A;exact⟨y,O,(U a (by rw[e3];exact z) b (by rw[G];exact A)).2 hp y (R.ext d rfl (λ_=>rfl))⟩
  ·have g:E.b≠L.b:=λe=>i (hm.inj _ _ _ _ _ _ h1 I e).1;refine⟨r,by unfold rowAt;rw[cF (cA i)];exact S,G,e3,?_⟩;rw[cF (cA i)];exact e4.ext d rfl (λ_=>rfl) (u _ g)
 ·intro k1 l h;by_cases i:k1=k
  ·subst i;rw[dk]at h;obtain⟨l0,h0⟩:=t l h;exact hm.live k1 l0 h0
  ·rw[cF (cA i)]at h;exact hm.live k1 l h
 ·intro k1 Y Z h;by_cases i:k1=k
  ·subst i;rw[dk,C.2.2]at h;exact hm.eE k1 Y Z h
  ·rw[cF (cA i)]at h;exact hm.eE k1 Y Z h
theorem aU.SD {w:World} {o:Ow} {M:Mem} (hm:aU w o M) {k:Nat} {e':bw} (g:e'.rs=(ae M k).rs/\e'.ds=(ae M k).ds/\e'.hl=(ae M k).hl) (d:∀l',e'.b= .cells l'->∃l,(ae M k).b= .cells l)
 (e:∀q L,o.β k q=some L->∀r,fD (ae M k).b q=some r->∃r',fD e'.b q=some r'/\r'.sz=r.sz/\r'.n=r.n/\∀a,a<r.n->∀b,b<r.sz->∀y,gJ w o (ae M k).hl k q a b (r.f a b) y->gJ w o (ae M k).hl k q a b (r'.f a b) y):
 aU w o ((k,e')::M):=by
 refine⟨?_,hm.own,hm.ez,hm.dj,hm.fS,hm.inj,hm.low,?_,?_,?_⟩
 ·rw[hm.cur];exact(v_ g.1 g.2.1).symm
 ·intro k1 p1 j h1;obtain⟨r,p,i,e3,e4⟩:=hm.row k1 p1 j h1;by_cases c:k1=k
  ·subst c;obtain⟨r',z,A,B,C⟩:=e p1 j h1 r p;refine⟨r',by unfold rowAt;rw[dk];exact z,A.trans i,B.trans e3,?_⟩;rw[dk,g.2.2];obtain⟨c1,E,G,g2,I,J⟩:=e4;refine⟨c1,E,G,g2,I,λa t b u=>?_⟩;obtain⟨y,K,O⟩:=J a t b u;exact⟨y,K,C a (by rw[e3];exact t) b (by rw[i];exact u) y O⟩
  ·refine⟨r,by unfold rowAt;rw[cF (cA c)];exact p,i,e3,?_⟩;rw[cF (cA c)];exact e4
 ·intro k1 l h;by_cases c:k1=k
  ·subst c;rw[dk]at h;obtain⟨R,h0⟩:=d l h;exact hm.live k1 R h0
  ·rw[cF (cA c)]at h;exact hm.live k1 l h
 ·intro k1 v x h;by_cases c:k1=k
  ·subst c;rw[dk,g.2.2]at h;exact hm.eE k1 v x h
  ·rw[cF (cA c)]at h;exact hm.eE k1 v x h
def rA (e c i:Nat):Bool:=Nat.ble e i&&Nat.blt i (e+c)
theorem B1 {e c i:Nat}:rA e c i=true↔e<=i/\i<e+c:=by unfold rA;rw[aW];exact⟨λ⟨h1,h2⟩=>⟨bP h1,bP h2⟩,λ⟨h1,h2⟩=>⟨iC h1,iC h2⟩⟩
def jf (sz e c:Nat) (g f:Nat->Nat->SV):Nat->Nat->SV:=λi j=>match Nat.blt j sz with|true=>hY (rA e c i) (dE (g (i -e) j)) (f i j)|false=>f i j
section
variable {P:Program} {w:World} {ω:Ow} {ρ:Operand->SV} {M:Mem} {a:Act}
theorem Jm {c:Bool} {x y:SV} (b:cZ x=false):cZ (hY c x y)=false:=by rw[EI b];exact EJ _ _ _
theorem F8 (hm:aU w ω M) {k st e n sz nn:Nat} {f g:Nat->Nat->SV} {u:Value} (IM:cG (ae M) k st none=true) (B:(ae M k).b= .row sz nn f) (hd:Den w ω (.aS k st none e n) u) {c:Nat} (hc:c<=n) (hle:e+c<=nn)
 (X:∀i j,j<sz->cZ (f i j)=false) {xs:List Value} (z:xs.length=c*sz) (Y:∀v∈xs,v.oneCell'=true) (hg:∀i,i<c->∀j,j<sz->∃x,xs[i*sz+j]? =some x/\Den w ω (g i j) x):
 ∃q cap w',u= .slice q n cap/\(∀ad,q=some ad->(storeCells ad xs 0).run P w= .ok () w')/\(q=none->w'=w)/\bz w ω M w' ω ((k,{ae M k with b:= .row sz nn (jf sz e c g f)})::M):=by
 have e0:=iZ hm IM;have C:∀l',bp.row sz nn (jf sz e c g f)= .cells l'->∃l,(ae M k).b= .cells l:=λl' h=>(by cases h);have keep:∀{w':World} {i j:Nat} {y:Value} (h:rA e c i=false),gJ w' ω (ae M k).hl k none i j (f i j) y->gJ w' ω (ae M k).hl k none i j (jf sz e c g f i j) y:=by
  intro w' i j y h t;unfold jf;split
  ·next I=>
   have I:j<sz:=bP I;rw[h];have h1:cZ (hY false (dE (g (i -e) j)) (f i j))=false:=Jm (yd _);show cO _ _ _ _ _ _ _ _;rw[fC h1];have t:cO _ _ _ _ _ _ _ _:=t;rw[fC (X i j I)]at t;exact qp (λh=>nomatch h) (λ_=>t)
  ·exact t
 have other:∀{q:Path} {r:Row},q≠none->fD (ae M k).b q=some r->fD (bp.row sz nn (jf sz e c g f)) q=some r:=by
  intro q r J h;rw[B]at h;cases q with
  |none=>exact absurd rfl J
  |some ij=>
   obtain⟨i,j⟩:=ij;have h:inner ⟨sz,nn,f⟩ i j=some r:=h;show inner ⟨sz,nn,jf sz e c g f⟩ i j=some r;cases I:Nat.blt j sz with
   |true=>
    have:=X i j (bP I);exfalso;unfold inner at h;cases hf:f i j with
    |il _ _ _=>rw[hf]at this;cases this
    |_=>rw[show(⟨sz,nn,f⟩:Row).f i j=f i j from rfl,hf]at h;cases h
   |false=>
    unfold inner at h⊢;have:jf sz e c g f i j=f i j:=by unfold jf;rw[I]
    rw[show(⟨sz,nn,jf sz e c g f⟩:Row).f i j=jf sz e c g f i j from rfl,this];exact h
 have stay:c=0\/ω.β k none=none->aU w ω ((k,{ae M k with b:= .row sz nn (jf sz e c g f)})::M):=by
  intro h0;refine hm.SD ⟨rfl,rfl,rfl⟩ C λq L V r O=>?_;by_cases J:q=none
  ·subst J;rcases h0 with h0|h0
   ·rw[B]at O;obtain rfl:=aV O;refine⟨_,rfl,rfl,rfl,λa W b B y t=>keep ?_ t⟩;cases h:rA e c a with
    |false=>rfl
    |true=>have:=B1.1 h;omega
   ·rw[h0]at V;cases V
  ·exact⟨r,other J O,rfl,rfl,λa W b B y t=>t⟩
 rcases hd with hd|⟨_,q,cap,rfl,h1,h2,h3⟩
 ·omega
 rcases h3 with h3|⟨L,V,rfl,h4,h5⟩
 ·have Sz:c=0:=by omega
  subst Sz;have z:xs= []:=CH (by simpa using z);subst z;exact⟨q,cap,w,rfl,λad _=>by simp[storeCells],λ_=>rfl,Ext.refl _ _,stay (.inl rfl)⟩
 ·obtain⟨r0,r1,r2,r3,G,TT,g1,g2,g3,g4⟩:=hm.row _ _ _ V;have Ef:r0=⟨sz,nn,f⟩:=by have r1:fD (ae M k).b none=some r0:=r1;rw[B]at r1;exact(aV r1).symm
  subst Ef;have r2:sz=L.sz:=r2;have r3:nn=L.dg:=r3;have Z:L.o+e*L.sz+xs.length<=G.size:=by rw[g2,z,r2];have:=qz L.sz (show e+c<=L.dg by omega);rw[iD]at this;omega
  have R:=run_storeCells_at P L.b (L.o+e*L.sz) TT xs 0 G w g1 (by simpa using Z) Y;simp only[sP]at R;generalize S:(G.toList.take (L.o+e*L.sz)++xs++G.toList.drop (L.o+e*L.sz+xs.length)).toArray=T at R;have R4:T.size=G.size:=by subst S;simp;omega
  have hA:ω.A L.b:=(hm.own _) ⟨k,none,L,V,rfl⟩;have K:Ext w ω (w.setRow L.b T) ω:=by refine⟨rfl,rfl,rfl,λb _ B=>setRow_other w L.b b T (λe=>B (e▸hA)),λ_ _ h=>h,λ_ _ _ h=>h,by simp,λ_=>⟨bc _,bc _⟩,λ_ _ _ h _=>h,λ_ h=>h⟩
  refine⟨_,cap,w.setRow L.b T,rfl,λad IN=>?_,(λh=>(by cases h)),?_⟩
  ·obtain rfl:=aV IN;exact R
  refine bz.ada (w':=w.setRow L.b T) hm V ⟨rfl,rfl,rfl,by simp⟩ (λb B=>setRow_other w L.b b T B) g1 (setRow_heap w L.b G T TT (0,0) g1) R4 (e':={ae M k with b:= .row sz nn (jf sz e c g f)}) ⟨rfl,rfl,rfl⟩ C (λq r O=>?_) K;by_cases J:q=none
  ·subst J;rw[B]at O;obtain rfl:=aV O;refine⟨_,rfl,rfl,rfl,λa W b p=>⟨λ_ y t U=>?_,λh=>absurd rfl h⟩⟩;have p:b<sz:=p;have W:a<nn:=W;have jl:a*sz+b<nn*sz:=lG W p;cases E:rA e c a with
   |false=>
    refine⟨y,?_,keep E U⟩;have d:a<e\/e+c<=a:=by
     rcases bR a e with h|h
     ·exact .inl h
     ·rcases bR a (e+c)with h'|h'
      ·rw[B1.2 ⟨h,h'⟩]at E;cases E
      ·exact .inr h'
    rw[<-t];have hyl:L.o+a*L.sz+b<G.size:=(eZ.1 t).1;subst S;rcases d with d|d
    ·have SE:L.o+a*L.sz+b<L.o+e*L.sz:=by have:=lG (sz:=sz) d p;rw[r2]at this;omega
     simp only[mC,Cy];rw[mD (by simp;omega),kU SE];simp
    ·have SE:L.o+e*L.sz+xs.length<=L.o+a*L.sz+b:=by have:=qz L.sz d;rw[z,r2];rw[iD]at this;omega
     simp only[Cy];rw[qJ (by simp;omega)];rw[pJ];simp only[G2,pG,kX];rw[show L.o+e*L.sz+xs.length+(L.o+a*L.sz+b -(min (L.o+e*L.sz) G.size+xs.length))=L.o+a*L.sz+b by omega];simp
   |true=>
    obtain⟨i1,i2⟩:=B1.1 E;obtain⟨x,x1,x2⟩:=hg (a -e) (by omega) b p;refine⟨x,?_,?_⟩
    ·have adb:L.o+a*L.sz+b=L.o+e*L.sz+((a -e)*sz+b):=by
      have:a=e+(a -e):=by omega
      conv=>lhs;rw[this,iD]
      rw[r2];omega
     rw[adb];subst S;have hxl:(a -e)*sz+b<xs.length:=by rw[z];exact lG (by omega) p
     simp only[mC,Cy];rw[qJ (by simp;omega)];simp only[pG,kX];rw[show L.o+e*L.sz+((a -e)*sz+b) -min (L.o+e*L.sz) G.size=(a -e)*sz+b by omega];rw[mD hxl,x1]
    ·show cO _ _ _ _ _ _ _ _;unfold jf;have I:Nat.blt b sz=true:=iC p;simp only[I,E];rw[fC (Jm (yd _))];exact qp (λ_=>sj (x2.ext K)) (λh=>nomatch h)
  ·exact⟨r,other J O,rfl,rfl,λa W b B=>⟨λh=>absurd h J,λ_ y t=>t⟩⟩
theorem Ut {sz n m:Nat} {f:Nat->Nat->SV} {u:Value} (h:∃q cap,u= .slice q m cap/\n<=cap/\n<=maxLen/\(n=0\/∃ad,q=some ad/\∀i,i<n->∀j,j<sz->∃x,w.cell? (ad.add (i*sz+j))=some x/\Den w ω (f i j) x)):
 ∃(xs:List Value),xs.length=n*sz/\(∀w':World,w'.heap=w.heap->(Builtin.firstCells sz n u).run P w'= .ok xs.toArray w')/\∀i,i<n->∀j,j<sz->∃x,xs[i*sz+j]? =some x/\Den w ω (f i j) x:=by
 obtain⟨q,cap,rfl,_,_,h⟩:=h;rcases h with rfl|⟨ad,rfl,h⟩
 ·refine⟨[],by simp,λw' _=>?_,λi d=>absurd d (dS _)⟩;cases q with
  |none=>simp[Builtin.firstCells]
  |some ad=>simp[Builtin.firstCells,loadCells,loadCellsFrom]
 ·by_cases e:sz=0
  ·subst e;exact⟨[],by simp,λw' _=>by simp[Builtin.firstCells,loadCells,loadCellsFrom],λi _ j b=>absurd b (dS _)⟩
  ·have hex:∀q,∃x,q<n*sz->w.cell? (ad.add q)=some x/\Den w ω (f (q/sz) (q%sz)) x:=by
    intro q;by_cases o:q<n*sz
    ·obtain⟨x,p,t⟩:=h (q/sz) (wB (by rw[lC];exact o)) (q%sz) (kQ _ (by omega));exact⟨x,λ_=>⟨by rw[lC,sS]at p;exact p,t⟩⟩
    ·exact⟨undef,λh=>absurd h o⟩
   obtain⟨g,r⟩:=Classical.skolem.1 hex;refine⟨(List.range (n*sz)).map g,by simp,λw' k=>?_,λi d j b=>?_⟩
   ·refine run_firstCells_some (P:=P) w' sz n ad m cap _ (by simp) λj v l=>?_;have b:j<n*sz:=by have:=(ik.1 l).1;simpa using this
    simp[b]at l;rw[<-l];have:=(r j b).1;unfold World.cell? at this⊢;rw[k];exact this
   ·have c:=lG d b;refine⟨g (i*sz+j),by simp[c],?_⟩;have:=(r (i*sz+j) c).2;rw[show(i*sz+j)/sz=i by rw[jZ,B2 _ _ (by omega),B3 b];omega,
     show(i*sz+j)%sz=j by rw[jZ,B4,yK b]]at this
    exact this
/-! ### copy -/
def qK:bp->Option (Nat×Nat×(Nat->Nat->SV))
 | .row sz n f=>some (sz,n,f)
 |_=>none
def GX (P:Program) (m:Nat->bw) (T:TypeId) (s x:SV):Option (Prop×SV×bf):=
 match P.underlying T,s with
 |some (.slice E),.aS k st none e n=>
  match P.info? E,qK (m k).b with
  |some i,some (sz,nn,f)=>
   match lK m i.size (intKind P E) x,cG m k st none,Nat.beq sz i.size with
   |some (c,g),true,true=>
    some ((∀q,((List.range i.size).all λj=>fT (g q j))=true)/\(∀q,((List.range i.size).all λj=>!cZ (f q j))=true)/\e+Nat.min c n<=nn,.v (.int .i64 (Nat.min c n:Nat)),
     rb m k (.row sz nn (jf sz e (Nat.min c n) g f)))
   |_,_,_=>none
  |_,_=>none
 |_,_=>none
theorem Xa (h:Cx P w ω ρ M a) {o:Oper} {T:TypeId} {x y:Operand} {pr:Prop} {s:SV} {u:bf} (ho:o.op= .call {callee:= .builtin .copy,args:= #[x,y],argTypes:= #[T,T]})
 (p:GX P (ae M) T (ρ x) (ρ y)=some (pr,s,u)) (hp:pr):oM P w ω M a o s u:=by
 have hm:=h.mem;have W:=h.val x;have hy:=h.val y;unfold GX at p;split at p
 ·next E k st e n X O=>
  split at p
  ·next i sz nn f Y d=>
   split at p
   ·next l g hs R r=>
    have r:=a_ r;subst r;simp only[bF,bJ]at p;obtain⟨rfl,rfl,rfl⟩:=p;obtain⟨C,S,hle⟩:=hp;have U:(ae M k).b= .row i.size nn f:=by
     unfold qK at d;split at d
     ·next U=>simp only[bF,bJ]at d;obtain⟨rfl,rfl,rfl⟩:=d;exact U
     ·cases d
    have B:=CE hm hy hs;obtain⟨qs,cs,es,c1,c2,Z⟩:=B;have aeW:Nat.min l n<=l:=Nat.min_le_left _ _;have B':∃q cap,a.eval y= .slice q l cap/\Nat.min l n<=cap/\Nat.min l n<=maxLen/\(Nat.min l n=0\/∃ad,q=some ad/\∀t,t<Nat.min l n->∀j,j<i.size->∃x,w.cell? (ad.add (t*i.size+j))=some x/\Den w ω (g t j) x):=by
     refine⟨qs,cs,es,by omega,by omega,?_⟩;rcases Z with Z|⟨ad,rfl,c4⟩
     ·left;omega
     ·exact .inr ⟨ad,rfl,λt hi'=>c4 t (by omega)⟩
    obtain⟨news,n1,G,n3⟩:=Ut (P:=P) B';have z:∀v∈news,v.oneCell'=true:=by
     intro v hv;obtain⟨q,hq⟩:=qG hv;have I:q<Nat.min l n*i.size:=by have:=(ik.1 hq).1;omega
     have J:0<i.size:=by
      rcases ja i.size with h|h
      ·rw[h,Nat.mul_zero]at I;omega
      ·exact h
     obtain⟨y,y1,y2⟩:=n3 (q/i.size) (wB (by rw[lC];exact I)) (q%i.size) (kQ _ J);rw[lC,sS,hq]at y1;obtain rfl:=aV y1;have:=cY.1 (C (q/i.size)) (q%i.size) (cV.2 (kQ _ J));exact Bi hm (EK this) y2
    rw[O]at W;obtain⟨q,cap,w',eu,A,V,K⟩:=F8 (P:=P) hm R U W (c:=Nat.min l n) (Nat.min_le_right _ _) hle (λt j hj=>by have:=cY.1 (S t) j (cV.2 hj);simpa using this) n1 z n3;refine⟨.value (.int .i64 (Nat.min l n:Nat)),_,w',ω,?_,.inl rfl,by simpa [rb]using K,rfl⟩;have hr:(Builtin.copy_ #[T,T] o.type #[a.eval x,a.eval y]).run P w= .ok (.int .i64 (Nat.min l n:Nat)) w':=by
     rw[eu,es];have G:=G w rfl;rw[es]at G;cases q with
     |none=>obtain rfl:=V rfl;simp[Builtin.copy_,run_underlying X,sizeOf,typeInfo,Y,Builtin.lenOf,G,goInt]
     |some ad=>have A:=A ad rfl;simp[Builtin.copy_,run_underlying X,sizeOf,typeInfo,Y,Builtin.lenOf,G,A,goInt]
    simp only[execOp,ho,resolve,invoke,builtin,Sem.run_bind,Sem.run_pure,Result.andThen_ok,CF,mA,CG,hr]
   ·cases p
  ·cases p
 ·cases p
/-! ### clear -/
def F3 (P:Program) (m:Nat->bw) (T:TypeId) (s:SV):Option (Prop×SV×bf):=
 match P.underlying T,s with
 |some (.slice E),.aS k st none e n=>
  match P.info? E,qK (m k).b with
  |some i,some (sz,nn,f)=>
   match i.zero,cG m k st none,Nat.beq sz i.size with
   |some z,true,true=>
    match Nat.beq z.cells.size i.size,(z.cells.toList.map SV.v).all fT with
    |true,true=>some ((∀q,((List.range i.size).all λj=>!cZ (f q j))=true)/\e+n<=nn,.v (.tuple #[]),rb m k (.row sz nn (jf sz e n (λ_ j=>aN (z.cells.toList.map .v) j) f)))
    |_,_=>none
   |_,_,_=>none
  |_,_=>none
 |_,_=>none
theorem Tb {z:Array Value} {n i j:Nat} (d:i<n) (b:j<z.size):(Builtin.zeroCells z n).toList[i*z.size+j]? =z[j]? :=by
 have c:i*z.size+j<n*z.size:=lG d b;have e:(i*z.size+j)%z.size=j:=by rw[jZ,B4,yK b]
 have g:0<z.size:=by omega
 simp only[Builtin.zeroCells,Array.toList_map,eX,Array.toList_range,nD c,iB,e];rw[getElem!_pos z j b,fR b]
theorem Vm (h:Cx P w ω ρ M a) {o:Oper} {T:TypeId} {x:Operand} {pr:Prop} {s:SV} {u:bf} (ho:o.op= .call {callee:= .builtin .clear,args:= #[x],argTypes:= #[T]})
 (p:F3 P (ae M) T (ρ x)=some (pr,s,u)) (hp:pr):oM P w ω M a o s u:=by
 have hm:=h.mem;have Y:=h.val x;unfold F3 at p;split at p
 ·next E k st e n O R=>
  split at p
  ·next i sz nn f hi d=>
   split at p
   ·next z hz S t=>
    have t:=a_ t;subst t;split at p
    ·next g B=>
     have g:=a_ g;simp only[bF,bJ]at p;obtain⟨rfl,rfl,rfl⟩:=p;obtain⟨U,hle⟩:=hp;have V:(ae M k).b= .row i.size nn f:=by
      unfold qK at d;split at d
      ·next V=>simp only[bF,bJ]at d;obtain⟨rfl,rfl,rfl⟩:=d;exact V
      ·cases d
     rw[R]at Y;have C:∀G,G<n->∀j,j<i.size->∃x,(Builtin.zeroCells z.cells n).toList[G*i.size+j]? =some x/\Den w ω (aN (z.cells.toList.map .v) j) x:=by intro G W j r;rw[<-g]at r⊢;refine⟨z.cells[j],by rw[Tb W r];simp[r],?_⟩;simp only[aN,cD,eX,pS,fR r,iB,FU];rfl
     have A:∀v∈(Builtin.zeroCells z.cells n).toList,v.oneCell'=true:=by
      intro v hv;obtain⟨q,Z⟩:=qG hv;have I:q<n*i.size:=by have:=(ik.1 Z).1;rw[kX,size_zeroCells,g]at this;exact this
      have J:0<i.size:=by
       rcases ja i.size with h|h
       ·rw[h,Nat.mul_zero]at I;omega
       ·exact h
      obtain⟨y,y1,y2⟩:=C (q/i.size) (wB (by rw[lC];exact I)) (q%i.size) (kQ _ J);rw[lC,sS,Z]at y1;obtain rfl:=aV y1;have r:q%i.size<(z.cells.toList.map SV.v).length:=by simp[g];exact kQ _ J
      have h1:aN (z.cells.toList.map .v) (q%i.size)∈z.cells.toList.map SV.v:=by unfold aN;rw[cD,eO r];exact GM r
      exact Bi hm (EK (cY.1 B _ h1)) y2
     obtain⟨q,cap,w',eu,l,X,K⟩:=F8 (P:=P) hm S V Y (c:=n) (bc _) hle (λG j r=>by have:=cY.1 (U G) j (cV.2 r);simpa using this) (by rw[kX,size_zeroCells,g]) A C;refine⟨.value (.tuple #[]),_,w',ω,?_,.inl rfl,by simpa [rb]using K,rfl⟩;have hr:(Builtin.clear_ #[T] o.type #[a.eval x]).run P w= .ok (.tuple #[]) w':=by
      rw[eu];cases q with
      |none=>obtain rfl:=X rfl;simp[Builtin.clear_,run_underlying O]
      |some ad=>
       have l:=l ad rfl;cases n with
       |zero=>
        have:w'=w:=by
         have:(Builtin.zeroCells z.cells 0).toList= []:=by apply CH;rw[kX,size_zeroCells,yG]
         rw[this]at l;simp[storeCells]at l;exact l.symm
        subst this;simp[Builtin.clear_,run_underlying O]
       |succ n'=>simp[Builtin.clear_,run_underlying O,zeroValue,typeInfo,hi,hz,l]
     simp only[execOp,ho,resolve,invoke,builtin,Sem.run_bind,Sem.run_pure,Result.andThen_ok,CF,mA,CG,hr]
    ·cases p
   ·cases p
  ·cases p
 ·cases p
end
end Go.Sy
namespace Go.Sy
open Go.RowKit
def R1:SV->Option (Nat×Nat×(Nat->Nat->SV))
 | .il sz n g=>some (sz,n,g)
 |_=>none
def OB (e:bw):Bool:=match e.hl with|none=>true|some _=>false
def yY (m:Nat->bw) (r:Nat) (s:SV):Option (SV×bf):=
 match s with
 | .aS k st (some (i,j)) e n=>
   match cG m k st (some (i,j)),OB (m k),qK (m k).b with
   |true,true,some (sz,nn,f)=>
    match R1 (f i j),cC m r,Nat.beq k r with
    |some (c,d,g),true,false=>some (.aS r (m r).rs none e n,gu (ov (mE m k i j) m) r (.row c d λa b=>dE (g a b))++mE m k i j)
    |_,_,_=>none
   |_,_,_=>none
 |_=>none
def jd (m:Nat->bw) (u:bf):Bool:=u.all λp=>cC m p.1
section
variable {P:Program} {w:World} {ω:Ow} {ρ:Operand->SV} {M:Mem} {a:Act}
theorem Kd {b:bp} {sz n:Nat} {f:Nat->Nat->SV} (h:qK b=some (sz,n,f)):b= .row sz n f:=by
 unfold qK at h;split at h
 ·simp only[bF,bJ]at h;obtain⟨rfl,rfl,rfl⟩:=h;rfl
 ·cases h
theorem Bh (hm:aU w ω M) {r:Nat} {s s':SV} {u:bf} (d:yY (ae M) r s=some (s',u)):∃aq k st i j e n,s= .aS k st (some (i,j)) e n/\cG (ae M) k st (some (i,j))=true/\s'= .aS r (ae M r).rs none e n/\bz w ω M w aq (u++M)/\
 (∀e n x,Den w ω (.aS k st (some (i,j)) e n) x->Den w aq (.aS r (ae M r).rs none e n) x)/\jd (ae M) u=false/\(∀k' p L,aq.β k' p=some L->ω.β k' p=some L\/ω.β k (some (i,j))=some L)/\k∈u.map (·.1):=by
 unfold yY at d;split at d
 ·next k st i j e n=>
  split at d
  ·next sz nn f t y v=>
   split at d
   ·next l z g c I J=>
    simp only[bF,bJ]at d;obtain⟨rfl,rfl⟩:=d;have B:=Kd v;have A:(ae M k).hl=none:=by unfold OB at y;split at y;assumption;cases y
    have K:f i j= .il l z g:=by
     unfold R1 at c;split at c
     ·next heq=>simp only[bF,bJ]at c;obtain⟨rfl,rfl,rfl⟩:=c;exact heq
     ·cases c
    have o:k≠r:=beq_false J;obtain⟨o',s1,C,O,e3⟩:=bz.OC hm o (kC hm I) A B K;have R:fresh (kY M k i j) r (.row l z λa b=>dE (g a b))=gu (ov (mE (ae M) k i j) (ae M)) r (.row l z λa b=>dE (g a b))++mE (ae M) k i j++M:=by rw[lH];rfl
    refine⟨o',k,st,i,j,e,n,rfl,t,rfl,by rw[<-R];exact s1,λe n x hd=>?_,?_,λk' p L h=>?_,by simp[mE]⟩
    ·have e0:=iZ hm t;rcases hd with hd|⟨_,q,cap,rfl,h1,h2,S⟩
     ·omega
     refine .inr ⟨?_,q,cap,rfl,h1,h2,?_⟩
     ·rw[s1.mem.cur];show _=(ae (fresh (kY M k i j) r _) r).rs;unfold fresh;rw[dk,AY o]
     ·rw[C];exact S
    ·simp only[jd,y',pI];right;simp only[mE,wK,List.all_nil,CD];unfold cC;rw[B];rfl
    ·by_cases E:k'=r
     ·subst E;by_cases hp:p=none
      ·subst hp;rw[C]at h;exact .inr h
      ·rw[O p hp]at h;cases h
     ·by_cases G:(k',p)=(k,some (i,j))
      ·obtain⟨rfl,rfl⟩:=oz G;have:=s1.mem.eE k' i j (by unfold fresh kY;rw[cF (cA o),dk]);rw[this]at h;cases h
      ·rw[e3 k' p E G]at h;exact .inl h
   ·cases d
  ·cases d
 ·cases d
theorem Xc (hm:aU w ω M) {r:Nat} {s s':SV} {u:bf} {x:Value} (hd:Den w ω s x) (b:yY (ae M) r s=some (s',u)):∃aq,bz w ω M w aq (u++M)/\Den w aq s' x/\jd (ae M) u=false/\(∀k' p L,aq.β k' p=some L->ω.β k' p=some L\/∃k∈u.map (·.1),∃p0,ω.β k p0=some L):=by obtain⟨aq,k,st,i,j,e,n,rfl,_,rfl,h1,h2,c,d,g⟩:=Bh hm b;exact⟨aq,h1,h2 _ _ _ hd,c,λk' p L l=>(d k' p L l).imp id λh=>⟨k,g,_,h⟩⟩
/-! ### a slice without elements, and without room -/
def Fo (P:Program) (m:Nat->bw) (nx:Nat) (T:TypeId) (len:Nat) (parts:List (Nat×SV)):Option (Prop×SV×bf):=
 match len,parts,P.underlying T with
 |0,[],some (.slice E)=>match P.info? E with|some _=>some (True,.es,[])|none=>none
 |_,_,_=>BD P m nx T len parts
theorem KW (w:World) (c:Obj):Cw w (w.alloc c):=⟨rfl,rfl,rfl,by simp,λb d=>Below.heap_alloc w c b d⟩
theorem YX {w':World} (h:Cw w w'):iN w ω w' ω (λk=>k∈([]:bf).map (·.1)):=⟨h,λ_ h=>h,rfl,λ_ _ _=>rfl,λk p L b=>by simp at b,rfl⟩
theorem Ke (h:Cx P w ω ρ M a) {o:Oper} {T:TypeId} {len:Nat} {parts:Array (Nat×Operand)} {nx:Nat} {pr:Prop} {s:SV} {u:bf} (ho:o.op= .buildSlice T len parts)
 (b:Fo P (ae M) nx T len (parts.toList.map λp=>(p.1,ρ p.2))=some (pr,s,u)):lQ P w ω M a o s u:=by
 unfold Fo at b;split at b
 ·next E hp g=>
  split at b
  ·next i j=>
   simp only[bF,bJ]at b;obtain⟨_,rfl,rfl⟩:=b;have c:parts= #[]:=by
    have:parts.toList= []:=by simpa using hp
    exact Array.toList_eq_nil_iff.1 this
   subst c;have run:(execOp a.eval o).run P w= .ok (.value (.slice (some ⟨w.heap.size,0,none⟩) 0 0)) (w.alloc (.cells #[] E)):=by
    have hs:(sizeOf E).run P w= .ok i.size w:=by simp[sizeOf,run_typeInfo w j,Result.andThen]
    have d:¬(0*i.size>2^24):=by omega
    simp only[execOp,ho,Instr.buildSlice,Sem.run_bind,run_underlying g,Result.andThen_ok,hs,if_neg d,Sem.run_pure];have e:Array.range 0= #[]:=rfl;simp[e,Instr.fill,newRow,Result.andThen]
   exact⟨_,_,_,ω,run,.inl rfl,bz.more h.mem (KW _ _),⟨_,rfl⟩,YX (KW _ _)⟩
  ·cases b
 ·exact Kf h ho b
def w_:SV->Bool
 | .es=>true
 | .v (.slice none 0 0)=>true
 |_=>false
theorem Uq {s:SV} {u:Value} (h:w_ s=true) (hd:Den w ω s u):∃p,u= .slice p 0 0:=by
 unfold w_ at h;split at h
 ·exact hd
 ·exact⟨none,hd⟩
 ·cases h
def EZ (P:Program) (m:Nat->bw) (nx:Nat) (T:TypeId) (s x:SV):Option (Prop×SV×bf):=
 match P.underlying T,w_ s with
 |some (.slice E),true=>
  match P.info? E with
  |some i=>
   match lK m i.size (intKind P E) x,i.zero,cC m nx,Nat.blt 0 i.size,Nat.blt 0 i.bytes with
   |some (b,g),some z,true,true,true=>
    match Nat.beq z.cells.size i.size with
    |true=>some (b*i.bytes<=140737488355328/\(∀q,((List.range i.size).all λj=>fT (g q j))=true),.aS nx (m nx).rs none 0 b,gu m nx (.row i.size b λq j=>dE (g q j)))
    |false=>none
   |_,_,_,_,_=>none
  |none=>none
 |_,_=>none
theorem JG (h:Cx P w ω ρ M a) {o:Oper} {T:TypeId} {x y:Operand} {nx:Nat} {pr:Prop} {s:SV} {u:bf} (ho:o.op= .call {callee:= .builtin .append,args:= #[x,y],argTypes:= #[T,T]})
 (e:EZ P (ae M) nx T (ρ x) (ρ y)=some (pr,s,u)) (hp:pr):lQ P w ω M a o s u:=by
 have hm:=h.mem;have hx:=h.val x;have hy:=h.val y;unfold EZ at e;split at e
 ·next E hu t=>
  split at e
  ·next i hi=>
   split at e
   ·next d g z Y hz hf O C=>
    have O:0<i.size:=bP O;have C:0<i.bytes:=bP C;split at e
    ·next G=>
     have G:=a_ G;simp only[bF,bJ]at e;obtain⟨rfl,rfl,rfl⟩:=e;obtain⟨hbound,R3⟩:=hp;obtain⟨R,eb⟩:=Uq t hx;have B:=CE hm hy Y;obtain⟨news,n1,n2,n3⟩:=Fp (P:=P) B;obtain⟨qs,cs,es,c1,c2,c3⟩:=B;rw[es]at n2;have run:∀{v:Value} {w':World},(Builtin.append_ #[T,T] o.type #[.slice R 0 0,.slice qs d cs]).run P w= .ok v w'->(execOp a.eval o).run P w= .ok (.value v) w':=by intro v w' I;simp only[execOp,ho,resolve,invoke,builtin,Sem.run_bind,Sem.run_pure,Result.andThen_ok,CF,mA,CG,eb,es,I]
     rcases ja d with S|S
     ·subst S;have J:news= []:=CH (by simpa using n1);have I:=Ez (P:=P) (w:=w) (ty:=o.type) hu hi (b:=R) (gz:=0) (ji:=0) (n:=0) (c:=cs) (q:=qs) (news:= []) (by omega) (by rw[<-J];exact n2 w rfl) (w':=w) (λad _=>by simp[storeCells]) (λ_=>rfl);have l:=kC hm hf;have s1:=bz.dummy hm l i.size 0 (λq j=>dE (g q j));refine⟨_,_,w,ω,run I,.inl rfl,s1,Or.inr ⟨by rw[hm.cur];rfl,R,0,rfl,bc _,gf _,.inl rfl⟩,⟨Cw.refl w,λ_ h=>h,rfl,λ_ _ _=>rfl,λk p L hk hL=>?_,rfl⟩⟩;have hk:k=nx:=by simpa [gu]using hk
      subst hk;rw[l.2.2]at hL;cases hL
     ·have IL:((0+d:Nat):Int)<=9223372036854775807:=by have:d*1<=d*i.bytes:=Nat.mul_le_mul_left _ C;omega
      have I:=Jd (P:=P) (w:=w) (ty:=o.type) hu hi hz (b:=R) (gz:=0) (ji:=0) (n:=d) (c:=cs) (q:=qs) (p7:= []) (by omega) (λw' _=>by
       cases R with
       |none=>simp[Builtin.firstCells]
       |some ad=>simp[Builtin.firstCells,loadCells,loadCellsFrom]) n2 IL (growslice_fits (by omega) (by rw[jY];exact hbound))
      have xG:=grownCap_ge w (0+d) 0 E;have U:=grownCap_le_maxLen w (0+d) 0 E (by unfold maxLen;omega);generalize abn:grownCap w (0+d) 0 E=X at I xG U;generalize V:([]:List Value).toArray++news.toArray++Builtin.zeroCells z.cells (X -(0+d))=c' at I;have R4:c'.size=X*i.size:=by subst V;simp only[Array.size_append,FT,size_zeroCells,G,n1,List.length_nil,jY,<-iD];congr 1;omega
      have K:Cw w w.drew:=⟨rfl,rfl,rfl,bc _,λ_ _=>rfl⟩;have hmd:aU w.drew ω M:=(bz.more hm K).mem;obtain⟨aq,s1,d1,r⟩:=G1 hmd hf (sz:=i.size) (n:=d) (cap:=X) (f:=λq j=>dE (g q j)) (c:=c') (T:=E) (by omega) U (by omega) (by
       intro w' aq W Q1 q hq j hj;obtain⟨xv,x1,x2⟩:=n3 q hq j hj;refine⟨xv,?_,?_⟩
       ·have e1:c'.toList=news++(Builtin.zeroCells z.cells (X -(0+d))).toList:=by subst V;simp
        rw[<-pS,e1,mD (by rw[n1];exact lG hq hj)];exact x1
       ·rw[fC (yd _)];exact sj (x2.ext ((K.ext ω).trans W)))
      refine⟨_,_,_,aq,run I,.inl rfl,(bz.more hm K).trans s1,?_,?_⟩
      ·have e0:(0+d)=d:=jY _;rw[e0];exact d1
      ·refine⟨⟨r.cw.1,r.cw.2.1,r.cw.2.2.1,r.cw.2.2.2.1,r.cw.2.2.2.2⟩,r.A,r.Z,r.β,r.new,r.cur⟩
    ·cases e
   ·cases e
  ·cases e
 ·cases e
/-! ### append to the slice of a cell -/
def qL (m:Nat->bw) (r:Nat) (s x:SV):Prop×SV:=
 match s,x with
 | .aS k st (some (i,j)) _ _,.aS k' b (some (c,d)) e' e=>match Nat.beq k k',Nat.beq j d,Nat.beq st b with|true,true,true=>(c=i,.aS r (m r).rs none e' e)|_,_,_=>(True,x)
 |_,x=>(True,x)
def qo (P:Program) (m:Nat->bw) (nx:Nat) (T:TypeId) (s x:SV):Option (Prop×SV×bf):=
 match w_ s with
 |true=>EZ P m nx T s x
 |false=>
 match yY m (nx+60) s with
 |some y=>match sJ P (ov y.2 m) nx T y.1 (qL m (nx+60) s x).2 with|some z=>some ((qL m (nx+60) s x).1/\z.1,z.2.1,z.2.2++y.2)|none=>none
 |none=>sJ P m nx T s x
theorem TI (h:Cx P w ω ρ M a) {o:Oper} {T:TypeId} {x y:Operand} {nx:Nat} {pr:Prop} {s:SV} {u:bf} (ho:o.op= .call {callee:= .builtin .append,args:= #[x,y],argTypes:= #[T,T]})
 (c:qo P (ae M) nx T (ρ x) (ρ y)=some (pr,s,u)) (hp:pr):oM P w ω M a o s u:=by
 unfold qo at c;split at c
 ·exact(JG h ho c hp).xE
 split at c
 ·next z B=>
  split at c
  ·next v q=>
   simp only[bF,bJ]at c;obtain⟨rfl,rfl,rfl⟩:=c;obtain⟨aq,k,st,i,j,e,n,r,S,e3,h1,h2,U,_⟩:=Bh h.mem B;have A:=h.val x;rw[r]at A;have d:Den w aq (qL (ae M) (nx+60) (ρ x) (ρ y)).2 (a.eval y):=by
    have d:=h.val y;have b:=hp.1
    revert b d
    rw[r];generalize ρ y=t;unfold qL;split
    ·next k1 C V W _ _ k' E G X e' Y heq=>
     split
     ·next b1 b2 I=>
      obtain⟨rfl,rfl,l,rfl,rfl⟩:=SV.aS.inj heq;obtain⟨rfl,rfl⟩:=oz (aV l);obtain rfl:=a_ b1;obtain rfl:=a_ b2;obtain rfl:=a_ I;intro d b;have b:G=i:=b;subst b;exact h2 _ _ _ d
     ·intro d _;exact Den.ext h1.ext d
    ·intro d _;exact Den.ext h1.ext d
   rw[lH]at q;have p:Den w aq z.1 (a.eval x):=by rw[e3];exact h2 _ _ _ A
   obtain⟨nn,J,w',g,K,g2,O,R⟩:=A2 (P:=P) (a:=a) (tx:=λ_=>z.1) (ty:=λ_=>(qL (ae M) (nx+60) (ρ x) (ρ y)).2) h1.mem p d ho q hp.2;exact⟨nn,J,w',g,K,g2,by rw[mC];exact h1.trans O,R⟩
  ·cases c
 ·exact Ur h ho c hp
def nC (m:Nat->bw) (u:bf):Bool:=u.all λp=>Nat.beq p.2.rs (m p.1).rs
theorem Tk (h:Cx P w ω ρ M a) {o:Oper} {T:TypeId} {x y:Operand} {nx:Nat} {pr:Prop} {s:SV} {u:bf} (ho:o.op= .call {callee:= .builtin .append,args:= #[x,y],argTypes:= #[T,T]})
 (b:qo P (ae M) nx T (ρ x) (ρ y)=some (pr,s,u)) (hp:pr) (h1:nC (ae M) u=true) (h2:jd (ae M) u=true):lQ P w ω M a o s u:=by
 have kill:∀{M':Nat->bw} {T:TypeId} {sx c:SV} {pr:Prop} {s:SV} {u:bf},sJ P M' nx T sx c=some (pr,s,u)->nC M' u=false:=by
  intro M' T sx c pr s u b;unfold sJ at b;split at b
  ·split at b
   ·split at b
    ·split at b
     ·next k _ _=>
      simp only[bF,bJ]at b;obtain⟨_,_,rfl⟩:=b;unfold nC;rw[y'];have:(lL M' k).all (λp=>Nat.beq p.2.rs (M' p.1).rs)=false:=by
       simp only[lL,wK,List.all_nil,CD];cases e:Nat.beq ((M' k).rs+1) (M' k).rs with
       |false=>rfl
       |true=>have:=a_ e;omega
      rw[this,qI]
     ·cases b
    ·cases b
   ·cases b
  ·cases b
 unfold qo at b;split at b
 ·exact JG h ho b hp
 split at b
 ·next z g=>
  split at b
  ·next v i=>
   simp only[bF,bJ]at b;obtain⟨_,_,rfl⟩:=b;obtain⟨_,_,_,_,_,_,_,_,_,_,_,_,d,_⟩:=Bh h.mem g;unfold jd at h2 d;rw[y',d,qI]at h2;cases h2
  ·cases b
 ·rw[kill b]at h1;cases h1
/-! ### is a slice nil? -/
def zb (m:Nat->bw):SV->Option Nat
 | .es=>some 0
 | .sl _ _ n _=>some n
 | .aS k st p _ n=>match cG m k st p with|true=>some n|false=>none
 |_=>none
def GV (P:Program) (op:BinOp) (T:TypeId) (s t:SV) (m:Nat->bw):Option (Nat×Bool):=
 match P.underlying T,op,t with
 |some (.slice _),.eql,.v (.slice none 0 0)=>match zb m s with|some n=>some (n,false)|none=>none
 |some (.slice _),.neq,.v (.slice none 0 0)=>match zb m s with|some n=>some (n,true)|none=>none
 |_,_,_=>none
theorem Us (hm:aU w ω M) {s:SV} {u:Value} {n:Nat} (hd:Den w ω s u) (h:zb (ae M) s=some n):∃q c,u= .slice q n c/\(q=none->n=0):=by
 unfold zb at h;split at h
 ·obtain rfl:=aV h;obtain⟨p,rfl⟩:=hd;exact⟨p,0,rfl,λ_=>rfl⟩
 ·obtain rfl:=aV h;obtain⟨p,c,rfl,_,_,b⟩:=hd;refine⟨p,c,rfl,λe=>?_⟩;rcases b with b|⟨a,d,_⟩
  ·exact b
  ·rw[e]at d;cases d
 ·split at h
  ·next g=>
   obtain rfl:=aV h;have e0:=iZ hm g;rcases hd with hd|⟨_,q,cap,rfl,h1,h2,b⟩
   ·omega
   refine⟨q,cap,rfl,λe=>?_⟩;rcases b with b|⟨L,_,d,_⟩
   ·omega
   ·rw[e]at d;cases d
  ·cases h
 ·cases h
theorem JH (op:BinOp) (T:TypeId) (x y:Operand) (q:Option Addr) (n c:Nat) (v:Value) (w:World):(eqGuard op T x y (.slice q n c) v).run P w= .ok () w:=by unfold eqGuard;cases op<;>simp
def zT (n b:Bool):Bool:=match n with|true=>!b|false=>b
theorem W_ (h:Cx P w ω ρ M a) {o:Oper} {op:BinOp} {T t:TypeId} {x y:Operand} (ho:o.op= .binOp op T x y t) {n:Nat} {neg:Bool} (g:GV P op T (ρ x) (ρ y) (ae M)=some (n,neg)):
 ∃b:Bool,(b=true->n=0)/\(execOp a.eval o).run P w= .ok (.value (.bool (zT neg b))) w:=by
 have u:=h.val x;have r:=h.val y;have key:∀{E:TypeId} {n:Nat},P.underlying T=some (.slice E)->ρ y= .v (.slice none 0 0)->zb (ae M) (ρ x)=some n->∃b:Bool,(b=true->n=0)/\a.eval y= .slice none 0 0/\∃q c,a.eval x= .slice q n c/\∀w,(Op.equal T (.slice q n c) (.slice none 0 0)).run P w= .ok b w:=by
  intro E n j i hl;obtain⟨q,c,z,A⟩:=Us h.mem u hl;rw[i]at r;have k:∀(d:Nat) (w:World),(Op.equalIn (d+1) T (.slice q n c) (.slice none 0 0)).run P w= .ok q.isNone w:=by intro d w;cases q<;>simp[Op.equalIn,run_underlying j]
  exact⟨q.isNone,λe=>A (by simpa using e),r,q,c,z,λw=>by simp[Op.equal,Op.maxDepth,k 9999]⟩
 unfold GV at g;split at g
 ·next E j i=>
  split at g
  ·next B hl=>
   simp only[bF,bJ]at g;obtain⟨rfl,rfl⟩:=g;obtain⟨b,l,p,q,c,ex,k⟩:=key j i hl;exact⟨b,l,kP ho ex p (λw=>JH _ _ _ _ _ _ _ _ w) (λw=>by rw[(wz (by simp)).1];simp[k,zT])⟩
  ·cases g
 ·next E j i=>
  split at g
  ·next B hl=>
   simp only[bF,bJ]at g;obtain⟨rfl,rfl⟩:=g;obtain⟨b,l,p,q,c,ex,k⟩:=key j i hl;exact⟨b,l,kP ho ex p (λw=>JH _ _ _ _ _ _ _ _ w) (λw=>by rw[(wz (by simp)).2];simp[k,zT])⟩
  ·cases g
 ·cases g
end
end Go.Sy
