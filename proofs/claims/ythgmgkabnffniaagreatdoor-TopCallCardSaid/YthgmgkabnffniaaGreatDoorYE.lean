/-
  Sy, part 15: frames; regions in the text's order.
-/
import Derived.Test.YthgmgkabnffniaaGreatDoorYD
import Derived.Orders
set_option linter.unusedVariables false
set_option linter.unusedSimpArgs false
namespace Go.Sy
open Go.RowKit
/-! ### frames -/
abbrev Fr:=List (Nat×SV)
def look:Fr->Nat->SV
 | [],_=> .aI
 |p::r,t=>match Nat.beq p.1 t with|true=>p.2|false=>look r t
theorem look_eq {d:Nat} {s:SV} {F:Fr}:look ((d,s)::F) d=s:=by simp[look]
theorem pz {d t:Nat} {s:SV} {F:Fr} (h:d≠t):look ((d,s)::F) t=look F t:=by
 have:Nat.beq d t=false:=by
  cases b:Nat.beq d t
  ·rfl
  ·exact absurd (a_ b) h
 simp only[look,this]
structure dV (w:World) (o:Ow) (N:Nat) (F:Fr) (t:Array Value):Prop where
 size:t.size=N
 den:∀(i:Nat) u,t[i]? =some u->Den w o (look F i) u
 out:∀(i:Nat),N<=i->look F i= .aI
theorem dV.ext {w w':World} {o o':Ow} {N:Nat} {F:Fr} {t:Array Value} (h:dV w o N F t) (b:Ext w o w' o'):dV w' o' N F t:=
 ⟨h.size,λi u c=>(h.den i u c).ext b,h.out⟩
theorem dV.get {w:World} {o:Ow} {N:Nat} {F:Fr} {t:Array Value} (h:dV w o N F t) (i:Nat):Den w o (look F i) (t.getD i undef):=by
 rw[ka];cases b:t[i]? with
 |none=>rw[h.out i (by rw[<-h.size];exact Array.getElem?_eq_none_iff.1 b)];trivial
 |some u=>exact h.den i u b
def gy (N:Nat) (F:Fr) (d:Option Nat) (s:SV):Fr:=
 match d with
 |some d=>match Nat.blt d N with|true=>(d,s)::F|false=>F
 |none=>F
theorem dV.put {w:World} {o:Ow} {N:Nat} {F:Fr} {t:Array Value} (h:dV w o N F t) {d:Nat} {s:SV} {v:Value} (hd:Den w o s v):dV w o N (gy N F (some d) s) (t.setIfInBounds d v):=by
 cases b:Nat.blt d N with
 |true=>
  have e:gy N F (some d) s=(d,s)::F:=by simp only[gy,b]
  rw[e];have b:d<N:=bP b;refine⟨by simpa using h.size,λi u g=>?_,λi l=>?_⟩
  ·by_cases c:d=i
   ·subst c;rw[look_eq];rw[wY (by rw[h.size];exact b)]at g;obtain rfl:=aV g;exact hd
   ·rw[pz c];rw[pU c]at g;exact h.den i u g
  ·rw[pz (by omega)];exact h.out i l
 |false=>
  have j:N<=d:=by
   rcases bR d N with k|k
   ·exact absurd (iC k) (by unfold Nat.blt at b;rw[b];simp)
   ·exact k
  have e:t.setIfInBounds d v=t:=by rw[Array.setIfInBounds_eq_of_size_le (by rw[h.size];exact j)]
  have n:gy N F (some d) s=F:=by simp only[gy,b]
  rw[e,n];exact h
theorem dV.tell {w:World} {o:Ow} {N:Nat} {F:Fr} {t:Array Value} (h:dV w o N F t) {d:Nat} {s:SV} (e:d<N) (hs:∀u,t[d]? =some u->Den w o s u):dV w o N ((d,s)::F) t:=by
 refine⟨h.size,λi u c=>?_,λi g=>?_⟩
 ·by_cases b:d=i
  ·subst b;rw[look_eq];exact hs u c
  ·rw[pz b];exact h.den i u c
 ·rw[pz (by omega)];exact h.out i g
def c_ (Gl:Nat->SV) (F:Fr):Operand->SV
 | .tmp t=>look F t
 | .const (.bool b)=> .bl b
 | .const v=> .v v
 | .global g=>Gl g
 | .func f=> .fn f 0 (λ_=> .aI)
structure St (P:Program) (Gl:Nat->SV) (N:Nat) (F:Fr) (M:Mem) (a:Act) (w:World) (ω:Ow):Prop where
 frame:dV w ω N F a.tmps
 eo:∀g,Den w ω.bare (Gl g) (.pointer (some ⟨g,0,none⟩))
 mem:aU w ω M
 defers:a.defers= []
theorem Act.put_defers (a:Act) (d:Option Tmp) (v:Value):(a.put d v).defers=a.defers:=by cases d<;>rfl
def dF (S:List Nat) (a b:Act):Prop:=b.tmps.size=a.tmps.size/\∀i,i∉S->b.tmps[i]? =a.tmps[i]?
theorem dF.refl (S:List Nat) (a:Act):dF S a a:=⟨rfl,λ_ _=>rfl⟩
theorem dF.trans {S:List Nat} {a b c:Act} (h:dF S a b) (k:dF S b c):dF S a c:=⟨k.1.trans h.1,λi d=>(k.2 i d).trans (h.2 i d)⟩
theorem dF.put {S:List Nat} {a b:Act} (h:dF S a b) {d:Option Tmp} (hd:∀t,d=some t->t∈S) (v:Value):dF S a (b.put d v):=by
 cases d with
 |none=>exact h
 |some t=>refine⟨by simpa [Act.put]using h.1,λi c=>?_⟩;have:t≠i:=λe=>c (e▸hd t rfl);simp only[Act.put,pU this];exact h.2 i c
theorem dF.mono {S c:List Nat} {a b:Act} (h:dF S a b) (hs:∀i∈S,i∈c):dF c a b:=⟨h.1,λi d=>h.2 i (λe=>d (hs i e))⟩
section
variable {P:Program} {w:World} {ω:Ow} {Gl:Nat->SV} {Γ:Table} {N:Nat} {F:Fr} {M:Mem} {a:Act}
theorem dV.c_ (h:dV w ω N F a.tmps) (b:∀g,Den w ω.bare (Gl g) (.pointer (some ⟨g,0,none⟩))) (x:Operand):Den w ω (Sy.c_ Gl F x) (a.eval x):=by
 cases x with
 |tmp t=>exact h.get t
 |const v=>cases v<;>exact rfl
 |global g=>exact(b g).up
 |func f=>exact⟨#[],rfl,rfl,λj c=>absurd c (by omega)⟩
theorem St.cx (h:St P Gl N F M a w ω):Cx P w ω (c_ Gl F) M a:=⟨h.frame.c_ h.eo,h.mem⟩
theorem St.step (h:St P Gl N F M a w ω) {w':World} {aq:Ow} {M':Mem} (hs:bz w ω M w' aq M'):St P Gl N F M' a w' aq:=
 ⟨h.frame.ext hs.ext,λg=>Den.ext (o:=ω.bare) hs.ext.bare (h.eo g),hs.mem,h.defers⟩
theorem St.put (h:St P Gl N F M a w ω) {d:Option Tmp} {s:SV} {v:Value} (hd:Den w ω s v):St P Gl N (gy N F d s) M (a.put d v) w ω where
 frame:=by
  cases d with
  |none=>exact h.frame
  |some d=>exact h.frame.put hd
 eo:=h.eo
 mem:=h.mem
 defers:=by rw[Act.put_defers];exact h.defers
theorem St.tell (h:St P Gl N F M a w ω) {d:Nat} {s:SV} (b:d<N) (hs:∀u,a.tmps[d]? =some u->Den w ω s u):St P Gl N ((d,s)::F) M a w ω:=
 {h with frame:=h.frame.tell b hs}
theorem St.aI (h:St P Gl N F M a w ω) {t:Nat} (b:t<N) (v:Value):St P Gl N ((t,.aI)::F) M (a.put (some t) v) w ω:=by
 have:=h.put (d:=some t) (s:= .aI) (v:=v) trivial;have e:gy N F (some t) .aI=(t,.aI)::F:=by have:Nat.blt t N=true:=iC b;simp only[gy,this]
 rwa [e]at this
end
/-! ### one operation -/
inductive R2 where
 |bad
 |ok (s:SV)
 |dL (p:Prop) (s:SV)
 |kj (p:Prop) (s:SV)
 |mem (p:Prop) (s:SV) (u:bf)
 |any (n:Nat) (neg:Bool)
def R.up:R->R2
 | .bad=> .bad
 | .ok s=> .ok s
 | .dL p s=> .dL p s
 | .kj p s=> .kj p s
def mQ:Option (Prop×SV×bf)->R2
 |some (p,s,u)=> .mem p s u
 |none=> .bad
def R2.run (r:R2) (K:SV->bf->Prop):Prop:=
 match r with
 | .bad=>False
 | .ok s=>K s []
 | .dL p s=>p/\K s []
 | .kj p s=>p->K s []
 | .mem p s u=>p/\K s u
 | .any n neg=>∀b:Bool,(b=true->n=0)->K (.v (.bool (zT neg b))) []
def GU (P:Program) (sg:Bool) (ρ:Operand->SV) (m:Nat->bw) (op:BinOp) (T b:TypeId) (x y:Operand):R2:=
 match GV P op T (ρ x) (ρ y) m with
 |some q=> .any q.1 q.2
 |none=>(tZ P sg ρ m (.binOp op T x y b)).up
def Ah (P:Program) (sg:Bool) (Γ:Table) (ρ:Operand->SV) (m:Nat->bw) (nx:Nat) (op:Op):R2:=
 match op with
 | .box _ x=>mQ (HG m nx (ρ x))
 | .alloc T=>mQ (FZ P m nx T)
 | .store T x y=>mQ (F1 P m nx T (ρ x) (ρ y))
 | .makeSlice T x y=>mQ (GW P m nx T (ρ x) (ρ y))
 | .buildSlice T len parts=>mQ (yw P m nx T len (parts.toList.map λp=>(p.1,ρ p.2)))
 | .call {callee:= .builtin .append,args:=⟨[x,y]⟩,argTypes:=⟨[T,b]⟩}=>match Nat.beq T b with|true=>mQ (qo P m nx T (ρ x) (ρ y))|false=> .bad
 | .call {callee:= .builtin .copy,args:=⟨[x,y]⟩,argTypes:=⟨[T,b]⟩}=>match Nat.beq T b with|true=>mQ (GX P m T (ρ x) (ρ y))|false=> .bad
 | .call {callee:= .builtin .clear,args:=⟨[x]⟩,argTypes:=⟨[T]⟩}=>mQ (F3 P m T (ρ x))
 | .call {callee:= .value f,args:=args,argTypes:=_}=>mQ (CB Γ ρ m nx f args.toList)
 | .call {callee:= .invoke r name,args:=args,argTypes:=_}=>mQ (BB P Γ ρ m nx r name args.toList)
 | .pick c x y=>(yX (ρ c) (ρ x) (ρ y)).up
 | .binOp op T x y b=>GU P sg ρ m op T b x y
 |op=>(tZ P sg ρ m op).up
section
variable {P:Program} {w:World} {ω:Ow} {ρ:Operand->SV} {Gl:Nat->SV} {Γ:Table} {M:Mem} {a:Act}
inductive oS (P:Program) (w:World) (ω:Ow) (M:Mem) (a:Act) (o:Oper) (s:SV):bf->Prop where
 |pure (v:Value) (h:(execOp a.eval o).run P w= .ok (.value v) w) (hd:Den w ω s v):oS P w ω M a o s []
 |mem {u:bf} (h:oM P w ω M a o s u):oS P w ω M a o s u
 |call {u:bf} (h:zz P w ω M a o s u):oS P w ω M a o s u
theorem oS.wp {o:Oper} {s:SV} {u:bf} (hm:aU w ω M) (h:oS P w ω M a o s u) {next:Act->World->Prop} {Q:Exit->Act->World->Prop}
 (b:∀v w' aq,bz w ω M w' aq (u++M)->Den w' aq s v->next (a.put o.dst v) w'):o.wp P a w next Q:=by
 unfold Oper.wp;cases h with
 |pure v h hd=>rw[h];exact b v w ω (bz.refl hm) hd
 |mem h=>
  obtain⟨n,v,w',aq,h1,h2,c,d⟩:=h;rw[h1];rcases h2 with rfl|⟨rfl,rfl⟩
  ·exact b v w' aq c d
  ·exact b _ w' aq c d
 |call h=>obtain⟨id,vs,h1,h2⟩:=h;rw[h1];unfold s8 at h2;refine h2.mono ?_;rintro e w' ⟨v,aq,rfl,c,d,_⟩;exact b v w' aq c d
theorem HH {o:Oper} {r:R} {K:SV->bf->Prop} (h:∀{b:SV->Prop},r.run b->fj P w ω a o b) (c:r.up.run K):∃s u,oS P w ω M a o s u/\K s u:=by
 have:r.run (λs=>K s []):=by cases r<;>exact c
 obtain⟨s,v,h1,h2,d⟩:=h this;exact⟨s,[],.pure v h1 h2,d⟩
theorem oD {o:Oper} {x:Option (Prop×SV×bf)} {K:SV->bf->Prop} (h:∀{p s u},x=some (p,s,u)->p->oS P w ω M a o s u) (b:(mQ x).run K):∃s u,oS P w ω M a o s u/\K s u:=by
 cases x with
 |none=>exact b.elim
 |some x=>exact⟨_,_,h rfl b.1,b.2⟩
theorem Mz (h:Cx P w ω ρ M a) {sg:Bool} {o:Oper} {op:BinOp} {T d:TypeId} {x y:Operand} {K:SV->bf->Prop} (ho:o.op= .binOp op T x y d) (c:(GU P sg ρ (ae M) op T d x y).run K):∃s v,(execOp a.eval o).run P w= .ok (.value v) w/\Den w ω s v/\K s []:=by
 unfold GU at c;split at c
 ·next q g=>
  obtain⟨b,h1,h2⟩:=W_ h ho (n:=q.1) (neg:=q.2) g;exact⟨.v (.bool (zT q.2 b)),_,h2,rfl,c b h1⟩
 ·have e:(tZ P sg ρ (ae M) o.op).run (λs=>K s []):=by rw[ho];revert c;cases tZ P sg ρ (ae M) (.binOp op T x y d)<;>exact id
  exact s9 h e
theorem YT (i:Sound P Gl Γ) (j:∀g,Den w ω.bare (Gl g) (.pointer (some ⟨g,0,none⟩))) (h:Cx P w ω ρ M a) {sg:Bool} {nx:Nat} {o:Oper} {K:SV->bf->Prop} (b:(Ah P sg Γ ρ (ae M) nx o.op).run K):
 ∃s u,oS P w ω M a o s u/\K s u:=by
 unfold Ah at b;split at b
 ·next T x ho=>exact oD (λe hp=> .mem (Oy h ho e).xE) b
 ·next T ho=>exact oD (λe hp=> .mem (KM h ho e).xE) b
 ·next T x y ho=>exact oD (λe hp=> .mem (Vl h ho e hp)) b
 ·next T x y ho=>exact oD (λe hp=> .mem (My h ho e hp).xE) b
 ·next T len parts ho=>exact oD (λe hp=> .mem (Un h ho e hp)) b
 ·next x y T k ho=>
  split at b
  ·next d=>
   obtain rfl:=a_ d;exact oD (λe hp=> .mem (TI h ho e hp)) b
  ·exact b.elim
 ·next x y T k ho=>
  split at b
  ·next d=>
   obtain rfl:=a_ d;exact oD (λe hp=> .mem (Xa h ho e hp)) b
  ·exact b.elim
 ·next x T ho=>exact oD (λe hp=> .mem (Vm h ho e hp)) b
 ·next f args l ho=>exact oD (λe hp=> .call (FX i j h ho e hp)) b
 ·next r name args l ho=>exact oD (λe hp=> .call (EW i j h ho e hp)) b
 ·next c x y ho=>exact HH (λb=>yH h ho b) b
 ·next op T x y k ho=>
  obtain⟨s,v,h1,h2,n⟩:=Mz h ho b;exact⟨s,[],.pure v h1 h2,n⟩
 ·exact HH (λb=>s9 h b) b
end
/-! ### guards that are not decided -/
structure Hd where
 slot:Nat
 d:Nat
 want:Bool
 s:SV
def SA:Bool->Bool->Bool
 |true,true|false,false=>true
 |_,_=>false
def zA:List Hd->Nat->Option Hd
 | [],_=>none
 |h::r,t=>match Nat.beq h.slot t with|true=>some h|false=>zA r t
def fc (H:List Hd):Nat->Nat->Bool->List (Nat×Bool)
 |0,d,want=> [(d,want)]
 |n+1,d,want=>(d,want)::match zA H d with|some h=>fc H n h.d h.want|none=> []
def H' (As:List (Nat×Bool)) (d:Nat) (want:Bool):Bool:=As.any λp=>Nat.beq p.1 d&&SA p.2 want
def im (As:List (Nat×Bool)) (F:Fr):List Hd->Fr
 | []=>F
 |h::r=>match H' As h.d h.want with|true=>(h.slot,h.s)::im As F r|false=>im As F r
def hyps (F:Fr):List (Nat×Bool)->Prop->Prop
 | [],p=>p
 |(d,want)::r,p=>match look F d with| .v (.bool b)=>b=want->hyps F r p|_=>hyps F r p
def qU (H:List Hd) (d:Option Nat):Bool:=
 match d with
 |none=>true
 |some d=>H.all λh=>!Nat.beq h.d d&&!Nat.beq h.slot d
inductive Gd where
 |yes|no|bad
 |ask (d:Nat) (want:Bool)
def guardOf (N:Nat) (ops:List Oper) (F:Fr) (H:List Hd) (o:Oper):Gd:=
 match o.guard with
 |none=> .yes
 |some (j,want)=>
  match ops[j]? with
  |some oj=>
   match oj.dst with
   |some d=>
    match Nat.blt d N,zA H d,look F d with
    |true,some _,_=> .ask d want
    |true,none,.bl b=>match b,want with|true,true=> .yes|false,false=> .yes|_,_=> .no
    |true,none,.v (.bool _)=> .ask d want
    |true,none,.v (.tuple _)=> .no
    |_,_,_=> .bad
   |none=> .bad
  |none=> .bad
def FY (Gl:Nat->SV) (H:List Hd) (As:List (Nat×Bool)) (F:Fr) (c x y:Operand):R:=
 match c with
 | .tmp d=>
   match look (im As F H) d with
   | .v (.bool b)=>
     match mR (c_ Gl (im (fc H H.length d true++As) F H) x),mR (c_ Gl (im (fc H H.length d false++As) F H) y)with
     |some p,some q=> .ok (.v (.bool (bif b then p else q)))
     |_,_=> .bad
   |s=>yX s (c_ Gl (im As F H) x) (c_ Gl (im As F H) y)
 |_=> .bad
def lO (P:Program) (sg:Bool) (Gl:Nat->SV) (Γ:Table) (F:Fr) (M:Mem) (nx:Nat) (H:List Hd) (As:List (Nat×Bool)) (op:Op):R2:=
 match op with
 | .pick c x y=>(FY Gl H As F c x y).up
 |op=>Ah P sg Γ (c_ Gl (im As F H)) (ae M) nx op
def SB (nx:Nat) (u:bf):Nat:=match u with| []=>nx|_::_=>nx+64
def YU:bp->Bool
 | .row _ _ _=>true
 |_=>false
def oJ (m:Nat->bw):bf->Bool
 | []=>true
 |p::r=>oJ m r&&cC (ov r m) p.1&&Nat.beq p.2.rs (ov r m p.1).rs&&Nat.beq p.2.ds (ov r m p.1).ds&&(match p.2.hl with|none=>true|some _=>false)&&YU p.2.b
theorem A8 {w:World} {ω:Ow} {M:Mem} (hm:aU w ω M):∀{u:bf},oJ (ae M) u=true->bz w ω M w ω (u++M)
 | [],_=>bz.refl hm
 |(k,⟨rs,ds,hl,b⟩)::r,h=>by
  simp only[oJ,aW]at h;obtain⟨⟨⟨⟨⟨h1,h2⟩,d⟩,e⟩,i⟩,g⟩:=h;have c:=A8 hm h1;rw[lH]at h2 d e;cases b with
  |row sz n f=>
   cases hl with
   |some _=>cases i
   |none=>obtain rfl:=a_ d;obtain rfl:=a_ e;exact c.trans (bz.dummy c.mem (kC c.mem h2) sz n f)
  |dead=>cases g
  |cells l=>cases g
def xz:List Nat->Fr->(Fr->Prop)->Prop
 |_,[],k=>k []
 |seen,p::r,k=>match cR seen p.1 with|true=>xz seen r k|false=>fy p.1 λq=>xF p.2 λs=>xz (q::seen) r λr=>k ((q,s)::r)
theorem Bu:∀(F:Fr) (seen:List Nat) (k:Fr->Prop),xz seen F k->∃d,k d/\∀q,cR seen q=false->look d q=look F q
 | [],_,k,h=>⟨[],h,λ_ _=>rfl⟩
 |p::r,seen,k,h=>by
  unfold xz at h;split at h
  ·next hs=>
   obtain⟨M',h1,h2⟩:=Bu r seen k h;refine⟨M',h1,λq c=>?_⟩;rw[h2 q c];have b:Nat.beq p.1 q=false:=by
    cases b:Nat.beq p.1 q with
    |false=>rfl
    |true=>have e:=a_ b;rw[e,c]at hs;cases hs
   simp only[look,b]
  ·next hs=>
   rw[j4,CC]at h;obtain⟨M',h1,h2⟩:=Bu r _ _ h;refine⟨_,h1,λq c=>?_⟩;cases b:Nat.beq p.1 q with
   |true=>simp only[look,b]
   |false=>simp only[look,b];refine h2 q ?_;simp only[cR,b];exact c
def zR:List Hd->(List Hd->Prop)->Prop
 | [],k=>k []
 |h::r,k=>match h with|⟨a,b,c,s⟩=>fy a λa=>fy b λb=>xF s λs=>zR r λr=>k (⟨a,b,c,s⟩::r)
theorem FW:∀(l:List Hd) (k:List Hd->Prop),zR l k=k l
 | [],_=>rfl
 |⟨a,b,c,s⟩::r,k=>by simp only[zR,j4,CC,FW r]
def tE (F:Fr) (M:Mem) (nx:Nat) (H:List Hd) (K:Fr->Mem->Nat->List Hd->Prop):Prop:=xz [] F λF=>xl [] M λM=>fy nx λnx=>zR H λH=>K F M nx H
theorem vU {F:Fr} {M:Mem} {nx:Nat} {H:List Hd} {K:Fr->Mem->Nat->List Hd->Prop} (h:tE F M nx H K):∃b M',(∀t,look b t=look F t)/\(∀k,ae M' k=ae M k)/\K b M' nx H:=by obtain⟨b,h1,h2⟩:=Bu _ _ _ h;obtain⟨M',c,d⟩:=Bd _ _ _ h1;rw[j4,FW]at c;exact⟨b,M',λt=>h2 t rfl,λk=>d k rfl,c⟩
def kW (P:Program) (sg:Bool) (Gl:Nat->SV) (Γ:Table) (N:Nat) (ops:List Oper) (K:Fr->Mem->Nat->Prop):List Oper->Fr->Mem->Nat->List Hd->Prop
 | [],F,M,nx,_=>K F M nx
 |o::r,F,M,nx,H=>
  match qU H o.dst,guardOf N ops F H o with
  |true,.yes=>match lO P sg Gl Γ F M nx H [] o.op with| .ok s=>kW P sg Gl Γ N ops K r (gy N F o.dst s) M nx H|x=>x.run λs u=>tE (gy N F o.dst s) (u++M) (SB nx u) H λF M nx H=>kW P sg Gl Γ N ops K r F M nx H
  |true,.no=>kW P sg Gl Γ N ops K r (gy N F o.dst (.v undef)) M nx H
  |true,.ask d want=>
   match o.dst,lO P sg Gl Γ F M nx H (fc H H.length d want) o.op with
   |some t,.ok s=>match Nat.blt t N&&!Nat.beq d t with|true=>kW P sg Gl Γ N ops K r ((t,.aI)::F) M nx (⟨t,d,want,s⟩::H)|false=>False
   |some t,.kj _ s=>match Nat.blt t N&&!Nat.beq d t with|true=>kW P sg Gl Γ N ops K r ((t,.aI)::F) M nx (⟨t,d,want,s⟩::H)|false=>False
   |some t,.dL p s=>match Nat.blt t N&&!Nat.beq d t with|true=>hyps (im (fc H H.length d want) F H) (fc H H.length d want) p/\tE ((t,.aI)::F) M nx (⟨t,d,want,s⟩::H) λF M nx H=>kW P sg Gl Γ N ops K r F M nx H|false=>False
   |some t,.mem p s u=>match Nat.blt t N&&!Nat.beq d t,oJ (ae M) u with|true,true=>hyps (im (fc H H.length d want) F H) (fc H H.length d want) p/\tE ((t,.aI)::F) (u++M) (SB nx u) (⟨t,d,want,s⟩::H) λF M nx H=>kW P sg Gl Γ N ops K r F M nx H|_,_=>False
   |_,_=>False
  |_,_=>False
section
variable {P:Program} {w:World} {ω:Ow} {Gl:Nat->SV} {Γ:Table} {N:Nat} {F:Fr} {M:Mem} {a:Act} {H:List Hd}
structure ac_ (w:World) (ω:Ow) (N:Nat) (a:Act) (h:Hd):Prop where
 lt:h.slot<N
 yes:a.tmps[h.d]? =some (.bool h.want)->∀u,a.tmps[h.slot]? =some u->Den w ω h.s u
 no:a.tmps[h.d]? ≠some (.bool h.want)->a.tmps[h.slot]? =some undef
def gO (w:World) (ω:Ow) (N:Nat) (a:Act) (H:List Hd):Prop:=∀h∈H,ac_ w ω N a h
def mJ (a:Act) (As:List (Nat×Bool)):Prop:=∀p∈As,a.tmps[p.1]? =some (.bool p.2)
theorem JF:∀{H:List Hd} {t:Nat} {h:Hd},zA H t=some h->h∈H/\h.slot=t
 | [],_,_,e=>by cases e
 |x::r,t,h,e=>by
  unfold zA at e;split at e
  ·next b=>
   obtain rfl:=aV e;exact⟨by simp,a_ b⟩
  ·obtain⟨h1,h2⟩:=JF e;exact⟨by simp[h1],h2⟩
theorem nG (c:gO w ω N a H):∀(n d:Nat) (want:Bool),a.tmps[d]? =some (.bool want)->mJ a (fc H n d want)
 |0,d,want,h=>λp hp=>by simp[fc]at hp;subst hp;exact h
 |n+1,d,want,h=>λp hp=>by
  simp only[fc,eG]at hp;rcases hp with rfl|hp
  ·exact h
  ·split at hp
   ·next b g=>
    obtain⟨h1,h2⟩:=JF g;refine nG c n b.d b.want ?_ p hp;rcases ta (a.tmps[b.d]? =some (.bool b.want))with e|e
    ·exact e
    ·have:=(c b h1).no e;rw[h2,h]at this;cases this
   ·cases hp
theorem YV {a b:Bool} (h:SA a b=true):a=b:=by cases a<;>cases b<;>first|rfl|cases h
theorem Xb {As:List (Nat×Bool)} (b:mJ a As) {d:Nat} {want:Bool} (h:H' As d want=true):a.tmps[d]? =some (.bool want):=by unfold H' at h;rw[GJ]at h;obtain⟨p,hp,e⟩:=h;rw[aW]at e;have:=b p hp;rw[a_ e.1,YV e.2]at this;exact this
theorem ny (c:dV w ω N F a.tmps) {As:List (Nat×Bool)} (d:mJ a As):∀(H:List Hd),gO w ω N a H->dV w ω N (im As F H) a.tmps
 | [],_=>c
 |h::r,b=>by
  have e:=ny c d r λg i=>b g (by simp[i]);unfold im;split
  ·next j=>exact e.tell (b h (by simp)).lt ((b h (by simp)).yes (Xb d j))
  ·exact e
theorem yI (c:dV w ω N F a.tmps) {p:Prop}:∀(As:List (Nat×Bool)),mJ a As->hyps F As p->p
 | [],_,h=>h
 |q::r,d,h=>by
  have e:=yI c (p:=p) r λx g=>d x (by simp[g]);unfold hyps at h;split at h
  ·next b i=>
   have h1:=d q (by simp);have h2:=c.den _ _ h1;rw[i]at h2;have j:(q.2:Bool)=b:=by cases h2;rfl
   exact e (h j.symm)
  ·exact e h
theorem J8 (b:dV w ω N F a.tmps) {d:Nat} {s:SV} (h:look F d=s) (hs:s≠ .aI):∃u,a.tmps[d]? =some u/\Den w ω s u:=by
 rcases bR d a.tmps.size with hd|hd
 ·exact⟨a.tmps[d],by simp[hd],by rw[<-h];exact b.den d _ (by simp[hd])⟩
 ·exact absurd (h.symm.trans (b.out d (by rw[<-b.size];exact hd))) hs
theorem mJ.append {As b:List (Nat×Bool)} (h:mJ a As) (k:mJ a b):mJ a (As++b):=λp hp=>(List.mem_append.1 hp).elim (h p) (k p)
inductive zU (ops:Array Oper) (a:Act) (o:Oper):Gd->Prop where
 |yes (h:Region.wanted o (yielded ops a.tmps)=true):zU ops a o .yes
 |no (h:Region.wanted o (yielded ops a.tmps)=false):zU ops a o .no
 |ask (d:Nat) (want:Bool) (h:Region.wanted o (yielded ops a.tmps)=true↔a.tmps[d]? =some (.bool want)):zU ops a o (.ask d want)
 |bad:zU ops a o .bad
theorem Fi {ops:Array Oper} (q:dV w ω N F a.tmps) (H:List Hd) (o:Oper):zU ops a o (guardOf N ops.toList F H o):=by
 have get:∀(d:Nat),d<N->∃x,a.tmps[d]? =some x/\Den w ω (look F d) x:=by
  intro d hd;have:d<a.tmps.size:=by rw[q.size];exact hd
  exact⟨a.tmps[d],by simp[this],q.den d _ (by simp[this])⟩
 have wanted:∀{j:Nat} {want:Bool} {oj:Oper} {d:Nat},o.guard=some (j,want)->ops.toList[j]? =some oj->oj.dst=some d->
  (Region.wanted o (yielded ops a.tmps)=true↔a.tmps[d]? =some (.bool want)):=by
  intro j want oj d i k hd;have n:ops[j]? =some oj:=by simpa using k
  simp only[Region.wanted,i,yielded,n,Option.bind_some,hd];cases r:a.tmps[d]? with
  |none=>simp
  |some x=>cases x<;>simp
 have c:∀{d:Nat} {want:Bool},(Region.wanted o (yielded ops a.tmps)=true↔a.tmps[d]? =some (.bool want))->∀{x:Value},a.tmps[d]? =some x->x≠ .bool want->Region.wanted o (yielded ops a.tmps)=false:=by
  intro d want h x r p;cases e:Region.wanted o (yielded ops a.tmps)with
  |false=>rfl
  |true=>exact absurd (aV (r.symm.trans (h.1 e))) p
 unfold guardOf;split
 ·next i=>exact .yes (by simp[Region.wanted,i])
 ·next j want i=>
  split
  ·next oj k=>
   split
   ·next d hd=>
    have e:=wanted i k hd;split
    ·exact .ask d want e
    ·next b g _ hs=>
     obtain⟨x,h1,h2⟩:=get d (bP g);rw[hs]at h2;obtain rfl:=h2;split
     ·exact .yes (e.2 h1)
     ·exact .yes (e.2 h1)
     ·next t g2=>
      refine .no (c e h1 ?_);cases b<;>cases want<;>first|(exact absurd rfl (t rfl))|(exact absurd rfl (g2 rfl))|simp
    ·exact .ask d want e
    ·next l g _ hs=>
     obtain⟨x,h1,h2⟩:=get d (bP g);rw[hs]at h2;obtain rfl:=h2;exact .no (c e h1 (by simp))
    ·exact .bad
   ·exact .bad
  ·exact .bad
theorem Vn {t:Nat} (h:qU H (some t)=true):∀x∈H,x.d≠t/\x.slot≠t:=by
 intro x b;simp only[qU,cY]at h;have:=h x b;simp only[aW,dT]at this;refine⟨λe=>?_,λe=>?_⟩
 ·have h1:=this.1;rw[e,cy]at h1;cases h1
 ·have h1:=this.2;rw[e,cy]at h1;cases h1
theorem gO.put (b:gO w ω N a H) {d:Option Tmp} (i:qU H d=true) (v:Value):gO w ω N (a.put d v) H:=by
 cases d with
 |none=>exact b
 |some t=>
  intro x c;obtain⟨h1,h2⟩:=Vn i x c;have e:(a.put (some t) v).tmps[x.d]? =a.tmps[x.d]? :=by simp only[Act.put,pU (cA h1)]
  have g:(a.put (some t) v).tmps[x.slot]? =a.tmps[x.slot]? :=by simp only[Act.put,pU (cA h2)]
  exact⟨(b x c).lt,λh=>by rw[g];exact(b x c).yes (by rw[<-e];exact h),λh=>by rw[g];exact(b x c).no (by rw[<-e];exact h)⟩
theorem gO.ext (b:gO w ω N a H) {w':World} {aq:Ow} (d:Ext w ω w' aq):gO w' aq N a H:=
 λx c=>⟨(b x c).lt,λh u e=>((b x c).yes h u e).ext d,(b x c).no⟩
theorem gO.cons (j:gO w ω N a H) {t d:Nat} {want:Bool} {s:SV} (k:qU H (some t)=true) (l:a.tmps.size=N) (c:t<N) (hd:d≠t) {v:Value}
 (h1:a.tmps[d]? =some (.bool want)->Den w ω s v) (h2:a.tmps[d]? ≠some (.bool want)->v=undef):gO w ω N (a.put (some t) v) (⟨t,d,want,s⟩::H):=by
 intro x b;rcases eG.1 b with rfl|b
 ·have e:(a.put (some t) v).tmps[d]? =a.tmps[d]? :=by simp only[Act.put,pU (cA hd)]
  have g:(a.put (some t) v).tmps[t]? =some v:=by simp only[Act.put];rw[wY (by rw[l];exact c)]
  refine⟨c,λh u i=>?_,λh=>?_⟩
  ·simp only[e]at h;simp only[g]at i;obtain rfl:=aV i;exact h1 h
  ·simp only[e]at h;show(a.put (some t) v).tmps[t]? =_;rw[g,h2 h]
 ·exact j.put k v x b
theorem Uo:Den w ω (.v undef) undef:=rfl
theorem F6 (n:Sound P Gl Γ) (h:St P Gl N F M a w ω) (k:gO w ω N a H) {sg:Bool} {nx:Nat} {As:List (Nat×Bool)} (i:mJ a As) {o:Oper} {K:SV->bf->Prop} (e:(lO P sg Gl Γ F M nx H As o.op).run K):
 ∃s u,oS P w ω M a o s u/\K s u:=by
 have g:∀{As},mJ a As->Cx P w ω (c_ Gl (im As F H)) M a:=λi=>⟨(ny h.frame i H k).c_ h.eo,h.mem⟩;unfold lO at e;split at e
 ·next c x y ho=>
  refine HH ?_ e;clear e;intro A e;unfold FY at e;split at e
  ·next d=>
   split at e
   ·next b q=>
    split at e
    ·next p r hp t=>
     obtain⟨u,l,hd⟩:=J8 (ny h.frame i H k) q (by simp);obtain rfl:=hd;have ec:a.eval (.tmp d)= .bool b:=by simp only[Act.eval,ka,l];rfl
     refine⟨.v (.bool (bif b then p else r)),.bool (bif b then p else r),?_,rfl,e⟩;cases b with
     |true=>have j:=(nG k H.length d true l).append i;have ex:=kO hp ((g j).val x);simp[execOp,ho,ec,asBool,ex]
     |false=>have j:=(nG k H.length d false l).append i;have z:=kO t ((g j).val y);simp[execOp,ho,ec,asBool,z]
    ·exact e.elim
   ·exact yH (g i) ho e
  ·exact e.elim
 ·exact YT n h.eo (g i) e
def zQ (P:Program) (Gl:Nat->SV) (N:Nat) (S:List Nat) (a0:Act) (w1:World) (bZ:Ow) (K:Fr->Mem->Nat->Prop) (a:Act) (w:World):Prop:=
 ∃ω F M nx,St P Gl N F M a w ω/\Ext w1 bZ w ω/\dF S a0 a/\K F M nx
theorem St.congr (h:St P Gl N F M a w ω) {b:Fr} {M':Mem} (c:∀t,look b t=look F t) (d:∀k,ae M' k=ae M k):St P Gl N b M' a w ω:=
 ⟨⟨h.frame.size,λi u e=>by rw[c];exact h.frame.den i u e,λi g=>by rw[c];exact h.frame.out i g⟩,h.eo,h.mem.congr d,h.defers⟩
theorem px (J:Sound P Gl Γ) {sg:Bool} {ops:Array Oper} {Q:Exit->Act->World->Prop} {K:Fr->Mem->Nat->Prop} {S:List Nat} {a0:Act} {w1:World} {bZ:Ow}
 (Z:∀a w,zQ P Gl N S a0 w1 bZ K a w->Q .normal a w):
 ∀(r:List Oper) (F:Fr) (M:Mem) (nx:Nat) (H:List Hd) (a:Act) (w:World) (ω:Ow),(∀o∈r,∀t,o.dst=some t->t∈S)->St P Gl N F M a w ω->gO w ω N a H->Ext w1 bZ w ω->dF S a0 a->
  kW P sg Gl Γ N ops.toList K r F M nx H->wpList P ops Q r a w
 | [],F,M,nx,H,a,w,ω,_,h,_,U,V,g=>Z a w ⟨ω,F,M,nx,h,U,V,g⟩
 |o::r,F,M,nx,H,a,w,ω,hd,h,x,U,V,g=>by
  have A:∀t,o.dst=some t->t∈S:=hd o (by simp);have B:∀o∈r,∀t,o.dst=some t->t∈S:=λo ho=>hd o (by simp[ho]);have y:=Fi (ops:=ops) h.frame H o;unfold kW at g;split at g
  ·next b C=>
   rw[C]at y;cases y with
   |yes hw=>
    unfold wpList;rw[if_pos hw];refine .inl ?_;split at g
    ·next s0 heq=>
     obtain⟨s,u,E,rfl,rfl⟩:=F6 J h x (As:= []) (K:=λs u=>s=s0/\u= []) (λp hp=>by cases hp) (by rw[heq];exact⟨rfl,rfl⟩);refine E.wp h.mem ?_;intro v w' aq i l;exact px J Z r _ _ _ H _ w' aq B ((h.step i).put l) ((x.ext i.ext).put b v) (U.trans i.ext) (V.put A v) g
    ·obtain⟨s,u,E,k⟩:=F6 J h x (λp hp=>by cases hp) g;refine E.wp h.mem ?_;intro v w' aq i l;obtain⟨O,M',R,T,z⟩:=vU k;exact px J Z r _ _ _ H _ w' aq B (((h.step i).put l).congr R T) ((x.ext i.ext).put b v) (U.trans i.ext) (V.put A v) z
  ·next b C=>
   rw[C]at y;cases y with
   |no hw=>unfold wpList;rw[if_neg (by rw[hw];exact nE)];exact px J Z r _ M _ H _ w ω B (h.put Uo) (x.put b undef) U (V.put A undef) g
  ·next d want b C=>
   rw[C]at y;cases y with
   |ask _ _ hw=>
    have key:∃t s u dA O M',o.dst=some t/\t<N/\d≠t/\oJ (ae M) u=true/\(a.tmps[d]? =some (.bool want)->(lO P sg Gl Γ F M nx H (fc H H.length d want) o.op).run (λs' u'=>s'=s/\u'=u))/\
     (∀q,look O q=look ((t,.aI)::F) q)/\(∀q,ae M' q=ae (u++M) q)/\kW P sg Gl Γ N ops.toList K r O M' dA (⟨t,d,want,s⟩::H):=by
     have n:∀{t:Nat},(Nat.blt t N&&!Nat.beq d t)=true->t<N/\d≠t:=by intro t I;rw[aW,dT]at I;exact⟨bP I.1,λe=>by rw[e,cy]at I;cases I.2⟩
     split at g
     ·next t s c W=>
      split at g
      ·next z=>exact⟨t,s,[],nx,_,_,c,(n z).1,(n z).2,rfl,λ_=>by rw[W];exact⟨rfl,rfl⟩,λ_=>rfl,λ_=>rfl,g⟩
      ·exact g.elim
     ·next t p s c W=>
      split at g
      ·next z=>exact⟨t,s,[],nx,_,_,c,(n z).1,(n z).2,rfl,λ_=>by rw[W];exactλ_=>⟨rfl,rfl⟩,λ_=>rfl,λ_=>rfl,g⟩
      ·exact g.elim
     ·next t p s c W=>
      split at g
      ·next z=>
       obtain⟨O,M',R,T,X⟩:=vU g.2;refine⟨t,s,[],nx,O,M',c,(n z).1,(n z).2,rfl,λj=>?_,R,T,X⟩;rw[W];have hA:=nG x H.length d want j;exact⟨yI (ny h.frame hA H x) _ hA g.1,rfl,rfl⟩
      ·exact g.elim
     ·next t p s u c W=>
      split at g
      ·next z hu=>
       obtain⟨O,M',R,T,X⟩:=vU g.2;refine⟨t,s,u,_,O,M',c,(n z).1,(n z).2,hu,λj=>?_,R,T,X⟩;rw[W];have hA:=nG x H.length d want j;exact⟨yI (ny h.frame hA H x) _ hA g.1,rfl,rfl⟩
      ·exact g.elim
     ·exact g.elim
    obtain⟨t,s,u,dA,O,M',c,I,SC,hu,ac',R,T,k⟩:=key;rw[c]at b;by_cases j:a.tmps[d]? =some (.bool want)
    ·unfold wpList;rw[if_pos (hw.2 j)];obtain⟨s',u',E,rfl,rfl⟩:=F6 J h x (nG x H.length d want j) (ac' j);refine .inl (E.wp h.mem ?_);intro v w' aq hs l;have i:=(h.step hs).aI I v;have Y:=(x.ext hs.ext).cons (t:=t) (d:=d) (want:=want) (s:=s') b h.frame.size I SC (v:=v) (λ_=>l) (λhn=>absurd j hn);have G:=V.put A v;rw[c]at G⊢;exact px J Z r _ _ _ _ _ w' aq B (i.congr R T) Y (U.trans hs.ext) G k
    ·have II:Region.wanted o (yielded ops a.tmps)=false:=by
      cases hx:Region.wanted o (yielded ops a.tmps)with
      |false=>rfl
      |true=>exact absurd (hw.1 hx) j
     unfold wpList;rw[if_neg (by rw[II];exact nE)];have i:=(h.step (A8 h.mem hu)).aI I undef;have Y:=x.cons (t:=t) (d:=d) (want:=want) (s:=s) b h.frame.size I SC (v:=undef) (λhn=>absurd hn j) (λ_=>rfl);have G:=V.put A undef;rw[c]at G⊢;exact px J Z r _ _ _ _ _ w ω B (i.congr R T) Y U G k
  ·exact g.elim
end
end Go.Sy
namespace Go.Sy
open Go.RowKit
def fQ (m:Nat->bw) (κ:List Nat):Nat->Nat->Path->Option (Nat×Nat):=λk s p=>
 match p with
 |none=>mK m κ k s none
 |some _=>none
def lR:Nat->(Nat->Prop)->Prop
 |0,_=>True
 |n+1,p=>lR n p/\p n
theorem kM:∀{n:Nat} {p:Nat->Prop},lR n p->∀j,j<n->p j
 |0,_,_,_,h=>absurd h (by omega)
 |n+1,p,⟨h1,h2⟩,j,h=>by
  rcases bR j n with b|b
  ·exact kM h1 j b
  ·obtain rfl:j=n:=by omega
   exact h2
def Ai (x y:Value):Prop:=
 match x,y with
 | .int k a,.int k' b=>match s_ k k' with|true=>a=b|false=>False
 | .string a,.string b=>a=b
 | .bool a,.bool b=>a=b
 |x,y=>x=y
theorem GS {x y:Value} (h:Ai x y):x=y:=by
 unfold Ai at h;split at h
 ·split at h
  ·next b=>rw[yk b,h]
  ·exact h.elim
 ·rw[h]
 ·rw[h]
 ·exact h
def HF:Path->Path->Bool
 |none,none=>true
 |some (i,j),some (b,c)=>Nat.beq i b&&Nat.beq j c
 |_,_=>false
theorem Vj {p q:Path} (h:HF p q=true):p=q:=by
 cases p with
 |none=>cases q<;>first|rfl|cases h
 |some x=>
  cases q with
  |none=>cases h
  |some y=>simp only[HF,aW]at h;rw[Prod.ext (a_ h.1) (a_ h.2)]
def qB:Bool->Bool->Bool
 |true,false=>false
 |_,_=>true
def IK (t tf:Nat) (e z:Int):SV->Prop
 | .v .nilIface=>e=0/\z= -1
 | .v (.iface d (.int .i64 c))=>match Nat.beq d t with|true=>c≠0/\e=c/\z= -1|false=>False
 | .er d g e' i=>match Nat.beq d t,Nat.beq g tf with|true,true=>e'=e/\i=z|_,_=>False
 | .ic d (.pt false n f)=>
   match Nat.beq d tf,Nat.ble 2 n,f 0,f 1 with
   |true,true,.v (.int .i64 a),.v (.iface h (.int .i64 c))=>(match Nat.beq h t with|true=>c≠0/\0<=a/\e=c/\z=a|false=>False)
   |true,true,.v (.int .i64 a),.er h _ c b=>(match Nat.beq h t with|true=>c≠0/\b= -1/\0<=a/\e=c/\z=a|false=>False)
   |_,_,_,_=>False
 |_=>False
theorem lB {w:World} {o:Ow} {t tf:Nat} {e z:Int} {a:SV} {u:Value} (h:IK t tf e z a) (hd:Den w o a u):Den w o (.er t tf e z) u:=by
 unfold IK at h;split at h
 ·exact .inl ⟨h.1,h.2,hd⟩
 ·split at h
  ·next c=>obtain rfl:=a_ c;exact .inr (.inl ⟨by rw[h.2.1];exact h.1,h.2.2,by rw[h.2.1];exact hd⟩)
  ·exact h.elim
 ·split at h
  ·next h1 h2=>rw[<-a_ h1,<-a_ h2,<-h.1,<-h.2];exact hd
  ·exact h.elim
 ·split at h
  ·next c d h0 h1=>
   split at h
   ·next b=>
    obtain rfl:=a_ c;obtain rfl:=a_ b;have d:=bP d;obtain⟨k,l,rfl,rfl⟩:=h;obtain⟨x,rfl,q,rfl,i⟩:=hd;obtain⟨n,c0,j,d0⟩:=i 0 (by omega);obtain⟨p,c1,_,d1⟩:=i 1 (by omega);rw[h0]at d0;rw[h1]at d1;obtain rfl:=d0;obtain rfl:=d1;exact .inr (.inr ⟨k,l,q,rfl,j.1,j.2 rfl,c0,c1⟩)
   ·exact h.elim
  ·next c d h0 h1=>
   split at h
   ·next b=>
    obtain rfl:=a_ c;obtain rfl:=a_ b;have d:=bP d;obtain⟨k,r,l,rfl,rfl⟩:=h;obtain⟨x,rfl,q,rfl,i⟩:=hd;obtain⟨n,c0,j,d0⟩:=i 0 (by omega);obtain⟨p,c1,_,d1⟩:=i 1 (by omega);rw[h0]at d0;rw[h1]at d1;obtain rfl:=d0;rcases d1 with⟨g,_⟩|⟨_,_,rfl⟩|⟨_,g,_⟩
    ·exact absurd g k
    ·exact .inr (.inr ⟨k,l,q,rfl,j.1,j.2 rfl,c0,c1⟩)
    ·omega
   ·exact h.elim
  ·exact h.elim
 ·exact h.elim
def fb (a b:SV):Prop:=
 match b with
 | .aI=>True
 | .er t tf e z=>IK t tf e z a
 |b=>
  match a with
  | .v x=>(match b with| .v y=>Ai x y| .bl y=>Ai x (.bool y)| .sl _ _ n _=>(match x with| .slice none 0 0=>n=0|_=>False)|_=>False)
  | .bl x=>(match b with| .v y=>Ai (.bool x) y| .bl y=>x=y|_=>False)
  | .aS k s p e n=>(match b with| .aS k' s' p' e' c=>(match Nat.beq k k',Nat.beq s s',HF p p' with|true,true,true=>e=e'/\n=c|_,_,_=>False)|_=>False)
  | .ag n f=>(match b with| .ag c d=>(match Nat.beq n c with|true=>lR c λj=>fb (f j) (d j)|false=>False)|_=>False)
  | .tp n f=>(match b with| .tp c d=>(match Nat.beq n c with|true=>lR c λj=>fb (f j) (d j)|false=>False)|_=>False)
  | .pt q n f=>(match b with| .pt l c d=>(match Nat.ble c n,qB q l with|true,true=>lR c λj=>fb (f j) (d j)|_,_=>False)|_=>False)
  | .ic t s=>(match b with| .ic o s'=>(match Nat.beq t o with|true=>fb s s'|false=>False)|_=>False)
  | .sl q sz n f=>(match b with| .sl l g c d=>(match Nat.beq sz g,qB q l with|true,true=>n=c/\∀i,i<c->lR g λj=>fb (f i j) (d i j)|_,_=>False)|_=>False)
  | .fn id n f=>(match b with| .fn h c d=>(match Nat.beq id h,Nat.beq n c with|true,true=>lR c λj=>fb (f j) (d j)|_,_=>False)|_=>False)
  | .bm id s=>(match b with| .bm h s'=>(match Nat.beq id h with|true=>fb s s'|false=>False)|_=>False)
  | .pa q sz n f=>(match b with| .pa l g c d=>(match Nat.beq sz g,qB q l with|true,true=>n=c/\∀i,i<c->lR g λj=>fb (f i j) (d i j)|_,_=>False)|_=>False)
  | .es=>(match b with| .es=>True| .sl _ _ n _=>n=0|_=>False)
  |a=>a=b
theorem sO {w:World} {a:SV}:∀{b:SV} {o:Ow} {u:Value},fb a b->Den w o a u->Den w o b u:=by
 induction a with
 |v x=>
  intro b o u h hd;cases b<;>first|trivial|exact lB h hd|exact h.elim|skip
  ·obtain rfl:=GS h;exact hd
  ·have:=GS h;subst this;exact hd
  ·next q sz n f=>
   simp only[fb]at h;split at h
   ·subst h;have hd:u= .slice none 0 0:=hd;subst hd;exact⟨none,0,rfl,bc _,gf _,.inl rfl⟩
   ·exact h.elim
 |bl x=>
  intro b o u h hd;cases b<;>first|trivial|exact lB h hd|exact h.elim|skip
  ·obtain rfl:=GS h;exact hd
  ·have h:_=_:=h;subst h;exact hd
 |es=>
  intro b o u h hd;obtain⟨p,rfl⟩:=hd;cases b<;>first|trivial|exact lB h ⟨p,rfl⟩|exact h.elim|skip
  ·have h:_=0:=h;subst h;exact⟨p,0,rfl,bc _,gf _,.inl rfl⟩
  ·exact⟨p,rfl⟩
 |aS k s p e n=>
  intro b o u h hd;cases b<;>first|trivial|exact lB h hd|exact h.elim|skip
  simp only[fb]at h;split at h
  ·next h1 h2 T=>rw[<-a_ h1,<-a_ h2,<-Vj T,<-h.1,<-h.2];exact hd
  ·exact h.elim
 |pt q n f d=>
  intro b o u h hd;cases b<;>first|trivial|exact lB h hd|exact h.elim|skip
  next y R S=>
  simp only[fb]at h;split at h
  ·next h1 h2=>
   have h1:=bP h1;obtain⟨a,rfl,g⟩:=hd;refine⟨a,rfl,λj c=>?_⟩;obtain⟨x,z,r,l⟩:=g j (by omega);have A:y=false->q=false:=λe=>by subst e;cases q<;>first|rfl|cases h2
   exact⟨x,z,⟨r.1,λe=>r.2 (A e)⟩,d j (kM h j c) l⟩
  ·exact h.elim
 |ag n f d=>
  intro b o u h hd;cases b<;>first|trivial|exact lB h hd|exact h.elim|skip
  simp only[fb]at h;split at h
  ·next h1=>
   obtain rfl:=a_ h1;obtain⟨B,rfl,hs,g⟩:=hd;exact⟨B,rfl,hs,λj c=>let⟨x,C,E⟩:=g j c;⟨x,C,d j (kM h j c) E⟩⟩
  ·exact h.elim
 |tp n f d=>
  intro b o u h hd;cases b<;>first|trivial|exact lB h hd|exact h.elim|skip
  simp only[fb]at h;split at h
  ·next h1=>
   obtain rfl:=a_ h1;obtain⟨B,rfl,hs,g⟩:=hd;exact⟨B,rfl,hs,λj c=>let⟨x,C,E⟩:=g j c;⟨x,C,d j (kM h j c) E⟩⟩
  ·exact h.elim
 |fn id n f d=>
  intro b o u h hd;cases b<;>first|trivial|exact lB h hd|exact h.elim|skip
  simp only[fb]at h;split at h
  ·next h0 h1=>
   obtain rfl:=a_ h0;obtain rfl:=a_ h1;obtain⟨B,rfl,hs,g⟩:=hd;exact⟨B,rfl,hs,λj c=>let⟨x,C,E⟩:=g j c;⟨x,C,d j (kM h j c) E⟩⟩
  ·exact h.elim
 |bm id s d=>
  intro b o u h hd;cases b<;>first|trivial|exact lB h hd|exact h.elim|skip
  simp only[fb]at h;split at h
  ·next h1=>
   obtain rfl:=a_ h1;obtain⟨x,rfl,l⟩:=hd;exact⟨x,rfl,d h l⟩
  ·exact h.elim
 |pa q sz n f d=>
  intro b o u h hd;cases b<;>first|trivial|exact lB h hd|exact h.elim|skip
  next y J R S=>
  simp only[fb]at h;split at h
  ·next h1 h2=>
   obtain rfl:=a_ h1;obtain⟨rfl,h⟩:=h;obtain⟨a,rfl,K⟩:=hd;refine⟨a,rfl,λi G j c=>?_⟩;obtain⟨x,z,r,l⟩:=K i G j c;have A:y=false->q=false:=λe=>by subst e;cases q<;>first|rfl|cases h2
   exact⟨x,z,⟨r.1,λe=>r.2 (A e)⟩,d i j (kM (h i G) j c) l⟩
  ·exact h.elim
 |ic t s d=>
  intro b o u h hd;cases b<;>first|trivial|exact lB h hd|exact h.elim|skip
  simp only[fb]at h;split at h
  ·next h1=>
   obtain rfl:=a_ h1;obtain⟨x,rfl,l⟩:=hd;exact⟨x,rfl,d h l⟩
  ·exact h.elim
 |sl q sz n f d=>
  intro b o u h hd;cases b<;>first|trivial|exact lB h hd|exact h.elim|skip
  next y J R S=>
  simp only[fb]at h;split at h
  ·next h1 h2=>
   obtain rfl:=a_ h1;obtain⟨rfl,h⟩:=h;obtain⟨p,cap,rfl,I,O,g⟩:=hd;refine⟨p,cap,rfl,I,O,g.imp id ?_⟩;rintro ⟨a,e,K⟩;refine⟨a,e,λi G j c=>?_⟩;obtain⟨x,z,r,l⟩:=K i G j c;have A:y=false->q=false:=λe=>by subst e;cases q<;>first|rfl|cases h2
   exact⟨x,z,⟨r.1,λe=>r.2 (A e)⟩,d i j (kM (h i G) j c) l⟩
  ·exact h.elim
 |_=>intro b o u h hd;cases b<;>first|trivial|exact lB h hd|(have h:_=_:=h;cases h;exact hd)|(have h:_=_:=h;cases h)
theorem YS {a b:SV} (h:fb a b) (c:cZ b=true):a=b:=by
 cases b with
 |il sz n f=>cases a<;>first|exact h.elim|exact h
 |_=>cases c
def xD:SV->SV->Prop
 | .il sz n f,.il c d e=>match Nat.beq sz c with|true=>n=d/\∀a,a<d->lR c λb=>fb (f a b) (e a b)|false=>False
 | .il _ _ _,_=>False
 |a,b=>fb a b
def Aj:bp->bp->Prop
 | .cells l,.cells l'=>match Nat.beq l.length l'.length with|true=>lR l'.length λj=>xD (aN l j) (aN l' j)|false=>False
 | .row sz n f,.row b c d=>match Nat.beq sz b with|true=>n=c/\∀i,i<c->lR b λj=>xD (f i j) (d i j)|false=>False
 |_,_=>False
def mO:List bp->List bp->Prop
 | [],[]=>True
 |a::r,b::t=>Aj a b/\mO r t
 |_,_=>False
theorem BW:∀{l l':List bp},mO l l'->l.length=l'.length
 | [],[],_=>rfl
 |_::_,_::_,⟨_,h⟩=>by simp[BW h]
 | [],_::_,h=>h.elim
 |_::_,[],h=>h.elim
theorem BX:∀{l l':List bp},mO l l'->∀{q:Nat} {a b:bp},l[q]? =some a->l'[q]? =some b->Aj a b
 | [],_,_,_,_,_,h,_=>by simp at h
 |_::_,_::_,⟨h1,_⟩,0,a,b,c,d=>by simp at c d;subst c;subst d;exact h1
 |_::_,_::_,⟨_,h2⟩,q+1,a,b,c,d=>BX h2 (by simpa using c) (by simpa using d)
 |_::_,[],h,_,_,_,_,_=>h.elim
def oL:bp->Nat->Nat->Bool
 | .row sz n _,i,j=>Nat.blt i n&&Nat.blt j sz
 |_,_,_=>true
def eH (ω:Ow) (κ:List Nat) (B:List bp):Ow:=
 let β:Nat->Path->Option Loc:=λq p=>
  match κ[q]? with
  |some k=>(match p with|none=>ω.β k none|some b=>match oL (B.getD q .dead) b.1 b.2 with|true=>ω.β k (some b)|false=>none)
  |none=>none
 ⟨ω.A,ω.Z,β,λ_=>(0,0)⟩
section
variable {P:Program} {w:World} {ω:Ow} {M:Mem}
theorem wH {κ:List Nat} {B:List bp} {q:Nat} {p:Path} {L:Loc} (h:(eH ω κ B).β q p=some L):∃k,κ[q]? =some k/\ω.β k p=some L/\∀i j,p=some (i,j)->oL (B.getD q .dead) i j=true:=by
 simp only[eH]at h;split at h
 ·next k b=>
  cases p with
  |none=>exact⟨k,b,h,λ_ _ e=>by cases e⟩
  |some d=>
   simp only at h;split at h
   ·next c=>exact⟨k,b,h,λi j e=>by obtain rfl:=aV e;exact c⟩
   ·cases h
 ·cases h
theorem Bb {κ:List Nat} {B:List bp} {q k:Nat} (b:κ[q]? =some k):(eH ω κ B).β q none=ω.β k none:=by
 show(match κ[q]? with
  |some k=>_
  |none=>none)=_
 rw[b]
theorem ET {κ:List Nat} {B:List bp} {q k i j:Nat} (b:κ[q]? =some k) (c:oL (B.getD q .dead) i j=true):(eH ω κ B).β q (some (i,j))=ω.β k (some (i,j)):=by
 show(match κ[q]? with
  |some k=>(match oL (B.getD q .dead) i j with|true=>ω.β k (some (i,j))|false=>none)
  |none=>none)=_
 rw[b];simp only[c]
theorem Vk (hm:aU w ω M) (κ:List Nat) (B:List bp):qX ω (eH ω κ B) (fQ (ae M) κ):=by
 intro k s p k' s' h;unfold fQ at h;split at h
 ·unfold mK at h;split at h
  ·next q c=>
   split at h
   ·next b=>
    simp only[bF,bJ]at h;obtain⟨rfl,rfl⟩:=h;exact⟨iZ hm b,rfl,Bb (lA c)⟩
   ·cases h
  ·cases h
 ·cases h
theorem yf (κ:List Nat) (B:List bp):Ext w ω.bare w (eH ω κ B).bare:=
 ⟨rfl,rfl,rfl,λ_ _ _=>rfl,λ_ _ h=>h,λ_ _ _ h=>h,bc _,λ_=>⟨bc _,bc _⟩,λ_ _ _ h=>(by cases h),λ_ h=>h⟩
theorem W9 (κ:List Nat) (B:List bp):zS false w ω (eH ω κ B):=λ_ _ _ _ h1 h2=>⟨h1,h2⟩
theorem yp (hm:aU w ω M) (κ:List Nat) (B:List bp) {s:SV} {x:Value} (h:Den w ω s x):Den w (eH ω κ B) (dv (fQ (ae M) κ) false s) x:=
 BA (Vk hm κ B) (λ_=>yf κ B) (W9 κ B) h
theorem Oz {sz n:Nat} {f:Nat->Nat->SV} {b:SV} (h:xD (.il sz n f) b):∃c,b= .il sz n c/\∀i,i<n->∀j,j<sz->fb (f i j) (c i j):=by
 cases b with
 |il d k c=>
  simp only[xD]at h;split at h
  ·next hs=>
   obtain rfl:=a_ hs;obtain⟨rfl,h⟩:=h;exact⟨c,rfl,λi e j g=>kM (h i e) j g⟩
  ·exact h.elim
 |_=>exact h.elim
theorem KP {k i j:Nat} {a b:SV} {x:Value} (h:xD a b) (d:cO w ω none k i j a x):cO w ω none k i j b x:=by
 cases c:cZ a with
 |true=>
  cases a with
  |il sz n f=>obtain⟨l,rfl,_⟩:=Oz h;exact d
  |_=>cases c
 |false=>
  have g:fb a b:=by cases a<;>first|exact h|cases c
  rw[fC c]at d;cases e:cZ b with
  |true=>rw[YS g e,e]at c;cases c
  |false=>rw[fC e];exact sO g d
theorem Mr (hm:aU w ω M) {κ:List Nat} {B:List bp} (K:κ.Nodup) (hw:∀k∈κ,whole (ae M k)=true)
 (O:mO (κ.map λk=>iH (fQ (ae M) κ) false (ae M k).b) B):aU w (eH ω κ B) (dh 0 B):=by
 have n4:∀{q k:Nat},κ[q]? =some k->∃b,B[q]? =some b/\B.getD q .dead=b/\Aj (iH (fQ (ae M) κ) false (ae M k).b) b:=by intro q k R;have hl:=BW O;rw[nH]at hl;have S:=(ik.1 R).1;have u:B[q]? =some B[q]:=eO (by omega);refine⟨B[q],u,by rw[cD,u];rfl,BX O (a:=iH (fQ (ae M) κ) false (ae M k).b) (by rw[eX,R];rfl) u⟩
 have E:∀{s:SV} {x:Value},Den w ω s x->Den w (eH ω κ B) (dv (fQ (ae M) κ) false s) x:=λh=>yp hm κ B h;refine⟨(Bg _).symm,?_,hm.ez,hm.dj,hm.fS,?_,?_,?_,?_,?_⟩
 ·rintro b ⟨q,p,L,h,rfl⟩;obtain⟨k,_,h2,_⟩:=wH h;exact hm.own _ ⟨k,p,L,h2,rfl⟩
 ·intro q p L q' p' L' h1 h2 e;obtain⟨k,G,W,_⟩:=wH h1;obtain⟨k',e3,e4,_⟩:=wH h2;obtain⟨rfl,rfl⟩:=hm.inj _ _ _ _ _ _ W e4 e;have:=(yu K G).symm.trans (yu K e3);exact⟨aV this,rfl⟩
 ·intro q p L h;obtain⟨k,_,h2,_⟩:=wH h;exact hm.low _ _ _ h2
 ·intro q p L h;obtain⟨k,G,W,e3⟩:=wH h;obtain⟨b,u,I,o⟩:=n4 G;have X:=KR (hw k (fw G));obtain⟨r,v,g2,g3,c,T,g4,g5,g6,g7⟩:=hm.row _ _ _ W;rw[X]at g7;have he:ae (dh 0 B) q=⟨0,0,none,b⟩:=by rw[kI,u]
  rw[I]at e3;unfold rowAt at v⊢;rw[he];have fin:∀{r':Row},fD b p=some r'->r'.sz=r.sz->r'.n=r.n->(∀i,i<r.n->∀j,j<r.sz->∀x,gJ w ω none k p i j (r.f i j) x->gJ w (eH ω κ B) none q p i j (r'.f i j) x)->
   ∃r',fD b p=some r'/\r'.sz=L.sz/\r'.n=L.dg/\nN w (eH ω κ B) none q p L r':=by
   intro r' f1 f2 f3 f4;refine⟨r',f1,f2.trans g2,f3.trans g3,c,T,g4,g5,g6,λi C j y=>?_⟩;obtain⟨x,x1,x2⟩:=g7 i C j y;exact⟨x,x1,f4 i (by rw[g3];exact C) j (by rw[g2];exact y) x x2⟩
  cases t:(ae M k).b with
  |dead=>exact absurd t (MA (hw k (fw G)))
  |cells l=>
   rw[t]at o v;cases p with
   |some ij=>cases v
   |none=>
    obtain rfl:=aV v;cases b with
    |dead=>exact o.elim
    |row _ _ _=>exact o.elim
    |cells l'=>
     simp only[iH,Aj,nH]at o;split at o
     ·next hlen=>
      have hlen:=a_ hlen;refine fin (r':=⟨l'.length,1,λ_ j=>aN l' j⟩) rfl hlen.symm rfl ?_;intro i C j y x z;have y:j<l.length:=y;have C:i<1:=C;have Y:i=0:=by omega
      subst Y;have z:cO w ω none k 0 j (aN l j) x:=z;have S:=kM o j (by omega);have Z:aN (l.map λs=>dv (fQ (ae M) κ) false s) j=dv (fQ (ae M) κ) false (aN l j):=by simp[aN,cD,y]
      rw[Z]at S;show cO w (eH ω κ B) none q 0 j (aN l' j) x;exact KP S (A9 E (ET G (by rw[I];rfl)) z)
     ·exact o.elim
  |row sz n f=>
   rw[t]at o v;cases b with
   |dead=>exact o.elim
   |cells _=>exact o.elim
   |row sz' n' U=>
    simp only[iH,Aj]at o;split at o
    ·next hsz=>
     obtain rfl:=a_ hsz;obtain⟨rfl,o⟩:=o;cases p with
     |none=>
      obtain rfl:=aV v;refine fin (r':=⟨sz,n,U⟩) rfl rfl rfl ?_;intro i C j y x z;have V:=kM (o i C) j y;have A:oL (B.getD q .dead) i j=true:=by rw[I];simp only[oL,aW];exact⟨iC C,iC y⟩
      have z:cO w ω none k i j (f i j) x:=z;have hx':=A9 (d:=false) E (ET (B:=B) G A) z;show cO w (eH ω κ B) none q i j (U i j) x;exact KP V hx'
     |some ij=>
      obtain⟨i,j⟩:=ij;have A:=e3 i j rfl;simp only[oL,aW]at A;have C:i<n:=bP A.1;have y:j<sz:=bP A.2;have V:=kM (o i C) j y;have v:inner ⟨sz,n,f⟩ i j=some r:=v;unfold inner at v;split at v
      ·next J n2 g hg=>
       obtain rfl:=aV v;have hg:f i j= .il J n2 g:=hg;rw[hg]at V;obtain⟨g',e,hgg⟩:=Oz (show xD (.il J n2 λa b=>dv (fQ (ae M) κ) false (g a b)) (U i j)from V);refine fin (r':=⟨J,n2,g'⟩) ?_ rfl rfl ?_
       ·show inner ⟨sz,n,U⟩ i j=_;unfold inner;simp only[e]
       ·intro a O b u x z;have z:Den w ω (g a b) x:=z;show Den w (eH ω κ B) (g' a b) x;exact sO (hgg a O b u) (E z)
      ·cases v
    ·exact o.elim
 ·intro q l hl;rw[kI]at hl;cases u:B[q]? with
  |none=>rw[u]at hl;cases hl
  |some b=>
   rw[u]at hl;have hl:b= .cells l:=hl;have hlen:=BW O;rw[nH]at hlen;have S:=(ik.1 u).1;have R:κ[q]? =some κ[q]:=eO (by omega);obtain⟨b',hb',_,o⟩:=n4 R;obtain rfl:b=b':=aV (u.symm.trans hb');subst hl;rw[Bb R];cases t:(ae M κ[q]).b with
   |dead=>rw[t]at o;exact o.elim
   |row _ _ _=>rw[t]at o;exact o.elim
   |cells l0=>exact hm.live _ _ t
 ·intro q i j h;rw[kI]at h;split at h<;>cases h
end
end Go.Sy
namespace Go.Sy
open Go.RowKit
structure Rc where
 fs:List (Nat×SV)
 hs:List Hd
 u:bf
def Ed:bf->(bf->Prop)->Prop
 | [],k=>k []
 |p::r,k=>fy p.1 λa=>Dy p.2 λb=>Ed r λr=>k ((a,b)::r)
theorem Ov:∀(l:bf) (k:bf->Prop),Ed l k=k l
 | [],_=>rfl
 |s::r,k=>by simp only[Ed,j4,Mx,Ov r]
def IH (x:Rc) (k:Rc->Prop):Prop:=match x with|⟨fs,hs,u⟩=>Ee fs λfs=>zR hs λhs=>Ed u λu=>k ⟨fs,hs,u⟩
theorem YR (x:Rc) (k:Rc->Prop):IH x k=k x:=by cases x;simp only[IH,Ox,FW,Ov]
def xn:List Rc->(List Rc->Prop)->Prop
 | [],k=>k []
 |p::r,k=>IH p λa=>xn r λr=>k (a::r)
theorem Mv:∀(l:List Rc) (k:List Rc->Prop),xn l k=k l
 | [],_=>rfl
 |s::r,k=>by simp only[xn,YR,Mv r]
def cv (rs:List Rc) (j:Nat):Rc:=rs.getD j ⟨[],[],[]⟩
def vF (rs:List Rc) (F:Fr) (E:List Nat):Fr:=E.flatMap (λj=>(cv rs j).fs)++F
def vM (rs:List Rc) (M:Mem) (E:List Nat):Mem:=E.flatMap (λj=>(cv rs j).u)++M
def vH (rs:List Rc) (E:List Nat):List Hd:=E.flatMap λj=>(cv rs j).hs
def C9:Op->Bool
 | .store _ _ _=>true
 | .call {callee:= .builtin .copy,args:=_,argTypes:=_}=>true
 | .call {callee:= .builtin .clear,args:=_,argTypes:=_}=>true
 |_=>false
def gZ (N:Nat) (d:Option Nat) (s:SV):List (Nat×SV):=match d with|some t=>(match Nat.blt t N with|true=> [(t,s)]|false=> [])|none=> []
def pR (P:Program) (sg:Bool) (Gl:Nat->SV) (Γ:Table) (N:Nat) (ops:List Oper) (V:Fr) (M:Mem) (H:List Hd) (nx:Nat) (pr:List Nat) (o:Oper):Option (Prop×Rc):=
 match qU H o.dst,guardOf N ops V H o,C9 o.op with
 |true,.yes,false=>
  match lO P sg Gl Γ V M nx H [] o.op with
  | .ok s=>some (True,⟨gZ N o.dst s,[],[]⟩)
  | .kj _ s=>some (True,⟨gZ N o.dst s,[],[]⟩)
  | .dL p s=>some (p,⟨gZ N o.dst s,[],[]⟩)
  | .mem p s u=>match jd (ae M) u&&nC (ae M) u with|true=>some (p,⟨gZ N o.dst s,[],u⟩)|false=>none
  | .any _ _=>none
  | .bad=>none
 |true,.no,_=>some (True,⟨gZ N o.dst (.v undef),[],[]⟩)
 |true,.ask d want,false=>
  match o.dst,lO P sg Gl Γ V M nx H (fc H H.length d want) o.op with
  |some t,.ok s=>match Nat.blt t N&&!Nat.beq d t with|true=>some (True,⟨[(t,.aI)],[⟨t,d,want,s⟩],[]⟩)|false=>none
  |some t,.kj _ s=>match Nat.blt t N&&!Nat.beq d t with|true=>some (True,⟨[(t,.aI)],[⟨t,d,want,s⟩],[]⟩)|false=>none
  |some t,.dL p s=>match Nat.blt t N&&!Nat.beq d t with|true=>some (hyps (im (fc H H.length d want) V H) (fc H H.length d want) p,⟨[(t,.aI)],[⟨t,d,want,s⟩],[]⟩)|false=>none
  |some t,.mem p s u=>match Nat.blt t N&&!Nat.beq d t,oJ (ae M) u&&(jd (ae M) u&&nC (ae M) u)with|true,true=>some (hyps (im (fc H H.length d want) V H) (fc H H.length d want) p,⟨[(t,.aI)],[⟨t,d,want,s⟩],u⟩)|_,_=>none
  |_,_=>none
 |_,_,_=>none
section
variable {P:Program} {w:World} {ω:Ow} {ρ:Operand->SV} {Gl:Nat->SV} {Γ:Table} {N:Nat} {F:Fr} {M:Mem} {a:Act} {H:List Hd}
theorem iN.refl (w:World) (ω:Ow):iN w ω w ω (λk=>k∈([]:bf).map (·.1)):=⟨Cw.refl w,λ_ h=>h,rfl,λ_ _ _=>rfl,λk p L b=>by simp at b,rfl⟩
inductive nZ (P:Program) (w:World) (ω:Ow) (M:Mem) (a:Act) (o:Oper) (s:SV):bf->Prop where
 |pure (v:Value) (h:(execOp a.eval o).run P w= .ok (.value v) w) (hd:Den w ω s v):nZ P w ω M a o s []
 |mem {u:bf} (h:lQ P w ω M a o s u):nZ P w ω M a o s u
 |call {u:bf} (h:zz P w ω M a o s u):nZ P w ω M a o s u
 |app {u:bf} (h:nC (ae M) u=true->jd (ae M) u=true->lQ P w ω M a o s u):nZ P w ω M a o s u
theorem nZ.wp {o:Oper} {s:SV} {u:bf} (hm:aU w ω M) (h:nZ P w ω M a o s u) (i:(jd (ae M) u&&nC (ae M) u)=true) {next:Act->World->Prop} {Q:Exit->Act->World->Prop}
 (g:∀v w' aq,bz w ω M w' aq (u++M)->iN w ω w' aq (λk=>k∈u.map (·.1))->Den w' aq s v->next (a.put o.dst v) w'):o.wp P a w next Q:=by
 rw[aW]at i;obtain⟨i,j⟩:=i;unfold Oper.wp;cases h with
 |pure v h hd=>rw[h];exact g v w ω (bz.refl hm) (iN.refl _ _) hd
 |app h=>
  obtain⟨n,v,w',aq,h1,h2,b,c,d⟩:=h j i;rw[h1];rcases h2 with rfl|⟨rfl,rfl⟩
  ·exact g v w' aq b d c
  ·exact g _ w' aq b d c
 |mem h=>
  obtain⟨n,v,w',aq,h1,h2,b,c,d⟩:=h;rw[h1];rcases h2 with rfl|⟨rfl,rfl⟩
  ·exact g v w' aq b d c
  ·exact g _ w' aq b d c
 |call h=>obtain⟨id,vs,h1,h2⟩:=h;rw[h1];unfold s8 at h2;refine h2.mono ?_;rintro e w' ⟨v,aq,rfl,b,c,d,_⟩;exact g v w' aq b (d i) c
theorem GR {o:Oper} {r:R} {K:SV->bf->Prop} (h:∀{b:SV->Prop},r.run b->fj P w ω a o b) (c:r.up.run K):∃s u,nZ P w ω M a o s u/\K s u:=by
 have:r.run (λs=>K s []):=by cases r<;>exact c
 obtain⟨s,v,h1,h2,d⟩:=h this;exact⟨s,[],.pure v h1 h2,d⟩
theorem sR {o:Oper} {x:Option (Prop×SV×bf)} {K:SV->bf->Prop} (h:∀{p s u},x=some (p,s,u)->p->nZ P w ω M a o s u) (b:(mQ x).run K):∃s u,nZ P w ω M a o s u/\K s u:=by
 cases x with
 |none=>exact b.elim
 |some x=>exact⟨_,_,h rfl b.1,b.2⟩
theorem W8 (i:Sound P Gl Γ) (j:∀g,Den w ω.bare (Gl g) (.pointer (some ⟨g,0,none⟩))) (h:Cx P w ω ρ M a) {sg:Bool} {nx:Nat} {o:Oper} (d:C9 o.op=false) {K:SV->bf->Prop} (b:(Ah P sg Γ ρ (ae M) nx o.op).run K):
 ∃s u,nZ P w ω M a o s u/\K s u:=by
 unfold Ah at b;split at b
 ·next T x ho=>exact sR (λe hp=> .mem (Oy h ho e)) b
 ·next T ho=>exact sR (λe hp=> .mem (KM h ho e)) b
 ·next T x y ho=>rw[ho]at d;cases d
 ·next T x y ho=>exact sR (λe hp=> .mem (My h ho e hp)) b
 ·next T len parts ho=>exact sR (λe hp=> .app λh1 _=>TH h ho e h1) b
 ·next x y T k ho=>
  split at b
  ·next l=>
   obtain rfl:=a_ l;exact sR (λe hp=> .app λh1 h2=>Tk h ho e hp h1 h2) b
  ·exact b.elim
 ·next x y T k ho=>rw[ho]at d;cases d
 ·next x T ho=>rw[ho]at d;cases d
 ·next f args n ho=>exact sR (λe hp=> .call (FX i j h ho e hp)) b
 ·next r name args n ho=>exact sR (λe hp=> .call (EW i j h ho e hp)) b
 ·next c x y ho=>exact GR (λb=>yH h ho b) b
 ·next op T x y k ho=>
  obtain⟨s,v,h1,h2,p⟩:=Mz h ho b;exact⟨s,[],.pure v h1 h2,p⟩
 ·exact GR (λb=>s9 h b) b
theorem KN (n:Sound P Gl Γ) (h:St P Gl N F M a w ω) (k:gO w ω N a H) {sg:Bool} {nx:Nat} {As:List (Nat×Bool)} (i:mJ a As) {o:Oper} (q:C9 o.op=false) {K:SV->bf->Prop} (e:(lO P sg Gl Γ F M nx H As o.op).run K):
 ∃s u,nZ P w ω M a o s u/\K s u:=by
 have g:∀{As},mJ a As->Cx P w ω (c_ Gl (im As F H)) M a:=λi=>⟨(ny h.frame i H k).c_ h.eo,h.mem⟩;unfold lO at e;split at e
 ·next c x y ho=>
  refine GR ?_ e;clear e;intro B e;unfold FY at e;split at e
  ·next d=>
   split at e
   ·next b t=>
    split at e
    ·next p r hp z=>
     obtain⟨u,l,hd⟩:=J8 (ny h.frame i H k) t (by simp);obtain rfl:=hd;have ec:a.eval (.tmp d)= .bool b:=by simp only[Act.eval,ka,l];rfl
     refine⟨.v (.bool (bif b then p else r)),.bool (bif b then p else r),?_,rfl,e⟩;cases b with
     |true=>have j:=(nG k H.length d true l).append i;have ex:=kO hp ((g j).val x);simp[execOp,ho,ec,asBool,ex]
     |false=>have j:=(nG k H.length d false l).append i;have A:=kO z ((g j).val y);simp[execOp,ho,ec,asBool,A]
    ·exact e.elim
   ·exact yH (g i) ho e
  ·exact e.elim
 ·exact W8 n h.eo (g i) q e
theorem J9 (hm:aU w ω M):∀{u:bf},oJ (ae M) u=true->∀k∈u.map (·.1),∀p,ω.β k p=none
 | [],_,k,b,_=>by simp at b
 |(k0,e)::r,h,k,b,p=>by
  simp only[oJ,aW]at h;obtain⟨⟨⟨⟨⟨h1,h2⟩,c⟩,d⟩,g⟩,i⟩:=h;rw[lH]at h2;simp only[mA,eG]at b;rcases b with rfl|b
  ·exact(kC (A8 hm h1).mem h2).2.2 p
  ·exact J9 hm h1 k b p
theorem Vi {u:bf} (hm:aU w ω M) (h:oJ (ae M) u=true):iN w ω w ω (λk=>k∈u.map (·.1)):=
 ⟨Cw.refl w,λ_ h=>h,rfl,λ_ _ _=>rfl,(λk p L b c=>absurd c (by rw[J9 hm h k b p];exactλe=>by cases e)),rfl⟩
def zy (w:World) (ω:Ow) (N:Nat) (a:Act) (b:Rc):Prop:=(∀p∈b.fs,∀u,a.tmps[p.1]? =some u->Den w ω p.2 u)/\gO w ω N a b.hs
theorem A6 {d:Option Nat} {s:SV} {v:Value} (hd:Den w ω s v):∀p∈gZ N d s,∀u,(a.put d v).tmps[p.1]? =some u->Den w ω p.2 u:=by
 intro p hp u b;unfold gZ at hp;split at hp
 ·next t=>
  split at hp
  ·simp only[Cz]at hp;subst hp;simp only[Act.put]at b;rw[Array.getElem?_setIfInBounds_self]at b;split at b
   ·obtain rfl:=aV b;exact hd
   ·cases b
  ·simp at hp
 ·simp at hp
theorem ac7 (hS:Sound P Gl Γ) {sg:Bool} {ops:Array Oper} {Q:Exit->Act->World->Prop} {nx i:Nat} {pr:List Nat} {o:Oper} {p:Prop} {E:Rc} (ho:ops[i]? =some o) (h:St P Gl N F M a w ω) (A:gO w ω N a H)
 (b:pR P sg Gl Γ N ops.toList F M H nx pr o=some (p,E)) (hp:p) {K:Act->World->Prop}
 (T:∀v w' aq,bz w ω M w' aq (E.u++M)->iN w ω w' aq (λk=>k∈E.u.map (·.1))->zy w' aq N (a.put o.dst v) E->K (a.put o.dst v) w'):wpOp P ops Q i K a w:=by
 have q:=Fi (ops:=ops) h.frame H o;unfold wpOp;rw[ho];simp only;unfold pR at b;split at b
 ·next l r U=>
  rw[r]at q;cases q with
  |yes G=>
   rw[if_pos G];left;have key:∃s u,E=⟨gZ N o.dst s,[],u⟩/\(jd (ae M) u&&nC (ae M) u)=true/\(lO P sg Gl Γ F M nx H [] o.op).run (λs' J=>s'=s/\J=u):=by
    split at b
    ·next s n=>
     simp only[bF,bJ]at b;exact⟨s,[],b.2.symm,rfl,by rw[n];exact⟨rfl,rfl⟩⟩
    ·next s n=>
     simp only[bF,bJ]at b;exact⟨s,[],b.2.symm,rfl,by rw[n];exactλ_=>⟨rfl,rfl⟩⟩
    ·next s n=>
     simp only[bF,bJ]at b;exact⟨s,[],b.2.symm,rfl,by rw[n];exact⟨by rw[b.1];exact hp,rfl,rfl⟩⟩
    ·next s u n=>
     split at b
     ·next V=>
      simp only[bF,bJ]at b;exact⟨s,u,b.2.symm,V,by rw[n];exact⟨by rw[b.1];exact hp,rfl,rfl⟩⟩
     ·cases b
    ·cases b
    ·cases b
   obtain⟨s,u,rfl,V,y⟩:=key;obtain⟨s',J,B,rfl,rfl⟩:=KN hS h A (λp hp=>by cases hp) U y;exact B.wp h.mem V λv w' aq h1 h2 W=>T v w' aq h1 h2 ⟨A6 W,λx C=>by cases C⟩
 ·next l r=>
  rw[r]at q;cases q with
  |no G=>rw[if_neg (by rw[G];exact nE)];simp only[bF,bJ]at b;obtain⟨_,rfl⟩:=b;exact T undef w ω (bz.refl h.mem) (iN.refl _ _) ⟨A6 rfl,λx C=>by cases C⟩
 ·next d want l r U=>
  rw[r]at q;cases q with
  |ask _ _ G=>
   have j:∀{t:Nat},(Nat.blt t N&&!Nat.beq d t)=true->t<N/\d≠t:=by intro t I;rw[aW,dT]at I;exact⟨bP I.1,λe=>by rw[e,cy]at I;cases I.2⟩
   have key:∃t s u,o.dst=some t/\t<N/\d≠t/\E=⟨[(t,.aI)],[⟨t,d,want,s⟩],u⟩/\(oJ (ae M) u&&(jd (ae M) u&&nC (ae M) u))=true/\(a.tmps[d]? =some (.bool want)->(lO P sg Gl Γ F M nx H (fc H H.length d want) o.op).run (λs' J=>s'=s/\J=u)):=by
    split at b
    ·next t s c n=>
     split at b
     ·next z=>
      simp only[bF,bJ]at b;exact⟨t,s,[],c,(j z).1,(j z).2,b.2.symm,rfl,λ_=>by rw[n];exact⟨rfl,rfl⟩⟩
     ·cases b
    ·next t _ s c n=>
     split at b
     ·next z=>
      simp only[bF,bJ]at b;exact⟨t,s,[],c,(j z).1,(j z).2,b.2.symm,rfl,λ_=>by rw[n];exactλ_=>⟨rfl,rfl⟩⟩
     ·cases b
    ·next t p' s c n=>
     split at b
     ·next z=>
      simp only[bF,bJ]at b;refine⟨t,s,[],c,(j z).1,(j z).2,b.2.symm,rfl,λg=>?_⟩;rw[n];have O:=nG A H.length d want g;exact⟨yI (ny h.frame O H A) _ O (by rw[b.1];exact hp),rfl,rfl⟩
     ·cases b
    ·next t p' s u c n=>
     split at b
     ·next z hu=>
      simp only[bF,bJ]at b;refine⟨t,s,u,c,(j z).1,(j z).2,b.2.symm,hu,λg=>?_⟩;rw[n];have O:=nG A H.length d want g;exact⟨yI (ny h.frame O H A) _ O (by rw[b.1];exact hp),rfl,rfl⟩
     ·cases b
    ·cases b
   obtain⟨t,s,u,c,I,X,rfl,R,y⟩:=key;rw[aW]at R;obtain⟨S,Y⟩:=R;rw[c]at l;have facts:∀{v:Value} {w':World} {aq:Ow},(a.tmps[d]? =some (.bool want)->Den w' aq s v)->(a.tmps[d]? ≠some (.bool want)->v=undef)->zy w' aq N (a.put (some t) v) ⟨[(t,.aI)],[⟨t,d,want,s⟩],u⟩:=by
    intro v w' aq g1 g2;refine⟨λp hp u hu=>?_,?_⟩
    ·simp only[Cz]at hp;subst hp;trivial
    ·exact gO.cons (H:= []) (w:=w') (ω:=aq) (λx C=>by cases C) (by rfl) h.frame.size I X g1 g2
   by_cases g:a.tmps[d]? =some (.bool want)
   ·rw[if_pos (G.2 g)];left;obtain⟨s',J,B,rfl,rfl⟩:=KN hS h A (nG A H.length d want g) U (y g);refine B.wp h.mem Y λv w' aq h1 h2 W=>T v w' aq h1 h2 ?_;rw[c];exact facts (λ_=>W) (λZ=>absurd g Z)
   ·have II:Region.wanted o (yielded ops a.tmps)=false:=by
     cases C:Region.wanted o (yielded ops a.tmps)with
     |false=>rfl
     |true=>exact absurd (G.1 C) g
    rw[if_neg (by rw[II];exact nE)];refine T undef w ω (A8 h.mem S) (Vi h.mem S) ?_;rw[c];exact facts (λZ=>absurd Z g) (λ_=>rfl)
 ·cases b
/-! ### register operations -/
def isVal:SV->Bool
 | .v _=>true
 | .bl _=>true
 |_=>false
def QX:SV->SV
 | .v x=> .v x
 | .bl b=> .bl b
 |_=> .aI
def pV (V:Fr):Fr:=V.map λp=>(p.1,QX p.2)
theorem JE:∀(V:Fr) (t:Nat),look (pV V) t=QX (look V t)
 | [],_=>rfl
 |p::r,t=>by
  simp only[pV,mA,look];cases Nat.beq p.1 t
  ·exact JE r t
  ·rfl
def wZ:R->R
 | .ok s=>match isVal s with|true=> .ok s|false=> .bad
 | .dL p s=>match isVal s with|true=> .dL p s|false=> .bad
 | .kj p s=>match isVal s with|true=> .kj p s|false=> .bad
 | .bad=> .bad
theorem J_ {r:R} {K:SV->Prop} (h:(wZ r).run K):r.run (λs=>isVal s=true/\K s):=by
 cases r with
 |bad=>exact h
 |ok s=>simp only[wZ]at h;cases b:isVal s with
  |true=>rw[b]at h;exact⟨b,h⟩
  |false=>rw[b]at h;exact h.elim
 |dL p s=>simp only[wZ]at h;cases b:isVal s with
  |true=>rw[b]at h;exact⟨h.1,b,h.2⟩
  |false=>rw[b]at h;exact h.elim
 |kj p s=>simp only[wZ]at h;cases b:isVal s with
  |true=>rw[b]at h;exactλhp=>⟨b,h hp⟩
  |false=>rw[b]at h;exact h.elim
def jM (V:Fr):Operand->SV:=c_ (λ_=> .aI) V
def ac9:SV->Bool
 | .ptr _ _ _ _ _=>true
 | .pt _ _ _=>true
 |_=>false
def rr (P:Program) (sg:Bool) (V:Fr) (m:Nat->bw) (op:Op):R:=
 match op with
 | .pick c x y=>wZ (yX (jM (pV V) c) (jM (pV V) x) (jM (pV V) y))
 | .move x=> .ok (jM V x)
 | .extract x i=>yj (jM V x) i
 | .fieldAddr S x j=>match ac9 (jM V x)with|true=>wx P S (jM V x) j m|false=> .bad
 | .indexAddr T x y=>yJ P T (IJ y) (jM V x) (jM V y) m
 |op=>wZ (tZ P sg (jM (pV V)) (ae []) op)
theorem fj.and {o:Oper} {K:SV->Prop} {v:Value} (h:fj P w ω a o K) (b:∀w',(execOp a.eval o).run P w'= .ok (.value v) w'):∃s,Den w ω s v/\K s:=by
 obtain⟨s,c,h1,h2,d⟩:=h;rw[b w]at h1;obtain⟨e,_⟩:=Result.ok.inj h1;have:v=c:=by injection e
 subst this;exact⟨s,h2,d⟩
theorem GO (hm:aU w ω M) (V:dV w ω N F a.tmps) {sg:Bool} {o:Oper} {s:SV} (d:(rr P sg F (ae M) o.op).run (λs'=>s'=s)):
 ∃v,(∀w',(execOp a.eval o).run P w'= .ok (.value v) w')/\Den w ω s v:=by
 let bZ:Ow:=⟨λ_=>False,λ_=>False,λ_ _=>none,λ_=>(0,0)⟩;have K:∀w',aU w' bZ []:=λw'=>⟨rfl,λb ⟨k,p,L,h,_⟩=>(by cases h),λ_ h=>False.elim h,λ_ h=>False.elim h,λ_ h=>False.elim h,λ_ _ _ _ _ _ h=>(by cases h),λ_ _ _ h=>(by cases h),λ_ _ _ h=>(by cases h),λ_ _ h=>(by cases h),λ_ _ _ _=>rfl⟩;have X:∀w' x,Den w' bZ (jM (pV F) x) (a.eval x):=by
  intro w' x;cases x with
  |tmp t=>
   show Den w' bZ (look (pV F) t) _;rw[JE];have hd:=V.get t;cases hl:look F t with
   |v y=>rw[hl]at hd;exact hd
   |bl b=>rw[hl]at hd;exact hd
   |_=>trivial
  |const v=>cases v<;>exact rfl
  |global g=>trivial
  |func f=>exact⟨#[],rfl,rfl,λj B=>absurd B (by omega)⟩
 have l:∀w',Cx P w' bZ (jM (pV F)) [] a:=λw'=>⟨X w',K w'⟩;have I:∀x,Den w ω (jM F x) (a.eval x):=by
  intro x;cases x with
  |tmp t=>exact V.get t
  |const v=>cases v<;>exact rfl
  |global g=>trivial
  |func f=>exact⟨#[],rfl,rfl,λj B=>absurd B (by omega)⟩
 have C:Cx P w ω (jM F) M a:=⟨I,hm⟩;have bare:(∀w',fj P w' bZ a o (λs'=>isVal s'=true/\s'=s))->∃v,(∀w',(execOp a.eval o).run P w'= .ok (.value v) w')/\Den w ω s v:=by
  intro hp;obtain⟨s0,_,_,_,hs,rfl⟩:=hp w;cases s0 with
  |v x=>refine⟨x,λw'=>?_,rfl⟩;obtain⟨s',v,h1,h2,_,rfl⟩:=hp w';have h2:v=x:=h2;rw[h1,h2]
  |bl b=>refine⟨.bool b,λw'=>?_,rfl⟩;obtain⟨s',v,h1,h2,_,rfl⟩:=hp w';have h2:v= .bool b:=h2;rw[h1,h2]
  |_=>cases hs
 unfold rr at d;split at d
 ·next c x y ho=>exact bare λw'=>yH (l w') ho (J_ d)
 ·next x ho=>
  have d:jM F x=s:=d;subst d;exact⟨a.eval x,λw'=>by simp[execOp,ho],I x⟩
 ·next x i ho=>
  have u:=I x;unfold yj at d;split at d
  ·next n f hs=>
   split at d
   ·next A=>
    have A:=bP A;have d:f i=s:=d;subst d;rw[hs]at u;obtain⟨cs,e,hn,B⟩:=u;obtain⟨y,Y,Z⟩:=B i A;exact⟨y,λw'=>by simp[execOp,ho,e,Y,Instr.extract,Result.andThen],Z⟩
   ·exact d.elim
  ·exact d.elim
 ·next S x j ho=>
  split at d
  ·next hp=>
   have u:=I x;have z:=KO C ho d;obtain⟨ad,E⟩:∃ad,a.eval x= .pointer (some ad):=by
    cases O:jM F x with
    |ptr k st p i j=>
     rw[O]at u d;unfold wx at d;split at d
     ·split at d
      ·split at d
       ·split at d
        ·next heq=>
         obtain⟨rfl,rfl,rfl,rfl,rfl⟩:=SV.ptr.inj heq;split at d
         ·next R=>obtain⟨_,L,_,_,e⟩:=gr hm R u;exact⟨_,e⟩
         ·exact d.elim
        ·next heq=>cases heq
        ·next heq=>cases heq
        ·exact d.elim
       ·exact d.elim
      ·exact d.elim
     ·exact d.elim
    |pt q n f=>rw[O]at u;obtain⟨ad,e,_⟩:=u;exact⟨ad,e⟩
    |_=>rw[O]at hp;cases hp
   obtain⟨s',v,h1,h2,U⟩:=z;have U:s'=s:=U;subst U;refine⟨v,λw'=>?_,h2⟩;unfold wx at d;split at d
   ·next fs W=>
    split at d
    ·next J G=>
     split at d
     ·next i A=>
      split at d
      ·next r hs=>
       have run:∀w',(execOp a.eval o).run P w'= .ok (.value (.pointer (some (ad.add J.offset)))) w':=by
        intro w';have r:0<i.size:=bP r;have hs:(sizeOf J.type).run P w'= .ok i.size w':=by simp[sizeOf,run_typeInfo w' A,Result.andThen]
        simp[execOp,ho,E,Instr.fieldAt,Instr.sureAddr,run_underlying W,G,fieldPlace,hs,Result.andThen,Nat.ne_of_gt r]
       have e:=(run w).symm.trans h1;rw[run w'];injection e with e _;rw[e]
      ·next r hs=>
       have run:∀w',(execOp a.eval o).run P w'= .ok (.value (.pointer (some (ad.add J.offset)))) w':=by
        intro w';have r:0<i.size:=bP r;have hs:(sizeOf J.type).run P w'= .ok i.size w':=by simp[sizeOf,run_typeInfo w' A,Result.andThen]
        simp[execOp,ho,E,Instr.fieldAt,Instr.sureAddr,run_underlying W,G,fieldPlace,hs,Result.andThen,Nat.ne_of_gt r]
       have e:=(run w).symm.trans h1;rw[run w'];injection e with e _;rw[e]
      ·next r hs=>rw[hs]at hp;cases hp
      ·exact d.elim
     ·exact d.elim
    ·exact d.elim
   ·exact d.elim
  ·exact d.elim
 ·next T x y ho=>
  obtain⟨s',v,h1,h2,rfl⟩:=J' C ho d;exact⟨v,h1,h2⟩
 ·exact bare λw'=>s9 (l w') (J_ d)
end
end Go.Sy
namespace Go.Sy
open Go.RowKit
variable {P:Program} {w w':World} {ω:Ow} {M:Mem}
def One (w w':World) (b:Nat):Prop:=w'.os=w.os/\w'.tape=w.tape/\w'.output=w.output/\w'.heap.size=w.heap.size/\∀c,c≠b->w'.heap[c]? =w.heap[c]?
theorem One.trans {w w' c:World} {b:Nat} (h:One w w' b) (k:One w' c b):One w c b:=
 ⟨k.1.trans h.1,k.2.1.trans h.2.1,k.2.2.1.trans h.2.2.1,k.2.2.2.1.trans h.2.2.2.1,λd e=>(k.2.2.2.2 d e).trans (h.2.2.2.2 d e)⟩
theorem One.set (w:World) (a:Addr) (x:Value):One w (w.setCell a x) a.block:=
 ⟨rfl,rfl,rfl,by simp[World.setCell],λc b=>yb w a x b⟩
theorem J7:∀(p:List SV) (us:List Value) {w:World} {M:Mem} (hm:aU w ω M) {k:Nat} {l:List SV} (h:(ae M k).b= .cells l) (e:bY w ω p us) (h1:∀u∈us,u.oneCell'=true) (z:∀s∈p,cZ s=false) {L:Loc} (g:ω.β k none=some L) {j:Nat} (A:j+p.length<=l.length) {ad:Addr} (q:Nat) (d:ad.add q=⟨L.b,L.o+j,none⟩),
 ∃w',(storeCells ad us q).run P w= .ok () w'/\(∃M',bz w ω M w' ω M'/\ae M' k={ae M k with b:= .cells (nB l j p)}/\∀k',k'≠k->ae M' k'=ae M k')/\One w w' L.b
 | [],[],w,M,hm,k,l,h,e,h1,z,L,g,j,A,ad,q,d=>⟨w,by simp[storeCells],⟨M,bz.refl hm,by simp only[nB];rw[<-h],λ_ _=>rfl⟩,rfl,rfl,rfl,rfl,λ_ _=>rfl⟩
 |v::r,x::t,w,M,hm,k,l,h,⟨e,B⟩,h1,z,L,g,j,A,ad,q,d=>by
  obtain⟨c1,U⟩:=yt hm h g;have C:j<l.length:=by simp at A;omega
  have st:=bz.putCells hm h g (i:=0) (by omega) C (z v (by simp)) e;obtain⟨_,_,_,_,c,T,I,g2,V,J⟩:=hm.row _ _ _ g;obtain⟨y,E,_⟩:=J 0 (by omega) j (by omega);simp only[yG,sP]at st E;have r1:(store (ad.add q) x).run P w= .ok () (w.setCell ⟨L.b,L.o+j,none⟩ x):=by rw[d];exact A7 I (eZ.1 E).1 (h1 x (by simp))
  have n:ad.add (q+1)=⟨L.b,L.o+(j+1),none⟩:=by rw[<-add_add,d,jx];simp[i_]
  obtain⟨w',r2,⟨M',s2,K,O⟩,R⟩:=J7 r t st.mem (k:=k) (l:=l.set j v) (by rw[dk]) (B.ext st.ext) (λy S=>h1 y (by simp[S])) (λs hs=>z s (by simp[hs])) g (j:=j+1) (by simp at A⊢;omega) (q+1) n;refine⟨w',by simp[storeCells,r1,r2,Result.andThen],⟨M',st.trans s2,?_,λk' G=>?_⟩,(One.set w _ x).trans R⟩
  ·rw[K,dk];rfl
  ·rw[O k' G,cF (cA G)]
 | [],_::_,_,_,_,_,_,_,e,_,_,_,_,_,_,_,_,_=>e.elim
 |_::_,[],_,_,_,_,_,_,e,_,_,_,_,_,_,_,_,_=>e.elim
def mF (n:Nat):List SV:=List.replicate n .aI
theorem By (n j:Nat):aN (mF n) j= .aI:=by simp only[aN,mF,cD,List.getElem?_replicate];split<;>rfl
theorem aU.Om (hm:aU w ω M) {k:Nat} {e:bw} {l l':List SV} (G:ae M k=e) (y:e.b= .cells l) (hl:l'.length=l.length)
 (h:∀L,ω.β k none=some L->∀c T,w.heap[L.b]? =some (Obj.cells c T (0,0))->∀j,j<l.length->∀x,c[L.o+j]? =some x->Den w ω (aN l j) x->cZ (aN l' j)=false/\Den w ω (aN l' j) x) (z:∀j,cZ (aN l j)=false):aU w ω ((k,{e with b:= .cells l'})::M):=by
 subst G;have d:∀k',k'≠k->ae ((k,{ae M k with b:= .cells l'})::M) k'=ae M k':=λk' h=>cF (cA h);refine⟨?_,hm.own,hm.ez,hm.dj,hm.fS,hm.inj,hm.low,λk' p L A=>?_,λk' l2 g=>?_,λk' i j g=>?_⟩
 ·rw[hm.cur];exact(v_ (M:=M) (k:=k) (e:={ae M k with b:= .cells l'}) rfl rfl).symm
 ·by_cases g:k'=k
  ·subst g;obtain⟨r,q,g2,B,c,T,u,I,J,K⟩:=hm.row k' p L A;rw[dk];cases p with
   |none=>
    unfold rowAt at q;rw[y]at q;obtain rfl:=aV q;have C:l.length=L.sz:=g2;have t:1=L.dg:=B;refine⟨⟨l'.length,1,λ_ j=>aN l' j⟩,by unfold rowAt;rw[dk];rfl,by show l'.length=_;rw[hl];exact C,t,c,T,u,I,J,λi O j R=>?_⟩;obtain⟨x,E,v⟩:=K i O j R;obtain rfl:i=0:=by omega
    have v:cO w ω (ae M k').hl k' 0 j (aN l j) x:=v;rw[fC (z j)]at v;obtain⟨S,U⟩:=h L A c T u j (by omega) x (by simpa using E) v;refine⟨x,E,?_⟩;show cO w ω (ae M k').hl k' 0 j (aN l' j) x;rw[fC S];exact U
   |some V=>unfold rowAt at q;rw[y]at q;cases q
  ·obtain⟨r,q,g2,B,u⟩:=hm.row k' p L A;exact⟨r,by unfold rowAt at q⊢;rw[d k' g];exact q,g2,B,by rw[d k' g];exact u⟩
 ·by_cases n:k'=k
  ·subst n;exact hm.live k' l y
  ·rw[d k' n]at g;exact hm.live k' l2 g
 ·by_cases n:k'=k
  ·subst n;rw[dk]at g;exact hm.eE _ _ _ g
  ·rw[d k' n]at g;exact hm.eE _ _ _ g
theorem aU.ac6 (hm:aU w ω M) {k n:Nat} (u:(ae M k).b= .cells (mF n)) {L:Loc} (q:ω.β k none=some L) (ho:One w w' L.b) (hs:∃c T,w'.heap[L.b]? =some (Obj.cells c T (0,0))/\c.size=L.len):aU w' ω M/\Ext w ω w' ω:=by
 have z:ω.A L.b:=hm.own _ ⟨k,none,L,q,rfl⟩;have d:Ext w ω w' ω:=⟨ho.1,ho.2.1,ho.2.2.1,λb u B=>ho.2.2.2.2 b (λe=>B (e▸z)),λ_ _ h=>h,λ_ _ _ h=>h,Nat.le_of_eq ho.2.2.2.1.symm,λ_=>⟨bc _,bc _⟩,λ_ _ _ h _=>h,λ_ h=>h⟩;refine⟨⟨hm.cur,hm.own,λb h=>by rw[ho.2.2.2.1];exact hm.ez b h,hm.dj,λb h=>by rw[ho.2.2.2.1];exact hm.fS b h,hm.inj,λk p L h=>by rw[ho.2.2.2.1];exact hm.low k p L h,λk' p L' h=>?_,hm.live,hm.eE⟩,d⟩;obtain⟨r,l,g2,v,x⟩:=hm.row k' p L' h;refine⟨r,l,g2,v,?_⟩;by_cases g:L'.b=L.b
 ·obtain⟨rfl,rfl⟩:=hm.inj _ _ _ _ _ _ h q g;obtain rfl:L=L':=aV (q.symm.trans h);unfold rowAt at l;rw[u]at l;obtain rfl:=aV l;obtain⟨c0,T0,h1,h2,C,O⟩:=x;obtain⟨c,T,E,G⟩:=hs;have I:(mF n).length=L.sz:=g2;have y:1=L.dg:=v;refine⟨c,T,E,G,C,λi J j K=>?_⟩;have t:L.o+i*L.sz+j<c.size:=by have:=lG J K;omega
  refine⟨c[L.o+i*L.sz+j],fR t,?_⟩;show cO _ _ _ _ _ _ (aN (mF n) j) _;rw[By];trivial
 ·exact x.ext d rfl (λ_=>rfl) (ho.2.2.2.2 _ g)
def evalW (P:Program) (Gl:Nat->SV) (N:Nat) (ops:List Oper) (V:Fr) (M:Mem) (H:List Hd) (o:Oper):Option (Nat×bf):=
 match o.dst,guardOf N ops V H o,o.op with
 |none,.yes,.store T x y=>
  match c_ Gl (im [] V H) x,oA (ae M) (c_ Gl (im [] V H) y),P.info? T with
  | .ptr k st none d j,some c,some i=>
    match cG (ae M) k st none,(ae M k).b,Nat.beq c.length i.size,c.all (nQ (ae M))with
    |true,.cells l,true,true=>
     match Nat.ble (j+c.length) l.length with
     |true=>some (k,[(k,{ae M k with b:= .cells (nB l j c)})])
     |false=>none
    |_,_,_,_=>none
  |_,_,_=>none
 |_,_,_=>none
theorem ac8 {Gl:Nat->SV} {N:Nat} {ops:Array Oper} {V:Fr} {H:List Hd} {a:Act} {Q:Exit->Act->World->Prop} {i:Nat} {o:Oper} {k:Nat} {u:bf} (ho:ops[i]? =some o) (h:St P Gl N V M a w ω) (U:gO w ω N a H)
 (c:evalW P Gl N ops.toList V M H o=some (k,u)) {K:Act->World->Prop}
 (W:∀w' L,ω.β k none=some L->aU w' ω (u++M)->One w w' L.b->K a w'):wpOp P ops Q i K a w:=by
 have e:=Fi (ops:=ops) h.frame H o;unfold wpOp;rw[ho];simp only;unfold evalW at c;split at c
 ·next T x y hd t v=>
  rw[t]at e;cases e with
  |yes X=>
   rw[if_pos X];left;have O:=ny h.frame (As:= []) (λp hp=>by cases hp) H U;have g:=O.c_ h.eo x;have z:=O.c_ h.eo y;split at c
   ·next k' st Y j R inf Z A hi=>
    split at c
    ·next l B S hlen d=>
     split at c
     ·next hle=>
      simp only[bF,bJ]at c;obtain⟨rfl,rfl⟩:=c;rw[Z]at g;have hm:=h.mem;obtain⟨e0,L,C,Sz,ex⟩:=gr hm B g;obtain⟨c1,c2⟩:=yt hm S C;obtain rfl:Y=0:=by omega
      simp only[yG,sP]at ex;have E:=yc hm A z;have h1:=Bf hm d E;have hlen:=a_ hlen;have G:(a.eval y).cells.size=inf.size:=by rw[<-kX,<-E.len,hlen]
      have I:(sizeOf T).run P w= .ok inf.size w:=by simp[sizeOf,run_typeInfo w hi,Result.andThen]
      obtain⟨w',r1,⟨M',s1,e1,e2⟩,o1⟩:=J7 (P:=P) R _ hm S E h1 (λs hs=>A1 (cY.1 d s hs)) C (bP hle) (ad:=⟨L.b,L.o+j,none⟩) 0 (by simp[Addr.add]);have run:(execOp a.eval o).run P w= .ok .skip w':=by simp[execOp,v,ex,Instr.storeAt,Instr.sureAddr,storeVar,I,G,r1,Result.andThen]
      have n:aU w' ω ([(k',{ae M k' with b:= .cells (nB l j R)})]++M):=s1.mem.congr λq=>by
       by_cases J:q=k'
       ·subst J;rw[e1];exact dk
       ·rw[e2 q J];exact cF (cA J)
      have r:=W w' L C n o1;unfold Oper.wp;rw[run];show K (a.put o.dst undef) w';rw[hd];exact r
     ·cases c
    ·cases c
   ·cases c
 ·cases c
end Go.Sy
