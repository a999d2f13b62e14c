/-
  Sy, the entry: what the data of a row's arguments stand for.
-/
import Derived.Test.YthgmgkabnffniaaGreatDoorYH
import Derived.ChangeArms
import Derived.OpenShut
import Derived.DataReads
import Derived.WideShapes
import Derived.Test.YthgmgkabnffniaaGreatDoorProg
import Derived.WalkKit
import Derived.LaidEql
import Derived.Stop.Asserts
import Derived.RowKitTokens
import Derived.Outline
import Derived.IntWalk
set_option linter.unusedVariables false
set_option linter.unusedSimpArgs false
namespace Go.Sy
open Go.RowKit
def o0:Ow:=⟨λ_=>False,λ_=>False,λ_ _=>none,λ_=>(0,0)⟩
variable {H:Type}
def fz:DataW H->Int| .lit (.int _ n)=>n|_=>0
def Ih:DataW H->Bool| .lit (.bool b)=>b|_=>false
def DC:DataW H->ByteArray| .lit (.string l)=>⟨l.toArray⟩|_=>ByteArray.empty
def xu:List (DataW H)->Nat->DataW H| [],_=> .nil|x::_,0=>x|_::r,n+1=>xu r n
def nT:DataW H->Nat->DataW H| .agg l,i=>xu l i|_,_=> .nil
def lU:DataW H->Nat| .slice l _=>l.length|_=>0
def oK:DataW H->Nat->DataW H| .slice l _,i=>xu l i|_,_=> .nil
def fieldAt (P:Program) (j:Nat):Nat->List Field->Option (Nat×Field)
 |_,[]=>none
 |k,f::r=>match Nat.ble f.offset j&&Nat.blt j (f.offset+P.cellsOf f.type)with|true=>some (k,f)|false=>fieldAt P j (k+1) r
def jg (P:Program):Nat->TypeId->DataW H->Nat->SV
 |0,_,_,_=> .aI
 |n+1,T,d,j=>
  match P.underlying T with
  |some (.int k)=>match j with|0=> .v (.int k (fz d))|_=> .aI
  |some .bool=>match j with|0=> .v (.bool (Ih d))|_=> .aI
  |some .string=>match j with|0=> .v (.string (DC d))|_=> .aI
  |some (.slice E)=>match j with|0=> .sl true (P.cellsOf E) (lU d) λa b=>jg P n E (oK d a) b|_=> .aI
  |some (.struct fs)=>match fieldAt P j 0 fs.toList with|some (k,f)=>jg P n f.type (nT d k) (j -f.offset)|none=> .aI
  |some (.array m E)=>match Nat.blt 0 (P.cellsOf E)&&Nat.blt (j/P.cellsOf E) m with|true=>jg P n E (nT d (j/P.cellsOf E)) (j%P.cellsOf E)|false=> .aI
  |_=> .aI
def Ii (P:Program) (T:TypeId) (d:DataW H):SV:=
 match P.underlying T with
 |some u=>match lT u with|true=> .ag (P.cellsOf T) (jg P 8 T d)|false=>jg P 8 T d 0
 |none=> .aI
def rB (P:Program):Nat->TypeId->DataW H->Prop
 |0,_,_=>True
 |n+1,T,d=>
  match P.underlying T with
  |some (.int k)=>k.wrap (fz d)=fz d
  |some .string=>((DC d).size:Int)<=9223372036854775807
  |some (.slice E)=>(lU d:Int)<=9223372036854775807/\∀i,i<lU d->rB P n E (oK d i)
  |some (.struct fs)=>Ij (rB P n) d 0 fs.toList
  |some (.array m E)=>∀i,i<m->rB P n E (nT d i)
  |_=>True
 where Ij (rec:TypeId->DataW H->Prop) (d:DataW H):Nat->List Field->Prop
 |_,[]=>True
 |k,f::r=>rec f.type (nT d k)/\Ij rec d (k+1) r
theorem BE:∀{l:List (DataW H)} {i:Nat} {x:DataW H},l[i]? =some x->xu l i=x
 | [],_,_,h=>by simp at h
 |_::_,0,_,h=>by simpa [xu]using h
 |_::_,i+1,_,h=>by simp only[xu];exact BE (by simpa using h)
theorem Jg {P:Program} {j:Nat}:∀{l:List Field} {k k':Nat} {f:Field},fieldAt P j k l=some (k',f)->k<=k'/\l[k' -k]? =some f/\f.offset<=j/\j<f.offset+P.cellsOf f.type
 | [],_,_,_,h=>by simp[fieldAt]at h
 |g::r,k,k',f,h=>by
  unfold fieldAt at h;split at h
  ·next b=>
   simp only[bF,bJ]at h;obtain⟨rfl,rfl⟩:=h;simp only[aW,lS,Nat.ble_eq,decide_eq_true_eq]at b;exact⟨bc _,by simp,b.1,b.2⟩
  ·obtain⟨h1,h2,c⟩:=Jg h;refine⟨by omega,?_,c⟩;rw[show k' -k=(k' -(k+1))+1 by omega];simpa using h2
theorem MJ {rec:TypeId->DataW H->Prop} {d:DataW H}:∀{l:List Field} {k:Nat},(∀i f,l[i]? =some f->rec f.type (nT d (k+i)))->rB.Ij rec d k l
 | [],_,_=>trivial
 |f::r,k,h=>⟨h 0 f rfl,MJ λi f b=>by have:=h (i+1) f (by simpa using b);rwa [show k+(i+1)=k+1+i by omega]at this⟩
theorem Xn {k:IntKind} {n:Int} (h:(Lit.int k n).wf=true):k.wrap n=n:=by cases k<;>simp[Lit.wf,IntKind.min,IntKind.max,IntKind.signed,IntKind.bits]at h<;>simp[IntKind.wrap,IntKind.signed,IntKind.bits]<;>(try split)<;>omega
variable {P:Program} {w:World} {enc:TypeId×Value->H} {base:Nat} {spare:Nat->Bool} {held:Bool}
theorem rT:∀(n fuel:Nat) {T:TypeId} {l:List Value} {x:DataW H×List MemPlace},DataW.trod enc P w base spare held fuel T l=some x->
 (∀j,j<l.length->∃y,l[j]? =some y/\Den w o0 (jg P n T x.1 j) y)/\rB P n T x.1
 |0,_,T,l,x,h=>⟨λj b=>⟨_,eO b,trivial⟩,trivial⟩
 |n+1,fuel,T,l,x,h=>by
  have aI:∀{s:Nat->SV},(∀j,s j= .aI)->∀j,j<l.length->∃y,l[j]? =some y/\Den w o0 (s j) y:=λhs j b=>⟨_,eO b,by rw[hs];trivial⟩;unfold jg rB;cases A:P.underlying T with
  |none=>exact⟨aI λ_=>rfl,trivial⟩
  |some u=>
   cases u with
   |int k=>
    obtain⟨z,rfl,rfl,X⟩:=DataW.trod_int A h;refine⟨λj b=>?_,Xn X⟩;obtain rfl:j=0:=by simp at b;exact b
    exact⟨_,rfl,rfl⟩
   |bool=>
    obtain⟨z,rfl,rfl⟩:=DataW.trod_bool A h;refine⟨λj b=>?_,trivial⟩;obtain rfl:j=0:=by simp at b;exact b
    exact⟨_,rfl,rfl⟩
   |string=>
    obtain⟨z,rfl,rfl,K⟩:=DataW.trod_string A h;have e:DC (.lit (.string z.data.toList):DataW H)=z:=by simp[DC]
    refine⟨λj b=>?_,by rw[e];unfold maxLen at K;omega⟩;obtain rfl:j=0:=by simp at b;exact b
    exact⟨_,rfl,by simp only[Den];rw[e]⟩
   |slice E=>
    rcases DataW.trod_slice A h with⟨rfl,rfl⟩|⟨a,len,cap,elems,rest,m,rfl,rfl,rfl,h1,h2,U,Y,Z,_,_⟩
    ·refine⟨λj b=>?_,by simp[lU],λi g=>absurd g (by simp[lU])⟩;obtain rfl:j=0:=by simp at b;exact b
     exact⟨_,rfl,none,0,rfl,bc _,gf _,.inl rfl⟩
    ·have hlen:lU (.slice (elems.map (·.1)) (rest.map (·.1)):DataW H)=len:=by simp[lU,Y]
     have V:∀i,i<len->∃y o,elems[i]? =some y/\oK (.slice (elems.map (·.1)) (rest.map (·.1)):DataW H) i=y.1/\w.cells? base (a.add (i*P.cellsOf E)) (P.cellsOf E)=some o/\DataW.trod enc P w base spare held m E o=some y:=by intro i g;have p:=Z i g;rw[eO (by omega)]at p;rw[MK]at p;obtain⟨o,t,B⟩:=p;exact⟨_,o,eO (by omega),BE (by rw[eX,eO (by omega)];rfl),t,B⟩
     refine⟨λj b=>?_,by rw[hlen];unfold maxLen at U;omega,λi g=>?_⟩
     ·obtain rfl:j=0:=by simp at b;exact b
      refine⟨_,rfl,some a,cap,by rw[hlen],by rw[hlen];exact h2,by rw[hlen];exact ft h2 U,.inr ⟨a,rfl,λi g q hq=>?_⟩⟩;rw[hlen]at g;obtain⟨y,o,p,t,B,I⟩:=V i g;obtain⟨g1,g2,g3⟩:=World.cells?_some B;obtain⟨z,c,d⟩:=(rT n m I).1 q (by omega);refine⟨z,?_,⟨id,λ_=>id⟩,by
       show Den w o0.bare (jg P n E (oK (.slice (elems.map (·.1)) (rest.map (·.1))) i) q) z;rw[t];exact d⟩
      have:=g3 q hq;rw[add_add]at this;rw[this];exact c
     ·rw[hlen]at g;obtain⟨y,o,p,t,B,I⟩:=V i g;rw[t];exact(rT n m I).2
   |struct fs=>
    obtain⟨xs,m,rfl,rfl,hl,O,R⟩:=DataW.trod_struct A h;have part:∀i f,fs.toList[i]? =some f->∃y,nT (.agg (xs.map (·.1)):DataW H) i=y.1/\DataW.trod enc P w base spare held m f.type ((l.drop f.offset).take (P.cellsOf f.type))=some y:=by
     intro i f g;have p:=R i f (by simpa using g);have C:i<xs.length:=by have:=(ik.1 g).1;simp at this;omega
     rw[eO C]at p;exact⟨_,BE (by rw[eX,eO C];rfl),p⟩
    refine⟨λj b=>?_,MJ λi f g=>?_⟩
    ·show∃y,_/\Den w o0 (match fieldAt P j 0 fs.toList with|some (k,f)=>jg P n f.type (nT _ k) (j -f.offset)|none=> .aI) y;cases S:fieldAt P j 0 fs.toList with
     |none=>exact⟨_,eO b,trivial⟩
     |some kf=>
      obtain⟨k,f⟩:=kf;obtain⟨_,t,B,I⟩:=Jg S;obtain⟨y,c,d⟩:=part k f (by simpa using t);have hlen:((l.drop f.offset).take (P.cellsOf f.type)).length=min (P.cellsOf f.type) (l.length -f.offset):=by simp
      obtain⟨z,r,v⟩:=(rT n m d).1 (j -f.offset) (by rw[hlen];omega);refine⟨z,?_,by show Den w o0 (jg P n f.type (nT (.agg (xs.map (·.1))) k) (j -f.offset)) z;rw[c];exact v⟩;rw[kU (by omega),pJ,show f.offset+(j -f.offset)=j by omega]at r;exact r
    ·rw[jY];obtain⟨y,c,d⟩:=part i f g;rw[c];exact(rT n m d).2
   |array q E=>
    obtain⟨xs,m,rfl,rfl,hl,O,R⟩:=DataW.trod_array A h;have part:∀i,i<q->∃y,nT (.agg (xs.map (·.1)):DataW H) i=y.1/\DataW.trod enc P w base spare held m E ((l.drop (i*P.cellsOf E)).take (P.cellsOf E))=some y:=by intro i g;have p:=R i g;rw[eO (by omega)]at p;exact⟨_,BE (by rw[eX,eO (by omega)];rfl),p⟩
    refine⟨λj b=>?_,λi g=>?_⟩
    ·show∃y,_/\Den w o0 (match Nat.blt 0 (P.cellsOf E)&&Nat.blt (j/P.cellsOf E) q with|true=>jg P n E (nT _ (j/P.cellsOf E)) (j%P.cellsOf E)|false=> .aI) y;cases J:Nat.blt 0 (P.cellsOf E)&&Nat.blt (j/P.cellsOf E) q with
     |false=>exact⟨_,eO b,trivial⟩
     |true=>
      rw[aW,lS,lS,decide_eq_true_eq,decide_eq_true_eq]at J;obtain⟨K,J⟩:=J;obtain⟨y,c,d⟩:=part _ J
      ·have W:=kQ j K;have G:=sS j (P.cellsOf E);rw[lC]at G;have hlen:((l.drop ((j/P.cellsOf E)*P.cellsOf E)).take (P.cellsOf E)).length=min (P.cellsOf E) (l.length -(j/P.cellsOf E)*P.cellsOf E):=by simp
       obtain⟨z,r,v⟩:=(rT n m d).1 (j%P.cellsOf E) (by rw[hlen];omega);refine⟨z,?_,by show Den w o0 (jg P n E (nT (.agg (xs.map (·.1))) (j/P.cellsOf E)) (j%P.cellsOf E)) z;rw[c];exact v⟩;rw[kU (by omega),pJ,G]at r;exact r
    ·obtain⟨y,c,d⟩:=part i g;rw[c];exact(rT n m d).2
   |_=>exact⟨aI λ_=>rfl,trivial⟩
theorem VB {T:TypeId} {v:Value} {d:DataW H} {p:List MemPlace} {r:Reach} {b:Nat} (h:DataW.Trod enc P w base spare held T v d p) (g:Value.okWide P w r b T v):Den w o0 (Ii P T d) v/\rB P 8 T d:=by
 obtain⟨fuel,h⟩:=h;obtain⟨h1,h2⟩:=rT 8 fuel h;refine⟨?_,h2⟩;have one:v.cells= #[v]->Den w o0 (jg P 8 T d 0) v:=λe=>by
  obtain⟨y,q,t⟩:=h1 0 (by rw[e];simp);rw[e]at q;obtain rfl:v=y:=by simpa using q
  exact t
 unfold Ii;cases o:P.underlying T with
 |none=>trivial
 |some u=>
  have agg:∀i,v= .agg i->i.size=P.cellsOf T->Den w o0 (.ag (P.cellsOf T) (jg P 8 T d)) v:=by rintro i rfl hs;refine⟨i,rfl,hs,λj z=>?_⟩;obtain⟨y,q,t⟩:=h1 j (by show j<i.toList.length;simp;omega);have q:i.toList[j]? =some y:=q;exact⟨y,by simpa using q,t⟩
  have x:jg P 8 T d 0= .aI->Den w o0 (jg P 8 T d 0) v:=λe=>by rw[e];trivial
  cases u with
  |struct fs=>unfold Value.okWide at g;rw[o]at g;obtain⟨i,e,hs,_⟩:=g;exact agg i e hs
  |array n E=>unfold Value.okWide at g;rw[o]at g;obtain⟨i,e,hs,_⟩:=g;exact agg i e hs
  |int k=>obtain⟨n,rfl⟩:=WideShapes.okWide_int o g;exact one rfl
  |bool=>obtain⟨n,rfl⟩:=WideShapes.okWide_bool o g;exact one rfl
  |string=>obtain⟨n,rfl⟩:=WideShapes.okWide_string o g;exact one rfl
  |slice E=>obtain⟨a,l,c,rfl⟩:=WideShapes.okWide_slice o g;exact one rfl
  |_=>exact x (by unfold jg;rw[o])
def zE (P:Program):List TypeId->List (DataW H)->List SV
 |t::b,d::ds=>Ii P t d::zE P b ds
 |_,_=> []
def zY (P:Program):List TypeId->List (DataW H)->Prop
 |t::b,d::ds=>rB P 8 t d/\zY P b ds
 |_,_=>True
theorem Kk {r:Reach} {b:Nat}:∀{c:List TypeId} {vs:List Value} {ds:List (DataW H)} {p:List MemPlace},DataW.TrodAll enc P w base spare held c vs ds p->
 (∀(j:Nat) t v,c[j]? =some t->vs[j]? =some v->Value.okWide P w r b t v)->bY w o0 (zE P c ds) vs/\zY P c ds
 | [],[],[],_,_,_=>⟨trivial,trivial⟩
 |t::c,v::vs,d::ds,_,⟨p,q,h1,h2,_⟩,e=>by obtain⟨g,i⟩:=VB h1 (e 0 t v rfl rfl);obtain⟨k,l⟩:=Kk h2 (λj t v h n=>e (j+1) t v (by simpa using h) (by simpa using n));exact⟨⟨g,k⟩,i,l⟩
theorem adj (W:World):aU W o0 (dh 0 []):=⟨(Bg []).symm,λb ⟨k,p,L,h,_⟩=>(by cases h),λ_ h=>False.elim h,λ_ h=>False.elim h,λ_ h=>False.elim h,λ_ _ _ _ _ _ h=>(by cases h),λ_ _ _ h=>(by cases h),λ_ _ _ h=>(by cases h),λ_ _ h=>(by cases h),λ_ _ _ _=>rfl⟩
theorem VC {Gl:Nat->SV} {f:Nat} {c:aZ} (l:aY P Gl f c) {d:List TypeId} {vs:Array Value} {ds:List (DataW H)} {p:List MemPlace} {r:Reach} {b:Nat}
 (o:∀ds:List (DataW H),ds.length=d.length->zY P d ds->∃pr,c.g (zE P d ds) []=some (pr,.v (.bool true),[])/\pr)
 (q:∀g,Den w o0.bare (Gl g) (.pointer (some ⟨g,0,none⟩))) (h:DataW.TrodAll enc P w base spare held d vs.toList ds p) (hl:ds.length=d.length)
 (u:∀(j:Nat) t v,d[j]? =some t->vs[j]? =some v->Value.okWide P w r b t v):
 Calls P f vs w λe W'=>e= .returned (.bool true)/\Below w.heap.size w W':=by
 obtain⟨h1,h2⟩:=Kk h (λj t v e e'=>u j t v e (by simpa using e'));obtain⟨pr,x,y⟩:=o ds hl h2;refine(l.fn _ _ _ _ _ x y w o0 vs q (adj w) h1).mono ?_;rintro e W' ⟨v,aq,rfl,i,_,n,_⟩;have n:v= .bool true:=n;exact⟨by rw[n],i.os,i.tape,i.output,i.size,λk z=>i.same k z id⟩
theorem aY.up {Gl b:Nat->SV} {f:Nat} {c:aZ} (h:aY P b f c) (d:∀g,b g=Gl g\/b g= .aI):aY P Gl f c:=
 ⟨h.call,λargs mem pre res bH e hp w ω vs i=>h.fn args mem pre res bH e hp w ω vs λg=>by
   rcases d g with e|e
   ·rw[e];exact i g
   ·rw[e];trivial,h.pj⟩
def DD:Option (Prop×SV×List bp)->Prop
 |some (p,.v (.bool true),[])=>p
 |_=>False
theorem UA {x:Option (Prop×SV×List bp)} (h:DD x):∃pr,x=some (pr,.v (.bool true),[])/\pr:=by
 unfold DD at h;split at h
 ·exact⟨_,rfl,h⟩
 ·exact h.elim
def abw (P:Program) (b:List TypeId):Array Value:=(b.map λt=>match P.info? t with|some i=>i.zero.getD undef|none=>undef).toArray
end Go.Sy
namespace Go.Proofs.YthgmgkabnffniaaGreatDoor
open Go.RowKit Go.Extern.Stop Go.Stop Go.Extern
/-! 66: *api.Fault · 68: **api.Fault · 43: api.Errno · 71: *api.Errno · 31: error · 136: reflectlite's rtype · 6: how many variables -/
theorem A.Dl (t:Addr) (w:World):(ReflectliteValue.unpack (.iface 68 (.pointer (some t)))).run Tryz.prog w
 = .ok (.agg #[.pointer (some ⟨3,68,none⟩),.pointer (some ⟨w.heap.size,0,none⟩),.int .u64 150]) (w.alloc (.cells #[.pointer (some t)] 68)):=by kernel_rfl
theorem A.Dm (t:Addr) (w:World):(ReflectliteValue.unpack (.iface 71 (.pointer (some t)))).run Tryz.prog w
 = .ok (.agg #[.pointer (some ⟨3,71,none⟩),.pointer (some ⟨w.heap.size,0,none⟩),.int .u64 150]) (w.alloc (.cells #[.pointer (some t)] 71)):=by kernel_rfl
theorem A.Dn (a : Addr) (w : World) : (ReflectliteValue.methodAny (ReflectliteValue.valueError "reflectlite.Value.Type" 0) (fun t _ _ _ => ReflectliteType.toType t) #[.agg #[.pointer (some ⟨3, 68, none⟩), .pointer (some a), .int .u64 150]]).run Tryz.prog w
 = .ok (.iface 136 (.agg #[.pointer (some ⟨3,68,none⟩)])) w:=by kernel_rfl
theorem A.Dp (a : Addr) (w : World) : (ReflectliteValue.methodAny (ReflectliteValue.valueError "reflectlite.Value.Type" 0) (fun t _ _ _ => ReflectliteType.toType t) #[.agg #[.pointer (some ⟨3, 71, none⟩), .pointer (some a), .int .u64 150]]).run Tryz.prog w
 = .ok (.iface 136 (.agg #[.pointer (some ⟨3,71,none⟩)])) w:=by kernel_rfl
theorem A.Dh (h : Value) (w : World) : (Go.method 317 136 (.agg #[h]) "Kind").run Tryz.prog w = .ok (151, h) w := by kernel_rfl
theorem A.DX (w:World):((ReflectliteType.abiMethod λt=>(λa:Nat=>Value.int IntKind.u8 (a:Int))<$>Rtype.kind t) #[.pointer (some ⟨3,68,none⟩)]).run Tryz.prog w= .ok (.int .u8 22) w:=by kernel_rfl
theorem A.DY (w:World):((ReflectliteType.abiMethod λt=>(λa:Nat=>Value.int IntKind.u8 (a:Int))<$>Rtype.kind t) #[.pointer (some ⟨3,71,none⟩)]).run Tryz.prog w= .ok (.int .u8 22) w:=by kernel_rfl
theorem A.Er (w:World):((ReflectliteType.abiMethod λt=>(λa:Nat=>Value.int IntKind.u8 (a:Int))<$>Rtype.kind t) #[.pointer (some ⟨3,66,none⟩)]).run Tryz.prog w= .ok (.int .u8 22) w:=by kernel_rfl
theorem A.Es (w:World):((ReflectliteType.abiMethod λt=>(λa:Nat=>Value.int IntKind.u8 (a:Int))<$>Rtype.kind t) #[.pointer (some ⟨3,43,none⟩)]).run Tryz.prog w= .ok (.int .u8 2) w:=by kernel_rfl
theorem A.Di (h : Value) (w : World) : (Go.method 317 136 (.agg #[h]) "Elem").run Tryz.prog w = .ok (163, .agg #[h]) w := by kernel_rfl
theorem A.Dj (h : Value) (w : World) : (Go.method 317 136 (.agg #[h]) "Implements").run Tryz.prog w = .ok (164, .agg #[h]) w := by kernel_rfl
theorem A.Dk (h : Value) (w : World) : (Go.method 317 136 (.agg #[h]) "AssignableTo").run Tryz.prog w = .ok (161, .agg #[h]) w := by kernel_rfl
theorem A.Dq (w:World):(ReflectliteType.method ReflectliteType.elem #[.agg #[.pointer (some ⟨3,68,none⟩)]]).run Tryz.prog w= .ok (.iface 136 (.agg #[.pointer (some ⟨3,66,none⟩)])) w:=by kernel_rfl
theorem A.Dr (w:World):(ReflectliteType.method ReflectliteType.elem #[.agg #[.pointer (some ⟨3,71,none⟩)]]).run Tryz.prog w= .ok (.iface 136 (.agg #[.pointer (some ⟨3,43,none⟩)])) w:=by kernel_rfl
theorem A.DZ (w : World) : (ReflectliteType.relation "Implements" ReflectliteType.implements_ #[.agg #[.pointer (some ⟨3, 66, none⟩)], .iface 136 (.agg #[.pointer (some ⟨3, 31, none⟩)])]).run Tryz.prog w = .ok (.bool true) w := by kernel_rfl
theorem A.D0 (w : World) : (ReflectliteType.relation "Implements" ReflectliteType.implements_ #[.agg #[.pointer (some ⟨3, 43, none⟩)], .iface 136 (.agg #[.pointer (some ⟨3, 31, none⟩)])]).run Tryz.prog w = .ok (.bool true) w := by kernel_rfl
theorem A.DR (v:Value) (w:World):(ReflectliteType.typeOf #[.iface 66 v]).run Tryz.prog w= .ok (.iface 136 (.agg #[.pointer (some ⟨3,66,none⟩)])) w:=by kernel_rfl
theorem A.DS (v:Value) (w:World):(ReflectliteType.typeOf #[.iface 43 v]).run Tryz.prog w= .ok (.iface 136 (.agg #[.pointer (some ⟨3,43,none⟩)])) w:=by kernel_rfl
theorem A.DT (w : World) : (ReflectliteType.relation "AssignableTo" ReflectliteType.assignableTo #[.agg #[.pointer (some ⟨3, 66, none⟩)], .iface 136 (.agg #[.pointer (some ⟨3, 66, none⟩)])]).run Tryz.prog w = .ok (.bool true) w := by kernel_rfl
theorem A.DU (w : World) : (ReflectliteType.relation "AssignableTo" ReflectliteType.assignableTo #[.agg #[.pointer (some ⟨3, 43, none⟩)], .iface 136 (.agg #[.pointer (some ⟨3, 43, none⟩)])]).run Tryz.prog w = .ok (.bool true) w := by kernel_rfl
theorem A.CT (w : World) : (ReflectliteType.relation "AssignableTo" ReflectliteType.assignableTo #[.agg #[.pointer (some ⟨3, 66, none⟩)], .iface 136 (.agg #[.pointer (some ⟨3, 43, none⟩)])]).run Tryz.prog w = .ok (.bool false) w := by kernel_rfl
theorem A.CU (w : World) : (ReflectliteType.relation "AssignableTo" ReflectliteType.assignableTo #[.agg #[.pointer (some ⟨3, 43, none⟩)], .iface 136 (.agg #[.pointer (some ⟨3, 66, none⟩)])]).run Tryz.prog w = .ok (.bool false) w := by kernel_rfl
theorem A.DV (e:Addr) (w:World):(ReflectliteValue.unpack (.iface 66 (.pointer (some e)))).run Tryz.prog w
 = .ok (.agg #[.pointer (some ⟨3,66,none⟩),.pointer (some ⟨w.heap.size,0,none⟩),.int .u64 150]) (w.alloc (.cells #[.pointer (some e)] 66)):=by kernel_rfl
theorem A.DW (e:Int) (w:World):(ReflectliteValue.unpack (.iface 43 (.int .i64 e))).run Tryz.prog w
 = .ok (.agg #[.pointer (some ⟨3,43,none⟩),.pointer (some ⟨w.heap.size,0,none⟩),.int .u64 130]) (w.alloc (.cells #[.int .i64 e] 43)):=by kernel_rfl
theorem A.BH (v:Value) (w:World):(Instr.typeAssert (.iface 43 v) 31 141 true).run Tryz.prog w= .ok (.tuple #[.nilIface,.bool false]) w:=run_typeAssert_lacksB Tryz.underlying141 (by kernel_rfl) (by kernel_rfl) v 31 w
theorem A.BI (v:Value) (w:World):(Instr.typeAssert (.iface 43 v) 31 144 true).run Tryz.prog w= .ok (.tuple #[.nilIface,.bool false]) w:=run_typeAssert_lacksB Tryz.underlying144 (by kernel_rfl) (by kernel_rfl) v 31 w
theorem A.BJ (v:Value) (w:World):(Instr.typeAssert (.iface 43 v) 31 145 true).run Tryz.prog w= .ok (.tuple #[.nilIface,.bool false]) w:=run_typeAssert_lacksB Tryz.underlying145 (by kernel_rfl) (by kernel_rfl) v 31 w
theorem A.BK (v:Value) (w:World):(Instr.typeAssert (.iface 66 v) 31 141 true).run Tryz.prog w= .ok (.tuple #[.nilIface,.bool false]) w:=run_typeAssert_lacksB Tryz.underlying141 (by kernel_rfl) (by kernel_rfl) v 31 w
theorem A.BL (v:Value) (w:World):(Instr.typeAssert (.iface 66 v) 31 144 true).run Tryz.prog w= .ok (.tuple #[.iface 66 v,.bool true]) w:=run_typeAssert_hasB Tryz.underlying144 (by kernel_rfl) v 31 w
theorem A.Ch (e : Addr) (w : World) : (Go.method 317 66 (.pointer (some e)) "Unwrap").run Tryz.prog w = .ok (156, .pointer (some e)) w := by kernel_rfl
theorem A.Et (z:Sem Value) (f:TypeId->Addr->Nat->Nat->Sem Value) (v:Value):
 ReflectliteValue.method z f #[v]=(do match<-ReflectliteValue.parts v with|none=>z|some (t,a,b)=>f t a b (b%32)):=rfl
theorem A.S3 (v x:Value):ReflectliteValue.set #[v,x]=(do
 let(some (dst,a,c),some (src,b,_)):=(<-ReflectliteValue.parts v,<-ReflectliteValue.parts x)
  | unsupported (.noEntry "extern/(internal/reflectlite.Value).Set.zeroValue")
 if c / ReflectliteValue.flagAddr % 2 == 0 then unsupported (.noEntry "extern/(internal/reflectlite.Value).Set.unaddressable")
 let val<-loadVar src b
 if<-Rtype.directlyAssignable dst src then storeVar dst a val
 else if<-Rtype.implements dst src then
  if(<-Rtype.kind src)==20 then
   match val with
   | .nilIface => unsupported (.noEntry "extern/reflectlite: a nil value of one interface type handed on as a value of another")
   |_=>storeVar dst a val
  else storeVar dst a (.iface src val)
 else panicString ("reflectlite.Set: value of type " ++ (← Rtype.spelt src) ++ " is not assignable to type " ++ (← Rtype.spelt dst))
 pure (.tuple #[])):=rfl
theorem A.Lf (a:Addr) (w:World):(ReflectliteValue.parts (.agg #[.pointer (some ⟨3,68,none⟩),.pointer (some a),.int .u64 150])).run Tryz.prog w= .ok (some (68,a,150)) w:=by kernel_rfl
theorem A.Lc (a p:Addr) (W:World) (b:W.cell? a=some (.pointer (some p))):
 (ReflectliteValue.method (ReflectliteValue.valueError "reflectlite.Value.IsNil" 0) ReflectliteValue.isNil #[.agg #[.pointer (some ⟨3, 68, none⟩), .pointer (some a), .int .u64 150]]).run Tryz.prog W = .ok (.bool false) W := by
 rw[A.Et];simp only[Sem.run_bind,A.Lf,Result.andThen];simp[ReflectliteValue.isNil,loadVar,isAgg,underlying,Tryz.underlying68,b,Result.andThen]
theorem A.UJ (w:World):(Rtype.elem? 68).run Tryz.prog w= .ok (some 66) w:=by kernel_rfl
theorem A.ads (p:Addr) (w:World):(ReflectliteValue.mk 66 p ReflectliteValue.flagAddr).run Tryz.prog w= .ok (.agg #[.pointer (some ⟨3,66,none⟩),.pointer (some p),.int .u64 406]) w:=by kernel_rfl
theorem A.VR (a p:Addr) (W:World) (b:W.cell? a=some (.pointer (some p))):
 (ReflectliteValue.method (ReflectliteValue.valueError "reflectlite.Value.Elem" 0) ReflectliteValue.elem #[.agg #[.pointer (some ⟨3, 68, none⟩), .pointer (some a), .int .u64 150]]).run Tryz.prog W
   = .ok (.agg #[.pointer (some ⟨3,66,none⟩),.pointer (some p),.int .u64 406]) W:=by
 rw[A.Et];simp only[Sem.run_bind,A.Lf,Result.andThen];simp[ReflectliteValue.elem,loadVar,isAgg,underlying,Tryz.underlying68,b,Result.andThen,A.UJ,A.ads]
theorem A.VS (a:Addr) (w:World):(ReflectliteValue.parts (.agg #[.pointer (some ⟨3,66,none⟩),.pointer (some a),.int .u64 406])).run Tryz.prog w= .ok (some (66,a,406)) w:=by kernel_rfl
theorem A.XI (a:Addr) (w:World):(ReflectliteValue.parts (.agg #[.pointer (some ⟨3,66,none⟩),.pointer (some a),.int .u64 150])).run Tryz.prog w= .ok (some (66,a,150)) w:=by kernel_rfl
theorem A.VT (w:World):(Rtype.directlyAssignable 66 66).run Tryz.prog w= .ok true w:=by kernel_rfl
theorem A.ab0 (c b:Addr) (e:Addr) (d:Value) (W:World) (g:W.cell? b=some (.pointer (some e))) (h:W.cell? c=some d) (i:W.frozen? c=false):
 (ReflectliteValue.set #[.agg #[.pointer (some ⟨3,66,none⟩),.pointer (some c),.int .u64 406],.agg #[.pointer (some ⟨3,66,none⟩),.pointer (some b),.int .u64 150]]).run Tryz.prog W
   = .ok (.tuple #[]) (W.setCell c (.pointer (some e))):=by
 rw[A.S3];simp only[Sem.run_bind,A.VS,A.XI,Result.andThen];simp[ReflectliteValue.flagAddr,loadVar,isAgg,underlying,Tryz.underlying66,g,Result.andThen,A.VT,storeVar,Value.cells,storeCells,Addr.add];rw[run_store Tryz.prog W c _ _ (by rfl)];simp[h,i]
theorem A.Lh (a:Addr) (w:World):(ReflectliteValue.parts (.agg #[.pointer (some ⟨3,71,none⟩),.pointer (some a),.int .u64 150])).run Tryz.prog w= .ok (some (71,a,150)) w:=by kernel_rfl
theorem A.Ld (a p:Addr) (W:World) (b:W.cell? a=some (.pointer (some p))):
 (ReflectliteValue.method (ReflectliteValue.valueError "reflectlite.Value.IsNil" 0) ReflectliteValue.isNil #[.agg #[.pointer (some ⟨3, 71, none⟩), .pointer (some a), .int .u64 150]]).run Tryz.prog W = .ok (.bool false) W := by
 rw[A.Et];simp only[Sem.run_bind,A.Lh,Result.andThen];simp[ReflectliteValue.isNil,loadVar,isAgg,underlying,Tryz.underlying71,b,Result.andThen]
theorem A.UK (w:World):(Rtype.elem? 71).run Tryz.prog w= .ok (some 43) w:=by kernel_rfl
theorem A.adt (p:Addr) (w:World):(ReflectliteValue.mk 43 p ReflectliteValue.flagAddr).run Tryz.prog w= .ok (.agg #[.pointer (some ⟨3,43,none⟩),.pointer (some p),.int .u64 386]) w:=by kernel_rfl
theorem A.Le (a p:Addr) (W:World) (b:W.cell? a=some (.pointer (some p))):
 (ReflectliteValue.method (ReflectliteValue.valueError "reflectlite.Value.Elem" 0) ReflectliteValue.elem #[.agg #[.pointer (some ⟨3, 71, none⟩), .pointer (some a), .int .u64 150]]).run Tryz.prog W
   = .ok (.agg #[.pointer (some ⟨3,43,none⟩),.pointer (some p),.int .u64 386]) W:=by
 rw[A.Et];simp only[Sem.run_bind,A.Lh,Result.andThen];simp[ReflectliteValue.elem,loadVar,isAgg,underlying,Tryz.underlying71,b,Result.andThen,A.UK,A.adt]
theorem A.VU (a:Addr) (w:World):(ReflectliteValue.parts (.agg #[.pointer (some ⟨3,43,none⟩),.pointer (some a),.int .u64 386])).run Tryz.prog w= .ok (some (43,a,386)) w:=by kernel_rfl
theorem A.XJ (a:Addr) (w:World):(ReflectliteValue.parts (.agg #[.pointer (some ⟨3,43,none⟩),.pointer (some a),.int .u64 130])).run Tryz.prog w= .ok (some (43,a,130)) w:=by kernel_rfl
theorem A.VV (w:World):(Rtype.directlyAssignable 43 43).run Tryz.prog w= .ok true w:=by kernel_rfl
theorem A.Rl (c b:Addr) (e:Int) (d:Value) (W:World) (g:W.cell? b=some (.int .i64 e)) (h:W.cell? c=some d) (i:W.frozen? c=false):
 (ReflectliteValue.set #[.agg #[.pointer (some ⟨3,43,none⟩),.pointer (some c),.int .u64 386],.agg #[.pointer (some ⟨3,43,none⟩),.pointer (some b),.int .u64 130]]).run Tryz.prog W
   = .ok (.tuple #[]) (W.setCell c (.int .i64 e)):=by
 rw[A.S3];simp only[Sem.run_bind,A.VU,A.XJ,Result.andThen];simp[ReflectliteValue.flagAddr,loadVar,isAgg,underlying,Tryz.underlying43,g,Result.andThen,A.VV,storeVar,Value.cells,storeCells,Addr.add];rw[run_store Tryz.prog W c _ _ (by rfl)];simp[h,i]
theorem A.DG (args:Array Value) (w:World):(callFunc 58 args).run Tryz.prog w=(((λargs=>ReflectliteValue.unpack (args.getD 0 (.tuple #[]))) args).run Tryz.prog w).andThen λv w'=> .ok (.value v) w':= @run_callFunc_extern Tryz.prog 58 _ (λargs=>ReflectliteValue.unpack (args.getD 0 (.tuple #[]))) Tryz.func58 (by kernel_rfl) (by kernel_rfl) (by kernel_rfl) (by kernel_rfl) args w
theorem A.DH (args : Array Value) (w : World) : (callFunc 59 args).run Tryz.prog w = (((ReflectliteValue.methodAny (ReflectliteValue.valueError "reflectlite.Value.Type" 0) (fun t _ _ _ => ReflectliteType.toType t)) args).run Tryz.prog w).andThen fun v w' => .ok (.value v) w' := @run_callFunc_extern Tryz.prog 59 _ (ReflectliteValue.methodAny (ReflectliteValue.valueError "reflectlite.Value.Type" 0) (fun t _ _ _ => ReflectliteType.toType t)) Tryz.func59 (by kernel_rfl) (by kernel_rfl) (by kernel_rfl) (by kernel_rfl) args w
theorem A.DI (args : Array Value) (w : World) : (callFunc 60 args).run Tryz.prog w = (((ReflectliteValue.method (ReflectliteValue.valueError "reflectlite.Value.IsNil" 0) ReflectliteValue.isNil) args).run Tryz.prog w).andThen fun v w' => .ok (.value v) w' := @run_callFunc_extern Tryz.prog 60 _ (ReflectliteValue.method (ReflectliteValue.valueError "reflectlite.Value.IsNil" 0) ReflectliteValue.isNil) Tryz.func60 (by kernel_rfl) (by kernel_rfl) (by kernel_rfl) (by kernel_rfl) args w
theorem A.DJ (args:Array Value) (w:World):(callFunc 151 args).run Tryz.prog w=(((ReflectliteType.abiMethod λt=>do pure (.int .u8 (<-Rtype.kind t))) args).run Tryz.prog w).andThen λv w'=> .ok (.value v) w':= @run_callFunc_extern Tryz.prog 151 _ (ReflectliteType.abiMethod λt=>do pure (.int .u8 (<-Rtype.kind t))) Tryz.func151 (by kernel_rfl) (by kernel_rfl) (by kernel_rfl) (by kernel_rfl) args w
theorem A.DL (args:Array Value) (w:World):(callFunc 163 args).run Tryz.prog w=(((ReflectliteType.method ReflectliteType.elem) args).run Tryz.prog w).andThen λv w'=> .ok (.value v) w':= @run_callFunc_extern Tryz.prog 163 _ (ReflectliteType.method ReflectliteType.elem) Tryz.func163 (by kernel_rfl) (by kernel_rfl) (by kernel_rfl) (by kernel_rfl) args w
theorem A.DM (args : Array Value) (w : World) : (callFunc 164 args).run Tryz.prog w = (((ReflectliteType.relation "Implements" ReflectliteType.implements_) args).run Tryz.prog w).andThen fun v w' => .ok (.value v) w' := @run_callFunc_extern Tryz.prog 164 _ (ReflectliteType.relation "Implements" ReflectliteType.implements_) Tryz.func164 (by kernel_rfl) (by kernel_rfl) (by kernel_rfl) (by kernel_rfl) args w
theorem A.DN (args:Array Value) (w:World):(callFunc 88 args).run Tryz.prog w=((ReflectliteType.typeOf args).run Tryz.prog w).andThen λv w'=> .ok (.value v) w':= @run_callFunc_extern Tryz.prog 88 _ ReflectliteType.typeOf Tryz.func88 (by kernel_rfl) (by kernel_rfl) (by kernel_rfl) (by kernel_rfl) args w
theorem A.DO (args : Array Value) (w : World) : (callFunc 161 args).run Tryz.prog w = (((ReflectliteType.relation "AssignableTo" ReflectliteType.assignableTo) args).run Tryz.prog w).andThen fun v w' => .ok (.value v) w' := @run_callFunc_extern Tryz.prog 161 _ (ReflectliteType.relation "AssignableTo" ReflectliteType.assignableTo) Tryz.func161 (by kernel_rfl) (by kernel_rfl) (by kernel_rfl) (by kernel_rfl) args w
theorem A.DP (args : Array Value) (w : World) : (callFunc 89 args).run Tryz.prog w = (((ReflectliteValue.method (ReflectliteValue.valueError "reflectlite.Value.Elem" 0) ReflectliteValue.elem) args).run Tryz.prog w).andThen fun v w' => .ok (.value v) w' := @run_callFunc_extern Tryz.prog 89 _ (ReflectliteValue.method (ReflectliteValue.valueError "reflectlite.Value.Elem" 0) ReflectliteValue.elem) Tryz.func89 (by kernel_rfl) (by kernel_rfl) (by kernel_rfl) (by kernel_rfl) args w
theorem A.DQ (args:Array Value) (w:World):(callFunc 90 args).run Tryz.prog w=((ReflectliteValue.set args).run Tryz.prog w).andThen λv w'=> .ok (.value v) w':= @run_callFunc_extern Tryz.prog 90 _ ReflectliteValue.set Tryz.func90 (by kernel_rfl) (by kernel_rfl) (by kernel_rfl) (by kernel_rfl) args w
theorem A.fu {w:World} {a:Addr} {x:Value} (h:w.cell? a=some x):a.block<w.heap.size:=by
 rcases bR a.block w.heap.size with b|b
 ·exact b
 ·simp[World.cell?,qW b]at h
theorem A.Zk (e:Addr) (v:Value) (w:World) (h:w.cell? ⟨e.block,e.off+1,none⟩=some v):
 Calls Tryz.prog 156 #[.pointer (some e)] w λev w'=>ev= .returned v/\w'=w:=by
 go_enter Tryz.func156,Tryz.ntmps156
 go_wp2
 go_ret
 exact⟨rfl,rfl⟩
set_option maxHeartbeats 4000000 in
theorem A.adr (e:Addr) (t:Addr) (j:Value) (w:World) (hg:w.cell? ⟨0,0,none⟩=some (.iface 136 (.agg #[.pointer (some ⟨3,31,none⟩)]))) (k:w.cell? t=some j) (E:w.frozen? t=false):
 Calls Tryz.prog 34 #[.iface 66 (.pointer (some e)),.iface 68 (.pointer (some t))] w λev w'=>ev= .returned (.bool true)/\w'=(((((w.alloc (.cells #[.pointer (some t)] 68)).alloc (.cells #[.pointer (some ⟨3,68,none⟩),.pointer (some ⟨w.heap.size,0,none⟩),.int .u64 150] 95)).alloc (.cells #[.pointer (some ⟨3,68,none⟩),.pointer (some ⟨w.heap.size,0,none⟩),.int .u64 150] 95)).alloc (.cells #[.pointer (some e)] 66))).setCell t (.pointer (some e)):=by
 have G:=A.DG;have I:=A.DH;have J:=A.DI;have K:=A.DJ;have O:=A.DL;have R:=A.DM;have S:=A.DN;have T:=A.DO;have U:=A.DP;have V:=A.DQ;have p:=A.Dh;have q:=A.Di;have r:=A.Dj;have u:=A.Dk;have W:=A.DR;have X:=A.DS;have Y:=A.DT;have Z:=A.DU;have l:=A.CT;have n:=A.CU;have Rj:=A.DV;have Rk:=A.DW;have v:=A.Dl;have x:=A.Dm;have y:=A.Dn;have z:=A.Dp;have HV:=A.DX;have HW:=A.DY;have Il:=A.Er;have Im:=A.Es;have B:=A.Dq;have C:=A.Dr;have HX:=A.DZ;have HY:=A.D0;have b:=A.BH;have c:=A.BI;have d:=A.BJ;have g:=A.BK;have h:=A.BL;have i:=A.Ch;have n8:=A.Lc ⟨w.heap.size,0,none⟩ t ((w.alloc (.cells #[.pointer (some t)] 68)).alloc (.cells #[.pointer (some ⟨3,68,none⟩),.pointer (some ⟨w.heap.size,0,none⟩),.int .u64 150] 95)) (by simp);have jl:0<w.heap.size:=A.fu hg;have o:t.block<w.heap.size:=A.fu k;have I6:(((w.alloc (.cells #[.pointer (some t)] 68)).alloc (.cells #[.pointer (some ⟨3,68,none⟩),.pointer (some ⟨w.heap.size,0,none⟩),.int .u64 150] 95))).cell? ⟨0,0,none⟩=some (.iface 136 (.agg #[.pointer (some ⟨3,31,none⟩)])):=by
  rw[World.cell?_alloc_lt _ _ ⟨0,0,none⟩ (by simp<;>omega),World.cell?_alloc_lt _ _ ⟨0,0,none⟩ jl];exact hg
 have el:=A.VR ⟨w.heap.size,0,none⟩ t (((w.alloc (.cells #[.pointer (some t)] 68)).alloc (.cells #[.pointer (some ⟨3,68,none⟩),.pointer (some ⟨w.heap.size,0,none⟩),.int .u64 150] 95)).alloc (.cells #[.pointer (some ⟨3,68,none⟩),.pointer (some ⟨w.heap.size,0,none⟩),.int .u64 150] 95)) (by rw[World.cell?_alloc_lt _ _ ⟨w.heap.size,0,none⟩ (by simp<;>omega)];simp);have st:=A.ab0 t ⟨w.heap.size+1+1+1,0,none⟩ e j ((((w.alloc (.cells #[.pointer (some t)] 68)).alloc (.cells #[.pointer (some ⟨3,68,none⟩),.pointer (some ⟨w.heap.size,0,none⟩),.int .u64 150] 95)).alloc (.cells #[.pointer (some ⟨3,68,none⟩),.pointer (some ⟨w.heap.size,0,none⟩),.int .u64 150] 95)).alloc (.cells #[.pointer (some e)] 66))
  (by rw[World.cell?_alloc_at _ _ _ _ (by simp)];rfl)
  (by rw[World.cell?_alloc_lt _ _ t (by simp<;>omega),World.cell?_alloc_lt _ _ t (by simp<;>omega),World.cell?_alloc_lt _ _ t (by simp<;>omega),World.cell?_alloc_lt _ _ t o];exact k)
  (by rw[World.frozen?_alloc_old _ _ t (by simp<;>omega),World.frozen?_alloc_old _ _ t (by simp<;>omega),World.frozen?_alloc_old _ _ t (by simp<;>omega),World.frozen?_alloc_old _ _ t (Nat.ne_of_lt o)];exact E)
 go_enter Tryz.func34,Tryz.ntmps34
 go_wp2
 refine wp_loop_rounds 1 ?_;rw[rounds_succ]
 go_wp2
 go_ret
 exact⟨rfl,rfl⟩
set_option maxHeartbeats 4000000 in
theorem A.adq (c:Int) (t:Addr) (j:Value) (w:World) (hg:w.cell? ⟨0,0,none⟩=some (.iface 136 (.agg #[.pointer (some ⟨3,31,none⟩)]))) (k:w.cell? t=some j) (E:w.frozen? t=false):
 Calls Tryz.prog 34 #[.iface 43 (.int .i64 c),.iface 71 (.pointer (some t))] w λev w'=>ev= .returned (.bool true)/\w'=(((((w.alloc (.cells #[.pointer (some t)] 71)).alloc (.cells #[.pointer (some ⟨3,71,none⟩),.pointer (some ⟨w.heap.size,0,none⟩),.int .u64 150] 95)).alloc (.cells #[.pointer (some ⟨3,71,none⟩),.pointer (some ⟨w.heap.size,0,none⟩),.int .u64 150] 95)).alloc (.cells #[.int .i64 c] 43))).setCell t (.int .i64 c):=by
 have G:=A.DG;have I:=A.DH;have J:=A.DI;have K:=A.DJ;have O:=A.DL;have R:=A.DM;have S:=A.DN;have T:=A.DO;have U:=A.DP;have V:=A.DQ;have p:=A.Dh;have q:=A.Di;have r:=A.Dj;have u:=A.Dk;have W:=A.DR;have X:=A.DS;have Y:=A.DT;have Z:=A.DU;have l:=A.CT;have n:=A.CU;have Rj:=A.DV;have Rk:=A.DW;have v:=A.Dl;have x:=A.Dm;have y:=A.Dn;have z:=A.Dp;have HV:=A.DX;have HW:=A.DY;have Il:=A.Er;have Im:=A.Es;have B:=A.Dq;have C:=A.Dr;have HX:=A.DZ;have HY:=A.D0;have b:=A.BH;have d:=A.BI;have e:=A.BJ;have g:=A.BK;have h:=A.BL;have i:=A.Ch;have n8:=A.Ld ⟨w.heap.size,0,none⟩ t ((w.alloc (.cells #[.pointer (some t)] 71)).alloc (.cells #[.pointer (some ⟨3,71,none⟩),.pointer (some ⟨w.heap.size,0,none⟩),.int .u64 150] 95)) (by simp);have jl:0<w.heap.size:=A.fu hg;have o:t.block<w.heap.size:=A.fu k;have I6:(((w.alloc (.cells #[.pointer (some t)] 71)).alloc (.cells #[.pointer (some ⟨3,71,none⟩),.pointer (some ⟨w.heap.size,0,none⟩),.int .u64 150] 95))).cell? ⟨0,0,none⟩=some (.iface 136 (.agg #[.pointer (some ⟨3,31,none⟩)])):=by
  rw[World.cell?_alloc_lt _ _ ⟨0,0,none⟩ (by simp<;>omega),World.cell?_alloc_lt _ _ ⟨0,0,none⟩ jl];exact hg
 have el:=A.Le ⟨w.heap.size,0,none⟩ t (((w.alloc (.cells #[.pointer (some t)] 71)).alloc (.cells #[.pointer (some ⟨3,71,none⟩),.pointer (some ⟨w.heap.size,0,none⟩),.int .u64 150] 95)).alloc (.cells #[.pointer (some ⟨3,71,none⟩),.pointer (some ⟨w.heap.size,0,none⟩),.int .u64 150] 95)) (by rw[World.cell?_alloc_lt _ _ ⟨w.heap.size,0,none⟩ (by simp<;>omega)];simp);have st:=A.Rl t ⟨w.heap.size+1+1+1,0,none⟩ c j ((((w.alloc (.cells #[.pointer (some t)] 71)).alloc (.cells #[.pointer (some ⟨3,71,none⟩),.pointer (some ⟨w.heap.size,0,none⟩),.int .u64 150] 95)).alloc (.cells #[.pointer (some ⟨3,71,none⟩),.pointer (some ⟨w.heap.size,0,none⟩),.int .u64 150] 95)).alloc (.cells #[.int .i64 c] 43))
  (by rw[World.cell?_alloc_at _ _ _ _ (by simp)];rfl)
  (by rw[World.cell?_alloc_lt _ _ t (by simp<;>omega),World.cell?_alloc_lt _ _ t (by simp<;>omega),World.cell?_alloc_lt _ _ t (by simp<;>omega),World.cell?_alloc_lt _ _ t o];exact k)
  (by rw[World.frozen?_alloc_old _ _ t (by simp<;>omega),World.frozen?_alloc_old _ _ t (by simp<;>omega),World.frozen?_alloc_old _ _ t (by simp<;>omega),World.frozen?_alloc_old _ _ t (Nat.ne_of_lt o)];exact E)
 go_enter Tryz.func34,Tryz.ntmps34
 go_wp2
 refine wp_loop_rounds 1 ?_;rw[rounds_succ]
 go_wp2
 go_ret
 exact⟨rfl,rfl⟩
set_option maxHeartbeats 4000000 in
theorem A.XH (c:Int) (t:Addr) (z:Value) (w:World) (hg:w.cell? ⟨0,0,none⟩=some (.iface 136 (.agg #[.pointer (some ⟨3,31,none⟩)]))) (B:w.cell? t=some z) (hf0:w.frozen? t=false):
 Calls Tryz.prog 34 #[.iface 43 (.int .i64 c),.iface 68 (.pointer (some t))] w λev w'=>ev= .returned (.bool false)/\w'=(((w.alloc (.cells #[.pointer (some t)] 68)).alloc (.cells #[.pointer (some ⟨3,68,none⟩),.pointer (some ⟨w.heap.size,0,none⟩),.int .u64 150] 95)).alloc (.cells #[.pointer (some ⟨3,68,none⟩),.pointer (some ⟨w.heap.size,0,none⟩),.int .u64 150] 95)):=by
 have C:=A.DG;have E:=A.DH;have G:=A.DI;have I:=A.DJ;have J:=A.DL;have K:=A.DM;have O:=A.DN;have R:=A.DO;have S:=A.DP;have T:=A.DQ;have l:=A.Dh;have n:=A.Di;have o:=A.Dj;have p:=A.Dk;have U:=A.DR;have V:=A.DS;have W:=A.DT;have X:=A.DU;have j:=A.CT;have k:=A.CU;have Y:=A.DV;have Z:=A.DW;have q:=A.Dl;have r:=A.Dm;have u:=A.Dn;have v:=A.Dp;have HV:=A.DX;have HW:=A.DY;have Il:=A.Er;have Im:=A.Es;have x:=A.Dq;have y:=A.Dr;have HX:=A.DZ;have HY:=A.D0;have b:=A.BH;have d:=A.BI;have e:=A.BJ;have g:=A.BK;have h:=A.BL;have i:=A.Ch;have n8:=A.Lc ⟨w.heap.size,0,none⟩ t ((w.alloc (.cells #[.pointer (some t)] 68)).alloc (.cells #[.pointer (some ⟨3,68,none⟩),.pointer (some ⟨w.heap.size,0,none⟩),.int .u64 150] 95)) (by simp);have jl:0<w.heap.size:=A.fu hg;have htl:t.block<w.heap.size:=A.fu B;have I6:(((w.alloc (.cells #[.pointer (some t)] 68)).alloc (.cells #[.pointer (some ⟨3,68,none⟩),.pointer (some ⟨w.heap.size,0,none⟩),.int .u64 150] 95))).cell? ⟨0,0,none⟩=some (.iface 136 (.agg #[.pointer (some ⟨3,31,none⟩)])):=by
  rw[World.cell?_alloc_lt _ _ ⟨0,0,none⟩ (by simp<;>omega),World.cell?_alloc_lt _ _ ⟨0,0,none⟩ jl];exact hg
 go_enter Tryz.func34,Tryz.ntmps34
 go_wp2
 refine wp_loop_rounds 1 ?_;rw[rounds_succ]
 go_wp2
 go_ret
 exact⟨rfl,rfl⟩
set_option maxHeartbeats 4000000 in
theorem A.abZ (e:Addr) (c:Int) (t:Addr) (k:Value) (w:World) (hg:w.cell? ⟨0,0,none⟩=some (.iface 136 (.agg #[.pointer (some ⟨3,31,none⟩)]))) (l:w.cell? t=some k) (I:w.frozen? t=false) (hu:w.cell? ⟨e.block,e.off+1,none⟩=some (.iface 43 (.int .i64 c))):
 Calls Tryz.prog 34 #[.iface 66 (.pointer (some e)),.iface 71 (.pointer (some t))] w λev w'=>ev= .returned (.bool true)/\w'=(((((w.alloc (.cells #[.pointer (some t)] 71)).alloc (.cells #[.pointer (some ⟨3,71,none⟩),.pointer (some ⟨w.heap.size,0,none⟩),.int .u64 150] 95)).alloc (.cells #[.pointer (some ⟨3,71,none⟩),.pointer (some ⟨w.heap.size,0,none⟩),.int .u64 150] 95)).alloc (.cells #[.int .i64 c] 43))).setCell t (.int .i64 c):=by
 have J:=A.DG;have K:=A.DH;have O:=A.DI;have R:=A.DJ;have S:=A.DL;have T:=A.DM;have U:=A.DN;have V:=A.DO;have W:=A.DP;have X:=A.DQ;have r:=A.Dh;have u:=A.Di;have v:=A.Dj;have x:=A.Dk;have Y:=A.DR;have Z:=A.DS;have aeU:=A.DT;have aeV:=A.DU;have n:=A.CT;have o:=A.CU;have Rj:=A.DV;have Rk:=A.DW;have y:=A.Dl;have z:=A.Dm;have B:=A.Dn;have C:=A.Dp;have HV:=A.DX;have HW:=A.DY;have Il:=A.Er;have Im:=A.Es;have E:=A.Dq;have G:=A.Dr;have HX:=A.DZ;have HY:=A.D0;have b:=A.BH;have d:=A.BI;have g:=A.BJ;have h:=A.BK;have i:=A.BL;have j:=A.Ch;have n8:=A.Ld ⟨w.heap.size,0,none⟩ t ((w.alloc (.cells #[.pointer (some t)] 71)).alloc (.cells #[.pointer (some ⟨3,71,none⟩),.pointer (some ⟨w.heap.size,0,none⟩),.int .u64 150] 95)) (by simp);have jl:0<w.heap.size:=A.fu hg;have p:t.block<w.heap.size:=A.fu l;have I6:(((w.alloc (.cells #[.pointer (some t)] 71)).alloc (.cells #[.pointer (some ⟨3,71,none⟩),.pointer (some ⟨w.heap.size,0,none⟩),.int .u64 150] 95))).cell? ⟨0,0,none⟩=some (.iface 136 (.agg #[.pointer (some ⟨3,31,none⟩)])):=by
  rw[World.cell?_alloc_lt _ _ ⟨0,0,none⟩ (by simp<;>omega),World.cell?_alloc_lt _ _ ⟨0,0,none⟩ jl];exact hg
 have el:=A.Le ⟨w.heap.size,0,none⟩ t (((w.alloc (.cells #[.pointer (some t)] 71)).alloc (.cells #[.pointer (some ⟨3,71,none⟩),.pointer (some ⟨w.heap.size,0,none⟩),.int .u64 150] 95)).alloc (.cells #[.pointer (some ⟨3,71,none⟩),.pointer (some ⟨w.heap.size,0,none⟩),.int .u64 150] 95)) (by rw[World.cell?_alloc_lt _ _ ⟨w.heap.size,0,none⟩ (by simp<;>omega)];simp);have st:=A.Rl t ⟨w.heap.size+1+1+1,0,none⟩ c k ((((w.alloc (.cells #[.pointer (some t)] 71)).alloc (.cells #[.pointer (some ⟨3,71,none⟩),.pointer (some ⟨w.heap.size,0,none⟩),.int .u64 150] 95)).alloc (.cells #[.pointer (some ⟨3,71,none⟩),.pointer (some ⟨w.heap.size,0,none⟩),.int .u64 150] 95)).alloc (.cells #[.int .i64 c] 43))
  (by rw[World.cell?_alloc_at _ _ _ _ (by simp)];rfl)
  (by rw[World.cell?_alloc_lt _ _ t (by simp<;>omega),World.cell?_alloc_lt _ _ t (by simp<;>omega),World.cell?_alloc_lt _ _ t (by simp<;>omega),World.cell?_alloc_lt _ _ t p];exact l)
  (by rw[World.frozen?_alloc_old _ _ t (by simp<;>omega),World.frozen?_alloc_old _ _ t (by simp<;>omega),World.frozen?_alloc_old _ _ t (by simp<;>omega),World.frozen?_alloc_old _ _ t (Nat.ne_of_lt p)];exact I);have q:=A.fu hu;have hel:e.block<w.heap.size:=q;have hu3:((((w.alloc (.cells #[.pointer (some t)] 71)).alloc (.cells #[.pointer (some ⟨3,71,none⟩),.pointer (some ⟨w.heap.size,0,none⟩),.int .u64 150] 95)).alloc (.cells #[.pointer (some ⟨3,71,none⟩),.pointer (some ⟨w.heap.size,0,none⟩),.int .u64 150] 95))).cell? ⟨e.block,e.off+1,none⟩=some (.iface 43 (.int .i64 c)):=by
  rw[World.cell?_alloc_lt _ _ _ (by simp<;>omega),World.cell?_alloc_lt _ _ _ (by simp<;>omega),World.cell?_alloc_lt _ _ ⟨e.block,e.off+1,none⟩ hel];exact hu
 go_enter Tryz.func34,Tryz.ntmps34
 go_wp2
 refine wp_loop_rounds 2 ?_;rw[rounds_succ]
 go_wp2_with (go_at_call 156;refine(A.Zk e _ _ hu3).mono ?_;rintro e' w' ⟨rfl,rfl⟩)
 rw[rounds_succ]
 go_wp2
 go_ret
 exact⟨rfl,rfl⟩
open Go.RowKit
structure A.Set (w:World) (t:Addr) (v:Value) (w':World):Prop where
 at_:w'.cell? t=some v
 free:w'.frozen? t=w.frozen? t
 size:w.heap.size<=w'.heap.size
 rest:∀a:Addr,a.block<w.heap.size->a.block≠t.block->w'.cell? a=w.cell? a/\w'.frozen? a=w.frozen? a
 below:∀B,B<=t.block->B<=w.heap.size->Below B w w'
theorem A.Hk {w:World} {t:Addr} {v j:Value} {o1 b c g:Obj} (h:w.cell? t=some j):A.Set w t v (((((w.alloc o1).alloc b).alloc c).alloc g).setCell t v):=by
 have i:=A.fu h;have s1:(w.alloc o1).heap.size=w.heap.size+1:=by simp
 have s2:((w.alloc o1).alloc b).heap.size=w.heap.size+1+1:=by simp
 have p:(((w.alloc o1).alloc b).alloc c).heap.size=w.heap.size+1+1+1:=by simp
 have k:∀B,B<=w.heap.size->Below B w ((((w.alloc o1).alloc b).alloc c).alloc g):=λB q=>((((Below.refl B w).alloc (by omega) o1).alloc (by omega) b).alloc (by omega) c).alloc (by omega) g
 have n:∀a:Addr,a.block<w.heap.size->((((w.alloc o1).alloc b).alloc c).alloc g).cell? a=w.cell? a:=λa d=>(k _ (bc _)).cell d;have o:∀a:Addr,a.block<w.heap.size->((((w.alloc o1).alloc b).alloc c).alloc g).frozen? a=w.frozen? a:=λa d=>(k _ (bc _)).frozen d;refine⟨?_,?_,?_,?_,?_⟩
 ·exact World.cell?_setCell_same _ _ _ (by rw[n t i,h])
 ·rw[World.frozen?_setCell,o t i]
 ·simp;omega
 ·intro a d l;exact⟨by rw[World.cell?_setCell_other _ _ _ _ (λe=>l (by rw[e])),n a d],by rw[World.frozen?_setCell,o a d]⟩
 ·intro B h1 h2;exact(k B h2).setCell h1 v
structure A.Left (w:World) (w':World):Prop where
 size:w.heap.size<=w'.heap.size
 rest:∀a:Addr,a.block<w.heap.size->w'.cell? a=w.cell? a/\w'.frozen? a=w.frozen? a
 below:∀B,B<=w.heap.size->Below B w w'
theorem A.XG {w:World} {o1 b c:Obj}:A.Left w (((w.alloc o1).alloc b).alloc c):=by
 have s1:(w.alloc o1).heap.size=w.heap.size+1:=by simp
 have s2:((w.alloc o1).alloc b).heap.size=w.heap.size+1+1:=by simp
 have d:∀B,B<=w.heap.size->Below B w (((w.alloc o1).alloc b).alloc c):=λB g=>(((Below.refl B w).alloc (by omega) o1).alloc (by omega) b).alloc (by omega) c
 exact⟨by simp<;>omega,λa e=>⟨(d _ (bc _)).cell e,(d _ (bc _)).frozen e⟩,d⟩
def A.kq:Value:= .iface 136 (.agg #[.pointer (some ⟨3,31,none⟩)])
theorem A.VQ (w:World):Calls Tryz.prog 13 #[.nilIface] w λev w'=>ev= .returned (.tuple #[.int .i64 0,.int .i64 (-1)])/\w'=w:=by
 go_enter Tryz.func13,Tryz.ntmps13
 go_wp2
 go_ret2
 exact⟨rfl,rfl⟩
set_option maxHeartbeats 400000 in
set_option maxRecDepth 100000 in
theorem A.Zi (c:Int) (w:World) (i:w.cell? ⟨0,0,none⟩=some A.kq):
 Calls Tryz.prog 13 #[.iface 43 (.int .i64 c)] w λev w'=>ev= .returned (.tuple #[.int .i64 c,.int .i64 (-1)])/\Below w.heap.size w w':=by
 have e:0<w.heap.size:=A.fu i;have b:(w.alloc (.cells #[.pointer none] 66)).cell? ⟨0,0,none⟩=some A.kq:=by rw[World.cell?_alloc_lt _ _ ⟨0,0,none⟩ e];exact i
 go_enter Tryz.func13,Tryz.ntmps13
 go_wp2_with (go_at_call 34;first
  |(have j:=d;refine(A.adq c ⟨w1.heap.size,0,none⟩ (.int .i64 0) _ g (by simp) (by simp)).mono ?_;rintro e' k ⟨rfl,h2⟩;have l2:A.Set _ ⟨w1.heap.size,0,none⟩ (.int .i64 c) k:=h2▸A.Hk (by simp;rfl);clear h2;have l:=l2.at_)
  |(refine(A.XH c ⟨w.heap.size,0,none⟩ (.pointer none) _ b (by simp) (by simp)).mono ?_;rintro e' w1 ⟨rfl,h1⟩;have d:A.Left _ w1:=h1▸A.XG;clear h1;have h:=d.size;simp at h;have g:(w1.alloc (.cells #[.int .i64 0] 43)).cell? ⟨0,0,none⟩=some A.kq:=(by rw[World.cell?_alloc_lt _ _ ⟨0,0,none⟩ (by show 0<w1.heap.size;omega),(d.rest ⟨0,0,none⟩ (by simp<;>omega)).1];exact b)))
 go_ret2
 refine⟨rfl,?_⟩;exact(((Below.refl _ w).alloc (bc _) _).trans (d.below _ (by simp))).trans (((Below.refl _ w1).alloc (by omega) _).trans (l2.below _ (by simp<;>omega) (by simp<;>omega)))
set_option maxHeartbeats 400000 in
set_option maxRecDepth 100000 in
theorem A.Zj (e:Addr) (a c:Int) (w:World) (l:w.cell? ⟨0,0,none⟩=some A.kq) (h0:w.cell? e=some (.int .i64 a)) (n:w.cell? ⟨e.block,e.off+1,none⟩=some (.iface 43 (.int .i64 c))):
 Calls Tryz.prog 13 #[.iface 66 (.pointer (some e))] w λev w'=>ev= .returned (.tuple #[.int .i64 c,.int .i64 a])/\Below w.heap.size w w':=by
 have h:0<w.heap.size:=A.fu l;have d:e.block<w.heap.size:=A.fu h0;have g:(w.alloc (.cells #[.pointer none] 66)).cell? ⟨0,0,none⟩=some A.kq:=by rw[World.cell?_alloc_lt _ _ ⟨0,0,none⟩ h];exact l
 go_enter Tryz.func13,Tryz.ntmps13
 go_wp2_with (go_at_call 34;first
  |(have o:=b;refine(A.abZ e c ⟨w1.heap.size,0,none⟩ (.int .i64 0) _ i (by simp) (by simp) j).mono ?_;rintro e' p ⟨rfl,h2⟩;have l2:A.Set _ ⟨w1.heap.size,0,none⟩ (.int .i64 c) p:=h2▸A.Hk (by simp;rfl);clear h2;have q:=l2.at_)
  |(refine(A.adr e ⟨w.heap.size,0,none⟩ (.pointer none) _ g (by simp) (by simp)).mono ?_;rintro e' w1 ⟨rfl,h1⟩;have b:A.Set _ ⟨w.heap.size,0,none⟩ (.pointer (some e)) w1:=h1▸A.Hk (by simp;rfl);clear h1;have k:=b.size;simp at k;have r:=b.at_
    have i:(w1.alloc (.cells #[.int .i64 0] 43)).cell? ⟨0,0,none⟩=some A.kq:=(by rw[World.cell?_alloc_lt _ _ ⟨0,0,none⟩ (by show 0<w1.heap.size;omega),(b.rest ⟨0,0,none⟩ (by simp<;>omega) (by show 0≠w.heap.size;omega)).1];exact g);have j:(w1.alloc (.cells #[.int .i64 0] 43)).cell? ⟨e.block,e.off+1,none⟩=some (.iface 43 (.int .i64 c)):=(by rw[World.cell?_alloc_lt _ _ ⟨e.block,e.off+1,none⟩ (by show e.block<w1.heap.size;omega),(b.rest ⟨e.block,e.off+1,none⟩ (by simp<;>omega) (by show e.block≠w.heap.size;omega)).1,World.cell?_alloc_lt _ _ ⟨e.block,e.off+1,none⟩ d];exact n);have t:w1.cell? e=some (.int .i64 a):=(by rw[(b.rest e (by simp<;>omega) (by show e.block≠w.heap.size;omega)).1,World.cell?_alloc_lt _ _ e d];exact h0)))
 go_ret2
 refine⟨rfl,?_⟩;exact(((Below.refl _ w).alloc (bc _) _).trans (b.below _ (bc _) (by simp))).trans (((Below.refl _ w1).alloc (by omega) _).trans (l2.below _ (by simp<;>omega) (by simp<;>omega)))
end Go.Proofs.YthgmgkabnffniaaGreatDoor
namespace Go.Sy
open Go.RowKit
theorem gl.VP {P:Program} {Gl:Nat->SV} {f:Nat} {args:List SV} {res:SV}
 (h:∀(w:World) (ω:Ow) (vs:Array Value),(∀g,Den w ω.bare (Gl g) (.pointer (some ⟨g,0,none⟩)))->bY w ω args vs.toList->Calls P f vs w λe w'=>∃v,e= .returned v/\Below w.heap.size w w'/\Den w' ω res v):gl P Gl f args [] res []:=by
 intro w ω vs i hm hd;refine(h w ω vs i hd).mono ?_;rintro e w' ⟨v,rfl,c,j⟩;have l:Cw w w':=⟨c.os,c.tape,c.output,c.size,c.block⟩;exact⟨v,ω,rfl,⟨c.os,c.tape,c.output,λb d _=>c.block b d,λ_ _ h=>h,λ_ h=>h,c.size⟩,hm.more l,j,λk n=>by simp[pP]at n⟩
end Go.Sy
namespace Go.Proofs.YthgmgkabnffniaaGreatDoor
open Go.RowKit Go.Sy
structure Zg where
 e:Int
 a:Int
def Zh:Sy.Spec where
 X:=Zg
 args x:= [.er 43 66 x.e x.a]
 mem _:= []
 pre _:=True
 res x:= .tp 2 (aN [.v (.int .i64 x.e),.v (.int .i64 x.a)])
 bH _:= []
 dec args mem:=match args with| [a0]=>some ⟨erE a0,erA a0⟩|_=>none
def O4:aZ:=⟨[],Zh.g,none⟩
theorem XF {Gl:Nat->SV} (i:Gl 0= .pt false 1 λ_=> .v A.kq) (e a:Int):gl Tryz.prog Gl 13 [.er 43 66 e a] [] (.tp 2 (aN [.v (.int .i64 e),.v (.int .i64 a)])) []:=by
 refine gl.VP λw B vs k hd=>?_;obtain⟨u,rfl⟩:∃u,vs= #[u]:=by
  have:=hd.len
  match vs,this with
  |⟨[u]⟩,_=>exact⟨u,rfl⟩
 have h2:=k 0;rw[i]at h2;obtain⟨p,hp,c⟩:=h2;obtain⟨x,l,n,o⟩:=c 0 (by omega);cases hp;obtain rfl:=o;have b:w.cell? ⟨0,0,none⟩=some A.kq:=l;have d:∀w',Den w' B (.tp 2 (aN [.v (.int .i64 e),.v (.int .i64 a)])) (.tuple #[.int .i64 e,.int .i64 a]):=λw'=>⟨_,rfl,rfl,λj c=>match j,c with
  |0,_=>⟨_,rfl,rfl⟩
  |1,_=>⟨_,rfl,rfl⟩⟩
 rcases hd.1 with⟨rfl,rfl,h⟩|⟨_,rfl,h⟩|⟨_,h0,q,h,n,_,c0,c1⟩
 ·rw[h];refine(A.VQ w).mono ?_;rintro ev w' ⟨rfl,rfl⟩;exact⟨_,rfl,Below.refl _ _,d _⟩
 ·rw[h];refine(A.Zi e w b).mono ?_;rintro ev w' ⟨rfl,g⟩;exact⟨_,rfl,g,d _⟩
 ·rw[h];have c0:w.cell? q=some (.int .i64 a):=c0;have c1:w.cell? ⟨q.block,q.off+1,none⟩=some (.iface 43 (.int .i64 e)):=c1;refine(A.Zj q a e w b c0 c1).mono ?_;rintro ev w' ⟨rfl,g⟩;exact⟨_,rfl,g,d _⟩
theorem Zf {Gl:Nat->SV} (b:Gl 0= .pt false 1 λ_=> .v A.kq):aY Tryz.prog Gl 13 O4:=py (λl w=>Tryz.call13 l w) λx _=>XF b x.e x.a
def az (v m:Int):Bool:=decide (v<0)||decide (m<v)
def p8 (o:Int):Bool:=!(o==0)&&!(o==12)&&!(o==14)
def hasB (o:Int):Bool:=!(o==0)&&!(o==1)&&!(o==13)&&!(o==12)&&!(o==14)
def p9 (o:Int):Bool:=(o==1)||(o==13)||(o==10)||(o==11)||(o==12)||(o==14)
def bk:Nat->SV:=λ_=> .aI
def gP:Nat->SV
 |0=> .pt false 1 λ_=> .v A.kq
 |_=> .aI
theorem kS:∀g,bk g=gP g\/bk g= .aI:=λ_=> .inr rfl
theorem MQ:aY Tryz.prog gP 13 O4:=Zf rfl
set_option maxRecDepth 100000
def nJ (o a b m:Int):Bool:=az a 7||az b 7||decide (m< -32768)||decide (32767<m)||(!(p8 o)&&a !=0)||(!(hasB o)&&b !=0)||(!(p9 o)&&m !=0)
def iq (o a b m:Int):Int:=bif az o 14 then 1 else bif nJ o a b m then 2 else 0
structure Rf where
 (v m:Int)
def abV:Sy.Spec:=⟨Rf,λ⟨v,m⟩=> [.v (.int .i64 v),.v (.int .i64 m)],λ_=> [],λ_=>True,λ⟨v,m⟩=> .v (.bool (az v m)),λ_=> [],
 λargs mem=>match args with| [a0,a1]=>some ⟨av (a0),av (a1)⟩|_=>none⟩
def abW:aZ:=⟨[],(abV).g,none⟩
def Rg:Rf->Prop:=λ⟨v,m⟩=>cond (decide (v<0)) true (decide (m<v))=az v m/\True
theorem zk:aY Tryz.prog bk 92 abW:=bn .nil false Tryz.call92 Tryz.func92 (λ_=> []) (V:=Rg) (λ_=>by kernel_rfl) λ⟨v,m⟩ hp=>by dsimp only[Rg,tn,aw];refine⟨?_,trivial⟩;unfold az;cases decide (v<0)<;>rfl
structure Rh where
 (e:Int)
def abX:Sy.Spec:=⟨Rh,λ⟨e⟩=> [.v (.int .i64 e)],λ_=> [],λ_=>True,λ⟨e⟩=> .ag 2 (aN [.v (.int .i64 e),.v (.int .i64 (-1))]),λ_=> [],
 λargs mem=>match args with| [a0]=>some ⟨av (a0)⟩|_=>none⟩
def abY:aZ:=⟨[],(abX).g,none⟩
def Ri:Rh->Prop:=λ⟨e⟩=>True/\(True/\True)/\((True/\e=e)/\((-1):Int)=(-1))/\True
theorem O1:aY Tryz.prog bk 37 abY:=bn .nil false Tryz.call37 Tryz.func37 (λ_=> []) (V:=Ri) (λ_=>by kernel_rfl) λ⟨e⟩ hp=>by dsimp only[Ri,tn,aw];simp
structure O2 where
 (HO:Unit)
def Zd:Sy.Spec:=⟨O2,λ_=> [],λ_=> [],λ_=>True,λ_=> .ag 2 (aN [.v (.int .i64 0),.v (.int .i64 (-1))]),λ_=> [],
 λargs mem=>match args with| []=>some ⟨()⟩|_=>none⟩
def Ze:aZ:=⟨[],(Zd).g,none⟩
def O3:O2->Prop:=λ_=>True/\(True/\True)/\((True/\(0:Int)=0)/\((-1):Int)=(-1))/\True
theorem M_:aY Tryz.prog bk 43 Ze:=bn .nil false Tryz.call43 Tryz.func43 (λ_=> []) (V:=O3) (λ_=>by kernel_rfl) λ_ hp=>by dsimp only[O3,tn,aw];simp
end Go.Proofs.YthgmgkabnffniaaGreatDoor
namespace Go.Sy
theorem EA {x:Int} (h0:0<=x) (h1:x<9223372036854775808):(BitVec.ofInt 64 x).toNat=x.toNat:=by rw[zm];congr 1;exact Hl h0 (by simpa using (by omega:x<18446744073709551616))
theorem TX {n:Nat} (h:n<9223372036854775808):IntKind.i64.wrap (n:Int)=n:=by rw[IntKind.wrap_i64];omega
theorem HZ {x y:Int} (d:0<=x) (b:x<9223372036854775808) (e:0<=y) (c:y<9223372036854775808):d_ .and .i64 x y=((x.toNat&&&y.toNat:Nat):Int):=by show IntKind.i64.wrap ((BitVec.ofInt 64 x&&&BitVec.ofInt 64 y).toNat:Int)=_;rw[zn,EA d b,EA e c];exact TX (yP wD (by omega))
theorem Hm (n:Nat) (j:n<=62) {x m:Int} (hm:m=2^n -1):d_ .and .i64 x m=x%2^n:=by
 show IntKind.i64.wrap ((BitVec.ofInt 64 x&&&BitVec.ofInt 64 m).toNat:Int)=_;have hp:(2:Nat)^n<=2^62:=Cg (by omega) j;have k:(1:Nat)<=2^n:=Nat.one_le_two_pow;have c:((2:Int)^n)=((2^n:Nat):Int):=by simp
 have d:0<=m:=by rw[hm,c];omega
 have g:m<9223372036854775808:=by rw[hm,c];omega
 rw[zn,EA d g];have e:m.toNat=2^n -1:=by rw[hm,c];omega
 rw[e,Nat.and_two_pow_sub_one_eq_mod,zm];have hd:((x%((2^64:Nat):Int)).toNat%2^n:Nat)=(x%2^n).toNat:=by apply CM;show(((x%((2^64:Nat):Int)).toNat%2^n:Nat):Int)=((x%2^n).toNat:Int);have h:(0:Int)<=x%((2^64:Nat):Int):=wR _ (by decide);have b:(0:Int)<=x%2^n:=wR _ (by rw[c];omega);rw[Int.natCast_emod,zh h,zh b,c];refine Int.emod_emod_of_dvd x ?_;exact Int.natCast_dvd_natCast.2 (Nat.pow_dvd_pow 2 (by omega))
 rw[hd];have b:(0:Int)<=x%2^n:=wR _ (by rw[c];omega);have i:x%2^n<2^n:=CS _ (by rw[c];omega);rw[zh b,IntKind.wrap_i64];rw[c]at b i⊢;omega
end Go.Sy
namespace Go.Proofs.YthgmgkabnffniaaGreatDoor
open Go.RowKit Go.Sy
theorem Jr {o a b m:Int} (h:iq o a b m=0):0<=o/\o<=14/\0<=a/\a<=7/\0<=b/\b<=7/\ -32768<=m/\m<=32767:=by
 unfold iq at h;cases h1:az o 14 with
 |true=>rw[h1]at h;cases h
 |false=>
  cases h2:nJ o a b m with
  |true=>rw[h1,h2]at h;cases h
  |false=>unfold nJ az at h2;unfold az at h1;simp at h1 h2;omega
structure K' where
 (o a b m:Int)
def La:Sy.Spec:=⟨K',λ⟨o,a,b,m⟩=> [.ag 4 (aN [.v (.int .i64 o),.v (.int .i64 a),.v (.int .i64 b),.v (.int .i64 m)])],λ_=> [],λ⟨o,a,b,m⟩=>iq o a b m=0,λ⟨o,a,b,m⟩=> .ag 2 (aN [.v (.int .i64 (o*256+a*16+b)),.v (.int .i64 (m%65536))]),λ_=> [],
 λargs mem=>match args with| [a0]=>some ⟨av (cW a0 0),av (cW a0 1),av (cW a0 2),av (cW a0 3)⟩|_=>none⟩
def VO:aZ:=⟨[],(La).g,none⟩
def Lb:K'->Prop:=λ⟨o,a,b,m⟩=>let a0:=aw (o*256)=o*256;let b0:=aw (a*16)=a*16;let c0:Int:=o*256+a*16;let d0:=aw c0=c0;let e0:Int:=c0+b;let c:=aw e0=e0;let h0:=True/\e0=e0;tn 2 ((decide (m<0)=true->aw (m+65536)=m+65536/\a0/\b0/\d0/\c/\(True/\True)/\(h0/\m+65536=m%65536)/\True)/\(decide (m<0)=false->a0/\b0/\d0/\c/\(True/\True)/\(h0/\m=m%65536)/\True))
theorem UI:aY Tryz.prog bk 44 VO:=bn .nil false Tryz.call44 Tryz.func44 (λ_=> []) (V:=Lb) (λ_=>by kernel_rfl) λ⟨o,a,b,m⟩ hp=>by
 dsimp only[La]at hp;dsimp only[Lb,tn,aw];have c:=Jr hp;refine⟨trivial,trivial,λh=>?_,λh=>?_⟩
 all_goals
  repeat' (first|exact trivial|rfl|refine And.intro ?_ ?_)
 all_goals (try simp only[IntKind.wrap_i64])<;>simp at h<;>omega
def fH (x:Int):Prop:= -9223372036854775808<=x/\x<=9223372036854775807
theorem fH.wrap {x:Int} (h:fH x):IntKind.i64.wrap x=x:=by unfold fH at h;rw[IntKind.wrap_i64];omega
def bj (c n:Int):Int:=(bif decide (c<0)then -(c+1)else c)%n
theorem hU {c n:Int} (h:0<n):0<=bj c n/\bj c n<n:=⟨wR _ (by omega),CS _ h⟩
def fA:Nat->(Nat->Bool)->Bool
 |0,_=>true
 |n+1,p=>fA n p&&p n
theorem jX {p:Nat->Bool}:∀{n:Nat},fA n p=true↔∀i,i<n->p i=true
 |0=>by simp[fA]
 |n+1=>by
  simp only[fA,aW,jX (n:=n)];refine⟨λh i b=>?_,λh=>⟨λi b=>h i (by omega),h n (by omega)⟩⟩;rcases Nat.lt_succ_iff_lt_or_eq.1 b with c|rfl
  ·exact h.1 i c
  ·exact h.2
theorem ER {p:Nat->Bool} {n i:Nat} (b:i<n) (h:p i=false):fA n p=false:=by
 cases c:fA n p with
 |false=>rfl
 |true=>rw[jX.1 c i b]at h;cases h
structure OY where
 (c n:Int)
def OZ:Sy.Spec:=⟨OY,λ⟨c,n⟩=> [.v (.int .i64 c),.v (.int .i64 n)],λ_=> [],λ⟨c,n⟩=>fH c/\0<n,λ⟨c,n⟩=> .v (.int .i64 (bj c n)),λ_=> [],
 λargs mem=>match args with| [a0,a1]=>some ⟨av (a0),av (a1)⟩|_=>none⟩
def Zc:aZ:=⟨[],(OZ).g,none⟩
def O0:OY->Prop:=λ⟨c,n⟩=>let a0:Int:=c+1;(decide (c<0)=true->aw a0=a0/\aw (0-a0)=0-a0/\(0<=Neg.neg a0/\0<n)/\Neg.neg a0%n=bj c n/\True)/\(decide (c<0)=false->(0<=c/\0<n)/\c%n=bj c n/\True)
theorem yN:aY Tryz.prog bk 8 Zc:=bn .nil false Tryz.call8 Tryz.func8 (λ_=> []) (V:=O0) (λ_=>by kernel_rfl) λ⟨c,n⟩ hp=>by
 dsimp only[OZ]at hp;dsimp only[O0,tn,aw];obtain⟨h1,h2⟩:=hp;unfold fH at h1;unfold bj;refine⟨λh=>?_,λh=>?_⟩
 all_goals rw[h]
 all_goals simp at h
 ·simp only[IntKind.wrap_i64,cond_true]
  repeat' (first|exact trivial|rfl|refine And.intro ?_ ?_)
  all_goals omega
 ·simp only[cond_false]
  repeat' (first|exact trivial|rfl|refine And.intro ?_ ?_)
  all_goals omega
structure aF where
 r0:Int
 r1:Int
 r2:Int
 r3:Int
 r4:Int
 r5:Int
 r6:Int
 r7:Int
 pc:Int
 st:Int
 prio:Int
 node:Int
 space:Int
 helper:Int
 loc:Int
 word:Int
 aH:Int
 ar:Int
 core:Int
 cI:Int
def la (t:aF):List SV:= [.v (.int .i64 t.r0),.v (.int .i64 t.r1),.v (.int .i64 t.r2),.v (.int .i64 t.r3),.v (.int .i64 t.r4),.v (.int .i64 t.r5),.v (.int .i64 t.r6),.v (.int .i64 t.r7),.v (.int .i64 t.pc),.v (.int .i64 t.st),.v (.int .i64 t.prio),.v (.int .i64 t.node),.v (.int .i64 t.space),.v (.int .i64 t.helper),.v (.int .i64 t.loc),.v (.int .i64 t.word),.v (.int .i64 t.aH),.v (.int .i64 t.ar),.v (.int .i64 t.core),.v (.int .i64 t.cI)]
def aF.blank:aF:=⟨0,0,0,0,0,0,0,0,0,0,0,-1,-1,-1,-1,0,0,-1,0,0⟩
def iM (op:Int) (a b:Nat):Nat:=bif op==6 then a&&&b else bif op==7 then a|||b else a^^^b
def zJ (op x y:Int):Bool:=(op==6&&x+y==2)||(op==7&&decide (0<x+y))||(op==8&&x+y==1)
theorem UG {op:Int} (ho:op=6\/op=7\/op=8) (a b k:Nat):iM op a b%2^(k+1)=iM op a b%2^k+(if zJ op ((a/2^k%2:Nat):Int) ((b/2^k%2:Nat):Int)=true then 2^k else 0):=by
 rw[Nat.mod_pow_succ];congr 1;have c:iM op a b/2^k%2=if zJ op ((a/2^k%2:Nat):Int) ((b/2^k%2:Nat):Int)=true then 1 else 0:=by
  have e:∀x:Nat,x/2^k%2=(x.testBit k).toNat:=λx=>by rw[Gn];rcases Gp (x/2^k)with h|h<;>simp[h]
  rw[e,e,e];rcases ho with rfl|rfl|rfl<;>simp only[iM,zJ]<;>simp[Gq,Nat.testBit_or,Nat.testBit_xor]<;>cases a.testBit k<;>cases b.testBit k<;>decide
 rw[c];split<;>simp
theorem M7 {op:Int} {a b n:Nat} (c:a<2^n) (d:b<2^n):iM op a b<2^n:=by
 unfold iM;cases op==6<;>cases op==7<;>simp only[cond_true,cond_false]
 ·exact Nat.xor_lt_two_pow c d
 ·exact Nat.or_lt_two_pow c d
 ·exact yP wD c
 ·exact yP wD c
structure M8 where
 (HO:Unit)
def XD:Sy.Spec:=⟨M8,λ_=> [],λ_=> [],λ_=>True,λ_=> .ag 20 (aN (la aF.blank)),λ_=> [],
 λargs mem=>match args with| []=>some ⟨()⟩|_=>none⟩
def XE:aZ:=⟨[],(XD).g,none⟩
def M9:M8->Prop:=λ_=>let a0:=(0:Int)=0;let b0:=((-1):Int)=(-1);True/\tn 19 True/\((((((((((((((((((((True/\a0)/\a0)/\a0)/\a0)/\a0)/\a0)/\a0)/\a0)/\a0)/\a0)/\a0)/\b0)/\b0)/\b0)/\b0)/\a0)/\a0)/\b0)/\a0)/\a0)/\True
theorem VN:aY Tryz.prog bk 93 XE:=bn .nil false Tryz.call93 Tryz.func93 (λ_=> []) (V:=M9) (λ_=>by kernel_rfl) λ_ hp=>by dsimp only[M9,tn,aw];simp[aF.blank]
structure Km where
 (a b op:Int)
def Kn:Sy.Spec:=⟨Km,λ⟨a,b,op⟩=> [.v (.int .i64 a),.v (.int .i64 b),.v (.int .i64 op)],λ_=> [],λ⟨a,b,op⟩=>0<=a/\a<=65535/\0<=b/\b<=65535/\(op=6\/op=7\/op=8),λ⟨a,b,op⟩=> .v (.int .i64 (iM op a.toNat b.toNat:Nat)),λ_=> [],
 λargs mem=>match args with| [a0,a1,c]=>some ⟨av (a0),av (a1),av (c)⟩|_=>none⟩
def UH:aZ:=⟨[],(Kn).g,none⟩
def TV (a b op:Int):cQ where
 σ:=Nat
 rt:= []
 sh k:= [(8,.v (.int .i64 (2^k:Nat))),(7,.v (.int .i64 (iM op a.toNat b.toNat%2^k:Nat)))]
 mh _:= []
 inv k:=k<=16
 μ k:=16 -k
 init:=0
def Ko:Km->Prop:=λ⟨a,b,op⟩=>let a0:=iM op (Int.toNat a) (Int.toNat b);let b0:=op==6;let c0:=op==7;1=((HPow.hPow 2 0:Nat):Int)/\0=((a0%HPow.hPow 2 0:Nat):Int)/\True/\0<=16/\(∀d0:Nat,let e0:=((HPow.hPow 2 d0:Nat):Int);let h:=decide (e0<65536);let h0:=0<e0;let k0:Int:=a/e0;let c:Int:=b/e0;let o0:Int:=k0%2+c%2;let e:=aw o0=o0;let r0:=cond b0 (o0==2) false;let i:=cond r0 true (cond c0 (decide (0<o0)) false);let v0:=cond i true (cond (op==8) (o0==1) false);let w0:=((a0%HPow.hPow 2 d0:Nat):Int);let g:Int:=w0+e0;let d:Int:=e0*2;let z0:=aw d=d;d0<=16->(h=true->(0<=a/\h0/\aw k0=k0)/\(0<=k0/\(0:Int)<2)/\(0<=b/\h0/\aw c=c)/\(0<=c/\(0:Int)<2)/\(b0=true->e)/\(c0=true->r0=false->e)/\((op==8)=true->i=false->e)/\(v0=true->aw g=g/\z0/\(∃a1:Nat,d=((HPow.hPow 2 a1:Nat):Int)/\g=((a0%HPow.hPow 2 a1:Nat):Int)/\True/\a1<=16/\16-a1<16-d0))/\(v0=false->z0/\(∃b1:Nat,d=((HPow.hPow 2 b1:Nat):Int)/\w0=((a0%HPow.hPow 2 b1:Nat):Int)/\True/\b1<=16/\16-b1<16-d0)))/\(h=false->w0=(a0:Int)/\True))
theorem TW:aY Tryz.prog bk 101 UH:=bn .nil false Tryz.call101 Tryz.func101 (λ⟨a,b,op⟩=> [.inv (TV a b op)]) (V:=Ko) (λ_=>by kernel_rfl) λ⟨a,b,op⟩ hp=>by
 dsimp only[Kn]at hp;dsimp only[Ko,tn,aw];obtain⟨a0,a1,b0,b1,ho⟩:=hp;obtain⟨A,rfl⟩:∃A:Nat,a=A:=⟨a.toNat,by omega⟩;obtain⟨B,rfl⟩:∃B:Nat,b=B:=⟨b.toNat,by omega⟩;simp only[cj];refine⟨by simp,by simp[Nat.mod_one],trivial,by omega,λs hs=>⟨λh=>?_,λh=>?_⟩⟩
 ·have k:s<=15:=by
   rcases bR s 16 with h1|h1
   ·omega
   ·obtain rfl:s=16:=by omega
    simp at h
  have c:=UG ho A B s;have t:iM op A B%2^s<2^s:=kQ _ (Nat.two_pow_pos s);have e:2^(s+1)=2^s*2:=Nat.pow_succ 2 s;have u:=Nat.two_pow_pos s;have l:2^s<=2^15:=Cg (by omega) k;have v:A/2^s<=A:=Nat.div_le_self _ _;have x:B/2^s<=B:=Nat.div_le_self _ _;have q:(A:Int)/((2^s:Nat):Int)=((A/2^s:Nat):Int):=(Int.natCast_ediv _ _).symm;have r:(B:Int)/((2^s:Nat):Int)=((B/2^s:Nat):Int):=(Int.natCast_ediv _ _).symm;rw[q,r];have g:((A/2^s:Nat):Int)%2=((A/2^s%2:Nat):Int):=by omega
  have i:((B/2^s:Nat):Int)%2=((B/2^s%2:Nat):Int):=by omega
  rw[g,i];have y:A/2^s%2<2:=kQ _ (by omega);have C:B/2^s%2<2:=kQ _ (by omega);clear q r g i;generalize E:A/2^s%2=X at*
  generalize G:B/2^s%2=Y at*
  have j:(bif bif bif op==6 then(X:Int)+(Y:Int)==2 else false then true else bif op==7 then decide ((0:Int)<(X:Int)+(Y:Int))else false then true else bif op==8 then(X:Int)+(Y:Int)==1 else false)=zJ op X Y:=by unfold zJ;cases op==6<;>cases op==7<;>cases op==8<;>simp
  rw[j];have d:∀z:Int,0<=z->z<=131072->IntKind.i64.wrap z=z:=λz _ _=>by rw[IntKind.wrap_i64];omega
  generalize iM op A B=W at*
  generalize A/2^s=I at*
  generalize B/2^s=J at*
  generalize 2^s=p at*
  refine⟨⟨by omega,by omega,d _ (by omega) (by omega)⟩,⟨by omega,by omega⟩,⟨by omega,by omega,d _ (by omega) (by omega)⟩,⟨by omega,by omega⟩,λ_=>d _ (by omega) (by omega),λ_ _=>d _ (by omega) (by omega),λ_ _=>d _ (by omega) (by omega),λn=>?_,λn=>?_⟩
  ·rw[n]at c;exact⟨d _ (by omega) (by omega),d _ (by omega) (by omega),s+1,by rw[e];omega,by rw[c];simp,trivial,by omega,by omega⟩
  ·rw[n]at c;exact⟨d _ (by omega) (by omega),s+1,by rw[e];omega,by rw[c];simp,trivial,by omega,by omega⟩
 ·have o:s=16:=by
   rcases bR s 16 with h1|h1
   ·exfalso;have l:2^s<=2^15:=Cg (by omega) (by omega);generalize 2^s=p at*
    simp at h;omega
   ·omega
  subst o;rw[yK (M7 (by omega) (by omega))];exact⟨rfl,trivial⟩
structure bM where
 kind:Int
 base:Int
 len:Int
 mark:Int
 cd:Int
 aH:Int
 from_:Int
structure dG where
 sp:Int
 pg:Int
 fr:Int
 wr:Bool
def mU (s:bM):List SV:= [.v (.int .i64 s.kind),.v (.int .i64 s.base),.v (.int .i64 s.len),.v (.int .i64 s.mark),.v (.int .i64 s.cd),.v (.int .i64 s.aH),.v (.int .i64 s.from_)]
def iO (e:dG):List SV:= [.v (.int .i64 e.sp),.v (.int .i64 e.pg),.v (.int .i64 e.fr),.v (.bool e.wr)]
def DF (f:Nat->SV):bM:=⟨av (f 0),av (f 1),av (f 2),av (f 3),av (f 4),av (f 5),av (f 6)⟩
def rj (f:Nat->SV):dG:=⟨av (f 0),av (f 1),av (f 2),oH (f 3)⟩
def Dg (f:Nat->SV):aF:=⟨av (f 0),av (f 1),av (f 2),av (f 3),av (f 4),av (f 5),av (f 6),av (f 7),av (f 8),av (f 9),av (f 10),av (f 11),av (f 12),av (f 13),av (f 14),av (f 15),av (f 16),av (f 17),av (f 18),av (f 19)⟩
def iF (f:Nat->Int):Nat->Nat->SV:=λi _=> .v (.int .i64 (f i))
def rF (L:Nat->List SV):Nat->Nat->SV:=λi j=>aN (L i) j
structure Wd where
 ay:Nat
 af:Nat->Int
 ak:Nat
 kinds:Nat->Int
 ao:Nat
 aa:Nat->bM
 aO:Nat
 tasks:Nat->aF
 aX:Nat
 ah:Nat->Nat
 lines:Nat->Nat->Int
 aP:Nat
 bits:Nat->Int
 aC:Nat
 ai:Nat->Int
 aR:Nat
 al:Nat->Nat
 ready:Nat->Nat->Int
 aQ:Nat
 aD:Nat->Nat
 ax:Nat->Nat->dG
 aL:Nat
 aA:Nat->Int
 time:Int
def hK (W:Wd):SV:= .ag 11 (aN [.sl true 1 W.ay (iF W.af),.sl true 1 W.ak (iF W.kinds),.sl true 7 W.ao (rF λi=>mU (W.aa i)),.sl true 20 W.aO (rF λi=>la (W.tasks i)),.sl true 1 W.aX (λi _=> .sl true 1 (W.ah i) (iF (W.lines i))),.sl true 1 W.aP (iF W.bits),.sl true 1 W.aC (iF W.ai),.sl true 1 W.aR (λi _=> .sl true 1 (W.al i) (iF (W.ready i))),.sl true 1 W.aQ (λi _=> .sl true 4 (W.aD i) (rF λk=>iO (W.ax i k))),.sl true 1 W.aL (iF W.aA),.v (.int .i64 W.time)])
def dN (W:Wd):SV:= .pt true 11 (aN [.sl true 1 W.ay (iF W.af),.sl true 1 W.ak (iF W.kinds),.sl true 7 W.ao (rF λi=>mU (W.aa i)),.sl true 20 W.aO (rF λi=>la (W.tasks i)),.sl true 1 W.aX (λi _=> .sl true 1 (W.ah i) (iF (W.lines i))),.sl true 1 W.aP (iF W.bits),.sl true 1 W.aC (iF W.ai),.sl true 1 W.aR (λi _=> .sl true 1 (W.al i) (iF (W.ready i))),.sl true 1 W.aQ (λi _=> .sl true 4 (W.aD i) (rF λk=>iO (W.ax i k))),.sl true 1 W.aL (iF W.aA),.v (.int .i64 W.time)])
def xI (k:Nat) (W:Wd):SV:= .ag 11 (aN [.aS (k+0) 0 none 0 W.ay,.aS (k+1) 0 none 0 W.ak,.aS (k+2) 0 none 0 W.ao,.aS (k+3) 0 none 0 W.aO,.aS (k+4) 0 none 0 W.aX,.aS (k+5) 0 none 0 W.aP,.aS (k+6) 0 none 0 W.aC,.aS (k+7) 0 none 0 W.aR,.aS (k+8) 0 none 0 W.aQ,.aS (k+9) 0 none 0 W.aL,.v (.int .i64 W.time)])
def Sb (k:Nat) (W:Wd):bp:= .cells [.aS (k+0) 0 none 0 W.ay,.aS (k+1) 0 none 0 W.ak,.aS (k+2) 0 none 0 W.ao,.aS (k+3) 0 none 0 W.aO,.aS (k+4) 0 none 0 W.aX,.aS (k+5) 0 none 0 W.aP,.aS (k+6) 0 none 0 W.aC,.aS (k+7) 0 none 0 W.aR,.aS (k+8) 0 none 0 W.aQ,.aS (k+9) 0 none 0 W.aL,.v (.int .i64 W.time)]
def tI (W:Wd):List bp:= [.row 1 W.ay (iF W.af),.row 1 W.ak (iF W.kinds),.row 7 W.ao (rF λi=>mU (W.aa i)),.row 20 W.aO (rF λi=>la (W.tasks i)),.row 1 W.aX (λi _=> .il 1 (W.ah i) (iF (W.lines i))),.row 1 W.aP (iF W.bits),.row 1 W.aC (iF W.ai),.row 1 W.aR (λi _=> .il 1 (W.al i) (iF (W.ready i))),.row 1 W.aQ (λi _=> .il 4 (W.aD i) (rF λk=>iO (W.ax i k))),.row 1 W.aL (iF W.aA)]
def cL (W:Wd):List bp:=Sb 1 W::tI W
def jj (a:SV):Wd:=⟨bT (cW a 0),λi=>av (bO (cW a 0) i 0),bT (cW a 1),λi=>av (bO (cW a 1) i 0),bT (cW a 2),λi=>DF (λj=>bO (cW a 2) i j),bT (cW a 3),λi=>Dg (λj=>bO (cW a 3) i j),bT (cW a 4),λi=>bT (bO (cW a 4) i 0),λi k=>av (bO (bO (cW a 4) i 0) k 0),bT (cW a 5),λi=>av (bO (cW a 5) i 0),bT (cW a 6),λi=>av (bO (cW a 6) i 0),bT (cW a 7),λi=>bT (bO (cW a 7) i 0),λi k=>av (bO (bO (cW a 7) i 0) k 0),bT (cW a 8),λi=>bT (bO (cW a 8) i 0),λi k=>rj (λj=>bO (bO (cW a 8) i 0) k j),bT (cW a 9),λi=>av (bO (cW a 9) i 0),av (cW a 10)⟩
def dJ (a:SV):Wd:=⟨bT (bN a 0),λi=>av (bO (bN a 0) i 0),bT (bN a 1),λi=>av (bO (bN a 1) i 0),bT (bN a 2),λi=>DF (λj=>bO (bN a 2) i j),bT (bN a 3),λi=>Dg (λj=>bO (bN a 3) i j),bT (bN a 4),λi=>bT (bO (bN a 4) i 0),λi k=>av (bO (bO (bN a 4) i 0) k 0),bT (bN a 5),λi=>av (bO (bN a 5) i 0),bT (bN a 6),λi=>av (bO (bN a 6) i 0),bT (bN a 7),λi=>bT (bO (bN a 7) i 0),λi k=>av (bO (bO (bN a 7) i 0) k 0),bT (bN a 8),λi=>bT (bO (bN a 8) i 0),λi k=>rj (λj=>bO (bO (bN a 8) i 0) k j),bT (bN a 9),λi=>av (bO (bN a 9) i 0),av (bN a 10)⟩
def cm (q:Nat):SV:= .ptr q 0 none 0 0
theorem K_ {n:Nat} {p:Nat->Bool} (h:∀j,j<n->p j=true):fA n p=true:=jX.2 h
theorem fh {i n:Nat} (h:decide ((i:Int)<(n:Int))=true):i<n:=by simpa using h
theorem fq {i n:Nat} (h:decide ((i:Int)<(n:Int))=false):n<=i:=by simpa using h
theorem tR {b:Bool} (h:(!b)=true):b=false:=by cases b<;>simp_all
theorem hC {b:Bool} (h:(!b)=false):b=true:=by cases b<;>simp_all
theorem eU {P:Nat->Prop} {s:Nat} (h:P (s+1)):∃s':Nat,((s:Int)+1)=(s':Int)/\P s':=⟨s+1,rfl,h⟩
def dz:Nat->(Nat->Bool)->Nat
 |0,_=>0
 |n+1,p=>bif Nat.blt (dz n p) n then dz n p else bif p n then n else n+1
theorem qt {p:Nat->Bool}:∀{n:Nat},(∀j,j<n->p j=false)->dz n p=n
 |0,_=>rfl
 |n+1,h=>by have:=qt (n:=n) λj b=>h j (by omega);simp[dz,this,h n (by omega),lS]
theorem qE {p:Nat->Bool} {i:Nat} (b:∀j,j<i->p j=false) (hp:p i=true):∀{n:Nat},i<n->dz n p=i
 |0,h=>absurd h (by omega)
 |n+1,h=>by
  rcases bR i n with h1|h1
  ·have:=qE b hp h1;simp[dz,this,lS,h1]
  ·obtain rfl:i=n:=by omega
   have:=qt b;simp[dz,this,lS,hp]
theorem Gm (p:Nat->Bool):∀n,dz n p<=n
 |0=>bc _
 |n+1=>by have:=Gm p n;unfold dz;cases h:Nat.blt (dz n p) n<;>cases h2:p n<;>simp<;>omega
def fE (n:Nat) (p:Nat->Bool):Int:=bif Nat.blt (dz n p) n then(dz n p:Nat)else -1
theorem v' {n:Nat} {p:Nat->Bool} (h:∀j,j<n->p j=false):fE n p= -1:=by unfold fE;rw[qt h,lS];simp
theorem Cf {n i:Nat} {p:Nat->Bool} (c:∀j,j<i->p j=false) (hp:p i=true) (b:i<n):fE n p=(i:Nat):=by unfold fE;rw[qE c hp b,lS];simp[b]
theorem gY {a b:Nat} (h:a<b):Nat.blt a b=true:=iC h
theorem kZ {a b:Nat} (h:b<=a):Nat.blt a b=false:=by rw[lS];exact decide_eq_false (by omega)
theorem abU {a b:Nat} (h:a<=b):Nat.ble a b=true:=iC h
theorem Re {p:Nat->Bool} {i:Nat} (h:∀j,j<i->p j=true) (c:p i=true):∀j,j<i+1->p j=true:=by
 intro j d;rcases bR j i with b|b
 ·exact h j b
 ·obtain rfl:j=i:=by omega
  exact c
def aJ (a b:aF):Prop:=((((((((((((((((((((True/\a.r0=b.r0)/\a.r1=b.r1)/\a.r2=b.r2)/\a.r3=b.r3)/\a.r4=b.r4)/\a.r5=b.r5)/\a.r6=b.r6)/\a.r7=b.r7)/\a.pc=b.pc)/\a.st=b.st)/\a.prio=b.prio)/\a.node=b.node)/\a.space=b.space)/\a.helper=b.helper)/\a.loc=b.loc)/\a.word=b.word)/\a.aH=b.aH)/\a.ar=b.ar)/\a.core=b.core)/\a.cI=b.cI)
def aK (a b:bM):Prop:=(((((((True/\a.kind=b.kind)/\a.base=b.base)/\a.len=b.len)/\a.mark=b.mark)/\a.cd=b.cd)/\a.aH=b.aH)/\a.from_=b.from_)
def aG (a b:dG):Prop:=((((True/\a.sp=b.sp)/\a.pg=b.pg)/\a.fr=b.fr)/\a.wr=b.wr)
def aB (Y X:Wd) (T:Prop):Prop:=(((((((((((True/\0=0/\Y.ay=X.ay)/\0=0/\Y.ak=X.ak)/\0=0/\Y.ao=X.ao)/\0=0/\Y.aO=X.aO)/\0=0/\Y.aX=X.aX)/\0=0/\Y.aP=X.aP)/\0=0/\Y.aC=X.aC)/\0=0/\Y.aR=X.aR)/\0=0/\Y.aQ=X.aQ)/\0=0/\Y.aL=X.aL)/\Y.time=X.time)/\(Y.ay=X.ay/\∀i:Nat,i<X.ay->True/\Y.af i=X.af i)/\(Y.ak=X.ak/\∀i:Nat,i<X.ak->True/\Y.kinds i=X.kinds i)/\(Y.ao=X.ao/\∀i:Nat,i<X.ao->aK (Y.aa i) (X.aa i))/\(Y.aO=X.aO/\∀i:Nat,i<X.aO->aJ (Y.tasks i) (X.tasks i))/\(Y.aX=X.aX/\∀i:Nat,i<X.aX->True/\Y.ah i=X.ah i/\∀k:Nat,k<X.ah i->True/\Y.lines i k=X.lines i k)/\(Y.aP=X.aP/\∀i:Nat,i<X.aP->True/\Y.bits i=X.bits i)/\(Y.aC=X.aC/\∀i:Nat,i<X.aC->True/\Y.ai i=X.ai i)/\(Y.aR=X.aR/\∀i:Nat,i<X.aR->True/\Y.al i=X.al i/\∀k:Nat,k<X.al i->True/\Y.ready i k=X.ready i k)/\(Y.aQ=X.aQ/\∀i:Nat,i<X.aQ->True/\Y.aD i=X.aD i/\∀k:Nat,k<X.aD i->aG (Y.ax i k) (X.ax i k))/\(Y.aL=X.aL/\∀i:Nat,i<X.aL->True/\Y.aA i=X.aA i)/\T
def xj (a b:aF):Bool:=(a.r0==b.r0&&(a.r1==b.r1&&(a.r2==b.r2&&(a.r3==b.r3&&(a.r4==b.r4&&(a.r5==b.r5&&(a.r6==b.r6&&(a.r7==b.r7&&true))))))))&&(a.pc==b.pc&&(a.st==b.st&&(a.prio==b.prio&&(a.node==b.node&&(a.space==b.space&&(a.helper==b.helper&&(a.loc==b.loc&&(a.word==b.word&&(a.aH==b.aH&&(a.ar==b.ar&&(a.core==b.core&&(a.cI==b.cI&&true))))))))))))
def m6 (x:Int):Prop:=0<=x/\x<=65535
def fF (n:Nat):Int:=bif decide (0<n%16)||decide (384<n)then -1 else(n/16:Nat)
def iJ (x n:Int):Int:=bif x/32768%2==0||decide (n<=x%1024)then -1 else x%1024
def xh (n:Nat) (sp at_:Int):Bool:=decide (fF n<0)||decide (sp<0)||decide (fF n<=sp)||az at_ 4095
def kn (n:Nat) (af:Nat->Int) (sp at_:Int):Int:=iJ (af (sp*16+at_/256).toNat) (fF n)
def mW (n:Nat) (af:Nat->Int) (sp at_:Int):Int:=af (kn n af sp at_*16+at_/16%16).toNat
def rD (n:Nat) (af:Nat->Int) (sp at_:Int):Int:=iJ (mW n af sp at_) (fF n)
def gT (n:Nat) (af:Nat->Int) (sp at_:Int):Int:=bif xh n sp at_ then 2 else bif decide (kn n af sp at_<0)||decide (rD n af sp at_<0)then 9 else 0
def jO (n:Nat) (af:Nat->Int) (sp at_:Int):Int:=bif gT n af sp at_==0 then rD n af sp at_ else 0
def jP (n:Nat) (af:Nat->Int) (sp at_:Int):Bool:=bif gT n af sp at_==0 then mW n af sp at_/16384%2==1 else false
theorem JR (n:Nat):(fF n= -1/\(0<n%16\/384<n))\/(fF n*16=n/\0<=fF n/\fF n<=24):=by
 unfold fF;by_cases h1:0<n%16
 ·left;simp[h1]
 ·by_cases h2:384<n
  ·left;simp[h2]
  ·right;simp only[h1,h2,decide_false,iI,cond_false];omega
theorem A3 {x:Int} (b:0<=x) (m:Int):(iJ x m= -1/\(x/32768%2=0\/m<=x%1024))\/(x/32768%2=1/\iJ x m=x%1024/\0<=iJ x m/\iJ x m<m):=by
 by_cases h1:x/32768%2=0
 ·left;unfold iJ;simp[h1]
 ·by_cases h2:m<=x%1024
  ·left;unfold iJ;simp[h2]
  ·right;have e:iJ x m=x%1024:=by unfold iJ;rw[show(x/32768%2==0)=false from beq_eq_false_iff_ne.2 h1,show decide (m<=x%1024)=false from decide_eq_false h2];rfl
   rw[e];omega
theorem adu (k X:Nat):X&&&2^k=X/2^k%2*2^k:=by
 have b:X.testBit k=decide (X/2^k%2=1):=Gn;apply Nat.eq_of_testBit_eq;intro i;rw[Gq,Ci];rcases Gp (X/2^k)with h|h
 ·rw[h];by_cases e:k=i
  ·subst e;simp[b,h]
  ·simp[e]
 ·rw[h,Nat.one_mul,Ci];by_cases e:k=i
  ·subst e;simp[b,h]
  ·simp[e]
theorem Rm (k:Nat) (b:k<=62) {x m:Int} (hm:m=(2^k:Nat)) (d:0<=x) (c:x<=65535):d_ .and .i64 x m=x/m%2*m:=by subst hm;have hp:(2:Nat)^k<9223372036854775808:=yP (Cg (by omega) b) (by decide);obtain⟨X,rfl⟩:∃X:Nat,x=X:=⟨x.toNat,by omega⟩;rw[HZ (by omega) (by omega) (pF _) (show((2^k:Nat):Int)<9223372036854775808 from Int.ofNat_lt.2 hp),cj,cj,adu];simp
theorem JS {x:Int} (d:0<=x) (b:x<=65535) (m:Int):(bif d_ .and .i64 x 32768==0 then true else decide (m<=d_ .and .i64 x 1023))=decide (iJ x m<0)/\(iJ x m<0\/d_ .and .i64 x 1023=iJ x m):=by
 rw[Rm 15 (by omega) (by decide) d b,Hm 10 (by omega) (by decide)];have c:((2:Int)^10)=1024:=by decide
 rw[c];rcases A3 d m with⟨h1,h2⟩|⟨h1,h2,e,g⟩
 ·rw[h1];refine⟨?_,.inl (by decide)⟩;rcases h2 with h2|h2
  ·rw[h2];rfl
  ·rw[show decide (m<=x%1024)=true from decide_eq_true h2];cases (x/32768%2*32768==0)<;>rfl
 ·rw[h1,show decide (m<=x%1024)=false from decide_eq_false (by omega),show decide (iJ x m<0)=false from decide_eq_false (by omega)];exact⟨rfl,.inr h2.symm⟩
structure Li where
 (n:Nat) (af:Nat->Int)
def VW:Sy.Spec:=⟨Li,λ⟨n,af⟩=> [.sl true 1 n (λb _=> .v (.int .i64 (af b)))],λ_=> [],λ_=>True,λ⟨n,_⟩=> .v (.int .i64 (fF n)),λ_=> [],
 λargs mem=>match args with| [a0]=>some ⟨bT a0,λi=>av (bO a0 i 0)⟩|_=>none⟩
def VX:aZ:=⟨[],(VW).g,none⟩
def Lj:Li->Prop:=λ⟨n,_⟩=>let a0:=(n:Int);let b0:=cond (a0%16 !=0) true (decide (384<a0));let c0:Int:=a0/16;a0<=9223372036854775807->(0<=a0/\(0:Int)<16)/\(b0=true->(-1)=fF n/\True)/\(b0=false->a0<=9223372036854775807->(0<=a0/\(0:Int)<16/\aw c0=c0)/\c0=fF n/\True)
set_option maxHeartbeats 1000000 in
theorem UL:aY Tryz.prog bk 134 VX:=bn .nil false Tryz.call134 Tryz.func134 (λ_=> []) (V:=Lj) (λ_=>by kernel_rfl) λ⟨n,af⟩ hp=>by
 dsimp only[Lj,tn,aw,aB,aJ,aK,aG];simp only[bq,bx,eq_self,implies_true,bo,cM,bX,aW,pI,decide_eq_true_eq,decide_eq_false_iff_not,beq_iff_eq,beq_eq_false_iff_ne,bne_iff_ne,bne_eq_false_iff_eq,dT,zg,ne_eq,Int.not_lt,Int.not_le];intro _;rcases JR n with⟨h1,h2⟩|⟨h1,h2,b⟩
 ·exact⟨by omega,λ_=>h1.symm,λh=>absurd h2 (by omega)⟩
 ·exact⟨by omega,λh=>by omega,λh _=>⟨⟨by omega,by rw[IntKind.wrap_i64];omega⟩,by omega⟩⟩
structure O5 where
 (n:Nat) (af:Nat->Int) (sp at_:Int)
def O6:Sy.Spec:=⟨O5,λ⟨n,af,sp,at_⟩=> [.sl true 1 n (λb _=> .v (.int .i64 (af b))),.v (.int .i64 sp),.v (.int .i64 at_)],λ_=> [],λ⟨n,af,_,_⟩=>∀i,i<n->m6 (af i),λ⟨n,af,sp,at_⟩=> .tp 3 (aN [.v (.int .i64 (jO n af sp at_)),.v (.bool (jP n af sp at_)),.er 43 66 (gT n af sp at_) (-1)]),λ_=> [],
 λargs mem=>match args with| [a0,a1,c]=>some ⟨bT a0,λi=>av (bO a0 i 0),av (a1),av (c)⟩|_=>none⟩
def Zl:aZ:=⟨[],(O6).g,none⟩
def O7:O5->Prop:=λ⟨n,af,sp,at_⟩=>let a0:=fF n;let b0:=cond (cond (cond (cond (decide (a0<0)) true (decide (sp<0))) true (decide (a0<=sp))) true (decide (at_<0))) true (decide (4096<=at_));let c0:=jO n af sp at_;let d0:=jP n af sp at_;let e0:=(True/\0=c0)/\false=d0;let b:=gT n af sp at_;let h0:=((-1):Int)=(-1);let k0:Int:=sp*16+at_/256;let e:Int:=af (Int.toNat k0);let o0:=d_ BinOp.and IntKind.i64 e 1023;let g:=cond (d_ BinOp.and IntKind.i64 e 32768==0) true (decide (a0<=o0));let r0:=(e0/\(9:Int)≠0/\b=9/\h0)/\True;let c:Int:=o0*16;let v0:Int:=at_/16;let w0:Int:=c+v0%16;let d:Int:=af (Int.toNat w0);let h:=d_ BinOp.and IntKind.i64 d 1023;let z0:=cond (d_ BinOp.and IntKind.i64 d 32768==0) true (decide (a0<=h));(((n=n/\(∀a1:Nat,a1<n->True/\af a1=af a1))/\True)/\True/\True)/\(b0=true->(e0/\(2:Int)≠0/\b=2/\h0)/\True)/\(b0=false->aw (sp*16)=sp*16/\(0<=at_/\(0:Int)<256/\aw (at_/256)=at_/256)/\aw k0=k0/\(0<=k0/\k0<(n:Int))/\(g=true->r0)/\(g=false->aw c=c/\(0<=at_/\(0:Int)<16/\aw v0=v0)/\(0<=v0/\(0:Int)<16)/\aw w0=w0/\(0<=w0/\w0<(n:Int))/\(z0=true->r0)/\(z0=false->(((True/\h=c0)/\(d_ BinOp.and IntKind.i64 d 16384 !=0)=d0)/\b=0/\h0)/\True)))
set_option maxHeartbeats 1000000 in
theorem XK:aY Tryz.prog bk 127 Zl:=bn (.cons UL .nil) false Tryz.call127 Tryz.func127 (λ_=> []) (V:=O7) (λ_=>by kernel_rfl) λ⟨n,af,sp,at_⟩ hp=>by
 dsimp only[O6]at hp;dsimp only[O7,tn,aw,aB,aJ,aK,aG];have i:∀z:Int,0<=z->z<n->m6 (af z.toNat):=λz h1 h2=>hp _ (by omega);unfold m6 at i;have wr:∀z:Int,-100000<=z->z<=100000->IntKind.i64.wrap z=z:=λz h1 h2=>by rw[IntKind.wrap_i64];omega
 have q:∀b,xh n sp at_=b->(b=true/\gT n af sp at_=2/\jO n af sp at_=0/\jP n af sp at_=false)\/(b=false/\fF n*16=n/\0<=sp/\sp<fF n/\0<=at_/\at_<=4095/\fF n<=24):=λb h=>by
  cases b with
  |true=>left;simp[gT,jO,jP,h]
  |false=>
   right;simp[xh,az]at h;rcases JR n with⟨r,v⟩|⟨r,v,x⟩
   ·omega
   ·exact⟨rfl,by omega⟩
 have j:(bif bif bif bif decide (fF n<0)then true else decide (sp<0)then true else decide (fF n<=sp)then true else decide (at_<0)then true else decide (4096<=at_))=xh n sp at_:=by unfold xh az;rw[show decide (4096<=at_)=decide (4095<at_)from decide_eq_decide.2 (by omega)];cases decide (fF n<0)<;>cases decide (sp<0)<;>cases decide (fF n<=sp)<;>cases decide (at_<0)<;>rfl
 simp only[bq,eq_self,implies_true,bo];rw[j];refine⟨λh=>?_,λh=>?_⟩
 ·rcases q _ h with⟨_,h1,h2,y⟩|⟨h0,_⟩
  ·rw[h1,h2,y];exact⟨⟨rfl,rfl⟩,by decide,rfl⟩
  ·cases h0
 rcases q _ h with⟨h0,_⟩|⟨_,r,p1,O,R,S,x⟩
 ·cases h0
 have k:=i (sp*16+at_/256) (by omega) (by omega);have l:iJ (af (sp*16+at_/256).toNat) (fF n)=kn n af sp at_:=rfl;obtain⟨c1,d⟩:=JS k.1 k.2 (fF n);rw[c1];rw[l]at d⊢;refine⟨wr _ (by omega) (by omega),⟨by omega,by omega,wr _ (by omega) (by omega)⟩,wr _ (by omega) (by omega),by omega,?_⟩;rcases A3 k.1 (fF n)with⟨t1,t⟩|⟨t1,t,t3,t4⟩
 ·rw[l]at t1;refine⟨λ_=>?_,λh=>by simp[t1]at h⟩;have e:gT n af sp at_=9:=by simp[gT,h,t1]
  exact⟨⟨by simp[jO,e],by simp[jP,e]⟩,by decide,e⟩
 rw[l]at t t3 t4;refine⟨λh=>by simp at h;omega,λ_=>?_⟩;replace d:=d.resolve_left (by omega);rw[d];have c:=i (kn n af sp at_*16+at_/16%16) (by omega) (by omega);have A:af (kn n af sp at_*16+at_/16%16).toNat=mW n af sp at_:=rfl;rw[A]at c⊢;refine⟨wr _ (by omega) (by omega),⟨by omega,by omega,wr _ (by omega) (by omega)⟩,by omega,wr _ (by omega) (by omega),by omega,?_⟩;obtain⟨d1,d2⟩:=JS c.1 c.2 (fF n);rw[d1];have o:iJ (mW n af sp at_) (fF n)=rD n af sp at_:=rfl;rw[o]at d2⊢;rcases A3 c.1 (fF n)with⟨g,u⟩|⟨g,u,B,C⟩
 ·rw[o]at g;refine⟨λ_=>?_,λh=>by simp[g]at h⟩;have e:gT n af sp at_=9:=by simp[gT,h,g]
  exact⟨⟨by simp[jO,e],by simp[jP,e]⟩,by decide,e⟩
 rw[o]at u B C;have E:decide (kn n af sp at_<0)=false:=decide_eq_false (by omega);have G:decide (rD n af sp at_<0)=false:=decide_eq_false (by omega);have e:gT n af sp at_=0:=by simp[gT,h,E,G]
 refine⟨λh=>by simp at h;omega,λ_=>?_⟩;have I:jO n af sp at_=rD n af sp at_:=by simp[jO,e]
 have J:jP n af sp at_=(mW n af sp at_/16384%2==1):=by simp[jP,e]
 replace d2:=d2.resolve_left (by omega);rw[I,J,e,d2,Rm 14 (by omega) (by decide) c.1 c.2];have p:(mW n af sp at_/16384%2*16384 !=0)=(mW n af sp at_/16384%2==1):=by
  have K:mW n af sp at_/16384%2=0\/mW n af sp at_/16384%2=1:=by omega
  rcases K with h|h<;>rw[h]<;>rfl
 rw[p]
 repeat' (first|exact trivial|rfl|omega|exact wr _ (by omega) (by omega)|refine And.intro ?_ ?_)
def pB (k b l m:Int):Bool:=decide (b<0)||decide (24<b)||decide (l<1)||decide (24<l)||decide (24<b+l)||(k !=1&&(l !=1||m !=0))||(k==1&&az m l)
def pC (k g:Int):Bool:=az g 65535||(decide (0<g)&&k !=7&&k !=8)
def dP (k b l m r g:Int):Int:=
 bif az k 8 then 3 else
 bif k==0 then(bif b !=0||l !=0||m !=0||r !=0||g !=0 then 2 else 0)else
 bif pB k b l m then 2 else bif az r 7 then 4 else bif pC k g then 2 else 0
theorem ED {k b l m r g:Int} (h:dP k b l m r g=0):0<=k/\k<=8/\0<=b/\b<=24/\0<=l/\l<=24/\0<=m/\m<=24/\0<=r/\r<=7/\0<=g/\g<=65535:=by
 unfold dP pB pC az at h;simp only[cond_eq_ite,bne,cM,aW,dT,decide_eq_true_eq,beq_iff_eq,beq_eq_false_iff_ne]at h
 repeat' split at h
 all_goals first|(cases h;done)|omega
structure Jt where
 (k b l m r g:Int)
def Tw:Sy.Spec:=⟨Jt,λ⟨k,b,l,m,r,g⟩=> [.ag 6 (aN [.v (.int .i64 k),.v (.int .i64 b),.v (.int .i64 l),.v (.int .i64 m),.v (.int .i64 r),.v (.int .i64 g)])],λ_=> [],λ_=>True,λ⟨k,b,l,m,r,g⟩=> .er 43 66 (dP k b l m r g) (-1),λ_=> [],
 λargs mem=>match args with| [a0]=>some ⟨av (cW a0 0),av (cW a0 1),av (cW a0 2),av (cW a0 3),av (cW a0 4),av (cW a0 5)⟩|_=>none⟩
def Tx:aZ:=⟨[],(Tw).g,none⟩
def Ju:Jt->Prop:=λ⟨k,b,l,m,r,g⟩=>let a0:=cond (decide (k<0)) true (decide (8<k));let b0:=dP k b l m r g;let c0:=((-1):Int)=(-1);let d0:=!(k==0&&(b==0&&(l==0&&(m==0&&(r==0&&(g==0&&true))))));let e0:=((2:Int)≠0/\b0=2/\c0)/\True;let c:=(b0=0/\c0)/\True;let h0:=cond (cond (cond (decide (b<0)) true (decide (24<=b))) true (decide (l<1))) true (decide (aw (24-b)<l));let k0:=cond (cond (cond (cond (k !=1) (l !=1) false) true (decide (m<0))) true (decide (l<m))) true (cond (k !=1) (m !=0) false);let d:=cond (decide (r<0)) true (decide (7<r));let o0:=cond (cond (decide (g<0)) true (decide (65535<g))) true (cond (cond (g !=0) (k !=7) false) (k !=8) false);True/\(a0=true->((3:Int)≠0/\b0=3/\c0)/\True)/\(a0=false->((k==0)=true->(d0=true->e0)/\(d0=false->c))/\((k==0)=false->(h0=true->e0)/\(h0=false->(k0=true->e0)/\(k0=false->(d=true->((4:Int)≠0/\b0=4/\c0)/\True)/\(d=false->(o0=true->e0)/\(o0=false->c))))))
theorem Jh:aY Tryz.prog bk 108 Tx:=bn .nil true Tryz.call108 Tryz.func108 (λ_=> []) (V:=Ju) (λ_=>by kernel_rfl) λ⟨k,b,l,m,r,g⟩ hp=>by
 dsimp only[Ju,tn,aw];have c:(bif bif bif decide (b<(0:Int))then true else decide ((24:Int)<=b)then true else decide (l<(1:Int))then true else decide (IntKind.i64.wrap (24 -b)<l))=
  (decide (b<0)||decide (24<b)||decide (l<1)||decide (24<l)||decide (24<b+l)):=by
  by_cases h:b<0\/24<=b\/l<1
  ·have:b<0\/24<b\/l<1\/24<b+l:=by omega
   have h2:(bif bif bif decide (b<(0:Int))then true else decide ((24:Int)<=b)then true else decide (l<(1:Int))then true else decide (IntKind.i64.wrap (24 -b)<l))=true:=by rcases h with h|h|h<;>simp[h]
   rw[h2];rcases this with h|h|h|h<;>simp[h]
  ·have e:IntKind.i64.wrap (24 -b)=24 -b:=by rw[IntKind.wrap_i64];omega
   rw[e];have h1:¬b<0:=by omega
   have h2:¬24<=b:=by omega
   have d:¬l<1:=by omega
   have i:¬24<b:=by omega
   simp[h1,h2,d,i];by_cases j:24 -b<l<;>simp[j]<;>omega
 rw[c];unfold dP pB pC az
 repeat' (first|exact trivial|refine And.intro ?_ ?_|intro h)
 all_goals (clear c)
 all_goals (try simp only[Bool.cond_true_left,Bool.cond_false_right]at*)
 all_goals (simp only[cond_eq_ite,az,bne,cM,aW,dT,zg,pI,decide_eq_true_eq,beq_iff_eq,beq_eq_false_iff_ne,bX,decide_eq_false_iff_not,Bool.ite_eq_true_distrib,Bool.ite_eq_false_distrib]at*)
 all_goals (repeat' split)
 all_goals (first|rfl|(exfalso;simp_all<;>omega)|omega)
end Go.Proofs.YthgmgkabnffniaaGreatDoor
