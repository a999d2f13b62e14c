/-
  Sy, the entry: what the data of a row's arguments stand for.
-/
import Derived.Test.YthgmgkabnffniaaGreatDoorYH
import Derived.ChangeArms
import Derived.OpenShut
import Derived.DataReads
import Derived.WideShapes
import Derived.Test.YthgmgkabnffniaaGreatDoorProg
import Derived.WalkKit
import Derived.LaidEql
import Derived.Stop.Asserts
import Derived.RowKitTokens
import Derived.Outline
import Derived.IntWalk
set_option linter.unusedVariables false
set_option linter.unusedSimpArgs false
set_option linter.unusedVariables false
set_option linter.unusedSimpArgs false
namespace Go.Sy
open Go.RowKit
def o0:Ow:=⟨λ_=>False,λ_=>False,λ_ _=>none,λ_=>(0,0)⟩
variable {H:Type}
def jm:DataW H->Int| .lit (.int _ n)=>n|_=>0
def agu:DataW H->Bool| .lit (.bool b)=>b|_=>false
def Fm:DataW H->ByteArray| .lit (.string l)=>⟨l.toArray⟩|_=>ByteArray.empty
def zf:List (DataW H)->Nat->DataW H| [],_=> .nil|x::_,0=>x|_::r,n+1=>zf r n
def qM:DataW H->Nat->DataW H| .agg l,i=>zf l i|_,_=> .nil
def jW:DataW H->Nat| .slice l _=>l.length|_=>0
def lM:DataW H->Nat->DataW H| .slice l _,i=>zf l i|_,_=> .nil
def fieldAt (P:Program) (j:Nat):Nat->List Field->Option (Nat×Field)
  |_,[]=>none
  |k,f::r=>match Nat.ble f.offset j&&Nat.blt j (f.offset+P.cellsOf f.type)with|true=>some (k,f)|false=>fieldAt P j (k+1) r
def kU (P:Program):Nat->TypeId->DataW H->Nat->SV
  |0,_,_,_=> .aF
  |n+1,T,d,j=>
   match P.underlying T with
   |some (.int k)=>match j with|0=> .v (.int k (jm d))|_=> .aF
   |some .bool=>match j with|0=> .v (.bool (agu d))|_=> .aF
   |some .string=>match j with|0=> .v (.string (Fm d))|_=> .aF
   |some (.slice E)=>match j with|0=> .sl true (P.cellsOf E) (jW d) λa b=>kU P n E (lM d a) b|_=> .aF
   |some (.struct fs)=>match fieldAt P j 0 fs.toList with|some (k,f)=>kU P n f.type (qM d k) (j -f.offset)|none=> .aF
   |some (.array m E)=>match Nat.blt 0 (P.cellsOf E)&&Nat.blt (j/P.cellsOf E) m with|true=>kU P n E (qM d (j/P.cellsOf E)) (j%P.cellsOf E)|false=> .aF
   |_=> .aF
def JJ (P:Program) (T:TypeId) (d:DataW H):SV:=
  match P.underlying T with
  |some u=>match oM u with|true=> .ag (P.cellsOf T) (kU P 8 T d)|false=>kU P 8 T d 0
  |none=> .aF
def u_ (P:Program):Nat->TypeId->DataW H->Prop
  |0,_,_=>True
  |n+1,T,d=>
   match P.underlying T with
   |some (.int k)=>k.wrap (jm d)=jm d
   |some .string=>((Fm d).size:Int)<=9223372036854775807
   |some (.slice E)=>(jW d:Int)<=9223372036854775807/\ ∀i,i<jW d->u_ P n E (lM d i)
   |some (.struct fs)=>JK (u_ P n) d 0 fs.toList
   |some (.array m E)=> ∀i,i<m->u_ P n E (qM d i)
   |_=>True
  where JK (rec:TypeId->DataW H->Prop) (d:DataW H):Nat->List Field->Prop
  |_,[]=>True
  |k,f::r=>rec f.type (qM d k)/\JK rec d (k+1) r
theorem DS: ∀{l:List (DataW H)} {i:Nat} {x:DataW H},l[i]? =some x->zf l i=x
  | [],_,_,h=>by simp at h
  |_::_,0,_,h=>by simpa [zf]using h
  |_::_,i+1,_,h=>by simp only[zf];exact DS (by simpa using h)
theorem Mg {P:Program} {j:Nat}: ∀{l:List Field} {k k':Nat} {f:Field},fieldAt P j k l=some (k',f)->k<=k'/\l[k' -k]? =some f/\f.offset<=j/\j<f.offset+P.cellsOf f.type
  | [],_,_,_,h=>by simp[fieldAt]at h
  |g::r,k,k',f,h=>by
   unfold fieldAt at h
   split at h
   · next hb=>
     simp only[Option.some.injEq,Prod.mk.injEq]at h
     obtain⟨rfl,rfl⟩:=h
     simp only[Bool.and_eq_true,oL,Nat.ble_eq,decide_eq_true_eq]at hb
     exact⟨Nat.le_refl _,by simp,hb.1,hb.2⟩
   · obtain⟨J,h2,h3⟩:=Mg h
     refine⟨by omega,?_,h3⟩
     rw[show k' -k=(k' -(k+1))+1 by omega]
     simpa using h2
theorem PE {rec:TypeId->DataW H->Prop} {d:DataW H}: ∀{l:List Field} {k:Nat},(∀i f,l[i]? =some f->rec f.type (qM d (k+i)))->u_.JK rec d k l
  | [],_,_=>trivial
  |f::r,k,h=>⟨h 0 f rfl,PE λi f hf=>by have:=h (i+1) f (by simpa using hf);rwa [show k+(i+1)=k+1+i by omega]at this⟩
theorem aa9 {k:IntKind} {n:Int} (h:(Lit.int k n).wf=true):k.wrap n=n:=by
  cases k<;>simp[Lit.wf,IntKind.min,IntKind.max,IntKind.signed,IntKind.bits]at h<;>simp[IntKind.wrap,IntKind.signed,IntKind.bits]<;>(try split)<;>omega
variable {P:Program} {w:World} {enc:TypeId×Value->H} {base:Nat} {spare:Nat->Bool} {held:Bool}
theorem vx: ∀(n fuel:Nat) {T:TypeId} {cs:List Value} {x:DataW H×List MemPlace},DataW.trod enc P w base spare held fuel T cs=some x->
    (∀j,j<cs.length-> ∃y,cs[j]? =some y/\Den w o0 (kU P n T x.1 j) y)/\u_ P n T x.1
  |0,_,T,cs,x,h=>⟨λj hj=>⟨_,List.getElem?_eq_getElem hj,trivial⟩,trivial⟩
  |n+1,fuel,T,cs,x,h=>by
   have aF: ∀{s:Nat->SV},(∀j,s j= .aF)-> ∀j,j<cs.length-> ∃y,cs[j]? =some y/\Den w o0 (s j) y:=λhs j hj=>⟨_,List.getElem?_eq_getElem hj,by rw[hs];trivial⟩
   unfold kU u_
   cases hu:P.underlying T with
   |none=>exact⟨aF λ_=>rfl,trivial⟩
   |some u=>
    cases u with
    |int k=>
     obtain⟨z,rfl,rfl,hw⟩:=DataW.trod_int hu h
     refine⟨λj hj=>?_,aa9 hw⟩
     obtain rfl:j=0:=by simp at hj;exact hj
     exact⟨_,rfl,rfl⟩
    |bool=>
     obtain⟨z,rfl,rfl⟩:=DataW.trod_bool hu h
     refine⟨λj hj=>?_,trivial⟩
     obtain rfl:j=0:=by simp at hj;exact hj
     exact⟨_,rfl,rfl⟩
    |string=>
     obtain⟨z,rfl,rfl,hz⟩:=DataW.trod_string hu h
     have e:Fm (.lit (.string z.data.toList):DataW H)=z:=by simp[Fm]
     refine⟨λj hj=>?_,by rw[e];unfold maxLen at hz;omega⟩
     obtain rfl:j=0:=by simp at hj;exact hj
     exact⟨_,rfl,by simp only[Den];rw[e]⟩
    |slice E=>
     rcases DataW.trod_slice hu h with⟨rfl,rfl⟩|⟨a,len,cap,elems,rest,m,rfl,rfl,rfl,J,h2,h3,h4,h5,_,_⟩
     · refine⟨λj hj=>?_,by simp[jW],λi hi=>absurd hi (by simp[jW])⟩
       obtain rfl:j=0:=by simp at hj;exact hj
       exact⟨_,rfl,none,0,rfl,Nat.le_refl _,Nat.zero_le _,.inl rfl⟩
     · have hlen:jW (.slice (elems.map (·.1)) (rest.map (·.1)):DataW H)=len:=by simp[jW,h4]
       have el: ∀i,i<len-> ∃y zE,elems[i]? =some y/\lM (.slice (elems.map (·.1)) (rest.map (·.1)):DataW H) i=y.1/\w.cells? base (a.add (i*P.cellsOf E)) (P.cellsOf E)=some zE/\DataW.trod enc P w base spare held m E zE=some y:=by
         intro i hi
         have h6:=h5 i hi
         rw[List.getElem?_eq_getElem (by omega)]at h6
         rw[Option.bind_eq_some_iff]at h6
         obtain⟨zE,h7,h8⟩:=h6
         exact⟨_,zE,List.getElem?_eq_getElem (by omega),DS (by rw[List.getElem?_map,List.getElem?_eq_getElem (by omega)];rfl),h7,h8⟩
       refine⟨λj hj=>?_,by rw[hlen];unfold maxLen at h3;omega,λi hi=>?_⟩
       · obtain rfl:j=0:=by simp at hj;exact hj
         refine⟨_,rfl,some a,cap,by rw[hlen],by rw[hlen];exact h2,by rw[hlen];exact Nat.le_trans h2 h3,.inr ⟨a,rfl,λi hi q hq=>?_⟩⟩
         rw[hlen]at hi
         obtain⟨y,zE,h6,h7,h8,h9⟩:=el i hi
         obtain⟨g1,g2,g3⟩:=World.cells?_some h8
         obtain⟨z,ib,fL⟩:=(vx n m h9).1 q (by omega)
         refine⟨z,?_,⟨id,λ_=>id⟩,by
           show Den w o0.bare (kU P n E (lM (.slice (elems.map (·.1)) (rest.map (·.1))) i) q) z
           rw[h7];exact fL⟩
         have:=g3 q hq
         rw[add_add]at this
         rw[this];exact ib
       · rw[hlen]at hi
         obtain⟨y,zE,h6,h7,h8,h9⟩:=el i hi
         rw[h7];exact(vx n m h9).2
    |struct fs=>
     obtain⟨xs,m,rfl,rfl,hl,pQ,hf⟩:=DataW.trod_struct hu h
     have part: ∀i f,fs.toList[i]? =some f-> ∃y,qM (.agg (xs.map (·.1)):DataW H) i=y.1/\DataW.trod enc P w base spare held m f.type ((cs.drop f.offset).take (P.cellsOf f.type))=some y:=by
       intro i f hi
       have h6:=hf i f (by simpa using hi)
       have av:i<xs.length:=by
         have:=(List.getElem?_eq_some_iff.1 hi).1
         simp at this;omega
       rw[List.getElem?_eq_getElem av]at h6
       exact⟨_,DS (by rw[List.getElem?_map,List.getElem?_eq_getElem av];rfl),h6⟩
     refine⟨λj hj=>?_,PE λi f hi=>?_⟩
     · show∃y,_/\Den w o0 (match fieldAt P j 0 fs.toList with|some (k,f)=>kU P n f.type (qM _ k) (j -f.offset)|none=> .aF) y
       cases hfa:fieldAt P j 0 fs.toList with
       |none=>exact⟨_,List.getElem?_eq_getElem hj,trivial⟩
       |some kf=>
        obtain⟨k,f⟩:=kf
        obtain⟨_,h7,h8,h9⟩:=Mg hfa
        obtain⟨y,ib,fL⟩:=part k f (by simpa using h7)
        have hlen:((cs.drop f.offset).take (P.cellsOf f.type)).length=min (P.cellsOf f.type) (cs.length -f.offset):=by simp
        obtain⟨z,jM,lj⟩:=(vx n m fL).1 (j -f.offset) (by rw[hlen];omega)
        refine⟨z,?_,by show Den w o0 (kU P n f.type (qM (.agg (xs.map (·.1))) k) (j -f.offset)) z;rw[ib];exact lj⟩
        rw[List.getElem?_take_of_lt (by omega),List.getElem?_drop,show f.offset+(j -f.offset)=j by omega]at jM
        exact jM
     · rw[Nat.zero_add]
       obtain⟨y,ib,fL⟩:=part i f hi
       rw[ib];exact(vx n m fL).2
    |array q E=>
     obtain⟨xs,m,rfl,rfl,hl,pQ,hf⟩:=DataW.trod_array hu h
     have part: ∀i,i<q-> ∃y,qM (.agg (xs.map (·.1)):DataW H) i=y.1/\DataW.trod enc P w base spare held m E ((cs.drop (i*P.cellsOf E)).take (P.cellsOf E))=some y:=by
       intro i hi
       have h6:=hf i hi
       rw[List.getElem?_eq_getElem (by omega)]at h6
       exact⟨_,DS (by rw[List.getElem?_map,List.getElem?_eq_getElem (by omega)];rfl),h6⟩
     refine⟨λj hj=>?_,λi hi=>?_⟩
     · show∃y,_/\Den w o0 (match Nat.blt 0 (P.cellsOf E)&&Nat.blt (j/P.cellsOf E) q with|true=>kU P n E (qM _ (j/P.cellsOf E)) (j%P.cellsOf E)|false=> .aF) y
       cases hb:Nat.blt 0 (P.cellsOf E)&&Nat.blt (j/P.cellsOf E) q with
       |false=>exact⟨_,List.getElem?_eq_getElem hj,trivial⟩
       |true=>
        rw[Bool.and_eq_true,oL,oL,decide_eq_true_eq,decide_eq_true_eq]at hb
        obtain⟨hz,hb⟩:=hb
        obtain⟨y,ib,fL⟩:=part _ hb
        · have aiF:=Nat.mod_lt j hz
          have VF:=Nat.div_add_mod j (P.cellsOf E)
          rw[Nat.mul_comm]at VF
          have hlen:((cs.drop ((j/P.cellsOf E)*P.cellsOf E)).take (P.cellsOf E)).length=min (P.cellsOf E) (cs.length -(j/P.cellsOf E)*P.cellsOf E):=by simp
          obtain⟨z,jM,lj⟩:=(vx n m fL).1 (j%P.cellsOf E) (by rw[hlen];omega)
          refine⟨z,?_,by show Den w o0 (kU P n E (qM (.agg (xs.map (·.1))) (j/P.cellsOf E)) (j%P.cellsOf E)) z;rw[ib];exact lj⟩
          rw[List.getElem?_take_of_lt (by omega),List.getElem?_drop,VF]at jM
          exact jM
     · obtain⟨y,ib,fL⟩:=part i hi
       rw[ib];exact(vx n m fL).2
    |_=>exact⟨aF λ_=>rfl,trivial⟩
theorem Zs {T:TypeId} {v:Value} {d:DataW H} {p:List MemPlace} {r:Reach} {b:Nat} (h:DataW.Trod enc P w base spare held T v d p) (hv:Value.okWide P w r b T v):Den w o0 (JJ P T d) v/\u_ P 8 T d:=by
  obtain⟨fuel,h⟩:=h
  obtain⟨J,h2⟩:=vx 8 fuel h
  refine⟨?_,h2⟩
  have one:v.cells= #[v]->Den w o0 (kU P 8 T d 0) v:=λe=>by
    obtain⟨y,h3,h4⟩:=J 0 (by rw[e];simp)
    rw[e]at h3
    obtain rfl:v=y:=by simpa using h3
    exact h4
  unfold JJ
  cases hu:P.underlying T with
  |none=>trivial
  |some u=>
   have agg: ∀cs,v= .agg cs->cs.size=P.cellsOf T->Den w o0 (.ag (P.cellsOf T) (kU P 8 T d)) v:=by
     rintro cs rfl hs
     refine⟨cs,rfl,hs,λj hj=>?_⟩
     obtain⟨y,h3,h4⟩:=J j (by show j<cs.toList.length;simp;omega)
     have h3:cs.toList[j]? =some y:=h3
     exact⟨y,by simpa using h3,h4⟩
   have jk:kU P 8 T d 0= .aF->Den w o0 (kU P 8 T d 0) v:=λe=>by rw[e];trivial
   cases u with
   |struct fs=>
    unfold Value.okWide at hv;rw[hu]at hv
    obtain⟨cs,e,hs,_⟩:=hv
    exact agg cs e hs
   |array n E=>
    unfold Value.okWide at hv;rw[hu]at hv
    obtain⟨cs,e,hs,_⟩:=hv
    exact agg cs e hs
   |int k=>obtain⟨n,rfl⟩:=WideShapes.okWide_int hu hv;exact one rfl
   |bool=>obtain⟨n,rfl⟩:=WideShapes.okWide_bool hu hv;exact one rfl
   |string=>obtain⟨n,rfl⟩:=WideShapes.okWide_string hu hv;exact one rfl
   |slice E=>obtain⟨a,l,c,rfl⟩:=WideShapes.okWide_slice hu hv;exact one rfl
   |_=>exact jk (by unfold kU;rw[hu])
def BD (P:Program):List TypeId->List (DataW H)->List SV
  |t::ts,d::ds=>JJ P t d::BD P ts ds
  |_,_=> []
def B4 (P:Program):List TypeId->List (DataW H)->Prop
  |t::ts,d::ds=>u_ P 8 t d/\B4 P ts ds
  |_,_=>True
theorem Np {r:Reach} {b:Nat}: ∀{ts:List TypeId} {vs:List Value} {ds:List (DataW H)} {p:List MemPlace},DataW.TrodAll enc P w base spare held ts vs ds p->
    (∀(j:Nat) t v,ts[j]? =some t->vs[j]? =some v->Value.okWide P w r b t v)->b_ w o0 (BD P ts ds) vs/\B4 P ts ds
  | [],[],[],_,_,_=>⟨trivial,trivial⟩
  |t::ts,v::vs,d::ds,_,⟨p,q,J,h2,_⟩,hv=>by
   obtain⟨h3,h4⟩:=Zs J (hv 0 t v rfl rfl)
   obtain⟨h5,h6⟩:=Np h2 (λj t v h h'=>hv (j+1) t v (by simpa using h) (by simpa using h'))
   exact⟨⟨h3,h5⟩,h4,h6⟩
theorem agv (W:World):aR W o0 (di 0 []):=⟨(Dw []).symm,λb ⟨k,p,L,h,_⟩=>(by cases h),λ_ h=>False.elim h,λ_ h=>False.elim h,λ_ h=>False.elim h,λ_ _ _ _ _ _ h=>(by cases h),λ_ _ _ h=>(by cases h),λ_ _ _ h=>(by cases h),λ_ _ h=>(by cases h),λ_ _ _ _=>rfl⟩
theorem Zt {Gl:Nat->SV} {f:Nat} {c:aT} (bF:aU P Gl f c) {ts:List TypeId} {vs:Array Value} {ds:List (DataW H)} {p:List MemPlace} {r:Reach} {b:Nat}
    (hc: ∀ds:List (DataW H),ds.length=ts.length->B4 P ts ds-> ∃pr,c.g (BD P ts ds) []=some (pr,.v (.bool true),[])/\pr)
    (hg: ∀g,Den w o0.bare (Gl g) (.pointer (some ⟨g,0,none⟩))) (h:DataW.TrodAll enc P w base spare held ts vs.toList ds p) (hl:ds.length=ts.length)
    (hv: ∀(j:Nat) t v,ts[j]? =some t->vs[j]? =some v->Value.okWide P w r b t v):
    Calls P f vs w λe W'=>e= .returned (.bool true)/\Below w.heap.size w W':=by
  obtain⟨J,h2⟩:=Np h (λj t v e e'=>hv j t v e (by simpa using e'))
  obtain⟨pr,h3,h4⟩:=hc ds hl h2
  refine(bF.fn _ _ _ _ _ h3 h4 w o0 vs hg (agv w) J).mono ?_
  rintro e W' ⟨v,ao,rfl,ha,_,hr,_⟩
  have hr:v= .bool true:=hr
  exact⟨by rw[hr],ha.os,ha.tape,ha.output,ha.size,λk hk=>ha.same k hk id⟩
theorem aU.up {Gl Ky:Nat->SV} {f:Nat} {c:aT} (h:aU P Ky f c) (hu: ∀g,Ky g=Gl g\/Ky g= .aF):aU P Gl f c:=
  ⟨h.call,λargs mem pre res bI e hp w ω vs hG=>h.fn args mem pre res bI e hp w ω vs λg=>by
    rcases hu g with e|e
    · rw[e];exact hG g
    · rw[e];trivial,h.pj⟩
def Fo:Option (Prop×SV×List bc)->Prop
  |some (p,.v (.bool true),[])=>p
  |_=>False
theorem Yr {x:Option (Prop×SV×List bc)} (h:Fo x): ∃pr,x=some (pr,.v (.bool true),[])/\pr:=by
  unfold Fo at h
  split at h
  · exact⟨_,rfl,h⟩
  · exact h.elim
def aeU (P:Program) (ts:List TypeId):Array Value:=(ts.map λt=>match P.info? t with|some i=>i.zero.getD undef|none=>undef).toArray
end Go.Sy
namespace Go.Proofs.YthgmgkabnffniaaGreatDoor
open Go.RowKit Go.Extern.Stop Go.Stop Go.Extern
set_option linter.unusedVariables false
set_option linter.unusedSimpArgs false
/-! 66: *api.Fault · 68: **api.Fault · 43: api.Errno · 71: *api.Errno · 31: error · 136: reflectlite's rtype · 6: how many variables -/
theorem A.Ga (w:World):((ReflectliteType.abiMethod λt=>(λa:Nat=>Value.int IntKind.u8 (a:Int))<$>Rtype.kind t) #[.pointer (some ⟨3,43,none⟩)]).run Tryz.prog w= .ok (.int .u8 2) w:=by kernel_rfl
end Go.Proofs.YthgmgkabnffniaaGreatDoor
namespace Go.Proofs.YthgmgkabnffniaaGreatDoor
open Go.RowKit Go.Extern.Stop Go.Stop Go.Extern
set_option linter.unusedVariables false
set_option linter.unusedSimpArgs false
end Go.Proofs.YthgmgkabnffniaaGreatDoor
namespace Go.Proofs.YthgmgkabnffniaaGreatDoor
open Go.RowKit Go.Extern.Stop Go.Stop Go.Extern
set_option linter.unusedVariables false
set_option linter.unusedSimpArgs false
theorem A.m_ {w:World} {a:Addr} {x:Value} (h:w.cell? a=some x):a.block<w.heap.size:=by
  rcases Nat.lt_or_ge a.block w.heap.size with h'|h'
  · exact h'
  · simp[World.cell?,Array.getElem?_eq_none h']at h
end Go.Proofs.YthgmgkabnffniaaGreatDoor
namespace Go.Proofs.YthgmgkabnffniaaGreatDoor
open Go.RowKit Go.Extern.Stop Go.Stop Go.Extern
set_option linter.unusedVariables false
set_option linter.unusedSimpArgs false
end Go.Proofs.YthgmgkabnffniaaGreatDoor
namespace Go.Proofs.YthgmgkabnffniaaGreatDoor
open Go.RowKit Go.Extern.Stop Go.Stop Go.Extern
set_option linter.unusedVariables false
set_option linter.unusedSimpArgs false
end Go.Proofs.YthgmgkabnffniaaGreatDoor
namespace Go.Proofs.YthgmgkabnffniaaGreatDoor
open Go.RowKit
set_option linter.unusedVariables false
set_option linter.unusedSimpArgs false
def A.C2:Value:= .iface 136 (.agg #[.pointer (some ⟨3,31,none⟩)])
end Go.Proofs.YthgmgkabnffniaaGreatDoor
namespace Go.Sy
open Go.RowKit
end Go.Sy
namespace Go.Proofs.YthgmgkabnffniaaGreatDoor
open Go.RowKit Go.Sy
end Go.Proofs.YthgmgkabnffniaaGreatDoor
namespace Go.Proofs.YthgmgkabnffniaaGreatDoor
open Go.RowKit Go.Sy
def az (v m:Int):Bool:=decide (v<0)||decide (m<v)
def tj (o:Int):Bool:=!(o==0)&&!(o==12)&&!(o==14)
def hasB (o:Int):Bool:=!(o==0)&&!(o==1)&&!(o==13)&&!(o==12)&&!(o==14)
def tq (o:Int):Bool:=(o==1)||(o==13)||(o==10)||(o==11)||(o==12)||(o==14)
def aY:Nat->SV:=λ_=> .aF
def WL:Nat->SV
  |0=> .pt false 1 λ_=> .v A.C2
  |_=> .aF
end Go.Proofs.YthgmgkabnffniaaGreatDoor
set_option linter.unusedVariables false
set_option linter.unusedSimpArgs false
set_option maxRecDepth 100000
namespace Go.Proofs.YthgmgkabnffniaaGreatDoor
open Go.RowKit Go.Sy
def qz (o a b m:Int):Bool:=az a 7||az b 7||decide (m< -32768)||decide (32767<m)||(!(tj o)&&a !=0)||(!(hasB o)&&b !=0)||(!(tq o)&&m !=0)
def jT (o a b m:Int):Int:=bif az o 14 then 1 else bif qz o a b m then 2 else 0
structure Ub where
  (v m:Int)
def afd:Sy.Spec:=⟨Ub,λ⟨v,m⟩=> [.v (.int .i64 v),.v (.int .i64 m)],λ_=> [],λ_=>True,λ⟨v,m⟩=> .v (.bool (az v m)),λ_=> [],
  λargs mem=>match args with| [a0,a1]=>some ⟨aw (a0),aw (a1)⟩|_=>none⟩
def afe:aT:=⟨[],(afd).g,none⟩
def Uc:Ub->Prop:=λ⟨v,m⟩=>cond (decide (v<0)) true (decide (m<v))=az v m/\True
theorem Bh:aU Tryz.prog aY 92 afe:=bf .nil false Tryz.call92 Tryz.func92 (λ_=> []) (V:=Uc) (λ_=>by kernel_rfl) λ⟨v,m⟩ hp=>by
  dsimp only[Uc,tn,ar]
  refine⟨?_,trivial⟩
  unfold az;cases decide (v<0)<;>rfl
structure Ud where
  (e:Int)
def aff:Sy.Spec:=⟨Ud,λ⟨e⟩=> [.v (.int .i64 e)],λ_=> [],λ_=>True,λ⟨e⟩=> .ag 2 (aL [.v (.int .i64 e),.v (.int .i64 (-1))]),λ_=> [],
  λargs mem=>match args with| [a0]=>some ⟨aw (a0)⟩|_=>none⟩
def afg:aT:=⟨[],(aff).g,none⟩
def Ue:Ud->Prop:=λ⟨e⟩=>True/\(True/\True)/\((True/\e=e)/\((-1):Int)=(-1))/\True
theorem RW:aU Tryz.prog aY 37 afg:=bf .nil false Tryz.call37 Tryz.func37 (λ_=> []) (V:=Ue) (λ_=>by kernel_rfl) λ⟨e⟩ hp=>by
  dsimp only[Ue,tn,ar]
  simp
structure RX where
  (Jc:Unit)
def ac8:Sy.Spec:=⟨RX,λ_=> [],λ_=> [],λ_=>True,λ_=> .ag 2 (aL [.v (.int .i64 0),.v (.int .i64 (-1))]),λ_=> [],
  λargs mem=>match args with| []=>some ⟨()⟩|_=>none⟩
def ac9:aT:=⟨[],(ac8).g,none⟩
def RY:RX->Prop:=λ_=>True/\(True/\True)/\((True/\(0:Int)=0)/\((-1):Int)=(-1))/\True
theorem PW:aU Tryz.prog aY 43 ac9:=bf .nil false Tryz.call43 Tryz.func43 (λ_=> []) (V:=RY) (λ_=>by kernel_rfl) λ_ hp=>by
  dsimp only[RY,tn,ar]
  simp
end Go.Proofs.YthgmgkabnffniaaGreatDoor
namespace Go.Sy
theorem Ay {x:Int} (h0:0<=x) (J:x<9223372036854775808):(BitVec.ofInt 64 x).toNat=x.toNat:=by
  rw[BitVec.toNat_ofInt]
  congr 1
  exact Int.emod_eq_of_lt h0 (by simpa using (by omega:x<18446744073709551616))
theorem MN {n:Nat} (h:n<9223372036854775808):IntKind.i64.wrap (n:Int)=n:=by
  rw[IntKind.wrap_i64];omega
theorem rR {x y:Int} (hx:0<=x) (nK:x<9223372036854775808) (hy:0<=y) (LW:y<9223372036854775808):dq .or .i64 x y=((x.toNat|||y.toNat:Nat):Int):=by
  show IntKind.i64.wrap ((BitVec.ofInt 64 x|||BitVec.ofInt 64 y).toNat:Int)=_
  rw[BitVec.toNat_or,Ay hx nK,Ay hy LW]
  exact MN (Nat.or_lt_two_pow (n:=63) (by omega) (by omega))
theorem Jh {x y:Int} (hx:0<=x) (nK:x<9223372036854775808) (hy:0<=y) (LW:y<9223372036854775808):dq .and .i64 x y=((x.toNat&&&y.toNat:Nat):Int):=by
  show IntKind.i64.wrap ((BitVec.ofInt 64 x&&&BitVec.ofInt 64 y).toNat:Int)=_
  rw[BitVec.toNat_and,Ay hx nK,Ay hy LW]
  exact MN (Nat.lt_of_le_of_lt Nat.and_le_left (by omega))
theorem IK (n:Nat) (hn:n<=62) {x m:Int} (hm:m=2^n -1):dq .and .i64 x m=x%2^n:=by
  show IntKind.i64.wrap ((BitVec.ofInt 64 x&&&BitVec.ofInt 64 m).toNat:Int)=_
  have hp:(2:Nat)^n<=2^62:=Nat.pow_le_pow_right (by omega) hn
  have gP:(1:Nat)<=2^n:=Nat.one_le_two_pow
  have hc:((2:Int)^n)=((2^n:Nat):Int):=by simp
  have uS:0<=m:=by rw[hm,hc];omega
  have pO:m<9223372036854775808:=by rw[hm,hc];omega
  rw[BitVec.toNat_and,Ay uS pO]
  have e:m.toNat=2^n -1:=by rw[hm,hc];omega
  rw[e,Nat.and_two_pow_sub_one_eq_mod,BitVec.toNat_ofInt]
  have hd:((x%((2^64:Nat):Int)).toNat%2^n:Nat)=(x%2^n).toNat:=by
    apply Int.ofNat.inj
    show(((x%((2^64:Nat):Int)).toNat%2^n:Nat):Int)=((x%2^n).toNat:Int)
    have h64:(0:Int)<=x%((2^64:Nat):Int):=Int.emod_nonneg _ (by decide)
    have zB:(0:Int)<=x%2^n:=Int.emod_nonneg _ (by rw[hc];omega)
    rw[Int.natCast_emod,Int.toNat_of_nonneg h64,Int.toNat_of_nonneg zB,hc]
    refine Int.emod_emod_of_dvd x ?_
    exact Int.natCast_dvd_natCast.2 (Nat.pow_dvd_pow 2 (by omega))
  rw[hd]
  have zB:(0:Int)<=x%2^n:=Int.emod_nonneg _ (by rw[hc];omega)
  have hn1:x%2^n<2^n:=Int.emod_lt_of_pos _ (by rw[hc];omega)
  rw[Int.toNat_of_nonneg zB,IntKind.wrap_i64]
  rw[hc]at zB hn1⊢
  omega
end Go.Sy
set_option linter.unusedVariables false
set_option linter.unusedSimpArgs false
set_option maxRecDepth 100000
namespace Go.Proofs.YthgmgkabnffniaaGreatDoor
open Go.RowKit Go.Sy
theorem Mq {o a b m:Int} (h:jT o a b m=0):0<=o/\o<=14/\0<=a/\a<=7/\0<=b/\b<=7/\ -32768<=m/\m<=32767:=by
  unfold jT at h
  cases J:az o 14 with
  |true=>rw[J]at h;cases h
  |false=>
   cases h2:qz o a b m with
   |true=>rw[J,h2]at h;cases h
   |false=>
    unfold qz az at h2
    unfold az at J
    simp at J h2
    omega
structure Od where
  (o a b m:Int)
def Oe:Sy.Spec:=⟨Od,λ⟨o,a,b,m⟩=> [.ag 4 (aL [.v (.int .i64 o),.v (.int .i64 a),.v (.int .i64 b),.v (.int .i64 m)])],λ_=> [],λ⟨o,a,b,m⟩=>jT o a b m=0,λ⟨o,a,b,m⟩=> .ag 2 (aL [.v (.int .i64 (o*256+a*16+b)),.v (.int .i64 (m%65536))]),λ_=> [],
  λargs mem=>match args with| [a0]=>some ⟨aw (cQ a0 0),aw (cQ a0 1),aw (cQ a0 2),aw (cQ a0 3)⟩|_=>none⟩
def ZH:aT:=⟨[],(Oe).g,none⟩
def Of:Od->Prop:=λ⟨o,a,b,m⟩=>let a0:=ar (o*256)=o*256;let b0:=ar (a*16)=a*16;let c0:Int:=o*256+a*16;let d0:=ar c0=c0;let e0:Int:=c0+b;let g0:=ar e0=e0;let h0:=True/\e0=e0;tn 2 ((decide (m<0)=true->ar (m+65536)=m+65536/\a0/\b0/\d0/\g0/\(True/\True)/\(h0/\m+65536=m%65536)/\True)/\(decide (m<0)=false->a0/\b0/\d0/\g0/\(True/\True)/\(h0/\m=m%65536)/\True))
theorem Yy:aU Tryz.prog aY 44 ZH:=bf .nil false Tryz.call44 Tryz.func44 (λ_=> []) (V:=Of) (λ_=>by kernel_rfl) λ⟨o,a,b,m⟩ hp=>by
  dsimp only[Oe]at hp
  dsimp only[Of,tn,ar]
  have hr:=Mq hp
  refine⟨trivial,trivial,λh=>?_,λh=>?_⟩
  all_goals
    repeat' (first|exact trivial|rfl|refine And.intro ?_ ?_)
  all_goals (try simp only[IntKind.wrap_i64])<;>simp at h<;>omega
end Go.Proofs.YthgmgkabnffniaaGreatDoor
set_option linter.unusedVariables false
set_option linter.unusedSimpArgs false
set_option maxRecDepth 100000
namespace Go.Proofs.YthgmgkabnffniaaGreatDoor
open Go.RowKit Go.Sy
def oX (x:Int):Prop:= -9223372036854775808<=x/\x<=9223372036854775807
theorem oX.wrap {x:Int} (h:oX x):IntKind.i64.wrap x=x:=by unfold oX at h;rw[IntKind.wrap_i64];omega
def bR (c n:Int):Int:=(bif decide (c<0)then -(c+1)else c)%n
theorem jz {c n:Int} (h:0<n):0<=bR c n/\bR c n<n:=⟨Int.emod_nonneg _ (by omega),Int.emod_lt_of_pos _ h⟩
def g_:Nat->(Nat->Bool)->Bool
  |0,_=>true
  |n+1,p=>g_ n p&&p n
theorem m6 {p:Nat->Bool}: ∀{n:Nat},g_ n p=true↔ ∀i,i<n->p i=true
  |0=>by simp[g_]
  |n+1=>by
   simp only[g_,Bool.and_eq_true,m6 (n:=n)]
   refine⟨λh i hi=>?_,λh=>⟨λi hi=>h i (by omega),h n (by omega)⟩⟩
   rcases Nat.lt_succ_iff_lt_or_eq.1 hi with h'|rfl
   · exact h.1 i h'
   · exact h.2
theorem GH {p:Nat->Bool} {n i:Nat} (hi:i<n) (h:p i=false):g_ n p=false:=by
  cases hq:g_ n p with
  |false=>rfl
  |true=>rw[m6.1 hq i hi]at h;cases h
structure RT where
  (c n:Int)
def RU:Sy.Spec:=⟨RT,λ⟨c,n⟩=> [.v (.int .i64 c),.v (.int .i64 n)],λ_=> [],λ⟨c,n⟩=>oX c/\0<n,λ⟨c,n⟩=> .v (.int .i64 (bR c n)),λ_=> [],
  λargs mem=>match args with| [a0,a1]=>some ⟨aw (a0),aw (a1)⟩|_=>none⟩
def ac7:aT:=⟨[],(RU).g,none⟩
def RV:RT->Prop:=λ⟨c,n⟩=>let a0:Int:=c+1;(decide (c<0)=true->ar a0=a0/\ar (0-a0)=0-a0/\(0<=Neg.neg a0/\0<n)/\Neg.neg a0%n=bR c n/\True)/\(decide (c<0)=false->(0<=c/\0<n)/\c%n=bR c n/\True)
theorem Ec:aU Tryz.prog aY 8 ac7:=bf .nil false Tryz.call8 Tryz.func8 (λ_=> []) (V:=RV) (λ_=>by kernel_rfl) λ⟨c,n⟩ hp=>by
  dsimp only[RU]at hp
  dsimp only[RV,tn,ar]
  obtain⟨J,h2⟩:=hp
  unfold oX at J
  unfold bR
  refine⟨λh=>?_,λh=>?_⟩
  all_goals rw[h]
  all_goals simp at h
  · simp only[IntKind.wrap_i64,cond_true]
    repeat' (first|exact trivial|rfl|refine And.intro ?_ ?_)
    all_goals omega
  · simp only[cond_false]
    repeat' (first|exact trivial|rfl|refine And.intro ?_ ?_)
    all_goals omega
end Go.Proofs.YthgmgkabnffniaaGreatDoor
set_option linter.unusedVariables false
set_option linter.unusedSimpArgs false
set_option maxRecDepth 100000
namespace Go.Proofs.YthgmgkabnffniaaGreatDoor
open Go.RowKit Go.Sy
structure aM where
  r0:Int
  r1:Int
  r2:Int
  r3:Int
  r4:Int
  r5:Int
  r6:Int
  r7:Int
  pc:Int
  st:Int
  prio:Int
  node:Int
  space:Int
  helper:Int
  loc:Int
  word:Int
  bL:Int
  aE:Int
  core:Int
  cL:Int
def nD (t:aM):List SV:= [.v (.int .i64 t.r0),.v (.int .i64 t.r1),.v (.int .i64 t.r2),.v (.int .i64 t.r3),.v (.int .i64 t.r4),.v (.int .i64 t.r5),.v (.int .i64 t.r6),.v (.int .i64 t.r7),.v (.int .i64 t.pc),.v (.int .i64 t.st),.v (.int .i64 t.prio),.v (.int .i64 t.node),.v (.int .i64 t.space),.v (.int .i64 t.helper),.v (.int .i64 t.loc),.v (.int .i64 t.word),.v (.int .i64 t.bL),.v (.int .i64 t.aE),.v (.int .i64 t.core),.v (.int .i64 t.cL)]
def aM.blank:aM:=⟨0,0,0,0,0,0,0,0,0,0,0,-1,-1,-1,-1,0,0,-1,0,0⟩
def ku (op:Int) (a b:Nat):Nat:=bif op==6 then a&&&b else bif op==7 then a|||b else a^^^b
def BI (op x y:Int):Bool:=(op==6&&x+y==2)||(op==7&&decide (0<x+y))||(op==8&&x+y==1)
theorem Yw {op:Int} (ho:op=6\/op=7\/op=8) (a b k:Nat):ku op a b%2^(k+1)=ku op a b%2^k+(if BI op ((a/2^k%2:Nat):Int) ((b/2^k%2:Nat):Int)=true then 2^k else 0):=by
  rw[Nat.mod_pow_succ]
  congr 1
  have hb:ku op a b/2^k%2=if BI op ((a/2^k%2:Nat):Int) ((b/2^k%2:Nat):Int)=true then 1 else 0:=by
    have e: ∀x:Nat,x/2^k%2=(x.testBit k).toNat:=λx=>by rw[Nat.testBit_eq_decide_div_mod_eq];rcases Nat.mod_two_eq_zero_or_one (x/2^k)with h|h<;>simp[h]
    rw[e,e,e]
    rcases ho with rfl|rfl|rfl<;>simp only[ku,BI]<;>simp[Nat.testBit_and,Nat.testBit_or,Nat.testBit_xor]<;>cases a.testBit k<;>cases b.testBit k<;>decide
  rw[hb];split<;>simp
theorem PT {op:Int} {a b n:Nat} (ha:a<2^n) (hb:b<2^n):ku op a b<2^n:=by
  unfold ku
  cases op==6<;>cases op==7<;>simp only[cond_true,cond_false]
  · exact Nat.xor_lt_two_pow ha hb
  · exact Nat.or_lt_two_pow ha hb
  · exact Nat.lt_of_le_of_lt Nat.and_le_left ha
  · exact Nat.lt_of_le_of_lt Nat.and_le_left ha
structure PU where
  (Jc:Unit)
def abq:Sy.Spec:=⟨PU,λ_=> [],λ_=> [],λ_=>True,λ_=> .ag 20 (aL (nD aM.blank)),λ_=> [],
  λargs mem=>match args with| []=>some ⟨()⟩|_=>none⟩
def abr:aT:=⟨[],(abq).g,none⟩
def PV:PU->Prop:=λ_=>let a0:=(0:Int)=0;let b0:=((-1):Int)=(-1);True/\tn 19 True/\((((((((((((((((((((True/\a0)/\a0)/\a0)/\a0)/\a0)/\a0)/\a0)/\a0)/\a0)/\a0)/\a0)/\b0)/\b0)/\b0)/\b0)/\a0)/\a0)/\b0)/\a0)/\a0)/\True
theorem ZG:aU Tryz.prog aY 93 abr:=bf .nil false Tryz.call93 Tryz.func93 (λ_=> []) (V:=PV) (λ_=>by kernel_rfl) λ_ hp=>by
  dsimp only[PV,tn,ar]
  simp[aM.blank]
structure Nv where
  (a b op:Int)
def Nw:Sy.Spec:=⟨Nv,λ⟨a,b,op⟩=> [.v (.int .i64 a),.v (.int .i64 b),.v (.int .i64 op)],λ_=> [],λ⟨a,b,op⟩=>0<=a/\a<=65535/\0<=b/\b<=65535/\(op=6\/op=7\/op=8),λ⟨a,b,op⟩=> .v (.int .i64 (ku op a.toNat b.toNat:Nat)),λ_=> [],
  λargs mem=>match args with| [a0,a1,a2]=>some ⟨aw (a0),aw (a1),aw (a2)⟩|_=>none⟩
def Yx:aT:=⟨[],(Nw).g,none⟩
def XI (a b op:Int):cG where
  σ:=Nat
  rt:= []
  sh k:= [(8,.v (.int .i64 (2^k:Nat))),(7,.v (.int .i64 (ku op a.toNat b.toNat%2^k:Nat)))]
  mh _:= []
  inv k:=k<=16
  μ k:=16 -k
  init:=0
def Nx:Nv->Prop:=λ⟨a,b,op⟩=>let a0:=ku op (Int.toNat a) (Int.toNat b);let b0:=op==6;let c0:=op==7;1=((HPow.hPow 2 0:Nat):Int)/\0=((a0%HPow.hPow 2 0:Nat):Int)/\True/\0<=16/\(∀d0:Nat,let e0:=((HPow.hPow 2 d0:Nat):Int);let g0:=decide (e0<65536);let h0:=0<e0;let k0:Int:=a/e0;let l0:Int:=b/e0;let o0:Int:=k0%2+l0%2;let q0:=ar o0=o0;let r0:=cond b0 (o0==2) false;let u0:=cond r0 true (cond c0 (decide (0<o0)) false);let v0:=cond u0 true (cond (op==8) (o0==1) false);let w0:=((a0%HPow.hPow 2 d0:Nat):Int);let x0:Int:=w0+e0;let y0:Int:=e0*2;let z0:=ar y0=y0;d0<=16->(g0=true->(0<=a/\h0/\ar k0=k0)/\(0<=k0/\(0:Int)<2)/\(0<=b/\h0/\ar l0=l0)/\(0<=l0/\(0:Int)<2)/\(b0=true->q0)/\(c0=true->r0=false->q0)/\((op==8)=true->u0=false->q0)/\(v0=true->ar x0=x0/\z0/\(∃a1:Nat,y0=((HPow.hPow 2 a1:Nat):Int)/\x0=((a0%HPow.hPow 2 a1:Nat):Int)/\True/\a1<=16/\16-a1<16-d0))/\(v0=false->z0/\(∃b1:Nat,y0=((HPow.hPow 2 b1:Nat):Int)/\w0=((a0%HPow.hPow 2 b1:Nat):Int)/\True/\b1<=16/\16-b1<16-d0)))/\(g0=false->w0=(a0:Int)/\True))
theorem XJ:aU Tryz.prog aY 101 Yx:=bf .nil false Tryz.call101 Tryz.func101 (λ⟨a,b,op⟩=> [.inv (XI a b op)]) (V:=Nx) (λ_=>by kernel_rfl) λ⟨a,b,op⟩ hp=>by
  dsimp only[Nw]at hp
  dsimp only[Nx,tn,ar]
  obtain⟨a0,a1,b0,b1,ho⟩:=hp
  obtain⟨A,rfl⟩: ∃A:Nat,a=A:=⟨a.toNat,by omega⟩
  obtain⟨B,rfl⟩: ∃B:Nat,b=B:=⟨b.toNat,by omega⟩
  simp only[Int.toNat_natCast]
  refine⟨by simp,by simp[Nat.mod_one],trivial,by omega,λs hs=>⟨λh=>?_,λh=>?_⟩⟩
  · have nP:s<=15:=by
      rcases Nat.lt_or_ge s 16 with J|J
      · omega
      · obtain rfl:s=16:=by omega
        simp at h
    have bC:=Yw ho A B s
    have av:ku op A B%2^s<2^s:=Nat.mod_lt _ (Nat.two_pow_pos s)
    have gP:2^(s+1)=2^s*2:=Nat.pow_succ 2 s
    have Gk:=Nat.two_pow_pos s
    have xb:2^s<=2^15:=Nat.pow_le_pow_right (by omega) nP
    have ha:A/2^s<=A:=Nat.div_le_self _ _
    have hb:B/2^s<=B:=Nat.div_le_self _ _
    have ea:(A:Int)/((2^s:Nat):Int)=((A/2^s:Nat):Int):=(Int.natCast_ediv _ _).symm
    have eb:(B:Int)/((2^s:Nat):Int)=((B/2^s:Nat):Int):=(Int.natCast_ediv _ _).symm
    rw[ea,eb]
    have WJ:((A/2^s:Nat):Int)%2=((A/2^s%2:Nat):Int):=by omega
    have WK:((B/2^s:Nat):Int)%2=((B/2^s%2:Nat):Int):=by omega
    rw[WJ,WK]
    have hx:A/2^s%2<2:=Nat.mod_lt _ (by omega)
    have hy:B/2^s%2<2:=Nat.mod_lt _ (by omega)
    clear ea eb WJ WK
    generalize hX:A/2^s%2=X at*
    generalize hY:B/2^s%2=Y at*
    have agK:(bif bif bif op==6 then(X:Int)+(Y:Int)==2 else false then true else bif op==7 then decide ((0:Int)<(X:Int)+(Y:Int))else false then true else bif op==8 then(X:Int)+(Y:Int)==1 else false)=BI op X Y:=by
      unfold BI
      cases op==6<;>cases op==7<;>cases op==8<;>simp
    rw[agK]
    have hw: ∀z:Int,0<=z->z<=131072->IntKind.i64.wrap z=z:=λz _ _=>by rw[IntKind.wrap_i64];omega
    generalize ku op A B=W at*
    generalize A/2^s=DA at*
    generalize B/2^s=DB at*
    generalize 2^s=p at*
    refine⟨⟨by omega,by omega,hw _ (by omega) (by omega)⟩,⟨by omega,by omega⟩,⟨by omega,by omega,hw _ (by omega) (by omega)⟩,⟨by omega,by omega⟩,λ_=>hw _ (by omega) (by omega),λ_ _=>hw _ (by omega) (by omega),λ_ _=>hw _ (by omega) (by omega),λhq=>?_,λhq=>?_⟩
    · rw[hq]at bC
      exact⟨hw _ (by omega) (by omega),hw _ (by omega) (by omega),s+1,by rw[gP];omega,by rw[bC];simp,trivial,by omega,by omega⟩
    · rw[hq]at bC
      exact⟨hw _ (by omega) (by omega),s+1,by rw[gP];omega,by rw[bC];simp,trivial,by omega,by omega⟩
  · have xG:s=16:=by
      rcases Nat.lt_or_ge s 16 with J|J
      · exfalso
        have xb:2^s<=2^15:=Nat.pow_le_pow_right (by omega) (by omega)
        generalize 2^s=p at*
        simp at h;omega
      · omega
    subst xG
    rw[Nat.mod_eq_of_lt (PT (by omega) (by omega))]
    exact⟨rfl,trivial⟩
end Go.Proofs.YthgmgkabnffniaaGreatDoor
set_option linter.unusedVariables false
set_option linter.unusedSimpArgs false
set_option maxRecDepth 100000
namespace Go.Proofs.YthgmgkabnffniaaGreatDoor
open Go.RowKit Go.Sy
structure bK where
  kind:Int
  base:Int
  len:Int
  mark:Int
  cd:Int
  bL:Int
  from_:Int
structure dQ where
  sp:Int
  pg:Int
  fr:Int
  wr:Bool
def pS (s:bK):List SV:= [.v (.int .i64 s.kind),.v (.int .i64 s.base),.v (.int .i64 s.len),.v (.int .i64 s.mark),.v (.int .i64 s.cd),.v (.int .i64 s.bL),.v (.int .i64 s.from_)]
def kF (e:dQ):List SV:= [.v (.int .i64 e.sp),.v (.int .i64 e.pg),.v (.int .i64 e.fr),.v (.bool e.wr)]
def Fq (f:Nat->SV):bK:=⟨aw (f 0),aw (f 1),aw (f 2),aw (f 3),aw (f 4),aw (f 5),aw (f 6)⟩
def uO (f:Nat->SV):dQ:=⟨aw (f 0),aw (f 1),aw (f 2),ER (f 3)⟩
def E9 (f:Nat->SV):aM:=⟨aw (f 0),aw (f 1),aw (f 2),aw (f 3),aw (f 4),aw (f 5),aw (f 6),aw (f 7),aw (f 8),aw (f 9),aw (f 10),aw (f 11),aw (f 12),aw (f 13),aw (f 14),aw (f 15),aw (f 16),aw (f 17),aw (f 18),aw (f 19)⟩
def iF (f:Nat->Int):Nat->Nat->SV:=λi _=> .v (.int .i64 (f i))
def rF (L:Nat->List SV):Nat->Nat->SV:=λi j=>aL (L i) j
structure Wd where
  ay:Nat
  af:Nat->Int
  aj:Nat
  kinds:Nat->Int
  al:Nat
  aa:Nat->bK
  aP:Nat
  tasks:Nat->aM
  aW:Nat
  ai:Nat->Nat
  lines:Nat->Nat->Int
  aN:Nat
  bits:Nat->Int
  aC:Nat
  ak:Nat->Int
  aS:Nat
  aq:Nat->Nat
  ready:Nat->Nat->Int
  aQ:Nat
  aG:Nat->Nat
  aA:Nat->Nat->dQ
  aK:Nat
  aB:Nat->Int
  time:Int
def ll (W:Wd):SV:= .ag 11 (aL [.sl true 1 W.ay (iF W.af),.sl true 1 W.aj (iF W.kinds),.sl true 7 W.al (rF λi=>pS (W.aa i)),.sl true 20 W.aP (rF λi=>nD (W.tasks i)),.sl true 1 W.aW (λi _=> .sl true 1 (W.ai i) (iF (W.lines i))),.sl true 1 W.aN (iF W.bits),.sl true 1 W.aC (iF W.ak),.sl true 1 W.aS (λi _=> .sl true 1 (W.aq i) (iF (W.ready i))),.sl true 1 W.aQ (λi _=> .sl true 4 (W.aG i) (rF λk=>kF (W.aA i k))),.sl true 1 W.aK (iF W.aB),.v (.int .i64 W.time)])
def dV (W:Wd):SV:= .pt true 11 (aL [.sl true 1 W.ay (iF W.af),.sl true 1 W.aj (iF W.kinds),.sl true 7 W.al (rF λi=>pS (W.aa i)),.sl true 20 W.aP (rF λi=>nD (W.tasks i)),.sl true 1 W.aW (λi _=> .sl true 1 (W.ai i) (iF (W.lines i))),.sl true 1 W.aN (iF W.bits),.sl true 1 W.aC (iF W.ak),.sl true 1 W.aS (λi _=> .sl true 1 (W.aq i) (iF (W.ready i))),.sl true 1 W.aQ (λi _=> .sl true 4 (W.aG i) (rF λk=>kF (W.aA i k))),.sl true 1 W.aK (iF W.aB),.v (.int .i64 W.time)])
def zX (k:Nat) (W:Wd):SV:= .ag 11 (aL [.aO (k+0) 0 none 0 W.ay,.aO (k+1) 0 none 0 W.aj,.aO (k+2) 0 none 0 W.al,.aO (k+3) 0 none 0 W.aP,.aO (k+4) 0 none 0 W.aW,.aO (k+5) 0 none 0 W.aN,.aO (k+6) 0 none 0 W.aC,.aO (k+7) 0 none 0 W.aS,.aO (k+8) 0 none 0 W.aQ,.aO (k+9) 0 none 0 W.aK,.v (.int .i64 W.time)])
def U1 (k:Nat) (W:Wd):bc:= .cells [.aO (k+0) 0 none 0 W.ay,.aO (k+1) 0 none 0 W.aj,.aO (k+2) 0 none 0 W.al,.aO (k+3) 0 none 0 W.aP,.aO (k+4) 0 none 0 W.aW,.aO (k+5) 0 none 0 W.aN,.aO (k+6) 0 none 0 W.aC,.aO (k+7) 0 none 0 W.aS,.aO (k+8) 0 none 0 W.aQ,.aO (k+9) 0 none 0 W.aK,.v (.int .i64 W.time)]
def wI (W:Wd):List bc:= [.row 1 W.ay (iF W.af),.row 1 W.aj (iF W.kinds),.row 7 W.al (rF λi=>pS (W.aa i)),.row 20 W.aP (rF λi=>nD (W.tasks i)),.row 1 W.aW (λi _=> .il 1 (W.ai i) (iF (W.lines i))),.row 1 W.aN (iF W.bits),.row 1 W.aC (iF W.ak),.row 1 W.aS (λi _=> .il 1 (W.aq i) (iF (W.ready i))),.row 1 W.aQ (λi _=> .il 4 (W.aG i) (rF λk=>kF (W.aA i k))),.row 1 W.aK (iF W.aB)]
def cP (W:Wd):List bc:=U1 1 W::wI W
def nE (a:SV):Wd:=⟨bX (cQ a 0),λi=>aw (bN (cQ a 0) i 0),bX (cQ a 1),λi=>aw (bN (cQ a 1) i 0),bX (cQ a 2),λi=>Fq (λj=>bN (cQ a 2) i j),bX (cQ a 3),λi=>E9 (λj=>bN (cQ a 3) i j),bX (cQ a 4),λi=>bX (bN (cQ a 4) i 0),λi k=>aw (bN (bN (cQ a 4) i 0) k 0),bX (cQ a 5),λi=>aw (bN (cQ a 5) i 0),bX (cQ a 6),λi=>aw (bN (cQ a 6) i 0),bX (cQ a 7),λi=>bX (bN (cQ a 7) i 0),λi k=>aw (bN (bN (cQ a 7) i 0) k 0),bX (cQ a 8),λi=>bX (bN (cQ a 8) i 0),λi k=>uO (λj=>bN (bN (cQ a 8) i 0) k j),bX (cQ a 9),λi=>aw (bN (cQ a 9) i 0),aw (cQ a 10)⟩
def dR (a:SV):Wd:=⟨bX (bQ a 0),λi=>aw (bN (bQ a 0) i 0),bX (bQ a 1),λi=>aw (bN (bQ a 1) i 0),bX (bQ a 2),λi=>Fq (λj=>bN (bQ a 2) i j),bX (bQ a 3),λi=>E9 (λj=>bN (bQ a 3) i j),bX (bQ a 4),λi=>bX (bN (bQ a 4) i 0),λi k=>aw (bN (bN (bQ a 4) i 0) k 0),bX (bQ a 5),λi=>aw (bN (bQ a 5) i 0),bX (bQ a 6),λi=>aw (bN (bQ a 6) i 0),bX (bQ a 7),λi=>bX (bN (bQ a 7) i 0),λi k=>aw (bN (bN (bQ a 7) i 0) k 0),bX (bQ a 8),λi=>bX (bN (bQ a 8) i 0),λi k=>uO (λj=>bN (bN (bQ a 8) i 0) k j),bX (bQ a 9),λi=>aw (bN (bQ a 9) i 0),aw (bQ a 10)⟩
def de (q:Nat):SV:= .ptr q 0 none 0 0
theorem Oc {n:Nat} {p:Nat->Bool} (h: ∀j,j<n->p j=true):g_ n p=true:=m6.2 h
theorem fO {i n:Nat} (h:decide ((i:Int)<(n:Int))=true):i<n:=by simpa using h
theorem ga {i n:Nat} (h:decide ((i:Int)<(n:Int))=false):n<=i:=by simpa using h
theorem wX {b:Bool} (h:(!b)=true):b=false:=by cases b<;>simp_all
theorem jI {b:Bool} (h:(!b)=false):b=true:=by cases b<;>simp_all
theorem fB {P:Nat->Prop} {s:Nat} (h:P (s+1)): ∃s':Nat,((s:Int)+1)=(s':Int)/\P s':=⟨s+1,rfl,h⟩
def dG:Nat->(Nat->Bool)->Nat
  |0,_=>0
  |n+1,p=>bif Nat.blt (dG n p) n then dG n p else bif p n then n else n+1
theorem ua {p:Nat->Bool}: ∀{n:Nat},(∀j,j<n->p j=false)->dG n p=n
  |0,_=>rfl
  |n+1,h=>by
   have:=ua (n:=n) λj hj=>h j (by omega)
   simp[dG,this,h n (by omega),oL]
theorem uj {p:Nat->Bool} {i:Nat} (hb: ∀j,j<i->p j=false) (hp:p i=true): ∀{n:Nat},i<n->dG n p=i
  |0,h=>absurd h (by omega)
  |n+1,h=>by
   rcases Nat.lt_or_ge i n with J|J
   · have:=uj hb hp J
     simp[dG,this,oL,J]
   · obtain rfl:i=n:=by omega
     have:=ua hb
     simp[dG,this,oL,hp]
theorem H2 (p:Nat->Bool): ∀n,dG n p<=n
  |0=>Nat.le_refl _
  |n+1=>by
   have:=H2 p n
   unfold dG
   cases h:Nat.blt (dG n p) n<;>cases h2:p n<;>simp<;>omega
def gz (n:Nat) (p:Nat->Bool):Int:=bif Nat.blt (dG n p) n then(dG n p:Nat)else -1
theorem yd {n:Nat} {p:Nat->Bool} (h: ∀j,j<n->p j=false):gz n p= -1:=by
  unfold gz;rw[ua h,oL];simp
theorem Ej {n i:Nat} {p:Nat->Bool} (hb: ∀j,j<i->p j=false) (hp:p i=true) (hi:i<n):gz n p=(i:Nat):=by
  unfold gz;rw[uj hb hp hi,oL];simp[hi]
theorem ji {a b:Nat} (h:a<b):Nat.blt a b=true:=Nat.ble_eq_true_of_le h
theorem nv {a b:Nat} (h:b<=a):Nat.blt a b=false:=by rw[oL];exact decide_eq_false (by omega)
theorem afc {a b:Nat} (h:a<=b):Nat.ble a b=true:=Nat.ble_eq_true_of_le h
theorem Ua {p:Nat->Bool} {i:Nat} (h: ∀j,j<i->p j=true) (hi:p i=true): ∀j,j<i+1->p j=true:=by
  intro j hj
  rcases Nat.lt_or_ge j i with h3|h3
  · exact h j h3
  · obtain rfl:j=i:=by omega
    exact hi
end Go.Proofs.YthgmgkabnffniaaGreatDoor
set_option linter.unusedVariables false
set_option linter.unusedSimpArgs false
set_option maxRecDepth 100000
namespace Go.Proofs.YthgmgkabnffniaaGreatDoor
open Go.RowKit Go.Sy
def aI (a b:aM):Prop:=((((((((((((((((((((True/\a.r0=b.r0)/\a.r1=b.r1)/\a.r2=b.r2)/\a.r3=b.r3)/\a.r4=b.r4)/\a.r5=b.r5)/\a.r6=b.r6)/\a.r7=b.r7)/\a.pc=b.pc)/\a.st=b.st)/\a.prio=b.prio)/\a.node=b.node)/\a.space=b.space)/\a.helper=b.helper)/\a.loc=b.loc)/\a.word=b.word)/\a.bL=b.bL)/\a.aE=b.aE)/\a.core=b.core)/\a.cL=b.cL)
def aJ (a b:bK):Prop:=(((((((True/\a.kind=b.kind)/\a.base=b.base)/\a.len=b.len)/\a.mark=b.mark)/\a.cd=b.cd)/\a.bL=b.bL)/\a.from_=b.from_)
def aH (a b:dQ):Prop:=((((True/\a.sp=b.sp)/\a.pg=b.pg)/\a.fr=b.fr)/\a.wr=b.wr)
def aD (Y X:Wd) (T:Prop):Prop:=(((((((((((True/\0=0/\Y.ay=X.ay)/\0=0/\Y.aj=X.aj)/\0=0/\Y.al=X.al)/\0=0/\Y.aP=X.aP)/\0=0/\Y.aW=X.aW)/\0=0/\Y.aN=X.aN)/\0=0/\Y.aC=X.aC)/\0=0/\Y.aS=X.aS)/\0=0/\Y.aQ=X.aQ)/\0=0/\Y.aK=X.aK)/\Y.time=X.time)/\(Y.ay=X.ay/\ ∀i:Nat,i<X.ay->True/\Y.af i=X.af i)/\(Y.aj=X.aj/\ ∀i:Nat,i<X.aj->True/\Y.kinds i=X.kinds i)/\(Y.al=X.al/\ ∀i:Nat,i<X.al->aJ (Y.aa i) (X.aa i))/\(Y.aP=X.aP/\ ∀i:Nat,i<X.aP->aI (Y.tasks i) (X.tasks i))/\(Y.aW=X.aW/\ ∀i:Nat,i<X.aW->True/\Y.ai i=X.ai i/\ ∀k:Nat,k<X.ai i->True/\Y.lines i k=X.lines i k)/\(Y.aN=X.aN/\ ∀i:Nat,i<X.aN->True/\Y.bits i=X.bits i)/\(Y.aC=X.aC/\ ∀i:Nat,i<X.aC->True/\Y.ak i=X.ak i)/\(Y.aS=X.aS/\ ∀i:Nat,i<X.aS->True/\Y.aq i=X.aq i/\ ∀k:Nat,k<X.aq i->True/\Y.ready i k=X.ready i k)/\(Y.aQ=X.aQ/\ ∀i:Nat,i<X.aQ->True/\Y.aG i=X.aG i/\ ∀k:Nat,k<X.aG i->aH (Y.aA i k) (X.aA i k))/\(Y.aK=X.aK/\ ∀i:Nat,i<X.aK->True/\Y.aB i=X.aB i)/\T
end Go.Proofs.YthgmgkabnffniaaGreatDoor
set_option linter.unusedVariables false
set_option linter.unusedSimpArgs false
set_option maxRecDepth 100000
namespace Go.Proofs.YthgmgkabnffniaaGreatDoor
open Go.RowKit Go.Sy
def yT (a b:aM):Bool:=(a.r0==b.r0&&(a.r1==b.r1&&(a.r2==b.r2&&(a.r3==b.r3&&(a.r4==b.r4&&(a.r5==b.r5&&(a.r6==b.r6&&(a.r7==b.r7&&true))))))))&&(a.pc==b.pc&&(a.st==b.st&&(a.prio==b.prio&&(a.node==b.node&&(a.space==b.space&&(a.helper==b.helper&&(a.loc==b.loc&&(a.word==b.word&&(a.bL==b.bL&&(a.aE==b.aE&&(a.core==b.core&&(a.cL==b.cL&&true))))))))))))
end Go.Proofs.YthgmgkabnffniaaGreatDoor
set_option linter.unusedVariables false
set_option linter.unusedSimpArgs false
set_option maxRecDepth 100000
namespace Go.Proofs.YthgmgkabnffniaaGreatDoor
open Go.RowKit Go.Sy
def p5 (x:Int):Prop:=0<=x/\x<=65535
def gA (n:Nat):Int:=bif decide (0<n%16)||decide (384<n)then -1 else(n/16:Nat)
def kn (x n:Int):Int:=bif x/32768%2==0||decide (n<=x%1024)then -1 else x%1024
def yR (n:Nat) (sp at_:Int):Bool:=decide (gA n<0)||decide (sp<0)||decide (gA n<=sp)||az at_ 4095
def mO (n:Nat) (af:Nat->Int) (sp at_:Int):Int:=kn (af (sp*16+at_/256).toNat) (gA n)
def pV (n:Nat) (af:Nat->Int) (sp at_:Int):Int:=af (mO n af sp at_*16+at_/16%16).toNat
def vf (n:Nat) (af:Nat->Int) (sp at_:Int):Int:=kn (pV n af sp at_) (gA n)
def ja (n:Nat) (af:Nat->Int) (sp at_:Int):Int:=bif yR n sp at_ then 2 else bif decide (mO n af sp at_<0)||decide (vf n af sp at_<0)then 9 else 0
def mi (n:Nat) (af:Nat->Int) (sp at_:Int):Int:=bif ja n af sp at_==0 then vf n af sp at_ else 0
def mj (n:Nat) (af:Nat->Int) (sp at_:Int):Bool:=bif ja n af sp at_==0 then pV n af sp at_/16384%2==1 else false
theorem MO (n:Nat):(gA n= -1/\(0<n%16\/384<n))\/(gA n*16=n/\0<=gA n/\gA n<=24):=by
  unfold gA
  by_cases J:0<n%16
  · left;simp[J]
  · by_cases h2:384<n
    · left;simp[h2]
    · right;simp only[J,h2,decide_false,Bool.or_false,cond_false];omega
theorem Di {x:Int} (hx:0<=x) (m:Int):(kn x m= -1/\(x/32768%2=0\/m<=x%1024))\/(x/32768%2=1/\kn x m=x%1024/\0<=kn x m/\kn x m<m):=by
  by_cases J:x/32768%2=0
  · left;unfold kn;simp[J]
  · by_cases h2:m<=x%1024
    · left;unfold kn;simp[h2]
    · right
      have e:kn x m=x%1024:=by
        unfold kn
        rw[show(x/32768%2==0)=false from beq_eq_false_iff_ne.2 J,show decide (m<=x%1024)=false from decide_eq_false h2];rfl
      rw[e];omega
theorem agM (k X:Nat):X&&&2^k=X/2^k%2*2^k:=by
  have hk:X.testBit k=decide (X/2^k%2=1):=Nat.testBit_eq_decide_div_mod_eq
  apply Nat.eq_of_testBit_eq
  intro i
  rw[Nat.testBit_and,Nat.testBit_two_pow]
  rcases Nat.mod_two_eq_zero_or_one (X/2^k)with h|h
  · rw[h]
    by_cases e:k=i
    · subst e;simp[hk,h]
    · simp[e]
  · rw[h,Nat.one_mul,Nat.testBit_two_pow]
    by_cases e:k=i
    · subst e;simp[hk,h]
    · simp[e]
theorem Uf (k:Nat) (hk:k<=62) {x m:Int} (hm:m=(2^k:Nat)) (hx:0<=x) (nK:x<=65535):dq .and .i64 x m=x/m%2*m:=by
  subst hm
  have hp:(2:Nat)^k<9223372036854775808:=Nat.lt_of_le_of_lt (Nat.pow_le_pow_right (by omega) hk) (by decide)
  obtain⟨X,rfl⟩: ∃X:Nat,x=X:=⟨x.toNat,by omega⟩
  rw[Jh (by omega) (by omega) (Int.natCast_nonneg _) (show((2^k:Nat):Int)<9223372036854775808 from Int.ofNat_lt.2 hp),Int.toNat_natCast,Int.toNat_natCast,agM]
  simp
theorem MP {x:Int} (hx:0<=x) (nK:x<=65535) (m:Int):(bif dq .and .i64 x 32768==0 then true else decide (m<=dq .and .i64 x 1023))=decide (kn x m<0)/\(kn x m<0\/dq .and .i64 x 1023=kn x m):=by
  rw[Uf 15 (by omega) (by decide) hx nK,IK 10 (by omega) (by decide)]
  have rX:((2:Int)^10)=1024:=by decide
  rw[rX]
  rcases Di hx m with⟨J,h2⟩|⟨J,h2,h3,h4⟩
  · rw[J]
    refine⟨?_,.inl (by decide)⟩
    rcases h2 with h2|h2
    · rw[h2];rfl
    · rw[show decide (m<=x%1024)=true from decide_eq_true h2];cases (x/32768%2*32768==0)<;>rfl
  · rw[J,show decide (m<=x%1024)=false from decide_eq_false (by omega),show decide (kn x m<0)=false from decide_eq_false (by omega)]
    exact⟨rfl,.inr h2.symm⟩
structure Og where
  (n:Nat) (af:Nat->Int)
def ZI:Sy.Spec:=⟨Og,λ⟨n,af⟩=> [.sl true 1 n (λi_ _=> .v (.int .i64 (af i_)))],λ_=> [],λ_=>True,λ⟨n,_⟩=> .v (.int .i64 (gA n)),λ_=> [],
  λargs mem=>match args with| [a0]=>some ⟨bX a0,λi=>aw (bN a0 i 0)⟩|_=>none⟩
def ZJ:aT:=⟨[],(ZI).g,none⟩
def Oh:Og->Prop:=λ⟨n,_⟩=>let a0:=(n:Int);let b0:=cond (a0%16 !=0) true (decide (384<a0));let c0:Int:=a0/16;a0<=9223372036854775807->(0<=a0/\(0:Int)<16)/\(b0=true->(-1)=gA n/\True)/\(b0=false->a0<=9223372036854775807->(0<=a0/\(0:Int)<16/\ar c0=c0)/\c0=gA n/\True)
set_option maxHeartbeats 1000000 in
theorem Yz:aU Tryz.prog aY 134 ZJ:=bf .nil false Tryz.call134 Tryz.func134 (λ_=> []) (V:=Oh) (λ_=>by kernel_rfl) λ⟨n,af⟩ hp=>by
  dsimp only[Oh,tn,ar,aD,aI,aJ,aH]
  simp only[bn,bD,eq_self,implies_true,Bool.cond_self,Bool.or_eq_true,Bool.or_eq_false_iff,Bool.and_eq_true,Bool.and_eq_false_iff,decide_eq_true_eq,decide_eq_false_iff_not,beq_iff_eq,beq_eq_false_iff_ne,bne_iff_ne,bne_eq_false_iff_eq,Bool.not_eq_true',Bool.not_eq_false',ne_eq,Int.not_lt,Int.not_le]
  intro _
  rcases MO n with⟨J,h2⟩|⟨J,h2,h3⟩
  · exact⟨by omega,λ_=>J.symm,λh=>absurd h2 (by omega)⟩
  · exact⟨by omega,λh=>by omega,λh _=>⟨⟨by omega,by rw[IntKind.wrap_i64];omega⟩,by omega⟩⟩
structure RZ where
  (n:Nat) (af:Nat->Int) (sp at_:Int)
def R0:Sy.Spec:=⟨RZ,λ⟨n,af,sp,at_⟩=> [.sl true 1 n (λi_ _=> .v (.int .i64 (af i_))),.v (.int .i64 sp),.v (.int .i64 at_)],λ_=> [],λ⟨n,af,_,_⟩=> ∀i,i<n->p5 (af i),λ⟨n,af,sp,at_⟩=> .tp 3 (aL [.v (.int .i64 (mi n af sp at_)),.v (.bool (mj n af sp at_)),.er 43 66 (ja n af sp at_) (-1)]),λ_=> [],
  λargs mem=>match args with| [a0,a1,a2]=>some ⟨bX a0,λi=>aw (bN a0 i 0),aw (a1),aw (a2)⟩|_=>none⟩
def ac_:aT:=⟨[],(R0).g,none⟩
def R4:RZ->Prop:=λ⟨n,af,sp,at_⟩=>let a0:=gA n;let b0:=cond (cond (cond (cond (decide (a0<0)) true (decide (sp<0))) true (decide (a0<=sp))) true (decide (at_<0))) true (decide (4096<=at_));let c0:=mi n af sp at_;let d0:=mj n af sp at_;let e0:=(True/\0=c0)/\false=d0;let g0:=ja n af sp at_;let h0:=((-1):Int)=(-1);let k0:Int:=sp*16+at_/256;let l0:Int:=af (Int.toNat k0);let o0:=dq BinOp.and IntKind.i64 l0 1023;let q0:=cond (dq BinOp.and IntKind.i64 l0 32768==0) true (decide (a0<=o0));let r0:=(e0/\(9:Int)≠0/\g0=9/\h0)/\True;let u0:Int:=o0*16;let v0:Int:=at_/16;let w0:Int:=u0+v0%16;let x0:Int:=af (Int.toNat w0);let y0:=dq BinOp.and IntKind.i64 x0 1023;let z0:=cond (dq BinOp.and IntKind.i64 x0 32768==0) true (decide (a0<=y0));(((n=n/\(∀a1:Nat,a1<n->True/\af a1=af a1))/\True)/\True/\True)/\(b0=true->(e0/\(2:Int)≠0/\g0=2/\h0)/\True)/\(b0=false->ar (sp*16)=sp*16/\(0<=at_/\(0:Int)<256/\ar (at_/256)=at_/256)/\ar k0=k0/\(0<=k0/\k0<(n:Int))/\(q0=true->r0)/\(q0=false->ar u0=u0/\(0<=at_/\(0:Int)<16/\ar v0=v0)/\(0<=v0/\(0:Int)<16)/\ar w0=w0/\(0<=w0/\w0<(n:Int))/\(z0=true->r0)/\(z0=false->(((True/\y0=c0)/\(dq BinOp.and IntKind.i64 x0 16384 !=0)=d0)/\g0=0/\h0)/\True)))
set_option maxHeartbeats 1000000 in
theorem abt:aU Tryz.prog aY 127 ac_:=bf (.cons Yz .nil) false Tryz.call127 Tryz.func127 (λ_=> []) (V:=R4) (λ_=>by kernel_rfl) λ⟨n,af,sp,at_⟩ hp=>by
  dsimp only[R0]at hp
  dsimp only[R4,tn,ar,aD,aI,aJ,aH]
  have hx: ∀z:Int,0<=z->z<n->p5 (af z.toNat):=λz J h2=>hp _ (by omega)
  unfold p5 at hx
  have wr: ∀z:Int,-100000<=z->z<=100000->IntKind.i64.wrap z=z:=λz J h2=>by rw[IntKind.wrap_i64];omega
  have hb: ∀b,yR n sp at_=b->(b=true/\ja n af sp at_=2/\mi n af sp at_=0/\mj n af sp at_=false)\/(b=false/\gA n*16=n/\0<=sp/\sp<gA n/\0<=at_/\at_<=4095/\gA n<=24):=λb h=>by
    cases b with
    |true=>left;simp[ja,mi,mj,h]
    |false=>
     right
     simp[yR,az]at h
     rcases MO n with⟨f1,f2⟩|⟨f1,f2,f3⟩
     · omega
     · exact⟨rfl,by omega⟩
  have zw:(bif bif bif bif decide (gA n<0)then true else decide (sp<0)then true else decide (gA n<=sp)then true else decide (at_<0)then true else decide (4096<=at_))=yR n sp at_:=by
    unfold yR az;rw[show decide (4096<=at_)=decide (4095<at_)from decide_eq_decide.2 (by omega)];cases decide (gA n<0)<;>cases decide (sp<0)<;>cases decide (gA n<=sp)<;>cases decide (at_<0)<;>rfl
  simp only[bn,eq_self,implies_true,Bool.cond_self]
  rw[zw]
  refine⟨λh=>?_,λh=>?_⟩
  · rcases hb _ h with⟨_,J,h2,h3⟩|⟨h0,_⟩
    · rw[J,h2,h3];exact⟨⟨rfl,rfl⟩,by decide,rfl⟩
    · cases h0
  rcases hb _ h with⟨h0,_⟩|⟨_,f1,p1,p2,q1,q2,f3⟩
  · cases h0
  have x1:=hx (sp*16+at_/256) (by omega) (by omega)
  have hT:kn (af (sp*16+at_/256).toNat) (gA n)=mO n af sp at_:=rfl
  obtain⟨c1,c2⟩:=MP x1.1 x1.2 (gA n)
  rw[c1]
  rw[hT]at c2⊢
  refine⟨wr _ (by omega) (by omega),⟨by omega,by omega,wr _ (by omega) (by omega)⟩,wr _ (by omega) (by omega),by omega,?_⟩
  rcases Di x1.1 (gA n)with⟨t1,t2⟩|⟨t1,t2,t3,t4⟩
  · rw[hT]at t1
    refine⟨λ_=>?_,λh=>by simp[t1]at h⟩
    have e:ja n af sp at_=9:=by simp[ja,h,t1]
    exact⟨⟨by simp[mi,e],by simp[mj,e]⟩,by decide,e⟩
  rw[hT]at t2 t3 t4
  refine⟨λh=>by simp at h;omega,λ_=>?_⟩
  replace c2:=c2.resolve_left (by omega)
  rw[c2]
  have x2:=hx (mO n af sp at_*16+at_/16%16) (by omega) (by omega)
  have hX:af (mO n af sp at_*16+at_/16%16).toNat=pV n af sp at_:=rfl
  rw[hX]at x2⊢
  refine⟨wr _ (by omega) (by omega),⟨by omega,by omega,wr _ (by omega) (by omega)⟩,by omega,wr _ (by omega) (by omega),by omega,?_⟩
  obtain⟨d1,d2⟩:=MP x2.1 x2.2 (gA n)
  rw[d1]
  have hP:kn (pV n af sp at_) (gA n)=vf n af sp at_:=rfl
  rw[hP]at d2⊢
  rcases Di x2.1 (gA n)with⟨u1,u2⟩|⟨u1,u2,u3,u4⟩
  · rw[hP]at u1
    refine⟨λ_=>?_,λh=>by simp[u1]at h⟩
    have e:ja n af sp at_=9:=by simp[ja,h,u1]
    exact⟨⟨by simp[mi,e],by simp[mj,e]⟩,by decide,e⟩
  rw[hP]at u2 u3 u4
  have d3:decide (mO n af sp at_<0)=false:=decide_eq_false (by omega)
  have d4:decide (vf n af sp at_<0)=false:=decide_eq_false (by omega)
  have e:ja n af sp at_=0:=by simp[ja,h,d3,d4]
  refine⟨λh=>by simp at h;omega,λ_=>?_⟩
  have eF:mi n af sp at_=vf n af sp at_:=by simp[mi,e]
  have eW:mj n af sp at_=(pV n af sp at_/16384%2==1):=by simp[mj,e]
  replace d2:=d2.resolve_left (by omega)
  rw[eF,eW,e,d2,Uf 14 (by omega) (by decide) x2.1 x2.2]
  have CJ:(pV n af sp at_/16384%2*16384 !=0)=(pV n af sp at_/16384%2==1):=by
    have hz:pV n af sp at_/16384%2=0\/pV n af sp at_/16384%2=1:=by omega
    rcases hz with h|h<;>rw[h]<;>rfl
  rw[CJ]
  repeat' (first|exact trivial|rfl|omega|exact wr _ (by omega) (by omega)|refine And.intro ?_ ?_)
end Go.Proofs.YthgmgkabnffniaaGreatDoor
set_option linter.unusedVariables false
set_option linter.unusedSimpArgs false
set_option maxRecDepth 100000
namespace Go.Proofs.YthgmgkabnffniaaGreatDoor
open Go.RowKit Go.Sy
def sI (k b l m:Int):Bool:=decide (b<0)||decide (24<b)||decide (l<1)||decide (24<l)||decide (24<b+l)||(k !=1&&(l !=1||m !=0))||(k==1&&az m l)
def sJ (k g:Int):Bool:=az g 65535||(decide (0<g)&&k !=7&&k !=8)
def dX (k b l m r g:Int):Int:=
  bif az k 8 then 3 else
  bif k==0 then(bif b !=0||l !=0||m !=0||r !=0||g !=0 then 2 else 0)else
  bif sI k b l m then 2 else bif az r 7 then 4 else bif sJ k g then 2 else 0
theorem Gv {k b l m r g:Int} (h:dX k b l m r g=0):0<=k/\k<=8/\0<=b/\b<=24/\0<=l/\l<=24/\0<=m/\m<=24/\0<=r/\r<=7/\0<=g/\g<=65535:=by
  unfold dX sI sJ az at h
  simp only[cond_eq_ite,bne,Bool.or_eq_true,Bool.and_eq_true,Bool.not_eq_true',decide_eq_true_eq,beq_iff_eq,beq_eq_false_iff_ne]at h
  repeat' split at h
  all_goals first|(cases h;done)|omega
structure Ms where
  (k b l m r g:Int)
def Xm:Sy.Spec:=⟨Ms,λ⟨k,b,l,m,r,g⟩=> [.ag 6 (aL [.v (.int .i64 k),.v (.int .i64 b),.v (.int .i64 l),.v (.int .i64 m),.v (.int .i64 r),.v (.int .i64 g)])],λ_=> [],λ_=>True,λ⟨k,b,l,m,r,g⟩=> .er 43 66 (dX k b l m r g) (-1),λ_=> [],
  λargs mem=>match args with| [a0]=>some ⟨aw (cQ a0 0),aw (cQ a0 1),aw (cQ a0 2),aw (cQ a0 3),aw (cQ a0 4),aw (cQ a0 5)⟩|_=>none⟩
def Xn:aT:=⟨[],(Xm).g,none⟩
def Mt:Ms->Prop:=λ⟨k,b,l,m,r,g⟩=>let a0:=cond (decide (k<0)) true (decide (8<k));let b0:=dX k b l m r g;let c0:=((-1):Int)=(-1);let d0:=!(k==0&&(b==0&&(l==0&&(m==0&&(r==0&&(g==0&&true))))));let e0:=((2:Int)≠0/\b0=2/\c0)/\True;let g0:=(b0=0/\c0)/\True;let h0:=cond (cond (cond (decide (b<0)) true (decide (24<=b))) true (decide (l<1))) true (decide (ar (24-b)<l));let k0:=cond (cond (cond (cond (k !=1) (l !=1) false) true (decide (m<0))) true (decide (l<m))) true (cond (k !=1) (m !=0) false);let l0:=cond (decide (r<0)) true (decide (7<r));let o0:=cond (cond (decide (g<0)) true (decide (65535<g))) true (cond (cond (g !=0) (k !=7) false) (k !=8) false);True/\(a0=true->((3:Int)≠0/\b0=3/\c0)/\True)/\(a0=false->((k==0)=true->(d0=true->e0)/\(d0=false->g0))/\((k==0)=false->(h0=true->e0)/\(h0=false->(k0=true->e0)/\(k0=false->(l0=true->((4:Int)≠0/\b0=4/\c0)/\True)/\(l0=false->(o0=true->e0)/\(o0=false->g0))))))
theorem Mh:aU Tryz.prog aY 108 Xn:=bf .nil true Tryz.call108 Tryz.func108 (λ_=> []) (V:=Mt) (λ_=>by kernel_rfl) λ⟨k,b,l,m,r,g⟩ hp=>by
  dsimp only[Mt,tn,ar]
  have hw:(bif bif bif decide (b<(0:Int))then true else decide ((24:Int)<=b)then true else decide (l<(1:Int))then true else decide (IntKind.i64.wrap (24 -b)<l))=
   (decide (b<0)||decide (24<b)||decide (l<1)||decide (24<l)||decide (24<b+l)):=by
    by_cases h:b<0\/24<=b\/l<1
    · have:b<0\/24<b\/l<1\/24<b+l:=by omega
      have h2:(bif bif bif decide (b<(0:Int))then true else decide ((24:Int)<=b)then true else decide (l<(1:Int))then true else decide (IntKind.i64.wrap (24 -b)<l))=true:=by
        rcases h with h|h|h<;>simp[h]
      rw[h2]
      rcases this with h|h|h|h<;>simp[h]
    · have e:IntKind.i64.wrap (24 -b)=24 -b:=by rw[IntKind.wrap_i64];omega
      rw[e]
      have J: ¬b<0:=by omega
      have h2: ¬24<=b:=by omega
      have h3: ¬l<1:=by omega
      have h4: ¬24<b:=by omega
      simp[J,h2,h3,h4]
      by_cases h5:24 -b<l<;>simp[h5]<;>omega
  rw[hw]
  unfold dX sI sJ az
  repeat' (first|exact trivial|refine And.intro ?_ ?_|intro h)
  all_goals (clear hw)
  all_goals (try simp only[Bool.cond_true_left,Bool.cond_false_right]at*)
  all_goals (simp only[cond_eq_ite,az,bne,Bool.or_eq_true,Bool.and_eq_true,Bool.not_eq_true',Bool.not_eq_false',Bool.and_eq_false_iff,decide_eq_true_eq,beq_iff_eq,beq_eq_false_iff_ne,Bool.or_eq_false_iff,decide_eq_false_iff_not,Bool.ite_eq_true_distrib,Bool.ite_eq_false_distrib]at*)
  all_goals (repeat' split)
  all_goals (first|rfl|(exfalso;simp_all<;>omega)|omega)
end Go.Proofs.YthgmgkabnffniaaGreatDoor
namespace Go.Sy
theorem Oi {x m:Int} (hx:0<=x) (nK:x<=65535):dq .andNot .i64 x m=x -dq .and .i64 x m:=by
  show IntKind.i64.wrap ((BitVec.ofInt 64 x&&& ~~~BitVec.ofInt 64 m).toNat:Int)=x -IntKind.i64.wrap ((BitVec.ofInt 64 x&&&BitVec.ofInt 64 m).toNat:Int)
  have hX:(BitVec.ofInt 64 x).toNat=x.toNat:=by
    rw[BitVec.toNat_ofInt];congr 1;exact Int.emod_eq_of_lt hx (by simp;omega)
  generalize hA:BitVec.ofInt 64 x=X at hX⊢
  generalize BitVec.ofInt 64 m=Y
  have J:(X&&& ~~~Y)+(X&&&Y)=X:=by
    rw[BitVec.add_eq_or_of_and_eq_zero]
    · ext i hi
      simp
      cases X[i]<;>cases Y[i]<;>rfl
    · ext i hi
      simp
      cases X[i]<;>cases Y[i]<;>simp
  have h2:(X&&& ~~~Y).toNat<=X.toNat:=by rw[BitVec.toNat_and];exact Nat.and_le_left
  have h3:(X&&&Y).toNat<=X.toNat:=by rw[BitVec.toNat_and];exact Nat.and_le_left
  have h4:=congrArg BitVec.toNat J
  rw[BitVec.toNat_add]at h4
  rw[IntKind.wrap_i64,IntKind.wrap_i64]
  omega
theorem MQ {x:Int} (hx:0<=x) (nK:x<=65535):dq .andNot .i64 x 1023=x -x%1024:=by
  rw[Oi hx nK,IK 10 (by omega) (by decide)];rfl
theorem agN (k X:Nat):X&&&2^k=X/2^k%2*2^k:=by
  have hk:X.testBit k=decide (X/2^k%2=1):=Nat.testBit_eq_decide_div_mod_eq
  apply Nat.eq_of_testBit_eq
  intro i
  rw[Nat.testBit_and,Nat.testBit_two_pow]
  rcases Nat.mod_two_eq_zero_or_one (X/2^k)with h|h
  · rw[h]
    by_cases e:k=i
    · subst e;simp[hk,h]
    · simp[e]
  · rw[h,Nat.one_mul,Nat.testBit_two_pow]
    by_cases e:k=i
    · subst e;simp[hk,h]
    · simp[e]
theorem Xo {x:Int} (hx:0<=x) (nK:x<=65535):dq .andNot .i64 x 17407=(x -x%1024) -(x -x%1024)/16384%2*16384:=by
  have e:dq .andNot .i64 x 17407=dq .andNot .i64 (dq .andNot .i64 x 1023) 16384:=by
    show IntKind.i64.wrap ((BitVec.ofInt 64 x&&& ~~~BitVec.ofInt 64 17407).toNat:Int)=IntKind.i64.wrap ((BitVec.ofInt 64 (dq .andNot .i64 x 1023)&&& ~~~BitVec.ofInt 64 16384).toNat:Int)
    have h0:BitVec.ofInt 64 (dq .andNot .i64 x 1023)=BitVec.ofInt 64 x&&& ~~~BitVec.ofInt 64 1023:=by
      have J:dq .andNot .i64 x 1023=IntKind.i64.wrap ((BitVec.ofInt 64 x&&& ~~~BitVec.ofInt 64 1023).toNat:Int):=rfl
      have h2:(BitVec.ofInt 64 x&&& ~~~BitVec.ofInt 64 1023).toNat<=65535:=by
        rw[BitVec.toNat_and]
        refine Nat.le_trans Nat.and_le_left ?_
        rw[BitVec.toNat_ofInt,Int.emod_eq_of_lt hx (by simp;omega)];omega
      rw[J,IntKind.wrap_i64]
      apply BitVec.eq_of_toNat_eq
      rw[BitVec.toNat_ofInt]
      generalize (BitVec.ofInt 64 x&&& ~~~BitVec.ofInt 64 1023).toNat=t at h2⊢
      show((_:Int)%((2^64:Nat):Int)).toNat=t
      rw[show((2^64:Nat):Int)=18446744073709551616 by decide]
      omega
    rw[h0]
    congr 3
    rw[BitVec.and_assoc]
    congr 1
  rw[e,MQ hx nK,Oi (by omega) (by omega),Jh (by omega) (by omega) (by omega) (by omega)]
  obtain⟨Y,hY⟩: ∃Y:Nat,x -x%1024=Y:=⟨(x -x%1024).toNat,by omega⟩
  rw[hY,Int.toNat_natCast,show Int.toNat 16384=2^14 from rfl,agN]
  simp
theorem XK {r q:Int} (r0:0<=r) (r1:r<=7) (q0:0<=q) (q1:q<=7):(dq .andNot .i64 r q==0)=(dq .and .i64 q r==r):=by
  have hr:r=0\/r=1\/r=2\/r=3\/r=4\/r=5\/r=6\/r=7:=by omega
  have hq:q=0\/q=1\/q=2\/q=3\/q=4\/q=5\/q=6\/q=7:=by omega
  rcases hr with rfl|rfl|rfl|rfl|rfl|rfl|rfl|rfl<;>rcases hq with rfl|rfl|rfl|rfl|rfl|rfl|rfl|rfl<;>decide
theorem Ug: ∀(L:Nat) (f:Nat->Nat),(∀k,k<=L->f k<L)-> ∃a b,a<b/\b<=L/\f a=f b
  |0,f,h=>absurd (h 0 (Nat.le_refl _)) (by omega)
  |L+1,f,h=>by
   rcases Classical.em (∃k,k<=L/\f k=f (L+1))with⟨k,J,h2⟩|cj
   · exact⟨k,L+1,by omega,by omega,h2⟩
   · have ba: ∀k,k<=L->f k≠f (L+1):=λk hk e=>cj ⟨k,hk,e⟩
     obtain⟨a,b,J,h2,h3⟩:=Ug L (λk=>if f k=L then f (L+1)else f k) λk hk=>by
       have l1:=h k (by omega)
       have l2:=h (L+1) (by omega)
       have l3:=ba k hk
       show(if f k=L then f (L+1)else f k)<L
       split<;>omega
     refine⟨a,b,J,by omega,?_⟩
     have n1:=ba a (by omega)
     have n2:=ba b (by omega)
     have h3:(if f a=L then f (L+1)else f a)=(if f b=L then f (L+1)else f b):=h3
     split at h3<;>split at h3
     · omega
     · exact absurd h3.symm n2
     · exact absurd h3 n1
     · exact h3
theorem ZK (L:Nat) (g:Nat->Nat) (s:Nat->Nat) (hs: ∀k,s k<L->s (k+1)=g (s k)) (a_: ∀k,k<=L->s k<L): ∀k,s k<L:=by
  obtain⟨a,b,J,h2,h3⟩:=Ug L s a_
  have fW: ∀n k,k<=n->s k<L:=by
    intro n
    induction n with
    |zero=>intro k hk;exact a_ k (by omega)
    |succ n ih=>
     intro k hk
     rcases Nat.lt_or_ge b k with hb|hb
     · --step back by the period
       have agO: ∀d,b+d<=n+1->s (a+d)=s (b+d):=by
         intro d
         induction d with
         |zero=>intro _;exact h3
         |succ d ihd=>
          intro hd
          have e1:=hs (a+d) (ih _ (by omega))
          have e2:=hs (b+d) (ih _ (by omega))
          rw[show a+(d+1)=a+d+1 by omega,show b+(d+1)=b+d+1 by omega,e1,e2,ihd (by omega)]
       have:=agO (k -b) (by omega)
       rw[show b+(k -b)=k by omega]at this
       rw[<-this]
       exact ih _ (by omega)
     · exact a_ k (by omega)
  exactλk=>fW k k (Nat.le_refl _)
end Go.Sy
set_option linter.unusedVariables false
set_option linter.unusedSimpArgs false
set_option maxRecDepth 100000
namespace Go.Proofs.YthgmgkabnffniaaGreatDoor
open Go.RowKit Go.Sy
def bx:Nat->(Nat->Bool)->Nat
  |0,_=>0
  |n+1,p=>bx n p+(bif p n then 1 else 0)
def dY (n:Nat) (p:Nat->Bool):Bool:=!g_ n λi=>!p i
theorem sK (p:Nat->Bool): ∀n,bx n p<=n
  |0=>Nat.le_refl _
  |n+1=>by have:=sK p n;unfold bx;cases p n<;>simp<;>omega
theorem uc {p:Nat->Bool}: ∀{n i:Nat},i<n->p i=true->0<bx n p
  |0,i,h,_=>absurd h (by omega)
  |n+1,i,h,hp=>by
   unfold bx
   rcases Nat.lt_or_ge i n with J|J
   · have:=uc J hp;omega
   · obtain rfl:i=n:=by omega
     rw[hp];simp
theorem qt {n:Nat} {p:Nat->Bool}:dY n p=true↔ ∃i,i<n/\p i=true:=by
  unfold dY
  cases h:g_ n λi=>!p i with
  |true=>
   simp only[Bool.not_true,Bool.false_eq_true,false_iff]
   rintro ⟨i,hi,hp⟩
   have:=m6.1 h i hi
   simp[hp]at this
  |false=>
   simp only[Bool.not_false,true_iff]
   refine Classical.byContradiction λhn=>?_
   rw[m6.2]at h
   · cases h
   · intro i hi
     cases hp:p i
     · rfl
     · exact absurd ⟨i,hi,hp⟩ hn
theorem nY {n:Nat} {p:Nat->Bool}:dY n p=false↔ ∀i,i<n->p i=false:=by
  constructor
  · intro h i hi
    cases hp:p i
    · rfl
    · rw[qt.2 ⟨i,hi,hp⟩]at h;cases h
  · intro h
    cases hq:dY n p
    · rfl
    · obtain⟨i,hi,hp⟩:=qt.1 hq
      rw[h i hi]at hp;cases hp
theorem Nu (n:Nat) (p:Nat->Bool):dY (n+1) p=(dY n p||p n):=by
  show(!(g_ n (λi=>!p i)&&!p n))=(!g_ n (λi=>!p i)||p n)
  cases g_ n (λi=>!p i)<;>cases p n<;>rfl
def kt:Nat->(Nat->Nat)->Nat
  |0,_=>0
  |n+1,f=>kt n f+f n
theorem H0 {f:Nat->Nat} {b:Nat}: ∀{n:Nat},(∀i,i<n->f i<=b)->kt n f<=n*b
  |0,_=>by simp[kt]
  |n+1,h=>by
   have J:=H0 (n:=n) λi hi=>h i (by omega)
   have h2:=h n (by omega)
   unfold kt;rw[Nat.succ_mul];omega
def fx (n:Nat) (p:Nat->Bool) (e:Int) (r:Int×Int):Int×Int:=bif Nat.blt (dG n p) n then(e,((dG n p:Nat):Int))else r
theorem ng {n i:Nat} {p:Nat->Bool} {e:Int} {r:Int×Int} (hb: ∀j,j<i->p j=false) (hp:p i=true) (hi:i<n):fx n p e r=(e,((i:Nat):Int)):=by
  unfold fx;rw[uj hb hp hi,ji hi];rfl
theorem gF {n:Nat} {p:Nat->Bool} {e:Int} {r:Int×Int} (h: ∀j,j<n->p j=false):fx n p e r=r:=by
  unfold fx;rw[ua h,nv (Nat.le_refl _)];rfl
theorem GX {p:Nat->Bool}: ∀{n:Nat},dG n p<n->p (dG n p)=true/\ ∀j,j<dG n p->p j=false:=by
  intro n h
  rcases Classical.em (∃i,i<n/\p i=true)with hx|hx
  · --the least one
    have key: ∀k i,i<=k->i<n->p i=true-> ∃m,m<n/\p m=true/\ ∀j,j<m->p j=false:=by
      intro k
      induction k with
      |zero=>
       intro i hi hn hp
       exact⟨i,hn,hp,λj hj=>absurd hj (by omega)⟩
      |succ k ih=>
       intro i hi hn hp
       rcases Classical.em (∃j,j<i/\p j=true)with⟨j,hj,hpj⟩|cj
       · exact ih j (by omega) (by omega) hpj
       · refine⟨i,hn,hp,λj hj=>?_⟩
         cases hq:p j
         · rfl
         · exact absurd ⟨j,hj,hq⟩ cj
    obtain⟨i,hi,hp⟩:=hx
    obtain⟨m,J,h2,h3⟩:=key i i (Nat.le_refl _) hi hp
    rw[uj h3 h2 J]
    exact⟨h2,h3⟩
  · have: ∀j,j<n->p j=false:=λj hj=>by
      cases hq:p j
      · rfl
      · exact absurd ⟨j,hj,hq⟩ hx
    rw[ua this]at h
    omega
theorem uh {n i:Nat} {p:Nat->Bool} (hi:i<n) (hp:p i=true):dG n p<n:=by
  rcases Nat.lt_or_ge (dG n p) n with h|h
  · exact h
  · have e:dG n p=n:=Nat.le_antisymm (H2 p n) h
    rcases Classical.em (∃j,j<i+1/\p j=true/\ ∀k,k<j->p k=false)with⟨j,J,h2,h3⟩|cj
    · rw[uj h3 h2 (by omega)]at h;omega
    · exfalso
      have: ∀k,k<i+1->p k=false:=by
        intro k
        induction k using Nat.strongRecOn with
        |_ k ih=>
         intro hk
         cases hq:p k
         · rfl
         · exact absurd ⟨k,hk,hq,λj hj=>ih j hj (by omega)⟩ cj
      rw[this i (by omega)]at hp;cases hp
theorem XH {n:Nat} {p q:Nat->Bool} {e:Int} {r r':Int×Int} (h: ∀i,i<n->p i=q i) (hr:(∀i,i<n->p i=false)->r=r'):fx n p e r=fx n q e r':=by
  rcases Nat.lt_or_ge (dG n p) n with J|J
  · obtain⟨h2,h3⟩:=GX J
    rw[ng h3 h2 J,ng (p:=q) (λj hj=>by rw[<-h j (by omega)];exact h3 j hj) (by rw[<-h _ J];exact h2) J]
  · have: ∀i,i<n->p i=false:=λi hi=>by
      cases hq:p i
      · rfl
      · have:=uh hi hq;omega
    rw[gF this,gF (λj hj=>by rw[<-h j hj];exact this j hj),hr this]
theorem oa {n:Nat} {p:Nat->Bool} {e:Int} {r:Int×Int} (he:e≠0) (h:(fx n p e r).1=0):(∀i,i<n->p i=false)/\r.1=0:=by
  rcases Nat.lt_or_ge (dG n p) n with J|J
  · obtain⟨h2,h3⟩:=GX J
    rw[ng h3 h2 J]at h;exact absurd h he
  · have: ∀i,i<n->p i=false:=λi hi=>by
      cases hq:p i
      · rfl
      · have:=uh hi hq;omega
    rw[gF this]at h
    exact⟨this,h⟩
def bH (W:Wd) (f:Int):Int:=bif decide (f<0)||decide ((W.aj:Int)<=f)then -1 else W.kinds f.toNat
theorem iO {W:Wd} {f:Int} (h:bH W f≠ -1):0<=f/\f<W.aj:=by
  unfold bH at h
  cases J:decide (f<0)<;>cases h2:decide ((W.aj:Int)<=f)<;>simp[J,h2]at h<;>simp at J h2<;>omega
theorem fS {W:Wd} {f:Int} (h:0<=f/\f<W.aj):bH W f=W.kinds f.toNat:=by
  unfold bH;rw[decide_eq_false (by omega),decide_eq_false (by omega)];rfl
theorem PQ {W:Wd} {f:Int} (h:f<0\/W.aj<=f):bH W f= -1:=by
  unfold bH
  rcases h with h|h
  · rw[decide_eq_true h];rfl
  · rw[decide_eq_true h];cases decide (f<0)<;>rfl
def uH (W:Wd):Bool:=
  decide (W.aj<1)||decide (24<W.aj)||decide (W.aC<1)||decide (4<W.aC)||W.ay !=W.aj*16||W.al !=W.aj*16||W.aP !=W.aj||W.aW !=W.aj||W.aN !=W.aj||W.aS !=W.aC*4||W.aQ !=W.aC||decide (W.aK<1)||decide (8<W.aK)||az W.time 1000000
structure bO (W:Wd):Prop where
  k0:1<=W.aj
  k1:W.aj<=24
  c0:1<=W.aC
  c1:W.aC<=4
  af:W.ay=W.aj*16
  aa:W.al=W.aj*16
  tasks:W.aP=W.aj
  lines:W.aW=W.aj
  bits:W.aN=W.aj
  ready:W.aS=W.aC*4
  aA:W.aQ=W.aC
  d0:1<=W.aK
  d1:W.aK<=8
  t0:0<=W.time
  t1:W.time<=1000000
theorem RN {W:Wd} (h:uH W=false):bO W:=by
  unfold uH az at h
  simp only[Bool.or_eq_false_iff,decide_eq_false_iff_not,bne_eq_false_iff_eq]at h
  obtain⟨⟨⟨⟨⟨⟨⟨⟨⟨⟨⟨⟨⟨J,h2⟩,h3⟩,h4⟩,h5⟩,h6⟩,h7⟩,h8⟩,h9⟩,ib⟩,fL⟩,jM⟩,lj⟩,oY,nP⟩:=h
  exact⟨by omega,by omega,by omega,by omega,h5,h6,h7,h8,h9,ib,fL,by omega,by omega,by omega,by omega⟩
def p6 (W:Wd):Prop:=(∀i,i<W.aW->W.ai i<=50)/\(∀i,i<W.aS->W.aq i<=50)/\(∀i,i<W.aQ->W.aG i<=50)
def fi (s:bK):Int:=dX s.kind s.base s.len s.mark s.cd s.bL
def dK (W:Wd) (u:Int):Bool:=decide (0<=u)&&decide (u<W.al)
def jv (W:Wd) (u:Int):Int:=bif dK W u then(W.aa u.toNat).from_ else u
def cH (W:Wd) (u:Int):Nat->Int
  |0=>u
  |k+1=>jv W (cH W u k)
def eG (k p:bK):Bool:=
  fi p==0&&bif p.kind==1 then k.kind !=1&&decide (p.base<=k.base)&&decide (k.base -p.base<p.mark)else k.kind==p.kind&&k.base==p.base&&(p.bL==0||p.bL==k.bL)&&(((ku 6 p.cd.toNat k.cd.toNat:Nat):Int)==k.cd)
def mG (W:Wd) (i:Nat) (s:bK):Bool:=
  bif s.kind==0 then fi s==0&&s.from_== -1 else
  W.kinds (i/16)==5&&fi s==0&&decide (s.base+s.len<=W.aj)&&(s.kind==1||W.kinds s.base.toNat==s.kind)&&
  (s.from_== -1||(dK W s.from_&&eG s (W.aa s.from_.toNat)&&!dK W (cH W s.from_ W.al)))
def fy (W:Wd) (i:Nat):Bool:=mG W i (W.aa i)
theorem Ei {W:Wd} {i:Nat} {s:bK} (h:mG W i s=true):fi s=0:=by
  unfold mG at h
  cases hk:s.kind==0<;>simp only[hk,cond_true,cond_false,Bool.and_eq_true,beq_iff_eq]at h
  · exact h.1.1.1.2
  · exact h.1
theorem kN {s:bK} (h:fi s=0):0<=s.kind/\s.kind<=8/\0<=s.base/\s.base<=24/\0<=s.len/\s.len<=24/\0<=s.mark/\s.mark<=24/\0<=s.cd/\s.cd<=7/\0<=s.bL/\s.bL<=65535:=Gv h
theorem jU {p:Nat->Bool} {i:Nat} (h: ∀j,j<i->p j=false) (hi:p i=false): ∀j,j<i+1->p j=false:=by
  intro j hj
  rcases Nat.lt_or_ge j i with h3|h3
  · exact h j h3
  · obtain rfl:j=i:=by omega
    exact hi
theorem EI {W:Wd} {u:Int} (h:dK W u=true):jv W u=(W.aa u.toNat).from_:=by unfold jv;rw[h];rfl
theorem abp {W:Wd} {u:Int} (h:dK W u=false):jv W u=u:=by unfold jv;rw[h];rfl
theorem mr {W:Wd} {u:Int}:dK W u=true↔0<=u/\u<W.al:=by unfold dK;simp
theorem PS {W:Wd} {u:Int} {k:Nat} (h:dK W (cH W u k)=false): ∀{m:Nat},k<=m->cH W u m=cH W u k
  |m,hm=>by
   induction m with
   |zero=>obtain rfl:k=0:=by omega
          rfl
   |succ m ih=>
    rcases Nat.lt_or_ge m k with J|J
    · obtain rfl:k=m+1:=by omega
      rfl
    · show jv W (cH W u m)=_
      rw[ih J,abp h]
def bW (s:bK) (f:Nat):Bool:=s.kind==1&&decide (s.base<=f)&&decide ((f:Int)<s.base+s.len)
def iP (s:bK) (f:Nat):Bool:=bW s f&&decide (s.base+s.mark<=f)
def cE (s:bK) (f:Nat):Bool:=s.kind !=1&&s.kind !=0&&s.base==f
def vl (W:Wd) (f:Nat):Bool:=
  decide (bx W.al (λi=>bW (W.aa i) f)<=1)&&(W.kinds f==0||(decide (0<bx W.al λi=>cE (W.aa i) f)&&!dY W.al λi=>iP (W.aa i) f))
def cf (n:Nat) (l:Nat->Int) (x:Int):Nat:=bx n λk=>l k==x
def cJ (n:Nat) (ln:Nat->Nat) (l:Nat->Nat->Int) (x:Int):Nat:=kt n λi=>cf (ln i) (l i) x
def cF (n:Nat) (l:Nat->Int) (x:Int):Bool:=dY n λk=>l k==x
def jg (t:aM):Bool:=az t.r0 65535||az t.r1 65535||az t.r2 65535||az t.r3 65535||az t.r4 65535||az t.r5 65535||az t.r6 65535||az t.r7 65535
def fT (W:Wd) (t:aM):Bool:=az t.pc 65535||az t.word 65535||az t.bL 65535||az t.st 6||az t.prio 3||az t.core (W.aC -1)||az t.cL 3
def okF (W:Wd) (f k:Int):Bool:=f== -1||bH W f==k
def gv (W:Wd) (t:aM):Bool:=okF W t.node 5&&okF W t.space 4&&okF W t.helper 7&&okF W t.aE 6
def uv (W:Wd) (t:aM):Bool:=t.aE== -1||((W.tasks t.aE.toNat).st==5&&t.st !=4)
def ca (W:Wd) (f:Nat):Nat:=bx W.aP λi=>(W.tasks i).aE==f
def sO (W:Wd) (f:Nat):Bool:=decide (ca W f<=1)&&((ca W f==1)==((W.tasks f).st==5))
def cA (W:Wd) (f:Nat):Nat:=cJ W.aW W.ai W.lines f
def cu (W:Wd) (f:Nat):Nat:=cJ W.aS W.aq W.ready f+cf W.aC W.ak f
def ui (W:Wd) (f:Nat) (k:Int):Bool:=(cA W f==1)&&(cu W f==0)&&bH W (W.tasks f).loc==k&&cF (W.ai (W.tasks f).loc.toNat) (W.lines (W.tasks f).loc.toNat) f
def oO (W:Wd) (f:Nat):Bool:=
  let s:=(W.tasks f).st
  bif s==2||s==3||s==4 then ui W f 7 else bif s==6 then ui W f 8 else
  bif s==1 then(cA W f==0)&&(cu W f==1)&&(W.tasks f).loc== -1 else(cA W f==0)&&(cu W f==0)&&(W.tasks f).loc== -1
def fv (W:Wd) (f:Nat):Bool:=
  let t:=W.tasks f
  bif W.kinds f !=6 then yT t aM.blank else !jg t&&!fT W t&&gv W t&&uv W t&&sO W f&&oO W f
def lu (W:Wd) (t:Int):Bool:=(W.tasks t.toNat).st==4
def mw (W:Wd) (f:Nat) (t:Int):Bool:=bH W t==6&&(W.tasks t.toNat).loc==f&&(lu W t==lu W (W.lines f 0))
def fN (W:Wd) (f:Nat):Bool:=
  !(decide (0<W.ai f)&&W.kinds f !=7&&W.kinds f !=8)&&!(W.bits f !=0&&(W.kinds f !=8||decide (0<W.ai f)))&&!az (W.bits f) 65535&&g_ (W.ai f) λi=>mw W f (W.lines f i)
def fA (W:Wd) (t c p:Int):Bool:=bH W t==6&&(W.tasks t.toNat).st==1&&(W.tasks t.toNat).core==c&&(decide (p<0)||(W.tasks t.toNat).prio==p)
def ft (W:Wd) (c:Nat):Bool:=W.ak c== -1||fA W (W.ak c) c (-1)
def ik (W:Wd) (i:Nat):Bool:=g_ (W.aq i) λk=>fA W (W.ready i k) ((i/4:Nat):Int) ((i%4:Nat):Int)
def gU (W:Wd) (i:Nat):Bool:=
  let x:=W.af i
  let k:=W.kinds (i/16)
  x==0||(k !=3&&k !=4)||(bif k==4 then x -x%1024==32768&&bH W (x%1024)==3 else(x -x%1024==32768||x -x%1024==49152)&&bH W (x%1024)==2)
def nU (W:Wd) (l:Nat->dQ) (i:Nat):Bool:=
  bH W (l i).sp==4&&!az (l i).pg 255&&ja W.ay W.af (l i).sp (16*(l i).pg)==0&&mi W.ay W.af (l i).sp (16*(l i).pg)==(l i).fr&&(mj W.ay W.af (l i).sp (16*(l i).pg)==(l i).wr)&&!dY i λk=>(l k).sp==(l i).sp&&(l k).pg==(l i).pg
def gV (W:Wd) (n:Nat) (l:Nat->dQ):Bool:=decide (n<=4)&&g_ n λi=>nU W l i
def tU (W:Wd) (r:Int×Int):Int×Int:=fx W.ay (λi=>az (W.af i) 65535) 1<|fx W.aj (λi=>az (W.kinds i) 8||W.kinds i==1) 3<|fx W.aK (λi=>az (W.aB i) 3) 2 r
def vn (W:Wd) (r:Int×Int):Int×Int:=fx W.al (λi=>!fy W i) 8 r
def xN (W:Wd) (r:Int×Int):Int×Int:=fx W.aj (λi=>!vl W i) 8 r
def vo (W:Wd) (r:Int×Int):Int×Int:=fx W.aj (λi=>!fv W i) 8 r
def vp (W:Wd) (r:Int×Int):Int×Int:=fx W.aj (λi=>!fN W i) 8 r
def vq (W:Wd) (r:Int×Int):Int×Int:=fx W.aC (λi=>!ft W i) 8<|fx W.aS (λi=>!ik W i) 8 r
def vr (W:Wd) (r:Int×Int):Int×Int:=fx W.ay (λi=>!gU W i) 9<|fx W.aC (λi=>!gV W (W.aG i) (W.aA i)) 9 r
def wm (W:Wd):Int×Int:=bif uH W then(2,-1)else tU W (vn W (xN W (vo W (vp W (vq W (vr W (0,-1)))))))
end Go.Proofs.YthgmgkabnffniaaGreatDoor
set_option linter.unusedVariables false
set_option linter.unusedSimpArgs false
set_option maxRecDepth 100000
namespace Go.Proofs.YthgmgkabnffniaaGreatDoor
open Go.RowKit Go.Sy
def iG (B:List bc) (z:Nat):Wd:=⟨qP B (z+1),λi=>aw (nB B (z+1) i 0),qP B (z+2),λi=>aw (nB B (z+2) i 0),qP B (z+3),λi=>Fq (λj=>nB B (z+3) i j),qP B (z+4),λi=>E9 (λj=>nB B (z+4) i j),qP B (z+5),λi=>JS (nB B (z+5) i 0),λi k=>aw (JT (nB B (z+5) i 0) k 0),qP B (z+6),λi=>aw (nB B (z+6) i 0),qP B (z+7),λi=>aw (nB B (z+7) i 0),qP B (z+8),λi=>JS (nB B (z+8) i 0),λi k=>aw (JT (nB B (z+8) i 0) k 0),qP B (z+9),λi=>JS (nB B (z+9) i 0),λi k=>uO (λj=>JT (nB B (z+9) i 0) k j),qP B (z+10),λi=>aw (nB B (z+10) i 0),aw (Fa B z 10)⟩
def iR (W:Wd) (s:Int):Int:=bif decide (s<0)||decide ((W.al:Int)<=s)then 2 else bif (W.aa s.toNat).kind==0 then 6 else 0
def iC (W:Wd) (s:Int):Int:=bif decide (s<0)||decide ((W.al:Int)<=s)then 2 else bif W.kinds (s/16).toNat !=5 then 3 else bif (W.aa s.toNat).kind !=0 then 12 else 0
def lV (W:Wd) (a b:Int):Int:=bif iR W a==0 then iC W b else iR W a
def cp (a b:Int) (s:bK):bK:=bif s.from_==a then{s with from_:=b}else s
def f_:bK:=⟨0,0,0,0,0,0,-1⟩
def cT (f:Nat->bK) (a b:Nat) (j:Nat):bK:=bif Nat.beq j b then f a else bif Nat.beq j a then f_ else f j
def Gf (W:Wd) (a b:Int):Wd:={W with aa:=λj=>bif lV W a b==0 then cp a b (cT W.aa a.toNat b.toNat j)else W.aa j}
theorem nG {x y:bK} (h:x=y):((((((x.kind=y.kind/\x.base=y.base)/\x.len=y.len)/\x.mark=y.mark)/\x.cd=y.cd)/\x.bL=y.bL)/\x.from_=y.from_):=by subst h;exact⟨⟨⟨⟨⟨⟨rfl,rfl⟩,rfl⟩,rfl⟩,rfl⟩,rfl⟩,rfl⟩
theorem fD {a b:Nat} (h:a≠b):Nat.beq a b=false:=by
  cases hb:Nat.beq a b with
  |false=>rfl
  |true=>exact absurd (Nat.eq_of_beq_eq_true hb) h
theorem dA {z:Int} (J: -1000000<=z) (h2:z<=1000000):IntKind.i64.wrap z=z:=by rw[IntKind.wrap_i64];omega
theorem IJ {W:Wd} {a b:Int} (h:(lV W a b==0)=true):(0<=a/\a<W.al)/\(0<=b/\b<W.al)/\a≠b/\iR W a=0/\iC W b=0:=by
  have h:=eq_of_beq h
  unfold lV at h
  cases J:iR W a==0 with
  |false=>rw[J]at h;exact absurd (beq_of_eq (show iR W a=0 from h)) (by rw[J];decide)
  |true=>
   rw[J]at h
   have J:=eq_of_beq J
   have h2:iC W b=0:=h
   have ha:(0<=a/\a<W.al)/\(W.aa a.toNat).kind≠0:=by
     have lA:=J
     unfold iR at lA
     cases d1:decide (a<0)<;>cases d2:decide ((W.al:Int)<=a)<;>rw[d1,d2]at lA<;>(try simp only[Bool.or_true,Bool.true_or,Bool.or_false,cond_true,cond_false]at lA)<;>(try exact absurd lA (by decide))
     have d1:=of_decide_eq_false d1
     have d2:=of_decide_eq_false d2
     refine⟨by omega,λe=>?_⟩
     rw[e]at lA;exact absurd lA (by decide)
   have hb:(0<=b/\b<W.al)/\(W.aa b.toNat).kind=0:=by
     have lA:=h2
     unfold iC at lA
     cases d1:decide (b<0)<;>cases d2:decide ((W.al:Int)<=b)<;>rw[d1,d2]at lA<;>(try simp only[Bool.or_true,Bool.true_or,Bool.or_false,cond_true,cond_false]at lA)<;>(try exact absurd lA (by decide))
     have d1:=of_decide_eq_false d1
     have d2:=of_decide_eq_false d2
     refine⟨by omega,?_⟩
     cases d3:W.kinds (b/16).toNat !=5<;>rw[d3]at lA<;>(try simp only[Bool.or_true,Bool.true_or,Bool.or_false,cond_true,cond_false]at lA)<;>(try exact absurd lA (by decide))
     cases d4:(W.aa b.toNat).kind !=0<;>rw[d4]at lA<;>(try simp only[Bool.or_true,Bool.true_or,Bool.or_false,cond_true,cond_false]at lA)<;>(try exact absurd lA (by decide))
     exact bne_eq_false_iff_eq.1 d4
   exact⟨ha.1,hb.1,λe=>ha.2 (by rw[e];exact hb.2),J,h2⟩
theorem LV {x:Int} (h:(x !=0)=true):(x==0)=false:=by simpa [bne]using h
theorem C1 {x:Int} (h:(x !=0)=false):(x==0)=true:=by simpa [bne]using h
theorem eP (W:Wd):(⟨W.ay,W.af,W.aj,W.kinds,W.al,W.aa,W.aP,W.tasks,W.aW,W.ai,W.lines,W.aN,W.bits,W.aC,W.ak,W.aS,W.aq,W.ready,W.aQ,W.aG,W.aA,W.aK,W.aB,W.time⟩:Wd)=W:=rfl
structure RO where
  (W:Wd) (s:Int)
def ac4:Sy.Spec:=⟨RO,λ⟨W,s⟩=> [dV W,.v (.int .i64 s)],λ_=> [],λ_=>True,λ⟨W,s⟩=> .v (.int .i64 (iR W s)),λ_=> [],
  λargs mem=>match args with| [a0,a1]=>some ⟨dR a0,aw (a1)⟩|_=>none⟩
def ac5:aT:=⟨[],(ac4).g,none⟩
def RP:RO->Prop:=λ⟨W,s⟩=>let a0:=cond (decide (s<0)) true (decide (((W.al:Nat):Int)<=s));let b0:=iR W s;let c0:=(W.aa (Int.toNat s)).kind==0;(a0=true->2=b0/\True)/\(a0=false->(0<=s/\s<((W.al:Nat):Int))/\(c0=true->6=b0/\True)/\(c0=false->0=b0/\True))
theorem PK:aU Tryz.prog aY 96 ac5:=bf .nil false Tryz.call96 Tryz.func96 (λ_=> []) (V:=RP) (λ_=>by kernel_rfl) λ⟨W,s⟩ hp=>by
  dsimp only[RP,tn,ar,aD,aI,aJ,aH]
  simp only[bn,bD,eq_self,implies_true,Bool.cond_self]
  refine⟨λh=>?_,λh=>?_⟩
  · unfold iR;rw[h];rfl
  · have h':=h
    rw[Bool.or_eq_false_iff]at h'
    have J:=of_decide_eq_false h'.1
    have h2:=of_decide_eq_false h'.2
    refine⟨by omega,λh3=>?_,λh3=>?_⟩<;>(unfold iR;rw[h,h3];rfl)
structure PM where
  (W:Wd) (s:Int)
def PN:Sy.Spec:=⟨PM,λ⟨W,s⟩=> [dV W,.v (.int .i64 s)],λ_=> [],λ⟨W,_⟩=>W.al<=100000/\W.al<=W.aj*16,λ⟨W,s⟩=> .v (.int .i64 (iC W s)),λ_=> [],
  λargs mem=>match args with| [a0,a1]=>some ⟨dR a0,aw (a1)⟩|_=>none⟩
def abn:aT:=⟨[],(PN).g,none⟩
def PO:PM->Prop:=λ⟨W,s⟩=>let a0:=cond (decide (s<0)) true (decide (((W.al:Nat):Int)<=s));let b0:=iC W s;let c0:Int:=s/16;let d0:=W.kinds (Int.toNat c0) !=5;let e0:=(W.aa (Int.toNat s)).kind !=0;(a0=true->2=b0/\True)/\(a0=false->(0<=s/\(0:Int)<16/\ar c0=c0)/\(0<=c0/\c0<((W.aj:Nat):Int))/\(d0=true->3=b0/\True)/\(d0=false->(0<=s/\s<((W.al:Nat):Int))/\(e0=true->12=b0/\True)/\(e0=false->0=b0/\True)))
theorem Ob:aU Tryz.prog aY 98 abn:=bf .nil false Tryz.call98 Tryz.func98 (λ_=> []) (V:=PO) (λ_=>by kernel_rfl) λ⟨W,s⟩ hp=>by
  dsimp only[PN]at hp
  dsimp only[PO,tn,ar,aD,aI,aJ,aH]
  simp only[bn,bD,eq_self,implies_true,Bool.cond_self]
  refine⟨λh=>?_,λh=>?_⟩
  · unfold iC;rw[h];rfl
  · have h':=h
    rw[Bool.or_eq_false_iff]at h'
    have J:=of_decide_eq_false h'.1
    have h2:=of_decide_eq_false h'.2
    refine⟨⟨by omega,by decide,dA (by omega) (by omega)⟩,by omega,λh3=>?_,λh3=>⟨by omega,λh4=>?_,λh4=>?_⟩⟩
    · unfold iC;rw[h,h3];rfl
    · unfold iC;rw[h,h3,h4];rfl
    · unfold iC;rw[h,h3,h4];rfl
structure RQ where
  (W:Wd) (a b:Int)
def RR:Sy.Spec:=⟨RQ,λ⟨W,a,b⟩=> [dV W,.v (.int .i64 a),.v (.int .i64 b)],λ_=> [],λ⟨W,_,_⟩=>W.al<=100000/\W.al<=W.aj*16,λ⟨W,a,b⟩=> .v (.int .i64 (lV W a b)),λ_=> [],
  λargs mem=>match args with| [a0,a1,a2]=>some ⟨dR a0,aw (a1),aw (a2)⟩|_=>none⟩
def ac6:aT:=⟨[],(RR).g,none⟩
def RS:RQ->Prop:=λ⟨W,a,b⟩=>let a0:=W.aj;let b0:=W.al;let c0:=W.aP;let d0:=W.aW;let e0:=W.aC;let g0:=W.aS;let h0:=((((((((((True/\W.ay=W.ay/\(∀k0:Nat,k0<W.ay->True/\W.af k0=W.af k0))/\a0=a0/\(∀l0:Nat,l0<a0->True/\W.kinds l0=W.kinds l0))/\b0=b0/\(∀o0:Nat,o0<b0->aJ (W.aa o0) (W.aa o0)))/\c0=c0/\(∀q0:Nat,q0<c0->aI (W.tasks q0) (W.tasks q0)))/\d0=d0/\(∀r0:Nat,let u0:=W.ai r0;r0<d0->True/\u0=u0/\(∀v0:Nat,v0<u0->True/\W.lines r0 v0=W.lines r0 v0)))/\W.aN=W.aN/\(∀w0:Nat,w0<W.aN->True/\W.bits w0=W.bits w0))/\e0=e0/\(∀x0:Nat,x0<e0->True/\W.ak x0=W.ak x0))/\g0=g0/\(∀y0:Nat,let z0:=W.aq y0;y0<g0->True/\z0=z0/\(∀a1:Nat,a1<z0->True/\W.ready y0 a1=W.ready y0 a1)))/\W.aQ=W.aQ/\(∀b1:Nat,let c1:=W.aG b1;b1<W.aQ->True/\c1=c1/\(∀d1:Nat,d1<c1->aH (W.aA b1 d1) (W.aA b1 d1))))/\W.aK=W.aK/\(∀e1:Nat,e1<W.aK->True/\W.aB e1=W.aB e1))/\W.time=W.time;let g1:=iR W a==0;((h0/\a=a/\True)/\True/\True)/\(g1=true->((h0/\b=b/\True)/\True/\b0<=100000/\b0<=a0*16)/\iC W b=lV W a b/\True)/\(g1=false->iR W a=lV W a b/\True)
theorem abo:aU Tryz.prog aY 100 ac6:=bf (.cons PK (.cons Ob .nil)) false Tryz.call100 Tryz.func100 (λ_=> []) (V:=RS) (λ_=>by kernel_rfl) λ⟨W,a,b⟩ hp=>by
  dsimp only[RR]at hp
  dsimp only[RS,tn,ar,aD,aI,aJ,aH]
  simp only[bn,bD,eq_self,implies_true,Bool.cond_self]
  exact⟨λh=>⟨hp,by unfold lV;rw[h];rfl⟩,λh=>by unfold lV;rw[h];rfl⟩
end Go.Proofs.YthgmgkabnffniaaGreatDoor
set_option linter.unusedVariables false
set_option linter.unusedSimpArgs false
set_option maxRecDepth 100000
namespace Go.Proofs.YthgmgkabnffniaaGreatDoor
open Go.RowKit Go.Sy
end Go.Proofs.YthgmgkabnffniaaGreatDoor
set_option linter.unusedVariables false
set_option linter.unusedSimpArgs false
set_option maxRecDepth 100000
namespace Go.Proofs.YthgmgkabnffniaaGreatDoor
open Go.RowKit Go.Sy
theorem Hq {W:Wd} {i:Nat} {s:bK} (h:(s.kind==0)=false):mG W i s=(W.kinds (i/16)==5&&fi s==0&&decide (s.base+s.len<=W.aj)&&(s.kind==1||W.kinds s.base.toNat==s.kind)&&(s.from_== -1||(dK W s.from_&&eG s (W.aa s.from_.toNat)&&!dK W (cH W s.from_ W.al)))):=by unfold mG;rw[h];rfl
theorem Uj {W:Wd} {u:Int}:(decide (u<0)||decide ((W.al:Int)<=u))=!dK W u:=by
  cases hq:dK W u with
  |true=>have:=mr.1 hq;rw[decide_eq_false (by omega),decide_eq_false (by omega)];rfl
  |false=>
   have: ¬(0<=u/\u<W.al):=λh=>by rw[mr.2 h]at hq;cases hq
   rcases Int.lt_or_le u 0 with h|h
   · rw[decide_eq_true h];rfl
   · rw[decide_eq_true (show(W.al:Int)<=u by omega)];simp
theorem XO (s:bK):dX s.kind s.base s.len s.mark s.cd s.bL=fi s:=rfl
end Go.Proofs.YthgmgkabnffniaaGreatDoor
set_option linter.unusedVariables false
set_option linter.unusedSimpArgs false
set_option maxRecDepth 100000
namespace Go.Proofs.YthgmgkabnffniaaGreatDoor
open Go.RowKit Go.Sy
theorem R6 (a:Nat):(((a:Nat):Int)==0)=(a==0):=by rw[Bool.eq_iff_iff];simp
theorem IL (a:Nat):(((a:Nat):Int)==1)=(a==1):=by rw[Bool.eq_iff_iff];simp;omega
theorem Qb {W:Wd} {f:Nat} (h:(W.kinds f !=6)=false):fv W f=(!jg (W.tasks f)&&!fT W (W.tasks f)&&gv W (W.tasks f)&&uv W (W.tasks f)&&sO W f&&oO W f):=by unfold fv;rw[h];rfl
theorem adp {t:aM} (h: ∀j,j<8->az (gQ [t.r0,t.r1,t.r2,t.r3,t.r4,t.r5,t.r6,t.r7] j) 65535=false):jg t=false:=by
  unfold jg
  have h0:az t.r0 65535=false:=h 0 (by omega)
  have J:az t.r1 65535=false:=h 1 (by omega)
  have h2:az t.r2 65535=false:=h 2 (by omega)
  have h3:az t.r3 65535=false:=h 3 (by omega)
  have h4:az t.r4 65535=false:=h 4 (by omega)
  have h5:az t.r5 65535=false:=h 5 (by omega)
  have h6:az t.r6 65535=false:=h 6 (by omega)
  have h7:az t.r7 65535=false:=h 7 (by omega)
  rw[h0,J,h2,h3,h4,h5,h6,h7];rfl
theorem adq {t:aM} (h:jg t=false): ∀j,j<8->az (gQ [t.r0,t.r1,t.r2,t.r3,t.r4,t.r5,t.r6,t.r7] j) 65535=false:=by
  unfold jg at h
  simp only[Bool.or_eq_false_iff]at h
  obtain⟨⟨⟨⟨⟨⟨⟨h0,J⟩,h2⟩,h3⟩,h4⟩,h5⟩,h6⟩,h7⟩:=h
  intro j hj
  have:j=0\/j=1\/j=2\/j=3\/j=4\/j=5\/j=6\/j=7:=by omega
  rcases this with rfl|rfl|rfl|rfl|rfl|rfl|rfl|rfl
  · exact h0
  · exact J
  · exact h2
  · exact h3
  · exact h4
  · exact h5
  · exact h6
  · exact h7
theorem ads {W:Wd} {f k:Int} (hk:k≠ -1) (h:okF W f k=true) (hf:(f != -1)=true):0<=f/\f<W.aj:=by
  unfold okF at h
  have:(f== -1)=false:=by revert hf;simp only[bne];cases f== -1<;>simp
  rw[this]at h
  have h:bH W f=k:=by simpa using h
  exact iO (by rw[h];exact hk)
theorem agS (n:Nat) (l:Nat->Int) (x:Int):cJ 1 (λ_=>n) (λ_=>l) x=cf n l x:=by show 0+cf n l x=cf n l x;omega
end Go.Proofs.YthgmgkabnffniaaGreatDoor
set_option linter.unusedVariables false
set_option linter.unusedSimpArgs false
set_option maxRecDepth 100000
namespace Go.Proofs.YthgmgkabnffniaaGreatDoor
open Go.RowKit Go.Sy
def agP (s:SV) (k:Int->cG):cG:=match s with| .v (.int _ x)=>k x|_=>k 0
end Go.Proofs.YthgmgkabnffniaaGreatDoor
set_option linter.unusedVariables false
set_option linter.unusedSimpArgs false
set_option maxRecDepth 100000
namespace Go.Proofs.YthgmgkabnffniaaGreatDoor
open Go.RowKit Go.Sy
def wE (W:Wd):Int:=(wm W).1
def wA (W:Wd):Int:=(wm W).2
structure Sm (W:Wd):Prop where
  af:W.ay<=1000
  kinds:W.aj<=100
  aa:W.al<=1000
  tasks:W.aP<=100
  lines:W.aW<=100
  bits:W.aN<=100
  ak:W.aC<=50
  ready:W.aS<=100
  aA:W.aQ<=50
  aB:W.aK<=50
  sm:p6 W
theorem wY {a b:Int} {c d:Nat} (h:a=b↔c=d):(a !=b)=(c !=d):=by rw[Bool.eq_iff_iff,bne_iff_ne,bne_iff_ne,ne_eq,ne_eq,h]
theorem YE (W:Wd):(decide ((W.aj:Int)<1)||decide ((24:Int)<(W.aj:Int))||decide ((W.aC:Int)<1)||decide ((4:Int)<(W.aC:Int))||(W.ay:Int) !=(W.aj:Int)*16||(W.al:Int) !=(W.aj:Int)*16||(W.aP:Int) !=(W.aj:Int)||(W.aW:Int) !=(W.aj:Int)||(W.aN:Int) !=(W.aj:Int)||(W.aS:Int) !=(W.aC:Int)*4||(W.aQ:Int) !=(W.aC:Int)||decide ((W.aK:Int)<1)||decide ((8:Int)<(W.aK:Int))||az W.time 1000000)=uH W:=by
  unfold uH
  rw[show decide ((W.aj:Int)<1)=decide (W.aj<1)from decide_eq_decide.2 (by omega),show decide ((24:Int)<(W.aj:Int))=decide (24<W.aj)from decide_eq_decide.2 (by omega),show decide ((W.aC:Int)<1)=decide (W.aC<1)from decide_eq_decide.2 (by omega),show decide ((4:Int)<(W.aC:Int))=decide (4<W.aC)from decide_eq_decide.2 (by omega),show decide ((W.aK:Int)<1)=decide (W.aK<1)from decide_eq_decide.2 (by omega),show decide ((8:Int)<(W.aK:Int))=decide (8<W.aK)from decide_eq_decide.2 (by omega),
   wY (a:=W.ay) (c:=W.ay) (d:=W.aj*16) (by omega),wY (a:=W.al) (c:=W.al) (d:=W.aj*16) (by omega),wY (a:=W.aP) (c:=W.aP) (d:=W.aj) (by omega),wY (a:=W.aW) (c:=W.aW) (d:=W.aj) (by omega),wY (a:=W.aN) (c:=W.aN) (d:=W.aj) (by omega),wY (a:=W.aS) (c:=W.aS) (d:=W.aC*4) (by omega),wY (a:=W.aQ) (c:=W.aQ) (d:=W.aC) (by omega)]
theorem abF (W:Wd) (s:Nat):(W.ak s != -1&&!fA W (W.ak s) s (-1))=!ft W s:=by unfold ft;simp only[bne,Bool.not_or]
def VE (W:Wd):Bool:=decide (1000<W.ay)||decide (100<W.aj)||decide (1000<W.al)||decide (100<W.aP)||decide (100<W.aW)||decide (100<W.aN)||decide (50<W.aC)||decide (100<W.aS)||decide (50<W.aQ)||decide (50<W.aK)||dY W.aW (λi=>decide (50<W.ai i))||dY W.aS (λi=>decide (50<W.aq i))||dY W.aQ (λi=>decide (50<W.aG i))
end Go.Proofs.YthgmgkabnffniaaGreatDoor
