/-
  Sy, the entry: what the data of a row's arguments stand for.
-/
import Derived.Test.YtmieeldmfehpoaaGreatDoorYH
import Derived.ChangeArms
import Derived.OpenShut
import Derived.DataReads
import Derived.WideShapes
import Derived.Test.YtmieeldmfehpoaaGreatDoorProg
import Derived.WalkKit
import Derived.LaidEql
import Derived.Stop.Asserts
import Derived.RowKitTokens
import Derived.Outline
import Derived.IntWalk
set_option linter.unusedVariables false
set_option linter.unusedSimpArgs false
set_option linter.unusedVariables false
set_option linter.unusedSimpArgs false
namespace Go.Sy
open Go.RowKit
def o0:Ow:=⟨λ_=>False,λ_=>False,λ_ _=>none,λ_=>(0,0)⟩
variable {H:Type}
def Fv:DataW H->Int| .lit (.int _ n)=>n|_=>0
def aac:DataW H->Bool| .lit (.bool b)=>b|_=>false
def Ai:DataW H->ByteArray| .lit (.string l)=>⟨l.toArray⟩|_=>ByteArray.empty
def tC:List (DataW H)->Nat->DataW H| [],_=> .nil|x::_,0=>x|_::r,n+1=>tC r n
def mj:DataW H->Nat->DataW H| .agg l,i=>tC l i|_,_=> .nil
def q_:DataW H->Nat| .slice l _=>l.length|_=>0
def zD:DataW H->Nat->DataW H| .slice l _,i=>tC l i|_,_=> .nil
def fieldAt (P:Program) (j:Nat):Nat->List Field->Option (Nat×Field)
  |_,[]=>none
  |k,f::r=>match Nat.ble f.offset j&&Nat.blt j (f.offset+P.cellsOf f.type)with|true=>some (k,f)|false=>fieldAt P j (k+1) r
def ja (P:Program):Nat->TypeId->DataW H->Nat->SV
  |0,_,_,_=> .aK
  |n+1,T,d,j=>
   match P.underlying T with
   |some (.int k)=>match j with|0=> .v (.int k (Fv d))|_=> .aK
   |some .bool=>match j with|0=> .v (.bool (aac d))|_=> .aK
   |some .string=>match j with|0=> .v (.string (Ai d))|_=> .aK
   |some (.slice E)=>match j with|0=> .sl true (P.cellsOf E) (q_ d) λa b=>ja P n E (zD d a) b|_=> .aK
   |some (.struct fs)=>match fieldAt P j 0 fs.toList with|some (k,f)=>ja P n f.type (mj d k) (j -f.offset)|none=> .aK
   |some (.array m E)=>match Nat.blt 0 (P.cellsOf E)&&Nat.blt (j/P.cellsOf E) m with|true=>ja P n E (mj d (j/P.cellsOf E)) (j%P.cellsOf E)|false=> .aK
   |_=> .aK
def Fw (P:Program) (T:TypeId) (d:DataW H):SV:=
  match P.underlying T with
  |some u=>match kT u with|true=> .ag (P.cellsOf T) (ja P 8 T d)|false=>ja P 8 T d 0
  |none=> .aK
def pK (P:Program):Nat->TypeId->DataW H->Prop
  |0,_,_=>True
  |n+1,T,d=>
   match P.underlying T with
   |some (.int k)=>k.wrap (Fv d)=Fv d
   |some .string=>((Ai d).size:Int)<=9223372036854775807
   |some (.slice E)=>(q_ d:Int)<=9223372036854775807/\ ∀i,i<q_ d->pK P n E (zD d i)
   |some (.struct fs)=>Fx (pK P n) d 0 fs.toList
   |some (.array m E)=> ∀i,i<m->pK P n E (mj d i)
   |_=>True
  where Fx (rec:TypeId->DataW H->Prop) (d:DataW H):Nat->List Field->Prop
  |_,[]=>True
  |k,f::r=>rec f.type (mj d k)/\Fx rec d (k+1) r
theorem xW: ∀{l:List (DataW H)} {i:Nat} {x:DataW H},l[i]? =some x->tC l i=x
  | [],_,_,h=>by simp at h
  |_::_,0,_,h=>by simpa [tC]using h
  |_::_,i+1,_,h=>by simp only[tC];exact xW (by simpa using h)
theorem GY {P:Program} {j:Nat}: ∀{l:List Field} {k k':Nat} {f:Field},fieldAt P j k l=some (k',f)->k<=k'/\l[k' -k]? =some f/\f.offset<=j/\j<f.offset+P.cellsOf f.type
  | [],_,_,_,h=>by simp[fieldAt]at h
  |g::r,k,k',f,h=>by
   unfold fieldAt at h
   split at h
   · next hb=>
     simp only[Option.some.injEq,Prod.mk.injEq]at h
     obtain⟨rfl,rfl⟩:=h
     simp only[Bool.and_eq_true,fw,Nat.ble_eq,decide_eq_true_eq]at hb
     exact⟨Nat.le_refl _,by simp,hb.1,hb.2⟩
   · obtain⟨J,U,h3⟩:=GY h
     refine⟨by omega,?_,h3⟩
     rw[show k' -k=(k' -(k+1))+1 by omega]
     simpa using U
theorem KE {rec:TypeId->DataW H->Prop} {d:DataW H}: ∀{l:List Field} {k:Nat},(∀i f,l[i]? =some f->rec f.type (mj d (k+i)))->pK.Fx rec d k l
  | [],_,_=>trivial
  |f::r,k,h=>⟨h 0 f rfl,KE λi f hf=>by have:=h (i+1) f (by simpa using hf);rwa [show k+(i+1)=k+1+i by omega]at this⟩
theorem Vw {k:IntKind} {n:Int} (h:(Lit.int k n).wf=true):k.wrap n=n:=by
  cases k<;>simp[Lit.wf,IntKind.min,IntKind.max,IntKind.signed,IntKind.bits]at h<;>simp[IntKind.wrap,IntKind.signed,IntKind.bits]<;>(try split)<;>omega
variable {P:Program} {w:World} {enc:TypeId×Value->H} {base:Nat} {spare:Nat->Bool} {held:Bool}
theorem pW: ∀(n fuel:Nat) {T:TypeId} {cs:List Value} {x:DataW H×List MemPlace},DataW.trod enc P w base spare held fuel T cs=some x->
    (∀j,j<cs.length-> ∃y,cs[j]? =some y/\Den w o0 (ja P n T x.1 j) y)/\pK P n T x.1
  |0,_,T,cs,x,h=>⟨λj hj=>⟨_,List.getElem?_eq_getElem hj,trivial⟩,trivial⟩
  |n+1,fuel,T,cs,x,h=>by
   have aK: ∀{s:Nat->SV},(∀j,s j= .aK)-> ∀j,j<cs.length-> ∃y,cs[j]? =some y/\Den w o0 (s j) y:=λhs j hj=>⟨_,List.getElem?_eq_getElem hj,by rw[hs];trivial⟩
   unfold ja pK
   cases hu:P.underlying T with
   |none=>exact⟨aK λ_=>rfl,trivial⟩
   |some u=>
    cases u with
    |int k=>
     obtain⟨z,rfl,rfl,hw⟩:=DataW.trod_int hu h
     refine⟨λj hj=>?_,Vw hw⟩
     obtain rfl:j=0:=by simp at hj;exact hj
     exact⟨_,rfl,rfl⟩
    |bool=>
     obtain⟨z,rfl,rfl⟩:=DataW.trod_bool hu h
     refine⟨λj hj=>?_,trivial⟩
     obtain rfl:j=0:=by simp at hj;exact hj
     exact⟨_,rfl,rfl⟩
    |string=>
     obtain⟨z,rfl,rfl,hz⟩:=DataW.trod_string hu h
     have e:Ai (.lit (.string z.data.toList):DataW H)=z:=by simp[Ai]
     refine⟨λj hj=>?_,by rw[e];unfold maxLen at hz;omega⟩
     obtain rfl:j=0:=by simp at hj;exact hj
     exact⟨_,rfl,by simp only[Den];rw[e]⟩
    |slice E=>
     rcases DataW.trod_slice hu h with⟨rfl,rfl⟩|⟨a,len,cap,elems,rest,m,rfl,rfl,rfl,J,U,h3,h4,h5,_,_⟩
     · refine⟨λj hj=>?_,by simp[q_],λi hi=>absurd hi (by simp[q_])⟩
       obtain rfl:j=0:=by simp at hj;exact hj
       exact⟨_,rfl,none,0,rfl,Nat.le_refl _,Nat.zero_le _,.inl rfl⟩
     · have hlen:q_ (.slice (elems.map (·.1)) (rest.map (·.1)):DataW H)=len:=by simp[q_,h4]
       have el: ∀i,i<len-> ∃y tT,elems[i]? =some y/\zD (.slice (elems.map (·.1)) (rest.map (·.1)):DataW H) i=y.1/\w.cells? base (a.add (i*P.cellsOf E)) (P.cellsOf E)=some tT/\DataW.trod enc P w base spare held m E tT=some y:=by
         intro i hi
         have h6:=h5 i hi
         rw[List.getElem?_eq_getElem (by omega)]at h6
         rw[Option.bind_eq_some_iff]at h6
         obtain⟨tT,h7,h8⟩:=h6
         exact⟨_,tT,List.getElem?_eq_getElem (by omega),xW (by rw[List.getElem?_map,List.getElem?_eq_getElem (by omega)];rfl),h7,h8⟩
       refine⟨λj hj=>?_,by rw[hlen];unfold maxLen at h3;omega,λi hi=>?_⟩
       · obtain rfl:j=0:=by simp at hj;exact hj
         refine⟨_,rfl,some a,cap,by rw[hlen],by rw[hlen];exact U,by rw[hlen];exact Nat.le_trans U h3,.inr ⟨a,rfl,λi hi q hq=>?_⟩⟩
         rw[hlen]at hi
         obtain⟨y,tT,h6,h7,h8,h9⟩:=el i hi
         obtain⟨g1,g2,g3⟩:=World.cells?_some h8
         obtain⟨z,dU,fm⟩:=(pW n m h9).1 q (by omega)
         refine⟨z,?_,⟨id,λ_=>id⟩,by
           show Den w o0.bare (ja P n E (zD (.slice (elems.map (·.1)) (rest.map (·.1))) i) q) z
           rw[h7];exact fm⟩
         have:=g3 q hq
         rw[add_add]at this
         rw[this];exact dU
       · rw[hlen]at hi
         obtain⟨y,tT,h6,h7,h8,h9⟩:=el i hi
         rw[h7];exact(pW n m h9).2
    |struct fs=>
     obtain⟨xs,m,rfl,rfl,hl,pJ,hf⟩:=DataW.trod_struct hu h
     have part: ∀i f,fs.toList[i]? =some f-> ∃y,mj (.agg (xs.map (·.1)):DataW H) i=y.1/\DataW.trod enc P w base spare held m f.type ((cs.drop f.offset).take (P.cellsOf f.type))=some y:=by
       intro i f hi
       have h6:=hf i f (by simpa using hi)
       have ai:i<xs.length:=by
         have:=(List.getElem?_eq_some_iff.1 hi).1
         simp at this;omega
       rw[List.getElem?_eq_getElem ai]at h6
       exact⟨_,xW (by rw[List.getElem?_map,List.getElem?_eq_getElem ai];rfl),h6⟩
     refine⟨λj hj=>?_,KE λi f hi=>?_⟩
     · show∃y,_/\Den w o0 (match fieldAt P j 0 fs.toList with|some (k,f)=>ja P n f.type (mj _ k) (j -f.offset)|none=> .aK) y
       cases hfa:fieldAt P j 0 fs.toList with
       |none=>exact⟨_,List.getElem?_eq_getElem hj,trivial⟩
       |some kf=>
        obtain⟨k,f⟩:=kf
        obtain⟨_,h7,h8,h9⟩:=GY hfa
        obtain⟨y,dU,fm⟩:=part k f (by simpa using h7)
        have hlen:((cs.drop f.offset).take (P.cellsOf f.type)).length=min (P.cellsOf f.type) (cs.length -f.offset):=by simp
        obtain⟨z,iK,jq⟩:=(pW n m fm).1 (j -f.offset) (by rw[hlen];omega)
        refine⟨z,?_,by show Den w o0 (ja P n f.type (mj (.agg (xs.map (·.1))) k) (j -f.offset)) z;rw[dU];exact jq⟩
        rw[List.getElem?_take_of_lt (by omega),List.getElem?_drop,show f.offset+(j -f.offset)=j by omega]at iK
        exact iK
     · rw[Nat.zero_add]
       obtain⟨y,dU,fm⟩:=part i f hi
       rw[dU];exact(pW n m fm).2
    |array q E=>
     obtain⟨xs,m,rfl,rfl,hl,pJ,hf⟩:=DataW.trod_array hu h
     have part: ∀i,i<q-> ∃y,mj (.agg (xs.map (·.1)):DataW H) i=y.1/\DataW.trod enc P w base spare held m E ((cs.drop (i*P.cellsOf E)).take (P.cellsOf E))=some y:=by
       intro i hi
       have h6:=hf i hi
       rw[List.getElem?_eq_getElem (by omega)]at h6
       exact⟨_,xW (by rw[List.getElem?_map,List.getElem?_eq_getElem (by omega)];rfl),h6⟩
     refine⟨λj hj=>?_,λi hi=>?_⟩
     · show∃y,_/\Den w o0 (match Nat.blt 0 (P.cellsOf E)&&Nat.blt (j/P.cellsOf E) q with|true=>ja P n E (mj _ (j/P.cellsOf E)) (j%P.cellsOf E)|false=> .aK) y
       cases hb:Nat.blt 0 (P.cellsOf E)&&Nat.blt (j/P.cellsOf E) q with
       |false=>exact⟨_,List.getElem?_eq_getElem hj,trivial⟩
       |true=>
        rw[Bool.and_eq_true,fw,fw,decide_eq_true_eq,decide_eq_true_eq]at hb
        obtain⟨hz,hb⟩:=hb
        obtain⟨y,dU,fm⟩:=part _ hb
        · have abH:=Nat.mod_lt j hz
          have Qy:=Nat.div_add_mod j (P.cellsOf E)
          rw[Nat.mul_comm]at Qy
          have hlen:((cs.drop ((j/P.cellsOf E)*P.cellsOf E)).take (P.cellsOf E)).length=min (P.cellsOf E) (cs.length -(j/P.cellsOf E)*P.cellsOf E):=by simp
          obtain⟨z,iK,jq⟩:=(pW n m fm).1 (j%P.cellsOf E) (by rw[hlen];omega)
          refine⟨z,?_,by show Den w o0 (ja P n E (mj (.agg (xs.map (·.1))) (j/P.cellsOf E)) (j%P.cellsOf E)) z;rw[dU];exact jq⟩
          rw[List.getElem?_take_of_lt (by omega),List.getElem?_drop,Qy]at iK
          exact iK
     · obtain⟨y,dU,fm⟩:=part i hi
       rw[dU];exact(pW n m fm).2
    |_=>exact⟨aK λ_=>rfl,trivial⟩
theorem TA {T:TypeId} {v:Value} {d:DataW H} {p:List MemPlace} {r:Reach} {b:Nat} (h:DataW.Trod enc P w base spare held T v d p) (hv:Value.okWide P w r b T v):Den w o0 (Fw P T d) v/\pK P 8 T d:=by
  obtain⟨fuel,h⟩:=h
  obtain⟨J,U⟩:=pW 8 fuel h
  refine⟨?_,U⟩
  have one:v.cells= #[v]->Den w o0 (ja P 8 T d 0) v:=λe=>by
    obtain⟨y,h3,h4⟩:=J 0 (by rw[e];simp)
    rw[e]at h3
    obtain rfl:v=y:=by simpa using h3
    exact h4
  unfold Fw
  cases hu:P.underlying T with
  |none=>trivial
  |some u=>
   have agg: ∀cs,v= .agg cs->cs.size=P.cellsOf T->Den w o0 (.ag (P.cellsOf T) (ja P 8 T d)) v:=by
     rintro cs rfl hs
     refine⟨cs,rfl,hs,λj hj=>?_⟩
     obtain⟨y,h3,h4⟩:=J j (by show j<cs.toList.length;simp;omega)
     have h3:cs.toList[j]? =some y:=h3
     exact⟨y,by simpa using h3,h4⟩
   have jk:ja P 8 T d 0= .aK->Den w o0 (ja P 8 T d 0) v:=λe=>by rw[e];trivial
   cases u with
   |struct fs=>
    unfold Value.okWide at hv;rw[hu]at hv
    obtain⟨cs,e,hs,_⟩:=hv
    exact agg cs e hs
   |array n E=>
    unfold Value.okWide at hv;rw[hu]at hv
    obtain⟨cs,e,hs,_⟩:=hv
    exact agg cs e hs
   |int k=>obtain⟨n,rfl⟩:=WideShapes.okWide_int hu hv;exact one rfl
   |bool=>obtain⟨n,rfl⟩:=WideShapes.okWide_bool hu hv;exact one rfl
   |string=>obtain⟨n,rfl⟩:=WideShapes.okWide_string hu hv;exact one rfl
   |slice E=>obtain⟨a,l,c,rfl⟩:=WideShapes.okWide_slice hu hv;exact one rfl
   |_=>exact jk (by unfold ja;rw[hu])
def zE (P:Program):List TypeId->List (DataW H)->List SV
  |t::ts,d::ds=>Fw P t d::zE P ts ds
  |_,_=> []
def Aj (P:Program):List TypeId->List (DataW H)->Prop
  |t::ts,d::ds=>pK P 8 t d/\Aj P ts ds
  |_,_=>True
theorem Ie {r:Reach} {b:Nat}: ∀{ts:List TypeId} {vs:List Value} {ds:List (DataW H)} {p:List MemPlace},DataW.TrodAll enc P w base spare held ts vs ds p->
    (∀(j:Nat) t v,ts[j]? =some t->vs[j]? =some v->Value.okWide P w r b t v)->bX w o0 (zE P ts ds) vs/\Aj P ts ds
  | [],[],[],_,_,_=>⟨trivial,trivial⟩
  |t::ts,v::vs,d::ds,_,⟨p,q,J,U,_⟩,hv=>by
   obtain⟨h3,h4⟩:=TA J (hv 0 t v rfl rfl)
   obtain⟨h5,h6⟩:=Ie U (λj t v h h'=>hv (j+1) t v (by simpa using h) (by simpa using h'))
   exact⟨⟨h3,h5⟩,h4,h6⟩
theorem aad (W:World):aR W o0 (di 0 []):=⟨(xG []).symm,λb ⟨k,p,L,h,_⟩=>(by cases h),λ_ h=>False.elim h,λ_ h=>False.elim h,λ_ h=>False.elim h,λ_ _ _ _ _ _ h=>(by cases h),λ_ _ _ h=>(by cases h),λ_ _ _ h=>(by cases h),λ_ _ h=>(by cases h),λ_ _ _ _=>rfl⟩
theorem TB {Gl:Nat->SV} {f:Nat} {c:aQ} (bC:aL P Gl f c) {ts:List TypeId} {vs:Array Value} {ds:List (DataW H)} {p:List MemPlace} {r:Reach} {b:Nat}
    (hc: ∀ds:List (DataW H),ds.length=ts.length->Aj P ts ds-> ∃pr,c.g (zE P ts ds) []=some (pr,.v (.bool true),[])/\pr)
    (hg: ∀g,Den w o0.bare (Gl g) (.pointer (some ⟨g,0,none⟩))) (h:DataW.TrodAll enc P w base spare held ts vs.toList ds p) (hl:ds.length=ts.length)
    (hv: ∀(j:Nat) t v,ts[j]? =some t->vs[j]? =some v->Value.okWide P w r b t v):
    Calls P f vs w λe W'=>e= .returned (.bool true)/\Below w.heap.size w W':=by
  obtain⟨J,U⟩:=Ie h (λj t v e e'=>hv j t v e (by simpa using e'))
  obtain⟨pr,h3,h4⟩:=hc ds hl U
  refine(bC.fn _ _ _ _ _ h3 h4 w o0 vs hg (aad w) J).mono ?_
  rintro e W' ⟨v,al,rfl,ha,_,hr,_⟩
  have hr:v= .bool true:=hr
  exact⟨by rw[hr],ha.os,ha.tape,ha.output,ha.size,λk hk=>ha.same k hk id⟩
theorem aL.up {Gl Gw:Nat->SV} {f:Nat} {c:aQ} (h:aL P Gw f c) (hu: ∀g,Gw g=Gl g\/Gw g= .aK):aL P Gl f c:=
  ⟨h.call,λargs mem pre res bf e hp w ω vs hG=>h.fn args mem pre res bf e hp w ω vs λg=>by
    rcases hu g with e|e
    · rw[e];exact hG g
    · rw[e];trivial,h.pj⟩
def Fy:Option (Prop×SV×List bh)->Prop
  |some (p,.v (.bool true),[])=>p
  |_=>False
theorem Sq {x:Option (Prop×SV×List bh)} (h:Fy x): ∃pr,x=some (pr,.v (.bool true),[])/\pr:=by
  unfold Fy at h
  split at h
  · exact⟨_,rfl,h⟩
  · exact h.elim
def Y0 (P:Program) (ts:List TypeId):Array Value:=(ts.map λt=>match P.info? t with|some i=>i.zero.getD undef|none=>undef).toArray
end Go.Sy
namespace Go.Proofs.YtmieeldmfehpoaaGreatDoor
open Go.RowKit Go.Extern.Stop Go.Stop Go.Extern
set_option linter.unusedVariables false
set_option linter.unusedSimpArgs false
/-! 79: *api.Fault · 81: **api.Fault · 35: api.Errno · 84: *api.Errno · 31: error · 147: reflectlite's rtype · 6: how many variables -/
theorem A.zR (t:Addr) (w:World):(ReflectliteValue.unpack (.iface 81 (.pointer (some t)))).run Tryz.prog w
    = .ok (.agg #[.pointer (some ⟨1,81,none⟩),.pointer (some ⟨w.heap.size,0,none⟩),.int .u64 150]) (w.alloc (.cells #[.pointer (some t)] 81)):=by kernel_rfl
theorem A.zS (t:Addr) (w:World):(ReflectliteValue.unpack (.iface 84 (.pointer (some t)))).run Tryz.prog w
    = .ok (.agg #[.pointer (some ⟨1,84,none⟩),.pointer (some ⟨w.heap.size,0,none⟩),.int .u64 150]) (w.alloc (.cells #[.pointer (some t)] 84)):=by kernel_rfl
theorem A.zT (a : Addr) (w : World) : (ReflectliteValue.methodAny (ReflectliteValue.valueError "reflectlite.Value.Type" 0) (fun t _ _ _ => ReflectliteType.toType t) #[.agg #[.pointer (some ⟨1, 81, none⟩), .pointer (some a), .int .u64 150]]).run Tryz.prog w
 = .ok (.iface 147 (.agg #[.pointer (some ⟨1,81,none⟩)])) w:=by kernel_rfl
theorem A.zU (a : Addr) (w : World) : (ReflectliteValue.methodAny (ReflectliteValue.valueError "reflectlite.Value.Type" 0) (fun t _ _ _ => ReflectliteType.toType t) #[.agg #[.pointer (some ⟨1, 84, none⟩), .pointer (some a), .int .u64 150]]).run Tryz.prog w
 = .ok (.iface 147 (.agg #[.pointer (some ⟨1,84,none⟩)])) w:=by kernel_rfl
theorem A.zN (h : Value) (w : World) : (Go.method 293 147 (.agg #[h]) "Kind").run Tryz.prog w = .ok (143, h) w := by kernel_rfl
theorem A.AF (w:World):((ReflectliteType.abiMethod λt=>(λa:Nat=>Value.int IntKind.u8 (a:Int))<$>Rtype.kind t) #[.pointer (some ⟨1,81,none⟩)]).run Tryz.prog w= .ok (.int .u8 22) w:=by kernel_rfl
theorem A.AG (w:World):((ReflectliteType.abiMethod λt=>(λa:Nat=>Value.int IntKind.u8 (a:Int))<$>Rtype.kind t) #[.pointer (some ⟨1,84,none⟩)]).run Tryz.prog w= .ok (.int .u8 22) w:=by kernel_rfl
theorem A.Bc (w:World):((ReflectliteType.abiMethod λt=>(λa:Nat=>Value.int IntKind.u8 (a:Int))<$>Rtype.kind t) #[.pointer (some ⟨1,79,none⟩)]).run Tryz.prog w= .ok (.int .u8 22) w:=by kernel_rfl
theorem A.Bd (w:World):((ReflectliteType.abiMethod λt=>(λa:Nat=>Value.int IntKind.u8 (a:Int))<$>Rtype.kind t) #[.pointer (some ⟨1,35,none⟩)]).run Tryz.prog w= .ok (.int .u8 2) w:=by kernel_rfl
theorem A.zO (h : Value) (w : World) : (Go.method 293 147 (.agg #[h]) "Elem").run Tryz.prog w = .ok (155, .agg #[h]) w := by kernel_rfl
theorem A.zP (h : Value) (w : World) : (Go.method 293 147 (.agg #[h]) "Implements").run Tryz.prog w = .ok (156, .agg #[h]) w := by kernel_rfl
theorem A.zQ (h : Value) (w : World) : (Go.method 293 147 (.agg #[h]) "AssignableTo").run Tryz.prog w = .ok (153, .agg #[h]) w := by kernel_rfl
theorem A.zV (w:World):(ReflectliteType.method ReflectliteType.elem #[.agg #[.pointer (some ⟨1,81,none⟩)]]).run Tryz.prog w= .ok (.iface 147 (.agg #[.pointer (some ⟨1,79,none⟩)])) w:=by kernel_rfl
theorem A.zW (w:World):(ReflectliteType.method ReflectliteType.elem #[.agg #[.pointer (some ⟨1,84,none⟩)]]).run Tryz.prog w= .ok (.iface 147 (.agg #[.pointer (some ⟨1,35,none⟩)])) w:=by kernel_rfl
theorem A.AH (w : World) : (ReflectliteType.relation "Implements" ReflectliteType.implements_ #[.agg #[.pointer (some ⟨1, 79, none⟩)], .iface 147 (.agg #[.pointer (some ⟨1, 31, none⟩)])]).run Tryz.prog w = .ok (.bool true) w := by kernel_rfl
theorem A.AI (w : World) : (ReflectliteType.relation "Implements" ReflectliteType.implements_ #[.agg #[.pointer (some ⟨1, 35, none⟩)], .iface 147 (.agg #[.pointer (some ⟨1, 31, none⟩)])]).run Tryz.prog w = .ok (.bool true) w := by kernel_rfl
theorem A.Ay (v:Value) (w:World):(ReflectliteType.typeOf #[.iface 79 v]).run Tryz.prog w= .ok (.iface 147 (.agg #[.pointer (some ⟨1,79,none⟩)])) w:=by kernel_rfl
theorem A.Az (v:Value) (w:World):(ReflectliteType.typeOf #[.iface 35 v]).run Tryz.prog w= .ok (.iface 147 (.agg #[.pointer (some ⟨1,35,none⟩)])) w:=by kernel_rfl
theorem A.AA (w : World) : (ReflectliteType.relation "AssignableTo" ReflectliteType.assignableTo #[.agg #[.pointer (some ⟨1, 79, none⟩)], .iface 147 (.agg #[.pointer (some ⟨1, 79, none⟩)])]).run Tryz.prog w = .ok (.bool true) w := by kernel_rfl
theorem A.AB (w : World) : (ReflectliteType.relation "AssignableTo" ReflectliteType.assignableTo #[.agg #[.pointer (some ⟨1, 35, none⟩)], .iface 147 (.agg #[.pointer (some ⟨1, 35, none⟩)])]).run Tryz.prog w = .ok (.bool true) w := by kernel_rfl
theorem A.zh (w : World) : (ReflectliteType.relation "AssignableTo" ReflectliteType.assignableTo #[.agg #[.pointer (some ⟨1, 79, none⟩)], .iface 147 (.agg #[.pointer (some ⟨1, 35, none⟩)])]).run Tryz.prog w = .ok (.bool false) w := by kernel_rfl
theorem A.zi (w : World) : (ReflectliteType.relation "AssignableTo" ReflectliteType.assignableTo #[.agg #[.pointer (some ⟨1, 35, none⟩)], .iface 147 (.agg #[.pointer (some ⟨1, 79, none⟩)])]).run Tryz.prog w = .ok (.bool false) w := by kernel_rfl
theorem A.AD (e:Addr) (w:World):(ReflectliteValue.unpack (.iface 79 (.pointer (some e)))).run Tryz.prog w
    = .ok (.agg #[.pointer (some ⟨1,79,none⟩),.pointer (some ⟨w.heap.size,0,none⟩),.int .u64 150]) (w.alloc (.cells #[.pointer (some e)] 79)):=by kernel_rfl
theorem A.AE (e:Int) (w:World):(ReflectliteValue.unpack (.iface 35 (.int .i64 e))).run Tryz.prog w
    = .ok (.agg #[.pointer (some ⟨1,35,none⟩),.pointer (some ⟨w.heap.size,0,none⟩),.int .u64 130]) (w.alloc (.cells #[.int .i64 e] 35)):=by kernel_rfl
theorem A.x_ (v:Value) (w:World):(Instr.typeAssert (.iface 35 v) 31 152 true).run Tryz.prog w= .ok (.tuple #[.nilIface,.bool false]) w:=run_typeAssert_lacksB Tryz.underlying152 (by kernel_rfl) (by kernel_rfl) v 31 w
theorem A.ya (v:Value) (w:World):(Instr.typeAssert (.iface 35 v) 31 155 true).run Tryz.prog w= .ok (.tuple #[.nilIface,.bool false]) w:=run_typeAssert_lacksB Tryz.underlying155 (by kernel_rfl) (by kernel_rfl) v 31 w
theorem A.yb (v:Value) (w:World):(Instr.typeAssert (.iface 35 v) 31 156 true).run Tryz.prog w= .ok (.tuple #[.nilIface,.bool false]) w:=run_typeAssert_lacksB Tryz.underlying156 (by kernel_rfl) (by kernel_rfl) v 31 w
theorem A.yc (v:Value) (w:World):(Instr.typeAssert (.iface 79 v) 31 152 true).run Tryz.prog w= .ok (.tuple #[.nilIface,.bool false]) w:=run_typeAssert_lacksB Tryz.underlying152 (by kernel_rfl) (by kernel_rfl) v 31 w
theorem A.yd (v:Value) (w:World):(Instr.typeAssert (.iface 79 v) 31 155 true).run Tryz.prog w= .ok (.tuple #[.iface 79 v,.bool true]) w:=run_typeAssert_hasB Tryz.underlying155 (by kernel_rfl) v 31 w
theorem A.yD (e : Addr) (w : World) : (Go.method 293 79 (.pointer (some e)) "Unwrap").run Tryz.prog w = .ok (148, .pointer (some e)) w := by kernel_rfl
end Go.Proofs.YtmieeldmfehpoaaGreatDoor
namespace Go.Proofs.YtmieeldmfehpoaaGreatDoor
open Go.RowKit Go.Extern.Stop Go.Stop Go.Extern
set_option linter.unusedVariables false
set_option linter.unusedSimpArgs false
theorem A.Be (z:Sem Value) (f:TypeId->Addr->Nat->Nat->Sem Value) (v:Value):
    ReflectliteValue.method z f #[v]=(do match<-ReflectliteValue.parts v with|none=>z|some (t,a,fl)=>f t a fl (fl%32)):=rfl
theorem A.QK (v x:Value):ReflectliteValue.set #[v,x]=(do
    let(some (dst,a,fl),some (src,b,_)):=(<-ReflectliteValue.parts v,<-ReflectliteValue.parts x)
      | unsupported (.noEntry "extern/(internal/reflectlite.Value).Set.zeroValue")
    if fl / ReflectliteValue.flagAddr % 2 == 0 then unsupported (.noEntry "extern/(internal/reflectlite.Value).Set.unaddressable")
    let val<-loadVar src b
    if<-Rtype.directlyAssignable dst src then storeVar dst a val
    else if<-Rtype.implements dst src then
      if(<-Rtype.kind src)==20 then
       match val with
       | .nilIface => unsupported (.noEntry "extern/reflectlite: a nil value of one interface type handed on as a value of another")
       |_=>storeVar dst a val
      else storeVar dst a (.iface src val)
    else panicString ("reflectlite.Set: value of type " ++ (← Rtype.spelt src) ++ " is not assignable to type " ++ (← Rtype.spelt dst))
    pure (.tuple #[])):=rfl
theorem A.Jw (a:Addr) (w:World):(ReflectliteValue.parts (.agg #[.pointer (some ⟨1,81,none⟩),.pointer (some a),.int .u64 150])).run Tryz.prog w= .ok (some (81,a,150)) w:=by kernel_rfl
theorem A.Jt (a p:Addr) (W:World) (ha:W.cell? a=some (.pointer (some p))):
    (ReflectliteValue.method (ReflectliteValue.valueError "reflectlite.Value.IsNil" 0) ReflectliteValue.isNil #[.agg #[.pointer (some ⟨1, 81, none⟩), .pointer (some a), .int .u64 150]]).run Tryz.prog W = .ok (.bool false) W := by
  rw[A.Be]
  simp only[Sem.run_bind,A.Jw,Result.andThen]
  simp[ReflectliteValue.isNil,loadVar,isAgg,underlying,Tryz.underlying81,ha,Result.andThen]
theorem A.SP (w:World):(Rtype.elem? 81).run Tryz.prog w= .ok (some 79) w:=by kernel_rfl
theorem A.aah (p:Addr) (w:World):(ReflectliteValue.mk 79 p ReflectliteValue.flagAddr).run Tryz.prog w= .ok (.agg #[.pointer (some ⟨1,79,none⟩),.pointer (some p),.int .u64 406]) w:=by kernel_rfl
theorem A.TY (a p:Addr) (W:World) (ha:W.cell? a=some (.pointer (some p))):
    (ReflectliteValue.method (ReflectliteValue.valueError "reflectlite.Value.Elem" 0) ReflectliteValue.elem #[.agg #[.pointer (some ⟨1, 81, none⟩), .pointer (some a), .int .u64 150]]).run Tryz.prog W
     = .ok (.agg #[.pointer (some ⟨1,79,none⟩),.pointer (some p),.int .u64 406]) W:=by
  rw[A.Be]
  simp only[Sem.run_bind,A.Jw,Result.andThen]
  simp[ReflectliteValue.elem,loadVar,isAgg,underlying,Tryz.underlying81,ha,Result.andThen,A.SP,A.aah]
theorem A.TZ (a:Addr) (w:World):(ReflectliteValue.parts (.agg #[.pointer (some ⟨1,79,none⟩),.pointer (some a),.int .u64 406])).run Tryz.prog w= .ok (some (79,a,406)) w:=by kernel_rfl
theorem A.V5 (a:Addr) (w:World):(ReflectliteValue.parts (.agg #[.pointer (some ⟨1,79,none⟩),.pointer (some a),.int .u64 150])).run Tryz.prog w= .ok (some (79,a,150)) w:=by kernel_rfl
theorem A.T5 (w:World):(Rtype.directlyAssignable 79 79).run Tryz.prog w= .ok true w:=by kernel_rfl
theorem A.Zw (ta b:Addr) (e:Addr) (jJ:Value) (W:World) (hb:W.cell? b=some (.pointer (some e))) (ht:W.cell? ta=some jJ) (hf:W.frozen? ta=false):
    (ReflectliteValue.set #[.agg #[.pointer (some ⟨1,79,none⟩),.pointer (some ta),.int .u64 406],.agg #[.pointer (some ⟨1,79,none⟩),.pointer (some b),.int .u64 150]]).run Tryz.prog W
      = .ok (.tuple #[]) (W.setCell ta (.pointer (some e))):=by
  rw[A.QK]
  simp only[Sem.run_bind,A.TZ,A.V5,Result.andThen]
  simp[ReflectliteValue.flagAddr,loadVar,isAgg,underlying,Tryz.underlying79,hb,Result.andThen,A.T5,storeVar,Value.cells,storeCells,Addr.add]
  rw[run_store Tryz.prog W ta _ _ (by rfl)]
  simp[ht,hf]
theorem A.Jx (a:Addr) (w:World):(ReflectliteValue.parts (.agg #[.pointer (some ⟨1,84,none⟩),.pointer (some a),.int .u64 150])).run Tryz.prog w= .ok (some (84,a,150)) w:=by kernel_rfl
theorem A.Ju (a p:Addr) (W:World) (ha:W.cell? a=some (.pointer (some p))):
    (ReflectliteValue.method (ReflectliteValue.valueError "reflectlite.Value.IsNil" 0) ReflectliteValue.isNil #[.agg #[.pointer (some ⟨1, 84, none⟩), .pointer (some a), .int .u64 150]]).run Tryz.prog W = .ok (.bool false) W := by
  rw[A.Be]
  simp only[Sem.run_bind,A.Jx,Result.andThen]
  simp[ReflectliteValue.isNil,loadVar,isAgg,underlying,Tryz.underlying84,ha,Result.andThen]
theorem A.SR (w:World):(Rtype.elem? 84).run Tryz.prog w= .ok (some 35) w:=by kernel_rfl
theorem A.aai (p:Addr) (w:World):(ReflectliteValue.mk 35 p ReflectliteValue.flagAddr).run Tryz.prog w= .ok (.agg #[.pointer (some ⟨1,35,none⟩),.pointer (some p),.int .u64 386]) w:=by kernel_rfl
theorem A.Jv (a p:Addr) (W:World) (ha:W.cell? a=some (.pointer (some p))):
    (ReflectliteValue.method (ReflectliteValue.valueError "reflectlite.Value.Elem" 0) ReflectliteValue.elem #[.agg #[.pointer (some ⟨1, 84, none⟩), .pointer (some a), .int .u64 150]]).run Tryz.prog W
     = .ok (.agg #[.pointer (some ⟨1,35,none⟩),.pointer (some p),.int .u64 386]) W:=by
  rw[A.Be]
  simp only[Sem.run_bind,A.Jx,Result.andThen]
  simp[ReflectliteValue.elem,loadVar,isAgg,underlying,Tryz.underlying84,ha,Result.andThen,A.SR,A.aai]
theorem A.T6 (a:Addr) (w:World):(ReflectliteValue.parts (.agg #[.pointer (some ⟨1,35,none⟩),.pointer (some a),.int .u64 386])).run Tryz.prog w= .ok (some (35,a,386)) w:=by kernel_rfl
theorem A.V6 (a:Addr) (w:World):(ReflectliteValue.parts (.agg #[.pointer (some ⟨1,35,none⟩),.pointer (some a),.int .u64 130])).run Tryz.prog w= .ok (some (35,a,130)) w:=by kernel_rfl
theorem A.T7 (w:World):(Rtype.directlyAssignable 35 35).run Tryz.prog w= .ok true w:=by kernel_rfl
theorem A.Pl (ta b:Addr) (e:Int) (jJ:Value) (W:World) (hb:W.cell? b=some (.int .i64 e)) (ht:W.cell? ta=some jJ) (hf:W.frozen? ta=false):
    (ReflectliteValue.set #[.agg #[.pointer (some ⟨1,35,none⟩),.pointer (some ta),.int .u64 386],.agg #[.pointer (some ⟨1,35,none⟩),.pointer (some b),.int .u64 130]]).run Tryz.prog W
      = .ok (.tuple #[]) (W.setCell ta (.int .i64 e)):=by
  rw[A.QK]
  simp only[Sem.run_bind,A.T6,A.V6,Result.andThen]
  simp[ReflectliteValue.flagAddr,loadVar,isAgg,underlying,Tryz.underlying35,hb,Result.andThen,A.T7,storeVar,Value.cells,storeCells,Addr.add]
  rw[run_store Tryz.prog W ta _ _ (by rfl)]
  simp[ht,hf]
theorem A.Al (args:Array Value) (w:World):(callFunc 95 args).run Tryz.prog w=(((λargs=>ReflectliteValue.unpack (args.getD 0 (.tuple #[]))) args).run Tryz.prog w).andThen λv w'=> .ok (.value v) w':= @run_callFunc_extern Tryz.prog 95 _ (λargs=>ReflectliteValue.unpack (args.getD 0 (.tuple #[]))) Tryz.func95 (by kernel_rfl) (by kernel_rfl) (by kernel_rfl) (by kernel_rfl) args w
theorem A.Am (args : Array Value) (w : World) : (callFunc 96 args).run Tryz.prog w = (((ReflectliteValue.methodAny (ReflectliteValue.valueError "reflectlite.Value.Type" 0) (fun t _ _ _ => ReflectliteType.toType t)) args).run Tryz.prog w).andThen fun v w' => .ok (.value v) w' := @run_callFunc_extern Tryz.prog 96 _ (ReflectliteValue.methodAny (ReflectliteValue.valueError "reflectlite.Value.Type" 0) (fun t _ _ _ => ReflectliteType.toType t)) Tryz.func96 (by kernel_rfl) (by kernel_rfl) (by kernel_rfl) (by kernel_rfl) args w
theorem A.Ao (args : Array Value) (w : World) : (callFunc 97 args).run Tryz.prog w = (((ReflectliteValue.method (ReflectliteValue.valueError "reflectlite.Value.IsNil" 0) ReflectliteValue.isNil) args).run Tryz.prog w).andThen fun v w' => .ok (.value v) w' := @run_callFunc_extern Tryz.prog 97 _ (ReflectliteValue.method (ReflectliteValue.valueError "reflectlite.Value.IsNil" 0) ReflectliteValue.isNil) Tryz.func97 (by kernel_rfl) (by kernel_rfl) (by kernel_rfl) (by kernel_rfl) args w
theorem A.Ap (args:Array Value) (w:World):(callFunc 143 args).run Tryz.prog w=(((ReflectliteType.abiMethod λt=>do pure (.int .u8 (<-Rtype.kind t))) args).run Tryz.prog w).andThen λv w'=> .ok (.value v) w':= @run_callFunc_extern Tryz.prog 143 _ (ReflectliteType.abiMethod λt=>do pure (.int .u8 (<-Rtype.kind t))) Tryz.func143 (by kernel_rfl) (by kernel_rfl) (by kernel_rfl) (by kernel_rfl) args w
theorem A.Aq (args:Array Value) (w:World):(callFunc 155 args).run Tryz.prog w=(((ReflectliteType.method ReflectliteType.elem) args).run Tryz.prog w).andThen λv w'=> .ok (.value v) w':= @run_callFunc_extern Tryz.prog 155 _ (ReflectliteType.method ReflectliteType.elem) Tryz.func155 (by kernel_rfl) (by kernel_rfl) (by kernel_rfl) (by kernel_rfl) args w
theorem A.Ar (args : Array Value) (w : World) : (callFunc 156 args).run Tryz.prog w = (((ReflectliteType.relation "Implements" ReflectliteType.implements_) args).run Tryz.prog w).andThen fun v w' => .ok (.value v) w' := @run_callFunc_extern Tryz.prog 156 _ (ReflectliteType.relation "Implements" ReflectliteType.implements_) Tryz.func156 (by kernel_rfl) (by kernel_rfl) (by kernel_rfl) (by kernel_rfl) args w
theorem A.Au (args:Array Value) (w:World):(callFunc 118 args).run Tryz.prog w=((ReflectliteType.typeOf args).run Tryz.prog w).andThen λv w'=> .ok (.value v) w':= @run_callFunc_extern Tryz.prog 118 _ ReflectliteType.typeOf Tryz.func118 (by kernel_rfl) (by kernel_rfl) (by kernel_rfl) (by kernel_rfl) args w
theorem A.Av (args : Array Value) (w : World) : (callFunc 153 args).run Tryz.prog w = (((ReflectliteType.relation "AssignableTo" ReflectliteType.assignableTo) args).run Tryz.prog w).andThen fun v w' => .ok (.value v) w' := @run_callFunc_extern Tryz.prog 153 _ (ReflectliteType.relation "AssignableTo" ReflectliteType.assignableTo) Tryz.func153 (by kernel_rfl) (by kernel_rfl) (by kernel_rfl) (by kernel_rfl) args w
theorem A.Aw (args : Array Value) (w : World) : (callFunc 119 args).run Tryz.prog w = (((ReflectliteValue.method (ReflectliteValue.valueError "reflectlite.Value.Elem" 0) ReflectliteValue.elem) args).run Tryz.prog w).andThen fun v w' => .ok (.value v) w' := @run_callFunc_extern Tryz.prog 119 _ (ReflectliteValue.method (ReflectliteValue.valueError "reflectlite.Value.Elem" 0) ReflectliteValue.elem) Tryz.func119 (by kernel_rfl) (by kernel_rfl) (by kernel_rfl) (by kernel_rfl) args w
theorem A.Ax (args:Array Value) (w:World):(callFunc 120 args).run Tryz.prog w=((ReflectliteValue.set args).run Tryz.prog w).andThen λv w'=> .ok (.value v) w':= @run_callFunc_extern Tryz.prog 120 _ ReflectliteValue.set Tryz.func120 (by kernel_rfl) (by kernel_rfl) (by kernel_rfl) (by kernel_rfl) args w
end Go.Proofs.YtmieeldmfehpoaaGreatDoor
namespace Go.Proofs.YtmieeldmfehpoaaGreatDoor
open Go.RowKit Go.Extern.Stop Go.Stop Go.Extern
set_option linter.unusedVariables false
set_option linter.unusedSimpArgs false
theorem A.fg {w:World} {a:Addr} {x:Value} (h:w.cell? a=some x):a.block<w.heap.size:=by
  rcases Nat.lt_or_ge a.block w.heap.size with h'|h'
  · exact h'
  · simp[World.cell?,Array.getElem?_eq_none h']at h
theorem A.XQ (e:Addr) (v:Value) (w:World) (h:w.cell? ⟨e.block,e.off+1,none⟩=some v):
    Calls Tryz.prog 148 #[.pointer (some e)] w λev w'=>ev= .returned v/\w'=w:=by
  go_enter Tryz.func148,Tryz.ntmps148
  go_wp2
  go_ret
  exact⟨rfl,rfl⟩
set_option maxHeartbeats 4000000 in
theorem A.aag (e:Addr) (t:Addr) (jJ:Value) (w:World) (hg:w.cell? ⟨0,0,none⟩=some (.iface 147 (.agg #[.pointer (some ⟨1,31,none⟩)]))) (nf:w.cell? t=some jJ) (ua:w.frozen? t=false):
    Calls Tryz.prog 46 #[.iface 79 (.pointer (some e)),.iface 81 (.pointer (some t))] w λev w'=>ev= .returned (.bool true)/\w'=(((((w.alloc (.cells #[.pointer (some t)] 81)).alloc (.cells #[.pointer (some ⟨1,81,none⟩),.pointer (some ⟨w.heap.size,0,none⟩),.int .u64 150] 121)).alloc (.cells #[.pointer (some ⟨1,81,none⟩),.pointer (some ⟨w.heap.size,0,none⟩),.int .u64 150] 121)).alloc (.cells #[.pointer (some e)] 79))).setCell t (.pointer (some e)):=by
  have EK:=A.Al
  have EL:=A.Am
  have EM:=A.Ao
  have EN:=A.Ap
  have EO:=A.Aq
  have EP:=A.Ar
  have ER:=A.Au
  have ES:=A.Av
  have ET:=A.Aw
  have EU:=A.Ax
  have D4:=A.zN
  have D5:=A.zO
  have D6:=A.zP
  have D7:=A.zQ
  have EV:=A.Ay
  have EW:=A.Az
  have EX:=A.AA
  have EY:=A.AB
  have C3:=A.zh
  have C4:=A.zi
  have EZ:=A.AD
  have E0:=A.AE
  have D8:=A.zR
  have D9:=A.zS
  have D_:=A.zT
  have D':=A.zU
  have E1:=A.AF
  have E2:=A.AG
  have FA:=A.Bc
  have FB:=A.Bd
  have Ea:=A.zV
  have Eb:=A.zW
  have E3:=A.AH
  have E4:=A.AI
  have BO:=A.x_
  have BP:=A.ya
  have BQ:=A.yb
  have BR:=A.yc
  have BS:=A.yd
  have Ch:=A.yD
  have n8:=A.Jt ⟨w.heap.size,0,none⟩ t ((w.alloc (.cells #[.pointer (some t)] 81)).alloc (.cells #[.pointer (some ⟨1,81,none⟩),.pointer (some ⟨w.heap.size,0,none⟩),.int .u64 150] 121)) (by simp)
  have ai:0<w.heap.size:=A.fg hg
  have oC:t.block<w.heap.size:=A.fg nf
  have mE:(((w.alloc (.cells #[.pointer (some t)] 81)).alloc (.cells #[.pointer (some ⟨1,81,none⟩),.pointer (some ⟨w.heap.size,0,none⟩),.int .u64 150] 121))).cell? ⟨0,0,none⟩=some (.iface 147 (.agg #[.pointer (some ⟨1,31,none⟩)])):=by
    rw[World.cell?_alloc_lt _ _ ⟨0,0,none⟩ (by simp<;>omega),World.cell?_alloc_lt _ _ ⟨0,0,none⟩ ai];exact hg
  have el:=A.TY ⟨w.heap.size,0,none⟩ t (((w.alloc (.cells #[.pointer (some t)] 81)).alloc (.cells #[.pointer (some ⟨1,81,none⟩),.pointer (some ⟨w.heap.size,0,none⟩),.int .u64 150] 121)).alloc (.cells #[.pointer (some ⟨1,81,none⟩),.pointer (some ⟨w.heap.size,0,none⟩),.int .u64 150] 121)) (by rw[World.cell?_alloc_lt _ _ ⟨w.heap.size,0,none⟩ (by simp<;>omega)];simp)
  have st:=A.Zw t ⟨w.heap.size+1+1+1,0,none⟩ e jJ ((((w.alloc (.cells #[.pointer (some t)] 81)).alloc (.cells #[.pointer (some ⟨1,81,none⟩),.pointer (some ⟨w.heap.size,0,none⟩),.int .u64 150] 121)).alloc (.cells #[.pointer (some ⟨1,81,none⟩),.pointer (some ⟨w.heap.size,0,none⟩),.int .u64 150] 121)).alloc (.cells #[.pointer (some e)] 79))
    (by rw[World.cell?_alloc_at _ _ _ _ (by simp)];rfl)
    (by rw[World.cell?_alloc_lt _ _ t (by simp<;>omega),World.cell?_alloc_lt _ _ t (by simp<;>omega),World.cell?_alloc_lt _ _ t (by simp<;>omega),World.cell?_alloc_lt _ _ t oC];exact nf)
    (by rw[World.frozen?_alloc_old _ _ t (by simp<;>omega),World.frozen?_alloc_old _ _ t (by simp<;>omega),World.frozen?_alloc_old _ _ t (by simp<;>omega),World.frozen?_alloc_old _ _ t (Nat.ne_of_lt oC)];exact ua)
  go_enter Tryz.func46,Tryz.ntmps46
  go_wp2
  refine wp_loop_rounds 1 ?_
  rw[rounds_succ]
  go_wp2
  go_ret
  exact⟨rfl,rfl⟩
set_option maxHeartbeats 4000000 in
theorem A.aaf (c:Int) (t:Addr) (jJ:Value) (w:World) (hg:w.cell? ⟨0,0,none⟩=some (.iface 147 (.agg #[.pointer (some ⟨1,31,none⟩)]))) (nf:w.cell? t=some jJ) (ua:w.frozen? t=false):
    Calls Tryz.prog 46 #[.iface 35 (.int .i64 c),.iface 84 (.pointer (some t))] w λev w'=>ev= .returned (.bool true)/\w'=(((((w.alloc (.cells #[.pointer (some t)] 84)).alloc (.cells #[.pointer (some ⟨1,84,none⟩),.pointer (some ⟨w.heap.size,0,none⟩),.int .u64 150] 121)).alloc (.cells #[.pointer (some ⟨1,84,none⟩),.pointer (some ⟨w.heap.size,0,none⟩),.int .u64 150] 121)).alloc (.cells #[.int .i64 c] 35))).setCell t (.int .i64 c):=by
  have EK:=A.Al
  have EL:=A.Am
  have EM:=A.Ao
  have EN:=A.Ap
  have EO:=A.Aq
  have EP:=A.Ar
  have ER:=A.Au
  have ES:=A.Av
  have ET:=A.Aw
  have EU:=A.Ax
  have D4:=A.zN
  have D5:=A.zO
  have D6:=A.zP
  have D7:=A.zQ
  have EV:=A.Ay
  have EW:=A.Az
  have EX:=A.AA
  have EY:=A.AB
  have C3:=A.zh
  have C4:=A.zi
  have EZ:=A.AD
  have E0:=A.AE
  have D8:=A.zR
  have D9:=A.zS
  have D_:=A.zT
  have D':=A.zU
  have E1:=A.AF
  have E2:=A.AG
  have FA:=A.Bc
  have FB:=A.Bd
  have Ea:=A.zV
  have Eb:=A.zW
  have E3:=A.AH
  have E4:=A.AI
  have BO:=A.x_
  have BP:=A.ya
  have BQ:=A.yb
  have BR:=A.yc
  have BS:=A.yd
  have Ch:=A.yD
  have n8:=A.Ju ⟨w.heap.size,0,none⟩ t ((w.alloc (.cells #[.pointer (some t)] 84)).alloc (.cells #[.pointer (some ⟨1,84,none⟩),.pointer (some ⟨w.heap.size,0,none⟩),.int .u64 150] 121)) (by simp)
  have ai:0<w.heap.size:=A.fg hg
  have oC:t.block<w.heap.size:=A.fg nf
  have mE:(((w.alloc (.cells #[.pointer (some t)] 84)).alloc (.cells #[.pointer (some ⟨1,84,none⟩),.pointer (some ⟨w.heap.size,0,none⟩),.int .u64 150] 121))).cell? ⟨0,0,none⟩=some (.iface 147 (.agg #[.pointer (some ⟨1,31,none⟩)])):=by
    rw[World.cell?_alloc_lt _ _ ⟨0,0,none⟩ (by simp<;>omega),World.cell?_alloc_lt _ _ ⟨0,0,none⟩ ai];exact hg
  have el:=A.Jv ⟨w.heap.size,0,none⟩ t (((w.alloc (.cells #[.pointer (some t)] 84)).alloc (.cells #[.pointer (some ⟨1,84,none⟩),.pointer (some ⟨w.heap.size,0,none⟩),.int .u64 150] 121)).alloc (.cells #[.pointer (some ⟨1,84,none⟩),.pointer (some ⟨w.heap.size,0,none⟩),.int .u64 150] 121)) (by rw[World.cell?_alloc_lt _ _ ⟨w.heap.size,0,none⟩ (by simp<;>omega)];simp)
  have st:=A.Pl t ⟨w.heap.size+1+1+1,0,none⟩ c jJ ((((w.alloc (.cells #[.pointer (some t)] 84)).alloc (.cells #[.pointer (some ⟨1,84,none⟩),.pointer (some ⟨w.heap.size,0,none⟩),.int .u64 150] 121)).alloc (.cells #[.pointer (some ⟨1,84,none⟩),.pointer (some ⟨w.heap.size,0,none⟩),.int .u64 150] 121)).alloc (.cells #[.int .i64 c] 35))
    (by rw[World.cell?_alloc_at _ _ _ _ (by simp)];rfl)
    (by rw[World.cell?_alloc_lt _ _ t (by simp<;>omega),World.cell?_alloc_lt _ _ t (by simp<;>omega),World.cell?_alloc_lt _ _ t (by simp<;>omega),World.cell?_alloc_lt _ _ t oC];exact nf)
    (by rw[World.frozen?_alloc_old _ _ t (by simp<;>omega),World.frozen?_alloc_old _ _ t (by simp<;>omega),World.frozen?_alloc_old _ _ t (by simp<;>omega),World.frozen?_alloc_old _ _ t (Nat.ne_of_lt oC)];exact ua)
  go_enter Tryz.func46,Tryz.ntmps46
  go_wp2
  refine wp_loop_rounds 1 ?_
  rw[rounds_succ]
  go_wp2
  go_ret
  exact⟨rfl,rfl⟩
end Go.Proofs.YtmieeldmfehpoaaGreatDoor
namespace Go.Proofs.YtmieeldmfehpoaaGreatDoor
open Go.RowKit Go.Extern.Stop Go.Stop Go.Extern
set_option linter.unusedVariables false
set_option linter.unusedSimpArgs false
set_option maxHeartbeats 4000000 in
theorem A.V4 (c:Int) (t:Addr) (jJ:Value) (w:World) (hg:w.cell? ⟨0,0,none⟩=some (.iface 147 (.agg #[.pointer (some ⟨1,31,none⟩)]))) (nf:w.cell? t=some jJ) (ua:w.frozen? t=false):
    Calls Tryz.prog 46 #[.iface 35 (.int .i64 c),.iface 81 (.pointer (some t))] w λev w'=>ev= .returned (.bool false)/\w'=(((w.alloc (.cells #[.pointer (some t)] 81)).alloc (.cells #[.pointer (some ⟨1,81,none⟩),.pointer (some ⟨w.heap.size,0,none⟩),.int .u64 150] 121)).alloc (.cells #[.pointer (some ⟨1,81,none⟩),.pointer (some ⟨w.heap.size,0,none⟩),.int .u64 150] 121)):=by
  have EK:=A.Al
  have EL:=A.Am
  have EM:=A.Ao
  have EN:=A.Ap
  have EO:=A.Aq
  have EP:=A.Ar
  have ER:=A.Au
  have ES:=A.Av
  have ET:=A.Aw
  have EU:=A.Ax
  have D4:=A.zN
  have D5:=A.zO
  have D6:=A.zP
  have D7:=A.zQ
  have EV:=A.Ay
  have EW:=A.Az
  have EX:=A.AA
  have EY:=A.AB
  have C3:=A.zh
  have C4:=A.zi
  have EZ:=A.AD
  have E0:=A.AE
  have D8:=A.zR
  have D9:=A.zS
  have D_:=A.zT
  have D':=A.zU
  have E1:=A.AF
  have E2:=A.AG
  have FA:=A.Bc
  have FB:=A.Bd
  have Ea:=A.zV
  have Eb:=A.zW
  have E3:=A.AH
  have E4:=A.AI
  have BO:=A.x_
  have BP:=A.ya
  have BQ:=A.yb
  have BR:=A.yc
  have BS:=A.yd
  have Ch:=A.yD
  have n8:=A.Jt ⟨w.heap.size,0,none⟩ t ((w.alloc (.cells #[.pointer (some t)] 81)).alloc (.cells #[.pointer (some ⟨1,81,none⟩),.pointer (some ⟨w.heap.size,0,none⟩),.int .u64 150] 121)) (by simp)
  have ai:0<w.heap.size:=A.fg hg
  have oC:t.block<w.heap.size:=A.fg nf
  have mE:(((w.alloc (.cells #[.pointer (some t)] 81)).alloc (.cells #[.pointer (some ⟨1,81,none⟩),.pointer (some ⟨w.heap.size,0,none⟩),.int .u64 150] 121))).cell? ⟨0,0,none⟩=some (.iface 147 (.agg #[.pointer (some ⟨1,31,none⟩)])):=by
    rw[World.cell?_alloc_lt _ _ ⟨0,0,none⟩ (by simp<;>omega),World.cell?_alloc_lt _ _ ⟨0,0,none⟩ ai];exact hg
  go_enter Tryz.func46,Tryz.ntmps46
  go_wp2
  refine wp_loop_rounds 1 ?_
  rw[rounds_succ]
  go_wp2
  go_ret
  exact⟨rfl,rfl⟩
end Go.Proofs.YtmieeldmfehpoaaGreatDoor
namespace Go.Proofs.YtmieeldmfehpoaaGreatDoor
open Go.RowKit Go.Extern.Stop Go.Stop Go.Extern
set_option linter.unusedVariables false
set_option linter.unusedSimpArgs false
set_option maxHeartbeats 4000000 in
theorem A.Zv (e:Addr) (c:Int) (t:Addr) (jJ:Value) (w:World) (hg:w.cell? ⟨0,0,none⟩=some (.iface 147 (.agg #[.pointer (some ⟨1,31,none⟩)]))) (nf:w.cell? t=some jJ) (ua:w.frozen? t=false) (hu:w.cell? ⟨e.block,e.off+1,none⟩=some (.iface 35 (.int .i64 c))):
    Calls Tryz.prog 46 #[.iface 79 (.pointer (some e)),.iface 84 (.pointer (some t))] w λev w'=>ev= .returned (.bool true)/\w'=(((((w.alloc (.cells #[.pointer (some t)] 84)).alloc (.cells #[.pointer (some ⟨1,84,none⟩),.pointer (some ⟨w.heap.size,0,none⟩),.int .u64 150] 121)).alloc (.cells #[.pointer (some ⟨1,84,none⟩),.pointer (some ⟨w.heap.size,0,none⟩),.int .u64 150] 121)).alloc (.cells #[.int .i64 c] 35))).setCell t (.int .i64 c):=by
  have EK:=A.Al
  have EL:=A.Am
  have EM:=A.Ao
  have EN:=A.Ap
  have EO:=A.Aq
  have EP:=A.Ar
  have ER:=A.Au
  have ES:=A.Av
  have ET:=A.Aw
  have EU:=A.Ax
  have D4:=A.zN
  have D5:=A.zO
  have D6:=A.zP
  have D7:=A.zQ
  have EV:=A.Ay
  have EW:=A.Az
  have EX:=A.AA
  have EY:=A.AB
  have C3:=A.zh
  have C4:=A.zi
  have EZ:=A.AD
  have E0:=A.AE
  have D8:=A.zR
  have D9:=A.zS
  have D_:=A.zT
  have D':=A.zU
  have E1:=A.AF
  have E2:=A.AG
  have FA:=A.Bc
  have FB:=A.Bd
  have Ea:=A.zV
  have Eb:=A.zW
  have E3:=A.AH
  have E4:=A.AI
  have BO:=A.x_
  have BP:=A.ya
  have BQ:=A.yb
  have BR:=A.yc
  have BS:=A.yd
  have Ch:=A.yD
  have n8:=A.Ju ⟨w.heap.size,0,none⟩ t ((w.alloc (.cells #[.pointer (some t)] 84)).alloc (.cells #[.pointer (some ⟨1,84,none⟩),.pointer (some ⟨w.heap.size,0,none⟩),.int .u64 150] 121)) (by simp)
  have ai:0<w.heap.size:=A.fg hg
  have oC:t.block<w.heap.size:=A.fg nf
  have mE:(((w.alloc (.cells #[.pointer (some t)] 84)).alloc (.cells #[.pointer (some ⟨1,84,none⟩),.pointer (some ⟨w.heap.size,0,none⟩),.int .u64 150] 121))).cell? ⟨0,0,none⟩=some (.iface 147 (.agg #[.pointer (some ⟨1,31,none⟩)])):=by
    rw[World.cell?_alloc_lt _ _ ⟨0,0,none⟩ (by simp<;>omega),World.cell?_alloc_lt _ _ ⟨0,0,none⟩ ai];exact hg
  have el:=A.Jv ⟨w.heap.size,0,none⟩ t (((w.alloc (.cells #[.pointer (some t)] 84)).alloc (.cells #[.pointer (some ⟨1,84,none⟩),.pointer (some ⟨w.heap.size,0,none⟩),.int .u64 150] 121)).alloc (.cells #[.pointer (some ⟨1,84,none⟩),.pointer (some ⟨w.heap.size,0,none⟩),.int .u64 150] 121)) (by rw[World.cell?_alloc_lt _ _ ⟨w.heap.size,0,none⟩ (by simp<;>omega)];simp)
  have st:=A.Pl t ⟨w.heap.size+1+1+1,0,none⟩ c jJ ((((w.alloc (.cells #[.pointer (some t)] 84)).alloc (.cells #[.pointer (some ⟨1,84,none⟩),.pointer (some ⟨w.heap.size,0,none⟩),.int .u64 150] 121)).alloc (.cells #[.pointer (some ⟨1,84,none⟩),.pointer (some ⟨w.heap.size,0,none⟩),.int .u64 150] 121)).alloc (.cells #[.int .i64 c] 35))
    (by rw[World.cell?_alloc_at _ _ _ _ (by simp)];rfl)
    (by rw[World.cell?_alloc_lt _ _ t (by simp<;>omega),World.cell?_alloc_lt _ _ t (by simp<;>omega),World.cell?_alloc_lt _ _ t (by simp<;>omega),World.cell?_alloc_lt _ _ t oC];exact nf)
    (by rw[World.frozen?_alloc_old _ _ t (by simp<;>omega),World.frozen?_alloc_old _ _ t (by simp<;>omega),World.frozen?_alloc_old _ _ t (by simp<;>omega),World.frozen?_alloc_old _ _ t (Nat.ne_of_lt oC)];exact ua)
  have aaj:=A.fg hu
  have Bb:e.block<w.heap.size:=aaj
  have hu3:((((w.alloc (.cells #[.pointer (some t)] 84)).alloc (.cells #[.pointer (some ⟨1,84,none⟩),.pointer (some ⟨w.heap.size,0,none⟩),.int .u64 150] 121)).alloc (.cells #[.pointer (some ⟨1,84,none⟩),.pointer (some ⟨w.heap.size,0,none⟩),.int .u64 150] 121))).cell? ⟨e.block,e.off+1,none⟩=some (.iface 35 (.int .i64 c)):=by
    rw[World.cell?_alloc_lt _ _ _ (by simp<;>omega),World.cell?_alloc_lt _ _ _ (by simp<;>omega),World.cell?_alloc_lt _ _ ⟨e.block,e.off+1,none⟩ Bb];exact hu
  go_enter Tryz.func46,Tryz.ntmps46
  go_wp2
  refine wp_loop_rounds 2 ?_
  rw[rounds_succ]
  go_wp2_with (go_at_call 148;refine(A.XQ e _ _ hu3).mono ?_;rintro e' w' ⟨rfl,rfl⟩)
  rw[rounds_succ]
  go_wp2
  go_ret
  exact⟨rfl,rfl⟩
end Go.Proofs.YtmieeldmfehpoaaGreatDoor
namespace Go.Proofs.YtmieeldmfehpoaaGreatDoor
open Go.RowKit
set_option linter.unusedVariables false
set_option linter.unusedSimpArgs false
structure A.Set (w:World) (t:Addr) (v:Value) (w':World):Prop where
  at_:w'.cell? t=some v
  free:w'.frozen? t=w.frozen? t
  size:w.heap.size<=w'.heap.size
  rest: ∀a:Addr,a.block<w.heap.size->a.block≠t.block->w'.cell? a=w.cell? a/\w'.frozen? a=w.frozen? a
  below: ∀B,B<=t.block->B<=w.heap.size->Below B w w'
theorem A.D3 {w:World} {t:Addr} {v jJ:Value} {o1 o2 o3 o4:Obj} (h:w.cell? t=some jJ):A.Set w t v (((((w.alloc o1).alloc o2).alloc o3).alloc o4).setCell t v):=by
  have ai:=A.fg h
  have s1:(w.alloc o1).heap.size=w.heap.size+1:=by simp
  have s2:((w.alloc o1).alloc o2).heap.size=w.heap.size+1+1:=by simp
  have s3:(((w.alloc o1).alloc o2).alloc o3).heap.size=w.heap.size+1+1+1:=by simp
  have hb: ∀B,B<=w.heap.size->Below B w ((((w.alloc o1).alloc o2).alloc o3).alloc o4):=λB hB=>
    ((((Below.refl B w).alloc (by omega) o1).alloc (by omega) o2).alloc (by omega) o3).alloc (by omega) o4
  have hc: ∀a:Addr,a.block<w.heap.size->((((w.alloc o1).alloc o2).alloc o3).alloc o4).cell? a=w.cell? a:=λa ha=>(hb _ (Nat.le_refl _)).cell ha
  have hf: ∀a:Addr,a.block<w.heap.size->((((w.alloc o1).alloc o2).alloc o3).alloc o4).frozen? a=w.frozen? a:=λa ha=>(hb _ (Nat.le_refl _)).frozen ha
  refine⟨?_,?_,?_,?_,?_⟩
  · exact World.cell?_setCell_same _ _ _ (by rw[hc t ai,h])
  · rw[World.frozen?_setCell,hf t ai]
  · simp;omega
  · intro a ha cf
    exact⟨by rw[World.cell?_setCell_other _ _ _ _ (λe=>cf (by rw[e])),hc a ha],by rw[World.frozen?_setCell,hf a ha]⟩
  · intro B J U
    exact(hb B U).setCell J v
structure A.Left (w:World) (w':World):Prop where
  size:w.heap.size<=w'.heap.size
  rest: ∀a:Addr,a.block<w.heap.size->w'.cell? a=w.cell? a/\w'.frozen? a=w.frozen? a
  below: ∀B,B<=w.heap.size->Below B w w'
theorem A.V3 {w:World} {o1 o2 o3:Obj}:A.Left w (((w.alloc o1).alloc o2).alloc o3):=by
  have s1:(w.alloc o1).heap.size=w.heap.size+1:=by simp
  have s2:((w.alloc o1).alloc o2).heap.size=w.heap.size+1+1:=by simp
  have hb: ∀B,B<=w.heap.size->Below B w (((w.alloc o1).alloc o2).alloc o3):=λB hB=>
    (((Below.refl B w).alloc (by omega) o1).alloc (by omega) o2).alloc (by omega) o3
  exact⟨by simp<;>omega,λa ha=>⟨(hb _ (Nat.le_refl _)).cell ha,(hb _ (Nat.le_refl _)).frozen ha⟩,hb⟩
def A.kA:Value:= .iface 147 (.agg #[.pointer (some ⟨1,31,none⟩)])
theorem A.TX (w:World):Calls Tryz.prog 29 #[.nilIface] w λev w'=>ev= .returned (.tuple #[.int .i64 0,.int .i64 (-1)])/\w'=w:=by
  go_enter Tryz.func29,Tryz.ntmps29
  go_wp2
  go_ret2
  exact⟨rfl,rfl⟩
set_option maxHeartbeats 400000 in
set_option maxRecDepth 100000 in
theorem A.XO (c:Int) (w:World) (hg:w.cell? ⟨0,0,none⟩=some A.kA):
    Calls Tryz.prog 29 #[.iface 35 (.int .i64 c)] w λev w'=>ev= .returned (.tuple #[.int .i64 c,.int .i64 (-1)])/\Below w.heap.size w w':=by
  have ai:0<w.heap.size:=A.fg hg
  have xg:(w.alloc (.cells #[.pointer none] 79)).cell? ⟨0,0,none⟩=some A.kA:=by rw[World.cell?_alloc_lt _ _ ⟨0,0,none⟩ ai];exact hg
  go_enter Tryz.func29,Tryz.ntmps29
  go_wp2_with (go_at_call 46;first
    |(have l1':=l1;refine(A.aaf c ⟨w1.heap.size,0,none⟩ (.int .i64 0) _ mE (by simp) (by simp)).mono ?_;rintro e' w2 ⟨rfl,U⟩;have l2:A.Set _ ⟨w1.heap.size,0,none⟩ (.int .i64 c) w2:=U▸A.D3 (by simp;rfl);clear U;have l2a:=l2.at_)
    |(refine(A.V4 c ⟨w.heap.size,0,none⟩ (.pointer none) _ xg (by simp) (by simp)).mono ?_;rintro e' w1 ⟨rfl,J⟩;have l1:A.Left _ w1:=J▸A.V3;clear J;have GL:=l1.size;simp at GL;have mE:(w1.alloc (.cells #[.int .i64 0] 35)).cell? ⟨0,0,none⟩=some A.kA:=(by rw[World.cell?_alloc_lt _ _ ⟨0,0,none⟩ (by show 0<w1.heap.size;omega),(l1.rest ⟨0,0,none⟩ (by simp<;>omega)).1];exact xg)))
  go_ret2
  refine⟨rfl,?_⟩
  exact(((Below.refl _ w).alloc (Nat.le_refl _) _).trans (l1.below _ (by simp))).trans (((Below.refl _ w1).alloc (by omega) _).trans (l2.below _ (by simp<;>omega) (by simp<;>omega)))
set_option maxHeartbeats 400000 in
set_option maxRecDepth 100000 in
theorem A.XP (e:Addr) (a c:Int) (w:World) (hg:w.cell? ⟨0,0,none⟩=some A.kA) (h0:w.cell? e=some (.int .i64 a)) (hu:w.cell? ⟨e.block,e.off+1,none⟩=some (.iface 35 (.int .i64 c))):
    Calls Tryz.prog 29 #[.iface 79 (.pointer (some e))] w λev w'=>ev= .returned (.tuple #[.int .i64 c,.int .i64 a])/\Below w.heap.size w w':=by
  have ai:0<w.heap.size:=A.fg hg
  have Bb:e.block<w.heap.size:=A.fg h0
  have xg:(w.alloc (.cells #[.pointer none] 79)).cell? ⟨0,0,none⟩=some A.kA:=by rw[World.cell?_alloc_lt _ _ ⟨0,0,none⟩ ai];exact hg
  go_enter Tryz.func29,Tryz.ntmps29
  go_wp2_with (go_at_call 46;first
    |(have l1':=l1;refine(A.Zv e c ⟨w1.heap.size,0,none⟩ (.int .i64 0) _ mE (by simp) (by simp) hu2).mono ?_;rintro e' w2 ⟨rfl,U⟩;have l2:A.Set _ ⟨w1.heap.size,0,none⟩ (.int .i64 c) w2:=U▸A.D3 (by simp;rfl);clear U;have l2a:=l2.at_)
    |(refine(A.aag e ⟨w.heap.size,0,none⟩ (.pointer none) _ xg (by simp) (by simp)).mono ?_;rintro e' w1 ⟨rfl,J⟩;have l1:A.Set _ ⟨w.heap.size,0,none⟩ (.pointer (some e)) w1:=J▸A.D3 (by simp;rfl);clear J;have GL:=l1.size;simp at GL;have l1a:=l1.at_
      have mE:(w1.alloc (.cells #[.int .i64 0] 35)).cell? ⟨0,0,none⟩=some A.kA:=(by rw[World.cell?_alloc_lt _ _ ⟨0,0,none⟩ (by show 0<w1.heap.size;omega),(l1.rest ⟨0,0,none⟩ (by simp<;>omega) (by show 0≠w.heap.size;omega)).1];exact xg)
      have hu2:(w1.alloc (.cells #[.int .i64 0] 35)).cell? ⟨e.block,e.off+1,none⟩=some (.iface 35 (.int .i64 c)):=(by rw[World.cell?_alloc_lt _ _ ⟨e.block,e.off+1,none⟩ (by show e.block<w1.heap.size;omega),(l1.rest ⟨e.block,e.off+1,none⟩ (by simp<;>omega) (by show e.block≠w.heap.size;omega)).1,World.cell?_alloc_lt _ _ ⟨e.block,e.off+1,none⟩ Bb];exact hu)
      have h01:w1.cell? e=some (.int .i64 a):=(by rw[(l1.rest e (by simp<;>omega) (by show e.block≠w.heap.size;omega)).1,World.cell?_alloc_lt _ _ e Bb];exact h0)))
  go_ret2
  refine⟨rfl,?_⟩
  exact(((Below.refl _ w).alloc (Nat.le_refl _) _).trans (l1.below _ (Nat.le_refl _) (by simp))).trans (((Below.refl _ w1).alloc (by omega) _).trans (l2.below _ (by simp<;>omega) (by simp<;>omega)))
end Go.Proofs.YtmieeldmfehpoaaGreatDoor
namespace Go.Sy
open Go.RowKit
theorem ed.TW {P:Program} {Gl:Nat->SV} {f:Nat} {args:List SV} {res:SV}
    (h: ∀(w:World) (ω:Ow) (vs:Array Value),(∀g,Den w ω.bare (Gl g) (.pointer (some ⟨g,0,none⟩)))->bX w ω args vs.toList->Calls P f vs w λe w'=> ∃v,e= .returned v/\Below w.heap.size w w'/\Den w' ω res v):ed P Gl f args [] res []:=by
  intro w ω vs hG hm hd
  refine(h w ω vs hG hd).mono ?_
  rintro e w' ⟨v,rfl,hb,hr⟩
  have hc:Cw w w':=⟨hb.os,hb.tape,hb.output,hb.size,hb.block⟩
  exact⟨v,ω,rfl,⟨hb.os,hb.tape,hb.output,λb dQ _=>hb.block b dQ,λ_ _ h=>h,λ_ h=>h,hb.size⟩,hm.more hc,hr,λk l hk=>by simp at hk⟩
end Go.Sy
namespace Go.Proofs.YtmieeldmfehpoaaGreatDoor
open Go.RowKit Go.Sy
structure XM where
  e:Int
  a:Int
def XN:Sy.Spec where
  X:=XM
  args x:= [.er 35 79 x.e x.a]
  mem _:= []
  pre _:=True
  res x:= .tp 2 (aH [.v (.int .i64 x.e),.v (.int .i64 x.a)])
  bf _:= []
  dec args mem:=match args with| [a0]=>some ⟨P7 a0,P8 a0⟩|_=>none
def NB:aQ:=⟨[],XN.g,none⟩
theorem V2 {Gl:Nat->SV} (hG:Gl 0= .pt false 1 λ_=> .v A.kA) (e a:Int):ed Tryz.prog Gl 29 [.er 35 79 e a] [] (.tp 2 (aH [.v (.int .i64 e),.v (.int .i64 a)])) []:=by
  refine ed.TW λw B vs hg hd=>?_
  obtain⟨u,rfl⟩: ∃u,vs= #[u]:=by
    have:=hd.len
    match vs,this with
    |⟨[u]⟩,_=>exact⟨u,rfl⟩
  have U:=hg 0
  rw[hG]at U
  obtain⟨p,hp,hj⟩:=U
  obtain⟨x,hc,hf,hx⟩:=hj 0 (by omega)
  cases hp
  obtain rfl:=hx
  have mE:w.cell? ⟨0,0,none⟩=some A.kA:=hc
  have hr: ∀w',Den w' B (.tp 2 (aH [.v (.int .i64 e),.v (.int .i64 a)])) (.tuple #[.int .i64 e,.int .i64 a]):=λw'=>⟨_,rfl,rfl,λj hj=>match j,hj with
    |0,_=>⟨_,rfl,rfl⟩
    |1,_=>⟨_,rfl,rfl⟩⟩
  rcases hd.1 with⟨rfl,rfl,h⟩|⟨_,rfl,h⟩|⟨_,h0,q,h,hf,_,c0,c1⟩
  · rw[h]
    refine(A.TX w).mono ?_
    rintro ev w' ⟨rfl,rfl⟩
    exact⟨_,rfl,Below.refl _ _,hr _⟩
  · rw[h]
    refine(A.XO e w mE).mono ?_
    rintro ev w' ⟨rfl,hb⟩
    exact⟨_,rfl,hb,hr _⟩
  · rw[h]
    have c0:w.cell? q=some (.int .i64 a):=c0
    have c1:w.cell? ⟨q.block,q.off+1,none⟩=some (.iface 35 (.int .i64 e)):=c1
    refine(A.XP q a e w mE c0 c1).mono ?_
    rintro ev w' ⟨rfl,hb⟩
    exact⟨_,rfl,hb,hr _⟩
theorem XL {Gl:Nat->SV} (hG:Gl 0= .pt false 1 λ_=> .v A.kA):aL Tryz.prog Gl 29 NB:=p6 (λl w=>Tryz.call29 l w) λx _=>V2 hG x.e x.a
end Go.Proofs.YtmieeldmfehpoaaGreatDoor
namespace Go.Proofs.YtmieeldmfehpoaaGreatDoor
open Go.RowKit Go.Sy
def aB (v m:Int):Bool:=decide (v<0)||decide (m<v)
def aO:Nat->SV:=λ_=> .aK
def ia:Nat->SV
  |0=> .pt false 1 λ_=> .v A.kA
  |_=> .aK
theorem ft: ∀g,aO g=ia g\/aO g= .aK:=λ_=> .inr rfl
theorem V1:aL Tryz.prog ia 29 NB:=XL rfl
end Go.Proofs.YtmieeldmfehpoaaGreatDoor
set_option linter.unusedVariables false
set_option linter.unusedSimpArgs false
set_option maxRecDepth 100000
namespace Go.Proofs.YtmieeldmfehpoaaGreatDoor
open Go.RowKit Go.Sy
structure Pg where
  (v m:Int)
def Zr:Sy.Spec:=⟨Pg,λ⟨v,m⟩=> [.v (.int .i64 v),.v (.int .i64 m)],λ_=> [],λ_=>True,λ⟨v,m⟩=> .v (.bool (aB v m)),λ_=> [],
  λargs mem=>match args with| [a0,a1]=>some ⟨av (a0),av (a1)⟩|_=>none⟩
def Zs:aQ:=⟨[],(Zr).g,none⟩
def Ph:Pg->Prop:=λ⟨v,m⟩=>cond (decide (v<0)) true (decide (m<v))=aB v m/\True
theorem sX:aL Tryz.prog aO 56 Zs:=aW .nil false Tryz.call56 Tryz.func56 (λ_=> []) (V:=Ph) (λ_=>by kernel_rfl) λ⟨v,m⟩ hp=>by
  dsimp only[Ph,tn,ah]
  refine⟨?_,trivial⟩
  unfold aB;cases decide (v<0)<;>rfl
structure Pj where
  (e:Int)
def Zt:Sy.Spec:=⟨Pj,λ⟨e⟩=> [.v (.int .i64 e)],λ_=> [],λ_=>True,λ⟨e⟩=> .ag 2 (aH [.v (.int .i64 e),.v (.int .i64 (-1))]),λ_=> [],
  λargs mem=>match args with| [a0]=>some ⟨av (a0)⟩|_=>none⟩
def Zu:aQ:=⟨[],(Zt).g,none⟩
def Pk:Pj->Prop:=λ⟨e⟩=>True/\(True/\True)/\((True/\e=e)/\((-1):Int)=(-1))/\True
theorem vk:aL Tryz.prog aO 14 Zu:=aW .nil false Tryz.call14 Tryz.func14 (λ_=> []) (V:=Pk) (λ_=>by kernel_rfl) λ⟨e⟩ hp=>by
  dsimp only[Pk,tn,ah]
  simp
structure Nz where
  (Pf:Unit)
def XJ:Sy.Spec:=⟨Nz,λ_=> [],λ_=> [],λ_=>True,λ_=> .ag 2 (aH [.v (.int .i64 0),.v (.int .i64 (-1))]),λ_=> [],
  λargs mem=>match args with| []=>some ⟨()⟩|_=>none⟩
def XK:aQ:=⟨[],(XJ).g,none⟩
def NA:Nz->Prop:=λ_=>True/\(True/\True)/\((True/\(0:Int)=0)/\((-1):Int)=(-1))/\True
theorem VU:aL Tryz.prog aO 64 XK:=aW .nil false Tryz.call64 Tryz.func64 (λ_=> []) (V:=NA) (λ_=>by kernel_rfl) λ_ hp=>by
  dsimp only[NA,tn,ah]
  simp
end Go.Proofs.YtmieeldmfehpoaaGreatDoor
namespace Go.Sy
theorem Bk {x:Int} (h0:0<=x) (J:x<9223372036854775808):(BitVec.ofInt 64 x).toNat=x.toNat:=by
  rw[BitVec.toNat_ofInt]
  congr 1
  exact Int.emod_eq_of_lt h0 (by simpa using (by omega:x<18446744073709551616))
theorem RW {n:Nat} (h:n<9223372036854775808):IntKind.i64.wrap (n:Int)=n:=by
  rw[IntKind.wrap_i64];omega
theorem EH {x y:Int} (hx:0<=x) (lG:x<9223372036854775808) (hy:0<=y) (hy1:y<9223372036854775808):dF .and .i64 x y=((x.toNat&&&y.toNat:Nat):Int):=by
  show IntKind.i64.wrap ((BitVec.ofInt 64 x&&&BitVec.ofInt 64 y).toNat:Int)=_
  rw[BitVec.toNat_and,Bk hx lG,Bk hy hy1]
  exact RW (Nat.lt_of_le_of_lt Nat.and_le_left (by omega))
theorem zc (n:Nat) (hn:n<=62) {x m:Int} (hm:m=2^n -1):dF .and .i64 x m=x%2^n:=by
  show IntKind.i64.wrap ((BitVec.ofInt 64 x&&&BitVec.ofInt 64 m).toNat:Int)=_
  have hp:(2:Nat)^n<=2^62:=Nat.pow_le_pow_right (by omega) hn
  have gu:(1:Nat)<=2^n:=Nat.one_le_two_pow
  have hc:((2:Int)^n)=((2^n:Nat):Int):=by simp
  have pA:0<=m:=by rw[hm,hc];omega
  have ot:m<9223372036854775808:=by rw[hm,hc];omega
  rw[BitVec.toNat_and,Bk pA ot]
  have e:m.toNat=2^n -1:=by rw[hm,hc];omega
  rw[e,Nat.and_two_pow_sub_one_eq_mod,BitVec.toNat_ofInt]
  have hd:((x%((2^64:Nat):Int)).toNat%2^n:Nat)=(x%2^n).toNat:=by
    apply Int.ofNat.inj
    show(((x%((2^64:Nat):Int)).toNat%2^n:Nat):Int)=((x%2^n).toNat:Int)
    have h64:(0:Int)<=x%((2^64:Nat):Int):=Int.emod_nonneg _ (by decide)
    have tR:(0:Int)<=x%2^n:=Int.emod_nonneg _ (by rw[hc];omega)
    rw[Int.natCast_emod,Int.toNat_of_nonneg h64,Int.toNat_of_nonneg tR,hc]
    refine Int.emod_emod_of_dvd x ?_
    exact Int.natCast_dvd_natCast.2 (Nat.pow_dvd_pow 2 (by omega))
  rw[hd]
  have tR:(0:Int)<=x%2^n:=Int.emod_nonneg _ (by rw[hc];omega)
  have dW:x%2^n<2^n:=Int.emod_lt_of_pos _ (by rw[hc];omega)
  rw[Int.toNat_of_nonneg tR,IntKind.wrap_i64]
  rw[hc]at tR dW⊢
  omega
end Go.Sy
set_option linter.unusedVariables false
set_option linter.unusedSimpArgs false
set_option maxRecDepth 100000
namespace Go.Proofs.YtmieeldmfehpoaaGreatDoor
open Go.RowKit Go.Sy
end Go.Proofs.YtmieeldmfehpoaaGreatDoor
set_option linter.unusedVariables false
set_option linter.unusedSimpArgs false
set_option maxRecDepth 100000
namespace Go.Proofs.YtmieeldmfehpoaaGreatDoor
open Go.RowKit Go.Sy
def GK (x:Int):Prop:= -9223372036854775808<=x/\x<=9223372036854775807
theorem GK.wrap {x:Int} (h:GK x):IntKind.i64.wrap x=x:=by unfold GK at h;rw[IntKind.wrap_i64];omega
def fe:Nat->(Nat->Bool)->Bool
  |0,_=>true
  |n+1,p=>fe n p&&p n
theorem j5 {p:Nat->Bool}: ∀{n:Nat},fe n p=true↔ ∀i,i<n->p i=true
  |0=>by simp[fe]
  |n+1=>by
   simp only[fe,Bool.and_eq_true,j5 (n:=n)]
   refine⟨λh i hi=>?_,λh=>⟨λi hi=>h i (by omega),h n (by omega)⟩⟩
   rcases Nat.lt_succ_iff_lt_or_eq.1 hi with h'|rfl
   · exact h.1 i h'
   · exact h.2
theorem j3 {p:Nat->Bool} {n i:Nat} (hi:i<n) (h:p i=false):fe n p=false:=by
  cases hq:fe n p with
  |false=>rfl
  |true=>rw[j5.1 hq i hi]at h;cases h
def dk (n:Nat) (a:Nat->Int) (m:Nat) (b:Nat->Int):Bool:=(n==m)&&fe n λi=>a i==b i
structure Nx where
  (n:Nat) (a:Nat->Int) (m:Nat) (b:Nat->Int)
def XH:Sy.Spec:=⟨Nx,λ⟨n,a,m,b⟩=> [.sl true 1 n (λi_ _=> .v (.int .i64 (a i_))),.sl true 1 m (λi_ _=> .v (.int .i64 (b i_)))],λ_=> [],λ_=>True,λ⟨n,a,m,b⟩=> .v (.bool (dk n a m b)),λ_=> [],
  λargs mem=>match args with| [a0,a1]=>some ⟨bO a0,λi=>av (bF a0 i 0),bO a1,λi=>av (bF a1 i 0)⟩|_=>none⟩
def XI:aQ:=⟨[],(XH).g,none⟩
def V0 (n:Nat) (a b:Nat->Int):bS where
  σ:=Nat
  rt:= []
  sh i:= [(5,.v (.int .i64 i))]
  mh _:= []
  inv i:=i<=n/\ ∀j,j<i->a j=b j
  μ i:=n -i
  init:=0
def Ny:Nx->Prop:=λ⟨n,a,m,b⟩=>let a0:=(n:Int);let b0:=a0 !=(m:Int);let c0:=dk n a m b;let d0:=false=c0/\True;a0<=9223372036854775807->(m:Int)<=9223372036854775807->(b0=true->d0)/\(b0=false->0=((0:Nat):Int)/\True/\(0<=n/\(∀e0:Nat,e0<0->a e0=b e0))/\(∀g0:Nat,let h0:=(g0:Int);let k0:=decide (h0<a0);let l0:=a (Int.toNat h0) !=b (Int.toNat h0);let o0:Int:=h0+1;g0<=n/\(∀q0:Nat,q0<g0->a q0=b q0)->a0<=9223372036854775807->(k0=true->tn 2 ((0<=h0/\h0<a0)/\tn 3 ((0<=h0/\h0<(m:Int))/\True/\(l0=true->d0)/\(l0=false->ah o0=o0/\(∃r0:Nat,o0=(r0:Int)/\True/\(r0<=n/\(∀u0:Nat,u0<r0->a u0=b u0))/\n-r0<n-g0)))))/\(k0=false->true=c0/\True)))
theorem yx:aL Tryz.prog aO 15 XI:=aW .nil false Tryz.call15 Tryz.func15 (λ⟨n,a,_,b⟩=> [.inv (V0 n a b)]) (V:=Ny) (λ_=>by kernel_rfl) λ⟨n,a,m,b⟩ hp=>by
  dsimp only[Ny,tn,ah]
  refineλ_ _=>⟨λh=>?_,λh=>?_⟩
  · have:(n==m)=false:=by simp at h;simp;omega
    simp[dk,this]
  · have xf:n=m:=by simp at h;omega
    subst xf
    refine⟨rfl,trivial,⟨by omega,λj hj=>absurd hj (by omega)⟩,λs hs hn=>⟨λh=>?_,λh=>?_⟩⟩
    · have ai:s<n:=by simpa using h
      rw[show Int.toNat (s:Int)=s from Int.toNat_natCast s]
      refine⟨trivial,trivial,by omega,trivial,trivial,trivial,by omega,trivial,λh=>?_,λh=>?_⟩
      · have:(a s==b s)=false:=by simp at h;simpa using h
        simp[dk,j3 (p:=λi=>a i==b i) ai this]
      · have:a s=b s:=by simpa using h
        refine⟨by rw[IntKind.wrap_i64];omega,s+1,rfl,trivial,⟨by omega,λj hj=>?_⟩,by omega⟩
        rcases Nat.lt_or_ge j s with h3|h3
        · exact hs.2 j h3
        · obtain rfl:j=s:=by omega
          exact this
    · have bo: ¬s<n:=by simpa using h
      obtain rfl:s=n:=by omega
      have:fe s (λi=>a i==b i)=true:=j5.2 λi hi=>by simp[hs.2 i hi]
      simp[dk,this]
end Go.Proofs.YtmieeldmfehpoaaGreatDoor
set_option linter.unusedVariables false
set_option linter.unusedSimpArgs false
set_option maxRecDepth 100000
namespace Go.Proofs.YtmieeldmfehpoaaGreatDoor
open Go.RowKit Go.Sy
structure bu where
  r0:Int
  r1:Int
  r2:Int
  r3:Int
  r4:Int
  r5:Int
  r6:Int
  r7:Int
  pc:Int
  st:Int
  prio:Int
  node:Int
  space:Int
  helper:Int
  loc:Int
  word:Int
  bJ:Int
  aX:Int
  core:Int
  dH:Int
def gZ (t:bu):List SV:= [.v (.int .i64 t.r0),.v (.int .i64 t.r1),.v (.int .i64 t.r2),.v (.int .i64 t.r3),.v (.int .i64 t.r4),.v (.int .i64 t.r5),.v (.int .i64 t.r6),.v (.int .i64 t.r7),.v (.int .i64 t.pc),.v (.int .i64 t.st),.v (.int .i64 t.prio),.v (.int .i64 t.node),.v (.int .i64 t.space),.v (.int .i64 t.helper),.v (.int .i64 t.loc),.v (.int .i64 t.word),.v (.int .i64 t.bJ),.v (.int .i64 t.aX),.v (.int .i64 t.core),.v (.int .i64 t.dH)]
def bu.blank:bu:=⟨0,0,0,0,0,0,0,0,0,0,0,-1,-1,-1,-1,0,0,-1,0,0⟩
def jC (op:Int) (a b:Nat):Nat:=bif op==6 then a&&&b else bif op==7 then a|||b else a^^^b
def vA (op x y:Int):Bool:=(op==6&&x+y==2)||(op==7&&decide (0<x+y))||(op==8&&x+y==1)
theorem SN {op:Int} (ho:op=6\/op=7\/op=8) (a b k:Nat):jC op a b%2^(k+1)=jC op a b%2^k+(if vA op ((a/2^k%2:Nat):Int) ((b/2^k%2:Nat):Int)=true then 2^k else 0):=by
  rw[Nat.mod_pow_succ]
  congr 1
  have hb:jC op a b/2^k%2=if vA op ((a/2^k%2:Nat):Int) ((b/2^k%2:Nat):Int)=true then 1 else 0:=by
    have e: ∀x:Nat,x/2^k%2=(x.testBit k).toNat:=λx=>by rw[Nat.testBit_eq_decide_div_mod_eq];rcases Nat.mod_two_eq_zero_or_one (x/2^k)with h|h<;>simp[h]
    rw[e,e,e]
    rcases ho with rfl|rfl|rfl<;>simp only[jC,vA]<;>simp[Nat.testBit_and,Nat.testBit_or,Nat.testBit_xor]<;>cases a.testBit k<;>cases b.testBit k<;>decide
  rw[hb];split<;>simp
theorem VX {op:Int} {a b n:Nat} (ha:a<2^n) (hb:b<2^n):jC op a b<2^n:=by
  unfold jC
  cases op==6<;>cases op==7<;>simp only[cond_true,cond_false]
  · exact Nat.xor_lt_two_pow ha hb
  · exact Nat.or_lt_two_pow ha hb
  · exact Nat.lt_of_le_of_lt Nat.and_le_left ha
  · exact Nat.lt_of_le_of_lt Nat.and_le_left ha
structure K_ where
  (Pf:Unit)
def VY:Sy.Spec:=⟨K_,λ_=> [],λ_=> [],λ_=>True,λ_=> .ag 20 (aH (gZ bu.blank)),λ_=> [],
  λargs mem=>match args with| []=>some ⟨()⟩|_=>none⟩
def VZ:aQ:=⟨[],(VY).g,none⟩
def La:K_->Prop:=λ_=>let a0:=(0:Int)=0;let b0:=((-1):Int)=(-1);True/\tn 19 True/\((((((((((((((((((((True/\a0)/\a0)/\a0)/\a0)/\a0)/\a0)/\a0)/\a0)/\a0)/\a0)/\a0)/\b0)/\b0)/\b0)/\b0)/\a0)/\a0)/\b0)/\a0)/\a0)/\True
theorem mK:aL Tryz.prog aO 66 VZ:=aW .nil false Tryz.call66 Tryz.func66 (λ_=> []) (V:=La) (λ_=>by kernel_rfl) λ_ hp=>by
  dsimp only[La,tn,ah]
  simp[bu.blank]
structure Iu where
  (a b op:Int)
def Iv:Sy.Spec:=⟨Iu,λ⟨a,b,op⟩=> [.v (.int .i64 a),.v (.int .i64 b),.v (.int .i64 op)],λ_=> [],λ⟨a,b,op⟩=>0<=a/\a<=65535/\0<=b/\b<=65535/\(op=6\/op=7\/op=8),λ⟨a,b,op⟩=> .v (.int .i64 (jC op a.toNat b.toNat:Nat)),λ_=> [],
  λargs mem=>match args with| [a0,a1,a2]=>some ⟨av (a0),av (a1),av (a2)⟩|_=>none⟩
def SO:aQ:=⟨[],(Iv).g,none⟩
def RV (a b op:Int):bS where
  σ:=Nat
  rt:= []
  sh k:= [(8,.v (.int .i64 (2^k:Nat))),(7,.v (.int .i64 (jC op a.toNat b.toNat%2^k:Nat)))]
  mh _:= []
  inv k:=k<=16
  μ k:=16 -k
  init:=0
def Iw:Iu->Prop:=λ⟨a,b,op⟩=>let a0:=jC op (Int.toNat a) (Int.toNat b);let b0:=op==6;let c0:=op==7;1=((HPow.hPow 2 0:Nat):Int)/\0=((a0%HPow.hPow 2 0:Nat):Int)/\True/\0<=16/\(∀d0:Nat,let e0:=((HPow.hPow 2 d0:Nat):Int);let g0:=decide (e0<65536);let h0:=0<e0;let k0:Int:=a/e0;let l0:Int:=b/e0;let o0:Int:=k0%2+l0%2;let q0:=ah o0=o0;let r0:=cond b0 (o0==2) false;let u0:=cond r0 true (cond c0 (decide (0<o0)) false);let v0:=cond u0 true (cond (op==8) (o0==1) false);let w0:=((a0%HPow.hPow 2 d0:Nat):Int);let x0:Int:=w0+e0;let y0:Int:=e0*2;let z0:=ah y0=y0;d0<=16->(g0=true->(0<=a/\h0/\ah k0=k0)/\(0<=k0/\(0:Int)<2)/\(0<=b/\h0/\ah l0=l0)/\(0<=l0/\(0:Int)<2)/\(b0=true->q0)/\(c0=true->r0=false->q0)/\((op==8)=true->u0=false->q0)/\(v0=true->ah x0=x0/\z0/\(∃a1:Nat,y0=((HPow.hPow 2 a1:Nat):Int)/\x0=((a0%HPow.hPow 2 a1:Nat):Int)/\True/\a1<=16/\16-a1<16-d0))/\(v0=false->z0/\(∃b1:Nat,y0=((HPow.hPow 2 b1:Nat):Int)/\w0=((a0%HPow.hPow 2 b1:Nat):Int)/\True/\b1<=16/\16-b1<16-d0)))/\(g0=false->w0=(a0:Int)/\True))
theorem RQ:aL Tryz.prog aO 106 SO:=aW .nil false Tryz.call106 Tryz.func106 (λ⟨a,b,op⟩=> [.inv (RV a b op)]) (V:=Iw) (λ_=>by kernel_rfl) λ⟨a,b,op⟩ hp=>by
  dsimp only[Iv]at hp
  dsimp only[Iw,tn,ah]
  obtain⟨a0,a1,b0,b1,ho⟩:=hp
  obtain⟨A,rfl⟩: ∃A:Nat,a=A:=⟨a.toNat,by omega⟩
  obtain⟨B,rfl⟩: ∃B:Nat,b=B:=⟨b.toNat,by omega⟩
  simp only[Int.toNat_natCast]
  refine⟨by simp,by simp[Nat.mod_one],trivial,by omega,λs hs=>⟨λh=>?_,λh=>?_⟩⟩
  · have mG:s<=15:=by
      rcases Nat.lt_or_ge s 16 with J|J
      · omega
      · obtain rfl:s=16:=by omega
        simp at h
    have bH:=SN ho A B s
    have ai:jC op A B%2^s<2^s:=Nat.mod_lt _ (Nat.two_pow_pos s)
    have gu:2^(s+1)=2^s*2:=Nat.pow_succ 2 s
    have Ba:=Nat.two_pow_pos s
    have wo:2^s<=2^15:=Nat.pow_le_pow_right (by omega) mG
    have ha:A/2^s<=A:=Nat.div_le_self _ _
    have hb:B/2^s<=B:=Nat.div_le_self _ _
    have ea:(A:Int)/((2^s:Nat):Int)=((A/2^s:Nat):Int):=(Int.natCast_ediv _ _).symm
    have eb:(B:Int)/((2^s:Nat):Int)=((B/2^s:Nat):Int):=(Int.natCast_ediv _ _).symm
    rw[ea,eb]
    have QI:((A/2^s:Nat):Int)%2=((A/2^s%2:Nat):Int):=by omega
    have QJ:((B/2^s:Nat):Int)%2=((B/2^s%2:Nat):Int):=by omega
    rw[QI,QJ]
    have hx:A/2^s%2<2:=Nat.mod_lt _ (by omega)
    have hy:B/2^s%2<2:=Nat.mod_lt _ (by omega)
    clear ea eb QI QJ
    generalize hX:A/2^s%2=X at*
    generalize hY:B/2^s%2=Y at*
    have aae:(bif bif bif op==6 then(X:Int)+(Y:Int)==2 else false then true else bif op==7 then decide ((0:Int)<(X:Int)+(Y:Int))else false then true else bif op==8 then(X:Int)+(Y:Int)==1 else false)=vA op X Y:=by
      unfold vA
      cases op==6<;>cases op==7<;>cases op==8<;>simp
    rw[aae]
    have hw: ∀z:Int,0<=z->z<=131072->IntKind.i64.wrap z=z:=λz _ _=>by rw[IntKind.wrap_i64];omega
    generalize jC op A B=W at*
    generalize A/2^s=DA at*
    generalize B/2^s=DB at*
    generalize 2^s=p at*
    refine⟨⟨by omega,by omega,hw _ (by omega) (by omega)⟩,⟨by omega,by omega⟩,⟨by omega,by omega,hw _ (by omega) (by omega)⟩,⟨by omega,by omega⟩,λ_=>hw _ (by omega) (by omega),λ_ _=>hw _ (by omega) (by omega),λ_ _=>hw _ (by omega) (by omega),λhq=>?_,λhq=>?_⟩
    · rw[hq]at bH
      exact⟨hw _ (by omega) (by omega),hw _ (by omega) (by omega),s+1,by rw[gu];omega,by rw[bH];simp,trivial,by omega,by omega⟩
    · rw[hq]at bH
      exact⟨hw _ (by omega) (by omega),s+1,by rw[gu];omega,by rw[bH];simp,trivial,by omega,by omega⟩
  · have GJ:s=16:=by
      rcases Nat.lt_or_ge s 16 with J|J
      · exfalso
        have wo:2^s<=2^15:=Nat.pow_le_pow_right (by omega) (by omega)
        generalize 2^s=p at*
        simp at h;omega
      · omega
    subst GJ
    rw[Nat.mod_eq_of_lt (VX (by omega) (by omega))]
    exact⟨rfl,trivial⟩
end Go.Proofs.YtmieeldmfehpoaaGreatDoor
set_option linter.unusedVariables false
set_option linter.unusedSimpArgs false
set_option maxRecDepth 100000
namespace Go.Proofs.YtmieeldmfehpoaaGreatDoor
open Go.RowKit Go.Sy
structure cp where
  kind:Int
  base:Int
  len:Int
  mark:Int
  cQ:Int
  bJ:Int
  from_:Int
structure bI where
  sp:Int
  pg:Int
  fr:Int
  wr:Bool
def kx (s:cp):List SV:= [.v (.int .i64 s.kind),.v (.int .i64 s.base),.v (.int .i64 s.len),.v (.int .i64 s.mark),.v (.int .i64 s.cQ),.v (.int .i64 s.bJ),.v (.int .i64 s.from_)]
def eG (e:bI):List SV:= [.v (.int .i64 e.sp),.v (.int .i64 e.pg),.v (.int .i64 e.fr),.v (.bool e.wr)]
def rf (f:Nat->SV):cp:=⟨av (f 0),av (f 1),av (f 2),av (f 3),av (f 4),av (f 5),av (f 6)⟩
def jf (f:Nat->SV):bI:=⟨av (f 0),av (f 1),av (f 2),vm (f 3)⟩
def zM (f:Nat->SV):bu:=⟨av (f 0),av (f 1),av (f 2),av (f 3),av (f 4),av (f 5),av (f 6),av (f 7),av (f 8),av (f 9),av (f 10),av (f 11),av (f 12),av (f 13),av (f 14),av (f 15),av (f 16),av (f 17),av (f 18),av (f 19)⟩
def iF (f:Nat->Int):Nat->Nat->SV:=λi _=> .v (.int .i64 (f i))
def rF (L:Nat->List SV):Nat->Nat->SV:=λi j=>aH (L i) j
structure Wd where
  aq:Nat
  aa:Nat->Int
  ar:Nat
  kinds:Nat->Int
  aw:Nat
  af:Nat->cp
  az:Nat
  tasks:Nat->bu
  ba:Nat
  ao:Nat->Nat
  lines:Nat->Nat->Int
  aN:Nat
  bits:Nat->Int
  aP:Nat
  aF:Nat->Int
  aT:Nat
  aJ:Nat->Nat
  ready:Nat->Nat->Int
  aG:Nat
  aA:Nat->Nat
  aj:Nat->Nat->bI
  aI:Nat
  aM:Nat->Int
  time:Int
def eY (W:Wd):SV:= .ag 11 (aH [.sl true 1 W.aq (iF W.aa),.sl true 1 W.ar (iF W.kinds),.sl true 7 W.aw (rF λi=>kx (W.af i)),.sl true 20 W.az (rF λi=>gZ (W.tasks i)),.sl true 1 W.ba (λi _=> .sl true 1 (W.ao i) (iF (W.lines i))),.sl true 1 W.aN (iF W.bits),.sl true 1 W.aP (iF W.aF),.sl true 1 W.aT (λi _=> .sl true 1 (W.aJ i) (iF (W.ready i))),.sl true 1 W.aG (λi _=> .sl true 4 (W.aA i) (rF λk=>eG (W.aj i k))),.sl true 1 W.aI (iF W.aM),.v (.int .i64 W.time)])
def eD (W:Wd):SV:= .pt true 11 (aH [.sl true 1 W.aq (iF W.aa),.sl true 1 W.ar (iF W.kinds),.sl true 7 W.aw (rF λi=>kx (W.af i)),.sl true 20 W.az (rF λi=>gZ (W.tasks i)),.sl true 1 W.ba (λi _=> .sl true 1 (W.ao i) (iF (W.lines i))),.sl true 1 W.aN (iF W.bits),.sl true 1 W.aP (iF W.aF),.sl true 1 W.aT (λi _=> .sl true 1 (W.aJ i) (iF (W.ready i))),.sl true 1 W.aG (λi _=> .sl true 4 (W.aA i) (rF λk=>eG (W.aj i k))),.sl true 1 W.aI (iF W.aM),.v (.int .i64 W.time)])
def QG (k:Nat) (W:Wd):SV:= .ag 11 (aH [.aV (k+0) 0 none 0 W.aq,.aV (k+1) 0 none 0 W.ar,.aV (k+2) 0 none 0 W.aw,.aV (k+3) 0 none 0 W.az,.aV (k+4) 0 none 0 W.ba,.aV (k+5) 0 none 0 W.aN,.aV (k+6) 0 none 0 W.aP,.aV (k+7) 0 none 0 W.aT,.aV (k+8) 0 none 0 W.aG,.aV (k+9) 0 none 0 W.aI,.v (.int .i64 W.time)])
def PW (k:Nat) (W:Wd):bh:= .cells [.aV (k+0) 0 none 0 W.aq,.aV (k+1) 0 none 0 W.ar,.aV (k+2) 0 none 0 W.aw,.aV (k+3) 0 none 0 W.az,.aV (k+4) 0 none 0 W.ba,.aV (k+5) 0 none 0 W.aN,.aV (k+6) 0 none 0 W.aP,.aV (k+7) 0 none 0 W.aT,.aV (k+8) 0 none 0 W.aG,.aV (k+9) 0 none 0 W.aI,.v (.int .i64 W.time)]
def EJ (W:Wd):List bh:= [.row 1 W.aq (iF W.aa),.row 1 W.ar (iF W.kinds),.row 7 W.aw (rF λi=>kx (W.af i)),.row 20 W.az (rF λi=>gZ (W.tasks i)),.row 1 W.ba (λi _=> .il 1 (W.ao i) (iF (W.lines i))),.row 1 W.aN (iF W.bits),.row 1 W.aP (iF W.aF),.row 1 W.aT (λi _=> .il 1 (W.aJ i) (iF (W.ready i))),.row 1 W.aG (λi _=> .il 4 (W.aA i) (rF λk=>eG (W.aj i k))),.row 1 W.aI (iF W.aM)]
def bQ (W:Wd):List bh:=PW 1 W::EJ W
def eP (a:SV):Wd:=⟨bO (cy a 0),λi=>av (bF (cy a 0) i 0),bO (cy a 1),λi=>av (bF (cy a 1) i 0),bO (cy a 2),λi=>rf (λj=>bF (cy a 2) i j),bO (cy a 3),λi=>zM (λj=>bF (cy a 3) i j),bO (cy a 4),λi=>bO (bF (cy a 4) i 0),λi k=>av (bF (bF (cy a 4) i 0) k 0),bO (cy a 5),λi=>av (bF (cy a 5) i 0),bO (cy a 6),λi=>av (bF (cy a 6) i 0),bO (cy a 7),λi=>bO (bF (cy a 7) i 0),λi k=>av (bF (bF (cy a 7) i 0) k 0),bO (cy a 8),λi=>bO (bF (cy a 8) i 0),λi k=>jf (λj=>bF (bF (cy a 8) i 0) k j),bO (cy a 9),λi=>av (bF (cy a 9) i 0),av (cy a 10)⟩
def d' (a:SV):Wd:=⟨bO (bx a 0),λi=>av (bF (bx a 0) i 0),bO (bx a 1),λi=>av (bF (bx a 1) i 0),bO (bx a 2),λi=>rf (λj=>bF (bx a 2) i j),bO (bx a 3),λi=>zM (λj=>bF (bx a 3) i j),bO (bx a 4),λi=>bO (bF (bx a 4) i 0),λi k=>av (bF (bF (bx a 4) i 0) k 0),bO (bx a 5),λi=>av (bF (bx a 5) i 0),bO (bx a 6),λi=>av (bF (bx a 6) i 0),bO (bx a 7),λi=>bO (bF (bx a 7) i 0),λi k=>av (bF (bF (bx a 7) i 0) k 0),bO (bx a 8),λi=>bO (bF (bx a 8) i 0),λi k=>jf (λj=>bF (bF (bx a 8) i 0) k j),bO (bx a 9),λi=>av (bF (bx a 9) i 0),av (bx a 10)⟩
def m4 (a b:bI):Bool:=a.sp==b.sp&&(a.pg==b.pg&&(a.fr==b.fr&&(a.wr==b.wr&&true)))
def lq (n:Nat) (an:Nat->Nat) (a:Nat->Nat->Int) (m:Nat) (bn:Nat->Nat) (b:Nat->Nat->Int):Bool:=(n==m)&&fe n λi=>dk (an i) (a i) (bn i) (b i)
def jL (n:Nat) (a:Nat->bI) (m:Nat) (b:Nat->bI):Bool:=(n==m)&&fe n λi=>m4 (a i) (b i)
def QH (k n:Nat) (p:Nat->Bool):bS where
  σ:=Nat
  rt:= []
  sh i:= [(k,.v (.int .i64 i))]
  mh _:= []
  inv i:=i<=n/\ ∀j,j<i->p j=true
  μ i:=n -i
  init:=0
def GI (rts:List Nat) (ps:List (Nat×SV)) (k n:Nat) (p:Nat->Bool):bS where
  σ:=Nat
  rt:=rts.map λd=>(d,0)
  sh i:=ps++ [(k,.v (.int .i64 i))]
  mh _:= []
  inv i:=i<=n/\ ∀j,j<i->p j=true
  μ i:=n -i
  init:=0
def bd (q:Nat):SV:= .ptr q 0 none 0 0
theorem mJ {n:Nat} {p:Nat->Bool} (h: ∀j,j<n->p j=true):fe n p=true:=j5.2 h
theorem aY {i n:Nat} (h:decide ((i:Int)<(n:Int))=true):i<n:=by simpa using h
theorem bD {i n:Nat} (h:decide ((i:Int)<(n:Int))=false):n<=i:=by simpa using h
theorem gM {b:Bool} (h:(!b)=true):b=false:=by cases b<;>simp_all
theorem dy {b:Bool} (h:(!b)=false):b=true:=by cases b<;>simp_all
theorem bZ {P:Nat->Prop} {s:Nat} (h:P (s+1)): ∃s':Nat,((s:Int)+1)=(s':Int)/\P s':=⟨s+1,rfl,h⟩
def bU:Nat->(Nat->Bool)->Nat
  |0,_=>0
  |n+1,p=>bif Nat.blt (bU n p) n then bU n p else bif p n then n else n+1
theorem sj {p:Nat->Bool}: ∀{n:Nat},(∀j,j<n->p j=false)->bU n p=n
  |0,_=>rfl
  |n+1,h=>by
   have:=sj (n:=n) λj hj=>h j (by omega)
   simp[bU,this,h n (by omega),fw]
theorem oK {p:Nat->Bool} {i:Nat} (hb: ∀j,j<i->p j=false) (hp:p i=true): ∀{n:Nat},i<n->bU n p=i
  |0,h=>absurd h (by omega)
  |n+1,h=>by
   rcases Nat.lt_or_ge i n with J|J
   · have:=oK hb hp J
     simp[bU,this,fw,J]
   · obtain rfl:i=n:=by omega
     have:=sj hb
     simp[bU,this,fw,hp]
theorem p9 (p:Nat->Bool): ∀n,bU n p<=n
  |0=>Nat.le_refl _
  |n+1=>by
   have:=p9 p n
   unfold bU
   cases h:Nat.blt (bU n p) n<;>cases U:p n<;>simp<;>omega
def cN (n:Nat) (p:Nat->Bool):Int:=bif Nat.blt (bU n p) n then(bU n p:Nat)else -1
theorem mI {n:Nat} {p:Nat->Bool} (h: ∀j,j<n->p j=false):cN n p= -1:=by
  unfold cN;rw[sj h,fw];simp
theorem qc {n i:Nat} {p:Nat->Bool} (hb: ∀j,j<i->p j=false) (hp:p i=true) (hi:i<n):cN n p=(i:Nat):=by
  unfold cN;rw[oK hb hp hi,fw];simp[hi]
theorem cD {a b:Nat} (h:a<b):Nat.blt a b=true:=Nat.ble_eq_true_of_le h
theorem eI {a b:Nat} (h:b<=a):Nat.blt a b=false:=by rw[fw];exact decide_eq_false (by omega)
theorem EG {a b:Nat} (h:a<=b):Nat.ble a b=true:=Nat.ble_eq_true_of_le h
theorem EF {a b:Nat} (h:b<a):Nat.ble a b=false:=by
  cases hb:Nat.ble a b with
  |false=>rfl
  |true=>have:=Nat.le_of_ble_eq_true hb;omega
theorem mZ {p:Nat->Bool} {i:Nat} (h: ∀j,j<i->p j=true) (hi:p i=true): ∀j,j<i+1->p j=true:=by
  intro j hj
  rcases Nat.lt_or_ge j i with h3|h3
  · exact h j h3
  · obtain rfl:j=i:=by omega
    exact hi
structure Iq where
  (n:Nat) (an:Nat->Nat) (a:Nat->Nat->Int) (m:Nat) (bn:Nat->Nat) (b:Nat->Nat->Int)
def SJ:Sy.Spec:=⟨Iq,λ⟨n,an,a,m,bn,b⟩=> [.sl true 1 n (λi _=> .sl true 1 (an i) (iF (a i))),.sl true 1 m (λi _=> .sl true 1 (bn i) (iF (b i)))],λ_=> [],λ_=>True,λ⟨n,an,a,m,bn,b⟩=> .v (.bool (lq n an a m bn b)),λ_=> [],
  λargs mem=>match args with| [a0,a1]=>some ⟨bO a0,λi=>bO (bF a0 i 0),λi k=>av (bF (bF a0 i 0) k 0),bO a1,λi=>bO (bF a1 i 0),λi k=>av (bF (bF a1 i 0) k 0)⟩|_=>none⟩
def SK:aQ:=⟨[],(SJ).g,none⟩
def Ir:Iq->Prop:=λ⟨n,an,a,m,bn,b⟩=>let a0:=(n:Int);let b0:=a0 !=(m:Int);let c0:=lq n an a m bn b;let d0:=false=c0/\True;a0<=9223372036854775807->(m:Int)<=9223372036854775807->(b0=true->d0)/\(b0=false->0=((0:Nat):Int)/\True/\(0<=n/\(∀e0:Nat,e0<0->dk (an e0) (a e0) (bn e0) (b e0)=true))/\(∀g0:Nat,let h0:=(g0:Int);let k0:=decide (h0<a0);let l0:=Int.toNat h0;let o0:=an l0;let q0:=bn l0;let r0:=!dk o0 (a l0) q0 (b l0);let u0:Int:=h0+1;g0<=n/\(∀v0:Nat,v0<g0->dk (an v0) (a v0) (bn v0) (b v0)=true)->a0<=9223372036854775807->(k0=true->tn 2 ((0<=h0/\h0<a0)/\tn 3 ((0<=h0/\h0<(m:Int))/\True/\(((o0=o0/\(∀w0:Nat,w0<o0->True/\a l0 w0=a l0 w0))/\(q0=q0/\(∀x0:Nat,x0<q0->True/\b l0 x0=b l0 x0))/\True)/\True/\True)/\(r0=true->d0)/\(r0=false->ah u0=u0/\(∃y0:Nat,u0=(y0:Int)/\True/\(y0<=n/\(∀z0:Nat,z0<y0->dk (an z0) (a z0) (bn z0) (b z0)=true))/\n-y0<n-g0)))))/\(k0=false->true=c0/\True)))
theorem RU:aL Tryz.prog aO 33 SK:=aW (.cons yx .nil) false Tryz.call33 Tryz.func33 (λ⟨n,an,a,_,bn,b⟩=> [.inv (QH 5 n λi=>dk (an i) (a i) (bn i) (b i))]) (V:=Ir) (λ_=>by kernel_rfl) λ⟨n,an,a,m,bn,b⟩ hp=>by
  dsimp only[Ir,tn,ah]
  intro _ _
  refine⟨λh=>?_,λh=>?_⟩
  · have:(n==m)=false:=by simp at h;simp;omega
    simp[lq,this]
  · have xf:n=m:=by simp at h;omega
    subst xf
    refine⟨rfl,trivial,⟨by omega,λj hj=>absurd hj (by omega)⟩,λs hs _=>⟨λh=>?_,λh=>?_⟩⟩
    · have ai:=aY h
      simp only[Int.toNat_natCast,true_and,and_true,and_self,implies_true,imp_self,forall_const]
      refine⟨by omega,by omega,λh=>?_,λh=>⟨by rw[IntKind.wrap_i64];omega,bZ ⟨⟨by omega,mZ hs.2 ?_⟩,by omega⟩⟩⟩
      · rw[show lq n an a n bn b=false by simp[lq,j3 (p:=λi=>dk (an i) (a i) (bn i) (b i)) ai (gM (b:=(λi=>dk (an i) (a i) (bn i) (b i)) s) h)]]
      · exact dy (b:=(λi=>dk (an i) (a i) (bn i) (b i)) s) h
    · have bo:=bD h
      obtain rfl:s=n:=by omega
      refine⟨?_,trivial⟩
      simp[lq,mJ (p:=λi=>dk (an i) (a i) (bn i) (b i)) hs.2]
structure Is where
  (n:Nat) (a:Nat->bI) (m:Nat) (b:Nat->bI)
def SL:Sy.Spec:=⟨Is,λ⟨n,a,m,b⟩=> [.sl true 4 n (rF λi=>eG (a i)),.sl true 4 m (rF λi=>eG (b i))],λ_=> [],λ_=>True,λ⟨n,a,m,b⟩=> .v (.bool (jL n a m b)),λ_=> [],
  λargs mem=>match args with| [a0,a1]=>some ⟨bO a0,λi=>jf (λj=>bF a0 i j),bO a1,λi=>jf (λj=>bF a1 i j)⟩|_=>none⟩
def SM:aQ:=⟨[],(SL).g,none⟩
def It:Is->Prop:=λ⟨n,a,m,b⟩=>let a0:=(n:Int);let b0:=a0 !=(m:Int);let c0:=jL n a m b;let d0:=false=c0/\True;a0<=9223372036854775807->(m:Int)<=9223372036854775807->(b0=true->d0)/\(b0=false->0=((0:Nat):Int)/\True/\(0<=n/\(∀e0:Nat,e0<0->m4 (a e0) (b e0)=true))/\(∀g0:Nat,let h0:=(g0:Int);let k0:=decide (h0<a0);let l0:=a (Int.toNat h0);let o0:=b (Int.toNat h0);let q0:=!(l0.sp==o0.sp&&(l0.pg==o0.pg&&(l0.fr==o0.fr&&(l0.wr==o0.wr&&true))));let r0:Int:=h0+1;g0<=n/\(∀u0:Nat,u0<g0->m4 (a u0) (b u0)=true)->a0<=9223372036854775807->(k0=true->tn 2 ((0<=h0/\h0<a0)/\tn 3 ((0<=h0/\h0<(m:Int))/\True/\(q0=true->d0)/\(q0=false->ah r0=r0/\(∃v0:Nat,r0=(v0:Int)/\True/\(v0<=n/\(∀w0:Nat,w0<v0->m4 (a w0) (b w0)=true))/\n-v0<n-g0)))))/\(k0=false->true=c0/\True)))
theorem RT:aL Tryz.prog aO 32 SM:=aW .nil false Tryz.call32 Tryz.func32 (λ⟨n,a,_,b⟩=> [.inv (QH 5 n λi=>m4 (a i) (b i))]) (V:=It) (λ_=>by kernel_rfl) λ⟨n,a,m,b⟩ hp=>by
  dsimp only[It,tn,ah]
  intro _ _
  refine⟨λh=>?_,λh=>?_⟩
  · have:(n==m)=false:=by simp at h;simp;omega
    simp[jL,this]
  · have xf:n=m:=by simp at h;omega
    subst xf
    refine⟨rfl,trivial,⟨by omega,λj hj=>absurd hj (by omega)⟩,λs hs _=>⟨λh=>?_,λh=>?_⟩⟩
    · have ai:=aY h
      simp only[Int.toNat_natCast,true_and,and_true,and_self,implies_true,imp_self,forall_const]
      refine⟨by omega,by omega,λh=>?_,λh=>⟨by rw[IntKind.wrap_i64];omega,bZ ⟨⟨by omega,mZ hs.2 ?_⟩,by omega⟩⟩⟩
      · rw[show jL n a n b=false by simp[jL,j3 (p:=λi=>m4 (a i) (b i)) ai (gM (b:=(λi=>m4 (a i) (b i)) s) h)]]
      · exact dy (b:=(λi=>m4 (a i) (b i)) s) h
    · have bo:=bD h
      obtain rfl:s=n:=by omega
      refine⟨?_,trivial⟩
      simp[jL,mJ (p:=λi=>m4 (a i) (b i)) hs.2]
end Go.Proofs.YtmieeldmfehpoaaGreatDoor
set_option linter.unusedVariables false
set_option linter.unusedSimpArgs false
set_option maxRecDepth 100000
namespace Go.Proofs.YtmieeldmfehpoaaGreatDoor
open Go.RowKit Go.Sy
def aE (a b:bu):Prop:=((((((((((((((((((((True/\a.r0=b.r0)/\a.r1=b.r1)/\a.r2=b.r2)/\a.r3=b.r3)/\a.r4=b.r4)/\a.r5=b.r5)/\a.r6=b.r6)/\a.r7=b.r7)/\a.pc=b.pc)/\a.st=b.st)/\a.prio=b.prio)/\a.node=b.node)/\a.space=b.space)/\a.helper=b.helper)/\a.loc=b.loc)/\a.word=b.word)/\a.bJ=b.bJ)/\a.aX=b.aX)/\a.core=b.core)/\a.dH=b.dH)
def aD (a b:cp):Prop:=(((((((True/\a.kind=b.kind)/\a.base=b.base)/\a.len=b.len)/\a.mark=b.mark)/\a.cQ=b.cQ)/\a.bJ=b.bJ)/\a.from_=b.from_)
def ay (a b:bI):Prop:=((((True/\a.sp=b.sp)/\a.pg=b.pg)/\a.fr=b.fr)/\a.wr=b.wr)
def ak (Y X:Wd) (T:Prop):Prop:=(((((((((((True/\0=0/\Y.aq=X.aq)/\0=0/\Y.ar=X.ar)/\0=0/\Y.aw=X.aw)/\0=0/\Y.az=X.az)/\0=0/\Y.ba=X.ba)/\0=0/\Y.aN=X.aN)/\0=0/\Y.aP=X.aP)/\0=0/\Y.aT=X.aT)/\0=0/\Y.aG=X.aG)/\0=0/\Y.aI=X.aI)/\Y.time=X.time)/\(Y.aq=X.aq/\ ∀i:Nat,i<X.aq->True/\Y.aa i=X.aa i)/\(Y.ar=X.ar/\ ∀i:Nat,i<X.ar->True/\Y.kinds i=X.kinds i)/\(Y.aw=X.aw/\ ∀i:Nat,i<X.aw->aD (Y.af i) (X.af i))/\(Y.az=X.az/\ ∀i:Nat,i<X.az->aE (Y.tasks i) (X.tasks i))/\(Y.ba=X.ba/\ ∀i:Nat,i<X.ba->True/\Y.ao i=X.ao i/\ ∀k:Nat,k<X.ao i->True/\Y.lines i k=X.lines i k)/\(Y.aN=X.aN/\ ∀i:Nat,i<X.aN->True/\Y.bits i=X.bits i)/\(Y.aP=X.aP/\ ∀i:Nat,i<X.aP->True/\Y.aF i=X.aF i)/\(Y.aT=X.aT/\ ∀i:Nat,i<X.aT->True/\Y.aJ i=X.aJ i/\ ∀k:Nat,k<X.aJ i->True/\Y.ready i k=X.ready i k)/\(Y.aG=X.aG/\ ∀i:Nat,i<X.aG->True/\Y.aA i=X.aA i/\ ∀k:Nat,k<X.aA i->ay (Y.aj i k) (X.aj i k))/\(Y.aI=X.aI/\ ∀i:Nat,i<X.aI->True/\Y.aM i=X.aM i)/\T
end Go.Proofs.YtmieeldmfehpoaaGreatDoor
set_option linter.unusedVariables false
set_option linter.unusedSimpArgs false
set_option maxRecDepth 100000
namespace Go.Proofs.YtmieeldmfehpoaaGreatDoor
open Go.RowKit Go.Sy
def oa (a b:cp):Bool:=(a.kind==b.kind&&(a.base==b.base&&(a.len==b.len&&(a.mark==b.mark&&(a.cQ==b.cQ&&(a.bJ==b.bJ&&true))))))&&(a.from_==b.from_&&true)
def ke (a b:bu):Bool:=(a.r0==b.r0&&(a.r1==b.r1&&(a.r2==b.r2&&(a.r3==b.r3&&(a.r4==b.r4&&(a.r5==b.r5&&(a.r6==b.r6&&(a.r7==b.r7&&true))))))))&&(a.pc==b.pc&&(a.st==b.st&&(a.prio==b.prio&&(a.node==b.node&&(a.space==b.space&&(a.helper==b.helper&&(a.loc==b.loc&&(a.word==b.word&&(a.bJ==b.bJ&&(a.aX==b.aX&&(a.core==b.core&&(a.dH==b.dH&&true))))))))))))
def kg (A B:Wd):Bool:=
  dk A.aq A.aa B.aq B.aa&&dk A.ar A.kinds B.ar B.kinds&&(A.aw==B.aw)&&(A.az==B.az)&&(A.aG==B.aG)&&
  fe A.aw (λi=>oa (A.af i) (B.af i))&&fe A.az (λi=>ke (A.tasks i) (B.tasks i))&&fe A.aG (λi=>jL (A.aA i) (A.aj i) (B.aA i) (B.aj i))&&
  lq A.ba A.ao A.lines B.ba B.ao B.lines&&dk A.aN A.bits B.aN B.bits&&dk A.aP A.aF B.aP B.aF&&lq A.aT A.aJ A.ready B.aT B.aJ B.ready&&dk A.aI A.aM B.aI B.aM&&A.time==B.time
structure Hk where
  (A B:Wd)
def Ro:Sy.Spec:=⟨Hk,λ⟨A,B⟩=> [eY A,eY B],λ_=> [],λ_=>True,λ⟨A,B⟩=> .v (.bool (kg A B)),λ_=> [],
  λargs mem=>match args with| [a0,a1]=>some ⟨eP a0,eP a1⟩|_=>none⟩
def Rp:aQ:=⟨[],(Ro).g,none⟩
def Hl:Hk->Prop:=λ⟨A,B⟩=>let a0:=A.aq;let b0:=a0=a0/\(∀c0:Nat,c0<a0->True/\A.aa c0=A.aa c0);let d0:=B.aq;let e0:=d0=d0/\(∀g0:Nat,g0<d0->True/\B.aa g0=B.aa g0);let h0:=True/\True;let k0:=!dk a0 A.aa d0 B.aa;let l0:=A.ar;let o0:=l0=l0/\(∀q0:Nat,q0<l0->True/\A.kinds q0=A.kinds q0);let u0:=B.ar;let v0:=u0=u0/\(∀w0:Nat,w0<u0->True/\B.kinds w0=B.kinds w0);let x0:=A.aw;let y0:=(x0:Int);let z0:=B.aw;let a1:=A.az;let b1:=(a1:Int);let c1:=B.az;let d1:=A.aG;let e1:=(d1:Int);let g1:=B.aG;let J:=cond (cond (cond (cond k0 true (!dk l0 A.kinds u0 B.kinds)) true (y0 !=(z0:Int))) true (b1 !=(c1:Int))) true (e1 !=(g1:Int));let k1:=false=kg A B/\True;let l1:=SV.ptr 0 0 none 0 0=SV.ptr 0 0 none 0 0;let o1:=SV.ptr (0+1) 0 none 0 0=SV.ptr 1 0 none 0 0;let q1:=0=((0:Nat):Int);let u1:=A.ba;let v1:=u1=u1/\(∀w1:Nat,let x1:=A.ao w1;w1<u1->True/\x1=x1/\(∀y1:Nat,y1<x1->True/\A.lines w1 y1=A.lines w1 y1));let z1:=A.aN;let a2:=z1=z1/\(∀b2:Nat,b2<z1->True/\A.bits b2=A.bits b2);let c2:=A.aP;let d2:=c2=c2/\(∀e2:Nat,e2<c2->True/\A.aF e2=A.aF e2);let g2:=A.aT;let U:=g2=g2/\(∀k2:Nat,let l2:=A.aJ k2;k2<g2->True/\l2=l2/\(∀o2:Nat,o2<l2->True/\A.ready k2 o2=A.ready k2 o2));let q2:=A.aI;let u2:=q2=q2/\(∀v2:Nat,v2<q2->True/\A.aM v2=A.aM v2);let w2:=B.ba;let x2:=w2=w2/\(∀y2:Nat,let z2:=B.ao y2;y2<w2->True/\z2=z2/\(∀a3:Nat,a3<z2->True/\B.lines y2 a3=B.lines y2 a3));let b3:=B.aN;let c3:=b3=b3/\(∀d3:Nat,d3<b3->True/\B.bits d3=B.bits d3);let e3:=B.aP;
    let g3:=e3=e3/\(∀h3:Nat,h3<e3->True/\B.aF h3=B.aF h3);let k3:=B.aT;let l3:=k3=k3/\(∀o3:Nat,let q3:=B.aJ o3;o3<k3->True/\q3=q3/\(∀u3:Nat,u3<q3->True/\B.ready o3 u3=B.ready o3 u3));let v3:=B.aI;let w3:=v3=v3/\(∀x3:Nat,x3<v3->True/\B.aM x3=B.aM x3);let y3:=(((((((((((True/\b0)/\o0)/\x0=x0/\(∀z3:Nat,z3<x0->aD (A.af z3) (A.af z3)))/\a1=a1/\(∀a4:Nat,a4<a1->aE (A.tasks a4) (A.tasks a4)))/\v1)/\a2)/\d2)/\U)/\d1=d1/\(∀b4:Nat,let c4:=A.aA b4;b4<d1->True/\c4=c4/\(∀d4:Nat,d4<c4->ay (A.aj b4 d4) (A.aj b4 d4))))/\u2)/\A.time=A.time)/\(((((((((((True/\e0)/\v0)/\z0=z0/\(∀e4:Nat,e4<z0->aD (B.af e4) (B.af e4)))/\c1=c1/\(∀g4:Nat,g4<c1->aE (B.tasks g4) (B.tasks g4)))/\x2)/\c3)/\g3)/\l3)/\g1=g1/\(∀h4:Nat,let k4:=B.aA h4;h4<g1->True/\k4=k4/\(∀l4:Nat,l4<k4->ay (B.aj h4 l4) (B.aj h4 l4))))/\w3)/\B.time=B.time)/\True;let o4:=lq u1 A.ao A.lines w2 B.ao B.lines;let q4:=cond o4 (dk z1 A.bits b3 B.bits) false;let u4:=cond q4 (dk c2 A.aF e3 B.aF) false;let v4:=cond u4 (lq g2 A.aJ A.ready k3 B.aJ B.ready) false;tn 2 (((b0/\e0/\True)/\h0)/\(k0=false->(o0/\v0/\True)/\h0)/\(J=true->k1)/\(J=false->l1/\o1/\q1/\y3/\(0<=x0/\(∀w4:Nat,w4<0->oa (A.af w4) (B.af w4)=true))/\(∀x4:Nat,let y4:=(x4:Int);let z4:=decide (y4<y0);let a5:=A.af (Int.toNat y4);let b5:=B.af (Int.toNat y4);let c5:=!(a5.kind==b5.kind&&(a5.base==b5.base&&(a5.len==b5.len&&(a5.mark==b5.mark&&(a5.cQ==b5.cQ&&(a5.bJ==b5.bJ&&true)))))&&(a5.from_==b5.from_&&true));let d5:Int:=y4+1;x4<=x0/\(∀e5:Nat,e5<x4->
    oa (A.af e5) (B.af e5)=true)->y0<=9223372036854775807->(z4=true->tn 3 ((0<=y4/\y4<y0)/\tn 4 ((0<=y4/\y4<(z0:Int))/\True/\(c5=true->k1)/\(c5=false->ah d5=d5/\(∃g5:Nat,l1/\o1/\d5=(g5:Int)/\y3/\(g5<=x0/\(∀h5:Nat,h5<g5->oa (A.af h5) (B.af h5)=true))/\x0-g5<x0-x4)))))/\(z4=false->l1/\o1/\q1/\y3/\(0<=a1/\(∀k5:Nat,k5<0->ke (A.tasks k5) (B.tasks k5)=true))/\(∀l5:Nat,let o5:=(l5:Int);let q5:=decide (o5<b1);let u5:=A.tasks (Int.toNat o5);let v5:=B.tasks (Int.toNat o5);let w5:=!(u5.r0==v5.r0&&(u5.r1==v5.r1&&(u5.r2==v5.r2&&(u5.r3==v5.r3&&(u5.r4==v5.r4&&(u5.r5==v5.r5&&(u5.r6==v5.r6&&(u5.r7==v5.r7&&true)))))))&&(u5.pc==v5.pc&&(u5.st==v5.st&&(u5.prio==v5.prio&&(u5.node==v5.node&&(u5.space==v5.space&&(u5.helper==v5.helper&&(u5.loc==v5.loc&&(u5.word==v5.word&&(u5.bJ==v5.bJ&&(u5.aX==v5.aX&&(u5.core==v5.core&&(u5.dH==v5.dH&&true)))))))))))));let x5:Int:=o5+1;l5<=a1/\(∀y5:Nat,y5<l5->ke (A.tasks y5) (B.tasks y5)=true)->b1<=9223372036854775807->(q5=true->tn 3 ((0<=o5/\o5<b1)/\tn 4 ((0<=o5/\o5<(c1:Int))/\True/\(w5=true->k1)/\(w5=false->ah x5=x5/\(∃z5:Nat,l1/\o1/\x5=(z5:Int)/\y3/\(z5<=a1/\(∀a6:Nat,a6<z5->ke (A.tasks a6) (B.tasks a6)=true))/\a1-z5<a1-l5)))))/\(q5=false->l1/\o1/\q1/\y3/\(0<=d1/\(∀b6:Nat,b6<0->jL (A.aA b6) (A.aj b6) (B.aA b6) (B.aj b6)=true))/\(∀c6:Nat,let d6:=(c6:Int);let e6:=decide (d6<e1);let g6:=Int.toNat d6;let h6:=A.aA g6;let k6:=B.aA g6;let l6:=!jL h6 (A.aj g6) k6 (B.aj g6);let o6:Int:=d6+1;c6<=d1/\(∀q6:Nat,q6<c6->jL (A.aA q6) (A.aj q6) (B.aA q6) (B.aj q6)=true)->
    e1<=9223372036854775807->(e6=true->tn 3 ((0<=d6/\d6<e1)/\tn 4 ((0<=d6/\d6<(g1:Int))/\True/\(((h6=h6/\(∀u6:Nat,u6<h6->ay (A.aj g6 u6) (A.aj g6 u6)))/\(k6=k6/\(∀v6:Nat,v6<k6->ay (B.aj g6 v6) (B.aj g6 v6)))/\True)/\h0)/\(l6=true->k1)/\(l6=false->ah o6=o6/\(∃w6:Nat,l1/\o1/\o6=(w6:Int)/\y3/\(w6<=d1/\(∀x6:Nat,x6<w6->jL (A.aA x6) (A.aj x6) (B.aA x6) (B.aj x6)=true))/\d1-w6<d1-c6)))))/\(e6=false->((v1/\x2/\True)/\h0)/\(o4=true->(a2/\c3/\True)/\h0)/\(q4=true->(d2/\g3/\True)/\h0)/\(u4=true->(U/\l3/\True)/\h0)/\(v4=true->(u2/\w3/\True)/\h0)/\cond (cond v4 (dk q2 A.aM v3 B.aM) false) (A.time==B.time) false=kg A B/\True))))))))
theorem GZ:aL Tryz.prog aO 20 Rp:=aW (.cons yx (.cons RT (.cons RU .nil))) false Tryz.call20 Tryz.func20 (λ⟨A,B⟩=> [.inv (GI [2,3] [(2,bd 0),(3,bd 1)] 5 A.aw λi=>oa (A.af i) (B.af i)),.inv (GI [2,3] [(2,bd 0),(3,bd 1)] 6 A.az λi=>ke (A.tasks i) (B.tasks i)),.inv (GI [2,3] [(2,bd 0),(3,bd 1)] 7 A.aG λi=>jL (A.aA i) (A.aj i) (B.aA i) (B.aj i))]) (V:=Hl) (λ_=>by kernel_rfl) λ⟨A,B⟩ hp=>by
  dsimp only[Hl,tn,ah,ak,aE,aD,ay]
  simp only[aS,eq_self,implies_true,Bool.cond_self]
  refine⟨λh=>?_,λh=>?_⟩
  · cases hq:kg A B with
    |false=>rfl
    |true=>simp[kg]at hq;simp[hq]at h
  have hN:dk A.aq A.aa B.aq B.aa=true/\dk A.ar A.kinds B.ar B.kinds=true/\A.aw=B.aw/\A.az=B.az/\A.aG=B.aG:=by
    revert h
    cases dk A.aq A.aa B.aq B.aa<;>cases dk A.ar A.kinds B.ar B.kinds<;>simp<;>intros<;>refine⟨?_,?_,?_⟩<;>omega
  obtain⟨n1,n2,n3,n4,n5⟩:=hN
  refineλs1 eV _=>⟨λJ=>?_,λJ s2 eo _=>⟨λU=>?_,λU s3 xc _=>⟨λh3=>?_,λh3=>?_⟩⟩⟩
  · have ai:=aY J
    refine⟨by omega,by omega,λh=>?_,λh=>⟨by rw[IntKind.wrap_i64];omega,bZ ⟨⟨by omega,mZ eV.2 (dy (b:=oa _ _) h)⟩,by omega⟩⟩⟩
    simp[kg,j3 (p:=λi=>oa (A.af i) (B.af i)) ai (gM (b:=oa _ _) h)]
  · have ai:=aY U
    refine⟨by omega,by omega,λh=>?_,λh=>⟨by rw[IntKind.wrap_i64];omega,bZ ⟨⟨by omega,mZ eo.2 (dy (b:=ke _ _) h)⟩,by omega⟩⟩⟩
    simp[kg,j3 (p:=λi=>ke (A.tasks i) (B.tasks i)) ai (gM (b:=ke _ _) h)]
  · have ai:=aY h3
    refine⟨by omega,by omega,λh=>?_,λh=>⟨by rw[IntKind.wrap_i64];omega,bZ ⟨⟨by omega,mZ xc.2 (dy h)⟩,by omega⟩⟩⟩
    simp[kg,j3 (p:=λi=>jL (A.aA i) (A.aj i) (B.aA i) (B.aj i)) ai (gM h)]
  · obtain rfl:s1=A.aw:=by have:=bD J;omega
    obtain rfl:s2=A.az:=by have:=bD U;omega
    obtain rfl:s3=A.aG:=by have:=bD h3;omega
    simp only[kg,n1,n2,n3,n4,n5,Bool.true_and]
    rw[<-n3,<-n4,<-n5,mJ eV.2,mJ eo.2,mJ xc.2]
    simp
    trace_state
end Go.Proofs.YtmieeldmfehpoaaGreatDoor
