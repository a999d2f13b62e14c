/-
  Sy, the entry: what the data of a row's arguments stand for.
-/
import Derived.Test.YtbngaammbjaajaaGreatDoorYH
import Derived.ChangeArms
import Derived.OpenShut
import Derived.DataReads
import Derived.WideShapes
import Derived.Test.YtbngaammbjaajaaGreatDoorProg
import Derived.WalkKit
import Derived.LaidEql
import Derived.Stop.Asserts
import Derived.RowKitTokens
import Derived.Outline
import Derived.IntWalk
set_option linter.unusedVariables false
set_option linter.unusedSimpArgs false
set_option linter.unusedVariables false
set_option linter.unusedSimpArgs false
namespace Go.Sy
open Go.RowKit
def o0:Ow:=⟨λ_=>False,λ_=>False,λ_ _=>none,λ_=>(0,0)⟩
variable {H:Type}
def CQ:DataW H->Int| .lit (.int _ n)=>n|_=>0
def Tz:DataW H->Bool| .lit (.bool b)=>b|_=>false
def ya:DataW H->ByteArray| .lit (.string l)=>⟨l.toArray⟩|_=>ByteArray.empty
def rn:List (DataW H)->Nat->DataW H| [],_=> .nil|x::_,0=>x|_::r,n+1=>rn r n
def kZ:DataW H->Nat->DataW H| .agg l,i=>rn l i|_,_=> .nil
def py:DataW H->Nat| .slice l _=>l.length|_=>0
def xy:DataW H->Nat->DataW H| .slice l _,i=>rn l i|_,_=> .nil
def fieldAt (P:Program) (j:Nat):Nat->List Field->Option (Nat×Field)
  |_,[]=>none
  |k,f::r=>match Nat.ble f.offset j&&Nat.blt j (f.offset+P.cellsOf f.type)with|true=>some (k,f)|false=>fieldAt P j (k+1) r
def gT (P:Program):Nat->TypeId->DataW H->Nat->SV
  |0,_,_,_=> .aq
  |n+1,T,d,j=>
   match P.underlying T with
   |some (.int k)=>match j with|0=> .v (.int k (CQ d))|_=> .aq
   |some .bool=>match j with|0=> .v (.bool (Tz d))|_=> .aq
   |some .string=>match j with|0=> .v (.string (ya d))|_=> .aq
   |some (.slice E)=>match j with|0=> .sl true (P.cellsOf E) (py d) λa b=>gT P n E (xy d a) b|_=> .aq
   |some (.struct fs)=>match fieldAt P j 0 fs.toList with|some (k,f)=>gT P n f.type (kZ d k) (j -f.offset)|none=> .aq
   |some (.array m E)=>match Nat.blt 0 (P.cellsOf E)&&Nat.blt (j/P.cellsOf E) m with|true=>gT P n E (kZ d (j/P.cellsOf E)) (j%P.cellsOf E)|false=> .aq
   |_=> .aq
def CR (P:Program) (T:TypeId) (d:DataW H):SV:=
  match P.underlying T with
  |some u=>match jN u with|true=> .ag (P.cellsOf T) (gT P 8 T d)|false=>gT P 8 T d 0
  |none=> .aq
def oa (P:Program):Nat->TypeId->DataW H->Prop
  |0,_,_=>True
  |n+1,T,d=>
   match P.underlying T with
   |some (.int k)=>k.wrap (CQ d)=CQ d
   |some .string=>((ya d).size:Int)<=9223372036854775807
   |some (.slice E)=>(py d:Int)<=9223372036854775807/\ ∀i,i<py d->oa P n E (xy d i)
   |some (.struct fs)=>CS (oa P n) d 0 fs.toList
   |some (.array m E)=> ∀i,i<m->oa P n E (kZ d i)
   |_=>True
  where CS (rec:TypeId->DataW H->Prop) (d:DataW H):Nat->List Field->Prop
  |_,[]=>True
  |k,f::r=>rec f.type (kZ d k)/\CS rec d (k+1) r
theorem vV: ∀{l:List (DataW H)} {i:Nat} {x:DataW H},l[i]? =some x->rn l i=x
  | [],_,_,h=>by simp at h
  |_::_,0,_,h=>by simpa [rn]using h
  |_::_,i+1,_,h=>by simp only[rn];exact vV (by simpa using h)
theorem D7 {P:Program} {j:Nat}: ∀{l:List Field} {k k':Nat} {f:Field},fieldAt P j k l=some (k',f)->k<=k'/\l[k' -k]? =some f/\f.offset<=j/\j<f.offset+P.cellsOf f.type
  | [],_,_,_,h=>by simp[fieldAt]at h
  |g::r,k,k',f,h=>by
   unfold fieldAt at h
   split at h
   · next hb=>
     simp only[Option.some.injEq,Prod.mk.injEq]at h
     obtain⟨rfl,rfl⟩:=h
     simp only[Bool.and_eq_true,jM,Nat.ble_eq,decide_eq_true_eq]at hb
     exact⟨Nat.le_refl _,by simp,hb.1,hb.2⟩
   · obtain⟨J,U,h3⟩:=D7 h
     refine⟨by omega,?_,h3⟩
     rw[show k' -k=(k' -(k+1))+1 by omega]
     simpa using U
theorem He {rec:TypeId->DataW H->Prop} {d:DataW H}: ∀{l:List Field} {k:Nat},(∀i f,l[i]? =some f->rec f.type (kZ d (k+i)))->oa.CS rec d k l
  | [],_,_=>trivial
  |f::r,k,h=>⟨h 0 f rfl,He λi f hf=>by have:=h (i+1) f (by simpa using hf);rwa [show k+(i+1)=k+1+i by omega]at this⟩
theorem Pn {k:IntKind} {n:Int} (h:(Lit.int k n).wf=true):k.wrap n=n:=by
  cases k<;>simp[Lit.wf,IntKind.min,IntKind.max,IntKind.signed,IntKind.bits]at h<;>simp[IntKind.wrap,IntKind.signed,IntKind.bits]<;>(try split)<;>omega
variable {P:Program} {w:World} {enc:TypeId×Value->H} {base:Nat} {spare:Nat->Bool} {held:Bool}
theorem oC: ∀(n fuel:Nat) {T:TypeId} {cs:List Value} {x:DataW H×List MemPlace},DataW.trod enc P w base spare held fuel T cs=some x->
    (∀j,j<cs.length-> ∃y,cs[j]? =some y/\Den w o0 (gT P n T x.1 j) y)/\oa P n T x.1
  |0,_,T,cs,x,h=>⟨λj hj=>⟨_,List.getElem?_eq_getElem hj,trivial⟩,trivial⟩
  |n+1,fuel,T,cs,x,h=>by
   have aq: ∀{s:Nat->SV},(∀j,s j= .aq)-> ∀j,j<cs.length-> ∃y,cs[j]? =some y/\Den w o0 (s j) y:=λhs j hj=>⟨_,List.getElem?_eq_getElem hj,by rw[hs];trivial⟩
   unfold gT oa
   cases hu:P.underlying T with
   |none=>exact⟨aq λ_=>rfl,trivial⟩
   |some u=>
    cases u with
    |int k=>
     obtain⟨z,rfl,rfl,hw⟩:=DataW.trod_int hu h
     refine⟨λj hj=>?_,Pn hw⟩
     obtain rfl:j=0:=by simp at hj;exact hj
     exact⟨_,rfl,rfl⟩
    |bool=>
     obtain⟨z,rfl,rfl⟩:=DataW.trod_bool hu h
     refine⟨λj hj=>?_,trivial⟩
     obtain rfl:j=0:=by simp at hj;exact hj
     exact⟨_,rfl,rfl⟩
    |string=>
     obtain⟨z,rfl,rfl,hz⟩:=DataW.trod_string hu h
     have e:ya (.lit (.string z.data.toList):DataW H)=z:=by simp[ya]
     refine⟨λj hj=>?_,by rw[e];unfold maxLen at hz;omega⟩
     obtain rfl:j=0:=by simp at hj;exact hj
     exact⟨_,rfl,by simp only[Den];rw[e]⟩
    |slice E=>
     rcases DataW.trod_slice hu h with⟨rfl,rfl⟩|⟨a,len,cap,elems,rest,m,rfl,rfl,rfl,J,U,h3,h4,h5,_,_⟩
     · refine⟨λj hj=>?_,by simp[py],λi hi=>absurd hi (by simp[py])⟩
       obtain rfl:j=0:=by simp at hj;exact hj
       exact⟨_,rfl,none,0,rfl,Nat.le_refl _,Nat.zero_le _,.inl rfl⟩
     · have hlen:py (.slice (elems.map (·.1)) (rest.map (·.1)):DataW H)=len:=by simp[py,h4]
       have el: ∀i,i<len-> ∃y rK,elems[i]? =some y/\xy (.slice (elems.map (·.1)) (rest.map (·.1)):DataW H) i=y.1/\w.cells? base (a.add (i*P.cellsOf E)) (P.cellsOf E)=some rK/\DataW.trod enc P w base spare held m E rK=some y:=by
         intro i hi
         have h6:=h5 i hi
         rw[List.getElem?_eq_getElem (by omega)]at h6
         rw[Option.bind_eq_some_iff]at h6
         obtain⟨rK,h7,h8⟩:=h6
         exact⟨_,rK,List.getElem?_eq_getElem (by omega),vV (by rw[List.getElem?_map,List.getElem?_eq_getElem (by omega)];rfl),h7,h8⟩
       refine⟨λj hj=>?_,by rw[hlen];unfold maxLen at h3;omega,λi hi=>?_⟩
       · obtain rfl:j=0:=by simp at hj;exact hj
         refine⟨_,rfl,some a,cap,by rw[hlen],by rw[hlen];exact U,by rw[hlen];exact Nat.le_trans U h3,.inr ⟨a,rfl,λi hi q hq=>?_⟩⟩
         rw[hlen]at hi
         obtain⟨y,rK,h6,h7,h8,h9⟩:=el i hi
         obtain⟨g1,g2,g3⟩:=World.cells?_some h8
         obtain⟨z,cv,dM⟩:=(oC n m h9).1 q (by omega)
         refine⟨z,?_,⟨id,λ_=>id⟩,by
           show Den w o0.bare (gT P n E (xy (.slice (elems.map (·.1)) (rest.map (·.1))) i) q) z
           rw[h7];exact dM⟩
         have:=g3 q hq
         rw[add_add]at this
         rw[this];exact cv
       · rw[hlen]at hi
         obtain⟨y,rK,h6,h7,h8,h9⟩:=el i hi
         rw[h7];exact(oC n m h9).2
    |struct fs=>
     obtain⟨xs,m,rfl,rfl,hl,n_,hf⟩:=DataW.trod_struct hu h
     have part: ∀i f,fs.toList[i]? =some f-> ∃y,kZ (.agg (xs.map (·.1)):DataW H) i=y.1/\DataW.trod enc P w base spare held m f.type ((cs.drop f.offset).take (P.cellsOf f.type))=some y:=by
       intro i f hi
       have h6:=hf i f (by simpa using hi)
       have ai:i<xs.length:=by
         have:=(List.getElem?_eq_some_iff.1 hi).1
         simp at this;omega
       rw[List.getElem?_eq_getElem ai]at h6
       exact⟨_,vV (by rw[List.getElem?_map,List.getElem?_eq_getElem ai];rfl),h6⟩
     refine⟨λj hj=>?_,He λi f hi=>?_⟩
     · show∃y,_/\Den w o0 (match fieldAt P j 0 fs.toList with|some (k,f)=>gT P n f.type (kZ _ k) (j -f.offset)|none=> .aq) y
       cases UH:fieldAt P j 0 fs.toList with
       |none=>exact⟨_,List.getElem?_eq_getElem hj,trivial⟩
       |some kf=>
        obtain⟨k,f⟩:=kf
        obtain⟨_,h7,h8,h9⟩:=D7 UH
        obtain⟨y,cv,dM⟩:=part k f (by simpa using h7)
        have hlen:((cs.drop f.offset).take (P.cellsOf f.type)).length=min (P.cellsOf f.type) (cs.length -f.offset):=by simp
        obtain⟨z,ib,gJ⟩:=(oC n m dM).1 (j -f.offset) (by rw[hlen];omega)
        refine⟨z,?_,by show Den w o0 (gT P n f.type (kZ (.agg (xs.map (·.1))) k) (j -f.offset)) z;rw[cv];exact gJ⟩
        rw[List.getElem?_take_of_lt (by omega),List.getElem?_drop,show f.offset+(j -f.offset)=j by omega]at ib
        exact ib
     · rw[Nat.zero_add]
       obtain⟨y,cv,dM⟩:=part i f hi
       rw[cv];exact(oC n m dM).2
    |array q E=>
     obtain⟨xs,m,rfl,rfl,hl,n_,hf⟩:=DataW.trod_array hu h
     have part: ∀i,i<q-> ∃y,kZ (.agg (xs.map (·.1)):DataW H) i=y.1/\DataW.trod enc P w base spare held m E ((cs.drop (i*P.cellsOf E)).take (P.cellsOf E))=some y:=by
       intro i hi
       have h6:=hf i hi
       rw[List.getElem?_eq_getElem (by omega)]at h6
       exact⟨_,vV (by rw[List.getElem?_map,List.getElem?_eq_getElem (by omega)];rfl),h6⟩
     refine⟨λj hj=>?_,λi hi=>?_⟩
     · show∃y,_/\Den w o0 (match Nat.blt 0 (P.cellsOf E)&&Nat.blt (j/P.cellsOf E) q with|true=>gT P n E (kZ _ (j/P.cellsOf E)) (j%P.cellsOf E)|false=> .aq) y
       cases hb:Nat.blt 0 (P.cellsOf E)&&Nat.blt (j/P.cellsOf E) q with
       |false=>exact⟨_,List.getElem?_eq_getElem hj,trivial⟩
       |true=>
        rw[Bool.and_eq_true,jM,jM,decide_eq_true_eq,decide_eq_true_eq]at hb
        obtain⟨hz,hb⟩:=hb
        obtain⟨y,cv,dM⟩:=part _ hb
        · have Vj:=Nat.mod_lt j hz
          have Lj:=Nat.div_add_mod j (P.cellsOf E)
          rw[Nat.mul_comm]at Lj
          have hlen:((cs.drop ((j/P.cellsOf E)*P.cellsOf E)).take (P.cellsOf E)).length=min (P.cellsOf E) (cs.length -(j/P.cellsOf E)*P.cellsOf E):=by simp
          obtain⟨z,ib,gJ⟩:=(oC n m dM).1 (j%P.cellsOf E) (by rw[hlen];omega)
          refine⟨z,?_,by show Den w o0 (gT P n E (kZ (.agg (xs.map (·.1))) (j/P.cellsOf E)) (j%P.cellsOf E)) z;rw[cv];exact gJ⟩
          rw[List.getElem?_take_of_lt (by omega),List.getElem?_drop,Lj]at ib
          exact ib
     · obtain⟨y,cv,dM⟩:=part i hi
       rw[cv];exact(oC n m dM).2
    |_=>exact⟨aq λ_=>rfl,trivial⟩
theorem NY {T:TypeId} {v:Value} {d:DataW H} {p:List MemPlace} {r:Reach} {b:Nat} (h:DataW.Trod enc P w base spare held T v d p) (hv:Value.okWide P w r b T v):Den w o0 (CR P T d) v/\oa P 8 T d:=by
  obtain⟨fuel,h⟩:=h
  obtain⟨J,U⟩:=oC 8 fuel h
  refine⟨?_,U⟩
  have one:v.cells= #[v]->Den w o0 (gT P 8 T d 0) v:=λe=>by
    obtain⟨y,h3,h4⟩:=J 0 (by rw[e];simp)
    rw[e]at h3
    obtain rfl:v=y:=by simpa using h3
    exact h4
  unfold CR
  cases hu:P.underlying T with
  |none=>trivial
  |some u=>
   have agg: ∀cs,v= .agg cs->cs.size=P.cellsOf T->Den w o0 (.ag (P.cellsOf T) (gT P 8 T d)) v:=by
     rintro cs rfl hs
     refine⟨cs,rfl,hs,λj hj=>?_⟩
     obtain⟨y,h3,h4⟩:=J j (by show j<cs.toList.length;simp;omega)
     have h3:cs.toList[j]? =some y:=h3
     exact⟨y,by simpa using h3,h4⟩
   have jk:gT P 8 T d 0= .aq->Den w o0 (gT P 8 T d 0) v:=λe=>by rw[e];trivial
   cases u with
   |struct fs=>
    unfold Value.okWide at hv;rw[hu]at hv
    obtain⟨cs,e,hs,_⟩:=hv
    exact agg cs e hs
   |array n E=>
    unfold Value.okWide at hv;rw[hu]at hv
    obtain⟨cs,e,hs,_⟩:=hv
    exact agg cs e hs
   |int k=>obtain⟨n,rfl⟩:=WideShapes.okWide_int hu hv;exact one rfl
   |bool=>obtain⟨n,rfl⟩:=WideShapes.okWide_bool hu hv;exact one rfl
   |string=>obtain⟨n,rfl⟩:=WideShapes.okWide_string hu hv;exact one rfl
   |slice E=>obtain⟨a,l,c,rfl⟩:=WideShapes.okWide_slice hu hv;exact one rfl
   |_=>exact jk (by unfold gT;rw[hu])
def xA (P:Program):List TypeId->List (DataW H)->List SV
  |t::ts,d::ds=>CR P t d::xA P ts ds
  |_,_=> []
def yb (P:Program):List TypeId->List (DataW H)->Prop
  |t::ts,d::ds=>oa P 8 t d/\yb P ts ds
  |_,_=>True
theorem Ff {r:Reach} {b:Nat}: ∀{ts:List TypeId} {vs:List Value} {ds:List (DataW H)} {p:List MemPlace},DataW.TrodAll enc P w base spare held ts vs ds p->
    (∀(j:Nat) t v,ts[j]? =some t->vs[j]? =some v->Value.okWide P w r b t v)->bB w o0 (xA P ts ds) vs/\yb P ts ds
  | [],[],[],_,_,_=>⟨trivial,trivial⟩
  |t::ts,v::vs,d::ds,_,⟨p,q,J,U,_⟩,hv=>by
   obtain⟨h3,h4⟩:=NY J (hv 0 t v rfl rfl)
   obtain⟨h5,h6⟩:=Ff U (λj t v h h'=>hv (j+1) t v (by simpa using h) (by simpa using h'))
   exact⟨⟨h3,h5⟩,h4,h6⟩
theorem TA (W:World):ay W o0 (cF 0 []):=⟨(vC []).symm,λb ⟨k,p,L,h,_⟩=>(by cases h),λ_ h=>False.elim h,λ_ h=>False.elim h,λ_ h=>False.elim h,λ_ _ _ _ _ _ h=>(by cases h),λ_ _ _ h=>(by cases h),λ_ _ _ h=>(by cases h),λ_ _ h=>(by cases h),λ_ _ _ _=>rfl⟩
theorem NZ {Gl:Nat->SV} {f:Nat} {c:aX} (aZ:aW P Gl f c) {ts:List TypeId} {vs:Array Value} {ds:List (DataW H)} {p:List MemPlace} {r:Reach} {b:Nat}
    (hc: ∀ds:List (DataW H),ds.length=ts.length->yb P ts ds-> ∃pr,c.g (xA P ts ds) []=some (pr,.v (.bool true),[])/\pr)
    (hg: ∀g,Den w o0.bare (Gl g) (.pointer (some ⟨g,0,none⟩))) (h:DataW.TrodAll enc P w base spare held ts vs.toList ds p) (hl:ds.length=ts.length)
    (hv: ∀(j:Nat) t v,ts[j]? =some t->vs[j]? =some v->Value.okWide P w r b t v):
    Calls P f vs w λe W'=>e= .returned (.bool true)/\Below w.heap.size w W':=by
  obtain⟨J,U⟩:=Ff h (λj t v e e'=>hv j t v e (by simpa using e'))
  obtain⟨pr,h3,h4⟩:=hc ds hl U
  refine(aZ.fn _ _ _ _ _ h3 h4 w o0 vs hg (TA w) J).mono ?_
  rintro e W' ⟨v,ah,rfl,ha,_,hr,_⟩
  have hr:v= .bool true:=hr
  exact⟨by rw[hr],ha.os,ha.tape,ha.output,ha.size,λk hk=>ha.same k hk id⟩
theorem aW.up {Gl DH:Nat->SV} {f:Nat} {c:aX} (h:aW P DH f c) (hu: ∀g,DH g=Gl g\/DH g= .aq):aW P Gl f c:=
  ⟨h.call,λargs mem pre res ba e hp w ω vs hG=>h.fn args mem pre res ba e hp w ω vs λg=>by
    rcases hu g with e|e
    · rw[e];exact hG g
    · rw[e];trivial,h.pj⟩
def CT:Option (Prop×SV×List aO)->Prop
  |some (p,.v (.bool true),[])=>p
  |_=>False
theorem MY {x:Option (Prop×SV×List aO)} (h:CT x): ∃pr,x=some (pr,.v (.bool true),[])/\pr:=by
  unfold CT at h
  split at h
  · exact⟨_,rfl,h⟩
  · exact h.elim
def RU (P:Program) (ts:List TypeId):Array Value:=(ts.map λt=>match P.info? t with|some i=>i.zero.getD undef|none=>undef).toArray
end Go.Sy
namespace Go.Proofs.YtbngaammbjaajaaGreatDoor
open Go.RowKit Go.Extern.Stop Go.Stop Go.Extern
set_option linter.unusedVariables false
set_option linter.unusedSimpArgs false
/-! 73: *api.Fault · 75: **api.Fault · 30: api.Errno · 78: *api.Errno · 34: error · 130: reflectlite's rtype · 6: how many variables -/
theorem A.xJ (t:Addr) (w:World):(ReflectliteValue.unpack (.iface 75 (.pointer (some t)))).run Tryz.prog w
    = .ok (.agg #[.pointer (some ⟨1,75,none⟩),.pointer (some ⟨w.heap.size,0,none⟩),.int .u64 150]) (w.alloc (.cells #[.pointer (some t)] 75)):=by kernel_rfl
theorem A.xK (t:Addr) (w:World):(ReflectliteValue.unpack (.iface 78 (.pointer (some t)))).run Tryz.prog w
    = .ok (.agg #[.pointer (some ⟨1,78,none⟩),.pointer (some ⟨w.heap.size,0,none⟩),.int .u64 150]) (w.alloc (.cells #[.pointer (some t)] 78)):=by kernel_rfl
theorem A.xL (a : Addr) (w : World) : (ReflectliteValue.methodAny (ReflectliteValue.valueError "reflectlite.Value.Type" 0) (fun t _ _ _ => ReflectliteType.toType t) #[.agg #[.pointer (some ⟨1, 75, none⟩), .pointer (some a), .int .u64 150]]).run Tryz.prog w
 = .ok (.iface 130 (.agg #[.pointer (some ⟨1,75,none⟩)])) w:=by kernel_rfl
theorem A.xM (a : Addr) (w : World) : (ReflectliteValue.methodAny (ReflectliteValue.valueError "reflectlite.Value.Type" 0) (fun t _ _ _ => ReflectliteType.toType t) #[.agg #[.pointer (some ⟨1, 78, none⟩), .pointer (some a), .int .u64 150]]).run Tryz.prog w
 = .ok (.iface 130 (.agg #[.pointer (some ⟨1,78,none⟩)])) w:=by kernel_rfl
theorem A.xF (h : Value) (w : World) : (Go.method 273 130 (.agg #[h]) "Kind").run Tryz.prog w = .ok (104, h) w := by kernel_rfl
theorem A.yt (w:World):((ReflectliteType.abiMethod λt=>(λa:Nat=>Value.int IntKind.u8 (a:Int))<$>Rtype.kind t) #[.pointer (some ⟨1,75,none⟩)]).run Tryz.prog w= .ok (.int .u8 22) w:=by kernel_rfl
theorem A.yu (w:World):((ReflectliteType.abiMethod λt=>(λa:Nat=>Value.int IntKind.u8 (a:Int))<$>Rtype.kind t) #[.pointer (some ⟨1,78,none⟩)]).run Tryz.prog w= .ok (.int .u8 22) w:=by kernel_rfl
theorem A.zb (w:World):((ReflectliteType.abiMethod λt=>(λa:Nat=>Value.int IntKind.u8 (a:Int))<$>Rtype.kind t) #[.pointer (some ⟨1,73,none⟩)]).run Tryz.prog w= .ok (.int .u8 22) w:=by kernel_rfl
theorem A.zc (w:World):((ReflectliteType.abiMethod λt=>(λa:Nat=>Value.int IntKind.u8 (a:Int))<$>Rtype.kind t) #[.pointer (some ⟨1,30,none⟩)]).run Tryz.prog w= .ok (.int .u8 2) w:=by kernel_rfl
theorem A.xG (h : Value) (w : World) : (Go.method 273 130 (.agg #[h]) "Elem").run Tryz.prog w = .ok (116, .agg #[h]) w := by kernel_rfl
theorem A.xH (h : Value) (w : World) : (Go.method 273 130 (.agg #[h]) "Implements").run Tryz.prog w = .ok (117, .agg #[h]) w := by kernel_rfl
theorem A.xI (h : Value) (w : World) : (Go.method 273 130 (.agg #[h]) "AssignableTo").run Tryz.prog w = .ok (114, .agg #[h]) w := by kernel_rfl
theorem A.xN (w:World):(ReflectliteType.method ReflectliteType.elem #[.agg #[.pointer (some ⟨1,75,none⟩)]]).run Tryz.prog w= .ok (.iface 130 (.agg #[.pointer (some ⟨1,73,none⟩)])) w:=by kernel_rfl
theorem A.xO (w:World):(ReflectliteType.method ReflectliteType.elem #[.agg #[.pointer (some ⟨1,78,none⟩)]]).run Tryz.prog w= .ok (.iface 130 (.agg #[.pointer (some ⟨1,30,none⟩)])) w:=by kernel_rfl
theorem A.yw (w : World) : (ReflectliteType.relation "Implements" ReflectliteType.implements_ #[.agg #[.pointer (some ⟨1, 73, none⟩)], .iface 130 (.agg #[.pointer (some ⟨1, 34, none⟩)])]).run Tryz.prog w = .ok (.bool true) w := by kernel_rfl
theorem A.yx (w : World) : (ReflectliteType.relation "Implements" ReflectliteType.implements_ #[.agg #[.pointer (some ⟨1, 30, none⟩)], .iface 130 (.agg #[.pointer (some ⟨1, 34, none⟩)])]).run Tryz.prog w = .ok (.bool true) w := by kernel_rfl
theorem A.ym (v:Value) (w:World):(ReflectliteType.typeOf #[.iface 73 v]).run Tryz.prog w= .ok (.iface 130 (.agg #[.pointer (some ⟨1,73,none⟩)])) w:=by kernel_rfl
theorem A.yn (v:Value) (w:World):(ReflectliteType.typeOf #[.iface 30 v]).run Tryz.prog w= .ok (.iface 130 (.agg #[.pointer (some ⟨1,30,none⟩)])) w:=by kernel_rfl
theorem A.yo (w : World) : (ReflectliteType.relation "AssignableTo" ReflectliteType.assignableTo #[.agg #[.pointer (some ⟨1, 73, none⟩)], .iface 130 (.agg #[.pointer (some ⟨1, 73, none⟩)])]).run Tryz.prog w = .ok (.bool true) w := by kernel_rfl
theorem A.yp (w : World) : (ReflectliteType.relation "AssignableTo" ReflectliteType.assignableTo #[.agg #[.pointer (some ⟨1, 30, none⟩)], .iface 130 (.agg #[.pointer (some ⟨1, 30, none⟩)])]).run Tryz.prog w = .ok (.bool true) w := by kernel_rfl
theorem A.xf (w : World) : (ReflectliteType.relation "AssignableTo" ReflectliteType.assignableTo #[.agg #[.pointer (some ⟨1, 73, none⟩)], .iface 130 (.agg #[.pointer (some ⟨1, 30, none⟩)])]).run Tryz.prog w = .ok (.bool false) w := by kernel_rfl
theorem A.xg (w : World) : (ReflectliteType.relation "AssignableTo" ReflectliteType.assignableTo #[.agg #[.pointer (some ⟨1, 30, none⟩)], .iface 130 (.agg #[.pointer (some ⟨1, 73, none⟩)])]).run Tryz.prog w = .ok (.bool false) w := by kernel_rfl
theorem A.yq (e:Addr) (w:World):(ReflectliteValue.unpack (.iface 73 (.pointer (some e)))).run Tryz.prog w
    = .ok (.agg #[.pointer (some ⟨1,73,none⟩),.pointer (some ⟨w.heap.size,0,none⟩),.int .u64 150]) (w.alloc (.cells #[.pointer (some e)] 73)):=by kernel_rfl
theorem A.yr (e:Int) (w:World):(ReflectliteValue.unpack (.iface 30 (.int .i64 e))).run Tryz.prog w
    = .ok (.agg #[.pointer (some ⟨1,30,none⟩),.pointer (some ⟨w.heap.size,0,none⟩),.int .u64 130]) (w.alloc (.cells #[.int .i64 e] 30)):=by kernel_rfl
theorem A.v_ (v:Value) (w:World):(Instr.typeAssert (.iface 30 v) 34 135 true).run Tryz.prog w= .ok (.tuple #[.nilIface,.bool false]) w:=run_typeAssert_lacksB Tryz.underlying135 (by kernel_rfl) (by kernel_rfl) v 34 w
theorem A.wj (v:Value) (w:World):(Instr.typeAssert (.iface 30 v) 34 138 true).run Tryz.prog w= .ok (.tuple #[.nilIface,.bool false]) w:=run_typeAssert_lacksB Tryz.underlying138 (by kernel_rfl) (by kernel_rfl) v 34 w
theorem A.wo (v:Value) (w:World):(Instr.typeAssert (.iface 30 v) 34 139 true).run Tryz.prog w= .ok (.tuple #[.nilIface,.bool false]) w:=run_typeAssert_lacksB Tryz.underlying139 (by kernel_rfl) (by kernel_rfl) v 34 w
theorem A.wq (v:Value) (w:World):(Instr.typeAssert (.iface 73 v) 34 135 true).run Tryz.prog w= .ok (.tuple #[.nilIface,.bool false]) w:=run_typeAssert_lacksB Tryz.underlying135 (by kernel_rfl) (by kernel_rfl) v 34 w
theorem A.wu (v:Value) (w:World):(Instr.typeAssert (.iface 73 v) 34 138 true).run Tryz.prog w= .ok (.tuple #[.iface 73 v,.bool true]) w:=run_typeAssert_hasB Tryz.underlying138 (by kernel_rfl) v 34 w
theorem A.wK (e : Addr) (w : World) : (Go.method 273 73 (.pointer (some e)) "Unwrap").run Tryz.prog w = .ok (109, .pointer (some e)) w := by kernel_rfl
end Go.Proofs.YtbngaammbjaajaaGreatDoor
namespace Go.Proofs.YtbngaammbjaajaaGreatDoor
open Go.RowKit Go.Extern.Stop Go.Stop Go.Extern
set_option linter.unusedVariables false
set_option linter.unusedSimpArgs false
theorem A.zd (z:Sem Value) (f:TypeId->Addr->Nat->Nat->Sem Value) (v:Value):
    ReflectliteValue.method z f #[v]=(do match<-ReflectliteValue.parts v with|none=>z|some (t,a,fl)=>f t a fl (fl%32)):=rfl
theorem A.Lo (v x:Value):ReflectliteValue.set #[v,x]=(do
    let(some (dst,a,fl),some (src,b,_)):=(<-ReflectliteValue.parts v,<-ReflectliteValue.parts x)
      | unsupported (.noEntry "extern/(internal/reflectlite.Value).Set.zeroValue")
    if fl / ReflectliteValue.flagAddr % 2 == 0 then unsupported (.noEntry "extern/(internal/reflectlite.Value).Set.unaddressable")
    let val<-loadVar src b
    if<-Rtype.directlyAssignable dst src then storeVar dst a val
    else if<-Rtype.implements dst src then
      if(<-Rtype.kind src)==20 then
       match val with
       | .nilIface => unsupported (.noEntry "extern/reflectlite: a nil value of one interface type handed on as a value of another")
       |_=>storeVar dst a val
      else storeVar dst a (.iface src val)
    else panicString ("reflectlite.Set: value of type " ++ (← Rtype.spelt src) ++ " is not assignable to type " ++ (← Rtype.spelt dst))
    pure (.tuple #[])):=rfl
theorem A.F6 (a:Addr) (w:World):(ReflectliteValue.parts (.agg #[.pointer (some ⟨1,75,none⟩),.pointer (some a),.int .u64 150])).run Tryz.prog w= .ok (some (75,a,150)) w:=by kernel_rfl
theorem A.FY (a p:Addr) (W:World) (ha:W.cell? a=some (.pointer (some p))):
    (ReflectliteValue.method (ReflectliteValue.valueError "reflectlite.Value.IsNil" 0) ReflectliteValue.isNil #[.agg #[.pointer (some ⟨1, 75, none⟩), .pointer (some a), .int .u64 150]]).run Tryz.prog W = .ok (.bool false) W := by
  rw[A.zd]
  simp only[Sem.run_bind,A.F6,Result.andThen]
  simp[ReflectliteValue.isNil,loadVar,isAgg,underlying,Tryz.underlying75,ha,Result.andThen]
theorem A.M_ (w:World):(Rtype.elem? 75).run Tryz.prog w= .ok (some 73) w:=by kernel_rfl
theorem A.TI (p:Addr) (w:World):(ReflectliteValue.mk 73 p ReflectliteValue.flagAddr).run Tryz.prog w= .ok (.agg #[.pointer (some ⟨1,73,none⟩),.pointer (some p),.int .u64 406]) w:=by kernel_rfl
theorem A.N8 (a p:Addr) (W:World) (ha:W.cell? a=some (.pointer (some p))):
    (ReflectliteValue.method (ReflectliteValue.valueError "reflectlite.Value.Elem" 0) ReflectliteValue.elem #[.agg #[.pointer (some ⟨1, 75, none⟩), .pointer (some a), .int .u64 150]]).run Tryz.prog W
     = .ok (.agg #[.pointer (some ⟨1,73,none⟩),.pointer (some p),.int .u64 406]) W:=by
  rw[A.zd]
  simp only[Sem.run_bind,A.F6,Result.andThen]
  simp[ReflectliteValue.elem,loadVar,isAgg,underlying,Tryz.underlying75,ha,Result.andThen,A.M_,A.TI]
theorem A.N9 (a:Addr) (w:World):(ReflectliteValue.parts (.agg #[.pointer (some ⟨1,73,none⟩),.pointer (some a),.int .u64 406])).run Tryz.prog w= .ok (some (73,a,406)) w:=by kernel_rfl
theorem A.PH (a:Addr) (w:World):(ReflectliteValue.parts (.agg #[.pointer (some ⟨1,73,none⟩),.pointer (some a),.int .u64 150])).run Tryz.prog w= .ok (some (73,a,150)) w:=by kernel_rfl
theorem A.N_ (w:World):(Rtype.directlyAssignable 73 73).run Tryz.prog w= .ok true w:=by kernel_rfl
theorem A.Sv (ta b:Addr) (e:Addr) (iG:Value) (W:World) (hb:W.cell? b=some (.pointer (some e))) (ht:W.cell? ta=some iG) (hf:W.frozen? ta=false):
    (ReflectliteValue.set #[.agg #[.pointer (some ⟨1,73,none⟩),.pointer (some ta),.int .u64 406],.agg #[.pointer (some ⟨1,73,none⟩),.pointer (some b),.int .u64 150]]).run Tryz.prog W
      = .ok (.tuple #[]) (W.setCell ta (.pointer (some e))):=by
  rw[A.Lo]
  simp only[Sem.run_bind,A.N9,A.PH,Result.andThen]
  simp[ReflectliteValue.flagAddr,loadVar,isAgg,underlying,Tryz.underlying73,hb,Result.andThen,A.N_,storeVar,Value.cells,storeCells,Addr.add]
  rw[run_store Tryz.prog W ta _ _ (by rfl)]
  simp[ht,hf]
theorem A.F7 (a:Addr) (w:World):(ReflectliteValue.parts (.agg #[.pointer (some ⟨1,78,none⟩),.pointer (some a),.int .u64 150])).run Tryz.prog w= .ok (some (78,a,150)) w:=by kernel_rfl
theorem A.FZ (a p:Addr) (W:World) (ha:W.cell? a=some (.pointer (some p))):
    (ReflectliteValue.method (ReflectliteValue.valueError "reflectlite.Value.IsNil" 0) ReflectliteValue.isNil #[.agg #[.pointer (some ⟨1, 78, none⟩), .pointer (some a), .int .u64 150]]).run Tryz.prog W = .ok (.bool false) W := by
  rw[A.zd]
  simp only[Sem.run_bind,A.F7,Result.andThen]
  simp[ReflectliteValue.isNil,loadVar,isAgg,underlying,Tryz.underlying78,ha,Result.andThen]
theorem A.Na (w:World):(Rtype.elem? 78).run Tryz.prog w= .ok (some 30) w:=by kernel_rfl
theorem A.TK (p:Addr) (w:World):(ReflectliteValue.mk 30 p ReflectliteValue.flagAddr).run Tryz.prog w= .ok (.agg #[.pointer (some ⟨1,30,none⟩),.pointer (some p),.int .u64 386]) w:=by kernel_rfl
theorem A.F3 (a p:Addr) (W:World) (ha:W.cell? a=some (.pointer (some p))):
    (ReflectliteValue.method (ReflectliteValue.valueError "reflectlite.Value.Elem" 0) ReflectliteValue.elem #[.agg #[.pointer (some ⟨1, 78, none⟩), .pointer (some a), .int .u64 150]]).run Tryz.prog W
     = .ok (.agg #[.pointer (some ⟨1,30,none⟩),.pointer (some p),.int .u64 386]) W:=by
  rw[A.zd]
  simp only[Sem.run_bind,A.F7,Result.andThen]
  simp[ReflectliteValue.elem,loadVar,isAgg,underlying,Tryz.underlying78,ha,Result.andThen,A.Na,A.TK]
theorem A.N' (a:Addr) (w:World):(ReflectliteValue.parts (.agg #[.pointer (some ⟨1,30,none⟩),.pointer (some a),.int .u64 386])).run Tryz.prog w= .ok (some (30,a,386)) w:=by kernel_rfl
theorem A.PI (a:Addr) (w:World):(ReflectliteValue.parts (.agg #[.pointer (some ⟨1,30,none⟩),.pointer (some a),.int .u64 130])).run Tryz.prog w= .ok (some (30,a,130)) w:=by kernel_rfl
theorem A.Oa (w:World):(Rtype.directlyAssignable 30 30).run Tryz.prog w= .ok true w:=by kernel_rfl
theorem A.J6 (ta b:Addr) (e:Int) (iG:Value) (W:World) (hb:W.cell? b=some (.int .i64 e)) (ht:W.cell? ta=some iG) (hf:W.frozen? ta=false):
    (ReflectliteValue.set #[.agg #[.pointer (some ⟨1,30,none⟩),.pointer (some ta),.int .u64 386],.agg #[.pointer (some ⟨1,30,none⟩),.pointer (some b),.int .u64 130]]).run Tryz.prog W
      = .ok (.tuple #[]) (W.setCell ta (.int .i64 e)):=by
  rw[A.Lo]
  simp only[Sem.run_bind,A.N',A.PI,Result.andThen]
  simp[ReflectliteValue.flagAddr,loadVar,isAgg,underlying,Tryz.underlying30,hb,Result.andThen,A.Oa,storeVar,Value.cells,storeCells,Addr.add]
  rw[run_store Tryz.prog W ta _ _ (by rfl)]
  simp[ht,hf]
theorem A.yc (args:Array Value) (w:World):(callFunc 68 args).run Tryz.prog w=(((λargs=>ReflectliteValue.unpack (args.getD 0 (.tuple #[]))) args).run Tryz.prog w).andThen λv w'=> .ok (.value v) w':= @run_callFunc_extern Tryz.prog 68 _ (λargs=>ReflectliteValue.unpack (args.getD 0 (.tuple #[]))) Tryz.func68 (by kernel_rfl) (by kernel_rfl) (by kernel_rfl) (by kernel_rfl) args w
theorem A.yd (args : Array Value) (w : World) : (callFunc 69 args).run Tryz.prog w = (((ReflectliteValue.methodAny (ReflectliteValue.valueError "reflectlite.Value.Type" 0) (fun t _ _ _ => ReflectliteType.toType t)) args).run Tryz.prog w).andThen fun v w' => .ok (.value v) w' := @run_callFunc_extern Tryz.prog 69 _ (ReflectliteValue.methodAny (ReflectliteValue.valueError "reflectlite.Value.Type" 0) (fun t _ _ _ => ReflectliteType.toType t)) Tryz.func69 (by kernel_rfl) (by kernel_rfl) (by kernel_rfl) (by kernel_rfl) args w
theorem A.ye (args : Array Value) (w : World) : (callFunc 70 args).run Tryz.prog w = (((ReflectliteValue.method (ReflectliteValue.valueError "reflectlite.Value.IsNil" 0) ReflectliteValue.isNil) args).run Tryz.prog w).andThen fun v w' => .ok (.value v) w' := @run_callFunc_extern Tryz.prog 70 _ (ReflectliteValue.method (ReflectliteValue.valueError "reflectlite.Value.IsNil" 0) ReflectliteValue.isNil) Tryz.func70 (by kernel_rfl) (by kernel_rfl) (by kernel_rfl) (by kernel_rfl) args w
theorem A.yf (args:Array Value) (w:World):(callFunc 104 args).run Tryz.prog w=(((ReflectliteType.abiMethod λt=>do pure (.int .u8 (<-Rtype.kind t))) args).run Tryz.prog w).andThen λv w'=> .ok (.value v) w':= @run_callFunc_extern Tryz.prog 104 _ (ReflectliteType.abiMethod λt=>do pure (.int .u8 (<-Rtype.kind t))) Tryz.func104 (by kernel_rfl) (by kernel_rfl) (by kernel_rfl) (by kernel_rfl) args w
theorem A.yg (args:Array Value) (w:World):(callFunc 116 args).run Tryz.prog w=(((ReflectliteType.method ReflectliteType.elem) args).run Tryz.prog w).andThen λv w'=> .ok (.value v) w':= @run_callFunc_extern Tryz.prog 116 _ (ReflectliteType.method ReflectliteType.elem) Tryz.func116 (by kernel_rfl) (by kernel_rfl) (by kernel_rfl) (by kernel_rfl) args w
theorem A.yh (args : Array Value) (w : World) : (callFunc 117 args).run Tryz.prog w = (((ReflectliteType.relation "Implements" ReflectliteType.implements_) args).run Tryz.prog w).andThen fun v w' => .ok (.value v) w' := @run_callFunc_extern Tryz.prog 117 _ (ReflectliteType.relation "Implements" ReflectliteType.implements_) Tryz.func117 (by kernel_rfl) (by kernel_rfl) (by kernel_rfl) (by kernel_rfl) args w
theorem A.yi (args:Array Value) (w:World):(callFunc 85 args).run Tryz.prog w=((ReflectliteType.typeOf args).run Tryz.prog w).andThen λv w'=> .ok (.value v) w':= @run_callFunc_extern Tryz.prog 85 _ ReflectliteType.typeOf Tryz.func85 (by kernel_rfl) (by kernel_rfl) (by kernel_rfl) (by kernel_rfl) args w
theorem A.yj (args : Array Value) (w : World) : (callFunc 114 args).run Tryz.prog w = (((ReflectliteType.relation "AssignableTo" ReflectliteType.assignableTo) args).run Tryz.prog w).andThen fun v w' => .ok (.value v) w' := @run_callFunc_extern Tryz.prog 114 _ (ReflectliteType.relation "AssignableTo" ReflectliteType.assignableTo) Tryz.func114 (by kernel_rfl) (by kernel_rfl) (by kernel_rfl) (by kernel_rfl) args w
theorem A.yk (args : Array Value) (w : World) : (callFunc 86 args).run Tryz.prog w = (((ReflectliteValue.method (ReflectliteValue.valueError "reflectlite.Value.Elem" 0) ReflectliteValue.elem) args).run Tryz.prog w).andThen fun v w' => .ok (.value v) w' := @run_callFunc_extern Tryz.prog 86 _ (ReflectliteValue.method (ReflectliteValue.valueError "reflectlite.Value.Elem" 0) ReflectliteValue.elem) Tryz.func86 (by kernel_rfl) (by kernel_rfl) (by kernel_rfl) (by kernel_rfl) args w
theorem A.yl (args:Array Value) (w:World):(callFunc 87 args).run Tryz.prog w=((ReflectliteValue.set args).run Tryz.prog w).andThen λv w'=> .ok (.value v) w':= @run_callFunc_extern Tryz.prog 87 _ ReflectliteValue.set Tryz.func87 (by kernel_rfl) (by kernel_rfl) (by kernel_rfl) (by kernel_rfl) args w
end Go.Proofs.YtbngaammbjaajaaGreatDoor
namespace Go.Proofs.YtbngaammbjaajaaGreatDoor
open Go.RowKit Go.Extern.Stop Go.Stop Go.Extern
set_option linter.unusedVariables false
set_option linter.unusedSimpArgs false
theorem A.dG {w:World} {a:Addr} {x:Value} (h:w.cell? a=some x):a.block<w.heap.size:=by
  rcases Nat.lt_or_ge a.block w.heap.size with h'|h'
  · exact h'
  · simp[World.cell?,Array.getElem?_eq_none h']at h
theorem A.QP (e:Addr) (v:Value) (w:World) (h:w.cell? ⟨e.block,e.off+1,none⟩=some v):
    Calls Tryz.prog 109 #[.pointer (some e)] w λev w'=>ev= .returned v/\w'=w:=by
  go_enter Tryz.func109,Tryz.ntmps109
  go_wp2
  go_ret
  exact⟨rfl,rfl⟩
set_option maxHeartbeats 4000000 in
theorem A.TH (e:Addr) (t:Addr) (iG:Value) (w:World) (hg:w.cell? ⟨0,0,none⟩=some (.iface 130 (.agg #[.pointer (some ⟨1,34,none⟩)]))) (mf:w.cell? t=some iG) (rX:w.frozen? t=false):
    Calls Tryz.prog 30 #[.iface 73 (.pointer (some e)),.iface 75 (.pointer (some t))] w λev w'=>ev= .returned (.bool true)/\w'=(((((w.alloc (.cells #[.pointer (some t)] 75)).alloc (.cells #[.pointer (some ⟨1,75,none⟩),.pointer (some ⟨w.heap.size,0,none⟩),.int .u64 150] 108)).alloc (.cells #[.pointer (some ⟨1,75,none⟩),.pointer (some ⟨w.heap.size,0,none⟩),.int .u64 150] 108)).alloc (.cells #[.pointer (some e)] 73))).setCell t (.pointer (some e)):=by
  have B6:=A.yc
  have B7:=A.yd
  have B8:=A.ye
  have B9:=A.yf
  have B_:=A.yg
  have Ca:=A.yh
  have Cb:=A.yi
  have Cc:=A.yj
  have Cd:=A.yk
  have Ce:=A.yl
  have By:=A.xF
  have Bz:=A.xG
  have BA:=A.xH
  have BB:=A.xI
  have Cf:=A.ym
  have Cg:=A.yn
  have Ch:=A.yo
  have Ci:=A.yp
  have AS:=A.xf
  have AT:=A.xg
  have Cj:=A.yq
  have Ck:=A.yr
  have BC:=A.xJ
  have BD:=A.xK
  have BE:=A.xL
  have BF:=A.xM
  have Cl:=A.yt
  have Cm:=A.yu
  have CU:=A.zb
  have CV:=A.zc
  have BG:=A.xN
  have BH:=A.xO
  have Co:=A.yw
  have Cp:=A.yx
  have zI:=A.v_
  have zJ:=A.wj
  have zK:=A.wo
  have zL:=A.wq
  have zM:=A.wu
  have Al:=A.wK
  have n8:=A.FY ⟨w.heap.size,0,none⟩ t ((w.alloc (.cells #[.pointer (some t)] 75)).alloc (.cells #[.pointer (some ⟨1,75,none⟩),.pointer (some ⟨w.heap.size,0,none⟩),.int .u64 150] 108)) (by simp)
  have ai:0<w.heap.size:=A.dG hg
  have m_:t.block<w.heap.size:=A.dG mf
  have jW:(((w.alloc (.cells #[.pointer (some t)] 75)).alloc (.cells #[.pointer (some ⟨1,75,none⟩),.pointer (some ⟨w.heap.size,0,none⟩),.int .u64 150] 108))).cell? ⟨0,0,none⟩=some (.iface 130 (.agg #[.pointer (some ⟨1,34,none⟩)])):=by
    rw[World.cell?_alloc_lt _ _ ⟨0,0,none⟩ (by simp<;>omega),World.cell?_alloc_lt _ _ ⟨0,0,none⟩ ai];exact hg
  have el:=A.N8 ⟨w.heap.size,0,none⟩ t (((w.alloc (.cells #[.pointer (some t)] 75)).alloc (.cells #[.pointer (some ⟨1,75,none⟩),.pointer (some ⟨w.heap.size,0,none⟩),.int .u64 150] 108)).alloc (.cells #[.pointer (some ⟨1,75,none⟩),.pointer (some ⟨w.heap.size,0,none⟩),.int .u64 150] 108)) (by rw[World.cell?_alloc_lt _ _ ⟨w.heap.size,0,none⟩ (by simp<;>omega)];simp)
  have st:=A.Sv t ⟨w.heap.size+1+1+1,0,none⟩ e iG ((((w.alloc (.cells #[.pointer (some t)] 75)).alloc (.cells #[.pointer (some ⟨1,75,none⟩),.pointer (some ⟨w.heap.size,0,none⟩),.int .u64 150] 108)).alloc (.cells #[.pointer (some ⟨1,75,none⟩),.pointer (some ⟨w.heap.size,0,none⟩),.int .u64 150] 108)).alloc (.cells #[.pointer (some e)] 73))
    (by rw[World.cell?_alloc_at _ _ _ _ (by simp)];rfl)
    (by rw[World.cell?_alloc_lt _ _ t (by simp<;>omega),World.cell?_alloc_lt _ _ t (by simp<;>omega),World.cell?_alloc_lt _ _ t (by simp<;>omega),World.cell?_alloc_lt _ _ t m_];exact mf)
    (by rw[World.frozen?_alloc_old _ _ t (by simp<;>omega),World.frozen?_alloc_old _ _ t (by simp<;>omega),World.frozen?_alloc_old _ _ t (by simp<;>omega),World.frozen?_alloc_old _ _ t (Nat.ne_of_lt m_)];exact rX)
  go_enter Tryz.func30,Tryz.ntmps30
  go_wp2
  refine wp_loop_rounds 1 ?_
  rw[rounds_succ]
  go_wp2
  go_ret
  exact⟨rfl,rfl⟩
set_option maxHeartbeats 4000000 in
theorem A.TG (c:Int) (t:Addr) (iG:Value) (w:World) (hg:w.cell? ⟨0,0,none⟩=some (.iface 130 (.agg #[.pointer (some ⟨1,34,none⟩)]))) (mf:w.cell? t=some iG) (rX:w.frozen? t=false):
    Calls Tryz.prog 30 #[.iface 30 (.int .i64 c),.iface 78 (.pointer (some t))] w λev w'=>ev= .returned (.bool true)/\w'=(((((w.alloc (.cells #[.pointer (some t)] 78)).alloc (.cells #[.pointer (some ⟨1,78,none⟩),.pointer (some ⟨w.heap.size,0,none⟩),.int .u64 150] 108)).alloc (.cells #[.pointer (some ⟨1,78,none⟩),.pointer (some ⟨w.heap.size,0,none⟩),.int .u64 150] 108)).alloc (.cells #[.int .i64 c] 30))).setCell t (.int .i64 c):=by
  have B6:=A.yc
  have B7:=A.yd
  have B8:=A.ye
  have B9:=A.yf
  have B_:=A.yg
  have Ca:=A.yh
  have Cb:=A.yi
  have Cc:=A.yj
  have Cd:=A.yk
  have Ce:=A.yl
  have By:=A.xF
  have Bz:=A.xG
  have BA:=A.xH
  have BB:=A.xI
  have Cf:=A.ym
  have Cg:=A.yn
  have Ch:=A.yo
  have Ci:=A.yp
  have AS:=A.xf
  have AT:=A.xg
  have Cj:=A.yq
  have Ck:=A.yr
  have BC:=A.xJ
  have BD:=A.xK
  have BE:=A.xL
  have BF:=A.xM
  have Cl:=A.yt
  have Cm:=A.yu
  have CU:=A.zb
  have CV:=A.zc
  have BG:=A.xN
  have BH:=A.xO
  have Co:=A.yw
  have Cp:=A.yx
  have zI:=A.v_
  have zJ:=A.wj
  have zK:=A.wo
  have zL:=A.wq
  have zM:=A.wu
  have Al:=A.wK
  have n8:=A.FZ ⟨w.heap.size,0,none⟩ t ((w.alloc (.cells #[.pointer (some t)] 78)).alloc (.cells #[.pointer (some ⟨1,78,none⟩),.pointer (some ⟨w.heap.size,0,none⟩),.int .u64 150] 108)) (by simp)
  have ai:0<w.heap.size:=A.dG hg
  have m_:t.block<w.heap.size:=A.dG mf
  have jW:(((w.alloc (.cells #[.pointer (some t)] 78)).alloc (.cells #[.pointer (some ⟨1,78,none⟩),.pointer (some ⟨w.heap.size,0,none⟩),.int .u64 150] 108))).cell? ⟨0,0,none⟩=some (.iface 130 (.agg #[.pointer (some ⟨1,34,none⟩)])):=by
    rw[World.cell?_alloc_lt _ _ ⟨0,0,none⟩ (by simp<;>omega),World.cell?_alloc_lt _ _ ⟨0,0,none⟩ ai];exact hg
  have el:=A.F3 ⟨w.heap.size,0,none⟩ t (((w.alloc (.cells #[.pointer (some t)] 78)).alloc (.cells #[.pointer (some ⟨1,78,none⟩),.pointer (some ⟨w.heap.size,0,none⟩),.int .u64 150] 108)).alloc (.cells #[.pointer (some ⟨1,78,none⟩),.pointer (some ⟨w.heap.size,0,none⟩),.int .u64 150] 108)) (by rw[World.cell?_alloc_lt _ _ ⟨w.heap.size,0,none⟩ (by simp<;>omega)];simp)
  have st:=A.J6 t ⟨w.heap.size+1+1+1,0,none⟩ c iG ((((w.alloc (.cells #[.pointer (some t)] 78)).alloc (.cells #[.pointer (some ⟨1,78,none⟩),.pointer (some ⟨w.heap.size,0,none⟩),.int .u64 150] 108)).alloc (.cells #[.pointer (some ⟨1,78,none⟩),.pointer (some ⟨w.heap.size,0,none⟩),.int .u64 150] 108)).alloc (.cells #[.int .i64 c] 30))
    (by rw[World.cell?_alloc_at _ _ _ _ (by simp)];rfl)
    (by rw[World.cell?_alloc_lt _ _ t (by simp<;>omega),World.cell?_alloc_lt _ _ t (by simp<;>omega),World.cell?_alloc_lt _ _ t (by simp<;>omega),World.cell?_alloc_lt _ _ t m_];exact mf)
    (by rw[World.frozen?_alloc_old _ _ t (by simp<;>omega),World.frozen?_alloc_old _ _ t (by simp<;>omega),World.frozen?_alloc_old _ _ t (by simp<;>omega),World.frozen?_alloc_old _ _ t (Nat.ne_of_lt m_)];exact rX)
  go_enter Tryz.func30,Tryz.ntmps30
  go_wp2
  refine wp_loop_rounds 1 ?_
  rw[rounds_succ]
  go_wp2
  go_ret
  exact⟨rfl,rfl⟩
end Go.Proofs.YtbngaammbjaajaaGreatDoor
namespace Go.Proofs.YtbngaammbjaajaaGreatDoor
open Go.RowKit Go.Extern.Stop Go.Stop Go.Extern
set_option linter.unusedVariables false
set_option linter.unusedSimpArgs false
set_option maxHeartbeats 4000000 in
theorem A.PG (c:Int) (t:Addr) (iG:Value) (w:World) (hg:w.cell? ⟨0,0,none⟩=some (.iface 130 (.agg #[.pointer (some ⟨1,34,none⟩)]))) (mf:w.cell? t=some iG) (rX:w.frozen? t=false):
    Calls Tryz.prog 30 #[.iface 30 (.int .i64 c),.iface 75 (.pointer (some t))] w λev w'=>ev= .returned (.bool false)/\w'=(((w.alloc (.cells #[.pointer (some t)] 75)).alloc (.cells #[.pointer (some ⟨1,75,none⟩),.pointer (some ⟨w.heap.size,0,none⟩),.int .u64 150] 108)).alloc (.cells #[.pointer (some ⟨1,75,none⟩),.pointer (some ⟨w.heap.size,0,none⟩),.int .u64 150] 108)):=by
  have B6:=A.yc
  have B7:=A.yd
  have B8:=A.ye
  have B9:=A.yf
  have B_:=A.yg
  have Ca:=A.yh
  have Cb:=A.yi
  have Cc:=A.yj
  have Cd:=A.yk
  have Ce:=A.yl
  have By:=A.xF
  have Bz:=A.xG
  have BA:=A.xH
  have BB:=A.xI
  have Cf:=A.ym
  have Cg:=A.yn
  have Ch:=A.yo
  have Ci:=A.yp
  have AS:=A.xf
  have AT:=A.xg
  have Cj:=A.yq
  have Ck:=A.yr
  have BC:=A.xJ
  have BD:=A.xK
  have BE:=A.xL
  have BF:=A.xM
  have Cl:=A.yt
  have Cm:=A.yu
  have CU:=A.zb
  have CV:=A.zc
  have BG:=A.xN
  have BH:=A.xO
  have Co:=A.yw
  have Cp:=A.yx
  have zI:=A.v_
  have zJ:=A.wj
  have zK:=A.wo
  have zL:=A.wq
  have zM:=A.wu
  have Al:=A.wK
  have n8:=A.FY ⟨w.heap.size,0,none⟩ t ((w.alloc (.cells #[.pointer (some t)] 75)).alloc (.cells #[.pointer (some ⟨1,75,none⟩),.pointer (some ⟨w.heap.size,0,none⟩),.int .u64 150] 108)) (by simp)
  have ai:0<w.heap.size:=A.dG hg
  have m_:t.block<w.heap.size:=A.dG mf
  have jW:(((w.alloc (.cells #[.pointer (some t)] 75)).alloc (.cells #[.pointer (some ⟨1,75,none⟩),.pointer (some ⟨w.heap.size,0,none⟩),.int .u64 150] 108))).cell? ⟨0,0,none⟩=some (.iface 130 (.agg #[.pointer (some ⟨1,34,none⟩)])):=by
    rw[World.cell?_alloc_lt _ _ ⟨0,0,none⟩ (by simp<;>omega),World.cell?_alloc_lt _ _ ⟨0,0,none⟩ ai];exact hg
  go_enter Tryz.func30,Tryz.ntmps30
  go_wp2
  refine wp_loop_rounds 1 ?_
  rw[rounds_succ]
  go_wp2
  go_ret
  exact⟨rfl,rfl⟩
end Go.Proofs.YtbngaammbjaajaaGreatDoor
namespace Go.Proofs.YtbngaammbjaajaaGreatDoor
open Go.RowKit Go.Extern.Stop Go.Stop Go.Extern
set_option linter.unusedVariables false
set_option linter.unusedSimpArgs false
set_option maxHeartbeats 4000000 in
theorem A.Su (e:Addr) (c:Int) (t:Addr) (iG:Value) (w:World) (hg:w.cell? ⟨0,0,none⟩=some (.iface 130 (.agg #[.pointer (some ⟨1,34,none⟩)]))) (mf:w.cell? t=some iG) (rX:w.frozen? t=false) (hu:w.cell? ⟨e.block,e.off+1,none⟩=some (.iface 30 (.int .i64 c))):
    Calls Tryz.prog 30 #[.iface 73 (.pointer (some e)),.iface 78 (.pointer (some t))] w λev w'=>ev= .returned (.bool true)/\w'=(((((w.alloc (.cells #[.pointer (some t)] 78)).alloc (.cells #[.pointer (some ⟨1,78,none⟩),.pointer (some ⟨w.heap.size,0,none⟩),.int .u64 150] 108)).alloc (.cells #[.pointer (some ⟨1,78,none⟩),.pointer (some ⟨w.heap.size,0,none⟩),.int .u64 150] 108)).alloc (.cells #[.int .i64 c] 30))).setCell t (.int .i64 c):=by
  have B6:=A.yc
  have B7:=A.yd
  have B8:=A.ye
  have B9:=A.yf
  have B_:=A.yg
  have Ca:=A.yh
  have Cb:=A.yi
  have Cc:=A.yj
  have Cd:=A.yk
  have Ce:=A.yl
  have By:=A.xF
  have Bz:=A.xG
  have BA:=A.xH
  have BB:=A.xI
  have Cf:=A.ym
  have Cg:=A.yn
  have Ch:=A.yo
  have Ci:=A.yp
  have AS:=A.xf
  have AT:=A.xg
  have Cj:=A.yq
  have Ck:=A.yr
  have BC:=A.xJ
  have BD:=A.xK
  have BE:=A.xL
  have BF:=A.xM
  have Cl:=A.yt
  have Cm:=A.yu
  have CU:=A.zb
  have CV:=A.zc
  have BG:=A.xN
  have BH:=A.xO
  have Co:=A.yw
  have Cp:=A.yx
  have zI:=A.v_
  have zJ:=A.wj
  have zK:=A.wo
  have zL:=A.wq
  have zM:=A.wu
  have Al:=A.wK
  have n8:=A.FZ ⟨w.heap.size,0,none⟩ t ((w.alloc (.cells #[.pointer (some t)] 78)).alloc (.cells #[.pointer (some ⟨1,78,none⟩),.pointer (some ⟨w.heap.size,0,none⟩),.int .u64 150] 108)) (by simp)
  have ai:0<w.heap.size:=A.dG hg
  have m_:t.block<w.heap.size:=A.dG mf
  have jW:(((w.alloc (.cells #[.pointer (some t)] 78)).alloc (.cells #[.pointer (some ⟨1,78,none⟩),.pointer (some ⟨w.heap.size,0,none⟩),.int .u64 150] 108))).cell? ⟨0,0,none⟩=some (.iface 130 (.agg #[.pointer (some ⟨1,34,none⟩)])):=by
    rw[World.cell?_alloc_lt _ _ ⟨0,0,none⟩ (by simp<;>omega),World.cell?_alloc_lt _ _ ⟨0,0,none⟩ ai];exact hg
  have el:=A.F3 ⟨w.heap.size,0,none⟩ t (((w.alloc (.cells #[.pointer (some t)] 78)).alloc (.cells #[.pointer (some ⟨1,78,none⟩),.pointer (some ⟨w.heap.size,0,none⟩),.int .u64 150] 108)).alloc (.cells #[.pointer (some ⟨1,78,none⟩),.pointer (some ⟨w.heap.size,0,none⟩),.int .u64 150] 108)) (by rw[World.cell?_alloc_lt _ _ ⟨w.heap.size,0,none⟩ (by simp<;>omega)];simp)
  have st:=A.J6 t ⟨w.heap.size+1+1+1,0,none⟩ c iG ((((w.alloc (.cells #[.pointer (some t)] 78)).alloc (.cells #[.pointer (some ⟨1,78,none⟩),.pointer (some ⟨w.heap.size,0,none⟩),.int .u64 150] 108)).alloc (.cells #[.pointer (some ⟨1,78,none⟩),.pointer (some ⟨w.heap.size,0,none⟩),.int .u64 150] 108)).alloc (.cells #[.int .i64 c] 30))
    (by rw[World.cell?_alloc_at _ _ _ _ (by simp)];rfl)
    (by rw[World.cell?_alloc_lt _ _ t (by simp<;>omega),World.cell?_alloc_lt _ _ t (by simp<;>omega),World.cell?_alloc_lt _ _ t (by simp<;>omega),World.cell?_alloc_lt _ _ t m_];exact mf)
    (by rw[World.frozen?_alloc_old _ _ t (by simp<;>omega),World.frozen?_alloc_old _ _ t (by simp<;>omega),World.frozen?_alloc_old _ _ t (by simp<;>omega),World.frozen?_alloc_old _ _ t (Nat.ne_of_lt m_)];exact rX)
  have TL:=A.dG hu
  have za:e.block<w.heap.size:=TL
  have US:((((w.alloc (.cells #[.pointer (some t)] 78)).alloc (.cells #[.pointer (some ⟨1,78,none⟩),.pointer (some ⟨w.heap.size,0,none⟩),.int .u64 150] 108)).alloc (.cells #[.pointer (some ⟨1,78,none⟩),.pointer (some ⟨w.heap.size,0,none⟩),.int .u64 150] 108))).cell? ⟨e.block,e.off+1,none⟩=some (.iface 30 (.int .i64 c)):=by
    rw[World.cell?_alloc_lt _ _ _ (by simp<;>omega),World.cell?_alloc_lt _ _ _ (by simp<;>omega),World.cell?_alloc_lt _ _ ⟨e.block,e.off+1,none⟩ za];exact hu
  go_enter Tryz.func30,Tryz.ntmps30
  go_wp2
  refine wp_loop_rounds 2 ?_
  rw[rounds_succ]
  go_wp2_with (go_at_call 109;refine(A.QP e _ _ US).mono ?_;rintro e' w' ⟨rfl,rfl⟩)
  rw[rounds_succ]
  go_wp2
  go_ret
  exact⟨rfl,rfl⟩
end Go.Proofs.YtbngaammbjaajaaGreatDoor
namespace Go.Proofs.YtbngaammbjaajaaGreatDoor
open Go.RowKit
set_option linter.unusedVariables false
set_option linter.unusedSimpArgs false
structure A.Set (w:World) (t:Addr) (v:Value) (w':World):Prop where
  at_:w'.cell? t=some v
  free:w'.frozen? t=w.frozen? t
  size:w.heap.size<=w'.heap.size
  rest: ∀a:Addr,a.block<w.heap.size->a.block≠t.block->w'.cell? a=w.cell? a/\w'.frozen? a=w.frozen? a
  below: ∀B,B<=t.block->B<=w.heap.size->Below B w w'
theorem A.Bx {w:World} {t:Addr} {v iG:Value} {o1 o2 o3 o4:Obj} (h:w.cell? t=some iG):A.Set w t v (((((w.alloc o1).alloc o2).alloc o3).alloc o4).setCell t v):=by
  have ai:=A.dG h
  have s1:(w.alloc o1).heap.size=w.heap.size+1:=by simp
  have s2:((w.alloc o1).alloc o2).heap.size=w.heap.size+1+1:=by simp
  have s3:(((w.alloc o1).alloc o2).alloc o3).heap.size=w.heap.size+1+1+1:=by simp
  have hb: ∀B,B<=w.heap.size->Below B w ((((w.alloc o1).alloc o2).alloc o3).alloc o4):=λB hB=>
    ((((Below.refl B w).alloc (by omega) o1).alloc (by omega) o2).alloc (by omega) o3).alloc (by omega) o4
  have hc: ∀a:Addr,a.block<w.heap.size->((((w.alloc o1).alloc o2).alloc o3).alloc o4).cell? a=w.cell? a:=λa ha=>(hb _ (Nat.le_refl _)).cell ha
  have hf: ∀a:Addr,a.block<w.heap.size->((((w.alloc o1).alloc o2).alloc o3).alloc o4).frozen? a=w.frozen? a:=λa ha=>(hb _ (Nat.le_refl _)).frozen ha
  refine⟨?_,?_,?_,?_,?_⟩
  · exact World.cell?_setCell_same _ _ _ (by rw[hc t ai,h])
  · rw[World.frozen?_setCell,hf t ai]
  · simp;omega
  · intro a ha bq
    exact⟨by rw[World.cell?_setCell_other _ _ _ _ (λe=>bq (by rw[e])),hc a ha],by rw[World.frozen?_setCell,hf a ha]⟩
  · intro B J U
    exact(hb B U).setCell J v
structure A.Left (w:World) (w':World):Prop where
  size:w.heap.size<=w'.heap.size
  rest: ∀a:Addr,a.block<w.heap.size->w'.cell? a=w.cell? a/\w'.frozen? a=w.frozen? a
  below: ∀B,B<=w.heap.size->Below B w w'
theorem A.PF {w:World} {o1 o2 o3:Obj}:A.Left w (((w.alloc o1).alloc o2).alloc o3):=by
  have s1:(w.alloc o1).heap.size=w.heap.size+1:=by simp
  have s2:((w.alloc o1).alloc o2).heap.size=w.heap.size+1+1:=by simp
  have hb: ∀B,B<=w.heap.size->Below B w (((w.alloc o1).alloc o2).alloc o3):=λB hB=>
    (((Below.refl B w).alloc (by omega) o1).alloc (by omega) o2).alloc (by omega) o3
  exact⟨by simp<;>omega,λa ha=>⟨(hb _ (Nat.le_refl _)).cell ha,(hb _ (Nat.le_refl _)).frozen ha⟩,hb⟩
def A.jr:Value:= .iface 130 (.agg #[.pointer (some ⟨1,34,none⟩)])
theorem A.N7 (w:World):Calls Tryz.prog 18 #[.nilIface] w λev w'=>ev= .returned (.tuple #[.int .i64 0,.int .i64 (-1)])/\w'=w:=by
  go_enter Tryz.func18,Tryz.ntmps18
  go_wp2
  go_ret2
  exact⟨rfl,rfl⟩
set_option maxHeartbeats 400000 in
set_option maxRecDepth 100000 in
theorem A.QN (c:Int) (w:World) (hg:w.cell? ⟨0,0,none⟩=some A.jr):
    Calls Tryz.prog 18 #[.iface 30 (.int .i64 c)] w λev w'=>ev= .returned (.tuple #[.int .i64 c,.int .i64 (-1)])/\Below w.heap.size w w':=by
  have ai:0<w.heap.size:=A.dG hg
  have uY:(w.alloc (.cells #[.pointer none] 73)).cell? ⟨0,0,none⟩=some A.jr:=by rw[World.cell?_alloc_lt _ _ ⟨0,0,none⟩ ai];exact hg
  go_enter Tryz.func18,Tryz.ntmps18
  go_wp2_with (go_at_call 30;first
    |(have UP:=l1;refine(A.TG c ⟨w1.heap.size,0,none⟩ (.int .i64 0) _ jW (by simp) (by simp)).mono ?_;rintro e' w2 ⟨rfl,U⟩;have l2:A.Set _ ⟨w1.heap.size,0,none⟩ (.int .i64 c) w2:=U▸A.Bx (by simp;rfl);clear U;have UQ:=l2.at_)
    |(refine(A.PG c ⟨w.heap.size,0,none⟩ (.pointer none) _ uY (by simp) (by simp)).mono ?_;rintro e' w1 ⟨rfl,J⟩;have l1:A.Left _ w1:=J▸A.PF;clear J;have DQ:=l1.size;simp at DQ;have jW:(w1.alloc (.cells #[.int .i64 0] 30)).cell? ⟨0,0,none⟩=some A.jr:=(by rw[World.cell?_alloc_lt _ _ ⟨0,0,none⟩ (by show 0<w1.heap.size;omega),(l1.rest ⟨0,0,none⟩ (by simp<;>omega)).1];exact uY)))
  go_ret2
  refine⟨rfl,?_⟩
  exact(((Below.refl _ w).alloc (Nat.le_refl _) _).trans (l1.below _ (by simp))).trans (((Below.refl _ w1).alloc (by omega) _).trans (l2.below _ (by simp<;>omega) (by simp<;>omega)))
set_option maxHeartbeats 400000 in
set_option maxRecDepth 100000 in
theorem A.QO (e:Addr) (a c:Int) (w:World) (hg:w.cell? ⟨0,0,none⟩=some A.jr) (h0:w.cell? e=some (.int .i64 a)) (hu:w.cell? ⟨e.block,e.off+1,none⟩=some (.iface 30 (.int .i64 c))):
    Calls Tryz.prog 18 #[.iface 73 (.pointer (some e))] w λev w'=>ev= .returned (.tuple #[.int .i64 c,.int .i64 a])/\Below w.heap.size w w':=by
  have ai:0<w.heap.size:=A.dG hg
  have za:e.block<w.heap.size:=A.dG h0
  have uY:(w.alloc (.cells #[.pointer none] 73)).cell? ⟨0,0,none⟩=some A.jr:=by rw[World.cell?_alloc_lt _ _ ⟨0,0,none⟩ ai];exact hg
  go_enter Tryz.func18,Tryz.ntmps18
  go_wp2_with (go_at_call 30;first
    |(have UP:=l1;refine(A.Su e c ⟨w1.heap.size,0,none⟩ (.int .i64 0) _ jW (by simp) (by simp) UR).mono ?_;rintro e' w2 ⟨rfl,U⟩;have l2:A.Set _ ⟨w1.heap.size,0,none⟩ (.int .i64 c) w2:=U▸A.Bx (by simp;rfl);clear U;have UQ:=l2.at_)
    |(refine(A.TH e ⟨w.heap.size,0,none⟩ (.pointer none) _ uY (by simp) (by simp)).mono ?_;rintro e' w1 ⟨rfl,J⟩;have l1:A.Set _ ⟨w.heap.size,0,none⟩ (.pointer (some e)) w1:=J▸A.Bx (by simp;rfl);clear J;have DQ:=l1.size;simp at DQ;have l1a:=l1.at_
      have jW:(w1.alloc (.cells #[.int .i64 0] 30)).cell? ⟨0,0,none⟩=some A.jr:=(by rw[World.cell?_alloc_lt _ _ ⟨0,0,none⟩ (by show 0<w1.heap.size;omega),(l1.rest ⟨0,0,none⟩ (by simp<;>omega) (by show 0≠w.heap.size;omega)).1];exact uY)
      have UR:(w1.alloc (.cells #[.int .i64 0] 30)).cell? ⟨e.block,e.off+1,none⟩=some (.iface 30 (.int .i64 c)):=(by rw[World.cell?_alloc_lt _ _ ⟨e.block,e.off+1,none⟩ (by show e.block<w1.heap.size;omega),(l1.rest ⟨e.block,e.off+1,none⟩ (by simp<;>omega) (by show e.block≠w.heap.size;omega)).1,World.cell?_alloc_lt _ _ ⟨e.block,e.off+1,none⟩ za];exact hu)
      have h01:w1.cell? e=some (.int .i64 a):=(by rw[(l1.rest e (by simp<;>omega) (by show e.block≠w.heap.size;omega)).1,World.cell?_alloc_lt _ _ e za];exact h0)))
  go_ret2
  refine⟨rfl,?_⟩
  exact(((Below.refl _ w).alloc (Nat.le_refl _) _).trans (l1.below _ (Nat.le_refl _) (by simp))).trans (((Below.refl _ w1).alloc (by omega) _).trans (l2.below _ (by simp<;>omega) (by simp<;>omega)))
end Go.Proofs.YtbngaammbjaajaaGreatDoor
namespace Go.Sy
open Go.RowKit
theorem ke.N6 {P:Program} {Gl:Nat->SV} {f:Nat} {args:List SV} {res:SV}
    (h: ∀(w:World) (ω:Ow) (vs:Array Value),(∀g,Den w ω.bare (Gl g) (.pointer (some ⟨g,0,none⟩)))->bB w ω args vs.toList->Calls P f vs w λe w'=> ∃v,e= .returned v/\Below w.heap.size w w'/\Den w' ω res v):ke P Gl f args [] res []:=by
  intro w ω vs hG hm hd
  refine(h w ω vs hG hd).mono ?_
  rintro e w' ⟨v,rfl,hb,hr⟩
  have hc:Cw w w':=⟨hb.os,hb.tape,hb.output,hb.size,hb.block⟩
  exact⟨v,ω,rfl,⟨hb.os,hb.tape,hb.output,λb dc _=>hb.block b dc,λ_ _ h=>h,λ_ h=>h,hb.size⟩,hm.more hc,hr,λk hk=>by simp[mE]at hk⟩
end Go.Sy
namespace Go.Proofs.YtbngaammbjaajaaGreatDoor
open Go.RowKit Go.Sy
structure QL where
  e:Int
  a:Int
def QM:Sy.Spec where
  X:=QL
  args x:= [.er 30 73 x.e x.a]
  mem _:= []
  pre _:=True
  res x:= .tp 2 (aA [.v (.int .i64 x.e),.v (.int .i64 x.a)])
  ba _:= []
  dec args mem:=match args with| [a0]=>some ⟨KO a0,KP a0⟩|_=>none
def IN:aX:=⟨[],QM.g,none⟩
theorem PE {Gl:Nat->SV} (hG:Gl 0= .pt false 1 λ_=> .v A.jr) (e a:Int):ke Tryz.prog Gl 18 [.er 30 73 e a] [] (.tp 2 (aA [.v (.int .i64 e),.v (.int .i64 a)])) []:=by
  refine ke.N6 λw B vs hg hd=>?_
  obtain⟨u,rfl⟩: ∃u,vs= #[u]:=by
    have:=hd.len
    match vs,this with
    |⟨[u]⟩,_=>exact⟨u,rfl⟩
  have U:=hg 0
  rw[hG]at U
  obtain⟨p,hp,hj⟩:=U
  obtain⟨x,hc,hf,hx⟩:=hj 0 (by omega)
  cases hp
  obtain rfl:=hx
  have jW:w.cell? ⟨0,0,none⟩=some A.jr:=hc
  have hr: ∀w',Den w' B (.tp 2 (aA [.v (.int .i64 e),.v (.int .i64 a)])) (.tuple #[.int .i64 e,.int .i64 a]):=λw'=>⟨_,rfl,rfl,λj hj=>match j,hj with
    |0,_=>⟨_,rfl,rfl⟩
    |1,_=>⟨_,rfl,rfl⟩⟩
  rcases hd.1 with⟨rfl,rfl,h⟩|⟨_,rfl,h⟩|⟨_,h0,q,h,hf,_,c0,c1⟩
  · rw[h]
    refine(A.N7 w).mono ?_
    rintro ev w' ⟨rfl,rfl⟩
    exact⟨_,rfl,Below.refl _ _,hr _⟩
  · rw[h]
    refine(A.QN e w jW).mono ?_
    rintro ev w' ⟨rfl,hb⟩
    exact⟨_,rfl,hb,hr _⟩
  · rw[h]
    have c0:w.cell? q=some (.int .i64 a):=c0
    have c1:w.cell? ⟨q.block,q.off+1,none⟩=some (.iface 30 (.int .i64 e)):=c1
    refine(A.QO q a e w jW c0 c1).mono ?_
    rintro ev w' ⟨rfl,hb⟩
    exact⟨_,rfl,hb,hr _⟩
theorem QK {Gl:Nat->SV} (hG:Gl 0= .pt false 1 λ_=> .v A.jr):aW Tryz.prog Gl 18 IN:=GX (λl w=>Tryz.call18 l w) λx _=>PE hG x.e x.a
end Go.Proofs.YtbngaammbjaajaaGreatDoor
namespace Go.Proofs.YtbngaammbjaajaaGreatDoor
open Go.RowKit Go.Sy
def al (v m:Int):Bool:=decide (v<0)||decide (m<v)
def bf:Nat->SV:=λ_=> .aq
def rN:Nat->SV
  |0=> .pt false 1 λ_=> .v A.jr
  |_=> .aq
theorem nv: ∀g,bf g=rN g\/bf g= .aq:=λ_=> .inr rfl
theorem PD:aW Tryz.prog rN 18 IN:=QK rfl
end Go.Proofs.YtbngaammbjaajaaGreatDoor
set_option linter.unusedVariables false
set_option linter.unusedSimpArgs false
set_option maxRecDepth 100000
namespace Go.Proofs.YtbngaammbjaajaaGreatDoor
open Go.RowKit Go.Sy
structure J2 where
  (v m:Int)
def Sp:Sy.Spec:=⟨J2,λ⟨v,m⟩=> [.v (.int .i64 v),.v (.int .i64 m)],λ_=> [],λ_=>True,λ⟨v,m⟩=> .v (.bool (al v m)),λ_=> [],
  λargs mem=>match args with| [a0,a1]=>some ⟨ao (a0),ao (a1)⟩|_=>none⟩
def Sq:aX:=⟨[],(Sp).g,none⟩
def J3:J2->Prop:=λ⟨v,m⟩=>cond (decide (v<0)) true (decide (m<v))=al v m/\True
theorem qK:aW Tryz.prog bf 32 Sq:=bd .nil false Tryz.call32 Tryz.func32 (λ_=> []) (V:=J3) (λ_=>by kernel_rfl) λ⟨v,m⟩ hp=>by
  dsimp only[J3,tn,ak]
  refine⟨?_,trivial⟩
  unfold al;cases decide (v<0)<;>rfl
structure J4 where
  (e:Int)
def Sr:Sy.Spec:=⟨J4,λ⟨e⟩=> [.v (.int .i64 e)],λ_=> [],λ_=>True,λ⟨e⟩=> .ag 2 (aA [.v (.int .i64 e),.v (.int .i64 (-1))]),λ_=> [],
  λargs mem=>match args with| [a0]=>some ⟨ao (a0)⟩|_=>none⟩
def Ss:aX:=⟨[],(Sr).g,none⟩
def J5:J4->Prop:=λ⟨e⟩=>True/\(True/\True)/\((True/\e=e)/\((-1):Int)=(-1))/\True
theorem Iz:aW Tryz.prog bf 9 Ss:=bd .nil false Tryz.call9 Tryz.func9 (λ_=> []) (V:=J5) (λ_=>by kernel_rfl) λ⟨e⟩ hp=>by
  dsimp only[J5,tn,ak]
  simp
structure IL where
  (J1:Unit)
def QI:Sy.Spec:=⟨IL,λ_=> [],λ_=> [],λ_=>True,λ_=> .ag 2 (aA [.v (.int .i64 0),.v (.int .i64 (-1))]),λ_=> [],
  λargs mem=>match args with| []=>some ⟨()⟩|_=>none⟩
def QJ:aX:=⟨[],(QI).g,none⟩
def IM:IL->Prop:=λ_=>True/\(True/\True)/\((True/\(0:Int)=0)/\((-1):Int)=(-1))/\True
theorem PC:aW Tryz.prog bf 40 QJ:=bd .nil false Tryz.call40 Tryz.func40 (λ_=> []) (V:=IM) (λ_=>by kernel_rfl) λ_ hp=>by
  dsimp only[IM,tn,ak]
  simp
end Go.Proofs.YtbngaammbjaajaaGreatDoor
namespace Go.Sy
theorem zi {x:Int} (h0:0<=x) (J:x<9223372036854775808):(BitVec.ofInt 64 x).toNat=x.toNat:=by
  rw[BitVec.toNat_ofInt]
  congr 1
  exact Int.emod_eq_of_lt h0 (by simpa using (by omega:x<18446744073709551616))
theorem Ml {n:Nat} (h:n<9223372036854775808):IntKind.i64.wrap (n:Int)=n:=by
  rw[IntKind.wrap_i64];omega
theorem Cq {x y:Int} (hx:0<=x) (kq:x<9223372036854775808) (hy:0<=y) (UT:y<9223372036854775808):cT .and .i64 x y=((x.toNat&&&y.toNat:Nat):Int):=by
  show IntKind.i64.wrap ((BitVec.ofInt 64 x&&&BitVec.ofInt 64 y).toNat:Int)=_
  rw[BitVec.toNat_and,zi hx kq,zi hy UT]
  exact Ml (Nat.lt_of_le_of_lt Nat.and_le_left (by omega))
theorem xe (n:Nat) (hn:n<=62) {x m:Int} (hm:m=2^n -1):cT .and .i64 x m=x%2^n:=by
  show IntKind.i64.wrap ((BitVec.ofInt 64 x&&&BitVec.ofInt 64 m).toNat:Int)=_
  have hp:(2:Nat)^n<=2^62:=Nat.pow_le_pow_right (by omega) hn
  have eM:(1:Nat)<=2^n:=Nat.one_le_two_pow
  have hc:((2:Int)^n)=((2^n:Nat):Int):=by simp
  have nU:0<=m:=by rw[hm,hc];omega
  have m3:m<9223372036854775808:=by rw[hm,hc];omega
  rw[BitVec.toNat_and,zi nU m3]
  have e:m.toNat=2^n -1:=by rw[hm,hc];omega
  rw[e,Nat.and_two_pow_sub_one_eq_mod,BitVec.toNat_ofInt]
  have hd:((x%((2^64:Nat):Int)).toNat%2^n:Nat)=(x%2^n).toNat:=by
    apply Int.ofNat.inj
    show(((x%((2^64:Nat):Int)).toNat%2^n:Nat):Int)=((x%2^n).toNat:Int)
    have UU:(0:Int)<=x%((2^64:Nat):Int):=Int.emod_nonneg _ (by decide)
    have rI:(0:Int)<=x%2^n:=Int.emod_nonneg _ (by rw[hc];omega)
    rw[Int.natCast_emod,Int.toNat_of_nonneg UU,Int.toNat_of_nonneg rI,hc]
    refine Int.emod_emod_of_dvd x ?_
    exact Int.natCast_dvd_natCast.2 (Nat.pow_dvd_pow 2 (by omega))
  rw[hd]
  have rI:(0:Int)<=x%2^n:=Int.emod_nonneg _ (by rw[hc];omega)
  have UW:x%2^n<2^n:=Int.emod_lt_of_pos _ (by rw[hc];omega)
  rw[Int.toNat_of_nonneg rI,IntKind.wrap_i64]
  rw[hc]at rI UW⊢
  omega
end Go.Sy
set_option linter.unusedVariables false
set_option linter.unusedSimpArgs false
set_option maxRecDepth 100000
namespace Go.Proofs.YtbngaammbjaajaaGreatDoor
open Go.RowKit Go.Sy
end Go.Proofs.YtbngaammbjaajaaGreatDoor
set_option linter.unusedVariables false
set_option linter.unusedSimpArgs false
set_option maxRecDepth 100000
namespace Go.Proofs.YtbngaammbjaajaaGreatDoor
open Go.RowKit Go.Sy
def DP (x:Int):Prop:= -9223372036854775808<=x/\x<=9223372036854775807
theorem DP.wrap {x:Int} (h:DP x):IntKind.i64.wrap x=x:=by unfold DP at h;rw[IntKind.wrap_i64];omega
def fj:Nat->(Nat->Bool)->Bool
  |0,_=>true
  |n+1,p=>fj n p&&p n
theorem my {p:Nat->Bool}: ∀{n:Nat},fj n p=true↔ ∀i,i<n->p i=true
  |0=>by simp[fj]
  |n+1=>by
   simp only[fj,Bool.and_eq_true,my (n:=n)]
   refine⟨λh i hi=>?_,λh=>⟨λi hi=>h i (by omega),h n (by omega)⟩⟩
   rcases Nat.lt_succ_iff_lt_or_eq.1 hi with h'|rfl
   · exact h.1 i h'
   · exact h.2
theorem mr {p:Nat->Bool} {n i:Nat} (hi:i<n) (h:p i=false):fj n p=false:=by
  cases hq:fj n p with
  |false=>rfl
  |true=>rw[my.1 hq i hi]at h;cases h
def j6 (n:Nat) (a:Nat->Int) (m:Nat) (b:Nat->Int):Bool:=(n==m)&&fj n λi=>a i==b i
structure IJ where
  (n:Nat) (a:Nat->Int) (m:Nat) (b:Nat->Int)
def QG:Sy.Spec:=⟨IJ,λ⟨n,a,m,b⟩=> [.sl true 1 n (λi_ _=> .v (.int .i64 (a i_))),.sl true 1 m (λi_ _=> .v (.int .i64 (b i_)))],λ_=> [],λ_=>True,λ⟨n,a,m,b⟩=> .v (.bool (j6 n a m b)),λ_=> [],
  λargs mem=>match args with| [a0,a1]=>some ⟨bN a0,λi=>ao (bD a0 i 0),bN a1,λi=>ao (bD a1 i 0)⟩|_=>none⟩
def QH:aX:=⟨[],(QG).g,none⟩
def PB (n:Nat) (a b:Nat->Int):bH where
  σ:=Nat
  rt:= []
  sh i:= [(5,.v (.int .i64 i))]
  mh _:= []
  inv i:=i<=n/\ ∀j,j<i->a j=b j
  μ i:=n -i
  init:=0
def IK:IJ->Prop:=λ⟨n,a,m,b⟩=>let a0:=(n:Int);let b0:=a0 !=(m:Int);let c0:=j6 n a m b;let d0:=false=c0/\True;a0<=9223372036854775807->(m:Int)<=9223372036854775807->(b0=true->d0)/\(b0=false->0=((0:Nat):Int)/\True/\(0<=n/\(∀e0:Nat,e0<0->a e0=b e0))/\(∀g0:Nat,let h0:=(g0:Int);let k0:=decide (h0<a0);let l0:=a (Int.toNat h0) !=b (Int.toNat h0);let o0:Int:=h0+1;g0<=n/\(∀q0:Nat,q0<g0->a q0=b q0)->a0<=9223372036854775807->(k0=true->tn 2 ((0<=h0/\h0<a0)/\tn 3 ((0<=h0/\h0<(m:Int))/\True/\(l0=true->d0)/\(l0=false->ak o0=o0/\(∃r0:Nat,o0=(r0:Int)/\True/\(r0<=n/\(∀u0:Nat,u0<r0->a u0=b u0))/\n-r0<n-g0)))))/\(k0=false->true=c0/\True)))
theorem Hf:aW Tryz.prog bf 10 QH:=bd .nil false Tryz.call10 Tryz.func10 (λ⟨n,a,_,b⟩=> [.inv (PB n a b)]) (V:=IK) (λ_=>by kernel_rfl) λ⟨n,a,m,b⟩ hp=>by
  dsimp only[IK,tn,ak]
  refineλ_ _=>⟨λh=>?_,λh=>?_⟩
  · have:(n==m)=false:=by simp at h;simp;omega
    simp[j6,this]
  · have UN:n=m:=by simp at h;omega
    subst UN
    refine⟨rfl,trivial,⟨by omega,λj hj=>absurd hj (by omega)⟩,λs hs hn=>⟨λh=>?_,λh=>?_⟩⟩
    · have ai:s<n:=by simpa using h
      rw[show Int.toNat (s:Int)=s from Int.toNat_natCast s]
      refine⟨trivial,trivial,by omega,trivial,trivial,trivial,by omega,trivial,λh=>?_,λh=>?_⟩
      · have:(a s==b s)=false:=by simp at h;simpa using h
        simp[j6,mr (p:=λi=>a i==b i) ai this]
      · have:a s=b s:=by simpa using h
        refine⟨by rw[IntKind.wrap_i64];omega,s+1,rfl,trivial,⟨by omega,λj hj=>?_⟩,by omega⟩
        rcases Nat.lt_or_ge j s with h3|h3
        · exact hs.2 j h3
        · obtain rfl:j=s:=by omega
          exact this
    · have bI: ¬s<n:=by simpa using h
      obtain rfl:s=n:=by omega
      have:fj s (λi=>a i==b i)=true:=my.2 λi hi=>by simp[hs.2 i hi]
      simp[j6,this]
end Go.Proofs.YtbngaammbjaajaaGreatDoor
set_option linter.unusedVariables false
set_option linter.unusedSimpArgs false
set_option maxRecDepth 100000
namespace Go.Proofs.YtbngaammbjaajaaGreatDoor
open Go.RowKit Go.Sy
structure dN where
  r0:Int
  r1:Int
  r2:Int
  r3:Int
  r4:Int
  r5:Int
  r6:Int
  r7:Int
  pc:Int
  st:Int
  prio:Int
  node:Int
  space:Int
  helper:Int
  loc:Int
  word:Int
  bS:Int
  bK:Int
  core:Int
  gr:Int
def jf (t:dN):List SV:= [.v (.int .i64 t.r0),.v (.int .i64 t.r1),.v (.int .i64 t.r2),.v (.int .i64 t.r3),.v (.int .i64 t.r4),.v (.int .i64 t.r5),.v (.int .i64 t.r6),.v (.int .i64 t.r7),.v (.int .i64 t.pc),.v (.int .i64 t.st),.v (.int .i64 t.prio),.v (.int .i64 t.node),.v (.int .i64 t.space),.v (.int .i64 t.helper),.v (.int .i64 t.loc),.v (.int .i64 t.word),.v (.int .i64 t.bS),.v (.int .i64 t.bK),.v (.int .i64 t.core),.v (.int .i64 t.gr)]
def dN.blank:dN:=⟨0,0,0,0,0,0,0,0,0,0,0,-1,-1,-1,-1,0,0,-1,0,0⟩
def iz (op:Int) (a b:Nat):Nat:=bif op==6 then a&&&b else bif op==7 then a|||b else a^^^b
def tE (op x y:Int):Bool:=(op==6&&x+y==2)||(op==7&&decide (0<x+y))||(op==8&&x+y==1)
theorem M8 {op:Int} (ho:op=6\/op=7\/op=8) (a b k:Nat):iz op a b%2^(k+1)=iz op a b%2^k+(if tE op ((a/2^k%2:Nat):Int) ((b/2^k%2:Nat):Int)=true then 2^k else 0):=by
  rw[Nat.mod_pow_succ]
  congr 1
  have hb:iz op a b/2^k%2=if tE op ((a/2^k%2:Nat):Int) ((b/2^k%2:Nat):Int)=true then 1 else 0:=by
    have e: ∀x:Nat,x/2^k%2=(x.testBit k).toNat:=λx=>by rw[Nat.testBit_eq_decide_div_mod_eq];rcases Nat.mod_two_eq_zero_or_one (x/2^k)with h|h<;>simp[h]
    rw[e,e,e]
    rcases ho with rfl|rfl|rfl<;>simp only[iz,tE]<;>simp[Nat.testBit_and,Nat.testBit_or,Nat.testBit_xor]<;>cases a.testBit k<;>cases b.testBit k<;>decide
  rw[hb];split<;>simp
theorem Py {op:Int} {a b n:Nat} (ha:a<2^n) (hb:b<2^n):iz op a b<2^n:=by
  unfold iz
  cases op==6<;>cases op==7<;>simp only[cond_true,cond_false]
  · exact Nat.xor_lt_two_pow ha hb
  · exact Nat.or_lt_two_pow ha hb
  · exact Nat.lt_of_le_of_lt Nat.and_le_left ha
  · exact Nat.lt_of_le_of_lt Nat.and_le_left ha
structure Hv where
  (J1:Unit)
def Pz:Sy.Spec:=⟨Hv,λ_=> [],λ_=> [],λ_=>True,λ_=> .ag 20 (aA (jf dN.blank)),λ_=> [],
  λargs mem=>match args with| []=>some ⟨()⟩|_=>none⟩
def PA:aX:=⟨[],(Pz).g,none⟩
def Hw:Hv->Prop:=λ_=>let a0:=(0:Int)=0;let b0:=((-1):Int)=(-1);True/\tn 19 True/\((((((((((((((((((((True/\a0)/\a0)/\a0)/\a0)/\a0)/\a0)/\a0)/\a0)/\a0)/\a0)/\a0)/\b0)/\b0)/\b0)/\b0)/\a0)/\a0)/\b0)/\a0)/\a0)/\True
theorem N5:aW Tryz.prog bf 74 PA:=bd .nil false Tryz.call74 Tryz.func74 (λ_=> []) (V:=Hw) (λ_=>by kernel_rfl) λ_ hp=>by
  dsimp only[Hw,tn,ak]
  simp[dN.blank]
structure Fg where
  (a b op:Int)
def Fh:Sy.Spec:=⟨Fg,λ⟨a,b,op⟩=> [.v (.int .i64 a),.v (.int .i64 b),.v (.int .i64 op)],λ_=> [],λ⟨a,b,op⟩=>0<=a/\a<=65535/\0<=b/\b<=65535/\(op=6\/op=7\/op=8),λ⟨a,b,op⟩=> .v (.int .i64 (iz op a.toNat b.toNat:Nat)),λ_=> [],
  λargs mem=>match args with| [a0,a1,a2]=>some ⟨ao (a0),ao (a1),ao (a2)⟩|_=>none⟩
def M9:aX:=⟨[],(Fh).g,none⟩
def Mj (a b op:Int):bH where
  σ:=Nat
  rt:= []
  sh k:= [(8,.v (.int .i64 (2^k:Nat))),(7,.v (.int .i64 (iz op a.toNat b.toNat%2^k:Nat)))]
  mh _:= []
  inv k:=k<=16
  μ k:=16 -k
  init:=0
def Fi:Fg->Prop:=λ⟨a,b,op⟩=>let a0:=iz op (Int.toNat a) (Int.toNat b);let b0:=op==6;let c0:=op==7;1=((HPow.hPow 2 0:Nat):Int)/\0=((a0%HPow.hPow 2 0:Nat):Int)/\True/\0<=16/\(∀d0:Nat,let e0:=((HPow.hPow 2 d0:Nat):Int);let g0:=decide (e0<65536);let h0:=0<e0;let k0:Int:=a/e0;let l0:Int:=b/e0;let o0:Int:=k0%2+l0%2;let q0:=ak o0=o0;let r0:=cond b0 (o0==2) false;let u0:=cond r0 true (cond c0 (decide (0<o0)) false);let v0:=cond u0 true (cond (op==8) (o0==1) false);let w0:=((a0%HPow.hPow 2 d0:Nat):Int);let x0:Int:=w0+e0;let y0:Int:=e0*2;let z0:=ak y0=y0;d0<=16->(g0=true->(0<=a/\h0/\ak k0=k0)/\(0<=k0/\(0:Int)<2)/\(0<=b/\h0/\ak l0=l0)/\(0<=l0/\(0:Int)<2)/\(b0=true->q0)/\(c0=true->r0=false->q0)/\((op==8)=true->u0=false->q0)/\(v0=true->ak x0=x0/\z0/\(∃a1:Nat,y0=((HPow.hPow 2 a1:Nat):Int)/\x0=((a0%HPow.hPow 2 a1:Nat):Int)/\True/\a1<=16/\16-a1<16-d0))/\(v0=false->z0/\(∃b1:Nat,y0=((HPow.hPow 2 b1:Nat):Int)/\w0=((a0%HPow.hPow 2 b1:Nat):Int)/\True/\b1<=16/\16-b1<16-d0)))/\(g0=false->w0=(a0:Int)/\True))
theorem Mk:aW Tryz.prog bf 73 M9:=bd .nil false Tryz.call73 Tryz.func73 (λ⟨a,b,op⟩=> [.inv (Mj a b op)]) (V:=Fi) (λ_=>by kernel_rfl) λ⟨a,b,op⟩ hp=>by
  dsimp only[Fh]at hp
  dsimp only[Fi,tn,ak]
  obtain⟨a0,a1,b0,b1,ho⟩:=hp
  obtain⟨A,rfl⟩: ∃A:Nat,a=A:=⟨a.toNat,by omega⟩
  obtain⟨B,rfl⟩: ∃B:Nat,b=B:=⟨b.toNat,by omega⟩
  simp only[Int.toNat_natCast]
  refine⟨by simp,by simp[Nat.mod_one],trivial,by omega,λs hs=>⟨λh=>?_,λh=>?_⟩⟩
  · have uX:s<=15:=by
      rcases Nat.lt_or_ge s 16 with J|J
      · omega
      · obtain rfl:s=16:=by omega
        simp at h
    have bc:=M8 ho A B s
    have ai:iz op A B%2^s<2^s:=Nat.mod_lt _ (Nat.two_pow_pos s)
    have eM:2^(s+1)=2^s*2:=Nat.pow_succ 2 s
    have y':=Nat.two_pow_pos s
    have pA:2^s<=2^15:=Nat.pow_le_pow_right (by omega) uX
    have ha:A/2^s<=A:=Nat.div_le_self _ _
    have hb:B/2^s<=B:=Nat.div_le_self _ _
    have ea:(A:Int)/((2^s:Nat):Int)=((A/2^s:Nat):Int):=(Int.natCast_ediv _ _).symm
    have eb:(B:Int)/((2^s:Nat):Int)=((B/2^s:Nat):Int):=(Int.natCast_ediv _ _).symm
    rw[ea,eb]
    have Lm:((A/2^s:Nat):Int)%2=((A/2^s%2:Nat):Int):=by omega
    have Ln:((B/2^s:Nat):Int)%2=((B/2^s%2:Nat):Int):=by omega
    rw[Lm,Ln]
    have hx:A/2^s%2<2:=Nat.mod_lt _ (by omega)
    have hy:B/2^s%2<2:=Nat.mod_lt _ (by omega)
    clear ea eb Lm Ln
    generalize hX:A/2^s%2=X at*
    generalize hY:B/2^s%2=Y at*
    have TF:(bif bif bif op==6 then(X:Int)+(Y:Int)==2 else false then true else bif op==7 then decide ((0:Int)<(X:Int)+(Y:Int))else false then true else bif op==8 then(X:Int)+(Y:Int)==1 else false)=tE op X Y:=by
      unfold tE
      cases op==6<;>cases op==7<;>cases op==8<;>simp
    rw[TF]
    have hw: ∀z:Int,0<=z->z<=131072->IntKind.i64.wrap z=z:=λz _ _=>by rw[IntKind.wrap_i64];omega
    generalize iz op A B=W at*
    generalize A/2^s=DA at*
    generalize B/2^s=DB at*
    generalize 2^s=p at*
    refine⟨⟨by omega,by omega,hw _ (by omega) (by omega)⟩,⟨by omega,by omega⟩,⟨by omega,by omega,hw _ (by omega) (by omega)⟩,⟨by omega,by omega⟩,λ_=>hw _ (by omega) (by omega),λ_ _=>hw _ (by omega) (by omega),λ_ _=>hw _ (by omega) (by omega),λhq=>?_,λhq=>?_⟩
    · rw[hq]at bc
      exact⟨hw _ (by omega) (by omega),hw _ (by omega) (by omega),s+1,by rw[eM];omega,by rw[bc];simp,trivial,by omega,by omega⟩
    · rw[hq]at bc
      exact⟨hw _ (by omega) (by omega),s+1,by rw[eM];omega,by rw[bc];simp,trivial,by omega,by omega⟩
  · have me:s=16:=by
      rcases Nat.lt_or_ge s 16 with J|J
      · exfalso
        have pA:2^s<=2^15:=Nat.pow_le_pow_right (by omega) (by omega)
        generalize 2^s=p at*
        simp at h;omega
      · omega
    subst me
    rw[Nat.mod_eq_of_lt (Py (by omega) (by omega))]
    exact⟨rfl,trivial⟩
end Go.Proofs.YtbngaammbjaajaaGreatDoor
set_option linter.unusedVariables false
set_option linter.unusedSimpArgs false
set_option maxRecDepth 100000
namespace Go.Proofs.YtbngaammbjaajaaGreatDoor
open Go.RowKit Go.Sy
structure fM where
  kind:Int
  base:Int
  len:Int
  mark:Int
  dx:Int
  bS:Int
  from_:Int
structure fS where
  sp:Int
  pg:Int
  fr:Int
  wr:Bool
def lW (s:fM):List SV:= [.v (.int .i64 s.kind),.v (.int .i64 s.base),.v (.int .i64 s.len),.v (.int .i64 s.mark),.v (.int .i64 s.dx),.v (.int .i64 s.bS),.v (.int .i64 s.from_)]
def lu (e:fS):List SV:= [.v (.int .i64 e.sp),.v (.int .i64 e.pg),.v (.int .i64 e.fr),.v (.bool e.wr)]
def KC (f:Nat->SV):fM:=⟨ao (f 0),ao (f 1),ao (f 2),ao (f 3),ao (f 4),ao (f 5),ao (f 6)⟩
def rp (f:Nat->SV):fS:=⟨ao (f 0),ao (f 1),ao (f 2),qL (f 3)⟩
def J0 (f:Nat->SV):dN:=⟨ao (f 0),ao (f 1),ao (f 2),ao (f 3),ao (f 4),ao (f 5),ao (f 6),ao (f 7),ao (f 8),ao (f 9),ao (f 10),ao (f 11),ao (f 12),ao (f 13),ao (f 14),ao (f 15),ao (f 16),ao (f 17),ao (f 18),ao (f 19)⟩
def iF (f:Nat->Int):Nat->Nat->SV:=λi _=> .v (.int .i64 (f i))
def rF (L:Nat->List SV):Nat->Nat->SV:=λi j=>aA (L i) j
structure Wd where
  ar:Nat
  af:Nat->Int
  ae:Nat
  kinds:Nat->Int
  av:Nat
  aj:Nat->fM
  aV:Nat
  tasks:Nat->dN
  bz:Nat
  aD:Nat->Nat
  lines:Nat->Nat->Int
  aI:Nat
  bits:Nat->Int
  aE:Nat
  aM:Nat->Int
  aY:Nat
  aL:Nat->Nat
  ready:Nat->Nat->Int
  aK:Nat
  aQ:Nat->Nat
  aB:Nat->Nat->fS
  az:Nat
  aU:Nat->Int
  time:Int
def gq (W:Wd):SV:= .ag 11 (aA [.sl true 1 W.ar (iF W.af),.sl true 1 W.ae (iF W.kinds),.sl true 7 W.av (rF λi=>lW (W.aj i)),.sl true 20 W.aV (rF λi=>jf (W.tasks i)),.sl true 1 W.bz (λi _=> .sl true 1 (W.aD i) (iF (W.lines i))),.sl true 1 W.aI (iF W.bits),.sl true 1 W.aE (iF W.aM),.sl true 1 W.aY (λi _=> .sl true 1 (W.aL i) (iF (W.ready i))),.sl true 1 W.aK (λi _=> .sl true 4 (W.aQ i) (rF λk=>lu (W.aB i k))),.sl true 1 W.az (iF W.aU),.v (.int .i64 W.time)])
def dV (W:Wd):SV:= .pt true 11 (aA [.sl true 1 W.ar (iF W.af),.sl true 1 W.ae (iF W.kinds),.sl true 7 W.av (rF λi=>lW (W.aj i)),.sl true 20 W.aV (rF λi=>jf (W.tasks i)),.sl true 1 W.bz (λi _=> .sl true 1 (W.aD i) (iF (W.lines i))),.sl true 1 W.aI (iF W.bits),.sl true 1 W.aE (iF W.aM),.sl true 1 W.aY (λi _=> .sl true 1 (W.aL i) (iF (W.ready i))),.sl true 1 W.aK (λi _=> .sl true 4 (W.aQ i) (rF λk=>lu (W.aB i k))),.sl true 1 W.az (iF W.aU),.v (.int .i64 W.time)])
def gf (a:SV):Wd:=⟨bN (bU a 0),λi=>ao (bD (bU a 0) i 0),bN (bU a 1),λi=>ao (bD (bU a 1) i 0),bN (bU a 2),λi=>KC (λj=>bD (bU a 2) i j),bN (bU a 3),λi=>J0 (λj=>bD (bU a 3) i j),bN (bU a 4),λi=>bN (bD (bU a 4) i 0),λi k=>ao (bD (bD (bU a 4) i 0) k 0),bN (bU a 5),λi=>ao (bD (bU a 5) i 0),bN (bU a 6),λi=>ao (bD (bU a 6) i 0),bN (bU a 7),λi=>bN (bD (bU a 7) i 0),λi k=>ao (bD (bD (bU a 7) i 0) k 0),bN (bU a 8),λi=>bN (bD (bU a 8) i 0),λi k=>rp (λj=>bD (bD (bU a 8) i 0) k j),bN (bU a 9),λi=>ao (bD (bU a 9) i 0),ao (bU a 10)⟩
def dR (a:SV):Wd:=⟨bN (bp a 0),λi=>ao (bD (bp a 0) i 0),bN (bp a 1),λi=>ao (bD (bp a 1) i 0),bN (bp a 2),λi=>KC (λj=>bD (bp a 2) i j),bN (bp a 3),λi=>J0 (λj=>bD (bp a 3) i j),bN (bp a 4),λi=>bN (bD (bp a 4) i 0),λi k=>ao (bD (bD (bp a 4) i 0) k 0),bN (bp a 5),λi=>ao (bD (bp a 5) i 0),bN (bp a 6),λi=>ao (bD (bp a 6) i 0),bN (bp a 7),λi=>bN (bD (bp a 7) i 0),λi k=>ao (bD (bD (bp a 7) i 0) k 0),bN (bp a 8),λi=>bN (bD (bp a 8) i 0),λi k=>rp (λj=>bD (bD (bp a 8) i 0) k j),bN (bp a 9),λi=>ao (bD (bp a 9) i 0),ao (bp a 10)⟩
def bk (q:Nat):SV:= .ptr q 0 none 0 0
theorem sO {n:Nat} {p:Nat->Bool} (h: ∀j,j<n->p j=true):fj n p=true:=my.2 h
theorem br {i n:Nat} (h:decide ((i:Int)<(n:Int))=true):i<n:=by simpa using h
theorem bJ {i n:Nat} (h:decide ((i:Int)<(n:Int))=false):n<=i:=by simpa using h
theorem j9 {b:Bool} (h:(!b)=true):b=false:=by cases b<;>simp_all
theorem eJ {b:Bool} (h:(!b)=false):b=true:=by cases b<;>simp_all
theorem bP {P:Nat->Prop} {s:Nat} (h:P (s+1)): ∃s':Nat,((s:Int)+1)=(s':Int)/\P s':=⟨s+1,rfl,h⟩
def cA:Nat->(Nat->Bool)->Nat
  |0,_=>0
  |n+1,p=>bif Nat.blt (cA n p) n then cA n p else bif p n then n else n+1
theorem qk {p:Nat->Bool}: ∀{n:Nat},(∀j,j<n->p j=false)->cA n p=n
  |0,_=>rfl
  |n+1,h=>by
   have:=qk (n:=n) λj hj=>h j (by omega)
   simp[cA,this,h n (by omega),jM]
theorem qx {p:Nat->Bool} {i:Nat} (hb: ∀j,j<i->p j=false) (hp:p i=true): ∀{n:Nat},i<n->cA n p=i
  |0,h=>absurd h (by omega)
  |n+1,h=>by
   rcases Nat.lt_or_ge i n with J|J
   · have:=qx hb hp J
     simp[cA,this,jM,J]
   · obtain rfl:i=n:=by omega
     have:=qk hb
     simp[cA,this,jM,hp]
theorem Hu (p:Nat->Bool): ∀n,cA n p<=n
  |0=>Nat.le_refl _
  |n+1=>by
   have:=Hu p n
   unfold cA
   cases h:Nat.blt (cA n p) n<;>cases U:p n<;>simp<;>omega
def gj (n:Nat) (p:Nat->Bool):Int:=bif Nat.blt (cA n p) n then(cA n p:Nat)else -1
theorem sv {n:Nat} {p:Nat->Bool} (h: ∀j,j<n->p j=false):gj n p= -1:=by
  unfold gj;rw[qk h,jM];simp
theorem AR {n i:Nat} {p:Nat->Bool} (hb: ∀j,j<i->p j=false) (hp:p i=true) (hi:i<n):gj n p=(i:Nat):=by
  unfold gj;rw[qx hb hp hi,jM];simp[hi]
theorem da {a b:Nat} (h:a<b):Nat.blt a b=true:=Nat.ble_eq_true_of_le h
theorem dy {a b:Nat} (h:b<=a):Nat.blt a b=false:=by rw[jM];exact decide_eq_false (by omega)
theorem tD {p:Nat->Bool} {i:Nat} (h: ∀j,j<i->p j=true) (hi:p i=true): ∀j,j<i+1->p j=true:=by
  intro j hj
  rcases Nat.lt_or_ge j i with h3|h3
  · exact h j h3
  · obtain rfl:j=i:=by omega
    exact hi
end Go.Proofs.YtbngaammbjaajaaGreatDoor
set_option linter.unusedVariables false
set_option linter.unusedSimpArgs false
set_option maxRecDepth 100000
namespace Go.Proofs.YtbngaammbjaajaaGreatDoor
open Go.RowKit Go.Sy
def aG (a b:dN):Prop:=((((((((((((((((((((True/\a.r0=b.r0)/\a.r1=b.r1)/\a.r2=b.r2)/\a.r3=b.r3)/\a.r4=b.r4)/\a.r5=b.r5)/\a.r6=b.r6)/\a.r7=b.r7)/\a.pc=b.pc)/\a.st=b.st)/\a.prio=b.prio)/\a.node=b.node)/\a.space=b.space)/\a.helper=b.helper)/\a.loc=b.loc)/\a.word=b.word)/\a.bS=b.bS)/\a.bK=b.bK)/\a.core=b.core)/\a.gr=b.gr)
def aF (a b:fM):Prop:=(((((((True/\a.kind=b.kind)/\a.base=b.base)/\a.len=b.len)/\a.mark=b.mark)/\a.dx=b.dx)/\a.bS=b.bS)/\a.from_=b.from_)
def aH (a b:fS):Prop:=((((True/\a.sp=b.sp)/\a.pg=b.pg)/\a.fr=b.fr)/\a.wr=b.wr)
def bx (Y X:Wd) (T:Prop):Prop:=(((((((((((True/\0=0/\Y.ar=X.ar)/\0=0/\Y.ae=X.ae)/\0=0/\Y.av=X.av)/\0=0/\Y.aV=X.aV)/\0=0/\Y.bz=X.bz)/\0=0/\Y.aI=X.aI)/\0=0/\Y.aE=X.aE)/\0=0/\Y.aY=X.aY)/\0=0/\Y.aK=X.aK)/\0=0/\Y.az=X.az)/\Y.time=X.time)/\(Y.ar=X.ar/\ ∀i:Nat,i<X.ar->True/\Y.af i=X.af i)/\(Y.ae=X.ae/\ ∀i:Nat,i<X.ae->True/\Y.kinds i=X.kinds i)/\(Y.av=X.av/\ ∀i:Nat,i<X.av->aF (Y.aj i) (X.aj i))/\(Y.aV=X.aV/\ ∀i:Nat,i<X.aV->aG (Y.tasks i) (X.tasks i))/\(Y.bz=X.bz/\ ∀i:Nat,i<X.bz->True/\Y.aD i=X.aD i/\ ∀k:Nat,k<X.aD i->True/\Y.lines i k=X.lines i k)/\(Y.aI=X.aI/\ ∀i:Nat,i<X.aI->True/\Y.bits i=X.bits i)/\(Y.aE=X.aE/\ ∀i:Nat,i<X.aE->True/\Y.aM i=X.aM i)/\(Y.aY=X.aY/\ ∀i:Nat,i<X.aY->True/\Y.aL i=X.aL i/\ ∀k:Nat,k<X.aL i->True/\Y.ready i k=X.ready i k)/\(Y.aK=X.aK/\ ∀i:Nat,i<X.aK->True/\Y.aQ i=X.aQ i/\ ∀k:Nat,k<X.aQ i->aH (Y.aB i k) (X.aB i k))/\(Y.az=X.az/\ ∀i:Nat,i<X.az->True/\Y.aU i=X.aU i)/\T
end Go.Proofs.YtbngaammbjaajaaGreatDoor
set_option linter.unusedVariables false
set_option linter.unusedSimpArgs false
set_option maxRecDepth 100000
namespace Go.Proofs.YtbngaammbjaajaaGreatDoor
open Go.RowKit Go.Sy
def UO (n:Nat) (u:Nat->Int):Prop:= ∀f,f<n->0<=u f/\u f<=f
def cy (u:Nat->Int) (f:Nat):Nat->Nat
  |0=>f
  |k+1=>(u (cy u f k)).toNat
def rt (u:Nat->Int) (f:Nat):Nat:=cy u f f
theorem Bv {n:Nat} {u:Nat->Int} {f:Nat} (h:UO n u) (hf:f<n): ∀k,cy u f k<=f
  |0=>Nat.le_refl _
  |k+1=>by
   have J:=Bv h hf k
   have U:=h (cy u f k) (by omega)
   show(u (cy u f k)).toNat<=f
   omega
theorem QF {n:Nat} {u:Nat->Int} {f k:Nat} (h:UO n u) (hf:f<n) (hk: ∀j,j<k->u (cy u f j)≠cy u f j):cy u f k+k<=f:=by
  induction k with
  |zero=>exact Nat.le_refl _
  |succ k ih=>
   have J:=ih λj hj=>hk j (by omega)
   have U:=h (cy u f k) (by omega)
   have h3:=hk k (by omega)
   show(u (cy u f k)).toNat+(k+1)<=f
   omega
theorem Bw {u:Nat->Int} {f k:Nat} (h:u (cy u f k)=cy u f k): ∀m,k<=m->cy u f m=cy u f k:=by
  intro m hm
  induction m with
  |zero=>obtain rfl:k=0:=by omega
         rfl
  |succ m ih=>
   rcases Nat.lt_or_ge m k with e|e
   · obtain rfl:k=m+1:=by omega
     rfl
   · show(u (cy u f m)).toNat=_
     rw[ih e,h];omega
theorem tc {n:Nat} {u:Nat->Int} {f:Nat} (h:UO n u) (hf:f<n):u (rt u f)=rt u f:=by
  rcases Classical.em (∃j,j<f/\u (cy u f j)=cy u f j)with⟨j,hj,e⟩|cd
  · unfold rt
    rw[Bw e f (by omega),e]
  · have J:=QF (k:=f) h hf λj hj e=>cd ⟨j,hj,e⟩
    have h0:rt u f=0:=by unfold rt;omega
    have:=h 0 (by omega)
    rw[h0];omega
theorem qU {n:Nat} {u:Nat->Int} {f:Nat} (h:UO n u) (hf:f<n):rt u f<=f:=Bv h hf f
theorem B3 {n:Nat} {u:Nat->Int} {f k:Nat} (h:UO n u) (hf:f<n) (e:u (cy u f k)=cy u f k):rt u f=cy u f k:=by
  rcases Nat.lt_or_ge f k with hk|hk
  · have J:=tc h hf
    exact(Bw (k:=f) J k (by omega)).symm
  · exact Bw e f hk
theorem II (u:Nat->Int) (f:Nat): ∀k,cy u f (k+1)=cy u (u f).toNat k
  |0=>rfl
  |k+1=>by
   show(u (cy u f (k+1))).toNat=(u (cy u (u f).toNat k)).toNat
   rw[II u f k]
theorem nw {n:Nat} {u:Nat->Int} {f:Nat} (h:UO n u) (hf:f<n) (e:u f=f):rt u f=f:=B3 (k:=0) h hf e
theorem B4 {n:Nat} {u:Nat->Int} {f:Nat} (h:UO n u) (hf:f<n):rt u (u f).toNat=rt u f:=by
  have J:=h f hf
  have hp:(u f).toNat<n:=by omega
  have U:=tc h hp
  have e:cy u f ((u f).toNat+1)=rt u (u f).toNat:=II u f _
  rw[B3 (k:=(u f).toNat+1) h hf (by rw[e];exact U),e]
inductive Cn (R:Nat->Nat->Prop):Nat->Nat->Prop
  |rf (a:Nat):Cn R a a
  |fw {a b c:Nat}:Cn R a b->R b c->Cn R a c
  |bw {a b c:Nat}:Cn R a b->R c b->Cn R a c
theorem Cn.tr {R:Nat->Nat->Prop} {a b c:Nat} (h:Cn R a b) (k:Cn R b c):Cn R a c:=by
  induction k with
  |rf=>exact h
  |fw _ r ih=>exact .fw ih r
  |bw _ r ih=>exact .bw ih r
theorem Cn.sy {R:Nat->Nat->Prop} {a b:Nat} (h:Cn R a b):Cn R b a:=by
  induction h with
  |rf=>exact .rf _
  |fw _ r ih=>exact(Cn.bw (.rf _) r).tr ih
  |bw _ r ih=>exact(Cn.fw (.rf _) r).tr ih
theorem Cn.mo {R S:Nat->Nat->Prop} (hs: ∀a b,R a b->S a b) {a b:Nat} (h:Cn R a b):Cn S a b:=by
  induction h with
  |rf=>exact .rf _
  |fw _ r ih=>exact .fw ih (hs _ _ r)
  |bw _ r ih=>exact .bw ih (hs _ _ r)
structure UF (n:Nat) (u:Nat->Int) (R:Nat->Nat->Prop):Prop where
  o:UO n u
  r: ∀a b,R a b->a<n/\b<n
  c: ∀f g,f<n->g<n->(rt u f=rt u g↔Cn R f g)
def iU (u:Nat->Int) (a b:Nat) (i:Nat):Int:=bif Nat.beq i (max (rt u a) (rt u b))then((min (rt u a) (rt u b):Nat):Int)else u i
def JR (R:Nat->Nat->Prop) (a b:Nat) (x y:Nat):Prop:=R x y\/(x=a/\y=b)
theorem JZ (u:Nat->Int) (a b:Nat):iU u a b (max (rt u a) (rt u b))=((min (rt u a) (rt u b):Nat):Int):=by unfold iU;rw[Nat.beq_refl];rfl
theorem gg {a b:Nat} (h:a≠b):Nat.beq a b=false:=by
  cases q:Nat.beq a b with
  |false=>rfl
  |true=>exact absurd (Nat.eq_of_beq_eq_true q) h
theorem B5 {u:Nat->Int} {a b i:Nat} (h:i≠max (rt u a) (rt u b)):iU u a b i=u i:=by unfold iU;rw[gg h];rfl
theorem KB {n:Nat} {u:Nat->Int} {a b:Nat} (h:UO n u):UO n (iU u a b):=by
  intro f hf
  rcases Decidable.em (f=max (rt u a) (rt u b))with e|e
  · rw[e,JZ];omega
  · rw[B5 e];exact h f hf
theorem Sn {n:Nat} {u:Nat->Int} {a b:Nat} (h:UO n u) (ha:a<n) (hb:b<n): ∀m f,f<m->f<n->rt (iU u a b) f=if rt u f=max (rt u a) (rt u b)then min (rt u a) (rt u b)else rt u f:=by
  have fa:=tc h ha
  have fb:=tc h hb
  have la:=qU h ha
  have lb:=qU h hb
  have ho:=KB (a:=a) (b:=b) h
  intro m
  induction m with
  |zero=>intro f hf;omega
  |succ m ih=>
   intro f hf hn
   rcases Decidable.em (f=max (rt u a) (rt u b))with e|e
   · have e1:u f=f:=by
       rcases Nat.le_total (rt u a) (rt u b)with q|q
       · rw[e,Nat.max_eq_right q];exact fb
       · rw[e,Nat.max_eq_left q];exact fa
     have e2:rt u f=f:=nw h hn e1
     rw[e2,if_pos e]
     have e3:iU u a b f=((min (rt u a) (rt u b):Nat):Int):=by rw[e];exact JZ u a b
     rcases Decidable.em (min (rt u a) (rt u b)=f)with q|q
     · rw[nw ho hn (by rw[e3,q]),q]
     · rw[<-B4 ho hn,e3,Int.toNat_natCast]
       have hm:min (rt u a) (rt u b)<n:=by omega
       refine nw ho hm ?_
       rw[B5 (by omega)]
       rcases Nat.le_total (rt u a) (rt u b)with q|q
       · rw[Nat.min_eq_left q];exact fa
       · rw[Nat.min_eq_right q];exact fb
   · have e3:=B5 e
     rcases Decidable.em (u f=f)with q|q
     · have e2:rt u f=f:=nw h hn q
       rw[e2,if_neg e]
       exact nw ho hn (by rw[e3,q])
     · have J:=h f hn
       rw[<-B4 ho hn,e3,ih _ (by omega) (by omega),B4 h hn]
theorem UF.jn {n:Nat} {u:Nat->Int} {R:Nat->Nat->Prop} {a b:Nat} (h:UF n u R) (ha:a<n) (hb:b<n):UF n (iU u a b) (JR R a b):=by
  have hr: ∀x y,JR R a b x y->x<n/\y<n:=λx y k=>k.elim (h.r x y) λ⟨e1,e2⟩=>⟨e1▸ha,e2▸hb⟩
  have R1:=λf hf=>Sn h.o ha hb (f+1) f (by omega) hf
  have mo:=λ{x y:Nat} (k:Cn R x y)=>k.mo (S:=JR R a b) λ_ _ q=> .inl q
  have kt:Cn (JR R a b) a b:= .fw (.rf a) (.inr ⟨rfl,rfl⟩)
  have Ll: ∀f,f<n->(rt u f=rt u a\/rt u f=rt u b)->Cn (JR R a b) f a:=λf hf k=>by
    rcases k with k|k
    · exact mo ((h.c f a hf ha).1 k)
    · exact(mo ((h.c f b hf hb).1 k)).tr kt.sy
  refine⟨KB h.o,hr,λf g hf hg=>⟨λe=>?_,λk=>?_⟩⟩
  · rw[R1 f hf,R1 g hg]at e
    rcases Decidable.em (rt u f=rt u g)with q|q
    · exact mo ((h.c f g hf hg).1 q)
    · have uw:rt u f=rt u a\/rt u f=rt u b:=by
        split at e<;>split at e<;>omega
      have jW:rt u g=rt u a\/rt u g=rt u b:=by
        split at e<;>split at e<;>omega
      exact(Ll f hf uw).tr (Ll g hg jW).sy
  · have key: ∀{x y:Nat},x<n->y<n->JR R a b x y->rt (iU u a b) x=rt (iU u a b) y:=λ{x y} hx hy k=>by
      rw[R1 x hx,R1 y hy]
      rcases k with k|⟨e1,e2⟩
      · rw[(h.c x y hx hy).2 (.fw (.rf x) k)]
      · subst e1 e2
        split<;>split<;>omega
    induction k with
    |rf=>rfl
    |fw k r ih=>
     obtain⟨J,U⟩:=hr _ _ r
     exact(ih J).trans (key J U r)
    |bw k r ih=>
     obtain⟨J,U⟩:=hr _ _ r
     exact(ih U).trans (key J U r).symm
noncomputable def cj (n:Nat) (R:Nat->Nat->Prop) (f:Nat):Nat:=cA n λg=> @decide (Cn R g f) (Classical.propDecidable _)
theorem Sl {n:Nat} {u:Nat->Int} {R:Nat->Nat->Prop} (h:UF n u R) {f:Nat} (hf:f<n):rt u f=cj n R f:=by
  have J:=qU h.o hf
  have hr:rt u f<n:=by omega
  refine(qx (p:=λg=> @decide (Cn R g f) (Classical.propDecidable _)) (i:=rt u f) (λj hj=>?_) ?_ hr).symm
  · refine @decide_eq_false _ (Classical.propDecidable _) λk=>?_
    have e:=(h.c j f (by omega) hf).2 k
    have:=qU h.o (show j<n by omega)
    omega
  · refine @decide_eq_true _ (Classical.propDecidable _) ((h.c (rt u f) f hr hf).1 ?_)
    exact nw h.o hr (tc h.o hf)
def So (u:Nat->Int) (f:Nat):bH where
  σ:=Nat
  rt:= []
  sh k:= [(1,.v (.int .i64 (cy u f k)))]
  mh _:= []
  inv k:=cy u f k+k<=f
  μ k:=f -k
  init:=0
def fX (u:Nat->Int) (a b:Int):Nat->Int:=bif decide (a<0)||decide (b<0)then u else iU u a.toNat b.toNat
structure Ho where
  (n:Nat) (u:Nat->Int) (f:Int)
def Hp:Sy.Spec:=⟨Ho,λ⟨n,u,f⟩=> [.sl true 1 n (λi_ _=> .v (.int .i64 (u i_))),.v (.int .i64 f)],λ_=> [],λ⟨n,u,f⟩=>UO n u/\(0<=f/\f<n)/\n<=1000,λ⟨_,u,f⟩=> .v (.int .i64 (rt u f.toNat)),λ_=> [],
  λargs mem=>match args with| [a0,a1]=>some ⟨bN a0,λi=>ao (bD a0 i 0),ao (a1)⟩|_=>none⟩
def Pw:aX:=⟨[],(Hp).g,none⟩
def Hq:Ho->Prop:=λ⟨n,u,f⟩=>let a0:=Int.toNat f;let b0:=cy u a0 0;f=(b0:Int)/\True/\b0+0<=a0/\(∀c0:Nat,let d0:=((cy u a0 c0:Nat):Int);let e0:=0<=d0/\d0<(n:Int);let g0:Int:=u (Int.toNat d0);let h0:=g0 !=d0;cy u a0 c0+c0<=a0->e0/\(h0=true->e0/\(∃k0:Nat,g0=((cy u a0 k0:Nat):Int)/\True/\cy u a0 k0+k0<=a0/\a0-k0<a0-c0))/\(h0=false->d0=((rt u a0:Nat):Int)/\True))
theorem FX:aW Tryz.prog bf 17 Pw:=bd .nil false Tryz.call17 Tryz.func17 (λ⟨_,u,f⟩=> [.inv (So u f.toNat)]) (V:=Hq) (λ_=>by kernel_rfl) λ⟨n,u,f⟩ hp=>by
  dsimp only[Hp]at hp
  dsimp only[Hq,tn,ak,bx,aG,aF,aH]
  simp only[bn,bG,eq_self,implies_true,Bool.cond_self]
  try simp only[lJ]
  obtain⟨hU,hf,hn⟩:=hp
  have gG:f.toNat<n:=by omega
  refine⟨by show f=((f.toNat:Nat):Int);omega,by show f.toNat+0<=f.toNat;omega,λk hk=>?_⟩
  have J:=Bv hU gG k
  have U:=hU (cy u f.toNat k) (by omega)
  refine⟨by omega,λh=>⟨by omega,k+1,?_,?_,?_⟩,λh=>?_⟩
  · show u (cy u f.toNat k)=(((u (cy u f.toNat k)).toNat:Nat):Int);omega
  · have h:u (cy u f.toNat k)≠cy u f.toNat k:=by simpa using h
    show(u (cy u f.toNat k)).toNat+(k+1)<=f.toNat;omega
  · have h:u (cy u f.toNat k)≠cy u f.toNat k:=by simpa using h
    omega
  · have h:u (cy u f.toNat k)=cy u f.toNat k:=by simpa using h
    rw[B3 hU gG h]
structure Hr where
  (a b:Int) (n:Nat) (u:Nat->Int)
def Hs:Sy.Spec:=⟨Hr,λ⟨a,b,n,_⟩=> [.aw 0 0 none 0 n,.v (.int .i64 a),.v (.int .i64 b)],λ⟨_,_,n,u⟩=> [.row 1 n (iF u)],λ⟨a,b,n,u⟩=>UO n u/\a<n/\b<n/\n<=1000,λ_=> .tp 0 (aA [.v (.bool true)]),λ⟨a,b,n,u⟩=> [.row 1 n (iF (fX u a b))],
  λargs mem=>match args with| [a0,a1,a2]=>some ⟨ao (a1),ao (a2),Kk mem 0,λi=>ao (Kl mem 0 i 0)⟩|_=>none⟩
def Px:aX:=⟨[true],(Hs).g,none⟩
def Ht:Hr->Prop:=λ⟨a,b,n,u⟩=>let a0:=cond (decide (a<0)) true (decide (b<0));let b0:=n=n/\(∀c0:Nat,c0<n->True/\u (0+c0)=u (0+c0));let d0:=((rt (λe0:Nat=>u (0+e0)) (Int.toNat a):Nat):Int);let g0:=((rt (λh0:Nat=>u (0+h0)) (Int.toNat b):Nat):Int);let k0:=max d0 g0;(a0=true->True/\(n=n/\(∀l0:Nat,l0<n->True/\u l0=fX u a b l0))/\True)/\(a0=false->((b0/\a=a/\True)/\True/\(∀o0:Nat,o0<n->0<=u (0+o0)/\u (0+o0)<=(o0:Int))/\(0<=a/\a<(n:Int))/\n<=1000)/\((b0/\b=b/\True)/\True/\(∀q0:Nat,q0<n->0<=u (0+q0)/\u (0+q0)<=(q0:Int))/\(0<=b/\b<(n:Int))/\n<=1000)/\(0<=k0/\k0<(n:Int))/\(∀r0:Nat,false=false)/\True/\(n=n/\(∀u0:Nat,u0<n->True/\cond (Nat.beq u0 (0+Int.toNat k0)) (min d0 g0) (u u0)=fX u a b u0))/\True)
theorem N4:aW Tryz.prog bf 16 Px:=bd (.cons FX .nil) false Tryz.call16 Tryz.func16 (λ_=> []) (V:=Ht) (λ_=>by kernel_rfl) λ⟨a,b,n,u⟩ hp=>by
  dsimp only[Hs]at hp
  dsimp only[Ht,tn,ak,bx,aG,aF,aH]
  simp only[bn,bG,eq_self,implies_true,Bool.cond_self]
  try simp only[lJ]
  obtain⟨hU,ha,hb,hn⟩:=hp
  refine⟨λh i _=>by unfold fX;rw[h];rfl,λh=>?_⟩
  have U:=h
  simp only[Bool.or_eq_false_iff,decide_eq_false_iff_not]at U
  have l1:=qU hU (show a.toNat<n by omega)
  have l2:=qU hU (show b.toNat<n by omega)
  refine⟨⟨hU,by omega,hn⟩,⟨hU,by omega,hn⟩,⟨?_,?_⟩,λi _=>?_⟩
  · show 0<=max ((rt u a.toNat:Nat):Int) ((rt u b.toNat:Nat):Int);omega
  · show max ((rt u a.toNat:Nat):Int) ((rt u b.toNat:Nat):Int)<n;omega
  show(bif Nat.beq i (max ((rt u a.toNat:Nat):Int) ((rt u b.toNat:Nat):Int)).toNat then min ((rt u a.toNat:Nat):Int) ((rt u b.toNat:Nat):Int)else u i)=_
  unfold fX
  rw[h,show(max ((rt u a.toNat:Nat):Int) ((rt u b.toNat:Nat):Int)).toNat=max (rt u a.toNat) (rt u b.toNat) by omega,show min ((rt u a.toNat:Nat):Int) ((rt u b.toNat:Nat):Int)=((min (rt u a.toNat) (rt u b.toNat):Nat):Int) by omega]
  rfl
end Go.Proofs.YtbngaammbjaajaaGreatDoor
set_option linter.unusedVariables false
set_option linter.unusedSimpArgs false
set_option maxRecDepth 100000
namespace Go.Proofs.YtbngaammbjaajaaGreatDoor
open Go.RowKit Go.Sy
def xP (a b:dN):Bool:=(a.r0==b.r0&&(a.r1==b.r1&&(a.r2==b.r2&&(a.r3==b.r3&&(a.r4==b.r4&&(a.r5==b.r5&&(a.r6==b.r6&&(a.r7==b.r7&&true))))))))&&(a.pc==b.pc&&(a.st==b.st&&(a.prio==b.prio&&(a.node==b.node&&(a.space==b.space&&(a.helper==b.helper&&(a.loc==b.loc&&(a.word==b.word&&(a.bS==b.bS&&(a.bK==b.bK&&(a.core==b.core&&(a.gr==b.gr&&true))))))))))))
end Go.Proofs.YtbngaammbjaajaaGreatDoor
