/-
  Sy, the entry: what the data of a row's arguments stand for.
-/
import Derived.Test.YtbngaammbjaajaaDoorYH
import Derived.ChangeArms
import Derived.OpenShut
import Derived.DataReads
import Derived.WideShapes
import Derived.Test.YtbngaammbjaajaaDoorProg
import Derived.IntWalk
set_option linter.unusedVariables false
set_option linter.unusedSimpArgs false
set_option linter.unusedVariables false
set_option linter.unusedSimpArgs false
namespace Go.Sy
open Go.RowKit
def o0:Ow:=⟨λ_=>False,λ_=>False,λ_ _=>none,λ_=>(0,0)⟩
variable {H:Type}
def b_:DataW H->Int| .lit (.int _ n)=>n|_=>0
def Ey:DataW H->Bool| .lit (.bool b)=>b|_=>false
def qx:DataW H->ByteArray| .lit (.string l)=>⟨l.toArray⟩|_=>ByteArray.empty
def lT:List (DataW H)->Nat->DataW H| [],_=> .nil|x::_,0=>x|_::r,n+1=>lT r n
def gx:DataW H->Nat->DataW H| .agg l,i=>lT l i|_,_=> .nil
def dt:DataW H->Nat| .slice l _=>l.length|_=>0
def eC:DataW H->Nat->DataW H| .slice l _,i=>lT l i|_,_=> .nil
def fieldAt (P:Program) (j:Nat):Nat->List Field->Option (Nat×Field)
  |_,[]=>none
  |k,f::r=>match Nat.ble f.offset j&&Nat.blt j (f.offset+P.cellsOf f.type)with|true=>some (k,f)|false=>fieldAt P j (k+1) r
def dV (P:Program):Nat->TypeId->DataW H->Nat->SV
  |0,_,_,_=> .aj
  |n+1,T,d,j=>
   match P.underlying T with
   |some (.int k)=>match j with|0=> .v (.int k (b_ d))|_=> .aj
   |some .bool=>match j with|0=> .v (.bool (Ey d))|_=> .aj
   |some .string=>match j with|0=> .v (.string (qx d))|_=> .aj
   |some (.slice E)=>match j with|0=> .sl true (P.cellsOf E) (dt d) λa b=>dV P n E (eC d a) b|_=> .aj
   |some (.struct fs)=>match fieldAt P j 0 fs.toList with|some (k,f)=>dV P n f.type (gx d k) (j -f.offset)|none=> .aj
   |some (.array m E)=>match Nat.blt 0 (P.cellsOf E)&&Nat.blt (j/P.cellsOf E) m with|true=>dV P n E (gx d (j/P.cellsOf E)) (j%P.cellsOf E)|false=> .aj
   |_=> .aj
def vg (P:Program) (T:TypeId) (d:DataW H):SV:=
  match P.underlying T with
  |some u=>match fy u with|true=> .ag (P.cellsOf T) (dV P 8 T d)|false=>dV P 8 T d 0
  |none=> .aj
def jE (P:Program):Nat->TypeId->DataW H->Prop
  |0,_,_=>True
  |n+1,T,d=>
   match P.underlying T with
   |some (.int k)=>k.wrap (b_ d)=b_ d
   |some .string=>((qx d).size:Int)<=9223372036854775807
   |some (.slice E)=>(dt d:Int)<=9223372036854775807/\ ∀i,i<dt d->jE P n E (eC d i)
   |some (.struct fs)=>vh (jE P n) d 0 fs.toList
   |some (.array m E)=> ∀i,i<m->jE P n E (gx d i)
   |_=>True
  where vh (rec:TypeId->DataW H->Prop) (d:DataW H):Nat->List Field->Prop
  |_,[]=>True
  |k,f::r=>rec f.type (gx d k)/\vh rec d (k+1) r
theorem pD: ∀{l:List (DataW H)} {i:Nat} {x:DataW H},l[i]? =some x->lT l i=x
  | [],_,_,h=>by simp at h
  |_::_,0,_,h=>by simpa [lT]using h
  |_::_,i+1,_,h=>by simp only[lT];exact pD (by simpa using h)
theorem wF {P:Program} {j:Nat}: ∀{l:List Field} {k k':Nat} {f:Field},fieldAt P j k l=some (k',f)->k<=k'/\l[k' -k]? =some f/\f.offset<=j/\j<f.offset+P.cellsOf f.type
  | [],_,_,_,h=>by simp[fieldAt]at h
  |g::r,k,k',f,h=>by
   unfold fieldAt at h
   split at h
   · next hb=>
     simp only[Option.some.injEq,Prod.mk.injEq]at h
     obtain⟨rfl,rfl⟩:=h
     simp only[Bool.and_eq_true,lR,Nat.ble_eq,decide_eq_true_eq]at hb
     exact⟨Nat.le_refl _,by simp,hb.1,hb.2⟩
   · obtain⟨U,h2,h3⟩:=wF h
     refine⟨by omega,?_,h3⟩
     rw[show k' -k=(k' -(k+1))+1 by omega]
     simpa using h2
theorem yp {rec:TypeId->DataW H->Prop} {d:DataW H}: ∀{l:List Field} {k:Nat},(∀i f,l[i]? =some f->rec f.type (gx d (k+i)))->jE.vh rec d k l
  | [],_,_=>trivial
  |f::r,k,h=>⟨h 0 f rfl,yp λi f hf=>by have:=h (i+1) f (by simpa using hf);rwa [show k+(i+1)=k+1+i by omega]at this⟩
theorem CJ {k:IntKind} {n:Int} (h:(Lit.int k n).wf=true):k.wrap n=n:=by
  cases k<;>simp[Lit.wf,IntKind.min,IntKind.max,IntKind.signed,IntKind.bits]at h<;>simp[IntKind.wrap,IntKind.signed,IntKind.bits]<;>(try split)<;>omega
variable {P:Program} {w:World} {enc:TypeId×Value->H} {base:Nat} {spare:Nat->Bool} {held:Bool}
theorem jV: ∀(n fuel:Nat) {T:TypeId} {cs:List Value} {x:DataW H×List MemPlace},DataW.trod enc P w base spare held fuel T cs=some x->
    (∀j,j<cs.length-> ∃y,cs[j]? =some y/\Den w o0 (dV P n T x.1 j) y)/\jE P n T x.1
  |0,_,T,cs,x,h=>⟨λj hj=>⟨_,List.getElem?_eq_getElem hj,trivial⟩,trivial⟩
  |n+1,fuel,T,cs,x,h=>by
   have aj: ∀{s:Nat->SV},(∀j,s j= .aj)-> ∀j,j<cs.length-> ∃y,cs[j]? =some y/\Den w o0 (s j) y:=λhs j hj=>⟨_,List.getElem?_eq_getElem hj,by rw[hs];trivial⟩
   unfold dV jE
   cases hu:P.underlying T with
   |none=>exact⟨aj λ_=>rfl,trivial⟩
   |some u=>
    cases u with
    |int k=>
     obtain⟨z,rfl,rfl,hw⟩:=DataW.trod_int hu h
     refine⟨λj hj=>?_,CJ hw⟩
     obtain rfl:j=0:=by simp at hj;exact hj
     exact⟨_,rfl,rfl⟩
    |bool=>
     obtain⟨z,rfl,rfl⟩:=DataW.trod_bool hu h
     refine⟨λj hj=>?_,trivial⟩
     obtain rfl:j=0:=by simp at hj;exact hj
     exact⟨_,rfl,rfl⟩
    |string=>
     obtain⟨z,rfl,rfl,hz⟩:=DataW.trod_string hu h
     have e:qx (.lit (.string z.data.toList):DataW H)=z:=by simp[qx]
     refine⟨λj hj=>?_,by rw[e];unfold maxLen at hz;omega⟩
     obtain rfl:j=0:=by simp at hj;exact hj
     exact⟨_,rfl,by simp only[Den];rw[e]⟩
    |slice E=>
     rcases DataW.trod_slice hu h with⟨rfl,rfl⟩|⟨a,len,cap,elems,rest,m,rfl,rfl,rfl,U,h2,h3,h4,h5,_,_⟩
     · refine⟨λj hj=>?_,by simp[dt],λi hi=>absurd hi (by simp[dt])⟩
       obtain rfl:j=0:=by simp at hj;exact hj
       exact⟨_,rfl,none,0,rfl,Nat.le_refl _,Nat.zero_le _,.inl rfl⟩
     · have hlen:dt (.slice (elems.map (·.1)) (rest.map (·.1)):DataW H)=len:=by simp[dt,h4]
       have el: ∀i,i<len-> ∃y mn,elems[i]? =some y/\eC (.slice (elems.map (·.1)) (rest.map (·.1)):DataW H) i=y.1/\w.cells? base (a.add (i*P.cellsOf E)) (P.cellsOf E)=some mn/\DataW.trod enc P w base spare held m E mn=some y:=by
         intro i hi
         have h6:=h5 i hi
         rw[List.getElem?_eq_getElem (by omega)]at h6
         rw[Option.bind_eq_some_iff]at h6
         obtain⟨mn,h7,h8⟩:=h6
         exact⟨_,mn,List.getElem?_eq_getElem (by omega),pD (by rw[List.getElem?_map,List.getElem?_eq_getElem (by omega)];rfl),h7,h8⟩
       refine⟨λj hj=>?_,by rw[hlen];unfold maxLen at h3;omega,λi hi=>?_⟩
       · obtain rfl:j=0:=by simp at hj;exact hj
         refine⟨_,rfl,some a,cap,by rw[hlen],by rw[hlen];exact h2,by rw[hlen];exact Nat.le_trans h2 h3,.inr ⟨a,rfl,λi hi q hq=>?_⟩⟩
         rw[hlen]at hi
         obtain⟨y,mn,h6,h7,h8,h9⟩:=el i hi
         obtain⟨g1,g2,g3⟩:=World.cells?_some h8
         obtain⟨z,dc,dP⟩:=(jV n m h9).1 q (by omega)
         refine⟨z,?_,⟨id,λ_=>id⟩,by
           show Den w o0.bare (dV P n E (eC (.slice (elems.map (·.1)) (rest.map (·.1))) i) q) z
           rw[h7];exact dP⟩
         have:=g3 q hq
         rw[add_add]at this
         rw[this];exact dc
       · rw[hlen]at hi
         obtain⟨y,mn,h6,h7,h8,h9⟩:=el i hi
         rw[h7];exact(jV n m h9).2
    |struct fs=>
     obtain⟨xs,m,rfl,rfl,hl,jC,hf⟩:=DataW.trod_struct hu h
     have part: ∀i f,fs.toList[i]? =some f-> ∃y,gx (.agg (xs.map (·.1)):DataW H) i=y.1/\DataW.trod enc P w base spare held m f.type ((cs.drop f.offset).take (P.cellsOf f.type))=some y:=by
       intro i f hi
       have h6:=hf i f (by simpa using hi)
       have af:i<xs.length:=by
         have:=(List.getElem?_eq_some_iff.1 hi).1
         simp at this;omega
       rw[List.getElem?_eq_getElem af]at h6
       exact⟨_,pD (by rw[List.getElem?_map,List.getElem?_eq_getElem af];rfl),h6⟩
     refine⟨λj hj=>?_,yp λi f hi=>?_⟩
     · show∃y,_/\Den w o0 (match fieldAt P j 0 fs.toList with|some (k,f)=>dV P n f.type (gx _ k) (j -f.offset)|none=> .aj) y
       cases Fm:fieldAt P j 0 fs.toList with
       |none=>exact⟨_,List.getElem?_eq_getElem hj,trivial⟩
       |some kf=>
        obtain⟨k,f⟩:=kf
        obtain⟨_,h7,h8,h9⟩:=wF Fm
        obtain⟨y,dc,dP⟩:=part k f (by simpa using h7)
        have hlen:((cs.drop f.offset).take (P.cellsOf f.type)).length=min (P.cellsOf f.type) (cs.length -f.offset):=by simp
        obtain⟨z,gb,hY⟩:=(jV n m dP).1 (j -f.offset) (by rw[hlen];omega)
        refine⟨z,?_,by show Den w o0 (dV P n f.type (gx (.agg (xs.map (·.1))) k) (j -f.offset)) z;rw[dc];exact hY⟩
        rw[List.getElem?_take_of_lt (by omega),List.getElem?_drop,show f.offset+(j -f.offset)=j by omega]at gb
        exact gb
     · rw[Nat.zero_add]
       obtain⟨y,dc,dP⟩:=part i f hi
       rw[dc];exact(jV n m dP).2
    |array q E=>
     obtain⟨xs,m,rfl,rfl,hl,jC,hf⟩:=DataW.trod_array hu h
     have part: ∀i,i<q-> ∃y,gx (.agg (xs.map (·.1)):DataW H) i=y.1/\DataW.trod enc P w base spare held m E ((cs.drop (i*P.cellsOf E)).take (P.cellsOf E))=some y:=by
       intro i hi
       have h6:=hf i hi
       rw[List.getElem?_eq_getElem (by omega)]at h6
       exact⟨_,pD (by rw[List.getElem?_map,List.getElem?_eq_getElem (by omega)];rfl),h6⟩
     refine⟨λj hj=>?_,λi hi=>?_⟩
     · show∃y,_/\Den w o0 (match Nat.blt 0 (P.cellsOf E)&&Nat.blt (j/P.cellsOf E) q with|true=>dV P n E (gx _ (j/P.cellsOf E)) (j%P.cellsOf E)|false=> .aj) y
       cases hb:Nat.blt 0 (P.cellsOf E)&&Nat.blt (j/P.cellsOf E) q with
       |false=>exact⟨_,List.getElem?_eq_getElem hj,trivial⟩
       |true=>
        rw[Bool.and_eq_true,lR,lR,decide_eq_true_eq,decide_eq_true_eq]at hb
        obtain⟨hz,hb⟩:=hb
        obtain⟨y,dc,dP⟩:=part _ hb
        · have FJ:=Nat.mod_lt j hz
          have AD:=Nat.div_add_mod j (P.cellsOf E)
          rw[Nat.mul_comm]at AD
          have hlen:((cs.drop ((j/P.cellsOf E)*P.cellsOf E)).take (P.cellsOf E)).length=min (P.cellsOf E) (cs.length -(j/P.cellsOf E)*P.cellsOf E):=by simp
          obtain⟨z,gb,hY⟩:=(jV n m dP).1 (j%P.cellsOf E) (by rw[hlen];omega)
          refine⟨z,?_,by show Den w o0 (dV P n E (gx (.agg (xs.map (·.1))) (j/P.cellsOf E)) (j%P.cellsOf E)) z;rw[dc];exact hY⟩
          rw[List.getElem?_take_of_lt (by omega),List.getElem?_drop,AD]at gb
          exact gb
     · obtain⟨y,dc,dP⟩:=part i hi
       rw[dc];exact(jV n m dP).2
    |_=>exact⟨aj λ_=>rfl,trivial⟩
theorem B0 {T:TypeId} {v:Value} {d:DataW H} {p:List MemPlace} {r:Reach} {b:Nat} (h:DataW.Trod enc P w base spare held T v d p) (hv:Value.okWide P w r b T v):Den w o0 (vg P T d) v/\jE P 8 T d:=by
  obtain⟨fuel,h⟩:=h
  obtain⟨U,h2⟩:=jV 8 fuel h
  refine⟨?_,h2⟩
  have one:v.cells= #[v]->Den w o0 (dV P 8 T d 0) v:=λe=>by
    obtain⟨y,h3,h4⟩:=U 0 (by rw[e];simp)
    rw[e]at h3
    obtain rfl:v=y:=by simpa using h3
    exact h4
  unfold vg
  cases hu:P.underlying T with
  |none=>trivial
  |some u=>
   have agg: ∀cs,v= .agg cs->cs.size=P.cellsOf T->Den w o0 (.ag (P.cellsOf T) (dV P 8 T d)) v:=by
     rintro cs rfl hs
     refine⟨cs,rfl,hs,λj hj=>?_⟩
     obtain⟨y,h3,h4⟩:=U j (by show j<cs.toList.length;simp;omega)
     have h3:cs.toList[j]? =some y:=h3
     exact⟨y,by simpa using h3,h4⟩
   have jk:dV P 8 T d 0= .aj->Den w o0 (dV P 8 T d 0) v:=λe=>by rw[e];trivial
   cases u with
   |struct fs=>
    unfold Value.okWide at hv;rw[hu]at hv
    obtain⟨cs,e,hs,_⟩:=hv
    exact agg cs e hs
   |array n E=>
    unfold Value.okWide at hv;rw[hu]at hv
    obtain⟨cs,e,hs,_⟩:=hv
    exact agg cs e hs
   |int k=>obtain⟨n,rfl⟩:=WideShapes.okWide_int hu hv;exact one rfl
   |bool=>obtain⟨n,rfl⟩:=WideShapes.okWide_bool hu hv;exact one rfl
   |string=>obtain⟨n,rfl⟩:=WideShapes.okWide_string hu hv;exact one rfl
   |slice E=>obtain⟨a,l,c,rfl⟩:=WideShapes.okWide_slice hu hv;exact one rfl
   |_=>exact jk (by unfold dV;rw[hu])
def nw (P:Program):List TypeId->List (DataW H)->List SV
  |t::ts,d::ds=>vg P t d::nw P ts ds
  |_,_=> []
def nT (P:Program):List TypeId->List (DataW H)->Prop
  |t::ts,d::ds=>jE P 8 t d/\nT P ts ds
  |_,_=>True
theorem xu {r:Reach} {b:Nat}: ∀{ts:List TypeId} {vs:List Value} {ds:List (DataW H)} {p:List MemPlace},DataW.TrodAll enc P w base spare held ts vs ds p->
    (∀(j:Nat) t v,ts[j]? =some t->vs[j]? =some v->Value.okWide P w r b t v)->aJ w o0 (nw P ts ds) vs/\nT P ts ds
  | [],[],[],_,_,_=>⟨trivial,trivial⟩
  |t::ts,v::vs,d::ds,_,⟨p,q,U,h2,_⟩,hv=>by
   obtain⟨h3,h4⟩:=B0 U (hv 0 t v rfl rfl)
   obtain⟨h5,h6⟩:=xu h2 (λj t v h h'=>hv (j+1) t v (by simpa using h) (by simpa using h'))
   exact⟨⟨h3,h5⟩,h4,h6⟩
theorem Ez (W:World):ai W o0 (bf 0 []):=⟨(pd []).symm,λb ⟨k,p,L,h,_⟩=>(by cases h),λ_ h=>False.elim h,λ_ h=>False.elim h,λ_ h=>False.elim h,λ_ _ _ _ _ _ h=>(by cases h),λ_ _ _ h=>(by cases h),λ_ _ _ h=>(by cases h),λ_ _ h=>(by cases h),λ_ _ _ _=>rfl⟩
theorem B1 {Gl:Nat->SV} {f:Nat} {c:ca} (ay:cp P Gl f c) {ts:List TypeId} {vs:Array Value} {ds:List (DataW H)} {p:List MemPlace} {r:Reach} {b:Nat}
    (hc: ∀ds:List (DataW H),ds.length=ts.length->nT P ts ds-> ∃pr,c.g (nw P ts ds) []=some (pr,.v (.bool true),[])/\pr)
    (hg: ∀g,Den w o0.bare (Gl g) (.pointer (some ⟨g,0,none⟩))) (h:DataW.TrodAll enc P w base spare held ts vs.toList ds p) (hl:ds.length=ts.length)
    (hv: ∀(j:Nat) t v,ts[j]? =some t->vs[j]? =some v->Value.okWide P w r b t v):
    Calls P f vs w λe W'=>e= .returned (.bool true)/\Below w.heap.size w W':=by
  obtain⟨U,h2⟩:=xu h (λj t v e e'=>hv j t v e (by simpa using e'))
  obtain⟨pr,h3,h4⟩:=hc ds hl h2
  refine(ay.fn _ _ _ _ _ h3 h4 w o0 vs hg (Ez w) U).mono ?_
  rintro e W' ⟨v,ae,rfl,ha,_,hr,_⟩
  have hr:v= .bool true:=hr
  exact⟨by rw[hr],ha.os,ha.tape,ha.output,ha.size,λk hk=>ha.same k hk id⟩
theorem cp.up {Gl wm:Nat->SV} {f:Nat} {c:ca} (h:cp P wm f c) (hu: ∀g,wm g=Gl g\/wm g= .aj):cp P Gl f c:=
  ⟨h.call,λargs mem pre res aB e hp w J vs hG=>h.fn args mem pre res aB e hp w J vs λg=>by
    rcases hu g with e|e
    · rw[e];exact hG g
    · rw[e];trivial,h.pj⟩
def qy:Option (Prop×SV×List ar)->Prop
  |some (p,.v (.bool true),[])=>p
  |_=>False
theorem Bz {x:Option (Prop×SV×List ar)} (h:qy x): ∃pr,x=some (pr,.v (.bool true),[])/\pr:=by
  unfold qy at h
  split at h
  · exact⟨_,rfl,h⟩
  · exact h.elim
def DX (P:Program) (ts:List TypeId):Array Value:=(ts.map λt=>match P.info? t with|some i=>i.zero.getD undef|none=>undef).toArray
end Go.Sy
namespace Go.Proofs.YtbngaammbjaajaaDoor
open Go.RowKit Go.Sy
def bX (v m:Int):Bool:=decide (v<0)||decide (m<v)
def ff (o:Int):Bool:=!(o==0)&&!(o==12)&&!(o==14)
def hasB (o:Int):Bool:=!(o==0)&&!(o==1)&&!(o==13)&&!(o==12)&&!(o==14)
def fg (o:Int):Bool:=(o==1)||(o==13)||(o==10)||(o==11)||(o==12)||(o==14)
def uq (i:Nat):ByteArray:=⟨(([[104,97,108,116],[115,101,116],[109,111,118],[97,100,100],[115,117,98],[109,117,108],[97,110,100],[111,114],[120,111,114],[108,101,115,115],[108,111,97,100],[115,116,111,114,101],[106,117,109,112],[122,101,114,111],[115,121,115]]:List (List UInt8)).getD i []).toArray⟩
def sQ (i j:Nat):SV:=match j with
  |0=> .v (.string (uq i))
  |1=> .v (.bool (ff i))
  |2=> .v (.bool (hasB i))
  |_=> .v (.bool (fg i))
def gM:Nat->SV:=λ_=> .aj
def jG:Nat->SV
  |0=> .pa false 4 15 sQ
  |_=> .aj
theorem iw: ∀g,gM g=jG g\/gM g= .aj:=λ_=> .inr rfl
end Go.Proofs.YtbngaammbjaajaaDoor
set_option linter.unusedVariables false
set_option linter.unusedSimpArgs false
set_option maxRecDepth 100000
namespace Go.Proofs.YtbngaammbjaajaaDoor
open Go.RowKit Go.Sy
def kt (v:Int) (h:Bool) (lo hi:Int):Bool:=bif h then decide (lo<=v)&&decide (v<=hi)else v==0
def fM (o a b m:Int):Bool:=bX a 7||bX b 7||decide (m< -32768)||decide (32767<m)||(!(ff o)&&a !=0)||(!(hasB o)&&b !=0)||(!(fg o)&&m !=0)
def cH (o a b m:Int):Int:=bif bX o 14 then 1 else bif fM o a b m then 2 else 0
structure zi where
  (v:Int) (h:Bool) (lo hi:Int)
def Ds:Sy.Spec:=⟨zi,λ⟨v,h,lo,hi⟩=> [.v (.int .i64 v),.v (.bool h),.v (.int .i64 lo),.v (.int .i64 hi)],λ_=> [],λ_=>True,λ⟨v,h,lo,hi⟩=> .v (.bool (kt v h lo hi)),λ_=> [],
  λargs mem=>match args with| [a0,a1,a2,a3]=>some ⟨aA (a0),Dx (a1),aA (a2),aA (a3)⟩|_=>none⟩
def Dt:ca:=⟨[],(Ds).g,none⟩
def zj:zi->Prop:=λ⟨v,h,lo,hi⟩=>let a0:=kt v h lo hi;((!h)=true->(v==0)=a0/\True)/\((!h)=false->cond (decide (lo<=v)) (decide (v<=hi)) false=a0/\True)
theorem CW:cp Tryd.prog gM 12 Dt:=eY .nil false Tryd.call12 Tryd.func12 (λ_=> []) (V:=zj) (λ_=>by kernel_rfl) λ⟨v,h,lo,hi⟩ hp=>by
  dsimp only[zj,tn,aK]
  refine⟨λU=>⟨?_,trivial⟩,λU=>⟨?_,trivial⟩⟩
  · cases h<;>first|rfl|cases U
  · cases h<;>first|(cases U;done)|(unfold kt;cases decide (lo<=v)<;>rfl)
end Go.Proofs.YtbngaammbjaajaaDoor
namespace Go.Sy
theorem jU {x:Int} (h0:0<=x) (U:x<9223372036854775808):(BitVec.ofInt 64 x).toNat=x.toNat:=by
  rw[BitVec.toNat_ofInt]
  congr 1
  exact Int.emod_eq_of_lt h0 (by simpa using (by omega:x<18446744073709551616))
theorem sF {n:Nat} (h:n<9223372036854775808):IntKind.i64.wrap (n:Int)=n:=by
  rw[IntKind.wrap_i64];omega
theorem EB {x y:Int} (hx:0<=x) (mi:x<9223372036854775808) (hy:0<=y) (wy:y<9223372036854775808):aS .or .i64 x y=((x.toNat|||y.toNat:Nat):Int):=by
  show IntKind.i64.wrap ((BitVec.ofInt 64 x|||BitVec.ofInt 64 y).toNat:Int)=_
  rw[BitVec.toNat_or,jU hx mi,jU hy wy]
  exact sF (Nat.or_lt_two_pow (n:=63) (by omega) (by omega))
theorem D0 {x y:Int} (hx:0<=x) (mi:x<9223372036854775808) (hy:0<=y) (wy:y<9223372036854775808):aS .and .i64 x y=((x.toNat&&&y.toNat:Nat):Int):=by
  show IntKind.i64.wrap ((BitVec.ofInt 64 x&&&BitVec.ofInt 64 y).toNat:Int)=_
  rw[BitVec.toNat_and,jU hx mi,jU hy wy]
  exact sF (Nat.lt_of_le_of_lt Nat.and_le_left (by omega))
theorem m_ (n:Nat) (hn:n<=62) {x m:Int} (hm:m=2^n -1):aS .and .i64 x m=x%2^n:=by
  show IntKind.i64.wrap ((BitVec.ofInt 64 x&&&BitVec.ofInt 64 m).toNat:Int)=_
  have hp:(2:Nat)^n<=2^62:=Nat.pow_le_pow_right (by omega) hn
  have dJ:(1:Nat)<=2^n:=Nat.one_le_two_pow
  have hc:((2:Int)^n)=((2^n:Nat):Int):=by simp
  have ju:0<=m:=by rw[hm,hc];omega
  have iS:m<9223372036854775808:=by rw[hm,hc];omega
  rw[BitVec.toNat_and,jU ju iS]
  have e:m.toNat=2^n -1:=by rw[hm,hc];omega
  rw[e,Nat.and_two_pow_sub_one_eq_mod,BitVec.toNat_ofInt]
  have hd:((x%((2^64:Nat):Int)).toNat%2^n:Nat)=(x%2^n).toNat:=by
    apply Int.ofNat.inj
    show(((x%((2^64:Nat):Int)).toNat%2^n:Nat):Int)=((x%2^n).toNat:Int)
    have Fz:(0:Int)<=x%((2^64:Nat):Int):=Int.emod_nonneg _ (by decide)
    have mj:(0:Int)<=x%2^n:=Int.emod_nonneg _ (by rw[hc];omega)
    rw[Int.natCast_emod,Int.toNat_of_nonneg Fz,Int.toNat_of_nonneg mj,hc]
    refine Int.emod_emod_of_dvd x ?_
    exact Int.natCast_dvd_natCast.2 (Nat.pow_dvd_pow 2 (by omega))
  rw[hd]
  have mj:(0:Int)<=x%2^n:=Int.emod_nonneg _ (by rw[hc];omega)
  have FA:x%2^n<2^n:=Int.emod_lt_of_pos _ (by rw[hc];omega)
  rw[Int.toNat_of_nonneg mj,IntKind.wrap_i64]
  rw[hc]at mj FA⊢
  omega
end Go.Sy
set_option linter.unusedVariables false
set_option linter.unusedSimpArgs false
set_option maxRecDepth 100000
namespace Go.Proofs.YtbngaammbjaajaaDoor
open Go.RowKit Go.Sy
theorem mC {o a b m:Int} (h:cH o a b m=0):0<=o/\o<=14/\0<=a/\a<=7/\0<=b/\b<=7/\ -32768<=m/\m<=32767:=by
  unfold cH at h
  cases U:bX o 14 with
  |true=>rw[U]at h;cases h
  |false=>
   cases h2:fM o a b m with
   |true=>rw[U,h2]at h;cases h
   |false=>
    unfold fM bX at h2
    unfold bX at U
    simp at U h2
    omega
def cz (y:Int):Int:=bif decide (32767<y)then y -65536 else y
def cX (x y:Int):Bool:=!(bX x 65535)&&!(bX y 65535)&&cH (x/256) (x/16%16) (x%16) (cz y)==0
structure xT where
  (o a b m:Int)
def xU:Sy.Spec:=⟨xT,λ⟨o,a,b,m⟩=> [.ag 4 (aq [.v (.int .i64 o),.v (.int .i64 a),.v (.int .i64 b),.v (.int .i64 m)])],λ_=> [],λ⟨o,a,b,m⟩=>cH o a b m=0,λ⟨o,a,b,m⟩=> .ag 2 (aq [.v (.int .i64 (o*256+a*16+b)),.v (.int .i64 (m%65536))]),λ_=> [],
  λargs mem=>match args with| [a0]=>some ⟨aA (bh a0 0),aA (bh a0 1),aA (bh a0 2),aA (bh a0 3)⟩|_=>none⟩
def B9:ca:=⟨[],(xU).g,none⟩
def xV:xT->Prop:=λ⟨o,a,b,m⟩=>let a0:=aK (o*256)=o*256;let b0:=aK (a*16)=a*16;let c0:Int:=o*256+a*16;let d0:=aK c0=c0;let e0:Int:=c0+b;let g0:=aK e0=e0;let h0:=True/\e0=e0;tn 2 ((decide (m<0)=true->aK (m+65536)=m+65536/\a0/\b0/\d0/\g0/\(True/\True)/\(h0/\m+65536=m%65536)/\True)/\(decide (m<0)=false->a0/\b0/\d0/\g0/\(True/\True)/\(h0/\m=m%65536)/\True))
theorem BA:cp Tryd.prog gM 9 B9:=eY .nil false Tryd.call9 Tryd.func9 (λ_=> []) (V:=xV) (λ_=>by kernel_rfl) λ⟨o,a,b,m⟩ hp=>by
  dsimp only[xU]at hp
  dsimp only[xV,tn,aK]
  have hr:=mC hp
  refine⟨trivial,trivial,λh=>?_,λh=>?_⟩
  all_goals
    repeat' (first|exact trivial|rfl|refine And.intro ?_ ?_)
  all_goals (try simp only[IntKind.wrap_i64])<;>simp at h<;>omega
end Go.Proofs.YtbngaammbjaajaaDoor
set_option linter.unusedVariables false
set_option linter.unusedSimpArgs false
set_option maxRecDepth 100000
namespace Go.Proofs.YtbngaammbjaajaaDoor
open Go.RowKit Go.Sy
def fH (x:Int):Prop:= -9223372036854775808<=x/\x<=9223372036854775807
theorem fH.wrap {x:Int} (h:fH x):IntKind.i64.wrap x=x:=by unfold fH at h;rw[IntKind.wrap_i64];omega
def aE (c n:Int):Int:=(bif decide (c<0)then -(c+1)else c)%n
theorem dd {c n:Int} (h:0<n):0<=aE c n/\aE c n<n:=⟨Int.emod_nonneg _ (by omega),Int.emod_lt_of_pos _ h⟩
structure zf where
  (c n:Int)
def zg:Sy.Spec:=⟨zf,λ⟨c,n⟩=> [.v (.int .i64 c),.v (.int .i64 n)],λ_=> [],λ⟨c,n⟩=>fH c/\0<n,λ⟨c,n⟩=> .v (.int .i64 (aE c n)),λ_=> [],
  λargs mem=>match args with| [a0,a1]=>some ⟨aA (a0),aA (a1)⟩|_=>none⟩
def Dr:ca:=⟨[],(zg).g,none⟩
def zh:zf->Prop:=λ⟨c,n⟩=>let a0:Int:=c+1;(decide (c<0)=true->aK a0=a0/\aK (0-a0)=0-a0/\(0<=Neg.neg a0/\0<n)/\Neg.neg a0%n=aE c n/\True)/\(decide (c<0)=false->(0<=c/\0<n)/\c%n=aE c n/\True)
theorem tN:cp Tryd.prog gM 5 Dr:=eY .nil false Tryd.call5 Tryd.func5 (λ_=> []) (V:=zh) (λ_=>by kernel_rfl) λ⟨c,n⟩ hp=>by
  dsimp only[zg]at hp
  dsimp only[zh,tn,aK]
  obtain⟨U,h2⟩:=hp
  unfold fH at U
  unfold aE
  refine⟨λh=>?_,λh=>?_⟩
  all_goals rw[h]
  all_goals simp at h
  · simp only[IntKind.wrap_i64,cond_true]
    repeat' (first|exact trivial|rfl|refine And.intro ?_ ?_)
    all_goals omega
  · simp only[cond_false]
    repeat' (first|exact trivial|rfl|refine And.intro ?_ ?_)
    all_goals omega
end Go.Proofs.YtbngaammbjaajaaDoor
set_option linter.unusedVariables false
set_option linter.unusedSimpArgs false
set_option maxRecDepth 100000
namespace Go.Proofs.YtbngaammbjaajaaDoor
open Go.RowKit Go.Sy
structure ah where
  r0:Int
  r1:Int
  r2:Int
  r3:Int
  r4:Int
  r5:Int
  r6:Int
  r7:Int
  pc:Int
  st:Int
  prio:Int
  node:Int
  space:Int
  helper:Int
  loc:Int
  word:Int
  dW:Int
  dZ:Int
  core:Int
  eo:Int
def gA (t:ah):List SV:= [.v (.int .i64 t.r0),.v (.int .i64 t.r1),.v (.int .i64 t.r2),.v (.int .i64 t.r3),.v (.int .i64 t.r4),.v (.int .i64 t.r5),.v (.int .i64 t.r6),.v (.int .i64 t.r7),.v (.int .i64 t.pc),.v (.int .i64 t.st),.v (.int .i64 t.prio),.v (.int .i64 t.node),.v (.int .i64 t.space),.v (.int .i64 t.helper),.v (.int .i64 t.loc),.v (.int .i64 t.word),.v (.int .i64 t.dW),.v (.int .i64 t.dZ),.v (.int .i64 t.core),.v (.int .i64 t.eo)]
def zV (s:SV):ah:=⟨aA (bh s 0),aA (bh s 1),aA (bh s 2),aA (bh s 3),aA (bh s 4),aA (bh s 5),aA (bh s 6),aA (bh s 7),aA (bh s 8),aA (bh s 9),aA (bh s 10),aA (bh s 11),aA (bh s 12),aA (bh s 13),aA (bh s 14),aA (bh s 15),aA (bh s 16),aA (bh s 17),aA (bh s 18),aA (bh s 19)⟩
def ah.blank:ah:=⟨0,0,0,0,0,0,0,0,0,0,0,-1,-1,-1,-1,0,0,-1,0,0⟩
def iN (op:Int) (a b:Nat):Nat:=bif op==6 then a&&&b else bif op==7 then a|||b else a^^^b
theorem tO {op:Int} {a b n:Nat} (ha:a<2^n) (hb:b<2^n):iN op a b<2^n:=by
  unfold iN
  cases op==6<;>cases op==7<;>simp only[cond_true,cond_false]
  · exact Nat.xor_lt_two_pow ha hb
  · exact Nat.or_lt_two_pow ha hb
  · exact Nat.lt_of_le_of_lt Nat.and_le_left ha
  · exact Nat.lt_of_le_of_lt Nat.and_le_left ha
structure yE where
  (FG:Unit)
def CU:Sy.Spec:=⟨yE,λ_=> [],λ_=> [],λ_=>True,λ_=> .ag 20 (aq (gA ah.blank)),λ_=> [],
  λargs mem=>match args with| []=>some ⟨()⟩|_=>none⟩
def CV:ca:=⟨[],(CU).g,none⟩
def yF:yE->Prop:=λ_=>let a0:=(0:Int)=0;let b0:=((-1):Int)=(-1);True/\tn 19 True/\((((((((((((((((((((True/\a0)/\a0)/\a0)/\a0)/\a0)/\a0)/\a0)/\a0)/\a0)/\a0)/\a0)/\b0)/\b0)/\b0)/\b0)/\a0)/\a0)/\b0)/\a0)/\a0)/\True
theorem B3:cp Tryd.prog gM 4 CV:=eY .nil false Tryd.call4 Tryd.func4 (λ_=> []) (V:=yF) (λ_=>by kernel_rfl) λ_ hp=>by
  dsimp only[yF,tn,aK]
  simp[ah.blank]
end Go.Proofs.YtbngaammbjaajaaDoor
set_option linter.unusedVariables false
set_option linter.unusedSimpArgs false
set_option maxRecDepth 100000
namespace Go.Proofs.YtbngaammbjaajaaDoor
open Go.RowKit Go.Sy
def aG (n:Nat) (l:Nat->Int) (i:Int):Int:=bif n==0 then i*31 else aE (l (i%n).toNat) 1000003+i/n*7919
theorem wZ {n:Nat} {l:Nat->Int} {i:Int} (h0:0<=i) (U:i<=1000):0<=aG n l i/\aG n l i<=9000000:=by
  unfold aG
  cases h:n==0
  · have hn:(0:Int)<n:=by have:n≠0:=by simpa using h
                          omega
    have:=dd (c:=l (i%n).toNat) (n:=1000003) (by decide)
    have d0:0<=i/n:=Int.ediv_nonneg h0 (by omega)
    have d1:i/n<=i:=Int.ediv_le_self _ h0
    simp only[cond_false]
    omega
  · simp only[cond_true];omega
structure zC where
  (n:Nat) (l:Nat->Int) (i:Int)
def zD:Sy.Spec:=⟨zC,λ⟨n,l,i⟩=> [.sl true 1 n (λi_ _=> .v (.int .i64 (l i_))),.v (.int .i64 i)],λ_=> [],λ⟨n,l,i⟩=>(∀k,k<n->fH (l k))/\0<=i/\i<=1000,λ⟨n,l,i⟩=> .v (.int .i64 (aG n l i)),λ_=> [],
  λargs mem=>match args with| [a0,a1]=>some ⟨qE a0,λi=>aA (qF a0 i 0),aA (a1)⟩|_=>none⟩
def D5:ca:=⟨[],(zD).g,none⟩
def zE:zC->Prop:=λ⟨n,l,i⟩=>let a0:=(n:Int);let b0:Int:=i%a0;let c0:Int:=l (Int.toNat b0);let d0:Int:=i/a0;let e0:Int:=d0*7919;let g0:Int:=aE c0 1000003+e0;a0<=9223372036854775807->((a0==0)=true->aK (i*31)=i*31/\i*31=aG n l i/\True)/\((a0==0)=false->tn 4 ((0<=i/\0<a0)/\(0<=b0/\b0<a0)/\True/\((c0=c0/\(1000003:Int)=1000003/\True)/\True/\((-9223372036854775808)<=c0/\c0<=9223372036854775807)/\(0:Int)<1000003)/\tn 3 ((0<=i/\0<a0/\aK d0=d0)/\aK e0=e0/\aK g0=g0/\g0=aG n l i/\True)))
theorem zd:cp Tryd.prog gM 6 D5:=eY (.cons tN .nil) false Tryd.call6 Tryd.func6 (λ_=> []) (V:=zE) (λ_=>by kernel_rfl) λ⟨n,l,i⟩ hp=>by
  dsimp only[zD]at hp
  dsimp only[zE,tn,aK]
  simp only[jr,eq_self,implies_true,Bool.cond_self]
  obtain⟨U,h2,h3⟩:=hp
  refineλ_=>⟨λh=>?_,λh=>?_⟩
  · have h0:n=0:=by simpa using h
    subst h0
    exact⟨by rw[IntKind.wrap_i64];omega,rfl⟩
  · have hn:(0:Int)<n:=by
      have:(n:Int)≠0:=by simpa using h
      omega
    have d0:0<=i/n:=Int.ediv_nonneg h2 (by omega)
    have d1:i/n<=i:=Int.ediv_le_self _ h2
    have m0:0<=i%n:=Int.emod_nonneg _ (by omega)
    have m1:i%n<n:=Int.emod_lt_of_pos _ hn
    have p:=dd (c:=l (i%n).toNat) (n:=1000003) (by decide)
    refine⟨⟨h2,hn⟩,⟨m0,m1⟩,⟨U _ (by omega),by decide⟩,⟨h2,hn,by rw[IntKind.wrap_i64];omega⟩,by rw[IntKind.wrap_i64];omega,by rw[IntKind.wrap_i64];omega,?_⟩
    unfold aG
    rw[show(n==0)=false from beq_eq_false_iff_ne.2 (by omega)]
    rfl
end Go.Proofs.YtbngaammbjaajaaDoor
set_option linter.unusedVariables false
set_option linter.unusedSimpArgs false
set_option maxRecDepth 100000
namespace Go.Proofs.YtbngaammbjaajaaDoor
open Go.RowKit Go.Sy
structure jF where
  o:Int
  a:Int
  b:Int
  m:Int
def aT (x:jF):List SV:= [.v (.int .i64 x.o),.v (.int .i64 x.a),.v (.int .i64 x.b),.v (.int .i64 x.m)]
def rF (L:Nat->List SV):Nat->Nat->SV:=λi j=>aq (L i) j
def dQ (j k cl:Int):jF:=
  bif j==0||j==1||j==2 then⟨1,1,0,k⟩else
  bif j==3||j==4 then⟨1,2,0,k⟩else
  bif j==5 then⟨1,3,0,aE k 9⟩else
  bif j==6 then⟨1,4,0,aE k 4⟩else
  bif j==7 then⟨11,2,7,32+aE k 18⟩else
  bif j==8 then⟨10,5,7,30+aE k 20⟩else
  bif j==9 then⟨3+aE k 7,5,2,0⟩else
  bif j==10 then⟨13,0,0,2*aE k 15⟩else⟨14,0,0,aE k cl⟩
def bF (c cl:Int):jF:=dQ (aE c 16) (aE (c/16) 32) cl
def fF (n:Nat) (l:Nat->Int) (at_ cl:Int) (i:Nat):jF:=bif Nat.blt i 15 then bF (aG n l (at_+i)) cl else⟨12,0,0,0⟩
def D3 (n:Nat) (l:Nat->Int) (at_ cl:Int):iO where
  σ:=Nat
  rt:= [(7,4)]
  sh i:= [(7,.aC 0 0 none 0 i),(8,.v (.int .i64 i))]
  mh i:= [(0,.row 4 i (rF λk=>aT (bF (aG n l (at_+k)) cl)))]
  inv i:=i<=15
  μ i:=15 -i
  init:=0
theorem fa {z:Int} (U: -1000000<=z) (h2:z<=1000000):IntKind.i64.wrap z=z:=by rw[IntKind.wrap_i64];omega
theorem uM {a b:Nat} (h:a<b):Nat.blt a b=true:=by rw[lR];exact decide_eq_true h
theorem D4 {a b:Nat} (h:b<=a):Nat.blt a b=false:=by rw[lR];exact decide_eq_false (Nat.not_lt.2 h)
theorem CQ {n:Nat} {l:Nat->Int} {at_ cl:Int} {s:Nat} {x:jF} (hs:s<15) (hx:bF (aG n l (at_+s)) cl=x): ∃y:Nat,s+1=y/\(s:Int)+1=y/\(s+1=y/\ ∀z:Nat,z<y->(((bif z.blt s then(bF (aG n l (at_+z)) cl).o else x.o)=(bF (aG n l (at_+z)) cl).o/\(bif z.blt s then(bF (aG n l (at_+z)) cl).a else x.a)=(bF (aG n l (at_+z)) cl).a)/\(bif z.blt s then(bF (aG n l (at_+z)) cl).b else x.b)=(bF (aG n l (at_+z)) cl).b)/\(bif z.blt s then(bF (aG n l (at_+z)) cl).m else x.m)=(bF (aG n l (at_+z)) cl).m)/\y<=15/\15 -y<15 -s:=by
  refine⟨s+1,rfl,rfl,⟨rfl,λz hz=>?_⟩,by omega,by omega⟩
  rcases Nat.lt_or_ge z s with h|h
  · rw[uM h];exact⟨⟨⟨rfl,rfl⟩,rfl⟩,rfl⟩
  · obtain rfl:z=s:=by omega
    rw[D4 h,hx];exact⟨⟨⟨rfl,rfl⟩,rfl⟩,rfl⟩
structure w_ where
  (n:Nat) (l:Nat->Int) (at_ cl:Int)
def xa:Sy.Spec:=⟨w_,λ⟨n,l,at_,cl⟩=> [.sl true 1 n (λi_ _=> .v (.int .i64 (l i_))),.v (.int .i64 at_),.v (.int .i64 cl)],λ_=> [],λ⟨n,l,at_,cl⟩=>(∀k,k<n->fH (l k))/\0<=at_/\at_<=900/\1<=cl/\cl<=100,λ_=> .aC 0 0 none 0 16,λ⟨n,l,at_,cl⟩=> [.row 4 16 (rF λi=>aT (fF n l at_ cl i))],
  λargs mem=>match args with| [a0,a1,a2]=>some ⟨qE a0,λi=>aA (qF a0 i 0),aA (a1),aA (a2)⟩|_=>none⟩
def Bb:ca:=⟨[],(xa).g,none⟩
def xb:w_->Prop:=λ⟨n,l,at_,cl⟩=>let a0:=true=true;let b0:=0=0;let c0:=(9:Int)=9/\True;let d0:=(0:Int)<9;let e0:=(4:Int)=4/\True;let g0:=(0:Int)<4;let h0:=(18:Int)=18/\True;let k0:=(0:Int)<18;let l0:=(20:Int)=20/\True;let o0:=(0:Int)<20;let q0:=(7:Int)=7/\True;let r0:=(0:Int)<7;let u0:=(15:Int)=15/\True;let v0:=(0:Int)<15;let w0:=cl=cl/\True;let x0:=0<cl;(0=0/\0=0)/\0=((0:Nat):Int)/\((0=0/\(∀y0:Nat,let z0:=bF (aG n l (at_+(y0:Int))) cl;y0<0->(((True/\SV.aj=SV.v (Value.int IntKind.i64 z0.o))/\SV.aj=SV.v (Value.int IntKind.i64 z0.a))/\SV.aj=SV.v (Value.int IntKind.i64 z0.b))/\SV.aj=SV.v (Value.int IntKind.i64 z0.m)))/\True)/\0<=15/\(∀a1:Nat,let b1:=decide ((a1:Int)<15);let c1:Int:=at_+(a1:Int);let d1:=aG n l c1;let e1:Int:=d1/16;let g1:=aE d1 16;let U:=g1==0;let k1:=U=true;let l1:=a1+1;let o1:=l1*32<=140737488355328/\(∀q1:Nat,a0);let r1:Int:=(a1:Int)+1;let u1:=aK r1=r1;let v1:=aE e1 32;let w1:=15-a1;let x1:=True/\o1/\u1/\(∃y1:Nat,(b0/\l1=y1)/\r1=(y1:Int)/\((l1=y1/\(∀z1:Nat,let a2:=Nat.blt z1 a1;let b2:=bF (aG n l (at_+((0+z1:Nat):Int))) cl;let c2:=bF (aG n l (at_+(z1:Int))) cl;z1<y1->(((True/\cond a2 b2.o 1=c2.o)/\cond a2 b2.a 1=c2.a)/\cond a2 b2.b 0=c2.b)/\cond a2 b2.m v1=c2.m))/\True)/\y1<=15/\15-y1<w1);let d2:=U=false;let e2:=g1==3;let g2:=e2=true;
    let h2:=True/\o1/\u1/\(∃k2:Nat,(b0/\l1=k2)/\r1=(k2:Int)/\((l1=k2/\(∀l2:Nat,let o2:=Nat.blt l2 a1;let q2:=bF (aG n l (at_+((0+l2:Nat):Int))) cl;let r2:=bF (aG n l (at_+(l2:Int))) cl;l2<k2->(((True/\cond o2 q2.o 1=r2.o)/\cond o2 q2.a 2=r2.a)/\cond o2 q2.b 0=r2.b)/\cond o2 q2.m v1=r2.m))/\True)/\k2<=15/\15-k2<w1);let u2:=e2=false;let v2:=g1==5;let w2:=v1=v1;let x2:=(-9223372036854775808)<=v1/\v1<=9223372036854775807;let y2:=g1==6;let z2:=g1==7;let a3:Int:=32+aE v1 18;let b3:=g1==8;let c3:Int:=30+aE v1 20;let d3:=g1==9;let e3:Int:=3+aE v1 7;let g3:=g1==10;let h3:Int:=2*aE v1 15;
    let k3:=(v2=true->((w2/\c0)/\True/\x2/\d0)/\True/\o1/\u1/\(∃l3:Nat,(b0/\l1=l3)/\r1=(l3:Int)/\((l1=l3/\(∀o3:Nat,let q3:=Nat.blt o3 a1;let r3:=bF (aG n l (at_+((0+o3:Nat):Int))) cl;let u3:=bF (aG n l (at_+(o3:Int))) cl;o3<l3->(((True/\cond q3 r3.o 1=u3.o)/\cond q3 r3.a 3=u3.a)/\cond q3 r3.b 0=u3.b)/\cond q3 r3.m (aE v1 9)=u3.m))/\True)/\l3<=15/\15-l3<w1))/\(v2=false->(y2=true->((w2/\e0)/\True/\x2/\g0)/\True/\o1/\u1/\(∃v3:Nat,(b0/\l1=v3)/\r1=(v3:Int)/\((l1=v3/\(∀w3:Nat,let x3:=Nat.blt w3 a1;let y3:=bF (aG n l (at_+((0+w3:Nat):Int))) cl;let z3:=bF (aG n l (at_+(w3:Int))) cl;w3<v3->(((True/\cond x3 y3.o 1=z3.o)/\cond x3 y3.a 4=z3.a)/\cond x3 y3.b 0=z3.b)/\cond x3 y3.m (aE v1 4)=z3.m))/\True)/\v3<=15/\15-v3<w1))/\(y2=false->(z2=true->((w2/\h0)/\True/\x2/\k0)/\aK a3=a3/\True/\o1/\u1/\(∃a4:Nat,(b0/\l1=a4)/\r1=(a4:Int)/\((l1=a4/\(∀b4:Nat,let c4:=Nat.blt b4 a1;let d4:=bF (aG n l (at_+((0+b4:Nat):Int))) cl;let e4:=bF (aG n l (at_+(b4:Int))) cl;b4<a4->(((True/\cond c4 d4.o 11=e4.o)/\cond c4 d4.a 2=e4.a)/\cond c4 d4.b 7=e4.b)/\cond c4 d4.m a3=e4.m))/\True)/\a4<=15/\15-a4<w1))/\(z2=false->(b3=true->((w2/\l0)/\True/\x2/\o0)/\aK c3=c3/\True/\o1/\u1/\(∃g4:Nat,(b0/\l1=g4)/\r1=(g4:Int)/\((l1=g4/\(∀h4:Nat,let k4:=Nat.blt h4 a1;let l4:=bF (aG n l (at_+((0+h4:Nat):Int))) cl;let o4:=bF (aG n l (at_+(h4:Int))) cl;h4<g4->(((True/\cond k4 l4.o 10=o4.o)/\cond k4 l4.a 5=o4.a)/\cond k4 l4.b 7=o4.b)/\cond k4 l4.m c3=o4.m))/\True)/\g4<=15/\15-g4<w1))/\(b3=false->(d3=true->((w2/\q0)/\True/\x2/\r0)/\aK e3=e3/\True/\o1/\u1/\(∃q4:Nat,(b0/\l1=q4)/\r1=(q4:Int)/\((l1=q4/\(∀r4:Nat,let u4:=Nat.blt r4 a1;let v4:=bF (aG n l (at_+((0+r4:Nat):Int))) cl;let w4:=bF (aG n l (at_+(r4:Int))) cl;r4<q4->(((True/\cond u4 v4.o e3=w4.o)/\cond u4 v4.a 5=w4.a)/\cond u4 v4.b 2=w4.b)/\cond u4 v4.m 0=w4.m))/\True)/\q4<=15/\15-q4<w1))/\(d3=false->(g3=true->((w2/\u0)/\True/\x2/\v0)/\aK h3=h3/\True/\o1/\u1/\(∃x4:Nat,(b0/\l1=x4)/\r1=(x4:Int)/\((l1=x4/\(∀y4:Nat,let z4:=Nat.blt y4 a1;let a5:=bF (aG n l (at_+((0+y4:Nat):Int))) cl;let b5:=bF (aG n l (at_+(y4:Int))) cl;y4<x4->(((True/\cond z4 a5.o 13=b5.o)/\cond z4 a5.a 0=b5.a)/\cond z4 a5.b 0=b5.b)/\cond z4 a5.m h3=b5.m))/\True)/\x4<=15/\15-x4<w1))/\(g3=false->((w2/\w0)/\True/\x2/\x0)/\True/\o1/\u1/\(∃c5:Nat,(b0/\l1=c5)/\r1=(c5:Int)/\((l1=c5/\(∀d5:Nat,let e5:=Nat.blt d5 a1;let g5:=bF (aG n l (at_+((0+d5:Nat):Int))) cl;let h5:=bF (aG n l (at_+(d5:Int))) cl;d5<c5->(((True/\cond e5 g5.o 14=h5.o)/\cond e5 g5.a 0=h5.a)/\cond e5 g5.b 0=h5.b)/\cond e5 g5.m (aE v1 cl)=h5.m))/\True)/\c5<=15/\15-c5<w1)))))));
    let k5:=g1==4;let l5:=(g2->(g2->h2)/\(u2->k3))/\(u2->(k5=true->h2)/\(k5=false->k3));let o5:=g1==1;let q5:=o5=true;let r5:=o5=false;let u5:=g1==2;a1<=15->(b1=true->aK c1=c1/\(((n=n/\(∀v5:Nat,v5<n->True/\l v5=l v5))/\c1=c1/\True)/\True/\(∀w5:Nat,w5<n->(-9223372036854775808)<=l w5/\l w5<=9223372036854775807)/\0<=c1/\c1<=1000)/\(0<=d1/\(0:Int)<16/\aK e1=e1)/\((e1=e1/\(32:Int)=32/\True)/\True/\((-9223372036854775808)<=e1/\e1<=9223372036854775807)/\(0:Int)<32)/\((d1=d1/\(16:Int)=16/\True)/\True/\((-9223372036854775808)<=d1/\d1<=9223372036854775807)/\(0:Int)<16)/\(k1->(k1->x1)/\(d2->l5))/\(d2->(q5->(q5->x1)/\(r5->l5))/\(r5->(u5=true->x1)/\(u5=false->l5))))/\(b1=false->True/\o1/\(b0/\l1=16)/\(l1=16/\(∀x5:Nat,let y5:=Nat.blt x5 a1;let z5:=bF (aG n l (at_+((0+x5:Nat):Int))) cl;let a6:=fF n l at_ cl x5;x5<16->(((True/\cond y5 z5.o 12=a6.o)/\cond y5 z5.a 0=a6.a)/\cond y5 z5.b 0=a6.b)/\cond y5 z5.m 0=a6.m))/\True))
set_option maxHeartbeats 1000000 in
theorem A4:cp Tryd.prog gM 8 Bb:=eY (.cons tN (.cons zd .nil)) false Tryd.call8 Tryd.func8 (λ⟨n,l,at_,cl⟩=> [.inv (D3 n l at_ cl)]) (V:=xb) (λ_=>by kernel_rfl) λ⟨n,l,at_,cl⟩ hp=>by
  dsimp only[xa]at hp
  dsimp only[xb,tn,aK]
  simp only[jr,kz,eq_self,implies_true,Bool.cond_self]
  obtain⟨hl,a0,a1,c0,c1⟩:=hp
  unfold fH at hl
  refineλs hs=>⟨λh=>?_,λh=>?_⟩
  · have af:s<15:=by have:=of_decide_eq_true h;omega
    have hr:=wZ (n:=n) (l:=l) (i:=at_+s) (by omega) (by omega)
    have hk:=dd (c:=aG n l (at_+s)/16) (n:=32) (by decide)
    have hj:bF (aG n l (at_+s)) cl=dQ (aE (aG n l (at_+s)) 16) (aE (aG n l (at_+s)/16) 32) cl:=rfl
    have key:=λ{x:jF} (hx:bF (aG n l (at_+s)) cl=x)=>CQ af hx
    rw[hj]at key
    refine⟨fa (by omega) (by omega),⟨hl,by omega,by omega⟩,⟨by omega,by decide,fa (by omega) (by omega)⟩,⟨by omega,by decide⟩,⟨by omega,by decide⟩,?_⟩
    generalize aE (aG n l (at_+s)) 16=j at*
    generalize aE (aG n l (at_+s)/16) 32=k at*
    have k9:=dd (c:=k) (n:=9) (by decide)
    have k4:=dd (c:=k) (n:=4) (by decide)
    have Fo:=dd (c:=k) (n:=18) (by decide)
    have Fp:=dd (c:=k) (n:=20) (by decide)
    have k7:=dd (c:=k) (n:=7) (by decide)
    have Fq:=dd (c:=k) (n:=15) (by decide)
    have kc:=dd (c:=k) (n:=cl) (by omega)
    repeat' (first|exact trivial|rfl|(refine And.intro ?_ ?_)|(intro(h:(_:Bool)=_)))
    all_goals first
      |omega
      |exact fa (by omega) (by omega)
      |(refine key (x:=⟨_,_,_,_⟩) ?_;clear key hj hl;simp only[dQ, *,Bool.or_self,Bool.or_false,Bool.or_true,Bool.true_or,Bool.false_or,cond_true,cond_false];done)
      |(exfalso;simp_all;done)
      |(refine key (x:=⟨1,3,0,aE k 9⟩) ?_;clear key hj hl;simp only[dQ, *,Bool.or_self,Bool.or_false,Bool.or_true,Bool.true_or,Bool.false_or,cond_true,cond_false];done)
      |(refine key (x:=⟨1,4,0,aE k 4⟩) ?_;clear key hj hl;simp only[dQ, *,Bool.or_self,Bool.or_false,Bool.or_true,Bool.true_or,Bool.false_or,cond_true,cond_false];done)
      |(refine key (x:=⟨11,2,7,32+aE k 18⟩) ?_;clear key hj hl;simp only[dQ, *,Bool.or_self,Bool.or_false,Bool.or_true,Bool.true_or,Bool.false_or,cond_true,cond_false];done)
      |(refine key (x:=⟨10,5,7,30+aE k 20⟩) ?_;clear key hj hl;simp only[dQ, *,Bool.or_self,Bool.or_false,Bool.or_true,Bool.true_or,Bool.false_or,cond_true,cond_false];done)
      |(refine key (x:=⟨3+aE k 7,5,2,0⟩) ?_;clear key hj hl;simp only[dQ, *,Bool.or_self,Bool.or_false,Bool.or_true,Bool.true_or,Bool.false_or,cond_true,cond_false];done)
      |(refine key (x:=⟨13,0,0,2*aE k 15⟩) ?_;clear key hj hl;simp only[dQ, *,Bool.or_self,Bool.or_false,Bool.or_true,Bool.true_or,Bool.false_or,cond_true,cond_false];done)
      |(refine key (x:=⟨14,0,0,aE k cl⟩) ?_;clear key hj hl;simp only[dQ, *,Bool.or_self,Bool.or_false,Bool.or_true,Bool.true_or,Bool.false_or,cond_true,cond_false];done)
  obtain rfl:s=15:=by have:=of_decide_eq_false h;omega
  refine⟨by decide,rfl,rfl,λi hi=>?_⟩
  unfold fF
  rcases Nat.lt_or_ge i 15 with e|e
  · rw[uM e];exact⟨⟨⟨rfl,rfl⟩,rfl⟩,rfl⟩
  · obtain rfl:i=15:=by omega
    exact⟨⟨⟨rfl,rfl⟩,rfl⟩,rfl⟩
structure yz where
  (a:Int)
def CR:Sy.Spec:=⟨yz,λ⟨a⟩=> [.ag 0 (aq []),.v (.int .i64 a)],λ_=> [],λ_=>True,λ_=> .tp 2 (aq [.v (.int .i64 0),.v (.bool false)]),λ_=> [],
  λargs mem=>match args with| [a0,a1]=>some ⟨aA (a1)⟩|_=>none⟩
def CS:ca:=⟨[],(CR).g,none⟩
def yA:yz->Prop:=λ_=>True/\((True/\(0:Int)=0)/\false=false)/\True
theorem B5:cp Tryd.prog gM 28 CS:=eY .nil false Tryd.call28 Tryd.func28 (λ_=> []) (V:=yA) (λ_=>by kernel_rfl) λ⟨a⟩ hp=>by
  dsimp only[yA,tn,aK]
  simp only[jr,kz,eq_self,implies_true,Bool.cond_self]
structure yB where
  (p x y a:Int)
def yC:Sy.Spec:=⟨yB,λ⟨p,x,y,a⟩=> [.ag 3 (aq [.v (.int .i64 p),.v (.int .i64 x),.v (.int .i64 y)]),.v (.int .i64 a)],λ_=> [],λ⟨p,_,_,_⟩=>0<=p/\p<=65535,λ⟨p,x,y,a⟩=> .tp 2 (aq [.v (.int .i64 (bif a==p then x else y)),.v (.bool (a==p||a==(p+1)%65536))]),λ_=> [],
  λargs mem=>match args with| [a0,a1]=>some ⟨aA (bh a0 0),aA (bh a0 1),aA (bh a0 2),aA (a1)⟩|_=>none⟩
def CT:ca:=⟨[],(yC).g,none⟩
def yD:yB->Prop:=λ⟨p,x,y,a⟩=>let a0:=a==p;let b0:Int:=cond a0 x y;let c0:Int:=p+1;let d0:=a==c0%65536;let e0:=a0||d0;True/\(a0=true->((0:Int)<=0/\0<((2:Nat):Int))/\((True/\x=b0)/\true=e0)/\True)/\(a0=false->True/\((0:Int)<=1/\1<((2:Nat):Int))/\tn 4 (aK c0=c0/\(0<=c0/\(0:Int)<65536)/\tn 2 (((True/\y=b0)/\d0=e0)/\True)))
theorem B6:cp Tryd.prog gM 30 CT:=eY .nil false Tryd.call30 Tryd.func30 (λ_=> []) (V:=yD) (λ_=>by kernel_rfl) λ⟨p,x,y,a⟩ hp=>by
  dsimp only[yC]at hp
  dsimp only[yD,tn,aK]
  simp only[jr,kz,eq_self,implies_true,Bool.cond_self]
  exact⟨λh=>⟨by decide,by rw[h];rfl,by rw[h];rfl⟩,λh=>⟨by decide,fa (by omega) (by omega),⟨by omega,by decide⟩,by rw[h];rfl,by rw[h];rfl⟩⟩
structure xR where
  (p x y a v:Int)
def B7:Sy.Spec:=⟨xR,λ⟨p,x,y,a,v⟩=> [.ag 3 (aq [.v (.int .i64 p),.v (.int .i64 x),.v (.int .i64 y)]),.v (.int .i64 a),.v (.int .i64 v)],λ_=> [],λ_=>True,λ⟨_,_,_,_,v⟩=> .v (.bool false),λ_=> [],
  λargs mem=>match args with| [a0,a1,a2]=>some ⟨aA (bh a0 0),aA (bh a0 1),aA (bh a0 2),aA (a1),aA (a2)⟩|_=>none⟩
def B8:ca:=⟨[],(B7).g,none⟩
def xS:xR->Prop:=λ_=>True/\false=false/\True
theorem BC:cp Tryd.prog gM 31 B8:=eY .nil false Tryd.call31 Tryd.func31 (λ_=> []) (V:=xS) (λ_=>by kernel_rfl) λ⟨p,x,y,a,v⟩ hp=>by
  dsimp only[xS,tn,aK]
  simp only[jr,kz,eq_self,implies_true,Bool.cond_self]
end Go.Proofs.YtbngaammbjaajaaDoor
set_option linter.unusedVariables false
set_option linter.unusedSimpArgs false
set_option maxRecDepth 100000
namespace Go.Proofs.YtbngaammbjaajaaDoor
open Go.RowKit Go.Sy
structure yG where
  (o a b m:Int)
def CX:Sy.Spec:=⟨yG,λ⟨o,a,b,m⟩=> [.ag 4 (aq [.v (.int .i64 o),.v (.int .i64 a),.v (.int .i64 b),.v (.int .i64 m)])],λ_=> [],λ_=>True,λ⟨o,a,b,m⟩=> .er 53 99999 (cH o a b m) (-1),λ_=> [],
  λargs mem=>match args with| [a0]=>some ⟨aA (bh a0 0),aA (bh a0 1),aA (bh a0 2),aA (bh a0 3)⟩|_=>none⟩
def CY:ca:=⟨[],(CX).g,none⟩
def yH:yG->Prop:=λ⟨o,a,b,m⟩=>let a0:=cond (decide (o<0)) true (decide (15<=o));let b0:=cH o a b m;let c0:=((-1):Int)=(-1);let d0:=True/\True;let e0:=((Int.toNat o:Nat):Int);let g0:=ff e0;let h0:=(0:Int)=0/\(7:Int)=7/\True;let k0:=!kt a g0 0 7;let l0:=hasB e0;let o0:=cond k0 true (!kt b l0 0 7);let q0:=fg e0;let r0:=cond o0 true (!kt m q0 (-32768) 32767);True/\(a0=true->((1:Int)≠0/\b0=1/\c0)/\True)/\(a0=false->(0<=o/\o<((15:Nat):Int))/\True/\tn 2 d0/\((a=a/\g0=g0/\h0)/\d0)/\(k0=false->(b=b/\l0=l0/\h0)/\d0)/\(o0=false->(m=m/\q0=q0/\((-32768):Int)=(-32768)/\(32767:Int)=32767/\True)/\d0)/\(r0=true->((2:Int)≠0/\b0=2/\c0)/\True)/\(r0=false->(b0=0/\c0)/\True))
theorem Cb:cp Tryd.prog jG 11 CY:=eY (.cons (CW.up iw) .nil) false Tryd.call11 Tryd.func11 (λ_=> []) (V:=yH) (λ_=>by kernel_rfl) λ⟨o,a,b,m⟩ hp=>by
  dsimp only[yH,tn,aK]
  have hA:(bif decide (o<0)then true else decide (15<=o))=false->0<=o/\o<15/\(o.toNat:Int)=o:=by
    intro U
    have h2: ¬o<0/\ ¬15<=o:=by
      cases hd:decide (o<0)<;>rw[hd]at U<;>simp_all
    exact⟨by omega,by omega,by omega⟩
  refine⟨trivial,λU=>⟨⟨by decide,?_,rfl⟩,trivial⟩,λU=>?_⟩
  · have:bX o 14=true:=by
      unfold bX
      cases hd:decide (o<0)<;>rw[hd]at U<;>simp_all
      omega
    simp[cH,this]
  · obtain⟨g1,g2,g3⟩:=hA U
    have hf:bX o 14=false:=by simp[bX];omega
    clear hA U
    rw[g3]
    refine⟨⟨g1,g2⟩,trivial,⟨trivial,trivial,trivial,trivial⟩,by simp,λ_=>by simp,λ_=>by simp,λh2=>⟨⟨by decide,?_,rfl⟩,trivial⟩,λh2=>⟨⟨?_,rfl⟩,trivial⟩⟩
    all_goals
      unfold cH
      rw[hf]
      simp only[cond_false]
      clear hf g1 g2 g3
      unfold kt at h2
      unfold fM bX
      cases hC:ff o<;>cases hB':hasB o<;>cases hC':fg o<;>simp_all [cond_eq_ite]<;>omega
end Go.Proofs.YtbngaammbjaajaaDoor
set_option linter.unusedVariables false
set_option linter.unusedSimpArgs false
set_option maxRecDepth 100000
namespace Go.Proofs.YtbngaammbjaajaaDoor
open Go.RowKit Go.Sy
structure xW where
  (x y:Int)
def B_:Sy.Spec:=⟨xW,λ⟨x,y⟩=> [.ag 2 (aq [.v (.int .i64 x),.v (.int .i64 y)])],λ_=> [],λ_=>True,λ⟨x,y⟩=> .tp 2 (aq [.ag 4 (aq [.v (.int .i64 (bif cX x y then x/256 else 0)),.v (.int .i64 (bif cX x y then x/16%16 else 0)),.v (.int .i64 (bif cX x y then x%16 else 0)),.v (.int .i64 (bif cX x y then cz y else 0))]),.er 53 99999 (bif cX x y then 0 else 1) (-1)]),λ_=> [],
  λargs mem=>match args with| [a0]=>some ⟨aA (bh a0 0),aA (bh a0 1)⟩|_=>none⟩
def Ca:ca:=⟨[],(B_).g,none⟩
def xX:xW->Prop:=λ⟨x,y⟩=>let a0:=(0:Int)<=0/\0<((2:Nat):Int);let b0:=(0:Int)<=1/\1<((2:Nat):Int);let c0:=decide (min x y<0);let d0:=c0=false;let e0:=cond c0 true (decide (65535<max x y));let g0:=tn 3 True;let h0:=cX x y;let k0:Int:=cond h0 (x/256) 0;let l0:Int:=cond h0 (x/16%16) 0;let o0:Int:=cond h0 (x%16) 0;let q0:Int:=cond h0 (cz y) 0;let r0:Int:=cond h0 0 1;let u0:=g0/\((True/\(((True/\0=k0)/\0=l0)/\0=o0)/\0=q0)/\(1:Int)≠0/\r0=1/\((-1):Int)=(-1))/\True;let v0:=Int.fdiv x (HPow.hPow 2 (min (Int.toNat 8) (IntKind.bits IntKind.i64)));let w0:=aS BinOp.and IntKind.i64 (Int.fdiv x (HPow.hPow 2 (min (Int.toNat 4) (IntKind.bits IntKind.i64)))) 15;let x0:=aS BinOp.and IntKind.i64 x 15;let y0:=aK (IntKind.wrap IntKind.i16 y);let z0:=cH v0 w0 x0 y0 !=0;tn 2 (a0/\b0/\(d0->a0)/\(d0->b0)/\(e0=true->u0)/\(e0=false->a0/\(0:Int)<=8/\a0/\(0:Int)<=4/\a0/\b0/\True/\g0/\((((((True/\v0=v0)/\w0=w0)/\x0=x0)/\y0=y0)/\True)/\True/\True)/\(z0=true->u0)/\(z0=false->g0/\((True/\(((True/\v0=k0)/\w0=l0)/\x0=o0)/\y0=q0)/\r0=0/\((-1):Int)=(-1))/\True)))
theorem xw:cp Tryd.prog jG 10 Ca:=eY (.cons Cb .nil) true Tryd.call10 Tryd.func10 (λ_=> []) (V:=xX) (λ_=>by kernel_rfl) λ⟨x,y⟩ hp=>by
  dsimp only[xX,tn,aK]
  have key: ∀{c:Bool},cX x y=c->True:=λ_=>trivial
  refine⟨trivial,trivial,by decide,by decide,λ_=>by decide,λ_=>by decide,λh=>?_,λh=>?_⟩
  · have hf:cX x y=false:=by
      have:min x y<0\/65535<max x y:=by
        cases hd:decide (min x y<0)<;>rw[hd]at h<;>simp_all
      unfold cX bX
      have h2:((decide (x<0)||decide (65535<x))||(decide (y<0)||decide (65535<y)))=true:=by simp;omega
      revert h2
      cases (decide (x<0)||decide (65535<x))<;>cases (decide (y<0)||decide (65535<y))<;>simp
    rw[hf]
    simp
  · have hr:0<=x/\x<=65535/\0<=y/\y<=65535:=by
      have: ¬min x y<0/\ ¬65535<max x y:=by
        cases hd:decide (min x y<0)<;>rw[hd]at h<;>simp_all
      omega
    have e1:x.fdiv (2^8)=x/256:=Int.fdiv_eq_ediv_of_nonneg _ (by decide)
    have e0:x.fdiv (2^4)=x/16:=Int.fdiv_eq_ediv_of_nonneg _ (by decide)
    have e2:aS BinOp.and IntKind.i64 (x/16) 15=x/16%16:=m_ 4 (by omega) rfl
    have e3:aS BinOp.and IntKind.i64 x 15=x%16:=m_ 4 (by omega) rfl
    have e4:IntKind.i64.wrap (IntKind.i16.wrap y)=cz y:=by
      have FB:IntKind.i16.wrap y=cz y:=by
        unfold cz
        cases hd:decide (32767<y)with
        |false=>simp at hd;rw[IntWalk.i16_in y (by omega)];rfl
        |true=>
         simp at hd
         simp only[IntKind.wrap,IntKind.bits,IntKind.signed];simp;split<;>omega
      rw[FB]
      refine IntWalk.i64_in _ ?_
      unfold cz
      cases decide (32767<y)<;>simp<;>omega
    simp only[show((2^min (Int.toNat 8) IntKind.i64.bits:Nat):Int)=2^8 from by decide,show((2^min (Int.toNat 4) IntKind.i64.bits:Nat):Int)=2^4 from by decide]
    rw[e1,e0,e2,e3,e4]
    have hd:cX x y=(cH (x/256) (x/16%16) (x%16) (cz y)==0):=by
      have U:bX x 65535=false:=by simp[bX];omega
      have h2:bX y 65535=false:=by simp[bX];omega
      simp[cX,U,h2]
    clear e1 e0 e2 e3 e4 key
    refine⟨by decide,by decide,by decide,by decide,by decide,by decide,trivial,⟨trivial,trivial,trivial,trivial⟩,by simp,λg=>?_,λg=>?_⟩
    · have hf:cX x y=false:=by rw[hd];simpa using g
      rw[hf]
      simp
    · have hf:cX x y=true:=by rw[hd];simpa using g
      rw[hf]
      simp
end Go.Proofs.YtbngaammbjaajaaDoor
set_option linter.unusedVariables false
set_option linter.unusedSimpArgs false
set_option maxRecDepth 100000
namespace Go.Proofs.YtbngaammbjaajaaDoor
open Go.RowKit Go.Sy
def ah.get (t:ah) (z:Int):Int:=List.getD [t.r0,t.r1,t.r2,t.r3,t.r4,t.r5,t.r6,t.r7] z.toNat 0
def ah.set (t:ah) (z x:Int):ah:={t with r0:=bif Nat.beq 0 z.toNat then x else t.r0,r1:=bif Nat.beq 1 z.toNat then x else t.r1,r2:=bif Nat.beq 2 z.toNat then x else t.r2,r3:=bif Nat.beq 3 z.toNat then x else t.r3,r4:=bif Nat.beq 4 z.toNat then x else t.r4,r5:=bif Nat.beq 5 z.toNat then x else t.r5,r6:=bif Nat.beq 6 z.toNat then x else t.r6,r7:=bif Nat.beq 7 z.toNat then x else t.r7}
def eD (x:Int):Prop:=0<=x/\x<=65535
def ah.ok (t:ah):Prop:=eD t.r0/\eD t.r1/\eD t.r2/\eD t.r3/\eD t.r4/\eD t.r5/\eD t.r6/\eD t.r7/\eD t.pc
structure Out where
  t:ah
  e:Int
  n:Int
def bC (o a b y v:Int):Int:=
  bif o==1 then y else bif o==2 then b else bif o==3 then(a+b)%65536 else bif o==4 then(a -b)%65536 else bif o==5 then a*b%65536 else
  bif o==6||o==7||o==8 then(iN o a.toNat b.toNat:Nat)else bif o==9 then(bif decide (a<b)then 1 else 0)else bif o==10 then v else a
theorem ah.B4 (t:ah) (z:Int):List.getD [t.r0,t.r1,t.r2,t.r3,t.r4,t.r5,t.r6,t.r7] (Int.toNat z) 0=t.get z:=rfl
theorem ah.Dn (t:ah) (p z x:Int):ah.mk (bif Nat.beq 0 (Int.toNat z)then x else t.r0) (bif Nat.beq 1 (Int.toNat z)then x else t.r1) (bif Nat.beq 2 (Int.toNat z)then x else t.r2) (bif Nat.beq 3 (Int.toNat z)then x else t.r3) (bif Nat.beq 4 (Int.toNat z)then x else t.r4) (bif Nat.beq 5 (Int.toNat z)then x else t.r5) (bif Nat.beq 6 (Int.toNat z)then x else t.r6) (bif Nat.beq 7 (Int.toNat z)then x else t.r7) p t.st t.prio t.node t.space t.helper t.loc t.word t.dW t.dZ t.core t.eo=ah.set {t with pc:=p} z x:=rfl
theorem uo {z:Int} (h0:0<=z) (h8:z<8):z.toNat=0\/z.toNat=1\/z.toNat=2\/z.toNat=3\/z.toNat=4\/z.toNat=5\/z.toNat=6\/z.toNat=7:=by omega
theorem ah.CM (t:ah) {z:Int} (h0:0<=z) (h8:z<8) (x:Int):(t.set z x).get z=x:=by
  unfold ah.get ah.set
  rcases uo h0 h8 with h|h|h|h|h|h|h|h<;>rw[h]<;>rfl
theorem ah.set_set (t:ah) (z x y:Int):(t.set z x).set z y=t.set z y:=by
  unfold ah.set
  congr 1
  all_goals (generalize Nat.beq _ _=q;cases q<;>rfl)
theorem ah.tM (t:ah) {z:Int} (h0:0<=z) (h8:z<8):t.set z (t.get z)=t:=by
  unfold ah.get ah.set
  rcases uo h0 h8 with h|h|h|h|h|h|h|h<;>rw[h]<;>rfl
theorem ah.Dp {t:ah} (h:t.ok) (z:Int):eD (t.get z):=by
  obtain⟨h0,U,h2,h3,h4,h5,h6,h7,_⟩:=h
  unfold ah.get
  match z.toNat with
  |0=>exact h0
  |1=>exact U
  |2=>exact h2
  |3=>exact h3
  |4=>exact h4
  |5=>exact h5
  |6=>exact h6
  |7=>exact h7
  |n+8=>show eD 0;exact⟨by decide,by decide⟩
theorem A5 {x y:Int} (h:cX x y=true):0<=x/\x<=65535/\0<=y/\y<=65535/\0<=x/256/\x/256<=14/\0<=x/16%16/\x/16%16<=7/\0<=x%16/\x%16<=7:=by
  unfold cX at h
  simp only[Bool.and_eq_true,Bool.not_eq_true',beq_iff_eq]at h
  obtain⟨⟨U,h2⟩,h3⟩:=h
  have hr:=mC h3
  unfold bX at U h2
  simp at U h2
  omega
theorem Dq {a b:Int} (ha:eD a) (hb:eD b):aS .and .i64 a b%65536=(iN 6 a.toNat b.toNat:Nat)/\aS .or .i64 a b%65536=(iN 7 a.toNat b.toNat:Nat)/\aS .xor .i64 a b%65536=(iN 8 a.toNat b.toNat:Nat):=by
  obtain⟨a0,a1⟩:=ha
  obtain⟨b0,b1⟩:=hb
  have hx:aS .xor .i64 a b=((a.toNat^^^b.toNat:Nat):Int):=by
    show IntKind.i64.wrap ((BitVec.ofInt 64 a^^^BitVec.ofInt 64 b).toNat:Int)=_
    rw[BitVec.toNat_xor,jU a0 (by omega),jU b0 (by omega)]
    exact sF (Nat.xor_lt_two_pow (n:=63) (by omega) (by omega))
  rw[D0 a0 (by omega) b0 (by omega),EB a0 (by omega) b0 (by omega),hx]
  have h6:=tO (op:=6) (a:=a.toNat) (b:=b.toNat) (n:=16) (by omega) (by omega)
  have h7:=tO (op:=7) (a:=a.toNat) (b:=b.toNat) (n:=16) (by omega) (by omega)
  have h8:=tO (op:=8) (a:=a.toNat) (b:=b.toNat) (n:=16) (by omega) (by omega)
  refine⟨?_,?_,?_⟩
  · show((iN 6 a.toNat b.toNat:Nat):Int)%65536=_;omega
  · show((iN 7 a.toNat b.toNat:Nat):Int)%65536=_;omega
  · show((iN 8 a.toNat b.toNat:Nat):Int)%65536=_;omega
theorem BB {y:Int} (h0:0<=y) (U:y<=65535):cz y%65536=y/\ -32768<=cz y/\cz y<=32767/\ ∀b,(b+cz y)%65536=(b+y)%65536:=by
  rcases Int.lt_or_le 32767 y with h|h
  · have e:cz y=y -65536:=by unfold cz;rw[decide_eq_true h];rfl
    rw[e];exact⟨by omega,by omega,by omega,λb=>by omega⟩
  · have e:cz y=y:=by unfold cz;rw[decide_eq_false (Int.not_lt.2 h)];rfl
    rw[e];exact⟨by omega,by omega,by omega,λb=>rfl⟩
theorem ah.CN (t:ah) (p z x v:Int):ah.mk (bif Nat.beq 0 (Int.toNat z)then v else(bif Nat.beq 0 (Int.toNat z)then x else t.r0)) (bif Nat.beq 1 (Int.toNat z)then v else(bif Nat.beq 1 (Int.toNat z)then x else t.r1)) (bif Nat.beq 2 (Int.toNat z)then v else(bif Nat.beq 2 (Int.toNat z)then x else t.r2)) (bif Nat.beq 3 (Int.toNat z)then v else(bif Nat.beq 3 (Int.toNat z)then x else t.r3)) (bif Nat.beq 4 (Int.toNat z)then v else(bif Nat.beq 4 (Int.toNat z)then x else t.r4)) (bif Nat.beq 5 (Int.toNat z)then v else(bif Nat.beq 5 (Int.toNat z)then x else t.r5)) (bif Nat.beq 6 (Int.toNat z)then v else(bif Nat.beq 6 (Int.toNat z)then x else t.r6)) (bif Nat.beq 7 (Int.toNat z)then v else(bif Nat.beq 7 (Int.toNat z)then x else t.r7)) p t.st t.prio t.node t.space t.helper t.loc t.word t.dW t.dZ t.core t.eo=ah.set (ah.set {t with pc:=p} z x) z v:=rfl
def wq:SV->SV
  | .ic _ s=>s
  |_=> .aj
def zU (k:Nat):SV->Bool
  | .ic t _=>Nat.beq t k
  |_=>false
def bL (p a:Int):Bool:=a==p||a==(p+1)%65536
def aO (t:ah) (o ra rb x y Fx a b ad:Int):Out:=
  bif o==0 then⟨t,3,0⟩else
  bif o==10&&!bL t.pc ad then⟨t,2,ad⟩else
  bif o==11 then⟨t,2,ad⟩else
  bif o==14 then⟨{t with pc:=(t.pc+2)%65536},1,Fx⟩else
  ⟨ah.set {t with pc:=bif o==12||(o==13&&a==0)then y else(t.pc+2)%65536} ra (bC o a b y (bif ad==t.pc then x else y)),0,0⟩
def fQ (t:ah) (x y:Int):Out:=
  aO t (x/256) (x/16%16) (x%16) x y (cz y) (t.get (x/16%16)) (t.get (x%16)) ((t.get (x%16)+y)%65536)
def ze:ar:= .cells (List.replicate 20 .aj)
structure Sw where
  o:Int
  ra:Int
  rb:Int
  im:Int
  b:Int
  ad:Int
structure Sx where
  t:ah
  ra:Int
def zA (f:Nat->SV):ah:=⟨aA (f 0),aA (f 1),aA (f 2),aA (f 3),aA (f 4),aA (f 5),aA (f 6),aA (f 7),aA (f 8),aA (f 9),aA (f 10),aA (f 11),aA (f 12),aA (f 13),aA (f 14),aA (f 15),aA (f 16),aA (f 17),aA (f 18),aA (f 19)⟩
def D1 (t:ah) (x y:Int):Cut where
  σ:=Sw
  rt:= [(2,20),(4,20),(12,4),(14,20)]
  sh s:= [(1,.ic 41 (.ag 3 (aq [.v (.int .i64 t.pc),.v (.int .i64 x),.v (.int .i64 y)]))),(2,.ptr 0 0 none 0 0),(4,.ptr 1 0 none 0 0),(12,.ptr 2 0 none 0 0),(14,.ptr 3 0 none 0 0),(15,.pe 0 0 none 0 0 8 s.ra.toNat),(16,.v (.int .i64 s.b)),(17,.v (.int .i64 s.ad)),(71,.v (.int .i64 s.o))]
  mem s:= [.cells (gA {t with pc:=(t.pc+2)%65536}),ze,.cells [.v (.int .i64 s.o),.v (.int .i64 s.ra),.v (.int .i64 s.rb),.v (.int .i64 s.im)],.cells (gA t)]
  inv s:=s.o=x/256/\s.ra=x/16%16/\s.rb=x%16/\s.im=cz y/\s.b=t.get s.rb/\s.ad=(s.b+y)%65536
  dec v B:=⟨aA (v 71),aA (gV B 2 1),aA (gV B 2 2),aA (gV B 2 3),aA (v 16),aA (v 17)⟩
def D2 (t:ah) (x y:Int):Cut where
  σ:=Sx
  rt:= [(2,20),(4,20),(12,4)]
  sh s:= [(2,.ptr 0 0 none 0 0),(4,.ptr 1 0 none 0 0),(15,.pe 0 0 none 0 0 8 s.ra.toNat)]
  mem s:= [.cells (gA s.t),ze,.cells [.aj,.v (.int .i64 s.ra),.aj,.aj]]
  inv s:=0<=s.ra/\s.ra<8/\(fQ t x y).t=s.t.set s.ra (s.t.get s.ra%65536)/\(fQ t x y).e=0/\(fQ t x y).n=0
  dec v B:=⟨zA (gV B 0),aA (gV B 2 1)⟩
structure yr where
  (t:ah)
def yt:Sy.Spec:=⟨yr,λ⟨t⟩=> [.ag 20 (aq (gA t)),.ic 33 (.ag 0 (aq []))],λ_=> [],λ⟨t⟩=>0<=t.pc/\t.pc<=65535,λ⟨t⟩=> .tp 3 (aq [.ag 20 (aq (gA t)),.v (.int .i64 2),.v (.int .i64 t.pc)]),λ_=> [],
  λargs mem=>match args with| [a0,a1]=>(match zU 33 a1 with|true=>some ⟨zV a0⟩|false=>none)|_=>none⟩
def CO:ca:=⟨[],(yt).g,none⟩
def yu:yr->Prop:=λ⟨t⟩=>let a0:=t.pc;let b0:Int:=a0+0;let c0:=aS BinOp.and IntKind.i64 b0 65535;let d0:=True/\True;let e0:=(!false)=true;let g0:=tn 2 d0;let h0:=tn 16 g0;let k0:=t.r0;let l0:=t.r1;let o0:=t.r2;let q0:=t.r3;let u0:=t.r4;let v0:=t.r5;let w0:=t.r6;let x0:=t.r7;let y0:=(((((((True/\k0=k0)/\l0=l0)/\o0=o0)/\q0=q0)/\u0=u0)/\v0=v0)/\w0=w0)/\x0=x0;let z0:=t.st=t.st;let a1:=t.prio=t.prio;let b1:=t.node=t.node;let c1:=t.space=t.space;let d1:=t.helper=t.helper;let e1:=t.loc=t.loc;let g1:=t.word=t.word;let U:=t.dW=t.dW;let k1:=t.dZ=t.dZ;let l1:=t.core=t.core;let o1:=t.eo=t.eo;let q1:=True/\(((((((((((y0/\a0=a0)/\z0)/\a1)/\b1)/\c1)/\d1)/\e1)/\g1)/\U)/\k1)/\l1)/\o1;let u1:=q1/\(2:Int)=2;let v1:=(!false)=false;let w1:Int:=0+1;let x1:Int:=a0+w1;let y1:=aS BinOp.and IntKind.i64 x1 65535;let z1:Int:=w1+1;let a2:=Nat.beq (0-0) 0;let b2:Int:=cond (Nat.beq (0-0) 1) 0 (cond a2 0 0);let c2:=Nat.beq (1-0) 0;let d2:Int:=cond (Nat.beq (1-0) 1) 0 (cond c2 0 0);let e2:=cX b2 d2;let g2:=(cond e2 0 1:Int) !=0;let h2:Int:=cond e2 (b2/16%16) 0;let k2:Int:=cond e2 (b2%16) 0;let l2:Int:=a0+2;let o2:Int:=cond e2 (cz d2) 0;let q2:Int:=k0+o2;let u2:Int:=cond e2 (b2/256) 0;let v2:=u2==0;let w2:=0=a0;let x2:=u2==1;let y2:Int:=cond a2 o2 k0;let z2:=aS BinOp.and IntKind.i64 y2 65535;let a3:=Nat.beq (2-0) 0;let b3:=Nat.beq (3-0) 0;let c3:=Nat.beq (4-0) 0;let d3:=Nat.beq (5-0) 0;let e3:=Nat.beq (6-0) 0;let g3:=Nat.beq (7-0) 0;let h3:=aS BinOp.and IntKind.i64 l2 65535=a0;let k3:=(0:Int)=2;let l3:=u2==2;
    let o3:Int:=cond a2 k0 k0;let q3:=aS BinOp.and IntKind.i64 o3 65535;let u3:=u2==3;let v3:Int:=k0+k0;let w3:Int:=cond a2 v3 k0;let x3:=aS BinOp.and IntKind.i64 w3 65535;let y3:=u2==4;let z3:Int:=k0-k0;let a4:Int:=cond a2 z3 k0;let b4:=aS BinOp.and IntKind.i64 a4 65535;let c4:=u2==5;let d4:Int:=k0*k0;let e4:Int:=cond a2 d4 k0;let g4:=aS BinOp.and IntKind.i64 e4 65535;let h4:=u2==6;let k4:=aS BinOp.and IntKind.i64 k0 k0;let l4:Int:=cond a2 k4 k0;let o4:=aS BinOp.and IntKind.i64 l4 65535;let q4:=u2==7;let u4:=aS BinOp.or IntKind.i64 k0 k0;let v4:Int:=cond a2 u4 k0;let w4:=aS BinOp.and IntKind.i64 v4 65535;let x4:=u2==8;let y4:=aS BinOp.xor IntKind.i64 k0 k0;let z4:Int:=cond a2 y4 k0;let a5:=aS BinOp.and IntKind.i64 z4 65535;let b5:=u2==9;let c5:=decide (k0<k0);let d5:Int:=cond a2 1 k0;let e5:=aS BinOp.and IntKind.i64 d5 65535;let g5:Int:=cond a2 0 k0;let h5:=aS BinOp.and IntKind.i64 g5 65535;let k5:=tn 2 (h0/\(((True/\(((((((((((((((((((True/\cond a2 h5 g5=k0)/\cond c2 h5 (cond c2 0 l0)=l0)/\cond a3 h5 (cond a3 0 o0)=o0)/\cond b3 h5 (cond b3 0 q0)=q0)/\cond c3 h5 (cond c3 0 u0)=u0)/\cond d3 h5 (cond d3 0 v0)=v0)/\cond e3 h5 (cond e3 0 w0)=w0)/\cond g3 h5 (cond g3 0 x0)=x0)/\h3)/\z0)/\a1)/\b1)/\c1)/\d1)/\e1)/\g1)/\U)/\k1)/\l1)/\o1)/\k3)/\w2)/\True);let l5:=u2==10;let o5:=aS BinOp.and IntKind.i64 q2 65535;let q5:=u2==11;let u5:=u2==12;let v5:=aS BinOp.and IntKind.i64 k0 65535;
    let w5:=(((((((True/\cond a2 v5 k0=k0)/\cond c2 v5 l0=l0)/\cond a3 v5 o0=o0)/\cond b3 v5 q0=q0)/\cond c3 v5 u0=u0)/\cond d3 v5 v0=v0)/\cond e3 v5 w0=w0)/\cond g3 v5 x0=x0;let x5:=tn 2 (h0/\(((True/\(((((((((((w5/\aS BinOp.and IntKind.i64 o2 65535=a0)/\z0)/\a1)/\b1)/\c1)/\d1)/\e1)/\g1)/\U)/\k1)/\l1)/\o1)/\k3)/\w2)/\True);let y5:=u2==13;let z5:=True/\h0/\(((True/\(((((((((((w5/\h3)/\z0)/\a1)/\b1)/\c1)/\d1)/\e1)/\g1)/\U)/\k1)/\l1)/\o1)/\k3)/\w2)/\True;let a6:=u2==14;tn 3 (aK b0=b0/\((True/\c0=c0/\True)/\d0)/\(e0->h0/\(u1/\c0=a0)/\True)/\(v1->((0:Int)<=0/\0<((2:Nat):Int))/\True/\aK w1=w1/\aK x1=x1/\((True/\y1=y1/\True)/\d0)/\(e0->h0/\(u1/\y1=a0)/\True)/\(v1->(0<=w1/\w1<((2:Nat):Int))/\True/\aK z1=z1/\((((True/\b2=b2)/\d2=d2)/\True)/\d0)/\True/\g0/\(g2=true->h0/\(u1/\(-1)=a0)/\True)/\(g2=false->True/\h0/\tn 3 ((0<=h2/\h2<((8:Nat):Int))/\tn 3 ((0<=k2/\k2<((8:Nat):Int))/\tn 2 (aK l2=l2/\True/\aK q2=q2/\(v2=true->h0/\((q1/\(3:Int)=2)/\w2)/\True)/\(v2=false->(x2=true->tn 2 (h0/\(((True/\(((((((((((((((((((True/\cond a2 z2 y2=k0)/\cond c2 z2 (cond c2 o2 l0)=l0)/\cond a3 z2 (cond a3 o2 o0)=o0)/\cond b3 z2 (cond b3 o2 q0)=q0)/\cond c3 z2 (cond c3 o2 u0)=u0)/\cond d3 z2 (cond d3 o2 v0)=v0)/\cond e3 z2 (cond e3 o2 w0)=w0)/\cond g3 z2 (cond g3 o2 x0)=x0)/\h3)/\z0)/\a1)/\b1)/\c1)/\d1)/\e1)/\g1)/\U)/\k1)/\l1)/\o1)/\k3)/\w2)/\True))/\(x2=false->(l3=true->tn 2 (h0/\(((True/\(((((((((((((((((((True/\cond a2 q3 o3=k0)/\cond c2 q3 (cond c2 k0 l0)=l0)/\cond a3 q3 (cond a3 k0 o0)=o0)/\cond b3 q3 (cond b3 k0 q0)=q0)/\cond c3 q3 (cond c3 k0 u0)=u0)/\cond d3 q3 (cond d3 k0 v0)=v0)/\cond e3 q3 (cond e3 k0 w0)=w0)/\
    cond g3 q3 (cond g3 k0 x0)=x0)/\h3)/\z0)/\a1)/\b1)/\c1)/\d1)/\e1)/\g1)/\U)/\k1)/\l1)/\o1)/\k3)/\w2)/\True))/\(l3=false->(u3=true->aK v3=v3/\tn 2 (h0/\(((True/\(((((((((((((((((((True/\cond a2 x3 w3=k0)/\cond c2 x3 (cond c2 v3 l0)=l0)/\cond a3 x3 (cond a3 v3 o0)=o0)/\cond b3 x3 (cond b3 v3 q0)=q0)/\cond c3 x3 (cond c3 v3 u0)=u0)/\cond d3 x3 (cond d3 v3 v0)=v0)/\cond e3 x3 (cond e3 v3 w0)=w0)/\cond g3 x3 (cond g3 v3 x0)=x0)/\h3)/\z0)/\a1)/\b1)/\c1)/\d1)/\e1)/\g1)/\U)/\k1)/\l1)/\o1)/\k3)/\w2)/\True))/\(u3=false->(y3=true->aK z3=z3/\tn 2 (h0/\(((True/\(((((((((((((((((((True/\cond a2 b4 a4=k0)/\cond c2 b4 (cond c2 z3 l0)=l0)/\cond a3 b4 (cond a3 z3 o0)=o0)/\cond b3 b4 (cond b3 z3 q0)=q0)/\cond c3 b4 (cond c3 z3 u0)=u0)/\cond d3 b4 (cond d3 z3 v0)=v0)/\cond e3 b4 (cond e3 z3 w0)=w0)/\cond g3 b4 (cond g3 z3 x0)=x0)/\h3)/\z0)/\a1)/\b1)/\c1)/\d1)/\e1)/\g1)/\U)/\k1)/\l1)/\o1)/\k3)/\w2)/\True))/\(y3=false->(c4=true->aK d4=d4/\tn 2 (h0/\(((True/\(((((((((((((((((((True/\cond a2 g4 e4=k0)/\cond c2 g4 (cond c2 d4 l0)=l0)/\cond a3 g4 (cond a3 d4 o0)=o0)/\cond b3 g4 (cond b3 d4 q0)=q0)/\cond c3 g4 (cond c3 d4 u0)=u0)/\cond d3 g4 (cond d3 d4 v0)=v0)/\cond e3 g4 (cond e3 d4 w0)=w0)/\cond g3 g4 (cond g3 d4 x0)=x0)/\h3)/\z0)/\a1)/\b1)/\c1)/\d1)/\e1)/\g1)/\U)/\k1)/\l1)/\o1)/\k3)/\w2)/\True))/\(c4=false->(h4=true->tn 2 (h0/\(((True/\(((((((((((((((((((True/\cond a2 o4 l4=k0)/\cond c2 o4 (cond c2 k4 l0)=l0)/\cond a3 o4 (cond a3 k4 o0)=o0)/\cond b3 o4 (cond b3 k4 q0)=q0)/\cond c3 o4 (cond c3 k4 u0)=u0)/\cond d3 o4 (cond d3 k4 v0)=v0)/\cond e3 o4 (cond e3 k4 w0)=w0)/\cond g3 o4 (cond g3 k4 x0)=x0)/\
    h3)/\z0)/\a1)/\b1)/\c1)/\d1)/\e1)/\g1)/\U)/\k1)/\l1)/\o1)/\k3)/\w2)/\True))/\(h4=false->(q4=true->tn 2 (h0/\(((True/\(((((((((((((((((((True/\cond a2 w4 v4=k0)/\cond c2 w4 (cond c2 u4 l0)=l0)/\cond a3 w4 (cond a3 u4 o0)=o0)/\cond b3 w4 (cond b3 u4 q0)=q0)/\cond c3 w4 (cond c3 u4 u0)=u0)/\cond d3 w4 (cond d3 u4 v0)=v0)/\cond e3 w4 (cond e3 u4 w0)=w0)/\cond g3 w4 (cond g3 u4 x0)=x0)/\h3)/\z0)/\a1)/\b1)/\c1)/\d1)/\e1)/\g1)/\U)/\k1)/\l1)/\o1)/\k3)/\w2)/\True))/\(q4=false->(x4=true->tn 2 (h0/\(((True/\(((((((((((((((((((True/\cond a2 a5 z4=k0)/\cond c2 a5 (cond c2 y4 l0)=l0)/\cond a3 a5 (cond a3 y4 o0)=o0)/\cond b3 a5 (cond b3 y4 q0)=q0)/\cond c3 a5 (cond c3 y4 u0)=u0)/\cond d3 a5 (cond d3 y4 v0)=v0)/\cond e3 a5 (cond e3 y4 w0)=w0)/\cond g3 a5 (cond g3 y4 x0)=x0)/\h3)/\z0)/\a1)/\b1)/\c1)/\d1)/\e1)/\g1)/\U)/\k1)/\l1)/\o1)/\k3)/\w2)/\True))/\(x4=false->(b5=true->(c5=true->tn 2 (h0/\(((True/\(((((((((((((((((((True/\cond a2 e5 d5=k0)/\cond c2 e5 (cond c2 1 l0)=l0)/\cond a3 e5 (cond a3 1 o0)=o0)/\cond b3 e5 (cond b3 1 q0)=q0)/\cond c3 e5 (cond c3 1 u0)=u0)/\cond d3 e5 (cond d3 1 v0)=v0)/\cond e3 e5 (cond e3 1 w0)=w0)/\cond g3 e5 (cond g3 1 x0)=x0)/\h3)/\z0)/\a1)/\b1)/\c1)/\d1)/\e1)/\g1)/\U)/\k1)/\l1)/\o1)/\k3)/\w2)/\True))/\(c5=false->k5))/\(b5=false->(l5=true->((True/\o5=o5/\True)/\d0)/\(e0->h0/\(u1/\o5=a0)/\True)/\(v1->k5))/\(l5=false->(q5=true->tn 8 False)/\(q5=false->(u5=true->x5)/\(u5=false->(y5=true->((k0==0)=true->x5)/\((k0==0)=false->z5))/\(y5=false->(a6=true->tn 4 ((((True/\(((((((((((y0/\h3)/\z0)/\a1)/\b1)/\c1)/\d1)/\e1)/\g1)/\U)/\k1)/\l1)/\o1)/\(1:Int)=2)/\o2=a0)/\True))/\(a6=false->z5))))))))))))))))))))))
set_option maxHeartbeats 1000000 in
theorem xQ:cp Tryd.prog jG 7 CO:=eY (.cons xw (.cons (B5.up iw) .nil)) false Tryd.call7 Tryd.func7 (λ_=> [.dec,.pO 3]) (V:=yu) (λ_=>by kernel_rfl) λ⟨t⟩ hp=>by
  dsimp only[yt]at hp
  dsimp only[yu,tn,aK]
  simp only[jr,kz,eq_self,implies_true,Bool.cond_self]
  have mk: ∀x:Int,aS BinOp.and IntKind.i64 x 65535=x%65536:=λx=>m_ 16 (by omega) rfl
  exact⟨fa (by omega) (by omega),λ_=>by rw[mk];omega,λh=>absurd h (by decide)⟩
structure yw where
  (t:ah) (p x y:Int)
def yx:Sy.Spec:=⟨yw,λ⟨t,p,x,y⟩=> [.ag 20 (aq (gA t)),.ic 41 (.ag 3 (aq [.v (.int .i64 p),.v (.int .i64 x),.v (.int .i64 y)]))],λ_=> [],λ⟨t,p,x,y⟩=>t.ok/\p=t.pc/\cX x y=true,λ⟨t,_,x,y⟩=> .tp 3 (aq [.ag 20 (aq (gA (fQ t x y).t)),.v (.int .i64 (fQ t x y).e),.v (.int .i64 (fQ t x y).n)]),λ_=> [],
  λargs mem=>match args with| [a0,a1]=>(match zU 41 a1 with|true=>some ⟨zV a0,aA (bh (wq a1) 0),aA (bh (wq a1) 1),aA (bh (wq a1) 2)⟩|false=>none)|_=>none⟩
def CP:ca:=⟨[],(yx).g,none⟩
def yy:yw->Prop:=λ⟨t,p,x,y⟩=>let a0:=t.pc;let b0:Int:=a0+0;let c0:=((True/\p=p)/\x=x)/\y=y;let d0:=aS BinOp.and IntKind.i64 b0 65535;let e0:=True/\0<=p/\p<=65535;let g0:=d0==p;let h0:=!(g0||d0==(p+1)%65536);let k0:=True/\True;let l0:=tn 2 k0;let o0:=tn 16 l0;let q0:=t.r0;let u0:=fQ t x y;let v0:=u0.t;let w0:=v0.r0;let x0:=t.r1;let y0:=v0.r1;let z0:=t.r2;let a1:=v0.r2;let b1:=t.r3;let c1:=v0.r3;let d1:=t.r4;let e1:=v0.r4;let g1:=t.r5;let U:=v0.r5;let k1:=t.r6;let l1:=v0.r6;let o1:=t.r7;let q1:=v0.r7;let u1:=(((((((True/\q0=w0)/\x0=y0)/\z0=a1)/\b1=c1)/\d1=e1)/\g1=U)/\k1=l1)/\o1=q1;let v1:=v0.pc;let w1:=t.st;let x1:=v0.st;let y1:=w1=x1;let z1:=t.prio;let a2:=v0.prio;let b2:=z1=a2;let c2:=t.node;let d2:=v0.node;let e2:=c2=d2;let g2:=t.space;let h2:=v0.space;let k2:=g2=h2;let l2:=t.helper;let o2:=v0.helper;let q2:=l2=o2;let u2:=t.loc;let v2:=v0.loc;let w2:=u2=v2;let x2:=t.word;let y2:=v0.word;let z2:=x2=y2;let a3:=t.dW;let b3:=v0.dW;let c3:=a3=b3;let d3:=t.dZ;let e3:=v0.dZ;let g3:=d3=e3;let h3:=t.core;let k3:=v0.core;let l3:=h3=k3;let o3:=t.eo;let q3:=v0.eo;let u3:=o3=q3;let v3:=True/\(((((((((((u1/\a0=v1)/\y1)/\b2)/\e2)/\k2)/\q2)/\w2)/\z2)/\c3)/\g3)/\l3)/\u3;let w3:=u0.e;let x3:=v3/\2=w3;let y3:=u0.n;let z3:Int:=0+1;let a4:Int:=a0+z3;let b4:=aS BinOp.and IntKind.i64 a4 65535;let c4:=b4==p;let d4:=!(c4||b4==(p+1)%65536);let e4:Int:=z3+1;let g4:=0-0;let h4:Int:=cond c4 x y;let k4:Int:=cond g0 x y;let l4:Int:=cond (Nat.beq g4 1) h4 (cond (Nat.beq g4 0) k4 0);let o4:=1-0;
    let q4:Int:=cond (Nat.beq o4 1) h4 (cond (Nat.beq o4 0) k4 0);let u4:=cX l4 q4;let v4:=(cond u4 0 1:Int) !=0;let w4:Int:=cond u4 (l4/16%16) 0;let x4:Int:=cond u4 (l4%16) 0;let y4:Int:=a0+2;let z4:=[q0,x0,z0,b1,d1,g1,k1,o1];let a5:=List.getD z4 (Int.toNat x4) 0;let b5:Int:=cond u4 (cz q4) 0;let c5:Int:=a5+b5;let d5:=none;let e5:=SV.ptr 0 0 d5 0 0=SV.ptr 0 0 d5 0 0;let g5:=SV.ptr (0+1) 0 d5 0 0=SV.ptr 1 0 d5 0 0;let h5:=Int.toNat w4;let k5:=aS BinOp.and IntKind.i64 c5 65535;let l5:Int:=cond u4 (l4/256) 0;let o5:=l5=l5;let q5:=(((((((True/\q0=q0)/\x0=x0)/\z0=z0)/\b1=b1)/\d1=d1)/\g1=g1)/\k1=k1)/\o1=o1;let u5:Int:=y4%65536;let v5:=w1=w1;let w5:=z1=z1;let x5:=c2=c2;let y5:=g2=g2;let z5:=l2=l2;let a6:=u2=u2;let b6:=x2=x2;let c6:=a3=a3;let d6:=d3=d3;let e6:=h3=h3;let g6:=o3=o3;let h6:=((((((((((((((((((k0/\True)/\True)/\True)/\True)/\True)/\True)/\True)/\True)/\True)/\True)/\True)/\True)/\True)/\True)/\True)/\True)/\True)/\True)/\True;let k6:=0=y3;let l6:=2-0;let o6:=3-0;let q6:=4-0;let u6:=5-0;let v6:=6-0;let w6:=7-0;let x6:=u5=u5;let y6:=w3=0/\y3=0;let z6:=((True/\a0=a0)/\x=x)/\y=y;let a7:Int:=(a0+1)%65536;let b7:=(((((((((((q5/\x6)/\v5)/\w5)/\x5)/\y5)/\z5)/\a6)/\b6)/\c6)/\d6)/\e6)/\g6;let c7:=ah.mk q0 x0 z0 b1 d1 g1 k1 o1 u5 w1 z1 c2 g2 l2 u2 x2 a3 d3 h3 o3;tn 3 (aK b0=b0/\((c0/\d0=d0/\True)/\e0)/\(h0=true->o0/\(x3/\d0=y3)/\True)/\(h0=false->((0:Int)<=0/\0<((2:Nat):Int))/\True/\aK z3=z3/\aK a4=a4/\((c0/\b4=b4/\True)/\e0)/\(d4=true->o0/\(x3/\b4=y3)/\True)/\(d4=false->(0<=z3/\z3<((2:Nat):Int))/\True/\aK e4=e4/\((((True/\l4=l4)/\q4=q4)/\
    True)/\k0)/\True/\l0/\(v4=true->o0/\(x3/\(-1)=y3)/\True)/\(v4=false->True/\o0/\tn 3 ((0<=w4/\w4<((8:Nat):Int))/\tn 3 ((0<=x4/\x4<((8:Nat):Int))/\tn 2 (aK y4=y4/\True/\aK c5=c5/\(((((True/\p=a0)/\x=x)/\y=y)/\e5/\g5/\SV.ptr (0+1+1) 0 d5 0 0=SV.ptr 2 0 d5 0 0/\SV.ptr (0+1+1+1) 0 d5 0 0=SV.ptr 3 0 d5 0 0/\SV.pe 0 0 d5 0 0 8 h5=SV.pe 0 0 d5 0 0 8 h5/\a5=a5/\k5=k5/\o5/\(((((((((((((q5/\aS BinOp.and IntKind.i64 y4 65535=u5)/\v5)/\w5)/\x5)/\y5)/\z5)/\a6)/\b6)/\c6)/\d6)/\e6)/\g6)/\h6/\((((True/\o5)/\w4=w4)/\x4=x4)/\b5=b5)/\((((((((((((q5/\a0=a0)/\v5)/\w5)/\x5)/\y5)/\z5)/\a6)/\b6)/\c6)/\d6)/\e6)/\g6)/\True)/\l5=x/256/\w4=x/16%16/\x4=x%16/\b5=cz y/\a5=ah.get t x4/\k5=(a5+y)%65536)/\(∀d7:Sw,let e7:=d7.o;let g7:=d7.ra;let h7:=d7.im;let k7:=d7.b;let l7:=Int.toNat g7;let o7:=SV.pe 0 0 d5 0 0 8 l7=SV.pe 0 0 d5 0 0 8 l7;let q7:=Nat.beq g4 l7;let u7:Int:=cond q7 h7 q0;let v7:=Nat.beq o4 l7;let w7:Int:=cond v7 h7 x0;let x7:=Nat.beq l6 l7;let y7:Int:=cond x7 h7 z0;let z7:=Nat.beq o6 l7;let a8:Int:=cond z7 h7 b1;let b8:=Nat.beq q6 l7;let c8:Int:=cond b8 h7 d1;let d8:=Nat.beq u6 l7;let e8:Int:=cond d8 h7 g1;let g8:=Nat.beq v6 l7;let h8:Int:=cond g8 h7 k1;let k8:=Nat.beq w6 l7;let l8:Int:=cond k8 h7 o1;let o8:=h6/\(((k0/\g7=g7)/\True)/\True)/\True;let q8:=0<=g7;let r8:=g7<8;let u8:=Nat.beq 0 l7;let v8:Int:=ah.get (ah.mk u7 w7 y7 a8 c8 e8 h8 l8 u5 w1 z1 c2 g2 l2 u2 x2 a3 d3 h3 o3) g7%65536;let w8:=Nat.beq 1 l7;let x8:=Nat.beq 2 l7;let y8:=Nat.beq 3 l7;let z8:=Nat.beq 4 l7;let a9:=Nat.beq 5 l7;let b9:=Nat.beq 6 l7;let c9:=Nat.beq 7 l7;let d9:Int:=cond q7 k7 q0;
    let e9:Int:=cond v7 k7 x0;let g9:Int:=cond x7 k7 z0;let h9:Int:=cond z7 k7 b1;let k9:Int:=cond b8 k7 d1;let l9:Int:=cond d8 k7 g1;let o9:Int:=cond g8 k7 k1;let q9:Int:=cond k8 k7 o1;let r9:Int:=ah.get (ah.mk d9 e9 g9 h9 k9 l9 o9 q9 u5 w1 z1 c2 g2 l2 u2 x2 a3 d3 h3 o3) g7%65536;let u9:=List.getD z4 l7 0;let v9:Int:=u9+k7;let w9:Int:=cond q7 v9 q0;let x9:Int:=cond v7 v9 x0;let y9:Int:=cond x7 v9 z0;let z9:Int:=cond z7 v9 b1;let qX:Int:=cond b8 v9 d1;let qY:Int:=cond d8 v9 g1;let qZ:Int:=cond g8 v9 k1;let d10:Int:=cond k8 v9 o1;let hU:Int:=ah.get (ah.mk w9 x9 y9 z9 qX qY qZ d10 u5 w1 z1 c2 g2 l2 u2 x2 a3 d3 h3 o3) g7%65536;let ia:Int:=u9-k7;let dc:Int:=cond q7 ia q0;let q_:Int:=cond v7 ia x0;let rf:Int:=cond x7 ia z0;let rh:Int:=cond z7 ia b1;let mo:Int:=cond b8 ia d1;let ri:Int:=cond d8 ia g1;let rj:Int:=cond g8 ia k1;let v10:Int:=cond k8 ia o1;let jH:Int:=ah.get (ah.mk dc q_ rf rh mo ri rj v10 u5 w1 z1 c2 g2 l2 u2 x2 a3 d3 h3 o3) g7%65536;let ib:Int:=u9*k7;let rk:Int:=cond q7 ib q0;let rl:Int:=cond v7 ib x0;let rm:Int:=cond x7 ib z0;let rn:Int:=cond z7 ib b1;let rp:Int:=cond b8 ib d1;let d11:Int:=cond d8 ib g1;let rq:Int:=cond g8 ib k1;let rr:Int:=cond k8 ib o1;let dP:Int:=ah.get (ah.mk rk rl rm rn rp d11 rq rr u5 w1 z1 c2 g2 l2 u2 x2 a3 d3 h3 o3) g7%65536;let jI:=aS BinOp.and IntKind.i64 u9 k7;let ru:Int:=cond q7 jI q0;let rv:Int:=cond v7 jI x0;let mq:Int:=cond x7 jI z0;let ry:Int:=cond z7 jI b1;
    let rz:Int:=cond b8 jI d1;let v11:Int:=cond d8 jI g1;let rA:Int:=cond g8 jI k1;let rB:Int:=cond k8 jI o1;let jJ:Int:=ah.get (ah.mk ru rv mq ry rz v11 rA rB u5 w1 z1 c2 g2 l2 u2 x2 a3 d3 h3 o3) g7%65536;let jK:=aS BinOp.or IntKind.i64 u9 k7;let rC:Int:=cond q7 jK q0;let rD:Int:=cond v7 jK x0;let rE:Int:=cond x7 jK z0;let d12:Int:=cond z7 jK b1;let rG:Int:=cond b8 jK d1;let rH:Int:=cond d8 jK g1;let gb:Int:=cond g8 jK k1;let rI:Int:=cond k8 jK o1;let jL:Int:=ah.get (ah.mk rC rD rE d12 rG rH gb rI u5 w1 z1 c2 g2 l2 u2 x2 a3 d3 h3 o3) g7%65536;let jM:=aS BinOp.xor IntKind.i64 u9 k7;let mr:Int:=cond q7 jM q0;let rJ:Int:=cond v7 jM x0;let rK:Int:=cond x7 jM z0;let kW:Int:=cond z7 jM b1;let rL:Int:=cond b8 jM d1;let rM:Int:=cond d8 jM g1;let rN:Int:=cond g8 jM k1;let rO:Int:=cond k8 jM o1;let jN:Int:=ah.get (ah.mk mr rJ rK kW rL rM rN rO u5 w1 z1 c2 g2 l2 u2 x2 a3 d3 h3 o3) g7%65536;let AK:=decide (u9<k7);let rP:Int:=cond q7 1 q0;let d13:Int:=cond v7 1 x0;let rQ:Int:=cond x7 1 z0;let rR:Int:=cond z7 1 b1;let hY:Int:=cond b8 1 d1;let rS:Int:=cond d8 1 g1;let rT:Int:=cond g8 1 k1;let rU:Int:=cond k8 1 o1;let h_:Int:=ah.get (ah.mk rP d13 rQ rR hY rS rT rU u5 w1 z1 c2 g2 l2 u2 x2 a3 d3 h3 o3) g7%65536;let rV:Int:=cond q7 0 q0;let rW:Int:=cond v7 0 x0;let kX:Int:=cond x7 0 z0;let rX:Int:=cond z7 0 b1;let rY:Int:=cond b8 0 d1;let rZ:Int:=cond d8 0 g1;let r_:Int:=cond g8 0 k1;
    let sb:Int:=cond k8 0 o1;let jO:Int:=ah.get (ah.mk rV rW kX rX rY rZ r_ sb u5 w1 z1 c2 g2 l2 u2 x2 a3 d3 h3 o3) g7%65536;let AL:=!(d7.ad==a0||d7.ad==a7);let d14:=o0/\(x3/\d7.ad=y3)/\True;let jP:Int:=cond (d7.ad==a0) x y;let sc:Int:=cond q7 jP q0;let oK:Int:=cond v7 jP x0;let sd:Int:=cond x7 jP z0;let se:Int:=cond z7 jP b1;let sf:Int:=cond b8 jP d1;let mu:Int:=cond d8 jP g1;let si:Int:=cond g8 jP k1;let sj:Int:=cond k8 jP o1;let gL:Int:=ah.get (ah.mk sc oK sd se sf mu si sj u5 w1 z1 c2 g2 l2 u2 x2 a3 d3 h3 o3) g7%65536;let jQ:Int:=ah.get c7 g7%65536;let wu:=e5/\g5/\o7/\(b7/\o8)/\q8/\r8/\u0.1=ah.mk (cond u8 jQ q0) (cond w8 jQ x0) (cond x8 jQ z0) (cond y8 jQ b1) (cond z8 jQ d1) (cond a9 jQ g1) (cond b9 jQ k1) (cond c9 jQ o1) u5 w1 z1 c2 g2 l2 u2 x2 a3 d3 h3 o3/\y6;let sk:=aS BinOp.and IntKind.i64 h7 65535;let jR:Int:=ah.get (ah.mk q0 x0 z0 b1 d1 g1 k1 o1 sk w1 z1 c2 g2 l2 u2 x2 a3 d3 h3 o3) g7%65536;let wo:=True/\e5/\g5/\o7/\(((((((((((((q5/\sk=sk)/\v5)/\w5)/\x5)/\y5)/\z5)/\a6)/\b6)/\c6)/\d6)/\e6)/\g6)/\o8)/\q8/\r8/\u0.1=ah.mk (cond u8 jR q0) (cond w8 jR x0) (cond x8 jR z0) (cond y8 jR b1) (cond z8 jR d1) (cond a9 jR g1) (cond b9 jR k1) (cond c9 jR o1) sk w1 z1 c2 g2 l2 u2 x2 a3 d3 h3 o3/\y6;let AM:=u9==0;e7=x/256/\g7=x/16%16/\d7.rb=x%16/\h7=cz y/\k7=ah.get t d7.rb/\d7.ad=(k7+y)%65536->((e7==0)=true->o0/\((v3/\3=w3)/\k6)/\True)/\((e7==0)=false->((e7==1)=true->True/\e5/\g5/\o7/\(((((((((((((((((((((True/\u7=u7)/\w7=w7)/\y7=y7)/\a8=a8)/\c8=c8)/\e8=e8)/\
    h8=h8)/\l8=l8)/\x6)/\v5)/\w5)/\x5)/\y5)/\z5)/\a6)/\b6)/\c6)/\d6)/\e6)/\g6)/\o8)/\q8/\r8/\u0.1=ah.mk (cond u8 v8 u7) (cond w8 v8 w7) (cond x8 v8 y7) (cond y8 v8 a8) (cond z8 v8 c8) (cond a9 v8 e8) (cond b9 v8 h8) (cond c9 v8 l8) u5 w1 z1 c2 g2 l2 u2 x2 a3 d3 h3 o3/\y6)/\((e7==1)=false->((e7==2)=true->True/\e5/\g5/\o7/\(((((((((((((((((((((True/\d9=d9)/\e9=e9)/\g9=g9)/\h9=h9)/\k9=k9)/\l9=l9)/\o9=o9)/\q9=q9)/\x6)/\v5)/\w5)/\x5)/\y5)/\z5)/\a6)/\b6)/\c6)/\d6)/\e6)/\g6)/\o8)/\q8/\r8/\u0.1=ah.mk (cond u8 r9 d9) (cond w8 r9 e9) (cond x8 r9 g9) (cond y8 r9 h9) (cond z8 r9 k9) (cond a9 r9 l9) (cond b9 r9 o9) (cond c9 r9 q9) u5 w1 z1 c2 g2 l2 u2 x2 a3 d3 h3 o3/\y6)/\((e7==2)=false->((e7==3)=true->aK v9=v9/\True/\e5/\g5/\o7/\(((((((((((((((((((((True/\w9=w9)/\x9=x9)/\y9=y9)/\z9=z9)/\qX=qX)/\qY=qY)/\qZ=qZ)/\d10=d10)/\x6)/\v5)/\w5)/\x5)/\y5)/\z5)/\a6)/\b6)/\c6)/\d6)/\e6)/\g6)/\o8)/\q8/\r8/\u0.1=ah.mk (cond u8 hU w9) (cond w8 hU x9) (cond x8 hU y9) (cond y8 hU z9) (cond z8 hU qX) (cond a9 hU qY) (cond b9 hU qZ) (cond c9 hU d10) u5 w1 z1 c2 g2 l2 u2 x2 a3 d3 h3 o3/\y6)/\((e7==3)=false->((e7==4)=true->aK ia=ia/\True/\e5/\g5/\o7/\(((((((((((((((((((((True/\dc=dc)/\q_=q_)/\rf=rf)/\rh=rh)/\mo=mo)/\ri=ri)/\rj=rj)/\v10=v10)/\x6)/\v5)/\w5)/\x5)/\y5)/\z5)/\a6)/\b6)/\c6)/\d6)/\e6)/\g6)/\o8)/\q8/\r8/\u0.1=ah.mk (cond u8 jH dc) (cond w8 jH q_) (cond x8 jH rf) (cond y8 jH rh) (cond z8 jH mo) (cond a9 jH ri) (cond b9 jH rj) (cond c9 jH v10) u5 w1 z1 c2 g2 l2 u2 x2 a3 d3 h3 o3/\y6)/\((e7==4)=false->((e7==5)=true->aK ib=ib/\True/\e5/\g5/\o7/\(((((((((((((((((((((True/\
    rk=rk)/\rl=rl)/\rm=rm)/\rn=rn)/\rp=rp)/\d11=d11)/\rq=rq)/\rr=rr)/\x6)/\v5)/\w5)/\x5)/\y5)/\z5)/\a6)/\b6)/\c6)/\d6)/\e6)/\g6)/\o8)/\q8/\r8/\u0.1=ah.mk (cond u8 dP rk) (cond w8 dP rl) (cond x8 dP rm) (cond y8 dP rn) (cond z8 dP rp) (cond a9 dP d11) (cond b9 dP rq) (cond c9 dP rr) u5 w1 z1 c2 g2 l2 u2 x2 a3 d3 h3 o3/\y6)/\((e7==5)=false->((e7==6)=true->True/\e5/\g5/\o7/\(((((((((((((((((((((True/\ru=ru)/\rv=rv)/\mq=mq)/\ry=ry)/\rz=rz)/\v11=v11)/\rA=rA)/\rB=rB)/\x6)/\v5)/\w5)/\x5)/\y5)/\z5)/\a6)/\b6)/\c6)/\d6)/\e6)/\g6)/\o8)/\q8/\r8/\u0.1=ah.mk (cond u8 jJ ru) (cond w8 jJ rv) (cond x8 jJ mq) (cond y8 jJ ry) (cond z8 jJ rz) (cond a9 jJ v11) (cond b9 jJ rA) (cond c9 jJ rB) u5 w1 z1 c2 g2 l2 u2 x2 a3 d3 h3 o3/\y6)/\((e7==6)=false->((e7==7)=true->True/\e5/\g5/\o7/\(((((((((((((((((((((True/\rC=rC)/\rD=rD)/\rE=rE)/\d12=d12)/\rG=rG)/\rH=rH)/\gb=gb)/\rI=rI)/\x6)/\v5)/\w5)/\x5)/\y5)/\z5)/\a6)/\b6)/\c6)/\d6)/\e6)/\g6)/\o8)/\q8/\r8/\u0.1=ah.mk (cond u8 jL rC) (cond w8 jL rD) (cond x8 jL rE) (cond y8 jL d12) (cond z8 jL rG) (cond a9 jL rH) (cond b9 jL gb) (cond c9 jL rI) u5 w1 z1 c2 g2 l2 u2 x2 a3 d3 h3 o3/\y6)/\((e7==7)=false->((e7==8)=true->True/\e5/\g5/\o7/\(((((((((((((((((((((True/\mr=mr)/\rJ=rJ)/\rK=rK)/\kW=kW)/\rL=rL)/\rM=rM)/\rN=rN)/\rO=rO)/\x6)/\v5)/\w5)/\x5)/\y5)/\z5)/\a6)/\b6)/\c6)/\d6)/\e6)/\g6)/\o8)/\q8/\r8/\
    u0.1=ah.mk (cond u8 jN mr) (cond w8 jN rJ) (cond x8 jN rK) (cond y8 jN kW) (cond z8 jN rL) (cond a9 jN rM) (cond b9 jN rN) (cond c9 jN rO) u5 w1 z1 c2 g2 l2 u2 x2 a3 d3 h3 o3/\y6)/\((e7==8)=false->((e7==9)=true->(AK=true->True/\e5/\g5/\o7/\(((((((((((((((((((((True/\rP=rP)/\d13=d13)/\rQ=rQ)/\rR=rR)/\hY=hY)/\rS=rS)/\rT=rT)/\rU=rU)/\x6)/\v5)/\w5)/\x5)/\y5)/\z5)/\a6)/\b6)/\c6)/\d6)/\e6)/\g6)/\o8)/\q8/\r8/\u0.1=ah.mk (cond u8 h_ rP) (cond w8 h_ d13) (cond x8 h_ rQ) (cond y8 h_ rR) (cond z8 h_ hY) (cond a9 h_ rS) (cond b9 h_ rT) (cond c9 h_ rU) u5 w1 z1 c2 g2 l2 u2 x2 a3 d3 h3 o3/\y6)/\(AK=false->True/\e5/\g5/\o7/\(((((((((((((((((((((True/\rV=rV)/\rW=rW)/\kX=kX)/\rX=rX)/\rY=rY)/\rZ=rZ)/\r_=r_)/\sb=sb)/\x6)/\v5)/\w5)/\x5)/\y5)/\z5)/\a6)/\b6)/\c6)/\d6)/\e6)/\g6)/\o8)/\q8/\r8/\u0.1=ah.mk (cond u8 jO rV) (cond w8 jO rW) (cond x8 jO kX) (cond y8 jO rX) (cond z8 jO rY) (cond a9 jO rZ) (cond b9 jO r_) (cond c9 jO sb) u5 w1 z1 c2 g2 l2 u2 x2 a3 d3 h3 o3/\y6))/\((e7==9)=false->((e7==10)=true->((z6/\d7.ad=d7.ad/\True)/\True/\0<=a0/\a0<=65535)/\(AL=true->d14)/\(AL=false->True/\e5/\g5/\o7/\(((((((((((((((((((((True/\sc=sc)/\oK=oK)/\sd=sd)/\se=se)/\sf=sf)/\mu=mu)/\si=si)/\sj=sj)/\x6)/\v5)/\w5)/\x5)/\y5)/\z5)/\a6)/\b6)/\c6)/\d6)/\e6)/\g6)/\o8)/\q8/\r8/\u0.1=ah.mk (cond u8 gL sc) (cond w8 gL oK) (cond x8 gL sd) (cond y8 gL se) (cond z8 gL sf) (cond a9 gL mu) (cond b9 gL si) (cond c9 gL sj) u5 w1 z1 c2 g2 l2 u2 x2 a3 d3 h3 o3/\y6))/\((e7==10)=false->((e7==11)=true->tn 8 (((z6/\
    d7.ad=d7.ad/\u9=u9/\True)/\k0)/\((!false)=true->d14)/\((!false)=false->wu)))/\((e7==11)=false->((e7==12)=true->wo)/\((e7==12)=false->((e7==13)=true->(AM=true->wo)/\(AM=false->wu))/\((e7==13)=false->((e7==14)=true->tn 4 ((((True/\(((((((((((u1/\u5=v1)/\y1)/\b2)/\e2)/\k2)/\q2)/\w2)/\z2)/\c3)/\g3)/\l3)/\u3)/\1=w3)/\h7=y3)/\True))/\((e7==14)=false->wu)))))))))))))))))/\(∀oL:Sx,let d15:=Int.toNat oL.ra;let aU:=oL.t;let jS:Int:=ah.get aU oL.ra%65536;let jT:=aS BinOp.and IntKind.i64 (List.getD [aU.r0,aU.r1,aU.r2,aU.r3,aU.r4,aU.r5,aU.r6,aU.r7] d15 0) 65535;0<=oL.ra/\oL.ra<8/\u0.1=ah.mk (cond (Nat.beq 0 d15) jS aU.r0) (cond (Nat.beq 1 d15) jS aU.r1) (cond (Nat.beq 2 d15) jS aU.r2) (cond (Nat.beq 3 d15) jS aU.r3) (cond (Nat.beq 4 d15) jS aU.r4) (cond (Nat.beq 5 d15) jS aU.r5) (cond (Nat.beq 6 d15) jS aU.r6) (cond (Nat.beq 7 d15) jS aU.r7) aU.pc aU.st aU.prio aU.node aU.space aU.helper aU.loc aU.word aU.dW aU.dZ aU.core aU.eo/\y6->True/\o0/\(((True/\(((((((((((((((((((True/\cond (Nat.beq g4 d15) jT aU.r0=w0)/\cond (Nat.beq o4 d15) jT aU.r1=y0)/\cond (Nat.beq l6 d15) jT aU.r2=a1)/\cond (Nat.beq o6 d15) jT aU.r3=c1)/\cond (Nat.beq q6 d15) jT aU.r4=e1)/\cond (Nat.beq u6 d15) jT aU.r5=U)/\cond (Nat.beq v6 d15) jT aU.r6=l1)/\cond (Nat.beq w6 d15) jT aU.r7=q1)/\aU.pc=v1)/\aU.st=x1)/\aU.prio=a2)/\aU.node=d2)/\aU.space=h2)/\aU.helper=o2)/\aU.loc=v2)/\aU.word=y2)/\aU.dW=b3)/\aU.dZ=e3)/\aU.core=k3)/\aU.eo=q3)/\0=w3)/\k6)/\True))))))))
set_option maxHeartbeats 4000000 in
theorem B2:cp Tryd.prog jG 7 CP:=eY (.cons (B6.up iw) (.cons (BC.up iw) (.cons xw .nil))) false Tryd.call7 Tryd.func7 (λ⟨t,_,x,y⟩=> [.dec,.pO 3,.cut 19 (D1 t x y),.cut 56 (D2 t x y)]) (V:=yy) (λ_=>by kernel_rfl) λ⟨t,p,x,y⟩ hp=>by
  dsimp only[yx]at hp
  dsimp only[yy,tn,aK]
  obtain⟨ay,n_,hd⟩:=hp
  subst n_
  have hg:=ah.Dp ay
  have qW:0<=t.pc/\t.pc<=65535:=ay.2.2.2.2.2.2.2.2
  have mk: ∀x:Int,aS BinOp.and IntKind.i64 x 65535=x%65536:=λx=>m_ 16 (by omega) rfl
  have e0:aS BinOp.and IntKind.i64 (t.pc+0) 65535=t.pc:=by rw[mk];omega
  have e1:aS BinOp.and IntKind.i64 (t.pc+(0+1)) 65535=(t.pc+1)%65536:=by rw[mk];omega
  have e2:aS BinOp.and IntKind.i64 (t.pc+2) 65535=(t.pc+2)%65536:=m_ 16 (by omega) rfl
  simp only[Nat.sub_zero]
  simp only[e0,e1,e2,mk,ah.B4,ah.Dn,ah.CN]
  have c1:(t.pc==t.pc)=true:=beq_self_eq_true _
  have c2:((t.pc+1)%65536==t.pc)=false:=beq_eq_false_iff_ne.2 (by omega)
  have c3:((t.pc+1)%65536==(t.pc+1)%65536)=true:=beq_self_eq_true _
  simp only[c1,c2,c3,hd,Bool.true_or,Bool.or_true,cond_true,cond_false]
  simp only[show Nat.beq 0 1=false from rfl,show Nat.beq 0 0=true from rfl,show Nat.beq 1 1=true from rfl,cond_true,cond_false,hd]
  simp only[jr,kz,eq_self,implies_true,Bool.cond_self]
  have hr:=A5 hd
  have hi:=BB hr.2.2.1 hr.2.2.2.1
  have Fy:=hg (x%16)
  unfold eD at Fy
  clear e0 e1 e2 c1 c2 c3
  repeat' (first|exact trivial|rfl|refine And.intro ?_ ?_|(intro(h:(_:Bool)=_)))
  all_goals try (first|omega|(rw[IntKind.wrap_i64];omega)|(exact absurd h (by decide))|(simp_all;done))
  · intro s hs
    obtain⟨o,ra,rb,im,b,ad⟩:=s
    obtain⟨ho,wv,wx,cd,hb,di⟩:=hs
    dsimp only at ho wv wx cd hb di⊢
    have sm:=hg ra
    have oM:eD b:=by rw[hb];exact hg rb
    have hS:fQ t x y=aO t o ra rb x y im (t.get ra) b ad:=by
      simp[fQ,ho,wv,wx,cd,hb,di]
    simp only[hS]
    have bO:=Dq sm oM
    have lU:0<=ra/\ra<8:=by omega
    have ho2:0<=o/\o<=14:=by omega
    have qm:0<=ad/\ad<=65535:=by omega
    have hy2:=hr.2.2.1
    have hy3:=hr.2.2.2.1
    have oG:=hr.1
    have Aw:=hr.2.1
    rw[<-cd]at hi
    obtain⟨bP,jD,hi3,hi4⟩:=hi
    have gs:=λx=>ah.CM {t with pc:=(t.pc+2)%65536} lU.1 lU.2 x
    have gg:ah.get {t with pc:=(t.pc+2)%65536} ra=t.get ra:=rfl
    have bQ:ah.get {t with pc:=y} ra=t.get ra:=rfl
    have sg:=ah.tM {t with pc:=(t.pc+2)%65536} lU.1 lU.2
    have bR:=ah.tM {t with pc:=y} lU.1 lU.2
    have hl:(bif ad==t.pc then x else y)%65536=bif ad==t.pc then x else y:=by cases ad==t.pc<;>simp only[cond_true,cond_false]<;>omega
    unfold eD at sm oM
    have gH:0<=t.get ra*b/\t.get ra*b<=65535*65535:=⟨Int.mul_nonneg sm.1 oM.1,Int.mul_le_mul sm.2 oM.2 oM.1 (by decide)⟩
    have bo:t.get ra%65536=t.get ra:=by omega
    have bS:b%65536=b:=by omega
    clear ay hg mk hr wv wx cd hb di ho
    repeat' (first|exact trivial|rfl|refine And.intro ?_ ?_|(intro(h:(_:Bool)=_)))
    all_goals try (first|omega|(rw[IntKind.wrap_i64];omega))
    all_goals try (intro i hi;first|exact⟨trivial,trivial⟩|skip)
    all_goals try (first|(have e0:(o==0)=true:=(by assumption);have e1:=eq_of_beq e0;subst e1;first|(simp[aO,bC,bL,ah.set_set,gs,gg,bQ,sg,bR,bO,bP,bo,bS];done)|(simp[aO,bC,bL,ah.set_set,gs,gg,bQ,sg,bR,bO,bP,bo,bS, *];done))|(have e0:(o==1)=true:=(by assumption);have e1:=eq_of_beq e0;subst e1;first|(simp[aO,bC,bL,ah.set_set,gs,gg,bQ,sg,bR,bO,bP,bo,bS];done)|(simp[aO,bC,bL,ah.set_set,gs,gg,bQ,sg,bR,bO,bP,bo,bS, *];done))|(have e0:(o==2)=true:=(by assumption);have e1:=eq_of_beq e0;subst e1;first|(simp[aO,bC,bL,ah.set_set,gs,gg,bQ,sg,bR,bO,bP,bo,bS];done)|(simp[aO,bC,bL,ah.set_set,gs,gg,bQ,sg,bR,bO,bP,bo,bS, *];done))|(have e0:(o==3)=true:=(by assumption);have e1:=eq_of_beq e0;subst e1;first|(simp[aO,bC,bL,ah.set_set,gs,gg,bQ,sg,bR,bO,bP,bo,bS];done)|(simp[aO,bC,bL,ah.set_set,gs,gg,bQ,sg,bR,bO,bP,bo,bS, *];done))|(have e0:(o==4)=true:=(by assumption);have e1:=eq_of_beq e0;subst e1;first|(simp[aO,bC,bL,ah.set_set,gs,gg,bQ,sg,bR,bO,bP,bo,bS];done)|(simp[aO,bC,bL,ah.set_set,gs,gg,bQ,sg,bR,bO,bP,bo,bS, *];done))|(have e0:(o==5)=true:=(by assumption);have e1:=eq_of_beq e0;subst e1;first|(simp[aO,bC,bL,ah.set_set,gs,gg,bQ,sg,bR,bO,bP,bo,bS];done)|(simp[aO,bC,bL,ah.set_set,gs,gg,bQ,sg,bR,bO,bP,bo,bS, *];done))|(have e0:(o==6)=true:=(by assumption);have e1:=eq_of_beq e0;subst e1;first|(simp[aO,bC,bL,ah.set_set,gs,gg,bQ,sg,bR,bO,bP,bo,bS];done)|(simp[aO,bC,bL,ah.set_set,gs,gg,bQ,sg,bR,bO,bP,bo,bS, *];done))|(have e0:(o==7)=true:=(by assumption);have e1:=eq_of_beq e0;subst e1;first|(simp[aO,bC,bL,ah.set_set,gs,gg,bQ,sg,bR,bO,bP,bo,bS];done)|(simp[aO,bC,bL,ah.set_set,gs,gg,bQ,sg,bR,bO,bP,bo,bS, *];done))|(have e0:(o==8)=true:=(by assumption);have e1:=eq_of_beq e0;subst e1;first|(simp[aO,bC,bL,ah.set_set,gs,gg,bQ,sg,bR,bO,bP,bo,bS];done)|(simp[aO,bC,bL,ah.set_set,gs,gg,bQ,sg,bR,bO,bP,bo,bS, *];done))|(have e0:(o==9)=true:=(by assumption);have e1:=eq_of_beq e0;subst e1;first|(simp[aO,bC,bL,ah.set_set,gs,gg,bQ,sg,bR,bO,bP,bo,bS];done)|(simp[aO,bC,bL,ah.set_set,gs,gg,bQ,sg,bR,bO,bP,bo,bS, *];done))|(have e0:(o==10)=true:=(by assumption);have e1:=eq_of_beq e0;subst e1;first|(simp[aO,bC,bL,ah.set_set,gs,gg,bQ,sg,bR,bO,bP,bo,bS];done)|(simp[aO,bC,bL,ah.set_set,gs,gg,bQ,sg,bR,bO,bP,bo,bS, *];done))|(have e0:(o==11)=true:=(by assumption);have e1:=eq_of_beq e0;subst e1;first|(simp[aO,bC,bL,ah.set_set,gs,gg,bQ,sg,bR,bO,bP,bo,bS];done)|(simp[aO,bC,bL,ah.set_set,gs,gg,bQ,sg,bR,bO,bP,bo,bS, *];done))|(have e0:(o==12)=true:=(by assumption);have e1:=eq_of_beq e0;subst e1;first|(simp[aO,bC,bL,ah.set_set,gs,gg,bQ,sg,bR,bO,bP,bo,bS];done)|(simp[aO,bC,bL,ah.set_set,gs,gg,bQ,sg,bR,bO,bP,bo,bS, *];done))|(have e0:(o==13)=true:=(by assumption);have e1:=eq_of_beq e0;subst e1;first|(simp[aO,bC,bL,ah.set_set,gs,gg,bQ,sg,bR,bO,bP,bo,bS];done)|(simp[aO,bC,bL,ah.set_set,gs,gg,bQ,sg,bR,bO,bP,bo,bS, *];done))|(have e0:(o==14)=true:=(by assumption);have e1:=eq_of_beq e0;subst e1;first|(simp[aO,bC,bL,ah.set_set,gs,gg,bQ,sg,bR,bO,bP,bo,bS];done)|(simp[aO,bC,bL,ah.set_set,gs,gg,bQ,sg,bR,bO,bP,bo,bS, *];done)))
    all_goals try (first
      |(have e2:decide (t.get ra<b)=true:=(by assumption);have e0:(o==9)=true:=(by assumption);have e1:=eq_of_beq e0;subst e1;simp[aO,bC,ah.set_set,gs,e2];done)
      |(have e2:decide (t.get ra<b)=false:=(by assumption);have e0:(o==9)=true:=(by assumption);have e1:=eq_of_beq e0;subst e1;simp[aO,bC,ah.set_set,gs,e2];done)
      |(have e3:(!(ad==t.pc||ad==(t.pc+1)%65536))=false:=(by assumption);have e2:(ad==t.pc||ad==(t.pc+1)%65536)=true:=(by rw[<-Bool.not_not (ad==t.pc||ad==(t.pc+1)%65536),e3];rfl);have e0:(o==10)=true:=(by assumption);have e1:=eq_of_beq e0;subst e1;simp only[aO,bC,bL,e2,ah.set_set,gs,hl];rfl)
      |(exact absurd ‹(!false)=false› (by decide))
      |(exfalso;simp only[beq_eq_false_iff_ne,ne_eq]at*;omega))
  · intro s hs
    obtain⟨g1,g2,g3,g4,g5⟩:=hs
    rw[g3,g4,g5]
    repeat' (first|exact trivial|rfl|refine And.intro ?_ ?_|intro h)
    all_goals try omega
    trace_state
end Go.Proofs.YtbngaammbjaajaaDoor
