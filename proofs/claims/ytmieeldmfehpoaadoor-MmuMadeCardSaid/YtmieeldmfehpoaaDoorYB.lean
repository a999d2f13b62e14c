/-
  Sy, part 6: equality of aggregates.
-/
import Derived.Test.YtmieeldmfehpoaaDoorYA
import Derived.Laws.MakeOwn
set_option linter.unusedVariables false
set_option linter.unusedSimpArgs false
set_option linter.unusedVariables false
set_option linter.unusedSimpArgs false
namespace Go.Sy
open Go.RowKit
def partSV (P:Program) (T:TypeId) (f:Nat→SV) (n off:Nat):Option SV:=
  match P.info? T,P.underlying T with
  |some i,some d=>
   match aggD d with
   |true=>match Nat.ble (off+i.size) n with|true=>some (.ag i.size (out i.size fun j=>f (off+j)))|false=>none
   |false=>match Nat.blt off n with|true=>some (f off)|false=>none
  |_,_=>none
def eqLeaf (P:Program) (T:TypeId) (s t:SV):Option Bool:=
  match P.underlying T,s,t with
  |some (.int _),.v (.int k a),.v (.int k' b)=>match kindEq k k' with|true=>some (a==b)|false=>none
  |some .string,.v (.string a),.v (.string b)=>some (a.toList==b.toList)
  |some .bool,s,t=>match asB s,asB t with|some a,some b=>some (a==b)|_,_=>none
  |_,_,_=>none
def andO:Option Bool→Option Bool→Option Bool
  |some a,some b=>some (a&&b)
  |_,_=>none
def eqFs (P:Program) (rec:TypeId→SV→SV→Option Bool) (n:Nat) (f:Nat→SV) (m:Nat) (g:Nat→SV):List Field→Option Bool
  | []=>some true
  |fd::r=>
   match decide (fd.name = "_") with
   |true=>eqFs P rec n f m g r
   |false=>
    match partSV P fd.type f n fd.offset,partSV P fd.type g m fd.offset with
    |some a,some b=>andO (rec fd.type a b) (eqFs P rec n f m g r)
    |_,_=>none
def eqEs (P:Program) (rec:TypeId→SV→SV→Option Bool) (E:TypeId) (sz n:Nat) (f:Nat→SV) (m:Nat) (g:Nat→SV):List Nat→Option Bool
  | []=>some true
  |k::r=>
   match partSV P E f n (k*sz),partSV P E g m (k*sz) with
   |some a,some b=>andO (rec E a b) (eqEs P rec E sz n f m g r)
   |_,_=>none
def eqT (P:Program):Nat→TypeId→SV→SV→Option Bool
  |0,_,_,_=>none
  |d+1,T,s,t=>
   match P.underlying T,s,t with
   |some (.struct fs),.ag n f,.ag m g=>match P.stoodInHeld T with|false=>eqFs P (eqT P d) n f m g fs.toList|true=>none
   |some (.array len E),.ag n f,.ag m g=>match P.info? E with|some i=>eqEs P (eqT P d) E i.size n f m g (List.range len)|none=>none
   |_,s,t=>eqLeaf P T s t
section
variable {P:Program} {w:World} {ω:Ow}
theorem part_den {T:TypeId} {f:Nat→SV} {n off:Nat} {s:SV} {xs:Array Value} (h:partSV P T f n off=some s) (hd:Den w ω (.ag n f) (.agg xs)):
    ∃v,(∀w',(part T xs off).run P w'= .ok v w')∧Den w ω s v:=by
  obtain ⟨cs,e,hn,hj⟩:=hd
  obtain rfl:=Value.agg.inj e
  unfold partSV at h
  split at h
  · next i d hi hu=>
    split at h
    · next hd=>
      split at h
      · next hle=>
        have hle:=Nat.le_of_ble_eq_true hle
        obtain rfl:=Option.some.inj h
        have ha: ∀w',(isAgg T).run P w'= .ok true w':=fun w'=>by
          simp only [isAgg,Sem.run_bind,run_underlying hu,Result.andThen]
          cases d<;>simp [aggD] at hd<;>simp
        have hs: ∀w',(sizeOf T).run P w'= .ok i.size w':=fun w'=>by simp [sizeOf,run_typeInfo w' hi,Result.andThen]
        refine ⟨.agg (xs.extract off (off+i.size)),fun w'=>by simp [part,ha,hs,Result.andThen],_,rfl,by simp;omega,fun j hji=>?_⟩
        obtain ⟨x,h1,h2⟩:=hj (off+j) (by omega)
        exact ⟨x,by rw [Array.getElem?_extract];simp [show j<min (off+i.size) xs.size -off by omega,h1],by rw [out_eq hji];exact h2⟩
      · cases h
    · next hd=>
      split at h
      · next hlt=>
        have hlt:off<n:=Nat.le_of_ble_eq_true hlt
        obtain rfl:=Option.some.inj h
        have ha: ∀w',(isAgg T).run P w'= .ok false w':=fun w'=>by
          simp only [isAgg,Sem.run_bind,run_underlying hu,Result.andThen]
          cases d<;>simp [aggD] at hd<;>simp
        obtain ⟨x,h1,h2⟩:=hj off hlt
        exact ⟨x,fun w'=>by simp [part,ha,h1,Result.andThen],h2⟩
      · cases h
  · cases h
theorem eqLeaf_ok {T:TypeId} {s t:SV} {b:Bool} (h:eqLeaf P T s t=some b) {u v:Value} (hu:Den w ω s u) (hv:Den w ω t v) (d:Nat) (w':World):
    (Op.equalIn (d+1) T u v).run P w'= .ok b w':=by
  unfold eqLeaf at h
  split at h
  · next hT=>
    split at h
    · next hk=>
      obtain rfl:=kindEq_eq hk
      obtain rfl:=Option.some.inj h
      obtain rfl:=hu
      obtain rfl:=hv
      exact run_equalIn_int w' d T _ _ _ _ hT
    · cases h
  · next hT=>
    obtain rfl:=Option.some.inj h
    obtain rfl:=hu
    obtain rfl:=hv
    exact run_equalIn_string w' d T _ _ hT
  · next hT=>
    split at h
    · next a b ha hb=>
      obtain rfl:=Option.some.inj h
      obtain rfl:=asB_den ha hu
      obtain rfl:=asB_den hb hv
      exact run_equalIn_bool' w' d T _ _ hT
    · cases h
  · cases h
theorem andO_some {a b:Option Bool} {r:Bool} (h:andO a b=some r): ∃x y,a=some x∧b=some y∧r=(x&&y):=by
  unfold andO at h
  split at h
  · exact ⟨_,_,rfl,rfl,(Option.some.inj h).symm⟩
  · cases h
theorem eqFs_ok {rec:TypeId→SV→SV→Option Bool} {d:Nat} (ih: ∀{T:TypeId} {s t:SV} {b:Bool},rec T s t=some b→ ∀{u v:Value},Den w ω s u→Den w ω t v→ ∀w',(Op.equalIn d T u v).run P w'= .ok b w')
    {n m:Nat} {f g:Nat→SV} {xs ys:Array Value} (hx:Den w ω (.ag n f) (.agg xs)) (hy:Den w ω (.ag m g) (.agg ys)):
    ∀(fs:List Field) {b:Bool},eqFs P rec n f m g fs=some b→ ∀w',(Op.eqFields d xs ys fs).run P w'= .ok b w'
  | [],b,h,w'=>by simp [eqFs] at h;subst h;simp [Op.eqFields]
  |fd::r,b,h,w'=>by
   unfold eqFs at h
   split at h
   · next hn=>
     have hn : fd.name = "_" := by simpa using hn
     simp only [Op.eqFields,hn,ne_eq,not_true_eq_false,if_false]
     exact eqFs_ok ih hx hy r h w'
   · next hn=>
     have hn : fd.name ≠ "_" := by simpa using hn
     split at h
     · next a c ha hc=>
       obtain ⟨p,q,h1,h2,rfl⟩:=andO_some h
       obtain ⟨u,e1,d1⟩:=part_den ha hx
       obtain ⟨v,e2,d2⟩:=part_den hc hy
       have e3:=ih h1 d1 d2 w'
       simp only [Op.eqFields,hn,ne_eq,not_false_eq_true,if_true,Sem.run_bind,e1,e2,e3,Result.andThen_ok]
       cases p
       · simp
       · simpa using eqFs_ok ih hx hy r h2 w'
     · cases h
theorem eqT_ok: ∀(d:Nat) {T:TypeId} {s t:SV} {b:Bool},eqT P d T s t=some b→ ∀{u v:Value},Den w ω s u→Den w ω t v→ ∀w',(Op.equalIn d T u v).run P w'= .ok b w'
  |0,_,_,_,_,h,_,_,_,_,_=>by simp [eqT] at h
  |d+1,T,s,t,b,h,u,v,hu,hv,w'=>by
   unfold eqT at h
   split at h
   · next fs n f m g hT=>
     split at h
     · next hs=>
       obtain ⟨xs,rfl,hx⟩:=hu
       obtain ⟨ys,rfl,hy⟩:=hv
       have hf:P.fieldsOf T=fs:=by simp [Program.fieldsOf,hT]
       rw [run_equalIn_struct w' d T xs ys (by rw [hf];exact hT) hs,hf]
       exact eqFs_ok (fun hr _ _ du dv w''=>eqT_ok d hr du dv w'') ⟨xs,rfl,hx⟩ ⟨ys,rfl,hy⟩ _ h w'
     · cases h
   · next len E n f m g hT=>
     split at h
     · next i hi=>
       obtain ⟨xs,rfl,hx⟩:=hu
       obtain ⟨ys,rfl,hy⟩:=hv
       have hs: ∀w'',(sizeOf E).run P w''= .ok i.size w'':=fun w''=>by simp [sizeOf,run_typeInfo w'' hi,Result.andThen]
       simp only [Op.equalIn,Sem.run_bind,run_underlying hT,Result.andThen_ok,hs,Std.Legacy.Range.forIn_eq_forIn_range',Std.Legacy.Range.size]
       have key: ∀(l:List Nat) {b:Bool},eqEs P (eqT P d) E i.size n f m g l=some b→ ∀w'':World,
        (((forIn l ((none,()):Option Bool×Unit) fun k r=>do
            let x←part E xs (k*i.size)
            let y←part E ys (k*i.size)
            let z←Op.equalIn d E x y
            if (!z)=true then pure (ForInStep.done (some false,())) else pure (ForInStep.yield (none,()))):Sem (Option Bool×Unit))).run P w''= .ok (if b then none else some false,()) w'':=by
         intro l
         induction l with
         |nil=>intro b h w'';simp [eqEs] at h;subst h;simp
         |cons k r ih=>
          intro b h w''
          unfold eqEs at h
          split at h
          · next a c ha hc=>
            obtain ⟨p,q,h1,h2,rfl⟩:=andO_some h
            obtain ⟨u,e1,d1⟩:=part_den ha ⟨xs,rfl,hx⟩
            obtain ⟨v,e2,d2⟩:=part_den hc ⟨ys,rfl,hy⟩
            have e3:=eqT_ok d h1 d1 d2 w''
            simp only [List.forIn_cons,Sem.run_bind,e1,e2,e3,Result.andThen_ok]
            cases p
            · simp
            · simpa using ih h2 w''
          · cases h
       have e0:List.range' 0 ((len -0+1 -1)/1)=List.range len:=by rw [List.range_eq_range'];congr 1;omega
       rw [e0,key _ h w']
       cases b<;>simp [Result.andThen]
     · cases h
   · exact eqLeaf_ok h hu hv d w'
end
end Go.Sy
set_option linter.unusedVariables false
set_option linter.unusedSimpArgs false
namespace Go.Sy
open Go.RowKit
def evAgg (P:Program) (op:BinOp) (T:TypeId) (s t:SV):R:=
  match s,t,P.eqGuardType P.depth T with
  | .ag n f,.ag m g,false=>
    match eqT P 10000 T (.ag n f) (.ag m g),op with
    |some b,.eql=> .ok (.v (.bool b))
    |some b,.neq=> .ok (.v (.bool (!b)))
    |_,_=> .bad
  |_,_,_=> .bad
def evPick (c s t:SV):R:=
  match c with
  | .bl true=> .ok s
  | .bl false=> .ok t
  | .v (.bool b)=>
    match asB s,asB t with
    |some x,some y=> .ok (.v (.bool (bif b then x else y)))
    |_,_=> .bad
  |_=> .bad
def evUn (sg:Bool) (op:UnOp) (s:SV):R:=
  match op,s with
  | .not,.bl true=> .ok (.bl false)
  | .not,.bl false=> .ok (.bl true)
  | .not,.v (.bool b)=> .ok (.v (.bool (!b)))
  | .neg,.v (.int k n)=>match sg with|true=> .ok (.v (.int k (k.wrap (0 -n))))|false=> .req (inK k (0 -n)) (.v (.int k (-n)))
  |_,_=> .bad
def evConv (P:Program) (sg:Bool) (S D:TypeId) (s:SV):R:=
  match P.underlying S,P.underlying D,s with
  |some _,some (.int k),.v (.int _ n)=>match sg with|true=> .ok (.v (.int k (k.wrap n)))|false=> .req (inK k n) (.v (.int k n))
  |_,_,_=> .bad
def ifaceOf (T:TypeId):SV→SV
  | .v x=> .v (.iface T x)
  | .bl b=> .v (.iface T (.bool b))
  |s=> .ic T s
def evMkIface (P:Program) (T:TypeId) (s:SV):R:=
  match P.underlying T with
  |some (.interface _)=> .bad
  |some _=> .ok (ifaceOf T s)
  |none=> .bad
def evExtract (s:SV) (i:Nat):R:=
  match s with
  | .tp n f=>match Nat.blt i n with|true=> .ok (f i)|false=> .bad
  |_=> .bad
def methOf (P:Program) (t:TypeId) (name:String):Option Nat:=
  match P.info? t,P.underlying t with
  |some i,some d=>
   match i.methods.find? (fun m=>m.name==name) with
   |some m=>
    match m.path.toList,m.func,d with
    | [],some (f,true),.pointer _=>some f
    |_,_,_=>none
   |none=>none
  |_,_=>none
def evNilCheck (P:Program) (s:SV) (m:Nat→Ent):R:=
  match s with
  | .ptr k st p i j=>match okRef m k st p with|true=> .ok (.ptr k st p i j)|false=> .bad
  | .pe k st p i j len z=>match okRef m k st p with|true=> .ok (.pe k st p i j len z)|false=> .bad
  | .pt q n f=> .ok (.pt q n f)
  | .fn id n f=> .ok (.fn id n f)
  | .bm id s=> .ok (.bm id s)
  | .mv nm (.ic t s)=>match methOf P t nm with|some _=> .ok (.mv nm (.ic t s))|none=> .bad
  | .pa q sz n f=> .ok (.pa q sz n f)
  | .v (.pointer (some ad))=> .ok (.v (.pointer (some ad)))
  |_=> .bad
def evLen (P:Program) (T:TypeId) (s:SV) (m:Nat→Ent):R:=
  match P.underlying T,s with
  |some (.slice _),.sl _ _ n _=> .asm ((n:Int)≤9223372036854775807) (.v (.int .i64 n))
  |some (.slice _),.slc k st p _ n=>match okRef m k st p with|true=> .asm ((n:Int)≤9223372036854775807) (.v (.int .i64 n))|false=> .bad
  |some (.slice _),.sa k st p _ _ n=>match okRef m k st p with|true=> .ok (.v (.int .i64 n))|false=> .bad
  |some (.slice _),.v (.slice none 0 0)=> .ok (.v (.int .i64 0))
  |some (.slice _),.es=> .ok (.v (.int .i64 0))
  |some .string,.v (.string x)=> .ok (.v (.int .i64 x.size))
  |_,_=> .bad
def evMax (mx:Bool) (l:List SV):R:=
  match l with
  | [.v (.int k x),.v (.int k' y)]=>
    match kindEq k k',mx with
    |true,true=> .ok (.v (.int k (max x y)))
    |true,false=> .ok (.v (.int k (min x y)))
    |_,_=> .bad
  |_=> .bad
def evPart (P:Program) (T:TypeId) (s:SV) (j:Nat):R:=
  match P.underlying T,s with
  |some (.struct fs),.ag n f=>
   match fs[j]? with
   |some fd=>match partSV P fd.type f n fd.offset with|some t=> .ok t|none=> .bad
   |none=> .bad
  |_,_=> .bad
def evAt (P:Program) (T:TypeId) (lit:Bool) (s i:SV):R:=
  match P.underlying T,s,i with
  |some .string,.v (.string x),.v (.int _ z)=> .req ((0≤z∧z<x.size)) (.v (.int .u8 (x.data.toList.getD z.toNat 0).toNat))
  |some (.array len E),.ag n f,.v (.int _ z)=>
   match P.info? E,P.underlying E with
   |some i,some d=>
    match aggD d,Nat.beq n (len*i.size),Nat.beq i.size 1 with
    |false,true,true=>
     match lit,d with
     |true,_=> .req ((0≤z∧z<len)) (f z.toNat)
     |false,.int kk=>match intsOf kk ((List.range len).map f) with|some l=> .req ((0≤z∧z<len)) (.v (.int kk (sel l z.toNat)))|none=> .bad
     |_,_=> .bad
    |_,_,_=> .bad
   |_,_=> .bad
  |_,_,_=> .bad
def intO (d:Int):Option SV→Option Int
  |none=>some d
  |some (.v (.int _ z))=>some z
  |_=>none
def evSlice (P:Program) (T:TypeId) (s:SV) (lo hi:Option SV) (m:Nat→Ent):R:=
  match P.underlying T,s with
  |some (.slice E),.sl q sz n f=>
   match P.info? E,intO 0 lo,intO n hi with
   |some i,some l,some h=>match Nat.beq i.size sz with|true=> .req ((0≤l∧l≤h∧h≤n)) (.sl q sz (h.toNat -l.toNat) fun i j=>f (l.toNat+i) j)|false=> .bad
   |_,_,_=> .bad
  |some (.slice E),.slc k st p e n=>
   match P.info? E,intO 0 lo,intO n hi with
   |some i,some l,some h=>
    match okRef m k st p,rowIn (m k).b p with
    |true,some r=>match Nat.beq i.size r.sz with|true=> .req ((0≤l∧l≤h∧h≤n)) (.slc k st p (e+l.toNat) (h.toNat -l.toNat))|false=> .bad
    |_,_=> .bad
   |_,_,_=> .bad
  |some (.array len E),.ptr k st p ii j=>
   match P.info? E,lo,hi,okRef m k st p with
   |some i,none,none,true=>match Nat.beq i.size 1,Nat.blt 0 len,Nat.ble len 1000000 with|true,true,true=> .ok (.sa k st p ii j len)|_,_,_=> .bad
   |_,_,_,_=> .bad
  |some .string,.v (.string x)=>
   match intO 0 lo,intO x.size hi with
   |some l,some h=> .req ((0≤l∧l≤h∧h≤x.size)) (.v (.string (x.extract l.toNat h.toNat)))
   |_,_=> .bad
  |_,_=> .bad
def evMkFunc (fn:Fn) (first caps:List SV):R:=
  match fn,first with
  | .func id,[]=> .ok (.fn id caps.length (lsv caps))
  | .func id,[s]=>match caps with| []=> .ok (.bm id s)|_=> .bad
  | .method nm,[s]=>match caps with| []=> .ok (.mv nm s)|_=> .bad
  |_,_=> .bad
def cellsSV (m:Nat→Ent):SV→Option (List SV)
  | .ag n f=>some ((List.range n).map f)
  | .v (.agg cs)=>some (cs.toList.map .v)
  | .v (.tuple _)=>none
  | .junk=>none
  | .tp _ _=>none
  | .il _ _ _=>none
  | .ptr k st p i j=>match okRef m k st p with|true=>some [.ptr k st p i j]|false=>none
  | .pe k st p i j len z=>match okRef m k st p with|true=>some [.pe k st p i j len z]|false=>none
  | .slc k st p e n=>match okRef m k st p with|true=>some [.slc k st p e n]|false=>none
  | .sa k st p i j n=>match okRef m k st p with|true=>some [.sa k st p i j n]|false=>none
  |s=>some [s]
def setMany (l:List SV):Nat→List SV→List SV
  |_,[]=>l
  |off,c::r=>setMany (l.set off c) (off+1) r
def fillSV (m:Nat→Ent) (place:Nat→Option (Nat×Nat)) (cells:List SV):List (Nat×SV)→Option (List SV)
  | []=>some cells
  |(i,s)::rest=>
   match place i,cellsSV m s with
   |some (off,size),some cs=>
    match Nat.beq cs.length size,Nat.ble (off+cs.length) cells.length with
    |true,true=>fillSV m place (setMany cells off cs) rest
    |_,_=>none
   |_,_=>none
def placesL (P:Program) (fs:List Field):Option (List (Nat×Nat)):=fs.mapM (fun f=>(P.info? f.type).map fun i=>(f.offset,i.size))
def evBuild (P:Program) (T:TypeId) (parts:List (Nat×SV)) (m:Nat→Ent):R:=
  match P.info? T,P.underlying T with
  |some i,some (.struct fs)=>
   match i.zero,placesL P fs.toList with
   |some z,some pl=>
    match fillSV m (fun k=>pl[k]?) (z.cells.toList.map .v) parts with
    |some l=> .ok (.ag l.length (lsv l))
    |none=> .bad
   |_,_=> .bad
  |some i,some (.array _ E)=>
   match i.zero,P.info? E with
   |some z,some ie=>
    match fillSV m (fun k=>some (k*ie.size,ie.size)) (z.cells.toList.map .v) parts with
    |some l=> .ok (.ag l.length (lsv l))
    |none=> .bad
   |_,_=> .bad
  |_,_=> .bad
section
variable {P:Program} {w:World} {ω:Ow} {ρ:Operand→SV} {M:Mem} {a:Act}
theorem agg_ok (h:Cx P w ω ρ M a) {o:Oper} {op:BinOp} {T T':TypeId} {x y:Operand} {K:SV→Prop} (ho:o.op= .binOp op T x y T')
    (he:(evAgg P op T (ρ x) (ρ y)).run K):PureOK P w ω a o K:=by
  have hx:=h.val x
  have hy:=h.val y
  unfold evAgg at he
  split at he
  · next n f m g hs ht hg=>
    rw [hs] at hx;rw [ht] at hy
    split at he
    · next b hb=>
      have hr:=fun w'=>eqT_ok 10000 hb hx hy w'
      obtain ⟨xs,ex,_⟩:=hx
      obtain ⟨ys,ey,_⟩:=hy
      rw [ex,ey] at hr
      exact ⟨.v (.bool b),.bool b,run_bin ho ex ey (fun w=>run_eqGuard_agg w _ _ _ _ _ _ hg) (fun w=>by rw [run_eql_struct,hr w];rfl),rfl,he⟩
    · next b hb=>
      have hr:=fun w'=>eqT_ok 10000 hb hx hy w'
      obtain ⟨xs,ex,_⟩:=hx
      obtain ⟨ys,ey,_⟩:=hy
      rw [ex,ey] at hr
      exact ⟨.v (.bool (!b)),.bool (!b),run_bin ho ex ey (fun w=>run_eqGuard_agg w _ _ _ _ _ _ hg) (fun w=>by rw [run_neq_struct,hr w];rfl),rfl,he⟩
    · exact he.elim
  · exact he.elim
theorem pick_ok (h:Cx P w ω ρ M a) {o:Oper} {c x y:Operand} {K:SV→Prop} (ho:o.op= .pick c x y)
    (he:(evPick (ρ c) (ρ x) (ρ y)).run K):PureOK P w ω a o K:=by
  have hc:=h.val c
  have hx:=h.val x
  have hy:=h.val y
  unfold evPick at he
  split at he
  · next hs=>
    rw [hs] at hc
    have ec:a.eval c= .bool true:=hc
    exact ⟨_,_,by simp [execOp,ho,ec,asBool],hx,he⟩
  · next hs=>
    rw [hs] at hc
    have ec:a.eval c= .bool false:=hc
    exact ⟨_,_,by simp [execOp,ho,ec,asBool],hy,he⟩
  · next b hs=>
    rw [hs] at hc
    have ec:a.eval c= .bool b:=hc
    split at he
    · next p q hp hq=>
      have ex:=asB_den hp hx
      have ey:=asB_den hq hy
      exact ⟨.v (.bool (bif b then p else q)),.bool (bif b then p else q),by cases b<;>simp [execOp,ho,ec,asBool,ex,ey],rfl,he⟩
    · exact he.elim
  · exact he.elim
theorem un_ok (h:Cx P w ω ρ M a) {sg:Bool} {o:Oper} {op:UnOp} {T:TypeId} {x:Operand} {K:SV→Prop} (ho:o.op= .unOp op T x)
    (he:(evUn sg op (ρ x)).run K):PureOK P w ω a o K:=by
  have hx:=h.val x
  unfold evUn at he
  split at he
  · next hs=>
    rw [hs] at hx
    have ex:a.eval x= .bool true:=hx
    exact ⟨.bl false,.bool false,by simp [execOp,ho,ex,Op.unary],rfl,he⟩
  · next hs=>
    rw [hs] at hx
    have ex:a.eval x= .bool false:=hx
    exact ⟨.bl true,.bool true,by simp [execOp,ho,ex,Op.unary],rfl,he⟩
  · next b hs=>
    rw [hs] at hx
    have ex:a.eval x= .bool b:=hx
    exact ⟨.v (.bool (!b)),.bool (!b),by simp [execOp,ho,ex,Op.unary],rfl,he⟩
  · next k n hs=>
    rw [hs] at hx
    have ex:a.eval x= .int k n:=hx
    cases sg with
    |true=>exact ⟨.v (.int k (k.wrap (0 -n))),.int k (k.wrap (0 -n)),by simp [execOp,ho,ex,Op.unary,Op.intArith],rfl,he⟩
    |false=>
     have e:k.wrap (0 -n)= -n:=by have:=he.1;unfold inK at this;omega
     exact ⟨.v (.int k (-n)),.int k (-n),by simp only [execOp,ho,ex,Op.unary,Op.intArith,e,Sem.run_bind,Sem.run_pure,Result.andThen_ok],rfl,he.2⟩
  · exact he.elim
theorem conv_ok (h:Cx P w ω ρ M a) {sg:Bool} {o:Oper} {S D:TypeId} {x:Operand} {K:SV→Prop} (ho:o.op= .convert S D x)
    (he:(evConv P sg S D (ρ x)).run K):PureOK P w ω a o K:=by
  have hx:=h.val x
  unfold evConv at he
  split at he
  · next d k k' n hS hD hs=>
    rw [hs] at hx
    have ex:a.eval x= .int k' n:=hx
    have hr:(execOp a.eval o).run P w= .ok (.value (.int k (k.wrap n))) w:=by simp [execOp,ho,ex,convert,run_underlying hS,run_underlying hD,Conv.intToInt,Result.andThen]
    cases sg with
    |true=>exact ⟨.v (.int k (k.wrap n)),_,hr,rfl,he⟩
    |false=>
     have e:k.wrap n=n:=he.1
     exact ⟨.v (.int k n),_,hr,by rw [e];rfl,he.2⟩
  · exact he.elim
theorem ifaceOf_den {T:TypeId} {s:SV} {u:Value} (h:Den w ω s u):Den w ω (ifaceOf T s) (.iface T u):=by
  unfold ifaceOf
  split
  · obtain rfl:=h;rfl
  · obtain rfl:=h;rfl
  · exact ⟨u,rfl,h⟩
theorem mkIface_ok (h:Cx P w ω ρ M a) {o:Oper} {T:TypeId} {x:Operand} {K:SV→Prop} (ho:o.op= .makeInterface T x)
    (he:(evMkIface P T (ρ x)).run K):PureOK P w ω a o K:=by
  have hx:=h.val x
  unfold evMkIface at he
  split at he
  · exact he.elim
  · next d hn hu=>
    refine ⟨_,_,?_,ifaceOf_den hx,he⟩
    simp only [execOp,ho,Instr.makeInterface,Sem.run_bind,run_underlying hu,Result.andThen_ok]
    cases d<;>first|exact absurd rfl (hn _)|rfl
  · exact he.elim
theorem extract_ok (h:Cx P w ω ρ M a) {o:Oper} {i:Nat} {x:Operand} {K:SV→Prop} (ho:o.op= .extract x i)
    (he:(evExtract (ρ x) i).run K):PureOK P w ω a o K:=by
  have hx:=h.val x
  unfold evExtract at he
  split at he
  · next n f hs=>
    rw [hs] at hx
    obtain ⟨cs,ex,_,hj⟩:=hx
    split at he
    · next hlt=>
      obtain ⟨y,h1,h2⟩:=hj i (Nat.le_of_ble_eq_true hlt)
      exact ⟨_,y,by simp [execOp,ho,ex,Instr.extract,h1],h2,he⟩
    · exact he.elim
  · exact he.elim
theorem nilCheck_ok (h:Cx P w ω ρ M a) {o:Oper} {x:Operand} {K:SV→Prop} (ho:o.op= .nilCheck x)
    (he:(evNilCheck P (ρ x) (ent M)).run K):PureOK P w ω a o K:=by
  have hx:=h.val x
  unfold evNilCheck at he
  have run: ∀u,(∃ad,u= .pointer (some ad))∨(∃f p c,u= .func (.func f) p c)→a.eval x=u→(execOp a.eval o).run P w= .ok (.value u) w:=by
    rintro u (⟨ad,rfl⟩|⟨f,p,c,rfl⟩) e<;>simp [execOp,ho,e]
  split at he
  · next k st p i j hs=>
    split at he
    · next hok=>
      rw [hs] at hx
      obtain ⟨_,L,_,_,e⟩:=okRef_at h.mem hok hx
      exact ⟨_,_,run _ (.inl ⟨_,e⟩) rfl,hx,he⟩
    · exact he.elim
  · next k st p i j len z hs=>
    split at he
    · next hok=>
      rw [hs] at hx
      obtain ⟨_,L,_,_,_,e⟩:=okRef_at h.mem hok hx
      exact ⟨_,_,run _ (.inl ⟨_,e⟩) rfl,hx,he⟩
    · exact he.elim
  · next q n f hs=>
    rw [hs] at hx
    have hx':=hx
    obtain ⟨b,ex,_⟩:=hx
    exact ⟨_,_,run _ (.inl ⟨_,ex⟩) rfl,hx',he⟩
  · next id n f hs=>
    rw [hs] at hx
    have hx':=hx
    obtain ⟨b,ex,_⟩:=hx
    exact ⟨_,_,run _ (.inr ⟨_,_,_,ex⟩) rfl,hx',he⟩
  · next id s hs=>
    rw [hs] at hx
    have hx':=hx
    obtain ⟨b,ex,_⟩:=hx
    exact ⟨_,_,run _ (.inr ⟨_,_,_,ex⟩) rfl,hx',he⟩
  · next nm t s hs=>
    rw [hs] at hx
    have hx':=hx
    obtain ⟨u,ex,y,rfl,_⟩:=hx
    split at he
    · next f hm=>
      refine ⟨.mv nm (.ic t s),.func (.method nm) #[.iface t y] #[],?_,by rw [ex] at hx';exact hx',he⟩
      unfold methOf at hm
      split at hm
      · next i d hi hd=>
        split at hm
        · next m hf=>
          split at hm
          · next f e hp hfn=>
            obtain ⟨k,hk⟩: ∃k,P.types.size+Made.depth=k+1:=⟨P.types.size+99,by show P.types.size+100=_;omega⟩
            simp [execOp,ho,ex,hk,nilAhead,typeInfo,hi,hf,hp,followBlind,hfn,Result.andThen]
          · cases hm
        · cases hm
      · cases hm
    · exact he.elim
  · next q sz n f hs=>
    rw [hs] at hx
    have hx':=hx
    obtain ⟨b,ex,_⟩:=hx
    exact ⟨_,_,run _ (.inl ⟨_,ex⟩) rfl,hx',he⟩
  · next ad hs=>
    rw [hs] at hx
    exact ⟨.v (.pointer (some ad)),_,run _ (.inl ⟨_,rfl⟩) hx,rfl,he⟩
  · exact he.elim
theorem len_ok (h:Cx P w ω ρ M a) {o:Oper} {T:TypeId} {x:Operand} {K:SV→Prop} (ho:o.op= .call {callee:= .builtin .len,args:= #[x],argTypes:= #[T]})
    (he:(evLen P T (ρ x) (ent M)).run K):PureOK P w ω a o K:=by
  have hx:=h.val x
  unfold evLen at he
  have run: ∀p n cap,(∃E,P.underlying T=some (.slice E))→a.eval x= .slice p n cap→(execOp a.eval o).run P w= .ok (.value (.int .i64 n)) w:=by
    rintro p n cap ⟨E,hu⟩ ex
    simp [execOp,ho,resolve,invoke,builtin,Builtin.len_,ex,run_underlying hu,Result.andThen,goInt]
  split at he
  · next E q sz n f hu hs=>
    rw [hs] at hx
    obtain ⟨p,cap,ex,_,hml,_⟩:=hx
    exact ⟨.v (.int .i64 n),_,run _ _ _ ⟨E,hu⟩ ex,rfl,he (by unfold maxLen at hml;omega)⟩
  · next E k st p e n hu hs=>
    split at he
    · next hok=>
      rw [hs] at hx
      have e0:st=Sy.st ω.cur k p:=by
        rw [h.mem.cur]
        cases p with
        |none=>exact Nat.eq_of_beq_eq_true hok
        |some _=>exact Nat.eq_of_beq_eq_true hok
      rcases hx with hx|⟨_,q,cap,ex,_,hml,_⟩
      · omega
      exact ⟨.v (.int .i64 n),_,run _ _ _ ⟨E,hu⟩ ex,rfl,he (by unfold maxLen at hml;omega)⟩
    · exact he.elim
  · next E k st p i j n hu hs=>
    split at he
    · next hok=>
      rw [hs] at hx
      obtain ⟨_,L,_,_,_,ex⟩:=okRef_at h.mem hok hx
      exact ⟨.v (.int .i64 n),_,run _ _ _ ⟨E,hu⟩ ex,rfl,he⟩
    · exact he.elim
  · next E hu hs=>
    rw [hs] at hx
    exact ⟨.v (.int .i64 0),_,run _ _ _ ⟨E,hu⟩ hx,rfl,he⟩
  · next E hu hs=>
    rw [hs] at hx
    obtain ⟨p,ex⟩:=hx
    exact ⟨.v (.int .i64 0),_,run _ _ _ ⟨E,hu⟩ ex,rfl,he⟩
  · next y hu hs=>
    rw [hs] at hx
    have ex:a.eval x= .string y:=hx
    exact ⟨.v (.int .i64 y.size),_,by simp [execOp,ho,resolve,invoke,builtin,Builtin.len_,ex,run_underlying hu,Result.andThen,goInt],rfl,he⟩
  · exact he.elim
theorem max_ok (h:Cx P w ω ρ M a) {o:Oper} {mx:Bool} {x y:Operand} {ts:Array TypeId} {K:SV→Prop} (ho:o.op= .call {callee:= .builtin (if mx then .max else .min),args:= #[x,y],argTypes:=ts})
    (he:(evMax mx [ρ x,ρ y]).run K):PureOK P w ω a o K:=by
  have hx:=h.val x
  have hy:=h.val y
  unfold evMax at he
  split at he
  · next k m k' n hl=>
    obtain ⟨h1,h2⟩:ρ x= .v (.int k m)∧ρ y= .v (.int k' n):=by simpa using hl
    rw [h1] at hx;rw [h2] at hy
    have ex:a.eval x= .int k m:=hx
    have ey:a.eval y= .int k' n:=hy
    split at he
    · next hk=>
      exact ⟨.v (.int k (max m n)),.int k (max m n),by
        simp [execOp,ho,resolve,invoke,builtin,Builtin.max_,Builtin.max2,ex,ey]
        split<;>omega,rfl,he⟩
    · next hk=>
      exact ⟨.v (.int k (min m n)),.int k (min m n),by
        simp [execOp,ho,resolve,invoke,builtin,Builtin.min_,Builtin.min2,ex,ey]
        split<;>omega,rfl,he⟩
    · exact he.elim
  · exact he.elim
theorem part_ok (h:Cx P w ω ρ M a) {o:Oper} {T:TypeId} {x:Operand} {j:Nat} {K:SV→Prop} (ho:o.op= .field T x j)
    (he:(evPart P T (ρ x) j).run K):PureOK P w ω a o K:=by
  have hx:=h.val x
  unfold evPart at he
  split at he
  · next fs n f hu hs=>
    rw [hs] at hx
    split at he
    · next fd hfd=>
      split at he
      · next t ht=>
        obtain ⟨cs,ex,hr⟩:=hx
        obtain ⟨v,hv0,hv⟩:=part_den ht ⟨cs,rfl,hr⟩
        exact ⟨t,v,by simp [execOp,ho,Instr.field,run_underlying hu,hfd,ex,asAgg,hv0 w,Result.andThen],hv,he⟩
      · exact he.elim
    · exact he.elim
  · exact he.elim
theorem at_ok (h:Cx P w ω ρ M a) {o:Oper} {T:TypeId} {lit:Bool} {x y:Operand} {K:SV→Prop} (ho:o.op= .index T x y)
    (he:(evAt P T lit (ρ x) (ρ y)).run K):PureOK P w ω a o K:=by
  have hx:=h.val x
  have hy:=h.val y
  unfold evAt at he
  split at he
  · next s k z hu hs ht=>
    rw [hs] at hx;rw [ht] at hy
    have ex:a.eval x= .string s:=hx
    have ey:a.eval y= .int k z:=hy
    obtain ⟨⟨h0,h1⟩,hK⟩:=he
    have hlt:z.toNat<s.size:=by omega
    have hlt':z.toNat<s.data.toList.length:=by simpa using hlt
    refine ⟨.v (.int .u8 (s.data.toList.getD z.toNat 0).toNat),.int .u8 (s.data.toList.getD z.toNat 0).toNat,?_,rfl,hK⟩
    have e1:s[z.toNat]? =some (s.data.toList.getD z.toNat 0):=by
      rw [List.getD_eq_getElem?_getD,List.getElem?_eq_getElem hlt']
      rw [getElem?_pos s z.toNat hlt]
      rfl
    simp [execOp,ho,ex,ey,Instr.index,asIntOf,run_underlying hu,h0,e1,Result.andThen]
  · next len E n f k z hu hs ht=>
    rw [hs] at hx;rw [ht] at hy
    have ey:a.eval y= .int k z:=hy
    split at he
    · next i d hi hd=>
      split at he
      · next h1 h2 h3=>
        have h2:=Nat.eq_of_beq_eq_true h2
        have h3:=Nat.eq_of_beq_eq_true h3
        obtain ⟨cs,ex,hn,hj⟩:=hx
        have hsz:(sizeOf E).run P w= .ok i.size w:=by simp [sizeOf,run_typeInfo w hi,Result.andThen]
        have ha:(isAgg E).run P w= .ok false w:=by
          simp only [isAgg,Sem.run_bind,run_underlying hd,Result.andThen]
          cases d<;>simp [aggD] at h1<;>simp
        have key:0≤z→z<len→ ∃u,(execOp a.eval o).run P w= .ok (.value u) w∧Den w ω (f z.toNat) u:=by
          intro g0 g1
          obtain ⟨u,e1,hu1⟩:=hj z.toNat (by rw [h2,h3];omega)
          exact ⟨u,by simp [execOp,ho,ex,ey,Instr.index,asIntOf,run_underlying hu,g0,g1,hsz,h3,part,ha,e1,Result.andThen],hu1⟩
        split at he
        · obtain ⟨⟨g0,g1⟩,hK⟩:=he
          obtain ⟨u,r1,r2⟩:=key g0 g1
          exact ⟨_,u,r1,r2,hK⟩
        · next kk=>
          split at he
          · next l hl=>
            obtain ⟨⟨g0,g1⟩,hK⟩:=he
            obtain ⟨u,r1,r2⟩:=key g0 g1
            have hl:=intsOf_get hl
            have hq:=congrArg (fun l=>l[z.toNat]?) hl
            simp only [List.getElem?_map,List.getElem?_range (show z.toNat<len by omega),Option.map_some] at hq
            cases hlz:l[z.toNat]? with
            |none=>rw [hlz] at hq;cases hq
            |some y=>
             rw [hlz] at hq
             simp only [Option.map_some,Option.some.injEq] at hq
             have hsel:sel l z.toNat=y:=by simp [sel,List.getD_eq_getElem?_getD,hlz]
             exact ⟨_,u,r1,by rw [hsel,←hq];exact r2,hK⟩
          · exact he.elim
        · exact he.elim
      · exact he.elim
    · exact he.elim
  · exact he.elim
theorem intO_run {d:Int} {lo:Option Operand} {z:Int} (h:Cx P w ω ρ M a) (hl:intO d (lo.map ρ)=some z):
    (lo=none∧z=d)∨ ∃x k,lo=some x∧a.eval x= .int k z:=by
  cases lo with
  |none=>simp [intO] at hl;exact .inl ⟨rfl,hl.symm⟩
  |some x=>
   have hx:=h.val x
   simp only [Option.map_some,intO] at hl
   split at hl
   · next e=>cases e
   · next k z' e=>
     obtain rfl:=Option.some.inj hl
     have e:=Option.some.inj e
     rw [e] at hx
     exact .inr ⟨x,k,rfl,hx⟩
   · cases hl
theorem bounds_run (h:Cx P w ω ρ M a) {lo hi:Option Operand} {l hh:Int} {n cap:Nat} {sl:Bool} (hl:intO 0 (lo.map ρ)=some l) (hhi:intO n (hi.map ρ)=some hh) (g0:0≤l) (g1:l≤hh) (g2:hh≤n) (hcap:n≤cap):
    (Instr.sliceBounds sl n cap (lo.map a.eval) (hi.map a.eval) none).run P w= .ok (l.toNat,hh.toNat,cap) w:=by
  rcases intO_run h hl with ⟨rfl,rfl⟩|⟨y,k,rfl,ey⟩<;>rcases intO_run h hhi with ⟨rfl,rfl⟩|⟨y2,k2,rfl,ey2⟩
  · simp [Instr.sliceBounds]
  · simp [Instr.sliceBounds,Instr.sliceBound,ey2,asIntOf,Result.andThen,show (0:Int)≤hh by omega,show hh≤cap by omega]
  · simp [Instr.sliceBounds,Instr.sliceBound,ey,asIntOf,Result.andThen,g0,show l≤n by omega]
  · simp [Instr.sliceBounds,Instr.sliceBound,ey,ey2,asIntOf,Result.andThen,g0,show (0:Int)≤hh by omega,show hh≤cap by omega,show l≤max hh 0 by omega]
theorem slice_ok (h:Cx P w ω ρ M a) {o:Oper} {T:TypeId} {x:Operand} {lo hi:Option Operand} {K:SV→Prop} (ho:o.op= .slice T x lo hi none)
    (he:(evSlice P T (ρ x) (lo.map ρ) (hi.map ρ) (ent M)).run K):PureOK P w ω a o K:=by
  have hx:=h.val x
  unfold evSlice at he
  split at he
  · next E q sz n f hu hs=>
    rw [hs] at hx
    split at he
    · next i l hh hi' hl hhi=>
      split at he
      · next hsz=>
        have hsz:=Nat.eq_of_beq_eq_true hsz
        obtain ⟨⟨g0,g1,g2⟩,hK⟩:=he
        obtain ⟨p,cap,ex,hcap,hml,hj⟩:=hx
        have hs1:(sizeOf E).run P w= .ok i.size w:=by simp [sizeOf,run_typeInfo w hi',Result.andThen]
        have hb:=bounds_run (P:=P) (sl:=true) h hl hhi g0 g1 g2 hcap
        refine ⟨.sl q sz (hh.toNat -l.toNat) fun i j=>f (l.toNat+i) j,.slice (if cap=l.toNat then p else p.map (·.add (l.toNat*i.size))) (hh.toNat -l.toNat) (cap -l.toNat),?_,?_,hK⟩
        · simp only [execOp,ho,ex,Instr.sliceAt,Instr.slice,Sem.run_bind,run_underlying hu,Result.andThen_ok,Option.map_none,hb,hs1]
          rfl
        · refine ⟨_,_,rfl,by omega,by omega,?_⟩
          by_cases hz:hh.toNat -l.toNat=0
          · exact .inl hz
          · right
            have hc:cap≠l.toNat:=by omega
            obtain ⟨ad,rfl,hk⟩:=hj.resolve_left (by omega)
            refine ⟨ad.add (l.toNat*i.size),by simp [hc],fun i' hi' j hj'=>?_⟩
            obtain ⟨u,e1,e2,e3⟩:=hk (l.toNat+i') (by omega) j hj'
            refine ⟨u,?_,by rw [add_block];exact e2,e3⟩
            rw [add_add,show l.toNat*i.size+(i'*sz+j)=(l.toNat+i')*sz+j by rw [hsz,Nat.add_mul];omega]
            exact e1
      · exact he.elim
    · exact he.elim
  · next E k st p e n hu hs=>
    rw [hs] at hx
    split at he
    · next i l hh hi' hl hhi=>
      split at he
      · next r hok hr=>
        split at he
        · next hsz=>
          have hsz:=Nat.eq_of_beq_eq_true hsz
          obtain ⟨⟨g0,g1,g2⟩,hK⟩:=he
          have e0:st=Sy.st ω.cur k p:=by
            rw [h.mem.cur]
            cases p with
            |none=>exact Nat.eq_of_beq_eq_true hok
            |some _=>exact Nat.eq_of_beq_eq_true hok
          rcases hx with hx|⟨_,q,cap,ex,hcap,hml,hx⟩
          · omega
          have hs1:(sizeOf E).run P w= .ok i.size w:=by simp [sizeOf,run_typeInfo w hi',Result.andThen]
          have hb:=bounds_run (P:=P) (sl:=true) h hl hhi g0 g1 g2 hcap
          refine ⟨.slc k st p (e+l.toNat) (hh.toNat -l.toNat),.slice (if cap=l.toNat then q else q.map (·.add (l.toNat*i.size))) (hh.toNat -l.toNat) (cap -l.toNat),?_,Or.inr ⟨e0,_,_,rfl,by omega,by omega,?_⟩,hK⟩
          · simp only [execOp,ho,ex,Instr.sliceAt,Instr.slice,Sem.run_bind,run_underlying hu,Result.andThen_ok,Option.map_none,hb,hs1]
            rfl
          · by_cases hc:cap=l.toNat
            · left;omega
            · right
              rcases hx with hx|⟨L,hL,rfl,hx2,hx3⟩
              · omega
              obtain ⟨r',y1,y2,y3,_⟩:=h.mem.row _ _ _ hL
              obtain rfl:r=r':=Option.some.inj (hr.symm.trans y1)
              refine ⟨L,hL,?_,?_,by omega⟩
              · simp [hc,add_mk,hsz,y2,Nat.add_mul,Nat.add_assoc]
              · rw [show e+l.toNat+(cap -l.toNat)=e+cap by omega];exact hx2
        · exact he.elim
      · exact he.elim
    · exact he.elim
  · next len E k st p ii j hu hs=>
    rw [hs] at hx
    split at he
    · next i hi' hl hhi hok=>
      split at he
      · next h1 h2 h3=>
        have h2:0<len:=Nat.le_of_ble_eq_true h2
        have h3:len≤1000000:=Nat.le_of_ble_eq_true h3
        obtain ⟨e0,L,hL,hc,ex⟩:=okRef_at h.mem hok hx
        have hl:lo=none:=by cases lo<;>simp at hl;rfl
        have hh:hi=none:=by cases hi<;>simp at hhi;rfl
        subst hl;subst hh
        refine ⟨.sa k st p ii j len,.slice (some ⟨L.b,L.o+ii*L.sz+j,none⟩) len len,?_,Or.inr ⟨e0,L,hL,hc,by unfold maxLen;omega,rfl⟩,he⟩
        have hs1:(sizeOf E).run P w= .ok i.size w:=by simp [sizeOf,run_typeInfo w hi',Result.andThen]
        simp [execOp,ho,ex,Instr.sliceAt,Instr.sureAddr,Instr.sliceBounds,run_underlying hu,hs1,Result.andThen,Addr.add]
      · exact he.elim
    · exact he.elim
  · next s hu hs=>
    rw [hs] at hx
    have ex:a.eval x= .string s:=hx
    split at he
    · next l hh hl hhi=>
      obtain ⟨⟨g0,g1,g2⟩,hK⟩:=he
      have hb:=bounds_run (P:=P) (sl:=false) h hl hhi g0 g1 g2 (Nat.le_refl _)
      refine ⟨.v (.string (s.extract l.toNat hh.toNat)),.string (s.extract l.toNat hh.toNat),?_,rfl,hK⟩
      simp only [execOp,ho,ex,Instr.sliceAt,Instr.slice,Sem.run_bind,run_underlying hu,Result.andThen_ok,Option.map_none,Option.isSome_none,Bool.false_eq_true,if_false,hb]
      rfl
    · exact he.elim
  · exact he.elim
theorem mkFunc_ok (h:Cx P w ω ρ M a) {o:Oper} {fn:Fn} {first caps:Array Operand} {K:SV→Prop} (ho:o.op= .makeFunc fn first caps)
    (he:(evMkFunc fn (first.toList.map ρ) (caps.toList.map ρ)).run K):PureOK P w ω a o K:=by
  unfold evMkFunc at he
  split at he
  · next id hf=>
    have hf:first= #[]:=by
      obtain ⟨l⟩:=first
      simpa using hf
    refine ⟨.fn id (caps.toList.map ρ).length (lsv (caps.toList.map ρ)),.func (.func id) #[] (caps.map a.eval),by simp [execOp,ho,Instr.makeFunc,hf],⟨_,rfl,by simp,fun j hj=>?_⟩,he⟩
    have hj:j<caps.size:=by simpa using hj
    exact ⟨a.eval caps[j],by simp [hj],by
      have:=h.val caps[j]
      simpa [lsv,List.getD_eq_getElem?_getD,hj] using this⟩
  · next id s hf=>
    split at he
    · next hc=>
      have hc:caps= #[]:=by
        obtain ⟨l⟩:=caps
        simpa using hc
      obtain ⟨l⟩:=first
      match l,hf with
      | [x],hf=>
        have hf:ρ x=s:=by simpa using hf
        subst hf
        exact ⟨.bm id (ρ x),.func (.func id) #[a.eval x] #[],by simp [execOp,ho,Instr.makeFunc,hc],⟨_,rfl,h.val x⟩,he⟩
    · exact he.elim
  · next nm s hf=>
    split at he
    · next hc=>
      have hc:caps= #[]:=by
        obtain ⟨l⟩:=caps
        simpa using hc
      obtain ⟨l⟩:=first
      match l,hf with
      | [x],hf=>
        have hf:ρ x=s:=by simpa using hf
        subst hf
        exact ⟨.mv nm (ρ x),.func (.method nm) #[a.eval x] #[],by simp [execOp,ho,Instr.makeFunc,hc],⟨_,rfl,h.val x⟩,he⟩
    · exact he.elim
  · exact he.elim
theorem ref_one (hm:MemOK w ω M) {k s:Nat} {p:Path} {R:Loc→Prop} (h:okRef (ent M) k s p=true) (ha:At ω k s p R) {u:Value} (hu: ∀L,R L→u.cells= #[u]):u.cells= #[u]:=by
  obtain ⟨_,L,_,hR⟩:=okRef_at hm h ha
  exact hu L hR
theorem okRef_st (hm:MemOK w ω M) {k s:Nat} {p:Path} (h:okRef (ent M) k s p=true):s=st ω.cur k p:=by
  rw [hm.cur]
  cases p with
  |none=>exact Nat.eq_of_beq_eq_true h
  |some _=>exact Nat.eq_of_beq_eq_true h
theorem cellsSV_den (hm:MemOK w ω M) {s:SV} {u:Value} {l:List SV} (h:cellsSV (ent M) s=some l) (hd:Den w ω s u):DenL w ω l u.cells.toList:=by
  have one: ∀{s:SV},Den w ω s u→u.cells= #[u]→DenL w ω [s] u.cells.toList:=fun h e=>by rw [e];exact ⟨h,trivial⟩
  cases s with
  |es=>
   obtain rfl:=Option.some.inj h
   have hd':=hd
   obtain ⟨p,rfl⟩:=hd'
   exact one hd rfl
  |ag n f=>
   obtain rfl:=Option.some.inj h
   obtain ⟨cs,rfl,hn,hj⟩:=hd
   refine DenL.mk (by simp [Value.cells,hn]) fun i hi=>?_
   obtain ⟨x,h1,h2⟩:=hj i (by simpa using hi)
   have hi':i<n:=by simpa using hi
   refine ⟨x,by simpa [Value.cells] using h1,?_⟩
   rw [List.getD_eq_getElem?_getD,List.getElem?_map,List.getElem?_range hi']
   exact h2
  |v x=>
   have hd':=hd
   obtain rfl:u=x:=hd'
   cases u with
   |agg cs=>
    obtain rfl:=Option.some.inj h
    refine DenL.mk (by simp [Value.cells]) fun i hi=>?_
    have hi':i<cs.size:=by simpa using hi
    refine ⟨cs[i],by simp [Value.cells,hi'],?_⟩
    rw [List.getD_eq_getElem?_getD,List.getElem?_map]
    simp [hi',Den]
   |tuple cs=>cases h
   |_=>obtain rfl:=Option.some.inj h;exact one hd rfl
  |junk=>cases h
  |tp n f=>cases h
  |il sz n f=>cases h
  |ptr k st p i j=>
   simp only [cellsSV] at h
   split at h
   · next hok=>obtain rfl:=Option.some.inj h;exact one hd (ref_one hm hok hd fun L hR=>by rw [hR.2];rfl)
   · cases h
  |pe k st p i j len z=>
   simp only [cellsSV] at h
   split at h
   · next hok=>obtain rfl:=Option.some.inj h;exact one hd (ref_one hm hok hd fun L hR=>by rw [hR.2.2];rfl)
   · cases h
  |sa k st p i j n=>
   simp only [cellsSV] at h
   split at h
   · next hok=>obtain rfl:=Option.some.inj h;exact one hd (ref_one hm hok hd fun L hR=>by rw [hR.2.2];rfl)
   · cases h
  |slc k st p e n=>
   simp only [cellsSV] at h
   split at h
   · next hok=>
     obtain rfl:=Option.some.inj h
     have e0:=okRef_st hm hok
     refine one hd ?_
     rcases hd with hd|⟨_,q,cap,rfl,_⟩
     · omega
     · rfl
   · cases h
  |bl b=>obtain rfl:=Option.some.inj h;exact one hd (by obtain rfl:=hd;rfl)
  |pt q n f=>obtain rfl:=Option.some.inj h;exact one hd (by obtain ⟨_,rfl,_⟩:=hd;rfl)
  |sl q sz n f=>obtain rfl:=Option.some.inj h;exact one hd (by obtain ⟨_,_,rfl,_⟩:=hd;rfl)
  |pa q sz n f=>obtain rfl:=Option.some.inj h;exact one hd (by obtain ⟨_,rfl,_⟩:=hd;rfl)
  |fn id n f=>obtain rfl:=Option.some.inj h;exact one hd (by obtain ⟨_,rfl,_⟩:=hd;rfl)
  |bm id s=>obtain rfl:=Option.some.inj h;exact one hd (by obtain ⟨_,rfl,_⟩:=hd;rfl)
  |mv nm s=>obtain rfl:=Option.some.inj h;exact one hd (by obtain ⟨_,rfl,_⟩:=hd;rfl)
  |ic t s=>obtain rfl:=Option.some.inj h;exact one hd (by obtain ⟨_,rfl,_⟩:=hd;rfl)
  |er t tf e at_=>obtain rfl:=Option.some.inj h;exact one hd (by rcases hd with ⟨_,_,rfl⟩|⟨_,_,rfl⟩|⟨_,_,_,rfl,_⟩<;>rfl)
theorem setMany_den: ∀(cs:List SV) (vs:List Value),DenL w ω cs vs→ ∀(off:Nat) (l:List SV) (m:Array Value),DenL w ω l m.toList→
    DenL w ω (setMany l off cs) (((vs.zipIdx off).foldl (fun (m:Array Value) (p:Value×Nat)=>m.setIfInBounds p.2 p.1) m).toList)
  | [],[],_,_,_,_,h=>by simpa [setMany] using h
  |c::r,v::t,⟨h1,h2⟩,off,l,m,h=>by
   simp only [setMany,List.zipIdx_cons,List.foldl_cons]
   exact setMany_den r t h2 (off+1) _ _ (by rw [Array.toList_setIfInBounds];exact h.set h1 off)
  | [],_::_,hd,_,_,_,_=>hd.elim
  |_::_,[],hd,_,_,_,_=>hd.elim
theorem zipIdx_shift (l:List Value): ∀(k off:Nat) (m:Array Value),(l.zipIdx k).foldl (fun (m:Array Value) (p:Value×Nat)=>m.setIfInBounds (off+p.2) p.1) m=(l.zipIdx (off+k)).foldl (fun (m:Array Value) (p:Value×Nat)=>m.setIfInBounds p.2 p.1) m:=by
  induction l with
  |nil=>intros;rfl
  |cons v t ih=>intro k off m;simp only [List.zipIdx_cons,List.foldl_cons];rw [ih];rfl
theorem fill_den (hm:MemOK w ω M) {place:Nat→Option (Nat×Nat)}: ∀(ps:List (Nat×SV)) (vs:List (Nat×Value)),ps.length=vs.length→(∀(i:Nat) (s:Nat×SV),ps[i]? =some s→ ∃u,vs[i]? =some (s.1,u)∧Den w ω s.2 u)→
    ∀(l l':List SV) (m:Array Value),DenL w ω l m.toList→fillSV (ent M) place l ps=some l'→ ∃m',Instr.fill place m vs=some m'∧DenL w ω l' m'.toList
  | [],[],_,_,l,l',m,h,e=>by
    simp [fillSV] at e;subst e
    exact ⟨m,rfl,h⟩
  | [],_::_,hl,_,_,_,_,_,_=>by simp at hl
  |_::_,[],hl,_,_,_,_,_,_=>by simp at hl
  |(k,s)::r,(k',v)::t,hl,hp,l,l',m,h,e=>by
   obtain ⟨u,e1,hu⟩:=hp 0 (k,s) rfl
   simp at e1
   obtain ⟨rfl,rfl⟩:=e1
   unfold fillSV at e
   split at e
   · next off size cs hpl hcs=>
     split at e
     · next h1 h2=>
       have h1:=Nat.eq_of_beq_eq_true h1
       have h2:=Nat.le_of_ble_eq_true h2
       have hd:=cellsSV_den hm hcs hu
       have hlen:=hd.len
       have hml:=h.len
       have hsz:v.cells.size=size:=by rw [←Array.length_toList,←hlen,h1]
       have hgo:Instr.fill place m ((k',v)::t)=Instr.fill place (v.cells.zipIdx.foldl (fun cs (p:Value×Nat)=>cs.setIfInBounds (off+p.2) p.1) m) t:=by
         simp only [Instr.fill,hpl]
         rw [if_neg]
         simp only [Bool.or_eq_true,decide_eq_true_eq,not_or,hsz]
         simp at hml
         refine ⟨by simp,by omega⟩
       rw [hgo]
       refine fill_den hm r t (by simpa using hl) (fun i s hs=>hp (i+1) s (by simpa using hs)) _ l' _ ?_ e
       rw [←Array.foldl_toList,Array.toList_zipIdx,zipIdx_shift]
       exact setMany_den cs _ hd off l m h
     · cases e
   · cases e
theorem den_vs (l:List Value):DenL w ω (l.map .v) l:=by
  induction l with
  |nil=>trivial
  |cons x r ih=>exact ⟨rfl,ih⟩
theorem build_ok (h:Cx P w ω ρ M a) {o:Oper} {T:TypeId} {parts:Array (Nat×Operand)} {K:SV→Prop} (ho:o.op= .build T parts)
    (he:(evBuild P T (parts.toList.map fun p=>(p.1,ρ p.2)) (ent M)).run K):PureOK P w ω a o K:=by
  have hparts: ∀(i:Nat) (s:Nat×SV),(parts.toList.map fun p=>(p.1,ρ p.2))[i]? =some s→ ∃u,(parts.toList.map fun p=>(p.1,a.eval p.2))[i]? =some (s.1,u)∧Den w ω s.2 u:=by
    intro i s hs
    rw [List.getElem?_map] at hs
    cases hp:parts.toList[i]? with
    |none=>rw [hp] at hs;cases hs
    |some p=>
     rw [hp] at hs
     obtain rfl:=Option.some.inj hs
     exact ⟨a.eval p.2,by rw [List.getElem?_map,hp];rfl,h.val p.2⟩
  have fin: ∀{place:Nat→Option (Nat×Nat)} {z:Value} {l:List SV},fillSV (ent M) place (z.cells.toList.map .v) (parts.toList.map fun p=>(p.1,ρ p.2))=some l→
   ∃m,Instr.fill place z.cells (parts.toList.map fun p=>(p.1,a.eval p.2))=some m∧Den w ω (.ag l.length (lsv l)) (.agg m):=by
    intro place z l hl
    obtain ⟨m,h1,h2⟩:=fill_den h.mem _ _ (by simp) hparts _ _ _ (den_vs z.cells.toList) hl
    refine ⟨m,h1,m,rfl,by simpa using h2.len.symm,fun j hj=>?_⟩
    obtain ⟨x,e1,e2⟩:=h2.get? j hj
    exact ⟨x,by simpa using e1,e2⟩
  unfold evBuild at he
  split at he
  · next i fs hi hu=>
    split at he
    · next z pl hz hpl=>
      split at he
      · next l hl=>
        obtain ⟨m,h1,h2⟩:=fin hl
        refine ⟨_,.agg m,?_,h2,he⟩
        have hzv:(zeroValue T).run P w= .ok z w:=by simp [zeroValue,run_typeInfo w hi,hz,Result.andThen]
        simp [execOp,ho,Instr.build,hzv,run_underlying hu,Array.mapM_eq_mapM_toList,run_places w _ _ hpl,h1]
      · exact he.elim
    · exact he.elim
  · next i len E hi hu=>
    split at he
    · next z ie hz hie=>
      split at he
      · next l hl=>
        obtain ⟨m,h1,h2⟩:=fin hl
        refine ⟨_,.agg m,?_,h2,he⟩
        have hzv:(zeroValue T).run P w= .ok z w:=by simp [zeroValue,run_typeInfo w hi,hz,Result.andThen]
        have hs:(sizeOf E).run P w= .ok ie.size w:=by simp [sizeOf,run_typeInfo w hie,Result.andThen]
        simp only [execOp,ho,Instr.build,Sem.run_bind,hzv,run_underlying hu,Result.andThen_ok,hs]
        simp [h1]
      · exact he.elim
    · exact he.elim
  · exact he.elim
end
end Go.Sy
set_option linter.unusedVariables false
set_option linter.unusedSimpArgs false
namespace Go.Sy
open Go.RowKit
def evBin2 (P:Program) (sg:Bool) (op:BinOp) (T:TypeId) (y:Operand) (s t:SV):R:=
  match s with
  | .ag _ _=>evAgg P op T s t
  |_=>evBin P sg op T y s t
def evP (P:Program) (sg:Bool) (ρ:Operand→SV) (m:Nat→Ent) (op:Op):R:=
  match op with
  | .move x| .assign x=> .ok (ρ x)
  | .load T x=>evLoad P T (ρ x) m
  | .fieldAddr S x j=>evField P S (ρ x) j m
  | .indexAddr T x y=>evIndex P T (isC y) (ρ x) (ρ y) m
  | .binOp op T x y _=>evBin2 P sg op T y (ρ x) (ρ y)
  | .unOp op _ x=>evUn sg op (ρ x)
  | .convert S D x=>evConv P sg S D (ρ x)
  | .makeInterface T x=>evMkIface P T (ρ x)
  | .extract x i=>evExtract (ρ x) i
  | .nilCheck x=>evNilCheck P (ρ x) m
  | .field T x j=>evPart P T (ρ x) j
  | .index T x y=>evAt P T (isC y) (ρ x) (ρ y)
  | .slice T x lo hi none=>evSlice P T (ρ x) (lo.map ρ) (hi.map ρ) m
  | .makeFunc fn first caps=>evMkFunc fn (first.toList.map ρ) (caps.toList.map ρ)
  | .build T parts=>evBuild P T (parts.toList.map fun p=>(p.1,ρ p.2)) m
  | .call {callee:= .builtin .len,args:=⟨[x]⟩,argTypes:=⟨[T]⟩}=>evLen P T (ρ x) m
  | .call {callee:= .builtin .max,args:=⟨[x,y]⟩,argTypes:=_}=>evMax true [ρ x,ρ y]
  | .call {callee:= .builtin .min,args:=⟨[x,y]⟩,argTypes:=_}=>evMax false [ρ x,ρ y]
  |_=> .bad
section
variable {P:Program} {w:World} {ω:Ow} {ρ:Operand→SV} {M:Mem} {a:Act}
theorem evP_ok (h:Cx P w ω ρ M a) {sg:Bool} {o:Oper} {K:SV→Prop} (he:(evP P sg ρ (ent M) o.op).run K):PureOK P w ω a o K:=by
  cases ho:o.op<;>rw [ho] at he<;>unfold evP at he<;>try exact he.elim
  case move x=>exact ⟨_,_,by simp [execOp,ho],h.val x,he⟩
  case assign x=>exact ⟨_,_,by simp [execOp,ho],h.val x,he⟩
  case load T x=>exact load_ok h ho he
  case fieldAddr S x j=>exact field_ok h ho he
  case indexAddr T x y=>exact index_ok h ho he
  case binOp op T x y T'=>
    simp only [evBin2] at he
    split at he
    · next n f hs=>exact agg_ok h ho (by simpa only [hs] using he)
    · exact bin_ok h ho he
  case unOp op T x=>exact un_ok h ho he
  case convert S D x=>exact conv_ok h ho he
  case makeInterface T x=>exact mkIface_ok h ho he
  case extract x i=>exact extract_ok h ho he
  case nilCheck x=>exact nilCheck_ok h ho he
  case field T x j=>exact part_ok h ho he
  case index T x y=>exact at_ok h ho he
  case slice T x lo hi mx=>
    cases mx with
    |none=>exact slice_ok h ho he
    |some _=>exact he.elim
  case makeFunc fn first caps=>exact mkFunc_ok h ho he
  case build T parts=>exact build_ok h ho he
  case call c=>
    split at he
    all_goals first|exact he.elim|(next e=>cases e;done)|skip
    · next x T e=>cases e;exact len_ok h ho he
    · next x y ts e=>cases e;exact max_ok (mx:=true) h ho he
    · next x y ts e=>cases e;exact max_ok (mx:=false) h ho he
/-! ### one cell is stored -/
abbrev Upd:=List (Nat×Ent)
def ov:Upd→(Nat→Ent)→Nat→Ent
  | [],m,k=>m k
  |p::r,m,k=>match Nat.beq p.1 k with|true=>p.2|false=>ov r m k
theorem ov_ent (u:Upd) (M:Mem):ov u (ent M)=ent (u++M):=by
  funext k
  induction u with
  |nil=>rfl
  |cons p r ih=>simp only [ov,List.cons_append,ent,ih];cases Nat.beq p.1 k<;>rfl
def killU (m:Nat→Ent) (k:Nat):Upd:= [(k,⟨(m k).rs+1,(m k).ds+1,none,.dead⟩)]
def freshU (m:Nat→Ent) (k:Nat) (b:Blk):Upd:= [(k,⟨(m k).rs,(m k).ds,none,b⟩)]
def punchU (m:Nat→Ent) (k i j:Nat):Upd:= [(k,⟨(m k).rs,(m k).ds+1,some (i,j),(m k).b⟩)]
def setU (m:Nat→Ent) (k:Nat) (b:Blk):Upd:= [(k,{m k with b:=b})]
def fillU (m:Nat→Ent) (k i j r sz n:Nat) (f:Nat→Nat→SV) (sz2 n2:Nat) (g:Nat→Nat→SV):Upd:=
  (k,⟨(m k).rs,(m k).ds+1,none,.row sz n ((⟨sz,n,f⟩:Row).set i j (.il sz2 n2 g)).f⟩)::killU m r
def dropU (m:Nat→Ent) (nx k i j sz2 n2:Nat) (g:Nat→Nat→SV):Upd:=
  let u1:=freshU (ov (punchU m k i j) m) nx (.row sz2 n2 fun a b=>flatS (g a b))++punchU m k i j
  killU (ov u1 m) nx++u1
def isDead:Blk→Bool
  | .dead=>true
  |_=>false
def freeB (m:Nat→Ent) (k:Nat):Bool:=match isDead (m k).b,(m k).hl with|true,none=>true|_,_=>false
def oneSV (m:Nat→Ent):SV→Bool
  | .v (.agg _)| .v (.tuple _)| .junk| .ag _ _| .tp _ _| .il _ _ _=>false
  | .ptr k st p _ _=>okRef m k st p
  | .pe k st p _ _ _ _=>okRef m k st p
  | .slc k st p _ _=>okRef m k st p
  | .sa k st p _ _ _=>okRef m k st p
  |_=>true
def storeSl (m:Nat→Ent) (nx k i j sz n:Nat) (f:Nat→Nat→SV) (r sz2 n2:Nat) (g:Nat→Nat→SV):Option (Prop×Upd):=
  match (m k).hl with
  |none=>
   match f i j with
   | .il szo no go=>
     match Nat.beq szo sz2,Nat.beq nx k,Nat.beq nx r,freeB m nx with
     |true,false,false,true=>
      let u1:=dropU m nx k i j szo no go
      some (∀i',isIlz sz2 (f i' j)=true,fillU (ov u1 m) k i j r sz n f sz2 n2 g++u1)
     |_,_,_,_=>none
   |_=>none
  |some (i0,j0)=>
   match Nat.beq j0 j with
   |true=>some (i0=i∧ ∀i',isIlz sz2 (f i' j)=true,fillU m k i j r sz n f sz2 n2 g)
   |false=>none
def isNilSl:SV→Bool
  | .v (.slice none 0 0)=>true
  | .es=>true
  |_=>false
def store1 (m:Nat→Ent) (nx k:Nat) (p:Path) (i j:Nat) (v:SV):Option (Prop×Upd):=
  match (m k).b,p with
  | .cells l,none=>match Nat.blt j l.length,oneSV m v with|true,true=>some (True,setU m k (.cells (l.set j v)))|_,_=>none
  | .row sz n f,none=>
    match Nat.blt j sz,isIl (f i j) with
    |true,false=>match oneSV m v with|true=>some (∀i',isIl (f i' j)=false,setU m k (.row sz n ((⟨sz,n,f⟩:Row).set i j v).f))|false=>none
    |true,true=>
     match v with
     | .slc r s none e n2=>
       match okRef m r s none,Nat.beq e 0,Nat.beq k r,(m r).b with
       |true,true,false,.row sz2 _ g=>storeSl m nx k i j sz n f r sz2 n2 g
       |_,_,_,_=>none
     |v=>
      match isNilSl v,f i j,Nat.beq (nx+1) k,freeB m (nx+1) with
      |true,.il sz2 _ g0,false,true=>
       let u0:=freshU m (nx+1) (.row sz2 0 g0)
       match storeSl (ov u0 m) nx k i j sz n f (nx+1) sz2 0 g0 with
       |some (pr,u)=>some (pr,u++u0)
       |none=>none
      |_,_,_,_=>none
    |_,_=>none
  | .row sz n f,some (i0,j0)=>
    match f i0 j0 with
    | .il sz2 n2 g=>match Nat.blt j sz2,oneSV m v with|true,true=>some (∀i',isIlz sz2 (f i' j0)=true,setU m k (.row sz n ((⟨sz,n,f⟩:Row).set i0 j0 (.il sz2 n2 ((⟨sz2,n2,g⟩:Row).set i j v).f)).f))|_,_=>none
    |_=>none
  |_,_=>none
theorem freeB_ok (hm:MemOK w ω M) {k:Nat} (h:freeB (ent M) k=true) (hβ: ∀p,ω.β k p=none):Free ω M k:=by
  unfold freeB at h
  split at h
  · next h1 h2=>
    refine ⟨?_,h2,hβ⟩
    cases hb:(ent M k).b with
    |dead=>rfl
    |cells l=>rw [hb] at h1;cases h1
    |row a b c=>rw [hb] at h1;cases h1
  · cases h
theorem dead_none (hm:MemOK w ω M) {k:Nat} (h:(ent M k).b= .dead) (p:Path):ω.β k p=none:=by
  cases hb:ω.β k p with
  |none=>rfl
  |some L=>
   obtain ⟨r,h1,_⟩:=hm.row k p L hb
   unfold rowAt at h1
   rw [h] at h1
   cases p with
   |none=>cases h1
   |some ij=>obtain ⟨i,j⟩:=ij;cases h1
theorem freeB_free (hm:MemOK w ω M) {k:Nat} (h:freeB (ent M) k=true):Free ω M k:=by
  refine freeB_ok hm h fun p=>dead_none hm ?_ p
  unfold freeB at h
  split at h
  · next h1 h2=>
    cases hb:(ent M k).b with
    |dead=>rfl
    |cells l=>rw [hb] at h1;cases h1
    |row a b c=>rw [hb] at h1;cases h1
  · cases h
theorem beq_false {a b:Nat} (h:Nat.beq a b=false):a≠b:=fun e=>by subst e;rw [Nat.beq_refl] at h;cases h
theorem oneSV_one (hm:MemOK w ω M) {s:SV} {u:Value} (h:oneSV (ent M) s=true) (hd:Den w ω s u):u.oneCell'=true:=by
  have ref: ∀{k s:Nat} {p:Path} {R:Loc→Prop},okRef (ent M) k s p=true→At ω k s p R→(∀L,R L→u.oneCell'=true)→u.oneCell'=true:=by
    intro k s p R h1 h2 h3
    obtain ⟨_,L,_,hR⟩:=okRef_at hm h1 h2
    exact h3 L hR
  cases s with
  |junk=>cases h
  |v x=>obtain rfl:=hd;cases u<;>first|rfl|cases h
  |bl b=>obtain rfl:=hd;rfl
  |es=>obtain ⟨p,rfl⟩:=hd;rfl
  |ptr k s p i j=>exact ref h hd fun L hR=>by rw [hR.2];rfl
  |pe k s p i j len z=>exact ref h hd fun L hR=>by rw [hR.2.2];rfl
  |sa k s p i j n=>exact ref h hd fun L hR=>by rw [hR.2.2];rfl
  |slc k s p e n=>
   have e0:=okRef_st hm h
   rcases hd with hd|⟨_,q,cap,rfl,_⟩
   · omega
   · rfl
  |pt q n f=>obtain ⟨_,rfl,_⟩:=hd;rfl
  |sl q sz n f=>obtain ⟨_,_,rfl,_⟩:=hd;rfl
  |pa q sz n f=>obtain ⟨_,rfl,_⟩:=hd;rfl
  |il sz n f=>cases h
  |ag n f=>cases h
  |tp n f=>cases h
  |fn id n f=>obtain ⟨_,rfl,_⟩:=hd;rfl
  |bm id s=>obtain ⟨_,rfl,_⟩:=hd;rfl
  |mv nm s=>obtain ⟨_,rfl,_⟩:=hd;rfl
  |ic t s=>obtain ⟨_,rfl,_⟩:=hd;rfl
  |er t tf e at_=>rcases hd with ⟨_,_,rfl⟩|⟨_,_,rfl⟩|⟨_,_,_,rfl,_⟩<;>rfl
theorem oneSV_notIl {m:Nat→Ent} {s:SV} (h:oneSV m s=true):isIl s=false:=by cases s<;>first|rfl|cases h
def StoreOK (w:World) (ω:Ow) (M:Mem) (w':World) (k:Nat) (p:Path) (u:Upd):Prop:=
  ∃ω',Stp w ω M w' ω' (u++M)∧ω'.β k p=ω.β k p
theorem storeSl_ok (hm:MemOK w ω M) {nx k i j sz n:Nat} {f:Nat→Nat→SV} {r sz2 n2 nr:Nat} {g:Nat→Nat→SV} (hb:(ent M k).b= .row sz n f) (hkr:k≠r) (hr:(ent M r).b= .row sz2 nr g)
    {pr:Prop} {u:Upd} (he:storeSl (ent M) nx k i j sz n f r sz2 n2 g=some (pr,u)) (hp:pr) {x:Value} (hx:Head ω r none 0 n2 x) {L:Loc} (hL:ω.β k none=some L) (hi:i<L.cnt) (hj:j<sz):
    StoreOK w ω M (w.setCell ⟨L.b,L.o+i*L.sz+j,none⟩ x) k none u:=by
  unfold storeSl at he
  split at he
  · next hhl=>
    split at he
    · next szo no go hfo=>
      split at he
      · next h1 h2 h3 h4=>
        have h2:=beq_false h2
        have h3:=beq_false h3
        simp only [Option.some.injEq,Prod.mk.injEq] at he
        obtain ⟨rfl,rfl⟩:=he
        have hfree:=freeB_free hm h4
        obtain ⟨ω1,s1,e1,e2,e3⟩:=Stp.detach hm (Ne.symm h2) hfree hhl hb hfo
        obtain ⟨ω2,s2,e4,e5⟩:=Stp.kill s1.mem nx
        have hM2:kill (fresh (punch M k i j) nx (.row szo no fun a b=>flatS (go a b))) nx=dropU (ent M) nx k i j szo no go++M:=by
          have a1:ov (punchU (ent M) k i j) (ent M)=ent (punch M k i j):=by rw [ov_ent];rfl
          have a2:ov (freshU (ov (punchU (ent M) k i j) (ent M)) nx (.row szo no fun a b=>flatS (go a b))++punchU (ent M) k i j) (ent M)=ent (fresh (punch M k i j) nx (.row szo no fun a b=>flatS (go a b))):=by
            rw [ov_ent,a1];rfl
          unfold dropU
          simp only [a2]
          simp only [killU,freshU,a1,punchU,List.cons_append,List.nil_append]
          rfl
        rw [hM2] at s2
        have entK:ent (dropU (ent M) nx k i j szo no go++M) k=⟨(ent M k).rs,(ent M k).ds+1,some (i,j),(ent M k).b⟩:=by
          rw [←hM2,ent_kill_ne h2];unfold fresh;rw [ent_ne h2,ent_punch_eq]
        have entR:ent (dropU (ent M) nx k i j szo no go++M) r=ent M r:=by
          rw [←hM2,ent_kill_ne h3];unfold fresh;rw [ent_ne h3,ent_punch_ne hkr]
        have hLk:ω2.β k none=some L:=by rw [e4 _ _ (Ne.symm h2),e3 _ _ (Ne.symm h2) (by simp)];exact hL
        have hLr:ω2.β r none=ω.β r none:=by rw [e4 _ _ (Ne.symm h3),e3 _ _ (Ne.symm h3) (by simp)]
        have hx2:Head ω2 r none 0 n2 x:=by
          obtain ⟨q,cap,y1,y2,y3,y4⟩:=hx
          exact ⟨q,cap,y1,y2,y3,by rw [hLr];exact y4⟩
        obtain ⟨ω3,s3,e6,e7⟩:=Stp.fill s2.mem hkr (by rw [entK]) (by rw [entK];exact hb) hp (by rw [entR];exact hr) hx2 hLk hi hj
        refine ⟨ω3,?_,?_⟩
        · have:=(s1.trans s2).trans s3
          have hfin:Sy.fill (dropU (ent M) nx k i j szo no go++M) k i j r sz n f sz2 n2 g=fillU (ov (dropU (ent M) nx k i j szo no go) (ent M)) k i j r sz n f sz2 n2 g++dropU (ent M) nx k i j szo no go++M:=by
            rw [ov_ent];rfl
          rw [hfin] at this
          exact this
        · rw [e6 _ _ hkr (by simp),hLk,hL]
      · cases he
    · cases he
  · next i0 j0 hhl=>
    split at he
    · next hjj=>
      have hjj:=Nat.eq_of_beq_eq_true hjj
      simp only [Option.some.injEq,Prod.mk.injEq] at he
      obtain ⟨rfl,rfl⟩:=he
      obtain ⟨rfl,hcol⟩:=hp
      subst hjj
      obtain ⟨ω3,s3,e6,e7⟩:=Stp.fill hm hkr hhl hb hcol hr hx hL hi hj
      exact ⟨ω3,s3,e6 _ _ hkr (by simp)⟩
    · cases he
theorem cells_at (hm:MemOK w ω M) {k:Nat} {l:List SV} (hb:(ent M k).b= .cells l) {L:Loc} (hL:ω.β k none=some L):L.sz=l.length∧L.cnt=1:=by
  obtain ⟨r,e1,e2,e3,_⟩:=hm.row k none L hL
  unfold rowAt at e1
  rw [hb] at e1
  obtain rfl:=Option.some.inj e1
  exact ⟨e2.symm,e3.symm⟩
theorem store1_ok (hm:MemOK w ω M) {nx k:Nat} {p:Path} {i j:Nat} {v:SV} {pr:Prop} {u:Upd} (he:store1 (ent M) nx k p i j v=some (pr,u)) (hp:pr) {x:Value} (hx:Den w ω v x) (h1:x.oneCell'=true)
    {L:Loc} (hL:ω.β k p=some L) (hi:i<L.cnt):j<L.sz∧StoreOK w ω M (w.setCell ⟨L.b,L.o+i*L.sz+j,none⟩ x) k p u:=by
  unfold store1 at he
  split at he
  · next l hb=>
    obtain ⟨c1,c2⟩:=cells_at hm hb hL
    split at he
    · next h2 h3=>
      have h2:j<l.length:=Nat.le_of_ble_eq_true h2
      simp only [Option.some.injEq,Prod.mk.injEq] at he
      obtain ⟨_,rfl⟩:=he
      exact ⟨by omega,ω,Stp.putCells hm hb hL hi h2 (oneSV_notIl h3) hx,rfl⟩
    · cases he
  · next sz n f hb=>
    obtain ⟨r0,e1,e2,e3,_⟩:=hm.row k none L hL
    unfold rowAt at e1
    rw [hb] at e1
    obtain rfl:=Option.some.inj e1
    have e2:sz=L.sz:=e2
    split at he
    · next h2 h3=>
      have h2:j<sz:=Nat.le_of_ble_eq_true h2
      split at he
      · next h4=>
        simp only [Option.some.injEq,Prod.mk.injEq] at he
        obtain ⟨rfl,rfl⟩:=he
        exact ⟨by omega,ω,Stp.putRow hm hb hL hi h2 (oneSV_notIl h4) hx hp,rfl⟩
      · cases he
    · next h2 h3=>
      have h2:j<sz:=Nat.le_of_ble_eq_true h2
      refine ⟨by omega,?_⟩
      split at he
      · next r s e n2=>
        split at he
        · next sz2 nr g h4 h5 h6 h7=>
          have h5:=Nat.eq_of_beq_eq_true h5
          subst h5
          have h6:=beq_false h6
          have e0:=okRef_st hm h4
          rcases hx with hx|⟨_,hx⟩
          · omega
          exact storeSl_ok hm hb h6 h7 he hp hx hL hi h2
        · cases he
      · split at he
        · next sz2 _ g0 h4 h5 h6 h7=>
          have h6:=beq_false h6
          dsimp only at he
          split at he
          · next pr0 u0 hs=>
            simp only [Option.some.injEq,Prod.mk.injEq] at he
            obtain ⟨rfl,rfl⟩:=he
            have hf:=freeB_free hm h7
            have s1:=Stp.dummy hm hf sz2 0 g0
            have hM1:fresh M (nx+1) (.row sz2 0 g0)=freshU (ent M) (nx+1) (.row sz2 0 g0)++M:=rfl
            rw [hM1] at s1
            rw [ov_ent] at hs
            obtain ⟨pn,hnil⟩: ∃pn,x= .slice pn 0 0:=by
              unfold isNilSl at h4
              split at h4
              · exact ⟨none,hx⟩
              · exact hx
              · cases h4
            have entK:ent (freshU (ent M) (nx+1) (.row sz2 0 g0)++M) k=ent M k:=by rw [←hM1];unfold fresh;rw [ent_ne h6]
            have entR:(ent (freshU (ent M) (nx+1) (.row sz2 0 g0)++M) (nx+1)).b= .row sz2 0 g0:=by rw [←hM1];unfold fresh;rw [ent_eq]
            obtain ⟨ω2,s2,e5⟩:=storeSl_ok s1.mem (by rw [entK];exact hb) (Ne.symm h6) entR hs hp (x:=x) ⟨pn,0,hnil,Nat.le_refl _,Nat.zero_le _,.inl rfl⟩ hL hi h2
            refine ⟨ω2,?_,e5⟩
            rw [List.append_assoc]
            exact s1.trans s2
          · cases he
        · cases he
    · cases he
  · next sz n f i0 j0 hb=>
    split at he
    · next sz2 n2 g hg=>
      split at he
      · next h2 h3=>
        have h2:j<sz2:=Nat.le_of_ble_eq_true h2
        simp only [Option.some.injEq,Prod.mk.injEq] at he
        obtain ⟨rfl,rfl⟩:=he
        obtain ⟨r0,e1,e2,e3,_⟩:=hm.row k _ L hL
        unfold rowAt at e1
        rw [hb] at e1
        have e1:inner ⟨sz,n,f⟩ i0 j0=some r0:=e1
        unfold inner at e1
        simp only [hg] at e1
        obtain rfl:=Option.some.inj e1
        have e2:sz2=L.sz:=e2
        exact ⟨by omega,ω,Stp.putInner hm hb hg hL hi h2 (oneSV_notIl h3) hx hp,rfl⟩
      · cases he
    · cases he
  · cases he
def storeU (m:Nat→Ent) (nx k:Nat) (p:Path) (i:Nat):Nat→List SV→Option (Prop×Upd)
  |_,[]=>some (True,[])
  |j,[v]=>store1 m nx k p i j v
  |j,v::r=>
   match store1 m nx k p i j v with
   |some (p1,u1)=>match storeU (ov u1 m) (nx+2) k p i (j+1) r with|some (p2,u2)=>some (p1∧p2,u2++u1)|none=>none
   |none=>none
theorem run_store1 {b off:Nat} {c:Array Value} {T:TypeId} {x:Value} (h:w.heap[b]? =some (Obj.cells c T (0,0))) (hlt:off<c.size) (h1:x.oneCell'=true):(store ⟨b,off,none⟩ x).run P w= .ok () (w.setCell ⟨b,off,none⟩ x):=by
  have hc:w.cell? ⟨b,off,none⟩=some c[off]:=by simp [World.cell?,h,hlt]
  have hf:w.frozen? ⟨b,off,none⟩=false:=by simp [World.frozen?,h]
  cases x<;>first|(cases h1;done)|simp [store,Sem.run,hc,hf]
theorem storeU_ok: ∀(cs:List SV) (us:List Value) {w:World} {ω:Ow} {M:Mem} (hm:MemOK w ω M) {nx k:Nat} {p:Path} {i j:Nat} {pr:Prop} {u:Upd} (he:storeU (ent M) nx k p i j cs=some (pr,u)) (hp:pr) (hx:DenL w ω cs us) (h1: ∀x∈us,x.oneCell'=true)
    {L:Loc} (hL:ω.β k p=some L) (hi:i<L.cnt) {ad:Addr} (q:Nat) (had:ad.add q=⟨L.b,L.o+i*L.sz+j,none⟩),∃w',(storeCells ad us q).run P w= .ok () w'∧StoreOK w ω M w' k p u
  | [],[],w,ω,M,hm,nx,k,p,i,j,pr,u,he,hp,hx,h1,L,hL,hi,ad,q,had=>by
    simp only [storeU,Option.some.injEq,Prod.mk.injEq] at he
    obtain ⟨_,rfl⟩:=he
    exact ⟨w,by simp [storeCells],ω,Stp.refl hm,rfl⟩
  |v::r,x::t,w,ω,M,hm,nx,k,p,i,j,pr,u,he,hp,⟨hx,hxr⟩,h1,L,hL,hi,ad,q,had=>by
   have key: ∀{p1:Prop} {u1:Upd},store1 (ent M) nx k p i j v=some (p1,u1)→p1→(store (ad.add q) x).run P w= .ok () (w.setCell ⟨L.b,L.o+i*L.sz+j,none⟩ x)∧StoreOK w ω M (w.setCell ⟨L.b,L.o+i*L.sz+j,none⟩ x) k p u1:=by
     intro p1 u1 hs hp1
     obtain ⟨hj,hst⟩:=store1_ok hm hs hp1 hx (h1 x (by simp)) hL hi
     obtain ⟨_,_,_,_,c,T,g1,g2,g3,g4⟩:=hm.row _ _ _ hL
     obtain ⟨y,y1,_⟩:=g4 i hi j hj
     rw [had]
     exact ⟨run_store1 g1 (Array.getElem?_eq_some_iff.1 y1).1 (h1 x (by simp)),hst⟩
   cases r with
   |nil=>
    cases t with
    |nil=>
     obtain ⟨r1,hst⟩:=key (by simpa [storeU] using he) hp
     exact ⟨_,by simp [storeCells,r1],hst⟩
    |cons _ _=>exact hxr.elim
   |cons v2 r2=>
    simp only [storeU] at he
    split at he
    · next p1 u1 hs=>
      split at he
      · next p2 u2 hs2=>
        simp only [Option.some.injEq,Prod.mk.injEq] at he
        obtain ⟨rfl,rfl⟩:=he
        obtain ⟨r1,ω1,s1,e1⟩:=key hs hp.1
        rw [ov_ent] at hs2
        have had2:ad.add (q+1)=⟨L.b,L.o+i*L.sz+(j+1),none⟩:=by
          rw [←add_add,had,add_mk];simp [Nat.add_assoc]
        obtain ⟨w',r2',ω2,s2,e2⟩:=storeU_ok (v2::r2) t s1.mem hs2 hp.2 (hxr.ext s1.ext) (fun y hy=>h1 y (by simp [hy])) (e1.trans hL) hi (q+1) had2
        refine ⟨w',by simp [storeCells,r1,r2',Result.andThen],ω2,?_,e2.trans e1⟩
        rw [List.append_assoc]
        exact s1.trans s2
      · cases he
    · cases he
  | [],_::_,_,_,_,_,_,_,_,_,_,_,_,_,_,hx,_,_,_,_,_,_,_=>hx.elim
  |_::_,[],_,_,_,_,_,_,_,_,_,_,_,_,_,hx,_,_,_,_,_,_,_=>hx.elim
end
end Go.Sy
set_option linter.unusedVariables false
set_option linter.unusedSimpArgs false
namespace Go.Sy
open Go.RowKit
section
variable {P:Program} {w:World} {ω:Ow} {ρ:Operand→SV} {M:Mem} {a:Act}
def MemS (P:Program) (w:World) (ω:Ow) (M:Mem) (a:Act) (o:Oper) (s:SV) (u:Upd):Prop:=
  ∃n v w' ω',(execOp a.eval o).run P w= .ok n w'∧(n= .value v∨(n= .skip∧v=undef))∧Stp w ω M w' ω' (u++M)∧Den w' ω' s v
structure New (w:World) (ω:Ow) (w':World) (ω':Ow) (ids:Nat→Prop):Prop where
  cw:Cw w w'
  A: ∀b,ω.A b→ω'.A b
  Z:ω'.Z=ω.Z
  β: ∀k p,¬ids k→ω'.β k p=ω.β k p
  new: ∀k p L,ids k→ω'.β k p=some L→w.heap.size≤L.b
  cur:ω'.cur=ω.cur
def MemN (P:Program) (w:World) (ω:Ow) (M:Mem) (a:Act) (o:Oper) (s:SV) (u:Upd):Prop:=
  ∃n v w' ω',(execOp a.eval o).run P w= .ok n w'∧(n= .value v∨(n= .skip∧v=undef))∧Stp w ω M w' ω' (u++M)∧Den w' ω' s v∧New w ω w' ω' (fun k=>k∈u.map (·.1))
theorem MemN.toS {o:Oper} {s:SV} {u:Upd} (h:MemN P w ω M a o s u):MemS P w ω M a o s u:=by
  obtain ⟨n,v,w',ω',h1,h2,h3,h4,_⟩:=h
  exact ⟨n,v,w',ω',h1,h2,h3,h4⟩
theorem new_add {nx:Nat} {ob:Obj} {L:Loc} {u:Upd} (hb:L.b=w.heap.size) (hf: ∀p,ω.β nx p=none) (hu:u.map (·.1)= [nx]):New w ω (w.alloc ob) (ω.add nx L) (fun k=>k∈u.map (·.1)) where
  cw:=⟨rfl,rfl,rfl,by simp,fun b hb=>Below.heap_alloc _ _ _ hb⟩
  A:=fun b h=> .inl h
  Z:=rfl
  β:=fun k p hk=>by
   show (if k=nx∧p=none then some L else ω.β k p)=_
   rw [if_neg]
   rintro ⟨rfl,_⟩
   rw [hu] at hk
   exact hk (by simp)
  new:=fun k p L' hk h=>by
    have h:(if k=nx∧p=none then some L else ω.β k p)=some L':=h
    rw [hu] at hk
    have hk:k=nx:=by simpa using hk
    subst hk
    split at h
    · obtain rfl:=Option.some.inj h;rw [hb];exact Nat.le_refl _
    · rw [hf] at h;cases h
  cur:=rfl
/-! ### boxes -/
def evBox (m:Nat→Ent) (nx:Nat) (s:SV):Option (Prop×SV×Upd):=
  match cellsSV m s,freeB m nx with
  |some cs,true=>match cs.all fun s=>!isIl s with|true=>some (True,.ptr nx (m nx).rs none 0 0,freshU m nx (.cells cs))|false=>none
  |_,_=>none
def zeroCells (P:Program) (T:TypeId):Option (List SV):=
  match P.info? T with
  |some i=>match i.zero with|some z=>some (z.cells.toList.map .v)|none=>none
  |none=>none
def evAlloc (P:Program) (m:Nat→Ent) (nx:Nat) (T:TypeId):Option (Prop×SV×Upd):=
  match zeroCells P T,freeB m nx with
  |some cs,true=>some (True,.ptr nx (m nx).rs none 0 0,freshU m nx (.cells cs))
  |_,_=>none
def peCell (l:List SV) (j len z:Nat) (kk:IntKind) (x:Int) (zs:List Int) (q:Nat):SV:=
  match Nat.ble j q,Nat.blt q (j+len) with
  |true,true=> .v (.int kk (bif Nat.beq (q -j) z then x else sel zs (q -j)))
  |_,_=>lsv l q
def oneInt:List SV→Option (IntKind×Int)
  | [.v (.int k x)]=>some (k,x)
  |_=>none
theorem oneInt_eq {l:List SV} {k:IntKind} {x:Int} (h:oneInt l=some (k,x)):l= [.v (.int k x)]:=by
  unfold oneInt at h
  split at h
  · simp only [Option.some.injEq,Prod.mk.injEq] at h
    obtain ⟨rfl,rfl⟩:=h;rfl
  · cases h
def evStore (P:Program) (m:Nat→Ent) (nx:Nat) (T:TypeId) (ad s:SV):Option (Prop×SV×Upd):=
  match cellsSV m s,P.info? T with
  |some cs,some i=>
   match Nat.beq cs.length i.size,cs.all (oneSV m) with
   |true,true=>
    match ad with
    | .ptr k st p ii j=>match okRef m k st p with|true=>(match storeU m nx k p ii j cs with|some (pr,u)=>some (pr,.junk,u)|none=>none)|false=>none
    | .pe k st p ii j len z=>
      match okRef m k st p,(m k).b,p,oneInt cs with
      |true,.cells l,none,some (kk,x)=>
       match Nat.ble (j+len) l.length,intsOf kk ((List.range len).map fun q=>lsv l (j+q)) with
       |true,some zs=>some (True,.junk,setU m k (.cells ((List.range l.length).map (peCell l j len z kk x zs))))
       |_,_=>none
      |_,_,_,_=>none
    |_=>none
   |_,_=>none
  |_,_=>none
theorem den_vs' (l:List Value):DenL w ω (l.map .v) l:=by
  induction l with
  |nil=>trivial
  |cons x r ih=>exact ⟨rfl,ih⟩
theorem cells_ok (hm:MemOK w ω M) {nx:Nat} (hf:freeB (ent M) nx=true) {cs:List SV} {c:Array Value} {T:TypeId} (hc:DenL w ω cs c.toList) (hil: ∀j,isIl (lsv cs j)=false):
    ∃ω',Stp w ω M (w.alloc (.cells c T)) ω' (freshU (ent M) nx (.cells cs)++M)∧Den (w.alloc (.cells c T)) ω' (.ptr nx (ent M nx).rs none 0 0) (.pointer (some ⟨w.heap.size,0,none⟩))∧New w ω (w.alloc (.cells c T)) ω' (fun k=>k∈(freshU (ent M) nx (.cells cs)).map (·.1)):=by
  have hlen:=hc.len
  have hfree:=freeB_free hm hf
  let L:Loc:=⟨w.heap.size,0,cs.length,1,c.size⟩
  have hext:Ext w ω (w.alloc (.cells c T)) (ω.add nx L):=ext_alloc rfl hfree.2.2
  refine ⟨ω.add nx L,Stp.alloc (r:=⟨cs.length,1,fun _ j=>lsv cs j⟩) hm hfree rfl rfl (by simp at hlen;show 1*cs.length≤_;omega) (fun i hi j hj=>?_),Or.inr ⟨?_,L,by simp [Ow.add],by show 0<1;omega,by simp [L]⟩,new_add rfl hfree.2.2 rfl⟩
  · have hi:i=0:=by have:i<1:=hi;omega
    subst hi
    have hj:j<cs.length:=hj
    obtain ⟨x,e1,e2⟩:=hc.get? j hj
    refine ⟨x,by simpa using e1,?_⟩
    show CellOK _ _ _ _ _ _ (lsv cs j) x
    rw [den_not_il (hil j)]
    exact e2.ext hext
  · show _=st ω.cur nx none
    rw [hm.cur];rfl
theorem all_notIl {l:List SV} (h:(l.all fun s=>!isIl s)=true) (j:Nat):isIl (lsv l j)=false:=by
  unfold lsv
  rw [List.getD_eq_getElem?_getD]
  cases hj:l[j]? with
  |none=>rfl
  |some x=>simpa using List.all_eq_true.1 h x (List.mem_of_getElem? hj)
theorem box_ok (h:Cx P w ω ρ M a) {o:Oper} {T:TypeId} {x:Operand} {nx:Nat} {pr:Prop} {s:SV} {u:Upd} (ho:o.op= .box T x) (he:evBox (ent M) nx (ρ x)=some (pr,s,u)):MemN P w ω M a o s u:=by
  unfold evBox at he
  split at he
  · next cs hcs hf=>
    split at he
    · next hil=>
      simp only [Option.some.injEq,Prod.mk.injEq] at he
      obtain ⟨_,rfl,rfl⟩:=he
      obtain ⟨ω',h1,h2,h3⟩:=cells_ok (T:=T) h.mem hf (cellsSV_den h.mem hcs (h.val x)) (all_notIl hil)
      exact ⟨_,_,_,ω',by simp [execOp,ho,go_sem],.inl rfl,h1,h2,h3⟩
    · cases he
  · cases he
theorem vs_notIl (l:List Value) (j:Nat):isIl (lsv (l.map .v) j)=false:=by
  unfold lsv
  rw [List.getD_eq_getElem?_getD,List.getElem?_map]
  cases l[j]? <;>rfl
theorem alloc_ok (h:Cx P w ω ρ M a) {o:Oper} {T:TypeId} {nx:Nat} {pr:Prop} {s:SV} {u:Upd} (ho:o.op= .alloc T) (he:evAlloc P (ent M) nx T=some (pr,s,u)):MemN P w ω M a o s u:=by
  unfold evAlloc at he
  split at he
  · next cs hcs hf=>
    simp only [Option.some.injEq,Prod.mk.injEq] at he
    obtain ⟨_,rfl,rfl⟩:=he
    unfold zeroCells at hcs
    split at hcs
    · next i hi=>
      split at hcs
      · next z hz=>
        obtain rfl:=Option.some.inj hcs
        have hzv:(zeroValue T).run P w= .ok z w:=by simp [zeroValue,run_typeInfo w hi,hz,Result.andThen]
        obtain ⟨ω',h1,h2,h3⟩:=cells_ok (T:=T) h.mem hf (den_vs' z.cells.toList) (vs_notIl _)
        exact ⟨_,_,_,ω',by simp [execOp,ho,go_sem,hzv],.inl rfl,h1,h2,h3⟩
      · cases hcs
    · cases hcs
  · cases he
theorem oneSV_all (hm:MemOK w ω M): ∀{cs:List SV} {us:List Value},cs.all (oneSV (ent M))=true→DenL w ω cs us→ ∀u∈us,u.oneCell'=true
  | [],[],_,_,u,hu=>by cases hu
  |s::r,x::t,h,⟨h1,h2⟩,u,hu=>by
   simp only [List.all_cons,Bool.and_eq_true] at h
   rcases List.mem_cons.1 hu with rfl|hu
   · exact oneSV_one hm h.1 h1
   · exact oneSV_all hm h.2 h2 u hu
  | [],_::_,_,hd,_,_=>hd.elim
  |_::_,[],_,hd,_,_=>hd.elim
theorem store_ok (h:Cx P w ω ρ M a) {o:Oper} {T:TypeId} {x y:Operand} {nx:Nat} {pr:Prop} {s:SV} {u:Upd} (ho:o.op= .store T x y) (he:evStore P (ent M) nx T (ρ x) (ρ y)=some (pr,s,u)) (hp:pr):MemS P w ω M a o s u:=by
  have hm:=h.mem
  have hx:=h.val x
  unfold evStore at he
  split at he
  · next cs i hcs hi=>
    have hc:=cellsSV_den hm hcs (h.val y)
    split at he
    · next hlen hone=>
      have hlen:=Nat.eq_of_beq_eq_true hlen
      have h1:=oneSV_all hm hone hc
      have hsz:(a.eval y).cells.size=i.size:=by rw [←Array.length_toList,←hc.len,hlen]
      have hs2:(sizeOf T).run P w= .ok i.size w:=by simp [sizeOf,run_typeInfo w hi,Result.andThen]
      have run: ∀{ad w'},a.eval x= .pointer (some ad)→(storeCells ad (a.eval y).cells.toList).run P w= .ok () w'→(execOp a.eval o).run P w= .ok .skip w':=by
        intro ad w' ex hr
        simp [execOp,ho,ex,Instr.storeAt,Instr.sureAddr,storeVar,hs2,hsz,hr,Result.andThen]
      split at he
      · next k st p ii j hs=>
        rw [hs] at hx
        split at he
        · next hok=>
          split at he
          · next pr' u' hst=>
            simp only [Option.some.injEq,Prod.mk.injEq] at he
            obtain ⟨rfl,rfl,rfl⟩:=he
            obtain ⟨e0,L,hL,hc0,ex⟩:=okRef_at hm hok hx
            obtain ⟨w',r1,ω',s1,_⟩:=storeU_ok (P:=P) cs _ hm hst hp hc h1 hL hc0 (ad:=⟨L.b,L.o+ii*L.sz+j,none⟩) 0 (by simp [Addr.add])
            exact ⟨_,undef,w',ω',run ex r1,.inr ⟨rfl,rfl⟩,s1,trivial⟩
          · cases he
        · cases he
      · next k st p ii j len z hs=>
        rw [hs] at hx
        split at he
        · next l kk xz hb hone1 hok=>
          have hone1:=oneInt_eq hone1
          split at he
          · next zs hle hzs=>
            have hle:=Nat.le_of_ble_eq_true hle
            simp only [Option.some.injEq,Prod.mk.injEq] at he
            obtain ⟨_,rfl,rfl⟩:=he
            obtain ⟨e0,L,hL,hc0,hz,ex⟩:=okRef_at hm hok hx
            obtain ⟨c1,c2⟩:=cells_at hm hb hL
            have hii:ii=0:=by omega
            subst hii
            obtain ⟨y0,hy0⟩: ∃y0,(a.eval y).cells.toList= [y0]:=by
              have:=hc.len
              rw [hone1] at this
              match h:(a.eval y).cells.toList,this with
              | [y0],_=>exact ⟨y0,rfl⟩
            rw [hy0,hone1] at hc
            rw [hy0] at h1
            have hval:y0= .int kk xz:=hc.1
            subst hval
            obtain ⟨_,_,_,_,c,T0,g1,g2,g3,g4⟩:=hm.row _ _ _ hL
            obtain ⟨_,y1,_⟩:=g4 0 (by omega) (j+z) (by omega)
            have hr:=run_store1 (P:=P) g1 (Array.getElem?_eq_some_iff.1 y1).1 (x:= .int kk xz) rfl
            have hzs:=intsOf_get hzs
            refine ⟨_,undef,w.setCell ⟨L.b,L.o+0*L.sz+(j+z),none⟩ (.int kk xz),ω,run ex (by rw [hy0];simp only [Nat.zero_mul,Nat.add_zero] at hr⊢;simp [storeCells,Addr.add,hr]),.inr ⟨rfl,rfl⟩,?_,trivial⟩
            refine Stp.put hm hL (by omega) (by omega) ⟨rfl,rfl,rfl⟩ (fun _ _=>⟨l,hb⟩) ?_
            intro q r hr
            rw [hb] at hr
            cases q with
            |some ij=>obtain ⟨i',j'⟩:=ij;cases hr
            |none=>
             obtain rfl:=Option.some.inj hr
             have get: ∀b,b<l.length→lsv ((List.range l.length).map (peCell l j len z kk xz zs)) b=peCell l j len z kk xz zs b:=by
               intro b hb
               simp [lsv,List.getD_eq_getElem?_getD,hb]
             refine ⟨⟨((List.range l.length).map (peCell l j len z kk xz zs)).length,1,fun _ q=>lsv ((List.range l.length).map (peCell l j len z kk xz zs)) q⟩,rfl,by simp,rfl,fun a0 ha b hb'=>⟨?_,?_⟩⟩
             · rintro ⟨_,rfl,rfl⟩ w' hw'
               show CellOK _ _ _ _ _ _ (lsv _ (j+z)) _
               have hb':j+z<l.length:=hb'
               rw [get _ hb']
               have b1:Nat.ble j (j+z)=true:=Nat.ble_eq_true_of_le (by omega)
               have b2:Nat.blt (j+z) (j+len)=true:=Nat.ble_eq_true_of_le (by omega)
               unfold peCell
               rw [b1,b2,show j+z -j=z by omega,Nat.beq_refl]
               rfl
             · intro hne w' yv hy
               show CellOK _ _ _ _ _ _ (lsv _ b) _
               have hb':b<l.length:=hb'
               have ha:a0<1:=ha
               rw [get _ hb']
               have hy:CellOK _ _ _ _ _ _ (lsv l b) yv:=hy
               unfold peCell
               split
               · next b1 b2=>
                 have b1:=Nat.le_of_ble_eq_true b1
                 have b2:b<j+len:=Nat.le_of_ble_eq_true b2
                 have hq:=congrArg (fun l=>l[b -j]?) hzs
                 simp only [List.getElem?_map,List.getElem?_range (show b -j<len by omega),Option.map_some] at hq
                 cases hlz:zs[b -j]? with
                 |none=>rw [hlz] at hq;cases hq
                 |some y2=>
                  rw [hlz] at hq
                  simp only [Option.map_some,Option.some.injEq,show j+(b -j)=b by omega] at hq
                  rw [hq] at hy
                  have hsel:sel zs (b -j)=y2:=by simp [sel,List.getD_eq_getElem?_getD,hlz]
                  have hbz:Nat.beq (b -j) z=false:=by
                    cases hbb:Nat.beq (b -j) z
                    · rfl
                    · have:=Nat.eq_of_beq_eq_true hbb
                      exact absurd ⟨rfl,by omega,by omega⟩ hne
                  rw [hbz,hsel]
                  exact hy
               · exact hy
          · cases he
        · cases he
      · cases he
    · cases he
  · cases he
end
end Go.Sy
set_option linter.unusedVariables false
set_option linter.unusedSimpArgs false
namespace Go.Sy
open Go.RowKit
section
variable {P:Program} {w:World} {ω:Ow} {ρ:Operand→SV} {M:Mem} {a:Act}
def ilAt (P:Program):Nat→TypeId→Nat→Option Nat
  |0,_,_=>none
  |d+1,T,j=>
   match P.underlying T with
   |some (.slice E)=>match j,P.info? E with|0,some i=>some i.size|_,_=>none
   |some (.struct fs)=>fs.toList.findSome? fun fd=>match P.info? fd.type with|some i=>(match Nat.ble fd.offset j,Nat.blt j (fd.offset+i.size) with|true,true=>ilAt P d fd.type (j -fd.offset)|_,_=>none)|none=>none
   |_=>none
def zeroLeaf (P:Program) (E:TypeId) (z:Array Value):List SV:=
  (List.range z.size).map fun j=>match ilAt P 4 E j,z[j]? with
    |some sz,some (.slice none 0 0)=> .il sz 0 fun _ _=> .junk
    |_,some x=> .v x
    |_,none=> .junk
theorem row_ok (hm:MemOK w ω M) {nx:Nat} (hf:freeB (ent M) nx=true) {sz n cap:Nat} {f:Nat→Nat→SV} {c:Array Value} {T:TypeId} (hn:n≤cap) (hml:cap≤maxLen) (hc:cap*sz≤c.size)
    (hcell: ∀w' ω',Ext w ω w' ω'→(∀i j,ω'.β nx (some (i,j))=none)→ ∀i,i<n→ ∀j,j<sz→ ∃x,c[i*sz+j]? =some x∧CellOK w' ω' none nx i j (f i j) x):
    ∃ω',Stp w ω M (w.alloc (.cells c T)) ω' (freshU (ent M) nx (.row sz n f)++M)∧Den (w.alloc (.cells c T)) ω' (.slc nx (ent M nx).rs none 0 n) (.slice (some ⟨w.heap.size,0,none⟩) n cap)∧New w ω (w.alloc (.cells c T)) ω' (fun k=>k∈(freshU (ent M) nx (.row sz n f)).map (·.1)):=by
  have hfree:=freeB_free hm hf
  let L:Loc:=⟨w.heap.size,0,sz,n,c.size⟩
  have hext:Ext w ω (w.alloc (.cells c T)) (ω.add nx L):=ext_alloc rfl hfree.2.2
  refine ⟨ω.add nx L,Stp.alloc (r:=⟨sz,n,f⟩) hm hfree rfl rfl (Nat.le_trans (Nat.mul_le_mul_right _ hn) hc) (fun i hi j hj=>hcell _ _ hext (fun a b=>by simp [Ow.add,hfree.2.2]) i hi j hj),Or.inr ⟨?_,_,cap,rfl,hn,hml,.inr ⟨L,by simp [Ow.add],by simp [L],by show 0+(0+cap)*sz≤c.size;simpa using hc,by show 0+n≤n;omega⟩⟩,new_add rfl hfree.2.2 rfl⟩
  show _=st ω.cur nx none
  rw [hm.cur];rfl
theorem setMany_len: ∀(cs:List SV) (off:Nat) (l:List SV),(setMany l off cs).length=l.length
  | [],_,_=>rfl
  |c::r,off,l=>by rw [setMany,setMany_len];simp
theorem fillSV_len {m:Nat→Ent} {place:Nat→Option (Nat×Nat)}: ∀{ps:List (Nat×SV)} {l l':List SV},fillSV m place l ps=some l'→l'.length=l.length
  | [],l,l',h=>by simp [fillSV] at h;rw [h]
  |(k,s)::r,l,l',h=>by
   unfold fillSV at h
   split at h
   · split at h
     · rw [fillSV_len h,setMany_len]
     · cases h
   · cases h
def evMake (P:Program) (m:Nat→Ent) (nx:Nat) (T:TypeId) (l c:SV):Option (Prop×SV×Upd):=
  match P.underlying T,l,c with
  |some (.slice E),.v (.int _ l),.v (.int _ c)=>
   match P.info? E,freeB m nx with
   |some i,true=>
    match i.zero,Nat.blt 0 i.bytes with
    |some z,true=>
     match Nat.beq z.cells.size i.size with
     |true=>some (0≤l∧l≤c∧(i.bytes:Int)*c≤140737488355328,.slc nx (m nx).rs none 0 l.toNat,freshU m nx (.row i.size l.toNat fun _ j=>lsv (zeroLeaf P E z.cells) j))
     |false=>none
    |_,_=>none
   |_,_=>none
  |_,_,_=>none
theorem zeroLeaf_ok {E:TypeId} {z:Array Value} {j:Nat} {x:Value} (hx:z[j]? =some x) {w:World} {ω:Ow} {k i:Nat} (hn:ω.β k (some (i,j))=none):CellOK w ω none k i j (lsv (zeroLeaf P E z) j) x:=by
  have hj:=(Array.getElem?_eq_some_iff.1 hx).1
  have e:lsv (zeroLeaf P E z) j=(match ilAt P 4 E j,z[j]? with
    |some sz,some (.slice none 0 0)=> .il sz 0 fun _ _=> .junk
    |_,some x=> .v x
    |_,none=> .junk):=by
    simp [lsv,zeroLeaf,List.getD_eq_getElem?_getD,hj]
  rw [e]
  split
  · next h1=>
    rw [hx] at h1
    obtain rfl:=Option.some.inj h1
    exact .inr ⟨⟨none,0,rfl,Nat.le_refl _,Nat.zero_le _,.inl rfl⟩,fun L hL=>by rw [hn] at hL;cases hL⟩
  · next h1 _=>
    rw [hx] at h1
    obtain rfl:=Option.some.inj h1
    exact rfl
  · trivial
theorem make_ok (h:Cx P w ω ρ M a) {o:Oper} {T:TypeId} {x y:Operand} {nx:Nat} {pr:Prop} {s:SV} {u:Upd} (ho:o.op= .makeSlice T x y) (he:evMake P (ent M) nx T (ρ x) (ρ y)=some (pr,s,u)) (hp:pr):MemN P w ω M a o s u:=by
  have hx:=h.val x
  have hy:=h.val y
  unfold evMake at he
  split at he
  · next E k1 l k2 c hu h1 h2=>
    rw [h1] at hx;rw [h2] at hy
    have ex:a.eval x= .int k1 l:=hx
    have ey:a.eval y= .int k2 c:=hy
    split at he
    · next i hi hf=>
      split at he
      · next z hz hb=>
        have hb:0<i.bytes:=Nat.le_of_ble_eq_true hb
        split at he
        · next hzs=>
          have hzs:=Nat.eq_of_beq_eq_true hzs
          simp only [Option.some.injEq,Prod.mk.injEq] at he
          obtain ⟨rfl,rfl,rfl⟩:=he
          obtain ⟨h0,h1,h2⟩:=hp
          have hcb:c≤140737488355328:=by
            have:c*1≤c*(i.bytes:Int):=Int.mul_le_mul_of_nonneg_left (by omega) (by omega)
            rw [Int.mul_comm c (i.bytes:Int)] at this
            omega
          have hr:=run_make (P:=P) w T E i z hu hi hz k1 k2 l c h0 h1 (by omega) (by omega)
          obtain ⟨ω',s1,s2,s3⟩:=row_ok h.mem hf (sz:=i.size) (n:=l.toNat) (cap:=c.toNat) (f:=fun _ j=>lsv (zeroLeaf P E z.cells) j) (c:=madeCells z.cells (c.toNat*i.size)) (T:=E) (by omega) (by unfold maxLen;omega) (by rw [size_madeCells];exact Nat.le_refl _) (by
            intro w' ω' _ hnone q hq j hj
            have hlt:q*i.size+j<c.toNat*i.size:=idx_lt (by omega) hj
            have hz2:z.cells[j]? =some (z.cells[(q*i.size+j)%z.cells.size]!):=by
              have:(q*i.size+j)%z.cells.size=j:=by
                rw [hzs,Nat.add_comm,Nat.add_mul_mod_self_right,Nat.mod_eq_of_lt hj]
              rw [this]
              rw [getElem?_pos z.cells j (by omega),getElem!_pos z.cells j (by omega)]
            refine ⟨z.cells[(q*i.size+j)%z.cells.size]!,by simp [madeCells,hlt],zeroLeaf_ok hz2 (hnone q j)⟩)
          exact ⟨_,_,_,ω',by simp [execOp,ho,ex,ey,hr,Result.andThen],.inl rfl,s1,s2,s3⟩
        · cases he
      · cases he
    · cases he
  · cases he
/-! ### a slice told element by element -/
def rowOf (sz len:Nat) (l:List SV):Nat→Nat→SV:=
  match len with
  |1=>fun _ j=>lsv l j
  |_=>fun i j=>lsv l (i*sz+j)
def numRow (k:IntKind) (zs:List Int):Nat→Nat→SV:=fun i _=> .v (.int k (sel zs i))
def evBuildS (P:Program) (m:Nat→Ent) (nx:Nat) (T:TypeId) (len:Nat) (parts:List (Nat×SV)):Option (Prop×SV×Upd):=
  match P.underlying T with
  |some (.slice E)=>
   match P.info? E,freeB m nx with
   |some i,true=>
    match i.zero,Nat.ble len 1000 with
    |some z,true=>
     match Nat.beq z.cells.size i.size,fillSV m (fun k=>some (k*i.size,i.size)) ((List.range (len*i.size)).map fun q=>lsv (z.cells.toList.map .v) (q%i.size)) parts,Nat.ble (len*i.size) 16777216 with
     |true,some l,true=>
      match l.all fun s=>!isIl s with
      |true=>
       match Nat.beq i.size 1,P.underlying E with
       |true,some (.int kk)=>
        match intsOf kk l with
        |some zs=>some (True,.slc nx (m nx).rs none 0 len,freshU m nx (.row i.size len (numRow kk zs)))
        |none=>none
       |_,_=>some (True,.slc nx (m nx).rs none 0 len,freshU m nx (.row i.size len (rowOf i.size len l)))
      |false=>none
     |_,_,_=>none
    |_,_=>none
   |_,_=>none
  |_=>none
theorem buildS_ok (h:Cx P w ω ρ M a) {o:Oper} {T:TypeId} {len:Nat} {parts:Array (Nat×Operand)} {nx:Nat} {pr:Prop} {s:SV} {u:Upd} (ho:o.op= .buildSlice T len parts)
    (he:evBuildS P (ent M) nx T len (parts.toList.map fun p=>(p.1,ρ p.2))=some (pr,s,u)):MemN P w ω M a o s u:=by
  have hparts: ∀(i:Nat) (s:Nat×SV),(parts.toList.map fun p=>(p.1,ρ p.2))[i]? =some s→ ∃u,(parts.toList.map fun p=>(p.1,a.eval p.2))[i]? =some (s.1,u)∧Den w ω s.2 u:=by
    intro i s hs
    rw [List.getElem?_map] at hs
    cases hp:parts.toList[i]? with
    |none=>rw [hp] at hs;cases hs
    |some p=>
     rw [hp] at hs
     obtain rfl:=Option.some.inj hs
     exact ⟨a.eval p.2,by rw [List.getElem?_map,hp];rfl,h.val p.2⟩
  unfold evBuildS at he
  split at he
  · next E hu=>
    split at he
    · next i hi hf=>
      split at he
      · next z hz hlen=>
        have hlen:=Nat.le_of_ble_eq_true hlen
        split at he
        · next l hzs hl hble=>
          have hzs:=Nat.eq_of_beq_eq_true hzs
          have hble:=Nat.le_of_ble_eq_true hble
          have hinit:DenL w ω ((List.range (len*i.size)).map fun q=>lsv (z.cells.toList.map .v) (q%i.size)) (((Array.range (len*i.size)).map fun q=>(if len*i.size=0 then #[] else z.cells)[q%(if len*i.size=0 then (#[]:Array Value) else z.cells).size]!).toList):=by
            refine DenL.mk (by simp) fun q hq=>?_
            have hq':q<len*i.size:=by simpa using hq
            have h0: ¬len*i.size=0:=by omega
            have hi0:0<i.size:=by
              rcases Nat.eq_zero_or_pos i.size with h|h
              · rw [h] at hq';omega
              · exact h
            have hm0:q%i.size<z.cells.size:=by rw [hzs];exact Nat.mod_lt _ hi0
            refine ⟨z.cells[q%i.size],?_,?_⟩
            · have e:z.cells[q%z.cells.size]! =z.cells[q%i.size]:=by
                rw [hzs,getElem!_pos z.cells (q%i.size) hm0]
              simp only [if_neg h0]
              simp [hq',e]
            · rw [List.getD_eq_getElem?_getD,List.getElem?_map,List.getElem?_range hq']
              simp [lsv,List.getD_eq_getElem?_getD,hm0,Den]
          obtain ⟨c,h1,h2⟩:=fill_den h.mem _ _ (by simp) hparts _ _ _ hinit hl
          have hlc:=h2.len
          have hcs:c.size=len*i.size:=by
            have e1:l.length=len*i.size:=by
              have:=fillSV_len hl
              simpa using this
            simp at hlc;omega
          have run:(execOp a.eval o).run P w= .ok (.value (.slice (some ⟨w.heap.size,0,none⟩) len len)) (w.alloc (.cells c E)):=by
            have hs:(sizeOf E).run P w= .ok i.size w:=by simp [sizeOf,run_typeInfo w hi,Result.andThen]
            have hzv:(zeroValue E).run P w= .ok z w:=by simp [zeroValue,run_typeInfo w hi,hz,Result.andThen]
            have hnb: ¬(len*i.size>2^24):=by omega
            simp only [execOp,ho,Instr.buildSlice,Sem.run_bind,run_underlying hu,Result.andThen_ok,hs,if_neg hnb,Sem.run_pure]
            by_cases h0:len*i.size=0
            · have hA: ∀(g:Nat→Value),(Array.range (len*i.size)).map g= #[]:=fun g=>by simp [h0]
              simp only [hA] at h1
              have hr0:Array.range 0= #[]:=rfl
              simp [h0,hr0,h1,newRow,Result.andThen]
            · simp only [if_neg h0] at h1⊢
              simp [hzv,h1,newRow,Result.andThen]
          split at he
          · next hil=>
            have key: ∀{f:Nat→Nat→SV},(∀q,q<len→ ∀j,j<i.size→f q j=lsv l (q*i.size+j))→some (True,SV.slc nx (ent M nx).rs none 0 len,freshU (ent M) nx (.row i.size len f))=some (pr,s,u)→MemN P w ω M a o s u:=by
              intro f hf2 he
              simp only [Option.some.injEq,Prod.mk.injEq] at he
              obtain ⟨_,rfl,rfl⟩:=he
              obtain ⟨ω',s1,s2,s3⟩:=row_ok h.mem hf (sz:=i.size) (n:=len) (cap:=len) (f:=f) (c:=c) (T:=E) (Nat.le_refl _) (by unfold maxLen;omega) (by omega) (by
                intro w' ω' hext hnone q hq j hj
                have hlt:q*i.size+j<len*i.size:=idx_lt hq hj
                obtain ⟨x,e1,e2⟩:=h2.get? (q*i.size+j) (by simp at hlc;omega)
                refine ⟨x,by simpa using e1,?_⟩
                rw [hf2 q hq j hj,den_not_il (all_notIl hil _)]
                exact e2.ext hext)
              exact ⟨_,_,_,ω',run,.inl rfl,s1,s2,s3⟩
            split at he
            · next kk hs1 hk=>
              have hs1:=Nat.eq_of_beq_eq_true hs1
              split at he
              · next zs hzs2=>
                refine key (fun q hq j hj=>?_) he
                have hj0:j=0:=by omega
                subst hj0
                have e:=intsOf_get hzs2
                rw [e,hs1]
                have hzl:zs.length=len:=by
                  have:=congrArg List.length e
                  simp at this hlc
                  rw [hs1] at hcs
                  omega
                simp [numRow,lsv,sel,List.getD_eq_getElem?_getD,show q<zs.length by omega]
              · cases he
            · refine key (fun q hq j hj=>?_) he
              unfold rowOf
              split
              · have:q=0:=by omega
                subst this
                simp
              · rfl
          · cases he
        · cases he
      · cases he
    · cases he
  · cases he
end
end Go.Sy
