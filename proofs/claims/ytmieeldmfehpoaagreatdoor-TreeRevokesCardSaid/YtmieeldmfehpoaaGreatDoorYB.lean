/-
  Sy, part 6: equality of aggregates.
-/
import Derived.Test.YtmieeldmfehpoaaGreatDoorYA
import Derived.Laws.MakeOwn
set_option linter.unusedVariables false
set_option linter.unusedSimpArgs false
set_option linter.unusedVariables false
set_option linter.unusedSimpArgs false
namespace Go.Sy
open Go.RowKit
def qJ (P:Program) (T:TypeId) (f:Nat->SV) (n off:Nat):Option SV:=
  match P.info? T,P.underlying T with
  |some i,some d=>
   match kT d with
   |true=>match Nat.ble (off+i.size) n with|true=>some (.ag i.size (out i.size λj=>f (off+j)))|false=>none
   |false=>match Nat.blt off n with|true=>some (f off)|false=>none
  |_,_=>none
def DL (P:Program) (T:TypeId) (s t:SV):Option Bool:=
  match P.underlying T,s,t with
  |some (.int _),.v (.int k a),.v (.int k' b)=>match qF k k' with|true=>some (a==b)|false=>none
  |some .string,.v (.string a),.v (.string b)=>some (a.toList==b.toList)
  |some .bool,s,t=>match lE s,lE t with|some a,some b=>some (a==b)|_,_=>none
  |_,_,_=>none
def Ag:Option Bool->Option Bool->Option Bool
  |some a,some b=>some (a&&b)
  |_,_=>none
def tB (P:Program) (rec:TypeId->SV->SV->Option Bool) (n:Nat) (f:Nat->SV) (m:Nat) (g:Nat->SV):List Field->Option Bool
  | []=>some true
  |fd::r=>
   match decide (fd.name = "_") with
   |true=>tB P rec n f m g r
   |false=>
    match qJ P fd.type f n fd.offset,qJ P fd.type g m fd.offset with
    |some a,some b=>Ag (rec fd.type a b) (tB P rec n f m g r)
    |_,_=>none
def vW (P:Program) (rec:TypeId->SV->SV->Option Bool) (E:TypeId) (sz n:Nat) (f:Nat->SV) (m:Nat) (g:Nat->SV):List Nat->Option Bool
  | []=>some true
  |k::r=>
   match qJ P E f n (k*sz),qJ P E g m (k*sz)with
   |some a,some b=>Ag (rec E a b) (vW P rec E sz n f m g r)
   |_,_=>none
def rD (P:Program):Nat->TypeId->SV->SV->Option Bool
  |0,_,_,_=>none
  |d+1,T,s,t=>
   match P.underlying T,s,t with
   |some (.struct fs),.ag n f,.ag m g=>match P.stoodInHeld T with|false=>tB P (rD P d) n f m g fs.toList|true=>none
   |some (.array len E),.ag n f,.ag m g=>match P.info? E with|some i=>vW P (rD P d) E i.size n f m g (List.range len)|none=>none
   |_,s,t=>DL P T s t
section
variable {P:Program} {w:World} {ω:Ow}
theorem uJ {T:TypeId} {f:Nat->SV} {n off:Nat} {s:SV} {xs:Array Value} (h:qJ P T f n off=some s) (hd:Den w ω (.ag n f) (.agg xs)):
    ∃v,(∀w',(part T xs off).run P w'= .ok v w')/\Den w ω s v:=by
  obtain⟨cs,e,hn,hj⟩:=hd
  obtain rfl:=Value.agg.inj e
  unfold qJ at h
  split at h
  · next i d hi hu=>
    split at h
    · next hd=>
      split at h
      · next hle=>
        have hle:=Nat.le_of_ble_eq_true hle
        obtain rfl:=Option.some.inj h
        have ha: ∀w',(isAgg T).run P w'= .ok true w':=λw'=>by
          simp only[isAgg,Sem.run_bind,run_underlying hu,Result.andThen]
          cases d<;>simp[kT]at hd<;>simp
        have hs: ∀w',(sizeOf T).run P w'= .ok i.size w':=λw'=>by simp[sizeOf,run_typeInfo w' hi,Result.andThen]
        refine⟨.agg (xs.extract off (off+i.size)),λw'=>by simp[part,ha,hs,Result.andThen],_,rfl,by simp;omega,λj og=>?_⟩
        obtain⟨x,J,U⟩:=hj (off+j) (by omega)
        exact⟨x,by rw[Array.getElem?_extract];simp[show j<min (off+i.size) xs.size -off by omega,J],by rw[MD og];exact U⟩
      · cases h
    · next hd=>
      split at h
      · next ai=>
        have ai:off<n:=Nat.le_of_ble_eq_true ai
        obtain rfl:=Option.some.inj h
        have ha: ∀w',(isAgg T).run P w'= .ok false w':=λw'=>by
          simp only[isAgg,Sem.run_bind,run_underlying hu,Result.andThen]
          cases d<;>simp[kT]at hd<;>simp
        obtain⟨x,J,U⟩:=hj off ai
        exact⟨x,λw'=>by simp[part,ha,J,Result.andThen],U⟩
      · cases h
  · cases h
theorem Sl {T:TypeId} {s t:SV} {b:Bool} (h:DL P T s t=some b) {u v:Value} (hu:Den w ω s u) (hv:Den w ω t v) (d:Nat) (w':World):
    (Op.equalIn (d+1) T u v).run P w'= .ok b w':=by
  unfold DL at h
  split at h
  · next hT=>
    split at h
    · next hk=>
      obtain rfl:=uy hk
      obtain rfl:=Option.some.inj h
      obtain rfl:=hu
      obtain rfl:=hv
      exact run_equalIn_int w' d T _ _ _ _ hT
    · cases h
  · next hT=>
    obtain rfl:=Option.some.inj h
    obtain rfl:=hu
    obtain rfl:=hv
    exact run_equalIn_string w' d T _ _ hT
  · next hT=>
    split at h
    · next a b ha hb=>
      obtain rfl:=Option.some.inj h
      obtain rfl:=j7 ha hu
      obtain rfl:=j7 hb hv
      exact run_equalIn_bool' w' d T _ _ hT
    · cases h
  · cases h
theorem Ic {a b:Option Bool} {r:Bool} (h:Ag a b=some r): ∃x y,a=some x/\b=some y/\r=(x&&y):=by
  unfold Ag at h
  split at h
  · exact⟨_,_,rfl,rfl,(Option.some.inj h).symm⟩
  · cases h
theorem CO {rec:TypeId->SV->SV->Option Bool} {d:Nat} (ih: ∀{T:TypeId} {s t:SV} {b:Bool},rec T s t=some b-> ∀{u v:Value},Den w ω s u->Den w ω t v-> ∀w',(Op.equalIn d T u v).run P w'= .ok b w')
    {n m:Nat} {f g:Nat->SV} {xs ys:Array Value} (hx:Den w ω (.ag n f) (.agg xs)) (hy:Den w ω (.ag m g) (.agg ys)):
    ∀(fs:List Field) {b:Bool},tB P rec n f m g fs=some b-> ∀w',(Op.eqFields d xs ys fs).run P w'= .ok b w'
  | [],b,h,w'=>by simp[tB]at h;subst h;simp[Op.eqFields]
  |fd::r,b,h,w'=>by
   unfold tB at h
   split at h
   · next hn=>
     have hn : fd.name = "_" := by simpa using hn
     simp only[Op.eqFields,hn,ne_eq,not_true_eq_false,if_false]
     exact CO ih hx hy r h w'
   · next hn=>
     have hn : fd.name ≠ "_" := by simpa using hn
     split at h
     · next a c ha hc=>
       obtain⟨p,q,J,U,rfl⟩:=Ic h
       obtain⟨u,e1,d1⟩:=uJ ha hx
       obtain⟨v,e2,d2⟩:=uJ hc hy
       have e3:=ih J d1 d2 w'
       simp only[Op.eqFields,hn,ne_eq,not_false_eq_true,if_true,Sem.run_bind,e1,e2,e3,Result.andThen_ok]
       cases p
       · simp
       · simpa using CO ih hx hy r U w'
     · cases h
theorem yU: ∀(d:Nat) {T:TypeId} {s t:SV} {b:Bool},rD P d T s t=some b-> ∀{u v:Value},Den w ω s u->Den w ω t v-> ∀w',(Op.equalIn d T u v).run P w'= .ok b w'
  |0,_,_,_,_,h,_,_,_,_,_=>by simp[rD]at h
  |d+1,T,s,t,b,h,u,v,hu,hv,w'=>by
   unfold rD at h
   split at h
   · next fs n f m g hT=>
     split at h
     · next hs=>
       obtain⟨xs,rfl,hx⟩:=hu
       obtain⟨ys,rfl,hy⟩:=hv
       have hf:P.fieldsOf T=fs:=by simp[Program.fieldsOf,hT]
       rw[run_equalIn_struct w' d T xs ys (by rw[hf];exact hT) hs,hf]
       exact CO (λhr _ _ du dv fi=>yU d hr du dv fi) ⟨xs,rfl,hx⟩ ⟨ys,rfl,hy⟩ _ h w'
     · cases h
   · next len E n f m g hT=>
     split at h
     · next i hi=>
       obtain⟨xs,rfl,hx⟩:=hu
       obtain⟨ys,rfl,hy⟩:=hv
       have hs: ∀fi,(sizeOf E).run P fi= .ok i.size fi:=λfi=>by simp[sizeOf,run_typeInfo fi hi,Result.andThen]
       simp only[Op.equalIn,Sem.run_bind,run_underlying hT,Result.andThen_ok,hs,Std.Legacy.Range.forIn_eq_forIn_range',Std.Legacy.Range.size]
       have key: ∀(l:List Nat) {b:Bool},vW P (rD P d) E i.size n f m g l=some b-> ∀fi:World,
        (((forIn l ((none,()):Option Bool×Unit) λk r=>do
            let x<-part E xs (k*i.size)
            let y<-part E ys (k*i.size)
            let z<-Op.equalIn d E x y
            if(!z)=true then pure (ForInStep.done (some false,()))else pure (ForInStep.yield (none,()))):Sem (Option Bool×Unit))).run P fi= .ok (if b then none else some false,()) fi:=by
         intro l
         induction l with
         |nil=>intro b h fi;simp[vW]at h;subst h;simp
         |cons k r ih=>
          intro b h fi
          unfold vW at h
          split at h
          · next a c ha hc=>
            obtain⟨p,q,J,U,rfl⟩:=Ic h
            obtain⟨u,e1,d1⟩:=uJ ha ⟨xs,rfl,hx⟩
            obtain⟨v,e2,d2⟩:=uJ hc ⟨ys,rfl,hy⟩
            have e3:=yU d J d1 d2 fi
            simp only[List.forIn_cons,Sem.run_bind,e1,e2,e3,Result.andThen_ok]
            cases p
            · simp
            · simpa using ih U fi
          · cases h
       have e0:List.range' 0 ((len -0+1 -1)/1)=List.range len:=by rw[List.range_eq_range'];congr 1;omega
       rw[e0,key _ h w']
       cases b<;>simp[Result.andThen]
     · cases h
   · exact Sl h hu hv d w'
end
end Go.Sy
set_option linter.unusedVariables false
set_option linter.unusedSimpArgs false
namespace Go.Sy
open Go.RowKit
def Er (P:Program) (op:BinOp) (T:TypeId) (s t:SV):R:=
  match s,t,P.eqGuardType P.depth T with
  | .ag n f,.ag m g,false=>
    match rD P 10000 T (.ag n f) (.ag m g),op with
    |some b,.eql=> .ok (.v (.bool b))
    |some b,.neq=> .ok (.v (.bool (!b)))
    |_,_=> .bad
  |_,_,_=> .bad
def vd (c s t:SV):R:=
  match c with
  | .bl true=> .ok s
  | .bl false=> .ok t
  | .v (.bool b)=>
    match lE s,lE t with
    |some x,some y=> .ok (.v (.bool (bif b then x else y)))
    |_,_=> .bad
  |_=> .bad
def Fp (sg:Bool) (op:UnOp) (s:SV):R:=
  match op,s with
  | .not,.bl true=> .ok (.bl false)
  | .not,.bl false=> .ok (.bl true)
  | .not,.v (.bool b)=> .ok (.v (.bool (!b)))
  | .neg,.v (.int k n)=>match sg with|true=> .ok (.v (.int k (k.wrap (0 -n))))|false=> .dz (rE k (0 -n)) (.v (.int k (-n)))
  |_,_=> .bad
def DJ (P:Program) (sg:Bool) (S D:TypeId) (s:SV):R:=
  match P.underlying S,P.underlying D,s with
  |some _,some (.int k),.v (.int _ n)=>match sg with|true=> .ok (.v (.int k (k.wrap n)))|false=> .dz (rE k n) (.v (.int k n))
  |_,_,_=> .bad
def CM (T:TypeId):SV->SV
  | .v x=> .v (.iface T x)
  | .bl b=> .v (.iface T (.bool b))
  |s=> .ic T s
def BK (P:Program) (T:TypeId) (s:SV):R:=
  match P.underlying T with
  |some (.interface _)=> .bad
  |some _=> .ok (CM T s)
  |none=> .bad
def uw (s:SV) (i:Nat):R:=
  match s with
  | .tp n f=>match Nat.blt i n with|true=> .ok (f i)|false=> .bad
  |_=> .bad
def vf (P:Program) (t:TypeId) (name:String):Option Nat:=
  match P.info? t,P.underlying t with
  |some i,some d=>
   match i.methods.find? (λm=>m.name==name)with
   |some m=>
    match m.path.toList,m.func,d with
    | [],some (f,true),.pointer _=>some f
    |_,_,_=>none
   |none=>none
  |_,_=>none
def Bz (P:Program) (s:SV) (m:Nat->bk):R:=
  match s with
  | .ptr k st p i j=>match cC m k st p with|true=> .ok (.ptr k st p i j)|false=> .bad
  | .pe k st p i j len z=>match cC m k st p with|true=> .ok (.pe k st p i j len z)|false=> .bad
  | .pt q n f=> .ok (.pt q n f)
  | .fn id n f=> .ok (.fn id n f)
  | .bm id s=> .ok (.bm id s)
  | .mv nm (.ic t s)=>match vf P t nm with|some _=> .ok (.mv nm (.ic t s))|none=> .bad
  | .pa q sz n f=> .ok (.pa q sz n f)
  | .v (.pointer (some ad))=> .ok (.v (.pointer (some ad)))
  |_=> .bad
def Et (P:Program) (T:TypeId) (s:SV) (m:Nat->bk):R:=
  match P.underlying T,s with
  |some (.slice _),.sl _ _ n _=> .jR ((n:Int)<=9223372036854775807) (.v (.int .i64 n))
  |some (.slice _),.aV k st p _ n=>match cC m k st p with|true=> .jR ((n:Int)<=9223372036854775807) (.v (.int .i64 n))|false=> .bad
  |some (.slice _),.sa k st p _ _ n=>match cC m k st p with|true=> .ok (.v (.int .i64 n))|false=> .bad
  |some (.slice _),.v (.slice none 0 0)=> .ok (.v (.int .i64 0))
  |some (.slice _),.es=> .ok (.v (.int .i64 0))
  |some .string,.v (.string x)=> .ok (.v (.int .i64 x.size))
  |_,_=> .bad
def zC (mx:Bool) (l:List SV):R:=
  match l with
  | [.v (.int k x),.v (.int k' y)]=>
    match qF k k',mx with
    |true,true=> .ok (.v (.int k (max x y)))
    |true,false=> .ok (.v (.int k (min x y)))
    |_,_=> .bad
  |_=> .bad
def DK (P:Program) (T:TypeId) (s:SV) (j:Nat):R:=
  match P.underlying T,s with
  |some (.struct fs),.ag n f=>
   match fs[j]? with
   |some fd=>match qJ P fd.type f n fd.offset with|some t=> .ok t|none=> .bad
   |none=> .bad
  |_,_=> .bad
def Fq (P:Program) (T:TypeId) (lit:Bool) (s i:SV):R:=
  match P.underlying T,s,i with
  |some .string,.v (.string x),.v (.int _ z)=> .dz ((0<=z/\z<x.size)) (.v (.int .u8 (x.data.toList.getD z.toNat 0).toNat))
  |some (.array len E),.ag n f,.v (.int _ z)=>
   match P.info? E,P.underlying E with
   |some i,some d=>
    match kT d,Nat.beq n (len*i.size),Nat.beq i.size 1 with
    |false,true,true=>
     match lit,d with
     |true,_=> .dz ((0<=z/\z<len)) (f z.toNat)
     |false,.int kk=>match nG kk ((List.range len).map f)with|some l=> .dz ((0<=z/\z<len)) (.v (.int kk (fj l z.toNat)))|none=> .bad
     |_,_=> .bad
    |_,_,_=> .bad
   |_,_=> .bad
  |_,_,_=> .bad
def mn (d:Int):Option SV->Option Int
  |none=>some d
  |some (.v (.int _ z))=>some z
  |_=>none
def CK (P:Program) (T:TypeId) (s:SV) (lo hi:Option SV) (m:Nat->bk):R:=
  match P.underlying T,s with
  |some (.slice E),.sl q sz n f=>
   match P.info? E,mn 0 lo,mn n hi with
   |some i,some l,some h=>match Nat.beq i.size sz with|true=> .dz ((0<=l/\l<=h/\h<=n)) (.sl q sz (h.toNat -l.toNat) λi j=>f (l.toNat+i) j)|false=> .bad
   |_,_,_=> .bad
  |some (.slice E),.aV k st p e n=>
   match P.info? E,mn 0 lo,mn n hi with
   |some i,some l,some h=>
    match cC m k st p,fC (m k).b p with
    |true,some r=>match Nat.beq i.size r.sz with|true=> .dz ((0<=l/\l<=h/\h<=n)) (.aV k st p (e+l.toNat) (h.toNat -l.toNat))|false=> .bad
    |_,_=> .bad
   |_,_,_=> .bad
  |some (.array len E),.ptr k st p ii j=>
   match P.info? E,lo,hi,cC m k st p with
   |some i,none,none,true=>match Nat.beq i.size 1,Nat.blt 0 len,Nat.ble len 1000000 with|true,true,true=> .ok (.sa k st p ii j len)|_,_,_=> .bad
   |_,_,_,_=> .bad
  |some .string,.v (.string x)=>
   match mn 0 lo,mn x.size hi with
   |some l,some h=> .dz ((0<=l/\l<=h/\h<=x.size)) (.v (.string (x.extract l.toNat h.toNat)))
   |_,_=> .bad
  |_,_=> .bad
def Ca (fn:Fn) (first fv:List SV):R:=
  match fn,first with
  | .func id,[]=> .ok (.fn id fv.length (aH fv))
  | .func id,[s]=>match fv with| []=> .ok (.bm id s)|_=> .bad
  | .method nm,[s]=>match fv with| []=> .ok (.mv nm s)|_=> .bad
  |_,_=> .bad
def mM (m:Nat->bk):SV->Option (List SV)
  | .ag n f=>some ((List.range n).map f)
  | .v (.agg cs)=>some (cs.toList.map .v)
  | .v (.tuple _)=>none
  | .aK=>none
  | .tp _ _=>none
  | .il _ _ _=>none
  | .ptr k st p i j=>match cC m k st p with|true=>some [.ptr k st p i j]|false=>none
  | .pe k st p i j len z=>match cC m k st p with|true=>some [.pe k st p i j len z]|false=>none
  | .aV k st p e n=>match cC m k st p with|true=>some [.aV k st p e n]|false=>none
  | .sa k st p i j n=>match cC m k st p with|true=>some [.sa k st p i j n]|false=>none
  |s=>some [s]
def lQ (l:List SV):Nat->List SV->List SV
  |_,[]=>l
  |off,c::r=>lQ (l.set off c) (off+1) r
def lV (m:Nat->bk) (place:Nat->Option (Nat×Nat)) (cells:List SV):List (Nat×SV)->Option (List SV)
  | []=>some cells
  |(i,s)::rest=>
   match place i,mM m s with
   |some (off,size),some cs=>
    match Nat.beq cs.length size,Nat.ble (off+cs.length) cells.length with
    |true,true=>lV m place (lQ cells off cs) rest
    |_,_=>none
   |_,_=>none
def Vq (P:Program) (fs:List Field):Option (List (Nat×Nat)):=fs.mapM (λf=>(P.info? f.type).map λi=>(f.offset,i.size))
def CL (P:Program) (T:TypeId) (parts:List (Nat×SV)) (m:Nat->bk):R:=
  match P.info? T,P.underlying T with
  |some i,some (.struct fs)=>
   match i.zero,Vq P fs.toList with
   |some z,some pl=>
    match lV m (λk=>pl[k]?) (z.cells.toList.map .v) parts with
    |some l=> .ok (.ag l.length (aH l))
    |none=> .bad
   |_,_=> .bad
  |some i,some (.array _ E)=>
   match i.zero,P.info? E with
   |some z,some ie=>
    match lV m (λk=>some (k*ie.size,ie.size)) (z.cells.toList.map .v) parts with
    |some l=> .ok (.ag l.length (aH l))
    |none=> .bad
   |_,_=> .bad
  |_,_=> .bad
section
variable {P:Program} {w:World} {ω:Ow} {ρ:Operand->SV} {M:Mem} {a:Act}
theorem W2 (h:Cx P w ω ρ M a) {o:Oper} {op:BinOp} {T T':TypeId} {x y:Operand} {K:SV->Prop} (ho:o.op= .binOp op T x y T')
    (he:(Er P op T (ρ x) (ρ y)).run K):fb P w ω a o K:=by
  have hx:=h.val x
  have hy:=h.val y
  unfold Er at he
  split at he
  · next n f m g hs ht hg=>
    rw[hs]at hx;rw[ht]at hy
    split at he
    · next b hb=>
      have hr:=λw'=>yU 10000 hb hx hy w'
      obtain⟨xs,ex,_⟩:=hx
      obtain⟨ys,ey,_⟩:=hy
      rw[ex,ey]at hr
      exact⟨.v (.bool b),.bool b,j8 ho ex ey (λw=>run_eqGuard_agg w _ _ _ _ _ _ hg) (λw=>by rw[run_eql_struct,hr w];rfl),rfl,he⟩
    · next b hb=>
      have hr:=λw'=>yU 10000 hb hx hy w'
      obtain⟨xs,ex,_⟩:=hx
      obtain⟨ys,ey,_⟩:=hy
      rw[ex,ey]at hr
      exact⟨.v (.bool (!b)),.bool (!b),j8 ho ex ey (λw=>run_eqGuard_agg w _ _ _ _ _ _ hg) (λw=>by rw[run_neq_struct,hr w];rfl),rfl,he⟩
    · exact he.elim
  · exact he.elim
theorem uQ (h:Cx P w ω ρ M a) {o:Oper} {c x y:Operand} {K:SV->Prop} (ho:o.op= .pick c x y)
    (he:(vd (ρ c) (ρ x) (ρ y)).run K):fb P w ω a o K:=by
  have hc:=h.val c
  have hx:=h.val x
  have hy:=h.val y
  unfold vd at he
  split at he
  · next hs=>
    rw[hs]at hc
    have ec:a.eval c= .bool true:=hc
    exact⟨_,_,by simp[execOp,ho,ec,asBool],hx,he⟩
  · next hs=>
    rw[hs]at hc
    have ec:a.eval c= .bool false:=hc
    exact⟨_,_,by simp[execOp,ho,ec,asBool],hy,he⟩
  · next b hs=>
    rw[hs]at hc
    have ec:a.eval c= .bool b:=hc
    split at he
    · next p q hp hq=>
      have ex:=j7 hp hx
      have ey:=j7 hq hy
      exact⟨.v (.bool (bif b then p else q)),.bool (bif b then p else q),by cases b<;>simp[execOp,ho,ec,asBool,ex,ey],rfl,he⟩
    · exact he.elim
  · exact he.elim
theorem YW (h:Cx P w ω ρ M a) {sg:Bool} {o:Oper} {op:UnOp} {T:TypeId} {x:Operand} {K:SV->Prop} (ho:o.op= .unOp op T x)
    (he:(Fp sg op (ρ x)).run K):fb P w ω a o K:=by
  have hx:=h.val x
  unfold Fp at he
  split at he
  · next hs=>
    rw[hs]at hx
    have ex:a.eval x= .bool true:=hx
    exact⟨.bl false,.bool false,by simp[execOp,ho,ex,Op.unary],rfl,he⟩
  · next hs=>
    rw[hs]at hx
    have ex:a.eval x= .bool false:=hx
    exact⟨.bl true,.bool true,by simp[execOp,ho,ex,Op.unary],rfl,he⟩
  · next b hs=>
    rw[hs]at hx
    have ex:a.eval x= .bool b:=hx
    exact⟨.v (.bool (!b)),.bool (!b),by simp[execOp,ho,ex,Op.unary],rfl,he⟩
  · next k n hs=>
    rw[hs]at hx
    have ex:a.eval x= .int k n:=hx
    cases sg with
    |true=>exact⟨.v (.int k (k.wrap (0 -n))),.int k (k.wrap (0 -n)),by simp[execOp,ho,ex,Op.unary,Op.intArith],rfl,he⟩
    |false=>
     have e:k.wrap (0 -n)= -n:=by have:=he.1;unfold rE at this;omega
     exact⟨.v (.int k (-n)),.int k (-n),by simp only[execOp,ho,ex,Op.unary,Op.intArith,e,Sem.run_bind,Sem.run_pure,Result.andThen_ok],rfl,he.2⟩
  · exact he.elim
theorem Vo (h:Cx P w ω ρ M a) {sg:Bool} {o:Oper} {S D:TypeId} {x:Operand} {K:SV->Prop} (ho:o.op= .convert S D x)
    (he:(DJ P sg S D (ρ x)).run K):fb P w ω a o K:=by
  have hx:=h.val x
  unfold DJ at he
  split at he
  · next d k k' n hS hD hs=>
    rw[hs]at hx
    have ex:a.eval x= .int k' n:=hx
    have hr:(execOp a.eval o).run P w= .ok (.value (.int k (k.wrap n))) w:=by simp[execOp,ho,ex,convert,run_underlying hS,run_underlying hD,Conv.intToInt,Result.andThen]
    cases sg with
    |true=>exact⟨.v (.int k (k.wrap n)),_,hr,rfl,he⟩
    |false=>
     have e:k.wrap n=n:=he.1
     exact⟨.v (.int k n),_,hr,by rw[e];rfl,he.2⟩
  · exact he.elim
theorem Q6 {T:TypeId} {s:SV} {u:Value} (h:Den w ω s u):Den w ω (CM T s) (.iface T u):=by
  unfold CM
  split
  · obtain rfl:=h;rfl
  · obtain rfl:=h;rfl
  · exact⟨u,rfl,h⟩
theorem RB (h:Cx P w ω ρ M a) {o:Oper} {T:TypeId} {x:Operand} {K:SV->Prop} (ho:o.op= .makeInterface T x)
    (he:(BK P T (ρ x)).run K):fb P w ω a o K:=by
  have hx:=h.val x
  unfold BK at he
  split at he
  · exact he.elim
  · next d hn hu=>
    refine⟨_,_,?_,Q6 hx,he⟩
    simp only[execOp,ho,Instr.makeInterface,Sem.run_bind,run_underlying hu,Result.andThen_ok]
    cases d<;>first|exact absurd rfl (hn _)|rfl
  · exact he.elim
theorem RC (h:Cx P w ω ρ M a) {o:Oper} {i:Nat} {x:Operand} {K:SV->Prop} (ho:o.op= .extract x i)
    (he:(uw (ρ x) i).run K):fb P w ω a o K:=by
  have hx:=h.val x
  unfold uw at he
  split at he
  · next n f hs=>
    rw[hs]at hx
    obtain⟨cs,ex,_,hj⟩:=hx
    split at he
    · next ai=>
      obtain⟨y,J,U⟩:=hj i (Nat.le_of_ble_eq_true ai)
      exact⟨_,y,by simp[execOp,ho,ex,Instr.extract,J],U,he⟩
    · exact he.elim
  · exact he.elim
theorem Q5 (h:Cx P w ω ρ M a) {o:Oper} {x:Operand} {K:SV->Prop} (ho:o.op= .nilCheck x)
    (he:(Bz P (ρ x) (ae M)).run K):fb P w ω a o K:=by
  have hx:=h.val x
  unfold Bz at he
  have run: ∀u,(∃ad,u= .pointer (some ad))\/(∃f p c,u= .func (.func f) p c)->a.eval x=u->(execOp a.eval o).run P w= .ok (.value u) w:=by
    rintro u (⟨ad,rfl⟩|⟨f,p,c,rfl⟩) e<;>simp[execOp,ho,e]
  split at he
  · next k st p i j hs=>
    split at he
    · next bC=>
      rw[hs]at hx
      obtain⟨_,L,_,_,e⟩:=fS h.mem bC hx
      exact⟨_,_,run _ (.inl ⟨_,e⟩) rfl,hx,he⟩
    · exact he.elim
  · next k st p i j len z hs=>
    split at he
    · next bC=>
      rw[hs]at hx
      obtain⟨_,L,_,_,_,e⟩:=fS h.mem bC hx
      exact⟨_,_,run _ (.inl ⟨_,e⟩) rfl,hx,he⟩
    · exact he.elim
  · next q n f hs=>
    rw[hs]at hx
    have dt:=hx
    obtain⟨b,ex,_⟩:=hx
    exact⟨_,_,run _ (.inl ⟨_,ex⟩) rfl,dt,he⟩
  · next id n f hs=>
    rw[hs]at hx
    have dt:=hx
    obtain⟨b,ex,_⟩:=hx
    exact⟨_,_,run _ (.inr ⟨_,_,_,ex⟩) rfl,dt,he⟩
  · next id s hs=>
    rw[hs]at hx
    have dt:=hx
    obtain⟨b,ex,_⟩:=hx
    exact⟨_,_,run _ (.inr ⟨_,_,_,ex⟩) rfl,dt,he⟩
  · next nm t s hs=>
    rw[hs]at hx
    have dt:=hx
    obtain⟨u,ex,y,rfl,_⟩:=hx
    split at he
    · next f hm=>
      refine⟨.mv nm (.ic t s),.func (.method nm) #[.iface t y] #[],?_,by rw[ex]at dt;exact dt,he⟩
      unfold vf at hm
      split at hm
      · next i d hi hd=>
        split at hm
        · next m hf=>
          split at hm
          · next f e hp mw=>
            obtain⟨k,hk⟩: ∃k,P.types.size+Made.depth=k+1:=⟨P.types.size+99,by show P.types.size+100=_;omega⟩
            simp[execOp,ho,ex,hk,nilAhead,typeInfo,hi,hf,hp,followBlind,mw,Result.andThen]
          · cases hm
        · cases hm
      · cases hm
    · exact he.elim
  · next q sz n f hs=>
    rw[hs]at hx
    have dt:=hx
    obtain⟨b,ex,_⟩:=hx
    exact⟨_,_,run _ (.inl ⟨_,ex⟩) rfl,dt,he⟩
  · next ad hs=>
    rw[hs]at hx
    exact⟨.v (.pointer (some ad)),_,run _ (.inl ⟨_,rfl⟩) hx,rfl,he⟩
  · exact he.elim
theorem W4 (h:Cx P w ω ρ M a) {o:Oper} {T:TypeId} {x:Operand} {K:SV->Prop} (ho:o.op= .call {callee:= .builtin .len,args:= #[x],argTypes:= #[T]})
    (he:(Et P T (ρ x) (ae M)).run K):fb P w ω a o K:=by
  have hx:=h.val x
  unfold Et at he
  have run: ∀p n cap,(∃E,P.underlying T=some (.slice E))->a.eval x= .slice p n cap->(execOp a.eval o).run P w= .ok (.value (.int .i64 n)) w:=by
    rintro p n cap ⟨E,hu⟩ ex
    simp[execOp,ho,resolve,invoke,builtin,Builtin.len_,ex,run_underlying hu,Result.andThen,goInt]
  split at he
  · next E q sz n f hu hs=>
    rw[hs]at hx
    obtain⟨p,cap,ex,_,gQ,_⟩:=hx
    exact⟨.v (.int .i64 n),_,run _ _ _ ⟨E,hu⟩ ex,rfl,he (by unfold maxLen at gQ;omega)⟩
  · next E k st p e n hu hs=>
    split at he
    · next bC=>
      rw[hs]at hx
      have e0:st=Sy.st ω.cur k p:=by
        rw[h.mem.cur]
        cases p with
        |none=>exact Nat.eq_of_beq_eq_true bC
        |some _=>exact Nat.eq_of_beq_eq_true bC
      rcases hx with hx|⟨_,q,cap,ex,_,gQ,_⟩
      · omega
      exact⟨.v (.int .i64 n),_,run _ _ _ ⟨E,hu⟩ ex,rfl,he (by unfold maxLen at gQ;omega)⟩
    · exact he.elim
  · next E k st p i j n hu hs=>
    split at he
    · next bC=>
      rw[hs]at hx
      obtain⟨_,L,_,_,_,ex⟩:=fS h.mem bC hx
      exact⟨.v (.int .i64 n),_,run _ _ _ ⟨E,hu⟩ ex,rfl,he⟩
    · exact he.elim
  · next E hu hs=>
    rw[hs]at hx
    exact⟨.v (.int .i64 0),_,run _ _ _ ⟨E,hu⟩ hx,rfl,he⟩
  · next E hu hs=>
    rw[hs]at hx
    obtain⟨p,ex⟩:=hx
    exact⟨.v (.int .i64 0),_,run _ _ _ ⟨E,hu⟩ ex,rfl,he⟩
  · next y hu hs=>
    rw[hs]at hx
    have ex:a.eval x= .string y:=hx
    exact⟨.v (.int .i64 y.size),_,by simp[execOp,ho,resolve,invoke,builtin,Builtin.len_,ex,run_underlying hu,Result.andThen,goInt],rfl,he⟩
  · exact he.elim
theorem MC (h:Cx P w ω ρ M a) {o:Oper} {mx:Bool} {x y:Operand} {ts:Array TypeId} {K:SV->Prop} (ho:o.op= .call {callee:= .builtin (if mx then .max else .min),args:= #[x,y],argTypes:=ts})
    (he:(zC mx [ρ x,ρ y]).run K):fb P w ω a o K:=by
  have hx:=h.val x
  have hy:=h.val y
  unfold zC at he
  split at he
  · next k m k' n hl=>
    obtain⟨J,U⟩:ρ x= .v (.int k m)/\ρ y= .v (.int k' n):=by simpa using hl
    rw[J]at hx;rw[U]at hy
    have ex:a.eval x= .int k m:=hx
    have ey:a.eval y= .int k' n:=hy
    split at he
    · next hk=>
      exact⟨.v (.int k (max m n)),.int k (max m n),by
        simp[execOp,ho,resolve,invoke,builtin,Builtin.max_,Builtin.max2,ex,ey]
        split<;>omega,rfl,he⟩
    · next hk=>
      exact⟨.v (.int k (min m n)),.int k (min m n),by
        simp[execOp,ho,resolve,invoke,builtin,Builtin.min_,Builtin.min2,ex,ey]
        split<;>omega,rfl,he⟩
    · exact he.elim
  · exact he.elim
theorem Vp (h:Cx P w ω ρ M a) {o:Oper} {T:TypeId} {x:Operand} {j:Nat} {K:SV->Prop} (ho:o.op= .field T x j)
    (he:(DK P T (ρ x) j).run K):fb P w ω a o K:=by
  have hx:=h.val x
  unfold DK at he
  split at he
  · next fs n f hu hs=>
    rw[hs]at hx
    split at he
    · next fd tL=>
      split at he
      · next t ht=>
        obtain⟨cs,ex,hr⟩:=hx
        obtain⟨v,hv0,hv⟩:=uJ ht ⟨cs,rfl,hr⟩
        exact⟨t,v,by simp[execOp,ho,Instr.field,run_underlying hu,tL,ex,asAgg,hv0 w,Result.andThen],hv,he⟩
      · exact he.elim
    · exact he.elim
  · exact he.elim
theorem YX (h:Cx P w ω ρ M a) {o:Oper} {T:TypeId} {lit:Bool} {x y:Operand} {K:SV->Prop} (ho:o.op= .index T x y)
    (he:(Fq P T lit (ρ x) (ρ y)).run K):fb P w ω a o K:=by
  have hx:=h.val x
  have hy:=h.val y
  unfold Fq at he
  split at he
  · next s k z hu hs ht=>
    rw[hs]at hx;rw[ht]at hy
    have ex:a.eval x= .string s:=hx
    have ey:a.eval y= .int k z:=hy
    obtain⟨⟨h0,J⟩,hK⟩:=he
    have ai:z.toNat<s.size:=by omega
    have tt:z.toNat<s.data.toList.length:=by simpa using ai
    refine⟨.v (.int .u8 (s.data.toList.getD z.toNat 0).toNat),.int .u8 (s.data.toList.getD z.toNat 0).toNat,?_,rfl,hK⟩
    have e1:s[z.toNat]? =some (s.data.toList.getD z.toNat 0):=by
      rw[List.getD_eq_getElem?_getD,List.getElem?_eq_getElem tt]
      rw[getElem?_pos s z.toNat ai]
      rfl
    simp[execOp,ho,ex,ey,Instr.index,asIntOf,run_underlying hu,h0,e1,Result.andThen]
  · next len E n f k z hu hs ht=>
    rw[hs]at hx;rw[ht]at hy
    have ey:a.eval y= .int k z:=hy
    split at he
    · next i d hi hd=>
      split at he
      · next J U h3=>
        have U:=Nat.eq_of_beq_eq_true U
        have h3:=Nat.eq_of_beq_eq_true h3
        obtain⟨cs,ex,hn,hj⟩:=hx
        have bV:(sizeOf E).run P w= .ok i.size w:=by simp[sizeOf,run_typeInfo w hi,Result.andThen]
        have ha:(isAgg E).run P w= .ok false w:=by
          simp only[isAgg,Sem.run_bind,run_underlying hd,Result.andThen]
          cases d<;>simp[kT]at J<;>simp
        have key:0<=z->z<len-> ∃u,(execOp a.eval o).run P w= .ok (.value u) w/\Den w ω (f z.toNat) u:=by
          intro g0 g1
          obtain⟨u,e1,hu1⟩:=hj z.toNat (by rw[U,h3];omega)
          exact⟨u,by simp[execOp,ho,ex,ey,Instr.index,asIntOf,run_underlying hu,g0,g1,bV,h3,part,ha,e1,Result.andThen],hu1⟩
        split at he
        · obtain⟨⟨g0,g1⟩,hK⟩:=he
          obtain⟨u,r1,r2⟩:=key g0 g1
          exact⟨_,u,r1,r2,hK⟩
        · next kk=>
          split at he
          · next l hl=>
            obtain⟨⟨g0,g1⟩,hK⟩:=he
            obtain⟨u,r1,r2⟩:=key g0 g1
            have hl:=r_ hl
            have hq:=congrArg (λl=>l[z.toNat]?) hl
            simp only[List.getElem?_map,List.getElem?_range (show z.toNat<len by omega),Option.map_some]at hq
            cases jU:l[z.toNat]? with
            |none=>rw[jU]at hq;cases hq
            |some y=>
             rw[jU]at hq
             simp only[Option.map_some,Option.some.injEq]at hq
             have kl:fj l z.toNat=y:=by simp[fj,List.getD_eq_getElem?_getD,jU]
             exact⟨_,u,r1,by rw[kl,<-hq];exact r2,hK⟩
          · exact he.elim
        · exact he.elim
      · exact he.elim
    · exact he.elim
  · exact he.elim
theorem I9 {d:Int} {lo:Option Operand} {z:Int} (h:Cx P w ω ρ M a) (hl:mn d (lo.map ρ)=some z):
    (lo=none/\z=d)\/ ∃x k,lo=some x/\a.eval x= .int k z:=by
  cases lo with
  |none=>simp[mn]at hl;exact .inl ⟨rfl,hl.symm⟩
  |some x=>
   have hx:=h.val x
   simp only[Option.map_some,mn]at hl
   split at hl
   · next e=>cases e
   · next k z' e=>
     obtain rfl:=Option.some.inj hl
     have e:=Option.some.inj e
     rw[e]at hx
     exact .inr ⟨x,k,rfl,hx⟩
   · cases hl
theorem BA (h:Cx P w ω ρ M a) {lo hi:Option Operand} {l hh:Int} {n cap:Nat} {sl:Bool} (hl:mn 0 (lo.map ρ)=some l) (ow:mn n (hi.map ρ)=some hh) (g0:0<=l) (g1:l<=hh) (g2:hh<=n) (iO:n<=cap):
    (Instr.sliceBounds sl n cap (lo.map a.eval) (hi.map a.eval) none).run P w= .ok (l.toNat,hh.toNat,cap) w:=by
  rcases I9 h hl with⟨rfl,rfl⟩|⟨y,k,rfl,ey⟩<;>rcases I9 h ow with⟨rfl,rfl⟩|⟨y2,k2,rfl,Qt⟩
  · simp[Instr.sliceBounds]
  · simp[Instr.sliceBounds,Instr.sliceBound,Qt,asIntOf,Result.andThen,show(0:Int)<=hh by omega,show hh<=cap by omega]
  · simp[Instr.sliceBounds,Instr.sliceBound,ey,asIntOf,Result.andThen,g0,show l<=n by omega]
  · simp[Instr.sliceBounds,Instr.sliceBound,ey,Qt,asIntOf,Result.andThen,g0,show(0:Int)<=hh by omega,show hh<=cap by omega,show l<=max hh 0 by omega]
theorem Ts (h:Cx P w ω ρ M a) {o:Oper} {T:TypeId} {x:Operand} {lo hi:Option Operand} {K:SV->Prop} (ho:o.op= .slice T x lo hi none)
    (he:(CK P T (ρ x) (lo.map ρ) (hi.map ρ) (ae M)).run K):fb P w ω a o K:=by
  have hx:=h.val x
  unfold CK at he
  split at he
  · next E q sz n f hu hs=>
    rw[hs]at hx
    split at he
    · next i l hh gR hl ow=>
      split at he
      · next bV=>
        have bV:=Nat.eq_of_beq_eq_true bV
        obtain⟨⟨g0,g1,g2⟩,hK⟩:=he
        obtain⟨p,cap,ex,iO,gQ,hj⟩:=hx
        have eV:(sizeOf E).run P w= .ok i.size w:=by simp[sizeOf,run_typeInfo w gR,Result.andThen]
        have hb:=BA (P:=P) (sl:=true) h hl ow g0 g1 g2 iO
        refine⟨.sl q sz (hh.toNat -l.toNat) λi j=>f (l.toNat+i) j,.slice (if cap=l.toNat then p else p.map (·.add (l.toNat*i.size))) (hh.toNat -l.toNat) (cap -l.toNat),?_,?_,hK⟩
        · simp only[execOp,ho,ex,Instr.sliceAt,Instr.slice,Sem.run_bind,run_underlying hu,Result.andThen_ok,Option.map_none,hb,eV]
          rfl
        · refine⟨_,_,rfl,by omega,by omega,?_⟩
          by_cases hz:hh.toNat -l.toNat=0
          · exact .inl hz
          · right
            have hc:cap≠l.toNat:=by omega
            obtain⟨ad,rfl,hk⟩:=hj.resolve_left (by omega)
            refine⟨ad.add (l.toNat*i.size),by simp[hc],λi' gR j jj=>?_⟩
            obtain⟨u,e1,e2,e3⟩:=hk (l.toNat+i') (by omega) j jj
            refine⟨u,?_,by rw[gn];exact e2,e3⟩
            rw[add_add,show l.toNat*i.size+(i'*sz+j)=(l.toNat+i')*sz+j by rw[bV,Nat.add_mul];omega]
            exact e1
      · exact he.elim
    · exact he.elim
  · next E k st p e n hu hs=>
    rw[hs]at hx
    split at he
    · next i l hh gR hl ow=>
      split at he
      · next r bC hr=>
        split at he
        · next bV=>
          have bV:=Nat.eq_of_beq_eq_true bV
          obtain⟨⟨g0,g1,g2⟩,hK⟩:=he
          have e0:st=Sy.st ω.cur k p:=by
            rw[h.mem.cur]
            cases p with
            |none=>exact Nat.eq_of_beq_eq_true bC
            |some _=>exact Nat.eq_of_beq_eq_true bC
          rcases hx with hx|⟨_,q,cap,ex,iO,gQ,hx⟩
          · omega
          have eV:(sizeOf E).run P w= .ok i.size w:=by simp[sizeOf,run_typeInfo w gR,Result.andThen]
          have hb:=BA (P:=P) (sl:=true) h hl ow g0 g1 g2 iO
          refine⟨.aV k st p (e+l.toNat) (hh.toNat -l.toNat),.slice (if cap=l.toNat then q else q.map (·.add (l.toNat*i.size))) (hh.toNat -l.toNat) (cap -l.toNat),?_,Or.inr ⟨e0,_,_,rfl,by omega,by omega,?_⟩,hK⟩
          · simp only[execOp,ho,ex,Instr.sliceAt,Instr.slice,Sem.run_bind,run_underlying hu,Result.andThen_ok,Option.map_none,hb,eV]
            rfl
          · by_cases hc:cap=l.toNat
            · left;omega
            · right
              rcases hx with hx|⟨L,hL,rfl,A3,hx3⟩
              · omega
              obtain⟨r',y1,y2,y3,_⟩:=h.mem.row _ _ _ hL
              obtain rfl:r=r':=Option.some.inj (hr.symm.trans y1)
              refine⟨L,hL,?_,?_,by omega⟩
              · simp[hc,ju,bV,y2,Nat.add_mul,Nat.add_assoc]
              · rw[show e+l.toNat+(cap -l.toNat)=e+cap by omega];exact A3
        · exact he.elim
      · exact he.elim
    · exact he.elim
  · next len E k st p ii j hu hs=>
    rw[hs]at hx
    split at he
    · next i gR hl ow bC=>
      split at he
      · next J U h3=>
        have U:0<len:=Nat.le_of_ble_eq_true U
        have h3:len<=1000000:=Nat.le_of_ble_eq_true h3
        obtain⟨e0,L,hL,hc,ex⟩:=fS h.mem bC hx
        have hl:lo=none:=by cases lo<;>simp at hl;rfl
        have hh:hi=none:=by cases hi<;>simp at ow;rfl
        subst hl;subst hh
        refine⟨.sa k st p ii j len,.slice (some ⟨L.b,L.o+ii*L.sz+j,none⟩) len len,?_,Or.inr ⟨e0,L,hL,hc,by unfold maxLen;omega,rfl⟩,he⟩
        have eV:(sizeOf E).run P w= .ok i.size w:=by simp[sizeOf,run_typeInfo w gR,Result.andThen]
        simp[execOp,ho,ex,Instr.sliceAt,Instr.sureAddr,Instr.sliceBounds,run_underlying hu,eV,Result.andThen,Addr.add]
      · exact he.elim
    · exact he.elim
  · next s hu hs=>
    rw[hs]at hx
    have ex:a.eval x= .string s:=hx
    split at he
    · next l hh hl ow=>
      obtain⟨⟨g0,g1,g2⟩,hK⟩:=he
      have hb:=BA (P:=P) (sl:=false) h hl ow g0 g1 g2 (Nat.le_refl _)
      refine⟨.v (.string (s.extract l.toNat hh.toNat)),.string (s.extract l.toNat hh.toNat),?_,rfl,hK⟩
      simp only[execOp,ho,ex,Instr.sliceAt,Instr.slice,Sem.run_bind,run_underlying hu,Result.andThen_ok,Option.map_none,Option.isSome_none,Bool.false_eq_true,if_false,hb]
      rfl
    · exact he.elim
  · exact he.elim
theorem Sj (h:Cx P w ω ρ M a) {o:Oper} {fn:Fn} {first fv:Array Operand} {K:SV->Prop} (ho:o.op= .makeFunc fn first fv)
    (he:(Ca fn (first.toList.map ρ) (fv.toList.map ρ)).run K):fb P w ω a o K:=by
  unfold Ca at he
  split at he
  · next id hf=>
    have hf:first= #[]:=by
      obtain⟨l⟩:=first
      simpa using hf
    refine⟨.fn id (fv.toList.map ρ).length (aH (fv.toList.map ρ)),.func (.func id) #[] (fv.map a.eval),by simp[execOp,ho,Instr.makeFunc,hf],⟨_,rfl,by simp,λj hj=>?_⟩,he⟩
    have hj:j<fv.size:=by simpa using hj
    exact⟨a.eval fv[j],by simp[hj],by
      have:=h.val fv[j]
      simpa [aH,List.getD_eq_getElem?_getD,hj]using this⟩
  · next id s hf=>
    split at he
    · next hc=>
      have hc:fv= #[]:=by
        obtain⟨l⟩:=fv
        simpa using hc
      obtain⟨l⟩:=first
      match l,hf with
      | [x],hf=>
        have hf:ρ x=s:=by simpa using hf
        subst hf
        exact⟨.bm id (ρ x),.func (.func id) #[a.eval x] #[],by simp[execOp,ho,Instr.makeFunc,hc],⟨_,rfl,h.val x⟩,he⟩
    · exact he.elim
  · next nm s hf=>
    split at he
    · next hc=>
      have hc:fv= #[]:=by
        obtain⟨l⟩:=fv
        simpa using hc
      obtain⟨l⟩:=first
      match l,hf with
      | [x],hf=>
        have hf:ρ x=s:=by simpa using hf
        subst hf
        exact⟨.mv nm (ρ x),.func (.method nm) #[a.eval x] #[],by simp[execOp,ho,Instr.makeFunc,hc],⟨_,rfl,h.val x⟩,he⟩
    · exact he.elim
  · exact he.elim
theorem CN (hm:aR w ω M) {k s:Nat} {p:Path} {R:Loc->Prop} (h:cC (ae M) k s p=true) (ha:At ω k s p R) {u:Value} (hu: ∀L,R L->u.cells= #[u]):u.cells= #[u]:=by
  obtain⟨_,L,_,hR⟩:=fS hm h ha
  exact hu L hR
theorem js (hm:aR w ω M) {k s:Nat} {p:Path} (h:cC (ae M) k s p=true):s=st ω.cur k p:=by
  rw[hm.cur]
  cases p with
  |none=>exact Nat.eq_of_beq_eq_true h
  |some _=>exact Nat.eq_of_beq_eq_true h
theorem uk (hm:aR w ω M) {s:SV} {u:Value} {l:List SV} (h:mM (ae M) s=some l) (hd:Den w ω s u):bX w ω l u.cells.toList:=by
  have one: ∀{s:SV},Den w ω s u->u.cells= #[u]->bX w ω [s] u.cells.toList:=λh e=>by rw[e];exact⟨h,trivial⟩
  cases s with
  |es=>
   obtain rfl:=Option.some.inj h
   have wq:=hd
   obtain⟨p,rfl⟩:=wq
   exact one hd rfl
  |ag n f=>
   obtain rfl:=Option.some.inj h
   obtain⟨cs,rfl,hn,hj⟩:=hd
   refine bX.mk (by simp[Value.cells,hn]) λi hi=>?_
   obtain⟨x,J,U⟩:=hj i (by simpa using hi)
   have gR:i<n:=by simpa using hi
   refine⟨x,by simpa [Value.cells]using J,?_⟩
   rw[List.getD_eq_getElem?_getD,List.getElem?_map,List.getElem?_range gR]
   exact U
  |v x=>
   have wq:=hd
   obtain rfl:u=x:=wq
   cases u with
   |agg cs=>
    obtain rfl:=Option.some.inj h
    refine bX.mk (by simp[Value.cells]) λi hi=>?_
    have gR:i<cs.size:=by simpa using hi
    refine⟨cs[i],by simp[Value.cells,gR],?_⟩
    rw[List.getD_eq_getElem?_getD,List.getElem?_map]
    simp[gR,Den]
   |tuple cs=>cases h
   |_=>obtain rfl:=Option.some.inj h;exact one hd rfl
  |aK=>cases h
  |tp n f=>cases h
  |il sz n f=>cases h
  |ptr k st p i j=>
   simp only[mM]at h
   split at h
   · next bC=>obtain rfl:=Option.some.inj h;exact one hd (CN hm bC hd λL hR=>by rw[hR.2];rfl)
   · cases h
  |pe k st p i j len z=>
   simp only[mM]at h
   split at h
   · next bC=>obtain rfl:=Option.some.inj h;exact one hd (CN hm bC hd λL hR=>by rw[hR.2.2];rfl)
   · cases h
  |sa k st p i j n=>
   simp only[mM]at h
   split at h
   · next bC=>obtain rfl:=Option.some.inj h;exact one hd (CN hm bC hd λL hR=>by rw[hR.2.2];rfl)
   · cases h
  |aV k st p e n=>
   simp only[mM]at h
   split at h
   · next bC=>
     obtain rfl:=Option.some.inj h
     have e0:=js hm bC
     refine one hd ?_
     rcases hd with hd|⟨_,q,cap,rfl,_⟩
     · omega
     · rfl
   · cases h
  |bl b=>obtain rfl:=Option.some.inj h;exact one hd (by obtain rfl:=hd;rfl)
  |pt q n f=>obtain rfl:=Option.some.inj h;exact one hd (by obtain⟨_,rfl,_⟩:=hd;rfl)
  |sl q sz n f=>obtain rfl:=Option.some.inj h;exact one hd (by obtain⟨_,_,rfl,_⟩:=hd;rfl)
  |pa q sz n f=>obtain rfl:=Option.some.inj h;exact one hd (by obtain⟨_,rfl,_⟩:=hd;rfl)
  |fn id n f=>obtain rfl:=Option.some.inj h;exact one hd (by obtain⟨_,rfl,_⟩:=hd;rfl)
  |bm id s=>obtain rfl:=Option.some.inj h;exact one hd (by obtain⟨_,rfl,_⟩:=hd;rfl)
  |mv nm s=>obtain rfl:=Option.some.inj h;exact one hd (by obtain⟨_,rfl,_⟩:=hd;rfl)
  |ic t s=>obtain rfl:=Option.some.inj h;exact one hd (by obtain⟨_,rfl,_⟩:=hd;rfl)
  |er t tf e at_=>obtain rfl:=Option.some.inj h;exact one hd (by rcases hd with⟨_,_,rfl⟩|⟨_,_,rfl⟩|⟨_,_,_,rfl,_⟩<;>rfl)
theorem G7: ∀(cs:List SV) (vs:List Value),bX w ω cs vs-> ∀(off:Nat) (l:List SV) (m:Array Value),bX w ω l m.toList->
    bX w ω (lQ l off cs) (((vs.zipIdx off).foldl (λ(m:Array Value) (p:Value×Nat)=>m.setIfInBounds p.2 p.1) m).toList)
  | [],[],_,_,_,_,h=>by simpa [lQ]using h
  |c::r,v::t,⟨J,U⟩,off,l,m,h=>by
   simp only[lQ,List.zipIdx_cons,List.foldl_cons]
   exact G7 r t U (off+1) _ _ (by rw[Array.toList_setIfInBounds];exact h.set J off)
  | [],_::_,hd,_,_,_,_=>hd.elim
  |_::_,[],hd,_,_,_,_=>hd.elim
theorem QW (l:List Value): ∀(k off:Nat) (m:Array Value),(l.zipIdx k).foldl (λ(m:Array Value) (p:Value×Nat)=>m.setIfInBounds (off+p.2) p.1) m=(l.zipIdx (off+k)).foldl (λ(m:Array Value) (p:Value×Nat)=>m.setIfInBounds p.2 p.1) m:=by
  induction l with
  |nil=>intros;rfl
  |cons v t ih=>intro k off m;simp only[List.zipIdx_cons,List.foldl_cons];rw[ih];rfl
theorem B_ (hm:aR w ω M) {place:Nat->Option (Nat×Nat)}: ∀(ps:List (Nat×SV)) (vs:List (Nat×Value)),ps.length=vs.length->(∀(i:Nat) (s:Nat×SV),ps[i]? =some s-> ∃u,vs[i]? =some (s.1,u)/\Den w ω s.2 u)->
    ∀(l l':List SV) (m:Array Value),bX w ω l m.toList->lV (ae M) place l ps=some l'-> ∃m',Instr.fill place m vs=some m'/\bX w ω l' m'.toList
  | [],[],_,_,l,l',m,h,e=>by
    simp[lV]at e;subst e
    exact⟨m,rfl,h⟩
  | [],_::_,hl,_,_,_,_,_,_=>by simp at hl
  |_::_,[],hl,_,_,_,_,_,_=>by simp at hl
  |(k,s)::r,(k',v)::t,hl,hp,l,l',m,h,e=>by
   obtain⟨u,e1,hu⟩:=hp 0 (k,s) rfl
   simp at e1
   obtain⟨rfl,rfl⟩:=e1
   unfold lV at e
   split at e
   · next off size cs iI gy=>
     split at e
     · next J U=>
       have J:=Nat.eq_of_beq_eq_true J
       have U:=Nat.le_of_ble_eq_true U
       have hd:=uk hm gy hu
       have hlen:=hd.len
       have gQ:=h.len
       have bV:v.cells.size=size:=by rw[<-Array.length_toList,<-hlen,J]
       have jl:Instr.fill place m ((k',v)::t)=Instr.fill place (v.cells.zipIdx.foldl (λcs (p:Value×Nat)=>cs.setIfInBounds (off+p.2) p.1) m) t:=by
         simp only[Instr.fill,iI]
         rw[if_neg]
         simp only[Bool.or_eq_true,decide_eq_true_eq,not_or,bV]
         simp at gQ
         refine⟨by simp,by omega⟩
       rw[jl]
       refine B_ hm r t (by simpa using hl) (λi s hs=>hp (i+1) s (by simpa using hs)) _ l' _ ?_ e
       rw[<-Array.foldl_toList,Array.toList_zipIdx,QW]
       exact G7 cs _ hd off l m h
     · cases e
   · cases e
theorem W5 (l:List Value):bX w ω (l.map .v) l:=by
  induction l with
  |nil=>trivial
  |cons x r ih=>exact⟨rfl,ih⟩
theorem Tt (h:Cx P w ω ρ M a) {o:Oper} {T:TypeId} {parts:Array (Nat×Operand)} {K:SV->Prop} (ho:o.op= .build T parts)
    (he:(CL P T (parts.toList.map λp=>(p.1,ρ p.2)) (ae M)).run K):fb P w ω a o K:=by
  have DH: ∀(i:Nat) (s:Nat×SV),(parts.toList.map λp=>(p.1,ρ p.2))[i]? =some s-> ∃u,(parts.toList.map λp=>(p.1,a.eval p.2))[i]? =some (s.1,u)/\Den w ω s.2 u:=by
    intro i s hs
    rw[List.getElem?_map]at hs
    cases hp:parts.toList[i]? with
    |none=>rw[hp]at hs;cases hs
    |some p=>
     rw[hp]at hs
     obtain rfl:=Option.some.inj hs
     exact⟨a.eval p.2,by rw[List.getElem?_map,hp];rfl,h.val p.2⟩
  have fin: ∀{place:Nat->Option (Nat×Nat)} {z:Value} {l:List SV},lV (ae M) place (z.cells.toList.map .v) (parts.toList.map λp=>(p.1,ρ p.2))=some l->
   ∃m,Instr.fill place z.cells (parts.toList.map λp=>(p.1,a.eval p.2))=some m/\Den w ω (.ag l.length (aH l)) (.agg m):=by
    intro place z l hl
    obtain⟨m,J,U⟩:=B_ h.mem _ _ (by simp) DH _ _ _ (W5 z.cells.toList) hl
    refine⟨m,J,m,rfl,by simpa using U.len.symm,λj hj=>?_⟩
    obtain⟨x,e1,e2⟩:=U.get? j hj
    exact⟨x,by simpa using e1,e2⟩
  unfold CL at he
  split at he
  · next i fs hi hu=>
    split at he
    · next z pl hz iI=>
      split at he
      · next l hl=>
        obtain⟨m,J,U⟩:=fin hl
        refine⟨_,.agg m,?_,U,he⟩
        have rC:(zeroValue T).run P w= .ok z w:=by simp[zeroValue,run_typeInfo w hi,hz,Result.andThen]
        simp[execOp,ho,Instr.build,rC,run_underlying hu,Array.mapM_eq_mapM_toList,run_places w _ _ iI,J]
      · exact he.elim
    · exact he.elim
  · next i len E hi hu=>
    split at he
    · next z ie hz hie=>
      split at he
      · next l hl=>
        obtain⟨m,J,U⟩:=fin hl
        refine⟨_,.agg m,?_,U,he⟩
        have rC:(zeroValue T).run P w= .ok z w:=by simp[zeroValue,run_typeInfo w hi,hz,Result.andThen]
        have hs:(sizeOf E).run P w= .ok ie.size w:=by simp[sizeOf,run_typeInfo w hie,Result.andThen]
        simp only[execOp,ho,Instr.build,Sem.run_bind,rC,run_underlying hu,Result.andThen_ok,hs]
        simp[J]
      · exact he.elim
    · exact he.elim
  · exact he.elim
end
end Go.Sy
set_option linter.unusedVariables false
set_option linter.unusedSimpArgs false
namespace Go.Sy
open Go.RowKit
def MB (P:Program) (sg:Bool) (op:BinOp) (T:TypeId) (y:Operand) (s t:SV):R:=
  match s with
  | .ag _ _=>Er P op T s t
  |_=>Es P sg op T y s t
def ry (P:Program) (sg:Bool) (ρ:Operand->SV) (m:Nat->bk) (op:Op):R:=
  match op with
  | .move x| .assign x=> .ok (ρ x)
  | .load T x=>vb P T (ρ x) m
  | .fieldAddr S x j=>sA P S (ρ x) j m
  | .indexAddr T x y=>uS P T (F7 y) (ρ x) (ρ y) m
  | .binOp op T x y _=>MB P sg op T y (ρ x) (ρ y)
  | .unOp op _ x=>Fp sg op (ρ x)
  | .convert S D x=>DJ P sg S D (ρ x)
  | .makeInterface T x=>BK P T (ρ x)
  | .extract x i=>uw (ρ x) i
  | .nilCheck x=>Bz P (ρ x) m
  | .field T x j=>DK P T (ρ x) j
  | .index T x y=>Fq P T (F7 y) (ρ x) (ρ y)
  | .slice T x lo hi none=>CK P T (ρ x) (lo.map ρ) (hi.map ρ) m
  | .makeFunc fn first fv=>Ca fn (first.toList.map ρ) (fv.toList.map ρ)
  | .build T parts=>CL P T (parts.toList.map λp=>(p.1,ρ p.2)) m
  | .call {callee:= .builtin .len,args:=⟨[x]⟩,argTypes:=⟨[T]⟩}=>Et P T (ρ x) m
  | .call {callee:= .builtin .max,args:=⟨[x,y]⟩,argTypes:=_}=>zC true [ρ x,ρ y]
  | .call {callee:= .builtin .min,args:=⟨[x,y]⟩,argTypes:=_}=>zC false [ρ x,ρ y]
  |_=> .bad
section
variable {P:Program} {w:World} {ω:Ow} {ρ:Operand->SV} {M:Mem} {a:Act}
theorem qE (h:Cx P w ω ρ M a) {sg:Bool} {o:Oper} {K:SV->Prop} (he:(ry P sg ρ (ae M) o.op).run K):fb P w ω a o K:=by
  cases ho:o.op<;>rw[ho]at he<;>unfold ry at he<;>try exact he.elim
  case move x=>exact⟨_,_,by simp[execOp,ho],h.val x,he⟩
  case assign x=>exact⟨_,_,by simp[execOp,ho],h.val x,he⟩
  case load T x=>exact Vn h ho he
  case fieldAddr S x j=>exact I1 h ho he
  case indexAddr T x y=>exact Tr h ho he
  case binOp op T x y T'=>
    simp only[MB]at he
    split at he
    · next n f hs=>exact W2 h ho (by simpa only[hs]using he)
    · exact W3 h ho he
  case unOp op T x=>exact YW h ho he
  case convert S D x=>exact Vo h ho he
  case makeInterface T x=>exact RB h ho he
  case extract x i=>exact RC h ho he
  case nilCheck x=>exact Q5 h ho he
  case field T x j=>exact Vp h ho he
  case index T x y=>exact YX h ho he
  case slice T x lo hi mx=>
    cases mx with
    |none=>exact Ts h ho he
    |some _=>exact he.elim
  case makeFunc fn first fv=>exact Sj h ho he
  case build T parts=>exact Tt h ho he
  case call c=>
    split at he
    all_goals first|exact he.elim|(next e=>cases e;done)|skip
    · next x T e=>cases e;exact W4 h ho he
    · next x y ts e=>cases e;exact MC (mx:=true) h ho he
    · next x y ts e=>cases e;exact MC (mx:=false) h ho he
/-! ### one cell is stored -/
abbrev a_:=List (Nat×bk)
def ov:a_->(Nat->bk)->Nat->bk
  | [],m,k=>m k
  |p::r,m,k=>match Nat.beq p.1 k with|true=>p.2|false=>ov r m k
theorem lj (u:a_) (M:Mem):ov u (ae M)=ae (u++M):=by
  funext k
  induction u with
  |nil=>rfl
  |cons p r ih=>simp only[ov,List.cons_append,ae,ih];cases Nat.beq p.1 k<;>rfl
def nO (m:Nat->bk) (k:Nat):a_:= [(k,⟨(m k).rs+1,(m k).ds+1,none,.dead⟩)]
def fT (m:Nat->bk) (k:Nat) (b:bh):a_:= [(k,⟨(m k).rs,(m k).ds,none,b⟩)]
def lk (m:Nat->bk) (k i j:Nat):a_:= [(k,⟨(m k).rs,(m k).ds+1,some (i,j),(m k).b⟩)]
def pv (m:Nat->bk) (k:Nat) (b:bh):a_:= [(k,{m k with b:=b})]
def Eu (m:Nat->bk) (k i j r sz n:Nat) (f:Nat->Nat->SV) (bp n2:Nat) (g:Nat->Nat->SV):a_:=
  (k,⟨(m k).rs,(m k).ds+1,none,.row sz n ((⟨sz,n,f⟩:Row).set i j (.il bp n2 g)).f⟩)::nO m r
def pd (m:Nat->bk) (nx k i j bp n2:Nat) (g:Nat->Nat->SV):a_:=
  let u1:=fT (ov (lk m k i j) m) nx (.row bp n2 λa b=>dw (g a b))++lk m k i j
  nO (ov u1 m) nx++u1
def Mt:bh->Bool
  | .dead=>true
  |_=>false
def cv (m:Nat->bk) (k:Nat):Bool:=match Mt (m k).b,(m k).hl with|true,none=>true|_,_=>false
def mf (m:Nat->bk):SV->Bool
  | .v (.agg _)| .v (.tuple _)| .aK| .ag _ _| .tp _ _| .il _ _ _=>false
  | .ptr k st p _ _=>cC m k st p
  | .pe k st p _ _ _ _=>cC m k st p
  | .aV k st p _ _=>cC m k st p
  | .sa k st p _ _ _=>cC m k st p
  |_=>true
def yq (m:Nat->bk) (nx k i j sz n:Nat) (f:Nat->Nat->SV) (r bp n2:Nat) (g:Nat->Nat->SV):Option (Prop×a_):=
  match (m k).hl with
  |none=>
   match f i j with
   | .il lH no go=>
     match Nat.beq lH bp,Nat.beq nx k,Nat.beq nx r,cv m nx with
     |true,false,false,true=>
      let u1:=pd m nx k i j lH no go
      some (∀i',qV bp (f i' j)=true,Eu (ov u1 m) k i j r sz n f bp n2 g++u1)
     |_,_,_,_=>none
   |_=>none
  |some (i0,j0)=>
   match Nat.beq j0 j with
   |true=>some (i0=i/\ ∀i',qV bp (f i' j)=true,Eu m k i j r sz n f bp n2 g)
   |false=>none
def sv:SV->Bool
  | .v (.slice none 0 0)=>true
  | .es=>true
  |_=>false
def sV (m:Nat->bk) (nx k:Nat) (p:Path) (i j:Nat) (v:SV):Option (Prop×a_):=
  match (m k).b,p with
  | .cells l,none=>match Nat.blt j l.length,mf m v with|true,true=>some (True,pv m k (.cells (l.set j v)))|_,_=>none
  | .row sz n f,none=>
    match Nat.blt j sz,cM (f i j)with
    |true,false=>match mf m v with|true=>some (∀i',cM (f i' j)=false,pv m k (.row sz n ((⟨sz,n,f⟩:Row).set i j v).f))|false=>none
    |true,true=>
     match v with
     | .aV r s none e n2=>
       match cC m r s none,Nat.beq e 0,Nat.beq k r,(m r).b with
       |true,true,false,.row bp _ g=>yq m nx k i j sz n f r bp n2 g
       |_,_,_,_=>none
     |v=>
      match sv v,f i j,Nat.beq (nx+1) k,cv m (nx+1)with
      |true,.il bp _ g0,false,true=>
       let u0:=fT m (nx+1) (.row bp 0 g0)
       match yq (ov u0 m) nx k i j sz n f (nx+1) bp 0 g0 with
       |some (pr,u)=>some (pr,u++u0)
       |none=>none
      |_,_,_,_=>none
    |_,_=>none
  | .row sz n f,some (i0,j0)=>
    match f i0 j0 with
    | .il bp n2 g=>match Nat.blt j bp,mf m v with|true,true=>some (∀i',qV bp (f i' j0)=true,pv m k (.row sz n ((⟨sz,n,f⟩:Row).set i0 j0 (.il bp n2 ((⟨bp,n2,g⟩:Row).set i j v).f)).f))|_,_=>none
    |_=>none
  |_,_=>none
theorem Tu (hm:aR w ω M) {k:Nat} (h:cv (ae M) k=true) (cZ: ∀p,ω.β k p=none):tA ω M k:=by
  unfold cv at h
  split at h
  · next J U=>
    refine⟨?_,U,cZ⟩
    cases hb:(ae M k).b with
    |dead=>rfl
    |cells l=>rw[hb]at J;cases J
    |row a b c=>rw[hb]at J;cases J
  · cases h
theorem Sk (hm:aR w ω M) {k:Nat} (h:(ae M k).b= .dead) (p:Path):ω.β k p=none:=by
  cases hb:ω.β k p with
  |none=>rfl
  |some L=>
   obtain⟨r,J,_⟩:=hm.row k p L hb
   unfold rowAt at J
   rw[h]at J
   cases p with
   |none=>cases J
   |some ij=>obtain⟨i,j⟩:=ij;cases J
theorem jZ (hm:aR w ω M) {k:Nat} (h:cv (ae M) k=true):tA ω M k:=by
  refine Tu hm h λp=>Sk hm ?_ p
  unfold cv at h
  split at h
  · next J U=>
    cases hb:(ae M k).b with
    |dead=>rfl
    |cells l=>rw[hb]at J;cases J
    |row a b c=>rw[hb]at J;cases J
  · cases h
theorem beq_false {a b:Nat} (h:Nat.beq a b=false):a≠b:=λe=>by subst e;rw[Nat.beq_refl]at h;cases h
theorem xI (hm:aR w ω M) {s:SV} {u:Value} (h:mf (ae M) s=true) (hd:Den w ω s u):u.oneCell'=true:=by
  have ref: ∀{k s:Nat} {p:Path} {R:Loc->Prop},cC (ae M) k s p=true->At ω k s p R->(∀L,R L->u.oneCell'=true)->u.oneCell'=true:=by
    intro k s p R J U h3
    obtain⟨_,L,_,hR⟩:=fS hm J U
    exact h3 L hR
  cases s with
  |aK=>cases h
  |v x=>obtain rfl:=hd;cases u<;>first|rfl|cases h
  |bl b=>obtain rfl:=hd;rfl
  |es=>obtain⟨p,rfl⟩:=hd;rfl
  |ptr k s p i j=>exact ref h hd λL hR=>by rw[hR.2];rfl
  |pe k s p i j len z=>exact ref h hd λL hR=>by rw[hR.2.2];rfl
  |sa k s p i j n=>exact ref h hd λL hR=>by rw[hR.2.2];rfl
  |aV k s p e n=>
   have e0:=js hm h
   rcases hd with hd|⟨_,q,cap,rfl,_⟩
   · omega
   · rfl
  |pt q n f=>obtain⟨_,rfl,_⟩:=hd;rfl
  |sl q sz n f=>obtain⟨_,_,rfl,_⟩:=hd;rfl
  |pa q sz n f=>obtain⟨_,rfl,_⟩:=hd;rfl
  |il sz n f=>cases h
  |ag n f=>cases h
  |tp n f=>cases h
  |fn id n f=>obtain⟨_,rfl,_⟩:=hd;rfl
  |bm id s=>obtain⟨_,rfl,_⟩:=hd;rfl
  |mv nm s=>obtain⟨_,rfl,_⟩:=hd;rfl
  |ic t s=>obtain⟨_,rfl,_⟩:=hd;rfl
  |er t tf e at_=>rcases hd with⟨_,_,rfl⟩|⟨_,_,rfl⟩|⟨_,_,_,rfl,_⟩<;>rfl
theorem xo {m:Nat->bk} {s:SV} (h:mf m s=true):cM s=false:=by cases s<;>first|rfl|cases h
def yr (w:World) (ω:Ow) (M:Mem) (w':World) (k:Nat) (p:Path) (u:a_):Prop:=
  ∃al,bz w ω M w' al (u++M)/\al.β k p=ω.β k p
theorem Hv (hm:aR w ω M) {nx k i j sz n:Nat} {f:Nat->Nat->SV} {r bp n2 nr:Nat} {g:Nat->Nat->SV} (hb:(ae M k).b= .row sz n f) (jo:k≠r) (hr:(ae M r).b= .row bp nr g)
    {pr:Prop} {u:a_} (he:yq (ae M) nx k i j sz n f r bp n2 g=some (pr,u)) (hp:pr) {x:Value} (hx:Head ω r none 0 n2 x) {L:Loc} (hL:ω.β k none=some L) (hi:i<L.cY) (hj:j<sz):
    yr w ω M (w.setCell ⟨L.b,L.o+i*L.sz+j,none⟩ x) k none u:=by
  unfold yq at he
  split at he
  · next jg=>
    split at he
    · next lH no go Gj=>
      split at he
      · next J U h3 h4=>
        have U:=beq_false U
        have h3:=beq_false h3
        simp only[Option.some.injEq,Prod.mk.injEq]at he
        obtain⟨rfl,rfl⟩:=he
        have dE:=jZ hm h4
        obtain⟨bY,s1,e1,e2,e3⟩:=bz.MA hm (Ne.symm U) dE jg hb Gj
        obtain⟨ib,s2,e4,e5⟩:=bz.kill s1.mem nx
        have Gq:kill (fresh (kb M k i j) nx (.row lH no λa b=>dw (go a b))) nx=pd (ae M) nx k i j lH no go++M:=by
          have a1:ov (lk (ae M) k i j) (ae M)=ae (kb M k i j):=by rw[lj];rfl
          have a2:ov (fT (ov (lk (ae M) k i j) (ae M)) nx (.row lH no λa b=>dw (go a b))++lk (ae M) k i j) (ae M)=ae (fresh (kb M k i j) nx (.row lH no λa b=>dw (go a b))):=by
            rw[lj,a1];rfl
          unfold pd
          simp only[a2]
          simp only[nO,fT,a1,lk,List.cons_append,List.nil_append]
          rfl
        rw[Gq]at s2
        have fE:ae (pd (ae M) nx k i j lH no go++M) k=⟨(ae M k).rs,(ae M k).ds+1,some (i,j),(ae M k).b⟩:=by
          rw[<-Gq,lb U];unfold fresh;rw[cB U,GW]
        have iP:ae (pd (ae M) nx k i j lH no go++M) r=ae M r:=by
          rw[<-Gq,lb h3];unfold fresh;rw[cB h3,xm jo]
        have Qs:ib.β k none=some L:=by rw[e4 _ _ (Ne.symm U),e3 _ _ (Ne.symm U) (by simp)];exact hL
        have hLr:ib.β r none=ω.β r none:=by rw[e4 _ _ (Ne.symm h3),e3 _ _ (Ne.symm h3) (by simp)]
        have A3:Head ib r none 0 n2 x:=by
          obtain⟨q,cap,y1,y2,y3,y4⟩:=hx
          exact⟨q,cap,y1,y2,y3,by rw[hLr];exact y4⟩
        obtain⟨nj,s3,e6,e7⟩:=bz.fill s2.mem jo (by rw[fE]) (by rw[fE];exact hb) hp (by rw[iP];exact hr) A3 Qs hi hj
        refine⟨nj,?_,?_⟩
        · have:=(s1.trans s2).trans s3
          have Fj:Sy.fill (pd (ae M) nx k i j lH no go++M) k i j r sz n f bp n2 g=Eu (ov (pd (ae M) nx k i j lH no go) (ae M)) k i j r sz n f bp n2 g++pd (ae M) nx k i j lH no go++M:=by
            rw[lj];rfl
          rw[Fj]at this
          exact this
        · rw[e6 _ _ jo (by simp),Qs,hL]
      · cases he
    · cases he
  · next i0 j0 jg=>
    split at he
    · next ou=>
      have ou:=Nat.eq_of_beq_eq_true ou
      simp only[Option.some.injEq,Prod.mk.injEq]at he
      obtain⟨rfl,rfl⟩:=he
      obtain⟨rfl,n7⟩:=hp
      subst ou
      obtain⟨nj,s3,e6,e7⟩:=bz.fill hm jo jg hb n7 hr hx hL hi hj
      exact⟨nj,s3,e6 _ _ jo (by simp)⟩
    · cases he
theorem uF (hm:aR w ω M) {k:Nat} {l:List SV} (hb:(ae M k).b= .cells l) {L:Loc} (hL:ω.β k none=some L):L.sz=l.length/\L.cY=1:=by
  obtain⟨r,e1,e2,e3,_⟩:=hm.row k none L hL
  unfold rowAt at e1
  rw[hb]at e1
  obtain rfl:=Option.some.inj e1
  exact⟨e2.symm,e3.symm⟩
theorem Ib (hm:aR w ω M) {nx k:Nat} {p:Path} {i j:Nat} {v:SV} {pr:Prop} {u:a_} (he:sV (ae M) nx k p i j v=some (pr,u)) (hp:pr) {x:Value} (hx:Den w ω v x) (J:x.oneCell'=true)
    {L:Loc} (hL:ω.β k p=some L) (hi:i<L.cY):j<L.sz/\yr w ω M (w.setCell ⟨L.b,L.o+i*L.sz+j,none⟩ x) k p u:=by
  unfold sV at he
  split at he
  · next l hb=>
    obtain⟨c1,c2⟩:=uF hm hb hL
    split at he
    · next U h3=>
      have U:j<l.length:=Nat.le_of_ble_eq_true U
      simp only[Option.some.injEq,Prod.mk.injEq]at he
      obtain⟨_,rfl⟩:=he
      exact⟨by omega,ω,bz.putCells hm hb hL hi U (xo h3) hx,rfl⟩
    · cases he
  · next sz n f hb=>
    obtain⟨r0,e1,e2,e3,_⟩:=hm.row k none L hL
    unfold rowAt at e1
    rw[hb]at e1
    obtain rfl:=Option.some.inj e1
    have e2:sz=L.sz:=e2
    split at he
    · next U h3=>
      have U:j<sz:=Nat.le_of_ble_eq_true U
      split at he
      · next h4=>
        simp only[Option.some.injEq,Prod.mk.injEq]at he
        obtain⟨rfl,rfl⟩:=he
        exact⟨by omega,ω,bz.putRow hm hb hL hi U (xo h4) hx hp,rfl⟩
      · cases he
    · next U h3=>
      have U:j<sz:=Nat.le_of_ble_eq_true U
      refine⟨by omega,?_⟩
      split at he
      · next r s e n2=>
        split at he
        · next bp nr g h4 h5 h6 h7=>
          have h5:=Nat.eq_of_beq_eq_true h5
          subst h5
          have h6:=beq_false h6
          have e0:=js hm h4
          rcases hx with hx|⟨_,hx⟩
          · omega
          exact Hv hm hb h6 h7 he hp hx hL hi U
        · cases he
      · split at he
        · next bp _ g0 h4 h5 h6 h7=>
          have h6:=beq_false h6
          dsimp only at he
          split at he
          · next pr0 u0 hs=>
            simp only[Option.some.injEq,Prod.mk.injEq]at he
            obtain⟨rfl,rfl⟩:=he
            have hf:=jZ hm h7
            have s1:=bz.dummy hm hf bp 0 g0
            have wg:fresh M (nx+1) (.row bp 0 g0)=fT (ae M) (nx+1) (.row bp 0 g0)++M:=rfl
            rw[wg]at s1
            rw[lj]at hs
            obtain⟨pn,Fb⟩: ∃pn,x= .slice pn 0 0:=by
              unfold sv at h4
              split at h4
              · exact⟨none,hx⟩
              · exact hx
              · cases h4
            have fE:ae (fT (ae M) (nx+1) (.row bp 0 g0)++M) k=ae M k:=by rw[<-wg];unfold fresh;rw[cB h6]
            have iP:(ae (fT (ae M) (nx+1) (.row bp 0 g0)++M) (nx+1)).b= .row bp 0 g0:=by rw[<-wg];unfold fresh;rw[c_]
            obtain⟨ib,s2,e5⟩:=Hv s1.mem (by rw[fE];exact hb) (Ne.symm h6) iP hs hp (x:=x) ⟨pn,0,Fb,Nat.le_refl _,Nat.zero_le _,.inl rfl⟩ hL hi U
            refine⟨ib,?_,e5⟩
            rw[List.append_assoc]
            exact s1.trans s2
          · cases he
        · cases he
    · cases he
  · next sz n f i0 j0 hb=>
    split at he
    · next bp n2 g hg=>
      split at he
      · next U h3=>
        have U:j<bp:=Nat.le_of_ble_eq_true U
        simp only[Option.some.injEq,Prod.mk.injEq]at he
        obtain⟨rfl,rfl⟩:=he
        obtain⟨r0,e1,e2,e3,_⟩:=hm.row k _ L hL
        unfold rowAt at e1
        rw[hb]at e1
        have e1:inner ⟨sz,n,f⟩ i0 j0=some r0:=e1
        unfold inner at e1
        simp only[hg]at e1
        obtain rfl:=Option.some.inj e1
        have e2:bp=L.sz:=e2
        exact⟨by omega,ω,bz.Tv hm hb hg hL hi U (xo h3) hx hp,rfl⟩
      · cases he
    · cases he
  · cases he
def sU (m:Nat->bk) (nx k:Nat) (p:Path) (i:Nat):Nat->List SV->Option (Prop×a_)
  |_,[]=>some (True,[])
  |j,[v]=>sV m nx k p i j v
  |j,v::r=>
   match sV m nx k p i j v with
   |some (p1,u1)=>match sU (ov u1 m) (nx+2) k p i (j+1) r with|some (p2,u2)=>some (p1/\p2,u2++u1)|none=>none
   |none=>none
theorem xu {b off:Nat} {c:Array Value} {T:TypeId} {x:Value} (h:w.heap[b]? =some (Obj.cells c T (0,0))) (ai:off<c.size) (J:x.oneCell'=true):(store ⟨b,off,none⟩ x).run P w= .ok () (w.setCell ⟨b,off,none⟩ x):=by
  have hc:w.cell? ⟨b,off,none⟩=some c[off]:=by simp[World.cell?,h,ai]
  have hf:w.frozen? ⟨b,off,none⟩=false:=by simp[World.frozen?,h]
  cases x<;>first|(cases J;done)|simp[store,Sem.run,hc,hf]
theorem Ia: ∀(cs:List SV) (us:List Value) {w:World} {ω:Ow} {M:Mem} (hm:aR w ω M) {nx k:Nat} {p:Path} {i j:Nat} {pr:Prop} {u:a_} (he:sU (ae M) nx k p i j cs=some (pr,u)) (hp:pr) (hx:bX w ω cs us) (J: ∀x∈us,x.oneCell'=true)
    {L:Loc} (hL:ω.β k p=some L) (hi:i<L.cY) {ad:Addr} (q:Nat) (jE:ad.add q=⟨L.b,L.o+i*L.sz+j,none⟩),∃w',(storeCells ad us q).run P w= .ok () w'/\yr w ω M w' k p u
  | [],[],w,ω,M,hm,nx,k,p,i,j,pr,u,he,hp,hx,J,L,hL,hi,ad,q,jE=>by
    simp only[sU,Option.some.injEq,Prod.mk.injEq]at he
    obtain⟨_,rfl⟩:=he
    exact⟨w,by simp[storeCells],ω,bz.refl hm,rfl⟩
  |v::r,x::t,w,ω,M,hm,nx,k,p,i,j,pr,u,he,hp,⟨hx,AW⟩,J,L,hL,hi,ad,q,jE=>by
   have key: ∀{p1:Prop} {u1:a_},sV (ae M) nx k p i j v=some (p1,u1)->p1->(store (ad.add q) x).run P w= .ok () (w.setCell ⟨L.b,L.o+i*L.sz+j,none⟩ x)/\yr w ω M (w.setCell ⟨L.b,L.o+i*L.sz+j,none⟩ x) k p u1:=by
     intro p1 u1 hs gu
     obtain⟨hj,bH⟩:=Ib hm hs gu hx (J x (by simp)) hL hi
     obtain⟨_,_,_,_,c,T,g1,g2,g3,g4⟩:=hm.row _ _ _ hL
     obtain⟨y,y1,_⟩:=g4 i hi j hj
     rw[jE]
     exact⟨xu g1 (Array.getElem?_eq_some_iff.1 y1).1 (J x (by simp)),bH⟩
   cases r with
   |nil=>
    cases t with
    |nil=>
     obtain⟨r1,bH⟩:=key (by simpa [sU]using he) hp
     exact⟨_,by simp[storeCells,r1],bH⟩
    |cons _ _=>exact AW.elim
   |cons v2 r2=>
    simp only[sU]at he
    split at he
    · next p1 u1 hs=>
      split at he
      · next p2 u2 eo=>
        simp only[Option.some.injEq,Prod.mk.injEq]at he
        obtain⟨rfl,rfl⟩:=he
        obtain⟨r1,bY,s1,e1⟩:=key hs hp.1
        rw[lj]at eo
        have Fi:ad.add (q+1)=⟨L.b,L.o+i*L.sz+(j+1),none⟩:=by
          rw[<-add_add,jE,ju];simp[Nat.add_assoc]
        obtain⟨w',r2',ib,s2,e2⟩:=Ia (v2::r2) t s1.mem eo hp.2 (AW.ext s1.ext) (λy hy=>J y (by simp[hy])) (e1.trans hL) hi (q+1) Fi
        refine⟨w',by simp[storeCells,r1,r2',Result.andThen],ib,?_,e2.trans e1⟩
        rw[List.append_assoc]
        exact s1.trans s2
      · cases he
    · cases he
  | [],_::_,_,_,_,_,_,_,_,_,_,_,_,_,_,hx,_,_,_,_,_,_,_=>hx.elim
  |_::_,[],_,_,_,_,_,_,_,_,_,_,_,_,_,hx,_,_,_,_,_,_,_=>hx.elim
end
end Go.Sy
set_option linter.unusedVariables false
set_option linter.unusedSimpArgs false
namespace Go.Sy
open Go.RowKit
section
variable {P:Program} {w:World} {ω:Ow} {ρ:Operand->SV} {M:Mem} {a:Act}
def nX (P:Program) (w:World) (ω:Ow) (M:Mem) (a:Act) (o:Oper) (s:SV) (u:a_):Prop:=
  ∃n v w' al,(execOp a.eval o).run P w= .ok n w'/\(n= .value v\/(n= .skip/\v=undef))/\bz w ω M w' al (u++M)/\Den w' al s v
structure iT (w:World) (ω:Ow) (w':World) (al:Ow) (ids:Nat->Prop):Prop where
  cw:Cw w w'
  A: ∀b,ω.A b->al.A b
  Z:al.Z=ω.Z
  β: ∀k p,¬ids k->al.β k p=ω.β k p
  new: ∀k p L,ids k->al.β k p=some L->w.heap.size<=L.b
  cur:al.cur=ω.cur
def lv (P:Program) (w:World) (ω:Ow) (M:Mem) (a:Act) (o:Oper) (s:SV) (u:a_):Prop:=
  ∃n v w' al,(execOp a.eval o).run P w= .ok n w'/\(n= .value v\/(n= .skip/\v=undef))/\bz w ω M w' al (u++M)/\Den w' al s v/\iT w ω w' al (λk=>k∈u.map (·.1))
theorem lv.wJ {o:Oper} {s:SV} {u:a_} (h:lv P w ω M a o s u):nX P w ω M a o s u:=by
  obtain⟨n,v,w',al,J,U,h3,h4,_⟩:=h
  exact⟨n,v,w',al,J,U,h3,h4⟩
theorem KA {nx:Nat} {ob:Obj} {L:Loc} {u:a_} (hb:L.b=w.heap.size) (hf: ∀p,ω.β nx p=none) (hu:u.map (·.1)= [nx]):iT w ω (w.alloc ob) (ω.add nx L) (λk=>k∈u.map (·.1)) where
  cw:=⟨rfl,rfl,rfl,by simp,λb hb=>Below.heap_alloc _ _ _ hb⟩
  A:=λb h=> .inl h
  Z:=rfl
  β:=λk p hk=>by
   show(if k=nx/\p=none then some L else ω.β k p)=_
   rw[if_neg]
   rintro ⟨rfl,_⟩
   rw[hu]at hk
   exact hk (by simp)
  new:=λk p L' hk h=>by
    have h:(if k=nx/\p=none then some L else ω.β k p)=some L':=h
    rw[hu]at hk
    have hk:k=nx:=by simpa using hk
    subst hk
    split at h
    · obtain rfl:=Option.some.inj h;rw[hb];exact Nat.le_refl _
    · rw[hf]at h;cases h
  cur:=rfl
/-! ### boxes -/
def En (m:Nat->bk) (nx:Nat) (s:SV):Option (Prop×SV×a_):=
  match mM m s,cv m nx with
  |some cs,true=>match cs.all λs=>!cM s with|true=>some (True,.ptr nx (m nx).rs none 0 0,fT m nx (.cells cs))|false=>none
  |_,_=>none
def zeroCells (P:Program) (T:TypeId):Option (List SV):=
  match P.info? T with
  |some i=>match i.zero with|some z=>some (z.cells.toList.map .v)|none=>none
  |none=>none
def CE (P:Program) (m:Nat->bk) (nx:Nat) (T:TypeId):Option (Prop×SV×a_):=
  match zeroCells P T,cv m nx with
  |some cs,true=>some (True,.ptr nx (m nx).rs none 0 0,fT m nx (.cells cs))
  |_,_=>none
def qI (l:List SV) (j len z:Nat) (kk:IntKind) (x:Int) (zs:List Int) (q:Nat):SV:=
  match Nat.ble j q,Nat.blt q (j+len)with
  |true,true=> .v (.int kk (bif Nat.beq (q -j) z then x else fj zs (q -j)))
  |_,_=>aH l q
def DI:List SV->Option (IntKind×Int)
  | [.v (.int k x)]=>some (k,x)
  |_=>none
theorem Si {l:List SV} {k:IntKind} {x:Int} (h:DI l=some (k,x)):l= [.v (.int k x)]:=by
  unfold DI at h
  split at h
  · simp only[Option.some.injEq,Prod.mk.injEq]at h
    obtain⟨rfl,rfl⟩:=h;rfl
  · cases h
def CF (P:Program) (m:Nat->bk) (nx:Nat) (T:TypeId) (ad s:SV):Option (Prop×SV×a_):=
  match mM m s,P.info? T with
  |some cs,some i=>
   match Nat.beq cs.length i.size,cs.all (mf m)with
   |true,true=>
    match ad with
    | .ptr k st p ii j=>match cC m k st p with|true=>(match sU m nx k p ii j cs with|some (pr,u)=>some (pr,.aK,u)|none=>none)|false=>none
    | .pe k st p ii j len z=>
      match cC m k st p,(m k).b,p,DI cs with
      |true,.cells l,none,some (kk,x)=>
       match Nat.ble (j+len) l.length,nG kk ((List.range len).map λq=>aH l (j+q))with
       |true,some zs=>some (True,.aK,pv m k (.cells ((List.range l.length).map (qI l j len z kk x zs))))
       |_,_=>none
      |_,_,_,_=>none
    |_=>none
   |_,_=>none
  |_,_=>none
theorem Vm (l:List Value):bX w ω (l.map .v) l:=by
  induction l with
  |nil=>trivial
  |cons x r ih=>exact⟨rfl,ih⟩
theorem I8 (hm:aR w ω M) {nx:Nat} (hf:cv (ae M) nx=true) {cs:List SV} {c:Array Value} {T:TypeId} (hc:bX w ω cs c.toList) (cX: ∀j,cM (aH cs j)=false):
    ∃al,bz w ω M (w.alloc (.cells c T)) al (fT (ae M) nx (.cells cs)++M)/\Den (w.alloc (.cells c T)) al (.ptr nx (ae M nx).rs none 0 0) (.pointer (some ⟨w.heap.size,0,none⟩))/\iT w ω (w.alloc (.cells c T)) al (λk=>k∈(fT (ae M) nx (.cells cs)).map (·.1)):=by
  have hlen:=hc.len
  have dE:=jZ hm hf
  let L:Loc:=⟨w.heap.size,0,cs.length,1,c.size⟩
  have bP:Ext w ω (w.alloc (.cells c T)) (ω.add nx L):=BJ rfl dE.2.2
  refine⟨ω.add nx L,bz.alloc (r:=⟨cs.length,1,λ_ j=>aH cs j⟩) hm dE rfl rfl (by simp at hlen;show 1*cs.length<=_;omega) (λi hi j hj=>?_),Or.inr ⟨?_,L,by simp[Ow.add],by show 0<1;omega,by simp[L]⟩,KA rfl dE.2.2 rfl⟩
  · have hi:i=0:=by have:i<1:=hi;omega
    subst hi
    have hj:j<cs.length:=hj
    obtain⟨x,e1,e2⟩:=hc.get? j hj
    refine⟨x,by simpa using e1,?_⟩
    show cF _ _ _ _ _ _ (aH cs j) x
    rw[fq (cX j)]
    exact e2.ext bP
  · show _=st ω.cur nx none
    rw[hm.cur];rfl
theorem BE {l:List SV} (h:(l.all λs=>!cM s)=true) (j:Nat):cM (aH l j)=false:=by
  unfold aH
  rw[List.getD_eq_getElem?_getD]
  cases hj:l[j]? with
  |none=>rfl
  |some x=>simpa using List.all_eq_true.1 h x (List.mem_of_getElem? hj)
theorem Mw (h:Cx P w ω ρ M a) {o:Oper} {T:TypeId} {x:Operand} {nx:Nat} {pr:Prop} {s:SV} {u:a_} (ho:o.op= .box T x) (he:En (ae M) nx (ρ x)=some (pr,s,u)):lv P w ω M a o s u:=by
  unfold En at he
  split at he
  · next cs gy hf=>
    split at he
    · next cX=>
      simp only[Option.some.injEq,Prod.mk.injEq]at he
      obtain⟨_,rfl,rfl⟩:=he
      obtain⟨al,J,U,h3⟩:=I8 (T:=T) h.mem hf (uk h.mem gy (h.val x)) (BE cX)
      exact⟨_,_,_,al,by simp[execOp,ho,go_sem],.inl rfl,J,U,h3⟩
    · cases he
  · cases he
theorem Tq (l:List Value) (j:Nat):cM (aH (l.map .v) j)=false:=by
  unfold aH
  rw[List.getD_eq_getElem?_getD,List.getElem?_map]
  cases l[j]? <;>rfl
theorem IZ (h:Cx P w ω ρ M a) {o:Oper} {T:TypeId} {nx:Nat} {pr:Prop} {s:SV} {u:a_} (ho:o.op= .alloc T) (he:CE P (ae M) nx T=some (pr,s,u)):lv P w ω M a o s u:=by
  unfold CE at he
  split at he
  · next cs gy hf=>
    simp only[Option.some.injEq,Prod.mk.injEq]at he
    obtain⟨_,rfl,rfl⟩:=he
    unfold zeroCells at gy
    split at gy
    · next i hi=>
      split at gy
      · next z hz=>
        obtain rfl:=Option.some.inj gy
        have rC:(zeroValue T).run P w= .ok z w:=by simp[zeroValue,run_typeInfo w hi,hz,Result.andThen]
        obtain⟨al,J,U,h3⟩:=I8 (T:=T) h.mem hf (Vm z.cells.toList) (Tq _)
        exact⟨_,_,_,al,by simp[execOp,ho,go_sem,rC],.inl rfl,J,U,h3⟩
      · cases gy
    · cases gy
  · cases he
theorem xF (hm:aR w ω M): ∀{cs:List SV} {us:List Value},cs.all (mf (ae M))=true->bX w ω cs us-> ∀u∈us,u.oneCell'=true
  | [],[],_,_,u,hu=>by cases hu
  |s::r,x::t,h,⟨J,U⟩,u,hu=>by
   simp only[List.all_cons,Bool.and_eq_true]at h
   rcases List.mem_cons.1 hu with rfl|hu
   · exact xI hm h.1 J
   · exact xF hm h.2 U u hu
  | [],_::_,_,hd,_,_=>hd.elim
  |_::_,[],_,hd,_,_=>hd.elim
theorem Tk (h:Cx P w ω ρ M a) {o:Oper} {T:TypeId} {x y:Operand} {nx:Nat} {pr:Prop} {s:SV} {u:a_} (ho:o.op= .store T x y) (he:CF P (ae M) nx T (ρ x) (ρ y)=some (pr,s,u)) (hp:pr):nX P w ω M a o s u:=by
  have hm:=h.mem
  have hx:=h.val x
  unfold CF at he
  split at he
  · next cs i gy hi=>
    have hc:=uk hm gy (h.val y)
    split at he
    · next hlen jd=>
      have hlen:=Nat.eq_of_beq_eq_true hlen
      have J:=xF hm jd hc
      have bV:(a.eval y).cells.size=i.size:=by rw[<-Array.length_toList,<-hc.len,hlen]
      have eo:(sizeOf T).run P w= .ok i.size w:=by simp[sizeOf,run_typeInfo w hi,Result.andThen]
      have run: ∀{ad w'},a.eval x= .pointer (some ad)->(storeCells ad (a.eval y).cells.toList).run P w= .ok () w'->(execOp a.eval o).run P w= .ok .skip w':=by
        intro ad w' ex hr
        simp[execOp,ho,ex,Instr.storeAt,Instr.sureAddr,storeVar,eo,bV,hr,Result.andThen]
      split at he
      · next k st p ii j hs=>
        rw[hs]at hx
        split at he
        · next bC=>
          split at he
          · next Qr u' bH=>
            simp only[Option.some.injEq,Prod.mk.injEq]at he
            obtain⟨rfl,rfl,rfl⟩:=he
            obtain⟨e0,L,hL,jm,ex⟩:=fS hm bC hx
            obtain⟨w',r1,al,s1,_⟩:=Ia (P:=P) cs _ hm bH hp hc J hL jm (ad:=⟨L.b,L.o+ii*L.sz+j,none⟩) 0 (by simp[Addr.add])
            exact⟨_,undef,w',al,run ex r1,.inr ⟨rfl,rfl⟩,s1,trivial⟩
          · cases he
        · cases he
      · next k st p ii j len z hs=>
        rw[hs]at hx
        split at he
        · next l kk xz hb zB bC=>
          have zB:=Si zB
          split at he
          · next zs hle fk=>
            have hle:=Nat.le_of_ble_eq_true hle
            simp only[Option.some.injEq,Prod.mk.injEq]at he
            obtain⟨_,rfl,rfl⟩:=he
            obtain⟨e0,L,hL,jm,hz,ex⟩:=fS hm bC hx
            obtain⟨c1,c2⟩:=uF hm hb hL
            have Gn:ii=0:=by omega
            subst Gn
            obtain⟨y0,Gp⟩: ∃y0,(a.eval y).cells.toList= [y0]:=by
              have:=hc.len
              rw[zB]at this
              match h:(a.eval y).cells.toList,this with
              | [y0],_=>exact⟨y0,rfl⟩
            rw[Gp,zB]at hc
            rw[Gp]at J
            have vV:y0= .int kk xz:=hc.1
            subst vV
            obtain⟨_,_,_,_,c,T0,g1,g2,g3,g4⟩:=hm.row _ _ _ hL
            obtain⟨_,y1,_⟩:=g4 0 (by omega) (j+z) (by omega)
            have hr:=xu (P:=P) g1 (Array.getElem?_eq_some_iff.1 y1).1 (x:= .int kk xz) rfl
            have fk:=r_ fk
            refine⟨_,undef,w.setCell ⟨L.b,L.o+0*L.sz+(j+z),none⟩ (.int kk xz),ω,run ex (by rw[Gp];simp only[Nat.zero_mul,Nat.add_zero]at hr⊢;simp[storeCells,Addr.add,hr]),.inr ⟨rfl,rfl⟩,?_,trivial⟩
            refine bz.put hm hL (by omega) (by omega) ⟨rfl,rfl,rfl⟩ (λ_ _=>⟨l,hb⟩) ?_
            intro q r hr
            rw[hb]at hr
            cases q with
            |some ij=>obtain⟨i',j'⟩:=ij;cases hr
            |none=>
             obtain rfl:=Option.some.inj hr
             have get: ∀b,b<l.length->aH ((List.range l.length).map (qI l j len z kk xz zs)) b=qI l j len z kk xz zs b:=by
               intro b hb
               simp[aH,List.getD_eq_getElem?_getD,hb]
             refine⟨⟨((List.range l.length).map (qI l j len z kk xz zs)).length,1,λ_ q=>aH ((List.range l.length).map (qI l j len z kk xz zs)) q⟩,rfl,by simp,rfl,λa0 ha b dQ=>⟨?_,?_⟩⟩
             · rintro ⟨_,rfl,rfl⟩ w' kW
               show cF _ _ _ _ _ _ (aH _ (j+z)) _
               have dQ:j+z<l.length:=dQ
               rw[get _ dQ]
               have b1:Nat.ble j (j+z)=true:=Nat.ble_eq_true_of_le (by omega)
               have b2:Nat.blt (j+z) (j+len)=true:=Nat.ble_eq_true_of_le (by omega)
               unfold qI
               rw[b1,b2,show j+z -j=z by omega,Nat.beq_refl]
               rfl
             · intro cf w' yv hy
               show cF _ _ _ _ _ _ (aH _ b) _
               have dQ:b<l.length:=dQ
               have ha:a0<1:=ha
               rw[get _ dQ]
               have hy:cF _ _ _ _ _ _ (aH l b) yv:=hy
               unfold qI
               split
               · next b1 b2=>
                 have b1:=Nat.le_of_ble_eq_true b1
                 have b2:b<j+len:=Nat.le_of_ble_eq_true b2
                 have hq:=congrArg (λl=>l[b -j]?) fk
                 simp only[List.getElem?_map,List.getElem?_range (show b -j<len by omega),Option.map_some]at hq
                 cases jU:zs[b -j]? with
                 |none=>rw[jU]at hq;cases hq
                 |some y2=>
                  rw[jU]at hq
                  simp only[Option.map_some,Option.some.injEq,show j+(b -j)=b by omega]at hq
                  rw[hq]at hy
                  have kl:fj zs (b -j)=y2:=by simp[fj,List.getD_eq_getElem?_getD,jU]
                  have hbz:Nat.beq (b -j) z=false:=by
                    cases pF:Nat.beq (b -j) z
                    · rfl
                    · have:=Nat.eq_of_beq_eq_true pF
                      exact absurd ⟨rfl,by omega,by omega⟩ cf
                  rw[hbz,kl]
                  exact hy
               · exact hy
          · cases he
        · cases he
      · cases he
    · cases he
  · cases he
end
end Go.Sy
set_option linter.unusedVariables false
set_option linter.unusedSimpArgs false
namespace Go.Sy
open Go.RowKit
section
variable {P:Program} {w:World} {ω:Ow} {ρ:Operand->SV} {M:Mem} {a:Act}
def Fo (P:Program):Nat->TypeId->Nat->Option Nat
  |0,_,_=>none
  |d+1,T,j=>
   match P.underlying T with
   |some (.slice E)=>match j,P.info? E with|0,some i=>some i.size|_,_=>none
   |some (.struct fs)=>fs.toList.findSome? λfd=>match P.info? fd.type with|some i=>(match Nat.ble fd.offset j,Nat.blt j (fd.offset+i.size)with|true,true=>Fo P d fd.type (j -fd.offset)|_,_=>none)|none=>none
   |_=>none
def uI (P:Program) (E:TypeId) (z:Array Value):List SV:=
  (List.range z.size).map λj=>match Fo P 4 E j,z[j]? with
    |some sz,some (.slice none 0 0)=> .il sz 0 λ_ _=> .aK
    |_,some x=> .v x
    |_,none=> .aK
theorem DF (hm:aR w ω M) {nx:Nat} (hf:cv (ae M) nx=true) {sz n cap:Nat} {f:Nat->Nat->SV} {c:Array Value} {T:TypeId} (hn:n<=cap) (gQ:cap<=maxLen) (hc:cap*sz<=c.size)
    (pb: ∀w' al,Ext w ω w' al->(∀i j,al.β nx (some (i,j))=none)-> ∀i,i<n-> ∀j,j<sz-> ∃x,c[i*sz+j]? =some x/\cF w' al none nx i j (f i j) x):
    ∃al,bz w ω M (w.alloc (.cells c T)) al (fT (ae M) nx (.row sz n f)++M)/\Den (w.alloc (.cells c T)) al (.aV nx (ae M nx).rs none 0 n) (.slice (some ⟨w.heap.size,0,none⟩) n cap)/\iT w ω (w.alloc (.cells c T)) al (λk=>k∈(fT (ae M) nx (.row sz n f)).map (·.1)):=by
  have dE:=jZ hm hf
  let L:Loc:=⟨w.heap.size,0,sz,n,c.size⟩
  have bP:Ext w ω (w.alloc (.cells c T)) (ω.add nx L):=BJ rfl dE.2.2
  refine⟨ω.add nx L,bz.alloc (r:=⟨sz,n,f⟩) hm dE rfl rfl (Nat.le_trans (Nat.mul_le_mul_right _ hn) hc) (λi hi j hj=>pb _ _ bP (λa b=>by simp[Ow.add,dE.2.2]) i hi j hj),Or.inr ⟨?_,_,cap,rfl,hn,gQ,.inr ⟨L,by simp[Ow.add],by simp[L],by show 0+(0+cap)*sz<=c.size;simpa using hc,by show 0+n<=n;omega⟩⟩,KA rfl dE.2.2 rfl⟩
  show _=st ω.cur nx none
  rw[hm.cur];rfl
theorem G6: ∀(cs:List SV) (off:Nat) (l:List SV),(lQ l off cs).length=l.length
  | [],_,_=>rfl
  |c::r,off,l=>by rw[lQ,G6];simp
theorem Hu {m:Nat->bk} {place:Nat->Option (Nat×Nat)}: ∀{ps:List (Nat×SV)} {l l':List SV},lV m place l ps=some l'->l'.length=l.length
  | [],l,l',h=>by simp[lV]at h;rw[h]
  |(k,s)::r,l,l',h=>by
   unfold lV at h
   split at h
   · split at h
     · rw[Hu h,G6]
     · cases h
   · cases h
def DC (P:Program) (m:Nat->bk) (nx:Nat) (T:TypeId) (l c:SV):Option (Prop×SV×a_):=
  match P.underlying T,l,c with
  |some (.slice E),.v (.int _ l),.v (.int _ c)=>
   match P.info? E,cv m nx with
   |some i,true=>
    match i.zero,Nat.blt 0 i.bytes with
    |some z,true=>
     match Nat.beq z.cells.size i.size with
     |true=>some (0<=l/\l<=c/\(i.bytes:Int)*c<=140737488355328,.aV nx (m nx).rs none 0 l.toNat,fT m nx (.row i.size l.toNat λ_ j=>aH (uI P E z.cells) j))
     |false=>none
    |_,_=>none
   |_,_=>none
  |_,_,_=>none
theorem Q4 {E:TypeId} {z:Array Value} {j:Nat} {x:Value} (hx:z[j]? =some x) {w:World} {ω:Ow} {k i:Nat} (hn:ω.β k (some (i,j))=none):cF w ω none k i j (aH (uI P E z) j) x:=by
  have hj:=(Array.getElem?_eq_some_iff.1 hx).1
  have e:aH (uI P E z) j=(match Fo P 4 E j,z[j]? with
    |some sz,some (.slice none 0 0)=> .il sz 0 λ_ _=> .aK
    |_,some x=> .v x
    |_,none=> .aK):=by
    simp[aH,uI,List.getD_eq_getElem?_getD,hj]
  rw[e]
  split
  · next J=>
    rw[hx]at J
    obtain rfl:=Option.some.inj J
    exact .inr ⟨⟨none,0,rfl,Nat.le_refl _,Nat.zero_le _,.inl rfl⟩,λL hL=>by rw[hn]at hL;cases hL⟩
  · next J _=>
    rw[hx]at J
    obtain rfl:=Option.some.inj J
    exact rfl
  · trivial
theorem Ku (h:Cx P w ω ρ M a) {o:Oper} {T:TypeId} {x y:Operand} {nx:Nat} {pr:Prop} {s:SV} {u:a_} (ho:o.op= .makeSlice T x y) (he:DC P (ae M) nx T (ρ x) (ρ y)=some (pr,s,u)) (hp:pr):lv P w ω M a o s u:=by
  have hx:=h.val x
  have hy:=h.val y
  unfold DC at he
  split at he
  · next E k1 l k2 c hu J U=>
    rw[J]at hx;rw[U]at hy
    have ex:a.eval x= .int k1 l:=hx
    have ey:a.eval y= .int k2 c:=hy
    split at he
    · next i hi hf=>
      split at he
      · next z hz hb=>
        have hb:0<i.bytes:=Nat.le_of_ble_eq_true hb
        split at he
        · next fk=>
          have fk:=Nat.eq_of_beq_eq_true fk
          simp only[Option.some.injEq,Prod.mk.injEq]at he
          obtain⟨rfl,rfl,rfl⟩:=he
          obtain⟨h0,J,U⟩:=hp
          have hcb:c<=140737488355328:=by
            have:c*1<=c*(i.bytes:Int):=Int.mul_le_mul_of_nonneg_left (by omega) (by omega)
            rw[Int.mul_comm c (i.bytes:Int)]at this
            omega
          have hr:=run_make (P:=P) w T E i z hu hi hz k1 k2 l c h0 J (by omega) (by omega)
          obtain⟨al,s1,s2,s3⟩:=DF h.mem hf (sz:=i.size) (n:=l.toNat) (cap:=c.toNat) (f:=λ_ j=>aH (uI P E z.cells) j) (c:=madeCells z.cells (c.toNat*i.size)) (T:=E) (by omega) (by unfold maxLen;omega) (by rw[size_madeCells];exact Nat.le_refl _) (by
            intro w' al _ mg q hq j hj
            have ai:q*i.size+j<c.toNat*i.size:=kL (by omega) hj
            have m_:z.cells[j]? =some (z.cells[(q*i.size+j)%z.cells.size]!):=by
              have:(q*i.size+j)%z.cells.size=j:=by
                rw[fk,Nat.add_comm,Nat.add_mul_mod_self_right,Nat.mod_eq_of_lt hj]
              rw[this]
              rw[getElem?_pos z.cells j (by omega),getElem!_pos z.cells j (by omega)]
            refine⟨z.cells[(q*i.size+j)%z.cells.size]!,by simp[madeCells,ai],Q4 m_ (mg q j)⟩)
          exact⟨_,_,_,al,by simp[execOp,ho,ex,ey,hr,Result.andThen],.inl rfl,s1,s2,s3⟩
        · cases he
      · cases he
    · cases he
  · cases he
/-! ### a slice told element by element -/
def rowOf (sz len:Nat) (l:List SV):Nat->Nat->SV:=
  match len with
  |1=>λ_ j=>aH l j
  |_=>λi j=>aH l (i*sz+j)
def DG (k:IntKind) (zs:List Int):Nat->Nat->SV:=λi _=> .v (.int k (fj zs i))
def B8 (P:Program) (m:Nat->bk) (nx:Nat) (T:TypeId) (len:Nat) (parts:List (Nat×SV)):Option (Prop×SV×a_):=
  match P.underlying T with
  |some (.slice E)=>
   match P.info? E,cv m nx with
   |some i,true=>
    match i.zero,Nat.ble len 1000 with
    |some z,true=>
     match Nat.beq z.cells.size i.size,lV m (λk=>some (k*i.size,i.size)) ((List.range (len*i.size)).map λq=>aH (z.cells.toList.map .v) (q%i.size)) parts,Nat.ble (len*i.size) 16777216 with
     |true,some l,true=>
      match l.all λs=>!cM s with
      |true=>
       match Nat.beq i.size 1,P.underlying E with
       |true,some (.int kk)=>
        match nG kk l with
        |some zs=>some (True,.aV nx (m nx).rs none 0 len,fT m nx (.row i.size len (DG kk zs)))
        |none=>none
       |_,_=>some (True,.aV nx (m nx).rs none 0 len,fT m nx (.row i.size len (rowOf i.size len l)))
      |false=>none
     |_,_,_=>none
    |_,_=>none
   |_,_=>none
  |_=>none
theorem Sd (h:Cx P w ω ρ M a) {o:Oper} {T:TypeId} {len:Nat} {parts:Array (Nat×Operand)} {nx:Nat} {pr:Prop} {s:SV} {u:a_} (ho:o.op= .buildSlice T len parts)
    (he:B8 P (ae M) nx T len (parts.toList.map λp=>(p.1,ρ p.2))=some (pr,s,u)):lv P w ω M a o s u:=by
  have DH: ∀(i:Nat) (s:Nat×SV),(parts.toList.map λp=>(p.1,ρ p.2))[i]? =some s-> ∃u,(parts.toList.map λp=>(p.1,a.eval p.2))[i]? =some (s.1,u)/\Den w ω s.2 u:=by
    intro i s hs
    rw[List.getElem?_map]at hs
    cases hp:parts.toList[i]? with
    |none=>rw[hp]at hs;cases hs
    |some p=>
     rw[hp]at hs
     obtain rfl:=Option.some.inj hs
     exact⟨a.eval p.2,by rw[List.getElem?_map,hp];rfl,h.val p.2⟩
  unfold B8 at he
  split at he
  · next E hu=>
    split at he
    · next i hi hf=>
      split at he
      · next z hz hlen=>
        have hlen:=Nat.le_of_ble_eq_true hlen
        split at he
        · next l fk hl PM=>
          have fk:=Nat.eq_of_beq_eq_true fk
          have PM:=Nat.le_of_ble_eq_true PM
          have YV:bX w ω ((List.range (len*i.size)).map λq=>aH (z.cells.toList.map .v) (q%i.size)) (((Array.range (len*i.size)).map λq=>(if len*i.size=0 then #[]else z.cells)[q%(if len*i.size=0 then(#[]:Array Value)else z.cells).size]!).toList):=by
            refine bX.mk (by simp) λq hq=>?_
            have wS:q<len*i.size:=by simpa using hq
            have h0: ¬len*i.size=0:=by omega
            have A1:0<i.size:=by
              rcases Nat.eq_zero_or_pos i.size with h|h
              · rw[h]at wS;omega
              · exact h
            have pA:q%i.size<z.cells.size:=by rw[fk];exact Nat.mod_lt _ A1
            refine⟨z.cells[q%i.size],?_,?_⟩
            · have e:z.cells[q%z.cells.size]! =z.cells[q%i.size]:=by
                rw[fk,getElem!_pos z.cells (q%i.size) pA]
              simp only[if_neg h0]
              simp[wS,e]
            · rw[List.getD_eq_getElem?_getD,List.getElem?_map,List.getElem?_range wS]
              simp[aH,List.getD_eq_getElem?_getD,pA,Den]
          obtain⟨c,J,U⟩:=B_ h.mem _ _ (by simp) DH _ _ _ YV hl
          have Gm:=U.len
          have gy:c.size=len*i.size:=by
            have e1:l.length=len*i.size:=by
              have:=Hu hl
              simpa using this
            simp at Gm;omega
          have run:(execOp a.eval o).run P w= .ok (.value (.slice (some ⟨w.heap.size,0,none⟩) len len)) (w.alloc (.cells c E)):=by
            have hs:(sizeOf E).run P w= .ok i.size w:=by simp[sizeOf,run_typeInfo w hi,Result.andThen]
            have rC:(zeroValue E).run P w= .ok z w:=by simp[zeroValue,run_typeInfo w hi,hz,Result.andThen]
            have Gc: ¬(len*i.size>2^24):=by omega
            simp only[execOp,ho,Instr.buildSlice,Sem.run_bind,run_underlying hu,Result.andThen_ok,hs,if_neg Gc,Sem.run_pure]
            by_cases h0:len*i.size=0
            · have hA: ∀(g:Nat->Value),(Array.range (len*i.size)).map g= #[]:=λg=>by simp[h0]
              simp only[hA]at J
              have m6:Array.range 0= #[]:=rfl
              simp[h0,m6,J,newRow,Result.andThen]
            · simp only[if_neg h0]at J⊢
              simp[rC,J,newRow,Result.andThen]
          split at he
          · next cX=>
            have key: ∀{f:Nat->Nat->SV},(∀q,q<len-> ∀j,j<i.size->f q j=aH l (q*i.size+j))->some (True,SV.aV nx (ae M nx).rs none 0 len,fT (ae M) nx (.row i.size len f))=some (pr,s,u)->lv P w ω M a o s u:=by
              intro f F3 he
              simp only[Option.some.injEq,Prod.mk.injEq]at he
              obtain⟨_,rfl,rfl⟩:=he
              obtain⟨al,s1,s2,s3⟩:=DF h.mem hf (sz:=i.size) (n:=len) (cap:=len) (f:=f) (c:=c) (T:=E) (Nat.le_refl _) (by unfold maxLen;omega) (by omega) (by
                intro w' al bP mg q hq j hj
                have ai:q*i.size+j<len*i.size:=kL hq hj
                obtain⟨x,e1,e2⟩:=U.get? (q*i.size+j) (by simp at Gm;omega)
                refine⟨x,by simpa using e1,?_⟩
                rw[F3 q hq j hj,fq (BE cX _)]
                exact e2.ext bP)
              exact⟨_,_,_,al,run,.inl rfl,s1,s2,s3⟩
            split at he
            · next kk eV hk=>
              have eV:=Nat.eq_of_beq_eq_true eV
              split at he
              · next zs aaa=>
                refine key (λq hq j hj=>?_) he
                have rz:j=0:=by omega
                subst rz
                have e:=r_ aaa
                rw[e,eV]
                have hzl:zs.length=len:=by
                  have:=congrArg List.length e
                  simp at this Gm
                  rw[eV]at gy
                  omega
                simp[DG,aH,fj,List.getD_eq_getElem?_getD,show q<zs.length by omega]
              · cases he
            · refine key (λq hq j hj=>?_) he
              unfold rowOf
              split
              · have:q=0:=by omega
                subst this
                simp
              · rfl
          · cases he
        · cases he
      · cases he
    · cases he
  · cases he
end
end Go.Sy
