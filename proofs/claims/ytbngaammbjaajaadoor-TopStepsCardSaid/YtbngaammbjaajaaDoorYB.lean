/-
  Sy, part 6: equality of aggregates.
-/
import Derived.Test.YtbngaammbjaajaaDoorYA
import Derived.Laws.MakeOwn
set_option linter.unusedVariables false
set_option linter.unusedSimpArgs false
set_option linter.unusedVariables false
set_option linter.unusedSimpArgs false
namespace Go.Sy
open Go.RowKit
def kh (P:Program) (T:TypeId) (f:Nat->SV) (n off:Nat):Option SV:=
  match P.info? T,P.underlying T with
  |some i,some d=>
   match fy d with
   |true=>match Nat.ble (off+i.size) n with|true=>some (.ag i.size (out i.size λj=>f (off+j)))|false=>none
   |false=>match Nat.blt off n with|true=>some (f off)|false=>none
  |_,_=>none
def ug (P:Program) (T:TypeId) (s t:SV):Option Bool:=
  match P.underlying T,s,t with
  |some (.int _),.v (.int k a),.v (.int k' b)=>match kb k k' with|true=>some (a==b)|false=>none
  |some .string,.v (.string a),.v (.string b)=>some (a.toList==b.toList)
  |some .bool,s,t=>match f_ s,f_ t with|some a,some b=>some (a==b)|_,_=>none
  |_,_,_=>none
def qv:Option Bool->Option Bool->Option Bool
  |some a,some b=>some (a&&b)
  |_,_=>none
def lS (P:Program) (rec:TypeId->SV->SV->Option Bool) (n:Nat) (f:Nat->SV) (m:Nat) (g:Nat->SV):List Field->Option Bool
  | []=>some true
  |fd::r=>
   match decide (fd.name = "_") with
   |true=>lS P rec n f m g r
   |false=>
    match kh P fd.type f n fd.offset,kh P fd.type g m fd.offset with
    |some a,some b=>qv (rec fd.type a b) (lS P rec n f m g r)
    |_,_=>none
def nP (P:Program) (rec:TypeId->SV->SV->Option Bool) (E:TypeId) (sz n:Nat) (f:Nat->SV) (m:Nat) (g:Nat->SV):List Nat->Option Bool
  | []=>some true
  |k::r=>
   match kh P E f n (k*sz),kh P E g m (k*sz)with
   |some a,some b=>qv (rec E a b) (nP P rec E sz n f m g r)
   |_,_=>none
def kP (P:Program):Nat->TypeId->SV->SV->Option Bool
  |0,_,_,_=>none
  |d+1,T,s,t=>
   match P.underlying T,s,t with
   |some (.struct fs),.ag n f,.ag m g=>match P.stoodInHeld T with|false=>lS P (kP P d) n f m g fs.toList|true=>none
   |some (.array len E),.ag n f,.ag m g=>match P.info? E with|some i=>nP P (kP P d) E i.size n f m g (List.range len)|none=>none
   |_,s,t=>ug P T s t
section
variable {P:Program} {w:World} {J:Ow}
theorem mQ {T:TypeId} {f:Nat->SV} {n off:Nat} {s:SV} {xs:Array Value} (h:kh P T f n off=some s) (hd:Den w J (.ag n f) (.agg xs)):
    ∃v,(∀w',(part T xs off).run P w'= .ok v w')/\Den w J s v:=by
  obtain⟨cs,e,hn,hj⟩:=hd
  obtain rfl:=Value.agg.inj e
  unfold kh at h
  split at h
  · next i d hi hu=>
    split at h
    · next hd=>
      split at h
      · next hle=>
        have hle:=Nat.le_of_ble_eq_true hle
        obtain rfl:=Option.some.inj h
        have ha: ∀w',(isAgg T).run P w'= .ok true w':=λw'=>by
          simp only[isAgg,Sem.run_bind,run_underlying hu,Result.andThen]
          cases d<;>simp[fy]at hd<;>simp
        have hs: ∀w',(sizeOf T).run P w'= .ok i.size w':=λw'=>by simp[sizeOf,run_typeInfo w' hi,Result.andThen]
        refine⟨.agg (xs.extract off (off+i.size)),λw'=>by simp[part,ha,hs,Result.andThen],_,rfl,by simp;omega,λj iP=>?_⟩
        obtain⟨x,U,h2⟩:=hj (off+j) (by omega)
        exact⟨x,by rw[Array.getElem?_extract];simp[show j<min (off+i.size) xs.size -off by omega,U],by rw[y' iP];exact h2⟩
      · cases h
    · next hd=>
      split at h
      · next af=>
        have af:off<n:=Nat.le_of_ble_eq_true af
        obtain rfl:=Option.some.inj h
        have ha: ∀w',(isAgg T).run P w'= .ok false w':=λw'=>by
          simp only[isAgg,Sem.run_bind,run_underlying hu,Result.andThen]
          cases d<;>simp[fy]at hd<;>simp
        obtain⟨x,U,h2⟩:=hj off af
        exact⟨x,λw'=>by simp[part,ha,U,Result.andThen],h2⟩
      · cases h
  · cases h
theorem Bw {T:TypeId} {s t:SV} {b:Bool} (h:ug P T s t=some b) {u v:Value} (hu:Den w J s u) (hv:Den w J t v) (d:Nat) (w':World):
    (Op.equalIn (d+1) T u v).run P w'= .ok b w':=by
  unfold ug at h
  split at h
  · next hT=>
    split at h
    · next hk=>
      obtain rfl:=mI hk
      obtain rfl:=Option.some.inj h
      obtain rfl:=hu
      obtain rfl:=hv
      exact run_equalIn_int w' d T _ _ _ _ hT
    · cases h
  · next hT=>
    obtain rfl:=Option.some.inj h
    obtain rfl:=hu
    obtain rfl:=hv
    exact run_equalIn_string w' d T _ _ hT
  · next hT=>
    split at h
    · next a b ha hb=>
      obtain rfl:=Option.some.inj h
      obtain rfl:=eW ha hu
      obtain rfl:=eW hb hv
      exact run_equalIn_bool' w' d T _ _ hT
    · cases h
  · cases h
theorem xt {a b:Option Bool} {r:Bool} (h:qv a b=some r): ∃x y,a=some x/\b=some y/\r=(x&&y):=by
  unfold qv at h
  split at h
  · exact⟨_,_,rfl,rfl,(Option.some.inj h).symm⟩
  · cases h
theorem tK {rec:TypeId->SV->SV->Option Bool} {d:Nat} (ih: ∀{T:TypeId} {s t:SV} {b:Bool},rec T s t=some b-> ∀{u v:Value},Den w J s u->Den w J t v-> ∀w',(Op.equalIn d T u v).run P w'= .ok b w')
    {n m:Nat} {f g:Nat->SV} {xs ys:Array Value} (hx:Den w J (.ag n f) (.agg xs)) (hy:Den w J (.ag m g) (.agg ys)):
    ∀(fs:List Field) {b:Bool},lS P rec n f m g fs=some b-> ∀w',(Op.eqFields d xs ys fs).run P w'= .ok b w'
  | [],b,h,w'=>by simp[lS]at h;subst h;simp[Op.eqFields]
  |fd::r,b,h,w'=>by
   unfold lS at h
   split at h
   · next hn=>
     have hn : fd.name = "_" := by simpa using hn
     simp only[Op.eqFields,hn,ne_eq,not_true_eq_false,if_false]
     exact tK ih hx hy r h w'
   · next hn=>
     have hn : fd.name ≠ "_" := by simpa using hn
     split at h
     · next a c ha hc=>
       obtain⟨p,q,U,h2,rfl⟩:=xt h
       obtain⟨u,e1,d1⟩:=mQ ha hx
       obtain⟨v,e2,d2⟩:=mQ hc hy
       have e3:=ih U d1 d2 w'
       simp only[Op.eqFields,hn,ne_eq,not_false_eq_true,if_true,Sem.run_bind,e1,e2,e3,Result.andThen_ok]
       cases p
       · simp
       · simpa using tK ih hx hy r h2 w'
     · cases h
theorem pZ: ∀(d:Nat) {T:TypeId} {s t:SV} {b:Bool},kP P d T s t=some b-> ∀{u v:Value},Den w J s u->Den w J t v-> ∀w',(Op.equalIn d T u v).run P w'= .ok b w'
  |0,_,_,_,_,h,_,_,_,_,_=>by simp[kP]at h
  |d+1,T,s,t,b,h,u,v,hu,hv,w'=>by
   unfold kP at h
   split at h
   · next fs n f m g hT=>
     split at h
     · next hs=>
       obtain⟨xs,rfl,hx⟩:=hu
       obtain⟨ys,rfl,hy⟩:=hv
       have hf:P.fieldsOf T=fs:=by simp[Program.fieldsOf,hT]
       rw[run_equalIn_struct w' d T xs ys (by rw[hf];exact hT) hs,hf]
       exact tK (λhr _ _ du dv cb=>pZ d hr du dv cb) ⟨xs,rfl,hx⟩ ⟨ys,rfl,hy⟩ _ h w'
     · cases h
   · next len E n f m g hT=>
     split at h
     · next i hi=>
       obtain⟨xs,rfl,hx⟩:=hu
       obtain⟨ys,rfl,hy⟩:=hv
       have hs: ∀cb,(sizeOf E).run P cb= .ok i.size cb:=λcb=>by simp[sizeOf,run_typeInfo cb hi,Result.andThen]
       simp only[Op.equalIn,Sem.run_bind,run_underlying hT,Result.andThen_ok,hs,Std.Legacy.Range.forIn_eq_forIn_range',Std.Legacy.Range.size]
       have key: ∀(l:List Nat) {b:Bool},nP P (kP P d) E i.size n f m g l=some b-> ∀cb:World,
        (((forIn l ((none,()):Option Bool×Unit) λk r=>do
            let x<-part E xs (k*i.size)
            let y<-part E ys (k*i.size)
            let z<-Op.equalIn d E x y
            if(!z)=true then pure (ForInStep.done (some false,()))else pure (ForInStep.yield (none,()))):Sem (Option Bool×Unit))).run P cb= .ok (if b then none else some false,()) cb:=by
         intro l
         induction l with
         |nil=>intro b h cb;simp[nP]at h;subst h;simp
         |cons k r ih=>
          intro b h cb
          unfold nP at h
          split at h
          · next a c ha hc=>
            obtain⟨p,q,U,h2,rfl⟩:=xt h
            obtain⟨u,e1,d1⟩:=mQ ha ⟨xs,rfl,hx⟩
            obtain⟨v,e2,d2⟩:=mQ hc ⟨ys,rfl,hy⟩
            have e3:=pZ d U d1 d2 cb
            simp only[List.forIn_cons,Sem.run_bind,e1,e2,e3,Result.andThen_ok]
            cases p
            · simp
            · simpa using ih h2 cb
          · cases h
       have e0:List.range' 0 ((len -0+1 -1)/1)=List.range len:=by rw[List.range_eq_range'];congr 1;omega
       rw[e0,key _ h w']
       cases b<;>simp[Result.andThen]
     · cases h
   · exact Bw h hu hv d w'
end
end Go.Sy
set_option linter.unusedVariables false
set_option linter.unusedSimpArgs false
namespace Go.Sy
open Go.RowKit
def uF (P:Program) (op:BinOp) (T:TypeId) (s t:SV):R:=
  match s,t,P.eqGuardType P.depth T with
  | .ag n f,.ag m g,false=>
    match kP P 10000 T (.ag n f) (.ag m g),op with
    |some b,.eql=> .ok (.v (.bool b))
    |some b,.neq=> .ok (.v (.bool (!b)))
    |_,_=> .bad
  |_,_,_=> .bad
def m4 (c s t:SV):R:=
  match c with
  | .bl true=> .ok s
  | .bl false=> .ok t
  | .v (.bool b)=>
    match f_ s,f_ t with
    |some x,some y=> .ok (.v (.bool (bif b then x else y)))
    |_,_=> .bad
  |_=> .bad
def vb (sg:Bool) (op:UnOp) (s:SV):R:=
  match op,s with
  | .not,.bl true=> .ok (.bl false)
  | .not,.bl false=> .ok (.bl true)
  | .not,.v (.bool b)=> .ok (.v (.bool (!b)))
  | .neg,.v (.int k n)=>match sg with|true=> .ok (.v (.int k (k.wrap (0 -n))))|false=> .br (kQ k (0 -n)) (.v (.int k (-n)))
  |_,_=> .bad
def ue (P:Program) (sg:Bool) (S D:TypeId) (s:SV):R:=
  match P.underlying S,P.underlying D,s with
  |some _,some (.int k),.v (.int _ n)=>match sg with|true=> .ok (.v (.int k (k.wrap n)))|false=> .br (kQ k n) (.v (.int k n))
  |_,_,_=> .bad
def tI (T:TypeId):SV->SV
  | .v x=> .v (.iface T x)
  | .bl b=> .v (.iface T (.bool b))
  |s=> .ic T s
def sO (P:Program) (T:TypeId) (s:SV):R:=
  match P.underlying T with
  |some (.interface _)=> .bad
  |some _=> .ok (tI T s)
  |none=> .bad
def mH (s:SV) (i:Nat):R:=
  match s with
  | .tp n f=>match Nat.blt i n with|true=> .ok (f i)|false=> .bad
  |_=> .bad
def m6 (P:Program) (t:TypeId) (name:String):Option Nat:=
  match P.info? t,P.underlying t with
  |some i,some d=>
   match i.methods.find? (λm=>m.name==name)with
   |some m=>
    match m.path.toList,m.func,d with
    | [],some (f,true),.pointer _=>some f
    | [],some (f,false),.struct _=>some f
    |_,_,_=>none
   |none=>none
  |_,_=>none
def sC (P:Program) (s:SV) (m:Nat->ao):R:=
  match s with
  | .ptr k st p i j=>match aR m k st p with|true=> .ok (.ptr k st p i j)|false=> .bad
  | .pe k st p i j len z=>match aR m k st p with|true=> .ok (.pe k st p i j len z)|false=> .bad
  | .pt q n f=> .ok (.pt q n f)
  | .fn id n f=> .ok (.fn id n f)
  | .bm id s=> .ok (.bm id s)
  | .mv nm (.ic t s)=>match m6 P t nm with|some _=> .ok (.mv nm (.ic t s))|none=> .bad
  | .pa q sz n f=> .ok (.pa q sz n f)
  | .v (.pointer (some ad))=> .ok (.v (.pointer (some ad)))
  |_=> .bad
def uH (P:Program) (T:TypeId) (s:SV) (m:Nat->ao):R:=
  match P.underlying T,s with
  |some (.slice _),.sl _ _ n _=> .eP ((n:Int)<=9223372036854775807) (.v (.int .i64 n))
  |some (.slice _),.aC k st p _ n=>match aR m k st p with|true=> .eP ((n:Int)<=9223372036854775807) (.v (.int .i64 n))|false=> .bad
  |some (.slice _),.sa k st p _ _ n=>match aR m k st p with|true=> .ok (.v (.int .i64 n))|false=> .bad
  |some (.slice _),.v (.slice none 0 0)=> .ok (.v (.int .i64 0))
  |some (.slice _),.es=> .ok (.v (.int .i64 0))
  |some .string,.v (.string x)=> .ok (.v (.int .i64 x.size))
  |_,_=> .bad
def qi (mx:Bool) (l:List SV):R:=
  match l with
  | [.v (.int k x),.v (.int k' y)]=>
    match kb k k',mx with
    |true,true=> .ok (.v (.int k (max x y)))
    |true,false=> .ok (.v (.int k (min x y)))
    |_,_=> .bad
  |_=> .bad
def uf (P:Program) (T:TypeId) (s:SV) (j:Nat):R:=
  match P.underlying T,s with
  |some (.struct fs),.ag n f=>
   match fs[j]? with
   |some fd=>match kh P fd.type f n fd.offset with|some t=> .ok t|none=> .bad
   |none=> .bad
  |_,_=> .bad
def vc (P:Program) (T:TypeId) (lit:Bool) (s i:SV):R:=
  match P.underlying T,s,i with
  |some .string,.v (.string x),.v (.int _ z)=> .br ((0<=z/\z<x.size)) (.v (.int .u8 (x.data.toList.getD z.toNat 0).toNat))
  |some (.array len E),.ag n f,.v (.int _ z)=>
   match P.info? E,P.underlying E with
   |some i,some d=>
    match fy d,Nat.beq n (len*i.size),Nat.beq i.size 1 with
    |false,true,true=>
     match lit,d with
     |true,_=> .br ((0<=z/\z<len)) (f z.toNat)
     |false,.int kk=>match ix kk ((List.range len).map f)with|some l=> .br ((0<=z/\z<len)) (.v (.int kk (dh l z.toNat)))|none=> .bad
     |_,_=> .bad
    |_,_,_=> .bad
   |_,_=> .bad
  |_,_,_=> .bad
def gz (d:Int):Option SV->Option Int
  |none=>some d
  |some (.v (.int _ z))=>some z
  |_=>none
def tG (P:Program) (T:TypeId) (s:SV) (lo hi:Option SV) (m:Nat->ao):R:=
  match P.underlying T,s with
  |some (.slice E),.sl q sz n f=>
   match P.info? E,gz 0 lo,gz n hi with
   |some i,some l,some h=>match Nat.beq i.size sz with|true=> .br ((0<=l/\l<=h/\h<=n)) (.sl q sz (h.toNat -l.toNat) λi j=>f (l.toNat+i) j)|false=> .bad
   |_,_,_=> .bad
  |some (.slice E),.aC k st p e n=>
   match P.info? E,gz 0 lo,gz n hi with
   |some i,some l,some h=>
    match aR m k st p,cy (m k).b p with
    |true,some r=>match Nat.beq i.size r.sz with|true=> .br ((0<=l/\l<=h/\h<=n)) (.aC k st p (e+l.toNat) (h.toNat -l.toNat))|false=> .bad
    |_,_=> .bad
   |_,_,_=> .bad
  |some (.array len E),.ptr k st p ii j=>
   match P.info? E,lo,hi,aR m k st p with
   |some i,none,none,true=>match Nat.beq i.size 1,Nat.blt 0 len,Nat.ble len 1000000 with|true,true,true=> .ok (.sa k st p ii j len)|_,_,_=> .bad
   |_,_,_,_=> .bad
  |some .string,.v (.string x)=>
   match gz 0 lo,gz x.size hi with
   |some l,some h=> .br ((0<=l/\l<=h/\h<=x.size)) (.v (.string (x.extract l.toNat h.toNat)))
   |_,_=> .bad
  |_,_=> .bad
def tc (fn:Fn) (first cr:List SV):R:=
  match fn,first with
  | .func id,[]=> .ok (.fn id cr.length (aq cr))
  | .func id,[s]=>match cr with| []=> .ok (.bm id s)|_=> .bad
  | .method nm,[s]=>match cr with| []=> .ok (.mv nm s)|_=> .bad
  |_,_=> .bad
def gO (m:Nat->ao):SV->Option (List SV)
  | .ag n f=>some ((List.range n).map f)
  | .v (.agg cs)=>some (cs.toList.map .v)
  | .v (.tuple _)=>none
  | .aj=>none
  | .tp _ _=>none
  | .il _ _ _=>none
  | .ptr k st p i j=>match aR m k st p with|true=>some [.ptr k st p i j]|false=>none
  | .pe k st p i j len z=>match aR m k st p with|true=>some [.pe k st p i j len z]|false=>none
  | .aC k st p e n=>match aR m k st p with|true=>some [.aC k st p e n]|false=>none
  | .sa k st p i j n=>match aR m k st p with|true=>some [.sa k st p i j n]|false=>none
  |s=>some [s]
def gk (l:List SV):Nat->List SV->List SV
  |_,[]=>l
  |off,c::r=>gk (l.set off c) (off+1) r
def gm (m:Nat->ao) (place:Nat->Option (Nat×Nat)) (cells:List SV):List (Nat×SV)->Option (List SV)
  | []=>some cells
  |(i,s)::rest=>
   match place i,gO m s with
   |some (off,size),some cs=>
    match Nat.beq cs.length size,Nat.ble (off+cs.length) cells.length with
    |true,true=>gm m place (gk cells off cs) rest
    |_,_=>none
   |_,_=>none
def CD (P:Program) (fs:List Field):Option (List (Nat×Nat)):=fs.mapM (λf=>(P.info? f.type).map λi=>(f.offset,i.size))
def tH (P:Program) (T:TypeId) (parts:List (Nat×SV)) (m:Nat->ao):R:=
  match P.info? T,P.underlying T with
  |some i,some (.struct fs)=>
   match i.zero,CD P fs.toList with
   |some z,some pl=>
    match gm m (λk=>pl[k]?) (z.cells.toList.map .v) parts with
    |some l=> .ok (.ag l.length (aq l))
    |none=> .bad
   |_,_=> .bad
  |some i,some (.array _ E)=>
   match i.zero,P.info? E with
   |some z,some ie=>
    match gm m (λk=>some (k*ie.size,ie.size)) (z.cells.toList.map .v) parts with
    |some l=> .ok (.ag l.length (aq l))
    |none=> .bad
   |_,_=> .bad
  |_,_=> .bad
section
variable {P:Program} {w:World} {J:Ow} {ρ:Operand->SV} {M:Mem} {a:Act}
theorem Dd (h:Cx P w J ρ M a) {o:Oper} {op:BinOp} {T T':TypeId} {x y:Operand} {K:SV->Prop} (ho:o.op= .binOp op T x y T')
    (he:(uF P op T (ρ x) (ρ y)).run K):bV P w J a o K:=by
  have hx:=h.val x
  have hy:=h.val y
  unfold uF at he
  split at he
  · next n f m g hs ht hg=>
    rw[hs]at hx;rw[ht]at hy
    split at he
    · next b hb=>
      have hr:=λw'=>pZ 10000 hb hx hy w'
      obtain⟨xs,ex,_⟩:=hx
      obtain⟨ys,ey,_⟩:=hy
      rw[ex,ey]at hr
      exact⟨.v (.bool b),.bool b,eX ho ex ey (λw=>run_eqGuard_agg w _ _ _ _ _ _ hg) (λw=>by rw[run_eql_struct,hr w];rfl),rfl,he⟩
    · next b hb=>
      have hr:=λw'=>pZ 10000 hb hx hy w'
      obtain⟨xs,ex,_⟩:=hx
      obtain⟨ys,ey,_⟩:=hy
      rw[ex,ey]at hr
      exact⟨.v (.bool (!b)),.bool (!b),eX ho ex ey (λw=>run_eqGuard_agg w _ _ _ _ _ _ hg) (λw=>by rw[run_neq_struct,hr w];rfl),rfl,he⟩
    · exact he.elim
  · exact he.elim
theorem mW (h:Cx P w J ρ M a) {o:Oper} {c x y:Operand} {K:SV->Prop} (ho:o.op= .pick c x y)
    (he:(m4 (ρ c) (ρ x) (ρ y)).run K):bV P w J a o K:=by
  have hc:=h.val c
  have hx:=h.val x
  have hy:=h.val y
  unfold m4 at he
  split at he
  · next hs=>
    rw[hs]at hc
    have ec:a.eval c= .bool true:=hc
    exact⟨_,_,by simp[execOp,ho,ec,asBool],hx,he⟩
  · next hs=>
    rw[hs]at hc
    have ec:a.eval c= .bool false:=hc
    exact⟨_,_,by simp[execOp,ho,ec,asBool],hy,he⟩
  · next b hs=>
    rw[hs]at hc
    have ec:a.eval c= .bool b:=hc
    split at he
    · next p q hp hq=>
      have ex:=eW hp hx
      have ey:=eW hq hy
      exact⟨.v (.bool (bif b then p else q)),.bool (bif b then p else q),by cases b<;>simp[execOp,ho,ec,asBool,ex,ey],rfl,he⟩
    · exact he.elim
  · exact he.elim
theorem DT (h:Cx P w J ρ M a) {sg:Bool} {o:Oper} {op:UnOp} {T:TypeId} {x:Operand} {K:SV->Prop} (ho:o.op= .unOp op T x)
    (he:(vb sg op (ρ x)).run K):bV P w J a o K:=by
  have hx:=h.val x
  unfold vb at he
  split at he
  · next hs=>
    rw[hs]at hx
    have ex:a.eval x= .bool true:=hx
    exact⟨.bl false,.bool false,by simp[execOp,ho,ex,Op.unary],rfl,he⟩
  · next hs=>
    rw[hs]at hx
    have ex:a.eval x= .bool false:=hx
    exact⟨.bl true,.bool true,by simp[execOp,ho,ex,Op.unary],rfl,he⟩
  · next b hs=>
    rw[hs]at hx
    have ex:a.eval x= .bool b:=hx
    exact⟨.v (.bool (!b)),.bool (!b),by simp[execOp,ho,ex,Op.unary],rfl,he⟩
  · next k n hs=>
    rw[hs]at hx
    have ex:a.eval x= .int k n:=hx
    cases sg with
    |true=>exact⟨.v (.int k (k.wrap (0 -n))),.int k (k.wrap (0 -n)),by simp[execOp,ho,ex,Op.unary,Op.intArith],rfl,he⟩
    |false=>
     have e:k.wrap (0 -n)= -n:=by have:=he.1;unfold kQ at this;omega
     exact⟨.v (.int k (-n)),.int k (-n),by simp only[execOp,ho,ex,Op.unary,Op.intArith,e,Sem.run_bind,Sem.run_pure,Result.andThen_ok],rfl,he.2⟩
  · exact he.elim
theorem CB (h:Cx P w J ρ M a) {sg:Bool} {o:Oper} {S D:TypeId} {x:Operand} {K:SV->Prop} (ho:o.op= .convert S D x)
    (he:(ue P sg S D (ρ x)).run K):bV P w J a o K:=by
  have hx:=h.val x
  unfold ue at he
  split at he
  · next d k k' n hS hD hs=>
    rw[hs]at hx
    have ex:a.eval x= .int k' n:=hx
    have hr:(execOp a.eval o).run P w= .ok (.value (.int k (k.wrap n))) w:=by simp[execOp,ho,ex,convert,run_underlying hS,run_underlying hD,Conv.intToInt,Result.andThen]
    cases sg with
    |true=>exact⟨.v (.int k (k.wrap n)),_,hr,rfl,he⟩
    |false=>
     have e:k.wrap n=n:=he.1
     exact⟨.v (.int k n),_,hr,by rw[e];rfl,he.2⟩
  · exact he.elim
theorem AX {T:TypeId} {s:SV} {u:Value} (h:Den w J s u):Den w J (tI T s) (.iface T u):=by
  unfold tI
  split
  · obtain rfl:=h;rfl
  · obtain rfl:=h;rfl
  · exact⟨u,rfl,h⟩
theorem A' (h:Cx P w J ρ M a) {o:Oper} {T:TypeId} {x:Operand} {K:SV->Prop} (ho:o.op= .makeInterface T x)
    (he:(sO P T (ρ x)).run K):bV P w J a o K:=by
  have hx:=h.val x
  unfold sO at he
  split at he
  · exact he.elim
  · next d hn hu=>
    refine⟨_,_,?_,AX hx,he⟩
    simp only[execOp,ho,Instr.makeInterface,Sem.run_bind,run_underlying hu,Result.andThen_ok]
    cases d<;>first|exact absurd rfl (hn _)|rfl
  · exact he.elim
theorem Ba (h:Cx P w J ρ M a) {o:Oper} {i:Nat} {x:Operand} {K:SV->Prop} (ho:o.op= .extract x i)
    (he:(mH (ρ x) i).run K):bV P w J a o K:=by
  have hx:=h.val x
  unfold mH at he
  split at he
  · next n f hs=>
    rw[hs]at hx
    obtain⟨cs,ex,_,hj⟩:=hx
    split at he
    · next af=>
      obtain⟨y,U,h2⟩:=hj i (Nat.le_of_ble_eq_true af)
      exact⟨_,y,by simp[execOp,ho,ex,Instr.extract,U],h2,he⟩
    · exact he.elim
  · exact he.elim
theorem AW (h:Cx P w J ρ M a) {o:Oper} {x:Operand} {K:SV->Prop} (ho:o.op= .nilCheck x)
    (he:(sC P (ρ x) (aa M)).run K):bV P w J a o K:=by
  have hx:=h.val x
  unfold sC at he
  have run: ∀u,(∃ad,u= .pointer (some ad))\/(∃f p c,u= .func (.func f) p c)->a.eval x=u->(execOp a.eval o).run P w= .ok (.value u) w:=by
    rintro u (⟨ad,rfl⟩|⟨f,p,c,rfl⟩) e<;>simp[execOp,ho,e]
  split at he
  · next k st p i j hs=>
    split at he
    · next ay=>
      rw[hs]at hx
      obtain⟨_,L,_,_,e⟩:=cF h.mem ay hx
      exact⟨_,_,run _ (.inl ⟨_,e⟩) rfl,hx,he⟩
    · exact he.elim
  · next k st p i j len z hs=>
    split at he
    · next ay=>
      rw[hs]at hx
      obtain⟨_,L,_,_,_,e⟩:=cF h.mem ay hx
      exact⟨_,_,run _ (.inl ⟨_,e⟩) rfl,hx,he⟩
    · exact he.elim
  · next q n f hs=>
    rw[hs]at hx
    have bn:=hx
    obtain⟨b,ex,_⟩:=hx
    exact⟨_,_,run _ (.inl ⟨_,ex⟩) rfl,bn,he⟩
  · next id n f hs=>
    rw[hs]at hx
    have bn:=hx
    obtain⟨b,ex,_⟩:=hx
    exact⟨_,_,run _ (.inr ⟨_,_,_,ex⟩) rfl,bn,he⟩
  · next id s hs=>
    rw[hs]at hx
    have bn:=hx
    obtain⟨b,ex,_⟩:=hx
    exact⟨_,_,run _ (.inr ⟨_,_,_,ex⟩) rfl,bn,he⟩
  · next nm t s hs=>
    rw[hs]at hx
    have bn:=hx
    obtain⟨u,ex,y,rfl,_⟩:=hx
    split at he
    · next f hm=>
      refine⟨.mv nm (.ic t s),.func (.method nm) #[.iface t y] #[],?_,by rw[ex]at bn;exact bn,he⟩
      unfold m6 at hm
      split at hm
      · next i d hi hd=>
        split at hm
        · next m hf=>
          split at hm
          · next f e hp eR=>
            obtain⟨k,hk⟩: ∃k,P.types.size+Made.depth=k+1:=⟨P.types.size+99,by show P.types.size+100=_;omega⟩
            simp[execOp,ho,ex,hk,nilAhead,typeInfo,hi,hf,hp,followBlind,eR,Result.andThen]
          · next f e hp eR=>
            obtain⟨k,hk⟩: ∃k,P.types.size+Made.depth=k+1:=⟨P.types.size+99,by show P.types.size+100=_;omega⟩
            simp[execOp,ho,ex,hk,nilAhead,typeInfo,hi,hf,hp,followBlind,eR,underlying,hd,Result.andThen]
          · cases hm
        · cases hm
      · cases hm
    · exact he.elim
  · next q sz n f hs=>
    rw[hs]at hx
    have bn:=hx
    obtain⟨b,ex,_⟩:=hx
    exact⟨_,_,run _ (.inl ⟨_,ex⟩) rfl,bn,he⟩
  · next ad hs=>
    rw[hs]at hx
    exact⟨.v (.pointer (some ad)),_,run _ (.inl ⟨_,rfl⟩) hx,rfl,he⟩
  · exact he.elim
theorem Df (h:Cx P w J ρ M a) {o:Oper} {T:TypeId} {x:Operand} {K:SV->Prop} (ho:o.op= .call {callee:= .builtin .len,args:= #[x],argTypes:= #[T]})
    (he:(uH P T (ρ x) (aa M)).run K):bV P w J a o K:=by
  have hx:=h.val x
  unfold uH at he
  have run: ∀p n cap,(∃E,P.underlying T=some (.slice E))->a.eval x= .slice p n cap->(execOp a.eval o).run P w= .ok (.value (.int .i64 n)) w:=by
    rintro p n cap ⟨E,hu⟩ ex
    simp[execOp,ho,resolve,invoke,builtin,Builtin.len_,ex,run_underlying hu,Result.andThen,goInt]
  split at he
  · next E q sz n f hu hs=>
    rw[hs]at hx
    obtain⟨p,cap,ex,_,db,_⟩:=hx
    exact⟨.v (.int .i64 n),_,run _ _ _ ⟨E,hu⟩ ex,rfl,he (by unfold maxLen at db;omega)⟩
  · next E k st p e n hu hs=>
    split at he
    · next ay=>
      rw[hs]at hx
      have e0:st=Sy.st J.cur k p:=by
        rw[h.mem.cur]
        cases p with
        |none=>exact Nat.eq_of_beq_eq_true ay
        |some _=>exact Nat.eq_of_beq_eq_true ay
      rcases hx with hx|⟨_,q,cap,ex,_,db,_⟩
      · omega
      exact⟨.v (.int .i64 n),_,run _ _ _ ⟨E,hu⟩ ex,rfl,he (by unfold maxLen at db;omega)⟩
    · exact he.elim
  · next E k st p i j n hu hs=>
    split at he
    · next ay=>
      rw[hs]at hx
      obtain⟨_,L,_,_,_,ex⟩:=cF h.mem ay hx
      exact⟨.v (.int .i64 n),_,run _ _ _ ⟨E,hu⟩ ex,rfl,he⟩
    · exact he.elim
  · next E hu hs=>
    rw[hs]at hx
    exact⟨.v (.int .i64 0),_,run _ _ _ ⟨E,hu⟩ hx,rfl,he⟩
  · next E hu hs=>
    rw[hs]at hx
    obtain⟨p,ex⟩:=hx
    exact⟨.v (.int .i64 0),_,run _ _ _ ⟨E,hu⟩ ex,rfl,he⟩
  · next y hu hs=>
    rw[hs]at hx
    have ex:a.eval x= .string y:=hx
    exact⟨.v (.int .i64 y.size),_,by simp[execOp,ho,resolve,invoke,builtin,Builtin.len_,ex,run_underlying hu,Result.andThen,goInt],rfl,he⟩
  · exact he.elim
theorem y_ (h:Cx P w J ρ M a) {o:Oper} {mx:Bool} {x y:Operand} {ts:Array TypeId} {K:SV->Prop} (ho:o.op= .call {callee:= .builtin (if mx then .max else .min),args:= #[x,y],argTypes:=ts})
    (he:(qi mx [ρ x,ρ y]).run K):bV P w J a o K:=by
  have hx:=h.val x
  have hy:=h.val y
  unfold qi at he
  split at he
  · next k m k' n hl=>
    obtain⟨U,h2⟩:ρ x= .v (.int k m)/\ρ y= .v (.int k' n):=by simpa using hl
    rw[U]at hx;rw[h2]at hy
    have ex:a.eval x= .int k m:=hx
    have ey:a.eval y= .int k' n:=hy
    split at he
    · next hk=>
      exact⟨.v (.int k (max m n)),.int k (max m n),by
        simp[execOp,ho,resolve,invoke,builtin,Builtin.max_,Builtin.max2,ex,ey]
        split<;>omega,rfl,he⟩
    · next hk=>
      exact⟨.v (.int k (min m n)),.int k (min m n),by
        simp[execOp,ho,resolve,invoke,builtin,Builtin.min_,Builtin.min2,ex,ey]
        split<;>omega,rfl,he⟩
    · exact he.elim
  · exact he.elim
theorem CC (h:Cx P w J ρ M a) {o:Oper} {T:TypeId} {x:Operand} {j:Nat} {K:SV->Prop} (ho:o.op= .field T x j)
    (he:(uf P T (ρ x) j).run K):bV P w J a o K:=by
  have hx:=h.val x
  unfold uf at he
  split at he
  · next fs n f hu hs=>
    rw[hs]at hx
    split at he
    · next fd mc=>
      split at he
      · next t ht=>
        obtain⟨cs,ex,hr⟩:=hx
        obtain⟨v,Fe,hv⟩:=mQ ht ⟨cs,rfl,hr⟩
        exact⟨t,v,by simp[execOp,ho,Instr.field,run_underlying hu,mc,ex,asAgg,Fe w,Result.andThen],hv,he⟩
      · exact he.elim
    · exact he.elim
  · exact he.elim
theorem DU (h:Cx P w J ρ M a) {o:Oper} {T:TypeId} {lit:Bool} {x y:Operand} {K:SV->Prop} (ho:o.op= .index T x y)
    (he:(vc P T lit (ρ x) (ρ y)).run K):bV P w J a o K:=by
  have hx:=h.val x
  have hy:=h.val y
  unfold vc at he
  split at he
  · next s k z hu hs ht=>
    rw[hs]at hx;rw[ht]at hy
    have ex:a.eval x= .string s:=hx
    have ey:a.eval y= .int k z:=hy
    obtain⟨⟨h0,U⟩,hK⟩:=he
    have af:z.toNat<s.size:=by omega
    have uV:z.toNat<s.data.toList.length:=by simpa using af
    refine⟨.v (.int .u8 (s.data.toList.getD z.toNat 0).toNat),.int .u8 (s.data.toList.getD z.toNat 0).toNat,?_,rfl,hK⟩
    have e1:s[z.toNat]? =some (s.data.toList.getD z.toNat 0):=by
      rw[List.getD_eq_getElem?_getD,List.getElem?_eq_getElem uV]
      rw[getElem?_pos s z.toNat af]
      rfl
    simp[execOp,ho,ex,ey,Instr.index,asIntOf,run_underlying hu,h0,e1,Result.andThen]
  · next len E n f k z hu hs ht=>
    rw[hs]at hx;rw[ht]at hy
    have ey:a.eval y= .int k z:=hy
    split at he
    · next i d hi hd=>
      split at he
      · next U h2 h3=>
        have h2:=Nat.eq_of_beq_eq_true h2
        have h3:=Nat.eq_of_beq_eq_true h3
        obtain⟨cs,ex,hn,hj⟩:=hx
        have aH:(sizeOf E).run P w= .ok i.size w:=by simp[sizeOf,run_typeInfo w hi,Result.andThen]
        have ha:(isAgg E).run P w= .ok false w:=by
          simp only[isAgg,Sem.run_bind,run_underlying hd,Result.andThen]
          cases d<;>simp[fy]at U<;>simp
        have key:0<=z->z<len-> ∃u,(execOp a.eval o).run P w= .ok (.value u) w/\Den w J (f z.toNat) u:=by
          intro g0 g1
          obtain⟨u,e1,Ff⟩:=hj z.toNat (by rw[h2,h3];omega)
          exact⟨u,by simp[execOp,ho,ex,ey,Instr.index,asIntOf,run_underlying hu,g0,g1,aH,h3,part,ha,e1,Result.andThen],Ff⟩
        split at he
        · obtain⟨⟨g0,g1⟩,hK⟩:=he
          obtain⟨u,r1,r2⟩:=key g0 g1
          exact⟨_,u,r1,r2,hK⟩
        · next kk=>
          split at he
          · next l hl=>
            obtain⟨⟨g0,g1⟩,hK⟩:=he
            obtain⟨u,r1,r2⟩:=key g0 g1
            have hl:=k_ hl
            have hq:=congrArg (λl=>l[z.toNat]?) hl
            simp only[List.getElem?_map,List.getElem?_range (show z.toNat<len by omega),Option.map_some]at hq
            cases eS:l[z.toNat]? with
            |none=>rw[eS]at hq;cases hq
            |some y=>
             rw[eS]at hq
             simp only[Option.map_some,Option.some.injEq]at hq
             have fe:dh l z.toNat=y:=by simp[dh,List.getD_eq_getElem?_getD,eS]
             exact⟨_,u,r1,by rw[fe,<-hq];exact r2,hK⟩
          · exact he.elim
        · exact he.elim
      · exact he.elim
    · exact he.elim
  · exact he.elim
theorem xL {d:Int} {lo:Option Operand} {z:Int} (h:Cx P w J ρ M a) (hl:gz d (lo.map ρ)=some z):
    (lo=none/\z=d)\/ ∃x k,lo=some x/\a.eval x= .int k z:=by
  cases lo with
  |none=>simp[gz]at hl;exact .inl ⟨rfl,hl.symm⟩
  |some x=>
   have hx:=h.val x
   simp only[Option.map_some,gz]at hl
   split at hl
   · next e=>cases e
   · next k z' e=>
     obtain rfl:=Option.some.inj hl
     have e:=Option.some.inj e
     rw[e]at hx
     exact .inr ⟨x,k,rfl,hx⟩
   · cases hl
theorem sD (h:Cx P w J ρ M a) {lo hi:Option Operand} {l hh:Int} {n cap:Nat} {sl:Bool} (hl:gz 0 (lo.map ρ)=some l) (iU:gz n (hi.map ρ)=some hh) (g0:0<=l) (g1:l<=hh) (g2:hh<=n) (dG:n<=cap):
    (Instr.sliceBounds sl n cap (lo.map a.eval) (hi.map a.eval) none).run P w= .ok (l.toNat,hh.toNat,cap) w:=by
  rcases xL h hl with⟨rfl,rfl⟩|⟨y,k,rfl,ey⟩<;>rcases xL h iU with⟨rfl,rfl⟩|⟨y2,k2,rfl,Av⟩
  · simp[Instr.sliceBounds]
  · simp[Instr.sliceBounds,Instr.sliceBound,Av,asIntOf,Result.andThen,show(0:Int)<=hh by omega,show hh<=cap by omega]
  · simp[Instr.sliceBounds,Instr.sliceBound,ey,asIntOf,Result.andThen,g0,show l<=n by omega]
  · simp[Instr.sliceBounds,Instr.sliceBound,ey,Av,asIntOf,Result.andThen,g0,show(0:Int)<=hh by omega,show hh<=cap by omega,show l<=max hh 0 by omega]
theorem BS (h:Cx P w J ρ M a) {o:Oper} {T:TypeId} {x:Operand} {lo hi:Option Operand} {K:SV->Prop} (ho:o.op= .slice T x lo hi none)
    (he:(tG P T (ρ x) (lo.map ρ) (hi.map ρ) (aa M)).run K):bV P w J a o K:=by
  have hx:=h.val x
  unfold tG at he
  split at he
  · next E q sz n f hu hs=>
    rw[hs]at hx
    split at he
    · next i l hh ek hl iU=>
      split at he
      · next aH=>
        have aH:=Nat.eq_of_beq_eq_true aH
        obtain⟨⟨g0,g1,g2⟩,hK⟩:=he
        obtain⟨p,cap,ex,dG,db,hj⟩:=hx
        have cP:(sizeOf E).run P w= .ok i.size w:=by simp[sizeOf,run_typeInfo w ek,Result.andThen]
        have hb:=sD (P:=P) (sl:=true) h hl iU g0 g1 g2 dG
        refine⟨.sl q sz (hh.toNat -l.toNat) λi j=>f (l.toNat+i) j,.slice (if cap=l.toNat then p else p.map (·.add (l.toNat*i.size))) (hh.toNat -l.toNat) (cap -l.toNat),?_,?_,hK⟩
        · simp only[execOp,ho,ex,Instr.sliceAt,Instr.slice,Sem.run_bind,run_underlying hu,Result.andThen_ok,Option.map_none,hb,cP]
          rfl
        · refine⟨_,_,rfl,by omega,by omega,?_⟩
          by_cases hz:hh.toNat -l.toNat=0
          · exact .inl hz
          · right
            have hc:cap≠l.toNat:=by omega
            obtain⟨ad,rfl,hk⟩:=hj.resolve_left (by omega)
            refine⟨ad.add (l.toNat*i.size),by simp[hc],λi' ek j fB=>?_⟩
            obtain⟨u,e1,e2,e3⟩:=hk (l.toNat+i') (by omega) j fB
            refine⟨u,?_,by rw[cQ];exact e2,e3⟩
            rw[add_add,show l.toNat*i.size+(i'*sz+j)=(l.toNat+i')*sz+j by rw[aH,Nat.add_mul];omega]
            exact e1
      · exact he.elim
    · exact he.elim
  · next E k st p e n hu hs=>
    rw[hs]at hx
    split at he
    · next i l hh ek hl iU=>
      split at he
      · next r ay hr=>
        split at he
        · next aH=>
          have aH:=Nat.eq_of_beq_eq_true aH
          obtain⟨⟨g0,g1,g2⟩,hK⟩:=he
          have e0:st=Sy.st J.cur k p:=by
            rw[h.mem.cur]
            cases p with
            |none=>exact Nat.eq_of_beq_eq_true ay
            |some _=>exact Nat.eq_of_beq_eq_true ay
          rcases hx with hx|⟨_,q,cap,ex,dG,db,hx⟩
          · omega
          have cP:(sizeOf E).run P w= .ok i.size w:=by simp[sizeOf,run_typeInfo w ek,Result.andThen]
          have hb:=sD (P:=P) (sl:=true) h hl iU g0 g1 g2 dG
          refine⟨.aC k st p (e+l.toNat) (hh.toNat -l.toNat),.slice (if cap=l.toNat then q else q.map (·.add (l.toNat*i.size))) (hh.toNat -l.toNat) (cap -l.toNat),?_,Or.inr ⟨e0,_,_,rfl,by omega,by omega,?_⟩,hK⟩
          · simp only[execOp,ho,ex,Instr.sliceAt,Instr.slice,Sem.run_bind,run_underlying hu,Result.andThen_ok,Option.map_none,hb,cP]
            rfl
          · by_cases hc:cap=l.toNat
            · left;omega
            · right
              rcases hx with hx|⟨L,hL,rfl,oG,Aw⟩
              · omega
              obtain⟨r',y1,y2,y3,_⟩:=h.mem.row _ _ _ hL
              obtain rfl:r=r':=Option.some.inj (hr.symm.trans y1)
              refine⟨L,hL,?_,?_,by omega⟩
              · simp[hc,dR,aH,y2,Nat.add_mul,Nat.add_assoc]
              · rw[show e+l.toNat+(cap -l.toNat)=e+cap by omega];exact oG
        · exact he.elim
      · exact he.elim
    · exact he.elim
  · next len E k st p ii j hu hs=>
    rw[hs]at hx
    split at he
    · next i ek hl iU ay=>
      split at he
      · next U h2 h3=>
        have h2:0<len:=Nat.le_of_ble_eq_true h2
        have h3:len<=1000000:=Nat.le_of_ble_eq_true h3
        obtain⟨e0,L,hL,hc,ex⟩:=cF h.mem ay hx
        have hl:lo=none:=by cases lo<;>simp at hl;rfl
        have hh:hi=none:=by cases hi<;>simp at iU;rfl
        subst hl;subst hh
        refine⟨.sa k st p ii j len,.slice (some ⟨L.b,L.o+ii*L.sz+j,none⟩) len len,?_,Or.inr ⟨e0,L,hL,hc,by unfold maxLen;omega,rfl⟩,he⟩
        have cP:(sizeOf E).run P w= .ok i.size w:=by simp[sizeOf,run_typeInfo w ek,Result.andThen]
        simp[execOp,ho,ex,Instr.sliceAt,Instr.sureAddr,Instr.sliceBounds,run_underlying hu,cP,Result.andThen,Addr.add]
      · exact he.elim
    · exact he.elim
  · next s hu hs=>
    rw[hs]at hx
    have ex:a.eval x= .string s:=hx
    split at he
    · next l hh hl iU=>
      obtain⟨⟨g0,g1,g2⟩,hK⟩:=he
      have hb:=sD (P:=P) (sl:=false) h hl iU g0 g1 g2 (Nat.le_refl _)
      refine⟨.v (.string (s.extract l.toNat hh.toNat)),.string (s.extract l.toNat hh.toNat),?_,rfl,hK⟩
      simp only[execOp,ho,ex,Instr.sliceAt,Instr.slice,Sem.run_bind,run_underlying hu,Result.andThen_ok,Option.map_none,Option.isSome_none,Bool.false_eq_true,if_false,hb]
      rfl
    · exact he.elim
  · exact he.elim
theorem Bu (h:Cx P w J ρ M a) {o:Oper} {fn:Fn} {first cr:Array Operand} {K:SV->Prop} (ho:o.op= .makeFunc fn first cr)
    (he:(tc fn (first.toList.map ρ) (cr.toList.map ρ)).run K):bV P w J a o K:=by
  unfold tc at he
  split at he
  · next id hf=>
    have hf:first= #[]:=by
      obtain⟨l⟩:=first
      simpa using hf
    refine⟨.fn id (cr.toList.map ρ).length (aq (cr.toList.map ρ)),.func (.func id) #[] (cr.map a.eval),by simp[execOp,ho,Instr.makeFunc,hf],⟨_,rfl,by simp,λj hj=>?_⟩,he⟩
    have hj:j<cr.size:=by simpa using hj
    exact⟨a.eval cr[j],by simp[hj],by
      have:=h.val cr[j]
      simpa [aq,List.getD_eq_getElem?_getD,hj]using this⟩
  · next id s hf=>
    split at he
    · next hc=>
      have hc:cr= #[]:=by
        obtain⟨l⟩:=cr
        simpa using hc
      obtain⟨l⟩:=first
      match l,hf with
      | [x],hf=>
        have hf:ρ x=s:=by simpa using hf
        subst hf
        exact⟨.bm id (ρ x),.func (.func id) #[a.eval x] #[],by simp[execOp,ho,Instr.makeFunc,hc],⟨_,rfl,h.val x⟩,he⟩
    · exact he.elim
  · next nm s hf=>
    split at he
    · next hc=>
      have hc:cr= #[]:=by
        obtain⟨l⟩:=cr
        simpa using hc
      obtain⟨l⟩:=first
      match l,hf with
      | [x],hf=>
        have hf:ρ x=s:=by simpa using hf
        subst hf
        exact⟨.mv nm (ρ x),.func (.method nm) #[a.eval x] #[],by simp[execOp,ho,Instr.makeFunc,hc],⟨_,rfl,h.val x⟩,he⟩
    · exact he.elim
  · exact he.elim
theorem tJ (hm:ai w J M) {k s:Nat} {p:Path} {R:Loc->Prop} (h:aR (aa M) k s p=true) (ha:At J k s p R) {u:Value} (hu: ∀L,R L->u.cells= #[u]):u.cells= #[u]:=by
  obtain⟨_,L,_,hR⟩:=cF hm h ha
  exact hu L hR
theorem et (hm:ai w J M) {k s:Nat} {p:Path} (h:aR (aa M) k s p=true):s=st J.cur k p:=by
  rw[hm.cur]
  cases p with
  |none=>exact Nat.eq_of_beq_eq_true h
  |some _=>exact Nat.eq_of_beq_eq_true h
theorem my (hm:ai w J M) {s:SV} {u:Value} {l:List SV} (h:gO (aa M) s=some l) (hd:Den w J s u):aJ w J l u.cells.toList:=by
  have one: ∀{s:SV},Den w J s u->u.cells= #[u]->aJ w J [s] u.cells.toList:=λh e=>by rw[e];exact⟨h,trivial⟩
  cases s with
  |es=>
   obtain rfl:=Option.some.inj h
   have n8:=hd
   obtain⟨p,rfl⟩:=n8
   exact one hd rfl
  |ag n f=>
   obtain rfl:=Option.some.inj h
   obtain⟨cs,rfl,hn,hj⟩:=hd
   refine aJ.mk (by simp[Value.cells,hn]) λi hi=>?_
   obtain⟨x,U,h2⟩:=hj i (by simpa using hi)
   have ek:i<n:=by simpa using hi
   refine⟨x,by simpa [Value.cells]using U,?_⟩
   rw[List.getD_eq_getElem?_getD,List.getElem?_map,List.getElem?_range ek]
   exact h2
  |v x=>
   have n8:=hd
   obtain rfl:u=x:=n8
   cases u with
   |agg cs=>
    obtain rfl:=Option.some.inj h
    refine aJ.mk (by simp[Value.cells]) λi hi=>?_
    have ek:i<cs.size:=by simpa using hi
    refine⟨cs[i],by simp[Value.cells,ek],?_⟩
    rw[List.getD_eq_getElem?_getD,List.getElem?_map]
    simp[ek,Den]
   |tuple cs=>cases h
   |_=>obtain rfl:=Option.some.inj h;exact one hd rfl
  |aj=>cases h
  |tp n f=>cases h
  |il sz n f=>cases h
  |ptr k st p i j=>
   simp only[gO]at h
   split at h
   · next ay=>obtain rfl:=Option.some.inj h;exact one hd (tJ hm ay hd λL hR=>by rw[hR.2];rfl)
   · cases h
  |pe k st p i j len z=>
   simp only[gO]at h
   split at h
   · next ay=>obtain rfl:=Option.some.inj h;exact one hd (tJ hm ay hd λL hR=>by rw[hR.2.2];rfl)
   · cases h
  |sa k st p i j n=>
   simp only[gO]at h
   split at h
   · next ay=>obtain rfl:=Option.some.inj h;exact one hd (tJ hm ay hd λL hR=>by rw[hR.2.2];rfl)
   · cases h
  |aC k st p e n=>
   simp only[gO]at h
   split at h
   · next ay=>
     obtain rfl:=Option.some.inj h
     have e0:=et hm ay
     refine one hd ?_
     rcases hd with hd|⟨_,q,cap,rfl,_⟩
     · omega
     · rfl
   · cases h
  |bl b=>obtain rfl:=Option.some.inj h;exact one hd (by obtain rfl:=hd;rfl)
  |pt q n f=>obtain rfl:=Option.some.inj h;exact one hd (by obtain⟨_,rfl,_⟩:=hd;rfl)
  |sl q sz n f=>obtain rfl:=Option.some.inj h;exact one hd (by obtain⟨_,_,rfl,_⟩:=hd;rfl)
  |pa q sz n f=>obtain rfl:=Option.some.inj h;exact one hd (by obtain⟨_,rfl,_⟩:=hd;rfl)
  |fn id n f=>obtain rfl:=Option.some.inj h;exact one hd (by obtain⟨_,rfl,_⟩:=hd;rfl)
  |bm id s=>obtain rfl:=Option.some.inj h;exact one hd (by obtain⟨_,rfl,_⟩:=hd;rfl)
  |mv nm s=>obtain rfl:=Option.some.inj h;exact one hd (by obtain⟨_,rfl,_⟩:=hd;rfl)
  |ic t s=>obtain rfl:=Option.some.inj h;exact one hd (by obtain⟨_,rfl,_⟩:=hd;rfl)
  |er t tf e at_=>obtain rfl:=Option.some.inj h;exact one hd (by rcases hd with⟨_,_,rfl⟩|⟨_,_,rfl⟩|⟨_,_,_,rfl,_⟩<;>rfl)
theorem wL: ∀(cs:List SV) (vs:List Value),aJ w J cs vs-> ∀(off:Nat) (l:List SV) (m:Array Value),aJ w J l m.toList->
    aJ w J (gk l off cs) (((vs.zipIdx off).foldl (λ(m:Array Value) (p:Value×Nat)=>m.setIfInBounds p.2 p.1) m).toList)
  | [],[],_,_,_,_,h=>by simpa [gk]using h
  |c::r,v::t,⟨U,h2⟩,off,l,m,h=>by
   simp only[gk,List.zipIdx_cons,List.foldl_cons]
   exact wL r t h2 (off+1) _ _ (by rw[Array.toList_setIfInBounds];exact h.set U off)
  | [],_::_,hd,_,_,_,_=>hd.elim
  |_::_,[],hd,_,_,_,_=>hd.elim
theorem AQ (l:List Value): ∀(k off:Nat) (m:Array Value),(l.zipIdx k).foldl (λ(m:Array Value) (p:Value×Nat)=>m.setIfInBounds (off+p.2) p.1) m=(l.zipIdx (off+k)).foldl (λ(m:Array Value) (p:Value×Nat)=>m.setIfInBounds p.2 p.1) m:=by
  induction l with
  |nil=>intros;rfl
  |cons v t ih=>intro k off m;simp only[List.zipIdx_cons,List.foldl_cons];rw[ih];rfl
theorem tb (hm:ai w J M) {place:Nat->Option (Nat×Nat)}: ∀(ps:List (Nat×SV)) (vs:List (Nat×Value)),ps.length=vs.length->(∀(i:Nat) (s:Nat×SV),ps[i]? =some s-> ∃u,vs[i]? =some (s.1,u)/\Den w J s.2 u)->
    ∀(l l':List SV) (m:Array Value),aJ w J l m.toList->gm (aa M) place l ps=some l'-> ∃m',Instr.fill place m vs=some m'/\aJ w J l' m'.toList
  | [],[],_,_,l,l',m,h,e=>by
    simp[gm]at e;subst e
    exact⟨m,rfl,h⟩
  | [],_::_,hl,_,_,_,_,_,_=>by simp at hl
  |_::_,[],hl,_,_,_,_,_,_=>by simp at hl
  |(k,s)::r,(k',v)::t,hl,hp,l,l',m,h,e=>by
   obtain⟨u,e1,hu⟩:=hp 0 (k,s) rfl
   simp at e1
   obtain⟨rfl,rfl⟩:=e1
   unfold gm at e
   split at e
   · next off size cs dA dN=>
     split at e
     · next U h2=>
       have U:=Nat.eq_of_beq_eq_true U
       have h2:=Nat.le_of_ble_eq_true h2
       have hd:=my hm dN hu
       have hlen:=hd.len
       have db:=h.len
       have aH:v.cells.size=size:=by rw[<-Array.length_toList,<-hlen,U]
       have ed:Instr.fill place m ((k',v)::t)=Instr.fill place (v.cells.zipIdx.foldl (λcs (p:Value×Nat)=>cs.setIfInBounds (off+p.2) p.1) m) t:=by
         simp only[Instr.fill,dA]
         rw[if_neg]
         simp only[Bool.or_eq_true,decide_eq_true_eq,not_or,aH]
         simp at db
         refine⟨by simp,by omega⟩
       rw[ed]
       refine tb hm r t (by simpa using hl) (λi s hs=>hp (i+1) s (by simpa using hs)) _ l' _ ?_ e
       rw[<-Array.foldl_toList,Array.toList_zipIdx,AQ]
       exact wL cs _ hd off l m h
     · cases e
   · cases e
theorem Dh (l:List Value):aJ w J (l.map .v) l:=by
  induction l with
  |nil=>trivial
  |cons x r ih=>exact⟨rfl,ih⟩
theorem BT (h:Cx P w J ρ M a) {o:Oper} {T:TypeId} {parts:Array (Nat×Operand)} {K:SV->Prop} (ho:o.op= .build T parts)
    (he:(tH P T (parts.toList.map λp=>(p.1,ρ p.2)) (aa M)).run K):bV P w J a o K:=by
  have uc: ∀(i:Nat) (s:Nat×SV),(parts.toList.map λp=>(p.1,ρ p.2))[i]? =some s-> ∃u,(parts.toList.map λp=>(p.1,a.eval p.2))[i]? =some (s.1,u)/\Den w J s.2 u:=by
    intro i s hs
    rw[List.getElem?_map]at hs
    cases hp:parts.toList[i]? with
    |none=>rw[hp]at hs;cases hs
    |some p=>
     rw[hp]at hs
     obtain rfl:=Option.some.inj hs
     exact⟨a.eval p.2,by rw[List.getElem?_map,hp];rfl,h.val p.2⟩
  have fin: ∀{place:Nat->Option (Nat×Nat)} {z:Value} {l:List SV},gm (aa M) place (z.cells.toList.map .v) (parts.toList.map λp=>(p.1,ρ p.2))=some l->
   ∃m,Instr.fill place z.cells (parts.toList.map λp=>(p.1,a.eval p.2))=some m/\Den w J (.ag l.length (aq l)) (.agg m):=by
    intro place z l hl
    obtain⟨m,U,h2⟩:=tb h.mem _ _ (by simp) uc _ _ _ (Dh z.cells.toList) hl
    refine⟨m,U,m,rfl,by simpa using h2.len.symm,λj hj=>?_⟩
    obtain⟨x,e1,e2⟩:=h2.get? j hj
    exact⟨x,by simpa using e1,e2⟩
  unfold tH at he
  split at he
  · next i fs hi hu=>
    split at he
    · next z pl hz dA=>
      split at he
      · next l hl=>
        obtain⟨m,U,h2⟩:=fin hl
        refine⟨_,.agg m,?_,h2,he⟩
        have kO:(zeroValue T).run P w= .ok z w:=by simp[zeroValue,run_typeInfo w hi,hz,Result.andThen]
        simp[execOp,ho,Instr.build,kO,run_underlying hu,Array.mapM_eq_mapM_toList,run_places w _ _ dA,U]
      · exact he.elim
    · exact he.elim
  · next i len E hi hu=>
    split at he
    · next z ie hz Fg=>
      split at he
      · next l hl=>
        obtain⟨m,U,h2⟩:=fin hl
        refine⟨_,.agg m,?_,h2,he⟩
        have kO:(zeroValue T).run P w= .ok z w:=by simp[zeroValue,run_typeInfo w hi,hz,Result.andThen]
        have hs:(sizeOf E).run P w= .ok ie.size w:=by simp[sizeOf,run_typeInfo w Fg,Result.andThen]
        simp only[execOp,ho,Instr.build,Sem.run_bind,kO,run_underlying hu,Result.andThen_ok,hs]
        simp[U]
      · exact he.elim
    · exact he.elim
  · exact he.elim
end
end Go.Sy
set_option linter.unusedVariables false
set_option linter.unusedSimpArgs false
namespace Go.Sy
open Go.RowKit
def yZ (P:Program) (sg:Bool) (op:BinOp) (T:TypeId) (y:Operand) (s t:SV):R:=
  match s with
  | .ag _ _=>uF P op T s t
  |_=>uG P sg op T y s t
def kK (P:Program) (sg:Bool) (ρ:Operand->SV) (m:Nat->ao) (op:Op):R:=
  match op with
  | .move x| .assign x=> .ok (ρ x)
  | .load T x=>m2 P T (ρ x) m
  | .fieldAddr S x j=>ln P S (ρ x) j m
  | .indexAddr T x y=>mY P T (vK y) (ρ x) (ρ y) m
  | .binOp op T x y _=>yZ P sg op T y (ρ x) (ρ y)
  | .unOp op _ x=>vb sg op (ρ x)
  | .convert S D x=>ue P sg S D (ρ x)
  | .makeInterface T x=>sO P T (ρ x)
  | .extract x i=>mH (ρ x) i
  | .nilCheck x=>sC P (ρ x) m
  | .field T x j=>uf P T (ρ x) j
  | .index T x y=>vc P T (vK y) (ρ x) (ρ y)
  | .slice T x lo hi none=>tG P T (ρ x) (lo.map ρ) (hi.map ρ) m
  | .makeFunc fn first cr=>tc fn (first.toList.map ρ) (cr.toList.map ρ)
  | .build T parts=>tH P T (parts.toList.map λp=>(p.1,ρ p.2)) m
  | .call {callee:= .builtin .len,args:=⟨[x]⟩,argTypes:=⟨[T]⟩}=>uH P T (ρ x) m
  | .call {callee:= .builtin .max,args:=⟨[x,y]⟩,argTypes:=_}=>qi true [ρ x,ρ y]
  | .call {callee:= .builtin .min,args:=⟨[x,y]⟩,argTypes:=_}=>qi false [ρ x,ρ y]
  |_=> .bad
section
variable {P:Program} {w:World} {J:Ow} {ρ:Operand->SV} {M:Mem} {a:Act}
theorem ka (h:Cx P w J ρ M a) {sg:Bool} {o:Oper} {K:SV->Prop} (he:(kK P sg ρ (aa M) o.op).run K):bV P w J a o K:=by
  cases ho:o.op<;>rw[ho]at he<;>unfold kK at he<;>try exact he.elim
  case move x=>exact⟨_,_,by simp[execOp,ho],h.val x,he⟩
  case assign x=>exact⟨_,_,by simp[execOp,ho],h.val x,he⟩
  case load T x=>exact CA h ho he
  case fieldAddr S x j=>exact xD h ho he
  case indexAddr T x y=>exact BR h ho he
  case binOp op T x y T'=>
    simp only[yZ]at he
    split at he
    · next n f hs=>exact Dd h ho (by simpa only[hs]using he)
    · exact De h ho he
  case unOp op T x=>exact DT h ho he
  case convert S D x=>exact CB h ho he
  case makeInterface T x=>exact A' h ho he
  case extract x i=>exact Ba h ho he
  case nilCheck x=>exact AW h ho he
  case field T x j=>exact CC h ho he
  case index T x y=>exact DU h ho he
  case slice T x lo hi mx=>
    cases mx with
    |none=>exact BS h ho he
    |some _=>exact he.elim
  case makeFunc fn first cr=>exact Bu h ho he
  case build T parts=>exact BT h ho he
  case call c=>
    split at he
    all_goals first|exact he.elim|(next e=>cases e;done)|skip
    · next x T e=>cases e;exact Df h ho he
    · next x y ts e=>cases e;exact y_ (mx:=true) h ho he
    · next x y ts e=>cases e;exact y_ (mx:=false) h ho he
/-! ### one cell is stored -/
abbrev ak:=List (Nat×ao)
def ov:ak->(Nat->ao)->Nat->ao
  | [],m,k=>m k
  |p::r,m,k=>match Nat.beq p.1 k with|true=>p.2|false=>ov r m k
theorem fK (u:ak) (M:Mem):ov u (aa M)=aa (u++M):=by
  funext k
  induction u with
  |nil=>rfl
  |cons p r ih=>simp only[ov,List.cons_append,aa,ih];cases Nat.beq p.1 k<;>rfl
def iD (m:Nat->ao) (k:Nat):ak:= [(k,⟨(m k).rs+1,(m k).ds+1,none,.dead⟩)]
def cG (m:Nat->ao) (k:Nat) (b:ar):ak:= [(k,⟨(m k).rs,(m k).ds,none,b⟩)]
def fL (m:Nat->ao) (k i j:Nat):ak:= [(k,⟨(m k).rs,(m k).ds+1,some (i,j),(m k).b⟩)]
def jo (m:Nat->ao) (k:Nat) (b:ar):ak:= [(k,{m k with b:=b})]
def uI (m:Nat->ao) (k i j r sz n:Nat) (f:Nat->Nat->SV) (av n2:Nat) (g:Nat->Nat->SV):ak:=
  (k,⟨(m k).rs,(m k).ds+1,none,.row sz n ((⟨sz,n,f⟩:Row).set i j (.il av n2 g)).f⟩)::iD m r
def jl (m:Nat->ao) (nx k i j av n2:Nat) (g:Nat->Nat->SV):ak:=
  let u1:=cG (ov (fL m k i j) m) nx (.row av n2 λa b=>bp (g a b))++fL m k i j
  iD (ov u1 m) nx++u1
def yR:ar->Bool
  | .dead=>true
  |_=>false
def aM (m:Nat->ao) (k:Nat):Bool:=match yR (m k).b,(m k).hl with|true,none=>true|_,_=>false
def gu (m:Nat->ao):SV->Bool
  | .v (.agg _)| .v (.tuple _)| .aj| .ag _ _| .tp _ _| .il _ _ _=>false
  | .ptr k st p _ _=>aR m k st p
  | .pe k st p _ _ _ _=>aR m k st p
  | .aC k st p _ _=>aR m k st p
  | .sa k st p _ _ _=>aR m k st p
  |_=>true
def pJ (m:Nat->ao) (nx k i j sz n:Nat) (f:Nat->Nat->SV) (r av n2:Nat) (g:Nat->Nat->SV):Option (Prop×ak):=
  match (m k).hl with
  |none=>
   match f i j with
   | .il ga no go=>
     match Nat.beq ga av,Nat.beq nx k,Nat.beq nx r,aM m nx with
     |true,false,false,true=>
      let u1:=jl m nx k i j ga no go
      some (∀i',kr av (f i' j)=true,uI (ov u1 m) k i j r sz n f av n2 g++u1)
     |_,_,_,_=>none
   |_=>none
  |some (i0,j0)=>
   match Nat.beq j0 j with
   |true=>some (i0=i/\ ∀i',kr av (f i' j)=true,uI m k i j r sz n f av n2 g)
   |false=>none
def lk:SV->Bool
  | .v (.slice none 0 0)=>true
  | .es=>true
  |_=>false
def ly (m:Nat->ao) (nx k:Nat) (p:Path) (i j:Nat) (v:SV):Option (Prop×ak):=
  match (m k).b,p with
  | .cells l,none=>match Nat.blt j l.length,gu m v with|true,true=>some (True,jo m k (.cells (l.set j v)))|_,_=>none
  | .row sz n f,none=>
    match Nat.blt j sz,aX (f i j)with
    |true,false=>match gu m v with|true=>some (∀i',aX (f i' j)=false,jo m k (.row sz n ((⟨sz,n,f⟩:Row).set i j v).f))|false=>none
    |true,true=>
     match v with
     | .aC r s none e n2=>
       match aR m r s none,Nat.beq e 0,Nat.beq k r,(m r).b with
       |true,true,false,.row av _ g=>pJ m nx k i j sz n f r av n2 g
       |_,_,_,_=>none
     |v=>
      match lk v,f i j,Nat.beq (nx+1) k,aM m (nx+1)with
      |true,.il av _ g0,false,true=>
       let u0:=cG m (nx+1) (.row av 0 g0)
       match pJ (ov u0 m) nx k i j sz n f (nx+1) av 0 g0 with
       |some (pr,u)=>some (pr,u++u0)
       |none=>none
      |_,_,_,_=>none
    |_,_=>none
  | .row sz n f,some (i0,j0)=>
    match f i0 j0 with
    | .il av n2 g=>match Nat.blt j av,gu m v with|true,true=>some (∀i',kr av (f i' j0)=true,jo m k (.row sz n ((⟨sz,n,f⟩:Row).set i0 j0 (.il av n2 ((⟨av,n2,g⟩:Row).set i j v).f)).f))|_,_=>none
    |_=>none
  |_,_=>none
theorem BU (hm:ai w J M) {k:Nat} (h:aM (aa M) k=true) (a_: ∀p,J.β k p=none):lQ J M k:=by
  unfold aM at h
  split at h
  · next U h2=>
    refine⟨?_,h2,a_⟩
    cases hb:(aa M k).b with
    |dead=>rfl
    |cells l=>rw[hb]at U;cases U
    |row a b c=>rw[hb]at U;cases U
  · cases h
theorem Bv (hm:ai w J M) {k:Nat} (h:(aa M k).b= .dead) (p:Path):J.β k p=none:=by
  cases hb:J.β k p with
  |none=>rfl
  |some L=>
   obtain⟨r,U,_⟩:=hm.row k p L hb
   unfold rowAt at U
   rw[h]at U
   cases p with
   |none=>cases U
   |some ij=>obtain⟨i,j⟩:=ij;cases U
theorem eU (hm:ai w J M) {k:Nat} (h:aM (aa M) k=true):lQ J M k:=by
  refine BU hm h λp=>Bv hm ?_ p
  unfold aM at h
  split at h
  · next U h2=>
    cases hb:(aa M k).b with
    |dead=>rfl
    |cells l=>rw[hb]at U;cases U
    |row a b c=>rw[hb]at U;cases U
  · cases h
theorem beq_false {a b:Nat} (h:Nat.beq a b=false):a≠b:=λe=>by subst e;rw[Nat.beq_refl]at h;cases h
theorem pg (hm:ai w J M) {s:SV} {u:Value} (h:gu (aa M) s=true) (hd:Den w J s u):u.oneCell'=true:=by
  have ref: ∀{k s:Nat} {p:Path} {R:Loc->Prop},aR (aa M) k s p=true->At J k s p R->(∀L,R L->u.oneCell'=true)->u.oneCell'=true:=by
    intro k s p R U h2 h3
    obtain⟨_,L,_,hR⟩:=cF hm U h2
    exact h3 L hR
  cases s with
  |aj=>cases h
  |v x=>obtain rfl:=hd;cases u<;>first|rfl|cases h
  |bl b=>obtain rfl:=hd;rfl
  |es=>obtain⟨p,rfl⟩:=hd;rfl
  |ptr k s p i j=>exact ref h hd λL hR=>by rw[hR.2];rfl
  |pe k s p i j len z=>exact ref h hd λL hR=>by rw[hR.2.2];rfl
  |sa k s p i j n=>exact ref h hd λL hR=>by rw[hR.2.2];rfl
  |aC k s p e n=>
   have e0:=et hm h
   rcases hd with hd|⟨_,q,cap,rfl,_⟩
   · omega
   · rfl
  |pt q n f=>obtain⟨_,rfl,_⟩:=hd;rfl
  |sl q sz n f=>obtain⟨_,_,rfl,_⟩:=hd;rfl
  |pa q sz n f=>obtain⟨_,rfl,_⟩:=hd;rfl
  |il sz n f=>cases h
  |ag n f=>cases h
  |tp n f=>cases h
  |fn id n f=>obtain⟨_,rfl,_⟩:=hd;rfl
  |bm id s=>obtain⟨_,rfl,_⟩:=hd;rfl
  |mv nm s=>obtain⟨_,rfl,_⟩:=hd;rfl
  |ic t s=>obtain⟨_,rfl,_⟩:=hd;rfl
  |er t tf e at_=>rcases hd with⟨_,_,rfl⟩|⟨_,_,rfl⟩|⟨_,_,_,rfl,_⟩<;>rfl
theorem oQ {m:Nat->ao} {s:SV} (h:gu m s=true):aX s=false:=by cases s<;>first|rfl|cases h
def pK (w:World) (J:Ow) (M:Mem) (w':World) (k:Nat) (p:Path) (u:ak):Prop:=
  ∃ae,az w J M w' ae (u++M)/\ae.β k p=J.β k p
theorem wU (hm:ai w J M) {nx k i j sz n:Nat} {f:Nat->Nat->SV} {r av n2 nr:Nat} {g:Nat->Nat->SV} (hb:(aa M k).b= .row sz n f) (en:k≠r) (hr:(aa M r).b= .row av nr g)
    {pr:Prop} {u:ak} (he:pJ (aa M) nx k i j sz n f r av n2 g=some (pr,u)) (hp:pr) {x:Value} (hx:Head J r none 0 n2 x) {L:Loc} (hL:J.β k none=some L) (hi:i<L.bD) (hj:j<sz):
    pK w J M (w.setCell ⟨L.b,L.o+i*L.sz+j,none⟩ x) k none u:=by
  unfold pJ at he
  split at he
  · next d_=>
    split at he
    · next ga no go vX=>
      split at he
      · next U h2 h3 h4=>
        have h2:=beq_false h2
        have h3:=beq_false h3
        simp only[Option.some.injEq,Prod.mk.injEq]at he
        obtain⟨rfl,rfl⟩:=he
        have bu:=eU hm h4
        obtain⟨aI,s1,e1,e2,e3⟩:=az.yY hm (Ne.symm h2) bu d_ hb vX
        obtain⟨dm,s2,e4,e5⟩:=az.kill s1.mem nx
        have wb:kill (fresh (e_ M k i j) nx (.row ga no λa b=>bp (go a b))) nx=jl (aa M) nx k i j ga no go++M:=by
          have a1:ov (fL (aa M) k i j) (aa M)=aa (e_ M k i j):=by rw[fK];rfl
          have a2:ov (cG (ov (fL (aa M) k i j) (aa M)) nx (.row ga no λa b=>bp (go a b))++fL (aa M) k i j) (aa M)=aa (fresh (e_ M k i j) nx (.row ga no λa b=>bp (go a b))):=by
            rw[fK,a1];rfl
          unfold jl
          simp only[a2]
          simp only[iD,cG,a1,fL,List.cons_append,List.nil_append]
          rfl
        rw[wb]at s2
        have cB:aa (jl (aa M) nx k i j ga no go++M) k=⟨(aa M k).rs,(aa M k).ds+1,some (i,j),(aa M k).b⟩:=by
          rw[<-wb,fI h2];unfold fresh;rw[aQ h2,wD]
        have dH:aa (jl (aa M) nx k i j ga no go++M) r=aa M r:=by
          rw[<-wb,fI h3];unfold fresh;rw[aQ h3,oO en]
        have Au:dm.β k none=some L:=by rw[e4 _ _ (Ne.symm h2),e3 _ _ (Ne.symm h2) (by simp)];exact hL
        have Fb:dm.β r none=J.β r none:=by rw[e4 _ _ (Ne.symm h3),e3 _ _ (Ne.symm h3) (by simp)]
        have oG:Head dm r none 0 n2 x:=by
          obtain⟨q,cap,y1,y2,y3,y4⟩:=hx
          exact⟨q,cap,y1,y2,y3,by rw[Fb];exact y4⟩
        obtain⟨ig,s3,e6,e7⟩:=az.fill s2.mem en (by rw[cB]) (by rw[cB];exact hb) hp (by rw[dH];exact hr) oG Au hi hj
        refine⟨ig,?_,?_⟩
        · have:=(s1.trans s2).trans s3
          have uX:Sy.fill (jl (aa M) nx k i j ga no go++M) k i j r sz n f av n2 g=uI (ov (jl (aa M) nx k i j ga no go) (aa M)) k i j r sz n f av n2 g++jl (aa M) nx k i j ga no go++M:=by
            rw[fK];rfl
          rw[uX]at this
          exact this
        · rw[e6 _ _ en (by simp),Au,hL]
      · cases he
    · cases he
  · next i0 j0 d_=>
    split at he
    · next iT=>
      have iT:=Nat.eq_of_beq_eq_true iT
      simp only[Option.some.injEq,Prod.mk.injEq]at he
      obtain⟨rfl,rfl⟩:=he
      obtain⟨rfl,iM⟩:=hp
      subst iT
      obtain⟨ig,s3,e6,e7⟩:=az.fill hm en d_ hb iM hr hx hL hi hj
      exact⟨ig,s3,e6 _ _ en (by simp)⟩
    · cases he
theorem mM (hm:ai w J M) {k:Nat} {l:List SV} (hb:(aa M k).b= .cells l) {L:Loc} (hL:J.β k none=some L):L.sz=l.length/\L.bD=1:=by
  obtain⟨r,e1,e2,e3,_⟩:=hm.row k none L hL
  unfold rowAt at e1
  rw[hb]at e1
  obtain rfl:=Option.some.inj e1
  exact⟨e2.symm,e3.symm⟩
theorem xr (hm:ai w J M) {nx k:Nat} {p:Path} {i j:Nat} {v:SV} {pr:Prop} {u:ak} (he:ly (aa M) nx k p i j v=some (pr,u)) (hp:pr) {x:Value} (hx:Den w J v x) (U:x.oneCell'=true)
    {L:Loc} (hL:J.β k p=some L) (hi:i<L.bD):j<L.sz/\pK w J M (w.setCell ⟨L.b,L.o+i*L.sz+j,none⟩ x) k p u:=by
  unfold ly at he
  split at he
  · next l hb=>
    obtain⟨c1,c2⟩:=mM hm hb hL
    split at he
    · next h2 h3=>
      have h2:j<l.length:=Nat.le_of_ble_eq_true h2
      simp only[Option.some.injEq,Prod.mk.injEq]at he
      obtain⟨_,rfl⟩:=he
      exact⟨by omega,J,az.xA hm hb hL hi h2 (oQ h3) hx,rfl⟩
    · cases he
  · next sz n f hb=>
    obtain⟨r0,e1,e2,e3,_⟩:=hm.row k none L hL
    unfold rowAt at e1
    rw[hb]at e1
    obtain rfl:=Option.some.inj e1
    have e2:sz=L.sz:=e2
    split at he
    · next h2 h3=>
      have h2:j<sz:=Nat.le_of_ble_eq_true h2
      split at he
      · next h4=>
        simp only[Option.some.injEq,Prod.mk.injEq]at he
        obtain⟨rfl,rfl⟩:=he
        exact⟨by omega,J,az.Dg hm hb hL hi h2 (oQ h4) hx hp,rfl⟩
      · cases he
    · next h2 h3=>
      have h2:j<sz:=Nat.le_of_ble_eq_true h2
      refine⟨by omega,?_⟩
      split at he
      · next r s e n2=>
        split at he
        · next av nr g h4 h5 h6 h7=>
          have h5:=Nat.eq_of_beq_eq_true h5
          subst h5
          have h6:=beq_false h6
          have e0:=et hm h4
          rcases hx with hx|⟨_,hx⟩
          · omega
          exact wU hm hb h6 h7 he hp hx hL hi h2
        · cases he
      · split at he
        · next av _ g0 h4 h5 h6 h7=>
          have h6:=beq_false h6
          dsimp only at he
          split at he
          · next pr0 u0 hs=>
            simp only[Option.some.injEq,Prod.mk.injEq]at he
            obtain⟨rfl,rfl⟩:=he
            have hf:=eU hm h7
            have s1:=az.dummy hm hf av 0 g0
            have nY:fresh M (nx+1) (.row av 0 g0)=cG (aa M) (nx+1) (.row av 0 g0)++M:=rfl
            rw[nY]at s1
            rw[fK]at hs
            obtain⟨pn,uR⟩: ∃pn,x= .slice pn 0 0:=by
              unfold lk at h4
              split at h4
              · exact⟨none,hx⟩
              · exact hx
              · cases h4
            have cB:aa (cG (aa M) (nx+1) (.row av 0 g0)++M) k=aa M k:=by rw[<-nY];unfold fresh;rw[aQ h6]
            have dH:(aa (cG (aa M) (nx+1) (.row av 0 g0)++M) (nx+1)).b= .row av 0 g0:=by rw[<-nY];unfold fresh;rw[ba]
            obtain⟨dm,s2,e5⟩:=wU s1.mem (by rw[cB];exact hb) (Ne.symm h6) dH hs hp (x:=x) ⟨pn,0,uR,Nat.le_refl _,Nat.zero_le _,.inl rfl⟩ hL hi h2
            refine⟨dm,?_,e5⟩
            rw[List.append_assoc]
            exact s1.trans s2
          · cases he
        · cases he
    · cases he
  · next sz n f i0 j0 hb=>
    split at he
    · next av n2 g hg=>
      split at he
      · next h2 h3=>
        have h2:j<av:=Nat.le_of_ble_eq_true h2
        simp only[Option.some.injEq,Prod.mk.injEq]at he
        obtain⟨rfl,rfl⟩:=he
        obtain⟨r0,e1,e2,e3,_⟩:=hm.row k _ L hL
        unfold rowAt at e1
        rw[hb]at e1
        have e1:inner ⟨sz,n,f⟩ i0 j0=some r0:=e1
        unfold inner at e1
        simp only[hg]at e1
        obtain rfl:=Option.some.inj e1
        have e2:av=L.sz:=e2
        exact⟨by omega,J,az.BV hm hb hg hL hi h2 (oQ h3) hx hp,rfl⟩
      · cases he
    · cases he
  · cases he
def lx (m:Nat->ao) (nx k:Nat) (p:Path) (i:Nat):Nat->List SV->Option (Prop×ak)
  |_,[]=>some (True,[])
  |j,[v]=>ly m nx k p i j v
  |j,v::r=>
   match ly m nx k p i j v with
   |some (p1,u1)=>match lx (ov u1 m) (nx+2) k p i (j+1) r with|some (p2,u2)=>some (p1/\p2,u2++u1)|none=>none
   |none=>none
theorem oU {b off:Nat} {c:Array Value} {T:TypeId} {x:Value} (h:w.heap[b]? =some (Obj.cells c T (0,0))) (af:off<c.size) (U:x.oneCell'=true):(store ⟨b,off,none⟩ x).run P w= .ok () (w.setCell ⟨b,off,none⟩ x):=by
  have hc:w.cell? ⟨b,off,none⟩=some c[off]:=by simp[World.cell?,h,af]
  have hf:w.frozen? ⟨b,off,none⟩=false:=by simp[World.frozen?,h]
  cases x<;>first|(cases U;done)|simp[store,Sem.run,hc,hf]
theorem xq: ∀(cs:List SV) (us:List Value) {w:World} {J:Ow} {M:Mem} (hm:ai w J M) {nx k:Nat} {p:Path} {i j:Nat} {pr:Prop} {u:ak} (he:lx (aa M) nx k p i j cs=some (pr,u)) (hp:pr) (hx:aJ w J cs us) (U: ∀x∈us,x.oneCell'=true)
    {L:Loc} (hL:J.β k p=some L) (hi:i<L.bD) {ad:Addr} (q:Nat) (di:ad.add q=⟨L.b,L.o+i*L.sz+j,none⟩),∃w',(storeCells ad us q).run P w= .ok () w'/\pK w J M w' k p u
  | [],[],w,J,M,hm,nx,k,p,i,j,pr,u,he,hp,hx,U,L,hL,hi,ad,q,di=>by
    simp only[lx,Option.some.injEq,Prod.mk.injEq]at he
    obtain⟨_,rfl⟩:=he
    exact⟨w,by simp[storeCells],J,az.refl hm,rfl⟩
  |v::r,x::t,w,J,M,hm,nx,k,p,i,j,pr,u,he,hp,⟨hx,qN⟩,U,L,hL,hi,ad,q,di=>by
   have key: ∀{p1:Prop} {u1:ak},ly (aa M) nx k p i j v=some (p1,u1)->p1->(store (ad.add q) x).run P w= .ok () (w.setCell ⟨L.b,L.o+i*L.sz+j,none⟩ x)/\pK w J M (w.setCell ⟨L.b,L.o+i*L.sz+j,none⟩ x) k p u1:=by
     intro p1 u1 hs dJ
     obtain⟨hj,aD⟩:=xr hm hs dJ hx (U x (by simp)) hL hi
     obtain⟨_,_,_,_,c,T,g1,g2,g3,g4⟩:=hm.row _ _ _ hL
     obtain⟨y,y1,_⟩:=g4 i hi j hj
     rw[di]
     exact⟨oU g1 (Array.getElem?_eq_some_iff.1 y1).1 (U x (by simp)),aD⟩
   cases r with
   |nil=>
    cases t with
    |nil=>
     obtain⟨r1,aD⟩:=key (by simpa [lx]using he) hp
     exact⟨_,by simp[storeCells,r1],aD⟩
    |cons _ _=>exact qN.elim
   |cons v2 r2=>
    simp only[lx]at he
    split at he
    · next p1 u1 hs=>
      split at he
      · next p2 u2 cu=>
        simp only[Option.some.injEq,Prod.mk.injEq]at he
        obtain⟨rfl,rfl⟩:=he
        obtain⟨r1,aI,s1,e1⟩:=key hs hp.1
        rw[fK]at cu
        have qm:ad.add (q+1)=⟨L.b,L.o+i*L.sz+(j+1),none⟩:=by
          rw[<-add_add,di,dR];simp[Nat.add_assoc]
        obtain⟨w',Fc,dm,s2,e2⟩:=xq (v2::r2) t s1.mem cu hp.2 (qN.ext s1.ext) (λy hy=>U y (by simp[hy])) (e1.trans hL) hi (q+1) qm
        refine⟨w',by simp[storeCells,r1,Fc,Result.andThen],dm,?_,e2.trans e1⟩
        rw[List.append_assoc]
        exact s1.trans s2
      · cases he
    · cases he
  | [],_::_,_,_,_,_,_,_,_,_,_,_,_,_,_,hx,_,_,_,_,_,_,_=>hx.elim
  |_::_,[],_,_,_,_,_,_,_,_,_,_,_,_,_,hx,_,_,_,_,_,_,_=>hx.elim
end
end Go.Sy
set_option linter.unusedVariables false
set_option linter.unusedSimpArgs false
namespace Go.Sy
open Go.RowKit
section
variable {P:Program} {w:World} {J:Ow} {ρ:Operand->SV} {M:Mem} {a:Act}
def iJ (P:Program) (w:World) (J:Ow) (M:Mem) (a:Act) (o:Oper) (s:SV) (u:ak):Prop:=
  ∃n v w' ae,(execOp a.eval o).run P w= .ok n w'/\(n= .value v\/(n= .skip/\v=undef))/\az w J M w' ae (u++M)/\Den w' ae s v
structure dM (w:World) (J:Ow) (w':World) (ae:Ow) (ids:Nat->Prop):Prop where
  cw:Cw w w'
  A: ∀b,J.A b->ae.A b
  Z:ae.Z=J.Z
  β: ∀k p,¬ids k->ae.β k p=J.β k p
  new: ∀k p L,ids k->ae.β k p=some L->w.heap.size<=L.b
  cur:ae.cur=J.cur
def fR (P:Program) (w:World) (J:Ow) (M:Mem) (a:Act) (o:Oper) (s:SV) (u:ak):Prop:=
  ∃n v w' ae,(execOp a.eval o).run P w= .ok n w'/\(n= .value v\/(n= .skip/\v=undef))/\az w J M w' ae (u++M)/\Den w' ae s v/\dM w J w' ae (λk=>k∈u.map (·.1))
theorem fR.ow {o:Oper} {s:SV} {u:ak} (h:fR P w J M a o s u):iJ P w J M a o s u:=by
  obtain⟨n,v,w',ae,U,h2,h3,h4,_⟩:=h
  exact⟨n,v,w',ae,U,h2,h3,h4⟩
theorem yl {nx:Nat} {ob:Obj} {L:Loc} {u:ak} (hb:L.b=w.heap.size) (hf: ∀p,J.β nx p=none) (hu:u.map (·.1)= [nx]):dM w J (w.alloc ob) (J.add nx L) (λk=>k∈u.map (·.1)) where
  cw:=⟨rfl,rfl,rfl,by simp,λb hb=>Below.heap_alloc _ _ _ hb⟩
  A:=λb h=> .inl h
  Z:=rfl
  β:=λk p hk=>by
   show(if k=nx/\p=none then some L else J.β k p)=_
   rw[if_neg]
   rintro ⟨rfl,_⟩
   rw[hu]at hk
   exact hk (by simp)
  new:=λk p L' hk h=>by
    have h:(if k=nx/\p=none then some L else J.β k p)=some L':=h
    rw[hu]at hk
    have hk:k=nx:=by simpa using hk
    subst hk
    split at h
    · obtain rfl:=Option.some.inj h;rw[hb];exact Nat.le_refl _
    · rw[hf]at h;cases h
  cur:=rfl
/-! ### boxes -/
def uC (m:Nat->ao) (nx:Nat) (s:SV):Option (Prop×SV×ak):=
  match gO m s,aM m nx with
  |some cs,true=>match cs.all λs=>!aX s with|true=>some (True,.ptr nx (m nx).rs none 0 0,cG m nx (.cells cs))|false=>none
  |_,_=>none
def zeroCells (P:Program) (T:TypeId):Option (List SV):=
  match P.info? T with
  |some i=>match i.zero with|some z=>some (z.cells.toList.map .v)|none=>none
  |none=>none
def tA (P:Program) (m:Nat->ao) (nx:Nat) (T:TypeId):Option (Prop×SV×ak):=
  match zeroCells P T,aM m nx with
  |some cs,true=>some (True,.ptr nx (m nx).rs none 0 0,cG m nx (.cells cs))
  |_,_=>none
def kg (l:List SV) (j len z:Nat) (kk:IntKind) (x:Int) (zs:List Int) (q:Nat):SV:=
  match Nat.ble j q,Nat.blt q (j+len)with
  |true,true=> .v (.int kk (bif Nat.beq (q -j) z then x else dh zs (q -j)))
  |_,_=>aq l q
def ud:List SV->Option (IntKind×Int)
  | [.v (.int k x)]=>some (k,x)
  |_=>none
theorem Br {l:List SV} {k:IntKind} {x:Int} (h:ud l=some (k,x)):l= [.v (.int k x)]:=by
  unfold ud at h
  split at h
  · simp only[Option.some.injEq,Prod.mk.injEq]at h
    obtain⟨rfl,rfl⟩:=h;rfl
  · cases h
def tB (P:Program) (m:Nat->ao) (nx:Nat) (T:TypeId) (ad s:SV):Option (Prop×SV×ak):=
  match gO m s,P.info? T with
  |some cs,some i=>
   match Nat.beq cs.length i.size,cs.all (gu m)with
   |true,true=>
    match ad with
    | .ptr k st p ii j=>match aR m k st p with|true=>(match lx m nx k p ii j cs with|some (pr,u)=>some (pr,.aj,u)|none=>none)|false=>none
    | .pe k st p ii j len z=>
      match aR m k st p,(m k).b,p,ud cs with
      |true,.cells l,none,some (kk,x)=>
       match Nat.ble (j+len) l.length,ix kk ((List.range len).map λq=>aq l (j+q))with
       |true,some zs=>some (True,.aj,jo m k (.cells ((List.range l.length).map (kg l j len z kk x zs))))
       |_,_=>none
      |_,_,_,_=>none
    |_=>none
   |_,_=>none
  |_,_=>none
theorem Cz (l:List Value):aJ w J (l.map .v) l:=by
  induction l with
  |nil=>trivial
  |cons x r ih=>exact⟨rfl,ih⟩
theorem xK (hm:ai w J M) {nx:Nat} (hf:aM (aa M) nx=true) {cs:List SV} {c:Array Value} {T:TypeId} (hc:aJ w J cs c.toList) (aZ: ∀j,aX (aq cs j)=false):
    ∃ae,az w J M (w.alloc (.cells c T)) ae (cG (aa M) nx (.cells cs)++M)/\Den (w.alloc (.cells c T)) ae (.ptr nx (aa M nx).rs none 0 0) (.pointer (some ⟨w.heap.size,0,none⟩))/\dM w J (w.alloc (.cells c T)) ae (λk=>k∈(cG (aa M) nx (.cells cs)).map (·.1)):=by
  have hlen:=hc.len
  have bu:=eU hm hf
  let L:Loc:=⟨w.heap.size,0,cs.length,1,c.size⟩
  have aF:Ext w J (w.alloc (.cells c T)) (J.add nx L):=sN rfl bu.2.2
  refine⟨J.add nx L,az.alloc (r:=⟨cs.length,1,λ_ j=>aq cs j⟩) hm bu rfl rfl (by simp at hlen;show 1*cs.length<=_;omega) (λi hi j hj=>?_),Or.inr ⟨?_,L,by simp[Ow.add],by show 0<1;omega,by simp[L]⟩,yl rfl bu.2.2 rfl⟩
  · have hi:i=0:=by have:i<1:=hi;omega
    subst hi
    have hj:j<cs.length:=hj
    obtain⟨x,e1,e2⟩:=hc.get? j hj
    refine⟨x,by simpa using e1,?_⟩
    show aV _ _ _ _ _ _ (aq cs j) x
    rw[cj (aZ j)]
    exact e2.ext aF
  · show _=st J.cur nx none
    rw[hm.cur];rfl
theorem sI {l:List SV} (h:(l.all λs=>!aX s)=true) (j:Nat):aX (aq l j)=false:=by
  unfold aq
  rw[List.getD_eq_getElem?_getD]
  cases hj:l[j]? with
  |none=>rfl
  |some x=>simpa using List.all_eq_true.1 h x (List.mem_of_getElem? hj)
theorem yU (h:Cx P w J ρ M a) {o:Oper} {T:TypeId} {x:Operand} {nx:Nat} {pr:Prop} {s:SV} {u:ak} (ho:o.op= .box T x) (he:uC (aa M) nx (ρ x)=some (pr,s,u)):fR P w J M a o s u:=by
  unfold uC at he
  split at he
  · next cs dN hf=>
    split at he
    · next aZ=>
      simp only[Option.some.injEq,Prod.mk.injEq]at he
      obtain⟨_,rfl,rfl⟩:=he
      obtain⟨ae,U,h2,h3⟩:=xK (T:=T) h.mem hf (my h.mem dN (h.val x)) (sI aZ)
      exact⟨_,_,_,ae,by simp[execOp,ho,go_sem],.inl rfl,U,h2,h3⟩
    · cases he
  · cases he
theorem BQ (l:List Value) (j:Nat):aX (aq (l.map .v) j)=false:=by
  unfold aq
  rw[List.getD_eq_getElem?_getD,List.getElem?_map]
  cases l[j]? <;>rfl
theorem xB (h:Cx P w J ρ M a) {o:Oper} {T:TypeId} {nx:Nat} {pr:Prop} {s:SV} {u:ak} (ho:o.op= .alloc T) (he:tA P (aa M) nx T=some (pr,s,u)):fR P w J M a o s u:=by
  unfold tA at he
  split at he
  · next cs dN hf=>
    simp only[Option.some.injEq,Prod.mk.injEq]at he
    obtain⟨_,rfl,rfl⟩:=he
    unfold zeroCells at dN
    split at dN
    · next i hi=>
      split at dN
      · next z hz=>
        obtain rfl:=Option.some.inj dN
        have kO:(zeroValue T).run P w= .ok z w:=by simp[zeroValue,run_typeInfo w hi,hz,Result.andThen]
        obtain⟨ae,U,h2,h3⟩:=xK (T:=T) h.mem hf (Cz z.cells.toList) (BQ _)
        exact⟨_,_,_,ae,by simp[execOp,ho,go_sem,kO],.inl rfl,U,h2,h3⟩
      · cases dN
    · cases dN
  · cases he
theorem pb (hm:ai w J M): ∀{cs:List SV} {us:List Value},cs.all (gu (aa M))=true->aJ w J cs us-> ∀u∈us,u.oneCell'=true
  | [],[],_,_,u,hu=>by cases hu
  |s::r,x::t,h,⟨U,h2⟩,u,hu=>by
   simp only[List.all_cons,Bool.and_eq_true]at h
   rcases List.mem_cons.1 hu with rfl|hu
   · exact pg hm h.1 U
   · exact pb hm h.2 h2 u hu
  | [],_::_,_,hd,_,_=>hd.elim
  |_::_,[],_,hd,_,_=>hd.elim
theorem BK (h:Cx P w J ρ M a) {o:Oper} {T:TypeId} {x y:Operand} {nx:Nat} {pr:Prop} {s:SV} {u:ak} (ho:o.op= .store T x y) (he:tB P (aa M) nx T (ρ x) (ρ y)=some (pr,s,u)) (hp:pr):iJ P w J M a o s u:=by
  have hm:=h.mem
  have hx:=h.val x
  unfold tB at he
  split at he
  · next cs i dN hi=>
    have hc:=my hm dN (h.val y)
    split at he
    · next hlen dX=>
      have hlen:=Nat.eq_of_beq_eq_true hlen
      have U:=pb hm dX hc
      have aH:(a.eval y).cells.size=i.size:=by rw[<-Array.length_toList,<-hc.len,hlen]
      have cu:(sizeOf T).run P w= .ok i.size w:=by simp[sizeOf,run_typeInfo w hi,Result.andThen]
      have run: ∀{ad w'},a.eval x= .pointer (some ad)->(storeCells ad (a.eval y).cells.toList).run P w= .ok () w'->(execOp a.eval o).run P w= .ok .skip w':=by
        intro ad w' ex hr
        simp[execOp,ho,ex,Instr.storeAt,Instr.sureAddr,storeVar,cu,aH,hr,Result.andThen]
      split at he
      · next k st p ii j hs=>
        rw[hs]at hx
        split at he
        · next ay=>
          split at he
          · next Ar u' aD=>
            simp only[Option.some.injEq,Prod.mk.injEq]at he
            obtain⟨rfl,rfl,rfl⟩:=he
            obtain⟨e0,L,hL,eh,ex⟩:=cF hm ay hx
            obtain⟨w',r1,ae,s1,_⟩:=xq (P:=P) cs _ hm aD hp hc U hL eh (ad:=⟨L.b,L.o+ii*L.sz+j,none⟩) 0 (by simp[Addr.add])
            exact⟨_,undef,w',ae,run ex r1,.inr ⟨rfl,rfl⟩,s1,trivial⟩
          · cases he
        · cases he
      · next k st p ii j len z hs=>
        rw[hs]at hx
        split at he
        · next l kk xz hb qh ay=>
          have qh:=Br qh
          split at he
          · next zs hle cf=>
            have hle:=Nat.le_of_ble_eq_true hle
            simp only[Option.some.injEq,Prod.mk.injEq]at he
            obtain⟨_,rfl,rfl⟩:=he
            obtain⟨e0,L,hL,eh,hz,ex⟩:=cF hm ay hx
            obtain⟨c1,c2⟩:=mM hm hb hL
            have v_:ii=0:=by omega
            subst v_
            obtain⟨y0,wa⟩: ∃y0,(a.eval y).cells.toList= [y0]:=by
              have:=hc.len
              rw[qh]at this
              match h:(a.eval y).cells.toList,this with
              | [y0],_=>exact⟨y0,rfl⟩
            rw[wa,qh]at hc
            rw[wa]at U
            have nO:y0= .int kk xz:=hc.1
            subst nO
            obtain⟨_,_,_,_,c,T0,g1,g2,g3,g4⟩:=hm.row _ _ _ hL
            obtain⟨_,y1,_⟩:=g4 0 (by omega) (j+z) (by omega)
            have hr:=oU (P:=P) g1 (Array.getElem?_eq_some_iff.1 y1).1 (x:= .int kk xz) rfl
            have cf:=k_ cf
            refine⟨_,undef,w.setCell ⟨L.b,L.o+0*L.sz+(j+z),none⟩ (.int kk xz),J,run ex (by rw[wa];simp only[Nat.zero_mul,Nat.add_zero]at hr⊢;simp[storeCells,Addr.add,hr]),.inr ⟨rfl,rfl⟩,?_,trivial⟩
            refine az.put hm hL (by omega) (by omega) ⟨rfl,rfl,rfl⟩ (λ_ _=>⟨l,hb⟩) ?_
            intro q r hr
            rw[hb]at hr
            cases q with
            |some ij=>obtain⟨i',j'⟩:=ij;cases hr
            |none=>
             obtain rfl:=Option.some.inj hr
             have get: ∀b,b<l.length->aq ((List.range l.length).map (kg l j len z kk xz zs)) b=kg l j len z kk xz zs b:=by
               intro b hb
               simp[aq,List.getD_eq_getElem?_getD,hb]
             refine⟨⟨((List.range l.length).map (kg l j len z kk xz zs)).length,1,λ_ q=>aq ((List.range l.length).map (kg l j len z kk xz zs)) q⟩,rfl,by simp,rfl,λa0 ha b bK=>⟨?_,?_⟩⟩
             · rintro ⟨_,rfl,rfl⟩ w' fC
               show aV _ _ _ _ _ _ (aq _ (j+z)) _
               have bK:j+z<l.length:=bK
               rw[get _ bK]
               have b1:Nat.ble j (j+z)=true:=Nat.ble_eq_true_of_le (by omega)
               have b2:Nat.blt (j+z) (j+len)=true:=Nat.ble_eq_true_of_le (by omega)
               unfold kg
               rw[b1,b2,show j+z -j=z by omega,Nat.beq_refl]
               rfl
             · intro aP w' yv hy
               show aV _ _ _ _ _ _ (aq _ b) _
               have bK:b<l.length:=bK
               have ha:a0<1:=ha
               rw[get _ bK]
               have hy:aV _ _ _ _ _ _ (aq l b) yv:=hy
               unfold kg
               split
               · next b1 b2=>
                 have b1:=Nat.le_of_ble_eq_true b1
                 have b2:b<j+len:=Nat.le_of_ble_eq_true b2
                 have hq:=congrArg (λl=>l[b -j]?) cf
                 simp only[List.getElem?_map,List.getElem?_range (show b -j<len by omega),Option.map_some]at hq
                 cases eS:zs[b -j]? with
                 |none=>rw[eS]at hq;cases hq
                 |some y2=>
                  rw[eS]at hq
                  simp only[Option.map_some,Option.some.injEq,show j+(b -j)=b by omega]at hq
                  rw[hq]at hy
                  have fe:dh zs (b -j)=y2:=by simp[dh,List.getD_eq_getElem?_getD,eS]
                  have Fa:Nat.beq (b -j) z=false:=by
                    cases qO:Nat.beq (b -j) z
                    · rfl
                    · have:=Nat.eq_of_beq_eq_true qO
                      exact absurd ⟨rfl,by omega,by omega⟩ aP
                  rw[Fa,fe]
                  exact hy
               · exact hy
          · cases he
        · cases he
      · cases he
    · cases he
  · cases he
end
end Go.Sy
set_option linter.unusedVariables false
set_option linter.unusedSimpArgs false
namespace Go.Sy
open Go.RowKit
section
variable {P:Program} {w:World} {J:Ow} {ρ:Operand->SV} {M:Mem} {a:Act}
def va (P:Program):Nat->TypeId->Nat->Option Nat
  |0,_,_=>none
  |d+1,T,j=>
   match P.underlying T with
   |some (.slice E)=>match j,P.info? E with|0,some i=>some i.size|_,_=>none
   |some (.struct fs)=>fs.toList.findSome? λfd=>match P.info? fd.type with|some i=>(match Nat.ble fd.offset j,Nat.blt j (fd.offset+i.size)with|true,true=>va P d fd.type (j -fd.offset)|_,_=>none)|none=>none
   |_=>none
def mP (P:Program) (E:TypeId) (z:Array Value):List SV:=
  (List.range z.size).map λj=>match va P 4 E j,z[j]? with
    |some sz,some (.slice none 0 0)=> .il sz 0 λ_ _=> .aj
    |_,some x=> .v x
    |_,none=> .aj
theorem ua (hm:ai w J M) {nx:Nat} (hf:aM (aa M) nx=true) {sz n cap:Nat} {f:Nat->Nat->SV} {c:Array Value} {T:TypeId} (hn:n<=cap) (db:cap<=maxLen) (hc:cap*sz<=c.size)
    (jj: ∀w' ae,Ext w J w' ae->(∀i j,ae.β nx (some (i,j))=none)-> ∀i,i<n-> ∀j,j<sz-> ∃x,c[i*sz+j]? =some x/\aV w' ae none nx i j (f i j) x):
    ∃ae,az w J M (w.alloc (.cells c T)) ae (cG (aa M) nx (.row sz n f)++M)/\Den (w.alloc (.cells c T)) ae (.aC nx (aa M nx).rs none 0 n) (.slice (some ⟨w.heap.size,0,none⟩) n cap)/\dM w J (w.alloc (.cells c T)) ae (λk=>k∈(cG (aa M) nx (.row sz n f)).map (·.1)):=by
  have bu:=eU hm hf
  let L:Loc:=⟨w.heap.size,0,sz,n,c.size⟩
  have aF:Ext w J (w.alloc (.cells c T)) (J.add nx L):=sN rfl bu.2.2
  refine⟨J.add nx L,az.alloc (r:=⟨sz,n,f⟩) hm bu rfl rfl (Nat.le_trans (Nat.mul_le_mul_right _ hn) hc) (λi hi j hj=>jj _ _ aF (λa b=>by simp[Ow.add,bu.2.2]) i hi j hj),Or.inr ⟨?_,_,cap,rfl,hn,db,.inr ⟨L,by simp[Ow.add],by simp[L],by show 0+(0+cap)*sz<=c.size;simpa using hc,by show 0+n<=n;omega⟩⟩,yl rfl bu.2.2 rfl⟩
  show _=st J.cur nx none
  rw[hm.cur];rfl
theorem wK: ∀(cs:List SV) (off:Nat) (l:List SV),(gk l off cs).length=l.length
  | [],_,_=>rfl
  |c::r,off,l=>by rw[gk,wK];simp
theorem wT {m:Nat->ao} {place:Nat->Option (Nat×Nat)}: ∀{ps:List (Nat×SV)} {l l':List SV},gm m place l ps=some l'->l'.length=l.length
  | [],l,l',h=>by simp[gm]at h;rw[h]
  |(k,s)::r,l,l',h=>by
   unfold gm at h
   split at h
   · split at h
     · rw[wT h,wK]
     · cases h
   · cases h
def tY (P:Program) (m:Nat->ao) (nx:Nat) (T:TypeId) (l c:SV):Option (Prop×SV×ak):=
  match P.underlying T,l,c with
  |some (.slice E),.v (.int _ l),.v (.int _ c)=>
   match P.info? E,aM m nx with
   |some i,true=>
    match i.zero,Nat.blt 0 i.bytes with
    |some z,true=>
     match Nat.beq z.cells.size i.size with
     |true=>some (0<=l/\l<=c/\(i.bytes:Int)*c<=140737488355328,.aC nx (m nx).rs none 0 l.toNat,cG m nx (.row i.size l.toNat λ_ j=>aq (mP P E z.cells) j))
     |false=>none
    |_,_=>none
   |_,_=>none
  |_,_,_=>none
theorem AV {E:TypeId} {z:Array Value} {j:Nat} {x:Value} (hx:z[j]? =some x) {w:World} {J:Ow} {k i:Nat} (hn:J.β k (some (i,j))=none):aV w J none k i j (aq (mP P E z) j) x:=by
  have hj:=(Array.getElem?_eq_some_iff.1 hx).1
  have e:aq (mP P E z) j=(match va P 4 E j,z[j]? with
    |some sz,some (.slice none 0 0)=> .il sz 0 λ_ _=> .aj
    |_,some x=> .v x
    |_,none=> .aj):=by
    simp[aq,mP,List.getD_eq_getElem?_getD,hj]
  rw[e]
  split
  · next U=>
    rw[hx]at U
    obtain rfl:=Option.some.inj U
    exact .inr ⟨⟨none,0,rfl,Nat.le_refl _,Nat.zero_le _,.inl rfl⟩,λL hL=>by rw[hn]at hL;cases hL⟩
  · next U _=>
    rw[hx]at U
    obtain rfl:=Option.some.inj U
    exact rfl
  · trivial
theorem yf (h:Cx P w J ρ M a) {o:Oper} {T:TypeId} {x y:Operand} {nx:Nat} {pr:Prop} {s:SV} {u:ak} (ho:o.op= .makeSlice T x y) (he:tY P (aa M) nx T (ρ x) (ρ y)=some (pr,s,u)) (hp:pr):fR P w J M a o s u:=by
  have hx:=h.val x
  have hy:=h.val y
  unfold tY at he
  split at he
  · next E k1 l k2 c hu U h2=>
    rw[U]at hx;rw[h2]at hy
    have ex:a.eval x= .int k1 l:=hx
    have ey:a.eval y= .int k2 c:=hy
    split at he
    · next i hi hf=>
      split at he
      · next z hz hb=>
        have hb:0<i.bytes:=Nat.le_of_ble_eq_true hb
        split at he
        · next cf=>
          have cf:=Nat.eq_of_beq_eq_true cf
          simp only[Option.some.injEq,Prod.mk.injEq]at he
          obtain⟨rfl,rfl,rfl⟩:=he
          obtain⟨h0,U,h2⟩:=hp
          have hcb:c<=140737488355328:=by
            have:c*1<=c*(i.bytes:Int):=Int.mul_le_mul_of_nonneg_left (by omega) (by omega)
            rw[Int.mul_comm c (i.bytes:Int)]at this
            omega
          have hr:=run_make (P:=P) w T E i z hu hi hz k1 k2 l c h0 U (by omega) (by omega)
          obtain⟨ae,s1,s2,s3⟩:=ua h.mem hf (sz:=i.size) (n:=l.toNat) (cap:=c.toNat) (f:=λ_ j=>aq (mP P E z.cells) j) (c:=madeCells z.cells (c.toNat*i.size)) (T:=E) (by omega) (by unfold maxLen;omega) (by rw[size_madeCells];exact Nat.le_refl _) (by
            intro w' ae _ gv q hq j hj
            have af:q*i.size+j<c.toNat*i.size:=fq (by omega) hj
            have E_:z.cells[j]? =some (z.cells[(q*i.size+j)%z.cells.size]!):=by
              have:(q*i.size+j)%z.cells.size=j:=by
                rw[cf,Nat.add_comm,Nat.add_mul_mod_self_right,Nat.mod_eq_of_lt hj]
              rw[this]
              rw[getElem?_pos z.cells j (by omega),getElem!_pos z.cells j (by omega)]
            refine⟨z.cells[(q*i.size+j)%z.cells.size]!,by simp[madeCells,af],AV E_ (gv q j)⟩)
          exact⟨_,_,_,ae,by simp[execOp,ho,ex,ey,hr,Result.andThen],.inl rfl,s1,s2,s3⟩
        · cases he
      · cases he
    · cases he
  · cases he
/-! ### a slice told element by element -/
def rowOf (sz len:Nat) (l:List SV):Nat->Nat->SV:=
  match len with
  |1=>λ_ j=>aq l j
  |_=>λi j=>aq l (i*sz+j)
def ub (k:IntKind) (zs:List Int):Nat->Nat->SV:=λi _=> .v (.int k (dh zs i))
def s_ (P:Program) (m:Nat->ao) (nx:Nat) (T:TypeId) (len:Nat) (parts:List (Nat×SV)):Option (Prop×SV×ak):=
  match P.underlying T with
  |some (.slice E)=>
   match P.info? E,aM m nx with
   |some i,true=>
    match i.zero,Nat.ble len 1000 with
    |some z,true=>
     match Nat.beq z.cells.size i.size,gm m (λk=>some (k*i.size,i.size)) ((List.range (len*i.size)).map λq=>aq (z.cells.toList.map .v) (q%i.size)) parts,Nat.ble (len*i.size) 16777216 with
     |true,some l,true=>
      match l.all λs=>!aX s with
      |true=>
       match Nat.beq i.size 1,P.underlying E with
       |true,some (.int kk)=>
        match ix kk l with
        |some zs=>some (True,.aC nx (m nx).rs none 0 len,cG m nx (.row i.size len (ub kk zs)))
        |none=>none
       |_,_=>some (True,.aC nx (m nx).rs none 0 len,cG m nx (.row i.size len (rowOf i.size len l)))
      |false=>none
     |_,_,_=>none
    |_,_=>none
   |_,_=>none
  |_=>none
theorem Bm (h:Cx P w J ρ M a) {o:Oper} {T:TypeId} {len:Nat} {parts:Array (Nat×Operand)} {nx:Nat} {pr:Prop} {s:SV} {u:ak} (ho:o.op= .buildSlice T len parts)
    (he:s_ P (aa M) nx T len (parts.toList.map λp=>(p.1,ρ p.2))=some (pr,s,u)):fR P w J M a o s u:=by
  have uc: ∀(i:Nat) (s:Nat×SV),(parts.toList.map λp=>(p.1,ρ p.2))[i]? =some s-> ∃u,(parts.toList.map λp=>(p.1,a.eval p.2))[i]? =some (s.1,u)/\Den w J s.2 u:=by
    intro i s hs
    rw[List.getElem?_map]at hs
    cases hp:parts.toList[i]? with
    |none=>rw[hp]at hs;cases hs
    |some p=>
     rw[hp]at hs
     obtain rfl:=Option.some.inj hs
     exact⟨a.eval p.2,by rw[List.getElem?_map,hp];rfl,h.val p.2⟩
  unfold s_ at he
  split at he
  · next E hu=>
    split at he
    · next i hi hf=>
      split at he
      · next z hz hlen=>
        have hlen:=Nat.le_of_ble_eq_true hlen
        split at he
        · next l cf hl zR=>
          have cf:=Nat.eq_of_beq_eq_true cf
          have zR:=Nat.le_of_ble_eq_true zR
          have DS:aJ w J ((List.range (len*i.size)).map λq=>aq (z.cells.toList.map .v) (q%i.size)) (((Array.range (len*i.size)).map λq=>(if len*i.size=0 then #[]else z.cells)[q%(if len*i.size=0 then(#[]:Array Value)else z.cells).size]!).toList):=by
            refine aJ.mk (by simp) λq hq=>?_
            have oF:q<len*i.size:=by simpa using hq
            have h0: ¬len*i.size=0:=by omega
            have qS:0<i.size:=by
              rcases Nat.eq_zero_or_pos i.size with h|h
              · rw[h]at oF;omega
              · exact h
            have ju:q%i.size<z.cells.size:=by rw[cf];exact Nat.mod_lt _ qS
            refine⟨z.cells[q%i.size],?_,?_⟩
            · have e:z.cells[q%z.cells.size]! =z.cells[q%i.size]:=by
                rw[cf,getElem!_pos z.cells (q%i.size) ju]
              simp only[if_neg h0]
              simp[oF,e]
            · rw[List.getD_eq_getElem?_getD,List.getElem?_map,List.getElem?_range oF]
              simp[aq,List.getD_eq_getElem?_getD,ju,Den]
          obtain⟨c,U,h2⟩:=tb h.mem _ _ (by simp) uc _ _ _ DS hl
          have vZ:=h2.len
          have dN:c.size=len*i.size:=by
            have e1:l.length=len*i.size:=by
              have:=wT hl
              simpa using this
            simp at vZ;omega
          have run:(execOp a.eval o).run P w= .ok (.value (.slice (some ⟨w.heap.size,0,none⟩) len len)) (w.alloc (.cells c E)):=by
            have hs:(sizeOf E).run P w= .ok i.size w:=by simp[sizeOf,run_typeInfo w hi,Result.andThen]
            have kO:(zeroValue E).run P w= .ok z w:=by simp[zeroValue,run_typeInfo w hi,hz,Result.andThen]
            have vS: ¬(len*i.size>2^24):=by omega
            simp only[execOp,ho,Instr.buildSlice,Sem.run_bind,run_underlying hu,Result.andThen_ok,hs,if_neg vS,Sem.run_pure]
            by_cases h0:len*i.size=0
            · have hA: ∀(g:Nat->Value),(Array.range (len*i.size)).map g= #[]:=λg=>by simp[h0]
              simp only[hA]at U
              have gY:Array.range 0= #[]:=rfl
              simp[h0,gY,U,newRow,Result.andThen]
            · simp only[if_neg h0]at U⊢
              simp[kO,U,newRow,Result.andThen]
          split at he
          · next aZ=>
            have key: ∀{f:Nat->Nat->SV},(∀q,q<len-> ∀j,j<i.size->f q j=aq l (q*i.size+j))->some (True,SV.aC nx (aa M nx).rs none 0 len,cG (aa M) nx (.row i.size len f))=some (pr,s,u)->fR P w J M a o s u:=by
              intro f vI he
              simp only[Option.some.injEq,Prod.mk.injEq]at he
              obtain⟨_,rfl,rfl⟩:=he
              obtain⟨ae,s1,s2,s3⟩:=ua h.mem hf (sz:=i.size) (n:=len) (cap:=len) (f:=f) (c:=c) (T:=E) (Nat.le_refl _) (by unfold maxLen;omega) (by omega) (by
                intro w' ae aF gv q hq j hj
                have af:q*i.size+j<len*i.size:=fq hq hj
                obtain⟨x,e1,e2⟩:=h2.get? (q*i.size+j) (by simp at vZ;omega)
                refine⟨x,by simpa using e1,?_⟩
                rw[vI q hq j hj,cj (sI aZ _)]
                exact e2.ext aF)
              exact⟨_,_,_,ae,run,.inl rfl,s1,s2,s3⟩
            split at he
            · next kk cP hk=>
              have cP:=Nat.eq_of_beq_eq_true cP
              split at he
              · next zs Ev=>
                refine key (λq hq j hj=>?_) he
                have kL:j=0:=by omega
                subst kL
                have e:=k_ Ev
                rw[e,cP]
                have hzl:zs.length=len:=by
                  have:=congrArg List.length e
                  simp at this vZ
                  rw[cP]at dN
                  omega
                simp[ub,aq,dh,List.getD_eq_getElem?_getD,show q<zs.length by omega]
              · cases he
            · refine key (λq hq j hj=>?_) he
              unfold rowOf
              split
              · have:q=0:=by omega
                subst this
                simp
              · rfl
          · cases he
        · cases he
      · cases he
    · cases he
  · cases he
end
end Go.Sy
