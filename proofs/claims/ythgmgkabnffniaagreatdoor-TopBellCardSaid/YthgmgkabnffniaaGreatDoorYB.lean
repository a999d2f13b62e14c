/-
  Sy, part 5: arithmetic, tests, aggregates, interfaces, tuples, lengths.
-/
import Derived.Test.YthgmgkabnffniaaGreatDoorYA
import Derived.Laws.MakeOwn
set_option linter.unusedVariables false
set_option linter.unusedSimpArgs false
set_option linter.unusedVariables false
set_option linter.unusedSimpArgs false
namespace Go.Sy
open Go.RowKit
def dq (op:BinOp) (k:IntKind) (x y:Int):Int:=
  match op with
  | .and=>k.wrap (BitVec.ofInt k.bits x&&&BitVec.ofInt k.bits y).toNat
  | .or=>k.wrap (BitVec.ofInt k.bits x|||BitVec.ofInt k.bits y).toNat
  | .xor=>k.wrap (BitVec.ofInt k.bits x^^^BitVec.ofInt k.bits y).toNat
  |_=>k.wrap (BitVec.ofInt k.bits x&&& ~~~BitVec.ofInt k.bits y).toNat
def xt (k:IntKind) (z:Int):Prop:=k.wrap z=z
def Iy (sg:Bool) (op:BinOp) (k:IntKind) (x y:Int):R:=
  match op with
  | .add=>match sg with|true=> .ok (.v (.int k (k.wrap (x+y))))|false=> .dS (xt k (x+y)) (.v (.int k (x+y)))
  | .sub=>match sg with|true=> .ok (.v (.int k (k.wrap (x -y))))|false=> .dS (xt k (x -y)) (.v (.int k (x -y)))
  | .mul=>match sg with|true=> .ok (.v (.int k (k.wrap (x*y))))|false=> .dS (xt k (x*y)) (.v (.int k (x*y)))
  | .quo=>match sg with|true=> .dS (y≠0) (.v (.int k (k.wrap (x.tdiv y))))|false=> .dS (0<=x/\0<y/\xt k (x/y)) (.v (.int k (x/y)))
  | .rem=>match sg with|true=> .dS (y≠0) (.v (.int k (x.tmod y)))|false=> .dS (0<=x/\0<y) (.v (.int k (x%y)))
  | .and=> .ok (.v (.int k (dq .and k x y)))
  | .or=> .ok (.v (.int k (dq .or k x y)))
  | .xor=> .ok (.v (.int k (dq .xor k x y)))
  | .andNot=> .ok (.v (.int k (dq .andNot k x y)))
  | .eql=> .ok (.v (.bool (x==y)))
  | .neq=> .ok (.v (.bool (x !=y)))
  | .lss=> .ok (.v (.bool (decide (x<y))))
  | .leq=> .ok (.v (.bool (decide (x<=y))))
  | .gtr=> .ok (.v (.bool (decide (y<x))))
  | .geq=> .ok (.v (.bool (decide (y<=x))))
  |_=> .bad
def HU (op:BinOp) (k:IntKind) (x y:Int):R:=
  match op with
  | .shl=> .dS (0<=y) (.v (.int k (k.wrap (x*2^(min y.toNat k.bits)))))
  | .shr=> .dS (0<=y) (.v (.int k (x.fdiv (2^(min y.toNat k.bits)))))
  |_=> .bad
def Be:Operand->Bool
  | .const .nilIface=>true
  |_=>false
def I_ (op:BinOp) (a b:ByteArray):R:=
  match op with
  | .add=> .dS ((a.size:Int)+b.size<=9223372036854775807) (.v (.string (a++b)))
  | .eql=> .ok (.v (.bool (a.toList==b.toList)))
  | .neq=> .ok (.v (.bool (a.toList !=b.toList)))
  |_=> .bad
def isIface:Option TypeDesc->Bool
  |some (.interface _)=>true
  |_=>false
def yK (P:Program) (op:BinOp) (T:TypeId) (b:SV) (nb:SV):R:=
  match isIface (P.underlying T),op with
  |true,.eql=> .ok b
  |true,.neq=> .ok nb
  |_,_=> .bad
def Iz (P:Program) (op:BinOp) (T:TypeId) (s t:SV):R:=
  match P.underlying T,pP s,pP t,op with
  |some .bool,some a,some b,.eql=> .ok (.v (.bool (a==b)))
  |some .bool,some a,some b,.neq=> .ok (.v (.bool (a !=b)))
  |_,_,_,_=> .bad
def I7 (P:Program) (sg:Bool) (op:BinOp) (T:TypeId) (y:Operand) (s t:SV):R:=
  match s,t with
  | .v (.int k a),.v (.int k' b)=>
    match op with
    | .shl| .shr=>HU op k a b
    |_=>match we k k' with|true=>Iy sg op k a b|false=> .bad
  | .v (.string a),.v (.string b)=>I_ op a b
  | .er _ _ e _,.v .nilIface=>match Be y with|true=>yK P op T (.v (.bool (e==0))) (.v (.bool (e !=0)))|false=> .bad
  | .v .nilIface,.v .nilIface=>match Be y with|true=>yK P op T (.bl true) (.bl false)|false=> .bad
  | .ic _ _,.v .nilIface=>yK P op T (.bl false) (.bl true)
  | .v (.iface _ _),.v .nilIface=>yK P op T (.bl false) (.bl true)
  |s,t=>Iz P op T s t
section
variable {P:Program} {w:World} {ω:Ow} {ρ:Operand->SV} {M:Mem} {a:Act}
theorem Gt (op:BinOp) (T:TypeId) (x y:Operand) (k k':IntKind) (m n:Int) (w:World):(eqGuard op T x y (.int k m) (.int k' n)).run P w= .ok () w:=by
  unfold eqGuard
  cases op<;>simp
theorem Gu (op:BinOp) (T:TypeId) (x y:Operand) (m n:ByteArray) (w:World):(eqGuard op T x y (.string m) (.string n)).run P w= .ok () w:=by
  unfold eqGuard
  cases op<;>simp
theorem Mf (op:BinOp) (T:TypeId) (x y:Operand) (m n:Bool) (w:World):(eqGuard op T x y (.bool m) (.bool n)).run P w= .ok () w:=by
  unfold eqGuard
  cases op<;>simp
theorem W5 (op:BinOp) (T:TypeId) (x y:Operand) (t:TypeId) (m:Value) (w:World):(eqGuard op T x y (.iface t m) .nilIface).run P w= .ok () w:=by
  unfold eqGuard
  cases op<;>simp
theorem Xg (op:BinOp) (T:TypeId) (x y:Operand) (hy:Be y=true) (w:World):(eqGuard op T x y .nilIface .nilIface).run P w= .ok () w:=by
  unfold Be at hy
  split at hy
  · unfold eqGuard
    cases op<;>simp
  · cases hy
theorem aa4 {x y:Int} (h:0<=x):x.tdiv y=x/y:=Int.tdiv_eq_ediv_of_nonneg h
theorem aa5 {x y:Int} (h:0<=x):x.tmod y=x%y:=Int.tmod_eq_emod_of_nonneg h
theorem aa6 (sg:Bool) (op:BinOp) (T:TypeId) (k:IntKind) (x y:Int) (K:SV->Prop) (he:(Iy sg op k x y).run K):
    ∃u,(∀w,(binOp op T (.int k x) (.int k y)).run P w= .ok u w)/\K (.v u):=by
  unfold Iy at he
  split at he
  case h_1=>
    cases sg with
    |true=>exact⟨_,λw=>by simp[binOp,Op.intArith],he⟩
    |false=>exact⟨_,λw=>by simp[binOp,Op.intArith,show k.wrap (x+y)=x+y from he.1],he.2⟩
  case h_2=>
    cases sg with
    |true=>exact⟨_,λw=>by simp[binOp,Op.intArith],he⟩
    |false=>exact⟨_,λw=>by simp[binOp,Op.intArith,show k.wrap (x -y)=x -y from he.1],he.2⟩
  case h_3=>
    cases sg with
    |true=>exact⟨_,λw=>by simp[binOp,Op.intArith],he⟩
    |false=>exact⟨_,λw=>by simp[binOp,Op.intArith,show k.wrap (x*y)=x*y from he.1],he.2⟩
  case h_4=>
    cases sg with
    |true=>exact⟨_,λw=>by simp[binOp,Op.intDiv,he.1],he.2⟩
    |false=>
     obtain⟨⟨J,h2,h3⟩,h4⟩:=he
     exact⟨_,λw=>by simp[binOp,Op.intDiv,show y≠0 by omega,aa4 J,show k.wrap (x/y)=x/y from h3],h4⟩
  case h_5=>
    cases sg with
    |true=>exact⟨_,λw=>by simp[binOp,Op.intDiv,he.1],he.2⟩
    |false=>
     obtain⟨⟨J,h2⟩,h4⟩:=he
     exact⟨_,λw=>by simp[binOp,Op.intDiv,show y≠0 by omega,aa5 J],h4⟩
  case h_16=>exact he.elim
  all_goals exact⟨_,λw=>by simp[binOp,Op.intArith,Op.intBits,Op.intCmp,dq],he⟩
theorem N4 (op:BinOp) (T:TypeId) (k k':IntKind) (x y:Int) (K:SV->Prop) (he:(HU op k x y).run K):
    ∃u,(∀w,(binOp op T (.int k x) (.int k' y)).run P w= .ok u w)/\K (.v u):=by
  unfold HU at he
  split at he
  · exact⟨_,λw=>by simp[binOp,Op.shift,Int.not_lt.2 he.1],he.2⟩
  · exact⟨_,λw=>by simp[binOp,Op.shift,Int.not_lt.2 he.1],he.2⟩
  · exact he.elim
theorem na {o:Oper} {op:BinOp} {T T':TypeId} {x y:Operand} (ho:o.op= .binOp op T x y T') {u v r:Value} (ex:a.eval x=u) (ey:a.eval y=v)
    (hg: ∀w:World,(eqGuard op T x y u v).run P w= .ok () w) (hr: ∀w:World,(binOp op T u v).run P w= .ok r w):(execOp a.eval o).run P w= .ok (.value r) w:=by
  simp[execOp,ho,ex,ey,hg,hr,Result.andThen]
theorem W7 {d:Option TypeDesc} (h:isIface d=true): ∃ms,d=some (.interface ms):=by
  unfold isIface at h
  split at h
  · exact⟨_,rfl⟩
  · cases h
theorem Mp {T:TypeId} (hu:isIface (P.underlying T)=true) (b:Bool) (u:Value) (hb:(b=true/\u= .nilIface)\/(b=false/\ ∃t x,u= .iface t x)) (w:World):
    (Op.equal T u .nilIface).run P w= .ok b w:=by
  obtain⟨ms,hu⟩:=W7 hu
  have J: ∀d:Nat,(Op.equalIn (d+1) T .nilIface .nilIface).run P w= .ok true w:=λd=>by simp[Op.equalIn,run_underlying hu]
  have h2: ∀(d:Nat) t x,(Op.equalIn (d+1) T (.iface t x) .nilIface).run P w= .ok false w:=λd t x=>by simp[Op.equalIn,run_underlying hu]
  rcases hb with⟨rfl,rfl⟩|⟨rfl,t,x,rfl⟩
  · simp[Op.equal,Op.maxDepth,J 9999]
  · simp[Op.equal,Op.maxDepth,h2 9999]
theorem yn {T:TypeId} {u v:Value} (hk:(∀k n,u≠ .int k n)/\(∀k n,u≠ .float k n)/\(∀k n m,u≠ .complex k n m)/\(∀s,u≠ .string s)):binOp .eql T u v=(do pure (.bool (<-Op.equal T u v)))/\binOp .neq T u v=(do pure (.bool (!(<-Op.equal T u v)))):=by
  obtain⟨J,h2,h3,h4⟩:=hk
  constructor<;>(unfold binOp;cases u<;>first|rfl|exact absurd rfl (J _ _)|exact absurd rfl (h2 _ _)|exact absurd rfl (h3 _ _ _)|exact absurd rfl (h4 _))
theorem yz {o:Oper} {op:BinOp} {T T':TypeId} {x y:Operand} (ho:o.op= .binOp op T x y T') {u:Value} (ex:a.eval x=u) (ey:a.eval y= .nilIface) (b:Bool)
    (hb:(b=true/\u= .nilIface/\Be y=true)\/(b=false/\ ∃t x,u= .iface t x)) {s t:SV} (hs:Den w ω s (.bool b)) (ht:Den w ω t (.bool !b)) {K:SV->Prop} (he:(yK P op T s t).run K):fR P w ω a o K:=by
  have hg: ∀(op:BinOp) (w:World),(eqGuard op T x y u .nilIface).run P w= .ok () w:=by
    intro op w
    rcases hb with⟨_,rfl,hy⟩|⟨_,t,z,rfl⟩
    · exact Xg op T x y hy w
    · exact W5 op T x y t z w
  have dC:(b=true/\u= .nilIface)\/(b=false/\ ∃t x,u= .iface t x):=hb.imp (λh=>⟨h.1,h.2.1⟩) id
  have hk:(∀k n,u≠ .int k n)/\(∀k n,u≠ .float k n)/\(∀k n m,u≠ .complex k n m)/\(∀s,u≠ .string s):=by
    rcases dC with⟨_,rfl⟩|⟨_,t,x,rfl⟩<;>simp
  unfold yK at he
  split at he
  · next hu=>exact⟨_,.bool b,na ho ex ey (hg _) (λw=>by rw[(yn hk).1];simp[Mp hu b u dC w,Result.andThen]),hs,he⟩
  · next hu=>exact⟨_,.bool !b,na ho ex ey (hg _) (λw=>by rw[(yn hk).2];simp[Mp hu b u dC w,Result.andThen]),ht,he⟩
  · exact he.elim
theorem aa7 {o:Oper} {op:BinOp} {T T':TypeId} {x y:Operand} (ho:o.op= .binOp op T x y T') {s t:SV} (hx:Den w ω s (a.eval x)) (hy:Den w ω t (a.eval y)) {K:SV->Prop} (he:(Iz P op T s t).run K):fR P w ω a o K:=by
  unfold Iz at he
  split at he
  · next m n hu hs ht=>
    have ex:=m9 hs hx
    have ey:=m9 ht hy
    have J: ∀(d:Nat) (w:World),(Op.equalIn (d+1) T (.bool m) (.bool n)).run P w= .ok (m==n) w:=λd w=>by simp[Op.equalIn,run_underlying hu]
    exact⟨.v (.bool (m==n)),.bool (m==n),na ho ex ey (λw=>Mf _ _ _ _ _ _ w) (λw=>by rw[(yn (by simp)).1];simp[Op.equal,Op.maxDepth,J 9999]),rfl,he⟩
  · next m n hu hs ht=>
    have ex:=m9 hs hx
    have ey:=m9 ht hy
    have J: ∀(d:Nat) (w:World),(Op.equalIn (d+1) T (.bool m) (.bool n)).run P w= .ok (m==n) w:=λd w=>by simp[Op.equalIn,run_underlying hu]
    exact⟨.v (.bool (m !=n)),.bool (m !=n),na ho ex ey (λw=>Mf _ _ _ _ _ _ w) (λw=>by rw[(yn (by simp)).2];simp[Op.equal,Op.maxDepth,J 9999,bne]),rfl,he⟩
  · exact he.elim
theorem acR {o:Oper} {op:BinOp} {T T':TypeId} {x y:Operand} (ho:o.op= .binOp op T x y T') {m n:ByteArray} (ex:a.eval x= .string m) (ey:a.eval y= .string n) {K:SV->Prop} (he:(I_ op m n).run K):fR P w ω a o K:=by
  unfold I_ at he
  split at he
  · exact⟨.v (.string (m++n)),.string (m++n),na ho ex ey (λw=>Gu _ _ _ _ _ _ w) (λw=>by simp[binOp,Op.stringOp,he.1]),rfl,he.2⟩
  · exact⟨.v (.bool (m.toList==n.toList)),.bool (m.toList==n.toList),na ho ex ey (λw=>Gu _ _ _ _ _ _ w) (λw=>by simp[binOp,Op.stringOp]),rfl,he⟩
  · exact⟨.v (.bool (m.toList !=n.toList)),.bool (m.toList !=n.toList),na ho ex ey (λw=>Gu _ _ _ _ _ _ w) (λw=>by simp[binOp,Op.stringOp,bne]),rfl,he⟩
  · exact he.elim
theorem acO (h:Cx P w ω ρ M a) {sg:Bool} {o:Oper} {op:BinOp} {T T':TypeId} {x y:Operand} {K:SV->Prop} (ho:o.op= .binOp op T x y T')
    (he:(I7 P sg op T y (ρ x) (ρ y)).run K):fR P w ω a o K:=by
  have hx:=h.val x
  have hy:=h.val y
  unfold I7 at he
  split at he
  · next k m k' n hs ht=>
    rw[hs]at hx;rw[ht]at hy
    have ex:a.eval x= .int k m:=hx
    have ey:a.eval y= .int k' n:=hy
    split at he
    · obtain⟨u,J,h2⟩:=N4 (P:=P) _ T k k' m n K he
      exact⟨.v u,u,na ho ex ey (λw=>Gt _ _ _ _ _ _ _ _ w) J,rfl,h2⟩
    · obtain⟨u,J,h2⟩:=N4 (P:=P) _ T k k' m n K he
      exact⟨.v u,u,na ho ex ey (λw=>Gt _ _ _ _ _ _ _ _ w) J,rfl,h2⟩
    · next J h2=>
      split at he
      · next hk=>
        obtain rfl:=AI hk
        obtain⟨u,h3,h4⟩:=aa6 (P:=P) sg op T k m n K he
        exact⟨.v u,u,na ho ex ey (λw=>Gt _ _ _ _ _ _ _ _ w) h3,rfl,h4⟩
      · exact he.elim
  · next m n hs ht=>
    rw[hs]at hx;rw[ht]at hy
    exact acR ho hx hy he
  · next t tf e at_ hs ht=>
    rw[hs]at hx;rw[ht]at hy
    split at he
    · next hc=>
      rcases hx with⟨J,_,ex⟩|⟨J,_,ex⟩|⟨J,_,ad,ex,_⟩
      · exact yz ho ex hy true (.inl ⟨rfl,rfl,hc⟩) (by simp[Den,J]) (by simp[Den,J]) he
      · exact yz ho ex hy false (.inr ⟨rfl,_,_,rfl⟩) (by simp[Den,J]) (by simp[Den,J]) he
      · exact yz ho ex hy false (.inr ⟨rfl,_,_,rfl⟩) (by simp[Den,J]) (by simp[Den,J]) he
    · exact he.elim
  · next hs ht=>
    rw[hs]at hx;rw[ht]at hy
    split at he
    · next hc=>exact yz ho hx hy true (.inl ⟨rfl,rfl,hc⟩) (by simp[Den]) (by simp[Den]) he
    · exact he.elim
  · next t s hs ht=>
    rw[hs]at hx;rw[ht]at hy
    obtain⟨u,ex,_⟩:=hx
    exact yz ho ex hy false (.inr ⟨rfl,_,_,rfl⟩) (by simp[Den]) (by simp[Den]) he
  · next t s hs ht=>
    rw[hs]at hx;rw[ht]at hy
    exact yz ho hx hy false (.inr ⟨rfl,_,_,rfl⟩) (by simp[Den]) (by simp[Den]) he
  · exact aa7 ho hx hy he
end
end Go.Sy
set_option linter.unusedVariables false
set_option linter.unusedSimpArgs false
namespace Go.Sy
open Go.RowKit
def wj (P:Program) (T:TypeId) (f:Nat->SV) (n off:Nat):Option SV:=
  match P.info? T,P.underlying T with
  |some i,some d=>
   match oM d with
   |true=>match Nat.ble (off+i.size) n with|true=>some (.ag i.size (out i.size λj=>f (off+j)))|false=>none
   |false=>match Nat.blt off n with|true=>some (f off)|false=>none
  |_,_=>none
def Ix (P:Program) (T:TypeId) (s t:SV):Option Bool:=
  match P.underlying T,s,t with
  |some (.int _),.v (.int k a),.v (.int k' b)=>match we k k' with|true=>some (a==b)|false=>none
  |some .string,.v (.string a),.v (.string b)=>some (a.toList==b.toList)
  |some .bool,s,t=>match pP s,pP t with|some a,some b=>some (a==b)|_,_=>none
  |_,_,_=>none
def Fk:Option Bool->Option Bool->Option Bool
  |some a,some b=>some (a&&b)
  |_,_=>none
def zd (P:Program) (rec:TypeId->SV->SV->Option Bool) (n:Nat) (f:Nat->SV) (m:Nat) (g:Nat->SV):List Field->Option Bool
  | []=>some true
  |fd::r=>
   match decide (fd.name = "_") with
   |true=>zd P rec n f m g r
   |false=>
    match wj P fd.type f n fd.offset,wj P fd.type g m fd.offset with
    |some a,some b=>Fk (rec fd.type a b) (zd P rec n f m g r)
    |_,_=>none
def B0 (P:Program) (rec:TypeId->SV->SV->Option Bool) (E:TypeId) (sz n:Nat) (f:Nat->SV) (m:Nat) (g:Nat->SV):List Nat->Option Bool
  | []=>some true
  |k::r=>
   match wj P E f n (k*sz),wj P E g m (k*sz)with
   |some a,some b=>Fk (rec E a b) (B0 P rec E sz n f m g r)
   |_,_=>none
def xr (P:Program):Nat->TypeId->SV->SV->Option Bool
  |0,_,_,_=>none
  |d+1,T,s,t=>
   match P.underlying T,s,t with
   |some (.struct fs),.ag n f,.ag m g=>match P.stoodInHeld T with|false=>zd P (xr P d) n f m g fs.toList|true=>none
   |some (.array len E),.ag n f,.ag m g=>match P.info? E with|some i=>B0 P (xr P d) E i.size n f m g (List.range len)|none=>none
   |_,s,t=>Ix P T s t
section
variable {P:Program} {w:World} {ω:Ow}
theorem AV {T:TypeId} {f:Nat->SV} {n off:Nat} {s:SV} {xs:Array Value} (h:wj P T f n off=some s) (hd:Den w ω (.ag n f) (.agg xs)):
    ∃v,(∀w',(part T xs off).run P w'= .ok v w')/\Den w ω s v:=by
  obtain⟨cs,e,hn,hj⟩:=hd
  obtain rfl:=Value.agg.inj e
  unfold wj at h
  split at h
  · next i d hi hu=>
    split at h
    · next hd=>
      split at h
      · next hle=>
        have hle:=Nat.le_of_ble_eq_true hle
        obtain rfl:=Option.some.inj h
        have ha: ∀w',(isAgg T).run P w'= .ok true w':=λw'=>by
          simp only[isAgg,Sem.run_bind,run_underlying hu,Result.andThen]
          cases d<;>simp[oM]at hd<;>simp
        have hs: ∀w',(sizeOf T).run P w'= .ok i.size w':=λw'=>by simp[sizeOf,run_typeInfo w' hi,Result.andThen]
        refine⟨.agg (xs.extract off (off+i.size)),λw'=>by simp[part,ha,hs,Result.andThen],_,rfl,by simp;omega,λj tB=>?_⟩
        obtain⟨x,J,h2⟩:=hj (off+j) (by omega)
        exact⟨x,by rw[Array.getElem?_extract];simp[show j<min (off+i.size) xs.size -off by omega,J],by rw[Ru tB];exact h2⟩
      · cases h
    · next hd=>
      split at h
      · next av=>
        have av:off<n:=Nat.le_of_ble_eq_true av
        obtain rfl:=Option.some.inj h
        have ha: ∀w',(isAgg T).run P w'= .ok false w':=λw'=>by
          simp only[isAgg,Sem.run_bind,run_underlying hu,Result.andThen]
          cases d<;>simp[oM]at hd<;>simp
        obtain⟨x,J,h2⟩:=hj off av
        exact⟨x,λw'=>by simp[part,ha,J,Result.andThen],h2⟩
      · cases h
  · cases h
theorem Yo {T:TypeId} {s t:SV} {b:Bool} (h:Ix P T s t=some b) {u v:Value} (hu:Den w ω s u) (hv:Den w ω t v) (d:Nat) (w':World):
    (Op.equalIn (d+1) T u v).run P w'= .ok b w':=by
  unfold Ix at h
  split at h
  · next hT=>
    split at h
    · next hk=>
      obtain rfl:=AI hk
      obtain rfl:=Option.some.inj h
      obtain rfl:=hu
      obtain rfl:=hv
      exact run_equalIn_int w' d T _ _ _ _ hT
    · cases h
  · next hT=>
    obtain rfl:=Option.some.inj h
    obtain rfl:=hu
    obtain rfl:=hv
    exact run_equalIn_string w' d T _ _ hT
  · next hT=>
    split at h
    · next a b ha hb=>
      obtain rfl:=Option.some.inj h
      obtain rfl:=m9 ha hu
      obtain rfl:=m9 hb hv
      exact run_equalIn_bool' w' d T _ _ hT
    · cases h
  · cases h
theorem No {a b:Option Bool} {r:Bool} (h:Fk a b=some r): ∃x y,a=some x/\b=some y/\r=(x&&y):=by
  unfold Fk at h
  split at h
  · exact⟨_,_,rfl,rfl,(Option.some.inj h).symm⟩
  · cases h
theorem HT {rec:TypeId->SV->SV->Option Bool} {d:Nat} (ih: ∀{T:TypeId} {s t:SV} {b:Bool},rec T s t=some b-> ∀{u v:Value},Den w ω s u->Den w ω t v-> ∀w',(Op.equalIn d T u v).run P w'= .ok b w')
    {n m:Nat} {f g:Nat->SV} {xs ys:Array Value} (hx:Den w ω (.ag n f) (.agg xs)) (hy:Den w ω (.ag m g) (.agg ys)):
    ∀(fs:List Field) {b:Bool},zd P rec n f m g fs=some b-> ∀w',(Op.eqFields d xs ys fs).run P w'= .ok b w'
  | [],b,h,w'=>by simp[zd]at h;subst h;simp[Op.eqFields]
  |fd::r,b,h,w'=>by
   unfold zd at h
   split at h
   · next hn=>
     have hn : fd.name = "_" := by simpa using hn
     simp only[Op.eqFields,hn,ne_eq,not_true_eq_false,if_false]
     exact HT ih hx hy r h w'
   · next hn=>
     have hn : fd.name ≠ "_" := by simpa using hn
     split at h
     · next a c ha hc=>
       obtain⟨p,q,J,h2,rfl⟩:=No h
       obtain⟨u,e1,d1⟩:=AV ha hx
       obtain⟨v,e2,d2⟩:=AV hc hy
       have e3:=ih J d1 d2 w'
       simp only[Op.eqFields,hn,ne_eq,not_false_eq_true,if_true,Sem.run_bind,e1,e2,e3,Result.andThen_ok]
       cases p
       · simp
       · simpa using HT ih hx hy r h2 w'
     · cases h
theorem EC: ∀(d:Nat) {T:TypeId} {s t:SV} {b:Bool},xr P d T s t=some b-> ∀{u v:Value},Den w ω s u->Den w ω t v-> ∀w',(Op.equalIn d T u v).run P w'= .ok b w'
  |0,_,_,_,_,h,_,_,_,_,_=>by simp[xr]at h
  |d+1,T,s,t,b,h,u,v,hu,hv,w'=>by
   unfold xr at h
   split at h
   · next fs n f m g hT=>
     split at h
     · next hs=>
       obtain⟨xs,rfl,hx⟩:=hu
       obtain⟨ys,rfl,hy⟩:=hv
       have hf:P.fieldsOf T=fs:=by simp[Program.fieldsOf,hT]
       rw[run_equalIn_struct w' d T xs ys (by rw[hf];exact hT) hs,hf]
       exact HT (λhr _ _ du dv gg=>EC d hr du dv gg) ⟨xs,rfl,hx⟩ ⟨ys,rfl,hy⟩ _ h w'
     · cases h
   · next len E n f m g hT=>
     split at h
     · next i hi=>
       obtain⟨xs,rfl,hx⟩:=hu
       obtain⟨ys,rfl,hy⟩:=hv
       have hs: ∀gg,(sizeOf E).run P gg= .ok i.size gg:=λgg=>by simp[sizeOf,run_typeInfo gg hi,Result.andThen]
       simp only[Op.equalIn,Sem.run_bind,run_underlying hT,Result.andThen_ok,hs,Std.Legacy.Range.forIn_eq_forIn_range',Std.Legacy.Range.size]
       have key: ∀(l:List Nat) {b:Bool},B0 P (xr P d) E i.size n f m g l=some b-> ∀gg:World,
        (((forIn l ((none,()):Option Bool×Unit) λk r=>do
            let x<-part E xs (k*i.size)
            let y<-part E ys (k*i.size)
            let z<-Op.equalIn d E x y
            if(!z)=true then pure (ForInStep.done (some false,()))else pure (ForInStep.yield (none,()))):Sem (Option Bool×Unit))).run P gg= .ok (if b then none else some false,()) gg:=by
         intro l
         induction l with
         |nil=>intro b h gg;simp[B0]at h;subst h;simp
         |cons k r ih=>
          intro b h gg
          unfold B0 at h
          split at h
          · next a c ha hc=>
            obtain⟨p,q,J,h2,rfl⟩:=No h
            obtain⟨u,e1,d1⟩:=AV ha ⟨xs,rfl,hx⟩
            obtain⟨v,e2,d2⟩:=AV hc ⟨ys,rfl,hy⟩
            have e3:=EC d J d1 d2 gg
            simp only[List.forIn_cons,Sem.run_bind,e1,e2,e3,Result.andThen_ok]
            cases p
            · simp
            · simpa using ih h2 gg
          · cases h
       have e0:List.range' 0 ((len -0+1 -1)/1)=List.range len:=by rw[List.range_eq_range'];congr 1;omega
       rw[e0,key _ h w']
       cases b<;>simp[Result.andThen]
     · cases h
   · exact Yo h hu hv d w'
end
end Go.Sy
set_option linter.unusedVariables false
set_option linter.unusedSimpArgs false
namespace Go.Sy
open Go.RowKit
def I6 (P:Program) (op:BinOp) (T:TypeId) (s t:SV):R:=
  match s,t,P.eqGuardType P.depth T with
  | .ag n f,.ag m g,false=>
    match xr P 10000 T (.ag n f) (.ag m g),op with
    |some b,.eql=> .ok (.v (.bool b))
    |some b,.neq=> .ok (.v (.bool (!b)))
    |_,_=> .bad
  |_,_,_=> .bad
def A' (c s t:SV):R:=
  match c with
  | .bl true=> .ok s
  | .bl false=> .ok t
  | .v (.bool b)=>
    match pP s,pP t with
    |some x,some y=> .ok (.v (.bool (bif b then x else y)))
    |_,_=> .bad
  |_=> .bad
def JE (sg:Bool) (op:UnOp) (s:SV):R:=
  match op,s with
  | .not,.bl true=> .ok (.bl false)
  | .not,.bl false=> .ok (.bl true)
  | .not,.v (.bool b)=> .ok (.v (.bool (!b)))
  | .neg,.v (.int k n)=>match sg with|true=> .ok (.v (.int k (k.wrap (0 -n))))|false=> .dS (xt k (0 -n)) (.v (.int k (-n)))
  |_,_=> .bad
def Iv (P:Program) (sg:Bool) (S D:TypeId) (s:SV):R:=
  match P.underlying S,P.underlying D,s with
  |some _,some (.int k),.v (.int _ n)=>match sg with|true=> .ok (.v (.int k (k.wrap n)))|false=> .dS (xt k n) (.v (.int k n))
  |_,_,_=> .bad
def HR (T:TypeId):SV->SV
  | .v x=> .v (.iface T x)
  | .bl b=> .v (.iface T (.bool b))
  |s=> .ic T s
def GR (P:Program) (T:TypeId) (s:SV):R:=
  match P.underlying T with
  |some (.interface _)=> .bad
  |some _=> .ok (HR T s)
  |none=> .bad
def AH (s:SV) (i:Nat):R:=
  match s with
  | .tp n f=>match Nat.blt i n with|true=> .ok (f i)|false=> .bad
  |_=> .bad
def Bb (P:Program) (t:TypeId) (name:String):Option Nat:=
  match P.info? t,P.underlying t with
  |some i,some d=>
   match i.methods.find? (λm=>m.name==name)with
   |some m=>
    match m.path.toList,m.func,d with
    | [],some (f,true),.pointer _=>some f
    | [],some (f,false),.struct _=>some f
    |_,_,_=>none
   |none=>none
  |_,_=>none
def GD (P:Program) (s:SV) (m:Nat->bk):R:=
  match s with
  | .ptr k st p i j=>match cD m k st p with|true=> .ok (.ptr k st p i j)|false=> .bad
  | .pe k st p i j len z=>match cD m k st p with|true=> .ok (.pe k st p i j len z)|false=> .bad
  | .pt q n f=> .ok (.pt q n f)
  | .fn id n f=> .ok (.fn id n f)
  | .bm id s=> .ok (.bm id s)
  | .mv nm (.ic t s)=>match Bb P t nm with|some _=> .ok (.mv nm (.ic t s))|none=> .bad
  | .pa q sz n f=> .ok (.pa q sz n f)
  | .v (.pointer (some ad))=> .ok (.v (.pointer (some ad)))
  |_=> .bad
def I8 (P:Program) (T:TypeId) (s:SV) (m:Nat->bk):R:=
  match P.underlying T,s with
  |some (.slice _),.sl _ _ n _=> .mH ((n:Int)<=9223372036854775807) (.v (.int .i64 n))
  |some (.slice _),.aO k st p _ n=>match cD m k st p with|true=> .mH ((n:Int)<=9223372036854775807) (.v (.int .i64 n))|false=> .bad
  |some (.slice _),.sa k st p _ _ n=>match cD m k st p with|true=> .ok (.v (.int .i64 n))|false=> .bad
  |some (.slice _),.v (.slice none 0 0)=> .ok (.v (.int .i64 0))
  |some (.slice _),.es=> .ok (.v (.int .i64 0))
  |some .string,.v (.string x)=> .ok (.v (.int .i64 x.size))
  |_,_=> .bad
def E3 (mx:Bool) (l:List SV):R:=
  match l with
  | [.v (.int k x),.v (.int k' y)]=>
    match we k k',mx with
    |true,true=> .ok (.v (.int k (max x y)))
    |true,false=> .ok (.v (.int k (min x y)))
    |_,_=> .bad
  |_=> .bad
def Iw (P:Program) (T:TypeId) (s:SV) (j:Nat):R:=
  match P.underlying T,s with
  |some (.struct fs),.ag n f=>
   match fs[j]? with
   |some fd=>match wj P fd.type f n fd.offset with|some t=> .ok t|none=> .bad
   |none=> .bad
  |_,_=> .bad
def JF (P:Program) (T:TypeId) (lit:Bool) (s i:SV):R:=
  match P.underlying T,s,i with
  |some .string,.v (.string x),.v (.int _ z)=> .dS ((0<=z/\z<x.size)) (.v (.int .u8 (x.data.toList.getD z.toNat 0).toNat))
  |some (.array len E),.ag n f,.v (.int _ z)=>
   match P.info? E,P.underlying E with
   |some i,some d=>
    match oM d,Nat.beq n (len*i.size),Nat.beq i.size 1 with
    |false,true,true=>
     match lit,d with
     |true,_=> .dS ((0<=z/\z<len)) (f z.toNat)
     |false,.int kk=>match sL kk ((List.range len).map f)with|some l=> .dS ((0<=z/\z<len)) (.v (.int kk (gQ l z.toNat)))|none=> .bad
     |_,_=> .bad
    |_,_,_=> .bad
   |_,_=> .bad
  |_,_,_=> .bad
def qQ (d:Int):Option SV->Option Int
  |none=>some d
  |some (.v (.int _ z))=>some z
  |_=>none
def HP (P:Program) (T:TypeId) (s:SV) (lo hi:Option SV) (m:Nat->bk):R:=
  match P.underlying T,s with
  |some (.slice E),.sl q sz n f=>
   match P.info? E,qQ 0 lo,qQ n hi with
   |some i,some l,some h=>match Nat.beq i.size sz with|true=> .dS ((0<=l/\l<=h/\h<=n)) (.sl q sz (h.toNat -l.toNat) λi j=>f (l.toNat+i) j)|false=> .bad
   |_,_,_=> .bad
  |some (.slice E),.aO k st p e n=>
   match P.info? E,qQ 0 lo,qQ n hi with
   |some i,some l,some h=>
    match cD m k st p,gu (m k).b p with
    |true,some r=>match Nat.beq i.size r.sz with|true=> .dS ((0<=l/\l<=h/\h<=n)) (.aO k st p (e+l.toNat) (h.toNat -l.toNat))|false=> .bad
    |_,_=> .bad
   |_,_,_=> .bad
  |some (.array len E),.ptr k st p ii j=>
   match P.info? E,lo,hi,cD m k st p with
   |some i,none,none,true=>match Nat.beq i.size 1,Nat.blt 0 len,Nat.ble len 1000000 with|true,true,true=> .ok (.sa k st p ii j len)|_,_,_=> .bad
   |_,_,_,_=> .bad
  |some .string,.v (.string x)=>
   match qQ 0 lo,qQ x.size hi with
   |some l,some h=> .dS ((0<=l/\l<=h/\h<=x.size)) (.v (.string (x.extract l.toNat h.toNat)))
   |_,_=> .bad
  |_,_=> .bad
def Hh (fn:Fn) (first gx:List SV):R:=
  match fn,first with
  | .func id,[]=> .ok (.fn id gx.length (aL gx))
  | .func id,[s]=>match gx with| []=> .ok (.bm id s)|_=> .bad
  | .method nm,[s]=>match gx with| []=> .ok (.mv nm s)|_=> .bad
  |_,_=> .bad
def rH (m:Nat->bk):SV->Option (List SV)
  | .ag n f=>some ((List.range n).map f)
  | .v (.agg cs)=>some (cs.toList.map .v)
  | .v (.tuple _)=>none
  | .aF=>none
  | .tp _ _=>none
  | .il _ _ _=>none
  | .ptr k st p i j=>match cD m k st p with|true=>some [.ptr k st p i j]|false=>none
  | .pe k st p i j len z=>match cD m k st p with|true=>some [.pe k st p i j len z]|false=>none
  | .aO k st p e n=>match cD m k st p with|true=>some [.aO k st p e n]|false=>none
  | .sa k st p i j n=>match cD m k st p with|true=>some [.sa k st p i j n]|false=>none
  |s=>some [s]
def qv (l:List SV):Nat->List SV->List SV
  |_,[]=>l
  |off,c::r=>qv (l.set off c) (off+1) r
def qy (m:Nat->bk) (place:Nat->Option (Nat×Nat)) (cells:List SV):List (Nat×SV)->Option (List SV)
  | []=>some cells
  |(i,s)::rest=>
   match place i,rH m s with
   |some (off,size),some cs=>
    match Nat.beq cs.length size,Nat.ble (off+cs.length) cells.length with
    |true,true=>qy m place (qv cells off cs) rest
    |_,_=>none
   |_,_=>none
def aa3 (P:Program) (fs:List Field):Option (List (Nat×Nat)):=fs.mapM (λf=>(P.info? f.type).map λi=>(f.offset,i.size))
def HQ (P:Program) (T:TypeId) (parts:List (Nat×SV)) (m:Nat->bk):R:=
  match P.info? T,P.underlying T with
  |some i,some (.struct fs)=>
   match i.zero,aa3 P fs.toList with
   |some z,some pl=>
    match qy m (λk=>pl[k]?) (z.cells.toList.map .v) parts with
    |some l=> .ok (.ag l.length (aL l))
    |none=> .bad
   |_,_=> .bad
  |some i,some (.array _ E)=>
   match i.zero,P.info? E with
   |some z,some ie=>
    match qy m (λk=>some (k*ie.size,ie.size)) (z.cells.toList.map .v) parts with
    |some l=> .ok (.ag l.length (aL l))
    |none=> .bad
   |_,_=> .bad
  |_,_=> .bad
section
variable {P:Program} {w:World} {ω:Ow} {ρ:Operand->SV} {M:Mem} {a:Act}
theorem acN (h:Cx P w ω ρ M a) {o:Oper} {op:BinOp} {T T':TypeId} {x y:Operand} {K:SV->Prop} (ho:o.op= .binOp op T x y T')
    (he:(I6 P op T (ρ x) (ρ y)).run K):fR P w ω a o K:=by
  have hx:=h.val x
  have hy:=h.val y
  unfold I6 at he
  split at he
  · next n f m g hs ht hg=>
    rw[hs]at hx;rw[ht]at hy
    split at he
    · next b hb=>
      have hr:=λw'=>EC 10000 hb hx hy w'
      obtain⟨xs,ex,_⟩:=hx
      obtain⟨ys,ey,_⟩:=hy
      rw[ex,ey]at hr
      exact⟨.v (.bool b),.bool b,na ho ex ey (λw=>run_eqGuard_agg w _ _ _ _ _ _ hg) (λw=>by rw[run_eql_struct,hr w];rfl),rfl,he⟩
    · next b hb=>
      have hr:=λw'=>EC 10000 hb hx hy w'
      obtain⟨xs,ex,_⟩:=hx
      obtain⟨ys,ey,_⟩:=hy
      rw[ex,ey]at hr
      exact⟨.v (.bool (!b)),.bool (!b),na ho ex ey (λw=>run_eqGuard_agg w _ _ _ _ _ _ hg) (λw=>by rw[run_neq_struct,hr w];rfl),rfl,he⟩
    · exact he.elim
  · exact he.elim
theorem A3 (h:Cx P w ω ρ M a) {o:Oper} {c x y:Operand} {K:SV->Prop} (ho:o.op= .pick c x y)
    (he:(A' (ρ c) (ρ x) (ρ y)).run K):fR P w ω a o K:=by
  have hc:=h.val c
  have hx:=h.val x
  have hy:=h.val y
  unfold A' at he
  split at he
  · next hs=>
    rw[hs]at hc
    have ec:a.eval c= .bool true:=hc
    exact⟨_,_,by simp[execOp,ho,ec,asBool],hx,he⟩
  · next hs=>
    rw[hs]at hc
    have ec:a.eval c= .bool false:=hc
    exact⟨_,_,by simp[execOp,ho,ec,asBool],hy,he⟩
  · next b hs=>
    rw[hs]at hc
    have ec:a.eval c= .bool b:=hc
    split at he
    · next p q hp hq=>
      have ex:=m9 hp hx
      have ey:=m9 hq hy
      exact⟨.v (.bool (bif b then p else q)),.bool (bif b then p else q),by cases b<;>simp[execOp,ho,ec,asBool,ex,ey],rfl,he⟩
    · exact he.elim
  · exact he.elim
theorem aeP (h:Cx P w ω ρ M a) {sg:Bool} {o:Oper} {op:UnOp} {T:TypeId} {x:Operand} {K:SV->Prop} (ho:o.op= .unOp op T x)
    (he:(JE sg op (ρ x)).run K):fR P w ω a o K:=by
  have hx:=h.val x
  unfold JE at he
  split at he
  · next hs=>
    rw[hs]at hx
    have ex:a.eval x= .bool true:=hx
    exact⟨.bl false,.bool false,by simp[execOp,ho,ex,Op.unary],rfl,he⟩
  · next hs=>
    rw[hs]at hx
    have ex:a.eval x= .bool false:=hx
    exact⟨.bl true,.bool true,by simp[execOp,ho,ex,Op.unary],rfl,he⟩
  · next b hs=>
    rw[hs]at hx
    have ex:a.eval x= .bool b:=hx
    exact⟨.v (.bool (!b)),.bool (!b),by simp[execOp,ho,ex,Op.unary],rfl,he⟩
  · next k n hs=>
    rw[hs]at hx
    have ex:a.eval x= .int k n:=hx
    cases sg with
    |true=>exact⟨.v (.int k (k.wrap (0 -n))),.int k (k.wrap (0 -n)),by simp[execOp,ho,ex,Op.unary,Op.intArith],rfl,he⟩
    |false=>
     have e:k.wrap (0 -n)= -n:=by have:=he.1;unfold xt at this;omega
     exact⟨.v (.int k (-n)),.int k (-n),by simp only[execOp,ho,ex,Op.unary,Op.intArith,e,Sem.run_bind,Sem.run_pure,Result.andThen_ok],rfl,he.2⟩
  · exact he.elim
theorem aa1 (h:Cx P w ω ρ M a) {sg:Bool} {o:Oper} {S D:TypeId} {x:Operand} {K:SV->Prop} (ho:o.op= .convert S D x)
    (he:(Iv P sg S D (ρ x)).run K):fR P w ω a o K:=by
  have hx:=h.val x
  unfold Iv at he
  split at he
  · next d k k' n hS hD hs=>
    rw[hs]at hx
    have ex:a.eval x= .int k' n:=hx
    have hr:(execOp a.eval o).run P w= .ok (.value (.int k (k.wrap n))) w:=by simp[execOp,ho,ex,convert,run_underlying hS,run_underlying hD,Conv.intToInt,Result.andThen]
    cases sg with
    |true=>exact⟨.v (.int k (k.wrap n)),_,hr,rfl,he⟩
    |false=>
     have e:k.wrap n=n:=he.1
     exact⟨.v (.int k n),_,hr,by rw[e];rfl,he.2⟩
  · exact he.elim
theorem Xf {T:TypeId} {s:SV} {u:Value} (h:Den w ω s u):Den w ω (HR T s) (.iface T u):=by
  unfold HR
  split
  · obtain rfl:=h;rfl
  · obtain rfl:=h;rfl
  · exact⟨u,rfl,h⟩
theorem XA (h:Cx P w ω ρ M a) {o:Oper} {T:TypeId} {x:Operand} {K:SV->Prop} (ho:o.op= .makeInterface T x)
    (he:(GR P T (ρ x)).run K):fR P w ω a o K:=by
  have hx:=h.val x
  unfold GR at he
  split at he
  · exact he.elim
  · next d hn hu=>
    refine⟨_,_,?_,Xf hx,he⟩
    simp only[execOp,ho,Instr.makeInterface,Sem.run_bind,run_underlying hu,Result.andThen_ok]
    cases d<;>first|exact absurd rfl (hn _)|rfl
  · exact he.elim
theorem XB (h:Cx P w ω ρ M a) {o:Oper} {i:Nat} {x:Operand} {K:SV->Prop} (ho:o.op= .extract x i)
    (he:(AH (ρ x) i).run K):fR P w ω a o K:=by
  have hx:=h.val x
  unfold AH at he
  split at he
  · next n f hs=>
    rw[hs]at hx
    obtain⟨cs,ex,_,hj⟩:=hx
    split at he
    · next av=>
      obtain⟨y,J,h2⟩:=hj i (Nat.le_of_ble_eq_true av)
      exact⟨_,y,by simp[execOp,ho,ex,Instr.extract,J],h2,he⟩
    · exact he.elim
  · exact he.elim
theorem Xe (h:Cx P w ω ρ M a) {o:Oper} {x:Operand} {K:SV->Prop} (ho:o.op= .nilCheck x)
    (he:(GD P (ρ x) (ae M)).run K):fR P w ω a o K:=by
  have hx:=h.val x
  unfold GD at he
  have run: ∀u,(∃ad,u= .pointer (some ad))\/(∃f p c,u= .func (.func f) p c)->a.eval x=u->(execOp a.eval o).run P w= .ok (.value u) w:=by
    rintro u (⟨ad,rfl⟩|⟨f,p,c,rfl⟩) e<;>simp[execOp,ho,e]
  split at he
  · next k st p i j hs=>
    split at he
    · next bF=>
      rw[hs]at hx
      obtain⟨_,L,_,_,e⟩:=ir h.mem bF hx
      exact⟨_,_,run _ (.inl ⟨_,e⟩) rfl,hx,he⟩
    · exact he.elim
  · next k st p i j len z hs=>
    split at he
    · next bF=>
      rw[hs]at hx
      obtain⟨_,L,_,_,_,e⟩:=ir h.mem bF hx
      exact⟨_,_,run _ (.inl ⟨_,e⟩) rfl,hx,he⟩
    · exact he.elim
  · next q n f hs=>
    rw[hs]at hx
    have dO:=hx
    obtain⟨b,ex,_⟩:=hx
    exact⟨_,_,run _ (.inl ⟨_,ex⟩) rfl,dO,he⟩
  · next id n f hs=>
    rw[hs]at hx
    have dO:=hx
    obtain⟨b,ex,_⟩:=hx
    exact⟨_,_,run _ (.inr ⟨_,_,_,ex⟩) rfl,dO,he⟩
  · next id s hs=>
    rw[hs]at hx
    have dO:=hx
    obtain⟨b,ex,_⟩:=hx
    exact⟨_,_,run _ (.inr ⟨_,_,_,ex⟩) rfl,dO,he⟩
  · next nm t s hs=>
    rw[hs]at hx
    have dO:=hx
    obtain⟨u,ex,y,rfl,_⟩:=hx
    split at he
    · next f hm=>
      refine⟨.mv nm (.ic t s),.func (.method nm) #[.iface t y] #[],?_,by rw[ex]at dO;exact dO,he⟩
      unfold Bb at hm
      split at hm
      · next i d hi hd=>
        split at hm
        · next m hf=>
          split at hm
          · next f e hp mJ=>
            obtain⟨k,hk⟩: ∃k,P.types.size+Made.depth=k+1:=⟨P.types.size+99,by show P.types.size+100=_;omega⟩
            simp[execOp,ho,ex,hk,nilAhead,typeInfo,hi,hf,hp,followBlind,mJ,Result.andThen]
          · next f e hp mJ=>
            obtain⟨k,hk⟩: ∃k,P.types.size+Made.depth=k+1:=⟨P.types.size+99,by show P.types.size+100=_;omega⟩
            simp[execOp,ho,ex,hk,nilAhead,typeInfo,hi,hf,hp,followBlind,mJ,underlying,hd,Result.andThen]
          · cases hm
        · cases hm
      · cases hm
    · exact he.elim
  · next q sz n f hs=>
    rw[hs]at hx
    have dO:=hx
    obtain⟨b,ex,_⟩:=hx
    exact⟨_,_,run _ (.inl ⟨_,ex⟩) rfl,dO,he⟩
  · next ad hs=>
    rw[hs]at hx
    exact⟨.v (.pointer (some ad)),_,run _ (.inl ⟨_,rfl⟩) hx,rfl,he⟩
  · exact he.elim
theorem acP (h:Cx P w ω ρ M a) {o:Oper} {T:TypeId} {x:Operand} {K:SV->Prop} (ho:o.op= .call {callee:= .builtin .len,args:= #[x],argTypes:= #[T]})
    (he:(I8 P T (ρ x) (ae M)).run K):fR P w ω a o K:=by
  have hx:=h.val x
  unfold I8 at he
  have run: ∀p n cap,(∃E,P.underlying T=some (.slice E))->a.eval x= .slice p n cap->(execOp a.eval o).run P w= .ok (.value (.int .i64 n)) w:=by
    rintro p n cap ⟨E,hu⟩ ex
    simp[execOp,ho,resolve,invoke,builtin,Builtin.len_,ex,run_underlying hu,Result.andThen,goInt]
  split at he
  · next E q sz n f hu hs=>
    rw[hs]at hx
    obtain⟨p,cap,ex,_,iH,_⟩:=hx
    exact⟨.v (.int .i64 n),_,run _ _ _ ⟨E,hu⟩ ex,rfl,he (by unfold maxLen at iH;omega)⟩
  · next E k st p e n hu hs=>
    split at he
    · next bF=>
      rw[hs]at hx
      have e0:st=Sy.st ω.cur k p:=by
        rw[h.mem.cur]
        cases p with
        |none=>exact Nat.eq_of_beq_eq_true bF
        |some _=>exact Nat.eq_of_beq_eq_true bF
      rcases hx with hx|⟨_,q,cap,ex,_,iH,_⟩
      · omega
      exact⟨.v (.int .i64 n),_,run _ _ _ ⟨E,hu⟩ ex,rfl,he (by unfold maxLen at iH;omega)⟩
    · exact he.elim
  · next E k st p i j n hu hs=>
    split at he
    · next bF=>
      rw[hs]at hx
      obtain⟨_,L,_,_,_,ex⟩:=ir h.mem bF hx
      exact⟨.v (.int .i64 n),_,run _ _ _ ⟨E,hu⟩ ex,rfl,he⟩
    · exact he.elim
  · next E hu hs=>
    rw[hs]at hx
    exact⟨.v (.int .i64 0),_,run _ _ _ ⟨E,hu⟩ hx,rfl,he⟩
  · next E hu hs=>
    rw[hs]at hx
    obtain⟨p,ex⟩:=hx
    exact⟨.v (.int .i64 0),_,run _ _ _ ⟨E,hu⟩ ex,rfl,he⟩
  · next y hu hs=>
    rw[hs]at hx
    have ex:a.eval x= .string y:=hx
    exact⟨.v (.int .i64 y.size),_,by simp[execOp,ho,resolve,invoke,builtin,Builtin.len_,ex,run_underlying hu,Result.andThen,goInt],rfl,he⟩
  · exact he.elim
theorem Rt (h:Cx P w ω ρ M a) {o:Oper} {mx:Bool} {x y:Operand} {ts:Array TypeId} {K:SV->Prop} (ho:o.op= .call {callee:= .builtin (if mx then .max else .min),args:= #[x,y],argTypes:=ts})
    (he:(E3 mx [ρ x,ρ y]).run K):fR P w ω a o K:=by
  have hx:=h.val x
  have hy:=h.val y
  unfold E3 at he
  split at he
  · next k m k' n hl=>
    obtain⟨J,h2⟩:ρ x= .v (.int k m)/\ρ y= .v (.int k' n):=by simpa using hl
    rw[J]at hx;rw[h2]at hy
    have ex:a.eval x= .int k m:=hx
    have ey:a.eval y= .int k' n:=hy
    split at he
    · next hk=>
      exact⟨.v (.int k (max m n)),.int k (max m n),by
        simp[execOp,ho,resolve,invoke,builtin,Builtin.max_,Builtin.max2,ex,ey]
        split<;>omega,rfl,he⟩
    · next hk=>
      exact⟨.v (.int k (min m n)),.int k (min m n),by
        simp[execOp,ho,resolve,invoke,builtin,Builtin.min_,Builtin.min2,ex,ey]
        split<;>omega,rfl,he⟩
    · exact he.elim
  · exact he.elim
theorem aa2 (h:Cx P w ω ρ M a) {o:Oper} {T:TypeId} {x:Operand} {j:Nat} {K:SV->Prop} (ho:o.op= .field T x j)
    (he:(Iw P T (ρ x) j).run K):fR P w ω a o K:=by
  have hx:=h.val x
  unfold Iw at he
  split at he
  · next fs n f hu hs=>
    rw[hs]at hx
    split at he
    · next fd zx=>
      split at he
      · next t ht=>
        obtain⟨cs,ex,hr⟩:=hx
        obtain⟨v,hv0,hv⟩:=AV ht ⟨cs,rfl,hr⟩
        exact⟨t,v,by simp[execOp,ho,Instr.field,run_underlying hu,zx,ex,asAgg,hv0 w,Result.andThen],hv,he⟩
      · exact he.elim
    · exact he.elim
  · exact he.elim
theorem aeQ (h:Cx P w ω ρ M a) {o:Oper} {T:TypeId} {lit:Bool} {x y:Operand} {K:SV->Prop} (ho:o.op= .index T x y)
    (he:(JF P T lit (ρ x) (ρ y)).run K):fR P w ω a o K:=by
  have hx:=h.val x
  have hy:=h.val y
  unfold JF at he
  split at he
  · next s k z hu hs ht=>
    rw[hs]at hx;rw[ht]at hy
    have ex:a.eval x= .string s:=hx
    have ey:a.eval y= .int k z:=hy
    obtain⟨⟨h0,J⟩,hK⟩:=he
    have av:z.toNat<s.size:=by omega
    have Jw:z.toNat<s.data.toList.length:=by simpa using av
    refine⟨.v (.int .u8 (s.data.toList.getD z.toNat 0).toNat),.int .u8 (s.data.toList.getD z.toNat 0).toNat,?_,rfl,hK⟩
    have e1:s[z.toNat]? =some (s.data.toList.getD z.toNat 0):=by
      rw[List.getD_eq_getElem?_getD,List.getElem?_eq_getElem Jw]
      rw[getElem?_pos s z.toNat av]
      rfl
    simp[execOp,ho,ex,ey,Instr.index,asIntOf,run_underlying hu,h0,e1,Result.andThen]
  · next len E n f k z hu hs ht=>
    rw[hs]at hx;rw[ht]at hy
    have ey:a.eval y= .int k z:=hy
    split at he
    · next i d hi hd=>
      split at he
      · next J h2 h3=>
        have h2:=Nat.eq_of_beq_eq_true h2
        have h3:=Nat.eq_of_beq_eq_true h3
        obtain⟨cs,ex,hn,hj⟩:=hx
        have bV:(sizeOf E).run P w= .ok i.size w:=by simp[sizeOf,run_typeInfo w hi,Result.andThen]
        have ha:(isAgg E).run P w= .ok false w:=by
          simp only[isAgg,Sem.run_bind,run_underlying hd,Result.andThen]
          cases d<;>simp[oM]at J<;>simp
        have key:0<=z->z<len-> ∃u,(execOp a.eval o).run P w= .ok (.value u) w/\Den w ω (f z.toNat) u:=by
          intro g0 g1
          obtain⟨u,e1,hu1⟩:=hj z.toNat (by rw[h2,h3];omega)
          exact⟨u,by simp[execOp,ho,ex,ey,Instr.index,asIntOf,run_underlying hu,g0,g1,bV,h3,part,ha,e1,Result.andThen],hu1⟩
        split at he
        · obtain⟨⟨g0,g1⟩,hK⟩:=he
          obtain⟨u,r1,r2⟩:=key g0 g1
          exact⟨_,u,r1,r2,hK⟩
        · next kk=>
          split at he
          · next l hl=>
            obtain⟨⟨g0,g1⟩,hK⟩:=he
            obtain⟨u,r1,r2⟩:=key g0 g1
            have hl:=xW hl
            have hq:=congrArg (λl=>l[z.toNat]?) hl
            simp only[List.getElem?_map,List.getElem?_range (show z.toNat<len by omega),Option.map_some]at hq
            cases mL:l[z.toNat]? with
            |none=>rw[mL]at hq;cases hq
            |some y=>
             rw[mL]at hq
             simp only[Option.map_some,Option.some.injEq]at hq
             have nC:gQ l z.toNat=y:=by simp[gQ,List.getD_eq_getElem?_getD,mL]
             exact⟨_,u,r1,by rw[nC,<-hq];exact r2,hK⟩
          · exact he.elim
        · exact he.elim
      · exact he.elim
    · exact he.elim
  · exact he.elim
theorem N3 {d:Int} {lo:Option Operand} {z:Int} (h:Cx P w ω ρ M a) (hl:qQ d (lo.map ρ)=some z):
    (lo=none/\z=d)\/ ∃x k,lo=some x/\a.eval x= .int k z:=by
  cases lo with
  |none=>simp[qQ]at hl;exact .inl ⟨rfl,hl.symm⟩
  |some x=>
   have hx:=h.val x
   simp only[Option.map_some,qQ]at hl
   split at hl
   · next e=>cases e
   · next k z' e=>
     obtain rfl:=Option.some.inj hl
     have e:=Option.some.inj e
     rw[e]at hx
     exact .inr ⟨x,k,rfl,hx⟩
   · cases hl
theorem GF (h:Cx P w ω ρ M a) {lo hi:Option Operand} {l hh:Int} {n cap:Nat} {sl:Bool} (hl:qQ 0 (lo.map ρ)=some l) (tJ:qQ n (hi.map ρ)=some hh) (g0:0<=l) (g1:l<=hh) (g2:hh<=n) (jF:n<=cap):
    (Instr.sliceBounds sl n cap (lo.map a.eval) (hi.map a.eval) none).run P w= .ok (l.toNat,hh.toNat,cap) w:=by
  rcases N3 h hl with⟨rfl,rfl⟩|⟨y,k,rfl,ey⟩<;>rcases N3 h tJ with⟨rfl,rfl⟩|⟨y2,k2,rfl,Vx⟩
  · simp[Instr.sliceBounds]
  · simp[Instr.sliceBounds,Instr.sliceBound,Vx,asIntOf,Result.andThen,show(0:Int)<=hh by omega,show hh<=cap by omega]
  · simp[Instr.sliceBounds,Instr.sliceBound,ey,asIntOf,Result.andThen,g0,show l<=n by omega]
  · simp[Instr.sliceBounds,Instr.sliceBound,ey,Vx,asIntOf,Result.andThen,g0,show(0:Int)<=hh by omega,show hh<=cap by omega,show l<=max hh 0 by omega]
theorem Zk (h:Cx P w ω ρ M a) {o:Oper} {T:TypeId} {x:Operand} {lo hi:Option Operand} {K:SV->Prop} (ho:o.op= .slice T x lo hi none)
    (he:(HP P T (ρ x) (lo.map ρ) (hi.map ρ) (ae M)).run K):fR P w ω a o K:=by
  have hx:=h.val x
  unfold HP at he
  split at he
  · next E q sz n f hu hs=>
    rw[hs]at hx
    split at he
    · next i l hh lg hl tJ=>
      split at he
      · next bV=>
        have bV:=Nat.eq_of_beq_eq_true bV
        obtain⟨⟨g0,g1,g2⟩,hK⟩:=he
        obtain⟨p,cap,ex,jF,iH,hj⟩:=hx
        have gB:(sizeOf E).run P w= .ok i.size w:=by simp[sizeOf,run_typeInfo w lg,Result.andThen]
        have hb:=GF (P:=P) (sl:=true) h hl tJ g0 g1 g2 jF
        refine⟨.sl q sz (hh.toNat -l.toNat) λi j=>f (l.toNat+i) j,.slice (if cap=l.toNat then p else p.map (·.add (l.toNat*i.size))) (hh.toNat -l.toNat) (cap -l.toNat),?_,?_,hK⟩
        · simp only[execOp,ho,ex,Instr.sliceAt,Instr.slice,Sem.run_bind,run_underlying hu,Result.andThen_ok,Option.map_none,hb,gB]
          rfl
        · refine⟨_,_,rfl,by omega,by omega,?_⟩
          by_cases hz:hh.toNat -l.toNat=0
          · exact .inl hz
          · right
            have hc:cap≠l.toNat:=by omega
            obtain⟨ad,rfl,hk⟩:=hj.resolve_left (by omega)
            refine⟨ad.add (l.toNat*i.size),by simp[hc],λi' lg j la=>?_⟩
            obtain⟨u,e1,e2,e3⟩:=hk (l.toNat+i') (by omega) j la
            refine⟨u,?_,by rw[iM];exact e2,e3⟩
            rw[add_add,show l.toNat*i.size+(i'*sz+j)=(l.toNat+i')*sz+j by rw[bV,Nat.add_mul];omega]
            exact e1
      · exact he.elim
    · exact he.elim
  · next E k st p e n hu hs=>
    rw[hs]at hx
    split at he
    · next i l hh lg hl tJ=>
      split at he
      · next r bF hr=>
        split at he
        · next bV=>
          have bV:=Nat.eq_of_beq_eq_true bV
          obtain⟨⟨g0,g1,g2⟩,hK⟩:=he
          have e0:st=Sy.st ω.cur k p:=by
            rw[h.mem.cur]
            cases p with
            |none=>exact Nat.eq_of_beq_eq_true bF
            |some _=>exact Nat.eq_of_beq_eq_true bF
          rcases hx with hx|⟨_,q,cap,ex,jF,iH,hx⟩
          · omega
          have gB:(sizeOf E).run P w= .ok i.size w:=by simp[sizeOf,run_typeInfo w lg,Result.andThen]
          have hb:=GF (P:=P) (sl:=true) h hl tJ g0 g1 g2 jF
          refine⟨.aO k st p (e+l.toNat) (hh.toNat -l.toNat),.slice (if cap=l.toNat then q else q.map (·.add (l.toNat*i.size))) (hh.toNat -l.toNat) (cap -l.toNat),?_,Or.inr ⟨e0,_,_,rfl,by omega,by omega,?_⟩,hK⟩
          · simp only[execOp,ho,ex,Instr.sliceAt,Instr.slice,Sem.run_bind,run_underlying hu,Result.andThen_ok,Option.map_none,hb,gB]
            rfl
          · by_cases hc:cap=l.toNat
            · left;omega
            · right
              rcases hx with hx|⟨L,hL,rfl,FN,hx3⟩
              · omega
              obtain⟨r',y1,y2,y3,_⟩:=h.mem.row _ _ _ hL
              obtain rfl:r=r':=Option.some.inj (hr.symm.trans y1)
              refine⟨L,hL,?_,?_,by omega⟩
              · simp[hc,lG,bV,y2,Nat.add_mul,Nat.add_assoc]
              · rw[show e+l.toNat+(cap -l.toNat)=e+cap by omega];exact FN
        · exact he.elim
      · exact he.elim
    · exact he.elim
  · next len E k st p ii j hu hs=>
    rw[hs]at hx
    split at he
    · next i lg hl tJ bF=>
      split at he
      · next J h2 h3=>
        have h2:0<len:=Nat.le_of_ble_eq_true h2
        have h3:len<=1000000:=Nat.le_of_ble_eq_true h3
        obtain⟨e0,L,hL,hc,ex⟩:=ir h.mem bF hx
        have hl:lo=none:=by cases lo<;>simp at hl;rfl
        have hh:hi=none:=by cases hi<;>simp at tJ;rfl
        subst hl;subst hh
        refine⟨.sa k st p ii j len,.slice (some ⟨L.b,L.o+ii*L.sz+j,none⟩) len len,?_,Or.inr ⟨e0,L,hL,hc,by unfold maxLen;omega,rfl⟩,he⟩
        have gB:(sizeOf E).run P w= .ok i.size w:=by simp[sizeOf,run_typeInfo w lg,Result.andThen]
        simp[execOp,ho,ex,Instr.sliceAt,Instr.sureAddr,Instr.sliceBounds,run_underlying hu,gB,Result.andThen,Addr.add]
      · exact he.elim
    · exact he.elim
  · next s hu hs=>
    rw[hs]at hx
    have ex:a.eval x= .string s:=hx
    split at he
    · next l hh hl tJ=>
      obtain⟨⟨g0,g1,g2⟩,hK⟩:=he
      have hb:=GF (P:=P) (sl:=false) h hl tJ g0 g1 g2 (Nat.le_refl _)
      refine⟨.v (.string (s.extract l.toNat hh.toNat)),.string (s.extract l.toNat hh.toNat),?_,rfl,hK⟩
      simp only[execOp,ho,ex,Instr.sliceAt,Instr.slice,Sem.run_bind,run_underlying hu,Result.andThen_ok,Option.map_none,Option.isSome_none,Bool.false_eq_true,if_false,hb]
      rfl
    · exact he.elim
  · exact he.elim
theorem Ym (h:Cx P w ω ρ M a) {o:Oper} {fn:Fn} {first gx:Array Operand} {K:SV->Prop} (ho:o.op= .makeFunc fn first gx)
    (he:(Hh fn (first.toList.map ρ) (gx.toList.map ρ)).run K):fR P w ω a o K:=by
  unfold Hh at he
  split at he
  · next id hf=>
    have hf:first= #[]:=by
      obtain⟨l⟩:=first
      simpa using hf
    refine⟨.fn id (gx.toList.map ρ).length (aL (gx.toList.map ρ)),.func (.func id) #[] (gx.map a.eval),by simp[execOp,ho,Instr.makeFunc,hf],⟨_,rfl,by simp,λj hj=>?_⟩,he⟩
    have hj:j<gx.size:=by simpa using hj
    exact⟨a.eval gx[j],by simp[hj],by
      have:=h.val gx[j]
      simpa [aL,List.getD_eq_getElem?_getD,hj]using this⟩
  · next id s hf=>
    split at he
    · next hc=>
      have hc:gx= #[]:=by
        obtain⟨l⟩:=gx
        simpa using hc
      obtain⟨l⟩:=first
      match l,hf with
      | [x],hf=>
        have hf:ρ x=s:=by simpa using hf
        subst hf
        exact⟨.bm id (ρ x),.func (.func id) #[a.eval x] #[],by simp[execOp,ho,Instr.makeFunc,hc],⟨_,rfl,h.val x⟩,he⟩
    · exact he.elim
  · next nm s hf=>
    split at he
    · next hc=>
      have hc:gx= #[]:=by
        obtain⟨l⟩:=gx
        simpa using hc
      obtain⟨l⟩:=first
      match l,hf with
      | [x],hf=>
        have hf:ρ x=s:=by simpa using hf
        subst hf
        exact⟨.mv nm (ρ x),.func (.method nm) #[a.eval x] #[],by simp[execOp,ho,Instr.makeFunc,hc],⟨_,rfl,h.val x⟩,he⟩
    · exact he.elim
  · exact he.elim
theorem HS (hm:aR w ω M) {k s:Nat} {p:Path} {R:Loc->Prop} (h:cD (ae M) k s p=true) (ha:At ω k s p R) {u:Value} (hu: ∀L,R L->u.cells= #[u]):u.cells= #[u]:=by
  obtain⟨_,L,_,hR⟩:=ir hm h ha
  exact hu L hR
theorem kO (hm:aR w ω M) {k s:Nat} {p:Path} (h:cD (ae M) k s p=true):s=st ω.cur k p:=by
  rw[hm.cur]
  cases p with
  |none=>exact Nat.eq_of_beq_eq_true h
  |some _=>exact Nat.eq_of_beq_eq_true h
theorem Az (hm:aR w ω M) {s:SV} {u:Value} {l:List SV} (h:rH (ae M) s=some l) (hd:Den w ω s u):b_ w ω l u.cells.toList:=by
  have one: ∀{s:SV},Den w ω s u->u.cells= #[u]->b_ w ω [s] u.cells.toList:=λh e=>by rw[e];exact⟨h,trivial⟩
  cases s with
  |es=>
   obtain rfl:=Option.some.inj h
   have Cg:=hd
   obtain⟨p,rfl⟩:=Cg
   exact one hd rfl
  |ag n f=>
   obtain rfl:=Option.some.inj h
   obtain⟨cs,rfl,hn,hj⟩:=hd
   refine b_.mk (by simp[Value.cells,hn]) λi hi=>?_
   obtain⟨x,J,h2⟩:=hj i (by simpa using hi)
   have lg:i<n:=by simpa using hi
   refine⟨x,by simpa [Value.cells]using J,?_⟩
   rw[List.getD_eq_getElem?_getD,List.getElem?_map,List.getElem?_range lg]
   exact h2
  |v x=>
   have Cg:=hd
   obtain rfl:u=x:=Cg
   cases u with
   |agg cs=>
    obtain rfl:=Option.some.inj h
    refine b_.mk (by simp[Value.cells]) λi hi=>?_
    have lg:i<cs.size:=by simpa using hi
    refine⟨cs[i],by simp[Value.cells,lg],?_⟩
    rw[List.getD_eq_getElem?_getD,List.getElem?_map]
    simp[lg,Den]
   |tuple cs=>cases h
   |_=>obtain rfl:=Option.some.inj h;exact one hd rfl
  |aF=>cases h
  |tp n f=>cases h
  |il sz n f=>cases h
  |ptr k st p i j=>
   simp only[rH]at h
   split at h
   · next bF=>obtain rfl:=Option.some.inj h;exact one hd (HS hm bF hd λL hR=>by rw[hR.2];rfl)
   · cases h
  |pe k st p i j len z=>
   simp only[rH]at h
   split at h
   · next bF=>obtain rfl:=Option.some.inj h;exact one hd (HS hm bF hd λL hR=>by rw[hR.2.2];rfl)
   · cases h
  |sa k st p i j n=>
   simp only[rH]at h
   split at h
   · next bF=>obtain rfl:=Option.some.inj h;exact one hd (HS hm bF hd λL hR=>by rw[hR.2.2];rfl)
   · cases h
  |aO k st p e n=>
   simp only[rH]at h
   split at h
   · next bF=>
     obtain rfl:=Option.some.inj h
     have e0:=kO hm bF
     refine one hd ?_
     rcases hd with hd|⟨_,q,cap,rfl,_⟩
     · omega
     · rfl
   · cases h
  |bl b=>obtain rfl:=Option.some.inj h;exact one hd (by obtain rfl:=hd;rfl)
  |pt q n f=>obtain rfl:=Option.some.inj h;exact one hd (by obtain⟨_,rfl,_⟩:=hd;rfl)
  |sl q sz n f=>obtain rfl:=Option.some.inj h;exact one hd (by obtain⟨_,_,rfl,_⟩:=hd;rfl)
  |pa q sz n f=>obtain rfl:=Option.some.inj h;exact one hd (by obtain⟨_,rfl,_⟩:=hd;rfl)
  |fn id n f=>obtain rfl:=Option.some.inj h;exact one hd (by obtain⟨_,rfl,_⟩:=hd;rfl)
  |bm id s=>obtain rfl:=Option.some.inj h;exact one hd (by obtain⟨_,rfl,_⟩:=hd;rfl)
  |mv nm s=>obtain rfl:=Option.some.inj h;exact one hd (by obtain⟨_,rfl,_⟩:=hd;rfl)
  |ic t s=>obtain rfl:=Option.some.inj h;exact one hd (by obtain⟨_,rfl,_⟩:=hd;rfl)
  |er t tf e at_=>obtain rfl:=Option.some.inj h;exact one hd (by rcases hd with⟨_,_,rfl⟩|⟨_,_,rfl⟩|⟨_,_,_,rfl,_⟩<;>rfl)
theorem Mo: ∀(cs:List SV) (vs:List Value),b_ w ω cs vs-> ∀(off:Nat) (l:List SV) (m:Array Value),b_ w ω l m.toList->
    b_ w ω (qv l off cs) (((vs.zipIdx off).foldl (λ(m:Array Value) (p:Value×Nat)=>m.setIfInBounds p.2 p.1) m).toList)
  | [],[],_,_,_,_,h=>by simpa [qv]using h
  |c::r,v::t,⟨J,h2⟩,off,l,m,h=>by
   simp only[qv,List.zipIdx_cons,List.foldl_cons]
   exact Mo r t h2 (off+1) _ _ (by rw[Array.toList_setIfInBounds];exact h.set J off)
  | [],_::_,hd,_,_,_,_=>hd.elim
  |_::_,[],hd,_,_,_,_=>hd.elim
theorem W6 (l:List Value): ∀(k off:Nat) (m:Array Value),(l.zipIdx k).foldl (λ(m:Array Value) (p:Value×Nat)=>m.setIfInBounds (off+p.2) p.1) m=(l.zipIdx (off+k)).foldl (λ(m:Array Value) (p:Value×Nat)=>m.setIfInBounds p.2 p.1) m:=by
  induction l with
  |nil=>intros;rfl
  |cons v t ih=>intro k off m;simp only[List.zipIdx_cons,List.foldl_cons];rw[ih];rfl
theorem Hg (hm:aR w ω M) {place:Nat->Option (Nat×Nat)}: ∀(ps:List (Nat×SV)) (vs:List (Nat×Value)),ps.length=vs.length->(∀(i:Nat) (s:Nat×SV),ps[i]? =some s-> ∃u,vs[i]? =some (s.1,u)/\Den w ω s.2 u)->
    ∀(l l':List SV) (m:Array Value),b_ w ω l m.toList->qy (ae M) place l ps=some l'-> ∃m',Instr.fill place m vs=some m'/\b_ w ω l' m'.toList
  | [],[],_,_,l,l',m,h,e=>by
    simp[qy]at e;subst e
    exact⟨m,rfl,h⟩
  | [],_::_,hl,_,_,_,_,_,_=>by simp at hl
  |_::_,[],hl,_,_,_,_,_,_=>by simp at hl
  |(k,s)::r,(k',v)::t,hl,hp,l,l',m,h,e=>by
   obtain⟨u,e1,hu⟩:=hp 0 (k,s) rfl
   simp at e1
   obtain⟨rfl,rfl⟩:=e1
   unfold qy at e
   split at e
   · next off size cs js kD=>
     split at e
     · next J h2=>
       have J:=Nat.eq_of_beq_eq_true J
       have h2:=Nat.le_of_ble_eq_true h2
       have hd:=Az hm kD hu
       have hlen:=hd.len
       have iH:=h.len
       have bV:v.cells.size=size:=by rw[<-Array.length_toList,<-hlen,J]
       have lb:Instr.fill place m ((k',v)::t)=Instr.fill place (v.cells.zipIdx.foldl (λcs (p:Value×Nat)=>cs.setIfInBounds (off+p.2) p.1) m) t:=by
         simp only[Instr.fill,js]
         rw[if_neg]
         simp only[Bool.or_eq_true,decide_eq_true_eq,not_or,bV]
         simp at iH
         refine⟨by simp,by omega⟩
       rw[lb]
       refine Hg hm r t (by simpa using hl) (λi s hs=>hp (i+1) s (by simpa using hs)) _ l' _ ?_ e
       rw[<-Array.foldl_toList,Array.toList_zipIdx,W6]
       exact Mo cs _ hd off l m h
     · cases e
   · cases e
theorem acQ (l:List Value):b_ w ω (l.map .v) l:=by
  induction l with
  |nil=>trivial
  |cons x r ih=>exact⟨rfl,ih⟩
theorem Zl (h:Cx P w ω ρ M a) {o:Oper} {T:TypeId} {parts:Array (Nat×Operand)} {K:SV->Prop} (ho:o.op= .build T parts)
    (he:(HQ P T (parts.toList.map λp=>(p.1,ρ p.2)) (ae M)).run K):fR P w ω a o K:=by
  have It: ∀(i:Nat) (s:Nat×SV),(parts.toList.map λp=>(p.1,ρ p.2))[i]? =some s-> ∃u,(parts.toList.map λp=>(p.1,a.eval p.2))[i]? =some (s.1,u)/\Den w ω s.2 u:=by
    intro i s hs
    rw[List.getElem?_map]at hs
    cases hp:parts.toList[i]? with
    |none=>rw[hp]at hs;cases hs
    |some p=>
     rw[hp]at hs
     obtain rfl:=Option.some.inj hs
     exact⟨a.eval p.2,by rw[List.getElem?_map,hp];rfl,h.val p.2⟩
  have fin: ∀{place:Nat->Option (Nat×Nat)} {z:Value} {l:List SV},qy (ae M) place (z.cells.toList.map .v) (parts.toList.map λp=>(p.1,ρ p.2))=some l->
   ∃m,Instr.fill place z.cells (parts.toList.map λp=>(p.1,a.eval p.2))=some m/\Den w ω (.ag l.length (aL l)) (.agg m):=by
    intro place z l hl
    obtain⟨m,J,h2⟩:=Hg h.mem _ _ (by simp) It _ _ _ (acQ z.cells.toList) hl
    refine⟨m,J,m,rfl,by simpa using h2.len.symm,λj hj=>?_⟩
    obtain⟨x,e1,e2⟩:=h2.get? j hj
    exact⟨x,by simpa using e1,e2⟩
  unfold HQ at he
  split at he
  · next i fs hi hu=>
    split at he
    · next z pl hz js=>
      split at he
      · next l hl=>
        obtain⟨m,J,h2⟩:=fin hl
        refine⟨_,.agg m,?_,h2,he⟩
        have xq:(zeroValue T).run P w= .ok z w:=by simp[zeroValue,run_typeInfo w hi,hz,Result.andThen]
        simp[execOp,ho,Instr.build,xq,run_underlying hu,Array.mapM_eq_mapM_toList,run_places w _ _ js,J]
      · exact he.elim
    · exact he.elim
  · next i len E hi hu=>
    split at he
    · next z ie hz hie=>
      split at he
      · next l hl=>
        obtain⟨m,J,h2⟩:=fin hl
        refine⟨_,.agg m,?_,h2,he⟩
        have xq:(zeroValue T).run P w= .ok z w:=by simp[zeroValue,run_typeInfo w hi,hz,Result.andThen]
        have hs:(sizeOf E).run P w= .ok ie.size w:=by simp[sizeOf,run_typeInfo w hie,Result.andThen]
        simp only[execOp,ho,Instr.build,Sem.run_bind,xq,run_underlying hu,Result.andThen_ok,hs]
        simp[J]
      · exact he.elim
    · exact he.elim
  · exact he.elim
end
end Go.Sy
set_option linter.unusedVariables false
set_option linter.unusedSimpArgs false
namespace Go.Sy
open Go.RowKit
def Rs (P:Program) (sg:Bool) (op:BinOp) (T:TypeId) (y:Operand) (s t:SV):R:=
  match s with
  | .ag _ _=>I6 P op T s t
  |_=>I7 P sg op T y s t
def xl (P:Program) (sg:Bool) (ρ:Operand->SV) (m:Nat->bk) (op:Op):R:=
  match op with
  | .move x| .assign x=> .ok (ρ x)
  | .load T x=>A9 P T (ρ x) m
  | .fieldAddr S x j=>ym P S (ρ x) j m
  | .indexAddr T x y=>A5 P T (Kb y) (ρ x) (ρ y) m
  | .binOp op T x y _=>Rs P sg op T y (ρ x) (ρ y)
  | .unOp op _ x=>JE sg op (ρ x)
  | .convert S D x=>Iv P sg S D (ρ x)
  | .makeInterface T x=>GR P T (ρ x)
  | .extract x i=>AH (ρ x) i
  | .nilCheck x=>GD P (ρ x) m
  | .field T x j=>Iw P T (ρ x) j
  | .index T x y=>JF P T (Kb y) (ρ x) (ρ y)
  | .slice T x lo hi none=>HP P T (ρ x) (lo.map ρ) (hi.map ρ) m
  | .makeFunc fn first gx=>Hh fn (first.toList.map ρ) (gx.toList.map ρ)
  | .build T parts=>HQ P T (parts.toList.map λp=>(p.1,ρ p.2)) m
  | .call {callee:= .builtin .len,args:=⟨[x]⟩,argTypes:=⟨[T]⟩}=>I8 P T (ρ x) m
  | .call {callee:= .builtin .max,args:=⟨[x,y]⟩,argTypes:=_}=>E3 true [ρ x,ρ y]
  | .call {callee:= .builtin .min,args:=⟨[x,y]⟩,argTypes:=_}=>E3 false [ρ x,ρ y]
  |_=> .bad
section
variable {P:Program} {w:World} {ω:Ow} {ρ:Operand->SV} {M:Mem} {a:Act}
theorem wc (h:Cx P w ω ρ M a) {sg:Bool} {o:Oper} {K:SV->Prop} (he:(xl P sg ρ (ae M) o.op).run K):fR P w ω a o K:=by
  cases ho:o.op<;>rw[ho]at he<;>unfold xl at he<;>try exact he.elim
  case move x=>exact⟨_,_,by simp[execOp,ho],h.val x,he⟩
  case assign x=>exact⟨_,_,by simp[execOp,ho],h.val x,he⟩
  case load T x=>exact aa0 h ho he
  case fieldAddr S x j=>exact NU h ho he
  case indexAddr T x y=>exact Zj h ho he
  case binOp op T x y T'=>
    simp only[Rs]at he
    split at he
    · next n f hs=>exact acN h ho (by simpa only[hs]using he)
    · exact acO h ho he
  case unOp op T x=>exact aeP h ho he
  case convert S D x=>exact aa1 h ho he
  case makeInterface T x=>exact XA h ho he
  case extract x i=>exact XB h ho he
  case nilCheck x=>exact Xe h ho he
  case field T x j=>exact aa2 h ho he
  case index T x y=>exact aeQ h ho he
  case slice T x lo hi mx=>
    cases mx with
    |none=>exact Zk h ho he
    |some _=>exact he.elim
  case makeFunc fn first gx=>exact Ym h ho he
  case build T parts=>exact Zl h ho he
  case call c=>
    split at he
    all_goals first|exact he.elim|(next e=>cases e;done)|skip
    · next x T e=>cases e;exact acP h ho he
    · next x y ts e=>cases e;exact Rt (mx:=true) h ho he
    · next x y ts e=>cases e;exact Rt (mx:=false) h ho he
/-! ### one cell is stored -/
abbrev aX:=List (Nat×bk)
def ov:aX->(Nat->bk)->Nat->bk
  | [],m,k=>m k
  |p::r,m,k=>match Nat.beq p.1 k with|true=>p.2|false=>ov r m k
theorem oE (u:aX) (M:Mem):ov u (ae M)=ae (u++M):=by
  funext k
  induction u with
  |nil=>rfl
  |cons p r ih=>simp only[ov,List.cons_append,ae,ih];cases Nat.beq p.1 k<;>rfl
def oG (m:Nat->bk) (k:Nat):aX:= [(k,⟨(m k).rs+1,(m k).ds+1,none,.dead⟩)]
def iw (m:Nat->bk) (k:Nat) (b:bc):aX:= [(k,⟨(m k).rs,(m k).ds,none,b⟩)]
def px (m:Nat->bk) (k i j:Nat):aX:= [(k,⟨(m k).rs,(m k).ds+1,some (i,j),(m k).b⟩)]
def uK (m:Nat->bk) (k:Nat) (b:bc):aX:= [(k,{m k with b:=b})]
def I9 (m:Nat->bk) (k i j r sz n:Nat) (f:Nat->Nat->SV) (bq n2:Nat) (g:Nat->Nat->SV):aX:=
  (k,⟨(m k).rs,(m k).ds+1,none,.row sz n ((⟨sz,n,f⟩:Row).set i j (.il bq n2 g)).f⟩)::oG m r
def uG (m:Nat->bk) (nx k i j bq n2:Nat) (g:Nat->Nat->SV):aX:=
  let u1:=iw (ov (px m k i j) m) nx (.row bq n2 λa b=>dM (g a b))++px m k i j
  oG (ov u1 m) nx++u1
def Rk:bc->Bool
  | .dead=>true
  |_=>false
def cv (m:Nat->bk) (k:Nat):Bool:=match Rk (m k).b,(m k).hl with|true,none=>true|_,_=>false
def qI (m:Nat->bk):SV->Bool
  | .v (.agg _)| .v (.tuple _)| .aF| .ag _ _| .tp _ _| .il _ _ _=>false
  | .ptr k st p _ _=>cD m k st p
  | .pe k st p _ _ _ _=>cD m k st p
  | .aO k st p _ _=>cD m k st p
  | .sa k st p _ _ _=>cD m k st p
  |_=>true
def D_ (m:Nat->bk) (nx k i j sz n:Nat) (f:Nat->Nat->SV) (r bq n2:Nat) (g:Nat->Nat->SV):Option (Prop×aX):=
  match (m k).hl with
  |none=>
   match f i j with
   | .il pR no go=>
     match Nat.beq pR bq,Nat.beq nx k,Nat.beq nx r,cv m nx with
     |true,false,false,true=>
      let u1:=uG m nx k i j pR no go
      some (∀i',wH bq (f i' j)=true,I9 (ov u1 m) k i j r sz n f bq n2 g++u1)
     |_,_,_,_=>none
   |_=>none
  |some (i0,j0)=>
   match Nat.beq j0 j with
   |true=>some (i0=i/\ ∀i',wH bq (f i' j)=true,I9 m k i j r sz n f bq n2 g)
   |false=>none
def yk:SV->Bool
  | .v (.slice none 0 0)=>true
  | .es=>true
  |_=>false
def yy (m:Nat->bk) (nx k:Nat) (p:Path) (i j:Nat) (v:SV):Option (Prop×aX):=
  match (m k).b,p with
  | .cells l,none=>match Nat.blt j l.length,qI m v with|true,true=>some (True,uK m k (.cells (l.set j v)))|_,_=>none
  | .row sz n f,none=>
    match Nat.blt j sz,cW (f i j)with
    |true,false=>match qI m v with|true=>some (∀i',cW (f i' j)=false,uK m k (.row sz n ((⟨sz,n,f⟩:Row).set i j v).f))|false=>none
    |true,true=>
     match v with
     | .aO r s none e n2=>
       match cD m r s none,Nat.beq e 0,Nat.beq k r,(m r).b with
       |true,true,false,.row bq _ g=>D_ m nx k i j sz n f r bq n2 g
       |_,_,_,_=>none
     |v=>
      match yk v,f i j,Nat.beq (nx+1) k,cv m (nx+1)with
      |true,.il bq _ g0,false,true=>
       let u0:=iw m (nx+1) (.row bq 0 g0)
       match D_ (ov u0 m) nx k i j sz n f (nx+1) bq 0 g0 with
       |some (pr,u)=>some (pr,u++u0)
       |none=>none
      |_,_,_,_=>none
    |_,_=>none
  | .row sz n f,some (i0,j0)=>
    match f i0 j0 with
    | .il bq n2 g=>match Nat.blt j bq,qI m v with|true,true=>some (∀i',wH bq (f i' j0)=true,uK m k (.row sz n ((⟨sz,n,f⟩:Row).set i0 j0 (.il bq n2 ((⟨bq,n2,g⟩:Row).set i j v).f)).f))|_,_=>none
    |_=>none
  |_,_=>none
theorem Zm (hm:aR w ω M) {k:Nat} (h:cv (ae M) k=true) (cZ: ∀p,ω.β k p=none):zb ω M k:=by
  unfold cv at h
  split at h
  · next J h2=>
    refine⟨?_,h2,cZ⟩
    cases hb:(ae M k).b with
    |dead=>rfl
    |cells l=>rw[hb]at J;cases J
    |row a b c=>rw[hb]at J;cases J
  · cases h
theorem Yn (hm:aR w ω M) {k:Nat} (h:(ae M k).b= .dead) (p:Path):ω.β k p=none:=by
  cases hb:ω.β k p with
  |none=>rfl
  |some L=>
   obtain⟨r,J,_⟩:=hm.row k p L hb
   unfold rowAt at J
   rw[h]at J
   cases p with
   |none=>cases J
   |some ij=>obtain⟨i,j⟩:=ij;cases J
theorem mV (hm:aR w ω M) {k:Nat} (h:cv (ae M) k=true):zb ω M k:=by
  refine Zm hm h λp=>Yn hm ?_ p
  unfold cv at h
  split at h
  · next J h2=>
    cases hb:(ae M k).b with
    |dead=>rfl
    |cells l=>rw[hb]at J;cases J
    |row a b c=>rw[hb]at J;cases J
  · cases h
theorem beq_false {a b:Nat} (h:Nat.beq a b=false):a≠b:=λe=>by subst e;rw[Nat.beq_refl]at h;cases h
theorem Dy (hm:aR w ω M) {s:SV} {u:Value} (h:qI (ae M) s=true) (hd:Den w ω s u):u.oneCell'=true:=by
  have ref: ∀{k s:Nat} {p:Path} {R:Loc->Prop},cD (ae M) k s p=true->At ω k s p R->(∀L,R L->u.oneCell'=true)->u.oneCell'=true:=by
    intro k s p R J h2 h3
    obtain⟨_,L,_,hR⟩:=ir hm J h2
    exact h3 L hR
  cases s with
  |aF=>cases h
  |v x=>obtain rfl:=hd;cases u<;>first|rfl|cases h
  |bl b=>obtain rfl:=hd;rfl
  |es=>obtain⟨p,rfl⟩:=hd;rfl
  |ptr k s p i j=>exact ref h hd λL hR=>by rw[hR.2];rfl
  |pe k s p i j len z=>exact ref h hd λL hR=>by rw[hR.2.2];rfl
  |sa k s p i j n=>exact ref h hd λL hR=>by rw[hR.2.2];rfl
  |aO k s p e n=>
   have e0:=kO hm h
   rcases hd with hd|⟨_,q,cap,rfl,_⟩
   · omega
   · rfl
  |pt q n f=>obtain⟨_,rfl,_⟩:=hd;rfl
  |sl q sz n f=>obtain⟨_,_,rfl,_⟩:=hd;rfl
  |pa q sz n f=>obtain⟨_,rfl,_⟩:=hd;rfl
  |il sz n f=>cases h
  |ag n f=>cases h
  |tp n f=>cases h
  |fn id n f=>obtain⟨_,rfl,_⟩:=hd;rfl
  |bm id s=>obtain⟨_,rfl,_⟩:=hd;rfl
  |mv nm s=>obtain⟨_,rfl,_⟩:=hd;rfl
  |ic t s=>obtain⟨_,rfl,_⟩:=hd;rfl
  |er t tf e at_=>rcases hd with⟨_,_,rfl⟩|⟨_,_,rfl⟩|⟨_,_,_,rfl,_⟩<;>rfl
theorem Dg {m:Nat->bk} {s:SV} (h:qI m s=true):cW s=false:=by cases s<;>first|rfl|cases h
def D' (w:World) (ω:Ow) (M:Mem) (w':World) (k:Nat) (p:Path) (u:aX):Prop:=
  ∃ao,bp w ω M w' ao (u++M)/\ao.β k p=ω.β k p
theorem MK (hm:aR w ω M) {nx k i j sz n:Nat} {f:Nat->Nat->SV} {r bq n2 nr:Nat} {g:Nat->Nat->SV} (hb:(ae M k).b= .row sz n f) (lh:k≠r) (hr:(ae M r).b= .row bq nr g)
    {pr:Prop} {u:aX} (he:D_ (ae M) nx k i j sz n f r bq n2 g=some (pr,u)) (hp:pr) {x:Value} (hx:Head ω r none 0 n2 x) {L:Loc} (hL:ω.β k none=some L) (hi:i<L.dh) (hj:j<sz):
    D' w ω M (w.setCell ⟨L.b,L.o+i*L.sz+j,none⟩ x) k none u:=by
  unfold D_ at he
  split at he
  · next kZ=>
    split at he
    · next pR no go Kl=>
      split at he
      · next J h2 h3 h4=>
        have h2:=beq_false h2
        have h3:=beq_false h3
        simp only[Option.some.injEq,Prod.mk.injEq]at he
        obtain⟨rfl,rfl⟩:=he
        have dW:=mV hm h4
        obtain⟨bZ,s1,e1,e2,e3⟩:=bp.Rr hm (Ne.symm h2) dW kZ hb Kl
        obtain⟨jQ,s2,e4,e5⟩:=bp.kill s1.mem nx
        have Kr:kill (fresh (nq M k i j) nx (.row pR no λa b=>dM (go a b))) nx=uG (ae M) nx k i j pR no go++M:=by
          have a1:ov (px (ae M) k i j) (ae M)=ae (nq M k i j):=by rw[oE];rfl
          have a2:ov (iw (ov (px (ae M) k i j) (ae M)) nx (.row pR no λa b=>dM (go a b))++px (ae M) k i j) (ae M)=ae (fresh (nq M k i j) nx (.row pR no λa b=>dM (go a b))):=by
            rw[oE,a1];rfl
          unfold uG
          simp only[a2]
          simp only[oG,iw,a1,px,List.cons_append,List.nil_append]
          rfl
        rw[Kr]at s2
        have gN:ae (uG (ae M) nx k i j pR no go++M) k=⟨(ae M k).rs,(ae M k).ds+1,some (i,j),(ae M k).b⟩:=by
          rw[<-Kr,ki h2];unfold fresh;rw[cC h2,Me]
        have kq:ae (uG (ae M) nx k i j pR no go++M) r=ae M r:=by
          rw[<-Kr,ki h3];unfold fresh;rw[cC h3,De lh]
        have Vw:jQ.β k none=some L:=by rw[e4 _ _ (Ne.symm h2),e3 _ _ (Ne.symm h2) (by simp)];exact hL
        have hLr:jQ.β r none=ω.β r none:=by rw[e4 _ _ (Ne.symm h3),e3 _ _ (Ne.symm h3) (by simp)]
        have FN:Head jQ r none 0 n2 x:=by
          obtain⟨q,cap,y1,y2,y3,y4⟩:=hx
          exact⟨q,cap,y1,y2,y3,by rw[hLr];exact y4⟩
        obtain⟨sC,s3,e6,e7⟩:=bp.fill s2.mem lh (by rw[gN]) (by rw[gN];exact hb) hp (by rw[kq];exact hr) FN Vw hi hj
        refine⟨sC,?_,?_⟩
        · have:=(s1.trans s2).trans s3
          have Jz:Sy.fill (uG (ae M) nx k i j pR no go++M) k i j r sz n f bq n2 g=I9 (ov (uG (ae M) nx k i j pR no go) (ae M)) k i j r sz n f bq n2 g++uG (ae M) nx k i j pR no go++M:=by
            rw[oE];rfl
          rw[Jz]at this
          exact this
        · rw[e6 _ _ lh (by simp),Vw,hL]
      · cases he
    · cases he
  · next i0 j0 kZ=>
    split at he
    · next tI=>
      have tI:=Nat.eq_of_beq_eq_true tI
      simp only[Option.some.injEq,Prod.mk.injEq]at he
      obtain⟨rfl,rfl⟩:=he
      obtain⟨rfl,th⟩:=hp
      subst tI
      obtain⟨sC,s3,e6,e7⟩:=bp.fill hm lh kZ hb th hr hx hL hi hj
      exact⟨sC,s3,e6 _ _ lh (by simp)⟩
    · cases he
theorem AQ (hm:aR w ω M) {k:Nat} {l:List SV} (hb:(ae M k).b= .cells l) {L:Loc} (hL:ω.β k none=some L):L.sz=l.length/\L.dh=1:=by
  obtain⟨r,e1,e2,e3,_⟩:=hm.row k none L hL
  unfold rowAt at e1
  rw[hb]at e1
  obtain rfl:=Option.some.inj e1
  exact⟨e2.symm,e3.symm⟩
theorem Nn (hm:aR w ω M) {nx k:Nat} {p:Path} {i j:Nat} {v:SV} {pr:Prop} {u:aX} (he:yy (ae M) nx k p i j v=some (pr,u)) (hp:pr) {x:Value} (hx:Den w ω v x) (J:x.oneCell'=true)
    {L:Loc} (hL:ω.β k p=some L) (hi:i<L.dh):j<L.sz/\D' w ω M (w.setCell ⟨L.b,L.o+i*L.sz+j,none⟩ x) k p u:=by
  unfold yy at he
  split at he
  · next l hb=>
    obtain⟨c1,c2⟩:=AQ hm hb hL
    split at he
    · next h2 h3=>
      have h2:j<l.length:=Nat.le_of_ble_eq_true h2
      simp only[Option.some.injEq,Prod.mk.injEq]at he
      obtain⟨_,rfl⟩:=he
      exact⟨by omega,ω,bp.putCells hm hb hL hi h2 (Dg h3) hx,rfl⟩
    · cases he
  · next sz n f hb=>
    obtain⟨r0,e1,e2,e3,_⟩:=hm.row k none L hL
    unfold rowAt at e1
    rw[hb]at e1
    obtain rfl:=Option.some.inj e1
    have e2:sz=L.sz:=e2
    split at he
    · next h2 h3=>
      have h2:j<sz:=Nat.le_of_ble_eq_true h2
      split at he
      · next h4=>
        simp only[Option.some.injEq,Prod.mk.injEq]at he
        obtain⟨rfl,rfl⟩:=he
        exact⟨by omega,ω,bp.putRow hm hb hL hi h2 (Dg h4) hx hp,rfl⟩
      · cases he
    · next h2 h3=>
      have h2:j<sz:=Nat.le_of_ble_eq_true h2
      refine⟨by omega,?_⟩
      split at he
      · next r s e n2=>
        split at he
        · next bq nr g h4 h5 h6 h7=>
          have h5:=Nat.eq_of_beq_eq_true h5
          subst h5
          have h6:=beq_false h6
          have e0:=kO hm h4
          rcases hx with hx|⟨_,hx⟩
          · omega
          exact MK hm hb h6 h7 he hp hx hL hi h2
        · cases he
      · split at he
        · next bq _ g0 h4 h5 h6 h7=>
          have h6:=beq_false h6
          dsimp only at he
          split at he
          · next pr0 u0 hs=>
            simp only[Option.some.injEq,Prod.mk.injEq]at he
            obtain⟨rfl,rfl⟩:=he
            have hf:=mV hm h7
            have s1:=bp.dummy hm hf bq 0 g0
            have Cc:fresh M (nx+1) (.row bq 0 g0)=iw (ae M) (nx+1) (.row bq 0 g0)++M:=rfl
            rw[Cc]at s1
            rw[oE]at hs
            obtain⟨pn,Js⟩: ∃pn,x= .slice pn 0 0:=by
              unfold yk at h4
              split at h4
              · exact⟨none,hx⟩
              · exact hx
              · cases h4
            have gN:ae (iw (ae M) (nx+1) (.row bq 0 g0)++M) k=ae M k:=by rw[<-Cc];unfold fresh;rw[cC h6]
            have kq:(ae (iw (ae M) (nx+1) (.row bq 0 g0)++M) (nx+1)).b= .row bq 0 g0:=by rw[<-Cc];unfold fresh;rw[dp]
            obtain⟨jQ,s2,e5⟩:=MK s1.mem (by rw[gN];exact hb) (Ne.symm h6) kq hs hp (x:=x) ⟨pn,0,Js,Nat.le_refl _,Nat.zero_le _,.inl rfl⟩ hL hi h2
            refine⟨jQ,?_,e5⟩
            rw[List.append_assoc]
            exact s1.trans s2
          · cases he
        · cases he
    · cases he
  · next sz n f i0 j0 hb=>
    split at he
    · next bq n2 g hg=>
      split at he
      · next h2 h3=>
        have h2:j<bq:=Nat.le_of_ble_eq_true h2
        simp only[Option.some.injEq,Prod.mk.injEq]at he
        obtain⟨rfl,rfl⟩:=he
        obtain⟨r0,e1,e2,e3,_⟩:=hm.row k _ L hL
        unfold rowAt at e1
        rw[hb]at e1
        have e1:inner ⟨sz,n,f⟩ i0 j0=some r0:=e1
        unfold inner at e1
        simp only[hg]at e1
        obtain rfl:=Option.some.inj e1
        have e2:bq=L.sz:=e2
        exact⟨by omega,ω,bp.Zn hm hb hg hL hi h2 (Dg h3) hx hp,rfl⟩
      · cases he
    · cases he
  · cases he
def yx (m:Nat->bk) (nx k:Nat) (p:Path) (i:Nat):Nat->List SV->Option (Prop×aX)
  |_,[]=>some (True,[])
  |j,[v]=>yy m nx k p i j v
  |j,v::r=>
   match yy m nx k p i j v with
   |some (p1,u1)=>match yx (ov u1 m) (nx+2) k p i (j+1) r with|some (p2,u2)=>some (p1/\p2,u2++u1)|none=>none
   |none=>none
theorem Dm {b off:Nat} {c:Array Value} {T:TypeId} {x:Value} (h:w.heap[b]? =some (Obj.cells c T (0,0))) (av:off<c.size) (J:x.oneCell'=true):(store ⟨b,off,none⟩ x).run P w= .ok () (w.setCell ⟨b,off,none⟩ x):=by
  have hc:w.cell? ⟨b,off,none⟩=some c[off]:=by simp[World.cell?,h,av]
  have hf:w.frozen? ⟨b,off,none⟩=false:=by simp[World.frozen?,h]
  cases x<;>first|(cases J;done)|simp[store,Sem.run,hc,hf]
theorem Nl: ∀(cs:List SV) (us:List Value) {w:World} {ω:Ow} {M:Mem} (hm:aR w ω M) {nx k:Nat} {p:Path} {i j:Nat} {pr:Prop} {u:aX} (he:yx (ae M) nx k p i j cs=some (pr,u)) (hp:pr) (hx:b_ w ω cs us) (J: ∀x∈us,x.oneCell'=true)
    {L:Loc} (hL:ω.β k p=some L) (hi:i<L.dh) {ad:Addr} (q:Nat) (lZ:ad.add q=⟨L.b,L.o+i*L.sz+j,none⟩),∃w',(storeCells ad us q).run P w= .ok () w'/\D' w ω M w' k p u
  | [],[],w,ω,M,hm,nx,k,p,i,j,pr,u,he,hp,hx,J,L,hL,hi,ad,q,lZ=>by
    simp only[yx,Option.some.injEq,Prod.mk.injEq]at he
    obtain⟨_,rfl⟩:=he
    exact⟨w,by simp[storeCells],ω,bp.refl hm,rfl⟩
  |v::r,x::t,w,ω,M,hm,nx,k,p,i,j,pr,u,he,hp,⟨hx,FG⟩,J,L,hL,hi,ad,q,lZ=>by
   have key: ∀{p1:Prop} {u1:aX},yy (ae M) nx k p i j v=some (p1,u1)->p1->(store (ad.add q) x).run P w= .ok () (w.setCell ⟨L.b,L.o+i*L.sz+j,none⟩ x)/\D' w ω M (w.setCell ⟨L.b,L.o+i*L.sz+j,none⟩ x) k p u1:=by
     intro p1 u1 hs gP
     obtain⟨hj,bC⟩:=Nn hm hs gP hx (J x (by simp)) hL hi
     obtain⟨_,_,_,_,c,T,g1,g2,g3,g4⟩:=hm.row _ _ _ hL
     obtain⟨y,y1,_⟩:=g4 i hi j hj
     rw[lZ]
     exact⟨Dm g1 (Array.getElem?_eq_some_iff.1 y1).1 (J x (by simp)),bC⟩
   cases r with
   |nil=>
    cases t with
    |nil=>
     obtain⟨r1,bC⟩:=key (by simpa [yx]using he) hp
     exact⟨_,by simp[storeCells,r1],bC⟩
    |cons _ _=>exact FG.elim
   |cons v2 r2=>
    simp only[yx]at he
    split at he
    · next p1 u1 hs=>
      split at he
      · next p2 u2 fZ=>
        simp only[Option.some.injEq,Prod.mk.injEq]at he
        obtain⟨rfl,rfl⟩:=he
        obtain⟨r1,bZ,s1,e1⟩:=key hs hp.1
        rw[oE]at fZ
        have Jy:ad.add (q+1)=⟨L.b,L.o+i*L.sz+(j+1),none⟩:=by
          rw[<-add_add,lZ,lG];simp[Nat.add_assoc]
        obtain⟨w',r2',jQ,s2,e2⟩:=Nl (v2::r2) t s1.mem fZ hp.2 (FG.ext s1.ext) (λy hy=>J y (by simp[hy])) (e1.trans hL) hi (q+1) Jy
        refine⟨w',by simp[storeCells,r1,r2',Result.andThen],jQ,?_,e2.trans e1⟩
        rw[List.append_assoc]
        exact s1.trans s2
      · cases he
    · cases he
  | [],_::_,_,_,_,_,_,_,_,_,_,_,_,_,_,hx,_,_,_,_,_,_,_=>hx.elim
  |_::_,[],_,_,_,_,_,_,_,_,_,_,_,_,_,hx,_,_,_,_,_,_,_=>hx.elim
end
end Go.Sy
set_option linter.unusedVariables false
set_option linter.unusedSimpArgs false
namespace Go.Sy
open Go.RowKit
section
variable {P:Program} {w:World} {ω:Ow} {ρ:Operand->SV} {M:Mem} {a:Act}
def rQ (P:Program) (w:World) (ω:Ow) (M:Mem) (a:Act) (o:Oper) (s:SV) (u:aX):Prop:=
  ∃n v w' ao,(execOp a.eval o).run P w= .ok n w'/\(n= .value v\/(n= .skip/\v=undef))/\bp w ω M w' ao (u++M)/\Den w' ao s v
structure kA (w:World) (ω:Ow) (w':World) (ao:Ow) (ids:Nat->Prop):Prop where
  cw:Cw w w'
  A: ∀b,ω.A b->ao.A b
  Z:ao.Z=ω.Z
  β: ∀k p,¬ids k->ao.β k p=ω.β k p
  new: ∀k p L,ids k->ao.β k p=some L->w.heap.size<=L.b
  cur:ao.cur=ω.cur
def oJ (P:Program) (w:World) (ω:Ow) (M:Mem) (a:Act) (o:Oper) (s:SV) (u:aX):Prop:=
  ∃n v w' ao,(execOp a.eval o).run P w= .ok n w'/\(n= .value v\/(n= .skip/\v=undef))/\bp w ω M w' ao (u++M)/\Den w' ao s v/\kA w ω w' ao (λk=>k∈u.map (·.1))
theorem oJ.zz {o:Oper} {s:SV} {u:aX} (h:oJ P w ω M a o s u):rQ P w ω M a o s u:=by
  obtain⟨n,v,w',ao,J,h2,h3,h4,_⟩:=h
  exact⟨n,v,w',ao,J,h2,h3,h4⟩
theorem PA {nx:Nat} {ob:Obj} {L:Loc} {u:aX} (hb:L.b=w.heap.size) (hf: ∀p,ω.β nx p=none) (hu:u.map (·.1)= [nx]):kA w ω (w.alloc ob) (ω.add nx L) (λk=>k∈u.map (·.1)) where
  cw:=⟨rfl,rfl,rfl,by simp,λb hb=>Below.heap_alloc _ _ _ hb⟩
  A:=λb h=> .inl h
  Z:=rfl
  β:=λk p hk=>by
   show(if k=nx/\p=none then some L else ω.β k p)=_
   rw[if_neg]
   rintro ⟨rfl,_⟩
   rw[hu]at hk
   exact hk (by simp)
  new:=λk p L' hk h=>by
    have h:(if k=nx/\p=none then some L else ω.β k p)=some L':=h
    rw[hu]at hk
    have hk:k=nx:=by simpa using hk
    subst hk
    split at h
    · obtain rfl:=Option.some.inj h;rw[hb];exact Nat.le_refl _
    · rw[hf]at h;cases h
  cur:=rfl
/-! ### boxes -/
def I3 (m:Nat->bk) (nx:Nat) (s:SV):Option (Prop×SV×aX):=
  match rH m s,cv m nx with
  |some cs,true=>match cs.all λs=>!cW s with|true=>some (True,.ptr nx (m nx).rs none 0 0,iw m nx (.cells cs))|false=>none
  |_,_=>none
def zeroCells (P:Program) (T:TypeId):Option (List SV):=
  match P.info? T with
  |some i=>match i.zero with|some z=>some (z.cells.toList.map .v)|none=>none
  |none=>none
def HJ (P:Program) (m:Nat->bk) (nx:Nat) (T:TypeId):Option (Prop×SV×aX):=
  match zeroCells P T,cv m nx with
  |some cs,true=>some (True,.ptr nx (m nx).rs none 0 0,iw m nx (.cells cs))
  |_,_=>none
def wi (l:List SV) (j len z:Nat) (kk:IntKind) (x:Int) (zs:List Int) (q:Nat):SV:=
  match Nat.ble j q,Nat.blt q (j+len)with
  |true,true=> .v (.int kk (bif Nat.beq (q -j) z then x else gQ zs (q -j)))
  |_,_=>aL l q
def Iu:List SV->Option (IntKind×Int)
  | [.v (.int k x)]=>some (k,x)
  |_=>none
theorem Yl {l:List SV} {k:IntKind} {x:Int} (h:Iu l=some (k,x)):l= [.v (.int k x)]:=by
  unfold Iu at h
  split at h
  · simp only[Option.some.injEq,Prod.mk.injEq]at h
    obtain⟨rfl,rfl⟩:=h;rfl
  · cases h
def HK (P:Program) (m:Nat->bk) (nx:Nat) (T:TypeId) (ad s:SV):Option (Prop×SV×aX):=
  match rH m s,P.info? T with
  |some cs,some i=>
   match Nat.beq cs.length i.size,cs.all (qI m)with
   |true,true=>
    match ad with
    | .ptr k st p ii j=>match cD m k st p with|true=>(match yx m nx k p ii j cs with|some (pr,u)=>some (pr,.aF,u)|none=>none)|false=>none
    | .pe k st p ii j len z=>
      match cD m k st p,(m k).b,p,Iu cs with
      |true,.cells l,none,some (kk,x)=>
       match Nat.ble (j+len) l.length,sL kk ((List.range len).map λq=>aL l (j+q))with
       |true,some zs=>some (True,.aF,uK m k (.cells ((List.range l.length).map (wi l j len z kk x zs))))
       |_,_=>none
      |_,_,_,_=>none
    |_=>none
   |_,_=>none
  |_,_=>none
theorem aaZ (l:List Value):b_ w ω (l.map .v) l:=by
  induction l with
  |nil=>trivial
  |cons x r ih=>exact⟨rfl,ih⟩
theorem N2 (hm:aR w ω M) {nx:Nat} (hf:cv (ae M) nx=true) {cs:List SV} {c:Array Value} {T:TypeId} (hc:b_ w ω cs c.toList) (dn: ∀j,cW (aL cs j)=false):
    ∃ao,bp w ω M (w.alloc (.cells c T)) ao (iw (ae M) nx (.cells cs)++M)/\Den (w.alloc (.cells c T)) ao (.ptr nx (ae M nx).rs none 0 0) (.pointer (some ⟨w.heap.size,0,none⟩))/\kA w ω (w.alloc (.cells c T)) ao (λk=>k∈(iw (ae M) nx (.cells cs)).map (·.1)):=by
  have hlen:=hc.len
  have dW:=mV hm hf
  let L:Loc:=⟨w.heap.size,0,cs.length,1,c.size⟩
  have bM:Ext w ω (w.alloc (.cells c T)) (ω.add nx L):=GQ rfl dW.2.2
  refine⟨ω.add nx L,bp.alloc (r:=⟨cs.length,1,λ_ j=>aL cs j⟩) hm dW rfl rfl (by simp at hlen;show 1*cs.length<=_;omega) (λi hi j hj=>?_),Or.inr ⟨?_,L,by simp[Ow.add],by show 0<1;omega,by simp[L]⟩,PA rfl dW.2.2 rfl⟩
  · have hi:i=0:=by have:i<1:=hi;omega
    subst hi
    have hj:j<cs.length:=hj
    obtain⟨x,e1,e2⟩:=hc.get? j hj
    refine⟨x,by simpa using e1,?_⟩
    show cI _ _ _ _ _ _ (aL cs j) x
    rw[gr (dn j)]
    exact e2.ext bM
  · show _=st ω.cur nx none
    rw[hm.cur];rfl
theorem GL {l:List SV} (h:(l.all λs=>!cW s)=true) (j:Nat):cW (aL l j)=false:=by
  unfold aL
  rw[List.getD_eq_getElem?_getD]
  cases hj:l[j]? with
  |none=>rfl
  |some x=>simpa using List.all_eq_true.1 h x (List.mem_of_getElem? hj)
theorem Rn (h:Cx P w ω ρ M a) {o:Oper} {T:TypeId} {x:Operand} {nx:Nat} {pr:Prop} {s:SV} {u:aX} (ho:o.op= .box T x) (he:I3 (ae M) nx (ρ x)=some (pr,s,u)):oJ P w ω M a o s u:=by
  unfold I3 at he
  split at he
  · next cs kD hf=>
    split at he
    · next dn=>
      simp only[Option.some.injEq,Prod.mk.injEq]at he
      obtain⟨_,rfl,rfl⟩:=he
      obtain⟨ao,J,h2,h3⟩:=N2 (T:=T) h.mem hf (Az h.mem kD (h.val x)) (GL dn)
      exact⟨_,_,_,ao,by simp[execOp,ho,go_sem],.inl rfl,J,h2,h3⟩
    · cases he
  · cases he
theorem Zi (l:List Value) (j:Nat):cW (aL (l.map .v) j)=false:=by
  unfold aL
  rw[List.getD_eq_getElem?_getD,List.getElem?_map]
  cases l[j]? <;>rfl
theorem NS (h:Cx P w ω ρ M a) {o:Oper} {T:TypeId} {nx:Nat} {pr:Prop} {s:SV} {u:aX} (ho:o.op= .alloc T) (he:HJ P (ae M) nx T=some (pr,s,u)):oJ P w ω M a o s u:=by
  unfold HJ at he
  split at he
  · next cs kD hf=>
    simp only[Option.some.injEq,Prod.mk.injEq]at he
    obtain⟨_,rfl,rfl⟩:=he
    unfold zeroCells at kD
    split at kD
    · next i hi=>
      split at kD
      · next z hz=>
        obtain rfl:=Option.some.inj kD
        have xq:(zeroValue T).run P w= .ok z w:=by simp[zeroValue,run_typeInfo w hi,hz,Result.andThen]
        obtain⟨ao,J,h2,h3⟩:=N2 (T:=T) h.mem hf (aaZ z.cells.toList) (Zi _)
        exact⟨_,_,_,ao,by simp[execOp,ho,go_sem,xq],.inl rfl,J,h2,h3⟩
      · cases kD
    · cases kD
  · cases he
theorem Dv (hm:aR w ω M): ∀{cs:List SV} {us:List Value},cs.all (qI (ae M))=true->b_ w ω cs us-> ∀u∈us,u.oneCell'=true
  | [],[],_,_,u,hu=>by cases hu
  |s::r,x::t,h,⟨J,h2⟩,u,hu=>by
   simp only[List.all_cons,Bool.and_eq_true]at h
   rcases List.mem_cons.1 hu with rfl|hu
   · exact Dy hm h.1 J
   · exact Dv hm h.2 h2 u hu
  | [],_::_,_,hd,_,_=>hd.elim
  |_::_,[],_,hd,_,_=>hd.elim
theorem Zc (h:Cx P w ω ρ M a) {o:Oper} {T:TypeId} {x y:Operand} {nx:Nat} {pr:Prop} {s:SV} {u:aX} (ho:o.op= .store T x y) (he:HK P (ae M) nx T (ρ x) (ρ y)=some (pr,s,u)) (hp:pr):rQ P w ω M a o s u:=by
  have hm:=h.mem
  have hx:=h.val x
  unfold HK at he
  split at he
  · next cs i kD hi=>
    have hc:=Az hm kD (h.val y)
    split at he
    · next hlen jE=>
      have hlen:=Nat.eq_of_beq_eq_true hlen
      have J:=Dv hm jE hc
      have bV:(a.eval y).cells.size=i.size:=by rw[<-Array.length_toList,<-hc.len,hlen]
      have fZ:(sizeOf T).run P w= .ok i.size w:=by simp[sizeOf,run_typeInfo w hi,Result.andThen]
      have run: ∀{ad w'},a.eval x= .pointer (some ad)->(storeCells ad (a.eval y).cells.toList).run P w= .ok () w'->(execOp a.eval o).run P w= .ok .skip w':=by
        intro ad w' ex hr
        simp[execOp,ho,ex,Instr.storeAt,Instr.sureAddr,storeVar,fZ,bV,hr,Result.andThen]
      split at he
      · next k st p ii j hs=>
        rw[hs]at hx
        split at he
        · next bF=>
          split at he
          · next Vv u' bC=>
            simp only[Option.some.injEq,Prod.mk.injEq]at he
            obtain⟨rfl,rfl,rfl⟩:=he
            obtain⟨e0,L,hL,j5,ex⟩:=ir hm bF hx
            obtain⟨w',r1,ao,s1,_⟩:=Nl (P:=P) cs _ hm bC hp hc J hL j5 (ad:=⟨L.b,L.o+ii*L.sz+j,none⟩) 0 (by simp[Addr.add])
            exact⟨_,undef,w',ao,run ex r1,.inr ⟨rfl,rfl⟩,s1,trivial⟩
          · cases he
        · cases he
      · next k st p ii j len z hs=>
        rw[hs]at hx
        split at he
        · next l kk xz hb E2 bF=>
          have E2:=Yl E2
          split at he
          · next zs hle gj=>
            have hle:=Nat.le_of_ble_eq_true hle
            simp only[Option.some.injEq,Prod.mk.injEq]at he
            obtain⟨_,rfl,rfl⟩:=he
            obtain⟨e0,L,hL,j5,hz,ex⟩:=ir hm bF hx
            obtain⟨c1,c2⟩:=AQ hm hb hL
            have Kp:ii=0:=by omega
            subst Kp
            obtain⟨y0,Kq⟩: ∃y0,(a.eval y).cells.toList= [y0]:=by
              have:=hc.len
              rw[E2]at this
              match h:(a.eval y).cells.toList,this with
              | [y0],_=>exact⟨y0,rfl⟩
            rw[Kq,E2]at hc
            rw[Kq]at J
            have BZ:y0= .int kk xz:=hc.1
            subst BZ
            obtain⟨_,_,_,_,c,T0,g1,g2,g3,g4⟩:=hm.row _ _ _ hL
            obtain⟨_,y1,_⟩:=g4 0 (by omega) (j+z) (by omega)
            have hr:=Dm (P:=P) g1 (Array.getElem?_eq_some_iff.1 y1).1 (x:= .int kk xz) rfl
            have gj:=xW gj
            refine⟨_,undef,w.setCell ⟨L.b,L.o+0*L.sz+(j+z),none⟩ (.int kk xz),ω,run ex (by rw[Kq];simp only[Nat.zero_mul,Nat.add_zero]at hr⊢;simp[storeCells,Addr.add,hr]),.inr ⟨rfl,rfl⟩,?_,trivial⟩
            refine bp.put hm hL (by omega) (by omega) ⟨rfl,rfl,rfl⟩ (λ_ _=>⟨l,hb⟩) ?_
            intro q r hr
            rw[hb]at hr
            cases q with
            |some ij=>obtain⟨i',j'⟩:=ij;cases hr
            |none=>
             obtain rfl:=Option.some.inj hr
             have get: ∀b,b<l.length->aL ((List.range l.length).map (wi l j len z kk xz zs)) b=wi l j len z kk xz zs b:=by
               intro b hb
               simp[aL,List.getD_eq_getElem?_getD,hb]
             refine⟨⟨((List.range l.length).map (wi l j len z kk xz zs)).length,1,λ_ q=>aL ((List.range l.length).map (wi l j len z kk xz zs)) q⟩,rfl,by simp,rfl,λa0 ha b dC=>⟨?_,?_⟩⟩
             · rintro ⟨_,rfl,rfl⟩ w' oT
               show cI _ _ _ _ _ _ (aL _ (j+z)) _
               have dC:j+z<l.length:=dC
               rw[get _ dC]
               have b1:Nat.ble j (j+z)=true:=Nat.ble_eq_true_of_le (by omega)
               have b2:Nat.blt (j+z) (j+len)=true:=Nat.ble_eq_true_of_le (by omega)
               unfold wi
               rw[b1,b2,show j+z -j=z by omega,Nat.beq_refl]
               rfl
             · intro ba w' yv hy
               show cI _ _ _ _ _ _ (aL _ b) _
               have dC:b<l.length:=dC
               have ha:a0<1:=ha
               rw[get _ dC]
               have hy:cI _ _ _ _ _ _ (aL l b) yv:=hy
               unfold wi
               split
               · next b1 b2=>
                 have b1:=Nat.le_of_ble_eq_true b1
                 have b2:b<j+len:=Nat.le_of_ble_eq_true b2
                 have hq:=congrArg (λl=>l[b -j]?) gj
                 simp only[List.getElem?_map,List.getElem?_range (show b -j<len by omega),Option.map_some]at hq
                 cases mL:zs[b -j]? with
                 |none=>rw[mL]at hq;cases hq
                 |some y2=>
                  rw[mL]at hq
                  simp only[Option.map_some,Option.some.injEq,show j+(b -j)=b by omega]at hq
                  rw[hq]at hy
                  have nC:gQ zs (b -j)=y2:=by simp[gQ,List.getD_eq_getElem?_getD,mL]
                  have hbz:Nat.beq (b -j) z=false:=by
                    cases zw:Nat.beq (b -j) z
                    · rfl
                    · have:=Nat.eq_of_beq_eq_true zw
                      exact absurd ⟨rfl,by omega,by omega⟩ ba
                  rw[hbz,nC]
                  exact hy
               · exact hy
          · cases he
        · cases he
      · cases he
    · cases he
  · cases he
end
end Go.Sy
