/-
  Sy, part 5: arithmetic, tests, aggregates, interfaces, tuples, lengths.
-/
import Derived.Test.YtbngaammbjaajaaGreatDoorYA
import Derived.Laws.MakeOwn
set_option linter.unusedVariables false
set_option linter.unusedSimpArgs false
set_option linter.unusedVariables false
set_option linter.unusedSimpArgs false
namespace Go.Sy
open Go.RowKit
def cT (op:BinOp) (k:IntKind) (x y:Int):Int:=
  match op with
  | .and=>k.wrap (BitVec.ofInt k.bits x&&&BitVec.ofInt k.bits y).toNat
  | .or=>k.wrap (BitVec.ofInt k.bits x|||BitVec.ofInt k.bits y).toNat
  | .xor=>k.wrap (BitVec.ofInt k.bits x^^^BitVec.ofInt k.bits y).toNat
  |_=>k.wrap (BitVec.ofInt k.bits x&&& ~~~BitVec.ofInt k.bits y).toNat
def pQ (k:IntKind) (z:Int):Prop:=k.wrap z=z
def Bk (sg:Bool) (op:BinOp) (k:IntKind) (x y:Int):R:=
  match op with
  | .add=>match sg with|true=> .ok (.v (.int k (k.wrap (x+y))))|false=> .cM (pQ k (x+y)) (.v (.int k (x+y)))
  | .sub=>match sg with|true=> .ok (.v (.int k (k.wrap (x -y))))|false=> .cM (pQ k (x -y)) (.v (.int k (x -y)))
  | .mul=>match sg with|true=> .ok (.v (.int k (k.wrap (x*y))))|false=> .cM (pQ k (x*y)) (.v (.int k (x*y)))
  | .quo=>match sg with|true=> .cM (y≠0) (.v (.int k (k.wrap (x.tdiv y))))|false=> .cM (0<=x/\0<y/\pQ k (x/y)) (.v (.int k (x/y)))
  | .rem=>match sg with|true=> .cM (y≠0) (.v (.int k (x.tmod y)))|false=> .cM (0<=x/\0<y) (.v (.int k (x%y)))
  | .and=> .ok (.v (.int k (cT .and k x y)))
  | .or=> .ok (.v (.int k (cT .or k x y)))
  | .xor=> .ok (.v (.int k (cT .xor k x y)))
  | .andNot=> .ok (.v (.int k (cT .andNot k x y)))
  | .eql=> .ok (.v (.bool (x==y)))
  | .neq=> .ok (.v (.bool (x !=y)))
  | .lss=> .ok (.v (.bool (decide (x<y))))
  | .leq=> .ok (.v (.bool (decide (x<=y))))
  | .gtr=> .ok (.v (.bool (decide (y<x))))
  | .geq=> .ok (.v (.bool (decide (y<=x))))
  |_=> .bad
def AQ (op:BinOp) (k:IntKind) (x y:Int):R:=
  match op with
  | .shl=> .cM (0<=y) (.v (.int k (k.wrap (x*2^(min y.toNat k.bits)))))
  | .shr=> .cM (0<=y) (.v (.int k (x.fdiv (2^(min y.toNat k.bits)))))
  |_=> .bad
def tb:Operand->Bool
  | .const .nilIface=>true
  |_=>false
def BX (op:BinOp) (a b:ByteArray):R:=
  match op with
  | .add=> .cM ((a.size:Int)+b.size<=9223372036854775807) (.v (.string (a++b)))
  | .eql=> .ok (.v (.bool (a.toList==b.toList)))
  | .neq=> .ok (.v (.bool (a.toList !=b.toList)))
  |_=> .bad
def isIface:Option TypeDesc->Bool
  |some (.interface _)=>true
  |_=>false
def qQ (P:Program) (op:BinOp) (T:TypeId) (b:SV) (nb:SV):R:=
  match isIface (P.underlying T),op with
  |true,.eql=> .ok b
  |true,.neq=> .ok nb
  |_,_=> .bad
def Bl (P:Program) (op:BinOp) (T:TypeId) (s t:SV):R:=
  match P.underlying T,kn s,kn t,op with
  |some .bool,some a,some b,.eql=> .ok (.v (.bool (a==b)))
  |some .bool,some a,some b,.neq=> .ok (.v (.bool (a !=b)))
  |_,_,_,_=> .bad
def BU (P:Program) (sg:Bool) (op:BinOp) (T:TypeId) (y:Operand) (s t:SV):R:=
  match s,t with
  | .v (.int k a),.v (.int k' b)=>
    match op with
    | .shl| .shr=>AQ op k a b
    |_=>match oS k k' with|true=>Bk sg op k a b|false=> .bad
  | .v (.string a),.v (.string b)=>BX op a b
  | .er _ _ e _,.v .nilIface=>match tb y with|true=>qQ P op T (.v (.bool (e==0))) (.v (.bool (e !=0)))|false=> .bad
  | .v .nilIface,.v .nilIface=>match tb y with|true=>qQ P op T (.bl true) (.bl false)|false=> .bad
  | .ic _ _,.v .nilIface=>qQ P op T (.bl false) (.bl true)
  | .v (.iface _ _),.v .nilIface=>qQ P op T (.bl false) (.bl true)
  |s,t=>Bl P op T s t
section
variable {P:Program} {w:World} {ω:Ow} {ρ:Operand->SV} {M:Mem} {a:Act}
theorem zj (op:BinOp) (T:TypeId) (x y:Operand) (k k':IntKind) (m n:Int) (w:World):(eqGuard op T x y (.int k m) (.int k' n)).run P w= .ok () w:=by
  unfold eqGuard
  cases op<;>simp
theorem zk (op:BinOp) (T:TypeId) (x y:Operand) (m n:ByteArray) (w:World):(eqGuard op T x y (.string m) (.string n)).run P w= .ok () w:=by
  unfold eqGuard
  cases op<;>simp
theorem D6 (op:BinOp) (T:TypeId) (x y:Operand) (m n:Bool) (w:World):(eqGuard op T x y (.bool m) (.bool n)).run P w= .ok () w:=by
  unfold eqGuard
  cases op<;>simp
theorem Lx (op:BinOp) (T:TypeId) (x y:Operand) (t:TypeId) (m:Value) (w:World):(eqGuard op T x y (.iface t m) .nilIface).run P w= .ok () w:=by
  unfold eqGuard
  cases op<;>simp
theorem LL (op:BinOp) (T:TypeId) (x y:Operand) (hy:tb y=true) (w:World):(eqGuard op T x y .nilIface .nilIface).run P w= .ok () w:=by
  unfold tb at hy
  split at hy
  · unfold eqGuard
    cases op<;>simp
  · cases hy
theorem Ph {x y:Int} (h:0<=x):x.tdiv y=x/y:=Int.tdiv_eq_ediv_of_nonneg h
theorem Pj {x y:Int} (h:0<=x):x.tmod y=x%y:=Int.tmod_eq_emod_of_nonneg h
theorem Pk (sg:Bool) (op:BinOp) (T:TypeId) (k:IntKind) (x y:Int) (K:SV->Prop) (he:(Bk sg op k x y).run K):
    ∃u,(∀w,(binOp op T (.int k x) (.int k y)).run P w= .ok u w)/\K (.v u):=by
  unfold Bk at he
  split at he
  case h_1=>
    cases sg with
    |true=>exact⟨_,λw=>by simp[binOp,Op.intArith],he⟩
    |false=>exact⟨_,λw=>by simp[binOp,Op.intArith,show k.wrap (x+y)=x+y from he.1],he.2⟩
  case h_2=>
    cases sg with
    |true=>exact⟨_,λw=>by simp[binOp,Op.intArith],he⟩
    |false=>exact⟨_,λw=>by simp[binOp,Op.intArith,show k.wrap (x -y)=x -y from he.1],he.2⟩
  case h_3=>
    cases sg with
    |true=>exact⟨_,λw=>by simp[binOp,Op.intArith],he⟩
    |false=>exact⟨_,λw=>by simp[binOp,Op.intArith,show k.wrap (x*y)=x*y from he.1],he.2⟩
  case h_4=>
    cases sg with
    |true=>exact⟨_,λw=>by simp[binOp,Op.intDiv,he.1],he.2⟩
    |false=>
     obtain⟨⟨J,U,h3⟩,h4⟩:=he
     exact⟨_,λw=>by simp[binOp,Op.intDiv,show y≠0 by omega,Ph J,show k.wrap (x/y)=x/y from h3],h4⟩
  case h_5=>
    cases sg with
    |true=>exact⟨_,λw=>by simp[binOp,Op.intDiv,he.1],he.2⟩
    |false=>
     obtain⟨⟨J,U⟩,h4⟩:=he
     exact⟨_,λw=>by simp[binOp,Op.intDiv,show y≠0 by omega,Pj J],h4⟩
  case h_16=>exact he.elim
  all_goals exact⟨_,λw=>by simp[binOp,Op.intArith,Op.intBits,Op.intCmp,cT],he⟩
theorem FR (op:BinOp) (T:TypeId) (k k':IntKind) (x y:Int) (K:SV->Prop) (he:(AQ op k x y).run K):
    ∃u,(∀w,(binOp op T (.int k x) (.int k' y)).run P w= .ok u w)/\K (.v u):=by
  unfold AQ at he
  split at he
  · exact⟨_,λw=>by simp[binOp,Op.shift,Int.not_lt.2 he.1],he.2⟩
  · exact⟨_,λw=>by simp[binOp,Op.shift,Int.not_lt.2 he.1],he.2⟩
  · exact he.elim
theorem iY {o:Oper} {op:BinOp} {T T':TypeId} {x y:Operand} (ho:o.op= .binOp op T x y T') {u v r:Value} (ex:a.eval x=u) (ey:a.eval y=v)
    (hg: ∀w:World,(eqGuard op T x y u v).run P w= .ok () w) (hr: ∀w:World,(binOp op T u v).run P w= .ok r w):(execOp a.eval o).run P w= .ok (.value r) w:=by
  simp[execOp,ho,ex,ey,hg,hr,Result.andThen]
theorem Lz {d:Option TypeDesc} (h:isIface d=true): ∃ms,d=some (.interface ms):=by
  unfold isIface at h
  split at h
  · exact⟨_,rfl⟩
  · cases h
theorem Ed {T:TypeId} (hu:isIface (P.underlying T)=true) (b:Bool) (u:Value) (hb:(b=true/\u= .nilIface)\/(b=false/\ ∃t x,u= .iface t x)) (w:World):
    (Op.equal T u .nilIface).run P w= .ok b w:=by
  obtain⟨ms,hu⟩:=Lz hu
  have J: ∀d:Nat,(Op.equalIn (d+1) T .nilIface .nilIface).run P w= .ok true w:=λd=>by simp[Op.equalIn,run_underlying hu]
  have U: ∀(d:Nat) t x,(Op.equalIn (d+1) T (.iface t x) .nilIface).run P w= .ok false w:=λd t x=>by simp[Op.equalIn,run_underlying hu]
  rcases hb with⟨rfl,rfl⟩|⟨rfl,t,x,rfl⟩
  · simp[Op.equal,Op.maxDepth,J 9999]
  · simp[Op.equal,Op.maxDepth,U 9999]
theorem qw {T:TypeId} {u v:Value} (hk:(∀k n,u≠ .int k n)/\(∀k n,u≠ .float k n)/\(∀k n m,u≠ .complex k n m)/\(∀s,u≠ .string s)):binOp .eql T u v=(do pure (.bool (<-Op.equal T u v)))/\binOp .neq T u v=(do pure (.bool (!(<-Op.equal T u v)))):=by
  obtain⟨J,U,h3,h4⟩:=hk
  constructor<;>(unfold binOp;cases u<;>first|rfl|exact absurd rfl (J _ _)|exact absurd rfl (U _ _)|exact absurd rfl (h3 _ _ _)|exact absurd rfl (h4 _))
theorem qI {o:Oper} {op:BinOp} {T T':TypeId} {x y:Operand} (ho:o.op= .binOp op T x y T') {u:Value} (ex:a.eval x=u) (ey:a.eval y= .nilIface) (b:Bool)
    (hb:(b=true/\u= .nilIface/\tb y=true)\/(b=false/\ ∃t x,u= .iface t x)) {s t:SV} (hs:Den w ω s (.bool b)) (ht:Den w ω t (.bool !b)) {K:SV->Prop} (he:(qQ P op T s t).run K):dD P w ω a o K:=by
  have hg: ∀(op:BinOp) (w:World),(eqGuard op T x y u .nilIface).run P w= .ok () w:=by
    intro op w
    rcases hb with⟨_,rfl,hy⟩|⟨_,t,z,rfl⟩
    · exact LL op T x y hy w
    · exact Lx op T x y t z w
  have dc:(b=true/\u= .nilIface)\/(b=false/\ ∃t x,u= .iface t x):=hb.imp (λh=>⟨h.1,h.2.1⟩) id
  have hk:(∀k n,u≠ .int k n)/\(∀k n,u≠ .float k n)/\(∀k n m,u≠ .complex k n m)/\(∀s,u≠ .string s):=by
    rcases dc with⟨_,rfl⟩|⟨_,t,x,rfl⟩<;>simp
  unfold qQ at he
  split at he
  · next hu=>exact⟨_,.bool b,iY ho ex ey (hg _) (λw=>by rw[(qw hk).1];simp[Ed hu b u dc w,Result.andThen]),hs,he⟩
  · next hu=>exact⟨_,.bool !b,iY ho ex ey (hg _) (λw=>by rw[(qw hk).2];simp[Ed hu b u dc w,Result.andThen]),ht,he⟩
  · exact he.elim
theorem Pl {o:Oper} {op:BinOp} {T T':TypeId} {x y:Operand} (ho:o.op= .binOp op T x y T') {s t:SV} (hx:Den w ω s (a.eval x)) (hy:Den w ω t (a.eval y)) {K:SV->Prop} (he:(Bl P op T s t).run K):dD P w ω a o K:=by
  unfold Bl at he
  split at he
  · next m n hu hs ht=>
    have ex:=iX hs hx
    have ey:=iX ht hy
    have J: ∀(d:Nat) (w:World),(Op.equalIn (d+1) T (.bool m) (.bool n)).run P w= .ok (m==n) w:=λd w=>by simp[Op.equalIn,run_underlying hu]
    exact⟨.v (.bool (m==n)),.bool (m==n),iY ho ex ey (λw=>D6 _ _ _ _ _ _ w) (λw=>by rw[(qw (by simp)).1];simp[Op.equal,Op.maxDepth,J 9999]),rfl,he⟩
  · next m n hu hs ht=>
    have ex:=iX hs hx
    have ey:=iX ht hy
    have J: ∀(d:Nat) (w:World),(Op.equalIn (d+1) T (.bool m) (.bool n)).run P w= .ok (m==n) w:=λd w=>by simp[Op.equalIn,run_underlying hu]
    exact⟨.v (.bool (m !=n)),.bool (m !=n),iY ho ex ey (λw=>D6 _ _ _ _ _ _ w) (λw=>by rw[(qw (by simp)).2];simp[Op.equal,Op.maxDepth,J 9999,bne]),rfl,he⟩
  · exact he.elim
theorem Qx {o:Oper} {op:BinOp} {T T':TypeId} {x y:Operand} (ho:o.op= .binOp op T x y T') {m n:ByteArray} (ex:a.eval x= .string m) (ey:a.eval y= .string n) {K:SV->Prop} (he:(BX op m n).run K):dD P w ω a o K:=by
  unfold BX at he
  split at he
  · exact⟨.v (.string (m++n)),.string (m++n),iY ho ex ey (λw=>zk _ _ _ _ _ _ w) (λw=>by simp[binOp,Op.stringOp,he.1]),rfl,he.2⟩
  · exact⟨.v (.bool (m.toList==n.toList)),.bool (m.toList==n.toList),iY ho ex ey (λw=>zk _ _ _ _ _ _ w) (λw=>by simp[binOp,Op.stringOp]),rfl,he⟩
  · exact⟨.v (.bool (m.toList !=n.toList)),.bool (m.toList !=n.toList),iY ho ex ey (λw=>zk _ _ _ _ _ _ w) (λw=>by simp[binOp,Op.stringOp,bne]),rfl,he⟩
  · exact he.elim
theorem Qt (h:Cx P w ω ρ M a) {sg:Bool} {o:Oper} {op:BinOp} {T T':TypeId} {x y:Operand} {K:SV->Prop} (ho:o.op= .binOp op T x y T')
    (he:(BU P sg op T y (ρ x) (ρ y)).run K):dD P w ω a o K:=by
  have hx:=h.val x
  have hy:=h.val y
  unfold BU at he
  split at he
  · next k m k' n hs ht=>
    rw[hs]at hx;rw[ht]at hy
    have ex:a.eval x= .int k m:=hx
    have ey:a.eval y= .int k' n:=hy
    split at he
    · obtain⟨u,J,U⟩:=FR (P:=P) _ T k k' m n K he
      exact⟨.v u,u,iY ho ex ey (λw=>zj _ _ _ _ _ _ _ _ w) J,rfl,U⟩
    · obtain⟨u,J,U⟩:=FR (P:=P) _ T k k' m n K he
      exact⟨.v u,u,iY ho ex ey (λw=>zj _ _ _ _ _ _ _ _ w) J,rfl,U⟩
    · next J U=>
      split at he
      · next hk=>
        obtain rfl:=su hk
        obtain⟨u,h3,h4⟩:=Pk (P:=P) sg op T k m n K he
        exact⟨.v u,u,iY ho ex ey (λw=>zj _ _ _ _ _ _ _ _ w) h3,rfl,h4⟩
      · exact he.elim
  · next m n hs ht=>
    rw[hs]at hx;rw[ht]at hy
    exact Qx ho hx hy he
  · next t tf e at_ hs ht=>
    rw[hs]at hx;rw[ht]at hy
    split at he
    · next hc=>
      rcases hx with⟨J,_,ex⟩|⟨J,_,ex⟩|⟨J,_,ad,ex,_⟩
      · exact qI ho ex hy true (.inl ⟨rfl,rfl,hc⟩) (by simp[Den,J]) (by simp[Den,J]) he
      · exact qI ho ex hy false (.inr ⟨rfl,_,_,rfl⟩) (by simp[Den,J]) (by simp[Den,J]) he
      · exact qI ho ex hy false (.inr ⟨rfl,_,_,rfl⟩) (by simp[Den,J]) (by simp[Den,J]) he
    · exact he.elim
  · next hs ht=>
    rw[hs]at hx;rw[ht]at hy
    split at he
    · next hc=>exact qI ho hx hy true (.inl ⟨rfl,rfl,hc⟩) (by simp[Den]) (by simp[Den]) he
    · exact he.elim
  · next t s hs ht=>
    rw[hs]at hx;rw[ht]at hy
    obtain⟨u,ex,_⟩:=hx
    exact qI ho ex hy false (.inr ⟨rfl,_,_,rfl⟩) (by simp[Den]) (by simp[Den]) he
  · next t s hs ht=>
    rw[hs]at hx;rw[ht]at hy
    exact qI ho hx hy false (.inr ⟨rfl,_,_,rfl⟩) (by simp[Den]) (by simp[Den]) he
  · exact Pl ho hx hy he
end
end Go.Sy
set_option linter.unusedVariables false
set_option linter.unusedSimpArgs false
namespace Go.Sy
open Go.RowKit
def oV (P:Program) (T:TypeId) (f:Nat->SV) (n off:Nat):Option SV:=
  match P.info? T,P.underlying T with
  |some i,some d=>
   match jN d with
   |true=>match Nat.ble (off+i.size) n with|true=>some (.ag i.size (out i.size λj=>f (off+j)))|false=>none
   |false=>match Nat.blt off n with|true=>some (f off)|false=>none
  |_,_=>none
def Bj (P:Program) (T:TypeId) (s t:SV):Option Bool:=
  match P.underlying T,s,t with
  |some (.int _),.v (.int k a),.v (.int k' b)=>match oS k k' with|true=>some (a==b)|false=>none
  |some .string,.v (.string a),.v (.string b)=>some (a.toList==b.toList)
  |some .bool,s,t=>match kn s,kn t with|some a,some b=>some (a==b)|_,_=>none
  |_,_,_=>none
def xZ:Option Bool->Option Bool->Option Bool
  |some a,some b=>some (a&&b)
  |_,_=>none
def rk (P:Program) (rec:TypeId->SV->SV->Option Bool) (n:Nat) (f:Nat->SV) (m:Nat) (g:Nat->SV):List Field->Option Bool
  | []=>some true
  |fd::r=>
   match decide (fd.name = "_") with
   |true=>rk P rec n f m g r
   |false=>
    match oV P fd.type f n fd.offset,oV P fd.type g m fd.offset with
    |some a,some b=>xZ (rec fd.type a b) (rk P rec n f m g r)
    |_,_=>none
def tX (P:Program) (rec:TypeId->SV->SV->Option Bool) (E:TypeId) (sz n:Nat) (f:Nat->SV) (m:Nat) (g:Nat->SV):List Nat->Option Bool
  | []=>some true
  |k::r=>
   match oV P E f n (k*sz),oV P E g m (k*sz)with
   |some a,some b=>xZ (rec E a b) (tX P rec E sz n f m g r)
   |_,_=>none
def pP (P:Program):Nat->TypeId->SV->SV->Option Bool
  |0,_,_,_=>none
  |d+1,T,s,t=>
   match P.underlying T,s,t with
   |some (.struct fs),.ag n f,.ag m g=>match P.stoodInHeld T with|false=>rk P (pP P d) n f m g fs.toList|true=>none
   |some (.array len E),.ag n f,.ag m g=>match P.info? E with|some i=>tX P (pP P d) E i.size n f m g (List.range len)|none=>none
   |_,s,t=>Bj P T s t
section
variable {P:Program} {w:World} {ω:Ow}
theorem sK {T:TypeId} {f:Nat->SV} {n off:Nat} {s:SV} {xs:Array Value} (h:oV P T f n off=some s) (hd:Den w ω (.ag n f) (.agg xs)):
    ∃v,(∀w',(part T xs off).run P w'= .ok v w')/\Den w ω s v:=by
  obtain⟨cs,e,hn,hj⟩:=hd
  obtain rfl:=Value.agg.inj e
  unfold oV at h
  split at h
  · next i d hi hu=>
    split at h
    · next hd=>
      split at h
      · next hle=>
        have hle:=Nat.le_of_ble_eq_true hle
        obtain rfl:=Option.some.inj h
        have ha: ∀w',(isAgg T).run P w'= .ok true w':=λw'=>by
          simp only[isAgg,Sem.run_bind,run_underlying hu,Result.andThen]
          cases d<;>simp[jN]at hd<;>simp
        have hs: ∀w',(sizeOf T).run P w'= .ok i.size w':=λw'=>by simp[sizeOf,run_typeInfo w' hi,Result.andThen]
        refine⟨.agg (xs.extract off (off+i.size)),λw'=>by simp[part,ha,hs,Result.andThen],_,rfl,by simp;omega,λj mX=>?_⟩
        obtain⟨x,J,U⟩:=hj (off+j) (by omega)
        exact⟨x,by rw[Array.getElem?_extract];simp[show j<min (off+i.size) xs.size -off by omega,J],by rw[Iv mX];exact U⟩
      · cases h
    · next hd=>
      split at h
      · next ai=>
        have ai:off<n:=Nat.le_of_ble_eq_true ai
        obtain rfl:=Option.some.inj h
        have ha: ∀w',(isAgg T).run P w'= .ok false w':=λw'=>by
          simp only[isAgg,Sem.run_bind,run_underlying hu,Result.andThen]
          cases d<;>simp[jN]at hd<;>simp
        obtain⟨x,J,U⟩:=hj off ai
        exact⟨x,λw'=>by simp[part,ha,J,Result.andThen],U⟩
      · cases h
  · cases h
theorem MV {T:TypeId} {s t:SV} {b:Bool} (h:Bj P T s t=some b) {u v:Value} (hu:Den w ω s u) (hv:Den w ω t v) (d:Nat) (w':World):
    (Op.equalIn (d+1) T u v).run P w'= .ok b w':=by
  unfold Bj at h
  split at h
  · next hT=>
    split at h
    · next hk=>
      obtain rfl:=su hk
      obtain rfl:=Option.some.inj h
      obtain rfl:=hu
      obtain rfl:=hv
      exact run_equalIn_int w' d T _ _ _ _ hT
    · cases h
  · next hT=>
    obtain rfl:=Option.some.inj h
    obtain rfl:=hu
    obtain rfl:=hv
    exact run_equalIn_string w' d T _ _ hT
  · next hT=>
    split at h
    · next a b ha hb=>
      obtain rfl:=Option.some.inj h
      obtain rfl:=iX ha hu
      obtain rfl:=iX hb hv
      exact run_equalIn_bool' w' d T _ _ hT
    · cases h
  · cases h
theorem Fe {a b:Option Bool} {r:Bool} (h:xZ a b=some r): ∃x y,a=some x/\b=some y/\r=(x&&y):=by
  unfold xZ at h
  split at h
  · exact⟨_,_,rfl,rfl,(Option.some.inj h).symm⟩
  · cases h
theorem AP {rec:TypeId->SV->SV->Option Bool} {d:Nat} (ih: ∀{T:TypeId} {s t:SV} {b:Bool},rec T s t=some b-> ∀{u v:Value},Den w ω s u->Den w ω t v-> ∀w',(Op.equalIn d T u v).run P w'= .ok b w')
    {n m:Nat} {f g:Nat->SV} {xs ys:Array Value} (hx:Den w ω (.ag n f) (.agg xs)) (hy:Den w ω (.ag m g) (.agg ys)):
    ∀(fs:List Field) {b:Bool},rk P rec n f m g fs=some b-> ∀w',(Op.eqFields d xs ys fs).run P w'= .ok b w'
  | [],b,h,w'=>by simp[rk]at h;subst h;simp[Op.eqFields]
  |fd::r,b,h,w'=>by
   unfold rk at h
   split at h
   · next hn=>
     have hn : fd.name = "_" := by simpa using hn
     simp only[Op.eqFields,hn,ne_eq,not_true_eq_false,if_false]
     exact AP ih hx hy r h w'
   · next hn=>
     have hn : fd.name ≠ "_" := by simpa using hn
     split at h
     · next a c ha hc=>
       obtain⟨p,q,J,U,rfl⟩:=Fe h
       obtain⟨u,e1,d1⟩:=sK ha hx
       obtain⟨v,e2,d2⟩:=sK hc hy
       have e3:=ih J d1 d2 w'
       simp only[Op.eqFields,hn,ne_eq,not_false_eq_true,if_true,Sem.run_bind,e1,e2,e3,Result.andThen_ok]
       cases p
       · simp
       · simpa using AP ih hx hy r U w'
     · cases h
theorem xa: ∀(d:Nat) {T:TypeId} {s t:SV} {b:Bool},pP P d T s t=some b-> ∀{u v:Value},Den w ω s u->Den w ω t v-> ∀w',(Op.equalIn d T u v).run P w'= .ok b w'
  |0,_,_,_,_,h,_,_,_,_,_=>by simp[pP]at h
  |d+1,T,s,t,b,h,u,v,hu,hv,w'=>by
   unfold pP at h
   split at h
   · next fs n f m g hT=>
     split at h
     · next hs=>
       obtain⟨xs,rfl,hx⟩:=hu
       obtain⟨ys,rfl,hy⟩:=hv
       have hf:P.fieldsOf T=fs:=by simp[Program.fieldsOf,hT]
       rw[run_equalIn_struct w' d T xs ys (by rw[hf];exact hT) hs,hf]
       exact AP (λhr _ _ du dv dJ=>xa d hr du dv dJ) ⟨xs,rfl,hx⟩ ⟨ys,rfl,hy⟩ _ h w'
     · cases h
   · next len E n f m g hT=>
     split at h
     · next i hi=>
       obtain⟨xs,rfl,hx⟩:=hu
       obtain⟨ys,rfl,hy⟩:=hv
       have hs: ∀dJ,(sizeOf E).run P dJ= .ok i.size dJ:=λdJ=>by simp[sizeOf,run_typeInfo dJ hi,Result.andThen]
       simp only[Op.equalIn,Sem.run_bind,run_underlying hT,Result.andThen_ok,hs,Std.Legacy.Range.forIn_eq_forIn_range',Std.Legacy.Range.size]
       have key: ∀(l:List Nat) {b:Bool},tX P (pP P d) E i.size n f m g l=some b-> ∀dJ:World,
        (((forIn l ((none,()):Option Bool×Unit) λk r=>do
            let x<-part E xs (k*i.size)
            let y<-part E ys (k*i.size)
            let z<-Op.equalIn d E x y
            if(!z)=true then pure (ForInStep.done (some false,()))else pure (ForInStep.yield (none,()))):Sem (Option Bool×Unit))).run P dJ= .ok (if b then none else some false,()) dJ:=by
         intro l
         induction l with
         |nil=>intro b h dJ;simp[tX]at h;subst h;simp
         |cons k r ih=>
          intro b h dJ
          unfold tX at h
          split at h
          · next a c ha hc=>
            obtain⟨p,q,J,U,rfl⟩:=Fe h
            obtain⟨u,e1,d1⟩:=sK ha ⟨xs,rfl,hx⟩
            obtain⟨v,e2,d2⟩:=sK hc ⟨ys,rfl,hy⟩
            have e3:=xa d J d1 d2 dJ
            simp only[List.forIn_cons,Sem.run_bind,e1,e2,e3,Result.andThen_ok]
            cases p
            · simp
            · simpa using ih U dJ
          · cases h
       have e0:List.range' 0 ((len -0+1 -1)/1)=List.range len:=by rw[List.range_eq_range'];congr 1;omega
       rw[e0,key _ h w']
       cases b<;>simp[Result.andThen]
     · cases h
   · exact MV h hu hv d w'
end
end Go.Sy
set_option linter.unusedVariables false
set_option linter.unusedSimpArgs false
namespace Go.Sy
open Go.RowKit
def BT (P:Program) (op:BinOp) (T:TypeId) (s t:SV):R:=
  match s,t,P.eqGuardType P.depth T with
  | .ag n f,.ag m g,false=>
    match pP P 10000 T (.ag n f) (.ag m g),op with
    |some b,.eql=> .ok (.v (.bool b))
    |some b,.neq=> .ok (.v (.bool (!b)))
    |_,_=> .bad
  |_,_,_=> .bad
def s4 (c s t:SV):R:=
  match c with
  | .bl true=> .ok s
  | .bl false=> .ok t
  | .v (.bool b)=>
    match kn s,kn t with
    |some x,some y=> .ok (.v (.bool (bif b then x else y)))
    |_,_=> .bad
  |_=> .bad
def CL (sg:Bool) (op:UnOp) (s:SV):R:=
  match op,s with
  | .not,.bl true=> .ok (.bl false)
  | .not,.bl false=> .ok (.bl true)
  | .not,.v (.bool b)=> .ok (.v (.bool (!b)))
  | .neg,.v (.int k n)=>match sg with|true=> .ok (.v (.int k (k.wrap (0 -n))))|false=> .cM (pQ k (0 -n)) (.v (.int k (-n)))
  |_,_=> .bad
def Bg (P:Program) (sg:Bool) (S D:TypeId) (s:SV):R:=
  match P.underlying S,P.underlying D,s with
  |some _,some (.int k),.v (.int _ n)=>match sg with|true=> .ok (.v (.int k (k.wrap n)))|false=> .cM (pQ k n) (.v (.int k n))
  |_,_,_=> .bad
def AN (T:TypeId):SV->SV
  | .v x=> .v (.iface T x)
  | .bl b=> .v (.iface T (.bool b))
  |s=> .ic T s
def zG (P:Program) (T:TypeId) (s:SV):R:=
  match P.underlying T with
  |some (.interface _)=> .bad
  |some _=> .ok (AN T s)
  |none=> .bad
def sr (s:SV) (i:Nat):R:=
  match s with
  | .tp n f=>match Nat.blt i n with|true=> .ok (f i)|false=> .bad
  |_=> .bad
def s8 (P:Program) (t:TypeId) (name:String):Option Nat:=
  match P.info? t,P.underlying t with
  |some i,some d=>
   match i.methods.find? (λm=>m.name==name)with
   |some m=>
    match m.path.toList,m.func,d with
    | [],some (f,true),.pointer _=>some f
    | [],some (f,false),.struct _=>some f
    |_,_,_=>none
   |none=>none
  |_,_=>none
def zu (P:Program) (s:SV) (m:Nat->aP):R:=
  match s with
  | .ptr k st p i j=>match bT m k st p with|true=> .ok (.ptr k st p i j)|false=> .bad
  | .pe k st p i j len z=>match bT m k st p with|true=> .ok (.pe k st p i j len z)|false=> .bad
  | .pt q n f=> .ok (.pt q n f)
  | .fn id n f=> .ok (.fn id n f)
  | .bm id s=> .ok (.bm id s)
  | .mv nm (.ic t s)=>match s8 P t nm with|some _=> .ok (.mv nm (.ic t s))|none=> .bad
  | .pa q sz n f=> .ok (.pa q sz n f)
  | .v (.pointer (some ad))=> .ok (.v (.pointer (some ad)))
  |_=> .bad
def BV (P:Program) (T:TypeId) (s:SV) (m:Nat->aP):R:=
  match P.underlying T,s with
  |some (.slice _),.sl _ _ n _=> .iM ((n:Int)<=9223372036854775807) (.v (.int .i64 n))
  |some (.slice _),.aw k st p _ n=>match bT m k st p with|true=> .iM ((n:Int)<=9223372036854775807) (.v (.int .i64 n))|false=> .bad
  |some (.slice _),.sa k st p _ _ n=>match bT m k st p with|true=> .ok (.v (.int .i64 n))|false=> .bad
  |some (.slice _),.v (.slice none 0 0)=> .ok (.v (.int .i64 0))
  |some (.slice _),.es=> .ok (.v (.int .i64 0))
  |some .string,.v (.string x)=> .ok (.v (.int .i64 x.size))
  |_,_=> .bad
def xx (mx:Bool) (l:List SV):R:=
  match l with
  | [.v (.int k x),.v (.int k' y)]=>
    match oS k k',mx with
    |true,true=> .ok (.v (.int k (max x y)))
    |true,false=> .ok (.v (.int k (min x y)))
    |_,_=> .bad
  |_=> .bad
def Bh (P:Program) (T:TypeId) (s:SV) (j:Nat):R:=
  match P.underlying T,s with
  |some (.struct fs),.ag n f=>
   match fs[j]? with
   |some fd=>match oV P fd.type f n fd.offset with|some t=> .ok t|none=> .bad
   |none=> .bad
  |_,_=> .bad
def CM (P:Program) (T:TypeId) (lit:Bool) (s i:SV):R:=
  match P.underlying T,s,i with
  |some .string,.v (.string x),.v (.int _ z)=> .cM ((0<=z/\z<x.size)) (.v (.int .u8 (x.data.toList.getD z.toNat 0).toNat))
  |some (.array len E),.ag n f,.v (.int _ z)=>
   match P.info? E,P.underlying E with
   |some i,some d=>
    match jN d,Nat.beq n (len*i.size),Nat.beq i.size 1 with
    |false,true,true=>
     match lit,d with
     |true,_=> .cM ((0<=z/\z<len)) (f z.toNat)
     |false,.int kk=>match mA kk ((List.range len).map f)with|some l=> .cM ((0<=z/\z<len)) (.v (.int kk (dK l z.toNat)))|none=> .bad
     |_,_=> .bad
    |_,_,_=> .bad
   |_,_=> .bad
  |_,_,_=> .bad
def lg (d:Int):Option SV->Option Int
  |none=>some d
  |some (.v (.int _ z))=>some z
  |_=>none
def AL (P:Program) (T:TypeId) (s:SV) (lo hi:Option SV) (m:Nat->aP):R:=
  match P.underlying T,s with
  |some (.slice E),.sl q sz n f=>
   match P.info? E,lg 0 lo,lg n hi with
   |some i,some l,some h=>match Nat.beq i.size sz with|true=> .cM ((0<=l/\l<=h/\h<=n)) (.sl q sz (h.toNat -l.toNat) λi j=>f (l.toNat+i) j)|false=> .bad
   |_,_,_=> .bad
  |some (.slice E),.aw k st p e n=>
   match P.info? E,lg 0 lo,lg n hi with
   |some i,some l,some h=>
    match bT m k st p,dP (m k).b p with
    |true,some r=>match Nat.beq i.size r.sz with|true=> .cM ((0<=l/\l<=h/\h<=n)) (.aw k st p (e+l.toNat) (h.toNat -l.toNat))|false=> .bad
    |_,_=> .bad
   |_,_,_=> .bad
  |some (.array len E),.ptr k st p ii j=>
   match P.info? E,lo,hi,bT m k st p with
   |some i,none,none,true=>match Nat.beq i.size 1,Nat.blt 0 len,Nat.ble len 1000000 with|true,true,true=> .ok (.sa k st p ii j len)|_,_,_=> .bad
   |_,_,_,_=> .bad
  |some .string,.v (.string x)=>
   match lg 0 lo,lg x.size hi with
   |some l,some h=> .cM ((0<=l/\l<=h/\h<=x.size)) (.v (.string (x.extract l.toNat h.toNat)))
   |_,_=> .bad
  |_,_=> .bad
def Ae (fn:Fn) (first dQ:List SV):R:=
  match fn,first with
  | .func id,[]=> .ok (.fn id dQ.length (aA dQ))
  | .func id,[s]=>match dQ with| []=> .ok (.bm id s)|_=> .bad
  | .method nm,[s]=>match dQ with| []=> .ok (.mv nm s)|_=> .bad
  |_,_=> .bad
def lG (m:Nat->aP):SV->Option (List SV)
  | .ag n f=>some ((List.range n).map f)
  | .v (.agg cs)=>some (cs.toList.map .v)
  | .v (.tuple _)=>none
  | .aq=>none
  | .tp _ _=>none
  | .il _ _ _=>none
  | .ptr k st p i j=>match bT m k st p with|true=>some [.ptr k st p i j]|false=>none
  | .pe k st p i j len z=>match bT m k st p with|true=>some [.pe k st p i j len z]|false=>none
  | .aw k st p e n=>match bT m k st p with|true=>some [.aw k st p e n]|false=>none
  | .sa k st p i j n=>match bT m k st p with|true=>some [.sa k st p i j n]|false=>none
  |s=>some [s]
def kF (l:List SV):Nat->List SV->List SV
  |_,[]=>l
  |off,c::r=>kF (l.set off c) (off+1) r
def kL (m:Nat->aP) (place:Nat->Option (Nat×Nat)) (cells:List SV):List (Nat×SV)->Option (List SV)
  | []=>some cells
  |(i,s)::rest=>
   match place i,lG m s with
   |some (off,size),some cs=>
    match Nat.beq cs.length size,Nat.ble (off+cs.length) cells.length with
    |true,true=>kL m place (kF cells off cs) rest
    |_,_=>none
   |_,_=>none
def Pg (P:Program) (fs:List Field):Option (List (Nat×Nat)):=fs.mapM (λf=>(P.info? f.type).map λi=>(f.offset,i.size))
def AM (P:Program) (T:TypeId) (parts:List (Nat×SV)) (m:Nat->aP):R:=
  match P.info? T,P.underlying T with
  |some i,some (.struct fs)=>
   match i.zero,Pg P fs.toList with
   |some z,some pl=>
    match kL m (λk=>pl[k]?) (z.cells.toList.map .v) parts with
    |some l=> .ok (.ag l.length (aA l))
    |none=> .bad
   |_,_=> .bad
  |some i,some (.array _ E)=>
   match i.zero,P.info? E with
   |some z,some ie=>
    match kL m (λk=>some (k*ie.size,ie.size)) (z.cells.toList.map .v) parts with
    |some l=> .ok (.ag l.length (aA l))
    |none=> .bad
   |_,_=> .bad
  |_,_=> .bad
section
variable {P:Program} {w:World} {ω:Ow} {ρ:Operand->SV} {M:Mem} {a:Act}
theorem Qs (h:Cx P w ω ρ M a) {o:Oper} {op:BinOp} {T T':TypeId} {x y:Operand} {K:SV->Prop} (ho:o.op= .binOp op T x y T')
    (he:(BT P op T (ρ x) (ρ y)).run K):dD P w ω a o K:=by
  have hx:=h.val x
  have hy:=h.val y
  unfold BT at he
  split at he
  · next n f m g hs ht hg=>
    rw[hs]at hx;rw[ht]at hy
    split at he
    · next b hb=>
      have hr:=λw'=>xa 10000 hb hx hy w'
      obtain⟨xs,ex,_⟩:=hx
      obtain⟨ys,ey,_⟩:=hy
      rw[ex,ey]at hr
      exact⟨.v (.bool b),.bool b,iY ho ex ey (λw=>run_eqGuard_agg w _ _ _ _ _ _ hg) (λw=>by rw[run_eql_struct,hr w];rfl),rfl,he⟩
    · next b hb=>
      have hr:=λw'=>xa 10000 hb hx hy w'
      obtain⟨xs,ex,_⟩:=hx
      obtain⟨ys,ey,_⟩:=hy
      rw[ex,ey]at hr
      exact⟨.v (.bool (!b)),.bool (!b),iY ho ex ey (λw=>run_eqGuard_agg w _ _ _ _ _ _ hg) (λw=>by rw[run_neq_struct,hr w];rfl),rfl,he⟩
    · exact he.elim
  · exact he.elim
theorem sS (h:Cx P w ω ρ M a) {o:Oper} {c x y:Operand} {K:SV->Prop} (ho:o.op= .pick c x y)
    (he:(s4 (ρ c) (ρ x) (ρ y)).run K):dD P w ω a o K:=by
  have hc:=h.val c
  have hx:=h.val x
  have hy:=h.val y
  unfold s4 at he
  split at he
  · next hs=>
    rw[hs]at hc
    have ec:a.eval c= .bool true:=hc
    exact⟨_,_,by simp[execOp,ho,ec,asBool],hx,he⟩
  · next hs=>
    rw[hs]at hc
    have ec:a.eval c= .bool false:=hc
    exact⟨_,_,by simp[execOp,ho,ec,asBool],hy,he⟩
  · next b hs=>
    rw[hs]at hc
    have ec:a.eval c= .bool b:=hc
    split at he
    · next p q hp hq=>
      have ex:=iX hp hx
      have ey:=iX hq hy
      exact⟨.v (.bool (bif b then p else q)),.bool (bif b then p else q),by cases b<;>simp[execOp,ho,ec,asBool,ex,ey],rfl,he⟩
    · exact he.elim
  · exact he.elim
theorem RP (h:Cx P w ω ρ M a) {sg:Bool} {o:Oper} {op:UnOp} {T:TypeId} {x:Operand} {K:SV->Prop} (ho:o.op= .unOp op T x)
    (he:(CL sg op (ρ x)).run K):dD P w ω a o K:=by
  have hx:=h.val x
  unfold CL at he
  split at he
  · next hs=>
    rw[hs]at hx
    have ex:a.eval x= .bool true:=hx
    exact⟨.bl false,.bool false,by simp[execOp,ho,ex,Op.unary],rfl,he⟩
  · next hs=>
    rw[hs]at hx
    have ex:a.eval x= .bool false:=hx
    exact⟨.bl true,.bool true,by simp[execOp,ho,ex,Op.unary],rfl,he⟩
  · next b hs=>
    rw[hs]at hx
    have ex:a.eval x= .bool b:=hx
    exact⟨.v (.bool (!b)),.bool (!b),by simp[execOp,ho,ex,Op.unary],rfl,he⟩
  · next k n hs=>
    rw[hs]at hx
    have ex:a.eval x= .int k n:=hx
    cases sg with
    |true=>exact⟨.v (.int k (k.wrap (0 -n))),.int k (k.wrap (0 -n)),by simp[execOp,ho,ex,Op.unary,Op.intArith],rfl,he⟩
    |false=>
     have e:k.wrap (0 -n)= -n:=by have:=he.1;unfold pQ at this;omega
     exact⟨.v (.int k (-n)),.int k (-n),by simp only[execOp,ho,ex,Op.unary,Op.intArith,e,Sem.run_bind,Sem.run_pure,Result.andThen_ok],rfl,he.2⟩
  · exact he.elim
theorem Pe (h:Cx P w ω ρ M a) {sg:Bool} {o:Oper} {S D:TypeId} {x:Operand} {K:SV->Prop} (ho:o.op= .convert S D x)
    (he:(Bg P sg S D (ρ x)).run K):dD P w ω a o K:=by
  have hx:=h.val x
  unfold Bg at he
  split at he
  · next d k k' n hS hD hs=>
    rw[hs]at hx
    have ex:a.eval x= .int k' n:=hx
    have hr:(execOp a.eval o).run P w= .ok (.value (.int k (k.wrap n))) w:=by simp[execOp,ho,ex,convert,run_underlying hS,run_underlying hD,Conv.intToInt,Result.andThen]
    cases sg with
    |true=>exact⟨.v (.int k (k.wrap n)),_,hr,rfl,he⟩
    |false=>
     have e:k.wrap n=n:=he.1
     exact⟨.v (.int k n),_,hr,by rw[e];rfl,he.2⟩
  · exact he.elim
theorem LK {T:TypeId} {s:SV} {u:Value} (h:Den w ω s u):Den w ω (AN T s) (.iface T u):=by
  unfold AN
  split
  · obtain rfl:=h;rfl
  · obtain rfl:=h;rfl
  · exact⟨u,rfl,h⟩
theorem Mf (h:Cx P w ω ρ M a) {o:Oper} {T:TypeId} {x:Operand} {K:SV->Prop} (ho:o.op= .makeInterface T x)
    (he:(zG P T (ρ x)).run K):dD P w ω a o K:=by
  have hx:=h.val x
  unfold zG at he
  split at he
  · exact he.elim
  · next d hn hu=>
    refine⟨_,_,?_,LK hx,he⟩
    simp only[execOp,ho,Instr.makeInterface,Sem.run_bind,run_underlying hu,Result.andThen_ok]
    cases d<;>first|exact absurd rfl (hn _)|rfl
  · exact he.elim
theorem Mg (h:Cx P w ω ρ M a) {o:Oper} {i:Nat} {x:Operand} {K:SV->Prop} (ho:o.op= .extract x i)
    (he:(sr (ρ x) i).run K):dD P w ω a o K:=by
  have hx:=h.val x
  unfold sr at he
  split at he
  · next n f hs=>
    rw[hs]at hx
    obtain⟨cs,ex,_,hj⟩:=hx
    split at he
    · next ai=>
      obtain⟨y,J,U⟩:=hj i (Nat.le_of_ble_eq_true ai)
      exact⟨_,y,by simp[execOp,ho,ex,Instr.extract,J],U,he⟩
    · exact he.elim
  · exact he.elim
theorem LJ (h:Cx P w ω ρ M a) {o:Oper} {x:Operand} {K:SV->Prop} (ho:o.op= .nilCheck x)
    (he:(zu P (ρ x) (aa M)).run K):dD P w ω a o K:=by
  have hx:=h.val x
  unfold zu at he
  have run: ∀u,(∃ad,u= .pointer (some ad))\/(∃f p c,u= .func (.func f) p c)->a.eval x=u->(execOp a.eval o).run P w= .ok (.value u) w:=by
    rintro u (⟨ad,rfl⟩|⟨f,p,c,rfl⟩) e<;>simp[execOp,ho,e]
  split at he
  · next k st p i j hs=>
    split at he
    · next aZ=>
      rw[hs]at hx
      obtain⟨_,L,_,_,e⟩:=eP h.mem aZ hx
      exact⟨_,_,run _ (.inl ⟨_,e⟩) rfl,hx,he⟩
    · exact he.elim
  · next k st p i j len z hs=>
    split at he
    · next aZ=>
      rw[hs]at hx
      obtain⟨_,L,_,_,_,e⟩:=eP h.mem aZ hx
      exact⟨_,_,run _ (.inl ⟨_,e⟩) rfl,hx,he⟩
    · exact he.elim
  · next q n f hs=>
    rw[hs]at hx
    have cK:=hx
    obtain⟨b,ex,_⟩:=hx
    exact⟨_,_,run _ (.inl ⟨_,ex⟩) rfl,cK,he⟩
  · next id n f hs=>
    rw[hs]at hx
    have cK:=hx
    obtain⟨b,ex,_⟩:=hx
    exact⟨_,_,run _ (.inr ⟨_,_,_,ex⟩) rfl,cK,he⟩
  · next id s hs=>
    rw[hs]at hx
    have cK:=hx
    obtain⟨b,ex,_⟩:=hx
    exact⟨_,_,run _ (.inr ⟨_,_,_,ex⟩) rfl,cK,he⟩
  · next nm t s hs=>
    rw[hs]at hx
    have cK:=hx
    obtain⟨u,ex,y,rfl,_⟩:=hx
    split at he
    · next f hm=>
      refine⟨.mv nm (.ic t s),.func (.method nm) #[.iface t y] #[],?_,by rw[ex]at cK;exact cK,he⟩
      unfold s8 at hm
      split at hm
      · next i d hi hd=>
        split at hm
        · next m hf=>
          split at hm
          · next f e hp gG=>
            obtain⟨k,hk⟩: ∃k,P.types.size+Made.depth=k+1:=⟨P.types.size+99,by show P.types.size+100=_;omega⟩
            simp[execOp,ho,ex,hk,nilAhead,typeInfo,hi,hf,hp,followBlind,gG,Result.andThen]
          · next f e hp gG=>
            obtain⟨k,hk⟩: ∃k,P.types.size+Made.depth=k+1:=⟨P.types.size+99,by show P.types.size+100=_;omega⟩
            simp[execOp,ho,ex,hk,nilAhead,typeInfo,hi,hf,hp,followBlind,gG,underlying,hd,Result.andThen]
          · cases hm
        · cases hm
      · cases hm
    · exact he.elim
  · next q sz n f hs=>
    rw[hs]at hx
    have cK:=hx
    obtain⟨b,ex,_⟩:=hx
    exact⟨_,_,run _ (.inl ⟨_,ex⟩) rfl,cK,he⟩
  · next ad hs=>
    rw[hs]at hx
    exact⟨.v (.pointer (some ad)),_,run _ (.inl ⟨_,rfl⟩) hx,rfl,he⟩
  · exact he.elim
theorem Qu (h:Cx P w ω ρ M a) {o:Oper} {T:TypeId} {x:Operand} {K:SV->Prop} (ho:o.op= .call {callee:= .builtin .len,args:= #[x],argTypes:= #[T]})
    (he:(BV P T (ρ x) (aa M)).run K):dD P w ω a o K:=by
  have hx:=h.val x
  unfold BV at he
  have run: ∀p n cap,(∃E,P.underlying T=some (.slice E))->a.eval x= .slice p n cap->(execOp a.eval o).run P w= .ok (.value (.int .i64 n)) w:=by
    rintro p n cap ⟨E,hu⟩ ex
    simp[execOp,ho,resolve,invoke,builtin,Builtin.len_,ex,run_underlying hu,Result.andThen,goInt]
  split at he
  · next E q sz n f hu hs=>
    rw[hs]at hx
    obtain⟨p,cap,ex,_,fK,_⟩:=hx
    exact⟨.v (.int .i64 n),_,run _ _ _ ⟨E,hu⟩ ex,rfl,he (by unfold maxLen at fK;omega)⟩
  · next E k st p e n hu hs=>
    split at he
    · next aZ=>
      rw[hs]at hx
      have e0:st=Sy.st ω.cur k p:=by
        rw[h.mem.cur]
        cases p with
        |none=>exact Nat.eq_of_beq_eq_true aZ
        |some _=>exact Nat.eq_of_beq_eq_true aZ
      rcases hx with hx|⟨_,q,cap,ex,_,fK,_⟩
      · omega
      exact⟨.v (.int .i64 n),_,run _ _ _ ⟨E,hu⟩ ex,rfl,he (by unfold maxLen at fK;omega)⟩
    · exact he.elim
  · next E k st p i j n hu hs=>
    split at he
    · next aZ=>
      rw[hs]at hx
      obtain⟨_,L,_,_,_,ex⟩:=eP h.mem aZ hx
      exact⟨.v (.int .i64 n),_,run _ _ _ ⟨E,hu⟩ ex,rfl,he⟩
    · exact he.elim
  · next E hu hs=>
    rw[hs]at hx
    exact⟨.v (.int .i64 0),_,run _ _ _ ⟨E,hu⟩ hx,rfl,he⟩
  · next E hu hs=>
    rw[hs]at hx
    obtain⟨p,ex⟩:=hx
    exact⟨.v (.int .i64 0),_,run _ _ _ ⟨E,hu⟩ ex,rfl,he⟩
  · next y hu hs=>
    rw[hs]at hx
    have ex:a.eval x= .string y:=hx
    exact⟨.v (.int .i64 y.size),_,by simp[execOp,ho,resolve,invoke,builtin,Builtin.len_,ex,run_underlying hu,Result.andThen,goInt],rfl,he⟩
  · exact he.elim
theorem Iu (h:Cx P w ω ρ M a) {o:Oper} {mx:Bool} {x y:Operand} {ts:Array TypeId} {K:SV->Prop} (ho:o.op= .call {callee:= .builtin (if mx then .max else .min),args:= #[x,y],argTypes:=ts})
    (he:(xx mx [ρ x,ρ y]).run K):dD P w ω a o K:=by
  have hx:=h.val x
  have hy:=h.val y
  unfold xx at he
  split at he
  · next k m k' n hl=>
    obtain⟨J,U⟩:ρ x= .v (.int k m)/\ρ y= .v (.int k' n):=by simpa using hl
    rw[J]at hx;rw[U]at hy
    have ex:a.eval x= .int k m:=hx
    have ey:a.eval y= .int k' n:=hy
    split at he
    · next hk=>
      exact⟨.v (.int k (max m n)),.int k (max m n),by
        simp[execOp,ho,resolve,invoke,builtin,Builtin.max_,Builtin.max2,ex,ey]
        split<;>omega,rfl,he⟩
    · next hk=>
      exact⟨.v (.int k (min m n)),.int k (min m n),by
        simp[execOp,ho,resolve,invoke,builtin,Builtin.min_,Builtin.min2,ex,ey]
        split<;>omega,rfl,he⟩
    · exact he.elim
  · exact he.elim
theorem Pf (h:Cx P w ω ρ M a) {o:Oper} {T:TypeId} {x:Operand} {j:Nat} {K:SV->Prop} (ho:o.op= .field T x j)
    (he:(Bh P T (ρ x) j).run K):dD P w ω a o K:=by
  have hx:=h.val x
  unfold Bh at he
  split at he
  · next fs n f hu hs=>
    rw[hs]at hx
    split at he
    · next fd rC=>
      split at he
      · next t ht=>
        obtain⟨cs,ex,hr⟩:=hx
        obtain⟨v,Ux,hv⟩:=sK ht ⟨cs,rfl,hr⟩
        exact⟨t,v,by simp[execOp,ho,Instr.field,run_underlying hu,rC,ex,asAgg,Ux w,Result.andThen],hv,he⟩
      · exact he.elim
    · exact he.elim
  · exact he.elim
theorem RQ (h:Cx P w ω ρ M a) {o:Oper} {T:TypeId} {lit:Bool} {x y:Operand} {K:SV->Prop} (ho:o.op= .index T x y)
    (he:(CM P T lit (ρ x) (ρ y)).run K):dD P w ω a o K:=by
  have hx:=h.val x
  have hy:=h.val y
  unfold CM at he
  split at he
  · next s k z hu hs ht=>
    rw[hs]at hx;rw[ht]at hy
    have ex:a.eval x= .string s:=hx
    have ey:a.eval y= .int k z:=hy
    obtain⟨⟨h0,J⟩,hK⟩:=he
    have ai:z.toNat<s.size:=by omega
    have CD:z.toNat<s.data.toList.length:=by simpa using ai
    refine⟨.v (.int .u8 (s.data.toList.getD z.toNat 0).toNat),.int .u8 (s.data.toList.getD z.toNat 0).toNat,?_,rfl,hK⟩
    have e1:s[z.toNat]? =some (s.data.toList.getD z.toNat 0):=by
      rw[List.getD_eq_getElem?_getD,List.getElem?_eq_getElem CD]
      rw[getElem?_pos s z.toNat ai]
      rfl
    simp[execOp,ho,ex,ey,Instr.index,asIntOf,run_underlying hu,h0,e1,Result.andThen]
  · next len E n f k z hu hs ht=>
    rw[hs]at hx;rw[ht]at hy
    have ey:a.eval y= .int k z:=hy
    split at he
    · next i d hi hd=>
      split at he
      · next J U h3=>
        have U:=Nat.eq_of_beq_eq_true U
        have h3:=Nat.eq_of_beq_eq_true h3
        obtain⟨cs,ex,hn,hj⟩:=hx
        have bu:(sizeOf E).run P w= .ok i.size w:=by simp[sizeOf,run_typeInfo w hi,Result.andThen]
        have ha:(isAgg E).run P w= .ok false w:=by
          simp only[isAgg,Sem.run_bind,run_underlying hd,Result.andThen]
          cases d<;>simp[jN]at J<;>simp
        have key:0<=z->z<len-> ∃u,(execOp a.eval o).run P w= .ok (.value u) w/\Den w ω (f z.toNat) u:=by
          intro g0 g1
          obtain⟨u,e1,Uy⟩:=hj z.toNat (by rw[U,h3];omega)
          exact⟨u,by simp[execOp,ho,ex,ey,Instr.index,asIntOf,run_underlying hu,g0,g1,bu,h3,part,ha,e1,Result.andThen],Uy⟩
        split at he
        · obtain⟨⟨g0,g1⟩,hK⟩:=he
          obtain⟨u,r1,r2⟩:=key g0 g1
          exact⟨_,u,r1,r2,hK⟩
        · next kk=>
          split at he
          · next l hl=>
            obtain⟨⟨g0,g1⟩,hK⟩:=he
            obtain⟨u,r1,r2⟩:=key g0 g1
            have hl:=qf hl
            have hq:=congrArg (λl=>l[z.toNat]?) hl
            simp only[List.getElem?_map,List.getElem?_range (show z.toNat<len by omega),Option.map_some]at hq
            cases iO:l[z.toNat]? with
            |none=>rw[iO]at hq;cases hq
            |some y=>
             rw[iO]at hq
             simp only[Option.map_some,Option.some.injEq]at hq
             have je:dK l z.toNat=y:=by simp[dK,List.getD_eq_getElem?_getD,iO]
             exact⟨_,u,r1,by rw[je,<-hq];exact r2,hK⟩
          · exact he.elim
        · exact he.elim
      · exact he.elim
    · exact he.elim
  · exact he.elim
theorem FQ {d:Int} {lo:Option Operand} {z:Int} (h:Cx P w ω ρ M a) (hl:lg d (lo.map ρ)=some z):
    (lo=none/\z=d)\/ ∃x k,lo=some x/\a.eval x= .int k z:=by
  cases lo with
  |none=>simp[lg]at hl;exact .inl ⟨rfl,hl.symm⟩
  |some x=>
   have hx:=h.val x
   simp only[Option.map_some,lg]at hl
   split at hl
   · next e=>cases e
   · next k z' e=>
     obtain rfl:=Option.some.inj hl
     have e:=Option.some.inj e
     rw[e]at hx
     exact .inr ⟨x,k,rfl,hx⟩
   · cases hl
theorem zv (h:Cx P w ω ρ M a) {lo hi:Option Operand} {l hh:Int} {n cap:Nat} {sl:Bool} (hl:lg 0 (lo.map ρ)=some l) (m5:lg n (hi.map ρ)=some hh) (g0:0<=l) (g1:l<=hh) (g2:hh<=n) (gy:n<=cap):
    (Instr.sliceBounds sl n cap (lo.map a.eval) (hi.map a.eval) none).run P w= .ok (l.toNat,hh.toNat,cap) w:=by
  rcases FQ h hl with⟨rfl,rfl⟩|⟨y,k,rfl,ey⟩<;>rcases FQ h m5 with⟨rfl,rfl⟩|⟨y2,k2,rfl,Lc⟩
  · simp[Instr.sliceBounds]
  · simp[Instr.sliceBounds,Instr.sliceBound,Lc,asIntOf,Result.andThen,show(0:Int)<=hh by omega,show hh<=cap by omega]
  · simp[Instr.sliceBounds,Instr.sliceBound,ey,asIntOf,Result.andThen,g0,show l<=n by omega]
  · simp[Instr.sliceBounds,Instr.sliceBound,ey,Lc,asIntOf,Result.andThen,g0,show(0:Int)<=hh by omega,show hh<=cap by omega,show l<=max hh 0 by omega]
theorem NP (h:Cx P w ω ρ M a) {o:Oper} {T:TypeId} {x:Operand} {lo hi:Option Operand} {K:SV->Prop} (ho:o.op= .slice T x lo hi none)
    (he:(AL P T (ρ x) (lo.map ρ) (hi.map ρ) (aa M)).run K):dD P w ω a o K:=by
  have hx:=h.val x
  unfold AL at he
  split at he
  · next E q sz n f hu hs=>
    rw[hs]at hx
    split at he
    · next i l hh h_ hl m5=>
      split at he
      · next bu=>
        have bu:=Nat.eq_of_beq_eq_true bu
        obtain⟨⟨g0,g1,g2⟩,hK⟩:=he
        obtain⟨p,cap,ex,gy,fK,hj⟩:=hx
        have dT:(sizeOf E).run P w= .ok i.size w:=by simp[sizeOf,run_typeInfo w h_,Result.andThen]
        have hb:=zv (P:=P) (sl:=true) h hl m5 g0 g1 g2 gy
        refine⟨.sl q sz (hh.toNat -l.toNat) λi j=>f (l.toNat+i) j,.slice (if cap=l.toNat then p else p.map (·.add (l.toNat*i.size))) (hh.toNat -l.toNat) (cap -l.toNat),?_,?_,hK⟩
        · simp only[execOp,ho,ex,Instr.sliceAt,Instr.slice,Sem.run_bind,run_underlying hu,Result.andThen_ok,Option.map_none,hb,dT]
          rfl
        · refine⟨_,_,rfl,by omega,by omega,?_⟩
          by_cases hz:hh.toNat -l.toNat=0
          · exact .inl hz
          · right
            have hc:cap≠l.toNat:=by omega
            obtain⟨ad,rfl,hk⟩:=hj.resolve_left (by omega)
            refine⟨ad.add (l.toNat*i.size),by simp[hc],λi' h_ j gZ=>?_⟩
            obtain⟨u,e1,e2,e3⟩:=hk (l.toNat+i') (by omega) j gZ
            refine⟨u,?_,by rw[fh];exact e2,e3⟩
            rw[add_add,show l.toNat*i.size+(i'*sz+j)=(l.toNat+i')*sz+j by rw[bu,Nat.add_mul];omega]
            exact e1
      · exact he.elim
    · exact he.elim
  · next E k st p e n hu hs=>
    rw[hs]at hx
    split at he
    · next i l hh h_ hl m5=>
      split at he
      · next r aZ hr=>
        split at he
        · next bu=>
          have bu:=Nat.eq_of_beq_eq_true bu
          obtain⟨⟨g0,g1,g2⟩,hK⟩:=he
          have e0:st=Sy.st ω.cur k p:=by
            rw[h.mem.cur]
            cases p with
            |none=>exact Nat.eq_of_beq_eq_true aZ
            |some _=>exact Nat.eq_of_beq_eq_true aZ
          rcases hx with hx|⟨_,q,cap,ex,gy,fK,hx⟩
          · omega
          have dT:(sizeOf E).run P w= .ok i.size w:=by simp[sizeOf,run_typeInfo w h_,Result.andThen]
          have hb:=zv (P:=P) (sl:=true) h hl m5 g0 g1 g2 gy
          refine⟨.aw k st p (e+l.toNat) (hh.toNat -l.toNat),.slice (if cap=l.toNat then q else q.map (·.add (l.toNat*i.size))) (hh.toNat -l.toNat) (cap -l.toNat),?_,Or.inr ⟨e0,_,_,rfl,by omega,by omega,?_⟩,hK⟩
          · simp only[execOp,ho,ex,Instr.sliceAt,Instr.slice,Sem.run_bind,run_underlying hu,Result.andThen_ok,Option.map_none,hb,dT]
            rfl
          · by_cases hc:cap=l.toNat
            · left;omega
            · right
              rcases hx with hx|⟨L,hL,rfl,yT,Uz⟩
              · omega
              obtain⟨r',y1,y2,y3,_⟩:=h.mem.row _ _ _ hL
              obtain rfl:r=r':=Option.some.inj (hr.symm.trans y1)
              refine⟨L,hL,?_,?_,by omega⟩
              · simp[hc,iq,bu,y2,Nat.add_mul,Nat.add_assoc]
              · rw[show e+l.toNat+(cap -l.toNat)=e+cap by omega];exact yT
        · exact he.elim
      · exact he.elim
    · exact he.elim
  · next len E k st p ii j hu hs=>
    rw[hs]at hx
    split at he
    · next i h_ hl m5 aZ=>
      split at he
      · next J U h3=>
        have U:0<len:=Nat.le_of_ble_eq_true U
        have h3:len<=1000000:=Nat.le_of_ble_eq_true h3
        obtain⟨e0,L,hL,hc,ex⟩:=eP h.mem aZ hx
        have hl:lo=none:=by cases lo<;>simp at hl;rfl
        have hh:hi=none:=by cases hi<;>simp at m5;rfl
        subst hl;subst hh
        refine⟨.sa k st p ii j len,.slice (some ⟨L.b,L.o+ii*L.sz+j,none⟩) len len,?_,Or.inr ⟨e0,L,hL,hc,by unfold maxLen;omega,rfl⟩,he⟩
        have dT:(sizeOf E).run P w= .ok i.size w:=by simp[sizeOf,run_typeInfo w h_,Result.andThen]
        simp[execOp,ho,ex,Instr.sliceAt,Instr.sureAddr,Instr.sliceBounds,run_underlying hu,dT,Result.andThen,Addr.add]
      · exact he.elim
    · exact he.elim
  · next s hu hs=>
    rw[hs]at hx
    have ex:a.eval x= .string s:=hx
    split at he
    · next l hh hl m5=>
      obtain⟨⟨g0,g1,g2⟩,hK⟩:=he
      have hb:=zv (P:=P) (sl:=false) h hl m5 g0 g1 g2 (Nat.le_refl _)
      refine⟨.v (.string (s.extract l.toNat hh.toNat)),.string (s.extract l.toNat hh.toNat),?_,rfl,hK⟩
      simp only[execOp,ho,ex,Instr.sliceAt,Instr.slice,Sem.run_bind,run_underlying hu,Result.andThen_ok,Option.map_none,Option.isSome_none,Bool.false_eq_true,if_false,hb]
      rfl
    · exact he.elim
  · exact he.elim
theorem MT (h:Cx P w ω ρ M a) {o:Oper} {fn:Fn} {first dQ:Array Operand} {K:SV->Prop} (ho:o.op= .makeFunc fn first dQ)
    (he:(Ae fn (first.toList.map ρ) (dQ.toList.map ρ)).run K):dD P w ω a o K:=by
  unfold Ae at he
  split at he
  · next id hf=>
    have hf:first= #[]:=by
      obtain⟨l⟩:=first
      simpa using hf
    refine⟨.fn id (dQ.toList.map ρ).length (aA (dQ.toList.map ρ)),.func (.func id) #[] (dQ.map a.eval),by simp[execOp,ho,Instr.makeFunc,hf],⟨_,rfl,by simp,λj hj=>?_⟩,he⟩
    have hj:j<dQ.size:=by simpa using hj
    exact⟨a.eval dQ[j],by simp[hj],by
      have:=h.val dQ[j]
      simpa [aA,List.getD_eq_getElem?_getD,hj]using this⟩
  · next id s hf=>
    split at he
    · next hc=>
      have hc:dQ= #[]:=by
        obtain⟨l⟩:=dQ
        simpa using hc
      obtain⟨l⟩:=first
      match l,hf with
      | [x],hf=>
        have hf:ρ x=s:=by simpa using hf
        subst hf
        exact⟨.bm id (ρ x),.func (.func id) #[a.eval x] #[],by simp[execOp,ho,Instr.makeFunc,hc],⟨_,rfl,h.val x⟩,he⟩
    · exact he.elim
  · next nm s hf=>
    split at he
    · next hc=>
      have hc:dQ= #[]:=by
        obtain⟨l⟩:=dQ
        simpa using hc
      obtain⟨l⟩:=first
      match l,hf with
      | [x],hf=>
        have hf:ρ x=s:=by simpa using hf
        subst hf
        exact⟨.mv nm (ρ x),.func (.method nm) #[a.eval x] #[],by simp[execOp,ho,Instr.makeFunc,hc],⟨_,rfl,h.val x⟩,he⟩
    · exact he.elim
  · exact he.elim
theorem AO (hm:ay w ω M) {k s:Nat} {p:Path} {R:Loc->Prop} (h:bT (aa M) k s p=true) (ha:At ω k s p R) {u:Value} (hu: ∀L,R L->u.cells= #[u]):u.cells= #[u]:=by
  obtain⟨_,L,_,hR⟩:=eP hm h ha
  exact hu L hR
theorem gP (hm:ay w ω M) {k s:Nat} {p:Path} (h:bT (aa M) k s p=true):s=st ω.cur k p:=by
  rw[hm.cur]
  cases p with
  |none=>exact Nat.eq_of_beq_eq_true h
  |some _=>exact Nat.eq_of_beq_eq_true h
theorem sf (hm:ay w ω M) {s:SV} {u:Value} {l:List SV} (h:lG (aa M) s=some l) (hd:Den w ω s u):bB w ω l u.cells.toList:=by
  have one: ∀{s:SV},Den w ω s u->u.cells= #[u]->bB w ω [s] u.cells.toList:=λh e=>by rw[e];exact⟨h,trivial⟩
  cases s with
  |es=>
   obtain rfl:=Option.some.inj h
   have uj:=hd
   obtain⟨p,rfl⟩:=uj
   exact one hd rfl
  |ag n f=>
   obtain rfl:=Option.some.inj h
   obtain⟨cs,rfl,hn,hj⟩:=hd
   refine bB.mk (by simp[Value.cells,hn]) λi hi=>?_
   obtain⟨x,J,U⟩:=hj i (by simpa using hi)
   have h_:i<n:=by simpa using hi
   refine⟨x,by simpa [Value.cells]using J,?_⟩
   rw[List.getD_eq_getElem?_getD,List.getElem?_map,List.getElem?_range h_]
   exact U
  |v x=>
   have uj:=hd
   obtain rfl:u=x:=uj
   cases u with
   |agg cs=>
    obtain rfl:=Option.some.inj h
    refine bB.mk (by simp[Value.cells]) λi hi=>?_
    have h_:i<cs.size:=by simpa using hi
    refine⟨cs[i],by simp[Value.cells,h_],?_⟩
    rw[List.getD_eq_getElem?_getD,List.getElem?_map]
    simp[h_,Den]
   |tuple cs=>cases h
   |_=>obtain rfl:=Option.some.inj h;exact one hd rfl
  |aq=>cases h
  |tp n f=>cases h
  |il sz n f=>cases h
  |ptr k st p i j=>
   simp only[lG]at h
   split at h
   · next aZ=>obtain rfl:=Option.some.inj h;exact one hd (AO hm aZ hd λL hR=>by rw[hR.2];rfl)
   · cases h
  |pe k st p i j len z=>
   simp only[lG]at h
   split at h
   · next aZ=>obtain rfl:=Option.some.inj h;exact one hd (AO hm aZ hd λL hR=>by rw[hR.2.2];rfl)
   · cases h
  |sa k st p i j n=>
   simp only[lG]at h
   split at h
   · next aZ=>obtain rfl:=Option.some.inj h;exact one hd (AO hm aZ hd λL hR=>by rw[hR.2.2];rfl)
   · cases h
  |aw k st p e n=>
   simp only[lG]at h
   split at h
   · next aZ=>
     obtain rfl:=Option.some.inj h
     have e0:=gP hm aZ
     refine one hd ?_
     rcases hd with hd|⟨_,q,cap,rfl,_⟩
     · omega
     · rfl
   · cases h
  |bl b=>obtain rfl:=Option.some.inj h;exact one hd (by obtain rfl:=hd;rfl)
  |pt q n f=>obtain rfl:=Option.some.inj h;exact one hd (by obtain⟨_,rfl,_⟩:=hd;rfl)
  |sl q sz n f=>obtain rfl:=Option.some.inj h;exact one hd (by obtain⟨_,_,rfl,_⟩:=hd;rfl)
  |pa q sz n f=>obtain rfl:=Option.some.inj h;exact one hd (by obtain⟨_,rfl,_⟩:=hd;rfl)
  |fn id n f=>obtain rfl:=Option.some.inj h;exact one hd (by obtain⟨_,rfl,_⟩:=hd;rfl)
  |bm id s=>obtain rfl:=Option.some.inj h;exact one hd (by obtain⟨_,rfl,_⟩:=hd;rfl)
  |mv nm s=>obtain rfl:=Option.some.inj h;exact one hd (by obtain⟨_,rfl,_⟩:=hd;rfl)
  |ic t s=>obtain rfl:=Option.some.inj h;exact one hd (by obtain⟨_,rfl,_⟩:=hd;rfl)
  |er t tf e at_=>obtain rfl:=Option.some.inj h;exact one hd (by rcases hd with⟨_,_,rfl⟩|⟨_,_,rfl⟩|⟨_,_,_,rfl,_⟩<;>rfl)
theorem Ec: ∀(cs:List SV) (vs:List Value),bB w ω cs vs-> ∀(off:Nat) (l:List SV) (m:Array Value),bB w ω l m.toList->
    bB w ω (kF l off cs) (((vs.zipIdx off).foldl (λ(m:Array Value) (p:Value×Nat)=>m.setIfInBounds p.2 p.1) m).toList)
  | [],[],_,_,_,_,h=>by simpa [kF]using h
  |c::r,v::t,⟨J,U⟩,off,l,m,h=>by
   simp only[kF,List.zipIdx_cons,List.foldl_cons]
   exact Ec r t U (off+1) _ _ (by rw[Array.toList_setIfInBounds];exact h.set J off)
  | [],_::_,hd,_,_,_,_=>hd.elim
  |_::_,[],hd,_,_,_,_=>hd.elim
theorem Ly (l:List Value): ∀(k off:Nat) (m:Array Value),(l.zipIdx k).foldl (λ(m:Array Value) (p:Value×Nat)=>m.setIfInBounds (off+p.2) p.1) m=(l.zipIdx (off+k)).foldl (λ(m:Array Value) (p:Value×Nat)=>m.setIfInBounds p.2 p.1) m:=by
  induction l with
  |nil=>intros;rfl
  |cons v t ih=>intro k off m;simp only[List.zipIdx_cons,List.foldl_cons];rw[ih];rfl
theorem Ad (hm:ay w ω M) {place:Nat->Option (Nat×Nat)}: ∀(ps:List (Nat×SV)) (vs:List (Nat×Value)),ps.length=vs.length->(∀(i:Nat) (s:Nat×SV),ps[i]? =some s-> ∃u,vs[i]? =some (s.1,u)/\Den w ω s.2 u)->
    ∀(l l':List SV) (m:Array Value),bB w ω l m.toList->kL (aa M) place l ps=some l'-> ∃m',Instr.fill place m vs=some m'/\bB w ω l' m'.toList
  | [],[],_,_,l,l',m,h,e=>by
    simp[kL]at e;subst e
    exact⟨m,rfl,h⟩
  | [],_::_,hl,_,_,_,_,_,_=>by simp at hl
  |_::_,[],hl,_,_,_,_,_,_=>by simp at hl
  |(k,s)::r,(k',v)::t,hl,hp,l,l',m,h,e=>by
   obtain⟨u,e1,hu⟩:=hp 0 (k,s) rfl
   simp at e1
   obtain⟨rfl,rfl⟩:=e1
   unfold kL at e
   split at e
   · next off size cs fH gF=>
     split at e
     · next J U=>
       have J:=Nat.eq_of_beq_eq_true J
       have U:=Nat.le_of_ble_eq_true U
       have hd:=sf hm gF hu
       have hlen:=hd.len
       have fK:=h.len
       have bu:v.cells.size=size:=by rw[<-Array.length_toList,<-hlen,J]
       have g_:Instr.fill place m ((k',v)::t)=Instr.fill place (v.cells.zipIdx.foldl (λcs (p:Value×Nat)=>cs.setIfInBounds (off+p.2) p.1) m) t:=by
         simp only[Instr.fill,fH]
         rw[if_neg]
         simp only[Bool.or_eq_true,decide_eq_true_eq,not_or,bu]
         simp at fK
         refine⟨by simp,by omega⟩
       rw[g_]
       refine Ad hm r t (by simpa using hl) (λi s hs=>hp (i+1) s (by simpa using hs)) _ l' _ ?_ e
       rw[<-Array.foldl_toList,Array.toList_zipIdx,Ly]
       exact Ec cs _ hd off l m h
     · cases e
   · cases e
theorem Qw (l:List Value):bB w ω (l.map .v) l:=by
  induction l with
  |nil=>trivial
  |cons x r ih=>exact⟨rfl,ih⟩
theorem NQ (h:Cx P w ω ρ M a) {o:Oper} {T:TypeId} {parts:Array (Nat×Operand)} {K:SV->Prop} (ho:o.op= .build T parts)
    (he:(AM P T (parts.toList.map λp=>(p.1,ρ p.2)) (aa M)).run K):dD P w ω a o K:=by
  have Be: ∀(i:Nat) (s:Nat×SV),(parts.toList.map λp=>(p.1,ρ p.2))[i]? =some s-> ∃u,(parts.toList.map λp=>(p.1,a.eval p.2))[i]? =some (s.1,u)/\Den w ω s.2 u:=by
    intro i s hs
    rw[List.getElem?_map]at hs
    cases hp:parts.toList[i]? with
    |none=>rw[hp]at hs;cases hs
    |some p=>
     rw[hp]at hs
     obtain rfl:=Option.some.inj hs
     exact⟨a.eval p.2,by rw[List.getElem?_map,hp];rfl,h.val p.2⟩
  have fin: ∀{place:Nat->Option (Nat×Nat)} {z:Value} {l:List SV},kL (aa M) place (z.cells.toList.map .v) (parts.toList.map λp=>(p.1,ρ p.2))=some l->
   ∃m,Instr.fill place z.cells (parts.toList.map λp=>(p.1,a.eval p.2))=some m/\Den w ω (.ag l.length (aA l)) (.agg m):=by
    intro place z l hl
    obtain⟨m,J,U⟩:=Ad h.mem _ _ (by simp) Be _ _ _ (Qw z.cells.toList) hl
    refine⟨m,J,m,rfl,by simpa using U.len.symm,λj hj=>?_⟩
    obtain⟨x,e1,e2⟩:=U.get? j hj
    exact⟨x,by simpa using e1,e2⟩
  unfold AM at he
  split at he
  · next i fs hi hu=>
    split at he
    · next z pl hz fH=>
      split at he
      · next l hl=>
        obtain⟨m,J,U⟩:=fin hl
        refine⟨_,.agg m,?_,U,he⟩
        have pO:(zeroValue T).run P w= .ok z w:=by simp[zeroValue,run_typeInfo w hi,hz,Result.andThen]
        simp[execOp,ho,Instr.build,pO,run_underlying hu,Array.mapM_eq_mapM_toList,run_places w _ _ fH,J]
      · exact he.elim
    · exact he.elim
  · next i len E hi hu=>
    split at he
    · next z ie hz UA=>
      split at he
      · next l hl=>
        obtain⟨m,J,U⟩:=fin hl
        refine⟨_,.agg m,?_,U,he⟩
        have pO:(zeroValue T).run P w= .ok z w:=by simp[zeroValue,run_typeInfo w hi,hz,Result.andThen]
        have hs:(sizeOf E).run P w= .ok ie.size w:=by simp[sizeOf,run_typeInfo w UA,Result.andThen]
        simp only[execOp,ho,Instr.build,Sem.run_bind,pO,run_underlying hu,Result.andThen_ok,hs]
        simp[J]
      · exact he.elim
    · exact he.elim
  · exact he.elim
end
end Go.Sy
set_option linter.unusedVariables false
set_option linter.unusedSimpArgs false
namespace Go.Sy
open Go.RowKit
def It (P:Program) (sg:Bool) (op:BinOp) (T:TypeId) (y:Operand) (s t:SV):R:=
  match s with
  | .ag _ _=>BT P op T s t
  |_=>BU P sg op T y s t
def pK (P:Program) (sg:Bool) (ρ:Operand->SV) (m:Nat->aP) (op:Op):R:=
  match op with
  | .move x| .assign x=> .ok (ρ x)
  | .load T x=>sY P T (ρ x) m
  | .fieldAddr S x j=>qv P S (ρ x) j m
  | .indexAddr T x y=>sU P T (Dh y) (ρ x) (ρ y) m
  | .binOp op T x y _=>It P sg op T y (ρ x) (ρ y)
  | .unOp op _ x=>CL sg op (ρ x)
  | .convert S D x=>Bg P sg S D (ρ x)
  | .makeInterface T x=>zG P T (ρ x)
  | .extract x i=>sr (ρ x) i
  | .nilCheck x=>zu P (ρ x) m
  | .field T x j=>Bh P T (ρ x) j
  | .index T x y=>CM P T (Dh y) (ρ x) (ρ y)
  | .slice T x lo hi none=>AL P T (ρ x) (lo.map ρ) (hi.map ρ) m
  | .makeFunc fn first dQ=>Ae fn (first.toList.map ρ) (dQ.toList.map ρ)
  | .build T parts=>AM P T (parts.toList.map λp=>(p.1,ρ p.2)) m
  | .call {callee:= .builtin .len,args:=⟨[x]⟩,argTypes:=⟨[T]⟩}=>BV P T (ρ x) m
  | .call {callee:= .builtin .max,args:=⟨[x,y]⟩,argTypes:=_}=>xx true [ρ x,ρ y]
  | .call {callee:= .builtin .min,args:=⟨[x,y]⟩,argTypes:=_}=>xx false [ρ x,ρ y]
  |_=> .bad
section
variable {P:Program} {w:World} {ω:Ow} {ρ:Operand->SV} {M:Mem} {a:Act}
theorem oR (h:Cx P w ω ρ M a) {sg:Bool} {o:Oper} {K:SV->Prop} (he:(pK P sg ρ (aa M) o.op).run K):dD P w ω a o K:=by
  cases ho:o.op<;>rw[ho]at he<;>unfold pK at he<;>try exact he.elim
  case move x=>exact⟨_,_,by simp[execOp,ho],h.val x,he⟩
  case assign x=>exact⟨_,_,by simp[execOp,ho],h.val x,he⟩
  case load T x=>exact Pd h ho he
  case fieldAddr S x j=>exact FI h ho he
  case indexAddr T x y=>exact NO h ho he
  case binOp op T x y T'=>
    simp only[It]at he
    split at he
    · next n f hs=>exact Qs h ho (by simpa only[hs]using he)
    · exact Qt h ho he
  case unOp op T x=>exact RP h ho he
  case convert S D x=>exact Pe h ho he
  case makeInterface T x=>exact Mf h ho he
  case extract x i=>exact Mg h ho he
  case nilCheck x=>exact LJ h ho he
  case field T x j=>exact Pf h ho he
  case index T x y=>exact RQ h ho he
  case slice T x lo hi mx=>
    cases mx with
    |none=>exact NP h ho he
    |some _=>exact he.elim
  case makeFunc fn first dQ=>exact MT h ho he
  case build T parts=>exact NQ h ho he
  case call c=>
    split at he
    all_goals first|exact he.elim|(next e=>cases e;done)|skip
    · next x T e=>cases e;exact Qu h ho he
    · next x y ts e=>cases e;exact Iu (mx:=true) h ho he
    · next x y ts e=>cases e;exact Iu (mx:=false) h ho he
/-! ### one cell is stored -/
abbrev aC:=List (Nat×aP)
def ov:aC->(Nat->aP)->Nat->aP
  | [],m,k=>m k
  |p::r,m,k=>match Nat.beq p.1 k with|true=>p.2|false=>ov r m k
theorem jA (u:aC) (M:Mem):ov u (aa M)=aa (u++M):=by
  funext k
  induction u with
  |nil=>rfl
  |cons p r ih=>simp only[ov,List.cons_append,aa,ih];cases Nat.beq p.1 k<;>rfl
def jF (m:Nat->aP) (k:Nat):aC:= [(k,⟨(m k).rs+1,(m k).ds+1,none,.dead⟩)]
def eQ (m:Nat->aP) (k:Nat) (b:aO):aC:= [(k,⟨(m k).rs,(m k).ds,none,b⟩)]
def jZ (m:Nat->aP) (k i j:Nat):aC:= [(k,⟨(m k).rs,(m k).ds+1,some (i,j),(m k).b⟩)]
def nP (m:Nat->aP) (k:Nat) (b:aO):aC:= [(k,{m k with b:=b})]
def BW (m:Nat->aP) (k i j r sz n:Nat) (f:Nat->Nat->SV) (aR n2:Nat) (g:Nat->Nat->SV):aC:=
  (k,⟨(m k).rs,(m k).ds+1,none,.row sz n ((⟨sz,n,f⟩:Row).set i j (.il aR n2 g)).f⟩)::jF m r
def nK (m:Nat->aP) (nx k i j aR n2:Nat) (g:Nat->Nat->SV):aC:=
  let u1:=eQ (ov (jZ m k i j) m) nx (.row aR n2 λa b=>cL (g a b))++jZ m k i j
  jF (ov u1 m) nx++u1
def Ik:aO->Bool
  | .dead=>true
  |_=>false
def bR (m:Nat->aP) (k:Nat):Bool:=match Ik (m k).b,(m k).hl with|true,none=>true|_,_=>false
def kV (m:Nat->aP):SV->Bool
  | .v (.agg _)| .v (.tuple _)| .aq| .ag _ _| .tp _ _| .il _ _ _=>false
  | .ptr k st p _ _=>bT m k st p
  | .pe k st p _ _ _ _=>bT m k st p
  | .aw k st p _ _=>bT m k st p
  | .sa k st p _ _ _=>bT m k st p
  |_=>true
def wG (m:Nat->aP) (nx k i j sz n:Nat) (f:Nat->Nat->SV) (r aR n2:Nat) (g:Nat->Nat->SV):Option (Prop×aC):=
  match (m k).hl with
  |none=>
   match f i j with
   | .il kr no go=>
     match Nat.beq kr aR,Nat.beq nx k,Nat.beq nx r,bR m nx with
     |true,false,false,true=>
      let u1:=nK m nx k i j kr no go
      some (∀i',ph aR (f i' j)=true,BW (ov u1 m) k i j r sz n f aR n2 g++u1)
     |_,_,_,_=>none
   |_=>none
  |some (i0,j0)=>
   match Nat.beq j0 j with
   |true=>some (i0=i/\ ∀i',ph aR (f i' j)=true,BW m k i j r sz n f aR n2 g)
   |false=>none
def qt:SV->Bool
  | .v (.slice none 0 0)=>true
  | .es=>true
  |_=>false
def qH (m:Nat->aP) (nx k:Nat) (p:Path) (i j:Nat) (v:SV):Option (Prop×aC):=
  match (m k).b,p with
  | .cells l,none=>match Nat.blt j l.length,kV m v with|true,true=>some (True,nP m k (.cells (l.set j v)))|_,_=>none
  | .row sz n f,none=>
    match Nat.blt j sz,bY (f i j)with
    |true,false=>match kV m v with|true=>some (∀i',bY (f i' j)=false,nP m k (.row sz n ((⟨sz,n,f⟩:Row).set i j v).f))|false=>none
    |true,true=>
     match v with
     | .aw r s none e n2=>
       match bT m r s none,Nat.beq e 0,Nat.beq k r,(m r).b with
       |true,true,false,.row aR _ g=>wG m nx k i j sz n f r aR n2 g
       |_,_,_,_=>none
     |v=>
      match qt v,f i j,Nat.beq (nx+1) k,bR m (nx+1)with
      |true,.il aR _ g0,false,true=>
       let u0:=eQ m (nx+1) (.row aR 0 g0)
       match wG (ov u0 m) nx k i j sz n f (nx+1) aR 0 g0 with
       |some (pr,u)=>some (pr,u++u0)
       |none=>none
      |_,_,_,_=>none
    |_,_=>none
  | .row sz n f,some (i0,j0)=>
    match f i0 j0 with
    | .il aR n2 g=>match Nat.blt j aR,kV m v with|true,true=>some (∀i',ph aR (f i' j0)=true,nP m k (.row sz n ((⟨sz,n,f⟩:Row).set i0 j0 (.il aR n2 ((⟨aR,n2,g⟩:Row).set i j v).f)).f))|_,_=>none
    |_=>none
  |_,_=>none
theorem NS (hm:ay w ω M) {k:Nat} (h:bR (aa M) k=true) (ca: ∀p,ω.β k p=none):rj ω M k:=by
  unfold bR at h
  split at h
  · next J U=>
    refine⟨?_,U,ca⟩
    cases hb:(aa M k).b with
    |dead=>rfl
    |cells l=>rw[hb]at J;cases J
    |row a b c=>rw[hb]at J;cases J
  · cases h
theorem MU (hm:ay w ω M) {k:Nat} (h:(aa M k).b= .dead) (p:Path):ω.β k p=none:=by
  cases hb:ω.β k p with
  |none=>rfl
  |some L=>
   obtain⟨r,J,_⟩:=hm.row k p L hb
   unfold rowAt at J
   rw[h]at J
   cases p with
   |none=>cases J
   |some ij=>obtain⟨i,j⟩:=ij;cases J
theorem iV (hm:ay w ω M) {k:Nat} (h:bR (aa M) k=true):rj ω M k:=by
  refine NS hm h λp=>MU hm ?_ p
  unfold bR at h
  split at h
  · next J U=>
    cases hb:(aa M k).b with
    |dead=>rfl
    |cells l=>rw[hb]at J;cases J
    |row a b c=>rw[hb]at J;cases J
  · cases h
theorem beq_false {a b:Nat} (h:Nat.beq a b=false):a≠b:=λe=>by subst e;rw[Nat.beq_refl]at h;cases h
theorem vE (hm:ay w ω M) {s:SV} {u:Value} (h:kV (aa M) s=true) (hd:Den w ω s u):u.oneCell'=true:=by
  have ref: ∀{k s:Nat} {p:Path} {R:Loc->Prop},bT (aa M) k s p=true->At ω k s p R->(∀L,R L->u.oneCell'=true)->u.oneCell'=true:=by
    intro k s p R J U h3
    obtain⟨_,L,_,hR⟩:=eP hm J U
    exact h3 L hR
  cases s with
  |aq=>cases h
  |v x=>obtain rfl:=hd;cases u<;>first|rfl|cases h
  |bl b=>obtain rfl:=hd;rfl
  |es=>obtain⟨p,rfl⟩:=hd;rfl
  |ptr k s p i j=>exact ref h hd λL hR=>by rw[hR.2];rfl
  |pe k s p i j len z=>exact ref h hd λL hR=>by rw[hR.2.2];rfl
  |sa k s p i j n=>exact ref h hd λL hR=>by rw[hR.2.2];rfl
  |aw k s p e n=>
   have e0:=gP hm h
   rcases hd with hd|⟨_,q,cap,rfl,_⟩
   · omega
   · rfl
  |pt q n f=>obtain⟨_,rfl,_⟩:=hd;rfl
  |sl q sz n f=>obtain⟨_,_,rfl,_⟩:=hd;rfl
  |pa q sz n f=>obtain⟨_,rfl,_⟩:=hd;rfl
  |il sz n f=>cases h
  |ag n f=>cases h
  |tp n f=>cases h
  |fn id n f=>obtain⟨_,rfl,_⟩:=hd;rfl
  |bm id s=>obtain⟨_,rfl,_⟩:=hd;rfl
  |mv nm s=>obtain⟨_,rfl,_⟩:=hd;rfl
  |ic t s=>obtain⟨_,rfl,_⟩:=hd;rfl
  |er t tf e at_=>rcases hd with⟨_,_,rfl⟩|⟨_,_,rfl⟩|⟨_,_,_,rfl,_⟩<;>rfl
theorem vk {m:Nat->aP} {s:SV} (h:kV m s=true):bY s=false:=by cases s<;>first|rfl|cases h
def wH (w:World) (ω:Ow) (M:Mem) (w':World) (k:Nat) (p:Path) (u:aC):Prop:=
  ∃ah,aT w ω M w' ah (u++M)/\ah.β k p=ω.β k p
theorem Ey (hm:ay w ω M) {nx k i j sz n:Nat} {f:Nat->Nat->SV} {r aR n2 nr:Nat} {g:Nat->Nat->SV} (hb:(aa M k).b= .row sz n f) (ia:k≠r) (hr:(aa M r).b= .row aR nr g)
    {pr:Prop} {u:aC} (he:wG (aa M) nx k i j sz n f r aR n2 g=some (pr,u)) (hp:pr) {x:Value} (hx:Head ω r none 0 n2 x) {L:Loc} (hL:ω.β k none=some L) (hi:i<L.db) (hj:j<sz):
    wH w ω M (w.setCell ⟨L.b,L.o+i*L.sz+j,none⟩ x) k none u:=by
  unfold wG at he
  split at he
  · next gW=>
    split at he
    · next kr no go Du=>
      split at he
      · next J U h3 h4=>
        have U:=beq_false U
        have h3:=beq_false h3
        simp only[Option.some.injEq,Prod.mk.injEq]at he
        obtain⟨rfl,rfl⟩:=he
        have cS:=iV hm h4
        obtain⟨bC,s1,e1,e2,e3⟩:=aT.Is hm (Ne.symm U) cS gW hb Du
        obtain⟨fY,s2,e4,e5⟩:=aT.kill s1.mem nx
        have Dz:kill (fresh (ja M k i j) nx (.row kr no λa b=>cL (go a b))) nx=nK (aa M) nx k i j kr no go++M:=by
          have a1:ov (jZ (aa M) k i j) (aa M)=aa (ja M k i j):=by rw[jA];rfl
          have a2:ov (eQ (ov (jZ (aa M) k i j) (aa M)) nx (.row kr no λa b=>cL (go a b))++jZ (aa M) k i j) (aa M)=aa (fresh (ja M k i j) nx (.row kr no λa b=>cL (go a b))):=by
            rw[jA,a1];rfl
          unfold nK
          simp only[a2]
          simp only[jF,eQ,a1,jZ,List.cons_append,List.nil_append]
          rfl
        rw[Dz]at s2
        have eo:aa (nK (aa M) nx k i j kr no go++M) k=⟨(aa M k).rs,(aa M k).ds+1,some (i,j),(aa M k).b⟩:=by
          rw[<-Dz,gv U];unfold fresh;rw[bV U,D5]
        have gz:aa (nK (aa M) nx k i j kr no go++M) r=aa M r:=by
          rw[<-Dz,gv h3];unfold fresh;rw[bV h3,vh ia]
        have Lb:fY.β k none=some L:=by rw[e4 _ _ (Ne.symm U),e3 _ _ (Ne.symm U) (by simp)];exact hL
        have Uv:fY.β r none=ω.β r none:=by rw[e4 _ _ (Ne.symm h3),e3 _ _ (Ne.symm h3) (by simp)]
        have yT:Head fY r none 0 n2 x:=by
          obtain⟨q,cap,y1,y2,y3,y4⟩:=hx
          exact⟨q,cap,y1,y2,y3,by rw[Uv];exact y4⟩
        obtain⟨ml,s3,e6,e7⟩:=aT.fill s2.mem ia (by rw[eo]) (by rw[eo];exact hb) hp (by rw[gz];exact hr) yT Lb hi hj
        refine⟨ml,?_,?_⟩
        · have:=(s1.trans s2).trans s3
          have CG:Sy.fill (nK (aa M) nx k i j kr no go++M) k i j r sz n f aR n2 g=BW (ov (nK (aa M) nx k i j kr no go) (aa M)) k i j r sz n f aR n2 g++nK (aa M) nx k i j kr no go++M:=by
            rw[jA];rfl
          rw[CG]at this
          exact this
        · rw[e6 _ _ ia (by simp),Lb,hL]
      · cases he
    · cases he
  · next i0 j0 gW=>
    split at he
    · next m4=>
      have m4:=Nat.eq_of_beq_eq_true m4
      simp only[Option.some.injEq,Prod.mk.injEq]at he
      obtain⟨rfl,rfl⟩:=he
      obtain⟨rfl,mT⟩:=hp
      subst m4
      obtain⟨ml,s3,e6,e7⟩:=aT.fill hm ia gW hb mT hr hx hL hi hj
      exact⟨ml,s3,e6 _ _ ia (by simp)⟩
    · cases he
theorem sF (hm:ay w ω M) {k:Nat} {l:List SV} (hb:(aa M k).b= .cells l) {L:Loc} (hL:ω.β k none=some L):L.sz=l.length/\L.db=1:=by
  obtain⟨r,e1,e2,e3,_⟩:=hm.row k none L hL
  unfold rowAt at e1
  rw[hb]at e1
  obtain rfl:=Option.some.inj e1
  exact⟨e2.symm,e3.symm⟩
theorem Fc (hm:ay w ω M) {nx k:Nat} {p:Path} {i j:Nat} {v:SV} {pr:Prop} {u:aC} (he:qH (aa M) nx k p i j v=some (pr,u)) (hp:pr) {x:Value} (hx:Den w ω v x) (J:x.oneCell'=true)
    {L:Loc} (hL:ω.β k p=some L) (hi:i<L.db):j<L.sz/\wH w ω M (w.setCell ⟨L.b,L.o+i*L.sz+j,none⟩ x) k p u:=by
  unfold qH at he
  split at he
  · next l hb=>
    obtain⟨c1,c2⟩:=sF hm hb hL
    split at he
    · next U h3=>
      have U:j<l.length:=Nat.le_of_ble_eq_true U
      simp only[Option.some.injEq,Prod.mk.injEq]at he
      obtain⟨_,rfl⟩:=he
      exact⟨by omega,ω,aT.FF hm hb hL hi U (vk h3) hx,rfl⟩
    · cases he
  · next sz n f hb=>
    obtain⟨r0,e1,e2,e3,_⟩:=hm.row k none L hL
    unfold rowAt at e1
    rw[hb]at e1
    obtain rfl:=Option.some.inj e1
    have e2:sz=L.sz:=e2
    split at he
    · next U h3=>
      have U:j<sz:=Nat.le_of_ble_eq_true U
      split at he
      · next h4=>
        simp only[Option.some.injEq,Prod.mk.injEq]at he
        obtain⟨rfl,rfl⟩:=he
        exact⟨by omega,ω,aT.Qv hm hb hL hi U (vk h4) hx hp,rfl⟩
      · cases he
    · next U h3=>
      have U:j<sz:=Nat.le_of_ble_eq_true U
      refine⟨by omega,?_⟩
      split at he
      · next r s e n2=>
        split at he
        · next aR nr g h4 h5 h6 h7=>
          have h5:=Nat.eq_of_beq_eq_true h5
          subst h5
          have h6:=beq_false h6
          have e0:=gP hm h4
          rcases hx with hx|⟨_,hx⟩
          · omega
          exact Ey hm hb h6 h7 he hp hx hL hi U
        · cases he
      · split at he
        · next aR _ g0 h4 h5 h6 h7=>
          have h6:=beq_false h6
          dsimp only at he
          split at he
          · next pr0 u0 hs=>
            simp only[Option.some.injEq,Prod.mk.injEq]at he
            obtain⟨rfl,rfl⟩:=he
            have hf:=iV hm h7
            have s1:=aT.dummy hm hf aR 0 g0
            have uf:fresh M (nx+1) (.row aR 0 g0)=eQ (aa M) (nx+1) (.row aR 0 g0)++M:=rfl
            rw[uf]at s1
            rw[jA]at hs
            obtain⟨pn,Cz⟩: ∃pn,x= .slice pn 0 0:=by
              unfold qt at h4
              split at h4
              · exact⟨none,hx⟩
              · exact hx
              · cases h4
            have eo:aa (eQ (aa M) (nx+1) (.row aR 0 g0)++M) k=aa M k:=by rw[<-uf];unfold fresh;rw[bV h6]
            have gz:(aa (eQ (aa M) (nx+1) (.row aR 0 g0)++M) (nx+1)).b= .row aR 0 g0:=by rw[<-uf];unfold fresh;rw[cz]
            obtain⟨fY,s2,e5⟩:=Ey s1.mem (by rw[eo];exact hb) (Ne.symm h6) gz hs hp (x:=x) ⟨pn,0,Cz,Nat.le_refl _,Nat.zero_le _,.inl rfl⟩ hL hi U
            refine⟨fY,?_,e5⟩
            rw[List.append_assoc]
            exact s1.trans s2
          · cases he
        · cases he
    · cases he
  · next sz n f i0 j0 hb=>
    split at he
    · next aR n2 g hg=>
      split at he
      · next U h3=>
        have U:j<aR:=Nat.le_of_ble_eq_true U
        simp only[Option.some.injEq,Prod.mk.injEq]at he
        obtain⟨rfl,rfl⟩:=he
        obtain⟨r0,e1,e2,e3,_⟩:=hm.row k _ L hL
        unfold rowAt at e1
        rw[hb]at e1
        have e1:inner ⟨sz,n,f⟩ i0 j0=some r0:=e1
        unfold inner at e1
        simp only[hg]at e1
        obtain rfl:=Option.some.inj e1
        have e2:aR=L.sz:=e2
        exact⟨by omega,ω,aT.NT hm hb hg hL hi U (vk h3) hx hp,rfl⟩
      · cases he
    · cases he
  · cases he
def qG (m:Nat->aP) (nx k:Nat) (p:Path) (i:Nat):Nat->List SV->Option (Prop×aC)
  |_,[]=>some (True,[])
  |j,[v]=>qH m nx k p i j v
  |j,v::r=>
   match qH m nx k p i j v with
   |some (p1,u1)=>match qG (ov u1 m) (nx+2) k p i (j+1) r with|some (p2,u2)=>some (p1/\p2,u2++u1)|none=>none
   |none=>none
theorem vp {b off:Nat} {c:Array Value} {T:TypeId} {x:Value} (h:w.heap[b]? =some (Obj.cells c T (0,0))) (ai:off<c.size) (J:x.oneCell'=true):(store ⟨b,off,none⟩ x).run P w= .ok () (w.setCell ⟨b,off,none⟩ x):=by
  have hc:w.cell? ⟨b,off,none⟩=some c[off]:=by simp[World.cell?,h,ai]
  have hf:w.frozen? ⟨b,off,none⟩=false:=by simp[World.frozen?,h]
  cases x<;>first|(cases J;done)|simp[store,Sem.run,hc,hf]
theorem Fb: ∀(cs:List SV) (us:List Value) {w:World} {ω:Ow} {M:Mem} (hm:ay w ω M) {nx k:Nat} {p:Path} {i j:Nat} {pr:Prop} {u:aC} (he:qG (aa M) nx k p i j cs=some (pr,u)) (hp:pr) (hx:bB w ω cs us) (J: ∀x∈us,x.oneCell'=true)
    {L:Loc} (hL:ω.β k p=some L) (hi:i<L.db) {ad:Addr} (q:Nat) (iA:ad.add q=⟨L.b,L.o+i*L.sz+j,none⟩),∃w',(storeCells ad us q).run P w= .ok () w'/\wH w ω M w' k p u
  | [],[],w,ω,M,hm,nx,k,p,i,j,pr,u,he,hp,hx,J,L,hL,hi,ad,q,iA=>by
    simp only[qG,Option.some.injEq,Prod.mk.injEq]at he
    obtain⟨_,rfl⟩:=he
    exact⟨w,by simp[storeCells],ω,aT.refl hm,rfl⟩
  |v::r,x::t,w,ω,M,hm,nx,k,p,i,j,pr,u,he,hp,⟨hx,yM⟩,J,L,hL,hi,ad,q,iA=>by
   have key: ∀{p1:Prop} {u1:aC},qH (aa M) nx k p i j v=some (p1,u1)->p1->(store (ad.add q) x).run P w= .ok () (w.setCell ⟨L.b,L.o+i*L.sz+j,none⟩ x)/\wH w ω M (w.setCell ⟨L.b,L.o+i*L.sz+j,none⟩ x) k p u1:=by
     intro p1 u1 hs eM
     obtain⟨hj,bc⟩:=Fc hm hs eM hx (J x (by simp)) hL hi
     obtain⟨_,_,_,_,c,T,g1,g2,g3,g4⟩:=hm.row _ _ _ hL
     obtain⟨y,y1,_⟩:=g4 i hi j hj
     rw[iA]
     exact⟨vp g1 (Array.getElem?_eq_some_iff.1 y1).1 (J x (by simp)),bc⟩
   cases r with
   |nil=>
    cases t with
    |nil=>
     obtain⟨r1,bc⟩:=key (by simpa [qG]using he) hp
     exact⟨_,by simp[storeCells,r1],bc⟩
    |cons _ _=>exact yM.elim
   |cons v2 r2=>
    simp only[qG]at he
    split at he
    · next p1 u1 hs=>
      split at he
      · next p2 u2 cY=>
        simp only[Option.some.injEq,Prod.mk.injEq]at he
        obtain⟨rfl,rfl⟩:=he
        obtain⟨r1,bC,s1,e1⟩:=key hs hp.1
        rw[jA]at cY
        have CF:ad.add (q+1)=⟨L.b,L.o+i*L.sz+(j+1),none⟩:=by
          rw[<-add_add,iA,iq];simp[Nat.add_assoc]
        obtain⟨w',Uw,fY,s2,e2⟩:=Fb (v2::r2) t s1.mem cY hp.2 (yM.ext s1.ext) (λy hy=>J y (by simp[hy])) (e1.trans hL) hi (q+1) CF
        refine⟨w',by simp[storeCells,r1,Uw,Result.andThen],fY,?_,e2.trans e1⟩
        rw[List.append_assoc]
        exact s1.trans s2
      · cases he
    · cases he
  | [],_::_,_,_,_,_,_,_,_,_,_,_,_,_,_,hx,_,_,_,_,_,_,_=>hx.elim
  |_::_,[],_,_,_,_,_,_,_,_,_,_,_,_,_,hx,_,_,_,_,_,_,_=>hx.elim
end
end Go.Sy
set_option linter.unusedVariables false
set_option linter.unusedSimpArgs false
namespace Go.Sy
open Go.RowKit
section
variable {P:Program} {w:World} {ω:Ow} {ρ:Operand->SV} {M:Mem} {a:Act}
def lP (P:Program) (w:World) (ω:Ow) (M:Mem) (a:Act) (o:Oper) (s:SV) (u:aC):Prop:=
  ∃n v w' ah,(execOp a.eval o).run P w= .ok n w'/\(n= .value v\/(n= .skip/\v=undef))/\aT w ω M w' ah (u++M)/\Den w' ah s v
structure gD (w:World) (ω:Ow) (w':World) (ah:Ow) (ids:Nat->Prop):Prop where
  cw:Cw w w'
  A: ∀b,ω.A b->ah.A b
  Z:ah.Z=ω.Z
  β: ∀k p,¬ids k->ah.β k p=ω.β k p
  new: ∀k p L,ids k->ah.β k p=some L->w.heap.size<=L.b
  cur:ah.cur=ω.cur
def jK (P:Program) (w:World) (ω:Ow) (M:Mem) (a:Act) (o:Oper) (s:SV) (u:aC):Prop:=
  ∃n v w' ah,(execOp a.eval o).run P w= .ok n w'/\(n= .value v\/(n= .skip/\v=undef))/\aT w ω M w' ah (u++M)/\Den w' ah s v/\gD w ω w' ah (λk=>k∈u.map (·.1))
theorem jK.rE {o:Oper} {s:SV} {u:aC} (h:jK P w ω M a o s u):lP P w ω M a o s u:=by
  obtain⟨n,v,w',ah,J,U,h3,h4,_⟩:=h
  exact⟨n,v,w',ah,J,U,h3,h4⟩
theorem G' {nx:Nat} {ob:Obj} {L:Loc} {u:aC} (hb:L.b=w.heap.size) (hf: ∀p,ω.β nx p=none) (hu:u.map (·.1)= [nx]):gD w ω (w.alloc ob) (ω.add nx L) (λk=>k∈u.map (·.1)) where
  cw:=⟨rfl,rfl,rfl,by simp,λb hb=>Below.heap_alloc _ _ _ hb⟩
  A:=λb h=> .inl h
  Z:=rfl
  β:=λk p hk=>by
   show(if k=nx/\p=none then some L else ω.β k p)=_
   rw[if_neg]
   rintro ⟨rfl,_⟩
   rw[hu]at hk
   exact hk (by simp)
  new:=λk p L' hk h=>by
    have h:(if k=nx/\p=none then some L else ω.β k p)=some L':=h
    rw[hu]at hk
    have hk:k=nx:=by simpa using hk
    subst hk
    split at h
    · obtain rfl:=Option.some.inj h;rw[hb];exact Nat.le_refl _
    · rw[hf]at h;cases h
  cur:=rfl
/-! ### boxes -/
def BQ (m:Nat->aP) (nx:Nat) (s:SV):Option (Prop×SV×aC):=
  match lG m s,bR m nx with
  |some cs,true=>match cs.all λs=>!bY s with|true=>some (True,.ptr nx (m nx).rs none 0 0,eQ m nx (.cells cs))|false=>none
  |_,_=>none
def zeroCells (P:Program) (T:TypeId):Option (List SV):=
  match P.info? T with
  |some i=>match i.zero with|some z=>some (z.cells.toList.map .v)|none=>none
  |none=>none
def AF (P:Program) (m:Nat->aP) (nx:Nat) (T:TypeId):Option (Prop×SV×aC):=
  match zeroCells P T,bR m nx with
  |some cs,true=>some (True,.ptr nx (m nx).rs none 0 0,eQ m nx (.cells cs))
  |_,_=>none
def oU (l:List SV) (j len z:Nat) (kk:IntKind) (x:Int) (zs:List Int) (q:Nat):SV:=
  match Nat.ble j q,Nat.blt q (j+len)with
  |true,true=> .v (.int kk (bif Nat.beq (q -j) z then x else dK zs (q -j)))
  |_,_=>aA l q
def Bf:List SV->Option (IntKind×Int)
  | [.v (.int k x)]=>some (k,x)
  |_=>none
theorem MS {l:List SV} {k:IntKind} {x:Int} (h:Bf l=some (k,x)):l= [.v (.int k x)]:=by
  unfold Bf at h
  split at h
  · simp only[Option.some.injEq,Prod.mk.injEq]at h
    obtain⟨rfl,rfl⟩:=h;rfl
  · cases h
def AG (P:Program) (m:Nat->aP) (nx:Nat) (T:TypeId) (ad s:SV):Option (Prop×SV×aC):=
  match lG m s,P.info? T with
  |some cs,some i=>
   match Nat.beq cs.length i.size,cs.all (kV m)with
   |true,true=>
    match ad with
    | .ptr k st p ii j=>match bT m k st p with|true=>(match qG m nx k p ii j cs with|some (pr,u)=>some (pr,.aq,u)|none=>none)|false=>none
    | .pe k st p ii j len z=>
      match bT m k st p,(m k).b,p,Bf cs with
      |true,.cells l,none,some (kk,x)=>
       match Nat.ble (j+len) l.length,mA kk ((List.range len).map λq=>aA l (j+q))with
       |true,some zs=>some (True,.aq,nP m k (.cells ((List.range l.length).map (oU l j len z kk x zs))))
       |_,_=>none
      |_,_,_,_=>none
    |_=>none
   |_,_=>none
  |_,_=>none
theorem Pc (l:List Value):bB w ω (l.map .v) l:=by
  induction l with
  |nil=>trivial
  |cons x r ih=>exact⟨rfl,ih⟩
theorem FP (hm:ay w ω M) {nx:Nat} (hf:bR (aa M) nx=true) {cs:List SV} {c:Array Value} {T:TypeId} (hc:bB w ω cs c.toList) (cu: ∀j,bY (aA cs j)=false):
    ∃ah,aT w ω M (w.alloc (.cells c T)) ah (eQ (aa M) nx (.cells cs)++M)/\Den (w.alloc (.cells c T)) ah (.ptr nx (aa M nx).rs none 0 0) (.pointer (some ⟨w.heap.size,0,none⟩))/\gD w ω (w.alloc (.cells c T)) ah (λk=>k∈(eQ (aa M) nx (.cells cs)).map (·.1)):=by
  have hlen:=hc.len
  have cS:=iV hm hf
  let L:Loc:=⟨w.heap.size,0,cs.length,1,c.size⟩
  have bh:Ext w ω (w.alloc (.cells c T)) (ω.add nx L):=zF rfl cS.2.2
  refine⟨ω.add nx L,aT.alloc (r:=⟨cs.length,1,λ_ j=>aA cs j⟩) hm cS rfl rfl (by simp at hlen;show 1*cs.length<=_;omega) (λi hi j hj=>?_),Or.inr ⟨?_,L,by simp[Ow.add],by show 0<1;omega,by simp[L]⟩,G' rfl cS.2.2 rfl⟩
  · have hi:i=0:=by have:i<1:=hi;omega
    subst hi
    have hj:j<cs.length:=hj
    obtain⟨x,e1,e2⟩:=hc.get? j hj
    refine⟨x,by simpa using e1,?_⟩
    show bW _ _ _ _ _ _ (aA cs j) x
    rw[dO (cu j)]
    exact e2.ext bh
  · show _=st ω.cur nx none
    rw[hm.cur];rfl
theorem zA {l:List SV} (h:(l.all λs=>!bY s)=true) (j:Nat):bY (aA l j)=false:=by
  unfold aA
  rw[List.getD_eq_getElem?_getD]
  cases hj:l[j]? with
  |none=>rfl
  |some x=>simpa using List.all_eq_true.1 h x (List.mem_of_getElem? hj)
theorem Io (h:Cx P w ω ρ M a) {o:Oper} {T:TypeId} {x:Operand} {nx:Nat} {pr:Prop} {s:SV} {u:aC} (ho:o.op= .box T x) (he:BQ (aa M) nx (ρ x)=some (pr,s,u)):jK P w ω M a o s u:=by
  unfold BQ at he
  split at he
  · next cs gF hf=>
    split at he
    · next cu=>
      simp only[Option.some.injEq,Prod.mk.injEq]at he
      obtain⟨_,rfl,rfl⟩:=he
      obtain⟨ah,J,U,h3⟩:=FP (T:=T) h.mem hf (sf h.mem gF (h.val x)) (zA cu)
      exact⟨_,_,_,ah,by simp[execOp,ho,go_sem],.inl rfl,J,U,h3⟩
    · cases he
  · cases he
theorem NN (l:List Value) (j:Nat):bY (aA (l.map .v) j)=false:=by
  unfold aA
  rw[List.getD_eq_getElem?_getD,List.getElem?_map]
  cases l[j]? <;>rfl
theorem FG (h:Cx P w ω ρ M a) {o:Oper} {T:TypeId} {nx:Nat} {pr:Prop} {s:SV} {u:aC} (ho:o.op= .alloc T) (he:AF P (aa M) nx T=some (pr,s,u)):jK P w ω M a o s u:=by
  unfold AF at he
  split at he
  · next cs gF hf=>
    simp only[Option.some.injEq,Prod.mk.injEq]at he
    obtain⟨_,rfl,rfl⟩:=he
    unfold zeroCells at gF
    split at gF
    · next i hi=>
      split at gF
      · next z hz=>
        obtain rfl:=Option.some.inj gF
        have pO:(zeroValue T).run P w= .ok z w:=by simp[zeroValue,run_typeInfo w hi,hz,Result.andThen]
        obtain⟨ah,J,U,h3⟩:=FP (T:=T) h.mem hf (Pc z.cells.toList) (NN _)
        exact⟨_,_,_,ah,by simp[execOp,ho,go_sem,pO],.inl rfl,J,U,h3⟩
      · cases gF
    · cases gF
  · cases he
theorem vA (hm:ay w ω M): ∀{cs:List SV} {us:List Value},cs.all (kV (aa M))=true->bB w ω cs us-> ∀u∈us,u.oneCell'=true
  | [],[],_,_,u,hu=>by cases hu
  |s::r,x::t,h,⟨J,U⟩,u,hu=>by
   simp only[List.all_cons,Bool.and_eq_true]at h
   rcases List.mem_cons.1 hu with rfl|hu
   · exact vE hm h.1 J
   · exact vA hm h.2 U u hu
  | [],_::_,_,hd,_,_=>hd.elim
  |_::_,[],_,hd,_,_=>hd.elim
theorem NH (h:Cx P w ω ρ M a) {o:Oper} {T:TypeId} {x y:Operand} {nx:Nat} {pr:Prop} {s:SV} {u:aC} (ho:o.op= .store T x y) (he:AG P (aa M) nx T (ρ x) (ρ y)=some (pr,s,u)) (hp:pr):lP P w ω M a o s u:=by
  have hm:=h.mem
  have hx:=h.val x
  unfold AG at he
  split at he
  · next cs i gF hi=>
    have hc:=sf hm gF (h.val y)
    split at he
    · next hlen gU=>
      have hlen:=Nat.eq_of_beq_eq_true hlen
      have J:=vA hm gU hc
      have bu:(a.eval y).cells.size=i.size:=by rw[<-Array.length_toList,<-hc.len,hlen]
      have cY:(sizeOf T).run P w= .ok i.size w:=by simp[sizeOf,run_typeInfo w hi,Result.andThen]
      have run: ∀{ad w'},a.eval x= .pointer (some ad)->(storeCells ad (a.eval y).cells.toList).run P w= .ok () w'->(execOp a.eval o).run P w= .ok .skip w':=by
        intro ad w' ex hr
        simp[execOp,ho,ex,Instr.storeAt,Instr.sureAddr,storeVar,cY,bu,hr,Result.andThen]
      split at he
      · next k st p ii j hs=>
        rw[hs]at hx
        split at he
        · next aZ=>
          split at he
          · next La u' bc=>
            simp only[Option.some.injEq,Prod.mk.injEq]at he
            obtain⟨rfl,rfl,rfl⟩:=he
            obtain⟨e0,L,hL,fI,ex⟩:=eP hm aZ hx
            obtain⟨w',r1,ah,s1,_⟩:=Fb (P:=P) cs _ hm bc hp hc J hL fI (ad:=⟨L.b,L.o+ii*L.sz+j,none⟩) 0 (by simp[Addr.add])
            exact⟨_,undef,w',ah,run ex r1,.inr ⟨rfl,rfl⟩,s1,trivial⟩
          · cases he
        · cases he
      · next k st p ii j len z hs=>
        rw[hs]at hx
        split at he
        · next l kk xz hb xw aZ=>
          have xw:=MS xw
          split at he
          · next zs hle dL=>
            have hle:=Nat.le_of_ble_eq_true hle
            simp only[Option.some.injEq,Prod.mk.injEq]at he
            obtain⟨_,rfl,rfl⟩:=he
            obtain⟨e0,L,hL,fI,hz,ex⟩:=eP hm aZ hx
            obtain⟨c1,c2⟩:=sF hm hb hL
            have Dx:ii=0:=by omega
            subst Dx
            obtain⟨y0,Dy⟩: ∃y0,(a.eval y).cells.toList= [y0]:=by
              have:=hc.len
              rw[xw]at this
              match h:(a.eval y).cells.toList,this with
              | [y0],_=>exact⟨y0,rfl⟩
            rw[Dy,xw]at hc
            rw[Dy]at J
            have tW:y0= .int kk xz:=hc.1
            subst tW
            obtain⟨_,_,_,_,c,T0,g1,g2,g3,g4⟩:=hm.row _ _ _ hL
            obtain⟨_,y1,_⟩:=g4 0 (by omega) (j+z) (by omega)
            have hr:=vp (P:=P) g1 (Array.getElem?_eq_some_iff.1 y1).1 (x:= .int kk xz) rfl
            have dL:=qf dL
            refine⟨_,undef,w.setCell ⟨L.b,L.o+0*L.sz+(j+z),none⟩ (.int kk xz),ω,run ex (by rw[Dy];simp only[Nat.zero_mul,Nat.add_zero]at hr⊢;simp[storeCells,Addr.add,hr]),.inr ⟨rfl,rfl⟩,?_,trivial⟩
            refine aT.put hm hL (by omega) (by omega) ⟨rfl,rfl,rfl⟩ (λ_ _=>⟨l,hb⟩) ?_
            intro q r hr
            rw[hb]at hr
            cases q with
            |some ij=>obtain⟨i',j'⟩:=ij;cases hr
            |none=>
             obtain rfl:=Option.some.inj hr
             have get: ∀b,b<l.length->aA ((List.range l.length).map (oU l j len z kk xz zs)) b=oU l j len z kk xz zs b:=by
               intro b hb
               simp[aA,List.getD_eq_getElem?_getD,hb]
             refine⟨⟨((List.range l.length).map (oU l j len z kk xz zs)).length,1,λ_ q=>aA ((List.range l.length).map (oU l j len z kk xz zs)) q⟩,rfl,by simp,rfl,λa0 ha b dc=>⟨?_,?_⟩⟩
             · rintro ⟨_,rfl,rfl⟩ w' jQ
               show bW _ _ _ _ _ _ (aA _ (j+z)) _
               have dc:j+z<l.length:=dc
               rw[get _ dc]
               have b1:Nat.ble j (j+z)=true:=Nat.ble_eq_true_of_le (by omega)
               have b2:Nat.blt (j+z) (j+len)=true:=Nat.ble_eq_true_of_le (by omega)
               unfold oU
               rw[b1,b2,show j+z -j=z by omega,Nat.beq_refl]
               rfl
             · intro bq w' yv hy
               show bW _ _ _ _ _ _ (aA _ b) _
               have dc:b<l.length:=dc
               have ha:a0<1:=ha
               rw[get _ dc]
               have hy:bW _ _ _ _ _ _ (aA l b) yv:=hy
               unfold oU
               split
               · next b1 b2=>
                 have b1:=Nat.le_of_ble_eq_true b1
                 have b2:b<j+len:=Nat.le_of_ble_eq_true b2
                 have hq:=congrArg (λl=>l[b -j]?) dL
                 simp only[List.getElem?_map,List.getElem?_range (show b -j<len by omega),Option.map_some]at hq
                 cases iO:zs[b -j]? with
                 |none=>rw[iO]at hq;cases hq
                 |some y2=>
                  rw[iO]at hq
                  simp only[Option.map_some,Option.some.injEq,show j+(b -j)=b by omega]at hq
                  rw[hq]at hy
                  have je:dK zs (b -j)=y2:=by simp[dK,List.getD_eq_getElem?_getD,iO]
                  have Uu:Nat.beq (b -j) z=false:=by
                    cases nZ:Nat.beq (b -j) z
                    · rfl
                    · have:=Nat.eq_of_beq_eq_true nZ
                      exact absurd ⟨rfl,by omega,by omega⟩ bq
                  rw[Uu,je]
                  exact hy
               · exact hy
          · cases he
        · cases he
      · cases he
    · cases he
  · cases he
end
end Go.Sy
