/-
  Sy, part 5: arithmetic, tests, aggregates, interfaces, tuples, lengths.
-/
import Derived.Test.YthgmgkabnffniaaGreatDoorYA
import Derived.Laws.MakeOwn
set_option linter.unusedVariables false
set_option linter.unusedSimpArgs false
namespace Go.Sy
open Go.RowKit
def d_ (op:BinOp) (k:IntKind) (x y:Int):Int:=
 match op with
 | .and=>k.wrap (BitVec.ofInt k.bits x&&&BitVec.ofInt k.bits y).toNat
 | .or=>k.wrap (BitVec.ofInt k.bits x|||BitVec.ofInt k.bits y).toNat
 | .xor=>k.wrap (BitVec.ofInt k.bits x^^^BitVec.ofInt k.bits y).toNat
 |_=>k.wrap (BitVec.ofInt k.bits x&&& ~~~BitVec.ofInt k.bits y).toNat
def t' (k:IntKind) (z:Int):Prop:=k.wrap z=z
def G8 (sg:Bool) (op:BinOp) (k:IntKind) (x y:Int):R:=
 match op with
 | .add=>match sg with|true=> .ok (.v (.int k (k.wrap (x+y))))|false=> .dL (t' k (x+y)) (.v (.int k (x+y)))
 | .sub=>match sg with|true=> .ok (.v (.int k (k.wrap (x -y))))|false=> .dL (t' k (x -y)) (.v (.int k (x -y)))
 | .mul=>match sg with|true=> .ok (.v (.int k (k.wrap (x*y))))|false=> .dL (t' k (x*y)) (.v (.int k (x*y)))
 | .quo=>match sg with|true=> .dL (y≠0) (.v (.int k (k.wrap (x.tdiv y))))|false=> .dL (0<=x/\0<y/\t' k (x/y)) (.v (.int k (x/y)))
 | .rem=>match sg with|true=> .dL (y≠0) (.v (.int k (x.tmod y)))|false=> .dL (0<=x/\0<y) (.v (.int k (x%y)))
 | .and=> .ok (.v (.int k (d_ .and k x y)))
 | .or=> .ok (.v (.int k (d_ .or k x y)))
 | .xor=> .ok (.v (.int k (d_ .xor k x y)))
 | .andNot=> .ok (.v (.int k (d_ .andNot k x y)))
 | .eql=> .ok (.v (.bool (x==y)))
 | .neq=> .ok (.v (.bool (x !=y)))
 | .lss=> .ok (.v (.bool (decide (x<y))))
 | .leq=> .ok (.v (.bool (decide (x<=y))))
 | .gtr=> .ok (.v (.bool (decide (y<x))))
 | .geq=> .ok (.v (.bool (decide (y<=x))))
 |_=> .bad
def Ge (op:BinOp) (k:IntKind) (x y:Int):R:=
 match op with
 | .shl=> .dL (0<=y) (.v (.int k (k.wrap (x*2^(min y.toNat k.bits)))))
 | .shr=> .dL (0<=y) (.v (.int k (x.fdiv (2^(min y.toNat k.bits)))))
 |_=> .bad
def ze:Operand->Bool
 | .const .nilIface=>true
 |_=>false
def HM (op:BinOp) (a b:ByteArray):R:=
 match op with
 | .add=> .dL ((a.size:Int)+b.size<=9223372036854775807) (.v (.string (a++b)))
 | .eql=> .ok (.v (.bool (a.toList==b.toList)))
 | .neq=> .ok (.v (.bool (a.toList !=b.toList)))
 |_=> .bad
def isIface:Option TypeDesc->Bool
 |some (.interface _)=>true
 |_=>false
def xa (P:Program) (op:BinOp) (T:TypeId) (b:SV) (c:SV):R:=
 match isIface (P.underlying T),op with
 |true,.eql=> .ok b
 |true,.neq=> .ok c
 |_,_=> .bad
def G9 (P:Program) (op:BinOp) (T:TypeId) (s t:SV):R:=
 match P.underlying T,mR s,mR t,op with
 |some .bool,some a,some b,.eql=> .ok (.v (.bool (a==b)))
 |some .bool,some a,some b,.neq=> .ok (.v (.bool (a !=b)))
 |_,_,_,_=> .bad
def HJ (P:Program) (sg:Bool) (op:BinOp) (T:TypeId) (y:Operand) (s t:SV):R:=
 match s,t with
 | .v (.int k a),.v (.int k' b)=>
   match op with
   | .shl| .shr=>Ge op k a b
   |_=>match s_ k k' with|true=>G8 sg op k a b|false=> .bad
 | .v (.string a),.v (.string b)=>HM op a b
 | .er _ _ e _,.v .nilIface=>match ze y with|true=>xa P op T (.v (.bool (e==0))) (.v (.bool (e !=0)))|false=> .bad
 | .v .nilIface,.v .nilIface=>match ze y with|true=>xa P op T (.bl true) (.bl false)|false=> .bad
 | .ic _ _,.v .nilIface=>xa P op T (.bl false) (.bl true)
 | .v (.iface _ _),.v .nilIface=>xa P op T (.bl false) (.bl true)
 |s,t=>G9 P op T s t
section
variable {P:Program} {w:World} {ω:Ow} {ρ:Operand->SV} {M:Mem} {a:Act}
theorem EB (op:BinOp) (T:TypeId) (x y:Operand) (k k':IntKind) (m n:Int) (w:World):(eqGuard op T x y (.int k m) (.int k' n)).run P w= .ok () w:=by unfold eqGuard;cases op<;>simp
theorem EC (op:BinOp) (T:TypeId) (x y:Operand) (m n:ByteArray) (w:World):(eqGuard op T x y (.string m) (.string n)).run P w= .ok () w:=by unfold eqGuard;cases op<;>simp
theorem Jf (op:BinOp) (T:TypeId) (x y:Operand) (m n:Bool) (w:World):(eqGuard op T x y (.bool m) (.bool n)).run P w= .ok () w:=by unfold eqGuard;cases op<;>simp
theorem Tc (op:BinOp) (T:TypeId) (x y:Operand) (t:TypeId) (m:Value) (w:World):(eqGuard op T x y (.iface t m) .nilIface).run P w= .ok () w:=by unfold eqGuard;cases op<;>simp
theorem To (op:BinOp) (T:TypeId) (x y:Operand) (b:ze y=true) (w:World):(eqGuard op T x y .nilIface .nilIface).run P w= .ok () w:=by
 unfold ze at b;split at b
 ·unfold eqGuard;cases op<;>simp
 ·cases b
theorem Xi {x y:Int} (h:0<=x):x.tdiv y=x/y:=Int.tdiv_eq_ediv_of_nonneg h
theorem Xj {x y:Int} (h:0<=x):x.tmod y=x%y:=Int.tmod_eq_emod_of_nonneg h
theorem Xk (sg:Bool) (op:BinOp) (T:TypeId) (k:IntKind) (x y:Int) (K:SV->Prop) (b:(G8 sg op k x y).run K):
 ∃u,(∀w,(binOp op T (.int k x) (.int k y)).run P w= .ok u w)/\K (.v u):=by
 unfold G8 at b;split at b
 case h_1=>
  cases sg with
  |true=>exact⟨_,λw=>by simp[binOp,Op.intArith],b⟩
  |false=>exact⟨_,λw=>by simp[binOp,Op.intArith,show k.wrap (x+y)=x+y from b.1],b.2⟩
 case h_2=>
  cases sg with
  |true=>exact⟨_,λw=>by simp[binOp,Op.intArith],b⟩
  |false=>exact⟨_,λw=>by simp[binOp,Op.intArith,show k.wrap (x -y)=x -y from b.1],b.2⟩
 case h_3=>
  cases sg with
  |true=>exact⟨_,λw=>by simp[binOp,Op.intArith],b⟩
  |false=>exact⟨_,λw=>by simp[binOp,Op.intArith,show k.wrap (x*y)=x*y from b.1],b.2⟩
 case h_4=>
  cases sg with
  |true=>exact⟨_,λw=>by simp[binOp,Op.intDiv,b.1],b.2⟩
  |false=>obtain⟨⟨h1,h2,d⟩,c⟩:=b;exact⟨_,λw=>by simp[binOp,Op.intDiv,show y≠0 by omega,Xi h1,show k.wrap (x/y)=x/y from d],c⟩
 case h_5=>
  cases sg with
  |true=>exact⟨_,λw=>by simp[binOp,Op.intDiv,b.1],b.2⟩
  |false=>obtain⟨⟨h1,h2⟩,c⟩:=b;exact⟨_,λw=>by simp[binOp,Op.intDiv,show y≠0 by omega,Xj h1],c⟩
 case h_16=>exact b.elim
 all_goals exact⟨_,λw=>by simp[binOp,Op.intArith,Op.intBits,Op.intCmp,d_],b⟩
theorem KZ (op:BinOp) (T:TypeId) (k k':IntKind) (x y:Int) (K:SV->Prop) (b:(Ge op k x y).run K):
 ∃u,(∀w,(binOp op T (.int k x) (.int k' y)).run P w= .ok u w)/\K (.v u):=by
 unfold Ge at b;split at b
 ·exact⟨_,λw=>by simp[binOp,Op.shift,Int.not_lt.2 b.1],b.2⟩
 ·exact⟨_,λw=>by simp[binOp,Op.shift,Int.not_lt.2 b.1],b.2⟩
 ·exact b.elim
theorem kP {o:Oper} {op:BinOp} {T b:TypeId} {x y:Operand} (ho:o.op= .binOp op T x y b) {u v r:Value} (ex:a.eval x=u) (c:a.eval y=v)
 (d:∀w:World,(eqGuard op T x y u v).run P w= .ok () w) (e:∀w:World,(binOp op T u v).run P w= .ok r w):(execOp a.eval o).run P w= .ok (.value r) w:=by
 simp[execOp,ho,ex,c,d,e,Result.andThen]
theorem Te {d:Option TypeDesc} (h:isIface d=true):∃b,d=some (.interface b):=by
 unfold isIface at h;split at h
 ·exact⟨_,rfl⟩
 ·cases h
theorem Jp {T:TypeId} (c:isIface (P.underlying T)=true) (b:Bool) (u:Value) (e:(b=true/\u= .nilIface)\/(b=false/\∃t x,u= .iface t x)) (w:World):
 (Op.equal T u .nilIface).run P w= .ok b w:=by
 obtain⟨g,c⟩:=Te c;have h1:∀d:Nat,(Op.equalIn (d+1) T .nilIface .nilIface).run P w= .ok true w:=λd=>by simp[Op.equalIn,run_underlying c]
 have h2:∀(d:Nat) t x,(Op.equalIn (d+1) T (.iface t x) .nilIface).run P w= .ok false w:=λd t x=>by simp[Op.equalIn,run_underlying c]
 rcases e with⟨rfl,rfl⟩|⟨rfl,t,x,rfl⟩
 ·simp[Op.equal,Op.maxDepth,h1 9999]
 ·simp[Op.equal,Op.maxDepth,h2 9999]
theorem wz {T:TypeId} {u v:Value} (b:(∀k n,u≠ .int k n)/\(∀k n,u≠ .float k n)/\(∀k n m,u≠ .complex k n m)/\(∀s,u≠ .string s)):binOp .eql T u v=(do pure (.bool (<-Op.equal T u v)))/\binOp .neq T u v=(do pure (.bool (!(<-Op.equal T u v)))):=by obtain⟨h1,h2,c,d⟩:=b;constructor<;>(unfold binOp;cases u<;>first|rfl|exact absurd rfl (h1 _ _)|exact absurd rfl (h2 _ _)|exact absurd rfl (c _ _ _)|exact absurd rfl (d _))
theorem wO {o:Oper} {op:BinOp} {T p:TypeId} {x y:Operand} (ho:o.op= .binOp op T x y p) {u:Value} (ex:a.eval x=u) (g:a.eval y= .nilIface) (b:Bool)
 (i:(b=true/\u= .nilIface/\ze y=true)\/(b=false/\∃t x,u= .iface t x)) {s t:SV} (hs:Den w ω s (.bool b)) (q:Den w ω t (.bool !b)) {K:SV->Prop} (d:(xa P op T s t).run K):fj P w ω a o K:=by
 have j:∀(op:BinOp) (w:World),(eqGuard op T x y u .nilIface).run P w= .ok () w:=by
  intro op w;rcases i with⟨_,rfl,r⟩|⟨_,t,z,rfl⟩
  ·exact To op T x y r w
  ·exact Tc op T x y t z w
 have c:(b=true/\u= .nilIface)\/(b=false/\∃t x,u= .iface t x):=i.imp (λh=>⟨h.1,h.2.1⟩) id;have l:(∀k n,u≠ .int k n)/\(∀k n,u≠ .float k n)/\(∀k n m,u≠ .complex k n m)/\(∀s,u≠ .string s):=by rcases c with⟨_,rfl⟩|⟨_,t,x,rfl⟩<;>simp
 unfold xa at d;split at d
 ·next e=>exact⟨_,.bool b,kP ho ex g (j _) (λw=>by rw[(wz l).1];simp[Jp e b u c w,Result.andThen]),hs,d⟩
 ·next e=>exact⟨_,.bool !b,kP ho ex g (j _) (λw=>by rw[(wz l).2];simp[Jp e b u c w,Result.andThen]),q,d⟩
 ·exact d.elim
theorem Xl {o:Oper} {op:BinOp} {T j:TypeId} {x y:Operand} (ho:o.op= .binOp op T x y j) {s t:SV} (h:Den w ω s (a.eval x)) (i:Den w ω t (a.eval y)) {K:SV->Prop} (b:(G9 P op T s t).run K):fj P w ω a o K:=by
 unfold G9 at b;split at b
 ·next m n c hs e=>
  have ex:=kO hs h;have g:=kO e i;have h1:∀(d:Nat) (w:World),(Op.equalIn (d+1) T (.bool m) (.bool n)).run P w= .ok (m==n) w:=λd w=>by simp[Op.equalIn,run_underlying c]
  exact⟨.v (.bool (m==n)),.bool (m==n),kP ho ex g (λw=>Jf _ _ _ _ _ _ w) (λw=>by rw[(wz (by simp)).1];simp[Op.equal,Op.maxDepth,h1 9999]),rfl,b⟩
 ·next m n c hs e=>
  have ex:=kO hs h;have g:=kO e i;have h1:∀(d:Nat) (w:World),(Op.equalIn (d+1) T (.bool m) (.bool n)).run P w= .ok (m==n) w:=λd w=>by simp[Op.equalIn,run_underlying c]
  exact⟨.v (.bool (m !=n)),.bool (m !=n),kP ho ex g (λw=>Jf _ _ _ _ _ _ w) (λw=>by rw[(wz (by simp)).2];simp[Op.equal,Op.maxDepth,h1 9999,bne]),rfl,b⟩
 ·exact b.elim
theorem Y2 {o:Oper} {op:BinOp} {T d:TypeId} {x y:Operand} (ho:o.op= .binOp op T x y d) {m n:ByteArray} (ex:a.eval x= .string m) (c:a.eval y= .string n) {K:SV->Prop} (b:(HM op m n).run K):fj P w ω a o K:=by
 unfold HM at b;split at b
 ·exact⟨.v (.string (m++n)),.string (m++n),kP ho ex c (λw=>EC _ _ _ _ _ _ w) (λw=>by simp[binOp,Op.stringOp,b.1]),rfl,b.2⟩
 ·exact⟨.v (.bool (m.toList==n.toList)),.bool (m.toList==n.toList),kP ho ex c (λw=>EC _ _ _ _ _ _ w) (λw=>by simp[binOp,Op.stringOp]),rfl,b⟩
 ·exact⟨.v (.bool (m.toList !=n.toList)),.bool (m.toList !=n.toList),kP ho ex c (λw=>EC _ _ _ _ _ _ w) (λw=>by simp[binOp,Op.stringOp,bne]),rfl,b⟩
 ·exact b.elim
theorem YZ (h:Cx P w ω ρ M a) {sg:Bool} {o:Oper} {op:BinOp} {T l:TypeId} {x y:Operand} {K:SV->Prop} (ho:o.op= .binOp op T x y l)
 (b:(HJ P sg op T y (ρ x) (ρ y)).run K):fj P w ω a o K:=by
 have d:=h.val x;have c:=h.val y;unfold HJ at b;split at b
 ·next k m k' n hs g=>
  rw[hs]at d;rw[g]at c;have ex:a.eval x= .int k m:=d;have i:a.eval y= .int k' n:=c;split at b
  ·obtain⟨u,h1,h2⟩:=KZ (P:=P) _ T k k' m n K b;exact⟨.v u,u,kP ho ex i (λw=>EB _ _ _ _ _ _ _ _ w) h1,rfl,h2⟩
  ·obtain⟨u,h1,h2⟩:=KZ (P:=P) _ T k k' m n K b;exact⟨.v u,u,kP ho ex i (λw=>EB _ _ _ _ _ _ _ _ w) h1,rfl,h2⟩
  ·next h1 h2=>
   split at b
   ·next p=>
    obtain rfl:=yk p;obtain⟨u,q,r⟩:=Xk (P:=P) sg op T k m n K b;exact⟨.v u,u,kP ho ex i (λw=>EB _ _ _ _ _ _ _ _ w) q,rfl,r⟩
   ·exact b.elim
 ·next m n hs g=>
  rw[hs]at d;rw[g]at c;exact Y2 ho d c b
 ·next t tf e at_ hs g=>
  rw[hs]at d;rw[g]at c;split at b
  ·next j=>
   rcases d with⟨h1,_,ex⟩|⟨h1,_,ex⟩|⟨h1,_,ad,ex,_⟩
   ·exact wO ho ex c true (.inl ⟨rfl,rfl,j⟩) (by simp[Den,h1]) (by simp[Den,h1]) b
   ·exact wO ho ex c false (.inr ⟨rfl,_,_,rfl⟩) (by simp[Den,h1]) (by simp[Den,h1]) b
   ·exact wO ho ex c false (.inr ⟨rfl,_,_,rfl⟩) (by simp[Den,h1]) (by simp[Den,h1]) b
  ·exact b.elim
 ·next hs g=>
  rw[hs]at d;rw[g]at c;split at b
  ·next j=>exact wO ho d c true (.inl ⟨rfl,rfl,j⟩) (by simp[Den]) (by simp[Den]) b
  ·exact b.elim
 ·next t s hs g=>
  rw[hs]at d;rw[g]at c;obtain⟨u,ex,_⟩:=d;exact wO ho ex c false (.inr ⟨rfl,_,_,rfl⟩) (by simp[Den]) (by simp[Den]) b
 ·next t s hs g=>
  rw[hs]at d;rw[g]at c;exact wO ho d c false (.inr ⟨rfl,_,_,rfl⟩) (by simp[Den]) (by simp[Den]) b
 ·exact Xl ho d c b
end
end Go.Sy
namespace Go.Sy
open Go.RowKit
def te (P:Program) (T:TypeId) (f:Nat->SV) (n off:Nat):Option SV:=
 match P.info? T,P.underlying T with
 |some i,some d=>
  match lT d with
  |true=>match Nat.ble (off+i.size) n with|true=>some (.ag i.size (out i.size λj=>f (off+j)))|false=>none
  |false=>match Nat.blt off n with|true=>some (f off)|false=>none
 |_,_=>none
def G7 (P:Program) (T:TypeId) (s t:SV):Option Bool:=
 match P.underlying T,s,t with
 |some (.int _),.v (.int k a),.v (.int k' b)=>match s_ k k' with|true=>some (a==b)|false=>none
 |some .string,.v (.string a),.v (.string b)=>some (a.toList==b.toList)
 |some .bool,s,t=>match mR s,mR t with|some a,some b=>some (a==b)|_,_=>none
 |_,_,_=>none
def DB:Option Bool->Option Bool->Option Bool
 |some a,some b=>some (a&&b)
 |_,_=>none
def xr (P:Program) (rec:TypeId->SV->SV->Option Bool) (n:Nat) (f:Nat->SV) (m:Nat) (g:Nat->SV):List Field->Option Bool
 | []=>some true
 |c::r=>
  match decide (c.name = "_") with
  |true=>xr P rec n f m g r
  |false=>
   match te P c.type f n c.offset,te P c.type g m c.offset with
   |some a,some b=>DB (rec c.type a b) (xr P rec n f m g r)
   |_,_=>none
def zW (P:Program) (rec:TypeId->SV->SV->Option Bool) (E:TypeId) (sz n:Nat) (f:Nat->SV) (m:Nat) (g:Nat->SV):List Nat->Option Bool
 | []=>some true
 |k::r=>
  match te P E f n (k*sz),te P E g m (k*sz)with
  |some a,some b=>DB (rec E a b) (zW P rec E sz n f m g r)
  |_,_=>none
def t_ (P:Program):Nat->TypeId->SV->SV->Option Bool
 |0,_,_,_=>none
 |d+1,T,s,t=>
  match P.underlying T,s,t with
  |some (.struct fs),.ag n f,.ag m g=>match P.stoodInHeld T with|false=>xr P (t_ P d) n f m g fs.toList|true=>none
  |some (.array len E),.ag n f,.ag m g=>match P.info? E with|some i=>zW P (t_ P d) E i.size n f m g (List.range len)|none=>none
  |_,s,t=>G7 P T s t
section
variable {P:Program} {w:World} {ω:Ow}
theorem yz {T:TypeId} {f:Nat->SV} {n off:Nat} {s:SV} {xs:Array Value} (h:te P T f n off=some s) (hd:Den w ω (.ag n f) (.agg xs)):
 ∃v,(∀w',(part T xs off).run P w'= .ok v w')/\Den w ω s v:=by
 obtain⟨p,e,q,k⟩:=hd;obtain rfl:=Value.agg.inj e;unfold te at h;split at h
 ·next i d o l=>
  split at h
  ·next hd=>
   split at h
   ·next hle=>
    have hle:=bP hle;obtain rfl:=aV h;have c:∀w',(isAgg T).run P w'= .ok true w':=λw'=>by simp only[isAgg,Sem.run_bind,run_underlying l,Result.andThen];cases d<;>simp[lT]at hd<;>simp
    have hs:∀w',(sizeOf T).run P w'= .ok i.size w':=λw'=>by simp[sizeOf,run_typeInfo w' o,Result.andThen]
    refine⟨.agg (xs.extract off (off+i.size)),λw'=>by simp[part,c,hs,Result.andThen],_,rfl,by simp;omega,λj g=>?_⟩;obtain⟨x,h1,h2⟩:=k (off+j) (by omega);exact⟨x,by rw[Array.getElem?_extract];simp[show j<min (off+i.size) xs.size -off by omega,h1],by rw[OF g];exact h2⟩
   ·cases h
  ·next hd=>
   split at h
   ·next b=>
    have b:off<n:=bP b;obtain rfl:=aV h;have c:∀w',(isAgg T).run P w'= .ok false w':=λw'=>by simp only[isAgg,Sem.run_bind,run_underlying l,Result.andThen];cases d<;>simp[lT]at hd<;>simp
    obtain⟨x,h1,h2⟩:=k off b;exact⟨x,λw'=>by simp[part,c,h1,Result.andThen],h2⟩
   ·cases h
 ·cases h
theorem Ux {T:TypeId} {s t:SV} {b:Bool} (h:G7 P T s t=some b) {u v:Value} (e:Den w ω s u) (g:Den w ω t v) (d:Nat) (w':World):
 (Op.equalIn (d+1) T u v).run P w'= .ok b w':=by
 unfold G7 at h;split at h
 ·next c=>
  split at h
  ·next i=>
   obtain rfl:=yk i;obtain rfl:=aV h;obtain rfl:=e;obtain rfl:=g;exact run_equalIn_int w' d T _ _ _ _ c
  ·cases h
 ·next c=>
  obtain rfl:=aV h;obtain rfl:=e;obtain rfl:=g;exact run_equalIn_string w' d T _ _ c
 ·next c=>
  split at h
  ·next a b j k=>
   obtain rfl:=aV h;obtain rfl:=kO j e;obtain rfl:=kO k g;exact run_equalIn_bool' w' d T _ _ c
  ·cases h
 ·cases h
theorem Kj {a b:Option Bool} {r:Bool} (h:DB a b=some r):∃x y,a=some x/\b=some y/\r=(x&&y):=by
 unfold DB at h;split at h
 ·exact⟨_,_,rfl,rfl,(aV h).symm⟩
 ·cases h
theorem Gc {rec:TypeId->SV->SV->Option Bool} {d:Nat} (i:∀{T:TypeId} {s t:SV} {b:Bool},rec T s t=some b->∀{u v:Value},Den w ω s u->Den w ω t v->∀w',(Op.equalIn d T u v).run P w'= .ok b w')
 {n m:Nat} {f g:Nat->SV} {xs l:Array Value} (j:Den w ω (.ag n f) (.agg xs)) (k:Den w ω (.ag m g) (.agg l)):
 ∀(fs:List Field) {b:Bool},xr P rec n f m g fs=some b->∀w',(Op.eqFields d xs l fs).run P w'= .ok b w'
 | [],b,h,w'=>by simp[xr]at h;subst h;simp[Op.eqFields]
 |o::r,b,h,w'=>by
  unfold xr at h;split at h
  ·next e=>
   have e : o.name = "_" := by simpa using e
   simp only[Op.eqFields,e,ne_eq,not_true_eq_false,if_false];exact Gc i j k r h w'
  ·next e=>
   have e : o.name ≠ "_" := by simpa using e
   split at h
   ·next a c x y=>
    obtain⟨p,q,h1,h2,rfl⟩:=Kj h;obtain⟨u,z,d1⟩:=yz x j;obtain⟨v,A,d2⟩:=yz y k;have e3:=i h1 d1 d2 w';simp only[Op.eqFields,e,ne_eq,not_false_eq_true,if_true,Sem.run_bind,z,A,e3,Result.andThen_ok];cases p
    ·simp
    ·simpa using Gc i j k r h2 w'
   ·cases h
theorem CI:∀(d:Nat) {T:TypeId} {s t:SV} {b:Bool},t_ P d T s t=some b->∀{u v:Value},Den w ω s u->Den w ω t v->∀w',(Op.equalIn d T u v).run P w'= .ok b w'
 |0,_,_,_,_,h,_,_,_,_,_=>by simp[t_]at h
 |d+1,T,s,t,b,h,u,v,A,B,w'=>by
  unfold t_ at h;split at h
  ·next fs n f m g o=>
   split at h
   ·next hs=>
    obtain⟨xs,rfl,C⟩:=A;obtain⟨j,rfl,G⟩:=B;have I:P.fieldsOf T=fs:=by simp[Program.fieldsOf,o]
    rw[run_equalIn_struct w' d T xs j (by rw[I];exact o) hs,I];exact Gc (λJ _ _ K O e=>CI d J K O e) ⟨xs,rfl,C⟩ ⟨j,rfl,G⟩ _ h w'
   ·cases h
  ·next len E n f m g o=>
   split at h
   ·next i R=>
    obtain⟨xs,rfl,C⟩:=A;obtain⟨j,rfl,G⟩:=B;have hs:∀e,(sizeOf E).run P e= .ok i.size e:=λe=>by simp[sizeOf,run_typeInfo e R,Result.andThen]
    simp only[Op.equalIn,Sem.run_bind,run_underlying o,Result.andThen_ok,hs,Std.Legacy.Range.forIn_eq_forIn_range',Std.Legacy.Range.size];have key:∀(l:List Nat) {b:Bool},zW P (t_ P d) E i.size n f m g l=some b->∀e:World,
     (((forIn l ((none,()):Option Bool×Unit) λk r=>do
         let x<-part E xs (k*i.size);let y<-part E j (k*i.size);let z<-Op.equalIn d E x y
         if(!z)=true then pure (ForInStep.done (some false,()))else pure (ForInStep.yield (none,()))):Sem (Option Bool×Unit))).run P e= .ok (if b then none else some false,()) e:=by
     intro l
     induction l with
     |nil=>intro b h e;simp[zW]at h;subst h;simp
     |cons k r S=>
      intro b h e;unfold zW at h;split at h
      ·next a c U V=>
       obtain⟨p,q,h1,h2,rfl⟩:=Kj h;obtain⟨u,W,d1⟩:=yz U ⟨xs,rfl,C⟩;obtain⟨v,X,d2⟩:=yz V ⟨j,rfl,G⟩;have e3:=CI d h1 d1 d2 e;simp only[List.forIn_cons,Sem.run_bind,W,X,e3,Result.andThen_ok];cases p
       ·simp
       ·simpa using S h2 e
      ·cases h
    have e0:List.range' 0 ((len -0+1 -1)/1)=List.range len:=by rw[List.range_eq_range'];congr 1;omega
    rw[e0,key _ h w'];cases b<;>simp[Result.andThen]
   ·cases h
  ·exact Ux h A B d w'
end
end Go.Sy
namespace Go.Sy
open Go.RowKit
def HI (P:Program) (op:BinOp) (T:TypeId) (s t:SV):R:=
 match s,t,P.eqGuardType P.depth T with
 | .ag n f,.ag m g,false=>
   match t_ P 10000 T (.ag n f) (.ag m g),op with
   |some b,.eql=> .ok (.v (.bool b))
   |some b,.neq=> .ok (.v (.bool (!b)))
   |_,_=> .bad
 |_,_,_=> .bad
def yX (c s t:SV):R:=
 match c with
 | .bl true=> .ok s
 | .bl false=> .ok t
 | .v (.bool b)=>
   match mR s,mR t with
   |some x,some y=> .ok (.v (.bool (bif b then x else y)))
   |_,_=> .bad
 |_=> .bad
def Ib (sg:Bool) (op:UnOp) (s:SV):R:=
 match op,s with
 | .not,.bl true=> .ok (.bl false)
 | .not,.bl false=> .ok (.bl true)
 | .not,.v (.bool b)=> .ok (.v (.bool (!b)))
 | .neg,.v (.int k n)=>match sg with|true=> .ok (.v (.int k (k.wrap (0 -n))))|false=> .dL (t' k (0 -n)) (.v (.int k (-n)))
 |_,_=> .bad
def G5 (P:Program) (sg:Bool) (S D:TypeId) (s:SV):R:=
 match P.underlying S,P.underlying D,s with
 |some _,some (.int k),.v (.int _ n)=>match sg with|true=> .ok (.v (.int k (k.wrap n)))|false=> .dL (t' k n) (.v (.int k n))
 |_,_,_=> .bad
def F' (T:TypeId):SV->SV
 | .v x=> .v (.iface T x)
 | .bl b=> .v (.iface T (.bool b))
 |s=> .ic T s
def E1 (P:Program) (T:TypeId) (s:SV):R:=
 match P.underlying T with
 |some (.interface _)=> .bad
 |some _=> .ok (F' T s)
 |none=> .bad
def yj (s:SV) (i:Nat):R:=
 match s with
 | .tp n f=>match Nat.blt i n with|true=> .ok (f i)|false=> .bad
 |_=> .bad
def yZ (P:Program) (t:TypeId) (name:String):Option Nat:=
 match P.info? t,P.underlying t with
 |some i,some d=>
  match i.methods.find? (λm=>m.name==name)with
  |some m=>
   match m.path.toList,m.func,d with
   | [],some (f,true),.pointer _=>some f
   | [],some (f,false),.struct _=>some f
   |_,_,_=>none
  |none=>none
 |_,_=>none
def EL (P:Program) (s:SV) (m:Nat->bw):R:=
 match s with
 | .ptr k st p i j=>match cG m k st p with|true=> .ok (.ptr k st p i j)|false=> .bad
 | .pe k st p i j len z=>match cG m k st p with|true=> .ok (.pe k st p i j len z)|false=> .bad
 | .pt q n f=> .ok (.pt q n f)
 | .fn id n f=> .ok (.fn id n f)
 | .bm id s=> .ok (.bm id s)
 | .mv nm (.ic t s)=>match yZ P t nm with|some _=> .ok (.mv nm (.ic t s))|none=> .bad
 | .pa q sz n f=> .ok (.pa q sz n f)
 | .v (.pointer (some ad))=> .ok (.v (.pointer (some ad)))
 |_=> .bad
def HK (P:Program) (T:TypeId) (s:SV) (m:Nat->bw):R:=
 match P.underlying T,s with
 |some (.slice _),.sl _ _ n _=> .kj ((n:Int)<=9223372036854775807) (.v (.int .i64 n))
 |some (.slice _),.aS k st p _ n=>match cG m k st p with|true=> .kj ((n:Int)<=9223372036854775807) (.v (.int .i64 n))|false=> .bad
 |some (.slice _),.sa k st p _ _ n=>match cG m k st p with|true=> .ok (.v (.int .i64 n))|false=> .bad
 |some (.slice _),.v (.slice none 0 0)=> .ok (.v (.int .i64 0))
 |some (.slice _),.es=> .ok (.v (.int .i64 0))
 |some .string,.v (.string x)=> .ok (.v (.int .i64 x.size))
 |_,_=> .bad
def C' (mx:Bool) (l:List SV):R:=
 match l with
 | [.v (.int k x),.v (.int k' y)]=>
   match s_ k k',mx with
   |true,true=> .ok (.v (.int k (max x y)))
   |true,false=> .ok (.v (.int k (min x y)))
   |_,_=> .bad
 |_=> .bad
def G6 (P:Program) (T:TypeId) (s:SV) (j:Nat):R:=
 match P.underlying T,s with
 |some (.struct fs),.ag n f=>
  match fs[j]? with
  |some b=>match te P b.type f n b.offset with|some t=> .ok t|none=> .bad
  |none=> .bad
 |_,_=> .bad
def Ic (P:Program) (T:TypeId) (lit:Bool) (s i:SV):R:=
 match P.underlying T,s,i with
 |some .string,.v (.string x),.v (.int _ z)=> .dL ((0<=z/\z<x.size)) (.v (.int .u8 (x.data.toList.getD z.toNat 0).toNat))
 |some (.array len E),.ag n f,.v (.int _ z)=>
  match P.info? E,P.underlying E with
  |some i,some d=>
   match lT d,Nat.beq n (len*i.size),Nat.beq i.size 1 with
   |false,true,true=>
    match lit,d with
    |true,_=> .dL ((0<=z/\z<len)) (f z.toNat)
    |false,.int b=>match pK b ((List.range len).map f)with|some l=> .dL ((0<=z/\z<len)) (.v (.int b (fX l z.toNat)))|none=> .bad
    |_,_=> .bad
   |_,_,_=> .bad
  |_,_=> .bad
 |_,_,_=> .bad
def nV (d:Int):Option SV->Option Int
 |none=>some d
 |some (.v (.int _ z))=>some z
 |_=>none
def F9 (P:Program) (T:TypeId) (s:SV) (c d:Option SV) (m:Nat->bw):R:=
 match P.underlying T,s with
 |some (.slice E),.sl q sz n f=>
  match P.info? E,nV 0 c,nV n d with
  |some i,some l,some h=>match Nat.beq i.size sz with|true=> .dL ((0<=l/\l<=h/\h<=n)) (.sl q sz (h.toNat -l.toNat) λi j=>f (l.toNat+i) j)|false=> .bad
  |_,_,_=> .bad
 |some (.slice E),.aS k st p e n=>
  match P.info? E,nV 0 c,nV n d with
  |some i,some l,some h=>
   match cG m k st p,fD (m k).b p with
   |true,some r=>match Nat.beq i.size r.sz with|true=> .dL ((0<=l/\l<=h/\h<=n)) (.aS k st p (e+l.toNat) (h.toNat -l.toNat))|false=> .bad
   |_,_=> .bad
  |_,_,_=> .bad
 |some (.array len E),.ptr k st p g j=>
  match P.info? E,c,d,cG m k st p with
  |some i,none,none,true=>match Nat.beq i.size 1,Nat.blt 0 len,Nat.ble len 1000000 with|true,true,true=> .ok (.sa k st p g j len)|_,_,_=> .bad
  |_,_,_,_=> .bad
 |some .string,.v (.string x)=>
  match nV 0 c,nV x.size d with
  |some l,some h=> .dL ((0<=l/\l<=h/\h<=x.size)) (.v (.string (x.extract l.toNat h.toNat)))
  |_,_=> .bad
 |_,_=> .bad
def Fs (fn:Fn) (first b:List SV):R:=
 match fn,first with
 | .func id,[]=> .ok (.fn id b.length (aN b))
 | .func id,[s]=>match b with| []=> .ok (.bm id s)|_=> .bad
 | .method nm,[s]=>match b with| []=> .ok (.mv nm s)|_=> .bad
 |_,_=> .bad
def oA (m:Nat->bw):SV->Option (List SV)
 | .ag n f=>some ((List.range n).map f)
 | .v (.agg b)=>some (b.toList.map .v)
 | .v (.tuple _)=>none
 | .aI=>none
 | .tp _ _=>none
 | .il _ _ _=>none
 | .ptr k st p i j=>match cG m k st p with|true=>some [.ptr k st p i j]|false=>none
 | .pe k st p i j len z=>match cG m k st p with|true=>some [.pe k st p i j len z]|false=>none
 | .aS k st p e n=>match cG m k st p with|true=>some [.aS k st p e n]|false=>none
 | .sa k st p i j n=>match cG m k st p with|true=>some [.sa k st p i j n]|false=>none
 |s=>some [s]
def nB (l:List SV):Nat->List SV->List SV
 |_,[]=>l
 |off,c::r=>nB (l.set off c) (off+1) r
def nI (m:Nat->bw) (place:Nat->Option (Nat×Nat)) (cells:List SV):List (Nat×SV)->Option (List SV)
 | []=>some cells
 |(i,s)::rest=>
  match place i,oA m s with
  |some (off,size),some b=>
   match Nat.beq b.length size,Nat.ble (off+b.length) cells.length with
   |true,true=>nI m place (nB cells off b) rest
   |_,_=>none
  |_,_=>none
def Xh (P:Program) (fs:List Field):Option (List (Nat×Nat)):=fs.mapM (λf=>(P.info? f.type).map λi=>(f.offset,i.size))
def F_ (P:Program) (T:TypeId) (parts:List (Nat×SV)) (m:Nat->bw):R:=
 match P.info? T,P.underlying T with
 |some i,some (.struct fs)=>
  match i.zero,Xh P fs.toList with
  |some z,some c=>
   match nI m (λk=>c[k]?) (z.cells.toList.map .v) parts with
   |some l=> .ok (.ag l.length (aN l))
   |none=> .bad
  |_,_=> .bad
 |some i,some (.array _ E)=>
  match i.zero,P.info? E with
  |some z,some b=>
   match nI m (λk=>some (k*b.size,b.size)) (z.cells.toList.map .v) parts with
   |some l=> .ok (.ag l.length (aN l))
   |none=> .bad
  |_,_=> .bad
 |_,_=> .bad
section
variable {P:Program} {w:World} {ω:Ow} {ρ:Operand->SV} {M:Mem} {a:Act}
theorem YY (h:Cx P w ω ρ M a) {o:Oper} {op:BinOp} {T p:TypeId} {x y:Operand} {K:SV->Prop} (ho:o.op= .binOp op T x y p)
 (c:(HI P op T (ρ x) (ρ y)).run K):fj P w ω a o K:=by
 have d:=h.val x;have e:=h.val y;unfold HI at c;split at c
 ·next n f m g hs q l=>
  rw[hs]at d;rw[q]at e;split at c
  ·next b k=>
   have i:=λw'=>CI 10000 k d e w';obtain⟨xs,ex,_⟩:=d;obtain⟨r,j,_⟩:=e;rw[ex,j]at i;exact⟨.v (.bool b),.bool b,kP ho ex j (λw=>run_eqGuard_agg w _ _ _ _ _ _ l) (λw=>by rw[run_eql_struct,i w];rfl),rfl,c⟩
  ·next b k=>
   have i:=λw'=>CI 10000 k d e w';obtain⟨xs,ex,_⟩:=d;obtain⟨r,j,_⟩:=e;rw[ex,j]at i;exact⟨.v (.bool (!b)),.bool (!b),kP ho ex j (λw=>run_eqGuard_agg w _ _ _ _ _ _ l) (λw=>by rw[run_neq_struct,i w];rfl),rfl,c⟩
  ·exact c.elim
 ·exact c.elim
theorem yH (h:Cx P w ω ρ M a) {o:Oper} {c x y:Operand} {K:SV->Prop} (ho:o.op= .pick c x y)
 (d:(yX (ρ c) (ρ x) (ρ y)).run K):fj P w ω a o K:=by
 have e:=h.val c;have g:=h.val x;have i:=h.val y;unfold yX at d;split at d
 ·next hs=>
  rw[hs]at e;have ec:a.eval c= .bool true:=e;exact⟨_,_,by simp[execOp,ho,ec,asBool],g,d⟩
 ·next hs=>
  rw[hs]at e;have ec:a.eval c= .bool false:=e;exact⟨_,_,by simp[execOp,ho,ec,asBool],i,d⟩
 ·next b hs=>
  rw[hs]at e;have ec:a.eval c= .bool b:=e;split at d
  ·next p q hp j=>
   have ex:=kO hp g;have k:=kO j i;exact⟨.v (.bool (bif b then p else q)),.bool (bif b then p else q),by cases b<;>simp[execOp,ho,ec,asBool,ex,k],rfl,d⟩
  ·exact d.elim
 ·exact d.elim
theorem abq (h:Cx P w ω ρ M a) {sg:Bool} {o:Oper} {op:UnOp} {T:TypeId} {x:Operand} {K:SV->Prop} (ho:o.op= .unOp op T x)
 (c:(Ib sg op (ρ x)).run K):fj P w ω a o K:=by
 have d:=h.val x;unfold Ib at c;split at c
 ·next hs=>
  rw[hs]at d;have ex:a.eval x= .bool true:=d;exact⟨.bl false,.bool false,by simp[execOp,ho,ex,Op.unary],rfl,c⟩
 ·next hs=>
  rw[hs]at d;have ex:a.eval x= .bool false:=d;exact⟨.bl true,.bool true,by simp[execOp,ho,ex,Op.unary],rfl,c⟩
 ·next b hs=>
  rw[hs]at d;have ex:a.eval x= .bool b:=d;exact⟨.v (.bool (!b)),.bool (!b),by simp[execOp,ho,ex,Op.unary],rfl,c⟩
 ·next k n hs=>
  rw[hs]at d;have ex:a.eval x= .int k n:=d;cases sg with
  |true=>exact⟨.v (.int k (k.wrap (0 -n))),.int k (k.wrap (0 -n)),by simp[execOp,ho,ex,Op.unary,Op.intArith],rfl,c⟩
  |false=>
   have e:k.wrap (0 -n)= -n:=by have:=c.1;unfold t' at this;omega
   exact⟨.v (.int k (-n)),.int k (-n),by simp only[execOp,ho,ex,Op.unary,Op.intArith,e,Sem.run_bind,Sem.run_pure,Result.andThen_ok],rfl,c.2⟩
 ·exact c.elim
theorem Xf (h:Cx P w ω ρ M a) {sg:Bool} {o:Oper} {S D:TypeId} {x:Operand} {K:SV->Prop} (ho:o.op= .convert S D x)
 (b:(G5 P sg S D (ρ x)).run K):fj P w ω a o K:=by
 have c:=h.val x;unfold G5 at b;split at b
 ·next d k k' n i j hs=>
  rw[hs]at c;have ex:a.eval x= .int k' n:=c;have g:(execOp a.eval o).run P w= .ok (.value (.int k (k.wrap n))) w:=by simp[execOp,ho,ex,convert,run_underlying i,run_underlying j,Conv.intToInt,Result.andThen]
  cases sg with
  |true=>exact⟨.v (.int k (k.wrap n)),_,g,rfl,b⟩
  |false=>have e:k.wrap n=n:=b.1;exact⟨.v (.int k n),_,g,by rw[e];rfl,b.2⟩
 ·exact b.elim
theorem Tn {T:TypeId} {s:SV} {u:Value} (h:Den w ω s u):Den w ω (F' T s) (.iface T u):=by
 unfold F';split
 ·obtain rfl:=h;rfl
 ·obtain rfl:=h;rfl
 ·exact⟨u,rfl,h⟩
theorem TL (h:Cx P w ω ρ M a) {o:Oper} {T:TypeId} {x:Operand} {K:SV->Prop} (ho:o.op= .makeInterface T x)
 (b:(E1 P T (ρ x)).run K):fj P w ω a o K:=by
 have c:=h.val x;unfold E1 at b;split at b
 ·exact b.elim
 ·next d e g=>
  refine⟨_,_,?_,Tn c,b⟩;simp only[execOp,ho,Instr.makeInterface,Sem.run_bind,run_underlying g,Result.andThen_ok];cases d<;>first|exact absurd rfl (e _)|rfl
 ·exact b.elim
theorem TM (h:Cx P w ω ρ M a) {o:Oper} {i:Nat} {x:Operand} {K:SV->Prop} (ho:o.op= .extract x i)
 (b:(yj (ρ x) i).run K):fj P w ω a o K:=by
 have d:=h.val x;unfold yj at b;split at b
 ·next n f hs=>
  rw[hs]at d;obtain⟨g,ex,_,e⟩:=d;split at b
  ·next c=>
   obtain⟨y,h1,h2⟩:=e i (bP c);exact⟨_,y,by simp[execOp,ho,ex,Instr.extract,h1],h2,b⟩
  ·exact b.elim
 ·exact b.elim
theorem Tm (h:Cx P w ω ρ M a) {o:Oper} {x:Operand} {K:SV->Prop} (ho:o.op= .nilCheck x)
 (r:(EL P (ρ x) (ae M)).run K):fj P w ω a o K:=by
 have g:=h.val x;unfold EL at r;have run:∀u,(∃ad,u= .pointer (some ad))\/(∃f p c,u= .func (.func f) p c)->a.eval x=u->(execOp a.eval o).run P w= .ok (.value u) w:=by rintro u (⟨ad,rfl⟩|⟨f,p,c,rfl⟩) e<;>simp[execOp,ho,e]
 split at r
 ·next k st p i j hs=>
  split at r
  ·next A=>
   rw[hs]at g;obtain⟨_,L,_,_,e⟩:=gr h.mem A g;exact⟨_,_,run _ (.inl ⟨_,e⟩) rfl,g,r⟩
  ·exact r.elim
 ·next k st p i j len z hs=>
  split at r
  ·next A=>
   rw[hs]at g;obtain⟨_,L,_,_,_,e⟩:=gr h.mem A g;exact⟨_,_,run _ (.inl ⟨_,e⟩) rfl,g,r⟩
  ·exact r.elim
 ·next q n f hs=>
  rw[hs]at g;have l:=g;obtain⟨b,ex,_⟩:=g;exact⟨_,_,run _ (.inl ⟨_,ex⟩) rfl,l,r⟩
 ·next id n f hs=>
  rw[hs]at g;have l:=g;obtain⟨b,ex,_⟩:=g;exact⟨_,_,run _ (.inr ⟨_,_,_,ex⟩) rfl,l,r⟩
 ·next id s hs=>
  rw[hs]at g;have l:=g;obtain⟨b,ex,_⟩:=g;exact⟨_,_,run _ (.inr ⟨_,_,_,ex⟩) rfl,l,r⟩
 ·next nm t s hs=>
  rw[hs]at g;have l:=g;obtain⟨u,ex,y,rfl,_⟩:=g;split at r
  ·next f hm=>
   refine⟨.mv nm (.ic t s),.func (.method nm) #[.iface t y] #[],?_,by rw[ex]at l;exact l,r⟩;unfold yZ at hm;split at hm
   ·next i d E hd=>
    split at hm
    ·next m G=>
     split at hm
     ·next f e hp B=>
      obtain⟨k,C⟩:∃k,P.types.size+Made.depth=k+1:=⟨P.types.size+99,by show P.types.size+100=_;omega⟩;simp[execOp,ho,ex,C,nilAhead,typeInfo,E,G,hp,followBlind,B,Result.andThen]
     ·next f e hp B=>
      obtain⟨k,C⟩:∃k,P.types.size+Made.depth=k+1:=⟨P.types.size+99,by show P.types.size+100=_;omega⟩;simp[execOp,ho,ex,C,nilAhead,typeInfo,E,G,hp,followBlind,B,underlying,hd,Result.andThen]
     ·cases hm
    ·cases hm
   ·cases hm
  ·exact r.elim
 ·next q sz n f hs=>
  rw[hs]at g;have l:=g;obtain⟨b,ex,_⟩:=g;exact⟨_,_,run _ (.inl ⟨_,ex⟩) rfl,l,r⟩
 ·next ad hs=>
  rw[hs]at g;exact⟨.v (.pointer (some ad)),_,run _ (.inl ⟨_,rfl⟩) g,rfl,r⟩
 ·exact r.elim
theorem Y0 (h:Cx P w ω ρ M a) {o:Oper} {T:TypeId} {x:Operand} {K:SV->Prop} (ho:o.op= .call {callee:= .builtin .len,args:= #[x],argTypes:= #[T]})
 (b:(HK P T (ρ x) (ae M)).run K):fj P w ω a o K:=by
 have c:=h.val x;unfold HK at b;have run:∀p n cap,(∃E,P.underlying T=some (.slice E))->a.eval x= .slice p n cap->(execOp a.eval o).run P w= .ok (.value (.int .i64 n)) w:=by rintro p n cap ⟨E,d⟩ ex;simp[execOp,ho,resolve,invoke,builtin,Builtin.len_,ex,run_underlying d,Result.andThen,goInt]
 split at b
 ·next E q sz n f d hs=>
  rw[hs]at c;obtain⟨p,cap,ex,_,l,_⟩:=c;exact⟨.v (.int .i64 n),_,run _ _ _ ⟨E,d⟩ ex,rfl,b (by unfold maxLen at l;omega)⟩
 ·next E k st p e n d hs=>
  split at b
  ·next g=>
   rw[hs]at c;have e0:st=Sy.st ω.cur k p:=by
    rw[h.mem.cur];cases p with
    |none=>exact a_ g
    |some _=>exact a_ g
   rcases c with c|⟨_,q,cap,ex,_,l,_⟩
   ·omega
   exact⟨.v (.int .i64 n),_,run _ _ _ ⟨E,d⟩ ex,rfl,b (by unfold maxLen at l;omega)⟩
  ·exact b.elim
 ·next E k st p i j n d hs=>
  split at b
  ·next g=>
   rw[hs]at c;obtain⟨_,L,_,_,_,ex⟩:=gr h.mem g c;exact⟨.v (.int .i64 n),_,run _ _ _ ⟨E,d⟩ ex,rfl,b⟩
  ·exact b.elim
 ·next E d hs=>
  rw[hs]at c;exact⟨.v (.int .i64 0),_,run _ _ _ ⟨E,d⟩ c,rfl,b⟩
 ·next E d hs=>
  rw[hs]at c;obtain⟨p,ex⟩:=c;exact⟨.v (.int .i64 0),_,run _ _ _ ⟨E,d⟩ ex,rfl,b⟩
 ·next y d hs=>
  rw[hs]at c;have ex:a.eval x= .string y:=c;exact⟨.v (.int .i64 y.size),_,by simp[execOp,ho,resolve,invoke,builtin,Builtin.len_,ex,run_underlying d,Result.andThen,goInt],rfl,b⟩
 ·exact b.elim
theorem OE (h:Cx P w ω ρ M a) {o:Oper} {mx:Bool} {x y:Operand} {g:Array TypeId} {K:SV->Prop} (ho:o.op= .call {callee:= .builtin (if mx then .max else .min),args:= #[x,y],argTypes:=g})
 (b:(C' mx [ρ x,ρ y]).run K):fj P w ω a o K:=by
 have c:=h.val x;have d:=h.val y;unfold C' at b;split at b
 ·next k m k' n hl=>
  obtain⟨h1,h2⟩:ρ x= .v (.int k m)/\ρ y= .v (.int k' n):=by simpa using hl
  rw[h1]at c;rw[h2]at d;have ex:a.eval x= .int k m:=c;have e:a.eval y= .int k' n:=d;split at b
  ·next i=>
   exact⟨.v (.int k (max m n)),.int k (max m n),by
    simp[execOp,ho,resolve,invoke,builtin,Builtin.max_,Builtin.max2,ex,e];split<;>omega,rfl,b⟩
  ·next i=>
   exact⟨.v (.int k (min m n)),.int k (min m n),by
    simp[execOp,ho,resolve,invoke,builtin,Builtin.min_,Builtin.min2,ex,e];split<;>omega,rfl,b⟩
  ·exact b.elim
 ·exact b.elim
theorem Xg (h:Cx P w ω ρ M a) {o:Oper} {T:TypeId} {x:Operand} {j:Nat} {K:SV->Prop} (ho:o.op= .field T x j)
 (b:(G6 P T (ρ x) j).run K):fj P w ω a o K:=by
 have e:=h.val x;unfold G6 at b;split at b
 ·next fs n f g hs=>
  rw[hs]at e;split at b
  ·next q c=>
   split at b
   ·next t i=>
    obtain⟨k,ex,l⟩:=e;obtain⟨v,d,p⟩:=yz i ⟨k,rfl,l⟩;exact⟨t,v,by simp[execOp,ho,Instr.field,run_underlying g,c,ex,asAgg,d w,Result.andThen],p,b⟩
   ·exact b.elim
  ·exact b.elim
 ·exact b.elim
theorem abr (h:Cx P w ω ρ M a) {o:Oper} {T:TypeId} {lit:Bool} {x y:Operand} {K:SV->Prop} (ho:o.op= .index T x y)
 (b:(Ic P T lit (ρ x) (ρ y)).run K):fj P w ω a o K:=by
 have A:=h.val x;have B:=h.val y;unfold Ic at b;split at b
 ·next s k z G hs I=>
  rw[hs]at A;rw[I]at B;have ex:a.eval x= .string s:=A;have J:a.eval y= .int k z:=B;obtain⟨⟨h0,h1⟩,g⟩:=b;have j:z.toNat<s.size:=by omega
  have p:z.toNat<s.data.toList.length:=by simpa using j
  refine⟨.v (.int .u8 (s.data.toList.getD z.toNat 0).toNat),.int .u8 (s.data.toList.getD z.toNat 0).toNat,?_,rfl,g⟩;have O:s[z.toNat]? =some (s.data.toList.getD z.toNat 0):=by rw[cD,eO p];rw[getElem?_pos s z.toNat j];rfl
  simp[execOp,ho,ex,J,Instr.index,asIntOf,run_underlying G,h0,O,Result.andThen]
 ·next len E n f k z G hs I=>
  rw[hs]at A;rw[I]at B;have J:a.eval y= .int k z:=B;split at b
  ·next i d U hd=>
   split at b
   ·next h1 h2 C=>
    have h2:=a_ h2;have C:=a_ C;obtain⟨X,ex,Y,V⟩:=A;have R:(sizeOf E).run P w= .ok i.size w:=by simp[sizeOf,run_typeInfo w U,Result.andThen]
    have W:(isAgg E).run P w= .ok false w:=by simp only[isAgg,Sem.run_bind,run_underlying hd,Result.andThen];cases d<;>simp[lT]at h1<;>simp
    have key:0<=z->z<len->∃u,(execOp a.eval o).run P w= .ok (.value u) w/\Den w ω (f z.toNat) u:=by intro q r;obtain⟨u,O,S⟩:=V z.toNat (by rw[h2,C];omega);exact⟨u,by simp[execOp,ho,ex,J,Instr.index,asIntOf,run_underlying G,q,r,R,C,part,W,O,Result.andThen],S⟩
    split at b
    ·obtain⟨⟨q,r⟩,g⟩:=b;obtain⟨u,r1,r2⟩:=key q r;exact⟨_,u,r1,r2,g⟩
    ·next Z=>
     split at b
     ·next l hl=>
      obtain⟨⟨q,r⟩,g⟩:=b;obtain⟨u,r1,r2⟩:=key q r;have hl:=vV hl;have e:=congrArg (λl=>l[z.toNat]?) hl;simp only[eX,nD (show z.toNat<len by omega),iB]at e;cases c:l[z.toNat]? with
      |none=>rw[c]at e;cases e
      |some y=>
       rw[c]at e;simp only[iB,bF]at e;have t:fX l z.toNat=y:=by simp[fX,cD,c]
       exact⟨_,u,r1,by rw[t,<-e];exact r2,g⟩
     ·exact b.elim
    ·exact b.elim
   ·exact b.elim
  ·exact b.elim
 ·exact b.elim
theorem KY {d:Int} {b:Option Operand} {z:Int} (h:Cx P w ω ρ M a) (hl:nV d (b.map ρ)=some z):
 (b=none/\z=d)\/∃x k,b=some x/\a.eval x= .int k z:=by
 cases b with
 |none=>simp[nV]at hl;exact .inl ⟨rfl,hl.symm⟩
 |some x=>
  have c:=h.val x;simp only[iB,nV]at hl;split at hl
  ·next e=>cases e
  ·next k g e=>
   obtain rfl:=aV hl;have e:=aV e;rw[e]at c;exact .inr ⟨x,k,rfl,c⟩
  ·cases hl
theorem EM (h:Cx P w ω ρ M a) {e g:Option Operand} {l b:Int} {n cap:Nat} {sl:Bool} (hl:nV 0 (e.map ρ)=some l) (d:nV n (g.map ρ)=some b) (i:0<=l) (p:l<=b) (g2:b<=n) (j:n<=cap):
 (Instr.sliceBounds sl n cap (e.map a.eval) (g.map a.eval) none).run P w= .ok (l.toNat,b.toNat,cap) w:=by
 rcases KY h hl with⟨rfl,rfl⟩|⟨y,k,rfl,o⟩<;>rcases KY h d with⟨rfl,rfl⟩|⟨q,k2,rfl,c⟩
 ·simp[Instr.sliceBounds]
 ·simp[Instr.sliceBounds,Instr.sliceBound,c,asIntOf,Result.andThen,show(0:Int)<=b by omega,show b<=cap by omega]
 ·simp[Instr.sliceBounds,Instr.sliceBound,o,asIntOf,Result.andThen,i,show l<=n by omega]
 ·simp[Instr.sliceBounds,Instr.sliceBound,o,c,asIntOf,Result.andThen,i,show(0:Int)<=b by omega,show b<=cap by omega,show l<=max b 0 by omega]
theorem Vt (h:Cx P w ω ρ M a) {o:Oper} {T:TypeId} {x:Operand} {U V:Option Operand} {K:SV->Prop} (ho:o.op= .slice T x U V none)
 (c:(F9 P T (ρ x) (U.map ρ) (V.map ρ) (ae M)).run K):fj P w ω a o K:=by
 have y:=h.val x;unfold F9 at c;split at c
 ·next E q sz n f G hs=>
  rw[hs]at y;split at c
  ·next i l z t hl d=>
   split at c
   ·next g=>
    have g:=a_ g;obtain⟨⟨I,J,g2⟩,O⟩:=c;obtain⟨p,cap,ex,A,X,hj⟩:=y;have B:(sizeOf E).run P w= .ok i.size w:=by simp[sizeOf,run_typeInfo w t,Result.andThen]
    have R:=EM (P:=P) (sl:=true) h hl d I J g2 A;refine⟨.sl q sz (z.toNat -l.toNat) λi j=>f (l.toNat+i) j,.slice (if cap=l.toNat then p else p.map (·.add (l.toNat*i.size))) (z.toNat -l.toNat) (cap -l.toNat),?_,?_,O⟩
    ·simp only[execOp,ho,ex,Instr.sliceAt,Instr.slice,Sem.run_bind,run_underlying G,Result.andThen_ok,Ga,R,B];rfl
    ·refine⟨_,_,rfl,by omega,by omega,?_⟩;by_cases hz:z.toNat -l.toNat=0
     ·exact .inl hz
     ·right;have S:cap≠l.toNat:=by omega
      obtain⟨ad,rfl,hk⟩:=hj.resolve_left (by omega);refine⟨ad.add (l.toNat*i.size),by simp[S],λY t j Z=>?_⟩;obtain⟨u,e1,e2,e3⟩:=hk (l.toNat+Y) (by omega) j Z;refine⟨u,?_,by rw[gI];exact e2,e3⟩;rw[add_add,show l.toNat*i.size+(Y*sz+j)=(l.toNat+Y)*sz+j by rw[g,iD];omega];exact e1
   ·exact c.elim
  ·exact c.elim
 ·next E k st p e n G hs=>
  rw[hs]at y;split at c
  ·next i l z t hl d=>
   split at c
   ·next r C hr=>
    split at c
    ·next g=>
     have g:=a_ g;obtain⟨⟨I,J,g2⟩,O⟩:=c;have e0:st=Sy.st ω.cur k p:=by
      rw[h.mem.cur];cases p with
      |none=>exact a_ C
      |some _=>exact a_ C
     rcases y with y|⟨_,q,cap,ex,A,X,y⟩
     ·omega
     have B:(sizeOf E).run P w= .ok i.size w:=by simp[sizeOf,run_typeInfo w t,Result.andThen]
     have R:=EM (P:=P) (sl:=true) h hl d I J g2 A;refine⟨.aS k st p (e+l.toNat) (z.toNat -l.toNat),.slice (if cap=l.toNat then q else q.map (·.add (l.toNat*i.size))) (z.toNat -l.toNat) (cap -l.toNat),?_,Or.inr ⟨e0,_,_,rfl,by omega,by omega,?_⟩,O⟩
     ·simp only[execOp,ho,ex,Instr.sliceAt,Instr.slice,Sem.run_bind,run_underlying G,Result.andThen_ok,Ga,R,B];rfl
     ·by_cases S:cap=l.toNat
      ·left;omega
      ·right;rcases y with y|⟨L,W,rfl,SJ,hx3⟩
       ·omega
       obtain⟨r',y1,y2,y3,_⟩:=h.mem.row _ _ _ W;obtain rfl:r=r':=aV (hr.symm.trans y1);refine⟨L,W,?_,?_,by omega⟩
       ·simp[S,jx,g,y2,iD,i_]
       ·rw[show e+l.toNat+(cap -l.toNat)=e+cap by omega];exact SJ
    ·exact c.elim
   ·exact c.elim
  ·exact c.elim
 ·next len E k st p ii j G hs=>
  rw[hs]at y;split at c
  ·next i t hl d C=>
   split at c
   ·next h1 h2 h3=>
    have h2:0<len:=bP h2;have h3:len<=1000000:=bP h3;obtain⟨e0,L,W,S,ex⟩:=gr h.mem C y;have hl:U=none:=by cases U<;>simp at hl;rfl
    have z:V=none:=by cases V<;>simp at d;rfl
    subst hl;subst z;refine⟨.sa k st p ii j len,.slice (some ⟨L.b,L.o+ii*L.sz+j,none⟩) len len,?_,Or.inr ⟨e0,L,W,S,by unfold maxLen;omega,rfl⟩,c⟩;have B:(sizeOf E).run P w= .ok i.size w:=by simp[sizeOf,run_typeInfo w t,Result.andThen]
    simp[execOp,ho,ex,Instr.sliceAt,Instr.sureAddr,Instr.sliceBounds,run_underlying G,B,Result.andThen,Addr.add]
   ·exact c.elim
  ·exact c.elim
 ·next s G hs=>
  rw[hs]at y;have ex:a.eval x= .string s:=y;split at c
  ·next l z hl d=>
   obtain⟨⟨I,J,g2⟩,O⟩:=c;have R:=EM (P:=P) (sl:=false) h hl d I J g2 (bc _);refine⟨.v (.string (s.extract l.toNat z.toNat)),.string (s.extract l.toNat z.toNat),?_,rfl,O⟩;simp only[execOp,ho,ex,Instr.sliceAt,Instr.slice,Sem.run_bind,run_underlying G,Result.andThen_ok,Ga,Option.isSome_none,zd,if_false,R];rfl
  ·exact c.elim
 ·exact c.elim
theorem Uv (h:Cx P w ω ρ M a) {o:Oper} {fn:Fn} {first b:Array Operand} {K:SV->Prop} (ho:o.op= .makeFunc fn first b)
 (d:(Fs fn (first.toList.map ρ) (b.toList.map ρ)).run K):fj P w ω a o K:=by
 unfold Fs at d;split at d
 ·next id c=>
  have c:first= #[]:=by
   obtain⟨l⟩:=first
   simpa using c
  refine⟨.fn id (b.toList.map ρ).length (aN (b.toList.map ρ)),.func (.func id) #[] (b.map a.eval),by simp[execOp,ho,Instr.makeFunc,c],⟨_,rfl,by simp,λj g=>?_⟩,d⟩;have g:j<b.size:=by simpa using g
  exact⟨a.eval b[j],by simp[g],by
   have:=h.val b[j];simpa [aN,cD,g]using this⟩
 ·next id s c=>
  split at d
  ·next e=>
   have e:b= #[]:=by obtain⟨l⟩:=b;simpa using e
   obtain⟨l⟩:=first
   match l,c with
   | [x],c=>
     have c:ρ x=s:=by simpa using c
     subst c;exact⟨.bm id (ρ x),.func (.func id) #[a.eval x] #[],by simp[execOp,ho,Instr.makeFunc,e],⟨_,rfl,h.val x⟩,d⟩
  ·exact d.elim
 ·next nm s c=>
  split at d
  ·next e=>
   have e:b= #[]:=by obtain⟨l⟩:=b;simpa using e
   obtain⟨l⟩:=first
   match l,c with
   | [x],c=>
     have c:ρ x=s:=by simpa using c
     subst c;exact⟨.mv nm (ρ x),.func (.method nm) #[a.eval x] #[],by simp[execOp,ho,Instr.makeFunc,e],⟨_,rfl,h.val x⟩,d⟩
  ·exact d.elim
 ·exact d.elim
theorem Gb (hm:aU w ω M) {k s:Nat} {p:Path} {R:Loc->Prop} (h:cG (ae M) k s p=true) (b:At ω k s p R) {u:Value} (c:∀L,R L->u.cells= #[u]):u.cells= #[u]:=by obtain⟨_,L,_,d⟩:=gr hm h b;exact c L d
theorem iZ (hm:aU w ω M) {k s:Nat} {p:Path} (h:cG (ae M) k s p=true):s=st ω.cur k p:=by
 rw[hm.cur];cases p with
 |none=>exact a_ h
 |some _=>exact a_ h
theorem yc (hm:aU w ω M) {s:SV} {u:Value} {l:List SV} (h:oA (ae M) s=some l) (hd:Den w ω s u):bY w ω l u.cells.toList:=by
 have one:∀{s:SV},Den w ω s u->u.cells= #[u]->bY w ω [s] u.cells.toList:=λh e=>by rw[e];exact⟨h,trivial⟩
 cases s with
 |es=>obtain rfl:=aV h;have g:=hd;obtain⟨p,rfl⟩:=g;exact one hd rfl
 |ag n f=>
  obtain rfl:=aV h;obtain⟨r,rfl,A,B⟩:=hd;refine bY.mk (by simp[Value.cells,A]) λi y=>?_;obtain⟨x,h1,h2⟩:=B i (by simpa using y);have d:i<n:=by simpa using y
  refine⟨x,by simpa [Value.cells]using h1,?_⟩;rw[cD,eX,nD d];exact h2
 |v x=>
  have g:=hd;obtain rfl:u=x:=g;cases u with
  |agg r=>
   obtain rfl:=aV h;refine bY.mk (by simp[Value.cells]) λi y=>?_;have d:i<r.size:=by simpa using y
   refine⟨r[i],by simp[Value.cells,d],?_⟩;rw[cD,eX];simp[d,Den]
  |tuple r=>cases h
  |_=>obtain rfl:=aV h;exact one hd rfl
 |aI=>cases h
 |tp n f=>cases h
 |il sz n f=>cases h
 |ptr k st p i j=>
  simp only[oA]at h;split at h
  ·next c=>obtain rfl:=aV h;exact one hd (Gb hm c hd λL o=>by rw[o.2];rfl)
  ·cases h
 |pe k st p i j len z=>
  simp only[oA]at h;split at h
  ·next c=>obtain rfl:=aV h;exact one hd (Gb hm c hd λL o=>by rw[o.2.2];rfl)
  ·cases h
 |sa k st p i j n=>
  simp only[oA]at h;split at h
  ·next c=>obtain rfl:=aV h;exact one hd (Gb hm c hd λL o=>by rw[o.2.2];rfl)
  ·cases h
 |aS k st p e n=>
  simp only[oA]at h;split at h
  ·next c=>
   obtain rfl:=aV h;have e0:=iZ hm c;refine one hd ?_;rcases hd with hd|⟨_,q,cap,rfl,_⟩
   ·omega
   ·rfl
  ·cases h
 |bl b=>obtain rfl:=aV h;exact one hd (by obtain rfl:=hd;rfl)
 |pt q n f=>obtain rfl:=aV h;exact one hd (by obtain⟨_,rfl,_⟩:=hd;rfl)
 |sl q sz n f=>obtain rfl:=aV h;exact one hd (by obtain⟨_,_,rfl,_⟩:=hd;rfl)
 |pa q sz n f=>obtain rfl:=aV h;exact one hd (by obtain⟨_,rfl,_⟩:=hd;rfl)
 |fn id n f=>obtain rfl:=aV h;exact one hd (by obtain⟨_,rfl,_⟩:=hd;rfl)
 |bm id s=>obtain rfl:=aV h;exact one hd (by obtain⟨_,rfl,_⟩:=hd;rfl)
 |mv nm s=>obtain rfl:=aV h;exact one hd (by obtain⟨_,rfl,_⟩:=hd;rfl)
 |ic t s=>obtain rfl:=aV h;exact one hd (by obtain⟨_,rfl,_⟩:=hd;rfl)
 |er t tf e at_=>obtain rfl:=aV h;exact one hd (by rcases hd with⟨_,_,rfl⟩|⟨_,_,rfl⟩|⟨_,_,_,rfl,_⟩<;>rfl)
theorem Jo:∀(b:List SV) (vs:List Value),bY w ω b vs->∀(off:Nat) (l:List SV) (m:Array Value),bY w ω l m.toList->
 bY w ω (nB l off b) (((vs.zipIdx off).foldl (λ(m:Array Value) (p:Value×Nat)=>m.setIfInBounds p.2 p.1) m).toList)
 | [],[],_,_,_,_,h=>by simpa [nB]using h
 |c::r,v::t,⟨h1,h2⟩,off,l,m,h=>by simp only[nB,List.zipIdx_cons,List.foldl_cons];exact Jo r t h2 (off+1) _ _ (by rw[Array.toList_setIfInBounds];exact h.set h1 off)
 | [],_::_,hd,_,_,_,_=>hd.elim
 |_::_,[],hd,_,_,_,_=>hd.elim
theorem Td (l:List Value):∀(k off:Nat) (m:Array Value),(l.zipIdx k).foldl (λ(m:Array Value) (p:Value×Nat)=>m.setIfInBounds (off+p.2) p.1) m=(l.zipIdx (off+k)).foldl (λ(m:Array Value) (p:Value×Nat)=>m.setIfInBounds p.2 p.1) m:=by
 induction l with
 |nil=>intros;rfl
 |cons v t b=>intro k off m;simp only[List.zipIdx_cons,List.foldl_cons];rw[b];rfl
theorem Fq (hm:aU w ω M) {place:Nat->Option (Nat×Nat)}:∀(b:List (Nat×SV)) (vs:List (Nat×Value)),b.length=vs.length->(∀(i:Nat) (s:Nat×SV),b[i]? =some s->∃u,vs[i]? =some (s.1,u)/\Den w ω s.2 u)->
 ∀(l l':List SV) (m:Array Value),bY w ω l m.toList->nI (ae M) place l b=some l'->∃q,Instr.fill place m vs=some q/\bY w ω l' q.toList
 | [],[],_,_,l,l',m,h,e=>by simp[nI]at e;subst e;exact⟨m,rfl,h⟩
 | [],_::_,hl,_,_,_,_,_,_=>by simp at hl
 |_::_,[],hl,_,_,_,_,_,_=>by simp at hl
 |(k,s)::r,(k',v)::t,hl,hp,l,l',m,h,e=>by
  obtain⟨u,x,y⟩:=hp 0 (k,s) rfl;simp at x;obtain⟨rfl,rfl⟩:=x;unfold nI at e;split at e
  ·next off size c d g=>
   split at e
   ·next h1 h2=>
    have h1:=a_ h1;have h2:=bP h2;have hd:=yc hm g y;have hlen:=hd.len;have j:=h.len;have n:v.cells.size=size:=by rw[<-kX,<-hlen,h1]
    have o:Instr.fill place m ((k',v)::t)=Instr.fill place (v.cells.zipIdx.foldl (λc (p:Value×Nat)=>c.setIfInBounds (off+p.2) p.1) m) t:=by simp only[Instr.fill,d];rw[if_neg];simp only[cM,decide_eq_true_eq,not_or,n];simp at j;refine⟨by simp,by omega⟩
    rw[o];refine Fq hm r t (by simpa using hl) (λi s hs=>hp (i+1) s (by simpa using hs)) _ l' _ ?_ e;rw[<-Array.foldl_toList,Array.toList_zipIdx,Td];exact Jo c _ hd off l m h
   ·cases e
  ·cases e
theorem Y1 (l:List Value):bY w ω (l.map .v) l:=by
 induction l with
 |nil=>trivial
 |cons x r b=>exact⟨rfl,b⟩
theorem Vu (h:Cx P w ω ρ M a) {o:Oper} {T:TypeId} {parts:Array (Nat×Operand)} {K:SV->Prop} (ho:o.op= .build T parts)
 (b:(F_ P T (parts.toList.map λp=>(p.1,ρ p.2)) (ae M)).run K):fj P w ω a o K:=by
 have c:∀(i:Nat) (s:Nat×SV),(parts.toList.map λp=>(p.1,ρ p.2))[i]? =some s->∃u,(parts.toList.map λp=>(p.1,a.eval p.2))[i]? =some (s.1,u)/\Den w ω s.2 u:=by
  intro i s hs;rw[eX]at hs;cases hp:parts.toList[i]? with
  |none=>rw[hp]at hs;cases hs
  |some p=>rw[hp]at hs;obtain rfl:=aV hs;exact⟨a.eval p.2,by rw[eX,hp];rfl,h.val p.2⟩
 have fin:∀{place:Nat->Option (Nat×Nat)} {z:Value} {l:List SV},nI (ae M) place (z.cells.toList.map .v) (parts.toList.map λp=>(p.1,ρ p.2))=some l->
  ∃m,Instr.fill place z.cells (parts.toList.map λp=>(p.1,a.eval p.2))=some m/\Den w ω (.ag l.length (aN l)) (.agg m):=by
  intro place z l hl;obtain⟨m,h1,h2⟩:=Fq h.mem _ _ (by simp) c _ _ _ (Y1 z.cells.toList) hl;refine⟨m,h1,m,rfl,by simpa using h2.len.symm,λj r=>?_⟩;obtain⟨x,t,y⟩:=h2.get? j r;exact⟨x,by simpa using t,y⟩
 unfold F_ at b;split at b
 ·next i fs e g=>
  split at b
  ·next z B k n=>
   split at b
   ·next l hl=>
    obtain⟨m,h1,h2⟩:=fin hl;refine⟨_,.agg m,?_,h2,b⟩;have d:(zeroValue T).run P w= .ok z w:=by simp[zeroValue,run_typeInfo w e,k,Result.andThen]
    simp[execOp,ho,Instr.build,d,run_underlying g,QT,run_places w _ _ n,h1]
   ·exact b.elim
  ·exact b.elim
 ·next i len E e g=>
  split at b
  ·next z A k q=>
   split at b
   ·next l hl=>
    obtain⟨m,h1,h2⟩:=fin hl;refine⟨_,.agg m,?_,h2,b⟩;have d:(zeroValue T).run P w= .ok z w:=by simp[zeroValue,run_typeInfo w e,k,Result.andThen]
    have hs:(sizeOf E).run P w= .ok A.size w:=by simp[sizeOf,run_typeInfo w q,Result.andThen]
    simp only[execOp,ho,Instr.build,Sem.run_bind,d,run_underlying g,Result.andThen_ok,hs];simp[h1]
   ·exact b.elim
  ·exact b.elim
 ·exact b.elim
end
end Go.Sy
namespace Go.Sy
open Go.RowKit
def OD (P:Program) (sg:Bool) (op:BinOp) (T:TypeId) (y:Operand) (s t:SV):R:=
 match s with
 | .ag _ _=>HI P op T s t
 |_=>HJ P sg op T y s t
def tZ (P:Program) (sg:Bool) (ρ:Operand->SV) (m:Nat->bw) (op:Op):R:=
 match op with
 | .move x| .assign x=> .ok (ρ x)
 | .load T x=>yS P T (ρ x) m
 | .fieldAddr S x j=>wx P S (ρ x) j m
 | .indexAddr T x y=>yJ P T (IJ y) (ρ x) (ρ y) m
 | .binOp op T x y _=>OD P sg op T y (ρ x) (ρ y)
 | .unOp op _ x=>Ib sg op (ρ x)
 | .convert S D x=>G5 P sg S D (ρ x)
 | .makeInterface T x=>E1 P T (ρ x)
 | .extract x i=>yj (ρ x) i
 | .nilCheck x=>EL P (ρ x) m
 | .field T x j=>G6 P T (ρ x) j
 | .index T x y=>Ic P T (IJ y) (ρ x) (ρ y)
 | .slice T x c d none=>F9 P T (ρ x) (c.map ρ) (d.map ρ) m
 | .makeFunc fn first b=>Fs fn (first.toList.map ρ) (b.toList.map ρ)
 | .build T parts=>F_ P T (parts.toList.map λp=>(p.1,ρ p.2)) m
 | .call {callee:= .builtin .len,args:=⟨[x]⟩,argTypes:=⟨[T]⟩}=>HK P T (ρ x) m
 | .call {callee:= .builtin .max,args:=⟨[x,y]⟩,argTypes:=_}=>C' true [ρ x,ρ y]
 | .call {callee:= .builtin .min,args:=⟨[x,y]⟩,argTypes:=_}=>C' false [ρ x,ρ y]
 |_=> .bad
section
variable {P:Program} {w:World} {ω:Ow} {ρ:Operand->SV} {M:Mem} {a:Act}
theorem s9 (h:Cx P w ω ρ M a) {sg:Bool} {o:Oper} {K:SV->Prop} (b:(tZ P sg ρ (ae M) o.op).run K):fj P w ω a o K:=by
 cases ho:o.op<;>rw[ho]at b<;>unfold tZ at b<;>try exact b.elim
 case move x=>exact⟨_,_,by simp[execOp,ho],h.val x,b⟩
 case assign x=>exact⟨_,_,by simp[execOp,ho],h.val x,b⟩
 case load T x=>exact Xe h ho b
 case fieldAddr S x j=>exact KO h ho b
 case indexAddr T x y=>exact Vs h ho b
 case binOp op T x y k=>
  simp only[OD]at b;split at b
  ·next n f hs=>exact YY h ho (by simpa only[hs]using b)
  ·exact YZ h ho b
 case unOp op T x=>exact abq h ho b
 case convert S D x=>exact Xf h ho b
 case makeInterface T x=>exact TL h ho b
 case extract x i=>exact TM h ho b
 case nilCheck x=>exact Tm h ho b
 case field T x j=>exact Xg h ho b
 case index T x y=>exact abr h ho b
 case slice T x l p mx=>
  cases mx with
  |none=>exact Vt h ho b
  |some _=>exact b.elim
 case makeFunc fn first d=>exact Uv h ho b
 case build T parts=>exact Vu h ho b
 case call c=>
  split at b
  all_goals first|exact b.elim|(next e=>cases e;done)|skip
  ·next x T e=>cases e;exact Y0 h ho b
  ·next x y g e=>cases e;exact OE (mx:=true) h ho b
  ·next x y g e=>cases e;exact OE (mx:=false) h ho b
/-! ### one cell is stored -/
abbrev bf:=List (Nat×bw)
def ov:bf->(Nat->bw)->Nat->bw
 | [],m,k=>m k
 |p::r,m,k=>match Nat.beq p.1 k with|true=>p.2|false=>ov r m k
theorem lH (u:bf) (M:Mem):ov u (ae M)=ae (u++M):=by
 funext k
 induction u with
 |nil=>rfl
 |cons p r b=>simp only[ov,pH,ae,b];cases Nat.beq p.1 k<;>rfl
def lL (m:Nat->bw) (k:Nat):bf:= [(k,⟨(m k).rs+1,(m k).ds+1,none,.dead⟩)]
def gu (m:Nat->bw) (k:Nat) (b:bp):bf:= [(k,⟨(m k).rs,(m k).ds,none,b⟩)]
def mE (m:Nat->bw) (k i j:Nat):bf:= [(k,⟨(m k).rs,(m k).ds+1,some (i,j),(m k).b⟩)]
def rb (m:Nat->bw) (k:Nat) (b:bp):bf:= [(k,{m k with b:=b})]
def HL (m:Nat->bw) (k i j r sz n:Nat) (f:Nat->Nat->SV) (b c:Nat) (g:Nat->Nat->SV):bf:=
 (k,⟨(m k).rs,(m k).ds+1,none,.row sz n ((⟨sz,n,f⟩:Row).set i j (.il b c g)).f⟩)::lL m r
def qY (m:Nat->bw) (nx k i j c e:Nat) (g:Nat->Nat->SV):bf:=
 let d:=gu (ov (mE m k i j) m) nx (.row c e λa b=>dE (g a b))++mE m k i j
 lL (ov d m) nx++d
def Ou:bp->Bool
 | .dead=>true
 |_=>false
def cC (m:Nat->bw) (k:Nat):Bool:=match Ou (m k).b,(m k).hl with|true,none=>true|_,_=>false
def nQ (m:Nat->bw):SV->Bool
 | .v (.agg _)| .v (.tuple _)| .aI| .ag _ _| .tp _ _| .il _ _ _=>false
 | .ptr k st p _ _=>cG m k st p
 | .pe k st p _ _ _ _=>cG m k st p
 | .aS k st p _ _=>cG m k st p
 | .sa k st p _ _ _=>cG m k st p
 |_=>true
def B5 (m:Nat->bw) (nx k i j sz n:Nat) (f:Nat->Nat->SV) (r b e:Nat) (g:Nat->Nat->SV):Option (Prop×bf):=
 match (m k).hl with
 |none=>
  match f i j with
  | .il c no go=>
    match Nat.beq c b,Nat.beq nx k,Nat.beq nx r,cC m nx with
    |true,false,false,true=>
     let h:=qY m nx k i j c no go
     some (∀d,tH b (f d j)=true,HL (ov h m) k i j r sz n f b e g++h)
    |_,_,_,_=>none
  |_=>none
 |some (l,o)=>
  match Nat.beq o j with
  |true=>some (l=i/\∀d,tH b (f d j)=true,HL m k i j r sz n f b e g)
  |false=>none
def wu:SV->Bool
 | .v (.slice none 0 0)=>true
 | .es=>true
 |_=>false
def wN (m:Nat->bw) (nx k:Nat) (p:Path) (i j:Nat) (v:SV):Option (Prop×bf):=
 match (m k).b,p with
 | .cells l,none=>match Nat.blt j l.length,nQ m v with|true,true=>some (True,rb m k (.cells (l.set j v)))|_,_=>none
 | .row sz n f,none=>
   match Nat.blt j sz,cZ (f i j)with
   |true,false=>match nQ m v with|true=>some (∀h,cZ (f h j)=false,rb m k (.row sz n ((⟨sz,n,f⟩:Row).set i j v).f))|false=>none
   |true,true=>
    match v with
    | .aS r s none e d=>
      match cG m r s none,Nat.beq e 0,Nat.beq k r,(m r).b with
      |true,true,false,.row c _ g=>B5 m nx k i j sz n f r c d g
      |_,_,_,_=>none
    |v=>
     match wu v,f i j,Nat.beq (nx+1) k,cC m (nx+1)with
     |true,.il c _ q,false,true=>
      let t:=gu m (nx+1) (.row c 0 q)
      match B5 (ov t m) nx k i j sz n f (nx+1) c 0 q with
      |some (pr,u)=>some (pr,u++t)
      |none=>none
     |_,_,_,_=>none
   |_,_=>none
 | .row sz n f,some (x,o)=>
   match f x o with
   | .il c d g=>match Nat.blt j c,nQ m v with|true,true=>some (∀h,tH c (f h o)=true,rb m k (.row sz n ((⟨sz,n,f⟩:Row).set x o (.il c d ((⟨c,d,g⟩:Row).set i j v).f)).f))|_,_=>none
   |_=>none
 |_,_=>none
theorem Vv (hm:aU w ω M) {k:Nat} (h:cC (ae M) k=true) (d:∀p,ω.β k p=none):xq ω M k:=by
 unfold cC at h;split at h
 ·next h1 h2=>
  refine⟨?_,h2,d⟩;cases e:(ae M k).b with
  |dead=>rfl
  |cells l=>rw[e]at h1;cases h1
  |row a b c=>rw[e]at h1;cases h1
 ·cases h
theorem Uw (hm:aU w ω M) {k:Nat} (h:(ae M k).b= .dead) (p:Path):ω.β k p=none:=by
 cases c:ω.β k p with
 |none=>rfl
 |some L=>
  obtain⟨r,h1,_⟩:=hm.row k p L c;unfold rowAt at h1;rw[h]at h1;cases p with
  |none=>cases h1
  |some d=>obtain⟨i,j⟩:=d;cases h1
theorem kC (hm:aU w ω M) {k:Nat} (h:cC (ae M) k=true):xq ω M k:=by
 refine Vv hm h λp=>Uw hm ?_ p;unfold cC at h;split at h
 ·next h1 h2=>
  cases d:(ae M k).b with
  |dead=>rfl
  |cells l=>rw[d]at h1;cases h1
  |row a b c=>rw[d]at h1;cases h1
 ·cases h
theorem beq_false {a b:Nat} (h:Nat.beq a b=false):a≠b:=λe=>by subst e;rw[cy]at h;cases h
theorem Bi (hm:aU w ω M) {s:SV} {u:Value} (h:nQ (ae M) s=true) (hd:Den w ω s u):u.oneCell'=true:=by
 have ref:∀{k s:Nat} {p:Path} {R:Loc->Prop},cG (ae M) k s p=true->At ω k s p R->(∀L,R L->u.oneCell'=true)->u.oneCell'=true:=by intro k s p R h1 h2 d;obtain⟨_,L,_,c⟩:=gr hm h1 h2;exact d L c
 cases s with
 |aI=>cases h
 |v x=>obtain rfl:=hd;cases u<;>first|rfl|cases h
 |bl b=>obtain rfl:=hd;rfl
 |es=>obtain⟨p,rfl⟩:=hd;rfl
 |ptr k s p i j=>exact ref h hd λL c=>by rw[c.2];rfl
 |pe k s p i j len z=>exact ref h hd λL c=>by rw[c.2.2];rfl
 |sa k s p i j n=>exact ref h hd λL c=>by rw[c.2.2];rfl
 |aS k s p e n=>
  have e0:=iZ hm h;rcases hd with hd|⟨_,q,cap,rfl,_⟩
  ·omega
  ·rfl
 |pt q n f=>obtain⟨_,rfl,_⟩:=hd;rfl
 |sl q sz n f=>obtain⟨_,_,rfl,_⟩:=hd;rfl
 |pa q sz n f=>obtain⟨_,rfl,_⟩:=hd;rfl
 |il sz n f=>cases h
 |ag n f=>cases h
 |tp n f=>cases h
 |fn id n f=>obtain⟨_,rfl,_⟩:=hd;rfl
 |bm id s=>obtain⟨_,rfl,_⟩:=hd;rfl
 |mv nm s=>obtain⟨_,rfl,_⟩:=hd;rfl
 |ic t s=>obtain⟨_,rfl,_⟩:=hd;rfl
 |er t tf e at_=>rcases hd with⟨_,_,rfl⟩|⟨_,_,rfl⟩|⟨_,_,_,rfl,_⟩<;>rfl
theorem A1 {m:Nat->bw} {s:SV} (h:nQ m s=true):cZ s=false:=by cases s<;>first|rfl|cases h
def B6 (w:World) (ω:Ow) (M:Mem) (w':World) (k:Nat) (p:Path) (u:bf):Prop:=
 ∃aq,bz w ω M w' aq (u++M)/\aq.β k p=ω.β k p
theorem JJ (hm:aU w ω M) {nx k i j sz n:Nat} {f:Nat->Nat->SV} {r h C nr:Nat} {g:Nat->Nat->SV} (K:(ae M k).b= .row sz n f) (e:k≠r) (W:(ae M r).b= .row h nr g)
 {pr:Prop} {u:bf} (d:B5 (ae M) nx k i j sz n f r h C g=some (pr,u)) (hp:pr) {x:Value} (X:Head ω r none 0 C x) {L:Loc} (O:ω.β k none=some L) (Y:i<L.dg) (Z:j<sz):
 B6 w ω M (w.setCell ⟨L.b,L.o+i*L.sz+j,none⟩ x) k none u:=by
 unfold B5 at d;split at d
 ·next p=>
  split at d
  ·next c no go R=>
   split at d
   ·next h1 h2 B h4=>
    have h2:=beq_false h2;have B:=beq_false B;simp only[bF,bJ]at d;obtain⟨rfl,rfl⟩:=d;have t:=kC hm h4;obtain⟨bZ,s1,e1,e2,e3⟩:=bz.OC hm (cA h2) t p K R;obtain⟨v,s2,e4,e5⟩:=bz.kill s1.mem nx;have y:kill (fresh (kY M k i j) nx (.row c no λa b=>dE (go a b))) nx=qY (ae M) nx k i j c no go++M:=by
     have a1:ov (mE (ae M) k i j) (ae M)=ae (kY M k i j):=by rw[lH];rfl
     have a2:ov (gu (ov (mE (ae M) k i j) (ae M)) nx (.row c no λa b=>dE (go a b))++mE (ae M) k i j) (ae M)=ae (fresh (kY M k i j) nx (.row c no λa b=>dE (go a b))):=by rw[lH,a1];rfl
     unfold qY;simp only[a2];simp only[lL,gu,a1,mE,pH,yD];rfl
    rw[y]at s2;have l:ae (qY (ae M) nx k i j c no go++M) k=⟨(ae M k).rs,(ae M k).ds+1,some (i,j),(ae M k).b⟩:=by rw[<-y,iA h2];unfold fresh;rw[cF h2,Je]
    have E:ae (qY (ae M) nx k i j c no go++M) r=ae M r:=by rw[<-y,iA B];unfold fresh;rw[cF B,AY e]
    have G:v.β k none=some L:=by rw[e4 _ _ (cA h2),e3 _ _ (cA h2) (by simp)];exact O
    have S:v.β r none=ω.β r none:=by rw[e4 _ _ (cA B),e3 _ _ (cA B) (by simp)]
    have T:Head v r none 0 C x:=by obtain⟨q,cap,y1,y2,y3,y4⟩:=X;exact⟨q,cap,y1,y2,y3,by rw[S];exact y4⟩
    obtain⟨z,U,V,e7⟩:=bz.fill s2.mem e (by rw[l]) (by rw[l];exact K) hp (by rw[E];exact W) T G Y Z;refine⟨z,?_,?_⟩
    ·have:=(s1.trans s2).trans U;have I:Sy.fill (qY (ae M) nx k i j c no go++M) k i j r sz n f h C g=HL (ov (qY (ae M) nx k i j c no go) (ae M)) k i j r sz n f h C g++qY (ae M) nx k i j c no go++M:=by rw[lH];rfl
     rw[I]at this;exact this
    ·rw[V _ _ e (by simp),G,O]
   ·cases d
  ·cases d
 ·next i0 j0 p=>
  split at d
  ·next A=>
   have A:=a_ A;simp only[bF,bJ]at d;obtain⟨rfl,rfl⟩:=d;obtain⟨rfl,J⟩:=hp;subst A;obtain⟨z,U,V,e7⟩:=bz.fill hm e p K J W X O Y Z;exact⟨z,U,V _ _ e (by simp)⟩
  ·cases d
theorem yt (hm:aU w ω M) {k:Nat} {l:List SV} (d:(ae M k).b= .cells l) {L:Loc} (e:ω.β k none=some L):L.sz=l.length/\L.dg=1:=by obtain⟨r,c,g,e3,_⟩:=hm.row k none L e;unfold rowAt at c;rw[d]at c;obtain rfl:=aV c;exact⟨g.symm,e3.symm⟩
theorem Ki (hm:aU w ω M) {nx k:Nat} {p:Path} {i j:Nat} {v:SV} {pr:Prop} {u:bf} (c:wN (ae M) nx k p i j v=some (pr,u)) (hp:pr) {x:Value} (t:Den w ω v x) (h1:x.oneCell'=true)
 {L:Loc} (y:ω.β k p=some L) (E:i<L.dg):j<L.sz/\B6 w ω M (w.setCell ⟨L.b,L.o+i*L.sz+j,none⟩ x) k p u:=by
 unfold wN at c;split at c
 ·next l q=>
  obtain⟨c1,c2⟩:=yt hm q y;split at c
  ·next h2 G=>
   have h2:j<l.length:=bP h2;simp only[bF,bJ]at c;obtain⟨_,rfl⟩:=c;exact⟨by omega,ω,bz.putCells hm q y E h2 (A1 G) t,rfl⟩
  ·cases c
 ·next sz n f q=>
  obtain⟨r0,h,I,e3,_⟩:=hm.row k none L y;unfold rowAt at h;rw[q]at h;obtain rfl:=aV h;have I:sz=L.sz:=I;split at c
  ·next h2 G=>
   have h2:j<sz:=bP h2;split at c
   ·next A=>
    simp only[bF,bJ]at c;obtain⟨rfl,rfl⟩:=c;exact⟨by omega,ω,bz.putRow hm q y E h2 (A1 A) t hp,rfl⟩
   ·cases c
  ·next h2 G=>
   have h2:j<sz:=bP h2;refine⟨by omega,?_⟩;split at c
   ·next r s e W=>
    split at c
    ·next d nr g A R z S=>
     have R:=a_ R;subst R;have z:=beq_false z;have e0:=iZ hm A;rcases t with t|⟨_,t⟩
     ·omega
     exact JJ hm q z S c hp t y E h2
    ·cases c
   ·split at c
    ·next d _ C A R z S=>
     have z:=beq_false z;dsimp only at c;split at c
     ·next X u0 hs=>
      simp only[bF,bJ]at c;obtain⟨rfl,rfl⟩:=c;have Y:=kC hm S;have s1:=bz.dummy hm Y d 0 C;have B:fresh M (nx+1) (.row d 0 C)=gu (ae M) (nx+1) (.row d 0 C)++M:=rfl;rw[B]at s1;rw[lH]at hs;obtain⟨T,J⟩:∃T,x= .slice T 0 0:=by
       unfold wu at A;split at A
       ·exact⟨none,t⟩
       ·exact t
       ·cases A
      have K:ae (gu (ae M) (nx+1) (.row d 0 C)++M) k=ae M k:=by rw[<-B];unfold fresh;rw[cF z]
      have O:(ae (gu (ae M) (nx+1) (.row d 0 C)++M) (nx+1)).b= .row d 0 C:=by rw[<-B];unfold fresh;rw[dk]
      obtain⟨U,s2,Z⟩:=JJ s1.mem (by rw[K];exact q) (cA z) O hs hp (x:=x) ⟨T,0,J,bc _,gf _,.inl rfl⟩ y E h2;refine⟨U,?_,Z⟩;rw[mC];exact s1.trans s2
     ·cases c
    ·cases c
  ·cases c
 ·next sz n f i0 j0 q=>
  split at c
  ·next d W g V=>
   split at c
   ·next h2 G=>
    have h2:j<d:=bP h2;simp only[bF,bJ]at c;obtain⟨rfl,rfl⟩:=c;obtain⟨r0,h,I,e3,_⟩:=hm.row k _ L y;unfold rowAt at h;rw[q]at h;have h:inner ⟨sz,n,f⟩ i0 j0=some r0:=h;unfold inner at h;simp only[V]at h;obtain rfl:=aV h;have I:d=L.sz:=I;exact⟨by omega,ω,bz.Vw hm q V y E h2 (A1 G) t hp,rfl⟩
   ·cases c
  ·cases c
 ·cases c
def wM (m:Nat->bw) (nx k:Nat) (p:Path) (i:Nat):Nat->List SV->Option (Prop×bf)
 |_,[]=>some (True,[])
 |j,[v]=>wN m nx k p i j v
 |j,v::r=>
  match wN m nx k p i j v with
  |some (p1,b)=>match wM (ov b m) (nx+2) k p i (j+1) r with|some (c,d)=>some (p1/\c,d++b)|none=>none
  |none=>none
theorem A7 {b off:Nat} {c:Array Value} {T:TypeId} {x:Value} (h:w.heap[b]? =some (Obj.cells c T (0,0))) (d:off<c.size) (h1:x.oneCell'=true):(store ⟨b,off,none⟩ x).run P w= .ok () (w.setCell ⟨b,off,none⟩ x):=by
 have e:w.cell? ⟨b,off,none⟩=some c[off]:=by simp[World.cell?,h,d]
 have g:w.frozen? ⟨b,off,none⟩=false:=by simp[World.frozen?,h]
 cases x<;>first|(cases h1;done)|simp[store,Sem.run,e,g]
theorem Kh:∀(J:List SV) (us:List Value) {w:World} {ω:Ow} {M:Mem} (hm:aU w ω M) {nx k:Nat} {p:Path} {i j:Nat} {pr:Prop} {u:bf} (d:wM (ae M) nx k p i j J=some (pr,u)) (hp:pr) (g:bY w ω J us) (h1:∀x∈us,x.oneCell'=true)
 {L:Loc} (l:ω.β k p=some L) (n:i<L.dg) {ad:Addr} (q:Nat) (e:ad.add q=⟨L.b,L.o+i*L.sz+j,none⟩),∃w',(storeCells ad us q).run P w= .ok () w'/\B6 w ω M w' k p u
 | [],[],w,ω,M,hm,nx,k,p,i,j,pr,u,d,hp,g,h1,L,l,n,ad,q,e=>by simp only[wM,bF,bJ]at d;obtain⟨_,rfl⟩:=d;exact⟨w,by simp[storeCells],ω,bz.refl hm,rfl⟩
 |v::r,x::t,w,ω,M,hm,nx,k,p,i,j,pr,u,d,hp,⟨g,z⟩,h1,L,l,n,ad,q,e=>by
  have key:∀{p1:Prop} {C:bf},wN (ae M) nx k p i j v=some (p1,C)->p1->(store (ad.add q) x).run P w= .ok () (w.setCell ⟨L.b,L.o+i*L.sz+j,none⟩ x)/\B6 w ω M (w.setCell ⟨L.b,L.o+i*L.sz+j,none⟩ x) k p C:=by intro p1 C hs E;obtain⟨O,h⟩:=Ki hm hs E g (h1 x (by simp)) l n;obtain⟨_,_,_,_,c,T,R,g2,Y,S⟩:=hm.row _ _ _ l;obtain⟨y,U,_⟩:=S i n j O;rw[e];exact⟨A7 R (eZ.1 U).1 (h1 x (by simp)),h⟩
  cases r with
  |nil=>
   cases t with
   |nil=>obtain⟨r1,h⟩:=key (by simpa [wM]using d) hp;exact⟨_,by simp[storeCells,r1],h⟩
   |cons _ _=>exact z.elim
  |cons V r2=>
   simp only[wM]at d;split at d
   ·next p1 C hs=>
    split at d
    ·next Z u2 A=>
     simp only[bF,bJ]at d;obtain⟨rfl,rfl⟩:=d;obtain⟨r1,bZ,s1,K⟩:=key hs hp.1;rw[lH]at A;have B:ad.add (q+1)=⟨L.b,L.o+i*L.sz+(j+1),none⟩:=by rw[<-add_add,e,jx];simp[i_]
     obtain⟨w',G,I,s2,W⟩:=Kh (V::r2) t s1.mem A hp.2 (z.ext s1.ext) (λy X=>h1 y (by simp[X])) (K.trans l) n (q+1) B;refine⟨w',by simp[storeCells,r1,G,Result.andThen],I,?_,W.trans K⟩;rw[mC];exact s1.trans s2
    ·cases d
   ·cases d
 | [],_::_,_,_,_,_,_,_,_,_,_,_,_,_,_,g,_,_,_,_,_,_,_=>g.elim
 |_::_,[],_,_,_,_,_,_,_,_,_,_,_,_,_,g,_,_,_,_,_,_,_=>g.elim
end
end Go.Sy
namespace Go.Sy
open Go.RowKit
section
variable {P:Program} {w:World} {ω:Ow} {ρ:Operand->SV} {M:Mem} {a:Act}
def oM (P:Program) (w:World) (ω:Ow) (M:Mem) (a:Act) (o:Oper) (s:SV) (u:bf):Prop:=
 ∃n v w' aq,(execOp a.eval o).run P w= .ok n w'/\(n= .value v\/(n= .skip/\v=undef))/\bz w ω M w' aq (u++M)/\Den w' aq s v
structure iN (w:World) (ω:Ow) (w':World) (aq:Ow) (ids:Nat->Prop):Prop where
 cw:Cw w w'
 A:∀b,ω.A b->aq.A b
 Z:aq.Z=ω.Z
 β:∀k p,¬ids k->aq.β k p=ω.β k p
 new:∀k p L,ids k->aq.β k p=some L->w.heap.size<=L.b
 cur:aq.cur=ω.cur
def lQ (P:Program) (w:World) (ω:Ow) (M:Mem) (a:Act) (o:Oper) (s:SV) (u:bf):Prop:=
 ∃n v w' aq,(execOp a.eval o).run P w= .ok n w'/\(n= .value v\/(n= .skip/\v=undef))/\bz w ω M w' aq (u++M)/\Den w' aq s v/\iN w ω w' aq (λk=>k∈u.map (·.1))
theorem lQ.xE {o:Oper} {s:SV} {u:bf} (h:lQ P w ω M a o s u):oM P w ω M a o s u:=by obtain⟨n,v,w',aq,h1,h2,b,c,_⟩:=h;exact⟨n,v,w',aq,h1,h2,b,c⟩
theorem ME {nx:Nat} {g:Obj} {L:Loc} {u:bf} (d:L.b=w.heap.size) (i:∀p,ω.β nx p=none) (e:u.map (·.1)= [nx]):iN w ω (w.alloc g) (ω.add nx L) (λk=>k∈u.map (·.1)) where
 cw:=⟨rfl,rfl,rfl,by simp,λb d=>Below.heap_alloc _ _ _ d⟩
 A:=λb h=> .inl h
 Z:=rfl
 β:=λk p c=>by show(if k=nx/\p=none then some L else ω.β k p)=_;rw[if_neg];rintro ⟨rfl,_⟩;rw[e]at c;exact c (by simp)
 new:=λk p L' c h=>by
  have h:(if k=nx/\p=none then some L else ω.β k p)=some L':=h;rw[e]at c;have c:k=nx:=by simpa using c
  subst c;split at h
  ·obtain rfl:=aV h;rw[d];exact bc _
  ·rw[i]at h;cases h
 cur:=rfl
/-! ### boxes -/
def HG (m:Nat->bw) (nx:Nat) (s:SV):Option (Prop×SV×bf):=
 match oA m s,cC m nx with
 |some b,true=>match b.all λs=>!cZ s with|true=>some (True,.ptr nx (m nx).rs none 0 0,gu m nx (.cells b))|false=>none
 |_,_=>none
def zeroCells (P:Program) (T:TypeId):Option (List SV):=
 match P.info? T with
 |some i=>match i.zero with|some z=>some (z.cells.toList.map .v)|none=>none
 |none=>none
def FZ (P:Program) (m:Nat->bw) (nx:Nat) (T:TypeId):Option (Prop×SV×bf):=
 match zeroCells P T,cC m nx with
 |some b,true=>some (True,.ptr nx (m nx).rs none 0 0,gu m nx (.cells b))
 |_,_=>none
def tc (l:List SV) (j len z:Nat) (b:IntKind) (x:Int) (zs:List Int) (q:Nat):SV:=
 match Nat.ble j q,Nat.blt q (j+len)with
 |true,true=> .v (.int b (bif Nat.beq (q -j) z then x else fX zs (q -j)))
 |_,_=>aN l q
def G4:List SV->Option (IntKind×Int)
 | [.v (.int k x)]=>some (k,x)
 |_=>none
theorem Uu {l:List SV} {k:IntKind} {x:Int} (h:G4 l=some (k,x)):l= [.v (.int k x)]:=by
 unfold G4 at h;split at h
 ·simp only[bF,bJ]at h;obtain⟨rfl,rfl⟩:=h;rfl
 ·cases h
def F1 (P:Program) (m:Nat->bw) (nx:Nat) (T:TypeId) (ad s:SV):Option (Prop×SV×bf):=
 match oA m s,P.info? T with
 |some c,some i=>
  match Nat.beq c.length i.size,c.all (nQ m)with
  |true,true=>
   match ad with
   | .ptr k st p d j=>match cG m k st p with|true=>(match wM m nx k p d j c with|some (pr,u)=>some (pr,.aI,u)|none=>none)|false=>none
   | .pe k st p d j len z=>
     match cG m k st p,(m k).b,p,G4 c with
     |true,.cells l,none,some (e,x)=>
      match Nat.ble (j+len) l.length,pK e ((List.range len).map λq=>aN l (j+q))with
      |true,some zs=>some (True,.aI,rb m k (.cells ((List.range l.length).map (tc l j len z e x zs))))
      |_,_=>none
     |_,_,_,_=>none
   |_=>none
  |_,_=>none
 |_,_=>none
theorem Xd (l:List Value):bY w ω (l.map .v) l:=by
 induction l with
 |nil=>trivial
 |cons x r b=>exact⟨rfl,b⟩
theorem KX (hm:aU w ω M) {nx:Nat} (o:cC (ae M) nx=true) {d:List SV} {c:Array Value} {T:TypeId} (n:bY w ω d c.toList) (g:∀j,cZ (aN d j)=false):
 ∃aq,bz w ω M (w.alloc (.cells c T)) aq (gu (ae M) nx (.cells d)++M)/\Den (w.alloc (.cells c T)) aq (.ptr nx (ae M nx).rs none 0 0) (.pointer (some ⟨w.heap.size,0,none⟩))/\iN w ω (w.alloc (.cells c T)) aq (λk=>k∈(gu (ae M) nx (.cells d)).map (·.1)):=by
 have hlen:=n.len;have b:=kC hm o;let L:Loc:=⟨w.heap.size,0,d.length,1,c.size⟩;have e:Ext w ω (w.alloc (.cells c T)) (ω.add nx L):=E0 rfl b.2.2;refine⟨ω.add nx L,bz.alloc (r:=⟨d.length,1,λ_ j=>aN d j⟩) hm b rfl rfl (by simp at hlen;show 1*d.length<=_;omega) (λi h j l=>?_),Or.inr ⟨?_,L,by simp[Ow.add],by show 0<1;omega,by simp[L]⟩,ME rfl b.2.2 rfl⟩
 ·have h:i=0:=by have:i<1:=h;omega
  subst h;have l:j<d.length:=l;obtain⟨x,p,q⟩:=n.get? j l;refine⟨x,by simpa using p,?_⟩;show cO _ _ _ _ _ _ (aN d j) x;rw[fC (g j)];exact q.ext e
 ·show _=st ω.cur nx none;rw[hm.cur];rfl
theorem EV {l:List SV} (h:(l.all λs=>!cZ s)=true) (j:Nat):cZ (aN l j)=false:=by
 unfold aN;rw[cD];cases b:l[j]? with
 |none=>rfl
 |some x=>simpa using cY.1 h x (fw b)
theorem Oy (h:Cx P w ω ρ M a) {o:Oper} {T:TypeId} {x:Operand} {nx:Nat} {pr:Prop} {s:SV} {u:bf} (ho:o.op= .box T x) (b:HG (ae M) nx (ρ x)=some (pr,s,u)):lQ P w ω M a o s u:=by
 unfold HG at b;split at b
 ·next i c e=>
  split at b
  ·next d=>
   simp only[bF,bJ]at b;obtain⟨_,rfl,rfl⟩:=b;obtain⟨aq,h1,h2,g⟩:=KX (T:=T) h.mem e (yc h.mem c (h.val x)) (EV d);exact⟨_,_,_,aq,by simp[execOp,ho,go_sem],.inl rfl,h1,h2,g⟩
  ·cases b
 ·cases b
theorem Vr (l:List Value) (j:Nat):cZ (aN (l.map .v) j)=false:=by unfold aN;rw[cD,eX];cases l[j]? <;>rfl
theorem KM (h:Cx P w ω ρ M a) {o:Oper} {T:TypeId} {nx:Nat} {pr:Prop} {s:SV} {u:bf} (ho:o.op= .alloc T) (c:FZ P (ae M) nx T=some (pr,s,u)):lQ P w ω M a o s u:=by
 unfold FZ at c;split at c
 ·next l b e=>
  simp only[bF,bJ]at c;obtain⟨_,rfl,rfl⟩:=c;unfold zeroCells at b;split at b
  ·next i g=>
   split at b
   ·next z j=>
    obtain rfl:=aV b;have d:(zeroValue T).run P w= .ok z w:=by simp[zeroValue,run_typeInfo w g,j,Result.andThen]
    obtain⟨aq,h1,h2,k⟩:=KX (T:=T) h.mem e (Xd z.cells.toList) (Vr _);exact⟨_,_,_,aq,by simp[execOp,ho,go_sem,d],.inl rfl,h1,h2,k⟩
   ·cases b
  ·cases b
 ·cases c
theorem Bf (hm:aU w ω M):∀{c:List SV} {us:List Value},c.all (nQ (ae M))=true->bY w ω c us->∀u∈us,u.oneCell'=true
 | [],[],_,_,u,b=>by cases b
 |s::r,x::t,h,⟨h1,h2⟩,u,b=>by
  simp only[wK,aW]at h;rcases eG.1 b with rfl|b
  ·exact Bi hm h.1 h1
  ·exact Bf hm h.2 h2 u b
 | [],_::_,_,hd,_,_=>hd.elim
 |_::_,[],_,hd,_,_=>hd.elim
theorem Vl (h:Cx P w ω ρ M a) {o:Oper} {T:TypeId} {x y:Operand} {nx:Nat} {pr:Prop} {s:SV} {u:bf} (ho:o.op= .store T x y) (d:F1 P (ae M) nx T (ρ x) (ρ y)=some (pr,s,u)) (hp:pr):oM P w ω M a o s u:=by
 have hm:=h.mem;have X:=h.val x;unfold F1 at d;split at d
 ·next cs i Y hi=>
  have G:=yc hm Y (h.val y);split at d
  ·next hlen J=>
   have hlen:=a_ hlen;have h1:=Bf hm J G;have Z:(a.eval y).cells.size=i.size:=by rw[<-kX,<-G.len,hlen]
   have IP:(sizeOf T).run P w= .ok i.size w:=by simp[sizeOf,run_typeInfo w hi,Result.andThen]
   have run:∀{ad w'},a.eval x= .pointer (some ad)->(storeCells ad (a.eval y).cells.toList).run P w= .ok () w'->(execOp a.eval o).run P w= .ok .skip w':=by intro ad w' ex n;simp[execOp,ho,ex,Instr.storeAt,Instr.sureAddr,storeVar,IP,Z,n,Result.andThen]
   split at d
   ·next k st p ii j hs=>
    rw[hs]at X;split at d
    ·next t=>
     split at d
     ·next pr' u' lZ=>
      simp only[bF,bJ]at d;obtain⟨rfl,rfl,rfl⟩:=d;obtain⟨e0,L,K,O,ex⟩:=gr hm t X;obtain⟨w',r1,aq,s1,_⟩:=Kh (P:=P) cs _ hm lZ hp G h1 K O (ad:=⟨L.b,L.o+ii*L.sz+j,none⟩) 0 (by simp[Addr.add]);exact⟨_,undef,w',aq,run ex r1,.inr ⟨rfl,rfl⟩,s1,trivial⟩
     ·cases d
    ·cases d
   ·next k st p ii j len z hs=>
    rw[hs]at X;split at d
    ·next l v A R e t=>
     have e:=Uu e;split at d
     ·next zs hle B=>
      have hle:=bP hle;simp only[bF,bJ]at d;obtain⟨_,rfl,rfl⟩:=d;obtain⟨e0,L,K,O,hz,ex⟩:=gr hm t X;obtain⟨c1,c2⟩:=yt hm R K;have hii:ii=0:=by omega
      subst hii;obtain⟨S,C⟩:∃S,(a.eval y).cells.toList= [S]:=by
       have:=G.len;rw[e]at this
       match h:(a.eval y).cells.toList,this with
       | [S],_=>exact⟨S,rfl⟩
      rw[C,e]at G;rw[C]at h1;have U:S= .int v A:=G.1;subst U;obtain⟨_,_,_,_,c,T0,g1,g2,g3,g4⟩:=hm.row _ _ _ K;obtain⟨_,y1,_⟩:=g4 0 (by omega) (j+z) (by omega);have n:=A7 (P:=P) g1 (eZ.1 y1).1 (x:= .int v A) rfl;have B:=vV B;refine⟨_,undef,w.setCell ⟨L.b,L.o+0*L.sz+(j+z),none⟩ (.int v A),ω,run ex (by rw[C];simp only[yG,sP]at n⊢;simp[storeCells,Addr.add,n]),.inr ⟨rfl,rfl⟩,?_,trivial⟩;refine bz.put hm K (by omega) (by omega) ⟨rfl,rfl,rfl⟩ (λ_ _=>⟨l,R⟩) ?_;intro q r n;rw[R]at n;cases q with
      |some ij=>obtain⟨i',j'⟩:=ij;cases n
      |none=>
       obtain rfl:=aV n;have get:∀b,b<l.length->aN ((List.range l.length).map (tc l j len z v A zs)) b=tc l j len z v A zs b:=by intro b R;simp[aN,cD,R]
       refine⟨⟨((List.range l.length).map (tc l j len z v A zs)).length,1,λ_ q=>aN ((List.range l.length).map (tc l j len z v A zs)) q⟩,rfl,by simp,rfl,λa0 ha b g=>⟨?_,?_⟩⟩
       ·rintro ⟨_,rfl,rfl⟩ w' hw';show cO _ _ _ _ _ _ (aN _ (j+z)) _;have g:j+z<l.length:=g;rw[get _ g];have b1:Nat.ble j (j+z)=true:=iC (by omega);have b2:Nat.blt (j+z) (j+len)=true:=iC (by omega);unfold tc;rw[b1,b2,show j+z -j=z by omega,cy];rfl
       ·intro tU w' yv V;show cO _ _ _ _ _ _ (aN _ b) _;have g:b<l.length:=g;have ha:a0<1:=ha;rw[get _ g];have V:cO _ _ _ _ _ _ (aN l b) yv:=V;unfold tc;split
        ·next b1 b2=>
         have b1:=bP b1;have b2:b<j+len:=bP b2;have I:=congrArg (λl=>l[b -j]?) B;simp only[eX,nD (show b -j<len by omega),iB]at I;cases E:zs[b -j]? with
         |none=>rw[E]at I;cases I
         |some y2=>
          rw[E]at I;simp only[iB,bF,show j+(b -j)=b by omega]at I;rw[I]at V;have W:fX zs (b -j)=y2:=by simp[fX,cD,E]
          have hbz:Nat.beq (b -j) z=false:=by
           cases hbb:Nat.beq (b -j) z
           ·rfl
           ·have:=a_ hbb;exact absurd ⟨rfl,by omega,by omega⟩ tU
          rw[hbz,W];exact V
        ·exact V
     ·cases d
    ·cases d
   ·cases d
  ·cases d
 ·cases d
end
end Go.Sy
