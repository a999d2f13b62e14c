/-
  Ev, part 3: arithmetic, tests, aggregates, interfaces, tuples, lengths.
-/
import Derived.Test.YtfmaeiilbhpepaaDoorEv2
set_option linter.unusedVariables false
set_option linter.unusedSimpArgs false
namespace Go.Ev
open Go.RowKit

/-- '&', '|', '^', '&^' as the model has them. -/
def bitsI (op : BinOp) (k : IntKind) (x y : Int) : Int :=
  match op with
  | .and => k.wrap (BitVec.ofInt k.bits x &&& BitVec.ofInt k.bits y).toNat
  | .or => k.wrap (BitVec.ofInt k.bits x ||| BitVec.ofInt k.bits y).toNat
  | .xor => k.wrap (BitVec.ofInt k.bits x ^^^ BitVec.ofInt k.bits y).toNat
  | _ => k.wrap (BitVec.ofInt k.bits x &&& ~~~BitVec.ofInt k.bits y).toNat

def evInts (op : BinOp) (k : IntKind) (x y : Int) : R :=
  match op with
  | .add => .ok (.v (.int k (k.wrap (x + y))))
  | .sub => .ok (.v (.int k (k.wrap (x - y))))
  | .mul => .ok (.v (.int k (k.wrap (x * y))))
  | .quo => .req (y ≠ 0) (.v (.int k (k.wrap (x.tdiv y))))
  | .rem => .req (y ≠ 0) (.v (.int k (x.tmod y)))
  | .and => .ok (.v (.int k (bitsI .and k x y)))
  | .or => .ok (.v (.int k (bitsI .or k x y)))
  | .xor => .ok (.v (.int k (bitsI .xor k x y)))
  | .andNot => .ok (.v (.int k (bitsI .andNot k x y)))
  | .eql => .ok (.v (.bool (x == y)))
  | .neq => .ok (.v (.bool (x != y)))
  | .lss => .ok (.v (.bool (decide (x < y))))
  | .leq => .ok (.v (.bool (decide (x ≤ y))))
  | .gtr => .ok (.v (.bool (decide (y < x))))
  | .geq => .ok (.v (.bool (decide (y ≤ x))))
  | _ => .bad
def evShift (op : BinOp) (k : IntKind) (x y : Int) : R :=
  match op with
  | .shl => .req (0 ≤ y) (.v (.int k (k.wrap (x * 2 ^ (min y.toNat k.bits)))))
  | .shr => .req (0 ≤ y) (.v (.int k (x.fdiv (2 ^ (min y.toNat k.bits)))))
  | _ => .bad
def kindEq : IntKind → IntKind → Bool
  | .i8, .i8 | .i16, .i16 | .i32, .i32 | .i64, .i64 | .u8, .u8 | .u16, .u16 | .u32, .u32 | .u64, .u64 => true
  | _, _ => false
theorem kindEq_eq {a b : IntKind} (h : kindEq a b = true) : a = b := by cases a <;> cases b <;> first | rfl | cases h

def asB : SV → Option Bool
  | .bl b => some b
  | .v (.bool b) => some b
  | _ => none
theorem asB_den {w : World} {A : Nat → Prop} {β : List Nat} {s : SV} {b : Bool} {u : Value} (h : asB s = some b) (hd : Den w A β s u) : u = .bool b := by
  unfold asB at h
  split at h <;> simp at h <;> subst h <;> exact hd

/-- Cells that are numbers or bools, one by one alike. -/
def eqCells (f g : Nat → SV) : Nat → Option Bool
  | 0 => some true
  | n + 1 =>
    match eqCells f g n, f n, g n with
    | some r, .v (.int _ x), .v (.int _ y) => some (r && (x == y))
    | some r, s, t =>
      match asB s, asB t with
      | some x, some y => some (r && (x == y))
      | _, _ => none
    | none, _, _ => none

def isNilC : Operand → Bool
  | .const .nilIface => true
  | _ => false
def evStr (op : BinOp) (a b : ByteArray) : R :=
  match op with
  | .add => .req ((a.size : Int) + b.size ≤ 9223372036854775807) (.v (.string (a ++ b)))
  | .eql => .ok (.v (.bool (a.toList == b.toList)))
  | .neq => .ok (.v (.bool (a.toList != b.toList)))
  | _ => .bad
def isIface : Option TypeDesc → Bool
  | some (.interface _) => true
  | _ => false
def evNil (P : Program) (op : BinOp) (T : TypeId) (b : SV) (nb : SV) : R :=
  match isIface (P.underlying T), op with
  | true, .eql => .ok b
  | true, .neq => .ok nb
  | _, _ => .bad
def evBool (P : Program) (op : BinOp) (T : TypeId) (s t : SV) : R :=
  match P.underlying T, asB s, asB t, op with
  | some .bool, some a, some b, .eql => .ok (.v (.bool (a == b)))
  | some .bool, some a, some b, .neq => .ok (.v (.bool (a != b)))
  | _, _, _, _ => .bad
def evBin (P : Program) (op : BinOp) (T : TypeId) (y : Operand) (s t : SV) : R :=
  match s, t with
  | .v (.int k a), .v (.int k' b) =>
    match op with
    | .shl | .shr => evShift op k a b
    | _ => match kindEq k k' with | true => evInts op k a b | false => .bad
  | .v (.string a), .v (.string b) => evStr op a b
  | .er _ _ e _, .v .nilIface => match isNilC y with | true => evNil P op T (.v (.bool (e == 0))) (.v (.bool (e != 0))) | false => .bad
  | .v .nilIface, .v .nilIface => match isNilC y with | true => evNil P op T (.bl true) (.bl false) | false => .bad
  | .ic _ _, .v .nilIface => evNil P op T (.bl false) (.bl true)
  | .v (.iface _ _), .v .nilIface => evNil P op T (.bl false) (.bl true)
  | s, t => evBool P op T s t

section
variable {P : Program} {w : World} {A : Nat → Prop} {β : List Nat} {Gl : Nat → SV} {N : Nat} {F : Fr} {M : Mem} {a : Act}

theorem eqGuard_int (op : BinOp) (T : TypeId) (x y : Operand) (k k' : IntKind) (m n : Int) (w : World) : (eqGuard op T x y (.int k m) (.int k' n)).run P w = .ok () w := by
  unfold eqGuard
  cases op <;> simp
theorem eqGuard_str (op : BinOp) (T : TypeId) (x y : Operand) (m n : ByteArray) (w : World) : (eqGuard op T x y (.string m) (.string n)).run P w = .ok () w := by
  unfold eqGuard
  cases op <;> simp
theorem eqGuard_bool (op : BinOp) (T : TypeId) (x y : Operand) (m n : Bool) (w : World) : (eqGuard op T x y (.bool m) (.bool n)).run P w = .ok () w := by
  unfold eqGuard
  cases op <;> simp
theorem eqGuard_iface (op : BinOp) (T : TypeId) (x y : Operand) (t : TypeId) (m : Value) (w : World) : (eqGuard op T x y (.iface t m) .nilIface).run P w = .ok () w := by
  unfold eqGuard
  cases op <;> simp
theorem eqGuard_nil (op : BinOp) (T : TypeId) (x y : Operand) (hy : isNilC y = true) (w : World) : (eqGuard op T x y .nilIface .nilIface).run P w = .ok () w := by
  unfold isNilC at hy
  split at hy
  · unfold eqGuard
    cases op <;> simp
  · cases hy

theorem ints_ok (op : BinOp) (hop : op ≠ .shl ∧ op ≠ .shr) (T : TypeId) (k : IntKind) (x y : Int) (K : SV → Prop) (he : (evInts op k x y).run K) :
    ∃ u, (∀ w, (binOp op T (.int k x) (.int k y)).run P w = .ok u w) ∧ K (.v u) := by
  unfold evInts at he
  split at he
  case h_4 => exact ⟨_, fun w => by simp [binOp, Op.intDiv, he.1], he.2⟩
  case h_5 => exact ⟨_, fun w => by simp [binOp, Op.intDiv, he.1], he.2⟩
  case h_16 => exact he.elim
  all_goals exact ⟨_, fun w => by simp [binOp, Op.intArith, Op.intBits, Op.intCmp, bitsI], he⟩
theorem shift_ok (op : BinOp) (T : TypeId) (k k' : IntKind) (x y : Int) (K : SV → Prop) (he : (evShift op k x y).run K) :
    ∃ u, (∀ w, (binOp op T (.int k x) (.int k' y)).run P w = .ok u w) ∧ K (.v u) := by
  unfold evShift at he
  split at he
  · exact ⟨_, fun w => by simp [binOp, Op.shift, Int.not_lt.2 he.1], he.2⟩
  · exact ⟨_, fun w => by simp [binOp, Op.shift, Int.not_lt.2 he.1], he.2⟩
  · exact he.elim
theorem run_bin {o : Oper} {op : BinOp} {T T' : TypeId} {x y : Operand} (ho : o.op = .binOp op T x y T') {u v r : Value} (ex : a.eval x = u) (ey : a.eval y = v)
    (hg : ∀ w : World, (eqGuard op T x y u v).run P w = .ok () w) (hr : ∀ w : World, (binOp op T u v).run P w = .ok r w) : ∀ w', Cw w w' → (execOp a.eval o).run P w' = .ok (.value r) w' := by
  intro w' _
  simp [execOp, ho, ex, ey, hg, hr, Result.andThen]
theorem isIface_some {d : Option TypeDesc} (h : isIface d = true) : ∃ ms, d = some (.interface ms) := by
  unfold isIface at h
  split at h
  · exact ⟨_, rfl⟩
  · cases h
theorem eql_nil_run {T : TypeId} (hu : isIface (P.underlying T) = true) (b : Bool) (u : Value) (hb : (b = true ∧ u = .nilIface) ∨ (b = false ∧ ∃ t x, u = .iface t x)) (w : World) :
    (Op.equal T u .nilIface).run P w = .ok b w := by
  obtain ⟨ms, hu⟩ := isIface_some hu
  have h1 : ∀ d : Nat, (Op.equalIn (d + 1) T .nilIface .nilIface).run P w = .ok true w := fun d => by simp [Op.equalIn, run_underlying hu]
  have h2 : ∀ (d : Nat) t x, (Op.equalIn (d + 1) T (.iface t x) .nilIface).run P w = .ok false w := fun d t x => by simp [Op.equalIn, run_underlying hu]
  rcases hb with ⟨rfl, rfl⟩ | ⟨rfl, t, x, rfl⟩
  · simp [Op.equal, Op.maxDepth, h1 9999]
  · simp [Op.equal, Op.maxDepth, h2 9999]
theorem bin_eql {T : TypeId} {u v : Value} (hk : (∀ k n, u ≠ .int k n) ∧ (∀ k n, u ≠ .float k n) ∧ (∀ k n m, u ≠ .complex k n m) ∧ (∀ s, u ≠ .string s)) : binOp .eql T u v = (do pure (.bool (← Op.equal T u v))) ∧ binOp .neq T u v = (do pure (.bool (!(← Op.equal T u v)))) := by
  obtain ⟨h1, h2, h3, h4⟩ := hk
  constructor <;> (unfold binOp; cases u <;> first | rfl | exact absurd rfl (h1 _ _) | exact absurd rfl (h2 _ _) | exact absurd rfl (h3 _ _ _) | exact absurd rfl (h4 _))
theorem nil_ok {o : Oper} {op : BinOp} {T T' : TypeId} {x y : Operand} (ho : o.op = .binOp op T x y T') {u : Value} (ex : a.eval x = u) (ey : a.eval y = .nilIface) (b : Bool)
    (hb : (b = true ∧ u = .nilIface ∧ isNilC y = true) ∨ (b = false ∧ ∃ t x, u = .iface t x)) {s t : SV} (hs : Den w A β s (.bool b)) (ht : Den w A β t (.bool !b)) {K : SV → Prop} (he : (evNil P op T s t).run K) : PureOK P w A β a o K := by
  have hg : ∀ (op : BinOp) (w : World), (eqGuard op T x y u .nilIface).run P w = .ok () w := by
    intro op w
    rcases hb with ⟨_, rfl, hy⟩ | ⟨_, t, z, rfl⟩
    · exact eqGuard_nil op T x y hy w
    · exact eqGuard_iface op T x y t z w
  have hb' : (b = true ∧ u = .nilIface) ∨ (b = false ∧ ∃ t x, u = .iface t x) := hb.imp (fun h => ⟨h.1, h.2.1⟩) id
  have hk : (∀ k n, u ≠ .int k n) ∧ (∀ k n, u ≠ .float k n) ∧ (∀ k n m, u ≠ .complex k n m) ∧ (∀ s, u ≠ .string s) := by
    rcases hb' with ⟨_, rfl⟩ | ⟨_, t, x, rfl⟩ <;> simp
  unfold evNil at he
  split at he
  · next hu => exact ⟨_, .bool b, run_bin ho ex ey (hg _) (fun w => by rw [(bin_eql hk).1]; simp [eql_nil_run hu b u hb' w, Result.andThen]), hs, he⟩
  · next hu => exact ⟨_, .bool !b, run_bin ho ex ey (hg _) (fun w => by rw [(bin_eql hk).2]; simp [eql_nil_run hu b u hb' w, Result.andThen]), ht, he⟩
  · exact he.elim
theorem bool_ok {o : Oper} {op : BinOp} {T T' : TypeId} {x y : Operand} (ho : o.op = .binOp op T x y T') {s t : SV} (hx : Den w A β s (a.eval x)) (hy : Den w A β t (a.eval y)) {K : SV → Prop} (he : (evBool P op T s t).run K) : PureOK P w A β a o K := by
  unfold evBool at he
  split at he
  · next m n hu hs ht =>
    have ex := asB_den hs hx
    have ey := asB_den ht hy
    have h1 : ∀ (d : Nat) (w : World), (Op.equalIn (d + 1) T (.bool m) (.bool n)).run P w = .ok (m == n) w := fun d w => by simp [Op.equalIn, run_underlying hu]
    exact ⟨.v (.bool (m == n)), .bool (m == n), run_bin ho ex ey (fun w => eqGuard_bool _ _ _ _ _ _ w) (fun w => by rw [(bin_eql (by simp)).1]; simp [Op.equal, Op.maxDepth, h1 9999]), rfl, he⟩
  · next m n hu hs ht =>
    have ex := asB_den hs hx
    have ey := asB_den ht hy
    have h1 : ∀ (d : Nat) (w : World), (Op.equalIn (d + 1) T (.bool m) (.bool n)).run P w = .ok (m == n) w := fun d w => by simp [Op.equalIn, run_underlying hu]
    exact ⟨.v (.bool (m != n)), .bool (m != n), run_bin ho ex ey (fun w => eqGuard_bool _ _ _ _ _ _ w) (fun w => by rw [(bin_eql (by simp)).2]; simp [Op.equal, Op.maxDepth, h1 9999, bne]), rfl, he⟩
  · exact he.elim
theorem str_ok {o : Oper} {op : BinOp} {T T' : TypeId} {x y : Operand} (ho : o.op = .binOp op T x y T') {m n : ByteArray} (ex : a.eval x = .string m) (ey : a.eval y = .string n) {K : SV → Prop} (he : (evStr op m n).run K) : PureOK P w A β a o K := by
  unfold evStr at he
  split at he
  · exact ⟨.v (.string (m ++ n)), .string (m ++ n), run_bin ho ex ey (fun w => eqGuard_str _ _ _ _ _ _ w) (fun w => by simp [binOp, Op.stringOp, he.1]), rfl, he.2⟩
  · exact ⟨.v (.bool (m.toList == n.toList)), .bool (m.toList == n.toList), run_bin ho ex ey (fun w => eqGuard_str _ _ _ _ _ _ w) (fun w => by simp [binOp, Op.stringOp]), rfl, he⟩
  · exact ⟨.v (.bool (m.toList != n.toList)), .bool (m.toList != n.toList), run_bin ho ex ey (fun w => eqGuard_str _ _ _ _ _ _ w) (fun w => by simp [binOp, Op.stringOp, bne]), rfl, he⟩
  · exact he.elim
theorem bin_ok (h : Ctx P w A β Gl N F M a) {o : Oper} {op : BinOp} {T T' : TypeId} {x y : Operand} {K : SV → Prop} (ho : o.op = .binOp op T x y T')
    (he : (evBin P op T y (opnd Gl F x) (opnd Gl F y)).run K) : PureOK P w A β a o K := by
  have hx := h.opnd x
  have hy := h.opnd y
  unfold evBin at he
  split at he
  · next k m k' n hs ht =>
    rw [hs] at hx; rw [ht] at hy
    have ex : a.eval x = .int k m := hx
    have ey : a.eval y = .int k' n := hy
    split at he
    · obtain ⟨u, h1, h2⟩ := shift_ok (P := P) _ T k k' m n K he
      exact ⟨.v u, u, run_bin ho ex ey (fun w => eqGuard_int _ _ _ _ _ _ _ _ w) h1, rfl, h2⟩
    · obtain ⟨u, h1, h2⟩ := shift_ok (P := P) _ T k k' m n K he
      exact ⟨.v u, u, run_bin ho ex ey (fun w => eqGuard_int _ _ _ _ _ _ _ _ w) h1, rfl, h2⟩
    · next h1 h2 =>
      split at he
      · next hk =>
        obtain rfl := kindEq_eq hk
        obtain ⟨u, h3, h4⟩ := ints_ok (P := P) op ⟨h1, h2⟩ T k m n K he
        exact ⟨.v u, u, run_bin ho ex ey (fun w => eqGuard_int _ _ _ _ _ _ _ _ w) h3, rfl, h4⟩
      · exact he.elim
  · next m n hs ht =>
    rw [hs] at hx; rw [ht] at hy
    exact str_ok ho hx hy he
  · next t tf e at_ hs ht =>
    rw [hs] at hx; rw [ht] at hy
    split at he
    · next hc =>
      rcases hx with ⟨h1, _, ex⟩ | ⟨h1, _, ex⟩ | ⟨h1, _, ad, ex, _⟩
      · exact nil_ok ho ex hy true (.inl ⟨rfl, rfl, hc⟩) (by simp [Den, h1]) (by simp [Den, h1]) he
      · exact nil_ok ho ex hy false (.inr ⟨rfl, _, _, rfl⟩) (by simp [Den, h1]) (by simp [Den, h1]) he
      · exact nil_ok ho ex hy false (.inr ⟨rfl, _, _, rfl⟩) (by simp [Den, h1]) (by simp [Den, h1]) he
    · exact he.elim
  · next hs ht =>
    rw [hs] at hx; rw [ht] at hy
    split at he
    · next hc => exact nil_ok ho hx hy true (.inl ⟨rfl, rfl, hc⟩) (by simp [Den]) (by simp [Den]) he
    · exact he.elim
  · next t s hs ht =>
    rw [hs] at hx; rw [ht] at hy
    obtain ⟨u, ex, _⟩ := hx
    exact nil_ok ho ex hy false (.inr ⟨rfl, _, _, rfl⟩) (by simp [Den]) (by simp [Den]) he
  · next t s hs ht =>
    rw [hs] at hx; rw [ht] at hy
    exact nil_ok ho hx hy false (.inr ⟨rfl, _, _, rfl⟩) (by simp [Den]) (by simp [Den]) he
  · exact bool_ok ho hx hy he
end
end Go.Ev
