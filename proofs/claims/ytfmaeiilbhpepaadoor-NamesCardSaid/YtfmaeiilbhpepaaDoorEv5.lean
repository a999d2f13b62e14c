/-
  Ev, part 5: the other operations that only compute; all of them in one rule.
-/
import Derived.Test.YtfmaeiilbhpepaaDoorEv4
import Derived.Laws.Tables
set_option linter.unusedVariables false
set_option linter.unusedSimpArgs false
namespace Go.Ev
open Go.RowKit

def evAgg (P : Program) (op : BinOp) (T : TypeId) (s t : SV) : R :=
  match s, t, P.eqGuardType P.depth T with
  | .ag n f, .ag m g, false =>
    match eqT P 10000 T (.ag n f) (.ag m g), op with
    | some b, .eql => .ok (.v (.bool b))
    | some b, .neq => .ok (.v (.bool (!b)))
    | _, _ => .bad
  | _, _, _ => .bad
def evPick (c s t : SV) : R :=
  match c with
  | .bl true => .ok s
  | .bl false => .ok t
  | .v (.bool b) =>
    match asB s, asB t with
    | some x, some y => .ok (.v (.bool (bif b then x else y)))
    | _, _ => .bad
  | _ => .bad
def evUn (op : UnOp) (s : SV) : R :=
  match op, s with
  | .not, .bl true => .ok (.bl false)
  | .not, .bl false => .ok (.bl true)
  | .not, .v (.bool b) => .ok (.v (.bool (!b)))
  | .neg, .v (.int k n) => .ok (.v (.int k (k.wrap (0 - n))))
  | _, _ => .bad
def evConv (P : Program) (S D : TypeId) (s : SV) : R :=
  match P.underlying S, P.underlying D, s with
  | some _, some (.int k), .v (.int _ n) => .ok (.v (.int k (k.wrap n)))
  | _, _, _ => .bad
def ifaceOf (T : TypeId) : SV → SV
  | .v x => .v (.iface T x)
  | .bl b => .v (.iface T (.bool b))
  | s => .ic T s
def evMkIface (P : Program) (T : TypeId) (s : SV) : R :=
  match P.underlying T with
  | some (.interface _) => .bad
  | some _ => .ok (ifaceOf T s)
  | none => .bad
def evExtract (s : SV) (i : Nat) : R :=
  match s with
  | .tp n f => match Nat.blt i n with | true => .ok (f i) | false => .bad
  | _ => .bad
def evNilCheck (s : SV) : R :=
  match s with
  | .lp k off => .ok (.lp k off)
  | .pt n f => .ok (.pt n f)
  | .fn id n f => .ok (.fn id n f)
  | _ => .bad
def evLen (P : Program) (T : TypeId) (s : SV) : R :=
  match P.underlying T, s with
  | some (.slice _), .sl _ n _ => .ok (.v (.int .i64 n))
  | some .string, .v (.string x) => .ok (.v (.int .i64 x.size))
  | _, _ => .bad
def evMax (mx : Bool) (l : List SV) : R :=
  match l with
  | [.v (.int k x), .v (.int k' y)] =>
    match kindEq k k', mx with
    | true, true => .ok (.v (.int k (max x y)))
    | true, false => .ok (.v (.int k (min x y)))
    | _, _ => .bad
  | _ => .bad
def evPart (P : Program) (T : TypeId) (s : SV) (j : Nat) : R :=
  match P.underlying T, s with
  | some (.struct fs), .ag n f =>
    match fs[j]? with
    | some fd => match partSV P fd.type f n fd.offset with | some t => .ok t | none => .bad
    | none => .bad
  | _, _ => .bad
def evAt (P : Program) (T : TypeId) (s i : SV) : R :=
  match P.underlying T, s, i with
  | some .string, .v (.string x), .v (.int _ z) => .req ((0 ≤ z ∧ z < x.size)) (.v (.int .u8 (x.data.toList.getD z.toNat 0).toNat))
  | some (.array len E), .ag n f, .v (.int _ z) =>
    match P.info? E, P.underlying E with
    | some i, some d =>
      match aggD d, Nat.beq n (len * i.size), Nat.beq i.size 1 with
      | false, true, true => .req ((0 ≤ z ∧ z < len)) (f z.toNat)
      | _, _, _ => .bad
    | _, _ => .bad
  | _, _, _ => .bad
def intO (d : Int) : Option SV → Option Int
  | none => some d
  | some (.v (.int _ z)) => some z
  | _ => none
def evSlice (P : Program) (T : TypeId) (s : SV) (lo hi : Option SV) : R :=
  match P.underlying T, s with
  | some (.slice E), .sl sz n f =>
    match P.info? E, intO 0 lo, intO n hi with
    | some i, some l, some h => match Nat.beq i.size sz with | true => .req ((0 ≤ l ∧ l ≤ h ∧ h ≤ n)) (.sl sz (h.toNat - l.toNat) fun i j => f (l.toNat + i) j) | false => .bad
    | _, _, _ => .bad
  | some .string, .v (.string x) =>
    match intO 0 lo, intO x.size hi with
    | some l, some h => .req ((0 ≤ l ∧ l ≤ h ∧ h ≤ x.size)) (.v (.string (x.extract l.toNat h.toNat)))
    | _, _ => .bad
  | _, _ => .bad
def evMkFunc (fn : Fn) (first caps : List SV) : R :=
  match fn, first with
  | .func id, [] => .ok (.fn id caps.length (lsv caps))
  | _, _ => .bad

/-- The cells of a value. -/
def cellsSV : SV → Option (List SV)
  | .ag n f => some ((List.range n).map f)
  | .v (.agg cs) => some (cs.toList.map .v)
  | .v (.tuple _) => none
  | .junk => none
  | .tp _ _ => none
  | s => some [s]
def setMany (l : List SV) : Nat → List SV → List SV
  | _, [] => l
  | off, c :: r => setMany (l.set off c) (off + 1) r
def fillSV (place : Nat → Option (Nat × Nat)) (cells : List SV) : List (Nat × SV) → Option (List SV)
  | [] => some cells
  | (i, s) :: rest =>
    match place i, cellsSV s with
    | some (off, size), some cs =>
      match Nat.beq cs.length size, Nat.ble (off + cs.length) cells.length with
      | true, true => fillSV place (setMany cells off cs) rest
      | _, _ => none
    | _, _ => none
def placesL (P : Program) (fs : List Field) : Option (List (Nat × Nat)) := fs.mapM (fun f => (P.info? f.type).map fun i => (f.offset, i.size))
def evBuild (P : Program) (T : TypeId) (parts : List (Nat × SV)) : R :=
  match P.info? T, P.underlying T with
  | some i, some (.struct fs) =>
    match i.zero, placesL P fs.toList with
    | some z, some pl =>
      match fillSV (fun k => pl[k]?) (z.cells.toList.map .v) parts with
      | some l => .ok (.ag l.length (lsv l))
      | none => .bad
    | _, _ => .bad
  | some i, some (.array _ E) =>
    match i.zero, P.info? E with
    | some z, some ie =>
      match fillSV (fun k => some (k * ie.size, ie.size)) (z.cells.toList.map .v) parts with
      | some l => .ok (.ag l.length (lsv l))
      | none => .bad
    | _, _ => .bad
  | _, _ => .bad

section
variable {P : Program} {w : World} {A : Nat → Prop} {β : List Nat} {Gl : Nat → SV} {N : Nat} {F : Fr} {M : Mem} {a : Act}

theorem agg_ok (h : Ctx P w A β Gl N F M a) {o : Oper} {op : BinOp} {T T' : TypeId} {x y : Operand} {K : SV → Prop} (ho : o.op = .binOp op T x y T')
    (he : (evAgg P op T (opnd Gl F x) (opnd Gl F y)).run K) : PureOK P w A β a o K := by
  have hx := h.opnd x
  have hy := h.opnd y
  unfold evAgg at he
  split at he
  · next n f m g hs ht hg =>
    rw [hs] at hx; rw [ht] at hy
    split at he
    · next b hb =>
      have hr := fun w' => eqT_ok 10000 hb hx hy w'
      obtain ⟨xs, ex, _⟩ := hx
      obtain ⟨ys, ey, _⟩ := hy
      rw [ex, ey] at hr
      exact ⟨.v (.bool b), .bool b, run_bin ho ex ey (fun w => run_eqGuard_agg w _ _ _ _ _ _ hg) (fun w => by rw [run_eql_struct, hr w]; rfl), rfl, he⟩
    · next b hb =>
      have hr := fun w' => eqT_ok 10000 hb hx hy w'
      obtain ⟨xs, ex, _⟩ := hx
      obtain ⟨ys, ey, _⟩ := hy
      rw [ex, ey] at hr
      exact ⟨.v (.bool (!b)), .bool (!b), run_bin ho ex ey (fun w => run_eqGuard_agg w _ _ _ _ _ _ hg) (fun w => by rw [run_neq_struct, hr w]; rfl), rfl, he⟩
    · exact he.elim
  · exact he.elim
theorem pick_ok (h : Ctx P w A β Gl N F M a) {o : Oper} {c x y : Operand} {K : SV → Prop} (ho : o.op = .pick c x y)
    (he : (evPick (opnd Gl F c) (opnd Gl F x) (opnd Gl F y)).run K) : PureOK P w A β a o K := by
  have hc := h.opnd c
  have hx := h.opnd x
  have hy := h.opnd y
  unfold evPick at he
  split at he
  · next hs =>
    rw [hs] at hc
    have ec : a.eval c = .bool true := hc
    exact ⟨_, _, fun w' _ => by simp [execOp, ho, ec, asBool], hx, he⟩
  · next hs =>
    rw [hs] at hc
    have ec : a.eval c = .bool false := hc
    exact ⟨_, _, fun w' _ => by simp [execOp, ho, ec, asBool], hy, he⟩
  · next b hs =>
    rw [hs] at hc
    have ec : a.eval c = .bool b := hc
    split at he
    · next p q hp hq =>
      have ex := asB_den hp hx
      have ey := asB_den hq hy
      exact ⟨.v (.bool (bif b then p else q)), .bool (bif b then p else q), fun w' _ => by cases b <;> simp [execOp, ho, ec, asBool, ex, ey], rfl, he⟩
    · exact he.elim
  · exact he.elim
theorem un_ok (h : Ctx P w A β Gl N F M a) {o : Oper} {op : UnOp} {T : TypeId} {x : Operand} {K : SV → Prop} (ho : o.op = .unOp op T x)
    (he : (evUn op (opnd Gl F x)).run K) : PureOK P w A β a o K := by
  have hx := h.opnd x
  unfold evUn at he
  split at he
  · next hs =>
    rw [hs] at hx
    have ex : a.eval x = .bool true := hx
    exact ⟨.bl false, .bool false, fun w' _ => by simp [execOp, ho, ex, Op.unary], rfl, he⟩
  · next hs =>
    rw [hs] at hx
    have ex : a.eval x = .bool false := hx
    exact ⟨.bl true, .bool true, fun w' _ => by simp [execOp, ho, ex, Op.unary], rfl, he⟩
  · next b hs =>
    rw [hs] at hx
    have ex : a.eval x = .bool b := hx
    exact ⟨.v (.bool (!b)), .bool (!b), fun w' _ => by simp [execOp, ho, ex, Op.unary], rfl, he⟩
  · next k n hs =>
    rw [hs] at hx
    have ex : a.eval x = .int k n := hx
    exact ⟨.v (.int k (k.wrap (0 - n))), .int k (k.wrap (0 - n)), fun w' _ => by simp [execOp, ho, ex, Op.unary, Op.intArith], rfl, he⟩
  · exact he.elim
theorem conv_ok (h : Ctx P w A β Gl N F M a) {o : Oper} {S D : TypeId} {x : Operand} {K : SV → Prop} (ho : o.op = .convert S D x)
    (he : (evConv P S D (opnd Gl F x)).run K) : PureOK P w A β a o K := by
  have hx := h.opnd x
  unfold evConv at he
  split at he
  · next d k k' n hS hD hs =>
    rw [hs] at hx
    have ex : a.eval x = .int k' n := hx
    exact ⟨.v (.int k (k.wrap n)), _, fun w' _ => by simp [execOp, ho, ex, convert, run_underlying hS, run_underlying hD, Conv.intToInt, Result.andThen], rfl, he⟩
  · exact he.elim
theorem ifaceOf_den {T : TypeId} {s : SV} {u : Value} (h : Den w A β s u) : Den w A β (ifaceOf T s) (.iface T u) := by
  unfold ifaceOf
  split
  · obtain rfl := h; rfl
  · obtain rfl := h; rfl
  · exact ⟨u, rfl, h⟩
theorem mkIface_ok (h : Ctx P w A β Gl N F M a) {o : Oper} {T : TypeId} {x : Operand} {K : SV → Prop} (ho : o.op = .makeInterface T x)
    (he : (evMkIface P T (opnd Gl F x)).run K) : PureOK P w A β a o K := by
  have hx := h.opnd x
  unfold evMkIface at he
  split at he
  · exact he.elim
  · next d hn hu =>
    refine ⟨_, _, fun w' _ => ?_, ifaceOf_den hx, he⟩
    simp only [execOp, ho, Instr.makeInterface, Sem.run_bind, run_underlying hu, Result.andThen_ok]
    cases d <;> first | exact absurd rfl (hn _) | rfl
  · exact he.elim
theorem extract_ok (h : Ctx P w A β Gl N F M a) {o : Oper} {i : Nat} {x : Operand} {K : SV → Prop} (ho : o.op = .extract x i)
    (he : (evExtract (opnd Gl F x) i).run K) : PureOK P w A β a o K := by
  have hx := h.opnd x
  unfold evExtract at he
  split at he
  · next n f hs =>
    rw [hs] at hx
    obtain ⟨cs, ex, _, hj⟩ := hx
    split at he
    · next hlt =>
      obtain ⟨y, h1, h2⟩ := hj i (Nat.le_of_ble_eq_true hlt)
      exact ⟨_, y, fun w' _ => by simp [execOp, ho, ex, Instr.extract, h1], h2, he⟩
    · exact he.elim
  · exact he.elim
theorem nilCheck_ok (h : Ctx P w A β Gl N F M a) {o : Oper} {x : Operand} {K : SV → Prop} (ho : o.op = .nilCheck x)
    (he : (evNilCheck (opnd Gl F x)).run K) : PureOK P w A β a o K := by
  have hx := h.opnd x
  unfold evNilCheck at he
  split at he
  · next k off hs =>
    rw [hs] at hx
    have hx' := hx
    obtain ⟨b, _, ex⟩ := hx
    exact ⟨_, _, fun w' _ => by simp [execOp, ho, ex], hx', he⟩
  · next n f hs =>
    rw [hs] at hx
    have hx' := hx
    obtain ⟨b, ex, _⟩ := hx
    exact ⟨_, _, fun w' _ => by simp [execOp, ho, ex], hx', he⟩
  · next id n f hs =>
    rw [hs] at hx
    have hx' := hx
    obtain ⟨b, ex, _⟩ := hx
    exact ⟨_, _, fun w' _ => by simp [execOp, ho, ex], hx', he⟩
  · exact he.elim
theorem len_ok (h : Ctx P w A β Gl N F M a) {o : Oper} {T : TypeId} {x : Operand} {K : SV → Prop} (ho : o.op = .call { callee := .builtin .len, args := #[x], argTypes := #[T] })
    (he : (evLen P T (opnd Gl F x)).run K) : PureOK P w A β a o K := by
  have hx := h.opnd x
  unfold evLen at he
  split at he
  · next E sz n f hu hs =>
    rw [hs] at hx
    obtain ⟨p, cap, ex, _⟩ := hx
    exact ⟨.v (.int .i64 n), _, fun w' _ => by simp [execOp, ho, resolve, invoke, builtin, Builtin.len_, ex, run_underlying hu, Result.andThen, goInt], rfl, he⟩
  · next y hu hs =>
    rw [hs] at hx
    have ex : a.eval x = .string y := hx
    exact ⟨.v (.int .i64 y.size), _, fun w' _ => by simp [execOp, ho, resolve, invoke, builtin, Builtin.len_, ex, run_underlying hu, Result.andThen, goInt], rfl, he⟩
  · exact he.elim
theorem max_ok (h : Ctx P w A β Gl N F M a) {o : Oper} {mx : Bool} {x y : Operand} {ts : Array TypeId} {K : SV → Prop} (ho : o.op = .call { callee := .builtin (if mx then .max else .min), args := #[x, y], argTypes := ts })
    (he : (evMax mx [opnd Gl F x, opnd Gl F y]).run K) : PureOK P w A β a o K := by
  have hx := h.opnd x
  have hy := h.opnd y
  unfold evMax at he
  split at he
  · next k m k' n hl =>
    obtain ⟨h1, h2⟩ : opnd Gl F x = .v (.int k m) ∧ opnd Gl F y = .v (.int k' n) := by simpa using hl
    rw [h1] at hx; rw [h2] at hy
    have ex : a.eval x = .int k m := hx
    have ey : a.eval y = .int k' n := hy
    split at he
    · next hk =>
      exact ⟨.v (.int k (max m n)), .int k (max m n), fun w' _ => by
        simp [execOp, ho, resolve, invoke, builtin, Builtin.max_, Builtin.max2, ex, ey]
        split <;> omega, rfl, he⟩
    · next hk =>
      exact ⟨.v (.int k (min m n)), .int k (min m n), fun w' _ => by
        simp [execOp, ho, resolve, invoke, builtin, Builtin.min_, Builtin.min2, ex, ey]
        split <;> omega, rfl, he⟩
    · exact he.elim
  · exact he.elim
theorem part_ok (h : Ctx P w A β Gl N F M a) {o : Oper} {T : TypeId} {x : Operand} {j : Nat} {K : SV → Prop} (ho : o.op = .field T x j)
    (he : (evPart P T (opnd Gl F x) j).run K) : PureOK P w A β a o K := by
  have hx := h.opnd x
  unfold evPart at he
  split at he
  · next fs n f hu hs =>
    rw [hs] at hx
    split at he
    · next fd hfd =>
      split at he
      · next t ht =>
        obtain ⟨cs, ex, hr⟩ := hx
        obtain ⟨v, hv0, hv⟩ := part_den ht ⟨cs, rfl, hr⟩
        exact ⟨t, v, fun w' _ => by simp [execOp, ho, Instr.field, run_underlying hu, hfd, ex, asAgg, hv0 w', Result.andThen], hv, he⟩
      · exact he.elim
    · exact he.elim
  · exact he.elim
theorem at_ok (h : Ctx P w A β Gl N F M a) {o : Oper} {T : TypeId} {x y : Operand} {K : SV → Prop} (ho : o.op = .index T x y)
    (he : (evAt P T (opnd Gl F x) (opnd Gl F y)).run K) : PureOK P w A β a o K := by
  have hx := h.opnd x
  have hy := h.opnd y
  unfold evAt at he
  split at he
  · next s k z hu hs ht =>
    rw [hs] at hx; rw [ht] at hy
    have ex : a.eval x = .string s := hx
    have ey : a.eval y = .int k z := hy
    obtain ⟨⟨h0, h1⟩, hK⟩ := he
    have hlt : z.toNat < s.size := by omega
    have hlt' : z.toNat < s.data.toList.length := by simpa using hlt
    refine ⟨.v (.int .u8 (s.data.toList.getD z.toNat 0).toNat), .int .u8 (s.data.toList.getD z.toNat 0).toNat, fun w' _ => ?_, rfl, hK⟩
    have e1 : s[z.toNat]? = some (s.data.toList.getD z.toNat 0) := by
      rw [List.getD_eq_getElem?_getD, List.getElem?_eq_getElem hlt']
      rw [getElem?_pos s z.toNat hlt]
      rfl
    simp [execOp, ho, ex, ey, Instr.index, asIntOf, run_underlying hu, h0, e1, Result.andThen]
  · next len E n f k z hu hs ht =>
    rw [hs] at hx; rw [ht] at hy
    have ey : a.eval y = .int k z := hy
    split at he
    · next i d hi hd =>
      split at he
      · next h1 h2 h3 =>
        have h2 := Nat.eq_of_beq_eq_true h2
        have h3 := Nat.eq_of_beq_eq_true h3
        obtain ⟨⟨g0, g1⟩, hK⟩ := he
        obtain ⟨cs, ex, hn, hj⟩ := hx
        have hsz : ∀ w', (sizeOf E).run P w' = .ok i.size w' := fun w' => by simp [sizeOf, run_typeInfo w' hi, Result.andThen]
        obtain ⟨u, e1, hu1⟩ := hj z.toNat (by rw [h2, h3]; omega)
        have ha : ∀ w', (isAgg E).run P w' = .ok false w' := fun w' => by
          simp only [isAgg, Sem.run_bind, run_underlying hd, Result.andThen]
          cases d <;> simp [aggD] at h1 <;> simp
        exact ⟨_, u, fun w' _ => by simp [execOp, ho, ex, ey, Instr.index, asIntOf, run_underlying hu, g0, g1, hsz, h3, part, ha, e1, Result.andThen], hu1, hK⟩
      · exact he.elim
    · exact he.elim
  · exact he.elim
theorem intO_run {d : Int} {lo : Option Operand} {z : Int} (h : Ctx P w A β Gl N F M a) (hl : intO d (lo.map (opnd Gl F)) = some z) :
    (lo = none ∧ z = d) ∨ ∃ x k, lo = some x ∧ a.eval x = .int k z := by
  cases lo with
  | none => simp [intO] at hl; exact .inl ⟨rfl, hl.symm⟩
  | some x =>
    have hx := h.opnd x
    simp only [Option.map_some, intO] at hl
    split at hl
    · next e => cases e
    · next k z' e =>
      obtain rfl := Option.some.inj hl
      have e := Option.some.inj e
      rw [e] at hx
      exact .inr ⟨x, k, rfl, hx⟩
    · cases hl
theorem slice_ok (h : Ctx P w A β Gl N F M a) {o : Oper} {T : TypeId} {x : Operand} {lo hi : Option Operand} {K : SV → Prop} (ho : o.op = .slice T x lo hi none)
    (he : (evSlice P T (opnd Gl F x) (lo.map (opnd Gl F)) (hi.map (opnd Gl F))).run K) : PureOK P w A β a o K := by
  have hx := h.opnd x
  unfold evSlice at he
  split at he
  · next E sz n f hu hs =>
    rw [hs] at hx
    split at he
    · next i l hh hi' hl hhi =>
      split at he
      · next hsz =>
        have hsz := Nat.eq_of_beq_eq_true hsz
        obtain ⟨⟨g0, g1, g2⟩, hK⟩ := he
        obtain ⟨p, cap, ex, hcap, hj⟩ := hx
        have hs1 : ∀ w', (sizeOf E).run P w' = .ok i.size w' := fun w' => by simp [sizeOf, run_typeInfo w' hi', Result.andThen]
        have hb : ∀ w', (Instr.sliceBounds true n cap (lo.map a.eval) (hi.map a.eval) none).run P w' = .ok (l.toNat, hh.toNat, cap) w' := by
          intro w'
          rcases intO_run h hl with ⟨rfl, rfl⟩ | ⟨y, k, rfl, ey⟩ <;> rcases intO_run h hhi with ⟨rfl, rfl⟩ | ⟨y2, k2, rfl, ey2⟩
          · simp [Instr.sliceBounds]
          · simp [Instr.sliceBounds, Instr.sliceBound, ey2, asIntOf, Result.andThen, show (0:Int) ≤ hh by omega, show hh ≤ cap by omega]
          · simp [Instr.sliceBounds, Instr.sliceBound, ey, asIntOf, Result.andThen, g0, show l ≤ n by omega]
          · simp [Instr.sliceBounds, Instr.sliceBound, ey, ey2, asIntOf, Result.andThen, g0, show (0:Int) ≤ hh by omega, show hh ≤ cap by omega, show l ≤ max hh 0 by omega]
        refine ⟨.sl sz (hh.toNat - l.toNat) fun i j => f (l.toNat + i) j, .slice (if cap = l.toNat then p else p.map (·.add (l.toNat * i.size))) (hh.toNat - l.toNat) (cap - l.toNat), fun w' _ => ?_, ?_, hK⟩
        · simp only [execOp, ho, ex, Instr.sliceAt, Instr.slice, Sem.run_bind, run_underlying hu, Result.andThen_ok, Option.map_none, hb, hs1]
          rfl
        · refine ⟨_, _, rfl, by omega, ?_⟩
          by_cases hz : hh.toNat - l.toNat = 0
          · exact .inl hz
          · right
            have hc : cap ≠ l.toNat := by omega
            obtain ⟨ad, rfl, hk⟩ := hj.resolve_left (by omega)
            refine ⟨ad.add (l.toNat * i.size), by simp [hc], fun i' hi' j hj' => ?_⟩
            obtain ⟨u, e1, e2, e3⟩ := hk (l.toNat + i') (by omega) j hj'
            refine ⟨u, ?_, by rw [add_block]; exact e2, e3⟩
            rw [add_add, show l.toNat * i.size + (i' * sz + j) = (l.toNat + i') * sz + j by rw [hsz, Nat.add_mul]; omega]
            exact e1
      · exact he.elim
    · exact he.elim
  · next s hu hs =>
    rw [hs] at hx
    have ex : a.eval x = .string s := hx
    split at he
    · next l hh hl hhi =>
      obtain ⟨⟨g0, g1, g2⟩, hK⟩ := he
      have hb : ∀ w', (Instr.sliceBounds false s.size s.size (lo.map a.eval) (hi.map a.eval) none).run P w' = .ok (l.toNat, hh.toNat, s.size) w' := by
        intro w'
        rcases intO_run h hl with ⟨rfl, rfl⟩ | ⟨y, k, rfl, ey⟩ <;> rcases intO_run h hhi with ⟨rfl, rfl⟩ | ⟨y2, k2, rfl, ey2⟩
        · simp [Instr.sliceBounds]
        · simp [Instr.sliceBounds, Instr.sliceBound, ey2, asIntOf, Result.andThen, show (0:Int) ≤ hh by omega, g2]
        · simp [Instr.sliceBounds, Instr.sliceBound, ey, asIntOf, Result.andThen, g0, show l ≤ s.size by omega]
        · simp [Instr.sliceBounds, Instr.sliceBound, ey, ey2, asIntOf, Result.andThen, g0, show (0:Int) ≤ hh by omega, g2, show l ≤ max hh 0 by omega]
      refine ⟨.v (.string (s.extract l.toNat hh.toNat)), .string (s.extract l.toNat hh.toNat), fun w' _ => ?_, rfl, hK⟩
      simp only [execOp, ho, ex, Instr.sliceAt, Instr.slice, Sem.run_bind, run_underlying hu, Result.andThen_ok, Option.map_none, Option.isSome_none, Bool.false_eq_true, if_false, hb]
      rfl
    · exact he.elim
  · exact he.elim
theorem mkFunc_ok (h : Ctx P w A β Gl N F M a) {o : Oper} {fn : Fn} {first caps : Array Operand} {K : SV → Prop} (ho : o.op = .makeFunc fn first caps)
    (he : (evMkFunc fn (first.toList.map (opnd Gl F)) (caps.toList.map (opnd Gl F))).run K) : PureOK P w A β a o K := by
  unfold evMkFunc at he
  split at he
  · next id hf =>
    have hf : first = #[] := by
      obtain ⟨l⟩ := first
      simpa using hf
    refine ⟨.fn id (caps.toList.map (opnd Gl F)).length (lsv (caps.toList.map (opnd Gl F))), .func (.func id) #[] (caps.map a.eval), fun w' _ => by simp [execOp, ho, Instr.makeFunc, hf], ⟨_, rfl, by simp, fun j hj => ?_⟩, he⟩
    have hj : j < caps.size := by simpa using hj
    exact ⟨a.eval caps[j], by simp [hj], by
      have := h.opnd caps[j]
      simpa [lsv, List.getD_eq_getElem?_getD, hj] using this⟩
  · exact he.elim
theorem cellsSV_den {s : SV} {u : Value} {l : List SV} (h : cellsSV s = some l) (hd : Den w A β s u) : DenL w A β l u.cells.toList := by
  have one : ∀ {s : SV}, Den w A β s u → u.cells = #[u] → DenL w A β [s] u.cells.toList := fun h e => by rw [e]; exact ⟨h, trivial⟩
  unfold cellsSV at h
  split at h
  · next n f =>
    obtain rfl := Option.some.inj h
    obtain ⟨cs, rfl, hn, hj⟩ := hd
    refine DenL.mk (by simp [Value.cells, hn]) fun i hi => ?_
    obtain ⟨x, h1, h2⟩ := hj i (by simpa using hi)
    have hi' : i < n := by simpa using hi
    refine ⟨x, by simpa [Value.cells] using h1, ?_⟩
    rw [List.getD_eq_getElem?_getD, List.getElem?_map, List.getElem?_range hi']
    exact h2
  · next cs =>
    obtain rfl := Option.some.inj h
    obtain rfl := hd
    refine DenL.mk (by simp [Value.cells]) fun i hi => ?_
    have hi' : i < cs.size := by simpa using hi
    refine ⟨cs[i], by simp [Value.cells, hi'], ?_⟩
    rw [List.getD_eq_getElem?_getD, List.getElem?_map]
    simp [hi', Den]
  · cases h
  · cases h
  · cases h
  · next h1 h2 h3 h4 h5 =>
    obtain rfl := Option.some.inj h
    refine one hd ?_
    cases s with
    | junk => exact absurd rfl h4
    | v x =>
      obtain rfl := hd
      cases u with
      | agg cs => exact absurd rfl (h2 cs)
      | tuple cs => exact absurd rfl (h3 cs)
      | _ => rfl
    | bl b => obtain rfl := hd; rfl
    | lp k off => obtain ⟨_, _, rfl⟩ := hd; rfl
    | pt n f => obtain ⟨_, rfl, _⟩ := hd; rfl
    | sl sz n f => obtain ⟨_, _, rfl, _⟩ := hd; rfl
    | ag n f => exact absurd rfl (h1 n f)
    | tp n f => exact absurd rfl (h5 n f)
    | fn id n f => obtain ⟨_, rfl, _⟩ := hd; rfl
    | ic t s => obtain ⟨_, rfl, _⟩ := hd; rfl
    | er t tf e at_ => rcases hd with ⟨_, _, rfl⟩ | ⟨_, _, rfl⟩ | ⟨_, _, _, rfl, _⟩ <;> rfl
theorem setMany_den : ∀ (cs : List SV) (vs : List Value), DenL w A β cs vs → ∀ (off : Nat) (l : List SV) (m : Array Value), DenL w A β l m.toList →
    DenL w A β (setMany l off cs) (((vs.zipIdx off).foldl (fun (m : Array Value) (p : Value × Nat) => m.setIfInBounds p.2 p.1) m).toList)
  | [], [], _, _, _, _, h => by simpa [setMany] using h
  | c :: r, v :: t, ⟨h1, h2⟩, off, l, m, h => by
    simp only [setMany, List.zipIdx_cons, List.foldl_cons]
    exact setMany_den r t h2 (off + 1) _ _ (by rw [Array.toList_setIfInBounds]; exact h.set h1 off)
  | [], _ :: _, hd, _, _, _, _ => hd.elim
  | _ :: _, [], hd, _, _, _, _ => hd.elim
theorem zipIdx_shift (l : List Value) : ∀ (k off : Nat) (m : Array Value), (l.zipIdx k).foldl (fun (m : Array Value) (p : Value × Nat) => m.setIfInBounds (off + p.2) p.1) m = (l.zipIdx (off + k)).foldl (fun (m : Array Value) (p : Value × Nat) => m.setIfInBounds p.2 p.1) m := by
  induction l with
  | nil => intros; rfl
  | cons v t ih => intro k off m; simp only [List.zipIdx_cons, List.foldl_cons]; rw [ih]; rfl
theorem fill_den {place : Nat → Option (Nat × Nat)} : ∀ (ps : List (Nat × SV)) (vs : List (Nat × Value)), ps.length = vs.length → (∀ (i : Nat) (s : Nat × SV), ps[i]? = some s → ∃ u, vs[i]? = some (s.1, u) ∧ Den w A β s.2 u) →
    ∀ (l l' : List SV) (m : Array Value), DenL w A β l m.toList → fillSV place l ps = some l' → ∃ m', Instr.fill place m vs = some m' ∧ DenL w A β l' m'.toList
  | [], [], _, _, l, l', m, h, e => by
    simp [fillSV] at e; subst e
    exact ⟨m, rfl, h⟩
  | [], _ :: _, hl, _, _, _, _, _, _ => by simp at hl
  | _ :: _, [], hl, _, _, _, _, _, _ => by simp at hl
  | (k, s) :: r, (k', v) :: t, hl, hp, l, l', m, h, e => by
    obtain ⟨u, e1, hu⟩ := hp 0 (k, s) rfl
    simp at e1
    obtain ⟨rfl, rfl⟩ := e1
    unfold fillSV at e
    split at e
    · next off size cs hpl hcs =>
      split at e
      · next h1 h2 =>
        have h1 := Nat.eq_of_beq_eq_true h1
        have h2 := Nat.le_of_ble_eq_true h2
        have hd := cellsSV_den hcs hu
        have hlen := hd.len
        have hml := h.len
        have hsz : v.cells.size = size := by rw [← Array.length_toList, ← hlen, h1]
        have hgo : Instr.fill place m ((k', v) :: t) = Instr.fill place (v.cells.zipIdx.foldl (fun cs (p : Value × Nat) => cs.setIfInBounds (off + p.2) p.1) m) t := by
          simp only [Instr.fill, hpl]
          rw [if_neg]
          simp only [Bool.or_eq_true, decide_eq_true_eq, not_or, hsz]
          simp at hml
          refine ⟨by simp, by omega⟩
        rw [hgo]
        refine fill_den r t (by simpa using hl) (fun i s hs => hp (i + 1) s (by simpa using hs)) _ l' _ ?_ e
        rw [← Array.foldl_toList, Array.toList_zipIdx, zipIdx_shift]
        exact setMany_den cs _ hd off l m h
      · cases e
    · cases e
theorem den_vs (l : List Value) : DenL w A β (l.map .v) l := by
  induction l with
  | nil => trivial
  | cons x r ih => exact ⟨rfl, ih⟩
theorem build_ok (h : Ctx P w A β Gl N F M a) {o : Oper} {T : TypeId} {parts : Array (Nat × Operand)} {K : SV → Prop} (ho : o.op = .build T parts)
    (he : (evBuild P T (parts.toList.map fun p => (p.1, opnd Gl F p.2))).run K) : PureOK P w A β a o K := by
  have hparts : ∀ (i : Nat) (s : Nat × SV), (parts.toList.map fun p => (p.1, opnd Gl F p.2))[i]? = some s → ∃ u, (parts.toList.map fun p => (p.1, a.eval p.2))[i]? = some (s.1, u) ∧ Den w A β s.2 u := by
    intro i s hs
    rw [List.getElem?_map] at hs
    cases hp : parts.toList[i]? with
    | none => rw [hp] at hs; cases hs
    | some p =>
      rw [hp] at hs
      obtain rfl := Option.some.inj hs
      exact ⟨a.eval p.2, by rw [List.getElem?_map, hp]; rfl, h.opnd p.2⟩
  have fin : ∀ {place : Nat → Option (Nat × Nat)} {z : Value} {l : List SV}, fillSV place (z.cells.toList.map .v) (parts.toList.map fun p => (p.1, opnd Gl F p.2)) = some l →
      ∃ m, Instr.fill place z.cells (parts.toList.map fun p => (p.1, a.eval p.2)) = some m ∧ Den w A β (.ag l.length (lsv l)) (.agg m) := by
    intro place z l hl
    obtain ⟨m, h1, h2⟩ := fill_den _ _ (by simp) hparts _ _ _ (den_vs z.cells.toList) hl
    refine ⟨m, h1, m, rfl, by simpa using h2.len.symm, fun j hj => ?_⟩
    obtain ⟨x, e1, e2⟩ := h2.get? j hj
    exact ⟨x, by simpa using e1, e2⟩
  unfold evBuild at he
  split at he
  · next i fs hi hu =>
    split at he
    · next z pl hz hpl =>
      split at he
      · next l hl =>
        obtain ⟨m, h1, h2⟩ := fin hl
        refine ⟨_, .agg m, fun w' _ => ?_, h2, he⟩
        have hzv : (zeroValue T).run P w' = .ok z w' := by simp [zeroValue, run_typeInfo w' hi, hz, Result.andThen]
        simp [execOp, ho, Instr.build, hzv, run_underlying hu, Array.mapM_eq_mapM_toList, run_places w' _ _ hpl, h1]
      · exact he.elim
    · exact he.elim
  · next i len E hi hu =>
    split at he
    · next z ie hz hie =>
      split at he
      · next l hl =>
        obtain ⟨m, h1, h2⟩ := fin hl
        refine ⟨_, .agg m, fun w' _ => ?_, h2, he⟩
        have hzv : (zeroValue T).run P w' = .ok z w' := by simp [zeroValue, run_typeInfo w' hi, hz, Result.andThen]
        have hs : (sizeOf E).run P w' = .ok ie.size w' := by simp [sizeOf, run_typeInfo w' hie, Result.andThen]
        simp only [execOp, ho, Instr.build, Sem.run_bind, hzv, run_underlying hu, Result.andThen_ok, hs]
        simp [h1]
      · exact he.elim
    · exact he.elim
  · exact he.elim
end
end Go.Ev
