/-
  Ev, part 2: operations that only compute or read.
-/
import Derived.Test.YtfmaeiilbhpepaaDoorEv1
set_option linter.unusedVariables false
set_option linter.unusedSimpArgs false
namespace Go.Ev
open Go.RowKit

def opnd (Gl : Nat → SV) (F : Fr) : Operand → SV
  | .tmp t => look F t
  | .const (.bool b) => .bl b
  | .const v => .v v
  | .global g => Gl g
  | .func f => .fn f 0 (fun _ => .junk)

structure Ctx (P : Program) (w : World) (A : Nat → Prop) (β : List Nat) (Gl : Nat → SV) (N : Nat) (F : Fr) (M : Mem) (a : Act) : Prop where
  frame : FrOK w A β N F a.tmps
  globs : ∀ g, Den w A [] (Gl g) (.pointer (some ⟨g, 0, none⟩))
  mem : RelM w A β M

/-- A world in which all that was there is as it was. -/
def Cw (w w' : World) : Prop := w.heap.size ≤ w'.heap.size ∧ ∀ b, b < w.heap.size → w'.heap[b]? = w.heap[b]?
theorem Cw.refl (w : World) : Cw w w := ⟨Nat.le_refl _, fun _ _ => rfl⟩
theorem Cw.trans {w w' w'' : World} (h : Cw w w') (k : Cw w' w'') : Cw w w'' := ⟨Nat.le_trans h.1 k.1, fun b hb => (k.2 b (Nat.lt_of_lt_of_le hb h.1)).trans (h.2 b hb)⟩
theorem Cw.cell {w w' : World} (h : Cw w w') {a : Addr} {x : Value} (hc : w.cell? a = some x) : w'.cell? a = some x := by
  have := h.2 a.block (cell_lt hc)
  unfold World.cell? at *
  rw [this]; exact hc
theorem Cw.later {A : Nat → Prop} {w w' : World} (h : Cw w w') : Later A w A w' := ⟨fun b hb _ => h.2 b hb, fun _ _ h => h⟩

section
variable {P : Program} {w : World} {A : Nat → Prop} {β : List Nat} {Gl : Nat → SV} {N : Nat} {F : Fr} {M : Mem} {a : Act}
theorem Ctx.opnd (h : Ctx P w A β Gl N F M a) (x : Operand) : Den w A β (opnd Gl F x) (a.eval x) := by
  cases x with
  | tmp t =>
    exact h.frame.get t
  | const v => cases v <;> simp [Ev.opnd, Act.eval, Den]
  | global g => simpa [Ev.opnd, Act.eval] using (h.globs g).up
  | func f => exact ⟨#[], by simp [Act.eval], rfl, fun j hj => by omega⟩

/-- What a sound rule for a pure operation gives. -/
def PureOK (P : Program) (w : World) (A : Nat → Prop) (β : List Nat) (a : Act) (o : Oper) (K : SV → Prop) : Prop :=
  ∃ s v, (∀ w', Cw w w' → (execOp a.eval o).run P w' = .ok (.value v) w') ∧ Den w A β s v ∧ K s

/-- What an operation comes to: a value; a value, if something holds. -/
inductive R where
  | bad
  | ok (s : SV)
  | req (p : Prop) (s : SV)
def R.run (r : R) (K : SV → Prop) : Prop :=
  match r with
  | .bad => False
  | .ok s => K s
  | .req p s => p ∧ K s

/-! ### loads -/
def aggD : TypeDesc → Bool
  | .struct _ | .array _ _ => true
  | _ => false
def evLoad (P : Program) (T : TypeId) (s : SV) (M : Mem) : R :=
  match P.info? T, P.underlying T with
  | some i, some d =>
    match aggD d, s with
    | true, .lp k off =>
      match M[k]? with
      | some cs => match Nat.ble (off + i.size) cs.length with | true => .ok (.ag i.size (out i.size fun j => cs.getD (off + j) .junk)) | false => .bad
      | none => .bad
    | true, .pt n f => match Nat.ble i.size n with | true => .ok (.ag i.size (out i.size f)) | false => .bad
    | false, .lp k off =>
      match M[k]? with
      | some cs => match Nat.blt off cs.length with | true => .ok (cs.getD off .junk) | false => .bad
      | none => .bad
    | false, .pt n f => match Nat.blt 0 n with | true => .ok (f 0) | false => .bad
    | _, _ => .bad
  | _, _ => .bad

theorem run_loadVar_agg {T : TypeId} {i : TypeInfo} {d : TypeDesc} (hi : P.info? T = some i) (hu : P.underlying T = some d) (hd : aggD d = true) (w : World) (ad : Addr) (f : Nat → Value)
    (h : ∀ j, j < i.size → w.cell? (ad.add j) = some (f j)) : (loadVar T ad).run P w = .ok (.agg ((List.range i.size).map f).toArray) w := by
  have ha : (isAgg T).run P w = .ok true w := by
    simp only [isAgg, Sem.run_bind, run_underlying hu, Result.andThen]
    cases d <;> simp [aggD] at hd <;> simp
  have hs : (sizeOf T).run P w = .ok i.size w := by simp [sizeOf, run_typeInfo w hi, Result.andThen]
  simp [loadVar, ha, hs, run_loadCells w ad i.size f h, Result.andThen]
theorem run_loadVar_one {T : TypeId} {d : TypeDesc} (hu : P.underlying T = some d) (hd : aggD d = false) (w : World) (ad : Addr) (x : Value)
    (h : w.cell? ad = some x) : (loadVar T ad).run P w = .ok x w := by
  have ha : (isAgg T).run P w = .ok false w := by
    simp only [isAgg, Sem.run_bind, run_underlying hu, Result.andThen]
    cases d <;> simp [aggD] at hd <;> simp
  simp [loadVar, ha, h, Result.andThen]

theorem load_core (hm : RelM w A β M) {T : TypeId} {sx : SV} {ux : Value} (hx : Den w A β sx ux) {K : SV → Prop} (he : (evLoad P T sx M).run K) :
    ∃ s v ad, ux = .pointer (some ad) ∧ (∀ w', Cw w w' → (loadVar T ad).run P w' = .ok v w') ∧ Den w A β s v ∧ K s := by
  unfold evLoad at he
  split at he
  · next i d hi hu =>
    split at he
    · next k off hd =>
      obtain ⟨b, hb, e⟩ := hx
      split at he
      · next cs hM =>
        split at he
        · next hle =>
          have hle := Nat.le_of_ble_eq_true hle
          obtain ⟨c, T', hc, hdl⟩ := hm.cell k b cs hb hM
          have hcell : ∀ j, j < i.size → w.cell? ((⟨b, off, none⟩ : Addr).add j) = some (c.toList.getD (off + j) undef) := by
            intro j hj
            have hlen := hdl.len
            rw [add_mk]
            have : off + j < c.toList.length := by omega
            simp [World.cell?, hc, List.getD_eq_getElem?_getD, List.getElem?_eq_getElem this]
          refine ⟨_, _, ⟨b, off, none⟩, e, (fun w' hw => run_loadVar_agg hi hu hd w' _ _ (fun j hj => hw.cell (hcell j hj))), ?_, he⟩
          refine ⟨_, rfl, by simp, fun j hj => ?_⟩
          refine ⟨c.toList.getD (off + j) undef, by simp [hj], by rw [out_eq hj]; exact hdl.get _ _⟩
        · exact he.elim
      · exact he.elim
    · next n f hd =>
      obtain ⟨ad, e, hj⟩ := hx
      split at he
      · next hle =>
        have hle := Nat.le_of_ble_eq_true hle
        have hex : ∀ j, ∃ x, j < i.size → w.cell? (ad.add j) = some x ∧ Den w A β (f j) x := by
          intro j
          by_cases hji : j < i.size
          · obtain ⟨x, h1, _, h3⟩ := hj j (by omega)
            exact ⟨x, fun _ => ⟨h1, h3.up⟩⟩
          · exact ⟨undef, fun h => absurd h hji⟩
        refine ⟨_, _, ad, e, (fun w' hw => run_loadVar_agg hi hu hd w' _ (fun j => Classical.choose (hex j)) (fun j hj => hw.cell (Classical.choose_spec (hex j) hj).1)), ?_, he⟩
        exact ⟨_, rfl, by simp, fun j hj => ⟨Classical.choose (hex j), by simp [hj], by rw [out_eq hj]; exact (Classical.choose_spec (hex j) hj).2⟩⟩
      · exact he.elim
    · next k off hd =>
      obtain ⟨b, hb, e⟩ := hx
      split at he
      · next cs hM =>
        split at he
        · next hlt =>
          have hlt : off < cs.length := Nat.le_of_ble_eq_true hlt
          obtain ⟨c, T', hc, hdl⟩ := hm.cell k b cs hb hM
          have hlen := hdl.len
          have hcell : w.cell? (⟨b, off, none⟩ : Addr) = some (c.toList.getD off undef) := by
            have : off < c.toList.length := by omega
            simp [World.cell?, hc, List.getD_eq_getElem?_getD, List.getElem?_eq_getElem this]
          exact ⟨_, _, ⟨b, off, none⟩, e, (fun w' hw => run_loadVar_one hu hd w' _ _ (hw.cell hcell)), hdl.get _ _, he⟩
        · exact he.elim
      · exact he.elim
    · next n f hd =>
      obtain ⟨ad, e, hj⟩ := hx
      split at he
      · next hlt =>
        have hlt : 0 < n := Nat.le_of_ble_eq_true hlt
        obtain ⟨x, h1, _, h3⟩ := hj 0 hlt
        exact ⟨_, x, ad, e, (fun w' hw => run_loadVar_one hu hd w' _ _ (hw.cell (by simpa [Addr.add] using h1))), h3.up, he⟩
      · exact he.elim
    · exact he.elim
  · exact he.elim

theorem load_ok (h : Ctx P w A β Gl N F M a) {o : Oper} {T : TypeId} {x : Operand} {K : SV → Prop} (ho : o.op = .load T x) (he : (evLoad P T (opnd Gl F x) M).run K) : PureOK P w A β a o K := by
  obtain ⟨s, v, ad, e, hr, hd, hK⟩ := load_core h.mem (h.opnd x) he
  exact ⟨s, v, fun w' hw => by simp [execOp, ho, e, Instr.loadAt, Instr.sureAddr, hr w' hw, Result.andThen], hd, hK⟩

/-! ### addresses of fields and elements -/
def evField (P : Program) (S : TypeId) (s : SV) (j : Nat) : R :=
  match P.underlying S with
  | some (.struct fs) =>
    match fs[j]? with
    | some fd =>
      match P.info? fd.type with
      | some i =>
        match Nat.blt 0 i.size, s with
        | true, .lp k off => .ok (.lp k (off + fd.offset))
        | true, .pt n f => .ok (.pt (n - fd.offset) fun m => f (fd.offset + m))
        | _, _ => .bad
      | none => .bad
    | none => .bad
  | _ => .bad

theorem field_ok (h : Ctx P w A β Gl N F M a) {o : Oper} {S : TypeId} {x : Operand} {j : Nat} {K : SV → Prop} (ho : o.op = .fieldAddr S x j) (he : (evField P S (opnd Gl F x) j).run K) : PureOK P w A β a o K := by
  have hx := h.opnd x
  unfold evField at he
  split at he
  · next fs hu =>
    split at he
    · next fd hfd =>
      split at he
      · next i hi =>
        have run : ∀ (ad : Addr), a.eval x = .pointer (some ad) → Nat.blt 0 i.size = true → ∀ w', Cw w w' → (execOp a.eval o).run P w' = .ok (.value (.pointer (some (ad.add fd.offset)))) w' := by
          intro ad e hz w' _
          have hz : 0 < i.size := Nat.le_of_ble_eq_true hz
          have hs : (sizeOf fd.type).run P w' = .ok i.size w' := by simp [sizeOf, run_typeInfo w' hi, Result.andThen]
          simp [execOp, ho, e, Instr.fieldAt, Instr.sureAddr, run_underlying hu, hfd, fieldPlace, hs, Result.andThen, Nat.ne_of_gt hz]
        split at he
        · next k off hz hs =>
          rw [hs] at hx
          obtain ⟨b, hb, e⟩ := hx
          exact ⟨.lp k (off + fd.offset), _, run _ e hz, ⟨b, hb, by rw [add_mk]⟩, he⟩
        · next n f hz hs =>
          rw [hs] at hx
          obtain ⟨ad, e, hj⟩ := hx
          refine ⟨.pt (n - fd.offset) fun m => f (fd.offset + m), _, run _ e hz, ⟨_, rfl, fun m hm => ?_⟩, he⟩
          obtain ⟨y, h1, h2, h3⟩ := hj (fd.offset + m) (by omega)
          exact ⟨y, by rw [add_add]; exact h1, by rw [add_block]; exact h2, h3⟩
        · exact he.elim
      · exact he.elim
    · exact he.elim
  · exact he.elim

def evIndex (P : Program) (T : TypeId) (s i : SV) : R :=
  match P.underlying T, i with
  | some (.slice E), .v (.int _ z) =>
    match P.info? E, s with
    | some ie, .sl sz n f => match Nat.beq ie.size sz with | true => .req ((0 ≤ z ∧ z < n)) (.pt sz (f z.toNat)) | false => .bad
    | _, _ => .bad
  | some (.array len E), .v (.int _ z) =>
    match P.info? E, Nat.blt 1 len, s with
    | some ie, true, .pt m f => match Nat.beq (len * ie.size) m with | true => .req ((0 ≤ z ∧ z < len)) (.pt ie.size fun j => f (z.toNat * ie.size + j)) | false => .bad
    | some ie, true, .lp k off => .req ((0 ≤ z ∧ z < len)) (.lp k (off + z.toNat * ie.size))
    | _, _, _ => .bad
  | _, _ => .bad

theorem index_ok (h : Ctx P w A β Gl N F M a) {o : Oper} {T : TypeId} {x y : Operand} {K : SV → Prop} (ho : o.op = .indexAddr T x y) (he : (evIndex P T (opnd Gl F x) (opnd Gl F y)).run K) : PureOK P w A β a o K := by
  have hx := h.opnd x
  have hy := h.opnd y
  unfold evIndex at he
  split at he
  · next E k z hu hs =>
    rw [hs] at hy
    have ey : a.eval y = .int k z := hy
    split at he
    · next ie sz n f hi hs2 =>
      rw [hs2] at hx
      split at he
      · next hsz =>
        have hsz := Nat.eq_of_beq_eq_true hsz
        obtain ⟨⟨h0, h1⟩, hK⟩ := he
        obtain ⟨p, cap, ex, _, hj⟩ := hx
        have hn : n ≠ 0 := by omega
        obtain ⟨ad, ep, hk⟩ := hj.resolve_left hn
        subst ep
        refine ⟨.pt sz (f z.toNat), .pointer (some (ad.add (z.toNat * sz))), ?_, ⟨_, rfl, fun j hjs => ?_⟩, hK⟩
        · intro w' _
          have hsize : (sizeOf E).run P w' = .ok sz w' := by simp [sizeOf, run_typeInfo w' hi, Result.andThen, hsz]
          simp [execOp, ho, ex, ey, Instr.indexAt, asIntOf, run_underlying hu, Result.andThen, h0, h1, hsize]
        · obtain ⟨u, g1, g2, g3⟩ := hk z.toNat (by omega) j hjs
          exact ⟨u, by rw [add_add]; exact g1, by rw [add_block]; exact g2, g3⟩
      · exact he.elim
    · exact he.elim
  · next len E k z hu hs =>
    rw [hs] at hy
    have ey : a.eval y = .int k z := hy
    split at he
    · next ie m f hi hlen hs2 =>
      rw [hs2] at hx
      have hlen : 1 < len := Nat.le_of_ble_eq_true hlen
      split at he
      · next hm =>
        have hm := Nat.eq_of_beq_eq_true hm
        obtain ⟨⟨h0, h1⟩, hK⟩ := he
        obtain ⟨ad, ex, hj⟩ := hx
        refine ⟨.pt ie.size fun j => f (z.toNat * ie.size + j), .pointer (some (ad.add (z.toNat * ie.size))), ?_, ⟨_, rfl, fun j hjs => ?_⟩, hK⟩
        · intro w' _
          have hsize : (sizeOf E).run P w' = .ok ie.size w' := by simp [sizeOf, run_typeInfo w' hi, Result.andThen]
          simp [execOp, ho, ex, ey, Instr.indexAt, Instr.sureAddr, asIntOf, run_underlying hu, Result.andThen, h0, h1, hsize]
        · have hlt : z.toNat * ie.size + j < m := by
            have : z.toNat + 1 ≤ len := by omega
            have := Nat.mul_le_mul_right ie.size this
            rw [Nat.add_mul] at this
            omega
          obtain ⟨u, g1, g2, g3⟩ := hj _ hlt
          exact ⟨u, by rw [add_add]; exact g1, by rw [add_block]; exact g2, g3⟩
      · exact he.elim
    · next ie k2 off hi hlen hs2 =>
      rw [hs2] at hx
      have hlen : 1 < len := Nat.le_of_ble_eq_true hlen
      obtain ⟨⟨h0, h1⟩, hK⟩ := he
      obtain ⟨b, hb, ex⟩ := hx
      refine ⟨.lp k2 (off + z.toNat * ie.size), .pointer (some ⟨b, off + z.toNat * ie.size, none⟩), ?_, ⟨b, hb, rfl⟩, hK⟩
      intro w' _
      have hsize : (sizeOf E).run P w' = .ok ie.size w' := by simp [sizeOf, run_typeInfo w' hi, Result.andThen]
      simp [execOp, ho, ex, ey, Instr.indexAt, Instr.sureAddr, asIntOf, run_underlying hu, Result.andThen, h0, h1, hsize, add_mk]
    · exact he.elim
  · exact he.elim
end
end Go.Ev
