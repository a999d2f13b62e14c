/-
  Sy: regions that draw their order: an append that ends a slice of one's own, and may come ahead of some loads.
-/
import Derived.Test.YtdjilaofmdhikaaGreatDoorYE
set_option linter.unusedVariables false
set_option linter.unusedSimpArgs false
set_option linter.unusedVariables false
set_option linter.unusedSimpArgs false
namespace Go.Sy
open Go.RowKit Classical
def quietK (P : Program) (Gl : Nat → SV) (F : Fr) (M : Mem) (o : Oper) : Option (Prop × Option Nat) :=
  match o.guard, o.op with
  | none, .load T x =>
    match P.underlying T, opnd Gl F x with
    | some d, .ptr k st none _ j =>
      match aggD d, okRef (ent M) k st none, (ent M k).b with
      | false, true, .cells l => (match Nat.blt j l.length with | true => some (True, some k) | false => none)
      | _, _, _ => none
    | _, _ => none
  | none, .nilCheck x =>
    match opnd Gl F x with
    | .ptr k st p _ _ => (match okRef (ent M) k st p with | true => some (True, none) | false => none)
    | .pt _ _ _ => some (True, none)
    | _ => none
  | none, .indexAddr T x y =>
    match P.underlying T, opnd Gl F x, opnd Gl F y with
    | some (.slice E), .slc k st p _ n, .v (.int _ z) => (match P.info? E, okRef (ent M) k st p with | some _, true => some (0 ≤ z ∧ z < n, none) | _, _ => none)
    | some (.slice E), .sl _ _ n _, .v (.int _ z) => (match P.info? E with | some _ => some (0 ≤ z ∧ z < n, none) | _ => none)
    | _, _, _ => none
  | _, _ => none
section
variable {P : Program} {sg : Bool} {Gl : Nat → SV} {Γ : Table} {N : Nat} {F : Fr} {M : Mem} {a : Act} {w : World} {ω : Ow}
theorem indexS_any {o : Oper} {T E : TypeId} {x y : Operand} {ie : TypeInfo} (ho : o.op = .indexAddr T x y) (hu : P.underlying T = some (.slice E)) (hi : P.info? E = some ie) {ad : Addr} {n cap : Nat} {k : IntKind} {z : Int}
    (ex : a.eval x = .slice (some ad) n cap) (ey : a.eval y = .int k z) (h0 : 0 ≤ z) (h1 : z < n) (w' : World) : (execOp a.eval o).run P w' = .ok (.value (.pointer (some (ad.add (z.toNat * ie.size))))) w' := by
  have hsize : (sizeOf E).run P w' = .ok ie.size w' := by simp [sizeOf, run_typeInfo w' hi, Result.andThen]
  simp [execOp, ho, ex, ey, Instr.indexAt, asIntOf, run_underlying hu, Result.andThen, h0, h1, hsize]
theorem quiet_ok (h : St P Gl N F M a w ω) {o : Oper} {p : Prop} {ko : Option Nat} (he : quietK P Gl F M o = some (p, ko)) (hp : p) :
    o.guard = none ∧ ∃ v, ∀ w', (∀ k, ko = some k → ∀ L, ω.β k none = some L → w'.heap[L.b]? = w.heap[L.b]?) → (execOp a.eval o).run P w' = .ok (.value v) w' := by
  unfold quietK at he
  split at he
  · next T x hg ho =>
    refine ⟨hg, ?_⟩
    have hx := h.frame.opnd h.globs x
    split at he
    · next d k st ii j hu hs =>
      split at he
      · next l hd hok hb =>
        split at he
        · next hj =>
          obtain ⟨rfl, rfl⟩ := Prod.mk.inj (Option.some.inj he)
          have hj : j < l.length := Nat.le_of_ble_eq_true hj
          rw [hs] at hx
          obtain ⟨_, L, hL, hii, ex⟩ := okRef_at h.mem hok hx
          obtain ⟨c1, c2⟩ := cells_at h.mem hb hL
          obtain ⟨r, _, _, _, c, T', g4, g5, g6, g7⟩ := h.mem.row _ _ _ hL
          obtain ⟨y, y1, _⟩ := g7 ii hii j (by omega)
          have hcell : ∀ w' : World, w'.heap[L.b]? = w.heap[L.b]? → w'.cell? ⟨L.b, L.o + ii * L.sz + j, none⟩ = some y := by
            intro w' e
            rw [g4] at e
            simp [World.cell?, e, y1]
          refine ⟨y, fun w' hw' => ?_⟩
          have := run_loadVar_one (P := P) hu hd w' _ y (hcell w' (hw' k rfl L hL))
          simp [execOp, ho, ex, Instr.loadAt, Instr.sureAddr, this, Result.andThen]
        · cases he
      · cases he
    · cases he
  · next x hg ho =>
    refine ⟨hg, ?_⟩
    have hx := h.frame.opnd h.globs x
    have run : (∃ ad, a.eval x = .pointer (some ad)) → ∃ v, ∀ w', (∀ k, ko = some k → ∀ L, ω.β k none = some L → w'.heap[L.b]? = w.heap[L.b]?) → (execOp a.eval o).run P w' = .ok (.value v) w' := by
      rintro ⟨ad, e⟩
      exact ⟨.pointer (some ad), fun w' _ => by simp [execOp, ho, e]⟩
    split at he
    · next k st p' i j hs =>
      split at he
      · next hok =>
        rw [hs] at hx
        obtain ⟨_, L, _, _, e⟩ := okRef_at h.mem hok hx
        exact run ⟨_, e⟩
      · cases he
    · next q n f hs =>
      rw [hs] at hx
      obtain ⟨b, e, _⟩ := hx
      exact run ⟨_, e⟩
    · cases he
  · next T x y hg ho =>
    refine ⟨hg, ?_⟩
    have hx := h.frame.opnd h.globs x
    have hy := h.frame.opnd h.globs y
    split at he
    · next E k st p' e n kk z hu hs1 hs2 =>
      split at he
      · next ie hok hi hb =>
        obtain ⟨rfl, rfl⟩ := Prod.mk.inj (Option.some.inj he)
        rw [hs1] at hx
        rw [hs2] at hy
        have e0 : st = Sy.st ω.cur k p' := by
          rw [h.mem.cur]
          cases p' with
          | none => exact Nat.eq_of_beq_eq_true hb
          | some _ => exact Nat.eq_of_beq_eq_true hb
        rcases hx with hx | ⟨_, q, cap, ex, hcap, _, hx⟩
        · omega
        rcases hx with hx | ⟨L, hL, rfl, _, _⟩
        · have := hp.1; have := hp.2; omega
        exact ⟨_, fun w' _ => indexS_any ho hu hi ex hy hp.1 hp.2 w'⟩
      · cases he
    · next E q sz n f kk z hu hs1 hs2 =>
      split at he
      · next ie hi =>
        obtain ⟨rfl, rfl⟩ := Prod.mk.inj (Option.some.inj he)
        rw [hs1] at hx
        rw [hs2] at hy
        obtain ⟨p', cap, ex, _, _, hx⟩ := hx
        rcases hx with hx | ⟨ad, rfl, _⟩
        · have := hp.1; have := hp.2; omega
        exact ⟨_, fun w' _ => indexS_any ho hu hi ex hy hp.1 hp.2 w'⟩
      · cases he
    · cases he
  · cases he
theorem appendT_core (hm : MemOK w ω M) {sx sy : SV} {o : Oper} {T : TypeId} {x y : Operand} {nx : Nat} {pr : Prop} {s : SV} {u : Upd} (hx : Den w ω sx (a.eval x)) (hy : Den w ω sy (a.eval y)) (ho : o.op = .call { callee := .builtin .append, args := #[x, y], argTypes := #[T, T] })
    (hb : baseN sx = false) (he : evAppendT P (ent M) nx T sx sy = some (pr, s, u)) (hp : pr) : MemS P w ω M a o s u := by
  unfold evAppendT at he
  rw [hb] at he
  simp only at he
  split at he
  · next z hz =>
    split at he
    · next v hv =>
      simp only [Option.some.injEq, Prod.mk.injEq] at he
      obtain ⟨rfl, rfl, rfl⟩ := he
      obtain ⟨ω', k, st, i, j, e, n, e1, e2, e3, h1, h2, h3⟩ := take_core hm hz
      rw [e1] at hx
      have hy : Den w ω' (aliasS (ent M) (nx + 60) sx sy).2 (a.eval y) := by
        have hp1 := hp.1
        revert hp1 hy
        rw [e1]
        generalize sy = t
        unfold aliasS
        split
        · next k1 st1 i1 j1 _ _ k' st' i' j' e' n' heq =>
          split
          · next b1 b2 b3 =>
            obtain ⟨rfl, rfl, hij, rfl, rfl⟩ := SV.slc.inj heq
            obtain ⟨rfl, rfl⟩ := Prod.mk.inj (Option.some.inj hij)
            obtain rfl := Nat.eq_of_beq_eq_true b1
            obtain rfl := Nat.eq_of_beq_eq_true b2
            obtain rfl := Nat.eq_of_beq_eq_true b3
            intro hy hp1
            have hp1 : i' = i := hp1
            subst hp1
            exact h2 _ _ _ hy
          · intro hy _; exact Den.ext h1.ext hy
        · intro hy _; exact Den.ext h1.ext hy
      rw [ov_ent] at hv
      have hz' : Den w ω' z.1 (a.eval x) := by rw [e3]; exact h2 _ _ _ hx
      obtain ⟨nn, vv, w', ω'', g1, g2, g3, g4⟩ := append_core (P := P) (a := a) (tx := fun _ => z.1) (ty := fun _ => (aliasS (ent M) (nx + 60) sx sy).2) h1.mem hz' hy ho hv hp.2
      exact ⟨nn, vv, w', ω'', g1, g2, by rw [List.append_assoc]; exact h1.trans g3, g4⟩
    · cases he
  · exact append_core (P := P) (a := a) (tx := fun _ => sx) (ty := fun _ => sy) hm hx hy ho he hp
/-! ### the append that ends a slice -/
def rootS : SV → List Nat
  | .slc k _ _ _ _ => [k]
  | _ => []
def uni : List Nat → List Nat → List Nat
  | [], l => l
  | k :: r, l => match inL l k with | true => uni r l | false => k :: uni r l
end
def plainS : SV → Bool
  | .junk => true
  | .v _ => true
  | .bl _ => true
  | .es => true
  | .sl _ _ _ _ => true
  | .pt _ _ _ => true
  | .pa _ _ _ _ => true
  | .er _ _ _ _ => true
  | _ => false
def plainP : SV → Prop
  | .il sz _ g => ∀ a, allJ sz fun b => plainS (g a b) = true
  | s => plainS s = true
def plainB : Blk → Prop
  | .row sz _ f => ∀ i, allJ sz fun j => plainP (f i j)
  | _ => False
def allP : List Nat → (Nat → Prop) → Prop
  | [], _ => True
  | k :: r, p => p k ∧ allP r p
theorem allP_get : ∀ {l : List Nat} {p : Nat → Prop}, allP l p → ∀ k ∈ l, p k
  | [], _, _, k, hk => absurd hk (by simp)
  | i :: r, p, h, k, hk => by
    rcases List.mem_cons.1 hk with rfl | hk
    · exact h.1
    · exact allP_get h.2 k hk
def vwS : SV → SV
  | .slc k s p e n => .slc k s p e n
  | .v x => .v x
  | .bl b => .bl b
  | .es => .es
  | .sl q sz n f => .sl q sz n f
  | _ => .junk
def onlyM (M : Mem) (κ : List Nat) : Mem := κ.map fun k => (k, ent M k)
theorem onlyM_in {M : Mem} : ∀ {κ : List Nat} {k : Nat}, k ∈ κ → ent (onlyM M κ) k = ent M k
  | [], k, h => absurd h (by simp)
  | i :: r, k, h => by
    unfold onlyM
    rw [List.map_cons]
    by_cases e : i = k
    · subst e; exact ent_eq
    · rw [ent_ne e]
      exact onlyM_in (κ := r) ((List.mem_cons.1 h).resolve_left fun h => e h.symm)
theorem onlyM_out {M : Mem} : ∀ {κ : List Nat} {k : Nat}, k ∉ κ → ent (onlyM M κ) k = ⟨0, 0, none, .dead⟩
  | [], k, _ => rfl
  | i :: r, k, h => by
    unfold onlyM
    rw [List.map_cons, ent_ne (fun e => h (by simp [e]))]
    exact onlyM_out (κ := r) fun h' => h (by simp [h'])
def okP (M : Mem) (k : Nat) (p : Path) : Bool := match p, (ent M k).b with | some ij, .row sz _ _ => Nat.blt ij.2 sz | _, _ => true
def okPS (M : Mem) : SV → Bool
  | .slc k _ p _ _ => okP M k p
  | _ => true
def noiseB (P : Program) (Gl : Nat → SV) (F : Fr) (M : Mem) (nx : Nat) (o : Oper) : Option (Prop × List Nat) :=
  match o.guard, o.op with
  | none, .call { callee := .builtin .append, args := ⟨[x, y]⟩, argTypes := ⟨[T, T']⟩ } =>
    let κ := uni (rootS (opnd Gl F x)) (rootS (opnd Gl F y))
    match Nat.beq T T' && okPS M (opnd Gl F x) && okPS M (opnd Gl F y) && !baseN (vwS (opnd Gl F x)), evAppendT P (ent (onlyM M κ)) nx T (vwS (opnd Gl F x)) (vwS (opnd Gl F y)) with
    | true, some (pr, _, _) => some (allP κ (fun k => plainB (ent M k).b) ∧ pr, κ)
    | _, _ => none
  | _, _ => none
theorem mem_uni : ∀ {l r : List Nat} {k : Nat}, k ∈ uni l r ↔ k ∈ l ∨ k ∈ r
  | [], r, k => by simp [uni]
  | i :: l, r, k => by
    unfold uni
    split
    · next h =>
      rw [mem_uni, List.mem_cons]
      constructor
      · rintro (h | h)
        · exact .inl (.inr h)
        · exact .inr h
      · rintro ((h' | h') | h')
        · subst h'; exact .inr (inL_iff.1 h)
        · exact .inl h'
        · exact .inr h'
    · rw [List.mem_cons, mem_uni, List.mem_cons, or_assoc]
section
variable {P : Program} {sg : Bool} {Gl : Nat → SV} {Γ : Table} {N : Nat} {F : Fr} {M : Mem} {a : Act} {w : World} {ω : Ow}
noncomputable def Ow.only (ω : Ow) (M : Mem) (κ : List Nat) : Ow := ⟨fun b => ω.A b ∧ ∃ k ∈ κ, ∃ p L, ω.β k p = some L ∧ L.b = b, ω.Z, fun k p => if k ∈ κ ∧ okP M k p = true then ω.β k p else none, curM (onlyM M κ)⟩
theorem only_in {κ : List Nat} {k : Nat} {p : Path} (h : k ∈ κ) (hp : okP M k p = true) : (ω.only M κ).β k p = ω.β k p := if_pos ⟨h, hp⟩
theorem only_get {κ : List Nat} {k : Nat} {p : Path} {L : Loc} (h : (ω.only M κ).β k p = some L) : k ∈ κ ∧ ω.β k p = some L ∧ okP M k p = true := by
  by_cases hk : k ∈ κ ∧ okP M k p = true
  · exact ⟨hk.1, by rwa [only_in hk.1 hk.2] at h, hk.2⟩
  · have h : (if k ∈ κ ∧ okP M k p = true then ω.β k p else none) = some L := h
    rw [if_neg hk] at h; cases h
theorem okP_none {k : Nat} : okP M k none = true := rfl
theorem only_bare {κ : List Nat} : Ext w ω.bare w (ω.only M κ).bare := ⟨rfl, rfl, rfl, fun _ _ _ => rfl, fun _ _ h h' => h h'.1, fun _ _ _ h => h, Nat.le_refl _, fun _ => ⟨Nat.le_refl _, Nat.le_refl _⟩, fun _ _ _ h _ => h, fun _ h => h⟩
theorem only_den {κ : List Nat} {s : SV} {x : Value} (hs : plainS s = true) (h : Den w ω s x) : Den w (ω.only M κ) s x := by
  cases s with
  | junk => trivial
  | v y => exact h
  | bl y => exact h
  | es => exact h
  | sl q sz n f => exact Den.ext (o := ω.bare) (o' := (ω.only M κ).bare) (s := .sl q sz n f) only_bare h
  | pt q n f => exact Den.ext (o := ω.bare) (o' := (ω.only M κ).bare) (s := .pt q n f) only_bare h
  | pa q sz n f => exact Den.ext (o := ω.bare) (o' := (ω.only M κ).bare) (s := .pa q sz n f) only_bare h
  | er t tf e z => exact Den.ext (o := ω.bare) (o' := (ω.only M κ).bare) (s := .er t tf e z) only_bare h
  | _ => cases hs
theorem only_st (hm : MemOK w ω M) {κ : List Nat} {k : Nat} {p : Path} (hk : k ∈ κ) : st (ω.only M κ).cur k p = st ω.cur k p := by
  rw [hm.cur]
  cases p with
  | none => show (ent (onlyM M κ) k).rs = (ent M k).rs; rw [onlyM_in hk]
  | some _ => show (ent (onlyM M κ) k).ds = (ent M k).ds; rw [onlyM_in hk]
theorem only_vw (hm : MemOK w ω M) {κ : List Nat} {s : SV} {x : Value} (hκ : ∀ k ∈ rootS s, k ∈ κ) (ho : okPS M s = true) (h : Den w ω s x) : Den w (ω.only M κ) (vwS s) x := by
  cases s with
  | slc k st p e n =>
    have hk : k ∈ κ := hκ k (by simp [rootS])
    rcases h with h | ⟨h1, q, cap, h2, h3, h4, h5⟩
    · exact .inl (by rw [only_st hm hk]; exact h)
    · exact .inr ⟨by rw [only_st hm hk]; exact h1, q, cap, h2, h3, h4, by rw [only_in hk ho]; exact h5⟩
  | v y => exact h
  | bl y => exact h
  | es => exact h
  | sl q sz n f => exact only_den (s := .sl q sz n f) rfl h
  | _ => trivial
theorem MemOK.only (hm : MemOK w ω M) {κ : List Nat} (hp : ∀ k ∈ κ, plainB (ent M k).b) : MemOK w (ω.only M κ) (onlyM M κ) := by
  refine ⟨rfl, fun b ⟨k, p, L, h, e⟩ => ?_, fun b h => hm.lowA b h.1, fun b h => hm.dj b h.1, hm.lowZ, fun k p L k' p' L' h h' e => hm.inj k p L k' p' L' (only_get h).2.1 (only_get h').2.1 e, fun k p L h => hm.low k p L (only_get h).2.1, fun k p L h => ?_, fun k l h => ?_, fun k i j h => ?_⟩
  · obtain ⟨hk, h, _⟩ := only_get h
    exact ⟨hm.own b ⟨k, p, L, h, e⟩, k, hk, p, L, h, e⟩
  · obtain ⟨hk, h, hok⟩ := only_get h
    obtain ⟨r, g1, g2, g3, c, T, g4, g5, g6, g7⟩ := hm.row k p L h
    have hpb := hp k hk
    refine ⟨r, by unfold rowAt; rw [onlyM_in hk]; exact g1, g2, g3, c, T, g4, g5, g6, fun i hi j hj => ?_⟩
    obtain ⟨x, x1, x2⟩ := g7 i hi j hj
    refine ⟨x, x1, ?_⟩
    rw [onlyM_in hk]
    unfold rowAt at g1
    cases hb : (ent M k).b with
    | dead => rw [hb] at hpb; exact hpb.elim
    | cells l => rw [hb] at hpb; exact hpb.elim
    | row sz n f =>
      rw [hb] at hpb g1
      cases p with
      | none =>
        obtain rfl := Option.some.inj g1
        have hj' : j < sz := by have : sz = L.sz := g2
                                omega
        have hpl := allJ_get (hpb i) j hj'
        have x2 : CellOK w ω (ent M k).hl k i j (f i j) x := x2
        show CellOK w (ω.only M κ) (ent M k).hl k i j (f i j) x
        cases hil : isIl (f i j) with
        | false =>
          rw [den_not_il hil] at *
          refine only_den ?_ x2
          revert hpl hil
          generalize f i j = s
          intro hpl hil
          cases s <;> first | exact hpl | cases hil
        | true =>
          revert x2 hil
          generalize f i j = s
          intro x2 hil
          cases s with
          | il sz2 n2 g =>
            rcases x2 with x2 | ⟨⟨q, cap, y1, y2, y3, y4⟩, y5⟩
            · exact .inl x2
            · have hok2 : okP M k (some (i, j)) = true := by unfold okP; rw [hb]; exact Nat.ble_eq_true_of_le hj'
              exact .inr ⟨⟨q, cap, y1, y2, y3, by rw [only_in hk hok2]; exact y4⟩, fun L' hL' => y5 L' (by rw [only_in hk hok2] at hL'; exact hL')⟩
          | _ => cases hil
      | some ij =>
        obtain ⟨i0, j0⟩ := ij
        have g1 : inner ⟨sz, n, f⟩ i0 j0 = some r := g1
        have hj0 : j0 < sz := by unfold okP at hok; rw [hb] at hok; exact Nat.le_of_ble_eq_true hok
        have hpl := allJ_get (hpb i0) j0 hj0
        have x2 : Den w ω (r.f i j) x := x2
        show Den w (ω.only M κ) (r.f i j) x
        unfold inner at g1
        simp only at g1
        revert g1 hpl
        generalize f i0 j0 = s
        intro g1 hpl
        cases s with
        | il sz2 n2 g =>
          obtain rfl := Option.some.inj g1
          have hj2 : j < sz2 := by have : sz2 = L.sz := g2
                                   omega
          exact only_den (allJ_get (hpl i) j hj2) x2
        | _ => cases g1
  · by_cases hk : k ∈ κ
    · rw [onlyM_in hk] at h
      obtain ⟨L, hL⟩ := hm.live k l h
      exact ⟨L, by rw [only_in hk okP_none]; exact hL⟩
    · rw [onlyM_out hk] at h; cases h
  · by_cases hk : k ∈ κ
    · rw [onlyM_in hk] at h
      show (if k ∈ κ ∧ okP M k (some (i, j)) = true then ω.β k (some (i, j)) else none) = none
      split
      · exact hm.hol k i j h
      · rfl
    · rw [onlyM_out hk] at h; cases h
theorem noise_ok (h : St P Gl N F M a w ω) {nx : Nat} {o : Oper} {pr : Prop} {κ : List Nat} (he : noiseB P Gl F M nx o = some (pr, κ)) (hp : pr) :
    o.guard = none ∧ (∀ cs b, o.op ≠ .select cs b) ∧ ∃ n v w', (execOp a.eval o).run P w = .ok n w' ∧ (n = .value v ∨ (n = .skip ∧ v = undef)) ∧ ∀ b, b < w.heap.size → (∀ k ∈ κ, ∀ p L, ω.β k p = some L → L.b ≠ b) → w'.heap[b]? = w.heap[b]? := by
  unfold noiseB at he
  split at he
  · next x y T T' hg ho =>
    refine ⟨hg, (fun cs b e => by rw [ho] at e; cases e), ?_⟩
    simp only at he
    split at he
    · next pr' s u hT hev =>
      rw [Bool.and_eq_true, Bool.and_eq_true, Bool.and_eq_true] at hT
      obtain ⟨⟨⟨hT, o1⟩, o2⟩, o3⟩ := hT
      obtain rfl := Nat.eq_of_beq_eq_true hT
      obtain ⟨rfl, rfl⟩ := Prod.mk.inj (Option.some.inj he)
      generalize hκ : uni (rootS (opnd Gl F x)) (rootS (opnd Gl F y)) = κ at *
      have t1 := h.mem.only (κ := κ) (allP_get hp.1)
      have hx := only_vw h.mem (κ := κ) (fun k hk => by rw [← hκ]; exact mem_uni.2 (.inl hk)) o1 (h.frame.opnd h.globs x)
      have hy := only_vw h.mem (κ := κ) (fun k hk => by rw [← hκ]; exact mem_uni.2 (.inr hk)) o2 (h.frame.opnd h.globs y)
      obtain ⟨n, v, w', ω', g1, g2, g3, _⟩ := appendT_core (P := P) (a := a) t1 hx hy ho (by simpa using o3) hev hp.2
      refine ⟨n, v, w', g1, g2, fun b hb hno => g3.ext.same b hb fun hA => ?_⟩
      obtain ⟨_, k, hk, p, L, hL, hLb⟩ := hA
      exact hno k hk p L hL hLb
    · cases he
  · cases he
end
section
variable {P : Program} {sg : Bool} {Gl : Nat → SV} {Γ : Table} {N : Nat} {ops : Array Oper} {PR : Nat → List Nat} {m : Nat} {rs : List Rc} {F F0 : Fr} {M : Mem} {reg wr : Nat → Bool}
variable {a0 a : Act} {w0 w : World} {ω0 ω : Ow} {D : Nat → Prop}
structure Qui (P : Program) (Gl : Nat → SV) (N : Nat) (ops : Array Oper) (PR : Nat → List Nat) (m : Nat) (rs : List Rc) (F0 : Fr) (M : Mem) (reg : Nat → Bool) (KQ : List Nat) (oB : Oper) : Prop where
  at_ : ops[m]? = some oB
  qui : ∀ j o, j < m → ops[j]? = some o → j ∉ PR m → reg j = false → ∃ p ko, quietK P Gl (vF rs F0 (PR j)) (vM rs M (PR j)) o = some (p, ko) ∧ p ∧ ∀ k, ko = some k → k ∈ KQ
  noi : ∃ nx pr κ, noiseB P Gl (vF rs F0 (PR m)) (vM rs M (PR m)) nx oB = some (pr, κ) ∧ pr ∧ ∀ k ∈ κ, k ∉ KQ
  key : ∀ k ∈ KQ, freeB (ent M) k = false ∧ ∀ j, k ∉ keys rs j
  sel : Region.noSelect ops = true
  ap : ∀ j o, j < m → ops[j]? = some o → j ∉ PR m → o.apart ops oB = true
  low : ∀ j ∈ PR m, j < m
def SQ (KQ : List Nat) (ω0 : Ow) (w w' : World) : Prop := ∀ k ∈ KQ, ∀ L, ω0.β k none = some L → w'.heap[L.b]? = w.heap[L.b]?
theorem quiet_at (S : Sta P sg Gl Γ N ops PR m rs F F0 M reg wr) (hm : MemOK w0 ω0 M) (hF : FrOK w0 ω0 N F a0.tmps) (hG : ∀ g, Den w0 ω0.bare (Gl g) (.pointer (some ⟨g, 0, none⟩))) {KQ : List Nat} {oB : Oper} (B : Qui P Gl N ops PR m rs F0 M reg KQ oB)
    (I : Inv ops PR m rs M N a0 w0 ω0 D a w ω) {j : Nat} {o : Oper} (hj : j < m) (ho : ops[j]? = some o) (hjm : j ∉ PR m) (hpre : ∀ i ∈ PR j, D i) :
    o.guard = none ∧ ∃ v, ∀ w', SQ KQ ω0 w w' → (execOp a.eval o).run P w' = .ok (.value v) w' := by
  obtain ⟨g1, g2, g3⟩ := I.all S hm hF hpre (fun i hi => S.closed j i hi)
  cases hr : reg j with
  | true =>
    obtain ⟨hg, s, _, he⟩ := S.evr j o hj ho hr
    obtain ⟨v, h1, _⟩ := reg_ok g1 g2 he
    exact ⟨hg, v, fun w' _ => h1 w'⟩
  | false =>
    obtain ⟨p, ko, he, hp, hk⟩ := B.qui j o hj ho hjm hr
    have hst : St P Gl N (vF rs F0 (PR j)) (vM rs M (PR j)) a w (subω rs M ω (PR j)) := ⟨g2, fun g => Den.ext (o := ω0.bare) (I.ext0 S hm (PR j)).bare (hG g), g1, I.defers⟩
    obtain ⟨hg, v, h1⟩ := quiet_ok hst he hp
    refine ⟨hg, v, fun w' hs => h1 w' fun k hko L hL => ?_⟩
    obtain ⟨_, hL'⟩ := sub_get hL
    have hf := (B.key k (hk k hko)).1
    rw [I.β0 k none (fun _ _ _ => hf)] at hL'
    exact hs k (hk k hko) L hL'
theorem ap_put {oB o : Oper} (hsel : ∀ (j : Nat) (o : Oper) cs b, ops[j]? = some o → o.op ≠ .select cs b) {j : Nat} (ho : ops[j]? = some o) (hap : o.apart ops oB = true) (v : Value) : execOp (a.put oB.dst v).eval o = execOp a.eval o := by
  obtain ⟨_, _, h3⟩ := Oper.apart_spec hap
  exact execOp_put o (fun cs b => hsel j o cs b ho) a oB.dst v h3
theorem ph2 (hS : Sound P Gl Γ) (S : Sta P sg Gl Γ N ops PR m rs F F0 M reg wr) (hT : ∀ i, m < i → i < ops.size → ∀ j, j < i → j ∈ PR i) (hm : MemOK w0 ω0 M) (hF : FrOK w0 ω0 N F a0.tmps) (hG : ∀ g, Den w0 ω0.bare (Gl g) (.pointer (some ⟨g, 0, none⟩))) {Q : Exit → Act → World → Prop} (hQp : ∀ d c a v w, Q (.panic c) (Act.put a d v) w → Q (.panic c) a w)
    {KQ : List Nat} {oB : Oper} (B : Qui P Gl N ops PR m rs F0 M reg KQ oB) (hgB : oB.guard = none)
    (htail : ∀ a w ω, Inv ops PR m rs M N a0 w0 ω0 (fun j => j < m) a w ω → wpList P ops Q (ops.toList.drop m) a w) :
    ∀ (fuel : Nat) (listed : Array Bool) (a : Act) (w : World) (ω : Ow) (n : Next) (v : Value) (w' : World), listed.size = ops.size → und ops.size (listed.setIfInBounds m true) ≤ fuel → Inv ops PR m rs M N a0 w0 ω0 (fun j => listed.getD j false = true) a w ω → (∀ j ∈ PR m, listed.getD j false = true) →
      (execOp a.eval oB).run P w = .ok n w' → (n = .value v ∨ (n = .skip ∧ v = undef)) → ¬ (oB.asks P a w ∧ LetsOut Q) → SQ KQ ω0 w w' → wpAny P .any ops Q fuel (listed.setIfInBounds m true) (a.put oB.dst v) w' := by
  have hmn : m < ops.size := (Array.getElem?_eq_some_iff.1 B.at_).1
  have hsel := Region.noSelect_spec B.sel
  have fin : ∀ (fuel : Nat) (listed : Array Bool) (a : Act) (w : World) (ω : Ow) (n : Next) (v : Value) (w' : World), listed.size = ops.size → und ops.size (listed.setIfInBounds m true) ≤ fuel → Inv ops PR m rs M N a0 w0 ω0 (fun j => listed.getD j false = true) a w ω →
      (execOp a.eval oB).run P w = .ok n w' → (n = .value v ∨ (n = .skip ∧ v = undef)) → ¬ (oB.asks P a w ∧ LetsOut Q) → (∀ j, j < m → listed.getD j false = true) → wpAny P .any ops Q fuel (listed.setIfInBounds m true) (a.put oB.dst v) w' := by
    intro fuel listed a w ω n v w' hs hu I hrun hn hna hall
    have hD : (fun j => listed.getD j false = true) = (fun j => j < m) := by
      funext j
      exact propext ⟨I.low j, hall j⟩
    have I' := I
    rw [hD] at I'
    have hl := htail a w ω I'
    have hdrop : ops.toList.drop m = oB :: ops.toList.drop (m + 1) := by
      have hj' : m < ops.toList.length := by simpa using hmn
      rw [List.drop_eq_getElem_cons hj']
      congr 1
      have := (Array.getElem?_eq_some_iff.1 B.at_).2
      simpa using this
    rw [hdrop] at hl
    unfold wpList at hl
    have hw : Region.wanted oB (yielded ops a.tmps) = true := by simp [Region.wanted, hgB]
    rw [if_pos hw] at hl
    have hl := hl.resolve_right hna
    have hl2 : wpList P ops Q (ops.toList.drop (m + 1)) (a.put oB.dst v) w' := by
      unfold Oper.wp at hl
      rw [hrun] at hl
      rcases hn with rfl | ⟨rfl, rfl⟩
      · exact hl
      · exact hl
    refine tail_ok S (m + 1) (fun i h1 h2 j h3 h4 => hT i (by omega) h2 j h3) fuel (m + 1) _ _ _ (by simpa using hs) (fun j hj => ?_) (Nat.le_refl _) hmn hu hl2
    by_cases e : m = j
    · subst e
      have : (listed.setIfInBounds m true).getD m false = true := by simp [Array.getD, hs, hj]
      rw [this]; simp
    · rw [getD_set_ne false e]
      constructor
      · intro h; have := I.low j h; omega
      · intro h; exact hall j (by omega)
  intro fuel
  induction fuel with
  | zero =>
    intro listed a w ω n v w' hs hu I hpm hrun hn hna hsq
    refine fin 0 listed a w ω n v w' hs hu I hrun hn hna fun j hj => ?_
    cases hx : listed.getD j false with
    | true => rfl
    | false =>
      have h1 : (listed.setIfInBounds m true).getD j true = false := by
        rw [getD_set_ne true (by omega), getD_eq (by omega) true false]; exact hx
      have := und_pos (show j < ops.size by omega) h1
      omega
  | succ fuel ih =>
    intro listed a w ω n v w' hs hu I hpm hrun hn hna hsq
    by_cases hall : ∀ j, j < m → listed.getD j false = true
    · exact fin _ listed a w ω n v w' hs hu I hrun hn hna hall
    have first : ∃ j, j < m ∧ listed.getD j false = false ∧ j ∈ Region.ready .any ops listed := by
      refine Classical.byContradiction fun hno => ?_
      have : ∀ n, ∀ j, j < n → j < m → listed.getD j false = true := by
        intro n
        induction n with
        | zero => intro j hj; omega
        | succ n ihn =>
          intro j hj hjm
          cases hx : listed.getD j false with
          | true => rfl
          | false =>
            exfalso
            have hjn : j < ops.size := by omega
            refine hno ⟨j, hjm, hx, mem_ready.2 ⟨by rw [getD_eq (by omega) true false]; exact hx, ops[j], Array.getElem?_eq_getElem hjn, fun e he hb => ?_⟩⟩
            have hd := S.dlt j _ (Array.getElem?_eq_getElem hjn) e he hb
            exact ihn e.on (by omega) (by omega)
      exact hall fun j hj => this (j + 1) j (Nat.lt_succ_self j) hj
    have hmL : listed.getD m false = false := by
      cases hx : listed.getD m false with
      | false => rfl
      | true => exact absurd (I.low m hx) (Nat.lt_irrefl _)
    refine ⟨fun hr => ?_, fun i hi => ?_⟩
    · obtain ⟨j, hj, _, hjr⟩ := first
      have := ready_mono (i := m) hjr (by omega)
      rw [hr] at this
      simp at this
    · obtain ⟨h1, o, h2, h3⟩ := mem_ready.1 hi
      have hin := (Array.getElem?_eq_some_iff.1 h2).1
      have him' : m ≠ i := fun e => by
        subst e
        simp [Array.getD, hs, hin] at h1
      have hif : listed.getD i false = false := by
        rw [getD_set_ne true him', getD_eq (by omega) true false] at h1; exact h1
      have prer : ∀ x ∈ PR i, x = m ∨ listed.getD x false = true := by
        intro x hx
        obtain ⟨e, he, hb, hx'⟩ := S.dep i o h2 x hx
        have hon := h3 e he hb
        by_cases em : m = e.on
        · rcases hx' with rfl | hx'
          · exact .inl em.symm
          · exact .inr (hpm x (em ▸ hx'))
        · rw [getD_set_ne false em] at hon
          rcases hx' with rfl | hx'
          · exact .inr hon
          · exact .inr (I.clo _ hon x hx')
      have him : i < m := by
        rcases Nat.lt_or_ge i m with h | h
        · exact h
        · exfalso
          obtain ⟨j, hj, hjf, _⟩ := first
          rcases prer j (hT i (by omega) hin j (by omega)) with h | h
          · omega
          · rw [h] at hjf; cases hjf
      have hpre : ∀ x ∈ PR i, listed.getD x false = true := fun x hx => (prer x hx).resolve_left fun e => by have := S.lt i x hx; omega
      have hnp : i ∉ PR m := fun h => by rw [hpm i h] at hif; cases hif
      obtain ⟨hg, vi, hv⟩ := quiet_at S hm hF hG B I him h2 hnp hpre
      have hap := B.ap i o him h2 hnp
      obtain ⟨p1, p2, p3⟩ := Oper.apart_spec hap
      have eB : execOp (a.put o.dst vi).eval oB = execOp a.eval oB := execOp_put oB (fun cs b => hsel m oB cs b B.at_) a o.dst vi p1
      have ei : execOp (a.put oB.dst v).eval o = execOp a.eval o := ap_put hsel h2 hap v
      have hni : ¬ listed.getD i false = true := by rw [hif]; simp
      have hI : ∃ ω', Inv ops PR m rs M N a0 w0 ω0 (fun j => listed.getD j false = true ∨ j = i) (a.put o.dst vi) w ω' := by
        have h := I.step (Q := fun _ _ _ => False) (K := fun a' w' => ∃ ω', Inv ops PR m rs M N a0 w0 ω0 (fun j => listed.getD j false = true ∨ j = i) a' w' ω') hS S hm hF hG him h2 hni hpre (fun a' w' ω' I' => ⟨ω', I'⟩)
        unfold wpOp at h
        rw [h2] at h
        simp only at h
        rw [if_pos (by simp [Region.wanted, hg])] at h
        rcases h with h | ⟨_, _, _, h⟩
        · unfold Oper.wp at h
          rw [hv w (fun _ _ _ _ => rfl)] at h
          exact h
        · exact h.elim
      obtain ⟨ω', I'⟩ := hI
      have hset : (fun j => (listed.setIfInBounds i true).getD j false = true) = (fun j => listed.getD j false = true ∨ j = i) := by
        funext j
        refine propext ⟨fun h => ?_, fun h => ?_⟩
        · by_cases e : i = j
          · exact .inr e.symm
          · rw [getD_set_ne false e] at h; exact .inl h
        · rcases h with h | rfl
          · exact getD_set_true h
          · simp [Array.getD, hs, hin]
      have hcomm : (listed.setIfInBounds m true).setIfInBounds i true = (listed.setIfInBounds i true).setIfInBounds m true := Array.setIfInBounds_comm _ _ (by omega)
      unfold wpOp
      rw [h2]
      simp only
      rw [if_pos (by simp [Region.wanted, hg])]
      left
      unfold Oper.wp
      rw [ei, hv w' hsq]
      show wpAny P .any ops Q fuel ((listed.setIfInBounds m true).setIfInBounds i true) ((a.put oB.dst v).put o.dst vi) w'
      rw [hcomm, ← Act.put_comm a vi v p2]
      refine ih (listed.setIfInBounds i true) (a.put o.dst vi) w ω' n v w' (by simpa using hs) ?_ (by rw [hset]; exact I') (fun j hj => getD_set_true (hpm j hj)) (by rw [eB]; exact hrun) hn ?_ hsq
      · rw [← hcomm]
        have := und_set (listed := listed.setIfInBounds m true) hin (by simpa using hs) h1
        omega
      · rintro ⟨g1, g2⟩
        refine hna ⟨?_, g2⟩
        unfold Oper.asks at *
        rw [eB] at g1
        exact g1
theorem any_okB (hS : Sound P Gl Γ) (S : Sta P sg Gl Γ N ops PR m rs F F0 M reg wr) (hT : ∀ i, m < i → i < ops.size → ∀ j, j < i → j ∈ PR i) (hm : MemOK w0 ω0 M) (hF : FrOK w0 ω0 N F a0.tmps) (hG : ∀ g, Den w0 ω0.bare (Gl g) (.pointer (some ⟨g, 0, none⟩))) {Q : Exit → Act → World → Prop} (hQp : ∀ d c a v w, Q (.panic c) (Act.put a d v) w → Q (.panic c) a w)
    {KQ : List Nat} {oB : Oper} (B : Qui P Gl N ops PR m rs F0 M reg KQ oB)
    (htail : ∀ a w ω, Inv ops PR m rs M N a0 w0 ω0 (fun j => j < m) a w ω → wpList P ops Q (ops.toList.drop m) a w) :
    ∀ (fuel : Nat) (listed : Array Bool) (a : Act) (w : World) (ω : Ow), listed.size = ops.size → und ops.size listed ≤ fuel → Inv ops PR m rs M N a0 w0 ω0 (fun j => listed.getD j false = true) a w ω → wpAny P .any ops Q fuel listed a w := by
  have hmn : m < ops.size := (Array.getElem?_eq_some_iff.1 B.at_).1
  intro fuel
  induction fuel with
  | zero =>
    intro listed a w ω hs hu I
    exfalso
    have hmL : listed.getD m true = false := by
      cases hx : listed.getD m false with
      | false => rw [getD_eq (by omega) true false]; exact hx
      | true => exact absurd (I.low m hx) (Nat.lt_irrefl _)
    have := und_pos hmn hmL
    omega
  | succ fuel ih =>
    intro listed a w ω hs hu I
    have hmL : listed.getD m false = false := by
      cases hx : listed.getD m false with
      | false => rfl
      | true => exact absurd (I.low m hx) (Nat.lt_irrefl _)
    have hprer : ∀ i, i ∈ Region.ready .any ops listed → ∀ x ∈ PR i, listed.getD x false = true := by
      intro i hi x hx
      obtain ⟨h1, o, h2, h3⟩ := mem_ready.1 hi
      obtain ⟨e, he, hb, hx'⟩ := S.dep i o h2 x hx
      have hon := h3 e he hb
      rcases hx' with rfl | hx'
      · exact hon
      · exact I.clo _ hon x hx'
    refine ⟨fun hr => ?_, fun i hi => ?_⟩
    · exfalso
      have : ∀ n, ∀ j, j < n → j < ops.size → listed.getD j false = true := by
        intro n
        induction n with
        | zero => intro j hj; omega
        | succ n ihn =>
          intro j hj hjn
          cases hx : listed.getD j false with
          | true => rfl
          | false =>
            exfalso
            have : j ∈ Region.ready .any ops listed := mem_ready.2 ⟨by rw [getD_eq (by omega) true false]; exact hx, ops[j], Array.getElem?_eq_getElem hjn, fun e he hb => by
              have hd := S.dlt j _ (Array.getElem?_eq_getElem hjn) e he hb
              exact ihn e.on (by omega) (by omega)⟩
            rw [hr] at this
            simp at this
      rw [this (m + 1) m (Nat.lt_succ_self m) hmn] at hmL
      cases hmL
    · obtain ⟨h1, o, h2, h3⟩ := mem_ready.1 hi
      have hin := (Array.getElem?_eq_some_iff.1 h2).1
      have hni : ¬ listed.getD i false = true := by
        rw [getD_eq (by omega) false true, h1]; simp
      have hset : (fun j => (listed.setIfInBounds i true).getD j false = true) = (fun j => listed.getD j false = true ∨ j = i) := by
        funext j
        refine propext ⟨fun h => ?_, fun h => ?_⟩
        · by_cases e : i = j
          · exact .inr e.symm
          · rw [getD_set_ne false e] at h; exact .inl h
        · rcases h with h | rfl
          · exact getD_set_true h
          · simp [Array.getD, hs, hin]
      have hu' := und_set hin hs h1
      rcases Nat.lt_trichotomy i m with him | him | him
      · refine I.step hS S hm hF hG him h2 hni (hprer i hi) fun a' w' ω' I' => ih _ a' w' ω' (by simpa using hs) (by omega) ?_
        rw [hset]; exact I'
      · subst him
        obtain rfl : o = oB := Option.some.inj (h2.symm.trans B.at_)
        have hpm := hprer i hi
        obtain ⟨g1, g2, g3⟩ := I.all S hm hF hpm (fun j hj => S.closed i j hj)
        have hst : St P Gl N (vF rs F0 (PR i)) (vM rs M (PR i)) a w (subω rs M ω (PR i)) := ⟨g2, fun g => Den.ext (o := ω0.bare) (I.ext0 S hm (PR i)).bare (hG g), g1, I.defers⟩
        obtain ⟨nx, pr, κ, he, hp, hκ⟩ := B.noi
        obtain ⟨hg, _, n, v, w', hrun, hn, hsame⟩ := noise_ok hst he hp
        unfold wpOp
        rw [h2]
        simp only
        rw [if_pos (by simp [Region.wanted, hg])]
        by_cases hask : o.asks P a w ∧ LetsOut Q
        · exact .inr hask
        left
        have hsq : SQ KQ ω0 w w' := by
          intro k hk L hL
          obtain ⟨hf, hno⟩ := B.key k hk
          have hLω : (subω rs M ω (PR i)).β k none = some L := by
            rw [sub_eq (fun h => by have := h.1; rw [hf] at this; cases this), I.β0 k none (fun _ _ _ => hf)]; exact hL
          refine hsame L.b (g1.low _ _ _ hLω) fun k' hk' p L' hL' e => ?_
          obtain ⟨rfl, _⟩ := g1.inj _ _ _ _ _ _ hL' hLω e
          exact hκ _ hk' hk
        have := ph2 hS S hT hm hF hG hQp B hg htail fuel listed a w ω n v w' hs (by omega) I hpm hrun hn hask hsq
        unfold Oper.wp
        rw [hrun]
        rcases hn with rfl | ⟨rfl, rfl⟩
        · exact this
        · exact this
      · exfalso
        have := hprer i hi m (hT i him hin m him)
        rw [hmL] at this
        cases this
end
end Go.Sy
set_option linter.unusedVariables false
set_option linter.unusedSimpArgs false
namespace Go.Sy
open Go.RowKit
/-! ### what is before an operation -/
def addAll : List Nat → List Nat → List Nat
  | [], acc => acc
  | x :: r, acc => match inL acc x with | true => addAll r acc | false => addAll r (x :: acc)
theorem mem_addAll : ∀ {l acc : List Nat} {x : Nat}, x ∈ addAll l acc ↔ x ∈ l ∨ x ∈ acc
  | [], acc, x => by simp [addAll]
  | y :: r, acc, x => by
    unfold addAll
    split
    · next h =>
      rw [mem_addAll]
      have := inL_iff.1 h
      simp only [List.mem_cons]
      constructor
      · rintro (h | h)
        · exact .inl (.inr h)
        · exact .inr h
      · rintro ((rfl | h) | h)
        · exact .inr this
        · exact .inl h
        · exact .inr h
    · rw [mem_addAll]
      simp only [List.mem_cons]
      constructor
      · rintro (h | rfl | h)
        · exact .inl (.inr h)
        · exact .inl (.inl rfl)
        · exact .inr h
      · rintro ((rfl | h) | h)
        · exact .inr (.inl rfl)
        · exact .inl h
        · exact .inr (.inr h)
def depsL (R : List (List Nat)) : List Edge → List Nat → List Nat
  | [], acc => acc
  | e :: r, acc => match Region.binds .any e with | true => depsL R r (addAll (e.on :: R.getD e.on []) acc) | false => depsL R r acc
theorem mem_depsL {R : List (List Nat)} : ∀ {es : List Edge} {acc : List Nat} {x : Nat}, x ∈ depsL R es acc ↔ x ∈ acc ∨ ∃ e ∈ es, Region.binds .any e = true ∧ (x = e.on ∨ x ∈ R.getD e.on [])
  | [], acc, x => by simp [depsL]
  | e :: r, acc, x => by
    unfold depsL
    split
    · next hb =>
      rw [mem_depsL, mem_addAll]
      simp only [List.mem_cons, exists_eq_or_imp]
      constructor
      · rintro ((h | h) | h)
        · exact .inr (.inl ⟨hb, h⟩)
        · exact .inl h
        · exact .inr (.inr h)
      · rintro (h | ⟨_, h⟩ | h)
        · exact .inl (.inr h)
        · exact .inl (.inl h)
        · exact .inr h
    · next hb =>
      rw [mem_depsL]
      simp only [List.mem_cons, exists_eq_or_imp]
      constructor
      · rintro (h | h)
        · exact .inl h
        · exact .inr (.inr h)
      · rintro (h | ⟨h, _⟩ | h)
        · exact .inl h
        · rw [hb] at h; cases h
        · exact .inr h
def presL : List Oper → List (List Nat) → List (List Nat)
  | [], acc => acc
  | o :: r, acc => presL r (acc ++ [depsL acc o.after.toList []])
theorem presL_spec : ∀ (l : List Oper) (acc : List (List Nat)), (∃ t, presL l acc = acc ++ t) ∧ ∀ k o, l[k]? = some o → (presL l acc)[acc.length + k]? = some (depsL ((presL l acc).take (acc.length + k)) o.after.toList [])
  | [], acc => ⟨⟨[], by simp [presL]⟩, fun k o h => by simp at h⟩
  | o :: r, acc => by
    obtain ⟨⟨t, ht⟩, h⟩ := presL_spec r (acc ++ [depsL acc o.after.toList []])
    have e : presL (o :: r) acc = presL r (acc ++ [depsL acc o.after.toList []]) := rfl
    refine ⟨⟨[depsL acc o.after.toList []] ++ t, by rw [e, ht]; simp⟩, fun k o' hk => ?_⟩
    cases k with
    | zero =>
      simp only [List.getElem?_cons_zero, Option.some.injEq] at hk
      subst hk
      rw [e, ht]
      simp
    | succ k =>
      have := h k o' (by simpa using hk)
      rw [e]
      simpa [Nat.add_assoc, Nat.add_comm 1 k] using this
def edgesB : Nat → List Oper → Bool
  | _, [] => true
  | i, o :: r => (o.after.toList.all fun e => !Region.binds .any e || Nat.blt e.on i) && edgesB (i + 1) r
theorem edgesB_spec : ∀ {l : List Oper} {i : Nat}, edgesB i l = true → ∀ k o, l[k]? = some o → ∀ e ∈ o.after, Region.binds .any e = true → e.on < i + k
  | [], _, _, k, o, h => by simp at h
  | x :: r, i, hb, k, o, h => by
    simp only [edgesB, Bool.and_eq_true] at hb
    intro e he hbe
    cases k with
    | zero =>
      simp only [List.getElem?_cons_zero, Option.some.injEq] at h
      subst h
      have := List.all_eq_true.1 hb.1 e (by simpa using he)
      rw [hbe] at this
      exact Nat.le_of_ble_eq_true this
    | succ k =>
      have := edgesB_spec hb.2 k o (by simpa using h) e he hbe
      omega
def regSyn (o : Oper) : Bool :=
  match o.guard, o.op with
  | none, .extract _ _ => true
  | none, .binOp _ _ _ _ _ => true
  | none, .unOp _ _ _ => true
  | none, .convert _ _ _ => true
  | none, .move _ => true
  | none, .fieldAddr _ _ _ => true
  | none, .indexAddr _ _ _ => true
  | _, _ => false
def regAt (ops : List Oper) (j : Nat) : Bool := match ops[j]? with | some o => regSyn o | none => false
def lastBad (ops : List Oper) : Nat → List (List Nat) → Nat → Nat
  | _, [], m => m
  | i, p :: r, m => lastBad ops (i + 1) r (match Nat.beq p.length i || (List.range i).all fun j => inL p j || (regAt ops j && Nat.blt j m) with | true => m | false => i + 1)
def tailB (R : List (List Nat)) (m n : Nat) (gs : List Bool) : Bool := (List.range n).all fun i => Nat.blt i m || (List.range i).all fun j => inL (R.getD i []) j || (Nat.blt j m && gs.getD j false)
def apartB (ops : List Oper) (R : List (List Nat)) (gs : List Bool) : Bool :=
  (List.range gs.length).all fun i => !(gs.getD i false) ||
    (match ops[i]? with
     | some oi => Region.noSelect ops.toArray && (List.range ops.length).all fun j => Nat.beq j i || inL (R.getD i []) j || (match ops[j]? with | some oj => (oj.after.toList.any fun e => Region.binds .any e && Nat.beq e.on i) || oi.apart ops.toArray oj | none => true)
     | none => true)
def regTry (P : Program) (sg : Bool) (N : Nat) (V : Fr) (m : Nat → Ent) (o : Oper) : Option (Prop × Rc) :=
  match regSyn o, evR P sg V m o.op with
  | true, .ok s => some (True, ⟨ent1 N o.dst s, [], []⟩)
  | true, .asm _ s => some (True, ⟨ent1 N o.dst s, [], []⟩)
  | true, .req p s => some (p, ⟨ent1 N o.dst s, [], []⟩)
  | _, _ => none
theorem regTry_ok {P : Program} {sg : Bool} {N : Nat} {V : Fr} {m : Nat → Ent} {o : Oper} {p : Prop} {rc : Rc} (h : regTry P sg N V m o = some (p, rc)) (hp : p) : o.guard = none ∧ ∃ s, rc = ⟨ent1 N o.dst s, [], []⟩ ∧ (evR P sg V m o.op).run (fun s' => s' = s) := by
  have hg : ∀ {b}, regSyn o = b → b = true → o.guard = none := by
    intro b h hb
    subst hb
    unfold regSyn at h
    split at h <;> first | assumption | cases h
  unfold regTry at h
  split at h
  · next s h1 h2 =>
    simp only [Option.some.injEq, Prod.mk.injEq] at h
    exact ⟨hg h1 rfl, s, h.2.symm, by rw [h2]; exact rfl⟩
  · next s h1 h2 =>
    simp only [Option.some.injEq, Prod.mk.injEq] at h
    exact ⟨hg h1 rfl, s, h.2.symm, by rw [h2]; exact fun _ => rfl⟩
  · next s h1 h2 =>
    simp only [Option.some.injEq, Prod.mk.injEq] at h
    exact ⟨hg h1 rfl, s, h.2.symm, by rw [h2]; exact ⟨by rw [h.1]; exact hp, rfl⟩⟩
  · cases h
/-! ### all operations, one behind the other -/
def dryF (P : Program) (sg : Bool) (Gl : Nat → SV) (Γ : Table) (N : Nat) (M : Mem) : List Oper → Fr → Nat → Fr
  | [], F, _ => F
  | o :: r, F, nx =>
    match evO2 P sg Gl Γ F M nx [] [] o.op with
    | .ok s => dryF P sg Gl Γ N M r (putF N F o.dst s) nx
    | .asm _ s => dryF P sg Gl Γ N M r (putF N F o.dst s) nx
    | .req _ s => dryF P sg Gl Γ N M r (putF N F o.dst s) nx
    | .mem _ s _ => dryF P sg Gl Γ N M r (putF N F o.dst s) nx
    | .any _ _ => dryF P sg Gl Γ N M r (putF N F o.dst .junk) nx
    | .bad => dryF P sg Gl Γ N M r (putF N F o.dst .junk) nx
def storeK (Gl : Nat → SV) (F : Fr) (o : Oper) : Option Nat :=
  match o.op with
  | .store _ x _ => (match opnd Gl F x with | .ptr k _ none _ _ => some k | _ => none)
  | _ => none
def junkM : List Nat → Mem → Mem
  | [], M => M
  | k :: r, M =>
    match (ent M k).hl, (ent M k).b with
    | none, .cells l => (match l.all fun s => !isIl s with | true => junkM r ((k, { ent M k with b := .cells (junkL l.length) }) :: M) | false => junkM r M)
    | _, _ => junkM r M
def isJk : SV → Bool
  | .junk => true
  | _ => false
def wokB (e f : Ent) : Bool :=
  match e.hl, e.b, f.hl, f.b with
  | none, .cells l, none, .cells l' => Nat.beq e.rs f.rs && Nat.beq e.ds f.ds && l.all isJk && Nat.beq l'.length l.length
  | _, _, _, _ => false
def evRec (P : Program) (sg : Bool) (Gl : Nat → SV) (Γ : Table) (N : Nat) (ops : List Oper) (R : List (List Nat)) (F0 : Fr) (M : Mem) : List Oper → Nat → List Rc → List Bool → List Bool → Nat → (List Rc → List Bool → List Bool → Nat → Prop) → Prop
  | [], _, rs, gs, ws, nx, K => K rs gs ws nx
  | o :: r, i, rs, gs, ws, nx, K =>
    match regTry P sg N (vF rs F0 (R.getD i [])) (ent (vM rs M (R.getD i []))) o with
    | some (p, rc) => p ∧ fRcs (rs ++ [rc]) fun rs' => evRec P sg Gl Γ N ops R F0 M r (i + 1) rs' (gs ++ [true]) (ws ++ [false]) nx K
    | none =>
      match evalQ P sg Gl Γ N ops (vF rs F0 (R.getD i [])) (vM rs M (R.getD i [])) (vH rs (R.getD i [])) nx (R.getD i []) o with
      | some (p, rc) => p ∧ fRcs (rs ++ [rc]) fun rs' => fNat (nx + 64) fun nx' => evRec P sg Gl Γ N ops R F0 M r (i + 1) rs' (gs ++ [false]) (ws ++ [false]) nx' K
      | none =>
        match evalW P Gl N ops (vF rs F0 (R.getD i [])) (vM rs M (R.getD i [])) (vH rs (R.getD i [])) o with
        | some (k, u) => (match freeB (ent M) k with | false => fRcs (rs ++ [⟨[], [], u⟩]) fun rs' => evRec P sg Gl Γ N ops R F0 M r (i + 1) rs' (gs ++ [false]) (ws ++ [true]) nx K | true => False)
        | none => False
def eqO : Option Nat → Nat → Bool
  | some x, y => Nat.beq x y
  | none, _ => false
def dstL (ops : List Oper) (i : Nat) : Option Nat := match ops[i]? with | some o => o.dst | none => none
def rcsB (N : Nat) (ops : List Oper) (R : List (List Nat)) (M : Mem) (rs : List Rc) (ws : List Bool) : Bool :=
  nodupB (rs.map fun rc => rc.u.map (·.1)).flatten &&
  ((List.range rs.length).all fun i =>
    ((rcAt rs i).fs.all fun p => eqO (dstL ops i) p.1 && Nat.blt p.1 N) &&
    ((rcAt rs i).hs.all fun h => eqO (dstL ops i) h.slot && (R.getD i []).any fun g => eqO (dstL ops g) h.d) &&
    ((rcAt rs i).u.all fun p => (freeB (ent M) p.1 || (ws.getD i false && !freeB (ent M) p.1 && wokB (ent M p.1) p.2)) && Nat.beq p.2.rs (ent M p.1).rs && Nat.beq p.2.ds (ent M p.1).ds))
def junkF (l : List Oper) (F : Fr) : Fr := (l.filterMap (·.dst)).map (fun t => (t, SV.junk)) ++ F
def evDraw (P : Program) (sg : Bool) (Gl : Nat → SV) (Γ : Table) (N : Nat) (ops : List Oper) (K : Fr → Mem → Nat → Prop) (F : Fr) (M : Mem) (nx : Nat) : Prop :=
  fNatLL (presL ops []) fun R =>
  fNat (lastBad ops 0 R 0) fun m =>
  match edgesB 0 ops, nodupB ((ops.take m).map fun o => o.dst.toList).flatten, Nat.ble m ops.length, P.follows .mixedOrders with
  | true, true, true, true =>
    let MJ := junkM ((ops.take m).filterMap (storeK Gl (dryF P sg Gl Γ N M (ops.take m) F nx))) M
    evRec P sg Gl Γ N ops R (junkF (ops.take m) F) MJ (ops.take m) 0 [] [] [] nx fun rs gs ws nx' =>
      match rcsB N ops R MJ rs ws && tailB R m ops.length gs && apartB ops R gs with
      | true => markH (vF rs (junkF (ops.take m) F) (List.range m)) (vM rs MJ (List.range m)) nx' (vH rs (List.range m)) fun F M nx H => evOps P sg Gl Γ N ops K (ops.drop m) F M nx H
      | false => False
  | _, _, _, _ => False
def tailN (R : List (List Nat)) (m n : Nat) : Bool := (List.range n).all fun i => Nat.ble i m || (List.range i).all fun j => inL (R.getD i []) j
def quietAll (P : Program) (Gl : Nat → SV) (ops : List Oper) (R : List (List Nat)) (F0 : Fr) (M : Mem) (rs : List Rc) (gs : List Bool) (m : Nat) : List Nat → Option (Prop × List Nat)
  | [] => some (True, [])
  | j :: r =>
    match inL (R.getD m []) j || gs.getD j false, quietAll P Gl ops R F0 M rs gs m r with
    | true, x => x
    | false, some (q, l) => (match ops[j]? with | some o => (match quietK P Gl (vF rs F0 (R.getD j [])) (vM rs M (R.getD j [])) o with | some (p, ko) => some (p ∧ q, ko.toList ++ l) | none => none) | none => none)
    | false, none => none
def keyQ (M : Mem) (rs : List Rc) (KQ : List Nat) : Bool := KQ.all fun k => !freeB (ent M) k && rs.all fun rc => !inL (rc.u.map (·.1)) k
def apQ (ops : List Oper) (R : List (List Nat)) (m : Nat) : Bool :=
  match ops[m]? with
  | some oB => Region.noSelect ops.toArray && (List.range m).all fun j => inL (R.getD m []) j || (match ops[j]? with | some o => o.apart ops.toArray oB | none => true)
  | none => false
def evDrawB (P : Program) (sg : Bool) (Gl : Nat → SV) (Γ : Table) (N : Nat) (ops : List Oper) (m : Nat) (K : Fr → Mem → Nat → Prop) (F : Fr) (M : Mem) (nx : Nat) : Prop :=
  fNatLL (presL ops []) fun R =>
  match edgesB 0 ops, nodupB ((ops.take m).map fun o => o.dst.toList).flatten, Nat.ble m ops.length, P.follows .mixedOrders with
  | true, true, true, true =>
    let MJ := junkM ((ops.take m).filterMap (storeK Gl (dryF P sg Gl Γ N M (ops.take m) F nx))) M
    evRec P sg Gl Γ N ops R (junkF (ops.take m) F) MJ (ops.take m) 0 [] [] [] nx fun rs gs ws nx' =>
      match rcsB N ops R MJ rs ws && tailN R m ops.length && apartB ops R gs && apQ ops R m, quietAll P Gl ops R (junkF (ops.take m) F) MJ rs gs m (List.range m), ops[m]? with
      | true, some (p, KQ), some oB =>
        (match keyQ MJ rs KQ, noiseB P Gl (vF rs (junkF (ops.take m) F) (R.getD m [])) (vM rs MJ (R.getD m [])) (nx' + 100) oB with
         | true, some (pr, κ) => (match κ.all fun k => !inL KQ k with | true => p ∧ pr ∧ markH (vF rs (junkF (ops.take m) F) (List.range m)) (vM rs MJ (List.range m)) nx' (vH rs (List.range m)) fun F M nx H => evOps P sg Gl Γ N ops K (ops.drop m) F M nx H | false => False)
         | _, _ => False)
      | _, _, _ => False
  | _, _, _, _ => False
theorem quietAll_ok {P : Program} {Gl : Nat → SV} {ops : List Oper} {R : List (List Nat)} {F0 : Fr} {M : Mem} {rs : List Rc} {gs : List Bool} {m : Nat} : ∀ {l : List Nat} {p : Prop} {KQ : List Nat}, quietAll P Gl ops R F0 M rs gs m l = some (p, KQ) → p → ∀ j ∈ l, ∀ o, ops[j]? = some o → j ∉ R.getD m [] → gs.getD j false = false →
    ∃ q ko, quietK P Gl (vF rs F0 (R.getD j [])) (vM rs M (R.getD j [])) o = some (q, ko) ∧ q ∧ ∀ k, ko = some k → k ∈ KQ
  | [], p, KQ, he, hp, j, hj, o, ho, h1, h2 => absurd hj (by simp)
  | i :: r, p, KQ, he, hp, j, hj, o, ho, h1, h2 => by
    unfold quietAll at he
    split at he
    · next hb =>
      rcases List.mem_cons.1 hj with rfl | hj
      · rw [Bool.or_eq_true] at hb
        rcases hb with hb | hb
        · exact absurd (inL_iff.1 hb) h1
        · rw [h2] at hb; cases hb
      · exact quietAll_ok he hp j hj o ho h1 h2
    · next q l hb hr =>
      split at he
      · next o' ho' =>
        split at he
        · next p' ko hk =>
          obtain ⟨rfl, rfl⟩ := Prod.mk.inj (Option.some.inj he)
          rcases List.mem_cons.1 hj with rfl | hj
          · obtain rfl := Option.some.inj (ho.symm.trans ho')
            exact ⟨p', ko, hk, hp.1, fun k e => by rw [e]; simp⟩
          · obtain ⟨q1, ko1, g1, g2, g3⟩ := quietAll_ok hr hp.2 j hj o ho h1 h2
            exact ⟨q1, ko1, g1, g2, fun k e => List.mem_append.2 (.inr (g3 k e))⟩
        · cases he
      · cases he
    · cases he
section
variable {P : Program} {w : World} {ω : Ow} {Gl : Nat → SV} {Γ : Table} {N : Nat} {F : Fr} {M : Mem} {a : Act}
def RecOK (P : Program) (sg : Bool) (Gl : Nat → SV) (Γ : Table) (N : Nat) (M : Mem) (ops : List Oper) (R : List (List Nat)) (F0 : Fr) (K : List Rc → List Bool → List Bool → Nat → Prop) (r : List Oper) (i : Nat) (rs : List Rc) (gs ws : List Bool) : Prop :=
    ∃ t tg tw nx', K (rs ++ t) (gs ++ tg) (ws ++ tw) nx' ∧ t.length = r.length ∧ tg.length = r.length ∧ tw.length = r.length ∧ ∀ k o, r[k]? = some o →
      ((gs ++ tg).getD (i + k) false = true → (ws ++ tw).getD (i + k) false = false ∧ o.guard = none ∧ ∃ s, rcAt (rs ++ t) (i + k) = ⟨ent1 N o.dst s, [], []⟩ ∧ (evR P sg (vF ((rs ++ t).take (i + k)) F0 (R.getD (i + k) [])) (ent (vM ((rs ++ t).take (i + k)) M (R.getD (i + k) []))) o.op).run (fun s' => s' = s)) ∧
      ((gs ++ tg).getD (i + k) false = false → (ws ++ tw).getD (i + k) false = false → ∃ nx p, evalQ P sg Gl Γ N ops (vF ((rs ++ t).take (i + k)) F0 (R.getD (i + k) [])) (vM ((rs ++ t).take (i + k)) M (R.getD (i + k) [])) (vH ((rs ++ t).take (i + k)) (R.getD (i + k) [])) nx (R.getD (i + k) []) o = some (p, rcAt (rs ++ t) (i + k)) ∧ p) ∧
      ((ws ++ tw).getD (i + k) false = true → ∃ q u, evalW P Gl N ops (vF ((rs ++ t).take (i + k)) F0 (R.getD (i + k) [])) (vM ((rs ++ t).take (i + k)) M (R.getD (i + k) [])) (vH ((rs ++ t).take (i + k)) (R.getD (i + k) [])) o = some (q, u) ∧ rcAt (rs ++ t) (i + k) = ⟨[], [], u⟩ ∧ freeB (ent M) q = false)
theorem evRec_ok {sg : Bool} {ops : List Oper} {R : List (List Nat)} {F0 : Fr} {K : List Rc → List Bool → List Bool → Nat → Prop} : ∀ (r : List Oper) (i : Nat) (rs : List Rc) (gs ws : List Bool) (nx : Nat), rs.length = i → gs.length = i → ws.length = i → evRec P sg Gl Γ N ops R F0 M r i rs gs ws nx K →
    RecOK P sg Gl Γ N M ops R F0 K r i rs gs ws
  | [], i, rs, gs, ws, nx, hl, hg, hw, h => ⟨[], [], [], nx, by rw [List.append_nil, List.append_nil, List.append_nil]; exact h, rfl, rfl, rfl, fun k o hk => by simp at hk⟩
  | o :: r, i, rs, gs, ws, nx, hl, hg, hw, h => by
    have e1 : ∀ {rc : Rc} {t : List Rc}, (rs ++ rc :: t).take (i + 0) = rs := by intro rc t; rw [Nat.add_zero, ← hl, List.take_left]
    have e2 : ∀ {rc : Rc} {t : List Rc}, rcAt (rs ++ rc :: t) (i + 0) = rc := by intro rc t; simp [rcAt, List.getD_eq_getElem?_getD, ← hl]
    have e3 : ∀ {b : Bool} {t : List Bool}, (gs ++ b :: t).getD (i + 0) false = b := by intro b t; simp [List.getD_eq_getElem?_getD, ← hg]
    have e4 : ∀ {b : Bool} {t : List Bool}, (ws ++ b :: t).getD (i + 0) false = b := by intro b t; simp [List.getD_eq_getElem?_getD, ← hw]
    have go : ∀ {rc : Rc} {bg bw : Bool} {nx1 : Nat}, evRec P sg Gl Γ N ops R F0 M r (i + 1) (rs ++ [rc]) (gs ++ [bg]) (ws ++ [bw]) nx1 K →
        ((bg = true → bw = false ∧ o.guard = none ∧ ∃ s, rc = ⟨ent1 N o.dst s, [], []⟩ ∧ (evR P sg (vF rs F0 (R.getD (i + 0) [])) (ent (vM rs M (R.getD (i + 0) []))) o.op).run (fun s' => s' = s)) ∧
          (bg = false → bw = false → ∃ nx p, evalQ P sg Gl Γ N ops (vF rs F0 (R.getD (i + 0) [])) (vM rs M (R.getD (i + 0) [])) (vH rs (R.getD (i + 0) [])) nx (R.getD (i + 0) []) o = some (p, rc) ∧ p) ∧
          (bw = true → ∃ q u, evalW P Gl N ops (vF rs F0 (R.getD (i + 0) [])) (vM rs M (R.getD (i + 0) [])) (vH rs (R.getD (i + 0) [])) o = some (q, u) ∧ rc = ⟨[], [], u⟩ ∧ freeB (ent M) q = false)) →
        RecOK P sg Gl Γ N M ops R F0 K (o :: r) i rs gs ws := by
      intro rc bg bw nx1 h hz
      obtain ⟨t, tg, tw, nx', h1, h2, h2', h2'', h3⟩ := evRec_ok r (i + 1) (rs ++ [rc]) (gs ++ [bg]) (ws ++ [bw]) nx1 (by simp [hl]) (by simp [hg]) (by simp [hw]) h
      have e : rs ++ rc :: t = rs ++ [rc] ++ t := by simp
      have eg : gs ++ bg :: tg = gs ++ [bg] ++ tg := by simp
      have ew : ws ++ bw :: tw = ws ++ [bw] ++ tw := by simp
      refine ⟨rc :: t, bg :: tg, bw :: tw, nx', by rw [e, eg, ew]; exact h1, by simp [h2], by simp [h2'], by simp [h2''], fun k o' hk => ?_⟩
      cases k with
      | zero =>
        simp only [List.getElem?_cons_zero, Option.some.injEq] at hk
        subst hk
        rw [e1, e2, e3, e4]
        exact hz
      | succ k =>
        have := h3 k o' (by simpa using hk)
        rw [show i + (k + 1) = i + 1 + k by omega, e, eg, ew]
        exact this
    unfold evRec at h
    simp only [fRcs_eq, fNat_eq] at h
    split at h
    · next p rc he =>
      obtain ⟨hp, h⟩ := h
      obtain ⟨g1, s, g3, g4⟩ := regTry_ok he hp
      exact go h ⟨fun _ => ⟨rfl, g1, s, g3, g4⟩, fun h => (by cases h), fun h => (by cases h)⟩
    · next hno =>
      split at h
      · next p rc he =>
        obtain ⟨hp, h⟩ := h
        exact go h ⟨fun h => (by cases h), fun _ _ => ⟨nx, p, he, hp⟩, fun h => (by cases h)⟩
      · split at h
        · next k u he =>
          split at h
          · next hf => exact go h ⟨fun h => (by cases h), fun _ h => (by cases h), fun _ => ⟨k, u, he, rfl, hf⟩⟩
          · exact h.elim
        · exact h.elim
theorem evalW_dst {ops : List Oper} {V : Fr} {M : Mem} {H : List Hd} {o : Oper} {k : Nat} {u : Upd} (h : evalW P Gl N ops V M H o = some (k, u)) : o.dst = none := by
  unfold evalW at h
  split at h
  · next h1 _ _ => exact h1
  · cases h
theorem junkM_ok : ∀ (l : List Nat) {M : Mem}, MemOK w ω M → MemOK w ω (junkM l M)
  | [], _, hm => hm
  | k :: r, M, hm => by
    unfold junkM
    split
    · next l hh hb =>
      split
      · next hal =>
        refine junkM_ok r ?_
        refine hm.retell rfl hb (by simp [junkL]) (fun L hL c T hc j hj x hx hd => ⟨by rw [junkL_at]; rfl, by rw [junkL_at]; trivial⟩) (fun j => all_notIl hal j)
      · exact junkM_ok r hm
    · exact junkM_ok r hm
theorem isJk_all : ∀ {l : List SV}, l.all isJk = true → l = junkL l.length
  | [], _ => rfl
  | s :: r, h => by
    simp only [List.all_cons, Bool.and_eq_true] at h
    have := isJk_all h.2
    cases s <;> first | (cases h.1; done) | skip
    show _ = SV.junk :: junkL r.length
    rw [← this]
theorem wokB_ok {k : Nat} {e : Ent} (h : wokB (ent M k) e = true) : WOK M e k := by
  unfold wokB at h
  split at h
  · next l l' h1 h2 h3 h4 =>
    simp only [Bool.and_eq_true] at h
    obtain ⟨⟨⟨g1, g2⟩, g3⟩, g4⟩ := h
    have g1 := Nat.eq_of_beq_eq_true g1
    have g2 := Nat.eq_of_beq_eq_true g2
    have g4 := Nat.eq_of_beq_eq_true g4
    refine ⟨(ent M k).rs, (ent M k).ds, l.length, l', ?_, g4, ?_⟩
    · rw [← isJk_all g3]
      generalize ent M k = e0 at *
      cases e0; simp_all
    · cases e; simp_all
  · cases h
theorem rcAt_take {rs : List Rc} {i j : Nat} (h : j < i) : rcAt (rs.take i) j = rcAt rs j := by
  unfold rcAt
  rw [List.getD_eq_getElem?_getD, List.getD_eq_getElem?_getD, List.getElem?_take_of_lt h]
theorem flat_congr {α : Type} {f g : Nat → List α} : ∀ {E : List Nat}, (∀ j ∈ E, f j = g j) → E.flatMap f = E.flatMap g
  | [], _ => rfl
  | j :: E, h => by rw [List.flatMap_cons, List.flatMap_cons, h j (by simp), flat_congr fun i hi => h i (by simp [hi])]
theorem flat_inj : ∀ {l : List (List Nat)}, l.flatten.Nodup → ∀ {i j k : Nat} {x y : List Nat}, l[i]? = some x → l[j]? = some y → k ∈ x → k ∈ y → i = j
  | [], _, i, j, k, x, y, h, _, _, _ => by simp at h
  | z :: l, hn, i, j, k, x, y, hi, hj, hx, hy => by
    rw [List.flatten_cons, List.nodup_append] at hn
    have mem : ∀ {q : Nat} {v : List Nat}, l[q]? = some v → k ∈ v → k ∈ l.flatten := fun hq hv => List.mem_flatten.2 ⟨_, List.mem_of_getElem? hq, hv⟩
    cases i with
    | zero =>
      cases j with
      | zero => rfl
      | succ j =>
        simp at hi hj; subst hi
        exact absurd rfl (hn.2.2 k hx k (mem hj hy))
    | succ i =>
      cases j with
      | zero =>
        simp at hi hj; subst hj
        exact absurd rfl (hn.2.2 k hy k (mem hi hx))
      | succ j => exact congrArg (· + 1) (flat_inj hn.2.1 (i := i) (j := j) (by simpa using hi) (by simpa using hj) hx hy)
theorem eqO_eq {x : Option Nat} {y : Nat} (h : eqO x y = true) : x = some y := by
  cases x with
  | none => cases h
  | some z => rw [Nat.eq_of_beq_eq_true h]
theorem ent_mem {k : Nat} : ∀ {u : Upd}, k ∈ u.map (·.1) → ∃ p ∈ u, p.1 = k ∧ ent u k = p.2
  | [], h => by simp at h
  | p :: r, h => by
    obtain ⟨p1, p2⟩ := p
    by_cases hk : p1 = k
    · subst hk; exact ⟨(p1, p2), List.mem_cons_self, rfl, ent_eq⟩
    · simp only [List.map_cons, List.mem_cons] at h
      obtain ⟨q, h1, h2, h3⟩ := ent_mem (h.resolve_left fun e => hk e.symm)
      exact ⟨q, by simp [h1], h2, by rw [ent_ne hk]; exact h3⟩
theorem junk_look : ∀ (l : List Oper) (F : Fr) (t : Nat), look (junkF l F) t = .junk ∨ (look (junkF l F) t = look F t ∧ ∀ o ∈ l, o.dst ≠ some t)
  | [], F, t => .inr ⟨rfl, fun o ho => by simp at ho⟩
  | o :: l, F, t => by
    cases hd : o.dst with
    | none =>
      have e : junkF (o :: l) F = junkF l F := by simp [junkF, hd]
      rw [e]
      rcases junk_look l F t with h | ⟨h1, h2⟩
      · exact .inl h
      · refine .inr ⟨h1, fun o' ho' => ?_⟩
        rcases List.mem_cons.1 ho' with rfl | ho'
        · rw [hd]; simp
        · exact h2 o' ho'
    | some x =>
      have e : junkF (o :: l) F = (x, .junk) :: junkF l F := by simp [junkF, hd]
      rw [e]
      by_cases hx : x = t
      · subst hx; exact .inl look_eq
      · rw [look_ne hx]
        rcases junk_look l F t with h | ⟨h1, h2⟩
        · exact .inl h
        · refine .inr ⟨h1, fun o' ho' => ?_⟩
          rcases List.mem_cons.1 ho' with rfl | ho'
          · rw [hd]; simpa using hx
          · exact h2 o' ho'
theorem draw_sta {sg : Bool} {ops : Array Oper} {R : List (List Nat)} {m : Nat} {MJ : Mem} {rs : List Rc} {gs ws : List Bool} {nx' : Nat} (hR : presL ops.toList [] = R) (hmle : m ≤ ops.size) (c1 : edgesB 0 ops.toList = true) (c3 : nodupB ((ops.toList.take m).map fun o => o.dst.toList).flatten = true) (hfr : FrOK w ω N F a.tmps)
    (h2 : rs.length = (ops.toList.take m).length) (h2g : gs.length = (ops.toList.take m).length) (h2w : ws.length = (ops.toList.take m).length)
    (h3 : ∀ k o, (ops.toList.take m)[k]? = some o →
      (gs.getD k false = true → ws.getD k false = false ∧ o.guard = none ∧ ∃ s, rcAt rs k = ⟨ent1 N o.dst s, [], []⟩ ∧ (evR P sg (vF (rs.take k) (junkF (ops.toList.take m) F) (R.getD k [])) (ent (vM (rs.take k) MJ (R.getD k []))) o.op).run (fun s' => s' = s)) ∧
      (gs.getD k false = false → ws.getD k false = false → ∃ nx p, evalQ P sg Gl Γ N ops.toList (vF (rs.take k) (junkF (ops.toList.take m) F) (R.getD k [])) (vM (rs.take k) MJ (R.getD k [])) (vH (rs.take k) (R.getD k [])) nx (R.getD k []) o = some (p, rcAt rs k) ∧ p) ∧
      (ws.getD k false = true → ∃ q u, evalW P Gl N ops.toList (vF (rs.take k) (junkF (ops.toList.take m) F) (R.getD k [])) (vM (rs.take k) MJ (R.getD k [])) (vH (rs.take k) (R.getD k [])) o = some (q, u) ∧ rcAt rs k = ⟨[], [], u⟩ ∧ freeB (ent MJ) q = false))
    (c6 : rcsB N ops.toList R MJ rs ws = true) (c7 : apartB ops.toList R gs = true) :
    Sta P sg Gl Γ N ops (fun i => R.getD i []) m rs F (junkF (ops.toList.take m) F) MJ (fun i => gs.getD i false) (fun i => ws.getD i false) ∧ ∀ i j, j ∈ R.getD i [] → j < i := by
  have hlen : rs.length = m := by rw [h2, List.length_take]; simp; omega
  have hpres := (presL_spec ops.toList []).2
  rw [hR] at hpres
  simp only [List.length_nil, Nat.zero_add] at hpres
  have hops : ∀ {i o}, ops[i]? = some o → ops.toList[i]? = some o := fun h => by rw [Array.getElem?_toList]; exact h
  have getR : ∀ {i o}, ops[i]? = some o → R.getD i [] = depsL (R.take i) o.after.toList [] := fun h => by
    rw [List.getD_eq_getElem?_getD, hpres _ _ (hops h)]; rfl
  have hdlt : ∀ i o, ops[i]? = some o → ∀ e ∈ o.after, Region.binds .any e = true → e.on < i := fun i o ho e he hb => by
    have := edgesB_spec c1 i o (hops ho) e he hb
    omega
  have hdep : ∀ i o, ops[i]? = some o → ∀ x ∈ R.getD i [], ∃ e ∈ o.after, Region.binds .any e = true ∧ (x = e.on ∨ x ∈ R.getD e.on []) := by
    intro i o ho x hx
    rw [getR ho, mem_depsL] at hx
    rcases hx with hx | ⟨e, he, hb, hx⟩
    · simp at hx
    · refine ⟨e, by simpa using he, hb, hx.imp (fun h => h) fun hx => ?_⟩
      have hlt := hdlt i o ho e (by simpa using he) hb
      rwa [List.getD_eq_getElem?_getD, List.getElem?_take_of_lt hlt, ← List.getD_eq_getElem?_getD] at hx
  have hlong : ∀ {i j}, j ∈ R.getD i [] → ∃ o, ops[i]? = some o := by
    intro i j hj
    rcases Nat.lt_or_ge i ops.size with hi | hi
    · exact ⟨_, Array.getElem?_eq_getElem hi⟩
    · exfalso
      have hRl : R.length ≤ ops.size := by
        have : ∀ (l : List Oper) (acc : List (List Nat)), (presL l acc).length = acc.length + l.length := by
          intro l
          induction l with
          | nil => intro acc; simp [presL]
          | cons o r ih => intro acc; simp only [presL, ih]; simp; omega
        rw [← hR, this]; simp
      rw [List.getD_eq_getElem?_getD, List.getElem?_eq_none (by omega)] at hj
      simp at hj
  have hlt : ∀ i j, j ∈ R.getD i [] → j < i := by
    intro i
    induction i using Nat.strongRecOn with
    | ind i ih =>
      intro j hj
      obtain ⟨o, ho⟩ := hlong hj
      obtain ⟨e, he, hb, hx⟩ := hdep i o ho j hj
      have := hdlt i o ho e he hb
      rcases hx with rfl | hx
      · exact this
      · have := ih e.on this j hx; omega
  have hsub : ∀ {i o e}, ops[i]? = some o → e ∈ o.after → Region.binds .any e = true → e.on ∈ R.getD i [] ∧ ∀ x ∈ R.getD e.on [], x ∈ R.getD i [] := by
    intro i o e ho he hb
    have hlt' := hdlt i o ho e he hb
    rw [getR ho]
    refine ⟨mem_depsL.2 (.inr ⟨e, by simpa using he, hb, .inl rfl⟩), fun x hx => mem_depsL.2 (.inr ⟨e, by simpa using he, hb, .inr ?_⟩)⟩
    rwa [List.getD_eq_getElem?_getD, List.getElem?_take_of_lt hlt', ← List.getD_eq_getElem?_getD]
  have hcl : ∀ i j, j ∈ R.getD i [] → ∀ k ∈ R.getD j [], k ∈ R.getD i [] := by
    intro i
    induction i using Nat.strongRecOn with
    | ind i ih =>
      intro j hj k hk
      obtain ⟨o, ho⟩ := hlong hj
      obtain ⟨e, he, hb, hx⟩ := hdep i o ho j hj
      rcases hx with rfl | hx
      · exact (hsub ho he hb).2 k hk
      · exact (hsub ho he hb).2 k (ih e.on (hdlt i o ho e he hb) j hx k hk)
  have hglen : gs.length = m := by rw [h2g, List.length_take]; simp; omega
  simp only [rcsB, Bool.and_eq_true] at c6
  obtain ⟨k1, k2⟩ := c6
  have k1 := nodupB_ok k1
  have kk : ∀ i, i < m → _ := fun i hi => List.all_eq_true.1 k2 i (List.mem_range.2 (by rw [hlen]; exact hi))
  have short : ∀ i, m ≤ i → rcAt rs i = ⟨[], [], []⟩ := fun i hi => by
    unfold rcAt
    rw [List.getD_eq_getElem?_getD, List.getElem?_eq_none (by omega)]; rfl
  have inM : ∀ {i k}, k ∈ keys rs i → i < m := fun {i k} hk => by
    rcases Nat.lt_or_ge i m with h | h
    · exact h
    · unfold keys at hk; rw [short i h] at hk; simp at hk
  have dstEq : ∀ i, dstL ops.toList i = dstOf ops i := fun i => by
    unfold dstL dstOf
    rw [Array.getElem?_toList]
    cases ops[i]? <;> rfl
  have SS : Sta P sg Gl Γ N ops (fun i => R.getD i []) m rs F (junkF (ops.toList.take m) F) MJ (fun i => gs.getD i false) (fun i => ws.getD i false) := by
    refine ⟨hdep, hcl, hlt, hdlt, hmle, ?_, ?_, ?_, ?_, ?_, ?_, ?_, ?_, ?_, ?_, ?_, ?_, short, ?_, ?_⟩
    · intro i o hi ho hreg hwr
      obtain ⟨nx1, p, g1, g2⟩ := (h3 i o (by rw [List.getElem?_take_of_lt hi]; exact hops ho)).2.1 hreg hwr
      refine ⟨nx1, p, ?_, g2⟩
      have e1 : vF (rs.take i) (junkF (ops.toList.take m) F) (R.getD i []) = vF rs (junkF (ops.toList.take m) F) (R.getD i []) := by
        unfold vF; rw [flat_congr fun j hj => by rw [rcAt_take (hlt i j hj)]]
      have e2 : vM (rs.take i) MJ (R.getD i []) = vM rs MJ (R.getD i []) := by
        unfold vM; rw [flat_congr fun j hj => by rw [rcAt_take (hlt i j hj)]]
      have e3 : vH (rs.take i) (R.getD i []) = vH rs (R.getD i []) := by
        unfold vH; rw [flat_congr fun j hj => by rw [rcAt_take (hlt i j hj)]]
      rw [e1, e2, e3] at g1
      exact g1
    · intro i o hi ho hreg hwr
      obtain ⟨q, u, g1, g2, g3⟩ := (h3 i o (by rw [List.getElem?_take_of_lt hi]; exact hops ho)).2.2 hwr
      have e1 : vF (rs.take i) (junkF (ops.toList.take m) F) (R.getD i []) = vF rs (junkF (ops.toList.take m) F) (R.getD i []) := by
        unfold vF; rw [flat_congr fun j hj => by rw [rcAt_take (hlt i j hj)]]
      have e2 : vM (rs.take i) MJ (R.getD i []) = vM rs MJ (R.getD i []) := by
        unfold vM; rw [flat_congr fun j hj => by rw [rcAt_take (hlt i j hj)]]
      have e3 : vH (rs.take i) (R.getD i []) = vH rs (R.getD i []) := by
        unfold vH; rw [flat_congr fun j hj => by rw [rcAt_take (hlt i j hj)]]
      rw [e1, e2, e3] at g1
      exact ⟨evalW_dst g1, by rw [g2], by rw [g2], q, by rw [g2]; exact g1, g3⟩
    · intro i hwr k hk
      obtain ⟨p, hp, rfl⟩ := List.mem_map.1 hk
      have := kk i (inM hk)
      simp only [Bool.and_eq_true] at this
      have := List.all_eq_true.1 this.2 p hp
      simp only [Bool.and_eq_true, Bool.or_eq_true] at this
      rcases this.1.1 with h | h
      · exact h
      · have hwr : ws.getD i false = false := hwr
        rw [hwr] at h; cases h.1.1
    · intro i o hi ho hreg
      obtain ⟨_, g1, s, g3, g4⟩ := (h3 i o (by rw [List.getElem?_take_of_lt hi]; exact hops ho)).1 hreg
      have e1 : vF (rs.take i) (junkF (ops.toList.take m) F) (R.getD i []) = vF rs (junkF (ops.toList.take m) F) (R.getD i []) := by
        unfold vF; rw [flat_congr fun j hj => by rw [rcAt_take (hlt i j hj)]]
      have e2 : ∀ MJ, vM (rs.take i) MJ (R.getD i []) = vM rs MJ (R.getD i []) := by
        intro MJ
        unfold vM; rw [flat_congr fun j hj => by rw [rcAt_take (hlt i j hj)]]
      rw [e1, e2] at g4
      exact ⟨g1, s, g3, g4⟩
    · intro i oi hi hreg ho j oj hoj hne hnp hno
      have := List.all_eq_true.1 c7 i (List.mem_range.2 (by omega))
      rw [hreg, hops ho] at this
      simp only [Bool.not_true, Bool.false_or, Bool.and_eq_true] at this
      have hjn := (Array.getElem?_eq_some_iff.1 hoj).1
      have := List.all_eq_true.1 this.2 j (List.mem_range.2 (by simpa using hjn))
      rw [hops hoj, Bool.or_eq_true, Bool.or_eq_true] at this
      rcases this with (h | h) | h
      · exact absurd (Nat.eq_of_beq_eq_true h) hne
      · exact absurd (inL_iff.1 h) hnp
      · rw [Bool.or_eq_true] at h
        rcases h with h | h
        · rw [List.any_eq_true] at h
          obtain ⟨e, he, hb⟩ := h
          rw [Bool.and_eq_true] at hb
          exact absurd (Nat.eq_of_beq_eq_true hb.2) (hno e (by simpa using he) hb.1)
        · simpa using h
    · intro i hi hreg
      have := List.all_eq_true.1 c7 i (List.mem_range.2 (by omega))
      have hin : i < ops.toList.length := by simp; omega
      rw [hreg, List.getElem?_eq_getElem hin] at this
      simp only [Bool.not_true, Bool.false_or, Bool.and_eq_true] at this
      simpa using this.1
    · intro i p hp
      have hi : i < m := by
        rcases Nat.lt_or_ge i m with h | h
        · exact h
        · rw [short i h] at hp; simp at hp
      have := kk i hi
      simp only [Bool.and_eq_true] at this
      have := List.all_eq_true.1 this.1.1 p hp
      rw [Bool.and_eq_true] at this
      rw [← dstEq]
      exact ⟨eqO_eq this.1, Nat.le_of_ble_eq_true this.2⟩
    · intro i x hx
      have hi : i < m := by
        rcases Nat.lt_or_ge i m with h | h
        · exact h
        · rw [short i h] at hx; simp at hx
      have := kk i hi
      simp only [Bool.and_eq_true] at this
      have := List.all_eq_true.1 this.1.2 x hx
      rw [Bool.and_eq_true, List.any_eq_true] at this
      obtain ⟨d1, g, hg, d2⟩ := this
      rw [← dstEq]
      exact ⟨eqO_eq d1, g, hg, by rw [← dstEq]; exact eqO_eq d2⟩
    · intro i j t hi hj e1 e2
      have get : ∀ {q}, q < m → dstOf ops q = some t → ∃ x, ((ops.toList.take m).map fun o => o.dst.toList)[q]? = some x ∧ t ∈ x := by
        intro q hq hd
        unfold dstOf at hd
        cases ho : ops[q]? with
        | none => rw [ho] at hd; cases hd
        | some o =>
          rw [ho] at hd
          have hd : o.dst = some t := hd
          exact ⟨o.dst.toList, by rw [List.getElem?_map, List.getElem?_take_of_lt hq, hops ho]; rfl, by rw [hd]; simp⟩
      obtain ⟨x, x1, x2⟩ := get hi e1
      obtain ⟨y, y1, y2⟩ := get hj e2
      exact flat_inj (nodupB_ok c3) x1 y1 x2 y2
    · intro i j k hi hj
      have get : ∀ {q}, q < m → (rs.map fun rc => rc.u.map (·.1))[q]? = some (keys rs q) := by
        intro q hq
        have : rs[q]? = some rs[q] := List.getElem?_eq_getElem (by omega)
        rw [List.getElem?_map, this]
        simp [keys, rcAt, List.getD_eq_getElem?_getD, this]
      exact flat_inj k1 (get (inM hi)) (get (inM hj)) hi hj
    · intro i k hk
      obtain ⟨p, hp, rfl⟩ := List.mem_map.1 hk
      have := kk i (inM hk)
      simp only [Bool.and_eq_true] at this
      have := List.all_eq_true.1 this.2 p hp
      simp only [Bool.and_eq_true, Bool.or_eq_true, Bool.not_eq_true'] at this
      rcases this.1.1 with h | ⟨⟨_, h⟩, h2⟩
      · exact .inl h
      · refine .inr ⟨h, ?_⟩
        obtain ⟨p', hp', hpe, hep⟩ := ent_mem hk
        obtain ⟨x, hx, hxe⟩ := List.mem_map.1 hk
        rw [hep]
        have := kk i (inM hk)
        simp only [Bool.and_eq_true] at this
        have := List.all_eq_true.1 this.2 p' hp'
        simp only [Bool.and_eq_true, Bool.or_eq_true, Bool.not_eq_true'] at this
        rw [← hpe] at h ⊢
        rcases this.1.1 with h' | ⟨_, h'⟩
        · rw [h] at h'; cases h'
        · exact wokB_ok h'
    · intro i k hk
      obtain ⟨p, hp, rfl, hep⟩ := ent_mem hk
      have := kk i (inM hk)
      simp only [Bool.and_eq_true] at this
      have := List.all_eq_true.1 this.2 p hp
      simp only [Bool.and_eq_true] at this
      rw [hep]
      exact ⟨Nat.eq_of_beq_eq_true this.1.2, Nat.eq_of_beq_eq_true this.2⟩
    · intro t
      rcases junk_look (ops.toList.take m) F t with e | ⟨e1, e2⟩
      · exact .inl e
      · refine .inr ⟨e1, fun i hi hdi => ?_⟩
        unfold dstOf at hdi
        cases ho : ops[i]? with
        | none => rw [ho] at hdi; cases hdi
        | some o =>
          rw [ho] at hdi
          exact e2 o (List.mem_of_getElem? (i := i) (by rw [List.getElem?_take_of_lt hi]; exact hops ho)) hdi
    · intro t ht
      rcases junk_look (ops.toList.take m) F t with e | ⟨e1, _⟩
      · exact e
      · rw [e1]; exact hfr.out t ht
  exact ⟨SS, hlt⟩
theorem draw_any (hS : Sound P Gl Γ) {sg : Bool} {ops : Array Oper} {Q : Exit → Act → World → Prop} {K : Fr → Mem → Nat → Prop} {S : List Nat} {nx : Nat}
    (hQp : ∀ d c a v w, Q (.panic c) (Act.put a d v) w → Q (.panic c) a w) (hQ : ∀ a' w', Done P Gl N S a w ω K a' w' → Q .normal a' w') (hd : ∀ o ∈ ops.toList, ∀ t, o.dst = some t → t ∈ S) (h : St P Gl N F M a w ω) (he : evDraw P sg Gl Γ N ops.toList K F M nx) : P.follows .mixedOrders = true ∧ wpAny P .any ops Q ops.size (Array.replicate ops.size false) a { w with drawn := w.drawn + 1 } := by
  unfold evDraw at he
  simp only [fNatLL_eq, fNat_eq] at he
  split at he
  rotate_left
  · exact he.elim
  next c1 c3 c4 c5 =>
  generalize hR : presL ops.toList [] = R at *
  generalize hm : lastBad ops.toList 0 R 0 = m at *
  have hmle : m ≤ ops.size := by simpa using Nat.le_of_ble_eq_true c4
  have hmj : MemOK w ω (junkM ((ops.toList.take m).filterMap (storeK Gl (dryF P sg Gl Γ N M (ops.toList.take m) F nx))) M) := junkM_ok _ h.mem
  generalize junkM ((ops.toList.take m).filterMap (storeK Gl (dryF P sg Gl Γ N M (ops.toList.take m) F nx))) M = MJ at *
  obtain ⟨rs, gs, ws, nx', h1, h2, h2g, h2w, h3⟩ := evRec_ok (ops.toList.take m) 0 [] [] [] nx rfl rfl rfl he
  simp only [List.nil_append, Nat.zero_add] at h1 h3
  split at h1
  rotate_left
  · exact h1.elim
  next c6 =>
  rw [Bool.and_eq_true, Bool.and_eq_true] at c6
  obtain ⟨⟨c6, c2⟩, c7⟩ := c6
  have hops : ∀ {i o}, ops[i]? = some o → ops.toList[i]? = some o := fun h => by rw [Array.getElem?_toList]; exact h
  obtain ⟨SS, hlt⟩ := draw_sta (Gl := Gl) (Γ := Γ) (sg := sg) (nx' := nx') hR hmle c1 c3 h.frame h2 h2g h2w h3 c6 c7
  have hT : ∀ i, m ≤ i → i < ops.size → ∀ j, j < i → j ∈ R.getD i [] ∨ (j < m ∧ gs.getD j false = true) := by
    intro i hmi hin j hj
    have := List.all_eq_true.1 c2 i (List.mem_range.2 (by simpa using hin))
    rw [Bool.or_eq_true] at this
    rcases this with h | h
    · have : i < m := Nat.le_of_ble_eq_true h
      omega
    · have h := List.all_eq_true.1 h j (List.mem_range.2 hj)
      rw [Bool.or_eq_true, Bool.and_eq_true] at h
      exact h.imp inL_iff.1 fun h => ⟨Nat.le_of_ble_eq_true h.1, h.2⟩
  refine ⟨c5, ?_⟩
  have hcw : Cw w { w with drawn := w.drawn + 1 } := ⟨rfl, rfl, rfl, Nat.le_refl _, fun _ _ => rfl⟩
  have hJ : St P Gl N F MJ a w ω := ⟨h.frame, h.globs, hmj, h.defers⟩
  have h' := hJ.step (Stp.more hmj hcw)
  have hm' := h'.mem
  refine any_ok (ω := ω) (a0 := a) (ω0 := ω) hS SS hT hm' h'.frame h'.globs hQp ?_ ops.size (Array.replicate ops.size false) a _ (by simp) ?_ ?_
  · intro a' w' ω' I
    obtain ⟨g1, g2, g3⟩ := I.all SS hm' h'.frame (E := List.range m) (fun j hj => List.mem_range.1 hj) (fun j hj k hk => List.mem_range.2 (by have := hlt j k hk; have := List.mem_range.1 hj; omega))
    have hext := I.ext0 SS hm' (List.range m)
    have hst : St P Gl N (vF rs (junkF (ops.toList.take m) F) (List.range m)) (vM rs MJ (List.range m)) a' w' (subω rs MJ ω' (List.range m)) := ⟨g2, fun g => Den.ext (o := ω.bare) hext.bare (h'.globs g), g1, I.defers⟩
    obtain ⟨F5, M5, hF5, hM5, h1⟩ := markH_spec h1
    refine evOps_ok hS hQ (ops.toList.drop m) _ _ nx' _ a' w' _ (fun o ho => hd o (List.mem_of_mem_drop ho)) (hst.congr hF5 hM5) g3 ((hcw.ext ω).trans hext) ⟨by rw [I.size, h.frame.size], fun i hi => ?_⟩ h1
    refine I.keep i fun j hj hdj => ?_
    unfold dstOf at hdj
    cases ho : ops[j]? with
    | none => rw [ho] at hdj; cases hdj
    | some o =>
      rw [ho] at hdj
      exact hi (hd o (List.mem_of_getElem? (hops ho)) i hdj)
  · unfold und
    exact Nat.le_trans (List.length_filter_le _ _) (by simp)
  · have no : ∀ j, ¬ (Array.replicate ops.size false).getD j false = true := fun j => by
      simp [Array.getD]
    exact ⟨fun j hj => absurd hj (no j), fun j hj => absurd hj (no j), ⟨rfl, rfl, rfl, Nat.le_refl _, fun _ _ _ => rfl⟩, fun j k _ _ L hL => (let ⟨_, _, _, _, c, T, h1, h2, _⟩ := hm'.row k none L hL; ⟨c, T, h1, h2⟩), fun _ h => h, hm'.lowA, fun _ _ h => h, rfl, hm'.dj, rfl, fun _ _ _ => rfl, fun k p L hL => hm'.own _ ⟨k, p, L, hL, rfl⟩, hm'.inj, h.defers, h.frame.size, fun _ _ => rfl, fun j hj => absurd hj (no j)⟩
theorem draw_anyB (hS : Sound P Gl Γ) {sg : Bool} {ops : Array Oper} {Q : Exit → Act → World → Prop} {K : Fr → Mem → Nat → Prop} {S : List Nat} {nx : Nat}
    (hQp : ∀ d c a v w, Q (.panic c) (Act.put a d v) w → Q (.panic c) a w) (hQ : ∀ a' w', Done P Gl N S a w ω K a' w' → Q .normal a' w') (hd : ∀ o ∈ ops.toList, ∀ t, o.dst = some t → t ∈ S) (h : St P Gl N F M a w ω) {m : Nat} (he : evDrawB P sg Gl Γ N ops.toList m K F M nx) : P.follows .mixedOrders = true ∧ wpAny P .any ops Q ops.size (Array.replicate ops.size false) a { w with drawn := w.drawn + 1 } := by
  unfold evDrawB at he
  simp only [fNatLL_eq] at he
  split at he
  rotate_left
  · exact he.elim
  next c1 c3 c4 c5 =>
  generalize hR : presL ops.toList [] = R at *
  have hmle : m ≤ ops.size := by simpa using Nat.le_of_ble_eq_true c4
  have hmj : MemOK w ω (junkM ((ops.toList.take m).filterMap (storeK Gl (dryF P sg Gl Γ N M (ops.toList.take m) F nx))) M) := junkM_ok _ h.mem
  generalize junkM ((ops.toList.take m).filterMap (storeK Gl (dryF P sg Gl Γ N M (ops.toList.take m) F nx))) M = MJ at *
  obtain ⟨rs, gs, ws, nx', h1, h2, h2g, h2w, h3⟩ := evRec_ok (ops.toList.take m) 0 [] [] [] nx rfl rfl rfl he
  simp only [List.nil_append, Nat.zero_add] at h1 h3
  split at h1
  rotate_left
  · exact h1.elim
  next p KQ oB c6 cq coB =>
  split at h1
  rotate_left
  · exact h1.elim
  next pr κ ck cn =>
  split at h1
  rotate_left
  · exact h1.elim
  next cκ =>
  obtain ⟨hp, hpr, h1⟩ := h1
  simp only [Bool.and_eq_true] at c6
  obtain ⟨⟨⟨c6, c2⟩, c7⟩, c8⟩ := c6
  have hops : ∀ {i o}, ops[i]? = some o → ops.toList[i]? = some o := fun h => by rw [Array.getElem?_toList]; exact h
  obtain ⟨SS, hlt⟩ := draw_sta (Gl := Gl) (Γ := Γ) (sg := sg) (nx' := nx') hR hmle c1 c3 h.frame h2 h2g h2w h3 c6 c7
  have hT : ∀ i, m < i → i < ops.size → ∀ j, j < i → j ∈ R.getD i [] := by
    intro i hmi hin j hj
    have := List.all_eq_true.1 c2 i (List.mem_range.2 (by simpa using hin))
    rw [Bool.or_eq_true] at this
    rcases this with h | h
    · have : i ≤ m := Nat.le_of_ble_eq_true h
      omega
    · exact inL_iff.1 (List.all_eq_true.1 h j (List.mem_range.2 hj))
  have coB' : ops[m]? = some oB := by rw [← Array.getElem?_toList]; exact coB
  unfold apQ at c8
  rw [coB] at c8
  simp only [Bool.and_eq_true] at c8
  have QQ : Qui P Gl N ops (fun i => R.getD i []) m rs (junkF (ops.toList.take m) F) MJ (fun i => gs.getD i false) KQ oB := by
    refine ⟨coB', fun j o hj ho hn hr => quietAll_ok cq hp j (List.mem_range.2 hj) o (hops ho) hn hr, ⟨_, pr, κ, cn, hpr, fun k hk hkq => ?_⟩, fun k hk => ?_, by simpa using c8.1, fun j o hj ho hn => ?_, fun j hj => hlt m j hj⟩
    · have := List.all_eq_true.1 cκ k hk
      rw [inL_iff.2 hkq] at this
      cases this
    · have := List.all_eq_true.1 ck k hk
      simp only [Bool.and_eq_true, Bool.not_eq_true'] at this
      refine ⟨this.1, fun j hkj => ?_⟩
      unfold keys at hkj
      have hjl : j < rs.length := by
        rcases Nat.lt_or_ge j rs.length with h | h
        · exact h
        · unfold rcAt at hkj
          rw [List.getD_eq_getElem?_getD, List.getElem?_eq_none h] at hkj
          simp at hkj
      have hmem : rcAt rs j ∈ rs := by
        unfold rcAt
        rw [List.getD_eq_getElem?_getD, List.getElem?_eq_getElem hjl]
        exact List.getElem_mem hjl
      have := List.all_eq_true.1 this.2 (rcAt rs j) hmem
      rw [inL_iff.2 hkj] at this
      cases this
    · have := List.all_eq_true.1 c8.2 j (List.mem_range.2 hj)
      rw [Bool.or_eq_true] at this
      rcases this with h | h
      · exact absurd (inL_iff.1 h) hn
      · rw [hops ho] at h
        simpa using h
  refine ⟨c5, ?_⟩
  have hcw : Cw w { w with drawn := w.drawn + 1 } := ⟨rfl, rfl, rfl, Nat.le_refl _, fun _ _ => rfl⟩
  have hJ : St P Gl N F MJ a w ω := ⟨h.frame, h.globs, hmj, h.defers⟩
  have h' := hJ.step (Stp.more hmj hcw)
  have hm' := h'.mem
  refine any_okB (ω := ω) (a0 := a) (ω0 := ω) hS SS hT hm' h'.frame h'.globs hQp QQ ?_ ops.size (Array.replicate ops.size false) a _ (by simp) ?_ ?_
  · intro a' w' ω' I
    obtain ⟨g1, g2, g3⟩ := I.all SS hm' h'.frame (E := List.range m) (fun j hj => List.mem_range.1 hj) (fun j hj k hk => List.mem_range.2 (by have := hlt j k hk; have := List.mem_range.1 hj; omega))
    have hext := I.ext0 SS hm' (List.range m)
    have hst : St P Gl N (vF rs (junkF (ops.toList.take m) F) (List.range m)) (vM rs MJ (List.range m)) a' w' (subω rs MJ ω' (List.range m)) := ⟨g2, fun g => Den.ext (o := ω.bare) hext.bare (h'.globs g), g1, I.defers⟩
    obtain ⟨F5, M5, hF5, hM5, h1⟩ := markH_spec h1
    refine evOps_ok hS hQ (ops.toList.drop m) _ _ nx' _ a' w' _ (fun o ho => hd o (List.mem_of_mem_drop ho)) (hst.congr hF5 hM5) g3 ((hcw.ext ω).trans hext) ⟨by rw [I.size, h.frame.size], fun i hi => ?_⟩ h1
    refine I.keep i fun j hj hdj => ?_
    unfold dstOf at hdj
    cases ho : ops[j]? with
    | none => rw [ho] at hdj; cases hdj
    | some o =>
      rw [ho] at hdj
      exact hi (hd o (List.mem_of_getElem? (hops ho)) i hdj)
  · unfold und
    exact Nat.le_trans (List.length_filter_le _ _) (by simp)
  · have no : ∀ j, ¬ (Array.replicate ops.size false).getD j false = true := fun j => by
      simp [Array.getD]
    exact ⟨fun j hj => absurd hj (no j), fun j hj => absurd hj (no j), ⟨rfl, rfl, rfl, Nat.le_refl _, fun _ _ _ => rfl⟩, fun j k _ _ L hL => (let ⟨_, _, _, _, c, T, h1, h2, _⟩ := hm'.row k none L hL; ⟨c, T, h1, h2⟩), fun _ h => h, hm'.lowA, fun _ _ h => h, rfl, hm'.dj, rfl, fun _ _ _ => rfl, fun k p L hL => hm'.own _ ⟨k, p, L, hL, rfl⟩, hm'.inj, h.defers, h.frame.size, fun _ _ => rfl, fun j hj => absurd hj (no j)⟩
def lastBadN (ops : List Oper) : Nat → List (List Nat) → Nat → Nat
  | _, [], m => m
  | i, p :: r, m => lastBadN ops (i + 1) r (match regAt ops i || Nat.beq p.length i || (List.range i).all fun j => inL p j || regAt ops j with | true => m | false => i + 1)
def movedL (ops : List Oper) (m : Nat) : Nat → List (List Nat) → List Nat → List Nat
  | _, [], acc => acc
  | i, p :: r, acc => movedL ops m (i + 1) r (match !Nat.blt i m && regAt ops i && !((List.range i).all fun j => inL p j || regAt ops j) && p.all (fun j => Nat.blt j m || inL acc j) with | true => acc ++ [i] | false => acc)
def isApp : Op → Bool
  | .call { callee := .builtin .append, args := _, argTypes := _ } => true
  | _ => false
def appBase : Op → Option Nat
  | .call { callee := .builtin .append, args := ⟨[.tmp t, _]⟩, argTypes := _ } => some t
  | _ => none
def isSlcV : SV → Bool
  | .slc _ _ _ _ _ => true
  | _ => false
def isLd : Op → Bool
  | .load _ _ => true
  | _ => false
def appAt (V : Fr) (ops : List Oper) (o : Oper) : Bool :=
  match appBase o.op with
  | some t =>
    (match ops.any fun p => isApp p.op && eqO p.dst t with
     | true => true
     | false => match ops.any fun p => isLd p.op && eqO p.dst t with
       | true => isSlcV (look V t)
       | false => false)
  | none => false
def findB (V : Fr) (ops : List Oper) (m : Nat) : Option Nat := (List.range m).find? fun i => match ops[i]? with | some o => appAt V ops o | none => false
def ordB (R : List (List Nat)) (n i : Nat) : List Nat × List Nat := ((List.range n).filter fun k => !Nat.beq k i && !inL (R.getD k []) i, (List.range n).filter fun k => inL (R.getD k []) i)
def evDrawP (P : Program) (sg : Bool) (Gl : Nat → SV) (Γ : Table) (N : Nat) (ops : List Oper) (K : Fr → Mem → Nat → Prop) (F : Fr) (M : Mem) (nx : Nat) : Prop :=
  fNatLL (presL ops []) fun R =>
  fNat (lastBadN ops 0 R 0) fun m =>
  match findB (dryF P sg Gl Γ N M (ops.take m) F nx) ops m with
  | some i =>
    fNatL ((ordB R ops.length i).1 ++ [i] ++ (ordB R ops.length i).2) fun ord =>
    match permB ord ops.length with
    | true => fNat (ordB R ops.length i).1.length fun mB => fOs (permL ord ops) fun ops' => evDrawB P sg Gl Γ N ops' mB K F M nx
    | false => False
  | none =>
  match movedL ops m 0 R [] with
  | [] => evDraw P sg Gl Γ N ops K F M nx
  | i :: r =>
    fNatL (List.range m ++ (i :: r) ++ ((List.range ops.length).filter fun k => !Nat.blt k m && !inL (i :: r) k)) fun ord =>
    match permB ord ops.length with
    | true => fOs (permL ord ops) fun ops' => evDraw P sg Gl Γ N ops' K F M nx
    | false => False
theorem draw_ok (hS : Sound P Gl Γ) {sg : Bool} {id : Nat} {ops : Array Oper} {Q : Exit → Act → World → Prop} {K : Fr → Mem → Nat → Prop} {S : List Nat} {nx : Nat}
    (hQp : ∀ d c a v w, Q (.panic c) (Act.put a d v) w → Q (.panic c) a w) (hQ : ∀ a' w', Done P Gl N S a w ω K a' w' → Q .normal a' w') (hd : ∀ o ∈ ops.toList, ∀ t, o.dst = some t → t ∈ S) (h : St P Gl N F M a w ω) (he : evDrawP P sg Gl Γ N ops.toList K F M nx) : (Code.region id ops true).wp P Q a w := by
  unfold evDrawP at he
  simp only [fNatLL_eq, fNat_eq, fNatL_eq, fOs_eq] at he
  split at he
  · next iB _ =>
    split at he
    · next hp =>
      have hp : permB ((ordB (presL ops.toList []) ops.toList.length iB).1 ++ [iB] ++ (ordB (presL ops.toList []) ops.toList.length iB).2) ops.size = true := by simpa using hp
      revert he hp
      generalize (ordB (presL ops.toList []) ops.toList.length iB).1.length = mB
      generalize ((ordB (presL ops.toList []) ops.toList.length iB).1 ++ [iB] ++ (ordB (presL ops.toList []) ops.toList.length iB).2) = ord
      intro he hp
      have hperm := permB_ok hp
      obtain ⟨h1, h2⟩ := draw_anyB (ops := (permL ord ops.toList).toArray) (m := mB) hS hQp hQ (fun o ho t ht => by
        obtain ⟨o0, ho0, e⟩ := perm_dst (by simpa using ho)
        exact hd o0 ho0 t (e ▸ ht)) h (by simpa using he)
      rw [perm_size hperm] at h2
      exact wp_region_any h1 (wpAny_perm hperm ops.size (ls0 hperm) h2)
    · exact he.elim
  split at he
  · obtain ⟨h1, h2⟩ := draw_any hS hQp hQ hd h he
    exact wp_region_any h1 h2
  · next i r hmv =>
    split at he
    · next hp =>
      have hp : permB (List.range (lastBadN ops.toList 0 (presL ops.toList []) 0) ++ (i :: r) ++ ((List.range ops.toList.length).filter fun k => !Nat.blt k (lastBadN ops.toList 0 (presL ops.toList []) 0) && !inL (i :: r) k)) ops.size = true := by simpa using hp
      revert he hp
      generalize (List.range (lastBadN ops.toList 0 (presL ops.toList []) 0) ++ (i :: r) ++ ((List.range ops.toList.length).filter fun k => !Nat.blt k (lastBadN ops.toList 0 (presL ops.toList []) 0) && !inL (i :: r) k)) = ord
      intro he hp
      have hperm := permB_ok hp
      obtain ⟨h1, h2⟩ := draw_any (ops := (permL ord ops.toList).toArray) hS hQp hQ (fun o ho t ht => by
        obtain ⟨o0, ho0, e⟩ := perm_dst (by simpa using ho)
        exact hd o0 ho0 t (e ▸ ht)) h (by simpa using he)
      rw [perm_size hperm] at h2
      exact wp_region_any h1 (wpAny_perm hperm ops.size (ls0 hperm) h2)
    · exact he.elim
end
end Go.Sy
