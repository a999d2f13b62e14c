/-
  Sy: regions that draw their order: evaluated.
-/
import Derived.Test.YtdjilaofmdhikaaGreatDoorYE
import Derived.Deep.LoopGhost
set_option linter.unusedVariables false
set_option linter.unusedSimpArgs false
set_option linter.unusedVariables false
set_option linter.unusedSimpArgs false
namespace Go.Sy
open Go.RowKit
/-! ### what is before an operation -/
def addAll : List Nat → List Nat → List Nat
  | [], acc => acc
  | x :: r, acc => match inL acc x with | true => addAll r acc | false => addAll r (x :: acc)
theorem mem_addAll : ∀ {l acc : List Nat} {x : Nat}, x ∈ addAll l acc ↔ x ∈ l ∨ x ∈ acc
  | [], acc, x => by simp [addAll]
  | y :: r, acc, x => by
    unfold addAll
    split
    · next h =>
      rw [mem_addAll]
      have := inL_iff.1 h
      simp only [List.mem_cons]
      constructor
      · rintro (h | h)
        · exact .inl (.inr h)
        · exact .inr h
      · rintro ((rfl | h) | h)
        · exact .inr this
        · exact .inl h
        · exact .inr h
    · rw [mem_addAll]
      simp only [List.mem_cons]
      constructor
      · rintro (h | rfl | h)
        · exact .inl (.inr h)
        · exact .inl (.inl rfl)
        · exact .inr h
      · rintro ((rfl | h) | h)
        · exact .inr (.inl rfl)
        · exact .inl h
        · exact .inr (.inr h)
def depsL (R : List (List Nat)) : List Edge → List Nat → List Nat
  | [], acc => acc
  | e :: r, acc => match Region.binds .any e with | true => depsL R r (addAll (e.on :: R.getD e.on []) acc) | false => depsL R r acc
theorem mem_depsL {R : List (List Nat)} : ∀ {es : List Edge} {acc : List Nat} {x : Nat}, x ∈ depsL R es acc ↔ x ∈ acc ∨ ∃ e ∈ es, Region.binds .any e = true ∧ (x = e.on ∨ x ∈ R.getD e.on [])
  | [], acc, x => by simp [depsL]
  | e :: r, acc, x => by
    unfold depsL
    split
    · next hb =>
      rw [mem_depsL, mem_addAll]
      simp only [List.mem_cons, exists_eq_or_imp]
      constructor
      · rintro ((h | h) | h)
        · exact .inr (.inl ⟨hb, h⟩)
        · exact .inl h
        · exact .inr (.inr h)
      · rintro (h | ⟨_, h⟩ | h)
        · exact .inl (.inr h)
        · exact .inl (.inl h)
        · exact .inr h
    · next hb =>
      rw [mem_depsL]
      simp only [List.mem_cons, exists_eq_or_imp]
      constructor
      · rintro (h | h)
        · exact .inl h
        · exact .inr (.inr h)
      · rintro (h | ⟨h, _⟩ | h)
        · exact .inl h
        · rw [hb] at h; cases h
        · exact .inr h
def presL : List Oper → List (List Nat) → List (List Nat)
  | [], acc => acc
  | o :: r, acc => presL r (acc ++ [depsL acc o.after.toList []])
theorem presL_spec : ∀ (l : List Oper) (acc : List (List Nat)), (∃ t, presL l acc = acc ++ t) ∧ ∀ k o, l[k]? = some o → (presL l acc)[acc.length + k]? = some (depsL ((presL l acc).take (acc.length + k)) o.after.toList [])
  | [], acc => ⟨⟨[], by simp [presL]⟩, fun k o h => by simp at h⟩
  | o :: r, acc => by
    obtain ⟨⟨t, ht⟩, h⟩ := presL_spec r (acc ++ [depsL acc o.after.toList []])
    have e : presL (o :: r) acc = presL r (acc ++ [depsL acc o.after.toList []]) := rfl
    refine ⟨⟨[depsL acc o.after.toList []] ++ t, by rw [e, ht]; simp⟩, fun k o' hk => ?_⟩
    cases k with
    | zero =>
      simp only [List.getElem?_cons_zero, Option.some.injEq] at hk
      subst hk
      rw [e, ht]
      simp
    | succ k =>
      have := h k o' (by simpa using hk)
      rw [e]
      simpa [Nat.add_assoc, Nat.add_comm 1 k] using this
def edgesB : Nat → List Oper → Bool
  | _, [] => true
  | i, o :: r => (o.after.toList.all fun e => !Region.binds .any e || Nat.blt e.on i) && edgesB (i + 1) r
theorem edgesB_spec : ∀ {l : List Oper} {i : Nat}, edgesB i l = true → ∀ k o, l[k]? = some o → ∀ e ∈ o.after, Region.binds .any e = true → e.on < i + k
  | [], _, _, k, o, h => by simp at h
  | x :: r, i, hb, k, o, h => by
    simp only [edgesB, Bool.and_eq_true] at hb
    intro e he hbe
    cases k with
    | zero =>
      simp only [List.getElem?_cons_zero, Option.some.injEq] at h
      subst h
      have := List.all_eq_true.1 hb.1 e (by simpa using he)
      rw [hbe] at this
      exact Nat.le_of_ble_eq_true this
    | succ k =>
      have := edgesB_spec hb.2 k o (by simpa using h) e he hbe
      omega
def regSyn (o : Oper) : Bool :=
  match o.guard, o.op with
  | none, .extract _ _ => true
  | none, .binOp _ _ _ _ _ => true
  | none, .unOp _ _ _ => true
  | none, .convert _ _ _ => true
  | none, .move _ => true
  | none, .fieldAddr _ _ _ => true
  | _, _ => false
def regAt (ops : List Oper) (j : Nat) : Bool := match ops[j]? with | some o => regSyn o | none => false
def lastBad (ops : List Oper) : Nat → List (List Nat) → Nat → Nat
  | _, [], m => m
  | i, p :: r, m => lastBad ops (i + 1) r (match Nat.beq p.length i || (List.range i).all fun j => inL p j || (regAt ops j && Nat.blt j m) with | true => m | false => i + 1)
def tailB (R : List (List Nat)) (m n : Nat) (gs : List Bool) : Bool := (List.range n).all fun i => Nat.blt i m || (List.range i).all fun j => inL (R.getD i []) j || (Nat.blt j m && gs.getD j false)
def apartB (ops : List Oper) (R : List (List Nat)) (gs : List Bool) : Bool :=
  (List.range gs.length).all fun i => !(gs.getD i false) ||
    (match ops[i]? with
     | some oi => Region.noSelect ops.toArray && (List.range ops.length).all fun j => Nat.beq j i || inL (R.getD i []) j || (match ops[j]? with | some oj => (oj.after.toList.any fun e => Region.binds .any e && Nat.beq e.on i) || oi.apart ops.toArray oj | none => true)
     | none => true)
def regTry (P : Program) (sg : Bool) (N : Nat) (V : Fr) (m : Nat → Ent) (o : Oper) : Option (Prop × Rc) :=
  match regSyn o, evR P sg V m o.op with
  | true, .ok s => some (True, ⟨ent1 N o.dst s, [], []⟩)
  | true, .asm _ s => some (True, ⟨ent1 N o.dst s, [], []⟩)
  | true, .req p s => some (p, ⟨ent1 N o.dst s, [], []⟩)
  | _, _ => none
theorem regTry_ok {P : Program} {sg : Bool} {N : Nat} {V : Fr} {m : Nat → Ent} {o : Oper} {p : Prop} {rc : Rc} (h : regTry P sg N V m o = some (p, rc)) (hp : p) : o.guard = none ∧ ∃ s, rc = ⟨ent1 N o.dst s, [], []⟩ ∧ (evR P sg V m o.op).run (fun s' => s' = s) := by
  have hg : ∀ {b}, regSyn o = b → b = true → o.guard = none := by
    intro b h hb
    subst hb
    unfold regSyn at h
    split at h <;> first | assumption | cases h
  unfold regTry at h
  split at h
  · next s h1 h2 =>
    simp only [Option.some.injEq, Prod.mk.injEq] at h
    exact ⟨hg h1 rfl, s, h.2.symm, by rw [h2]; exact rfl⟩
  · next s h1 h2 =>
    simp only [Option.some.injEq, Prod.mk.injEq] at h
    exact ⟨hg h1 rfl, s, h.2.symm, by rw [h2]; exact fun _ => rfl⟩
  · next s h1 h2 =>
    simp only [Option.some.injEq, Prod.mk.injEq] at h
    exact ⟨hg h1 rfl, s, h.2.symm, by rw [h2]; exact ⟨by rw [h.1]; exact hp, rfl⟩⟩
  · cases h
/-! ### all operations, one behind the other -/
def dryF (P : Program) (sg : Bool) (Gl : Nat → SV) (Γ : Table) (N : Nat) (M : Mem) : List Oper → Fr → Nat → Fr
  | [], F, _ => F
  | o :: r, F, nx =>
    match evO2 P sg Gl Γ F M nx [] [] o.op with
    | .ok s => dryF P sg Gl Γ N M r (putF N F o.dst s) nx
    | .asm _ s => dryF P sg Gl Γ N M r (putF N F o.dst s) nx
    | .req _ s => dryF P sg Gl Γ N M r (putF N F o.dst s) nx
    | .mem _ s _ => dryF P sg Gl Γ N M r (putF N F o.dst s) nx
    | .any _ _ => dryF P sg Gl Γ N M r (putF N F o.dst .junk) nx
    | .bad => dryF P sg Gl Γ N M r (putF N F o.dst .junk) nx
def storeK (Gl : Nat → SV) (F : Fr) (o : Oper) : Option Nat :=
  match o.op with
  | .store _ x _ => (match opnd Gl F x with | .ptr k _ none _ _ => some k | _ => none)
  | _ => none
def junkM : List Nat → Mem → Mem
  | [], M => M
  | k :: r, M =>
    match (ent M k).hl, (ent M k).b with
    | none, .cells l => (match l.all fun s => !isIl s with | true => junkM r ((k, { ent M k with b := .cells (junkL l.length) }) :: M) | false => junkM r M)
    | _, _ => junkM r M
def isJk : SV → Bool
  | .junk => true
  | _ => false
def wokB (e f : Ent) : Bool :=
  match e.hl, e.b, f.hl, f.b with
  | none, .cells l, none, .cells l' => Nat.beq e.rs f.rs && Nat.beq e.ds f.ds && l.all isJk && Nat.beq l'.length l.length
  | _, _, _, _ => false
def evRec (P : Program) (sg : Bool) (Gl : Nat → SV) (Γ : Table) (N : Nat) (ops : List Oper) (R : List (List Nat)) (F0 : Fr) (M : Mem) : List Oper → Nat → List Rc → List Bool → List Bool → Nat → (List Rc → List Bool → List Bool → Nat → Prop) → Prop
  | [], _, rs, gs, ws, nx, K => K rs gs ws nx
  | o :: r, i, rs, gs, ws, nx, K =>
    match regTry P sg N (vF rs F0 (R.getD i [])) (ent (vM rs M (R.getD i []))) o with
    | some (p, rc) => p ∧ fRcs (rs ++ [rc]) fun rs' => evRec P sg Gl Γ N ops R F0 M r (i + 1) rs' (gs ++ [true]) (ws ++ [false]) nx K
    | none =>
      match evalQ P sg Gl Γ N ops (vF rs F0 (R.getD i [])) (vM rs M (R.getD i [])) (vH rs (R.getD i [])) nx (R.getD i []) o with
      | some (p, rc) => p ∧ fRcs (rs ++ [rc]) fun rs' => fNat (nx + 64) fun nx' => evRec P sg Gl Γ N ops R F0 M r (i + 1) rs' (gs ++ [false]) (ws ++ [false]) nx' K
      | none =>
        match evalW P Gl N ops (vF rs F0 (R.getD i [])) (vM rs M (R.getD i [])) (vH rs (R.getD i [])) o with
        | some (k, u) => (match freeB (ent M) k with | false => fRcs (rs ++ [⟨[], [], u⟩]) fun rs' => evRec P sg Gl Γ N ops R F0 M r (i + 1) rs' (gs ++ [false]) (ws ++ [true]) nx K | true => False)
        | none => False
def eqO : Option Nat → Nat → Bool
  | some x, y => Nat.beq x y
  | none, _ => false
def dstL (ops : List Oper) (i : Nat) : Option Nat := match ops[i]? with | some o => o.dst | none => none
def rcsB (N : Nat) (ops : List Oper) (R : List (List Nat)) (M : Mem) (rs : List Rc) (ws : List Bool) : Bool :=
  nodupB (rs.map fun rc => rc.u.map (·.1)).flatten &&
  ((List.range rs.length).all fun i =>
    ((rcAt rs i).fs.all fun p => eqO (dstL ops i) p.1 && Nat.blt p.1 N) &&
    ((rcAt rs i).hs.all fun h => eqO (dstL ops i) h.slot && (R.getD i []).any fun g => eqO (dstL ops g) h.d) &&
    ((rcAt rs i).u.all fun p => (freeB (ent M) p.1 || (ws.getD i false && !freeB (ent M) p.1 && wokB (ent M p.1) p.2)) && Nat.beq p.2.rs (ent M p.1).rs && Nat.beq p.2.ds (ent M p.1).ds))
def junkF (l : List Oper) (F : Fr) : Fr := (l.filterMap (·.dst)).map (fun t => (t, SV.junk)) ++ F
def evDraw (P : Program) (sg : Bool) (Gl : Nat → SV) (Γ : Table) (N : Nat) (ops : List Oper) (K : Fr → Mem → Nat → Prop) (F : Fr) (M : Mem) (nx : Nat) : Prop :=
  fNatLL (presL ops []) fun R =>
  fNat (lastBad ops 0 R 0) fun m =>
  match edgesB 0 ops, nodupB ((ops.take m).map fun o => o.dst.toList).flatten, Nat.ble m ops.length, P.follows .mixedOrders with
  | true, true, true, true =>
    let MJ := junkM ((ops.take m).filterMap (storeK Gl (dryF P sg Gl Γ N M (ops.take m) F nx))) M
    evRec P sg Gl Γ N ops R (junkF (ops.take m) F) MJ (ops.take m) 0 [] [] [] nx fun rs gs ws nx' =>
      match rcsB N ops R MJ rs ws && tailB R m ops.length gs && apartB ops R gs with
      | true => markH (vF rs (junkF (ops.take m) F) (List.range m)) (vM rs MJ (List.range m)) nx' (vH rs (List.range m)) fun F M nx H => evOps P sg Gl Γ N ops K (ops.drop m) F M nx H
      | false => False
  | _, _, _, _ => False
section
variable {P : Program} {w : World} {ω : Ow} {Gl : Nat → SV} {Γ : Table} {N : Nat} {F : Fr} {M : Mem} {a : Act}
def RecOK (P : Program) (sg : Bool) (Gl : Nat → SV) (Γ : Table) (N : Nat) (M : Mem) (ops : List Oper) (R : List (List Nat)) (F0 : Fr) (K : List Rc → List Bool → List Bool → Nat → Prop) (r : List Oper) (i : Nat) (rs : List Rc) (gs ws : List Bool) : Prop :=
    ∃ t tg tw nx', K (rs ++ t) (gs ++ tg) (ws ++ tw) nx' ∧ t.length = r.length ∧ tg.length = r.length ∧ tw.length = r.length ∧ ∀ k o, r[k]? = some o →
      ((gs ++ tg).getD (i + k) false = true → (ws ++ tw).getD (i + k) false = false ∧ o.guard = none ∧ ∃ s, rcAt (rs ++ t) (i + k) = ⟨ent1 N o.dst s, [], []⟩ ∧ (evR P sg (vF ((rs ++ t).take (i + k)) F0 (R.getD (i + k) [])) (ent (vM ((rs ++ t).take (i + k)) M (R.getD (i + k) []))) o.op).run (fun s' => s' = s)) ∧
      ((gs ++ tg).getD (i + k) false = false → (ws ++ tw).getD (i + k) false = false → ∃ nx p, evalQ P sg Gl Γ N ops (vF ((rs ++ t).take (i + k)) F0 (R.getD (i + k) [])) (vM ((rs ++ t).take (i + k)) M (R.getD (i + k) [])) (vH ((rs ++ t).take (i + k)) (R.getD (i + k) [])) nx (R.getD (i + k) []) o = some (p, rcAt (rs ++ t) (i + k)) ∧ p) ∧
      ((ws ++ tw).getD (i + k) false = true → ∃ q u, evalW P Gl N ops (vF ((rs ++ t).take (i + k)) F0 (R.getD (i + k) [])) (vM ((rs ++ t).take (i + k)) M (R.getD (i + k) [])) (vH ((rs ++ t).take (i + k)) (R.getD (i + k) [])) o = some (q, u) ∧ rcAt (rs ++ t) (i + k) = ⟨[], [], u⟩ ∧ freeB (ent M) q = false)
theorem evRec_ok {sg : Bool} {ops : List Oper} {R : List (List Nat)} {F0 : Fr} {K : List Rc → List Bool → List Bool → Nat → Prop} : ∀ (r : List Oper) (i : Nat) (rs : List Rc) (gs ws : List Bool) (nx : Nat), rs.length = i → gs.length = i → ws.length = i → evRec P sg Gl Γ N ops R F0 M r i rs gs ws nx K →
    RecOK P sg Gl Γ N M ops R F0 K r i rs gs ws
  | [], i, rs, gs, ws, nx, hl, hg, hw, h => ⟨[], [], [], nx, by rw [List.append_nil, List.append_nil, List.append_nil]; exact h, rfl, rfl, rfl, fun k o hk => by simp at hk⟩
  | o :: r, i, rs, gs, ws, nx, hl, hg, hw, h => by
    have e1 : ∀ {rc : Rc} {t : List Rc}, (rs ++ rc :: t).take (i + 0) = rs := by intro rc t; rw [Nat.add_zero, ← hl, List.take_left]
    have e2 : ∀ {rc : Rc} {t : List Rc}, rcAt (rs ++ rc :: t) (i + 0) = rc := by intro rc t; simp [rcAt, List.getD_eq_getElem?_getD, ← hl]
    have e3 : ∀ {b : Bool} {t : List Bool}, (gs ++ b :: t).getD (i + 0) false = b := by intro b t; simp [List.getD_eq_getElem?_getD, ← hg]
    have e4 : ∀ {b : Bool} {t : List Bool}, (ws ++ b :: t).getD (i + 0) false = b := by intro b t; simp [List.getD_eq_getElem?_getD, ← hw]
    have go : ∀ {rc : Rc} {bg bw : Bool} {nx1 : Nat}, evRec P sg Gl Γ N ops R F0 M r (i + 1) (rs ++ [rc]) (gs ++ [bg]) (ws ++ [bw]) nx1 K →
        ((bg = true → bw = false ∧ o.guard = none ∧ ∃ s, rc = ⟨ent1 N o.dst s, [], []⟩ ∧ (evR P sg (vF rs F0 (R.getD (i + 0) [])) (ent (vM rs M (R.getD (i + 0) []))) o.op).run (fun s' => s' = s)) ∧
          (bg = false → bw = false → ∃ nx p, evalQ P sg Gl Γ N ops (vF rs F0 (R.getD (i + 0) [])) (vM rs M (R.getD (i + 0) [])) (vH rs (R.getD (i + 0) [])) nx (R.getD (i + 0) []) o = some (p, rc) ∧ p) ∧
          (bw = true → ∃ q u, evalW P Gl N ops (vF rs F0 (R.getD (i + 0) [])) (vM rs M (R.getD (i + 0) [])) (vH rs (R.getD (i + 0) [])) o = some (q, u) ∧ rc = ⟨[], [], u⟩ ∧ freeB (ent M) q = false)) →
        RecOK P sg Gl Γ N M ops R F0 K (o :: r) i rs gs ws := by
      intro rc bg bw nx1 h hz
      obtain ⟨t, tg, tw, nx', h1, h2, h2', h2'', h3⟩ := evRec_ok r (i + 1) (rs ++ [rc]) (gs ++ [bg]) (ws ++ [bw]) nx1 (by simp [hl]) (by simp [hg]) (by simp [hw]) h
      have e : rs ++ rc :: t = rs ++ [rc] ++ t := by simp
      have eg : gs ++ bg :: tg = gs ++ [bg] ++ tg := by simp
      have ew : ws ++ bw :: tw = ws ++ [bw] ++ tw := by simp
      refine ⟨rc :: t, bg :: tg, bw :: tw, nx', by rw [e, eg, ew]; exact h1, by simp [h2], by simp [h2'], by simp [h2''], fun k o' hk => ?_⟩
      cases k with
      | zero =>
        simp only [List.getElem?_cons_zero, Option.some.injEq] at hk
        subst hk
        rw [e1, e2, e3, e4]
        exact hz
      | succ k =>
        have := h3 k o' (by simpa using hk)
        rw [show i + (k + 1) = i + 1 + k by omega, e, eg, ew]
        exact this
    unfold evRec at h
    simp only [fRcs_eq, fNat_eq] at h
    split at h
    · next p rc he =>
      obtain ⟨hp, h⟩ := h
      obtain ⟨g1, s, g3, g4⟩ := regTry_ok he hp
      exact go h ⟨fun _ => ⟨rfl, g1, s, g3, g4⟩, fun h => (by cases h), fun h => (by cases h)⟩
    · next hno =>
      split at h
      · next p rc he =>
        obtain ⟨hp, h⟩ := h
        exact go h ⟨fun h => (by cases h), fun _ _ => ⟨nx, p, he, hp⟩, fun h => (by cases h)⟩
      · split at h
        · next k u he =>
          split at h
          · next hf => exact go h ⟨fun h => (by cases h), fun _ h => (by cases h), fun _ => ⟨k, u, he, rfl, hf⟩⟩
          · exact h.elim
        · exact h.elim
theorem evalW_dst {ops : List Oper} {V : Fr} {M : Mem} {H : List Hd} {o : Oper} {k : Nat} {u : Upd} (h : evalW P Gl N ops V M H o = some (k, u)) : o.dst = none := by
  unfold evalW at h
  split at h
  · next h1 _ _ => exact h1
  · cases h
theorem junkM_ok : ∀ (l : List Nat) {M : Mem}, MemOK w ω M → MemOK w ω (junkM l M)
  | [], _, hm => hm
  | k :: r, M, hm => by
    unfold junkM
    split
    · next l hh hb =>
      split
      · next hal =>
        refine junkM_ok r ?_
        refine hm.retell rfl hb (by simp [junkL]) (fun L hL c T hc j hj x hx hd => ⟨by rw [junkL_at]; rfl, by rw [junkL_at]; trivial⟩) (fun j => all_notIl hal j)
      · exact junkM_ok r hm
    · exact junkM_ok r hm
theorem isJk_all : ∀ {l : List SV}, l.all isJk = true → l = junkL l.length
  | [], _ => rfl
  | s :: r, h => by
    simp only [List.all_cons, Bool.and_eq_true] at h
    have := isJk_all h.2
    cases s <;> first | (cases h.1; done) | skip
    show _ = SV.junk :: junkL r.length
    rw [← this]
theorem wokB_ok {k : Nat} {e : Ent} (h : wokB (ent M k) e = true) : WOK M e k := by
  unfold wokB at h
  split at h
  · next l l' h1 h2 h3 h4 =>
    simp only [Bool.and_eq_true] at h
    obtain ⟨⟨⟨g1, g2⟩, g3⟩, g4⟩ := h
    have g1 := Nat.eq_of_beq_eq_true g1
    have g2 := Nat.eq_of_beq_eq_true g2
    have g4 := Nat.eq_of_beq_eq_true g4
    refine ⟨(ent M k).rs, (ent M k).ds, l.length, l', ?_, g4, ?_⟩
    · rw [← isJk_all g3]
      generalize ent M k = e0 at *
      cases e0; simp_all
    · cases e; simp_all
  · cases h
theorem rcAt_take {rs : List Rc} {i j : Nat} (h : j < i) : rcAt (rs.take i) j = rcAt rs j := by
  unfold rcAt
  rw [List.getD_eq_getElem?_getD, List.getD_eq_getElem?_getD, List.getElem?_take_of_lt h]
theorem flat_congr {α : Type} {f g : Nat → List α} : ∀ {E : List Nat}, (∀ j ∈ E, f j = g j) → E.flatMap f = E.flatMap g
  | [], _ => rfl
  | j :: E, h => by rw [List.flatMap_cons, List.flatMap_cons, h j (by simp), flat_congr fun i hi => h i (by simp [hi])]
theorem flat_inj : ∀ {l : List (List Nat)}, l.flatten.Nodup → ∀ {i j k : Nat} {x y : List Nat}, l[i]? = some x → l[j]? = some y → k ∈ x → k ∈ y → i = j
  | [], _, i, j, k, x, y, h, _, _, _ => by simp at h
  | z :: l, hn, i, j, k, x, y, hi, hj, hx, hy => by
    rw [List.flatten_cons, List.nodup_append] at hn
    have mem : ∀ {q : Nat} {v : List Nat}, l[q]? = some v → k ∈ v → k ∈ l.flatten := fun hq hv => List.mem_flatten.2 ⟨_, List.mem_of_getElem? hq, hv⟩
    cases i with
    | zero =>
      cases j with
      | zero => rfl
      | succ j =>
        simp at hi hj; subst hi
        exact absurd rfl (hn.2.2 k hx k (mem hj hy))
    | succ i =>
      cases j with
      | zero =>
        simp at hi hj; subst hj
        exact absurd rfl (hn.2.2 k hy k (mem hi hx))
      | succ j => exact congrArg (· + 1) (flat_inj hn.2.1 (i := i) (j := j) (by simpa using hi) (by simpa using hj) hx hy)
theorem eqO_eq {x : Option Nat} {y : Nat} (h : eqO x y = true) : x = some y := by
  cases x with
  | none => cases h
  | some z => rw [Nat.eq_of_beq_eq_true h]
theorem ent_mem {k : Nat} : ∀ {u : Upd}, k ∈ u.map (·.1) → ∃ p ∈ u, p.1 = k ∧ ent u k = p.2
  | [], h => by simp at h
  | p :: r, h => by
    obtain ⟨p1, p2⟩ := p
    by_cases hk : p1 = k
    · subst hk; exact ⟨(p1, p2), List.mem_cons_self, rfl, ent_eq⟩
    · simp only [List.map_cons, List.mem_cons] at h
      obtain ⟨q, h1, h2, h3⟩ := ent_mem (h.resolve_left fun e => hk e.symm)
      exact ⟨q, by simp [h1], h2, by rw [ent_ne hk]; exact h3⟩
theorem junk_look : ∀ (l : List Oper) (F : Fr) (t : Nat), look (junkF l F) t = .junk ∨ (look (junkF l F) t = look F t ∧ ∀ o ∈ l, o.dst ≠ some t)
  | [], F, t => .inr ⟨rfl, fun o ho => by simp at ho⟩
  | o :: l, F, t => by
    cases hd : o.dst with
    | none =>
      have e : junkF (o :: l) F = junkF l F := by simp [junkF, hd]
      rw [e]
      rcases junk_look l F t with h | ⟨h1, h2⟩
      · exact .inl h
      · refine .inr ⟨h1, fun o' ho' => ?_⟩
        rcases List.mem_cons.1 ho' with rfl | ho'
        · rw [hd]; simp
        · exact h2 o' ho'
    | some x =>
      have e : junkF (o :: l) F = (x, .junk) :: junkF l F := by simp [junkF, hd]
      rw [e]
      by_cases hx : x = t
      · subst hx; exact .inl look_eq
      · rw [look_ne hx]
        rcases junk_look l F t with h | ⟨h1, h2⟩
        · exact .inl h
        · refine .inr ⟨h1, fun o' ho' => ?_⟩
          rcases List.mem_cons.1 ho' with rfl | ho'
          · rw [hd]; simpa using hx
          · exact h2 o' ho'
theorem draw_any (hS : Sound P Gl Γ) {sg : Bool} {ops : Array Oper} {Q : Exit → Act → World → Prop} {K : Fr → Mem → Nat → Prop} {S : List Nat} {nx : Nat}
    (hQp : ∀ d c a v w, Q (.panic c) (Act.put a d v) w → Q (.panic c) a w) (hQ : ∀ a' w', Done P Gl N S a w ω K a' w' → Q .normal a' w') (hd : ∀ o ∈ ops.toList, ∀ t, o.dst = some t → t ∈ S) (h : St P Gl N F M a w ω) (he : evDraw P sg Gl Γ N ops.toList K F M nx) : P.follows .mixedOrders = true ∧ wpAny P .any ops Q ops.size (Array.replicate ops.size false) a { w with drawn := w.drawn + 1 } := by
  unfold evDraw at he
  simp only [fNatLL_eq, fNat_eq] at he
  split at he
  rotate_left
  · exact he.elim
  next c1 c3 c4 c5 =>
  generalize hR : presL ops.toList [] = R at *
  generalize hm : lastBad ops.toList 0 R 0 = m at *
  have hmle : m ≤ ops.size := by simpa using Nat.le_of_ble_eq_true c4
  have hmj : MemOK w ω (junkM ((ops.toList.take m).filterMap (storeK Gl (dryF P sg Gl Γ N M (ops.toList.take m) F nx))) M) := junkM_ok _ h.mem
  generalize junkM ((ops.toList.take m).filterMap (storeK Gl (dryF P sg Gl Γ N M (ops.toList.take m) F nx))) M = MJ at *
  obtain ⟨rs, gs, ws, nx', h1, h2, h2g, h2w, h3⟩ := evRec_ok (ops.toList.take m) 0 [] [] [] nx rfl rfl rfl he
  simp only [List.nil_append, Nat.zero_add] at h1 h3
  have hlen : rs.length = m := by rw [h2, List.length_take]; simp; omega
  split at h1
  rotate_left
  · exact h1.elim
  next c6 =>
  have hpres := (presL_spec ops.toList []).2
  rw [hR] at hpres
  simp only [List.length_nil, Nat.zero_add] at hpres
  have hops : ∀ {i o}, ops[i]? = some o → ops.toList[i]? = some o := fun h => by rw [Array.getElem?_toList]; exact h
  have getR : ∀ {i o}, ops[i]? = some o → R.getD i [] = depsL (R.take i) o.after.toList [] := fun h => by
    rw [List.getD_eq_getElem?_getD, hpres _ _ (hops h)]; rfl
  have hdlt : ∀ i o, ops[i]? = some o → ∀ e ∈ o.after, Region.binds .any e = true → e.on < i := fun i o ho e he hb => by
    have := edgesB_spec c1 i o (hops ho) e he hb
    omega
  have hdep : ∀ i o, ops[i]? = some o → ∀ x ∈ R.getD i [], ∃ e ∈ o.after, Region.binds .any e = true ∧ (x = e.on ∨ x ∈ R.getD e.on []) := by
    intro i o ho x hx
    rw [getR ho, mem_depsL] at hx
    rcases hx with hx | ⟨e, he, hb, hx⟩
    · simp at hx
    · refine ⟨e, by simpa using he, hb, hx.imp (fun h => h) fun hx => ?_⟩
      have hlt := hdlt i o ho e (by simpa using he) hb
      rwa [List.getD_eq_getElem?_getD, List.getElem?_take_of_lt hlt, ← List.getD_eq_getElem?_getD] at hx
  have hlong : ∀ {i j}, j ∈ R.getD i [] → ∃ o, ops[i]? = some o := by
    intro i j hj
    rcases Nat.lt_or_ge i ops.size with hi | hi
    · exact ⟨_, Array.getElem?_eq_getElem hi⟩
    · exfalso
      have hRl : R.length ≤ ops.size := by
        have : ∀ (l : List Oper) (acc : List (List Nat)), (presL l acc).length = acc.length + l.length := by
          intro l
          induction l with
          | nil => intro acc; simp [presL]
          | cons o r ih => intro acc; simp only [presL, ih]; simp; omega
        rw [← hR, this]; simp
      rw [List.getD_eq_getElem?_getD, List.getElem?_eq_none (by omega)] at hj
      simp at hj
  have hlt : ∀ i j, j ∈ R.getD i [] → j < i := by
    intro i
    induction i using Nat.strongRecOn with
    | ind i ih =>
      intro j hj
      obtain ⟨o, ho⟩ := hlong hj
      obtain ⟨e, he, hb, hx⟩ := hdep i o ho j hj
      have := hdlt i o ho e he hb
      rcases hx with rfl | hx
      · exact this
      · have := ih e.on this j hx; omega
  have hsub : ∀ {i o e}, ops[i]? = some o → e ∈ o.after → Region.binds .any e = true → e.on ∈ R.getD i [] ∧ ∀ x ∈ R.getD e.on [], x ∈ R.getD i [] := by
    intro i o e ho he hb
    have hlt' := hdlt i o ho e he hb
    rw [getR ho]
    refine ⟨mem_depsL.2 (.inr ⟨e, by simpa using he, hb, .inl rfl⟩), fun x hx => mem_depsL.2 (.inr ⟨e, by simpa using he, hb, .inr ?_⟩)⟩
    rwa [List.getD_eq_getElem?_getD, List.getElem?_take_of_lt hlt', ← List.getD_eq_getElem?_getD]
  have hcl : ∀ i j, j ∈ R.getD i [] → ∀ k ∈ R.getD j [], k ∈ R.getD i [] := by
    intro i
    induction i using Nat.strongRecOn with
    | ind i ih =>
      intro j hj k hk
      obtain ⟨o, ho⟩ := hlong hj
      obtain ⟨e, he, hb, hx⟩ := hdep i o ho j hj
      rcases hx with rfl | hx
      · exact (hsub ho he hb).2 k hk
      · exact (hsub ho he hb).2 k (ih e.on (hdlt i o ho e he hb) j hx k hk)
  rw [Bool.and_eq_true, Bool.and_eq_true] at c6
  obtain ⟨⟨c6, c2⟩, c7⟩ := c6
  have hglen : gs.length = m := by rw [h2g, List.length_take]; simp; omega
  simp only [rcsB, Bool.and_eq_true] at c6
  obtain ⟨k1, k2⟩ := c6
  have k1 := nodupB_ok k1
  have kk : ∀ i, i < m → _ := fun i hi => List.all_eq_true.1 k2 i (List.mem_range.2 (by rw [hlen]; exact hi))
  have short : ∀ i, m ≤ i → rcAt rs i = ⟨[], [], []⟩ := fun i hi => by
    unfold rcAt
    rw [List.getD_eq_getElem?_getD, List.getElem?_eq_none (by omega)]; rfl
  have inM : ∀ {i k}, k ∈ keys rs i → i < m := fun {i k} hk => by
    rcases Nat.lt_or_ge i m with h | h
    · exact h
    · unfold keys at hk; rw [short i h] at hk; simp at hk
  have dstEq : ∀ i, dstL ops.toList i = dstOf ops i := fun i => by
    unfold dstL dstOf
    rw [Array.getElem?_toList]
    cases ops[i]? <;> rfl
  have SS : Sta P sg Gl Γ N ops (fun i => R.getD i []) m rs F (junkF (ops.toList.take m) F) MJ (fun i => gs.getD i false) (fun i => ws.getD i false) := by
    refine ⟨hdep, hcl, hlt, hdlt, ?_, hmle, ?_, ?_, ?_, ?_, ?_, ?_, ?_, ?_, ?_, ?_, ?_, ?_, short, ?_, ?_⟩
    · intro i hmi hin j hj
      have := List.all_eq_true.1 c2 i (List.mem_range.2 (by simpa using hin))
      rw [Bool.or_eq_true] at this
      rcases this with h | h
      · have : i < m := Nat.le_of_ble_eq_true h
        omega
      · have h := List.all_eq_true.1 h j (List.mem_range.2 hj)
        rw [Bool.or_eq_true, Bool.and_eq_true] at h
        exact h.imp inL_iff.1 fun h => ⟨Nat.le_of_ble_eq_true h.1, h.2⟩
    · intro i o hi ho hreg hwr
      obtain ⟨nx1, p, g1, g2⟩ := (h3 i o (by rw [List.getElem?_take_of_lt hi]; exact hops ho)).2.1 hreg hwr
      refine ⟨nx1, p, ?_, g2⟩
      have e1 : vF (rs.take i) (junkF (ops.toList.take m) F) (R.getD i []) = vF rs (junkF (ops.toList.take m) F) (R.getD i []) := by
        unfold vF; rw [flat_congr fun j hj => by rw [rcAt_take (hlt i j hj)]]
      have e2 : vM (rs.take i) MJ (R.getD i []) = vM rs MJ (R.getD i []) := by
        unfold vM; rw [flat_congr fun j hj => by rw [rcAt_take (hlt i j hj)]]
      have e3 : vH (rs.take i) (R.getD i []) = vH rs (R.getD i []) := by
        unfold vH; rw [flat_congr fun j hj => by rw [rcAt_take (hlt i j hj)]]
      rw [e1, e2, e3] at g1
      exact g1
    · intro i o hi ho hreg hwr
      obtain ⟨q, u, g1, g2, g3⟩ := (h3 i o (by rw [List.getElem?_take_of_lt hi]; exact hops ho)).2.2 hwr
      have e1 : vF (rs.take i) (junkF (ops.toList.take m) F) (R.getD i []) = vF rs (junkF (ops.toList.take m) F) (R.getD i []) := by
        unfold vF; rw [flat_congr fun j hj => by rw [rcAt_take (hlt i j hj)]]
      have e2 : vM (rs.take i) MJ (R.getD i []) = vM rs MJ (R.getD i []) := by
        unfold vM; rw [flat_congr fun j hj => by rw [rcAt_take (hlt i j hj)]]
      have e3 : vH (rs.take i) (R.getD i []) = vH rs (R.getD i []) := by
        unfold vH; rw [flat_congr fun j hj => by rw [rcAt_take (hlt i j hj)]]
      rw [e1, e2, e3] at g1
      exact ⟨evalW_dst g1, by rw [g2], by rw [g2], q, by rw [g2]; exact g1, g3⟩
    · intro i hwr k hk
      obtain ⟨p, hp, rfl⟩ := List.mem_map.1 hk
      have := kk i (inM hk)
      simp only [Bool.and_eq_true] at this
      have := List.all_eq_true.1 this.2 p hp
      simp only [Bool.and_eq_true, Bool.or_eq_true] at this
      rcases this.1.1 with h | h
      · exact h
      · have hwr : ws.getD i false = false := hwr
        rw [hwr] at h; cases h.1.1
    · intro i o hi ho hreg
      obtain ⟨_, g1, s, g3, g4⟩ := (h3 i o (by rw [List.getElem?_take_of_lt hi]; exact hops ho)).1 hreg
      have e1 : vF (rs.take i) (junkF (ops.toList.take m) F) (R.getD i []) = vF rs (junkF (ops.toList.take m) F) (R.getD i []) := by
        unfold vF; rw [flat_congr fun j hj => by rw [rcAt_take (hlt i j hj)]]
      have e2 : ∀ MJ, vM (rs.take i) MJ (R.getD i []) = vM rs MJ (R.getD i []) := by
        intro MJ
        unfold vM; rw [flat_congr fun j hj => by rw [rcAt_take (hlt i j hj)]]
      rw [e1, e2] at g4
      exact ⟨g1, s, g3, g4⟩
    · intro i oi hi hreg ho j oj hoj hne hnp hno
      have := List.all_eq_true.1 c7 i (List.mem_range.2 (by omega))
      rw [hreg, hops ho] at this
      simp only [Bool.not_true, Bool.false_or, Bool.and_eq_true] at this
      have hjn := (Array.getElem?_eq_some_iff.1 hoj).1
      have := List.all_eq_true.1 this.2 j (List.mem_range.2 (by simpa using hjn))
      rw [hops hoj, Bool.or_eq_true, Bool.or_eq_true] at this
      rcases this with (h | h) | h
      · exact absurd (Nat.eq_of_beq_eq_true h) hne
      · exact absurd (inL_iff.1 h) hnp
      · rw [Bool.or_eq_true] at h
        rcases h with h | h
        · rw [List.any_eq_true] at h
          obtain ⟨e, he, hb⟩ := h
          rw [Bool.and_eq_true] at hb
          exact absurd (Nat.eq_of_beq_eq_true hb.2) (hno e (by simpa using he) hb.1)
        · simpa using h
    · intro i hi hreg
      have := List.all_eq_true.1 c7 i (List.mem_range.2 (by omega))
      have hin : i < ops.toList.length := by simp; omega
      rw [hreg, List.getElem?_eq_getElem hin] at this
      simp only [Bool.not_true, Bool.false_or, Bool.and_eq_true] at this
      simpa using this.1
    · intro i p hp
      have hi : i < m := by
        rcases Nat.lt_or_ge i m with h | h
        · exact h
        · rw [short i h] at hp; simp at hp
      have := kk i hi
      simp only [Bool.and_eq_true] at this
      have := List.all_eq_true.1 this.1.1 p hp
      rw [Bool.and_eq_true] at this
      rw [← dstEq]
      exact ⟨eqO_eq this.1, Nat.le_of_ble_eq_true this.2⟩
    · intro i x hx
      have hi : i < m := by
        rcases Nat.lt_or_ge i m with h | h
        · exact h
        · rw [short i h] at hx; simp at hx
      have := kk i hi
      simp only [Bool.and_eq_true] at this
      have := List.all_eq_true.1 this.1.2 x hx
      rw [Bool.and_eq_true, List.any_eq_true] at this
      obtain ⟨d1, g, hg, d2⟩ := this
      rw [← dstEq]
      exact ⟨eqO_eq d1, g, hg, by rw [← dstEq]; exact eqO_eq d2⟩
    · intro i j t hi hj e1 e2
      have get : ∀ {q}, q < m → dstOf ops q = some t → ∃ x, ((ops.toList.take m).map fun o => o.dst.toList)[q]? = some x ∧ t ∈ x := by
        intro q hq hd
        unfold dstOf at hd
        cases ho : ops[q]? with
        | none => rw [ho] at hd; cases hd
        | some o =>
          rw [ho] at hd
          have hd : o.dst = some t := hd
          exact ⟨o.dst.toList, by rw [List.getElem?_map, List.getElem?_take_of_lt hq, hops ho]; rfl, by rw [hd]; simp⟩
      obtain ⟨x, x1, x2⟩ := get hi e1
      obtain ⟨y, y1, y2⟩ := get hj e2
      exact flat_inj (nodupB_ok c3) x1 y1 x2 y2
    · intro i j k hi hj
      have get : ∀ {q}, q < m → (rs.map fun rc => rc.u.map (·.1))[q]? = some (keys rs q) := by
        intro q hq
        have : rs[q]? = some rs[q] := List.getElem?_eq_getElem (by omega)
        rw [List.getElem?_map, this]
        simp [keys, rcAt, List.getD_eq_getElem?_getD, this]
      exact flat_inj k1 (get (inM hi)) (get (inM hj)) hi hj
    · intro i k hk
      obtain ⟨p, hp, rfl⟩ := List.mem_map.1 hk
      have := kk i (inM hk)
      simp only [Bool.and_eq_true] at this
      have := List.all_eq_true.1 this.2 p hp
      simp only [Bool.and_eq_true, Bool.or_eq_true, Bool.not_eq_true'] at this
      rcases this.1.1 with h | ⟨⟨_, h⟩, h2⟩
      · exact .inl h
      · refine .inr ⟨h, ?_⟩
        obtain ⟨p', hp', hpe, hep⟩ := ent_mem hk
        obtain ⟨x, hx, hxe⟩ := List.mem_map.1 hk
        rw [hep]
        have := kk i (inM hk)
        simp only [Bool.and_eq_true] at this
        have := List.all_eq_true.1 this.2 p' hp'
        simp only [Bool.and_eq_true, Bool.or_eq_true, Bool.not_eq_true'] at this
        rw [← hpe] at h ⊢
        rcases this.1.1 with h' | ⟨_, h'⟩
        · rw [h] at h'; cases h'
        · exact wokB_ok h'
    · intro i k hk
      obtain ⟨p, hp, rfl, hep⟩ := ent_mem hk
      have := kk i (inM hk)
      simp only [Bool.and_eq_true] at this
      have := List.all_eq_true.1 this.2 p hp
      simp only [Bool.and_eq_true] at this
      rw [hep]
      exact ⟨Nat.eq_of_beq_eq_true this.1.2, Nat.eq_of_beq_eq_true this.2⟩
    · intro t
      rcases junk_look (ops.toList.take m) F t with e | ⟨e1, e2⟩
      · exact .inl e
      · refine .inr ⟨e1, fun i hi hdi => ?_⟩
        unfold dstOf at hdi
        cases ho : ops[i]? with
        | none => rw [ho] at hdi; cases hdi
        | some o =>
          rw [ho] at hdi
          exact e2 o (List.mem_of_getElem? (i := i) (by rw [List.getElem?_take_of_lt hi]; exact hops ho)) hdi
    · intro t ht
      rcases junk_look (ops.toList.take m) F t with e | ⟨e1, _⟩
      · exact e
      · rw [e1]; exact h.frame.out t ht
  refine ⟨c5, ?_⟩
  have hcw : Cw w { w with drawn := w.drawn + 1 } := ⟨rfl, rfl, rfl, Nat.le_refl _, fun _ _ => rfl⟩
  have hJ : St P Gl N F MJ a w ω := ⟨h.frame, h.globs, hmj, h.defers⟩
  have h' := hJ.step (Stp.more hmj hcw)
  have hm' := h'.mem
  refine any_ok (ω := ω) (a0 := a) (ω0 := ω) hS SS hm' h'.frame h'.globs hQp ?_ ops.size (Array.replicate ops.size false) a _ (by simp) ?_ ?_
  · intro a' w' ω' I
    obtain ⟨g1, g2, g3⟩ := I.all SS hm' h'.frame (E := List.range m) (fun j hj => List.mem_range.1 hj) (fun j hj k hk => List.mem_range.2 (by have := hlt j k hk; have := List.mem_range.1 hj; omega))
    have hext := I.ext0 SS hm' (List.range m)
    have hst : St P Gl N (vF rs (junkF (ops.toList.take m) F) (List.range m)) (vM rs MJ (List.range m)) a' w' (subω rs MJ ω' (List.range m)) := ⟨g2, fun g => Den.ext (o := ω.bare) hext.bare (h'.globs g), g1, I.defers⟩
    obtain ⟨F5, M5, hF5, hM5, h1⟩ := markH_spec h1
    refine evOps_ok hS hQ (ops.toList.drop m) _ _ nx' _ a' w' _ (fun o ho => hd o (List.mem_of_mem_drop ho)) (hst.congr hF5 hM5) g3 ((hcw.ext ω).trans hext) ⟨by rw [I.size, h.frame.size], fun i hi => ?_⟩ h1
    refine I.keep i fun j hj hdj => ?_
    unfold dstOf at hdj
    cases ho : ops[j]? with
    | none => rw [ho] at hdj; cases hdj
    | some o =>
      rw [ho] at hdj
      exact hi (hd o (List.mem_of_getElem? (hops ho)) i hdj)
  · unfold und
    exact Nat.le_trans (List.length_filter_le _ _) (by simp)
  · have no : ∀ j, ¬ (Array.replicate ops.size false).getD j false = true := fun j => by
      simp [Array.getD]
    exact ⟨fun j hj => absurd hj (no j), fun j hj => absurd hj (no j), ⟨rfl, rfl, rfl, Nat.le_refl _, fun _ _ _ => rfl⟩, fun j k _ _ L hL => (let ⟨_, _, _, _, c, T, h1, h2, _⟩ := hm'.row k none L hL; ⟨c, T, h1, h2⟩), fun _ h => h, hm'.lowA, fun _ _ h => h, rfl, hm'.dj, rfl, fun _ _ _ => rfl, fun k p L hL => hm'.own _ ⟨k, p, L, hL, rfl⟩, hm'.inj, h.defers, h.frame.size, fun _ _ => rfl, fun j hj => absurd hj (no j)⟩
def lastBadN (ops : List Oper) : Nat → List (List Nat) → Nat → Nat
  | _, [], m => m
  | i, p :: r, m => lastBadN ops (i + 1) r (match regAt ops i || Nat.beq p.length i || (List.range i).all fun j => inL p j || regAt ops j with | true => m | false => i + 1)
def movedL (ops : List Oper) (m : Nat) : Nat → List (List Nat) → List Nat → List Nat
  | _, [], acc => acc
  | i, p :: r, acc => movedL ops m (i + 1) r (match !Nat.blt i m && regAt ops i && !((List.range i).all fun j => inL p j || regAt ops j) && p.all (fun j => Nat.blt j m || inL acc j) with | true => acc ++ [i] | false => acc)
def evDrawP (P : Program) (sg : Bool) (Gl : Nat → SV) (Γ : Table) (N : Nat) (ops : List Oper) (K : Fr → Mem → Nat → Prop) (F : Fr) (M : Mem) (nx : Nat) : Prop :=
  fNatLL (presL ops []) fun R =>
  fNat (lastBadN ops 0 R 0) fun m =>
  match movedL ops m 0 R [] with
  | [] => evDraw P sg Gl Γ N ops K F M nx
  | i :: r =>
    fNatL (List.range m ++ (i :: r) ++ ((List.range ops.length).filter fun k => !Nat.blt k m && !inL (i :: r) k)) fun ord =>
    match permB ord ops.length with
    | true => fOs (permL ord ops) fun ops' => evDraw P sg Gl Γ N ops' K F M nx
    | false => False
theorem draw_ok (hS : Sound P Gl Γ) {sg : Bool} {id : Nat} {ops : Array Oper} {Q : Exit → Act → World → Prop} {K : Fr → Mem → Nat → Prop} {S : List Nat} {nx : Nat}
    (hQp : ∀ d c a v w, Q (.panic c) (Act.put a d v) w → Q (.panic c) a w) (hQ : ∀ a' w', Done P Gl N S a w ω K a' w' → Q .normal a' w') (hd : ∀ o ∈ ops.toList, ∀ t, o.dst = some t → t ∈ S) (h : St P Gl N F M a w ω) (he : evDrawP P sg Gl Γ N ops.toList K F M nx) : (Code.region id ops true).wp P Q a w := by
  unfold evDrawP at he
  simp only [fNatLL_eq, fNat_eq, fNatL_eq, fOs_eq] at he
  split at he
  · obtain ⟨h1, h2⟩ := draw_any hS hQp hQ hd h he
    exact wp_region_any h1 h2
  · next i r hmv =>
    split at he
    · next hp =>
      have hp : permB (List.range (lastBadN ops.toList 0 (presL ops.toList []) 0) ++ (i :: r) ++ ((List.range ops.toList.length).filter fun k => !Nat.blt k (lastBadN ops.toList 0 (presL ops.toList []) 0) && !inL (i :: r) k)) ops.size = true := by simpa using hp
      revert he hp
      generalize (List.range (lastBadN ops.toList 0 (presL ops.toList []) 0) ++ (i :: r) ++ ((List.range ops.toList.length).filter fun k => !Nat.blt k (lastBadN ops.toList 0 (presL ops.toList []) 0) && !inL (i :: r) k)) = ord
      intro he hp
      have hperm := permB_ok hp
      obtain ⟨h1, h2⟩ := draw_any (ops := (permL ord ops.toList).toArray) hS hQp hQ (fun o ho t ht => by
        obtain ⟨o0, ho0, e⟩ := perm_dst (by simpa using ho)
        exact hd o0 ho0 t (e ▸ ht)) h (by simpa using he)
      rw [perm_size hperm] at h2
      exact wp_region_any h1 (wpAny_perm hperm ops.size (ls0 hperm) h2)
    · exact he.elim
end
end Go.Sy
set_option linter.unusedVariables false
set_option linter.unusedSimpArgs false
namespace Go.Sy
open Go.RowKit
inductive Ex where
  | normal | exit (id : Nat) | ret
structure Ann where
  σ : Type
  rt : List (Nat × Nat)
  sh : σ → List (Nat × SV)
  mh : σ → List (Nat × Blk)
  inv : σ → Prop
  μ : σ → Nat
  init : σ
  nc : List (Nat × Nat × Nat) := []
structure Cut where
  σ : Type
  rt : List (Nat × Nat)
  sh : σ → List (Nat × SV)
  mem : σ → List Blk
  inv : σ → Prop
  dec : (Nat → SV) → List Blk → σ
  nc : List (Nat × Nat × Nat) := []
inductive An where
  | inv' (au : Bool) (a : Ann)
  | invF (au : Bool) (g : (Nat → SV) → Ann)
  | unroll (n : Nat)
  | dec
  | cut (r : Nat) (c : Cut)
def An.inv (a : Ann) : An := .inv' false a
def resA (F : Fr) : List An → List An
  | .invF au g :: r => .inv' au (g fun d => look F d) :: r
  | l => l
def nr : Code → Nat
  | .region _ _ _ => 1
  | .seq x y => nr x + nr y
  | .cond _ x y => nr x + nr y
  | .block _ x => nr x
  | .loop x => nr x
  | _ => 0
def isX : Code → Bool
  | .exit _ => true
  | _ => false
def decd (dl : Bool) (x y : Code) : Bool := match dl with | false => false | true => match isX x with | true => true | false => isX y
def nl : Code → Nat
  | .seq x y => nl x + nl y
  | .cond _ x y => nl x + nl y
  | .block _ x => nl x
  | .loop x => nl x + 1
  | _ => 0
def assigned : Code → List Nat
  | .region _ ops _ => ops.toList.filterMap (·.dst)
  | .seq x y => assigned x ++ assigned y
  | .cond _ x y => assigned x ++ assigned y
  | .block _ x => assigned x
  | .loop x => assigned x
  | _ => []
def closedB : SV → Bool
  | .junk => true
  | .v _ => true
  | .bl _ => true
  | .pt _ _ _ => true
  | .sl _ _ _ _ => true
  | .pa _ _ _ _ => true
  | .il _ _ _ => true
  | .er _ _ _ _ => true
  | .es => true
  | .ag n f => (List.range n).all fun j => closedB (f j)
  | .tp n f => (List.range n).all fun j => closedB (f j)
  | .fn _ n f => (List.range n).all fun j => closedB (f j)
  | .bm _ s => closedB s
  | .mv _ s => closedB s
  | .ic _ s => closedB s
  | _ => false
def keepF (l : List Nat) (F : Fr) : Fr := F.map fun p => (p.1, match inL l p.1, closedB p.2 with | false, true => p.2 | _, _ => .junk)
def setL (N : Nat) (F : Fr) : List (Nat × SV) → Fr
  | [] => F
  | p :: r => setL N (putF N F (some p.1) p.2) r
def rootOf : SV → Option Nat
  | .ptr k _ _ _ _ => some k
  | .pe k _ _ _ _ _ _ => some k
  | .slc k _ _ _ _ => some k
  | .sa k _ _ _ _ _ => some k
  | _ => none
def rootsOf (F : Fr) : List (Nat × Nat) → Option (List Nat)
  | [] => some []
  | d :: r => match rootOf (look F d.1), rootsOf F r with | some k, some l => some (k :: l) | _, _ => none
def ownNil (M : Mem) (nx sz : Nat) (s : SV) : Option (SV × Mem) :=
  match isNilSl s with
  | true => (match freeB (ent M) nx with | true => some (.slc nx (ent M nx).rs none 0 0, fresh M nx (.row sz 0 fun _ _ => .junk)) | false => none)
  | false => some (s, M)
def prep (N : Nat) : List (Nat × Nat) → Fr → Mem → Nat → Option (Fr × Mem)
  | [], F, M, _ => some (F, M)
  | d :: r, F, M, nx => match ownNil M nx d.2 (look F d.1), Nat.blt d.1 N with | some p, true => prep N r ((d.1, p.1) :: F) p.2 (nx + 1) | _, _ => none
def kap (m : Nat → Ent) (L l : List Nat) : List Nat := reach m 200 (L ++ l) []
def headsL (m : Nat → Ent) (n : Nat) : List Nat := ((List.range n).foldl (fun (acc : List Nat × List Nat) k => match inL acc.2 k with | true => acc | false => (acc.1 ++ [k], reach m 200 [k] acc.2)) ([], [])).1
def stays (κ : List Nat) (k : Nat) : Bool := match κ[k]? with | some k' => Nat.beq k' k | none => false
def prepC : List (Nat × Nat × Nat) → Fr → Mem → Nat → Option Mem
  | [], F, M, _ => some M
  | d :: r, F, M, nx =>
    match look F d.1 with
    | .ptr k s none _ _ =>
      match okRef (ent M) k s none, (ent M k).hl, (ent M k).b with
      | true, none, .cells l =>
        match l.all fun s => !isIl s, isNilSl (lsv l d.2.1), freeB (ent M) nx with
        | true, true, true => prepC r F ((k, ⟨(ent M k).rs, (ent M k).ds, none, .cells (l.set d.2.1 (.slc nx (ent M nx).rs none 0 0))⟩) :: fresh M nx (.row d.2.2 0 fun _ _ => .junk)) (nx + 1)
        | true, false, _ => prepC r F M (nx + 1)
        | _, _, _ => none
      | _, _, _ => none
    | _ => none
def prep2 (N : Nat) (rt : List (Nat × Nat)) (nc : List (Nat × Nat × Nat)) (F : Fr) (M : Mem) (nx : Nat) : Option (Fr × Mem) :=
  match prep N rt F M nx with
  | some x => match prepC nc x.1 x.2 (nx + 20) with | some M => some (x.1, M) | none => none
  | none => none
def canB (cl : List Nat) (m : Nat → Ent) (κ : List Nat) : Bool :=
  match nodupB κ, κ.all fun k => whole (m k), cl.all fun k => stays κ k && Nat.beq (m k).rs 0 with
  | true, true, true => true
  | _, _, _ => false
def tellB (m : Nat → Ent) (κ : List Nat) : List Blk := κ.map fun k => blkRen (tellφ m κ) false (m k).b
def ovB : List (Nat × Blk) → List Blk → List Blk
  | [], B => B
  | p :: r, B => ovB r (B.set p.1 p.2)
def agF (φ : Nat → Nat → Path → Option (Nat × Nat)) (F : Fr) : List (Nat × SV) → Prop → Prop
  | [], R => R
  | p :: r, R => agV (mref φ false (look F p.1)) p.2 ∧ agF φ F r R
def autoSlots (m : Nat → Ent) (asg : List Nat) : Fr → List Nat → List Nat
  | [], _ => []
  | p :: r, seen =>
    match inL seen p.1 || inL asg p.1 with
    | true => autoSlots m asg r (p.1 :: seen)
    | false =>
      match p.2 with
      | .ptr k s none _ _ =>
        match okRef m k s none, (m k).b with
        | true, .cells _ => p.1 :: autoSlots m asg r (p.1 :: seen)
        | _, _ => autoSlots m asg r (p.1 :: seen)
      | _ => autoSlots m asg r (p.1 :: seen)
def autoA (au : Bool) (L : List Nat) (F : Fr) (M : Mem) (x : Code) (n : Ann) : Ann :=
  match au with
  | false => n
  | true =>
    let ds := autoSlots (ent M) (assigned x) F []
    match rootsOf F (n.rt ++ ds.map fun d => (d, 0)) with
    | some l => { n with rt := n.rt ++ ds.map fun d => (d, 0), sh := fun s => (ds.map fun d => (d, mref (tellφ (ent M) (kap (ent M) L l)) false (look F d))) ++ n.sh s }
    | none => n
abbrev KK := Ex → Fr → Mem → Nat → Prop
def iterN (b : Fr → Mem → Nat → KK → Prop) (K : KK) : Nat → Fr → Mem → Nat → Prop
  | 0, _, _, _ => False
  | n + 1, F, M, nx => b F M nx fun e F M nx => match e with | .normal => iterN b K n F M nx | e => K e F M nx
def cutAt (cuts : Nat → Option Cut) (k : Nat) : Nat → Option Cut
  | 0 => none
  | _ + 1 => cuts k
def mark (F : Fr) (M : Mem) (K : Fr → Mem → Prop) : Prop := fFr [] F fun F => fMem [] M fun M => K F M
theorem mark_spec {F : Fr} {M : Mem} {K : Fr → Mem → Prop} (h : mark F M K) : ∃ F' M', (∀ t, look F' t = look F t) ∧ (∀ k, ent M' k = ent M k) ∧ K F' M' := by
  obtain ⟨F', h1, h2⟩ := fFr_spec _ _ _ h
  obtain ⟨M', h3, h4⟩ := fMem_spec _ _ _ h1
  exact ⟨F', M', fun t => h2 t rfl, fun k => h4 k rfl, h3⟩
def evCode (P : Program) (dl sg : Bool) (Gl : Nat → SV) (Γ : Table) (N : Nat) (cl : List Nat) (L : List Nat) (cuts : Nat → Option Cut) : Code → Nat → List An → Fr → Mem → Nat → KK → Prop
  | .skip, _, _, F, M, nx, K => K .normal F M nx
  | .region _ ops draw, _, _, F, M, nx, K =>
    match draw with
    | false => evOps P sg Gl Γ N ops.toList (K .normal) ops.toList F M nx []
    | true => evDrawP P sg Gl Γ N ops.toList (K .normal) F M nx
  | .seq x y, pos, an, F, M, nx, K =>
    match cutAt cuts (pos + nr x) (nr y) with
    | none => evCode P dl sg Gl Γ N cl L cuts x pos (an.take (nl x)) F M nx fun e F M nx => match e with | .normal => evCode P dl sg Gl Γ N cl L cuts y (pos + nr x) (an.drop (nl x)) F M nx K | e => K e F M nx
    | some c => (evCode P dl sg Gl Γ N cl L cuts x pos (an.take (nl x)) F M nx fun e F' M' nx' =>
        match e with
        | .normal =>
          match prep2 N c.rt c.nc F' M' nx' with
          | none => False
          | some (F', M') =>
          match rootsOf F' c.rt with
          | some l' =>
            match canB cl (ent M') (kap (ent M') L l') with
            | true =>
              let s' := c.dec (fun d => mref (tellφ (ent M') (kap (ent M') L l')) false (look F' d)) (tellB (ent M') (kap (ent M') L l'))
              agF (tellφ (ent M') (kap (ent M') L l')) F' (c.sh s') (agL (tellB (ent M') (kap (ent M') L l')) (c.mem s') ∧ c.inv s')
            | false => False
          | none => False
        | e => K e F' M' nx') ∧
      ∀ s, c.inv s → mark (setL N (keepF (assigned x) F) (c.sh s)) (memOf 0 (c.mem s)) fun F M => evCode P dl sg Gl Γ N cl L cuts y (pos + nr x) (an.drop (nl x)) F M nx K
  | .cond c x y, pos, an, F, M, nx, K =>
    match opnd Gl F c with
    | .bl true => evCode P dl sg Gl Γ N cl L cuts x pos (an.take (nl x)) F M nx K
    | .bl false => evCode P dl sg Gl Γ N cl L cuts y (pos + nr x) (an.drop (nl x)) F M nx K
    | .v (.bool b) =>
      match decd dl x y with
      | true => (match b with | true => evCode P dl sg Gl Γ N cl L cuts x pos (an.take (nl x)) F M nx K | false => evCode P dl sg Gl Γ N cl L cuts y (pos + nr x) (an.drop (nl x)) F M nx K)
      | false => (b = true → mark F M fun F M => evCode P dl sg Gl Γ N cl L cuts x pos (an.take (nl x)) F M nx K) ∧ (b = false → mark F M fun F M => evCode P dl sg Gl Γ N cl L cuts y (pos + nr x) (an.drop (nl x)) F M nx K)
    | _ => False
  | .block id x, pos, an, F, M, nx, K => evCode P dl sg Gl Γ N cl L cuts x pos an F M nx fun e F M nx => match e with | .exit i => (match Nat.beq i id with | true => K .normal F M nx | false => K (.exit i) F M nx) | e => K e F M nx
  | .loop x, pos, an, F, M, nx, K =>
    match resA F an with
    | [] => False
    | .dec :: _ => False
    | .cut _ _ :: _ => False
    | .invF _ _ :: _ => False
    | .unroll n :: r => iterN (evCode P dl sg Gl Γ N cl L cuts x pos r) K n F M nx
    | .inv' au n0 :: r =>
      match prep2 N n0.rt n0.nc F M nx with
      | none => False
      | some (F, M) =>
      let n := autoA au L F M x n0
      match rootsOf F n.rt with
      | some l =>
        let κ := kap (ent M) L l
        let B := tellB (ent M) κ
        match canB cl (ent M) κ with
        | true => agF (tellφ (ent M) κ) F (n.sh n.init) (agL B (ovB (n.mh n.init) B) ∧ n.inv n.init ∧ ∀ s, n.inv s →
            mark (setL N (keepF (assigned x) F) (n.sh s)) (memOf 0 (ovB (n.mh s) B)) fun F M => evCode P dl sg Gl Γ N cl L cuts x pos r F M nx fun e F' M' nx' =>
              match e with
              | .normal =>
                match prep2 N n.rt n.nc F' M' nx' with
                | none => False
                | some (F', M') =>
                match rootsOf F' n.rt with
                | some l' =>
                  match canB cl (ent M') (kap (ent M') L l') with
                  | true => ∃ s', agF (tellφ (ent M') (kap (ent M') L l')) F' (n.sh s') (agL (tellB (ent M') (kap (ent M') L l')) (ovB (n.mh s') B) ∧ n.inv s' ∧ n.μ s' < n.μ s)
                  | false => False
                | none => False
              | e => K e F' M' nx')
        | false => False
      | none => False
  | .exit id, _, _, F, M, nx, K => K (.exit id) F M nx
  | .ret, _, _, F, M, nx, K => K .ret F M nx
  | _, _, _, _, _, _, _ => False
def evRes (P : Program) (F : Fr) (M : Mem) (K : List SV → Prop) : List ResultVar → List SV → Prop
  | [], acc => K acc.reverse
  | .tmp t :: r, acc => evRes P F M K r (look F t :: acc)
  | .cell ad T :: r, acc => (evLoad P T (look F ad) (ent M)).run fun s => evRes P F M K r (s :: acc)
def outS (m : Nat → Ent) (κ : List Nat) : SV → SV
  | .ptr k s p i j => match idx κ k with | some _ => mref (tellφ m κ) false (.ptr k s p i j) | none => ro false 12 m κ (.ptr k s p i j)
  | .pe k s p i j n z => match idx κ k with | some _ => mref (tellφ m κ) false (.pe k s p i j n z) | none => ro false 12 m κ (.pe k s p i j n z)
  | .slc k s p e n => match idx κ k with | some _ => mref (tellφ m κ) false (.slc k s p e n) | none => ro false 12 m κ (.slc k s p e n)
  | .sa k s p i j n => match idx κ k with | some _ => mref (tellφ m κ) false (.sa k s p i j n) | none => ro false 12 m κ (.sa k s p i j n)
  | .ag n f => .ag n fun j => outS m κ (f j)
  | .tp n f => .tp n fun j => outS m κ (f j)
  | .fn id n f => .fn id n fun j => outS m κ (f j)
  | .bm id s => .bm id (outS m κ s)
  | .mv nm s => .mv nm (outS m κ s)
  | .ic t s => .ic t (outS m κ s)
  | s => s
def nilEnd (mem' : List Blk) : List SV → List SV → Mem → Nat → Option (List SV × Mem)
  | s :: r, t :: q, M, nx =>
    match t with
    | .slc k _ none _ _ =>
      match mem'[k]? with
      | some (.row sz _ _) => match ownNil M nx sz s with | some x => (match nilEnd mem' r q x.2 (nx + 1) with | some y => some (x.1 :: y.1, y.2) | none => none) | none => none
      | _ => none
    | _ => match nilEnd mem' r q M nx with | some y => some (s :: y.1, y.2) | none => none
  | l, _, M, _ => some (l, M)
def resL (n : Nat) (res : SV) : List SV := match n, res with | 1, r => [r] | n, .tp _ f => (List.range n).map f | _, _ => []
def evEnd0 (cl : List Nat) (L : List Nat) (M : Mem) (res : SV) (mem' : List Blk) (l : List SV) : Prop :=
  let κ := (kap (ent M) L (l.flatMap refsS)).take mem'.length
  match canB cl (ent M) κ with
  | true => (match l with | [s] => agV (outS (ent M) κ s) res | l => agV (.tp l.length (lsv (l.map fun s => outS (ent M) κ s))) res) ∧ agL (tellB (ent M) κ) mem'
  | false => False
def evEnd (cl : List Nat) (L : List Nat) (M : Mem) (nx : Nat) (res : SV) (mem' : List Blk) (l : List SV) : Prop :=
  match nilEnd mem' l (resL l.length res) M nx with
  | some x => evEnd0 cl L x.2 res mem' x.1
  | none => False
def argF : Nat → List SV → Fr
  | _, [] => []
  | i, s :: r => (i, s) :: argF (i + 1) r
def clOf (mem : List Blk) : List Nat := (List.range mem.length).filter fun k => match mem[k]? with | some (.cells _) => true | _ => false
def isDec : List An → Bool
  | [] => false
  | .dec :: _ => true
  | _ :: r => isDec r
def unDec : List An → List An
  | [] => []
  | .dec :: r => unDec r
  | .cut _ _ :: r => unDec r
  | a :: r => a :: unDec r
def cutsOf : List An → Nat → Option Cut
  | [], _ => none
  | .cut k c :: r, n => match Nat.beq k n with | true => some c | false => cutsOf r n
  | _ :: r, n => cutsOf r n
def evBody (P : Program) (sg : Bool) (Gl : Nat → SV) (Γ : Table) (fn : Func) (args : List SV) (mem : List Blk) (an : List An) (res : SV) (mem' : List Blk) : Prop :=
  match fn.body with
  | some c => match Nat.ble args.length fn.ntmps with
    | false => False
    | true => evCode P (isDec an) sg Gl Γ fn.ntmps (clOf mem) (headsL (ent (memOf 0 mem)) mem.length) (cutsOf an) c 0 (unDec an) (argF 0 args) (memOf 0 mem) 100 fun e F M nx =>
      match e with
      | .exit _ => False
      | _ => evRes P F M (evEnd (clOf mem) (headsL (ent (memOf 0 mem)) mem.length) M nx res mem') fn.results.toList []
  | none => False
section
variable {P : Program} {w : World} {ω : Ow} {Gl : Nat → SV} {Γ : Table} {N : Nat} {F : Fr} {M : Mem} {a : Act} {cl : List Nat} {L : List Nat}
structure Rel (cl : List Nat) (w1 : World) (ω1 : Ow) (M1 : Mem) (w : World) (ω : Ow) (M : Mem) : Prop where
  bare : Ext w1 ω1.bare w ω.bare
  lent : ∀ k ∈ cl, (ent M k).rs = 0 → (ent M1 k).rs = 0 ∧ ∀ L, ω1.β k none = some L → ω.β k none = some L
theorem Rel.refl (w : World) (ω : Ow) (M : Mem) : Rel cl w ω M w ω M := ⟨Ext.refl _ _, fun _ _ h => ⟨h, fun _ h => h⟩⟩
theorem Rel.trans {w1 w2 w3 : World} {ω1 ω2 ω3 : Ow} {M1 M2 M3 : Mem} (h : Rel cl w1 ω1 M1 w2 ω2 M2) (k : Rel cl w2 ω2 M2 w3 ω3 M3) : Rel cl w1 ω1 M1 w3 ω3 M3 :=
  ⟨h.bare.trans k.bare, fun q hq h0 => let ⟨e1, e2⟩ := k.lent q hq h0; let ⟨e3, e4⟩ := h.lent q hq e1; ⟨e3, fun L hL => e2 L (e4 L hL)⟩⟩
theorem Rel.of {w1 : World} {ω1 : Ow} {M1 : Mem} (h1 : MemOK w1 ω1 M1) (h2 : MemOK w ω M) (he : Ext w1 ω1 w ω) : Rel cl w1 ω1 M1 w ω M := by
  refine ⟨he.bare, fun k _ h0 => ?_⟩
  have hm := (he.mono k).1
  rw [h1.cur, h2.cur] at hm
  have hm : (ent M1 k).rs ≤ (ent M k).rs := hm
  refine ⟨by omega, fun L hL => he.lab k none L hL ?_⟩
  rw [h1.cur, h2.cur]
  show (ent M k).rs = (ent M1 k).rs
  omega
def DoneC (P : Program) (Gl : Nat → SV) (N : Nat) (cl : List Nat) (S : List Nat) (a0 : Act) (w1 : World) (ω1 : Ow) (M1 : Mem) (K : Fr → Mem → Nat → Prop) (a : Act) (w : World) : Prop :=
  ∃ ω F M nx, St P Gl N F M a w ω ∧ Rel cl w1 ω1 M1 w ω M ∧ Keep S a0 a ∧ K F M nx
theorem DoneC.weaken {S S' : List Nat} {a0 a1 : Act} {w1 w2 : World} {ω1 ω2 : Ow} {M1 M2 : Mem} {K K' : Fr → Mem → Nat → Prop} {a : Act} {w : World} (h : DoneC P Gl N cl S a1 w2 ω2 M2 K a w)
    (hS : ∀ i ∈ S, i ∈ S') (hk : Keep S' a0 a1) (hg : Rel cl w1 ω1 M1 w2 ω2 M2) (hK : ∀ F M nx, K F M nx → K' F M nx) : DoneC P Gl N cl S' a0 w1 ω1 M1 K' a w := by
  obtain ⟨ω, F, M, nx, h1, h2, h3, h4⟩ := h
  exact ⟨ω, F, M, nx, h1, hg.trans h2, hk.trans (h3.mono hS), hK _ _ _ h4⟩
def QQ (P : Program) (Gl : Nat → SV) (N : Nat) (cl : List Nat) (S : List Nat) (a0 : Act) (w1 : World) (ω1 : Ow) (M1 : Mem) (K : KK) : Exit → Act → World → Prop
  | .normal, a, w => DoneC P Gl N cl S a0 w1 ω1 M1 (K .normal) a w
  | .exit id, a, w => DoneC P Gl N cl S a0 w1 ω1 M1 (K (.exit id)) a w
  | .ret, a, w => DoneC P Gl N cl S a0 w1 ω1 M1 (K .ret) a w
  | _, _, _ => False
theorem QQ.weaken {S S' : List Nat} {a0 a1 : Act} {w1 w2 : World} {ω1 ω2 : Ow} {M1 M2 : Mem} {K : KK} (hS : ∀ i ∈ S, i ∈ S') (hk : Keep S' a0 a1) (hg : Rel cl w1 ω1 M1 w2 ω2 M2) :
    ∀ e a w, QQ P Gl N cl S a1 w2 ω2 M2 K e a w → QQ P Gl N cl S' a0 w1 ω1 M1 K e a w
  | .normal, _, _, h => DoneC.weaken h hS hk hg fun _ _ _ h => h
  | .exit _, _, _, h => DoneC.weaken h hS hk hg fun _ _ _ h => h
  | .ret, _, _, h => DoneC.weaken h hS hk hg fun _ _ _ h => h
  | .goto _, _, _, h => h
  | .panic _, _, _, h => h
  | .outgrown, _, _, h => h
theorem Rel.congr {w1 : World} {ω1 : Ow} {M1 M' : Mem} (h : Rel cl w1 ω1 M1 w ω M) (hM : ∀ k, ent M' k = ent M k) : Rel cl w1 ω1 M1 w ω M' := ⟨h.bare, fun k hk h0 => h.lent k hk (by rw [← hM]; exact h0)⟩
theorem Rel.congr1 {w1 : World} {ω1 : Ow} {M1 M' : Mem} (h : Rel cl w1 ω1 M' w ω M) (hM : ∀ k, ent M' k = ent M1 k) : Rel cl w1 ω1 M1 w ω M := ⟨h.bare, fun k hk h0 => by rw [← hM]; exact h.lent k hk h0⟩
theorem QQ.congr {S : List Nat} {a0 : Act} {w1 : World} {ω1 : Ow} {M1 M' : Mem} {K : KK} (hM : ∀ k, ent M' k = ent M1 k) : ∀ e a w, QQ P Gl N cl S a0 w1 ω1 M' K e a w → QQ P Gl N cl S a0 w1 ω1 M1 K e a w := by
  have key : ∀ {K : Fr → Mem → Nat → Prop} {a w}, DoneC P Gl N cl S a0 w1 ω1 M' K a w → DoneC P Gl N cl S a0 w1 ω1 M1 K a w := fun ⟨ω, F, M, nx, h1, h2, h3, h4⟩ => ⟨ω, F, M, nx, h1, h2.congr1 hM, h3, h4⟩
  intro e a w h
  cases e with
  | normal => exact key h
  | exit i => exact key h
  | ret => exact key h
  | goto l => exact h
  | panic c => exact h
  | outgrown => exact h
theorem closed_bare {s : SV} : ∀ {u : Value}, closedB s = true → Den w ω s u → Den w ω.bare s u := by
  induction s with
  | ptr _ _ _ _ _ => intro u h; cases h
  | pe _ _ _ _ _ _ _ => intro u h; cases h
  | slc _ _ _ _ _ => intro u h; cases h
  | sa _ _ _ _ _ _ => intro u h; cases h
  | ag n f ih =>
    intro u h hd
    obtain ⟨cs, rfl, hs, hj⟩ := hd
    exact ⟨cs, rfl, hs, fun j hjn => let ⟨x, h1, h2⟩ := hj j hjn; ⟨x, h1, ih j (List.all_eq_true.1 h j (List.mem_range.2 hjn)) h2⟩⟩
  | tp n f ih =>
    intro u h hd
    obtain ⟨cs, rfl, hs, hj⟩ := hd
    exact ⟨cs, rfl, hs, fun j hjn => let ⟨x, h1, h2⟩ := hj j hjn; ⟨x, h1, ih j (List.all_eq_true.1 h j (List.mem_range.2 hjn)) h2⟩⟩
  | fn id n f ih =>
    intro u h hd
    obtain ⟨cs, rfl, hs, hj⟩ := hd
    exact ⟨cs, rfl, hs, fun j hjn => let ⟨x, h1, h2⟩ := hj j hjn; ⟨x, h1, ih j (List.all_eq_true.1 h j (List.mem_range.2 hjn)) h2⟩⟩
  | bm id s ih => intro u h hd; obtain ⟨x, rfl, hx⟩ := hd; exact ⟨x, rfl, ih h hx⟩
  | mv nm s ih => intro u h hd; obtain ⟨x, rfl, hx⟩ := hd; exact ⟨x, rfl, ih h hx⟩
  | ic t s ih => intro u h hd; obtain ⟨x, rfl, hx⟩ := hd; exact ⟨x, rfl, ih h hx⟩
  | _ => intro u _ hd; exact hd
theorem keepF_look (l : List Nat) : ∀ (F : Fr) (i : Nat), look (keepF l F) i = .junk ∨ (look (keepF l F) i = look F i ∧ closedB (look F i) = true ∧ i ∉ l)
  | [], _ => .inl rfl
  | p :: r, i => by
    simp only [keepF, List.map_cons, look]
    cases hb : Nat.beq p.1 i with
    | false => exact keepF_look l r i
    | true =>
      have e := Nat.eq_of_beq_eq_true hb
      subst e
      cases h1 : inL l p.1 with
      | true => exact .inl rfl
      | false =>
        cases h2 : closedB p.2 with
        | false => exact .inl rfl
        | true => exact .inr ⟨rfl, rfl, fun hm => by rw [inL_iff.2 hm] at h1; cases h1⟩
theorem setL_ok {w' : World} {ω' : Ow} {t' : Array Value} : ∀ (l : List (Nat × SV)) {F : Fr}, FrOK w' ω' N F t' → (∀ p ∈ l, ∀ u, t'[p.1]? = some u → Den w' ω' p.2 u) → FrOK w' ω' N (setL N F l) t'
  | [], _, h, _ => h
  | p :: r, F, h, hp => by
    refine setL_ok r ?_ fun q hq => hp q (by simp [hq])
    cases hlt : Nat.blt p.1 N with
    | true =>
      have e : putF N F (some p.1) p.2 = (p.1, p.2) :: F := by simp only [putF, hlt]
      rw [e]
      exact h.tell (Nat.le_of_ble_eq_true hlt) (hp p (by simp))
    | false =>
      have e : putF N F (some p.1) p.2 = F := by simp only [putF, hlt]
      rw [e]; exact h
theorem agF_spec {φ : Nat → Nat → Path → Option (Nat × Nat)} : ∀ {l : List (Nat × SV)} {R : Prop}, agF φ F l R → (∀ p ∈ l, agV (mref φ false (look F p.1)) p.2) ∧ R
  | [], _, h => ⟨fun p hp => by simp at hp, h⟩
  | p :: r, _, ⟨h1, h2⟩ => by
    obtain ⟨h3, h4⟩ := agF_spec h2
    refine ⟨fun q hq => ?_, h4⟩
    rcases List.mem_cons.1 hq with rfl | hq
    · exact h1
    · exact h3 q hq
theorem canB_spec {m : Nat → Ent} {κ : List Nat} (h : canB cl m κ = true) : κ.Nodup ∧ (∀ k ∈ κ, whole (m k) = true) ∧ ∀ k ∈ cl, κ[k]? = some k ∧ (m k).rs = 0 := by
  unfold canB at h
  split at h
  · next h1 h2 h3 =>
    refine ⟨nodupB_ok h1, fun k hk => List.all_eq_true.1 h2 k hk, fun k hk => ?_⟩
    have := List.all_eq_true.1 h3 k hk
    rw [Bool.and_eq_true] at this
    refine ⟨?_, Nat.eq_of_beq_eq_true this.2⟩
    have h4 := this.1
    unfold stays at h4
    split at h4
    · next k' hk' => rw [hk', Nat.eq_of_beq_eq_true h4]
    · cases h4
  · cases h
theorem St.tell' (h : St P Gl N F M a w ω) {κ : List Nat} {B : List Blk} (hc : canB cl (ent M) κ = true) (ha : agL (tellB (ent M) κ) B) :
    MemOK w (tellω ω κ B) (memOf 0 B) ∧ Rel cl w ω M w (tellω ω κ B) (memOf 0 B) := by
  obtain ⟨h1, h2, h3⟩ := canB_spec hc
  refine ⟨tell_ok h.mem h1 h2 ha, tell_bare _ _, fun k hk _ => ⟨(h3 k hk).2, fun L hL => ?_⟩⟩
  rw [tell_none (k := k) (h3 k hk).1]
  exact hL
theorem head_ok {a1 : Act} {w1 : World} {ω1 : Ow} {M1 : Mem} {F1 : Fr} (h1 : St P Gl N F1 M1 a1 w1 ω1) (h : St P Gl N F M a w ω) {S : List Nat} (hr : Rel cl w1 ω1 M1 w ω M) (hk : Keep S a1 a)
    {κ : List Nat} {B : List Blk} {sh : List (Nat × SV)} (hc : canB cl (ent M) κ = true) (ha : agL (tellB (ent M) κ) B) (hs : ∀ p ∈ sh, agV (mref (tellφ (ent M) κ) false (look F p.1)) p.2) :
    ∃ ω', St P Gl N (setL N (keepF S F1) sh) (memOf 0 B) a w ω' ∧ Rel cl w1 ω1 M1 w ω' (memOf 0 B) := by
  obtain ⟨hm, hrel⟩ := h.tell' hc ha
  have hr' := hr.trans hrel
  refine ⟨_, ⟨?_, fun g => Den.ext (o := ω.bare) (tell_bare _ _) (h.globs g), hm, h.defers⟩, hr'⟩
  refine setL_ok _ ⟨h.frame.size, fun i u hu => ?_, fun i hi => ?_⟩ ?_
  · rcases keepF_look S F1 i with e | ⟨e, hcl, hni⟩
    · rw [e]; trivial
    · rw [e]
      have hu' : a1.tmps[i]? = some u := by rw [← hk.2 i hni]; exact hu
      exact (Den.ext (o := ω1.bare) hr'.bare (closed_bare hcl (h1.frame.den i u hu'))).up
  · rcases keepF_look S F1 i with e | ⟨e, _, _⟩
    · exact e
    · rw [e]; exact h1.frame.out i hi
  · intro p hp u hu
    exact agV_den (hs p hp) (tell_den h.mem _ _ (h.frame.den p.1 u hu))
theorem isNilSl_den {s : SV} {u : Value} (h : isNilSl s = true) (hd : Den w ω s u) : ∃ p, u = .slice p 0 0 := by
  unfold isNilSl at h
  split at h
  · exact ⟨none, hd⟩
  · exact hd
  · cases h
theorem ownNil_ok (hm : MemOK w ω M) {nx sz : Nat} {s s' : SV} {M' : Mem} {u : Value} (hd : Den w ω s u) (h : ownNil M nx sz s = some (s', M')) : Den w ω s' u ∧ MemOK w ω M' ∧ Rel cl w ω M w ω M' := by
  unfold ownNil at h
  split at h
  · next hn =>
    split at h
    · next hf =>
      simp only [Option.some.injEq, Prod.mk.injEq] at h
      obtain ⟨rfl, rfl⟩ := h
      obtain ⟨pn, hu⟩ := isNilSl_den hn hd
      have hst := Stp.dummy hm (freeB_free hm hf) sz 0 (fun _ _ => .junk)
      refine ⟨?_, hst.mem, Rel.of hm hst.mem hst.ext⟩
      subst hu
      exact .inr ⟨by rw [hm.cur]; rfl, pn, 0, rfl, Nat.le_refl _, Nat.zero_le _, .inl rfl⟩
    · cases h
  · simp only [Option.some.injEq, Prod.mk.injEq] at h
    obtain ⟨rfl, rfl⟩ := h
    exact ⟨hd, hm, Rel.refl _ _ _⟩
theorem prep_ok : ∀ {rt : List (Nat × Nat)} {F F' : Fr} {M M' : Mem} {nx : Nat}, St P Gl N F M a w ω → prep N rt F M nx = some (F', M') → St P Gl N F' M' a w ω ∧ Rel cl w ω M w ω M'
  | [], F, F', M, M', nx, h, he => by
    simp only [prep, Option.some.injEq, Prod.mk.injEq] at he
    obtain ⟨rfl, rfl⟩ := he
    exact ⟨h, Rel.refl _ _ _⟩
  | d :: r, F, F', M, M', nx, h, he => by
    unfold prep at he
    split at he
    · next p hp hlt =>
      have hlt : d.1 < N := Nat.le_of_ble_eq_true hlt
      obtain ⟨p1, p2⟩ := p
      have hx : d.1 < a.tmps.size := by rw [h.frame.size]; exact hlt
      obtain ⟨g1, g2, g3⟩ := ownNil_ok (cl := cl) h.mem (h.frame.den d.1 a.tmps[d.1] (by simp [hx])) hp
      have h' : St P Gl N ((d.1, p1) :: F) p2 a w ω := ⟨h.frame.tell hlt (fun u hu => by
        have : a.tmps[d.1]? = some a.tmps[d.1] := by simp [hx]
        obtain rfl := Option.some.inj (this.symm.trans hu)
        exact g1), h.globs, g2, h.defers⟩
      obtain ⟨k1, k2⟩ := prep_ok h' he
      exact ⟨k1, g3.trans k2⟩
    · cases he
theorem prepC_ok : ∀ {nc : List (Nat × Nat × Nat)} {M M' : Mem} {nx : Nat}, St P Gl N F M a w ω → prepC nc F M nx = some M' → St P Gl N F M' a w ω ∧ Rel cl w ω M w ω M'
  | [], M, M', nx, h, he => by
    obtain rfl := Option.some.inj he
    exact ⟨h, Rel.refl _ _ _⟩
  | d :: r, M, M', nx, h, he => by
    unfold prepC at he
    split at he
    · next k s i j hl =>
      split at he
      · next l hok hhl hb =>
        split at he
        · next hil hnil hf =>
          have hfree := freeB_free h.mem hf
          have hst := Stp.dummy h.mem hfree d.2.2 0 (fun _ _ => .junk)
          have hne : nx ≠ k := by
            intro e; subst e
            have := hfree.1
            rw [hb] at this; cases this
          have hek : ent (fresh M nx (.row d.2.2 0 fun _ _ => .junk)) k = ⟨(ent M k).rs, (ent M k).ds, none, .cells l⟩ := by
            unfold fresh; rw [ent_ne hne]
            cases he : ent M k; rw [he] at hhl hb; subst hhl; subst hb; rfl
          have hilj : ∀ j, isIl (lsv l j) = false := fun j => by
            unfold lsv
            rw [List.getD_eq_getElem?_getD]
            cases hj : l[j]? with
            | none => rfl
            | some y => have := List.all_eq_true.1 hil y (List.mem_of_getElem? hj); simpa using this
          have hcur : (ent M nx).rs = st ω.cur nx none := by rw [h.mem.cur]; rfl
          have hm2 := MemOK.retell hst.mem hek rfl (l' := l.set d.2.1 (.slc nx (ent M nx).rs none 0 0)) (by simp) (fun L hL c T hc j hj x hx hd => by
            by_cases hjd : j = d.2.1
            · have e : lsv (l.set d.2.1 (.slc nx (ent M nx).rs none 0 0)) j = .slc nx (ent M nx).rs none 0 0 := by
                rw [← hjd]; unfold lsv; simp [List.getD_eq_getElem?_getD, hj]
              rw [e]
              obtain ⟨pn, hu⟩ := isNilSl_den hnil (by rw [← hjd]; exact hd)
              subst hu
              exact ⟨rfl, .inr ⟨hcur, pn, 0, rfl, Nat.le_refl _, Nat.zero_le _, .inl rfl⟩⟩
            · have e : lsv (l.set d.2.1 (.slc nx (ent M nx).rs none 0 0)) j = lsv l j := by
                unfold lsv; simp [List.getD_eq_getElem?_getD, Ne.symm hjd]
              rw [e]
              exact ⟨hilj j, hd⟩) hilj
          have h' : St P Gl N F ((k, ⟨(ent M k).rs, (ent M k).ds, none, .cells (l.set d.2.1 (.slc nx (ent M nx).rs none 0 0))⟩) :: fresh M nx (.row d.2.2 0 fun _ _ => .junk)) a w ω := ⟨h.frame, h.globs, hm2, h.defers⟩
          obtain ⟨k1, k2⟩ := prepC_ok h' he
          exact ⟨k1, (Rel.of h.mem hm2 (Ext.refl _ _)).trans k2⟩
        · exact prepC_ok h he
        · cases he
      · cases he
    · cases he
theorem prep2_ok {rt : List (Nat × Nat)} {nc : List (Nat × Nat × Nat)} {F F' : Fr} {M M' : Mem} {nx : Nat} (h : St P Gl N F M a w ω) (he : prep2 N rt nc F M nx = some (F', M')) : St P Gl N F' M' a w ω ∧ Rel cl w ω M w ω M' := by
  unfold prep2 at he
  split at he
  · next x hx =>
    split at he
    · next M1 hM1 =>
      simp only [Option.some.injEq, Prod.mk.injEq] at he
      obtain ⟨rfl, rfl⟩ := he
      obtain ⟨g1, g2⟩ := prep_ok (cl := cl) h hx
      obtain ⟨g3, g4⟩ := prepC_ok (cl := cl) g1 hM1
      exact ⟨g3, g2.trans g4⟩
    · cases he
  · cases he
theorem evCode_ok (hS : Sound P Gl Γ) {dl sg : Bool} {cuts : Nat → Option Cut} : ∀ (c : Code) (pos : Nat) (an : List An) (F : Fr) (M : Mem) (nx : Nat) (a : Act) (w : World) (ω : Ow) (K : KK),
    St P Gl N F M a w ω → evCode P dl sg Gl Γ N cl L cuts c pos an F M nx K → c.wp P (QQ P Gl N cl (assigned c) a w ω M K) a w := by
  intro c
  induction c with
  | skip => intro pos an F M nx a w ω K h he; exact wp_skip ⟨ω, F, M, nx, h, Rel.refl _ _ _, Keep.refl _ _, he⟩
  | region id ops draw =>
    intro pos an F M nx a w ω K h he
    have hd : ∀ o ∈ ops.toList, ∀ t, o.dst = some t → t ∈ assigned (.region id ops draw) := by
      intro o ho t ht
      simp only [assigned, List.mem_filterMap]
      exact ⟨o, ho, ht⟩
    cases draw with
    | false =>
      simp only [evCode] at he
      refine wp_region_list (evOps_ok hS (Q := QQ P Gl N cl (assigned (.region id ops false)) a w ω M K) (S := assigned (.region id ops false)) (a0 := a) (w1 := w) (ω1 := ω) ?_ ops.toList F M nx [] a w ω hd h (fun x hx => by cases hx) (Ext.refl _ _) (Keep.refl _ _) he)
      rintro a' w' ⟨ω', F', M', nx', g1, g2, g3, g4⟩
      exact ⟨ω', F', M', nx', g1, Rel.of h.mem g1.mem g2, g3, g4⟩
    | true =>
      simp only [evCode] at he
      refine draw_ok hS (Q := QQ P Gl N cl (assigned (.region id ops true)) a w ω M K) (S := assigned (.region id ops true)) (fun _ _ _ _ _ h => h.elim) ?_ hd h he
      rintro a' w' ⟨ω', F', M', nx', g1, g2, g3, g4⟩
      exact ⟨ω', F', M', nx', g1, Rel.of h.mem g1.mem g2, g3, g4⟩
  | seq x y ihx ihy =>
    intro pos an F M nx a w ω K h he
    simp only [evCode] at he
    have sub1 : ∀ i ∈ assigned x, i ∈ assigned (.seq x y) := fun i hi => by simp [assigned, hi]
    have sub2 : ∀ i ∈ assigned y, i ∈ assigned (.seq x y) := fun i hi => by simp [assigned, hi]
    split at he
    next hcut =>
      refine wp_seq (wp_mono (ihx _ _ F M nx a w ω _ h he) ?_)
      intro e a1 w1 hq
      cases e with
      | normal =>
        obtain ⟨ω1, F1, M1, nx1, h1, g1, k1, hK1⟩ := hq
        exact wp_mono (ihy _ _ F1 M1 nx1 a1 w1 ω1 K h1 hK1) (QQ.weaken sub2 (k1.mono sub1) g1)
      | exit id => exact DoneC.weaken hq sub1 (Keep.refl _ _) (Rel.refl _ _ _) (fun _ _ _ h => h)
      | ret => exact DoneC.weaken hq sub1 (Keep.refl _ _) (Rel.refl _ _ _) (fun _ _ _ h => h)
      | goto l => exact hq
      | panic ch => exact hq
      | outgrown => exact hq
    next c hcut =>
    obtain ⟨he1, he2⟩ := he
    refine wp_seq (wp_mono (ihx _ _ F M nx a w ω _ h he1) ?_)
    intro e a1 w1 hq
    cases e with
    | normal =>
      obtain ⟨ω1, F1, M1, nx1, h1, g1, k1, hK1⟩ := hq
      simp only at hK1
      split at hK1
      · exact hK1.elim
      · next F2 M2 hp =>
        obtain ⟨h2, g2⟩ := prep2_ok (cl := cl) h1 hp
        split at hK1
        · next l' hl =>
          split at hK1
          · next hcan =>
            obtain ⟨hs, ha, hinv⟩ := agF_spec hK1
            obtain ⟨ω3, h3, g3⟩ := head_ok h h2 (g1.trans g2) k1 hcan ha hs
            obtain ⟨F4, M4, hF4, hM4, he4⟩ := mark_spec (he2 _ hinv)
            exact wp_mono (ihy _ _ _ _ nx a1 w1 ω3 K (h3.congr hF4 hM4) he4) (QQ.weaken sub2 (k1.mono sub1) (g3.congr hM4))
          · exact hK1.elim
        · exact hK1.elim
    | exit id => exact DoneC.weaken hq sub1 (Keep.refl _ _) (Rel.refl _ _ _) (fun _ _ _ h => h)
    | ret => exact DoneC.weaken hq sub1 (Keep.refl _ _) (Rel.refl _ _ _) (fun _ _ _ h => h)
    | goto l => exact hq
    | panic ch => exact hq
    | outgrown => exact hq
  | cond c x y ihx ihy =>
    intro pos an F M nx a w ω K h he
    have sub1 : ∀ i ∈ assigned x, i ∈ assigned (.cond c x y) := fun i hi => by simp [assigned, hi]
    have sub2 : ∀ i ∈ assigned y, i ∈ assigned (.cond c x y) := fun i hi => by simp [assigned, hi]
    have hc := h.cx.val c
    simp only [evCode] at he
    split at he
    · next hs =>
      rw [hs] at hc
      exact wp_cond_true hc (wp_mono (ihx _ _ F M nx a w ω K h he) (QQ.weaken sub1 (Keep.refl _ _) (Rel.refl _ _ _)))
    · next hs =>
      rw [hs] at hc
      exact wp_cond_false hc (wp_mono (ihy _ _ F M nx a w ω K h he) (QQ.weaken sub2 (Keep.refl _ _) (Rel.refl _ _ _)))
    · next b hs =>
      rw [hs] at hc
      replace he : (b = true → ∃ F' M', (∀ t, look F' t = look F t) ∧ (∀ k, ent M' k = ent M k) ∧ evCode P dl sg Gl Γ N cl L cuts x pos (an.take (nl x)) F' M' nx K) ∧ (b = false → ∃ F' M', (∀ t, look F' t = look F t) ∧ (∀ k, ent M' k = ent M k) ∧ evCode P dl sg Gl Γ N cl L cuts y (pos + nr x) (an.drop (nl x)) F' M' nx K) := by
        split at he
        · cases b
          · exact ⟨fun e => (nomatch e), fun _ => ⟨F, M, fun _ => rfl, fun _ => rfl, he⟩⟩
          · exact ⟨fun _ => ⟨F, M, fun _ => rfl, fun _ => rfl, he⟩, fun e => (nomatch e)⟩
        · exact ⟨fun hb => mark_spec (he.1 hb), fun hb => mark_spec (he.2 hb)⟩
      refine wp_cond_split (t := b) hc (fun hb => ?_) (fun hb => ?_)
      · obtain ⟨F', M', hF, hM, hc⟩ := he.1 hb
        exact wp_mono (ihx _ _ F' M' nx a w ω K (h.congr hF hM) hc) (fun e a w hq => QQ.weaken sub1 (Keep.refl _ _) (Rel.refl _ _ _) e a w (QQ.congr hM e a w hq))
      · obtain ⟨F', M', hF, hM, hc⟩ := he.2 hb
        exact wp_mono (ihy _ _ F' M' nx a w ω K (h.congr hF hM) hc) (fun e a w hq => QQ.weaken sub2 (Keep.refl _ _) (Rel.refl _ _ _) e a w (QQ.congr hM e a w hq))
    · exact he.elim
  | block id x ih =>
    intro pos an F M nx a w ω K h he
    simp only [evCode] at he
    refine wp_block (wp_mono (ih _ _ F M nx a w ω _ h he) ?_)
    intro e a1 w1 hq
    cases e with
    | normal => exact hq
    | exit i =>
      show (if i = id then _ else _)
      obtain ⟨ω1, F1, M1, nx1, h1, g1, k1, hK1⟩ := hq
      by_cases hi : i = id
      · rw [if_pos hi]
        subst hi
        have : Nat.beq i i = true := Nat.beq_refl i
        simp only [this] at hK1
        exact ⟨ω1, F1, M1, nx1, h1, g1, k1, hK1⟩
      · rw [if_neg hi]
        have : Nat.beq i id = false := by
          cases hb : Nat.beq i id
          · rfl
          · exact absurd (Nat.eq_of_beq_eq_true hb) hi
        simp only [this] at hK1
        exact ⟨ω1, F1, M1, nx1, h1, g1, k1, hK1⟩
    | ret => exact hq
    | goto l => exact hq
    | panic ch => exact hq
    | outgrown => exact hq
  | loop x ih =>
    intro pos an F M nx a w ω K h he
    simp only [evCode] at he
    generalize resA F an = an at he
    split at he
    · exact he.elim
    · exact he.elim
    · exact he.elim
    · exact he.elim
    · next n r =>
      refine wp_loop_ghost (fun k a' w' => DoneC P Gl N cl (assigned x) a w ω M (fun F M nx => iterN (evCode P dl sg Gl Γ N cl L cuts x pos r) K k F M nx) a' w') n ⟨ω, F, M, nx, h, Rel.refl _ _ _, Keep.refl _ _, he⟩ ?_
      rintro k a1 w1 ⟨ω1, F1, M1, nx1, h1, g1, k1, hK1⟩
      cases k with
      | zero => exact hK1.elim
      | succ k =>
        simp only [iterN] at hK1
        refine wp_mono (ih _ r F1 M1 nx1 a1 w1 ω1 _ h1 hK1) ?_
        intro e a2 w2 hq
        cases e with
        | normal => exact ⟨k, Nat.lt_succ_self k, DoneC.weaken hq (fun _ h => h) k1 g1 (fun _ _ _ h => h)⟩
        | exit id => exact DoneC.weaken hq (fun _ h => h) k1 g1 (fun _ _ _ h => h)
        | ret => exact DoneC.weaken hq (fun _ h => h) k1 g1 (fun _ _ _ h => h)
        | goto l => exact hq
        | panic ch => exact hq
        | outgrown => exact hq
    · next au n0 r =>
      split at he
      · exact he.elim
      next F0 M0 hprep =>
      obtain ⟨hp1, hp2⟩ := prep2_ok (cl := cl) h hprep
      suffices hgoal : (Code.loop x).wp P (QQ P Gl N cl (assigned x) a w ω M0 K) a w from wp_mono hgoal (QQ.weaken (fun _ h => h) (Keep.refl _ _) hp2)
      clear h hprep hp2
      have h := hp1
      clear hp1
      revert he
      generalize autoA au L F0 M0 x n0 = n
      generalize F0 = F at h ⊢
      generalize M0 = M at h ⊢
      intro he
      split at he
      · next l hl =>
        split at he
        · next hcan =>
          obtain ⟨hag, hagl, hinv, hround⟩ := agF_spec he
          obtain ⟨ω0, hst0, hrel0⟩ := head_ok h h (S := assigned x) (Rel.refl _ _ _) (Keep.refl _ _) hcan hagl hag
          refine wp_loop_ghost (fun k a' w' => ∃ s ω', n.inv s ∧ n.μ s = k ∧ St P Gl N (setL N (keepF (assigned x) F) (n.sh s)) (memOf 0 (ovB (n.mh s) (tellB (ent M) (kap (ent M) L l)))) a' w' ω' ∧
              Rel cl w ω M w' ω' (memOf 0 (ovB (n.mh s) (tellB (ent M) (kap (ent M) L l)))) ∧ Keep (assigned x) a a') (n.μ n.init) ⟨n.init, ω0, hinv, rfl, hst0, hrel0, Keep.refl _ _⟩ ?_
          rintro k a1 w1 ⟨s, ω1, hi, rfl, h1, g1, k1⟩
          obtain ⟨F4, M4, hF4, hM4, he4⟩ := mark_spec (hround s hi)
          refine wp_mono (wp_mono (ih _ r _ _ nx a1 w1 ω1 _ (h1.congr hF4 hM4) he4) (QQ.congr hM4)) ?_
          intro e a2 w2 hq
          cases e with
          | normal =>
            obtain ⟨ω2, F2', M2', nx2, h2', g2', k2, hK2⟩ := hq
            simp only at hK2
            split at hK2
            · exact hK2.elim
            next F2 M2 hprep2 =>
            obtain ⟨h2, g2'' ⟩ := prep2_ok (cl := cl) h2' hprep2
            have g2 := g2'.trans g2''
            split at hK2
            · next l' hl' =>
              split at hK2
              · next hcan' =>
                obtain ⟨s', hs'⟩ := hK2
                obtain ⟨hag', hagl', hinv', hμ⟩ := agF_spec hs'
                obtain ⟨ω3, hst3, hrel3⟩ := head_ok h h2 (S := assigned x) (g1.trans g2) (k1.trans k2) hcan' hagl' hag'
                exact ⟨n.μ s', hμ, s', ω3, hinv', rfl, hst3, hrel3, k1.trans k2⟩
              · exact hK2.elim
            · exact hK2.elim
          | exit id => exact DoneC.weaken hq (fun _ h => h) k1 g1 (fun _ _ _ h => h)
          | ret => exact DoneC.weaken hq (fun _ h => h) k1 g1 (fun _ _ _ h => h)
          | goto l => exact hq
          | panic ch => exact hq
          | outgrown => exact hq
        · exact he.elim
      · exact he.elim
  | exit id => intro pos an F M nx a w ω K h he; exact wp_exit ⟨ω, F, M, nx, h, Rel.refl _ _ _, Keep.refl _ _, he⟩
  | ret => intro pos an F M nx a w ω K h he; exact wp_ret ⟨ω, F, M, nx, h, Rel.refl _ _ _, Keep.refl _ _, he⟩
  | rangeFunc f p as b iha ihb => intro pos an F M nx a w ω K h he; exact he.elim
  | scope x ih => intro pos an F M nx a w ω K h he; exact he.elim
  | label l => intro pos an F M nx a w ω K h he; exact he.elim
  | goto l => intro pos an F M nx a w ω K h he; exact he.elim
  | refuse s => intro pos an F M nx a w ω K h he; exact he.elim
/-! ### results, bodies -/
def rvSem (tmps : Array Value) : ResultVar → Sem Value
  | .tmp t => pure (tmps.getD t undef)
  | .cell ad t => do loadVar t (← asAddr (tmps.getD ad undef))
theorem res_run (hm : MemOK w ω M) (hF : FrOK w ω N F a.tmps) : ∀ (rs : List ResultVar) (K : List SV → Prop) (acc : List SV) (accv : List Value), DenL w ω acc accv → evRes P F M K rs acc →
    ∃ vs l, (rs.mapM (rvSem a.tmps)).run P w = .ok vs w ∧ DenL w ω l (accv.reverse ++ vs) ∧ K l
  | [], K, acc, accv, ha, he => by
    refine ⟨[], acc.reverse, by simp, ?_, he⟩
    rw [List.append_nil]
    have rev : ∀ {F : List SV} {l : List Value}, DenL w ω F l → DenL w ω F.reverse l.reverse := by
      intro F
      induction F with
      | nil => intro l h; cases l with
        | nil => trivial
        | cons _ _ => exact h.elim
      | cons s r ih => intro l h; cases l with
        | nil => exact h.elim
        | cons u t => rw [List.reverse_cons, List.reverse_cons]; exact (ih h.2).append ⟨h.1, trivial⟩
    exact rev ha
  | .tmp t :: r, K, acc, accv, ha, he => by
    have hd : Den w ω (look F t) (a.tmps.getD t undef) := hF.get t
    obtain ⟨vs, l, h1, h2, h3⟩ := res_run hm hF r K (look F t :: acc) (a.tmps.getD t undef :: accv) ⟨hd, ha⟩ he
    refine ⟨a.tmps.getD t undef :: vs, l, ?_, by simpa using h2, h3⟩
    simp only [List.mapM_cons, rvSem, Sem.run_bind, Sem.run_pure, Result.andThen_ok, h1]
  | .cell ad T :: r, K, acc, accv, ha, he => by
    have hd : Den w ω (look F ad) (a.tmps.getD ad undef) := hF.get ad
    simp only [evRes] at he
    obtain ⟨s, v, p, e, hr, hs, hK⟩ := load_core hm hd he
    obtain ⟨vs, l, h1, h2, h3⟩ := res_run hm hF r K (s :: acc) (v :: accv) ⟨hs, ha⟩ hK
    refine ⟨v :: vs, l, ?_, by simpa using h2, h3⟩
    have ha : (asAddr (a.tmps.getD ad undef)).run P w = .ok p w := by rw [e]; rfl
    simp only [List.mapM_cons, rvSem, Sem.run_bind, ha, Sem.run_pure, Result.andThen_ok, hr, h1]
theorem single_or {l : List SV} {vs : List Value} (h : DenL w ω l vs) : (∃ s v, l = [s] ∧ vs = [v] ∧ Den w ω s v) ∨ ((∀ s, l ≠ [s]) ∧ vs.length ≠ 1) := by
  match l, vs, h with
  | [], [], _ => exact .inr ⟨by simp, by simp⟩
  | [s], [v], ⟨h, _⟩ => exact .inl ⟨s, v, rfl, rfl, h⟩
  | _ :: _ :: _, _ :: _ :: _, _ => exact .inr ⟨by simp, by simp⟩
def Ow.less (o : Ow) : Ow := ⟨fun b => ∃ k p L, o.β k p = some L ∧ L.b = b, o.Z, o.β, o.cur⟩
theorem less_ext (hm : MemOK w ω M) : Ext w ω w ω.less := ⟨rfl, rfl, rfl, fun _ _ _ => rfl, fun b _ h h' => h (hm.own b h'), fun _ _ _ h => h, Nat.le_refl _, fun _ => ⟨Nat.le_refl _, Nat.le_refl _⟩, fun _ _ _ h _ => h, fun _ h => h⟩
theorem less_ok (hm : MemOK w ω M) : MemOK w ω.less M where
  cur := hm.cur
  own := fun _ h => h
  lowA := fun b h => hm.lowA b (hm.own b h)
  dj := fun b h => hm.dj b (hm.own b h)
  lowZ := hm.lowZ
  inj := hm.inj
  low := hm.low
  row := fun k p L hL => by
    obtain ⟨r, h1, h2, h3, h4⟩ := hm.row k p L hL
    exact ⟨r, h1, h2, h3, RowOK.ext (less_ext hm) rfl (fun _ => rfl) rfl h4⟩
  live := hm.live
  hol := hm.hol
theorem out_den (hm : MemOK w ω M) {κ : List Nat} {B : List Blk} (ht : MemOK w (tellω ω κ B) (memOf 0 B)) {s : SV} : ∀ {u : Value}, Den w ω s u → Den w (tellω ω κ B).less (outS (ent M) κ s) u := by
  have hb : Ext w ω.bare w (tellω ω κ B).less.bare := (tell_bare κ B).trans (less_ext ht).bare
  have hin : ∀ {s : SV} {u : Value}, Den w ω s u → Den w (tellω ω κ B).less (mref (tellφ (ent M) κ) false s) u := fun hd => (tell_den hm κ B hd).ext (less_ext ht)
  have hro : ∀ {s : SV} {u : Value}, Den w ω s u → Den w (tellω ω κ B).less (ro false 12 (ent M) κ s) u := by
    intro s u hd
    refine (ro_den (ω' := (tellω ω κ B).less) hm ?_ hb (fun _ b h => hm.dj b h) 12 hd).up
    rintro b ⟨q, p, L, h1, h2⟩
    obtain ⟨k, e1, e2, _⟩ := tell_β h1
    exact ⟨k, List.mem_of_getElem? e1, p, L, e2, h2⟩
  induction s with
  | ptr k s p i j => intro u hd; simp only [outS]; split; exact hin hd; exact hro hd
  | pe k s p i j n z => intro u hd; simp only [outS]; split; exact hin hd; exact hro hd
  | slc k s p e n => intro u hd; simp only [outS]; split; exact hin hd; exact hro hd
  | sa k s p i j n => intro u hd; simp only [outS]; split; exact hin hd; exact hro hd
  | ag n f ih => intro u hd; obtain ⟨cs, rfl, hs, hj⟩ := hd; exact ⟨cs, rfl, hs, fun j hjn => let ⟨x, h1, h2⟩ := hj j hjn; ⟨x, h1, ih j h2⟩⟩
  | tp n f ih => intro u hd; obtain ⟨cs, rfl, hs, hj⟩ := hd; exact ⟨cs, rfl, hs, fun j hjn => let ⟨x, h1, h2⟩ := hj j hjn; ⟨x, h1, ih j h2⟩⟩
  | fn id n f ih => intro u hd; obtain ⟨cs, rfl, hs, hj⟩ := hd; exact ⟨cs, rfl, hs, fun j hjn => let ⟨x, h1, h2⟩ := hj j hjn; ⟨x, h1, ih j h2⟩⟩
  | bm id s ih => intro u hd; obtain ⟨x, rfl, hx⟩ := hd; exact ⟨x, rfl, ih hx⟩
  | mv nm s ih => intro u hd; obtain ⟨x, rfl, hx⟩ := hd; exact ⟨x, rfl, ih hx⟩
  | ic t s ih => intro u hd; obtain ⟨x, rfl, hx⟩ := hd; exact ⟨x, rfl, ih hx⟩
  | pt q n f => intro u hd; exact Den.ext (o := ω.bare) (o' := (tellω ω κ B).less.bare) (s := .pt q n f) hb hd
  | sl q sz n f => intro u hd; exact Den.ext (o := ω.bare) (o' := (tellω ω κ B).less.bare) (s := .sl q sz n f) hb hd
  | pa q sz n f => intro u hd; exact Den.ext (o := ω.bare) (o' := (tellω ω κ B).less.bare) (s := .pa q sz n f) hb hd
  | er t tf e z => intro u hd; exact Den.ext (o := ω.bare) (o' := (tellω ω κ B).less.bare) (s := .er t tf e z) hb hd
  | _ => intro u hd; exact hd
theorem nilEnd_ok {mem' : List Blk} : ∀ {l t l' : List SV} {M M' : Mem} {nx : Nat} {vs : List Value}, MemOK w ω M → DenL w ω l vs → nilEnd mem' l t M nx = some (l', M') → DenL w ω l' vs ∧ MemOK w ω M' ∧ Rel cl w ω M w ω M'
  | [], t, l', M, M', nx, vs, hm, hd, he => by
    simp only [nilEnd, Option.some.injEq, Prod.mk.injEq] at he
    obtain ⟨rfl, rfl⟩ := he
    exact ⟨hd, hm, Rel.refl _ _ _⟩
  | s :: r, [], l', M, M', nx, vs, hm, hd, he => by
    simp only [nilEnd, Option.some.injEq, Prod.mk.injEq] at he
    obtain ⟨rfl, rfl⟩ := he
    exact ⟨hd, hm, Rel.refl _ _ _⟩
  | s :: r, t :: q, l', M, M', nx, [], hm, hd, he => hd.elim
  | s :: r, t :: q, l', M, M', nx, v :: vs, hm, ⟨hd1, hd2⟩, he => by
    unfold nilEnd at he
    split at he
    · split at he
      · split at he
        · next x hx =>
          split at he
          · next y hy =>
            obtain ⟨x1, x2⟩ := x
            simp only [Option.some.injEq, Prod.mk.injEq] at he
            obtain ⟨rfl, rfl⟩ := he
            obtain ⟨g1, g2, g3⟩ := ownNil_ok (cl := cl) hm hd1 hx
            obtain ⟨k1, k2, k3⟩ := nilEnd_ok g2 hd2 hy
            exact ⟨⟨g1, k1⟩, k2, g3.trans k3⟩
          · cases he
        · cases he
      · cases he
    · split at he
      · next y hy =>
        simp only [Option.some.injEq, Prod.mk.injEq] at he
        obtain ⟨rfl, rfl⟩ := he
        obtain ⟨k1, k2, k3⟩ := nilEnd_ok hm hd2 hy
        exact ⟨⟨hd1, k1⟩, k2, k3⟩
      · cases he
theorem ret_ok (h : St P Gl N F M a w ω) {nx : Nat} {fn : Func} {res : SV} {mem' : List Blk} (he : evRes P F M (evEnd cl L M nx res mem') fn.results.toList []) :
    ∃ v ω', (results fn a.tmps).run P w = .ok v w ∧ Den w ω' res v ∧ MemOK w ω' (memOf 0 mem') ∧ Rel cl w ω M w ω' (memOf 0 mem') := by
  obtain ⟨vs, l, h1, h2, h3⟩ := res_run (a := a) h.mem h.frame _ _ [] [] trivial he
  simp only [List.reverse_nil, List.nil_append] at h2
  have hlen := h2.len
  have hr : ∀ v, (v = if h : vs.toArray.size = 1 then vs.toArray[0] else .tuple vs.toArray) → (results fn a.tmps).run P w = .ok v w := by
    intro v hv
    have e : results fn a.tmps = (do let vs ← fn.results.mapM (rvSem a.tmps); pure (if h : vs.size = 1 then vs[0] else .tuple vs)) := by
      unfold results
      congr 1
    rw [e]
    simp only [Array.mapM_eq_mapM_toList, Sem.run_bind, Sem.run_map, h1, Result.andThen_ok, Sem.run_pure, hv]
  unfold evEnd at h3
  split at h3
  rotate_left
  · exact h3.elim
  next x hx =>
  obtain ⟨l0, M0⟩ := x
  obtain ⟨h2, hm0, hr0⟩ := nilEnd_ok (cl := cl) h.mem h2 hx
  have hlen := h2.len
  have h : St P Gl N [] M0 { a with tmps := Array.replicate N undef } w ω := ⟨⟨by simp, fun i u hu => trivial, fun i _ => rfl⟩, h.globs, hm0, h.defers⟩
  revert h3 h2 hlen
  generalize l0 = l
  intro h3 h2 hlen
  simp only [evEnd0] at h3
  split at h3
  · next hc =>
    revert hc h3
    generalize (kap (ent M0) L (l.flatMap refsS)).take mem'.length = κ
    intro hc h3
    obtain ⟨h4, h5⟩ := h3
    obtain ⟨g1, g2⟩ := h.tell' hc h5
    have hden : ∀ {s : SV} {x : Value}, Den w ω s x → Den w (tellω ω κ mem').less (outS (ent M0) κ s) x := fun hd => out_den h.mem g1 hd
    have g2 := hr0.trans (g2.trans (Rel.of (cl := cl) g1 (less_ok g1) (less_ext g1)))
    have g1 := less_ok g1
    split at h4
    · next s =>
      rcases single_or h2 with ⟨s', v, e1, rfl, hd'⟩ | ⟨h6, _⟩
      · obtain rfl : s = s' := by simpa using e1
        exact ⟨v, _, hr v (by simp), agV_den h4 (hden hd'), g1, g2⟩
      · exact absurd rfl (h6 s)
    · next l' hne =>
      refine ⟨.tuple vs.toArray, _, hr _ ?_, agV_den h4 ⟨_, rfl, by simpa using hlen.symm, fun j hj => ?_⟩, g1, g2⟩
      · rw [dif_neg]
        intro e
        rcases single_or h2 with ⟨s, v, rfl, _⟩ | ⟨_, h6⟩
        · exact hne s rfl
        · exact h6 (by simpa using e)
      · obtain ⟨x, e1, e2⟩ := h2.get? j hj
        refine ⟨x, by simpa using e1, ?_⟩
        have : lsv (l.map fun s => outS (ent M0) κ s) j = outS (ent M0) κ (l.getD j .junk) := by simp [lsv, List.getD_eq_getElem?_getD, hj]
        rw [this]
        exact hden e2
  · exact h3.elim
theorem argF_look : ∀ (l : List SV) (k i : Nat), i < l.length → look (argF k l) (k + i) = l.getD i .junk
  | [], _, _, h => absurd h (by simp)
  | s :: r, k, 0, _ => by simp [argF, look_eq]
  | s :: r, k, i + 1, h => by
    rw [argF, look_ne (by omega), show k + (i + 1) = (k + 1) + i by omega, argF_look r (k + 1) i (by simpa using h)]
    simp
theorem argF_out : ∀ (l : List SV) (k i : Nat), k + l.length ≤ i → look (argF k l) i = .junk
  | [], _, _, _ => rfl
  | s :: r, k, i, h => by
    simp only [List.length_cons] at h
    rw [argF, look_ne (by omega), argF_out r (k + 1) i (by omega)]
theorem body_ok (hS : Sound P Gl Γ) {sg : Bool} {f : Nat} {fn : Func} (hf : P.funcs[f]? = some fn) {args : List SV} {mem : List Blk} {an : List An} {res : SV} {mem' : List Blk} (he : evBody P sg Gl Γ fn args mem an res mem') : FnC P Gl f args mem res mem' := by
  intro w ω vs hG hm hargs
  unfold evBody at he
  split at he
  · next c hc =>
    refine calls_of_wp hf hc ?_
    split at he
    · exact he.elim
    next hle =>
    have hle := Nat.le_of_ble_eq_true hle
    have hlen := hargs.len
    simp at hlen
    have hst : St P Gl fn.ntmps (argF 0 args) (memOf 0 mem) { tmps := vs ++ Array.replicate (fn.ntmps - vs.size) undef, defers := [] } w ω := by
      refine ⟨⟨by simp; omega, ?_, ?_⟩, hG, hm, rfl⟩
      · intro i u hu
        by_cases hi : i < args.length
        · obtain ⟨x, h1, h2⟩ := hargs.get? i hi
          rw [show look (argF 0 args) i = args.getD i .junk by have := argF_look args 0 i hi; rwa [Nat.zero_add] at this]
          rw [Array.getElem?_append_left (by omega)] at hu
          have h1 : vs[i]? = some x := by simpa using h1
          obtain rfl := Option.some.inj (hu.symm.trans h1)
          exact h2
        · rw [argF_out args 0 i (by omega)]
          trivial
      · intro i hi
        exact argF_out args 0 i (by omega)
    refine wp_mono (evCode_ok hS c _ (unDec an) _ _ _ _ w ω _ hst he) ?_
    have fin : ∀ {a' : Act} {w' : World} {ω1 : Ow} {F1 : Fr} {M1 : Mem} {nx1 : Nat}, St P Gl fn.ntmps F1 M1 a' w' ω1 → Rel (clOf mem) w ω (memOf 0 mem) w' ω1 M1 → evRes P F1 M1 (evEnd (clOf mem) (headsL (ent (memOf 0 mem)) mem.length) M1 nx1 res mem') fn.results.toList [] →
        ∃ v, (results fn a'.tmps).run P w' = .ok v w' ∧ ∃ v' ω', (Ending.returned v) = .returned v' ∧ Aft w ω w' ω' ∧ MemOK w' ω' (memOf 0 mem') ∧ Den w' ω' res v' ∧ ∀ k l, mem[k]? = some (.cells l) → ω'.β k none = ω.β k none := by
      intro a' w' ω1 F1 M1 nx1 h1 g1 hK
      obtain ⟨v, ω', hr, hd, hm', hrel⟩ := ret_ok h1 hK
      have hR := g1.trans hrel
      refine ⟨v, hr, v, ω', rfl, ⟨hR.bare.os, hR.bare.tape, hR.bare.output, hR.bare.same, hR.bare.free, hR.bare.zs, hR.bare.size⟩, hm', hd, fun k l hk => ?_⟩
      have hkl := (List.getElem?_eq_some_iff.1 hk).1
      have hmem : k ∈ clOf mem := by
        unfold clOf
        rw [List.mem_filter]
        exact ⟨List.mem_range.2 hkl, by simp [hk]⟩
      obtain ⟨L, hL⟩ := hm.live k l (by rw [memOf_ent, hk])
      have h0 : (ent (memOf 0 mem') k).rs = 0 := by rw [memOf_ent]; split <;> rfl
      rw [(hR.lent k hmem h0).2 L hL, hL]
    intro e a' w' hq
    cases e with
    | normal =>
      obtain ⟨ω1, F1, M1, nx1, h1, g1, k1, hK⟩ := hq
      obtain ⟨v, h2, h3⟩ := fin h1 g1 hK
      exact ⟨h1.defers, v, h2, h3⟩
    | ret =>
      obtain ⟨ω1, F1, M1, nx1, h1, g1, k1, hK⟩ := hq
      obtain ⟨v, h2, h3⟩ := fin h1 g1 hK
      exact ⟨h1.defers, v, h2, h3⟩
    | exit id => obtain ⟨_, _, _, _, _, _, _, hK⟩ := hq; exact hK.elim
    | goto l => exact hq.elim
    | panic ch => exact hq.elim
    | outgrown => exact hq.elim
  · exact he.elim
end
end Go.Sy
set_option linter.unusedVariables false
set_option linter.unusedSimpArgs false
namespace Go.Sy
open Go.RowKit
def agA : List SV → List SV → Prop
  | [], [] => True
  | a :: r, b :: t => agV a b ∧ agA r t
  | _, _ => False
theorem agA_den {w : World} {o : Ow} : ∀ {l m : List SV} {us : List Value}, agA l m → DenL w o l us → DenL w o m us
  | [], [], [], _, h => h
  | _ :: _, _ :: _, _ :: _, ⟨h1, h2⟩, ⟨h3, h4⟩ => ⟨agV_den h1 h3, agA_den h2 h4⟩
  | [], _ :: _, _, h, _ => h.elim
  | _ :: _, [], _, h, _ => h.elim
  | [], [], _ :: _, _, h => h.elim
  | _ :: _, _ :: _, [], _, h => h.elim
def inn (mem : List Blk) : Nat → Ent := ent (memOf 0 mem)
theorem FnC.more {P : Program} {Gl : Nat → SV} {f : Nat} {A : List SV} {B : List Blk} {res : SV} {B' : List Blk} (h : FnC P Gl f A B res B') {args : List SV} {mem : List Blk}
    (ha : agA (args.map fun s => mref (tellφ (inn mem) (List.range mem.length)) false s) A) (hb : agL (tellB (inn mem) (List.range mem.length)) B) : FnC P Gl f args mem res B' := by
  intro w ω vs hG hm hd
  have hlen : mem.length = B.length := by have := agL_len hb; simpa [tellB] using this
  have get : ∀ {k : Nat}, k < mem.length → (List.range mem.length)[k]? = some k := fun hk => List.getElem?_range hk
  have hwh : ∀ k ∈ List.range mem.length, whole (ent (memOf 0 mem) k) = true := by
    intro k hk
    have hk := List.mem_range.1 hk
    have e1 : (tellB (inn mem) (List.range mem.length))[k]? = some (blkRen (tellφ (inn mem) (List.range mem.length)) false (inn mem k).b) := by
      simp [tellB, hk]
    have hg := agL_get hb e1 (List.getElem?_eq_getElem (by omega))
    have e2 : ent (memOf 0 mem) k = ⟨0, 0, none, mem[k]⟩ := by rw [memOf_ent, List.getElem?_eq_getElem hk]
    unfold inn at hg
    rw [e2] at hg ⊢
    cases hbk : mem[k] with
    | dead => rw [hbk] at hg; exact hg.elim
    | cells _ => rfl
    | row _ _ _ => rfl
  have ht := tell_ok hm List.nodup_range hwh hb
  have hden : ∀ {s : SV} {x : Value}, Den w ω s x → Den w (tellω ω (List.range mem.length) B) (mref (tellφ (ent (memOf 0 mem)) (List.range mem.length)) false s) x := fun hd => tell_den hm _ _ hd
  refine (h w (tellω ω (List.range mem.length) B) vs (fun g => Den.ext (o := ω.bare) (tell_bare _ _) (hG g)) ht (agA_den ha (hd.map fun s u hs => hden hs))).mono ?_
  rintro e w' ⟨v, ω', rfl, h1, h2, h3, h4⟩
  refine ⟨v, ω', rfl, ⟨h1.os, h1.tape, h1.output, h1.same, h1.free, h1.lent, h1.size⟩, h2, h3, fun k l hk => ?_⟩
  have hkl := (List.getElem?_eq_some_iff.1 hk).1
  have e1 : (tellB (inn mem) (List.range mem.length))[k]? = some (blkRen (tellφ (inn mem) (List.range mem.length)) false (inn mem k).b) := by
    simp [tellB, hkl]
  have hbk : B[k]? = some B[k] := List.getElem?_eq_getElem (by omega)
  have hg := agL_get hb e1 hbk
  have e2 : inn mem k = ⟨0, 0, none, .cells l⟩ := by unfold inn; rw [memOf_ent, hk]
  rw [e2] at hg
  cases hB : B[k] with
  | dead => rw [hB] at hg; exact hg.elim
  | row _ _ _ => rw [hB] at hg; exact hg.elim
  | cells l' => rw [h4 k l' (by rw [hbk, hB]), tell_none (get hkl)]
def intD : SV → Int | .v (.int _ x) => x | _ => 0
def boolD : SV → Bool | .v (.bool x) => x | .bl x => x | _ => false
def agD : SV → Nat → SV | .ag _ f, j => f j | .tp _ f, j => f j | _, _ => .junk
def slN : SV → Nat | .sl _ _ n _ => n | _ => 0
def slF : SV → Nat → Nat → SV | .sl _ _ _ f, i, j => f i j | _, _, _ => .junk
def ptF : SV → Nat → SV | .pt _ _ f, j => f j | _, _ => .junk
def erE : SV → Int | .er _ _ e _ => e | .v (.iface _ (.int _ c)) => c | .ic _ (.pt _ _ f) => (match f 1 with | .er _ _ c _ => c | .v (.iface _ (.int _ c)) => c | _ => 0) | _ => 0
def erA : SV → Int | .er _ _ _ z => z | .ic _ (.pt _ _ f) => (match f 0 with | .v (.int _ a) => a | _ => 0) | _ => -1
structure Spec where
  X : Type
  args : X → List SV
  mem : X → List Blk
  pre : X → Prop
  res : X → SV
  mem' : X → List Blk
  dec : List SV → List Blk → Option X
def Spec.g (s : Spec) (args : List SV) (mem : List Blk) : Option (Prop × SV × List Blk) :=
  match s.dec args mem with
  | some x => some (agA (args.map fun s => mref (tellφ (inn mem) (List.range mem.length)) false s) (s.args x) ∧ agL (tellB (inn mem) (List.range mem.length)) (s.mem x) ∧ s.pre x, s.res x, s.mem' x)
  | none => none
structure FnOK (P : Program) (Gl : Nat → SV) (f : Nat) (c : Con) : Prop where
  call : ∀ (l : Array Value) (w : World), (callFunc f l).run P w = .ok (.enter f l) w
  fn : ∀ args mem pre res mem', c.g args mem = some (pre, res, mem') → pre → FnC P Gl f args mem res mem'
  pj : ∀ n, c.pj = some n → ProjC P f n
theorem fnOK_of {P : Program} {Gl : Nat → SV} {f : Nat} {ws : List Bool} {s : Spec} (hc : ∀ (l : Array Value) (w : World), (callFunc f l).run P w = .ok (.enter f l) w)
    (h : ∀ x, s.pre x → FnC P Gl f (s.args x) (s.mem x) (s.res x) (s.mem' x)) : FnOK P Gl f ⟨ws, s.g, none⟩ := by
  refine ⟨hc, fun args mem pre res mem' e hp => ?_, fun n e => nomatch e⟩
  have e : s.g args mem = some (pre, res, mem') := e
  unfold Spec.g at e
  split at e
  · next x hx =>
    simp only [Option.some.injEq, Prod.mk.injEq] at e
    obtain ⟨rfl, rfl, rfl⟩ := e
    exact (h x hp.2.2).more hp.1 hp.2.1
  · cases e
def Con.or (a b : Con) : Con := ⟨a.ws, fun l m => match a.g l m with | some x => some x | none => b.g l m, none⟩
theorem FnOK.or {P : Program} {Gl : Nat → SV} {f : Nat} {a b : Con} (ha : FnOK P Gl f a) (hb : FnOK P Gl f b) : FnOK P Gl f (a.or b) := by
  refine ⟨ha.call, fun args mem pre res mem' e hp => ?_, fun n e => nomatch e⟩
  have e : (match a.g args mem with | some x => some x | none => b.g args mem) = some (pre, res, mem') := e
  split at e
  · next x hx =>
    obtain rfl := Option.some.inj e
    exact ha.fn args mem _ _ _ hx hp
  · exact hb.fn args mem pre res mem' e hp
def isFn (k : Nat) : SV → Bool
  | .fn id _ _ => Nat.beq id k
  | _ => false
def fnF : SV → Nat → SV
  | .fn _ _ f, j => f j
  | _, _ => .junk
def mkT : List (Nat × Con) → Table
  | [], _ => none
  | p :: r, f => match Nat.beq p.1 f with | true => some p.2 | false => mkT r f
section
variable {P : Program} {Gl : Nat → SV}
theorem sound_nil : Sound P Gl (mkT []) := ⟨fun _ _ h => (nomatch h), fun _ _ _ _ _ _ _ h => (nomatch h), fun _ _ _ h => (nomatch h)⟩
theorem sound_cons {g : Nat} {s : Con} {r : List (Nat × Con)} (h : FnOK P Gl g s) (hr : Sound P Gl (mkT r)) : Sound P Gl (mkT ((g, s) :: r)) := by
  constructor
  · intro f c e
    simp only [mkT] at e
    split at e
    · next hb => obtain rfl := Nat.eq_of_beq_eq_true hb; exact h.call
    · exact hr.call f c e
  · intro f c args mem pre res mem' e
    simp only [mkT] at e
    split at e
    · next hb =>
      obtain rfl := Nat.eq_of_beq_eq_true hb
      obtain rfl := Option.some.inj e
      exact h.fn args mem pre res mem'
    · exact hr.fn f c args mem pre res mem' e
  · intro f c n e
    simp only [mkT] at e
    split at e
    · next hb =>
      obtain rfl := Nat.eq_of_beq_eq_true hb
      obtain rfl := Option.some.inj e
      exact h.pj n
    · exact hr.pj f c n e
theorem fn_of {Γ : Table} (hS : Sound P Gl Γ) (sg : Bool) {f : Nat} {fn : Func} (hf : P.funcs[f]? = some fn) {args : List SV} {mem : List Blk} (an : List An) {res : SV} {mem' : List Blk} {V : Prop} (he : evBody P sg Gl Γ fn args mem an res mem' = V) (hV : V) : FnC P Gl f args mem res mem' :=
  body_ok hS hf (he ▸ hV)
end
def blkN : Blk → Nat | .row _ n _ => n | _ => 0
def blkF : Blk → Nat → Nat → SV | .row _ _ f => f | .cells l => fun _ j => lsv l j | .dead => fun _ _ => .junk
def rowN (mem : List Blk) (k : Nat) : Nat := blkN (mem.getD k .dead)
def rowF (mem : List Blk) (k i j : Nat) : SV := blkF (mem.getD k .dead) i j
def celF (mem : List Blk) (k j : Nat) : SV := blkF (mem.getD k .dead) 0 j
def ilN : SV → Nat | .il _ n _ => n | .sl _ _ n _ => n | _ => 0
def ilF : SV → Nat → Nat → SV | .il _ _ f, i, j => f i j | .sl _ _ _ f, i, j => f i j | _, _, _ => .junk
def tn : Nat → Prop → Prop
  | 0, p => p
  | n + 1, p => True ∧ tn n p
abbrev w64 (x : Int) : Int := IntKind.wrap .i64 x
section
variable {P : Program} {Gl : Nat → SV}
theorem Sound.nil : Sound P Gl (mkT []) := sound_nil
theorem Sound.cons {g : Nat} {s : Con} {r : List (Nat × Con)} (h : FnOK P Gl g s) (hr : Sound P Gl (mkT r)) : Sound P Gl (mkT ((g, s) :: r)) := sound_cons h hr
theorem ok_of {f : Nat} {fn : Func} {ws : List Bool} {s : Spec} {Γ : Table} (hS : Sound P Gl Γ) (sg : Bool) (hc : ∀ (l : Array Value) (w : World), (callFunc f l).run P w = .ok (.enter f l) w) (hf : P.funcs[f]? = some fn) (an : s.X → List An) {V : s.X → Prop}
    (he : ∀ x, evBody P sg Gl Γ fn (s.args x) (s.mem x) (an x) (s.res x) (s.mem' x) = V x) (hV : ∀ x, s.pre x → V x) : FnOK P Gl f ⟨ws, s.g, none⟩ :=
  fnOK_of hc fun x hp => fn_of hS sg hf (an x) (he x) (hV x hp)
end
theorem std : (∀ p : Prop, (True ∧ p) = p) ∧ (∀ p : Prop, (p ∧ True) = p) ∧ (∀ p : Prop, (p ∧ p) = p) ∧ (∀ n : Nat, ((n : Nat) : Int).toNat = n) ∧ (∀ n : Nat, 0 + n = n) ∧ (∀ n : Nat, (0 : Int) ≤ (n : Int)) ∧ (∀ n : Nat, ¬ n < 0) ∧ (∀ p : Prop, (False → p) = True) ∧ (∀ n : Nat, 0 ≤ n) ∧ ((0 : Nat) : Int) = 0 :=
  ⟨true_and, and_true, and_self, Int.toNat_natCast, Nat.zero_add, Int.natCast_nonneg, Nat.not_lt_zero, false_implies, Nat.zero_le, Int.natCast_zero⟩
theorem stb : (∀ c f : Bool, (bif c then true else f) = (c || f)) ∧ (∀ c t : Bool, (bif c then t else false) = (c && t)) ∧ (∀ c t : Bool, (bif c then t else true) = (!c || t)) ∧ (∀ c f : Bool, (bif c then false else f) = (!c && f)) :=
  ⟨Bool.cond_true_left, Bool.cond_false_right, Bool.cond_true_right, Bool.cond_false_left⟩
end Go.Sy
