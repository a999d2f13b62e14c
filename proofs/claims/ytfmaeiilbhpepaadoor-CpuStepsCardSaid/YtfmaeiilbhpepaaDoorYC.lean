/-
  Sy: regions that draw their order: one operation, seen by what is before it.
-/
import Derived.Test.YtfmaeiilbhpepaaDoorYB
import Derived.Orders
import Derived.Deep.LoopGhost
import Derived.ChangeArms
import Derived.OpenShut
import Derived.DataReads
import Derived.WideShapes
set_option linter.unusedVariables false
set_option linter.unusedSimpArgs false
set_option linter.unusedVariables false
set_option linter.unusedSimpArgs false
namespace Go.Sy
open Go.RowKit

/-- What an operation leaves: slots, guarded slots, new roots. -/
structure Rc where
  fs : List (Nat × SV)
  hs : List Hd
  u : Upd
def rcAt (rs : List Rc) (j : Nat) : Rc := rs.getD j ⟨[], [], []⟩
def vF (rs : List Rc) (F : Fr) (E : List Nat) : Fr := E.flatMap (fun j => (rcAt rs j).fs) ++ F
def vM (rs : List Rc) (M : Mem) (E : List Nat) : Mem := E.flatMap (fun j => (rcAt rs j).u) ++ M
def vH (rs : List Rc) (E : List Nat) : List Hd := E.flatMap fun j => (rcAt rs j).hs
def noisy : Op → Bool
  | .store _ _ _ => true
  | .call { callee := .builtin .append, args := _, argTypes := _ } => true
  | _ => false
def ent1 (N : Nat) (d : Option Nat) (s : SV) : List (Nat × SV) := match d with | some t => (match Nat.blt t N with | true => [(t, s)] | false => []) | none => []
def evalQ (P : Program) (sg : Bool) (Gl : Nat → SV) (Γ : Table) (N : Nat) (ops : List Oper) (V : Fr) (M : Mem) (H : List Hd) (nx : Nat) (pr : List Nat) (o : Oper) : Option (Prop × Rc) :=
  match freeH H o.dst, guardOf N ops V H o, noisy o.op with
  | true, .yes, false =>
    match evO2 P sg Gl Γ V M nx H [] o.op with
    | .ok s => some (True, ⟨ent1 N o.dst s, [], []⟩)
    | .asm _ s => some (True, ⟨ent1 N o.dst s, [], []⟩)
    | .req p s => some (p, ⟨ent1 N o.dst s, [], []⟩)
    | .mem p s u => match freeU (ent M) u with | true => some (p, ⟨ent1 N o.dst s, [], u⟩) | false => none
    | .bad => none
  | true, .no, _ => some (True, ⟨ent1 N o.dst (.v undef), [], []⟩)
  | true, .ask d want, false =>
    match o.dst, evO2 P sg Gl Γ V M nx H (clo H H.length d want) o.op with
    | some t, .ok s => match Nat.blt t N && !Nat.beq d t with | true => some (True, ⟨[(t, .junk)], [⟨t, d, want, s⟩], []⟩) | false => none
    | some t, .asm _ s => match Nat.blt t N && !Nat.beq d t with | true => some (True, ⟨[(t, .junk)], [⟨t, d, want, s⟩], []⟩) | false => none
    | some t, .req p s => match Nat.blt t N && !Nat.beq d t with | true => some (hyps (openF (clo H H.length d want) V H) (clo H H.length d want) p, ⟨[(t, .junk)], [⟨t, d, want, s⟩], []⟩) | false => none
    | some t, .mem p s [] => match Nat.blt t N && !Nat.beq d t with | true => some (hyps (openF (clo H H.length d want) V H) (clo H H.length d want) p, ⟨[(t, .junk)], [⟨t, d, want, s⟩], []⟩) | false => none
    | _, _ => none
  | _, _, _ => none

section
variable {P : Program} {w : World} {ω : Ow} {ρ : Operand → SV} {Gl : Nat → SV} {Γ : Table} {N : Nat} {F : Fr} {M : Mem} {a : Act} {H : List Hd}
theorem New.refl (w : World) (ω : Ow) : New w ω w ω (fun k => k ∈ ([] : Upd).map (·.1)) := ⟨Cw.refl w, fun _ h => h, rfl, fun _ _ _ => rfl, fun k p L hk => by simp at hk, rfl⟩
inductive OpN (P : Program) (w : World) (ω : Ow) (M : Mem) (a : Act) (o : Oper) (s : SV) : Upd → Prop where
  | pure (v : Value) (h : (execOp a.eval o).run P w = .ok (.value v) w) (hd : Den w ω s v) : OpN P w ω M a o s []
  | mem {u : Upd} (h : MemN P w ω M a o s u) : OpN P w ω M a o s u
  | call {u : Upd} (h : CallS P w ω M a o s u) : OpN P w ω M a o s u
theorem OpN.wp {o : Oper} {s : SV} {u : Upd} (hm : MemOK w ω M) (h : OpN P w ω M a o s u) (hf : freeU (ent M) u = true) {next : Act → World → Prop} {Q : Exit → Act → World → Prop}
    (hn : ∀ v w' ω', Stp w ω M w' ω' (u ++ M) → New w ω w' ω' (fun k => k ∈ u.map (·.1)) → Den w' ω' s v → next (a.put o.dst v) w') : o.wp P a w next Q := by
  unfold Oper.wp
  cases h with
  | pure v h hd => rw [h]; exact hn v w ω (Stp.refl hm) (New.refl _ _) hd
  | mem h =>
    obtain ⟨n, v, w', ω', h1, h2, h3, h4, h5⟩ := h
    rw [h1]
    rcases h2 with rfl | ⟨rfl, rfl⟩
    · exact hn v w' ω' h3 h5 h4
    · exact hn _ w' ω' h3 h5 h4
  | call h =>
    obtain ⟨id, vs, h1, h2⟩ := h
    rw [h1]
    unfold EnterS at h2
    refine h2.mono ?_
    rintro e w' ⟨v, ω', rfl, h3, h4, h5⟩
    exact hn v w' ω' h3 (h5 hf) h4
theorem upN_ok {o : Oper} {r : R} {K : SV → Upd → Prop} (h : ∀ {K' : SV → Prop}, r.run K' → PureOK P w ω a o K') (he : r.up.run K) : ∃ s u, OpN P w ω M a o s u ∧ K s u := by
  have : r.run (fun s => K s []) := by cases r <;> exact he
  obtain ⟨s, v, h1, h2, h3⟩ := h this
  exact ⟨s, [], .pure v h1 h2, h3⟩
theorem upMN_ok {o : Oper} {x : Option (Prop × SV × Upd)} {K : SV → Upd → Prop} (h : ∀ {p s u}, x = some (p, s, u) → p → OpN P w ω M a o s u) (he : (upM x).run K) : ∃ s u, OpN P w ω M a o s u ∧ K s u := by
  cases x with
  | none => exact he.elim
  | some x => exact ⟨_, _, h rfl he.1, he.2⟩
theorem evON_ok (hS : Sound P Gl Γ) (hG : ∀ g, Den w ω.bare (Gl g) (.pointer (some ⟨g, 0, none⟩))) (h : Cx P w ω ρ M a) {sg : Bool} {nx : Nat} {o : Oper} (hq : noisy o.op = false) {K : SV → Upd → Prop} (he : (evO P sg Γ ρ (ent M) nx o.op).run K) :
    ∃ s u, OpN P w ω M a o s u ∧ K s u := by
  unfold evO at he
  split at he
  · next T x ho => exact upMN_ok (fun e hp => .mem (box_ok h ho e)) he
  · next T ho => exact upMN_ok (fun e hp => .mem (alloc_ok h ho e)) he
  · next T x y ho => rw [ho] at hq; cases hq
  · next T x y ho => exact upMN_ok (fun e hp => .mem (make_ok h ho e hp)) he
  · next T len parts ho => exact upMN_ok (fun e hp => .mem (buildS_ok h ho e)) he
  · next x y T T' ho => rw [ho] at hq; cases hq
  · next f args ts ho => exact upMN_ok (fun e hp => .call (call_ok hS hG h ho e hp)) he
  · next r name args ts ho => exact upMN_ok (fun e hp => .call (invoke_ok hS hG h ho e hp)) he
  · next c x y ho => exact upN_ok (fun he => pick_ok h ho he) he
  · exact upN_ok (fun he => evP_ok h he) he
theorem evO2N_ok (hS : Sound P Gl Γ) (h : St P Gl N F M a w ω) (hH : HOK w ω N a H) {sg : Bool} {nx : Nat} {As : List (Nat × Bool)} (hA : AsOK a As) {o : Oper} (hq : noisy o.op = false) {K : SV → Upd → Prop} (he : (evO2 P sg Gl Γ F M nx H As o.op).run K) :
    ∃ s u, OpN P w ω M a o s u ∧ K s u := by
  have ho' : ∀ {As}, AsOK a As → Cx P w ω (opnd Gl (openF As F H)) M a := fun hA => ⟨(openF_ok h.frame hA H hH).opnd h.globs, h.mem⟩
  unfold evO2 at he
  split at he
  · next c x y ho =>
    refine upN_ok ?_ he
    clear he
    intro K' he
    unfold evPickH at he
    split at he
    · next d =>
      split at he
      · next b hb =>
        split at he
        · next p r hp hr =>
          obtain ⟨u, hu, hd⟩ := look_some (openF_ok h.frame hA H hH) hb (by simp)
          obtain rfl := hd
          have ec : a.eval (.tmp d) = .bool b := by
            simp only [Act.eval, Array.getD_eq_getD_getElem?, hu]; rfl
          refine ⟨.v (.bool (bif b then p else r)), .bool (bif b then p else r), ?_, rfl, he⟩
          cases b with
          | true =>
            have hA' := (clo_ok hH H.length d true hu).append hA
            have ex := asB_den hp ((ho' hA').val x)
            simp [execOp, ho, ec, asBool, ex]
          | false =>
            have hA' := (clo_ok hH H.length d false hu).append hA
            have ey := asB_den hr ((ho' hA').val y)
            simp [execOp, ho, ec, asBool, ey]
        · exact he.elim
      · exact pick_ok (ho' hA) ho he
    · exact he.elim
  · exact evON_ok hS h.globs (ho' hA) hq he
/-- What is known behind one operation. -/
def Facts (w : World) (ω : Ow) (N : Nat) (a : Act) (rc : Rc) : Prop := (∀ p ∈ rc.fs, ∀ u, a.tmps[p.1]? = some u → Den w ω p.2 u) ∧ HOK w ω N a rc.hs
theorem ent1_facts {d : Option Nat} {s : SV} {v : Value} (hd : Den w ω s v) : ∀ p ∈ ent1 N d s, ∀ u, (a.put d v).tmps[p.1]? = some u → Den w ω p.2 u := by
  intro p hp u hu
  unfold ent1 at hp
  split at hp
  · next t =>
    split at hp
    · simp only [List.mem_singleton] at hp
      subst hp
      simp only [Act.put] at hu
      rw [Array.getElem?_setIfInBounds_self] at hu
      split at hu
      · obtain rfl := Option.some.inj hu; exact hd
      · cases hu
    · simp at hp
  · simp at hp
/-- One operation, at any state that shows what it looks at. -/
theorem q_ok (hS : Sound P Gl Γ) {sg : Bool} {ops : Array Oper} {Q : Exit → Act → World → Prop} {nx i : Nat} {pr : List Nat} {o : Oper} {p : Prop} {rc : Rc} (ho : ops[i]? = some o) (h : St P Gl N F M a w ω) (hH : HOK w ω N a H)
    (he : evalQ P sg Gl Γ N ops.toList F M H nx pr o = some (p, rc)) (hp : p) {K : Act → World → Prop}
    (hK : ∀ v w' ω', Stp w ω M w' ω' (rc.u ++ M) → New w ω w' ω' (fun k => k ∈ rc.u.map (·.1)) → Facts w' ω' N (a.put o.dst v) rc → K (a.put o.dst v) w') : wpOp P ops Q i K a w := by
  have hgd := guard_ok (ops := ops) h.frame H o
  unfold wpOp
  rw [ho]
  simp only
  unfold evalQ at he
  split at he
  · next hfree hgo hq =>
    rw [hgo] at hgd
    cases hgd with
    | yes hw =>
      rw [if_pos hw]
      left
      have key : ∃ s u, rc = ⟨ent1 N o.dst s, [], u⟩ ∧ freeU (ent M) u = true ∧ (evO2 P sg Gl Γ F M nx H [] o.op).run (fun s' u' => s' = s ∧ u' = u) := by
        split at he
        · next s hr =>
          simp only [Option.some.injEq, Prod.mk.injEq] at he
          exact ⟨s, [], he.2.symm, rfl, by rw [hr]; exact ⟨rfl, rfl⟩⟩
        · next s hr =>
          simp only [Option.some.injEq, Prod.mk.injEq] at he
          exact ⟨s, [], he.2.symm, rfl, by rw [hr]; exact fun _ => ⟨rfl, rfl⟩⟩
        · next s hr =>
          simp only [Option.some.injEq, Prod.mk.injEq] at he
          exact ⟨s, [], he.2.symm, rfl, by rw [hr]; exact ⟨by rw [he.1]; exact hp, rfl, rfl⟩⟩
        · next s u hr =>
          split at he
          · next hf =>
            simp only [Option.some.injEq, Prod.mk.injEq] at he
            exact ⟨s, u, he.2.symm, hf, by rw [hr]; exact ⟨by rw [he.1]; exact hp, rfl, rfl⟩⟩
          · cases he
        · cases he
      obtain ⟨s, u, rfl, hf, hrun⟩ := key
      obtain ⟨s', u', hop, rfl, rfl⟩ := evO2N_ok hS h hH (fun p hp => by cases hp) hq hrun
      exact hop.wp h.mem hf fun v w' ω' h1 h2 h3 => hK v w' ω' h1 h2 ⟨ent1_facts h3, fun x hx => by cases hx⟩
  · next hfree hgo =>
    rw [hgo] at hgd
    cases hgd with
    | no hw =>
      rw [if_neg (by rw [hw]; exact Bool.false_ne_true)]
      simp only [Option.some.injEq, Prod.mk.injEq] at he
      obtain ⟨_, rfl⟩ := he
      exact hK undef w ω (Stp.refl h.mem) (New.refl _ _) ⟨ent1_facts rfl, fun x hx => by cases hx⟩
  · next d want hfree hgo hq =>
    rw [hgo] at hgd
    cases hgd with
    | ask _ _ hw =>
      have chk : ∀ {t : Nat}, (Nat.blt t N && !Nat.beq d t) = true → t < N ∧ d ≠ t := by
        intro t ht
        rw [Bool.and_eq_true, Bool.not_eq_true'] at ht
        exact ⟨Nat.le_of_ble_eq_true ht.1, fun e => by rw [e, Nat.beq_refl] at ht; cases ht.2⟩
      have key : ∃ t s, o.dst = some t ∧ t < N ∧ d ≠ t ∧ rc = ⟨[(t, .junk)], [⟨t, d, want, s⟩], []⟩ ∧ (a.tmps[d]? = some (.bool want) → (evO2 P sg Gl Γ F M nx H (clo H H.length d want) o.op).run (fun s' u' => s' = s ∧ u' = [])) := by
        split at he
        · next t s hdst hr =>
          split at he
          · next hc =>
            simp only [Option.some.injEq, Prod.mk.injEq] at he
            exact ⟨t, s, hdst, (chk hc).1, (chk hc).2, he.2.symm, fun _ => by rw [hr]; exact ⟨rfl, rfl⟩⟩
          · cases he
        · next t _ s hdst hr =>
          split at he
          · next hc =>
            simp only [Option.some.injEq, Prod.mk.injEq] at he
            exact ⟨t, s, hdst, (chk hc).1, (chk hc).2, he.2.symm, fun _ => by rw [hr]; exact fun _ => ⟨rfl, rfl⟩⟩
          · cases he
        · next t p' s hdst hr =>
          split at he
          · next hc =>
            simp only [Option.some.injEq, Prod.mk.injEq] at he
            refine ⟨t, s, hdst, (chk hc).1, (chk hc).2, he.2.symm, fun hdw => ?_⟩
            rw [hr]
            have hA := clo_ok hH H.length d want hdw
            exact ⟨hyps_ok (openF_ok h.frame hA H hH) _ hA (by rw [he.1]; exact hp), rfl, rfl⟩
          · cases he
        · next t p' s hdst hr =>
          split at he
          · next hc =>
            simp only [Option.some.injEq, Prod.mk.injEq] at he
            refine ⟨t, s, hdst, (chk hc).1, (chk hc).2, he.2.symm, fun hdw => ?_⟩
            rw [hr]
            have hA := clo_ok hH H.length d want hdw
            exact ⟨hyps_ok (openF_ok h.frame hA H hH) _ hA (by rw [he.1]; exact hp), rfl, rfl⟩
          · cases he
        · cases he
      obtain ⟨t, s, hdst, ht, hdt, rfl, hrun⟩ := key
      rw [hdst] at hfree
      have facts : ∀ {v : Value} {w' : World} {ω' : Ow}, (a.tmps[d]? = some (.bool want) → Den w' ω' s v) → (a.tmps[d]? ≠ some (.bool want) → v = undef) → Facts w' ω' N (a.put (some t) v) ⟨[(t, .junk)], [⟨t, d, want, s⟩], []⟩ := by
        intro v w' ω' g1 g2
        refine ⟨fun p hp u hu => ?_, ?_⟩
        · simp only [List.mem_singleton] at hp
          subst hp
          trivial
        · exact HOK.cons (H := []) (w := w') (ω := ω') (fun x hx => by cases hx) (by rfl) h.frame.size ht hdt g1 g2
      by_cases hdw : a.tmps[d]? = some (.bool want)
      · rw [if_pos (hw.2 hdw)]
        left
        obtain ⟨s', u', hop, rfl, rfl⟩ := evO2N_ok hS h hH (clo_ok hH H.length d want hdw) hq (hrun hdw)
        refine hop.wp h.mem rfl fun v w' ω' h1 h2 h3 => hK v w' ω' h1 h2 ?_
        rw [hdst]
        exact facts (fun _ => h3) (fun hn => absurd hdw hn)
      · have hwf : Region.wanted o (yielded ops a.tmps) = false := by
          cases hx : Region.wanted o (yielded ops a.tmps) with
          | false => rfl
          | true => exact absurd (hw.1 hx) hdw
        rw [if_neg (by rw [hwf]; exact Bool.false_ne_true)]
        refine hK undef w ω (Stp.refl h.mem) (New.refl _ _) ?_
        rw [hdst]
        exact facts (fun hn => absurd hn hdw) (fun _ => rfl)
  · cases he
/-! ### register operations -/
def isVal : SV → Bool
  | .v _ => true
  | .bl _ => true
  | _ => false
def bareS : SV → SV
  | .v x => .v x
  | .bl b => .bl b
  | _ => .junk
def bareF (V : Fr) : Fr := V.map fun p => (p.1, bareS p.2)
theorem bareF_look : ∀ (V : Fr) (t : Nat), look (bareF V) t = bareS (look V t)
  | [], _ => rfl
  | p :: r, t => by
    simp only [bareF, List.map_cons, look]
    cases Nat.beq p.1 t
    · exact bareF_look r t
    · rfl
def evR (P : Program) (sg : Bool) (V : Fr) (op : Op) : R :=
  match op with
  | .pick c x y => evPick (opnd (fun _ => .junk) (bareF V) c) (opnd (fun _ => .junk) (bareF V) x) (opnd (fun _ => .junk) (bareF V) y)
  | op => evP P sg (opnd (fun _ => .junk) (bareF V)) (ent []) op
/-- A register operation yields the same in every world. -/
theorem reg_ok (hF : FrOK w ω N F a.tmps) {sg : Bool} {o : Oper} {s : SV} (hs : isVal s = true) (he : (evR P sg F o.op).run (fun s' => s' = s)) :
    ∃ v, (∀ w', (execOp a.eval o).run P w' = .ok (.value v) w') ∧ ∀ w' ω', Den w' ω' s v := by
  let ω1 : Ow := ⟨fun _ => False, fun _ => False, fun _ _ => none, fun _ => (0, 0)⟩
  have hm : ∀ w', MemOK w' ω1 [] := fun w' => ⟨rfl, fun b ⟨k, p, L, h, _⟩ => (by cases h), fun _ h => False.elim h, fun _ h => False.elim h, fun _ h => False.elim h, fun _ _ _ _ _ _ h => (by cases h), fun _ _ _ h => (by cases h), fun _ _ _ h => (by cases h), fun _ _ h => (by cases h), fun _ _ _ _ => rfl⟩
  have hv : ∀ w' x, Den w' ω1 (opnd (fun _ => .junk) (bareF F) x) (a.eval x) := by
    intro w' x
    cases x with
    | tmp t =>
      show Den w' ω1 (look (bareF F) t) _
      rw [bareF_look]
      have hd := hF.get t
      cases hl : look F t with
      | v y => rw [hl] at hd; exact hd
      | bl b => rw [hl] at hd; exact hd
      | _ => trivial
    | const v => cases v <;> exact rfl
    | global g => trivial
    | func f => exact ⟨#[], rfl, rfl, fun j hj => absurd hj (by omega)⟩
  have hp : ∀ w', PureOK P w' ω1 a o (fun s' => s' = s) := by
    intro w'
    have hcx : Cx P w' ω1 (opnd (fun _ => .junk) (bareF F)) [] a := ⟨hv w', hm w'⟩
    unfold evR at he
    split at he
    · next c x y ho => exact pick_ok hcx ho he
    · exact evP_ok hcx he
  cases s with
  | v x =>
    refine ⟨x, fun w' => ?_, fun _ _ => rfl⟩
    obtain ⟨s', v, h1, h2, rfl⟩ := hp w'
    have h2 : v = x := h2
    rw [h1, h2]
  | bl b =>
    refine ⟨.bool b, fun w' => ?_, fun _ _ => rfl⟩
    obtain ⟨s', v, h1, h2, rfl⟩ := hp w'
    have h2 : v = .bool b := h2
    rw [h1, h2]
  | _ => cases hs
end
end Go.Sy
set_option linter.unusedVariables false
set_option linter.unusedSimpArgs false
namespace Go.Sy
open Go.RowKit
variable {P : Program} {w w' : World} {ω : Ow} {M : Mem}
/-- One block alone may have changed. -/
def One (w w' : World) (b : Nat) : Prop := w'.os = w.os ∧ w'.tape = w.tape ∧ w'.output = w.output ∧ w'.heap.size = w.heap.size ∧ ∀ b', b' ≠ b → w'.heap[b']? = w.heap[b']?
theorem One.trans {w w' w'' : World} {b : Nat} (h : One w w' b) (k : One w' w'' b) : One w w'' b :=
  ⟨k.1.trans h.1, k.2.1.trans h.2.1, k.2.2.1.trans h.2.2.1, k.2.2.2.1.trans h.2.2.2.1, fun b' hb => (k.2.2.2.2 b' hb).trans (h.2.2.2.2 b' hb)⟩
theorem One.set (w : World) (a : Addr) (x : Value) : One w (w.setCell a x) a.block :=
  ⟨rfl, rfl, rfl, by simp [World.setCell], fun b' hb => setCell_heap_ne w a x hb⟩
/-- Cells of a root, one behind the other: the owner stays as it is. -/
theorem storeC_ok : ∀ (cs : List SV) (us : List Value) {w : World} {M : Mem} (hm : MemOK w ω M) {k : Nat} {l : List SV} (hb : (ent M k).b = .cells l) (hx : DenL w ω cs us) (h1 : ∀ u ∈ us, u.oneCell' = true) (hn : ∀ s ∈ cs, isIl s = false) {L : Loc} (hL : ω.β k none = some L) {j : Nat} (hj : j + cs.length ≤ l.length) {ad : Addr} (q : Nat) (had : ad.add q = ⟨L.b, L.o + j, none⟩),
    ∃ w', (storeCells ad us q).run P w = .ok () w' ∧ (∃ M', Stp w ω M w' ω M' ∧ ent M' k = { ent M k with b := .cells (setMany l j cs) } ∧ ∀ k', k' ≠ k → ent M' k' = ent M k') ∧ One w w' L.b
  | [], [], w, M, hm, k, l, hb, hx, h1, hn, L, hL, j, hj, ad, q, had => ⟨w, by simp [storeCells], ⟨M, Stp.refl hm, by simp only [setMany]; rw [← hb], fun _ _ => rfl⟩, rfl, rfl, rfl, rfl, fun _ _ => rfl⟩
  | v :: r, x :: t, w, M, hm, k, l, hb, ⟨hx, hxr⟩, h1, hn, L, hL, j, hj, ad, q, had => by
    obtain ⟨c1, c2⟩ := cells_at hm hb hL
    have hjl : j < l.length := by simp at hj; omega
    have st := Stp.putCells hm hb hL (i := 0) (by omega) hjl (hn v (by simp)) hx
    obtain ⟨_, _, _, _, c, T, g1, g2, g3, g4⟩ := hm.row _ _ _ hL
    obtain ⟨y, y1, _⟩ := g4 0 (by omega) j (by omega)
    simp only [Nat.zero_mul, Nat.add_zero] at st y1
    have r1 : (store (ad.add q) x).run P w = .ok () (w.setCell ⟨L.b, L.o + j, none⟩ x) := by rw [had]; exact run_store1 g1 (Array.getElem?_eq_some_iff.1 y1).1 (h1 x (by simp))
    have had2 : ad.add (q + 1) = ⟨L.b, L.o + (j + 1), none⟩ := by
      rw [← add_add, had, add_mk]; simp [Nat.add_assoc]
    obtain ⟨w', r2, ⟨M', s2, e1, e2⟩, o2⟩ := storeC_ok r t st.mem (k := k) (l := l.set j v) (by rw [ent_eq]) (hxr.ext st.ext) (fun y hy => h1 y (by simp [hy])) (fun s hs => hn s (by simp [hs])) hL (j := j + 1) (by simp at hj ⊢; omega) (q + 1) had2
    refine ⟨w', by simp [storeCells, r1, r2, Result.andThen], ⟨M', st.trans s2, ?_, fun k' hk => ?_⟩, (One.set w _ x).trans o2⟩
    · rw [e1, ent_eq]; rfl
    · rw [e2 k' hk, ent_ne (Ne.symm hk)]
  | [], _ :: _, _, _, _, _, _, _, hx, _, _, _, _, _, _, _, _, _ => hx.elim
  | _ :: _, [], _, _, _, _, _, _, hx, _, _, _, _, _, _, _, _, _ => hx.elim
def junkL (n : Nat) : List SV := List.replicate n .junk
theorem junkL_at (n j : Nat) : lsv (junkL n) j = .junk := by
  simp only [lsv, junkL, List.getD_eq_getElem?_getD, List.getElem?_replicate]
  split <;> rfl
/-- What is told of one root's cells, told otherwise. -/
theorem MemOK.retell (hm : MemOK w ω M) {k : Nat} {e : Ent} {l l' : List SV} (he : ent M k = e) (hb : e.b = .cells l) (hl : l'.length = l.length)
    (h : ∀ L, ω.β k none = some L → ∀ c T, w.heap[L.b]? = some (Obj.cells c T (0, 0)) → ∀ j, j < l.length → ∀ x, c[L.o + j]? = some x → Den w ω (lsv l j) x → isIl (lsv l' j) = false ∧ Den w ω (lsv l' j) x) (hil : ∀ j, isIl (lsv l j) = false) : MemOK w ω ((k, { e with b := .cells l' }) :: M) := by
  subst he
  have hent : ∀ k', k' ≠ k → ent ((k, { ent M k with b := .cells l' }) :: M) k' = ent M k' := fun k' h => ent_ne (Ne.symm h)
  refine ⟨?_, hm.own, hm.lowA, hm.dj, hm.lowZ, hm.inj, hm.low, fun k' p L hL => ?_, fun k' l2 hk => ?_, fun k' i j hk => ?_⟩
  · rw [hm.cur]; exact (curM_same (M := M) (k := k) (e := { ent M k with b := .cells l' }) rfl rfl).symm
  · by_cases hk : k' = k
    · subst hk
      obtain ⟨r, g1, g2, g3, c, T, g4, g5, g6, g7⟩ := hm.row k' p L hL
      rw [ent_eq]
      cases p with
      | none =>
        unfold rowAt at g1; rw [hb] at g1
        obtain rfl := Option.some.inj g1
        have hsz : l.length = L.sz := g2
        have hcnt : 1 = L.cnt := g3
        refine ⟨⟨l'.length, 1, fun _ j => lsv l' j⟩, by unfold rowAt; rw [ent_eq]; rfl, by show l'.length = _; rw [hl]; exact hsz, hcnt, c, T, g4, g5, g6, fun i hi j hj => ?_⟩
        obtain ⟨x, x1, x2⟩ := g7 i hi j hj
        obtain rfl : i = 0 := by omega
        have x2 : CellOK w ω (ent M k').hl k' 0 j (lsv l j) x := x2
        rw [den_not_il (hil j)] at x2
        obtain ⟨y1, y2⟩ := h L hL c T g4 j (by omega) x (by simpa using x1) x2
        refine ⟨x, x1, ?_⟩
        show CellOK w ω (ent M k').hl k' 0 j (lsv l' j) x
        rw [den_not_il y1]; exact y2
      | some ij => unfold rowAt at g1; rw [hb] at g1; cases g1
    · obtain ⟨r, g1, g2, g3, g4⟩ := hm.row k' p L hL
      exact ⟨r, by unfold rowAt at g1 ⊢; rw [hent k' hk]; exact g1, g2, g3, by rw [hent k' hk]; exact g4⟩
  · by_cases hkk : k' = k
    · subst hkk; exact hm.live k' l hb
    · rw [hent k' hkk] at hk; exact hm.live k' l2 hk
  · by_cases hkk : k' = k
    · subst hkk; rw [ent_eq] at hk; exact hm.hol _ _ _ hk
    · rw [hent k' hkk] at hk; exact hm.hol _ _ _ hk
/-- Cells of which nothing is known: the world may change there. -/
theorem MemOK.blur (hm : MemOK w ω M) {k n : Nat} (hb : (ent M k).b = .cells (junkL n)) {L : Loc} (hL : ω.β k none = some L) (ho : One w w' L.b) (hs : ∃ c T, w'.heap[L.b]? = some (Obj.cells c T (0, 0)) ∧ c.size = L.len) : MemOK w' ω M ∧ Ext w ω w' ω := by
  have hA : ω.A L.b := hm.own _ ⟨k, none, L, hL, rfl⟩
  have hext : Ext w ω w' ω := ⟨ho.1, ho.2.1, ho.2.2.1, fun b hb hn => ho.2.2.2.2 b (fun e => hn (e ▸ hA)), fun _ _ h => h, fun _ _ _ h => h, Nat.le_of_eq ho.2.2.2.1.symm, fun _ => ⟨Nat.le_refl _, Nat.le_refl _⟩, fun _ _ _ h _ => h, fun _ h => h⟩
  refine ⟨⟨hm.cur, hm.own, fun b h => by rw [ho.2.2.2.1]; exact hm.lowA b h, hm.dj, fun b h => by rw [ho.2.2.2.1]; exact hm.lowZ b h, hm.inj, fun k p L h => by rw [ho.2.2.2.1]; exact hm.low k p L h, fun k' p L' h => ?_, hm.live, hm.hol⟩, hext⟩
  obtain ⟨r, g1, g2, g3, g4⟩ := hm.row k' p L' h
  refine ⟨r, g1, g2, g3, ?_⟩
  by_cases hbb : L'.b = L.b
  · obtain ⟨rfl, rfl⟩ := hm.inj _ _ _ _ _ _ h hL hbb
    obtain rfl : L = L' := Option.some.inj (hL.symm.trans h)
    unfold rowAt at g1; rw [hb] at g1
    obtain rfl := Option.some.inj g1
    obtain ⟨c0, T0, h1, h2, h3, h4⟩ := g4
    obtain ⟨c, T, e1, e2⟩ := hs
    have hsz : (junkL n).length = L.sz := g2
    have hcnt : 1 = L.cnt := g3
    refine ⟨c, T, e1, e2, h3, fun i hi j hj => ?_⟩
    have hlt : L.o + i * L.sz + j < c.size := by
      have := idx_lt hi hj
      omega
    refine ⟨c[L.o + i * L.sz + j], Array.getElem?_eq_getElem hlt, ?_⟩
    show CellOK _ _ _ _ _ _ (lsv (junkL n) j) _
    rw [junkL_at]; trivial
  · exact g4.ext hext rfl (fun _ => rfl) (ho.2.2.2.2 _ hbb)
theorem MemOK.congr {M M' : Mem} (hm : MemOK w ω M) (h : ∀ k, ent M' k = ent M k) : MemOK w ω M' :=
  ⟨by rw [hm.cur]; funext k; simp only [curM, h], hm.own, hm.lowA, hm.dj, hm.lowZ, hm.inj, hm.low, fun k p L hL => by
    obtain ⟨r, g1, g2, g3, g4⟩ := hm.row k p L hL
    exact ⟨r, by unfold rowAt at g1 ⊢; rw [h]; exact g1, g2, g3, by rw [h]; exact g4⟩, fun k l hk => hm.live k l (by rw [← h]; exact hk), fun k i j hk => hm.hol k i j (by rw [← h]; exact hk)⟩
/-- A store into a root's cells. -/
def evalW (P : Program) (Gl : Nat → SV) (N : Nat) (ops : List Oper) (V : Fr) (M : Mem) (H : List Hd) (o : Oper) : Option (Nat × Upd) :=
  match o.dst, guardOf N ops V H o, o.op with
  | none, .yes, .store T x y =>
    match opnd Gl (openF [] V H) x, cellsSV (ent M) (opnd Gl (openF [] V H) y), P.info? T with
    | .ptr k st none ii j, some cs, some i =>
      match okRef (ent M) k st none, (ent M k).b, Nat.beq cs.length i.size, cs.all (oneSV (ent M)) with
      | true, .cells l, true, true =>
        match Nat.ble (j + cs.length) l.length with
        | true => some (k, [(k, { ent M k with b := .cells (setMany l j cs) })])
        | false => none
      | _, _, _, _ => none
    | _, _, _ => none
  | _, _, _ => none
theorem w_ok {Gl : Nat → SV} {N : Nat} {ops : Array Oper} {V : Fr} {H : List Hd} {a : Act} {Q : Exit → Act → World → Prop} {i : Nat} {o : Oper} {k : Nat} {u : Upd} (ho : ops[i]? = some o) (h : St P Gl N V M a w ω) (hH : HOK w ω N a H)
    (he : evalW P Gl N ops.toList V M H o = some (k, u)) {K : Act → World → Prop}
    (hK : ∀ w' L, ω.β k none = some L → MemOK w' ω (u ++ M) → One w w' L.b → K a w') : wpOp P ops Q i K a w := by
  have hgd := guard_ok (ops := ops) h.frame H o
  unfold wpOp
  rw [ho]
  simp only
  unfold evalW at he
  split at he
  · next T x y hd hgo hop =>
    rw [hgo] at hgd
    cases hgd with
    | yes hw =>
      rw [if_pos hw]
      left
      have hF := openF_ok h.frame (As := []) (fun p hp => by cases hp) H hH
      have hxv := hF.opnd h.globs x
      have hyv := hF.opnd h.globs y
      split at he
      · next k' st ii j cs inf hx hcs hi =>
        split at he
        · next l hok hb hlen hone =>
          split at he
          · next hle =>
            simp only [Option.some.injEq, Prod.mk.injEq] at he
            obtain ⟨rfl, rfl⟩ := he
            rw [hx] at hxv
            have hm := h.mem
            obtain ⟨e0, L, hL, hc0, ex⟩ := okRef_at hm hok hxv
            obtain ⟨c1, c2⟩ := cells_at hm hb hL
            obtain rfl : ii = 0 := by omega
            simp only [Nat.zero_mul, Nat.add_zero] at ex
            have hc := cellsSV_den hm hcs hyv
            have h1 := oneSV_all hm hone hc
            have hlen := Nat.eq_of_beq_eq_true hlen
            have hsz : (a.eval y).cells.size = inf.size := by rw [← Array.length_toList, ← hc.len, hlen]
            have hs2 : (sizeOf T).run P w = .ok inf.size w := by simp [sizeOf, run_typeInfo w hi, Result.andThen]
            obtain ⟨w', r1, ⟨M', s1, e1, e2⟩, o1⟩ := storeC_ok (P := P) cs _ hm hb hc h1 (fun s hs => oneSV_notIl (List.all_eq_true.1 hone s hs)) hL (Nat.le_of_ble_eq_true hle) (ad := ⟨L.b, L.o + j, none⟩) 0 (by simp [Addr.add])
            have run : (execOp a.eval o).run P w = .ok .skip w' := by
              simp [execOp, hop, ex, Instr.storeAt, Instr.sureAddr, storeVar, hs2, hsz, r1, Result.andThen]
            have hmem : MemOK w' ω ([(k', { ent M k' with b := .cells (setMany l j cs) })] ++ M) := s1.mem.congr fun q => by
              by_cases hq : q = k'
              · subst hq; rw [e1]; exact ent_eq
              · rw [e2 q hq]; exact ent_ne (Ne.symm hq)
            have hfin := hK w' L hL hmem o1
            unfold Oper.wp
            rw [run]
            show K (a.put o.dst undef) w'
            rw [hd]
            exact hfin
          · cases he
        · cases he
      · cases he
  · cases he
end Go.Sy
set_option linter.unusedVariables false
set_option linter.unusedSimpArgs false
namespace Go.Sy
open Go.RowKit Classical

def keys (rs : List Rc) (j : Nat) : List Nat := (rcAt rs j).u.map (·.1)
def hid (rs : List Rc) (M : Mem) (E : List Nat) (k : Nat) : Prop := freeB (ent M) k = true ∧ (∃ j, k ∈ keys rs j) ∧ ¬ ∃ j ∈ E, k ∈ keys rs j
/-- What is seen by 'E'. -/
noncomputable def subω (rs : List Rc) (M : Mem) (ω : Ow) (E : List Nat) : Ow := ⟨ω.A, ω.Z, fun k p => if hid rs M E k then none else ω.β k p, ω.cur⟩
/-- A root that was there, of which nothing is known; what a store leaves there. -/
def WOK (M : Mem) (e : Ent) (k : Nat) : Prop := ∃ r d n l, ent M k = ⟨r, d, none, .cells (junkL n)⟩ ∧ l.length = n ∧ e = ⟨r, d, none, .cells l⟩
/-- All blocks but those of written roots are as they were. -/
def CwX (ω0 : Ow) (W : Nat → Prop) (w0 w : World) : Prop := w.os = w0.os ∧ w.tape = w0.tape ∧ w.output = w0.output ∧ w0.heap.size ≤ w.heap.size ∧
  ∀ b, b < w0.heap.size → (∀ k, W k → ∀ L, ω0.β k none = some L → L.b ≠ b) → w.heap[b]? = w0.heap[b]?
/-- The written roots of what is done. -/
def Wr (rs : List Rc) (M : Mem) (D : Nat → Prop) (k : Nat) : Prop := freeB (ent M) k = false ∧ ∃ j, D j ∧ k ∈ keys rs j
def dstOf (ops : Array Oper) (i : Nat) : Option Nat := (ops[i]?).bind (·.dst)

theorem ent_in {k : Nat} : ∀ {u : Upd} {M : Mem}, k ∈ u.map (·.1) → ent (u ++ M) k = ent u k
  | [], _, h => by simp at h
  | p :: r, M, h => by
    by_cases hk : p.1 = k
    · obtain ⟨p1, p2⟩ := p
      subst hk
      rw [List.cons_append, ent_eq, ent_eq]
    · obtain ⟨p1, p2⟩ := p
      rw [List.cons_append, ent_ne hk, ent_ne hk]
      refine ent_in ?_
      simp only [List.map_cons, List.mem_cons] at h
      exact h.resolve_left (fun e => hk e.symm)
theorem ent_out {k : Nat} : ∀ {u : Upd} {M : Mem}, k ∉ u.map (·.1) → ent (u ++ M) k = ent M k
  | [], _, _ => rfl
  | p :: r, M, h => by
    obtain ⟨p1, p2⟩ := p
    simp only [List.map_cons, List.mem_cons, not_or] at h
    rw [List.cons_append, ent_ne (Ne.symm h.1)]
    exact ent_out h.2
theorem vM_cons {rs : List Rc} {M : Mem} {j : Nat} {E : List Nat} : vM rs M (j :: E) = (rcAt rs j).u ++ vM rs M E := by simp [vM]
theorem ent_vM_out {rs : List Rc} {M : Mem} {k : Nat} : ∀ {E : List Nat}, (∀ j ∈ E, k ∉ keys rs j) → ent (vM rs M E) k = ent M k
  | [], _ => rfl
  | j :: E, h => by
    rw [vM_cons, ent_out (h j (by simp))]
    exact ent_vM_out fun i hi => h i (by simp [hi])
theorem ent_vM_in {rs : List Rc} {M : Mem} {k j : Nat} (hd : ∀ i j, k ∈ keys rs i → k ∈ keys rs j → i = j) (hk : k ∈ keys rs j) : ∀ {E : List Nat}, j ∈ E → ent (vM rs M E) k = ent (rcAt rs j).u k
  | [], h => by simp at h
  | i :: E, h => by
    rw [vM_cons]
    by_cases hi : k ∈ keys rs i
    · obtain rfl := hd i j hi hk
      exact ent_in hi
    · rw [ent_out hi]
      rcases List.mem_cons.1 h with rfl | h
      · exact absurd hk hi
      · exact ent_vM_in hd hk h

/-- All that is fixed about a region. -/
structure Sta (P : Program) (sg : Bool) (Gl : Nat → SV) (Γ : Table) (N : Nat) (ops : Array Oper) (PR : Nat → List Nat) (m : Nat) (rs : List Rc) (F F0 : Fr) (M : Mem) (reg wr : Nat → Bool) : Prop where
  dep : ∀ i o, ops[i]? = some o → ∀ x ∈ PR i, ∃ e ∈ o.after, Region.binds .any e = true ∧ (x = e.on ∨ x ∈ PR e.on)
  closed : ∀ i j, j ∈ PR i → ∀ k ∈ PR j, k ∈ PR i
  lt : ∀ i j, j ∈ PR i → j < i
  dlt : ∀ i o, ops[i]? = some o → ∀ e ∈ o.after, Region.binds .any e = true → e.on < i
  tail : ∀ i, m ≤ i → i < ops.size → ∀ j, j < i → j ∈ PR i ∨ (j < m ∧ reg j = true)
  le : m ≤ ops.size
  ev : ∀ i o, i < m → ops[i]? = some o → reg i = false → wr i = false → ∃ nx p, evalQ P sg Gl Γ N ops.toList (vF rs F0 (PR i)) (vM rs M (PR i)) (vH rs (PR i)) nx (PR i) o = some (p, rcAt rs i) ∧ p
  evw : ∀ i o, i < m → ops[i]? = some o → reg i = false → wr i = true → o.dst = none ∧ (rcAt rs i).fs = [] ∧ (rcAt rs i).hs = [] ∧ ∃ k, evalW P Gl N ops.toList (vF rs F0 (PR i)) (vM rs M (PR i)) (vH rs (PR i)) o = some (k, (rcAt rs i).u) ∧ freeB (ent M) k = false
  fr : ∀ i, wr i = false → ∀ k ∈ keys rs i, freeB (ent M) k = true
  evr : ∀ i o, i < m → ops[i]? = some o → reg i = true → o.guard = none ∧ ∃ s, isVal s = true ∧ rcAt rs i = ⟨ent1 N o.dst s, [], []⟩ ∧ (evR P sg (vF rs F0 (PR i)) o.op).run (fun s' => s' = s)
  apart : ∀ i oi, i < m → reg i = true → ops[i]? = some oi → ∀ j oj, ops[j]? = some oj → j ≠ i → j ∉ PR i → (∀ e ∈ oj.after, Region.binds .any e = true → e.on ≠ i) → oi.apart ops oj = true
  sel : ∀ i, i < m → reg i = true → Region.noSelect ops = true
  fs : ∀ i p, p ∈ (rcAt rs i).fs → dstOf ops i = some p.1 ∧ p.1 < N
  hs : ∀ i h, h ∈ (rcAt rs i).hs → dstOf ops i = some h.slot ∧ ∃ g ∈ PR i, dstOf ops g = some h.d
  one : ∀ i j t, i < m → j < m → dstOf ops i = some t → dstOf ops j = some t → i = j
  key : ∀ i j k, k ∈ keys rs i → k ∈ keys rs j → i = j
  free : ∀ i k, k ∈ keys rs i → freeB (ent M) k = true ∨ (freeB (ent M) k = false ∧ WOK M (ent (rcAt rs i).u k) k)
  stm : ∀ i k, k ∈ keys rs i → (ent (rcAt rs i).u k).rs = (ent M k).rs ∧ (ent (rcAt rs i).u k).ds = (ent M k).ds
  short : ∀ i, m ≤ i → rcAt rs i = ⟨[], [], []⟩
  base : ∀ t, look F0 t = .junk ∨ (look F0 t = look F t ∧ ∀ i, i < m → dstOf ops i ≠ some t)
  out : ∀ t, N ≤ t → look F0 t = .junk
/-- The state when the operations of 'D' are done. -/
structure Inv (ops : Array Oper) (PR : Nat → List Nat) (m : Nat) (rs : List Rc) (M : Mem) (N : Nat) (a0 : Act) (w0 : World) (ω0 : Ow) (D : Nat → Prop) (a : Act) (w : World) (ω : Ow) : Prop where
  low : ∀ j, D j → j < m
  clo : ∀ j, D j → ∀ k ∈ PR j, D k
  cw : CwX ω0 (Wr rs M D) w0 w
  shp : ∀ j k, k ∈ keys rs j → freeB (ent M) k = false → ∀ L, ω0.β k none = some L → ∃ c T, w.heap[L.b]? = some (Obj.cells c T (0, 0)) ∧ c.size = L.len
  A0 : ∀ b, ω0.A b → ω.A b
  lowA : ∀ b, ω.A b → b < w.heap.size
  freeA : ∀ b, b < w0.heap.size → ¬ ω0.A b → ¬ ω.A b
  Z : ω.Z = ω0.Z
  dj : ∀ b, ω.A b → ¬ ω.Z b
  cur : ω.cur = ω0.cur
  β0 : ∀ k p, (∀ j, D j → k ∈ keys rs j → freeB (ent M) k = false) → ω.β k p = ω0.β k p
  own : ∀ k p L, ω.β k p = some L → ω.A L.b
  inj : ∀ k p L k' p' L', ω.β k p = some L → ω.β k' p' = some L' → L.b = L'.b → k = k' ∧ p = p'
  defers : a.defers = []
  size : a.tmps.size = N
  keep : ∀ t, (∀ j, D j → dstOf ops j ≠ some t) → a.tmps[t]? = a0.tmps[t]?
  pkg : ∀ j, D j → MemOK w (subω rs M ω (j :: PR j)) (vM rs M (j :: PR j)) ∧ Facts w (subω rs M ω (j :: PR j)) N a (rcAt rs j)

section
variable {P : Program} {sg : Bool} {Gl : Nat → SV} {Γ : Table} {N : Nat} {ops : Array Oper} {PR : Nat → List Nat} {m : Nat} {rs : List Rc} {F F0 : Fr} {M : Mem} {reg wr : Nat → Bool}
variable {a0 a : Act} {w0 w : World} {ω0 ω : Ow} {D : Nat → Prop}
theorem sub_eq {E : List Nat} {k : Nat} {p : Path} (h : ¬ hid rs M E k) : (subω rs M ω E).β k p = ω.β k p := if_neg h
theorem sub_hid {E : List Nat} {k : Nat} {p : Path} (h : hid rs M E k) : (subω rs M ω E).β k p = none := if_pos h
theorem sub_ext {E E' : List Nat} (h : ∀ j ∈ E, j ∈ E') : Ext w (subω rs M ω E) w (subω rs M ω E') :=
  ⟨rfl, rfl, rfl, fun _ _ _ => rfl, fun _ _ h => h, fun _ _ _ h => h, Nat.le_refl _, fun _ => ⟨Nat.le_refl _, Nat.le_refl _⟩, fun k p L hL _ => by
    by_cases hk : hid rs M E k
    · rw [sub_hid hk] at hL; cases hL
    · rw [sub_eq hk] at hL
      rw [sub_eq]
      · exact hL
      · rintro ⟨h0, h1, h2⟩
        exact hk ⟨h0, h1, fun ⟨j, hj, hkj⟩ => h2 ⟨j, h j hj, hkj⟩⟩, fun _ h => h⟩
theorem sub_get {E : List Nat} {k : Nat} {p : Path} {L : Loc} (h : (subω rs M ω E).β k p = some L) : ¬ hid rs M E k ∧ ω.β k p = some L := by
  by_cases hk : hid rs M E k
  · rw [sub_hid hk] at h; cases h
  · exact ⟨hk, by rwa [sub_eq hk] at h⟩
theorem Inv.ext0 (S : Sta P sg Gl Γ N ops PR m rs F F0 M reg wr) (hm : MemOK w0 ω0 M) (I : Inv ops PR m rs M N a0 w0 ω0 D a w ω) (E : List Nat) : Ext w0 ω0 w (subω rs M ω E) :=
  ⟨I.cw.1, I.cw.2.1, I.cw.2.2.1, fun b hb hn => I.cw.2.2.2.2 b hb (fun k _ L hL e => hn (hm.own b ⟨k, none, L, hL, e⟩)), I.freeA, fun b _ _ hz hz' => hz (by rw [← I.Z]; exact hz'), I.cw.2.2.2.1, fun k => by rw [show (subω rs M ω E).cur = ω0.cur from I.cur]; exact ⟨Nat.le_refl _, Nat.le_refl _⟩, fun k p L hL _ => by
    have hno : freeB (ent M) k = false := by
      cases hf : freeB (ent M) k with
      | false => rfl
      | true => have := (freeB_free hm hf).2.2 p; rw [this] at hL; cases hL
    rw [sub_eq (fun h => by have := h.1; rw [hno] at this; cases this), I.β0 k p (fun _ _ _ => hno)]
    exact hL, fun b hz => by show ω.Z b; rw [I.Z]; exact hz⟩
/-- All that a part sees, put together. -/
theorem Inv.all (S : Sta P sg Gl Γ N ops PR m rs F F0 M reg wr) (hm : MemOK w0 ω0 M) (hF : FrOK w0 ω0 N F a0.tmps) (I : Inv ops PR m rs M N a0 w0 ω0 D a w ω) {E : List Nat} (hE : ∀ j ∈ E, D j) (hc : ∀ j ∈ E, ∀ k ∈ PR j, k ∈ E) :
    MemOK w (subω rs M ω E) (vM rs M E) ∧ FrOK w (subω rs M ω E) N (vF rs F0 E) a.tmps ∧ HOK w (subω rs M ω E) N a (vH rs E) := by
  have e0 := I.ext0 S hm E
  have inc : ∀ {j}, j ∈ E → ∀ i ∈ j :: PR j, i ∈ E := fun hj i hi => by
    rcases List.mem_cons.1 hi with rfl | hi
    · exact hj
    · exact hc _ hj _ hi
  -- an entry of the view
  have where_ : ∀ k, (∃ j ∈ E, k ∈ keys rs j) ∨ (∀ j ∈ E, k ∉ keys rs j) := fun k => by
    by_cases h : ∃ j ∈ E, k ∈ keys rs j
    · exact .inl h
    · exact .inr fun j hj hk => h ⟨j, hj, hk⟩
  have entIn : ∀ {j k}, j ∈ E → k ∈ keys rs j → ent (vM rs M E) k = ent (vM rs M (j :: PR j)) k := fun hj hk => by
    rw [ent_vM_in (fun i j => S.key i j _) hk hj, ent_vM_in (fun i j => S.key i j _) hk (by simp)]
  have notHid : ∀ {j k} {E' : List Nat}, j ∈ E' → k ∈ keys rs j → ¬ hid rs M E' k := fun hj hk h => h.2.2 ⟨_, hj, hk⟩
  refine ⟨⟨?_, ?_, I.lowA, I.dj, ?_, ?_, ?_, ?_, ?_, ?_⟩, ⟨I.size, ?_, ?_⟩, ?_⟩
  · show ω.cur = _
    rw [I.cur, hm.cur]
    funext k
    unfold curM
    rcases where_ k with ⟨j, hj, hk⟩ | hno
    · rw [ent_vM_in (fun i j => S.key i j _) hk hj, (S.stm j k hk).1, (S.stm j k hk).2]
    · rw [ent_vM_out hno]
  · rintro b ⟨k, p, L, h, rfl⟩
    exact I.own _ _ _ (sub_get h).2
  · intro b hz
    have hz : ω.Z b := hz
    rw [I.Z] at hz
    exact Nat.lt_of_lt_of_le (hm.lowZ b hz) I.cw.2.2.2.1
  · intro k p L k' p' L' h1 h2 e
    exact I.inj _ _ _ _ _ _ (sub_get h1).2 (sub_get h2).2 e
  · intro k p L h
    exact I.lowA _ (I.own _ _ _ (sub_get h).2)
  · intro k p L h
    obtain ⟨hnh, hL⟩ := sub_get h
    rcases where_ k with ⟨j, hj, hk⟩ | hno
    · obtain ⟨hmj, _⟩ := I.pkg j (hE j hj)
      obtain ⟨r, g1, g2, g3, g4⟩ := hmj.row k p L (by rw [sub_eq (notHid (by simp) hk)]; exact hL)
      refine ⟨r, by unfold rowAt at g1 ⊢; rw [entIn hj hk]; exact g1, g2, g3, ?_⟩
      rw [entIn hj hk]
      exact g4.ext (sub_ext (inc hj)) rfl (fun q => by rw [sub_eq hnh, sub_eq (notHid (by simp) hk)]) rfl
    · have hno' : ∀ i, k ∈ keys rs i → freeB (ent M) k = false := fun i hki => by
        cases hf : freeB (ent M) k with
        | false => rfl
        | true => exact absurd ⟨hf, ⟨i, hki⟩, fun ⟨j, hj, hk⟩ => hno j hj hk⟩ hnh
      rw [I.β0 k p (fun j _ => hno' j)] at hL
      obtain ⟨r, g1, g2, g3, g4⟩ := hm.row k p L hL
      refine ⟨r, by unfold rowAt at g1 ⊢; rw [ent_vM_out hno]; exact g1, g2, g3, ?_⟩
      rw [ent_vM_out hno]
      by_cases hW : ∃ i, k ∈ keys rs i
      · obtain ⟨i, hki⟩ := hW
        obtain ⟨_, r0, d0, n, l', e1, e2, e3⟩ := (S.free i k hki).resolve_left (by rw [hno' i hki]; simp)
        cases p with
        | some ij => unfold rowAt at g1; rw [e1] at g1; cases g1
        | none =>
          unfold rowAt at g1; rw [e1] at g1
          obtain rfl := Option.some.inj g1
          obtain ⟨c, T, h1, h2⟩ := I.shp i k hki (hno' i hki) L hL
          obtain ⟨c0, T0, f1, f2, f3, f4⟩ := g4
          refine ⟨c, T, h1, h2, f3, fun a ha b hb => ?_⟩
          have hlt : L.o + a * L.sz + b < c.size := by have := idx_lt ha hb; omega
          exact ⟨_, Array.getElem?_eq_getElem hlt, by show CellOK _ _ _ _ _ _ (lsv (junkL n) b) _; rw [junkL_at]; trivial⟩
      · refine g4.ext e0 (by rw [show (subω rs M ω E).cur = ω0.cur from I.cur]) (fun q => by rw [sub_eq hnh, I.β0 k q (fun j _ => hno' j)]) (I.cw.2.2.2.2 _ (hm.low k p L hL) ?_)
        rintro k' ⟨hf', j', hj', hk'⟩ L' hL' e
        obtain ⟨rfl, _⟩ := hm.inj _ _ _ _ _ _ hL' hL e
        exact hW ⟨j', hk'⟩
  · intro k l hl
    rcases where_ k with ⟨j, hj, hk⟩ | hno
    · rw [entIn hj hk] at hl
      obtain ⟨L, hL⟩ := (I.pkg j (hE j hj)).1.live k l hl
      exact ⟨L, by rw [sub_eq (notHid hj hk)]; exact (sub_get hL).2⟩
    · rw [ent_vM_out hno] at hl
      have hf : freeB (ent M) k = false := by unfold freeB; rw [hl]; rfl
      obtain ⟨L, hL⟩ := hm.live k l hl
      exact ⟨L, by rw [sub_eq (fun h => by have := h.1; rw [hf] at this; cases this), I.β0 k none (fun _ _ _ => hf)]; exact hL⟩
  · intro k i j hh
    by_cases hhid : hid rs M E k
    · exact sub_hid hhid
    rw [sub_eq hhid]
    rcases where_ k with ⟨q, hq, hk⟩ | hno
    · rw [entIn hq hk] at hh
      have := (I.pkg q (hE q hq)).1.hol k i j hh
      rwa [sub_eq (notHid (by simp) hk)] at this
    · rw [ent_vM_out hno] at hh
      have hf : freeB (ent M) k = false := by unfold freeB; rw [hh]; cases isDead (ent M k).b <;> rfl
      rw [I.β0 k _ (fun _ _ _ => hf)]
      exact hm.hol k i j hh
  · intro t u hu
    have look_app : ∀ (l : List (Nat × SV)) (G : Fr), (∃ s, (t, s) ∈ l ∧ look (l ++ G) t = s) ∨ ((∀ p ∈ l, p.1 ≠ t) ∧ look (l ++ G) t = look G t) := by
      intro l G
      induction l with
      | nil => exact .inr ⟨fun p hp => by simp at hp, rfl⟩
      | cons p r ih =>
        obtain ⟨p1, p2⟩ := p
        by_cases hp : p1 = t
        · subst hp
          exact .inl ⟨p2, by simp, look_eq⟩
        · rw [List.cons_append, look_ne hp]
          rcases ih with ⟨s, h1, h2⟩ | ⟨h1, h2⟩
          · exact .inl ⟨s, by simp [h1], h2⟩
          · exact .inr ⟨fun q hq => by rcases List.mem_cons.1 hq with rfl | hq; exact hp; exact h1 q hq, h2⟩
    show Den w _ (look (E.flatMap (fun j => (rcAt rs j).fs) ++ F0) t) u
    rcases look_app (E.flatMap fun j => (rcAt rs j).fs) F0 with ⟨s, h1, h2⟩ | ⟨h1, h2⟩
    · rw [h2]
      obtain ⟨j, hj, hjs⟩ := List.mem_flatMap.1 h1
      exact ((I.pkg j (hE j hj)).2.1 (t, s) hjs u hu).ext (sub_ext (inc hj))
    · rw [h2]
      rcases S.base t with e | ⟨e, hno⟩
      · rw [e]; trivial
      · rw [e]
        refine (hF.den t u ?_).ext e0
        rw [← I.keep t fun j hj => hno j (I.low j hj)]
        exact hu
  · intro t ht
    have look_out : ∀ (l : List (Nat × SV)) (G : Fr), (∀ p ∈ l, p.1 < N) → look (l ++ G) t = look G t := by
      intro l G h
      induction l with
      | nil => rfl
      | cons p r ih =>
        obtain ⟨p1, p2⟩ := p
        have := h (p1, p2) (by simp)
        rw [List.cons_append, look_ne (by simp at this; omega)]
        exact ih fun q hq => h q (by simp [hq])
    show look (E.flatMap (fun j => (rcAt rs j).fs) ++ F0) t = .junk
    rw [look_out _ _ fun p hp => by
      obtain ⟨j, hj, hjs⟩ := List.mem_flatMap.1 hp
      exact (S.fs j p hjs).2]
    exact S.out t ht
  · intro h hh
    obtain ⟨j, hj, hjs⟩ := List.mem_flatMap.1 hh
    exact (HOK.ext (I.pkg j (hE j hj)).2.2 (sub_ext (inc hj))) h hjs
end
end Go.Sy
set_option linter.unusedVariables false
set_option linter.unusedSimpArgs false
namespace Go.Sy
open Go.RowKit Classical

theorem Cw.trans {w w' w'' : World} (h : Cw w w') (k : Cw w' w'') : Cw w w'' :=
  ⟨k.1.trans h.1, k.2.1.trans h.2.1, k.2.2.1.trans h.2.2.1, Nat.le_trans h.2.2.2.1 k.2.2.2.1, fun b hb => (k.2.2.2.2 b (Nat.lt_of_lt_of_le hb h.2.2.2.1)).trans (h.2.2.2.2 b hb)⟩
theorem CwX.cw {ω0 : Ow} {W W' : Nat → Prop} {w0 w w' : World} (h : CwX ω0 W w0 w) (k : Cw w w') (hW : ∀ q, W q → W' q) : CwX ω0 W' w0 w' :=
  ⟨k.1.trans h.1, k.2.1.trans h.2.1, k.2.2.1.trans h.2.2.1, Nat.le_trans h.2.2.2.1 k.2.2.2.1, fun b hb hn => (k.2.2.2.2 b (Nat.lt_of_lt_of_le hb h.2.2.2.1)).trans (h.2.2.2.2 b hb fun q hq => hn q (hW q hq))⟩
theorem CwX.one {ω0 : Ow} {W W' : Nat → Prop} {w0 w w' : World} (h : CwX ω0 W w0 w) {L : Loc} (k : One w w' L.b) (hW : ∀ q, W q → W' q) {q0 : Nat} (h0 : W' q0) (hL : ω0.β q0 none = some L) : CwX ω0 W' w0 w' :=
  ⟨k.1.trans h.1, k.2.1.trans h.2.1, k.2.2.1.trans h.2.2.1, by rw [k.2.2.2.1]; exact h.2.2.2.1, fun b hb hn => (k.2.2.2.2 b (fun e => hn q0 h0 L hL e.symm)).trans (h.2.2.2.2 b hb fun q hq => hn q (hW q hq))⟩
theorem MemOK.grow {w w' : World} {o o' : Ow} {M : Mem} (hm : MemOK w o M) (hc : Cw w w') (he : Ext w o w' o') (hβ : ∀ k p, o'.β k p = o.β k p) (hcur : o'.cur = o.cur) (hZ : o'.Z = o.Z) (hA : ∀ b, o.A b → o'.A b) (hlA : ∀ b, o'.A b → b < w'.heap.size) (hdj : ∀ b, o'.A b → ¬ o'.Z b) : MemOK w' o' M where
  cur := hcur.trans hm.cur
  own := fun b ⟨k, p, L, h1, h2⟩ => hA b (hm.own b ⟨k, p, L, by rw [← hβ]; exact h1, h2⟩)
  lowA := hlA
  dj := hdj
  lowZ := fun b hz => Nat.lt_of_lt_of_le (hm.lowZ b (by rw [← hZ]; exact hz)) hc.2.2.2.1
  inj := fun k p L k' p' L' h1 h2 e => hm.inj k p L k' p' L' (by rw [← hβ]; exact h1) (by rw [← hβ]; exact h2) e
  low := fun k p L h => Nat.lt_of_lt_of_le (hm.low k p L (by rw [← hβ]; exact h)) hc.2.2.2.1
  row := fun k p L h => by
    rw [hβ] at h
    obtain ⟨r, h1, h2, h3, h4⟩ := hm.row k p L h
    exact ⟨r, h1, h2, h3, h4.ext he (by rw [hcur]) (fun q => hβ k q) (hc.2.2.2.2 _ (hm.low k p L h))⟩
  live := fun k l h => by obtain ⟨L, hL⟩ := hm.live k l h; exact ⟨L, by rw [hβ]; exact hL⟩
  hol := fun k i j h => by rw [hβ]; exact hm.hol k i j h
section
variable {P : Program} {sg : Bool} {Gl : Nat → SV} {Γ : Table} {N : Nat} {ops : Array Oper} {PR : Nat → List Nat} {m : Nat} {rs : List Rc} {F F0 : Fr} {M : Mem} {reg wr : Nat → Bool}
variable {a0 a : Act} {w0 w : World} {ω0 ω : Ow} {D : Nat → Prop}
theorem put_ne {t : Nat} {d : Option Tmp} {v : Value} (h : d ≠ some t) : (a.put d v).tmps[t]? = a.tmps[t]? := by
  cases d with
  | none => rfl
  | some x =>
    have : x ≠ t := fun e => h (by rw [e])
    simp only [Act.put, Array.getElem?_setIfInBounds_ne this]
theorem put_size {d : Option Tmp} {v : Value} : (a.put d v).tmps.size = a.tmps.size := by cases d <;> simp [Act.put]
theorem Inv.after (S : Sta P sg Gl Γ N ops PR m rs F F0 M reg wr) (hm : MemOK w0 ω0 M)
    (I : Inv ops PR m rs M N a0 w0 ω0 D a w ω) {i : Nat} {o : Oper} (hi : i < m) (ho : ops[i]? = some o) (hni : ¬ D i) (hpre : ∀ j ∈ PR i, D j) (hfr : ∀ k ∈ keys rs i, freeB (ent M) k = true) {v : Value} {w' : World} {ωq : Ow}
    (hstp : Stp w (subω rs M ω (PR i)) (vM rs M (PR i)) w' ωq ((rcAt rs i).u ++ vM rs M (PR i))) (hnew : New w (subω rs M ω (PR i)) w' ωq (fun k => k ∈ (rcAt rs i).u.map (·.1))) (hfacts : Facts w' ωq N (a.put o.dst v) (rcAt rs i)) :
    ∃ ω', Inv ops PR m rs M N a0 w0 ω0 (fun j => D j ∨ j = i) (a.put o.dst v) w' ω' := by
  have hdst : dstOf ops i = o.dst := by simp [dstOf, ho]
  have hZq : ωq.Z = ω.Z := hnew.Z
  have hcq : ωq.cur = ω.cur := hnew.cur
  have hfree : ∀ b, b < w.heap.size → ¬ ω.A b → ¬ ωq.A b := fun b hb hn => hstp.ext.free b hb hn
  have hgrow : ∀ b, ω.A b → ωq.A b := fun b hb => hnew.A b hb
  refine ⟨⟨ωq.A, ω.Z, fun k p => if k ∈ keys rs i then ωq.β k p else ω.β k p, ω.cur⟩, ?_⟩
  have hβin : ∀ {k p}, k ∈ keys rs i → (if k ∈ keys rs i then ωq.β k p else ω.β k p) = ωq.β k p := fun h => if_pos h
  have hβout : ∀ {k p}, k ∉ keys rs i → (if k ∈ keys rs i then ωq.β k p else ω.β k p) = ω.β k p := fun h => if_neg h
  have hcw : CwX ω0 (Wr rs M fun j => D j ∨ j = i) w0 w' := I.cw.cw hnew.cw fun q ⟨h1, j, h2, h3⟩ => ⟨h1, j, .inl h2, h3⟩
  have hqeq : subω rs M ⟨ωq.A, ω.Z, fun k p => if k ∈ keys rs i then ωq.β k p else ω.β k p, ω.cur⟩ (i :: PR i) = ωq := by
    show (⟨ωq.A, ω.Z, _, ω.cur⟩ : Ow) = ⟨ωq.A, ωq.Z, ωq.β, ωq.cur⟩
    rw [hZq, hcq]
    congr 1
    funext k p
    by_cases hk : k ∈ keys rs i
    · have : ¬ hid rs M (i :: PR i) k := fun h => h.2.2 ⟨i, by simp, hk⟩
      simp only [if_neg this, if_pos hk]
    · rw [hnew.β k p hk]
      show _ = if hid rs M (PR i) k then none else ω.β k p
      have : hid rs M (i :: PR i) k ↔ hid rs M (PR i) k := by
        constructor
        · rintro ⟨h0, h1, h2⟩
          exact ⟨h0, h1, fun ⟨j, hj, hkj⟩ => h2 ⟨j, by simp [hj], hkj⟩⟩
        · rintro ⟨h0, h1, h2⟩
          refine ⟨h0, h1, ?_⟩
          rintro ⟨j, hj, hkj⟩
          rcases List.mem_cons.1 hj with rfl | hj
          · exact hk hkj
          · exact h2 ⟨j, hj, hkj⟩
      by_cases hh : hid rs M (PR i) k
      · rw [if_pos (this.2 hh), if_pos hh]
      · rw [if_neg (fun h => hh (this.1 h)), if_neg hh]; exact hβout hk
  refine ⟨?_, ?_, hcw, fun j k hk hf L hL => ?_, fun b hb => hgrow b (I.A0 b hb), hstp.mem.lowA, ?_, I.Z, ?_, I.cur, ?_, ?_, ?_, by rw [Act.put_defers]; exact I.defers, by rw [put_size]; exact I.size, ?_, ?_⟩
  · rintro j (h | rfl)
    · exact I.low j h
    · exact hi
  · rintro j (h | rfl) k hk
    · exact .inl (I.clo j h k hk)
    · exact .inl (hpre k hk)
  · obtain ⟨c, T, h1, h2⟩ := I.shp j k hk hf L hL
    refine ⟨c, T, ?_, h2⟩
    rw [hnew.cw.2.2.2.2 _ (Nat.lt_of_lt_of_le (hm.low k none L hL) I.cw.2.2.2.1)]
    exact h1
  · intro b hb hn
    exact hfree b (Nat.lt_of_lt_of_le hb I.cw.2.2.2.1) (I.freeA b hb hn)
  · intro b hb
    show ¬ ω.Z b
    rw [← hZq]
    exact hstp.mem.dj b hb
  · intro k p hk
    show (if k ∈ keys rs i then ωq.β k p else ω.β k p) = _
    rw [hβout (fun h => by have := hk i (.inr rfl) h; rw [hfr k h] at this; cases this)]
    exact I.β0 k p fun j hj => hk j (.inl hj)
  · intro k p L hL
    have hL : (if k ∈ keys rs i then ωq.β k p else ω.β k p) = some L := hL
    by_cases hk : k ∈ keys rs i
    · rw [hβin hk] at hL
      exact hstp.mem.own _ ⟨k, p, L, hL, rfl⟩
    · rw [hβout hk] at hL
      exact hgrow _ (I.own k p L hL)
  · intro k p L k' p' L' h1 h2 e
    have h1 : (if k ∈ keys rs i then ωq.β k p else ω.β k p) = some L := h1
    have h2 : (if k' ∈ keys rs i then ωq.β k' p' else ω.β k' p') = some L' := h2
    by_cases hk : k ∈ keys rs i <;> by_cases hk' : k' ∈ keys rs i
    · rw [hβin hk] at h1; rw [hβin hk'] at h2
      exact hstp.mem.inj _ _ _ _ _ _ h1 h2 e
    · rw [hβin hk] at h1; rw [hβout hk'] at h2
      have e1 := hnew.new k p L hk h1
      have e2 := I.lowA _ (I.own k' p' L' h2)
      omega
    · rw [hβout hk] at h1; rw [hβin hk'] at h2
      have e1 := hnew.new k' p' L' hk' h2
      have e2 := I.lowA _ (I.own k p L h1)
      omega
    · rw [hβout hk] at h1; rw [hβout hk'] at h2
      exact I.inj _ _ _ _ _ _ h1 h2 e
  · intro t ht
    rw [put_ne (by rw [← hdst]; exact ht i (.inr rfl))]
    exact I.keep t fun j hj => ht j (.inl hj)
  · rintro j (hj | rfl)
    · have hji : j ≠ i := fun e => hni (e ▸ hj)
      have hEi : i ∉ j :: PR j := by
        intro h
        rcases List.mem_cons.1 h with h | h
        · exact hji h.symm
        · exact hni (I.clo j hj i h)
      have hβeq : ∀ k p, (subω rs M ⟨ωq.A, ω.Z, fun k p => if k ∈ keys rs i then ωq.β k p else ω.β k p, ω.cur⟩ (j :: PR j)).β k p = (subω rs M ω (j :: PR j)).β k p := by
        intro k p
        by_cases hh : hid rs M (j :: PR j) k
        · rw [sub_hid hh, sub_hid hh]
        · rw [sub_eq hh, sub_eq hh]
          show (if k ∈ keys rs i then ωq.β k p else ω.β k p) = _
          refine hβout fun hk => hh ⟨hfr k hk, ⟨i, hk⟩, ?_⟩
          rintro ⟨q, hq, hkq⟩
          exact hEi ((S.key i q k hk hkq) ▸ hq)
      have hext : Ext w (subω rs M ω (j :: PR j)) w' (subω rs M ⟨ωq.A, ω.Z, fun k p => if k ∈ keys rs i then ωq.β k p else ω.β k p, ω.cur⟩ (j :: PR j)) :=
        ⟨hnew.cw.1, hnew.cw.2.1, hnew.cw.2.2.1, fun b hb _ => hnew.cw.2.2.2.2 b hb, hfree, fun _ _ _ h => h, hnew.cw.2.2.2.1, fun _ => ⟨Nat.le_refl _, Nat.le_refl _⟩, fun k p L hL _ => by rw [hβeq]; exact hL, fun _ h => h⟩
      obtain ⟨k1, k2, k3⟩ := I.pkg j hj
      refine ⟨k1.grow hnew.cw hext hβeq rfl rfl hgrow hstp.mem.lowA (fun b hb => ?_), fun p hp u hu => ?_, ?_⟩
      · show ¬ ω.Z b
        rw [← hZq]
        exact hstp.mem.dj b hb
      · have hne : o.dst ≠ some p.1 := by
          rw [← hdst]
          intro e
          exact hji (S.one j i p.1 (I.low j hj) hi (S.fs j p hp).1 e)
        rw [put_ne hne] at hu
        exact (k2 p hp u hu).ext hext
      · intro h hh
        obtain ⟨d1, g, hg, d2⟩ := S.hs j h hh
        have hDg : D g := I.clo j hj g hg
        have n1 : o.dst ≠ some h.slot := by
          rw [← hdst]; intro e
          exact hji (S.one j i _ (I.low j hj) hi d1 e)
        have n2 : o.dst ≠ some h.d := by
          rw [← hdst]; intro e
          have : g = i := S.one g i _ (I.low g hDg) hi d2 e
          exact hni (this ▸ hDg)
        have h0 := k3 h hh
        exact ⟨h0.lt, fun e u hu => (h0.yes (by rw [← put_ne n2]; exact e) u (by rw [← put_ne n1]; exact hu)).ext hext, fun e => by rw [put_ne n1]; exact h0.no (by rw [← put_ne n2]; exact e)⟩
    · rw [hqeq, vM_cons]
      exact ⟨hstp.mem, hfacts⟩

/-- A register operation. -/
theorem Inv.stepR (S : Sta P sg Gl Γ N ops PR m rs F F0 M reg wr) (hm : MemOK w0 ω0 M) (hF : FrOK w0 ω0 N F a0.tmps)
    (I : Inv ops PR m rs M N a0 w0 ω0 D a w ω) {i : Nat} {o : Oper} (hi : i < m) (ho : ops[i]? = some o) (hreg : reg i = true) (hni : ¬ D i) (hpre : ∀ j ∈ PR i, D j) :
    ∃ v, Yields P ops o v a ∧ ∃ ω', Inv ops PR m rs M N a0 w0 ω0 (fun j => D j ∨ j = i) (a.put o.dst v) w ω' := by
  obtain ⟨g1, g2, g3⟩ := I.all S hm hF hpre (fun j hj => S.closed i j hj)
  obtain ⟨hg, s, hs, hrc, he⟩ := S.evr i o hi ho hreg
  obtain ⟨v, h1, h2⟩ := reg_ok g2 hs he
  refine ⟨v, .inl ⟨by simp [Region.wanted, hg], h1⟩, ?_⟩
  refine I.after S hm hi ho hni hpre (fun k hk => by unfold keys at hk; rw [hrc] at hk; simp at hk) (w' := w) (ωq := subω rs M ω (PR i)) ?_ ?_ ?_
  · rw [hrc]; exact Stp.refl g1
  · rw [hrc]; exact New.refl _ _
  · rw [hrc]; exact ⟨ent1_facts (h2 _ _), fun x hx => by cases hx⟩
theorem evalW_u {ops : List Oper} {V : Fr} {M : Mem} {H : List Hd} {o : Oper} {k : Nat} {u : Upd} (h : evalW P Gl N ops V M H o = some (k, u)) : u.map (·.1) = [k] := by
  unfold evalW at h
  split at h
  · split at h
    · split at h
      · split at h
        · simp only [Option.some.injEq, Prod.mk.injEq] at h
          obtain ⟨rfl, rfl⟩ := h; rfl
        · cases h
      · cases h
    · cases h
  · cases h
/-- A store. -/
theorem Inv.write (S : Sta P sg Gl Γ N ops PR m rs F F0 M reg wr) (hm : MemOK w0 ω0 M)
    (I : Inv ops PR m rs M N a0 w0 ω0 D a w ω) {i : Nat} (hi : i < m) (hni : ¬ D i) (hpre : ∀ j ∈ PR i, D j) {k : Nat} (hk : keys rs i = [k]) (hkf : freeB (ent M) k = false) (hfs : (rcAt rs i).fs = []) (hhs : (rcAt rs i).hs = []) {w' : World} {L : Loc} (hL : (subω rs M ω (PR i)).β k none = some L)
    (hmem : MemOK w' (subω rs M ω (PR i)) ((rcAt rs i).u ++ vM rs M (PR i))) (ho : One w w' L.b) :
    Inv ops PR m rs M N a0 w0 ω0 (fun j => D j ∨ j = i) a w' ω := by
  have notHid : ∀ {E : List Nat}, ¬ hid rs M E k := fun h => by have := h.1; rw [hkf] at this; cases this
  have hLω : ω.β k none = some L := by rw [sub_eq notHid] at hL; exact hL
  have hL0 : ω0.β k none = some L := by rw [← I.β0 k none (fun _ _ _ => hkf)]; exact hLω
  have hki : k ∈ keys rs i := by rw [hk]; simp
  have hshape : ∃ c T, w'.heap[L.b]? = some (Obj.cells c T (0, 0)) ∧ c.size = L.len := by
    obtain ⟨r, _, _, _, c, T, h1, h2, _⟩ := hmem.row k none L hL
    exact ⟨c, T, h1, h2⟩
  have hWin : ∀ q, Wr rs M D q → Wr rs M (fun j => D j ∨ j = i) q := fun q ⟨h1, j, h2, h3⟩ => ⟨h1, j, .inl h2, h3⟩
  have hsub : subω rs M ω (i :: PR i) = subω rs M ω (PR i) := by
    show (⟨_, _, _, _⟩ : Ow) = ⟨_, _, _, _⟩
    congr 1
    funext k' p
    have : hid rs M (i :: PR i) k' ↔ hid rs M (PR i) k' := by
      constructor
      · rintro ⟨h0, h1, h2⟩
        exact ⟨h0, h1, fun ⟨j, hj, hkj⟩ => h2 ⟨j, by simp [hj], hkj⟩⟩
      · rintro ⟨h0, h1, h2⟩
        refine ⟨h0, h1, ?_⟩
        rintro ⟨j, hj, hkj⟩
        rcases List.mem_cons.1 hj with rfl | hj
        · rw [hk] at hkj
          obtain rfl := List.mem_singleton.1 hkj
          rw [hkf] at h0; cases h0
        · exact h2 ⟨j, hj, hkj⟩
    by_cases hh : hid rs M (PR i) k'
    · rw [if_pos (this.2 hh), if_pos hh]
    · rw [if_neg (fun h => hh (this.1 h)), if_neg hh]
  refine ⟨?_, ?_, I.cw.one ho hWin ⟨hkf, i, .inr rfl, hki⟩ hL0, fun j k' hk' hf L' hL' => ?_, I.A0, fun b h => by rw [ho.2.2.2.1]; exact I.lowA b h, I.freeA, I.Z, I.dj, I.cur, fun k' p hk' => I.β0 k' p fun j hj => hk' j (.inl hj), I.own, I.inj, I.defers, I.size, fun t ht => I.keep t fun j hj => ht j (.inl hj), ?_⟩
  · rintro j (h | rfl)
    · exact I.low j h
    · exact hi
  · rintro j (h | rfl) q hq
    · exact .inl (I.clo j h q hq)
    · exact .inl (hpre q hq)
  · by_cases hb : L'.b = L.b
    · obtain ⟨rfl, _⟩ := hm.inj _ _ _ _ _ _ hL' hL0 hb
      obtain rfl : L = L' := Option.some.inj (hL0.symm.trans hL')
      exact hshape
    · obtain ⟨c, T, h1, h2⟩ := I.shp j k' hk' hf L' hL'
      exact ⟨c, T, by rw [ho.2.2.2.2 _ hb]; exact h1, h2⟩
  · rintro j (hj | rfl)
    · have hji : j ≠ i := fun e => hni (e ▸ hj)
      have hEi : ∀ q ∈ j :: PR j, k ∉ keys rs q := by
        intro q hq hkq
        obtain rfl := S.key q i k hkq hki
        rcases List.mem_cons.1 hq with h | h
        · exact hji h.symm
        · exact hni (I.clo j hj _ h)
      obtain ⟨k1, k2, k3⟩ := I.pkg j hj
      obtain ⟨_, r0, d0, n, l', e1, e2, e3⟩ := (S.free i k hki).resolve_left (by rw [hkf]; simp)
      have hb : (ent (vM rs M (j :: PR j)) k).b = .cells (junkL n) := by rw [ent_vM_out hEi, e1]
      obtain ⟨g1, g2⟩ := k1.blur hb (by rw [sub_eq notHid]; exact hLω) ho hshape
      exact ⟨g1, fun p hp u hu => (k2 p hp u hu).ext g2, fun h hh => (HOK.ext k3 g2) h hh⟩
    · rw [hsub, vM_cons]
      exact ⟨hmem, fun p hp => by rw [hfs] at hp; simp at hp, fun h hh => by rw [hhs] at hh; simp at hh⟩
theorem Inv.step (hS : Sound P Gl Γ) (S : Sta P sg Gl Γ N ops PR m rs F F0 M reg wr) (hm : MemOK w0 ω0 M) (hF : FrOK w0 ω0 N F a0.tmps) (hG : ∀ g, Den w0 ω0.bare (Gl g) (.pointer (some ⟨g, 0, none⟩)))
    (I : Inv ops PR m rs M N a0 w0 ω0 D a w ω) {i : Nat} {o : Oper} (hi : i < m) (ho : ops[i]? = some o) (hni : ¬ D i) (hpre : ∀ j ∈ PR i, D j) {Q : Exit → Act → World → Prop} {K : Act → World → Prop}
    (hK : ∀ a' w' ω', Inv ops PR m rs M N a0 w0 ω0 (fun j => D j ∨ j = i) a' w' ω' → K a' w') : wpOp P ops Q i K a w := by
  obtain ⟨g1, g2, g3⟩ := I.all S hm hF hpre (fun j hj => S.closed i j hj)
  have hst : St P Gl N (vF rs F0 (PR i)) (vM rs M (PR i)) a w (subω rs M ω (PR i)) := ⟨g2, fun g => Den.ext (o := ω0.bare) (I.ext0 S hm (PR i)).bare (hG g), g1, I.defers⟩
  cases hreg : reg i with
  | false =>
    cases hwr : wr i with
    | false =>
      obtain ⟨nx, p, hev, hp⟩ := S.ev i o hi ho hreg hwr
      refine q_ok hS ho hst g3 hev hp ?_
      intro v w' ωq hstp hnew hfacts
      obtain ⟨ω', I'⟩ := I.after S hm hi ho hni hpre (S.fr i hwr) hstp hnew hfacts
      exact hK _ _ _ I'
    | true =>
      obtain ⟨hd, hfs, hhs, k, hev, hkf⟩ := S.evw i o hi ho hreg hwr
      refine w_ok ho hst g3 hev fun w' L hL hmem h1 => ?_
      exact hK _ _ _ (I.write S hm hi hni hpre (k := k) (evalW_u hev) hkf hfs hhs hL hmem h1)
  | true =>
    obtain ⟨v, hy, ω', I'⟩ := I.stepR S hm hF hi ho hreg hni hpre
    exact hy.wpOp ho (hK _ _ _ I')

/-! ### what is left to be done -/
def und (n : Nat) (listed : Array Bool) : Nat := ((List.range n).filter fun j => !listed.getD j true).length
theorem filt_lt {p q : Nat → Bool} : ∀ (l : List Nat), (∀ x ∈ l, q x = true → p x = true) → (∃ x ∈ l, p x = true ∧ q x = false) → (l.filter q).length < (l.filter p).length
  | [], _, ⟨x, hx, _⟩ => by simp at hx
  | y :: r, h, ⟨x, hx, h1, h2⟩ => by
    have le : ∀ (l : List Nat), (∀ x ∈ l, q x = true → p x = true) → (l.filter q).length ≤ (l.filter p).length := by
      intro l
      induction l with
      | nil => intro _; exact Nat.le_refl _
      | cons z r ih =>
        intro h
        have ih := ih fun x hx => h x (by simp [hx])
        by_cases hq : q z = true
        · rw [List.filter_cons_of_pos hq, List.filter_cons_of_pos (h z (by simp) hq)]; simpa using ih
        · rw [List.filter_cons_of_neg hq]
          by_cases hp : p z = true
          · rw [List.filter_cons_of_pos hp]; simp; omega
          · rw [List.filter_cons_of_neg hp]; exact ih
    have hr : ∀ x ∈ r, q x = true → p x = true := fun x hx => h x (by simp [hx])
    rcases List.mem_cons.1 hx with rfl | hx
    · rw [List.filter_cons_of_neg (by rw [h2]; simp), List.filter_cons_of_pos h1]
      have := le r hr
      simp; omega
    · have ih := filt_lt r hr ⟨x, hx, h1, h2⟩
      by_cases hq : q y = true
      · rw [List.filter_cons_of_pos hq, List.filter_cons_of_pos (h y (by simp) hq)]; simpa using ih
      · rw [List.filter_cons_of_neg hq]
        by_cases hp : p y = true
        · rw [List.filter_cons_of_pos hp]; simp; omega
        · rw [List.filter_cons_of_neg hp]; exact ih
theorem getD_eq {listed : Array Bool} {j : Nat} (h : j < listed.size) (d e : Bool) : listed.getD j d = listed.getD j e := by simp [Array.getD, h]
theorem und_set {n i : Nat} {listed : Array Bool} (hi : i < n) (hs : listed.size = n) (h : listed.getD i true = false) : und n (listed.setIfInBounds i true) < und n listed := by
  refine filt_lt _ (fun x hx hq => ?_) ⟨i, List.mem_range.2 hi, by rw [h]; rfl, ?_⟩
  · by_cases e : i = x
    · subst e; rw [h]; rfl
    · rwa [getD_set_ne true e] at hq
  · have : (listed.setIfInBounds i true).getD i true = true := by simp [Array.getD, hs, hi]
    rw [this]; rfl
theorem und_pos {n i : Nat} {listed : Array Bool} (hi : i < n) (h : listed.getD i true = false) : 0 < und n listed := by
  unfold und
  exact List.length_pos_of_mem (List.mem_filter.2 ⟨List.mem_range.2 hi, by rw [h]; rfl⟩)
theorem tail_ok (S : Sta P sg Gl Γ N ops PR m rs F F0 M reg wr) {Q : Exit → Act → World → Prop} : ∀ (fuel t : Nat) (listed : Array Bool) (a : Act) (w : World), listed.size = ops.size → (∀ j, j < ops.size → (listed.getD j false = true ↔ j < t)) → m ≤ t → t ≤ ops.size → und ops.size listed ≤ fuel →
    wpList P ops Q (ops.toList.drop t) a w → wpAny P .any ops Q fuel listed a w := by
  intro fuel
  induction fuel with
  | zero =>
    intro t listed a w hs hl hmt htn hu h
    have ht : t = ops.size := by
      rcases Nat.lt_or_ge t ops.size with hlt | hge
      · have h1 : listed.getD t true = false := by
          rw [getD_eq (by omega) true false]
          cases hx : listed.getD t false with
          | false => rfl
          | true => exact absurd ((hl t hlt).1 hx) (Nat.lt_irrefl _)
        have := und_pos hlt h1
        omega
      · omega
    refine ⟨?_, ?_⟩
    · rw [List.eq_nil_iff_forall_not_mem]
      intro j hj
      obtain ⟨h1, o, h2, _⟩ := mem_ready.1 hj
      have hjn := (Array.getElem?_eq_some_iff.1 h2).1
      have := (hl j hjn).2 (by omega)
      rw [getD_eq (by omega) true false, this] at h1
      cases h1
    · rw [ht, List.drop_of_length_le (by simp)] at h
      exact h
  | succ fuel ih =>
    intro t listed a w hs hl hmt htn hu h
    have rdy : ∀ j, j ∈ Region.ready .any ops listed → j = t := by
      intro j hj
      obtain ⟨h1, o, h2, h3⟩ := mem_ready.1 hj
      have hjn := (Array.getElem?_eq_some_iff.1 h2).1
      have hge : ¬ j < t := fun hlt => by
        have := (hl j hjn).2 hlt
        rw [getD_eq (by omega) true false, this] at h1
        cases h1
      rcases Nat.lt_or_ge t j with hlt | hle
      · exfalso
        obtain ⟨e, he, hb, hx⟩ := S.dep j o h2 t ((S.tail j (by omega) hjn t hlt).resolve_right (fun h => by omega))
        have hon := h3 e he hb
        have hlt2 : e.on < t := (hl e.on (by have := S.dlt j o h2 e he hb; omega)).1 hon
        rcases hx with hx | hx
        · omega
        · have := S.lt _ _ hx; omega
      · omega
    refine ⟨fun hr => ?_, fun j hj => ?_⟩
    · rcases Nat.lt_or_ge t ops.size with hlt | hge
      · exfalso
        have : t ∈ Region.ready .any ops listed := by
          refine mem_ready.2 ⟨?_, ops[t], Array.getElem?_eq_getElem hlt, fun e he hb => ?_⟩
          · rw [getD_eq (by omega) true false]
            cases hx : listed.getD t false with
            | false => rfl
            | true => exact absurd ((hl t hlt).1 hx) (Nat.lt_irrefl _)
          · have hd := S.dlt t _ (Array.getElem?_eq_getElem hlt) e he hb
            exact (hl e.on (by omega)).2 hd
        rw [hr] at this
        simp at this
      · rw [show t = ops.size by omega, List.drop_of_length_le (by simp)] at h
        exact h
    · obtain rfl := rdy j hj
      obtain ⟨h1, o, h2, h3⟩ := mem_ready.1 hj
      have hjn := (Array.getElem?_eq_some_iff.1 h2).1
      have hdrop : ops.toList.drop j = o :: ops.toList.drop (j + 1) := by
        have hj' : j < ops.toList.length := by simpa using hjn
        rw [List.drop_eq_getElem_cons hj']
        congr 1
        have := (Array.getElem?_eq_some_iff.1 h2).2
        simpa using this
      rw [hdrop] at h
      have hnext : ∀ a' w', wpList P ops Q (ops.toList.drop (j + 1)) a' w' → wpAny P .any ops Q fuel (listed.setIfInBounds j true) a' w' := by
        intro a' w' h'
        refine ih (j + 1) _ a' w' (by simpa using hs) (fun q hq => ?_) (by omega) (by omega) ?_ h'
        · by_cases e : j = q
          · subst e
            have : (listed.setIfInBounds j true).getD j false = true := by simp [Array.getD, hs, hjn]
            rw [this]; simp
          · rw [getD_set_ne false e, hl q hq]; omega
        · have := und_set hjn hs h1; omega
      unfold wpList at h
      unfold wpOp
      rw [h2]
      simp only
      split
      · next hw => rw [if_pos hw] at h; exact h.imp (Oper.wp_mono hnext) id
      · next hw => rw [if_neg hw] at h; exact hnext _ _ h
theorem any_ok (hS : Sound P Gl Γ) (S : Sta P sg Gl Γ N ops PR m rs F F0 M reg wr) (hm : MemOK w0 ω0 M) (hF : FrOK w0 ω0 N F a0.tmps) (hG : ∀ g, Den w0 ω0.bare (Gl g) (.pointer (some ⟨g, 0, none⟩))) {Q : Exit → Act → World → Prop} (hQp : ∀ d c a v w, Q (.panic c) (Act.put a d v) w → Q (.panic c) a w)
    (htail : ∀ a w ω, Inv ops PR m rs M N a0 w0 ω0 (fun j => j < m) a w ω → wpList P ops Q (ops.toList.drop m) a w) :
    ∀ (fuel : Nat) (listed : Array Bool) (a : Act) (w : World) (ω : Ow), listed.size = ops.size → und ops.size listed ≤ fuel → Inv ops PR m rs M N a0 w0 ω0 (fun j => listed.getD j false = true) a w ω → wpAny P .any ops Q fuel listed a w := by
  intro fuel
  induction fuel with
  | zero =>
    intro listed a w ω hs hu I
    have all : ∀ j, j < ops.size → listed.getD j false = true := by
      intro j hj
      cases hx : listed.getD j false with
      | true => rfl
      | false => have := und_pos hj (by rw [getD_eq (listed := listed) (by omega) true false]; exact hx); omega
    have hmm : m = ops.size := by
      rcases Nat.lt_or_ge m ops.size with h | h
      · exact absurd (I.low m (all m h)) (Nat.lt_irrefl _)
      · have := S.le; omega
    have hD : (fun j => listed.getD j false = true) = (fun j => j < m) := by
      funext j
      refine propext ⟨I.low j, fun h => all j (by omega)⟩
    rw [hD] at I
    exact tail_ok S 0 m listed a w hs (fun j hj => ⟨fun _ => by omega, fun _ => all j hj⟩) (Nat.le_refl _) S.le hu (htail a w ω I)
  | succ fuel ih =>
    intro listed a w ω hs hu I
    by_cases hall : ∀ j, j < m → listed.getD j false = true
    · have hD : (fun j => listed.getD j false = true) = (fun j => j < m) := by
        funext j
        exact propext ⟨I.low j, hall j⟩
      have I' := I
      rw [hD] at I'
      exact tail_ok S _ m listed a w hs (fun j hj => ⟨I.low j, hall j⟩) (Nat.le_refl _) S.le hu (htail a w ω I')
    · have hle := S.le
      have hex : ∃ j, j < m ∧ listed.getD j false = false := by
        refine Classical.byContradiction fun h => hall fun j hj => ?_
        cases hx : listed.getD j false with
        | true => rfl
        | false => exact absurd ⟨j, hj, hx⟩ h
      -- the first that is not done is ready
      have first : ∃ j, j < m ∧ listed.getD j false = false ∧ j ∈ Region.ready .any ops listed := by
        refine Classical.byContradiction fun hno => ?_
        have : ∀ n, ∀ j, j < n → j < m → listed.getD j false = true := by
          intro n
          induction n with
          | zero => intro j hj; omega
          | succ n ihn =>
            intro j hj hjm
            cases hx : listed.getD j false with
            | true => rfl
            | false =>
              exfalso
              have hjn : j < ops.size := by omega
              refine hno ⟨j, hjm, hx, mem_ready.2 ⟨by rw [getD_eq (by omega) true false]; exact hx, ops[j], Array.getElem?_eq_getElem hjn, fun e he hb => ?_⟩⟩
              have hd := S.dlt j _ (Array.getElem?_eq_getElem hjn) e he hb
              exact ihn e.on (by omega) (by omega)
        exact hall fun j hj => this (j + 1) j (Nat.lt_succ_self j) hj
      have hprer : ∀ i, i ∈ Region.ready .any ops listed → ∀ x ∈ PR i, listed.getD x false = true := by
        intro i hi x hx
        obtain ⟨h1, o, h2, h3⟩ := mem_ready.1 hi
        obtain ⟨e, he, hb, hx'⟩ := S.dep i o h2 x hx
        have hon := h3 e he hb
        rcases hx' with rfl | hx'
        · exact hon
        · exact I.clo _ hon x hx'
      have hset : ∀ i, i < ops.size → (fun j => (listed.setIfInBounds i true).getD j false = true) = (fun j => listed.getD j false = true ∨ j = i) := by
        intro i hin
        funext j
        refine propext ⟨fun h => ?_, fun h => ?_⟩
        · by_cases e : i = j
          · exact .inr e.symm
          · rw [getD_set_ne false e] at h; exact .inl h
        · rcases h with h | rfl
          · exact getD_set_true h
          · simp [Array.getD, hs, hin]
      by_cases hlate : ∃ i, i ∈ Region.ready .any ops listed ∧ m ≤ i
      · -- a register operation is taken first
        obtain ⟨i, hi, hmi⟩ := hlate
        obtain ⟨j, hjm, hjf, hjr⟩ := first
        have hin : i < ops.size := by
          obtain ⟨_, o, h2, _⟩ := mem_ready.1 hi
          exact (Array.getElem?_eq_some_iff.1 h2).1
        have hreg : reg j = true := by
          rcases S.tail i hmi hin j (by omega) with h | h
          · have := hprer i hi j h
            rw [this] at hjf; cases hjf
          · exact h.2
        obtain ⟨h1, o, h2, h3⟩ := mem_ready.1 hjr
        have hjn := (Array.getElem?_eq_some_iff.1 h2).1
        obtain ⟨v, hy, ω', I'⟩ := I.stepR S hm hF hjm h2 hreg (by rw [hjf]; simp) (hprer j hjr)
        refine wpAny_first h2 (Region.noSelect_spec (S.sel j hjm hreg)) (fun c a w h => hQp _ c a v w h) fuel listed a w ?_ hjr hy ?_
        · intro q oq hq hne hun hno
          refine S.apart j o hjm hreg h2 q oq hq hne (fun hqp => ?_) hno
          have hqn := (Array.getElem?_eq_some_iff.1 hq).1
          have := hprer j hjr q hqp
          rw [getD_eq (by omega) true false, this] at hun
          cases hun
        · refine ih _ _ _ ω' (by simpa using hs) ?_ ?_
          · have := und_set hjn hs h1; omega
          · rw [hset j hjn]; exact I'
      · refine ⟨fun hr => ?_, fun i hi => ?_⟩
        · obtain ⟨j, _, _, hjr⟩ := first
          rw [hr] at hjr
          simp at hjr
        · obtain ⟨h1, o, h2, h3⟩ := mem_ready.1 hi
          have hin := (Array.getElem?_eq_some_iff.1 h2).1
          have hni : ¬ listed.getD i false = true := by
            rw [getD_eq (by omega) false true, h1]; simp
          have him : i < m := by
            rcases Nat.lt_or_ge i m with h | h
            · exact h
            · exact absurd ⟨i, hi, h⟩ hlate
          refine I.step hS S hm hF hG him h2 hni (hprer i hi) fun a' w' ω' I' => ih _ a' w' ω' (by simpa using hs) ?_ ?_
          · have := und_set hin hs h1; omega
          · rw [hset i hin]
            exact I'
end
end Go.Sy
set_option linter.unusedVariables false
set_option linter.unusedSimpArgs false
namespace Go.Sy
open Go.RowKit

/-! ### what is before an operation -/
def addAll : List Nat → List Nat → List Nat
  | [], acc => acc
  | x :: r, acc => match inL acc x with | true => addAll r acc | false => addAll r (x :: acc)
theorem mem_addAll : ∀ {l acc : List Nat} {x : Nat}, x ∈ addAll l acc ↔ x ∈ l ∨ x ∈ acc
  | [], acc, x => by simp [addAll]
  | y :: r, acc, x => by
    unfold addAll
    split
    · next h =>
      rw [mem_addAll]
      have := inL_iff.1 h
      simp only [List.mem_cons]
      constructor
      · rintro (h | h)
        · exact .inl (.inr h)
        · exact .inr h
      · rintro ((rfl | h) | h)
        · exact .inr this
        · exact .inl h
        · exact .inr h
    · rw [mem_addAll]
      simp only [List.mem_cons]
      constructor
      · rintro (h | rfl | h)
        · exact .inl (.inr h)
        · exact .inl (.inl rfl)
        · exact .inr h
      · rintro ((rfl | h) | h)
        · exact .inr (.inl rfl)
        · exact .inl h
        · exact .inr (.inr h)
def depsL (R : List (List Nat)) : List Edge → List Nat → List Nat
  | [], acc => acc
  | e :: r, acc => match Region.binds .any e with | true => depsL R r (addAll (e.on :: R.getD e.on []) acc) | false => depsL R r acc
theorem mem_depsL {R : List (List Nat)} : ∀ {es : List Edge} {acc : List Nat} {x : Nat}, x ∈ depsL R es acc ↔ x ∈ acc ∨ ∃ e ∈ es, Region.binds .any e = true ∧ (x = e.on ∨ x ∈ R.getD e.on [])
  | [], acc, x => by simp [depsL]
  | e :: r, acc, x => by
    unfold depsL
    split
    · next hb =>
      rw [mem_depsL, mem_addAll]
      simp only [List.mem_cons, exists_eq_or_imp]
      constructor
      · rintro ((h | h) | h)
        · exact .inr (.inl ⟨hb, h⟩)
        · exact .inl h
        · exact .inr (.inr h)
      · rintro (h | ⟨_, h⟩ | h)
        · exact .inl (.inr h)
        · exact .inl (.inl h)
        · exact .inr h
    · next hb =>
      rw [mem_depsL]
      simp only [List.mem_cons, exists_eq_or_imp]
      constructor
      · rintro (h | h)
        · exact .inl h
        · exact .inr (.inr h)
      · rintro (h | ⟨h, _⟩ | h)
        · exact .inl h
        · rw [hb] at h; cases h
        · exact .inr h
def presL : List Oper → List (List Nat) → List (List Nat)
  | [], acc => acc
  | o :: r, acc => presL r (acc ++ [depsL acc o.after.toList []])
theorem presL_spec : ∀ (l : List Oper) (acc : List (List Nat)), (∃ t, presL l acc = acc ++ t) ∧ ∀ k o, l[k]? = some o → (presL l acc)[acc.length + k]? = some (depsL ((presL l acc).take (acc.length + k)) o.after.toList [])
  | [], acc => ⟨⟨[], by simp [presL]⟩, fun k o h => by simp at h⟩
  | o :: r, acc => by
    obtain ⟨⟨t, ht⟩, h⟩ := presL_spec r (acc ++ [depsL acc o.after.toList []])
    have e : presL (o :: r) acc = presL r (acc ++ [depsL acc o.after.toList []]) := rfl
    refine ⟨⟨[depsL acc o.after.toList []] ++ t, by rw [e, ht]; simp⟩, fun k o' hk => ?_⟩
    cases k with
    | zero =>
      simp only [List.getElem?_cons_zero, Option.some.injEq] at hk
      subst hk
      rw [e, ht]
      simp
    | succ k =>
      have := h k o' (by simpa using hk)
      rw [e]
      simpa [Nat.add_assoc, Nat.add_comm 1 k] using this
def edgesB : Nat → List Oper → Bool
  | _, [] => true
  | i, o :: r => (o.after.toList.all fun e => !Region.binds .any e || Nat.blt e.on i) && edgesB (i + 1) r
theorem edgesB_spec : ∀ {l : List Oper} {i : Nat}, edgesB i l = true → ∀ k o, l[k]? = some o → ∀ e ∈ o.after, Region.binds .any e = true → e.on < i + k
  | [], _, _, k, o, h => by simp at h
  | x :: r, i, hb, k, o, h => by
    simp only [edgesB, Bool.and_eq_true] at hb
    intro e he hbe
    cases k with
    | zero =>
      simp only [List.getElem?_cons_zero, Option.some.injEq] at h
      subst h
      have := List.all_eq_true.1 hb.1 e (by simpa using he)
      rw [hbe] at this
      exact Nat.le_of_ble_eq_true this
    | succ k =>
      have := edgesB_spec hb.2 k o (by simpa using h) e he hbe
      omega
/-- How many operations have something beside them. -/
def regSyn (o : Oper) : Bool :=
  match o.guard, o.op with
  | none, .extract _ _ => true
  | none, .binOp _ _ _ _ _ => true
  | none, .unOp _ _ _ => true
  | none, .convert _ _ _ => true
  | none, .move _ => true
  | _, _ => false
def regAt (ops : List Oper) (j : Nat) : Bool := match ops[j]? with | some o => regSyn o | none => false
def lastBad (ops : List Oper) : Nat → List (List Nat) → Nat → Nat
  | _, [], m => m
  | i, p :: r, m => lastBad ops (i + 1) r (match Nat.beq p.length i || (List.range i).all fun j => inL p j || regAt ops j with | true => m | false => i + 1)
def tailB (R : List (List Nat)) (m n : Nat) (gs : List Bool) : Bool := (List.range n).all fun i => Nat.blt i m || (List.range i).all fun j => inL (R.getD i []) j || (Nat.blt j m && gs.getD j false)
def apartB (ops : List Oper) (R : List (List Nat)) (gs : List Bool) : Bool :=
  (List.range gs.length).all fun i => !(gs.getD i false) ||
    (match ops[i]? with
     | some oi => Region.noSelect ops.toArray && (List.range ops.length).all fun j => Nat.beq j i || inL (R.getD i []) j || (match ops[j]? with | some oj => (oj.after.toList.any fun e => Region.binds .any e && Nat.beq e.on i) || oi.apart ops.toArray oj | none => true)
     | none => true)
/-- A register operation. -/
def regTry (P : Program) (sg : Bool) (N : Nat) (V : Fr) (o : Oper) : Option (Prop × Rc) :=
  match regSyn o, evR P sg V o.op with
  | true, .ok s => (match isVal s with | true => some (True, ⟨ent1 N o.dst s, [], []⟩) | false => none)
  | true, .asm _ s => (match isVal s with | true => some (True, ⟨ent1 N o.dst s, [], []⟩) | false => none)
  | true, .req p s => (match isVal s with | true => some (p, ⟨ent1 N o.dst s, [], []⟩) | false => none)
  | _, _ => none
theorem regTry_ok {P : Program} {sg : Bool} {N : Nat} {V : Fr} {o : Oper} {p : Prop} {rc : Rc} (h : regTry P sg N V o = some (p, rc)) (hp : p) : o.guard = none ∧ ∃ s, isVal s = true ∧ rc = ⟨ent1 N o.dst s, [], []⟩ ∧ (evR P sg V o.op).run (fun s' => s' = s) := by
  have hg : ∀ {b}, regSyn o = b → b = true → o.guard = none := by
    intro b h hb
    subst hb
    unfold regSyn at h
    split at h <;> first | assumption | cases h
  unfold regTry at h
  split at h
  · next s h1 h2 =>
    split at h
    · next hv =>
      simp only [Option.some.injEq, Prod.mk.injEq] at h
      exact ⟨hg h1 rfl, s, hv, h.2.symm, by rw [h2]; exact rfl⟩
    · cases h
  · next s h1 h2 =>
    split at h
    · next hv =>
      simp only [Option.some.injEq, Prod.mk.injEq] at h
      exact ⟨hg h1 rfl, s, hv, h.2.symm, by rw [h2]; exact fun _ => rfl⟩
    · cases h
  · next s h1 h2 =>
    split at h
    · next hv =>
      simp only [Option.some.injEq, Prod.mk.injEq] at h
      exact ⟨hg h1 rfl, s, hv, h.2.symm, by rw [h2]; exact ⟨by rw [h.1]; exact hp, rfl⟩⟩
    · cases h
  · cases h

/-! ### all operations, one behind the other -/
/-- Where stores go, at a first look; no more than a guess. -/
def dryF (P : Program) (sg : Bool) (Gl : Nat → SV) (Γ : Table) (N : Nat) (M : Mem) : List Oper → Fr → Nat → Fr
  | [], F, _ => F
  | o :: r, F, nx =>
    match evO2 P sg Gl Γ F M nx [] [] o.op with
    | .ok s => dryF P sg Gl Γ N M r (putF N F o.dst s) nx
    | .asm _ s => dryF P sg Gl Γ N M r (putF N F o.dst s) nx
    | .req _ s => dryF P sg Gl Γ N M r (putF N F o.dst s) nx
    | .mem _ s _ => dryF P sg Gl Γ N M r (putF N F o.dst s) nx
    | .bad => dryF P sg Gl Γ N M r (putF N F o.dst .junk) nx
def storeK (Gl : Nat → SV) (F : Fr) (o : Oper) : Option Nat :=
  match o.op with
  | .store _ x _ => (match opnd Gl F x with | .ptr k _ none _ _ => some k | _ => none)
  | _ => none
/-- Roots of which nothing is known any more. -/
def junkM : List Nat → Mem → Mem
  | [], M => M
  | k :: r, M =>
    match (ent M k).hl, (ent M k).b with
    | none, .cells l => (match l.all fun s => !isIl s with | true => junkM r ((k, { ent M k with b := .cells (junkL l.length) }) :: M) | false => junkM r M)
    | _, _ => junkM r M
def isJk : SV → Bool
  | .junk => true
  | _ => false
def wokB (e f : Ent) : Bool :=
  match e.hl, e.b, f.hl, f.b with
  | none, .cells l, none, .cells l' => Nat.beq e.rs f.rs && Nat.beq e.ds f.ds && l.all isJk && Nat.beq l'.length l.length
  | _, _, _, _ => false
def evRec (P : Program) (sg : Bool) (Gl : Nat → SV) (Γ : Table) (N : Nat) (ops : List Oper) (R : List (List Nat)) (F0 : Fr) (M : Mem) : List Oper → Nat → List Rc → List Bool → List Bool → Nat → (List Rc → List Bool → List Bool → Nat → Prop) → Prop
  | [], _, rs, gs, ws, nx, K => K rs gs ws nx
  | o :: r, i, rs, gs, ws, nx, K =>
    match regTry P sg N (vF rs F0 (R.getD i [])) o with
    | some (p, rc) => p ∧ evRec P sg Gl Γ N ops R F0 M r (i + 1) (rs ++ [rc]) (gs ++ [true]) (ws ++ [false]) nx K
    | none =>
      match evalQ P sg Gl Γ N ops (vF rs F0 (R.getD i [])) (vM rs M (R.getD i [])) (vH rs (R.getD i [])) nx (R.getD i []) o with
      | some (p, rc) => p ∧ evRec P sg Gl Γ N ops R F0 M r (i + 1) (rs ++ [rc]) (gs ++ [false]) (ws ++ [false]) (nx + 16) K
      | none =>
        match evalW P Gl N ops (vF rs F0 (R.getD i [])) (vM rs M (R.getD i [])) (vH rs (R.getD i [])) o with
        | some (k, u) => (match freeB (ent M) k with | false => evRec P sg Gl Γ N ops R F0 M r (i + 1) (rs ++ [⟨[], [], u⟩]) (gs ++ [false]) (ws ++ [true]) nx K | true => False)
        | none => False
def eqO : Option Nat → Nat → Bool
  | some x, y => Nat.beq x y
  | none, _ => false
def dstL (ops : List Oper) (i : Nat) : Option Nat := match ops[i]? with | some o => o.dst | none => none
def rcsB (N : Nat) (ops : List Oper) (R : List (List Nat)) (M : Mem) (rs : List Rc) (ws : List Bool) : Bool :=
  nodupB (rs.map fun rc => rc.u.map (·.1)).flatten &&
  ((List.range rs.length).all fun i =>
    ((rcAt rs i).fs.all fun p => eqO (dstL ops i) p.1 && Nat.blt p.1 N) &&
    ((rcAt rs i).hs.all fun h => eqO (dstL ops i) h.slot && (R.getD i []).any fun g => eqO (dstL ops g) h.d) &&
    ((rcAt rs i).u.all fun p => (freeB (ent M) p.1 || (ws.getD i false && !freeB (ent M) p.1 && wokB (ent M p.1) p.2)) && Nat.beq p.2.rs (ent M p.1).rs && Nat.beq p.2.ds (ent M p.1).ds))
def junkF (l : List Oper) (F : Fr) : Fr := (l.filterMap (·.dst)).map (fun t => (t, SV.junk)) ++ F
def evDraw (P : Program) (sg : Bool) (Gl : Nat → SV) (Γ : Table) (N : Nat) (ops : List Oper) (K : Fr → Mem → Nat → Prop) (F : Fr) (M : Mem) (nx : Nat) : Prop :=
  let R := presL ops []
  let m := lastBad ops 0 R 0
  match edgesB 0 ops, nodupB ((ops.take m).map fun o => o.dst.toList).flatten, Nat.ble m ops.length, P.follows .mixedOrders with
  | true, true, true, true =>
    let MJ := junkM ((ops.take m).filterMap (storeK Gl (dryF P sg Gl Γ N M (ops.take m) F nx))) M
    evRec P sg Gl Γ N ops R (junkF (ops.take m) F) MJ (ops.take m) 0 [] [] [] nx fun rs gs ws nx' =>
      match rcsB N ops R MJ rs ws && tailB R m ops.length gs && apartB ops R gs with
      | true => evOps P sg Gl Γ N ops K (ops.drop m) (vF rs (junkF (ops.take m) F) (List.range m)) (vM rs MJ (List.range m)) nx' (vH rs (List.range m))
      | false => False
  | _, _, _, _ => False

section
variable {P : Program} {w : World} {ω : Ow} {Gl : Nat → SV} {Γ : Table} {N : Nat} {F : Fr} {M : Mem} {a : Act}
def RecOK (P : Program) (sg : Bool) (Gl : Nat → SV) (Γ : Table) (N : Nat) (M : Mem) (ops : List Oper) (R : List (List Nat)) (F0 : Fr) (K : List Rc → List Bool → List Bool → Nat → Prop) (r : List Oper) (i : Nat) (rs : List Rc) (gs ws : List Bool) : Prop :=
    ∃ t tg tw nx', K (rs ++ t) (gs ++ tg) (ws ++ tw) nx' ∧ t.length = r.length ∧ tg.length = r.length ∧ tw.length = r.length ∧ ∀ k o, r[k]? = some o →
      ((gs ++ tg).getD (i + k) false = true → (ws ++ tw).getD (i + k) false = false ∧ o.guard = none ∧ ∃ s, isVal s = true ∧ rcAt (rs ++ t) (i + k) = ⟨ent1 N o.dst s, [], []⟩ ∧ (evR P sg (vF ((rs ++ t).take (i + k)) F0 (R.getD (i + k) [])) o.op).run (fun s' => s' = s)) ∧
      ((gs ++ tg).getD (i + k) false = false → (ws ++ tw).getD (i + k) false = false → ∃ nx p, evalQ P sg Gl Γ N ops (vF ((rs ++ t).take (i + k)) F0 (R.getD (i + k) [])) (vM ((rs ++ t).take (i + k)) M (R.getD (i + k) [])) (vH ((rs ++ t).take (i + k)) (R.getD (i + k) [])) nx (R.getD (i + k) []) o = some (p, rcAt (rs ++ t) (i + k)) ∧ p) ∧
      ((ws ++ tw).getD (i + k) false = true → ∃ q u, evalW P Gl N ops (vF ((rs ++ t).take (i + k)) F0 (R.getD (i + k) [])) (vM ((rs ++ t).take (i + k)) M (R.getD (i + k) [])) (vH ((rs ++ t).take (i + k)) (R.getD (i + k) [])) o = some (q, u) ∧ rcAt (rs ++ t) (i + k) = ⟨[], [], u⟩ ∧ freeB (ent M) q = false)
theorem evRec_ok {sg : Bool} {ops : List Oper} {R : List (List Nat)} {F0 : Fr} {K : List Rc → List Bool → List Bool → Nat → Prop} : ∀ (r : List Oper) (i : Nat) (rs : List Rc) (gs ws : List Bool) (nx : Nat), rs.length = i → gs.length = i → ws.length = i → evRec P sg Gl Γ N ops R F0 M r i rs gs ws nx K →
    RecOK P sg Gl Γ N M ops R F0 K r i rs gs ws
  | [], i, rs, gs, ws, nx, hl, hg, hw, h => ⟨[], [], [], nx, by rw [List.append_nil, List.append_nil, List.append_nil]; exact h, rfl, rfl, rfl, fun k o hk => by simp at hk⟩
  | o :: r, i, rs, gs, ws, nx, hl, hg, hw, h => by
    have e1 : ∀ {rc : Rc} {t : List Rc}, (rs ++ rc :: t).take (i + 0) = rs := by intro rc t; rw [Nat.add_zero, ← hl, List.take_left]
    have e2 : ∀ {rc : Rc} {t : List Rc}, rcAt (rs ++ rc :: t) (i + 0) = rc := by intro rc t; simp [rcAt, List.getD_eq_getElem?_getD, ← hl]
    have e3 : ∀ {b : Bool} {t : List Bool}, (gs ++ b :: t).getD (i + 0) false = b := by intro b t; simp [List.getD_eq_getElem?_getD, ← hg]
    have e4 : ∀ {b : Bool} {t : List Bool}, (ws ++ b :: t).getD (i + 0) false = b := by intro b t; simp [List.getD_eq_getElem?_getD, ← hw]
    have go : ∀ {rc : Rc} {bg bw : Bool} {nx1 : Nat}, evRec P sg Gl Γ N ops R F0 M r (i + 1) (rs ++ [rc]) (gs ++ [bg]) (ws ++ [bw]) nx1 K →
        ((bg = true → bw = false ∧ o.guard = none ∧ ∃ s, isVal s = true ∧ rc = ⟨ent1 N o.dst s, [], []⟩ ∧ (evR P sg (vF rs F0 (R.getD (i + 0) [])) o.op).run (fun s' => s' = s)) ∧
          (bg = false → bw = false → ∃ nx p, evalQ P sg Gl Γ N ops (vF rs F0 (R.getD (i + 0) [])) (vM rs M (R.getD (i + 0) [])) (vH rs (R.getD (i + 0) [])) nx (R.getD (i + 0) []) o = some (p, rc) ∧ p) ∧
          (bw = true → ∃ q u, evalW P Gl N ops (vF rs F0 (R.getD (i + 0) [])) (vM rs M (R.getD (i + 0) [])) (vH rs (R.getD (i + 0) [])) o = some (q, u) ∧ rc = ⟨[], [], u⟩ ∧ freeB (ent M) q = false)) →
        RecOK P sg Gl Γ N M ops R F0 K (o :: r) i rs gs ws := by
      intro rc bg bw nx1 h hz
      obtain ⟨t, tg, tw, nx', h1, h2, h2', h2'', h3⟩ := evRec_ok r (i + 1) (rs ++ [rc]) (gs ++ [bg]) (ws ++ [bw]) nx1 (by simp [hl]) (by simp [hg]) (by simp [hw]) h
      have e : rs ++ rc :: t = rs ++ [rc] ++ t := by simp
      have eg : gs ++ bg :: tg = gs ++ [bg] ++ tg := by simp
      have ew : ws ++ bw :: tw = ws ++ [bw] ++ tw := by simp
      refine ⟨rc :: t, bg :: tg, bw :: tw, nx', by rw [e, eg, ew]; exact h1, by simp [h2], by simp [h2'], by simp [h2''], fun k o' hk => ?_⟩
      cases k with
      | zero =>
        simp only [List.getElem?_cons_zero, Option.some.injEq] at hk
        subst hk
        rw [e1, e2, e3, e4]
        exact hz
      | succ k =>
        have := h3 k o' (by simpa using hk)
        rw [show i + (k + 1) = i + 1 + k by omega, e, eg, ew]
        exact this
    unfold evRec at h
    split at h
    · next p rc he =>
      obtain ⟨hp, h⟩ := h
      obtain ⟨g1, s, g2, g3, g4⟩ := regTry_ok he hp
      exact go h ⟨fun _ => ⟨rfl, g1, s, g2, g3, g4⟩, fun h => (by cases h), fun h => (by cases h)⟩
    · next hno =>
      split at h
      · next p rc he =>
        obtain ⟨hp, h⟩ := h
        exact go h ⟨fun h => (by cases h), fun _ _ => ⟨nx, p, he, hp⟩, fun h => (by cases h)⟩
      · split at h
        · next k u he =>
          split at h
          · next hf => exact go h ⟨fun h => (by cases h), fun _ h => (by cases h), fun _ => ⟨k, u, he, rfl, hf⟩⟩
          · exact h.elim
        · exact h.elim
theorem evalW_dst {ops : List Oper} {V : Fr} {M : Mem} {H : List Hd} {o : Oper} {k : Nat} {u : Upd} (h : evalW P Gl N ops V M H o = some (k, u)) : o.dst = none := by
  unfold evalW at h
  split at h
  · next h1 _ _ => exact h1
  · cases h
theorem junkM_ok : ∀ (l : List Nat) {M : Mem}, MemOK w ω M → MemOK w ω (junkM l M)
  | [], _, hm => hm
  | k :: r, M, hm => by
    unfold junkM
    split
    · next l hh hb =>
      split
      · next hal =>
        refine junkM_ok r ?_
        refine hm.retell rfl hb (by simp [junkL]) (fun L hL c T hc j hj x hx hd => ⟨by rw [junkL_at]; rfl, by rw [junkL_at]; trivial⟩) (fun j => all_notIl hal j)
      · exact junkM_ok r hm
    · exact junkM_ok r hm
theorem isJk_all : ∀ {l : List SV}, l.all isJk = true → l = junkL l.length
  | [], _ => rfl
  | s :: r, h => by
    simp only [List.all_cons, Bool.and_eq_true] at h
    have := isJk_all h.2
    cases s <;> first | (cases h.1; done) | skip
    show _ = SV.junk :: junkL r.length
    rw [← this]
theorem wokB_ok {k : Nat} {e : Ent} (h : wokB (ent M k) e = true) : WOK M e k := by
  unfold wokB at h
  split at h
  · next l l' h1 h2 h3 h4 =>
    simp only [Bool.and_eq_true] at h
    obtain ⟨⟨⟨g1, g2⟩, g3⟩, g4⟩ := h
    have g1 := Nat.eq_of_beq_eq_true g1
    have g2 := Nat.eq_of_beq_eq_true g2
    have g4 := Nat.eq_of_beq_eq_true g4
    refine ⟨(ent M k).rs, (ent M k).ds, l.length, l', ?_, g4, ?_⟩
    · rw [← isJk_all g3]
      generalize ent M k = e0 at *
      cases e0; simp_all
    · cases e; simp_all
  · cases h
theorem rcAt_take {rs : List Rc} {i j : Nat} (h : j < i) : rcAt (rs.take i) j = rcAt rs j := by
  unfold rcAt
  rw [List.getD_eq_getElem?_getD, List.getD_eq_getElem?_getD, List.getElem?_take_of_lt h]
theorem flat_congr {α : Type} {f g : Nat → List α} : ∀ {E : List Nat}, (∀ j ∈ E, f j = g j) → E.flatMap f = E.flatMap g
  | [], _ => rfl
  | j :: E, h => by rw [List.flatMap_cons, List.flatMap_cons, h j (by simp), flat_congr fun i hi => h i (by simp [hi])]
theorem flat_inj : ∀ {l : List (List Nat)}, l.flatten.Nodup → ∀ {i j k : Nat} {x y : List Nat}, l[i]? = some x → l[j]? = some y → k ∈ x → k ∈ y → i = j
  | [], _, i, j, k, x, y, h, _, _, _ => by simp at h
  | z :: l, hn, i, j, k, x, y, hi, hj, hx, hy => by
    rw [List.flatten_cons, List.nodup_append] at hn
    have mem : ∀ {q : Nat} {v : List Nat}, l[q]? = some v → k ∈ v → k ∈ l.flatten := fun hq hv => List.mem_flatten.2 ⟨_, List.mem_of_getElem? hq, hv⟩
    cases i with
    | zero =>
      cases j with
      | zero => rfl
      | succ j =>
        simp at hi hj; subst hi
        exact absurd rfl (hn.2.2 k hx k (mem hj hy))
    | succ i =>
      cases j with
      | zero =>
        simp at hi hj; subst hj
        exact absurd rfl (hn.2.2 k hy k (mem hi hx))
      | succ j => exact congrArg (· + 1) (flat_inj hn.2.1 (i := i) (j := j) (by simpa using hi) (by simpa using hj) hx hy)
theorem eqO_eq {x : Option Nat} {y : Nat} (h : eqO x y = true) : x = some y := by
  cases x with
  | none => cases h
  | some z => rw [Nat.eq_of_beq_eq_true h]
theorem ent_mem {k : Nat} : ∀ {u : Upd}, k ∈ u.map (·.1) → ∃ p ∈ u, p.1 = k ∧ ent u k = p.2
  | [], h => by simp at h
  | p :: r, h => by
    obtain ⟨p1, p2⟩ := p
    by_cases hk : p1 = k
    · subst hk; exact ⟨(p1, p2), List.mem_cons_self, rfl, ent_eq⟩
    · simp only [List.map_cons, List.mem_cons] at h
      obtain ⟨q, h1, h2, h3⟩ := ent_mem (h.resolve_left fun e => hk e.symm)
      exact ⟨q, by simp [h1], h2, by rw [ent_ne hk]; exact h3⟩
theorem junk_look : ∀ (l : List Oper) (F : Fr) (t : Nat), look (junkF l F) t = .junk ∨ (look (junkF l F) t = look F t ∧ ∀ o ∈ l, o.dst ≠ some t)
  | [], F, t => .inr ⟨rfl, fun o ho => by simp at ho⟩
  | o :: l, F, t => by
    cases hd : o.dst with
    | none =>
      have e : junkF (o :: l) F = junkF l F := by simp [junkF, hd]
      rw [e]
      rcases junk_look l F t with h | ⟨h1, h2⟩
      · exact .inl h
      · refine .inr ⟨h1, fun o' ho' => ?_⟩
        rcases List.mem_cons.1 ho' with rfl | ho'
        · rw [hd]; simp
        · exact h2 o' ho'
    | some x =>
      have e : junkF (o :: l) F = (x, .junk) :: junkF l F := by simp [junkF, hd]
      rw [e]
      by_cases hx : x = t
      · subst hx; exact .inl look_eq
      · rw [look_ne hx]
        rcases junk_look l F t with h | ⟨h1, h2⟩
        · exact .inl h
        · refine .inr ⟨h1, fun o' ho' => ?_⟩
          rcases List.mem_cons.1 ho' with rfl | ho'
          · rw [hd]; simpa using hx
          · exact h2 o' ho'
theorem draw_ok (hS : Sound P Gl Γ) {sg : Bool} {id : Nat} {ops : Array Oper} {Q : Exit → Act → World → Prop} {K : Fr → Mem → Nat → Prop} {S : List Nat} {nx : Nat}
    (hQp : ∀ d c a v w, Q (.panic c) (Act.put a d v) w → Q (.panic c) a w) (hQ : ∀ a' w', Done P Gl N S a w ω K a' w' → Q .normal a' w') (hd : ∀ o ∈ ops.toList, ∀ t, o.dst = some t → t ∈ S) (h : St P Gl N F M a w ω) (he : evDraw P sg Gl Γ N ops.toList K F M nx) : (Code.region id ops true).wp P Q a w := by
  unfold evDraw at he
  simp only at he
  split at he
  rotate_left
  · exact he.elim
  next c1 c3 c4 c5 =>
  generalize hR : presL ops.toList [] = R at *
  generalize hm : lastBad ops.toList 0 R 0 = m at *
  have hmle : m ≤ ops.size := by simpa using Nat.le_of_ble_eq_true c4
  have hmj : MemOK w ω (junkM ((ops.toList.take m).filterMap (storeK Gl (dryF P sg Gl Γ N M (ops.toList.take m) F nx))) M) := junkM_ok _ h.mem
  generalize junkM ((ops.toList.take m).filterMap (storeK Gl (dryF P sg Gl Γ N M (ops.toList.take m) F nx))) M = MJ at *
  obtain ⟨rs, gs, ws, nx', h1, h2, h2g, h2w, h3⟩ := evRec_ok (ops.toList.take m) 0 [] [] [] nx rfl rfl rfl he
  simp only [List.nil_append, Nat.zero_add] at h1 h3
  have hlen : rs.length = m := by rw [h2, List.length_take]; simp; omega
  split at h1
  rotate_left
  · exact h1.elim
  next c6 =>
  have hpres := (presL_spec ops.toList []).2
  rw [hR] at hpres
  simp only [List.length_nil, Nat.zero_add] at hpres
  have hops : ∀ {i o}, ops[i]? = some o → ops.toList[i]? = some o := fun h => by rw [Array.getElem?_toList]; exact h
  have getR : ∀ {i o}, ops[i]? = some o → R.getD i [] = depsL (R.take i) o.after.toList [] := fun h => by
    rw [List.getD_eq_getElem?_getD, hpres _ _ (hops h)]; rfl
  have hdlt : ∀ i o, ops[i]? = some o → ∀ e ∈ o.after, Region.binds .any e = true → e.on < i := fun i o ho e he hb => by
    have := edgesB_spec c1 i o (hops ho) e he hb
    omega
  have hdep : ∀ i o, ops[i]? = some o → ∀ x ∈ R.getD i [], ∃ e ∈ o.after, Region.binds .any e = true ∧ (x = e.on ∨ x ∈ R.getD e.on []) := by
    intro i o ho x hx
    rw [getR ho, mem_depsL] at hx
    rcases hx with hx | ⟨e, he, hb, hx⟩
    · simp at hx
    · refine ⟨e, by simpa using he, hb, hx.imp (fun h => h) fun hx => ?_⟩
      have hlt := hdlt i o ho e (by simpa using he) hb
      rwa [List.getD_eq_getElem?_getD, List.getElem?_take_of_lt hlt, ← List.getD_eq_getElem?_getD] at hx
  have hlong : ∀ {i j}, j ∈ R.getD i [] → ∃ o, ops[i]? = some o := by
    intro i j hj
    rcases Nat.lt_or_ge i ops.size with hi | hi
    · exact ⟨_, Array.getElem?_eq_getElem hi⟩
    · exfalso
      have hRl : R.length ≤ ops.size := by
        have : ∀ (l : List Oper) (acc : List (List Nat)), (presL l acc).length = acc.length + l.length := by
          intro l
          induction l with
          | nil => intro acc; simp [presL]
          | cons o r ih => intro acc; simp only [presL, ih]; simp; omega
        rw [← hR, this]; simp
      rw [List.getD_eq_getElem?_getD, List.getElem?_eq_none (by omega)] at hj
      simp at hj
  have hlt : ∀ i j, j ∈ R.getD i [] → j < i := by
    intro i
    induction i using Nat.strongRecOn with
    | ind i ih =>
      intro j hj
      obtain ⟨o, ho⟩ := hlong hj
      obtain ⟨e, he, hb, hx⟩ := hdep i o ho j hj
      have := hdlt i o ho e he hb
      rcases hx with rfl | hx
      · exact this
      · have := ih e.on this j hx; omega
  have hsub : ∀ {i o e}, ops[i]? = some o → e ∈ o.after → Region.binds .any e = true → e.on ∈ R.getD i [] ∧ ∀ x ∈ R.getD e.on [], x ∈ R.getD i [] := by
    intro i o e ho he hb
    have hlt' := hdlt i o ho e he hb
    rw [getR ho]
    refine ⟨mem_depsL.2 (.inr ⟨e, by simpa using he, hb, .inl rfl⟩), fun x hx => mem_depsL.2 (.inr ⟨e, by simpa using he, hb, .inr ?_⟩)⟩
    rwa [List.getD_eq_getElem?_getD, List.getElem?_take_of_lt hlt', ← List.getD_eq_getElem?_getD]
  have hcl : ∀ i j, j ∈ R.getD i [] → ∀ k ∈ R.getD j [], k ∈ R.getD i [] := by
    intro i
    induction i using Nat.strongRecOn with
    | ind i ih =>
      intro j hj k hk
      obtain ⟨o, ho⟩ := hlong hj
      obtain ⟨e, he, hb, hx⟩ := hdep i o ho j hj
      rcases hx with rfl | hx
      · exact (hsub ho he hb).2 k hk
      · exact (hsub ho he hb).2 k (ih e.on (hdlt i o ho e he hb) j hx k hk)
  rw [Bool.and_eq_true, Bool.and_eq_true] at c6
  obtain ⟨⟨c6, c2⟩, c7⟩ := c6
  have hglen : gs.length = m := by rw [h2g, List.length_take]; simp; omega
  simp only [rcsB, Bool.and_eq_true] at c6
  obtain ⟨k1, k2⟩ := c6
  have k1 := nodupB_ok k1
  have kk : ∀ i, i < m → _ := fun i hi => List.all_eq_true.1 k2 i (List.mem_range.2 (by rw [hlen]; exact hi))
  have short : ∀ i, m ≤ i → rcAt rs i = ⟨[], [], []⟩ := fun i hi => by
    unfold rcAt
    rw [List.getD_eq_getElem?_getD, List.getElem?_eq_none (by omega)]; rfl
  have inM : ∀ {i k}, k ∈ keys rs i → i < m := fun {i k} hk => by
    rcases Nat.lt_or_ge i m with h | h
    · exact h
    · unfold keys at hk; rw [short i h] at hk; simp at hk
  have dstEq : ∀ i, dstL ops.toList i = dstOf ops i := fun i => by
    unfold dstL dstOf
    rw [Array.getElem?_toList]
    cases ops[i]? <;> rfl
  have SS : Sta P sg Gl Γ N ops (fun i => R.getD i []) m rs F (junkF (ops.toList.take m) F) MJ (fun i => gs.getD i false) (fun i => ws.getD i false) := by
    refine ⟨hdep, hcl, hlt, hdlt, ?_, hmle, ?_, ?_, ?_, ?_, ?_, ?_, ?_, ?_, ?_, ?_, ?_, ?_, short, ?_, ?_⟩
    · intro i hmi hin j hj
      have := List.all_eq_true.1 c2 i (List.mem_range.2 (by simpa using hin))
      rw [Bool.or_eq_true] at this
      rcases this with h | h
      · have : i < m := Nat.le_of_ble_eq_true h
        omega
      · have h := List.all_eq_true.1 h j (List.mem_range.2 hj)
        rw [Bool.or_eq_true, Bool.and_eq_true] at h
        exact h.imp inL_iff.1 fun h => ⟨Nat.le_of_ble_eq_true h.1, h.2⟩
    · intro i o hi ho hreg hwr
      obtain ⟨nx1, p, g1, g2⟩ := (h3 i o (by rw [List.getElem?_take_of_lt hi]; exact hops ho)).2.1 hreg hwr
      refine ⟨nx1, p, ?_, g2⟩
      have e1 : vF (rs.take i) (junkF (ops.toList.take m) F) (R.getD i []) = vF rs (junkF (ops.toList.take m) F) (R.getD i []) := by
        unfold vF; rw [flat_congr fun j hj => by rw [rcAt_take (hlt i j hj)]]
      have e2 : vM (rs.take i) MJ (R.getD i []) = vM rs MJ (R.getD i []) := by
        unfold vM; rw [flat_congr fun j hj => by rw [rcAt_take (hlt i j hj)]]
      have e3 : vH (rs.take i) (R.getD i []) = vH rs (R.getD i []) := by
        unfold vH; rw [flat_congr fun j hj => by rw [rcAt_take (hlt i j hj)]]
      rw [e1, e2, e3] at g1
      exact g1
    · intro i o hi ho hreg hwr
      obtain ⟨q, u, g1, g2, g3⟩ := (h3 i o (by rw [List.getElem?_take_of_lt hi]; exact hops ho)).2.2 hwr
      have e1 : vF (rs.take i) (junkF (ops.toList.take m) F) (R.getD i []) = vF rs (junkF (ops.toList.take m) F) (R.getD i []) := by
        unfold vF; rw [flat_congr fun j hj => by rw [rcAt_take (hlt i j hj)]]
      have e2 : vM (rs.take i) MJ (R.getD i []) = vM rs MJ (R.getD i []) := by
        unfold vM; rw [flat_congr fun j hj => by rw [rcAt_take (hlt i j hj)]]
      have e3 : vH (rs.take i) (R.getD i []) = vH rs (R.getD i []) := by
        unfold vH; rw [flat_congr fun j hj => by rw [rcAt_take (hlt i j hj)]]
      rw [e1, e2, e3] at g1
      exact ⟨evalW_dst g1, by rw [g2], by rw [g2], q, by rw [g2]; exact g1, g3⟩
    · intro i hwr k hk
      obtain ⟨p, hp, rfl⟩ := List.mem_map.1 hk
      have := kk i (inM hk)
      simp only [Bool.and_eq_true] at this
      have := List.all_eq_true.1 this.2 p hp
      simp only [Bool.and_eq_true, Bool.or_eq_true] at this
      rcases this.1.1 with h | h
      · exact h
      · have hwr : ws.getD i false = false := hwr
        rw [hwr] at h; cases h.1.1
    · intro i o hi ho hreg
      obtain ⟨_, g1, s, g2, g3, g4⟩ := (h3 i o (by rw [List.getElem?_take_of_lt hi]; exact hops ho)).1 hreg
      have e1 : vF (rs.take i) (junkF (ops.toList.take m) F) (R.getD i []) = vF rs (junkF (ops.toList.take m) F) (R.getD i []) := by
        unfold vF; rw [flat_congr fun j hj => by rw [rcAt_take (hlt i j hj)]]
      rw [e1] at g4
      exact ⟨g1, s, g2, g3, g4⟩
    · intro i oi hi hreg ho j oj hoj hne hnp hno
      have := List.all_eq_true.1 c7 i (List.mem_range.2 (by omega))
      rw [hreg, hops ho] at this
      simp only [Bool.not_true, Bool.false_or, Bool.and_eq_true] at this
      have hjn := (Array.getElem?_eq_some_iff.1 hoj).1
      have := List.all_eq_true.1 this.2 j (List.mem_range.2 (by simpa using hjn))
      rw [hops hoj, Bool.or_eq_true, Bool.or_eq_true] at this
      rcases this with (h | h) | h
      · exact absurd (Nat.eq_of_beq_eq_true h) hne
      · exact absurd (inL_iff.1 h) hnp
      · rw [Bool.or_eq_true] at h
        rcases h with h | h
        · rw [List.any_eq_true] at h
          obtain ⟨e, he, hb⟩ := h
          rw [Bool.and_eq_true] at hb
          exact absurd (Nat.eq_of_beq_eq_true hb.2) (hno e (by simpa using he) hb.1)
        · simpa using h
    · intro i hi hreg
      have := List.all_eq_true.1 c7 i (List.mem_range.2 (by omega))
      have hin : i < ops.toList.length := by simp; omega
      rw [hreg, List.getElem?_eq_getElem hin] at this
      simp only [Bool.not_true, Bool.false_or, Bool.and_eq_true] at this
      simpa using this.1
    · intro i p hp
      have hi : i < m := by
        rcases Nat.lt_or_ge i m with h | h
        · exact h
        · rw [short i h] at hp; simp at hp
      have := kk i hi
      simp only [Bool.and_eq_true] at this
      have := List.all_eq_true.1 this.1.1 p hp
      rw [Bool.and_eq_true] at this
      rw [← dstEq]
      exact ⟨eqO_eq this.1, Nat.le_of_ble_eq_true this.2⟩
    · intro i x hx
      have hi : i < m := by
        rcases Nat.lt_or_ge i m with h | h
        · exact h
        · rw [short i h] at hx; simp at hx
      have := kk i hi
      simp only [Bool.and_eq_true] at this
      have := List.all_eq_true.1 this.1.2 x hx
      rw [Bool.and_eq_true, List.any_eq_true] at this
      obtain ⟨d1, g, hg, d2⟩ := this
      rw [← dstEq]
      exact ⟨eqO_eq d1, g, hg, by rw [← dstEq]; exact eqO_eq d2⟩
    · intro i j t hi hj e1 e2
      have get : ∀ {q}, q < m → dstOf ops q = some t → ∃ x, ((ops.toList.take m).map fun o => o.dst.toList)[q]? = some x ∧ t ∈ x := by
        intro q hq hd
        unfold dstOf at hd
        cases ho : ops[q]? with
        | none => rw [ho] at hd; cases hd
        | some o =>
          rw [ho] at hd
          have hd : o.dst = some t := hd
          exact ⟨o.dst.toList, by rw [List.getElem?_map, List.getElem?_take_of_lt hq, hops ho]; rfl, by rw [hd]; simp⟩
      obtain ⟨x, x1, x2⟩ := get hi e1
      obtain ⟨y, y1, y2⟩ := get hj e2
      exact flat_inj (nodupB_ok c3) x1 y1 x2 y2
    · intro i j k hi hj
      have get : ∀ {q}, q < m → (rs.map fun rc => rc.u.map (·.1))[q]? = some (keys rs q) := by
        intro q hq
        have : rs[q]? = some rs[q] := List.getElem?_eq_getElem (by omega)
        rw [List.getElem?_map, this]
        simp [keys, rcAt, List.getD_eq_getElem?_getD, this]
      exact flat_inj k1 (get (inM hi)) (get (inM hj)) hi hj
    · intro i k hk
      obtain ⟨p, hp, rfl⟩ := List.mem_map.1 hk
      have := kk i (inM hk)
      simp only [Bool.and_eq_true] at this
      have := List.all_eq_true.1 this.2 p hp
      simp only [Bool.and_eq_true, Bool.or_eq_true, Bool.not_eq_true'] at this
      rcases this.1.1 with h | ⟨⟨_, h⟩, h2⟩
      · exact .inl h
      · refine .inr ⟨h, ?_⟩
        obtain ⟨p', hp', hpe, hep⟩ := ent_mem hk
        obtain ⟨x, hx, hxe⟩ := List.mem_map.1 hk
        rw [hep]
        have := kk i (inM hk)
        simp only [Bool.and_eq_true] at this
        have := List.all_eq_true.1 this.2 p' hp'
        simp only [Bool.and_eq_true, Bool.or_eq_true, Bool.not_eq_true'] at this
        rw [← hpe] at h ⊢
        rcases this.1.1 with h' | ⟨_, h'⟩
        · rw [h] at h'; cases h'
        · exact wokB_ok h'
    · intro i k hk
      obtain ⟨p, hp, rfl, hep⟩ := ent_mem hk
      have := kk i (inM hk)
      simp only [Bool.and_eq_true] at this
      have := List.all_eq_true.1 this.2 p hp
      simp only [Bool.and_eq_true] at this
      rw [hep]
      exact ⟨Nat.eq_of_beq_eq_true this.1.2, Nat.eq_of_beq_eq_true this.2⟩
    · intro t
      rcases junk_look (ops.toList.take m) F t with e | ⟨e1, e2⟩
      · exact .inl e
      · refine .inr ⟨e1, fun i hi hdi => ?_⟩
        unfold dstOf at hdi
        cases ho : ops[i]? with
        | none => rw [ho] at hdi; cases hdi
        | some o =>
          rw [ho] at hdi
          exact e2 o (List.mem_of_getElem? (i := i) (by rw [List.getElem?_take_of_lt hi]; exact hops ho)) hdi
    · intro t ht
      rcases junk_look (ops.toList.take m) F t with e | ⟨e1, _⟩
      · exact e
      · rw [e1]; exact h.frame.out t ht
  refine wp_region_any c5 ?_
  have hcw : Cw w { w with drawn := w.drawn + 1 } := ⟨rfl, rfl, rfl, Nat.le_refl _, fun _ _ => rfl⟩
  have hJ : St P Gl N F MJ a w ω := ⟨h.frame, h.globs, hmj, h.defers⟩
  have h' := hJ.step (Stp.more hmj hcw)
  have hm' := h'.mem
  refine any_ok (ω := ω) (a0 := a) (ω0 := ω) hS SS hm' h'.frame h'.globs hQp ?_ ops.size (Array.replicate ops.size false) a _ (by simp) ?_ ?_
  · intro a' w' ω' I
    obtain ⟨g1, g2, g3⟩ := I.all SS hm' h'.frame (E := List.range m) (fun j hj => List.mem_range.1 hj) (fun j hj k hk => List.mem_range.2 (by have := hlt j k hk; have := List.mem_range.1 hj; omega))
    have hext := I.ext0 SS hm' (List.range m)
    have hst : St P Gl N (vF rs (junkF (ops.toList.take m) F) (List.range m)) (vM rs MJ (List.range m)) a' w' (subω rs MJ ω' (List.range m)) := ⟨g2, fun g => Den.ext (o := ω.bare) hext.bare (h'.globs g), g1, I.defers⟩
    refine evOps_ok hS hQ (ops.toList.drop m) _ _ nx' _ a' w' _ (fun o ho => hd o (List.mem_of_mem_drop ho)) hst g3 ((hcw.ext ω).trans hext) ⟨by rw [I.size, h.frame.size], fun i hi => ?_⟩ h1
    refine I.keep i fun j hj hdj => ?_
    unfold dstOf at hdj
    cases ho : ops[j]? with
    | none => rw [ho] at hdj; cases hdj
    | some o =>
      rw [ho] at hdj
      exact hi (hd o (List.mem_of_getElem? (hops ho)) i hdj)
  · unfold und
    exact Nat.le_trans (List.length_filter_le _ _) (by simp)
  · have no : ∀ j, ¬ (Array.replicate ops.size false).getD j false = true := fun j => by
      simp [Array.getD]
    exact ⟨fun j hj => absurd hj (no j), fun j hj => absurd hj (no j), ⟨rfl, rfl, rfl, Nat.le_refl _, fun _ _ _ => rfl⟩, fun j k _ _ L hL => (let ⟨_, _, _, _, c, T, h1, h2, _⟩ := hm'.row k none L hL; ⟨c, T, h1, h2⟩), fun _ h => h, hm'.lowA, fun _ _ h => h, rfl, hm'.dj, rfl, fun _ _ _ => rfl, fun k p L hL => hm'.own _ ⟨k, p, L, hL, rfl⟩, hm'.inj, h.defers, h.frame.size, fun _ _ => rfl, fun j hj => absurd hj (no j)⟩
end
end Go.Sy
set_option linter.unusedVariables false
set_option linter.unusedSimpArgs false
namespace Go.Sy
open Go.RowKit

inductive Ex where
  | normal | exit (id : Nat) | ret
/-- What a loop's head holds: slots and blocks told by 's : σ' ('rt': slots whose roots are told, behind the lent ones; cells of an element); a condition; a measure; how it begins. -/
structure Ann where
  σ : Type
  rt : List (Nat × Nat)
  sh : σ → List (Nat × SV)
  mh : σ → List (Nat × Blk)
  inv : σ → Prop
  μ : σ → Nat
  init : σ
/-- What holds between two pieces of code: slots and blocks (the lent ones, then those of 'rt') told by 's : σ'; 'dec' finds the 's'. -/
structure Cut where
  σ : Type
  rt : List (Nat × Nat)
  sh : σ → List (Nat × SV)
  mem : σ → List Blk
  inv : σ → Prop
  dec : (Nat → SV) → List Blk → σ
/-- 'cut r': ahead of the region that is the r-th in the text. -/
inductive An where
  | inv (a : Ann)
  | unroll (n : Nat)
  | dec
  | cut (r : Nat) (c : Cut)
def nr : Code → Nat
  | .region _ _ _ => 1
  | .seq x y => nr x + nr y
  | .cond _ x y => nr x + nr y
  | .block _ x => nr x
  | .loop x => nr x
  | _ => 0
/-- Does a test leave a loop or a block at once? Then, where 'dl', it is decided by what is known. -/
def isX : Code → Bool
  | .exit _ => true
  | _ => false
def decd (dl : Bool) (x y : Code) : Bool := match dl with | false => false | true => match isX x with | true => true | false => isX y
def nl : Code → Nat
  | .seq x y => nl x + nl y
  | .cond _ x y => nl x + nl y
  | .block _ x => nl x
  | .loop x => nl x + 1
  | _ => 0
def assigned : Code → List Nat
  | .region _ ops _ => ops.toList.filterMap (·.dst)
  | .seq x y => assigned x ++ assigned y
  | .cond _ x y => assigned x ++ assigned y
  | .block _ x => assigned x
  | .loop x => assigned x
  | _ => []
/-- Nothing of the frame's own in it. -/
def closedB : SV → Bool
  | .junk => true
  | .v _ => true
  | .bl _ => true
  | .pt _ _ _ => true
  | .sl _ _ _ _ => true
  | .pa _ _ _ _ => true
  | .il _ _ _ => true
  | .er _ _ _ _ => true
  | .ag n f => (List.range n).all fun j => closedB (f j)
  | .tp n f => (List.range n).all fun j => closedB (f j)
  | .fn _ n f => (List.range n).all fun j => closedB (f j)
  | .bm _ s => closedB s
  | .mv _ s => closedB s
  | .ic _ s => closedB s
  | _ => false
def keepF (l : List Nat) (F : Fr) : Fr := F.map fun p => (p.1, match inL l p.1, closedB p.2 with | false, true => p.2 | _, _ => .junk)
def setL (N : Nat) (F : Fr) : List (Nat × SV) → Fr
  | [] => F
  | p :: r => setL N (putF N F (some p.1) p.2) r
def rootOf : SV → Option Nat
  | .ptr k _ _ _ _ => some k
  | .pe k _ _ _ _ _ _ => some k
  | .slc k _ _ _ _ => some k
  | .sa k _ _ _ _ _ => some k
  | _ => none
def rootsOf (F : Fr) : List (Nat × Nat) → Option (List Nat)
  | [] => some []
  | d :: r => match rootOf (look F d.1), rootsOf F r with | some k, some l => some (k :: l) | _, _ => none
/-- No slice: a slice of one's own without elements. -/
def ownNil (M : Mem) (nx sz : Nat) (s : SV) : Option (SV × Mem) :=
  match isNilSl s with
  | true => (match freeB (ent M) nx with | true => some (.slc nx (ent M nx).rs none 0 0, fresh M nx (.row sz 0 fun _ _ => .junk)) | false => none)
  | false => some (s, M)
def prep (N : Nat) : List (Nat × Nat) → Fr → Mem → Nat → Option (Fr × Mem)
  | [], F, M, _ => some (F, M)
  | d :: r, F, M, nx => match ownNil M nx d.2 (look F d.1), Nat.blt d.1 N with | some p, true => prep N r ((d.1, p.1) :: F) p.2 (nx + 1) | _, _ => none
/-- All that must hold where memory is told anew. 'cl': what was lent, and is no slice's row; 'L': how much was lent. -/
def canB (cl : List Nat) (L : Nat) (m : Nat → Ent) (κ : List Nat) : Bool :=
  match nodupB κ, κ.all fun k => whole (m k), cl.all fun k => Nat.blt k L && Nat.beq (m k).rs 0 with
  | true, true, true => true
  | _, _, _ => false
def tellB (m : Nat → Ent) (κ : List Nat) : List Blk := κ.map fun k => blkRen (tellφ m κ) false (m k).b
def ovB : List (Nat × Blk) → List Blk → List Blk
  | [], B => B
  | p :: r, B => ovB r (B.set p.1 p.2)
def agF (φ : Nat → Nat → Path → Option (Nat × Nat)) (F : Fr) : List (Nat × SV) → Prop → Prop
  | [], R => R
  | p :: r, R => agV (mref φ false (look F p.1)) p.2 ∧ agF φ F r R
abbrev KK := Ex → Fr → Mem → Nat → Prop
def iterN (b : Fr → Mem → Nat → KK → Prop) (K : KK) : Nat → Fr → Mem → Nat → Prop
  | 0, _, _, _ => False
  | n + 1, F, M, nx => b F M nx fun e F M nx => match e with | .normal => iterN b K n F M nx | e => K e F M nx
def cutAt (cuts : Nat → Option Cut) (k : Nat) : Nat → Option Cut
  | 0 => none
  | _ + 1 => cuts k
def evCode (P : Program) (dl sg : Bool) (Gl : Nat → SV) (Γ : Table) (N : Nat) (cl : List Nat) (L : Nat) (cuts : Nat → Option Cut) : Code → Nat → List An → Fr → Mem → Nat → KK → Prop
  | .skip, _, _, F, M, nx, K => K .normal F M nx
  | .region _ ops draw, _, _, F, M, nx, K =>
    match draw with
    | false => evOps P sg Gl Γ N ops.toList (K .normal) ops.toList F M nx []
    | true => evDraw P sg Gl Γ N ops.toList (K .normal) F M nx
  | .seq x y, pos, an, F, M, nx, K =>
    match cutAt cuts (pos + nr x) (nr y) with
    | none => evCode P dl sg Gl Γ N cl L cuts x pos (an.take (nl x)) F M nx fun e F M nx => match e with | .normal => evCode P dl sg Gl Γ N cl L cuts y (pos + nr x) (an.drop (nl x)) F M nx K | e => K e F M nx
    | some c => (evCode P dl sg Gl Γ N cl L cuts x pos (an.take (nl x)) F M nx fun e F' M' nx' =>
        match e with
        | .normal =>
          match prep N c.rt F' M' nx' with
          | none => False
          | some (F', M') =>
          match rootsOf F' c.rt with
          | some l' =>
            match canB cl L (ent M') (List.range L ++ l') with
            | true =>
              let s' := c.dec (fun d => mref (tellφ (ent M') (List.range L ++ l')) false (look F' d)) (tellB (ent M') (List.range L ++ l'))
              agF (tellφ (ent M') (List.range L ++ l')) F' (c.sh s') (agL (tellB (ent M') (List.range L ++ l')) (c.mem s') ∧ c.inv s')
            | false => False
          | none => False
        | e => K e F' M' nx') ∧
      ∀ s, c.inv s → evCode P dl sg Gl Γ N cl L cuts y (pos + nr x) (an.drop (nl x)) (setL N (keepF (assigned x) F) (c.sh s)) (memOf 0 (c.mem s)) nx K
  | .cond c x y, pos, an, F, M, nx, K =>
    match opnd Gl F c with
    | .bl true => evCode P dl sg Gl Γ N cl L cuts x pos (an.take (nl x)) F M nx K
    | .bl false => evCode P dl sg Gl Γ N cl L cuts y (pos + nr x) (an.drop (nl x)) F M nx K
    | .v (.bool b) =>
      match decd dl x y with
      | true => (match b with | true => evCode P dl sg Gl Γ N cl L cuts x pos (an.take (nl x)) F M nx K | false => evCode P dl sg Gl Γ N cl L cuts y (pos + nr x) (an.drop (nl x)) F M nx K)
      | false => (b = true → evCode P dl sg Gl Γ N cl L cuts x pos (an.take (nl x)) F M nx K) ∧ (b = false → evCode P dl sg Gl Γ N cl L cuts y (pos + nr x) (an.drop (nl x)) F M nx K)
    | _ => False
  | .block id x, pos, an, F, M, nx, K => evCode P dl sg Gl Γ N cl L cuts x pos an F M nx fun e F M nx => match e with | .exit i => (match Nat.beq i id with | true => K .normal F M nx | false => K (.exit i) F M nx) | e => K e F M nx
  | .loop x, pos, an, F, M, nx, K =>
    match an with
    | [] => False
    | .dec :: _ => False
    | .cut _ _ :: _ => False
    | .unroll n :: r => iterN (evCode P dl sg Gl Γ N cl L cuts x pos r) K n F M nx
    | .inv n :: r =>
      match prep N n.rt F M nx with
      | none => False
      | some (F, M) =>
      match rootsOf F n.rt with
      | some l =>
        let κ := List.range L ++ l
        let B := tellB (ent M) κ
        match canB cl L (ent M) κ with
        | true => agF (tellφ (ent M) κ) F (n.sh n.init) (agL B (ovB (n.mh n.init) B) ∧ n.inv n.init ∧ ∀ s, n.inv s →
            evCode P dl sg Gl Γ N cl L cuts x pos r (setL N (keepF (assigned x) F) (n.sh s)) (memOf 0 (ovB (n.mh s) B)) nx fun e F' M' nx' =>
              match e with
              | .normal =>
                match prep N n.rt F' M' nx' with
                | none => False
                | some (F', M') =>
                match rootsOf F' n.rt with
                | some l' =>
                  match canB cl L (ent M') (List.range L ++ l') with
                  | true => ∃ s', agF (tellφ (ent M') (List.range L ++ l')) F' (n.sh s') (agL (tellB (ent M') (List.range L ++ l')) (ovB (n.mh s') B) ∧ n.inv s' ∧ n.μ s' < n.μ s)
                  | false => False
                | none => False
              | e => K e F' M' nx')
        | false => False
      | none => False
  | .exit id, _, _, F, M, nx, K => K (.exit id) F M nx
  | .ret, _, _, F, M, nx, K => K .ret F M nx
  | _, _, _, _, _, _, _ => False

def evRes (P : Program) (F : Fr) (M : Mem) (K : List SV → Prop) : List ResultVar → List SV → Prop
  | [], acc => K acc.reverse
  | .tmp t :: r, acc => evRes P F M K r (look F t :: acc)
  | .cell ad T :: r, acc => (evLoad P T (look F ad) (ent M)).run fun s => evRes P F M K r (s :: acc)
/-- What is given back: what stays own is told anew, the rest is only read from now on. -/
def outS (m : Nat → Ent) (κ : List Nat) : SV → SV
  | .ptr k s p i j => match idx κ k with | some _ => mref (tellφ m κ) false (.ptr k s p i j) | none => ro false 12 m κ (.ptr k s p i j)
  | .pe k s p i j n z => match idx κ k with | some _ => mref (tellφ m κ) false (.pe k s p i j n z) | none => ro false 12 m κ (.pe k s p i j n z)
  | .slc k s p e n => match idx κ k with | some _ => mref (tellφ m κ) false (.slc k s p e n) | none => ro false 12 m κ (.slc k s p e n)
  | .sa k s p i j n => match idx κ k with | some _ => mref (tellφ m κ) false (.sa k s p i j n) | none => ro false 12 m κ (.sa k s p i j n)
  | .ag n f => .ag n fun j => outS m κ (f j)
  | .tp n f => .tp n fun j => outS m κ (f j)
  | .fn id n f => .fn id n fun j => outS m κ (f j)
  | .bm id s => .bm id (outS m κ s)
  | .mv nm s => .mv nm (outS m κ s)
  | .ic t s => .ic t (outS m κ s)
  | s => s
/-- No slice where a slice of one's own is told. -/
def nilEnd (mem' : List Blk) : List SV → List SV → Mem → Nat → Option (List SV × Mem)
  | s :: r, t :: q, M, nx =>
    match t with
    | .slc k _ none _ _ =>
      match mem'[k]? with
      | some (.row sz _ _) => match ownNil M nx sz s with | some x => (match nilEnd mem' r q x.2 (nx + 1) with | some y => some (x.1 :: y.1, y.2) | none => none) | none => none
      | _ => none
    | _ => match nilEnd mem' r q M nx with | some y => some (s :: y.1, y.2) | none => none
  | l, _, M, _ => some (l, M)
def resL (n : Nat) (res : SV) : List SV := match n, res with | 1, r => [r] | n, .tp _ f => (List.range n).map f | _, _ => []
def evEnd0 (cl : List Nat) (L : Nat) (M : Mem) (res : SV) (mem' : List Blk) (l : List SV) : Prop :=
  let κ := (reach (ent M) 64 (l.flatMap refsS) (List.range L)).take mem'.length
  match canB cl L (ent M) κ, Nat.ble L mem'.length with
  | true, true => (match l with | [s] => agV (outS (ent M) κ s) res | l => agV (.tp l.length (lsv (l.map fun s => outS (ent M) κ s))) res) ∧ agL (tellB (ent M) κ) mem'
  | _, _ => False
def evEnd (cl : List Nat) (L : Nat) (M : Mem) (nx : Nat) (res : SV) (mem' : List Blk) (l : List SV) : Prop :=
  match nilEnd mem' l (resL l.length res) M nx with
  | some x => evEnd0 cl L x.2 res mem' x.1
  | none => False
def argF : Nat → List SV → Fr
  | _, [] => []
  | i, s :: r => (i, s) :: argF (i + 1) r
def clOf (mem : List Blk) : List Nat := (List.range mem.length).filter fun k => match mem[k]? with | some (.cells _) => true | _ => false
def isDec : List An → Bool
  | [] => false
  | .dec :: _ => true
  | _ :: r => isDec r
def unDec : List An → List An
  | [] => []
  | .dec :: r => unDec r
  | .cut _ _ :: r => unDec r
  | a :: r => a :: unDec r
def cutsOf : List An → Nat → Option Cut
  | [], _ => none
  | .cut k c :: r, n => match Nat.beq k n with | true => some c | false => cutsOf r n
  | _ :: r, n => cutsOf r n
def evBody (P : Program) (sg : Bool) (Gl : Nat → SV) (Γ : Table) (fn : Func) (args : List SV) (mem : List Blk) (an : List An) (res : SV) (mem' : List Blk) : Prop :=
  match fn.body with
  | some c => match Nat.ble args.length fn.ntmps with
    | false => False
    | true => evCode P (isDec an) sg Gl Γ fn.ntmps (clOf mem) mem.length (cutsOf an) c 0 (unDec an) (argF 0 args) (memOf 0 mem) 100 fun e F M nx =>
      match e with
      | .exit _ => False
      | _ => evRes P F M (evEnd (clOf mem) mem.length M nx res mem') fn.results.toList []
  | none => False

section
variable {P : Program} {w : World} {ω : Ow} {Gl : Nat → SV} {Γ : Table} {N : Nat} {F : Fr} {M : Mem} {a : Act} {cl : List Nat} {L : Nat}
/-- From one state to a later one, whatever was told anew on the way. -/
structure Rel (cl : List Nat) (w1 : World) (ω1 : Ow) (M1 : Mem) (w : World) (ω : Ow) (M : Mem) : Prop where
  bare : Ext w1 ω1.bare w ω.bare
  lent : ∀ k ∈ cl, (ent M k).rs = 0 → (ent M1 k).rs = 0 ∧ ∀ L, ω1.β k none = some L → ω.β k none = some L
theorem Rel.refl (w : World) (ω : Ow) (M : Mem) : Rel cl w ω M w ω M := ⟨Ext.refl _ _, fun _ _ h => ⟨h, fun _ h => h⟩⟩
theorem Rel.trans {w1 w2 w3 : World} {ω1 ω2 ω3 : Ow} {M1 M2 M3 : Mem} (h : Rel cl w1 ω1 M1 w2 ω2 M2) (k : Rel cl w2 ω2 M2 w3 ω3 M3) : Rel cl w1 ω1 M1 w3 ω3 M3 :=
  ⟨h.bare.trans k.bare, fun q hq h0 => let ⟨e1, e2⟩ := k.lent q hq h0; let ⟨e3, e4⟩ := h.lent q hq e1; ⟨e3, fun L hL => e2 L (e4 L hL)⟩⟩
theorem Rel.of {w1 : World} {ω1 : Ow} {M1 : Mem} (h1 : MemOK w1 ω1 M1) (h2 : MemOK w ω M) (he : Ext w1 ω1 w ω) : Rel cl w1 ω1 M1 w ω M := by
  refine ⟨he.bare, fun k _ h0 => ?_⟩
  have hm := (he.mono k).1
  rw [h1.cur, h2.cur] at hm
  have hm : (ent M1 k).rs ≤ (ent M k).rs := hm
  refine ⟨by omega, fun L hL => he.lab k none L hL ?_⟩
  rw [h1.cur, h2.cur]
  show (ent M k).rs = (ent M1 k).rs
  omega
def DoneC (P : Program) (Gl : Nat → SV) (N : Nat) (cl : List Nat) (S : List Nat) (a0 : Act) (w1 : World) (ω1 : Ow) (M1 : Mem) (K : Fr → Mem → Nat → Prop) (a : Act) (w : World) : Prop :=
  ∃ ω F M nx, St P Gl N F M a w ω ∧ Rel cl w1 ω1 M1 w ω M ∧ Keep S a0 a ∧ K F M nx
theorem DoneC.weaken {S S' : List Nat} {a0 a1 : Act} {w1 w2 : World} {ω1 ω2 : Ow} {M1 M2 : Mem} {K K' : Fr → Mem → Nat → Prop} {a : Act} {w : World} (h : DoneC P Gl N cl S a1 w2 ω2 M2 K a w)
    (hS : ∀ i ∈ S, i ∈ S') (hk : Keep S' a0 a1) (hg : Rel cl w1 ω1 M1 w2 ω2 M2) (hK : ∀ F M nx, K F M nx → K' F M nx) : DoneC P Gl N cl S' a0 w1 ω1 M1 K' a w := by
  obtain ⟨ω, F, M, nx, h1, h2, h3, h4⟩ := h
  exact ⟨ω, F, M, nx, h1, hg.trans h2, hk.trans (h3.mono hS), hK _ _ _ h4⟩
def QQ (P : Program) (Gl : Nat → SV) (N : Nat) (cl : List Nat) (S : List Nat) (a0 : Act) (w1 : World) (ω1 : Ow) (M1 : Mem) (K : KK) : Exit → Act → World → Prop
  | .normal, a, w => DoneC P Gl N cl S a0 w1 ω1 M1 (K .normal) a w
  | .exit id, a, w => DoneC P Gl N cl S a0 w1 ω1 M1 (K (.exit id)) a w
  | .ret, a, w => DoneC P Gl N cl S a0 w1 ω1 M1 (K .ret) a w
  | _, _, _ => False
theorem QQ.weaken {S S' : List Nat} {a0 a1 : Act} {w1 w2 : World} {ω1 ω2 : Ow} {M1 M2 : Mem} {K : KK} (hS : ∀ i ∈ S, i ∈ S') (hk : Keep S' a0 a1) (hg : Rel cl w1 ω1 M1 w2 ω2 M2) :
    ∀ e a w, QQ P Gl N cl S a1 w2 ω2 M2 K e a w → QQ P Gl N cl S' a0 w1 ω1 M1 K e a w
  | .normal, _, _, h => DoneC.weaken h hS hk hg fun _ _ _ h => h
  | .exit _, _, _, h => DoneC.weaken h hS hk hg fun _ _ _ h => h
  | .ret, _, _, h => DoneC.weaken h hS hk hg fun _ _ _ h => h
  | .goto _, _, _, h => h
  | .panic _, _, _, h => h
  | .outgrown, _, _, h => h
theorem closed_bare {s : SV} : ∀ {u : Value}, closedB s = true → Den w ω s u → Den w ω.bare s u := by
  induction s with
  | ptr _ _ _ _ _ => intro u h; cases h
  | pe _ _ _ _ _ _ _ => intro u h; cases h
  | slc _ _ _ _ _ => intro u h; cases h
  | sa _ _ _ _ _ _ => intro u h; cases h
  | ag n f ih =>
    intro u h hd
    obtain ⟨cs, rfl, hs, hj⟩ := hd
    exact ⟨cs, rfl, hs, fun j hjn => let ⟨x, h1, h2⟩ := hj j hjn; ⟨x, h1, ih j (List.all_eq_true.1 h j (List.mem_range.2 hjn)) h2⟩⟩
  | tp n f ih =>
    intro u h hd
    obtain ⟨cs, rfl, hs, hj⟩ := hd
    exact ⟨cs, rfl, hs, fun j hjn => let ⟨x, h1, h2⟩ := hj j hjn; ⟨x, h1, ih j (List.all_eq_true.1 h j (List.mem_range.2 hjn)) h2⟩⟩
  | fn id n f ih =>
    intro u h hd
    obtain ⟨cs, rfl, hs, hj⟩ := hd
    exact ⟨cs, rfl, hs, fun j hjn => let ⟨x, h1, h2⟩ := hj j hjn; ⟨x, h1, ih j (List.all_eq_true.1 h j (List.mem_range.2 hjn)) h2⟩⟩
  | bm id s ih => intro u h hd; obtain ⟨x, rfl, hx⟩ := hd; exact ⟨x, rfl, ih h hx⟩
  | mv nm s ih => intro u h hd; obtain ⟨x, rfl, hx⟩ := hd; exact ⟨x, rfl, ih h hx⟩
  | ic t s ih => intro u h hd; obtain ⟨x, rfl, hx⟩ := hd; exact ⟨x, rfl, ih h hx⟩
  | _ => intro u _ hd; exact hd
theorem keepF_look (l : List Nat) : ∀ (F : Fr) (i : Nat), look (keepF l F) i = .junk ∨ (look (keepF l F) i = look F i ∧ closedB (look F i) = true ∧ i ∉ l)
  | [], _ => .inl rfl
  | p :: r, i => by
    simp only [keepF, List.map_cons, look]
    cases hb : Nat.beq p.1 i with
    | false => exact keepF_look l r i
    | true =>
      have e := Nat.eq_of_beq_eq_true hb
      subst e
      cases h1 : inL l p.1 with
      | true => exact .inl rfl
      | false =>
        cases h2 : closedB p.2 with
        | false => exact .inl rfl
        | true => exact .inr ⟨rfl, rfl, fun hm => by rw [inL_iff.2 hm] at h1; cases h1⟩
theorem setL_ok {w' : World} {ω' : Ow} {t' : Array Value} : ∀ (l : List (Nat × SV)) {F : Fr}, FrOK w' ω' N F t' → (∀ p ∈ l, ∀ u, t'[p.1]? = some u → Den w' ω' p.2 u) → FrOK w' ω' N (setL N F l) t'
  | [], _, h, _ => h
  | p :: r, F, h, hp => by
    refine setL_ok r ?_ fun q hq => hp q (by simp [hq])
    cases hlt : Nat.blt p.1 N with
    | true =>
      have e : putF N F (some p.1) p.2 = (p.1, p.2) :: F := by simp only [putF, hlt]
      rw [e]
      exact h.tell (Nat.le_of_ble_eq_true hlt) (hp p (by simp))
    | false =>
      have e : putF N F (some p.1) p.2 = F := by simp only [putF, hlt]
      rw [e]; exact h
theorem agF_spec {φ : Nat → Nat → Path → Option (Nat × Nat)} : ∀ {l : List (Nat × SV)} {R : Prop}, agF φ F l R → (∀ p ∈ l, agV (mref φ false (look F p.1)) p.2) ∧ R
  | [], _, h => ⟨fun p hp => by simp at hp, h⟩
  | p :: r, _, ⟨h1, h2⟩ => by
    obtain ⟨h3, h4⟩ := agF_spec h2
    refine ⟨fun q hq => ?_, h4⟩
    rcases List.mem_cons.1 hq with rfl | hq
    · exact h1
    · exact h3 q hq
theorem canB_spec {m : Nat → Ent} {κ : List Nat} (h : canB cl L m κ = true) : κ.Nodup ∧ (∀ k ∈ κ, whole (m k) = true) ∧ ∀ k ∈ cl, k < L ∧ (m k).rs = 0 := by
  unfold canB at h
  split at h
  · next h1 h2 h3 =>
    refine ⟨nodupB_ok h1, fun k hk => List.all_eq_true.1 h2 k hk, fun k hk => ?_⟩
    have := List.all_eq_true.1 h3 k hk
    rw [Bool.and_eq_true] at this
    exact ⟨Nat.le_of_ble_eq_true this.1, Nat.eq_of_beq_eq_true this.2⟩
  · cases h
/-- Told anew: the state. -/
theorem St.tell' (h : St P Gl N F M a w ω) {l : List Nat} {B : List Blk} (hc : canB cl L (ent M) (List.range L ++ l) = true) (ha : agL (tellB (ent M) (List.range L ++ l)) B) :
    MemOK w (tellω ω (List.range L ++ l) B) (memOf 0 B) ∧ Rel cl w ω M w (tellω ω (List.range L ++ l) B) (memOf 0 B) := by
  obtain ⟨h1, h2, h3⟩ := canB_spec hc
  refine ⟨tell_ok h.mem h1 h2 ha, tell_bare _ _, fun k hk _ => ⟨(h3 k hk).2, fun L hL => ?_⟩⟩
  rw [tell_none (k := k) (by rw [List.getElem?_append_left (by simp; exact (h3 k hk).1), List.getElem?_range (h3 k hk).1])]
  exact hL
theorem head_ok {a1 : Act} {w1 : World} {ω1 : Ow} {M1 : Mem} {F1 : Fr} (h1 : St P Gl N F1 M1 a1 w1 ω1) (h : St P Gl N F M a w ω) {S : List Nat} (hr : Rel cl w1 ω1 M1 w ω M) (hk : Keep S a1 a)
    {l : List Nat} {B : List Blk} {sh : List (Nat × SV)} (hc : canB cl L (ent M) (List.range L ++ l) = true) (ha : agL (tellB (ent M) (List.range L ++ l)) B) (hs : ∀ p ∈ sh, agV (mref (tellφ (ent M) (List.range L ++ l)) false (look F p.1)) p.2) :
    ∃ ω', St P Gl N (setL N (keepF S F1) sh) (memOf 0 B) a w ω' ∧ Rel cl w1 ω1 M1 w ω' (memOf 0 B) := by
  obtain ⟨hm, hrel⟩ := h.tell' hc ha
  have hr' := hr.trans hrel
  refine ⟨_, ⟨?_, fun g => Den.ext (o := ω.bare) (tell_bare _ _) (h.globs g), hm, h.defers⟩, hr'⟩
  refine setL_ok _ ⟨h.frame.size, fun i u hu => ?_, fun i hi => ?_⟩ ?_
  · rcases keepF_look S F1 i with e | ⟨e, hcl, hni⟩
    · rw [e]; trivial
    · rw [e]
      have hu' : a1.tmps[i]? = some u := by rw [← hk.2 i hni]; exact hu
      exact (Den.ext (o := ω1.bare) hr'.bare (closed_bare hcl (h1.frame.den i u hu'))).up
  · rcases keepF_look S F1 i with e | ⟨e, _, _⟩
    · exact e
    · rw [e]; exact h1.frame.out i hi
  · intro p hp u hu
    exact agV_den (hs p hp) (tell_den h.mem _ _ (h.frame.den p.1 u hu))

theorem isNilSl_den {s : SV} {u : Value} (h : isNilSl s = true) (hd : Den w ω s u) : u = .slice none 0 0 := by
  unfold isNilSl at h
  split at h
  · exact hd
  · cases h
theorem ownNil_ok (hm : MemOK w ω M) {nx sz : Nat} {s s' : SV} {M' : Mem} {u : Value} (hd : Den w ω s u) (h : ownNil M nx sz s = some (s', M')) : Den w ω s' u ∧ MemOK w ω M' ∧ Rel cl w ω M w ω M' := by
  unfold ownNil at h
  split at h
  · next hn =>
    split at h
    · next hf =>
      simp only [Option.some.injEq, Prod.mk.injEq] at h
      obtain ⟨rfl, rfl⟩ := h
      have hu : u = .slice none 0 0 := isNilSl_den hn hd
      have hst := Stp.dummy hm (freeB_free hm hf) sz 0 (fun _ _ => .junk)
      refine ⟨?_, hst.mem, Rel.of hm hst.mem hst.ext⟩
      subst hu
      exact .inr ⟨by rw [hm.cur]; rfl, none, 0, rfl, Nat.le_refl _, Nat.zero_le _, .inl rfl⟩
    · cases h
  · simp only [Option.some.injEq, Prod.mk.injEq] at h
    obtain ⟨rfl, rfl⟩ := h
    exact ⟨hd, hm, Rel.refl _ _ _⟩
theorem prep_ok : ∀ {rt : List (Nat × Nat)} {F F' : Fr} {M M' : Mem} {nx : Nat}, St P Gl N F M a w ω → prep N rt F M nx = some (F', M') → St P Gl N F' M' a w ω ∧ Rel cl w ω M w ω M'
  | [], F, F', M, M', nx, h, he => by
    simp only [prep, Option.some.injEq, Prod.mk.injEq] at he
    obtain ⟨rfl, rfl⟩ := he
    exact ⟨h, Rel.refl _ _ _⟩
  | d :: r, F, F', M, M', nx, h, he => by
    unfold prep at he
    split at he
    · next p hp hlt =>
      have hlt : d.1 < N := Nat.le_of_ble_eq_true hlt
      obtain ⟨p1, p2⟩ := p
      have hx : d.1 < a.tmps.size := by rw [h.frame.size]; exact hlt
      obtain ⟨g1, g2, g3⟩ := ownNil_ok (cl := cl) h.mem (h.frame.den d.1 a.tmps[d.1] (by simp [hx])) hp
      have h' : St P Gl N ((d.1, p1) :: F) p2 a w ω := ⟨h.frame.tell hlt (fun u hu => by
        have : a.tmps[d.1]? = some a.tmps[d.1] := by simp [hx]
        obtain rfl := Option.some.inj (this.symm.trans hu)
        exact g1), h.globs, g2, h.defers⟩
      obtain ⟨k1, k2⟩ := prep_ok h' he
      exact ⟨k1, g3.trans k2⟩
    · cases he
theorem evCode_ok (hS : Sound P Gl Γ) {dl sg : Bool} {cuts : Nat → Option Cut} : ∀ (c : Code) (pos : Nat) (an : List An) (F : Fr) (M : Mem) (nx : Nat) (a : Act) (w : World) (ω : Ow) (K : KK),
    St P Gl N F M a w ω → evCode P dl sg Gl Γ N cl L cuts c pos an F M nx K → c.wp P (QQ P Gl N cl (assigned c) a w ω M K) a w := by
  intro c
  induction c with
  | skip => intro pos an F M nx a w ω K h he; exact wp_skip ⟨ω, F, M, nx, h, Rel.refl _ _ _, Keep.refl _ _, he⟩
  | region id ops draw =>
    intro pos an F M nx a w ω K h he
    have hd : ∀ o ∈ ops.toList, ∀ t, o.dst = some t → t ∈ assigned (.region id ops draw) := by
      intro o ho t ht
      simp only [assigned, List.mem_filterMap]
      exact ⟨o, ho, ht⟩
    cases draw with
    | false =>
      simp only [evCode] at he
      refine wp_region_list (evOps_ok hS (Q := QQ P Gl N cl (assigned (.region id ops false)) a w ω M K) (S := assigned (.region id ops false)) (a0 := a) (w1 := w) (ω1 := ω) ?_ ops.toList F M nx [] a w ω hd h (fun x hx => by cases hx) (Ext.refl _ _) (Keep.refl _ _) he)
      rintro a' w' ⟨ω', F', M', nx', g1, g2, g3, g4⟩
      exact ⟨ω', F', M', nx', g1, Rel.of h.mem g1.mem g2, g3, g4⟩
    | true =>
      simp only [evCode] at he
      refine draw_ok hS (Q := QQ P Gl N cl (assigned (.region id ops true)) a w ω M K) (S := assigned (.region id ops true)) (fun _ _ _ _ _ h => h.elim) ?_ hd h he
      rintro a' w' ⟨ω', F', M', nx', g1, g2, g3, g4⟩
      exact ⟨ω', F', M', nx', g1, Rel.of h.mem g1.mem g2, g3, g4⟩
  | seq x y ihx ihy =>
    intro pos an F M nx a w ω K h he
    simp only [evCode] at he
    have sub1 : ∀ i ∈ assigned x, i ∈ assigned (.seq x y) := fun i hi => by simp [assigned, hi]
    have sub2 : ∀ i ∈ assigned y, i ∈ assigned (.seq x y) := fun i hi => by simp [assigned, hi]
    split at he
    next hcut =>
      refine wp_seq (wp_mono (ihx _ _ F M nx a w ω _ h he) ?_)
      intro e a1 w1 hq
      cases e with
      | normal =>
        obtain ⟨ω1, F1, M1, nx1, h1, g1, k1, hK1⟩ := hq
        exact wp_mono (ihy _ _ F1 M1 nx1 a1 w1 ω1 K h1 hK1) (QQ.weaken sub2 (k1.mono sub1) g1)
      | exit id => exact DoneC.weaken hq sub1 (Keep.refl _ _) (Rel.refl _ _ _) (fun _ _ _ h => h)
      | ret => exact DoneC.weaken hq sub1 (Keep.refl _ _) (Rel.refl _ _ _) (fun _ _ _ h => h)
      | goto l => exact hq
      | panic ch => exact hq
      | outgrown => exact hq
    next c hcut =>
    obtain ⟨he1, he2⟩ := he
    refine wp_seq (wp_mono (ihx _ _ F M nx a w ω _ h he1) ?_)
    intro e a1 w1 hq
    cases e with
    | normal =>
      obtain ⟨ω1, F1, M1, nx1, h1, g1, k1, hK1⟩ := hq
      simp only at hK1
      split at hK1
      · exact hK1.elim
      · next F2 M2 hp =>
        obtain ⟨h2, g2⟩ := prep_ok (cl := cl) h1 hp
        split at hK1
        · next l' hl =>
          split at hK1
          · next hcan =>
            obtain ⟨hs, ha, hinv⟩ := agF_spec hK1
            obtain ⟨ω3, h3, g3⟩ := head_ok h h2 (g1.trans g2) k1 hcan ha hs
            exact wp_mono (ihy _ _ _ _ nx a1 w1 ω3 K h3 (he2 _ hinv)) (QQ.weaken sub2 (k1.mono sub1) g3)
          · exact hK1.elim
        · exact hK1.elim
    | exit id => exact DoneC.weaken hq sub1 (Keep.refl _ _) (Rel.refl _ _ _) (fun _ _ _ h => h)
    | ret => exact DoneC.weaken hq sub1 (Keep.refl _ _) (Rel.refl _ _ _) (fun _ _ _ h => h)
    | goto l => exact hq
    | panic ch => exact hq
    | outgrown => exact hq
  | cond c x y ihx ihy =>
    intro pos an F M nx a w ω K h he
    have sub1 : ∀ i ∈ assigned x, i ∈ assigned (.cond c x y) := fun i hi => by simp [assigned, hi]
    have sub2 : ∀ i ∈ assigned y, i ∈ assigned (.cond c x y) := fun i hi => by simp [assigned, hi]
    have hc := h.cx.val c
    simp only [evCode] at he
    split at he
    · next hs =>
      rw [hs] at hc
      exact wp_cond_true hc (wp_mono (ihx _ _ F M nx a w ω K h he) (QQ.weaken sub1 (Keep.refl _ _) (Rel.refl _ _ _)))
    · next hs =>
      rw [hs] at hc
      exact wp_cond_false hc (wp_mono (ihy _ _ F M nx a w ω K h he) (QQ.weaken sub2 (Keep.refl _ _) (Rel.refl _ _ _)))
    · next b hs =>
      rw [hs] at hc
      replace he : (b = true → evCode P dl sg Gl Γ N cl L cuts x pos (an.take (nl x)) F M nx K) ∧ (b = false → evCode P dl sg Gl Γ N cl L cuts y (pos + nr x) (an.drop (nl x)) F M nx K) := by
        split at he
        · cases b
          · exact ⟨fun e => (nomatch e), fun _ => he⟩
          · exact ⟨fun _ => he, fun e => (nomatch e)⟩
        · exact he
      exact wp_cond_split (t := b) hc (fun hb => wp_mono (ihx _ _ F M nx a w ω K h (he.1 hb)) (QQ.weaken sub1 (Keep.refl _ _) (Rel.refl _ _ _))) (fun hb => wp_mono (ihy _ _ F M nx a w ω K h (he.2 hb)) (QQ.weaken sub2 (Keep.refl _ _) (Rel.refl _ _ _)))
    · exact he.elim
  | block id x ih =>
    intro pos an F M nx a w ω K h he
    simp only [evCode] at he
    refine wp_block (wp_mono (ih _ _ F M nx a w ω _ h he) ?_)
    intro e a1 w1 hq
    cases e with
    | normal => exact hq
    | exit i =>
      show (if i = id then _ else _)
      obtain ⟨ω1, F1, M1, nx1, h1, g1, k1, hK1⟩ := hq
      by_cases hi : i = id
      · rw [if_pos hi]
        subst hi
        have : Nat.beq i i = true := Nat.beq_refl i
        simp only [this] at hK1
        exact ⟨ω1, F1, M1, nx1, h1, g1, k1, hK1⟩
      · rw [if_neg hi]
        have : Nat.beq i id = false := by
          cases hb : Nat.beq i id
          · rfl
          · exact absurd (Nat.eq_of_beq_eq_true hb) hi
        simp only [this] at hK1
        exact ⟨ω1, F1, M1, nx1, h1, g1, k1, hK1⟩
    | ret => exact hq
    | goto l => exact hq
    | panic ch => exact hq
    | outgrown => exact hq
  | loop x ih =>
    intro pos an F M nx a w ω K h he
    simp only [evCode] at he
    split at he
    · exact he.elim
    · exact he.elim
    · exact he.elim
    · next n r =>
      refine wp_loop_ghost (fun k a' w' => DoneC P Gl N cl (assigned x) a w ω M (fun F M nx => iterN (evCode P dl sg Gl Γ N cl L cuts x pos r) K k F M nx) a' w') n ⟨ω, F, M, nx, h, Rel.refl _ _ _, Keep.refl _ _, he⟩ ?_
      rintro k a1 w1 ⟨ω1, F1, M1, nx1, h1, g1, k1, hK1⟩
      cases k with
      | zero => exact hK1.elim
      | succ k =>
        simp only [iterN] at hK1
        refine wp_mono (ih _ r F1 M1 nx1 a1 w1 ω1 _ h1 hK1) ?_
        intro e a2 w2 hq
        cases e with
        | normal => exact ⟨k, Nat.lt_succ_self k, DoneC.weaken hq (fun _ h => h) k1 g1 (fun _ _ _ h => h)⟩
        | exit id => exact DoneC.weaken hq (fun _ h => h) k1 g1 (fun _ _ _ h => h)
        | ret => exact DoneC.weaken hq (fun _ h => h) k1 g1 (fun _ _ _ h => h)
        | goto l => exact hq
        | panic ch => exact hq
        | outgrown => exact hq
    · next n r =>
      split at he
      · exact he.elim
      next F0 M0 hprep =>
      obtain ⟨hp1, hp2⟩ := prep_ok (cl := cl) h hprep
      suffices hgoal : (Code.loop x).wp P (QQ P Gl N cl (assigned x) a w ω M0 K) a w from wp_mono hgoal (QQ.weaken (fun _ h => h) (Keep.refl _ _) hp2)
      clear h hprep hp2
      have h := hp1
      clear hp1
      revert he
      generalize F0 = F at h ⊢
      generalize M0 = M at h ⊢
      intro he
      split at he
      · next l hl =>
        split at he
        · next hcan =>
          obtain ⟨hag, hagl, hinv, hround⟩ := agF_spec he
          obtain ⟨ω0, hst0, hrel0⟩ := head_ok h h (S := assigned x) (Rel.refl _ _ _) (Keep.refl _ _) hcan hagl hag
          refine wp_loop_ghost (fun k a' w' => ∃ s ω', n.inv s ∧ n.μ s = k ∧ St P Gl N (setL N (keepF (assigned x) F) (n.sh s)) (memOf 0 (ovB (n.mh s) (tellB (ent M) (List.range L ++ l)))) a' w' ω' ∧
              Rel cl w ω M w' ω' (memOf 0 (ovB (n.mh s) (tellB (ent M) (List.range L ++ l)))) ∧ Keep (assigned x) a a') (n.μ n.init) ⟨n.init, ω0, hinv, rfl, hst0, hrel0, Keep.refl _ _⟩ ?_
          rintro k a1 w1 ⟨s, ω1, hi, rfl, h1, g1, k1⟩
          refine wp_mono (ih _ r _ _ nx a1 w1 ω1 _ h1 (hround s hi)) ?_
          intro e a2 w2 hq
          cases e with
          | normal =>
            obtain ⟨ω2, F2', M2', nx2, h2', g2', k2, hK2⟩ := hq
            simp only at hK2
            split at hK2
            · exact hK2.elim
            next F2 M2 hprep2 =>
            obtain ⟨h2, g2'' ⟩ := prep_ok (cl := cl) h2' hprep2
            have g2 := g2'.trans g2''
            split at hK2
            · next l' hl' =>
              split at hK2
              · next hcan' =>
                obtain ⟨s', hs'⟩ := hK2
                obtain ⟨hag', hagl', hinv', hμ⟩ := agF_spec hs'
                obtain ⟨ω3, hst3, hrel3⟩ := head_ok h h2 (S := assigned x) (g1.trans g2) (k1.trans k2) hcan' hagl' hag'
                exact ⟨n.μ s', hμ, s', ω3, hinv', rfl, hst3, hrel3, k1.trans k2⟩
              · exact hK2.elim
            · exact hK2.elim
          | exit id => exact DoneC.weaken hq (fun _ h => h) k1 g1 (fun _ _ _ h => h)
          | ret => exact DoneC.weaken hq (fun _ h => h) k1 g1 (fun _ _ _ h => h)
          | goto l => exact hq
          | panic ch => exact hq
          | outgrown => exact hq
        · exact he.elim
      · exact he.elim
  | exit id => intro pos an F M nx a w ω K h he; exact wp_exit ⟨ω, F, M, nx, h, Rel.refl _ _ _, Keep.refl _ _, he⟩
  | ret => intro pos an F M nx a w ω K h he; exact wp_ret ⟨ω, F, M, nx, h, Rel.refl _ _ _, Keep.refl _ _, he⟩
  | rangeFunc f p as b iha ihb => intro pos an F M nx a w ω K h he; exact he.elim
  | scope x ih => intro pos an F M nx a w ω K h he; exact he.elim
  | label l => intro pos an F M nx a w ω K h he; exact he.elim
  | goto l => intro pos an F M nx a w ω K h he; exact he.elim
  | refuse s => intro pos an F M nx a w ω K h he; exact he.elim

/-! ### results, bodies -/
def rvSem (tmps : Array Value) : ResultVar → Sem Value
  | .tmp t => pure (tmps.getD t undef)
  | .cell ad t => do loadVar t (← asAddr (tmps.getD ad undef))
theorem res_run (hm : MemOK w ω M) (hF : FrOK w ω N F a.tmps) : ∀ (rs : List ResultVar) (K : List SV → Prop) (acc : List SV) (accv : List Value), DenL w ω acc accv → evRes P F M K rs acc →
    ∃ vs l, (rs.mapM (rvSem a.tmps)).run P w = .ok vs w ∧ DenL w ω l (accv.reverse ++ vs) ∧ K l
  | [], K, acc, accv, ha, he => by
    refine ⟨[], acc.reverse, by simp, ?_, he⟩
    rw [List.append_nil]
    have rev : ∀ {F : List SV} {l : List Value}, DenL w ω F l → DenL w ω F.reverse l.reverse := by
      intro F
      induction F with
      | nil => intro l h; cases l with
        | nil => trivial
        | cons _ _ => exact h.elim
      | cons s r ih => intro l h; cases l with
        | nil => exact h.elim
        | cons u t => rw [List.reverse_cons, List.reverse_cons]; exact (ih h.2).append ⟨h.1, trivial⟩
    exact rev ha
  | .tmp t :: r, K, acc, accv, ha, he => by
    have hd : Den w ω (look F t) (a.tmps.getD t undef) := hF.get t
    obtain ⟨vs, l, h1, h2, h3⟩ := res_run hm hF r K (look F t :: acc) (a.tmps.getD t undef :: accv) ⟨hd, ha⟩ he
    refine ⟨a.tmps.getD t undef :: vs, l, ?_, by simpa using h2, h3⟩
    simp only [List.mapM_cons, rvSem, Sem.run_bind, Sem.run_pure, Result.andThen_ok, h1]
  | .cell ad T :: r, K, acc, accv, ha, he => by
    have hd : Den w ω (look F ad) (a.tmps.getD ad undef) := hF.get ad
    simp only [evRes] at he
    obtain ⟨s, v, p, e, hr, hs, hK⟩ := load_core hm hd he
    obtain ⟨vs, l, h1, h2, h3⟩ := res_run hm hF r K (s :: acc) (v :: accv) ⟨hs, ha⟩ hK
    refine ⟨v :: vs, l, ?_, by simpa using h2, h3⟩
    have ha : (asAddr (a.tmps.getD ad undef)).run P w = .ok p w := by rw [e]; rfl
    simp only [List.mapM_cons, rvSem, Sem.run_bind, ha, Sem.run_pure, Result.andThen_ok, hr, h1]
theorem single_or {l : List SV} {vs : List Value} (h : DenL w ω l vs) : (∃ s v, l = [s] ∧ vs = [v] ∧ Den w ω s v) ∨ ((∀ s, l ≠ [s]) ∧ vs.length ≠ 1) := by
  match l, vs, h with
  | [], [], _ => exact .inr ⟨by simp, by simp⟩
  | [s], [v], ⟨h, _⟩ => exact .inl ⟨s, v, rfl, rfl, h⟩
  | _ :: _ :: _, _ :: _ :: _, _ => exact .inr ⟨by simp, by simp⟩
theorem reach_pre (m : Nat → Ent) : ∀ (d : Nat) (l acc : List Nat), ∃ t, reach m d l acc = acc ++ t
  | 0, _, acc => ⟨[], by simp [reach]⟩
  | d + 1, [], acc => ⟨[], by simp [reach]⟩
  | d + 1, k :: r, acc => by
    unfold reach
    split
    · exact reach_pre m d r acc
    · split
      · obtain ⟨t, e⟩ := reach_pre m d (_ ++ r) (acc ++ [k])
        exact ⟨[k] ++ t, by rw [e]; simp⟩
      · obtain ⟨t, e⟩ := reach_pre m d r (acc ++ [k])
        exact ⟨[k] ++ t, by rw [e]; simp⟩
      · exact reach_pre m d r acc
/-- Only what is told stays own. -/
def Ow.less (o : Ow) : Ow := ⟨fun b => ∃ k p L, o.β k p = some L ∧ L.b = b, o.Z, o.β, o.cur⟩
theorem less_ext (hm : MemOK w ω M) : Ext w ω w ω.less := ⟨rfl, rfl, rfl, fun _ _ _ => rfl, fun b _ h h' => h (hm.own b h'), fun _ _ _ h => h, Nat.le_refl _, fun _ => ⟨Nat.le_refl _, Nat.le_refl _⟩, fun _ _ _ h _ => h, fun _ h => h⟩
theorem less_ok (hm : MemOK w ω M) : MemOK w ω.less M where
  cur := hm.cur
  own := fun _ h => h
  lowA := fun b h => hm.lowA b (hm.own b h)
  dj := fun b h => hm.dj b (hm.own b h)
  lowZ := hm.lowZ
  inj := hm.inj
  low := hm.low
  row := fun k p L hL => by
    obtain ⟨r, h1, h2, h3, h4⟩ := hm.row k p L hL
    exact ⟨r, h1, h2, h3, RowOK.ext (less_ext hm) rfl (fun _ => rfl) rfl h4⟩
  live := hm.live
  hol := hm.hol
theorem out_den (hm : MemOK w ω M) {κ : List Nat} {B : List Blk} (ht : MemOK w (tellω ω κ B) (memOf 0 B)) {s : SV} : ∀ {u : Value}, Den w ω s u → Den w (tellω ω κ B).less (outS (ent M) κ s) u := by
  have hb : Ext w ω.bare w (tellω ω κ B).less.bare := (tell_bare κ B).trans (less_ext ht).bare
  have hin : ∀ {s : SV} {u : Value}, Den w ω s u → Den w (tellω ω κ B).less (mref (tellφ (ent M) κ) false s) u := fun hd => (tell_den hm κ B hd).ext (less_ext ht)
  have hro : ∀ {s : SV} {u : Value}, Den w ω s u → Den w (tellω ω κ B).less (ro false 12 (ent M) κ s) u := by
    intro s u hd
    refine (ro_den (ω' := (tellω ω κ B).less) hm ?_ hb (fun _ b h => hm.dj b h) 12 hd).up
    rintro b ⟨q, p, L, h1, h2⟩
    obtain ⟨k, e1, e2, _⟩ := tell_β h1
    exact ⟨k, List.mem_of_getElem? e1, p, L, e2, h2⟩
  induction s with
  | ptr k s p i j => intro u hd; simp only [outS]; split; exact hin hd; exact hro hd
  | pe k s p i j n z => intro u hd; simp only [outS]; split; exact hin hd; exact hro hd
  | slc k s p e n => intro u hd; simp only [outS]; split; exact hin hd; exact hro hd
  | sa k s p i j n => intro u hd; simp only [outS]; split; exact hin hd; exact hro hd
  | ag n f ih => intro u hd; obtain ⟨cs, rfl, hs, hj⟩ := hd; exact ⟨cs, rfl, hs, fun j hjn => let ⟨x, h1, h2⟩ := hj j hjn; ⟨x, h1, ih j h2⟩⟩
  | tp n f ih => intro u hd; obtain ⟨cs, rfl, hs, hj⟩ := hd; exact ⟨cs, rfl, hs, fun j hjn => let ⟨x, h1, h2⟩ := hj j hjn; ⟨x, h1, ih j h2⟩⟩
  | fn id n f ih => intro u hd; obtain ⟨cs, rfl, hs, hj⟩ := hd; exact ⟨cs, rfl, hs, fun j hjn => let ⟨x, h1, h2⟩ := hj j hjn; ⟨x, h1, ih j h2⟩⟩
  | bm id s ih => intro u hd; obtain ⟨x, rfl, hx⟩ := hd; exact ⟨x, rfl, ih hx⟩
  | mv nm s ih => intro u hd; obtain ⟨x, rfl, hx⟩ := hd; exact ⟨x, rfl, ih hx⟩
  | ic t s ih => intro u hd; obtain ⟨x, rfl, hx⟩ := hd; exact ⟨x, rfl, ih hx⟩
  | pt q n f => intro u hd; exact Den.ext (o := ω.bare) (o' := (tellω ω κ B).less.bare) (s := .pt q n f) hb hd
  | sl q sz n f => intro u hd; exact Den.ext (o := ω.bare) (o' := (tellω ω κ B).less.bare) (s := .sl q sz n f) hb hd
  | pa q sz n f => intro u hd; exact Den.ext (o := ω.bare) (o' := (tellω ω κ B).less.bare) (s := .pa q sz n f) hb hd
  | er t tf e z => intro u hd; exact Den.ext (o := ω.bare) (o' := (tellω ω κ B).less.bare) (s := .er t tf e z) hb hd
  | _ => intro u hd; exact hd
theorem nilEnd_ok {mem' : List Blk} : ∀ {l t l' : List SV} {M M' : Mem} {nx : Nat} {vs : List Value}, MemOK w ω M → DenL w ω l vs → nilEnd mem' l t M nx = some (l', M') → DenL w ω l' vs ∧ MemOK w ω M' ∧ Rel cl w ω M w ω M'
  | [], t, l', M, M', nx, vs, hm, hd, he => by
    simp only [nilEnd, Option.some.injEq, Prod.mk.injEq] at he
    obtain ⟨rfl, rfl⟩ := he
    exact ⟨hd, hm, Rel.refl _ _ _⟩
  | s :: r, [], l', M, M', nx, vs, hm, hd, he => by
    simp only [nilEnd, Option.some.injEq, Prod.mk.injEq] at he
    obtain ⟨rfl, rfl⟩ := he
    exact ⟨hd, hm, Rel.refl _ _ _⟩
  | s :: r, t :: q, l', M, M', nx, [], hm, hd, he => hd.elim
  | s :: r, t :: q, l', M, M', nx, v :: vs, hm, ⟨hd1, hd2⟩, he => by
    unfold nilEnd at he
    split at he
    · split at he
      · split at he
        · next x hx =>
          split at he
          · next y hy =>
            obtain ⟨x1, x2⟩ := x
            simp only [Option.some.injEq, Prod.mk.injEq] at he
            obtain ⟨rfl, rfl⟩ := he
            obtain ⟨g1, g2, g3⟩ := ownNil_ok (cl := cl) hm hd1 hx
            obtain ⟨k1, k2, k3⟩ := nilEnd_ok g2 hd2 hy
            exact ⟨⟨g1, k1⟩, k2, g3.trans k3⟩
          · cases he
        · cases he
      · cases he
    · split at he
      · next y hy =>
        simp only [Option.some.injEq, Prod.mk.injEq] at he
        obtain ⟨rfl, rfl⟩ := he
        obtain ⟨k1, k2, k3⟩ := nilEnd_ok hm hd2 hy
        exact ⟨⟨hd1, k1⟩, k2, k3⟩
      · cases he
theorem ret_ok (h : St P Gl N F M a w ω) {nx : Nat} {fn : Func} {res : SV} {mem' : List Blk} (he : evRes P F M (evEnd cl L M nx res mem') fn.results.toList []) :
    ∃ v ω', (results fn a.tmps).run P w = .ok v w ∧ Den w ω' res v ∧ MemOK w ω' (memOf 0 mem') ∧ Rel cl w ω M w ω' (memOf 0 mem') := by
  obtain ⟨vs, l, h1, h2, h3⟩ := res_run (a := a) h.mem h.frame _ _ [] [] trivial he
  simp only [List.reverse_nil, List.nil_append] at h2
  have hlen := h2.len
  have hr : ∀ v, (v = if h : vs.toArray.size = 1 then vs.toArray[0] else .tuple vs.toArray) → (results fn a.tmps).run P w = .ok v w := by
    intro v hv
    have e : results fn a.tmps = (do let vs ← fn.results.mapM (rvSem a.tmps); pure (if h : vs.size = 1 then vs[0] else .tuple vs)) := by
      unfold results
      congr 1
    rw [e]
    simp only [Array.mapM_eq_mapM_toList, Sem.run_bind, Sem.run_map, h1, Result.andThen_ok, Sem.run_pure, hv]
  unfold evEnd at h3
  split at h3
  rotate_left
  · exact h3.elim
  next x hx =>
  obtain ⟨l0, M0⟩ := x
  obtain ⟨h2, hm0, hr0⟩ := nilEnd_ok (cl := cl) h.mem h2 hx
  have hlen := h2.len
  have h : St P Gl N [] M0 { a with tmps := Array.replicate N undef } w ω := ⟨⟨by simp, fun i u hu => trivial, fun i _ => rfl⟩, h.globs, hm0, h.defers⟩
  revert h3 h2 hlen
  generalize l0 = l
  intro h3 h2 hlen
  simp only [evEnd0] at h3
  split at h3
  · next hc hlen' =>
    have hlen' := Nat.le_of_ble_eq_true hlen'
    obtain ⟨t, et⟩ : ∃ t, (reach (ent M0) 64 (l.flatMap refsS) (List.range L)).take mem'.length = List.range L ++ t := by
      obtain ⟨t, et⟩ := reach_pre (ent M0) 64 (l.flatMap refsS) (List.range L)
      exact ⟨t.take (mem'.length - L), by rw [et, List.take_append, List.take_of_length_le (by simp; exact hlen'), List.length_range]⟩
    rw [et] at h3 hc
    obtain ⟨h4, h5⟩ := h3
    obtain ⟨g1, g2⟩ := h.tell' hc h5
    have hden : ∀ {s : SV} {x : Value}, Den w ω s x → Den w (tellω ω (List.range L ++ t) mem').less (outS (ent M0) (List.range L ++ t) s) x := fun hd => out_den h.mem g1 hd
    have g2 := hr0.trans (g2.trans (Rel.of (cl := cl) g1 (less_ok g1) (less_ext g1)))
    have g1 := less_ok g1
    split at h4
    · next s =>
      rcases single_or h2 with ⟨s', v, e1, rfl, hd'⟩ | ⟨h6, _⟩
      · obtain rfl : s = s' := by simpa using e1
        exact ⟨v, _, hr v (by simp), agV_den h4 (hden hd'), g1, g2⟩
      · exact absurd rfl (h6 s)
    · next l' hne =>
      refine ⟨.tuple vs.toArray, _, hr _ ?_, agV_den h4 ⟨_, rfl, by simpa using hlen.symm, fun j hj => ?_⟩, g1, g2⟩
      · rw [dif_neg]
        intro e
        rcases single_or h2 with ⟨s, v, rfl, _⟩ | ⟨_, h6⟩
        · exact hne s rfl
        · exact h6 (by simpa using e)
      · obtain ⟨x, e1, e2⟩ := h2.get? j hj
        refine ⟨x, by simpa using e1, ?_⟩
        have : lsv (l.map fun s => outS (ent M0) (List.range L ++ t) s) j = outS (ent M0) (List.range L ++ t) (l.getD j .junk) := by simp [lsv, List.getD_eq_getElem?_getD, hj]
        rw [this]
        exact hden e2
  · exact h3.elim

theorem argF_look : ∀ (l : List SV) (k i : Nat), i < l.length → look (argF k l) (k + i) = l.getD i .junk
  | [], _, _, h => absurd h (by simp)
  | s :: r, k, 0, _ => by simp [argF, look_eq]
  | s :: r, k, i + 1, h => by
    rw [argF, look_ne (by omega), show k + (i + 1) = (k + 1) + i by omega, argF_look r (k + 1) i (by simpa using h)]
    simp
theorem argF_out : ∀ (l : List SV) (k i : Nat), k + l.length ≤ i → look (argF k l) i = .junk
  | [], _, _, _ => rfl
  | s :: r, k, i, h => by
    simp only [List.length_cons] at h
    rw [argF, look_ne (by omega), argF_out r (k + 1) i (by omega)]
/-- **A BODY THAT IS EVALUATED IS A CONTRACT.** -/
theorem body_ok (hS : Sound P Gl Γ) {sg : Bool} {f : Nat} {fn : Func} (hf : P.funcs[f]? = some fn) {args : List SV} {mem : List Blk} {an : List An} {res : SV} {mem' : List Blk} (he : evBody P sg Gl Γ fn args mem an res mem') : FnC P Gl f args mem res mem' := by
  intro w ω vs hG hm hargs
  unfold evBody at he
  split at he
  · next c hc =>
    refine calls_of_wp hf hc ?_
    split at he
    · exact he.elim
    next hle =>
    have hle := Nat.le_of_ble_eq_true hle
    have hlen := hargs.len
    simp at hlen
    have hst : St P Gl fn.ntmps (argF 0 args) (memOf 0 mem) { tmps := vs ++ Array.replicate (fn.ntmps - vs.size) undef, defers := [] } w ω := by
      refine ⟨⟨by simp; omega, ?_, ?_⟩, hG, hm, rfl⟩
      · intro i u hu
        by_cases hi : i < args.length
        · obtain ⟨x, h1, h2⟩ := hargs.get? i hi
          rw [show look (argF 0 args) i = args.getD i .junk by have := argF_look args 0 i hi; rwa [Nat.zero_add] at this]
          rw [Array.getElem?_append_left (by omega)] at hu
          have h1 : vs[i]? = some x := by simpa using h1
          obtain rfl := Option.some.inj (hu.symm.trans h1)
          exact h2
        · rw [argF_out args 0 i (by omega)]
          trivial
      · intro i hi
        exact argF_out args 0 i (by omega)
    refine wp_mono (evCode_ok hS c _ (unDec an) _ _ _ _ w ω _ hst he) ?_
    have fin : ∀ {a' : Act} {w' : World} {ω1 : Ow} {F1 : Fr} {M1 : Mem} {nx1 : Nat}, St P Gl fn.ntmps F1 M1 a' w' ω1 → Rel (clOf mem) w ω (memOf 0 mem) w' ω1 M1 → evRes P F1 M1 (evEnd (clOf mem) mem.length M1 nx1 res mem') fn.results.toList [] →
        ∃ v, (results fn a'.tmps).run P w' = .ok v w' ∧ ∃ v' ω', (Ending.returned v) = .returned v' ∧ Aft w ω w' ω' ∧ MemOK w' ω' (memOf 0 mem') ∧ Den w' ω' res v' ∧ ∀ k l, mem[k]? = some (.cells l) → ω'.β k none = ω.β k none := by
      intro a' w' ω1 F1 M1 nx1 h1 g1 hK
      obtain ⟨v, ω', hr, hd, hm', hrel⟩ := ret_ok h1 hK
      have hR := g1.trans hrel
      refine ⟨v, hr, v, ω', rfl, ⟨hR.bare.os, hR.bare.tape, hR.bare.output, hR.bare.same, hR.bare.free, hR.bare.zs, hR.bare.size⟩, hm', hd, fun k l hk => ?_⟩
      have hkl := (List.getElem?_eq_some_iff.1 hk).1
      have hmem : k ∈ clOf mem := by
        unfold clOf
        rw [List.mem_filter]
        exact ⟨List.mem_range.2 hkl, by simp [hk]⟩
      obtain ⟨L, hL⟩ := hm.live k l (by rw [memOf_ent, hk])
      have h0 : (ent (memOf 0 mem') k).rs = 0 := by rw [memOf_ent]; split <;> rfl
      rw [(hR.lent k hmem h0).2 L hL, hL]
    intro e a' w' hq
    cases e with
    | normal =>
      obtain ⟨ω1, F1, M1, nx1, h1, g1, k1, hK⟩ := hq
      obtain ⟨v, h2, h3⟩ := fin h1 g1 hK
      exact ⟨h1.defers, v, h2, h3⟩
    | ret =>
      obtain ⟨ω1, F1, M1, nx1, h1, g1, k1, hK⟩ := hq
      obtain ⟨v, h2, h3⟩ := fin h1 g1 hK
      exact ⟨h1.defers, v, h2, h3⟩
    | exit id => obtain ⟨_, _, _, _, _, _, _, hK⟩ := hq; exact hK.elim
    | goto l => exact hq.elim
    | panic ch => exact hq.elim
    | outgrown => exact hq.elim
  · exact he.elim
end
end Go.Sy
set_option linter.unusedVariables false
set_option linter.unusedSimpArgs false
namespace Go.Sy
open Go.RowKit

def agA : List SV → List SV → Prop
  | [], [] => True
  | a :: r, b :: t => agV a b ∧ agA r t
  | _, _ => False
theorem agA_den {w : World} {o : Ow} : ∀ {l m : List SV} {us : List Value}, agA l m → DenL w o l us → DenL w o m us
  | [], [], [], _, h => h
  | _ :: _, _ :: _, _ :: _, ⟨h1, h2⟩, ⟨h3, h4⟩ => ⟨agV_den h1 h3, agA_den h2 h4⟩
  | [], _ :: _, _, h, _ => h.elim
  | _ :: _, [], _, h, _ => h.elim
  | [], [], _ :: _, _, h => h.elim
  | _ :: _, _ :: _, [], _, h => h.elim
def inn (mem : List Blk) : Nat → Ent := ent (memOf 0 mem)
/-- At arguments and a memory that tell more. -/
theorem FnC.more {P : Program} {Gl : Nat → SV} {f : Nat} {A : List SV} {B : List Blk} {res : SV} {B' : List Blk} (h : FnC P Gl f A B res B') {args : List SV} {mem : List Blk}
    (ha : agA (args.map fun s => mref (tellφ (inn mem) (List.range mem.length)) false s) A) (hb : agL (tellB (inn mem) (List.range mem.length)) B) : FnC P Gl f args mem res B' := by
  intro w ω vs hG hm hd
  have hlen : mem.length = B.length := by have := agL_len hb; simpa [tellB] using this
  have get : ∀ {k : Nat}, k < mem.length → (List.range mem.length)[k]? = some k := fun hk => List.getElem?_range hk
  have hwh : ∀ k ∈ List.range mem.length, whole (ent (memOf 0 mem) k) = true := by
    intro k hk
    have hk := List.mem_range.1 hk
    have e1 : (tellB (inn mem) (List.range mem.length))[k]? = some (blkRen (tellφ (inn mem) (List.range mem.length)) false (inn mem k).b) := by
      simp [tellB, hk]
    have hg := agL_get hb e1 (List.getElem?_eq_getElem (by omega))
    have e2 : ent (memOf 0 mem) k = ⟨0, 0, none, mem[k]⟩ := by rw [memOf_ent, List.getElem?_eq_getElem hk]
    unfold inn at hg
    rw [e2] at hg ⊢
    cases hbk : mem[k] with
    | dead => rw [hbk] at hg; exact hg.elim
    | cells _ => rfl
    | row _ _ _ => rfl
  have ht := tell_ok hm List.nodup_range hwh hb
  have hden : ∀ {s : SV} {x : Value}, Den w ω s x → Den w (tellω ω (List.range mem.length) B) (mref (tellφ (ent (memOf 0 mem)) (List.range mem.length)) false s) x := fun hd => tell_den hm _ _ hd
  refine (h w (tellω ω (List.range mem.length) B) vs (fun g => Den.ext (o := ω.bare) (tell_bare _ _) (hG g)) ht (agA_den ha (hd.map fun s u hs => hden hs))).mono ?_
  rintro e w' ⟨v, ω', rfl, h1, h2, h3, h4⟩
  refine ⟨v, ω', rfl, ⟨h1.os, h1.tape, h1.output, h1.same, h1.free, h1.lent, h1.size⟩, h2, h3, fun k l hk => ?_⟩
  have hkl := (List.getElem?_eq_some_iff.1 hk).1
  have e1 : (tellB (inn mem) (List.range mem.length))[k]? = some (blkRen (tellφ (inn mem) (List.range mem.length)) false (inn mem k).b) := by
    simp [tellB, hkl]
  have hbk : B[k]? = some B[k] := List.getElem?_eq_getElem (by omega)
  have hg := agL_get hb e1 hbk
  have e2 : inn mem k = ⟨0, 0, none, .cells l⟩ := by unfold inn; rw [memOf_ent, hk]
  rw [e2] at hg
  cases hB : B[k] with
  | dead => rw [hB] at hg; exact hg.elim
  | row _ _ _ => rw [hB] at hg; exact hg.elim
  | cells l' => rw [h4 k l' (by rw [hbk, hB]), tell_none (get hkl)]
def intD : SV → Int | .v (.int _ x) => x | _ => 0
def boolD : SV → Bool | .v (.bool x) => x | .bl x => x | _ => false
def strD : SV → ByteArray | .v (.string x) => x | _ => ByteArray.empty
def agD : SV → Nat → SV | .ag _ f, j => f j | .tp _ f, j => f j | _, _ => .junk
def slN : SV → Nat | .sl _ _ n _ => n | _ => 0
def slF : SV → Nat → Nat → SV | .sl _ _ _ f, i, j => f i j | _, _, _ => .junk
def ptF : SV → Nat → SV | .pt _ _ f, j => f j | _, _ => .junk
def erE : SV → Int | .er _ _ e _ => e | .v (.iface _ (.int _ c)) => c | .ic _ (.pt _ _ f) => (match f 1 with | .er _ _ c _ => c | .v (.iface _ (.int _ c)) => c | _ => 0) | _ => 0
def erA : SV → Int | .er _ _ _ z => z | .ic _ (.pt _ _ f) => (match f 0 with | .v (.int _ a) => a | _ => 0) | _ => -1
/-- A contract: for all 'x : X' of a kind; 'dec' finds the 'x'. -/
structure Spec where
  X : Type
  args : X → List SV
  mem : X → List Blk
  pre : X → Prop
  res : X → SV
  mem' : X → List Blk
  dec : List SV → List Blk → Option X
def Spec.g (s : Spec) (args : List SV) (mem : List Blk) : Option (Prop × SV × List Blk) :=
  match s.dec args mem with
  | some x => some (agA (args.map fun s => mref (tellφ (inn mem) (List.range mem.length)) false s) (s.args x) ∧ agL (tellB (inn mem) (List.range mem.length)) (s.mem x) ∧ s.pre x, s.res x, s.mem' x)
  | none => none
structure FnOK (P : Program) (Gl : Nat → SV) (f : Nat) (c : Con) : Prop where
  call : ∀ (l : Array Value) (w : World), (callFunc f l).run P w = .ok (.enter f l) w
  fn : ∀ args mem pre res mem', c.g args mem = some (pre, res, mem') → pre → FnC P Gl f args mem res mem'
  pj : ∀ n, c.pj = some n → ProjC P f n
theorem fnOK_of {P : Program} {Gl : Nat → SV} {f : Nat} {ws : List Bool} {s : Spec} (hc : ∀ (l : Array Value) (w : World), (callFunc f l).run P w = .ok (.enter f l) w)
    (h : ∀ x, s.pre x → FnC P Gl f (s.args x) (s.mem x) (s.res x) (s.mem' x)) : FnOK P Gl f ⟨ws, s.g, none⟩ := by
  refine ⟨hc, fun args mem pre res mem' e hp => ?_, fun n e => nomatch e⟩
  have e : s.g args mem = some (pre, res, mem') := e
  unfold Spec.g at e
  split at e
  · next x hx =>
    simp only [Option.some.injEq, Prod.mk.injEq] at e
    obtain ⟨rfl, rfl, rfl⟩ := e
    exact (h x hp.2.2).more hp.1 hp.2.1
  · cases e
def mkT : List (Nat × Con) → Table
  | [], _ => none
  | p :: r, f => match Nat.beq p.1 f with | true => some p.2 | false => mkT r f
section
variable {P : Program} {Gl : Nat → SV}
theorem sound_nil : Sound P Gl (mkT []) := ⟨fun _ _ h => (nomatch h), fun _ _ _ _ _ _ _ h => (nomatch h), fun _ _ _ h => (nomatch h)⟩
theorem sound_cons {g : Nat} {s : Con} {r : List (Nat × Con)} (h : FnOK P Gl g s) (hr : Sound P Gl (mkT r)) : Sound P Gl (mkT ((g, s) :: r)) := by
  constructor
  · intro f c e
    simp only [mkT] at e
    split at e
    · next hb => obtain rfl := Nat.eq_of_beq_eq_true hb; exact h.call
    · exact hr.call f c e
  · intro f c args mem pre res mem' e
    simp only [mkT] at e
    split at e
    · next hb =>
      obtain rfl := Nat.eq_of_beq_eq_true hb
      obtain rfl := Option.some.inj e
      exact h.fn args mem pre res mem'
    · exact hr.fn f c args mem pre res mem' e
  · intro f c n e
    simp only [mkT] at e
    split at e
    · next hb =>
      obtain rfl := Nat.eq_of_beq_eq_true hb
      obtain rfl := Option.some.inj e
      exact h.pj n
    · exact hr.pj f c n e
/-- A contract out of an evaluated body. -/
theorem fn_of {Γ : Table} (hS : Sound P Gl Γ) (sg : Bool) {f : Nat} {fn : Func} (hf : P.funcs[f]? = some fn) {args : List SV} {mem : List Blk} (an : List An) {res : SV} {mem' : List Blk} {V : Prop} (he : evBody P sg Gl Γ fn args mem an res mem' = V) (hV : V) : FnC P Gl f args mem res mem' :=
  body_ok hS hf (he ▸ hV)
end
/-- Addresses further on, out of a contract at one address. -/
theorem projOK_of {P : Program} {Gl : Nat → SV} {f n : Nat} (hc : ∀ (l : Array Value) (w : World), (callFunc f l).run P w = .ok (.enter f l) w)
    (h : ∀ ad : Addr, FnC P (fun _ => .junk) f [.v (.pointer (some ad))] [] (.v (.pointer (some (ad.add n)))) []) : FnOK P Gl f ⟨[], fun _ _ => none, some n⟩ := by
  refine ⟨hc, fun args mem pre res mem' e hp => (nomatch e), fun n' e ad w => ?_⟩
  obtain rfl := Option.some.inj e
  refine (h ad w ⟨fun _ => False, fun _ => False, fun _ _ => none, fun _ => (0, 0)⟩ #[.pointer (some ad)] (fun _ => trivial) ⟨(memOf_cur []).symm, fun b ⟨k, p, L, h, _⟩ => (by cases h), fun _ h => False.elim h, fun _ h => False.elim h, fun _ h => False.elim h, fun _ _ _ _ _ _ h => (by cases h), fun _ _ _ h => (by cases h), fun _ _ _ h => (by cases h), fun _ _ h => (by cases h), fun _ _ _ _ => rfl⟩ (by exact ⟨rfl, trivial⟩)).mono ?_
  rintro e w' ⟨v, ω', rfl, ha, _, hr, _⟩
  have hr : v = _ := hr
  exact ⟨by rw [hr], ha.os, ha.tape, ha.output, ha.size, fun b hb => ha.same b hb id⟩
def blkN : Blk → Nat | .row _ n _ => n | _ => 0
def blkF : Blk → Nat → Nat → SV | .row _ _ f => f | .cells l => fun _ j => lsv l j | .dead => fun _ _ => .junk
def rowN (mem : List Blk) (k : Nat) : Nat := blkN (mem.getD k .dead)
def rowF (mem : List Blk) (k i j : Nat) : SV := blkF (mem.getD k .dead) i j
def celF (mem : List Blk) (k j : Nat) : SV := blkF (mem.getD k .dead) 0 j
def peZ : SV → Nat | .pe _ _ _ _ _ _ z => z | _ => 0
end Go.Sy
set_option linter.unusedVariables false
set_option linter.unusedSimpArgs false
namespace Go.Sy
open Go.RowKit
/-- Nothing own, nothing lent. -/
def o0 : Ow := ⟨fun _ => False, fun _ => False, fun _ _ => none, fun _ => (0, 0)⟩
variable {H : Type}
def litI : DataW H → Int | .lit (.int _ n) => n | _ => 0
def litB : DataW H → Bool | .lit (.bool b) => b | _ => false
def litS : DataW H → ByteArray | .lit (.string l) => ⟨l.toArray⟩ | _ => ByteArray.empty
def nthD : List (DataW H) → Nat → DataW H | [], _ => .nil | x :: _, 0 => x | _ :: r, n + 1 => nthD r n
def dpart : DataW H → Nat → DataW H | .agg l, i => nthD l i | _, _ => .nil
def dlen : DataW H → Nat | .slice l _ => l.length | _ => 0
def delem : DataW H → Nat → DataW H | .slice l _, i => nthD l i | _, _ => .nil
/-- The field that has a cell. -/
def fieldAt (P : Program) (j : Nat) : Nat → List Field → Option (Nat × Field)
  | _, [] => none
  | k, f :: r => match Nat.ble f.offset j && Nat.blt j (f.offset + P.cellsOf f.type) with | true => some (k, f) | false => fieldAt P j (k + 1) r
def dcell (P : Program) : Nat → TypeId → DataW H → Nat → SV
  | 0, _, _, _ => .junk
  | n + 1, T, d, j =>
    match P.underlying T with
    | some (.int k) => match j with | 0 => .v (.int k (litI d)) | _ => .junk
    | some .bool => match j with | 0 => .v (.bool (litB d)) | _ => .junk
    | some .string => match j with | 0 => .v (.string (litS d)) | _ => .junk
    | some (.slice E) => match j with | 0 => .sl true (P.cellsOf E) (dlen d) fun a b => dcell P n E (delem d a) b | _ => .junk
    | some (.struct fs) => match fieldAt P j 0 fs.toList with | some (k, f) => dcell P n f.type (dpart d k) (j - f.offset) | none => .junk
    | some (.array m E) => match Nat.blt 0 (P.cellsOf E) && Nat.blt (j / P.cellsOf E) m with | true => dcell P n E (dpart d (j / P.cellsOf E)) (j % P.cellsOf E) | false => .junk
    | _ => .junk
def dval (P : Program) (T : TypeId) (d : DataW H) : SV :=
  match P.underlying T with
  | some u => match aggD u with | true => .ag (P.cellsOf T) (dcell P 8 T d) | false => dcell P 8 T d 0
  | none => .junk
/-- What the data are known to be: numbers in their kinds; lengths. -/
def dwf (P : Program) : Nat → TypeId → DataW H → Prop
  | 0, _, _ => True
  | n + 1, T, d =>
    match P.underlying T with
    | some (.int k) => k.wrap (litI d) = litI d
    | some .string => ((litS d).size : Int) ≤ 9223372036854775807
    | some (.slice E) => (dlen d : Int) ≤ 9223372036854775807 ∧ ∀ i, i < dlen d → dwf P n E (delem d i)
    | some (.struct fs) => wfFs (dwf P n) d 0 fs.toList
    | some (.array m E) => ∀ i, i < m → dwf P n E (dpart d i)
    | _ => True
where wfFs (rec : TypeId → DataW H → Prop) (d : DataW H) : Nat → List Field → Prop
  | _, [] => True
  | k, f :: r => rec f.type (dpart d k) ∧ wfFs rec d (k + 1) r

theorem nthD_get : ∀ {l : List (DataW H)} {i : Nat} {x : DataW H}, l[i]? = some x → nthD l i = x
  | [], _, _, h => by simp at h
  | _ :: _, 0, _, h => by simpa [nthD] using h
  | _ :: _, i + 1, _, h => by simp only [nthD]; exact nthD_get (by simpa using h)
theorem fieldAt_some {P : Program} {j : Nat} : ∀ {l : List Field} {k k' : Nat} {f : Field}, fieldAt P j k l = some (k', f) → k ≤ k' ∧ l[k' - k]? = some f ∧ f.offset ≤ j ∧ j < f.offset + P.cellsOf f.type
  | [], _, _, _, h => by simp [fieldAt] at h
  | g :: r, k, k', f, h => by
    unfold fieldAt at h
    split at h
    · next hb =>
      simp only [Option.some.injEq, Prod.mk.injEq] at h
      obtain ⟨rfl, rfl⟩ := h
      simp only [Bool.and_eq_true, nblt, Nat.ble_eq, decide_eq_true_eq] at hb
      exact ⟨Nat.le_refl _, by simp, hb.1, hb.2⟩
    · obtain ⟨h1, h2, h3⟩ := fieldAt_some h
      refine ⟨by omega, ?_, h3⟩
      rw [show k' - k = (k' - (k + 1)) + 1 by omega]
      simpa using h2
theorem wfFs_of {rec : TypeId → DataW H → Prop} {d : DataW H} : ∀ {l : List Field} {k : Nat}, (∀ i f, l[i]? = some f → rec f.type (dpart d (k + i))) → dwf.wfFs rec d k l
  | [], _, _ => trivial
  | f :: r, k, h => ⟨h 0 f rfl, wfFs_of fun i f hf => by have := h (i + 1) f (by simpa using hf); rwa [show k + (i + 1) = k + 1 + i by omega] at this⟩
theorem wrap_wf {k : IntKind} {n : Int} (h : (Lit.int k n).wf = true) : k.wrap n = n := by
  cases k <;> simp [Lit.wf, IntKind.min, IntKind.max, IntKind.signed, IntKind.bits] at h <;> simp [IntKind.wrap, IntKind.signed, IntKind.bits] <;> (try split) <;> omega
variable {P : Program} {w : World} {enc : TypeId × Value → H} {base : Nat} {spare : Nat → Bool} {held : Bool}
theorem trod_cells : ∀ (n fuel : Nat) {T : TypeId} {cs : List Value} {x : DataW H × List MemPlace}, DataW.trod enc P w base spare held fuel T cs = some x →
    (∀ j, j < cs.length → ∃ y, cs[j]? = some y ∧ Den w o0 (dcell P n T x.1 j) y) ∧ dwf P n T x.1
  | 0, _, T, cs, x, h => ⟨fun j hj => ⟨_, List.getElem?_eq_getElem hj, trivial⟩, trivial⟩
  | n + 1, fuel, T, cs, x, h => by
    have junk : ∀ {s : Nat → SV}, (∀ j, s j = .junk) → ∀ j, j < cs.length → ∃ y, cs[j]? = some y ∧ Den w o0 (s j) y := fun hs j hj => ⟨_, List.getElem?_eq_getElem hj, by rw [hs]; trivial⟩
    unfold dcell dwf
    cases hu : P.underlying T with
    | none => exact ⟨junk fun _ => rfl, trivial⟩
    | some u =>
      cases u with
      | int k =>
        obtain ⟨z, rfl, rfl, hw⟩ := DataW.trod_int hu h
        refine ⟨fun j hj => ?_, wrap_wf hw⟩
        obtain rfl : j = 0 := by simp at hj; exact hj
        exact ⟨_, rfl, rfl⟩
      | bool =>
        obtain ⟨z, rfl, rfl⟩ := DataW.trod_bool hu h
        refine ⟨fun j hj => ?_, trivial⟩
        obtain rfl : j = 0 := by simp at hj; exact hj
        exact ⟨_, rfl, rfl⟩
      | string =>
        obtain ⟨z, rfl, rfl, hz⟩ := DataW.trod_string hu h
        have e : litS (.lit (.string z.data.toList) : DataW H) = z := by simp [litS]
        refine ⟨fun j hj => ?_, by rw [e]; unfold maxLen at hz; omega⟩
        obtain rfl : j = 0 := by simp at hj; exact hj
        exact ⟨_, rfl, by simp only [Den]; rw [e]⟩
      | slice E =>
        rcases DataW.trod_slice hu h with ⟨rfl, rfl⟩ | ⟨a, len, cap, elems, rest, m, rfl, rfl, rfl, h1, h2, h3, h4, h5, _, _⟩
        · refine ⟨fun j hj => ?_, by simp [dlen], fun i hi => absurd hi (by simp [dlen])⟩
          obtain rfl : j = 0 := by simp at hj; exact hj
          exact ⟨_, rfl, none, 0, rfl, Nat.le_refl _, Nat.zero_le _, .inl rfl⟩
        · have hlen : dlen (.slice (elems.map (·.1)) (rest.map (·.1)) : DataW H) = len := by simp [dlen, h4]
          have el : ∀ i, i < len → ∃ y cs', elems[i]? = some y ∧ delem (.slice (elems.map (·.1)) (rest.map (·.1)) : DataW H) i = y.1 ∧ w.cells? base (a.add (i * P.cellsOf E)) (P.cellsOf E) = some cs' ∧ DataW.trod enc P w base spare held m E cs' = some y := by
            intro i hi
            have h6 := h5 i hi
            rw [List.getElem?_eq_getElem (by omega)] at h6
            rw [Option.bind_eq_some_iff] at h6
            obtain ⟨cs', h7, h8⟩ := h6
            exact ⟨_, cs', List.getElem?_eq_getElem (by omega), nthD_get (by rw [List.getElem?_map, List.getElem?_eq_getElem (by omega)]; rfl), h7, h8⟩
          refine ⟨fun j hj => ?_, by rw [hlen]; unfold maxLen at h3; omega, fun i hi => ?_⟩
          · obtain rfl : j = 0 := by simp at hj; exact hj
            refine ⟨_, rfl, some a, cap, by rw [hlen], by rw [hlen]; exact h2, by rw [hlen]; exact Nat.le_trans h2 h3, .inr ⟨a, rfl, fun i hi q hq => ?_⟩⟩
            rw [hlen] at hi
            obtain ⟨y, cs', h6, h7, h8, h9⟩ := el i hi
            obtain ⟨g1, g2, g3⟩ := World.cells?_some h8
            obtain ⟨z, h10, h11⟩ := (trod_cells n m h9).1 q (by omega)
            refine ⟨z, ?_, ⟨id, fun _ => id⟩, by
              show Den w o0.bare (dcell P n E (delem (.slice (elems.map (·.1)) (rest.map (·.1))) i) q) z
              rw [h7]; exact h11⟩
            have := g3 q hq
            rw [add_add] at this
            rw [this]; exact h10
          · rw [hlen] at hi
            obtain ⟨y, cs', h6, h7, h8, h9⟩ := el i hi
            rw [h7]; exact (trod_cells n m h9).2
      | struct fs =>
        obtain ⟨xs, m, rfl, rfl, hl, hxs, hf⟩ := DataW.trod_struct hu h
        have part : ∀ i f, fs.toList[i]? = some f → ∃ y, dpart (.agg (xs.map (·.1)) : DataW H) i = y.1 ∧ DataW.trod enc P w base spare held m f.type ((cs.drop f.offset).take (P.cellsOf f.type)) = some y := by
          intro i f hi
          have h6 := hf i f (by simpa using hi)
          have hlt : i < xs.length := by
            have := (List.getElem?_eq_some_iff.1 hi).1
            simp at this; omega
          rw [List.getElem?_eq_getElem hlt] at h6
          exact ⟨_, nthD_get (by rw [List.getElem?_map, List.getElem?_eq_getElem hlt]; rfl), h6⟩
        refine ⟨fun j hj => ?_, wfFs_of fun i f hi => ?_⟩
        · show ∃ y, _ ∧ Den w o0 (match fieldAt P j 0 fs.toList with | some (k, f) => dcell P n f.type (dpart _ k) (j - f.offset) | none => .junk) y
          cases hfa : fieldAt P j 0 fs.toList with
          | none => exact ⟨_, List.getElem?_eq_getElem hj, trivial⟩
          | some kf =>
            obtain ⟨k, f⟩ := kf
            obtain ⟨_, h7, h8, h9⟩ := fieldAt_some hfa
            obtain ⟨y, h10, h11⟩ := part k f (by simpa using h7)
            have hlen : ((cs.drop f.offset).take (P.cellsOf f.type)).length = min (P.cellsOf f.type) (cs.length - f.offset) := by simp
            obtain ⟨z, h12, h13⟩ := (trod_cells n m h11).1 (j - f.offset) (by rw [hlen]; omega)
            refine ⟨z, ?_, by show Den w o0 (dcell P n f.type (dpart (.agg (xs.map (·.1))) k) (j - f.offset)) z; rw [h10]; exact h13⟩
            rw [List.getElem?_take_of_lt (by omega), List.getElem?_drop, show f.offset + (j - f.offset) = j by omega] at h12
            exact h12
        · rw [Nat.zero_add]
          obtain ⟨y, h10, h11⟩ := part i f hi
          rw [h10]; exact (trod_cells n m h11).2
      | array q E =>
        obtain ⟨xs, m, rfl, rfl, hl, hxs, hf⟩ := DataW.trod_array hu h
        have part : ∀ i, i < q → ∃ y, dpart (.agg (xs.map (·.1)) : DataW H) i = y.1 ∧ DataW.trod enc P w base spare held m E ((cs.drop (i * P.cellsOf E)).take (P.cellsOf E)) = some y := by
          intro i hi
          have h6 := hf i hi
          rw [List.getElem?_eq_getElem (by omega)] at h6
          exact ⟨_, nthD_get (by rw [List.getElem?_map, List.getElem?_eq_getElem (by omega)]; rfl), h6⟩
        refine ⟨fun j hj => ?_, fun i hi => ?_⟩
        · show ∃ y, _ ∧ Den w o0 (match Nat.blt 0 (P.cellsOf E) && Nat.blt (j / P.cellsOf E) q with | true => dcell P n E (dpart _ (j / P.cellsOf E)) (j % P.cellsOf E) | false => .junk) y
          cases hb : Nat.blt 0 (P.cellsOf E) && Nat.blt (j / P.cellsOf E) q with
          | false => exact ⟨_, List.getElem?_eq_getElem hj, trivial⟩
          | true =>
            rw [Bool.and_eq_true, nblt, nblt, decide_eq_true_eq, decide_eq_true_eq] at hb
            obtain ⟨hz, hb⟩ := hb
            obtain ⟨y, h10, h11⟩ := part _ hb
            · have hmod := Nat.mod_lt j hz
              have hdm := Nat.div_add_mod j (P.cellsOf E)
              rw [Nat.mul_comm] at hdm
              have hlen : ((cs.drop ((j / P.cellsOf E) * P.cellsOf E)).take (P.cellsOf E)).length = min (P.cellsOf E) (cs.length - (j / P.cellsOf E) * P.cellsOf E) := by simp
              obtain ⟨z, h12, h13⟩ := (trod_cells n m h11).1 (j % P.cellsOf E) (by rw [hlen]; omega)
              refine ⟨z, ?_, by show Den w o0 (dcell P n E (dpart (.agg (xs.map (·.1))) (j / P.cellsOf E)) (j % P.cellsOf E)) z; rw [h10]; exact h13⟩
              rw [List.getElem?_take_of_lt (by omega), List.getElem?_drop, hdm] at h12
              exact h12
        · obtain ⟨y, h10, h11⟩ := part i hi
          rw [h10]; exact (trod_cells n m h11).2
      | _ => exact ⟨junk fun _ => rfl, trivial⟩
theorem trod_val {T : TypeId} {v : Value} {d : DataW H} {p : List MemPlace} {r : Reach} {b : Nat} (h : DataW.Trod enc P w base spare held T v d p) (hv : Value.okWide P w r b T v) : Den w o0 (dval P T d) v ∧ dwf P 8 T d := by
  obtain ⟨fuel, h⟩ := h
  obtain ⟨h1, h2⟩ := trod_cells 8 fuel h
  refine ⟨?_, h2⟩
  have one : v.cells = #[v] → Den w o0 (dcell P 8 T d 0) v := fun e => by
    obtain ⟨y, h3, h4⟩ := h1 0 (by rw [e]; simp)
    rw [e] at h3
    obtain rfl : v = y := by simpa using h3
    exact h4
  unfold dval
  cases hu : P.underlying T with
  | none => trivial
  | some u =>
    have agg : ∀ cs, v = .agg cs → cs.size = P.cellsOf T → Den w o0 (.ag (P.cellsOf T) (dcell P 8 T d)) v := by
      rintro cs rfl hs
      refine ⟨cs, rfl, hs, fun j hj => ?_⟩
      obtain ⟨y, h3, h4⟩ := h1 j (by show j < cs.toList.length; simp; omega)
      have h3 : cs.toList[j]? = some y := h3
      exact ⟨y, by simpa using h3, h4⟩
    have jk : dcell P 8 T d 0 = .junk → Den w o0 (dcell P 8 T d 0) v := fun e => by rw [e]; trivial
    cases u with
    | struct fs =>
      unfold Value.okWide at hv; rw [hu] at hv
      obtain ⟨cs, e, hs, _⟩ := hv
      exact agg cs e hs
    | array n E =>
      unfold Value.okWide at hv; rw [hu] at hv
      obtain ⟨cs, e, hs, _⟩ := hv
      exact agg cs e hs
    | int k => obtain ⟨n, rfl⟩ := WideShapes.okWide_int hu hv; exact one rfl
    | bool => obtain ⟨n, rfl⟩ := WideShapes.okWide_bool hu hv; exact one rfl
    | string => obtain ⟨n, rfl⟩ := WideShapes.okWide_string hu hv; exact one rfl
    | slice E => obtain ⟨a, l, c, rfl⟩ := WideShapes.okWide_slice hu hv; exact one rfl
    | _ => exact jk (by unfold dcell; rw [hu])
def dvals (P : Program) : List TypeId → List (DataW H) → List SV
  | t :: ts, d :: ds => dval P t d :: dvals P ts ds
  | _, _ => []
def dwfs (P : Program) : List TypeId → List (DataW H) → Prop
  | t :: ts, d :: ds => dwf P 8 t d ∧ dwfs P ts ds
  | _, _ => True
theorem trod_vals {r : Reach} {b : Nat} : ∀ {ts : List TypeId} {vs : List Value} {ds : List (DataW H)} {p : List MemPlace}, DataW.TrodAll enc P w base spare held ts vs ds p →
    (∀ (j : Nat) t v, ts[j]? = some t → vs[j]? = some v → Value.okWide P w r b t v) → DenL w o0 (dvals P ts ds) vs ∧ dwfs P ts ds
  | [], [], [], _, _, _ => ⟨trivial, trivial⟩
  | t :: ts, v :: vs, d :: ds, _, ⟨p, q, h1, h2, _⟩, hv => by
    obtain ⟨h3, h4⟩ := trod_val h1 (hv 0 t v rfl rfl)
    obtain ⟨h5, h6⟩ := trod_vals h2 (fun j t v h h' => hv (j + 1) t v (by simpa using h) (by simpa using h'))
    exact ⟨⟨h3, h5⟩, h4, h6⟩
/-- From a contract to a call at the entry. -/
theorem mem0 (W : World) : MemOK W o0 (memOf 0 []) := ⟨(memOf_cur []).symm, fun b ⟨k, p, L, h, _⟩ => (by cases h), fun _ h => False.elim h, fun _ h => False.elim h, fun _ h => False.elim h, fun _ _ _ _ _ _ h => (by cases h), fun _ _ _ h => (by cases h), fun _ _ _ h => (by cases h), fun _ _ h => (by cases h), fun _ _ _ _ => rfl⟩
/-- What a row asks of the contract's function. -/
theorem law_call {Gl : Nat → SV} {f : Nat} {c : Con} (hok : FnOK P Gl f c) {ts : List TypeId} {vs : Array Value} {ds : List (DataW H)} {p : List MemPlace} {r : Reach} {b : Nat}
    (hc : ∀ ds : List (DataW H), ds.length = ts.length → dwfs P ts ds → ∃ pr, c.g (dvals P ts ds) [] = some (pr, .v (.bool true), []) ∧ pr)
    (hg : ∀ g, Den w o0.bare (Gl g) (.pointer (some ⟨g, 0, none⟩))) (h : DataW.TrodAll enc P w base spare held ts vs.toList ds p) (hl : ds.length = ts.length)
    (hv : ∀ (j : Nat) t v, ts[j]? = some t → vs[j]? = some v → Value.okWide P w r b t v) :
    Calls P f vs w fun e W' => e = .returned (.bool true) ∧ Below w.heap.size w W' := by
  obtain ⟨h1, h2⟩ := trod_vals h (fun j t v e e' => hv j t v e (by simpa using e'))
  obtain ⟨pr, h3, h4⟩ := hc ds hl h2
  refine (hok.fn _ _ _ _ _ h3 h4 w o0 vs hg (mem0 w) h1).mono ?_
  rintro e W' ⟨v, ω', rfl, ha, _, hr, _⟩
  have hr : v = .bool true := hr
  exact ⟨by rw [hr], ha.os, ha.tape, ha.output, ha.size, fun k hk => ha.same k hk id⟩
/-- Under what tells more of the variables. -/
theorem FnOK.up {Gl Gl' : Nat → SV} {f : Nat} {c : Con} (h : FnOK P Gl' f c) (hu : ∀ g, Gl' g = Gl g ∨ Gl' g = .junk) : FnOK P Gl f c :=
  ⟨h.call, fun args mem pre res mem' e hp w ω vs hG => h.fn args mem pre res mem' e hp w ω vs fun g => by
    rcases hu g with e | e
    · rw [e]; exact hG g
    · rw [e]; trivial, h.pj⟩
/-- What a contract asks that answers true. -/
def prOf : Option (Prop × SV × List Blk) → Prop
  | some (p, .v (.bool true), []) => p
  | _ => False
theorem prOf_spec {x : Option (Prop × SV × List Blk)} (h : prOf x) : ∃ pr, x = some (pr, .v (.bool true), []) ∧ pr := by
  unfold prOf at h
  split at h
  · exact ⟨_, rfl, h⟩
  · exact h.elim
/-- Zero values. -/
def zeros (P : Program) (ts : List TypeId) : Array Value := (ts.map fun t => match P.info? t with | some i => i.zero.getD undef | none => undef).toArray
end Go.Sy
