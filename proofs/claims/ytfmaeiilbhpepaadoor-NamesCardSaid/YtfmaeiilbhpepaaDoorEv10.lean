/-
  Ev, part 10: whole bodies.
-/
import Derived.Test.YtfmaeiilbhpepaaDoorEv9
import Derived.Deep.LoopGhost
set_option linter.unusedVariables false
set_option linter.unusedSimpArgs false
namespace Go.Ev
open Go.RowKit

inductive Ex where
  | normal | exit (id : Nat) | ret
/-- What a loop's head holds: slots told by 's : σ'; a condition; a measure; how it begins. -/
structure Ann where
  σ : Type
  sh : σ → List (Nat × SV)
  inv : σ → Prop
  μ : σ → Nat
  init : σ
def nl : Code → Nat
  | .seq x y => nl x + nl y
  | .cond _ x y => nl x + nl y
  | .block _ x => nl x
  | .loop x => nl x + 1
  | _ => 0
def assigned : Code → List Nat
  | .region _ ops _ => ops.toList.filterMap (·.dst)
  | .seq x y => assigned x ++ assigned y
  | .cond _ x y => assigned x ++ assigned y
  | .block _ x => assigned x
  | .loop x => assigned x
  | _ => []
def havoc (F : Fr) : List Nat → Fr
  | [] => F
  | d :: r => havoc ((d, .junk) :: F) r
def setL (N : Nat) (F : Fr) : List (Nat × SV) → Fr
  | [] => F
  | p :: r => setL N (putF N F (some p.1) p.2) r
def agree (F : Fr) : List (Nat × SV) → Prop → Prop
  | [], R => R
  | p :: r, R => (look F p.1 = p.2 ∧ noLp p.2 = true) ∧ agree F r R

def evCode (P : Program) (Gl : Nat → SV) (Γ : Table) (N : Nat) : Code → List Ann → Fr → Mem → (Ex → Fr → Mem → Prop) → Prop
  | .skip, _, F, M, K => K .normal F M
  | .region _ ops draw, _, F, M, K =>
    match draw with
    | false => evOps P Gl Γ N false ops.toList (K .normal) ops.toList F M []
    | true => match P.follows .mixedOrders, Region.lexB .any ops with | true, true => evOps P Gl Γ N true ops.toList (K .normal) ops.toList F M [] | _, _ => False
  | .seq x y, an, F, M, K => evCode P Gl Γ N x (an.take (nl x)) F M fun e F M => match e with | .normal => evCode P Gl Γ N y (an.drop (nl x)) F M K | e => K e F M
  | .cond c x y, an, F, M, K =>
    match opnd Gl F c with
    | .bl true => evCode P Gl Γ N x (an.take (nl x)) F M K
    | .bl false => evCode P Gl Γ N y (an.drop (nl x)) F M K
    | .v (.bool b) => (b = true → evCode P Gl Γ N x (an.take (nl x)) F M K) ∧ (b = false → evCode P Gl Γ N y (an.drop (nl x)) F M K)
    | _ => False
  | .block id x, an, F, M, K => evCode P Gl Γ N x an F M fun e F M => match e with | .exit i => (match Nat.beq i id with | true => K .normal F M | false => K (.exit i) F M) | e => K e F M
  | .loop x, an, F, M, K =>
    match an with
    | [] => False
    | n :: r => agree F (n.sh n.init) (n.inv n.init ∧ ∀ s, n.inv s → evCode P Gl Γ N x r (setL N (havoc F (assigned x)) (n.sh s)) M fun e F' M' =>
        match e with
        | .normal => M'.take M.length = M ∧ ∃ s', agree F' (n.sh s') (n.inv s' ∧ n.μ s' < n.μ s)
        | e => K e F' M')
  | .exit id, _, F, M, K => K (.exit id) F M
  | .ret, _, F, M, K => K .ret F M
  | _, _, _, _, _ => False

def evRes (P : Program) (F : Fr) (M : Mem) (K : List SV → Prop) : List ResultVar → List SV → Prop
  | [], acc => K acc.reverse
  | .tmp t :: r, acc => evRes P F M K r (look F t :: acc)
  | .cell ad T :: r, acc => (evLoad P T (look F ad) M).run fun s => evRes P F M K r (s :: acc)
def evRet (M : Mem) (Post : SV → Prop) (l : List SV) : Prop :=
  match prepL M l with
  | some [s] => Post s
  | some l => Post (.tp l.length (lsv l))
  | none => False
def argF : Nat → List SV → Fr
  | _, [] => []
  | i, s :: r => (i, s) :: argF (i + 1) r
def evBody (P : Program) (Gl : Nat → SV) (Γ : Table) (fn : Func) (args : List SV) (an : List Ann) (Post : SV → Prop) : Prop :=
  match fn.body with
  | some c => match Nat.ble args.length fn.ntmps with
    | false => False
    | true => evCode P Gl Γ fn.ntmps c an (argF 0 args) [] fun e F M =>
      match e with
      | .exit _ => False
      | _ => evRes P F M (evRet M Post) fn.results.toList []
  | none => False

section
variable {P : Program} {w0 w : World} {A0 A : Nat → Prop} {β : List Nat} {Gl : Nat → SV} {Γ : Table} {N : Nat} {F : Fr} {M : Mem} {a : Act}

def QQ (P : Program) (w0 : World) (A0 : Nat → Prop) (Gl : Nat → SV) (N : Nat) (S : List Nat) (a0 : Act) (w1 : World) (A1 : Nat → Prop) (β1 : List Nat) (K : Ex → Fr → Mem → Prop) : Exit → Act → World → Prop
  | .normal, a, w => Done P w0 A0 Gl N S a0 w1 A1 β1 (K .normal) a w
  | .exit id, a, w => Done P w0 A0 Gl N S a0 w1 A1 β1 (K (.exit id)) a w
  | .ret, a, w => Done P w0 A0 Gl N S a0 w1 A1 β1 (K .ret) a w
  | _, _, _ => False
theorem Done.weaken {S S' : List Nat} {a0 a1 : Act} {w1 w2 : World} {A1 A2 : Nat → Prop} {β1 β2 : List Nat} {K K' : Fr → Mem → Prop} {a : Act} {w : World} (h : Done P w0 A0 Gl N S a1 w2 A2 β2 K a w)
    (hS : ∀ i ∈ S, i ∈ S') (hk : Keep S' a0 a1) (hg : Grow w1 A1 β1 w2 A2 β2) (hK : ∀ F M, K F M → K' F M) : Done P w0 A0 Gl N S' a0 w1 A1 β1 K' a w := by
  obtain ⟨A, β, F, M, h1, h2, h3, h4⟩ := h
  exact ⟨A, β, F, M, h1, hg.trans h2, hk.trans (h3.mono hS), hK _ _ h4⟩

theorem havoc_ok {w' : World} {A' : Nat → Prop} {t t' : Array Value} : ∀ (l : List Nat) {F : Fr}, t'.size = N → (∀ (i : Nat) u, i ∉ l → t'[i]? = some u → Den w' A' β (look F i) u) → (∀ i, N ≤ i → look F i = .junk) → FrOK w' A' β N (havoc F l) t'
  | [], F, hz, h, ho => ⟨hz, fun i u hu => h i u (by simp) hu, ho⟩
  | d :: r, F, hz, h, ho => by
    refine havoc_ok (t := t) r hz (fun i u hi hu => ?_) (fun i hi => ?_)
    · by_cases hid : d = i
      · subst hid; rw [look_eq]; trivial
      · rw [look_ne hid]
        exact h i u (by simp [hi, Ne.symm hid]) hu
    · by_cases hid : d = i
      · subst hid; rw [look_eq]
      · rw [look_ne hid]; exact ho i hi
theorem setL_ok {w' : World} {A' : Nat → Prop} {t' : Array Value} : ∀ (l : List (Nat × SV)) {F : Fr}, FrOK w' A' β N F t' → (∀ p ∈ l, ∀ u, t'[p.1]? = some u → Den w' A' β p.2 u) → FrOK w' A' β N (setL N F l) t'
  | [], _, h, _ => h
  | p :: r, F, h, hp => by
    refine setL_ok r ?_ fun q hq => hp q (by simp [hq])
    cases hlt : Nat.blt p.1 N with
    | true =>
      have e : putF N F (some p.1) p.2 = (p.1, p.2) :: F := by simp only [putF, hlt]
      rw [e]
      exact h.tell (Nat.le_of_ble_eq_true hlt) (hp p (by simp))
    | false =>
      have e : putF N F (some p.1) p.2 = F := by simp only [putF, hlt]
      rw [e]; exact h
theorem agree_spec : ∀ {l : List (Nat × SV)} {R : Prop}, agree F l R → (∀ p ∈ l, look F p.1 = p.2 ∧ noLp p.2 = true) ∧ R
  | [], _, h => ⟨fun p hp => by simp at hp, h⟩
  | p :: r, _, ⟨h1, h2⟩ => by
    obtain ⟨h3, h4⟩ := agree_spec h2
    refine ⟨fun q hq => ?_, h4⟩
    rcases List.mem_cons.1 hq with rfl | hq
    · exact h1
    · exact h3 q hq
theorem Den.restrict {β β2 : List Nat} {A2 : Nat → Prop} {w2 : World} (hk : Keeps β β2) {s : SV} : ∀ {u0 u : Value}, Den w A β s u0 → Den w2 A2 β2 s u → Den w2 A2 β s u := by
  induction s with
  | lp k off =>
    intro u0 u h0 h
    obtain ⟨b0, e0, _⟩ := h0
    obtain ⟨b, e, rfl⟩ := h
    obtain rfl := Option.some.inj ((hk _ _ e0).symm.trans e)
    exact ⟨b0, e0, rfl⟩
  | ag n f ih =>
    intro u0 u h0 h
    obtain ⟨cs0, _, _, hj0⟩ := h0
    obtain ⟨cs, rfl, hn, hj⟩ := h
    refine ⟨cs, rfl, hn, fun j hjn => ?_⟩
    obtain ⟨x0, _, d0⟩ := hj0 j hjn
    obtain ⟨x, e, d⟩ := hj j hjn
    exact ⟨x, e, ih j d0 d⟩
  | tp n f ih =>
    intro u0 u h0 h
    obtain ⟨cs0, _, _, hj0⟩ := h0
    obtain ⟨cs, rfl, hn, hj⟩ := h
    refine ⟨cs, rfl, hn, fun j hjn => ?_⟩
    obtain ⟨x0, _, d0⟩ := hj0 j hjn
    obtain ⟨x, e, d⟩ := hj j hjn
    exact ⟨x, e, ih j d0 d⟩
  | fn id n f ih =>
    intro u0 u h0 h
    obtain ⟨cs0, _, _, hj0⟩ := h0
    obtain ⟨cs, rfl, hn, hj⟩ := h
    refine ⟨cs, rfl, hn, fun j hjn => ?_⟩
    obtain ⟨x0, _, d0⟩ := hj0 j hjn
    obtain ⟨x, e, d⟩ := hj j hjn
    exact ⟨x, e, ih j d0 d⟩
  | ic t s ih =>
    intro u0 u h0 h
    obtain ⟨x0, _, d0⟩ := h0
    obtain ⟨x, rfl, d⟩ := h
    exact ⟨x, rfl, ih d0 d⟩
  | junk => intro u0 u _ _; trivial
  | v x => intro u0 u _ h; exact h
  | bl b => intro u0 u _ h; exact h
  | pt n f ih => intro u0 u _ h; exact h
  | sl sz n f ih => intro u0 u _ h; exact h
  | er t tf e at_ => intro u0 u _ h; exact h
theorem DenL.restrict {β β2 : List Nat} {A2 : Nat → Prop} {w2 : World} (hk : Keeps β β2) : ∀ {l : List SV} {us0 us : List Value}, DenL w A β l us0 → DenL w2 A2 β2 l us → DenL w2 A2 β l us
  | [], _, [], _, _ => trivial
  | _ :: _, _ :: _, _ :: _, ⟨a1, a2⟩, ⟨b1, b2⟩ => ⟨a1.restrict hk b1, DenL.restrict hk a2 b2⟩
  | [], _, _ :: _, _, h => h.elim
  | _ :: _, [], _, h, _ => h.elim
  | _ :: _, _, [], _, h => h.elim
theorem noLp_up {s : SV} {u : Value} {β2 : List Nat} (hn : noLp s = true) (h : Den w A β s u) : Den w A β2 s u := (noLp_den (A2 := A) (fun _ h => h) hn h).up

theorem evCode_ok (hS : Sound P Gl Γ) : ∀ (c : Code) (an : List Ann) (F : Fr) (M : Mem) (a : Act) (w : World) (A : Nat → Prop) (β : List Nat) (K : Ex → Fr → Mem → Prop),
    St P w0 A0 Gl N F M a w A β → evCode P Gl Γ N c an F M K → c.wp P (QQ P w0 A0 Gl N (assigned c) a w A β K) a w := by
  intro c
  induction c with
  | skip => intro an F M a w A β K h he; exact wp_skip ⟨A, β, F, M, h, Grow.refl _ _ _, Keep.refl _ _, he⟩
  | region id ops draw =>
    intro an F M a w A β K h he
    have hd : ∀ o ∈ ops.toList, ∀ t, o.dst = some t → t ∈ assigned (.region id ops draw) := by
      intro o ho t ht
      simp only [assigned, List.mem_filterMap]
      exact ⟨o, ho, ht⟩
    cases draw with
    | false =>
      simp only [evCode] at he
      exact wp_region_list (evOps_ok hS (Q := QQ P w0 A0 Gl N (assigned (.region id ops false)) a w A β K) (fun _ _ hd => hd) ops.toList F M [] a w A β hd h (fun x hx => by cases hx) (Grow.refl _ _ _) (Keep.refl _ _) he)
    | true =>
      simp only [evCode] at he
      split at he
      · next hm hB =>
        refine wp_region_quiet (C := fun w' => Below w.heap.size w w') hm hB ⟨rfl, rfl, rfl, Nat.le_refl _, fun _ _ => rfl⟩ ?_
        refine evOpsQ_ok hS (S := assigned (.region id ops true)) (a0 := a) (A := A) (β := β) ?_ ops.toList F M [] a hd h (fun x hx => by cases hx) (Keep.refl _ _) he
        intro a' F' M' h' hk' hK' w' hw'
        exact ⟨A, β, F', M', h'.later hw', grow_below hw', hk', hK'⟩
      · exact he.elim
  | seq x y ihx ihy =>
    intro an F M a w A β K h he
    simp only [evCode] at he
    refine wp_seq (wp_mono (ihx _ F M a w A β _ h he) ?_)
    intro e a1 w1 hq
    have sub1 : ∀ i ∈ assigned x, i ∈ assigned (.seq x y) := fun i hi => by simp [assigned, hi]
    have sub2 : ∀ i ∈ assigned y, i ∈ assigned (.seq x y) := fun i hi => by simp [assigned, hi]
    cases e with
    | normal =>
      obtain ⟨A1, β1, F1, M1, h1, g1, k1, hK1⟩ := hq
      refine wp_mono (ihy _ F1 M1 a1 w1 A1 β1 K h1 hK1) ?_
      intro e a2 w2 hq2
      cases e with
      | normal => exact hq2.weaken sub2 (k1.mono sub1) g1 (fun _ _ h => h)
      | exit id => exact hq2.weaken sub2 (k1.mono sub1) g1 (fun _ _ h => h)
      | ret => exact hq2.weaken sub2 (k1.mono sub1) g1 (fun _ _ h => h)
      | goto l => exact hq2
      | panic ch => exact hq2
      | outgrown => exact hq2
    | exit id => exact hq.weaken sub1 (Keep.refl _ _) (Grow.refl _ _ _) (fun _ _ h => h)
    | ret => exact hq.weaken sub1 (Keep.refl _ _) (Grow.refl _ _ _) (fun _ _ h => h)
    | goto l => exact hq
    | panic ch => exact hq
    | outgrown => exact hq
  | cond c x y ihx ihy =>
    intro an F M a w A β K h he
    have sub1 : ∀ i ∈ assigned x, i ∈ assigned (.cond c x y) := fun i hi => by simp [assigned, hi]
    have sub2 : ∀ i ∈ assigned y, i ∈ assigned (.cond c x y) := fun i hi => by simp [assigned, hi]
    have w1 : ∀ {K : Ex → Fr → Mem → Prop} {S : List Nat}, (∀ i ∈ S, i ∈ assigned (.cond c x y)) → ∀ e a' w', QQ P w0 A0 Gl N S a w A β K e a' w' → QQ P w0 A0 Gl N (assigned (.cond c x y)) a w A β K e a' w' := by
      intro K S hs e a' w' hq
      cases e with
      | normal => exact hq.weaken hs (Keep.refl _ _) (Grow.refl _ _ _) (fun _ _ h => h)
      | exit id => exact hq.weaken hs (Keep.refl _ _) (Grow.refl _ _ _) (fun _ _ h => h)
      | ret => exact hq.weaken hs (Keep.refl _ _) (Grow.refl _ _ _) (fun _ _ h => h)
      | goto l => exact hq
      | panic ch => exact hq
      | outgrown => exact hq
    have hc := h.ctx.opnd c
    simp only [evCode] at he
    split at he
    · next hs =>
      rw [hs] at hc
      exact wp_cond_true hc (wp_mono (ihx _ F M a w A β K h he) (w1 sub1))
    · next hs =>
      rw [hs] at hc
      exact wp_cond_false hc (wp_mono (ihy _ F M a w A β K h he) (w1 sub2))
    · next b hs =>
      rw [hs] at hc
      exact wp_cond_split (t := b) hc (fun hb => wp_mono (ihx _ F M a w A β K h (he.1 hb)) (w1 sub1)) (fun hb => wp_mono (ihy _ F M a w A β K h (he.2 hb)) (w1 sub2))
    · exact he.elim
  | block id x ih =>
    intro an F M a w A β K h he
    simp only [evCode] at he
    refine wp_block (wp_mono (ih _ F M a w A β _ h he) ?_)
    intro e a1 w1 hq
    cases e with
    | normal => exact hq
    | exit i =>
      show (if i = id then _ else _)
      obtain ⟨A1, β1, F1, M1, h1, g1, k1, hK1⟩ := hq
      by_cases hi : i = id
      · rw [if_pos hi]
        subst hi
        have : Nat.beq i i = true := Nat.beq_refl i
        simp only [this] at hK1
        exact ⟨A1, β1, F1, M1, h1, g1, k1, hK1⟩
      · rw [if_neg hi]
        have : Nat.beq i id = false := by
          cases hb : Nat.beq i id
          · rfl
          · exact absurd (Nat.eq_of_beq_eq_true hb) hi
        simp only [this] at hK1
        exact ⟨A1, β1, F1, M1, h1, g1, k1, hK1⟩
    | ret => exact hq
    | goto l => exact hq
    | panic ch => exact hq
    | outgrown => exact hq
  | loop x ih =>
    intro an F M a w A β K h he
    simp only [evCode] at he
    split at he
    · exact he.elim
    · next n r =>
      obtain ⟨hag, hinv, hround⟩ := agree_spec he
      -- a loop's head
      have head : ∀ (s : n.σ) (a' : Act) (w' : World) (A' : Nat → Prop) (β' : List Nat) (F' : Fr) (M' : Mem), Keep (assigned x) a a' → Grow w A β w' A' β' → St P w0 A0 Gl N F' M' a' w' A' β' → M'.take M.length = M →
          (∀ p ∈ n.sh s, look F' p.1 = p.2 ∧ noLp p.2 = true) → St P w0 A0 Gl N (setL N (havoc F (assigned x)) (n.sh s)) M a' w' A' β := by
        intro s a' w' A' β' F' M' hk hg hst hM hp
        have hg' : Later A w A' w' := hg.later
        refine { hst with ctx := ⟨?_, hst.ctx.globs, ?_⟩, new := h.new }
        · refine setL_ok _ (havoc_ok (t := a.tmps) _ hst.ctx.frame.size ?_ h.ctx.frame.out) ?_
          · intro i u hi hu
            have hu' : a.tmps[i]? = some u := by rw [← hk.2 i hi]; exact hu
            exact (h.ctx.frame.den i u hu').later hg' (Keeps.refl _)
          · intro p hpm u hu
            obtain ⟨e1, e2⟩ := hp p hpm
            have f2 := hst.ctx.frame.den p.1 u hu
            rw [e1] at f2
            exact noLp_up e2 f2
        · refine ⟨h.ctx.mem.len, h.ctx.mem.nodup, fun b hb => ?_, hst.ctx.mem.low, ?_⟩
          · obtain ⟨k, hk'⟩ := List.getElem?_of_mem hb
            exact hst.ctx.mem.own b (List.mem_of_getElem? (hg.keeps k b hk'))
          · intro k b cs hb hcs
            have hcs' : M'[k]? = some cs := by
              have hkl := (List.getElem?_eq_some_iff.1 hcs).1
              rw [← hM] at hcs
              rwa [List.getElem?_take_of_lt hkl] at hcs
            obtain ⟨c, T, g1, g2⟩ := hst.ctx.mem.cell k b cs (hg.keeps k b hb) hcs'
            obtain ⟨c0, T0, _, g0⟩ := h.ctx.mem.cell k b cs hb hcs
            exact ⟨c, T, g1, g0.restrict hg.keeps g2⟩
      refine wp_loop_ghost (fun k a' w' => ∃ s A', n.inv s ∧ n.μ s = k ∧ St P w0 A0 Gl N (setL N (havoc F (assigned x)) (n.sh s)) M a' w' A' β ∧ Grow w A β w' A' β ∧ Keep (assigned x) a a')
        (n.μ n.init) ⟨n.init, A, hinv, rfl, head n.init a w A β F M (Keep.refl _ _) (Grow.refl _ _ _) h (by simp) hag, Grow.refl _ _ _, Keep.refl _ _⟩ ?_
      rintro k a1 w1 ⟨s, A1, hi, rfl, h1, g1, k1⟩
      refine wp_mono (ih r _ M a1 w1 A1 β _ h1 (hround s hi)) ?_
      intro e a2 w2 hq
      cases e with
      | normal =>
        obtain ⟨A2, β2, F2, M2, h2, g2, k2, hM2, s', hs'⟩ := hq
        obtain ⟨hag', hinv', hμ⟩ := agree_spec hs'
        have hst := head s' a2 w2 A2 β2 F2 M2 (k1.trans k2) (g1.trans g2) h2 hM2 hag'
        exact ⟨n.μ s', hμ, s', A2, hinv', rfl, hst, ⟨(g1.trans g2).later, Keeps.refl _, (g1.trans g2).size⟩, k1.trans k2⟩
      | exit id => exact hq.weaken (fun _ h => h) k1 g1 (fun _ _ h => h)
      | ret => exact hq.weaken (fun _ h => h) k1 g1 (fun _ _ h => h)
      | goto l => exact hq
      | panic ch => exact hq
      | outgrown => exact hq
  | exit id => intro an F M a w A β K h he; exact wp_exit ⟨A, β, F, M, h, Grow.refl _ _ _, Keep.refl _ _, he⟩
  | ret => intro an F M a w A β K h he; exact wp_ret ⟨A, β, F, M, h, Grow.refl _ _ _, Keep.refl _ _, he⟩
  | rangeFunc f p as b iha ihb => intro an F M a w A β K h he; exact he.elim
  | scope x ih => intro an F M a w A β K h he; exact he.elim
  | label l => intro an F M a w A β K h he; exact he.elim
  | goto l => intro an F M a w A β K h he; exact he.elim
  | refuse s => intro an F M a w A β K h he; exact he.elim

/-! ### results, bodies -/
def rvSem (tmps : Array Value) : ResultVar → Sem Value
  | .tmp t => pure (tmps.getD t undef)
  | .cell ad t => do loadVar t (← asAddr (tmps.getD ad undef))
theorem res_run (hm : RelM w A β M) (hF : FrOK w A β N F a.tmps) : ∀ (rs : List ResultVar) (K : List SV → Prop) (acc : List SV) (accv : List Value), DenL w A β acc accv → evRes P F M K rs acc →
    ∃ vs l, (rs.mapM (rvSem a.tmps)).run P w = .ok vs w ∧ DenL w A β l (accv.reverse ++ vs) ∧ K l
  | [], K, acc, accv, ha, he => by
    refine ⟨[], acc.reverse, by simp, ?_, he⟩
    rw [List.append_nil]
    have rev : ∀ {F : List SV} {l : List Value}, DenL w A β F l → DenL w A β F.reverse l.reverse := by
      intro F
      induction F with
      | nil => intro l h; cases l with
        | nil => trivial
        | cons _ _ => exact h.elim
      | cons s r ih => intro l h; cases l with
        | nil => exact h.elim
        | cons u t => rw [List.reverse_cons, List.reverse_cons]; exact (ih h.2).append ⟨h.1, trivial⟩
    exact rev ha
  | .tmp t :: r, K, acc, accv, ha, he => by
    have hd : Den w A β (look F t) (a.tmps.getD t undef) := hF.get t
    obtain ⟨vs, l, h1, h2, h3⟩ := res_run hm hF r K (look F t :: acc) (a.tmps.getD t undef :: accv) ⟨hd, ha⟩ he
    refine ⟨a.tmps.getD t undef :: vs, l, ?_, by simpa using h2, h3⟩
    simp only [List.mapM_cons, rvSem, Sem.run_bind, Sem.run_pure, Result.andThen_ok, h1]
  | .cell ad T :: r, K, acc, accv, ha, he => by
    have hd : Den w A β (look F ad) (a.tmps.getD ad undef) := hF.get ad
    simp only [evRes] at he
    obtain ⟨s, v, p, e, hr, hs, hK⟩ := load_core hm hd he
    obtain ⟨vs, l, h1, h2, h3⟩ := res_run hm hF r K (s :: acc) (v :: accv) ⟨hs, ha⟩ hK
    refine ⟨v :: vs, l, ?_, by simpa using h2, h3⟩
    have ha : (asAddr (a.tmps.getD ad undef)).run P w = .ok p w := by rw [e]; rfl
    simp only [List.mapM_cons, rvSem, Sem.run_bind, ha, Sem.run_pure, Result.andThen_ok, hr w (Cw.refl w), h1]
theorem single_or {l : List SV} {vs : List Value} (h : DenL w A β l vs) : (∃ s v, l = [s] ∧ vs = [v] ∧ Den w A β s v) ∨ ((∀ s, l ≠ [s]) ∧ vs.length ≠ 1) := by
  match l, vs, h with
  | [], [], _ => exact .inr ⟨by simp, by simp⟩
  | [s], [v], ⟨h, _⟩ => exact .inl ⟨s, v, rfl, rfl, h⟩
  | _ :: _ :: _, _ :: _ :: _, _ => exact .inr ⟨by simp, by simp⟩
theorem ret_ok (h : St P w0 A0 Gl N F M a w A β) {fn : Func} {Post : SV → Prop} (he : evRes P F M (evRet M Post) fn.results.toList []) :
    ∃ v r, (results fn a.tmps).run P w = .ok v w ∧ Den w A0 [] r v ∧ Post r := by
  obtain ⟨vs, l, h1, h2, h3⟩ := res_run (a := a) h.ctx.mem h.ctx.frame _ _ [] [] trivial he
  simp only [List.reverse_nil, List.nil_append] at h2
  have hlen := h2.len
  unfold evRet at h3
  have hr : ∀ v, (v = if h : vs.toArray.size = 1 then vs.toArray[0] else .tuple vs.toArray) → (results fn a.tmps).run P w = .ok v w := by
    intro v hv
    have e : results fn a.tmps = (do let vs ← fn.results.mapM (rvSem a.tmps); pure (if h : vs.size = 1 then vs[0] else .tuple vs)) := by
      unfold results
      congr 1
    rw [e]
    simp only [Array.mapM_eq_mapM_toList, Sem.run_bind, Sem.run_map, h1, Result.andThen_ok, Sem.run_pure, hv]
  have hp : ∀ {l'}, prepL M l = some l' → DenL w A0 [] l' vs := fun hp => prepL_den h.ctx.mem h.old (fun _ b hb hn => absurd (h.low0 b hn) (Nat.not_lt.2 (h.new b hb))) hp h2
  split at h3
  · next s hs =>
    have hd := hp hs
    rcases single_or hd with ⟨s', v, e1, rfl, hd'⟩ | ⟨h5, _⟩
    · obtain rfl : s = s' := by simpa using e1
      exact ⟨v, s, hr v (by simp), hd', h3⟩
    · exact absurd rfl (h5 s)
  · next l' hne hl =>
    have hd := hp hl
    refine ⟨.tuple vs.toArray, .tp l'.length (lsv l'), hr _ ?_, ⟨_, rfl, by simpa using hd.len.symm, fun j hj => ?_⟩, h3⟩
    · rw [dif_neg]
      intro e
      rcases single_or hd with ⟨s, v, rfl, _⟩ | ⟨_, h5⟩
      · exact hne s rfl
      · exact h5 (by simpa using e)
    · obtain ⟨x, e1, e2⟩ := hd.get? j hj
      exact ⟨x, by simpa using e1, e2⟩
  · exact h3.elim

theorem argF_look : ∀ (l : List SV) (k i : Nat), i < l.length → look (argF k l) (k + i) = l.getD i .junk
  | [], _, _, h => absurd h (by simp)
  | s :: r, k, 0, _ => by simp [argF, look_eq]
  | s :: r, k, i + 1, h => by
    rw [argF, look_ne (by omega), show k + (i + 1) = (k + 1) + i by omega, argF_look r (k + 1) i (by simpa using h)]
    simp
theorem argF_out : ∀ (l : List SV) (k i : Nat), k + l.length ≤ i → look (argF k l) i = .junk
  | [], _, _, _ => rfl
  | s :: r, k, i, h => by
    simp only [List.length_cons] at h
    rw [argF, look_ne (by omega), argF_out r (k + 1) i (by omega)]
/-- **A BODY THAT IS EVALUATED IS A CONTRACT.** -/
theorem body_ok (hS : Sound P Gl Γ) {f : Nat} {fn : Func} (hf : P.funcs[f]? = some fn) {args : List SV} {an : List Ann} {Post : SV → Prop} {res : SV} (he : evBody P Gl Γ fn args an Post) (hp : ∀ (r : SV), Post r → ∀ (w : World) (A : Nat → Prop) (u : Value), Den w A [] r u → Den w A [] res u) : PureFn P Gl f args res := by
  intro w A vs hG hlow hargs
  unfold evBody at he
  split at he
  · next c hc =>
    refine calls_of_wp hf hc ?_
    split at he
    · exact he.elim
    next hle =>
    have hle := Nat.le_of_ble_eq_true hle
    have hlen := hargs.len
    simp at hlen
    have hst : St P w A Gl fn.ntmps (argF 0 args) [] { tmps := vs ++ Array.replicate (fn.ntmps - vs.size) undef, defers := [] } w A [] := by
      refine ⟨⟨⟨by simp; omega, ?_, ?_⟩, hG, ⟨rfl, List.nodup_nil, fun b hb => by simp at hb, hlow, fun k b cs hb => by simp at hb⟩⟩, Below.refl _ _, fun _ h => h, fun b hb => by simp at hb, hlow, rfl⟩
      · intro i u hu
        by_cases hi : i < args.length
        · obtain ⟨x, h1, h2⟩ := hargs.get? i hi
          rw [show look (argF 0 args) i = args.getD i .junk by have := argF_look args 0 i hi; rwa [Nat.zero_add] at this]
          rw [Array.getElem?_append_left (by omega)] at hu
          have h1 : vs[i]? = some x := by simpa using h1
          obtain rfl := Option.some.inj (hu.symm.trans h1)
          exact h2
        · rw [argF_out args 0 i (by omega)]
          trivial
      · intro i hi
        exact argF_out args 0 i (by omega)
    refine wp_mono (evCode_ok hS c an _ [] _ w A [] _ hst he) ?_
    intro e a' w' hq
    cases e with
    | normal =>
      obtain ⟨A1, β1, F1, M1, h1, g1, k1, hK⟩ := hq
      obtain ⟨v, r, hr, hd, hpr⟩ := ret_ok h1 hK
      exact ⟨h1.defers, v, hr, v, rfl, hp r hpr w' A v hd, h1.below⟩
    | ret =>
      obtain ⟨A1, β1, F1, M1, h1, g1, k1, hK⟩ := hq
      obtain ⟨v, r, hr, hd, hpr⟩ := ret_ok h1 hK
      exact ⟨h1.defers, v, hr, v, rfl, hp r hpr w' A v hd, h1.below⟩
    | exit id => obtain ⟨_, _, _, _, _, _, _, hK⟩ := hq; exact hK.elim
    | goto l => exact hq.elim
    | panic ch => exact hq.elim
    | outgrown => exact hq.elim
  · exact he.elim
end
end Go.Ev
