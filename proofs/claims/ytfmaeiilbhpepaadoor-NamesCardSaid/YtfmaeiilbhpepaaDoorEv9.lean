/-
  Ev, part 9: regions.
-/
import Derived.Test.YtfmaeiilbhpepaaDoorEv8
set_option linter.unusedVariables false
set_option linter.unusedSimpArgs false
namespace Go.Ev
open Go.RowKit

section
variable {P : Program} {w0 w : World} {A0 A : Nat → Prop} {β : List Nat} {Gl : Nat → SV} {Γ : Table} {N : Nat} {F : Fr} {M : Mem} {a : Act} {H : List Hd}

structure HOK1 (w : World) (A : Nat → Prop) (β : List Nat) (N : Nat) (a : Act) (h : Hd) : Prop where
  lt : h.slot < N
  yes : a.tmps[h.d]? = some (.bool h.want) → ∀ u, a.tmps[h.slot]? = some u → Den w A β h.s u
  no : a.tmps[h.d]? ≠ some (.bool h.want) → a.tmps[h.slot]? = some undef
def HOK (w : World) (A : Nat → Prop) (β : List Nat) (N : Nat) (a : Act) (H : List Hd) : Prop := ∀ h ∈ H, HOK1 w A β N a h
def AsOK (a : Act) (As : List (Nat × Bool)) : Prop := ∀ p ∈ As, a.tmps[p.1]? = some (.bool p.2)

theorem findH_some : ∀ {H : List Hd} {t : Nat} {h : Hd}, findH H t = some h → h ∈ H ∧ h.slot = t
  | [], _, _, e => by cases e
  | x :: r, t, h, e => by
    unfold findH at e
    split at e
    · next hb =>
      obtain rfl := Option.some.inj e
      exact ⟨by simp, Nat.eq_of_beq_eq_true hb⟩
    · obtain ⟨h1, h2⟩ := findH_some e
      exact ⟨by simp [h1], h2⟩
theorem clo_ok (hH : HOK w A β N a H) : ∀ (n d : Nat) (want : Bool), a.tmps[d]? = some (.bool want) → AsOK a (clo H n d want)
  | 0, d, want, h => fun p hp => by
    simp [clo] at hp; subst hp; exact h
  | n + 1, d, want, h => fun p hp => by
    simp only [clo, List.mem_cons] at hp
    rcases hp with rfl | hp
    · exact h
    · split at hp
      · next h' hf =>
        obtain ⟨h1, h2⟩ := findH_some hf
        refine clo_ok hH n h'.d h'.want ?_ p hp
        rcases Classical.em (a.tmps[h'.d]? = some (.bool h'.want)) with e | e
        · exact e
        · have := (hH h' h1).no e
          rw [h2, h] at this
          cases this
      · cases hp
theorem bEq_eq {a b : Bool} (h : bEq a b = true) : a = b := by cases a <;> cases b <;> first | rfl | cases h
theorem inAs_ok {As : List (Nat × Bool)} (hA : AsOK a As) {d : Nat} {want : Bool} (h : inAs As d want = true) : a.tmps[d]? = some (.bool want) := by
  unfold inAs at h
  rw [List.any_eq_true] at h
  obtain ⟨p, hp, e⟩ := h
  rw [Bool.and_eq_true] at e
  have := hA p hp
  rw [Nat.eq_of_beq_eq_true e.1, bEq_eq e.2] at this
  exact this
theorem openF_ok (hF : FrOK w A β N F a.tmps) {As : List (Nat × Bool)} (hA : AsOK a As) : ∀ (H : List Hd), HOK w A β N a H → FrOK w A β N (openF As F H) a.tmps
  | [], _ => hF
  | h :: r, hH => by
    have ih := openF_ok hF hA r fun h' hh => hH h' (by simp [hh])
    unfold openF
    split
    · next hi => exact ih.tell (hH h (by simp)).lt ((hH h (by simp)).yes (inAs_ok hA hi))
    · exact ih
theorem hyps_ok (hF : FrOK w A β N F a.tmps) {p : Prop} : ∀ (As : List (Nat × Bool)), AsOK a As → hyps F As p → p
  | [], _, h => h
  | q :: r, hA, h => by
    have ih := hyps_ok hF (p := p) r fun x hx => hA x (by simp [hx])
    unfold hyps at h
    split at h
    · next b hb =>
      have h1 := hA q (by simp)
      have h2 := hF.den _ _ h1
      rw [hb] at h2
      have h3 : (q.2 : Bool) = b := by cases h2; rfl
      exact ih (h h3.symm)
    · exact ih h
theorem look_some (hF : FrOK w A β N F a.tmps) {d : Nat} {s : SV} (h : look F d = s) (hs : s ≠ .junk) : ∃ u, a.tmps[d]? = some u ∧ Den w A β s u := by
  rcases Nat.lt_or_ge d a.tmps.size with hd | hd
  · exact ⟨a.tmps[d], by simp [hd], by rw [← h]; exact hF.den d _ (by simp [hd])⟩
  · exact absurd (h.symm.trans (hF.out d (by rw [← hF.size]; exact hd))) hs
theorem AsOK.append {As Bs : List (Nat × Bool)} (h : AsOK a As) (k : AsOK a Bs) : AsOK a (As ++ Bs) := fun p hp => (List.mem_append.1 hp).elim (h p) (k p)

theorem op2_ok (hS : Sound P Gl Γ) (h : Ctx P w A β Gl N F M a) (hH : HOK w A β N a H) {q : Bool} {As : List (Nat × Bool)} (hA : AsOK a As) {o : Oper} {K : SV → Prop} (he : (evOp2 P Gl Γ q F M H As o.op).run K) : Op1OK P w A β a o q K := by
  have ho' : ∀ {As}, AsOK a As → Ctx P w A β Gl N (openF As F H) M a := fun hA => ⟨openF_ok h.frame hA H hH, h.globs, h.mem⟩
  unfold evOp2 at he
  split at he
  · next c x y ho =>
    unfold evPickH at he
    split at he
    · next d =>
      split at he
      · next b hb =>
        split at he
        · next p r hp hr =>
          obtain ⟨u, hu, hd⟩ := look_some (ho' hA).frame hb (by simp)
          obtain rfl := hd
          have ec : a.eval (.tmp d) = .bool b := by
            simp only [Act.eval, Array.getD_eq_getD_getElem?, hu]; rfl
          refine ⟨_, he, .inl ⟨.bool (bif b then p else r), fun w' _ => ?_, rfl⟩⟩
          cases b with
          | true =>
            have hA' := (clo_ok hH H.length d true hu).append hA
            have ex := asB_den hp ((ho' hA').opnd x)
            simp [execOp, ho, ec, asBool, ex]
          | false =>
            have hA' := (clo_ok hH H.length d false hu).append hA
            have ey := asB_den hr ((ho' hA').opnd y)
            simp [execOp, ho, ec, asBool, ey]
        · exact he.elim
      · obtain ⟨s, v, h1, h2, h3⟩ := pick_ok (ho' hA) ho he
        exact ⟨s, h3, .inl ⟨v, h1, h2⟩⟩
    · exact he.elim
  · exact op1_ok hS (ho' hA) he

/-- What a guard's look tells. -/
inductive GdOK (ops : Array Oper) (a : Act) (o : Oper) : Gd → Prop where
  | yes (h : Region.wanted o (yielded ops a.tmps) = true) : GdOK ops a o .yes
  | no (h : Region.wanted o (yielded ops a.tmps) = false) : GdOK ops a o .no
  | ask (d : Nat) (want : Bool) (h : Region.wanted o (yielded ops a.tmps) = true ↔ a.tmps[d]? = some (.bool want)) : GdOK ops a o (.ask d want)
  | bad : GdOK ops a o .bad
theorem guard_ok {ops : Array Oper} (hF : FrOK w A β N F a.tmps) (H : List Hd) (o : Oper) : GdOK ops a o (guardOf N ops.toList F H o) := by
  have get : ∀ (d : Nat), d < N → ∃ x, a.tmps[d]? = some x ∧ Den w A β (look F d) x := by
    intro d hd
    have : d < a.tmps.size := by rw [hF.size]; exact hd
    exact ⟨a.tmps[d], by simp [this], hF.den d _ (by simp [this])⟩
  have wanted : ∀ {j : Nat} {want : Bool} {oj : Oper} {d : Nat}, o.guard = some (j, want) → ops.toList[j]? = some oj → oj.dst = some d →
      (Region.wanted o (yielded ops a.tmps) = true ↔ a.tmps[d]? = some (.bool want)) := by
    intro j want oj d hg hj hd
    have hj' : ops[j]? = some oj := by simpa using hj
    simp only [Region.wanted, hg, yielded, hj', Option.bind_some, hd]
    cases hx : a.tmps[d]? with
    | none => simp
    | some x => cases x <;> simp
  have notw : ∀ {d : Nat} {want : Bool}, (Region.wanted o (yielded ops a.tmps) = true ↔ a.tmps[d]? = some (.bool want)) → ∀ {x : Value}, a.tmps[d]? = some x → x ≠ .bool want → Region.wanted o (yielded ops a.tmps) = false := by
    intro d want h x hx hne
    cases hw : Region.wanted o (yielded ops a.tmps) with
    | false => rfl
    | true => exact absurd (Option.some.inj (hx.symm.trans (h.1 hw))) hne
  unfold guardOf
  split
  · next hg => exact .yes (by simp [Region.wanted, hg])
  · next j want hg =>
    split
    · next oj hj =>
      split
      · next d hd =>
        have hw := wanted hg hj hd
        split
        · exact .ask d want hw
        · next b hlt _ hs =>
          obtain ⟨x, h1, h2⟩ := get d (Nat.le_of_ble_eq_true hlt)
          rw [hs] at h2
          obtain rfl := h2
          split
          · exact .yes (hw.2 h1)
          · exact .yes (hw.2 h1)
          · next g1 g2 =>
            refine .no (notw hw h1 ?_)
            cases b <;> cases want <;> first | (exact absurd rfl (g1 rfl)) | (exact absurd rfl (g2 rfl)) | simp
        · exact .ask d want hw
        · next l hlt _ hs =>
          obtain ⟨x, h1, h2⟩ := get d (Nat.le_of_ble_eq_true hlt)
          rw [hs] at h2
          obtain rfl := h2
          exact .no (notw hw h1 (by simp))
        · exact .bad
      · exact .bad
    · exact .bad

theorem freeH_ok {t : Nat} (h : freeH H (some t) = true) : ∀ x ∈ H, x.d ≠ t ∧ x.slot ≠ t := by
  intro x hx
  simp only [freeH, List.all_eq_true] at h
  have := h x hx
  simp only [Bool.and_eq_true, Bool.not_eq_true'] at this
  refine ⟨fun e => ?_, fun e => ?_⟩
  · have h1 := this.1; rw [e, Nat.beq_refl] at h1; cases h1
  · have h1 := this.2; rw [e, Nat.beq_refl] at h1; cases h1
theorem HOK.put (hH : HOK w A β N a H) {d : Option Tmp} (hf : freeH H d = true) (v : Value) : HOK w A β N (a.put d v) H := by
  cases d with
  | none => exact hH
  | some t =>
    intro x hx
    obtain ⟨h1, h2⟩ := freeH_ok hf x hx
    have e1 : (a.put (some t) v).tmps[x.d]? = a.tmps[x.d]? := by simp only [Act.put, Array.getElem?_setIfInBounds_ne (Ne.symm h1)]
    have e2 : (a.put (some t) v).tmps[x.slot]? = a.tmps[x.slot]? := by simp only [Act.put, Array.getElem?_setIfInBounds_ne (Ne.symm h2)]
    exact ⟨(hH x hx).lt, fun h => by rw [e2]; exact (hH x hx).yes (by rw [← e1]; exact h), fun h => by rw [e2]; exact (hH x hx).no (by rw [← e1]; exact h)⟩
theorem HOK.later (hH : HOK w A β N a H) {w' : World} {A' : Nat → Prop} {β' : List Nat} (hl : Later A w A' w') (hk : Keeps β β') : HOK w' A' β' N a H :=
  fun x hx => ⟨(hH x hx).lt, fun h u hu => ((hH x hx).yes h u hu).later hl hk, (hH x hx).no⟩
/-- Behind a guarded operation. -/
theorem HOK.cons (hH : HOK w A β N a H) {t d : Nat} {want : Bool} {s : SV} (hf : freeH H (some t) = true) (hN : a.tmps.size = N) (ht : t < N) (hd : d ≠ t) {v : Value}
    (h1 : a.tmps[d]? = some (.bool want) → Den w A β s v) (h2 : a.tmps[d]? ≠ some (.bool want) → v = undef) : HOK w A β N (a.put (some t) v) (⟨t, d, want, s⟩ :: H) := by
  intro x hx
  rcases List.mem_cons.1 hx with rfl | hx
  · have e1 : (a.put (some t) v).tmps[d]? = a.tmps[d]? := by simp only [Act.put, Array.getElem?_setIfInBounds_ne (Ne.symm hd)]
    have e2 : (a.put (some t) v).tmps[t]? = some v := by simp only [Act.put]; rw [Array.getElem?_setIfInBounds_self_of_lt (by rw [hN]; exact ht)]
    refine ⟨ht, fun h u hu => ?_, fun h => ?_⟩
    · simp only [e1] at h
      simp only [e2] at hu
      obtain rfl := Option.some.inj hu
      exact h1 h
    · simp only [e1] at h
      show (a.put (some t) v).tmps[t]? = _
      rw [e2, h2 h]
  · exact hH.put hf v x hx

/-- The state at a region's end. -/
def Done (P : Program) (w0 : World) (A0 : Nat → Prop) (Gl : Nat → SV) (N : Nat) (S : List Nat) (a0 : Act) (w1 : World) (A1 : Nat → Prop) (β1 : List Nat) (K : Fr → Mem → Prop) (a : Act) (w : World) : Prop :=
  ∃ A β F M, St P w0 A0 Gl N F M a w A β ∧ Grow w1 A1 β1 w A β ∧ Keep S a0 a ∧ K F M

theorem undef_den : Den w A β (.v undef) undef := rfl
theorem St.junk (h : St P w0 A0 Gl N F M a w A β) {t : Nat} (ht : t < N) (v : Value) : St P w0 A0 Gl N ((t, .junk) :: F) M (a.put (some t) v) w A β := by
  have := h.put (d := some t) (s := .junk) (v := v) trivial
  have e : putF N F (some t) .junk = (t, .junk) :: F := by
    have : Nat.blt t N = true := Nat.ble_eq_true_of_le ht
    simp only [putF, this]
  rwa [e] at this
theorem run_weaken {r : R} {K K' : SV → Prop} (h : r.run K) (hk : ∀ s, K s → K' s) : r.run K' := by
  cases r with
  | bad => exact h
  | ok s => exact hk s h
  | req p s => exact ⟨h.1, hk s h.2⟩

theorem evOps_ok (hS : Sound P Gl Γ) {ops : Array Oper} {Q : Exit → Act → World → Prop} {K : Fr → Mem → Prop} {S : List Nat} {a0 : Act} {w1 : World} {A1 : Nat → Prop} {β1 : List Nat}
    (hQ : ∀ a w, Done P w0 A0 Gl N S a0 w1 A1 β1 K a w → Q .normal a w) :
    ∀ (r : List Oper) (F : Fr) (M : Mem) (H : List Hd) (a : Act) (w : World) (A : Nat → Prop) (β : List Nat), (∀ o ∈ r, ∀ t, o.dst = some t → t ∈ S) → St P w0 A0 Gl N F M a w A β → HOK w A β N a H → Grow w1 A1 β1 w A β → Keep S a0 a →
      evOps P Gl Γ N false ops.toList K r F M H → wpList P ops Q r a w
  | [], F, M, H, a, w, A, β, _, h, _, hg, hk, he => hQ a w ⟨A, β, F, M, h, hg, hk, he⟩
  | o :: r, F, M, H, a, w, A, β, hd, h, hH, hg, hk, he => by
    have hdo : ∀ t, o.dst = some t → t ∈ S := hd o (by simp)
    have hdr : ∀ o ∈ r, ∀ t, o.dst = some t → t ∈ S := fun o ho => hd o (by simp [ho])
    -- an operation that is carried out, one way or the other
    have one : ∀ {q : Bool} {s : SV}, Op1OK P w A β a o q (fun s' => s' = s) → (∀ v w', Cw w w' → Below w.heap.size w w' → Den w' A β s v → wpList P ops Q r (a.put o.dst v) w') → o.wp P a w (wpList P ops Q r) Q := by
      intro q s hop hn
      obtain ⟨s', rfl, hop⟩ := hop
      unfold Oper.wp
      rcases hop with ⟨v, h1, h2⟩ | ⟨id, args, h1, _, h3⟩
      · rw [h1 w (Cw.refl w)]
        exact hn v w (Cw.refl w) (Below.refl _ _) h2
      · rw [h1 w]
        refine (h3 w (Cw.refl w)).mono ?_
        rintro e w' ⟨v, rfl, hv, hb⟩
        exact hn v w' (below_cw hb) hb hv
    have hgd := guard_ok (ops := ops) h.ctx.frame H o
    unfold evOps at he
    split at he
    · next hfree hgo =>
      rw [hgo] at hgd
      cases hgd with
      | yes hw =>
        unfold wpList
        rw [if_pos hw]
        refine .inl ?_
        split at he
        · have key : ∃ s, (evOp2 P Gl Γ false F M H [] o.op).run (fun s' => s' = s) ∧ evOps P Gl Γ N false ops.toList K r (putF N F o.dst s) M H := by
            cases hr : evOp2 P Gl Γ false F M H [] o.op with
            | bad => rw [hr] at he; exact he.elim
            | ok s => rw [hr] at he; exact ⟨s, rfl, he⟩
            | req p s => rw [hr] at he; exact ⟨s, ⟨he.1, rfl⟩, he.2⟩
          obtain ⟨s, hrun, hcont⟩ := key
          refine one (op2_ok hS h.ctx hH (fun p hp => by cases hp) hrun) ?_
          intro v w' hcw hb hden
          exact evOps_ok hS hQ r _ M H _ w' A β hdr ((h.later hb).put hden) ((hH.later hcw.later (Keeps.refl _)).put hfree v) (hg.trans (grow_below hb)) (hk.put hdo v) hcont
        · refine mem_ok h he ?_
          rintro v w' ⟨A', β', s, M', hst, hgr, hden, hK⟩
          exact evOps_ok hS hQ r _ M' H _ w' A' β' hdr (hst.put hden) ((hH.later hgr.later hgr.keeps).put hfree v) (hg.trans hgr) (hk.put hdo v) hK
    · next hfree hgo =>
      rw [hgo] at hgd
      cases hgd with
      | no hw =>
        unfold wpList
        rw [if_neg (by rw [hw]; exact Bool.false_ne_true)]
        exact evOps_ok hS hQ r _ M H _ w A β hdr (h.put undef_den) (hH.put hfree undef) hg (hk.put hdo undef) he
    · next d want hfree hgo =>
      rw [hgo] at hgd
      cases hgd with
      | ask _ _ hw =>
        have key : ∃ t s, o.dst = some t ∧ t < N ∧ d ≠ t ∧ (a.tmps[d]? = some (.bool want) → (evOp2 P Gl Γ true F M H (clo H H.length d want) o.op).run (fun s' => s' = s)) ∧
            evOps P Gl Γ N false ops.toList K r ((t, .junk) :: F) M (⟨t, d, want, s⟩ :: H) := by
          have chk : ∀ {t : Nat}, (Nat.blt t N && !Nat.beq d t) = true → t < N ∧ d ≠ t := by
            intro t ht
            rw [Bool.and_eq_true, Bool.not_eq_true'] at ht
            exact ⟨Nat.le_of_ble_eq_true ht.1, fun e => by rw [e, Nat.beq_refl] at ht; cases ht.2⟩
          split at he
          · next t s hdst hr =>
            split at he
            · next hc => exact ⟨t, s, hdst, (chk hc).1, (chk hc).2, fun _ => by rw [hr]; rfl, he⟩
            · exact he.elim
          · next t p s hdst hr =>
            split at he
            · next hc =>
              refine ⟨t, s, hdst, (chk hc).1, (chk hc).2, fun hdw => ?_, he.2⟩
              rw [hr]
              have hA := clo_ok hH H.length d want hdw
              exact ⟨hyps_ok (openF_ok h.ctx.frame hA H hH) _ hA he.1, rfl⟩
            · exact he.elim
          · exact he.elim
        obtain ⟨t, s, hdst, ht, hdt, hrun, hcont⟩ := key
        rw [hdst] at hfree
        by_cases hdw : a.tmps[d]? = some (.bool want)
        · unfold wpList
          rw [if_pos (hw.2 hdw)]
          refine .inl (one (op2_ok hS h.ctx hH (clo_ok hH H.length d want hdw) (hrun hdw)) ?_)
          intro v w' hcw hb hden
          have hst := (h.later hb).junk ht v
          have hHO := (hH.later hcw.later (Keeps.refl β)).cons (t := t) (d := d) (want := want) (s := s) hfree h.ctx.frame.size ht hdt (v := v) (fun _ => hden) (fun hn => absurd hdw hn)
          have hkp := hk.put hdo v
          rw [hdst] at hkp ⊢
          exact evOps_ok hS hQ r _ M _ _ w' A β hdr hst hHO (hg.trans (grow_below hb)) hkp hcont
        · have hwf : Region.wanted o (yielded ops a.tmps) = false := by
            cases hx : Region.wanted o (yielded ops a.tmps) with
            | false => rfl
            | true => exact absurd (hw.1 hx) hdw
          unfold wpList
          rw [if_neg (by rw [hwf]; exact Bool.false_ne_true)]
          have hst := h.junk ht undef
          have hHO := hH.cons (t := t) (d := d) (want := want) (s := s) hfree h.ctx.frame.size ht hdt (v := undef) (fun hn => absurd hn hdw) (fun _ => rfl)
          have hkp := hk.put hdo undef
          rw [hdst] at hkp ⊢
          exact evOps_ok hS hQ r _ M _ _ w A β hdr hst hHO hg hkp hcont
    · exact he.elim

/-! ### a region that draws its order -/
theorem evOpsQ_ok (hS : Sound P Gl Γ) {ops : Array Oper} {K : Fr → Mem → Prop} {S : List Nat} {a0 : Act} {Q' : Act → Prop} {A : Nat → Prop} {β : List Nat}
    (hQ : ∀ a F M, St P w0 A0 Gl N F M a w A β → Keep S a0 a → K F M → Q' a) :
    ∀ (r : List Oper) (F : Fr) (M : Mem) (H : List Hd) (a : Act), (∀ o ∈ r, ∀ t, o.dst = some t → t ∈ S) → St P w0 A0 Gl N F M a w A β → HOK w A β N a H → Keep S a0 a →
      evOps P Gl Γ N true ops.toList K r F M H → wpQuiet P ops (fun w' => Below w.heap.size w w') Q' r a
  | [], F, M, H, a, _, h, _, hk, he => hQ a F M h hk he
  | o :: r, F, M, H, a, hd, h, hH, hk, he => by
    have hdo : ∀ t, o.dst = some t → t ∈ S := hd o (by simp)
    have hdr : ∀ o ∈ r, ∀ t, o.dst = some t → t ∈ S := fun o ho => hd o (by simp [ho])
    have one : ∀ {s : SV}, Op1OK P w A β a o true (fun s' => s' = s) → ∃ v, (∀ w', Below w.heap.size w w' → o.quietAt P a (fun w' => Below w.heap.size w w') w' v) ∧ Den w A β s v := by
      intro s hop
      obtain ⟨s', rfl, hop⟩ := hop
      rcases hop with ⟨v, h1, h2⟩ | ⟨id, args, h1, h2, h3⟩
      · refine ⟨v, fun w' hb => ?_, h2⟩
        unfold Oper.quietAt
        rw [h1 w' (below_cw hb)]
        exact ⟨rfl, rfl⟩
      · obtain ⟨v, hv⟩ := h2 rfl
        refine ⟨v, fun w' hb => ?_, exactV_back hv⟩
        unfold Oper.quietAt
        rw [h1 w']
        refine ⟨rfl, (h3 w' (below_cw hb)).mono ?_⟩
        rintro e w'' ⟨v', rfl, hr, hb'⟩
        obtain rfl := exactV_den hv hr
        exact ⟨rfl, hb.trans (hb'.mono hb.size)⟩
    have hgd := guard_ok (ops := ops) h.ctx.frame H o
    unfold evOps at he
    split at he
    · next hfree hgo =>
      rw [hgo] at hgd
      cases hgd with
      | yes hw =>
        unfold wpQuiet
        rw [if_pos hw]
        simp only [Bool.true_or] at he
        have key : ∃ s, (evOp2 P Gl Γ true F M H [] o.op).run (fun s' => s' = s) ∧ evOps P Gl Γ N true ops.toList K r (putF N F o.dst s) M H := by
          cases hr : evOp2 P Gl Γ true F M H [] o.op with
          | bad => rw [hr] at he; exact he.elim
          | ok s => rw [hr] at he; exact ⟨s, rfl, he⟩
          | req p s => rw [hr] at he; exact ⟨s, ⟨he.1, rfl⟩, he.2⟩
        obtain ⟨s, hrun, hcont⟩ := key
        obtain ⟨v, h1, h2⟩ := one (op2_ok hS h.ctx hH (fun p hp => by cases hp) hrun)
        exact ⟨v, h1, evOpsQ_ok hS hQ r _ M H _ hdr (h.put h2) (hH.put hfree v) (hk.put hdo v) hcont⟩
    · next hfree hgo =>
      rw [hgo] at hgd
      cases hgd with
      | no hw =>
        unfold wpQuiet
        rw [if_neg (by rw [hw]; exact Bool.false_ne_true)]
        exact evOpsQ_ok hS hQ r _ M H _ hdr (h.put undef_den) (hH.put hfree undef) (hk.put hdo undef) he
    · next d want hfree hgo =>
      rw [hgo] at hgd
      cases hgd with
      | ask _ _ hw =>
        have key : ∃ t s, o.dst = some t ∧ t < N ∧ d ≠ t ∧ (a.tmps[d]? = some (.bool want) → (evOp2 P Gl Γ true F M H (clo H H.length d want) o.op).run (fun s' => s' = s)) ∧
            evOps P Gl Γ N true ops.toList K r ((t, .junk) :: F) M (⟨t, d, want, s⟩ :: H) := by
          have chk : ∀ {t : Nat}, (Nat.blt t N && !Nat.beq d t) = true → t < N ∧ d ≠ t := by
            intro t ht
            rw [Bool.and_eq_true, Bool.not_eq_true'] at ht
            exact ⟨Nat.le_of_ble_eq_true ht.1, fun e => by rw [e, Nat.beq_refl] at ht; cases ht.2⟩
          split at he
          · next t s hdst hr =>
            split at he
            · next hc => exact ⟨t, s, hdst, (chk hc).1, (chk hc).2, fun _ => by rw [hr]; rfl, he⟩
            · exact he.elim
          · next t p s hdst hr =>
            split at he
            · next hc =>
              refine ⟨t, s, hdst, (chk hc).1, (chk hc).2, fun hdw => ?_, he.2⟩
              rw [hr]
              have hA := clo_ok hH H.length d want hdw
              exact ⟨hyps_ok (openF_ok h.ctx.frame hA H hH) _ hA he.1, rfl⟩
            · exact he.elim
          · exact he.elim
        obtain ⟨t, s, hdst, ht, hdt, hrun, hcont⟩ := key
        rw [hdst] at hfree
        by_cases hdw : a.tmps[d]? = some (.bool want)
        · unfold wpQuiet
          rw [if_pos (hw.2 hdw)]
          obtain ⟨v, h1, h2⟩ := one (op2_ok hS h.ctx hH (clo_ok hH H.length d want hdw) (hrun hdw))
          refine ⟨v, h1, ?_⟩
          have hst := h.junk ht v
          have hHO := hH.cons (t := t) (d := d) (want := want) (s := s) hfree h.ctx.frame.size ht hdt (v := v) (fun _ => h2) (fun hn => absurd hdw hn)
          have hkp := hk.put hdo v
          rw [hdst] at hkp ⊢
          exact evOpsQ_ok hS hQ r _ M _ _ hdr hst hHO hkp hcont
        · have hwf : Region.wanted o (yielded ops a.tmps) = false := by
            cases hx : Region.wanted o (yielded ops a.tmps) with
            | false => rfl
            | true => exact absurd (hw.1 hx) hdw
          unfold wpQuiet
          rw [if_neg (by rw [hwf]; exact Bool.false_ne_true)]
          have hst := h.junk ht undef
          have hHO := hH.cons (t := t) (d := d) (want := want) (s := s) hfree h.ctx.frame.size ht hdt (v := undef) (fun hn => absurd hn hdw) (fun _ => rfl)
          have hkp := hk.put hdo undef
          rw [hdst] at hkp ⊢
          exact evOpsQ_ok hS hQ r _ M _ _ hdr hst hHO hkp hcont
    · exact he.elim
end
end Go.Ev
