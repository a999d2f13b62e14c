/-
  Ev, part 7: the frame's own blocks; calls; whole regions.
-/
import Derived.Test.YtfmaeiilbhpepaaDoorEv6
set_option linter.unusedVariables false
set_option linter.unusedSimpArgs false
namespace Go.Ev
open Go.RowKit

abbrev Table := Nat → List SV → Option (Prop × SV)
/-- What a function gives that only reads old memory: at these arguments, that result. -/
def PureFn (P : Program) (Gl : Nat → SV) (f : Nat) (args : List SV) (res : SV) : Prop :=
  ∀ (w : World) (A : Nat → Prop) (vs : Array Value), (∀ g, Den w A [] (Gl g) (.pointer (some ⟨g, 0, none⟩))) → (∀ b, A b → b < w.heap.size) → DenL w A [] args vs.toList →
    Calls P f vs w fun e w' => ∃ v, e = .returned v ∧ Den w' A [] res v ∧ Below w.heap.size w w'
structure Sound (P : Program) (Gl : Nat → SV) (Γ : Table) : Prop where
  call : ∀ f args pre res, Γ f args = some (pre, res) → ∀ (l : Array Value) (w : World), (callFunc f l).run P w = .ok (.enter f l) w
  fn : ∀ f args pre res, Γ f args = some (pre, res) → pre → PureFn P Gl f args res

def oneSV : SV → Bool
  | .v (.agg _) | .v (.tuple _) | .junk | .ag _ _ | .tp _ _ => false
  | _ => true
def zeroCells (P : Program) (T : TypeId) : Option (List SV) :=
  match P.info? T with
  | some i => match i.zero with | some z => some (z.cells.toList.map .v) | none => none
  | none => none
def evBox (s : SV) (M : Mem) (K : SV → Mem → Prop) : Prop :=
  match cellsSV s with
  | some cs => K (.lp M.length 0) (M ++ [cs])
  | none => False
def evAlloc (P : Program) (T : TypeId) (M : Mem) (K : SV → Mem → Prop) : Prop :=
  match zeroCells P T with
  | some cs => K (.lp M.length 0) (M ++ [cs])
  | none => False
def evStore (P : Program) (T : TypeId) (ad s : SV) (M : Mem) (K : SV → Mem → Prop) : Prop :=
  match ad, cellsSV s, P.info? T with
  | .lp k off, some cs, some i =>
    match M[k]? with
    | some old =>
      match Nat.beq cs.length i.size, Nat.ble (off + cs.length) old.length, cs.all oneSV with
      | true, true, true => K .junk (M.set k (setMany old off cs))
      | _, _, _ => False
    | none => False
  | _, _, _ => False
/-- A call. 'q': in a region that draws its order, or under a guard: the result must be one value. -/
def evCall (Γ : Table) (M : Mem) (q : Bool) (f : SV) (args : List SV) : R :=
  match f with
  | .fn id n caps =>
    match prepL M (args ++ (List.range n).map caps) with
    | some as =>
      match Γ id as with
      | some (pre, res) =>
        match q || (args ++ (List.range n).map caps).any isLp, exactV res with
        | false, _ => .req pre res
        | true, some _ => .req pre res
        | true, none => .bad
      | none => .bad
    | none => .bad
  | _ => .bad

/-- Operations that make no memory of the frame's own. -/
def evOp1 (P : Program) (Gl : Nat → SV) (Γ : Table) (q : Bool) (F : Fr) (M : Mem) (op : Op) : R :=
  match op with
  | .call { callee := .value f, args := args, argTypes := _ } => evCall Γ M q (opnd Gl F f) (args.toList.map (opnd Gl F))
  | op => evP P Gl F M op
def evMem (P : Program) (Gl : Nat → SV) (F : Fr) (M : Mem) (op : Op) (K : SV → Mem → Prop) : Prop :=
  match op with
  | .box _ x => evBox (opnd Gl F x) M K
  | .alloc T => evAlloc P T M K
  | .store T x y => evStore P T (opnd Gl F x) (opnd Gl F y) M K
  | _ => False
def isMem : Op → Bool
  | .box _ _ | .alloc _ | .store _ _ _ => true
  | _ => false

/-! ### guards -/
/-- Slot 'slot' holds 's' if slot 'd' holds 'want'; else nothing. -/
structure Hd where
  slot : Nat
  d : Nat
  want : Bool
  s : SV
def bEq : Bool → Bool → Bool
  | true, true | false, false => true
  | _, _ => false
def findH : List Hd → Nat → Option Hd
  | [], _ => none
  | h :: r, t => match Nat.beq h.slot t with | true => some h | false => findH r t
/-- What else holds where slot 'd' holds 'want'. -/
def clo (H : List Hd) : Nat → Nat → Bool → List (Nat × Bool)
  | 0, d, want => [(d, want)]
  | n + 1, d, want => (d, want) :: match findH H d with | some h => clo H n h.d h.want | none => []
def inAs (As : List (Nat × Bool)) (d : Nat) (want : Bool) : Bool := As.any fun p => Nat.beq p.1 d && bEq p.2 want
/-- The frame under assumptions. -/
def openF (As : List (Nat × Bool)) (F : Fr) : List Hd → Fr
  | [] => F
  | h :: r => match inAs As h.d h.want with | true => (h.slot, h.s) :: openF As F r | false => openF As F r
def hyps (F : Fr) : List (Nat × Bool) → Prop → Prop
  | [], p => p
  | (d, want) :: r, p => match look F d with | .v (.bool b) => b = want → hyps F r p | _ => hyps F r p
def freeH (H : List Hd) (d : Option Nat) : Bool :=
  match d with
  | none => true
  | some d => H.all fun h => !Nat.beq h.d d && !Nat.beq h.slot d
inductive Gd where
  | yes | no | bad
  | ask (d : Nat) (want : Bool)
def guardOf (N : Nat) (ops : List Oper) (F : Fr) (H : List Hd) (o : Oper) : Gd :=
  match o.guard with
  | none => .yes
  | some (j, want) =>
    match ops[j]? with
    | some oj =>
      match oj.dst with
      | some d =>
        match Nat.blt d N, findH H d, look F d with
        | true, some _, _ => .ask d want
        | true, none, .bl b => match b, want with | true, true => .yes | false, false => .yes | _, _ => .no
        | true, none, .v (.bool _) => .ask d want
        | true, none, .v (.tuple _) => .no
        | _, _, _ => .bad
      | none => .bad
    | none => .bad
/-- A pick under a test that is not decided: each side under its own assumption. -/
def evPickH (Gl : Nat → SV) (H : List Hd) (As : List (Nat × Bool)) (F : Fr) (c x y : Operand) : R :=
  match c with
  | .tmp d =>
    match look (openF As F H) d with
    | .v (.bool b) =>
      match asB (opnd Gl (openF (clo H H.length d true ++ As) F H) x), asB (opnd Gl (openF (clo H H.length d false ++ As) F H) y) with
      | some p, some q => .ok (.v (.bool (bif b then p else q)))
      | _, _ => .bad
    | s => evPick s (opnd Gl (openF As F H) x) (opnd Gl (openF As F H) y)
  | _ => .bad
def evOp2 (P : Program) (Gl : Nat → SV) (Γ : Table) (q : Bool) (F : Fr) (M : Mem) (H : List Hd) (As : List (Nat × Bool)) (op : Op) : R :=
  match op with
  | .pick c x y => evPickH Gl H As F c x y
  | op => evOp1 P Gl Γ q (openF As F H) M op
def evOps (P : Program) (Gl : Nat → SV) (Γ : Table) (N : Nat) (q : Bool) (ops : List Oper) (K : Fr → Mem → Prop) : List Oper → Fr → Mem → List Hd → Prop
  | [], F, M, _ => K F M
  | o :: r, F, M, H =>
    match freeH H o.dst, guardOf N ops F H o with
    | true, .yes =>
      match q || !isMem o.op with
      | true => (evOp2 P Gl Γ q F M H [] o.op).run fun s => evOps P Gl Γ N q ops K r (putF N F o.dst s) M H
      | false => evMem P Gl F M o.op fun s M' => evOps P Gl Γ N q ops K r (putF N F o.dst s) M' H
    | true, .no => evOps P Gl Γ N q ops K r (putF N F o.dst (.v undef)) M H
    | true, .ask d want =>
      match o.dst, evOp2 P Gl Γ true F M H (clo H H.length d want) o.op with
      | some t, .ok s => match Nat.blt t N && !Nat.beq d t with | true => evOps P Gl Γ N q ops K r ((t, .junk) :: F) M (⟨t, d, want, s⟩ :: H) | false => False
      | some t, .req p s => match Nat.blt t N && !Nat.beq d t with | true => hyps (openF (clo H H.length d want) F H) (clo H H.length d want) p ∧ evOps P Gl Γ N q ops K r ((t, .junk) :: F) M (⟨t, d, want, s⟩ :: H) | false => False
      | _, _ => False
    | _, _ => False

/-- What only grows: the own blocks, and what is somebody's own; the rest reads as it did. -/
structure Grow (w : World) (A : Nat → Prop) (β : List Nat) (w' : World) (A' : Nat → Prop) (β' : List Nat) : Prop where
  later : Later A w A' w'
  keeps : Keeps β β'
  size : w.heap.size ≤ w'.heap.size
theorem Grow.refl (w : World) (A : Nat → Prop) (β : List Nat) : Grow w A β w A β := ⟨⟨fun _ _ _ => rfl, fun _ _ h => h⟩, Keeps.refl _, Nat.le_refl _⟩
theorem Grow.trans {w w' w'' : World} {A A' A'' : Nat → Prop} {β β' β'' : List Nat} (h : Grow w A β w' A' β') (k : Grow w' A' β' w'' A'' β'') : Grow w A β w'' A'' β'' :=
  ⟨⟨fun b hb hf => (k.later.same b (Nat.lt_of_lt_of_le hb h.size) (h.later.free b hb hf)).trans (h.later.same b hb hf), fun b hb hf => k.later.free b (Nat.lt_of_lt_of_le hb h.size) (h.later.free b hb hf)⟩,
    fun i b hb => k.keeps i b (h.keeps i b hb), Nat.le_trans h.size k.size⟩
/-! ### the whole state -/
/-- 'w0', 'A0': the world and what was somebody's own when the call began. -/
structure St (P : Program) (w0 : World) (A0 : Nat → Prop) (Gl : Nat → SV) (N : Nat) (F : Fr) (M : Mem) (a : Act) (w : World) (A : Nat → Prop) (β : List Nat) : Prop where
  ctx : Ctx P w A β Gl N F M a
  below : Below w0.heap.size w0 w
  old : ∀ b, A0 b → A b
  new : ∀ b ∈ β, w0.heap.size ≤ b
  low0 : ∀ b, A0 b → b < w0.heap.size
  defers : a.defers = []
section
variable {P : Program} {w0 w : World} {A0 A : Nat → Prop} {β : List Nat} {Gl : Nat → SV} {Γ : Table} {N : Nat} {F : Fr} {M : Mem} {a : Act}

theorem Ctx.later (h : Ctx P w A β Gl N F M a) {w' : World} (hw : Cw w w') : Ctx P w' A β Gl N F M a where
  frame := h.frame.later hw.later (Keeps.refl _)
  globs := fun g => (h.globs g).later hw.later (Keeps.refl _)
  mem := {
    len := h.mem.len
    nodup := h.mem.nodup
    own := h.mem.own
    low := fun b hb => Nat.lt_of_lt_of_le (h.mem.low b hb) hw.1
    cell := fun k b cs hb hM => by
      obtain ⟨c, T, hc, hd⟩ := h.mem.cell k b cs hb hM
      exact ⟨c, T, by rw [hw.2 b (h.mem.low b (h.mem.own b (List.mem_of_getElem? hb)))]; exact hc, hd.later hw.later (Keeps.refl _)⟩ }
theorem below_cw {w w' : World} (h : Below w.heap.size w w') : Cw w w' := ⟨h.size, h.block⟩
theorem Ctx.put (h : Ctx P w A β Gl N F M a) {d : Option Tmp} {s : SV} {v : Value} (hd : Den w A β s v) : Ctx P w A β Gl N (putF N F d s) M (a.put d v) where
  frame := by
    cases d with
    | none => exact h.frame
    | some d => exact h.frame.put hd
  globs := h.globs
  mem := h.mem
theorem Act.put_defers (a : Act) (d : Option Tmp) (v : Value) : (a.put d v).defers = a.defers := by cases d <;> rfl
theorem St.put (h : St P w0 A0 Gl N F M a w A β) {d : Option Tmp} {s : SV} {v : Value} (hd : Den w A β s v) : St P w0 A0 Gl N (putF N F d s) M (a.put d v) w A β :=
  { h with ctx := h.ctx.put hd, defers := by rw [Act.put_defers]; exact h.defers }
theorem St.later (h : St P w0 A0 Gl N F M a w A β) {w' : World} (hw : Below w.heap.size w w') : St P w0 A0 Gl N F M a w' A β :=
  { h with ctx := h.ctx.later (below_cw hw), below := h.below.trans (hw.mono h.below.size) }
/-- What is known of a slot may be told better. -/
theorem St.tell (h : St P w0 A0 Gl N F M a w A β) {d : Nat} {s : SV} (hlt : d < N) (hs : ∀ u, a.tmps[d]? = some u → Den w A β s u) : St P w0 A0 Gl N ((d, s) :: F) M a w A β :=
  { h with ctx := ⟨h.ctx.frame.tell hlt hs, h.ctx.globs, h.ctx.mem⟩ }

/-- A new block of the frame's own. -/
theorem St.alloc (h : St P w0 A0 Gl N F M a w A β) {cs : List SV} {c : Array Value} {T : TypeId} (hc : DenL w A β cs c.toList) :
    St P w0 A0 Gl N F (M ++ [cs]) a (w.alloc (.cells c T)) (fun b => A b ∨ b = w.heap.size) (β ++ [w.heap.size]) ∧
      Den (w.alloc (.cells c T)) (fun b => A b ∨ b = w.heap.size) (β ++ [w.heap.size]) (.lp M.length 0) (.pointer (some ⟨w.heap.size, 0, none⟩)) := by
  have hlat : Later A w (fun b => A b ∨ b = w.heap.size) (w.alloc (.cells c T)) := ⟨fun b hb _ => Below.heap_alloc _ _ _ hb, fun b hb hf hn => hn.elim hf (fun e => by omega)⟩
  have hk : Keeps β (β ++ [w.heap.size]) := Keeps.append _ _
  refine ⟨⟨⟨h.ctx.frame.later hlat hk, fun g => (h.ctx.globs g).later hlat (Keeps.refl _), ⟨?_, ?_, ?_, ?_, ?_⟩⟩, h.below.alloc h.below.size _, fun b hb => .inl (h.old b hb), ?_, h.low0, h.defers⟩, ?_⟩
  · simp [h.ctx.mem.len]
  · rw [List.nodup_append]
    refine ⟨h.ctx.mem.nodup, by simp, fun x hx y hy e => ?_⟩
    simp at hy
    subst hy; subst e
    exact absurd (h.ctx.mem.low _ (h.ctx.mem.own _ hx)) (Nat.lt_irrefl _)
  · intro b hb
    rcases List.mem_append.1 hb with hb | hb
    · exact .inl (h.ctx.mem.own b hb)
    · exact .inr (by simpa using hb)
  · rintro b (hb | rfl)
    · have := h.ctx.mem.low b hb; simp; omega
    · simp
  · intro k b cs' hb hM
    by_cases hkl : k < M.length
    · rw [List.getElem?_append_left (by rw [h.ctx.mem.len]; exact hkl)] at hb
      rw [List.getElem?_append_left hkl] at hM
      obtain ⟨c', T', hc', hd'⟩ := h.ctx.mem.cell k b cs' hb hM
      exact ⟨c', T', by rw [Below.heap_alloc _ _ _ (h.ctx.mem.low b (h.ctx.mem.own b (List.mem_of_getElem? hb)))]; exact hc', hd'.later hlat hk⟩
    · have hke : k = M.length := by
        have := (List.getElem?_eq_some_iff.1 hM).1
        simp at this; omega
      subst hke
      rw [List.getElem?_append_right (by rw [h.ctx.mem.len]; exact Nat.le_refl _), h.ctx.mem.len] at hb
      rw [List.getElem?_append_right (Nat.le_refl _)] at hM
      simp at hb hM
      subst hb; subst hM
      exact ⟨c, T, by show (w.heap.push _)[w.heap.size]? = _; simp, hc.later hlat hk⟩
  · intro b hb
    rcases List.mem_append.1 hb with hb | hb
    · exact h.new b hb
    · simp at hb; subst hb; exact h.below.size
  · exact ⟨w.heap.size, by rw [← h.ctx.mem.len]; simp, rfl⟩

theorem oneSV_one {s : SV} {u : Value} (h : oneSV s = true) (hd : Den w A β s u) : u.oneCell' = true := by
  cases s with
  | junk => cases h
  | v x => obtain rfl := hd; cases u <;> first | rfl | cases h
  | bl b => obtain rfl := hd; rfl
  | lp k off => obtain ⟨_, _, rfl⟩ := hd; rfl
  | pt n f => obtain ⟨_, rfl, _⟩ := hd; rfl
  | sl sz n f => obtain ⟨_, _, rfl, _⟩ := hd; rfl
  | ag n f => cases h
  | tp n f => cases h
  | fn id n f => obtain ⟨_, rfl, _⟩ := hd; rfl
  | ic t s => obtain ⟨_, rfl, _⟩ := hd; rfl
  | er t tf e at_ => rcases hd with ⟨_, _, rfl⟩ | ⟨_, _, rfl⟩ | ⟨_, _, _, rfl, _⟩ <;> rfl
theorem oneSV_all : ∀ {cs : List SV} {us : List Value}, cs.all oneSV = true → DenL w A β cs us → ∀ u ∈ us, u.oneCell' = true
  | [], [], _, _, u, hu => by cases hu
  | s :: r, x :: t, h, ⟨h1, h2⟩, u, hu => by
    simp only [List.all_cons, Bool.and_eq_true] at h
    rcases List.mem_cons.1 hu with rfl | hu
    · exact oneSV_one h.1 h1
    · exact oneSV_all h.2 h2 u hu
  | [], _ :: _, _, hd, _, _ => hd.elim
  | _ :: _, [], _, hd, _, _ => hd.elim
theorem setMany_len : ∀ (cs : List SV) (off : Nat) (l : List SV), (setMany l off cs).length = l.length
  | [], _, _ => rfl
  | c :: r, off, l => by rw [setMany, setMany_len]; simp
theorem foldl_set : ∀ (us : List Value) (off : Nat) (c : Array Value), off + us.length ≤ c.size →
    ((us.zipIdx off).foldl (fun (m : Array Value) (p : Value × Nat) => m.setIfInBounds p.2 p.1) c).toList = c.toList.take off ++ us ++ c.toList.drop (off + us.length)
  | [], off, c, _ => by simp
  | v :: t, off, c, h => by
    simp only [List.length_cons] at h
    simp only [List.zipIdx_cons, List.foldl_cons]
    rw [foldl_set t (off + 1) _ (by simp; omega), Array.toList_setIfInBounds, List.set_eq_take_append_cons_drop, if_pos (by simp; omega)]
    have h1 : (c.toList.take off).length = off := by simp; omega
    have e1 : (c.toList.take off ++ v :: c.toList.drop (off + 1)).take (off + 1) = c.toList.take off ++ [v] := by
      rw [List.take_append, h1]
      simp [List.take_of_length_le, h1]
    have e2 : (c.toList.take off ++ v :: c.toList.drop (off + 1)).drop (off + 1 + t.length) = c.toList.drop (off + (t.length + 1)) := by
      rw [List.drop_append, h1, List.drop_of_length_le (by omega), show off + 1 + t.length - off = t.length + 1 by omega]
      simp only [List.nil_append, List.drop_succ_cons, List.drop_drop]
      congr 1
      omega
    rw [e1, e2]
    simp
/-- A store into an own block. -/
theorem St.store (h : St P w0 A0 Gl N F M a w A β) {k off : Nat} {b : Nat} {old cs : List SV} {us : List Value} (hb : β[k]? = some b) (hM : M[k]? = some old) (hlen : off + cs.length ≤ old.length) (hone : cs.all oneSV = true) (hcs : DenL w A β cs us) :
    ∃ w', (storeCells ⟨b, off, none⟩ us).run P w = .ok () w' ∧ St P w0 A0 Gl N F (M.set k (setMany old off cs)) a w' A β ∧ Grow w A β w' A β := by
  obtain ⟨c, T, hc, hd⟩ := h.ctx.mem.cell k b old hb hM
  have hl1 := hd.len
  have hl2 := hcs.len
  simp at hl1
  have hbA := h.ctx.mem.own b (List.mem_of_getElem? hb)
  have hrun := run_storeCells_at (P := P) b off T us 0 c w hc (by omega) (oneSV_all hone hcs)
  refine ⟨_, hrun, ?_⟩
  generalize hcw : (c.toList.take (off + 0) ++ us ++ c.toList.drop (off + 0 + us.length)).toArray = c'
  have hlat : Later A w A (w.setRow b c') := ⟨fun x _ hf => setRow_other w b x c' (fun e => hf (e ▸ hbA)), fun _ _ hf => hf⟩
  have hc'd : DenL w A β (setMany old off cs) c'.toList := by
    have := setMany_den cs us hcs off old c hd
    have e : ((us.zipIdx off).foldl (fun (m : Array Value) (p : Value × Nat) => m.setIfInBounds p.2 p.1) c).toList = c'.toList := by
      subst hcw
      rw [foldl_set us off c (by omega)]
      simp
    rwa [e] at this
  refine ⟨?_, hlat, Keeps.refl _, by simp⟩
  refine ⟨⟨h.ctx.frame.later hlat (Keeps.refl _), fun g => (h.ctx.globs g).later hlat (Keeps.refl _), ⟨by simp [h.ctx.mem.len], h.ctx.mem.nodup, h.ctx.mem.own, fun x hx => by simpa using h.ctx.mem.low x hx, ?_⟩⟩, ?_, h.old, h.new, h.low0, h.defers⟩
  · intro k' b' cs' hb' hM'
    by_cases hkk : k = k'
    · subst hkk
      obtain rfl := Option.some.inj (hb.symm.trans hb')
      rw [List.getElem?_set_self (List.getElem?_eq_some_iff.1 hM).1] at hM'
      obtain rfl := Option.some.inj hM'
      exact ⟨c', T, setRow_heap w b c c' T (0, 0) hc, hc'd.later hlat (Keeps.refl _)⟩
    · rw [List.getElem?_set_ne hkk] at hM'
      obtain ⟨c2, T2, h1, h2⟩ := h.ctx.mem.cell k' b' cs' hb' hM'
      refine ⟨c2, T2, ?_, h2.later hlat (Keeps.refl _)⟩
      rw [setRow_other]
      · exact h1
      · intro e
        subst e
        have e1 := List.getElem?_eq_some_iff.1 hb
        have e2 := List.getElem?_eq_some_iff.1 hb'
        exact hkk ((List.getElem_inj h.ctx.mem.nodup).1 (e1.2.trans e2.2.symm))
  · exact below_setRow h.below (h.new b (List.mem_of_getElem? hb)) c'
end
end Go.Ev
