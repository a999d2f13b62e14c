/-
  Ev, part 8: operations and regions are sound.
-/
import Derived.Test.YtfmaeiilbhpepaaDoorEv7
set_option linter.unusedVariables false
set_option linter.unusedSimpArgs false
namespace Go.Ev
open Go.RowKit

def Keep (S : List Nat) (a a' : Act) : Prop := a'.tmps.size = a.tmps.size ∧ ∀ i, i ∉ S → a'.tmps[i]? = a.tmps[i]?
theorem Keep.refl (S : List Nat) (a : Act) : Keep S a a := ⟨rfl, fun _ _ => rfl⟩
theorem Keep.trans {S : List Nat} {a b c : Act} (h : Keep S a b) (k : Keep S b c) : Keep S a c := ⟨k.1.trans h.1, fun i hi => (k.2 i hi).trans (h.2 i hi)⟩
theorem Keep.put {S : List Nat} {a b : Act} (h : Keep S a b) {d : Option Tmp} (hd : ∀ t, d = some t → t ∈ S) (v : Value) : Keep S a (b.put d v) := by
  cases d with
  | none => exact h
  | some t =>
    refine ⟨by simpa [Act.put] using h.1, fun i hi => ?_⟩
    have : t ≠ i := fun e => hi (e ▸ hd t rfl)
    simp only [Act.put, Array.getElem?_setIfInBounds_ne this]
    exact h.2 i hi
theorem Keep.mono {S S' : List Nat} {a b : Act} (h : Keep S a b) (hs : ∀ i ∈ S, i ∈ S') : Keep S' a b := ⟨h.1, fun i hi => h.2 i (fun hn => hi (hs i hn))⟩

section
variable {P : Program} {w0 w : World} {A0 A : Nat → Prop} {β : List Nat} {Gl : Nat → SV} {Γ : Table} {N : Nat} {F : Fr} {M : Mem} {a : Act}

theorem grow_below {w' : World} (h : Below w.heap.size w w') : Grow w A β w' A β := ⟨(below_cw h).later, Keeps.refl _, h.size⟩
theorem grow_alloc (o : Obj) (b : Nat) : Grow w A β (w.alloc o) (fun b => A b ∨ b = w.heap.size) (β ++ [b]) :=
  ⟨⟨fun b hb _ => Below.heap_alloc _ _ _ hb, fun b hb hf hn => hn.elim hf (fun e => by omega)⟩, Keeps.append _ _, by simp⟩

/-- What a sound rule for an operation in its turn gives. -/
def OpOK (P : Program) (w0 : World) (A0 : Nat → Prop) (Gl : Nat → SV) (N : Nat) (F : Fr) (a : Act) (w : World) (A : Nat → Prop) (β : List Nat) (K : SV → Mem → Prop) (v : Value) (w' : World) : Prop :=
  ∃ A' β' s M', St P w0 A0 Gl N F M' a w' A' β' ∧ Grow w A β w' A' β' ∧ Den w' A' β' s v ∧ K s M'

theorem argsOf (h : Ctx P w A β Gl N F M a) (args : Array Operand) : DenL w A β (args.toList.map (opnd Gl F)) (args.map a.eval).toList := by
  rw [Array.toList_map]
  induction args.toList with
  | nil => trivial
  | cons x r ih => exact ⟨h.opnd x, ih⟩
theorem capsOf {n : Nat} {caps : Nat → SV} {cs : Array Value} (hn : cs.size = n) (hj : ∀ j, j < n → ∃ x, cs[j]? = some x ∧ Den w A β (caps j) x) : DenL w A β ((List.range n).map caps) cs.toList := by
  refine DenL.mk (by simp [hn]) fun i hi => ?_
  have hi' : i < n := by simpa using hi
  obtain ⟨x, h1, h2⟩ := hj i hi'
  refine ⟨x, by simpa using h1, ?_⟩
  rw [List.getD_eq_getElem?_getD, List.getElem?_map, List.getElem?_range hi']
  exact h2
theorem run_call {o : Oper} {f : Operand} {args : Array Operand} {ts : Array TypeId} (ho : o.op = .call { callee := .value f, args := args, argTypes := ts }) {id : Nat} {cs : Array Value} (hf : a.eval f = .func (.func id) #[] cs)
    (hc : ∀ (l : Array Value) (w : World), (callFunc id l).run P w = .ok (.enter id l) w) (w' : World) : (execOp a.eval o).run P w' = .ok (.enter id (args.map a.eval ++ cs)) w' := by
  simp [execOp, ho, resolve, hf, Deferred.ofValue, invoke, hc, Result.andThen]

theorem call_ok (hS : Sound P Gl Γ) (h : Ctx P w A β Gl N F M a) {q : Bool} {o : Oper} {f : Operand} {args : Array Operand} {ts : Array TypeId} (ho : o.op = .call { callee := .value f, args := args, argTypes := ts })
    {K : SV → Prop} (he : (evCall Γ M q (opnd Gl F f) (args.toList.map (opnd Gl F))).run K) :
    ∃ id cs, (∀ w', (execOp a.eval o).run P w' = .ok (.enter id (args.map a.eval ++ cs)) w') ∧ ∃ s, K s ∧ (q = true → ∃ v, exactV s = some v) ∧
      ∀ w', Cw w w' → Calls P id (args.map a.eval ++ cs) w' fun e w'' => ∃ v, e = .returned v ∧ Den w'' A β s v ∧ Below w'.heap.size w' w'' := by
  unfold evCall at he
  split at he
  · next id n caps hs =>
    have hf := h.opnd f
    rw [hs] at hf
    obtain ⟨cs, ef, hcn, hcj⟩ := hf
    have hargs := (argsOf h args).append (capsOf hcn hcj)
    have hargs : DenL w A β (args.toList.map (opnd Gl F) ++ (List.range n).map caps) (args.map a.eval ++ cs).toList := by rw [Array.toList_append]; exact hargs
    split at he
    · next as has =>
      split at he
      · next pre res hΓ =>
        have hcall := hS.call id as pre res hΓ
        refine ⟨id, cs, run_call ho ef hcall, ?_⟩
        split at he
        · next hlp =>
          rw [Bool.or_eq_false_iff] at hlp
          refine ⟨res, he.2, fun hq => absurd hq (by rw [hlp.1]; simp), fun w' hw => ?_⟩
          have hctx := h.later hw
          have hd := prepL_den hctx.mem (A2 := A) (fun _ h => h) (fun e => absurd e (by rw [hlp.2]; simp)) has (hargs.later hw.later (Keeps.refl _))
          refine (hS.fn id as pre res hΓ he.1 w' A _ hctx.globs hctx.mem.low hd).mono ?_
          rintro e w'' ⟨v, rfl, hr, hb⟩
          exact ⟨v, rfl, hr.up, hb⟩
        · next v hlp hex =>
          refine ⟨res, he.2, fun _ => ⟨v, hex⟩, fun w' hw => ?_⟩
          have hctx := h.later hw
          have hd := prepL_den hctx.mem (A2 := fun b => A b ∧ b ∉ β) (fun _ h => h.1) (fun _ b hb hn => hn.2 hb) has (hargs.later hw.later (Keeps.refl _))
          refine (hS.fn id as pre res hΓ he.1 w' (fun b => A b ∧ b ∉ β) _ (fun g => (hctx.globs g).later ⟨fun _ _ _ => rfl, fun b _ hf hn => hf hn.1⟩ (Keeps.refl _)) (fun b hb => hctx.mem.low b hb.1) hd).mono ?_
          rintro e w'' ⟨v', rfl, hr, hb⟩
          obtain rfl := exactV_den hex hr
          exact ⟨_, rfl, exactV_back hex, hb⟩
        · exact he.elim
      · exact he.elim
    · exact he.elim
  · exact he.elim

/-- An operation that makes no memory of the frame's own: it is quiet, or a call. -/
def Op1OK (P : Program) (w : World) (A : Nat → Prop) (β : List Nat) (a : Act) (o : Oper) (q : Bool) (K : SV → Prop) : Prop :=
  ∃ s, K s ∧ ((∃ v, (∀ w', Cw w w' → (execOp a.eval o).run P w' = .ok (.value v) w') ∧ Den w A β s v) ∨
    (∃ id args, (∀ w', (execOp a.eval o).run P w' = .ok (.enter id args) w') ∧ (q = true → ∃ v, exactV s = some v) ∧
      ∀ w', Cw w w' → Calls P id args w' fun e w'' => ∃ v, e = .returned v ∧ Den w'' A β s v ∧ Below w'.heap.size w' w''))
theorem op1_ok (hS : Sound P Gl Γ) (h : Ctx P w A β Gl N F M a) {q : Bool} {o : Oper} {K : SV → Prop} (he : (evOp1 P Gl Γ q F M o.op).run K) : Op1OK P w A β a o q K := by
  unfold evOp1 at he
  split at he
  · next f args ts ho =>
    obtain ⟨id, cs, h1, s, h2, h3, h4⟩ := call_ok hS h ho he
    exact ⟨s, h2, .inr ⟨id, _, h1, h3, h4⟩⟩
  · obtain ⟨s, v, h1, h2, h3⟩ := evP_ok h he
    exact ⟨s, h3, .inl ⟨v, h1, h2⟩⟩

theorem mem_ok (h : St P w0 A0 Gl N F M a w A β) {o : Oper} {K : SV → Mem → Prop} (he : evMem P Gl F M o.op K)
    {next : Act → World → Prop} {Q : Exit → Act → World → Prop} (hn : ∀ v w', OpOK P w0 A0 Gl N F a w A β K v w' → next (a.put o.dst v) w') : o.wp P a w next Q := by
  unfold evMem at he
  split at he
  · next T x ho =>
    unfold evBox at he
    split at he
    · next cs hcs =>
      have hc := cellsSV_den hcs (h.ctx.opnd x)
      have hx : (execOp a.eval o).run P w = .ok (.value (.pointer (some ⟨w.heap.size, 0, none⟩))) (w.alloc (.cells (a.eval x).cells T)) := by
        simp [execOp, ho, go_sem]
      unfold Oper.wp
      rw [hx]
      obtain ⟨h1, h2⟩ := h.alloc (T := T) hc
      exact hn _ _ ⟨_, _, _, _, h1, grow_alloc _ _, h2, he⟩
    · exact he.elim
  · next T ho =>
    unfold evAlloc at he
    split at he
    · next cs hcs =>
      unfold zeroCells at hcs
      split at hcs
      · next i hi =>
        split at hcs
        · next z hz =>
          obtain rfl := Option.some.inj hcs
          have hx : (execOp a.eval o).run P w = .ok (.value (.pointer (some ⟨w.heap.size, 0, none⟩))) (w.alloc (.cells z.cells T)) := by
            have hzv : (zeroValue T).run P w = .ok z w := by simp [zeroValue, run_typeInfo w hi, hz, Result.andThen]
            simp [execOp, ho, go_sem, hzv]
          unfold Oper.wp
          rw [hx]
          obtain ⟨h1, h2⟩ := h.alloc (T := T) (den_vs z.cells.toList)
          exact hn _ _ ⟨_, _, _, _, h1, grow_alloc _ _, h2, he⟩
        · cases hcs
      · cases hcs
    · exact he.elim
  · next T x y ho =>
    unfold evStore at he
    split at he
    · next k off cs i hs hcs hi =>
      have hx := h.ctx.opnd x
      rw [hs] at hx
      obtain ⟨b, hb, ex⟩ := hx
      split at he
      · next old hM =>
        split at he
        · next h1 h2 h3 =>
          have h1 := Nat.eq_of_beq_eq_true h1
          have h2 := Nat.le_of_ble_eq_true h2
          have hc := cellsSV_den hcs (h.ctx.opnd y)
          obtain ⟨w', hr, hst, hg⟩ := h.store (P := P) hb hM h2 h3 hc
          have hsz : (a.eval y).cells.size = i.size := by rw [← Array.length_toList, ← hc.len, h1]
          have hx : (execOp a.eval o).run P w = .ok .skip w' := by
            have hs2 : (sizeOf T).run P w = .ok i.size w := by simp [sizeOf, run_typeInfo w hi, Result.andThen]
            simp [execOp, ho, ex, Instr.storeAt, Instr.sureAddr, storeVar, hs2, hsz, hr, Result.andThen]
          unfold Oper.wp
          rw [hx]
          exact hn undef w' ⟨A, β, .junk, _, hst, hg, trivial, he⟩
        · exact he.elim
      · exact he.elim
    · exact he.elim
  · exact he.elim
end
end Go.Ev
