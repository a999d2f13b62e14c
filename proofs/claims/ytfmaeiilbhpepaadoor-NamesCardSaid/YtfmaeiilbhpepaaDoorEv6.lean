/-
  Ev, part 6: all pure operations; what is handed to a callee; memory of the frame's own.
-/
import Derived.Test.YtfmaeiilbhpepaaDoorEv5
import Derived.Laws.CopyOwn
set_option linter.unusedVariables false
set_option linter.unusedSimpArgs false
namespace Go.Ev
open Go.RowKit

def evBin2 (P : Program) (op : BinOp) (T : TypeId) (y : Operand) (s t : SV) : R :=
  match s with
  | .ag _ _ => evAgg P op T s t
  | _ => evBin P op T y s t
def evP (P : Program) (Gl : Nat → SV) (F : Fr) (M : Mem) (op : Op) : R :=
  match op with
  | .move x | .assign x => .ok (opnd Gl F x)
  | .pick c x y => evPick (opnd Gl F c) (opnd Gl F x) (opnd Gl F y)
  | .load T x => evLoad P T (opnd Gl F x) M
  | .fieldAddr S x j => evField P S (opnd Gl F x) j
  | .indexAddr T x y => evIndex P T (opnd Gl F x) (opnd Gl F y)
  | .binOp op T x y _ => evBin2 P op T y (opnd Gl F x) (opnd Gl F y)
  | .unOp op _ x => evUn op (opnd Gl F x)
  | .convert S D x => evConv P S D (opnd Gl F x)
  | .makeInterface T x => evMkIface P T (opnd Gl F x)
  | .extract x i => evExtract (opnd Gl F x) i
  | .nilCheck x => evNilCheck (opnd Gl F x)
  | .field T x j => evPart P T (opnd Gl F x) j
  | .index T x y => evAt P T (opnd Gl F x) (opnd Gl F y)
  | .slice T x lo hi none => evSlice P T (opnd Gl F x) (lo.map (opnd Gl F)) (hi.map (opnd Gl F))
  | .makeFunc fn first caps => evMkFunc fn (first.toList.map (opnd Gl F)) (caps.toList.map (opnd Gl F))
  | .build T parts => evBuild P T (parts.toList.map fun p => (p.1, opnd Gl F p.2))
  | .call { callee := .builtin .len, args := ⟨[x]⟩, argTypes := ⟨[T]⟩ } => evLen P T (opnd Gl F x)
  | .call { callee := .builtin .max, args := ⟨[x, y]⟩, argTypes := _ } => evMax true [opnd Gl F x, opnd Gl F y]
  | .call { callee := .builtin .min, args := ⟨[x, y]⟩, argTypes := _ } => evMax false [opnd Gl F x, opnd Gl F y]
  | _ => .bad

section
variable {P : Program} {w : World} {A : Nat → Prop} {β : List Nat} {Gl : Nat → SV} {N : Nat} {F : Fr} {M : Mem} {a : Act}
theorem evP_ok (h : Ctx P w A β Gl N F M a) {o : Oper} {K : SV → Prop} (he : (evP P Gl F M o.op).run K) : PureOK P w A β a o K := by
  cases ho : o.op <;> rw [ho] at he <;> unfold evP at he <;> try exact he.elim
  case move x => exact ⟨_, _, fun w' _ => by simp [execOp, ho], h.opnd x, he⟩
  case assign x => exact ⟨_, _, fun w' _ => by simp [execOp, ho], h.opnd x, he⟩
  case pick c x y => exact pick_ok h ho he
  case load T x => exact load_ok h ho he
  case fieldAddr S x j => exact field_ok h ho he
  case indexAddr T x y => exact index_ok h ho he
  case binOp op T x y T' =>
    simp only [evBin2] at he
    split at he
    · next n f hs => exact agg_ok h ho (by simpa only [hs] using he)
    · exact bin_ok h ho he
  case unOp op T x => exact un_ok h ho he
  case convert S D x => exact conv_ok h ho he
  case makeInterface T x => exact mkIface_ok h ho he
  case extract x i => exact extract_ok h ho he
  case nilCheck x => exact nilCheck_ok h ho he
  case field T x j => exact part_ok h ho he
  case index T x y => exact at_ok h ho he
  case slice T x lo hi mx =>
    cases mx with
    | none => exact slice_ok h ho he
    | some _ => exact he.elim
  case makeFunc fn first caps => exact mkFunc_ok h ho he
  case build T parts => exact build_ok h ho he
  case call c =>
    split at he
    all_goals first | exact he.elim | (next e => cases e; done) | skip
    · next x T e => cases e; exact len_ok h ho he
    · next x y ts e => cases e; exact max_ok (mx := true) h ho he
    · next x y ts e => cases e; exact max_ok (mx := false) h ho he

/-! ### handing values to a callee -/
def noLp : SV → Bool
  | .lp _ _ => false
  | .ag n f | .tp n f | .fn _ n f => (List.range n).all fun j => noLp (f j)
  | .ic _ s => noLp s
  | _ => true
def allS : List (Option SV) → Option (List SV)
  | [] => some []
  | x :: r => match x, allS r with | some x, some r => some (x :: r) | _, _ => none
theorem allS_get : ∀ {l : List (Option SV)} {vs : List SV}, allS l = some vs → l = vs.map some
  | [], vs, h => by simp [allS] at h; subst h; rfl
  | x :: r, vs, h => by
    unfold allS at h
    split at h
    · next x' r' hr =>
      obtain rfl := Option.some.inj h
      simp [allS_get hr]
    · cases h
/-- Handed on: what is the frame's own is lent to be read. -/
def prep (M : Mem) : SV → Option SV
  | .lp k off =>
    match M[k]? with
    | some cs => match cs.all noLp with | true => some (.pt (cs.length - off) (out (cs.length - off) fun j => cs.getD (off + j) .junk)) | false => none
    | none => none
  | .ic t s => match prep M s with | some x => some (.ic t x) | none => none
  | .fn id n f => match allS ((List.range n).map fun j => prep M (f j)) with | some l => some (.fn id n (lsv l)) | none => none
  | s => match noLp s with | true => some s | false => none
def isLp (s : SV) : Bool := !noLp s
def optAll : List (Option Value) → Option (List Value)
  | [] => some []
  | x :: r => match x, optAll r with | some x, some r => some (x :: r) | _, _ => none
theorem optAll_get : ∀ {l : List (Option Value)} {vs : List Value}, optAll l = some vs → l = vs.map some
  | [], vs, h => by simp [optAll] at h; subst h; rfl
  | x :: r, vs, h => by
    unfold optAll at h
    split at h
    · next x' r' hr =>
      obtain rfl := Option.some.inj h
      simp [optAll_get hr]
    · cases h
def exactV : SV → Option Value
  | .v x => some x
  | .bl b => some (.bool b)
  | .er t _ e (.negSucc 0) => some (if e = 0 then .nilIface else .iface t (.int .i64 e))
  | .tp n f => match optAll ((List.range n).map fun j => exactV (f j)) with | some l => some (.tuple l.toArray) | none => none
  | _ => none

theorem noLp_den {A2 : Nat → Prop} (hA : ∀ b, A2 b → A b) {s : SV} {u : Value} (hn : noLp s = true) (hd : Den w A β s u) : Den w A2 [] s u := by
  induction s generalizing u with
  | junk => trivial
  | v x => exact hd
  | bl b => exact hd
  | lp k off => cases hn
  | pt n f ih => exact Den.later (β := []) ⟨fun _ _ _ => rfl, fun b _ h h2 => h (hA b h2)⟩ (Keeps.refl _) (show Den w A [] (.pt n f) u from hd)
  | sl sz n f ih => exact Den.later (β := []) ⟨fun _ _ _ => rfl, fun b _ h h2 => h (hA b h2)⟩ (Keeps.refl _) (show Den w A [] (.sl sz n f) u from hd)
  | ag n f ih =>
    obtain ⟨cs, rfl, hs, hj⟩ := hd
    simp only [noLp, List.all_eq_true, List.mem_range] at hn
    exact ⟨cs, rfl, hs, fun j hjn => let ⟨x, h1, h2⟩ := hj j hjn; ⟨x, h1, ih j (hn j hjn) h2⟩⟩
  | tp n f ih =>
    obtain ⟨cs, rfl, hs, hj⟩ := hd
    simp only [noLp, List.all_eq_true, List.mem_range] at hn
    exact ⟨cs, rfl, hs, fun j hjn => let ⟨x, h1, h2⟩ := hj j hjn; ⟨x, h1, ih j (hn j hjn) h2⟩⟩
  | fn id n f ih =>
    obtain ⟨cs, rfl, hs, hj⟩ := hd
    simp only [noLp, List.all_eq_true, List.mem_range] at hn
    exact ⟨cs, rfl, hs, fun j hjn => let ⟨x, h1, h2⟩ := hj j hjn; ⟨x, h1, ih j (hn j hjn) h2⟩⟩
  | ic t s ih =>
    obtain ⟨x, rfl, hx⟩ := hd
    exact ⟨x, rfl, ih hn hx⟩
  | er t tf e at_ =>
    rcases hd with hd | hd | ⟨h1, h2, a, rfl, hf, hc0, hc1⟩
    · exact .inl hd
    · exact .inr (.inl hd)
    · exact .inr (.inr ⟨h1, h2, a, rfl, fun h => hf (hA _ h), hc0, hc1⟩)
theorem prep_den {A2 : Nat → Prop} (hM : RelM w A β M) (hA : ∀ b, A2 b → A b) {s s' : SV} (hlp : isLp s = true → ∀ b ∈ β, ¬ A2 b) {u : Value} (hp : prep M s = some s') (hd : Den w A β s u) : Den w A2 [] s' u := by
  have hrest : ∀ {s s' : SV} {u : Value}, (match noLp s with | true => some s | false => none) = some s' → Den w A β s u → Den w A2 [] s' u := by
    intro s s' u hp hd
    split at hp
    · next hn =>
      obtain rfl := Option.some.inj hp
      exact noLp_den hA hn hd
    · cases hp
  induction s generalizing s' u with
  | lp k off =>
    unfold prep at hp
    split at hp
    · next cs hcs =>
      split at hp
      · next hall =>
        obtain rfl := Option.some.inj hp
        obtain ⟨b, hb, rfl⟩ := hd
        obtain ⟨c, T, hc, hcd⟩ := hM.cell k b cs hb hcs
        have hlen := hcd.len
        refine ⟨_, rfl, fun j hj => ?_⟩
        obtain ⟨x, h1, h2⟩ := hcd.get? (off + j) (by omega)
        have hnl : noLp (cs.getD (off + j) .junk) = true := by
          rw [List.all_eq_true] at hall
          have : off + j < cs.length := by omega
          rw [List.getD_eq_getElem?_getD, List.getElem?_eq_getElem this]
          exact hall _ (List.getElem_mem _)
        refine ⟨x, ?_, hlp rfl b (List.mem_of_getElem? hb), by rw [out_eq hj]; exact noLp_den hA hnl h2⟩
        · rw [add_mk]
          simp only [World.cell?, hc]
          simpa using h1
      · cases hp
    · cases hp
  | ic t s ih =>
    unfold prep at hp
    split at hp
    · next x hx =>
      obtain rfl := Option.some.inj hp
      obtain ⟨y, rfl, hy⟩ := hd
      exact ⟨y, rfl, ih (fun h => hlp h) hx hy⟩
    · cases hp
  | fn id n f ih =>
    unfold prep at hp
    split at hp
    · next l hl =>
      obtain rfl := Option.some.inj hp
      obtain ⟨cs, rfl, hs, hj⟩ := hd
      have hl := allS_get hl
      refine ⟨cs, rfl, hs, fun j hjn => ?_⟩
      obtain ⟨x, h1, h2⟩ := hj j hjn
      refine ⟨x, h1, ih j (fun h => hlp ?_) ?_ h2⟩
      · unfold isLp at h ⊢
        simp only [noLp, Bool.not_eq_true', List.all_eq_false, List.mem_range]
        exact ⟨j, hjn, by simpa using h⟩
      · have e : ((List.range n).map fun j => prep M (f j))[j]? = some (prep M (f j)) := by simp [hjn]
        rw [hl, List.getElem?_map] at e
        cases hlj : l[j]? with
        | none => rw [hlj] at e; cases e
        | some y =>
          rw [hlj] at e
          simp only [Option.map_some, Option.some.injEq] at e
          rw [← e]
          simp [lsv, List.getD_eq_getElem?_getD, hlj]
    · cases hp
  | _ => exact hrest (by simpa only [prep] using hp) hd
def prepL (M : Mem) : List SV → Option (List SV)
  | [] => some []
  | s :: r => match prep M s, prepL M r with | some x, some l => some (x :: l) | _, _ => none
theorem prepL_den {A2 : Nat → Prop} (hM : RelM w A β M) (hA : ∀ b, A2 b → A b) : ∀ {l l' : List SV}, (l.any isLp = true → ∀ b ∈ β, ¬ A2 b) → ∀ {us : List Value}, prepL M l = some l' → DenL w A β l us → DenL w A2 [] l' us
  | [], l', _, [], hp, _ => by simp [prepL] at hp; subst hp; trivial
  | s :: r, l', hlp, u :: t, hp, ⟨h1, h2⟩ => by
    unfold prepL at hp
    split at hp
    · next x l hx hl =>
      obtain rfl := Option.some.inj hp
      exact ⟨prep_den hM hA (fun h => hlp (by simp [h])) hx h1, prepL_den hM hA (fun h => hlp (by simp [h])) hl h2⟩
    · cases hp
  | [], _, _, _ :: _, _, hd => hd.elim
  | _ :: _, _, _, [], _, hd => hd.elim
theorem exactV_den {s : SV} {v u : Value} (h : exactV s = some v) (hd : Den w A β s u) : u = v := by
  induction s generalizing v u with
  | v x => obtain rfl := Option.some.inj h; exact hd
  | bl b => obtain rfl := Option.some.inj h; exact hd
  | er t tf e at_ =>
    have : at_ = -1 ∧ v = if e = 0 then .nilIface else .iface t (.int .i64 e) := by
      unfold exactV at h
      split at h
      all_goals first | (next heq => cases heq; done) | skip
      · next heq =>
        cases heq
        exact ⟨rfl, (Option.some.inj h).symm⟩
      · cases h
    obtain ⟨rfl, rfl⟩ := this
    rcases hd with ⟨h1, _, rfl⟩ | ⟨h1, _, rfl⟩ | ⟨_, h2, _⟩
    · rw [if_pos h1]
    · rw [if_neg h1]
    · exact absurd h2 (by decide)
  | tp n f ih =>
    obtain ⟨cs, rfl, hs, hj⟩ := hd
    unfold exactV at h
    split at h
    · next l hl =>
      obtain rfl := Option.some.inj h
      have hl := optAll_get hl
      have hlen : n = l.length := by simpa using congrArg List.length hl
      congr 1
      apply Array.ext (by simp; omega)
      intro i h1 h2
      obtain ⟨x, e1, e2⟩ := hj i (by omega)
      have e3 : exactV (f i) = some l[i] := by
        have := congrArg (fun l => l[i]?) hl
        simpa [show i < n by omega, show i < l.length by omega] using this
      have := ih i e3 e2
      rw [Array.getElem?_eq_getElem h1] at e1
      simpa [this] using e1
    · cases h
  | _ => cases h
theorem exactV_back {s : SV} {v : Value} (h : exactV s = some v) : Den w A β s v := by
  induction s generalizing v with
  | v x => obtain rfl := Option.some.inj h; rfl
  | bl b => obtain rfl := Option.some.inj h; rfl
  | er t tf e at_ =>
    unfold exactV at h
    split at h
    all_goals first | (next heq => cases heq; done) | skip
    · next heq =>
      cases heq
      obtain rfl := Option.some.inj h
      by_cases he : e = 0
      · exact .inl ⟨he, rfl, by rw [if_pos he]⟩
      · exact .inr (.inl ⟨he, rfl, by rw [if_neg he]⟩)
    · cases h
  | tp n f ih =>
    unfold exactV at h
    split at h
    · next l hl =>
      obtain rfl := Option.some.inj h
      have hl := optAll_get hl
      have hlen : n = l.length := by simpa using congrArg List.length hl
      refine ⟨l.toArray, rfl, by simp [hlen], fun j hj => ?_⟩
      have e3 : exactV (f j) = some l[j] := by
        have := congrArg (fun l => l[j]?) hl
        simpa [hj, show j < l.length by omega] using this
      exact ⟨l[j], by simp [show j < l.length by omega], ih j e3⟩
    · cases h
  | _ => cases h
end
end Go.Ev
