/-
  Ev, part 4: equality of aggregates.
-/
import Derived.Test.YtfmaeiilbhpepaaDoorEv3
import Derived.Laws.StructEq
set_option linter.unusedVariables false
set_option linter.unusedSimpArgs false
namespace Go.Ev
open Go.RowKit

/-- A part of an aggregate. -/
def partSV (P : Program) (T : TypeId) (f : Nat → SV) (n off : Nat) : Option SV :=
  match P.info? T, P.underlying T with
  | some i, some d =>
    match aggD d with
    | true => match Nat.ble (off + i.size) n with | true => some (.ag i.size (out i.size fun j => f (off + j))) | false => none
    | false => match Nat.blt off n with | true => some (f off) | false => none
  | _, _ => none

def eqLeaf (P : Program) (T : TypeId) (s t : SV) : Option Bool :=
  match P.underlying T, s, t with
  | some (.int _), .v (.int k a), .v (.int k' b) => match kindEq k k' with | true => some (a == b) | false => none
  | some .string, .v (.string a), .v (.string b) => some (a.toList == b.toList)
  | some .bool, s, t => match asB s, asB t with | some a, some b => some (a == b) | _, _ => none
  | _, _, _ => none
def andO : Option Bool → Option Bool → Option Bool
  | some a, some b => some (a && b)
  | _, _ => none
def eqFs (P : Program) (rec : TypeId → SV → SV → Option Bool) (n : Nat) (f : Nat → SV) (m : Nat) (g : Nat → SV) : List Field → Option Bool
  | [] => some true
  | fd :: r =>
    match decide (fd.name = "_") with
    | true => eqFs P rec n f m g r
    | false =>
      match partSV P fd.type f n fd.offset, partSV P fd.type g m fd.offset with
      | some a, some b => andO (rec fd.type a b) (eqFs P rec n f m g r)
      | _, _ => none
def eqEs (P : Program) (rec : TypeId → SV → SV → Option Bool) (E : TypeId) (sz n : Nat) (f : Nat → SV) (m : Nat) (g : Nat → SV) : List Nat → Option Bool
  | [] => some true
  | k :: r =>
    match partSV P E f n (k * sz), partSV P E g m (k * sz) with
    | some a, some b => andO (rec E a b) (eqEs P rec E sz n f m g r)
    | _, _ => none
def eqT (P : Program) : Nat → TypeId → SV → SV → Option Bool
  | 0, _, _, _ => none
  | d + 1, T, s, t =>
    match P.underlying T, s, t with
    | some (.struct fs), .ag n f, .ag m g => match P.stoodInHeld T with | false => eqFs P (eqT P d) n f m g fs.toList | true => none
    | some (.array len E), .ag n f, .ag m g => match P.info? E with | some i => eqEs P (eqT P d) E i.size n f m g (List.range len) | none => none
    | _, s, t => eqLeaf P T s t

section
variable {P : Program} {w : World} {A : Nat → Prop} {β : List Nat}
theorem part_den {T : TypeId} {f : Nat → SV} {n off : Nat} {s : SV} {xs : Array Value} (h : partSV P T f n off = some s) (hd : Den w A β (.ag n f) (.agg xs)) :
    ∃ v, (∀ w', (part T xs off).run P w' = .ok v w') ∧ Den w A β s v := by
  obtain ⟨cs, e, hn, hj⟩ := hd
  obtain rfl := Value.agg.inj e
  unfold partSV at h
  split at h
  · next i d hi hu =>
    split at h
    · next hd =>
      split at h
      · next hle =>
        have hle := Nat.le_of_ble_eq_true hle
        obtain rfl := Option.some.inj h
        have ha : ∀ w', (isAgg T).run P w' = .ok true w' := fun w' => by
          simp only [isAgg, Sem.run_bind, run_underlying hu, Result.andThen]
          cases d <;> simp [aggD] at hd <;> simp
        have hs : ∀ w', (sizeOf T).run P w' = .ok i.size w' := fun w' => by simp [sizeOf, run_typeInfo w' hi, Result.andThen]
        refine ⟨.agg (xs.extract off (off + i.size)), fun w' => by simp [part, ha, hs, Result.andThen], _, rfl, by simp; omega, fun j hji => ?_⟩
        obtain ⟨x, h1, h2⟩ := hj (off + j) (by omega)
        exact ⟨x, by rw [Array.getElem?_extract]; simp [show j < min (off + i.size) xs.size - off by omega, h1], by rw [out_eq hji]; exact h2⟩
      · cases h
    · next hd =>
      split at h
      · next hlt =>
        have hlt : off < n := Nat.le_of_ble_eq_true hlt
        obtain rfl := Option.some.inj h
        have ha : ∀ w', (isAgg T).run P w' = .ok false w' := fun w' => by
          simp only [isAgg, Sem.run_bind, run_underlying hu, Result.andThen]
          cases d <;> simp [aggD] at hd <;> simp
        obtain ⟨x, h1, h2⟩ := hj off hlt
        exact ⟨x, fun w' => by simp [part, ha, h1, Result.andThen], h2⟩
      · cases h
  · cases h
theorem eqLeaf_ok {T : TypeId} {s t : SV} {b : Bool} (h : eqLeaf P T s t = some b) {u v : Value} (hu : Den w A β s u) (hv : Den w A β t v) (d : Nat) (w' : World) :
    (Op.equalIn (d + 1) T u v).run P w' = .ok b w' := by
  unfold eqLeaf at h
  split at h
  · next hT =>
    split at h
    · next hk =>
      obtain rfl := kindEq_eq hk
      obtain rfl := Option.some.inj h
      obtain rfl := hu
      obtain rfl := hv
      exact run_equalIn_int w' d T _ _ _ _ hT
    · cases h
  · next hT =>
    obtain rfl := Option.some.inj h
    obtain rfl := hu
    obtain rfl := hv
    exact run_equalIn_string w' d T _ _ hT
  · next hT =>
    split at h
    · next a b ha hb =>
      obtain rfl := Option.some.inj h
      obtain rfl := asB_den ha hu
      obtain rfl := asB_den hb hv
      exact run_equalIn_bool' w' d T _ _ hT
    · cases h
  · cases h
theorem andO_some {a b : Option Bool} {r : Bool} (h : andO a b = some r) : ∃ x y, a = some x ∧ b = some y ∧ r = (x && y) := by
  unfold andO at h
  split at h
  · exact ⟨_, _, rfl, rfl, (Option.some.inj h).symm⟩
  · cases h
theorem eqFs_ok {rec : TypeId → SV → SV → Option Bool} {d : Nat} (ih : ∀ {T : TypeId} {s t : SV} {b : Bool}, rec T s t = some b → ∀ {u v : Value}, Den w A β s u → Den w A β t v → ∀ w', (Op.equalIn d T u v).run P w' = .ok b w')
    {n m : Nat} {f g : Nat → SV} {xs ys : Array Value} (hx : Den w A β (.ag n f) (.agg xs)) (hy : Den w A β (.ag m g) (.agg ys)) :
    ∀ (fs : List Field) {b : Bool}, eqFs P rec n f m g fs = some b → ∀ w', (Op.eqFields d xs ys fs).run P w' = .ok b w'
  | [], b, h, w' => by simp [eqFs] at h; subst h; simp [Op.eqFields]
  | fd :: r, b, h, w' => by
    unfold eqFs at h
    split at h
    · next hn =>
      have hn : fd.name = "_" := by simpa using hn
      simp only [Op.eqFields, hn, ne_eq, not_true_eq_false, if_false]
      exact eqFs_ok ih hx hy r h w'
    · next hn =>
      have hn : fd.name ≠ "_" := by simpa using hn
      split at h
      · next a c ha hc =>
        obtain ⟨p, q, h1, h2, rfl⟩ := andO_some h
        obtain ⟨u, e1, d1⟩ := part_den ha hx
        obtain ⟨v, e2, d2⟩ := part_den hc hy
        have e3 := ih h1 d1 d2 w'
        simp only [Op.eqFields, hn, ne_eq, not_false_eq_true, if_true, Sem.run_bind, e1, e2, e3, Result.andThen_ok]
        cases p
        · simp
        · simpa using eqFs_ok ih hx hy r h2 w'
      · cases h
theorem eqT_ok : ∀ (d : Nat) {T : TypeId} {s t : SV} {b : Bool}, eqT P d T s t = some b → ∀ {u v : Value}, Den w A β s u → Den w A β t v → ∀ w', (Op.equalIn d T u v).run P w' = .ok b w'
  | 0, _, _, _, _, h, _, _, _, _, _ => by simp [eqT] at h
  | d + 1, T, s, t, b, h, u, v, hu, hv, w' => by
    unfold eqT at h
    split at h
    · next fs n f m g hT =>
      split at h
      · next hs =>
        obtain ⟨xs, rfl, hx⟩ := hu
        obtain ⟨ys, rfl, hy⟩ := hv
        have hf : P.fieldsOf T = fs := by simp [Program.fieldsOf, hT]
        rw [run_equalIn_struct w' d T xs ys (by rw [hf]; exact hT) hs, hf]
        exact eqFs_ok (fun hr _ _ du dv w'' => eqT_ok d hr du dv w'') ⟨xs, rfl, hx⟩ ⟨ys, rfl, hy⟩ _ h w'
      · cases h
    · next len E n f m g hT =>
      split at h
      · next i hi =>
        obtain ⟨xs, rfl, hx⟩ := hu
        obtain ⟨ys, rfl, hy⟩ := hv
        have hs : ∀ w'', (sizeOf E).run P w'' = .ok i.size w'' := fun w'' => by simp [sizeOf, run_typeInfo w'' hi, Result.andThen]
        simp only [Op.equalIn, Sem.run_bind, run_underlying hT, Result.andThen_ok, hs, Std.Legacy.Range.forIn_eq_forIn_range', Std.Legacy.Range.size]
        have key : ∀ (l : List Nat) {b : Bool}, eqEs P (eqT P d) E i.size n f m g l = some b → ∀ w'' : World,
            (((forIn l ((none, ()) : Option Bool × Unit) fun k r => do
                let x ← part E xs (k * i.size)
                let y ← part E ys (k * i.size)
                let z ← Op.equalIn d E x y
                if (!z) = true then pure (ForInStep.done (some false, ())) else pure (ForInStep.yield (none, ()))) : Sem (Option Bool × Unit))).run P w'' = .ok (if b then none else some false, ()) w'' := by
          intro l
          induction l with
          | nil => intro b h w''; simp [eqEs] at h; subst h; simp
          | cons k r ih =>
            intro b h w''
            unfold eqEs at h
            split at h
            · next a c ha hc =>
              obtain ⟨p, q, h1, h2, rfl⟩ := andO_some h
              obtain ⟨u, e1, d1⟩ := part_den ha ⟨xs, rfl, hx⟩
              obtain ⟨v, e2, d2⟩ := part_den hc ⟨ys, rfl, hy⟩
              have e3 := eqT_ok d h1 d1 d2 w''
              simp only [List.forIn_cons, Sem.run_bind, e1, e2, e3, Result.andThen_ok]
              cases p
              · simp
              · simpa using ih h2 w''
            · cases h
        have e0 : List.range' 0 ((len - 0 + 1 - 1) / 1) = List.range len := by rw [List.range_eq_range']; congr 1; omega
        rw [e0, key _ h w']
        cases b <;> simp [Result.andThen]
      · cases h
    · exact eqLeaf_ok h hu hv d w'
end
end Go.Ev
