/-
  Ev, part 11: contracts, tables of them; what proves that a result is the one that was told.
-/
import Derived.Test.YtfmaeiilbhpepaaDoorEv10
set_option linter.unusedVariables false
set_option linter.unusedSimpArgs false
namespace Go.Ev
open Go.RowKit

/-- What a function is said to give: at some arguments, under a condition, a result. -/
abbrev Spc := List SV → Option (Prop × SV)
structure FnOK (P : Program) (Gl : Nat → SV) (f : Nat) (s : Spc) : Prop where
  call : ∀ (l : Array Value) (w : World), (callFunc f l).run P w = .ok (.enter f l) w
  fn : ∀ args pre res, s args = some (pre, res) → pre → PureFn P Gl f args res
def mkT : List (Nat × Spc) → Table
  | [], _, _ => none
  | p :: r, f, args => match Nat.beq p.1 f with | true => p.2 args | false => mkT r f args
section
variable {P : Program} {Gl : Nat → SV}
theorem sound_nil : Sound P Gl (mkT []) := ⟨fun _ _ _ _ h => (nomatch h), fun _ _ _ _ h => (nomatch h)⟩
theorem sound_cons {g : Nat} {s : Spc} {r : List (Nat × Spc)} (h : FnOK P Gl g s) (hr : Sound P Gl (mkT r)) : Sound P Gl (mkT ((g, s) :: r)) := by
  constructor
  · intro f args pre res e
    simp only [mkT] at e
    split at e
    · next hb => obtain rfl := Nat.eq_of_beq_eq_true hb; exact h.call
    · exact hr.call f args pre res e
  · intro f args pre res e
    simp only [mkT] at e
    split at e
    · next hb => obtain rfl := Nat.eq_of_beq_eq_true hb; exact h.fn args pre res e
    · exact hr.fn f args pre res e

/-- Whatever the first stands for, the second does too. -/
def leq (x y : SV) : Prop := ∀ (w : World) (A : Nat → Prop) (u : Value), Den w A [] x u → Den w A [] y u
theorem leq.refl (x : SV) : leq x x := fun _ _ _ h => h
theorem leq.trans {x y z : SV} (h : leq x y) (k : leq y z) : leq x z := fun w A u hd => k w A u (h w A u hd)
theorem leq_of_eq {x y : SV} (h : x = y) : leq x y := h ▸ leq.refl x
theorem leq_int {k : IntKind} {a b : Int} (h : a = b) : leq (.v (.int k a)) (.v (.int k b)) := leq_of_eq (by rw [h])
theorem leq_bool {a b : Bool} (h : a = b) : leq (.v (.bool a)) (.v (.bool b)) := leq_of_eq (by rw [h])
theorem leq_bl {a b : Bool} (h : a = b) : leq (.bl a) (.v (.bool b)) := fun _ _ _ hd => by
  subst h; exact hd
theorem leq_str {a b : ByteArray} (h : a = b) : leq (.v (.string a)) (.v (.string b)) := leq_of_eq (by rw [h])
theorem leq_nil_er {t tf : Nat} {e at_ : Int} (h1 : e = 0) (h2 : at_ = -1) : leq (.v .nilIface) (.er t tf e at_) := fun _ _ _ hd => .inl ⟨h1, h2, hd⟩
theorem leq_er {t tf : Nat} {c e at_ : Int} (h0 : c ≠ 0) (h1 : e = c) (h2 : at_ = -1) : leq (.v (.iface t (.int .i64 c))) (.er t tf e at_) := fun _ _ _ hd => .inr (.inl ⟨by rw [h1]; exact h0, h2, by rw [h1]; exact hd⟩)
theorem leq_er_er {t tf : Nat} {c e a b : Int} (h1 : c = e) (h2 : a = b) : leq (.er t tf c a) (.er t tf e b) := leq_of_eq (by rw [h1, h2])
/-- An error at a place. -/
theorem leq_fault {t tf : Nat} {f : Nat → SV} {c e a at_ : Int} (hf0 : f 0 = .v (.int .i64 a)) (hf1 : leq (f 1) (.er t tf c (-1))) (hc : c ≠ 0) (ha : 0 ≤ a) (h1 : e = c) (h2 : at_ = a) : leq (.ic tf (.pt 2 f)) (.er t tf e at_) := by
  intro w A u hd
  obtain ⟨x, rfl, p, rfl, hj⟩ := hd
  obtain ⟨x0, c0, n0, d0⟩ := hj 0 (by omega)
  obtain ⟨x1, c1, _, d1⟩ := hj 1 (by omega)
  rw [hf0] at d0
  obtain rfl := d0
  have d1 := hf1 w A x1 d1
  rcases d1 with ⟨h, _⟩ | ⟨_, _, rfl⟩ | ⟨_, h, _⟩
  · exact absurd h hc
  · subst h1; subst h2
    exact .inr (.inr ⟨hc, ha, p, rfl, n0, c0, c1⟩)
  · exact absurd h (by decide)
theorem leq_ag {n : Nat} {f g : Nat → SV} (h : ∀ j, j < n → leq (f j) (g j)) : leq (.ag n f) (.ag n g) := by
  rintro w A u ⟨cs, rfl, hn, hj⟩
  exact ⟨cs, rfl, hn, fun j hjn => let ⟨x, e, d⟩ := hj j hjn; ⟨x, e, h j hjn w A x d⟩⟩
theorem leq_tp {n : Nat} {f g : Nat → SV} (h : ∀ j, j < n → leq (f j) (g j)) : leq (.tp n f) (.tp n g) := by
  rintro w A u ⟨cs, rfl, hn, hj⟩
  exact ⟨cs, rfl, hn, fun j hjn => let ⟨x, e, d⟩ := hj j hjn; ⟨x, e, h j hjn w A x d⟩⟩
theorem leq_pt {n : Nat} {f g : Nat → SV} (h : ∀ j, j < n → leq (f j) (g j)) : leq (.pt n f) (.pt n g) := by
  rintro w A u ⟨p, rfl, hj⟩
  exact ⟨p, rfl, fun j hjn => let ⟨x, e, hf, d⟩ := hj j hjn; ⟨x, e, hf, h j hjn w A x d⟩⟩
theorem leq_sl {sz n : Nat} {f g : Nat → Nat → SV} (h : ∀ i, i < n → ∀ j, j < sz → leq (f i j) (g i j)) : leq (.sl sz n f) (.sl sz n g) := by
  rintro w A u ⟨p, cap, rfl, hcap, hj⟩
  exact ⟨p, cap, rfl, hcap, hj.imp id fun ⟨a, e, hk⟩ => ⟨a, e, fun i hi j hjn => let ⟨x, e, hf, d⟩ := hk i hi j hjn; ⟨x, e, hf, h i hi j hjn w A x d⟩⟩⟩
theorem leqL_get {l m : List SV} (hl : l.length = m.length) (h : ∀ j, j < l.length → leq (l.getD j .junk) (m.getD j .junk)) {w : World} {A : Nat → Prop} {us : List Value} (hd : DenL w A [] l us) : DenL w A [] m us := by
  refine DenL.mk (by rw [← hl]; exact hd.len) fun i hi => ?_
  obtain ⟨x, e, d⟩ := hd.get? i (by omega)
  exact ⟨x, e, h i (by omega) w A x d⟩
/-- All of some cells. -/
def leqs : List SV → List SV → Prop
  | [], [] => True
  | x :: r, y :: t => leq x y ∧ leqs r t
  | _, _ => False
theorem leqs_get : ∀ {l m : List SV}, leqs l m → ∀ j, leq (lsv l j) (lsv m j)
  | [], [], _, _ => leq.refl _
  | _ :: _, _ :: _, ⟨h, _⟩, 0 => h
  | _ :: _, _ :: _, ⟨_, h⟩, j + 1 => leqs_get h j
  | [], _ :: _, h, _ => h.elim
  | _ :: _, [], h, _ => h.elim
theorem leqs_refl : ∀ (l : List SV), leqs l l
  | [] => trivial
  | _ :: r => ⟨leq.refl _, leqs_refl r⟩
theorem leq_ags {n : Nat} {l m : List SV} (h : leqs l m) : leq (.ag n (lsv l)) (.ag n (lsv m)) := leq_ag fun j _ => leqs_get h j
theorem leq_tps {n : Nat} {l m : List SV} (h : leqs l m) : leq (.tp n (lsv l)) (.tp n (lsv m)) := leq_tp fun j _ => leqs_get h j
theorem leqs_den {l m : List SV} (h : leqs l m) {w : World} {A : Nat → Prop} {us : List Value} : DenL w A [] l us → DenL w A [] m us := by
  induction l generalizing m us with
  | nil => cases m with
    | nil => exact id
    | cons _ _ => exact h.elim
  | cons x r ih => cases m with
    | nil => exact h.elim
    | cons y t => cases us with
      | nil => exact id
      | cons u us => exact fun hd => ⟨h.1 _ _ _ hd.1, ih h.2 hd.2⟩
theorem PureFn.args {f : Nat} {a b : List SV} {res : SV} (h : PureFn P Gl f b res) (hab : leqs a b) : PureFn P Gl f a res := fun w A vs hG hl hd => h w A vs hG hl (leqs_den hab hd)
theorem PureFn.res {f : Nat} {a : List SV} {r res : SV} (h : PureFn P Gl f a r) (hr : leq r res) : PureFn P Gl f a res := fun w A vs hG hl hd => (h w A vs hG hl hd).mono fun _ _ ⟨v, e, d, b⟩ => ⟨v, e, hr _ _ _ d, b⟩

/-- Both ways through a test. -/
def ifB (b : Bool) (X Y : Prop) : Prop := (b = true → X) ∧ (b = false → Y)
theorem ifB_mk {b : Bool} {X Y : Prop} (h1 : b = true → X) (h2 : b = false → Y) : ifB b X Y := ⟨h1, h2⟩

/-- A contract out of an evaluated body. -/
theorem pure_of {Γ : Table} (hS : Sound P Gl Γ) {f : Nat} {fn : Func} (hf : P.funcs[f]? = some fn) {args : List SV} (an : List Ann) {res : SV} {V : Prop} (he : evBody P Gl Γ fn args an (fun r => leq r res) = V) (hV : V) : PureFn P Gl f args res :=
  body_ok hS hf (he ▸ hV) fun _ h => h
end
end Go.Ev
