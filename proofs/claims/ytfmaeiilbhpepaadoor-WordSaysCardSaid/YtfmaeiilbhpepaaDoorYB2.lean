/- Is an error just that? -/
import Derived.Test.YtfmaeiilbhpepaaDoorYB1
set_option linter.unusedVariables false
set_option linter.unusedSimpArgs false
set_option linter.unusedVariables false
set_option linter.unusedSimpArgs false
set_option maxRecDepth 100000
namespace Go.Proofs.YtfmaeiilbhpepaaDoor
open Go.RowKit Go.Sy
structure X_is where
  e : Int
  a : Int
  x : Int
  y : Int
def a_is (e : Int) (a : Int) (x : Int) (y : Int) : List SV := [.er 22 25 e a, .ag 2 (lsv [.v (.int .i64 x), .v (.int .i64 y)])]
def m_is (e : Int) (a : Int) (x : Int) (y : Int) : List Blk := []
def r_is (e : Int) (a : Int) (x : Int) (y : Int) : SV := .v (.bool (e == x && a == y))
def n_is (e : Int) (a : Int) (x : Int) (y : Int) : List Blk := []
def p_is (e : Int) (a : Int) (x : Int) (y : Int) : Prop := True
def s_is : Sy.Spec where
  X := X_is
  args x_ := a_is x_.e x_.a x_.x x_.y
  mem x_ := m_is x_.e x_.a x_.x x_.y
  pre x_ := p_is x_.e x_.a x_.x x_.y
  res x_ := r_is x_.e x_.a x_.x x_.y
  mem' x_ := n_is x_.e x_.a x_.x x_.y
  dec args mem := match args with | [a0, a1] => some ⟨erE a0, erA a0, intD (agD a1 0), intD (agD a1 1)⟩ | _ => none
def c_is : Con := ⟨[], s_is.g, none⟩
def V_is (e : Int) (a : Int) (x : Int) (y : Int) : Prop :=
  True ∧ (((e = e ∧ a = a) ∧ True) ∧ True ∧ True) ∧ (bif e == x then a == y else false) = (e == x && a == y) ∧ True
theorem pf_is (e : Int) (a : Int) (x : Int) (y : Int) (hp : p_is e a x y) : FnC Tryd.prog glE 18 (a_is e a x y) (m_is e a x y) (r_is e a x y) (n_is e a x y) := by
  refine fn_of (sound_cons ok_tell sound_nil) false Tryd.func18 [] (V := V_is e a x y) (by kernel_rfl) ?_
  unfold V_is
  exact ⟨trivial, by simp, by cases e == x <;> rfl, trivial⟩
theorem ok_is : FnOK Tryd.prog glE 18 c_is := fnOK_of (fun l w => Tryd.call18 l w) fun x_ hp => pf_is x_.e x_.a x_.x x_.y hp
end Go.Proofs.YtfmaeiilbhpepaaDoor
