/- The law WorldNews. -/
import Derived.Test.YtfmaeiilbhpepaaDoorYD2
import Derived.Test.YtfmaeiilbhpepaaDoorYD1
set_option linter.unusedVariables false
set_option linter.unusedSimpArgs false
set_option linter.unusedVariables false
set_option linter.unusedSimpArgs false
set_option maxRecDepth 100000
namespace Go.Proofs.YtfmaeiilbhpepaaDoor
open Go.RowKit Go.Sy
theorem sameB_refl (n : Nat) (f : Nat → Int) : sameB n f n f = true := by simp [sameB, allB_iff]
theorem sameLL_refl (n : Nat) (k : Nat → Nat) (f : Nat → Nat → Int) : sameLL n k f n k f = true := by simp [sameLL, allB_iff, sameB_refl]
theorem sameEn_refl (n : Nat) (f : Nat → Ent4) : sameEn n f n f = true := by simp [sameEn, allB_iff, enEq]
theorem sameW_refl (W : Wd) : sameW W W = true := by
  simp [sameW, sameB_refl, sameLL_refl, sameEn_refl, allB_iff, slEq, runEq]
structure X_worldNews where
  frames : Int
  cores : Int
  n : Nat
  doms : Nat → Int
def a_worldNews (frames : Int) (cores : Int) (n : Nat) (doms : Nat → Int) : List SV := [.v (.int .i64 frames), .v (.int .i64 cores), .sl true 1 n (fun i_ _ => .v (.int .i64 (doms i_)))]
def m_worldNews (frames : Int) (cores : Int) (n : Nat) (doms : Nat → Int) : List Blk := []
def r_worldNews (frames : Int) (cores : Int) (n : Nat) (doms : Nat → Int) : SV := .v (.bool true)
def n_worldNews (frames : Int) (cores : Int) (n : Nat) (doms : Nat → Int) : List Blk := []
def p_worldNews (frames : Int) (cores : Int) (n : Nat) (doms : Nat → Int) : Prop := True
def s_worldNews : Sy.Spec where
  X := X_worldNews
  args x_ := a_worldNews x_.frames x_.cores x_.n x_.doms
  mem x_ := m_worldNews x_.frames x_.cores x_.n x_.doms
  pre x_ := p_worldNews x_.frames x_.cores x_.n x_.doms
  res x_ := r_worldNews x_.frames x_.cores x_.n x_.doms
  mem' x_ := n_worldNews x_.frames x_.cores x_.n x_.doms
  dec args mem := match args with | [a0, a1, a2] => some ⟨intD (a0), intD (a1), slN a2, fun i => intD (slF a2 i 0)⟩ | _ => none
def c_worldNews : Con := ⟨[], s_worldNews.g, none⟩
def K_worldNews_0 (frames : Int) (cores : Int) (n : Nat) (doms : Nat → Int) : Prop :=
  (((((((((((True ∧ (nwW frames cores n doms).nRam = (nwW frames cores n doms).nRam ∧ ∀ (i : Nat), i < (nwW frames cores n doms).nRam → True ∧ (nwW frames cores n doms).ram i = (nwW frames cores n doms).ram i) ∧ (nwW frames cores n doms).nKinds = (nwW frames cores n doms).nKinds ∧ ∀ (i : Nat), i < (nwW frames cores n doms).nKinds → True ∧ (nwW frames cores n doms).kinds i = (nwW frames cores n doms).kinds i) ∧ (nwW frames cores n doms).nSlots = (nwW frames cores n doms).nSlots ∧ ∀ (i : Nat), i < (nwW frames cores n doms).nSlots → ((((((True ∧ ((nwW frames cores n doms).slots i).kind = ((nwW frames cores n doms).slots i).kind) ∧ ((nwW frames cores n doms).slots i).base = ((nwW frames cores n doms).slots i).base) ∧ ((nwW frames cores n doms).slots i).len = ((nwW frames cores n doms).slots i).len) ∧ ((nwW frames cores n doms).slots i).mark = ((nwW frames cores n doms).slots i).mark) ∧ ((nwW frames cores n doms).slots i).rights = ((nwW frames cores n doms).slots i).rights) ∧ ((nwW frames cores n doms).slots i).badge = ((nwW frames cores n doms).slots i).badge) ∧ ((nwW frames cores n doms).slots i).from_ = ((nwW frames cores n doms).slots i).from_) ∧ (nwW frames cores n doms).nTasks = (nwW frames cores n doms).nTasks ∧ ∀ (i : Nat), i < (nwW frames cores n doms).nTasks → (((((((((((((((((((True ∧ ((nwW frames cores n doms).tasks i).r0 = ((nwW frames cores n doms).tasks i).r0) ∧ ((nwW frames cores n doms).tasks i).r1 = ((nwW frames cores n doms).tasks i).r1) ∧ ((nwW frames cores n
    doms).tasks i).r2 = ((nwW frames cores n doms).tasks i).r2) ∧ ((nwW frames cores n doms).tasks i).r3 = ((nwW frames cores n doms).tasks i).r3) ∧ ((nwW frames cores n doms).tasks i).r4 = ((nwW frames cores n doms).tasks i).r4) ∧ ((nwW frames cores n doms).tasks i).r5 = ((nwW frames cores n doms).tasks i).r5) ∧ ((nwW frames cores n doms).tasks i).r6 = ((nwW frames cores n doms).tasks i).r6) ∧ ((nwW frames cores n doms).tasks i).r7 = ((nwW frames cores n doms).tasks i).r7) ∧ ((nwW frames cores n doms).tasks i).pc = ((nwW frames cores n doms).tasks i).pc) ∧ ((nwW frames cores n doms).tasks i).st = ((nwW frames cores n doms).tasks i).st) ∧ ((nwW frames cores n doms).tasks i).prio = ((nwW frames cores n doms).tasks i).prio) ∧ ((nwW frames cores n doms).tasks i).node = ((nwW frames cores n doms).tasks i).node) ∧ ((nwW frames cores n doms).tasks i).space = ((nwW frames cores n doms).tasks i).space) ∧ ((nwW frames cores n doms).tasks i).helper = ((nwW frames cores n doms).tasks i).helper) ∧ ((nwW frames cores n doms).tasks i).loc = ((nwW frames cores n doms).tasks i).loc) ∧ ((nwW frames cores n doms).tasks i).word = ((nwW frames cores n doms).tasks i).word) ∧ ((nwW frames cores n doms).tasks i).badge = ((nwW frames cores n doms).tasks i).badge) ∧ ((nwW frames cores n doms).tasks i).owes = ((nwW frames cores n doms).tasks i).owes) ∧ ((nwW frames cores n doms).tasks i).core = ((nwW frames cores n doms).tasks i).core) ∧ ((nwW frames cores n doms).tasks i).dom = ((nwW frames cores n
    doms).tasks i).dom) ∧ (nwW frames cores n doms).nLines = (nwW frames cores n doms).nLines ∧ ∀ (i : Nat), i < (nwW frames cores n doms).nLines → True ∧ (nwW frames cores n doms).linesN i = (nwW frames cores n doms).linesN i ∧ ∀ (i_1 : Nat), i_1 < (nwW frames cores n doms).linesN i → True ∧ (nwW frames cores n doms).lines i i_1 = (nwW frames cores n doms).lines i i_1) ∧ (nwW frames cores n doms).nBits = (nwW frames cores n doms).nBits ∧ ∀ (i : Nat), i < (nwW frames cores n doms).nBits → True ∧ (nwW frames cores n doms).bits i = (nwW frames cores n doms).bits i) ∧ (nwW frames cores n doms).nCores = (nwW frames cores n doms).nCores ∧ ∀ (i : Nat), i < (nwW frames cores n doms).nCores → True ∧ (nwW frames cores n doms).cores i = (nwW frames cores n doms).cores i) ∧ (nwW frames cores n doms).nReady = (nwW frames cores n doms).nReady ∧ ∀ (i : Nat), i < (nwW frames cores n doms).nReady → True ∧ (nwW frames cores n doms).readyN i = (nwW frames cores n doms).readyN i ∧ ∀ (i_1 : Nat), i_1 < (nwW frames cores n doms).readyN i → True ∧ (nwW frames cores n doms).ready i i_1 = (nwW frames cores n doms).ready i i_1) ∧ (nwW frames cores n doms).nTlbs = (nwW frames cores n doms).nTlbs ∧ ∀ (i : Nat), i < (nwW frames cores n doms).nTlbs → True ∧ (nwW frames cores n doms).tlbsN i = (nwW frames cores n doms).tlbsN i ∧ ∀ (i_1 : Nat), i_1 < (nwW frames cores n doms).tlbsN i → (((True ∧ ((nwW frames cores n doms).tlbs i i_1).sp = ((nwW frames cores n doms).tlbs i i_1).sp) ∧ ((nwW frames cores n
    doms).tlbs i i_1).pg = ((nwW frames cores n doms).tlbs i i_1).pg) ∧ ((nwW frames cores n doms).tlbs i i_1).fr = ((nwW frames cores n doms).tlbs i i_1).fr) ∧ ((nwW frames cores n doms).tlbs i i_1).wr = ((nwW frames cores n doms).tlbs i i_1).wr) ∧ (nwW frames cores n doms).nDoms = (nwW frames cores n doms).nDoms ∧ ∀ (i : Nat), i < (nwW frames cores n doms).nDoms → True ∧ (nwW frames cores n doms).doms i = (nwW frames cores n doms).doms i) ∧ (nwW frames cores n doms).time = (nwW frames cores n doms).time)
def V_worldNews (frames : Int) (cores : Int) (n : Nat) (doms : Nat → Int) : Prop :=
  (↑n : Int) ≤ (9223372036854775807 : Int) → (decide ((100 : Int) < (↑n : Int)) = true → true = true ∧ True) ∧ (decide ((100 : Int) < (↑n : Int)) = false → ((frames = frames ∧ cores = cores ∧ (n = n ∧ ∀ (i : Nat), i < n → True ∧ doms i = doms i) ∧ True) ∧ True ∧ True) ∧ True ∧ True ∧ (True ∧ True ∧ True ∧ True ∧ True ∧ True ∧ True ∧ True ∧ True ∧ True ∧ True) ∧ (True ∧ True) ∧ ((frames = frames ∧ cores = cores ∧ (n = n ∧ ∀ (i : Nat), i < n → True ∧ doms i = doms i) ∧ True) ∧ True ∧ True) ∧ True ∧ (True ∧ True ∧ True ∧ True ∧ True ∧ True ∧ True ∧ True ∧ True ∧ True ∧ True) ∧ (((nwE frames cores n doms = nwE frames cores n doms ∧ nwA frames cores n doms = nwA frames cores n doms) ∧ ((True ∧ nwE frames cores n doms = nwE frames cores n doms) ∧ nwA frames cores n doms = nwA frames cores n doms) ∧ True) ∧ True ∧ True) ∧ ((nwE frames cores n doms == nwE frames cores n doms && nwA frames cores n doms == nwA frames cores n doms) = true → ((K_worldNews_0 frames cores n doms) ∧ (K_worldNews_0 frames cores n doms) ∧ True) ∧ True ∧ True) ∧ (bif nwE frames cores n doms == nwE frames cores n doms && nwA frames cores n doms == nwA frames cores n doms then sameW (nwW frames cores n doms) (nwW frames cores n doms) else false) = true ∧ True)
theorem q_worldNews (frames : Int) (cores : Int) (n : Nat) (doms : Nat → Int) : evBody Tryd.prog false glE (mkT [(18, c_is), (37, c_newWorld), (38, c_new), (39, c_sameWorld)]) Tryd.f7 (a_worldNews frames cores n doms) (m_worldNews frames cores n doms) [] (r_worldNews frames cores n doms) (n_worldNews frames cores n doms) = V_worldNews frames cores n doms := by kernel_rfl
theorem pf_worldNews (frames : Int) (cores : Int) (n : Nat) (doms : Nat → Int) (hp : p_worldNews frames cores n doms) : FnC Tryd.prog glE 7 (a_worldNews frames cores n doms) (m_worldNews frames cores n doms) (r_worldNews frames cores n doms) (n_worldNews frames cores n doms) := by
  refine fn_of (sound_cons ok_is (sound_cons (ok_newWorld.up glN_glE) (sound_cons (ok_new.up glN_glE) (sound_cons (ok_sameWorld.up glN_glE) sound_nil)))) false Tryd.func7 [] (q_worldNews frames cores n doms) ?_
  unfold V_worldNews
  simp only [K_worldNews_0, true_and, and_true, and_self, implies_true, eq_self, Int.toNat_natCast, Nat.zero_add, Int.natCast_nonneg, Nat.not_lt_zero, false_implies, Nat.zero_le, Int.natCast_zero, Bool.cond_self]
  intro _ _
  simp [sameW_refl]
theorem ok_worldNews : FnOK Tryd.prog glE 7 c_worldNews := fnOK_of (fun l w => Tryd.call7 l w) fun x_ hp => pf_worldNews x_.frames x_.cores x_.n x_.doms hp
end Go.Proofs.YtfmaeiilbhpepaaDoor
