/- Tables of pages: walking through them. -/
import Derived.Test.YtdjilaofmdhikaaGreatDoorYG
set_option linter.unusedVariables false
set_option linter.unusedSimpArgs false
set_option linter.unusedVariables false
set_option linter.unusedSimpArgs false
set_option maxRecDepth 100000
namespace Go.Proofs.YtdjilaofmdhikaaGreatDoor
open Go.RowKit Go.Sy
def isW (x : Int) : Prop := 0 ≤ x ∧ x ≤ 65535
def frOf (n : Nat) : Int := bif decide (0 < n % 16) || decide (384 < n) then -1 else (n / 16 : Nat)
def entOf (x n : Int) : Int := bif x / 32768 % 2 == 0 || decide (n ≤ x % 1024) then -1 else x % 1024
def wkBad (n : Nat) (sp at_ : Int) : Bool := decide (frOf n < 0) || decide (sp < 0) || decide (frOf n ≤ sp) || farB at_ 4095
def wkT (n : Nat) (ram : Nat → Int) (sp at_ : Int) : Int := entOf (ram (sp * 16 + at_ / 256).toNat) (frOf n)
def wkX (n : Nat) (ram : Nat → Int) (sp at_ : Int) : Int := ram (wkT n ram sp at_ * 16 + at_ / 16 % 16).toNat
def wkP (n : Nat) (ram : Nat → Int) (sp at_ : Int) : Int := entOf (wkX n ram sp at_) (frOf n)
def wkE (n : Nat) (ram : Nat → Int) (sp at_ : Int) : Int := bif wkBad n sp at_ then 2 else bif decide (wkT n ram sp at_ < 0) || decide (wkP n ram sp at_ < 0) then 9 else 0
def wkF (n : Nat) (ram : Nat → Int) (sp at_ : Int) : Int := bif wkE n ram sp at_ == 0 then wkP n ram sp at_ else 0
def wkW (n : Nat) (ram : Nat → Int) (sp at_ : Int) : Bool := bif wkE n ram sp at_ == 0 then wkX n ram sp at_ / 16384 % 2 == 1 else false
theorem frOf_cases (n : Nat) : (frOf n = -1 ∧ (0 < n % 16 ∨ 384 < n)) ∨ (frOf n * 16 = n ∧ 0 ≤ frOf n ∧ frOf n ≤ 24) := by
  unfold frOf
  by_cases h1 : 0 < n % 16
  · left; simp [h1]
  · by_cases h2 : 384 < n
    · left; simp [h2]
    · right; simp only [h1, h2, decide_false, Bool.or_false, cond_false]; omega
theorem entOf_cases {x : Int} (hx : 0 ≤ x) (m : Int) : (entOf x m = -1 ∧ (x / 32768 % 2 = 0 ∨ m ≤ x % 1024)) ∨ (x / 32768 % 2 = 1 ∧ entOf x m = x % 1024 ∧ 0 ≤ entOf x m ∧ entOf x m < m) := by
  by_cases h1 : x / 32768 % 2 = 0
  · left; unfold entOf; simp [h1]
  · by_cases h2 : m ≤ x % 1024
    · left; unfold entOf; simp [h2]
    · right
      have e : entOf x m = x % 1024 := by
        unfold entOf
        rw [show (x / 32768 % 2 == 0) = false from beq_eq_false_iff_ne.2 h1, show decide (m ≤ x % 1024) = false from decide_eq_false h2]; rfl
      rw [e]; omega
theorem bitN (k X : Nat) : X &&& 2 ^ k = X / 2 ^ k % 2 * 2 ^ k := by
  have hk : X.testBit k = decide (X / 2 ^ k % 2 = 1) := Nat.testBit_eq_decide_div_mod_eq
  apply Nat.eq_of_testBit_eq
  intro i
  rw [Nat.testBit_and, Nat.testBit_two_pow]
  rcases Nat.mod_two_eq_zero_or_one (X / 2 ^ k) with h | h
  · rw [h]
    by_cases e : k = i
    · subst e; simp [hk, h]
    · simp [e]
  · rw [h, Nat.one_mul, Nat.testBit_two_pow]
    by_cases e : k = i
    · subst e; simp [hk, h]
    · simp [e]
theorem bit64 (k : Nat) (hk : k ≤ 62) {x m : Int} (hm : m = (2 ^ k : Nat)) (hx : 0 ≤ x) (hx1 : x ≤ 65535) : bitsI .and .i64 x m = x / m % 2 * m := by
  subst hm
  have hp : (2 : Nat) ^ k < 9223372036854775808 := Nat.lt_of_le_of_lt (Nat.pow_le_pow_right (by omega) hk) (by decide)
  obtain ⟨X, rfl⟩ : ∃ X : Nat, x = X := ⟨x.toNat, by omega⟩
  rw [and64 (by omega) (by omega) (Int.natCast_nonneg _) (show ((2 ^ k : Nat) : Int) < 9223372036854775808 from Int.ofNat_lt.2 hp), Int.toNat_natCast, Int.toNat_natCast, bitN]
  simp
theorem entOf_cond {x : Int} (hx : 0 ≤ x) (hx1 : x ≤ 65535) (m : Int) : (bif bitsI .and .i64 x 32768 == 0 then true else decide (m ≤ bitsI .and .i64 x 1023)) = decide (entOf x m < 0) ∧ (entOf x m < 0 ∨ bitsI .and .i64 x 1023 = entOf x m) := by
  rw [bit64 15 (by omega) (by decide) hx hx1, mask64 10 (by omega) (by decide)]
  have e10 : ((2 : Int) ^ 10) = 1024 := by decide
  rw [e10]
  rcases entOf_cases hx m with ⟨h1, h2⟩ | ⟨h1, h2, h3, h4⟩
  · rw [h1]
    refine ⟨?_, .inl (by decide)⟩
    rcases h2 with h2 | h2
    · rw [h2]; rfl
    · rw [show decide (m ≤ x % 1024) = true from decide_eq_true h2]; cases (x / 32768 % 2 * 32768 == 0) <;> rfl
  · rw [h1, show decide (m ≤ x % 1024) = false from decide_eq_false (by omega), show decide (entOf x m < 0) = false from decide_eq_false (by omega)]
    exact ⟨rfl, .inr h2.symm⟩
structure X_framesOf where
  (n : Nat) (ram : Nat → Int)
def s_framesOf : Sy.Spec := ⟨X_framesOf, fun ⟨n, ram⟩ => [.sl true 1 n (fun i_ _ => .v (.int .i64 (ram i_)))], fun _ => [], fun _ => True, fun ⟨n, _⟩ => .v (.int .i64 (frOf n)), fun _ => [],
  fun args mem => match args with | [a0] => some ⟨slN a0, fun i => intD (slF a0 i 0)⟩ | _ => none⟩
def c_framesOf : Con := ⟨[], s_framesOf.g, none⟩
def V_framesOf : X_framesOf → Prop := fun ⟨n, _⟩ => let a0:=(n:Int);let b0:=cond (decide (0<a0%16)) true (decide (384<a0));let c0:Int:=a0/16;a0≤9223372036854775807→(0≤a0∧(0:Int)<16)∧(b0=true→(-1)=frOf n∧True)∧(b0=false→a0≤9223372036854775807→(0≤a0∧(0:Int)<16∧w64 c0=c0)∧c0=frOf n∧True)
set_option maxHeartbeats 1000000 in
theorem ok_framesOf : FnOK Tryz.prog glN 229 c_framesOf := ok_of .nil false Tryz.call229 Tryz.func229 (fun _ => []) (V := V_framesOf) (fun _ => by kernel_rfl) fun ⟨n, ram⟩ hp => by
  dsimp only [V_framesOf, tn, w64]
  simp only [std, stb, eq_self, implies_true, Bool.cond_self, Bool.or_eq_true, Bool.or_eq_false_iff, Bool.and_eq_true, Bool.and_eq_false_iff, decide_eq_true_eq, decide_eq_false_iff_not, beq_iff_eq, beq_eq_false_iff_ne, bne_iff_ne, bne_eq_false_iff_eq, Bool.not_eq_true', Bool.not_eq_false', ne_eq, Int.not_lt, Int.not_le]
  intro _
  rcases frOf_cases n with ⟨h1, h2⟩ | ⟨h1, h2, h3⟩
  · exact ⟨by omega, fun _ => h1.symm, fun h => absurd h2 (by omega)⟩
  · exact ⟨by omega, fun h => by omega, fun h _ => ⟨⟨by omega, by rw [IntKind.wrap_i64]; omega⟩, by omega⟩⟩
structure X_entry where
  (x n : Int)
def s_entry : Sy.Spec := ⟨X_entry, fun ⟨x, n⟩ => [.v (.int .i64 x), .v (.int .i64 n)], fun _ => [], fun ⟨x, _⟩ => 0 ≤ x ∧ x ≤ 65535, fun ⟨x, n⟩ => .v (.int .i64 (entOf x n)), fun _ => [],
  fun args mem => match args with | [a0, a1] => some ⟨intD (a0), intD (a1)⟩ | _ => none⟩
def c_entry : Con := ⟨[], s_entry.g, none⟩
def V_entry : X_entry → Prop := fun ⟨x, n⟩ => let a0:Int:=x/32768;let b0:=a0%2==0;let c0:=0≤x∧(0:Int)<1024;let d0:=cond b0 true (decide (n≤x%1024));(0≤x∧(0:Int)<32768∧w64 a0=a0)∧(0≤a0∧(0:Int)<2)∧(b0=false→c0)∧(d0=true→(-1)=entOf x n∧True)∧(d0=false→c0∧x%1024=entOf x n∧True)
set_option maxHeartbeats 1000000 in
theorem ok_entry : FnOK Tryz.prog glN 230 c_entry := ok_of .nil false Tryz.call230 Tryz.func230 (fun _ => []) (V := V_entry) (fun _ => by kernel_rfl) fun ⟨x, n⟩ hp => by
  dsimp only [s_entry] at hp
  dsimp only [V_entry, tn, w64]
  simp only [std, stb, eq_self, implies_true, Bool.cond_self, Bool.or_eq_true, Bool.or_eq_false_iff, Bool.and_eq_true, Bool.and_eq_false_iff, decide_eq_true_eq, decide_eq_false_iff_not, beq_iff_eq, beq_eq_false_iff_ne, bne_iff_ne, bne_eq_false_iff_eq, Bool.not_eq_true', Bool.not_eq_false', ne_eq, Int.not_lt, Int.not_le]
  obtain ⟨hp, hp1⟩ := hp
  rcases entOf_cases hp n with ⟨h1, h2⟩ | ⟨h1, h2, h3, h4⟩
  · exact ⟨⟨by omega, by omega, by rw [IntKind.wrap_i64]; omega⟩, by omega, fun _ => by omega, fun _ => h1.symm, fun h => by omega⟩
  · exact ⟨⟨by omega, by omega, by rw [IntKind.wrap_i64]; omega⟩, by omega, fun _ => by omega, fun h => by omega, fun h => ⟨by omega, h2.symm⟩⟩
structure X_walked where
  (n : Nat) (ram : Nat → Int) (sp at_ : Int)
def s_walked : Sy.Spec := ⟨X_walked, fun ⟨n, ram, sp, at_⟩ => [.sl true 1 n (fun i_ _ => .v (.int .i64 (ram i_))), .v (.int .i64 sp), .v (.int .i64 at_)], fun _ => [], fun ⟨n, ram, _, _⟩ => ∀ i, i < n → isW (ram i), fun ⟨n, ram, sp, at_⟩ => .tp 3 (lsv [.v (.int .i64 (wkF n ram sp at_)), .v (.bool (wkW n ram sp at_)), .v (.int .i64 (wkE n ram sp at_))]), fun _ => [],
  fun args mem => match args with | [a0, a1, a2] => some ⟨slN a0, fun i => intD (slF a0 i 0), intD (a1), intD (a2)⟩ | _ => none⟩
def c_walked : Con := ⟨[], s_walked.g, none⟩
def V_walked : X_walked → Prop := fun ⟨n, ram, sp, at_⟩ => let a0:=frOf n;let b0:=cond (cond (decide (a0<0)) true (decide (sp<0))) true (decide (a0≤sp));let c0:=cond b0 true (farB at_ 4095);let d0:=wkF n ram sp at_;let e0:=wkW n ram sp at_;let g0:=(True∧0=d0)∧false=e0;let h0:=wkE n ram sp at_;let k0:Int:=sp*16+at_/256;let l0:Int:=ram (Int.toNat k0);let o0:=a0=a0∧True;let q0:=entOf l0 a0;let r0:=decide (q0<0);let u0:=(g0∧9=h0)∧True;let v0:Int:=q0*16;let w0:Int:=at_/16;let x0:Int:=v0+w0%16;let y0:Int:=ram (Int.toNat x0);let z0:=0≤y0;let a1:=entOf y0 a0;let b1:=decide (a1<0);let c1:Int:=y0/16384;(((n=n∧(∀d1:Nat,d1<n→True∧ram d1=ram d1))∧True)∧True∧True)∧(b0=false→(at_=at_∧(4095:Int)=4095∧True)∧True∧True)∧(c0=true→(g0∧2=h0)∧True)∧(c0=false→w64 (sp*16)=sp*16∧(0≤at_∧(0:Int)<256∧w64 (at_/256)=at_/256)∧w64 k0=k0∧(0≤k0∧k0<(n:Int))∧((l0=l0∧o0)∧True∧0≤l0∧l0≤65535)∧(r0=true→u0)∧(r0=false→w64 v0=v0∧(0≤at_∧(0:Int)<16∧w64 w0=w0)∧(0≤w0∧(0:Int)<16)∧w64 x0=x0∧(0≤x0∧x0<(n:Int))∧((y0=y0∧o0)∧True∧z0∧y0≤65535)∧(b1=true→u0)∧(b1=false→(z0∧(0:Int)<16384∧w64 c1=c1)∧(0≤c1∧(0:Int)<2)∧(((True∧a1=d0)∧(c1%2==1)=e0)∧0=h0)∧True)))
set_option maxHeartbeats 1000000 in
theorem ok_walked : FnOK Tryz.prog glN 215 c_walked := ok_of (.cons ok_far (.cons ok_framesOf (.cons ok_entry .nil))) false Tryz.call215 Tryz.func215 (fun _ => []) (V := V_walked) (fun _ => by kernel_rfl) fun ⟨n, ram, sp, at_⟩ hp => by
  dsimp only [s_walked] at hp
  dsimp only [V_walked, tn, w64]
  have hx : ∀ z : Int, 0 ≤ z → z < n → isW (ram z.toNat) := fun z h1 h2 => hp _ (by omega)
  unfold isW at hx
  have wr : ∀ z : Int, -100000 ≤ z → z ≤ 100000 → IntKind.i64.wrap z = z := fun z h1 h2 => by rw [IntKind.wrap_i64]; omega
  have hb : ∀ b, wkBad n sp at_ = b → (b = true ∧ wkE n ram sp at_ = 2 ∧ wkF n ram sp at_ = 0 ∧ wkW n ram sp at_ = false) ∨ (b = false ∧ frOf n * 16 = n ∧ 0 ≤ sp ∧ sp < frOf n ∧ 0 ≤ at_ ∧ at_ ≤ 4095 ∧ frOf n ≤ 24) := fun b h => by
    cases b with
    | true => left; simp [wkE, wkF, wkW, h]
    | false =>
      right
      simp [wkBad, farB] at h
      rcases frOf_cases n with ⟨f1, f2⟩ | ⟨f1, f2, f3⟩
      · omega
      · exact ⟨rfl, by omega⟩
  have hbb : (bif bif bif decide (frOf n < 0) then true else decide (sp < 0) then true else decide (frOf n ≤ sp) then true else farB at_ 4095) = wkBad n sp at_ := by
    unfold wkBad; cases decide (frOf n < 0) <;> cases decide (sp < 0) <;> cases decide (frOf n ≤ sp) <;> rfl
  simp only [std, eq_self, implies_true, Bool.cond_self]
  rw [hbb]
  refine ⟨fun h => ?_, fun h => ?_⟩
  · rcases hb _ h with ⟨_, h1, h2, h3⟩ | ⟨h0, _⟩
    · rw [h1, h2, h3]; exact ⟨⟨rfl, rfl⟩, rfl⟩
    · cases h0
  rcases hb _ h with ⟨h0, _⟩ | ⟨_, f1, p1, p2, q1, q2, f3⟩
  · cases h0
  have x1 := hx (sp * 16 + at_ / 256) (by omega) (by omega)
  have hT : entOf (ram (sp * 16 + at_ / 256).toNat) (frOf n) = wkT n ram sp at_ := rfl
  rw [hT]
  refine ⟨wr _ (by omega) (by omega), ⟨by omega, by omega, wr _ (by omega) (by omega)⟩, wr _ (by omega) (by omega), by omega, x1, ?_⟩
  rcases entOf_cases x1.1 (frOf n) with ⟨t1, t2⟩ | ⟨t1, t2, t3, t4⟩
  · rw [hT] at t1
    refine ⟨fun _ => ?_, fun h => by simp [t1] at h⟩
    have e : wkE n ram sp at_ = 9 := by simp [wkE, h, t1]
    exact ⟨⟨by simp [wkF, e], by simp [wkW, e]⟩, e.symm⟩
  rw [hT] at t2 t3 t4
  refine ⟨fun h => by simp at h; omega, fun _ => ?_⟩
  have x2 := hx (wkT n ram sp at_ * 16 + at_ / 16 % 16) (by omega) (by omega)
  have hX : ram (wkT n ram sp at_ * 16 + at_ / 16 % 16).toNat = wkX n ram sp at_ := rfl
  rw [hX] at x2 ⊢
  refine ⟨wr _ (by omega) (by omega), ⟨by omega, by omega, wr _ (by omega) (by omega)⟩, by omega, wr _ (by omega) (by omega), by omega, x2, ?_⟩
  have hP : entOf (wkX n ram sp at_) (frOf n) = wkP n ram sp at_ := rfl
  rw [hP]
  rcases entOf_cases x2.1 (frOf n) with ⟨u1, u2⟩ | ⟨u1, u2, u3, u4⟩
  · rw [hP] at u1
    refine ⟨fun _ => ?_, fun h => by simp [u1] at h⟩
    have e : wkE n ram sp at_ = 9 := by simp [wkE, h, u1]
    exact ⟨⟨by simp [wkF, e], by simp [wkW, e]⟩, e.symm⟩
  rw [hP] at u2 u3 u4
  have d1 : decide (wkT n ram sp at_ < 0) = false := decide_eq_false (by omega)
  have d2 : decide (wkP n ram sp at_ < 0) = false := decide_eq_false (by omega)
  have e : wkE n ram sp at_ = 0 := by simp [wkE, h, d1, d2]
  refine ⟨fun h => by simp at h; omega, fun _ => ?_⟩
  have eF : wkF n ram sp at_ = wkP n ram sp at_ := by simp [wkF, e]
  have eW : wkW n ram sp at_ = (wkX n ram sp at_ / 16384 % 2 == 1) := by simp [wkW, e]
  rw [eF, eW, e]
  repeat' (first | exact trivial | rfl | omega | exact wr _ (by omega) (by omega) | refine And.intro ?_ ?_)
structure X_frames where
  (n : Nat) (ram : Nat → Int)
def s_frames : Sy.Spec := ⟨X_frames, fun ⟨n, ram⟩ => [.sl true 1 n (fun i_ _ => .v (.int .i64 (ram i_)))], fun _ => [], fun _ => True, fun ⟨n, _⟩ => .v (.int .i64 (frOf n)), fun _ => [],
  fun args mem => match args with | [a0] => some ⟨slN a0, fun i => intD (slF a0 i 0)⟩ | _ => none⟩
def c_frames : Con := ⟨[], s_frames.g, none⟩
def V_frames : X_frames → Prop := fun ⟨n, _⟩ => let a0:=(n:Int);let b0:=cond (a0%16 !=0) true (decide (384<a0));let c0:Int:=a0/16;a0≤9223372036854775807→(0≤a0∧(0:Int)<16)∧(b0=true→(-1)=frOf n∧True)∧(b0=false→a0≤9223372036854775807→(0≤a0∧(0:Int)<16∧w64 c0=c0)∧c0=frOf n∧True)
set_option maxHeartbeats 1000000 in
theorem ok_frames : FnOK Tryz.prog glN 224 c_frames := ok_of .nil false Tryz.call224 Tryz.func224 (fun _ => []) (V := V_frames) (fun _ => by kernel_rfl) fun ⟨n, ram⟩ hp => by
  dsimp only [V_frames, tn, w64]
  simp only [std, stb, eq_self, implies_true, Bool.cond_self, Bool.or_eq_true, Bool.or_eq_false_iff, Bool.and_eq_true, Bool.and_eq_false_iff, decide_eq_true_eq, decide_eq_false_iff_not, beq_iff_eq, beq_eq_false_iff_ne, bne_iff_ne, bne_eq_false_iff_eq, Bool.not_eq_true', Bool.not_eq_false', ne_eq, Int.not_lt, Int.not_le]
  intro _
  rcases frOf_cases n with ⟨h1, h2⟩ | ⟨h1, h2, h3⟩
  · exact ⟨by omega, fun _ => h1.symm, fun h => absurd h2 (by omega)⟩
  · exact ⟨by omega, fun h => by omega, fun h _ => ⟨⟨by omega, by rw [IntKind.wrap_i64]; omega⟩, by omega⟩⟩
structure X_walk where
  (n : Nat) (ram : Nat → Int) (sp at_ : Int)
def s_walk : Sy.Spec := ⟨X_walk, fun ⟨n, ram, sp, at_⟩ => [.sl true 1 n (fun i_ _ => .v (.int .i64 (ram i_))), .v (.int .i64 sp), .v (.int .i64 at_)], fun _ => [], fun ⟨n, ram, _, _⟩ => ∀ i, i < n → isW (ram i), fun ⟨n, ram, sp, at_⟩ => .tp 3 (lsv [.v (.int .i64 (wkF n ram sp at_)), .v (.bool (wkW n ram sp at_)), .er 35 116 (wkE n ram sp at_) (-1)]), fun _ => [],
  fun args mem => match args with | [a0, a1, a2] => some ⟨slN a0, fun i => intD (slF a0 i 0), intD (a1), intD (a2)⟩ | _ => none⟩
def c_walk : Con := ⟨[], s_walk.g, none⟩
def V_walk : X_walk → Prop := fun ⟨n, ram, sp, at_⟩ => let a0:=frOf n;let b0:=cond (cond (cond (cond (decide (a0<0)) true (decide (sp<0))) true (decide (a0≤sp))) true (decide (at_<0))) true (decide (4096≤at_));let c0:=wkF n ram sp at_;let d0:=wkW n ram sp at_;let e0:=(True∧0=c0)∧false=d0;let g0:=wkE n ram sp at_;let h0:=((-1):Int)=(-1);let k0:Int:=sp*16+at_/256;let l0:Int:=ram (Int.toNat k0);let o0:=bitsI BinOp.and IntKind.i64 l0 1023;let q0:=cond (bitsI BinOp.and IntKind.i64 l0 32768==0) true (decide (a0≤o0));let r0:=(e0∧(9:Int)≠0∧g0=9∧h0)∧True;let u0:Int:=o0*16;let v0:Int:=at_/16;let w0:Int:=u0+v0%16;let x0:Int:=ram (Int.toNat w0);let y0:=bitsI BinOp.and IntKind.i64 x0 1023;let z0:=cond (bitsI BinOp.and IntKind.i64 x0 32768==0) true (decide (a0≤y0));(((n=n∧(∀a1:Nat,a1<n→True∧ram a1=ram a1))∧True)∧True∧True)∧(b0=true→(e0∧(2:Int)≠0∧g0=2∧h0)∧True)∧(b0=false→w64 (sp*16)=sp*16∧(0≤at_∧(0:Int)<256∧w64 (at_/256)=at_/256)∧w64 k0=k0∧(0≤k0∧k0<(n:Int))∧(q0=true→r0)∧(q0=false→w64 u0=u0∧(0≤at_∧(0:Int)<16∧w64 v0=v0)∧(0≤v0∧(0:Int)<16)∧w64 w0=w0∧(0≤w0∧w0<(n:Int))∧(z0=true→r0)∧(z0=false→(((True∧y0=c0)∧(bitsI BinOp.and IntKind.i64 x0 16384 !=0)=d0)∧g0=0∧h0)∧True)))
set_option maxHeartbeats 1000000 in
theorem ok_walk : FnOK Tryz.prog glN 205 c_walk := ok_of (.cons ok_frames .nil) false Tryz.call205 Tryz.func205 (fun _ => []) (V := V_walk) (fun _ => by kernel_rfl) fun ⟨n, ram, sp, at_⟩ hp => by
  dsimp only [s_walk] at hp
  dsimp only [V_walk, tn, w64]
  have hx : ∀ z : Int, 0 ≤ z → z < n → isW (ram z.toNat) := fun z h1 h2 => hp _ (by omega)
  unfold isW at hx
  have wr : ∀ z : Int, -100000 ≤ z → z ≤ 100000 → IntKind.i64.wrap z = z := fun z h1 h2 => by rw [IntKind.wrap_i64]; omega
  have hb : ∀ b, wkBad n sp at_ = b → (b = true ∧ wkE n ram sp at_ = 2 ∧ wkF n ram sp at_ = 0 ∧ wkW n ram sp at_ = false) ∨ (b = false ∧ frOf n * 16 = n ∧ 0 ≤ sp ∧ sp < frOf n ∧ 0 ≤ at_ ∧ at_ ≤ 4095 ∧ frOf n ≤ 24) := fun b h => by
    cases b with
    | true => left; simp [wkE, wkF, wkW, h]
    | false =>
      right
      simp [wkBad, farB] at h
      rcases frOf_cases n with ⟨f1, f2⟩ | ⟨f1, f2, f3⟩
      · omega
      · exact ⟨rfl, by omega⟩
  have hbb : (bif bif bif bif decide (frOf n < 0) then true else decide (sp < 0) then true else decide (frOf n ≤ sp) then true else decide (at_ < 0) then true else decide (4096 ≤ at_)) = wkBad n sp at_ := by
    unfold wkBad farB; rw [show decide (4096 ≤ at_) = decide (4095 < at_) from decide_eq_decide.2 (by omega)]; cases decide (frOf n < 0) <;> cases decide (sp < 0) <;> cases decide (frOf n ≤ sp) <;> cases decide (at_ < 0) <;> rfl
  simp only [std, eq_self, implies_true, Bool.cond_self]
  rw [hbb]
  refine ⟨fun h => ?_, fun h => ?_⟩
  · rcases hb _ h with ⟨_, h1, h2, h3⟩ | ⟨h0, _⟩
    · rw [h1, h2, h3]; exact ⟨⟨rfl, rfl⟩, by decide, rfl⟩
    · cases h0
  rcases hb _ h with ⟨h0, _⟩ | ⟨_, f1, p1, p2, q1, q2, f3⟩
  · cases h0
  have x1 := hx (sp * 16 + at_ / 256) (by omega) (by omega)
  have hT : entOf (ram (sp * 16 + at_ / 256).toNat) (frOf n) = wkT n ram sp at_ := rfl
  obtain ⟨c1, c2⟩ := entOf_cond x1.1 x1.2 (frOf n)
  rw [c1]
  rw [hT] at c2 ⊢
  refine ⟨wr _ (by omega) (by omega), ⟨by omega, by omega, wr _ (by omega) (by omega)⟩, wr _ (by omega) (by omega), by omega, ?_⟩
  rcases entOf_cases x1.1 (frOf n) with ⟨t1, t2⟩ | ⟨t1, t2, t3, t4⟩
  · rw [hT] at t1
    refine ⟨fun _ => ?_, fun h => by simp [t1] at h⟩
    have e : wkE n ram sp at_ = 9 := by simp [wkE, h, t1]
    exact ⟨⟨by simp [wkF, e], by simp [wkW, e]⟩, by decide, e⟩
  rw [hT] at t2 t3 t4
  refine ⟨fun h => by simp at h; omega, fun _ => ?_⟩
  replace c2 := c2.resolve_left (by omega)
  rw [c2]
  have x2 := hx (wkT n ram sp at_ * 16 + at_ / 16 % 16) (by omega) (by omega)
  have hX : ram (wkT n ram sp at_ * 16 + at_ / 16 % 16).toNat = wkX n ram sp at_ := rfl
  rw [hX] at x2 ⊢
  refine ⟨wr _ (by omega) (by omega), ⟨by omega, by omega, wr _ (by omega) (by omega)⟩, by omega, wr _ (by omega) (by omega), by omega, ?_⟩
  obtain ⟨d1, d2⟩ := entOf_cond x2.1 x2.2 (frOf n)
  rw [d1]
  have hP : entOf (wkX n ram sp at_) (frOf n) = wkP n ram sp at_ := rfl
  rw [hP] at d2 ⊢
  rcases entOf_cases x2.1 (frOf n) with ⟨u1, u2⟩ | ⟨u1, u2, u3, u4⟩
  · rw [hP] at u1
    refine ⟨fun _ => ?_, fun h => by simp [u1] at h⟩
    have e : wkE n ram sp at_ = 9 := by simp [wkE, h, u1]
    exact ⟨⟨by simp [wkF, e], by simp [wkW, e]⟩, by decide, e⟩
  rw [hP] at u2 u3 u4
  have d3 : decide (wkT n ram sp at_ < 0) = false := decide_eq_false (by omega)
  have d4 : decide (wkP n ram sp at_ < 0) = false := decide_eq_false (by omega)
  have e : wkE n ram sp at_ = 0 := by simp [wkE, h, d3, d4]
  refine ⟨fun h => by simp at h; omega, fun _ => ?_⟩
  have eF : wkF n ram sp at_ = wkP n ram sp at_ := by simp [wkF, e]
  have eW : wkW n ram sp at_ = (wkX n ram sp at_ / 16384 % 2 == 1) := by simp [wkW, e]
  replace d2 := d2.resolve_left (by omega)
  rw [eF, eW, e, d2, bit64 14 (by omega) (by decide) x2.1 x2.2]
  have e14 : (wkX n ram sp at_ / 16384 % 2 * 16384 != 0) = (wkX n ram sp at_ / 16384 % 2 == 1) := by
    have hz : wkX n ram sp at_ / 16384 % 2 = 0 ∨ wkX n ram sp at_ / 16384 % 2 = 1 := by omega
    rcases hz with h | h <;> rw [h] <;> rfl
  rw [e14]
  repeat' (first | exact trivial | rfl | omega | exact wr _ (by omega) (by omega) | refine And.intro ?_ ?_)
end Go.Proofs.YtdjilaofmdhikaaGreatDoor
set_option linter.unusedVariables false
set_option linter.unusedSimpArgs false
set_option maxRecDepth 100000
namespace Go.Proofs.YtdjilaofmdhikaaGreatDoor
open Go.RowKit Go.Sy
def keyBad1 (k b l m : Int) : Bool := decide (b < 0) || decide (24 < b) || decide (l < 1) || decide (24 < l) || decide (24 < b + l) || (k != 1 && (l != 1 || m != 0)) || (k == 1 && farB m l)
def keyBad2 (k g : Int) : Bool := farB g 65535 || (decide (0 < g) && k != 7 && k != 8)
def keyNo (k b l m r g : Int) : Int :=
  bif farB k 8 then 3 else
  bif k == 0 then (bif b != 0 || l != 0 || m != 0 || r != 0 || g != 0 then 2 else 0) else
  bif keyBad1 k b l m then 2 else bif farB r 7 then 4 else bif keyBad2 k g then 2 else 0
theorem keyNo_range {k b l m r g : Int} (h : keyNo k b l m r g = 0) : 0 ≤ k ∧ k ≤ 8 ∧ 0 ≤ b ∧ b ≤ 24 ∧ 0 ≤ l ∧ l ≤ 24 ∧ 0 ≤ m ∧ m ≤ 24 ∧ 0 ≤ r ∧ r ≤ 7 ∧ 0 ≤ g ∧ g ≤ 65535 := by
  unfold keyNo keyBad1 keyBad2 farB at h
  simp only [cond_eq_ite, bne, Bool.or_eq_true, Bool.and_eq_true, Bool.not_eq_true', decide_eq_true_eq, beq_iff_eq, beq_eq_false_iff_ne] at h
  repeat' split at h
  all_goals first | (cases h; done) | omega
structure X_keyMay where
  (k b l m r g : Int)
def s_keyMay : Sy.Spec := ⟨X_keyMay, fun ⟨k, b, l, m, r, g⟩ => [.ag 6 (lsv [.v (.int .i64 k), .v (.int .i64 b), .v (.int .i64 l), .v (.int .i64 m), .v (.int .i64 r), .v (.int .i64 g)])], fun _ => [], fun _ => True, fun ⟨k, b, l, m, r, g⟩ => .v (.int .i64 (keyNo k b l m r g)), fun _ => [],
  fun args mem => match args with | [a0] => some ⟨intD (agD a0 0), intD (agD a0 1), intD (agD a0 2), intD (agD a0 3), intD (agD a0 4), intD (agD a0 5)⟩ | _ => none⟩
def c_keyMay : Con := ⟨[], s_keyMay.g, none⟩
def V_keyMay : X_keyMay → Prop := fun ⟨k, b, l, m, r, g⟩ => let a0:=True∧True;let b0:=keyNo k b l m r g;let c0:=cond (cond (cond (cond (b !=0) true (l !=0)) true (m !=0)) true (r !=0)) true (g !=0);let d0:=2=b0∧True;let e0:=0=b0∧True;let g0:=cond (cond (cond (cond (decide (b<0)) true (decide (24<b))) true (decide (l<1))) true (decide (24<l))) true (decide (24<w64 (b+l)));let h0:=cond (k !=1) (cond (l !=1) true (m !=0)) false;let k0:=cond h0 true (cond (k==1) (farB m l) false);let l0:=cond (farB g 65535) true (cond (cond (decide (0<g)) (k !=7) false) (k !=8) false);True∧((k=k∧(8:Int)=8∧True)∧a0)∧(farB k 8=true→3=b0∧True)∧(farB k 8=false→((k==0)=true→(c0=true→d0)∧(c0=false→e0))∧((k==0)=false→(g0=true→d0)∧(g0=false→((k==1)=true→h0=false→(m=m∧l=l∧True)∧a0)∧(k0=true→d0)∧(k0=false→((r=r∧(7:Int)=7∧True)∧a0)∧(farB r 7=true→4=b0∧True)∧(farB r 7=false→((g=g∧(65535:Int)=65535∧True)∧a0)∧(l0=true→d0)∧(l0=false→e0))))))
theorem ok_keyMay : FnOK Tryz.prog glN 217 c_keyMay := ok_of (.cons ok_far .nil) true Tryz.call217 Tryz.func217 (fun _ => []) (V := V_keyMay) (fun _ => by kernel_rfl) fun ⟨k, b, l, m, r, g⟩ hp => by
  dsimp only [V_keyMay, tn, w64]
  have hw : (bif bif bif bif decide (b < (0 : Int)) then true else decide ((24 : Int) < b) then true else decide (l < (1 : Int)) then true else decide ((24 : Int) < l) then true else decide ((24 : Int) < IntKind.i64.wrap (b + l))) =
      (decide (b < 0) || decide (24 < b) || decide (l < 1) || decide (24 < l) || decide (24 < b + l)) := by
    by_cases h : b < 0 ∨ 24 < b ∨ l < 1 ∨ 24 < l
    · rcases h with h | h | h | h <;> simp [h]
    · have e : IntKind.i64.wrap (b + l) = b + l := by rw [IntKind.wrap_i64]; omega
      rw [e]
      cases decide (b < 0) <;> cases decide (24 < b) <;> cases decide (l < 1) <;> cases decide (24 < l) <;> rfl
  rw [hw]
  unfold keyNo keyBad1 keyBad2 farB
  repeat' (first | exact trivial | refine And.intro ?_ ?_ | intro h)
  all_goals (clear hw)
  all_goals (try simp only [Bool.cond_true_left, Bool.cond_false_right] at *)
  all_goals (simp only [cond_eq_ite, farB, bne, Bool.or_eq_true, Bool.and_eq_true, Bool.not_eq_true', Bool.not_eq_false', Bool.and_eq_false_iff, decide_eq_true_eq, beq_iff_eq, beq_eq_false_iff_ne, Bool.or_eq_false_iff, decide_eq_false_iff_not, Bool.ite_eq_true_distrib, Bool.ite_eq_false_distrib] at *)
  all_goals (repeat' split)
  all_goals (first | rfl | (exfalso; simp_all <;> omega) | omega)
structure X_wordCheck where
  (k b l m r g : Int)
def s_wordCheck : Sy.Spec := ⟨X_wordCheck, fun ⟨k, b, l, m, r, g⟩ => [.ag 6 (lsv [.v (.int .i64 k), .v (.int .i64 b), .v (.int .i64 l), .v (.int .i64 m), .v (.int .i64 r), .v (.int .i64 g)])], fun _ => [], fun _ => True, fun ⟨k, b, l, m, r, g⟩ => .er 35 116 (keyNo k b l m r g) (-1), fun _ => [],
  fun args mem => match args with | [a0] => some ⟨intD (agD a0 0), intD (agD a0 1), intD (agD a0 2), intD (agD a0 3), intD (agD a0 4), intD (agD a0 5)⟩ | _ => none⟩
def c_wordCheck : Con := ⟨[], s_wordCheck.g, none⟩
def V_wordCheck : X_wordCheck → Prop := fun ⟨k, b, l, m, r, g⟩ => let a0:=cond (decide (k<0)) true (decide (8<k));let b0:=keyNo k b l m r g;let c0:=((-1):Int)=(-1);let d0:=!(k==0&&(b==0&&(l==0&&(m==0&&(r==0&&(g==0&&true))))));let e0:=((2:Int)≠0∧b0=2∧c0)∧True;let g0:=(b0=0∧c0)∧True;let h0:=cond (cond (cond (decide (b<0)) true (decide (24≤b))) true (decide (l<1))) true (decide (w64 (24-b)<l));let k0:=cond (cond (cond (cond (k !=1) (l !=1) false) true (decide (m<0))) true (decide (l<m))) true (cond (k !=1) (m !=0) false);let l0:=cond (decide (r<0)) true (decide (7<r));let o0:=cond (cond (decide (g<0)) true (decide (65535<g))) true (cond (cond (g !=0) (k !=7) false) (k !=8) false);True∧(a0=true→((3:Int)≠0∧b0=3∧c0)∧True)∧(a0=false→((k==0)=true→(d0=true→e0)∧(d0=false→g0))∧((k==0)=false→(h0=true→e0)∧(h0=false→(k0=true→e0)∧(k0=false→(l0=true→((4:Int)≠0∧b0=4∧c0)∧True)∧(l0=false→(o0=true→e0)∧(o0=false→g0))))))
theorem ok_wordCheck : FnOK Tryz.prog glN 186 c_wordCheck := ok_of .nil true Tryz.call186 Tryz.func186 (fun _ => []) (V := V_wordCheck) (fun _ => by kernel_rfl) fun ⟨k, b, l, m, r, g⟩ hp => by
  dsimp only [V_wordCheck, tn, w64]
  have hw : (bif bif bif decide (b < (0 : Int)) then true else decide ((24 : Int) ≤ b) then true else decide (l < (1 : Int)) then true else decide (IntKind.i64.wrap (24 - b) < l)) =
      (decide (b < 0) || decide (24 < b) || decide (l < 1) || decide (24 < l) || decide (24 < b + l)) := by
    by_cases h : b < 0 ∨ 24 ≤ b ∨ l < 1
    · have : b < 0 ∨ 24 < b ∨ l < 1 ∨ 24 < b + l := by omega
      have h2 : (bif bif bif decide (b < (0 : Int)) then true else decide ((24 : Int) ≤ b) then true else decide (l < (1 : Int)) then true else decide (IntKind.i64.wrap (24 - b) < l)) = true := by
        rcases h with h | h | h <;> simp [h]
      rw [h2]
      rcases this with h | h | h | h <;> simp [h]
    · have e : IntKind.i64.wrap (24 - b) = 24 - b := by rw [IntKind.wrap_i64]; omega
      rw [e]
      have h1 : ¬ b < 0 := by omega
      have h2 : ¬ 24 ≤ b := by omega
      have h3 : ¬ l < 1 := by omega
      have h4 : ¬ 24 < b := by omega
      simp [h1, h2, h3, h4]
      by_cases h5 : 24 - b < l <;> simp [h5] <;> omega
  rw [hw]
  unfold keyNo keyBad1 keyBad2 farB
  repeat' (first | exact trivial | refine And.intro ?_ ?_ | intro h)
  all_goals (clear hw)
  all_goals (try simp only [Bool.cond_true_left, Bool.cond_false_right] at *)
  all_goals (simp only [cond_eq_ite, farB, bne, Bool.or_eq_true, Bool.and_eq_true, Bool.not_eq_true', Bool.not_eq_false', Bool.and_eq_false_iff, decide_eq_true_eq, beq_iff_eq, beq_eq_false_iff_ne, Bool.or_eq_false_iff, decide_eq_false_iff_not, Bool.ite_eq_true_distrib, Bool.ite_eq_false_distrib] at *)
  all_goals (repeat' split)
  all_goals (first | rfl | (exfalso; simp_all <;> omega) | omega)
end Go.Proofs.YtdjilaofmdhikaaGreatDoor
namespace Go.Sy
theorem andNot64 {x m : Int} (hx : 0 ≤ x) (hx1 : x ≤ 65535) : bitsI .andNot .i64 x m = x - bitsI .and .i64 x m := by
  show IntKind.i64.wrap ((BitVec.ofInt 64 x &&& ~~~BitVec.ofInt 64 m).toNat : Int) = x - IntKind.i64.wrap ((BitVec.ofInt 64 x &&& BitVec.ofInt 64 m).toNat : Int)
  have hX : (BitVec.ofInt 64 x).toNat = x.toNat := by
    rw [BitVec.toNat_ofInt]; congr 1; exact Int.emod_eq_of_lt hx (by simp; omega)
  generalize hA : BitVec.ofInt 64 x = X at hX ⊢
  generalize BitVec.ofInt 64 m = Y
  have h1 : (X &&& ~~~Y) + (X &&& Y) = X := by
    rw [BitVec.add_eq_or_of_and_eq_zero]
    · ext i hi
      simp
      cases X[i] <;> cases Y[i] <;> rfl
    · ext i hi
      simp
      cases X[i] <;> cases Y[i] <;> simp
  have h2 : (X &&& ~~~Y).toNat ≤ X.toNat := by rw [BitVec.toNat_and]; exact Nat.and_le_left
  have h3 : (X &&& Y).toNat ≤ X.toNat := by rw [BitVec.toNat_and]; exact Nat.and_le_left
  have h4 := congrArg BitVec.toNat h1
  rw [BitVec.toNat_add] at h4
  rw [IntKind.wrap_i64, IntKind.wrap_i64]
  omega
theorem andNot1023 {x : Int} (hx : 0 ≤ x) (hx1 : x ≤ 65535) : bitsI .andNot .i64 x 1023 = x - x % 1024 := by
  rw [andNot64 hx hx1, mask64 10 (by omega) (by decide)]; rfl
theorem bitP (k X : Nat) : X &&& 2 ^ k = X / 2 ^ k % 2 * 2 ^ k := by
  have hk : X.testBit k = decide (X / 2 ^ k % 2 = 1) := Nat.testBit_eq_decide_div_mod_eq
  apply Nat.eq_of_testBit_eq
  intro i
  rw [Nat.testBit_and, Nat.testBit_two_pow]
  rcases Nat.mod_two_eq_zero_or_one (X / 2 ^ k) with h | h
  · rw [h]
    by_cases e : k = i
    · subst e; simp [hk, h]
    · simp [e]
  · rw [h, Nat.one_mul, Nat.testBit_two_pow]
    by_cases e : k = i
    · subst e; simp [hk, h]
    · simp [e]
theorem andNot17407 {x : Int} (hx : 0 ≤ x) (hx1 : x ≤ 65535) : bitsI .andNot .i64 x 17407 = (x - x % 1024) - (x - x % 1024) / 16384 % 2 * 16384 := by
  have e : bitsI .andNot .i64 x 17407 = bitsI .andNot .i64 (bitsI .andNot .i64 x 1023) 16384 := by
    show IntKind.i64.wrap ((BitVec.ofInt 64 x &&& ~~~BitVec.ofInt 64 17407).toNat : Int) = IntKind.i64.wrap ((BitVec.ofInt 64 (bitsI .andNot .i64 x 1023) &&& ~~~BitVec.ofInt 64 16384).toNat : Int)
    have h0 : BitVec.ofInt 64 (bitsI .andNot .i64 x 1023) = BitVec.ofInt 64 x &&& ~~~BitVec.ofInt 64 1023 := by
      have h1 : bitsI .andNot .i64 x 1023 = IntKind.i64.wrap ((BitVec.ofInt 64 x &&& ~~~BitVec.ofInt 64 1023).toNat : Int) := rfl
      have h2 : (BitVec.ofInt 64 x &&& ~~~BitVec.ofInt 64 1023).toNat ≤ 65535 := by
        rw [BitVec.toNat_and]
        refine Nat.le_trans Nat.and_le_left ?_
        rw [BitVec.toNat_ofInt, Int.emod_eq_of_lt hx (by simp; omega)]; omega
      rw [h1, IntKind.wrap_i64]
      apply BitVec.eq_of_toNat_eq
      rw [BitVec.toNat_ofInt]
      generalize (BitVec.ofInt 64 x &&& ~~~BitVec.ofInt 64 1023).toNat = t at h2 ⊢
      show ((_ : Int) % ((2 ^ 64 : Nat) : Int)).toNat = t
      rw [show ((2 ^ 64 : Nat) : Int) = 18446744073709551616 by decide]
      omega
    rw [h0]
    congr 3
    rw [BitVec.and_assoc]
    congr 1
  rw [e, andNot1023 hx hx1, andNot64 (by omega) (by omega), and64 (by omega) (by omega) (by omega) (by omega)]
  obtain ⟨Y, hY⟩ : ∃ Y : Nat, x - x % 1024 = Y := ⟨(x - x % 1024).toNat, by omega⟩
  rw [hY, Int.toNat_natCast, show Int.toNat 16384 = 2 ^ 14 from rfl, bitP]
  simp
theorem rights_sub {r q : Int} (r0 : 0 ≤ r) (r1 : r ≤ 7) (q0 : 0 ≤ q) (q1 : q ≤ 7) : (bitsI .andNot .i64 r q == 0) = (bitsI .and .i64 q r == r) := by
  have hr : r = 0 ∨ r = 1 ∨ r = 2 ∨ r = 3 ∨ r = 4 ∨ r = 5 ∨ r = 6 ∨ r = 7 := by omega
  have hq : q = 0 ∨ q = 1 ∨ q = 2 ∨ q = 3 ∨ q = 4 ∨ q = 5 ∨ q = 6 ∨ q = 7 := by omega
  rcases hr with rfl | rfl | rfl | rfl | rfl | rfl | rfl | rfl <;> rcases hq with rfl | rfl | rfl | rfl | rfl | rfl | rfl | rfl <;> decide
theorem holes : ∀ (L : Nat) (f : Nat → Nat), (∀ k, k ≤ L → f k < L) → ∃ a b, a < b ∧ b ≤ L ∧ f a = f b
  | 0, f, h => absurd (h 0 (Nat.le_refl _)) (by omega)
  | L + 1, f, h => by
    rcases Classical.em (∃ k, k ≤ L ∧ f k = f (L + 1)) with ⟨k, h1, h2⟩ | hno
    · exact ⟨k, L + 1, by omega, by omega, h2⟩
    · have hne : ∀ k, k ≤ L → f k ≠ f (L + 1) := fun k hk e => hno ⟨k, hk, e⟩
      obtain ⟨a, b, h1, h2, h3⟩ := holes L (fun k => if f k = L then f (L + 1) else f k) fun k hk => by
        have l1 := h k (by omega)
        have l2 := h (L + 1) (by omega)
        have l3 := hne k hk
        show (if f k = L then f (L + 1) else f k) < L
        split <;> omega
      refine ⟨a, b, h1, by omega, ?_⟩
      have n1 := hne a (by omega)
      have n2 := hne b (by omega)
      have h3 : (if f a = L then f (L + 1) else f a) = (if f b = L then f (L + 1) else f b) := h3
      split at h3 <;> split at h3
      · omega
      · exact absurd h3.symm n2
      · exact absurd h3 n1
      · exact h3
theorem stays_in (L : Nat) (g : Nat → Nat) (s : Nat → Nat) (hs : ∀ k, s k < L → s (k + 1) = g (s k)) (hin : ∀ k, k ≤ L → s k < L) : ∀ k, s k < L := by
  obtain ⟨a, b, h1, h2, h3⟩ := holes L s hin
  have hall : ∀ n k, k ≤ n → s k < L := by
    intro n
    induction n with
    | zero => intro k hk; exact hin k (by omega)
    | succ n ih =>
      intro k hk
      rcases Nat.lt_or_ge b k with hb | hb
      · -- step back by the period
        have hper : ∀ d, b + d ≤ n + 1 → s (a + d) = s (b + d) := by
          intro d
          induction d with
          | zero => intro _; exact h3
          | succ d ihd =>
            intro hd
            have e1 := hs (a + d) (ih _ (by omega))
            have e2 := hs (b + d) (ih _ (by omega))
            rw [show a + (d + 1) = a + d + 1 by omega, show b + (d + 1) = b + d + 1 by omega, e1, e2, ihd (by omega)]
        have := hper (k - b) (by omega)
        rw [show b + (k - b) = k by omega] at this
        rw [← this]
        exact ih _ (by omega)
      · exact hin k (by omega)
  exact fun k => hall k k (Nat.le_refl _)
end Go.Sy
set_option linter.unusedVariables false
set_option linter.unusedSimpArgs false
set_option maxRecDepth 100000
namespace Go.Proofs.YtdjilaofmdhikaaGreatDoor
open Go.RowKit Go.Sy
def cntB : Nat → (Nat → Bool) → Nat
  | 0, _ => 0
  | n + 1, p => cntB n p + (bif p n then 1 else 0)
def anyB (n : Nat) (p : Nat → Bool) : Bool := !allB n fun i => !p i
theorem cntB_le (p : Nat → Bool) : ∀ n, cntB n p ≤ n
  | 0 => Nat.le_refl _
  | n + 1 => by have := cntB_le p n; unfold cntB; cases p n <;> simp <;> omega
theorem anyB_iff {n : Nat} {p : Nat → Bool} : anyB n p = true ↔ ∃ i, i < n ∧ p i = true := by
  unfold anyB
  cases h : allB n fun i => !p i with
  | true =>
    simp only [Bool.not_true, Bool.false_eq_true, false_iff]
    rintro ⟨i, hi, hp⟩
    have := allB_iff.1 h i hi
    simp [hp] at this
  | false =>
    simp only [Bool.not_false, true_iff]
    refine Classical.byContradiction fun hn => ?_
    rw [allB_iff.2] at h
    · cases h
    · intro i hi
      cases hp : p i
      · rfl
      · exact absurd ⟨i, hi, hp⟩ hn
theorem anyB_false {n : Nat} {p : Nat → Bool} : anyB n p = false ↔ ∀ i, i < n → p i = false := by
  constructor
  · intro h i hi
    cases hp : p i
    · rfl
    · rw [anyB_iff.2 ⟨i, hi, hp⟩] at h; cases h
  · intro h
    cases hq : anyB n p
    · rfl
    · obtain ⟨i, hi, hp⟩ := anyB_iff.1 hq
      rw [h i hi] at hp; cases hp
theorem anyB_succ (n : Nat) (p : Nat → Bool) : anyB (n + 1) p = (anyB n p || p n) := by
  show (!(allB n (fun i => !p i) && !p n)) = (!allB n (fun i => !p i) || p n)
  cases allB n (fun i => !p i) <;> cases p n <;> rfl
def sumN : Nat → (Nat → Nat) → Nat
  | 0, _ => 0
  | n + 1, f => sumN n f + f n
theorem sumN_le {f : Nat → Nat} {b : Nat} : ∀ {n : Nat}, (∀ i, i < n → f i ≤ b) → sumN n f ≤ n * b
  | 0, _ => by simp [sumN]
  | n + 1, h => by
    have h1 := sumN_le (n := n) fun i hi => h i (by omega)
    have h2 := h n (by omega)
    unfold sumN; rw [Nat.succ_mul]; omega
def fstE (n : Nat) (p : Nat → Bool) (e : Int) (r : Int × Int) : Int × Int := bif Nat.blt (fstB n p) n then (e, ((fstB n p : Nat) : Int)) else r
theorem fstE_at {n i : Nat} {p : Nat → Bool} {e : Int} {r : Int × Int} (hb : ∀ j, j < i → p j = false) (hp : p i = true) (hi : i < n) : fstE n p e r = (e, ((i : Nat) : Int)) := by
  unfold fstE; rw [fstB_at hb hp hi, blt_t hi]; rfl
theorem fstE_none {n : Nat} {p : Nat → Bool} {e : Int} {r : Int × Int} (h : ∀ j, j < n → p j = false) : fstE n p e r = r := by
  unfold fstE; rw [fstB_none h, blt_f (Nat.le_refl _)]; rfl
theorem fstB_spec {p : Nat → Bool} : ∀ {n : Nat}, fstB n p < n → p (fstB n p) = true ∧ ∀ j, j < fstB n p → p j = false := by
  intro n h
  rcases Classical.em (∃ i, i < n ∧ p i = true) with hx | hx
  · -- the least one
    have key : ∀ k i, i ≤ k → i < n → p i = true → ∃ m, m < n ∧ p m = true ∧ ∀ j, j < m → p j = false := by
      intro k
      induction k with
      | zero =>
        intro i hi hn hp
        exact ⟨i, hn, hp, fun j hj => absurd hj (by omega)⟩
      | succ k ih =>
        intro i hi hn hp
        rcases Classical.em (∃ j, j < i ∧ p j = true) with ⟨j, hj, hpj⟩ | hno
        · exact ih j (by omega) (by omega) hpj
        · refine ⟨i, hn, hp, fun j hj => ?_⟩
          cases hq : p j
          · rfl
          · exact absurd ⟨j, hj, hq⟩ hno
    obtain ⟨i, hi, hp⟩ := hx
    obtain ⟨m, h1, h2, h3⟩ := key i i (Nat.le_refl _) hi hp
    rw [fstB_at h3 h2 h1]
    exact ⟨h2, h3⟩
  · have : ∀ j, j < n → p j = false := fun j hj => by
      cases hq : p j
      · rfl
      · exact absurd ⟨j, hj, hq⟩ hx
    rw [fstB_none this] at h
    omega
theorem fstB_lt {n i : Nat} {p : Nat → Bool} (hi : i < n) (hp : p i = true) : fstB n p < n := by
  rcases Nat.lt_or_ge (fstB n p) n with h | h
  · exact h
  · have e : fstB n p = n := Nat.le_antisymm (fstB_le p n) h
    rcases Classical.em (∃ j, j < i + 1 ∧ p j = true ∧ ∀ k, k < j → p k = false) with ⟨j, h1, h2, h3⟩ | hno
    · rw [fstB_at h3 h2 (by omega)] at h; omega
    · exfalso
      have : ∀ k, k < i + 1 → p k = false := by
        intro k
        induction k using Nat.strongRecOn with
        | _ k ih =>
          intro hk
          cases hq : p k
          · rfl
          · exact absurd ⟨k, hk, hq, fun j hj => ih j hj (by omega)⟩ hno
      rw [this i (by omega)] at hp; cases hp
theorem fstE_congr {n : Nat} {p q : Nat → Bool} {e : Int} {r r' : Int × Int} (h : ∀ i, i < n → p i = q i) (hr : (∀ i, i < n → p i = false) → r = r') : fstE n p e r = fstE n q e r' := by
  rcases Nat.lt_or_ge (fstB n p) n with h1 | h1
  · obtain ⟨h2, h3⟩ := fstB_spec h1
    rw [fstE_at h3 h2 h1, fstE_at (p := q) (fun j hj => by rw [← h j (by omega)]; exact h3 j hj) (by rw [← h _ h1]; exact h2) h1]
  · have : ∀ i, i < n → p i = false := fun i hi => by
      cases hq : p i
      · rfl
      · have := fstB_lt hi hq; omega
    rw [fstE_none this, fstE_none (fun j hj => by rw [← h j hj]; exact this j hj), hr this]
theorem fstE_zero {n : Nat} {p : Nat → Bool} {e : Int} {r : Int × Int} (he : e ≠ 0) (h : (fstE n p e r).1 = 0) : (∀ i, i < n → p i = false) ∧ r.1 = 0 := by
  rcases Nat.lt_or_ge (fstB n p) n with h1 | h1
  · obtain ⟨h2, h3⟩ := fstB_spec h1
    rw [fstE_at h3 h2 h1] at h; exact absurd h he
  · have : ∀ i, i < n → p i = false := fun i hi => by
      cases hq : p i
      · rfl
      · have := fstB_lt hi hq; omega
    rw [fstE_none this] at h
    exact ⟨this, h⟩
def kof (W : Wd) (f : Int) : Int := bif decide (f < 0) || decide ((W.nKinds : Int) ≤ f) then -1 else W.kinds f.toNat
theorem kof_in {W : Wd} {f : Int} (h : kof W f ≠ -1) : 0 ≤ f ∧ f < W.nKinds := by
  unfold kof at h
  cases h1 : decide (f < 0) <;> cases h2 : decide ((W.nKinds : Int) ≤ f) <;> simp [h1, h2] at h <;> simp at h1 h2 <;> omega
theorem kof_eq {W : Wd} {f : Int} (h : 0 ≤ f ∧ f < W.nKinds) : kof W f = W.kinds f.toNat := by
  unfold kof; rw [decide_eq_false (by omega), decide_eq_false (by omega)]; rfl
theorem kof_out {W : Wd} {f : Int} (h : f < 0 ∨ W.nKinds ≤ f) : kof W f = -1 := by
  unfold kof
  rcases h with h | h
  · rw [decide_eq_true h]; rfl
  · rw [decide_eq_true h]; cases decide (f < 0) <;> rfl
def szBad (W : Wd) : Bool :=
  decide (W.nKinds < 1) || decide (24 < W.nKinds) || decide (W.nCores < 1) || decide (4 < W.nCores) || W.nRam != W.nKinds * 16 || W.nSlots != W.nKinds * 16 || W.nTasks != W.nKinds || W.nLines != W.nKinds || W.nBits != W.nKinds || W.nReady != W.nCores * 4 || W.nTlbs != W.nCores || decide (W.nDoms < 1) || decide (8 < W.nDoms) || farB W.time 1000000
structure Szd (W : Wd) : Prop where
  k0 : 1 ≤ W.nKinds
  k1 : W.nKinds ≤ 24
  c0 : 1 ≤ W.nCores
  c1 : W.nCores ≤ 4
  ram : W.nRam = W.nKinds * 16
  slots : W.nSlots = W.nKinds * 16
  tasks : W.nTasks = W.nKinds
  lines : W.nLines = W.nKinds
  bits : W.nBits = W.nKinds
  ready : W.nReady = W.nCores * 4
  tlbs : W.nTlbs = W.nCores
  d0 : 1 ≤ W.nDoms
  d1 : W.nDoms ≤ 8
  t0 : 0 ≤ W.time
  t1 : W.time ≤ 1000000
theorem szd_of {W : Wd} (h : szBad W = false) : Szd W := by
  unfold szBad farB at h
  simp only [Bool.or_eq_false_iff, decide_eq_false_iff_not, bne_eq_false_iff_eq] at h
  obtain ⟨⟨⟨⟨⟨⟨⟨⟨⟨⟨⟨⟨⟨h1, h2⟩, h3⟩, h4⟩, h5⟩, h6⟩, h7⟩, h8⟩, h9⟩, h10⟩, h11⟩, h12⟩, h13⟩, h14, h15⟩ := h
  exact ⟨by omega, by omega, by omega, by omega, h5, h6, h7, h8, h9, h10, h11, by omega, by omega, by omega, by omega⟩
def smB (W : Wd) : Prop := (∀ i, i < W.nLines → W.linesN i ≤ 50) ∧ (∀ i, i < W.nReady → W.readyN i ≤ 50) ∧ (∀ i, i < W.nTlbs → W.tlbsN i ≤ 50)
def slNo (s : Slt) : Int := keyNo s.kind s.base s.len s.mark s.rights s.badge
def inS (W : Wd) (u : Int) : Bool := decide (0 ≤ u) && decide (u < W.nSlots)
def upS (W : Wd) (u : Int) : Int := bif inS W u then (W.slots u.toNat).from_ else u
def upK (W : Wd) (u : Int) : Nat → Int
  | 0 => u
  | k + 1 => upS W (upK W u k)
def madeB (k p : Slt) : Bool :=
  slNo p == 0 && bif p.kind == 1 then k.kind != 1 && decide (p.base ≤ k.base) && decide (k.base - p.base < p.mark) else k.kind == p.kind && k.base == p.base && (p.badge == 0 || p.badge == k.badge) && (((bitw 6 p.rights.toNat k.rights.toNat : Nat) : Int) == k.rights)
def slBs (W : Wd) (i : Nat) (s : Slt) : Bool :=
  bif s.kind == 0 then slNo s == 0 && s.from_ == -1 else
  W.kinds (i / 16) == 5 && slNo s == 0 && decide (s.base + s.len ≤ W.nKinds) && (s.kind == 1 || W.kinds s.base.toNat == s.kind) &&
  (s.from_ == -1 || (inS W s.from_ && madeB s (W.slots s.from_.toNat) && !inS W (upK W s.from_ W.nSlots)))
def slB (W : Wd) (i : Nat) : Bool := slBs W i (W.slots i)
theorem slBs_no {W : Wd} {i : Nat} {s : Slt} (h : slBs W i s = true) : slNo s = 0 := by
  unfold slBs at h
  cases hk : s.kind == 0 <;> simp only [hk, cond_true, cond_false, Bool.and_eq_true, beq_iff_eq] at h
  · exact h.1.1.1.2
  · exact h.1
theorem slNo_range {s : Slt} (h : slNo s = 0) : 0 ≤ s.kind ∧ s.kind ≤ 8 ∧ 0 ≤ s.base ∧ s.base ≤ 24 ∧ 0 ≤ s.len ∧ s.len ≤ 24 ∧ 0 ≤ s.mark ∧ s.mark ≤ 24 ∧ 0 ≤ s.rights ∧ s.rights ≤ 7 ∧ 0 ≤ s.badge ∧ s.badge ≤ 65535 := keyNo_range h
theorem snocF {p : Nat → Bool} {i : Nat} (h : ∀ j, j < i → p j = false) (hi : p i = false) : ∀ j, j < i + 1 → p j = false := by
  intro j hj
  rcases Nat.lt_or_ge j i with h3 | h3
  · exact h j h3
  · obtain rfl : j = i := by omega
    exact hi
theorem upS_in {W : Wd} {u : Int} (h : inS W u = true) : upS W u = (W.slots u.toNat).from_ := by unfold upS; rw [h]; rfl
theorem upS_out {W : Wd} {u : Int} (h : inS W u = false) : upS W u = u := by unfold upS; rw [h]; rfl
theorem inS_iff {W : Wd} {u : Int} : inS W u = true ↔ 0 ≤ u ∧ u < W.nSlots := by unfold inS; simp
theorem upK_out {W : Wd} {u : Int} {k : Nat} (h : inS W (upK W u k) = false) : ∀ {m : Nat}, k ≤ m → upK W u m = upK W u k
  | m, hm => by
    induction m with
    | zero => obtain rfl : k = 0 := by omega
              rfl
    | succ m ih =>
      rcases Nat.lt_or_ge m k with h1 | h1
      · obtain rfl : k = m + 1 := by omega
        rfl
      · show upS W (upK W u m) = _
        rw [ih h1, upS_out h]
def clayAt (s : Slt) (f : Nat) : Bool := s.kind == 1 && decide (s.base ≤ f) && decide ((f : Int) < s.base + s.len)
def freeAt (s : Slt) (f : Nat) : Bool := clayAt s f && decide (s.base + s.mark ≤ f)
def keyAt (s : Slt) (f : Nat) : Bool := s.kind != 1 && s.kind != 0 && s.base == f
def frB (W : Wd) (f : Nat) : Bool :=
  decide (cntB W.nSlots (fun i => clayAt (W.slots i) f) ≤ 1) && (W.kinds f == 0 || (decide (0 < cntB W.nSlots fun i => keyAt (W.slots i) f) && !anyB W.nSlots fun i => freeAt (W.slots i) f))
def cntL (n : Nat) (l : Nat → Int) (x : Int) : Nat := cntB n fun k => l k == x
def cntLL (n : Nat) (ln : Nat → Nat) (l : Nat → Nat → Int) (x : Int) : Nat := sumN n fun i => cntL (ln i) (l i) x
def inB' (n : Nat) (l : Nat → Int) (x : Int) : Bool := anyB n fun k => l k == x
def regFar (t : Run) : Bool := farB t.r0 65535 || farB t.r1 65535 || farB t.r2 65535 || farB t.r3 65535 || farB t.r4 65535 || farB t.r5 65535 || farB t.r6 65535 || farB t.r7 65535
def numFar (W : Wd) (t : Run) : Bool := farB t.pc 65535 || farB t.word 65535 || farB t.badge 65535 || farB t.st 6 || farB t.prio 3 || farB t.core (W.nCores - 1) || farB t.dom 3
def okF (W : Wd) (f k : Int) : Bool := f == -1 || kof W f == k
def refOK (W : Wd) (t : Run) : Bool := okF W t.node 5 && okF W t.space 4 && okF W t.helper 7 && okF W t.owes 6
def owesOK (W : Wd) (t : Run) : Bool := t.owes == -1 || ((W.tasks t.owes.toNat).st == 5 && t.st != 4)
def owed (W : Wd) (f : Nat) : Nat := cntB W.nTasks fun i => (W.tasks i).owes == f
def owedOK (W : Wd) (f : Nat) : Bool := decide (owed W f ≤ 1) && ((owed W f == 1) == ((W.tasks f).st == 5))
def stands (W : Wd) (f : Nat) : Nat := cntLL W.nLines W.linesN W.lines f
def turnsN (W : Wd) (f : Nat) : Nat := cntLL W.nReady W.readyN W.ready f + cntL W.nCores W.cores f
def standOK (W : Wd) (f : Nat) (k : Int) : Bool := (stands W f == 1) && (turnsN W f == 0) && kof W (W.tasks f).loc == k && inB' (W.linesN (W.tasks f).loc.toNat) (W.lines (W.tasks f).loc.toNat) f
def stOK (W : Wd) (f : Nat) : Bool :=
  let s := (W.tasks f).st
  bif s == 2 || s == 3 || s == 4 then standOK W f 7 else bif s == 6 then standOK W f 8 else
  bif s == 1 then (stands W f == 0) && (turnsN W f == 1) && (W.tasks f).loc == -1 else (stands W f == 0) && (turnsN W f == 0) && (W.tasks f).loc == -1
def tkB (W : Wd) (f : Nat) : Bool :=
  let t := W.tasks f
  bif W.kinds f != 6 then runEq t Run.blank else !regFar t && !numFar W t && refOK W t && owesOK W t && owedOK W f && stOK W f
def wtB (W : Wd) (t : Int) : Bool := (W.tasks t.toNat).st == 4
def lnTest (W : Wd) (f : Nat) (t : Int) : Bool := kof W t == 6 && (W.tasks t.toNat).loc == f && (wtB W t == wtB W (W.lines f 0))
def lnB (W : Wd) (f : Nat) : Bool :=
  !(decide (0 < W.linesN f) && W.kinds f != 7 && W.kinds f != 8) && !(W.bits f != 0 && (W.kinds f != 8 || decide (0 < W.linesN f))) && !farB (W.bits f) 65535 && allB (W.linesN f) fun i => lnTest W f (W.lines f i)
def rdB (W : Wd) (t c p : Int) : Bool := kof W t == 6 && (W.tasks t.toNat).st == 1 && (W.tasks t.toNat).core == c && (decide (p < 0) || (W.tasks t.toNat).prio == p)
def coB (W : Wd) (c : Nat) : Bool := W.cores c == -1 || rdB W (W.cores c) c (-1)
def rlB (W : Wd) (i : Nat) : Bool := allB (W.readyN i) fun k => rdB W (W.ready i k) ((i / 4 : Nat) : Int) ((i % 4 : Nat) : Int)
def enB (W : Wd) (i : Nat) : Bool :=
  let x := W.ram i
  let k := W.kinds (i / 16)
  x == 0 || (k != 3 && k != 4) || (bif k == 4 then x - x % 1024 == 32768 && kof W (x % 1024) == 3 else (x - x % 1024 == 32768 || x - x % 1024 == 49152) && kof W (x % 1024) == 2)
def tlT (W : Wd) (l : Nat → Ent4) (i : Nat) : Bool :=
  kof W (l i).sp == 4 && !farB (l i).pg 255 && wkE W.nRam W.ram (l i).sp (16 * (l i).pg) == 0 && wkF W.nRam W.ram (l i).sp (16 * (l i).pg) == (l i).fr && (wkW W.nRam W.ram (l i).sp (16 * (l i).pg) == (l i).wr) && !anyB i fun k => (l k).sp == (l i).sp && (l k).pg == (l i).pg
def tlB (W : Wd) (n : Nat) (l : Nat → Ent4) : Bool := decide (n ≤ 4) && allB n fun i => tlT W l i
def wm1 (W : Wd) (r : Int × Int) : Int × Int := fstE W.nRam (fun i => farB (W.ram i) 65535) 1 <| fstE W.nKinds (fun i => farB (W.kinds i) 8 || W.kinds i == 1) 3 <| fstE W.nDoms (fun i => farB (W.doms i) 3) 2 r
def wm2 (W : Wd) (r : Int × Int) : Int × Int := fstE W.nSlots (fun i => !slB W i) 8 r
def wm3 (W : Wd) (r : Int × Int) : Int × Int := fstE W.nKinds (fun i => !frB W i) 8 r
def wm4 (W : Wd) (r : Int × Int) : Int × Int := fstE W.nKinds (fun i => !tkB W i) 8 r
def wm5 (W : Wd) (r : Int × Int) : Int × Int := fstE W.nKinds (fun i => !lnB W i) 8 r
def wm6 (W : Wd) (r : Int × Int) : Int × Int := fstE W.nCores (fun i => !coB W i) 8 <| fstE W.nReady (fun i => !rlB W i) 8 r
def wm7 (W : Wd) (r : Int × Int) : Int × Int := fstE W.nRam (fun i => !enB W i) 9 <| fstE W.nCores (fun i => !tlB W (W.tlbsN i) (W.tlbs i)) 9 r
def wm (W : Wd) : Int × Int := bif szBad W then (2, -1) else wm1 W (wm2 W (wm3 W (wm4 W (wm5 W (wm6 W (wm7 W (0, -1)))))))
end Go.Proofs.YtdjilaofmdhikaaGreatDoor
set_option linter.unusedVariables false
set_option linter.unusedSimpArgs false
set_option maxRecDepth 100000
namespace Go.Proofs.YtdjilaofmdhikaaGreatDoor
open Go.RowKit Go.Sy
def wMJD (B : List Blk) (z : Nat) : Wd := ⟨rowN B (z + 1), fun i => intD (rowF B (z + 1) i 0), rowN B (z + 2), fun i => intD (rowF B (z + 2) i 0), rowN B (z + 3), fun i => slBD (fun j => rowF B (z + 3) i j), rowN B (z + 4), fun i => runBD (fun j => rowF B (z + 4) i j), rowN B (z + 5), fun i => ilN (rowF B (z + 5) i 0), fun i k => intD (ilF (rowF B (z + 5) i 0) k 0), rowN B (z + 6), fun i => intD (rowF B (z + 6) i 0), rowN B (z + 7), fun i => intD (rowF B (z + 7) i 0), rowN B (z + 8), fun i => ilN (rowF B (z + 8) i 0), fun i k => intD (ilF (rowF B (z + 8) i 0) k 0), rowN B (z + 9), fun i => ilN (rowF B (z + 9) i 0), fun i k => enBD (fun j => ilF (rowF B (z + 9) i 0) k j), rowN B (z + 10), fun i => intD (rowF B (z + 10) i 0), intD (celF B z 10)⟩
def hasE (W : Wd) (s : Int) : Int := bif decide (s < 0) || decide ((W.nSlots : Int) ≤ s) then 2 else bif (W.slots s.toNat).kind == 0 then 6 else 0
def opnE (W : Wd) (s : Int) : Int := bif decide (s < 0) || decide ((W.nSlots : Int) ≤ s) then 2 else bif W.kinds (s / 16).toNat != 5 then 3 else bif (W.slots s.toNat).kind != 0 then 12 else 0
def bthE (W : Wd) (a b : Int) : Int := bif hasE W a == 0 then opnE W b else hasE W a
def trn (a b : Int) (s : Slt) : Slt := bif s.from_ == a then { s with from_ := b } else s
def trS (f : Nat → Slt) (a b : Int) (i j : Nat) : Slt := bif Nat.blt j i then trn a b (f j) else f j
def trnW (W : Wd) (a b : Int) : Wd := { W with slots := fun j => trn a b (W.slots j) }
def blS : Slt := ⟨0, 0, 0, 0, 0, 0, -1⟩
def mvS (f : Nat → Slt) (a b : Nat) (j : Nat) : Slt := bif Nat.beq j b then f a else bif Nat.beq j a then blS else f j
def mvW (W : Wd) (a b : Int) : Wd := { W with slots := fun j => bif bthE W a b == 0 then trn a b (mvS W.slots a.toNat b.toNat j) else W.slots j }
theorem trS_lt {f : Nat → Slt} {a b : Int} {i j : Nat} (h : j < i) : trS f a b i j = trn a b (f j) := by unfold trS; rw [blt_t h]; rfl
theorem trS_ge {f : Nat → Slt} {a b : Int} {i j : Nat} (h : i ≤ j) : trS f a b i j = f j := by unfold trS; rw [blt_f h]; rfl
theorem slt7 {x y : Slt} (h : x = y) : ((((((x.kind = y.kind ∧ x.base = y.base) ∧ x.len = y.len) ∧ x.mark = y.mark) ∧ x.rights = y.rights) ∧ x.badge = y.badge) ∧ x.from_ = y.from_) := by subst h; exact ⟨⟨⟨⟨⟨⟨rfl, rfl⟩, rfl⟩, rfl⟩, rfl⟩, rfl⟩, rfl⟩
theorem beq_ne {a b : Nat} (h : a ≠ b) : Nat.beq a b = false := by
  cases hb : Nat.beq a b with
  | false => rfl
  | true => exact absurd (Nat.eq_of_beq_eq_true hb) h
theorem wr_in {z : Int} (h1 : -1000000 ≤ z) (h2 : z ≤ 1000000) : IntKind.i64.wrap z = z := by rw [IntKind.wrap_i64]; omega
theorem trS_yes {f : Nat → Slt} {a b : Int} {i j : Nat} (h : ((trS f a b i i).from_ == a) = true) : ((((((trS f a b i j).kind = (trS f a b (i + 1) j).kind ∧ (trS f a b i j).base = (trS f a b (i + 1) j).base) ∧ (trS f a b i j).len = (trS f a b (i + 1) j).len) ∧ (trS f a b i j).mark = (trS f a b (i + 1) j).mark) ∧ (trS f a b i j).rights = (trS f a b (i + 1) j).rights) ∧ (trS f a b i j).badge = (trS f a b (i + 1) j).badge) ∧ (bif j.beq i then b else (trS f a b i j).from_) = (trS f a b (i + 1) j).from_ := by
  rw [trS_ge (Nat.le_refl _)] at h
  rcases Nat.lt_trichotomy j i with h1 | h1 | h1
  · rw [beq_ne (by omega), trS_lt h1, trS_lt (by omega : j < i + 1)]; exact slt7 rfl
  · subst h1
    rw [Nat.beq_refl, trS_ge (Nat.le_refl _), trS_lt (Nat.lt_succ_self _)]
    unfold trn; rw [h]; exact ⟨⟨⟨⟨⟨⟨rfl, rfl⟩, rfl⟩, rfl⟩, rfl⟩, rfl⟩, rfl⟩
  · rw [beq_ne (by omega), trS_ge (by omega), trS_ge (by omega : i + 1 ≤ j)]; exact slt7 rfl
theorem trS_no {f : Nat → Slt} {a b : Int} {i j : Nat} (h : ((trS f a b i i).from_ == a) = false) : trS f a b i j = trS f a b (i + 1) j := by
  rw [trS_ge (Nat.le_refl _)] at h
  rcases Nat.lt_trichotomy j i with h1 | h1 | h1
  · rw [trS_lt h1, trS_lt (by omega : j < i + 1)]
  · subst h1
    rw [trS_ge (Nat.le_refl _), trS_lt (Nat.lt_succ_self _)]
    unfold trn; rw [h]; rfl
  · rw [trS_ge (by omega), trS_ge (by omega : i + 1 ≤ j)]
theorem trS_all {f : Nat → Slt} {a b : Int} {i j : Nat} (h : j < i) : trS f a b i j = trn a b (f j) := trS_lt h
theorem bth_in {W : Wd} {a b : Int} (h : (bthE W a b == 0) = true) : (0 ≤ a ∧ a < W.nSlots) ∧ (0 ≤ b ∧ b < W.nSlots) ∧ a ≠ b ∧ hasE W a = 0 ∧ opnE W b = 0 := by
  have h := eq_of_beq h
  unfold bthE at h
  cases h1 : hasE W a == 0 with
  | false => rw [h1] at h; exact absurd (beq_of_eq (show hasE W a = 0 from h)) (by rw [h1]; decide)
  | true =>
    rw [h1] at h
    have h1 := eq_of_beq h1
    have h2 : opnE W b = 0 := h
    have ha : (0 ≤ a ∧ a < W.nSlots) ∧ (W.slots a.toNat).kind ≠ 0 := by
      have h1' := h1
      unfold hasE at h1'
      cases d1 : decide (a < 0) <;> cases d2 : decide ((W.nSlots : Int) ≤ a) <;> rw [d1, d2] at h1' <;> (try simp only [Bool.or_true, Bool.true_or, Bool.or_false, cond_true, cond_false] at h1') <;> (try exact absurd h1' (by decide))
      have d1 := of_decide_eq_false d1
      have d2 := of_decide_eq_false d2
      refine ⟨by omega, fun e => ?_⟩
      rw [e] at h1'; exact absurd h1' (by decide)
    have hb : (0 ≤ b ∧ b < W.nSlots) ∧ (W.slots b.toNat).kind = 0 := by
      have h1' := h2
      unfold opnE at h1'
      cases d1 : decide (b < 0) <;> cases d2 : decide ((W.nSlots : Int) ≤ b) <;> rw [d1, d2] at h1' <;> (try simp only [Bool.or_true, Bool.true_or, Bool.or_false, cond_true, cond_false] at h1') <;> (try exact absurd h1' (by decide))
      have d1 := of_decide_eq_false d1
      have d2 := of_decide_eq_false d2
      refine ⟨by omega, ?_⟩
      cases d3 : W.kinds (b / 16).toNat != 5 <;> rw [d3] at h1' <;> (try simp only [Bool.or_true, Bool.true_or, Bool.or_false, cond_true, cond_false] at h1') <;> (try exact absurd h1' (by decide))
      cases d4 : (W.slots b.toNat).kind != 0 <;> rw [d4] at h1' <;> (try simp only [Bool.or_true, Bool.true_or, Bool.or_false, cond_true, cond_false] at h1') <;> (try exact absurd h1' (by decide))
      exact bne_eq_false_iff_eq.1 d4
    exact ⟨ha.1, hb.1, fun e => ha.2 (by rw [e]; exact hb.2), h1, h2⟩
theorem bth_l {W : Wd} {a b : Int} (h : (hasE W a != 0) = true) : bthE W a b = hasE W a ∧ (bthE W a b == 0) = false := by
  have h : (hasE W a == 0) = false := by simpa [bne] using h
  have e : bthE W a b = hasE W a := by unfold bthE; rw [h]; rfl
  exact ⟨e, by rw [e, h]⟩
theorem bth_r {W : Wd} {a b : Int} (h : (hasE W a != 0) = false) : bthE W a b = opnE W b := by
  have h : (hasE W a == 0) = true := by simpa [bne] using h
  unfold bthE; rw [h]; rfl
theorem ne0 {x : Int} (h : (x != 0) = true) : (x == 0) = false := by simpa [bne] using h
theorem eq0 {x : Int} (h : (x != 0) = false) : (x == 0) = true := by simpa [bne] using h
theorem wd_eta (W : Wd) : (⟨W.nRam, W.ram, W.nKinds, W.kinds, W.nSlots, W.slots, W.nTasks, W.tasks, W.nLines, W.linesN, W.lines, W.nBits, W.bits, W.nCores, W.cores, W.nReady, W.readyN, W.ready, W.nTlbs, W.tlbsN, W.tlbs, W.nDoms, W.doms, W.time⟩ : Wd) = W := rfl
def an_trn (W : Wd) (a b : Int) (z : Nat) : Ann where
  σ := Nat
  rt := []
  sh i := [(0, pt0 0), (z, .v (.int .i64 i))]
  mh i := [(3, .row 7 W.nSlots (rF fun j => slL (trS W.slots a b i j)))]
  inv i := i ≤ W.nSlots
  μ i := W.nSlots - i
  init := 0
structure X_has_ where
  (W : Wd) (s : Int)
def s_has_ : Sy.Spec := ⟨X_has_, fun ⟨W, s⟩ => [wPT W, .v (.int .i64 s)], fun _ => [], fun _ => True, fun ⟨W, s⟩ => .v (.int .i64 (hasE W s)), fun _ => [],
  fun args mem => match args with | [a0, a1] => some ⟨wPTD a0, intD (a1)⟩ | _ => none⟩
def c_has_ : Con := ⟨[], s_has_.g, none⟩
def V_has_ : X_has_ → Prop := fun ⟨W, s⟩ => let a0:=cond (decide (s<0)) true (decide (((W.nSlots:Nat):Int)≤s));let b0:=hasE W s;let c0:=(W.slots (Int.toNat s)).kind==0;(a0=true→2=b0∧True)∧(a0=false→(0≤s∧s<((W.nSlots:Nat):Int))∧(c0=true→6=b0∧True)∧(c0=false→0=b0∧True))
theorem ok_has_ : FnOK Tryz.prog glN 80 c_has_ := ok_of .nil false Tryz.call80 Tryz.func80 (fun _ => []) (V := V_has_) (fun _ => by kernel_rfl) fun ⟨W, s⟩ hp => by
  dsimp only [V_has_, tn, w64]
  simp only [std, stb, eq_self, implies_true, Bool.cond_self]
  refine ⟨fun h => ?_, fun h => ?_⟩
  · unfold hasE; rw [h]; rfl
  · have h' := h
    rw [Bool.or_eq_false_iff] at h'
    have h1 := of_decide_eq_false h'.1
    have h2 := of_decide_eq_false h'.2
    refine ⟨by omega, fun h3 => ?_, fun h3 => ?_⟩ <;> (unfold hasE; rw [h, h3]; rfl)
structure X_open_ where
  (W : Wd) (s : Int)
def s_open_ : Sy.Spec := ⟨X_open_, fun ⟨W, s⟩ => [wPT W, .v (.int .i64 s)], fun _ => [], fun ⟨W, _⟩ => W.nSlots ≤ 100000 ∧ W.nSlots ≤ W.nKinds * 16, fun ⟨W, s⟩ => .v (.int .i64 (opnE W s)), fun _ => [],
  fun args mem => match args with | [a0, a1] => some ⟨wPTD a0, intD (a1)⟩ | _ => none⟩
def c_open_ : Con := ⟨[], s_open_.g, none⟩
def V_open_ : X_open_ → Prop := fun ⟨W, s⟩ => let a0:=cond (decide (s<0)) true (decide (((W.nSlots:Nat):Int)≤s));let b0:=opnE W s;let c0:Int:=s/16;let d0:=W.kinds (Int.toNat c0) !=5;let e0:=(W.slots (Int.toNat s)).kind !=0;(a0=true→2=b0∧True)∧(a0=false→(0≤s∧(0:Int)<16∧w64 c0=c0)∧(0≤c0∧c0<((W.nKinds:Nat):Int))∧(d0=true→3=b0∧True)∧(d0=false→(0≤s∧s<((W.nSlots:Nat):Int))∧(e0=true→12=b0∧True)∧(e0=false→0=b0∧True)))
theorem ok_open_ : FnOK Tryz.prog glN 134 c_open_ := ok_of .nil false Tryz.call134 Tryz.func134 (fun _ => []) (V := V_open_) (fun _ => by kernel_rfl) fun ⟨W, s⟩ hp => by
  dsimp only [s_open_] at hp
  dsimp only [V_open_, tn, w64]
  simp only [std, stb, eq_self, implies_true, Bool.cond_self]
  refine ⟨fun h => ?_, fun h => ?_⟩
  · unfold opnE; rw [h]; rfl
  · have h' := h
    rw [Bool.or_eq_false_iff] at h'
    have h1 := of_decide_eq_false h'.1
    have h2 := of_decide_eq_false h'.2
    refine ⟨⟨by omega, by decide, wr_in (by omega) (by omega)⟩, by omega, fun h3 => ?_, fun h3 => ⟨by omega, fun h4 => ?_, fun h4 => ?_⟩⟩
    · unfold opnE; rw [h, h3]; rfl
    · unfold opnE; rw [h, h3, h4]; rfl
    · unfold opnE; rw [h, h3, h4]; rfl
structure X_both where
  (W : Wd) (a b : Int)
def s_both : Sy.Spec := ⟨X_both, fun ⟨W, a, b⟩ => [wPT W, .v (.int .i64 a), .v (.int .i64 b)], fun _ => [], fun ⟨W, _, _⟩ => W.nSlots ≤ 100000 ∧ W.nSlots ≤ W.nKinds * 16, fun ⟨W, a, b⟩ => .v (.int .i64 (bthE W a b)), fun _ => [],
  fun args mem => match args with | [a0, a1, a2] => some ⟨wPTD a0, intD (a1), intD (a2)⟩ | _ => none⟩
def c_both : Con := ⟨[], s_both.g, none⟩
def V_both : X_both → Prop := fun ⟨W, a, b⟩ => let a0:=W.nKinds;let b0:=W.nSlots;let c0:=W.nTasks;let d0:=W.nLines;let e0:=W.nCores;let g0:=W.nReady;let h0:=((((((((((True∧W.nRam=W.nRam∧(∀k0:Nat,k0<W.nRam→True∧W.ram k0=W.ram k0))∧a0=a0∧(∀l0:Nat,l0<a0→True∧W.kinds l0=W.kinds l0))∧b0=b0∧(∀o0:Nat,let q0:=W.slots o0;let u0:=q0.kind;let v0:=q0.base;let w0:=q0.len;let x0:=q0.mark;let y0:=q0.rights;let z0:=q0.badge;let a1:=q0.from_;o0<b0→((((((True∧u0=u0)∧v0=v0)∧w0=w0)∧x0=x0)∧y0=y0)∧z0=z0)∧a1=a1))∧c0=c0∧(∀b1:Nat,let c1:=W.tasks b1;let d1:=c1.prio;let e1:=c1.node;let g1:=c1.space;let h1:=c1.helper;let k1:=c1.loc;let l1:=c1.word;let o1:=c1.badge;let q1:=c1.owes;let u1:=c1.core;let v1:=c1.dom;b1<c0→(((((((((((((((((((True∧c1.r0=c1.r0)∧c1.r1=c1.r1)∧c1.r2=c1.r2)∧c1.r3=c1.r3)∧c1.r4=c1.r4)∧c1.r5=c1.r5)∧c1.r6=c1.r6)∧c1.r7=c1.r7)∧c1.pc=c1.pc)∧c1.st=c1.st)∧d1=d1)∧e1=e1)∧g1=g1)∧h1=h1)∧k1=k1)∧l1=l1)∧o1=o1)∧q1=q1)∧u1=u1)∧v1=v1))∧d0=d0∧(∀w1:Nat,let x1:=W.linesN w1;w1<d0→True∧x1=x1∧(∀y1:Nat,y1<x1→True∧W.lines w1 y1=W.lines w1 y1)))∧W.nBits=W.nBits∧(∀z1:Nat,z1<W.nBits→True∧W.bits z1=W.bits z1))∧e0=e0∧(∀a2:Nat,a2<e0→True∧W.cores a2=W.cores a2))∧g0=g0∧(∀b2:Nat,let c2:=W.readyN b2;b2<g0→True∧c2=c2∧(∀d2:Nat,d2<c2→True∧W.ready b2 d2=W.ready b2 d2)))∧W.nTlbs=W.nTlbs∧(∀e2:Nat,let g2:=W.tlbsN e2;e2<W.nTlbs→True∧g2=g2∧(∀h2:Nat,let k2:=W.tlbs e2 h2;let l2:=k2.sp;let o2:=k2.pg;let q2:=k2.fr;let u2:=k2.wr;h2<g2→(((True∧l2=l2)∧o2=o2)∧q2=q2)∧u2=u2)))∧W.nDoms=W.nDoms∧(∀v2:Nat,v2<W.nDoms→True∧W.doms v2=W.doms v2))∧W.time=W.time;let w2:=hasE W a==0;((h0∧a=a∧
    True)∧True∧True)∧(w2=true→((h0∧b=b∧True)∧True∧b0≤100000∧b0≤a0*16)∧opnE W b=bthE W a b∧True)∧(w2=false→hasE W a=bthE W a b∧True)
theorem ok_both : FnOK Tryz.prog glN 73 c_both := ok_of (.cons ok_has_ (.cons ok_open_ .nil)) false Tryz.call73 Tryz.func73 (fun _ => []) (V := V_both) (fun _ => by kernel_rfl) fun ⟨W, a, b⟩ hp => by
  dsimp only [s_both] at hp
  dsimp only [V_both, tn, w64]
  simp only [std, stb, eq_self, implies_true, Bool.cond_self]
  exact ⟨fun h => ⟨hp, by unfold bthE; rw [h]; rfl⟩, fun h => by unfold bthE; rw [h]; rfl⟩
structure X_turn where
  (a b : Int) (W : Wd)
def s_turn : Sy.Spec := ⟨X_turn, fun ⟨a, b, _⟩ => [.ptr 0 0 none 0 0, .v (.int .i64 a), .v (.int .i64 b)], fun ⟨_, _, W⟩ => wMem W, fun ⟨_, _, W⟩ => W.nSlots ≤ 100000, fun _ => .tp 0 (lsv []), fun ⟨a, b, W⟩ => wMem (trnW W a b),
  fun args mem => match args with | [a0, a1, a2] => some ⟨intD (a1), intD (a2), wMJD mem 0⟩ | _ => none⟩
def c_turn : Con := ⟨[true], s_turn.g, none⟩
def V_turn : X_turn → Prop := fun ⟨a, b, W⟩ => let a0:=SV.ptr 0 0 none 0 0;let b0:=0=0;let c0:=W.nRam;let d0:=c0=c0;let e0:=W.nKinds;let g0:=e0=e0;let h0:=W.nSlots;let k0:=h0=h0;let l0:=W.nTasks;let o0:=l0=l0;let q0:=W.nLines;let u0:=q0=q0;let v0:=W.nBits;let w0:=v0=v0;let x0:=W.nCores;let y0:=x0=x0;let z0:=W.nReady;let a1:=z0=z0;let b1:=W.nTlbs;let c1:=b1=b1;let d1:=W.nDoms;let e1:=d1=d1;let g1:=W.time=W.time;let h1:=d0∧(∀k1:Nat,k1<c0→True∧W.ram k1=W.ram k1);let l1:=g0∧(∀o1:Nat,o1<e0→True∧W.kinds o1=W.kinds o1);let q1:=W.slots;let u1:=u0∧(∀v1:Nat,let w1:=W.linesN v1;v1<q0→True∧w1=w1∧(∀x1:Nat,x1<w1→True∧W.lines v1 x1=W.lines v1 x1));let y1:=w0∧(∀z1:Nat,z1<v0→True∧W.bits z1=W.bits z1);let a2:=y0∧(∀b2:Nat,b2<x0→True∧W.cores b2=W.cores b2);let c2:=a1∧(∀d2:Nat,let e2:=W.readyN d2;d2<z0→True∧e2=e2∧(∀g2:Nat,g2<e2→True∧W.ready d2 g2=W.ready d2 g2));let h2:=(e1∧(∀k2:Nat,k2<d1→True∧W.doms k2=W.doms k2))∧True;let l2:=(o0∧(∀o2:Nat,let q2:=W.tasks o2;let u2:=q2.prio;let v2:=q2.node;let w2:=q2.space;let x2:=q2.helper;let y2:=q2.loc;let z2:=q2.word;let a3:=q2.badge;let b3:=q2.owes;let c3:=q2.core;let d3:=q2.dom;o2<l0→(((((((((((((((((((True∧q2.r0=q2.r0)∧q2.r1=q2.r1)∧q2.r2=q2.r2)∧q2.r3=q2.r3)∧q2.r4=q2.r4)∧q2.r5=q2.r5)∧q2.r6=q2.r6)∧q2.r7=q2.r7)∧q2.pc=q2.pc)∧q2.st=q2.st)∧u2=u2)∧v2=v2)∧w2=w2)∧x2=x2)∧y2=y2)∧z2=z2)∧a3=a3)∧b3=b3)∧c3=c3)∧d3=d3))∧u1∧y1∧a2∧c2∧(c1∧(∀e3:Nat,let g3:=W.tlbsN e3;e3<b1→True∧g3=g3∧(∀h3:Nat,let k3:=W.tlbs e3 h3;let l3:=k3.sp;let o3:=k3.pg;let q3:=k3.fr;let u3:=k3.wr;h3<g3→(((True∧l3=l3)∧o3=o3)∧q3=q3)∧u3=u3)))∧h2;
    let v3:=(h0:Int);let w3:=SV.ptr 0 0 none 0 0=a0;let x3:=0=0;let y3:=((((((((((True∧x3∧d0)∧x3∧g0)∧x3∧k0)∧x3∧o0)∧x3∧u0)∧x3∧w0)∧x3∧y0)∧x3∧a1)∧x3∧c1)∧x3∧e1)∧g1;let z3:=Wd.mk c0 W.ram e0 W.kinds h0 (fun a4:Nat=>trn a b (q1 a4)) l0 W.tasks q0 W.linesN W.lines v0 W.bits x0 W.cores z0 W.readyN W.ready b1 W.tlbsN W.tlbs d1 W.doms W.time;a0=a0∧0=((0:Nat):Int)∧((((((((((((True∧b0∧d0)∧b0∧g0)∧b0∧k0)∧b0∧o0)∧b0∧u0)∧b0∧w0)∧b0∧y0)∧b0∧a1)∧b0∧c1)∧b0∧e1)∧g1)∧h1∧l1∧(k0∧(∀b4:Nat,let c4:=q1 b4;let d4:=trS q1 a b 0 b4;b4<h0→((((((True∧c4.kind=d4.kind)∧c4.base=d4.base)∧c4.len=d4.len)∧c4.mark=d4.mark)∧c4.rights=d4.rights)∧c4.badge=d4.badge)∧c4.from_=d4.from_))∧l2)∧0≤h0∧(∀e4:Nat,let g4:=(e4:Int);let h4:=decide (g4<v3);let k4:=0≤g4∧g4<v3;let l4:=0+Int.toNat g4;let o4:=(trS q1 a b e4 l4).from_==a;let q4:Int:=g4+1;let u4:=w64 q4=q4;e4≤h0→v3≤9223372036854775807→(h4=true→k4∧(o4=true→k4∧(∀v4:Nat,false=false)∧u4∧(∃w4:Nat,w3∧q4=(w4:Int)∧(y3∧h1∧l1∧(k0∧(∀x4:Nat,let y4:=trS q1 a b e4 x4;let z4:=trS q1 a b w4 x4;x4<h0→((((((True∧y4.kind=z4.kind)∧y4.base=z4.base)∧y4.len=z4.len)∧y4.mark=z4.mark)∧y4.rights=z4.rights)∧y4.badge=z4.badge)∧cond (Nat.beq x4 l4) b y4.from_=z4.from_))∧l2)∧w4≤h0∧h0-w4<h0-e4))∧(o4=false→u4∧(∃a5:Nat,w3∧q4=(a5:Int)∧(y3∧h1∧l1∧(k0∧(∀b5:Nat,let c5:=trS q1 a b e4 b5;let d5:=trS q1 a b a5 b5;b5<h0→((((((True∧c5.kind=d5.kind)∧c5.base=d5.base)∧c5.len=d5.len)∧c5.mark=d5.mark)∧c5.rights=d5.rights)∧c5.badge=d5.badge)∧c5.from_=d5.from_))∧l2)∧a5≤h0∧h0-a5<h0-e4)))∧(h4=false→True∧y3∧h1∧l1∧(k0∧(∀e5:Nat,
    let g5:=trS q1 a b e4 e5;let h5:=z3.slots e5;e5<h0→((((((True∧g5.kind=h5.kind)∧g5.base=h5.base)∧g5.len=h5.len)∧g5.mark=h5.mark)∧g5.rights=h5.rights)∧g5.badge=h5.badge)∧g5.from_=h5.from_))∧(o0∧(∀k5:Nat,let l5:=W.tasks k5;let o5:=z3.tasks k5;k5<l0→(((((((((((((((((((True∧l5.r0=o5.r0)∧l5.r1=o5.r1)∧l5.r2=o5.r2)∧l5.r3=o5.r3)∧l5.r4=o5.r4)∧l5.r5=o5.r5)∧l5.r6=o5.r6)∧l5.r7=o5.r7)∧l5.pc=o5.pc)∧l5.st=o5.st)∧l5.prio=o5.prio)∧l5.node=o5.node)∧l5.space=o5.space)∧l5.helper=o5.helper)∧l5.loc=o5.loc)∧l5.word=o5.word)∧l5.badge=o5.badge)∧l5.owes=o5.owes)∧l5.core=o5.core)∧l5.dom=o5.dom))∧u1∧y1∧a2∧c2∧(c1∧(∀q5:Nat,let u5:=W.tlbsN q5;q5<b1→True∧u5=u5∧(∀v5:Nat,let w5:=W.tlbs q5 v5;let x5:=z3.tlbs q5 v5;v5<u5→(((True∧w5.sp=x5.sp)∧w5.pg=x5.pg)∧w5.fr=x5.fr)∧w5.wr=x5.wr)))∧h2))
theorem ok_turn : FnOK Tryz.prog glN 74 c_turn := ok_of .nil false Tryz.call74 Tryz.func74 (fun ⟨a, b, W⟩ => [.inv (an_trn W a b 6)]) (V := V_turn) (fun _ => by kernel_rfl) fun ⟨a, b, W⟩ hp => by
  dsimp only [s_turn] at hp
  dsimp only [V_turn, tn, w64]
  simp only [std, stb, eq_self, implies_true, Bool.cond_self]
  refine ⟨fun j _ => slt7 (trS_ge (Nat.zero_le _)).symm, fun s hs _ => ⟨fun h => ?_, fun h => fun j hj => ?_⟩⟩
  · have hlt := lt_of_dec h
    refine ⟨by omega, fun h1 => ⟨by omega, wr_in (by omega) (by omega), s + 1, by omega, fun j _ => trS_yes h1, by omega, by omega⟩, fun h1 => ⟨wr_in (by omega) (by omega), s + 1, by omega, fun j _ => slt7 (trS_no h1), by omega, by omega⟩⟩
  · have hge := ge_of_dec h
    exact slt7 (trS_all (by omega))
structure X_tin where
  (W : Wd) (s : Int)
def s_tin : Sy.Spec := ⟨X_tin, fun ⟨W, s⟩ => [wPT W, .v (.int .i64 s)], fun _ => [], fun _ => True, fun ⟨W, s⟩ => .v (.bool (decide (0 ≤ s) && decide (s < W.nSlots))), fun _ => [],
  fun args mem => match args with | [a0, a1] => some ⟨wPTD a0, intD (a1)⟩ | _ => none⟩
def c_tin : Con := ⟨[], s_tin.g, none⟩
def V_tin : X_tin → Prop := fun ⟨W, s⟩ => let a0:=decide (s<((W.nSlots:Nat):Int));cond (decide (0≤s)) a0 false=(decide (0≤s)&&a0)∧True
theorem ok_tin : FnOK Tryz.prog glN 167 c_tin := ok_of .nil false Tryz.call167 Tryz.func167 (fun _ => []) (V := V_tin) (fun _ => by kernel_rfl) fun ⟨W, s⟩ hp => by
  dsimp only [V_tin, tn, w64]
  simp only [std, stb, eq_self, implies_true, Bool.cond_self]
structure X_full where
  (W : Wd) (s : Int)
def s_full : Sy.Spec := ⟨X_full, fun ⟨W, s⟩ => [wPT W, .v (.int .i64 s)], fun _ => [], fun _ => True, fun ⟨W, s⟩ => .er 35 116 (hasE W s) (-1), fun _ => [],
  fun args mem => match args with | [a0, a1] => some ⟨wPTD a0, intD (a1)⟩ | _ => none⟩
def c_full : Con := ⟨[], s_full.g, none⟩
def V_full : X_full → Prop := fun ⟨W, s⟩ => let a0:=W.nKinds;let b0:=W.nSlots;let c0:=W.nTasks;let d0:=W.nLines;let e0:=W.nCores;let g0:=W.nReady;let h0:=!(decide (0≤s)&&decide (s<(b0:Int)));let k0:=hasE W s;let l0:=((-1):Int)=(-1);let o0:=(W.slots (Int.toNat s)).kind==0;(((((((((((((True∧W.nRam=W.nRam∧(∀q0:Nat,q0<W.nRam→True∧W.ram q0=W.ram q0))∧a0=a0∧(∀u0:Nat,u0<a0→True∧W.kinds u0=W.kinds u0))∧b0=b0∧(∀v0:Nat,let w0:=W.slots v0;let x0:=w0.kind;let y0:=w0.base;let z0:=w0.len;let a1:=w0.mark;let b1:=w0.rights;let c1:=w0.badge;let d1:=w0.from_;v0<b0→((((((True∧x0=x0)∧y0=y0)∧z0=z0)∧a1=a1)∧b1=b1)∧c1=c1)∧d1=d1))∧c0=c0∧(∀e1:Nat,let g1:=W.tasks e1;let h1:=g1.prio;let k1:=g1.node;let l1:=g1.space;let o1:=g1.helper;let q1:=g1.loc;let u1:=g1.word;let v1:=g1.badge;let w1:=g1.owes;let x1:=g1.core;let y1:=g1.dom;e1<c0→(((((((((((((((((((True∧g1.r0=g1.r0)∧g1.r1=g1.r1)∧g1.r2=g1.r2)∧g1.r3=g1.r3)∧g1.r4=g1.r4)∧g1.r5=g1.r5)∧g1.r6=g1.r6)∧g1.r7=g1.r7)∧g1.pc=g1.pc)∧g1.st=g1.st)∧h1=h1)∧k1=k1)∧l1=l1)∧o1=o1)∧q1=q1)∧u1=u1)∧v1=v1)∧w1=w1)∧x1=x1)∧y1=y1))∧d0=d0∧(∀z1:Nat,let a2:=W.linesN z1;z1<d0→True∧a2=a2∧(∀b2:Nat,b2<a2→True∧W.lines z1 b2=W.lines z1 b2)))∧W.nBits=W.nBits∧(∀c2:Nat,c2<W.nBits→True∧W.bits c2=W.bits c2))∧e0=e0∧(∀d2:Nat,d2<e0→True∧W.cores d2=W.cores d2))∧g0=g0∧(∀e2:Nat,let g2:=W.readyN e2;e2<g0→True∧g2=g2∧(∀h2:Nat,h2<g2→True∧W.ready e2 h2=W.ready e2 h2)))∧W.nTlbs=W.nTlbs∧(∀k2:Nat,let l2:=W.tlbsN k2;k2<W.nTlbs→True∧l2=l2∧(∀o2:Nat,let q2:=W.tlbs k2 o2;let u2:=q2.sp;let v2:=q2.pg;let w2:=q2.fr;let x2:=q2.wr;o2<l2→(((True∧u2=u2)∧v2=v2)∧
    w2=w2)∧x2=x2)))∧W.nDoms=W.nDoms∧(∀y2:Nat,y2<W.nDoms→True∧W.doms y2=W.doms y2))∧W.time=W.time)∧s=s∧True)∧True∧True)∧(h0=true→((2:Int)≠0∧k0=2∧l0)∧True)∧(h0=false→(0≤s∧s<(b0:Int))∧(o0=true→((6:Int)≠0∧k0=6∧l0)∧True)∧(o0=false→(k0=0∧l0)∧True))
theorem ok_full : FnOK Tryz.prog glN 127 c_full := ok_of (.cons ok_tin .nil) false Tryz.call127 Tryz.func127 (fun _ => []) (V := V_full) (fun _ => by kernel_rfl) fun ⟨W, s⟩ hp => by
  dsimp only [V_full, tn, w64]
  simp only [std, stb, eq_self, implies_true, Bool.cond_self]
  have inq : (decide (0 ≤ s) && decide (s < W.nSlots)) = !(decide (s < 0) || decide ((W.nSlots : Int) ≤ s)) := by
    rcases Int.lt_or_le s 0 with h | h
    · rw [decide_eq_false (by omega), decide_eq_true h]; rfl
    · rcases Int.lt_or_le s W.nSlots with h2 | h2
      · rw [decide_eq_true h, decide_eq_true h2, decide_eq_false (by omega), decide_eq_false (by omega)]; rfl
      · rw [decide_eq_true h, decide_eq_false (by omega), decide_eq_false (show ¬ s < 0 by omega), decide_eq_true h2]; rfl
  rw [inq, Bool.not_not]
  
  refine ⟨fun h => ?_, fun h => ?_⟩
  · exact ⟨by decide, by unfold hasE; rw [h]; rfl⟩
  · have h' := h
    rw [Bool.or_eq_false_iff] at h'
    have h1 := of_decide_eq_false h'.1
    have h2 := of_decide_eq_false h'.2
    exact ⟨by omega, fun h3 => ⟨by decide, by unfold hasE; rw [h, h3]; rfl⟩, fun h3 => by unfold hasE; rw [h, h3]; rfl⟩
structure X_free where
  (W : Wd) (s : Int)
def s_free : Sy.Spec := ⟨X_free, fun ⟨W, s⟩ => [wPT W, .v (.int .i64 s)], fun _ => [], fun ⟨W, _⟩ => W.nSlots ≤ 100000 ∧ W.nSlots ≤ W.nKinds * 16, fun ⟨W, s⟩ => .er 35 116 (opnE W s) (-1), fun _ => [],
  fun args mem => match args with | [a0, a1] => some ⟨wPTD a0, intD (a1)⟩ | _ => none⟩
def c_free : Con := ⟨[], s_free.g, none⟩
def V_free : X_free → Prop := fun ⟨W, s⟩ => let a0:=W.nKinds;let b0:=W.nSlots;let c0:=W.nTasks;let d0:=W.nLines;let e0:=W.nCores;let g0:=W.nReady;let h0:=!(decide (0≤s)&&decide (s<(b0:Int)));let k0:=opnE W s;let l0:=((-1):Int)=(-1);let o0:Int:=s/16;let q0:=W.kinds (Int.toNat o0) !=5;let u0:=(W.slots (Int.toNat s)).kind !=0;(((((((((((((True∧W.nRam=W.nRam∧(∀v0:Nat,v0<W.nRam→True∧W.ram v0=W.ram v0))∧a0=a0∧(∀w0:Nat,w0<a0→True∧W.kinds w0=W.kinds w0))∧b0=b0∧(∀x0:Nat,let y0:=W.slots x0;let z0:=y0.kind;let a1:=y0.base;let b1:=y0.len;let c1:=y0.mark;let d1:=y0.rights;let e1:=y0.badge;let g1:=y0.from_;x0<b0→((((((True∧z0=z0)∧a1=a1)∧b1=b1)∧c1=c1)∧d1=d1)∧e1=e1)∧g1=g1))∧c0=c0∧(∀h1:Nat,let k1:=W.tasks h1;let l1:=k1.prio;let o1:=k1.node;let q1:=k1.space;let u1:=k1.helper;let v1:=k1.loc;let w1:=k1.word;let x1:=k1.badge;let y1:=k1.owes;let z1:=k1.core;let a2:=k1.dom;h1<c0→(((((((((((((((((((True∧k1.r0=k1.r0)∧k1.r1=k1.r1)∧k1.r2=k1.r2)∧k1.r3=k1.r3)∧k1.r4=k1.r4)∧k1.r5=k1.r5)∧k1.r6=k1.r6)∧k1.r7=k1.r7)∧k1.pc=k1.pc)∧k1.st=k1.st)∧l1=l1)∧o1=o1)∧q1=q1)∧u1=u1)∧v1=v1)∧w1=w1)∧x1=x1)∧y1=y1)∧z1=z1)∧a2=a2))∧d0=d0∧(∀b2:Nat,let c2:=W.linesN b2;b2<d0→True∧c2=c2∧(∀d2:Nat,d2<c2→True∧W.lines b2 d2=W.lines b2 d2)))∧W.nBits=W.nBits∧(∀e2:Nat,e2<W.nBits→True∧W.bits e2=W.bits e2))∧e0=e0∧(∀g2:Nat,g2<e0→True∧W.cores g2=W.cores g2))∧g0=g0∧(∀h2:Nat,let k2:=W.readyN h2;h2<g0→True∧k2=k2∧(∀l2:Nat,l2<k2→True∧W.ready h2 l2=W.ready h2 l2)))∧W.nTlbs=W.nTlbs∧(∀o2:Nat,let q2:=W.tlbsN o2;o2<W.nTlbs→True∧q2=q2∧(∀u2:Nat,let v2:=W.tlbs o2 u2;let w2:=v2.sp;let x2:=v2.pg;
    let y2:=v2.fr;let z2:=v2.wr;u2<q2→(((True∧w2=w2)∧x2=x2)∧y2=y2)∧z2=z2)))∧W.nDoms=W.nDoms∧(∀a3:Nat,a3<W.nDoms→True∧W.doms a3=W.doms a3))∧W.time=W.time)∧s=s∧True)∧True∧True)∧(h0=true→((2:Int)≠0∧k0=2∧l0)∧True)∧(h0=false→(0≤s∧(0:Int)<16∧w64 o0=o0)∧(0≤o0∧o0<(a0:Int))∧(q0=true→((3:Int)≠0∧k0=3∧l0)∧True)∧(q0=false→(0≤s∧s<(b0:Int))∧(u0=true→((12:Int)≠0∧k0=12∧l0)∧True)∧(u0=false→(k0=0∧l0)∧True)))
theorem ok_free : FnOK Tryz.prog glN 128 c_free := ok_of (.cons ok_tin .nil) false Tryz.call128 Tryz.func128 (fun _ => []) (V := V_free) (fun _ => by kernel_rfl) fun ⟨W, s⟩ hp => by
  dsimp only [s_free] at hp
  dsimp only [V_free, tn, w64]
  simp only [std, stb, eq_self, implies_true, Bool.cond_self]
  have inq : (decide (0 ≤ s) && decide (s < W.nSlots)) = !(decide (s < 0) || decide ((W.nSlots : Int) ≤ s)) := by
    rcases Int.lt_or_le s 0 with h | h
    · rw [decide_eq_false (by omega), decide_eq_true h]; rfl
    · rcases Int.lt_or_le s W.nSlots with h2 | h2
      · rw [decide_eq_true h, decide_eq_true h2, decide_eq_false (by omega), decide_eq_false (by omega)]; rfl
      · rw [decide_eq_true h, decide_eq_false (by omega), decide_eq_false (show ¬ s < 0 by omega), decide_eq_true h2]; rfl
  rw [inq, Bool.not_not]
  
  refine ⟨fun h => ?_, fun h => ?_⟩
  · exact ⟨by decide, by unfold opnE; rw [h]; rfl⟩
  · have h' := h
    rw [Bool.or_eq_false_iff] at h'
    have h1 := of_decide_eq_false h'.1
    have h2 := of_decide_eq_false h'.2
    refine ⟨⟨by omega, by decide, wr_in (by omega) (by omega)⟩, by omega, fun h3 => ?_, fun h3 => ⟨by omega, fun h4 => ?_, fun h4 => ?_⟩⟩
    · exact ⟨by decide, by unfold opnE; rw [h, h3]; rfl⟩
    · exact ⟨by decide, by unfold opnE; rw [h, h3, h4]; rfl⟩
    · unfold opnE; rw [h, h3, h4]; rfl
structure X_heir where
  (a b : Int) (W : Wd)
def s_heir : Sy.Spec := ⟨X_heir, fun ⟨a, b, _⟩ => [.ptr 0 0 none 0 0, .v (.int .i64 a), .v (.int .i64 b)], fun ⟨_, _, W⟩ => wMem W, fun ⟨_, _, W⟩ => W.nSlots ≤ 100000, fun _ => .tp 0 (lsv []), fun ⟨a, b, W⟩ => wMem (trnW W a b),
  fun args mem => match args with | [a0, a1, a2] => some ⟨intD (a1), intD (a2), wMJD mem 0⟩ | _ => none⟩
def c_heir : Con := ⟨[true], s_heir.g, none⟩
def V_heir : X_heir → Prop := fun ⟨a, b, W⟩ => let a0:=W.nSlots;let b0:=(a0:Int);let c0:=SV.ptr 0 0 none 0 0=SV.ptr 0 0 none 0 0;let d0:=0=0;let e0:=W.nRam;let g0:=e0=e0;let h0:=W.nKinds;let k0:=h0=h0;let l0:=a0=a0;let o0:=W.nTasks;let q0:=o0=o0;let u0:=W.nLines;let v0:=u0=u0;let w0:=W.nBits;let x0:=w0=w0;let y0:=W.nCores;let z0:=y0=y0;let a1:=W.nReady;let b1:=a1=a1;let c1:=W.nTlbs;let d1:=c1=c1;let e1:=W.nDoms;let g1:=e1=e1;let h1:=W.time=W.time;let k1:=((((((((((True∧d0∧g0)∧d0∧k0)∧d0∧l0)∧d0∧q0)∧d0∧v0)∧d0∧x0)∧d0∧z0)∧d0∧b1)∧d0∧d1)∧d0∧g1)∧h1;let l1:=g0∧(∀o1:Nat,o1<e0→True∧W.ram o1=W.ram o1);let q1:=k0∧(∀u1:Nat,u1<h0→True∧W.kinds u1=W.kinds u1);let v1:=W.slots;let w1:=v0∧(∀x1:Nat,let y1:=W.linesN x1;x1<u0→True∧y1=y1∧(∀z1:Nat,z1<y1→True∧W.lines x1 z1=W.lines x1 z1));let a2:=x0∧(∀b2:Nat,b2<w0→True∧W.bits b2=W.bits b2);let c2:=z0∧(∀d2:Nat,d2<y0→True∧W.cores d2=W.cores d2);let e2:=b1∧(∀g2:Nat,let h2:=W.readyN g2;g2<a1→True∧h2=h2∧(∀k2:Nat,k2<h2→True∧W.ready g2 k2=W.ready g2 k2));let l2:=(g1∧(∀o2:Nat,o2<e1→True∧W.doms o2=W.doms o2))∧True;
    let q2:=(q0∧(∀u2:Nat,let v2:=W.tasks u2;let w2:=v2.prio;let x2:=v2.node;let y2:=v2.space;let z2:=v2.helper;let a3:=v2.loc;let b3:=v2.word;let c3:=v2.badge;let d3:=v2.owes;let e3:=v2.core;let g3:=v2.dom;u2<o0→(((((((((((((((((((True∧v2.r0=v2.r0)∧v2.r1=v2.r1)∧v2.r2=v2.r2)∧v2.r3=v2.r3)∧v2.r4=v2.r4)∧v2.r5=v2.r5)∧v2.r6=v2.r6)∧v2.r7=v2.r7)∧v2.pc=v2.pc)∧v2.st=v2.st)∧w2=w2)∧x2=x2)∧y2=y2)∧z2=z2)∧a3=a3)∧b3=b3)∧c3=c3)∧d3=d3)∧e3=e3)∧g3=g3))∧w1∧a2∧c2∧e2∧(d1∧(∀h3:Nat,let k3:=W.tlbsN h3;h3<c1→True∧k3=k3∧(∀l3:Nat,let o3:=W.tlbs h3 l3;let q3:=o3.sp;let u3:=o3.pg;let v3:=o3.fr;let w3:=o3.wr;l3<k3→(((True∧q3=q3)∧u3=u3)∧v3=v3)∧w3=w3)))∧l2;let x3:=0=0;let y3:=Wd.mk e0 W.ram h0 W.kinds a0 (fun z3:Nat=>trn a b (v1 z3)) o0 W.tasks u0 W.linesN W.lines w0 W.bits y0 W.cores a1 W.readyN W.ready c1 W.tlbsN W.tlbs e1 W.doms W.time;b0≤9223372036854775807→c0∧0=((0:Nat):Int)∧(k1∧l1∧q1∧(l0∧(∀a4:Nat,let b4:=v1 a4;let c4:=trS v1 a b 0 a4;a4<a0→((((((True∧b4.kind=c4.kind)∧b4.base=c4.base)∧b4.len=c4.len)∧b4.mark=c4.mark)∧b4.rights=c4.rights)∧b4.badge=c4.badge)∧b4.from_=c4.from_))∧q2)∧0≤a0∧(∀d4:Nat,let e4:=(d4:Int);let g4:=decide (e4<b0);let h4:=0≤e4∧e4<b0;let k4:=0+Int.toNat e4;let l4:=(trS v1 a b d4 k4).from_==a;let o4:Int:=e4+1;let q4:=w64 o4=o4;d4≤a0→(g4=true→h4∧(l4=true→h4∧(∀u4:Nat,false=false)∧q4∧(∃v4:Nat,c0∧o4=(v4:Int)∧(k1∧l1∧q1∧(l0∧(∀w4:Nat,let x4:=trS v1 a b d4 w4;let y4:=trS v1 a b v4 w4;w4<a0→((((((True∧x4.kind=y4.kind)∧x4.base=y4.base)∧x4.len=y4.len)∧x4.mark=y4.mark)∧x4.rights=y4.rights)∧
    x4.badge=y4.badge)∧cond (Nat.beq w4 k4) b x4.from_=y4.from_))∧q2)∧v4≤a0∧a0-v4<a0-d4))∧(l4=false→q4∧(∃z4:Nat,c0∧o4=(z4:Int)∧(k1∧l1∧q1∧(l0∧(∀a5:Nat,let b5:=trS v1 a b d4 a5;let c5:=trS v1 a b z4 a5;a5<a0→((((((True∧b5.kind=c5.kind)∧b5.base=c5.base)∧b5.len=c5.len)∧b5.mark=c5.mark)∧b5.rights=c5.rights)∧b5.badge=c5.badge)∧b5.from_=c5.from_))∧q2)∧z4≤a0∧a0-z4<a0-d4)))∧(g4=false→True∧(((((((((((True∧x3∧g0)∧x3∧k0)∧x3∧l0)∧x3∧q0)∧x3∧v0)∧x3∧x0)∧x3∧z0)∧x3∧b1)∧x3∧d1)∧x3∧g1)∧h1)∧l1∧q1∧(l0∧(∀d5:Nat,let e5:=trS v1 a b d4 d5;let g5:=y3.slots d5;d5<a0→((((((True∧e5.kind=g5.kind)∧e5.base=g5.base)∧e5.len=g5.len)∧e5.mark=g5.mark)∧e5.rights=g5.rights)∧e5.badge=g5.badge)∧e5.from_=g5.from_))∧(q0∧(∀h5:Nat,let k5:=W.tasks h5;let l5:=y3.tasks h5;h5<o0→(((((((((((((((((((True∧k5.r0=l5.r0)∧k5.r1=l5.r1)∧k5.r2=l5.r2)∧k5.r3=l5.r3)∧k5.r4=l5.r4)∧k5.r5=l5.r5)∧k5.r6=l5.r6)∧k5.r7=l5.r7)∧k5.pc=l5.pc)∧k5.st=l5.st)∧k5.prio=l5.prio)∧k5.node=l5.node)∧k5.space=l5.space)∧k5.helper=l5.helper)∧k5.loc=l5.loc)∧k5.word=l5.word)∧k5.badge=l5.badge)∧k5.owes=l5.owes)∧k5.core=l5.core)∧k5.dom=l5.dom))∧w1∧a2∧c2∧e2∧(d1∧(∀o5:Nat,let q5:=W.tlbsN o5;o5<c1→True∧q5=q5∧(∀u5:Nat,let v5:=W.tlbs o5 u5;let w5:=y3.tlbs o5 u5;u5<q5→(((True∧v5.sp=w5.sp)∧v5.pg=w5.pg)∧v5.fr=w5.fr)∧v5.wr=w5.wr)))∧l2))
theorem ok_heir : FnOK Tryz.prog glN 129 c_heir := ok_of .nil false Tryz.call129 Tryz.func129 (fun ⟨a, b, W⟩ => [.inv (an_trn W a b 12)]) (V := V_heir) (fun _ => by kernel_rfl) fun ⟨a, b, W⟩ hp => by
  dsimp only [s_heir] at hp
  dsimp only [V_heir, tn, w64]
  simp only [std, stb, eq_self, implies_true, Bool.cond_self]
  intro _
  refine ⟨fun j _ => slt7 (trS_ge (Nat.zero_le _)).symm, fun s hs => ⟨fun h => ?_, fun h => fun j hj => ?_⟩⟩
  · have hlt := lt_of_dec h
    refine ⟨by omega, fun h1 => ⟨by omega, wr_in (by omega) (by omega), s + 1, by omega, fun j _ => trS_yes h1, by omega, by omega⟩, fun h1 => ⟨wr_in (by omega) (by omega), s + 1, by omega, fun j _ => slt7 (trS_no h1), by omega, by omega⟩⟩
  · have hge := ge_of_dec h
    exact slt7 (trS_all (by omega))
structure X_moveKey where
  (a b : Int) (W : Wd)
def s_moveKey : Sy.Spec := ⟨X_moveKey, fun ⟨a, b, _⟩ => [.ptr 0 0 none 0 0, .v (.int .i64 a), .v (.int .i64 b)], fun ⟨_, _, W⟩ => wMem W, fun ⟨_, _, W⟩ => W.nSlots ≤ 100000 ∧ W.nSlots ≤ W.nKinds * 16, fun ⟨a, b, W⟩ => .v (.int .i64 (bthE W a b)), fun ⟨a, b, W⟩ => wMem (mvW W a b),
  fun args mem => match args with | [a0, a1, a2] => some ⟨intD (a1), intD (a2), wMJD mem 0⟩ | _ => none⟩
def c_moveKey : Con := ⟨[true], s_moveKey.g, none⟩
def V_moveKey : X_moveKey → Prop := fun ⟨a, b, W⟩ => let a0:=W.nRam;let b0:=a0=a0;let c0:=W.nKinds;let d0:=c0=c0;let e0:=W.nSlots;let g0:=e0=e0;let h0:=W.nTasks;let k0:=h0=h0;let l0:=W.nLines;let o0:=l0=l0;let q0:=W.nBits;let u0:=q0=q0;let v0:=W.nCores;let w0:=v0=v0;let x0:=W.nReady;let y0:=x0=x0;let z0:=W.nTlbs;let a1:=z0=z0;let b1:=W.nDoms;let c1:=b1=b1;let d1:=W.time;let e1:=d1=d1;let g1:=a=a∧b=b∧True;let h1:=bthE (Wd.mk a0 (fun k1:Nat=>W.ram (0+k1)) c0 (fun l1:Nat=>W.kinds (0+l1)) e0 (fun o1:Nat=>W.slots (0+o1)) h0 (fun q1:Nat=>W.tasks (0+q1)) l0 (fun u1:Nat=>W.linesN (0+u1)) (fun v1:Nat=>fun w1:Nat=>W.lines (0+v1) (0+w1)) q0 (fun x1:Nat=>W.bits (0+x1)) v0 (fun y1:Nat=>W.cores (0+y1)) x0 (fun z1:Nat=>W.readyN (0+z1)) (fun a2:Nat=>fun b2:Nat=>W.ready (0+a2) (0+b2)) z0 (fun c2:Nat=>W.tlbsN (0+c2)) (fun d2:Nat=>fun e2:Nat=>W.tlbs (0+d2) (0+e2)) b1 (fun g2:Nat=>W.doms (0+g2)) d1) a b;let h2:=h1 !=0;let k2:=bthE W a b;let l2:=0=0;let o2:=((((((((((True∧l2∧b0)∧l2∧d0)∧l2∧g0)∧l2∧k0)∧l2∧o0)∧l2∧u0)∧l2∧w0)∧l2∧y0)∧l2∧a1)∧l2∧c1)∧e1;let q2:=b0∧(∀u2:Nat,u2<a0→True∧W.ram u2=W.ram u2);let v2:=d0∧(∀w2:Nat,w2<c0→True∧W.kinds w2=W.kinds w2);let x2:=W.linesN;let y2:=W.readyN;let z2:=Wd.mk a0 W.ram c0 W.kinds e0 (fun a3:Nat=>cond (k2==0) (trn a b (mvS W.slots (Int.toNat a) (Int.toNat b) a3)) (W.slots a3)) h0 W.tasks l0 x2 W.lines q0 W.bits v0 W.cores x0 y2 W.ready z0 W.tlbsN W.tlbs b1 W.doms d1;let b3:=o0∧(∀c3:Nat,c3<l0→True∧x2 c3=x2 c3∧(∀d3:Nat,d3<x2 c3→True∧W.lines c3 d3=W.lines c3 d3));let e3:=u0∧(∀g3:Nat,g3<q0→True∧W.bits g3=W.bits g3);
    let h3:=w0∧(∀k3:Nat,k3<v0→True∧W.cores k3=W.cores k3);let l3:=y0∧(∀o3:Nat,o3<x0→True∧y2 o3=y2 o3∧(∀q3:Nat,q3<y2 o3→True∧W.ready o3 q3=W.ready o3 q3));let u3:=(c1∧(∀v3:Nat,v3<b1→True∧W.doms v3=W.doms v3))∧True;let w3:=(k0∧(∀x3:Nat,let y3:=W.tasks x3;let z3:=z2.tasks x3;x3<h0→(((((((((((((((((((True∧y3.r0=z3.r0)∧y3.r1=z3.r1)∧y3.r2=z3.r2)∧y3.r3=z3.r3)∧y3.r4=z3.r4)∧y3.r5=z3.r5)∧y3.r6=z3.r6)∧y3.r7=z3.r7)∧y3.pc=z3.pc)∧y3.st=z3.st)∧y3.prio=z3.prio)∧y3.node=z3.node)∧y3.space=z3.space)∧y3.helper=z3.helper)∧y3.loc=z3.loc)∧y3.word=z3.word)∧y3.badge=z3.badge)∧y3.owes=z3.owes)∧y3.core=z3.core)∧y3.dom=z3.dom))∧b3∧e3∧h3∧l3∧(a1∧(∀a4:Nat,let b4:=W.tlbsN a4;a4<z0→True∧b4=b4∧(∀c4:Nat,let d4:=W.tlbs a4 c4;let e4:=z2.tlbs a4 c4;c4<b4→(((True∧d4.sp=e4.sp)∧d4.pg=e4.pg)∧d4.fr=e4.fr)∧d4.wr=e4.wr)))∧u3;let g4:=0≤a∧a<(e0:Int);let h4:=false=false;let k4:=(∀l4:Nat,h4)∧(∀o4:Nat,h4)∧(∀q4:Nat,h4)∧(∀u4:Nat,h4)∧(∀v4:Nat,h4)∧(∀w4:Nat,h4)∧(∀x4:Nat,h4);let y4:=0+Int.toNat b;let z4:=0+Int.toNat a;let a5:=W.slots z4;let b5:=a5.kind;let c5:=a5.base;let d5:=a5.len;let e5:=a5.mark;let g5:=a5.rights;let h5:=a5.badge;let k5:=a5.from_;
    let l5:=Wd.mk a0 W.ram c0 W.kinds e0 (fun o5:Nat=>let q5:=Nat.beq o5 y4;let u5:=Nat.beq o5 z4;let v5:=W.slots o5;trn a b (Slt.mk (cond q5 b5 (cond u5 0 v5.kind)) (cond q5 c5 (cond u5 0 v5.base)) (cond q5 d5 (cond u5 0 v5.len)) (cond q5 e5 (cond u5 0 v5.mark)) (cond q5 g5 (cond u5 0 v5.rights)) (cond q5 h5 (cond u5 0 v5.badge)) (cond q5 k5 (cond u5 (-1) v5.from_)))) h0 W.tasks l0 x2 W.lines q0 W.bits v0 W.cores x0 y2 W.ready z0 W.tlbsN W.tlbs b1 W.doms d1;(((((((((((((True∧b0∧(∀w5:Nat,w5<a0→True∧W.ram (0+w5)=W.ram (0+w5)))∧d0∧(∀x5:Nat,let y5:=W.kinds (0+x5);x5<c0→True∧y5=y5))∧g0∧(∀z5:Nat,let a6:=W.slots (0+z5);let b6:=a6.kind;let c6:=a6.base;let d6:=a6.len;let e6:=a6.mark;let g6:=a6.rights;let h6:=a6.badge;let k6:=a6.from_;z5<e0→((((((True∧b6=b6)∧c6=c6)∧d6=d6)∧e6=e6)∧g6=g6)∧h6=h6)∧k6=k6))∧k0∧(∀l6:Nat,let o6:=W.tasks (0+l6);let q6:=o6.r0;let u6:=o6.r1;let v6:=o6.r2;let w6:=o6.r3;let x6:=o6.r4;let y6:=o6.r5;let z6:=o6.r6;let a7:=o6.r7;let b7:=o6.pc;let c7:=o6.st;let d7:=o6.prio;let e7:=o6.node;let g7:=o6.space;let h7:=o6.helper;let k7:=o6.loc;let l7:=o6.word;let o7:=o6.badge;let q7:=o6.owes;let u7:=o6.core;let v7:=o6.dom;l6<h0→(((((((((((((((((((True∧q6=q6)∧u6=u6)∧v6=v6)∧w6=w6)∧x6=x6)∧y6=y6)∧z6=z6)∧a7=a7)∧b7=b7)∧c7=c7)∧d7=d7)∧e7=e7)∧g7=g7)∧h7=h7)∧k7=k7)∧l7=l7)∧o7=o7)∧q7=q7)∧u7=u7)∧v7=v7))∧o0∧(∀w7:Nat,let x7:=x2 (0+w7);w7<l0→True∧x7=x7∧(∀y7:Nat,let z7:=W.lines (0+w7) (0+y7);y7<x7→True∧z7=z7)))∧u0∧(∀a8:Nat,a8<q0→True∧W.bits (0+a8)=W.bits (0+a8)))∧w0∧(∀b8:Nat,
    let c8:=W.cores (0+b8);b8<v0→True∧c8=c8))∧y0∧(∀d8:Nat,let e8:=y2 (0+d8);d8<x0→True∧e8=e8∧(∀g8:Nat,let h8:=W.ready (0+d8) (0+g8);g8<e8→True∧h8=h8)))∧a1∧(∀k8:Nat,let l8:=0+k8;let o8:=W.tlbsN l8;k8<z0→True∧o8=o8∧(∀q8:Nat,let r8:=W.tlbs l8 (0+q8);let u8:=r8.sp;let v8:=r8.pg;let w8:=r8.fr;let x8:=r8.wr;q8<o8→(((True∧u8=u8)∧v8=v8)∧w8=w8)∧x8=x8)))∧c1∧(∀y8:Nat,y8<b1→True∧W.doms (0+y8)=W.doms (0+y8)))∧e1)∧g1)∧True∧e0≤100000∧e0≤c0*16)∧(h2=true→h1=k2∧o2∧q2∧v2∧(g0∧(∀z8:Nat,let a9:=W.slots z8;let b9:=z2.slots z8;z8<e0→((((((True∧a9.kind=b9.kind)∧a9.base=b9.base)∧a9.len=b9.len)∧a9.mark=b9.mark)∧a9.rights=b9.rights)∧a9.badge=b9.badge)∧a9.from_=b9.from_))∧w3)∧(h2=false→g4∧True∧tn 6 True∧g4∧k4∧tn 6 ((0≤b∧b<(e0:Int))∧k4∧((SV.ptr 0 0 none 0 0=SV.ptr 0 0 none 0 0∧g1)∧(o2∧q2∧v2∧(g0∧(∀c9:Nat,let d9:=Nat.beq c9 y4;let e9:=Nat.beq c9 z4;let g9:=W.slots c9;let h9:Int:=cond d9 b5 (cond e9 0 g9.kind);let k9:Int:=cond d9 c5 (cond e9 0 g9.base);let l9:Int:=cond d9 d5 (cond e9 0 g9.len);let o9:Int:=cond d9 e5 (cond e9 0 g9.mark);let q9:Int:=cond d9 g5 (cond e9 0 g9.rights);let r9:Int:=cond d9 h5 (cond e9 0 g9.badge);let u9:Int:=cond d9 k5 (cond e9 (-1) g9.from_);c9<e0→((((((True∧h9=h9)∧k9=k9)∧l9=l9)∧o9=o9)∧q9=q9)∧r9=r9)∧u9=u9))∧(k0∧(∀v9:Nat,let w9:=W.tasks v9;let x9:=w9.prio;let y9:=w9.node;let z9:=w9.space;let a10:=w9.helper;let b10:=w9.loc;let c10:=w9.word;let d10:=w9.badge;let e10:=w9.owes;let g10:=w9.core;let h10:=w9.dom;v9<h0→(((((((((((((((((((True∧w9.r0=w9.r0)∧w9.r1=w9.r1)∧w9.r2=w9.r2)∧
    w9.r3=w9.r3)∧w9.r4=w9.r4)∧w9.r5=w9.r5)∧w9.r6=w9.r6)∧w9.r7=w9.r7)∧w9.pc=w9.pc)∧w9.st=w9.st)∧x9=x9)∧y9=y9)∧z9=z9)∧a10=a10)∧b10=b10)∧c10=c10)∧d10=d10)∧e10=e10)∧g10=g10)∧h10=h10))∧b3∧e3∧h3∧l3∧(a1∧(∀k10:Nat,let l10:=W.tlbsN k10;k10<z0→True∧l10=l10∧(∀o10:Nat,let q10:=W.tlbs k10 o10;let r10:=q10.sp;let u10:=q10.pg;let v10:=q10.fr;let w10:=q10.wr;o10<l10→(((True∧r10=r10)∧u10=u10)∧v10=v10)∧w10=w10)))∧u3)∧s_turn.match_1 (fun x10:X_turn=>Prop) (X_turn.mk a b (Wd.mk a0 W.ram c0 W.kinds e0 (fun y10:Nat=>let z10:=Nat.beq y10 y4;let a11:=Nat.beq y10 z4;let b11:=W.slots y10;Slt.mk (cond z10 b5 (cond a11 0 b11.kind)) (cond z10 c5 (cond a11 0 b11.base)) (cond z10 d5 (cond a11 0 b11.len)) (cond z10 e5 (cond a11 0 b11.mark)) (cond z10 g5 (cond a11 0 b11.rights)) (cond z10 h5 (cond a11 0 b11.badge)) (cond z10 k5 (cond a11 (-1) b11.from_))) h0 W.tasks l0 x2 W.lines q0 W.bits v0 W.cores x0 y2 W.ready z0 W.tlbsN W.tlbs b1 W.doms d1)) (fun c11:Int=>fun d11:Int=>fun e11:Wd=>e11.nSlots≤100000))∧0=k2∧o2∧q2∧v2∧(g0∧(∀g11:Nat,let h11:=l5.slots g11;let k11:=z2.slots g11;g11<e0→((((((True∧h11.kind=k11.kind)∧h11.base=k11.base)∧h11.len=k11.len)∧h11.mark=k11.mark)∧h11.rights=k11.rights)∧h11.badge=k11.badge)∧h11.from_=k11.from_))∧w3))
theorem ok_moveKey : FnOK Tryz.prog glN 18 c_moveKey := ok_of (.cons ok_both (.cons ok_turn .nil)) false Tryz.call18 Tryz.func18 (fun _ => []) (V := V_moveKey) (fun _ => by kernel_rfl) fun ⟨a, b, W⟩ hp => by
  dsimp only [s_moveKey] at hp
  dsimp only [V_moveKey, tn, w64]
  simp only [std, stb, eq_self, implies_true, Bool.cond_self]
  simp only [wd_eta]
  refine ⟨hp, fun h => fun j _ => slt7 ?_, fun h => ?_⟩
  · rw [ne0 h]; rfl
  · have h0 := eq0 h
    obtain ⟨h1, h2, h3, _, _⟩ := bth_in h0
    refine ⟨h1, h1, h2, hp.1, (eq_of_beq h0).symm, fun j _ => slt7 ?_⟩
    rw [h0]
    show trn a b _ = trn a b _
    unfold mvS blS
    cases j.beq b.toNat <;> cases j.beq a.toNat <;> rfl
structure X_doMove where
  (a b : Int) (W : Wd)
def s_doMove : Sy.Spec := ⟨X_doMove, fun ⟨a, b, _⟩ => [.ptr 0 0 none 0 0, .v (.int .i64 a), .v (.int .i64 b)], fun ⟨_, _, W⟩ => wMem W, fun ⟨_, _, W⟩ => W.nSlots ≤ 100000 ∧ W.nSlots ≤ W.nKinds * 16, fun ⟨a, b, W⟩ => .er 35 116 (bthE W a b) (-1), fun ⟨a, b, W⟩ => wMem (mvW W a b),
  fun args mem => match args with | [a0, a1, a2] => some ⟨intD (a1), intD (a2), wMJD mem 0⟩ | _ => none⟩
def c_doMove : Con := ⟨[true], s_doMove.g, none⟩
def V_doMove : X_doMove → Prop := fun ⟨a, b, W⟩ => let a0:=W.nRam;let b0:=a0=a0;let c0:=W.nKinds;let d0:=c0=c0;let e0:=W.nSlots;let g0:=e0=e0;let h0:=W.nTasks;let k0:=h0=h0;let l0:=W.nLines;let o0:=l0=l0;let q0:=W.nBits;let u0:=q0=q0;let v0:=W.nCores;let w0:=v0=v0;let x0:=W.nReady;let y0:=x0=x0;let z0:=W.nTlbs;let a1:=z0=z0;let b1:=W.nDoms;let c1:=b1=b1;let d1:=W.time;let e1:=d1=d1;let g1:=hasE (Wd.mk a0 (fun h1:Nat=>W.ram (0+h1)) c0 (fun k1:Nat=>W.kinds (0+k1)) e0 (fun l1:Nat=>W.slots (0+l1)) h0 (fun o1:Nat=>W.tasks (0+o1)) l0 (fun q1:Nat=>W.linesN (0+q1)) (fun u1:Nat=>fun v1:Nat=>W.lines (0+u1) (0+v1)) q0 (fun w1:Nat=>W.bits (0+w1)) v0 (fun x1:Nat=>W.cores (0+x1)) x0 (fun y1:Nat=>W.readyN (0+y1)) (fun z1:Nat=>fun a2:Nat=>W.ready (0+z1) (0+a2)) z0 (fun b2:Nat=>W.tlbsN (0+b2)) (fun c2:Nat=>fun d2:Nat=>W.tlbs (0+c2) (0+d2)) b1 (fun e2:Nat=>W.doms (0+e2)) d1) a;let g2:=g1 !=0;let h2:=bthE W a b;let k2:=((-1):Int)=(-1);let l2:=0=0;let o2:=((((((((((True∧l2∧b0)∧l2∧d0)∧l2∧g0)∧l2∧k0)∧l2∧o0)∧l2∧u0)∧l2∧w0)∧l2∧y0)∧l2∧a1)∧l2∧c1)∧e1;let q2:=b0∧(∀u2:Nat,u2<a0→True∧W.ram u2=W.ram u2);let v2:=d0∧(∀w2:Nat,w2<c0→True∧W.kinds w2=W.kinds w2);let x2:=W.linesN;let y2:=W.readyN;let z2:=Wd.mk a0 W.ram c0 W.kinds e0 (fun a3:Nat=>cond (h2==0) (trn a b (mvS W.slots (Int.toNat a) (Int.toNat b) a3)) (W.slots a3)) h0 W.tasks l0 x2 W.lines q0 W.bits v0 W.cores x0 y2 W.ready z0 W.tlbsN W.tlbs b1 W.doms d1;let b3:=o0∧(∀c3:Nat,c3<l0→True∧x2 c3=x2 c3∧(∀d3:Nat,d3<x2 c3→True∧W.lines c3 d3=W.lines c3 d3));let e3:=u0∧(∀g3:Nat,g3<q0→True∧W.bits g3=W.bits g3);
    let h3:=w0∧(∀k3:Nat,k3<v0→True∧W.cores k3=W.cores k3);let l3:=y0∧(∀o3:Nat,o3<x0→True∧y2 o3=y2 o3∧(∀q3:Nat,q3<y2 o3→True∧W.ready o3 q3=W.ready o3 q3));let u3:=(c1∧(∀v3:Nat,v3<b1→True∧W.doms v3=W.doms v3))∧True;let w3:=(k0∧(∀x3:Nat,let y3:=W.tasks x3;let z3:=z2.tasks x3;x3<h0→(((((((((((((((((((True∧y3.r0=z3.r0)∧y3.r1=z3.r1)∧y3.r2=z3.r2)∧y3.r3=z3.r3)∧y3.r4=z3.r4)∧y3.r5=z3.r5)∧y3.r6=z3.r6)∧y3.r7=z3.r7)∧y3.pc=z3.pc)∧y3.st=z3.st)∧y3.prio=z3.prio)∧y3.node=z3.node)∧y3.space=z3.space)∧y3.helper=z3.helper)∧y3.loc=z3.loc)∧y3.word=z3.word)∧y3.badge=z3.badge)∧y3.owes=z3.owes)∧y3.core=z3.core)∧y3.dom=z3.dom))∧b3∧e3∧h3∧l3∧(a1∧(∀a4:Nat,let b4:=W.tlbsN a4;a4<z0→True∧b4=b4∧(∀c4:Nat,let d4:=W.tlbs a4 c4;let e4:=z2.tlbs a4 c4;c4<b4→(((True∧d4.sp=e4.sp)∧d4.pg=e4.pg)∧d4.fr=e4.fr)∧d4.wr=e4.wr)))∧u3;let g4:=o2∧q2∧v2∧(g0∧(∀h4:Nat,let k4:=W.slots h4;let l4:=z2.slots h4;h4<e0→((((((True∧k4.kind=l4.kind)∧k4.base=l4.base)∧k4.len=l4.len)∧k4.mark=l4.mark)∧k4.rights=l4.rights)∧k4.badge=l4.badge)∧k4.from_=l4.from_))∧w3;let o4:=opnE (Wd.mk a0 (fun q4:Nat=>W.ram (0+q4)) c0 (fun u4:Nat=>W.kinds (0+u4)) e0 (fun v4:Nat=>W.slots (0+v4)) h0 (fun w4:Nat=>W.tasks (0+w4)) l0 (fun x4:Nat=>x2 (0+x4)) (fun y4:Nat=>fun z4:Nat=>W.lines (0+y4) (0+z4)) q0 (fun a5:Nat=>W.bits (0+a5)) v0 (fun b5:Nat=>W.cores (0+b5)) x0 (fun c5:Nat=>y2 (0+c5)) (fun d5:Nat=>fun e5:Nat=>W.ready (0+d5) (0+e5)) z0 (fun g5:Nat=>W.tlbsN (0+g5)) (fun h5:Nat=>fun k5:Nat=>W.tlbs (0+h5) (0+k5)) b1 (fun l5:Nat=>W.doms (0+l5)) d1) b;let o5:=o4 !=0;
    let q5:=0≤a∧a<(e0:Int);let u5:=false=false;let v5:=(∀w5:Nat,u5)∧(∀x5:Nat,u5)∧(∀y5:Nat,u5)∧(∀z5:Nat,u5)∧(∀a6:Nat,u5)∧(∀b6:Nat,u5)∧(∀c6:Nat,u5);let d6:=0+Int.toNat a;let e6:=0+Int.toNat b;let g6:=W.slots d6;let h6:=g6.kind;let k6:=g6.base;let l6:=g6.len;let o6:=g6.mark;let q6:=g6.rights;let u6:=g6.badge;let v6:=g6.from_;let w6:=Wd.mk a0 W.ram c0 W.kinds e0 (fun x6:Nat=>let y6:=Nat.beq x6 d6;let z6:=Nat.beq x6 e6;let a7:=W.slots x6;trn a b (Slt.mk (cond y6 0 (cond z6 h6 a7.kind)) (cond y6 0 (cond z6 k6 a7.base)) (cond y6 0 (cond z6 l6 a7.len)) (cond y6 0 (cond z6 o6 a7.mark)) (cond y6 0 (cond z6 q6 a7.rights)) (cond y6 0 (cond z6 u6 a7.badge)) (cond y6 (-1) (cond z6 v6 a7.from_)))) h0 W.tasks l0 x2 W.lines q0 W.bits v0 W.cores x0 y2 W.ready z0 W.tlbsN W.tlbs b1 W.doms d1;(((((((((((((True∧b0∧(∀b7:Nat,b7<a0→True∧W.ram (0+b7)=W.ram (0+b7)))∧d0∧(∀c7:Nat,let d7:=W.kinds (0+c7);c7<c0→True∧d7=d7))∧g0∧(∀e7:Nat,let g7:=W.slots (0+e7);let h7:=g7.kind;let k7:=g7.base;let l7:=g7.len;let o7:=g7.mark;let q7:=g7.rights;let u7:=g7.badge;let v7:=g7.from_;e7<e0→((((((True∧h7=h7)∧k7=k7)∧l7=l7)∧o7=o7)∧q7=q7)∧u7=u7)∧v7=v7))∧k0∧(∀w7:Nat,let x7:=W.tasks (0+w7);let y7:=x7.r0;let z7:=x7.r1;let a8:=x7.r2;let b8:=x7.r3;let c8:=x7.r4;let d8:=x7.r5;let e8:=x7.r6;let g8:=x7.r7;let h8:=x7.pc;let k8:=x7.st;let l8:=x7.prio;let o8:=x7.node;let q8:=x7.space;let r8:=x7.helper;let u8:=x7.loc;let v8:=x7.word;let w8:=x7.badge;let x8:=x7.owes;let y8:=x7.core;let z8:=x7.dom;w7<h0→(((((((((((((((((((True∧y7=y7)∧
    z7=z7)∧a8=a8)∧b8=b8)∧c8=c8)∧d8=d8)∧e8=e8)∧g8=g8)∧h8=h8)∧k8=k8)∧l8=l8)∧o8=o8)∧q8=q8)∧r8=r8)∧u8=u8)∧v8=v8)∧w8=w8)∧x8=x8)∧y8=y8)∧z8=z8))∧o0∧(∀a9:Nat,let b9:=x2 (0+a9);a9<l0→True∧b9=b9∧(∀c9:Nat,let d9:=W.lines (0+a9) (0+c9);c9<b9→True∧d9=d9)))∧u0∧(∀e9:Nat,e9<q0→True∧W.bits (0+e9)=W.bits (0+e9)))∧w0∧(∀g9:Nat,let h9:=W.cores (0+g9);g9<v0→True∧h9=h9))∧y0∧(∀k9:Nat,let l9:=y2 (0+k9);k9<x0→True∧l9=l9∧(∀o9:Nat,let q9:=W.ready (0+k9) (0+o9);o9<l9→True∧q9=q9)))∧a1∧(∀r9:Nat,let u9:=0+r9;let v9:=W.tlbsN u9;r9<z0→True∧v9=v9∧(∀w9:Nat,let x9:=W.tlbs u9 (0+w9);let y9:=x9.sp;let z9:=x9.pg;let a10:=x9.fr;let b10:=x9.wr;w9<v9→(((True∧y9=y9)∧z9=z9)∧a10=a10)∧b10=b10)))∧c1∧(∀c10:Nat,c10<b1→True∧W.doms (0+c10)=W.doms (0+c10)))∧e1)∧a=a∧True)∧True∧True)∧(g2=true→(g1=h2∧k2)∧g4)∧(g2=false→(((((((((((((True∧b0∧(∀d10:Nat,d10<a0→True∧W.ram (0+d10)=W.ram (0+d10)))∧d0∧(∀e10:Nat,let g10:=W.kinds (0+e10);e10<c0→True∧g10=g10))∧g0∧(∀h10:Nat,let k10:=W.slots (0+h10);let l10:=k10.kind;let o10:=k10.base;let q10:=k10.len;let r10:=k10.mark;let u10:=k10.rights;let v10:=k10.badge;let w10:=k10.from_;h10<e0→((((((True∧l10=l10)∧o10=o10)∧q10=q10)∧r10=r10)∧u10=u10)∧v10=v10)∧w10=w10))∧k0∧(∀x10:Nat,let y10:=W.tasks (0+x10);let z10:=y10.r0;let a11:=y10.r1;let b11:=y10.r2;let c11:=y10.r3;let d11:=y10.r4;let e11:=y10.r5;let g11:=y10.r6;let h11:=y10.r7;let k11:=y10.pc;let l11:=y10.st;let o11:=y10.prio;let q11:=y10.node;let r11:=y10.space;let u11:=y10.helper;let v11:=y10.loc;let w11:=y10.word;let x11:=y10.badge;
    let y11:=y10.owes;let z11:=y10.core;let a12:=y10.dom;x10<h0→(((((((((((((((((((True∧z10=z10)∧a11=a11)∧b11=b11)∧c11=c11)∧d11=d11)∧e11=e11)∧g11=g11)∧h11=h11)∧k11=k11)∧l11=l11)∧o11=o11)∧q11=q11)∧r11=r11)∧u11=u11)∧v11=v11)∧w11=w11)∧x11=x11)∧y11=y11)∧z11=z11)∧a12=a12))∧o0∧(∀b12:Nat,let c12:=x2 (0+b12);b12<l0→True∧c12=c12∧(∀d12:Nat,let e12:=W.lines (0+b12) (0+d12);d12<c12→True∧e12=e12)))∧u0∧(∀g12:Nat,g12<q0→True∧W.bits (0+g12)=W.bits (0+g12)))∧w0∧(∀h12:Nat,let k12:=W.cores (0+h12);h12<v0→True∧k12=k12))∧y0∧(∀l12:Nat,let o12:=y2 (0+l12);l12<x0→True∧o12=o12∧(∀q12:Nat,let r12:=W.ready (0+l12) (0+q12);q12<o12→True∧r12=r12)))∧a1∧(∀u12:Nat,let v12:=0+u12;let w12:=W.tlbsN v12;u12<z0→True∧w12=w12∧(∀x12:Nat,let y12:=W.tlbs v12 (0+x12);let z12:=y12.sp;let a13:=y12.pg;let b13:=y12.fr;let c13:=y12.wr;x12<w12→(((True∧z12=z12)∧a13=a13)∧b13=b13)∧c13=c13)))∧c1∧(∀d13:Nat,d13<b1→True∧W.doms (0+d13)=W.doms (0+d13)))∧e1)∧b=b∧True)∧True∧e0≤100000∧e0≤c0*16)∧(o5=true→(o4=h2∧k2)∧g4)∧(o5=false→tn 10 (q5∧True∧(0≤b∧b<(e0:Int))∧v5∧q5∧v5∧((SV.ptr 0 0 none 0 0=SV.ptr 0 0 none 0 0∧a=a∧b=b∧True)∧(o2∧q2∧v2∧(g0∧(∀e13:Nat,let g13:=Nat.beq e13 d6;let h13:=Nat.beq e13 e6;let k13:=W.slots e13;let l13:Int:=cond g13 0 (cond h13 h6 k13.kind);let o13:Int:=cond g13 0 (cond h13 k6 k13.base);let q13:Int:=cond g13 0 (cond h13 l6 k13.len);let r13:Int:=cond g13 0 (cond h13 o6 k13.mark);let u13:Int:=cond g13 0 (cond h13 q6 k13.rights);let v13:Int:=cond g13 0 (cond h13 u6 k13.badge);
    let w13:Int:=cond g13 (-1) (cond h13 v6 k13.from_);e13<e0→((((((True∧l13=l13)∧o13=o13)∧q13=q13)∧r13=r13)∧u13=u13)∧v13=v13)∧w13=w13))∧(k0∧(∀x13:Nat,let y13:=W.tasks x13;let z13:=y13.prio;let a14:=y13.node;let b14:=y13.space;let c14:=y13.helper;let d14:=y13.loc;let e14:=y13.word;let g14:=y13.badge;let h14:=y13.owes;let k14:=y13.core;let l14:=y13.dom;x13<h0→(((((((((((((((((((True∧y13.r0=y13.r0)∧y13.r1=y13.r1)∧y13.r2=y13.r2)∧y13.r3=y13.r3)∧y13.r4=y13.r4)∧y13.r5=y13.r5)∧y13.r6=y13.r6)∧y13.r7=y13.r7)∧y13.pc=y13.pc)∧y13.st=y13.st)∧z13=z13)∧a14=a14)∧b14=b14)∧c14=c14)∧d14=d14)∧e14=e14)∧g14=g14)∧h14=h14)∧k14=k14)∧l14=l14))∧b3∧e3∧h3∧l3∧(a1∧(∀o14:Nat,let q14:=W.tlbsN o14;o14<z0→True∧q14=q14∧(∀r14:Nat,let u14:=W.tlbs o14 r14;let v14:=u14.sp;let w14:=u14.pg;let x14:=u14.fr;let y14:=u14.wr;r14<q14→(((True∧v14=v14)∧w14=w14)∧x14=x14)∧y14=y14)))∧u3)∧s_heir.match_1 (fun z14:X_heir=>Prop) (X_heir.mk a b (Wd.mk a0 W.ram c0 W.kinds e0 (fun a15:Nat=>let b15:=Nat.beq a15 d6;let c15:=Nat.beq a15 e6;let d15:=W.slots a15;Slt.mk (cond b15 0 (cond c15 h6 d15.kind)) (cond b15 0 (cond c15 k6 d15.base)) (cond b15 0 (cond c15 l6 d15.len)) (cond b15 0 (cond c15 o6 d15.mark)) (cond b15 0 (cond c15 q6 d15.rights)) (cond b15 0 (cond c15 u6 d15.badge)) (cond b15 (-1) (cond c15 v6 d15.from_))) h0 W.tasks l0 x2 W.lines q0 W.bits v0 W.cores x0 y2 W.ready z0 W.tlbsN W.tlbs b1 W.doms d1)) (fun e15:Int=>fun g15:Int=>fun h15:Wd=>h15.nSlots≤100000))∧(h2=0∧k2)∧o2∧q2∧v2∧(g0∧(∀k15:Nat,let l15:=w6.slots k15;
    let o15:=z2.slots k15;k15<e0→((((((True∧l15.kind=o15.kind)∧l15.base=o15.base)∧l15.len=o15.len)∧l15.mark=o15.mark)∧l15.rights=o15.rights)∧l15.badge=o15.badge)∧l15.from_=o15.from_))∧w3)))
theorem ok_doMove : FnOK Tryz.prog glN 68 c_doMove := ok_of (.cons ok_full (.cons ok_free (.cons ok_heir .nil))) false Tryz.call68 Tryz.func68 (fun _ => []) (V := V_doMove) (fun _ => by kernel_rfl) fun ⟨a, b, W⟩ hp => by
  dsimp only [s_doMove] at hp
  dsimp only [V_doMove, tn, w64]
  simp only [std, stb, eq_self, implies_true, Bool.cond_self]
  simp only [wd_eta]
  refine ⟨fun h => ?_, fun h => ⟨hp, fun h' => ?_, fun h' => ?_⟩⟩
  · obtain ⟨e1, e2⟩ := bth_l (b := b) h
    refine ⟨e1.symm, fun j _ => slt7 ?_⟩
    rw [e2]; rfl
  · have e1 := bth_r (b := b) h
    refine ⟨e1.symm, fun j _ => slt7 ?_⟩
    rw [e1, ne0 h']; rfl
  · have e1 := bth_r (b := b) h
    have h0 : (bthE W a b == 0) = true := by rw [e1]; exact eq0 h'
    obtain ⟨h1, h2, h3, _, _⟩ := bth_in h0
    refine ⟨h1, h2, h1, hp.1, eq_of_beq h0, fun j _ => slt7 ?_⟩
    rw [h0]
    show trn a b _ = trn a b _
    have hne : a.toNat ≠ b.toNat := by omega
    unfold mvS blS
    rcases Decidable.em (j = b.toNat) with hj | hj
    · subst hj; rw [beq_ne (fun e => hne e.symm), Nat.beq_refl]; rfl
    · rw [beq_ne hj]; cases j.beq a.toNat <;> rfl
end Go.Proofs.YtdjilaofmdhikaaGreatDoor
