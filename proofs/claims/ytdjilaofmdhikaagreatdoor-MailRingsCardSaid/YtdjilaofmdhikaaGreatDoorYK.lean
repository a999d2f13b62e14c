/- The program's look at a world: keys, tables, turns. -/
import Derived.Test.YtdjilaofmdhikaaGreatDoorYJ
import Derived.Test.YtdjilaofmdhikaaGreatDoorYI
set_option linter.unusedVariables false
set_option linter.unusedSimpArgs false
set_option linter.unusedVariables false
set_option linter.unusedSimpArgs false
set_option maxRecDepth 100000
namespace Go.Proofs.YtdjilaofmdhikaaGreatDoor
open Go.RowKit Go.Sy
theorem anyB_fst (n : Nat) (p : Nat → Bool) : Nat.blt (fstB n p) n = anyB n p := by
  cases hq : anyB n p with
  | true => obtain ⟨i, hi, h⟩ := anyB_iff.1 hq; exact blt_t (fstB_lt hi h)
  | false => rw [fstB_none (anyB_false.1 hq)]; exact blt_f (Nat.le_refl _)
theorem tlB_false {W : Wd} {n i : Nat} {l : Nat → Ent4} (hi : i < n) (h : tlT W l i = false) : tlB W n l = false := by
  unfold tlB; rw [allB_false (p := fun i => tlT W l i) hi h]; cases decide (n ≤ 4) <;> rfl
structure X_maps2 where
  (i : Int) (W : Wd)
def s_maps2 : Sy.Spec := ⟨X_maps2, fun ⟨i, W⟩ => [.v (.int .i64 i), .sl true 4 (W.tlbsN i.toNat) (rF fun k => enL (W.tlbs i.toNat k)), .pt true 1 (fun _ => wPT W)], fun _ => [], fun ⟨i, W⟩ => Szd W ∧ W.tlbsN i.toNat ≤ 1000 ∧ ∀ k, k < W.nRam → isW (W.ram k), fun ⟨i, W⟩ => .v (.bool (!tlB W (W.tlbsN i.toNat) (W.tlbs i.toNat))), fun _ => [],
  fun args mem => match args with | [a0, a1, a2] => some ⟨intD (a0), wPTD (ptF a2 0)⟩ | _ => none⟩
def c_maps2 : Con := ⟨[], s_maps2.g, none⟩
def V_maps2 : X_maps2 → Prop := fun ⟨i, W⟩ => let a0:=Int.toNat i;let b0:=W.tlbsN a0;let c0:=(b0:Int);let d0:=c0≤9223372036854775807;let e0:=W.tlbs a0;let g0:=tn 3 True;let h0:=((W.nKinds:Nat):Int);let k0:=!tlB W b0 e0;let l0:=true=k0∧True;let o0:=W.nRam;let q0:=W.ram;let r0:=Int.toNat 0;d0→0=((0:Nat):Int)∧True∧(0≤b0∧(∀u0:Nat,u0<0→tlT W e0 u0=true))∧(∀v0:Nat,let w0:=(v0:Int);let x0:=decide (w0<c0);let y0:=e0 (Int.toNat w0);let z0:=y0.sp;let a1:=cond (decide (z0<0)) true (decide (h0≤z0));let b1:=y0.pg;let c1:=cond (cond (cond a1 true (W.kinds (Int.toNat z0) !=4)) true (decide (b1<0))) true (decide (255<b1));let d1:Int:=16*b1;let e1:=z0=z0;let g1:=cond (cond (wkE o0 q0 z0 d1 !=0) true (wkF o0 q0 z0 d1 !=y0.fr)) true (wkW o0 q0 z0 d1 !=y0.wr);let h1:=Int.toNat w0-r0;let k1:=fdO h1 (fun l1:Nat=>e0 (r0+l1)) z0 b1;let o1:Int:=w0+1;v0≤b0∧(∀q1:Nat,q1<v0→tlT W e0 q1=true)→(x0=true→(0≤w0∧w0<c0)∧True∧g0∧tn 22 ((a1=false→0≤z0∧z0<h0)∧(c1=true→l0)∧(c1=false→tn 9 (w64 d1=d1∧(((o0=o0∧(∀r1:Nat,r1<o0→True∧q0 r1=q0 r1))∧e1∧d1=d1∧True)∧True∧(∀u1:Nat,u1<o0→0≤q0 u1∧q0 u1≤65535))∧tn 5 ((g1=true→l0)∧(g1=false→tn 2 (((0:Int)≤0∧0≤w0∧w0≤c0)∧tn 4 ((((h1=h1∧(∀v1:Nat,let w1:=e0 (r0+v1);v1<h1→(((True∧w1.sp=w1.sp)∧w1.pg=w1.pg)∧w1.fr=w1.fr)∧w1.wr=w1.wr))∧e1∧b1=b1∧True)∧True∧True)∧tn 4 (g0∧(k1=true→l0)∧(k1=false→w64 o1=o1∧(∃x1:Nat,o1=(x1:Int)∧True∧(x1≤b0∧(∀y1:Nat,y1<x1→tlT W e0 y1=true))∧b0-x1<b0-v0)))))))))))∧(x0=false→d0→decide (4<c0)=k0∧True))
theorem ok_maps2 : FnOK Tryz.prog glN 204 c_maps2 := ok_of (.cons ok_walk (.cons ok_find .nil)) false Tryz.call204 Tryz.func204 (fun ⟨i, W⟩ => [.inv (an_m2 W (W.tlbsN i.toNat) (W.tlbs i.toNat))]) (V := V_maps2) (fun _ => by kernel_rfl) fun ⟨i, W⟩ hp => by
  dsimp only [s_maps2] at hp
  dsimp only [V_maps2, tn, w64]
  obtain ⟨hz, hn, hw⟩ := hp
  obtain ⟨l, hl⟩ : ∃ l, l = W.tlbs i.toNat := ⟨_, rfl⟩
  obtain ⟨n, hnn⟩ : ∃ n, n = W.tlbsN i.toNat := ⟨_, rfl⟩
  simp only [std, stb, eq_self, implies_true, Bool.cond_self]
  simp only [← hl, ← hnn] at hn ⊢
  have wr : ∀ z : Int, -100000 ≤ z → z ≤ 100000 → IntKind.i64.wrap z = z := fun z h1 h2 => by rw [IntKind.wrap_i64]; omega
  refine fun _ s hs => ⟨fun h => ?_, fun h _ => ?_⟩
  · have hlt := lt_of_dec h
    have eA : (decide ((l s).sp < 0) || decide ((W.nKinds : Int) ≤ (l s).sp) || W.kinds (l s).sp.toNat != 4 || decide ((l s).pg < 0) || decide (255 < (l s).pg)) = (!(kof W (l s).sp == 4) || farB (l s).pg 255) := by
      rw [kofN (by decide), Bool.or_assoc]; rfl
    have eF : fdO (s - Int.toNat 0) (fun a => l (Int.toNat 0 + a)) (l s).sp (l s).pg = anyB s (fun k => (l k).sp == (l s).sp && (l k).pg == (l s).pg) := by
      unfold fdO; rw [anyB_fst]; simp only [Int.toNat_zero, Nat.sub_zero, Nat.zero_add]; rfl
    rw [eA, eF]
    refine ⟨by omega, fun h1 => ?_, fun h1 => ?_, fun h1 => ?_⟩
    · simp only [Bool.or_eq_false_iff, decide_eq_false_iff_not] at h1; omega
    · rw [tlB_false hlt (by revert h1; unfold tlT; cases kof W (l s).sp == 4 <;> cases farB (l s).pg 255 <;> simp)]; rfl
    have hf : farB (l s).pg 255 = false := by rw [Bool.or_eq_false_iff] at h1; exact h1.2
    have hpg : 0 ≤ (l s).pg ∧ (l s).pg ≤ 255 := by simp [farB] at hf; omega
    refine ⟨wr _ (by omega) (by omega), hw, fun h2 => ?_, fun h2 => ⟨⟨by decide, by omega⟩, fun h3 => ?_, fun h3 => ⟨wr _ (by omega) (by omega), exS ⟨⟨by omega, snocB hs.2 ?_⟩, by omega⟩⟩⟩⟩
    · rw [tlB_false hlt (by revert h2; simp only [bne]; unfold tlT; cases wkE W.nRam W.ram (l s).sp (16 * (l s).pg) == 0 <;> cases wkF W.nRam W.ram (l s).sp (16 * (l s).pg) == (l s).fr <;> cases wkW W.nRam W.ram (l s).sp (16 * (l s).pg) == (l s).wr <;> simp)]; rfl
    · rw [tlB_false hlt (by unfold tlT; rw [h3]; simp)]; rfl
    · revert h1 h2
      simp only [bne]; unfold tlT
      rw [h3]
      cases kof W (l s).sp == 4 <;> cases farB (l s).pg 255 <;> cases wkE W.nRam W.ram (l s).sp (16 * (l s).pg) == 0 <;> cases wkF W.nRam W.ram (l s).sp (16 * (l s).pg) == (l s).fr <;> cases wkW W.nRam W.ram (l s).sp (16 * (l s).pg) == (l s).wr <;> simp
  · have hge := ge_of_dec h
    unfold tlB
    rw [allB_all fun j hj => hs.2 j (by omega), Bool.and_true, ← decide_not]
    exact decide_eq_decide.2 (by omega)
end Go.Proofs.YtdjilaofmdhikaaGreatDoor
set_option linter.unusedVariables false
set_option linter.unusedSimpArgs false
set_option maxRecDepth 100000
namespace Go.Proofs.YtdjilaofmdhikaaGreatDoor
open Go.RowKit Go.Sy
def an_t1 (W : Wd) (f : Nat) : Ann where
  σ := Nat
  rt := [(4, 0), (37, 1)]
  sh i := [(4, pt0 0), (37, .slc 1 0 none 0 11), (39, .v (.int .i64 i))]
  mh _ := []
  inv i := i ≤ 11 ∧ ∀ j, j < i → farB (sel [(W.tasks f).r0, (W.tasks f).r1, (W.tasks f).r2, (W.tasks f).r3, (W.tasks f).r4, (W.tasks f).r5, (W.tasks f).r6, (W.tasks f).r7, (W.tasks f).pc, (W.tasks f).word, (W.tasks f).badge] j) 65535 = false
  μ i := 11 - i
  init := 0
def an_t2 (W : Wd) (f : Nat) : Ann where
  σ := Nat
  rt := [(4, 0)]
  sh i := [(4, pt0 0), (126, .v (.int .i64 i)), (8, .v (.int .i64 (cntB i fun k => (W.tasks k).owes == f : Nat)))]
  mh _ := []
  inv i := i ≤ W.nTasks
  μ i := W.nTasks - i
  init := 0
structure Bo2 where
  b : Bool
def cut_t25 (W : Wd) (f : Nat) : Cut where
  σ := Bo2
  rt := [(4, 0)]
  sh s := [(4, pt0 0), (11, .v (.int .i64 (stands W f : Nat))), (12, .v (.int .i64 (turnsN W f : Nat))), (13, .v (.int .i64 0)), (14, .v (.int .i64 0)), (171, .v (.int .i64 (W.tasks f).st)), (172, .v (.bool s.b))]
  mem _ := [.cells (runL (W.tasks f))]
  inv s := s.b = ((W.tasks f).st == 2 || (W.tasks f).st == 3 || (W.tasks f).st == 4 || (W.tasks f).st == 6)
  dec fr _ := ⟨boolD (fr 172)⟩
theorem castN0 (a : Nat) : (((a : Nat) : Int) != 0) = !(a == 0) := by rw [bne, castE0]
theorem castN1 (a : Nat) : (((a : Nat) : Int) != 1) = !(a == 1) := by rw [bne, castE1]
theorem locN {W : Wd} {f k : Int} (hk : k ≠ -1) : (decide (f < 0) || !okF W f k) = !(kof W f == k) := by
  unfold okF
  rcases Int.lt_or_le f 0 with h | h
  · rw [decide_eq_true h, kof_out (.inl h), show ((-1 : Int) == k) = false from beq_eq_false_iff_ne.2 fun e => hk e.symm]; rfl
  · rw [decide_eq_false (show ¬ f < 0 by omega), show (f == -1) = false from beq_eq_false_iff_ne.2 (by omega)]; rfl
theorem owed_ne {W : Wd} {f c : Nat} (hc : owed W f = c) : (decide (1 < (c : Int)) || (((c : Int) == 1) != ((W.tasks f).st == 5))) = !owedOK W f := by
  unfold owedOK
  rw [hc, castE1]
  rcases Nat.lt_or_ge 1 c with h | h
  · rw [decide_eq_true (show (1 : Int) < c by omega), decide_eq_false (show ¬ c ≤ 1 by omega)]; rfl
  · rw [decide_eq_false (show ¬ (1 : Int) < c by omega), decide_eq_true (show c ≤ 1 by omega)]
    cases c == 1 <;> cases (W.tasks f).st == 5 <;> rfl
theorem sel11 {t : Run} {s : Nat} : (bif s.blt 8 then [t.r0, t.r1, t.r2, t.r3, t.r4, t.r5, t.r6, t.r7].getD s 0 else [t.pc, t.word, t.badge].getD (s - 8) 0) = [t.r0, t.r1, t.r2, t.r3, t.r4, t.r5, t.r6, t.r7, t.pc, t.word, t.badge].getD s 0 := by
  rcases Nat.lt_or_ge s 8 with h | h
  · rw [blt_t h]
    have : s = 0 ∨ s = 1 ∨ s = 2 ∨ s = 3 ∨ s = 4 ∨ s = 5 ∨ s = 6 ∨ s = 7 := by omega
    rcases this with rfl | rfl | rfl | rfl | rfl | rfl | rfl | rfl <;> rfl
  · rw [blt_f h]
    obtain ⟨k, rfl⟩ : ∃ k, s = 8 + k := ⟨s - 8, by omega⟩
    rw [show 8 + k - 8 = k by omega, Nat.add_comm]; rfl
theorem all11 {W : Wd} {f : Nat} (h : ∀ j, j < 11 → farB (sel [(W.tasks f).r0, (W.tasks f).r1, (W.tasks f).r2, (W.tasks f).r3, (W.tasks f).r4, (W.tasks f).r5, (W.tasks f).r6, (W.tasks f).r7, (W.tasks f).pc, (W.tasks f).word, (W.tasks f).badge] j) 65535 = false) : regFar (W.tasks f) = false ∧ farB (W.tasks f).pc 65535 = false ∧ farB (W.tasks f).word 65535 = false ∧ farB (W.tasks f).badge 65535 = false := by
  refine ⟨reg_of fun j hj => ?_, h 8 (by omega), h 9 (by omega), h 10 (by omega)⟩
  have := h j (by omega)
  have hj' : j = 0 ∨ j = 1 ∨ j = 2 ∨ j = 3 ∨ j = 4 ∨ j = 5 ∨ j = 6 ∨ j = 7 := by omega
  rcases hj' with rfl | rfl | rfl | rfl | rfl | rfl | rfl | rfl <;> exact this
theorem not11 {W : Wd} {f s : Nat} (hs : s < 11) (h : farB ([(W.tasks f).r0, (W.tasks f).r1, (W.tasks f).r2, (W.tasks f).r3, (W.tasks f).r4, (W.tasks f).r5, (W.tasks f).r6, (W.tasks f).r7, (W.tasks f).pc, (W.tasks f).word, (W.tasks f).badge].getD s 0) 65535 = true) : (!regFar (W.tasks f) && !numFar W (W.tasks f)) = false := by
  cases h1 : regFar (W.tasks f) with
  | true => rfl
  | false =>
    cases h2 : numFar W (W.tasks f) with
    | true => rfl
    | false =>
      exfalso
      have hr := reg_to h1
      unfold numFar at h2
      simp only [Bool.or_eq_false_iff] at h2
      have : s < 8 ∨ s = 8 ∨ s = 9 ∨ s = 10 := by omega
      rcases this with h3 | rfl | rfl | rfl
      · have h4 := hr s h3
        have hj' : s = 0 ∨ s = 1 ∨ s = 2 ∨ s = 3 ∨ s = 4 ∨ s = 5 ∨ s = 6 ∨ s = 7 := by omega
        rcases hj' with rfl | rfl | rfl | rfl | rfl | rfl | rfl | rfl <;> exact Bool.false_ne_true (h4.symm.trans h)
      · exact Bool.false_ne_true (h2.1.1.1.1.1.1.symm.trans h)
      · exact Bool.false_ne_true (h2.1.1.1.1.1.2.symm.trans h)
      · exact Bool.false_ne_true (h2.1.1.1.1.2.symm.trans h)
structure X_wBlankF where
  (unit_ : Unit)
def s_wBlankF : Sy.Spec := ⟨X_wBlankF, fun _ => [], fun _ => [], fun _ => True, fun _ => .ag 20 (lsv (runL Run.blank)), fun _ => [],
  fun args mem => match args with | [] => some ⟨()⟩ | _ => none⟩
def c_wBlankF : Con := ⟨[], s_wBlankF.g, none⟩
def V_wBlankF : X_wBlankF → Prop := fun _ => let a0:=(0:Int)=0;let b0:=((-1):Int)=(-1);True∧tn 19 True∧((((((((((((((((((((True∧a0)∧a0)∧a0)∧a0)∧a0)∧a0)∧a0)∧a0)∧a0)∧a0)∧a0)∧b0)∧b0)∧b0)∧b0)∧a0)∧a0)∧b0)∧a0)∧a0)∧True
theorem ok_wBlankF : FnOK Tryz.prog glN 191 c_wBlankF := ok_of .nil false Tryz.call191 Tryz.func191 (fun _ => []) (V := V_wBlankF) (fun _ => by kernel_rfl) fun _ hp => by
  dsimp only [V_wBlankF, tn, w64]
  simp only [std, eq_self, implies_true, Bool.cond_self]
structure X_frames1 where
  (i k : Int) (nc : Nat) (cl : Nat → Int) (nk : Nat) (ky : Nat → Int) (nu : Nat) (us : Nat → Bool)
def s_frames1 : Sy.Spec := ⟨X_frames1, fun ⟨i, k, nc, cl, nk, ky, nu, us⟩ => [.v (.int .i64 i), .v (.int .i64 k), .pt true 1 (fun _ => .sl true 1 nc (iF cl)), .pt true 1 (fun _ => .sl true 1 nk (iF ky)), .pt true 1 (fun _ => .sl true 1 nu (fun i _ => .v (.bool (us i))))], fun _ => [], fun ⟨i, _, nc, _, nk, _, nu, _⟩ => 0 ≤ i ∧ i < nc ∧ i < nk ∧ i < nu, fun ⟨i, k, _, cl, _, ky, _, us⟩ => .v (.bool (decide (1 < cl i.toNat) || (k != 0 && (ky i.toNat == 0 || (cl i.toNat == 1 && !us i.toNat))))), fun _ => [],
  fun args mem => match args with | [a0, a1, a2, a3, a4] => some ⟨intD (a0), intD (a1), slN (ptF a2 0), fun i => intD (slF (ptF a2 0) i 0), slN (ptF a3 0), fun i => intD (slF (ptF a3 0) i 0), slN (ptF a4 0), fun i => boolD (slF (ptF a4 0) i 0)⟩ | _ => none⟩
def c_frames1 : Con := ⟨[], s_frames1.g, none⟩
def V_frames1 : X_frames1 → Prop := fun ⟨i, k, nc, cl, nk, ky, nu, us⟩ => let a0:=0≤i∧i<(nc:Int);let b0:=(k !=0)=true;let c0:=decide (1<cl (Int.toNat i));let d0:=c0=false;let e0:=ky (Int.toNat i)==0;let g0:=e0=false;let h0:=cl (Int.toNat i)==1;let k0:=!us (Int.toNat i);a0∧(b0→d0→0≤i∧i<(nk:Int))∧(g0→b0→d0→a0)∧(h0=true→g0→b0→d0→0≤i∧i<(nu:Int))∧cond c0 true (cond (k !=0) (cond e0 true (cond h0 k0 false)) false)=(c0||k !=0&&(e0||h0&&k0))∧True
theorem ok_frames1 : FnOK Tryz.prog glN 188 c_frames1 := ok_of .nil false Tryz.call188 Tryz.func188 (fun _ => []) (V := V_frames1) (fun _ => by kernel_rfl) fun ⟨i, k, nc, cl, nk, ky, nu, us⟩ hp => by
  dsimp only [s_frames1] at hp
  dsimp only [V_frames1, tn, w64]
  simp only [std, stb, eq_self, implies_true, Bool.cond_self]
  refine ⟨?_, fun _ _ => ?_, fun _ _ _ => ?_, fun _ _ _ _ => ?_⟩ <;> omega
structure X_tasks1 where
  (i : Int) (W : Wd)
def s_tasks1 : Sy.Spec := ⟨X_tasks1, fun ⟨i, W⟩ => [.v (.int .i64 i), .ag 20 (lsv (runL (W.tasks i.toNat))), .pt true 1 (fun _ => wPT W)], fun _ => [], fun ⟨i, W⟩ => Szd W ∧ smB W ∧ 0 ≤ i ∧ i < W.nKinds, fun ⟨i, W⟩ => .v (.bool (!tkB W i.toNat)), fun _ => [],
  fun args mem => match args with | [a0, a1, a2] => some ⟨intD (a0), wPTD (ptF a2 0)⟩ | _ => none⟩
def c_tasks1 : Con := ⟨[], s_tasks1.g, none⟩
def V_tasks1 : X_tasks1 → Prop := fun ⟨i, W⟩ => let a0:=W.nKinds;let b0:=Int.toNat i;let c0:=W.kinds b0 !=6;let d0:=True∧True;let e0:=True∧d0;let g0:=W.tasks b0;let h0:=g0.r0;let k0:=g0.r1;let l0:=g0.r2;let o0:=g0.r3;let q0:=g0.r4;let u0:=g0.r5;let v0:=g0.r6;let w0:=g0.r7;let x0:=g0.pc;let y0:=g0.st;let z0:=g0.prio;let a1:=g0.node;let b1:=g0.space;let c1:=g0.helper;let d1:=g0.loc;let e1:=g0.word;let g1:=g0.badge;let h1:=g0.owes;let k1:=g0.core;let l1:=g0.dom;let o1:=!tkB W b0;let q1:=((11:Nat):Int);let u1:=SV.ptr 0 0 none 0 0=SV.ptr 0 0 none 0 0;let v1:=y0=y0;let w1:=z0=z0;let x1:=a1=a1;let y1:=b1=b1;let z1:=c1=c1;let a2:=d1=d1;let b2:=h1=h1;let c2:=k1=k1;let d2:=l1=l1;let e2:=(((((((((((((((((((True∧h0=h0)∧k0=k0)∧l0=l0)∧o0=o0)∧q0=q0)∧u0=u0)∧v0=v0)∧w0=w0)∧x0=x0)∧v1)∧w1)∧x1)∧y1)∧z1)∧a2)∧e1=e1)∧g1=g1)∧b2)∧c2)∧d2;let g2:=[h0,k0,l0,o0,q0,u0,v0,w0];let h2:=[x0,e1,g1];let k2:=e2∧(8+3=8+3∧(∀l2:Nat,let o2:Int:=cond (Nat.blt l2 8) (List.getD g2 l2 0) (List.getD h2 (0+(l2-8)) 0);l2<8+3→True∧o2=o2))∧True;let q2:=(h0 :: k0 :: l0 :: o0 :: q0 :: u0 :: v0 :: w0 :: h2);let u2:=true=o1∧True;let v2:=(6:Int)=6∧True;let w2:=farB y0 6;let x2:=(3:Int)=3∧True;let y2:=cond w2 true (farB z0 3);let z2:=y2=false;let a3:=W.nCores;let b3:Int:=(a3:Int)-1;let c3:=cond y2 true (farB k1 b3);let d3:=cond c3 true (farB l1 3);let e3:=W.nSlots;let g3:=W.nTasks;let h3:=W.nLines;let k3:=h3=h3∧(∀l3:Nat,let o3:=W.linesN l3;l3<h3→True∧o3=o3∧(∀q3:Nat,q3<o3→True∧W.lines l3 q3=W.lines l3 q3));let u3:=a3=a3∧(∀v3:Nat,v3<a3→True∧W.cores v3=W.cores v3);let w3:=W.nReady;
    let x3:=w3=w3∧(∀y3:Nat,let z3:=W.readyN y3;y3<w3→True∧z3=z3∧(∀a4:Nat,a4<z3→True∧W.ready y3 a4=W.ready y3 a4));let b4:=((((((((((True∧W.nRam=W.nRam∧(∀c4:Nat,c4<W.nRam→True∧W.ram c4=W.ram c4))∧a0=a0∧(∀d4:Nat,d4<a0→True∧W.kinds d4=W.kinds d4))∧e3=e3∧(∀e4:Nat,let g4:=W.slots e4;let h4:=g4.kind;let k4:=g4.base;let l4:=g4.len;let o4:=g4.mark;let q4:=g4.rights;let u4:=g4.badge;let v4:=g4.from_;e4<e3→((((((True∧h4=h4)∧k4=k4)∧l4=l4)∧o4=o4)∧q4=q4)∧u4=u4)∧v4=v4))∧g3=g3∧(∀w4:Nat,let x4:=W.tasks w4;let y4:=x4.prio;let z4:=x4.node;let a5:=x4.space;let b5:=x4.helper;let c5:=x4.loc;let d5:=x4.word;let e5:=x4.badge;let g5:=x4.owes;let h5:=x4.core;let k5:=x4.dom;w4<g3→(((((((((((((((((((True∧x4.r0=x4.r0)∧x4.r1=x4.r1)∧x4.r2=x4.r2)∧x4.r3=x4.r3)∧x4.r4=x4.r4)∧x4.r5=x4.r5)∧x4.r6=x4.r6)∧x4.r7=x4.r7)∧x4.pc=x4.pc)∧x4.st=x4.st)∧y4=y4)∧z4=z4)∧a5=a5)∧b5=b5)∧c5=c5)∧d5=d5)∧e5=e5)∧g5=g5)∧h5=h5)∧k5=k5))∧k3)∧W.nBits=W.nBits∧(∀l5:Nat,l5<W.nBits→True∧W.bits l5=W.bits l5))∧u3)∧x3)∧W.nTlbs=W.nTlbs∧(∀o5:Nat,let q5:=W.tlbsN o5;o5<W.nTlbs→True∧q5=q5∧(∀u5:Nat,let v5:=W.tlbs o5 u5;let w5:=v5.sp;let x5:=v5.pg;let y5:=v5.fr;let z5:=v5.wr;u5<q5→(((True∧w5=w5)∧x5=x5)∧y5=y5)∧z5=z5)))∧W.nDoms=W.nDoms∧(∀a6:Nat,a6<W.nDoms→True∧W.doms a6=W.doms a6))∧W.time=W.time;let b6:=cond d3 true (!okF W a1 5);let c6:=cond b6 true (!okF W b1 4);let d6:=(7:Int)=7∧True;let e6:=True∧((7:Int)=(-1)→False);let g6:=cond c6 true (!okF W c1 7);let h6:=cond g6 true (!okF W h1 6);let k6:=decide (0≤h1);let l6:=(g3:Int);let o6:=y0==4;
    let q6:=cond k6 (cond ((W.tasks (Int.toNat h1)).st !=5) true o6) false;let u6:=(b0:Int);let v6:=e2∧True;let w6:=y0==5;let x6:=i=i∧True;let y6:Int:=((cntLL w3 W.readyN W.ready i:Nat):Int)+((cntLL 1 (fun z6:Nat=>a3) (fun a7:Nat=>W.cores) i:Nat):Int);let b7:=y0==2;let c7:=((stands W b0:Nat):Int);let d7:=((cntLL h3 W.linesN W.lines i:Nat):Int)=c7;let e7:=((turnsN W b0:Nat):Int);let g7:=y6=e7;let h7:=(0:Int)=0;let k7:=y0==3;let l7:=y0==6;let o7:=b7||k7||o6||l7;let q7:=decide (d1<0);let u7:=q7=false;let v7:=cond q7 true (!okF W d1 8);let w7:=v7=false;let x7:=0≤d1∧d1<(h3:Int);let y7:=Int.toNat d1;let z7:=W.linesN y7;let a8:=W.lines y7;let b8:=((z7=z7∧(∀c8:Nat,c8<z7→True∧a8 c8=a8 c8))∧x6)∧True∧s_containsI.match_1 (fun d8:X_containsI=>Prop) (X_containsI.mk z7 a8 i) (fun e8:Nat=>fun g8:∀h8:Nat,Int=>fun k8:Int=>e8≤100000);let l8:=!inB' z7 a8 i;let o8:=cond v7 true l8;let q8:=d1 !=(-1);let r8:=e7 !=0;let u8:=cond (cond (cond ((1:Int)==0) q8 false) true (c7 !=1)) true r8=o1∧True;let v8:=cond q7 true (!okF W d1 7);let w8:=v8=false;let x8:=cond v8 true l8;let y8:=y0==1;let z8:=cond (cond ((0:Int)==0) q8 false) true (c7 !=0);True∧(0≤i∧i<(a0:Int))∧(c0=true→True∧e0∧(!(h0==0&&(k0==0&&(l0==0&&(o0==0&&(q0==0&&(u0==0&&(v0==0&&(w0==0&&true)))))))&&(x0==0&&(y0==0&&(z0==0&&(a1==(-1)&&(b1==(-1)&&(c1==(-1)&&(d1==(-1)&&(e1==0&&(g1==0&&(h1==(-1)&&(k1==0&&(l1==0&&true))))))))))))))=o1∧True)∧(c0=false→tn 10 (((8+3)*8≤140737488355328∧(∀a9:Nat,true=true))∧(q1≤9223372036854775807→u1∧(0=0∧11=11)∧
    0=((0:Nat):Int)∧k2∧(0≤11∧(∀b9:Nat,b9<0→farB (List.getD q2 b9 0) 65535=false))∧(∀c9:Nat,let d9:=(c9:Int);let e9:=decide (d9<q1);let g9:=0+Int.toNat d9;let h9:Int:=cond (Nat.blt g9 8) (List.getD g2 g9 0) (List.getD h2 (0+(g9-8)) 0);let k9:=farB h9 65535;let l9:Int:=d9+1;c9≤11∧(∀o9:Nat,o9<c9→farB (List.getD q2 o9 0) 65535=false)→(e9=true→(0≤d9∧d9<q1)∧((h9=h9∧(65535:Int)=65535∧True)∧d0)∧(k9=true→u2)∧(k9=false→w64 l9=l9∧(∃q9:Nat,u1∧(0=0∧11=11)∧l9=(q9:Int)∧k2∧(q9≤11∧(∀r9:Nat,r9<q9→farB (List.getD q2 r9 0) 65535=false))∧11-q9<11-c9)))∧(e9=false→tn 2 (((v1∧v2)∧d0)∧tn 3 ((w2=false→(w1∧x2)∧d0)∧tn 10 ((z2→w64 b3=b3)∧(z2→(c2∧b3=b3∧True)∧d0)∧tn 4 ((c3=false→(d2∧x2)∧d0)∧tn 5 ((d3=false→(b4∧x1∧(5:Int)=5∧True)∧True∧((5:Int)=(-1)→False))∧tn 6 ((b6=false→(b4∧y1∧(4:Int)=4∧True)∧True∧((4:Int)=(-1)→False))∧tn 6 ((c6=false→(b4∧z1∧d6)∧e6)∧tn 6 ((g6=false→(b4∧b2∧v2)∧True∧((6:Int)=(-1)→False))∧(h6=true→u2)∧(h6=false→tn 11 ((k6=true→0≤h1∧h1<l6)∧(q6=true→u2)∧(q6=false→l6≤9223372036854775807→u1∧0=((0:Nat):Int)∧0=((cntB 0 (fun u9:Nat=>(W.tasks u9).owes==u6):Nat):Int)∧v6∧0≤g3∧(∀v9:Nat,let w9:=(v9:Int);let x9:=decide (w9<l6);let y9:=(W.tasks (Int.toNat w9)).owes==i;let z9:=((cntB v9 (fun a10:Nat=>(W.tasks a10).owes==u6):Nat):Int);let b10:Int:=z9+1;let c10:Int:=w9+1;let d10:=w64 c10=c10;let e10:=cond (decide (1<z9)) true ((z9==1) !=w6);v9≤g3→(x9=true→(0≤w9∧w9<l6)∧True∧tn 17 e0∧(y9=true→w64 b10=b10∧d10∧(∃g10:Nat,u1∧c10=(g10:Int)∧b10=((cntB g10 (fun h10:Nat=>(W.tasks h10).owes==u6):Nat):Int)∧v6∧g10≤g3∧
    g3-g10<g3-v9))∧(y9=false→d10∧(∃k10:Nat,u1∧c10=(k10:Int)∧z9=((cntB k10 (fun l10:Nat=>(W.tasks l10).owes==u6):Nat):Int)∧v6∧k10≤g3∧g3-k10<g3-v9)))∧(x9=false→(e10=true→u2)∧(e10=false→tn 6 (((k3∧x6)∧True∧h3≤1000∧(∀o10:Nat,o10<h3→W.linesN o10≤1000))∧tn 6 (((x3∧x6)∧True∧w3≤1000∧(∀q10:Nat,q10<w3→W.readyN q10≤1000))∧tn 7 ((((1=1∧(∀r10:Nat,r10<1→True∧u3))∧x6)∧True∧1≤1000∧(∀u10:Nat,u10<1→a3≤1000))∧w64 y6=y6∧True∧((b7=true→u1∧d7∧g7∧h7∧h7∧v1∧b7=b7∧v6∧b7=o7)∧(b7=false→(k7=true→u1∧d7∧g7∧h7∧h7∧v1∧k7=k7∧v6∧k7=o7)∧(k7=false→(o6=true→u1∧d7∧g7∧h7∧h7∧v1∧o6=o6∧v6∧o6=o7)∧(o6=false→u1∧d7∧g7∧h7∧h7∧v1∧l7=l7∧v6∧l7=o7))))∧(∀v10:Bo2,v10.b=o7→(v10.b=true→(l7=true→tn 8 ((u7→(b4∧a2∧(8:Int)=8∧True)∧True∧((8:Int)=(-1)→False))∧tn 10 ((w7→x7)∧tn 2 ((w7→b8)∧(o8=true→u2)∧(o8=false→u8)))))∧(l7=false→tn 8 ((u7→(b4∧a2∧d6)∧e6)∧tn 10 ((w8→x7)∧tn 2 ((w8→b8)∧(x8=true→u2)∧(x8=false→u8))))))∧(v10.b=false→(y8=true→cond z8 true (e7 !=1)=o1∧True)∧(y8=false→cond z8 true r8=o1∧True)))))))))))))))))))))))))
set_option maxHeartbeats 1000000 in
theorem ok_tasks1 : FnOK Tryz.prog glN 190 c_tasks1 := ok_of (.cons ok_wOut (.cons ok_wBlankF (.cons ok_wCount (.cons ok_containsI (.cons ok_wIs .nil))))) false Tryz.call190 Tryz.func190 (fun ⟨i, W⟩ => [.inv (an_t1 W i.toNat), .inv (an_t2 W i.toNat), .cut 29 (cut_t25 W i.toNat)]) (V := V_tasks1) (fun _ => by kernel_rfl) fun ⟨i, W⟩ hp => by
  dsimp only [s_tasks1] at hp
  dsimp only [V_tasks1, tn, w64]
  obtain ⟨hz, hm, f0, f1⟩ := hp
  obtain ⟨F, rfl⟩ : ∃ F : Nat, i = F := ⟨i.toNat, by omega⟩
  simp only [std, stb, eq_self, implies_true, Bool.cond_self]
  have hz1 := hz.tasks
  have hz2 := hz.k1
  have hz3 := hz.lines
  have hz4 := hz.c1
  have hz5 := hz.c0
  have hz6 := hz.ready
  simp only [sel11]
  refine ⟨by omega, fun h => ?_, fun h => ⟨by decide, fun _ s hs => ⟨fun h1 => ?_, fun h1 => ?_⟩⟩⟩
  · unfold tkB; rw [h]; rfl
  · have core := tkB_pos h
    have hlt : s < 11 := by have := of_decide_eq_true h1; omega
    refine ⟨by omega, fun h2 => ?_, fun h2 => ⟨by rw [IntKind.wrap_i64]; omega, exS ⟨⟨by omega, snocF (p := fun j => farB (sel [(W.tasks F).r0, (W.tasks F).r1, (W.tasks F).r2, (W.tasks F).r3, (W.tasks F).r4, (W.tasks F).r5, (W.tasks F).r6, (W.tasks F).r7, (W.tasks F).pc, (W.tasks F).word, (W.tasks F).badge] j) 65535) hs.2 h2⟩, by omega⟩⟩⟩
    rw [core, not11 hlt h2]; rfl
  have core := tkB_pos h
  have hs8 : s = 11 := by have := of_decide_eq_false h1; omega
  obtain ⟨hreg, hpc, hwd, hbg⟩ := all11 (W := W) (f := F) fun j hj => hs.2 j (by omega)
  rw [hreg] at core
  have eN : numFar W (W.tasks F) = (farB (W.tasks F).st 6 || farB (W.tasks F).prio 3 || farB (W.tasks F).core (W.nCores - 1) || farB (W.tasks F).dom 3) := by unfold numFar; rw [hpc, hwd, hbg]; rfl
  have eA : (farB (W.tasks F).st 6 || farB (W.tasks F).prio 3 || farB (W.tasks F).core (W.nCores - 1) || farB (W.tasks F).dom 3 || !okF W (W.tasks F).node 5 || !okF W (W.tasks F).space 4 || !okF W (W.tasks F).helper 7 || !okF W (W.tasks F).owes 6) = !(!numFar W (W.tasks F) && refOK W (W.tasks F)) := by
    rw [eN]; unfold refOK; simp only [Bool.not_and, Bool.not_or, Bool.not_not, Bool.or_assoc]
  rw [eA]
  refine ⟨fun _ => by rw [IntKind.wrap_i64]; omega, fun _ => by decide, fun _ => by decide, fun _ => by decide, fun _ => by decide, fun h2 => ?_, fun h2 => ?_⟩
  · rw [core]
    revert h2; cases numFar W (W.tasks F) <;> cases refOK W (W.tasks F) <;> simp
  have h3 := notF h2
  rw [Bool.and_eq_true] at h3
  obtain ⟨hnum, href⟩ := h3
  rw [hnum, href] at core
  have hok : okF W (W.tasks F).owes 6 = true := by unfold refOK at href; simp only [Bool.and_eq_true] at href; exact href.2
  have hO : (W.tasks F).owes = -1 ∨ (0 ≤ (W.tasks F).owes ∧ (W.tasks F).owes < W.nKinds) := by
    rcases Decidable.em ((W.tasks F).owes = -1) with h | h
    · exact .inl h
    · exact .inr (okF_in (by decide) hok (by simpa using h))
  have eB : (decide (0 ≤ (W.tasks F).owes) && ((W.tasks (W.tasks F).owes.toNat).st != 5 || (W.tasks F).st == 4)) = !owesOK W (W.tasks F) := by
    unfold owesOK
    rw [show decide (0 ≤ (W.tasks F).owes) = !((W.tasks F).owes == -1) by
      rcases hO with h | h
      · rw [h]; rfl
      · rw [decide_eq_true h.1, show ((W.tasks F).owes == -1) = false from beq_eq_false_iff_ne.2 (by omega)]; rfl]
    simp only [bne, Bool.not_and, Bool.not_or, Bool.not_not]
  rw [eB]
  refine ⟨fun h4 => ?_, fun h4 => ?_, fun h4 _ => ?_⟩
  · have := of_decide_eq_true h4; omega
  · rw [core, notT h4]; rfl
  rw [notF h4] at core
  refine ⟨rfl, fun s hs => ⟨fun h5 => ?_, fun h5 => ?_⟩⟩
  · have hlt := lt_of_dec h5
    have hb := cntB_le (fun k => (W.tasks k).owes == F) s
    refine ⟨by omega, fun h6 => ?_, fun h6 => ?_⟩
    · exact ⟨by rw [IntKind.wrap_i64]; omega, by rw [IntKind.wrap_i64]; omega, exS ⟨by simp [cntB, h6], by omega, by omega⟩⟩
    · exact ⟨by rw [IntKind.wrap_i64]; omega, exS ⟨by simp [cntB, h6], by omega, by omega⟩⟩
  have hge := ge_of_dec h5
  obtain rfl : s = W.nTasks := by omega
  rw [show (decide (1 < ((cntB W.nTasks fun k => (W.tasks k).owes == F : Nat) : Int)) || ((((cntB W.nTasks fun k => (W.tasks k).owes == F : Nat) : Int) == 1) != ((W.tasks F).st == 5))) = !owedOK W F from owed_ne (W := W) (f := F) rfl]
  refine ⟨fun h6 => ?_, fun h6 => ?_⟩
  · rw [core, notT h6]; rfl
  rw [notF h6] at core
  have core : tkB W F = stOK W F := by rw [core]; rfl
  rw [cnt1]
  have b1 : cntLL W.nReady W.readyN W.ready F ≤ W.nReady * 50 := sumN_le fun i hi => Nat.le_trans (cntB_le _ _) (hm.2.1 i hi)
  have b2 : cntL W.nCores W.cores F ≤ W.nCores := cntB_le _ _
  have et : ((cntLL W.nReady W.readyN W.ready F : Nat) : Int) + ((cntL W.nCores W.cores F : Nat) : Int) = (turnsN W F : Nat) := by unfold turnsN; omega
  rw [et]
  refine ⟨⟨by omega, fun i hi => Nat.le_trans (hm.1 i hi) (by omega)⟩, ⟨by omega, fun i hi => Nat.le_trans (hm.2.1 i hi) (by omega)⟩, ⟨by omega, fun _ _ => by omega⟩, by rw [IntKind.wrap_i64]; unfold turnsN; omega, ?_, ?_⟩
  · refine ⟨fun h => ⟨rfl, rfl, by rw [h]; rfl⟩, fun h => ⟨fun h7 => ⟨rfl, rfl, by rw [h, h7]; rfl⟩, fun h7 => ⟨fun h8 => ⟨rfl, rfl, by rw [h, h7, h8]; rfl⟩, fun h8 => ⟨rfl, rfl, by rw [h, h7, h8]; rfl⟩⟩⟩⟩
  rintro ⟨b⟩ hb
  have hb : b = ((W.tasks F).st == 2 || (W.tasks F).st == 3 || (W.tasks F).st == 4 || (W.tasks F).st == 6) := hb
  simp only [castN0, castN1]
  have hs1 : ∀ k : Int, k ≠ -1 → stOK W F = standOK W F k → (decide ((W.tasks F).loc < 0) = false → k ≠ -1) ∧ ((decide ((W.tasks F).loc < 0) || !okF W (W.tasks F).loc k) = false → 0 ≤ (W.tasks F).loc ∧ (W.tasks F).loc < W.nLines) ∧ ((decide ((W.tasks F).loc < 0) || !okF W (W.tasks F).loc k) = false → W.linesN (W.tasks F).loc.toNat ≤ 100000) ∧
      ((decide ((W.tasks F).loc < 0) || !okF W (W.tasks F).loc k || !inB' (W.linesN (W.tasks F).loc.toNat) (W.lines (W.tasks F).loc.toNat) F) = true → true = !tkB W F) ∧ ((decide ((W.tasks F).loc < 0) || !okF W (W.tasks F).loc k || !inB' (W.linesN (W.tasks F).loc.toNat) (W.lines (W.tasks F).loc.toNat) F) = false → ((1 : Int) == 0 && (W.tasks F).loc != -1 || !(stands W F == 1) || !(turnsN W F == 0)) = !tkB W F) := by
    intro k hk he
    rw [locN hk, core, he]
    have hin : (!(kof W (W.tasks F).loc == k)) = false → 0 ≤ (W.tasks F).loc ∧ (W.tasks F).loc < W.nLines := fun h => by
      rw [hz3]; exact kof_in (by rw [eq_of_beq (notF h)]; exact hk)
    refine ⟨fun _ => hk, hin, fun h => ?_, fun h => ?_, fun h => ?_⟩
    · have := hin h; have := hm.1 (W.tasks F).loc.toNat (by omega); omega
    · unfold standOK; revert h
      cases kof W (W.tasks F).loc == k <;> cases inB' (W.linesN (W.tasks F).loc.toNat) (W.lines (W.tasks F).loc.toNat) F <;> cases stands W F == 1 <;> cases turnsN W F == 0 <;> simp
    · unfold standOK; revert h
      cases kof W (W.tasks F).loc == k <;> cases inB' (W.linesN (W.tasks F).loc.toNat) (W.lines (W.tasks F).loc.toNat) F <;> cases stands W F == 1 <;> cases turnsN W F == 0 <;> simp
  refine ⟨fun h7 => ⟨fun h8 => hs1 8 (by decide) ?_, fun h8 => hs1 7 (by decide) ?_⟩, fun h7 => ?_⟩
  · have e6 := eq_of_beq h8
    simp only [stOK]; rw [e6]; rfl
  · have h7 : b = true := h7
    rw [h7, h8, Bool.or_false] at hb
    simp only [stOK]; rw [← hb]; rfl
  · have h7 : b = false := h7
    have hb := hb.symm
    rw [h7] at hb
    rw [Bool.or_eq_false_iff] at hb
    rw [core]
    simp only [stOK]; rw [hb.1, hb.2]
    refine ⟨fun h8 => ?_, fun h8 => ?_⟩
    · rw [h8]; simp only [bne]
      cases stands W F == 0 <;> cases turnsN W F == 1 <;> cases (W.tasks F).loc == -1 <;> rfl
    · rw [h8]; simp only [bne]
      cases stands W F == 0 <;> cases turnsN W F == 0 <;> cases (W.tasks F).loc == -1 <;> rfl
end Go.Proofs.YtdjilaofmdhikaaGreatDoor
set_option linter.unusedVariables false
set_option linter.unusedSimpArgs false
set_option maxRecDepth 100000
namespace Go.Proofs.YtdjilaofmdhikaaGreatDoor
open Go.RowKit Go.Sy
def bE (n : Nat) (p : Nat → Bool) (e : Int) : Int := (fstE n p e (0, -1)).1
def bA (n : Nat) (p : Nat → Bool) (e : Int) : Int := (fstE n p e (0, -1)).2
def an_bad (n : Nat) (p : Nat → Bool) : Ann where
  σ := Nat
  rt := []
  sh i := [(11, .v (.int .i64 i))]
  mh _ := []
  inv i := i ≤ n ∧ ∀ j, j < i → p j = false
  μ i := n - i
  init := 0
structure X_badW1 where
  (n : Nat) (l : Nat → Int) (e : Int)
def s_badW1 : Sy.Spec := ⟨X_badW1, fun ⟨n, l, e⟩ => [.sl true 1 n (fun i_ _ => .v (.int .i64 (l i_))), .v (.int .i64 e), .fn 181 0 (fun _ => .junk)], fun _ => [], fun ⟨n, _, e⟩ => e ≠ 0 ∧ n ≤ 100000, fun ⟨n, l, e⟩ => .er 35 116 (bE n (fun i => farB (l i) 65535) e) (bA n (fun i => farB (l i) 65535) e), fun _ => [],
  fun args mem => match args with | [a0, a1, a2] => (match isFn 181 a2 with | true => some ⟨slN a0, fun i => intD (slF a0 i 0), intD (a1)⟩ | false => none) | _ => none⟩
def c_badW1 : Con := ⟨[], s_badW1.g, none⟩
def V_badW1 : X_badW1 → Prop := fun ⟨n, l, e⟩ => let a0:=(n:Int);let b0:=bE n (fun c0:Nat=>farB (l c0) 65535) e;let d0:=bA n (fun e0:Nat=>farB (l e0) 65535) e;a0≤9223372036854775807→0=((0:Nat):Int)∧True∧(0≤n∧(∀g0:Nat,g0<0→farB (l g0) 65535=false))∧(∀h0:Nat,let k0:=(h0:Int);let l0:=decide (k0<a0);let o0:=k0=k0;let q0:Int:=l (Int.toNat k0);let r0:=farB q0 65535;let u0:Int:=k0+1;h0≤n∧(∀v0:Nat,v0<h0→farB (l v0) 65535=false)→(l0=true→(0≤k0∧k0<a0)∧((o0∧q0=q0∧True)∧True∧True)∧(r0=true→((o0∧e=e∧True)∧True∧0≤k0∧e≠0)∧(e=b0∧k0=d0)∧True)∧(r0=false→w64 u0=u0∧(∃w0:Nat,u0=(w0:Int)∧True∧(w0≤n∧(∀x0:Nat,x0<w0→farB (l x0) 65535=false))∧n-w0<n-h0)))∧(l0=false→(b0=0∧d0=(-1))∧True))
set_option maxHeartbeats 1000000 in
theorem ok_badW1 : FnOK Tryz.prog glN 180 c_badW1 := ok_of (.cons ok_wAt (.cons ok_words1 .nil)) false Tryz.call180 Tryz.func180 (fun ⟨n, l, _⟩ => [.inv (an_bad n (fun i => farB (l i) 65535))]) (V := V_badW1) (fun _ => by kernel_rfl) fun ⟨n, l, e⟩ hp => by
  dsimp only [s_badW1] at hp
  dsimp only [V_badW1, tn, w64]
  obtain ⟨he, hp⟩ := hp
  simp only [std, stb, eq_self, implies_true, Bool.cond_self]
  
  unfold bE bA
  refine fun _ s hs => ⟨fun h => ?_, fun h => ?_⟩
  · have hlt := lt_of_dec h
    refine ⟨by omega, fun h1 => ?_, fun h1 => ⟨by rw [IntKind.wrap_i64]; omega, exS ⟨⟨by omega, snocF (p := fun i => farB (l i) 65535) hs.2 h1⟩, by omega⟩⟩⟩
    rw [fstE_at (p := fun i => farB (l i) 65535) hs.2 h1 hlt]
    first | exact ⟨he, rfl, rfl⟩ | exact ⟨⟨by omega, he⟩, rfl, rfl⟩
  · have hge := ge_of_dec h
    rw [fstE_none (p := fun i => farB (l i) 65535) fun j hj => hs.2 j (by omega)]
    exact ⟨rfl, rfl⟩
structure X_badW2 where
  (n : Nat) (l : Nat → Int) (e : Int)
def s_badW2 : Sy.Spec := ⟨X_badW2, fun ⟨n, l, e⟩ => [.sl true 1 n (fun i_ _ => .v (.int .i64 (l i_))), .v (.int .i64 e), .fn 182 0 (fun _ => .junk)], fun _ => [], fun ⟨n, _, e⟩ => e ≠ 0 ∧ n ≤ 100000, fun ⟨n, l, e⟩ => .er 35 116 (bE n (fun i => farB (l i) 8 || l i == 1) e) (bA n (fun i => farB (l i) 8 || l i == 1) e), fun _ => [],
  fun args mem => match args with | [a0, a1, a2] => (match isFn 182 a2 with | true => some ⟨slN a0, fun i => intD (slF a0 i 0), intD (a1)⟩ | false => none) | _ => none⟩
def c_badW2 : Con := ⟨[], s_badW2.g, none⟩
def V_badW2 : X_badW2 → Prop := fun ⟨n, l, e⟩ => let a0:=(n:Int);let b0:=bE n (fun c0:Nat=>farB (l c0) 8||l c0==1) e;let d0:=bA n (fun e0:Nat=>farB (l e0) 8||l e0==1) e;a0≤9223372036854775807→0=((0:Nat):Int)∧True∧(0≤n∧(∀g0:Nat,g0<0→(farB (l g0) 8||l g0==1)=false))∧(∀h0:Nat,let k0:=(h0:Int);let l0:=decide (k0<a0);let o0:=k0=k0;let q0:Int:=l (Int.toNat k0);let r0:=farB q0 8||q0==1;let u0:Int:=k0+1;h0≤n∧(∀v0:Nat,v0<h0→(farB (l v0) 8||l v0==1)=false)→(l0=true→(0≤k0∧k0<a0)∧((o0∧q0=q0∧True)∧True∧True)∧(r0=true→((o0∧e=e∧True)∧True∧0≤k0∧e≠0)∧(e=b0∧k0=d0)∧True)∧(r0=false→w64 u0=u0∧(∃w0:Nat,u0=(w0:Int)∧True∧(w0≤n∧(∀x0:Nat,x0<w0→(farB (l x0) 8||l x0==1)=false))∧n-w0<n-h0)))∧(l0=false→(b0=0∧d0=(-1))∧True))
set_option maxHeartbeats 1000000 in
theorem ok_badW2 : FnOK Tryz.prog glN 180 c_badW2 := ok_of (.cons ok_wAt (.cons ok_words2 .nil)) false Tryz.call180 Tryz.func180 (fun ⟨n, l, _⟩ => [.inv (an_bad n (fun i => farB (l i) 8 || l i == 1))]) (V := V_badW2) (fun _ => by kernel_rfl) fun ⟨n, l, e⟩ hp => by
  dsimp only [s_badW2] at hp
  dsimp only [V_badW2, tn, w64]
  obtain ⟨he, hp⟩ := hp
  simp only [std, stb, eq_self, implies_true, Bool.cond_self]
  
  unfold bE bA
  refine fun _ s hs => ⟨fun h => ?_, fun h => ?_⟩
  · have hlt := lt_of_dec h
    refine ⟨by omega, fun h1 => ?_, fun h1 => ⟨by rw [IntKind.wrap_i64]; omega, exS ⟨⟨by omega, snocF (p := fun i => farB (l i) 8 || l i == 1) hs.2 h1⟩, by omega⟩⟩⟩
    rw [fstE_at (p := fun i => farB (l i) 8 || l i == 1) hs.2 h1 hlt]
    first | exact ⟨he, rfl, rfl⟩ | exact ⟨⟨by omega, he⟩, rfl, rfl⟩
  · have hge := ge_of_dec h
    rw [fstE_none (p := fun i => farB (l i) 8 || l i == 1) fun j hj => hs.2 j (by omega)]
    exact ⟨rfl, rfl⟩
structure X_badW3 where
  (n : Nat) (l : Nat → Int) (e : Int)
def s_badW3 : Sy.Spec := ⟨X_badW3, fun ⟨n, l, e⟩ => [.sl true 1 n (fun i_ _ => .v (.int .i64 (l i_))), .v (.int .i64 e), .fn 183 0 (fun _ => .junk)], fun _ => [], fun ⟨n, _, e⟩ => e ≠ 0 ∧ n ≤ 100000, fun ⟨n, l, e⟩ => .er 35 116 (bE n (fun i => farB (l i) 3) e) (bA n (fun i => farB (l i) 3) e), fun _ => [],
  fun args mem => match args with | [a0, a1, a2] => (match isFn 183 a2 with | true => some ⟨slN a0, fun i => intD (slF a0 i 0), intD (a1)⟩ | false => none) | _ => none⟩
def c_badW3 : Con := ⟨[], s_badW3.g, none⟩
def V_badW3 : X_badW3 → Prop := fun ⟨n, l, e⟩ => let a0:=(n:Int);let b0:=bE n (fun c0:Nat=>farB (l c0) 3) e;let d0:=bA n (fun e0:Nat=>farB (l e0) 3) e;a0≤9223372036854775807→0=((0:Nat):Int)∧True∧(0≤n∧(∀g0:Nat,g0<0→farB (l g0) 3=false))∧(∀h0:Nat,let k0:=(h0:Int);let l0:=decide (k0<a0);let o0:=k0=k0;let q0:Int:=l (Int.toNat k0);let r0:=farB q0 3;let u0:Int:=k0+1;h0≤n∧(∀v0:Nat,v0<h0→farB (l v0) 3=false)→(l0=true→(0≤k0∧k0<a0)∧((o0∧q0=q0∧True)∧True∧True)∧(r0=true→((o0∧e=e∧True)∧True∧0≤k0∧e≠0)∧(e=b0∧k0=d0)∧True)∧(r0=false→w64 u0=u0∧(∃w0:Nat,u0=(w0:Int)∧True∧(w0≤n∧(∀x0:Nat,x0<w0→farB (l x0) 3=false))∧n-w0<n-h0)))∧(l0=false→(b0=0∧d0=(-1))∧True))
set_option maxHeartbeats 1000000 in
theorem ok_badW3 : FnOK Tryz.prog glN 180 c_badW3 := ok_of (.cons ok_wAt (.cons ok_words3 .nil)) false Tryz.call180 Tryz.func180 (fun ⟨n, l, _⟩ => [.inv (an_bad n (fun i => farB (l i) 3))]) (V := V_badW3) (fun _ => by kernel_rfl) fun ⟨n, l, e⟩ hp => by
  dsimp only [s_badW3] at hp
  dsimp only [V_badW3, tn, w64]
  obtain ⟨he, hp⟩ := hp
  simp only [std, stb, eq_self, implies_true, Bool.cond_self]
  
  unfold bE bA
  refine fun _ s hs => ⟨fun h => ?_, fun h => ?_⟩
  · have hlt := lt_of_dec h
    refine ⟨by omega, fun h1 => ?_, fun h1 => ⟨by rw [IntKind.wrap_i64]; omega, exS ⟨⟨by omega, snocF (p := fun i => farB (l i) 3) hs.2 h1⟩, by omega⟩⟩⟩
    rw [fstE_at (p := fun i => farB (l i) 3) hs.2 h1 hlt]
    first | exact ⟨he, rfl, rfl⟩ | exact ⟨⟨by omega, he⟩, rfl, rfl⟩
  · have hge := ge_of_dec h
    rw [fstE_none (p := fun i => farB (l i) 3) fun j hj => hs.2 j (by omega)]
    exact ⟨rfl, rfl⟩
structure X_badF where
  (n : Nat) (l : Nat → Int) (e : Int) (nc : Nat) (cl : Nat → Int) (nk : Nat) (ky : Nat → Int) (nu : Nat) (us : Nat → Bool)
def s_badF : Sy.Spec := ⟨X_badF, fun ⟨n, l, e, nc, cl, nk, ky, nu, us⟩ => [.sl true 1 n (fun i_ _ => .v (.int .i64 (l i_))), .v (.int .i64 e), .fn 188 3 (lsv [.pt true 1 (fun _ => .sl true 1 nc (iF cl)), .pt true 1 (fun _ => .sl true 1 nk (iF ky)), .pt true 1 (fun _ => .sl true 1 nu (fun i _ => .v (.bool (us i))))])], fun _ => [], fun ⟨n, _, e, nc, _, nk, _, nu, _⟩ => e ≠ 0 ∧ n ≤ 100000 ∧ n ≤ nc ∧ n ≤ nk ∧ n ≤ nu, fun ⟨n, l, e, _, cl, _, ky, _, us⟩ => .er 35 116 (bE n (fun i => decide (1 < cl i) || (l i != 0 && (ky i == 0 || (cl i == 1 && !us i)))) e) (bA n (fun i => decide (1 < cl i) || (l i != 0 && (ky i == 0 || (cl i == 1 && !us i)))) e), fun _ => [],
  fun args mem => match args with | [a0, a1, a2] => (match isFn 188 a2 with | true => some ⟨slN a0, fun i => intD (slF a0 i 0), intD (a1), slN (ptF (fnF a2 0) 0), fun i => intD (slF (ptF (fnF a2 0) 0) i 0), slN (ptF (fnF a2 1) 0), fun i => intD (slF (ptF (fnF a2 1) 0) i 0), slN (ptF (fnF a2 2) 0), fun i => boolD (slF (ptF (fnF a2 2) 0) i 0)⟩ | false => none) | _ => none⟩
def c_badF : Con := ⟨[], s_badF.g, none⟩
def V_badF : X_badF → Prop := fun ⟨n, l, e, nc, cl, nk, ky, nu, us⟩ => let a0:=(n:Int);let b0:=bE n (fun c0:Nat=>decide (1<cl c0)||l c0 !=0&&(ky c0==0||cl c0==1&&!us c0)) e;let d0:=bA n (fun e0:Nat=>decide (1<cl e0)||l e0 !=0&&(ky e0==0||cl e0==1&&!us e0)) e;a0≤9223372036854775807→0=((0:Nat):Int)∧True∧(0≤n∧(∀g0:Nat,g0<0→(decide (1<cl g0)||l g0 !=0&&(ky g0==0||cl g0==1&&!us g0))=false))∧(∀h0:Nat,let k0:=(h0:Int);let l0:=decide (k0<a0);let o0:=0≤k0;let q0:=k0=k0;let r0:=Int.toNat k0;let u0:Int:=l r0;let v0:Int:=cl r0;let w0:=decide (1<v0)||u0 !=0&&(ky r0==0||v0==1&&!us r0);let x0:Int:=k0+1;h0≤n∧(∀y0:Nat,y0<h0→(decide (1<cl y0)||l y0 !=0&&(ky y0==0||cl y0==1&&!us y0))=false)→(l0=true→(o0∧k0<a0)∧((q0∧u0=u0∧(True∧nc=nc∧(∀z0:Nat,z0<nc→True∧cl z0=cl z0))∧(True∧nk=nk∧(∀a1:Nat,a1<nk→True∧ky a1=ky a1))∧(True∧nu=nu∧(∀b1:Nat,b1<nu→True∧us b1=us b1))∧True)∧True∧o0∧k0<(nc:Int)∧k0<(nk:Int)∧k0<(nu:Int))∧(w0=true→((q0∧e=e∧True)∧True∧o0∧e≠0)∧(e=b0∧k0=d0)∧True)∧(w0=false→w64 x0=x0∧(∃c1:Nat,x0=(c1:Int)∧True∧(c1≤n∧(∀d1:Nat,d1<c1→(decide (1<cl d1)||l d1 !=0&&(ky d1==0||cl d1==1&&!us d1))=false))∧n-c1<n-h0)))∧(l0=false→(b0=0∧d0=(-1))∧True))
set_option maxHeartbeats 1000000 in
theorem ok_badF : FnOK Tryz.prog glN 180 c_badF := ok_of (.cons ok_wAt (.cons ok_frames1 .nil)) false Tryz.call180 Tryz.func180 (fun ⟨n, l, _, _, cl, _, ky, _, us⟩ => [.inv (an_bad n (fun i => decide (1 < cl i) || (l i != 0 && (ky i == 0 || (cl i == 1 && !us i)))))]) (V := V_badF) (fun _ => by kernel_rfl) fun ⟨n, l, e, nc, cl, nk, ky, nu, us⟩ hp => by
  dsimp only [s_badF] at hp
  dsimp only [V_badF, tn, w64]
  obtain ⟨he, hp⟩ := hp
  simp only [std, stb, eq_self, implies_true, Bool.cond_self]
  
  unfold bE bA
  refine fun _ s hs => ⟨fun h => ?_, fun h => ?_⟩
  · have hlt := lt_of_dec h
    refine ⟨by omega, ⟨by omega, by omega, by omega⟩, fun h1 => ?_, fun h1 => ⟨by rw [IntKind.wrap_i64]; omega, exS ⟨⟨by omega, snocF (p := fun i => decide (1 < cl i) || (l i != 0 && (ky i == 0 || (cl i == 1 && !us i)))) hs.2 h1⟩, by omega⟩⟩⟩
    rw [fstE_at (p := fun i => decide (1 < cl i) || (l i != 0 && (ky i == 0 || (cl i == 1 && !us i)))) hs.2 h1 hlt]
    first | exact ⟨he, rfl, rfl⟩ | exact ⟨⟨by omega, he⟩, rfl, rfl⟩
  · have hge := ge_of_dec h
    rw [fstE_none (p := fun i => decide (1 < cl i) || (l i != 0 && (ky i == 0 || (cl i == 1 && !us i)))) fun j hj => hs.2 j (by omega)]
    exact ⟨rfl, rfl⟩
structure X_badC where
  (e : Int) (W : Wd)
def s_badC : Sy.Spec := ⟨X_badC, fun ⟨e, W⟩ => [.sl true 1 W.nCores (iF W.cores), .v (.int .i64 e), .fn 198 1 (lsv [.pt true 1 (fun _ => .fn 197 1 (lsv [.pt true 1 (fun _ => wPT W)]))])], fun _ => [], fun ⟨e, W⟩ => e ≠ 0 ∧ Szd W, fun ⟨e, W⟩ => .er 35 116 (bE W.nCores (fun i => !coB W i) e) (bA W.nCores (fun i => !coB W i) e), fun _ => [],
  fun args mem => match args with | [a0, a1, a2] => (match isFn 198 a2 with | true => some ⟨intD (a1), wPTD (ptF (fnF (ptF (fnF a2 0) 0) 0) 0)⟩ | false => none) | _ => none⟩
def c_badC : Con := ⟨[], s_badC.g, none⟩
def V_badC : X_badC → Prop := fun ⟨e, W⟩ => let a0:=W.nCores;let b0:=(a0:Int);let c0:=W.nKinds;let d0:=W.nSlots;let e0:=W.nTasks;let g0:=W.nLines;let h0:=W.nReady;let k0:=bE a0 (fun l0:Nat=>!coB W l0) e;let o0:=bA a0 (fun q0:Nat=>!coB W q0) e;b0≤9223372036854775807→0=((0:Nat):Int)∧True∧(0≤a0∧(∀u0:Nat,u0<0→(!coB W u0)=false))∧(∀v0:Nat,let w0:=(v0:Int);let x0:=decide (w0<b0);let y0:=w0=w0;let z0:=W.cores (Int.toNat w0);let a1:=z0 !=(-1)&&!rdB W z0 w0 (-1);let b1:Int:=w0+1;v0≤a0∧(∀c1:Nat,c1<v0→(!coB W c1)=false)→(x0=true→(0≤w0∧w0<b0)∧((y0∧z0=z0∧tn 3 (((((((((((True∧W.nRam=W.nRam∧(∀d1:Nat,d1<W.nRam→True∧W.ram d1=W.ram d1))∧c0=c0∧(∀e1:Nat,e1<c0→True∧W.kinds e1=W.kinds e1))∧d0=d0∧(∀g1:Nat,let h1:=W.slots g1;let k1:=h1.kind;let l1:=h1.base;let o1:=h1.len;let q1:=h1.mark;let u1:=h1.rights;let v1:=h1.badge;let w1:=h1.from_;g1<d0→((((((True∧k1=k1)∧l1=l1)∧o1=o1)∧q1=q1)∧u1=u1)∧v1=v1)∧w1=w1))∧e0=e0∧(∀x1:Nat,let y1:=W.tasks x1;let z1:=y1.prio;let a2:=y1.node;let b2:=y1.space;let c2:=y1.helper;let d2:=y1.loc;let e2:=y1.word;let g2:=y1.badge;let h2:=y1.owes;let k2:=y1.core;let l2:=y1.dom;x1<e0→(((((((((((((((((((True∧y1.r0=y1.r0)∧y1.r1=y1.r1)∧y1.r2=y1.r2)∧y1.r3=y1.r3)∧y1.r4=y1.r4)∧y1.r5=y1.r5)∧y1.r6=y1.r6)∧y1.r7=y1.r7)∧y1.pc=y1.pc)∧y1.st=y1.st)∧z1=z1)∧a2=a2)∧b2=b2)∧c2=c2)∧d2=d2)∧e2=e2)∧g2=g2)∧h2=h2)∧k2=k2)∧l2=l2))∧g0=g0∧(∀o2:Nat,let q2:=W.linesN o2;o2<g0→True∧q2=q2∧(∀u2:Nat,u2<q2→True∧W.lines o2 u2=W.lines o2 u2)))∧W.nBits=W.nBits∧(∀v2:Nat,v2<W.nBits→True∧W.bits v2=W.bits v2))∧a0=a0∧(∀w2:Nat,w2<a0→True∧W.cores w2=W.cores w2))∧h0=h0∧
    (∀x2:Nat,let y2:=W.readyN x2;x2<h0→True∧y2=y2∧(∀z2:Nat,z2<y2→True∧W.ready x2 z2=W.ready x2 z2)))∧W.nTlbs=W.nTlbs∧(∀a3:Nat,let b3:=W.tlbsN a3;a3<W.nTlbs→True∧b3=b3∧(∀c3:Nat,let d3:=W.tlbs a3 c3;let e3:=d3.sp;let g3:=d3.pg;let h3:=d3.fr;let k3:=d3.wr;c3<b3→(((True∧e3=e3)∧g3=g3)∧h3=h3)∧k3=k3)))∧W.nDoms=W.nDoms∧(∀l3:Nat,l3<W.nDoms→True∧W.doms l3=W.doms l3))∧W.time=W.time)∧True)∧True∧s_turns2.match_1 (fun o3:X_turns2=>Prop) (X_turns2.mk w0 z0 W) (fun q3:Int=>fun u3:Int=>fun v3:Wd=>Szd v3))∧(a1=true→((y0∧e=e∧True)∧True∧0≤w0∧e≠0)∧(e=k0∧w0=o0)∧True)∧(a1=false→w64 b1=b1∧(∃w3:Nat,b1=(w3:Int)∧True∧(w3≤a0∧(∀x3:Nat,x3<w3→(!coB W x3)=false))∧a0-w3<a0-v0)))∧(x0=false→(k0=0∧o0=(-1))∧True))
set_option maxHeartbeats 1000000 in
theorem ok_badC : FnOK Tryz.prog glN 180 c_badC := ok_of (.cons ok_wAt (.cons ok_turns2 .nil)) false Tryz.call180 Tryz.func180 (fun ⟨_, W⟩ => [.inv (an_bad W.nCores (fun i => !coB W i))]) (V := V_badC) (fun _ => by kernel_rfl) fun ⟨e, W⟩ hp => by
  dsimp only [s_badC] at hp
  dsimp only [V_badC, tn, w64]
  obtain ⟨he, hp⟩ := hp
  simp only [std, stb, eq_self, implies_true, Bool.cond_self]
  have z1 := hp.c1
  simp only [coB_not]
  unfold bE bA
  refine fun _ s hs => ⟨fun h => ?_, fun h => ?_⟩
  · have hlt := lt_of_dec h
    refine ⟨by omega, hp, fun h1 => ?_, fun h1 => ⟨by rw [IntKind.wrap_i64]; omega, exS ⟨⟨by omega, snocF (p := fun i => !coB W i) hs.2 h1⟩, by omega⟩⟩⟩
    rw [fstE_at (p := fun i => !coB W i) hs.2 h1 hlt]
    first | exact ⟨he, rfl, rfl⟩ | exact ⟨⟨by omega, he⟩, rfl, rfl⟩
  · have hge := ge_of_dec h
    rw [fstE_none (p := fun i => !coB W i) fun j hj => hs.2 j (by omega)]
    exact ⟨rfl, rfl⟩
structure X_badM where
  (e : Int) (W : Wd)
def s_badM : Sy.Spec := ⟨X_badM, fun ⟨e, W⟩ => [.sl true 1 W.nRam (iF W.ram), .v (.int .i64 e), .fn 202 1 (lsv [.pt true 1 (fun _ => wPT W)])], fun _ => [], fun ⟨e, W⟩ => e ≠ 0 ∧ Szd W ∧ ∀ i, i < W.nRam → isW (W.ram i), fun ⟨e, W⟩ => .er 35 116 (bE W.nRam (fun i => !enB W i) e) (bA W.nRam (fun i => !enB W i) e), fun _ => [],
  fun args mem => match args with | [a0, a1, a2] => (match isFn 202 a2 with | true => some ⟨intD (a1), wPTD (ptF (fnF a2 0) 0)⟩ | false => none) | _ => none⟩
def c_badM : Con := ⟨[], s_badM.g, none⟩
def V_badM : X_badM → Prop := fun ⟨e, W⟩ => let a0:=W.nRam;let b0:=(a0:Int);let c0:=W.nKinds;let d0:=W.nSlots;let e0:=W.nTasks;let g0:=W.nLines;let h0:=W.nCores;let k0:=W.nReady;let l0:=bE a0 (fun o0:Nat=>!enB W o0) e;let q0:=bA a0 (fun u0:Nat=>!enB W u0) e;b0≤9223372036854775807→0=((0:Nat):Int)∧True∧(0≤a0∧(∀v0:Nat,v0<0→(!enB W v0)=false))∧(∀w0:Nat,let x0:=(w0:Int);let y0:=decide (x0<b0);let z0:=0≤x0;let a1:=x0=x0;let b1:=W.ram (Int.toNat x0);let c1:=!enB W (Int.toNat x0);let d1:Int:=x0+1;w0≤a0∧(∀e1:Nat,e1<w0→(!enB W e1)=false)→(y0=true→(z0∧x0<b0)∧((a1∧b1=b1∧(True∧((((((((((True∧a0=a0∧(∀g1:Nat,g1<a0→True∧W.ram g1=W.ram g1))∧c0=c0∧(∀h1:Nat,h1<c0→True∧W.kinds h1=W.kinds h1))∧d0=d0∧(∀k1:Nat,let l1:=W.slots k1;let o1:=l1.kind;let q1:=l1.base;let u1:=l1.len;let v1:=l1.mark;let w1:=l1.rights;let x1:=l1.badge;let y1:=l1.from_;k1<d0→((((((True∧o1=o1)∧q1=q1)∧u1=u1)∧v1=v1)∧w1=w1)∧x1=x1)∧y1=y1))∧e0=e0∧(∀z1:Nat,let a2:=W.tasks z1;let b2:=a2.prio;let c2:=a2.node;let d2:=a2.space;let e2:=a2.helper;let g2:=a2.loc;let h2:=a2.word;let k2:=a2.badge;let l2:=a2.owes;let o2:=a2.core;let q2:=a2.dom;z1<e0→(((((((((((((((((((True∧a2.r0=a2.r0)∧a2.r1=a2.r1)∧a2.r2=a2.r2)∧a2.r3=a2.r3)∧a2.r4=a2.r4)∧a2.r5=a2.r5)∧a2.r6=a2.r6)∧a2.r7=a2.r7)∧a2.pc=a2.pc)∧a2.st=a2.st)∧b2=b2)∧c2=c2)∧d2=d2)∧e2=e2)∧g2=g2)∧h2=h2)∧k2=k2)∧l2=l2)∧o2=o2)∧q2=q2))∧g0=g0∧(∀u2:Nat,let v2:=W.linesN u2;u2<g0→True∧v2=v2∧(∀w2:Nat,w2<v2→True∧W.lines u2 w2=W.lines u2 w2)))∧W.nBits=W.nBits∧(∀x2:Nat,x2<W.nBits→True∧W.bits x2=W.bits x2))∧h0=h0∧(∀y2:Nat,y2<h0→True∧W.cores y2=W.cores y2))∧
    k0=k0∧(∀z2:Nat,let a3:=W.readyN z2;z2<k0→True∧a3=a3∧(∀b3:Nat,b3<a3→True∧W.ready z2 b3=W.ready z2 b3)))∧W.nTlbs=W.nTlbs∧(∀c3:Nat,let d3:=W.tlbsN c3;c3<W.nTlbs→True∧d3=d3∧(∀e3:Nat,let g3:=W.tlbs c3 e3;let h3:=g3.sp;let k3:=g3.pg;let l3:=g3.fr;let o3:=g3.wr;e3<d3→(((True∧h3=h3)∧k3=k3)∧l3=l3)∧o3=o3)))∧W.nDoms=W.nDoms∧(∀q3:Nat,q3<W.nDoms→True∧W.doms q3=W.doms q3))∧W.time=W.time)∧True)∧True∧Szd W∧z0∧x0<b0∧0≤b1∧b1≤65535)∧(c1=true→((a1∧e=e∧True)∧True∧z0∧e≠0)∧(e=l0∧x0=q0)∧True)∧(c1=false→w64 d1=d1∧(∃u3:Nat,d1=(u3:Int)∧True∧(u3≤a0∧(∀v3:Nat,v3<u3→(!enB W v3)=false))∧a0-u3<a0-w0)))∧(y0=false→(l0=0∧q0=(-1))∧True))
set_option maxHeartbeats 1000000 in
theorem ok_badM : FnOK Tryz.prog glN 180 c_badM := ok_of (.cons ok_wAt (.cons ok_maps1 .nil)) false Tryz.call180 Tryz.func180 (fun ⟨_, W⟩ => [.inv (an_bad W.nRam (fun i => !enB W i))]) (V := V_badM) (fun _ => by kernel_rfl) fun ⟨e, W⟩ hp => by
  dsimp only [s_badM] at hp
  dsimp only [V_badM, tn, w64]
  obtain ⟨he, hp⟩ := hp
  simp only [std, stb, eq_self, implies_true, Bool.cond_self]
  have z1 := hp.1.ram
  have z2 := hp.1.k1
  unfold bE bA
  refine fun _ s hs => ⟨fun h => ?_, fun h => ?_⟩
  · have hlt := lt_of_dec h
    refine ⟨by omega, ⟨hp.1, by omega, hp.2 s hlt⟩, fun h1 => ?_, fun h1 => ⟨by rw [IntKind.wrap_i64]; omega, exS ⟨⟨by omega, snocF (p := fun i => !enB W i) hs.2 h1⟩, by omega⟩⟩⟩
    rw [fstE_at (p := fun i => !enB W i) hs.2 h1 hlt]
    first | exact ⟨he, rfl, rfl⟩ | exact ⟨⟨by omega, he⟩, rfl, rfl⟩
  · have hge := ge_of_dec h
    rw [fstE_none (p := fun i => !enB W i) fun j hj => hs.2 j (by omega)]
    exact ⟨rfl, rfl⟩
structure X_badK where
  (e : Int) (W : Wd)
def s_badK : Sy.Spec := ⟨X_badK, fun ⟨e, W⟩ => [.sl true 7 W.nSlots (rF fun i => slL (W.slots i)), .v (.int .i64 e), .fn 185 1 (lsv [.pt true 1 (fun _ => wPT W)])], fun _ => [], fun ⟨e, W⟩ => e ≠ 0 ∧ Szd W, fun ⟨e, W⟩ => .er 35 116 (bE W.nSlots (fun i => !slB W i) e) (bA W.nSlots (fun i => !slB W i) e), fun _ => [],
  fun args mem => match args with | [a0, a1, a2] => (match isFn 185 a2 with | true => some ⟨intD (a1), wPTD (ptF (fnF a2 0) 0)⟩ | false => none) | _ => none⟩
def c_badK : Con := ⟨[], s_badK.g, none⟩
def V_badK : X_badK → Prop := fun ⟨e, W⟩ => let a0:=W.nSlots;let b0:=(a0:Int);let c0:=W.nKinds;let d0:=W.nTasks;let e0:=W.nLines;let g0:=W.nCores;let h0:=W.nReady;let k0:=bE a0 (fun l0:Nat=>!slB W l0) e;let o0:=bA a0 (fun q0:Nat=>!slB W q0) e;b0≤9223372036854775807→0=((0:Nat):Int)∧True∧(0≤a0∧(∀u0:Nat,u0<0→(!slB W u0)=false))∧(∀v0:Nat,let w0:=(v0:Int);let x0:=decide (w0<b0);let y0:=0≤w0∧w0<b0;let z0:=w0=w0;let a1:=W.slots (Int.toNat w0);let b1:=a1.kind;let c1:=a1.base;let d1:=a1.len;let e1:=a1.mark;let g1:=a1.rights;let h1:=a1.badge;let k1:=a1.from_;let l1:=!slB W (Int.toNat w0);let o1:Int:=w0+1;v0≤a0∧(∀q1:Nat,q1<v0→(!slB W q1)=false)→(x0=true→y0∧True∧tn 6 True∧((z0∧(((((((True∧b1=b1)∧c1=c1)∧d1=d1)∧e1=e1)∧g1=g1)∧h1=h1)∧k1=k1)∧(True∧((((((((((True∧W.nRam=W.nRam∧(∀u1:Nat,u1<W.nRam→True∧W.ram u1=W.ram u1))∧c0=c0∧(∀v1:Nat,v1<c0→True∧W.kinds v1=W.kinds v1))∧a0=a0∧(∀w1:Nat,let x1:=W.slots w1;let y1:=x1.kind;let z1:=x1.base;let a2:=x1.len;let b2:=x1.mark;let c2:=x1.rights;let d2:=x1.badge;let e2:=x1.from_;w1<a0→((((((True∧y1=y1)∧z1=z1)∧a2=a2)∧b2=b2)∧c2=c2)∧d2=d2)∧e2=e2))∧d0=d0∧(∀g2:Nat,let h2:=W.tasks g2;let k2:=h2.prio;let l2:=h2.node;let o2:=h2.space;let q2:=h2.helper;let u2:=h2.loc;let v2:=h2.word;let w2:=h2.badge;let x2:=h2.owes;let y2:=h2.core;let z2:=h2.dom;g2<d0→(((((((((((((((((((True∧h2.r0=h2.r0)∧h2.r1=h2.r1)∧h2.r2=h2.r2)∧h2.r3=h2.r3)∧h2.r4=h2.r4)∧h2.r5=h2.r5)∧h2.r6=h2.r6)∧h2.r7=h2.r7)∧h2.pc=h2.pc)∧h2.st=h2.st)∧k2=k2)∧l2=l2)∧o2=o2)∧q2=q2)∧u2=u2)∧v2=v2)∧w2=w2)∧x2=x2)∧y2=y2)∧z2=z2))∧e0=e0∧(∀a3:Nat,let b3:=W.linesN a3;
    a3<e0→True∧b3=b3∧(∀c3:Nat,c3<b3→True∧W.lines a3 c3=W.lines a3 c3)))∧W.nBits=W.nBits∧(∀d3:Nat,d3<W.nBits→True∧W.bits d3=W.bits d3))∧g0=g0∧(∀e3:Nat,e3<g0→True∧W.cores e3=W.cores e3))∧h0=h0∧(∀g3:Nat,let h3:=W.readyN g3;g3<h0→True∧h3=h3∧(∀k3:Nat,k3<h3→True∧W.ready g3 k3=W.ready g3 k3)))∧W.nTlbs=W.nTlbs∧(∀l3:Nat,let o3:=W.tlbsN l3;l3<W.nTlbs→True∧o3=o3∧(∀q3:Nat,let u3:=W.tlbs l3 q3;let v3:=u3.sp;let w3:=u3.pg;let x3:=u3.fr;let y3:=u3.wr;q3<o3→(((True∧v3=v3)∧w3=w3)∧x3=x3)∧y3=y3)))∧W.nDoms=W.nDoms∧(∀z3:Nat,z3<W.nDoms→True∧W.doms z3=W.doms z3))∧W.time=W.time)∧True)∧True∧Szd W∧y0)∧(l1=true→((z0∧e=e∧True)∧True∧0≤w0∧e≠0)∧(e=k0∧w0=o0)∧True)∧(l1=false→w64 o1=o1∧(∃a4:Nat,o1=(a4:Int)∧True∧(a4≤a0∧(∀b4:Nat,b4<a4→(!slB W b4)=false))∧a0-a4<a0-v0)))∧(x0=false→(k0=0∧o0=(-1))∧True))
set_option maxHeartbeats 1000000 in
theorem ok_badK : FnOK Tryz.prog glN 184 c_badK := ok_of (.cons ok_wAt (.cons ok_keys1 .nil)) false Tryz.call184 Tryz.func184 (fun ⟨_, W⟩ => [.inv (an_bad W.nSlots (fun i => !slB W i))]) (V := V_badK) (fun _ => by kernel_rfl) fun ⟨e, W⟩ hp => by
  dsimp only [s_badK] at hp
  dsimp only [V_badK, tn, w64]
  obtain ⟨he, hp⟩ := hp
  simp only [std, stb, eq_self, implies_true, Bool.cond_self]
  have z1 := hp.slots
  have z2 := hp.k1
  unfold bE bA
  refine fun _ s hs => ⟨fun h => ?_, fun h => ?_⟩
  · have hlt := lt_of_dec h
    refine ⟨by omega, ⟨hp, by omega⟩, fun h1 => ?_, fun h1 => ⟨by rw [IntKind.wrap_i64]; omega, exS ⟨⟨by omega, snocF (p := fun i => !slB W i) hs.2 h1⟩, by omega⟩⟩⟩
    rw [fstE_at (p := fun i => !slB W i) hs.2 h1 hlt]
    first | exact ⟨he, rfl, rfl⟩ | exact ⟨⟨by omega, he⟩, rfl, rfl⟩
  · have hge := ge_of_dec h
    rw [fstE_none (p := fun i => !slB W i) fun j hj => hs.2 j (by omega)]
    exact ⟨rfl, rfl⟩
structure X_badT where
  (e : Int) (W : Wd)
def s_badT : Sy.Spec := ⟨X_badT, fun ⟨e, W⟩ => [.sl true 20 W.nTasks (rF fun i => runL (W.tasks i)), .v (.int .i64 e), .fn 190 1 (lsv [.pt true 1 (fun _ => wPT W)])], fun _ => [], fun ⟨e, W⟩ => e ≠ 0 ∧ Szd W ∧ smB W, fun ⟨e, W⟩ => .er 35 116 (bE W.nTasks (fun i => !tkB W i) e) (bA W.nTasks (fun i => !tkB W i) e), fun _ => [],
  fun args mem => match args with | [a0, a1, a2] => (match isFn 190 a2 with | true => some ⟨intD (a1), wPTD (ptF (fnF a2 0) 0)⟩ | false => none) | _ => none⟩
def c_badT : Con := ⟨[], s_badT.g, none⟩
def V_badT : X_badT → Prop := fun ⟨e, W⟩ => let a0:=W.nTasks;let b0:=(a0:Int);let c0:=W.nKinds;let d0:=W.nSlots;let e0:=W.nLines;let g0:=W.nCores;let h0:=W.nReady;let k0:=W.nTlbs;let l0:=bE a0 (fun o0:Nat=>!tkB W o0) e;let q0:=bA a0 (fun u0:Nat=>!tkB W u0) e;b0≤9223372036854775807→0=((0:Nat):Int)∧True∧(0≤a0∧(∀v0:Nat,v0<0→(!tkB W v0)=false))∧(∀w0:Nat,let x0:=(w0:Int);let y0:=decide (x0<b0);let z0:=0≤x0;let a1:=x0=x0;let b1:=W.tasks (Int.toNat x0);let c1:=b1.r0;let d1:=b1.r1;let e1:=b1.r2;let g1:=b1.r3;let h1:=b1.r4;let k1:=b1.r5;let l1:=b1.r6;let o1:=b1.r7;let q1:=b1.pc;let u1:=b1.st;let v1:=b1.prio;let w1:=b1.node;let x1:=b1.space;let y1:=b1.helper;let z1:=b1.loc;let a2:=b1.word;let b2:=b1.badge;let c2:=b1.owes;let d2:=b1.core;let e2:=b1.dom;let g2:=!tkB W (Int.toNat x0);let h2:Int:=x0+1;w0≤a0∧(∀k2:Nat,k2<w0→(!tkB W k2)=false)→(y0=true→(z0∧x0<b0)∧True∧tn 19 True∧((a1∧((((((((((((((((((((True∧c1=c1)∧d1=d1)∧e1=e1)∧g1=g1)∧h1=h1)∧k1=k1)∧l1=l1)∧o1=o1)∧q1=q1)∧u1=u1)∧v1=v1)∧w1=w1)∧x1=x1)∧y1=y1)∧z1=z1)∧a2=a2)∧b2=b2)∧c2=c2)∧d2=d2)∧e2=e2)∧(True∧((((((((((True∧W.nRam=W.nRam∧(∀l2:Nat,l2<W.nRam→True∧W.ram l2=W.ram l2))∧c0=c0∧(∀o2:Nat,o2<c0→True∧W.kinds o2=W.kinds o2))∧d0=d0∧(∀q2:Nat,let u2:=W.slots q2;let v2:=u2.kind;let w2:=u2.base;let x2:=u2.len;let y2:=u2.mark;let z2:=u2.rights;let a3:=u2.badge;let b3:=u2.from_;q2<d0→((((((True∧v2=v2)∧w2=w2)∧x2=x2)∧y2=y2)∧z2=z2)∧a3=a3)∧b3=b3))∧a0=a0∧(∀c3:Nat,let d3:=W.tasks c3;let e3:=d3.prio;let g3:=d3.node;let h3:=d3.space;let k3:=d3.helper;let l3:=d3.loc;let o3:=d3.word;let q3:=d3.badge;
    let u3:=d3.owes;let v3:=d3.core;let w3:=d3.dom;c3<a0→(((((((((((((((((((True∧d3.r0=d3.r0)∧d3.r1=d3.r1)∧d3.r2=d3.r2)∧d3.r3=d3.r3)∧d3.r4=d3.r4)∧d3.r5=d3.r5)∧d3.r6=d3.r6)∧d3.r7=d3.r7)∧d3.pc=d3.pc)∧d3.st=d3.st)∧e3=e3)∧g3=g3)∧h3=h3)∧k3=k3)∧l3=l3)∧o3=o3)∧q3=q3)∧u3=u3)∧v3=v3)∧w3=w3))∧e0=e0∧(∀x3:Nat,let y3:=W.linesN x3;x3<e0→True∧y3=y3∧(∀z3:Nat,z3<y3→True∧W.lines x3 z3=W.lines x3 z3)))∧W.nBits=W.nBits∧(∀a4:Nat,a4<W.nBits→True∧W.bits a4=W.bits a4))∧g0=g0∧(∀b4:Nat,b4<g0→True∧W.cores b4=W.cores b4))∧h0=h0∧(∀c4:Nat,let d4:=W.readyN c4;c4<h0→True∧d4=d4∧(∀e4:Nat,e4<d4→True∧W.ready c4 e4=W.ready c4 e4)))∧k0=k0∧(∀g4:Nat,let h4:=W.tlbsN g4;g4<k0→True∧h4=h4∧(∀k4:Nat,let l4:=W.tlbs g4 k4;let o4:=l4.sp;let q4:=l4.pg;let u4:=l4.fr;let v4:=l4.wr;k4<h4→(((True∧o4=o4)∧q4=q4)∧u4=u4)∧v4=v4)))∧W.nDoms=W.nDoms∧(∀w4:Nat,w4<W.nDoms→True∧W.doms w4=W.doms w4))∧W.time=W.time)∧True)∧True∧Szd W∧((∀x4:Nat,x4<e0→W.linesN x4≤50)∧(∀y4:Nat,y4<h0→W.readyN y4≤50)∧(∀z4:Nat,z4<k0→W.tlbsN z4≤50))∧z0∧x0<(c0:Int))∧(g2=true→((a1∧e=e∧True)∧True∧z0∧e≠0)∧(e=l0∧x0=q0)∧True)∧(g2=false→w64 h2=h2∧(∃a5:Nat,h2=(a5:Int)∧True∧(a5≤a0∧(∀b5:Nat,b5<a5→(!tkB W b5)=false))∧a0-a5<a0-w0)))∧(y0=false→(l0=0∧q0=(-1))∧True))
set_option maxHeartbeats 1000000 in
theorem ok_badT : FnOK Tryz.prog glN 189 c_badT := ok_of (.cons ok_wAt (.cons ok_tasks1 .nil)) false Tryz.call189 Tryz.func189 (fun ⟨_, W⟩ => [.inv (an_bad W.nTasks (fun i => !tkB W i))]) (V := V_badT) (fun _ => by kernel_rfl) fun ⟨e, W⟩ hp => by
  dsimp only [s_badT] at hp
  dsimp only [V_badT, tn, w64]
  obtain ⟨he, hp⟩ := hp
  simp only [std, stb, eq_self, implies_true, Bool.cond_self]
  have z1 := hp.1.tasks
  have z2 := hp.1.k1
  unfold bE bA
  refine fun _ s hs => ⟨fun h => ?_, fun h => ?_⟩
  · have hlt := lt_of_dec h
    refine ⟨by omega, ⟨hp.1, hp.2, by omega⟩, fun h1 => ?_, fun h1 => ⟨by rw [IntKind.wrap_i64]; omega, exS ⟨⟨by omega, snocF (p := fun i => !tkB W i) hs.2 h1⟩, by omega⟩⟩⟩
    rw [fstE_at (p := fun i => !tkB W i) hs.2 h1 hlt]
    first | exact ⟨he, rfl, rfl⟩ | exact ⟨⟨by omega, he⟩, rfl, rfl⟩
  · have hge := ge_of_dec h
    rw [fstE_none (p := fun i => !tkB W i) fun j hj => hs.2 j (by omega)]
    exact ⟨rfl, rfl⟩
structure X_badL where
  (e : Int) (W : Wd)
def s_badL : Sy.Spec := ⟨X_badL, fun ⟨e, W⟩ => [.sl true 1 W.nLines (fun i _ => .sl true 1 (W.linesN i) (iF (W.lines i))), .v (.int .i64 e), .fn 196 1 (lsv [.pt true 1 (fun _ => wPT W)])], fun _ => [], fun ⟨e, W⟩ => e ≠ 0 ∧ Szd W ∧ smB W, fun ⟨e, W⟩ => .er 35 116 (bE W.nLines (fun i => !lnB W i) e) (bA W.nLines (fun i => !lnB W i) e), fun _ => [],
  fun args mem => match args with | [a0, a1, a2] => (match isFn 196 a2 with | true => some ⟨intD (a1), wPTD (ptF (fnF a2 0) 0)⟩ | false => none) | _ => none⟩
def c_badL : Con := ⟨[], s_badL.g, none⟩
def V_badL : X_badL → Prop := fun ⟨e, W⟩ => let a0:=W.nLines;let b0:=(a0:Int);let c0:=W.nKinds;let d0:=W.nSlots;let e0:=W.nTasks;let g0:=W.nCores;let h0:=W.nReady;let k0:=W.nTlbs;let l0:=bE a0 (fun o0:Nat=>!lnB W o0) e;let q0:=bA a0 (fun u0:Nat=>!lnB W u0) e;b0≤9223372036854775807→0=((0:Nat):Int)∧True∧(0≤a0∧(∀v0:Nat,v0<0→(!lnB W v0)=false))∧(∀w0:Nat,let x0:=(w0:Int);let y0:=decide (x0<b0);let z0:=0≤x0;let a1:=x0=x0;let b1:=Int.toNat x0;let c1:=W.linesN b1;let d1:=!lnB W b1;let e1:Int:=x0+1;w0≤a0∧(∀g1:Nat,g1<w0→(!lnB W g1)=false)→(y0=true→(z0∧x0<b0)∧((a1∧(c1=c1∧(∀h1:Nat,h1<c1→True∧W.lines b1 h1=W.lines b1 h1))∧(True∧((((((((((True∧W.nRam=W.nRam∧(∀k1:Nat,k1<W.nRam→True∧W.ram k1=W.ram k1))∧c0=c0∧(∀l1:Nat,l1<c0→True∧W.kinds l1=W.kinds l1))∧d0=d0∧(∀o1:Nat,let q1:=W.slots o1;let u1:=q1.kind;let v1:=q1.base;let w1:=q1.len;let x1:=q1.mark;let y1:=q1.rights;let z1:=q1.badge;let a2:=q1.from_;o1<d0→((((((True∧u1=u1)∧v1=v1)∧w1=w1)∧x1=x1)∧y1=y1)∧z1=z1)∧a2=a2))∧e0=e0∧(∀b2:Nat,let c2:=W.tasks b2;let d2:=c2.prio;let e2:=c2.node;let g2:=c2.space;let h2:=c2.helper;let k2:=c2.loc;let l2:=c2.word;let o2:=c2.badge;let q2:=c2.owes;let u2:=c2.core;let v2:=c2.dom;b2<e0→(((((((((((((((((((True∧c2.r0=c2.r0)∧c2.r1=c2.r1)∧c2.r2=c2.r2)∧c2.r3=c2.r3)∧c2.r4=c2.r4)∧c2.r5=c2.r5)∧c2.r6=c2.r6)∧c2.r7=c2.r7)∧c2.pc=c2.pc)∧c2.st=c2.st)∧d2=d2)∧e2=e2)∧g2=g2)∧h2=h2)∧k2=k2)∧l2=l2)∧o2=o2)∧q2=q2)∧u2=u2)∧v2=v2))∧a0=a0∧(∀w2:Nat,let x2:=W.linesN w2;w2<a0→True∧x2=x2∧(∀y2:Nat,y2<x2→True∧W.lines w2 y2=W.lines w2 y2)))∧W.nBits=W.nBits∧(∀z2:Nat,z2<W.nBits→True∧
    W.bits z2=W.bits z2))∧g0=g0∧(∀a3:Nat,a3<g0→True∧W.cores a3=W.cores a3))∧h0=h0∧(∀b3:Nat,let c3:=W.readyN b3;b3<h0→True∧c3=c3∧(∀d3:Nat,d3<c3→True∧W.ready b3 d3=W.ready b3 d3)))∧k0=k0∧(∀e3:Nat,let g3:=W.tlbsN e3;e3<k0→True∧g3=g3∧(∀h3:Nat,let k3:=W.tlbs e3 h3;let l3:=k3.sp;let o3:=k3.pg;let q3:=k3.fr;let u3:=k3.wr;h3<g3→(((True∧l3=l3)∧o3=o3)∧q3=q3)∧u3=u3)))∧W.nDoms=W.nDoms∧(∀v3:Nat,v3<W.nDoms→True∧W.doms v3=W.doms v3))∧W.time=W.time)∧True)∧True∧Szd W∧((∀w3:Nat,w3<a0→W.linesN w3≤50)∧(∀x3:Nat,x3<h0→W.readyN x3≤50)∧(∀y3:Nat,y3<k0→W.tlbsN y3≤50))∧z0∧x0<(c0:Int))∧(d1=true→((a1∧e=e∧True)∧True∧z0∧e≠0)∧(e=l0∧x0=q0)∧True)∧(d1=false→w64 e1=e1∧(∃z3:Nat,e1=(z3:Int)∧True∧(z3≤a0∧(∀a4:Nat,a4<z3→(!lnB W a4)=false))∧a0-z3<a0-w0)))∧(y0=false→(l0=0∧q0=(-1))∧True))
set_option maxHeartbeats 1000000 in
theorem ok_badL : FnOK Tryz.prog glN 195 c_badL := ok_of (.cons ok_wAt (.cons ok_lines1 .nil)) false Tryz.call195 Tryz.func195 (fun ⟨_, W⟩ => [.inv (an_bad W.nLines (fun i => !lnB W i))]) (V := V_badL) (fun _ => by kernel_rfl) fun ⟨e, W⟩ hp => by
  dsimp only [s_badL] at hp
  dsimp only [V_badL, tn, w64]
  obtain ⟨he, hp⟩ := hp
  simp only [std, stb, eq_self, implies_true, Bool.cond_self]
  have z1 := hp.1.lines
  have z2 := hp.1.k1
  unfold bE bA
  refine fun _ s hs => ⟨fun h => ?_, fun h => ?_⟩
  · have hlt := lt_of_dec h
    refine ⟨by omega, ⟨hp.1, hp.2, by omega⟩, fun h1 => ?_, fun h1 => ⟨by rw [IntKind.wrap_i64]; omega, exS ⟨⟨by omega, snocF (p := fun i => !lnB W i) hs.2 h1⟩, by omega⟩⟩⟩
    rw [fstE_at (p := fun i => !lnB W i) hs.2 h1 hlt]
    first | exact ⟨he, rfl, rfl⟩ | exact ⟨⟨by omega, he⟩, rfl, rfl⟩
  · have hge := ge_of_dec h
    rw [fstE_none (p := fun i => !lnB W i) fun j hj => hs.2 j (by omega)]
    exact ⟨rfl, rfl⟩
structure X_badR where
  (e : Int) (W : Wd)
def s_badR : Sy.Spec := ⟨X_badR, fun ⟨e, W⟩ => [.sl true 1 W.nReady (fun i _ => .sl true 1 (W.readyN i) (iF (W.ready i))), .v (.int .i64 e), .fn 199 1 (lsv [.pt true 1 (fun _ => .fn 197 1 (lsv [.pt true 1 (fun _ => wPT W)]))])], fun _ => [], fun ⟨e, W⟩ => e ≠ 0 ∧ Szd W ∧ smB W, fun ⟨e, W⟩ => .er 35 116 (bE W.nReady (fun i => !rlB W i) e) (bA W.nReady (fun i => !rlB W i) e), fun _ => [],
  fun args mem => match args with | [a0, a1, a2] => (match isFn 199 a2 with | true => some ⟨intD (a1), wPTD (ptF (fnF (ptF (fnF a2 0) 0) 0) 0)⟩ | false => none) | _ => none⟩
def c_badR : Con := ⟨[], s_badR.g, none⟩
def V_badR : X_badR → Prop := fun ⟨e, W⟩ => let a0:=W.nReady;let b0:=(a0:Int);let c0:=W.nKinds;let d0:=W.nSlots;let e0:=W.nTasks;let g0:=W.nLines;let h0:=W.nCores;let k0:=W.nTlbs;let l0:=bE a0 (fun o0:Nat=>!rlB W o0) e;let q0:=bA a0 (fun u0:Nat=>!rlB W u0) e;b0≤9223372036854775807→0=((0:Nat):Int)∧True∧(0≤a0∧(∀v0:Nat,v0<0→(!rlB W v0)=false))∧(∀w0:Nat,let x0:=(w0:Int);let y0:=decide (x0<b0);let z0:=0≤x0∧x0<b0;let a1:=x0=x0;let b1:=Int.toNat x0;let c1:=W.readyN b1;let d1:=!rlB W b1;let e1:Int:=x0+1;w0≤a0∧(∀g1:Nat,g1<w0→(!rlB W g1)=false)→(y0=true→z0∧((a1∧(c1=c1∧(∀h1:Nat,h1<c1→True∧W.ready b1 h1=W.ready b1 h1))∧tn 3 (((((((((((True∧W.nRam=W.nRam∧(∀k1:Nat,k1<W.nRam→True∧W.ram k1=W.ram k1))∧c0=c0∧(∀l1:Nat,l1<c0→True∧W.kinds l1=W.kinds l1))∧d0=d0∧(∀o1:Nat,let q1:=W.slots o1;let u1:=q1.kind;let v1:=q1.base;let w1:=q1.len;let x1:=q1.mark;let y1:=q1.rights;let z1:=q1.badge;let a2:=q1.from_;o1<d0→((((((True∧u1=u1)∧v1=v1)∧w1=w1)∧x1=x1)∧y1=y1)∧z1=z1)∧a2=a2))∧e0=e0∧(∀b2:Nat,let c2:=W.tasks b2;let d2:=c2.prio;let e2:=c2.node;let g2:=c2.space;let h2:=c2.helper;let k2:=c2.loc;let l2:=c2.word;let o2:=c2.badge;let q2:=c2.owes;let u2:=c2.core;let v2:=c2.dom;b2<e0→(((((((((((((((((((True∧c2.r0=c2.r0)∧c2.r1=c2.r1)∧c2.r2=c2.r2)∧c2.r3=c2.r3)∧c2.r4=c2.r4)∧c2.r5=c2.r5)∧c2.r6=c2.r6)∧c2.r7=c2.r7)∧c2.pc=c2.pc)∧c2.st=c2.st)∧d2=d2)∧e2=e2)∧g2=g2)∧h2=h2)∧k2=k2)∧l2=l2)∧o2=o2)∧q2=q2)∧u2=u2)∧v2=v2))∧g0=g0∧(∀w2:Nat,let x2:=W.linesN w2;w2<g0→True∧x2=x2∧(∀y2:Nat,y2<x2→True∧W.lines w2 y2=W.lines w2 y2)))∧W.nBits=W.nBits∧(∀z2:Nat,z2<W.nBits→True∧
    W.bits z2=W.bits z2))∧h0=h0∧(∀a3:Nat,a3<h0→True∧W.cores a3=W.cores a3))∧a0=a0∧(∀b3:Nat,let c3:=W.readyN b3;b3<a0→True∧c3=c3∧(∀d3:Nat,d3<c3→True∧W.ready b3 d3=W.ready b3 d3)))∧k0=k0∧(∀e3:Nat,let g3:=W.tlbsN e3;e3<k0→True∧g3=g3∧(∀h3:Nat,let k3:=W.tlbs e3 h3;let l3:=k3.sp;let o3:=k3.pg;let q3:=k3.fr;let u3:=k3.wr;h3<g3→(((True∧l3=l3)∧o3=o3)∧q3=q3)∧u3=u3)))∧W.nDoms=W.nDoms∧(∀v3:Nat,v3<W.nDoms→True∧W.doms v3=W.doms v3))∧W.time=W.time)∧True)∧True∧Szd W∧((∀w3:Nat,w3<g0→W.linesN w3≤50)∧(∀x3:Nat,x3<a0→W.readyN x3≤50)∧(∀y3:Nat,y3<k0→W.tlbsN y3≤50))∧z0)∧(d1=true→((a1∧e=e∧True)∧True∧0≤x0∧e≠0)∧(e=l0∧x0=q0)∧True)∧(d1=false→w64 e1=e1∧(∃z3:Nat,e1=(z3:Int)∧True∧(z3≤a0∧(∀a4:Nat,a4<z3→(!rlB W a4)=false))∧a0-z3<a0-w0)))∧(y0=false→(l0=0∧q0=(-1))∧True))
set_option maxHeartbeats 1000000 in
theorem ok_badR : FnOK Tryz.prog glN 195 c_badR := ok_of (.cons ok_wAt (.cons ok_turns3 .nil)) false Tryz.call195 Tryz.func195 (fun ⟨_, W⟩ => [.inv (an_bad W.nReady (fun i => !rlB W i))]) (V := V_badR) (fun _ => by kernel_rfl) fun ⟨e, W⟩ hp => by
  dsimp only [s_badR] at hp
  dsimp only [V_badR, tn, w64]
  obtain ⟨he, hp⟩ := hp
  simp only [std, stb, eq_self, implies_true, Bool.cond_self]
  have z1 := hp.1.ready
  have z2 := hp.1.c1
  unfold bE bA
  refine fun _ s hs => ⟨fun h => ?_, fun h => ?_⟩
  · have hlt := lt_of_dec h
    refine ⟨by omega, ⟨hp.1, hp.2, by omega⟩, fun h1 => ?_, fun h1 => ⟨by rw [IntKind.wrap_i64]; omega, exS ⟨⟨by omega, snocF (p := fun i => !rlB W i) hs.2 h1⟩, by omega⟩⟩⟩
    rw [fstE_at (p := fun i => !rlB W i) hs.2 h1 hlt]
    first | exact ⟨he, rfl, rfl⟩ | exact ⟨⟨by omega, he⟩, rfl, rfl⟩
  · have hge := ge_of_dec h
    rw [fstE_none (p := fun i => !rlB W i) fun j hj => hs.2 j (by omega)]
    exact ⟨rfl, rfl⟩
structure X_badE where
  (e : Int) (W : Wd)
def s_badE : Sy.Spec := ⟨X_badE, fun ⟨e, W⟩ => [.sl true 1 W.nTlbs (fun i _ => .sl true 4 (W.tlbsN i) (rF fun k => enL (W.tlbs i k))), .v (.int .i64 e), .fn 204 1 (lsv [.pt true 1 (fun _ => wPT W)])], fun _ => [], fun ⟨e, W⟩ => e ≠ 0 ∧ Szd W ∧ smB W ∧ ∀ i, i < W.nRam → isW (W.ram i), fun ⟨e, W⟩ => .er 35 116 (bE W.nTlbs (fun i => !tlB W (W.tlbsN i) (W.tlbs i)) e) (bA W.nTlbs (fun i => !tlB W (W.tlbsN i) (W.tlbs i)) e), fun _ => [],
  fun args mem => match args with | [a0, a1, a2] => (match isFn 204 a2 with | true => some ⟨intD (a1), wPTD (ptF (fnF a2 0) 0)⟩ | false => none) | _ => none⟩
def c_badE : Con := ⟨[], s_badE.g, none⟩
def V_badE : X_badE → Prop := fun ⟨e, W⟩ => let a0:=W.nTlbs;let b0:=(a0:Int);let c0:=W.nRam;let d0:=W.nKinds;let e0:=W.nSlots;let g0:=W.nTasks;let h0:=W.nLines;let k0:=W.nCores;let l0:=W.nReady;let o0:=bE a0 (fun q0:Nat=>!tlB W (W.tlbsN q0) (W.tlbs q0)) e;let u0:=bA a0 (fun v0:Nat=>!tlB W (W.tlbsN v0) (W.tlbs v0)) e;b0≤9223372036854775807→0=((0:Nat):Int)∧True∧(0≤a0∧(∀w0:Nat,w0<0→(!tlB W (W.tlbsN w0) (W.tlbs w0))=false))∧(∀x0:Nat,let y0:=(x0:Int);let z0:=decide (y0<b0);let a1:=y0=y0;let b1:=Int.toNat y0;let c1:=W.tlbsN b1;let d1:=!tlB W c1 (W.tlbs b1);let e1:Int:=y0+1;x0≤a0∧(∀g1:Nat,g1<x0→(!tlB W (W.tlbsN g1) (W.tlbs g1))=false)→(z0=true→(0≤y0∧y0<b0)∧((a1∧(c1=c1∧(∀h1:Nat,let k1:=W.tlbs b1 h1;let l1:=k1.sp;let o1:=k1.pg;let q1:=k1.fr;let u1:=k1.wr;h1<c1→(((True∧l1=l1)∧o1=o1)∧q1=q1)∧u1=u1))∧(True∧((((((((((True∧c0=c0∧(∀v1:Nat,v1<c0→True∧W.ram v1=W.ram v1))∧d0=d0∧(∀w1:Nat,w1<d0→True∧W.kinds w1=W.kinds w1))∧e0=e0∧(∀x1:Nat,let y1:=W.slots x1;let z1:=y1.kind;let a2:=y1.base;let b2:=y1.len;let c2:=y1.mark;let d2:=y1.rights;let e2:=y1.badge;let g2:=y1.from_;x1<e0→((((((True∧z1=z1)∧a2=a2)∧b2=b2)∧c2=c2)∧d2=d2)∧e2=e2)∧g2=g2))∧g0=g0∧(∀h2:Nat,let k2:=W.tasks h2;let l2:=k2.prio;let o2:=k2.node;let q2:=k2.space;let u2:=k2.helper;let v2:=k2.loc;let w2:=k2.word;let x2:=k2.badge;let y2:=k2.owes;let z2:=k2.core;let a3:=k2.dom;h2<g0→(((((((((((((((((((True∧k2.r0=k2.r0)∧k2.r1=k2.r1)∧k2.r2=k2.r2)∧k2.r3=k2.r3)∧k2.r4=k2.r4)∧k2.r5=k2.r5)∧k2.r6=k2.r6)∧k2.r7=k2.r7)∧k2.pc=k2.pc)∧k2.st=k2.st)∧l2=l2)∧o2=o2)∧q2=q2)∧u2=u2)∧v2=v2)∧w2=w2)∧x2=x2)∧y2=y2)∧
    z2=z2)∧a3=a3))∧h0=h0∧(∀b3:Nat,let c3:=W.linesN b3;b3<h0→True∧c3=c3∧(∀d3:Nat,d3<c3→True∧W.lines b3 d3=W.lines b3 d3)))∧W.nBits=W.nBits∧(∀e3:Nat,e3<W.nBits→True∧W.bits e3=W.bits e3))∧k0=k0∧(∀g3:Nat,g3<k0→True∧W.cores g3=W.cores g3))∧l0=l0∧(∀h3:Nat,let k3:=W.readyN h3;h3<l0→True∧k3=k3∧(∀l3:Nat,l3<k3→True∧W.ready h3 l3=W.ready h3 l3)))∧a0=a0∧(∀o3:Nat,let q3:=W.tlbsN o3;o3<a0→True∧q3=q3∧(∀u3:Nat,let v3:=W.tlbs o3 u3;let w3:=v3.sp;let x3:=v3.pg;let y3:=v3.fr;let z3:=v3.wr;u3<q3→(((True∧w3=w3)∧x3=x3)∧y3=y3)∧z3=z3)))∧W.nDoms=W.nDoms∧(∀a4:Nat,a4<W.nDoms→True∧W.doms a4=W.doms a4))∧W.time=W.time)∧True)∧True∧Szd W∧c1≤1000∧(∀b4:Nat,b4<c0→0≤W.ram b4∧W.ram b4≤65535))∧(d1=true→((a1∧e=e∧True)∧True∧0≤y0∧e≠0)∧(e=o0∧y0=u0)∧True)∧(d1=false→w64 e1=e1∧(∃c4:Nat,e1=(c4:Int)∧True∧(c4≤a0∧(∀d4:Nat,d4<c4→(!tlB W (W.tlbsN d4) (W.tlbs d4))=false))∧a0-c4<a0-x0)))∧(z0=false→(o0=0∧u0=(-1))∧True))
set_option maxHeartbeats 1000000 in
theorem ok_badE : FnOK Tryz.prog glN 203 c_badE := ok_of (.cons ok_wAt (.cons ok_maps2 .nil)) false Tryz.call203 Tryz.func203 (fun ⟨_, W⟩ => [.inv (an_bad W.nTlbs (fun i => !tlB W (W.tlbsN i) (W.tlbs i)))]) (V := V_badE) (fun _ => by kernel_rfl) fun ⟨e, W⟩ hp => by
  dsimp only [s_badE] at hp
  dsimp only [V_badE, tn, w64]
  obtain ⟨he, hp⟩ := hp
  simp only [std, stb, eq_self, implies_true, Bool.cond_self]
  have z1 := hp.1.tlbs
  have z2 := hp.1.c1
  unfold bE bA
  refine fun _ s hs => ⟨fun h => ?_, fun h => ?_⟩
  · have hlt := lt_of_dec h
    refine ⟨by omega, ⟨hp.1, by have := hp.2.1.2.2 s hlt; omega, hp.2.2⟩, fun h1 => ?_, fun h1 => ⟨by rw [IntKind.wrap_i64]; omega, exS ⟨⟨by omega, snocF (p := fun i => !tlB W (W.tlbsN i) (W.tlbs i)) hs.2 h1⟩, by omega⟩⟩⟩
    rw [fstE_at (p := fun i => !tlB W (W.tlbsN i) (W.tlbs i)) hs.2 h1 hlt]
    first | exact ⟨he, rfl, rfl⟩ | exact ⟨⟨by omega, he⟩, rfl, rfl⟩
  · have hge := ge_of_dec h
    rw [fstE_none (p := fun i => !tlB W (W.tlbsN i) (W.tlbs i)) fun j hj => hs.2 j (by omega)]
    exact ⟨rfl, rfl⟩
end Go.Proofs.YtdjilaofmdhikaaGreatDoor
set_option linter.unusedVariables false
set_option linter.unusedSimpArgs false
set_option maxRecDepth 100000
namespace Go.Proofs.YtdjilaofmdhikaaGreatDoor
open Go.RowKit Go.Sy
theorem fstE_seq {n : Nat} {p : Nat → Bool} {e : Int} {r : Int × Int} (he : e ≠ 0) : ((fstE n p e (0, -1)).1 = 0 → fstE n p e r = r) ∧ ((fstE n p e (0, -1)).1 ≠ 0 → fstE n p e r = fstE n p e (0, -1)) := by
  unfold fstE
  cases Nat.blt (fstB n p) n
  · exact ⟨fun _ => rfl, fun h => absurd rfl h⟩
  · exact ⟨fun h => absurd h he, fun _ => rfl⟩
theorem seqE {n : Nat} {p : Nat → Bool} {e : Int} {r : Int × Int} (he : e ≠ 0) (h : (bE n p e != 0) = true) : bE n p e = (fstE n p e r).1 ∧ bA n p e = (fstE n p e r).2 := by
  rw [(fstE_seq he).2 (by simpa [bE] using h)]; exact ⟨rfl, rfl⟩
theorem seqE0 {n : Nat} {p : Nat → Bool} {e : Int} {r : Int × Int} (he : e ≠ 0) (h : (bE n p e != 0) = false) : fstE n p e r = r := (fstE_seq he).1 (by simpa [bE] using h)
def w1E (W : Wd) : Int := (wm1 W (0, -1)).1
def w1A (W : Wd) : Int := (wm1 W (0, -1)).2
def w2E (W : Wd) : Int := (wm2 W (0, -1)).1
def w2A (W : Wd) : Int := (wm2 W (0, -1)).2
def w3E (W : Wd) : Int := (wm3 W (0, -1)).1
def w3A (W : Wd) : Int := (wm3 W (0, -1)).2
def w4E (W : Wd) : Int := (wm4 W (0, -1)).1
def w4A (W : Wd) : Int := (wm4 W (0, -1)).2
def w5E (W : Wd) : Int := (wm5 W (0, -1)).1
def w5A (W : Wd) : Int := (wm5 W (0, -1)).2
def w6E (W : Wd) : Int := (wm6 W (0, -1)).1
def w6A (W : Wd) : Int := (wm6 W (0, -1)).2
def w7E (W : Wd) : Int := (wm7 W (0, -1)).1
def w7A (W : Wd) : Int := (wm7 W (0, -1)).2
structure X_vWords where
  (W : Wd)
def s_vWords : Sy.Spec := ⟨X_vWords, fun ⟨W⟩ => [wPT W], fun _ => [], fun ⟨W⟩ => Sm W, fun ⟨W⟩ => .er 35 116 (w1E W) (w1A W), fun _ => [],
  fun args mem => match args with | [a0] => some ⟨wPTD a0⟩ | _ => none⟩
def c_vWords : Con := ⟨[], s_vWords.g, none⟩
def V_vWords : X_vWords → Prop := fun ⟨W⟩ => let a0:=W.nRam;let b0:=True∧True;let c0:=bE a0 (fun d0:Nat=>farB (W.ram d0) 65535) 1;let e0:=c0 !=0;let g0:=W.nKinds;let h0:=bE g0 (fun k0:Nat=>farB (W.kinds k0) 8||W.kinds k0==1) 3;let l0:=h0 !=0;let o0:=W.nDoms;(((a0=a0∧(∀q0:Nat,q0<a0→True∧W.ram q0=W.ram q0))∧(1:Int)=1∧b0)∧True∧(1:Int)≠0∧a0≤100000)∧(e0=true→(c0=w1E W∧bA a0 (fun r0:Nat=>farB (W.ram r0) 65535) 1=w1A W)∧True)∧(e0=false→(((g0=g0∧(∀u0:Nat,u0<g0→True∧W.kinds u0=W.kinds u0))∧(3:Int)=3∧b0)∧True∧(3:Int)≠0∧g0≤100000)∧(l0=true→(h0=w1E W∧bA g0 (fun v0:Nat=>farB (W.kinds v0) 8||W.kinds v0==1) 3=w1A W)∧True)∧(l0=false→(((o0=o0∧(∀w0:Nat,w0<o0→True∧W.doms w0=W.doms w0))∧(2:Int)=2∧b0)∧True∧(2:Int)≠0∧o0≤100000)∧(bE o0 (fun x0:Nat=>farB (W.doms x0) 3) 2=w1E W∧bA o0 (fun y0:Nat=>farB (W.doms y0) 3) 2=w1A W)∧True))
theorem ok_vWords : FnOK Tryz.prog glN 139 c_vWords := ok_of (.cons (ok_badW1.or (ok_badW2.or ok_badW3)) .nil) false Tryz.call139 Tryz.func139 (fun _ => []) (V := V_vWords) (fun _ => by kernel_rfl) fun ⟨W⟩ hp => by
  dsimp only [s_vWords] at hp
  dsimp only [V_vWords, tn, w64]
  have b1 := hp.ram
  have b2 := hp.kinds
  have b3 := hp.doms
  simp only [std, stb, eq_self, implies_true, Bool.cond_self]
  unfold w1E w1A wm1
  refine ⟨⟨by decide, by omega⟩, fun h => seqE (by decide) h, fun h => ⟨⟨by decide, by omega⟩, fun h2 => ?_, fun h2 => ⟨⟨by decide, by omega⟩, ?_⟩⟩⟩
  · rw [seqE0 (by decide) h]; exact seqE (by decide) h2
  · rw [seqE0 (by decide) h, seqE0 (by decide) h2]; exact ⟨rfl, rfl⟩
structure X_vKeys where
  (W : Wd)
def s_vKeys : Sy.Spec := ⟨X_vKeys, fun ⟨W⟩ => [wPT W], fun _ => [], fun ⟨W⟩ => Szd W, fun ⟨W⟩ => .er 35 116 (w2E W) (w2A W), fun _ => [],
  fun args mem => match args with | [a0] => some ⟨wPTD a0⟩ | _ => none⟩
def c_vKeys : Con := ⟨[], s_vKeys.g, none⟩
def V_vKeys : X_vKeys → Prop := fun ⟨W⟩ => let a0:=W.nSlots;let b0:=a0=a0∧(∀c0:Nat,let d0:=W.slots c0;let e0:=d0.kind;let g0:=d0.base;let h0:=d0.len;let k0:=d0.mark;let l0:=d0.rights;let o0:=d0.badge;let q0:=d0.from_;c0<a0→((((((True∧e0=e0)∧g0=g0)∧h0=h0)∧k0=k0)∧l0=l0)∧o0=o0)∧q0=q0);let u0:=W.nKinds;let v0:=W.nTasks;let w0:=W.nLines;let x0:=W.nCores;let y0:=W.nReady;True∧((b0∧(8:Int)=8∧tn 2 (((((((((((True∧W.nRam=W.nRam∧(∀z0:Nat,z0<W.nRam→True∧W.ram z0=W.ram z0))∧u0=u0∧(∀a1:Nat,a1<u0→True∧W.kinds a1=W.kinds a1))∧b0)∧v0=v0∧(∀b1:Nat,let c1:=W.tasks b1;let d1:=c1.prio;let e1:=c1.node;let g1:=c1.space;let h1:=c1.helper;let k1:=c1.loc;let l1:=c1.word;let o1:=c1.badge;let q1:=c1.owes;let u1:=c1.core;let v1:=c1.dom;b1<v0→(((((((((((((((((((True∧c1.r0=c1.r0)∧c1.r1=c1.r1)∧c1.r2=c1.r2)∧c1.r3=c1.r3)∧c1.r4=c1.r4)∧c1.r5=c1.r5)∧c1.r6=c1.r6)∧c1.r7=c1.r7)∧c1.pc=c1.pc)∧c1.st=c1.st)∧d1=d1)∧e1=e1)∧g1=g1)∧h1=h1)∧k1=k1)∧l1=l1)∧o1=o1)∧q1=q1)∧u1=u1)∧v1=v1))∧w0=w0∧(∀w1:Nat,let x1:=W.linesN w1;w1<w0→True∧x1=x1∧(∀y1:Nat,y1<x1→True∧W.lines w1 y1=W.lines w1 y1)))∧W.nBits=W.nBits∧(∀z1:Nat,z1<W.nBits→True∧W.bits z1=W.bits z1))∧x0=x0∧(∀a2:Nat,a2<x0→True∧W.cores a2=W.cores a2))∧y0=y0∧(∀b2:Nat,let c2:=W.readyN b2;b2<y0→True∧c2=c2∧(∀d2:Nat,d2<c2→True∧W.ready b2 d2=W.ready b2 d2)))∧W.nTlbs=W.nTlbs∧(∀e2:Nat,let g2:=W.tlbsN e2;e2<W.nTlbs→True∧g2=g2∧(∀h2:Nat,let k2:=W.tlbs e2 h2;let l2:=k2.sp;let o2:=k2.pg;let q2:=k2.fr;let u2:=k2.wr;h2<g2→(((True∧l2=l2)∧o2=o2)∧q2=q2)∧u2=u2)))∧W.nDoms=W.nDoms∧(∀v2:Nat,v2<W.nDoms→True∧W.doms v2=W.doms v2))∧W.time=W.time)∧
    True)∧True∧(8:Int)≠0∧Szd W)∧(bE a0 (fun w2:Nat=>!slB W w2) 8=w2E W∧bA a0 (fun x2:Nat=>!slB W x2) 8=w2A W)∧True
theorem ok_vKeys : FnOK Tryz.prog glN 140 c_vKeys := ok_of (.cons ok_badK .nil) false Tryz.call140 Tryz.func140 (fun _ => []) (V := V_vKeys) (fun _ => by kernel_rfl) fun ⟨W⟩ hp => by
  dsimp only [s_vKeys] at hp
  dsimp only [V_vKeys, tn, w64]
  simp only [std, stb, eq_self, implies_true, Bool.cond_self]
  exact ⟨⟨by decide, hp⟩, rfl, rfl⟩
structure X_vTasks where
  (W : Wd)
def s_vTasks : Sy.Spec := ⟨X_vTasks, fun ⟨W⟩ => [wPT W], fun _ => [], fun ⟨W⟩ => Szd W ∧ smB W, fun ⟨W⟩ => .er 35 116 (w4E W) (w4A W), fun _ => [],
  fun args mem => match args with | [a0] => some ⟨wPTD a0⟩ | _ => none⟩
def c_vTasks : Con := ⟨[], s_vTasks.g, none⟩
def V_vTasks : X_vTasks → Prop := fun ⟨W⟩ => let a0:=W.nTasks;let b0:=a0=a0∧(∀c0:Nat,let d0:=W.tasks c0;let e0:=d0.prio;let g0:=d0.node;let h0:=d0.space;let k0:=d0.helper;let l0:=d0.loc;let o0:=d0.word;let q0:=d0.badge;let u0:=d0.owes;let v0:=d0.core;let w0:=d0.dom;c0<a0→(((((((((((((((((((True∧d0.r0=d0.r0)∧d0.r1=d0.r1)∧d0.r2=d0.r2)∧d0.r3=d0.r3)∧d0.r4=d0.r4)∧d0.r5=d0.r5)∧d0.r6=d0.r6)∧d0.r7=d0.r7)∧d0.pc=d0.pc)∧d0.st=d0.st)∧e0=e0)∧g0=g0)∧h0=h0)∧k0=k0)∧l0=l0)∧o0=o0)∧q0=q0)∧u0=u0)∧v0=v0)∧w0=w0);let x0:=W.nKinds;let y0:=W.nSlots;let z0:=W.nLines;let a1:=W.nCores;let b1:=W.nReady;let c1:=W.nTlbs;True∧((b0∧(8:Int)=8∧tn 2 (((((((((((True∧W.nRam=W.nRam∧(∀d1:Nat,d1<W.nRam→True∧W.ram d1=W.ram d1))∧x0=x0∧(∀e1:Nat,e1<x0→True∧W.kinds e1=W.kinds e1))∧y0=y0∧(∀g1:Nat,let h1:=W.slots g1;let k1:=h1.kind;let l1:=h1.base;let o1:=h1.len;let q1:=h1.mark;let u1:=h1.rights;let v1:=h1.badge;let w1:=h1.from_;g1<y0→((((((True∧k1=k1)∧l1=l1)∧o1=o1)∧q1=q1)∧u1=u1)∧v1=v1)∧w1=w1))∧b0)∧z0=z0∧(∀x1:Nat,let y1:=W.linesN x1;x1<z0→True∧y1=y1∧(∀z1:Nat,z1<y1→True∧W.lines x1 z1=W.lines x1 z1)))∧W.nBits=W.nBits∧(∀a2:Nat,a2<W.nBits→True∧W.bits a2=W.bits a2))∧a1=a1∧(∀b2:Nat,b2<a1→True∧W.cores b2=W.cores b2))∧b1=b1∧(∀c2:Nat,let d2:=W.readyN c2;c2<b1→True∧d2=d2∧(∀e2:Nat,e2<d2→True∧W.ready c2 e2=W.ready c2 e2)))∧c1=c1∧(∀g2:Nat,let h2:=W.tlbsN g2;g2<c1→True∧h2=h2∧(∀k2:Nat,let l2:=W.tlbs g2 k2;let o2:=l2.sp;let q2:=l2.pg;let u2:=l2.fr;let v2:=l2.wr;k2<h2→(((True∧o2=o2)∧q2=q2)∧u2=u2)∧v2=v2)))∧W.nDoms=W.nDoms∧(∀w2:Nat,w2<W.nDoms→True∧W.doms w2=W.doms w2))∧W.time=W.time)∧
    True)∧True∧(8:Int)≠0∧Szd W∧(∀x2:Nat,x2<z0→W.linesN x2≤50)∧(∀y2:Nat,y2<b1→W.readyN y2≤50)∧(∀z2:Nat,z2<c1→W.tlbsN z2≤50))∧(bE a0 (fun a3:Nat=>!tkB W a3) 8=w4E W∧bA a0 (fun b3:Nat=>!tkB W b3) 8=w4A W)∧True
theorem ok_vTasks : FnOK Tryz.prog glN 142 c_vTasks := ok_of (.cons ok_badT .nil) false Tryz.call142 Tryz.func142 (fun _ => []) (V := V_vTasks) (fun _ => by kernel_rfl) fun ⟨W⟩ hp => by
  dsimp only [s_vTasks] at hp
  dsimp only [V_vTasks, tn, w64]
  simp only [std, stb, eq_self, implies_true, Bool.cond_self]
  unfold w4E w4A wm4 bE bA
  rw [hp.1.tasks]
  exact ⟨⟨by decide, hp⟩, rfl, rfl⟩
structure X_vLines where
  (W : Wd)
def s_vLines : Sy.Spec := ⟨X_vLines, fun ⟨W⟩ => [wPT W], fun _ => [], fun ⟨W⟩ => Szd W ∧ smB W, fun ⟨W⟩ => .er 35 116 (w5E W) (w5A W), fun _ => [],
  fun args mem => match args with | [a0] => some ⟨wPTD a0⟩ | _ => none⟩
def c_vLines : Con := ⟨[], s_vLines.g, none⟩
def V_vLines : X_vLines → Prop := fun ⟨W⟩ => let a0:=W.nLines;let b0:=a0=a0∧(∀c0:Nat,let d0:=W.linesN c0;c0<a0→True∧d0=d0∧(∀e0:Nat,e0<d0→True∧W.lines c0 e0=W.lines c0 e0));let g0:=W.nKinds;let h0:=W.nSlots;let k0:=W.nTasks;let l0:=W.nCores;let o0:=W.nReady;let q0:=W.nTlbs;True∧((b0∧(8:Int)=8∧tn 2 (((((((((((True∧W.nRam=W.nRam∧(∀u0:Nat,u0<W.nRam→True∧W.ram u0=W.ram u0))∧g0=g0∧(∀v0:Nat,v0<g0→True∧W.kinds v0=W.kinds v0))∧h0=h0∧(∀w0:Nat,let x0:=W.slots w0;let y0:=x0.kind;let z0:=x0.base;let a1:=x0.len;let b1:=x0.mark;let c1:=x0.rights;let d1:=x0.badge;let e1:=x0.from_;w0<h0→((((((True∧y0=y0)∧z0=z0)∧a1=a1)∧b1=b1)∧c1=c1)∧d1=d1)∧e1=e1))∧k0=k0∧(∀g1:Nat,let h1:=W.tasks g1;let k1:=h1.prio;let l1:=h1.node;let o1:=h1.space;let q1:=h1.helper;let u1:=h1.loc;let v1:=h1.word;let w1:=h1.badge;let x1:=h1.owes;let y1:=h1.core;let z1:=h1.dom;g1<k0→(((((((((((((((((((True∧h1.r0=h1.r0)∧h1.r1=h1.r1)∧h1.r2=h1.r2)∧h1.r3=h1.r3)∧h1.r4=h1.r4)∧h1.r5=h1.r5)∧h1.r6=h1.r6)∧h1.r7=h1.r7)∧h1.pc=h1.pc)∧h1.st=h1.st)∧k1=k1)∧l1=l1)∧o1=o1)∧q1=q1)∧u1=u1)∧v1=v1)∧w1=w1)∧x1=x1)∧y1=y1)∧z1=z1))∧b0)∧W.nBits=W.nBits∧(∀a2:Nat,a2<W.nBits→True∧W.bits a2=W.bits a2))∧l0=l0∧(∀b2:Nat,b2<l0→True∧W.cores b2=W.cores b2))∧o0=o0∧(∀c2:Nat,let d2:=W.readyN c2;c2<o0→True∧d2=d2∧(∀e2:Nat,e2<d2→True∧W.ready c2 e2=W.ready c2 e2)))∧q0=q0∧(∀g2:Nat,let h2:=W.tlbsN g2;g2<q0→True∧h2=h2∧(∀k2:Nat,let l2:=W.tlbs g2 k2;let o2:=l2.sp;let q2:=l2.pg;let u2:=l2.fr;let v2:=l2.wr;k2<h2→(((True∧o2=o2)∧q2=q2)∧u2=u2)∧v2=v2)))∧W.nDoms=W.nDoms∧(∀w2:Nat,w2<W.nDoms→True∧W.doms w2=W.doms w2))∧W.time=W.time)∧
    True)∧True∧(8:Int)≠0∧Szd W∧(∀x2:Nat,x2<a0→W.linesN x2≤50)∧(∀y2:Nat,y2<o0→W.readyN y2≤50)∧(∀z2:Nat,z2<q0→W.tlbsN z2≤50))∧(bE a0 (fun a3:Nat=>!lnB W a3) 8=w5E W∧bA a0 (fun b3:Nat=>!lnB W b3) 8=w5A W)∧True
theorem ok_vLines : FnOK Tryz.prog glN 143 c_vLines := ok_of (.cons (ok_badL.or ok_badR) .nil) false Tryz.call143 Tryz.func143 (fun _ => []) (V := V_vLines) (fun _ => by kernel_rfl) fun ⟨W⟩ hp => by
  dsimp only [s_vLines] at hp
  dsimp only [V_vLines, tn, w64]
  simp only [std, stb, eq_self, implies_true, Bool.cond_self]
  refine ⟨⟨by decide, hp⟩, ?_⟩
  unfold w5E w5A wm5 bE bA
  rw [hp.1.lines]
  exact ⟨rfl, rfl⟩
structure X_vTurns where
  (W : Wd)
def s_vTurns : Sy.Spec := ⟨X_vTurns, fun ⟨W⟩ => [wPT W], fun _ => [], fun ⟨W⟩ => Szd W ∧ smB W, fun ⟨W⟩ => .er 35 116 (w6E W) (w6A W), fun _ => [],
  fun args mem => match args with | [a0] => some ⟨wPTD a0⟩ | _ => none⟩
def c_vTurns : Con := ⟨[], s_vTurns.g, none⟩
def V_vTurns : X_vTurns → Prop := fun ⟨W⟩ => let a0:=W.nCores;let b0:=a0=a0∧(∀c0:Nat,c0<a0→True∧W.cores c0=W.cores c0);let d0:=W.nKinds;let e0:=W.nSlots;let g0:=W.nTasks;let h0:=W.nLines;let k0:=W.nReady;let l0:=k0=k0∧(∀o0:Nat,let q0:=W.readyN o0;o0<k0→True∧q0=q0∧(∀u0:Nat,u0<q0→True∧W.ready o0 u0=W.ready o0 u0));let v0:=W.nTlbs;
    let w0:=(8:Int)=8∧tn 4 (((((((((((True∧W.nRam=W.nRam∧(∀x0:Nat,x0<W.nRam→True∧W.ram x0=W.ram x0))∧d0=d0∧(∀y0:Nat,y0<d0→True∧W.kinds y0=W.kinds y0))∧e0=e0∧(∀z0:Nat,let a1:=W.slots z0;let b1:=a1.kind;let c1:=a1.base;let d1:=a1.len;let e1:=a1.mark;let g1:=a1.rights;let h1:=a1.badge;let k1:=a1.from_;z0<e0→((((((True∧b1=b1)∧c1=c1)∧d1=d1)∧e1=e1)∧g1=g1)∧h1=h1)∧k1=k1))∧g0=g0∧(∀l1:Nat,let o1:=W.tasks l1;let q1:=o1.prio;let u1:=o1.node;let v1:=o1.space;let w1:=o1.helper;let x1:=o1.loc;let y1:=o1.word;let z1:=o1.badge;let a2:=o1.owes;let b2:=o1.core;let c2:=o1.dom;l1<g0→(((((((((((((((((((True∧o1.r0=o1.r0)∧o1.r1=o1.r1)∧o1.r2=o1.r2)∧o1.r3=o1.r3)∧o1.r4=o1.r4)∧o1.r5=o1.r5)∧o1.r6=o1.r6)∧o1.r7=o1.r7)∧o1.pc=o1.pc)∧o1.st=o1.st)∧q1=q1)∧u1=u1)∧v1=v1)∧w1=w1)∧x1=x1)∧y1=y1)∧z1=z1)∧a2=a2)∧b2=b2)∧c2=c2))∧h0=h0∧(∀d2:Nat,let e2:=W.linesN d2;d2<h0→True∧e2=e2∧(∀g2:Nat,g2<e2→True∧W.lines d2 g2=W.lines d2 g2)))∧W.nBits=W.nBits∧(∀h2:Nat,h2<W.nBits→True∧W.bits h2=W.bits h2))∧b0)∧l0)∧v0=v0∧(∀k2:Nat,let l2:=W.tlbsN k2;k2<v0→True∧l2=l2∧(∀o2:Nat,let q2:=W.tlbs k2 o2;let u2:=q2.sp;let v2:=q2.pg;let w2:=q2.fr;let x2:=q2.wr;o2<l2→(((True∧u2=u2)∧v2=v2)∧w2=w2)∧x2=x2)))∧W.nDoms=W.nDoms∧(∀y2:Nat,y2<W.nDoms→True∧W.doms y2=W.doms y2))∧W.time=W.time)∧True;let z2:=bE a0 (fun a3:Nat=>!coB W a3) 8;let b3:=z2 !=0;tn 3 (((b0∧w0)∧True∧(8:Int)≠0∧Szd W)∧(b3=true→(z2=w6E W∧bA a0 (fun c3:Nat=>!coB W c3) 8=w6A W)∧True)∧(b3=false→((l0∧w0)∧True∧(8:Int)≠0∧Szd W∧(∀d3:Nat,d3<h0→W.linesN d3≤50)∧(∀e3:Nat,e3<k0→W.readyN e3≤50)∧(∀g3:Nat,
    g3<v0→W.tlbsN g3≤50))∧(bE k0 (fun h3:Nat=>!rlB W h3) 8=w6E W∧bA k0 (fun k3:Nat=>!rlB W k3) 8=w6A W)∧True))
theorem ok_vTurns : FnOK Tryz.prog glN 144 c_vTurns := ok_of (.cons ok_badC (.cons (ok_badR.or ok_badL) .nil)) false Tryz.call144 Tryz.func144 (fun _ => []) (V := V_vTurns) (fun _ => by kernel_rfl) fun ⟨W⟩ hp => by
  dsimp only [s_vTurns] at hp
  dsimp only [V_vTurns, tn, w64]
  simp only [std, stb, eq_self, implies_true, Bool.cond_self]
  unfold w6E w6A wm6
  refine ⟨⟨by decide, hp.1⟩, fun h => seqE (by decide) h, fun h => ⟨⟨by decide, hp⟩, ?_⟩⟩
  rw [seqE0 (by decide) h]; exact ⟨rfl, rfl⟩
structure X_vMaps where
  (W : Wd)
def s_vMaps : Sy.Spec := ⟨X_vMaps, fun ⟨W⟩ => [wPT W], fun _ => [], fun ⟨W⟩ => Szd W ∧ smB W ∧ ∀ i, i < W.nRam → isW (W.ram i), fun ⟨W⟩ => .er 35 116 (w7E W) (w7A W), fun _ => [],
  fun args mem => match args with | [a0] => some ⟨wPTD a0⟩ | _ => none⟩
def c_vMaps : Con := ⟨[], s_vMaps.g, none⟩
def V_vMaps : X_vMaps → Prop := fun ⟨W⟩ => let a0:=W.nRam;let b0:=a0=a0∧(∀c0:Nat,c0<a0→True∧W.ram c0=W.ram c0);let d0:=W.nKinds;let e0:=W.nSlots;let g0:=W.nTasks;let h0:=W.nLines;let k0:=W.nCores;let l0:=W.nReady;let o0:=W.nTlbs;let q0:=o0=o0∧(∀u0:Nat,let v0:=W.tlbsN u0;u0<o0→True∧v0=v0∧(∀w0:Nat,let x0:=W.tlbs u0 w0;let y0:=x0.sp;let z0:=x0.pg;let a1:=x0.fr;let b1:=x0.wr;w0<v0→(((True∧y0=y0)∧z0=z0)∧a1=a1)∧b1=b1));
    let c1:=(9:Int)=9∧tn 2 (((((((((((True∧b0)∧d0=d0∧(∀d1:Nat,d1<d0→True∧W.kinds d1=W.kinds d1))∧e0=e0∧(∀e1:Nat,let g1:=W.slots e1;let h1:=g1.kind;let k1:=g1.base;let l1:=g1.len;let o1:=g1.mark;let q1:=g1.rights;let u1:=g1.badge;let v1:=g1.from_;e1<e0→((((((True∧h1=h1)∧k1=k1)∧l1=l1)∧o1=o1)∧q1=q1)∧u1=u1)∧v1=v1))∧g0=g0∧(∀w1:Nat,let x1:=W.tasks w1;let y1:=x1.prio;let z1:=x1.node;let a2:=x1.space;let b2:=x1.helper;let c2:=x1.loc;let d2:=x1.word;let e2:=x1.badge;let g2:=x1.owes;let h2:=x1.core;let k2:=x1.dom;w1<g0→(((((((((((((((((((True∧x1.r0=x1.r0)∧x1.r1=x1.r1)∧x1.r2=x1.r2)∧x1.r3=x1.r3)∧x1.r4=x1.r4)∧x1.r5=x1.r5)∧x1.r6=x1.r6)∧x1.r7=x1.r7)∧x1.pc=x1.pc)∧x1.st=x1.st)∧y1=y1)∧z1=z1)∧a2=a2)∧b2=b2)∧c2=c2)∧d2=d2)∧e2=e2)∧g2=g2)∧h2=h2)∧k2=k2))∧h0=h0∧(∀l2:Nat,let o2:=W.linesN l2;l2<h0→True∧o2=o2∧(∀q2:Nat,q2<o2→True∧W.lines l2 q2=W.lines l2 q2)))∧W.nBits=W.nBits∧(∀u2:Nat,u2<W.nBits→True∧W.bits u2=W.bits u2))∧k0=k0∧(∀v2:Nat,v2<k0→True∧W.cores v2=W.cores v2))∧l0=l0∧(∀w2:Nat,let x2:=W.readyN w2;w2<l0→True∧x2=x2∧(∀y2:Nat,y2<x2→True∧W.ready w2 y2=W.ready w2 y2)))∧q0)∧W.nDoms=W.nDoms∧(∀z2:Nat,z2<W.nDoms→True∧W.doms z2=W.doms z2))∧W.time=W.time)∧True;let a3:=bE a0 (fun b3:Nat=>!enB W b3) 9;let c3:=a3 !=0;True∧((b0∧c1)∧True∧(9:Int)≠0∧Szd W∧(∀d3:Nat,d3<a0→0≤W.ram d3∧W.ram d3≤65535))∧(c3=true→(a3=w7E W∧bA a0 (fun e3:Nat=>!enB W e3) 9=w7A W)∧True)∧(c3=false→((q0∧c1)∧True∧(9:Int)≠0∧Szd W∧((∀g3:Nat,g3<h0→W.linesN g3≤50)∧(∀h3:Nat,h3<l0→W.readyN h3≤50)∧(∀k3:Nat,k3<o0→W.tlbsN k3≤50))∧(∀l3:Nat,l3<a0→
    0≤W.ram l3∧W.ram l3≤65535))∧(bE o0 (fun o3:Nat=>!tlB W (W.tlbsN o3) (W.tlbs o3)) 9=w7E W∧bA o0 (fun q3:Nat=>!tlB W (W.tlbsN q3) (W.tlbs q3)) 9=w7A W)∧True)
theorem ok_vMaps : FnOK Tryz.prog glN 145 c_vMaps := ok_of (.cons ok_badM (.cons ok_badE .nil)) false Tryz.call145 Tryz.func145 (fun _ => []) (V := V_vMaps) (fun _ => by kernel_rfl) fun ⟨W⟩ hp => by
  dsimp only [s_vMaps] at hp
  dsimp only [V_vMaps, tn, w64]
  simp only [std, stb, eq_self, implies_true, Bool.cond_self]
  refine ⟨⟨by decide, hp.1, hp.2.2⟩, fun h => ?_, fun h => ⟨⟨by decide, hp⟩, ?_⟩⟩
  · exact seqE (by decide) h
  · unfold w7E w7A wm7
    rw [seqE0 (by decide) h, ← hp.1.tlbs]; exact ⟨rfl, rfl⟩
end Go.Proofs.YtdjilaofmdhikaaGreatDoor
set_option linter.unusedVariables false
set_option linter.unusedSimpArgs false
set_option maxRecDepth 100000
namespace Go.Proofs.YtdjilaofmdhikaaGreatDoor
open Go.RowKit Go.Sy
def usedK (W : Wd) : Nat → Nat → Bool
  | 0, _ => false
  | k + 1, f => bif clayAt (W.slots k) f then decide ((f : Int) < (W.slots k).base + (W.slots k).mark) else usedK W k f
def clayN (W : Wd) (k f : Nat) : Nat := cntB k fun q => clayAt (W.slots q) f
def keysN (W : Wd) (k f : Nat) : Nat := cntB k fun q => keyAt (W.slots q) f
def inRg (b : Int) (j : Nat) (f : Nat) : Bool := decide (b ≤ f) && decide ((f : Int) < b + j)
theorem inRg0 (b : Int) (f : Nat) : inRg b 0 f = false := by
  unfold inRg
  rcases Int.lt_or_le (f : Int) b with h | h
  · rw [decide_eq_false (show ¬ b ≤ (f : Int) by omega)]; rfl
  · rw [decide_eq_false (show ¬ (f : Int) < b + ((0 : Nat) : Int) by omega), Bool.and_false]
theorem inRg_at (b : Int) (j f : Nat) (h : (f : Int) = b + j) : inRg b j f = false ∧ inRg b (j + 1) f = true := by
  unfold inRg
  rw [decide_eq_false (show ¬ (f : Int) < b + (j : Int) by omega), decide_eq_true (show b ≤ (f : Int) by omega), decide_eq_true (show (f : Int) < b + ((j + 1 : Nat) : Int) by omega)]
  exact ⟨rfl, rfl⟩
theorem inRg_ne (b : Int) (j f : Nat) (h : (f : Int) ≠ b + j) : inRg b (j + 1) f = inRg b j f := by
  unfold inRg
  rw [show decide ((f : Int) < b + ((j + 1 : Nat) : Int)) = decide ((f : Int) < b + (j : Int)) from decide_eq_decide.2 (by omega)]
theorem cl_none {W : Wd} {f : Nat} : ∀ {n : Nat}, clayN W n f = 0 → (anyB n fun i => freeAt (W.slots i) f) = false
  | 0, _ => rfl
  | n + 1, h => by
    have h : clayN W n f + (bif clayAt (W.slots n) f then 1 else 0) = 0 := h
    cases hc : clayAt (W.slots n) f with
    | true => rw [hc] at h; simp at h
    | false =>
      rw [hc] at h
      rw [anyB_succ, cl_none (n := n) (by simpa using h)]
      unfold freeAt; rw [hc]; rfl
theorem cl_one {W : Wd} {f : Nat} : ∀ {n : Nat}, clayN W n f = 1 → (anyB n fun i => freeAt (W.slots i) f) = !usedK W n f
  | 0, h => by cases h
  | n + 1, h => by
    have h : clayN W n f + (bif clayAt (W.slots n) f then 1 else 0) = 1 := h
    rw [anyB_succ]
    show _ = !(bif clayAt (W.slots n) f then decide ((f : Int) < (W.slots n).base + (W.slots n).mark) else usedK W n f)
    cases hc : clayAt (W.slots n) f with
    | true =>
      rw [hc] at h
      rw [cl_none (n := n) (by simpa using h)]
      unfold freeAt
      rw [hc]
      simp only [Bool.false_or, Bool.true_and, cond_true]
      rw [← decide_not]
      exact decide_eq_decide.2 (by omega)
    | false =>
      rw [hc] at h
      rw [cl_one (n := n) (by simpa using h)]
      unfold freeAt; rw [hc]
      simp
theorem fr_not {W : Wd} {f : Nat} : (decide (1 < ((clayN W W.nSlots f : Nat) : Int)) || W.kinds f != 0 && (((keysN W W.nSlots f : Nat) : Int) == 0 || ((clayN W W.nSlots f : Nat) : Int) == 1 && !usedK W W.nSlots f)) = !frB W f := by
  rw [castE0, castE1]
  show _ = !(decide (clayN W W.nSlots f ≤ 1) && (W.kinds f == 0 || (decide (0 < keysN W W.nSlots f) && !anyB W.nSlots fun i => freeAt (W.slots i) f)))
  rw [show decide (0 < keysN W W.nSlots f) = !(keysN W W.nSlots f == 0) by
    cases hk : keysN W W.nSlots f == 0 with
    | true => rw [eq_of_beq hk]; rfl
    | false =>
      have hk2 : keysN W W.nSlots f ≠ 0 := by simpa using hk
      rw [decide_eq_true (Nat.pos_of_ne_zero hk2)]; rfl]
  have hc : clayN W W.nSlots f = 0 ∨ clayN W W.nSlots f = 1 ∨ 2 ≤ clayN W W.nSlots f := by omega
  rcases hc with hc | hc | hc
  · rw [cl_none hc, hc]; simp only [bne]
    cases W.kinds f == 0 <;> cases keysN W W.nSlots f == 0 <;> rfl
  · rw [cl_one hc, hc]; simp only [bne]
    cases W.kinds f == 0 <;> cases keysN W W.nSlots f == 0 <;> cases usedK W W.nSlots f <;> rfl
  · rw [decide_eq_true (show (1 : Int) < ((clayN W W.nSlots f : Nat) : Int) by omega), decide_eq_false (show ¬ clayN W W.nSlots f ≤ 1 by omega)]; rfl
def an_fr1 (W : Wd) : Ann where
  σ := Nat
  rt := [(3, 0), (4, 0), (5, 0)]
  sh i := [(3, pt0 0), (4, pt0 2), (5, pt0 4), (36, .v (.int .i64 i))]
  mh i := [(1, .row 1 W.nKinds fun f _ => .v (.int .i64 (clayN W i f : Nat))), (3, .row 1 W.nKinds fun f _ => .v (.bool (usedK W i f))), (5, .row 1 W.nKinds fun f _ => .v (.int .i64 (keysN W i f : Nat)))]
  inv i := i ≤ W.nSlots
  μ i := W.nSlots - i
  init := 0
def an_fr2 (W : Wd) (i : Int) : Ann where
  σ := Nat
  rt := [(3, 0), (4, 0), (5, 0), (7, 0)]
  sh j := [(3, pt0 0), (4, pt0 2), (5, pt0 4), (7, pt0 6), (59, .v (.int .i64 j))]
  mh j := [(1, .row 1 W.nKinds fun f _ => .v (.int .i64 ((clayN W i.toNat f : Nat) + (bif inRg (W.slots i.toNat).base j f then 1 else 0)))), (3, .row 1 W.nKinds fun f _ => .v (.bool (bif inRg (W.slots i.toNat).base j f then decide ((f : Int) < (W.slots i.toNat).base + (W.slots i.toNat).mark) else usedK W i.toNat f)))]
  inv j := (j : Int) ≤ (W.slots i.toNat).len
  μ j := (W.slots i.toNat).len.toNat - j
  init := 0
structure X_vFrames where
  (W : Wd)
def s_vFrames : Sy.Spec := ⟨X_vFrames, fun ⟨W⟩ => [wPT W], fun _ => [], fun ⟨W⟩ => Szd W ∧ ∀ i, i < W.nSlots → slB W i = true, fun ⟨W⟩ => .er 35 116 (w3E W) (w3A W), fun _ => [],
  fun args mem => match args with | [a0] => some ⟨wPTD a0⟩ | _ => none⟩
def c_vFrames : Con := ⟨[], s_vFrames.g, none⟩
def V_vFrames : X_vFrames → Prop := fun ⟨W⟩ => let a0:=W.nKinds;let b0:=(a0:Int);let c0:=b0≤9223372036854775807;let d0:=0≤b0;let e0:=b0≤b0;let g0:=d0∧e0∧((8:Nat):Int)*b0≤140737488355328;let h0:=W.nSlots;let k0:=(h0:Int);let l0:=SV.ptr 0 0 none 0 0=SV.ptr 0 0 none 0 0;let o0:=SV.ptr (0+1+1) 0 none 0 0=SV.ptr 2 0 none 0 0;let q0:=0+1+1+1+1;let r0:=SV.ptr q0 0 none 0 0=SV.ptr 4 0 none 0 0;let u0:=Int.toNat b0;let v0:=u0=u0;let w0:=True∧0=0∧v0;let x0:=u0=a0;let y0:=(u0:Int);let z0:=false=false;let a1:=a0=a0;let b1:=SV.ptr (q0+1+1) 0 none 0 0=SV.ptr 6 0 none 0 0;let c1:=a0≤u0;c0→g0∧tn 2 (c0→(d0∧e0∧((1:Nat):Int)*b0≤140737488355328)∧tn 2 (c0→g0∧tn 2 (k0≤9223372036854775807→l0∧o0∧r0∧0=((0:Nat):Int)∧(w0∧(x0∧(∀d1:Nat,d1<a0→True∧0=((clayN W 0 d1:Nat):Int)))∧w0∧(x0∧(∀e1:Nat,e1<a0→True∧false=usedK W 0 e1))∧w0∧(x0∧(∀g1:Nat,g1<a0→True∧0=((keysN W 0 g1:Nat):Int)))∧True)∧0≤h0∧(∀h1:Nat,let k1:=(h1:Int);let l1:=decide (k1<k0);let o1:=Int.toNat k1;let q1:=W.slots o1;let r1:=q1.kind;let u1:=r1 !=1;let v1:=r1 !=0;let w1:=q1.base;let x1:=0≤w1∧w1<y0;let y1:=0+Int.toNat w1;let z1:Int:=((keysN W h1 y1:Nat):Int)+1;let a2:Int:=k1+1;let b2:=w64 a2=a2;let c2:=q1.mark;let d2:Int:=w1+c2;let e2:=q1.len;let g2:=q1.rights;let h2:=q1.badge;let k2:=q1.from_;let l2:=w0∧(a1∧(∀o2:Nat,let q2:=((keysN W h1 o2:Nat):Int);o2<a0→True∧q2=q2))∧(((((((True∧r1=r1)∧w1=w1)∧e2=e2)∧c2=c2)∧g2=g2)∧h2=h2)∧k2=k2)∧True;let r2:=Int.toNat e2;h1≤h0→(l1=true→(0≤k1∧k1<k0)∧True∧tn 6 True∧(u1=true→(v1=true→x1∧w64 z1=z1∧x1∧(∀u2:Nat,z0)∧b2∧(∃v2:Nat,l0∧o0∧r0∧a2=(v2:Int)∧(w0∧(a1∧(∀w2:Nat,
    w2<a0→True∧((clayN W h1 w2:Nat):Int)=((clayN W v2 w2:Nat):Int)))∧w0∧(a1∧(∀x2:Nat,x2<a0→True∧usedK W h1 x2=usedK W v2 x2))∧w0∧(a1∧(∀y2:Nat,y2<a0→True∧cond (Nat.beq y2 y1) z1 ((keysN W h1 y2:Nat):Int)=((keysN W v2 y2:Nat):Int)))∧True)∧v2≤h0∧h0-v2<h0-h1))∧(v1=false→b2∧(∃z2:Nat,l0∧o0∧r0∧a2=(z2:Int)∧(w0∧(a1∧(∀a3:Nat,a3<a0→True∧((clayN W h1 a3:Nat):Int)=((clayN W z2 a3:Nat):Int)))∧w0∧(a1∧(∀b3:Nat,b3<a0→True∧usedK W h1 b3=usedK W z2 b3))∧w0∧(a1∧(∀c3:Nat,c3<a0→True∧((keysN W h1 c3:Nat):Int)=((keysN W z2 c3:Nat):Int)))∧True)∧z2≤h0∧h0-z2<h0-h1)))∧(u1=false→l0∧o0∧r0∧b1∧0=((0:Nat):Int)∧(w0∧(a1∧(∀d3:Nat,d3<a0→True∧((clayN W h1 d3:Nat):Int)=((clayN W o1 d3:Nat):Int)+cond (inRg w1 0 d3) 1 0))∧w0∧(a1∧(∀e3:Nat,e3<a0→True∧usedK W h1 e3=cond (inRg w1 0 e3) (decide ((e3:Int)<d2)) (usedK W o1 e3)))∧l2)∧((0:Nat):Int)≤e2∧(∀g3:Nat,let h3:=(g3:Int);let k3:=decide (h3<e2);let l3:Int:=w1+h3;let o3:=w64 l3=l3;let q3:=0≤l3∧l3<y0;let r3:=0+Int.toNat l3;let u3:Int:=((clayN W o1 r3:Nat):Int)+cond (inRg w1 g3 r3) 1 0+1;let v3:Int:=h3+1;h3≤e2→(k3=true→o3∧q3∧w64 u3=u3∧q3∧(∀w3:Nat,z0)∧o3∧q3∧(∀x3:Nat,z0)∧w64 v3=v3∧(∃y3:Nat,l0∧o0∧r0∧b1∧v3=(y3:Int)∧(w0∧(a1∧(∀z3:Nat,let a4:=((clayN W o1 z3:Nat):Int);z3<a0→True∧cond (Nat.beq z3 r3) u3 (a4+cond (inRg w1 g3 z3) 1 0)=a4+cond (inRg w1 y3 z3) 1 0))∧w0∧(a1∧(∀b4:Nat,let c4:=decide ((b4:Int)<d2);b4<a0→True∧cond (Nat.beq b4 r3) (decide (h3<c2)) (cond (inRg w1 g3 b4) c4 (usedK W o1 b4))=cond (inRg w1 y3 b4) c4 (usedK W o1 b4)))∧l2)∧(y3:Int)≤e2∧r2-y3<r2-g3))∧(k3=false→b2∧
    (∃d4:Nat,l0∧o0∧r0∧a2=(d4:Int)∧(w0∧(a1∧(∀e4:Nat,e4<a0→True∧((clayN W o1 e4:Nat):Int)+cond (inRg w1 g3 e4) 1 0=((clayN W d4 e4:Nat):Int)))∧w0∧(a1∧(∀g4:Nat,g4<a0→True∧cond (inRg w1 g3 g4) (decide ((g4:Int)<d2)) (usedK W o1 g4)=usedK W d4 g4))∧w0∧(a1∧(∀h4:Nat,h4<a0→True∧((keysN W h1 h4:Nat):Int)=((keysN W d4 h4:Nat):Int)))∧True)∧d4≤h0∧h0-d4<h0-h1)))))∧(l1=false→(((a1∧(∀k4:Nat,k4<a0→True∧W.kinds k4=W.kinds k4))∧(8:Int)=8∧((tn 2 (v0∧(∀l4:Nat,let o4:=((clayN W h1 (0+l4):Nat):Int);l4<u0→True∧o4=o4))∧True∧v0∧(∀q4:Nat,let r4:=((keysN W h1 (0+q4):Nat):Int);q4<u0→True∧r4=r4))∧True∧v0∧(∀u4:Nat,let v4:=usedK W h1 (0+u4);u4<u0→True∧v4=v4))∧True)∧True∧(8:Int)≠0∧a0≤100000∧c1∧c1∧c1)∧(bE a0 (fun w4:Nat=>let x4:=((clayN W h1 (0+w4):Nat):Int);decide (1<x4)||W.kinds w4 !=0&&(((keysN W h1 (0+w4):Nat):Int)==0||x4==1&&!usedK W h1 (0+w4))) 8=w3E W∧bA a0 (fun y4:Nat=>let z4:=((clayN W h1 (0+y4):Nat):Int);decide (1<z4)||W.kinds y4 !=0&&(((keysN W h1 (0+y4):Nat):Int)==0||z4==1&&!usedK W h1 (0+y4))) 8=w3A W)∧True)))))
set_option maxHeartbeats 2000000 in
theorem ok_vFrames : FnOK Tryz.prog glN 141 c_vFrames := ok_of (.cons ok_badF .nil) false Tryz.call141 Tryz.func141 (fun ⟨W⟩ => [.inv (an_fr1 W), .invF false fun fr => intK (fr 36) (an_fr2 W)]) (V := V_vFrames) (fun _ => by kernel_rfl) fun ⟨W⟩ hp => by
  dsimp only [s_vFrames] at hp
  dsimp only [V_vFrames, tn, w64]
  obtain ⟨hz, hs⟩ := hp
  have z1 := hz.slots
  have z2 := hz.k1
  simp only [std, stb, eq_self, implies_true, Bool.cond_self]
  have wr : ∀ z : Int, -100000 ≤ z → z ≤ 100000 → IntKind.i64.wrap z = z := fun z h1 h2 => by rw [IntKind.wrap_i64]; omega
  refine fun _ => ⟨⟨by omega, by omega⟩, fun _ => ⟨⟨by omega, by omega⟩, fun _ => ⟨⟨by omega, by omega⟩, fun _ => ⟨⟨fun _ _ => rfl, fun _ _ => rfl, fun _ _ => rfl⟩, fun s hsn => ⟨fun h => ?_, fun h => ?_⟩⟩⟩⟩⟩
  · have hlt := lt_of_dec h
    have hb := hs s hlt
    have hn := slBs_no hb
    have hr := slNo_range hn
    have c1 : ∀ f, clayN W s f ≤ s := fun f => cntB_le _ _
    have c2 : ∀ f, keysN W s f ≤ s := fun f => cntB_le _ _
    have eC : ∀ f, clayN W (s + 1) f = clayN W s f + (bif clayAt (W.slots s) f then 1 else 0) := fun f => rfl
    have eK : ∀ f, keysN W (s + 1) f = keysN W s f + (bif keyAt (W.slots s) f then 1 else 0) := fun f => rfl
    have eU : ∀ f, usedK W (s + 1) f = bif clayAt (W.slots s) f then decide ((f : Int) < (W.slots s).base + (W.slots s).mark) else usedK W s f := fun f => rfl
    have hfit : (W.slots s).kind ≠ 0 → 1 ≤ (W.slots s).len ∧ (W.slots s).base + (W.slots s).len ≤ W.nKinds := fun hk => by
      refine ⟨slB_len hn hk, ?_⟩
      have hb : slBs W s (W.slots s) = true := hb
      rw [slBs_pos (beq_eq_false_iff_ne.2 hk)] at hb
      simp only [Bool.and_eq_true, decide_eq_true_eq] at hb
      exact hb.1.1.2
    obtain ⟨S, hS⟩ : ∃ S, S = W.slots s := ⟨_, rfl⟩
    simp only [← hS] at eC eK eU hfit hr ⊢
    refine ⟨by omega, fun h1 => ?_, fun h1 => ?_⟩
    · have k1 : (S.kind == 1) = false := notT h1
      have nc : ∀ f, clayAt S f = false := fun f => by unfold clayAt; rw [k1]; rfl
      refine ⟨fun h2 => ?_, fun h2 => ?_⟩
      · have k0 : (S.kind == 0) = false := notT h2
        have hf := hfit (by simpa using k0)
        have ka : ∀ f : Nat, keyAt S f = (S.base == f) := fun f => by unfold keyAt; simp only [bne]; rw [k1, k0]; rfl
        refine ⟨by omega, wr _ (by omega) (by have := c2 S.base.toNat; omega), by omega, wr _ (by omega) (by omega), exS ⟨⟨fun i hi => ?_, fun i hi => ?_, fun i hi => ?_⟩, by omega, by omega⟩⟩
        · rw [eC, nc]; rfl
        · rw [eU, nc]; rfl
        · rw [eK, ka]
          cases hi2 : i.beq S.base.toNat with
          | true =>
            have hi3 := Nat.eq_of_beq_eq_true hi2
            subst hi3
            rw [show (S.base == ((S.base.toNat : Nat) : Int)) = true from beq_iff_eq.2 (by omega)]
            simp
          | false =>
            have hne : i ≠ S.base.toNat := fun e => by subst e; rw [Nat.beq_refl] at hi2; cases hi2
            rw [show (S.base == (i : Int)) = false from beq_eq_false_iff_ne.2 (by omega)]
            simp
      · have k0 : (S.kind == 0) = true := notF h2
        have ka : ∀ f : Nat, keyAt S f = false := fun f => by unfold keyAt; simp only [bne]; rw [k0, k1]; rfl
        refine ⟨wr _ (by omega) (by omega), exS ⟨⟨fun i hi => ?_, fun i hi => ?_, fun i hi => ?_⟩, by omega, by omega⟩⟩
        · rw [eC, nc]; rfl
        · rw [eU, nc]; rfl
        · rw [eK, ka]; rfl
    · have k1 : (S.kind == 1) = true := notF h1
      have hf := hfit (by rw [eq_of_beq k1]; decide)
      have ka : ∀ f : Nat, keyAt S f = false := fun f => by unfold keyAt; simp only [bne]; rw [k1]; rfl
      refine ⟨⟨fun i hi => by rw [inRg0]; simp, fun i hi => by rw [inRg0]; rfl⟩, by omega, fun j hj => ⟨fun h3 => ?_, fun h3 => ?_⟩⟩
      · have h4 := of_decide_eq_true h3
        have hc := c1 (S.base + (j : Int)).toNat
        have e0 : inRg S.base j (S.base + (j : Int)).toNat = false := (inRg_at S.base j _ (by omega)).1
        rw [e0]
        refine ⟨wr _ (by omega) (by omega), by omega, wr _ (by simp; omega) (by simp; omega), by omega, wr _ (by omega) (by omega), by omega, wr _ (by omega) (by omega), exS ⟨⟨fun i hi => ?_, fun i hi => ?_⟩, by omega, by omega⟩⟩
        · cases hi2 : i.beq (S.base + (j : Int)).toNat with
          | true =>
            have hi3 := Nat.eq_of_beq_eq_true hi2
            subst hi3
            rw [(inRg_at S.base j (S.base + (j : Int)).toNat (by omega)).2]; simp
          | false =>
            have hne : i ≠ (S.base + (j : Int)).toNat := fun e => by subst e; rw [Nat.beq_refl] at hi2; cases hi2
            rw [inRg_ne S.base j i (by omega)]; rfl
        · cases hi2 : i.beq (S.base + (j : Int)).toNat with
          | true =>
            have hi3 := Nat.eq_of_beq_eq_true hi2
            subst hi3
            rw [(inRg_at S.base j (S.base + (j : Int)).toNat (by omega)).2]
            exact decide_eq_decide.2 (by omega)
          | false =>
            have hne : i ≠ (S.base + (j : Int)).toNat := fun e => by subst e; rw [Nat.beq_refl] at hi2; cases hi2
            rw [inRg_ne S.base j i (by omega)]; rfl
      · have h4 := of_decide_eq_false h3
        have ej : (j : Int) = S.len := by omega
        have ec : ∀ f : Nat, inRg S.base j f = clayAt S f := fun f => by unfold inRg clayAt; rw [k1, ej]; rfl
        refine ⟨wr _ (by omega) (by omega), exS ⟨⟨fun i hi => ?_, fun i hi => ?_, fun i hi => ?_⟩, by omega, by omega⟩⟩
        · rw [eC, ec]; cases clayAt S i <;> simp
        · rw [eU, ec]
        · rw [eK, ka]; rfl
  · have hge := ge_of_dec h
    obtain rfl : s = W.nSlots := by omega
    have e := fstE_congr (n := W.nKinds) (e := 8) (r := (0, -1)) (r' := (0, -1)) (fun f (hf : f < W.nKinds) => fr_not (W := W) (f := f)) (fun _ => rfl)
    refine ⟨⟨by decide, by omega, Nat.le_refl _⟩, ?_, ?_⟩
    · exact congrArg (·.1) e
    · exact congrArg (·.2) e
end Go.Proofs.YtdjilaofmdhikaaGreatDoor
