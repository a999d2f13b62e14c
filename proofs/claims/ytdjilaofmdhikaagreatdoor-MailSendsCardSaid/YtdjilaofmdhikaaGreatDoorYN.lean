/- Words, lines: small deeds. -/
import Derived.Test.YtdjilaofmdhikaaGreatDoorYM
set_option linter.unusedVariables false
set_option linter.unusedSimpArgs false
set_option linter.unusedVariables false
set_option linter.unusedSimpArgs false
set_option maxRecDepth 100000
namespace Go.Proofs.YtdjilaofmdhikaaGreatDoor
open Go.RowKit Go.Sy
def hnS (W : Wd) (t : Nat) (b g : Int) (i : Nat) : Run := updF W.tasks t { W.tasks t with r1 := b, r2 := g } i
def hanW (W : Wd) (t : Nat) (b g : Int) : Wd := { W with tasks := hnS W t b g }
def ofC (W : Wd) (t : Int) (j : Nat) : Int := bif W.cores j == t then -1 else W.cores j
def offW (W : Wd) (t : Int) : Wd := { W with cores := ofC W t }
def sdS (W : Wd) (t : Nat) (a s : Int) (i : Nat) : Run := updF W.tasks t { W.tasks t with st := s, loc := a } i
def sdN (W : Wd) (a i : Nat) : Nat := updF W.linesN a (W.linesN a + 1) i
def sdL (W : Wd) (t : Int) (a i k : Nat) : Int := updF W.lines a (apF (W.linesN a) (W.lines a) t) i k
def stdW (W : Wd) (t a s : Int) : Wd := { W with cores := ofC W t, tasks := sdS W t.toNat a s, linesN := sdN W a.toNat, lines := sdL W t a.toNat }
def frN (W : Wd) (a i : Nat) : Nat := updF W.linesN a (W.linesN a - 1) i
def frL (W : Wd) (a i k : Nat) : Int := updF W.lines a (fun q => W.lines a (q + 1)) i k
def frS (W : Wd) (t i : Nat) : Run := updF W.tasks t { W.tasks t with loc := -1 } i
def fntB (W : Wd) (a : Nat) (p : Int → Bool) : Bool := W.linesN a != 0 && p (W.tasks (W.lines a 0).toNat).st
def ofS (W : Wd) (t : Int) (i j : Nat) : Int := bif Nat.blt j i then ofC W t j else W.cores j
theorem ofS_lt {W : Wd} {t : Int} {i j : Nat} (h : j < i) : ofS W t i j = ofC W t j := by unfold ofS; rw [blt_t h]; rfl
theorem ofS_ge {W : Wd} {t : Int} {i j : Nat} (h : i ≤ j) : ofS W t i j = W.cores j := by unfold ofS; rw [blt_f h]; rfl
def an_of (W : Wd) (t : Int) : Ann where
  σ := Nat
  rt := []
  sh i := [(0, pt0 0), (4, .v (.int .i64 i))]
  mh i := [(7, .row 1 W.nCores (iF (ofS W t i)))]
  inv i := i ≤ W.nCores
  μ i := W.nCores - i
  init := 0
def frtS (W : Wd) (a : Nat) (b : Bool) (i : Nat) : Run := bif b then frS W (W.lines a 0).toNat i else W.tasks i
def frtN (W : Wd) (a : Nat) (b : Bool) (i : Nat) : Nat := bif b then frN W a i else W.linesN i
def frtL (W : Wd) (a : Nat) (b : Bool) (i k : Nat) : Int := bif b then frL W a i k else W.lines i k
def frtW (W : Wd) (a : Nat) (b : Bool) : Wd := { W with tasks := frtS W a b, linesN := frtN W a b, lines := frtL W a b }
def frtI (W : Wd) (a : Nat) (b : Bool) : Int := bif b then W.lines a 0 else -1
def an_fs (W : Wd) (a n : Nat) (ss : Nat → Int) : Ann where
  σ := Nat
  rt := []
  sh i := [(0, pt0 0), (30, .v (.int .i64 i))]
  mh _ := []
  inv i := i ≤ n ∧ ∀ j, j < i → ((W.tasks (W.lines a 0).toNat).st == ss j) = false
  μ i := n - i
  init := 0
structure OfP (W : Wd) (t : Int) : Prop where
  t0 : 0 ≤ t
  t1 : t < W.nTasks
  c0 : 0 ≤ (W.tasks t.toNat).core
  c1 : (W.tasks t.toNat).core < W.nCores
  u : ∀ j : Nat, j < W.nCores → W.cores j = t → (W.tasks t.toNat).core = j
structure LnP (W : Wd) (a : Int) : Prop where
  a0 : 0 ≤ a
  a1 : a < W.nLines
  n : W.linesN a.toNat ≤ 100000
  h : 0 < W.linesN a.toNat → 0 ≤ W.lines a.toNat 0 ∧ W.lines a.toNat 0 < W.nTasks
theorem sdL_eq {W : Wd} {t : Int} {a j k : Nat} (h : k < sdN W a j) : (bif j.beq a then bif k.blt (W.linesN a) then W.lines a k else [t].getD (k - W.linesN a) 0 else W.lines j k) = sdL W t a j k := by
  unfold sdL
  rcases Decidable.em (j = a) with e | e
  · subst e
    rw [Nat.beq_refl, updF_at]
    refine ap_one ?_
    unfold sdN at h; rw [updF_at] at h; exact h
  · rw [beq_ne e, updF_ne e]; rfl
theorem updF_cp {f : Nat → Run} {t i : Nat} {v : Run} (p : Run → Int) (h : p v = p (f t)) : p (updF f t v i) = p (f i) := by
  rcases Decidable.em (i = t) with e | e
  · subst e; rw [updF_at]; exact h
  · rw [updF_ne e]
theorem fn0 {W : Wd} {a : Nat} {p : Int → Bool} (h : W.linesN a = 0) : fntB W a p = false := by unfold fntB; rw [h]; rfl
theorem fn1 {W : Wd} {a : Nat} {p : Int → Bool} {b : Bool} (h : W.linesN a ≠ 0) (hb : p (W.tasks (W.lines a 0).toNat).st = b) : fntB W a p = b := by
  unfold fntB; rw [hb, show (W.linesN a != 0) = true from by simpa using h]; rfl
theorem len_0 {n : Nat} (h : ((n : Int) == 0) = true) : n = 0 := by have := eq_of_beq h; omega
theorem len_n {n : Nat} (h : ((n : Int) == 0) = false) : n ≠ 0 := by have := ne_of_beq_false h; omega
structure X_handed where
  (t b g : Int) (W : Wd)
def s_handed : Sy.Spec := ⟨X_handed, fun ⟨t, b, g, _⟩ => [.ptr 0 0 none 0 0, .v (.int .i64 t), .v (.int .i64 b), .v (.int .i64 g)], fun ⟨_, _, _, W⟩ => wMem W, fun ⟨t, _, _, W⟩ => 0 ≤ t ∧ t < W.nTasks, fun _ => .tp 0 (lsv []), fun ⟨t, b, g, W⟩ => wMem (hanW W t.toNat b g),
  fun args mem => match args with | [a0, a1, a2, a3] => some ⟨intD (a1), intD (a2), intD (a3), wMJD mem 0⟩ | _ => none⟩
def c_handed : Con := ⟨[true], s_handed.g, none⟩
def V_handed : X_handed → Prop := fun ⟨t, b, g, W⟩ => let a0:=W.nTasks;let b0:=0≤t∧t<(a0:Int);let c0:=0=0;let d0:=W.nRam;let e0:=d0=d0;let g0:=W.nKinds;let h0:=g0=g0;let k0:=W.nSlots;let l0:=k0=k0;let o0:=a0=a0;let q0:=W.nLines;let u0:=q0=q0;let v0:=W.nBits;let w0:=v0=v0;let x0:=W.nCores;let y0:=x0=x0;let z0:=W.nReady;let a1:=z0=z0;let b1:=W.nTlbs;let c1:=b1=b1;let d1:=W.nDoms;let e1:=d1=d1;let g1:=Wd.mk d0 W.ram g0 W.kinds k0 W.slots a0 (hnS W (Int.toNat t) b g) q0 W.linesN W.lines v0 W.bits x0 W.cores z0 W.readyN W.ready b1 W.tlbsN W.tlbs d1 W.doms W.time;b0∧((0:Int)≤1∧1<((8:Nat):Int))∧(∀h1:Nat,false=false)∧b0∧((0:Int)≤2∧2<((8:Nat):Int))∧(∀k1:Nat,false=false)∧True∧(((((((((((True∧c0∧e0)∧c0∧h0)∧c0∧l0)∧c0∧o0)∧c0∧u0)∧c0∧w0)∧c0∧y0)∧c0∧a1)∧c0∧c1)∧c0∧e1)∧W.time=W.time)∧(e0∧(∀l1:Nat,l1<d0→True∧W.ram l1=W.ram l1))∧(h0∧(∀o1:Nat,o1<g0→True∧W.kinds o1=W.kinds o1))∧(l0∧(∀q1:Nat,let u1:=W.slots q1;let v1:=g1.slots q1;q1<k0→((((((True∧u1.kind=v1.kind)∧u1.base=v1.base)∧u1.len=v1.len)∧u1.mark=v1.mark)∧u1.rights=v1.rights)∧u1.badge=v1.badge)∧u1.from_=v1.from_))∧(o0∧(∀w1:Nat,let x1:=W.tasks w1;let y1:=g1.tasks w1;w1<a0→(((((((((((((((((((True∧x1.r0=y1.r0)∧cond (Nat.beq w1 (0+Int.toNat t)) b x1.r1=y1.r1)∧cond (Nat.beq w1 (0+Int.toNat t)) g x1.r2=y1.r2)∧x1.r3=y1.r3)∧x1.r4=y1.r4)∧x1.r5=y1.r5)∧x1.r6=y1.r6)∧x1.r7=y1.r7)∧x1.pc=y1.pc)∧x1.st=y1.st)∧x1.prio=y1.prio)∧x1.node=y1.node)∧x1.space=y1.space)∧x1.helper=y1.helper)∧x1.loc=y1.loc)∧x1.word=y1.word)∧x1.badge=y1.badge)∧x1.owes=y1.owes)∧x1.core=y1.core)∧x1.dom=y1.dom))∧(u0∧(∀z1:Nat,
    let a2:=W.linesN z1;z1<q0→True∧a2=a2∧(∀b2:Nat,b2<a2→True∧W.lines z1 b2=W.lines z1 b2)))∧(w0∧(∀c2:Nat,c2<v0→True∧W.bits c2=W.bits c2))∧(y0∧(∀d2:Nat,d2<x0→True∧W.cores d2=W.cores d2))∧(a1∧(∀e2:Nat,let g2:=W.readyN e2;e2<z0→True∧g2=g2∧(∀h2:Nat,h2<g2→True∧W.ready e2 h2=W.ready e2 h2)))∧(c1∧(∀k2:Nat,let l2:=W.tlbsN k2;k2<b1→True∧l2=l2∧(∀o2:Nat,let q2:=W.tlbs k2 o2;let u2:=g1.tlbs k2 o2;o2<l2→(((True∧q2.sp=u2.sp)∧q2.pg=u2.pg)∧q2.fr=u2.fr)∧q2.wr=u2.wr)))∧(e1∧(∀v2:Nat,v2<d1→True∧W.doms v2=W.doms v2))∧True
set_option maxHeartbeats 1000000 in
theorem ok_handed : FnOK Tryz.prog glN 104 c_handed := ok_of .nil false Tryz.call104 Tryz.func104 (fun _ => []) (V := V_handed) (fun _ => by kernel_rfl) fun ⟨t, b, g, W⟩ hp => by
  dsimp only [s_handed] at hp
  dsimp only [V_handed, tn, w64]
  simp only [std, stb, eq_self, implies_true, Bool.cond_self]
  try simp only [wd_eta]
  refine ⟨hp, ⟨by decide, by decide⟩, hp, ⟨by decide, by decide⟩, fun j _ => ?_⟩
  rcases Decidable.em (j = t.toNat) with h | h
  · subst h; simp only [Nat.beq_refl, cond_true]; unfold hnS; rw [updF_at]; exact ⟨⟨⟨⟨⟨⟨⟨⟨⟨⟨⟨⟨⟨⟨⟨⟨⟨⟨⟨rfl, rfl⟩, rfl⟩, rfl⟩, rfl⟩, rfl⟩, rfl⟩, rfl⟩, rfl⟩, rfl⟩, rfl⟩, rfl⟩, rfl⟩, rfl⟩, rfl⟩, rfl⟩, rfl⟩, rfl⟩, rfl⟩, rfl⟩
  · simp only [beq_ne h, cond_false]; unfold hnS; rw [updF_ne h]; exact run20 rfl
structure X_hand where
  (t b g : Int) (W : Wd)
def s_hand : Sy.Spec := ⟨X_hand, fun ⟨t, b, g, _⟩ => [.ptr 0 0 none 0 0, .v (.int .i64 t), .v (.int .i64 b), .v (.int .i64 g)], fun ⟨_, _, _, W⟩ => wMem W, fun ⟨t, _, _, W⟩ => 0 ≤ t ∧ t < W.nTasks, fun _ => .tp 0 (lsv []), fun ⟨t, b, g, W⟩ => wMem (hanW W t.toNat b g),
  fun args mem => match args with | [a0, a1, a2, a3] => some ⟨intD (a1), intD (a2), intD (a3), wMJD mem 0⟩ | _ => none⟩
def c_hand : Con := ⟨[true], s_hand.g, none⟩
def V_hand : X_hand → Prop := fun ⟨t, b, g, W⟩ => let a0:=W.nTasks;let b0:=0≤t∧t<(a0:Int);let c0:=0=0;let d0:=W.nRam;let e0:=d0=d0;let g0:=W.nKinds;let h0:=g0=g0;let k0:=W.nSlots;let l0:=k0=k0;let o0:=a0=a0;let q0:=W.nLines;let u0:=q0=q0;let v0:=W.nBits;let w0:=v0=v0;let x0:=W.nCores;let y0:=x0=x0;let z0:=W.nReady;let a1:=z0=z0;let b1:=W.nTlbs;let c1:=b1=b1;let d1:=W.nDoms;let e1:=d1=d1;let g1:=Wd.mk d0 W.ram g0 W.kinds k0 W.slots a0 (hnS W (Int.toNat t) b g) q0 W.linesN W.lines v0 W.bits x0 W.cores z0 W.readyN W.ready b1 W.tlbsN W.tlbs d1 W.doms W.time;tn 12 (b0∧True∧b0∧True∧((0:Int)≤1∧1<((8:Nat):Int))∧(∀h1:Nat,false=false)∧((0:Int)≤2∧2<((8:Nat):Int))∧(∀k1:Nat,false=false)∧True∧(((((((((((True∧c0∧e0)∧c0∧h0)∧c0∧l0)∧c0∧o0)∧c0∧u0)∧c0∧w0)∧c0∧y0)∧c0∧a1)∧c0∧c1)∧c0∧e1)∧W.time=W.time)∧(e0∧(∀l1:Nat,l1<d0→True∧W.ram l1=W.ram l1))∧(h0∧(∀o1:Nat,o1<g0→True∧W.kinds o1=W.kinds o1))∧(l0∧(∀q1:Nat,let u1:=W.slots q1;let v1:=g1.slots q1;q1<k0→((((((True∧u1.kind=v1.kind)∧u1.base=v1.base)∧u1.len=v1.len)∧u1.mark=v1.mark)∧u1.rights=v1.rights)∧u1.badge=v1.badge)∧u1.from_=v1.from_))∧(o0∧(∀w1:Nat,let x1:=W.tasks w1;let y1:=g1.tasks w1;let z1:=Nat.beq w1 (0+Int.toNat t);w1<a0→(((((((((((((((((((True∧x1.r0=y1.r0)∧cond z1 b x1.r1=y1.r1)∧cond z1 g x1.r2=y1.r2)∧x1.r3=y1.r3)∧x1.r4=y1.r4)∧x1.r5=y1.r5)∧x1.r6=y1.r6)∧x1.r7=y1.r7)∧x1.pc=y1.pc)∧x1.st=y1.st)∧x1.prio=y1.prio)∧x1.node=y1.node)∧x1.space=y1.space)∧x1.helper=y1.helper)∧x1.loc=y1.loc)∧x1.word=y1.word)∧x1.badge=y1.badge)∧x1.owes=y1.owes)∧x1.core=y1.core)∧x1.dom=y1.dom))∧(u0∧(∀a2:Nat,
    let b2:=W.linesN a2;a2<q0→True∧b2=b2∧(∀c2:Nat,c2<b2→True∧W.lines a2 c2=W.lines a2 c2)))∧(w0∧(∀d2:Nat,d2<v0→True∧W.bits d2=W.bits d2))∧(y0∧(∀e2:Nat,e2<x0→True∧W.cores e2=W.cores e2))∧(a1∧(∀g2:Nat,let h2:=W.readyN g2;g2<z0→True∧h2=h2∧(∀k2:Nat,k2<h2→True∧W.ready g2 k2=W.ready g2 k2)))∧(c1∧(∀l2:Nat,let o2:=W.tlbsN l2;l2<b1→True∧o2=o2∧(∀q2:Nat,let u2:=W.tlbs l2 q2;let v2:=g1.tlbs l2 q2;q2<o2→(((True∧u2.sp=v2.sp)∧u2.pg=v2.pg)∧u2.fr=v2.fr)∧u2.wr=v2.wr)))∧(e1∧(∀w2:Nat,w2<d1→True∧W.doms w2=W.doms w2))∧True)
set_option maxHeartbeats 1000000 in
theorem ok_hand : FnOK Tryz.prog glN 152 c_hand := ok_of .nil false Tryz.call152 Tryz.func152 (fun _ => []) (V := V_hand) (fun _ => by kernel_rfl) fun ⟨t, b, g, W⟩ hp => by
  dsimp only [s_hand] at hp
  dsimp only [V_hand, tn, w64]
  simp only [std, stb, eq_self, implies_true, Bool.cond_self]
  try simp only [wd_eta]
  refine ⟨hp, hp, ⟨by decide, by decide⟩, ⟨by decide, by decide⟩, fun j _ => ?_⟩
  rcases Decidable.em (j = t.toNat) with h | h
  · subst h; simp only [Nat.beq_refl, cond_true]; unfold hnS; rw [updF_at]; exact ⟨⟨⟨⟨⟨⟨⟨⟨⟨⟨⟨⟨⟨⟨⟨⟨⟨⟨⟨rfl, rfl⟩, rfl⟩, rfl⟩, rfl⟩, rfl⟩, rfl⟩, rfl⟩, rfl⟩, rfl⟩, rfl⟩, rfl⟩, rfl⟩, rfl⟩, rfl⟩, rfl⟩, rfl⟩, rfl⟩, rfl⟩, rfl⟩
  · simp only [beq_ne h, cond_false]; unfold hnS; rw [updF_ne h]; exact run20 rfl
structure X_offP where
  (t : Int) (W : Wd)
def s_offP : Sy.Spec := ⟨X_offP, fun ⟨t, _⟩ => [.ptr 0 0 none 0 0, .v (.int .i64 t)], fun ⟨_, W⟩ => wMem W, fun ⟨t, W⟩ => OfP W t, fun _ => .tp 0 (lsv []), fun ⟨t, W⟩ => wMem (offW W t),
  fun args mem => match args with | [a0, a1] => some ⟨intD (a1), wMJD mem 0⟩ | _ => none⟩
def c_offP : Con := ⟨[true], s_offP.g, none⟩
def V_offP : X_offP → Prop := fun ⟨t, W⟩ => let a0:=W.nTasks;let b0:=(W.tasks (0+Int.toNat t)).core;let c0:=W.nCores;let d0:=0≤b0∧b0<(c0:Int);let e0:=0+Int.toNat b0;let g0:=W.cores e0==t;let h0:=0=0;let k0:=W.nRam;let l0:=k0=k0;let o0:=W.nKinds;let q0:=o0=o0;let u0:=W.nSlots;let v0:=u0=u0;let w0:=a0=a0;let x0:=W.nLines;let y0:=x0=x0;let z0:=W.nBits;let a1:=z0=z0;let b1:=c0=c0;let c1:=W.nReady;let d1:=c1=c1;let e1:=W.nTlbs;let g1:=e1=e1;let h1:=W.nDoms;let k1:=h1=h1;let l1:=((((((((((True∧h0∧l0)∧h0∧q0)∧h0∧v0)∧h0∧w0)∧h0∧y0)∧h0∧a1)∧h0∧b1)∧h0∧d1)∧h0∧g1)∧h0∧k1)∧W.time=W.time;let o1:=l0∧(∀q1:Nat,q1<k0→True∧W.ram q1=W.ram q1);let u1:=q0∧(∀v1:Nat,v1<o0→True∧W.kinds v1=W.kinds v1);let w1:=Wd.mk k0 W.ram o0 W.kinds u0 W.slots a0 W.tasks x0 W.linesN W.lines z0 W.bits c0 (ofC W t) c1 W.readyN W.ready e1 W.tlbsN W.tlbs h1 W.doms W.time;let x1:=v0∧(∀y1:Nat,let z1:=W.slots y1;let a2:=w1.slots y1;y1<u0→((((((True∧z1.kind=a2.kind)∧z1.base=a2.base)∧z1.len=a2.len)∧z1.mark=a2.mark)∧z1.rights=a2.rights)∧z1.badge=a2.badge)∧z1.from_=a2.from_);let b2:=w0∧(∀c2:Nat,let d2:=W.tasks c2;let e2:=w1.tasks c2;c2<a0→(((((((((((((((((((True∧d2.r0=e2.r0)∧d2.r1=e2.r1)∧d2.r2=e2.r2)∧d2.r3=e2.r3)∧d2.r4=e2.r4)∧d2.r5=e2.r5)∧d2.r6=e2.r6)∧d2.r7=e2.r7)∧d2.pc=e2.pc)∧d2.st=e2.st)∧d2.prio=e2.prio)∧d2.node=e2.node)∧d2.space=e2.space)∧d2.helper=e2.helper)∧d2.loc=e2.loc)∧d2.word=e2.word)∧d2.badge=e2.badge)∧d2.owes=e2.owes)∧d2.core=e2.core)∧d2.dom=e2.dom);let g2:=y0∧(∀h2:Nat,let k2:=W.linesN h2;h2<x0→True∧k2=k2∧(∀l2:Nat,l2<k2→True∧W.lines h2 l2=W.lines h2 l2));
    let o2:=a1∧(∀q2:Nat,q2<z0→True∧W.bits q2=W.bits q2);let u2:=(d1∧(∀v2:Nat,let w2:=W.readyN v2;v2<c1→True∧w2=w2∧(∀x2:Nat,x2<w2→True∧W.ready v2 x2=W.ready v2 x2)))∧(g1∧(∀y2:Nat,let z2:=W.tlbsN y2;y2<e1→True∧z2=z2∧(∀a3:Nat,let b3:=W.tlbs y2 a3;let c3:=w1.tlbs y2 a3;a3<z2→(((True∧b3.sp=c3.sp)∧b3.pg=c3.pg)∧b3.fr=c3.fr)∧b3.wr=c3.wr)))∧(k1∧(∀d3:Nat,d3<h1→True∧W.doms d3=W.doms d3))∧True;(0≤t∧t<(a0:Int))∧d0∧(g0=true→d0∧(∀e3:Nat,false=false)∧True∧l1∧o1∧u1∧x1∧b2∧g2∧o2∧(b1∧(∀g3:Nat,g3<c0→True∧cond (Nat.beq g3 e0) (-1) (W.cores g3)=ofC W t g3))∧u2)∧(g0=false→True∧l1∧o1∧u1∧x1∧b2∧g2∧o2∧(b1∧(∀h3:Nat,h3<c0→True∧W.cores h3=ofC W t h3))∧u2)
theorem ok_offP : FnOK Tryz.prog glN 154 c_offP := ok_of .nil false Tryz.call154 Tryz.func154 (fun _ => []) (V := V_offP) (fun _ => by kernel_rfl) fun ⟨t, W⟩ hp => by
  dsimp only [s_offP] at hp
  dsimp only [V_offP, tn, w64]
  simp only [std, stb, eq_self, implies_true, Bool.cond_self]
  try simp only [wd_eta]
  obtain ⟨t0, t1, c0, c1, hu⟩ := hp
  have hc := And.intro c0 c1
  refine ⟨⟨t0, t1⟩, hc, fun h => ⟨hc, fun j hj => ?_⟩, fun h j hj => ?_⟩
  · have h := eq_of_beq h
    unfold ofC
    rcases Decidable.em (j = (W.tasks t.toNat).core.toNat) with e | e
    · subst e; rw [Nat.beq_refl, h]; simp
    · rw [beq_ne e]
      cases hb : W.cores j == t with
      | false => rfl
      | true => exact absurd (hu j hj (eq_of_beq hb)) (by omega)
  · unfold ofC
    cases hb : W.cores j == t with
    | false => rfl
    | true =>
      have := hu j hj (eq_of_beq hb)
      have e : j = (W.tasks t.toNat).core.toNat := by omega
      rw [← e, hb] at h; cases h
structure X_offR where
  (t : Int) (W : Wd)
def s_offR : Sy.Spec := ⟨X_offR, fun ⟨t, _⟩ => [.ptr 0 0 none 0 0, .v (.int .i64 t)], fun ⟨_, W⟩ => wMem W, fun ⟨_, W⟩ => W.nCores ≤ 100000, fun _ => .tp 0 (lsv []), fun ⟨t, W⟩ => wMem (offW W t),
  fun args mem => match args with | [a0, a1] => some ⟨intD (a1), wMJD mem 0⟩ | _ => none⟩
def c_offR : Con := ⟨[true], s_offR.g, none⟩
def V_offR : X_offR → Prop := fun ⟨t, W⟩ => let a0:=SV.ptr 0 0 none 0 0;let b0:=0=0;let c0:=W.nRam;let d0:=c0=c0;let e0:=W.nKinds;let g0:=e0=e0;let h0:=W.nSlots;let k0:=h0=h0;let l0:=W.nTasks;let o0:=l0=l0;let q0:=W.nLines;let u0:=q0=q0;let v0:=W.nBits;let w0:=v0=v0;let x0:=W.nCores;let y0:=x0=x0;let z0:=W.nReady;let a1:=z0=z0;let b1:=W.nTlbs;let c1:=b1=b1;let d1:=W.nDoms;let e1:=d1=d1;let g1:=W.time=W.time;let h1:=d0∧(∀k1:Nat,k1<c0→True∧W.ram k1=W.ram k1);let l1:=g0∧(∀o1:Nat,o1<e0→True∧W.kinds o1=W.kinds o1);let q1:=k0∧(∀u1:Nat,let v1:=W.slots u1;let w1:=v1.kind;let x1:=v1.base;let y1:=v1.len;let z1:=v1.mark;let a2:=v1.rights;let b2:=v1.badge;let c2:=v1.from_;u1<h0→((((((True∧w1=w1)∧x1=x1)∧y1=y1)∧z1=z1)∧a2=a2)∧b2=b2)∧c2=c2);let d2:=o0∧(∀e2:Nat,let g2:=W.tasks e2;let h2:=g2.prio;let k2:=g2.node;let l2:=g2.space;let o2:=g2.helper;let q2:=g2.loc;let u2:=g2.word;let v2:=g2.badge;let w2:=g2.owes;let x2:=g2.core;let y2:=g2.dom;e2<l0→(((((((((((((((((((True∧g2.r0=g2.r0)∧g2.r1=g2.r1)∧g2.r2=g2.r2)∧g2.r3=g2.r3)∧g2.r4=g2.r4)∧g2.r5=g2.r5)∧g2.r6=g2.r6)∧g2.r7=g2.r7)∧g2.pc=g2.pc)∧g2.st=g2.st)∧h2=h2)∧k2=k2)∧l2=l2)∧o2=o2)∧q2=q2)∧u2=u2)∧v2=v2)∧w2=w2)∧x2=x2)∧y2=y2);let z2:=u0∧(∀a3:Nat,let b3:=W.linesN a3;a3<q0→True∧b3=b3∧(∀c3:Nat,c3<b3→True∧W.lines a3 c3=W.lines a3 c3));let d3:=w0∧(∀e3:Nat,e3<v0→True∧W.bits e3=W.bits e3);let g3:=a1∧(∀h3:Nat,let k3:=W.readyN h3;h3<z0→True∧k3=k3∧(∀l3:Nat,l3<k3→True∧W.ready h3 l3=W.ready h3 l3));let o3:=(e1∧(∀q3:Nat,q3<d1→True∧W.doms q3=W.doms q3))∧True;
    let u3:=g3∧(c1∧(∀v3:Nat,let w3:=W.tlbsN v3;v3<b1→True∧w3=w3∧(∀x3:Nat,let y3:=W.tlbs v3 x3;let z3:=y3.sp;let a4:=y3.pg;let b4:=y3.fr;let c4:=y3.wr;x3<w3→(((True∧z3=z3)∧a4=a4)∧b4=b4)∧c4=c4)))∧o3;let d4:=(x0:Int);let e4:=SV.ptr 0 0 none 0 0=a0;let g4:=0=0;let h4:=((((((((((True∧g4∧d0)∧g4∧g0)∧g4∧k0)∧g4∧o0)∧g4∧u0)∧g4∧w0)∧g4∧y0)∧g4∧a1)∧g4∧c1)∧g4∧e1)∧g1;let k4:=Wd.mk c0 W.ram e0 W.kinds h0 W.slots l0 W.tasks q0 W.linesN W.lines v0 W.bits x0 (ofC W t) z0 W.readyN W.ready b1 W.tlbsN W.tlbs d1 W.doms W.time;a0=a0∧0=((0:Nat):Int)∧((((((((((((True∧b0∧d0)∧b0∧g0)∧b0∧k0)∧b0∧o0)∧b0∧u0)∧b0∧w0)∧b0∧y0)∧b0∧a1)∧b0∧c1)∧b0∧e1)∧g1)∧h1∧l1∧q1∧d2∧z2∧d3∧(y0∧(∀l4:Nat,l4<x0→True∧W.cores l4=ofS W t 0 l4))∧u3)∧0≤x0∧(∀o4:Nat,let q4:=(o4:Int);let u4:=decide (q4<d4);let v4:=0≤q4∧q4<d4;let w4:=0+Int.toNat q4;let x4:=ofS W t o4 w4==t;let y4:Int:=q4+1;let z4:=w64 y4=y4;o4≤x0→d4≤9223372036854775807→(u4=true→v4∧(x4=true→v4∧(∀a5:Nat,false=false)∧z4∧(∃b5:Nat,e4∧y4=(b5:Int)∧(h4∧h1∧l1∧q1∧d2∧z2∧d3∧(y0∧(∀c5:Nat,c5<x0→True∧cond (Nat.beq c5 w4) (-1) (ofS W t o4 c5)=ofS W t b5 c5))∧u3)∧b5≤x0∧x0-b5<x0-o4))∧(x4=false→z4∧(∃d5:Nat,e4∧y4=(d5:Int)∧(h4∧h1∧l1∧q1∧d2∧z2∧d3∧(y0∧(∀e5:Nat,e5<x0→True∧ofS W t o4 e5=ofS W t d5 e5))∧u3)∧d5≤x0∧x0-d5<x0-o4)))∧(u4=false→True∧h4∧h1∧l1∧(k0∧(∀g5:Nat,let h5:=W.slots g5;let k5:=k4.slots g5;g5<h0→((((((True∧h5.kind=k5.kind)∧h5.base=k5.base)∧h5.len=k5.len)∧h5.mark=k5.mark)∧h5.rights=k5.rights)∧h5.badge=k5.badge)∧h5.from_=k5.from_))∧(o0∧(∀l5:Nat,let o5:=W.tasks l5;let q5:=k4.tasks l5;l5<l0→
    (((((((((((((((((((True∧o5.r0=q5.r0)∧o5.r1=q5.r1)∧o5.r2=q5.r2)∧o5.r3=q5.r3)∧o5.r4=q5.r4)∧o5.r5=q5.r5)∧o5.r6=q5.r6)∧o5.r7=q5.r7)∧o5.pc=q5.pc)∧o5.st=q5.st)∧o5.prio=q5.prio)∧o5.node=q5.node)∧o5.space=q5.space)∧o5.helper=q5.helper)∧o5.loc=q5.loc)∧o5.word=q5.word)∧o5.badge=q5.badge)∧o5.owes=q5.owes)∧o5.core=q5.core)∧o5.dom=q5.dom))∧z2∧d3∧(y0∧(∀u5:Nat,u5<x0→True∧ofS W t o4 u5=ofC W t u5))∧g3∧(c1∧(∀v5:Nat,let w5:=W.tlbsN v5;v5<b1→True∧w5=w5∧(∀x5:Nat,let y5:=W.tlbs v5 x5;let z5:=k4.tlbs v5 x5;x5<w5→(((True∧y5.sp=z5.sp)∧y5.pg=z5.pg)∧y5.fr=z5.fr)∧y5.wr=z5.wr)))∧o3))
theorem ok_offR : FnOK Tryz.prog glN 105 c_offR := ok_of .nil false Tryz.call105 Tryz.func105 (fun ⟨t, W⟩ => [.inv (an_of W t)]) (V := V_offR) (fun _ => by kernel_rfl) fun ⟨t, W⟩ hp => by
  dsimp only [s_offR] at hp
  dsimp only [V_offR, tn, w64]
  simp only [std, stb, eq_self, implies_true, Bool.cond_self]
  try simp only [wd_eta]
  refine ⟨fun j _ => (ofS_ge (Nat.zero_le _)).symm, fun s hs _ => ⟨fun h => ?_, fun h j hj => ?_⟩⟩
  · have hlt := lt_of_dec h
    refine ⟨by omega, fun h1 => ⟨by omega, wr_in (by omega) (by omega), s + 1, by omega, fun j _ => ?_, by omega, by omega⟩, fun h1 => ⟨wr_in (by omega) (by omega), s + 1, by omega, fun j _ => ?_, by omega, by omega⟩⟩
    · rw [ofS_ge (Nat.le_refl _)] at h1
      rcases Nat.lt_trichotomy j s with e | e | e
      · rw [beq_ne (by omega), ofS_lt e, ofS_lt (by omega : j < s + 1)]; rfl
      · subst e; rw [Nat.beq_refl, ofS_lt (Nat.lt_succ_self _)]; unfold ofC; rw [h1]; rfl
      · rw [beq_ne (by omega), ofS_ge (by omega), ofS_ge (by omega : s + 1 ≤ j)]; rfl
    · rw [ofS_ge (Nat.le_refl _)] at h1
      rcases Nat.lt_trichotomy j s with e | e | e
      · rw [ofS_lt e, ofS_lt (by omega : j < s + 1)]
      · subst e; rw [ofS_ge (Nat.le_refl _), ofS_lt (Nat.lt_succ_self _)]; unfold ofC; rw [h1]; rfl
      · rw [ofS_ge (by omega), ofS_ge (by omega : s + 1 ≤ j)]
  · have hge := ge_of_dec h
    exact ofS_lt (by omega)
structure X_stands where
  (t a s : Int) (W : Wd)
def s_stands : Sy.Spec := ⟨X_stands, fun ⟨t, a, s, _⟩ => [.ptr 0 0 none 0 0, .v (.int .i64 t), .v (.int .i64 a), .v (.int .i64 s)], fun ⟨_, _, _, W⟩ => wMem W, fun ⟨t, a, _, W⟩ => 0 ≤ t ∧ t < W.nTasks ∧ LnP W a ∧ W.nCores ≤ 100000, fun _ => .tp 0 (lsv []), fun ⟨t, a, s, W⟩ => wMem (stdW W t a s),
  fun args mem => match args with | [a0, a1, a2, a3] => some ⟨intD (a1), intD (a2), intD (a3), wMJD mem 0⟩ | _ => none⟩
def c_stands : Con := ⟨[true], s_stands.g, none⟩
def V_stands : X_stands → Prop := fun ⟨t, a, s, W⟩ => let a0:=SV.ptr 0 0 none 0 0;let b0:=0=0;let c0:=W.nRam;let d0:=c0=c0;let e0:=W.nKinds;let g0:=e0=e0;let h0:=W.nSlots;let k0:=h0=h0;let l0:=W.nTasks;let o0:=l0=l0;let q0:=W.nLines;let u0:=q0=q0;let v0:=W.nBits;let w0:=v0=v0;let x0:=W.nCores;let y0:=x0=x0;let z0:=W.nReady;let a1:=z0=z0;let b1:=W.nTlbs;let c1:=b1=b1;let d1:=W.nDoms;let e1:=d1=d1;let g1:=W.time=W.time;let h1:=d0∧(∀k1:Nat,k1<c0→True∧W.ram k1=W.ram k1);let l1:=g0∧(∀o1:Nat,o1<e0→True∧W.kinds o1=W.kinds o1);let q1:=w0∧(∀u1:Nat,u1<v0→True∧W.bits u1=W.bits u1);let v1:=a1∧(∀w1:Nat,let x1:=W.readyN w1;w1<z0→True∧x1=x1∧(∀y1:Nat,y1<x1→True∧W.ready w1 y1=W.ready w1 y1));let z1:=(e1∧(∀a2:Nat,a2<d1→True∧W.doms a2=W.doms a2))∧True;let b2:=0≤t∧t<(l0:Int);let c2:=0≤a∧a<(q0:Int);let d2:=Int.toNat a;let e2:=0+d2;let g2:=W.linesN e2;let h2:=true=true;let k2:=True∧h2;let l2:=g2+1;let o2:=0=0;let q2:=Wd.mk c0 W.ram e0 W.kinds h0 W.slots l0 (sdS W (Int.toNat t) a s) q0 (sdN W d2) (sdL W t d2) v0 W.bits x0 (ofC W t) z0 W.readyN W.ready b1 W.tlbsN W.tlbs d1 W.doms W.time;((a0=a0∧t=t∧True)∧((((((((((((True∧b0∧d0)∧b0∧g0)∧b0∧k0)∧b0∧o0)∧b0∧u0)∧b0∧w0)∧b0∧y0)∧b0∧a1)∧b0∧c1)∧b0∧e1)∧g1)∧h1∧l1∧(k0∧(∀u2:Nat,let v2:=W.slots u2;let w2:=v2.kind;let x2:=v2.base;let y2:=v2.len;let z2:=v2.mark;let a3:=v2.rights;let b3:=v2.badge;let c3:=v2.from_;u2<h0→((((((True∧w2=w2)∧x2=x2)∧y2=y2)∧z2=z2)∧a3=a3)∧b3=b3)∧c3=c3))∧(o0∧(∀d3:Nat,let e3:=W.tasks d3;let g3:=e3.prio;let h3:=e3.node;let k3:=e3.space;let l3:=e3.helper;let o3:=e3.loc;let q3:=e3.word;
    let u3:=e3.badge;let v3:=e3.owes;let w3:=e3.core;let x3:=e3.dom;d3<l0→(((((((((((((((((((True∧e3.r0=e3.r0)∧e3.r1=e3.r1)∧e3.r2=e3.r2)∧e3.r3=e3.r3)∧e3.r4=e3.r4)∧e3.r5=e3.r5)∧e3.r6=e3.r6)∧e3.r7=e3.r7)∧e3.pc=e3.pc)∧e3.st=e3.st)∧g3=g3)∧h3=h3)∧k3=k3)∧l3=l3)∧o3=o3)∧q3=q3)∧u3=u3)∧v3=v3)∧w3=w3)∧x3=x3))∧(u0∧(∀y3:Nat,let z3:=W.linesN y3;y3<q0→True∧z3=z3∧(∀a4:Nat,a4<z3→True∧W.lines y3 a4=W.lines y3 a4)))∧q1∧(y0∧(∀b4:Nat,b4<x0→True∧W.cores b4=W.cores b4))∧v1∧(c1∧(∀c4:Nat,let d4:=W.tlbsN c4;c4<b1→True∧d4=d4∧(∀e4:Nat,let g4:=W.tlbs c4 e4;let h4:=g4.sp;let k4:=g4.pg;let l4:=g4.fr;let o4:=g4.wr;e4<d4→(((True∧h4=h4)∧k4=k4)∧l4=l4)∧o4=o4)))∧z1)∧s_offR.match_1 (fun q4:X_offR=>Prop) (X_offR.mk t W) (fun u4:Int=>fun v4:Wd=>v4.nCores≤100000))∧b2∧(∀w4:Nat,false=false)∧b2∧(∀x4:Nat,false=false)∧tn 11 (c2∧True∧(g2*8≤140737488355328∧(∀y4:Nat,h2))∧tn 2 (tn 2 True∧(((∀z4:Nat,k2)∧(∀a5:Nat,k2)∧True)∧(g2+1)*8≤140737488355328∧(∀b5:Nat,h2))∧(l2*8≤140737488355328∧(∀c5:Nat,h2))∧c2∧(∀d5:Nat,Nat.beq 1 1=true)∧True∧(((((((((((True∧o2∧d0)∧o2∧g0)∧o2∧k0)∧o2∧o0)∧o2∧u0)∧o2∧w0)∧o2∧y0)∧o2∧a1)∧o2∧c1)∧o2∧e1)∧g1)∧h1∧l1∧(k0∧(∀e5:Nat,let g5:=W.slots e5;let h5:=q2.slots e5;e5<h0→((((((True∧g5.kind=h5.kind)∧g5.base=h5.base)∧g5.len=h5.len)∧g5.mark=h5.mark)∧g5.rights=h5.rights)∧g5.badge=h5.badge)∧g5.from_=h5.from_))∧(o0∧(∀k5:Nat,let l5:=W.tasks k5;let o5:=q2.tasks k5;let q5:=Nat.beq k5 (0+Int.toNat t);k5<l0→(((((((((((((((((((True∧l5.r0=o5.r0)∧l5.r1=o5.r1)∧l5.r2=o5.r2)∧l5.r3=o5.r3)∧l5.r4=o5.r4)∧l5.r5=o5.r5)∧l5.r6=o5.r6)∧
    l5.r7=o5.r7)∧l5.pc=o5.pc)∧cond q5 s l5.st=o5.st)∧l5.prio=o5.prio)∧l5.node=o5.node)∧l5.space=o5.space)∧l5.helper=o5.helper)∧cond q5 a l5.loc=o5.loc)∧l5.word=o5.word)∧l5.badge=o5.badge)∧l5.owes=o5.owes)∧l5.core=o5.core)∧l5.dom=o5.dom))∧(u0∧(∀u5:Nat,u5<q0→True∧cond (Nat.beq u5 e2) l2 (W.linesN u5)=sdN W d2 u5∧(∀v5:Nat,v5<sdN W d2 u5→True∧cond (Nat.beq u5 e2) (cond (Nat.blt v5 g2) (W.lines e2 (0+(0+v5))) (List.getD [t] (0+(v5-g2)) 0)) (W.lines u5 v5)=sdL W t d2 u5 v5)))∧q1∧(y0∧(∀w5:Nat,w5<x0→True∧ofC W t w5=ofC W t w5))∧v1∧(c1∧(∀x5:Nat,let y5:=W.tlbsN x5;x5<b1→True∧y5=y5∧(∀z5:Nat,let a6:=W.tlbs x5 z5;let b6:=q2.tlbs x5 z5;z5<y5→(((True∧a6.sp=b6.sp)∧a6.pg=b6.pg)∧a6.fr=b6.fr)∧a6.wr=b6.wr)))∧z1))
set_option maxHeartbeats 1000000 in
theorem ok_stands : FnOK Tryz.prog glN 103 c_stands := ok_of (.cons ok_offR .nil) false Tryz.call103 Tryz.func103 (fun _ => []) (V := V_stands) (fun _ => by kernel_rfl) fun ⟨t, a, s, W⟩ hp => by
  dsimp only [s_stands] at hp
  dsimp only [V_stands, tn, w64]
  simp only [std, stb, eq_self, implies_true, Bool.cond_self]
  try simp only [wd_eta]
  obtain ⟨t0, t1, hl, hc⟩ := hp
  obtain ⟨a0, a1, hn, _⟩ := hl
  refine ⟨hc, ⟨t0, t1⟩, ⟨t0, t1⟩, ⟨a0, a1⟩, by omega, by omega, by omega, ⟨a0, a1⟩, fun _ => rfl, fun j _ => ?_, fun j _ => ⟨rfl, fun k hk => sdL_eq hk⟩⟩
  rcases Decidable.em (j = t.toNat) with h | h
  · subst h; simp only [Nat.beq_refl, cond_true]; unfold sdS; rw [updF_at]; exact ⟨⟨⟨⟨⟨⟨⟨⟨⟨⟨⟨⟨⟨⟨⟨⟨⟨⟨⟨rfl, rfl⟩, rfl⟩, rfl⟩, rfl⟩, rfl⟩, rfl⟩, rfl⟩, rfl⟩, rfl⟩, rfl⟩, rfl⟩, rfl⟩, rfl⟩, rfl⟩, rfl⟩, rfl⟩, rfl⟩, rfl⟩, rfl⟩
  · simp only [beq_ne h, cond_false]; unfold sdS; rw [updF_ne h]; exact run20 rfl
structure X_wait_ where
  (t a s : Int) (W : Wd)
def s_wait_ : Sy.Spec := ⟨X_wait_, fun ⟨t, a, s, _⟩ => [.ptr 0 0 none 0 0, .v (.int .i64 t), .v (.int .i64 a), .v (.int .i64 s)], fun ⟨_, _, _, W⟩ => wMem W, fun ⟨t, a, _, W⟩ => OfP W t ∧ LnP W a, fun _ => .tp 0 (lsv []), fun ⟨t, a, s, W⟩ => wMem (stdW W t a s),
  fun args mem => match args with | [a0, a1, a2, a3] => some ⟨intD (a1), intD (a2), intD (a3), wMJD mem 0⟩ | _ => none⟩
def c_wait_ : Con := ⟨[true], s_wait_.g, none⟩
def V_wait_ : X_wait_ → Prop := fun ⟨t, a, s, W⟩ => let a0:=SV.ptr 0 0 none 0 0;let b0:=0=0;let c0:=W.nRam;let d0:=c0=c0;let e0:=W.nKinds;let g0:=e0=e0;let h0:=W.nSlots;let k0:=h0=h0;let l0:=W.nTasks;let o0:=l0=l0;let q0:=W.nLines;let u0:=q0=q0;let v0:=W.nBits;let w0:=v0=v0;let x0:=W.nCores;let y0:=x0=x0;let z0:=W.nReady;let a1:=z0=z0;let b1:=W.nTlbs;let c1:=b1=b1;let d1:=W.nDoms;let e1:=d1=d1;let g1:=W.time=W.time;let h1:=d0∧(∀k1:Nat,k1<c0→True∧W.ram k1=W.ram k1);let l1:=g0∧(∀o1:Nat,o1<e0→True∧W.kinds o1=W.kinds o1);let q1:=w0∧(∀u1:Nat,u1<v0→True∧W.bits u1=W.bits u1);let v1:=a1∧(∀w1:Nat,let x1:=W.readyN w1;w1<z0→True∧x1=x1∧(∀y1:Nat,y1<x1→True∧W.ready w1 y1=W.ready w1 y1));let z1:=(e1∧(∀a2:Nat,a2<d1→True∧W.doms a2=W.doms a2))∧True;let b2:=0≤t∧t<(l0:Int);let c2:=0≤a∧a<(q0:Int);let d2:=true=true;let e2:=True∧d2;let g2:=Int.toNat a;let h2:=0+g2;let k2:=W.linesN h2;let l2:=k2+1;let o2:=0=0;let q2:=Wd.mk c0 W.ram e0 W.kinds h0 W.slots l0 (sdS W (Int.toNat t) a s) q0 (sdN W g2) (sdL W t g2) v0 W.bits x0 (ofC W t) z0 W.readyN W.ready b1 W.tlbsN W.tlbs d1 W.doms W.time;((a0=a0∧t=t∧True)∧((((((((((((True∧b0∧d0)∧b0∧g0)∧b0∧k0)∧b0∧o0)∧b0∧u0)∧b0∧w0)∧b0∧y0)∧b0∧a1)∧b0∧c1)∧b0∧e1)∧g1)∧h1∧l1∧(k0∧(∀u2:Nat,let v2:=W.slots u2;let w2:=v2.kind;let x2:=v2.base;let y2:=v2.len;let z2:=v2.mark;let a3:=v2.rights;let b3:=v2.badge;let c3:=v2.from_;u2<h0→((((((True∧w2=w2)∧x2=x2)∧y2=y2)∧z2=z2)∧a3=a3)∧b3=b3)∧c3=c3))∧(o0∧(∀d3:Nat,let e3:=W.tasks d3;let g3:=e3.prio;let h3:=e3.node;let k3:=e3.space;let l3:=e3.helper;let o3:=e3.loc;let q3:=e3.word;
    let u3:=e3.badge;let v3:=e3.owes;let w3:=e3.core;let x3:=e3.dom;d3<l0→(((((((((((((((((((True∧e3.r0=e3.r0)∧e3.r1=e3.r1)∧e3.r2=e3.r2)∧e3.r3=e3.r3)∧e3.r4=e3.r4)∧e3.r5=e3.r5)∧e3.r6=e3.r6)∧e3.r7=e3.r7)∧e3.pc=e3.pc)∧e3.st=e3.st)∧g3=g3)∧h3=h3)∧k3=k3)∧l3=l3)∧o3=o3)∧q3=q3)∧u3=u3)∧v3=v3)∧w3=w3)∧x3=x3))∧(u0∧(∀y3:Nat,let z3:=W.linesN y3;y3<q0→True∧z3=z3∧(∀a4:Nat,a4<z3→True∧W.lines y3 a4=W.lines y3 a4)))∧q1∧(y0∧(∀b4:Nat,b4<x0→True∧W.cores b4=W.cores b4))∧v1∧(c1∧(∀c4:Nat,let d4:=W.tlbsN c4;c4<b1→True∧d4=d4∧(∀e4:Nat,let g4:=W.tlbs c4 e4;let h4:=g4.sp;let k4:=g4.pg;let l4:=g4.fr;let o4:=g4.wr;e4<d4→(((True∧h4=h4)∧k4=k4)∧l4=l4)∧o4=o4)))∧z1)∧s_offP.match_1 (fun q4:X_offP=>Prop) (X_offP.mk t W) (fun u4:Int=>fun v4:Wd=>OfP v4 u4))∧tn 12 (b2∧(∀w4:Nat,false=false)∧b2∧(∀x4:Nat,false=false)∧tn 10 (c2∧tn 3 (tn 2 True∧(((∀y4:Nat,True∧(∀z4:Nat,e2))∧(∀a5:Nat,e2)∧True)∧True∧(k2+1)*8≤140737488355328∧(∀b5:Nat,d2))∧(True∧l2*8≤140737488355328∧(∀c5:Nat,d2))∧c2∧(h2=h2∧(∀d5:Nat,Nat.beq 1 1=true))∧True∧(((((((((((True∧o2∧d0)∧o2∧g0)∧o2∧k0)∧o2∧o0)∧o2∧u0)∧o2∧w0)∧o2∧y0)∧o2∧a1)∧o2∧c1)∧o2∧e1)∧g1)∧h1∧l1∧(k0∧(∀e5:Nat,let g5:=W.slots e5;let h5:=q2.slots e5;e5<h0→((((((True∧g5.kind=h5.kind)∧g5.base=h5.base)∧g5.len=h5.len)∧g5.mark=h5.mark)∧g5.rights=h5.rights)∧g5.badge=h5.badge)∧g5.from_=h5.from_))∧(o0∧(∀k5:Nat,let l5:=W.tasks k5;let o5:=q2.tasks k5;let q5:=Nat.beq k5 (0+Int.toNat t);k5<l0→(((((((((((((((((((True∧l5.r0=o5.r0)∧l5.r1=o5.r1)∧l5.r2=o5.r2)∧l5.r3=o5.r3)∧l5.r4=o5.r4)∧l5.r5=o5.r5)∧l5.r6=o5.r6)∧l5.r7=o5.r7)∧
    l5.pc=o5.pc)∧cond q5 s l5.st=o5.st)∧l5.prio=o5.prio)∧l5.node=o5.node)∧l5.space=o5.space)∧l5.helper=o5.helper)∧cond q5 a l5.loc=o5.loc)∧l5.word=o5.word)∧l5.badge=o5.badge)∧l5.owes=o5.owes)∧l5.core=o5.core)∧l5.dom=o5.dom))∧(u0∧(∀u5:Nat,u5<q0→True∧cond (Nat.beq u5 h2) l2 (W.linesN u5)=sdN W g2 u5∧(∀v5:Nat,v5<sdN W g2 u5→True∧cond (Nat.beq u5 h2) (cond (Nat.blt v5 k2) (W.lines h2 (0+v5)) (List.getD [t] (0+(v5-k2)) 0)) (W.lines u5 v5)=sdL W t g2 u5 v5)))∧q1∧(y0∧(∀w5:Nat,w5<x0→True∧ofC W t w5=ofC W t w5))∧v1∧(c1∧(∀x5:Nat,let y5:=W.tlbsN x5;x5<b1→True∧y5=y5∧(∀z5:Nat,let a6:=W.tlbs x5 z5;let b6:=q2.tlbs x5 z5;z5<y5→(((True∧a6.sp=b6.sp)∧a6.pg=b6.pg)∧a6.fr=b6.fr)∧a6.wr=b6.wr)))∧z1)))
set_option maxHeartbeats 1000000 in
theorem ok_wait_ : FnOK Tryz.prog glN 151 c_wait_ := ok_of (.cons ok_offP .nil) false Tryz.call151 Tryz.func151 (fun _ => []) (V := V_wait_) (fun _ => by kernel_rfl) fun ⟨t, a, s, W⟩ hp => by
  dsimp only [s_wait_] at hp
  dsimp only [V_wait_, tn, w64]
  simp only [std, stb, eq_self, implies_true, Bool.cond_self]
  try simp only [wd_eta]
  obtain ⟨hO, hl⟩ := hp
  have t0 := hO.t0
  have t1 := hO.t1
  obtain ⟨a0, a1, hn, _⟩ := hl
  refine ⟨hO, ⟨t0, t1⟩, ⟨t0, t1⟩, ⟨a0, a1⟩, by omega, by omega, ⟨a0, a1⟩, fun _ => rfl, fun j _ => ?_, fun j _ => ⟨rfl, fun k hk => sdL_eq hk⟩⟩
  rcases Decidable.em (j = t.toNat) with h | h
  · subst h; simp only [Nat.beq_refl, cond_true]; unfold sdS; rw [updF_at]; exact ⟨⟨⟨⟨⟨⟨⟨⟨⟨⟨⟨⟨⟨⟨⟨⟨⟨⟨⟨rfl, rfl⟩, rfl⟩, rfl⟩, rfl⟩, rfl⟩, rfl⟩, rfl⟩, rfl⟩, rfl⟩, rfl⟩, rfl⟩, rfl⟩, rfl⟩, rfl⟩, rfl⟩, rfl⟩, rfl⟩, rfl⟩, rfl⟩
  · simp only [beq_ne h, cond_false]; unfold sdS; rw [updF_ne h]; exact run20 rfl
structure X_front where
  (a : Int) (wt : Bool) (W : Wd)
def s_front : Sy.Spec := ⟨X_front, fun ⟨a, wt, _⟩ => [.ptr 0 0 none 0 0, .v (.int .i64 a), .v (.bool wt)], fun ⟨_, _, W⟩ => wMem W, fun ⟨a, _, W⟩ => LnP W a, fun ⟨a, wt, W⟩ => .v (.int .i64 (frtI W a.toNat (fntB W a.toNat fun s => (s == 4) == wt))), fun ⟨a, wt, W⟩ => wMem (frtW W a.toNat (fntB W a.toNat fun s => (s == 4) == wt)),
  fun args mem => match args with | [a0, a1, a2] => some ⟨intD (a1), boolD (a2), wMJD mem 0⟩ | _ => none⟩
def c_front : Con := ⟨[true], s_front.g, none⟩
def V_front : X_front → Prop := fun ⟨a, wt, W⟩ => let a0:=W.nLines;let b0:=0≤a∧a<(a0:Int);let c0:=Int.toNat a;let d0:=((W.linesN (0+c0):Nat):Int);let e0:=d0==0;let g0:=fntB W c0 (fun h0:Int=>(h0==4)==wt);let k0:=frtI W c0 g0;let l0:=0=0;let o0:=W.nRam;let q0:=o0=o0;let u0:=W.nKinds;let v0:=u0=u0;let w0:=W.nSlots;let x0:=w0=w0;let y0:=W.nTasks;let z0:=y0=y0;let a1:=a0=a0;let b1:=W.nBits;let c1:=b1=b1;let d1:=W.nCores;let e1:=d1=d1;let g1:=W.nReady;let h1:=g1=g1;let k1:=W.nTlbs;let l1:=k1=k1;let o1:=W.nDoms;let q1:=o1=o1;let u1:=((((((((((True∧l0∧q0)∧l0∧v0)∧l0∧x0)∧l0∧z0)∧l0∧a1)∧l0∧c1)∧l0∧e1)∧l0∧h1)∧l0∧l1)∧l0∧q1)∧W.time=W.time;let v1:=q0∧(∀w1:Nat,w1<o0→True∧W.ram w1=W.ram w1);let x1:=v0∧(∀y1:Nat,y1<u0→True∧W.kinds y1=W.kinds y1);let z1:=Wd.mk o0 W.ram u0 W.kinds w0 W.slots y0 (frtS W c0 g0) a0 (frtN W c0 g0) (frtL W c0 g0) b1 W.bits d1 W.cores g1 W.readyN W.ready k1 W.tlbsN W.tlbs o1 W.doms W.time;let a2:=x0∧(∀b2:Nat,let c2:=W.slots b2;let d2:=z1.slots b2;b2<w0→((((((True∧c2.kind=d2.kind)∧c2.base=d2.base)∧c2.len=d2.len)∧c2.mark=d2.mark)∧c2.rights=d2.rights)∧c2.badge=d2.badge)∧c2.from_=d2.from_);let e2:=(c1∧(∀g2:Nat,g2<b1→True∧W.bits g2=W.bits g2))∧(e1∧(∀h2:Nat,h2<d1→True∧W.cores h2=W.cores h2))∧(h1∧(∀k2:Nat,let l2:=W.readyN k2;k2<g1→True∧l2=l2∧(∀o2:Nat,o2<l2→True∧W.ready k2 o2=W.ready k2 o2)))∧(l1∧(∀q2:Nat,let u2:=W.tlbsN q2;q2<k1→True∧u2=u2∧(∀v2:Nat,let w2:=W.tlbs q2 v2;let x2:=z1.tlbs q2 v2;v2<u2→(((True∧w2.sp=x2.sp)∧w2.pg=x2.pg)∧w2.fr=x2.fr)∧w2.wr=x2.wr)))∧(q1∧(∀y2:Nat,y2<o1→True∧W.doms y2=W.doms y2))∧True;
    let z2:=(-1)=k0∧u1∧v1∧x1∧a2∧(z0∧(∀a3:Nat,let b3:=W.tasks a3;let c3:=z1.tasks a3;a3<y0→(((((((((((((((((((True∧b3.r0=c3.r0)∧b3.r1=c3.r1)∧b3.r2=c3.r2)∧b3.r3=c3.r3)∧b3.r4=c3.r4)∧b3.r5=c3.r5)∧b3.r6=c3.r6)∧b3.r7=c3.r7)∧b3.pc=c3.pc)∧b3.st=c3.st)∧b3.prio=c3.prio)∧b3.node=c3.node)∧b3.space=c3.space)∧b3.helper=c3.helper)∧b3.loc=c3.loc)∧b3.word=c3.word)∧b3.badge=c3.badge)∧b3.owes=c3.owes)∧b3.core=c3.core)∧b3.dom=c3.dom))∧(a1∧(∀d3:Nat,let e3:=frtN W c0 g0 d3;d3<a0→True∧W.linesN d3=e3∧(∀g3:Nat,g3<e3→True∧W.lines d3 g3=frtL W c0 g0 d3 g3)))∧e2;let h3:=0+c0;let k3:=((W.linesN h3:Nat):Int);let l3:=W.lines h3 0;let o3:=0≤l3∧l3<(y0:Int);let q3:=0+Int.toNat l3;let u3:=((W.tasks q3).st==4) !=wt;let v3:=Int.toNat k3-Int.toNat 1;b0∧(d0≤9223372036854775807→(e0=true→z2)∧(e0=false→b0∧((0:Int)≤0∧0<k3)∧o3∧(u3=true→z2)∧(u3=false→tn 11 (b0∧True∧((0:Int)≤1∧1≤k3∧k3≤k3)∧(v3*8≤140737488355328∧(∀w3:Nat,true=true))∧b0∧(∀x3:Nat,Nat.beq 1 1=true)∧o3∧(∀y3:Nat,false=false)∧l3=k0∧u1∧v1∧x1∧a2∧(z0∧(∀z3:Nat,let a4:=W.tasks z3;let b4:=z1.tasks z3;z3<y0→(((((((((((((((((((True∧a4.r0=b4.r0)∧a4.r1=b4.r1)∧a4.r2=b4.r2)∧a4.r3=b4.r3)∧a4.r4=b4.r4)∧a4.r5=b4.r5)∧a4.r6=b4.r6)∧a4.r7=b4.r7)∧a4.pc=b4.pc)∧a4.st=b4.st)∧a4.prio=b4.prio)∧a4.node=b4.node)∧a4.space=b4.space)∧a4.helper=b4.helper)∧cond (Nat.beq z3 q3) (-1) a4.loc=b4.loc)∧a4.word=b4.word)∧a4.badge=b4.badge)∧a4.owes=b4.owes)∧a4.core=b4.core)∧a4.dom=b4.dom))∧(a1∧(∀c4:Nat,let d4:=frtN W c0 g0 c4;c4<a0→True∧cond (Nat.beq c4 h3) v3 (W.linesN c4)=d4∧(∀e4:Nat,e4<d4→True∧
    cond (Nat.beq c4 h3) (W.lines h3 (0+Int.toNat 1+e4)) (W.lines c4 e4)=frtL W c0 g0 c4 e4)))∧e2))))
set_option maxHeartbeats 1000000 in
theorem ok_front : FnOK Tryz.prog glN 102 c_front := ok_of .nil false Tryz.call102 Tryz.func102 (fun _ => []) (V := V_front) (fun _ => by kernel_rfl) fun ⟨a, wt, W⟩ hp => by
  dsimp only [s_front] at hp
  dsimp only [V_front, tn, w64]
  simp only [std, stb, eq_self, implies_true, Bool.cond_self]
  try simp only [wd_eta]
  obtain ⟨a0, a1, hn, hl⟩ := hp
  refine ⟨⟨a0, a1⟩, fun _ => ⟨fun h0 => ?_, fun h0 => ⟨⟨a0, a1⟩, ?_⟩⟩⟩
  · have e : fntB W a.toNat (fun h0 => (h0 == 4) == wt) = false := fn0 (len_0 h0)
    rw [e]; exact ⟨rfl, fun j _ => run20 rfl, fun d _ => ⟨rfl, fun g _ => rfl⟩⟩
  have h1 := len_n h0
  have hl := hl (by omega)
  refine ⟨⟨by decide, by omega⟩, hl, fun h2 => ?_, fun h2 => ⟨⟨a0, a1⟩, ⟨by decide, by omega, by omega⟩, by omega, ⟨a0, a1⟩, fun _ => rfl, hl, ?_⟩⟩
  · have e : fntB W a.toNat (fun h0 => (h0 == 4) == wt) = false := fn1 h1 (by revert h2; cases ((W.tasks (W.lines a.toNat 0).toNat).st == 4) <;> cases wt <;> simp)
    rw [e]; exact ⟨rfl, fun j _ => run20 rfl, fun d _ => ⟨rfl, fun g _ => rfl⟩⟩
  · have e : fntB W a.toNat (fun h0 => (h0 == 4) == wt) = true := fn1 h1 (by revert h2; cases ((W.tasks (W.lines a.toNat 0).toNat).st == 4) <;> cases wt <;> simp)
    rw [e]; refine ⟨rfl, fun j _ => ?_, fun c _ => ⟨rfl, fun g hg => ?_⟩⟩
    · rcases Decidable.em (j = (W.lines a.toNat 0).toNat) with h | h
      · subst h; simp only [Nat.beq_refl, cond_true]; unfold frtS frS; rw [updF_at]; exact ⟨⟨⟨⟨⟨⟨⟨⟨⟨⟨⟨⟨⟨⟨⟨⟨⟨⟨⟨rfl, rfl⟩, rfl⟩, rfl⟩, rfl⟩, rfl⟩, rfl⟩, rfl⟩, rfl⟩, rfl⟩, rfl⟩, rfl⟩, rfl⟩, rfl⟩, rfl⟩, rfl⟩, rfl⟩, rfl⟩, rfl⟩, rfl⟩
      · simp only [beq_ne h, cond_false]; unfold frtS frS; rw [updF_ne h]; exact run20 rfl
    · rcases Decidable.em (c = a.toNat) with h | h
      · subst h; simp only [Nat.beq_refl, cond_true]; unfold frtL frL; rw [updF_at]; exact congrArg _ (Nat.add_comm _ _)
      · simp only [beq_ne h, cond_false]; unfold frtL frL; rw [updF_ne h]; rfl
structure X_first_ where
  (a : Int) (n : Nat) (ss : Nat → Int) (W : Wd)
def s_first_ : Sy.Spec := ⟨X_first_, fun ⟨a, n, ss, _⟩ => [.ptr 0 0 none 0 0, .v (.int .i64 a), .sl true 1 n (fun i_ _ => .v (.int .i64 (ss i_)))], fun ⟨_, _, _, W⟩ => wMem W, fun ⟨a, n, _, W⟩ => LnP W a ∧ n ≤ 1000, fun ⟨a, n, ss, W⟩ => .v (.int .i64 (frtI W a.toNat (fntB W a.toNat fun s => anyB n fun k => s == ss k))), fun ⟨a, n, ss, W⟩ => wMem (frtW W a.toNat (fntB W a.toNat fun s => anyB n fun k => s == ss k)),
  fun args mem => match args with | [a0, a1, a2] => some ⟨intD (a1), slN a2, fun i => intD (slF a2 i 0), wMJD mem 0⟩ | _ => none⟩
def c_first_ : Con := ⟨[true], s_first_.g, none⟩
def V_first_ : X_first_ → Prop := fun ⟨a, n, ss, W⟩ => let a0:=W.nLines;let b0:=0≤a∧a<(a0:Int);let c0:=Int.toNat a;let d0:=((W.linesN (0+c0):Nat):Int);let e0:=d0==0;let g0:=fntB W c0 (fun h0:Int=>anyB n (fun k0:Nat=>h0==ss k0));let l0:=frtI W c0 g0;let o0:=0=0;let q0:=W.nRam;let u0:=q0=q0;let v0:=W.nKinds;let w0:=v0=v0;let x0:=W.nSlots;let y0:=x0=x0;let z0:=W.nTasks;let a1:=z0=z0;let b1:=a0=a0;let c1:=W.nBits;let d1:=c1=c1;let e1:=W.nCores;let g1:=e1=e1;let h1:=W.nReady;let k1:=h1=h1;let l1:=W.nTlbs;let o1:=l1=l1;let q1:=W.nDoms;let u1:=q1=q1;let v1:=W.time=W.time;let w1:=((((((((((True∧o0∧u0)∧o0∧w0)∧o0∧y0)∧o0∧a1)∧o0∧b1)∧o0∧d1)∧o0∧g1)∧o0∧k1)∧o0∧o1)∧o0∧u1)∧v1;let x1:=u0∧(∀y1:Nat,y1<q0→True∧W.ram y1=W.ram y1);let z1:=w0∧(∀a2:Nat,a2<v0→True∧W.kinds a2=W.kinds a2);let b2:=Wd.mk q0 W.ram v0 W.kinds x0 W.slots z0 (frtS W c0 g0) a0 (frtN W c0 g0) (frtL W c0 g0) c1 W.bits e1 W.cores h1 W.readyN W.ready l1 W.tlbsN W.tlbs q1 W.doms W.time;let c2:=y0∧(∀d2:Nat,let e2:=W.slots d2;let g2:=b2.slots d2;d2<x0→((((((True∧e2.kind=g2.kind)∧e2.base=g2.base)∧e2.len=g2.len)∧e2.mark=g2.mark)∧e2.rights=g2.rights)∧e2.badge=g2.badge)∧e2.from_=g2.from_);let h2:=d1∧(∀k2:Nat,k2<c1→True∧W.bits k2=W.bits k2);let l2:=g1∧(∀o2:Nat,o2<e1→True∧W.cores o2=W.cores o2);let q2:=k1∧(∀u2:Nat,let v2:=W.readyN u2;u2<h1→True∧v2=v2∧(∀w2:Nat,w2<v2→True∧W.ready u2 w2=W.ready u2 w2));let x2:=(u1∧(∀y2:Nat,y2<q1→True∧W.doms y2=W.doms y2))∧True;
    let z2:=h2∧l2∧q2∧(o1∧(∀a3:Nat,let b3:=W.tlbsN a3;a3<l1→True∧b3=b3∧(∀c3:Nat,let d3:=W.tlbs a3 c3;let e3:=b2.tlbs a3 c3;c3<b3→(((True∧d3.sp=e3.sp)∧d3.pg=e3.pg)∧d3.fr=e3.fr)∧d3.wr=e3.wr)))∧x2;let g3:=(-1)=l0∧w1∧x1∧z1∧c2∧(a1∧(∀h3:Nat,let k3:=W.tasks h3;let l3:=b2.tasks h3;h3<z0→(((((((((((((((((((True∧k3.r0=l3.r0)∧k3.r1=l3.r1)∧k3.r2=l3.r2)∧k3.r3=l3.r3)∧k3.r4=l3.r4)∧k3.r5=l3.r5)∧k3.r6=l3.r6)∧k3.r7=l3.r7)∧k3.pc=l3.pc)∧k3.st=l3.st)∧k3.prio=l3.prio)∧k3.node=l3.node)∧k3.space=l3.space)∧k3.helper=l3.helper)∧k3.loc=l3.loc)∧k3.word=l3.word)∧k3.badge=l3.badge)∧k3.owes=l3.owes)∧k3.core=l3.core)∧k3.dom=l3.dom))∧(b1∧(∀o3:Nat,let q3:=frtN W c0 g0 o3;o3<a0→True∧W.linesN o3=q3∧(∀u3:Nat,u3<q3→True∧W.lines o3 u3=frtL W c0 g0 o3 u3)))∧z2;let v3:=0+c0;let w3:=((W.linesN v3:Nat):Int);let x3:=(n:Int);let y3:=SV.ptr 0 0 none 0 0=SV.ptr 0 0 none 0 0;let z3:=0=0;
    let a4:=(((((((((((True∧z3∧u0)∧z3∧w0)∧z3∧y0)∧z3∧a1)∧z3∧b1)∧z3∧d1)∧z3∧g1)∧z3∧k1)∧z3∧o1)∧z3∧u1)∧v1)∧x1∧z1∧(y0∧(∀b4:Nat,let c4:=W.slots b4;let d4:=c4.kind;let e4:=c4.base;let g4:=c4.len;let h4:=c4.mark;let k4:=c4.rights;let l4:=c4.badge;let o4:=c4.from_;b4<x0→((((((True∧d4=d4)∧e4=e4)∧g4=g4)∧h4=h4)∧k4=k4)∧l4=l4)∧o4=o4))∧(a1∧(∀q4:Nat,let u4:=W.tasks q4;let v4:=u4.prio;let w4:=u4.node;let x4:=u4.space;let y4:=u4.helper;let z4:=u4.loc;let a5:=u4.word;let b5:=u4.badge;let c5:=u4.owes;let d5:=u4.core;let e5:=u4.dom;q4<z0→(((((((((((((((((((True∧u4.r0=u4.r0)∧u4.r1=u4.r1)∧u4.r2=u4.r2)∧u4.r3=u4.r3)∧u4.r4=u4.r4)∧u4.r5=u4.r5)∧u4.r6=u4.r6)∧u4.r7=u4.r7)∧u4.pc=u4.pc)∧u4.st=u4.st)∧v4=v4)∧w4=w4)∧x4=x4)∧y4=y4)∧z4=z4)∧a5=a5)∧b5=b5)∧c5=c5)∧d5=d5)∧e5=e5))∧(b1∧(∀g5:Nat,let h5:=W.linesN g5;g5<a0→True∧h5=h5∧(∀k5:Nat,k5<h5→True∧W.lines g5 k5=W.lines g5 k5)))∧h2∧l2∧q2∧(o1∧(∀l5:Nat,let o5:=W.tlbsN l5;l5<l1→True∧o5=o5∧(∀q5:Nat,let u5:=W.tlbs l5 q5;let v5:=u5.sp;let w5:=u5.pg;let x5:=u5.fr;let y5:=u5.wr;q5<o5→(((True∧v5=v5)∧w5=w5)∧x5=x5)∧y5=y5)))∧x2;let z5:=(W.tasks (Int.toNat (W.lines c0 0))).st;let a6:=W.lines v3 0;let b6:=0≤a6∧a6<(z0:Int);let c6:=0+Int.toNat a6;let d6:=(W.tasks c6).st;let e6:=Int.toNat w3-Int.toNat 1;b0∧(d0≤9223372036854775807→(e0=true→g3)∧(e0=false→b0∧((0:Int)≤0∧0<w3)∧(x3≤9223372036854775807→y3∧0=((0:Nat):Int)∧a4∧(0≤n∧(∀g6:Nat,g6<0→(z5==ss g6)=false))∧(∀h6:Nat,let k6:=(h6:Int);let l6:=decide (k6<x3);let o6:=d6==ss (Int.toNat k6);let q6:Int:=k6+1;h6≤n∧(∀u6:Nat,u6<h6→
    (z5==ss u6)=false)→(l6=true→(0≤k6∧k6<x3)∧b6∧(o6=true→tn 11 (b0∧True∧((0:Int)≤1∧1≤w3∧w3≤w3)∧(e6*8≤140737488355328∧(∀v6:Nat,true=true))∧b0∧(∀w6:Nat,Nat.beq 1 1=true)∧b6∧(∀x6:Nat,false=false)∧a6=l0∧w1∧x1∧z1∧c2∧(a1∧(∀y6:Nat,let z6:=W.tasks y6;let a7:=b2.tasks y6;y6<z0→(((((((((((((((((((True∧z6.r0=a7.r0)∧z6.r1=a7.r1)∧z6.r2=a7.r2)∧z6.r3=a7.r3)∧z6.r4=a7.r4)∧z6.r5=a7.r5)∧z6.r6=a7.r6)∧z6.r7=a7.r7)∧z6.pc=a7.pc)∧z6.st=a7.st)∧z6.prio=a7.prio)∧z6.node=a7.node)∧z6.space=a7.space)∧z6.helper=a7.helper)∧cond (Nat.beq y6 c6) (-1) z6.loc=a7.loc)∧z6.word=a7.word)∧z6.badge=a7.badge)∧z6.owes=a7.owes)∧z6.core=a7.core)∧z6.dom=a7.dom))∧(b1∧(∀b7:Nat,let c7:=frtN W c0 g0 b7;b7<a0→True∧cond (Nat.beq b7 v3) e6 (W.linesN b7)=c7∧(∀d7:Nat,d7<c7→True∧cond (Nat.beq b7 v3) (W.lines v3 (0+Int.toNat 1+d7)) (W.lines b7 d7)=frtL W c0 g0 b7 d7)))∧z2))∧(o6=false→w64 q6=q6∧(∃e7:Nat,y3∧q6=(e7:Int)∧a4∧(e7≤n∧(∀g7:Nat,g7<e7→(z5==ss g7)=false))∧n-e7<n-h6)))∧(l6=false→g3)))))
set_option maxHeartbeats 1000000 in
theorem ok_first_ : FnOK Tryz.prog glN 150 c_first_ := ok_of .nil false Tryz.call150 Tryz.func150 (fun ⟨a, n, ss, W⟩ => [.inv (an_fs W a.toNat n ss)]) (V := V_first_) (fun _ => by kernel_rfl) fun ⟨a, n, ss, W⟩ hp => by
  dsimp only [s_first_] at hp
  dsimp only [V_first_, tn, w64]
  simp only [std, stb, eq_self, implies_true, Bool.cond_self]
  try simp only [wd_eta]
  obtain ⟨⟨a0, a1, hn, hl⟩, hk⟩ := hp
  refine ⟨⟨a0, a1⟩, fun _ => ⟨fun h0 => ?_, fun h0 => ⟨⟨a0, a1⟩, ?_⟩⟩⟩
  · have e : fntB W a.toNat (fun h0 => anyB n fun k0 => h0 == ss k0) = false := fn0 (len_0 h0)
    rw [e]; exact ⟨rfl, fun j _ => run20 rfl, fun d _ => ⟨rfl, fun g _ => rfl⟩⟩
  have h1 := len_n h0
  have hl := hl (by omega)
  refine ⟨⟨by decide, by omega⟩, fun _ s hs => ⟨fun h => ?_, fun h => ?_⟩⟩
  · have hlt := lt_of_dec h
    refine ⟨by omega, hl, fun h2 => ⟨⟨a0, a1⟩, ⟨by decide, by omega, by omega⟩, by omega, ⟨a0, a1⟩, fun _ => rfl, hl, ?_⟩, fun h2 => ⟨wr_in (by omega) (by omega), s + 1, by omega, ⟨by omega, fun j hj => ?_⟩, by omega⟩⟩
    · have e : fntB W a.toNat (fun h0 => anyB n fun k0 => h0 == ss k0) = true := fn1 h1 (anyB_iff.2 ⟨s, by omega, h2⟩)
      rw [e]; refine ⟨rfl, fun j _ => ?_, fun c _ => ⟨rfl, fun g hg => ?_⟩⟩
      · rcases Decidable.em (j = (W.lines a.toNat 0).toNat) with h | h
        · subst h; simp only [Nat.beq_refl, cond_true]; unfold frtS frS; rw [updF_at]; exact ⟨⟨⟨⟨⟨⟨⟨⟨⟨⟨⟨⟨⟨⟨⟨⟨⟨⟨⟨rfl, rfl⟩, rfl⟩, rfl⟩, rfl⟩, rfl⟩, rfl⟩, rfl⟩, rfl⟩, rfl⟩, rfl⟩, rfl⟩, rfl⟩, rfl⟩, rfl⟩, rfl⟩, rfl⟩, rfl⟩, rfl⟩, rfl⟩
        · simp only [beq_ne h, cond_false]; unfold frtS frS; rw [updF_ne h]; exact run20 rfl
      · rcases Decidable.em (c = a.toNat) with h | h
        · subst h; simp only [Nat.beq_refl, cond_true]; unfold frtL frL; rw [updF_at]; exact congrArg _ (Nat.add_comm _ _)
        · simp only [beq_ne h, cond_false]; unfold frtL frL; rw [updF_ne h]; rfl
    · rcases Decidable.em (j = s) with e | e
      · rw [e]; exact h2
      · exact hs.2 j (by omega)
  · have hge := ge_of_dec h
    have e : fntB W a.toNat (fun h0 => anyB n fun k0 => h0 == ss k0) = false := fn1 h1 (anyB_false.2 fun i hi => hs.2 i (by omega))
    rw [e]; exact ⟨rfl, fun j _ => run20 rfl, fun d _ => ⟨rfl, fun g _ => rfl⟩⟩
end Go.Proofs.YtdjilaofmdhikaaGreatDoor
set_option linter.unusedVariables false
set_option linter.unusedSimpArgs false
set_option maxRecDepth 100000
namespace Go.Proofs.YtdjilaofmdhikaaGreatDoor
open Go.RowKit Go.Sy
theorem WkP.of {W W' : Wd} {t : Int} (h : WkP W t) (e1 : W'.nTasks = W.nTasks) (e2 : W'.nReady = W.nReady) (e3 : W'.readyN = W.readyN) (e4 : (W'.tasks t.toNat).core = (W.tasks t.toNat).core) (e5 : (W'.tasks t.toNat).prio = (W.tasks t.toNat).prio) : WkP W' t := by
  obtain ⟨t0, t1, r0, r1, c0, c1, p0, p1, n⟩ := h
  have ez : rkZ (W'.tasks t.toNat) = rkZ (W.tasks t.toNat) := by unfold rkZ; rw [e4, e5]
  exact ⟨t0, by rw [e1]; exact t1, by rw [ez]; exact r0, by rw [ez, e2]; exact r1, by rw [e4]; exact c0, by rw [e4]; exact c1, by rw [e5]; exact p0, by rw [e5]; exact p1, by unfold rkOf; rw [ez, e3]; exact n⟩
theorem OfP.of {W W' : Wd} {t : Int} (h : OfP W t) (e1 : W'.nTasks = W.nTasks) (e2 : W'.nCores = W.nCores) (e3 : W'.cores = W.cores) (e4 : (W'.tasks t.toNat).core = (W.tasks t.toNat).core) : OfP W' t := by
  obtain ⟨t0, t1, c0, c1, u⟩ := h
  exact ⟨t0, by rw [e1]; exact t1, by rw [e4]; exact c0, by rw [e4, e2]; exact c1, by rw [e2, e3, e4]; exact u⟩
theorem frt_p {W : Wd} {a i : Nat} {b : Bool} (p : Run → Int) (h : ∀ r : Run, p { r with loc := -1 } = p r) : p ((frtW W a b).tasks i) = p (W.tasks i) := by
  show p (frtS W a b i) = _
  unfold frtS
  cases b
  · rfl
  · exact updF_cp p (h _)
theorem han_p {W : Wd} {t i : Nat} {b g : Int} (p : Run → Int) (h : ∀ r : Run, p { r with r1 := b, r2 := g } = p r) : p ((hanW W t b g).tasks i) = p (W.tasks i) := updF_cp p (h _)
theorem wok_p {W : Wd} {t i : Nat} (p : Run → Int) (h : ∀ r : Run, p { r with st := 1, loc := -1 } = p r) : p ((wokW W t).tasks i) = p (W.tasks i) := updF_cp p (h _)
theorem WkP.frt {W : Wd} {t : Int} {a : Nat} {b : Bool} (h : WkP W t) : WkP (frtW W a b) t := h.of rfl rfl rfl (frt_p Run.core fun _ => rfl) (frt_p Run.prio fun _ => rfl)
theorem WkP.han {W : Wd} {t : Int} {u : Nat} {b g : Int} (h : WkP W t) : WkP (hanW W u b g) t := h.of rfl rfl rfl (han_p Run.core fun _ => rfl) (han_p Run.prio fun _ => rfl)
theorem OfP.frt {W : Wd} {t : Int} {a : Nat} {b : Bool} (h : OfP W t) : OfP (frtW W a b) t := h.of rfl rfl rfl (frt_p Run.core fun _ => rfl)
theorem OfP.han {W : Wd} {t : Int} {u : Nat} {b g : Int} (h : OfP W t) : OfP (hanW W u b g) t := h.of rfl rfl rfl (han_p Run.core fun _ => rfl)
theorem OfP.wok {W : Wd} {t : Int} {u : Nat} (h : OfP W t) : OfP (wokW W u) t := h.of rfl rfl rfl (wok_p Run.core fun _ => rfl)
end Go.Proofs.YtdjilaofmdhikaaGreatDoor
set_option linter.unusedVariables false
set_option linter.unusedSimpArgs false
set_option maxRecDepth 100000
namespace Go.Proofs.YtdjilaofmdhikaaGreatDoor
open Go.RowKit Go.Sy
def actE (W : Wd) (t a k : Int) : Int := bif decide (t < 0) || decide ((W.nKinds : Int) ≤ t) || decide (a < 0) || decide ((W.nKinds : Int) ≤ a) then 2 else bif W.kinds t.toNat != 6 || W.kinds a.toNat != k then 3 else bif W.cores (W.tasks t.toNat).core.toNat == t then 0 else 7
structure AcP (W : Wd) : Prop where
  z : Szd W
  k : ∀ i : Nat, i < W.nTasks → 0 ≤ (W.tasks i).core ∧ (W.tasks i).core < W.nCores
  u : ∀ (t : Int) (j : Nat), 0 ≤ t → j < W.nCores → W.cores j = t → (W.tasks t.toNat).core = j
structure DoP (W : Wd) (t a : Int) : Prop where
  l : LnP W a
  o : OfP W t
  nc : W.nCores ≤ 100000
  ow : -1 ≤ (W.tasks t.toNat).owes
  f : 0 < W.linesN a.toNat → WkP W (W.lines a.toNat 0) ∧ 2 ≤ (W.tasks (W.lines a.toNat 0).toNat).st ∧ (W.tasks (W.lines a.toNat 0).toNat).st ≤ 4
def an_wd (n : Nat) (l : Nat → Int) (q : Nat) : Ann where
  σ := Nat
  rt := []
  sh i := [(q, .v (.int .i64 i))]
  mh _ := []
  inv i := i ≤ n ∧ ∀ j, j < i → farB (l j) 65535 = false
  μ i := n - i
  init := 0
theorem act_in {W : Wd} {t : Int} (h : AcP W) (t0 : 0 ≤ t) (t1 : t < W.nKinds) : inB' W.nCores W.cores t = (W.cores (W.tasks t.toNat).core.toNat == t) := by
  obtain ⟨hz, hk, hu⟩ := h
  have z1 := hz.tasks
  have hc := hk t.toNat (by omega)
  rw [Bool.eq_iff_iff]
  unfold inB'
  rw [anyB_iff]
  constructor
  · rintro ⟨j, hj, he⟩
    have := hu t j t0 hj (eq_of_beq he)
    rw [show (W.tasks t.toNat).core.toNat = j by omega]
    exact he
  · intro he
    exact ⟨(W.tasks t.toNat).core.toNat, by omega, he⟩
structure X_actR where
  (W : Wd) (t a k : Int)
def s_actR : Sy.Spec := ⟨X_actR, fun ⟨W, t, a, k⟩ => [wPT W, .v (.int .i64 t), .v (.int .i64 a), .v (.int .i64 k)], fun _ => [], fun ⟨W, _, _, _⟩ => AcP W, fun ⟨W, t, a, k⟩ => .v (.int .i64 (actE W t a k)), fun _ => [],
  fun args mem => match args with | [a0, a1, a2, a3] => some ⟨wPTD a0, intD (a1), intD (a2), intD (a3)⟩ | _ => none⟩
def c_actR : Con := ⟨[], s_actR.g, none⟩
def V_actR : X_actR → Prop := fun ⟨W, t, a, k⟩ => let a0:=((W.nKinds:Nat):Int);let b0:=cond (cond (cond (decide (t<0)) true (decide (a0≤t))) true (decide (a<0))) true (decide (a0≤a));let c0:=actE W t a k;let d0:=W.kinds (Int.toNat t) !=6;let e0:=cond d0 true (W.kinds (Int.toNat a) !=k);let g0:=W.nCores;let h0:=!inB' g0 W.cores t;(b0=true→2=c0∧True)∧(b0=false→(0≤t∧t<a0)∧(d0=false→0≤a∧a<a0)∧(e0=true→3=c0∧True)∧(e0=false→((t=t∧(g0=g0∧(∀k0:Nat,k0<g0→True∧W.cores k0=W.cores k0))∧True)∧True∧True)∧(h0=true→7=c0∧True)∧(h0=false→0=c0∧True)))
set_option maxHeartbeats 1000000 in
theorem ok_actR : FnOK Tryz.prog glN 39 c_actR := ok_of (.cons ok_inL .nil) false Tryz.call39 Tryz.func39 (fun _ => []) (V := V_actR) (fun _ => by kernel_rfl) fun ⟨W, t, a, k⟩ hp => by
  dsimp only [s_actR] at hp
  dsimp only [V_actR, tn, w64]
  simp only [std, stb, eq_self, implies_true, Bool.cond_self]
  try simp only [wd_eta]
  have hp' := hp
  obtain ⟨hz, hk, hu⟩ := hp
  have z1 := hz.tasks
  unfold actE
  refine ⟨fun h => by rw [h]; rfl, fun h => ?_⟩
  simp only [h, cond_false]
  simp only [Bool.or_eq_false_iff, decide_eq_false_iff_not] at h
  refine ⟨by omega, fun _ => by omega, fun h2 => by rw [h2]; rfl, fun h2 => ?_⟩
  simp only [h2, cond_false, act_in hp' (show 0 ≤ t by omega) (by omega)]
  cases W.cores (W.tasks t.toNat).core.toNat == t <;> simp
structure X_actP where
  (W : Wd) (t a k : Int)
def s_actP : Sy.Spec := ⟨X_actP, fun ⟨W, t, a, k⟩ => [wPT W, .v (.int .i64 t), .v (.int .i64 a), .v (.int .i64 k)], fun _ => [], fun ⟨W, _, _, _⟩ => AcP W, fun ⟨W, t, a, k⟩ => .er 35 116 (actE W t a k) (-1), fun _ => [],
  fun args mem => match args with | [a0, a1, a2, a3] => some ⟨wPTD a0, intD (a1), intD (a2), intD (a3)⟩ | _ => none⟩
def c_actP : Con := ⟨[], s_actP.g, none⟩
def V_actP : X_actP → Prop := fun ⟨W, t, a, k⟩ => let a0:=((W.nKinds:Nat):Int);let b0:=cond (cond (cond (decide (t<0)) true (decide (a0≤t))) true (decide (a<0))) true (decide (a0≤a));let c0:=actE W t a k;let d0:=((-1):Int)=(-1);let e0:=W.kinds (Int.toNat t) !=6;let g0:=cond e0 true (W.kinds (Int.toNat a) !=k);let h0:=(W.tasks (Int.toNat t)).core;let k0:=W.cores (Int.toNat h0) !=t;(b0=true→((2:Int)≠0∧c0=2∧d0)∧True)∧(b0=false→(0≤t∧t<a0)∧(e0=false→0≤a∧a<a0)∧(g0=true→((3:Int)≠0∧c0=3∧d0)∧True)∧(g0=false→tn 9 ((0≤t∧t<((W.nTasks:Nat):Int))∧tn 3 ((0≤h0∧h0<((W.nCores:Nat):Int))∧(k0=true→((7:Int)≠0∧c0=7∧d0)∧True)∧(k0=false→(c0=0∧d0)∧True)))))
set_option maxHeartbeats 1000000 in
theorem ok_actP : FnOK Tryz.prog glN 98 c_actP := ok_of .nil false Tryz.call98 Tryz.func98 (fun _ => []) (V := V_actP) (fun _ => by kernel_rfl) fun ⟨W, t, a, k⟩ hp => by
  dsimp only [s_actP] at hp
  dsimp only [V_actP, tn, w64]
  simp only [std, stb, eq_self, implies_true, Bool.cond_self]
  try simp only [wd_eta]
  have hp' := hp
  obtain ⟨hz, hk, hu⟩ := hp
  have z1 := hz.tasks
  unfold actE
  refine ⟨fun h => ⟨by decide, by rw [h]; rfl⟩, fun h => ?_⟩
  simp only [h, cond_false]
  simp only [Bool.or_eq_false_iff, decide_eq_false_iff_not] at h
  refine ⟨by omega, fun _ => by omega, fun h2 => ⟨by decide, by rw [h2]; rfl⟩, fun h2 => ?_⟩
  simp only [h2, cond_false]
  refine ⟨by omega, hk t.toNat (by omega), fun h3 => ⟨by decide, ?_⟩, fun h3 => ?_⟩
  · rw [show (W.cores (W.tasks t.toNat).core.toNat == t) = false by simpa using h3]; rfl
  · rw [show (W.cores (W.tasks t.toNat).core.toNat == t) = true by simpa using h3]; rfl
structure X_wordsP where
  (n : Nat) (l : Nat → Int)
def s_wordsP : Sy.Spec := ⟨X_wordsP, fun ⟨n, l⟩ => [.sl true 1 n (fun i_ _ => .v (.int .i64 (l i_)))], fun _ => [], fun ⟨n, _⟩ => n ≤ 1000, fun ⟨n, l⟩ => .er 35 116 (bif allB n fun i => !farB (l i) 65535 then 0 else 1) (-1), fun _ => [],
  fun args mem => match args with | [a0] => some ⟨slN a0, fun i => intD (slF a0 i 0)⟩ | _ => none⟩
def c_wordsP : Con := ⟨[], s_wordsP.g, none⟩
def V_wordsP : X_wordsP → Prop := fun ⟨n, l⟩ => let a0:=(n:Int);let b0:Int:=cond (allB n (fun c0:Nat=>!farB (l c0) 65535)) 0 1;a0≤9223372036854775807→0=((0:Nat):Int)∧True∧(0≤n∧(∀d0:Nat,d0<0→farB (l d0) 65535=false))∧(∀e0:Nat,let g0:=(e0:Int);let h0:=decide (g0<a0);let k0:Int:=l (Int.toNat g0);let l0:=cond (decide (k0<0)) true (decide (65535<k0));let o0:Int:=g0+1;e0≤n∧(∀q0:Nat,q0<e0→farB (l q0) 65535=false)→(h0=true→(0≤g0∧g0<a0)∧(l0=true→((1:Int)≠0∧b0=1∧((-1):Int)=(-1))∧True)∧(l0=false→w64 o0=o0∧(∃r0:Nat,o0=(r0:Int)∧True∧(r0≤n∧(∀u0:Nat,u0<r0→farB (l u0) 65535=false))∧n-r0<n-e0)))∧(h0=false→(b0=0∧((-1):Int)=(-1))∧True))
set_option maxHeartbeats 1000000 in
theorem ok_wordsP : FnOK Tryz.prog glN 99 c_wordsP := ok_of .nil false Tryz.call99 Tryz.func99 (fun ⟨n, l⟩ => [.inv (an_wd n l 7)]) (V := V_wordsP) (fun _ => by kernel_rfl) fun ⟨n, l⟩ hp => by
  dsimp only [s_wordsP] at hp
  dsimp only [V_wordsP, tn, w64]
  simp only [std, stb, eq_self, implies_true, Bool.cond_self]
  try simp only [wd_eta]
  refine fun _ s hs => ⟨fun h => ?_, fun h => ?_⟩
  · have hlt := lt_of_dec h
    refine ⟨by omega, fun h2 => ⟨by decide, ?_⟩, fun h2 => ⟨wr_in (by omega) (by omega), exS ⟨⟨by omega, snocF (p := fun i => farB (l i) 65535) hs.2 h2⟩, by omega⟩⟩⟩
    have e : (allB n fun c0 => !farB (l c0) 65535) = false := allB_false (p := fun c0 => !farB (l c0) 65535) hlt (by show (!farB (l s) 65535) = false; rw [show farB (l s) 65535 = true from h2]; rfl)
    rw [e]; rfl
  · have hge := ge_of_dec h
    obtain rfl : s = n := by omega
    have e : (allB s fun c0 => !farB (l c0) 65535) = true := allB_iff.2 fun i hi => by rw [hs.2 i hi]; rfl
    rw [e]; rfl
end Go.Proofs.YtdjilaofmdhikaaGreatDoor
