/- Words, lines: small deeds. -/
import Derived.Test.YtdjilaofmdhikaaGreatDoorYM
set_option linter.unusedVariables false
set_option linter.unusedSimpArgs false
set_option linter.unusedVariables false
set_option linter.unusedSimpArgs false
set_option maxRecDepth 100000
namespace Go.Proofs.YtdjilaofmdhikaaGreatDoor
open Go.RowKit Go.Sy
def hnS (W : Wd) (t : Nat) (b g : Int) (i : Nat) : Run := updF W.tasks t { W.tasks t with r1 := b, r2 := g } i
def hanW (W : Wd) (t : Nat) (b g : Int) : Wd := { W with tasks := hnS W t b g }
def ofC (W : Wd) (t : Int) (j : Nat) : Int := bif W.cores j == t then -1 else W.cores j
def offW (W : Wd) (t : Int) : Wd := { W with cores := ofC W t }
def sdS (W : Wd) (t : Nat) (a s : Int) (i : Nat) : Run := updF W.tasks t { W.tasks t with st := s, loc := a } i
def sdN (W : Wd) (a i : Nat) : Nat := updF W.linesN a (W.linesN a + 1) i
def sdL (W : Wd) (t : Int) (a i k : Nat) : Int := updF W.lines a (apF (W.linesN a) (W.lines a) t) i k
def stdW (W : Wd) (t a s : Int) : Wd := { W with cores := ofC W t, tasks := sdS W t.toNat a s, linesN := sdN W a.toNat, lines := sdL W t a.toNat }
def frN (W : Wd) (a i : Nat) : Nat := updF W.linesN a (W.linesN a - 1) i
def frL (W : Wd) (a i k : Nat) : Int := updF W.lines a (fun q => W.lines a (q + 1)) i k
def frS (W : Wd) (t i : Nat) : Run := updF W.tasks t { W.tasks t with loc := -1 } i
def fntB (W : Wd) (a : Nat) (p : Int → Bool) : Bool := W.linesN a != 0 && p (W.tasks (W.lines a 0).toNat).st
def ofS (W : Wd) (t : Int) (i j : Nat) : Int := bif Nat.blt j i then ofC W t j else W.cores j
theorem ofS_lt {W : Wd} {t : Int} {i j : Nat} (h : j < i) : ofS W t i j = ofC W t j := by unfold ofS; rw [blt_t h]; rfl
theorem ofS_ge {W : Wd} {t : Int} {i j : Nat} (h : i ≤ j) : ofS W t i j = W.cores j := by unfold ofS; rw [blt_f h]; rfl
def an_of (W : Wd) (t : Int) : Ann where
  σ := Nat
  rt := []
  sh i := [(0, pt0 0), (4, .v (.int .i64 i))]
  mh i := [(7, .row 1 W.nCores (iF (ofS W t i)))]
  inv i := i ≤ W.nCores
  μ i := W.nCores - i
  init := 0
def frtS (W : Wd) (a : Nat) (b : Bool) (i : Nat) : Run := bif b then frS W (W.lines a 0).toNat i else W.tasks i
def frtN (W : Wd) (a : Nat) (b : Bool) (i : Nat) : Nat := bif b then frN W a i else W.linesN i
def frtL (W : Wd) (a : Nat) (b : Bool) (i k : Nat) : Int := bif b then frL W a i k else W.lines i k
def frtW (W : Wd) (a : Nat) (b : Bool) : Wd := { W with tasks := frtS W a b, linesN := frtN W a b, lines := frtL W a b }
def frtI (W : Wd) (a : Nat) (b : Bool) : Int := bif b then W.lines a 0 else -1
def an_fs (W : Wd) (a n : Nat) (ss : Nat → Int) : Ann where
  σ := Nat
  rt := []
  sh i := [(0, pt0 0), (30, .v (.int .i64 i))]
  mh _ := []
  inv i := i ≤ n ∧ ∀ j, j < i → ((W.tasks (W.lines a 0).toNat).st == ss j) = false
  μ i := n - i
  init := 0
structure OfP (W : Wd) (t : Int) : Prop where
  t0 : 0 ≤ t
  t1 : t < W.nTasks
  c0 : 0 ≤ (W.tasks t.toNat).core
  c1 : (W.tasks t.toNat).core < W.nCores
  u : ∀ j : Nat, j < W.nCores → W.cores j = t → (W.tasks t.toNat).core = j
structure LnP (W : Wd) (a : Int) : Prop where
  a0 : 0 ≤ a
  a1 : a < W.nLines
  n : W.linesN a.toNat ≤ 100000
  h : 0 < W.linesN a.toNat → 0 ≤ W.lines a.toNat 0 ∧ W.lines a.toNat 0 < W.nTasks
theorem sdL_eq {W : Wd} {t : Int} {a j k : Nat} (h : k < sdN W a j) : (bif j.beq a then bif k.blt (W.linesN a) then W.lines a k else [t].getD (k - W.linesN a) 0 else W.lines j k) = sdL W t a j k := by
  unfold sdL
  rcases Decidable.em (j = a) with e | e
  · subst e
    rw [Nat.beq_refl, updF_at]
    refine ap_one ?_
    unfold sdN at h; rw [updF_at] at h; exact h
  · rw [beq_ne e, updF_ne e]; rfl
theorem updF_cp {f : Nat → Run} {t i : Nat} {v : Run} (p : Run → Int) (h : p v = p (f t)) : p (updF f t v i) = p (f i) := by
  rcases Decidable.em (i = t) with e | e
  · subst e; rw [updF_at]; exact h
  · rw [updF_ne e]
theorem fn0 {W : Wd} {a : Nat} {p : Int → Bool} (h : W.linesN a = 0) : fntB W a p = false := by unfold fntB; rw [h]; rfl
theorem fn1 {W : Wd} {a : Nat} {p : Int → Bool} {b : Bool} (h : W.linesN a ≠ 0) (hb : p (W.tasks (W.lines a 0).toNat).st = b) : fntB W a p = b := by
  unfold fntB; rw [hb, show (W.linesN a != 0) = true from by simpa using h]; rfl
theorem len_0 {n : Nat} (h : ((n : Int) == 0) = true) : n = 0 := by have := eq_of_beq h; omega
theorem len_n {n : Nat} (h : ((n : Int) == 0) = false) : n ≠ 0 := by have := ne_of_beq_false h; omega
structure X_handed where
  (t b g : Int) (W : Wd)
def s_handed : Sy.Spec := ⟨X_handed, fun ⟨t, b, g, _⟩ => [.ptr 0 0 none 0 0, .v (.int .i64 t), .v (.int .i64 b), .v (.int .i64 g)], fun ⟨_, _, _, W⟩ => wMem W, fun ⟨t, _, _, W⟩ => 0 ≤ t ∧ t < W.nTasks, fun _ => .tp 0 (lsv []), fun ⟨t, b, g, W⟩ => wMem (hanW W t.toNat b g),
  fun args mem => match args with | [a0, a1, a2, a3] => some ⟨intD (a1), intD (a2), intD (a3), wMJD mem 0⟩ | _ => none⟩
def c_handed : Con := ⟨[true], s_handed.g, none⟩
def V_handed : X_handed → Prop := fun ⟨t, b, g, W⟩ => let a0:=W.nTasks;let b0:=0≤t∧t<(a0:Int);let c0:=0=0;let d0:=W.nRam;let e0:=d0=d0;let g0:=W.nKinds;let h0:=g0=g0;let k0:=W.nSlots;let l0:=k0=k0;let o0:=a0=a0;let q0:=W.nLines;let u0:=q0=q0;let v0:=W.nBits;let w0:=v0=v0;let x0:=W.nCores;let y0:=x0=x0;let z0:=W.nReady;let a1:=z0=z0;let b1:=W.nTlbs;let c1:=b1=b1;let d1:=W.nDoms;let e1:=d1=d1;let g1:=Wd.mk d0 W.ram g0 W.kinds k0 W.slots a0 (hnS W (Int.toNat t) b g) q0 W.linesN W.lines v0 W.bits x0 W.cores z0 W.readyN W.ready b1 W.tlbsN W.tlbs d1 W.doms W.time;b0∧((0:Int)≤1∧1<((8:Nat):Int))∧(∀h1:Nat,false=false)∧b0∧((0:Int)≤2∧2<((8:Nat):Int))∧(∀k1:Nat,false=false)∧True∧(((((((((((True∧c0∧e0)∧c0∧h0)∧c0∧l0)∧c0∧o0)∧c0∧u0)∧c0∧w0)∧c0∧y0)∧c0∧a1)∧c0∧c1)∧c0∧e1)∧W.time=W.time)∧(e0∧(∀l1:Nat,l1<d0→True∧W.ram l1=W.ram l1))∧(h0∧(∀o1:Nat,o1<g0→True∧W.kinds o1=W.kinds o1))∧(l0∧(∀q1:Nat,let u1:=W.slots q1;let v1:=g1.slots q1;q1<k0→((((((True∧u1.kind=v1.kind)∧u1.base=v1.base)∧u1.len=v1.len)∧u1.mark=v1.mark)∧u1.rights=v1.rights)∧u1.badge=v1.badge)∧u1.from_=v1.from_))∧(o0∧(∀w1:Nat,let x1:=W.tasks w1;let y1:=g1.tasks w1;w1<a0→(((((((((((((((((((True∧x1.r0=y1.r0)∧cond (Nat.beq w1 (0+Int.toNat t)) b x1.r1=y1.r1)∧cond (Nat.beq w1 (0+Int.toNat t)) g x1.r2=y1.r2)∧x1.r3=y1.r3)∧x1.r4=y1.r4)∧x1.r5=y1.r5)∧x1.r6=y1.r6)∧x1.r7=y1.r7)∧x1.pc=y1.pc)∧x1.st=y1.st)∧x1.prio=y1.prio)∧x1.node=y1.node)∧x1.space=y1.space)∧x1.helper=y1.helper)∧x1.loc=y1.loc)∧x1.word=y1.word)∧x1.badge=y1.badge)∧x1.owes=y1.owes)∧x1.core=y1.core)∧x1.dom=y1.dom))∧(u0∧(∀z1:Nat,
    let a2:=W.linesN z1;z1<q0→True∧a2=a2∧(∀b2:Nat,b2<a2→True∧W.lines z1 b2=W.lines z1 b2)))∧(w0∧(∀c2:Nat,c2<v0→True∧W.bits c2=W.bits c2))∧(y0∧(∀d2:Nat,d2<x0→True∧W.cores d2=W.cores d2))∧(a1∧(∀e2:Nat,let g2:=W.readyN e2;e2<z0→True∧g2=g2∧(∀h2:Nat,h2<g2→True∧W.ready e2 h2=W.ready e2 h2)))∧(c1∧(∀k2:Nat,let l2:=W.tlbsN k2;k2<b1→True∧l2=l2∧(∀o2:Nat,let q2:=W.tlbs k2 o2;let u2:=g1.tlbs k2 o2;o2<l2→(((True∧q2.sp=u2.sp)∧q2.pg=u2.pg)∧q2.fr=u2.fr)∧q2.wr=u2.wr)))∧(e1∧(∀v2:Nat,v2<d1→True∧W.doms v2=W.doms v2))∧True
set_option maxHeartbeats 1000000 in
theorem ok_handed : FnOK Tryz.prog glN 104 c_handed := ok_of .nil false Tryz.call104 Tryz.func104 (fun _ => []) (V := V_handed) (fun _ => by kernel_rfl) fun ⟨t, b, g, W⟩ hp => by
  dsimp only [s_handed] at hp
  dsimp only [V_handed, tn, w64]
  simp only [std, stb, eq_self, implies_true, Bool.cond_self]
  try simp only [wd_eta]
  refine ⟨hp, ⟨by decide, by decide⟩, hp, ⟨by decide, by decide⟩, fun j _ => ?_⟩
  rcases Decidable.em (j = t.toNat) with h | h
  · subst h; simp only [Nat.beq_refl, cond_true]; unfold hnS; rw [updF_at]; exact ⟨⟨⟨⟨⟨⟨⟨⟨⟨⟨⟨⟨⟨⟨⟨⟨⟨⟨⟨rfl, rfl⟩, rfl⟩, rfl⟩, rfl⟩, rfl⟩, rfl⟩, rfl⟩, rfl⟩, rfl⟩, rfl⟩, rfl⟩, rfl⟩, rfl⟩, rfl⟩, rfl⟩, rfl⟩, rfl⟩, rfl⟩, rfl⟩
  · simp only [beq_ne h, cond_false]; unfold hnS; rw [updF_ne h]; exact run20 rfl
structure X_hand where
  (t b g : Int) (W : Wd)
def s_hand : Sy.Spec := ⟨X_hand, fun ⟨t, b, g, _⟩ => [.ptr 0 0 none 0 0, .v (.int .i64 t), .v (.int .i64 b), .v (.int .i64 g)], fun ⟨_, _, _, W⟩ => wMem W, fun ⟨t, _, _, W⟩ => 0 ≤ t ∧ t < W.nTasks, fun _ => .tp 0 (lsv []), fun ⟨t, b, g, W⟩ => wMem (hanW W t.toNat b g),
  fun args mem => match args with | [a0, a1, a2, a3] => some ⟨intD (a1), intD (a2), intD (a3), wMJD mem 0⟩ | _ => none⟩
def c_hand : Con := ⟨[true], s_hand.g, none⟩
def V_hand : X_hand → Prop := fun ⟨t, b, g, W⟩ => let a0:=W.nTasks;let b0:=0≤t∧t<(a0:Int);let c0:=0=0;let d0:=W.nRam;let e0:=d0=d0;let g0:=W.nKinds;let h0:=g0=g0;let k0:=W.nSlots;let l0:=k0=k0;let o0:=a0=a0;let q0:=W.nLines;let u0:=q0=q0;let v0:=W.nBits;let w0:=v0=v0;let x0:=W.nCores;let y0:=x0=x0;let z0:=W.nReady;let a1:=z0=z0;let b1:=W.nTlbs;let c1:=b1=b1;let d1:=W.nDoms;let e1:=d1=d1;let g1:=Wd.mk d0 W.ram g0 W.kinds k0 W.slots a0 (hnS W (Int.toNat t) b g) q0 W.linesN W.lines v0 W.bits x0 W.cores z0 W.readyN W.ready b1 W.tlbsN W.tlbs d1 W.doms W.time;tn 12 (b0∧True∧b0∧True∧((0:Int)≤1∧1<((8:Nat):Int))∧(∀h1:Nat,false=false)∧((0:Int)≤2∧2<((8:Nat):Int))∧(∀k1:Nat,false=false)∧True∧(((((((((((True∧c0∧e0)∧c0∧h0)∧c0∧l0)∧c0∧o0)∧c0∧u0)∧c0∧w0)∧c0∧y0)∧c0∧a1)∧c0∧c1)∧c0∧e1)∧W.time=W.time)∧(e0∧(∀l1:Nat,l1<d0→True∧W.ram l1=W.ram l1))∧(h0∧(∀o1:Nat,o1<g0→True∧W.kinds o1=W.kinds o1))∧(l0∧(∀q1:Nat,let u1:=W.slots q1;let v1:=g1.slots q1;q1<k0→((((((True∧u1.kind=v1.kind)∧u1.base=v1.base)∧u1.len=v1.len)∧u1.mark=v1.mark)∧u1.rights=v1.rights)∧u1.badge=v1.badge)∧u1.from_=v1.from_))∧(o0∧(∀w1:Nat,let x1:=W.tasks w1;let y1:=g1.tasks w1;let z1:=Nat.beq w1 (0+Int.toNat t);w1<a0→(((((((((((((((((((True∧x1.r0=y1.r0)∧cond z1 b x1.r1=y1.r1)∧cond z1 g x1.r2=y1.r2)∧x1.r3=y1.r3)∧x1.r4=y1.r4)∧x1.r5=y1.r5)∧x1.r6=y1.r6)∧x1.r7=y1.r7)∧x1.pc=y1.pc)∧x1.st=y1.st)∧x1.prio=y1.prio)∧x1.node=y1.node)∧x1.space=y1.space)∧x1.helper=y1.helper)∧x1.loc=y1.loc)∧x1.word=y1.word)∧x1.badge=y1.badge)∧x1.owes=y1.owes)∧x1.core=y1.core)∧x1.dom=y1.dom))∧(u0∧(∀a2:Nat,
    let b2:=W.linesN a2;a2<q0→True∧b2=b2∧(∀c2:Nat,c2<b2→True∧W.lines a2 c2=W.lines a2 c2)))∧(w0∧(∀d2:Nat,d2<v0→True∧W.bits d2=W.bits d2))∧(y0∧(∀e2:Nat,e2<x0→True∧W.cores e2=W.cores e2))∧(a1∧(∀g2:Nat,let h2:=W.readyN g2;g2<z0→True∧h2=h2∧(∀k2:Nat,k2<h2→True∧W.ready g2 k2=W.ready g2 k2)))∧(c1∧(∀l2:Nat,let o2:=W.tlbsN l2;l2<b1→True∧o2=o2∧(∀q2:Nat,let u2:=W.tlbs l2 q2;let v2:=g1.tlbs l2 q2;q2<o2→(((True∧u2.sp=v2.sp)∧u2.pg=v2.pg)∧u2.fr=v2.fr)∧u2.wr=v2.wr)))∧(e1∧(∀w2:Nat,w2<d1→True∧W.doms w2=W.doms w2))∧True)
set_option maxHeartbeats 1000000 in
theorem ok_hand : FnOK Tryz.prog glN 152 c_hand := ok_of .nil false Tryz.call152 Tryz.func152 (fun _ => []) (V := V_hand) (fun _ => by kernel_rfl) fun ⟨t, b, g, W⟩ hp => by
  dsimp only [s_hand] at hp
  dsimp only [V_hand, tn, w64]
  simp only [std, stb, eq_self, implies_true, Bool.cond_self]
  try simp only [wd_eta]
  refine ⟨hp, hp, ⟨by decide, by decide⟩, ⟨by decide, by decide⟩, fun j _ => ?_⟩
  rcases Decidable.em (j = t.toNat) with h | h
  · subst h; simp only [Nat.beq_refl, cond_true]; unfold hnS; rw [updF_at]; exact ⟨⟨⟨⟨⟨⟨⟨⟨⟨⟨⟨⟨⟨⟨⟨⟨⟨⟨⟨rfl, rfl⟩, rfl⟩, rfl⟩, rfl⟩, rfl⟩, rfl⟩, rfl⟩, rfl⟩, rfl⟩, rfl⟩, rfl⟩, rfl⟩, rfl⟩, rfl⟩, rfl⟩, rfl⟩, rfl⟩, rfl⟩, rfl⟩
  · simp only [beq_ne h, cond_false]; unfold hnS; rw [updF_ne h]; exact run20 rfl
structure X_offP where
  (t : Int) (W : Wd)
def s_offP : Sy.Spec := ⟨X_offP, fun ⟨t, _⟩ => [.ptr 0 0 none 0 0, .v (.int .i64 t)], fun ⟨_, W⟩ => wMem W, fun ⟨t, W⟩ => OfP W t, fun _ => .tp 0 (lsv []), fun ⟨t, W⟩ => wMem (offW W t),
  fun args mem => match args with | [a0, a1] => some ⟨intD (a1), wMJD mem 0⟩ | _ => none⟩
def c_offP : Con := ⟨[true], s_offP.g, none⟩
def V_offP : X_offP → Prop := fun ⟨t, W⟩ => let a0:=W.nTasks;let b0:=(W.tasks (0+Int.toNat t)).core;let c0:=W.nCores;let d0:=0≤b0∧b0<(c0:Int);let e0:=0+Int.toNat b0;let g0:=W.cores e0==t;let h0:=0=0;let k0:=W.nRam;let l0:=k0=k0;let o0:=W.nKinds;let q0:=o0=o0;let u0:=W.nSlots;let v0:=u0=u0;let w0:=a0=a0;let x0:=W.nLines;let y0:=x0=x0;let z0:=W.nBits;let a1:=z0=z0;let b1:=c0=c0;let c1:=W.nReady;let d1:=c1=c1;let e1:=W.nTlbs;let g1:=e1=e1;let h1:=W.nDoms;let k1:=h1=h1;let l1:=((((((((((True∧h0∧l0)∧h0∧q0)∧h0∧v0)∧h0∧w0)∧h0∧y0)∧h0∧a1)∧h0∧b1)∧h0∧d1)∧h0∧g1)∧h0∧k1)∧W.time=W.time;let o1:=l0∧(∀q1:Nat,q1<k0→True∧W.ram q1=W.ram q1);let u1:=q0∧(∀v1:Nat,v1<o0→True∧W.kinds v1=W.kinds v1);let w1:=Wd.mk k0 W.ram o0 W.kinds u0 W.slots a0 W.tasks x0 W.linesN W.lines z0 W.bits c0 (ofC W t) c1 W.readyN W.ready e1 W.tlbsN W.tlbs h1 W.doms W.time;let x1:=v0∧(∀y1:Nat,let z1:=W.slots y1;let a2:=w1.slots y1;y1<u0→((((((True∧z1.kind=a2.kind)∧z1.base=a2.base)∧z1.len=a2.len)∧z1.mark=a2.mark)∧z1.rights=a2.rights)∧z1.badge=a2.badge)∧z1.from_=a2.from_);let b2:=w0∧(∀c2:Nat,let d2:=W.tasks c2;let e2:=w1.tasks c2;c2<a0→(((((((((((((((((((True∧d2.r0=e2.r0)∧d2.r1=e2.r1)∧d2.r2=e2.r2)∧d2.r3=e2.r3)∧d2.r4=e2.r4)∧d2.r5=e2.r5)∧d2.r6=e2.r6)∧d2.r7=e2.r7)∧d2.pc=e2.pc)∧d2.st=e2.st)∧d2.prio=e2.prio)∧d2.node=e2.node)∧d2.space=e2.space)∧d2.helper=e2.helper)∧d2.loc=e2.loc)∧d2.word=e2.word)∧d2.badge=e2.badge)∧d2.owes=e2.owes)∧d2.core=e2.core)∧d2.dom=e2.dom);let g2:=y0∧(∀h2:Nat,let k2:=W.linesN h2;h2<x0→True∧k2=k2∧(∀l2:Nat,l2<k2→True∧W.lines h2 l2=W.lines h2 l2));
    let o2:=a1∧(∀q2:Nat,q2<z0→True∧W.bits q2=W.bits q2);let u2:=(d1∧(∀v2:Nat,let w2:=W.readyN v2;v2<c1→True∧w2=w2∧(∀x2:Nat,x2<w2→True∧W.ready v2 x2=W.ready v2 x2)))∧(g1∧(∀y2:Nat,let z2:=W.tlbsN y2;y2<e1→True∧z2=z2∧(∀a3:Nat,let b3:=W.tlbs y2 a3;let c3:=w1.tlbs y2 a3;a3<z2→(((True∧b3.sp=c3.sp)∧b3.pg=c3.pg)∧b3.fr=c3.fr)∧b3.wr=c3.wr)))∧(k1∧(∀d3:Nat,d3<h1→True∧W.doms d3=W.doms d3))∧True;(0≤t∧t<(a0:Int))∧d0∧(g0=true→d0∧(∀e3:Nat,false=false)∧True∧l1∧o1∧u1∧x1∧b2∧g2∧o2∧(b1∧(∀g3:Nat,g3<c0→True∧cond (Nat.beq g3 e0) (-1) (W.cores g3)=ofC W t g3))∧u2)∧(g0=false→True∧l1∧o1∧u1∧x1∧b2∧g2∧o2∧(b1∧(∀h3:Nat,h3<c0→True∧W.cores h3=ofC W t h3))∧u2)
theorem ok_offP : FnOK Tryz.prog glN 154 c_offP := ok_of .nil false Tryz.call154 Tryz.func154 (fun _ => []) (V := V_offP) (fun _ => by kernel_rfl) fun ⟨t, W⟩ hp => by
  dsimp only [s_offP] at hp
  dsimp only [V_offP, tn, w64]
  simp only [std, stb, eq_self, implies_true, Bool.cond_self]
  try simp only [wd_eta]
  obtain ⟨t0, t1, c0, c1, hu⟩ := hp
  have hc := And.intro c0 c1
  refine ⟨⟨t0, t1⟩, hc, fun h => ⟨hc, fun j hj => ?_⟩, fun h j hj => ?_⟩
  · have h := eq_of_beq h
    unfold ofC
    rcases Decidable.em (j = (W.tasks t.toNat).core.toNat) with e | e
    · subst e; rw [Nat.beq_refl, h]; simp
    · rw [beq_ne e]
      cases hb : W.cores j == t with
      | false => rfl
      | true => exact absurd (hu j hj (eq_of_beq hb)) (by omega)
  · unfold ofC
    cases hb : W.cores j == t with
    | false => rfl
    | true =>
      have := hu j hj (eq_of_beq hb)
      have e : j = (W.tasks t.toNat).core.toNat := by omega
      rw [← e, hb] at h; cases h
structure X_offR where
  (t : Int) (W : Wd)
def s_offR : Sy.Spec := ⟨X_offR, fun ⟨t, _⟩ => [.ptr 0 0 none 0 0, .v (.int .i64 t)], fun ⟨_, W⟩ => wMem W, fun ⟨_, W⟩ => W.nCores ≤ 100000, fun _ => .tp 0 (lsv []), fun ⟨t, W⟩ => wMem (offW W t),
  fun args mem => match args with | [a0, a1] => some ⟨intD (a1), wMJD mem 0⟩ | _ => none⟩
def c_offR : Con := ⟨[true], s_offR.g, none⟩
def V_offR : X_offR → Prop := fun ⟨t, W⟩ => let a0:=SV.ptr 0 0 none 0 0;let b0:=0=0;let c0:=W.nRam;let d0:=c0=c0;let e0:=W.nKinds;let g0:=e0=e0;let h0:=W.nSlots;let k0:=h0=h0;let l0:=W.nTasks;let o0:=l0=l0;let q0:=W.nLines;let u0:=q0=q0;let v0:=W.nBits;let w0:=v0=v0;let x0:=W.nCores;let y0:=x0=x0;let z0:=W.nReady;let a1:=z0=z0;let b1:=W.nTlbs;let c1:=b1=b1;let d1:=W.nDoms;let e1:=d1=d1;let g1:=W.time=W.time;let h1:=d0∧(∀k1:Nat,k1<c0→True∧W.ram k1=W.ram k1);let l1:=g0∧(∀o1:Nat,o1<e0→True∧W.kinds o1=W.kinds o1);let q1:=k0∧(∀u1:Nat,let v1:=W.slots u1;let w1:=v1.kind;let x1:=v1.base;let y1:=v1.len;let z1:=v1.mark;let a2:=v1.rights;let b2:=v1.badge;let c2:=v1.from_;u1<h0→((((((True∧w1=w1)∧x1=x1)∧y1=y1)∧z1=z1)∧a2=a2)∧b2=b2)∧c2=c2);let d2:=o0∧(∀e2:Nat,let g2:=W.tasks e2;let h2:=g2.prio;let k2:=g2.node;let l2:=g2.space;let o2:=g2.helper;let q2:=g2.loc;let u2:=g2.word;let v2:=g2.badge;let w2:=g2.owes;let x2:=g2.core;let y2:=g2.dom;e2<l0→(((((((((((((((((((True∧g2.r0=g2.r0)∧g2.r1=g2.r1)∧g2.r2=g2.r2)∧g2.r3=g2.r3)∧g2.r4=g2.r4)∧g2.r5=g2.r5)∧g2.r6=g2.r6)∧g2.r7=g2.r7)∧g2.pc=g2.pc)∧g2.st=g2.st)∧h2=h2)∧k2=k2)∧l2=l2)∧o2=o2)∧q2=q2)∧u2=u2)∧v2=v2)∧w2=w2)∧x2=x2)∧y2=y2);let z2:=u0∧(∀a3:Nat,let b3:=W.linesN a3;a3<q0→True∧b3=b3∧(∀c3:Nat,c3<b3→True∧W.lines a3 c3=W.lines a3 c3));let d3:=w0∧(∀e3:Nat,e3<v0→True∧W.bits e3=W.bits e3);let g3:=a1∧(∀h3:Nat,let k3:=W.readyN h3;h3<z0→True∧k3=k3∧(∀l3:Nat,l3<k3→True∧W.ready h3 l3=W.ready h3 l3));let o3:=(e1∧(∀q3:Nat,q3<d1→True∧W.doms q3=W.doms q3))∧True;
    let u3:=g3∧(c1∧(∀v3:Nat,let w3:=W.tlbsN v3;v3<b1→True∧w3=w3∧(∀x3:Nat,let y3:=W.tlbs v3 x3;let z3:=y3.sp;let a4:=y3.pg;let b4:=y3.fr;let c4:=y3.wr;x3<w3→(((True∧z3=z3)∧a4=a4)∧b4=b4)∧c4=c4)))∧o3;let d4:=(x0:Int);let e4:=SV.ptr 0 0 none 0 0=a0;let g4:=0=0;let h4:=((((((((((True∧g4∧d0)∧g4∧g0)∧g4∧k0)∧g4∧o0)∧g4∧u0)∧g4∧w0)∧g4∧y0)∧g4∧a1)∧g4∧c1)∧g4∧e1)∧g1;let k4:=Wd.mk c0 W.ram e0 W.kinds h0 W.slots l0 W.tasks q0 W.linesN W.lines v0 W.bits x0 (ofC W t) z0 W.readyN W.ready b1 W.tlbsN W.tlbs d1 W.doms W.time;a0=a0∧0=((0:Nat):Int)∧((((((((((((True∧b0∧d0)∧b0∧g0)∧b0∧k0)∧b0∧o0)∧b0∧u0)∧b0∧w0)∧b0∧y0)∧b0∧a1)∧b0∧c1)∧b0∧e1)∧g1)∧h1∧l1∧q1∧d2∧z2∧d3∧(y0∧(∀l4:Nat,l4<x0→True∧W.cores l4=ofS W t 0 l4))∧u3)∧0≤x0∧(∀o4:Nat,let q4:=(o4:Int);let u4:=decide (q4<d4);let v4:=0≤q4∧q4<d4;let w4:=0+Int.toNat q4;let x4:=ofS W t o4 w4==t;let y4:Int:=q4+1;let z4:=w64 y4=y4;o4≤x0→d4≤9223372036854775807→(u4=true→v4∧(x4=true→v4∧(∀a5:Nat,false=false)∧z4∧(∃b5:Nat,e4∧y4=(b5:Int)∧(h4∧h1∧l1∧q1∧d2∧z2∧d3∧(y0∧(∀c5:Nat,c5<x0→True∧cond (Nat.beq c5 w4) (-1) (ofS W t o4 c5)=ofS W t b5 c5))∧u3)∧b5≤x0∧x0-b5<x0-o4))∧(x4=false→z4∧(∃d5:Nat,e4∧y4=(d5:Int)∧(h4∧h1∧l1∧q1∧d2∧z2∧d3∧(y0∧(∀e5:Nat,e5<x0→True∧ofS W t o4 e5=ofS W t d5 e5))∧u3)∧d5≤x0∧x0-d5<x0-o4)))∧(u4=false→True∧h4∧h1∧l1∧(k0∧(∀g5:Nat,let h5:=W.slots g5;let k5:=k4.slots g5;g5<h0→((((((True∧h5.kind=k5.kind)∧h5.base=k5.base)∧h5.len=k5.len)∧h5.mark=k5.mark)∧h5.rights=k5.rights)∧h5.badge=k5.badge)∧h5.from_=k5.from_))∧(o0∧(∀l5:Nat,let o5:=W.tasks l5;let q5:=k4.tasks l5;l5<l0→
    (((((((((((((((((((True∧o5.r0=q5.r0)∧o5.r1=q5.r1)∧o5.r2=q5.r2)∧o5.r3=q5.r3)∧o5.r4=q5.r4)∧o5.r5=q5.r5)∧o5.r6=q5.r6)∧o5.r7=q5.r7)∧o5.pc=q5.pc)∧o5.st=q5.st)∧o5.prio=q5.prio)∧o5.node=q5.node)∧o5.space=q5.space)∧o5.helper=q5.helper)∧o5.loc=q5.loc)∧o5.word=q5.word)∧o5.badge=q5.badge)∧o5.owes=q5.owes)∧o5.core=q5.core)∧o5.dom=q5.dom))∧z2∧d3∧(y0∧(∀u5:Nat,u5<x0→True∧ofS W t o4 u5=ofC W t u5))∧g3∧(c1∧(∀v5:Nat,let w5:=W.tlbsN v5;v5<b1→True∧w5=w5∧(∀x5:Nat,let y5:=W.tlbs v5 x5;let z5:=k4.tlbs v5 x5;x5<w5→(((True∧y5.sp=z5.sp)∧y5.pg=z5.pg)∧y5.fr=z5.fr)∧y5.wr=z5.wr)))∧o3))
theorem ok_offR : FnOK Tryz.prog glN 105 c_offR := ok_of .nil false Tryz.call105 Tryz.func105 (fun ⟨t, W⟩ => [.inv (an_of W t)]) (V := V_offR) (fun _ => by kernel_rfl) fun ⟨t, W⟩ hp => by
  dsimp only [s_offR] at hp
  dsimp only [V_offR, tn, w64]
  simp only [std, stb, eq_self, implies_true, Bool.cond_self]
  try simp only [wd_eta]
  refine ⟨fun j _ => (ofS_ge (Nat.zero_le _)).symm, fun s hs _ => ⟨fun h => ?_, fun h j hj => ?_⟩⟩
  · have hlt := lt_of_dec h
    refine ⟨by omega, fun h1 => ⟨by omega, wr_in (by omega) (by omega), s + 1, by omega, fun j _ => ?_, by omega, by omega⟩, fun h1 => ⟨wr_in (by omega) (by omega), s + 1, by omega, fun j _ => ?_, by omega, by omega⟩⟩
    · rw [ofS_ge (Nat.le_refl _)] at h1
      rcases Nat.lt_trichotomy j s with e | e | e
      · rw [beq_ne (by omega), ofS_lt e, ofS_lt (by omega : j < s + 1)]; rfl
      · subst e; rw [Nat.beq_refl, ofS_lt (Nat.lt_succ_self _)]; unfold ofC; rw [h1]; rfl
      · rw [beq_ne (by omega), ofS_ge (by omega), ofS_ge (by omega : s + 1 ≤ j)]; rfl
    · rw [ofS_ge (Nat.le_refl _)] at h1
      rcases Nat.lt_trichotomy j s with e | e | e
      · rw [ofS_lt e, ofS_lt (by omega : j < s + 1)]
      · subst e; rw [ofS_ge (Nat.le_refl _), ofS_lt (Nat.lt_succ_self _)]; unfold ofC; rw [h1]; rfl
      · rw [ofS_ge (by omega), ofS_ge (by omega : s + 1 ≤ j)]
  · have hge := ge_of_dec h
    exact ofS_lt (by omega)
structure X_stands where
  (t a s : Int) (W : Wd)
def s_stands : Sy.Spec := ⟨X_stands, fun ⟨t, a, s, _⟩ => [.ptr 0 0 none 0 0, .v (.int .i64 t), .v (.int .i64 a), .v (.int .i64 s)], fun ⟨_, _, _, W⟩ => wMem W, fun ⟨t, a, _, W⟩ => 0 ≤ t ∧ t < W.nTasks ∧ LnP W a ∧ W.nCores ≤ 100000, fun _ => .tp 0 (lsv []), fun ⟨t, a, s, W⟩ => wMem (stdW W t a s),
  fun args mem => match args with | [a0, a1, a2, a3] => some ⟨intD (a1), intD (a2), intD (a3), wMJD mem 0⟩ | _ => none⟩
def c_stands : Con := ⟨[true], s_stands.g, none⟩
def V_stands : X_stands → Prop := fun ⟨t, a, s, W⟩ => let a0:=SV.ptr 0 0 none 0 0;let b0:=0=0;let c0:=W.nRam;let d0:=c0=c0;let e0:=W.nKinds;let g0:=e0=e0;let h0:=W.nSlots;let k0:=h0=h0;let l0:=W.nTasks;let o0:=l0=l0;let q0:=W.nLines;let u0:=q0=q0;let v0:=W.nBits;let w0:=v0=v0;let x0:=W.nCores;let y0:=x0=x0;let z0:=W.nReady;let a1:=z0=z0;let b1:=W.nTlbs;let c1:=b1=b1;let d1:=W.nDoms;let e1:=d1=d1;let g1:=W.time=W.time;let h1:=d0∧(∀k1:Nat,k1<c0→True∧W.ram k1=W.ram k1);let l1:=g0∧(∀o1:Nat,o1<e0→True∧W.kinds o1=W.kinds o1);let q1:=w0∧(∀u1:Nat,u1<v0→True∧W.bits u1=W.bits u1);let v1:=a1∧(∀w1:Nat,let x1:=W.readyN w1;w1<z0→True∧x1=x1∧(∀y1:Nat,y1<x1→True∧W.ready w1 y1=W.ready w1 y1));let z1:=(e1∧(∀a2:Nat,a2<d1→True∧W.doms a2=W.doms a2))∧True;let b2:=0≤t∧t<(l0:Int);let c2:=0≤a∧a<(q0:Int);let d2:=Int.toNat a;let e2:=0+d2;let g2:=W.linesN e2;let h2:=true=true;let k2:=True∧h2;let l2:=g2+1;let o2:=0=0;let q2:=Wd.mk c0 W.ram e0 W.kinds h0 W.slots l0 (sdS W (Int.toNat t) a s) q0 (sdN W d2) (sdL W t d2) v0 W.bits x0 (ofC W t) z0 W.readyN W.ready b1 W.tlbsN W.tlbs d1 W.doms W.time;((a0=a0∧t=t∧True)∧((((((((((((True∧b0∧d0)∧b0∧g0)∧b0∧k0)∧b0∧o0)∧b0∧u0)∧b0∧w0)∧b0∧y0)∧b0∧a1)∧b0∧c1)∧b0∧e1)∧g1)∧h1∧l1∧(k0∧(∀u2:Nat,let v2:=W.slots u2;let w2:=v2.kind;let x2:=v2.base;let y2:=v2.len;let z2:=v2.mark;let a3:=v2.rights;let b3:=v2.badge;let c3:=v2.from_;u2<h0→((((((True∧w2=w2)∧x2=x2)∧y2=y2)∧z2=z2)∧a3=a3)∧b3=b3)∧c3=c3))∧(o0∧(∀d3:Nat,let e3:=W.tasks d3;let g3:=e3.prio;let h3:=e3.node;let k3:=e3.space;let l3:=e3.helper;let o3:=e3.loc;let q3:=e3.word;
    let u3:=e3.badge;let v3:=e3.owes;let w3:=e3.core;let x3:=e3.dom;d3<l0→(((((((((((((((((((True∧e3.r0=e3.r0)∧e3.r1=e3.r1)∧e3.r2=e3.r2)∧e3.r3=e3.r3)∧e3.r4=e3.r4)∧e3.r5=e3.r5)∧e3.r6=e3.r6)∧e3.r7=e3.r7)∧e3.pc=e3.pc)∧e3.st=e3.st)∧g3=g3)∧h3=h3)∧k3=k3)∧l3=l3)∧o3=o3)∧q3=q3)∧u3=u3)∧v3=v3)∧w3=w3)∧x3=x3))∧(u0∧(∀y3:Nat,let z3:=W.linesN y3;y3<q0→True∧z3=z3∧(∀a4:Nat,a4<z3→True∧W.lines y3 a4=W.lines y3 a4)))∧q1∧(y0∧(∀b4:Nat,b4<x0→True∧W.cores b4=W.cores b4))∧v1∧(c1∧(∀c4:Nat,let d4:=W.tlbsN c4;c4<b1→True∧d4=d4∧(∀e4:Nat,let g4:=W.tlbs c4 e4;let h4:=g4.sp;let k4:=g4.pg;let l4:=g4.fr;let o4:=g4.wr;e4<d4→(((True∧h4=h4)∧k4=k4)∧l4=l4)∧o4=o4)))∧z1)∧s_offR.match_1 (fun q4:X_offR=>Prop) (X_offR.mk t W) (fun u4:Int=>fun v4:Wd=>v4.nCores≤100000))∧b2∧(∀w4:Nat,false=false)∧b2∧(∀x4:Nat,false=false)∧tn 11 (c2∧True∧(g2*8≤140737488355328∧(∀y4:Nat,h2))∧tn 2 (tn 2 True∧(((∀z4:Nat,k2)∧(∀a5:Nat,k2)∧True)∧(g2+1)*8≤140737488355328∧(∀b5:Nat,h2))∧(l2*8≤140737488355328∧(∀c5:Nat,h2))∧c2∧(∀d5:Nat,Nat.beq 1 1=true)∧True∧(((((((((((True∧o2∧d0)∧o2∧g0)∧o2∧k0)∧o2∧o0)∧o2∧u0)∧o2∧w0)∧o2∧y0)∧o2∧a1)∧o2∧c1)∧o2∧e1)∧g1)∧h1∧l1∧(k0∧(∀e5:Nat,let g5:=W.slots e5;let h5:=q2.slots e5;e5<h0→((((((True∧g5.kind=h5.kind)∧g5.base=h5.base)∧g5.len=h5.len)∧g5.mark=h5.mark)∧g5.rights=h5.rights)∧g5.badge=h5.badge)∧g5.from_=h5.from_))∧(o0∧(∀k5:Nat,let l5:=W.tasks k5;let o5:=q2.tasks k5;let q5:=Nat.beq k5 (0+Int.toNat t);k5<l0→(((((((((((((((((((True∧l5.r0=o5.r0)∧l5.r1=o5.r1)∧l5.r2=o5.r2)∧l5.r3=o5.r3)∧l5.r4=o5.r4)∧l5.r5=o5.r5)∧l5.r6=o5.r6)∧
    l5.r7=o5.r7)∧l5.pc=o5.pc)∧cond q5 s l5.st=o5.st)∧l5.prio=o5.prio)∧l5.node=o5.node)∧l5.space=o5.space)∧l5.helper=o5.helper)∧cond q5 a l5.loc=o5.loc)∧l5.word=o5.word)∧l5.badge=o5.badge)∧l5.owes=o5.owes)∧l5.core=o5.core)∧l5.dom=o5.dom))∧(u0∧(∀u5:Nat,u5<q0→True∧cond (Nat.beq u5 e2) l2 (W.linesN u5)=sdN W d2 u5∧(∀v5:Nat,v5<sdN W d2 u5→True∧cond (Nat.beq u5 e2) (cond (Nat.blt v5 g2) (W.lines e2 (0+(0+v5))) (List.getD [t] (0+(v5-g2)) 0)) (W.lines u5 v5)=sdL W t d2 u5 v5)))∧q1∧(y0∧(∀w5:Nat,w5<x0→True∧ofC W t w5=ofC W t w5))∧v1∧(c1∧(∀x5:Nat,let y5:=W.tlbsN x5;x5<b1→True∧y5=y5∧(∀z5:Nat,let a6:=W.tlbs x5 z5;let b6:=q2.tlbs x5 z5;z5<y5→(((True∧a6.sp=b6.sp)∧a6.pg=b6.pg)∧a6.fr=b6.fr)∧a6.wr=b6.wr)))∧z1))
set_option maxHeartbeats 1000000 in
theorem ok_stands : FnOK Tryz.prog glN 103 c_stands := ok_of (.cons ok_offR .nil) false Tryz.call103 Tryz.func103 (fun _ => []) (V := V_stands) (fun _ => by kernel_rfl) fun ⟨t, a, s, W⟩ hp => by
  dsimp only [s_stands] at hp
  dsimp only [V_stands, tn, w64]
  simp only [std, stb, eq_self, implies_true, Bool.cond_self]
  try simp only [wd_eta]
  obtain ⟨t0, t1, hl, hc⟩ := hp
  obtain ⟨a0, a1, hn, _⟩ := hl
  refine ⟨hc, ⟨t0, t1⟩, ⟨t0, t1⟩, ⟨a0, a1⟩, by omega, by omega, by omega, ⟨a0, a1⟩, fun _ => rfl, fun j _ => ?_, fun j _ => ⟨rfl, fun k hk => sdL_eq hk⟩⟩
  rcases Decidable.em (j = t.toNat) with h | h
  · subst h; simp only [Nat.beq_refl, cond_true]; unfold sdS; rw [updF_at]; exact ⟨⟨⟨⟨⟨⟨⟨⟨⟨⟨⟨⟨⟨⟨⟨⟨⟨⟨⟨rfl, rfl⟩, rfl⟩, rfl⟩, rfl⟩, rfl⟩, rfl⟩, rfl⟩, rfl⟩, rfl⟩, rfl⟩, rfl⟩, rfl⟩, rfl⟩, rfl⟩, rfl⟩, rfl⟩, rfl⟩, rfl⟩, rfl⟩
  · simp only [beq_ne h, cond_false]; unfold sdS; rw [updF_ne h]; exact run20 rfl
structure X_wait_ where
  (t a s : Int) (W : Wd)
def s_wait_ : Sy.Spec := ⟨X_wait_, fun ⟨t, a, s, _⟩ => [.ptr 0 0 none 0 0, .v (.int .i64 t), .v (.int .i64 a), .v (.int .i64 s)], fun ⟨_, _, _, W⟩ => wMem W, fun ⟨t, a, _, W⟩ => OfP W t ∧ LnP W a, fun _ => .tp 0 (lsv []), fun ⟨t, a, s, W⟩ => wMem (stdW W t a s),
  fun args mem => match args with | [a0, a1, a2, a3] => some ⟨intD (a1), intD (a2), intD (a3), wMJD mem 0⟩ | _ => none⟩
def c_wait_ : Con := ⟨[true], s_wait_.g, none⟩
def V_wait_ : X_wait_ → Prop := fun ⟨t, a, s, W⟩ => let a0:=SV.ptr 0 0 none 0 0;let b0:=0=0;let c0:=W.nRam;let d0:=c0=c0;let e0:=W.nKinds;let g0:=e0=e0;let h0:=W.nSlots;let k0:=h0=h0;let l0:=W.nTasks;let o0:=l0=l0;let q0:=W.nLines;let u0:=q0=q0;let v0:=W.nBits;let w0:=v0=v0;let x0:=W.nCores;let y0:=x0=x0;let z0:=W.nReady;let a1:=z0=z0;let b1:=W.nTlbs;let c1:=b1=b1;let d1:=W.nDoms;let e1:=d1=d1;let g1:=W.time=W.time;let h1:=d0∧(∀k1:Nat,k1<c0→True∧W.ram k1=W.ram k1);let l1:=g0∧(∀o1:Nat,o1<e0→True∧W.kinds o1=W.kinds o1);let q1:=w0∧(∀u1:Nat,u1<v0→True∧W.bits u1=W.bits u1);let v1:=a1∧(∀w1:Nat,let x1:=W.readyN w1;w1<z0→True∧x1=x1∧(∀y1:Nat,y1<x1→True∧W.ready w1 y1=W.ready w1 y1));let z1:=(e1∧(∀a2:Nat,a2<d1→True∧W.doms a2=W.doms a2))∧True;let b2:=0≤t∧t<(l0:Int);let c2:=0≤a∧a<(q0:Int);let d2:=true=true;let e2:=True∧d2;let g2:=Int.toNat a;let h2:=0+g2;let k2:=W.linesN h2;let l2:=k2+1;let o2:=0=0;let q2:=Wd.mk c0 W.ram e0 W.kinds h0 W.slots l0 (sdS W (Int.toNat t) a s) q0 (sdN W g2) (sdL W t g2) v0 W.bits x0 (ofC W t) z0 W.readyN W.ready b1 W.tlbsN W.tlbs d1 W.doms W.time;((a0=a0∧t=t∧True)∧((((((((((((True∧b0∧d0)∧b0∧g0)∧b0∧k0)∧b0∧o0)∧b0∧u0)∧b0∧w0)∧b0∧y0)∧b0∧a1)∧b0∧c1)∧b0∧e1)∧g1)∧h1∧l1∧(k0∧(∀u2:Nat,let v2:=W.slots u2;let w2:=v2.kind;let x2:=v2.base;let y2:=v2.len;let z2:=v2.mark;let a3:=v2.rights;let b3:=v2.badge;let c3:=v2.from_;u2<h0→((((((True∧w2=w2)∧x2=x2)∧y2=y2)∧z2=z2)∧a3=a3)∧b3=b3)∧c3=c3))∧(o0∧(∀d3:Nat,let e3:=W.tasks d3;let g3:=e3.prio;let h3:=e3.node;let k3:=e3.space;let l3:=e3.helper;let o3:=e3.loc;let q3:=e3.word;
    let u3:=e3.badge;let v3:=e3.owes;let w3:=e3.core;let x3:=e3.dom;d3<l0→(((((((((((((((((((True∧e3.r0=e3.r0)∧e3.r1=e3.r1)∧e3.r2=e3.r2)∧e3.r3=e3.r3)∧e3.r4=e3.r4)∧e3.r5=e3.r5)∧e3.r6=e3.r6)∧e3.r7=e3.r7)∧e3.pc=e3.pc)∧e3.st=e3.st)∧g3=g3)∧h3=h3)∧k3=k3)∧l3=l3)∧o3=o3)∧q3=q3)∧u3=u3)∧v3=v3)∧w3=w3)∧x3=x3))∧(u0∧(∀y3:Nat,let z3:=W.linesN y3;y3<q0→True∧z3=z3∧(∀a4:Nat,a4<z3→True∧W.lines y3 a4=W.lines y3 a4)))∧q1∧(y0∧(∀b4:Nat,b4<x0→True∧W.cores b4=W.cores b4))∧v1∧(c1∧(∀c4:Nat,let d4:=W.tlbsN c4;c4<b1→True∧d4=d4∧(∀e4:Nat,let g4:=W.tlbs c4 e4;let h4:=g4.sp;let k4:=g4.pg;let l4:=g4.fr;let o4:=g4.wr;e4<d4→(((True∧h4=h4)∧k4=k4)∧l4=l4)∧o4=o4)))∧z1)∧s_offP.match_1 (fun q4:X_offP=>Prop) (X_offP.mk t W) (fun u4:Int=>fun v4:Wd=>OfP v4 u4))∧tn 12 (b2∧(∀w4:Nat,false=false)∧b2∧(∀x4:Nat,false=false)∧tn 10 (c2∧tn 3 (tn 2 True∧(((∀y4:Nat,True∧(∀z4:Nat,e2))∧(∀a5:Nat,e2)∧True)∧True∧(k2+1)*8≤140737488355328∧(∀b5:Nat,d2))∧(True∧l2*8≤140737488355328∧(∀c5:Nat,d2))∧c2∧(h2=h2∧(∀d5:Nat,Nat.beq 1 1=true))∧True∧(((((((((((True∧o2∧d0)∧o2∧g0)∧o2∧k0)∧o2∧o0)∧o2∧u0)∧o2∧w0)∧o2∧y0)∧o2∧a1)∧o2∧c1)∧o2∧e1)∧g1)∧h1∧l1∧(k0∧(∀e5:Nat,let g5:=W.slots e5;let h5:=q2.slots e5;e5<h0→((((((True∧g5.kind=h5.kind)∧g5.base=h5.base)∧g5.len=h5.len)∧g5.mark=h5.mark)∧g5.rights=h5.rights)∧g5.badge=h5.badge)∧g5.from_=h5.from_))∧(o0∧(∀k5:Nat,let l5:=W.tasks k5;let o5:=q2.tasks k5;let q5:=Nat.beq k5 (0+Int.toNat t);k5<l0→(((((((((((((((((((True∧l5.r0=o5.r0)∧l5.r1=o5.r1)∧l5.r2=o5.r2)∧l5.r3=o5.r3)∧l5.r4=o5.r4)∧l5.r5=o5.r5)∧l5.r6=o5.r6)∧l5.r7=o5.r7)∧
    l5.pc=o5.pc)∧cond q5 s l5.st=o5.st)∧l5.prio=o5.prio)∧l5.node=o5.node)∧l5.space=o5.space)∧l5.helper=o5.helper)∧cond q5 a l5.loc=o5.loc)∧l5.word=o5.word)∧l5.badge=o5.badge)∧l5.owes=o5.owes)∧l5.core=o5.core)∧l5.dom=o5.dom))∧(u0∧(∀u5:Nat,u5<q0→True∧cond (Nat.beq u5 h2) l2 (W.linesN u5)=sdN W g2 u5∧(∀v5:Nat,v5<sdN W g2 u5→True∧cond (Nat.beq u5 h2) (cond (Nat.blt v5 k2) (W.lines h2 (0+v5)) (List.getD [t] (0+(v5-k2)) 0)) (W.lines u5 v5)=sdL W t g2 u5 v5)))∧q1∧(y0∧(∀w5:Nat,w5<x0→True∧ofC W t w5=ofC W t w5))∧v1∧(c1∧(∀x5:Nat,let y5:=W.tlbsN x5;x5<b1→True∧y5=y5∧(∀z5:Nat,let a6:=W.tlbs x5 z5;let b6:=q2.tlbs x5 z5;z5<y5→(((True∧a6.sp=b6.sp)∧a6.pg=b6.pg)∧a6.fr=b6.fr)∧a6.wr=b6.wr)))∧z1)))
set_option maxHeartbeats 1000000 in
theorem ok_wait_ : FnOK Tryz.prog glN 151 c_wait_ := ok_of (.cons ok_offP .nil) false Tryz.call151 Tryz.func151 (fun _ => []) (V := V_wait_) (fun _ => by kernel_rfl) fun ⟨t, a, s, W⟩ hp => by
  dsimp only [s_wait_] at hp
  dsimp only [V_wait_, tn, w64]
  simp only [std, stb, eq_self, implies_true, Bool.cond_self]
  try simp only [wd_eta]
  obtain ⟨hO, hl⟩ := hp
  have t0 := hO.t0
  have t1 := hO.t1
  obtain ⟨a0, a1, hn, _⟩ := hl
  refine ⟨hO, ⟨t0, t1⟩, ⟨t0, t1⟩, ⟨a0, a1⟩, by omega, by omega, ⟨a0, a1⟩, fun _ => rfl, fun j _ => ?_, fun j _ => ⟨rfl, fun k hk => sdL_eq hk⟩⟩
  rcases Decidable.em (j = t.toNat) with h | h
  · subst h; simp only [Nat.beq_refl, cond_true]; unfold sdS; rw [updF_at]; exact ⟨⟨⟨⟨⟨⟨⟨⟨⟨⟨⟨⟨⟨⟨⟨⟨⟨⟨⟨rfl, rfl⟩, rfl⟩, rfl⟩, rfl⟩, rfl⟩, rfl⟩, rfl⟩, rfl⟩, rfl⟩, rfl⟩, rfl⟩, rfl⟩, rfl⟩, rfl⟩, rfl⟩, rfl⟩, rfl⟩, rfl⟩, rfl⟩
  · simp only [beq_ne h, cond_false]; unfold sdS; rw [updF_ne h]; exact run20 rfl
structure X_front where
  (a : Int) (wt : Bool) (W : Wd)
def s_front : Sy.Spec := ⟨X_front, fun ⟨a, wt, _⟩ => [.ptr 0 0 none 0 0, .v (.int .i64 a), .v (.bool wt)], fun ⟨_, _, W⟩ => wMem W, fun ⟨a, _, W⟩ => LnP W a, fun ⟨a, wt, W⟩ => .v (.int .i64 (frtI W a.toNat (fntB W a.toNat fun s => (s == 4) == wt))), fun ⟨a, wt, W⟩ => wMem (frtW W a.toNat (fntB W a.toNat fun s => (s == 4) == wt)),
  fun args mem => match args with | [a0, a1, a2] => some ⟨intD (a1), boolD (a2), wMJD mem 0⟩ | _ => none⟩
def c_front : Con := ⟨[true], s_front.g, none⟩
def V_front : X_front → Prop := fun ⟨a, wt, W⟩ => let a0:=W.nLines;let b0:=0≤a∧a<(a0:Int);let c0:=Int.toNat a;let d0:=((W.linesN (0+c0):Nat):Int);let e0:=d0==0;let g0:=fntB W c0 (fun h0:Int=>(h0==4)==wt);let k0:=frtI W c0 g0;let l0:=0=0;let o0:=W.nRam;let q0:=o0=o0;let u0:=W.nKinds;let v0:=u0=u0;let w0:=W.nSlots;let x0:=w0=w0;let y0:=W.nTasks;let z0:=y0=y0;let a1:=a0=a0;let b1:=W.nBits;let c1:=b1=b1;let d1:=W.nCores;let e1:=d1=d1;let g1:=W.nReady;let h1:=g1=g1;let k1:=W.nTlbs;let l1:=k1=k1;let o1:=W.nDoms;let q1:=o1=o1;let u1:=((((((((((True∧l0∧q0)∧l0∧v0)∧l0∧x0)∧l0∧z0)∧l0∧a1)∧l0∧c1)∧l0∧e1)∧l0∧h1)∧l0∧l1)∧l0∧q1)∧W.time=W.time;let v1:=q0∧(∀w1:Nat,w1<o0→True∧W.ram w1=W.ram w1);let x1:=v0∧(∀y1:Nat,y1<u0→True∧W.kinds y1=W.kinds y1);let z1:=Wd.mk o0 W.ram u0 W.kinds w0 W.slots y0 (frtS W c0 g0) a0 (frtN W c0 g0) (frtL W c0 g0) b1 W.bits d1 W.cores g1 W.readyN W.ready k1 W.tlbsN W.tlbs o1 W.doms W.time;let a2:=x0∧(∀b2:Nat,let c2:=W.slots b2;let d2:=z1.slots b2;b2<w0→((((((True∧c2.kind=d2.kind)∧c2.base=d2.base)∧c2.len=d2.len)∧c2.mark=d2.mark)∧c2.rights=d2.rights)∧c2.badge=d2.badge)∧c2.from_=d2.from_);let e2:=(c1∧(∀g2:Nat,g2<b1→True∧W.bits g2=W.bits g2))∧(e1∧(∀h2:Nat,h2<d1→True∧W.cores h2=W.cores h2))∧(h1∧(∀k2:Nat,let l2:=W.readyN k2;k2<g1→True∧l2=l2∧(∀o2:Nat,o2<l2→True∧W.ready k2 o2=W.ready k2 o2)))∧(l1∧(∀q2:Nat,let u2:=W.tlbsN q2;q2<k1→True∧u2=u2∧(∀v2:Nat,let w2:=W.tlbs q2 v2;let x2:=z1.tlbs q2 v2;v2<u2→(((True∧w2.sp=x2.sp)∧w2.pg=x2.pg)∧w2.fr=x2.fr)∧w2.wr=x2.wr)))∧(q1∧(∀y2:Nat,y2<o1→True∧W.doms y2=W.doms y2))∧True;
    let z2:=(-1)=k0∧u1∧v1∧x1∧a2∧(z0∧(∀a3:Nat,let b3:=W.tasks a3;let c3:=z1.tasks a3;a3<y0→(((((((((((((((((((True∧b3.r0=c3.r0)∧b3.r1=c3.r1)∧b3.r2=c3.r2)∧b3.r3=c3.r3)∧b3.r4=c3.r4)∧b3.r5=c3.r5)∧b3.r6=c3.r6)∧b3.r7=c3.r7)∧b3.pc=c3.pc)∧b3.st=c3.st)∧b3.prio=c3.prio)∧b3.node=c3.node)∧b3.space=c3.space)∧b3.helper=c3.helper)∧b3.loc=c3.loc)∧b3.word=c3.word)∧b3.badge=c3.badge)∧b3.owes=c3.owes)∧b3.core=c3.core)∧b3.dom=c3.dom))∧(a1∧(∀d3:Nat,let e3:=frtN W c0 g0 d3;d3<a0→True∧W.linesN d3=e3∧(∀g3:Nat,g3<e3→True∧W.lines d3 g3=frtL W c0 g0 d3 g3)))∧e2;let h3:=0+c0;let k3:=((W.linesN h3:Nat):Int);let l3:=W.lines h3 0;let o3:=0≤l3∧l3<(y0:Int);let q3:=0+Int.toNat l3;let u3:=((W.tasks q3).st==4) !=wt;let v3:=Int.toNat k3-Int.toNat 1;b0∧(d0≤9223372036854775807→(e0=true→z2)∧(e0=false→b0∧((0:Int)≤0∧0<k3)∧o3∧(u3=true→z2)∧(u3=false→tn 11 (b0∧True∧((0:Int)≤1∧1≤k3∧k3≤k3)∧(v3*8≤140737488355328∧(∀w3:Nat,true=true))∧b0∧(∀x3:Nat,Nat.beq 1 1=true)∧o3∧(∀y3:Nat,false=false)∧l3=k0∧u1∧v1∧x1∧a2∧(z0∧(∀z3:Nat,let a4:=W.tasks z3;let b4:=z1.tasks z3;z3<y0→(((((((((((((((((((True∧a4.r0=b4.r0)∧a4.r1=b4.r1)∧a4.r2=b4.r2)∧a4.r3=b4.r3)∧a4.r4=b4.r4)∧a4.r5=b4.r5)∧a4.r6=b4.r6)∧a4.r7=b4.r7)∧a4.pc=b4.pc)∧a4.st=b4.st)∧a4.prio=b4.prio)∧a4.node=b4.node)∧a4.space=b4.space)∧a4.helper=b4.helper)∧cond (Nat.beq z3 q3) (-1) a4.loc=b4.loc)∧a4.word=b4.word)∧a4.badge=b4.badge)∧a4.owes=b4.owes)∧a4.core=b4.core)∧a4.dom=b4.dom))∧(a1∧(∀c4:Nat,let d4:=frtN W c0 g0 c4;c4<a0→True∧cond (Nat.beq c4 h3) v3 (W.linesN c4)=d4∧(∀e4:Nat,e4<d4→True∧
    cond (Nat.beq c4 h3) (W.lines h3 (0+Int.toNat 1+e4)) (W.lines c4 e4)=frtL W c0 g0 c4 e4)))∧e2))))
set_option maxHeartbeats 1000000 in
theorem ok_front : FnOK Tryz.prog glN 102 c_front := ok_of .nil false Tryz.call102 Tryz.func102 (fun _ => []) (V := V_front) (fun _ => by kernel_rfl) fun ⟨a, wt, W⟩ hp => by
  dsimp only [s_front] at hp
  dsimp only [V_front, tn, w64]
  simp only [std, stb, eq_self, implies_true, Bool.cond_self]
  try simp only [wd_eta]
  obtain ⟨a0, a1, hn, hl⟩ := hp
  refine ⟨⟨a0, a1⟩, fun _ => ⟨fun h0 => ?_, fun h0 => ⟨⟨a0, a1⟩, ?_⟩⟩⟩
  · have e : fntB W a.toNat (fun h0 => (h0 == 4) == wt) = false := fn0 (len_0 h0)
    rw [e]; exact ⟨rfl, fun j _ => run20 rfl, fun d _ => ⟨rfl, fun g _ => rfl⟩⟩
  have h1 := len_n h0
  have hl := hl (by omega)
  refine ⟨⟨by decide, by omega⟩, hl, fun h2 => ?_, fun h2 => ⟨⟨a0, a1⟩, ⟨by decide, by omega, by omega⟩, by omega, ⟨a0, a1⟩, fun _ => rfl, hl, ?_⟩⟩
  · have e : fntB W a.toNat (fun h0 => (h0 == 4) == wt) = false := fn1 h1 (by revert h2; cases ((W.tasks (W.lines a.toNat 0).toNat).st == 4) <;> cases wt <;> simp)
    rw [e]; exact ⟨rfl, fun j _ => run20 rfl, fun d _ => ⟨rfl, fun g _ => rfl⟩⟩
  · have e : fntB W a.toNat (fun h0 => (h0 == 4) == wt) = true := fn1 h1 (by revert h2; cases ((W.tasks (W.lines a.toNat 0).toNat).st == 4) <;> cases wt <;> simp)
    rw [e]; refine ⟨rfl, fun j _ => ?_, fun c _ => ⟨rfl, fun g hg => ?_⟩⟩
    · rcases Decidable.em (j = (W.lines a.toNat 0).toNat) with h | h
      · subst h; simp only [Nat.beq_refl, cond_true]; unfold frtS frS; rw [updF_at]; exact ⟨⟨⟨⟨⟨⟨⟨⟨⟨⟨⟨⟨⟨⟨⟨⟨⟨⟨⟨rfl, rfl⟩, rfl⟩, rfl⟩, rfl⟩, rfl⟩, rfl⟩, rfl⟩, rfl⟩, rfl⟩, rfl⟩, rfl⟩, rfl⟩, rfl⟩, rfl⟩, rfl⟩, rfl⟩, rfl⟩, rfl⟩, rfl⟩
      · simp only [beq_ne h, cond_false]; unfold frtS frS; rw [updF_ne h]; exact run20 rfl
    · rcases Decidable.em (c = a.toNat) with h | h
      · subst h; simp only [Nat.beq_refl, cond_true]; unfold frtL frL; rw [updF_at]; exact congrArg _ (Nat.add_comm _ _)
      · simp only [beq_ne h, cond_false]; unfold frtL frL; rw [updF_ne h]; rfl
structure X_first_ where
  (a : Int) (n : Nat) (ss : Nat → Int) (W : Wd)
def s_first_ : Sy.Spec := ⟨X_first_, fun ⟨a, n, ss, _⟩ => [.ptr 0 0 none 0 0, .v (.int .i64 a), .sl true 1 n (fun i_ _ => .v (.int .i64 (ss i_)))], fun ⟨_, _, _, W⟩ => wMem W, fun ⟨a, n, _, W⟩ => LnP W a ∧ n ≤ 1000, fun ⟨a, n, ss, W⟩ => .v (.int .i64 (frtI W a.toNat (fntB W a.toNat fun s => anyB n fun k => s == ss k))), fun ⟨a, n, ss, W⟩ => wMem (frtW W a.toNat (fntB W a.toNat fun s => anyB n fun k => s == ss k)),
  fun args mem => match args with | [a0, a1, a2] => some ⟨intD (a1), slN a2, fun i => intD (slF a2 i 0), wMJD mem 0⟩ | _ => none⟩
def c_first_ : Con := ⟨[true], s_first_.g, none⟩
def V_first_ : X_first_ → Prop := fun ⟨a, n, ss, W⟩ => let a0:=W.nLines;let b0:=0≤a∧a<(a0:Int);let c0:=Int.toNat a;let d0:=((W.linesN (0+c0):Nat):Int);let e0:=d0==0;let g0:=fntB W c0 (fun h0:Int=>anyB n (fun k0:Nat=>h0==ss k0));let l0:=frtI W c0 g0;let o0:=0=0;let q0:=W.nRam;let u0:=q0=q0;let v0:=W.nKinds;let w0:=v0=v0;let x0:=W.nSlots;let y0:=x0=x0;let z0:=W.nTasks;let a1:=z0=z0;let b1:=a0=a0;let c1:=W.nBits;let d1:=c1=c1;let e1:=W.nCores;let g1:=e1=e1;let h1:=W.nReady;let k1:=h1=h1;let l1:=W.nTlbs;let o1:=l1=l1;let q1:=W.nDoms;let u1:=q1=q1;let v1:=W.time=W.time;let w1:=((((((((((True∧o0∧u0)∧o0∧w0)∧o0∧y0)∧o0∧a1)∧o0∧b1)∧o0∧d1)∧o0∧g1)∧o0∧k1)∧o0∧o1)∧o0∧u1)∧v1;let x1:=u0∧(∀y1:Nat,y1<q0→True∧W.ram y1=W.ram y1);let z1:=w0∧(∀a2:Nat,a2<v0→True∧W.kinds a2=W.kinds a2);let b2:=Wd.mk q0 W.ram v0 W.kinds x0 W.slots z0 (frtS W c0 g0) a0 (frtN W c0 g0) (frtL W c0 g0) c1 W.bits e1 W.cores h1 W.readyN W.ready l1 W.tlbsN W.tlbs q1 W.doms W.time;let c2:=y0∧(∀d2:Nat,let e2:=W.slots d2;let g2:=b2.slots d2;d2<x0→((((((True∧e2.kind=g2.kind)∧e2.base=g2.base)∧e2.len=g2.len)∧e2.mark=g2.mark)∧e2.rights=g2.rights)∧e2.badge=g2.badge)∧e2.from_=g2.from_);let h2:=d1∧(∀k2:Nat,k2<c1→True∧W.bits k2=W.bits k2);let l2:=g1∧(∀o2:Nat,o2<e1→True∧W.cores o2=W.cores o2);let q2:=k1∧(∀u2:Nat,let v2:=W.readyN u2;u2<h1→True∧v2=v2∧(∀w2:Nat,w2<v2→True∧W.ready u2 w2=W.ready u2 w2));let x2:=(u1∧(∀y2:Nat,y2<q1→True∧W.doms y2=W.doms y2))∧True;
    let z2:=h2∧l2∧q2∧(o1∧(∀a3:Nat,let b3:=W.tlbsN a3;a3<l1→True∧b3=b3∧(∀c3:Nat,let d3:=W.tlbs a3 c3;let e3:=b2.tlbs a3 c3;c3<b3→(((True∧d3.sp=e3.sp)∧d3.pg=e3.pg)∧d3.fr=e3.fr)∧d3.wr=e3.wr)))∧x2;let g3:=(-1)=l0∧w1∧x1∧z1∧c2∧(a1∧(∀h3:Nat,let k3:=W.tasks h3;let l3:=b2.tasks h3;h3<z0→(((((((((((((((((((True∧k3.r0=l3.r0)∧k3.r1=l3.r1)∧k3.r2=l3.r2)∧k3.r3=l3.r3)∧k3.r4=l3.r4)∧k3.r5=l3.r5)∧k3.r6=l3.r6)∧k3.r7=l3.r7)∧k3.pc=l3.pc)∧k3.st=l3.st)∧k3.prio=l3.prio)∧k3.node=l3.node)∧k3.space=l3.space)∧k3.helper=l3.helper)∧k3.loc=l3.loc)∧k3.word=l3.word)∧k3.badge=l3.badge)∧k3.owes=l3.owes)∧k3.core=l3.core)∧k3.dom=l3.dom))∧(b1∧(∀o3:Nat,let q3:=frtN W c0 g0 o3;o3<a0→True∧W.linesN o3=q3∧(∀u3:Nat,u3<q3→True∧W.lines o3 u3=frtL W c0 g0 o3 u3)))∧z2;let v3:=0+c0;let w3:=((W.linesN v3:Nat):Int);let x3:=(n:Int);let y3:=SV.ptr 0 0 none 0 0=SV.ptr 0 0 none 0 0;let z3:=0=0;
    let a4:=(((((((((((True∧z3∧u0)∧z3∧w0)∧z3∧y0)∧z3∧a1)∧z3∧b1)∧z3∧d1)∧z3∧g1)∧z3∧k1)∧z3∧o1)∧z3∧u1)∧v1)∧x1∧z1∧(y0∧(∀b4:Nat,let c4:=W.slots b4;let d4:=c4.kind;let e4:=c4.base;let g4:=c4.len;let h4:=c4.mark;let k4:=c4.rights;let l4:=c4.badge;let o4:=c4.from_;b4<x0→((((((True∧d4=d4)∧e4=e4)∧g4=g4)∧h4=h4)∧k4=k4)∧l4=l4)∧o4=o4))∧(a1∧(∀q4:Nat,let u4:=W.tasks q4;let v4:=u4.prio;let w4:=u4.node;let x4:=u4.space;let y4:=u4.helper;let z4:=u4.loc;let a5:=u4.word;let b5:=u4.badge;let c5:=u4.owes;let d5:=u4.core;let e5:=u4.dom;q4<z0→(((((((((((((((((((True∧u4.r0=u4.r0)∧u4.r1=u4.r1)∧u4.r2=u4.r2)∧u4.r3=u4.r3)∧u4.r4=u4.r4)∧u4.r5=u4.r5)∧u4.r6=u4.r6)∧u4.r7=u4.r7)∧u4.pc=u4.pc)∧u4.st=u4.st)∧v4=v4)∧w4=w4)∧x4=x4)∧y4=y4)∧z4=z4)∧a5=a5)∧b5=b5)∧c5=c5)∧d5=d5)∧e5=e5))∧(b1∧(∀g5:Nat,let h5:=W.linesN g5;g5<a0→True∧h5=h5∧(∀k5:Nat,k5<h5→True∧W.lines g5 k5=W.lines g5 k5)))∧h2∧l2∧q2∧(o1∧(∀l5:Nat,let o5:=W.tlbsN l5;l5<l1→True∧o5=o5∧(∀q5:Nat,let u5:=W.tlbs l5 q5;let v5:=u5.sp;let w5:=u5.pg;let x5:=u5.fr;let y5:=u5.wr;q5<o5→(((True∧v5=v5)∧w5=w5)∧x5=x5)∧y5=y5)))∧x2;let z5:=(W.tasks (Int.toNat (W.lines c0 0))).st;let a6:=W.lines v3 0;let b6:=0≤a6∧a6<(z0:Int);let c6:=0+Int.toNat a6;let d6:=(W.tasks c6).st;let e6:=Int.toNat w3-Int.toNat 1;b0∧(d0≤9223372036854775807→(e0=true→g3)∧(e0=false→b0∧((0:Int)≤0∧0<w3)∧(x3≤9223372036854775807→y3∧0=((0:Nat):Int)∧a4∧(0≤n∧(∀g6:Nat,g6<0→(z5==ss g6)=false))∧(∀h6:Nat,let k6:=(h6:Int);let l6:=decide (k6<x3);let o6:=d6==ss (Int.toNat k6);let q6:Int:=k6+1;h6≤n∧(∀u6:Nat,u6<h6→
    (z5==ss u6)=false)→(l6=true→(0≤k6∧k6<x3)∧b6∧(o6=true→tn 11 (b0∧True∧((0:Int)≤1∧1≤w3∧w3≤w3)∧(e6*8≤140737488355328∧(∀v6:Nat,true=true))∧b0∧(∀w6:Nat,Nat.beq 1 1=true)∧b6∧(∀x6:Nat,false=false)∧a6=l0∧w1∧x1∧z1∧c2∧(a1∧(∀y6:Nat,let z6:=W.tasks y6;let a7:=b2.tasks y6;y6<z0→(((((((((((((((((((True∧z6.r0=a7.r0)∧z6.r1=a7.r1)∧z6.r2=a7.r2)∧z6.r3=a7.r3)∧z6.r4=a7.r4)∧z6.r5=a7.r5)∧z6.r6=a7.r6)∧z6.r7=a7.r7)∧z6.pc=a7.pc)∧z6.st=a7.st)∧z6.prio=a7.prio)∧z6.node=a7.node)∧z6.space=a7.space)∧z6.helper=a7.helper)∧cond (Nat.beq y6 c6) (-1) z6.loc=a7.loc)∧z6.word=a7.word)∧z6.badge=a7.badge)∧z6.owes=a7.owes)∧z6.core=a7.core)∧z6.dom=a7.dom))∧(b1∧(∀b7:Nat,let c7:=frtN W c0 g0 b7;b7<a0→True∧cond (Nat.beq b7 v3) e6 (W.linesN b7)=c7∧(∀d7:Nat,d7<c7→True∧cond (Nat.beq b7 v3) (W.lines v3 (0+Int.toNat 1+d7)) (W.lines b7 d7)=frtL W c0 g0 b7 d7)))∧z2))∧(o6=false→w64 q6=q6∧(∃e7:Nat,y3∧q6=(e7:Int)∧a4∧(e7≤n∧(∀g7:Nat,g7<e7→(z5==ss g7)=false))∧n-e7<n-h6)))∧(l6=false→g3)))))
set_option maxHeartbeats 1000000 in
theorem ok_first_ : FnOK Tryz.prog glN 150 c_first_ := ok_of .nil false Tryz.call150 Tryz.func150 (fun ⟨a, n, ss, W⟩ => [.inv (an_fs W a.toNat n ss)]) (V := V_first_) (fun _ => by kernel_rfl) fun ⟨a, n, ss, W⟩ hp => by
  dsimp only [s_first_] at hp
  dsimp only [V_first_, tn, w64]
  simp only [std, stb, eq_self, implies_true, Bool.cond_self]
  try simp only [wd_eta]
  obtain ⟨⟨a0, a1, hn, hl⟩, hk⟩ := hp
  refine ⟨⟨a0, a1⟩, fun _ => ⟨fun h0 => ?_, fun h0 => ⟨⟨a0, a1⟩, ?_⟩⟩⟩
  · have e : fntB W a.toNat (fun h0 => anyB n fun k0 => h0 == ss k0) = false := fn0 (len_0 h0)
    rw [e]; exact ⟨rfl, fun j _ => run20 rfl, fun d _ => ⟨rfl, fun g _ => rfl⟩⟩
  have h1 := len_n h0
  have hl := hl (by omega)
  refine ⟨⟨by decide, by omega⟩, fun _ s hs => ⟨fun h => ?_, fun h => ?_⟩⟩
  · have hlt := lt_of_dec h
    refine ⟨by omega, hl, fun h2 => ⟨⟨a0, a1⟩, ⟨by decide, by omega, by omega⟩, by omega, ⟨a0, a1⟩, fun _ => rfl, hl, ?_⟩, fun h2 => ⟨wr_in (by omega) (by omega), s + 1, by omega, ⟨by omega, fun j hj => ?_⟩, by omega⟩⟩
    · have e : fntB W a.toNat (fun h0 => anyB n fun k0 => h0 == ss k0) = true := fn1 h1 (anyB_iff.2 ⟨s, by omega, h2⟩)
      rw [e]; refine ⟨rfl, fun j _ => ?_, fun c _ => ⟨rfl, fun g hg => ?_⟩⟩
      · rcases Decidable.em (j = (W.lines a.toNat 0).toNat) with h | h
        · subst h; simp only [Nat.beq_refl, cond_true]; unfold frtS frS; rw [updF_at]; exact ⟨⟨⟨⟨⟨⟨⟨⟨⟨⟨⟨⟨⟨⟨⟨⟨⟨⟨⟨rfl, rfl⟩, rfl⟩, rfl⟩, rfl⟩, rfl⟩, rfl⟩, rfl⟩, rfl⟩, rfl⟩, rfl⟩, rfl⟩, rfl⟩, rfl⟩, rfl⟩, rfl⟩, rfl⟩, rfl⟩, rfl⟩, rfl⟩
        · simp only [beq_ne h, cond_false]; unfold frtS frS; rw [updF_ne h]; exact run20 rfl
      · rcases Decidable.em (c = a.toNat) with h | h
        · subst h; simp only [Nat.beq_refl, cond_true]; unfold frtL frL; rw [updF_at]; exact congrArg _ (Nat.add_comm _ _)
        · simp only [beq_ne h, cond_false]; unfold frtL frL; rw [updF_ne h]; rfl
    · rcases Decidable.em (j = s) with e | e
      · rw [e]; exact h2
      · exact hs.2 j (by omega)
  · have hge := ge_of_dec h
    have e : fntB W a.toNat (fun h0 => anyB n fun k0 => h0 == ss k0) = false := fn1 h1 (anyB_false.2 fun i hi => hs.2 i (by omega))
    rw [e]; exact ⟨rfl, fun j _ => run20 rfl, fun d _ => ⟨rfl, fun g _ => rfl⟩⟩
end Go.Proofs.YtdjilaofmdhikaaGreatDoor
set_option linter.unusedVariables false
set_option linter.unusedSimpArgs false
set_option maxRecDepth 100000
namespace Go.Proofs.YtdjilaofmdhikaaGreatDoor
open Go.RowKit Go.Sy
theorem WkP.of {W W' : Wd} {t : Int} (h : WkP W t) (e1 : W'.nTasks = W.nTasks) (e2 : W'.nReady = W.nReady) (e3 : W'.readyN = W.readyN) (e4 : (W'.tasks t.toNat).core = (W.tasks t.toNat).core) (e5 : (W'.tasks t.toNat).prio = (W.tasks t.toNat).prio) : WkP W' t := by
  obtain ⟨t0, t1, r0, r1, c0, c1, p0, p1, n⟩ := h
  have ez : rkZ (W'.tasks t.toNat) = rkZ (W.tasks t.toNat) := by unfold rkZ; rw [e4, e5]
  exact ⟨t0, by rw [e1]; exact t1, by rw [ez]; exact r0, by rw [ez, e2]; exact r1, by rw [e4]; exact c0, by rw [e4]; exact c1, by rw [e5]; exact p0, by rw [e5]; exact p1, by unfold rkOf; rw [ez, e3]; exact n⟩
theorem OfP.of {W W' : Wd} {t : Int} (h : OfP W t) (e1 : W'.nTasks = W.nTasks) (e2 : W'.nCores = W.nCores) (e3 : W'.cores = W.cores) (e4 : (W'.tasks t.toNat).core = (W.tasks t.toNat).core) : OfP W' t := by
  obtain ⟨t0, t1, c0, c1, u⟩ := h
  exact ⟨t0, by rw [e1]; exact t1, by rw [e4]; exact c0, by rw [e4, e2]; exact c1, by rw [e2, e3, e4]; exact u⟩
theorem frt_p {W : Wd} {a i : Nat} {b : Bool} (p : Run → Int) (h : ∀ r : Run, p { r with loc := -1 } = p r) : p ((frtW W a b).tasks i) = p (W.tasks i) := by
  show p (frtS W a b i) = _
  unfold frtS
  cases b
  · rfl
  · exact updF_cp p (h _)
theorem han_p {W : Wd} {t i : Nat} {b g : Int} (p : Run → Int) (h : ∀ r : Run, p { r with r1 := b, r2 := g } = p r) : p ((hanW W t b g).tasks i) = p (W.tasks i) := updF_cp p (h _)
theorem wok_p {W : Wd} {t i : Nat} (p : Run → Int) (h : ∀ r : Run, p { r with st := 1, loc := -1 } = p r) : p ((wokW W t).tasks i) = p (W.tasks i) := updF_cp p (h _)
theorem WkP.frt {W : Wd} {t : Int} {a : Nat} {b : Bool} (h : WkP W t) : WkP (frtW W a b) t := h.of rfl rfl rfl (frt_p Run.core fun _ => rfl) (frt_p Run.prio fun _ => rfl)
theorem WkP.han {W : Wd} {t : Int} {u : Nat} {b g : Int} (h : WkP W t) : WkP (hanW W u b g) t := h.of rfl rfl rfl (han_p Run.core fun _ => rfl) (han_p Run.prio fun _ => rfl)
theorem OfP.frt {W : Wd} {t : Int} {a : Nat} {b : Bool} (h : OfP W t) : OfP (frtW W a b) t := h.of rfl rfl rfl (frt_p Run.core fun _ => rfl)
theorem OfP.han {W : Wd} {t : Int} {u : Nat} {b g : Int} (h : OfP W t) : OfP (hanW W u b g) t := h.of rfl rfl rfl (han_p Run.core fun _ => rfl)
theorem OfP.wok {W : Wd} {t : Int} {u : Nat} (h : OfP W t) : OfP (wokW W u) t := h.of rfl rfl rfl (wok_p Run.core fun _ => rfl)
end Go.Proofs.YtdjilaofmdhikaaGreatDoor
set_option linter.unusedVariables false
set_option linter.unusedSimpArgs false
set_option maxRecDepth 100000
namespace Go.Proofs.YtdjilaofmdhikaaGreatDoor
open Go.RowKit Go.Sy
def actE (W : Wd) (t a k : Int) : Int := bif decide (t < 0) || decide ((W.nKinds : Int) ≤ t) || decide (a < 0) || decide ((W.nKinds : Int) ≤ a) then 2 else bif W.kinds t.toNat != 6 || W.kinds a.toNat != k then 3 else bif W.cores (W.tasks t.toNat).core.toNat == t then 0 else 7
structure AcP (W : Wd) : Prop where
  z : Szd W
  k : ∀ i : Nat, i < W.nTasks → 0 ≤ (W.tasks i).core ∧ (W.tasks i).core < W.nCores
  u : ∀ (t : Int) (j : Nat), 0 ≤ t → j < W.nCores → W.cores j = t → (W.tasks t.toNat).core = j
structure DoP (W : Wd) (t a : Int) : Prop where
  l : LnP W a
  o : OfP W t
  nc : W.nCores ≤ 100000
  ow : -1 ≤ (W.tasks t.toNat).owes
  f : 0 < W.linesN a.toNat → WkP W (W.lines a.toNat 0) ∧ 2 ≤ (W.tasks (W.lines a.toNat 0).toNat).st ∧ (W.tasks (W.lines a.toNat 0).toNat).st ≤ 4
def an_wd (n : Nat) (l : Nat → Int) (q : Nat) : Ann where
  σ := Nat
  rt := []
  sh i := [(q, .v (.int .i64 i))]
  mh _ := []
  inv i := i ≤ n ∧ ∀ j, j < i → farB (l j) 65535 = false
  μ i := n - i
  init := 0
theorem act_in {W : Wd} {t : Int} (h : AcP W) (t0 : 0 ≤ t) (t1 : t < W.nKinds) : inB' W.nCores W.cores t = (W.cores (W.tasks t.toNat).core.toNat == t) := by
  obtain ⟨hz, hk, hu⟩ := h
  have z1 := hz.tasks
  have hc := hk t.toNat (by omega)
  rw [Bool.eq_iff_iff]
  unfold inB'
  rw [anyB_iff]
  constructor
  · rintro ⟨j, hj, he⟩
    have := hu t j t0 hj (eq_of_beq he)
    rw [show (W.tasks t.toNat).core.toNat = j by omega]
    exact he
  · intro he
    exact ⟨(W.tasks t.toNat).core.toNat, by omega, he⟩
structure X_actR where
  (W : Wd) (t a k : Int)
def s_actR : Sy.Spec := ⟨X_actR, fun ⟨W, t, a, k⟩ => [wPT W, .v (.int .i64 t), .v (.int .i64 a), .v (.int .i64 k)], fun _ => [], fun ⟨W, _, _, _⟩ => AcP W, fun ⟨W, t, a, k⟩ => .v (.int .i64 (actE W t a k)), fun _ => [],
  fun args mem => match args with | [a0, a1, a2, a3] => some ⟨wPTD a0, intD (a1), intD (a2), intD (a3)⟩ | _ => none⟩
def c_actR : Con := ⟨[], s_actR.g, none⟩
def V_actR : X_actR → Prop := fun ⟨W, t, a, k⟩ => let a0:=((W.nKinds:Nat):Int);let b0:=cond (cond (cond (decide (t<0)) true (decide (a0≤t))) true (decide (a<0))) true (decide (a0≤a));let c0:=actE W t a k;let d0:=W.kinds (Int.toNat t) !=6;let e0:=cond d0 true (W.kinds (Int.toNat a) !=k);let g0:=W.nCores;let h0:=!inB' g0 W.cores t;(b0=true→2=c0∧True)∧(b0=false→(0≤t∧t<a0)∧(d0=false→0≤a∧a<a0)∧(e0=true→3=c0∧True)∧(e0=false→((t=t∧(g0=g0∧(∀k0:Nat,k0<g0→True∧W.cores k0=W.cores k0))∧True)∧True∧True)∧(h0=true→7=c0∧True)∧(h0=false→0=c0∧True)))
set_option maxHeartbeats 1000000 in
theorem ok_actR : FnOK Tryz.prog glN 39 c_actR := ok_of (.cons ok_inL .nil) false Tryz.call39 Tryz.func39 (fun _ => []) (V := V_actR) (fun _ => by kernel_rfl) fun ⟨W, t, a, k⟩ hp => by
  dsimp only [s_actR] at hp
  dsimp only [V_actR, tn, w64]
  simp only [std, stb, eq_self, implies_true, Bool.cond_self]
  try simp only [wd_eta]
  have hp' := hp
  obtain ⟨hz, hk, hu⟩ := hp
  have z1 := hz.tasks
  unfold actE
  refine ⟨fun h => by rw [h]; rfl, fun h => ?_⟩
  simp only [h, cond_false]
  simp only [Bool.or_eq_false_iff, decide_eq_false_iff_not] at h
  refine ⟨by omega, fun _ => by omega, fun h2 => by rw [h2]; rfl, fun h2 => ?_⟩
  simp only [h2, cond_false, act_in hp' (show 0 ≤ t by omega) (by omega)]
  cases W.cores (W.tasks t.toNat).core.toNat == t <;> simp
structure X_actP where
  (W : Wd) (t a k : Int)
def s_actP : Sy.Spec := ⟨X_actP, fun ⟨W, t, a, k⟩ => [wPT W, .v (.int .i64 t), .v (.int .i64 a), .v (.int .i64 k)], fun _ => [], fun ⟨W, _, _, _⟩ => AcP W, fun ⟨W, t, a, k⟩ => .er 35 116 (actE W t a k) (-1), fun _ => [],
  fun args mem => match args with | [a0, a1, a2, a3] => some ⟨wPTD a0, intD (a1), intD (a2), intD (a3)⟩ | _ => none⟩
def c_actP : Con := ⟨[], s_actP.g, none⟩
def V_actP : X_actP → Prop := fun ⟨W, t, a, k⟩ => let a0:=((W.nKinds:Nat):Int);let b0:=cond (cond (cond (decide (t<0)) true (decide (a0≤t))) true (decide (a<0))) true (decide (a0≤a));let c0:=actE W t a k;let d0:=((-1):Int)=(-1);let e0:=W.kinds (Int.toNat t) !=6;let g0:=cond e0 true (W.kinds (Int.toNat a) !=k);let h0:=(W.tasks (Int.toNat t)).core;let k0:=W.cores (Int.toNat h0) !=t;(b0=true→((2:Int)≠0∧c0=2∧d0)∧True)∧(b0=false→(0≤t∧t<a0)∧(e0=false→0≤a∧a<a0)∧(g0=true→((3:Int)≠0∧c0=3∧d0)∧True)∧(g0=false→tn 9 ((0≤t∧t<((W.nTasks:Nat):Int))∧tn 3 ((0≤h0∧h0<((W.nCores:Nat):Int))∧(k0=true→((7:Int)≠0∧c0=7∧d0)∧True)∧(k0=false→(c0=0∧d0)∧True)))))
set_option maxHeartbeats 1000000 in
theorem ok_actP : FnOK Tryz.prog glN 98 c_actP := ok_of .nil false Tryz.call98 Tryz.func98 (fun _ => []) (V := V_actP) (fun _ => by kernel_rfl) fun ⟨W, t, a, k⟩ hp => by
  dsimp only [s_actP] at hp
  dsimp only [V_actP, tn, w64]
  simp only [std, stb, eq_self, implies_true, Bool.cond_self]
  try simp only [wd_eta]
  have hp' := hp
  obtain ⟨hz, hk, hu⟩ := hp
  have z1 := hz.tasks
  unfold actE
  refine ⟨fun h => ⟨by decide, by rw [h]; rfl⟩, fun h => ?_⟩
  simp only [h, cond_false]
  simp only [Bool.or_eq_false_iff, decide_eq_false_iff_not] at h
  refine ⟨by omega, fun _ => by omega, fun h2 => ⟨by decide, by rw [h2]; rfl⟩, fun h2 => ?_⟩
  simp only [h2, cond_false]
  refine ⟨by omega, hk t.toNat (by omega), fun h3 => ⟨by decide, ?_⟩, fun h3 => ?_⟩
  · rw [show (W.cores (W.tasks t.toNat).core.toNat == t) = false by simpa using h3]; rfl
  · rw [show (W.cores (W.tasks t.toNat).core.toNat == t) = true by simpa using h3]; rfl
structure X_wordsP where
  (n : Nat) (l : Nat → Int)
def s_wordsP : Sy.Spec := ⟨X_wordsP, fun ⟨n, l⟩ => [.sl true 1 n (fun i_ _ => .v (.int .i64 (l i_)))], fun _ => [], fun ⟨n, _⟩ => n ≤ 1000, fun ⟨n, l⟩ => .er 35 116 (bif allB n fun i => !farB (l i) 65535 then 0 else 1) (-1), fun _ => [],
  fun args mem => match args with | [a0] => some ⟨slN a0, fun i => intD (slF a0 i 0)⟩ | _ => none⟩
def c_wordsP : Con := ⟨[], s_wordsP.g, none⟩
def V_wordsP : X_wordsP → Prop := fun ⟨n, l⟩ => let a0:=(n:Int);let b0:Int:=cond (allB n (fun c0:Nat=>!farB (l c0) 65535)) 0 1;a0≤9223372036854775807→0=((0:Nat):Int)∧True∧(0≤n∧(∀d0:Nat,d0<0→farB (l d0) 65535=false))∧(∀e0:Nat,let g0:=(e0:Int);let h0:=decide (g0<a0);let k0:Int:=l (Int.toNat g0);let l0:=cond (decide (k0<0)) true (decide (65535<k0));let o0:Int:=g0+1;e0≤n∧(∀q0:Nat,q0<e0→farB (l q0) 65535=false)→(h0=true→(0≤g0∧g0<a0)∧(l0=true→((1:Int)≠0∧b0=1∧((-1):Int)=(-1))∧True)∧(l0=false→w64 o0=o0∧(∃r0:Nat,o0=(r0:Int)∧True∧(r0≤n∧(∀u0:Nat,u0<r0→farB (l u0) 65535=false))∧n-r0<n-e0)))∧(h0=false→(b0=0∧((-1):Int)=(-1))∧True))
set_option maxHeartbeats 1000000 in
theorem ok_wordsP : FnOK Tryz.prog glN 99 c_wordsP := ok_of .nil false Tryz.call99 Tryz.func99 (fun ⟨n, l⟩ => [.inv (an_wd n l 7)]) (V := V_wordsP) (fun _ => by kernel_rfl) fun ⟨n, l⟩ hp => by
  dsimp only [s_wordsP] at hp
  dsimp only [V_wordsP, tn, w64]
  simp only [std, stb, eq_self, implies_true, Bool.cond_self]
  try simp only [wd_eta]
  refine fun _ s hs => ⟨fun h => ?_, fun h => ?_⟩
  · have hlt := lt_of_dec h
    refine ⟨by omega, fun h2 => ⟨by decide, ?_⟩, fun h2 => ⟨wr_in (by omega) (by omega), exS ⟨⟨by omega, snocF (p := fun i => farB (l i) 65535) hs.2 h2⟩, by omega⟩⟩⟩
    have e : (allB n fun c0 => !farB (l c0) 65535) = false := allB_false (p := fun c0 => !farB (l c0) 65535) hlt (by show (!farB (l s) 65535) = false; rw [show farB (l s) 65535 = true from h2]; rfl)
    rw [e]; rfl
  · have hge := ge_of_dec h
    obtain rfl : s = n := by omega
    have e : (allB s fun c0 => !farB (l c0) 65535) = true := allB_iff.2 fun i hi => by rw [hs.2 i hi]; rfl
    rw [e]; rfl
end Go.Proofs.YtdjilaofmdhikaaGreatDoor
set_option linter.unusedVariables false
set_option linter.unusedSimpArgs false
set_option maxRecDepth 100000
namespace Go.Proofs.YtdjilaofmdhikaaGreatDoor
open Go.RowKit Go.Sy
theorem all2 {p : Nat → Bool} : allB 2 p = (p 0 && p 1) := by
  rw [Bool.eq_iff_iff, allB_iff, Bool.and_eq_true]
  refine ⟨fun h => ⟨h 0 (by omega), h 1 (by omega)⟩, fun h i hi => ?_⟩
  rcases Nat.eq_zero_or_pos i with e | e
  · rw [e]; exact h.1
  · obtain rfl : i = 1 := by omega
    exact h.2
theorem co_uni {W : Wd} (h : Snd W) (t : Int) (j : Nat) (h0 : 0 ≤ t) (hj : j < W.nCores) (he : W.cores j = t) : (W.tasks t.toNat).core = j := by
  have hc := h.co j hj
  unfold coB at hc
  rw [he] at hc
  simp only [Bool.or_eq_true, beq_iff_eq] at hc
  rcases hc with hc | hc
  · omega
  · exact (rdB_in hc).2.2.2.1
theorem ac_of {W : Wd} (h : Snd W) (hs : Sm W) : AcP W := ⟨h.z, fun i hi => ((inv_of h hs).tk i hi).core, co_uni h⟩
theorem of_of {W : Wd} (h : Snd W) (hs : Sm W) {t : Int} (t0 : 0 ≤ t) (t1 : t < W.nTasks) : OfP W t := by
  have hc := ((inv_of h hs).tk t.toNat (by omega)).core
  exact ⟨t0, t1, hc.1, hc.2, fun j hj he => co_uni h t j t0 hj he⟩
theorem wk_of {W : Wd} (h : Snd W) (hs : Sm W) {t : Int} (t0 : 0 ≤ t) (t1 : t < W.nTasks) : WkP W t := inv_wkp (inv_of h hs) (by decide) t0 t1
theorem ln_of {W : Wd} (h : Snd W) (hs : Sm W) {a : Int} (a0 : 0 ≤ a) (a1 : a < W.nLines) : LnP W a := by
  have hl := (inv_of h hs).ln a.toNat (by omega)
  exact ⟨a0, a1, by omega, fun hn => hl.2 0 hn⟩
theorem fst_st {W : Wd} (h : Snd W) {a : Nat} (ha : a < W.nKinds) (hn : 0 < W.linesN a) : (W.kinds a = 7 ∧ 2 ≤ (W.tasks (W.lines a 0).toNat).st ∧ (W.tasks (W.lines a 0).toNat).st ≤ 4) ∨ (W.kinds a = 8 ∧ (W.tasks (W.lines a 0).toNat).st = 6) := by
  have hl := h.ln a ha
  unfold lnB at hl
  simp only [Bool.and_eq_true] at hl
  have ht := allB_iff.1 hl.2 0 hn
  unfold lnTest at ht
  simp only [Bool.and_eq_true, beq_iff_eq] at ht
  obtain ⟨⟨h1, h2⟩, _⟩ := ht
  have hi := kof_in (W := W) (f := W.lines a 0) (by rw [h1]; decide)
  rw [kof_eq hi] at h1
  have hT := h.tk (W.lines a 0).toNat (by omega)
  unfold tkB at hT
  simp only [show (W.kinds (W.lines a 0).toNat != 6) = false by rw [h1]; decide, cond_false, Bool.and_eq_true] at hT
  have hT := hT.2
  have ka : kof W (a : Int) = W.kinds a := kof_eq (W := W) (f := (a : Int)) (by omega)
  unfold stOK standOK at hT
  dsimp only at hT
  rw [h2, ka] at hT
  cases c1 : (W.tasks (W.lines a 0).toNat).st == 2 <;> cases c2 : (W.tasks (W.lines a 0).toNat).st == 3 <;> cases c3 : (W.tasks (W.lines a 0).toNat).st == 4 <;> cases c4 : (W.tasks (W.lines a 0).toNat).st == 6 <;> cases c5 : (W.tasks (W.lines a 0).toNat).st == 1 <;> simp only [c1, c2, c3, c4, c5, Bool.or_true, Bool.true_or, Bool.or_false, cond_true, cond_false, Bool.and_eq_true, beq_iff_eq] at hT <;> simp only [beq_iff_eq, beq_eq_false_iff_ne] at c1 c2 c3 c4 c5 <;> omega
theorem do_of {W : Wd} (h : Snd W) (hs : Sm W) {t a : Int} (t0 : 0 ≤ t) (t1 : t < W.nKinds) (a0 : 0 ≤ a) (a1 : a < W.nKinds) (hk : W.kinds a.toNat = 7) : DoP W t a := by
  have I := inv_of h hs
  have z1 := h.z.lines
  have z3 := h.z.tasks
  have z4 := h.z.c1
  have hl := I.ln a.toNat (by omega)
  refine ⟨ln_of h hs a0 (by omega), of_of h hs t0 (by omega), by omega, (I.tk t.toNat (by omega)).owes.1, fun hn => ?_⟩
  have hf := hl.2 0 hn
  refine ⟨wk_of h hs hf.1 hf.2, ?_⟩
  rcases fst_st h (by omega) hn with e | e
  · exact e.2
  · omega
theorem act_0 {W : Wd} {t a k : Int} (h : actE W t a k = 0) : 0 ≤ t ∧ t < W.nKinds ∧ 0 ≤ a ∧ a < W.nKinds ∧ W.kinds t.toNat = 6 ∧ W.kinds a.toNat = k := by
  unfold actE at h
  cases h1 : (decide (t < 0) || decide ((W.nKinds : Int) ≤ t) || decide (a < 0) || decide ((W.nKinds : Int) ≤ a)) with
  | true => rw [h1] at h; exact absurd (show (2 : Int) = 0 from h) (by decide)
  | false =>
    cases h2 : (W.kinds t.toNat != 6 || W.kinds a.toNat != k) with
    | true => rw [h1, h2] at h; exact absurd (show (3 : Int) = 0 from h) (by decide)
    | false =>
      simp only [Bool.or_eq_false_iff, decide_eq_false_iff_not, bne_eq_false_iff_eq] at h1 h2
      omega
end Go.Proofs.YtdjilaofmdhikaaGreatDoor
set_option linter.unusedVariables false
set_option linter.unusedSimpArgs false
set_option maxRecDepth 100000
namespace Go.Proofs.YtdjilaofmdhikaaGreatDoor
open Go.RowKit Go.Sy
def cut_st (W : Wd) (c : Nat) : Cut where
  σ := Nat
  rt := []
  sh _ := [(0, pt0 0)]
  mem _ := wMem (outW W c)
  inv _ := True
  dec _ _ := 0
def an_sti (W : Wd) (K : Nat) : Ann where
  σ := Nat
  rt := []
  sh i := [(0, pt0 0), (6, .slc 8 0 (some (K, 0)) 0 (W.readyN K)), (7, .v (.int .i64 i))]
  mh _ := []
  inv i := i ≤ W.readyN K ∧ ∀ j, j < i → ((W.tasks (W.ready K j).toNat).dom == turnD W) = false
  μ i := W.readyN K - i
  init := 0
structure X_settledT where
  (c : Int) (W : Wd)
def s_settledT : Sy.Spec := ⟨X_settledT, fun ⟨c, _⟩ => [.ptr 0 0 none 0 0, .v (.int .i64 c)], fun ⟨_, W⟩ => wMem W, fun ⟨c, W⟩ => Inv 999 W ∧ 0 ≤ c ∧ c < W.nCores, fun _ => .tp 0 (lsv []), fun ⟨c, W⟩ => wMem (stlW W c.toNat),
  fun args mem => match args with | [a0, a1] => some ⟨intD (a1), wMJD mem 0⟩ | _ => none⟩
def c_settledT : Con := ⟨[true], s_settledT.g, none⟩
def V_settledT : X_settledT → Prop := fun ⟨c, W⟩ => let a0:=W.nCores;let b0:=0≤c∧c<(a0:Int);let c0:=Int.toNat c;let d0:=W.cores (0+c0);let e0:=decide (0≤d0);let g0:=e0=true;let h0:=W.nTasks;let k0:=W.nRam;let l0:=k0=k0;let o0:=W.nKinds;let q0:=o0=o0;let u0:=W.nSlots;let v0:=u0=u0;let w0:=h0=h0;let x0:=W.nLines;let y0:=x0=x0;let z0:=W.nBits;let a1:=z0=z0;let b1:=a0=a0;let c1:=W.nReady;let d1:=c1=c1;let e1:=W.nTlbs;let g1:=e1=e1;let h1:=W.nDoms;let k1:=h1=h1;let l1:=W.time;let o1:=l1=l1;let q1:=Int.toNat d0;let u1:=cond e0 ((W.tasks (0+q1)).dom !=turnD (Wd.mk k0 (fun v1:Nat=>W.ram (0+v1)) o0 (fun w1:Nat=>W.kinds (0+w1)) u0 (fun x1:Nat=>W.slots (0+x1)) h0 (fun y1:Nat=>W.tasks (0+y1)) x0 (fun z1:Nat=>W.linesN (0+z1)) (fun a2:Nat=>fun b2:Nat=>W.lines (0+a2) (0+b2)) z0 (fun c2:Nat=>W.bits (0+c2)) a0 (fun d2:Nat=>W.cores (0+d2)) c1 (fun e2:Nat=>W.readyN (0+e2)) (fun g2:Nat=>fun h2:Nat=>W.ready (0+g2) (0+h2)) e1 (fun k2:Nat=>W.tlbsN (0+k2)) (fun l2:Nat=>fun o2:Nat=>W.tlbs (0+l2) (0+o2)) h1 (fun q2:Nat=>W.doms (0+q2)) l1)) false;let u2:=SV.ptr 0 0 none 0 0=SV.ptr 0 0 none 0 0;let v2:=0=0;let w2:=0+c0;let x2:=Wd.mk k0 W.ram o0 W.kinds u0 W.slots h0 W.tasks x0 W.linesN W.lines z0 W.bits a0 (fun y2:Nat=>cond (Nat.beq y2 w2) (-1) (W.cores y2)) c1 W.readyN W.ready e1 W.tlbsN W.tlbs h1 W.doms l1;let z2:=outW W c0;let a3:=z2.nRam;let b3:=k0=a3;let c3:=z2.nKinds;let d3:=o0=c3;let e3:=z2.nSlots;let g3:=u0=e3;let h3:=z2.nTasks;let k3:=h0=h3;let l3:=z2.nLines;let o3:=x0=l3;let q3:=z2.nBits;let u3:=z0=q3;let v3:=z2.nCores;let w3:=a0=v3;
    let x3:=z2.nReady;let y3:=c1=x3;let z3:=z2.nTlbs;let a4:=e1=z3;let b4:=z2.nDoms;let c4:=h1=b4;let d4:=z2.time;let e4:=((((((((((True∧v2∧b3)∧v2∧d3)∧v2∧g3)∧v2∧k3)∧v2∧o3)∧v2∧u3)∧v2∧w3)∧v2∧y3)∧v2∧a4)∧v2∧c4)∧l1=d4;let g4:=b3∧(∀h4:Nat,h4<a3→True∧W.ram h4=z2.ram h4);let k4:=d3∧(∀l4:Nat,l4<c3→True∧W.kinds l4=z2.kinds l4);let o4:=g3∧(∀q4:Nat,let u4:=W.slots q4;let v4:=z2.slots q4;q4<e3→((((((True∧u4.kind=v4.kind)∧u4.base=v4.base)∧u4.len=v4.len)∧u4.mark=v4.mark)∧u4.rights=v4.rights)∧u4.badge=v4.badge)∧u4.from_=v4.from_);let w4:=Wd.mk k0 W.ram o0 W.kinds u0 W.slots h0 (wkS x2 q1) x0 W.linesN W.lines z0 W.bits a0 (fun x4:Nat=>cond (Nat.beq x4 w2) (-1) (W.cores x4)) c1 (wkN x2 q1) (wkL x2 q1) e1 W.tlbsN W.tlbs h1 W.doms l1;let y4:=o3∧(∀z4:Nat,z4<l3→True∧W.linesN z4=z2.linesN z4∧(∀a5:Nat,a5<z2.linesN z4→True∧W.lines z4 a5=z2.lines z4 a5));let b5:=u3∧(∀c5:Nat,c5<q3→True∧W.bits c5=z2.bits c5);let d5:=(a4∧(∀e5:Nat,e5<z3→True∧W.tlbsN e5=z2.tlbsN e5∧(∀g5:Nat,let h5:=W.tlbs e5 g5;let k5:=z2.tlbs e5 g5;g5<z2.tlbsN e5→(((True∧h5.sp=k5.sp)∧h5.pg=k5.pg)∧h5.fr=k5.fr)∧h5.wr=k5.wr)))∧(c4∧(∀l5:Nat,l5<b4→True∧W.doms l5=z2.doms l5))∧True;let o5:=0≤c∧c<(v3:Int);let q5:=decide (0≤z2.cores w2);let u5:=stlW W c0;let v5:=u5.nRam;let w5:=a3=v5;let x5:=u5.nKinds;let y5:=c3=x5;let z5:=u5.nSlots;let a6:=e3=z5;let b6:=u5.nTasks;let c6:=h3=b6;let d6:=u5.nLines;let e6:=l3=d6;let g6:=u5.nBits;let h6:=q3=g6;let k6:=u5.nCores;let l6:=v3=k6;let o6:=u5.nReady;let q6:=x3=o6;let u6:=u5.nTlbs;let v6:=z3=u6;
    let w6:=u5.nDoms;let x6:=b4=w6;let y6:=((((((((((True∧v2∧w5)∧v2∧y5)∧v2∧a6)∧v2∧c6)∧v2∧e6)∧v2∧h6)∧v2∧l6)∧v2∧q6)∧v2∧v6)∧v2∧x6)∧d4=u5.time;let z6:=w5∧(∀a7:Nat,a7<v5→True∧z2.ram a7=u5.ram a7);let b7:=y5∧(∀c7:Nat,c7<x5→True∧z2.kinds c7=u5.kinds c7);let d7:=a6∧(∀e7:Nat,let g7:=z2.slots e7;let h7:=u5.slots e7;e7<z5→((((((True∧g7.kind=h7.kind)∧g7.base=h7.base)∧g7.len=h7.len)∧g7.mark=h7.mark)∧g7.rights=h7.rights)∧g7.badge=h7.badge)∧g7.from_=h7.from_);let k7:=c6∧(∀l7:Nat,let o7:=z2.tasks l7;let q7:=u5.tasks l7;l7<b6→(((((((((((((((((((True∧o7.r0=q7.r0)∧o7.r1=q7.r1)∧o7.r2=q7.r2)∧o7.r3=q7.r3)∧o7.r4=q7.r4)∧o7.r5=q7.r5)∧o7.r6=q7.r6)∧o7.r7=q7.r7)∧o7.pc=q7.pc)∧o7.st=q7.st)∧o7.prio=q7.prio)∧o7.node=q7.node)∧o7.space=q7.space)∧o7.helper=q7.helper)∧o7.loc=q7.loc)∧o7.word=q7.word)∧o7.badge=q7.badge)∧o7.owes=q7.owes)∧o7.core=q7.core)∧o7.dom=q7.dom);let u7:=e6∧(∀v7:Nat,v7<d6→True∧z2.linesN v7=u5.linesN v7∧(∀w7:Nat,w7<u5.linesN v7→True∧z2.lines v7 w7=u5.lines v7 w7));let x7:=h6∧(∀y7:Nat,y7<g6→True∧z2.bits y7=u5.bits y7);let z7:=(v6∧(∀a8:Nat,a8<u6→True∧z2.tlbsN a8=u5.tlbsN a8∧(∀b8:Nat,let c8:=z2.tlbs a8 b8;let d8:=u5.tlbs a8 b8;b8<u5.tlbsN a8→(((True∧c8.sp=d8.sp)∧c8.pg=d8.pg)∧c8.fr=d8.fr)∧c8.wr=d8.wr)))∧(x6∧(∀e8:Nat,e8<w6→True∧z2.doms e8=u5.doms e8))∧True;let g8:=True∧y6∧z6∧b7∧d7∧k7∧u7∧x7∧(l6∧(∀h8:Nat,h8<k6→True∧z2.cores h8=u5.cores h8))∧(q6∧(∀k8:Nat,k8<o6→True∧z2.readyN k8=u5.readyN k8∧(∀l8:Nat,l8<u5.readyN k8→True∧z2.ready k8 l8=u5.ready k8 l8)))∧z7;let o8:=0=0;let q8:=a3=a3;let r8:=c3=c3;
    let u8:=e3=e3;let v8:=h3=h3;let w8:=l3=l3;let x8:=q3=q3;let y8:=v3=v3;let z8:=x3=x3;let a9:=z3=z3;let b9:=b4=b4;let c9:=d4=d4;
    let d9:=(((((((((((True∧o8∧q8)∧o8∧r8)∧o8∧u8)∧o8∧v8)∧o8∧w8)∧o8∧x8)∧o8∧y8)∧o8∧z8)∧o8∧a9)∧o8∧b9)∧c9)∧(q8∧(∀e9:Nat,e9<a3→True∧z2.ram e9=z2.ram e9))∧(r8∧(∀g9:Nat,g9<c3→True∧z2.kinds g9=z2.kinds g9))∧(u8∧(∀h9:Nat,let k9:=z2.slots h9;let l9:=k9.kind;let o9:=k9.base;let q9:=k9.len;let r9:=k9.mark;let u9:=k9.rights;let v9:=k9.badge;let w9:=k9.from_;h9<e3→((((((True∧l9=l9)∧o9=o9)∧q9=q9)∧r9=r9)∧u9=u9)∧v9=v9)∧w9=w9))∧(v8∧(∀x9:Nat,let y9:=z2.tasks x9;let z9:=y9.prio;let a10:=y9.node;let b10:=y9.space;let c10:=y9.helper;let d10:=y9.loc;let e10:=y9.word;let g10:=y9.badge;let h10:=y9.owes;let k10:=y9.core;let l10:=y9.dom;x9<h3→(((((((((((((((((((True∧y9.r0=y9.r0)∧y9.r1=y9.r1)∧y9.r2=y9.r2)∧y9.r3=y9.r3)∧y9.r4=y9.r4)∧y9.r5=y9.r5)∧y9.r6=y9.r6)∧y9.r7=y9.r7)∧y9.pc=y9.pc)∧y9.st=y9.st)∧z9=z9)∧a10=a10)∧b10=b10)∧c10=c10)∧d10=d10)∧e10=e10)∧g10=g10)∧h10=h10)∧k10=k10)∧l10=l10))∧(w8∧(∀o10:Nat,let q10:=z2.linesN o10;o10<l3→True∧q10=q10∧(∀r10:Nat,r10<q10→True∧z2.lines o10 r10=z2.lines o10 r10)))∧(x8∧(∀u10:Nat,u10<q3→True∧z2.bits u10=z2.bits u10))∧(y8∧(∀v10:Nat,v10<v3→True∧z2.cores v10=z2.cores v10))∧(z8∧(∀w10:Nat,let x10:=z2.readyN w10;w10<x3→True∧x10=x10∧(∀y10:Nat,y10<x10→True∧z2.ready w10 y10=z2.ready w10 y10)))∧(a9∧(∀z10:Nat,let a11:=z2.tlbsN z10;z10<z3→True∧a11=a11∧(∀b11:Nat,let c11:=z2.tlbs z10 b11;let d11:=c11.sp;let e11:=c11.pg;let g11:=c11.fr;let h11:=c11.wr;b11<a11→(((True∧d11=d11)∧e11=e11)∧g11=g11)∧h11=h11)))∧(b9∧(∀k11:Nat,k11<b4→True∧z2.doms k11=z2.doms k11))∧True;let l11:=c0*4;
    let o11:Int:=c*4;let q11:=w64 o11=o11;let r11:=(x3:Int);let u11:=turnD z2;let v11:=turnD (Wd.mk a3 (fun w11:Nat=>z2.ram (0+w11)) c3 (fun x11:Nat=>z2.kinds (0+x11)) e3 (fun y11:Nat=>z2.slots (0+y11)) h3 (fun z11:Nat=>z2.tasks (0+z11)) l3 (fun a12:Nat=>z2.linesN (0+a12)) (fun b12:Nat=>fun c12:Nat=>z2.lines (0+b12) (0+c12)) q3 (fun d12:Nat=>z2.bits (0+d12)) v3 (fun e12:Nat=>z2.cores (0+e12)) x3 (fun g12:Nat=>z2.readyN (0+g12)) (fun h12:Nat=>fun k12:Nat=>z2.ready (0+h12) (0+k12)) z3 (fun l12:Nat=>z2.tlbsN (0+l12)) (fun o12:Nat=>fun q12:Nat=>z2.tlbs (0+o12) (0+q12)) b4 (fun r12:Nat=>z2.doms (0+r12)) d4);let u12:=Int.toNat 0;let v12:=true=true;let w12:=True∧v12;b0∧tn 8 ((g0→0≤d0∧d0<(h0:Int))∧tn 3 ((g0→((((((((((((True∧l0∧(∀x12:Nat,x12<k0→True∧W.ram (0+x12)=W.ram (0+x12)))∧q0∧(∀y12:Nat,let z12:=W.kinds (0+y12);y12<o0→True∧z12=z12))∧v0∧(∀a13:Nat,let b13:=W.slots (0+a13);let c13:=b13.kind;let d13:=b13.base;let e13:=b13.len;let g13:=b13.mark;let h13:=b13.rights;let k13:=b13.badge;let l13:=b13.from_;a13<u0→((((((True∧c13=c13)∧d13=d13)∧e13=e13)∧g13=g13)∧h13=h13)∧k13=k13)∧l13=l13))∧w0∧(∀o13:Nat,let q13:=W.tasks (0+o13);let r13:=q13.r0;let u13:=q13.r1;let v13:=q13.r2;let w13:=q13.r3;let x13:=q13.r4;let y13:=q13.r5;let z13:=q13.r6;let a14:=q13.r7;let b14:=q13.pc;let c14:=q13.st;let d14:=q13.prio;let e14:=q13.node;let g14:=q13.space;let h14:=q13.helper;let k14:=q13.loc;let l14:=q13.word;let o14:=q13.badge;let q14:=q13.owes;let r14:=q13.core;let u14:=q13.dom;o13<h0→
    (((((((((((((((((((True∧r13=r13)∧u13=u13)∧v13=v13)∧w13=w13)∧x13=x13)∧y13=y13)∧z13=z13)∧a14=a14)∧b14=b14)∧c14=c14)∧d14=d14)∧e14=e14)∧g14=g14)∧h14=h14)∧k14=k14)∧l14=l14)∧o14=o14)∧q14=q14)∧r14=r14)∧u14=u14))∧y0∧(∀v14:Nat,let w14:=W.linesN (0+v14);v14<x0→True∧w14=w14∧(∀x14:Nat,let y14:=W.lines (0+v14) (0+x14);x14<w14→True∧y14=y14)))∧a1∧(∀z14:Nat,z14<z0→True∧W.bits (0+z14)=W.bits (0+z14)))∧b1∧(∀a15:Nat,let b15:=W.cores (0+a15);a15<a0→True∧b15=b15))∧d1∧(∀c15:Nat,let d15:=W.readyN (0+c15);c15<c1→True∧d15=d15∧(∀e15:Nat,let g15:=W.ready (0+c15) (0+e15);e15<d15→True∧g15=g15)))∧g1∧(∀h15:Nat,let k15:=0+h15;let l15:=W.tlbsN k15;h15<e1→True∧l15=l15∧(∀o15:Nat,let q15:=W.tlbs k15 (0+o15);let r15:=q15.sp;let u15:=q15.pg;let v15:=q15.fr;let w15:=q15.wr;o15<l15→(((True∧r15=r15)∧u15=u15)∧v15=v15)∧w15=w15)))∧k1∧(∀x15:Nat,x15<h1→True∧W.doms (0+x15)=W.doms (0+x15)))∧o1)∧True)∧True∧1≤h1∧h1≤100∧0≤l1∧l1≤100000000)∧(u1=true→b0∧(∀y15:Nat,false=false)∧((u2∧d0=d0∧True)∧((((((((((((True∧v2∧l0)∧v2∧q0)∧v2∧v0)∧v2∧w0)∧v2∧y0)∧v2∧a1)∧v2∧b1)∧v2∧d1)∧v2∧g1)∧v2∧k1)∧o1)∧(l0∧(∀z15:Nat,z15<k0→True∧W.ram z15=W.ram z15))∧(q0∧(∀a16:Nat,a16<o0→True∧W.kinds a16=W.kinds a16))∧(v0∧(∀b16:Nat,let c16:=W.slots b16;let d16:=c16.kind;let e16:=c16.base;let g16:=c16.len;let h16:=c16.mark;let k16:=c16.rights;let l16:=c16.badge;let o16:=c16.from_;b16<u0→((((((True∧d16=d16)∧e16=e16)∧g16=g16)∧h16=h16)∧k16=k16)∧l16=l16)∧o16=o16))∧(w0∧(∀q16:Nat,let r16:=W.tasks q16;let u16:=r16.prio;let v16:=r16.node;let w16:=r16.space;
    let x16:=r16.helper;let y16:=r16.loc;let z16:=r16.word;let a17:=r16.badge;let b17:=r16.owes;let c17:=r16.core;let d17:=r16.dom;q16<h0→(((((((((((((((((((True∧r16.r0=r16.r0)∧r16.r1=r16.r1)∧r16.r2=r16.r2)∧r16.r3=r16.r3)∧r16.r4=r16.r4)∧r16.r5=r16.r5)∧r16.r6=r16.r6)∧r16.r7=r16.r7)∧r16.pc=r16.pc)∧r16.st=r16.st)∧u16=u16)∧v16=v16)∧w16=w16)∧x16=x16)∧y16=y16)∧z16=z16)∧a17=a17)∧b17=b17)∧c17=c17)∧d17=d17))∧(y0∧(∀e17:Nat,let g17:=W.linesN e17;e17<x0→True∧g17=g17∧(∀h17:Nat,h17<g17→True∧W.lines e17 h17=W.lines e17 h17)))∧(a1∧(∀k17:Nat,k17<z0→True∧W.bits k17=W.bits k17))∧(b1∧(∀l17:Nat,let o17:Int:=cond (Nat.beq l17 w2) (-1) (W.cores l17);l17<a0→True∧o17=o17))∧(d1∧(∀q17:Nat,let r17:=W.readyN q17;q17<c1→True∧r17=r17∧(∀u17:Nat,u17<r17→True∧W.ready q17 u17=W.ready q17 u17)))∧(g1∧(∀v17:Nat,let w17:=W.tlbsN v17;v17<e1→True∧w17=w17∧(∀x17:Nat,let y17:=W.tlbs v17 x17;let z17:=y17.sp;let a18:=y17.pg;let b18:=y17.fr;let c18:=y17.wr;x17<w17→(((True∧z17=z17)∧a18=a18)∧b18=b18)∧c18=c18)))∧(k1∧(∀d18:Nat,d18<h1→True∧W.doms d18=W.doms d18))∧True)∧s_woken.match_1 (fun e18:X_woken=>Prop) (X_woken.mk d0 x2) (fun g18:Int=>fun h18:Wd=>WkP h18 g18))∧u2∧(e4∧g4∧k4∧o4∧(k3∧(∀k18:Nat,let l18:=w4.tasks k18;let o18:=z2.tasks k18;k18<h3→(((((((((((((((((((True∧l18.r0=o18.r0)∧l18.r1=o18.r1)∧l18.r2=o18.r2)∧l18.r3=o18.r3)∧l18.r4=o18.r4)∧l18.r5=o18.r5)∧l18.r6=o18.r6)∧l18.r7=o18.r7)∧l18.pc=o18.pc)∧l18.st=o18.st)∧l18.prio=o18.prio)∧l18.node=o18.node)∧l18.space=o18.space)∧l18.helper=o18.helper)∧l18.loc=o18.loc)∧
    l18.word=o18.word)∧l18.badge=o18.badge)∧l18.owes=o18.owes)∧l18.core=o18.core)∧l18.dom=o18.dom))∧y4∧b5∧(w3∧(∀q18:Nat,q18<v3→True∧cond (Nat.beq q18 w2) (-1) (W.cores q18)=z2.cores q18))∧(y3∧(∀r18:Nat,r18<x3→True∧wkN x2 q1 r18=z2.readyN r18∧(∀u18:Nat,u18<z2.readyN r18→True∧wkL x2 q1 r18 u18=z2.ready r18 u18)))∧d5)∧True)∧(u1=false→u2∧(e4∧g4∧k4∧o4∧(k3∧(∀v18:Nat,let w18:=W.tasks v18;let x18:=z2.tasks v18;v18<h3→(((((((((((((((((((True∧w18.r0=x18.r0)∧w18.r1=x18.r1)∧w18.r2=x18.r2)∧w18.r3=x18.r3)∧w18.r4=x18.r4)∧w18.r5=x18.r5)∧w18.r6=x18.r6)∧w18.r7=x18.r7)∧w18.pc=x18.pc)∧w18.st=x18.st)∧w18.prio=x18.prio)∧w18.node=x18.node)∧w18.space=x18.space)∧w18.helper=x18.helper)∧w18.loc=x18.loc)∧w18.word=x18.word)∧w18.badge=x18.badge)∧w18.owes=x18.owes)∧w18.core=x18.core)∧w18.dom=x18.dom))∧y4∧b5∧(w3∧(∀y18:Nat,y18<v3→True∧W.cores y18=z2.cores y18))∧(y3∧(∀z18:Nat,z18<x3→True∧W.readyN z18=z2.readyN z18∧(∀a19:Nat,a19<z2.readyN z18→True∧W.ready z18 a19=z2.ready z18 a19)))∧d5)∧True)))∧(∀b19:Nat,True→o5∧(q5=true→g8)∧(q5=false→3=3-((0:Nat):Int)∧u2∧d9∧(0≤4∧(∀c19:Nat,c19<0→chH z2 (l11+(3-c19))=false))∧(∀d19:Nat,let e19:Int:=3-(d19:Int);let g19:=decide (0≤e19);let h19:Int:=o11+e19;let k19:=w64 h19=h19;let l19:=0≤h19∧h19<r11;let o19:=Int.toNat h19;let q19:=0+o19;let r19:=z2.readyN o19;let u19:=(r19:Int);let v19:=(((outW W (Int.toNat c)).readyN (Int.toNat (c*4+e19)):Nat):Int);let w19:=Int.toNat u19;let x19:Int:=e19-1;d19≤4∧(∀y19:Nat,y19<d19→chH z2 (l11+(3-y19))=false)→(g19=true→q11∧k19∧l19∧u2∧((q19<x3∧0<1)∧
    q19=o19∧v2∧0=0∧z2.readyN q19=r19)∧0=((0:Nat):Int)∧d9∧(0≤r19∧(∀z19:Nat,z19<0→((z2.tasks (Int.toNat (z2.ready o19 z19))).dom==u11)=false))∧(∀a20:Nat,let b20:=(a20:Int);let c20:=decide (b20<u19);let d20:=0≤b20∧b20<u19;let e20:=z2.ready o19 (0+Int.toNat b20);let g20:=(z2.tasks (0+Int.toNat e20)).dom==v11;let h20:=Int.toNat b20-u12;let k20:Int:=b20+1;let l20:=w64 k20=k20;let o20:=Int.toNat k20;let q20:=h20+(w19-o20);let r20:=q20*8≤140737488355328∧(∀u20:Nat,v12);a20≤r19∧(∀v20:Nat,v20<a20→((z2.tasks (Int.toNat (z2.ready o19 v20))).dom==u11)=false)→u19≤9223372036854775807→(c20=true→tn 6 (d20∧True∧(0≤e20∧e20<(h3:Int))∧tn 3 ((((((((((((((True∧q8∧(∀w20:Nat,w20<a3→True∧z2.ram (0+w20)=z2.ram (0+w20)))∧r8∧(∀x20:Nat,let y20:=z2.kinds (0+x20);x20<c3→True∧y20=y20))∧u8∧(∀z20:Nat,let a21:=z2.slots (0+z20);let b21:=a21.kind;let c21:=a21.base;let d21:=a21.len;let e21:=a21.mark;let g21:=a21.rights;let h21:=a21.badge;let k21:=a21.from_;z20<e3→((((((True∧b21=b21)∧c21=c21)∧d21=d21)∧e21=e21)∧g21=g21)∧h21=h21)∧k21=k21))∧v8∧(∀l21:Nat,let o21:=z2.tasks (0+l21);let q21:=o21.r0;let r21:=o21.r1;let u21:=o21.r2;let v21:=o21.r3;let w21:=o21.r4;let x21:=o21.r5;let y21:=o21.r6;let z21:=o21.r7;let a22:=o21.pc;let b22:=o21.st;let c22:=o21.prio;let d22:=o21.node;let e22:=o21.space;let g22:=o21.helper;let h22:=o21.loc;let k22:=o21.word;let l22:=o21.badge;let o22:=o21.owes;let q22:=o21.core;let r22:=o21.dom;l21<h3→(((((((((((((((((((True∧q21=q21)∧r21=r21)∧u21=u21)∧v21=v21)∧w21=w21)∧x21=x21)∧y21=y21)∧z21=z21)∧
    a22=a22)∧b22=b22)∧c22=c22)∧d22=d22)∧e22=e22)∧g22=g22)∧h22=h22)∧k22=k22)∧l22=l22)∧o22=o22)∧q22=q22)∧r22=r22))∧w8∧(∀u22:Nat,let v22:=z2.linesN (0+u22);u22<l3→True∧v22=v22∧(∀w22:Nat,let x22:=z2.lines (0+u22) (0+w22);w22<v22→True∧x22=x22)))∧x8∧(∀y22:Nat,y22<q3→True∧z2.bits (0+y22)=z2.bits (0+y22)))∧y8∧(∀z22:Nat,let a23:=z2.cores (0+z22);z22<v3→True∧a23=a23))∧z8∧(∀b23:Nat,let c23:=z2.readyN (0+b23);b23<x3→True∧c23=c23∧(∀d23:Nat,let e23:=z2.ready (0+b23) (0+d23);d23<c23→True∧e23=e23)))∧a9∧(∀g23:Nat,let h23:=0+g23;let k23:=z2.tlbsN h23;g23<z3→True∧k23=k23∧(∀l23:Nat,let o23:=z2.tlbs h23 (0+l23);let q23:=o23.sp;let r23:=o23.pg;let u23:=o23.fr;let v23:=o23.wr;l23<k23→(((True∧q23=q23)∧r23=r23)∧u23=u23)∧v23=v23)))∧b9∧(∀w23:Nat,w23<b4→True∧z2.doms (0+w23)=z2.doms (0+w23)))∧c9)∧True)∧True∧1≤b4∧b4≤100∧0≤d4∧d4≤100000000)∧(g20=true→tn 7 (d20∧True∧o5∧(∀x23:Nat,false=false)∧tn 5 (q11∧True∧k19∧tn 3 (((0:Int)≤0∧0≤b20∧b20≤u19)∧(h20*8≤140737488355328∧(∀y23:Nat,v12))∧tn 2 (l20∧(0≤k20∧k20≤u19∧u19≤u19)∧tn 2 True∧(((∀z23:Nat,w12)∧(∀a24:Nat,True∧(∀b24:Nat,w12))∧True)∧r20)∧r20∧l19∧(∀c24:Nat,Nat.beq 1 1=true)∧True∧y6∧z6∧b7∧d7∧k7∧u7∧x7∧(l6∧(∀d24:Nat,d24<k6→True∧cond (Nat.beq d24 w2) e20 (z2.cores d24)=u5.cores d24))∧(q6∧(∀e24:Nat,e24<o6→True∧cond (Nat.beq e24 q19) q20 (z2.readyN e24)=u5.readyN e24∧(∀g24:Nat,g24<u5.readyN e24→True∧cond (Nat.beq e24 q19) (cond (Nat.blt g24 h20) (z2.ready o19 (0+u12+(0+g24))) (z2.ready o19 (0+o20+(g24-h20)))) (z2.ready e24 g24)=u5.ready e24 g24)))∧z7)))))∧(g20=false→l20∧
    (∃h24:Nat,u2∧((o19<x3∧0<1)∧o19=o19∧0=0∧v2∧r19=r19)∧k20=(h24:Int)∧d9∧(h24≤r19∧(∀k24:Nat,k24<h24→((z2.tasks (Int.toNat (z2.ready o19 k24))).dom==u11)=false))∧r19-h24<r19-a20)))))∧(c20=false→w64 x19=x19∧(∃l24:Nat,x19=3-(l24:Int)∧u2∧d9∧(l24≤4∧(∀o24:Nat,o24<l24→chH z2 (l11+(3-o24))=false))∧4-l24<4-d19))))∧(g19=false→g8))))
set_option maxHeartbeats 2000000 in
theorem ok_settledT : FnOK Tryz.prog glN 36 c_settledT := ok_of (.cons ok_rTurn (.cons ok_woken .nil)) false Tryz.call36 Tryz.func36 (fun ⟨c, W⟩ => [.cut 4 (cut_st W c.toNat), .inv (an_ch (outW W c.toNat) c.toNat [(0, pt0 0)] []), .invF false fun fr => an_sti (outW W c.toNat) (c * 4 + intD (fr 5)).toNat]) (V := V_settledT) (fun _ => by kernel_rfl) fun ⟨c, W⟩ hp => by
  dsimp only [s_settledT] at hp
  dsimp only [V_settledT, tn, w64]
  simp only [std, stb, eq_self, implies_true, Bool.cond_self]
  try simp only [wd_eta]
  obtain ⟨hI, c0, c1⟩ := hp
  obtain ⟨C, rfl⟩ : ∃ C : Nat, c = C := ⟨c.toNat, by omega⟩
  simp only [Int.toNat_natCast]
  have hc := hI.co C (by omega)
  have z3 := hI.z.d1
  have z4 := hI.z.t1
  have iv : Inv 1000 (outW W C) := by
    unfold outW
    cases h : goB W C with
    | false => exact hI.mono (by decide)
    | true =>
      have h0 : 0 ≤ W.cores C := of_decide_eq_true (Bool.and_eq_true _ _ ▸ h).1
      exact inv_wok (inv_fre hI) (by show (W.cores C).toNat < W.nTasks; omega)
  have nc : (outW W C).nCores = W.nCores := by unfold outW; cases goB W C <;> rfl
  refine ⟨⟨c0, c1⟩, ⟨fun h => ⟨of_decide_eq_true h, hc.2⟩, fun _ => ⟨hI.z.d0, by omega, hI.z.t0, by omega⟩, fun h => ?_, fun h => ?_⟩, ?_⟩
  · have h0 : 0 ≤ W.cores C := of_decide_eq_true (Bool.and_eq_true _ _ ▸ h).1
    have e1 : outW W C = yldW W C := by unfold outW; rw [show goB W C = true from h]; rfl
    rw [e1]
    refine ⟨⟨c0, c1⟩, (inv_wkp hI (by decide) h0 hc.2).fre (c := C), ?_⟩
    repeat' (first | exact trivial | rfl | refine And.intro ?_ ?_ | intro _ | fail)
  · have e1 : outW W C = W := by unfold outW; rw [show goB W C = false from h]; rfl
    rw [e1]
    repeat' (first | exact trivial | rfl | refine And.intro ?_ ?_ | intro _ | fail)
  have hN : stlW W C = bif decide ((outW W C).cores C < 0) then chsW (outW W C) C else outW W C := rfl
  rw [← nc] at c1
  clear hc z3 z4
  have hT : 4 < (outW W C).nReady + 5 := by omega
  refine fun _ _ => ⟨⟨c0, c1⟩, fun h => ?_, fun h => ?_⟩
  · rw [hN, show decide ((outW W C).cores C < 0) = false from by have := of_decide_eq_true h; simp only [decide_eq_false_iff_not]; omega]
    repeat' (first | exact trivial | rfl | refine And.intro ?_ ?_ | intro _ | fail)
  have h0 : decide ((outW W C).cores C < 0) = true := by have := of_decide_eq_false h; simp only [decide_eq_true_eq]; omega
  have hN : stlW W C = chsW (outW W C) C := by rw [hN, h0]; rfl
  rw [hN]
  refine ⟨rfl, fun s hs => ⟨fun h2 => ?_, fun h2 => ?_⟩⟩
  · have h3 : s ≤ 3 := by have := of_decide_eq_true h2; omega
    have ek : ((C : Int) * 4 + (3 - (s : Int))).toNat = C * 4 + (3 - s) := by omega
    have z1 := iv.z.c1
    have z2 := iv.z.ready
    have z3 := iv.z.d1
    have z4 := iv.z.t1
    have hr := iv.rd (C * 4 + (3 - s)) (by omega)
    simp only [ek]
    refine ⟨wr_in (by omega) (by omega), wr_in (by omega) (by omega), ⟨by omega, by omega⟩, ⟨by omega, by decide⟩, fun i hi hln => ⟨fun h4 => ?_, fun h4 => ?_⟩⟩
    · have hlt := lt_of_dec h4
      refine ⟨by omega, hr.2 i hlt, ⟨iv.z.d0, by omega, iv.z.t0, by omega⟩, fun h5 => ?_, fun h5 => ⟨wr_in (by omega) (by omega), i + 1, ⟨by omega, by decide⟩, by omega, ⟨by omega, snocF hi.2 h5⟩, by omega⟩⟩
      have hI4 : chI (outW W C) (C * 4 + (3 - s)) = i := fstB_at (p := fun k => ((outW W C).tasks ((outW W C).ready (C * 4 + (3 - s)) k).toNat).dom == turnD (outW W C)) hi.2 h5 hlt
      have h6 : chH (outW W C) (C * 4 + (3 - s)) = true := by unfold chH; rw [hI4]; exact blt_t hlt
      have K := chK_at h3 hs.2 h6
      have et : ((i : Int) + 1).toNat = i + 1 := by omega
      have e0 : Int.toNat 0 = 0 := rfl
      simp only [et, e0, Nat.sub_zero, Nat.zero_add]
      refine ⟨by omega, ⟨c0, c1⟩, wr_in (by omega) (by omega), wr_in (by omega) (by omega), ⟨by decide, by omega⟩, by omega, wr_in (by omega) (by omega), ⟨by omega, by omega, by omega⟩, by omega, by omega, ⟨by omega, by omega⟩, fun _ => rfl, ?_⟩
      repeat' (first | exact trivial | rfl | refine And.intro ?_ ?_ | intro _ | fail)
      · show _ = chC (outW W C) C _
        unfold chC; rw [K, h6, hI4]; rfl
      · rename_i j _
        show _ = chN (outW W C) C j
        unfold chN; rw [K, h6, cond_true]
        rcases Decidable.em (j = C * 4 + (3 - s)) with e | e
        · subst e; rw [Nat.beq_refl, cond_true, updF_at]; omega
        · rw [beq_ne e, cond_false, updF_ne e]
      · rename_i j _ k _
        show _ = chL (outW W C) C j k
        unfold chL; rw [K, h6, hI4, cond_true]
        rcases Decidable.em (j = C * 4 + (3 - s)) with e | e
        · subst e; rw [Nat.beq_refl, cond_true, updF_at]; unfold delF
          rcases Nat.lt_or_ge k i with h | h
          · rw [blt_t h]; rfl
          · rw [blt_f h]; exact congrArg ((outW W C).ready (C * 4 + (3 - s))) (by omega)
        · rw [beq_ne e, cond_false, updF_ne e]
    · have hge := ge_of_dec h4
      have h6 : chH (outW W C) (C * 4 + (3 - s)) = false := by
        unfold chH chI
        rw [fstB_none fun j hj => hi.2 j (by omega)]
        exact blt_f (Nat.le_refl _)
      exact ⟨wr_in (by omega) (by omega), s + 1, by omega, ⟨by omega, snocF hs.2 h6⟩, by omega⟩
  · have h3 : s = 4 := by have := of_decide_eq_false h2; omega
    subst h3
    have hn := chK_none hs.2
    repeat' (first | exact trivial | rfl | refine And.intro ?_ ?_ | intro _ | fail)
    · show _ = chC (outW W C) C _
      unfold chC; rw [hn]; rfl
    · show _ = chN (outW W C) C _
      unfold chN; rw [hn]; rfl
    · show _ = chL (outW W C) C _ _
      unfold chL; rw [hn]; rfl
end Go.Proofs.YtdjilaofmdhikaaGreatDoor
