/- Who is ready. -/
import Derived.Test.YtdjilaofmdhikaaGreatDoorYL
import Derived.Shelf.Slices.Cells
import Derived.Test.YtdjilaofmdhikaaGreatDoorYJ
set_option linter.unusedVariables false
set_option linter.unusedSimpArgs false
set_option linter.unusedVariables false
set_option linter.unusedSimpArgs false
set_option maxRecDepth 100000
namespace Go.Proofs.YtdjilaofmdhikaaGreatDoor
open Go.RowKit Go.Sy
def rkZ (t : Run) : Int := t.core * 4 + t.prio
def rkOf (t : Run) : Nat := (rkZ t).toNat
def wkS (W : Wd) (t i : Nat) : Run := updF W.tasks t { W.tasks t with st := 1, loc := -1 } i
def wkN (W : Wd) (t i : Nat) : Nat := updF W.readyN (rkOf (W.tasks t)) (W.readyN (rkOf (W.tasks t)) + 1) i
def wkL (W : Wd) (t i k : Nat) : Int := updF W.ready (rkOf (W.tasks t)) (apF (W.readyN (rkOf (W.tasks t))) (W.ready (rkOf (W.tasks t))) t) i k
def wokW (W : Wd) (t : Nat) : Wd := { W with tasks := wkS W t, readyN := wkN W t, ready := wkL W t }
def turnD (W : Wd) : Int := W.doms (W.time / 4 % W.nDoms).toNat
theorem wr64 {z : Int} (h1 : 0 ≤ z) (h2 : z ≤ 1000000000) : IntKind.i64.wrap z = z := by rw [IntKind.wrap_i64]; omega
theorem ap_one {n k : Nat} {f : Nat → Int} {x : Int} (h : k < n + 1) : (bif k.blt n then f k else [x].getD (k - n) 0) = apF n f x k := by
  unfold apF
  rcases Nat.lt_or_ge k n with h1 | h1
  · rw [blt_t h1]; rfl
  · obtain rfl : k = n := by omega
    rw [blt_f (Nat.le_refl _), Nat.sub_self]; rfl
theorem run20 {x y : Run} (h : x = y) : ((((((((((((((((((((x.r0 = y.r0 ∧ x.r1 = y.r1) ∧ x.r2 = y.r2) ∧ x.r3 = y.r3) ∧ x.r4 = y.r4) ∧ x.r5 = y.r5) ∧ x.r6 = y.r6) ∧ x.r7 = y.r7) ∧ x.pc = y.pc) ∧ x.st = y.st) ∧ x.prio = y.prio) ∧ x.node = y.node) ∧ x.space = y.space) ∧ x.helper = y.helper) ∧ x.loc = y.loc) ∧ x.word = y.word) ∧ x.badge = y.badge) ∧ x.owes = y.owes) ∧ x.core = y.core) ∧ x.dom = y.dom)) := by
  subst h; exact ⟨⟨⟨⟨⟨⟨⟨⟨⟨⟨⟨⟨⟨⟨⟨⟨⟨⟨⟨rfl, rfl⟩, rfl⟩, rfl⟩, rfl⟩, rfl⟩, rfl⟩, rfl⟩, rfl⟩, rfl⟩, rfl⟩, rfl⟩, rfl⟩, rfl⟩, rfl⟩, rfl⟩, rfl⟩, rfl⟩, rfl⟩, rfl⟩
theorem wkN_eq {W : Wd} {t j : Nat} : (bif j.beq (rkOf (W.tasks t)) then W.readyN (rkOf (W.tasks t)) + 1 else W.readyN j) = wkN W t j := rfl
theorem wkL_eq {W : Wd} {t j k : Nat} {x : Int} (hx : x = (t : Int)) (h : k < wkN W t j) : (bif j.beq (rkOf (W.tasks t)) then bif k.blt (W.readyN (rkOf (W.tasks t))) then W.ready (rkOf (W.tasks t)) k else [x].getD (k - W.readyN (rkOf (W.tasks t))) 0 else W.ready j k) = wkL W t j k := by
  subst hx
  unfold wkL
  rcases Decidable.em (j = rkOf (W.tasks t)) with e | e
  · rw [e] at h ⊢
    rw [Nat.beq_refl, updF_at]
    refine ap_one ?_
    unfold wkN at h; rw [updF_at] at h; exact h
  · rw [beq_ne e, updF_ne e]; rfl
structure WkP (W : Wd) (t : Int) : Prop where
  t0 : 0 ≤ t
  t1 : t < W.nTasks
  r0 : 0 ≤ rkZ (W.tasks t.toNat)
  r1 : rkZ (W.tasks t.toNat) < W.nReady
  c0 : 0 ≤ (W.tasks t.toNat).core
  c1 : (W.tasks t.toNat).core ≤ 100
  p0 : 0 ≤ (W.tasks t.toNat).prio
  p1 : (W.tasks t.toNat).prio ≤ 100
  n : W.readyN (rkOf (W.tasks t.toNat)) ≤ 100000
structure X_rTurn where
  (W : Wd)
def s_rTurn : Sy.Spec := ⟨X_rTurn, fun ⟨W⟩ => [wPT W], fun _ => [], fun ⟨W⟩ => 1 ≤ W.nDoms ∧ W.nDoms ≤ 100 ∧ 0 ≤ W.time ∧ W.time ≤ 100000000, fun ⟨W⟩ => .v (.int .i64 (turnD W)), fun _ => [],
  fun args mem => match args with | [a0] => some ⟨wPTD a0⟩ | _ => none⟩
def c_rTurn : Con := ⟨[], s_rTurn.g, none⟩
def V_rTurn : X_rTurn → Prop := fun ⟨W⟩ => let a0:Int:=W.time/4;let b0:=((W.nDoms:Nat):Int);let c0:Int:=a0%b0;tn 8 ((0≤W.time∧(0:Int)<4∧w64 a0=a0)∧tn 5 ((0≤a0∧0<b0)∧(0≤c0∧c0<b0)∧W.doms (Int.toNat c0)=turnD W∧True))
theorem ok_rTurn : FnOK Tryz.prog glN 95 c_rTurn := ok_of .nil false Tryz.call95 Tryz.func95 (fun _ => []) (V := V_rTurn) (fun _ => by kernel_rfl) fun ⟨W⟩ hp => by
  dsimp only [s_rTurn] at hp
  dsimp only [V_rTurn, tn, w64]
  simp only [std, stb, eq_self, implies_true, Bool.cond_self]
  try simp only [wd_eta]
  obtain ⟨h1, h2, h3, h4⟩ := hp
  have a0 : 0 ≤ W.time / 4 := Int.ediv_nonneg h3 (by decide)
  have a1 : W.time / 4 ≤ W.time := Int.ediv_le_self _ h3
  refine ⟨⟨h3, by decide, wr64 a0 (by omega)⟩, ⟨a0, by omega⟩, ⟨Int.emod_nonneg _ (by omega), Int.emod_lt_of_pos _ (by omega)⟩, rfl⟩
structure X_pTurn where
  (W : Wd)
def s_pTurn : Sy.Spec := ⟨X_pTurn, fun ⟨W⟩ => [wPT W], fun _ => [], fun ⟨W⟩ => 1 ≤ W.nDoms ∧ W.nDoms ≤ 100 ∧ 0 ≤ W.time ∧ W.time ≤ 100000000, fun ⟨W⟩ => .v (.int .i64 (turnD W)), fun _ => [],
  fun args mem => match args with | [a0] => some ⟨wPTD a0⟩ | _ => none⟩
def c_pTurn : Con := ⟨[], s_pTurn.g, none⟩
def V_pTurn : X_pTurn → Prop := fun ⟨W⟩ => let a0:Int:=W.time/4;let b0:=((W.nDoms:Nat):Int);let c0:Int:=a0%b0;tn 8 ((0≤W.time∧(0:Int)<4∧w64 a0=a0)∧tn 5 ((0≤a0∧0<b0)∧(0≤c0∧c0<b0)∧W.doms (Int.toNat c0)=turnD W∧True))
theorem ok_pTurn : FnOK Tryz.prog glN 147 c_pTurn := ok_of .nil false Tryz.call147 Tryz.func147 (fun _ => []) (V := V_pTurn) (fun _ => by kernel_rfl) fun ⟨W⟩ hp => by
  dsimp only [s_pTurn] at hp
  dsimp only [V_pTurn, tn, w64]
  simp only [std, stb, eq_self, implies_true, Bool.cond_self]
  try simp only [wd_eta]
  obtain ⟨h1, h2, h3, h4⟩ := hp
  have a0 : 0 ≤ W.time / 4 := Int.ediv_nonneg h3 (by decide)
  have a1 : W.time / 4 ≤ W.time := Int.ediv_le_self _ h3
  refine ⟨⟨h3, by decide, wr64 a0 (by omega)⟩, ⟨a0, by omega⟩, ⟨Int.emod_nonneg _ (by omega), Int.emod_lt_of_pos _ (by omega)⟩, rfl⟩
structure X_woken where
  (t : Int) (W : Wd)
def s_woken : Sy.Spec := ⟨X_woken, fun ⟨t, _⟩ => [.ptr 0 0 none 0 0, .v (.int .i64 t)], fun ⟨_, W⟩ => wMem W, fun ⟨t, W⟩ => WkP W t, fun _ => .tp 0 (lsv []), fun ⟨t, W⟩ => wMem (wokW W t.toNat),
  fun args mem => match args with | [a0, a1] => some ⟨intD (a1), wMJD mem 0⟩ | _ => none⟩
def c_woken : Con := ⟨[true], s_woken.g, none⟩
def V_woken : X_woken → Prop := fun ⟨t, W⟩ => let a0:=W.nTasks;let b0:=0≤t∧t<(a0:Int);let c0:=Int.toNat t;let d0:=W.tasks (0+c0);let e0:Int:=d0.core*4;let g0:Int:=e0+d0.prio;let h0:=W.nReady;let k0:=0≤g0∧g0<(h0:Int);let l0:=0+Int.toNat g0;let o0:=W.readyN l0;let q0:=true=true;let u0:=True∧q0;let v0:=o0+1;let w0:=0=0;let x0:=W.nRam;let y0:=x0=x0;let z0:=W.nKinds;let a1:=z0=z0;let b1:=W.nSlots;let c1:=b1=b1;let d1:=a0=a0;let e1:=W.nLines;let g1:=e1=e1;let h1:=W.nBits;let k1:=h1=h1;let l1:=W.nCores;let o1:=l1=l1;let q1:=h0=h0;let u1:=W.nTlbs;let v1:=u1=u1;let w1:=W.nDoms;let x1:=w1=w1;let y1:=Wd.mk x0 W.ram z0 W.kinds b1 W.slots a0 (wkS W c0) e1 W.linesN W.lines h1 W.bits l1 W.cores h0 (wkN W c0) (wkL W c0) u1 W.tlbsN W.tlbs w1 W.doms W.time;b0∧(∀z1:Nat,false=false)∧b0∧(∀a2:Nat,false=false)∧tn 5 (b0∧tn 2 (w64 e0=e0∧tn 5 (b0∧tn 2 (w64 g0=g0∧tn 11 (k0∧True∧(o0*8≤140737488355328∧(∀b2:Nat,q0))∧tn 2 (tn 2 True∧(((∀c2:Nat,u0)∧(∀d2:Nat,u0)∧True)∧(o0+1)*8≤140737488355328∧(∀e2:Nat,q0))∧(v0*8≤140737488355328∧(∀g2:Nat,q0))∧k0∧(∀h2:Nat,Nat.beq 1 1=true)∧True∧(((((((((((True∧w0∧y0)∧w0∧a1)∧w0∧c1)∧w0∧d1)∧w0∧g1)∧w0∧k1)∧w0∧o1)∧w0∧q1)∧w0∧v1)∧w0∧x1)∧W.time=W.time)∧(y0∧(∀k2:Nat,k2<x0→True∧W.ram k2=W.ram k2))∧(a1∧(∀l2:Nat,l2<z0→True∧W.kinds l2=W.kinds l2))∧(c1∧(∀o2:Nat,let q2:=W.slots o2;let u2:=y1.slots o2;o2<b1→((((((True∧q2.kind=u2.kind)∧q2.base=u2.base)∧q2.len=u2.len)∧q2.mark=u2.mark)∧q2.rights=u2.rights)∧q2.badge=u2.badge)∧q2.from_=u2.from_))∧(d1∧(∀v2:Nat,let w2:=W.tasks v2;let x2:=y1.tasks v2;v2<a0→(((((((((((((((((((True∧w2.r0=x2.r0)∧
    w2.r1=x2.r1)∧w2.r2=x2.r2)∧w2.r3=x2.r3)∧w2.r4=x2.r4)∧w2.r5=x2.r5)∧w2.r6=x2.r6)∧w2.r7=x2.r7)∧w2.pc=x2.pc)∧cond (Nat.beq v2 (0+c0)) 1 w2.st=x2.st)∧w2.prio=x2.prio)∧w2.node=x2.node)∧w2.space=x2.space)∧w2.helper=x2.helper)∧cond (Nat.beq v2 (0+c0)) (-1) w2.loc=x2.loc)∧w2.word=x2.word)∧w2.badge=x2.badge)∧w2.owes=x2.owes)∧w2.core=x2.core)∧w2.dom=x2.dom))∧(g1∧(∀y2:Nat,let z2:=W.linesN y2;y2<e1→True∧z2=z2∧(∀a3:Nat,a3<z2→True∧W.lines y2 a3=W.lines y2 a3)))∧(k1∧(∀b3:Nat,b3<h1→True∧W.bits b3=W.bits b3))∧(o1∧(∀c3:Nat,c3<l1→True∧W.cores c3=W.cores c3))∧(q1∧(∀d3:Nat,d3<h0→True∧cond (Nat.beq d3 l0) v0 (W.readyN d3)=wkN W c0 d3∧(∀e3:Nat,e3<wkN W c0 d3→True∧cond (Nat.beq d3 l0) (cond (Nat.blt e3 o0) (W.ready l0 (0+(0+e3))) (List.getD [t] (0+(e3-o0)) 0)) (W.ready d3 e3)=wkL W c0 d3 e3)))∧(v1∧(∀g3:Nat,let h3:=W.tlbsN g3;g3<u1→True∧h3=h3∧(∀k3:Nat,let l3:=W.tlbs g3 k3;let o3:=y1.tlbs g3 k3;k3<h3→(((True∧l3.sp=o3.sp)∧l3.pg=o3.pg)∧l3.fr=o3.fr)∧l3.wr=o3.wr)))∧(x1∧(∀q3:Nat,q3<w1→True∧W.doms q3=W.doms q3))∧True))))))
theorem ok_woken : FnOK Tryz.prog glN 96 c_woken := ok_of .nil false Tryz.call96 Tryz.func96 (fun _ => []) (V := V_woken) (fun _ => by kernel_rfl) fun ⟨t, W⟩ hp => by
  dsimp only [s_woken] at hp
  dsimp only [V_woken, tn, w64]
  simp only [std, stb, eq_self, implies_true, Bool.cond_self]
  try simp only [wd_eta]
  obtain ⟨t0, t1, r0, r1, c0, c1, p0, p1, hn⟩ := hp
  have et : t = (t.toNat : Int) := by omega
  have w1 : IntKind.i64.wrap ((W.tasks t.toNat).core * 4) = (W.tasks t.toNat).core * 4 := wr_in (by omega) (by omega)
  have w2 : IntKind.i64.wrap ((W.tasks t.toNat).core * 4 + (W.tasks t.toNat).prio) = (W.tasks t.toNat).core * 4 + (W.tasks t.toNat).prio := wr_in (by omega) (by omega)
  have n1 : W.readyN ((W.tasks t.toNat).core * 4 + (W.tasks t.toNat).prio).toNat ≤ 100000 := hn
  have ls : ∀ j, j < W.nReady → _ := fun j _ => And.intro (wkN_eq (W := W) (t := t.toNat) (j := j)) (fun k hk => wkL_eq (W := W) (t := t.toNat) (j := j) (k := k) et hk)
  refine ⟨⟨t0, t1⟩, ⟨t0, t1⟩, ⟨t0, t1⟩, w1, ⟨t0, t1⟩, w2, ⟨r0, r1⟩, by omega, by omega, by omega, ⟨r0, r1⟩, fun _ => rfl, fun j _ => by
    rcases Decidable.em (j = t.toNat) with h | h
    · subst h; simp only [Nat.beq_refl, cond_true]; unfold wkS; rw [updF_at]; exact ⟨⟨⟨⟨⟨⟨⟨⟨⟨⟨⟨⟨⟨⟨⟨⟨⟨⟨⟨rfl, rfl⟩, rfl⟩, rfl⟩, rfl⟩, rfl⟩, rfl⟩, rfl⟩, rfl⟩, rfl⟩, rfl⟩, rfl⟩, rfl⟩, rfl⟩, rfl⟩, rfl⟩, rfl⟩, rfl⟩, rfl⟩, rfl⟩
    · simp only [beq_ne h, cond_false]; unfold wkS; rw [updF_ne h]; exact run20 rfl, fun j hj => ls j hj⟩
structure X_wake where
  (t : Int) (W : Wd)
def s_wake : Sy.Spec := ⟨X_wake, fun ⟨t, _⟩ => [.ptr 0 0 none 0 0, .v (.int .i64 t)], fun ⟨_, W⟩ => wMem W, fun ⟨t, W⟩ => WkP W t, fun _ => .tp 0 (lsv []), fun ⟨t, W⟩ => wMem (wokW W t.toNat),
  fun args mem => match args with | [a0, a1] => some ⟨intD (a1), wMJD mem 0⟩ | _ => none⟩
def c_wake : Con := ⟨[true], s_wake.g, none⟩
def V_wake : X_wake → Prop := fun ⟨t, W⟩ => let a0:=W.nTasks;let b0:=Int.toNat t;let c0:=0+b0;let d0:=W.tasks c0;let e0:Int:=d0.core*4;let g0:Int:=e0+d0.prio;let h0:=W.nReady;let k0:=0+Int.toNat g0;let l0:=W.readyN k0;let o0:=l0+1;let q0:=0=0;let u0:=W.nRam;let v0:=u0=u0;let w0:=W.nKinds;let x0:=w0=w0;let y0:=W.nSlots;let z0:=y0=y0;let a1:=a0=a0;let b1:=W.nLines;let c1:=b1=b1;let d1:=W.nBits;let e1:=d1=d1;let g1:=W.nCores;let h1:=g1=g1;let k1:=h0=h0;let l1:=W.nTlbs;let o1:=l1=l1;let q1:=W.nDoms;let u1:=q1=q1;let v1:=Wd.mk u0 W.ram w0 W.kinds y0 W.slots a0 (wkS W b0) b1 W.linesN W.lines d1 W.bits g1 W.cores h0 (wkN W b0) (wkL W b0) l1 W.tlbsN W.tlbs q1 W.doms W.time;(0≤t∧t<(a0:Int))∧(∀w1:Nat,false=false)∧(∀x1:Nat,false=false)∧tn 8 (w64 e0=e0∧tn 4 (w64 g0=g0∧(0≤g0∧g0<(h0:Int))∧True∧(True∧o0*8≤140737488355328∧(∀y1:Nat,true=true))∧(k0=k0∧(∀z1:Nat,Nat.beq 1 1=true))∧True∧(((((((((((True∧q0∧v0)∧q0∧x0)∧q0∧z0)∧q0∧a1)∧q0∧c1)∧q0∧e1)∧q0∧h1)∧q0∧k1)∧q0∧o1)∧q0∧u1)∧W.time=W.time)∧(v0∧(∀a2:Nat,a2<u0→True∧W.ram a2=W.ram a2))∧(x0∧(∀b2:Nat,b2<w0→True∧W.kinds b2=W.kinds b2))∧(z0∧(∀c2:Nat,let d2:=W.slots c2;let e2:=v1.slots c2;c2<y0→((((((True∧d2.kind=e2.kind)∧d2.base=e2.base)∧d2.len=e2.len)∧d2.mark=e2.mark)∧d2.rights=e2.rights)∧d2.badge=e2.badge)∧d2.from_=e2.from_))∧(a1∧(∀g2:Nat,let h2:=W.tasks g2;let k2:=v1.tasks g2;g2<a0→(((((((((((((((((((True∧h2.r0=k2.r0)∧h2.r1=k2.r1)∧h2.r2=k2.r2)∧h2.r3=k2.r3)∧h2.r4=k2.r4)∧h2.r5=k2.r5)∧h2.r6=k2.r6)∧h2.r7=k2.r7)∧h2.pc=k2.pc)∧cond (Nat.beq g2 c0) 1 h2.st=k2.st)∧h2.prio=k2.prio)∧h2.node=k2.node)∧
    h2.space=k2.space)∧h2.helper=k2.helper)∧cond (Nat.beq g2 c0) (-1) h2.loc=k2.loc)∧h2.word=k2.word)∧h2.badge=k2.badge)∧h2.owes=k2.owes)∧h2.core=k2.core)∧h2.dom=k2.dom))∧(c1∧(∀l2:Nat,let o2:=W.linesN l2;l2<b1→True∧o2=o2∧(∀q2:Nat,q2<o2→True∧W.lines l2 q2=W.lines l2 q2)))∧(e1∧(∀u2:Nat,u2<d1→True∧W.bits u2=W.bits u2))∧(h1∧(∀v2:Nat,v2<g1→True∧W.cores v2=W.cores v2))∧(k1∧(∀w2:Nat,w2<h0→True∧cond (Nat.beq w2 k0) o0 (W.readyN w2)=wkN W b0 w2∧(∀x2:Nat,x2<wkN W b0 w2→True∧cond (Nat.beq w2 k0) (cond (Nat.blt x2 l0) (W.ready k0 (0+x2)) (List.getD [t] (0+(x2-l0)) 0)) (W.ready w2 x2)=wkL W b0 w2 x2)))∧(o1∧(∀y2:Nat,let z2:=W.tlbsN y2;y2<l1→True∧z2=z2∧(∀a3:Nat,let b3:=W.tlbs y2 a3;let c3:=v1.tlbs y2 a3;a3<z2→(((True∧b3.sp=c3.sp)∧b3.pg=c3.pg)∧b3.fr=c3.fr)∧b3.wr=c3.wr)))∧(u1∧(∀d3:Nat,d3<q1→True∧W.doms d3=W.doms d3))∧True))
theorem ok_wake : FnOK Tryz.prog glN 153 c_wake := ok_of .nil false Tryz.call153 Tryz.func153 (fun _ => []) (V := V_wake) (fun _ => by kernel_rfl) fun ⟨t, W⟩ hp => by
  dsimp only [s_wake] at hp
  dsimp only [V_wake, tn, w64]
  simp only [std, stb, eq_self, implies_true, Bool.cond_self]
  try simp only [wd_eta]
  obtain ⟨t0, t1, r0, r1, c0, c1, p0, p1, hn⟩ := hp
  have et : t = (t.toNat : Int) := by omega
  have w1 : IntKind.i64.wrap ((W.tasks t.toNat).core * 4) = (W.tasks t.toNat).core * 4 := wr_in (by omega) (by omega)
  have w2 : IntKind.i64.wrap ((W.tasks t.toNat).core * 4 + (W.tasks t.toNat).prio) = (W.tasks t.toNat).core * 4 + (W.tasks t.toNat).prio := wr_in (by omega) (by omega)
  have n1 : W.readyN ((W.tasks t.toNat).core * 4 + (W.tasks t.toNat).prio).toNat ≤ 100000 := hn
  have ls : ∀ j, j < W.nReady → _ := fun j _ => And.intro (wkN_eq (W := W) (t := t.toNat) (j := j)) (fun k hk => wkL_eq (W := W) (t := t.toNat) (j := j) (k := k) et hk)
  refine ⟨⟨t0, t1⟩, w1, w2, ⟨r0, r1⟩, by omega, fun _ => rfl, fun j _ => by
    rcases Decidable.em (j = t.toNat) with h | h
    · subst h; simp only [Nat.beq_refl, cond_true]; unfold wkS; rw [updF_at]; exact ⟨⟨⟨⟨⟨⟨⟨⟨⟨⟨⟨⟨⟨⟨⟨⟨⟨⟨⟨rfl, rfl⟩, rfl⟩, rfl⟩, rfl⟩, rfl⟩, rfl⟩, rfl⟩, rfl⟩, rfl⟩, rfl⟩, rfl⟩, rfl⟩, rfl⟩, rfl⟩, rfl⟩, rfl⟩, rfl⟩, rfl⟩, rfl⟩
    · simp only [beq_ne h, cond_false]; unfold wkS; rw [updF_ne h]; exact run20 rfl, fun j hj => ls j hj⟩
end Go.Proofs.YtdjilaofmdhikaaGreatDoor
set_option linter.unusedVariables false
set_option linter.unusedSimpArgs false
set_option maxRecDepth 100000
namespace Go.Proofs.YtdjilaofmdhikaaGreatDoor
open Go.RowKit Go.Sy
def sh_laysNm223_ren : Go.Shelf.Ren := ⟨fun | 23 => 158 | n => n, fun | 22 => 22 | 3 => 3 | 4 => 4 | 0 => 0 | n => n, fun | n => n⟩
theorem sh_laysNm223 : Go.Proofs.Lays2.n23 Tryz.prog sh_laysNm223_ren := {
  mixed := by kernel_rfl
  f23 := Tryz.func158.trans (congrArg some (by kernel_rfl))
  t0 := Tryz.underlying0
  a0 := Tryz.isAgg0
  z0 := Tryz.sizeOf0
  v0 := Tryz.zeroValue0
  t3 := Tryz.underlying3
  a3 := Tryz.isAgg3
  z3 := Tryz.sizeOf3
  v3 := Tryz.zeroValue3
  t4 := Tryz.underlying4
  a4 := Tryz.isAgg4
  z4 := Tryz.sizeOf4
  v4 := Tryz.zeroValue4
  t22 := Tryz.underlying22
  a22 := Tryz.isAgg22
  z22 := Tryz.sizeOf22
  v22 := Tryz.zeroValue22
  i3 := by kernel_rfl }
open Go.RowKit Go.Lib Go.Sort in
theorem sh_slices_Delete_int_cells (b off n c i j : Nat) (zs : List Int) (w : World) (hz : n ≤ zs.length) (hcap : n ≤ c) (hm : c ≤ 9223372036854775807) (hij : i ≤ j) (hj : j ≤ n) (hc : ∀ j, j < zs.length → w.cell? ⟨b, off + j, none⟩ = some (.int .i64 (zs.getD j 0))) (hf : ∀ j, j < n → w.frozen? ⟨b, off + j, none⟩ = false) :
    Calls Tryz.prog 158 #[.slice (some ⟨b, off, none⟩) n c, .int .i64 i, .int .i64 j] w fun e w' => e = .returned (.slice (some ⟨b, off, none⟩) (n - (j - i)) c) ∧ ∃ q, w' = (w.drewN q).setCells b off (((zs.take n).take i ++ (zs.take n).drop j ++ List.replicate (j - i) 0).map (Value.int .i64)) := Any.slices_Delete_int_cells sh_laysNm223 b off n c i j zs w hz hcap hm hij hj hc hf
def dlF (n : Nat) (f : Nat → Int) (i k : Nat) : Int := bif Nat.blt k (n - 1) then delF f i k else 0
theorem dl_list {n i : Nat} {f : Nat → Int} (hi : i < n) {k : Nat} (hk : k < n) : (((List.range n).map f).take i ++ ((List.range n).map f).drop (i + 1) ++ List.replicate (i + 1 - i) 0)[k]? = some (dlF n f i k) := by
  unfold dlF delF
  rcases Nat.lt_or_ge k i with h | h
  · rw [blt_t (show k < n - 1 by omega), blt_t h]
    rw [List.getElem?_append_left (by simp; omega), List.getElem?_append_left (by simp; omega)]
    simp [List.getElem?_take, h, hk]
  · rcases Nat.lt_or_ge k (n - 1) with h2 | h2
    · rw [blt_t h2, blt_f h]
      rw [List.getElem?_append_left (by simp; omega), List.getElem?_append_right (by simp; omega)]
      simp only [List.length_take, List.length_map, List.length_range, List.getElem?_drop, Nat.min_eq_left (Nat.le_of_lt hi)]
      rw [show i + 1 + (k - i) = k + 1 by omega]
      simp [show k + 1 < n by omega]
    · rw [blt_f h2]
      obtain rfl : k = n - 1 := by omega
      rw [List.getElem?_append_right (by simp; omega)]
      simp only [List.length_append, List.length_take, List.length_drop, List.length_map, List.length_range, Nat.min_eq_left (Nat.le_of_lt hi)]
      rw [show n - 1 - (i + (n - (i + 1))) = 0 by omega, show i + 1 - i = 1 by omega]
      rfl
structure X_delI where
  (n i : Nat) (f : Nat → Int)
def s_delI : Sy.Spec := ⟨X_delI, fun ⟨n, i, _⟩ => [.slc 0 0 none 0 n, .v (.int .i64 i), .v (.int .i64 (i + 1))], fun ⟨n, _, f⟩ => [.row 1 n (iF f)], fun ⟨n, i, _⟩ => i < n, fun ⟨n, _, _⟩ => .slc 0 0 none 0 (n - 1), fun ⟨n, i, f⟩ => [.row 1 n (iF (dlF n f i))],
  fun args mem => match args with | [a0, a1, a2] => some ⟨rowN mem 0, (intD a1).toNat, fun i => intD (rowF mem 0 i 0)⟩ | _ => none⟩
def c_delI : Con := ⟨[true], s_delI.g, none⟩
theorem ok_delI : FnOK Tryz.prog glN 158 c_delI := fnOK_of Tryz.call158 fun ⟨n, i, f⟩ hi w ω vs hG hm hd => by
  have hi : i < n := hi
  obtain ⟨l⟩ := vs
  match l, hd with
  | [u0, u1, u2], hd =>
    obtain ⟨h0, h1, h2, _⟩ := hd
    have h1 : u1 = .int .i64 i := h1
    have h2 : u2 = .int .i64 (i + 1) := h2
    subst h1 h2
    rcases h0 with h0 | ⟨_, q, cap, rfl, c1, c2, h0⟩
    · rw [hm.cur] at h0; exact absurd h0 (Nat.not_lt_zero _)
    rcases h0 with h0 | ⟨L, hL, rfl, c3, c4⟩
    · omega
    obtain ⟨r, e1, e2, e3, c, T, e4, e5, e6, e7⟩ := hm.row _ _ _ hL
    obtain rfl : r = ⟨1, n, iF f⟩ := (Option.some.inj e1).symm
    have e2 : 1 = L.sz := e2
    have e3 : n = L.cnt := e3
    have cell : ∀ k, k < n → c[L.o + k]? = some (.int .i64 (f k)) := fun k hk => by
      obtain ⟨x, x1, x2⟩ := e7 k (by omega) 0 (by omega)
      have x2 : x = .int .i64 (f k) := x2
      rw [← e2] at x1
      simpa [x2] using x1
    have hin : ∀ k, k < n → L.o + k < c.size := fun k hk => (Array.getElem?_eq_some_iff.1 (cell k hk)).1
    have hcall := sh_slices_Delete_int_cells L.b L.o n cap i (i + 1) ((List.range n).map f) w (by simp) c1 (by simpa [maxLen] using c2) (by omega) (by omega)
      (fun k hk => by
        have hk : k < n := by simpa using hk
        simp [World.cell?, e4, cell k hk, List.getD_eq_getElem?_getD, hk])
      (fun k hk => by simp [World.frozen?, e4])
    have ht : ((List.range n).map f).take n = (List.range n).map f := List.take_of_length_le (by simp)
    rw [ht] at hcall
    rw [show L.o + 0 * L.sz = L.o by omega]
    refine hcall.mono ?_
    rintro e w' ⟨rfl, d, rfl⟩
    have hcw : Cw w (w.drewN d) := ⟨rfl, rfl, rfl, Nat.le_refl _, fun _ _ => rfl⟩
    have hm1 := (Stp.more hm hcw).mem
    generalize hxs : (((List.range n).map f).take i ++ ((List.range n).map f).drop (i + 1) ++ List.replicate (i + 1 - i) 0).map (Value.int .i64) = xs
    have hlen : xs.length = n := by rw [← hxs]; simp; omega
    have hone : ∀ v ∈ xs, v.oneCell' = true := by
      intro v hv
      rw [← hxs] at hv
      obtain ⟨x, _, rfl⟩ := List.mem_map.1 hv
      rfl
    have hx : ∀ k, k < n → xs[k]? = some (.int .i64 (dlF n f i k)) := fun k hk => by
      rw [← hxs, List.getElem?_map, dl_list hi hk]; rfl
    obtain ⟨q, cap', w2, g1, g2, _, g4⟩ := over_ok (P := Tryz.prog) hm1 (k := 0) (st := 0) (e := 0) (n := n) (sz := 1) (nn := n) (f := iF f) (g := iF (dlF n f i)) (u := .slice (some ⟨L.b, L.o, none⟩) n cap) rfl rfl
      (.inr ⟨by rw [hm1.cur]; rfl, _, cap, rfl, c1, c2, .inr ⟨L, hL, by simp, c3, c4⟩⟩) (c := n) (Nat.le_refl _) (by omega) (fun _ _ _ => rfl) (xs := xs) (by omega) hone (fun k hk j hj => ⟨_, by
        obtain rfl : j = 0 := by omega
        simpa using hx k hk, rfl⟩)
    obtain ⟨rfl, _, rfl⟩ := Value.slice.inj g1
    have hrun := g2 _ rfl
    have hrun2 := run_storeCells_cells (P := Tryz.prog) L.b L.o xs 0 (w.drewN d) (fun k hk => by
      rw [hlen] at hk
      simp [World.cell?, e4, cell k hk]) (fun k hk => by simp [World.frozen?, e4]) hone
    rw [hrun] at hrun2
    have hw : w2 = (w.drewN d).setCells L.b L.o xs := by simpa using (Result.ok.inj hrun2).2
    subst hw
    have hext := ((hcw.ext ω).trans g4.ext)
    have hcell : ∀ k, k < n → overF 1 0 n (iF (dlF n f i)) (iF f) k 0 = .v (.int .i64 (dlF n f i k)) := fun k hk => by
      have e : inB 0 n k = true := inB_iff.2 ⟨Nat.zero_le _, by omega⟩
      show (match Nat.blt 0 1 with | true => iteSV (inB 0 n k) (flatS (iF (dlF n f i) (k - 0) 0)) (iF f k 0) | false => iF f k 0) = _
      rw [e]; rfl
    have hmem : MemOK ((w.drewN d).setCells L.b L.o xs) ω (memOf 0 [.row 1 n (iF (dlF n f i))]) := by
      refine (g4.mem.reb (k := 0) (e' := ⟨0, 0, none, .row 1 n (iF (dlF n f i))⟩) ⟨rfl, rfl, rfl⟩ (fun _ h => nomatch h) (fun q L' hL' r hr => ?_)).congr (fun k => ?_)
      · cases q with
        | none =>
          obtain rfl : r = ⟨1, n, overF 1 0 n (iF (dlF n f i)) (iF f)⟩ := (Option.some.inj hr).symm
          refine ⟨⟨1, n, iF (dlF n f i)⟩, rfl, rfl, rfl, fun a ha b hb y hy => ?_⟩
          obtain rfl : b = 0 := by have : b < 1 := hb
                                   omega
          show LeafOK _ _ _ 0 none a 0 (.v (.int .i64 (dlF n f i a))) y
          rw [← hcell a ha]
          exact hy
        | some ij =>
          exfalso
          have hm4 := g4.mem.row 0 (some ij) L' hL'
          have := hm.row 0 (some ij) L' hL'
          obtain ⟨r0, h0, _⟩ := this
          cases h0
      · rcases Nat.eq_zero_or_pos k with h | h
        · subst h; rfl
        · have h1 : ent (memOf 0 [.row 1 n (iF (dlF n f i))]) k = ⟨0, 0, none, .dead⟩ := by
            rw [memOf_ent, List.getElem?_eq_none (by simp; omega)]
          rw [h1, ent_ne (by omega), ent_ne (by omega)]
          show _ = ent (memOf 0 [.row 1 n (iF f)]) k
          rw [memOf_ent, List.getElem?_eq_none (by simp; omega)]
    refine ⟨_, ω, rfl, ⟨hext.os, hext.tape, hext.output, hext.same, hext.free, fun _ h => h, hext.size⟩, hmem, .inr ⟨by rw [hmem.cur]; rfl, _, cap, by rw [show i + 1 - i = 1 by omega], by omega, c2, .inr ⟨L, hL, by simp, c3, by omega⟩⟩, fun k l hk => rfl⟩
end Go.Proofs.YtdjilaofmdhikaaGreatDoor
set_option linter.unusedVariables false
set_option linter.unusedSimpArgs false
set_option maxRecDepth 100000
namespace Go.Proofs.YtdjilaofmdhikaaGreatDoor
open Go.RowKit Go.Sy
def chI (W : Wd) (k : Nat) : Nat := fstB (W.readyN k) fun i => (W.tasks (W.ready k i).toNat).dom == turnD W
def chH (W : Wd) (k : Nat) : Bool := Nat.blt (chI W k) (W.readyN k)
def chK (W : Wd) (c : Nat) : Nat := bif chH W (c * 4 + 3) then c * 4 + 3 else bif chH W (c * 4 + 2) then c * 4 + 2 else bif chH W (c * 4 + 1) then c * 4 + 1 else c * 4
def chC (W : Wd) (c j : Nat) : Int := bif chH W (chK W c) then updF W.cores c (W.ready (chK W c) (chI W (chK W c))) j else W.cores j
def chN (W : Wd) (c j : Nat) : Nat := bif chH W (chK W c) then updF W.readyN (chK W c) (W.readyN (chK W c) - 1) j else W.readyN j
def chL (W : Wd) (c j k : Nat) : Int := bif chH W (chK W c) then updF W.ready (chK W c) (delF (W.ready (chK W c)) (chI W (chK W c))) j k else W.ready j k
def chsW (W : Wd) (c : Nat) : Wd := { W with cores := chC W c, readyN := chN W c, ready := chL W c }
def frC (W : Wd) (c j : Nat) : Int := updF W.cores c (-1) j
def freW (W : Wd) (c : Nat) : Wd := { W with cores := frC W c }
def yldW (W : Wd) (c : Nat) : Wd := wokW (freW W c) (W.cores c).toNat
def goB (W : Wd) (c : Nat) : Bool := decide (0 ≤ W.cores c) && (W.tasks (W.cores c).toNat).dom != turnD W
theorem WkP.fre {W : Wd} {t : Int} {c : Nat} (h : WkP W t) : WkP (freW W c) t := ⟨h.t0, h.t1, h.r0, h.r1, h.c0, h.c1, h.p0, h.p1, h.n⟩
def outW (W : Wd) (c : Nat) : Wd := bif goB W c then yldW W c else W
def stlW (W : Wd) (c : Nat) : Wd := bif decide ((outW W c).cores c < 0) then chsW (outW W c) c else outW W c
theorem Inv.mono {L L' : Nat} {W : Wd} (h : Inv L W) (hl : L ≤ L') : Inv L' W :=
  ⟨h.z, h.ram, h.kd, h.dm, h.sl, h.tk, fun i hi => ⟨Nat.le_trans (h.ln i hi).1 hl, (h.ln i hi).2⟩, fun i hi => ⟨Nat.le_trans (h.rd i hi).1 hl, (h.rd i hi).2⟩, h.co, h.bt, fun c hc => Nat.le_trans (h.tl c hc) hl⟩
theorem inv_wkp {L : Nat} {W : Wd} {t : Int} (h : Inv L W) (hl : L ≤ 1000) (h0 : 0 ≤ t) (h1 : t < W.nTasks) : WkP W t := by
  have hk := h.tk t.toNat (by omega)
  have z1 := h.z.ready
  have z2 := h.z.c1
  have h2 := hk.core
  have h3 := hk.prio
  have r0 : 0 ≤ rkZ (W.tasks t.toNat) := by unfold rkZ; omega
  have r1 : rkZ (W.tasks t.toNat) < W.nReady := by unfold rkZ; omega
  exact ⟨h0, h1, r0, r1, h2.1, by omega, h3.1, by omega, by have := (h.rd (rkOf (W.tasks t.toNat)) (by unfold rkOf; omega)).1; omega⟩
theorem Szd.of {W W' : Wd} (h : Szd W) (e : W'.nKinds = W.nKinds ∧ W'.nCores = W.nCores ∧ W'.nRam = W.nRam ∧ W'.nSlots = W.nSlots ∧ W'.nTasks = W.nTasks ∧ W'.nLines = W.nLines ∧ W'.nBits = W.nBits ∧ W'.nReady = W.nReady ∧ W'.nTlbs = W.nTlbs ∧ W'.nDoms = W.nDoms ∧ W'.time = W.time) : Szd W' := by
  obtain ⟨e1, e2, e3, e4, e5, e6, e7, e8, e9, e10, e11⟩ := e
  obtain ⟨h1, h2, h3, h4, h5, h6, h7, h8, h9, h10, h11, h12, h13, h14, h15⟩ := h
  exact ⟨by rw [e1]; exact h1, by rw [e1]; exact h2, by rw [e2]; exact h3, by rw [e2]; exact h4, by rw [e3, e1]; exact h5, by rw [e4, e1]; exact h6, by rw [e5, e1]; exact h7, by rw [e6, e1]; exact h8, by rw [e7, e1]; exact h9, by rw [e8, e2]; exact h10, by rw [e9, e2]; exact h11, by rw [e10]; exact h12, by rw [e10]; exact h13, by rw [e11]; exact h14, by rw [e11]; exact h15⟩
theorem TkR.of {W W' : Wd} {t : Run} (h : TkR W t) (e1 : W'.nKinds = W.nKinds) (e2 : W'.nCores = W.nCores) : TkR W' t :=
  ⟨h.reg, h.pc, h.word, h.badge, h.st, h.prio, by rw [e2]; exact h.core, h.dom, by rw [e1]; exact h.node, by rw [e1]; exact h.space, by rw [e1]; exact h.helper, by rw [e1]; exact h.loc, by rw [e1]; exact h.owes⟩
theorem inv_wok {L : Nat} {W : Wd} {t : Nat} (h : Inv L W) (ht : t < W.nTasks) : Inv (L + 1) (wokW W t) := by
  have zt := h.z.tasks
  refine ⟨h.z.of ⟨rfl, rfl, rfl, rfl, rfl, rfl, rfl, rfl, rfl, rfl, rfl⟩, h.ram, h.kd, h.dm, h.sl, fun i hi => ?_, fun i hi => ⟨Nat.le_succ_of_le (h.ln i hi).1, (h.ln i hi).2⟩, fun i hi => ?_, h.co, h.bt, fun c hc => Nat.le_succ_of_le (h.tl c hc)⟩
  · show TkR (wokW W t) (wkS W t i)
    refine TkR.of (W := W) ?_ rfl rfl
    unfold wkS
    rcases Decidable.em (i = t) with e | e
    · subst e
      rw [updF_at]
      have k := h.tk i hi
      have := h.z.k0
      exact ⟨k.reg, k.pc, k.word, k.badge, by show (0 : Int) ≤ 1 ∧ (1 : Int) ≤ 6; decide, k.prio, k.core, k.dom, k.node, k.space, k.helper, by show (-1 : Int) ≤ -1 ∧ (-1 : Int) < W.nKinds; omega, k.owes⟩
    · rw [updF_ne e]; exact h.tk i hi
  · show wkN W t i ≤ L + 1 ∧ ∀ k, k < wkN W t i → 0 ≤ wkL W t i k ∧ wkL W t i k < W.nTasks
    have hr := h.rd i hi
    unfold wkN wkL
    rcases Decidable.em (i = rkOf (W.tasks t)) with e | e
    · rw [← e, updF_at, updF_at]
      refine ⟨by omega, fun k hk => ?_⟩
      unfold apF
      rcases Nat.lt_or_ge k (W.readyN i) with h1 | h1
      · rw [blt_t h1]; exact hr.2 k h1
      · rw [blt_f h1]; show (0 : Int) ≤ (t : Int) ∧ (t : Int) < W.nTasks; omega
    · rw [updF_ne e, updF_ne e]
      exact ⟨by omega, hr.2⟩
theorem inv_fre {L : Nat} {W : Wd} {c : Nat} (h : Inv L W) : Inv L (freW W c) := by
  refine ⟨h.z.of ⟨rfl, rfl, rfl, rfl, rfl, rfl, rfl, rfl, rfl, rfl, rfl⟩, h.ram, h.kd, h.dm, h.sl, fun i hi => TkR.of (W := W) (h.tk i hi) rfl rfl, h.ln, h.rd, fun j hj => ?_, h.bt, h.tl⟩
  show -1 ≤ frC W c j ∧ frC W c j < W.nTasks
  unfold frC
  rcases Decidable.em (j = c) with e | e
  · subst e; rw [updF_at]; omega
  · rw [updF_ne e]; exact h.co j hj
theorem chK_at {W : Wd} {c s : Nat} (hs : s ≤ 3) (hb : ∀ q, q < s → chH W (c * 4 + (3 - q)) = false) (h : chH W (c * 4 + (3 - s)) = true) : chK W c = c * 4 + (3 - s) := by
  unfold chK
  match s, hs with
  | 0, _ => rw [show chH W (c * 4 + 3) = true from h]; rfl
  | 1, _ => rw [show chH W (c * 4 + 3) = false from hb 0 (by omega), show chH W (c * 4 + 2) = true from h]; rfl
  | 2, _ => rw [show chH W (c * 4 + 3) = false from hb 0 (by omega), show chH W (c * 4 + 2) = false from hb 1 (by omega), show chH W (c * 4 + 1) = true from h]; rfl
  | 3, _ => rw [show chH W (c * 4 + 3) = false from hb 0 (by omega), show chH W (c * 4 + 2) = false from hb 1 (by omega), show chH W (c * 4 + 1) = false from hb 2 (by omega)]; rfl
theorem chK_none {W : Wd} {c : Nat} (hb : ∀ q, q < 4 → chH W (c * 4 + (3 - q)) = false) : chH W (chK W c) = false := by
  unfold chK
  rw [show chH W (c * 4 + 3) = false from hb 0 (by omega), show chH W (c * 4 + 2) = false from hb 1 (by omega), show chH W (c * 4 + 1) = false from hb 2 (by omega)]
  exact hb 3 (by omega)
theorem chL_at {W : Wd} {c K j k : Nat} (hK : chK W c = K) (h : chH W K = true) (hk : k < chN W c j) : (bif j.beq K then dlF (W.readyN K) (W.ready K) (chI W K) k else W.ready j k) = chL W c j k := by
  unfold chL
  unfold chN at hk
  rw [hK, h] at *
  rcases Decidable.em (j = K) with e | e
  · subst e
    have hk : k < W.readyN j - 1 := by rw [cond_true, updF_at] at hk; exact hk
    rw [Nat.beq_refl, cond_true, cond_true, updF_at]
    unfold dlF; rw [blt_t hk]; rfl
  · rw [beq_ne e, cond_false, cond_true, updF_ne e]
theorem chH_idx {W : Wd} {k : Nat} : decide (0 ≤ idxB (W.readyN k) fun g => (W.tasks (W.ready k g).toNat).dom == turnD W) = chH W k := by
  unfold idxB chH chI
  cases Nat.blt (fstB (W.readyN k) fun g => (W.tasks (W.ready k g).toNat).dom == turnD W) (W.readyN k)
  · rfl
  · exact decide_eq_true (Int.natCast_nonneg _)
theorem chI_idx {W : Wd} {k : Nat} (h : chH W k = true) : (idxB (W.readyN k) fun g => (W.tasks (W.ready k g).toNat).dom == turnD W) = (chI W k : Nat) := by
  unfold idxB; unfold chH chI at h; rw [h]; rfl
def an_ch (W : Wd) (c : Nat) (l : List (Nat × SV)) (r : List (Nat × Nat)) : Ann where
  σ := Nat
  rt := r
  sh s := (5, .v (.int .i64 (3 - (s : Int)))) :: l
  mh _ := []
  inv s := s ≤ 4 ∧ ∀ q, q < s → chH W (c * 4 + (3 - q)) = false
  μ s := 4 - s
  init := 0
def an_idx (z n : Nat) (p : Nat → Bool) : Ann where
  σ := Nat
  rt := []
  sh i := [(z, .v (.int .i64 i))]
  mh _ := []
  inv i := i ≤ n ∧ ∀ j, j < i → p j = false
  μ i := n - i
  init := 0
structure X_yield_ where
  (c : Int) (W : Wd)
def s_yield_ : Sy.Spec := ⟨X_yield_, fun ⟨c, _⟩ => [.ptr 0 0 none 0 0, .v (.int .i64 c)], fun ⟨_, W⟩ => wMem W, fun ⟨c, W⟩ => 0 ≤ c ∧ c < W.nCores ∧ WkP W (W.cores c.toNat), fun _ => .tp 0 (lsv []), fun ⟨c, W⟩ => wMem (yldW W c.toNat),
  fun args mem => match args with | [a0, a1] => some ⟨intD (a1), wMJD mem 0⟩ | _ => none⟩
def c_yield_ : Con := ⟨[true], s_yield_.g, none⟩
def V_yield_ : X_yield_ → Prop := fun ⟨c, W⟩ => let a0:=W.nCores;let b0:=0≤c∧c<(a0:Int);let c0:=Int.toNat c;let d0:=W.cores (0+c0);let e0:=0=0;let g0:=W.nRam;let h0:=g0=g0;let k0:=W.nKinds;let l0:=k0=k0;let o0:=W.nSlots;let q0:=o0=o0;let u0:=W.nTasks;let v0:=u0=u0;let w0:=W.nLines;let x0:=w0=w0;let y0:=W.nBits;let z0:=y0=y0;let a1:=a0=a0;let b1:=W.nReady;let c1:=b1=b1;let d1:=W.nTlbs;let e1:=d1=d1;let g1:=W.nDoms;let h1:=g1=g1;let k1:=W.time;let l1:=((((((((((True∧e0∧h0)∧e0∧l0)∧e0∧q0)∧e0∧v0)∧e0∧x0)∧e0∧z0)∧e0∧a1)∧e0∧c1)∧e0∧e1)∧e0∧h1)∧k1=k1;let o1:=h0∧(∀q1:Nat,q1<g0→True∧W.ram q1=W.ram q1);let u1:=l0∧(∀v1:Nat,v1<k0→True∧W.kinds v1=W.kinds v1);let w1:=x0∧(∀x1:Nat,let y1:=W.linesN x1;x1<w0→True∧y1=y1∧(∀z1:Nat,z1<y1→True∧W.lines x1 z1=W.lines x1 z1));let a2:=z0∧(∀b2:Nat,b2<y0→True∧W.bits b2=W.bits b2);let c2:=0+c0;let d2:=(h1∧(∀e2:Nat,e2<g1→True∧W.doms e2=W.doms e2))∧True;let g2:=W.kinds;let h2:=W.linesN;let k2:=W.lines;let l2:=W.bits;let o2:=W.tlbsN;let q2:=W.doms;let u2:=Wd.mk g0 W.ram k0 g2 o0 W.slots u0 W.tasks w0 h2 k2 y0 l2 a0 (fun v2:Nat=>cond (Nat.beq v2 c2) (-1) (W.cores v2)) b1 W.readyN W.ready d1 o2 W.tlbs g1 q2 k1;let w2:=frC W c0;let x2:=Wd.mk g0 W.ram k0 g2 o0 W.slots u0 W.tasks w0 h2 k2 y0 l2 a0 w2 b1 W.readyN W.ready d1 o2 W.tlbs g1 q2 k1;let y2:=Int.toNat (W.cores c0);let z2:=Wd.mk g0 W.ram k0 g2 o0 x2.slots u0 (wkS x2 y2) w0 h2 k2 y0 l2 a0 w2 b1 (wkN x2 y2) (wkL x2 y2) d1 o2 x2.tlbs g1 q2 k1;let a3:=Int.toNat d0;
    let b3:=Wd.mk g0 W.ram k0 g2 o0 W.slots u0 (wkS u2 a3) w0 h2 k2 y0 l2 a0 (fun c3:Nat=>cond (Nat.beq c3 c2) (-1) (W.cores c3)) b1 (wkN u2 a3) (wkL u2 a3) d1 o2 W.tlbs g1 q2 k1;b0∧b0∧(∀d3:Nat,false=false)∧((SV.ptr 0 0 none 0 0=SV.ptr 0 0 none 0 0∧d0=d0∧True)∧(l1∧o1∧u1∧(q0∧(∀e3:Nat,let g3:=W.slots e3;let h3:=g3.kind;let k3:=g3.base;let l3:=g3.len;let o3:=g3.mark;let q3:=g3.rights;let u3:=g3.badge;let v3:=g3.from_;e3<o0→((((((True∧h3=h3)∧k3=k3)∧l3=l3)∧o3=o3)∧q3=q3)∧u3=u3)∧v3=v3))∧(v0∧(∀w3:Nat,let x3:=W.tasks w3;let y3:=x3.prio;let z3:=x3.node;let a4:=x3.space;let b4:=x3.helper;let c4:=x3.loc;let d4:=x3.word;let e4:=x3.badge;let g4:=x3.owes;let h4:=x3.core;let k4:=x3.dom;w3<u0→(((((((((((((((((((True∧x3.r0=x3.r0)∧x3.r1=x3.r1)∧x3.r2=x3.r2)∧x3.r3=x3.r3)∧x3.r4=x3.r4)∧x3.r5=x3.r5)∧x3.r6=x3.r6)∧x3.r7=x3.r7)∧x3.pc=x3.pc)∧x3.st=x3.st)∧y3=y3)∧z3=z3)∧a4=a4)∧b4=b4)∧c4=c4)∧d4=d4)∧e4=e4)∧g4=g4)∧h4=h4)∧k4=k4))∧w1∧a2∧(a1∧(∀l4:Nat,let o4:Int:=cond (Nat.beq l4 c2) (-1) (W.cores l4);l4<a0→True∧o4=o4))∧(c1∧(∀q4:Nat,let u4:=W.readyN q4;q4<b1→True∧u4=u4∧(∀v4:Nat,v4<u4→True∧W.ready q4 v4=W.ready q4 v4)))∧(e1∧(∀w4:Nat,w4<d1→True∧o2 w4=o2 w4∧(∀x4:Nat,let y4:=W.tlbs w4 x4;let z4:=y4.sp;let a5:=y4.pg;let b5:=y4.fr;let c5:=y4.wr;x4<o2 w4→(((True∧z4=z4)∧a5=a5)∧b5=b5)∧c5=c5)))∧d2)∧s_wake.match_1 (fun d5:X_wake=>Prop) (X_wake.mk d0 u2) (fun e5:Int=>fun g5:Wd=>WkP g5 e5))∧True∧l1∧o1∧u1∧(q0∧(∀h5:Nat,let k5:=W.slots h5;let l5:=z2.slots h5;h5<o0→((((((True∧k5.kind=l5.kind)∧k5.base=l5.base)∧k5.len=l5.len)∧
    k5.mark=l5.mark)∧k5.rights=l5.rights)∧k5.badge=l5.badge)∧k5.from_=l5.from_))∧(v0∧(∀o5:Nat,let q5:=b3.tasks o5;let u5:=z2.tasks o5;o5<u0→(((((((((((((((((((True∧q5.r0=u5.r0)∧q5.r1=u5.r1)∧q5.r2=u5.r2)∧q5.r3=u5.r3)∧q5.r4=u5.r4)∧q5.r5=u5.r5)∧q5.r6=u5.r6)∧q5.r7=u5.r7)∧q5.pc=u5.pc)∧q5.st=u5.st)∧q5.prio=u5.prio)∧q5.node=u5.node)∧q5.space=u5.space)∧q5.helper=u5.helper)∧q5.loc=u5.loc)∧q5.word=u5.word)∧q5.badge=u5.badge)∧q5.owes=u5.owes)∧q5.core=u5.core)∧q5.dom=u5.dom))∧w1∧a2∧(a1∧(∀v5:Nat,v5<a0→True∧cond (Nat.beq v5 c2) (-1) (W.cores v5)=w2 v5))∧(c1∧(∀w5:Nat,w5<b1→True∧wkN u2 a3 w5=wkN x2 y2 w5∧(∀x5:Nat,x5<wkN x2 y2 w5→True∧wkL u2 a3 w5 x5=wkL x2 y2 w5 x5)))∧(e1∧(∀y5:Nat,y5<d1→True∧o2 y5=o2 y5∧(∀z5:Nat,let a6:=W.tlbs y5 z5;let b6:=z2.tlbs y5 z5;z5<o2 y5→(((True∧a6.sp=b6.sp)∧a6.pg=b6.pg)∧a6.fr=b6.fr)∧a6.wr=b6.wr)))∧d2
theorem ok_yield_ : FnOK Tryz.prog glN 148 c_yield_ := ok_of (.cons ok_wake .nil) false Tryz.call148 Tryz.func148 (fun _ => []) (V := V_yield_) (fun _ => by kernel_rfl) fun ⟨c, W⟩ hp => by
  dsimp only [s_yield_] at hp
  dsimp only [V_yield_, tn, w64]
  simp only [std, stb, eq_self, implies_true, Bool.cond_self]
  try simp only [wd_eta]
  obtain ⟨c0, c1, hw⟩ := hp
  exact ⟨⟨c0, c1⟩, ⟨c0, c1⟩, hw.fre (c := c.toNat), fun j _ => run20 rfl, fun j _ => rfl, fun j _ => ⟨rfl, fun k _ => rfl⟩⟩
structure X_chC1 where
  (t : Int) (W : Wd) (d : Int)
def s_chC1 : Sy.Spec := ⟨X_chC1, fun ⟨t, W, d⟩ => [.v (.int .i64 t), .pt true 1 (fun _ => wPT W), .pt true 1 (fun _ => .v (.int .i64 d))], fun _ => [], fun ⟨t, W, _⟩ => 0 ≤ t ∧ t < W.nTasks, fun ⟨t, W, d⟩ => .v (.bool ((W.tasks t.toNat).dom == d)), fun _ => [],
  fun args mem => match args with | [a0, a1, a2] => some ⟨intD (a0), wPTD (ptF a1 0), intD (ptF a2 0)⟩ | _ => none⟩
def c_chC1 : Con := ⟨[], s_chC1.g, none⟩
def V_chC1 : X_chC1 → Prop := fun ⟨t, W, d⟩ => let a0:=(W.tasks (Int.toNat t)).dom==d;tn 5 ((0≤t∧t<((W.nTasks:Nat):Int))∧tn 3 (a0=a0∧True))
theorem ok_chC1 : FnOK Tryz.prog glN 208 c_chC1 := ok_of .nil false Tryz.call208 Tryz.func208 (fun _ => []) (V := V_chC1) (fun _ => by kernel_rfl) fun ⟨t, W, d⟩ hp => by
  dsimp only [s_chC1] at hp
  dsimp only [V_chC1, tn, w64]
  simp only [std, stb, eq_self, implies_true, Bool.cond_self]
  try simp only [wd_eta]
  exact hp
structure X_idxC where
  (n : Nat) (l : Nat → Int) (W : Wd) (d : Int)
def s_idxC : Sy.Spec := ⟨X_idxC, fun ⟨n, l, W, d⟩ => [.sl true 1 n (fun i_ _ => .v (.int .i64 (l i_))), .fn 208 2 (lsv [.pt true 1 (fun _ => wPT W), .pt true 1 (fun _ => .v (.int .i64 d))])], fun _ => [], fun ⟨n, l, W, _⟩ => n ≤ 100000 ∧ ∀ k, k < n → 0 ≤ l k ∧ l k < W.nTasks, fun ⟨n, l, W, d⟩ => .v (.int .i64 (idxB n fun k => (W.tasks (l k).toNat).dom == d)), fun _ => [],
  fun args mem => match args with | [a0, a1] => some ⟨slN a0, fun i => intD (slF a0 i 0), wPTD (ptF (fnF a1 0) 0), intD (ptF (fnF a1 1) 0)⟩ | _ => none⟩
def c_idxC : Con := ⟨[], s_idxC.g, none⟩
def V_idxC : X_idxC → Prop := fun ⟨n, l, W, d⟩ => let a0:=(n:Int);let b0:=W.nKinds;let c0:=W.nSlots;let d0:=W.nTasks;let e0:=W.nLines;let g0:=W.nCores;let h0:=W.nReady;let k0:=idxB n (fun l0:Nat=>(W.tasks (Int.toNat (l l0))).dom==d);a0≤9223372036854775807→0=((0:Nat):Int)∧True∧(0≤n∧(∀o0:Nat,o0<0→((W.tasks (Int.toNat (l o0))).dom==d)=false))∧(∀q0:Nat,let u0:=(q0:Int);let v0:=decide (u0<a0);let w0:Int:=l (Int.toNat u0);let x0:=(W.tasks (Int.toNat w0)).dom==d;let y0:Int:=u0+1;q0≤n∧(∀z0:Nat,z0<q0→((W.tasks (Int.toNat (l z0))).dom==d)=false)→(v0=true→(0≤u0∧u0<a0)∧((w0=w0∧(True∧((((((((((True∧W.nRam=W.nRam∧(∀a1:Nat,a1<W.nRam→True∧W.ram a1=W.ram a1))∧b0=b0∧(∀b1:Nat,b1<b0→True∧W.kinds b1=W.kinds b1))∧c0=c0∧(∀c1:Nat,let d1:=W.slots c1;let e1:=d1.kind;let g1:=d1.base;let h1:=d1.len;let k1:=d1.mark;let l1:=d1.rights;let o1:=d1.badge;let q1:=d1.from_;c1<c0→((((((True∧e1=e1)∧g1=g1)∧h1=h1)∧k1=k1)∧l1=l1)∧o1=o1)∧q1=q1))∧d0=d0∧(∀u1:Nat,let v1:=W.tasks u1;let w1:=v1.prio;let x1:=v1.node;let y1:=v1.space;let z1:=v1.helper;let a2:=v1.loc;let b2:=v1.word;let c2:=v1.badge;let d2:=v1.owes;let e2:=v1.core;let g2:=v1.dom;u1<d0→(((((((((((((((((((True∧v1.r0=v1.r0)∧v1.r1=v1.r1)∧v1.r2=v1.r2)∧v1.r3=v1.r3)∧v1.r4=v1.r4)∧v1.r5=v1.r5)∧v1.r6=v1.r6)∧v1.r7=v1.r7)∧v1.pc=v1.pc)∧v1.st=v1.st)∧w1=w1)∧x1=x1)∧y1=y1)∧z1=z1)∧a2=a2)∧b2=b2)∧c2=c2)∧d2=d2)∧e2=e2)∧g2=g2))∧e0=e0∧(∀h2:Nat,let k2:=W.linesN h2;h2<e0→True∧k2=k2∧(∀l2:Nat,l2<k2→True∧W.lines h2 l2=W.lines h2 l2)))∧W.nBits=W.nBits∧(∀o2:Nat,o2<W.nBits→True∧W.bits o2=W.bits o2))∧g0=g0∧(∀q2:Nat,q2<g0→True∧
    W.cores q2=W.cores q2))∧h0=h0∧(∀u2:Nat,let v2:=W.readyN u2;u2<h0→True∧v2=v2∧(∀w2:Nat,w2<v2→True∧W.ready u2 w2=W.ready u2 w2)))∧W.nTlbs=W.nTlbs∧(∀x2:Nat,let y2:=W.tlbsN x2;x2<W.nTlbs→True∧y2=y2∧(∀z2:Nat,let a3:=W.tlbs x2 z2;let b3:=a3.sp;let c3:=a3.pg;let d3:=a3.fr;let e3:=a3.wr;z2<y2→(((True∧b3=b3)∧c3=c3)∧d3=d3)∧e3=e3)))∧W.nDoms=W.nDoms∧(∀g3:Nat,g3<W.nDoms→True∧W.doms g3=W.doms g3))∧W.time=W.time)∧(True∧d=d)∧True)∧True∧0≤w0∧w0<(d0:Int))∧(x0=true→u0=k0∧True)∧(x0=false→w64 y0=y0∧(∃h3:Nat,y0=(h3:Int)∧True∧(h3≤n∧(∀k3:Nat,k3<h3→((W.tasks (Int.toNat (l k3))).dom==d)=false))∧n-h3<n-q0)))∧(v0=false→(-1)=k0∧True))
theorem ok_idxC : FnOK Tryz.prog glN 207 c_idxC := ok_of (.cons ok_chC1 .nil) false Tryz.call207 Tryz.func207 (fun ⟨n, l, W, d⟩ => [.inv (an_idx 8 n fun k => (W.tasks (l k).toNat).dom == d)]) (V := V_idxC) (fun _ => by kernel_rfl) fun ⟨n, l, W, d⟩ hp => by
  dsimp only [s_idxC] at hp
  dsimp only [V_idxC, tn, w64]
  simp only [std, stb, eq_self, implies_true, Bool.cond_self]
  try simp only [wd_eta]
  obtain ⟨hn, hl⟩ := hp
  refine fun _ s hs => ⟨fun h => ?_, fun h => ?_⟩
  · have hlt := lt_of_dec h
    exact ⟨by omega, hl s hlt, fun h => (idxB_at (p := fun k => (W.tasks (l k).toNat).dom == d) hs.2 h hlt).symm, fun h => ⟨wr_in (by omega) (by omega), exS ⟨⟨by omega, snocF (p := fun k => (W.tasks (l k).toNat).dom == d) hs.2 h⟩, by omega⟩⟩⟩
  · have hge := ge_of_dec h
    obtain rfl : s = n := by omega
    exact (idxB_none (p := fun k => (W.tasks (l k).toNat).dom == d) hs.2).symm
structure X_choose where
  (c : Int) (W : Wd)
def s_choose : Sy.Spec := ⟨X_choose, fun ⟨c, _⟩ => [.ptr 0 0 none 0 0, .v (.int .i64 c)], fun ⟨_, W⟩ => wMem W, fun ⟨c, W⟩ => Inv 1000 W ∧ 0 ≤ c ∧ c < W.nCores, fun _ => .tp 0 (lsv []), fun ⟨c, W⟩ => wMem (chsW W c.toNat),
  fun args mem => match args with | [a0, a1] => some ⟨intD (a1), wMJD mem 0⟩ | _ => none⟩
def c_choose : Con := ⟨[true], s_choose.g, none⟩
def V_choose : X_choose → Prop := fun ⟨c, W⟩ => let a0:=W.nRam;let b0:=a0=a0;let c0:=W.nKinds;let d0:=c0=c0;let e0:=W.nSlots;let g0:=e0=e0;let h0:=W.nTasks;let k0:=h0=h0;let l0:=W.nLines;let o0:=l0=l0;let q0:=W.nBits;let u0:=q0=q0;let v0:=W.nCores;let w0:=v0=v0;let x0:=W.nReady;let y0:=x0=x0;let z0:=W.nTlbs;let a1:=z0=z0;let b1:=W.nDoms;let c1:=b1=b1;let d1:=W.time;let e1:=d1=d1;
    let g1:=((((((((((True∧b0∧(∀h1:Nat,h1<a0→True∧W.ram (0+h1)=W.ram (0+h1)))∧d0∧(∀k1:Nat,let l1:=W.kinds (0+k1);k1<c0→True∧l1=l1))∧g0∧(∀o1:Nat,let q1:=W.slots (0+o1);let u1:=q1.kind;let v1:=q1.base;let w1:=q1.len;let x1:=q1.mark;let y1:=q1.rights;let z1:=q1.badge;let a2:=q1.from_;o1<e0→((((((True∧u1=u1)∧v1=v1)∧w1=w1)∧x1=x1)∧y1=y1)∧z1=z1)∧a2=a2))∧k0∧(∀b2:Nat,let c2:=W.tasks (0+b2);let d2:=c2.r0;let e2:=c2.r1;let g2:=c2.r2;let h2:=c2.r3;let k2:=c2.r4;let l2:=c2.r5;let o2:=c2.r6;let q2:=c2.r7;let u2:=c2.pc;let v2:=c2.st;let w2:=c2.prio;let x2:=c2.node;let y2:=c2.space;let z2:=c2.helper;let a3:=c2.loc;let b3:=c2.word;let c3:=c2.badge;let d3:=c2.owes;let e3:=c2.core;let g3:=c2.dom;b2<h0→(((((((((((((((((((True∧d2=d2)∧e2=e2)∧g2=g2)∧h2=h2)∧k2=k2)∧l2=l2)∧o2=o2)∧q2=q2)∧u2=u2)∧v2=v2)∧w2=w2)∧x2=x2)∧y2=y2)∧z2=z2)∧a3=a3)∧b3=b3)∧c3=c3)∧d3=d3)∧e3=e3)∧g3=g3))∧o0∧(∀h3:Nat,let k3:=W.linesN (0+h3);h3<l0→True∧k3=k3∧(∀l3:Nat,let o3:=W.lines (0+h3) (0+l3);l3<k3→True∧o3=o3)))∧u0∧(∀q3:Nat,q3<q0→True∧W.bits (0+q3)=W.bits (0+q3)))∧w0∧(∀u3:Nat,let v3:=W.cores (0+u3);u3<v0→True∧v3=v3))∧y0∧(∀w3:Nat,let x3:=W.readyN (0+w3);w3<x0→True∧x3=x3∧(∀y3:Nat,let z3:=W.ready (0+w3) (0+y3);y3<x3→True∧z3=z3)))∧a1∧(∀a4:Nat,let b4:=0+a4;let c4:=W.tlbsN b4;a4<z0→True∧c4=c4∧(∀d4:Nat,let e4:=W.tlbs b4 (0+d4);let g4:=e4.sp;let h4:=e4.pg;let k4:=e4.fr;let l4:=e4.wr;d4<c4→(((True∧g4=g4)∧h4=h4)∧k4=k4)∧l4=l4)))∧c1∧(∀o4:Nat,o4<b1→True∧W.doms (0+o4)=W.doms (0+o4)))∧e1;let q4:=SV.ptr 0 0 none 0 0;let u4:=q4=SV.ptr 0 0 none 0 0;
    let v4:=0+1+1+1+1+1+1+1+1+1+1+1;let w4:=SV.ptr v4 0 none 0 0=SV.ptr 11 0 none 0 0;let x4:=SV.ptr (v4+1) 0 none 0 0=SV.ptr 12 0 none 0 0;let y4:=0=0;let z4:=b0∧(∀a5:Nat,a5<a0→True∧W.ram a5=W.ram a5);let b5:=d0∧(∀c5:Nat,c5<c0→True∧W.kinds c5=W.kinds c5);let d5:=o0∧(∀e5:Nat,let g5:=W.linesN e5;e5<l0→True∧g5=g5∧(∀h5:Nat,h5<g5→True∧W.lines e5 h5=W.lines e5 h5));let k5:=u0∧(∀l5:Nat,l5<q0→True∧W.bits l5=W.bits l5);let o5:=c1∧(∀q5:Nat,q5<b1→True∧W.doms q5=W.doms q5);let u5:=turnD (Wd.mk a0 (fun v5:Nat=>W.ram (0+v5)) c0 (fun w5:Nat=>W.kinds (0+w5)) e0 (fun x5:Nat=>W.slots (0+x5)) h0 (fun y5:Nat=>W.tasks (0+y5)) l0 (fun z5:Nat=>W.linesN (0+z5)) (fun a6:Nat=>fun b6:Nat=>W.lines (0+a6) (0+b6)) q0 (fun c6:Nat=>W.bits (0+c6)) v0 (fun d6:Nat=>W.cores (0+d6)) x0 (fun e6:Nat=>W.readyN (0+e6)) (fun g6:Nat=>fun h6:Nat=>W.ready (0+g6) (0+h6)) z0 (fun k6:Nat=>W.tlbsN (0+k6)) (fun l6:Nat=>fun o6:Nat=>W.tlbs (0+l6) (0+o6)) b1 (fun q6:Nat=>W.doms (0+q6)) d1);let u6:=True∧u5=u5;
    let v6:=(((((((((((True∧y4∧b0)∧y4∧d0)∧y4∧g0)∧y4∧k0)∧y4∧o0)∧y4∧u0)∧y4∧w0)∧y4∧y0)∧y4∧a1)∧y4∧c1)∧e1)∧z4∧b5∧(g0∧(∀w6:Nat,let x6:=W.slots w6;let y6:=x6.kind;let z6:=x6.base;let a7:=x6.len;let b7:=x6.mark;let c7:=x6.rights;let d7:=x6.badge;let e7:=x6.from_;w6<e0→((((((True∧y6=y6)∧z6=z6)∧a7=a7)∧b7=b7)∧c7=c7)∧d7=d7)∧e7=e7))∧(k0∧(∀g7:Nat,let h7:=W.tasks g7;let k7:=h7.prio;let l7:=h7.node;let o7:=h7.space;let q7:=h7.helper;let u7:=h7.loc;let v7:=h7.word;let w7:=h7.badge;let x7:=h7.owes;let y7:=h7.core;let z7:=h7.dom;g7<h0→(((((((((((((((((((True∧h7.r0=h7.r0)∧h7.r1=h7.r1)∧h7.r2=h7.r2)∧h7.r3=h7.r3)∧h7.r4=h7.r4)∧h7.r5=h7.r5)∧h7.r6=h7.r6)∧h7.r7=h7.r7)∧h7.pc=h7.pc)∧h7.st=h7.st)∧k7=k7)∧l7=l7)∧o7=o7)∧q7=q7)∧u7=u7)∧v7=v7)∧w7=w7)∧x7=x7)∧y7=y7)∧z7=z7))∧d5∧k5∧(w0∧(∀a8:Nat,a8<v0→True∧W.cores a8=W.cores a8))∧(y0∧(∀b8:Nat,let c8:=W.readyN b8;b8<x0→True∧c8=c8∧(∀d8:Nat,d8<c8→True∧W.ready b8 d8=W.ready b8 d8)))∧(a1∧(∀e8:Nat,let g8:=W.tlbsN e8;e8<z0→True∧g8=g8∧(∀h8:Nat,let k8:=W.tlbs e8 h8;let l8:=k8.sp;let o8:=k8.pg;let q8:=k8.fr;let r8:=k8.wr;h8<g8→(((True∧l8=l8)∧o8=o8)∧q8=q8)∧r8=r8)))∧o5∧(True∧q4=q4)∧u6∧True;let u8:=Int.toNat c;let v8:=u8*4;let w8:Int:=c*4;let x8:=0=0;let y8:=((((((((((True∧x8∧b0)∧x8∧d0)∧x8∧g0)∧x8∧k0)∧x8∧o0)∧x8∧u0)∧x8∧w0)∧x8∧y0)∧x8∧a1)∧x8∧c1)∧e1;let z8:=Wd.mk a0 W.ram c0 W.kinds e0 W.slots h0 W.tasks l0 W.linesN W.lines q0 W.bits v0 (chC W u8) x0 (chN W u8) (chL W u8) z0 W.tlbsN W.tlbs b1 W.doms d1;
    let a9:=g0∧(∀b9:Nat,let c9:=W.slots b9;let d9:=z8.slots b9;b9<e0→((((((True∧c9.kind=d9.kind)∧c9.base=d9.base)∧c9.len=d9.len)∧c9.mark=d9.mark)∧c9.rights=d9.rights)∧c9.badge=d9.badge)∧c9.from_=d9.from_);let e9:=k0∧(∀g9:Nat,let h9:=W.tasks g9;let k9:=z8.tasks g9;g9<h0→(((((((((((((((((((True∧h9.r0=k9.r0)∧h9.r1=k9.r1)∧h9.r2=k9.r2)∧h9.r3=k9.r3)∧h9.r4=k9.r4)∧h9.r5=k9.r5)∧h9.r6=k9.r6)∧h9.r7=k9.r7)∧h9.pc=k9.pc)∧h9.st=k9.st)∧h9.prio=k9.prio)∧h9.node=k9.node)∧h9.space=k9.space)∧h9.helper=k9.helper)∧h9.loc=k9.loc)∧h9.word=k9.word)∧h9.badge=k9.badge)∧h9.owes=k9.owes)∧h9.core=k9.core)∧h9.dom=k9.dom);let l9:=(a1∧(∀o9:Nat,let q9:=W.tlbsN o9;o9<z0→True∧q9=q9∧(∀r9:Nat,let u9:=W.tlbs o9 r9;let v9:=z8.tlbs o9 r9;r9<q9→(((True∧u9.sp=v9.sp)∧u9.pg=v9.pg)∧u9.fr=v9.fr)∧u9.wr=v9.wr)))∧o5∧True;True∧((g1∧True)∧True∧1≤b1∧b1≤100∧0≤d1∧d1≤100000000)∧tn 2 (3=3-((0:Nat):Int)∧u4∧w4∧x4∧v6∧(0≤4∧(∀w9:Nat,w9<0→chH W (v8+(3-w9))=false))∧(∀x9:Nat,let y9:Int:=3-(x9:Int);let z9:=decide (0≤y9);let a10:Int:=w8+y9;let b10:=0+Int.toNat a10;let c10:=W.readyN b10;let d10:=c10=c10;let e10:=idxB c10 (fun g10:Nat=>(W.tasks (0+Int.toNat (W.ready b10 (0+g10)))).dom==u5);let h10:=decide (0≤e10);let k10:Int:=e10+1;let l10:=Int.toNat e10;let o10:=(l10:Int);let q10:=W.ready b10;let r10:Int:=y9-1;x9≤4∧(∀u10:Nat,u10<x9→chH W (v8+(3-u10))=false)→(z9=true→w64 w8=w8∧w64 a10=a10∧(0≤a10∧a10<(x0:Int))∧(((d10∧(∀v10:Nat,v10<c10→True∧q10 (0+v10)=q10 (0+v10)))∧(tn 2 g1∧u6)∧True)∧True∧c10≤100000∧(∀w10:Nat,w10<c10→0≤q10 (0+w10)∧
    q10 (0+w10)<(h0:Int)))∧(h10=true→tn 9 ((0≤e10∧e10<(c10:Int))∧True∧(0≤c∧c<(v0:Int))∧(∀x10:Nat,false=false)∧w64 k10=k10∧(((x8∧d10)∧e10=o10∧k10=o10+1∧True)∧((d10∧(∀y10:Nat,y10<c10→True∧q10 y10=q10 y10))∧True)∧s_delI.match_1 (fun z10:X_delI=>Prop) (X_delI.mk c10 l10 q10) (fun a11:Nat=>fun b11:Nat=>fun c11:∀d11:Nat,Int=>b11<a11))∧(b10=b10∧(∀e11:Nat,Nat.beq 1 1=true))∧True∧y8∧z4∧b5∧a9∧e9∧d5∧k5∧(w0∧(∀g11:Nat,g11<v0→True∧cond (Nat.beq g11 (0+u8)) (q10 (0+l10)) (W.cores g11)=chC W u8 g11))∧(y0∧(∀h11:Nat,h11<x0→True∧cond (Nat.beq h11 b10) (c10-1) (W.readyN h11)=chN W u8 h11∧(∀k11:Nat,k11<chN W u8 h11→True∧cond (Nat.beq h11 b10) (dlF c10 q10 l10 k11) (W.ready h11 k11)=chL W u8 h11 k11)))∧l9))∧(h10=false→w64 r10=r10∧(∃l11:Nat,r10=3-(l11:Int)∧u4∧w4∧x4∧v6∧(l11≤4∧(∀o11:Nat,o11<l11→chH W (v8+(3-o11))=false))∧4-l11<4-x9)))∧(z9=false→True∧y8∧z4∧b5∧a9∧e9∧d5∧k5∧(w0∧(∀q11:Nat,q11<v0→True∧W.cores q11=chC W u8 q11))∧(y0∧(∀r11:Nat,r11<x0→True∧W.readyN r11=chN W u8 r11∧(∀u11:Nat,u11<chN W u8 r11→True∧W.ready r11 u11=chL W u8 r11 u11)))∧l9)))
theorem ok_choose : FnOK Tryz.prog glN 149 c_choose := ok_of (.cons ok_pTurn (.cons ok_delI (.cons ok_idxC .nil))) false Tryz.call149 Tryz.func149 (fun ⟨c, W⟩ => [.inv (an_ch W c.toNat [(0, pt0 0), (2, pt0 11), (4, pt0 12)] [(2, 0), (4, 0)])]) (V := V_choose) (fun _ => by kernel_rfl) fun ⟨c, W⟩ hp => by
  dsimp only [s_choose] at hp
  dsimp only [V_choose, tn, w64]
  simp only [std, stb, eq_self, implies_true, Bool.cond_self]
  try simp only [wd_eta]
  obtain ⟨hI, c0, c1⟩ := hp
  obtain ⟨C, rfl⟩ : ∃ C : Nat, c = C := ⟨c.toNat, by omega⟩
  have z1 := hI.z.c1
  have z2 := hI.z.ready
  have z3 := hI.z.d1
  have z4 := hI.z.t1
  simp only [Int.toNat_natCast]
  refine ⟨⟨hI.z.d0, by omega, hI.z.t0, by omega⟩, by omega, fun s hs => ⟨fun h => ?_, fun h => ?_⟩⟩
  · have h3 : s ≤ 3 := by have := of_decide_eq_true h; omega
    have ek : ((C : Int) * 4 + (3 - (s : Int))).toNat = C * 4 + (3 - s) := by omega
    have hr := hI.rd (C * 4 + (3 - s)) (by omega)
    simp only [ek, chH_idx]
    refine ⟨wr_in (by omega) (by omega), wr_in (by omega) (by omega), ⟨by omega, by omega⟩, ⟨by omega, hr.2⟩, fun h4 => ?_, fun h4 => ?_⟩
    · have hlt : chI W (C * 4 + (3 - s)) < W.readyN (C * 4 + (3 - s)) := Nat.le_of_ble_eq_true h4
      have K := chK_at h3 hs.2 h4
      rw [chI_idx h4]
      simp only [Int.toNat_natCast]
      refine ⟨⟨by omega, by omega⟩, ⟨by omega, by omega⟩, wr_in (by omega) (by omega), ⟨⟨trivial, trivial⟩, hlt⟩, fun _ => rfl, fun j _ => ?_, fun j _ => ⟨?_, fun k hk => chL_at K h4 hk⟩⟩
      · unfold chC; rw [K, h4]; rfl
      · unfold chN; rw [K, h4]; rfl
    · exact ⟨wr_in (by omega) (by omega), s + 1, by omega, ⟨by omega, snocF hs.2 h4⟩, by omega⟩
  · have h3 : s = 4 := by have := of_decide_eq_false h; omega
    subst h3
    have hn := chK_none hs.2
    refine ⟨fun j _ => ?_, fun j _ => ⟨?_, fun k _ => ?_⟩⟩
    · unfold chC; rw [hn]; rfl
    · unfold chN; rw [hn]; rfl
    · unfold chL; rw [hn]; rfl
structure X_settle where
  (c : Int) (W : Wd)
def s_settle : Sy.Spec := ⟨X_settle, fun ⟨c, _⟩ => [.ptr 0 0 none 0 0, .v (.int .i64 c)], fun ⟨_, W⟩ => wMem W, fun ⟨c, W⟩ => Inv 999 W ∧ 0 ≤ c ∧ c < W.nCores, fun _ => .tp 0 (lsv []), fun ⟨c, W⟩ => wMem (stlW W c.toNat),
  fun args mem => match args with | [a0, a1] => some ⟨intD (a1), wMJD mem 0⟩ | _ => none⟩
def c_settle : Con := ⟨[true], s_settle.g, none⟩
def V_settle : X_settle → Prop := fun ⟨c, W⟩ => let a0:=W.nCores;let b0:=c<(a0:Int);let c0:=0≤c∧b0;let d0:=Int.toNat c;let e0:=W.cores (0+d0);let g0:=decide (0≤e0);let h0:=g0=true;let k0:=W.nTasks;let l0:=W.nRam;let o0:=l0=l0;let q0:=W.nKinds;let u0:=q0=q0;let v0:=W.nSlots;let w0:=v0=v0;let x0:=k0=k0;let y0:=W.nLines;let z0:=y0=y0;let a1:=W.nBits;let b1:=a1=a1;let c1:=a0=a0;let d1:=W.nReady;let e1:=d1=d1;let g1:=W.nTlbs;let h1:=g1=g1;let k1:=W.nDoms;let l1:=k1=k1;let o1:=W.time;let q1:=o1=o1;let u1:=cond g0 ((W.tasks (0+Int.toNat e0)).dom !=turnD (Wd.mk l0 (fun v1:Nat=>W.ram (0+v1)) q0 (fun w1:Nat=>W.kinds (0+w1)) v0 (fun x1:Nat=>W.slots (0+x1)) k0 (fun y1:Nat=>W.tasks (0+y1)) y0 (fun z1:Nat=>W.linesN (0+z1)) (fun a2:Nat=>fun b2:Nat=>W.lines (0+a2) (0+b2)) a1 (fun c2:Nat=>W.bits (0+c2)) a0 (fun d2:Nat=>W.cores (0+d2)) d1 (fun e2:Nat=>W.readyN (0+e2)) (fun g2:Nat=>fun h2:Nat=>W.ready (0+g2) (0+h2)) g1 (fun k2:Nat=>W.tlbsN (0+k2)) (fun l2:Nat=>fun o2:Nat=>W.tlbs (0+l2) (0+o2)) k1 (fun q2:Nat=>W.doms (0+q2)) o1)) false;let u2:=SV.ptr 0 0 none 0 0=SV.ptr 0 0 none 0 0∧c=c∧True;let v2:=0=0;let w2:=((((((((((True∧v2∧o0)∧v2∧u0)∧v2∧w0)∧v2∧x0)∧v2∧z0)∧v2∧b1)∧v2∧c1)∧v2∧e1)∧v2∧h1)∧v2∧l1)∧q1;let x2:=o0∧(∀y2:Nat,y2<l0→True∧W.ram y2=W.ram y2);let z2:=u0∧(∀a3:Nat,a3<q0→True∧W.kinds a3=W.kinds a3);let b3:=w0∧(∀c3:Nat,let d3:=W.slots c3;let e3:=d3.kind;let g3:=d3.base;let h3:=d3.len;let k3:=d3.mark;let l3:=d3.rights;let o3:=d3.badge;let q3:=d3.from_;c3<v0→((((((True∧e3=e3)∧g3=g3)∧h3=h3)∧k3=k3)∧l3=l3)∧o3=o3)∧q3=q3);
    let u3:=z0∧(∀v3:Nat,let w3:=W.linesN v3;v3<y0→True∧w3=w3∧(∀x3:Nat,x3<w3→True∧W.lines v3 x3=W.lines v3 x3));let y3:=b1∧(∀z3:Nat,z3<a1→True∧W.bits z3=W.bits z3);let a4:=(h1∧(∀b4:Nat,let c4:=W.tlbsN b4;b4<g1→True∧c4=c4∧(∀d4:Nat,let e4:=W.tlbs b4 d4;let g4:=e4.sp;let h4:=e4.pg;let k4:=e4.fr;let l4:=e4.wr;d4<c4→(((True∧g4=g4)∧h4=h4)∧k4=k4)∧l4=l4)))∧(l1∧(∀o4:Nat,o4<k1→True∧W.doms o4=W.doms o4))∧True;let q4:=w2∧x2∧z2∧b3∧(x0∧(∀u4:Nat,let v4:=W.tasks u4;let w4:=v4.prio;let x4:=v4.node;let y4:=v4.space;let z4:=v4.helper;let a5:=v4.loc;let b5:=v4.word;let c5:=v4.badge;let d5:=v4.owes;let e5:=v4.core;let g5:=v4.dom;u4<k0→(((((((((((((((((((True∧v4.r0=v4.r0)∧v4.r1=v4.r1)∧v4.r2=v4.r2)∧v4.r3=v4.r3)∧v4.r4=v4.r4)∧v4.r5=v4.r5)∧v4.r6=v4.r6)∧v4.r7=v4.r7)∧v4.pc=v4.pc)∧v4.st=v4.st)∧w4=w4)∧x4=x4)∧y4=y4)∧z4=z4)∧a5=a5)∧b5=b5)∧c5=c5)∧d5=d5)∧e5=e5)∧g5=g5))∧u3∧y3∧(c1∧(∀h5:Nat,h5<a0→True∧W.cores h5=W.cores h5))∧(e1∧(∀k5:Nat,let l5:=W.readyN k5;k5<d1→True∧l5=l5∧(∀o5:Nat,o5<l5→True∧W.ready k5 o5=W.ready k5 o5)))∧a4;let q5:=W.cores d0;let u5:=decide (frC W d0 (0+d0)<0);let v5:=W.linesN;let w5:=frC W d0;let x5:=Wd.mk l0 W.ram q0 W.kinds v0 W.slots k0 W.tasks y0 v5 W.lines a1 W.bits a0 w5 d1 W.readyN W.ready g1 W.tlbsN W.tlbs k1 W.doms o1;let y5:=Int.toNat q5;let z5:=wkN x5 y5;let a6:=wkL x5 y5;let b6:=Wd.mk l0 W.ram q0 W.kinds v0 W.slots k0 (wkS x5 y5) y0 v5 W.lines a1 W.bits a0 w5 d1 z5 a6 g1 W.tlbsN W.tlbs k1 W.doms o1;
    let c6:=Wd.mk l0 W.ram q0 W.kinds v0 W.slots k0 b6.tasks y0 v5 W.lines a1 W.bits a0 w5 d1 z5 a6 g1 W.tlbsN W.tlbs k1 W.doms o1;let d6:=stlW W d0;let e6:=d6.nRam;let g6:=l0=e6;let h6:=d6.nKinds;let k6:=q0=h6;let l6:=d6.nSlots;let o6:=v0=l6;let q6:=d6.nTasks;let u6:=k0=q6;let v6:=d6.nLines;let w6:=y0=v6;let x6:=d6.nBits;let y6:=a1=x6;let z6:=d6.nCores;let a7:=a0=z6;let b7:=d6.nReady;let c7:=d1=b7;let d7:=d6.nTlbs;let e7:=g1=d7;let g7:=d6.nDoms;let h7:=k1=g7;let k7:=((((((((((True∧v2∧g6)∧v2∧k6)∧v2∧o6)∧v2∧u6)∧v2∧w6)∧v2∧y6)∧v2∧a7)∧v2∧c7)∧v2∧e7)∧v2∧h7)∧o1=d6.time;let l7:=g6∧(∀o7:Nat,o7<e6→True∧W.ram o7=d6.ram o7);let q7:=k6∧(∀u7:Nat,u7<h6→True∧W.kinds u7=d6.kinds u7);let v7:=o6∧(∀w7:Nat,let x7:=W.slots w7;let y7:=d6.slots w7;w7<l6→((((((True∧x7.kind=y7.kind)∧x7.base=y7.base)∧x7.len=y7.len)∧x7.mark=y7.mark)∧x7.rights=y7.rights)∧x7.badge=y7.badge)∧x7.from_=y7.from_);let z7:=u6∧(∀a8:Nat,let b8:=b6.tasks a8;let c8:=d6.tasks a8;a8<q6→(((((((((((((((((((True∧b8.r0=c8.r0)∧b8.r1=c8.r1)∧b8.r2=c8.r2)∧b8.r3=c8.r3)∧b8.r4=c8.r4)∧b8.r5=c8.r5)∧b8.r6=c8.r6)∧b8.r7=c8.r7)∧b8.pc=c8.pc)∧b8.st=c8.st)∧b8.prio=c8.prio)∧b8.node=c8.node)∧b8.space=c8.space)∧b8.helper=c8.helper)∧b8.loc=c8.loc)∧b8.word=c8.word)∧b8.badge=c8.badge)∧b8.owes=c8.owes)∧b8.core=c8.core)∧b8.dom=c8.dom);let d8:=w6∧(∀e8:Nat,e8<v6→True∧v5 e8=d6.linesN e8∧(∀g8:Nat,g8<d6.linesN e8→True∧W.lines e8 g8=d6.lines e8 g8));let h8:=y6∧(∀k8:Nat,k8<x6→True∧W.bits k8=d6.bits k8);
    let l8:=(e7∧(∀o8:Nat,o8<d7→True∧W.tlbsN o8=d6.tlbsN o8∧(∀q8:Nat,let r8:=W.tlbs o8 q8;let u8:=d6.tlbs o8 q8;q8<d6.tlbsN o8→(((True∧r8.sp=u8.sp)∧r8.pg=u8.pg)∧r8.fr=u8.fr)∧r8.wr=u8.wr)))∧(h7∧(∀v8:Nat,v8<g7→True∧W.doms v8=d6.doms v8))∧True;let w8:=decide (W.cores (0+d0)<0);let x8:=u6∧(∀y8:Nat,let z8:=W.tasks y8;let a9:=d6.tasks y8;y8<q6→(((((((((((((((((((True∧z8.r0=a9.r0)∧z8.r1=a9.r1)∧z8.r2=a9.r2)∧z8.r3=a9.r3)∧z8.r4=a9.r4)∧z8.r5=a9.r5)∧z8.r6=a9.r6)∧z8.r7=a9.r7)∧z8.pc=a9.pc)∧z8.st=a9.st)∧z8.prio=a9.prio)∧z8.node=a9.node)∧z8.space=a9.space)∧z8.helper=a9.helper)∧z8.loc=a9.loc)∧z8.word=a9.word)∧z8.badge=a9.badge)∧z8.owes=a9.owes)∧z8.core=a9.core)∧z8.dom=a9.dom);c0∧tn 8 ((h0→0≤e0∧e0<(k0:Int))∧tn 3 ((h0→((((((((((((True∧o0∧(∀b9:Nat,b9<l0→True∧W.ram (0+b9)=W.ram (0+b9)))∧u0∧(∀c9:Nat,let d9:=W.kinds (0+c9);c9<q0→True∧d9=d9))∧w0∧(∀e9:Nat,let g9:=W.slots (0+e9);let h9:=g9.kind;let k9:=g9.base;let l9:=g9.len;let o9:=g9.mark;let q9:=g9.rights;let r9:=g9.badge;let u9:=g9.from_;e9<v0→((((((True∧h9=h9)∧k9=k9)∧l9=l9)∧o9=o9)∧q9=q9)∧r9=r9)∧u9=u9))∧x0∧(∀v9:Nat,let w9:=W.tasks (0+v9);let x9:=w9.r0;let y9:=w9.r1;let z9:=w9.r2;let a10:=w9.r3;let b10:=w9.r4;let c10:=w9.r5;let d10:=w9.r6;let e10:=w9.r7;let g10:=w9.pc;let h10:=w9.st;let k10:=w9.prio;let l10:=w9.node;let o10:=w9.space;let q10:=w9.helper;let r10:=w9.loc;let u10:=w9.word;let v10:=w9.badge;let w10:=w9.owes;let x10:=w9.core;let y10:=w9.dom;v9<k0→(((((((((((((((((((True∧x9=x9)∧y9=y9)∧z9=z9)∧a10=a10)∧b10=b10)∧c10=c10)∧d10=d10)∧e10=e10)∧
    g10=g10)∧h10=h10)∧k10=k10)∧l10=l10)∧o10=o10)∧q10=q10)∧r10=r10)∧u10=u10)∧v10=v10)∧w10=w10)∧x10=x10)∧y10=y10))∧z0∧(∀z10:Nat,let a11:=v5 (0+z10);z10<y0→True∧a11=a11∧(∀b11:Nat,let c11:=W.lines (0+z10) (0+b11);b11<a11→True∧c11=c11)))∧b1∧(∀d11:Nat,d11<a1→True∧W.bits (0+d11)=W.bits (0+d11)))∧c1∧(∀e11:Nat,let g11:=W.cores (0+e11);e11<a0→True∧g11=g11))∧e1∧(∀h11:Nat,let k11:=W.readyN (0+h11);h11<d1→True∧k11=k11∧(∀l11:Nat,let o11:=W.ready (0+h11) (0+l11);l11<k11→True∧o11=o11)))∧h1∧(∀q11:Nat,let r11:=0+q11;let u11:=W.tlbsN r11;q11<g1→True∧u11=u11∧(∀v11:Nat,let w11:=W.tlbs r11 (0+v11);let x11:=w11.sp;let y11:=w11.pg;let z11:=w11.fr;let a12:=w11.wr;v11<u11→(((True∧x11=x11)∧y11=y11)∧z11=z11)∧a12=a12)))∧l1∧(∀b12:Nat,b12<k1→True∧W.doms (0+b12)=W.doms (0+b12)))∧q1)∧True)∧True∧1≤k1∧k1≤100∧0≤o1∧o1≤100000000)∧(u1=true→(u2∧q4∧0≤c∧b0∧WkP W q5)∧c0∧(u5=true→(u2∧(w2∧x2∧z2∧b3∧(x0∧(∀c12:Nat,let d12:=b6.tasks c12;let e12:=d12.prio;let g12:=d12.node;let h12:=d12.space;let k12:=d12.helper;let l12:=d12.loc;let o12:=d12.word;let q12:=d12.badge;let r12:=d12.owes;let u12:=d12.core;let v12:=d12.dom;c12<k0→(((((((((((((((((((True∧d12.r0=d12.r0)∧d12.r1=d12.r1)∧d12.r2=d12.r2)∧d12.r3=d12.r3)∧d12.r4=d12.r4)∧d12.r5=d12.r5)∧d12.r6=d12.r6)∧d12.r7=d12.r7)∧d12.pc=d12.pc)∧d12.st=d12.st)∧e12=e12)∧g12=g12)∧h12=h12)∧k12=k12)∧l12=l12)∧o12=o12)∧q12=q12)∧r12=r12)∧u12=u12)∧v12=v12))∧u3∧y3∧(c1∧(∀w12:Nat,w12<a0→True∧w5 w12=w5 w12))∧(e1∧(∀x12:Nat,x12<d1→True∧z5 x12=z5 x12∧(∀y12:Nat,y12<z5 x12→True∧a6 x12 y12=a6 x12 y12)))∧a4)∧
    Inv 1000 c6∧c0)∧True∧k7∧l7∧q7∧v7∧z7∧d8∧h8∧(a7∧(∀z12:Nat,z12<z6→True∧chC c6 d0 z12=d6.cores z12))∧(c7∧(∀a13:Nat,a13<b7→True∧chN c6 d0 a13=d6.readyN a13∧(∀b13:Nat,b13<d6.readyN a13→True∧chL c6 d0 a13 b13=d6.ready a13 b13)))∧l8)∧(u5=false→True∧k7∧l7∧q7∧v7∧z7∧d8∧h8∧(a7∧(∀c13:Nat,c13<z6→True∧w5 c13=d6.cores c13))∧(c7∧(∀d13:Nat,d13<b7→True∧z5 d13=d6.readyN d13∧(∀e13:Nat,e13<d6.readyN d13→True∧a6 d13 e13=d6.ready d13 e13)))∧l8))∧(u1=false→c0∧(w8=true→(u2∧q4∧Inv 1000 W∧c0)∧True∧k7∧l7∧q7∧v7∧x8∧d8∧h8∧(a7∧(∀g13:Nat,g13<z6→True∧chC W d0 g13=d6.cores g13))∧(c7∧(∀h13:Nat,h13<b7→True∧chN W d0 h13=d6.readyN h13∧(∀k13:Nat,k13<d6.readyN h13→True∧chL W d0 h13 k13=d6.ready h13 k13)))∧l8)∧(w8=false→True∧k7∧l7∧q7∧v7∧x8∧d8∧h8∧(a7∧(∀l13:Nat,l13<z6→True∧W.cores l13=d6.cores l13))∧(c7∧(∀o13:Nat,o13<b7→True∧W.readyN o13=d6.readyN o13∧(∀q13:Nat,q13<d6.readyN o13→True∧W.ready o13 q13=d6.ready o13 q13)))∧l8))))
set_option maxHeartbeats 2000000 in
theorem ok_settle : FnOK Tryz.prog glN 94 c_settle := ok_of (.cons ok_pTurn (.cons ok_yield_ (.cons ok_choose .nil))) false Tryz.call94 Tryz.func94 (fun _ => []) (V := V_settle) (fun _ => by kernel_rfl) fun ⟨c, W⟩ hp => by
  dsimp only [s_settle] at hp
  dsimp only [V_settle, tn, w64]
  simp only [std, stb, eq_self, implies_true, Bool.cond_self]
  try simp only [wd_eta]
  obtain ⟨hI, c0, c1⟩ := hp
  obtain ⟨C, rfl⟩ : ∃ C : Nat, c = C := ⟨c.toNat, by omega⟩
  simp only [Int.toNat_natCast]
  have hc := hI.co C (by omega)
  have z3 := hI.z.d1
  have z4 := hI.z.t1
  refine ⟨⟨c0, c1⟩, fun h => ⟨of_decide_eq_true h, hc.2⟩, fun _ => ⟨hI.z.d0, by omega, hI.z.t0, by omega⟩, fun h => ?_, fun h => ?_⟩
  · have h0 : 0 ≤ W.cores C := by have := (Bool.and_eq_true _ _ ▸ h).1; exact of_decide_eq_true this
    have e1 : outW W C = yldW W C := by unfold outW; rw [show goB W C = true from h]; rfl
    have iv : Inv 1000 (yldW W C) := inv_wok (inv_fre hI) (by show (W.cores C).toNat < W.nTasks; omega)
    refine ⟨⟨c0, c1, inv_wkp hI (by decide) h0 hc.2⟩, ⟨c0, c1⟩, fun h2 => ?_, fun h2 => ?_⟩
    · have e2 : stlW W C = chsW (yldW W C) C := by unfold stlW; rw [e1, show decide ((yldW W C).cores C < 0) = true from h2]; rfl
      refine ⟨⟨iv, c0, c1⟩, ?_⟩
      rw [e2]
      repeat' (first | exact trivial | rfl | refine And.intro ?_ ?_ | intro _ | fail)
    · have : frC W C C = -1 := updF_at
      have := of_decide_eq_false h2
      omega
  · have e1 : outW W C = W := by unfold outW; rw [show goB W C = false from h]; rfl
    refine ⟨⟨c0, c1⟩, fun h2 => ?_, fun h2 => ?_⟩
    · have e2 : stlW W C = chsW W C := by unfold stlW; rw [e1, show decide (W.cores C < 0) = true from h2]; rfl
      refine ⟨⟨hI.mono (by decide), c0, c1⟩, ?_⟩
      rw [e2]
      repeat' (first | exact trivial | rfl | refine And.intro ?_ ?_ | intro _ | fail)
    · have e2 : stlW W C = W := by unfold stlW; rw [e1, show decide (W.cores C < 0) = false from h2]; rfl
      rw [e2]
      repeat' (first | exact trivial | rfl | refine And.intro ?_ ?_ | intro _ | fail)
end Go.Proofs.YtdjilaofmdhikaaGreatDoor
