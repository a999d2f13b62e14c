/- The program's look at a world is what the document says. -/
import Derived.Test.YtdjilaofmdhikaaGreatDoorYK
import Derived.Test.YtdjilaofmdhikaaGreatDoorYI
import Derived.Test.YtdjilaofmdhikaaGreatDoorYH
import Derived.Shelf.Slices.Cells
import Derived.Test.YtdjilaofmdhikaaGreatDoorYJ
set_option linter.unusedVariables false
set_option linter.unusedSimpArgs false
set_option linter.unusedVariables false
set_option linter.unusedSimpArgs false
set_option maxRecDepth 100000
namespace Go.Proofs.YtdjilaofmdhikaaGreatDoor
open Go.RowKit Go.Sy
def Seq (f : Int × Int → Int × Int) : Prop := ∀ r, ((f (0, -1)).1 = 0 → f r = r) ∧ ((f (0, -1)).1 ≠ 0 → f r = f (0, -1))
theorem Seq.fst {n : Nat} {p : Nat → Bool} {e : Int} (he : e ≠ 0) : Seq (fstE n p e) := fun r => fstE_seq he
theorem Seq.comp {f g : Int × Int → Int × Int} (hf : Seq f) (hg : Seq g) : Seq fun r => f (g r) := by
  intro r
  show ((f (g (0, -1))).1 = 0 → f (g r) = r) ∧ ((f (g (0, -1))).1 ≠ 0 → f (g r) = f (g (0, -1)))
  rcases Decidable.em ((f (0, -1)).1 = 0) with h | h
  · rw [(hf (g r)).1 h, (hf (g (0, -1))).1 h]; exact hg r
  · rw [(hf (g r)).2 h, (hf (g (0, -1))).2 h]; exact ⟨fun h2 => absurd h2 h, fun _ => rfl⟩
theorem seq1 (W : Wd) : Seq (wm1 W) := (Seq.fst (by decide)).comp ((Seq.fst (by decide)).comp (Seq.fst (by decide)))
theorem seq2 (W : Wd) : Seq (wm2 W) := Seq.fst (by decide)
theorem seq3 (W : Wd) : Seq (wm3 W) := Seq.fst (by decide)
theorem seq4 (W : Wd) : Seq (wm4 W) := Seq.fst (by decide)
theorem seq5 (W : Wd) : Seq (wm5 W) := Seq.fst (by decide)
theorem seq6 (W : Wd) : Seq (wm6 W) := (Seq.fst (by decide)).comp (Seq.fst (by decide))
theorem seq7 (W : Wd) : Seq (wm7 W) := (Seq.fst (by decide)).comp (Seq.fst (by decide))
theorem seqW {W : Wd} {f : Int × Int → Int × Int} (hf : Seq f) {r : Int × Int} (hx : wm W = f r) : (((f (0, -1)).1 != 0) = true → (f (0, -1)).1 = wE W ∧ (f (0, -1)).2 = wA W) ∧ (((f (0, -1)).1 != 0) = false → wm W = r) := by
  refine ⟨fun h => ?_, fun h => ?_⟩
  · unfold wE wA; rw [hx, (hf r).2 (by simpa using h)]; exact ⟨rfl, rfl⟩
  · rw [hx, (hf r).1 (by simpa using h)]
theorem ram_of {W : Wd} (h : (w1E W != 0) = false) : ∀ i, i < W.nRam → isW (W.ram i) := fun i hi => by
  have h1 : (wm1 W (0, -1)).1 = 0 := by simpa [w1E] using h
  have := (fstE_zero (by decide) h1).1 i hi
  simp [farB] at this
  exact ⟨by omega, by omega⟩
theorem slots_of {W : Wd} (h : (w2E W != 0) = false) : ∀ i, i < W.nSlots → slB W i = true := fun i hi => by
  have h1 : (wm2 W (0, -1)).1 = 0 := by simpa [w2E] using h
  have := (fstE_zero (by decide) h1).1 i hi
  exact notF this
structure X_wCheck where
  (W : Wd)
def s_wCheck : Sy.Spec := ⟨X_wCheck, fun ⟨W⟩ => [wSV W], fun _ => [], fun ⟨W⟩ => Sm W, fun ⟨W⟩ => .er 35 116 (wE W) (wA W), fun _ => [],
  fun args mem => match args with | [a0] => some ⟨wSVD a0⟩ | _ => none⟩
def c_wCheck : Con := ⟨[], s_wCheck.g, none⟩
def V_wCheck : X_wCheck → Prop := fun ⟨W⟩ => let a0:=W.nKinds;let b0:=(a0:Int);let c0:=W.nCores;let d0:=(c0:Int);let e0:=cond (cond (cond (decide (b0<1)) true (decide (24<b0))) true (decide (d0<1))) true (decide (4<d0));let g0:Int:=b0*16;let h0:=w64 g0=g0;let k0:=W.nRam;let l0:=cond e0 true ((k0:Int) !=g0);let o0:=W.nSlots;let q0:=W.nTasks;let u0:=W.nLines;let v0:=W.nBits;let w0:=cond (cond (cond (cond l0 true ((o0:Int) !=g0)) true ((q0:Int) !=b0)) true ((u0:Int) !=b0)) true ((v0:Int) !=b0);let x0:Int:=d0*4;let y0:=W.nReady;let z0:=W.nTlbs;let a1:=W.nDoms;let b1:=cond (cond (cond (cond w0 true ((y0:Int) !=x0)) true ((z0:Int) !=d0)) true (decide ((a1:Int)<1))) true (decide (8<(a1:Int)));let c1:=W.time=W.time;let d1:=cond b1 true (farB W.time 1000000);let e1:=wE W;let g1:=wA W;let h1:=((7:Nat):Int);
    let k1:=(((((((((((True∧k0=k0∧(∀l1:Nat,l1<k0→True∧W.ram l1=W.ram l1))∧a0=a0∧(∀o1:Nat,o1<a0→True∧W.kinds o1=W.kinds o1))∧o0=o0∧(∀q1:Nat,let u1:=W.slots q1;let v1:=u1.kind;let w1:=u1.base;let x1:=u1.len;let y1:=u1.mark;let z1:=u1.rights;let a2:=u1.badge;let b2:=u1.from_;q1<o0→((((((True∧v1=v1)∧w1=w1)∧x1=x1)∧y1=y1)∧z1=z1)∧a2=a2)∧b2=b2))∧q0=q0∧(∀c2:Nat,let d2:=W.tasks c2;let e2:=d2.prio;let g2:=d2.node;let h2:=d2.space;let k2:=d2.helper;let l2:=d2.loc;let o2:=d2.word;let q2:=d2.badge;let u2:=d2.owes;let v2:=d2.core;let w2:=d2.dom;c2<q0→(((((((((((((((((((True∧d2.r0=d2.r0)∧d2.r1=d2.r1)∧d2.r2=d2.r2)∧d2.r3=d2.r3)∧d2.r4=d2.r4)∧d2.r5=d2.r5)∧d2.r6=d2.r6)∧d2.r7=d2.r7)∧d2.pc=d2.pc)∧d2.st=d2.st)∧e2=e2)∧g2=g2)∧h2=h2)∧k2=k2)∧l2=l2)∧o2=o2)∧q2=q2)∧u2=u2)∧v2=v2)∧w2=w2))∧u0=u0∧(∀x2:Nat,let y2:=W.linesN x2;x2<u0→True∧y2=y2∧(∀z2:Nat,z2<y2→True∧W.lines x2 z2=W.lines x2 z2)))∧v0=v0∧(∀a3:Nat,a3<v0→True∧W.bits a3=W.bits a3))∧c0=c0∧(∀b3:Nat,b3<c0→True∧W.cores b3=W.cores b3))∧y0=y0∧(∀c3:Nat,let d3:=W.readyN c3;c3<y0→True∧d3=d3∧(∀e3:Nat,e3<d3→True∧W.ready c3 e3=W.ready c3 e3)))∧z0=z0∧(∀g3:Nat,let h3:=W.tlbsN g3;g3<z0→True∧h3=h3∧(∀k3:Nat,let l3:=W.tlbs g3 k3;let o3:=l3.sp;let q3:=l3.pg;let u3:=l3.fr;let v3:=l3.wr;k3<h3→(((True∧o3=o3)∧q3=q3)∧u3=u3)∧v3=v3)))∧a1=a1∧(∀w3:Nat,w3<a1→True∧W.doms w3=W.doms w3))∧c1)∧True;let x3:Int:=0+1;let y3:Int:=x3+1;let z3:Int:=y3+1;let a4:=(∀b4:Nat,b4<u0→W.linesN b4≤50)∧(∀c4:Nat,c4<y0→W.readyN c4≤50)∧(∀d4:Nat,d4<z0→W.tlbsN d4≤50);let e4:=k1∧True∧Szd W∧a4;
    let g4:Int:=z3+1;let h4:Int:=g4+1;let k4:Int:=h4+1;let l4:Int:=k4+1;tn 8 ((e0=false→h0)∧(l0=false→h0)∧(w0=false→w64 x0=x0)∧(b1=false→(c1∧(1000000:Int)=1000000∧True)∧True∧True)∧(d1=true→((2:Int)≠0∧e1=2∧g1=(-1))∧True)∧(d1=false→tn 2 (h1≤9223372036854775807→((0:Int)≤0∧0<h1)∧(k1∧True∧s_vWords.match_1 (fun o4:X_vWords=>Prop) (X_vWords.mk W) (fun q4:Wd=>Sm q4))∧((w1E W !=0)=true→(w1E W=e1∧w1A W=g1)∧True)∧((w1E W !=0)=false→w64 x3=x3∧(0≤x3∧x3<h1)∧(k1∧True∧s_vKeys.match_1 (fun u4:X_vKeys=>Prop) (X_vKeys.mk W) (fun v4:Wd=>Szd v4))∧((w2E W !=0)=true→(w2E W=e1∧w2A W=g1)∧True)∧((w2E W !=0)=false→w64 y3=y3∧(0≤y3∧y3<h1)∧(k1∧True∧Szd W∧(∀w4:Nat,w4<o0→slB W w4=true))∧((w3E W !=0)=true→(w3E W=e1∧w3A W=g1)∧True)∧((w3E W !=0)=false→w64 z3=z3∧(0≤z3∧z3<h1)∧e4∧((w4E W !=0)=true→(w4E W=e1∧w4A W=g1)∧True)∧((w4E W !=0)=false→w64 g4=g4∧(0≤g4∧g4<h1)∧e4∧((w5E W !=0)=true→(w5E W=e1∧w5A W=g1)∧True)∧((w5E W !=0)=false→w64 h4=h4∧(0≤h4∧h4<h1)∧e4∧((w6E W !=0)=true→(w6E W=e1∧w6A W=g1)∧True)∧((w6E W !=0)=false→w64 k4=k4∧(0≤k4∧k4<h1)∧(k1∧True∧Szd W∧a4∧(∀x4:Nat,x4<k0→0≤W.ram x4∧W.ram x4≤65535))∧((w7E W !=0)=true→(w7E W=e1∧w7A W=g1)∧True)∧((w7E W !=0)=false→w64 l4=l4∧(e1=0∧g1=(-1))∧True))))))))))
set_option maxHeartbeats 2000000 in
theorem ok_wCheck : FnOK Tryz.prog glN 87 c_wCheck := ok_of (.cons ok_wOut (.cons ok_vWords (.cons ok_vKeys (.cons ok_vFrames (.cons ok_vTasks (.cons ok_vLines (.cons ok_vTurns (.cons ok_vMaps .nil)))))))) false Tryz.call87 Tryz.func87 (fun _ => [.dec, .unroll 8]) (V := V_wCheck) (fun _ => by kernel_rfl) fun ⟨W⟩ hp => by
  dsimp only [s_wCheck] at hp
  dsimp only [V_wCheck, tn, w64]
  simp only [std, stb, eq_self, implies_true, Bool.cond_self]
  have wr : ∀ z : Int, -100000 ≤ z → z ≤ 100000 → IntKind.i64.wrap z = z := fun z h1 h2 => by rw [IntKind.wrap_i64]; omega
  have b2 := hp.kinds
  have b4 := hp.cores
  rw [szBad_int]
  refine ⟨fun _ => wr _ (by omega) (by omega), fun _ => wr _ (by omega) (by omega), fun _ => wr _ (by omega) (by omega), fun h => ?_, fun h _ => ⟨⟨by decide, by decide⟩, hp, ?_⟩⟩
  · have : wm W = (2, -1) := by unfold wm; rw [h]; rfl
    unfold wE wA; rw [this]; exact ⟨by decide, rfl, rfl⟩
  have hz := szd_of h
  have X1 : wm W = (wm1 W (wm2 W (wm3 W (wm4 W (wm5 W (wm6 W (wm7 W (0, -1)))))))) := by unfold wm; rw [h]; rfl
  refine ⟨(seqW (seq1 W) X1).1, fun g1 => ⟨wr _ (by decide) (by decide), ⟨by decide, by decide⟩, hz, ?_⟩⟩
  have X2 := (seqW (seq1 W) X1).2 g1
  refine ⟨(seqW (seq2 W) X2).1, fun g2 => ⟨wr _ (by decide) (by decide), ⟨by decide, by decide⟩, ⟨hz, slots_of g2⟩, ?_⟩⟩
  have X3 := (seqW (seq2 W) X2).2 g2
  refine ⟨(seqW (seq3 W) X3).1, fun g3 => ⟨wr _ (by decide) (by decide), ⟨by decide, by decide⟩, ⟨hz, hp.sm⟩, ?_⟩⟩
  have X4 := (seqW (seq3 W) X3).2 g3
  refine ⟨(seqW (seq4 W) X4).1, fun g4 => ⟨wr _ (by decide) (by decide), ⟨by decide, by decide⟩, ⟨hz, hp.sm⟩, ?_⟩⟩
  have X5 := (seqW (seq4 W) X4).2 g4
  refine ⟨(seqW (seq5 W) X5).1, fun g5 => ⟨wr _ (by decide) (by decide), ⟨by decide, by decide⟩, ⟨hz, hp.sm⟩, ?_⟩⟩
  have X6 := (seqW (seq5 W) X5).2 g5
  refine ⟨(seqW (seq6 W) X6).1, fun g6 => ⟨wr _ (by decide) (by decide), ⟨by decide, by decide⟩, ⟨hz, hp.sm, ram_of g1⟩, ?_⟩⟩
  have X7 := (seqW (seq6 W) X6).2 g6
  refine ⟨(seqW (seq7 W) X7).1, fun g7 => ⟨wr _ (by decide) (by decide), ?_⟩⟩
  have X8 := (seqW (seq7 W) X7).2 g7
  unfold wE wA; rw [X8]; exact ⟨rfl, rfl⟩
end Go.Proofs.YtdjilaofmdhikaaGreatDoor
set_option linter.unusedVariables false
set_option linter.unusedSimpArgs false
set_option maxRecDepth 100000
namespace Go.Proofs.YtdjilaofmdhikaaGreatDoor
open Go.RowKit Go.Sy
def zSl : Slt := ⟨0, 0, 0, 0, 0, 0, 0⟩
end Go.Proofs.YtdjilaofmdhikaaGreatDoor
set_option linter.unusedVariables false
set_option linter.unusedSimpArgs false
set_option maxRecDepth 100000
namespace Go.Proofs.YtdjilaofmdhikaaGreatDoor
open Go.RowKit Go.Sy
def updF {α : Type} (f : Nat → α) (i : Nat) (v : α) (j : Nat) : α := bif Nat.beq j i then v else f j
def apF (n : Nat) (f : Nat → Int) (x : Int) (k : Nat) : Int := bif Nat.blt k n then f k else x
theorem updF_at {α : Type} {f : Nat → α} {i : Nat} {v : α} : updF f i v i = v := by unfold updF; rw [Nat.beq_refl]; rfl
theorem updF_ne {α : Type} {f : Nat → α} {i j : Nat} {v : α} (h : j ≠ i) : updF f i v j = f j := by unfold updF; rw [beq_ne h]; rfl
theorem runEq_eq {a b : Run} (h : runEq a b = true) : a = b := by
  unfold runEq at h
  simp only [Bool.and_eq_true, beq_iff_eq, and_true] at h
  cases a; cases b
  simp only at h
  obtain ⟨⟨h1, h2, h3, h4, h5, h6, h7, h8⟩, h9, h10, h11, h12, h13, h14, h15, h16, h17, h18, h19, h20⟩ := h
  subst h1 h2 h3 h4 h5 h6 h7 h8 h9 h10 h11 h12 h13 h14 h15 h16 h17 h18 h19 h20
  rfl
structure Snd (W : Wd) : Prop where
  z : Szd W
  ram : ∀ i, i < W.nRam → farB (W.ram i) 65535 = false
  kd : ∀ i, i < W.nKinds → (farB (W.kinds i) 8 || W.kinds i == 1) = false
  dm : ∀ i, i < W.nDoms → farB (W.doms i) 3 = false
  sl : ∀ i, i < W.nSlots → slB W i = true
  fr : ∀ i, i < W.nKinds → frB W i = true
  tk : ∀ i, i < W.nKinds → tkB W i = true
  ln : ∀ i, i < W.nKinds → lnB W i = true
  co : ∀ i, i < W.nCores → coB W i = true
  rl : ∀ i, i < W.nReady → rlB W i = true
  en : ∀ i, i < W.nRam → enB W i = true
  tl : ∀ i, i < W.nCores → tlB W (W.tlbsN i) (W.tlbs i) = true
theorem szBad_of {W : Wd} (h : Szd W) : szBad W = false := by
  obtain ⟨h1, h2, h3, h4, h5, h6, h7, h8, h9, h10, h11, h12, h13, h14, h15⟩ := h
  unfold szBad farB
  simp only [Bool.or_eq_false_iff, decide_eq_false_iff_not, bne_eq_false_iff_eq]
  refine ⟨⟨⟨⟨⟨⟨⟨⟨⟨⟨⟨⟨⟨?_, ?_⟩, ?_⟩, ?_⟩, h5⟩, h6⟩, h7⟩, h8⟩, h9⟩, h10⟩, h11⟩, ?_⟩, ?_⟩, ?_, ?_⟩ <;> omega
theorem notN {b : Bool} (h : b = true) : (!b) = false := by rw [h]; rfl
theorem Snd.iff {W : Wd} : wE W = 0 ↔ Snd W := by
  constructor
  · intro h
    unfold wE wm at h
    cases hs : szBad W with
    | true => rw [hs] at h; exact absurd (show (2 : Int) = 0 from h) (by decide)
    | false =>
      rw [hs] at h
      have h : (wm1 W (wm2 W (wm3 W (wm4 W (wm5 W (wm6 W (wm7 W (0, -1)))))))).1 = 0 := h
      have a1 := fstE_zero (by decide) h
      have a2 := fstE_zero (by decide) a1.2
      have a3 := fstE_zero (by decide) a2.2
      have a4 := fstE_zero (by decide) a3.2
      have a5 := fstE_zero (by decide) a4.2
      have a6 := fstE_zero (by decide) a5.2
      have a7 := fstE_zero (by decide) a6.2
      have a8 := fstE_zero (by decide) a7.2
      have a9 := fstE_zero (by decide) a8.2
      have a10 := fstE_zero (by decide) a9.2
      have a11 := fstE_zero (by decide) a10.2
      exact ⟨szd_of hs, a1.1, a2.1, a3.1, fun i hi => notF (a4.1 i hi), fun i hi => notF (a5.1 i hi), fun i hi => notF (a6.1 i hi), fun i hi => notF (a7.1 i hi), fun i hi => notF (a8.1 i hi), fun i hi => notF (a9.1 i hi), fun i hi => notF (a10.1 i hi), fun i hi => notF (a11.1 i hi)⟩
  · intro h
    obtain ⟨z, ram, kd, dm, sl, fr, tk, ln, co, rl, en, tl⟩ := h
    unfold wE wm wm1 wm2 wm3 wm4 wm5 wm6 wm7
    rw [szBad_of z]
    rw [fstE_none ram, fstE_none kd, fstE_none dm, fstE_none fun i hi => notN (sl i hi), fstE_none fun i hi => notN (fr i hi), fstE_none fun i hi => notN (tk i hi), fstE_none fun i hi => notN (ln i hi), fstE_none fun i hi => notN (co i hi), fstE_none fun i hi => notN (rl i hi), fstE_none fun i hi => notN (en i hi), fstE_none fun i hi => notN (tl i hi)]
    rfl
structure TkR (W : Wd) (t : Run) : Prop where
  reg : regFar t = false
  pc : 0 ≤ t.pc ∧ t.pc ≤ 65535
  word : 0 ≤ t.word ∧ t.word ≤ 65535
  badge : 0 ≤ t.badge ∧ t.badge ≤ 65535
  st : 0 ≤ t.st ∧ t.st ≤ 6
  prio : 0 ≤ t.prio ∧ t.prio ≤ 3
  core : 0 ≤ t.core ∧ t.core < W.nCores
  dom : 0 ≤ t.dom ∧ t.dom ≤ 3
  node : -1 ≤ t.node ∧ t.node < W.nKinds
  space : -1 ≤ t.space ∧ t.space < W.nKinds
  helper : -1 ≤ t.helper ∧ t.helper < W.nKinds
  loc : -1 ≤ t.loc ∧ t.loc < W.nKinds
  owes : -1 ≤ t.owes ∧ t.owes < W.nKinds
structure Inv (L : Nat) (W : Wd) : Prop where
  z : Szd W
  ram : ∀ i, i < W.nRam → isW (W.ram i)
  kd : ∀ i, i < W.nKinds → 0 ≤ W.kinds i ∧ W.kinds i ≤ 8
  dm : ∀ i, i < W.nDoms → 0 ≤ W.doms i ∧ W.doms i ≤ 3
  sl : ∀ i, i < W.nSlots → slNo (W.slots i) = 0 ∧ ((W.slots i).kind ≠ 0 → (W.slots i).base + (W.slots i).len ≤ W.nKinds) ∧ -1 ≤ (W.slots i).from_ ∧ (W.slots i).from_ < W.nSlots
  tk : ∀ i, i < W.nTasks → TkR W (W.tasks i)
  ln : ∀ i, i < W.nLines → W.linesN i ≤ L ∧ ∀ k, k < W.linesN i → 0 ≤ W.lines i k ∧ W.lines i k < W.nTasks
  rd : ∀ i, i < W.nReady → W.readyN i ≤ L ∧ ∀ k, k < W.readyN i → 0 ≤ W.ready i k ∧ W.ready i k < W.nTasks
  co : ∀ c, c < W.nCores → -1 ≤ W.cores c ∧ W.cores c < W.nTasks
  bt : ∀ i, i < W.nBits → 0 ≤ W.bits i ∧ W.bits i ≤ 65535
  tl : ∀ c, c < W.nTlbs → W.tlbsN c ≤ L
theorem farB_in {v m : Int} (h : farB v m = false) : 0 ≤ v ∧ v ≤ m := by
  unfold farB at h
  simp only [Bool.or_eq_false_iff, decide_eq_false_iff_not] at h
  omega
theorem okF_rng {W : Wd} {f k : Int} (hk : k ≠ -1) (h : okF W f k = true) : -1 ≤ f ∧ f < W.nKinds := by
  unfold okF at h
  simp only [Bool.or_eq_true, beq_iff_eq] at h
  rcases h with h | h
  · omega
  · have := kof_in (W := W) (f := f) (by rw [h]; exact hk); omega
theorem stOK_loc {W : Wd} {f : Nat} (h : stOK W f = true) : (W.tasks f).loc = -1 ∨ kof W (W.tasks f).loc = 7 ∨ kof W (W.tasks f).loc = 8 := by
  unfold stOK standOK at h
  dsimp only at h
  generalize ((W.tasks f).st == 2 || (W.tasks f).st == 3 || (W.tasks f).st == 4) = a at h
  generalize ((W.tasks f).st == 6) = b at h
  generalize ((W.tasks f).st == 1) = c at h
  cases a <;> cases b <;> cases c <;> simp only [cond_true, cond_false, Bool.and_eq_true, beq_iff_eq] at h <;> first | exact .inl h.2 | exact .inr (.inl h.1.2) | exact .inr (.inr h.1.2)
theorem rdB_in {W : Wd} {t c p : Int} (h : rdB W t c p = true) : (0 ≤ t ∧ t < W.nKinds) ∧ kof W t = 6 ∧ (W.tasks t.toNat).st = 1 ∧ (W.tasks t.toNat).core = c ∧ (0 ≤ p → (W.tasks t.toNat).prio = p) := by
  unfold rdB at h
  simp only [Bool.and_eq_true, Bool.or_eq_true, beq_iff_eq, decide_eq_true_eq] at h
  obtain ⟨⟨⟨h1, h2⟩, h3⟩, h4⟩ := h
  exact ⟨kof_in (by rw [h1]; decide), h1, h2, h3, fun hp => h4.resolve_left (by omega)⟩
theorem inv_of {W : Wd} (h : Snd W) (hs : Sm W) : Inv 50 W := by
  obtain ⟨z, ram, kd, dm, sl, fr, tk, ln, co, rl, en, tl⟩ := h
  have zt := z.tasks
  refine ⟨z, fun i hi => farB_in (ram i hi), fun i hi => farB_in (Bool.or_eq_false_iff.1 (kd i hi)).1, fun i hi => farB_in (dm i hi), fun i hi => ?_, fun i hi => ?_, fun i hi => ⟨hs.sm.1 i hi, fun k hk => ?_⟩, fun i hi => ⟨hs.sm.2.1 i hi, fun k hk => ?_⟩, fun c hc => ?_, fun i hi => ?_, fun c hc => hs.sm.2.2 c hc⟩
  · have h := sl i hi
    have hn := slBs_no h
    have hr := slNo_range hn
    unfold slB slBs at h
    cases hk : (W.slots i).kind == 0 with
    | true =>
      rw [hk] at h
      simp only [cond_true, Bool.and_eq_true, beq_iff_eq] at h
      refine ⟨hn, fun h0 => absurd (eq_of_beq hk) h0, ?_, ?_⟩ <;> omega
    | false =>
      rw [hk] at h
      simp only [cond_false, Bool.and_eq_true, Bool.or_eq_true, beq_iff_eq, decide_eq_true_eq] at h
      refine ⟨hn, fun _ => h.1.1.2, ?_⟩
      rcases h.2 with h2 | h2
      · omega
      · have := inS_iff.1 h2.1.1; omega
  · have h := tk i (by omega)
    unfold tkB at h
    cases hk : W.kinds i != 6 with
    | true =>
      have h : runEq (W.tasks i) Run.blank = true := by simpa [hk] using h
      rw [runEq_eq h]
      have := z.c0
      have := z.k0
      refine ⟨by decide, by decide, by decide, by decide, by decide, by decide, ?_, by decide, ?_, ?_, ?_, ?_, ?_⟩ <;> simp only [Run.blank] <;> omega
    | false =>
      simp only [hk, cond_false, Bool.and_eq_true, Bool.not_eq_true'] at h
      obtain ⟨⟨⟨⟨⟨h1, h2⟩, h3⟩, h4⟩, h5⟩, h6⟩ := h
      unfold numFar at h2
      simp only [Bool.or_eq_false_iff] at h2
      obtain ⟨⟨⟨⟨⟨⟨g1, g2⟩, g3⟩, g4⟩, g5⟩, g6⟩, g7⟩ := h2
      unfold refOK at h3
      simp only [Bool.and_eq_true] at h3
      obtain ⟨⟨⟨r1, r2⟩, r3⟩, r4⟩ := h3
      have g6 := farB_in g6
      refine ⟨h1, farB_in g1, farB_in g2, farB_in g3, farB_in g4, farB_in g5, ⟨g6.1, by omega⟩, farB_in g7, okF_rng (by decide) r1, okF_rng (by decide) r2, okF_rng (by decide) r3, ?_, okF_rng (by decide) r4⟩
      rcases stOK_loc h6 with h | h | h
      · have := z.k0; omega
      · have := kof_in (W := W) (f := (W.tasks i).loc) (by rw [h]; decide); omega
      · have := kof_in (W := W) (f := (W.tasks i).loc) (by rw [h]; decide); omega
  · have h := ln i (by have := z.lines; omega)
    unfold lnB at h
    simp only [Bool.and_eq_true] at h
    have h := allB_iff.1 h.2 k hk
    unfold lnTest at h
    simp only [Bool.and_eq_true, beq_iff_eq] at h
    have := kof_in (W := W) (f := W.lines i k) (by rw [h.1.1]; decide)
    omega
  · have h := allB_iff.1 (rl i hi) k hk
    have := (rdB_in h).1
    omega
  · have h := co c hc
    unfold coB at h
    simp only [Bool.or_eq_true, beq_iff_eq] at h
    rcases h with h | h
    · have := z.k0; omega
    · have := (rdB_in h).1; omega
  · have h := ln i (by have := z.bits; omega)
    unfold lnB at h
    simp only [Bool.and_eq_true, Bool.not_eq_true'] at h
    exact farB_in h.1.2
end Go.Proofs.YtdjilaofmdhikaaGreatDoor
set_option linter.unusedVariables false
set_option linter.unusedSimpArgs false
set_option maxRecDepth 100000
namespace Go.Proofs.YtdjilaofmdhikaaGreatDoor
open Go.RowKit Go.Sy
structure X_is where
  (e a x y : Int)
def s_is : Sy.Spec := ⟨X_is, fun ⟨e, a, x, y⟩ => [.er 35 116 e a, .ag 2 (lsv [.v (.int .i64 x), .v (.int .i64 y)])], fun _ => [], fun _ => True, fun ⟨e, a, x, y⟩ => .v (.bool (e == x && a == y)), fun _ => [],
  fun args mem => match args with | [a0, a1] => some ⟨erE a0, erA a0, intD (agD a1 0), intD (agD a1 1)⟩ | _ => none⟩
def c_is : Con := ⟨[], s_is.g, none⟩
def V_is : X_is → Prop := fun ⟨e, a, x, y⟩ => True∧(((e=e∧a=a)∧True)∧True∧True)∧cond (e==x) (a==y) false=(e==x&&a==y)∧True
theorem ok_is : FnOK Tryz.prog glE 27 c_is := ok_of (.cons ok_tell .nil) false Tryz.call27 Tryz.func27 (fun _ => []) (V := V_is) (fun _ => by kernel_rfl) fun ⟨e, a, x, y⟩ hp => by
  dsimp only [V_is, tn, w64]
  exact ⟨trivial, by simp, by cases e == x <;> rfl, trivial⟩
end Go.Proofs.YtdjilaofmdhikaaGreatDoor
set_option linter.unusedVariables false
set_option linter.unusedSimpArgs false
set_option maxRecDepth 100000
namespace Go.Proofs.YtdjilaofmdhikaaGreatDoor
open Go.RowKit Go.Sy
def wRd (W : Wd) : SV := .ag 11 (lsv [.sl false 1 W.nRam (iF W.ram), .sl false 1 W.nKinds (iF W.kinds), .sl false 7 W.nSlots (rF fun i => slL (W.slots i)), .sl false 20 W.nTasks (rF fun i => runL (W.tasks i)), .sl false 1 W.nLines (fun i _ => .sl false 1 (W.linesN i) (iF (W.lines i))), .sl false 1 W.nBits (iF W.bits), .sl false 1 W.nCores (iF W.cores), .sl false 1 W.nReady (fun i _ => .sl false 1 (W.readyN i) (iF (W.ready i))), .sl false 1 W.nTlbs (fun i _ => .sl false 4 (W.tlbsN i) (rF fun k => enL (W.tlbs i k))), .sl false 1 W.nDoms (iF W.doms), .v (.int .i64 W.time)])
def oW : Wd := ⟨0, fun _ => 0, 0, fun _ => 0, 0, fun _ => zSl, 0, fun _ => Run.blank, 0, fun _ => 0, fun _ _ => 0, 0, fun _ => 0, 0, fun _ => 0, 0, fun _ => 0, fun _ _ => 0, 0, fun _ => 0, fun _ _ => zEn, 0, fun _ => 0, 0⟩
def gdW (e : Int) (W : Wd) : Wd := bif e == 0 then W else oW
theorem gdW_no {e : Int} (W : Wd) (h : (e == 0) = false) : gdW e W = oW := by unfold gdW; rw [h]; rfl
theorem gdW_yes {e : Int} (W : Wd) (h : (e == 0) = true) : gdW e W = W := by unfold gdW; rw [h]; rfl
theorem sameB_refl (n : Nat) (f : Nat → Int) : sameB n f n f = true := by simp [sameB, allB_iff]
theorem sameLL_refl (n : Nat) (k : Nat → Nat) (f : Nat → Nat → Int) : sameLL n k f n k f = true := by simp [sameLL, allB_iff, sameB_refl]
theorem sameEn_refl (n : Nat) (f : Nat → Ent4) : sameEn n f n f = true := by simp [sameEn, allB_iff, enEq]
theorem sameW_refl (W : Wd) : sameW W W = true := by simp [sameW, sameB_refl, sameLL_refl, sameEn_refl, allB_iff, slEq, runEq]
theorem lg_sm {W : Wd} (h : Sm W) : Lg W := by
  obtain ⟨h1, h2, h3, h4, h5, h6, h7, h8, h9, h10, h11, h12, h13⟩ := h
  exact ⟨h1, by omega, h3, by omega, by omega, by omega, by omega, by omega, by omega, by omega, fun i hi => by have := h11 i hi; omega, fun i hi => by have := h12 i hi; omega, fun i hi => by have := h13 i hi; omega⟩
theorem snd0 {W : Wd} (h : Snd W) : wE W = 0 := Snd.iff.2 h
structure X_nothing where
  (A : Wd)
def s_nothing : Sy.Spec := ⟨X_nothing, fun ⟨A⟩ => [wSV A], fun _ => [], fun ⟨A⟩ => A.nRam = 0 ∧ A.nKinds = 0 ∧ A.nSlots = 0 ∧ A.nTasks = 0 ∧ A.nLines = 0 ∧ A.nBits = 0 ∧ A.nCores = 0 ∧ A.nReady = 0 ∧ A.nTlbs = 0 ∧ A.nDoms = 0 ∧ A.time = 0, fun _ => .v (.bool true), fun _ => [],
  fun args mem => match args with | [a0] => some ⟨wSVD a0⟩ | _ => none⟩
def c_nothing : Con := ⟨[], s_nothing.g, none⟩
def V_nothing : X_nothing → Prop := fun ⟨A⟩ => let a0:Int:=((A.nRam:Nat):Int)+((A.nKinds:Nat):Int);let b0:Int:=a0+((A.nSlots:Nat):Int);let c0:Int:=b0+((A.nTasks:Nat):Int);let d0:Int:=c0+((A.nLines:Nat):Int);let e0:Int:=d0+((A.nBits:Nat):Int);let g0:Int:=e0+((A.nCores:Nat):Int);let h0:Int:=g0+((A.nReady:Nat):Int);let k0:Int:=h0+((A.nTlbs:Nat):Int);let l0:Int:=k0+((A.nDoms:Nat):Int);let o0:Int:=l0+A.time;True∧(((A.nRam:Nat):Int)≤9223372036854775807→((A.nKinds:Nat):Int)≤9223372036854775807→w64 a0=a0∧(((A.nSlots:Nat):Int)≤9223372036854775807→w64 b0=b0∧(((A.nTasks:Nat):Int)≤9223372036854775807→w64 c0=c0∧(((A.nLines:Nat):Int)≤9223372036854775807→w64 d0=d0∧(((A.nBits:Nat):Int)≤9223372036854775807→w64 e0=e0∧(((A.nCores:Nat):Int)≤9223372036854775807→w64 g0=g0∧(((A.nReady:Nat):Int)≤9223372036854775807→w64 h0=h0∧(((A.nTlbs:Nat):Int)≤9223372036854775807→w64 k0=k0∧(((A.nDoms:Nat):Int)≤9223372036854775807→w64 l0=l0∧w64 o0=o0∧(o0==0)=true∧True)))))))))
theorem ok_nothing : FnOK Tryz.prog glE 70 c_nothing := ok_of .nil false Tryz.call70 Tryz.func70 (fun _ => []) (V := V_nothing) (fun _ => by kernel_rfl) fun ⟨A⟩ hp => by
  dsimp only [s_nothing] at hp
  dsimp only [V_nothing, tn, w64]
  obtain ⟨h1, h2, h3, h4, h5, h6, h7, h8, h9, h10, h11⟩ := hp
  simp [h1, h2, h3, h4, h5, h6, h7, h8, h9, h10, h11, IntKind.wrap_i64]
structure X_soundR where
  (W : Wd)
def s_soundR : Sy.Spec := ⟨X_soundR, fun ⟨W⟩ => [wSV W], fun _ => [], fun ⟨W⟩ => Sm W, fun ⟨W⟩ => .v (.bool (wE W == 0)), fun _ => [],
  fun args mem => match args with | [a0] => some ⟨wSVD a0⟩ | _ => none⟩
def c_soundR : Con := ⟨[], s_soundR.g, none⟩
def V_soundR : X_soundR → Prop := fun ⟨W⟩ => let a0:=W.nKinds;let b0:=W.nSlots;let c0:=W.nTasks;let d0:=W.nLines;let e0:=W.nCores;let g0:=W.nReady;True∧(((((((((((((True∧W.nRam=W.nRam∧(∀h0:Nat,h0<W.nRam→True∧W.ram h0=W.ram h0))∧a0=a0∧(∀k0:Nat,k0<a0→True∧W.kinds k0=W.kinds k0))∧b0=b0∧(∀l0:Nat,let o0:=W.slots l0;let q0:=o0.kind;let u0:=o0.base;let v0:=o0.len;let w0:=o0.mark;let x0:=o0.rights;let y0:=o0.badge;let z0:=o0.from_;l0<b0→((((((True∧q0=q0)∧u0=u0)∧v0=v0)∧w0=w0)∧x0=x0)∧y0=y0)∧z0=z0))∧c0=c0∧(∀a1:Nat,let b1:=W.tasks a1;let c1:=b1.prio;let d1:=b1.node;let e1:=b1.space;let g1:=b1.helper;let h1:=b1.loc;let k1:=b1.word;let l1:=b1.badge;let o1:=b1.owes;let q1:=b1.core;let u1:=b1.dom;a1<c0→(((((((((((((((((((True∧b1.r0=b1.r0)∧b1.r1=b1.r1)∧b1.r2=b1.r2)∧b1.r3=b1.r3)∧b1.r4=b1.r4)∧b1.r5=b1.r5)∧b1.r6=b1.r6)∧b1.r7=b1.r7)∧b1.pc=b1.pc)∧b1.st=b1.st)∧c1=c1)∧d1=d1)∧e1=e1)∧g1=g1)∧h1=h1)∧k1=k1)∧l1=l1)∧o1=o1)∧q1=q1)∧u1=u1))∧d0=d0∧(∀v1:Nat,let w1:=W.linesN v1;v1<d0→True∧w1=w1∧(∀x1:Nat,x1<w1→True∧W.lines v1 x1=W.lines v1 x1)))∧W.nBits=W.nBits∧(∀y1:Nat,y1<W.nBits→True∧W.bits y1=W.bits y1))∧e0=e0∧(∀z1:Nat,z1<e0→True∧W.cores z1=W.cores z1))∧g0=g0∧(∀a2:Nat,let b2:=W.readyN a2;a2<g0→True∧b2=b2∧(∀c2:Nat,c2<b2→True∧W.ready a2 c2=W.ready a2 c2)))∧W.nTlbs=W.nTlbs∧(∀d2:Nat,let e2:=W.tlbsN d2;d2<W.nTlbs→True∧e2=e2∧(∀g2:Nat,let h2:=W.tlbs d2 g2;let k2:=h2.sp;let l2:=h2.pg;let o2:=h2.fr;let q2:=h2.wr;g2<e2→(((True∧k2=k2)∧l2=l2)∧o2=o2)∧q2=q2)))∧W.nDoms=W.nDoms∧(∀u2:Nat,u2<W.nDoms→True∧W.doms u2=W.doms u2))∧W.time=W.time)∧True)∧True∧
    s_worldMay.match_1 (fun v2:X_worldMay=>Prop) (X_worldMay.mk W) (fun w2:Wd=>Sm w2))∧(wE W==0)=(wE W==0)∧True
set_option maxHeartbeats 1000000 in
theorem ok_soundR : FnOK Tryz.prog glE 72 c_soundR := ok_of (.cons (ok_worldMay.up glN_glE) .nil) false Tryz.call72 Tryz.func72 (fun _ => []) (V := V_soundR) (fun _ => by kernel_rfl) fun ⟨W⟩ hp => by
  dsimp only [s_soundR] at hp
  dsimp only [V_soundR, tn, w64]
  simp only [std, stb, eq_self, implies_true, Bool.cond_self]
  exact hp
structure X_sound0 where
  (W : Wd)
def s_sound0 : Sy.Spec := ⟨X_sound0, fun ⟨W⟩ => [wSV W], fun _ => [], fun ⟨W⟩ => Sm W ∧ Snd W, fun _ => .v (.int .i64 0), fun _ => [],
  fun args mem => match args with | [a0] => some ⟨wSVD a0⟩ | _ => none⟩
def c_sound0 : Con := ⟨[], s_sound0.g, none⟩
def V_sound0 : X_sound0 → Prop := fun ⟨W⟩ => let a0:=W.nKinds;let b0:=W.nSlots;let c0:=W.nTasks;let d0:=W.nLines;let e0:=W.nCores;let g0:=W.nReady;True∧(((((((((((((True∧W.nRam=W.nRam∧(∀h0:Nat,h0<W.nRam→True∧W.ram h0=W.ram h0))∧a0=a0∧(∀k0:Nat,k0<a0→True∧W.kinds k0=W.kinds k0))∧b0=b0∧(∀l0:Nat,let o0:=W.slots l0;let q0:=o0.kind;let u0:=o0.base;let v0:=o0.len;let w0:=o0.mark;let x0:=o0.rights;let y0:=o0.badge;let z0:=o0.from_;l0<b0→((((((True∧q0=q0)∧u0=u0)∧v0=v0)∧w0=w0)∧x0=x0)∧y0=y0)∧z0=z0))∧c0=c0∧(∀a1:Nat,let b1:=W.tasks a1;let c1:=b1.prio;let d1:=b1.node;let e1:=b1.space;let g1:=b1.helper;let h1:=b1.loc;let k1:=b1.word;let l1:=b1.badge;let o1:=b1.owes;let q1:=b1.core;let u1:=b1.dom;a1<c0→(((((((((((((((((((True∧b1.r0=b1.r0)∧b1.r1=b1.r1)∧b1.r2=b1.r2)∧b1.r3=b1.r3)∧b1.r4=b1.r4)∧b1.r5=b1.r5)∧b1.r6=b1.r6)∧b1.r7=b1.r7)∧b1.pc=b1.pc)∧b1.st=b1.st)∧c1=c1)∧d1=d1)∧e1=e1)∧g1=g1)∧h1=h1)∧k1=k1)∧l1=l1)∧o1=o1)∧q1=q1)∧u1=u1))∧d0=d0∧(∀v1:Nat,let w1:=W.linesN v1;v1<d0→True∧w1=w1∧(∀x1:Nat,x1<w1→True∧W.lines v1 x1=W.lines v1 x1)))∧W.nBits=W.nBits∧(∀y1:Nat,y1<W.nBits→True∧W.bits y1=W.bits y1))∧e0=e0∧(∀z1:Nat,z1<e0→True∧W.cores z1=W.cores z1))∧g0=g0∧(∀a2:Nat,let b2:=W.readyN a2;a2<g0→True∧b2=b2∧(∀c2:Nat,c2<b2→True∧W.ready a2 c2=W.ready a2 c2)))∧W.nTlbs=W.nTlbs∧(∀d2:Nat,let e2:=W.tlbsN d2;d2<W.nTlbs→True∧e2=e2∧(∀g2:Nat,let h2:=W.tlbs d2 g2;let k2:=h2.sp;let l2:=h2.pg;let o2:=h2.fr;let q2:=h2.wr;g2<e2→(((True∧k2=k2)∧l2=l2)∧o2=o2)∧q2=q2)))∧W.nDoms=W.nDoms∧(∀u2:Nat,u2<W.nDoms→True∧W.doms u2=W.doms u2))∧W.time=W.time)∧True)∧True∧
    s_soundR.match_1 (fun v2:X_soundR=>Prop) (X_soundR.mk W) (fun w2:Wd=>Sm w2))∧((wE W==0)=true→(0:Int)=0∧True)∧((wE W==0)=false→(8:Int)=0∧True)
set_option maxHeartbeats 1000000 in
theorem ok_sound0 : FnOK Tryz.prog glE 16 c_sound0 := ok_of (.cons ok_soundR .nil) false Tryz.call16 Tryz.func16 (fun _ => []) (V := V_sound0) (fun _ => by kernel_rfl) fun ⟨W⟩ hp => by
  dsimp only [s_sound0] at hp
  dsimp only [V_sound0, tn, w64]
  simp only [std, stb, eq_self, implies_true, Bool.cond_self]
  exact ⟨hp.1, fun h => by rw [snd0 hp.2] at h; exact absurd h (by decide)⟩
structure X_sound8 where
  (W : Wd)
def s_sound8 : Sy.Spec := ⟨X_sound8, fun ⟨W⟩ => [wSV W], fun _ => [], fun ⟨W⟩ => Sm W ∧ wE W ≠ 0, fun _ => .v (.int .i64 8), fun _ => [],
  fun args mem => match args with | [a0] => some ⟨wSVD a0⟩ | _ => none⟩
def c_sound8 : Con := ⟨[], s_sound8.g, none⟩
def V_sound8 : X_sound8 → Prop := fun ⟨W⟩ => let a0:=W.nKinds;let b0:=W.nSlots;let c0:=W.nTasks;let d0:=W.nLines;let e0:=W.nCores;let g0:=W.nReady;True∧(((((((((((((True∧W.nRam=W.nRam∧(∀h0:Nat,h0<W.nRam→True∧W.ram h0=W.ram h0))∧a0=a0∧(∀k0:Nat,k0<a0→True∧W.kinds k0=W.kinds k0))∧b0=b0∧(∀l0:Nat,let o0:=W.slots l0;let q0:=o0.kind;let u0:=o0.base;let v0:=o0.len;let w0:=o0.mark;let x0:=o0.rights;let y0:=o0.badge;let z0:=o0.from_;l0<b0→((((((True∧q0=q0)∧u0=u0)∧v0=v0)∧w0=w0)∧x0=x0)∧y0=y0)∧z0=z0))∧c0=c0∧(∀a1:Nat,let b1:=W.tasks a1;let c1:=b1.prio;let d1:=b1.node;let e1:=b1.space;let g1:=b1.helper;let h1:=b1.loc;let k1:=b1.word;let l1:=b1.badge;let o1:=b1.owes;let q1:=b1.core;let u1:=b1.dom;a1<c0→(((((((((((((((((((True∧b1.r0=b1.r0)∧b1.r1=b1.r1)∧b1.r2=b1.r2)∧b1.r3=b1.r3)∧b1.r4=b1.r4)∧b1.r5=b1.r5)∧b1.r6=b1.r6)∧b1.r7=b1.r7)∧b1.pc=b1.pc)∧b1.st=b1.st)∧c1=c1)∧d1=d1)∧e1=e1)∧g1=g1)∧h1=h1)∧k1=k1)∧l1=l1)∧o1=o1)∧q1=q1)∧u1=u1))∧d0=d0∧(∀v1:Nat,let w1:=W.linesN v1;v1<d0→True∧w1=w1∧(∀x1:Nat,x1<w1→True∧W.lines v1 x1=W.lines v1 x1)))∧W.nBits=W.nBits∧(∀y1:Nat,y1<W.nBits→True∧W.bits y1=W.bits y1))∧e0=e0∧(∀z1:Nat,z1<e0→True∧W.cores z1=W.cores z1))∧g0=g0∧(∀a2:Nat,let b2:=W.readyN a2;a2<g0→True∧b2=b2∧(∀c2:Nat,c2<b2→True∧W.ready a2 c2=W.ready a2 c2)))∧W.nTlbs=W.nTlbs∧(∀d2:Nat,let e2:=W.tlbsN d2;d2<W.nTlbs→True∧e2=e2∧(∀g2:Nat,let h2:=W.tlbs d2 g2;let k2:=h2.sp;let l2:=h2.pg;let o2:=h2.fr;let q2:=h2.wr;g2<e2→(((True∧k2=k2)∧l2=l2)∧o2=o2)∧q2=q2)))∧W.nDoms=W.nDoms∧(∀u2:Nat,u2<W.nDoms→True∧W.doms u2=W.doms u2))∧W.time=W.time)∧True)∧True∧
    s_soundR.match_1 (fun v2:X_soundR=>Prop) (X_soundR.mk W) (fun w2:Wd=>Sm w2))∧((wE W==0)=true→(0:Int)=8∧True)∧((wE W==0)=false→(8:Int)=8∧True)
set_option maxHeartbeats 1000000 in
theorem ok_sound8 : FnOK Tryz.prog glE 16 c_sound8 := ok_of (.cons ok_soundR .nil) false Tryz.call16 Tryz.func16 (fun _ => []) (V := V_sound8) (fun _ => by kernel_rfl) fun ⟨W⟩ hp => by
  dsimp only [s_sound8] at hp
  dsimp only [V_sound8, tn, w64]
  simp only [std, stb, eq_self, implies_true, Bool.cond_self]
  exact ⟨hp.1, fun h => absurd (eq_of_beq h) hp.2⟩
structure X_done8 where
  (W : Wd)
def s_done8 : Sy.Spec := ⟨X_done8, fun ⟨W⟩ => [wSV W, .junk], fun _ => [], fun ⟨W⟩ => Sm W ∧ wE W ≠ 0, fun _ => .tp 2 (lsv [wRd oW, .er 35 116 8 (-1)]), fun _ => [],
  fun args mem => match args with | [a0, a1] => some ⟨wSVD a0⟩ | _ => none⟩
def c_done8 : Con := ⟨[], s_done8.g, none⟩
def V_done8 : X_done8 → Prop := fun ⟨W⟩ => let a0:=W.nKinds;let b0:=W.nSlots;let c0:=W.nTasks;let d0:=W.nLines;let e0:=W.nCores;let g0:=W.nReady;let h0:=0=0;tn 2 ((((((((((((((True∧W.nRam=W.nRam∧(∀k0:Nat,k0<W.nRam→True∧W.ram k0=W.ram k0))∧a0=a0∧(∀l0:Nat,l0<a0→True∧W.kinds l0=W.kinds l0))∧b0=b0∧(∀o0:Nat,let q0:=W.slots o0;let u0:=q0.kind;let v0:=q0.base;let w0:=q0.len;let x0:=q0.mark;let y0:=q0.rights;let z0:=q0.badge;let a1:=q0.from_;o0<b0→((((((True∧u0=u0)∧v0=v0)∧w0=w0)∧x0=x0)∧y0=y0)∧z0=z0)∧a1=a1))∧c0=c0∧(∀b1:Nat,let c1:=W.tasks b1;let d1:=c1.prio;let e1:=c1.node;let g1:=c1.space;let h1:=c1.helper;let k1:=c1.loc;let l1:=c1.word;let o1:=c1.badge;let q1:=c1.owes;let u1:=c1.core;let v1:=c1.dom;b1<c0→(((((((((((((((((((True∧c1.r0=c1.r0)∧c1.r1=c1.r1)∧c1.r2=c1.r2)∧c1.r3=c1.r3)∧c1.r4=c1.r4)∧c1.r5=c1.r5)∧c1.r6=c1.r6)∧c1.r7=c1.r7)∧c1.pc=c1.pc)∧c1.st=c1.st)∧d1=d1)∧e1=e1)∧g1=g1)∧h1=h1)∧k1=k1)∧l1=l1)∧o1=o1)∧q1=q1)∧u1=u1)∧v1=v1))∧d0=d0∧(∀w1:Nat,let x1:=W.linesN w1;w1<d0→True∧x1=x1∧(∀y1:Nat,y1<x1→True∧W.lines w1 y1=W.lines w1 y1)))∧W.nBits=W.nBits∧(∀z1:Nat,z1<W.nBits→True∧W.bits z1=W.bits z1))∧e0=e0∧(∀a2:Nat,a2<e0→True∧W.cores a2=W.cores a2))∧g0=g0∧(∀b2:Nat,let c2:=W.readyN b2;b2<g0→True∧c2=c2∧(∀d2:Nat,d2<c2→True∧W.ready b2 d2=W.ready b2 d2)))∧W.nTlbs=W.nTlbs∧(∀e2:Nat,let g2:=W.tlbsN e2;e2<W.nTlbs→True∧g2=g2∧(∀h2:Nat,let k2:=W.tlbs e2 h2;let l2:=k2.sp;let o2:=k2.pg;let q2:=k2.fr;let u2:=k2.wr;h2<g2→(((True∧l2=l2)∧o2=o2)∧q2=q2)∧u2=u2)))∧W.nDoms=W.nDoms∧(∀v2:Nat,v2<W.nDoms→True∧W.doms v2=W.doms v2))∧W.time=W.time)∧True)∧True∧
    s_wCheck.match_1 (fun w2:X_wCheck=>Prop) (X_wCheck.mk W) (fun x2:Wd=>Sm x2))∧((wE W !=0)=true→tn 10 True∧((True∧((((((((((True∧h0)∧h0)∧h0)∧h0)∧h0)∧h0)∧h0)∧h0)∧h0)∧h0)∧(0:Int)=0)∧(8:Int)≠0∧(8:Int)=8∧((-1):Int)=(-1))∧True)∧((wE W !=0)=false→False))
set_option maxHeartbeats 1000000 in
theorem ok_done8 : FnOK Tryz.prog glE 66 c_done8 := ok_of (.cons (ok_wCheck.up glN_glE) .nil) false Tryz.call66 Tryz.func66 (fun _ => []) (V := V_done8) (fun _ => by kernel_rfl) fun ⟨W⟩ hp => by
  dsimp only [s_done8] at hp
  dsimp only [V_done8, tn, w64]
  simp only [std, stb, eq_self, implies_true, Bool.cond_self]
  exact ⟨hp.1, fun _ => by decide, fun h => absurd (by simpa using h) hp.2⟩
structure X_did8 where
  (W : Wd)
def s_did8 : Sy.Spec := ⟨X_did8, fun ⟨W⟩ => [wRd oW, .er 35 116 8 (-1), wSV W, .v (.int .i64 8), .junk], fun _ => [], fun ⟨W⟩ => Lg W, fun _ => .v (.bool true), fun _ => [],
  fun args mem => match args with | [a0, a1, a2, a3, a4] => some ⟨wSVD a2⟩ | _ => none⟩
def c_did8 : Con := ⟨[], s_did8.g, none⟩
def V_did8 : X_did8 → Prop := fun ⟨W⟩ => let a0:=W.nRam;let b0:=a0=a0;let c0:=W.nKinds;let d0:=c0=c0;let e0:=W.nSlots;let g0:=e0=e0;let h0:=W.nTasks;let k0:=h0=h0;let l0:=W.nLines;let o0:=l0=l0;let q0:=W.nBits;let u0:=q0=q0;let v0:=W.nCores;let w0:=v0=v0;let x0:=W.nReady;let y0:=x0=x0;let z0:=W.nTlbs;let a1:=z0=z0;let b1:=W.nDoms;let c1:=b1=b1;let d1:=W.time=W.time;let e1:=True∧True;let g1:=(8:Int)==0;let h1:=g1=true;let k1:=(8:Int)=8;let l1:=((-1):Int)=(-1);let o1:=(8:Int)==8&&((-1):Int)==(-1);let q1:=0=0;let u1:=(0:Int)=0;let v1:=True∧u1;let w1:=q1∧(∀x1:Nat,x1<0→v1);let y1:=True∧w1;let z1:=(v1∧u1)∧u1;let a2:=(((z1∧u1)∧u1)∧u1)∧u1;let b2:=q1∧(∀c2:Nat,c2<0→y1);let d2:=(((((((((y1∧w1)∧q1∧(∀e2:Nat,e2<0→a2))∧q1∧(∀g2:Nat,g2<0→((((((((((((a2∧u1)∧u1)∧u1)∧u1)∧l1)∧l1)∧l1)∧l1)∧u1)∧u1)∧l1)∧u1)∧u1))∧b2)∧w1)∧w1)∧b2)∧q1∧(∀h2:Nat,h2<0→True∧q1∧(∀k2:Nat,k2<0→z1∧false=false)))∧w1)∧u1;tn 2 ((((((((((((((True∧b0∧(∀l2:Nat,l2<a0→True∧W.ram l2=W.ram l2))∧d0∧(∀o2:Nat,o2<c0→True∧W.kinds o2=W.kinds o2))∧g0∧(∀q2:Nat,let u2:=W.slots q2;let v2:=u2.kind;let w2:=u2.base;let x2:=u2.len;let y2:=u2.mark;let z2:=u2.rights;let a3:=u2.badge;let b3:=u2.from_;q2<e0→((((((True∧v2=v2)∧w2=w2)∧x2=x2)∧y2=y2)∧z2=z2)∧a3=a3)∧b3=b3))∧k0∧(∀c3:Nat,let d3:=W.tasks c3;let e3:=d3.prio;let g3:=d3.node;let h3:=d3.space;let k3:=d3.helper;let l3:=d3.loc;let o3:=d3.word;let q3:=d3.badge;let u3:=d3.owes;let v3:=d3.core;let w3:=d3.dom;c3<h0→(((((((((((((((((((True∧d3.r0=d3.r0)∧d3.r1=d3.r1)∧d3.r2=d3.r2)∧d3.r3=d3.r3)∧d3.r4=d3.r4)∧d3.r5=d3.r5)∧d3.r6=d3.r6)∧d3.r7=d3.r7)∧
    d3.pc=d3.pc)∧d3.st=d3.st)∧e3=e3)∧g3=g3)∧h3=h3)∧k3=k3)∧l3=l3)∧o3=o3)∧q3=q3)∧u3=u3)∧v3=v3)∧w3=w3))∧o0∧(∀x3:Nat,let y3:=W.linesN x3;x3<l0→True∧y3=y3∧(∀z3:Nat,z3<y3→True∧W.lines x3 z3=W.lines x3 z3)))∧u0∧(∀a4:Nat,a4<q0→True∧W.bits a4=W.bits a4))∧w0∧(∀b4:Nat,b4<v0→True∧W.cores b4=W.cores b4))∧y0∧(∀c4:Nat,let d4:=W.readyN c4;c4<x0→True∧d4=d4∧(∀e4:Nat,e4<d4→True∧W.ready c4 e4=W.ready c4 e4)))∧a1∧(∀g4:Nat,let h4:=W.tlbsN g4;g4<z0→True∧h4=h4∧(∀k4:Nat,let l4:=W.tlbs g4 k4;let o4:=l4.sp;let q4:=l4.pg;let u4:=l4.fr;let v4:=l4.wr;k4<h4→(((True∧o4=o4)∧q4=q4)∧u4=u4)∧v4=v4)))∧c1∧(∀w4:Nat,w4<b1→True∧W.doms w4=W.doms w4))∧d1)∧True)∧True∧s_copyW.match_1 (fun x4:X_copyW=>Prop) (X_copyW.mk W) (fun y4:Wd=>Lg y4))∧True∧tn 9 e1∧(h1→False)∧(g1=false→(((8:Int) !=0)=true→((k1∧True)∧e1)∧(((k1∧l1)∧((True∧k1)∧l1)∧True)∧e1)∧(o1=true→(d2∧True)∧True∧q1∧q1∧q1∧q1∧q1∧q1∧q1∧q1∧q1∧q1∧u1)∧cond o1 true false=true∧True)∧(((8:Int) !=0)=false→(h1→(d2∧(((((((((((True∧b0∧(∀z4:Nat,z4<a0→True∧W.ram (0+z4)=W.ram (0+z4)))∧d0∧(∀a5:Nat,let b5:=W.kinds (0+a5);a5<c0→True∧b5=b5))∧g0∧(∀c5:Nat,let d5:=W.slots (0+c5);let e5:=d5.kind;let g5:=d5.base;let h5:=d5.len;let k5:=d5.mark;let l5:=d5.rights;let o5:=d5.badge;let q5:=d5.from_;c5<e0→((((((True∧e5=e5)∧g5=g5)∧h5=h5)∧k5=k5)∧l5=l5)∧o5=o5)∧q5=q5))∧k0∧(∀u5:Nat,let v5:=W.tasks (0+u5);let w5:=v5.r0;let x5:=v5.r1;let y5:=v5.r2;let z5:=v5.r3;let a6:=v5.r4;let b6:=v5.r5;let c6:=v5.r6;let d6:=v5.r7;let e6:=v5.pc;let g6:=v5.st;let h6:=v5.prio;let k6:=v5.node;let l6:=v5.space;
    let o6:=v5.helper;let q6:=v5.loc;let u6:=v5.word;let v6:=v5.badge;let w6:=v5.owes;let x6:=v5.core;let y6:=v5.dom;u5<h0→(((((((((((((((((((True∧w5=w5)∧x5=x5)∧y5=y5)∧z5=z5)∧a6=a6)∧b6=b6)∧c6=c6)∧d6=d6)∧e6=e6)∧g6=g6)∧h6=h6)∧k6=k6)∧l6=l6)∧o6=o6)∧q6=q6)∧u6=u6)∧v6=v6)∧w6=w6)∧x6=x6)∧y6=y6))∧o0∧(∀z6:Nat,let a7:=W.linesN (0+z6);z6<l0→True∧a7=a7∧(∀b7:Nat,let c7:=W.lines (0+z6) (0+b7);b7<a7→True∧c7=c7)))∧u0∧(∀d7:Nat,d7<q0→True∧W.bits (0+d7)=W.bits (0+d7)))∧w0∧(∀e7:Nat,let g7:=W.cores (0+e7);e7<v0→True∧g7=g7))∧y0∧(∀h7:Nat,let k7:=W.readyN (0+h7);h7<x0→True∧k7=k7∧(∀l7:Nat,let o7:=W.ready (0+h7) (0+l7);l7<k7→True∧o7=o7)))∧a1∧(∀q7:Nat,let u7:=0+q7;let v7:=W.tlbsN u7;q7<z0→True∧v7=v7∧(∀w7:Nat,let x7:=W.tlbs u7 (0+w7);let y7:=x7.sp;let z7:=x7.pg;let a8:=x7.fr;let b8:=x7.wr;w7<v7→(((True∧y7=y7)∧z7=z7)∧a8=a8)∧b8=b8)))∧c1∧(∀c8:Nat,c8<b1→True∧W.doms (0+c8)=W.doms (0+c8)))∧d1)∧True)∧e1)∧
    cond g1 (sameW (Wd.mk 0 (fun d8:Nat=>0) 0 (fun e8:Nat=>0) 0 (fun g8:Nat=>Slt.mk 0 0 0 0 0 0 0) 0 (fun h8:Nat=>Run.mk 0 0 0 0 0 0 0 0 0 0 0 (-1) (-1) (-1) (-1) 0 0 (-1) 0 0) 0 (fun k8:Nat=>0) (fun l8:Nat=>fun o8:Nat=>0) 0 (fun q8:Nat=>0) 0 (fun r8:Nat=>0) 0 (fun u8:Nat=>0) (fun v8:Nat=>fun w8:Nat=>0) 0 (fun x8:Nat=>0) (fun y8:Nat=>fun z8:Nat=>Ent4.mk 0 0 0 false) 0 (fun a9:Nat=>0) 0) (Wd.mk a0 (fun b9:Nat=>W.ram (0+b9)) c0 (fun c9:Nat=>W.kinds (0+c9)) e0 (fun d9:Nat=>W.slots (0+d9)) h0 (fun e9:Nat=>W.tasks (0+e9)) l0 (fun g9:Nat=>W.linesN (0+g9)) (fun h9:Nat=>fun k9:Nat=>W.lines (0+h9) (0+k9)) q0 (fun l9:Nat=>W.bits (0+l9)) v0 (fun o9:Nat=>W.cores (0+o9)) x0 (fun q9:Nat=>W.readyN (0+q9)) (fun r9:Nat=>fun u9:Nat=>W.ready (0+r9) (0+u9)) z0 (fun v9:Nat=>W.tlbsN (0+v9)) (fun w9:Nat=>fun x9:Nat=>W.tlbs (0+w9) (0+x9)) b1 (fun y9:Nat=>W.doms (0+y9)) W.time)) false=true∧True)))
set_option maxHeartbeats 1000000 in
theorem ok_did8 : FnOK Tryz.prog glE 15 c_did8 := ok_of (.cons ok_is (.cons (ok_err.up glN_glE) (.cons (ok_copyW.up glN_glE) (.cons ok_nothing (.cons (ok_sameWorld.up glN_glE) .nil))))) false Tryz.call15 Tryz.func15 (fun _ => []) (V := V_did8) (fun _ => by kernel_rfl) fun ⟨W⟩ hp => by
  dsimp only [s_did8] at hp
  dsimp only [V_did8, tn, w64]
  simp only [std, stb, eq_self, implies_true, Bool.cond_self]
  exact ⟨hp, fun h => absurd h (by decide), fun _ => ⟨fun _ => by decide, fun h => absurd h (by decide)⟩⟩
end Go.Proofs.YtdjilaofmdhikaaGreatDoor
set_option linter.unusedVariables false
set_option linter.unusedSimpArgs false
set_option maxRecDepth 100000
namespace Go.Proofs.YtdjilaofmdhikaaGreatDoor
open Go.RowKit Go.Sy
def rkZ (t : Run) : Int := t.core * 4 + t.prio
def rkOf (t : Run) : Nat := (rkZ t).toNat
def wkS (W : Wd) (t i : Nat) : Run := updF W.tasks t { W.tasks t with st := 1, loc := -1 } i
def wkN (W : Wd) (t i : Nat) : Nat := updF W.readyN (rkOf (W.tasks t)) (W.readyN (rkOf (W.tasks t)) + 1) i
def wkL (W : Wd) (t i k : Nat) : Int := updF W.ready (rkOf (W.tasks t)) (apF (W.readyN (rkOf (W.tasks t))) (W.ready (rkOf (W.tasks t))) t) i k
def wokW (W : Wd) (t : Nat) : Wd := { W with tasks := wkS W t, readyN := wkN W t, ready := wkL W t }
theorem ap_one {n k : Nat} {f : Nat → Int} {x : Int} (h : k < n + 1) : (bif k.blt n then f k else [x].getD (k - n) 0) = apF n f x k := by
  unfold apF
  rcases Nat.lt_or_ge k n with h1 | h1
  · rw [blt_t h1]; rfl
  · obtain rfl : k = n := by omega
    rw [blt_f (Nat.le_refl _), Nat.sub_self]; rfl
theorem run20 {x y : Run} (h : x = y) : ((((((((((((((((((((x.r0 = y.r0 ∧ x.r1 = y.r1) ∧ x.r2 = y.r2) ∧ x.r3 = y.r3) ∧ x.r4 = y.r4) ∧ x.r5 = y.r5) ∧ x.r6 = y.r6) ∧ x.r7 = y.r7) ∧ x.pc = y.pc) ∧ x.st = y.st) ∧ x.prio = y.prio) ∧ x.node = y.node) ∧ x.space = y.space) ∧ x.helper = y.helper) ∧ x.loc = y.loc) ∧ x.word = y.word) ∧ x.badge = y.badge) ∧ x.owes = y.owes) ∧ x.core = y.core) ∧ x.dom = y.dom)) := by
  subst h; exact ⟨⟨⟨⟨⟨⟨⟨⟨⟨⟨⟨⟨⟨⟨⟨⟨⟨⟨⟨rfl, rfl⟩, rfl⟩, rfl⟩, rfl⟩, rfl⟩, rfl⟩, rfl⟩, rfl⟩, rfl⟩, rfl⟩, rfl⟩, rfl⟩, rfl⟩, rfl⟩, rfl⟩, rfl⟩, rfl⟩, rfl⟩, rfl⟩
theorem wkN_eq {W : Wd} {t j : Nat} : (bif j.beq (rkOf (W.tasks t)) then W.readyN (rkOf (W.tasks t)) + 1 else W.readyN j) = wkN W t j := rfl
theorem wkL_eq {W : Wd} {t j k : Nat} {x : Int} (hx : x = (t : Int)) (h : k < wkN W t j) : (bif j.beq (rkOf (W.tasks t)) then bif k.blt (W.readyN (rkOf (W.tasks t))) then W.ready (rkOf (W.tasks t)) k else [x].getD (k - W.readyN (rkOf (W.tasks t))) 0 else W.ready j k) = wkL W t j k := by
  subst hx
  unfold wkL
  rcases Decidable.em (j = rkOf (W.tasks t)) with e | e
  · rw [e] at h ⊢
    rw [Nat.beq_refl, updF_at]
    refine ap_one ?_
    unfold wkN at h; rw [updF_at] at h; exact h
  · rw [beq_ne e, updF_ne e]; rfl
structure WkP (W : Wd) (t : Int) : Prop where
  t0 : 0 ≤ t
  t1 : t < W.nTasks
  r0 : 0 ≤ rkZ (W.tasks t.toNat)
  r1 : rkZ (W.tasks t.toNat) < W.nReady
  c0 : 0 ≤ (W.tasks t.toNat).core
  c1 : (W.tasks t.toNat).core ≤ 100
  p0 : 0 ≤ (W.tasks t.toNat).prio
  p1 : (W.tasks t.toNat).prio ≤ 100
  n : W.readyN (rkOf (W.tasks t.toNat)) ≤ 100000
structure X_woken where
  (t : Int) (W : Wd)
def s_woken : Sy.Spec := ⟨X_woken, fun ⟨t, _⟩ => [.ptr 0 0 none 0 0, .v (.int .i64 t)], fun ⟨_, W⟩ => wMem W, fun ⟨t, W⟩ => WkP W t, fun _ => .tp 0 (lsv []), fun ⟨t, W⟩ => wMem (wokW W t.toNat),
  fun args mem => match args with | [a0, a1] => some ⟨intD (a1), wMJD mem 0⟩ | _ => none⟩
def c_woken : Con := ⟨[true], s_woken.g, none⟩
def V_woken : X_woken → Prop := fun ⟨t, W⟩ => let a0:=W.nTasks;let b0:=0≤t∧t<(a0:Int);let c0:=Int.toNat t;let d0:=W.tasks (0+c0);let e0:Int:=d0.core*4;let g0:Int:=e0+d0.prio;let h0:=W.nReady;let k0:=0≤g0∧g0<(h0:Int);let l0:=0+Int.toNat g0;let o0:=W.readyN l0;let q0:=true=true;let u0:=True∧q0;let v0:=o0+1;let w0:=0=0;let x0:=W.nRam;let y0:=x0=x0;let z0:=W.nKinds;let a1:=z0=z0;let b1:=W.nSlots;let c1:=b1=b1;let d1:=a0=a0;let e1:=W.nLines;let g1:=e1=e1;let h1:=W.nBits;let k1:=h1=h1;let l1:=W.nCores;let o1:=l1=l1;let q1:=h0=h0;let u1:=W.nTlbs;let v1:=u1=u1;let w1:=W.nDoms;let x1:=w1=w1;let y1:=Wd.mk x0 W.ram z0 W.kinds b1 W.slots a0 (wkS W c0) e1 W.linesN W.lines h1 W.bits l1 W.cores h0 (wkN W c0) (wkL W c0) u1 W.tlbsN W.tlbs w1 W.doms W.time;b0∧(∀z1:Nat,false=false)∧b0∧(∀a2:Nat,false=false)∧tn 5 (b0∧tn 2 (w64 e0=e0∧tn 5 (b0∧tn 2 (w64 g0=g0∧tn 11 (k0∧True∧(o0*8≤140737488355328∧(∀b2:Nat,q0))∧tn 2 (tn 2 True∧(((∀c2:Nat,u0)∧(∀d2:Nat,u0)∧True)∧(o0+1)*8≤140737488355328∧(∀e2:Nat,q0))∧(v0*8≤140737488355328∧(∀g2:Nat,q0))∧k0∧(∀h2:Nat,Nat.beq 1 1=true)∧True∧(((((((((((True∧w0∧y0)∧w0∧a1)∧w0∧c1)∧w0∧d1)∧w0∧g1)∧w0∧k1)∧w0∧o1)∧w0∧q1)∧w0∧v1)∧w0∧x1)∧W.time=W.time)∧(y0∧(∀k2:Nat,k2<x0→True∧W.ram k2=W.ram k2))∧(a1∧(∀l2:Nat,l2<z0→True∧W.kinds l2=W.kinds l2))∧(c1∧(∀o2:Nat,let q2:=W.slots o2;let u2:=y1.slots o2;o2<b1→((((((True∧q2.kind=u2.kind)∧q2.base=u2.base)∧q2.len=u2.len)∧q2.mark=u2.mark)∧q2.rights=u2.rights)∧q2.badge=u2.badge)∧q2.from_=u2.from_))∧(d1∧(∀v2:Nat,let w2:=W.tasks v2;let x2:=y1.tasks v2;v2<a0→(((((((((((((((((((True∧w2.r0=x2.r0)∧
    w2.r1=x2.r1)∧w2.r2=x2.r2)∧w2.r3=x2.r3)∧w2.r4=x2.r4)∧w2.r5=x2.r5)∧w2.r6=x2.r6)∧w2.r7=x2.r7)∧w2.pc=x2.pc)∧cond (Nat.beq v2 (0+c0)) 1 w2.st=x2.st)∧w2.prio=x2.prio)∧w2.node=x2.node)∧w2.space=x2.space)∧w2.helper=x2.helper)∧cond (Nat.beq v2 (0+c0)) (-1) w2.loc=x2.loc)∧w2.word=x2.word)∧w2.badge=x2.badge)∧w2.owes=x2.owes)∧w2.core=x2.core)∧w2.dom=x2.dom))∧(g1∧(∀y2:Nat,let z2:=W.linesN y2;y2<e1→True∧z2=z2∧(∀a3:Nat,a3<z2→True∧W.lines y2 a3=W.lines y2 a3)))∧(k1∧(∀b3:Nat,b3<h1→True∧W.bits b3=W.bits b3))∧(o1∧(∀c3:Nat,c3<l1→True∧W.cores c3=W.cores c3))∧(q1∧(∀d3:Nat,d3<h0→True∧cond (Nat.beq d3 l0) v0 (W.readyN d3)=wkN W c0 d3∧(∀e3:Nat,e3<wkN W c0 d3→True∧cond (Nat.beq d3 l0) (cond (Nat.blt e3 o0) (W.ready l0 (0+(0+e3))) (List.getD [t] (0+(e3-o0)) 0)) (W.ready d3 e3)=wkL W c0 d3 e3)))∧(v1∧(∀g3:Nat,let h3:=W.tlbsN g3;g3<u1→True∧h3=h3∧(∀k3:Nat,let l3:=W.tlbs g3 k3;let o3:=y1.tlbs g3 k3;k3<h3→(((True∧l3.sp=o3.sp)∧l3.pg=o3.pg)∧l3.fr=o3.fr)∧l3.wr=o3.wr)))∧(x1∧(∀q3:Nat,q3<w1→True∧W.doms q3=W.doms q3))∧True))))))
theorem ok_woken : FnOK Tryz.prog glN 96 c_woken := ok_of .nil false Tryz.call96 Tryz.func96 (fun _ => []) (V := V_woken) (fun _ => by kernel_rfl) fun ⟨t, W⟩ hp => by
  dsimp only [s_woken] at hp
  dsimp only [V_woken, tn, w64]
  simp only [std, stb, eq_self, implies_true, Bool.cond_self]
  try simp only [wd_eta]
  obtain ⟨t0, t1, r0, r1, c0, c1, p0, p1, hn⟩ := hp
  have et : t = (t.toNat : Int) := by omega
  have w1 : IntKind.i64.wrap ((W.tasks t.toNat).core * 4) = (W.tasks t.toNat).core * 4 := wr_in (by omega) (by omega)
  have w2 : IntKind.i64.wrap ((W.tasks t.toNat).core * 4 + (W.tasks t.toNat).prio) = (W.tasks t.toNat).core * 4 + (W.tasks t.toNat).prio := wr_in (by omega) (by omega)
  have n1 : W.readyN ((W.tasks t.toNat).core * 4 + (W.tasks t.toNat).prio).toNat ≤ 100000 := hn
  have ls : ∀ j, j < W.nReady → _ := fun j _ => And.intro (wkN_eq (W := W) (t := t.toNat) (j := j)) (fun k hk => wkL_eq (W := W) (t := t.toNat) (j := j) (k := k) et hk)
  refine ⟨⟨t0, t1⟩, ⟨t0, t1⟩, ⟨t0, t1⟩, w1, ⟨t0, t1⟩, w2, ⟨r0, r1⟩, by omega, by omega, by omega, ⟨r0, r1⟩, fun _ => rfl, fun j _ => by
    rcases Decidable.em (j = t.toNat) with h | h
    · subst h; simp only [Nat.beq_refl, cond_true]; unfold wkS; rw [updF_at]; exact ⟨⟨⟨⟨⟨⟨⟨⟨⟨⟨⟨⟨⟨⟨⟨⟨⟨⟨⟨rfl, rfl⟩, rfl⟩, rfl⟩, rfl⟩, rfl⟩, rfl⟩, rfl⟩, rfl⟩, rfl⟩, rfl⟩, rfl⟩, rfl⟩, rfl⟩, rfl⟩, rfl⟩, rfl⟩, rfl⟩, rfl⟩, rfl⟩
    · simp only [beq_ne h, cond_false]; unfold wkS; rw [updF_ne h]; exact run20 rfl, fun j hj => ls j hj⟩
structure X_wake where
  (t : Int) (W : Wd)
def s_wake : Sy.Spec := ⟨X_wake, fun ⟨t, _⟩ => [.ptr 0 0 none 0 0, .v (.int .i64 t)], fun ⟨_, W⟩ => wMem W, fun ⟨t, W⟩ => WkP W t, fun _ => .tp 0 (lsv []), fun ⟨t, W⟩ => wMem (wokW W t.toNat),
  fun args mem => match args with | [a0, a1] => some ⟨intD (a1), wMJD mem 0⟩ | _ => none⟩
def c_wake : Con := ⟨[true], s_wake.g, none⟩
def V_wake : X_wake → Prop := fun ⟨t, W⟩ => let a0:=W.nTasks;let b0:=Int.toNat t;let c0:=0+b0;let d0:=W.tasks c0;let e0:Int:=d0.core*4;let g0:Int:=e0+d0.prio;let h0:=W.nReady;let k0:=0+Int.toNat g0;let l0:=W.readyN k0;let o0:=l0+1;let q0:=0=0;let u0:=W.nRam;let v0:=u0=u0;let w0:=W.nKinds;let x0:=w0=w0;let y0:=W.nSlots;let z0:=y0=y0;let a1:=a0=a0;let b1:=W.nLines;let c1:=b1=b1;let d1:=W.nBits;let e1:=d1=d1;let g1:=W.nCores;let h1:=g1=g1;let k1:=h0=h0;let l1:=W.nTlbs;let o1:=l1=l1;let q1:=W.nDoms;let u1:=q1=q1;let v1:=Wd.mk u0 W.ram w0 W.kinds y0 W.slots a0 (wkS W b0) b1 W.linesN W.lines d1 W.bits g1 W.cores h0 (wkN W b0) (wkL W b0) l1 W.tlbsN W.tlbs q1 W.doms W.time;(0≤t∧t<(a0:Int))∧(∀w1:Nat,false=false)∧(∀x1:Nat,false=false)∧tn 8 (w64 e0=e0∧tn 4 (w64 g0=g0∧(0≤g0∧g0<(h0:Int))∧True∧(True∧o0*8≤140737488355328∧(∀y1:Nat,true=true))∧(k0=k0∧(∀z1:Nat,Nat.beq 1 1=true))∧True∧(((((((((((True∧q0∧v0)∧q0∧x0)∧q0∧z0)∧q0∧a1)∧q0∧c1)∧q0∧e1)∧q0∧h1)∧q0∧k1)∧q0∧o1)∧q0∧u1)∧W.time=W.time)∧(v0∧(∀a2:Nat,a2<u0→True∧W.ram a2=W.ram a2))∧(x0∧(∀b2:Nat,b2<w0→True∧W.kinds b2=W.kinds b2))∧(z0∧(∀c2:Nat,let d2:=W.slots c2;let e2:=v1.slots c2;c2<y0→((((((True∧d2.kind=e2.kind)∧d2.base=e2.base)∧d2.len=e2.len)∧d2.mark=e2.mark)∧d2.rights=e2.rights)∧d2.badge=e2.badge)∧d2.from_=e2.from_))∧(a1∧(∀g2:Nat,let h2:=W.tasks g2;let k2:=v1.tasks g2;g2<a0→(((((((((((((((((((True∧h2.r0=k2.r0)∧h2.r1=k2.r1)∧h2.r2=k2.r2)∧h2.r3=k2.r3)∧h2.r4=k2.r4)∧h2.r5=k2.r5)∧h2.r6=k2.r6)∧h2.r7=k2.r7)∧h2.pc=k2.pc)∧cond (Nat.beq g2 c0) 1 h2.st=k2.st)∧h2.prio=k2.prio)∧h2.node=k2.node)∧
    h2.space=k2.space)∧h2.helper=k2.helper)∧cond (Nat.beq g2 c0) (-1) h2.loc=k2.loc)∧h2.word=k2.word)∧h2.badge=k2.badge)∧h2.owes=k2.owes)∧h2.core=k2.core)∧h2.dom=k2.dom))∧(c1∧(∀l2:Nat,let o2:=W.linesN l2;l2<b1→True∧o2=o2∧(∀q2:Nat,q2<o2→True∧W.lines l2 q2=W.lines l2 q2)))∧(e1∧(∀u2:Nat,u2<d1→True∧W.bits u2=W.bits u2))∧(h1∧(∀v2:Nat,v2<g1→True∧W.cores v2=W.cores v2))∧(k1∧(∀w2:Nat,w2<h0→True∧cond (Nat.beq w2 k0) o0 (W.readyN w2)=wkN W b0 w2∧(∀x2:Nat,x2<wkN W b0 w2→True∧cond (Nat.beq w2 k0) (cond (Nat.blt x2 l0) (W.ready k0 (0+x2)) (List.getD [t] (0+(x2-l0)) 0)) (W.ready w2 x2)=wkL W b0 w2 x2)))∧(o1∧(∀y2:Nat,let z2:=W.tlbsN y2;y2<l1→True∧z2=z2∧(∀a3:Nat,let b3:=W.tlbs y2 a3;let c3:=v1.tlbs y2 a3;a3<z2→(((True∧b3.sp=c3.sp)∧b3.pg=c3.pg)∧b3.fr=c3.fr)∧b3.wr=c3.wr)))∧(u1∧(∀d3:Nat,d3<q1→True∧W.doms d3=W.doms d3))∧True))
theorem ok_wake : FnOK Tryz.prog glN 153 c_wake := ok_of .nil false Tryz.call153 Tryz.func153 (fun _ => []) (V := V_wake) (fun _ => by kernel_rfl) fun ⟨t, W⟩ hp => by
  dsimp only [s_wake] at hp
  dsimp only [V_wake, tn, w64]
  simp only [std, stb, eq_self, implies_true, Bool.cond_self]
  try simp only [wd_eta]
  obtain ⟨t0, t1, r0, r1, c0, c1, p0, p1, hn⟩ := hp
  have et : t = (t.toNat : Int) := by omega
  have w1 : IntKind.i64.wrap ((W.tasks t.toNat).core * 4) = (W.tasks t.toNat).core * 4 := wr_in (by omega) (by omega)
  have w2 : IntKind.i64.wrap ((W.tasks t.toNat).core * 4 + (W.tasks t.toNat).prio) = (W.tasks t.toNat).core * 4 + (W.tasks t.toNat).prio := wr_in (by omega) (by omega)
  have n1 : W.readyN ((W.tasks t.toNat).core * 4 + (W.tasks t.toNat).prio).toNat ≤ 100000 := hn
  have ls : ∀ j, j < W.nReady → _ := fun j _ => And.intro (wkN_eq (W := W) (t := t.toNat) (j := j)) (fun k hk => wkL_eq (W := W) (t := t.toNat) (j := j) (k := k) et hk)
  refine ⟨⟨t0, t1⟩, w1, w2, ⟨r0, r1⟩, by omega, fun _ => rfl, fun j _ => by
    rcases Decidable.em (j = t.toNat) with h | h
    · subst h; simp only [Nat.beq_refl, cond_true]; unfold wkS; rw [updF_at]; exact ⟨⟨⟨⟨⟨⟨⟨⟨⟨⟨⟨⟨⟨⟨⟨⟨⟨⟨⟨rfl, rfl⟩, rfl⟩, rfl⟩, rfl⟩, rfl⟩, rfl⟩, rfl⟩, rfl⟩, rfl⟩, rfl⟩, rfl⟩, rfl⟩, rfl⟩, rfl⟩, rfl⟩, rfl⟩, rfl⟩, rfl⟩, rfl⟩
    · simp only [beq_ne h, cond_false]; unfold wkS; rw [updF_ne h]; exact run20 rfl, fun j hj => ls j hj⟩
end Go.Proofs.YtdjilaofmdhikaaGreatDoor
set_option linter.unusedVariables false
set_option linter.unusedSimpArgs false
set_option maxRecDepth 100000
namespace Go.Proofs.YtdjilaofmdhikaaGreatDoor
open Go.RowKit Go.Sy
open Go.RowKit Go.Lib Go.Sort in
end Go.Proofs.YtdjilaofmdhikaaGreatDoor
set_option linter.unusedVariables false
set_option linter.unusedSimpArgs false
set_option maxRecDepth 100000
namespace Go.Proofs.YtdjilaofmdhikaaGreatDoor
open Go.RowKit Go.Sy
theorem Inv.mono {L L' : Nat} {W : Wd} (h : Inv L W) (hl : L ≤ L') : Inv L' W :=
  ⟨h.z, h.ram, h.kd, h.dm, h.sl, h.tk, fun i hi => ⟨Nat.le_trans (h.ln i hi).1 hl, (h.ln i hi).2⟩, fun i hi => ⟨Nat.le_trans (h.rd i hi).1 hl, (h.rd i hi).2⟩, h.co, h.bt, fun c hc => Nat.le_trans (h.tl c hc) hl⟩
theorem inv_wkp {L : Nat} {W : Wd} {t : Int} (h : Inv L W) (hl : L ≤ 1000) (h0 : 0 ≤ t) (h1 : t < W.nTasks) : WkP W t := by
  have hk := h.tk t.toNat (by omega)
  have z1 := h.z.ready
  have z2 := h.z.c1
  have h2 := hk.core
  have h3 := hk.prio
  have r0 : 0 ≤ rkZ (W.tasks t.toNat) := by unfold rkZ; omega
  have r1 : rkZ (W.tasks t.toNat) < W.nReady := by unfold rkZ; omega
  exact ⟨h0, h1, r0, r1, h2.1, by omega, h3.1, by omega, by have := (h.rd (rkOf (W.tasks t.toNat)) (by unfold rkOf; omega)).1; omega⟩
theorem Szd.of {W W' : Wd} (h : Szd W) (e : W'.nKinds = W.nKinds ∧ W'.nCores = W.nCores ∧ W'.nRam = W.nRam ∧ W'.nSlots = W.nSlots ∧ W'.nTasks = W.nTasks ∧ W'.nLines = W.nLines ∧ W'.nBits = W.nBits ∧ W'.nReady = W.nReady ∧ W'.nTlbs = W.nTlbs ∧ W'.nDoms = W.nDoms ∧ W'.time = W.time) : Szd W' := by
  obtain ⟨e1, e2, e3, e4, e5, e6, e7, e8, e9, e10, e11⟩ := e
  obtain ⟨h1, h2, h3, h4, h5, h6, h7, h8, h9, h10, h11, h12, h13, h14, h15⟩ := h
  exact ⟨by rw [e1]; exact h1, by rw [e1]; exact h2, by rw [e2]; exact h3, by rw [e2]; exact h4, by rw [e3, e1]; exact h5, by rw [e4, e1]; exact h6, by rw [e5, e1]; exact h7, by rw [e6, e1]; exact h8, by rw [e7, e1]; exact h9, by rw [e8, e2]; exact h10, by rw [e9, e2]; exact h11, by rw [e10]; exact h12, by rw [e10]; exact h13, by rw [e11]; exact h14, by rw [e11]; exact h15⟩
theorem TkR.of {W W' : Wd} {t : Run} (h : TkR W t) (e1 : W'.nKinds = W.nKinds) (e2 : W'.nCores = W.nCores) : TkR W' t :=
  ⟨h.reg, h.pc, h.word, h.badge, h.st, h.prio, by rw [e2]; exact h.core, h.dom, by rw [e1]; exact h.node, by rw [e1]; exact h.space, by rw [e1]; exact h.helper, by rw [e1]; exact h.loc, by rw [e1]; exact h.owes⟩
end Go.Proofs.YtdjilaofmdhikaaGreatDoor
set_option linter.unusedVariables false
set_option linter.unusedSimpArgs false
set_option maxRecDepth 100000
namespace Go.Proofs.YtdjilaofmdhikaaGreatDoor
open Go.RowKit Go.Sy
def hnS (W : Wd) (t : Nat) (b g : Int) (i : Nat) : Run := updF W.tasks t { W.tasks t with r1 := b, r2 := g } i
def hanW (W : Wd) (t : Nat) (b g : Int) : Wd := { W with tasks := hnS W t b g }
def ofC (W : Wd) (t : Int) (j : Nat) : Int := bif W.cores j == t then -1 else W.cores j
def offW (W : Wd) (t : Int) : Wd := { W with cores := ofC W t }
def sdS (W : Wd) (t : Nat) (a s : Int) (i : Nat) : Run := updF W.tasks t { W.tasks t with st := s, loc := a } i
def sdN (W : Wd) (a i : Nat) : Nat := updF W.linesN a (W.linesN a + 1) i
def sdL (W : Wd) (t : Int) (a i k : Nat) : Int := updF W.lines a (apF (W.linesN a) (W.lines a) t) i k
def stdW (W : Wd) (t a s : Int) : Wd := { W with cores := ofC W t, tasks := sdS W t.toNat a s, linesN := sdN W a.toNat, lines := sdL W t a.toNat }
def frN (W : Wd) (a i : Nat) : Nat := updF W.linesN a (W.linesN a - 1) i
def frL (W : Wd) (a i k : Nat) : Int := updF W.lines a (fun q => W.lines a (q + 1)) i k
def frS (W : Wd) (t i : Nat) : Run := updF W.tasks t { W.tasks t with loc := -1 } i
def fntB (W : Wd) (a : Nat) (p : Int → Bool) : Bool := W.linesN a != 0 && p (W.tasks (W.lines a 0).toNat).st
def ofS (W : Wd) (t : Int) (i j : Nat) : Int := bif Nat.blt j i then ofC W t j else W.cores j
theorem ofS_lt {W : Wd} {t : Int} {i j : Nat} (h : j < i) : ofS W t i j = ofC W t j := by unfold ofS; rw [blt_t h]; rfl
theorem ofS_ge {W : Wd} {t : Int} {i j : Nat} (h : i ≤ j) : ofS W t i j = W.cores j := by unfold ofS; rw [blt_f h]; rfl
def an_of (W : Wd) (t : Int) : Ann where
  σ := Nat
  rt := []
  sh i := [(0, pt0 0), (4, .v (.int .i64 i))]
  mh i := [(7, .row 1 W.nCores (iF (ofS W t i)))]
  inv i := i ≤ W.nCores
  μ i := W.nCores - i
  init := 0
def frtS (W : Wd) (a : Nat) (b : Bool) (i : Nat) : Run := bif b then frS W (W.lines a 0).toNat i else W.tasks i
def frtN (W : Wd) (a : Nat) (b : Bool) (i : Nat) : Nat := bif b then frN W a i else W.linesN i
def frtL (W : Wd) (a : Nat) (b : Bool) (i k : Nat) : Int := bif b then frL W a i k else W.lines i k
def frtW (W : Wd) (a : Nat) (b : Bool) : Wd := { W with tasks := frtS W a b, linesN := frtN W a b, lines := frtL W a b }
def frtI (W : Wd) (a : Nat) (b : Bool) : Int := bif b then W.lines a 0 else -1
def an_fs (W : Wd) (a n : Nat) (ss : Nat → Int) : Ann where
  σ := Nat
  rt := []
  sh i := [(0, pt0 0), (30, .v (.int .i64 i))]
  mh _ := []
  inv i := i ≤ n ∧ ∀ j, j < i → ((W.tasks (W.lines a 0).toNat).st == ss j) = false
  μ i := n - i
  init := 0
structure OfP (W : Wd) (t : Int) : Prop where
  t0 : 0 ≤ t
  t1 : t < W.nTasks
  c0 : 0 ≤ (W.tasks t.toNat).core
  c1 : (W.tasks t.toNat).core < W.nCores
  u : ∀ j : Nat, j < W.nCores → W.cores j = t → (W.tasks t.toNat).core = j
structure LnP (W : Wd) (a : Int) : Prop where
  a0 : 0 ≤ a
  a1 : a < W.nLines
  n : W.linesN a.toNat ≤ 100000
  h : 0 < W.linesN a.toNat → 0 ≤ W.lines a.toNat 0 ∧ W.lines a.toNat 0 < W.nTasks
theorem sdL_eq {W : Wd} {t : Int} {a j k : Nat} (h : k < sdN W a j) : (bif j.beq a then bif k.blt (W.linesN a) then W.lines a k else [t].getD (k - W.linesN a) 0 else W.lines j k) = sdL W t a j k := by
  unfold sdL
  rcases Decidable.em (j = a) with e | e
  · subst e
    rw [Nat.beq_refl, updF_at]
    refine ap_one ?_
    unfold sdN at h; rw [updF_at] at h; exact h
  · rw [beq_ne e, updF_ne e]; rfl
theorem updF_cp {f : Nat → Run} {t i : Nat} {v : Run} (p : Run → Int) (h : p v = p (f t)) : p (updF f t v i) = p (f i) := by
  rcases Decidable.em (i = t) with e | e
  · subst e; rw [updF_at]; exact h
  · rw [updF_ne e]
theorem fn0 {W : Wd} {a : Nat} {p : Int → Bool} (h : W.linesN a = 0) : fntB W a p = false := by unfold fntB; rw [h]; rfl
theorem fn1 {W : Wd} {a : Nat} {p : Int → Bool} {b : Bool} (h : W.linesN a ≠ 0) (hb : p (W.tasks (W.lines a 0).toNat).st = b) : fntB W a p = b := by
  unfold fntB; rw [hb, show (W.linesN a != 0) = true from by simpa using h]; rfl
theorem len_0 {n : Nat} (h : ((n : Int) == 0) = true) : n = 0 := by have := eq_of_beq h; omega
theorem len_n {n : Nat} (h : ((n : Int) == 0) = false) : n ≠ 0 := by have := ne_of_beq_false h; omega
structure X_handed where
  (t b g : Int) (W : Wd)
def s_handed : Sy.Spec := ⟨X_handed, fun ⟨t, b, g, _⟩ => [.ptr 0 0 none 0 0, .v (.int .i64 t), .v (.int .i64 b), .v (.int .i64 g)], fun ⟨_, _, _, W⟩ => wMem W, fun ⟨t, _, _, W⟩ => 0 ≤ t ∧ t < W.nTasks, fun _ => .tp 0 (lsv []), fun ⟨t, b, g, W⟩ => wMem (hanW W t.toNat b g),
  fun args mem => match args with | [a0, a1, a2, a3] => some ⟨intD (a1), intD (a2), intD (a3), wMJD mem 0⟩ | _ => none⟩
def c_handed : Con := ⟨[true], s_handed.g, none⟩
def V_handed : X_handed → Prop := fun ⟨t, b, g, W⟩ => let a0:=W.nTasks;let b0:=0≤t∧t<(a0:Int);let c0:=0=0;let d0:=W.nRam;let e0:=d0=d0;let g0:=W.nKinds;let h0:=g0=g0;let k0:=W.nSlots;let l0:=k0=k0;let o0:=a0=a0;let q0:=W.nLines;let u0:=q0=q0;let v0:=W.nBits;let w0:=v0=v0;let x0:=W.nCores;let y0:=x0=x0;let z0:=W.nReady;let a1:=z0=z0;let b1:=W.nTlbs;let c1:=b1=b1;let d1:=W.nDoms;let e1:=d1=d1;let g1:=Wd.mk d0 W.ram g0 W.kinds k0 W.slots a0 (hnS W (Int.toNat t) b g) q0 W.linesN W.lines v0 W.bits x0 W.cores z0 W.readyN W.ready b1 W.tlbsN W.tlbs d1 W.doms W.time;b0∧((0:Int)≤1∧1<((8:Nat):Int))∧(∀h1:Nat,false=false)∧b0∧((0:Int)≤2∧2<((8:Nat):Int))∧(∀k1:Nat,false=false)∧True∧(((((((((((True∧c0∧e0)∧c0∧h0)∧c0∧l0)∧c0∧o0)∧c0∧u0)∧c0∧w0)∧c0∧y0)∧c0∧a1)∧c0∧c1)∧c0∧e1)∧W.time=W.time)∧(e0∧(∀l1:Nat,l1<d0→True∧W.ram l1=W.ram l1))∧(h0∧(∀o1:Nat,o1<g0→True∧W.kinds o1=W.kinds o1))∧(l0∧(∀q1:Nat,let u1:=W.slots q1;let v1:=g1.slots q1;q1<k0→((((((True∧u1.kind=v1.kind)∧u1.base=v1.base)∧u1.len=v1.len)∧u1.mark=v1.mark)∧u1.rights=v1.rights)∧u1.badge=v1.badge)∧u1.from_=v1.from_))∧(o0∧(∀w1:Nat,let x1:=W.tasks w1;let y1:=g1.tasks w1;w1<a0→(((((((((((((((((((True∧x1.r0=y1.r0)∧cond (Nat.beq w1 (0+Int.toNat t)) b x1.r1=y1.r1)∧cond (Nat.beq w1 (0+Int.toNat t)) g x1.r2=y1.r2)∧x1.r3=y1.r3)∧x1.r4=y1.r4)∧x1.r5=y1.r5)∧x1.r6=y1.r6)∧x1.r7=y1.r7)∧x1.pc=y1.pc)∧x1.st=y1.st)∧x1.prio=y1.prio)∧x1.node=y1.node)∧x1.space=y1.space)∧x1.helper=y1.helper)∧x1.loc=y1.loc)∧x1.word=y1.word)∧x1.badge=y1.badge)∧x1.owes=y1.owes)∧x1.core=y1.core)∧x1.dom=y1.dom))∧(u0∧(∀z1:Nat,
    let a2:=W.linesN z1;z1<q0→True∧a2=a2∧(∀b2:Nat,b2<a2→True∧W.lines z1 b2=W.lines z1 b2)))∧(w0∧(∀c2:Nat,c2<v0→True∧W.bits c2=W.bits c2))∧(y0∧(∀d2:Nat,d2<x0→True∧W.cores d2=W.cores d2))∧(a1∧(∀e2:Nat,let g2:=W.readyN e2;e2<z0→True∧g2=g2∧(∀h2:Nat,h2<g2→True∧W.ready e2 h2=W.ready e2 h2)))∧(c1∧(∀k2:Nat,let l2:=W.tlbsN k2;k2<b1→True∧l2=l2∧(∀o2:Nat,let q2:=W.tlbs k2 o2;let u2:=g1.tlbs k2 o2;o2<l2→(((True∧q2.sp=u2.sp)∧q2.pg=u2.pg)∧q2.fr=u2.fr)∧q2.wr=u2.wr)))∧(e1∧(∀v2:Nat,v2<d1→True∧W.doms v2=W.doms v2))∧True
set_option maxHeartbeats 1000000 in
theorem ok_handed : FnOK Tryz.prog glN 104 c_handed := ok_of .nil false Tryz.call104 Tryz.func104 (fun _ => []) (V := V_handed) (fun _ => by kernel_rfl) fun ⟨t, b, g, W⟩ hp => by
  dsimp only [s_handed] at hp
  dsimp only [V_handed, tn, w64]
  simp only [std, stb, eq_self, implies_true, Bool.cond_self]
  try simp only [wd_eta]
  refine ⟨hp, ⟨by decide, by decide⟩, hp, ⟨by decide, by decide⟩, fun j _ => ?_⟩
  rcases Decidable.em (j = t.toNat) with h | h
  · subst h; simp only [Nat.beq_refl, cond_true]; unfold hnS; rw [updF_at]; exact ⟨⟨⟨⟨⟨⟨⟨⟨⟨⟨⟨⟨⟨⟨⟨⟨⟨⟨⟨rfl, rfl⟩, rfl⟩, rfl⟩, rfl⟩, rfl⟩, rfl⟩, rfl⟩, rfl⟩, rfl⟩, rfl⟩, rfl⟩, rfl⟩, rfl⟩, rfl⟩, rfl⟩, rfl⟩, rfl⟩, rfl⟩, rfl⟩
  · simp only [beq_ne h, cond_false]; unfold hnS; rw [updF_ne h]; exact run20 rfl
structure X_hand where
  (t b g : Int) (W : Wd)
def s_hand : Sy.Spec := ⟨X_hand, fun ⟨t, b, g, _⟩ => [.ptr 0 0 none 0 0, .v (.int .i64 t), .v (.int .i64 b), .v (.int .i64 g)], fun ⟨_, _, _, W⟩ => wMem W, fun ⟨t, _, _, W⟩ => 0 ≤ t ∧ t < W.nTasks, fun _ => .tp 0 (lsv []), fun ⟨t, b, g, W⟩ => wMem (hanW W t.toNat b g),
  fun args mem => match args with | [a0, a1, a2, a3] => some ⟨intD (a1), intD (a2), intD (a3), wMJD mem 0⟩ | _ => none⟩
def c_hand : Con := ⟨[true], s_hand.g, none⟩
def V_hand : X_hand → Prop := fun ⟨t, b, g, W⟩ => let a0:=W.nTasks;let b0:=0≤t∧t<(a0:Int);let c0:=0=0;let d0:=W.nRam;let e0:=d0=d0;let g0:=W.nKinds;let h0:=g0=g0;let k0:=W.nSlots;let l0:=k0=k0;let o0:=a0=a0;let q0:=W.nLines;let u0:=q0=q0;let v0:=W.nBits;let w0:=v0=v0;let x0:=W.nCores;let y0:=x0=x0;let z0:=W.nReady;let a1:=z0=z0;let b1:=W.nTlbs;let c1:=b1=b1;let d1:=W.nDoms;let e1:=d1=d1;let g1:=Wd.mk d0 W.ram g0 W.kinds k0 W.slots a0 (hnS W (Int.toNat t) b g) q0 W.linesN W.lines v0 W.bits x0 W.cores z0 W.readyN W.ready b1 W.tlbsN W.tlbs d1 W.doms W.time;tn 12 (b0∧True∧b0∧True∧((0:Int)≤1∧1<((8:Nat):Int))∧(∀h1:Nat,false=false)∧((0:Int)≤2∧2<((8:Nat):Int))∧(∀k1:Nat,false=false)∧True∧(((((((((((True∧c0∧e0)∧c0∧h0)∧c0∧l0)∧c0∧o0)∧c0∧u0)∧c0∧w0)∧c0∧y0)∧c0∧a1)∧c0∧c1)∧c0∧e1)∧W.time=W.time)∧(e0∧(∀l1:Nat,l1<d0→True∧W.ram l1=W.ram l1))∧(h0∧(∀o1:Nat,o1<g0→True∧W.kinds o1=W.kinds o1))∧(l0∧(∀q1:Nat,let u1:=W.slots q1;let v1:=g1.slots q1;q1<k0→((((((True∧u1.kind=v1.kind)∧u1.base=v1.base)∧u1.len=v1.len)∧u1.mark=v1.mark)∧u1.rights=v1.rights)∧u1.badge=v1.badge)∧u1.from_=v1.from_))∧(o0∧(∀w1:Nat,let x1:=W.tasks w1;let y1:=g1.tasks w1;let z1:=Nat.beq w1 (0+Int.toNat t);w1<a0→(((((((((((((((((((True∧x1.r0=y1.r0)∧cond z1 b x1.r1=y1.r1)∧cond z1 g x1.r2=y1.r2)∧x1.r3=y1.r3)∧x1.r4=y1.r4)∧x1.r5=y1.r5)∧x1.r6=y1.r6)∧x1.r7=y1.r7)∧x1.pc=y1.pc)∧x1.st=y1.st)∧x1.prio=y1.prio)∧x1.node=y1.node)∧x1.space=y1.space)∧x1.helper=y1.helper)∧x1.loc=y1.loc)∧x1.word=y1.word)∧x1.badge=y1.badge)∧x1.owes=y1.owes)∧x1.core=y1.core)∧x1.dom=y1.dom))∧(u0∧(∀a2:Nat,
    let b2:=W.linesN a2;a2<q0→True∧b2=b2∧(∀c2:Nat,c2<b2→True∧W.lines a2 c2=W.lines a2 c2)))∧(w0∧(∀d2:Nat,d2<v0→True∧W.bits d2=W.bits d2))∧(y0∧(∀e2:Nat,e2<x0→True∧W.cores e2=W.cores e2))∧(a1∧(∀g2:Nat,let h2:=W.readyN g2;g2<z0→True∧h2=h2∧(∀k2:Nat,k2<h2→True∧W.ready g2 k2=W.ready g2 k2)))∧(c1∧(∀l2:Nat,let o2:=W.tlbsN l2;l2<b1→True∧o2=o2∧(∀q2:Nat,let u2:=W.tlbs l2 q2;let v2:=g1.tlbs l2 q2;q2<o2→(((True∧u2.sp=v2.sp)∧u2.pg=v2.pg)∧u2.fr=v2.fr)∧u2.wr=v2.wr)))∧(e1∧(∀w2:Nat,w2<d1→True∧W.doms w2=W.doms w2))∧True)
set_option maxHeartbeats 1000000 in
theorem ok_hand : FnOK Tryz.prog glN 152 c_hand := ok_of .nil false Tryz.call152 Tryz.func152 (fun _ => []) (V := V_hand) (fun _ => by kernel_rfl) fun ⟨t, b, g, W⟩ hp => by
  dsimp only [s_hand] at hp
  dsimp only [V_hand, tn, w64]
  simp only [std, stb, eq_self, implies_true, Bool.cond_self]
  try simp only [wd_eta]
  refine ⟨hp, hp, ⟨by decide, by decide⟩, ⟨by decide, by decide⟩, fun j _ => ?_⟩
  rcases Decidable.em (j = t.toNat) with h | h
  · subst h; simp only [Nat.beq_refl, cond_true]; unfold hnS; rw [updF_at]; exact ⟨⟨⟨⟨⟨⟨⟨⟨⟨⟨⟨⟨⟨⟨⟨⟨⟨⟨⟨rfl, rfl⟩, rfl⟩, rfl⟩, rfl⟩, rfl⟩, rfl⟩, rfl⟩, rfl⟩, rfl⟩, rfl⟩, rfl⟩, rfl⟩, rfl⟩, rfl⟩, rfl⟩, rfl⟩, rfl⟩, rfl⟩, rfl⟩
  · simp only [beq_ne h, cond_false]; unfold hnS; rw [updF_ne h]; exact run20 rfl
structure X_offP where
  (t : Int) (W : Wd)
def s_offP : Sy.Spec := ⟨X_offP, fun ⟨t, _⟩ => [.ptr 0 0 none 0 0, .v (.int .i64 t)], fun ⟨_, W⟩ => wMem W, fun ⟨t, W⟩ => OfP W t, fun _ => .tp 0 (lsv []), fun ⟨t, W⟩ => wMem (offW W t),
  fun args mem => match args with | [a0, a1] => some ⟨intD (a1), wMJD mem 0⟩ | _ => none⟩
def c_offP : Con := ⟨[true], s_offP.g, none⟩
def V_offP : X_offP → Prop := fun ⟨t, W⟩ => let a0:=W.nTasks;let b0:=(W.tasks (0+Int.toNat t)).core;let c0:=W.nCores;let d0:=0≤b0∧b0<(c0:Int);let e0:=0+Int.toNat b0;let g0:=W.cores e0==t;let h0:=0=0;let k0:=W.nRam;let l0:=k0=k0;let o0:=W.nKinds;let q0:=o0=o0;let u0:=W.nSlots;let v0:=u0=u0;let w0:=a0=a0;let x0:=W.nLines;let y0:=x0=x0;let z0:=W.nBits;let a1:=z0=z0;let b1:=c0=c0;let c1:=W.nReady;let d1:=c1=c1;let e1:=W.nTlbs;let g1:=e1=e1;let h1:=W.nDoms;let k1:=h1=h1;let l1:=((((((((((True∧h0∧l0)∧h0∧q0)∧h0∧v0)∧h0∧w0)∧h0∧y0)∧h0∧a1)∧h0∧b1)∧h0∧d1)∧h0∧g1)∧h0∧k1)∧W.time=W.time;let o1:=l0∧(∀q1:Nat,q1<k0→True∧W.ram q1=W.ram q1);let u1:=q0∧(∀v1:Nat,v1<o0→True∧W.kinds v1=W.kinds v1);let w1:=Wd.mk k0 W.ram o0 W.kinds u0 W.slots a0 W.tasks x0 W.linesN W.lines z0 W.bits c0 (ofC W t) c1 W.readyN W.ready e1 W.tlbsN W.tlbs h1 W.doms W.time;let x1:=v0∧(∀y1:Nat,let z1:=W.slots y1;let a2:=w1.slots y1;y1<u0→((((((True∧z1.kind=a2.kind)∧z1.base=a2.base)∧z1.len=a2.len)∧z1.mark=a2.mark)∧z1.rights=a2.rights)∧z1.badge=a2.badge)∧z1.from_=a2.from_);let b2:=w0∧(∀c2:Nat,let d2:=W.tasks c2;let e2:=w1.tasks c2;c2<a0→(((((((((((((((((((True∧d2.r0=e2.r0)∧d2.r1=e2.r1)∧d2.r2=e2.r2)∧d2.r3=e2.r3)∧d2.r4=e2.r4)∧d2.r5=e2.r5)∧d2.r6=e2.r6)∧d2.r7=e2.r7)∧d2.pc=e2.pc)∧d2.st=e2.st)∧d2.prio=e2.prio)∧d2.node=e2.node)∧d2.space=e2.space)∧d2.helper=e2.helper)∧d2.loc=e2.loc)∧d2.word=e2.word)∧d2.badge=e2.badge)∧d2.owes=e2.owes)∧d2.core=e2.core)∧d2.dom=e2.dom);let g2:=y0∧(∀h2:Nat,let k2:=W.linesN h2;h2<x0→True∧k2=k2∧(∀l2:Nat,l2<k2→True∧W.lines h2 l2=W.lines h2 l2));
    let o2:=a1∧(∀q2:Nat,q2<z0→True∧W.bits q2=W.bits q2);let u2:=(d1∧(∀v2:Nat,let w2:=W.readyN v2;v2<c1→True∧w2=w2∧(∀x2:Nat,x2<w2→True∧W.ready v2 x2=W.ready v2 x2)))∧(g1∧(∀y2:Nat,let z2:=W.tlbsN y2;y2<e1→True∧z2=z2∧(∀a3:Nat,let b3:=W.tlbs y2 a3;let c3:=w1.tlbs y2 a3;a3<z2→(((True∧b3.sp=c3.sp)∧b3.pg=c3.pg)∧b3.fr=c3.fr)∧b3.wr=c3.wr)))∧(k1∧(∀d3:Nat,d3<h1→True∧W.doms d3=W.doms d3))∧True;(0≤t∧t<(a0:Int))∧d0∧(g0=true→d0∧(∀e3:Nat,false=false)∧True∧l1∧o1∧u1∧x1∧b2∧g2∧o2∧(b1∧(∀g3:Nat,g3<c0→True∧cond (Nat.beq g3 e0) (-1) (W.cores g3)=ofC W t g3))∧u2)∧(g0=false→True∧l1∧o1∧u1∧x1∧b2∧g2∧o2∧(b1∧(∀h3:Nat,h3<c0→True∧W.cores h3=ofC W t h3))∧u2)
theorem ok_offP : FnOK Tryz.prog glN 154 c_offP := ok_of .nil false Tryz.call154 Tryz.func154 (fun _ => []) (V := V_offP) (fun _ => by kernel_rfl) fun ⟨t, W⟩ hp => by
  dsimp only [s_offP] at hp
  dsimp only [V_offP, tn, w64]
  simp only [std, stb, eq_self, implies_true, Bool.cond_self]
  try simp only [wd_eta]
  obtain ⟨t0, t1, c0, c1, hu⟩ := hp
  have hc := And.intro c0 c1
  refine ⟨⟨t0, t1⟩, hc, fun h => ⟨hc, fun j hj => ?_⟩, fun h j hj => ?_⟩
  · have h := eq_of_beq h
    unfold ofC
    rcases Decidable.em (j = (W.tasks t.toNat).core.toNat) with e | e
    · subst e; rw [Nat.beq_refl, h]; simp
    · rw [beq_ne e]
      cases hb : W.cores j == t with
      | false => rfl
      | true => exact absurd (hu j hj (eq_of_beq hb)) (by omega)
  · unfold ofC
    cases hb : W.cores j == t with
    | false => rfl
    | true =>
      have := hu j hj (eq_of_beq hb)
      have e : j = (W.tasks t.toNat).core.toNat := by omega
      rw [← e, hb] at h; cases h
structure X_offR where
  (t : Int) (W : Wd)
def s_offR : Sy.Spec := ⟨X_offR, fun ⟨t, _⟩ => [.ptr 0 0 none 0 0, .v (.int .i64 t)], fun ⟨_, W⟩ => wMem W, fun ⟨_, W⟩ => W.nCores ≤ 100000, fun _ => .tp 0 (lsv []), fun ⟨t, W⟩ => wMem (offW W t),
  fun args mem => match args with | [a0, a1] => some ⟨intD (a1), wMJD mem 0⟩ | _ => none⟩
def c_offR : Con := ⟨[true], s_offR.g, none⟩
def V_offR : X_offR → Prop := fun ⟨t, W⟩ => let a0:=SV.ptr 0 0 none 0 0;let b0:=0=0;let c0:=W.nRam;let d0:=c0=c0;let e0:=W.nKinds;let g0:=e0=e0;let h0:=W.nSlots;let k0:=h0=h0;let l0:=W.nTasks;let o0:=l0=l0;let q0:=W.nLines;let u0:=q0=q0;let v0:=W.nBits;let w0:=v0=v0;let x0:=W.nCores;let y0:=x0=x0;let z0:=W.nReady;let a1:=z0=z0;let b1:=W.nTlbs;let c1:=b1=b1;let d1:=W.nDoms;let e1:=d1=d1;let g1:=W.time=W.time;let h1:=d0∧(∀k1:Nat,k1<c0→True∧W.ram k1=W.ram k1);let l1:=g0∧(∀o1:Nat,o1<e0→True∧W.kinds o1=W.kinds o1);let q1:=k0∧(∀u1:Nat,let v1:=W.slots u1;let w1:=v1.kind;let x1:=v1.base;let y1:=v1.len;let z1:=v1.mark;let a2:=v1.rights;let b2:=v1.badge;let c2:=v1.from_;u1<h0→((((((True∧w1=w1)∧x1=x1)∧y1=y1)∧z1=z1)∧a2=a2)∧b2=b2)∧c2=c2);let d2:=o0∧(∀e2:Nat,let g2:=W.tasks e2;let h2:=g2.prio;let k2:=g2.node;let l2:=g2.space;let o2:=g2.helper;let q2:=g2.loc;let u2:=g2.word;let v2:=g2.badge;let w2:=g2.owes;let x2:=g2.core;let y2:=g2.dom;e2<l0→(((((((((((((((((((True∧g2.r0=g2.r0)∧g2.r1=g2.r1)∧g2.r2=g2.r2)∧g2.r3=g2.r3)∧g2.r4=g2.r4)∧g2.r5=g2.r5)∧g2.r6=g2.r6)∧g2.r7=g2.r7)∧g2.pc=g2.pc)∧g2.st=g2.st)∧h2=h2)∧k2=k2)∧l2=l2)∧o2=o2)∧q2=q2)∧u2=u2)∧v2=v2)∧w2=w2)∧x2=x2)∧y2=y2);let z2:=u0∧(∀a3:Nat,let b3:=W.linesN a3;a3<q0→True∧b3=b3∧(∀c3:Nat,c3<b3→True∧W.lines a3 c3=W.lines a3 c3));let d3:=w0∧(∀e3:Nat,e3<v0→True∧W.bits e3=W.bits e3);let g3:=a1∧(∀h3:Nat,let k3:=W.readyN h3;h3<z0→True∧k3=k3∧(∀l3:Nat,l3<k3→True∧W.ready h3 l3=W.ready h3 l3));let o3:=(e1∧(∀q3:Nat,q3<d1→True∧W.doms q3=W.doms q3))∧True;
    let u3:=g3∧(c1∧(∀v3:Nat,let w3:=W.tlbsN v3;v3<b1→True∧w3=w3∧(∀x3:Nat,let y3:=W.tlbs v3 x3;let z3:=y3.sp;let a4:=y3.pg;let b4:=y3.fr;let c4:=y3.wr;x3<w3→(((True∧z3=z3)∧a4=a4)∧b4=b4)∧c4=c4)))∧o3;let d4:=(x0:Int);let e4:=SV.ptr 0 0 none 0 0=a0;let g4:=0=0;let h4:=((((((((((True∧g4∧d0)∧g4∧g0)∧g4∧k0)∧g4∧o0)∧g4∧u0)∧g4∧w0)∧g4∧y0)∧g4∧a1)∧g4∧c1)∧g4∧e1)∧g1;let k4:=Wd.mk c0 W.ram e0 W.kinds h0 W.slots l0 W.tasks q0 W.linesN W.lines v0 W.bits x0 (ofC W t) z0 W.readyN W.ready b1 W.tlbsN W.tlbs d1 W.doms W.time;a0=a0∧0=((0:Nat):Int)∧((((((((((((True∧b0∧d0)∧b0∧g0)∧b0∧k0)∧b0∧o0)∧b0∧u0)∧b0∧w0)∧b0∧y0)∧b0∧a1)∧b0∧c1)∧b0∧e1)∧g1)∧h1∧l1∧q1∧d2∧z2∧d3∧(y0∧(∀l4:Nat,l4<x0→True∧W.cores l4=ofS W t 0 l4))∧u3)∧0≤x0∧(∀o4:Nat,let q4:=(o4:Int);let u4:=decide (q4<d4);let v4:=0≤q4∧q4<d4;let w4:=0+Int.toNat q4;let x4:=ofS W t o4 w4==t;let y4:Int:=q4+1;let z4:=w64 y4=y4;o4≤x0→d4≤9223372036854775807→(u4=true→v4∧(x4=true→v4∧(∀a5:Nat,false=false)∧z4∧(∃b5:Nat,e4∧y4=(b5:Int)∧(h4∧h1∧l1∧q1∧d2∧z2∧d3∧(y0∧(∀c5:Nat,c5<x0→True∧cond (Nat.beq c5 w4) (-1) (ofS W t o4 c5)=ofS W t b5 c5))∧u3)∧b5≤x0∧x0-b5<x0-o4))∧(x4=false→z4∧(∃d5:Nat,e4∧y4=(d5:Int)∧(h4∧h1∧l1∧q1∧d2∧z2∧d3∧(y0∧(∀e5:Nat,e5<x0→True∧ofS W t o4 e5=ofS W t d5 e5))∧u3)∧d5≤x0∧x0-d5<x0-o4)))∧(u4=false→True∧h4∧h1∧l1∧(k0∧(∀g5:Nat,let h5:=W.slots g5;let k5:=k4.slots g5;g5<h0→((((((True∧h5.kind=k5.kind)∧h5.base=k5.base)∧h5.len=k5.len)∧h5.mark=k5.mark)∧h5.rights=k5.rights)∧h5.badge=k5.badge)∧h5.from_=k5.from_))∧(o0∧(∀l5:Nat,let o5:=W.tasks l5;let q5:=k4.tasks l5;l5<l0→
    (((((((((((((((((((True∧o5.r0=q5.r0)∧o5.r1=q5.r1)∧o5.r2=q5.r2)∧o5.r3=q5.r3)∧o5.r4=q5.r4)∧o5.r5=q5.r5)∧o5.r6=q5.r6)∧o5.r7=q5.r7)∧o5.pc=q5.pc)∧o5.st=q5.st)∧o5.prio=q5.prio)∧o5.node=q5.node)∧o5.space=q5.space)∧o5.helper=q5.helper)∧o5.loc=q5.loc)∧o5.word=q5.word)∧o5.badge=q5.badge)∧o5.owes=q5.owes)∧o5.core=q5.core)∧o5.dom=q5.dom))∧z2∧d3∧(y0∧(∀u5:Nat,u5<x0→True∧ofS W t o4 u5=ofC W t u5))∧g3∧(c1∧(∀v5:Nat,let w5:=W.tlbsN v5;v5<b1→True∧w5=w5∧(∀x5:Nat,let y5:=W.tlbs v5 x5;let z5:=k4.tlbs v5 x5;x5<w5→(((True∧y5.sp=z5.sp)∧y5.pg=z5.pg)∧y5.fr=z5.fr)∧y5.wr=z5.wr)))∧o3))
theorem ok_offR : FnOK Tryz.prog glN 105 c_offR := ok_of .nil false Tryz.call105 Tryz.func105 (fun ⟨t, W⟩ => [.inv (an_of W t)]) (V := V_offR) (fun _ => by kernel_rfl) fun ⟨t, W⟩ hp => by
  dsimp only [s_offR] at hp
  dsimp only [V_offR, tn, w64]
  simp only [std, stb, eq_self, implies_true, Bool.cond_self]
  try simp only [wd_eta]
  refine ⟨fun j _ => (ofS_ge (Nat.zero_le _)).symm, fun s hs _ => ⟨fun h => ?_, fun h j hj => ?_⟩⟩
  · have hlt := lt_of_dec h
    refine ⟨by omega, fun h1 => ⟨by omega, wr_in (by omega) (by omega), s + 1, by omega, fun j _ => ?_, by omega, by omega⟩, fun h1 => ⟨wr_in (by omega) (by omega), s + 1, by omega, fun j _ => ?_, by omega, by omega⟩⟩
    · rw [ofS_ge (Nat.le_refl _)] at h1
      rcases Nat.lt_trichotomy j s with e | e | e
      · rw [beq_ne (by omega), ofS_lt e, ofS_lt (by omega : j < s + 1)]; rfl
      · subst e; rw [Nat.beq_refl, ofS_lt (Nat.lt_succ_self _)]; unfold ofC; rw [h1]; rfl
      · rw [beq_ne (by omega), ofS_ge (by omega), ofS_ge (by omega : s + 1 ≤ j)]; rfl
    · rw [ofS_ge (Nat.le_refl _)] at h1
      rcases Nat.lt_trichotomy j s with e | e | e
      · rw [ofS_lt e, ofS_lt (by omega : j < s + 1)]
      · subst e; rw [ofS_ge (Nat.le_refl _), ofS_lt (Nat.lt_succ_self _)]; unfold ofC; rw [h1]; rfl
      · rw [ofS_ge (by omega), ofS_ge (by omega : s + 1 ≤ j)]
  · have hge := ge_of_dec h
    exact ofS_lt (by omega)
structure X_stands where
  (t a s : Int) (W : Wd)
def s_stands : Sy.Spec := ⟨X_stands, fun ⟨t, a, s, _⟩ => [.ptr 0 0 none 0 0, .v (.int .i64 t), .v (.int .i64 a), .v (.int .i64 s)], fun ⟨_, _, _, W⟩ => wMem W, fun ⟨t, a, _, W⟩ => 0 ≤ t ∧ t < W.nTasks ∧ LnP W a ∧ W.nCores ≤ 100000, fun _ => .tp 0 (lsv []), fun ⟨t, a, s, W⟩ => wMem (stdW W t a s),
  fun args mem => match args with | [a0, a1, a2, a3] => some ⟨intD (a1), intD (a2), intD (a3), wMJD mem 0⟩ | _ => none⟩
def c_stands : Con := ⟨[true], s_stands.g, none⟩
def V_stands : X_stands → Prop := fun ⟨t, a, s, W⟩ => let a0:=SV.ptr 0 0 none 0 0;let b0:=0=0;let c0:=W.nRam;let d0:=c0=c0;let e0:=W.nKinds;let g0:=e0=e0;let h0:=W.nSlots;let k0:=h0=h0;let l0:=W.nTasks;let o0:=l0=l0;let q0:=W.nLines;let u0:=q0=q0;let v0:=W.nBits;let w0:=v0=v0;let x0:=W.nCores;let y0:=x0=x0;let z0:=W.nReady;let a1:=z0=z0;let b1:=W.nTlbs;let c1:=b1=b1;let d1:=W.nDoms;let e1:=d1=d1;let g1:=W.time=W.time;let h1:=d0∧(∀k1:Nat,k1<c0→True∧W.ram k1=W.ram k1);let l1:=g0∧(∀o1:Nat,o1<e0→True∧W.kinds o1=W.kinds o1);let q1:=w0∧(∀u1:Nat,u1<v0→True∧W.bits u1=W.bits u1);let v1:=a1∧(∀w1:Nat,let x1:=W.readyN w1;w1<z0→True∧x1=x1∧(∀y1:Nat,y1<x1→True∧W.ready w1 y1=W.ready w1 y1));let z1:=(e1∧(∀a2:Nat,a2<d1→True∧W.doms a2=W.doms a2))∧True;let b2:=0≤t∧t<(l0:Int);let c2:=0≤a∧a<(q0:Int);let d2:=Int.toNat a;let e2:=0+d2;let g2:=W.linesN e2;let h2:=true=true;let k2:=True∧h2;let l2:=g2+1;let o2:=0=0;let q2:=Wd.mk c0 W.ram e0 W.kinds h0 W.slots l0 (sdS W (Int.toNat t) a s) q0 (sdN W d2) (sdL W t d2) v0 W.bits x0 (ofC W t) z0 W.readyN W.ready b1 W.tlbsN W.tlbs d1 W.doms W.time;((a0=a0∧t=t∧True)∧((((((((((((True∧b0∧d0)∧b0∧g0)∧b0∧k0)∧b0∧o0)∧b0∧u0)∧b0∧w0)∧b0∧y0)∧b0∧a1)∧b0∧c1)∧b0∧e1)∧g1)∧h1∧l1∧(k0∧(∀u2:Nat,let v2:=W.slots u2;let w2:=v2.kind;let x2:=v2.base;let y2:=v2.len;let z2:=v2.mark;let a3:=v2.rights;let b3:=v2.badge;let c3:=v2.from_;u2<h0→((((((True∧w2=w2)∧x2=x2)∧y2=y2)∧z2=z2)∧a3=a3)∧b3=b3)∧c3=c3))∧(o0∧(∀d3:Nat,let e3:=W.tasks d3;let g3:=e3.prio;let h3:=e3.node;let k3:=e3.space;let l3:=e3.helper;let o3:=e3.loc;let q3:=e3.word;
    let u3:=e3.badge;let v3:=e3.owes;let w3:=e3.core;let x3:=e3.dom;d3<l0→(((((((((((((((((((True∧e3.r0=e3.r0)∧e3.r1=e3.r1)∧e3.r2=e3.r2)∧e3.r3=e3.r3)∧e3.r4=e3.r4)∧e3.r5=e3.r5)∧e3.r6=e3.r6)∧e3.r7=e3.r7)∧e3.pc=e3.pc)∧e3.st=e3.st)∧g3=g3)∧h3=h3)∧k3=k3)∧l3=l3)∧o3=o3)∧q3=q3)∧u3=u3)∧v3=v3)∧w3=w3)∧x3=x3))∧(u0∧(∀y3:Nat,let z3:=W.linesN y3;y3<q0→True∧z3=z3∧(∀a4:Nat,a4<z3→True∧W.lines y3 a4=W.lines y3 a4)))∧q1∧(y0∧(∀b4:Nat,b4<x0→True∧W.cores b4=W.cores b4))∧v1∧(c1∧(∀c4:Nat,let d4:=W.tlbsN c4;c4<b1→True∧d4=d4∧(∀e4:Nat,let g4:=W.tlbs c4 e4;let h4:=g4.sp;let k4:=g4.pg;let l4:=g4.fr;let o4:=g4.wr;e4<d4→(((True∧h4=h4)∧k4=k4)∧l4=l4)∧o4=o4)))∧z1)∧s_offR.match_1 (fun q4:X_offR=>Prop) (X_offR.mk t W) (fun u4:Int=>fun v4:Wd=>v4.nCores≤100000))∧b2∧(∀w4:Nat,false=false)∧b2∧(∀x4:Nat,false=false)∧tn 11 (c2∧True∧(g2*8≤140737488355328∧(∀y4:Nat,h2))∧tn 2 (tn 2 True∧(((∀z4:Nat,k2)∧(∀a5:Nat,k2)∧True)∧(g2+1)*8≤140737488355328∧(∀b5:Nat,h2))∧(l2*8≤140737488355328∧(∀c5:Nat,h2))∧c2∧(∀d5:Nat,Nat.beq 1 1=true)∧True∧(((((((((((True∧o2∧d0)∧o2∧g0)∧o2∧k0)∧o2∧o0)∧o2∧u0)∧o2∧w0)∧o2∧y0)∧o2∧a1)∧o2∧c1)∧o2∧e1)∧g1)∧h1∧l1∧(k0∧(∀e5:Nat,let g5:=W.slots e5;let h5:=q2.slots e5;e5<h0→((((((True∧g5.kind=h5.kind)∧g5.base=h5.base)∧g5.len=h5.len)∧g5.mark=h5.mark)∧g5.rights=h5.rights)∧g5.badge=h5.badge)∧g5.from_=h5.from_))∧(o0∧(∀k5:Nat,let l5:=W.tasks k5;let o5:=q2.tasks k5;let q5:=Nat.beq k5 (0+Int.toNat t);k5<l0→(((((((((((((((((((True∧l5.r0=o5.r0)∧l5.r1=o5.r1)∧l5.r2=o5.r2)∧l5.r3=o5.r3)∧l5.r4=o5.r4)∧l5.r5=o5.r5)∧l5.r6=o5.r6)∧
    l5.r7=o5.r7)∧l5.pc=o5.pc)∧cond q5 s l5.st=o5.st)∧l5.prio=o5.prio)∧l5.node=o5.node)∧l5.space=o5.space)∧l5.helper=o5.helper)∧cond q5 a l5.loc=o5.loc)∧l5.word=o5.word)∧l5.badge=o5.badge)∧l5.owes=o5.owes)∧l5.core=o5.core)∧l5.dom=o5.dom))∧(u0∧(∀u5:Nat,u5<q0→True∧cond (Nat.beq u5 e2) l2 (W.linesN u5)=sdN W d2 u5∧(∀v5:Nat,v5<sdN W d2 u5→True∧cond (Nat.beq u5 e2) (cond (Nat.blt v5 g2) (W.lines e2 (0+(0+v5))) (List.getD [t] (0+(v5-g2)) 0)) (W.lines u5 v5)=sdL W t d2 u5 v5)))∧q1∧(y0∧(∀w5:Nat,w5<x0→True∧ofC W t w5=ofC W t w5))∧v1∧(c1∧(∀x5:Nat,let y5:=W.tlbsN x5;x5<b1→True∧y5=y5∧(∀z5:Nat,let a6:=W.tlbs x5 z5;let b6:=q2.tlbs x5 z5;z5<y5→(((True∧a6.sp=b6.sp)∧a6.pg=b6.pg)∧a6.fr=b6.fr)∧a6.wr=b6.wr)))∧z1))
set_option maxHeartbeats 1000000 in
theorem ok_stands : FnOK Tryz.prog glN 103 c_stands := ok_of (.cons ok_offR .nil) false Tryz.call103 Tryz.func103 (fun _ => []) (V := V_stands) (fun _ => by kernel_rfl) fun ⟨t, a, s, W⟩ hp => by
  dsimp only [s_stands] at hp
  dsimp only [V_stands, tn, w64]
  simp only [std, stb, eq_self, implies_true, Bool.cond_self]
  try simp only [wd_eta]
  obtain ⟨t0, t1, hl, hc⟩ := hp
  obtain ⟨a0, a1, hn, _⟩ := hl
  refine ⟨hc, ⟨t0, t1⟩, ⟨t0, t1⟩, ⟨a0, a1⟩, by omega, by omega, by omega, ⟨a0, a1⟩, fun _ => rfl, fun j _ => ?_, fun j _ => ⟨rfl, fun k hk => sdL_eq hk⟩⟩
  rcases Decidable.em (j = t.toNat) with h | h
  · subst h; simp only [Nat.beq_refl, cond_true]; unfold sdS; rw [updF_at]; exact ⟨⟨⟨⟨⟨⟨⟨⟨⟨⟨⟨⟨⟨⟨⟨⟨⟨⟨⟨rfl, rfl⟩, rfl⟩, rfl⟩, rfl⟩, rfl⟩, rfl⟩, rfl⟩, rfl⟩, rfl⟩, rfl⟩, rfl⟩, rfl⟩, rfl⟩, rfl⟩, rfl⟩, rfl⟩, rfl⟩, rfl⟩, rfl⟩
  · simp only [beq_ne h, cond_false]; unfold sdS; rw [updF_ne h]; exact run20 rfl
structure X_wait_ where
  (t a s : Int) (W : Wd)
def s_wait_ : Sy.Spec := ⟨X_wait_, fun ⟨t, a, s, _⟩ => [.ptr 0 0 none 0 0, .v (.int .i64 t), .v (.int .i64 a), .v (.int .i64 s)], fun ⟨_, _, _, W⟩ => wMem W, fun ⟨t, a, _, W⟩ => OfP W t ∧ LnP W a, fun _ => .tp 0 (lsv []), fun ⟨t, a, s, W⟩ => wMem (stdW W t a s),
  fun args mem => match args with | [a0, a1, a2, a3] => some ⟨intD (a1), intD (a2), intD (a3), wMJD mem 0⟩ | _ => none⟩
def c_wait_ : Con := ⟨[true], s_wait_.g, none⟩
def V_wait_ : X_wait_ → Prop := fun ⟨t, a, s, W⟩ => let a0:=SV.ptr 0 0 none 0 0;let b0:=0=0;let c0:=W.nRam;let d0:=c0=c0;let e0:=W.nKinds;let g0:=e0=e0;let h0:=W.nSlots;let k0:=h0=h0;let l0:=W.nTasks;let o0:=l0=l0;let q0:=W.nLines;let u0:=q0=q0;let v0:=W.nBits;let w0:=v0=v0;let x0:=W.nCores;let y0:=x0=x0;let z0:=W.nReady;let a1:=z0=z0;let b1:=W.nTlbs;let c1:=b1=b1;let d1:=W.nDoms;let e1:=d1=d1;let g1:=W.time=W.time;let h1:=d0∧(∀k1:Nat,k1<c0→True∧W.ram k1=W.ram k1);let l1:=g0∧(∀o1:Nat,o1<e0→True∧W.kinds o1=W.kinds o1);let q1:=w0∧(∀u1:Nat,u1<v0→True∧W.bits u1=W.bits u1);let v1:=a1∧(∀w1:Nat,let x1:=W.readyN w1;w1<z0→True∧x1=x1∧(∀y1:Nat,y1<x1→True∧W.ready w1 y1=W.ready w1 y1));let z1:=(e1∧(∀a2:Nat,a2<d1→True∧W.doms a2=W.doms a2))∧True;let b2:=0≤t∧t<(l0:Int);let c2:=0≤a∧a<(q0:Int);let d2:=true=true;let e2:=True∧d2;let g2:=Int.toNat a;let h2:=0+g2;let k2:=W.linesN h2;let l2:=k2+1;let o2:=0=0;let q2:=Wd.mk c0 W.ram e0 W.kinds h0 W.slots l0 (sdS W (Int.toNat t) a s) q0 (sdN W g2) (sdL W t g2) v0 W.bits x0 (ofC W t) z0 W.readyN W.ready b1 W.tlbsN W.tlbs d1 W.doms W.time;((a0=a0∧t=t∧True)∧((((((((((((True∧b0∧d0)∧b0∧g0)∧b0∧k0)∧b0∧o0)∧b0∧u0)∧b0∧w0)∧b0∧y0)∧b0∧a1)∧b0∧c1)∧b0∧e1)∧g1)∧h1∧l1∧(k0∧(∀u2:Nat,let v2:=W.slots u2;let w2:=v2.kind;let x2:=v2.base;let y2:=v2.len;let z2:=v2.mark;let a3:=v2.rights;let b3:=v2.badge;let c3:=v2.from_;u2<h0→((((((True∧w2=w2)∧x2=x2)∧y2=y2)∧z2=z2)∧a3=a3)∧b3=b3)∧c3=c3))∧(o0∧(∀d3:Nat,let e3:=W.tasks d3;let g3:=e3.prio;let h3:=e3.node;let k3:=e3.space;let l3:=e3.helper;let o3:=e3.loc;let q3:=e3.word;
    let u3:=e3.badge;let v3:=e3.owes;let w3:=e3.core;let x3:=e3.dom;d3<l0→(((((((((((((((((((True∧e3.r0=e3.r0)∧e3.r1=e3.r1)∧e3.r2=e3.r2)∧e3.r3=e3.r3)∧e3.r4=e3.r4)∧e3.r5=e3.r5)∧e3.r6=e3.r6)∧e3.r7=e3.r7)∧e3.pc=e3.pc)∧e3.st=e3.st)∧g3=g3)∧h3=h3)∧k3=k3)∧l3=l3)∧o3=o3)∧q3=q3)∧u3=u3)∧v3=v3)∧w3=w3)∧x3=x3))∧(u0∧(∀y3:Nat,let z3:=W.linesN y3;y3<q0→True∧z3=z3∧(∀a4:Nat,a4<z3→True∧W.lines y3 a4=W.lines y3 a4)))∧q1∧(y0∧(∀b4:Nat,b4<x0→True∧W.cores b4=W.cores b4))∧v1∧(c1∧(∀c4:Nat,let d4:=W.tlbsN c4;c4<b1→True∧d4=d4∧(∀e4:Nat,let g4:=W.tlbs c4 e4;let h4:=g4.sp;let k4:=g4.pg;let l4:=g4.fr;let o4:=g4.wr;e4<d4→(((True∧h4=h4)∧k4=k4)∧l4=l4)∧o4=o4)))∧z1)∧s_offP.match_1 (fun q4:X_offP=>Prop) (X_offP.mk t W) (fun u4:Int=>fun v4:Wd=>OfP v4 u4))∧tn 12 (b2∧(∀w4:Nat,false=false)∧b2∧(∀x4:Nat,false=false)∧tn 10 (c2∧tn 3 (tn 2 True∧(((∀y4:Nat,True∧(∀z4:Nat,e2))∧(∀a5:Nat,e2)∧True)∧True∧(k2+1)*8≤140737488355328∧(∀b5:Nat,d2))∧(True∧l2*8≤140737488355328∧(∀c5:Nat,d2))∧c2∧(h2=h2∧(∀d5:Nat,Nat.beq 1 1=true))∧True∧(((((((((((True∧o2∧d0)∧o2∧g0)∧o2∧k0)∧o2∧o0)∧o2∧u0)∧o2∧w0)∧o2∧y0)∧o2∧a1)∧o2∧c1)∧o2∧e1)∧g1)∧h1∧l1∧(k0∧(∀e5:Nat,let g5:=W.slots e5;let h5:=q2.slots e5;e5<h0→((((((True∧g5.kind=h5.kind)∧g5.base=h5.base)∧g5.len=h5.len)∧g5.mark=h5.mark)∧g5.rights=h5.rights)∧g5.badge=h5.badge)∧g5.from_=h5.from_))∧(o0∧(∀k5:Nat,let l5:=W.tasks k5;let o5:=q2.tasks k5;let q5:=Nat.beq k5 (0+Int.toNat t);k5<l0→(((((((((((((((((((True∧l5.r0=o5.r0)∧l5.r1=o5.r1)∧l5.r2=o5.r2)∧l5.r3=o5.r3)∧l5.r4=o5.r4)∧l5.r5=o5.r5)∧l5.r6=o5.r6)∧l5.r7=o5.r7)∧
    l5.pc=o5.pc)∧cond q5 s l5.st=o5.st)∧l5.prio=o5.prio)∧l5.node=o5.node)∧l5.space=o5.space)∧l5.helper=o5.helper)∧cond q5 a l5.loc=o5.loc)∧l5.word=o5.word)∧l5.badge=o5.badge)∧l5.owes=o5.owes)∧l5.core=o5.core)∧l5.dom=o5.dom))∧(u0∧(∀u5:Nat,u5<q0→True∧cond (Nat.beq u5 h2) l2 (W.linesN u5)=sdN W g2 u5∧(∀v5:Nat,v5<sdN W g2 u5→True∧cond (Nat.beq u5 h2) (cond (Nat.blt v5 k2) (W.lines h2 (0+v5)) (List.getD [t] (0+(v5-k2)) 0)) (W.lines u5 v5)=sdL W t g2 u5 v5)))∧q1∧(y0∧(∀w5:Nat,w5<x0→True∧ofC W t w5=ofC W t w5))∧v1∧(c1∧(∀x5:Nat,let y5:=W.tlbsN x5;x5<b1→True∧y5=y5∧(∀z5:Nat,let a6:=W.tlbs x5 z5;let b6:=q2.tlbs x5 z5;z5<y5→(((True∧a6.sp=b6.sp)∧a6.pg=b6.pg)∧a6.fr=b6.fr)∧a6.wr=b6.wr)))∧z1)))
set_option maxHeartbeats 1000000 in
theorem ok_wait_ : FnOK Tryz.prog glN 151 c_wait_ := ok_of (.cons ok_offP .nil) false Tryz.call151 Tryz.func151 (fun _ => []) (V := V_wait_) (fun _ => by kernel_rfl) fun ⟨t, a, s, W⟩ hp => by
  dsimp only [s_wait_] at hp
  dsimp only [V_wait_, tn, w64]
  simp only [std, stb, eq_self, implies_true, Bool.cond_self]
  try simp only [wd_eta]
  obtain ⟨hO, hl⟩ := hp
  have t0 := hO.t0
  have t1 := hO.t1
  obtain ⟨a0, a1, hn, _⟩ := hl
  refine ⟨hO, ⟨t0, t1⟩, ⟨t0, t1⟩, ⟨a0, a1⟩, by omega, by omega, ⟨a0, a1⟩, fun _ => rfl, fun j _ => ?_, fun j _ => ⟨rfl, fun k hk => sdL_eq hk⟩⟩
  rcases Decidable.em (j = t.toNat) with h | h
  · subst h; simp only [Nat.beq_refl, cond_true]; unfold sdS; rw [updF_at]; exact ⟨⟨⟨⟨⟨⟨⟨⟨⟨⟨⟨⟨⟨⟨⟨⟨⟨⟨⟨rfl, rfl⟩, rfl⟩, rfl⟩, rfl⟩, rfl⟩, rfl⟩, rfl⟩, rfl⟩, rfl⟩, rfl⟩, rfl⟩, rfl⟩, rfl⟩, rfl⟩, rfl⟩, rfl⟩, rfl⟩, rfl⟩, rfl⟩
  · simp only [beq_ne h, cond_false]; unfold sdS; rw [updF_ne h]; exact run20 rfl
structure X_front where
  (a : Int) (wt : Bool) (W : Wd)
def s_front : Sy.Spec := ⟨X_front, fun ⟨a, wt, _⟩ => [.ptr 0 0 none 0 0, .v (.int .i64 a), .v (.bool wt)], fun ⟨_, _, W⟩ => wMem W, fun ⟨a, _, W⟩ => LnP W a, fun ⟨a, wt, W⟩ => .v (.int .i64 (frtI W a.toNat (fntB W a.toNat fun s => (s == 4) == wt))), fun ⟨a, wt, W⟩ => wMem (frtW W a.toNat (fntB W a.toNat fun s => (s == 4) == wt)),
  fun args mem => match args with | [a0, a1, a2] => some ⟨intD (a1), boolD (a2), wMJD mem 0⟩ | _ => none⟩
def c_front : Con := ⟨[true], s_front.g, none⟩
def V_front : X_front → Prop := fun ⟨a, wt, W⟩ => let a0:=W.nLines;let b0:=0≤a∧a<(a0:Int);let c0:=Int.toNat a;let d0:=((W.linesN (0+c0):Nat):Int);let e0:=d0==0;let g0:=fntB W c0 (fun h0:Int=>(h0==4)==wt);let k0:=frtI W c0 g0;let l0:=0=0;let o0:=W.nRam;let q0:=o0=o0;let u0:=W.nKinds;let v0:=u0=u0;let w0:=W.nSlots;let x0:=w0=w0;let y0:=W.nTasks;let z0:=y0=y0;let a1:=a0=a0;let b1:=W.nBits;let c1:=b1=b1;let d1:=W.nCores;let e1:=d1=d1;let g1:=W.nReady;let h1:=g1=g1;let k1:=W.nTlbs;let l1:=k1=k1;let o1:=W.nDoms;let q1:=o1=o1;let u1:=((((((((((True∧l0∧q0)∧l0∧v0)∧l0∧x0)∧l0∧z0)∧l0∧a1)∧l0∧c1)∧l0∧e1)∧l0∧h1)∧l0∧l1)∧l0∧q1)∧W.time=W.time;let v1:=q0∧(∀w1:Nat,w1<o0→True∧W.ram w1=W.ram w1);let x1:=v0∧(∀y1:Nat,y1<u0→True∧W.kinds y1=W.kinds y1);let z1:=Wd.mk o0 W.ram u0 W.kinds w0 W.slots y0 (frtS W c0 g0) a0 (frtN W c0 g0) (frtL W c0 g0) b1 W.bits d1 W.cores g1 W.readyN W.ready k1 W.tlbsN W.tlbs o1 W.doms W.time;let a2:=x0∧(∀b2:Nat,let c2:=W.slots b2;let d2:=z1.slots b2;b2<w0→((((((True∧c2.kind=d2.kind)∧c2.base=d2.base)∧c2.len=d2.len)∧c2.mark=d2.mark)∧c2.rights=d2.rights)∧c2.badge=d2.badge)∧c2.from_=d2.from_);let e2:=(c1∧(∀g2:Nat,g2<b1→True∧W.bits g2=W.bits g2))∧(e1∧(∀h2:Nat,h2<d1→True∧W.cores h2=W.cores h2))∧(h1∧(∀k2:Nat,let l2:=W.readyN k2;k2<g1→True∧l2=l2∧(∀o2:Nat,o2<l2→True∧W.ready k2 o2=W.ready k2 o2)))∧(l1∧(∀q2:Nat,let u2:=W.tlbsN q2;q2<k1→True∧u2=u2∧(∀v2:Nat,let w2:=W.tlbs q2 v2;let x2:=z1.tlbs q2 v2;v2<u2→(((True∧w2.sp=x2.sp)∧w2.pg=x2.pg)∧w2.fr=x2.fr)∧w2.wr=x2.wr)))∧(q1∧(∀y2:Nat,y2<o1→True∧W.doms y2=W.doms y2))∧True;
    let z2:=(-1)=k0∧u1∧v1∧x1∧a2∧(z0∧(∀a3:Nat,let b3:=W.tasks a3;let c3:=z1.tasks a3;a3<y0→(((((((((((((((((((True∧b3.r0=c3.r0)∧b3.r1=c3.r1)∧b3.r2=c3.r2)∧b3.r3=c3.r3)∧b3.r4=c3.r4)∧b3.r5=c3.r5)∧b3.r6=c3.r6)∧b3.r7=c3.r7)∧b3.pc=c3.pc)∧b3.st=c3.st)∧b3.prio=c3.prio)∧b3.node=c3.node)∧b3.space=c3.space)∧b3.helper=c3.helper)∧b3.loc=c3.loc)∧b3.word=c3.word)∧b3.badge=c3.badge)∧b3.owes=c3.owes)∧b3.core=c3.core)∧b3.dom=c3.dom))∧(a1∧(∀d3:Nat,let e3:=frtN W c0 g0 d3;d3<a0→True∧W.linesN d3=e3∧(∀g3:Nat,g3<e3→True∧W.lines d3 g3=frtL W c0 g0 d3 g3)))∧e2;let h3:=0+c0;let k3:=((W.linesN h3:Nat):Int);let l3:=W.lines h3 0;let o3:=0≤l3∧l3<(y0:Int);let q3:=0+Int.toNat l3;let u3:=((W.tasks q3).st==4) !=wt;let v3:=Int.toNat k3-Int.toNat 1;b0∧(d0≤9223372036854775807→(e0=true→z2)∧(e0=false→b0∧((0:Int)≤0∧0<k3)∧o3∧(u3=true→z2)∧(u3=false→tn 11 (b0∧True∧((0:Int)≤1∧1≤k3∧k3≤k3)∧(v3*8≤140737488355328∧(∀w3:Nat,true=true))∧b0∧(∀x3:Nat,Nat.beq 1 1=true)∧o3∧(∀y3:Nat,false=false)∧l3=k0∧u1∧v1∧x1∧a2∧(z0∧(∀z3:Nat,let a4:=W.tasks z3;let b4:=z1.tasks z3;z3<y0→(((((((((((((((((((True∧a4.r0=b4.r0)∧a4.r1=b4.r1)∧a4.r2=b4.r2)∧a4.r3=b4.r3)∧a4.r4=b4.r4)∧a4.r5=b4.r5)∧a4.r6=b4.r6)∧a4.r7=b4.r7)∧a4.pc=b4.pc)∧a4.st=b4.st)∧a4.prio=b4.prio)∧a4.node=b4.node)∧a4.space=b4.space)∧a4.helper=b4.helper)∧cond (Nat.beq z3 q3) (-1) a4.loc=b4.loc)∧a4.word=b4.word)∧a4.badge=b4.badge)∧a4.owes=b4.owes)∧a4.core=b4.core)∧a4.dom=b4.dom))∧(a1∧(∀c4:Nat,let d4:=frtN W c0 g0 c4;c4<a0→True∧cond (Nat.beq c4 h3) v3 (W.linesN c4)=d4∧(∀e4:Nat,e4<d4→True∧
    cond (Nat.beq c4 h3) (W.lines h3 (0+Int.toNat 1+e4)) (W.lines c4 e4)=frtL W c0 g0 c4 e4)))∧e2))))
set_option maxHeartbeats 1000000 in
theorem ok_front : FnOK Tryz.prog glN 102 c_front := ok_of .nil false Tryz.call102 Tryz.func102 (fun _ => []) (V := V_front) (fun _ => by kernel_rfl) fun ⟨a, wt, W⟩ hp => by
  dsimp only [s_front] at hp
  dsimp only [V_front, tn, w64]
  simp only [std, stb, eq_self, implies_true, Bool.cond_self]
  try simp only [wd_eta]
  obtain ⟨a0, a1, hn, hl⟩ := hp
  refine ⟨⟨a0, a1⟩, fun _ => ⟨fun h0 => ?_, fun h0 => ⟨⟨a0, a1⟩, ?_⟩⟩⟩
  · have e : fntB W a.toNat (fun h0 => (h0 == 4) == wt) = false := fn0 (len_0 h0)
    rw [e]; exact ⟨rfl, fun j _ => run20 rfl, fun d _ => ⟨rfl, fun g _ => rfl⟩⟩
  have h1 := len_n h0
  have hl := hl (by omega)
  refine ⟨⟨by decide, by omega⟩, hl, fun h2 => ?_, fun h2 => ⟨⟨a0, a1⟩, ⟨by decide, by omega, by omega⟩, by omega, ⟨a0, a1⟩, fun _ => rfl, hl, ?_⟩⟩
  · have e : fntB W a.toNat (fun h0 => (h0 == 4) == wt) = false := fn1 h1 (by revert h2; cases ((W.tasks (W.lines a.toNat 0).toNat).st == 4) <;> cases wt <;> simp)
    rw [e]; exact ⟨rfl, fun j _ => run20 rfl, fun d _ => ⟨rfl, fun g _ => rfl⟩⟩
  · have e : fntB W a.toNat (fun h0 => (h0 == 4) == wt) = true := fn1 h1 (by revert h2; cases ((W.tasks (W.lines a.toNat 0).toNat).st == 4) <;> cases wt <;> simp)
    rw [e]; refine ⟨rfl, fun j _ => ?_, fun c _ => ⟨rfl, fun g hg => ?_⟩⟩
    · rcases Decidable.em (j = (W.lines a.toNat 0).toNat) with h | h
      · subst h; simp only [Nat.beq_refl, cond_true]; unfold frtS frS; rw [updF_at]; exact ⟨⟨⟨⟨⟨⟨⟨⟨⟨⟨⟨⟨⟨⟨⟨⟨⟨⟨⟨rfl, rfl⟩, rfl⟩, rfl⟩, rfl⟩, rfl⟩, rfl⟩, rfl⟩, rfl⟩, rfl⟩, rfl⟩, rfl⟩, rfl⟩, rfl⟩, rfl⟩, rfl⟩, rfl⟩, rfl⟩, rfl⟩, rfl⟩
      · simp only [beq_ne h, cond_false]; unfold frtS frS; rw [updF_ne h]; exact run20 rfl
    · rcases Decidable.em (c = a.toNat) with h | h
      · subst h; simp only [Nat.beq_refl, cond_true]; unfold frtL frL; rw [updF_at]; exact congrArg _ (Nat.add_comm _ _)
      · simp only [beq_ne h, cond_false]; unfold frtL frL; rw [updF_ne h]; rfl
structure X_first_ where
  (a : Int) (n : Nat) (ss : Nat → Int) (W : Wd)
def s_first_ : Sy.Spec := ⟨X_first_, fun ⟨a, n, ss, _⟩ => [.ptr 0 0 none 0 0, .v (.int .i64 a), .sl true 1 n (fun i_ _ => .v (.int .i64 (ss i_)))], fun ⟨_, _, _, W⟩ => wMem W, fun ⟨a, n, _, W⟩ => LnP W a ∧ n ≤ 1000, fun ⟨a, n, ss, W⟩ => .v (.int .i64 (frtI W a.toNat (fntB W a.toNat fun s => anyB n fun k => s == ss k))), fun ⟨a, n, ss, W⟩ => wMem (frtW W a.toNat (fntB W a.toNat fun s => anyB n fun k => s == ss k)),
  fun args mem => match args with | [a0, a1, a2] => some ⟨intD (a1), slN a2, fun i => intD (slF a2 i 0), wMJD mem 0⟩ | _ => none⟩
def c_first_ : Con := ⟨[true], s_first_.g, none⟩
def V_first_ : X_first_ → Prop := fun ⟨a, n, ss, W⟩ => let a0:=W.nLines;let b0:=0≤a∧a<(a0:Int);let c0:=Int.toNat a;let d0:=((W.linesN (0+c0):Nat):Int);let e0:=d0==0;let g0:=fntB W c0 (fun h0:Int=>anyB n (fun k0:Nat=>h0==ss k0));let l0:=frtI W c0 g0;let o0:=0=0;let q0:=W.nRam;let u0:=q0=q0;let v0:=W.nKinds;let w0:=v0=v0;let x0:=W.nSlots;let y0:=x0=x0;let z0:=W.nTasks;let a1:=z0=z0;let b1:=a0=a0;let c1:=W.nBits;let d1:=c1=c1;let e1:=W.nCores;let g1:=e1=e1;let h1:=W.nReady;let k1:=h1=h1;let l1:=W.nTlbs;let o1:=l1=l1;let q1:=W.nDoms;let u1:=q1=q1;let v1:=W.time=W.time;let w1:=((((((((((True∧o0∧u0)∧o0∧w0)∧o0∧y0)∧o0∧a1)∧o0∧b1)∧o0∧d1)∧o0∧g1)∧o0∧k1)∧o0∧o1)∧o0∧u1)∧v1;let x1:=u0∧(∀y1:Nat,y1<q0→True∧W.ram y1=W.ram y1);let z1:=w0∧(∀a2:Nat,a2<v0→True∧W.kinds a2=W.kinds a2);let b2:=Wd.mk q0 W.ram v0 W.kinds x0 W.slots z0 (frtS W c0 g0) a0 (frtN W c0 g0) (frtL W c0 g0) c1 W.bits e1 W.cores h1 W.readyN W.ready l1 W.tlbsN W.tlbs q1 W.doms W.time;let c2:=y0∧(∀d2:Nat,let e2:=W.slots d2;let g2:=b2.slots d2;d2<x0→((((((True∧e2.kind=g2.kind)∧e2.base=g2.base)∧e2.len=g2.len)∧e2.mark=g2.mark)∧e2.rights=g2.rights)∧e2.badge=g2.badge)∧e2.from_=g2.from_);let h2:=d1∧(∀k2:Nat,k2<c1→True∧W.bits k2=W.bits k2);let l2:=g1∧(∀o2:Nat,o2<e1→True∧W.cores o2=W.cores o2);let q2:=k1∧(∀u2:Nat,let v2:=W.readyN u2;u2<h1→True∧v2=v2∧(∀w2:Nat,w2<v2→True∧W.ready u2 w2=W.ready u2 w2));let x2:=(u1∧(∀y2:Nat,y2<q1→True∧W.doms y2=W.doms y2))∧True;
    let z2:=h2∧l2∧q2∧(o1∧(∀a3:Nat,let b3:=W.tlbsN a3;a3<l1→True∧b3=b3∧(∀c3:Nat,let d3:=W.tlbs a3 c3;let e3:=b2.tlbs a3 c3;c3<b3→(((True∧d3.sp=e3.sp)∧d3.pg=e3.pg)∧d3.fr=e3.fr)∧d3.wr=e3.wr)))∧x2;let g3:=(-1)=l0∧w1∧x1∧z1∧c2∧(a1∧(∀h3:Nat,let k3:=W.tasks h3;let l3:=b2.tasks h3;h3<z0→(((((((((((((((((((True∧k3.r0=l3.r0)∧k3.r1=l3.r1)∧k3.r2=l3.r2)∧k3.r3=l3.r3)∧k3.r4=l3.r4)∧k3.r5=l3.r5)∧k3.r6=l3.r6)∧k3.r7=l3.r7)∧k3.pc=l3.pc)∧k3.st=l3.st)∧k3.prio=l3.prio)∧k3.node=l3.node)∧k3.space=l3.space)∧k3.helper=l3.helper)∧k3.loc=l3.loc)∧k3.word=l3.word)∧k3.badge=l3.badge)∧k3.owes=l3.owes)∧k3.core=l3.core)∧k3.dom=l3.dom))∧(b1∧(∀o3:Nat,let q3:=frtN W c0 g0 o3;o3<a0→True∧W.linesN o3=q3∧(∀u3:Nat,u3<q3→True∧W.lines o3 u3=frtL W c0 g0 o3 u3)))∧z2;let v3:=0+c0;let w3:=((W.linesN v3:Nat):Int);let x3:=(n:Int);let y3:=SV.ptr 0 0 none 0 0=SV.ptr 0 0 none 0 0;let z3:=0=0;
    let a4:=(((((((((((True∧z3∧u0)∧z3∧w0)∧z3∧y0)∧z3∧a1)∧z3∧b1)∧z3∧d1)∧z3∧g1)∧z3∧k1)∧z3∧o1)∧z3∧u1)∧v1)∧x1∧z1∧(y0∧(∀b4:Nat,let c4:=W.slots b4;let d4:=c4.kind;let e4:=c4.base;let g4:=c4.len;let h4:=c4.mark;let k4:=c4.rights;let l4:=c4.badge;let o4:=c4.from_;b4<x0→((((((True∧d4=d4)∧e4=e4)∧g4=g4)∧h4=h4)∧k4=k4)∧l4=l4)∧o4=o4))∧(a1∧(∀q4:Nat,let u4:=W.tasks q4;let v4:=u4.prio;let w4:=u4.node;let x4:=u4.space;let y4:=u4.helper;let z4:=u4.loc;let a5:=u4.word;let b5:=u4.badge;let c5:=u4.owes;let d5:=u4.core;let e5:=u4.dom;q4<z0→(((((((((((((((((((True∧u4.r0=u4.r0)∧u4.r1=u4.r1)∧u4.r2=u4.r2)∧u4.r3=u4.r3)∧u4.r4=u4.r4)∧u4.r5=u4.r5)∧u4.r6=u4.r6)∧u4.r7=u4.r7)∧u4.pc=u4.pc)∧u4.st=u4.st)∧v4=v4)∧w4=w4)∧x4=x4)∧y4=y4)∧z4=z4)∧a5=a5)∧b5=b5)∧c5=c5)∧d5=d5)∧e5=e5))∧(b1∧(∀g5:Nat,let h5:=W.linesN g5;g5<a0→True∧h5=h5∧(∀k5:Nat,k5<h5→True∧W.lines g5 k5=W.lines g5 k5)))∧h2∧l2∧q2∧(o1∧(∀l5:Nat,let o5:=W.tlbsN l5;l5<l1→True∧o5=o5∧(∀q5:Nat,let u5:=W.tlbs l5 q5;let v5:=u5.sp;let w5:=u5.pg;let x5:=u5.fr;let y5:=u5.wr;q5<o5→(((True∧v5=v5)∧w5=w5)∧x5=x5)∧y5=y5)))∧x2;let z5:=(W.tasks (Int.toNat (W.lines c0 0))).st;let a6:=W.lines v3 0;let b6:=0≤a6∧a6<(z0:Int);let c6:=0+Int.toNat a6;let d6:=(W.tasks c6).st;let e6:=Int.toNat w3-Int.toNat 1;b0∧(d0≤9223372036854775807→(e0=true→g3)∧(e0=false→b0∧((0:Int)≤0∧0<w3)∧(x3≤9223372036854775807→y3∧0=((0:Nat):Int)∧a4∧(0≤n∧(∀g6:Nat,g6<0→(z5==ss g6)=false))∧(∀h6:Nat,let k6:=(h6:Int);let l6:=decide (k6<x3);let o6:=d6==ss (Int.toNat k6);let q6:Int:=k6+1;h6≤n∧(∀u6:Nat,u6<h6→
    (z5==ss u6)=false)→(l6=true→(0≤k6∧k6<x3)∧b6∧(o6=true→tn 11 (b0∧True∧((0:Int)≤1∧1≤w3∧w3≤w3)∧(e6*8≤140737488355328∧(∀v6:Nat,true=true))∧b0∧(∀w6:Nat,Nat.beq 1 1=true)∧b6∧(∀x6:Nat,false=false)∧a6=l0∧w1∧x1∧z1∧c2∧(a1∧(∀y6:Nat,let z6:=W.tasks y6;let a7:=b2.tasks y6;y6<z0→(((((((((((((((((((True∧z6.r0=a7.r0)∧z6.r1=a7.r1)∧z6.r2=a7.r2)∧z6.r3=a7.r3)∧z6.r4=a7.r4)∧z6.r5=a7.r5)∧z6.r6=a7.r6)∧z6.r7=a7.r7)∧z6.pc=a7.pc)∧z6.st=a7.st)∧z6.prio=a7.prio)∧z6.node=a7.node)∧z6.space=a7.space)∧z6.helper=a7.helper)∧cond (Nat.beq y6 c6) (-1) z6.loc=a7.loc)∧z6.word=a7.word)∧z6.badge=a7.badge)∧z6.owes=a7.owes)∧z6.core=a7.core)∧z6.dom=a7.dom))∧(b1∧(∀b7:Nat,let c7:=frtN W c0 g0 b7;b7<a0→True∧cond (Nat.beq b7 v3) e6 (W.linesN b7)=c7∧(∀d7:Nat,d7<c7→True∧cond (Nat.beq b7 v3) (W.lines v3 (0+Int.toNat 1+d7)) (W.lines b7 d7)=frtL W c0 g0 b7 d7)))∧z2))∧(o6=false→w64 q6=q6∧(∃e7:Nat,y3∧q6=(e7:Int)∧a4∧(e7≤n∧(∀g7:Nat,g7<e7→(z5==ss g7)=false))∧n-e7<n-h6)))∧(l6=false→g3)))))
set_option maxHeartbeats 1000000 in
theorem ok_first_ : FnOK Tryz.prog glN 150 c_first_ := ok_of .nil false Tryz.call150 Tryz.func150 (fun ⟨a, n, ss, W⟩ => [.inv (an_fs W a.toNat n ss)]) (V := V_first_) (fun _ => by kernel_rfl) fun ⟨a, n, ss, W⟩ hp => by
  dsimp only [s_first_] at hp
  dsimp only [V_first_, tn, w64]
  simp only [std, stb, eq_self, implies_true, Bool.cond_self]
  try simp only [wd_eta]
  obtain ⟨⟨a0, a1, hn, hl⟩, hk⟩ := hp
  refine ⟨⟨a0, a1⟩, fun _ => ⟨fun h0 => ?_, fun h0 => ⟨⟨a0, a1⟩, ?_⟩⟩⟩
  · have e : fntB W a.toNat (fun h0 => anyB n fun k0 => h0 == ss k0) = false := fn0 (len_0 h0)
    rw [e]; exact ⟨rfl, fun j _ => run20 rfl, fun d _ => ⟨rfl, fun g _ => rfl⟩⟩
  have h1 := len_n h0
  have hl := hl (by omega)
  refine ⟨⟨by decide, by omega⟩, fun _ s hs => ⟨fun h => ?_, fun h => ?_⟩⟩
  · have hlt := lt_of_dec h
    refine ⟨by omega, hl, fun h2 => ⟨⟨a0, a1⟩, ⟨by decide, by omega, by omega⟩, by omega, ⟨a0, a1⟩, fun _ => rfl, hl, ?_⟩, fun h2 => ⟨wr_in (by omega) (by omega), s + 1, by omega, ⟨by omega, fun j hj => ?_⟩, by omega⟩⟩
    · have e : fntB W a.toNat (fun h0 => anyB n fun k0 => h0 == ss k0) = true := fn1 h1 (anyB_iff.2 ⟨s, by omega, h2⟩)
      rw [e]; refine ⟨rfl, fun j _ => ?_, fun c _ => ⟨rfl, fun g hg => ?_⟩⟩
      · rcases Decidable.em (j = (W.lines a.toNat 0).toNat) with h | h
        · subst h; simp only [Nat.beq_refl, cond_true]; unfold frtS frS; rw [updF_at]; exact ⟨⟨⟨⟨⟨⟨⟨⟨⟨⟨⟨⟨⟨⟨⟨⟨⟨⟨⟨rfl, rfl⟩, rfl⟩, rfl⟩, rfl⟩, rfl⟩, rfl⟩, rfl⟩, rfl⟩, rfl⟩, rfl⟩, rfl⟩, rfl⟩, rfl⟩, rfl⟩, rfl⟩, rfl⟩, rfl⟩, rfl⟩, rfl⟩
        · simp only [beq_ne h, cond_false]; unfold frtS frS; rw [updF_ne h]; exact run20 rfl
      · rcases Decidable.em (c = a.toNat) with h | h
        · subst h; simp only [Nat.beq_refl, cond_true]; unfold frtL frL; rw [updF_at]; exact congrArg _ (Nat.add_comm _ _)
        · simp only [beq_ne h, cond_false]; unfold frtL frL; rw [updF_ne h]; rfl
    · rcases Decidable.em (j = s) with e | e
      · rw [e]; exact h2
      · exact hs.2 j (by omega)
  · have hge := ge_of_dec h
    have e : fntB W a.toNat (fun h0 => anyB n fun k0 => h0 == ss k0) = false := fn1 h1 (anyB_false.2 fun i hi => hs.2 i (by omega))
    rw [e]; exact ⟨rfl, fun j _ => run20 rfl, fun d _ => ⟨rfl, fun g _ => rfl⟩⟩
end Go.Proofs.YtdjilaofmdhikaaGreatDoor
