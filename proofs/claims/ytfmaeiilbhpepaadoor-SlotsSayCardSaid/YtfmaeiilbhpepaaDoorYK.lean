/- Slots and keys at an address. -/
import Derived.Test.YtfmaeiilbhpepaaDoorYJ
import Derived.Test.YtfmaeiilbhpepaaDoorYG
import Derived.OpenShut
import Derived.ChangeArms
import Derived.MakeChecks
import Derived.Lay
import Derived.Test.YtfmaeiilbhpepaaDoorTie
import Derived.ChangeSame
import Derived.ChangeVars
import Derived.JoinedOf
import Derived.RowKit
import Derived.LaidLaws
import Derived.LaidHandle
import Derived.Stop.Joined
import Derived.SevenTiedAt
import Derived.OpenVars
import Derived.Test.YtfmaeiilbhpepaaDoorCards
set_option linter.unusedVariables false
set_option linter.unusedSimpArgs false
set_option linter.unusedVariables false
set_option linter.unusedSimpArgs false
set_option maxRecDepth 100000
namespace Go.Proofs.YtfmaeiilbhpepaaDoor
open Go.RowKit Go.Sy
def snd (W : Wd) : Prop := Szd W ∧ ∀ i, i < W.nSlots → slB W i = true
theorem snd_of {W : Wd} (h : wE W = 0) : snd W := by
  unfold wE wm at h
  cases hs : szBad W with
  | true => rw [hs] at h; exact absurd (show (2 : Int) = 0 from h) (by decide)
  | false =>
    rw [hs] at h
    have hz := szd_of hs
    refine ⟨hz, fun i hi => ?_⟩
    have h : (wm1 W (wm2 W (wm3 W (wm4 W (wm5 W (wm6 W (wm7 W (0, -1)))))))).1 = 0 := h
    have h1 := (fstE_zero (by decide) (fstE_zero (by decide) (fstE_zero (by decide) (fstE_zero (by decide) h).2).2).2).1 i hi
    exact notF h1
def saE (W : Wd) (nd at_ : Int) : Int := bif kof W nd != 5 then 3 else bif farB at_ 255 then 2 else bif decide (at_ < 16) then 0 else bif (W.slots (nd * 16 + at_ / 16).toNat).kind != 5 then 3 else 0
def saS (W : Wd) (nd at_ : Int) : Int := bif saE W nd at_ == 0 then (bif decide (at_ < 16) then nd * 16 + at_ else (W.slots (nd * 16 + at_ / 16).toNat).base * 16 + at_ % 16) else 0
def zSl : Slt := ⟨0, 0, 0, 0, 0, 0, 0⟩
def kyL (s : Slt) : List SV := [.v (.int .i64 s.kind), .v (.int .i64 s.base), .v (.int .i64 s.len), .v (.int .i64 s.mark), .v (.int .i64 s.rights), .v (.int .i64 s.badge)]
def keE (W : Wd) (s : Int) (kd rt : Int) : Int := bif (W.slots s.toNat).kind == 0 then 6 else bif (W.slots s.toNat).kind != kd then 3 else bif bitsI .and .i64 (W.slots s.toNat).rights rt != rt then 4 else 0
def kaE (W : Wd) (nd at_ kd rt : Int) : Int := bif saE W nd at_ == 0 then keE W (saS W nd at_) kd rt else saE W nd at_
def kaK (W : Wd) (nd at_ kd rt : Int) : Slt := bif kaE W nd at_ kd rt == 0 then W.slots (saS W nd at_).toNat else zSl
theorem base_in {W : Wd} {i : Nat} (h : snd W) (hi : i < W.nSlots) (hk : (W.slots i).kind ≠ 0) : 0 ≤ (W.slots i).base ∧ (W.slots i).base < W.nKinds := by
  have hb := h.2 i hi
  have hn := slBs_no hb
  have hl := slB_len hn hk
  have hr := slNo_range hn
  have hb : slBs W i (W.slots i) = true := hb
  rw [slBs_pos (beq_eq_false_iff_ne.2 hk)] at hb
  simp only [Bool.and_eq_true, decide_eq_true_eq] at hb
  have := hb.1.1.2
  omega
theorem sa_cases {W : Wd} (h : snd W) (nd at_ : Int) :
    (kof W nd ≠ 5 ∧ saE W nd at_ = 3 ∧ saS W nd at_ = 0) ∨
    (kof W nd = 5 ∧ farB at_ 255 = true ∧ saE W nd at_ = 2 ∧ saS W nd at_ = 0) ∨
    (kof W nd = 5 ∧ farB at_ 255 = false ∧ (0 ≤ nd ∧ nd < W.nKinds) ∧ (0 ≤ at_ ∧ at_ ≤ 255) ∧
      ((at_ < 16 ∧ saE W nd at_ = 0 ∧ saS W nd at_ = nd * 16 + at_ ∧ 0 ≤ nd * 16 + at_ ∧ nd * 16 + at_ < W.nSlots) ∨
       (16 ≤ at_ ∧ (0 ≤ nd * 16 + at_ / 16 ∧ nd * 16 + at_ / 16 < W.nSlots) ∧
         (((W.slots (nd * 16 + at_ / 16).toNat).kind ≠ 5 ∧ saE W nd at_ = 3 ∧ saS W nd at_ = 0) ∨
          ((W.slots (nd * 16 + at_ / 16).toNat).kind = 5 ∧ saE W nd at_ = 0 ∧ saS W nd at_ = (W.slots (nd * 16 + at_ / 16).toNat).base * 16 + at_ % 16 ∧
            (0 ≤ (W.slots (nd * 16 + at_ / 16).toNat).base ∧ (W.slots (nd * 16 + at_ / 16).toNat).base < W.nKinds)))))) := by
  have z := h.1.slots
  rcases Decidable.em (kof W nd = 5) with hk | hk
  · right
    have e1 : (kof W nd != 5) = false := by rw [hk]; rfl
    have hin := kof_in (W := W) (f := nd) (by rw [hk]; decide)
    cases hf : farB at_ 255 with
    | true =>
      left
      have e : saE W nd at_ = 2 := by unfold saE; rw [e1, hf]; rfl
      exact ⟨hk, rfl, e, by unfold saS; rw [e]; rfl⟩
    | false =>
      right
      have hr : 0 ≤ at_ ∧ at_ ≤ 255 := by simp [farB] at hf; omega
      refine ⟨hk, rfl, hin, hr, ?_⟩
      rcases Int.lt_or_le at_ 16 with ha | ha
      · left
        have e : saE W nd at_ = 0 := by unfold saE; rw [e1, hf, decide_eq_true ha]; rfl
        exact ⟨ha, e, by unfold saS; rw [e, decide_eq_true ha]; rfl, by omega, by omega⟩
      · right
        have e2 : decide (at_ < 16) = false := decide_eq_false (by omega)
        refine ⟨ha, by omega, ?_⟩
        rcases Decidable.em ((W.slots (nd * 16 + at_ / 16).toNat).kind = 5) with h5 | h5
        · right
          have e : saE W nd at_ = 0 := by unfold saE; rw [e1, hf, e2, h5]; rfl
          exact ⟨h5, e, by unfold saS; rw [e, e2]; rfl, base_in h (by omega) (by rw [h5]; decide)⟩
        · left
          have e : saE W nd at_ = 3 := by unfold saE; rw [e1, hf, e2, show ((W.slots (nd * 16 + at_ / 16).toNat).kind != 5) = true from bne_iff_ne.2 h5]; rfl
          exact ⟨h5, e, by unfold saS; rw [e]; rfl⟩
  · left
    have e : saE W nd at_ = 3 := by unfold saE; rw [show (kof W nd != 5) = true from bne_iff_ne.2 hk]; rfl
    exact ⟨hk, e, by unfold saS; rw [e]; rfl⟩
theorem sa_in {W : Wd} (h : snd W) {nd at_ : Int} (h0 : saE W nd at_ = 0) : 0 ≤ saS W nd at_ ∧ saS W nd at_ < W.nSlots := by
  have z := h.1.slots
  rcases sa_cases h nd at_ with ⟨_, e, _⟩ | ⟨_, _, e, _⟩ | ⟨_, _, hn, ha, hh⟩
  · rw [e] at h0; cases h0
  · rw [e] at h0; cases h0
  · rcases hh with ⟨_, _, e, e1, e2⟩ | ⟨_, _, hh⟩
    · rw [e]; exact ⟨e1, e2⟩
    · rcases hh with ⟨_, e, _⟩ | ⟨_, _, e, e1⟩
      · rw [e] at h0; cases h0
      · rw [e]; omega
theorem ka_none {W : Wd} {nd at_ kd rt v : Int} (h : kaE W nd at_ kd rt = v) (hv : v ≠ 0) : kaK W nd at_ kd rt = zSl := by
  unfold kaK; rw [show (kaE W nd at_ kd rt == 0) = false from beq_eq_false_iff_ne.2 (by rw [h]; exact hv)]; rfl
theorem ka_eq {W : Wd} {nd at_ kd rt : Int} (h : (saE W nd at_ != 0) = false) : kaE W nd at_ kd rt = keE W (saS W nd at_) kd rt := by
  unfold kaE; rw [notF (b := saE W nd at_ == 0) h]; rfl
structure X_isSound where
  (W : Wd)
def s_isSound : Sy.Spec := ⟨X_isSound, fun ⟨W⟩ => [wSV W], fun _ => [], fun ⟨W⟩ => Sm W, fun ⟨W⟩ => .v (.bool (wE W == 0)), fun _ => [],
  fun args mem => match args with | [a0] => some ⟨wSVD a0⟩ | _ => none⟩
def c_isSound : Con := ⟨[], s_isSound.g, none⟩
def V_isSound : X_isSound → Prop := fun ⟨W⟩ => let a0:=W.nKinds;let b0:=W.nSlots;let c0:=W.nTasks;let d0:=W.nLines;let e0:=W.nCores;let g0:=W.nReady;True∧(((((((((((((True∧W.nRam=W.nRam∧(∀h0:Nat,h0<W.nRam→True∧W.ram h0=W.ram h0))∧a0=a0∧(∀k0:Nat,k0<a0→True∧W.kinds k0=W.kinds k0))∧b0=b0∧(∀l0:Nat,let o0:=W.slots l0;let q0:=o0.kind;let u0:=o0.base;let v0:=o0.len;let w0:=o0.mark;let x0:=o0.rights;let y0:=o0.badge;let z0:=o0.from_;l0<b0→((((((True∧q0=q0)∧u0=u0)∧v0=v0)∧w0=w0)∧x0=x0)∧y0=y0)∧z0=z0))∧c0=c0∧(∀a1:Nat,let b1:=W.tasks a1;let c1:=b1.prio;let d1:=b1.node;let e1:=b1.space;let g1:=b1.helper;let h1:=b1.loc;let k1:=b1.word;let l1:=b1.badge;let o1:=b1.owes;let q1:=b1.core;let u1:=b1.dom;a1<c0→(((((((((((((((((((True∧b1.r0=b1.r0)∧b1.r1=b1.r1)∧b1.r2=b1.r2)∧b1.r3=b1.r3)∧b1.r4=b1.r4)∧b1.r5=b1.r5)∧b1.r6=b1.r6)∧b1.r7=b1.r7)∧b1.pc=b1.pc)∧b1.st=b1.st)∧c1=c1)∧d1=d1)∧e1=e1)∧g1=g1)∧h1=h1)∧k1=k1)∧l1=l1)∧o1=o1)∧q1=q1)∧u1=u1))∧d0=d0∧(∀v1:Nat,let w1:=W.linesN v1;v1<d0→True∧w1=w1∧(∀x1:Nat,x1<w1→True∧W.lines v1 x1=W.lines v1 x1)))∧W.nBits=W.nBits∧(∀y1:Nat,y1<W.nBits→True∧W.bits y1=W.bits y1))∧e0=e0∧(∀z1:Nat,z1<e0→True∧W.cores z1=W.cores z1))∧g0=g0∧(∀a2:Nat,let b2:=W.readyN a2;a2<g0→True∧b2=b2∧(∀c2:Nat,c2<b2→True∧W.ready a2 c2=W.ready a2 c2)))∧W.nTlbs=W.nTlbs∧(∀d2:Nat,let e2:=W.tlbsN d2;d2<W.nTlbs→True∧e2=e2∧(∀g2:Nat,let h2:=W.tlbs d2 g2;let k2:=h2.sp;let l2:=h2.pg;let o2:=h2.fr;let q2:=h2.wr;g2<e2→(((True∧k2=k2)∧l2=l2)∧o2=o2)∧q2=q2)))∧W.nDoms=W.nDoms∧(∀u2:Nat,u2<W.nDoms→True∧W.doms u2=W.doms u2))∧W.time=W.time)∧True)∧True∧
    s_worldMay.match_1 (fun v2:X_worldMay=>Prop) (X_worldMay.mk W) (fun w2:Wd=>Sm w2))∧(wE W==0)=(wE W==0)∧True
theorem ok_isSound : FnOK Tryd.prog glN 107 c_isSound := ok_of (.cons ok_worldMay .nil) false Tryd.call107 Tryd.func107 (fun _ => []) (V := V_isSound) (fun _ => by kernel_rfl) fun ⟨W⟩ hp => by
  dsimp only [s_isSound] at hp
  dsimp only [V_isSound, tn, w64]
  simp only [std, stb, eq_self, implies_true, Bool.cond_self]
  exact hp
structure X_lSound where
  (W : Wd)
def s_lSound : Sy.Spec := ⟨X_lSound, fun ⟨W⟩ => [wSV W], fun _ => [], fun ⟨W⟩ => Sm W, fun ⟨W⟩ => .v (.int .i64 (bif wE W == 0 then 0 else 8)), fun _ => [],
  fun args mem => match args with | [a0] => some ⟨wSVD a0⟩ | _ => none⟩
def c_lSound : Con := ⟨[], s_lSound.g, none⟩
def V_lSound : X_lSound → Prop := fun ⟨W⟩ => let a0:=W.nKinds;let b0:=W.nSlots;let c0:=W.nTasks;let d0:=W.nLines;let e0:=W.nCores;let g0:=W.nReady;let h0:=wE W==0;let k0:Int:=cond h0 0 8;True∧(((((((((((((True∧W.nRam=W.nRam∧(∀l0:Nat,l0<W.nRam→True∧W.ram l0=W.ram l0))∧a0=a0∧(∀o0:Nat,o0<a0→True∧W.kinds o0=W.kinds o0))∧b0=b0∧(∀q0:Nat,let u0:=W.slots q0;let v0:=u0.kind;let w0:=u0.base;let x0:=u0.len;let y0:=u0.mark;let z0:=u0.rights;let a1:=u0.badge;let b1:=u0.from_;q0<b0→((((((True∧v0=v0)∧w0=w0)∧x0=x0)∧y0=y0)∧z0=z0)∧a1=a1)∧b1=b1))∧c0=c0∧(∀c1:Nat,let d1:=W.tasks c1;let e1:=d1.prio;let g1:=d1.node;let h1:=d1.space;let k1:=d1.helper;let l1:=d1.loc;let o1:=d1.word;let q1:=d1.badge;let u1:=d1.owes;let v1:=d1.core;let w1:=d1.dom;c1<c0→(((((((((((((((((((True∧d1.r0=d1.r0)∧d1.r1=d1.r1)∧d1.r2=d1.r2)∧d1.r3=d1.r3)∧d1.r4=d1.r4)∧d1.r5=d1.r5)∧d1.r6=d1.r6)∧d1.r7=d1.r7)∧d1.pc=d1.pc)∧d1.st=d1.st)∧e1=e1)∧g1=g1)∧h1=h1)∧k1=k1)∧l1=l1)∧o1=o1)∧q1=q1)∧u1=u1)∧v1=v1)∧w1=w1))∧d0=d0∧(∀x1:Nat,let y1:=W.linesN x1;x1<d0→True∧y1=y1∧(∀z1:Nat,z1<y1→True∧W.lines x1 z1=W.lines x1 z1)))∧W.nBits=W.nBits∧(∀a2:Nat,a2<W.nBits→True∧W.bits a2=W.bits a2))∧e0=e0∧(∀b2:Nat,b2<e0→True∧W.cores b2=W.cores b2))∧g0=g0∧(∀c2:Nat,let d2:=W.readyN c2;c2<g0→True∧d2=d2∧(∀e2:Nat,e2<d2→True∧W.ready c2 e2=W.ready c2 e2)))∧W.nTlbs=W.nTlbs∧(∀g2:Nat,let h2:=W.tlbsN g2;g2<W.nTlbs→True∧h2=h2∧(∀k2:Nat,let l2:=W.tlbs g2 k2;let o2:=l2.sp;let q2:=l2.pg;let u2:=l2.fr;let v2:=l2.wr;k2<h2→(((True∧o2=o2)∧q2=q2)∧u2=u2)∧v2=v2)))∧W.nDoms=W.nDoms∧(∀w2:Nat,w2<W.nDoms→True∧W.doms w2=W.doms w2))∧
    W.time=W.time)∧True)∧True∧s_isSound.match_1 (fun x2:X_isSound=>Prop) (X_isSound.mk W) (fun y2:Wd=>Sm y2))∧(h0=true→0=k0∧True)∧(h0=false→8=k0∧True)
theorem ok_lSound : FnOK Tryd.prog glN 61 c_lSound := ok_of (.cons ok_isSound .nil) false Tryd.call61 Tryd.func61 (fun _ => []) (V := V_lSound) (fun _ => by kernel_rfl) fun ⟨W⟩ hp => by
  dsimp only [s_lSound] at hp
  dsimp only [V_lSound, tn, w64]
  simp only [std, stb, eq_self, implies_true, Bool.cond_self]
  exact ⟨hp, fun h => by rw [h]; rfl, fun h => by rw [h]; rfl⟩
structure X_slotAt where
  (W : Wd) (nd at_ : Int)
def s_slotAt : Sy.Spec := ⟨X_slotAt, fun ⟨W, nd, at_⟩ => [wPT W, .v (.int .i64 nd), .v (.int .i64 at_)], fun _ => [], fun ⟨W, _, _⟩ => snd W, fun ⟨W, nd, at_⟩ => .tp 2 (lsv [.v (.int .i64 (saS W nd at_)), .v (.int .i64 (saE W nd at_))]), fun _ => [],
  fun args mem => match args with | [a0, a1, a2] => some ⟨wPTD a0, intD (a1), intD (a2)⟩ | _ => none⟩
def c_slotAt : Con := ⟨[], s_slotAt.g, none⟩
def V_slotAt : X_slotAt → Prop := fun ⟨W, nd, at_⟩ => let a0:=W.nKinds;let b0:=W.nSlots;let c0:=W.nTasks;let d0:=W.nLines;let e0:=W.nCores;let g0:=W.nReady;let h0:=True∧True;let k0:=kof W nd !=5;let l0:=saS W nd at_;let o0:=True∧0=l0;let q0:=saE W nd at_;let u0:=(o0∧3=q0)∧True;let v0:Int:=nd*16;let w0:=w64 v0=v0;let x0:Int:=v0+at_;let y0:=0=q0;let z0:Int:=v0+at_/16;let a1:=W.slots (Int.toNat z0);let b1:=a1.kind !=5;let c1:Int:=a1.base*16;let d1:Int:=c1+at_%16;(((((((((((((True∧W.nRam=W.nRam∧(∀e1:Nat,e1<W.nRam→True∧W.ram e1=W.ram e1))∧a0=a0∧(∀g1:Nat,g1<a0→True∧W.kinds g1=W.kinds g1))∧b0=b0∧(∀h1:Nat,let k1:=W.slots h1;let l1:=k1.kind;let o1:=k1.base;let q1:=k1.len;let u1:=k1.mark;let v1:=k1.rights;let w1:=k1.badge;let x1:=k1.from_;h1<b0→((((((True∧l1=l1)∧o1=o1)∧q1=q1)∧u1=u1)∧v1=v1)∧w1=w1)∧x1=x1))∧c0=c0∧(∀y1:Nat,let z1:=W.tasks y1;let a2:=z1.prio;let b2:=z1.node;let c2:=z1.space;let d2:=z1.helper;let e2:=z1.loc;let g2:=z1.word;let h2:=z1.badge;let k2:=z1.owes;let l2:=z1.core;let o2:=z1.dom;y1<c0→(((((((((((((((((((True∧z1.r0=z1.r0)∧z1.r1=z1.r1)∧z1.r2=z1.r2)∧z1.r3=z1.r3)∧z1.r4=z1.r4)∧z1.r5=z1.r5)∧z1.r6=z1.r6)∧z1.r7=z1.r7)∧z1.pc=z1.pc)∧z1.st=z1.st)∧a2=a2)∧b2=b2)∧c2=c2)∧d2=d2)∧e2=e2)∧g2=g2)∧h2=h2)∧k2=k2)∧l2=l2)∧o2=o2))∧d0=d0∧(∀q2:Nat,let u2:=W.linesN q2;q2<d0→True∧u2=u2∧(∀v2:Nat,v2<u2→True∧W.lines q2 v2=W.lines q2 v2)))∧W.nBits=W.nBits∧(∀w2:Nat,w2<W.nBits→True∧W.bits w2=W.bits w2))∧e0=e0∧(∀x2:Nat,x2<e0→True∧W.cores x2=W.cores x2))∧g0=g0∧(∀y2:Nat,let z2:=W.readyN y2;y2<g0→True∧z2=z2∧(∀a3:Nat,a3<z2→True∧W.ready y2 a3=W.ready y2 a3)))∧
    W.nTlbs=W.nTlbs∧(∀b3:Nat,let c3:=W.tlbsN b3;b3<W.nTlbs→True∧c3=c3∧(∀d3:Nat,let e3:=W.tlbs b3 d3;let g3:=e3.sp;let h3:=e3.pg;let k3:=e3.fr;let l3:=e3.wr;d3<c3→(((True∧g3=g3)∧h3=h3)∧k3=k3)∧l3=l3)))∧W.nDoms=W.nDoms∧(∀o3:Nat,o3<W.nDoms→True∧W.doms o3=W.doms o3))∧W.time=W.time)∧nd=nd∧True)∧h0)∧(k0=true→u0)∧(k0=false→((at_=at_∧(255:Int)=255∧True)∧h0)∧(farB at_ 255=true→(o0∧2=q0)∧True)∧(farB at_ 255=false→(decide (at_<16)=true→w0∧w64 x0=x0∧((True∧x0=l0)∧y0)∧True)∧(decide (at_<16)=false→w0∧(0≤at_∧(0:Int)<16∧w64 (at_/16)=at_/16)∧w64 z0=z0∧(0≤z0∧z0<(b0:Int))∧True∧tn 4 h0∧(b1=true→u0)∧(b1=false→w64 c1=c1∧(0≤at_∧(0:Int)<16)∧w64 d1=d1∧((True∧d1=l0)∧y0)∧True))))
set_option maxHeartbeats 1000000 in
theorem ok_slotAt : FnOK Tryd.prog glN 64 c_slotAt := ok_of (.cons ok_far (.cons ok_kindOf .nil)) false Tryd.call64 Tryd.func64 (fun _ => []) (V := V_slotAt) (fun _ => by kernel_rfl) fun ⟨W, nd, at_⟩ hp => by
  dsimp only [s_slotAt] at hp
  dsimp only [V_slotAt, tn, w64]
  simp only [std, stb, eq_self, implies_true, Bool.cond_self]
  have z1 := hp.1.slots
  have z2 := hp.1.k1
  have wr : ∀ z : Int, -100000 ≤ z → z ≤ 100000 → IntKind.i64.wrap z = z := fun z h1 h2 => by rw [IntKind.wrap_i64]; omega
  rcases sa_cases hp nd at_ with ⟨hk, e1, e2⟩ | ⟨hk, hf, e1, e2⟩ | ⟨hk, hf, hn, ha, hh⟩
  · rw [e1, e2]; exact ⟨fun _ => ⟨rfl, rfl⟩, fun h => absurd (by simpa using h) hk⟩
  · rw [e1, e2, hf]; exact ⟨fun h => absurd hk (by simpa using h), fun _ => ⟨fun _ => ⟨rfl, rfl⟩, fun h => by cases h⟩⟩
  · rw [hf]
    refine ⟨fun h => absurd hk (by simpa using h), fun _ => ⟨fun h => (by cases h), fun _ => ⟨fun h => ?_, fun h => ?_⟩⟩⟩
    · have h := of_decide_eq_true h
      rcases hh with ⟨_, e1, e2, _⟩ | ⟨h16, _⟩
      · rw [e1, e2]; exact ⟨wr _ (by omega) (by omega), wr _ (by omega) (by omega), rfl, rfl⟩
      · omega
    · have h := of_decide_eq_false h
      rcases hh with ⟨h16, _⟩ | ⟨h16, hi, hh⟩
      · omega
      · refine ⟨wr _ (by omega) (by omega), ⟨by omega, by decide, wr _ (by omega) (by omega)⟩, wr _ (by omega) (by omega), hi, fun h5 => ?_, fun h5 => ?_⟩
        · rcases hh with ⟨_, e1, e2⟩ | ⟨h6, _⟩
          · rw [e1, e2]; exact ⟨rfl, rfl⟩
          · exact absurd h6 (by simpa using h5)
        · rcases hh with ⟨h6, _⟩ | ⟨_, e1, e2, hb⟩
          · exact absurd (by simpa using h5) h6
          · rw [e1, e2]; exact ⟨wr _ (by omega) (by omega), ⟨by omega, by decide⟩, wr _ (by omega) (by omega), rfl, rfl⟩
structure X_keyAtR where
  (W : Wd) (nd at_ kd rt : Int)
def s_keyAtR : Sy.Spec := ⟨X_keyAtR, fun ⟨W, nd, at_, kd, rt⟩ => [wPT W, .v (.int .i64 nd), .v (.int .i64 at_), .v (.int .i64 kd), .v (.int .i64 rt)], fun _ => [], fun ⟨W, _, _, _, _⟩ => snd W, fun ⟨W, nd, at_, kd, rt⟩ => .tp 2 (lsv [.ag 6 (lsv (kyL (kaK W nd at_ kd rt))), .v (.int .i64 (kaE W nd at_ kd rt))]), fun _ => [],
  fun args mem => match args with | [a0, a1, a2, a3, a4] => some ⟨wPTD a0, intD (a1), intD (a2), intD (a3), intD (a4)⟩ | _ => none⟩
def c_keyAtR : Con := ⟨[], s_keyAtR.g, none⟩
def V_keyAtR : X_keyAtR → Prop := fun ⟨W, nd, at_, kd, rt⟩ => let a0:=W.nKinds;let b0:=W.nSlots;let c0:=W.nTasks;let d0:=W.nLines;let e0:=W.nCores;let g0:=W.nReady;let h0:=saE W nd at_ !=0;let k0:=tn 5 True;let l0:=kaK W nd at_ kd rt;let o0:=l0.kind;let q0:=l0.base;let u0:=l0.len;let v0:=l0.mark;let w0:=l0.rights;let x0:=l0.badge;let y0:=True∧(((((True∧0=o0)∧0=q0)∧0=u0)∧0=v0)∧0=w0)∧0=x0;let z0:=kaE W nd at_ kd rt;let a1:=saS W nd at_;let b1:=W.slots (Int.toNat a1);let c1:=b1.kind;let d1:=c1==0;let e1:=c1 !=kd;let g1:=b1.rights;let h1:=bitsI BinOp.and IntKind.i64 g1 rt !=rt;True∧(((((((((((((True∧W.nRam=W.nRam∧(∀k1:Nat,k1<W.nRam→True∧W.ram k1=W.ram k1))∧a0=a0∧(∀l1:Nat,l1<a0→True∧W.kinds l1=W.kinds l1))∧b0=b0∧(∀o1:Nat,let q1:=W.slots o1;let u1:=q1.kind;let v1:=q1.base;let w1:=q1.len;let x1:=q1.mark;let y1:=q1.rights;let z1:=q1.badge;let a2:=q1.from_;o1<b0→((((((True∧u1=u1)∧v1=v1)∧w1=w1)∧x1=x1)∧y1=y1)∧z1=z1)∧a2=a2))∧c0=c0∧(∀b2:Nat,let c2:=W.tasks b2;let d2:=c2.prio;let e2:=c2.node;let g2:=c2.space;let h2:=c2.helper;let k2:=c2.loc;let l2:=c2.word;let o2:=c2.badge;let q2:=c2.owes;let u2:=c2.core;let v2:=c2.dom;b2<c0→(((((((((((((((((((True∧c2.r0=c2.r0)∧c2.r1=c2.r1)∧c2.r2=c2.r2)∧c2.r3=c2.r3)∧c2.r4=c2.r4)∧c2.r5=c2.r5)∧c2.r6=c2.r6)∧c2.r7=c2.r7)∧c2.pc=c2.pc)∧c2.st=c2.st)∧d2=d2)∧e2=e2)∧g2=g2)∧h2=h2)∧k2=k2)∧l2=l2)∧o2=o2)∧q2=q2)∧u2=u2)∧v2=v2))∧d0=d0∧(∀w2:Nat,let x2:=W.linesN w2;w2<d0→True∧x2=x2∧(∀y2:Nat,y2<x2→True∧W.lines w2 y2=W.lines w2 y2)))∧W.nBits=W.nBits∧(∀z2:Nat,z2<W.nBits→True∧W.bits z2=W.bits z2))∧e0=e0∧(∀a3:Nat,a3<e0→True∧
    W.cores a3=W.cores a3))∧g0=g0∧(∀b3:Nat,let c3:=W.readyN b3;b3<g0→True∧c3=c3∧(∀d3:Nat,d3<c3→True∧W.ready b3 d3=W.ready b3 d3)))∧W.nTlbs=W.nTlbs∧(∀e3:Nat,let g3:=W.tlbsN e3;e3<W.nTlbs→True∧g3=g3∧(∀h3:Nat,let k3:=W.tlbs e3 h3;let l3:=k3.sp;let o3:=k3.pg;let q3:=k3.fr;let u3:=k3.wr;h3<g3→(((True∧l3=l3)∧o3=o3)∧q3=q3)∧u3=u3)))∧W.nDoms=W.nDoms∧(∀v3:Nat,v3<W.nDoms→True∧W.doms v3=W.doms v3))∧W.time=W.time)∧nd=nd∧at_=at_∧True)∧True∧Szd W∧(∀w3:Nat,w3<b0→slB W w3=true))∧(h0=true→k0∧(y0∧saE W nd at_=z0)∧True)∧(h0=false→(0≤a1∧a1<(b0:Int))∧True∧k0∧(d1=true→k0∧(y0∧6=z0)∧True)∧(d1=false→(e1=true→k0∧(y0∧3=z0)∧True)∧(e1=false→(h1=true→k0∧(y0∧4=z0)∧True)∧(h1=false→k0∧((True∧(((((True∧c1=o0)∧b1.base=q0)∧b1.len=u0)∧b1.mark=v0)∧g1=w0)∧b1.badge=x0)∧0=z0)∧True))))
set_option maxHeartbeats 1000000 in
theorem ok_keyAtR : FnOK Tryd.prog glN 65 c_keyAtR := ok_of (.cons ok_slotAt .nil) false Tryd.call65 Tryd.func65 (fun _ => []) (V := V_keyAtR) (fun _ => by kernel_rfl) fun ⟨W, nd, at_, kd, rt⟩ hp => by
  dsimp only [s_keyAtR] at hp
  dsimp only [V_keyAtR, tn, w64]
  simp only [std, stb, eq_self, implies_true, Bool.cond_self]
  refine ⟨hp, fun h => ?_, fun h => ⟨sa_in hp (eq_of_beq (notF (b := saE W nd at_ == 0) h)), fun h1 => ?_, fun h1 => ⟨fun h2 => ?_, fun h2 => ⟨fun h3 => ?_, fun h3 => ?_⟩⟩⟩⟩
  · have e : kaE W nd at_ kd rt = saE W nd at_ := by unfold kaE; rw [notT (b := saE W nd at_ == 0) h]; rfl
    rw [ka_none e (by simpa using h), e]; exact ⟨⟨⟨⟨⟨⟨rfl, rfl⟩, rfl⟩, rfl⟩, rfl⟩, rfl⟩, rfl⟩
  · have e : kaE W nd at_ kd rt = 6 := by rw [ka_eq h]; unfold keE; rw [h1]; rfl
    rw [ka_none e (by decide), e]; exact ⟨⟨⟨⟨⟨⟨rfl, rfl⟩, rfl⟩, rfl⟩, rfl⟩, rfl⟩, rfl⟩
  · have e : kaE W nd at_ kd rt = 3 := by rw [ka_eq h]; unfold keE; rw [h1, h2]; rfl
    rw [ka_none e (by decide), e]; exact ⟨⟨⟨⟨⟨⟨rfl, rfl⟩, rfl⟩, rfl⟩, rfl⟩, rfl⟩, rfl⟩
  · have e : kaE W nd at_ kd rt = 4 := by rw [ka_eq h]; unfold keE; rw [h1, h2, h3]; rfl
    rw [ka_none e (by decide), e]; exact ⟨⟨⟨⟨⟨⟨rfl, rfl⟩, rfl⟩, rfl⟩, rfl⟩, rfl⟩, rfl⟩
  · have e : kaE W nd at_ kd rt = 0 := by rw [ka_eq h]; unfold keE; rw [h1, h2, h3]; rfl
    have k : kaK W nd at_ kd rt = W.slots (saS W nd at_).toNat := by unfold kaK; rw [e]; rfl
    rw [k, e]; exact ⟨⟨⟨⟨⟨⟨rfl, rfl⟩, rfl⟩, rfl⟩, rfl⟩, rfl⟩, rfl⟩
structure X_seek where
  (W : Wd) (nd at_ : Int)
def s_seek : Sy.Spec := ⟨X_seek, fun ⟨W, nd, at_⟩ => [wPT W, .v (.int .i64 nd), .v (.int .i64 at_)], fun _ => [], fun ⟨W, _, _⟩ => snd W, fun ⟨W, nd, at_⟩ => .tp 2 (lsv [.v (.int .i64 (saS W nd at_)), .er 22 25 (saE W nd at_) (-1)]), fun _ => [],
  fun args mem => match args with | [a0, a1, a2] => some ⟨wPTD a0, intD (a1), intD (a2)⟩ | _ => none⟩
def c_seek : Con := ⟨[], s_seek.g, none⟩
def V_seek : X_seek → Prop := fun ⟨W, nd, at_⟩ => let a0:=cond (decide (nd<0)) true (decide (((W.nKinds:Nat):Int)≤nd));let b0:=cond a0 true (W.kinds (Int.toNat nd) !=5);let c0:=saS W nd at_;let d0:=True∧0=c0;let e0:=saE W nd at_;let g0:=((-1):Int)=(-1);let h0:=(d0∧(3:Int)≠0∧e0=3∧g0)∧True;let k0:=cond (decide (at_<0)) true (decide (255<at_));let l0:Int:=nd*16;let o0:=w64 l0=l0;let q0:Int:=l0+at_;let r0:=e0=0∧g0;let u0:Int:=l0+at_/16;let v0:=W.slots (Int.toNat u0);let w0:=v0.kind !=5;let x0:Int:=v0.base*16;let y0:Int:=x0+at_%16;(a0=false→0≤nd∧nd<((W.nKinds:Nat):Int))∧(b0=true→h0)∧(b0=false→(k0=true→(d0∧(2:Int)≠0∧e0=2∧g0)∧True)∧(k0=false→(decide (at_<16)=true→o0∧w64 q0=q0∧((True∧q0=c0)∧r0)∧True)∧(decide (at_<16)=false→o0∧(0≤at_∧(0:Int)<16∧w64 (at_/16)=at_/16)∧w64 u0=u0∧(0≤u0∧u0<((W.nSlots:Nat):Int))∧True∧tn 5 True∧(w0=true→h0)∧(w0=false→w64 x0=x0∧(0≤at_∧(0:Int)<16)∧w64 y0=y0∧((True∧y0=c0)∧r0)∧True))))
set_option maxHeartbeats 1000000 in
theorem ok_seek : FnOK Tryd.prog glN 111 c_seek := ok_of .nil false Tryd.call111 Tryd.func111 (fun _ => []) (V := V_seek) (fun _ => by kernel_rfl) fun ⟨W, nd, at_⟩ hp => by
  dsimp only [s_seek] at hp
  dsimp only [V_seek, tn, w64]
  simp only [std, stb, eq_self, implies_true, Bool.cond_self]
  have z1 := hp.1.slots
  have z2 := hp.1.k1
  have wr : ∀ z : Int, -100000 ≤ z → z ≤ 100000 → IntKind.i64.wrap z = z := fun z h1 h2 => by rw [IntKind.wrap_i64]; omega
  rw [kofN (by decide), show (decide (at_ < 0) || decide (255 < at_)) = farB at_ 255 from rfl]
  rcases sa_cases hp nd at_ with ⟨hk, e1, e2⟩ | ⟨hk, hf, e1, e2⟩ | ⟨hk, hf, hn, ha, hh⟩
  · rw [e1, e2]; exact ⟨fun h => by simp only [Bool.or_eq_false_iff, decide_eq_false_iff_not] at h; omega, fun _ => ⟨rfl, by decide, rfl⟩, fun h => absurd (by simpa using h) hk⟩
  · rw [e1, e2, hf]; exact ⟨fun h => by simp only [Bool.or_eq_false_iff, decide_eq_false_iff_not] at h; omega, fun h => absurd hk (by simpa using h), fun _ => ⟨fun _ => ⟨rfl, by decide, rfl⟩, fun h => by cases h⟩⟩
  · rw [hf]
    refine ⟨fun h => by simp only [Bool.or_eq_false_iff, decide_eq_false_iff_not] at h; omega, fun h => absurd hk (by simpa using h), fun _ => ⟨fun h => (by cases h), fun _ => ⟨fun h => ?_, fun h => ?_⟩⟩⟩
    · have h := of_decide_eq_true h
      rcases hh with ⟨_, e1, e2, _⟩ | ⟨h16, _⟩
      · rw [e1, e2]; exact ⟨wr _ (by omega) (by omega), wr _ (by omega) (by omega), rfl, rfl⟩
      · omega
    · have h := of_decide_eq_false h
      rcases hh with ⟨h16, _⟩ | ⟨h16, hi, hh⟩
      · omega
      · refine ⟨wr _ (by omega) (by omega), ⟨by omega, by decide, wr _ (by omega) (by omega)⟩, wr _ (by omega) (by omega), hi, fun h5 => ?_, fun h5 => ?_⟩
        · rcases hh with ⟨_, e1, e2⟩ | ⟨h6, _⟩
          · rw [e1, e2]; exact ⟨rfl, by decide, rfl⟩
          · exact absurd h6 (by simpa using h5)
        · rcases hh with ⟨h6, _⟩ | ⟨_, e1, e2, hb⟩
          · exact absurd (by simpa using h5) h6
          · rw [e1, e2]; exact ⟨wr _ (by omega) (by omega), ⟨by omega, by decide⟩, wr _ (by omega) (by omega), rfl, rfl⟩
structure X_sKey where
  (W : Wd) (nd at_ kd rt : Int)
def s_sKey : Sy.Spec := ⟨X_sKey, fun ⟨W, nd, at_, kd, rt⟩ => [wPT W, .v (.int .i64 nd), .v (.int .i64 at_), .v (.int .i64 kd), .v (.int .i64 rt)], fun _ => [], fun ⟨W, _, _, _, _⟩ => snd W, fun ⟨W, nd, at_, kd, rt⟩ => .tp 2 (lsv [.ag 6 (lsv (kyL (kaK W nd at_ kd rt))), .er 22 25 (kaE W nd at_ kd rt) (-1)]), fun _ => [],
  fun args mem => match args with | [a0, a1, a2, a3, a4] => some ⟨wPTD a0, intD (a1), intD (a2), intD (a3), intD (a4)⟩ | _ => none⟩
def c_sKey : Con := ⟨[], s_sKey.g, none⟩
def V_sKey : X_sKey → Prop := fun ⟨W, nd, at_, kd, rt⟩ => let a0:=W.nKinds;let b0:=W.nSlots;let c0:=W.nTasks;let d0:=W.nLines;let e0:=W.nCores;let g0:=W.nReady;let h0:=saE W nd at_ !=0;let k0:=tn 5 True;let l0:=kaK W nd at_ kd rt;let o0:=l0.kind;let q0:=l0.base;let u0:=l0.len;let v0:=l0.mark;let w0:=l0.rights;let x0:=l0.badge;let y0:=True∧(((((True∧0=o0)∧0=q0)∧0=u0)∧0=v0)∧0=w0)∧0=x0;let z0:=kaE W nd at_ kd rt;let a1:=((-1):Int)=(-1);let b1:=saS W nd at_;let c1:=W.slots (Int.toNat b1);let d1:=c1.kind;let e1:=d1==0;let g1:=d1 !=kd;let h1:=c1.rights;let k1:=bitsI BinOp.and IntKind.i64 h1 rt !=rt;True∧(((((((((((((True∧W.nRam=W.nRam∧(∀l1:Nat,l1<W.nRam→True∧W.ram l1=W.ram l1))∧a0=a0∧(∀o1:Nat,o1<a0→True∧W.kinds o1=W.kinds o1))∧b0=b0∧(∀q1:Nat,let u1:=W.slots q1;let v1:=u1.kind;let w1:=u1.base;let x1:=u1.len;let y1:=u1.mark;let z1:=u1.rights;let a2:=u1.badge;let b2:=u1.from_;q1<b0→((((((True∧v1=v1)∧w1=w1)∧x1=x1)∧y1=y1)∧z1=z1)∧a2=a2)∧b2=b2))∧c0=c0∧(∀c2:Nat,let d2:=W.tasks c2;let e2:=d2.prio;let g2:=d2.node;let h2:=d2.space;let k2:=d2.helper;let l2:=d2.loc;let o2:=d2.word;let q2:=d2.badge;let u2:=d2.owes;let v2:=d2.core;let w2:=d2.dom;c2<c0→(((((((((((((((((((True∧d2.r0=d2.r0)∧d2.r1=d2.r1)∧d2.r2=d2.r2)∧d2.r3=d2.r3)∧d2.r4=d2.r4)∧d2.r5=d2.r5)∧d2.r6=d2.r6)∧d2.r7=d2.r7)∧d2.pc=d2.pc)∧d2.st=d2.st)∧e2=e2)∧g2=g2)∧h2=h2)∧k2=k2)∧l2=l2)∧o2=o2)∧q2=q2)∧u2=u2)∧v2=v2)∧w2=w2))∧d0=d0∧(∀x2:Nat,let y2:=W.linesN x2;x2<d0→True∧y2=y2∧(∀z2:Nat,z2<y2→True∧W.lines x2 z2=W.lines x2 z2)))∧W.nBits=W.nBits∧(∀a3:Nat,a3<W.nBits→True∧W.bits a3=W.bits a3))∧e0=e0∧(∀b3:Nat,
    b3<e0→True∧W.cores b3=W.cores b3))∧g0=g0∧(∀c3:Nat,let d3:=W.readyN c3;c3<g0→True∧d3=d3∧(∀e3:Nat,e3<d3→True∧W.ready c3 e3=W.ready c3 e3)))∧W.nTlbs=W.nTlbs∧(∀g3:Nat,let h3:=W.tlbsN g3;g3<W.nTlbs→True∧h3=h3∧(∀k3:Nat,let l3:=W.tlbs g3 k3;let o3:=l3.sp;let q3:=l3.pg;let u3:=l3.fr;let v3:=l3.wr;k3<h3→(((True∧o3=o3)∧q3=q3)∧u3=u3)∧v3=v3)))∧W.nDoms=W.nDoms∧(∀w3:Nat,w3<W.nDoms→True∧W.doms w3=W.doms w3))∧W.time=W.time)∧nd=nd∧at_=at_∧True)∧True∧Szd W∧(∀x3:Nat,x3<b0→slB W x3=true))∧(h0=true→k0∧(y0∧saE W nd at_=z0∧a1)∧True)∧(h0=false→(0≤b1∧b1<(b0:Int))∧True∧k0∧(e1=true→k0∧(y0∧(6:Int)≠0∧z0=6∧a1)∧True)∧(e1=false→(g1=true→k0∧(y0∧(3:Int)≠0∧z0=3∧a1)∧True)∧(g1=false→(k1=true→k0∧(y0∧(4:Int)≠0∧z0=4∧a1)∧True)∧(k1=false→k0∧((True∧(((((True∧d1=o0)∧c1.base=q0)∧c1.len=u0)∧c1.mark=v0)∧h1=w0)∧c1.badge=x0)∧z0=0∧a1)∧True))))
set_option maxHeartbeats 1000000 in
theorem ok_sKey : FnOK Tryd.prog glN 112 c_sKey := ok_of (.cons ok_seek .nil) false Tryd.call112 Tryd.func112 (fun _ => []) (V := V_sKey) (fun _ => by kernel_rfl) fun ⟨W, nd, at_, kd, rt⟩ hp => by
  dsimp only [s_sKey] at hp
  dsimp only [V_sKey, tn, w64]
  simp only [std, stb, eq_self, implies_true, Bool.cond_self]
  refine ⟨hp, fun h => ?_, fun h => ⟨sa_in hp (eq_of_beq (notF (b := saE W nd at_ == 0) h)), fun h1 => ?_, fun h1 => ⟨fun h2 => ?_, fun h2 => ⟨fun h3 => ?_, fun h3 => ?_⟩⟩⟩⟩
  · have e : kaE W nd at_ kd rt = saE W nd at_ := by unfold kaE; rw [notT (b := saE W nd at_ == 0) h]; rfl
    rw [ka_none e (by simpa using h), e]; exact ⟨⟨⟨⟨⟨⟨rfl, rfl⟩, rfl⟩, rfl⟩, rfl⟩, rfl⟩, rfl⟩
  · have e : kaE W nd at_ kd rt = 6 := by rw [ka_eq h]; unfold keE; rw [h1]; rfl
    rw [ka_none e (by decide), e]; exact ⟨⟨⟨⟨⟨⟨rfl, rfl⟩, rfl⟩, rfl⟩, rfl⟩, rfl⟩, ⟨by decide, rfl⟩⟩
  · have e : kaE W nd at_ kd rt = 3 := by rw [ka_eq h]; unfold keE; rw [h1, h2]; rfl
    rw [ka_none e (by decide), e]; exact ⟨⟨⟨⟨⟨⟨rfl, rfl⟩, rfl⟩, rfl⟩, rfl⟩, rfl⟩, ⟨by decide, rfl⟩⟩
  · have e : kaE W nd at_ kd rt = 4 := by rw [ka_eq h]; unfold keE; rw [h1, h2, h3]; rfl
    rw [ka_none e (by decide), e]; exact ⟨⟨⟨⟨⟨⟨rfl, rfl⟩, rfl⟩, rfl⟩, rfl⟩, rfl⟩, ⟨by decide, rfl⟩⟩
  · have e : kaE W nd at_ kd rt = 0 := by rw [ka_eq h]; unfold keE; rw [h1, h2, h3]; rfl
    have k : kaK W nd at_ kd rt = W.slots (saS W nd at_).toNat := by unfold kaK; rw [e]; rfl
    rw [k, e]; exact ⟨⟨⟨⟨⟨⟨rfl, rfl⟩, rfl⟩, rfl⟩, rfl⟩, rfl⟩, rfl⟩
end Go.Proofs.YtfmaeiilbhpepaaDoor
set_option linter.unusedVariables false
set_option linter.unusedSimpArgs false
set_option maxRecDepth 100000
namespace Go.Proofs.YtfmaeiilbhpepaaDoor
open Go.RowKit Go.Sy
structure X_is where
  (e a x y : Int)
def s_is : Sy.Spec := ⟨X_is, fun ⟨e, a, x, y⟩ => [.er 22 25 e a, .ag 2 (lsv [.v (.int .i64 x), .v (.int .i64 y)])], fun _ => [], fun _ => True, fun ⟨e, a, x, y⟩ => .v (.bool (e == x && a == y)), fun _ => [],
  fun args mem => match args with | [a0, a1] => some ⟨erE a0, erA a0, intD (agD a1 0), intD (agD a1 1)⟩ | _ => none⟩
def c_is : Con := ⟨[], s_is.g, none⟩
def V_is : X_is → Prop := fun ⟨e, a, x, y⟩ => True∧(((e=e∧a=a)∧True)∧True∧True)∧cond (e==x) (a==y) false=(e==x&&a==y)∧True
theorem ok_is : FnOK Tryd.prog glE 18 c_is := ok_of (.cons ok_tell .nil) false Tryd.call18 Tryd.func18 (fun _ => []) (V := V_is) (fun _ => by kernel_rfl) fun ⟨e, a, x, y⟩ hp => by
  dsimp only [V_is, tn, w64]
  exact ⟨trivial, by simp, by cases e == x <;> rfl, trivial⟩
end Go.Proofs.YtfmaeiilbhpepaaDoor
set_option linter.unusedVariables false
set_option linter.unusedSimpArgs false
set_option maxRecDepth 100000
namespace Go.Proofs.YtfmaeiilbhpepaaDoor
open Go.RowKit Go.Sy
def sfS (W : Wd) (nd at_ : Int) : Int := bif wE W == 0 then saS W nd at_ else 0
def sfE (W : Wd) (nd at_ : Int) : Int := bif wE W == 0 then saE W nd at_ else 8
def sgK (W : Wd) (nd at_ kd rt : Int) : Slt := bif wE W == 0 then kaK W nd at_ kd rt else zSl
def sgE (W : Wd) (nd at_ kd rt : Int) : Int := bif wE W == 0 then kaE W nd at_ kd rt else 8
structure X_sFind where
  (W : Wd) (nd at_ : Int)
def s_sFind : Sy.Spec := ⟨X_sFind, fun ⟨W, nd, at_⟩ => [wSV W, .v (.int .i64 nd), .v (.int .i64 at_)], fun _ => [], fun ⟨W, _, _⟩ => Sm W, fun ⟨W, nd, at_⟩ => .tp 2 (lsv [.v (.int .i64 (sfS W nd at_)), .er 22 25 (sfE W nd at_) (-1)]), fun _ => [],
  fun args mem => match args with | [a0, a1, a2] => some ⟨wSVD a0, intD (a1), intD (a2)⟩ | _ => none⟩
def c_sFind : Con := ⟨[], s_sFind.g, none⟩
def V_sFind : X_sFind → Prop := fun ⟨W, nd, at_⟩ => let a0:=W.nKinds;let b0:=W.nSlots;let c0:=W.nTasks;let d0:=W.nLines;let e0:=W.nCores;let g0:=W.nReady;let h0:=((((((((((True∧W.nRam=W.nRam∧(∀k0:Nat,k0<W.nRam→True∧W.ram k0=W.ram k0))∧a0=a0∧(∀l0:Nat,l0<a0→True∧W.kinds l0=W.kinds l0))∧b0=b0∧(∀o0:Nat,let q0:=W.slots o0;let u0:=q0.kind;let v0:=q0.base;let w0:=q0.len;let x0:=q0.mark;let y0:=q0.rights;let z0:=q0.badge;let a1:=q0.from_;o0<b0→((((((True∧u0=u0)∧v0=v0)∧w0=w0)∧x0=x0)∧y0=y0)∧z0=z0)∧a1=a1))∧c0=c0∧(∀b1:Nat,let c1:=W.tasks b1;let d1:=c1.prio;let e1:=c1.node;let g1:=c1.space;let h1:=c1.helper;let k1:=c1.loc;let l1:=c1.word;let o1:=c1.badge;let q1:=c1.owes;let u1:=c1.core;let v1:=c1.dom;b1<c0→(((((((((((((((((((True∧c1.r0=c1.r0)∧c1.r1=c1.r1)∧c1.r2=c1.r2)∧c1.r3=c1.r3)∧c1.r4=c1.r4)∧c1.r5=c1.r5)∧c1.r6=c1.r6)∧c1.r7=c1.r7)∧c1.pc=c1.pc)∧c1.st=c1.st)∧d1=d1)∧e1=e1)∧g1=g1)∧h1=h1)∧k1=k1)∧l1=l1)∧o1=o1)∧q1=q1)∧u1=u1)∧v1=v1))∧d0=d0∧(∀w1:Nat,let x1:=W.linesN w1;w1<d0→True∧x1=x1∧(∀y1:Nat,y1<x1→True∧W.lines w1 y1=W.lines w1 y1)))∧W.nBits=W.nBits∧(∀z1:Nat,z1<W.nBits→True∧W.bits z1=W.bits z1))∧e0=e0∧(∀a2:Nat,a2<e0→True∧W.cores a2=W.cores a2))∧g0=g0∧(∀b2:Nat,let c2:=W.readyN b2;b2<g0→True∧c2=c2∧(∀d2:Nat,d2<c2→True∧W.ready b2 d2=W.ready b2 d2)))∧W.nTlbs=W.nTlbs∧(∀e2:Nat,let g2:=W.tlbsN e2;e2<W.nTlbs→True∧g2=g2∧(∀h2:Nat,let k2:=W.tlbs e2 h2;let l2:=k2.sp;let o2:=k2.pg;let q2:=k2.fr;let u2:=k2.wr;h2<g2→(((True∧l2=l2)∧o2=o2)∧q2=q2)∧u2=u2)))∧W.nDoms=W.nDoms∧(∀v2:Nat,v2<W.nDoms→True∧W.doms v2=W.doms v2))∧W.time=W.time;True∧((h0∧True)∧True∧
    s_wCheck.match_1 (fun w2:X_wCheck=>Prop) (X_wCheck.mk W) (fun x2:Wd=>Sm x2))∧((wE W !=0)=true→((True∧0=sfS W nd at_)∧(8:Int)≠0∧sfE W nd at_=8∧((-1):Int)=(-1))∧True)∧((wE W !=0)=false→((h0∧nd=nd∧at_=at_∧True)∧True∧Szd W∧(∀y2:Nat,y2<b0→slB W y2=true))∧((True∧saS W nd at_=sfS W nd at_)∧saE W nd at_=sfE W nd at_∧((-1):Int)=(-1))∧True)
set_option maxHeartbeats 1000000 in
theorem ok_sFind : FnOK Tryd.prog glE 66 c_sFind := ok_of (.cons (ok_wCheck.up glN_glE) (.cons (ok_seek.up glN_glE) .nil)) false Tryd.call66 Tryd.func66 (fun _ => []) (V := V_sFind) (fun _ => by kernel_rfl) fun ⟨W, nd, at_⟩ hp => by
  dsimp only [s_sFind] at hp
  dsimp only [V_sFind, tn, w64]
  simp only [std, stb, eq_self, implies_true, Bool.cond_self]
  refine ⟨hp, fun h => ?_, fun h => ⟨snd_of (by simpa using h), ?_⟩⟩
  · unfold sfS sfE; rw [notT (b := wE W == 0) h]; exact ⟨rfl, by decide, rfl⟩
  · unfold sfS sfE; rw [notF (b := wE W == 0) h]; exact ⟨rfl, rfl⟩
structure X_sGet where
  (W : Wd) (nd at_ kd rt : Int)
def s_sGet : Sy.Spec := ⟨X_sGet, fun ⟨W, nd, at_, kd, rt⟩ => [wSV W, .v (.int .i64 nd), .v (.int .i64 at_), .v (.int .i64 kd), .v (.int .i64 rt)], fun _ => [], fun ⟨W, _, _, _, _⟩ => Sm W, fun ⟨W, nd, at_, kd, rt⟩ => .tp 2 (lsv [.ag 6 (lsv (kyL (sgK W nd at_ kd rt))), .er 22 25 (sgE W nd at_ kd rt) (-1)]), fun _ => [],
  fun args mem => match args with | [a0, a1, a2, a3, a4] => some ⟨wSVD a0, intD (a1), intD (a2), intD (a3), intD (a4)⟩ | _ => none⟩
def c_sGet : Con := ⟨[], s_sGet.g, none⟩
def V_sGet : X_sGet → Prop := fun ⟨W, nd, at_, kd, rt⟩ => let a0:=W.nKinds;let b0:=W.nSlots;let c0:=W.nTasks;let d0:=W.nLines;let e0:=W.nCores;let g0:=W.nReady;let h0:=((((((((((True∧W.nRam=W.nRam∧(∀k0:Nat,k0<W.nRam→True∧W.ram k0=W.ram k0))∧a0=a0∧(∀l0:Nat,l0<a0→True∧W.kinds l0=W.kinds l0))∧b0=b0∧(∀o0:Nat,let q0:=W.slots o0;let u0:=q0.kind;let v0:=q0.base;let w0:=q0.len;let x0:=q0.mark;let y0:=q0.rights;let z0:=q0.badge;let a1:=q0.from_;o0<b0→((((((True∧u0=u0)∧v0=v0)∧w0=w0)∧x0=x0)∧y0=y0)∧z0=z0)∧a1=a1))∧c0=c0∧(∀b1:Nat,let c1:=W.tasks b1;let d1:=c1.prio;let e1:=c1.node;let g1:=c1.space;let h1:=c1.helper;let k1:=c1.loc;let l1:=c1.word;let o1:=c1.badge;let q1:=c1.owes;let u1:=c1.core;let v1:=c1.dom;b1<c0→(((((((((((((((((((True∧c1.r0=c1.r0)∧c1.r1=c1.r1)∧c1.r2=c1.r2)∧c1.r3=c1.r3)∧c1.r4=c1.r4)∧c1.r5=c1.r5)∧c1.r6=c1.r6)∧c1.r7=c1.r7)∧c1.pc=c1.pc)∧c1.st=c1.st)∧d1=d1)∧e1=e1)∧g1=g1)∧h1=h1)∧k1=k1)∧l1=l1)∧o1=o1)∧q1=q1)∧u1=u1)∧v1=v1))∧d0=d0∧(∀w1:Nat,let x1:=W.linesN w1;w1<d0→True∧x1=x1∧(∀y1:Nat,y1<x1→True∧W.lines w1 y1=W.lines w1 y1)))∧W.nBits=W.nBits∧(∀z1:Nat,z1<W.nBits→True∧W.bits z1=W.bits z1))∧e0=e0∧(∀a2:Nat,a2<e0→True∧W.cores a2=W.cores a2))∧g0=g0∧(∀b2:Nat,let c2:=W.readyN b2;b2<g0→True∧c2=c2∧(∀d2:Nat,d2<c2→True∧W.ready b2 d2=W.ready b2 d2)))∧W.nTlbs=W.nTlbs∧(∀e2:Nat,let g2:=W.tlbsN e2;e2<W.nTlbs→True∧g2=g2∧(∀h2:Nat,let k2:=W.tlbs e2 h2;let l2:=k2.sp;let o2:=k2.pg;let q2:=k2.fr;let u2:=k2.wr;h2<g2→(((True∧l2=l2)∧o2=o2)∧q2=q2)∧u2=u2)))∧W.nDoms=W.nDoms∧(∀v2:Nat,v2<W.nDoms→True∧W.doms v2=W.doms v2))∧W.time=W.time;let w2:=tn 5 True;
    let x2:=sgK W nd at_ kd rt;let y2:=x2.kind;let z2:=x2.base;let a3:=x2.len;let b3:=x2.mark;let c3:=x2.rights;let d3:=x2.badge;let e3:=sgE W nd at_ kd rt;let g3:=kaK W nd at_ kd rt;tn 2 (((h0∧True)∧True∧s_wCheck.match_1 (fun h3:X_wCheck=>Prop) (X_wCheck.mk W) (fun k3:Wd=>Sm k3))∧((wE W !=0)=true→w2∧((True∧(((((True∧0=y2)∧0=z2)∧0=a3)∧0=b3)∧0=c3)∧0=d3)∧(8:Int)≠0∧e3=8∧((-1):Int)=(-1))∧True)∧((wE W !=0)=false→((h0∧nd=nd∧at_=at_∧kd=kd∧rt=rt∧True)∧True∧Szd W∧(∀l3:Nat,l3<b0→slB W l3=true))∧w2∧((True∧(((((True∧g3.kind=y2)∧g3.base=z2)∧g3.len=a3)∧g3.mark=b3)∧g3.rights=c3)∧g3.badge=d3)∧kaE W nd at_ kd rt=e3∧((-1):Int)=(-1))∧True))
set_option maxHeartbeats 1000000 in
theorem ok_sGet : FnOK Tryd.prog glE 67 c_sGet := ok_of (.cons (ok_wCheck.up glN_glE) (.cons (ok_sKey.up glN_glE) .nil)) false Tryd.call67 Tryd.func67 (fun _ => []) (V := V_sGet) (fun _ => by kernel_rfl) fun ⟨W, nd, at_, kd, rt⟩ hp => by
  dsimp only [s_sGet] at hp
  dsimp only [V_sGet, tn, w64]
  simp only [std, stb, eq_self, implies_true, Bool.cond_self]
  refine ⟨hp, fun h => ?_, fun h => ⟨snd_of (by simpa using h), ?_⟩⟩
  · unfold sgK sgE; rw [notT (b := wE W == 0) h]; exact ⟨⟨⟨⟨⟨⟨rfl, rfl⟩, rfl⟩, rfl⟩, rfl⟩, rfl⟩, by decide, rfl⟩
  · unfold sgK sgE; rw [notF (b := wE W == 0) h]; exact ⟨⟨⟨⟨⟨⟨rfl, rfl⟩, rfl⟩, rfl⟩, rfl⟩, rfl⟩, rfl⟩
structure X_slotsSay where
  (W : Wd) (nd at_ kd rt : Int)
def s_slotsSay : Sy.Spec := ⟨X_slotsSay, fun ⟨W, nd, at_, kd, rt⟩ => [wSV W, .v (.int .i64 nd), .v (.int .i64 at_), .v (.int .i64 kd), .v (.int .i64 rt)], fun _ => [], fun _ => True, fun _ => .v (.bool true), fun _ => [],
  fun args mem => match args with | [a0, a1, a2, a3, a4] => some ⟨wSVD a0, intD (a1), intD (a2), intD (a3), intD (a4)⟩ | _ => none⟩
def c_slotsSay : Con := ⟨[], s_slotsSay.g, none⟩
def V_slotsSay : X_slotsSay → Prop := fun ⟨W, nd, at_, kd, rt⟩ => let a0:=W.nKinds;let b0:=W.nSlots;let c0:=W.nTasks;let d0:=W.nLines;let e0:=W.nCores;let g0:=W.nReady;let h0:=((((((((((True∧W.nRam=W.nRam∧(∀k0:Nat,k0<W.nRam→True∧W.ram k0=W.ram k0))∧a0=a0∧(∀l0:Nat,l0<a0→True∧W.kinds l0=W.kinds l0))∧b0=b0∧(∀o0:Nat,let q0:=W.slots o0;let u0:=q0.kind;let v0:=q0.base;let w0:=q0.len;let x0:=q0.mark;let y0:=q0.rights;let z0:=q0.badge;let a1:=q0.from_;o0<b0→((((((True∧u0=u0)∧v0=v0)∧w0=w0)∧x0=x0)∧y0=y0)∧z0=z0)∧a1=a1))∧c0=c0∧(∀b1:Nat,let c1:=W.tasks b1;let d1:=c1.prio;let e1:=c1.node;let g1:=c1.space;let h1:=c1.helper;let k1:=c1.loc;let l1:=c1.word;let o1:=c1.badge;let q1:=c1.owes;let u1:=c1.core;let v1:=c1.dom;b1<c0→(((((((((((((((((((True∧c1.r0=c1.r0)∧c1.r1=c1.r1)∧c1.r2=c1.r2)∧c1.r3=c1.r3)∧c1.r4=c1.r4)∧c1.r5=c1.r5)∧c1.r6=c1.r6)∧c1.r7=c1.r7)∧c1.pc=c1.pc)∧c1.st=c1.st)∧d1=d1)∧e1=e1)∧g1=g1)∧h1=h1)∧k1=k1)∧l1=l1)∧o1=o1)∧q1=q1)∧u1=u1)∧v1=v1))∧d0=d0∧(∀w1:Nat,let x1:=W.linesN w1;w1<d0→True∧x1=x1∧(∀y1:Nat,y1<x1→True∧W.lines w1 y1=W.lines w1 y1)))∧W.nBits=W.nBits∧(∀z1:Nat,z1<W.nBits→True∧W.bits z1=W.bits z1))∧e0=e0∧(∀a2:Nat,a2<e0→True∧W.cores a2=W.cores a2))∧g0=g0∧(∀b2:Nat,let c2:=W.readyN b2;b2<g0→True∧c2=c2∧(∀d2:Nat,d2<c2→True∧W.ready b2 d2=W.ready b2 d2)))∧W.nTlbs=W.nTlbs∧(∀e2:Nat,let g2:=W.tlbsN e2;e2<W.nTlbs→True∧g2=g2∧(∀h2:Nat,let k2:=W.tlbs e2 h2;let l2:=k2.sp;let o2:=k2.pg;let q2:=k2.fr;let u2:=k2.wr;h2<g2→(((True∧l2=l2)∧o2=o2)∧q2=q2)∧u2=u2)))∧W.nDoms=W.nDoms∧(∀v2:Nat,v2<W.nDoms→True∧W.doms v2=W.doms v2))∧W.time=W.time;let w2:=h0∧True;let x2:=True∧
    True;let y2:=tn 4 x2;let z2:Int:=cond (wE W==0) 0 8;let a3:=z2==0;let b3:=h0∧nd=nd∧at_=at_∧True;let c3:=True∧Szd W∧(∀d3:Nat,d3<b0→slB W d3=true);let e3:=h0∧nd=nd∧at_=at_∧kd=kd∧rt=rt∧True;let g3:=b3∧True∧s_sFind.match_1 (fun h3:X_sFind=>Prop) (X_sFind.mk W nd at_) (fun k3:Wd=>fun l3:Int=>fun o3:Int=>Sm k3);let q3:=e3∧True∧s_sGet.match_1 (fun u3:X_sGet=>Prop) (X_sGet.mk W nd at_ kd rt) (fun v3:Wd=>fun w3:Int=>fun x3:Int=>fun y3:Int=>fun z3:Int=>Sm v3);let a4:=saE W nd at_;let b4:=a4=a4;let c4:=sfE W nd at_;let d4:=((-1):Int)=(-1);let e4:=c4=c4∧d4;let g4:=((-1):Int)==(-1);let h4:=cond (c4==a4&&g4) (sfS W nd at_==saS W nd at_) false;let k4:=h4=true;let l4:=kaE W nd at_ kd rt;let o4:=l4=l4;let q4:=sgE W nd at_ kd rt;let u4:=q4=q4∧d4;let v4:=sgK W nd at_ kd rt;let w4:=v4.kind;let x4:=kaK W nd at_ kd rt;let y4:=v4.base;let z4:=v4.len;let a5:=v4.mark;let b5:=v4.rights;let c5:=v4.badge;let d5:=z2=z2;let e5:=(d5∧True)∧x2;let g5:=((True∧d5)∧d4)∧True;let h5:=cond (c4==z2&&g4) (sfS W nd at_==0) false;let k5:=h5=true;True∧(w2∧x2)∧(hgB W=true→true=true∧True)∧(hgB W=false→(w2∧True∧s_lSound.match_1 (fun l5:X_lSound=>Prop) (X_lSound.mk W) (fun o5:Wd=>Sm o5))∧True∧y2∧(a3=true→(b3∧c3)∧(e3∧c3)∧y2∧g3∧q3∧True∧y2∧((b4∧True)∧x2)∧((e4∧((True∧b4)∧d4)∧True)∧x2)∧(k4→(o4∧True)∧x2)∧(k4→(u4∧((True∧o4)∧d4)∧True)∧x2)∧cond (cond h4 (q4==l4&&g4) false) (w4==x4.kind&&(y4==x4.base&&(z4==x4.len&&(a5==x4.mark&&(b5==x4.rights&&(c5==x4.badge&&true)))))) false=true∧True)∧(a3=false→g3∧q3∧True∧y2∧e5∧((e4∧g5)∧x2)∧
    (k5→e5)∧(k5→(u4∧g5)∧x2)∧cond (cond h5 (q4==z2&&g4) false) (w4==0&&(y4==0&&(z4==0&&(a5==0&&(b5==0&&(c5==0&&true)))))) false=true∧True))
set_option maxHeartbeats 1000000 in
theorem ok_slotsSay : FnOK Tryd.prog glE 13 c_slotsSay := ok_of (.cons ok_is (.cons (ok_err.up glN_glE) (.cons (ok_hugeWorld.up glN_glE) (.cons (ok_lSound.up glN_glE) (.cons (ok_slotAt.up glN_glE) (.cons (ok_keyAtR.up glN_glE) (.cons ok_sFind (.cons ok_sGet .nil)))))))) false Tryd.call13 Tryd.func13 (fun _ => []) (V := V_slotsSay) (fun _ => by kernel_rfl) fun ⟨W, nd, at_, kd, rt⟩ hp => by
  dsimp only [V_slotsSay, tn, w64]
  simp only [std, stb, eq_self, implies_true, Bool.cond_self]
  refine fun hh => ⟨sm_of hh, fun h => ?_, fun h => ?_⟩
  · cases hw : wE W == 0 with
    | false => rw [hw] at h; exact absurd h (by decide)
    | true =>
      have hs := snd_of (eq_of_beq hw)
      refine ⟨hs, hs, sm_of hh, sm_of hh, ?_⟩
      unfold sfE sfS sgE sgK; rw [hw]; simp
  · cases hw : wE W == 0 with
    | true => rw [hw] at h; exact absurd h (by decide)
    | false =>
      refine ⟨sm_of hh, sm_of hh, ?_⟩
      unfold sfE sfS sgE sgK; rw [hw]; rfl
end Go.Proofs.YtfmaeiilbhpepaaDoor
namespace Go.Proofs.YtfmaeiilbhpepaaDoor
open Go.ChangeShapes Go.WideShapes Go.RowKit Go.Sy
theorem K.own : ownKnob Tryd.prog.godebug = none := by kernel_rfl
theorem K.et : Tryd.prog.globalNamed "errors.errorType" = some 2 := by kernel_rfl
theorem K.rt : (Tryd.prog.cutTypes.find? (·.1 == "internal/reflectlite.rtype")).map (·.2) = some 223 := by kernel_rfl
theorem K.oneRow : ((List.range Tryd.prog.types.size).filter fun t => Tryd.prog.rowNamed t [101, 114, 114, 111, 114]) = [27] := by kernel_rfl
theorem K.handle {laid : List (String × DataW Unit)} {W : World} (h : laidMetH Tryd.prog laid W) (hm : ("errors.errorType", Rows.laid_errors_errorType) ∈ laid) : W.cell? ⟨2, 0, none⟩ = some A.eTy := by
  have hf : ("errors.errorType", Rows.laid_errors_errorType) ∈ laid.filter fun x => x.2.handleName?.isSome := List.mem_filter.2 ⟨hm, by rfl⟩
  unfold laidMetH at h
  split at h
  · next e => rw [e] at hf; cases hf
  next x r e =>
  rw [e] at hf
  obtain ⟨name, u, ty, e1, e2, e3, e4, e5⟩ := h.2 _ hf
  have en : name = [101, 114, 114, 111, 114] := (Option.some.inj e1).symm
  subst en
  obtain rfl := Option.some.inj (K.rt.symm.trans e2)
  have hm : ty ∈ (List.range Tryd.prog.types.size).filter fun t => Tryd.prog.rowNamed t [101, 114, 114, 111, 114] := List.mem_filter.2 ⟨List.mem_range.2 e3, e4⟩
  rw [K.oneRow] at hm
  obtain rfl := List.mem_singleton.1 hm
  have hh : typeHandle Tryd.prog 27 = .pointer (some ⟨6, 27, none⟩) := by kernel_rfl
  rw [hh] at e5
  unfold A.eTy
  simpa using World.var?_cell K.et e5 0
noncomputable def K.world (os : Os) : World :=
  let w0 := World.holding Tryd.prog os ⟨#[], #[], []⟩
  { w0 with heap := w0.heap.modify 2 fun
      | .cells _ t frozen => .cells #[A.eTy] t frozen
      | o => o }
theorem K.met (os : Os) (args : Array Value) : laidMetH Tryd.prog [("errors.errorType", Rows.laid_errors_errorType)] ((K.world os).forCall (fun _ _ => 0) ⟨#[], args, []⟩).memory :=
  laidMetH_of_parts (laidMet_nil _ _) (by kernel_rfl)
theorem K.laidOut : laidOutB Tryd.prog = true := by kernel_rfl
theorem K.trodAll {H : Type} {enc : TypeId × Value → H} {P : Program} (hl : laidOutB P = true) {W W' : World} (hb : Below W.heap.size W W') : ∀ {ts : List TypeId} {vs : List Value} {ds : List (DataW H)} {ps : List MemPlace},
    (ts.all fun t => P.readableRec t && decide (t < P.types.size)) = true → DataW.TrodAll enc P W 0 (fun _ => true) true ts vs ds ps → (∀ x ∈ ps, x.block < W.heap.size) → DataW.TrodAll enc P W' 0 (fun b => decide (b < W.heap.size)) true ts vs ds ps
  | [], [], [], _, _, h, _ => h
  | t :: ts, v :: vs, d :: ds, ps, hr, ⟨p, q, h1, h2, e⟩, hlt => by
    subst e
    simp only [List.all_cons, Bool.and_eq_true, decide_eq_true_eq] at hr
    exact ⟨p, q, Below.trod hl hr.1.1 hr.1.2 h1 hb (fun x hx => hlt x (List.mem_append_left _ hx)), K.trodAll hl hb hr.2 h2 (fun x hx => hlt x (List.mem_append_right _ hx)), rfl⟩
theorem K.underlying4 : Tryd.prog.underlying 4 = some .bool := by kernel_rfl
theorem K.len {H : Type} {enc : TypeId × Value → H} {P : Program} {w : World} {base : Nat} {spare : Nat → Bool} {held : Bool} : ∀ {ts : List TypeId} {vs : List Value} {ds : List (DataW H)} {ps : List MemPlace}, DataW.TrodAll enc P w base spare held ts vs ds ps → ds.length = ts.length
  | [], [], [], _, _ => rfl
  | _ :: _, _ :: _, _ :: _, _, ⟨_, _, _, h, _⟩ => by simp [K.len h]
theorem K.noStand {ps : Array TypeId} (h : (ps.toList.all fun t => !Tryd.prog.wantsStandIn t) = true) {j : Nat} {t : TypeId} (ht : ps[j]? = some t) : Tryd.prog.wantsStandIn t = false := by
  have := List.all_eq_true.1 h t (by rw [Array.mem_toList_iff]; exact Array.mem_of_getElem? ht)
  simpa using this
set_option maxRecDepth 100000 in
theorem K.lift {f : FuncId} {fn : Func} {s : ChangeSpec} {X : World → Prop} (hX : ∀ (w w' : World), w.heap = w'.heap → X w → X w') (os : Os) (started : os.Started) (H : Type) (enc : TypeId × Value → H)
    (noInit : Tryd.checked.prog.inits.idxOf? f = none) (hfn : Tryd.checked.prog.funcs[f]? = some fn)
    (hs : ∀ ds : List (DataW H), ds.length = fn.params.toList.length → s.fn H (ds ++ []) = { results := [.lit (.bool true)], args := ds }) (hv : s.vars = []) (hr : fn.resultTypes = #[4])
    (hrow : (fn.params.toList.all fun t => Tryd.prog.readableRec t && decide (t < Tryd.prog.types.size)) = true)
    (witness : ∃ (w : World) (tape : Tape) (i : Input), w.os = os ∧ (w.forCall tape i).Shaped Tryd.prog ∧ i.vars = [] ∧ Input.okWide Tryd.prog (w.forCall tape i) .any w.heap.size f i ∧
      ((s.pre enc Tryd.prog fn [] false (w.forCall tape i).memory i.args ∧ X (w.forCall tape i).memory) ∧ sizedMet enc Tryd.prog fn (OpenSpec.ofChange s) false (w.forCall tape i).memory i.args) ∧ ({} : Assume).holds Tryd.prog (lone (Frame.enter Tryd.prog f i.args .normal) [] (w.forCall tape i)))
    (contract : ∀ (W : World) (base : Nat) (args : Array Value) (ds : List (DataW H)) (p : List MemPlace),
      (∀ (j : Nat) t v, fn.params[j]? = some t → args[j]? = some v → Value.okWide Tryd.prog W .any base t v) →
      DataW.TrodAll enc Tryd.prog W 0 (fun _ => true) true fn.params.toList args.toList ds p → X W → (∀ x ∈ p, x.block < W.heap.size) →
      Calls Tryd.prog f args W fun e W' => e = .returned (.bool true) ∧ Below W.heap.size W W') :
    ReturnsInHanded {} Tryd.checked os f .any (fun w args => (s.pre enc Tryd.prog fn [] false w args ∧ X w) ∧ sizedMet enc Tryd.prog fn (OpenSpec.ofChange s) false w args) (s.post enc Tryd.prog fn false true false false) := by
  refine returnsInHanded_of_change_and (C := Tryd.checked) (X := fun w _ => X w) (fun w w' _ hh h => hX w w' hh h) K.own started noInit hfn witness ?_
  intro W base args ds gs before hval hW _ _ hL _
  have hW' := hW
  obtain ⟨p, q, hA, hV, rfl, hfz, _⟩ := hW
  have hlt : ∀ x ∈ p, x.block < W.heap.size := fun x hx => by simpa using hW'.lt x (List.mem_append_left _ hx)
  obtain ⟨rfl, rfl⟩ : gs = [] ∧ q = [] := by
    rw [hv] at hV
    cases gs with
    | nil => exact ⟨rfl, hV⟩
    | cons g r => exact absurd hV (by intro h; cases h)
  refine (contract W base args ds p hval hA hL hlt).mono fun e W' ⟨he, hb⟩ => ?_
  have e1 := hs ds (K.len hA)
  refine ⟨_, he, _, _, _, [], p, [], hW', ?_, ?_, ?_, hb.frame _, fun h => by cases h⟩
  · rw [e1, hr]; exact trodAll_mk1 (shut_bool K.underlying4 true)
  · rw [e1]; exact K.trodAll K.laidOut hb hrow hA hlt
  · rw [e1, hv]; rfl
theorem K.shapesG : Tryd.prog.globalNamed "keyhold/isa.shapes" = some 0 := by kernel_rfl
theorem K.shapesT : (Tryd.prog.globals[0]?).map (·.type) = some 143 := by kernel_rfl
theorem K.under143 : Tryd.prog.underlying 143 = some (.array 15 142) := by kernel_rfl
theorem K.cells142 : Tryd.prog.cellsOf 142 = 4 := by kernel_rfl
theorem K.cells4 : Tryd.prog.cellsOf 4 = 1 := by kernel_rfl
theorem K.shapesD : (Rows.laid_keyhold_isa_shapes : DataW Unit) = .agg ((List.range 15).map fun i => .agg [.lit (.string (shName i).data.toList), .lit (.bool (hasA i)), .lit (.bool (hasB i)), .lit (.bool (hasC i))]) := by kernel_rfl
theorem ba_eq {s : ByteArray} {t : ByteArray} (h : s.data.toList = t.data.toList) : s = t := by
  cases s; cases t
  simp only at h
  congr 1
  exact Array.toList_inj.1 h
theorem K.laidVar : ∀ {l : List (String × DataW Unit)} {ps : List MemPlace} {W : World}, DataW.LaidVars Tryd.prog W l ps → ∀ {n : String} {d : DataW Unit}, (n, d) ∈ l →
    ∃ g t cs fuel p, Tryd.prog.globalNamed n = some g ∧ (Tryd.prog.globals[g]?).map (·.type) = some t ∧ W.var? Tryd.prog n = some cs ∧ DataW.trod (fun _ => ()) Tryd.prog W 0 (fun _ => true) false fuel t cs.toList = some (d, p)
  | (n, d) :: r, ps, W, ⟨g, t, cs, fuel, p, q, hg, ht, hv, hd, hr, _⟩, n', d', hm => by
    rcases List.mem_cons.1 hm with e | e
    · cases e; exact ⟨g, t, cs, fuel, p, hg, ht, hv, hd⟩
    · exact K.laidVar hr e
theorem K.laidData {laid : List (String × DataW Unit)} {W : World} (h : laidMetH Tryd.prog laid W) : ∃ ps, DataW.LaidVars Tryd.prog W (laid.filter fun x => x.2.handleName?.isNone) ps := by
  unfold laidMetH at h
  split at h
  · next e =>
    have : (laid.filter fun x => x.2.handleName?.isNone) = laid := by
      rw [List.filter_eq_self]
      intro x hx
      have h2 : x ∉ laid.filter fun x => x.2.handleName?.isSome := by rw [e]; simp
      rw [List.mem_filter] at h2
      cases hq : x.2.handleName? with
      | none => rfl
      | some y => exact absurd ⟨hx, by rw [hq]; rfl⟩ h2
    rw [this]
    obtain ⟨ps, h1, _⟩ := h
    exact ⟨ps, h1⟩
  · obtain ⟨⟨ps, h1, _⟩, _⟩ := h
    exact ⟨ps, h1⟩
theorem K.shapes {laid : List (String × DataW Unit)} {W : World} (h : laidMetH Tryd.prog laid W) (hm : ("keyhold/isa.shapes", Rows.laid_keyhold_isa_shapes) ∈ laid) : Den W o0.bare (.pa false 4 15 shapeCell) (.pointer (some ⟨0, 0, none⟩)) := by
  obtain ⟨ps, hlv⟩ := K.laidData h
  obtain ⟨g, t, cs, fuel, p, hg, ht, hvar, hd⟩ := K.laidVar hlv (List.mem_filter.2 ⟨hm, by kernel_rfl⟩)
  obtain rfl := Option.some.inj (K.shapesG.symm.trans hg)
  obtain rfl := Option.some.inj (K.shapesT.symm.trans ht)
  rw [K.shapesD] at hd
  obtain ⟨xs, m, _, ex, _, hl, hel⟩ := DataW.trod_array K.under143 hd
  have e3 := (DataW.agg.inj (Prod.mk.inj ex).1).symm
  have key : ∀ i, i < 15 → ∀ j, j < 4 → ∃ x, cs.toList[i * 4 + j]? = some x ∧ Den W o0.bare (shapeCell i j) x := by
    intro i hi
    have hE := hel i hi
    rw [K.cells142, List.getElem?_eq_getElem (by omega)] at hE
    obtain ⟨ys, n, _, ey, _, hyl, hyel⟩ := DataW.trod_struct Tryd.underlying142 hE
    have e4 : (xs.map (·.1))[i]? = some (xs[i]).1 := by rw [List.getElem?_map, List.getElem?_eq_getElem (by omega)]; rfl
    rw [e3, List.getElem?_map, List.getElem?_range hi, ey] at e4
    simp only [Option.map_some, Option.some.injEq] at e4
    have e5 := (DataW.agg.inj e4).symm
    have f0 := hyel 0 _ rfl
    have f1 := hyel 1 _ rfl
    have f2 := hyel 2 _ rfl
    have f3 := hyel 3 _ rfl
    match ys, e5 with
    | [y0, y1, y2, y3], e5 =>
      simp only [List.map_cons, List.map_nil, List.cons.injEq, and_true] at e5
      obtain ⟨g0, g1, g2, g3⟩ := e5
      have c9 : Tryd.prog.cellsOf 9 = 1 := by kernel_rfl
      obtain ⟨s0, a0, b0, _⟩ := DataW.trod_string Tryd.underlying9 f0
      obtain ⟨s1, a1, b1⟩ := DataW.trod_bool Tryd.underlying4 f1
      obtain ⟨s2, a2, b2⟩ := DataW.trod_bool Tryd.underlying4 f2
      obtain ⟨s3, a3, b3⟩ := DataW.trod_bool Tryd.underlying4 f3
      change List.take (Tryd.prog.cellsOf 9) (List.drop 0 _) = _ at a0
      change List.take (Tryd.prog.cellsOf 4) (List.drop 1 _) = _ at a1
      change List.take (Tryd.prog.cellsOf 4) (List.drop 2 _) = _ at a2
      change List.take (Tryd.prog.cellsOf 4) (List.drop 3 _) = _ at a3
      rw [c9] at a0
      rw [K.cells4] at a1 a2 a3
      rw [b0] at g0; rw [b1] at g1; rw [b2] at g2; rw [b3] at g3
      simp only [DataW.lit.injEq, Lit.string.injEq, Lit.bool.injEq] at g0 g1 g2 g3
      have get : ∀ (j : Nat) (x : Value), List.take 1 (List.drop j (List.take 4 (List.drop (i * 4) cs.toList))) = [x] → j < 4 → cs.toList[i * 4 + j]? = some x := by
        intro j x hx hj
        have h0 : (List.take 1 (List.drop j (List.take 4 (List.drop (i * 4) cs.toList))))[0]? = some x := by rw [hx]; rfl
        rw [List.getElem?_take_of_lt (by omega), List.getElem?_drop, List.getElem?_take_of_lt (by omega), List.getElem?_drop] at h0
        simpa using h0
      intro j hj
      match j, hj with
      | 0, _ => exact ⟨_, get 0 _ a0 (by omega), by rw [ba_eq g0]; rfl⟩
      | 1, _ => exact ⟨_, get 1 _ a1 (by omega), by rw [g1]; rfl⟩
      | 2, _ => exact ⟨_, get 2 _ a2 (by omega), by rw [g2]; rfl⟩
      | 3, _ => exact ⟨_, get 3 _ a3 (by omega), by rw [g3]; rfl⟩
  refine ⟨_, rfl, fun i hi j hj => ?_⟩
  obtain ⟨x, h1, h2⟩ := key i hi j hj
  refine ⟨x, ?_, ⟨id, fun _ => id⟩, h2⟩
  rw [add_mk, Nat.zero_add, World.var?_cell K.shapesG hvar]
  simpa using h1
theorem K.eT {laid : List (String × DataW Unit)} {W : World} (h : laidMetH Tryd.prog laid W) (hm : ("errors.errorType", Rows.laid_errors_errorType) ∈ laid) : Den W o0.bare (.pt false 1 fun _ => .v A.eTy) (.pointer (some ⟨2, 0, none⟩)) :=
  ⟨_, rfl, fun j hj => ⟨_, by obtain rfl : j = 0 := by omega
                              exact K.handle h hm, ⟨id, fun _ => id⟩, rfl⟩⟩
theorem K.gE {laid : List (String × DataW Unit)} {W : World} (h : laidMetH Tryd.prog laid W) (hm : ("errors.errorType", Rows.laid_errors_errorType) ∈ laid) (g : Nat) : Den W o0.bare (glE g) (.pointer (some ⟨g, 0, none⟩)) := by
  unfold glE
  split
  · exact K.eT h hm
  · trivial
end Go.Proofs.YtfmaeiilbhpepaaDoor
