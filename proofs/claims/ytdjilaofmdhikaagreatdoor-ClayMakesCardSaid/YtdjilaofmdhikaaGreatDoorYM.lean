/- Clay: is something made from a slot's key? -/
import Derived.Test.YtdjilaofmdhikaaGreatDoorYJ
import Derived.Test.YtdjilaofmdhikaaGreatDoorYI
import Derived.Test.YtdjilaofmdhikaaGreatDoorYL
set_option linter.unusedVariables false
set_option linter.unusedSimpArgs false
set_option linter.unusedVariables false
set_option linter.unusedSimpArgs false
set_option maxRecDepth 100000
namespace Go.Proofs.YtdjilaofmdhikaaGreatDoor
open Go.RowKit Go.Sy
def frmB (n : Nat) (t : Nat → Slt) (q : Int) : Bool := anyB n fun i => (t i).from_ == q
def an_ixs (z n : Nat) (p : Nat → Bool) : Ann where
  σ := Nat
  rt := []
  sh i := [(z, .v (.int .i64 i))]
  mh _ := []
  inv i := i ≤ n ∧ ∀ j, j < i → p j = false
  μ i := n - i
  init := 0
def an_afr (W : Wd) (q : Int) (z : Nat) : Ann where
  σ := Nat
  rt := []
  sh i := [(z, .v (.int .i64 i))]
  mh _ := []
  inv i := i ≤ W.nSlots ∧ ∀ j, j < i → ((W.slots j).from_ == q) = false
  μ i := W.nSlots - i
  init := 0
theorem frm_idx {n : Nat} {t : Nat → Slt} {q : Int} : decide (0 ≤ idxB n fun i => (t i).from_ == q) = frmB n t q := by
  unfold frmB
  cases h : anyB n fun i => (t i).from_ == q with
  | true =>
    obtain ⟨i, hi, he⟩ := anyB_iff.1 h
    have hlt := fstB_lt (p := fun i => (t i).from_ == q) hi he
    unfold idxB
    rw [blt_t hlt]
    exact decide_eq_true (Int.natCast_nonneg _)
  | false =>
    rw [idxB_none (p := fun i => (t i).from_ == q) fun i hi => anyB_false.1 h i hi]
    rfl
structure X_frCm where
  (s : Slt) (q : Int)
def s_frCm : Sy.Spec := ⟨X_frCm, fun ⟨s, q⟩ => [.ag 7 (lsv (slL s)), .pt true 1 (fun _ => .v (.int .i64 q))], fun _ => [], fun _ => True, fun ⟨s, q⟩ => .v (.bool (s.from_ == q)), fun _ => [],
  fun args mem => match args with | [a0, a1] => some ⟨slBD (agD a0), intD (ptF a1 0)⟩ | _ => none⟩
def c_frCm : Con := ⟨[], s_frCm.g, none⟩
def V_frCm : X_frCm → Prop := fun ⟨s, q⟩ => True∧(s.from_==q)=(s.from_==q)∧True
theorem ok_frCm : FnOK Tryz.prog glN 135 c_frCm := ok_of .nil false Tryz.call135 Tryz.func135 (fun _ => []) (V := V_frCm) (fun _ => by kernel_rfl) fun ⟨s, q⟩ hp => by
  dsimp only [V_frCm, tn, w64]
  simp only [std, stb, eq_self, implies_true, Bool.cond_self]
  try simp only [wd_eta]
structure X_ixSm where
  (n : Nat) (t : Nat → Slt) (q : Int)
def s_ixSm : Sy.Spec := ⟨X_ixSm, fun ⟨n, t, q⟩ => [.sl true 7 n (rF fun i => slL (t i)), .fn 135 1 (lsv [.pt true 1 (fun _ => .v (.int .i64 q))])], fun _ => [], fun ⟨n, _, _⟩ => n ≤ 100000, fun ⟨n, t, q⟩ => .v (.int .i64 (idxB n fun i => (t i).from_ == q)), fun _ => [],
  fun args mem => match args with | [a0, a1] => (match isFn 135 a1 with | true => some ⟨slN a0, fun i => slBD (fun j => slF a0 i j), intD (ptF (fnF a1 0) 0)⟩ | false => none) | _ => none⟩
def c_ixSm : Con := ⟨[], s_ixSm.g, none⟩
def V_ixSm : X_ixSm → Prop := fun ⟨n, t, q⟩ => let a0:=(n:Int);let b0:=idxB n (fun c0:Nat=>(t c0).from_==q);a0≤9223372036854775807→0=((0:Nat):Int)∧True∧(0≤n∧(∀d0:Nat,d0<0→((t d0).from_==q)=false))∧(∀e0:Nat,let g0:=(e0:Int);let h0:=decide (g0<a0);let k0:=t (Int.toNat g0);let l0:=k0.kind;let o0:=k0.base;let q0:=k0.len;let r0:=k0.mark;let u0:=k0.rights;let v0:=k0.badge;let w0:=k0.from_;let x0:=w0==q;let y0:Int:=g0+1;e0≤n∧(∀z0:Nat,z0<e0→((t z0).from_==q)=false)→(h0=true→(0≤g0∧g0<a0)∧(((((((((True∧l0=l0)∧o0=o0)∧q0=q0)∧r0=r0)∧u0=u0)∧v0=v0)∧w0=w0)∧(True∧q=q)∧True)∧True∧True)∧(x0=true→g0=b0∧True)∧(x0=false→w64 y0=y0∧(∃a1:Nat,y0=(a1:Int)∧True∧(a1≤n∧(∀b1:Nat,b1<a1→((t b1).from_==q)=false))∧n-a1<n-e0)))∧(h0=false→(-1)=b0∧True))
theorem ok_ixSm : FnOK Tryz.prog glN 136 c_ixSm := ok_of (.cons ok_frCm .nil) false Tryz.call136 Tryz.func136 (fun ⟨n, t, q⟩ => [.inv (an_ixs 8 n fun i => (t i).from_ == q)]) (V := V_ixSm) (fun _ => by kernel_rfl) fun ⟨n, t, q⟩ hp => by
  dsimp only [s_ixSm] at hp
  dsimp only [V_ixSm, tn, w64]
  simp only [std, stb, eq_self, implies_true, Bool.cond_self]
  try simp only [wd_eta]
  refine fun _ s hs => ⟨fun h => ?_, fun h => ?_⟩
  · have hlt := lt_of_dec h
    exact ⟨by omega, fun h => (idxB_at (p := fun i => (t i).from_ == q) hs.2 h hlt).symm, fun h => ⟨wr_in (by omega) (by omega), exS ⟨⟨by omega, snocF (p := fun i => (t i).from_ == q) hs.2 h⟩, by omega⟩⟩⟩
  · have hge := ge_of_dec h
    obtain rfl : s = n := by omega
    exact (idxB_none (p := fun i => (t i).from_ == q) hs.2).symm
structure X_cnSm where
  (n : Nat) (t : Nat → Slt) (q : Int)
def s_cnSm : Sy.Spec := ⟨X_cnSm, fun ⟨n, t, q⟩ => [.sl true 7 n (rF fun i => slL (t i)), .fn 135 1 (lsv [.pt true 1 (fun _ => .v (.int .i64 q))])], fun _ => [], fun ⟨n, _, _⟩ => n ≤ 100000, fun ⟨n, t, q⟩ => .v (.bool (frmB n t q)), fun _ => [],
  fun args mem => match args with | [a0, a1] => (match isFn 135 a1 with | true => some ⟨slN a0, fun i => slBD (fun j => slF a0 i j), intD (ptF (fnF a1 0) 0)⟩ | false => none) | _ => none⟩
def c_cnSm : Con := ⟨[], s_cnSm.g, none⟩
def V_cnSm : X_cnSm → Prop := fun ⟨n, t, q⟩ => (((n=n∧(∀a0:Nat,let b0:=t a0;a0<n→((((((True∧b0.kind=b0.kind)∧b0.base=b0.base)∧b0.len=b0.len)∧b0.mark=b0.mark)∧b0.rights=b0.rights)∧b0.badge=b0.badge)∧b0.from_=b0.from_))∧tn 2 (q=q)∧True)∧True∧s_ixSm.match_1 (fun c0:X_ixSm=>Prop) (X_ixSm.mk n t q) (fun d0:Nat=>fun e0:∀g0:Nat,Slt=>fun h0:Int=>d0≤100000))∧decide (0≤idxB n (fun k0:Nat=>(t k0).from_==q))=frmB n t q∧True
theorem ok_cnSm : FnOK Tryz.prog glN 83 c_cnSm := ok_of (.cons ok_ixSm .nil) false Tryz.call83 Tryz.func83 (fun _ => []) (V := V_cnSm) (fun _ => by kernel_rfl) fun ⟨n, t, q⟩ hp => by
  dsimp only [s_cnSm] at hp
  dsimp only [V_cnSm, tn, w64]
  simp only [std, stb, eq_self, implies_true, Bool.cond_self]
  try simp only [wd_eta]
  exact ⟨hp, frm_idx⟩
structure X_frCr where
  (s : Slt) (q : Int)
def s_frCr : Sy.Spec := ⟨X_frCr, fun ⟨s, q⟩ => [.ag 7 (lsv (slL s)), .pt true 1 (fun _ => .v (.int .i64 q))], fun _ => [], fun _ => True, fun ⟨s, q⟩ => .v (.bool (s.from_ == q)), fun _ => [],
  fun args mem => match args with | [a0, a1] => some ⟨slBD (agD a0), intD (ptF a1 0)⟩ | _ => none⟩
def c_frCr : Con := ⟨[], s_frCr.g, none⟩
def V_frCr : X_frCr → Prop := fun ⟨s, q⟩ => True∧(s.from_==q)=(s.from_==q)∧True
theorem ok_frCr : FnOK Tryz.prog glN 84 c_frCr := ok_of .nil false Tryz.call84 Tryz.func84 (fun _ => []) (V := V_frCr) (fun _ => by kernel_rfl) fun ⟨s, q⟩ hp => by
  dsimp only [V_frCr, tn, w64]
  simp only [std, stb, eq_self, implies_true, Bool.cond_self]
  try simp only [wd_eta]
structure X_ixSr where
  (n : Nat) (t : Nat → Slt) (q : Int)
def s_ixSr : Sy.Spec := ⟨X_ixSr, fun ⟨n, t, q⟩ => [.sl true 7 n (rF fun i => slL (t i)), .fn 84 1 (lsv [.pt true 1 (fun _ => .v (.int .i64 q))])], fun _ => [], fun ⟨n, _, _⟩ => n ≤ 100000, fun ⟨n, t, q⟩ => .v (.int .i64 (idxB n fun i => (t i).from_ == q)), fun _ => [],
  fun args mem => match args with | [a0, a1] => (match isFn 84 a1 with | true => some ⟨slN a0, fun i => slBD (fun j => slF a0 i j), intD (ptF (fnF a1 0) 0)⟩ | false => none) | _ => none⟩
def c_ixSr : Con := ⟨[], s_ixSr.g, none⟩
def V_ixSr : X_ixSr → Prop := fun ⟨n, t, q⟩ => let a0:=(n:Int);let b0:=idxB n (fun c0:Nat=>(t c0).from_==q);a0≤9223372036854775807→0=((0:Nat):Int)∧True∧(0≤n∧(∀d0:Nat,d0<0→((t d0).from_==q)=false))∧(∀e0:Nat,let g0:=(e0:Int);let h0:=decide (g0<a0);let k0:=t (Int.toNat g0);let l0:=k0.kind;let o0:=k0.base;let q0:=k0.len;let r0:=k0.mark;let u0:=k0.rights;let v0:=k0.badge;let w0:=k0.from_;let x0:=w0==q;let y0:Int:=g0+1;e0≤n∧(∀z0:Nat,z0<e0→((t z0).from_==q)=false)→(h0=true→(0≤g0∧g0<a0)∧(((((((((True∧l0=l0)∧o0=o0)∧q0=q0)∧r0=r0)∧u0=u0)∧v0=v0)∧w0=w0)∧(True∧q=q)∧True)∧True∧True)∧(x0=true→g0=b0∧True)∧(x0=false→w64 y0=y0∧(∃a1:Nat,y0=(a1:Int)∧True∧(a1≤n∧(∀b1:Nat,b1<a1→((t b1).from_==q)=false))∧n-a1<n-e0)))∧(h0=false→(-1)=b0∧True))
theorem ok_ixSr : FnOK Tryz.prog glN 136 c_ixSr := ok_of (.cons ok_frCr .nil) false Tryz.call136 Tryz.func136 (fun ⟨n, t, q⟩ => [.inv (an_ixs 8 n fun i => (t i).from_ == q)]) (V := V_ixSr) (fun _ => by kernel_rfl) fun ⟨n, t, q⟩ hp => by
  dsimp only [s_ixSr] at hp
  dsimp only [V_ixSr, tn, w64]
  simp only [std, stb, eq_self, implies_true, Bool.cond_self]
  try simp only [wd_eta]
  refine fun _ s hs => ⟨fun h => ?_, fun h => ?_⟩
  · have hlt := lt_of_dec h
    exact ⟨by omega, fun h => (idxB_at (p := fun i => (t i).from_ == q) hs.2 h hlt).symm, fun h => ⟨wr_in (by omega) (by omega), exS ⟨⟨by omega, snocF (p := fun i => (t i).from_ == q) hs.2 h⟩, by omega⟩⟩⟩
  · have hge := ge_of_dec h
    obtain rfl : s = n := by omega
    exact (idxB_none (p := fun i => (t i).from_ == q) hs.2).symm
structure X_cnSr where
  (n : Nat) (t : Nat → Slt) (q : Int)
def s_cnSr : Sy.Spec := ⟨X_cnSr, fun ⟨n, t, q⟩ => [.sl true 7 n (rF fun i => slL (t i)), .fn 84 1 (lsv [.pt true 1 (fun _ => .v (.int .i64 q))])], fun _ => [], fun ⟨n, _, _⟩ => n ≤ 100000, fun ⟨n, t, q⟩ => .v (.bool (frmB n t q)), fun _ => [],
  fun args mem => match args with | [a0, a1] => (match isFn 84 a1 with | true => some ⟨slN a0, fun i => slBD (fun j => slF a0 i j), intD (ptF (fnF a1 0) 0)⟩ | false => none) | _ => none⟩
def c_cnSr : Con := ⟨[], s_cnSr.g, none⟩
def V_cnSr : X_cnSr → Prop := fun ⟨n, t, q⟩ => (((n=n∧(∀a0:Nat,let b0:=t a0;a0<n→((((((True∧b0.kind=b0.kind)∧b0.base=b0.base)∧b0.len=b0.len)∧b0.mark=b0.mark)∧b0.rights=b0.rights)∧b0.badge=b0.badge)∧b0.from_=b0.from_))∧tn 2 (q=q)∧True)∧True∧s_ixSr.match_1 (fun c0:X_ixSr=>Prop) (X_ixSr.mk n t q) (fun d0:Nat=>fun e0:∀g0:Nat,Slt=>fun h0:Int=>d0≤100000))∧decide (0≤idxB n (fun k0:Nat=>(t k0).from_==q))=frmB n t q∧True
theorem ok_cnSr : FnOK Tryz.prog glN 83 c_cnSr := ok_of (.cons ok_ixSr .nil) false Tryz.call83 Tryz.func83 (fun _ => []) (V := V_cnSr) (fun _ => by kernel_rfl) fun ⟨n, t, q⟩ hp => by
  dsimp only [s_cnSr] at hp
  dsimp only [V_cnSr, tn, w64]
  simp only [std, stb, eq_self, implies_true, Bool.cond_self]
  try simp only [wd_eta]
  exact ⟨hp, frm_idx⟩
structure X_anyFrom where
  (W : Wd) (q : Int)
def s_anyFrom : Sy.Spec := ⟨X_anyFrom, fun ⟨W, q⟩ => [wPT W, .v (.int .i64 q)], fun _ => [], fun ⟨W, _⟩ => W.nSlots ≤ 100000, fun ⟨W, q⟩ => .v (.bool (frmB W.nSlots W.slots q)), fun _ => [],
  fun args mem => match args with | [a0, a1] => some ⟨wPTD a0, intD (a1)⟩ | _ => none⟩
def c_anyFrom : Con := ⟨[], s_anyFrom.g, none⟩
def V_anyFrom : X_anyFrom → Prop := fun ⟨W, q⟩ => let a0:=W.nSlots;let b0:=(a0:Int);let c0:=frmB a0 W.slots q;0=((0:Nat):Int)∧True∧(0≤a0∧(∀d0:Nat,d0<0→((W.slots d0).from_==q)=false))∧(∀e0:Nat,let g0:=(e0:Int);let h0:=decide (g0<b0);let k0:=(W.slots (Int.toNat g0)).from_==q;let l0:Int:=g0+1;e0≤a0∧(∀o0:Nat,o0<e0→((W.slots o0).from_==q)=false)→b0≤9223372036854775807→(h0=true→(0≤g0∧g0<b0)∧(k0=true→true=c0∧True)∧(k0=false→w64 l0=l0∧(∃q0:Nat,l0=(q0:Int)∧True∧(q0≤a0∧(∀r0:Nat,r0<q0→((W.slots r0).from_==q)=false))∧a0-q0<a0-e0)))∧(h0=false→false=c0∧True))
theorem ok_anyFrom : FnOK Tryz.prog glN 81 c_anyFrom := ok_of .nil false Tryz.call81 Tryz.func81 (fun ⟨W, q⟩ => [.inv (an_afr W q 5)]) (V := V_anyFrom) (fun _ => by kernel_rfl) fun ⟨W, q⟩ hp => by
  dsimp only [s_anyFrom] at hp
  dsimp only [V_anyFrom, tn, w64]
  simp only [std, stb, eq_self, implies_true, Bool.cond_self]
  try simp only [wd_eta]
  refine fun s hs _ => ⟨fun h => ?_, fun h => ?_⟩
  · have hlt := lt_of_dec h
    exact ⟨by omega, fun h => (anyB_iff.2 ⟨s, hlt, h⟩).symm, fun h => ⟨wr_in (by omega) (by omega), exS ⟨⟨by omega, snocF (p := fun i => (W.slots i).from_ == q) hs.2 h⟩, by omega⟩⟩⟩
  · have hge := ge_of_dec h
    obtain rfl : s = W.nSlots := by omega
    exact (anyB_false.2 hs.2).symm
end Go.Proofs.YtdjilaofmdhikaaGreatDoor
set_option linter.unusedVariables false
set_option linter.unusedSimpArgs false
set_option maxRecDepth 100000
namespace Go.Proofs.YtdjilaofmdhikaaGreatDoor
open Go.RowKit Go.Sy
def mkU (W : Wd) (s : Int) : Int := bif frmB W.nSlots W.slots s then (W.slots s.toNat).mark else 0
def mkTw (W : Wd) (n to : Int) : Bool := anyB n.toNat fun i => (W.slots (to.toNat + i)).kind != 0
def mkE (W : Wd) (s k n to : Int) : Int :=
  bif decide (s < 0) || decide ((W.nSlots : Int) ≤ s) || decide (to < 0) || decide ((W.nSlots : Int) ≤ to) then 2 else
  bif (W.slots s.toNat).kind == 0 then 6 else
  bif (W.slots s.toNat).kind != 1 || decide (k < 2) || decide (8 < k) || W.kinds (to / 16).toNat != 5 then 3 else
  bif decide (n < 1) || decide (16 < n) || decide (16 < to % 16 + n) then 2 else
  bif mkTw W n to then 12 else
  bif decide ((W.slots s.toNat).len < mkU W s + n) then 5 else 0
def inR (a n i : Nat) : Bool := Nat.ble a i && Nat.blt i (a + n)
def mkF (W : Wd) (s : Int) : Nat := ((W.slots s.toNat).base + mkU W s).toNat
def mkKd (W : Wd) (s k : Int) (n i : Nat) : Int := bif inR (mkF W s) n i then k else W.kinds i
def mkRm (W : Wd) (s : Int) (n i : Nat) : Int := bif inR (mkF W s * 16) (n * 16) i then 0 else W.ram i
def mkN (W : Wd) (s k to : Int) (i : Nat) : Slt := ⟨k, (mkF W s : Int) + (i - to), 1, 0, 7, 0, s⟩
def mkSl (W : Wd) (s k to : Int) (n i : Nat) : Slt := bif inR to.toNat n i then mkN W s k to i else W.slots i
def mkSm (W : Wd) (s k n to : Int) (i : Nat) : Slt := updF (mkSl W s k to n.toNat) s.toNat { W.slots s.toNat with mark := mkU W s + n } i
def mkXr (W : Wd) (s k n to : Int) (i : Nat) : Int := bif mkE W s k n to == 0 then mkRm W s n.toNat i else W.ram i
def mkXk (W : Wd) (s k n to : Int) (i : Nat) : Int := bif mkE W s k n to == 0 then mkKd W s k n.toNat i else W.kinds i
def mkXs (W : Wd) (s k n to : Int) (i : Nat) : Slt := bif mkE W s k n to == 0 then mkSm W s k n to i else W.slots i
def mkX (W : Wd) (s k n to : Int) : Wd := { W with ram := mkXr W s k n to, kinds := mkXk W s k n to, slots := mkXs W s k n to }
structure MkP (W : Wd) : Prop where
  k0 : 1 ≤ W.nKinds
  k1 : W.nKinds ≤ 24
  r : W.nRam = W.nKinds * 16
  s : W.nSlots = W.nKinds * 16
  sl : ∀ i : Nat, i < W.nSlots → (W.slots i).kind = 1 → 0 ≤ (W.slots i).base ∧ 0 ≤ (W.slots i).mark ∧ (W.slots i).mark ≤ 24 ∧ 0 ≤ (W.slots i).len ∧ (W.slots i).base + (W.slots i).len ≤ W.nKinds
def an_mk1 (W : Wd) (to : Int) (n : Nat) (l : List (Nat × SV)) (r : List (Nat × Nat)) (z : Nat) (o : Int) : Ann where
  σ := Nat
  rt := r
  sh i := l ++ [(z, .v (.int .i64 (o + i)))]
  mh _ := []
  inv i := i ≤ n ∧ ∀ j, j < i → ((W.slots (to.toNat + j)).kind != 0) = false
  μ i := n - i
  init := 0
def an_mk2 (W : Wd) (s k to : Int) (n : Nat) (l : List (Nat × SV)) (r : List (Nat × Nat)) (z : Nat) : Ann where
  σ := Nat
  rt := r
  sh i := l ++ [(z, .v (.int .i64 i))]
  mh i := [(1, .row 1 W.nRam (iF (mkRm W s i))), (2, .row 1 W.nKinds (iF (mkKd W s k i))), (3, .row 7 W.nSlots (rF fun q => slL (mkSl W s k to i q)))]
  inv i := i ≤ n
  μ i := n - i
  init := 0
def mkRi (W : Wd) (s : Int) (n c i : Nat) : Int := bif inR ((mkF W s + n) * 16) c i then 0 else mkRm W s n i
def an_mk3 (W : Wd) (s : Int) (n : Nat) (l : List (Nat × SV)) (r : List (Nat × Nat)) (z : Nat) : Ann where
  σ := Nat
  rt := r
  sh i := l ++ [(z, .v (.int .i64 i))]
  mh i := [(1, .row 1 W.nRam (iF (mkRi W s n i)))]
  inv i := i ≤ 16
  μ i := 16 - i
  init := 0
theorem inR_iff {a n i : Nat} : inR a n i = true ↔ a ≤ i ∧ i < a + n := by
  unfold inR
  rw [Bool.and_eq_true]
  exact ⟨fun h => ⟨Nat.le_of_ble_eq_true h.1, Nat.le_of_ble_eq_true h.2⟩, fun h => ⟨ble_t h.1, blt_t h.2⟩⟩
theorem inR_f {a n i : Nat} (h : i < a ∨ a + n ≤ i) : inR a n i = false := by
  cases hb : inR a n i with
  | false => rfl
  | true => have := inR_iff.1 hb; omega
theorem inR0 {a i : Nat} : inR a 0 i = false := inR_f (by omega)
theorem inR_s {a m j : Nat} : inR a (m + 1) j = (Nat.beq j (a + m) || inR a m j) := by
  rw [Bool.eq_iff_iff, Bool.or_eq_true, inR_iff, inR_iff, Nat.beq_eq]
  omega
theorem inR_16 {f m j : Nat} : inR (f * 16) ((m + 1) * 16) j = (inR ((f + m) * 16) 16 j || inR (f * 16) (m * 16) j) := by
  rw [Bool.eq_iff_iff, Bool.or_eq_true, inR_iff, inR_iff, inR_iff]
  omega
theorem mkRm0 {W : Wd} {s : Int} {i : Nat} : mkRm W s 0 i = W.ram i := by unfold mkRm; rw [Nat.zero_mul, inR0]; rfl
theorem mkKd0 {W : Wd} {s k : Int} {i : Nat} : mkKd W s k 0 i = W.kinds i := by unfold mkKd; rw [inR0]; rfl
theorem mkSl0 {W : Wd} {s k to : Int} {i : Nat} : mkSl W s k to 0 i = W.slots i := by unfold mkSl; rw [inR0]; rfl
theorem mkKd_s {W : Wd} {s k : Int} {m j : Nat} : (bif Nat.beq j (mkF W s + m) then k else mkKd W s k m j) = mkKd W s k (m + 1) j := by
  unfold mkKd; rw [inR_s]; cases Nat.beq j (mkF W s + m) <;> rfl
theorem mkRi0 {W : Wd} {s : Int} {m j : Nat} : mkRi W s m 0 j = mkRm W s m j := by unfold mkRi; rw [inR0]; rfl
theorem mkRi_s {W : Wd} {s : Int} {m c j : Nat} : (bif Nat.beq j ((mkF W s + m) * 16 + c) then 0 else mkRi W s m c j) = mkRi W s m (c + 1) j := by
  unfold mkRi; rw [inR_s]; cases Nat.beq j ((mkF W s + m) * 16 + c) <;> rfl
theorem mkRi16 {W : Wd} {s : Int} {m j : Nat} : mkRi W s m 16 j = mkRm W s (m + 1) j := by
  unfold mkRi mkRm; rw [inR_16]; cases inR ((mkF W s + m) * 16) 16 j <;> rfl
theorem mkRm_c {W : Wd} {s : Int} {m j : Nat} : (bif inR ((mkF W s + m) * 16) 16 j then 0 else mkRm W s m j) = mkRm W s (m + 1) j := by
  unfold mkRm; rw [inR_16]; cases inR ((mkF W s + m) * 16) 16 j <;> rfl
theorem mkSl_s {W : Wd} {s k to : Int} {m j : Nat} : (bif Nat.beq j (to.toNat + m) then mkN W s k to j else mkSl W s k to m j) = mkSl W s k to (m + 1) j := by
  unfold mkSl; rw [inR_s]; cases Nat.beq j (to.toNat + m) <;> rfl
theorem mkSl_no {W : Wd} {s k to : Int} {m j : Nat} (h : j < to.toNat ∨ to.toNat + m ≤ j) : mkSl W s k to m j = W.slots j := by unfold mkSl; rw [inR_f h]; rfl
structure X_makeR where
  (s k n to : Int) (W : Wd)
def s_makeR : Sy.Spec := ⟨X_makeR, fun ⟨s, k, n, to, _⟩ => [.ptr 0 0 none 0 0, .v (.int .i64 s), .v (.int .i64 k), .v (.int .i64 n), .v (.int .i64 to)], fun ⟨_, _, _, _, W⟩ => wMem W, fun ⟨_, _, _, _, W⟩ => MkP W, fun ⟨s, k, n, to, W⟩ => .v (.int .i64 (mkE W s k n to)), fun ⟨s, k, n, to, W⟩ => wMem (mkX W s k n to),
  fun args mem => match args with | [a0, a1, a2, a3, a4] => some ⟨intD (a1), intD (a2), intD (a3), intD (a4), wMJD mem 0⟩ | _ => none⟩
def c_makeR : Con := ⟨[true], s_makeR.g, none⟩
def V_makeR : X_makeR → Prop := fun ⟨s, k, n, to, W⟩ => let a0:=W.nSlots;let b0:=(a0:Int);let c0:=cond (cond (cond (decide (s<0)) true (decide (b0≤s))) true (decide (to<0))) true (decide (b0≤to));let d0:=mkE W s k n to;let e0:=0=0;let g0:=W.nRam;let h0:=g0=g0;let k0:=W.nKinds;let l0:=k0=k0;let o0:=a0=a0;let q0:=W.nTasks;let u0:=q0=q0;let v0:=W.nLines;let w0:=v0=v0;let x0:=W.nBits;let y0:=x0=x0;let z0:=W.nCores;let a1:=z0=z0;let b1:=W.nReady;let c1:=b1=b1;let d1:=W.nTlbs;let e1:=d1=d1;let g1:=W.nDoms;let h1:=g1=g1;let k1:=W.time=W.time;let l1:=((((((((((True∧e0∧h0)∧e0∧l0)∧e0∧o0)∧e0∧u0)∧e0∧w0)∧e0∧y0)∧e0∧a1)∧e0∧c1)∧e0∧e1)∧e0∧h1)∧k1;let o1:=u0∧(∀q1:Nat,let u1:=W.tasks q1;let v1:=u1.prio;let w1:=u1.node;let x1:=u1.space;let y1:=u1.helper;let z1:=u1.loc;let a2:=u1.word;let b2:=u1.badge;let c2:=u1.owes;let d2:=u1.core;let e2:=u1.dom;q1<q0→(((((((((((((((((((True∧u1.r0=u1.r0)∧u1.r1=u1.r1)∧u1.r2=u1.r2)∧u1.r3=u1.r3)∧u1.r4=u1.r4)∧u1.r5=u1.r5)∧u1.r6=u1.r6)∧u1.r7=u1.r7)∧u1.pc=u1.pc)∧u1.st=u1.st)∧v1=v1)∧w1=w1)∧x1=x1)∧y1=y1)∧z1=z1)∧a2=a2)∧b2=b2)∧c2=c2)∧d2=d2)∧e2=e2);let g2:=w0∧(∀h2:Nat,let k2:=W.linesN h2;h2<v0→True∧k2=k2∧(∀l2:Nat,l2<k2→True∧W.lines h2 l2=W.lines h2 l2));let o2:=y0∧(∀q2:Nat,q2<x0→True∧W.bits q2=W.bits q2);let u2:=a1∧(∀v2:Nat,v2<z0→True∧W.cores v2=W.cores v2);let w2:=c1∧(∀x2:Nat,let y2:=W.readyN x2;x2<b1→True∧y2=y2∧(∀z2:Nat,z2<y2→True∧W.ready x2 z2=W.ready x2 z2));
    let a3:=e1∧(∀b3:Nat,let c3:=W.tlbsN b3;b3<d1→True∧c3=c3∧(∀d3:Nat,let e3:=W.tlbs b3 d3;let g3:=e3.sp;let h3:=e3.pg;let k3:=e3.fr;let l3:=e3.wr;d3<c3→(((True∧g3=g3)∧h3=h3)∧k3=k3)∧l3=l3));let o3:=h1∧(∀q3:Nat,q3<g1→True∧W.doms q3=W.doms q3);let u3:=o1∧g2∧o2∧u2∧w2∧a3∧o3∧True;let v3:=l1∧(h0∧(∀w3:Nat,w3<g0→True∧W.ram w3=mkXr W s k n to w3))∧(l0∧(∀x3:Nat,x3<k0→True∧W.kinds x3=mkXk W s k n to x3))∧(o0∧(∀y3:Nat,let z3:=W.slots y3;let a4:=mkXs W s k n to y3;y3<a0→((((((True∧z3.kind=a4.kind)∧z3.base=a4.base)∧z3.len=a4.len)∧z3.mark=a4.mark)∧z3.rights=a4.rights)∧z3.badge=a4.badge)∧z3.from_=a4.from_))∧u3;let b4:=2=d0∧v3;
    let c4:=(((((((((((True∧h0∧(∀d4:Nat,d4<g0→True∧W.ram (0+d4)=W.ram (0+d4)))∧l0∧(∀e4:Nat,let g4:=W.kinds (0+e4);e4<k0→True∧g4=g4))∧o0∧(∀h4:Nat,let k4:=W.slots (0+h4);let l4:=k4.kind;let o4:=k4.base;let q4:=k4.len;let u4:=k4.mark;let v4:=k4.rights;let w4:=k4.badge;let x4:=k4.from_;h4<a0→((((((True∧l4=l4)∧o4=o4)∧q4=q4)∧u4=u4)∧v4=v4)∧w4=w4)∧x4=x4))∧u0∧(∀y4:Nat,let z4:=W.tasks (0+y4);let a5:=z4.r0;let b5:=z4.r1;let c5:=z4.r2;let d5:=z4.r3;let e5:=z4.r4;let g5:=z4.r5;let h5:=z4.r6;let k5:=z4.r7;let l5:=z4.pc;let o5:=z4.st;let q5:=z4.prio;let u5:=z4.node;let v5:=z4.space;let w5:=z4.helper;let x5:=z4.loc;let y5:=z4.word;let z5:=z4.badge;let a6:=z4.owes;let b6:=z4.core;let c6:=z4.dom;y4<q0→(((((((((((((((((((True∧a5=a5)∧b5=b5)∧c5=c5)∧d5=d5)∧e5=e5)∧g5=g5)∧h5=h5)∧k5=k5)∧l5=l5)∧o5=o5)∧q5=q5)∧u5=u5)∧v5=v5)∧w5=w5)∧x5=x5)∧y5=y5)∧z5=z5)∧a6=a6)∧b6=b6)∧c6=c6))∧w0∧(∀d6:Nat,let e6:=W.linesN (0+d6);d6<v0→True∧e6=e6∧(∀g6:Nat,let h6:=W.lines (0+d6) (0+g6);g6<e6→True∧h6=h6)))∧y0∧(∀k6:Nat,k6<x0→True∧W.bits (0+k6)=W.bits (0+k6)))∧a1∧(∀l6:Nat,let o6:=W.cores (0+l6);l6<z0→True∧o6=o6))∧c1∧(∀q6:Nat,let u6:=W.readyN (0+q6);q6<b1→True∧u6=u6∧(∀v6:Nat,let w6:=W.ready (0+q6) (0+v6);v6<u6→True∧w6=w6)))∧e1∧(∀x6:Nat,let y6:=0+x6;let z6:=W.tlbsN y6;x6<d1→True∧z6=z6∧(∀a7:Nat,let b7:=W.tlbs y6 (0+a7);let c7:=b7.sp;let d7:=b7.pg;let e7:=b7.fr;let g7:=b7.wr;a7<z6→(((True∧c7=c7)∧d7=d7)∧e7=e7)∧g7=g7)))∧h1∧(∀h7:Nat,h7<g1→True∧W.doms (0+h7)=W.doms (0+h7)))∧k1)∧s=s∧True;
    let k7:=Wd.mk g0 (fun l7:Nat=>W.ram (0+l7)) k0 (fun o7:Nat=>W.kinds (0+o7)) a0 (fun q7:Nat=>W.slots (0+q7)) q0 (fun u7:Nat=>W.tasks (0+u7)) v0 (fun v7:Nat=>W.linesN (0+v7)) (fun w7:Nat=>fun x7:Nat=>W.lines (0+w7) (0+x7)) x0 (fun y7:Nat=>W.bits (0+y7)) z0 (fun z7:Nat=>W.cores (0+z7)) b1 (fun a8:Nat=>W.readyN (0+a8)) (fun b8:Nat=>fun c8:Nat=>W.ready (0+b8) (0+c8)) d1 (fun d8:Nat=>W.tlbsN (0+d8)) (fun e8:Nat=>fun g8:Nat=>W.tlbs (0+e8) (0+g8)) g1 (fun h8:Nat=>W.doms (0+h8)) W.time;let k8:=hasE k7 s;let l8:=k8 !=0;let o8:=0≤s∧s<b0;let q8:=0+Int.toNat s;let r8:=W.slots q8;let u8:=r8.kind;let v8:=cond (cond (u8 !=1) true (decide (k<2))) true (decide (8<k));let w8:=v8=false;let x8:Int:=to/16;let y8:=(k0:Int);let z8:=cond v8 true (W.kinds (0+Int.toNat x8) !=5);let a9:=cond (decide (n<1)) true (decide (16<n));let b9:=a9=false;let c9:Int:=to%16+n;let d9:=cond a9 true (decide (16<c9));let e9:=SV.ptr 0 0 none 0 0=SV.ptr 0 0 none 0 0;let g9:=SV.ptr (0+1+1+1+1+1+1+1+1+1+1+1) 0 none 0 0=SV.ptr 11 0 none 0 0;let h9:=0=0;let k9:=((((((((((True∧h9∧h0)∧h9∧l0)∧h9∧o0)∧h9∧u0)∧h9∧w0)∧h9∧y0)∧h9∧a1)∧h9∧c1)∧h9∧e1)∧h9∧h1)∧k1;let l9:=r8.base;let o9:=r8.len;let q9:=r8.mark;let r9:=r8.rights;let u9:=r8.badge;let v9:=o1∧g2∧o2∧u2∧w2∧a3∧o3∧((((((True∧u8=u8)∧l9=l9)∧o9=o9)∧q9=q9)∧r9=r9)∧u9=u9)∧True;
    let w9:=k9∧(h0∧(∀x9:Nat,x9<g0→True∧W.ram x9=W.ram x9))∧(l0∧(∀y9:Nat,y9<k0→True∧W.kinds y9=W.kinds y9))∧(o0∧(∀z9:Nat,let a10:=W.slots z9;let b10:=a10.kind;let c10:=a10.base;let d10:=a10.len;let e10:=a10.mark;let g10:=a10.rights;let h10:=a10.badge;let k10:=a10.from_;z9<a0→((((((True∧b10=b10)∧c10=c10)∧d10=d10)∧e10=e10)∧g10=g10)∧h10=h10)∧k10=k10))∧v9;let l10:=Int.toNat n;let o10:=0≤l10;let q10:Int:=to+n;let r10:=!frmB a0 (fun u10:Nat=>W.slots (0+u10)) s;let v10:Int:=0+n;let w10:=w64 v10=v10;let x10:=decide (o9<v10);let y10:=5=d0∧v3;let z10:=0=((0:Nat):Int);let a11:=k9∧(h0∧(∀b11:Nat,b11<g0→True∧W.ram b11=mkRm W s 0 b11))∧(l0∧(∀c11:Nat,c11<k0→True∧W.kinds c11=mkKd W s k 0 c11))∧(o0∧(∀d11:Nat,let e11:=W.slots d11;let g11:=mkSl W s k to 0 d11;d11<a0→((((((True∧e11.kind=g11.kind)∧e11.base=g11.base)∧e11.len=g11.len)∧e11.mark=g11.mark)∧e11.rights=g11.rights)∧e11.badge=g11.badge)∧e11.from_=g11.from_))∧v9;let h11:Int:=l9+0;let k11:=false=false;let l11:=(∀o11:Nat,k11)∧(∀q11:Nat,k11)∧(∀r11:Nat,k11)∧(∀u11:Nat,k11)∧(∀v11:Nat,k11)∧(∀w11:Nat,k11);let x11:=(∀y11:Nat,k11)∧l11;let z11:=0=d0;let a12:Int:=q9+n;let b12:=w64 a12=a12;let c12:=decide (o9<a12);let d12:Int:=l9+q9;(c0=true→b4)∧(c0=false→(c4∧True∧True)∧(l8=true→k8=d0∧v3)∧(l8=false→o8∧True∧tn 5 True∧(w8→0≤to∧(0:Int)<16∧w64 x8=x8)∧(w8→0≤x8∧x8<y8)∧(z8=true→3=d0∧v3)∧(z8=false→(b9→0≤to∧(0:Int)<16)∧(b9→w64 c9=c9)∧(d9=true→b4)∧(d9=false→e9∧g9∧to=to+((0:Nat):Int)∧w9∧(o10∧(∀e12:Nat,e12<0→((W.slots (Int.toNat to+e12)).kind !=0)=false))∧(∀g12:Nat,
    let h12:Int:=to+(g12:Int);let k12:=decide (h12<q10);let l12:=(W.slots (0+Int.toNat h12)).kind !=0;let o12:Int:=h12+1;g12≤l10∧(∀q12:Nat,q12<g12→((W.slots (Int.toNat to+q12)).kind !=0)=false)→w64 q10=q10∧(k12=true→(0≤h12∧h12<b0)∧(l12=true→12=d0∧v3)∧(l12=false→w64 o12=o12∧(∃r12:Nat,e9∧g9∧o12=to+(r12:Int)∧w9∧(r12≤l10∧(∀u12:Nat,u12<r12→((W.slots (Int.toNat to+u12)).kind !=0)=false))∧l10-r12<l10-g12)))∧(k12=false→(c4∧True∧s_anyFrom.match_1 (fun v12:X_anyFrom=>Prop) (X_anyFrom.mk k7 s) (fun w12:Wd=>fun x12:Int=>w12.nSlots≤100000))∧(r10=true→w10∧(x10=true→y10)∧(x10=false→e9∧g9∧z10∧a11∧o10∧(∀y12:Nat,let z12:=(y12:Int);let a13:=decide (z12<n);let b13:Int:=h11+z12;let c13:=Int.toNat z12;let d13:=0+Int.toNat b13;let e13:=(l0∧(∀g13:Nat,let h13:Int:=cond (Nat.beq g13 d13) k (mkKd W s k y12 g13);g13<k0→True∧h13=h13))∧(o0∧(∀k13:Nat,let l13:=mkSl W s k to y12 k13;let o13:=l13.kind;let q13:=l13.base;let r13:=l13.len;let u13:=l13.mark;let v13:=l13.rights;let w13:=l13.badge;let x13:=l13.from_;k13<a0→((((((True∧o13=o13)∧q13=q13)∧r13=r13)∧u13=u13)∧v13=v13)∧w13=w13)∧x13=x13))∧v9;let y13:Int:=b13*16;let z13:Int:=to+z12;let a14:Int:=z12+1;let b14:=0+Int.toNat z13;y12≤l10→(a13=true→w64 h11=h11∧w64 b13=b13∧(0≤b13∧b13<y8)∧(∀c14:Nat,k11)∧e9∧g9∧z10∧(k9∧(h0∧(∀d14:Nat,d14<g0→True∧mkRm W s y12 d14=mkRi W s c13 0 d14))∧e13)∧0≤16∧(∀e14:Nat,let g14:=decide ((e14:Int)<16);let h14:Int:=y13+(e14:Int);let k14:Int:=(e14:Int)+1;e14≤16→(g14=true→w64 y13=y13∧w64 h14=h14∧(0≤h14∧h14<(g0:Int))∧(∀l14:Nat,k11)∧
    w64 k14=k14∧(∃o14:Nat,e9∧g9∧k14=(o14:Int)∧(k9∧(h0∧(∀q14:Nat,q14<g0→True∧cond (Nat.beq q14 (0+Int.toNat h14)) 0 (mkRi W s c13 e14 q14)=mkRi W s c13 o14 q14))∧e13)∧o14≤16∧16-o14<16-e14))∧(g14=false→w64 z13=z13∧(0≤z13∧z13<b0)∧x11∧w64 a14=a14∧(∃r14:Nat,e9∧g9∧a14=(r14:Int)∧(k9∧(h0∧(∀u14:Nat,u14<g0→True∧mkRi W s c13 e14 u14=mkRm W s r14 u14))∧(l0∧(∀v14:Nat,v14<k0→True∧cond (Nat.beq v14 d13) k (mkKd W s k y12 v14)=mkKd W s k r14 v14))∧(o0∧(∀w14:Nat,let x14:=Nat.beq w14 b14;let y14:=mkSl W s k to y12 w14;let z14:=mkSl W s k to r14 w14;w14<a0→((((((True∧cond x14 k y14.kind=z14.kind)∧cond x14 b13 y14.base=z14.base)∧cond x14 1 y14.len=z14.len)∧cond x14 0 y14.mark=z14.mark)∧cond x14 7 y14.rights=z14.rights)∧cond x14 0 y14.badge=z14.badge)∧cond x14 s y14.from_=z14.from_))∧v9)∧r14≤l10∧l10-r14<l10-y12))))∧(a13=false→w10∧tn 7 (o8∧l11∧z11∧l1∧(h0∧(∀a15:Nat,a15<g0→True∧mkRm W s y12 a15=mkXr W s k n to a15))∧(l0∧(∀b15:Nat,b15<k0→True∧mkKd W s k y12 b15=mkXk W s k n to b15))∧(o0∧(∀c15:Nat,let d15:=Nat.beq c15 q8;let e15:=mkSl W s k to y12 c15;let g15:=mkXs W s k n to c15;c15<a0→((((((True∧cond d15 u8 e15.kind=g15.kind)∧cond d15 l9 e15.base=g15.base)∧cond d15 o9 e15.len=g15.len)∧cond d15 v10 e15.mark=g15.mark)∧cond d15 r9 e15.rights=g15.rights)∧cond d15 u9 e15.badge=g15.badge)∧e15.from_=g15.from_))∧u3)))))∧(r10=false→b12∧(c12=true→y10)∧(c12=false→e9∧g9∧z10∧a11∧o10∧(∀h15:Nat,let k15:=(h15:Int);let l15:=decide (k15<n);let o15:Int:=d12+k15;let q15:=Int.toNat k15;let r15:=0+Int.toNat o15;
    let u15:=(l0∧(∀v15:Nat,let w15:Int:=cond (Nat.beq v15 r15) k (mkKd W s k h15 v15);v15<k0→True∧w15=w15))∧(o0∧(∀x15:Nat,let y15:=mkSl W s k to h15 x15;let z15:=y15.kind;let a16:=y15.base;let b16:=y15.len;let c16:=y15.mark;let d16:=y15.rights;let e16:=y15.badge;let g16:=y15.from_;x15<a0→((((((True∧z15=z15)∧a16=a16)∧b16=b16)∧c16=c16)∧d16=d16)∧e16=e16)∧g16=g16))∧v9;let h16:Int:=o15*16;let k16:Int:=to+k15;let l16:Int:=k15+1;let o16:=0+Int.toNat k16;h15≤l10→(l15=true→w64 d12=d12∧w64 o15=o15∧(0≤o15∧o15<y8)∧(∀q16:Nat,k11)∧e9∧g9∧z10∧(k9∧(h0∧(∀r16:Nat,r16<g0→True∧mkRm W s h15 r16=mkRi W s q15 0 r16))∧u15)∧0≤16∧(∀u16:Nat,let v16:=decide ((u16:Int)<16);let w16:Int:=h16+(u16:Int);let x16:Int:=(u16:Int)+1;u16≤16→(v16=true→w64 h16=h16∧w64 w16=w16∧(0≤w16∧w16<(g0:Int))∧(∀y16:Nat,k11)∧w64 x16=x16∧(∃z16:Nat,e9∧g9∧x16=(z16:Int)∧(k9∧(h0∧(∀a17:Nat,a17<g0→True∧cond (Nat.beq a17 (0+Int.toNat w16)) 0 (mkRi W s q15 u16 a17)=mkRi W s q15 z16 a17))∧u15)∧z16≤16∧16-z16<16-u16))∧(v16=false→w64 k16=k16∧(0≤k16∧k16<b0)∧x11∧w64 l16=l16∧(∃b17:Nat,e9∧g9∧l16=(b17:Int)∧(k9∧(h0∧(∀c17:Nat,c17<g0→True∧mkRi W s q15 u16 c17=mkRm W s b17 c17))∧(l0∧(∀d17:Nat,d17<k0→True∧cond (Nat.beq d17 r15) k (mkKd W s k h15 d17)=mkKd W s k b17 d17))∧(o0∧(∀e17:Nat,let g17:=Nat.beq e17 o16;let h17:=mkSl W s k to h15 e17;let k17:=mkSl W s k to b17 e17;e17<a0→((((((True∧cond g17 k h17.kind=k17.kind)∧cond g17 o15 h17.base=k17.base)∧cond g17 1 h17.len=k17.len)∧cond g17 0 h17.mark=k17.mark)∧cond g17 7 h17.rights=k17.rights)∧
    cond g17 0 h17.badge=k17.badge)∧cond g17 s h17.from_=k17.from_))∧v9)∧b17≤l10∧l10-b17<l10-h15))))∧(l15=false→b12∧tn 7 (o8∧l11∧z11∧l1∧(h0∧(∀l17:Nat,l17<g0→True∧mkRm W s h15 l17=mkXr W s k n to l17))∧(l0∧(∀o17:Nat,o17<k0→True∧mkKd W s k h15 o17=mkXk W s k n to o17))∧(o0∧(∀q17:Nat,let r17:=Nat.beq q17 q8;let u17:=mkSl W s k to h15 q17;let v17:=mkXs W s k n to q17;q17<a0→((((((True∧cond r17 u8 u17.kind=v17.kind)∧cond r17 l9 u17.base=v17.base)∧cond r17 o9 u17.len=v17.len)∧cond r17 a12 u17.mark=v17.mark)∧cond r17 r9 u17.rights=v17.rights)∧cond r17 u9 u17.badge=v17.badge)∧u17.from_=v17.from_))∧u3)))))))))))
set_option maxHeartbeats 4000000 in
theorem ok_makeR : FnOK Tryz.prog glN 24 c_makeR := ok_of (.cons ok_has_ (.cons ok_anyFrom .nil)) false Tryz.call24 Tryz.func24 (fun ⟨s, k, n, to, W⟩ => [.inv (an_mk1 W to n.toNat [(0, pt0 0), (12, pt0 11)] [(12, 0)] 13 to), .inv (an_mk2 W s k to n.toNat [(0, pt0 0), (12, pt0 11)] [(12, 0)] 15), .invF false fun fr => an_mk3 W s (intD (fr 15)).toNat [(0, pt0 0), (12, pt0 11)] [(12, 0)] 17]) (V := V_makeR) (fun _ => by kernel_rfl) fun ⟨s, k, n, to, W⟩ hp => by
  dsimp only [s_makeR] at hp
  dsimp only [V_makeR, tn, w64]
  simp only [std, stb, eq_self, implies_true, Bool.cond_self]
  try simp only [wd_eta]
  obtain ⟨k0, k1, hr, hs, hsl⟩ := hp
  refine ⟨fun h1 => ?_, fun h1 => ?_⟩
  · skip
    have e : mkE W s k n to = 2 := by unfold mkE; rw [h1]; rfl
    have hc : (mkE W s k n to == 0) = false := by rw [e]; rfl
    refine ⟨e.symm, fun i _ => ?_, fun i _ => ?_, fun i _ => slt7 ?_⟩
    · unfold mkXr; rw [hc]; rfl
    · unfold mkXk; rw [hc]; rfl
    · unfold mkXs; rw [hc]; rfl
  have hb : 0 ≤ s ∧ s < W.nSlots ∧ 0 ≤ to ∧ to < W.nSlots := by
    have h' := h1
    simp only [Bool.or_eq_false_iff, decide_eq_false_iff_not] at h'
    omega
  obtain ⟨s0, s1, t0, t1⟩ := hb
  have hd : (decide (s < 0) || decide ((W.nSlots : Int) ≤ s)) = false := by simp only [Bool.or_eq_false_iff, decide_eq_false_iff_not]; omega
  have hq : hasE W s = bif (W.slots s.toNat).kind == 0 then 6 else 0 := by unfold hasE; rw [hd]; rfl
  simp only [hq]
  refine ⟨fun hh => ?_, fun hh => ?_⟩
  · have h2 : ((W.slots s.toNat).kind == 0) = true := by
      cases q : (W.slots s.toNat).kind == 0 with
      | true => rfl
      | false => rw [q] at hh; exact absurd hh (by decide)
    rw [h2]
    have e : mkE W s k n to = 6 := by unfold mkE; rw [h1, h2]; rfl
    have hc : (mkE W s k n to == 0) = false := by rw [e]; rfl
    refine ⟨e.symm, fun i _ => ?_, fun i _ => ?_, fun i _ => slt7 ?_⟩
    · unfold mkXr; rw [hc]; rfl
    · unfold mkXk; rw [hc]; rfl
    · unfold mkXs; rw [hc]; rfl
  have h2 : ((W.slots s.toNat).kind == 0) = false := by
    cases q : (W.slots s.toNat).kind == 0 with
    | false => rfl
    | true => rw [q] at hh; exact absurd hh (by decide)
  refine ⟨⟨s0, s1⟩, fun _ => ⟨t0, by decide, wr_in (by omega) (by omega)⟩, fun _ => ⟨by omega, by omega⟩, fun h3 => ?_, fun h3 => ?_⟩
  · skip
    have e : mkE W s k n to = 3 := by unfold mkE; rw [h1, h2, h3]; rfl
    have hc : (mkE W s k n to == 0) = false := by rw [e]; rfl
    refine ⟨e.symm, fun i _ => ?_, fun i _ => ?_, fun i _ => slt7 ?_⟩
    · unfold mkXr; rw [hc]; rfl
    · unfold mkXk; rw [hc]; rfl
    · unfold mkXs; rw [hc]; rfl
  have hk1 : (W.slots s.toNat).kind = 1 := by
    have h' := h3
    simp only [Bool.or_eq_false_iff, bne_eq_false_iff_eq] at h'
    exact h'.1.1.1
  obtain ⟨b0, m0, m1, l0, bl⟩ := hsl s.toNat (by omega) hk1
  refine ⟨fun _ => ⟨t0, by decide⟩, fun hh => by
      simp only [Bool.or_eq_false_iff, decide_eq_false_iff_not] at hh
      exact wr_in (by omega) (by omega), fun h4 => ?_, fun h4 => ?_⟩
  · skip
    have e : mkE W s k n to = 2 := by unfold mkE; rw [h1, h2, h3, h4]; rfl
    have hc : (mkE W s k n to == 0) = false := by rw [e]; rfl
    refine ⟨e.symm, fun i _ => ?_, fun i _ => ?_, fun i _ => slt7 ?_⟩
    · unfold mkXr; rw [hc]; rfl
    · unfold mkXk; rw [hc]; rfl
    · unfold mkXs; rw [hc]; rfl
  have hn : 1 ≤ n ∧ to % 16 + n ≤ 16 := by
    have h' := h4
    simp only [Bool.or_eq_false_iff, decide_eq_false_iff_not] at h'
    omega
  have tn : to + n ≤ W.nSlots := by omega
  refine ⟨by omega, fun v hv => ⟨wr_in (by omega) (by omega), fun h5 => ⟨⟨by omega, by have := of_decide_eq_true h5; omega⟩, fun h6 => ?_, fun h6 => ?_⟩, fun h5 => ?_⟩⟩
  · have h5 := of_decide_eq_true h5
    rw [show (to + (v : Int)).toNat = to.toNat + v by omega] at h6
    have hT : mkTw W n to = true := anyB_iff.2 ⟨v, by omega, h6⟩
    have e : mkE W s k n to = 12 := by unfold mkE; rw [h1, h2, h3, h4, hT]; rfl
    have hc : (mkE W s k n to == 0) = false := by rw [e]; rfl
    refine ⟨e.symm, fun i _ => ?_, fun i _ => ?_, fun i _ => slt7 ?_⟩
    · unfold mkXr; rw [hc]; rfl
    · unfold mkXk; rw [hc]; rfl
    · unfold mkXs; rw [hc]; rfl
  · have h5 := of_decide_eq_true h5
    rw [show (to + (v : Int)).toNat = to.toNat + v by omega] at h6
    exact ⟨wr_in (by omega) (by omega), v + 1, by omega, ⟨by omega, snocF (p := fun i => (W.slots (to.toNat + i)).kind != 0) hv.2 h6⟩, by omega⟩
  have h5 := of_decide_eq_false h5
  have hT : mkTw W n to = false := anyB_false.2 fun i hi => hv.2 i (by omega)
  have hno : ∀ m : Nat, m ≤ n.toNat → s.toNat < to.toNat ∨ to.toNat + m ≤ s.toNat := fun m hm => by
    rcases Nat.lt_or_ge s.toNat to.toNat with h | h
    · exact .inl h
    rcases Nat.lt_or_ge s.toNat (to.toNat + m) with h' | h'
    · have := hv.2 (s.toNat - to.toNat) (by omega)
      rw [show to.toNat + (s.toNat - to.toNat) = s.toNat by omega, hk1] at this
      exact absurd this (by decide)
    · exact .inr h'
  refine ⟨by omega, fun h6 => ?_, fun h6 => ?_⟩
  · have hf : frmB W.nSlots W.slots s = false := by simpa using h6
    have hU : mkU W s = 0 := by unfold mkU; rw [hf]; rfl
    have eF : ∀ m : Nat, ((W.slots s.toNat).base + 0 + (m : Int)).toNat = mkF W s + m := fun m => by unfold mkF; rw [hU]; omega
    refine ⟨wr_in (by omega) (by omega), fun h7 => ?_, fun h7 => ?_⟩
    · have h7' : decide ((W.slots s.toNat).len < mkU W s + n) = true := decide_eq_true (by have := of_decide_eq_true h7; rw [hU]; omega)
      have e : mkE W s k n to = 5 := by unfold mkE; rw [h1, h2, h3, h4, hT, h7']; rfl
      have hc : (mkE W s k n to == 0) = false := by rw [e]; rfl
      refine ⟨e.symm, fun i _ => ?_, fun i _ => ?_, fun i _ => slt7 ?_⟩
      · unfold mkXr; rw [hc]; rfl
      · unfold mkXk; rw [hc]; rfl
      · unfold mkXs; rw [hc]; rfl
    have h7' : decide ((W.slots s.toNat).len < mkU W s + n) = false := decide_eq_false (by have := of_decide_eq_false h7; rw [hU]; omega)
    have hE : mkE W s k n to = 0 := by unfold mkE; rw [h1, h2, h3, h4, hT, h7']; rfl
    have hlen := of_decide_eq_false h7
    refine ⟨⟨fun i _ => mkRm0.symm, fun i _ => mkKd0.symm, fun i _ => slt7 mkSl0.symm⟩, fun m hm => ⟨fun h8 => ?_, fun h8 => ?_⟩⟩
    · have hml := of_decide_eq_true h8
      have hF := eF m
      refine ⟨wr_in (by omega) (by omega), wr_in (by omega) (by omega), ⟨by omega, by omega⟩, fun i _ => mkRi0.symm, fun c hc16 => ⟨fun h9 => ?_, fun h9 => ?_⟩⟩
      · have hcl := of_decide_eq_true h9
        have eR : (((W.slots s.toNat).base + 0 + (m : Int)) * 16 + (c : Int)).toNat = (mkF W s + m) * 16 + c := by omega
        refine ⟨wr_in (by omega) (by omega), wr_in (by omega) (by omega), ⟨by omega, by omega⟩, wr_in (by omega) (by omega), c + 1, by omega, fun i _ => ?_, by omega, by omega⟩
        rw [eR]; exact mkRi_s
      · have hce := of_decide_eq_false h9
        obtain rfl : c = 16 := by omega
        refine ⟨wr_in (by omega) (by omega), ⟨by omega, by omega⟩, wr_in (by omega) (by omega), m + 1, by omega, ⟨fun i _ => mkRi16, fun i _ => ?_, fun i _ => ?_⟩, by omega, by omega⟩
        · rw [eF m]; exact mkKd_s
        · skip
          rw [show (to + (m : Int)).toNat = to.toNat + m by omega]
          refine slt7c (x := ⟨k, (W.slots s.toNat).base + 0 + m, 1, 0, 7, 0, s⟩) ?_
          rw [← mkSl_s]
          rcases Decidable.em (i = to.toNat + m) with e | e
          · subst e
            rw [Nat.beq_refl]
            show (⟨k, (W.slots s.toNat).base + 0 + m, 1, 0, 7, 0, s⟩ : Slt) = mkN W s k to (to.toNat + m)
            unfold mkN
            rw [show ((mkF W s : Int) + (((to.toNat + m : Nat) : Int) - to)) = (W.slots s.toNat).base + 0 + m by have := eF 0; omega]
          · rw [beq_ne e]; rfl
    · have hme := of_decide_eq_false h8
      obtain rfl : m = n.toNat := by omega
      have eX : ∀ i, mkXs W s k n to i = mkSm W s k n to i := fun i => by unfold mkXs; rw [hE]; rfl
      have en : mkSl W s k to n.toNat s.toNat = W.slots s.toNat := mkSl_no (hno _ (Nat.le_refl _))
      refine ⟨wr_in (by omega) (by omega), ⟨s0, s1⟩, hE.symm, fun i _ => ?_, fun i _ => ?_, fun i _ => ?_⟩
      · unfold mkXr; rw [hE]; rfl
      · unfold mkXk; rw [hE]; rfl
      · rw [eX]; unfold mkSm
        rcases Decidable.em (i = s.toNat) with e | e
        · subst e
          simp only [Nat.beq_refl, cond_true, updF_at, en, hU]
          repeat' (first | exact trivial | rfl | refine And.intro ?_ ?_)
        · simp only [beq_ne e, cond_false, updF_ne e]
          repeat' (first | exact trivial | rfl | refine And.intro ?_ ?_)
  · have hf : frmB W.nSlots W.slots s = true := by simpa using h6
    have hU : mkU W s = (W.slots s.toNat).mark := by unfold mkU; rw [hf]; rfl
    have eF : ∀ m : Nat, ((W.slots s.toNat).base + (W.slots s.toNat).mark + (m : Int)).toNat = mkF W s + m := fun m => by unfold mkF; rw [hU]; omega
    refine ⟨wr_in (by omega) (by omega), fun h7 => ?_, fun h7 => ?_⟩
    · have h7' : decide ((W.slots s.toNat).len < mkU W s + n) = true := decide_eq_true (by have := of_decide_eq_true h7; rw [hU]; omega)
      have e : mkE W s k n to = 5 := by unfold mkE; rw [h1, h2, h3, h4, hT, h7']; rfl
      have hc : (mkE W s k n to == 0) = false := by rw [e]; rfl
      refine ⟨e.symm, fun i _ => ?_, fun i _ => ?_, fun i _ => slt7 ?_⟩
      · unfold mkXr; rw [hc]; rfl
      · unfold mkXk; rw [hc]; rfl
      · unfold mkXs; rw [hc]; rfl
    have h7' : decide ((W.slots s.toNat).len < mkU W s + n) = false := decide_eq_false (by have := of_decide_eq_false h7; rw [hU]; omega)
    have hE : mkE W s k n to = 0 := by unfold mkE; rw [h1, h2, h3, h4, hT, h7']; rfl
    have hlen := of_decide_eq_false h7
    refine ⟨⟨fun i _ => mkRm0.symm, fun i _ => mkKd0.symm, fun i _ => slt7 mkSl0.symm⟩, fun m hm => ⟨fun h8 => ?_, fun h8 => ?_⟩⟩
    · have hml := of_decide_eq_true h8
      have hF := eF m
      refine ⟨wr_in (by omega) (by omega), wr_in (by omega) (by omega), ⟨by omega, by omega⟩, fun i _ => mkRi0.symm, fun c hc16 => ⟨fun h9 => ?_, fun h9 => ?_⟩⟩
      · have hcl := of_decide_eq_true h9
        have eR : (((W.slots s.toNat).base + (W.slots s.toNat).mark + (m : Int)) * 16 + (c : Int)).toNat = (mkF W s + m) * 16 + c := by omega
        refine ⟨wr_in (by omega) (by omega), wr_in (by omega) (by omega), ⟨by omega, by omega⟩, wr_in (by omega) (by omega), c + 1, by omega, fun i _ => ?_, by omega, by omega⟩
        rw [eR]; exact mkRi_s
      · have hce := of_decide_eq_false h9
        obtain rfl : c = 16 := by omega
        refine ⟨wr_in (by omega) (by omega), ⟨by omega, by omega⟩, wr_in (by omega) (by omega), m + 1, by omega, ⟨fun i _ => mkRi16, fun i _ => ?_, fun i _ => ?_⟩, by omega, by omega⟩
        · rw [eF m]; exact mkKd_s
        · skip
          rw [show (to + (m : Int)).toNat = to.toNat + m by omega]
          refine slt7c (x := ⟨k, (W.slots s.toNat).base + (W.slots s.toNat).mark + m, 1, 0, 7, 0, s⟩) ?_
          rw [← mkSl_s]
          rcases Decidable.em (i = to.toNat + m) with e | e
          · subst e
            rw [Nat.beq_refl]
            show (⟨k, (W.slots s.toNat).base + (W.slots s.toNat).mark + m, 1, 0, 7, 0, s⟩ : Slt) = mkN W s k to (to.toNat + m)
            unfold mkN
            rw [show ((mkF W s : Int) + (((to.toNat + m : Nat) : Int) - to)) = (W.slots s.toNat).base + (W.slots s.toNat).mark + m by have := eF 0; omega]
          · rw [beq_ne e]; rfl
    · have hme := of_decide_eq_false h8
      obtain rfl : m = n.toNat := by omega
      have eX : ∀ i, mkXs W s k n to i = mkSm W s k n to i := fun i => by unfold mkXs; rw [hE]; rfl
      have en : mkSl W s k to n.toNat s.toNat = W.slots s.toNat := mkSl_no (hno _ (Nat.le_refl _))
      refine ⟨wr_in (by omega) (by omega), ⟨s0, s1⟩, hE.symm, fun i _ => ?_, fun i _ => ?_, fun i _ => ?_⟩
      · unfold mkXr; rw [hE]; rfl
      · unfold mkXk; rw [hE]; rfl
      · rw [eX]; unfold mkSm
        rcases Decidable.em (i = s.toNat) with e | e
        · subst e
          simp only [Nat.beq_refl, cond_true, updF_at, en, hU]
          repeat' (first | exact trivial | rfl | refine And.intro ?_ ?_)
        · simp only [beq_ne e, cond_false, updF_ne e]
          repeat' (first | exact trivial | rfl | refine And.intro ?_ ?_)
structure X_makeP where
  (s k n to : Int) (W : Wd)
def s_makeP : Sy.Spec := ⟨X_makeP, fun ⟨s, k, n, to, _⟩ => [.ptr 0 0 none 0 0, .v (.int .i64 s), .v (.int .i64 k), .v (.int .i64 n), .v (.int .i64 to)], fun ⟨_, _, _, _, W⟩ => wMem W, fun ⟨_, _, _, _, W⟩ => MkP W, fun ⟨s, k, n, to, W⟩ => .er 35 116 (mkE W s k n to) (-1), fun ⟨s, k, n, to, W⟩ => wMem (mkX W s k n to),
  fun args mem => match args with | [a0, a1, a2, a3, a4] => some ⟨intD (a1), intD (a2), intD (a3), intD (a4), wMJD mem 0⟩ | _ => none⟩
def c_makeP : Con := ⟨[true], s_makeP.g, none⟩
def V_makeP : X_makeP → Prop := fun ⟨s, k, n, to, W⟩ => let a0:=W.nSlots;let b0:=(a0:Int);let c0:=cond (cond (cond (decide (s<0)) true (decide (b0≤s))) true (decide (to<0))) true (decide (b0≤to));let d0:=mkE W s k n to;let e0:=((-1):Int)=(-1);let g0:=0=0;let h0:=W.nRam;let k0:=h0=h0;let l0:=W.nKinds;let o0:=l0=l0;let q0:=a0=a0;let u0:=W.nTasks;let v0:=u0=u0;let w0:=W.nLines;let x0:=w0=w0;let y0:=W.nBits=W.nBits;let z0:=W.nCores;let a1:=z0=z0;let b1:=W.nReady;let c1:=b1=b1;let d1:=W.nTlbs=W.nTlbs;let e1:=W.nDoms=W.nDoms;let g1:=W.time=W.time;let h1:=((((((((((True∧g0∧k0)∧g0∧o0)∧g0∧q0)∧g0∧v0)∧g0∧x0)∧g0∧y0)∧g0∧a1)∧g0∧c1)∧g0∧d1)∧g0∧e1)∧g1;let k1:=v0∧(∀l1:Nat,let o1:=W.tasks l1;let q1:=o1.prio;let u1:=o1.node;let v1:=o1.space;let w1:=o1.helper;let x1:=o1.loc;let y1:=o1.word;let z1:=o1.badge;let a2:=o1.owes;let b2:=o1.core;let c2:=o1.dom;l1<u0→(((((((((((((((((((True∧o1.r0=o1.r0)∧o1.r1=o1.r1)∧o1.r2=o1.r2)∧o1.r3=o1.r3)∧o1.r4=o1.r4)∧o1.r5=o1.r5)∧o1.r6=o1.r6)∧o1.r7=o1.r7)∧o1.pc=o1.pc)∧o1.st=o1.st)∧q1=q1)∧u1=u1)∧v1=v1)∧w1=w1)∧x1=x1)∧y1=y1)∧z1=z1)∧a2=a2)∧b2=b2)∧c2=c2);let d2:=x0∧(∀e2:Nat,let g2:=W.linesN e2;e2<w0→True∧g2=g2∧(∀h2:Nat,h2<g2→True∧W.lines e2 h2=W.lines e2 h2));let k2:=y0∧(∀l2:Nat,l2<W.nBits→True∧W.bits l2=W.bits l2);let o2:=a1∧(∀q2:Nat,q2<z0→True∧W.cores q2=W.cores q2);let u2:=c1∧(∀v2:Nat,let w2:=W.readyN v2;v2<b1→True∧w2=w2∧(∀x2:Nat,x2<w2→True∧W.ready v2 x2=W.ready v2 x2));
    let y2:=d1∧(∀z2:Nat,let a3:=W.tlbsN z2;z2<W.nTlbs→True∧a3=a3∧(∀b3:Nat,let c3:=W.tlbs z2 b3;let d3:=c3.sp;let e3:=c3.pg;let g3:=c3.fr;let h3:=c3.wr;b3<a3→(((True∧d3=d3)∧e3=e3)∧g3=g3)∧h3=h3));let k3:=e1∧(∀l3:Nat,l3<W.nDoms→True∧W.doms l3=W.doms l3);let o3:=k1∧d2∧k2∧o2∧u2∧y2∧k3∧True;let q3:=h1∧(k0∧(∀u3:Nat,u3<h0→True∧W.ram u3=mkXr W s k n to u3))∧(o0∧(∀v3:Nat,v3<l0→True∧W.kinds v3=mkXk W s k n to v3))∧(q0∧(∀w3:Nat,let x3:=W.slots w3;let y3:=mkXs W s k n to w3;w3<a0→((((((True∧x3.kind=y3.kind)∧x3.base=y3.base)∧x3.len=y3.len)∧x3.mark=y3.mark)∧x3.rights=y3.rights)∧x3.badge=y3.badge)∧x3.from_=y3.from_))∧o3;let z3:=((2:Int)≠0∧d0=2∧e0)∧q3;let a4:=0≤s∧s<b0;let b4:=Int.toNat s;let c4:=W.slots (0+b4);let d4:=c4.kind;let e4:=d4==0;let g4:=cond (cond (d4 !=1) true (decide (k≤1))) true (decide (8<k));let h4:=g4=false;let k4:Int:=to/16;let l4:=(l0:Int);let o4:=cond g4 true (W.kinds (0+Int.toNat k4) !=5);let q4:=decide (n<1)=false;let u4:Int:=16-to%16;let v4:=cond (decide (n<1)) true (decide (u4<n));let w4:=SV.ptr 0 0 none 0 0=SV.ptr 0 0 none 0 0;let x4:=0+1+1+1;let y4:=SV.ptr (x4+1+1+1+1+1+1+1+1) 0 none 0 0=SV.ptr 11 0 none 0 0;let z4:=0=0;let a5:=((((((((((True∧z4∧k0)∧z4∧o0)∧z4∧q0)∧z4∧v0)∧z4∧x0)∧z4∧y0)∧z4∧a1)∧z4∧c1)∧z4∧d1)∧z4∧e1)∧g1;let b5:=k1∧d2∧k2∧o2∧u2∧y2∧k3∧(True∧s=s)∧True;
    let c5:=a5∧(k0∧(∀d5:Nat,d5<h0→True∧W.ram d5=W.ram d5))∧(o0∧(∀e5:Nat,e5<l0→True∧W.kinds e5=W.kinds e5))∧(q0∧(∀g5:Nat,let h5:=W.slots g5;let k5:=h5.kind;let l5:=h5.base;let o5:=h5.len;let q5:=h5.mark;let u5:=h5.rights;let v5:=h5.badge;let w5:=h5.from_;g5<a0→((((((True∧k5=k5)∧l5=l5)∧o5=o5)∧q5=q5)∧u5=u5)∧v5=v5)∧w5=w5))∧b5;let x5:=Int.toNat n;let y5:=0≤x5;let z5:=!frmB a0 (fun a6:Nat=>W.slots (0+a6)) s;let b6:=c4.len;let c6:Int:=b6-0;let d6:=decide (c6<n);let e6:=((5:Int)≠0∧d0=5∧e0)∧q3;let g6:=SV.ptr 3 0 none b4 0;let h6:=SV.ptr x4 0 none (0+b4) 0=g6;let k6:=a5∧(k0∧(∀l6:Nat,l6<h0→True∧W.ram l6=mkRm W s 0 l6))∧(o0∧(∀o6:Nat,o6<l0→True∧W.kinds o6=mkKd W s k 0 o6))∧(q0∧(∀q6:Nat,let u6:=W.slots q6;let v6:=mkSl W s k to 0 q6;q6<a0→((((((True∧u6.kind=v6.kind)∧u6.base=v6.base)∧u6.len=v6.len)∧u6.mark=v6.mark)∧u6.rights=v6.rights)∧u6.badge=v6.badge)∧u6.from_=v6.from_))∧b5;let w6:=false=false;let x6:=(∀y6:Nat,w6)∧(∀z6:Nat,w6)∧(∀a7:Nat,w6)∧(∀b7:Nat,w6)∧(∀c7:Nat,w6)∧(∀d7:Nat,w6)∧(∀e7:Nat,w6);let g7:=SV.ptr x4 0 none b4 0=g6;let h7:=d0=0∧e0;let k7:=c4.mark;let l7:Int:=b6-k7;let o7:=decide (l7<n);let q7:Int:=k7+n;tn 23 ((c0=true→z3)∧(c0=false→tn 5 (a4∧(e4=true→((6:Int)≠0∧d0=6∧e0)∧q3)∧(e4=false→tn 5 (a4∧tn 18 ((h4→0≤to∧(0:Int)<16∧w64 k4=k4)∧(h4→0≤k4∧k4<l4)∧(o4=true→((3:Int)≠0∧d0=3∧e0)∧q3)∧(o4=false→(q4→0≤to∧(0:Int)<16)∧(q4→w64 u4=u4)∧(v4=true→z3)∧(v4=false→w4∧y4∧0=0+((0:Nat):Int)∧c5∧(y5∧(∀u7:Nat,u7<0→((W.slots (Int.toNat to+u7)).kind !=0)=false))∧(∀v7:Nat,let w7:Int:=0+(v7:Int);
    let x7:=decide (w7<n);let y7:Int:=to+w7;let z7:=(W.slots (0+Int.toNat y7)).kind !=0;let a8:Int:=w7+1;v7≤x5∧(∀b8:Nat,b8<v7→((W.slots (Int.toNat to+b8)).kind !=0)=false)→(x7=true→w64 y7=y7∧(0≤y7∧y7<b0)∧(z7=true→((12:Int)≠0∧d0=12∧e0)∧q3)∧(z7=false→w64 a8=a8∧(∃c8:Nat,w4∧y4∧a8=0+(c8:Int)∧c5∧(c8≤x5∧(∀d8:Nat,d8<c8→((W.slots (Int.toNat to+d8)).kind !=0)=false))∧x5-c8<x5-v7)))∧(x7=false→tn 5 (a4∧(((q0∧(∀e8:Nat,let g8:=W.slots (0+e8);let h8:=g8.kind;let k8:=g8.base;let l8:=g8.len;let o8:=g8.mark;let q8:=g8.rights;let r8:=g8.badge;let u8:=g8.from_;e8<a0→((((((True∧h8=h8)∧k8=k8)∧l8=l8)∧o8=o8)∧q8=q8)∧r8=r8)∧u8=u8))∧tn 2 (s=s)∧True)∧True∧s_cnSm.match_1 (fun v8:X_cnSm=>Prop) (X_cnSm.mk a0 (fun w8:Nat=>W.slots (0+w8)) s) (fun x8:Nat=>fun y8:∀z8:Nat,Slt=>fun a9:Int=>x8≤100000))∧(z5=true→w64 c6=c6∧(d6=true→e6)∧(d6=false→w4∧y4∧h6∧0=((0:Nat):Int)∧k6∧y5∧(∀b9:Nat,let c9:=(b9:Int);let d9:=decide (c9<n);let e9:Int:=(mkSl W s k to b9 b4).base+0;let g9:Int:=e9+c9;let h9:Int:=g9*16;let k9:Int:=g9+1;let l9:Int:=k9*16;let o9:=Int.toNat h9;let q9:=0+o9;let r9:=q9+(Int.toNat l9-o9);let u9:Int:=to+c9;let v9:Int:=c9+1;let w9:=0+Int.toNat u9;b9≤x5→(d9=true→w64 e9=e9∧w64 g9=g9∧(0≤g9∧g9<l4)∧(∀x9:Nat,w6)∧w64 h9=h9∧w64 k9=k9∧w64 l9=l9∧(0≤h9∧h9≤l9∧l9≤(h0:Int))∧((∀y9:Nat,true=true)∧r9≤h0)∧tn 6 (w64 u9=u9∧tn 5 ((0≤u9∧u9<b0)∧x6∧w64 v9=v9∧(∃z9:Nat,w4∧y4∧g7∧v9=(z9:Int)∧(a5∧(k0∧(∀a10:Nat,a10<h0→True∧cond (Nat.ble q9 a10&&Nat.blt a10 r9) 0 (mkRm W s b9 a10)=mkRm W s z9 a10))∧(o0∧(∀b10:Nat,b10<l0→True∧
    cond (Nat.beq b10 (0+Int.toNat g9)) k (mkKd W s k b9 b10)=mkKd W s k z9 b10))∧(q0∧(∀c10:Nat,let d10:=Nat.beq c10 w9;let e10:=mkSl W s k to b9 c10;let g10:=mkSl W s k to z9 c10;c10<a0→((((((True∧cond d10 k e10.kind=g10.kind)∧cond d10 g9 e10.base=g10.base)∧cond d10 1 e10.len=g10.len)∧cond d10 0 e10.mark=g10.mark)∧cond d10 7 e10.rights=g10.rights)∧cond d10 0 e10.badge=g10.badge)∧cond d10 s e10.from_=g10.from_))∧b5)∧z9≤x5∧x5-z9<x5-b9))))∧(d9=false→w64 (0+n)=0+n∧(∀h10:Nat,w6)∧h7∧h1∧(k0∧(∀k10:Nat,k10<h0→True∧mkRm W s b9 k10=mkXr W s k n to k10))∧(o0∧(∀l10:Nat,l10<l0→True∧mkKd W s k b9 l10=mkXk W s k n to l10))∧(q0∧(∀o10:Nat,let q10:=mkSl W s k to b9 o10;let r10:=mkXs W s k n to o10;o10<a0→((((((True∧q10.kind=r10.kind)∧q10.base=r10.base)∧q10.len=r10.len)∧cond (Nat.beq o10 b4) (0+n) q10.mark=r10.mark)∧q10.rights=r10.rights)∧q10.badge=r10.badge)∧q10.from_=r10.from_))∧o3))))∧(z5=false→w64 l7=l7∧(o7=true→e6)∧(o7=false→w4∧y4∧h6∧0=((0:Nat):Int)∧k6∧y5∧(∀u10:Nat,let v10:=(u10:Int);let w10:=decide (v10<n);let x10:Int:=(mkSl W s k to u10 b4).base+k7;let y10:Int:=x10+v10;let z10:Int:=y10*16;let a11:Int:=y10+1;let b11:Int:=a11*16;let c11:=Int.toNat z10;let d11:=0+c11;let e11:=d11+(Int.toNat b11-c11);let g11:Int:=to+v10;let h11:Int:=v10+1;let k11:=0+Int.toNat g11;u10≤x5→(w10=true→w64 x10=x10∧w64 y10=y10∧(0≤y10∧y10<l4)∧(∀l11:Nat,w6)∧w64 z10=z10∧w64 a11=a11∧w64 b11=b11∧(0≤z10∧z10≤b11∧b11≤(h0:Int))∧((∀o11:Nat,true=true)∧e11≤h0)∧tn 6 (w64 g11=g11∧tn 5 ((0≤g11∧g11<b0)∧x6∧w64 h11=h11∧(∃q11:Nat,w4∧
    y4∧g7∧h11=(q11:Int)∧(a5∧(k0∧(∀r11:Nat,r11<h0→True∧cond (Nat.ble d11 r11&&Nat.blt r11 e11) 0 (mkRm W s u10 r11)=mkRm W s q11 r11))∧(o0∧(∀u11:Nat,u11<l0→True∧cond (Nat.beq u11 (0+Int.toNat y10)) k (mkKd W s k u10 u11)=mkKd W s k q11 u11))∧(q0∧(∀v11:Nat,let w11:=Nat.beq v11 k11;let x11:=mkSl W s k to u10 v11;let y11:=mkSl W s k to q11 v11;v11<a0→((((((True∧cond w11 k x11.kind=y11.kind)∧cond w11 y10 x11.base=y11.base)∧cond w11 1 x11.len=y11.len)∧cond w11 0 x11.mark=y11.mark)∧cond w11 7 x11.rights=y11.rights)∧cond w11 0 x11.badge=y11.badge)∧cond w11 s x11.from_=y11.from_))∧b5)∧q11≤x5∧x5-q11<x5-u10))))∧(w10=false→w64 q7=q7∧(∀z11:Nat,w6)∧h7∧h1∧(k0∧(∀a12:Nat,a12<h0→True∧mkRm W s u10 a12=mkXr W s k n to a12))∧(o0∧(∀b12:Nat,b12<l0→True∧mkKd W s k u10 b12=mkXk W s k n to b12))∧(q0∧(∀c12:Nat,let d12:=mkSl W s k to u10 c12;let e12:=mkXs W s k n to c12;c12<a0→((((((True∧d12.kind=e12.kind)∧d12.base=e12.base)∧d12.len=e12.len)∧cond (Nat.beq c12 b4) q7 d12.mark=e12.mark)∧d12.rights=e12.rights)∧d12.badge=e12.badge)∧d12.from_=e12.from_))∧o3)))))))))))))))
set_option maxHeartbeats 4000000 in
theorem ok_makeP : FnOK Tryz.prog glN 79 c_makeP := ok_of (.cons ok_cnSm .nil) false Tryz.call79 Tryz.func79 (fun ⟨s, k, n, to, W⟩ => [.inv (an_mk1 W to n.toNat [(0, pt0 0), (6, pt0 11)] [(6, 0)] 93 0), .inv (an_mk2 W s k to n.toNat [(0, pt0 0), (6, pt0 11), (12, .ptr 3 0 none s.toNat 0)] [(6, 0)] 138)]) (V := V_makeP) (fun _ => by kernel_rfl) fun ⟨s, k, n, to, W⟩ hp => by
  dsimp only [s_makeP] at hp
  dsimp only [V_makeP, tn, w64]
  simp only [std, stb, eq_self, implies_true, Bool.cond_self]
  try simp only [wd_eta]
  obtain ⟨k0, k1, hr, hs, hsl⟩ := hp
  have q2 : decide (k ≤ 1) = decide (k < 2) := decide_eq_decide.2 (by omega)
  simp only [q2]
  refine ⟨fun h1 => ?_, fun h1 => ?_⟩
  · skip
    have e : mkE W s k n to = 2 := by unfold mkE; rw [h1]; rfl
    have hc : (mkE W s k n to == 0) = false := by rw [e]; rfl
    refine ⟨⟨by decide, e⟩, fun i _ => ?_, fun i _ => ?_, fun i _ => slt7 ?_⟩
    · unfold mkXr; rw [hc]; rfl
    · unfold mkXk; rw [hc]; rfl
    · unfold mkXs; rw [hc]; rfl
  have hb : 0 ≤ s ∧ s < W.nSlots ∧ 0 ≤ to ∧ to < W.nSlots := by
    have h' := h1
    simp only [Bool.or_eq_false_iff, decide_eq_false_iff_not] at h'
    omega
  obtain ⟨s0, s1, t0, t1⟩ := hb
  refine ⟨⟨s0, s1⟩, fun h2 => ?_, fun h2 => ?_⟩
  · skip
    have e : mkE W s k n to = 6 := by unfold mkE; rw [h1, h2]; rfl
    have hc : (mkE W s k n to == 0) = false := by rw [e]; rfl
    refine ⟨⟨by decide, e⟩, fun i _ => ?_, fun i _ => ?_, fun i _ => slt7 ?_⟩
    · unfold mkXr; rw [hc]; rfl
    · unfold mkXk; rw [hc]; rfl
    · unfold mkXs; rw [hc]; rfl
  refine ⟨⟨s0, s1⟩, fun _ => ⟨t0, by decide, wr_in (by omega) (by omega)⟩, fun _ => ⟨by omega, by omega⟩, fun h3 => ?_, fun h3 => ?_⟩
  · skip
    have e : mkE W s k n to = 3 := by unfold mkE; rw [h1, h2, h3]; rfl
    have hc : (mkE W s k n to == 0) = false := by rw [e]; rfl
    refine ⟨⟨by decide, e⟩, fun i _ => ?_, fun i _ => ?_, fun i _ => slt7 ?_⟩
    · unfold mkXr; rw [hc]; rfl
    · unfold mkXk; rw [hc]; rfl
    · unfold mkXs; rw [hc]; rfl
  have hk1 : (W.slots s.toNat).kind = 1 := by
    have h' := h3
    simp only [Bool.or_eq_false_iff, bne_eq_false_iff_eq] at h'
    exact h'.1.1.1
  obtain ⟨b0, m0, m1, l0, bl⟩ := hsl s.toNat (by omega) hk1
  have q4 : (decide (n < 1) || decide (16 - to % 16 < n)) = (decide (n < 1) || decide (16 < n) || decide (16 < to % 16 + n)) := by
    rw [Bool.eq_iff_iff]
    simp only [Bool.or_eq_true, decide_eq_true_eq]
    omega
  rw [q4]
  refine ⟨fun _ => ⟨t0, by decide⟩, fun hh => wr_in (by omega) (by omega), fun h4 => ?_, fun h4 => ?_⟩
  · skip
    have e : mkE W s k n to = 2 := by unfold mkE; rw [h1, h2, h3, h4]; rfl
    have hc : (mkE W s k n to == 0) = false := by rw [e]; rfl
    refine ⟨⟨by decide, e⟩, fun i _ => ?_, fun i _ => ?_, fun i _ => slt7 ?_⟩
    · unfold mkXr; rw [hc]; rfl
    · unfold mkXk; rw [hc]; rfl
    · unfold mkXs; rw [hc]; rfl
  have hn : 1 ≤ n ∧ to % 16 + n ≤ 16 := by
    have h' := h4
    simp only [Bool.or_eq_false_iff, decide_eq_false_iff_not] at h'
    omega
  have tn : to + n ≤ W.nSlots := by omega
  refine ⟨rfl, fun v hv => ⟨fun h5 => ⟨wr_in (by omega) (by omega), ⟨by omega, by have := of_decide_eq_true h5; omega⟩, fun h6 => ?_, fun h6 => ?_⟩, fun h5 => ?_⟩⟩
  · have h5 := of_decide_eq_true h5
    rw [show (to + (0 + (v : Int))).toNat = to.toNat + v by omega] at h6
    have hT : mkTw W n to = true := anyB_iff.2 ⟨v, by omega, h6⟩
    have e : mkE W s k n to = 12 := by unfold mkE; rw [h1, h2, h3, h4, hT]; rfl
    have hc : (mkE W s k n to == 0) = false := by rw [e]; rfl
    refine ⟨⟨by decide, e⟩, fun i _ => ?_, fun i _ => ?_, fun i _ => slt7 ?_⟩
    · unfold mkXr; rw [hc]; rfl
    · unfold mkXk; rw [hc]; rfl
    · unfold mkXs; rw [hc]; rfl
  · have h5 := of_decide_eq_true h5
    rw [show (to + (0 + (v : Int))).toNat = to.toNat + v by omega] at h6
    exact ⟨wr_in (by omega) (by omega), v + 1, by omega, ⟨by omega, snocF (p := fun i => (W.slots (to.toNat + i)).kind != 0) hv.2 h6⟩, by omega⟩
  have h5 := of_decide_eq_false h5
  have hT : mkTw W n to = false := anyB_false.2 fun i hi => hv.2 i (by omega)
  have hno : ∀ m : Nat, m ≤ n.toNat → s.toNat < to.toNat ∨ to.toNat + m ≤ s.toNat := fun m hm => by
    rcases Nat.lt_or_ge s.toNat to.toNat with h | h
    · exact .inl h
    rcases Nat.lt_or_ge s.toNat (to.toNat + m) with h' | h'
    · have := hv.2 (s.toNat - to.toNat) (by omega)
      rw [show to.toNat + (s.toNat - to.toNat) = s.toNat by omega, hk1] at this
      exact absurd this (by decide)
    · exact .inr h'
  refine ⟨⟨s0, s1⟩, by omega, fun h6 => ?_, fun h6 => ?_⟩
  · have hf : frmB W.nSlots W.slots s = false := by simpa using h6
    have hU : mkU W s = 0 := by unfold mkU; rw [hf]; rfl
    have eF : ∀ m : Nat, ((W.slots s.toNat).base + 0 + (m : Int)).toNat = mkF W s + m := fun m => by unfold mkF; rw [hU]; omega
    refine ⟨wr_in (by omega) (by omega), fun h7 => ?_, fun h7 => ?_⟩
    · have h7' : decide ((W.slots s.toNat).len < mkU W s + n) = true := decide_eq_true (by have := of_decide_eq_true h7; rw [hU]; omega)
      have e : mkE W s k n to = 5 := by unfold mkE; rw [h1, h2, h3, h4, hT, h7']; rfl
      have hc : (mkE W s k n to == 0) = false := by rw [e]; rfl
      refine ⟨⟨by decide, e⟩, fun i _ => ?_, fun i _ => ?_, fun i _ => slt7 ?_⟩
      · unfold mkXr; rw [hc]; rfl
      · unfold mkXk; rw [hc]; rfl
      · unfold mkXs; rw [hc]; rfl
    have h7' : decide ((W.slots s.toNat).len < mkU W s + n) = false := decide_eq_false (by have := of_decide_eq_false h7; rw [hU]; omega)
    have hE : mkE W s k n to = 0 := by unfold mkE; rw [h1, h2, h3, h4, hT, h7']; rfl
    have hlen := of_decide_eq_false h7
    refine ⟨⟨fun i _ => mkRm0.symm, fun i _ => mkKd0.symm, fun i _ => slt7 mkSl0.symm⟩, fun m hm => ⟨fun h8 => ?_, fun h8 => ?_⟩⟩
    · have hml := of_decide_eq_true h8
      have hF := eF m
      have eb : mkSl W s k to m s.toNat = W.slots s.toNat := mkSl_no (hno m hm)
      simp only [eb]
      have eR0 : (((W.slots s.toNat).base + 0 + (m : Int)) * 16).toNat = (mkF W s + m) * 16 := by omega
      have eR1 : (((W.slots s.toNat).base + 0 + (m : Int) + 1) * 16).toNat = (mkF W s + m) * 16 + 16 := by omega
      refine ⟨wr_in (by omega) (by omega), wr_in (by omega) (by omega), ⟨by omega, by omega⟩, wr_in (by omega) (by omega), wr_in (by omega) (by omega), wr_in (by omega) (by omega), ⟨by omega, by omega, by omega⟩, by omega, wr_in (by omega) (by omega), ⟨by omega, by omega⟩, wr_in (by omega) (by omega), m + 1, by omega, ⟨fun i _ => ?_, fun i _ => ?_, fun i _ => ?_⟩, by omega, by omega⟩
      · rw [eR0, eR1, show (mkF W s + m) * 16 + ((mkF W s + m) * 16 + 16 - (mkF W s + m) * 16) = (mkF W s + m) * 16 + 16 by omega]
        exact mkRm_c
      · rw [eF m]; exact mkKd_s
      · skip
        rw [show (to + (m : Int)).toNat = to.toNat + m by omega]
        refine slt7c (x := ⟨k, (W.slots s.toNat).base + 0 + m, 1, 0, 7, 0, s⟩) ?_
        rw [← mkSl_s]
        rcases Decidable.em (i = to.toNat + m) with e | e
        · subst e
          rw [Nat.beq_refl]
          show (⟨k, (W.slots s.toNat).base + 0 + m, 1, 0, 7, 0, s⟩ : Slt) = mkN W s k to (to.toNat + m)
          unfold mkN
          rw [show ((mkF W s : Int) + (((to.toNat + m : Nat) : Int) - to)) = (W.slots s.toNat).base + 0 + m by have := eF 0; omega]
        · rw [beq_ne e]; rfl
    · have hme := of_decide_eq_false h8
      obtain rfl : m = n.toNat := by omega
      have eX : ∀ i, mkXs W s k n to i = mkSm W s k n to i := fun i => by unfold mkXs; rw [hE]; rfl
      have en : mkSl W s k to n.toNat s.toNat = W.slots s.toNat := mkSl_no (hno _ (Nat.le_refl _))
      refine ⟨wr_in (by omega) (by omega), hE, fun i _ => ?_, fun i _ => ?_, fun i _ => ?_⟩
      · unfold mkXr; rw [hE]; rfl
      · unfold mkXk; rw [hE]; rfl
      · rw [eX]; unfold mkSm
        rcases Decidable.em (i = s.toNat) with e | e
        · subst e
          simp only [Nat.beq_refl, cond_true, updF_at, en, hU]
          repeat' (first | exact trivial | rfl | refine And.intro ?_ ?_)
        · simp only [beq_ne e, cond_false, updF_ne e]
          repeat' (first | exact trivial | rfl | refine And.intro ?_ ?_)
  · have hf : frmB W.nSlots W.slots s = true := by simpa using h6
    have hU : mkU W s = (W.slots s.toNat).mark := by unfold mkU; rw [hf]; rfl
    have eF : ∀ m : Nat, ((W.slots s.toNat).base + (W.slots s.toNat).mark + (m : Int)).toNat = mkF W s + m := fun m => by unfold mkF; rw [hU]; omega
    refine ⟨wr_in (by omega) (by omega), fun h7 => ?_, fun h7 => ?_⟩
    · have h7' : decide ((W.slots s.toNat).len < mkU W s + n) = true := decide_eq_true (by have := of_decide_eq_true h7; rw [hU]; omega)
      have e : mkE W s k n to = 5 := by unfold mkE; rw [h1, h2, h3, h4, hT, h7']; rfl
      have hc : (mkE W s k n to == 0) = false := by rw [e]; rfl
      refine ⟨⟨by decide, e⟩, fun i _ => ?_, fun i _ => ?_, fun i _ => slt7 ?_⟩
      · unfold mkXr; rw [hc]; rfl
      · unfold mkXk; rw [hc]; rfl
      · unfold mkXs; rw [hc]; rfl
    have h7' : decide ((W.slots s.toNat).len < mkU W s + n) = false := decide_eq_false (by have := of_decide_eq_false h7; rw [hU]; omega)
    have hE : mkE W s k n to = 0 := by unfold mkE; rw [h1, h2, h3, h4, hT, h7']; rfl
    have hlen := of_decide_eq_false h7
    refine ⟨⟨fun i _ => mkRm0.symm, fun i _ => mkKd0.symm, fun i _ => slt7 mkSl0.symm⟩, fun m hm => ⟨fun h8 => ?_, fun h8 => ?_⟩⟩
    · have hml := of_decide_eq_true h8
      have hF := eF m
      have eb : mkSl W s k to m s.toNat = W.slots s.toNat := mkSl_no (hno m hm)
      simp only [eb]
      have eR0 : (((W.slots s.toNat).base + (W.slots s.toNat).mark + (m : Int)) * 16).toNat = (mkF W s + m) * 16 := by omega
      have eR1 : (((W.slots s.toNat).base + (W.slots s.toNat).mark + (m : Int) + 1) * 16).toNat = (mkF W s + m) * 16 + 16 := by omega
      refine ⟨wr_in (by omega) (by omega), wr_in (by omega) (by omega), ⟨by omega, by omega⟩, wr_in (by omega) (by omega), wr_in (by omega) (by omega), wr_in (by omega) (by omega), ⟨by omega, by omega, by omega⟩, by omega, wr_in (by omega) (by omega), ⟨by omega, by omega⟩, wr_in (by omega) (by omega), m + 1, by omega, ⟨fun i _ => ?_, fun i _ => ?_, fun i _ => ?_⟩, by omega, by omega⟩
      · rw [eR0, eR1, show (mkF W s + m) * 16 + ((mkF W s + m) * 16 + 16 - (mkF W s + m) * 16) = (mkF W s + m) * 16 + 16 by omega]
        exact mkRm_c
      · rw [eF m]; exact mkKd_s
      · skip
        rw [show (to + (m : Int)).toNat = to.toNat + m by omega]
        refine slt7c (x := ⟨k, (W.slots s.toNat).base + (W.slots s.toNat).mark + m, 1, 0, 7, 0, s⟩) ?_
        rw [← mkSl_s]
        rcases Decidable.em (i = to.toNat + m) with e | e
        · subst e
          rw [Nat.beq_refl]
          show (⟨k, (W.slots s.toNat).base + (W.slots s.toNat).mark + m, 1, 0, 7, 0, s⟩ : Slt) = mkN W s k to (to.toNat + m)
          unfold mkN
          rw [show ((mkF W s : Int) + (((to.toNat + m : Nat) : Int) - to)) = (W.slots s.toNat).base + (W.slots s.toNat).mark + m by have := eF 0; omega]
        · rw [beq_ne e]; rfl
    · have hme := of_decide_eq_false h8
      obtain rfl : m = n.toNat := by omega
      have eX : ∀ i, mkXs W s k n to i = mkSm W s k n to i := fun i => by unfold mkXs; rw [hE]; rfl
      have en : mkSl W s k to n.toNat s.toNat = W.slots s.toNat := mkSl_no (hno _ (Nat.le_refl _))
      refine ⟨wr_in (by omega) (by omega), hE, fun i _ => ?_, fun i _ => ?_, fun i _ => ?_⟩
      · unfold mkXr; rw [hE]; rfl
      · unfold mkXk; rw [hE]; rfl
      · rw [eX]; unfold mkSm
        rcases Decidable.em (i = s.toNat) with e | e
        · subst e
          simp only [Nat.beq_refl, cond_true, updF_at, en, hU]
          repeat' (first | exact trivial | rfl | refine And.intro ?_ ?_)
        · simp only [beq_ne e, cond_false, updF_ne e]
          repeat' (first | exact trivial | rfl | refine And.intro ?_ ?_)
end Go.Proofs.YtdjilaofmdhikaaGreatDoor
