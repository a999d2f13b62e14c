/- The program's look at a world: the first that is bad. -/
import Derived.Test.YtdjilaofmdhikaaGreatDoorYJ
import Derived.Test.YtdjilaofmdhikaaGreatDoorYH
import Derived.Test.YtdjilaofmdhikaaGreatDoorYG
set_option linter.unusedVariables false
set_option linter.unusedSimpArgs false
set_option linter.unusedVariables false
set_option linter.unusedSimpArgs false
set_option maxRecDepth 100000
namespace Go.Proofs.YtdjilaofmdhikaaGreatDoor
open Go.RowKit Go.Sy
def bE (n : Nat) (p : Nat → Bool) (e : Int) : Int := (fstE n p e (0, -1)).1
def bA (n : Nat) (p : Nat → Bool) (e : Int) : Int := (fstE n p e (0, -1)).2
def an_bad (n : Nat) (p : Nat → Bool) : Ann where
  σ := Nat
  rt := []
  sh i := [(11, .v (.int .i64 i))]
  mh _ := []
  inv i := i ≤ n ∧ ∀ j, j < i → p j = false
  μ i := n - i
  init := 0
structure X_badW1 where
  (n : Nat) (l : Nat → Int) (e : Int)
def s_badW1 : Sy.Spec := ⟨X_badW1, fun ⟨n, l, e⟩ => [.sl true 1 n (fun i_ _ => .v (.int .i64 (l i_))), .v (.int .i64 e), .fn 181 0 (fun _ => .junk)], fun _ => [], fun ⟨n, _, e⟩ => e ≠ 0 ∧ n ≤ 100000, fun ⟨n, l, e⟩ => .er 35 116 (bE n (fun i => farB (l i) 65535) e) (bA n (fun i => farB (l i) 65535) e), fun _ => [],
  fun args mem => match args with | [a0, a1, a2] => (match isFn 181 a2 with | true => some ⟨slN a0, fun i => intD (slF a0 i 0), intD (a1)⟩ | false => none) | _ => none⟩
def c_badW1 : Con := ⟨[], s_badW1.g, none⟩
def V_badW1 : X_badW1 → Prop := fun ⟨n, l, e⟩ => let a0:=(n:Int);let b0:=bE n (fun c0:Nat=>farB (l c0) 65535) e;let d0:=bA n (fun e0:Nat=>farB (l e0) 65535) e;a0≤9223372036854775807→0=((0:Nat):Int)∧True∧(0≤n∧(∀g0:Nat,g0<0→farB (l g0) 65535=false))∧(∀h0:Nat,let k0:=(h0:Int);let l0:=decide (k0<a0);let o0:=k0=k0;let q0:Int:=l (Int.toNat k0);let r0:=farB q0 65535;let u0:Int:=k0+1;h0≤n∧(∀v0:Nat,v0<h0→farB (l v0) 65535=false)→(l0=true→(0≤k0∧k0<a0)∧((o0∧q0=q0∧True)∧True∧True)∧(r0=true→((o0∧e=e∧True)∧True∧0≤k0∧e≠0)∧(e=b0∧k0=d0)∧True)∧(r0=false→w64 u0=u0∧(∃w0:Nat,u0=(w0:Int)∧True∧(w0≤n∧(∀x0:Nat,x0<w0→farB (l x0) 65535=false))∧n-w0<n-h0)))∧(l0=false→(b0=0∧d0=(-1))∧True))
set_option maxHeartbeats 1000000 in
theorem ok_badW1 : FnOK Tryz.prog glN 180 c_badW1 := ok_of (.cons ok_wAt (.cons ok_words1 .nil)) false Tryz.call180 Tryz.func180 (fun ⟨n, l, _⟩ => [.inv (an_bad n (fun i => farB (l i) 65535))]) (V := V_badW1) (fun _ => by kernel_rfl) fun ⟨n, l, e⟩ hp => by
  dsimp only [s_badW1] at hp
  dsimp only [V_badW1, tn, w64]
  obtain ⟨he, hp⟩ := hp
  simp only [std, stb, eq_self, implies_true, Bool.cond_self]
  
  unfold bE bA
  refine fun _ s hs => ⟨fun h => ?_, fun h => ?_⟩
  · have hlt := lt_of_dec h
    refine ⟨by omega, fun h1 => ?_, fun h1 => ⟨by rw [IntKind.wrap_i64]; omega, exS ⟨⟨by omega, snocF (p := fun i => farB (l i) 65535) hs.2 h1⟩, by omega⟩⟩⟩
    rw [fstE_at (p := fun i => farB (l i) 65535) hs.2 h1 hlt]
    first | exact ⟨he, rfl, rfl⟩ | exact ⟨⟨by omega, he⟩, rfl, rfl⟩
  · have hge := ge_of_dec h
    rw [fstE_none (p := fun i => farB (l i) 65535) fun j hj => hs.2 j (by omega)]
    exact ⟨rfl, rfl⟩
structure X_badW2 where
  (n : Nat) (l : Nat → Int) (e : Int)
def s_badW2 : Sy.Spec := ⟨X_badW2, fun ⟨n, l, e⟩ => [.sl true 1 n (fun i_ _ => .v (.int .i64 (l i_))), .v (.int .i64 e), .fn 182 0 (fun _ => .junk)], fun _ => [], fun ⟨n, _, e⟩ => e ≠ 0 ∧ n ≤ 100000, fun ⟨n, l, e⟩ => .er 35 116 (bE n (fun i => farB (l i) 8 || l i == 1) e) (bA n (fun i => farB (l i) 8 || l i == 1) e), fun _ => [],
  fun args mem => match args with | [a0, a1, a2] => (match isFn 182 a2 with | true => some ⟨slN a0, fun i => intD (slF a0 i 0), intD (a1)⟩ | false => none) | _ => none⟩
def c_badW2 : Con := ⟨[], s_badW2.g, none⟩
def V_badW2 : X_badW2 → Prop := fun ⟨n, l, e⟩ => let a0:=(n:Int);let b0:=bE n (fun c0:Nat=>farB (l c0) 8||l c0==1) e;let d0:=bA n (fun e0:Nat=>farB (l e0) 8||l e0==1) e;a0≤9223372036854775807→0=((0:Nat):Int)∧True∧(0≤n∧(∀g0:Nat,g0<0→(farB (l g0) 8||l g0==1)=false))∧(∀h0:Nat,let k0:=(h0:Int);let l0:=decide (k0<a0);let o0:=k0=k0;let q0:Int:=l (Int.toNat k0);let r0:=farB q0 8||q0==1;let u0:Int:=k0+1;h0≤n∧(∀v0:Nat,v0<h0→(farB (l v0) 8||l v0==1)=false)→(l0=true→(0≤k0∧k0<a0)∧((o0∧q0=q0∧True)∧True∧True)∧(r0=true→((o0∧e=e∧True)∧True∧0≤k0∧e≠0)∧(e=b0∧k0=d0)∧True)∧(r0=false→w64 u0=u0∧(∃w0:Nat,u0=(w0:Int)∧True∧(w0≤n∧(∀x0:Nat,x0<w0→(farB (l x0) 8||l x0==1)=false))∧n-w0<n-h0)))∧(l0=false→(b0=0∧d0=(-1))∧True))
set_option maxHeartbeats 1000000 in
theorem ok_badW2 : FnOK Tryz.prog glN 180 c_badW2 := ok_of (.cons ok_wAt (.cons ok_words2 .nil)) false Tryz.call180 Tryz.func180 (fun ⟨n, l, _⟩ => [.inv (an_bad n (fun i => farB (l i) 8 || l i == 1))]) (V := V_badW2) (fun _ => by kernel_rfl) fun ⟨n, l, e⟩ hp => by
  dsimp only [s_badW2] at hp
  dsimp only [V_badW2, tn, w64]
  obtain ⟨he, hp⟩ := hp
  simp only [std, stb, eq_self, implies_true, Bool.cond_self]
  
  unfold bE bA
  refine fun _ s hs => ⟨fun h => ?_, fun h => ?_⟩
  · have hlt := lt_of_dec h
    refine ⟨by omega, fun h1 => ?_, fun h1 => ⟨by rw [IntKind.wrap_i64]; omega, exS ⟨⟨by omega, snocF (p := fun i => farB (l i) 8 || l i == 1) hs.2 h1⟩, by omega⟩⟩⟩
    rw [fstE_at (p := fun i => farB (l i) 8 || l i == 1) hs.2 h1 hlt]
    first | exact ⟨he, rfl, rfl⟩ | exact ⟨⟨by omega, he⟩, rfl, rfl⟩
  · have hge := ge_of_dec h
    rw [fstE_none (p := fun i => farB (l i) 8 || l i == 1) fun j hj => hs.2 j (by omega)]
    exact ⟨rfl, rfl⟩
structure X_badW3 where
  (n : Nat) (l : Nat → Int) (e : Int)
def s_badW3 : Sy.Spec := ⟨X_badW3, fun ⟨n, l, e⟩ => [.sl true 1 n (fun i_ _ => .v (.int .i64 (l i_))), .v (.int .i64 e), .fn 183 0 (fun _ => .junk)], fun _ => [], fun ⟨n, _, e⟩ => e ≠ 0 ∧ n ≤ 100000, fun ⟨n, l, e⟩ => .er 35 116 (bE n (fun i => farB (l i) 3) e) (bA n (fun i => farB (l i) 3) e), fun _ => [],
  fun args mem => match args with | [a0, a1, a2] => (match isFn 183 a2 with | true => some ⟨slN a0, fun i => intD (slF a0 i 0), intD (a1)⟩ | false => none) | _ => none⟩
def c_badW3 : Con := ⟨[], s_badW3.g, none⟩
def V_badW3 : X_badW3 → Prop := fun ⟨n, l, e⟩ => let a0:=(n:Int);let b0:=bE n (fun c0:Nat=>farB (l c0) 3) e;let d0:=bA n (fun e0:Nat=>farB (l e0) 3) e;a0≤9223372036854775807→0=((0:Nat):Int)∧True∧(0≤n∧(∀g0:Nat,g0<0→farB (l g0) 3=false))∧(∀h0:Nat,let k0:=(h0:Int);let l0:=decide (k0<a0);let o0:=k0=k0;let q0:Int:=l (Int.toNat k0);let r0:=farB q0 3;let u0:Int:=k0+1;h0≤n∧(∀v0:Nat,v0<h0→farB (l v0) 3=false)→(l0=true→(0≤k0∧k0<a0)∧((o0∧q0=q0∧True)∧True∧True)∧(r0=true→((o0∧e=e∧True)∧True∧0≤k0∧e≠0)∧(e=b0∧k0=d0)∧True)∧(r0=false→w64 u0=u0∧(∃w0:Nat,u0=(w0:Int)∧True∧(w0≤n∧(∀x0:Nat,x0<w0→farB (l x0) 3=false))∧n-w0<n-h0)))∧(l0=false→(b0=0∧d0=(-1))∧True))
set_option maxHeartbeats 1000000 in
theorem ok_badW3 : FnOK Tryz.prog glN 180 c_badW3 := ok_of (.cons ok_wAt (.cons ok_words3 .nil)) false Tryz.call180 Tryz.func180 (fun ⟨n, l, _⟩ => [.inv (an_bad n (fun i => farB (l i) 3))]) (V := V_badW3) (fun _ => by kernel_rfl) fun ⟨n, l, e⟩ hp => by
  dsimp only [s_badW3] at hp
  dsimp only [V_badW3, tn, w64]
  obtain ⟨he, hp⟩ := hp
  simp only [std, stb, eq_self, implies_true, Bool.cond_self]
  
  unfold bE bA
  refine fun _ s hs => ⟨fun h => ?_, fun h => ?_⟩
  · have hlt := lt_of_dec h
    refine ⟨by omega, fun h1 => ?_, fun h1 => ⟨by rw [IntKind.wrap_i64]; omega, exS ⟨⟨by omega, snocF (p := fun i => farB (l i) 3) hs.2 h1⟩, by omega⟩⟩⟩
    rw [fstE_at (p := fun i => farB (l i) 3) hs.2 h1 hlt]
    first | exact ⟨he, rfl, rfl⟩ | exact ⟨⟨by omega, he⟩, rfl, rfl⟩
  · have hge := ge_of_dec h
    rw [fstE_none (p := fun i => farB (l i) 3) fun j hj => hs.2 j (by omega)]
    exact ⟨rfl, rfl⟩
structure X_badF where
  (n : Nat) (l : Nat → Int) (e : Int) (nc : Nat) (cl : Nat → Int) (nk : Nat) (ky : Nat → Int) (nu : Nat) (us : Nat → Bool)
def s_badF : Sy.Spec := ⟨X_badF, fun ⟨n, l, e, nc, cl, nk, ky, nu, us⟩ => [.sl true 1 n (fun i_ _ => .v (.int .i64 (l i_))), .v (.int .i64 e), .fn 188 3 (lsv [.pt true 1 (fun _ => .sl true 1 nc (iF cl)), .pt true 1 (fun _ => .sl true 1 nk (iF ky)), .pt true 1 (fun _ => .sl true 1 nu (fun i _ => .v (.bool (us i))))])], fun _ => [], fun ⟨n, _, e, nc, _, nk, _, nu, _⟩ => e ≠ 0 ∧ n ≤ 100000 ∧ n ≤ nc ∧ n ≤ nk ∧ n ≤ nu, fun ⟨n, l, e, _, cl, _, ky, _, us⟩ => .er 35 116 (bE n (fun i => decide (1 < cl i) || (l i != 0 && (ky i == 0 || (cl i == 1 && !us i)))) e) (bA n (fun i => decide (1 < cl i) || (l i != 0 && (ky i == 0 || (cl i == 1 && !us i)))) e), fun _ => [],
  fun args mem => match args with | [a0, a1, a2] => (match isFn 188 a2 with | true => some ⟨slN a0, fun i => intD (slF a0 i 0), intD (a1), slN (ptF (fnF a2 0) 0), fun i => intD (slF (ptF (fnF a2 0) 0) i 0), slN (ptF (fnF a2 1) 0), fun i => intD (slF (ptF (fnF a2 1) 0) i 0), slN (ptF (fnF a2 2) 0), fun i => boolD (slF (ptF (fnF a2 2) 0) i 0)⟩ | false => none) | _ => none⟩
def c_badF : Con := ⟨[], s_badF.g, none⟩
def V_badF : X_badF → Prop := fun ⟨n, l, e, nc, cl, nk, ky, nu, us⟩ => let a0:=(n:Int);let b0:=bE n (fun c0:Nat=>decide (1<cl c0)||l c0 !=0&&(ky c0==0||cl c0==1&&!us c0)) e;let d0:=bA n (fun e0:Nat=>decide (1<cl e0)||l e0 !=0&&(ky e0==0||cl e0==1&&!us e0)) e;a0≤9223372036854775807→0=((0:Nat):Int)∧True∧(0≤n∧(∀g0:Nat,g0<0→(decide (1<cl g0)||l g0 !=0&&(ky g0==0||cl g0==1&&!us g0))=false))∧(∀h0:Nat,let k0:=(h0:Int);let l0:=decide (k0<a0);let o0:=0≤k0;let q0:=k0=k0;let r0:=Int.toNat k0;let u0:Int:=l r0;let v0:Int:=cl r0;let w0:=decide (1<v0)||u0 !=0&&(ky r0==0||v0==1&&!us r0);let x0:Int:=k0+1;h0≤n∧(∀y0:Nat,y0<h0→(decide (1<cl y0)||l y0 !=0&&(ky y0==0||cl y0==1&&!us y0))=false)→(l0=true→(o0∧k0<a0)∧((q0∧u0=u0∧(True∧nc=nc∧(∀z0:Nat,z0<nc→True∧cl z0=cl z0))∧(True∧nk=nk∧(∀a1:Nat,a1<nk→True∧ky a1=ky a1))∧(True∧nu=nu∧(∀b1:Nat,b1<nu→True∧us b1=us b1))∧True)∧True∧o0∧k0<(nc:Int)∧k0<(nk:Int)∧k0<(nu:Int))∧(w0=true→((q0∧e=e∧True)∧True∧o0∧e≠0)∧(e=b0∧k0=d0)∧True)∧(w0=false→w64 x0=x0∧(∃c1:Nat,x0=(c1:Int)∧True∧(c1≤n∧(∀d1:Nat,d1<c1→(decide (1<cl d1)||l d1 !=0&&(ky d1==0||cl d1==1&&!us d1))=false))∧n-c1<n-h0)))∧(l0=false→(b0=0∧d0=(-1))∧True))
set_option maxHeartbeats 1000000 in
theorem ok_badF : FnOK Tryz.prog glN 180 c_badF := ok_of (.cons ok_wAt (.cons ok_frames1 .nil)) false Tryz.call180 Tryz.func180 (fun ⟨n, l, _, _, cl, _, ky, _, us⟩ => [.inv (an_bad n (fun i => decide (1 < cl i) || (l i != 0 && (ky i == 0 || (cl i == 1 && !us i)))))]) (V := V_badF) (fun _ => by kernel_rfl) fun ⟨n, l, e, nc, cl, nk, ky, nu, us⟩ hp => by
  dsimp only [s_badF] at hp
  dsimp only [V_badF, tn, w64]
  obtain ⟨he, hp⟩ := hp
  simp only [std, stb, eq_self, implies_true, Bool.cond_self]
  
  unfold bE bA
  refine fun _ s hs => ⟨fun h => ?_, fun h => ?_⟩
  · have hlt := lt_of_dec h
    refine ⟨by omega, ⟨by omega, by omega, by omega⟩, fun h1 => ?_, fun h1 => ⟨by rw [IntKind.wrap_i64]; omega, exS ⟨⟨by omega, snocF (p := fun i => decide (1 < cl i) || (l i != 0 && (ky i == 0 || (cl i == 1 && !us i)))) hs.2 h1⟩, by omega⟩⟩⟩
    rw [fstE_at (p := fun i => decide (1 < cl i) || (l i != 0 && (ky i == 0 || (cl i == 1 && !us i)))) hs.2 h1 hlt]
    first | exact ⟨he, rfl, rfl⟩ | exact ⟨⟨by omega, he⟩, rfl, rfl⟩
  · have hge := ge_of_dec h
    rw [fstE_none (p := fun i => decide (1 < cl i) || (l i != 0 && (ky i == 0 || (cl i == 1 && !us i)))) fun j hj => hs.2 j (by omega)]
    exact ⟨rfl, rfl⟩
structure X_badC where
  (e : Int) (W : Wd)
def s_badC : Sy.Spec := ⟨X_badC, fun ⟨e, W⟩ => [.sl true 1 W.nCores (iF W.cores), .v (.int .i64 e), .fn 198 1 (lsv [.pt true 1 (fun _ => .fn 197 1 (lsv [.pt true 1 (fun _ => wPT W)]))])], fun _ => [], fun ⟨e, W⟩ => e ≠ 0 ∧ Szd W, fun ⟨e, W⟩ => .er 35 116 (bE W.nCores (fun i => !coB W i) e) (bA W.nCores (fun i => !coB W i) e), fun _ => [],
  fun args mem => match args with | [a0, a1, a2] => (match isFn 198 a2 with | true => some ⟨intD (a1), wPTD (ptF (fnF (ptF (fnF a2 0) 0) 0) 0)⟩ | false => none) | _ => none⟩
def c_badC : Con := ⟨[], s_badC.g, none⟩
def V_badC : X_badC → Prop := fun ⟨e, W⟩ => let a0:=W.nCores;let b0:=(a0:Int);let c0:=W.nKinds;let d0:=W.nSlots;let e0:=W.nTasks;let g0:=W.nLines;let h0:=W.nReady;let k0:=bE a0 (fun l0:Nat=>!coB W l0) e;let o0:=bA a0 (fun q0:Nat=>!coB W q0) e;b0≤9223372036854775807→0=((0:Nat):Int)∧True∧(0≤a0∧(∀u0:Nat,u0<0→(!coB W u0)=false))∧(∀v0:Nat,let w0:=(v0:Int);let x0:=decide (w0<b0);let y0:=w0=w0;let z0:=W.cores (Int.toNat w0);let a1:=z0 !=(-1)&&!rdB W z0 w0 (-1);let b1:Int:=w0+1;v0≤a0∧(∀c1:Nat,c1<v0→(!coB W c1)=false)→(x0=true→(0≤w0∧w0<b0)∧((y0∧z0=z0∧tn 3 (((((((((((True∧W.nRam=W.nRam∧(∀d1:Nat,d1<W.nRam→True∧W.ram d1=W.ram d1))∧c0=c0∧(∀e1:Nat,e1<c0→True∧W.kinds e1=W.kinds e1))∧d0=d0∧(∀g1:Nat,let h1:=W.slots g1;let k1:=h1.kind;let l1:=h1.base;let o1:=h1.len;let q1:=h1.mark;let u1:=h1.rights;let v1:=h1.badge;let w1:=h1.from_;g1<d0→((((((True∧k1=k1)∧l1=l1)∧o1=o1)∧q1=q1)∧u1=u1)∧v1=v1)∧w1=w1))∧e0=e0∧(∀x1:Nat,let y1:=W.tasks x1;let z1:=y1.prio;let a2:=y1.node;let b2:=y1.space;let c2:=y1.helper;let d2:=y1.loc;let e2:=y1.word;let g2:=y1.badge;let h2:=y1.owes;let k2:=y1.core;let l2:=y1.dom;x1<e0→(((((((((((((((((((True∧y1.r0=y1.r0)∧y1.r1=y1.r1)∧y1.r2=y1.r2)∧y1.r3=y1.r3)∧y1.r4=y1.r4)∧y1.r5=y1.r5)∧y1.r6=y1.r6)∧y1.r7=y1.r7)∧y1.pc=y1.pc)∧y1.st=y1.st)∧z1=z1)∧a2=a2)∧b2=b2)∧c2=c2)∧d2=d2)∧e2=e2)∧g2=g2)∧h2=h2)∧k2=k2)∧l2=l2))∧g0=g0∧(∀o2:Nat,let q2:=W.linesN o2;o2<g0→True∧q2=q2∧(∀u2:Nat,u2<q2→True∧W.lines o2 u2=W.lines o2 u2)))∧W.nBits=W.nBits∧(∀v2:Nat,v2<W.nBits→True∧W.bits v2=W.bits v2))∧a0=a0∧(∀w2:Nat,w2<a0→True∧W.cores w2=W.cores w2))∧h0=h0∧
    (∀x2:Nat,let y2:=W.readyN x2;x2<h0→True∧y2=y2∧(∀z2:Nat,z2<y2→True∧W.ready x2 z2=W.ready x2 z2)))∧W.nTlbs=W.nTlbs∧(∀a3:Nat,let b3:=W.tlbsN a3;a3<W.nTlbs→True∧b3=b3∧(∀c3:Nat,let d3:=W.tlbs a3 c3;let e3:=d3.sp;let g3:=d3.pg;let h3:=d3.fr;let k3:=d3.wr;c3<b3→(((True∧e3=e3)∧g3=g3)∧h3=h3)∧k3=k3)))∧W.nDoms=W.nDoms∧(∀l3:Nat,l3<W.nDoms→True∧W.doms l3=W.doms l3))∧W.time=W.time)∧True)∧True∧s_turns2.match_1 (fun o3:X_turns2=>Prop) (X_turns2.mk w0 z0 W) (fun q3:Int=>fun u3:Int=>fun v3:Wd=>Szd v3))∧(a1=true→((y0∧e=e∧True)∧True∧0≤w0∧e≠0)∧(e=k0∧w0=o0)∧True)∧(a1=false→w64 b1=b1∧(∃w3:Nat,b1=(w3:Int)∧True∧(w3≤a0∧(∀x3:Nat,x3<w3→(!coB W x3)=false))∧a0-w3<a0-v0)))∧(x0=false→(k0=0∧o0=(-1))∧True))
set_option maxHeartbeats 1000000 in
theorem ok_badC : FnOK Tryz.prog glN 180 c_badC := ok_of (.cons ok_wAt (.cons ok_turns2 .nil)) false Tryz.call180 Tryz.func180 (fun ⟨_, W⟩ => [.inv (an_bad W.nCores (fun i => !coB W i))]) (V := V_badC) (fun _ => by kernel_rfl) fun ⟨e, W⟩ hp => by
  dsimp only [s_badC] at hp
  dsimp only [V_badC, tn, w64]
  obtain ⟨he, hp⟩ := hp
  simp only [std, stb, eq_self, implies_true, Bool.cond_self]
  have z1 := hp.c1
  simp only [coB_not]
  unfold bE bA
  refine fun _ s hs => ⟨fun h => ?_, fun h => ?_⟩
  · have hlt := lt_of_dec h
    refine ⟨by omega, hp, fun h1 => ?_, fun h1 => ⟨by rw [IntKind.wrap_i64]; omega, exS ⟨⟨by omega, snocF (p := fun i => !coB W i) hs.2 h1⟩, by omega⟩⟩⟩
    rw [fstE_at (p := fun i => !coB W i) hs.2 h1 hlt]
    first | exact ⟨he, rfl, rfl⟩ | exact ⟨⟨by omega, he⟩, rfl, rfl⟩
  · have hge := ge_of_dec h
    rw [fstE_none (p := fun i => !coB W i) fun j hj => hs.2 j (by omega)]
    exact ⟨rfl, rfl⟩
structure X_badM where
  (e : Int) (W : Wd)
def s_badM : Sy.Spec := ⟨X_badM, fun ⟨e, W⟩ => [.sl true 1 W.nRam (iF W.ram), .v (.int .i64 e), .fn 202 1 (lsv [.pt true 1 (fun _ => wPT W)])], fun _ => [], fun ⟨e, W⟩ => e ≠ 0 ∧ Szd W ∧ ∀ i, i < W.nRam → isW (W.ram i), fun ⟨e, W⟩ => .er 35 116 (bE W.nRam (fun i => !enB W i) e) (bA W.nRam (fun i => !enB W i) e), fun _ => [],
  fun args mem => match args with | [a0, a1, a2] => (match isFn 202 a2 with | true => some ⟨intD (a1), wPTD (ptF (fnF a2 0) 0)⟩ | false => none) | _ => none⟩
def c_badM : Con := ⟨[], s_badM.g, none⟩
def V_badM : X_badM → Prop := fun ⟨e, W⟩ => let a0:=W.nRam;let b0:=(a0:Int);let c0:=W.nKinds;let d0:=W.nSlots;let e0:=W.nTasks;let g0:=W.nLines;let h0:=W.nCores;let k0:=W.nReady;let l0:=bE a0 (fun o0:Nat=>!enB W o0) e;let q0:=bA a0 (fun u0:Nat=>!enB W u0) e;b0≤9223372036854775807→0=((0:Nat):Int)∧True∧(0≤a0∧(∀v0:Nat,v0<0→(!enB W v0)=false))∧(∀w0:Nat,let x0:=(w0:Int);let y0:=decide (x0<b0);let z0:=0≤x0;let a1:=x0=x0;let b1:=W.ram (Int.toNat x0);let c1:=!enB W (Int.toNat x0);let d1:Int:=x0+1;w0≤a0∧(∀e1:Nat,e1<w0→(!enB W e1)=false)→(y0=true→(z0∧x0<b0)∧((a1∧b1=b1∧(True∧((((((((((True∧a0=a0∧(∀g1:Nat,g1<a0→True∧W.ram g1=W.ram g1))∧c0=c0∧(∀h1:Nat,h1<c0→True∧W.kinds h1=W.kinds h1))∧d0=d0∧(∀k1:Nat,let l1:=W.slots k1;let o1:=l1.kind;let q1:=l1.base;let u1:=l1.len;let v1:=l1.mark;let w1:=l1.rights;let x1:=l1.badge;let y1:=l1.from_;k1<d0→((((((True∧o1=o1)∧q1=q1)∧u1=u1)∧v1=v1)∧w1=w1)∧x1=x1)∧y1=y1))∧e0=e0∧(∀z1:Nat,let a2:=W.tasks z1;let b2:=a2.prio;let c2:=a2.node;let d2:=a2.space;let e2:=a2.helper;let g2:=a2.loc;let h2:=a2.word;let k2:=a2.badge;let l2:=a2.owes;let o2:=a2.core;let q2:=a2.dom;z1<e0→(((((((((((((((((((True∧a2.r0=a2.r0)∧a2.r1=a2.r1)∧a2.r2=a2.r2)∧a2.r3=a2.r3)∧a2.r4=a2.r4)∧a2.r5=a2.r5)∧a2.r6=a2.r6)∧a2.r7=a2.r7)∧a2.pc=a2.pc)∧a2.st=a2.st)∧b2=b2)∧c2=c2)∧d2=d2)∧e2=e2)∧g2=g2)∧h2=h2)∧k2=k2)∧l2=l2)∧o2=o2)∧q2=q2))∧g0=g0∧(∀u2:Nat,let v2:=W.linesN u2;u2<g0→True∧v2=v2∧(∀w2:Nat,w2<v2→True∧W.lines u2 w2=W.lines u2 w2)))∧W.nBits=W.nBits∧(∀x2:Nat,x2<W.nBits→True∧W.bits x2=W.bits x2))∧h0=h0∧(∀y2:Nat,y2<h0→True∧W.cores y2=W.cores y2))∧
    k0=k0∧(∀z2:Nat,let a3:=W.readyN z2;z2<k0→True∧a3=a3∧(∀b3:Nat,b3<a3→True∧W.ready z2 b3=W.ready z2 b3)))∧W.nTlbs=W.nTlbs∧(∀c3:Nat,let d3:=W.tlbsN c3;c3<W.nTlbs→True∧d3=d3∧(∀e3:Nat,let g3:=W.tlbs c3 e3;let h3:=g3.sp;let k3:=g3.pg;let l3:=g3.fr;let o3:=g3.wr;e3<d3→(((True∧h3=h3)∧k3=k3)∧l3=l3)∧o3=o3)))∧W.nDoms=W.nDoms∧(∀q3:Nat,q3<W.nDoms→True∧W.doms q3=W.doms q3))∧W.time=W.time)∧True)∧True∧Szd W∧z0∧x0<b0∧0≤b1∧b1≤65535)∧(c1=true→((a1∧e=e∧True)∧True∧z0∧e≠0)∧(e=l0∧x0=q0)∧True)∧(c1=false→w64 d1=d1∧(∃u3:Nat,d1=(u3:Int)∧True∧(u3≤a0∧(∀v3:Nat,v3<u3→(!enB W v3)=false))∧a0-u3<a0-w0)))∧(y0=false→(l0=0∧q0=(-1))∧True))
set_option maxHeartbeats 1000000 in
theorem ok_badM : FnOK Tryz.prog glN 180 c_badM := ok_of (.cons ok_wAt (.cons ok_maps1 .nil)) false Tryz.call180 Tryz.func180 (fun ⟨_, W⟩ => [.inv (an_bad W.nRam (fun i => !enB W i))]) (V := V_badM) (fun _ => by kernel_rfl) fun ⟨e, W⟩ hp => by
  dsimp only [s_badM] at hp
  dsimp only [V_badM, tn, w64]
  obtain ⟨he, hp⟩ := hp
  simp only [std, stb, eq_self, implies_true, Bool.cond_self]
  have z1 := hp.1.ram
  have z2 := hp.1.k1
  unfold bE bA
  refine fun _ s hs => ⟨fun h => ?_, fun h => ?_⟩
  · have hlt := lt_of_dec h
    refine ⟨by omega, ⟨hp.1, by omega, hp.2 s hlt⟩, fun h1 => ?_, fun h1 => ⟨by rw [IntKind.wrap_i64]; omega, exS ⟨⟨by omega, snocF (p := fun i => !enB W i) hs.2 h1⟩, by omega⟩⟩⟩
    rw [fstE_at (p := fun i => !enB W i) hs.2 h1 hlt]
    first | exact ⟨he, rfl, rfl⟩ | exact ⟨⟨by omega, he⟩, rfl, rfl⟩
  · have hge := ge_of_dec h
    rw [fstE_none (p := fun i => !enB W i) fun j hj => hs.2 j (by omega)]
    exact ⟨rfl, rfl⟩
structure X_badK where
  (e : Int) (W : Wd)
def s_badK : Sy.Spec := ⟨X_badK, fun ⟨e, W⟩ => [.sl true 7 W.nSlots (rF fun i => slL (W.slots i)), .v (.int .i64 e), .fn 185 1 (lsv [.pt true 1 (fun _ => wPT W)])], fun _ => [], fun ⟨e, W⟩ => e ≠ 0 ∧ Szd W, fun ⟨e, W⟩ => .er 35 116 (bE W.nSlots (fun i => !slB W i) e) (bA W.nSlots (fun i => !slB W i) e), fun _ => [],
  fun args mem => match args with | [a0, a1, a2] => (match isFn 185 a2 with | true => some ⟨intD (a1), wPTD (ptF (fnF a2 0) 0)⟩ | false => none) | _ => none⟩
def c_badK : Con := ⟨[], s_badK.g, none⟩
def V_badK : X_badK → Prop := fun ⟨e, W⟩ => let a0:=W.nSlots;let b0:=(a0:Int);let c0:=W.nKinds;let d0:=W.nTasks;let e0:=W.nLines;let g0:=W.nCores;let h0:=W.nReady;let k0:=bE a0 (fun l0:Nat=>!slB W l0) e;let o0:=bA a0 (fun q0:Nat=>!slB W q0) e;b0≤9223372036854775807→0=((0:Nat):Int)∧True∧(0≤a0∧(∀u0:Nat,u0<0→(!slB W u0)=false))∧(∀v0:Nat,let w0:=(v0:Int);let x0:=decide (w0<b0);let y0:=0≤w0∧w0<b0;let z0:=w0=w0;let a1:=W.slots (Int.toNat w0);let b1:=a1.kind;let c1:=a1.base;let d1:=a1.len;let e1:=a1.mark;let g1:=a1.rights;let h1:=a1.badge;let k1:=a1.from_;let l1:=!slB W (Int.toNat w0);let o1:Int:=w0+1;v0≤a0∧(∀q1:Nat,q1<v0→(!slB W q1)=false)→(x0=true→y0∧True∧tn 6 True∧((z0∧(((((((True∧b1=b1)∧c1=c1)∧d1=d1)∧e1=e1)∧g1=g1)∧h1=h1)∧k1=k1)∧(True∧((((((((((True∧W.nRam=W.nRam∧(∀u1:Nat,u1<W.nRam→True∧W.ram u1=W.ram u1))∧c0=c0∧(∀v1:Nat,v1<c0→True∧W.kinds v1=W.kinds v1))∧a0=a0∧(∀w1:Nat,let x1:=W.slots w1;let y1:=x1.kind;let z1:=x1.base;let a2:=x1.len;let b2:=x1.mark;let c2:=x1.rights;let d2:=x1.badge;let e2:=x1.from_;w1<a0→((((((True∧y1=y1)∧z1=z1)∧a2=a2)∧b2=b2)∧c2=c2)∧d2=d2)∧e2=e2))∧d0=d0∧(∀g2:Nat,let h2:=W.tasks g2;let k2:=h2.prio;let l2:=h2.node;let o2:=h2.space;let q2:=h2.helper;let u2:=h2.loc;let v2:=h2.word;let w2:=h2.badge;let x2:=h2.owes;let y2:=h2.core;let z2:=h2.dom;g2<d0→(((((((((((((((((((True∧h2.r0=h2.r0)∧h2.r1=h2.r1)∧h2.r2=h2.r2)∧h2.r3=h2.r3)∧h2.r4=h2.r4)∧h2.r5=h2.r5)∧h2.r6=h2.r6)∧h2.r7=h2.r7)∧h2.pc=h2.pc)∧h2.st=h2.st)∧k2=k2)∧l2=l2)∧o2=o2)∧q2=q2)∧u2=u2)∧v2=v2)∧w2=w2)∧x2=x2)∧y2=y2)∧z2=z2))∧e0=e0∧(∀a3:Nat,let b3:=W.linesN a3;
    a3<e0→True∧b3=b3∧(∀c3:Nat,c3<b3→True∧W.lines a3 c3=W.lines a3 c3)))∧W.nBits=W.nBits∧(∀d3:Nat,d3<W.nBits→True∧W.bits d3=W.bits d3))∧g0=g0∧(∀e3:Nat,e3<g0→True∧W.cores e3=W.cores e3))∧h0=h0∧(∀g3:Nat,let h3:=W.readyN g3;g3<h0→True∧h3=h3∧(∀k3:Nat,k3<h3→True∧W.ready g3 k3=W.ready g3 k3)))∧W.nTlbs=W.nTlbs∧(∀l3:Nat,let o3:=W.tlbsN l3;l3<W.nTlbs→True∧o3=o3∧(∀q3:Nat,let u3:=W.tlbs l3 q3;let v3:=u3.sp;let w3:=u3.pg;let x3:=u3.fr;let y3:=u3.wr;q3<o3→(((True∧v3=v3)∧w3=w3)∧x3=x3)∧y3=y3)))∧W.nDoms=W.nDoms∧(∀z3:Nat,z3<W.nDoms→True∧W.doms z3=W.doms z3))∧W.time=W.time)∧True)∧True∧Szd W∧y0)∧(l1=true→((z0∧e=e∧True)∧True∧0≤w0∧e≠0)∧(e=k0∧w0=o0)∧True)∧(l1=false→w64 o1=o1∧(∃a4:Nat,o1=(a4:Int)∧True∧(a4≤a0∧(∀b4:Nat,b4<a4→(!slB W b4)=false))∧a0-a4<a0-v0)))∧(x0=false→(k0=0∧o0=(-1))∧True))
set_option maxHeartbeats 1000000 in
theorem ok_badK : FnOK Tryz.prog glN 184 c_badK := ok_of (.cons ok_wAt (.cons ok_keys1 .nil)) false Tryz.call184 Tryz.func184 (fun ⟨_, W⟩ => [.inv (an_bad W.nSlots (fun i => !slB W i))]) (V := V_badK) (fun _ => by kernel_rfl) fun ⟨e, W⟩ hp => by
  dsimp only [s_badK] at hp
  dsimp only [V_badK, tn, w64]
  obtain ⟨he, hp⟩ := hp
  simp only [std, stb, eq_self, implies_true, Bool.cond_self]
  have z1 := hp.slots
  have z2 := hp.k1
  unfold bE bA
  refine fun _ s hs => ⟨fun h => ?_, fun h => ?_⟩
  · have hlt := lt_of_dec h
    refine ⟨by omega, ⟨hp, by omega⟩, fun h1 => ?_, fun h1 => ⟨by rw [IntKind.wrap_i64]; omega, exS ⟨⟨by omega, snocF (p := fun i => !slB W i) hs.2 h1⟩, by omega⟩⟩⟩
    rw [fstE_at (p := fun i => !slB W i) hs.2 h1 hlt]
    first | exact ⟨he, rfl, rfl⟩ | exact ⟨⟨by omega, he⟩, rfl, rfl⟩
  · have hge := ge_of_dec h
    rw [fstE_none (p := fun i => !slB W i) fun j hj => hs.2 j (by omega)]
    exact ⟨rfl, rfl⟩
structure X_badT where
  (e : Int) (W : Wd)
def s_badT : Sy.Spec := ⟨X_badT, fun ⟨e, W⟩ => [.sl true 20 W.nTasks (rF fun i => runL (W.tasks i)), .v (.int .i64 e), .fn 190 1 (lsv [.pt true 1 (fun _ => wPT W)])], fun _ => [], fun ⟨e, W⟩ => e ≠ 0 ∧ Szd W ∧ smB W, fun ⟨e, W⟩ => .er 35 116 (bE W.nTasks (fun i => !tkB W i) e) (bA W.nTasks (fun i => !tkB W i) e), fun _ => [],
  fun args mem => match args with | [a0, a1, a2] => (match isFn 190 a2 with | true => some ⟨intD (a1), wPTD (ptF (fnF a2 0) 0)⟩ | false => none) | _ => none⟩
def c_badT : Con := ⟨[], s_badT.g, none⟩
def V_badT : X_badT → Prop := fun ⟨e, W⟩ => let a0:=W.nTasks;let b0:=(a0:Int);let c0:=W.nKinds;let d0:=W.nSlots;let e0:=W.nLines;let g0:=W.nCores;let h0:=W.nReady;let k0:=W.nTlbs;let l0:=bE a0 (fun o0:Nat=>!tkB W o0) e;let q0:=bA a0 (fun u0:Nat=>!tkB W u0) e;b0≤9223372036854775807→0=((0:Nat):Int)∧True∧(0≤a0∧(∀v0:Nat,v0<0→(!tkB W v0)=false))∧(∀w0:Nat,let x0:=(w0:Int);let y0:=decide (x0<b0);let z0:=0≤x0;let a1:=x0=x0;let b1:=W.tasks (Int.toNat x0);let c1:=b1.r0;let d1:=b1.r1;let e1:=b1.r2;let g1:=b1.r3;let h1:=b1.r4;let k1:=b1.r5;let l1:=b1.r6;let o1:=b1.r7;let q1:=b1.pc;let u1:=b1.st;let v1:=b1.prio;let w1:=b1.node;let x1:=b1.space;let y1:=b1.helper;let z1:=b1.loc;let a2:=b1.word;let b2:=b1.badge;let c2:=b1.owes;let d2:=b1.core;let e2:=b1.dom;let g2:=!tkB W (Int.toNat x0);let h2:Int:=x0+1;w0≤a0∧(∀k2:Nat,k2<w0→(!tkB W k2)=false)→(y0=true→(z0∧x0<b0)∧True∧tn 19 True∧((a1∧((((((((((((((((((((True∧c1=c1)∧d1=d1)∧e1=e1)∧g1=g1)∧h1=h1)∧k1=k1)∧l1=l1)∧o1=o1)∧q1=q1)∧u1=u1)∧v1=v1)∧w1=w1)∧x1=x1)∧y1=y1)∧z1=z1)∧a2=a2)∧b2=b2)∧c2=c2)∧d2=d2)∧e2=e2)∧(True∧((((((((((True∧W.nRam=W.nRam∧(∀l2:Nat,l2<W.nRam→True∧W.ram l2=W.ram l2))∧c0=c0∧(∀o2:Nat,o2<c0→True∧W.kinds o2=W.kinds o2))∧d0=d0∧(∀q2:Nat,let u2:=W.slots q2;let v2:=u2.kind;let w2:=u2.base;let x2:=u2.len;let y2:=u2.mark;let z2:=u2.rights;let a3:=u2.badge;let b3:=u2.from_;q2<d0→((((((True∧v2=v2)∧w2=w2)∧x2=x2)∧y2=y2)∧z2=z2)∧a3=a3)∧b3=b3))∧a0=a0∧(∀c3:Nat,let d3:=W.tasks c3;let e3:=d3.prio;let g3:=d3.node;let h3:=d3.space;let k3:=d3.helper;let l3:=d3.loc;let o3:=d3.word;let q3:=d3.badge;
    let u3:=d3.owes;let v3:=d3.core;let w3:=d3.dom;c3<a0→(((((((((((((((((((True∧d3.r0=d3.r0)∧d3.r1=d3.r1)∧d3.r2=d3.r2)∧d3.r3=d3.r3)∧d3.r4=d3.r4)∧d3.r5=d3.r5)∧d3.r6=d3.r6)∧d3.r7=d3.r7)∧d3.pc=d3.pc)∧d3.st=d3.st)∧e3=e3)∧g3=g3)∧h3=h3)∧k3=k3)∧l3=l3)∧o3=o3)∧q3=q3)∧u3=u3)∧v3=v3)∧w3=w3))∧e0=e0∧(∀x3:Nat,let y3:=W.linesN x3;x3<e0→True∧y3=y3∧(∀z3:Nat,z3<y3→True∧W.lines x3 z3=W.lines x3 z3)))∧W.nBits=W.nBits∧(∀a4:Nat,a4<W.nBits→True∧W.bits a4=W.bits a4))∧g0=g0∧(∀b4:Nat,b4<g0→True∧W.cores b4=W.cores b4))∧h0=h0∧(∀c4:Nat,let d4:=W.readyN c4;c4<h0→True∧d4=d4∧(∀e4:Nat,e4<d4→True∧W.ready c4 e4=W.ready c4 e4)))∧k0=k0∧(∀g4:Nat,let h4:=W.tlbsN g4;g4<k0→True∧h4=h4∧(∀k4:Nat,let l4:=W.tlbs g4 k4;let o4:=l4.sp;let q4:=l4.pg;let u4:=l4.fr;let v4:=l4.wr;k4<h4→(((True∧o4=o4)∧q4=q4)∧u4=u4)∧v4=v4)))∧W.nDoms=W.nDoms∧(∀w4:Nat,w4<W.nDoms→True∧W.doms w4=W.doms w4))∧W.time=W.time)∧True)∧True∧Szd W∧((∀x4:Nat,x4<e0→W.linesN x4≤50)∧(∀y4:Nat,y4<h0→W.readyN y4≤50)∧(∀z4:Nat,z4<k0→W.tlbsN z4≤50))∧z0∧x0<(c0:Int))∧(g2=true→((a1∧e=e∧True)∧True∧z0∧e≠0)∧(e=l0∧x0=q0)∧True)∧(g2=false→w64 h2=h2∧(∃a5:Nat,h2=(a5:Int)∧True∧(a5≤a0∧(∀b5:Nat,b5<a5→(!tkB W b5)=false))∧a0-a5<a0-w0)))∧(y0=false→(l0=0∧q0=(-1))∧True))
set_option maxHeartbeats 1000000 in
theorem ok_badT : FnOK Tryz.prog glN 189 c_badT := ok_of (.cons ok_wAt (.cons ok_tasks1 .nil)) false Tryz.call189 Tryz.func189 (fun ⟨_, W⟩ => [.inv (an_bad W.nTasks (fun i => !tkB W i))]) (V := V_badT) (fun _ => by kernel_rfl) fun ⟨e, W⟩ hp => by
  dsimp only [s_badT] at hp
  dsimp only [V_badT, tn, w64]
  obtain ⟨he, hp⟩ := hp
  simp only [std, stb, eq_self, implies_true, Bool.cond_self]
  have z1 := hp.1.tasks
  have z2 := hp.1.k1
  unfold bE bA
  refine fun _ s hs => ⟨fun h => ?_, fun h => ?_⟩
  · have hlt := lt_of_dec h
    refine ⟨by omega, ⟨hp.1, hp.2, by omega⟩, fun h1 => ?_, fun h1 => ⟨by rw [IntKind.wrap_i64]; omega, exS ⟨⟨by omega, snocF (p := fun i => !tkB W i) hs.2 h1⟩, by omega⟩⟩⟩
    rw [fstE_at (p := fun i => !tkB W i) hs.2 h1 hlt]
    first | exact ⟨he, rfl, rfl⟩ | exact ⟨⟨by omega, he⟩, rfl, rfl⟩
  · have hge := ge_of_dec h
    rw [fstE_none (p := fun i => !tkB W i) fun j hj => hs.2 j (by omega)]
    exact ⟨rfl, rfl⟩
structure X_badL where
  (e : Int) (W : Wd)
def s_badL : Sy.Spec := ⟨X_badL, fun ⟨e, W⟩ => [.sl true 1 W.nLines (fun i _ => .sl true 1 (W.linesN i) (iF (W.lines i))), .v (.int .i64 e), .fn 196 1 (lsv [.pt true 1 (fun _ => wPT W)])], fun _ => [], fun ⟨e, W⟩ => e ≠ 0 ∧ Szd W ∧ smB W, fun ⟨e, W⟩ => .er 35 116 (bE W.nLines (fun i => !lnB W i) e) (bA W.nLines (fun i => !lnB W i) e), fun _ => [],
  fun args mem => match args with | [a0, a1, a2] => (match isFn 196 a2 with | true => some ⟨intD (a1), wPTD (ptF (fnF a2 0) 0)⟩ | false => none) | _ => none⟩
def c_badL : Con := ⟨[], s_badL.g, none⟩
def V_badL : X_badL → Prop := fun ⟨e, W⟩ => let a0:=W.nLines;let b0:=(a0:Int);let c0:=W.nKinds;let d0:=W.nSlots;let e0:=W.nTasks;let g0:=W.nCores;let h0:=W.nReady;let k0:=W.nTlbs;let l0:=bE a0 (fun o0:Nat=>!lnB W o0) e;let q0:=bA a0 (fun u0:Nat=>!lnB W u0) e;b0≤9223372036854775807→0=((0:Nat):Int)∧True∧(0≤a0∧(∀v0:Nat,v0<0→(!lnB W v0)=false))∧(∀w0:Nat,let x0:=(w0:Int);let y0:=decide (x0<b0);let z0:=0≤x0;let a1:=x0=x0;let b1:=Int.toNat x0;let c1:=W.linesN b1;let d1:=!lnB W b1;let e1:Int:=x0+1;w0≤a0∧(∀g1:Nat,g1<w0→(!lnB W g1)=false)→(y0=true→(z0∧x0<b0)∧((a1∧(c1=c1∧(∀h1:Nat,h1<c1→True∧W.lines b1 h1=W.lines b1 h1))∧(True∧((((((((((True∧W.nRam=W.nRam∧(∀k1:Nat,k1<W.nRam→True∧W.ram k1=W.ram k1))∧c0=c0∧(∀l1:Nat,l1<c0→True∧W.kinds l1=W.kinds l1))∧d0=d0∧(∀o1:Nat,let q1:=W.slots o1;let u1:=q1.kind;let v1:=q1.base;let w1:=q1.len;let x1:=q1.mark;let y1:=q1.rights;let z1:=q1.badge;let a2:=q1.from_;o1<d0→((((((True∧u1=u1)∧v1=v1)∧w1=w1)∧x1=x1)∧y1=y1)∧z1=z1)∧a2=a2))∧e0=e0∧(∀b2:Nat,let c2:=W.tasks b2;let d2:=c2.prio;let e2:=c2.node;let g2:=c2.space;let h2:=c2.helper;let k2:=c2.loc;let l2:=c2.word;let o2:=c2.badge;let q2:=c2.owes;let u2:=c2.core;let v2:=c2.dom;b2<e0→(((((((((((((((((((True∧c2.r0=c2.r0)∧c2.r1=c2.r1)∧c2.r2=c2.r2)∧c2.r3=c2.r3)∧c2.r4=c2.r4)∧c2.r5=c2.r5)∧c2.r6=c2.r6)∧c2.r7=c2.r7)∧c2.pc=c2.pc)∧c2.st=c2.st)∧d2=d2)∧e2=e2)∧g2=g2)∧h2=h2)∧k2=k2)∧l2=l2)∧o2=o2)∧q2=q2)∧u2=u2)∧v2=v2))∧a0=a0∧(∀w2:Nat,let x2:=W.linesN w2;w2<a0→True∧x2=x2∧(∀y2:Nat,y2<x2→True∧W.lines w2 y2=W.lines w2 y2)))∧W.nBits=W.nBits∧(∀z2:Nat,z2<W.nBits→True∧
    W.bits z2=W.bits z2))∧g0=g0∧(∀a3:Nat,a3<g0→True∧W.cores a3=W.cores a3))∧h0=h0∧(∀b3:Nat,let c3:=W.readyN b3;b3<h0→True∧c3=c3∧(∀d3:Nat,d3<c3→True∧W.ready b3 d3=W.ready b3 d3)))∧k0=k0∧(∀e3:Nat,let g3:=W.tlbsN e3;e3<k0→True∧g3=g3∧(∀h3:Nat,let k3:=W.tlbs e3 h3;let l3:=k3.sp;let o3:=k3.pg;let q3:=k3.fr;let u3:=k3.wr;h3<g3→(((True∧l3=l3)∧o3=o3)∧q3=q3)∧u3=u3)))∧W.nDoms=W.nDoms∧(∀v3:Nat,v3<W.nDoms→True∧W.doms v3=W.doms v3))∧W.time=W.time)∧True)∧True∧Szd W∧((∀w3:Nat,w3<a0→W.linesN w3≤50)∧(∀x3:Nat,x3<h0→W.readyN x3≤50)∧(∀y3:Nat,y3<k0→W.tlbsN y3≤50))∧z0∧x0<(c0:Int))∧(d1=true→((a1∧e=e∧True)∧True∧z0∧e≠0)∧(e=l0∧x0=q0)∧True)∧(d1=false→w64 e1=e1∧(∃z3:Nat,e1=(z3:Int)∧True∧(z3≤a0∧(∀a4:Nat,a4<z3→(!lnB W a4)=false))∧a0-z3<a0-w0)))∧(y0=false→(l0=0∧q0=(-1))∧True))
set_option maxHeartbeats 1000000 in
theorem ok_badL : FnOK Tryz.prog glN 195 c_badL := ok_of (.cons ok_wAt (.cons ok_lines1 .nil)) false Tryz.call195 Tryz.func195 (fun ⟨_, W⟩ => [.inv (an_bad W.nLines (fun i => !lnB W i))]) (V := V_badL) (fun _ => by kernel_rfl) fun ⟨e, W⟩ hp => by
  dsimp only [s_badL] at hp
  dsimp only [V_badL, tn, w64]
  obtain ⟨he, hp⟩ := hp
  simp only [std, stb, eq_self, implies_true, Bool.cond_self]
  have z1 := hp.1.lines
  have z2 := hp.1.k1
  unfold bE bA
  refine fun _ s hs => ⟨fun h => ?_, fun h => ?_⟩
  · have hlt := lt_of_dec h
    refine ⟨by omega, ⟨hp.1, hp.2, by omega⟩, fun h1 => ?_, fun h1 => ⟨by rw [IntKind.wrap_i64]; omega, exS ⟨⟨by omega, snocF (p := fun i => !lnB W i) hs.2 h1⟩, by omega⟩⟩⟩
    rw [fstE_at (p := fun i => !lnB W i) hs.2 h1 hlt]
    first | exact ⟨he, rfl, rfl⟩ | exact ⟨⟨by omega, he⟩, rfl, rfl⟩
  · have hge := ge_of_dec h
    rw [fstE_none (p := fun i => !lnB W i) fun j hj => hs.2 j (by omega)]
    exact ⟨rfl, rfl⟩
structure X_badR where
  (e : Int) (W : Wd)
def s_badR : Sy.Spec := ⟨X_badR, fun ⟨e, W⟩ => [.sl true 1 W.nReady (fun i _ => .sl true 1 (W.readyN i) (iF (W.ready i))), .v (.int .i64 e), .fn 199 1 (lsv [.pt true 1 (fun _ => .fn 197 1 (lsv [.pt true 1 (fun _ => wPT W)]))])], fun _ => [], fun ⟨e, W⟩ => e ≠ 0 ∧ Szd W ∧ smB W, fun ⟨e, W⟩ => .er 35 116 (bE W.nReady (fun i => !rlB W i) e) (bA W.nReady (fun i => !rlB W i) e), fun _ => [],
  fun args mem => match args with | [a0, a1, a2] => (match isFn 199 a2 with | true => some ⟨intD (a1), wPTD (ptF (fnF (ptF (fnF a2 0) 0) 0) 0)⟩ | false => none) | _ => none⟩
def c_badR : Con := ⟨[], s_badR.g, none⟩
def V_badR : X_badR → Prop := fun ⟨e, W⟩ => let a0:=W.nReady;let b0:=(a0:Int);let c0:=W.nKinds;let d0:=W.nSlots;let e0:=W.nTasks;let g0:=W.nLines;let h0:=W.nCores;let k0:=W.nTlbs;let l0:=bE a0 (fun o0:Nat=>!rlB W o0) e;let q0:=bA a0 (fun u0:Nat=>!rlB W u0) e;b0≤9223372036854775807→0=((0:Nat):Int)∧True∧(0≤a0∧(∀v0:Nat,v0<0→(!rlB W v0)=false))∧(∀w0:Nat,let x0:=(w0:Int);let y0:=decide (x0<b0);let z0:=0≤x0∧x0<b0;let a1:=x0=x0;let b1:=Int.toNat x0;let c1:=W.readyN b1;let d1:=!rlB W b1;let e1:Int:=x0+1;w0≤a0∧(∀g1:Nat,g1<w0→(!rlB W g1)=false)→(y0=true→z0∧((a1∧(c1=c1∧(∀h1:Nat,h1<c1→True∧W.ready b1 h1=W.ready b1 h1))∧tn 3 (((((((((((True∧W.nRam=W.nRam∧(∀k1:Nat,k1<W.nRam→True∧W.ram k1=W.ram k1))∧c0=c0∧(∀l1:Nat,l1<c0→True∧W.kinds l1=W.kinds l1))∧d0=d0∧(∀o1:Nat,let q1:=W.slots o1;let u1:=q1.kind;let v1:=q1.base;let w1:=q1.len;let x1:=q1.mark;let y1:=q1.rights;let z1:=q1.badge;let a2:=q1.from_;o1<d0→((((((True∧u1=u1)∧v1=v1)∧w1=w1)∧x1=x1)∧y1=y1)∧z1=z1)∧a2=a2))∧e0=e0∧(∀b2:Nat,let c2:=W.tasks b2;let d2:=c2.prio;let e2:=c2.node;let g2:=c2.space;let h2:=c2.helper;let k2:=c2.loc;let l2:=c2.word;let o2:=c2.badge;let q2:=c2.owes;let u2:=c2.core;let v2:=c2.dom;b2<e0→(((((((((((((((((((True∧c2.r0=c2.r0)∧c2.r1=c2.r1)∧c2.r2=c2.r2)∧c2.r3=c2.r3)∧c2.r4=c2.r4)∧c2.r5=c2.r5)∧c2.r6=c2.r6)∧c2.r7=c2.r7)∧c2.pc=c2.pc)∧c2.st=c2.st)∧d2=d2)∧e2=e2)∧g2=g2)∧h2=h2)∧k2=k2)∧l2=l2)∧o2=o2)∧q2=q2)∧u2=u2)∧v2=v2))∧g0=g0∧(∀w2:Nat,let x2:=W.linesN w2;w2<g0→True∧x2=x2∧(∀y2:Nat,y2<x2→True∧W.lines w2 y2=W.lines w2 y2)))∧W.nBits=W.nBits∧(∀z2:Nat,z2<W.nBits→True∧
    W.bits z2=W.bits z2))∧h0=h0∧(∀a3:Nat,a3<h0→True∧W.cores a3=W.cores a3))∧a0=a0∧(∀b3:Nat,let c3:=W.readyN b3;b3<a0→True∧c3=c3∧(∀d3:Nat,d3<c3→True∧W.ready b3 d3=W.ready b3 d3)))∧k0=k0∧(∀e3:Nat,let g3:=W.tlbsN e3;e3<k0→True∧g3=g3∧(∀h3:Nat,let k3:=W.tlbs e3 h3;let l3:=k3.sp;let o3:=k3.pg;let q3:=k3.fr;let u3:=k3.wr;h3<g3→(((True∧l3=l3)∧o3=o3)∧q3=q3)∧u3=u3)))∧W.nDoms=W.nDoms∧(∀v3:Nat,v3<W.nDoms→True∧W.doms v3=W.doms v3))∧W.time=W.time)∧True)∧True∧Szd W∧((∀w3:Nat,w3<g0→W.linesN w3≤50)∧(∀x3:Nat,x3<a0→W.readyN x3≤50)∧(∀y3:Nat,y3<k0→W.tlbsN y3≤50))∧z0)∧(d1=true→((a1∧e=e∧True)∧True∧0≤x0∧e≠0)∧(e=l0∧x0=q0)∧True)∧(d1=false→w64 e1=e1∧(∃z3:Nat,e1=(z3:Int)∧True∧(z3≤a0∧(∀a4:Nat,a4<z3→(!rlB W a4)=false))∧a0-z3<a0-w0)))∧(y0=false→(l0=0∧q0=(-1))∧True))
set_option maxHeartbeats 1000000 in
theorem ok_badR : FnOK Tryz.prog glN 195 c_badR := ok_of (.cons ok_wAt (.cons ok_turns3 .nil)) false Tryz.call195 Tryz.func195 (fun ⟨_, W⟩ => [.inv (an_bad W.nReady (fun i => !rlB W i))]) (V := V_badR) (fun _ => by kernel_rfl) fun ⟨e, W⟩ hp => by
  dsimp only [s_badR] at hp
  dsimp only [V_badR, tn, w64]
  obtain ⟨he, hp⟩ := hp
  simp only [std, stb, eq_self, implies_true, Bool.cond_self]
  have z1 := hp.1.ready
  have z2 := hp.1.c1
  unfold bE bA
  refine fun _ s hs => ⟨fun h => ?_, fun h => ?_⟩
  · have hlt := lt_of_dec h
    refine ⟨by omega, ⟨hp.1, hp.2, by omega⟩, fun h1 => ?_, fun h1 => ⟨by rw [IntKind.wrap_i64]; omega, exS ⟨⟨by omega, snocF (p := fun i => !rlB W i) hs.2 h1⟩, by omega⟩⟩⟩
    rw [fstE_at (p := fun i => !rlB W i) hs.2 h1 hlt]
    first | exact ⟨he, rfl, rfl⟩ | exact ⟨⟨by omega, he⟩, rfl, rfl⟩
  · have hge := ge_of_dec h
    rw [fstE_none (p := fun i => !rlB W i) fun j hj => hs.2 j (by omega)]
    exact ⟨rfl, rfl⟩
structure X_badE where
  (e : Int) (W : Wd)
def s_badE : Sy.Spec := ⟨X_badE, fun ⟨e, W⟩ => [.sl true 1 W.nTlbs (fun i _ => .sl true 4 (W.tlbsN i) (rF fun k => enL (W.tlbs i k))), .v (.int .i64 e), .fn 204 1 (lsv [.pt true 1 (fun _ => wPT W)])], fun _ => [], fun ⟨e, W⟩ => e ≠ 0 ∧ Szd W ∧ smB W ∧ ∀ i, i < W.nRam → isW (W.ram i), fun ⟨e, W⟩ => .er 35 116 (bE W.nTlbs (fun i => !tlB W (W.tlbsN i) (W.tlbs i)) e) (bA W.nTlbs (fun i => !tlB W (W.tlbsN i) (W.tlbs i)) e), fun _ => [],
  fun args mem => match args with | [a0, a1, a2] => (match isFn 204 a2 with | true => some ⟨intD (a1), wPTD (ptF (fnF a2 0) 0)⟩ | false => none) | _ => none⟩
def c_badE : Con := ⟨[], s_badE.g, none⟩
def V_badE : X_badE → Prop := fun ⟨e, W⟩ => let a0:=W.nTlbs;let b0:=(a0:Int);let c0:=W.nRam;let d0:=W.nKinds;let e0:=W.nSlots;let g0:=W.nTasks;let h0:=W.nLines;let k0:=W.nCores;let l0:=W.nReady;let o0:=bE a0 (fun q0:Nat=>!tlB W (W.tlbsN q0) (W.tlbs q0)) e;let u0:=bA a0 (fun v0:Nat=>!tlB W (W.tlbsN v0) (W.tlbs v0)) e;b0≤9223372036854775807→0=((0:Nat):Int)∧True∧(0≤a0∧(∀w0:Nat,w0<0→(!tlB W (W.tlbsN w0) (W.tlbs w0))=false))∧(∀x0:Nat,let y0:=(x0:Int);let z0:=decide (y0<b0);let a1:=y0=y0;let b1:=Int.toNat y0;let c1:=W.tlbsN b1;let d1:=!tlB W c1 (W.tlbs b1);let e1:Int:=y0+1;x0≤a0∧(∀g1:Nat,g1<x0→(!tlB W (W.tlbsN g1) (W.tlbs g1))=false)→(z0=true→(0≤y0∧y0<b0)∧((a1∧(c1=c1∧(∀h1:Nat,let k1:=W.tlbs b1 h1;let l1:=k1.sp;let o1:=k1.pg;let q1:=k1.fr;let u1:=k1.wr;h1<c1→(((True∧l1=l1)∧o1=o1)∧q1=q1)∧u1=u1))∧(True∧((((((((((True∧c0=c0∧(∀v1:Nat,v1<c0→True∧W.ram v1=W.ram v1))∧d0=d0∧(∀w1:Nat,w1<d0→True∧W.kinds w1=W.kinds w1))∧e0=e0∧(∀x1:Nat,let y1:=W.slots x1;let z1:=y1.kind;let a2:=y1.base;let b2:=y1.len;let c2:=y1.mark;let d2:=y1.rights;let e2:=y1.badge;let g2:=y1.from_;x1<e0→((((((True∧z1=z1)∧a2=a2)∧b2=b2)∧c2=c2)∧d2=d2)∧e2=e2)∧g2=g2))∧g0=g0∧(∀h2:Nat,let k2:=W.tasks h2;let l2:=k2.prio;let o2:=k2.node;let q2:=k2.space;let u2:=k2.helper;let v2:=k2.loc;let w2:=k2.word;let x2:=k2.badge;let y2:=k2.owes;let z2:=k2.core;let a3:=k2.dom;h2<g0→(((((((((((((((((((True∧k2.r0=k2.r0)∧k2.r1=k2.r1)∧k2.r2=k2.r2)∧k2.r3=k2.r3)∧k2.r4=k2.r4)∧k2.r5=k2.r5)∧k2.r6=k2.r6)∧k2.r7=k2.r7)∧k2.pc=k2.pc)∧k2.st=k2.st)∧l2=l2)∧o2=o2)∧q2=q2)∧u2=u2)∧v2=v2)∧w2=w2)∧x2=x2)∧y2=y2)∧
    z2=z2)∧a3=a3))∧h0=h0∧(∀b3:Nat,let c3:=W.linesN b3;b3<h0→True∧c3=c3∧(∀d3:Nat,d3<c3→True∧W.lines b3 d3=W.lines b3 d3)))∧W.nBits=W.nBits∧(∀e3:Nat,e3<W.nBits→True∧W.bits e3=W.bits e3))∧k0=k0∧(∀g3:Nat,g3<k0→True∧W.cores g3=W.cores g3))∧l0=l0∧(∀h3:Nat,let k3:=W.readyN h3;h3<l0→True∧k3=k3∧(∀l3:Nat,l3<k3→True∧W.ready h3 l3=W.ready h3 l3)))∧a0=a0∧(∀o3:Nat,let q3:=W.tlbsN o3;o3<a0→True∧q3=q3∧(∀u3:Nat,let v3:=W.tlbs o3 u3;let w3:=v3.sp;let x3:=v3.pg;let y3:=v3.fr;let z3:=v3.wr;u3<q3→(((True∧w3=w3)∧x3=x3)∧y3=y3)∧z3=z3)))∧W.nDoms=W.nDoms∧(∀a4:Nat,a4<W.nDoms→True∧W.doms a4=W.doms a4))∧W.time=W.time)∧True)∧True∧Szd W∧c1≤1000∧(∀b4:Nat,b4<c0→0≤W.ram b4∧W.ram b4≤65535))∧(d1=true→((a1∧e=e∧True)∧True∧0≤y0∧e≠0)∧(e=o0∧y0=u0)∧True)∧(d1=false→w64 e1=e1∧(∃c4:Nat,e1=(c4:Int)∧True∧(c4≤a0∧(∀d4:Nat,d4<c4→(!tlB W (W.tlbsN d4) (W.tlbs d4))=false))∧a0-c4<a0-x0)))∧(z0=false→(o0=0∧u0=(-1))∧True))
set_option maxHeartbeats 1000000 in
theorem ok_badE : FnOK Tryz.prog glN 203 c_badE := ok_of (.cons ok_wAt (.cons ok_maps2 .nil)) false Tryz.call203 Tryz.func203 (fun ⟨_, W⟩ => [.inv (an_bad W.nTlbs (fun i => !tlB W (W.tlbsN i) (W.tlbs i)))]) (V := V_badE) (fun _ => by kernel_rfl) fun ⟨e, W⟩ hp => by
  dsimp only [s_badE] at hp
  dsimp only [V_badE, tn, w64]
  obtain ⟨he, hp⟩ := hp
  simp only [std, stb, eq_self, implies_true, Bool.cond_self]
  have z1 := hp.1.tlbs
  have z2 := hp.1.c1
  unfold bE bA
  refine fun _ s hs => ⟨fun h => ?_, fun h => ?_⟩
  · have hlt := lt_of_dec h
    refine ⟨by omega, ⟨hp.1, by have := hp.2.1.2.2 s hlt; omega, hp.2.2⟩, fun h1 => ?_, fun h1 => ⟨by rw [IntKind.wrap_i64]; omega, exS ⟨⟨by omega, snocF (p := fun i => !tlB W (W.tlbsN i) (W.tlbs i)) hs.2 h1⟩, by omega⟩⟩⟩
    rw [fstE_at (p := fun i => !tlB W (W.tlbsN i) (W.tlbs i)) hs.2 h1 hlt]
    first | exact ⟨he, rfl, rfl⟩ | exact ⟨⟨by omega, he⟩, rfl, rfl⟩
  · have hge := ge_of_dec h
    rw [fstE_none (p := fun i => !tlB W (W.tlbsN i) (W.tlbs i)) fun j hj => hs.2 j (by omega)]
    exact ⟨rfl, rfl⟩
end Go.Proofs.YtdjilaofmdhikaaGreatDoor
set_option linter.unusedVariables false
set_option linter.unusedSimpArgs false
set_option maxRecDepth 100000
namespace Go.Proofs.YtdjilaofmdhikaaGreatDoor
open Go.RowKit Go.Sy
theorem fstE_seq {n : Nat} {p : Nat → Bool} {e : Int} {r : Int × Int} (he : e ≠ 0) : ((fstE n p e (0, -1)).1 = 0 → fstE n p e r = r) ∧ ((fstE n p e (0, -1)).1 ≠ 0 → fstE n p e r = fstE n p e (0, -1)) := by
  unfold fstE
  cases Nat.blt (fstB n p) n
  · exact ⟨fun _ => rfl, fun h => absurd rfl h⟩
  · exact ⟨fun h => absurd h he, fun _ => rfl⟩
theorem seqE {n : Nat} {p : Nat → Bool} {e : Int} {r : Int × Int} (he : e ≠ 0) (h : (bE n p e != 0) = true) : bE n p e = (fstE n p e r).1 ∧ bA n p e = (fstE n p e r).2 := by
  rw [(fstE_seq he).2 (by simpa [bE] using h)]; exact ⟨rfl, rfl⟩
theorem seqE0 {n : Nat} {p : Nat → Bool} {e : Int} {r : Int × Int} (he : e ≠ 0) (h : (bE n p e != 0) = false) : fstE n p e r = r := (fstE_seq he).1 (by simpa [bE] using h)
def w1E (W : Wd) : Int := (wm1 W (0, -1)).1
def w1A (W : Wd) : Int := (wm1 W (0, -1)).2
def w2E (W : Wd) : Int := (wm2 W (0, -1)).1
def w2A (W : Wd) : Int := (wm2 W (0, -1)).2
def w3E (W : Wd) : Int := (wm3 W (0, -1)).1
def w3A (W : Wd) : Int := (wm3 W (0, -1)).2
def w4E (W : Wd) : Int := (wm4 W (0, -1)).1
def w4A (W : Wd) : Int := (wm4 W (0, -1)).2
def w5E (W : Wd) : Int := (wm5 W (0, -1)).1
def w5A (W : Wd) : Int := (wm5 W (0, -1)).2
def w6E (W : Wd) : Int := (wm6 W (0, -1)).1
def w6A (W : Wd) : Int := (wm6 W (0, -1)).2
def w7E (W : Wd) : Int := (wm7 W (0, -1)).1
def w7A (W : Wd) : Int := (wm7 W (0, -1)).2
structure X_vWords where
  (W : Wd)
def s_vWords : Sy.Spec := ⟨X_vWords, fun ⟨W⟩ => [wPT W], fun _ => [], fun ⟨W⟩ => Sm W, fun ⟨W⟩ => .er 35 116 (w1E W) (w1A W), fun _ => [],
  fun args mem => match args with | [a0] => some ⟨wPTD a0⟩ | _ => none⟩
def c_vWords : Con := ⟨[], s_vWords.g, none⟩
def V_vWords : X_vWords → Prop := fun ⟨W⟩ => let a0:=W.nRam;let b0:=True∧True;let c0:=bE a0 (fun d0:Nat=>farB (W.ram d0) 65535) 1;let e0:=c0 !=0;let g0:=W.nKinds;let h0:=bE g0 (fun k0:Nat=>farB (W.kinds k0) 8||W.kinds k0==1) 3;let l0:=h0 !=0;let o0:=W.nDoms;(((a0=a0∧(∀q0:Nat,q0<a0→True∧W.ram q0=W.ram q0))∧(1:Int)=1∧b0)∧True∧(1:Int)≠0∧a0≤100000)∧(e0=true→(c0=w1E W∧bA a0 (fun r0:Nat=>farB (W.ram r0) 65535) 1=w1A W)∧True)∧(e0=false→(((g0=g0∧(∀u0:Nat,u0<g0→True∧W.kinds u0=W.kinds u0))∧(3:Int)=3∧b0)∧True∧(3:Int)≠0∧g0≤100000)∧(l0=true→(h0=w1E W∧bA g0 (fun v0:Nat=>farB (W.kinds v0) 8||W.kinds v0==1) 3=w1A W)∧True)∧(l0=false→(((o0=o0∧(∀w0:Nat,w0<o0→True∧W.doms w0=W.doms w0))∧(2:Int)=2∧b0)∧True∧(2:Int)≠0∧o0≤100000)∧(bE o0 (fun x0:Nat=>farB (W.doms x0) 3) 2=w1E W∧bA o0 (fun y0:Nat=>farB (W.doms y0) 3) 2=w1A W)∧True))
theorem ok_vWords : FnOK Tryz.prog glN 139 c_vWords := ok_of (.cons (ok_badW1.or (ok_badW2.or ok_badW3)) .nil) false Tryz.call139 Tryz.func139 (fun _ => []) (V := V_vWords) (fun _ => by kernel_rfl) fun ⟨W⟩ hp => by
  dsimp only [s_vWords] at hp
  dsimp only [V_vWords, tn, w64]
  have b1 := hp.ram
  have b2 := hp.kinds
  have b3 := hp.doms
  simp only [std, stb, eq_self, implies_true, Bool.cond_self]
  unfold w1E w1A wm1
  refine ⟨⟨by decide, by omega⟩, fun h => seqE (by decide) h, fun h => ⟨⟨by decide, by omega⟩, fun h2 => ?_, fun h2 => ⟨⟨by decide, by omega⟩, ?_⟩⟩⟩
  · rw [seqE0 (by decide) h]; exact seqE (by decide) h2
  · rw [seqE0 (by decide) h, seqE0 (by decide) h2]; exact ⟨rfl, rfl⟩
structure X_vKeys where
  (W : Wd)
def s_vKeys : Sy.Spec := ⟨X_vKeys, fun ⟨W⟩ => [wPT W], fun _ => [], fun ⟨W⟩ => Szd W, fun ⟨W⟩ => .er 35 116 (w2E W) (w2A W), fun _ => [],
  fun args mem => match args with | [a0] => some ⟨wPTD a0⟩ | _ => none⟩
def c_vKeys : Con := ⟨[], s_vKeys.g, none⟩
def V_vKeys : X_vKeys → Prop := fun ⟨W⟩ => let a0:=W.nSlots;let b0:=a0=a0∧(∀c0:Nat,let d0:=W.slots c0;let e0:=d0.kind;let g0:=d0.base;let h0:=d0.len;let k0:=d0.mark;let l0:=d0.rights;let o0:=d0.badge;let q0:=d0.from_;c0<a0→((((((True∧e0=e0)∧g0=g0)∧h0=h0)∧k0=k0)∧l0=l0)∧o0=o0)∧q0=q0);let u0:=W.nKinds;let v0:=W.nTasks;let w0:=W.nLines;let x0:=W.nCores;let y0:=W.nReady;True∧((b0∧(8:Int)=8∧tn 2 (((((((((((True∧W.nRam=W.nRam∧(∀z0:Nat,z0<W.nRam→True∧W.ram z0=W.ram z0))∧u0=u0∧(∀a1:Nat,a1<u0→True∧W.kinds a1=W.kinds a1))∧b0)∧v0=v0∧(∀b1:Nat,let c1:=W.tasks b1;let d1:=c1.prio;let e1:=c1.node;let g1:=c1.space;let h1:=c1.helper;let k1:=c1.loc;let l1:=c1.word;let o1:=c1.badge;let q1:=c1.owes;let u1:=c1.core;let v1:=c1.dom;b1<v0→(((((((((((((((((((True∧c1.r0=c1.r0)∧c1.r1=c1.r1)∧c1.r2=c1.r2)∧c1.r3=c1.r3)∧c1.r4=c1.r4)∧c1.r5=c1.r5)∧c1.r6=c1.r6)∧c1.r7=c1.r7)∧c1.pc=c1.pc)∧c1.st=c1.st)∧d1=d1)∧e1=e1)∧g1=g1)∧h1=h1)∧k1=k1)∧l1=l1)∧o1=o1)∧q1=q1)∧u1=u1)∧v1=v1))∧w0=w0∧(∀w1:Nat,let x1:=W.linesN w1;w1<w0→True∧x1=x1∧(∀y1:Nat,y1<x1→True∧W.lines w1 y1=W.lines w1 y1)))∧W.nBits=W.nBits∧(∀z1:Nat,z1<W.nBits→True∧W.bits z1=W.bits z1))∧x0=x0∧(∀a2:Nat,a2<x0→True∧W.cores a2=W.cores a2))∧y0=y0∧(∀b2:Nat,let c2:=W.readyN b2;b2<y0→True∧c2=c2∧(∀d2:Nat,d2<c2→True∧W.ready b2 d2=W.ready b2 d2)))∧W.nTlbs=W.nTlbs∧(∀e2:Nat,let g2:=W.tlbsN e2;e2<W.nTlbs→True∧g2=g2∧(∀h2:Nat,let k2:=W.tlbs e2 h2;let l2:=k2.sp;let o2:=k2.pg;let q2:=k2.fr;let u2:=k2.wr;h2<g2→(((True∧l2=l2)∧o2=o2)∧q2=q2)∧u2=u2)))∧W.nDoms=W.nDoms∧(∀v2:Nat,v2<W.nDoms→True∧W.doms v2=W.doms v2))∧W.time=W.time)∧
    True)∧True∧(8:Int)≠0∧Szd W)∧(bE a0 (fun w2:Nat=>!slB W w2) 8=w2E W∧bA a0 (fun x2:Nat=>!slB W x2) 8=w2A W)∧True
theorem ok_vKeys : FnOK Tryz.prog glN 140 c_vKeys := ok_of (.cons ok_badK .nil) false Tryz.call140 Tryz.func140 (fun _ => []) (V := V_vKeys) (fun _ => by kernel_rfl) fun ⟨W⟩ hp => by
  dsimp only [s_vKeys] at hp
  dsimp only [V_vKeys, tn, w64]
  simp only [std, stb, eq_self, implies_true, Bool.cond_self]
  exact ⟨⟨by decide, hp⟩, rfl, rfl⟩
structure X_vTasks where
  (W : Wd)
def s_vTasks : Sy.Spec := ⟨X_vTasks, fun ⟨W⟩ => [wPT W], fun _ => [], fun ⟨W⟩ => Szd W ∧ smB W, fun ⟨W⟩ => .er 35 116 (w4E W) (w4A W), fun _ => [],
  fun args mem => match args with | [a0] => some ⟨wPTD a0⟩ | _ => none⟩
def c_vTasks : Con := ⟨[], s_vTasks.g, none⟩
def V_vTasks : X_vTasks → Prop := fun ⟨W⟩ => let a0:=W.nTasks;let b0:=a0=a0∧(∀c0:Nat,let d0:=W.tasks c0;let e0:=d0.prio;let g0:=d0.node;let h0:=d0.space;let k0:=d0.helper;let l0:=d0.loc;let o0:=d0.word;let q0:=d0.badge;let u0:=d0.owes;let v0:=d0.core;let w0:=d0.dom;c0<a0→(((((((((((((((((((True∧d0.r0=d0.r0)∧d0.r1=d0.r1)∧d0.r2=d0.r2)∧d0.r3=d0.r3)∧d0.r4=d0.r4)∧d0.r5=d0.r5)∧d0.r6=d0.r6)∧d0.r7=d0.r7)∧d0.pc=d0.pc)∧d0.st=d0.st)∧e0=e0)∧g0=g0)∧h0=h0)∧k0=k0)∧l0=l0)∧o0=o0)∧q0=q0)∧u0=u0)∧v0=v0)∧w0=w0);let x0:=W.nKinds;let y0:=W.nSlots;let z0:=W.nLines;let a1:=W.nCores;let b1:=W.nReady;let c1:=W.nTlbs;True∧((b0∧(8:Int)=8∧tn 2 (((((((((((True∧W.nRam=W.nRam∧(∀d1:Nat,d1<W.nRam→True∧W.ram d1=W.ram d1))∧x0=x0∧(∀e1:Nat,e1<x0→True∧W.kinds e1=W.kinds e1))∧y0=y0∧(∀g1:Nat,let h1:=W.slots g1;let k1:=h1.kind;let l1:=h1.base;let o1:=h1.len;let q1:=h1.mark;let u1:=h1.rights;let v1:=h1.badge;let w1:=h1.from_;g1<y0→((((((True∧k1=k1)∧l1=l1)∧o1=o1)∧q1=q1)∧u1=u1)∧v1=v1)∧w1=w1))∧b0)∧z0=z0∧(∀x1:Nat,let y1:=W.linesN x1;x1<z0→True∧y1=y1∧(∀z1:Nat,z1<y1→True∧W.lines x1 z1=W.lines x1 z1)))∧W.nBits=W.nBits∧(∀a2:Nat,a2<W.nBits→True∧W.bits a2=W.bits a2))∧a1=a1∧(∀b2:Nat,b2<a1→True∧W.cores b2=W.cores b2))∧b1=b1∧(∀c2:Nat,let d2:=W.readyN c2;c2<b1→True∧d2=d2∧(∀e2:Nat,e2<d2→True∧W.ready c2 e2=W.ready c2 e2)))∧c1=c1∧(∀g2:Nat,let h2:=W.tlbsN g2;g2<c1→True∧h2=h2∧(∀k2:Nat,let l2:=W.tlbs g2 k2;let o2:=l2.sp;let q2:=l2.pg;let u2:=l2.fr;let v2:=l2.wr;k2<h2→(((True∧o2=o2)∧q2=q2)∧u2=u2)∧v2=v2)))∧W.nDoms=W.nDoms∧(∀w2:Nat,w2<W.nDoms→True∧W.doms w2=W.doms w2))∧W.time=W.time)∧
    True)∧True∧(8:Int)≠0∧Szd W∧(∀x2:Nat,x2<z0→W.linesN x2≤50)∧(∀y2:Nat,y2<b1→W.readyN y2≤50)∧(∀z2:Nat,z2<c1→W.tlbsN z2≤50))∧(bE a0 (fun a3:Nat=>!tkB W a3) 8=w4E W∧bA a0 (fun b3:Nat=>!tkB W b3) 8=w4A W)∧True
theorem ok_vTasks : FnOK Tryz.prog glN 142 c_vTasks := ok_of (.cons ok_badT .nil) false Tryz.call142 Tryz.func142 (fun _ => []) (V := V_vTasks) (fun _ => by kernel_rfl) fun ⟨W⟩ hp => by
  dsimp only [s_vTasks] at hp
  dsimp only [V_vTasks, tn, w64]
  simp only [std, stb, eq_self, implies_true, Bool.cond_self]
  unfold w4E w4A wm4 bE bA
  rw [hp.1.tasks]
  exact ⟨⟨by decide, hp⟩, rfl, rfl⟩
structure X_vLines where
  (W : Wd)
def s_vLines : Sy.Spec := ⟨X_vLines, fun ⟨W⟩ => [wPT W], fun _ => [], fun ⟨W⟩ => Szd W ∧ smB W, fun ⟨W⟩ => .er 35 116 (w5E W) (w5A W), fun _ => [],
  fun args mem => match args with | [a0] => some ⟨wPTD a0⟩ | _ => none⟩
def c_vLines : Con := ⟨[], s_vLines.g, none⟩
def V_vLines : X_vLines → Prop := fun ⟨W⟩ => let a0:=W.nLines;let b0:=a0=a0∧(∀c0:Nat,let d0:=W.linesN c0;c0<a0→True∧d0=d0∧(∀e0:Nat,e0<d0→True∧W.lines c0 e0=W.lines c0 e0));let g0:=W.nKinds;let h0:=W.nSlots;let k0:=W.nTasks;let l0:=W.nCores;let o0:=W.nReady;let q0:=W.nTlbs;True∧((b0∧(8:Int)=8∧tn 2 (((((((((((True∧W.nRam=W.nRam∧(∀u0:Nat,u0<W.nRam→True∧W.ram u0=W.ram u0))∧g0=g0∧(∀v0:Nat,v0<g0→True∧W.kinds v0=W.kinds v0))∧h0=h0∧(∀w0:Nat,let x0:=W.slots w0;let y0:=x0.kind;let z0:=x0.base;let a1:=x0.len;let b1:=x0.mark;let c1:=x0.rights;let d1:=x0.badge;let e1:=x0.from_;w0<h0→((((((True∧y0=y0)∧z0=z0)∧a1=a1)∧b1=b1)∧c1=c1)∧d1=d1)∧e1=e1))∧k0=k0∧(∀g1:Nat,let h1:=W.tasks g1;let k1:=h1.prio;let l1:=h1.node;let o1:=h1.space;let q1:=h1.helper;let u1:=h1.loc;let v1:=h1.word;let w1:=h1.badge;let x1:=h1.owes;let y1:=h1.core;let z1:=h1.dom;g1<k0→(((((((((((((((((((True∧h1.r0=h1.r0)∧h1.r1=h1.r1)∧h1.r2=h1.r2)∧h1.r3=h1.r3)∧h1.r4=h1.r4)∧h1.r5=h1.r5)∧h1.r6=h1.r6)∧h1.r7=h1.r7)∧h1.pc=h1.pc)∧h1.st=h1.st)∧k1=k1)∧l1=l1)∧o1=o1)∧q1=q1)∧u1=u1)∧v1=v1)∧w1=w1)∧x1=x1)∧y1=y1)∧z1=z1))∧b0)∧W.nBits=W.nBits∧(∀a2:Nat,a2<W.nBits→True∧W.bits a2=W.bits a2))∧l0=l0∧(∀b2:Nat,b2<l0→True∧W.cores b2=W.cores b2))∧o0=o0∧(∀c2:Nat,let d2:=W.readyN c2;c2<o0→True∧d2=d2∧(∀e2:Nat,e2<d2→True∧W.ready c2 e2=W.ready c2 e2)))∧q0=q0∧(∀g2:Nat,let h2:=W.tlbsN g2;g2<q0→True∧h2=h2∧(∀k2:Nat,let l2:=W.tlbs g2 k2;let o2:=l2.sp;let q2:=l2.pg;let u2:=l2.fr;let v2:=l2.wr;k2<h2→(((True∧o2=o2)∧q2=q2)∧u2=u2)∧v2=v2)))∧W.nDoms=W.nDoms∧(∀w2:Nat,w2<W.nDoms→True∧W.doms w2=W.doms w2))∧W.time=W.time)∧
    True)∧True∧(8:Int)≠0∧Szd W∧(∀x2:Nat,x2<a0→W.linesN x2≤50)∧(∀y2:Nat,y2<o0→W.readyN y2≤50)∧(∀z2:Nat,z2<q0→W.tlbsN z2≤50))∧(bE a0 (fun a3:Nat=>!lnB W a3) 8=w5E W∧bA a0 (fun b3:Nat=>!lnB W b3) 8=w5A W)∧True
theorem ok_vLines : FnOK Tryz.prog glN 143 c_vLines := ok_of (.cons (ok_badL.or ok_badR) .nil) false Tryz.call143 Tryz.func143 (fun _ => []) (V := V_vLines) (fun _ => by kernel_rfl) fun ⟨W⟩ hp => by
  dsimp only [s_vLines] at hp
  dsimp only [V_vLines, tn, w64]
  simp only [std, stb, eq_self, implies_true, Bool.cond_self]
  refine ⟨⟨by decide, hp⟩, ?_⟩
  unfold w5E w5A wm5 bE bA
  rw [hp.1.lines]
  exact ⟨rfl, rfl⟩
structure X_vTurns where
  (W : Wd)
def s_vTurns : Sy.Spec := ⟨X_vTurns, fun ⟨W⟩ => [wPT W], fun _ => [], fun ⟨W⟩ => Szd W ∧ smB W, fun ⟨W⟩ => .er 35 116 (w6E W) (w6A W), fun _ => [],
  fun args mem => match args with | [a0] => some ⟨wPTD a0⟩ | _ => none⟩
def c_vTurns : Con := ⟨[], s_vTurns.g, none⟩
def V_vTurns : X_vTurns → Prop := fun ⟨W⟩ => let a0:=W.nCores;let b0:=a0=a0∧(∀c0:Nat,c0<a0→True∧W.cores c0=W.cores c0);let d0:=W.nKinds;let e0:=W.nSlots;let g0:=W.nTasks;let h0:=W.nLines;let k0:=W.nReady;let l0:=k0=k0∧(∀o0:Nat,let q0:=W.readyN o0;o0<k0→True∧q0=q0∧(∀u0:Nat,u0<q0→True∧W.ready o0 u0=W.ready o0 u0));let v0:=W.nTlbs;
    let w0:=(8:Int)=8∧tn 4 (((((((((((True∧W.nRam=W.nRam∧(∀x0:Nat,x0<W.nRam→True∧W.ram x0=W.ram x0))∧d0=d0∧(∀y0:Nat,y0<d0→True∧W.kinds y0=W.kinds y0))∧e0=e0∧(∀z0:Nat,let a1:=W.slots z0;let b1:=a1.kind;let c1:=a1.base;let d1:=a1.len;let e1:=a1.mark;let g1:=a1.rights;let h1:=a1.badge;let k1:=a1.from_;z0<e0→((((((True∧b1=b1)∧c1=c1)∧d1=d1)∧e1=e1)∧g1=g1)∧h1=h1)∧k1=k1))∧g0=g0∧(∀l1:Nat,let o1:=W.tasks l1;let q1:=o1.prio;let u1:=o1.node;let v1:=o1.space;let w1:=o1.helper;let x1:=o1.loc;let y1:=o1.word;let z1:=o1.badge;let a2:=o1.owes;let b2:=o1.core;let c2:=o1.dom;l1<g0→(((((((((((((((((((True∧o1.r0=o1.r0)∧o1.r1=o1.r1)∧o1.r2=o1.r2)∧o1.r3=o1.r3)∧o1.r4=o1.r4)∧o1.r5=o1.r5)∧o1.r6=o1.r6)∧o1.r7=o1.r7)∧o1.pc=o1.pc)∧o1.st=o1.st)∧q1=q1)∧u1=u1)∧v1=v1)∧w1=w1)∧x1=x1)∧y1=y1)∧z1=z1)∧a2=a2)∧b2=b2)∧c2=c2))∧h0=h0∧(∀d2:Nat,let e2:=W.linesN d2;d2<h0→True∧e2=e2∧(∀g2:Nat,g2<e2→True∧W.lines d2 g2=W.lines d2 g2)))∧W.nBits=W.nBits∧(∀h2:Nat,h2<W.nBits→True∧W.bits h2=W.bits h2))∧b0)∧l0)∧v0=v0∧(∀k2:Nat,let l2:=W.tlbsN k2;k2<v0→True∧l2=l2∧(∀o2:Nat,let q2:=W.tlbs k2 o2;let u2:=q2.sp;let v2:=q2.pg;let w2:=q2.fr;let x2:=q2.wr;o2<l2→(((True∧u2=u2)∧v2=v2)∧w2=w2)∧x2=x2)))∧W.nDoms=W.nDoms∧(∀y2:Nat,y2<W.nDoms→True∧W.doms y2=W.doms y2))∧W.time=W.time)∧True;let z2:=bE a0 (fun a3:Nat=>!coB W a3) 8;let b3:=z2 !=0;tn 3 (((b0∧w0)∧True∧(8:Int)≠0∧Szd W)∧(b3=true→(z2=w6E W∧bA a0 (fun c3:Nat=>!coB W c3) 8=w6A W)∧True)∧(b3=false→((l0∧w0)∧True∧(8:Int)≠0∧Szd W∧(∀d3:Nat,d3<h0→W.linesN d3≤50)∧(∀e3:Nat,e3<k0→W.readyN e3≤50)∧(∀g3:Nat,
    g3<v0→W.tlbsN g3≤50))∧(bE k0 (fun h3:Nat=>!rlB W h3) 8=w6E W∧bA k0 (fun k3:Nat=>!rlB W k3) 8=w6A W)∧True))
theorem ok_vTurns : FnOK Tryz.prog glN 144 c_vTurns := ok_of (.cons ok_badC (.cons (ok_badR.or ok_badL) .nil)) false Tryz.call144 Tryz.func144 (fun _ => []) (V := V_vTurns) (fun _ => by kernel_rfl) fun ⟨W⟩ hp => by
  dsimp only [s_vTurns] at hp
  dsimp only [V_vTurns, tn, w64]
  simp only [std, stb, eq_self, implies_true, Bool.cond_self]
  unfold w6E w6A wm6
  refine ⟨⟨by decide, hp.1⟩, fun h => seqE (by decide) h, fun h => ⟨⟨by decide, hp⟩, ?_⟩⟩
  rw [seqE0 (by decide) h]; exact ⟨rfl, rfl⟩
structure X_vMaps where
  (W : Wd)
def s_vMaps : Sy.Spec := ⟨X_vMaps, fun ⟨W⟩ => [wPT W], fun _ => [], fun ⟨W⟩ => Szd W ∧ smB W ∧ ∀ i, i < W.nRam → isW (W.ram i), fun ⟨W⟩ => .er 35 116 (w7E W) (w7A W), fun _ => [],
  fun args mem => match args with | [a0] => some ⟨wPTD a0⟩ | _ => none⟩
def c_vMaps : Con := ⟨[], s_vMaps.g, none⟩
def V_vMaps : X_vMaps → Prop := fun ⟨W⟩ => let a0:=W.nRam;let b0:=a0=a0∧(∀c0:Nat,c0<a0→True∧W.ram c0=W.ram c0);let d0:=W.nKinds;let e0:=W.nSlots;let g0:=W.nTasks;let h0:=W.nLines;let k0:=W.nCores;let l0:=W.nReady;let o0:=W.nTlbs;let q0:=o0=o0∧(∀u0:Nat,let v0:=W.tlbsN u0;u0<o0→True∧v0=v0∧(∀w0:Nat,let x0:=W.tlbs u0 w0;let y0:=x0.sp;let z0:=x0.pg;let a1:=x0.fr;let b1:=x0.wr;w0<v0→(((True∧y0=y0)∧z0=z0)∧a1=a1)∧b1=b1));
    let c1:=(9:Int)=9∧tn 2 (((((((((((True∧b0)∧d0=d0∧(∀d1:Nat,d1<d0→True∧W.kinds d1=W.kinds d1))∧e0=e0∧(∀e1:Nat,let g1:=W.slots e1;let h1:=g1.kind;let k1:=g1.base;let l1:=g1.len;let o1:=g1.mark;let q1:=g1.rights;let u1:=g1.badge;let v1:=g1.from_;e1<e0→((((((True∧h1=h1)∧k1=k1)∧l1=l1)∧o1=o1)∧q1=q1)∧u1=u1)∧v1=v1))∧g0=g0∧(∀w1:Nat,let x1:=W.tasks w1;let y1:=x1.prio;let z1:=x1.node;let a2:=x1.space;let b2:=x1.helper;let c2:=x1.loc;let d2:=x1.word;let e2:=x1.badge;let g2:=x1.owes;let h2:=x1.core;let k2:=x1.dom;w1<g0→(((((((((((((((((((True∧x1.r0=x1.r0)∧x1.r1=x1.r1)∧x1.r2=x1.r2)∧x1.r3=x1.r3)∧x1.r4=x1.r4)∧x1.r5=x1.r5)∧x1.r6=x1.r6)∧x1.r7=x1.r7)∧x1.pc=x1.pc)∧x1.st=x1.st)∧y1=y1)∧z1=z1)∧a2=a2)∧b2=b2)∧c2=c2)∧d2=d2)∧e2=e2)∧g2=g2)∧h2=h2)∧k2=k2))∧h0=h0∧(∀l2:Nat,let o2:=W.linesN l2;l2<h0→True∧o2=o2∧(∀q2:Nat,q2<o2→True∧W.lines l2 q2=W.lines l2 q2)))∧W.nBits=W.nBits∧(∀u2:Nat,u2<W.nBits→True∧W.bits u2=W.bits u2))∧k0=k0∧(∀v2:Nat,v2<k0→True∧W.cores v2=W.cores v2))∧l0=l0∧(∀w2:Nat,let x2:=W.readyN w2;w2<l0→True∧x2=x2∧(∀y2:Nat,y2<x2→True∧W.ready w2 y2=W.ready w2 y2)))∧q0)∧W.nDoms=W.nDoms∧(∀z2:Nat,z2<W.nDoms→True∧W.doms z2=W.doms z2))∧W.time=W.time)∧True;let a3:=bE a0 (fun b3:Nat=>!enB W b3) 9;let c3:=a3 !=0;True∧((b0∧c1)∧True∧(9:Int)≠0∧Szd W∧(∀d3:Nat,d3<a0→0≤W.ram d3∧W.ram d3≤65535))∧(c3=true→(a3=w7E W∧bA a0 (fun e3:Nat=>!enB W e3) 9=w7A W)∧True)∧(c3=false→((q0∧c1)∧True∧(9:Int)≠0∧Szd W∧((∀g3:Nat,g3<h0→W.linesN g3≤50)∧(∀h3:Nat,h3<l0→W.readyN h3≤50)∧(∀k3:Nat,k3<o0→W.tlbsN k3≤50))∧(∀l3:Nat,l3<a0→
    0≤W.ram l3∧W.ram l3≤65535))∧(bE o0 (fun o3:Nat=>!tlB W (W.tlbsN o3) (W.tlbs o3)) 9=w7E W∧bA o0 (fun q3:Nat=>!tlB W (W.tlbsN q3) (W.tlbs q3)) 9=w7A W)∧True)
theorem ok_vMaps : FnOK Tryz.prog glN 145 c_vMaps := ok_of (.cons ok_badM (.cons ok_badE .nil)) false Tryz.call145 Tryz.func145 (fun _ => []) (V := V_vMaps) (fun _ => by kernel_rfl) fun ⟨W⟩ hp => by
  dsimp only [s_vMaps] at hp
  dsimp only [V_vMaps, tn, w64]
  simp only [std, stb, eq_self, implies_true, Bool.cond_self]
  refine ⟨⟨by decide, hp.1, hp.2.2⟩, fun h => ?_, fun h => ⟨⟨by decide, hp⟩, ?_⟩⟩
  · exact seqE (by decide) h
  · unfold w7E w7A wm7
    rw [seqE0 (by decide) h, ← hp.1.tlbs]; exact ⟨rfl, rfl⟩
end Go.Proofs.YtdjilaofmdhikaaGreatDoor
set_option linter.unusedVariables false
set_option linter.unusedSimpArgs false
set_option maxRecDepth 100000
namespace Go.Proofs.YtdjilaofmdhikaaGreatDoor
open Go.RowKit Go.Sy
def usedK (W : Wd) : Nat → Nat → Bool
  | 0, _ => false
  | k + 1, f => bif clayAt (W.slots k) f then decide ((f : Int) < (W.slots k).base + (W.slots k).mark) else usedK W k f
def clayN (W : Wd) (k f : Nat) : Nat := cntB k fun q => clayAt (W.slots q) f
def keysN (W : Wd) (k f : Nat) : Nat := cntB k fun q => keyAt (W.slots q) f
def inRg (b : Int) (j : Nat) (f : Nat) : Bool := decide (b ≤ f) && decide ((f : Int) < b + j)
theorem inRg0 (b : Int) (f : Nat) : inRg b 0 f = false := by
  unfold inRg
  rcases Int.lt_or_le (f : Int) b with h | h
  · rw [decide_eq_false (show ¬ b ≤ (f : Int) by omega)]; rfl
  · rw [decide_eq_false (show ¬ (f : Int) < b + ((0 : Nat) : Int) by omega), Bool.and_false]
theorem inRg_at (b : Int) (j f : Nat) (h : (f : Int) = b + j) : inRg b j f = false ∧ inRg b (j + 1) f = true := by
  unfold inRg
  rw [decide_eq_false (show ¬ (f : Int) < b + (j : Int) by omega), decide_eq_true (show b ≤ (f : Int) by omega), decide_eq_true (show (f : Int) < b + ((j + 1 : Nat) : Int) by omega)]
  exact ⟨rfl, rfl⟩
theorem inRg_ne (b : Int) (j f : Nat) (h : (f : Int) ≠ b + j) : inRg b (j + 1) f = inRg b j f := by
  unfold inRg
  rw [show decide ((f : Int) < b + ((j + 1 : Nat) : Int)) = decide ((f : Int) < b + (j : Int)) from decide_eq_decide.2 (by omega)]
theorem cl_none {W : Wd} {f : Nat} : ∀ {n : Nat}, clayN W n f = 0 → (anyB n fun i => freeAt (W.slots i) f) = false
  | 0, _ => rfl
  | n + 1, h => by
    have h : clayN W n f + (bif clayAt (W.slots n) f then 1 else 0) = 0 := h
    cases hc : clayAt (W.slots n) f with
    | true => rw [hc] at h; simp at h
    | false =>
      rw [hc] at h
      rw [anyB_succ, cl_none (n := n) (by simpa using h)]
      unfold freeAt; rw [hc]; rfl
theorem cl_one {W : Wd} {f : Nat} : ∀ {n : Nat}, clayN W n f = 1 → (anyB n fun i => freeAt (W.slots i) f) = !usedK W n f
  | 0, h => by cases h
  | n + 1, h => by
    have h : clayN W n f + (bif clayAt (W.slots n) f then 1 else 0) = 1 := h
    rw [anyB_succ]
    show _ = !(bif clayAt (W.slots n) f then decide ((f : Int) < (W.slots n).base + (W.slots n).mark) else usedK W n f)
    cases hc : clayAt (W.slots n) f with
    | true =>
      rw [hc] at h
      rw [cl_none (n := n) (by simpa using h)]
      unfold freeAt
      rw [hc]
      simp only [Bool.false_or, Bool.true_and, cond_true]
      rw [← decide_not]
      exact decide_eq_decide.2 (by omega)
    | false =>
      rw [hc] at h
      rw [cl_one (n := n) (by simpa using h)]
      unfold freeAt; rw [hc]
      simp
theorem fr_not {W : Wd} {f : Nat} : (decide (1 < ((clayN W W.nSlots f : Nat) : Int)) || W.kinds f != 0 && (((keysN W W.nSlots f : Nat) : Int) == 0 || ((clayN W W.nSlots f : Nat) : Int) == 1 && !usedK W W.nSlots f)) = !frB W f := by
  rw [castE0, castE1]
  show _ = !(decide (clayN W W.nSlots f ≤ 1) && (W.kinds f == 0 || (decide (0 < keysN W W.nSlots f) && !anyB W.nSlots fun i => freeAt (W.slots i) f)))
  rw [show decide (0 < keysN W W.nSlots f) = !(keysN W W.nSlots f == 0) by
    cases hk : keysN W W.nSlots f == 0 with
    | true => rw [eq_of_beq hk]; rfl
    | false =>
      have hk2 : keysN W W.nSlots f ≠ 0 := by simpa using hk
      rw [decide_eq_true (Nat.pos_of_ne_zero hk2)]; rfl]
  have hc : clayN W W.nSlots f = 0 ∨ clayN W W.nSlots f = 1 ∨ 2 ≤ clayN W W.nSlots f := by omega
  rcases hc with hc | hc | hc
  · rw [cl_none hc, hc]; simp only [bne]
    cases W.kinds f == 0 <;> cases keysN W W.nSlots f == 0 <;> rfl
  · rw [cl_one hc, hc]; simp only [bne]
    cases W.kinds f == 0 <;> cases keysN W W.nSlots f == 0 <;> cases usedK W W.nSlots f <;> rfl
  · rw [decide_eq_true (show (1 : Int) < ((clayN W W.nSlots f : Nat) : Int) by omega), decide_eq_false (show ¬ clayN W W.nSlots f ≤ 1 by omega)]; rfl
def an_fr1 (W : Wd) : Ann where
  σ := Nat
  rt := [(3, 0), (4, 0), (5, 0)]
  sh i := [(3, pt0 0), (4, pt0 2), (5, pt0 4), (36, .v (.int .i64 i))]
  mh i := [(1, .row 1 W.nKinds fun f _ => .v (.int .i64 (clayN W i f : Nat))), (3, .row 1 W.nKinds fun f _ => .v (.bool (usedK W i f))), (5, .row 1 W.nKinds fun f _ => .v (.int .i64 (keysN W i f : Nat)))]
  inv i := i ≤ W.nSlots
  μ i := W.nSlots - i
  init := 0
def an_fr2 (W : Wd) (i : Int) : Ann where
  σ := Nat
  rt := [(3, 0), (4, 0), (5, 0), (7, 0)]
  sh j := [(3, pt0 0), (4, pt0 2), (5, pt0 4), (7, pt0 6), (59, .v (.int .i64 j))]
  mh j := [(1, .row 1 W.nKinds fun f _ => .v (.int .i64 ((clayN W i.toNat f : Nat) + (bif inRg (W.slots i.toNat).base j f then 1 else 0)))), (3, .row 1 W.nKinds fun f _ => .v (.bool (bif inRg (W.slots i.toNat).base j f then decide ((f : Int) < (W.slots i.toNat).base + (W.slots i.toNat).mark) else usedK W i.toNat f)))]
  inv j := (j : Int) ≤ (W.slots i.toNat).len
  μ j := (W.slots i.toNat).len.toNat - j
  init := 0
structure X_vFrames where
  (W : Wd)
def s_vFrames : Sy.Spec := ⟨X_vFrames, fun ⟨W⟩ => [wPT W], fun _ => [], fun ⟨W⟩ => Szd W ∧ ∀ i, i < W.nSlots → slB W i = true, fun ⟨W⟩ => .er 35 116 (w3E W) (w3A W), fun _ => [],
  fun args mem => match args with | [a0] => some ⟨wPTD a0⟩ | _ => none⟩
def c_vFrames : Con := ⟨[], s_vFrames.g, none⟩
def V_vFrames : X_vFrames → Prop := fun ⟨W⟩ => let a0:=W.nKinds;let b0:=(a0:Int);let c0:=b0≤9223372036854775807;let d0:=0≤b0;let e0:=b0≤b0;let g0:=d0∧e0∧((8:Nat):Int)*b0≤140737488355328;let h0:=W.nSlots;let k0:=(h0:Int);let l0:=SV.ptr 0 0 none 0 0=SV.ptr 0 0 none 0 0;let o0:=SV.ptr (0+1+1) 0 none 0 0=SV.ptr 2 0 none 0 0;let q0:=0+1+1+1+1;let r0:=SV.ptr q0 0 none 0 0=SV.ptr 4 0 none 0 0;let u0:=Int.toNat b0;let v0:=u0=u0;let w0:=True∧0=0∧v0;let x0:=u0=a0;let y0:=(u0:Int);let z0:=false=false;let a1:=a0=a0;let b1:=SV.ptr (q0+1+1) 0 none 0 0=SV.ptr 6 0 none 0 0;let c1:=a0≤u0;c0→g0∧tn 2 (c0→(d0∧e0∧((1:Nat):Int)*b0≤140737488355328)∧tn 2 (c0→g0∧tn 2 (k0≤9223372036854775807→l0∧o0∧r0∧0=((0:Nat):Int)∧(w0∧(x0∧(∀d1:Nat,d1<a0→True∧0=((clayN W 0 d1:Nat):Int)))∧w0∧(x0∧(∀e1:Nat,e1<a0→True∧false=usedK W 0 e1))∧w0∧(x0∧(∀g1:Nat,g1<a0→True∧0=((keysN W 0 g1:Nat):Int)))∧True)∧0≤h0∧(∀h1:Nat,let k1:=(h1:Int);let l1:=decide (k1<k0);let o1:=Int.toNat k1;let q1:=W.slots o1;let r1:=q1.kind;let u1:=r1 !=1;let v1:=r1 !=0;let w1:=q1.base;let x1:=0≤w1∧w1<y0;let y1:=0+Int.toNat w1;let z1:Int:=((keysN W h1 y1:Nat):Int)+1;let a2:Int:=k1+1;let b2:=w64 a2=a2;let c2:=q1.mark;let d2:Int:=w1+c2;let e2:=q1.len;let g2:=q1.rights;let h2:=q1.badge;let k2:=q1.from_;let l2:=w0∧(a1∧(∀o2:Nat,let q2:=((keysN W h1 o2:Nat):Int);o2<a0→True∧q2=q2))∧(((((((True∧r1=r1)∧w1=w1)∧e2=e2)∧c2=c2)∧g2=g2)∧h2=h2)∧k2=k2)∧True;let r2:=Int.toNat e2;h1≤h0→(l1=true→(0≤k1∧k1<k0)∧True∧tn 6 True∧(u1=true→(v1=true→x1∧w64 z1=z1∧x1∧(∀u2:Nat,z0)∧b2∧(∃v2:Nat,l0∧o0∧r0∧a2=(v2:Int)∧(w0∧(a1∧(∀w2:Nat,
    w2<a0→True∧((clayN W h1 w2:Nat):Int)=((clayN W v2 w2:Nat):Int)))∧w0∧(a1∧(∀x2:Nat,x2<a0→True∧usedK W h1 x2=usedK W v2 x2))∧w0∧(a1∧(∀y2:Nat,y2<a0→True∧cond (Nat.beq y2 y1) z1 ((keysN W h1 y2:Nat):Int)=((keysN W v2 y2:Nat):Int)))∧True)∧v2≤h0∧h0-v2<h0-h1))∧(v1=false→b2∧(∃z2:Nat,l0∧o0∧r0∧a2=(z2:Int)∧(w0∧(a1∧(∀a3:Nat,a3<a0→True∧((clayN W h1 a3:Nat):Int)=((clayN W z2 a3:Nat):Int)))∧w0∧(a1∧(∀b3:Nat,b3<a0→True∧usedK W h1 b3=usedK W z2 b3))∧w0∧(a1∧(∀c3:Nat,c3<a0→True∧((keysN W h1 c3:Nat):Int)=((keysN W z2 c3:Nat):Int)))∧True)∧z2≤h0∧h0-z2<h0-h1)))∧(u1=false→l0∧o0∧r0∧b1∧0=((0:Nat):Int)∧(w0∧(a1∧(∀d3:Nat,d3<a0→True∧((clayN W h1 d3:Nat):Int)=((clayN W o1 d3:Nat):Int)+cond (inRg w1 0 d3) 1 0))∧w0∧(a1∧(∀e3:Nat,e3<a0→True∧usedK W h1 e3=cond (inRg w1 0 e3) (decide ((e3:Int)<d2)) (usedK W o1 e3)))∧l2)∧((0:Nat):Int)≤e2∧(∀g3:Nat,let h3:=(g3:Int);let k3:=decide (h3<e2);let l3:Int:=w1+h3;let o3:=w64 l3=l3;let q3:=0≤l3∧l3<y0;let r3:=0+Int.toNat l3;let u3:Int:=((clayN W o1 r3:Nat):Int)+cond (inRg w1 g3 r3) 1 0+1;let v3:Int:=h3+1;h3≤e2→(k3=true→o3∧q3∧w64 u3=u3∧q3∧(∀w3:Nat,z0)∧o3∧q3∧(∀x3:Nat,z0)∧w64 v3=v3∧(∃y3:Nat,l0∧o0∧r0∧b1∧v3=(y3:Int)∧(w0∧(a1∧(∀z3:Nat,let a4:=((clayN W o1 z3:Nat):Int);z3<a0→True∧cond (Nat.beq z3 r3) u3 (a4+cond (inRg w1 g3 z3) 1 0)=a4+cond (inRg w1 y3 z3) 1 0))∧w0∧(a1∧(∀b4:Nat,let c4:=decide ((b4:Int)<d2);b4<a0→True∧cond (Nat.beq b4 r3) (decide (h3<c2)) (cond (inRg w1 g3 b4) c4 (usedK W o1 b4))=cond (inRg w1 y3 b4) c4 (usedK W o1 b4)))∧l2)∧(y3:Int)≤e2∧r2-y3<r2-g3))∧(k3=false→b2∧
    (∃d4:Nat,l0∧o0∧r0∧a2=(d4:Int)∧(w0∧(a1∧(∀e4:Nat,e4<a0→True∧((clayN W o1 e4:Nat):Int)+cond (inRg w1 g3 e4) 1 0=((clayN W d4 e4:Nat):Int)))∧w0∧(a1∧(∀g4:Nat,g4<a0→True∧cond (inRg w1 g3 g4) (decide ((g4:Int)<d2)) (usedK W o1 g4)=usedK W d4 g4))∧w0∧(a1∧(∀h4:Nat,h4<a0→True∧((keysN W h1 h4:Nat):Int)=((keysN W d4 h4:Nat):Int)))∧True)∧d4≤h0∧h0-d4<h0-h1)))))∧(l1=false→(((a1∧(∀k4:Nat,k4<a0→True∧W.kinds k4=W.kinds k4))∧(8:Int)=8∧((tn 2 (v0∧(∀l4:Nat,let o4:=((clayN W h1 (0+l4):Nat):Int);l4<u0→True∧o4=o4))∧True∧v0∧(∀q4:Nat,let r4:=((keysN W h1 (0+q4):Nat):Int);q4<u0→True∧r4=r4))∧True∧v0∧(∀u4:Nat,let v4:=usedK W h1 (0+u4);u4<u0→True∧v4=v4))∧True)∧True∧(8:Int)≠0∧a0≤100000∧c1∧c1∧c1)∧(bE a0 (fun w4:Nat=>let x4:=((clayN W h1 (0+w4):Nat):Int);decide (1<x4)||W.kinds w4 !=0&&(((keysN W h1 (0+w4):Nat):Int)==0||x4==1&&!usedK W h1 (0+w4))) 8=w3E W∧bA a0 (fun y4:Nat=>let z4:=((clayN W h1 (0+y4):Nat):Int);decide (1<z4)||W.kinds y4 !=0&&(((keysN W h1 (0+y4):Nat):Int)==0||z4==1&&!usedK W h1 (0+y4))) 8=w3A W)∧True)))))
set_option maxHeartbeats 2000000 in
theorem ok_vFrames : FnOK Tryz.prog glN 141 c_vFrames := ok_of (.cons ok_badF .nil) false Tryz.call141 Tryz.func141 (fun ⟨W⟩ => [.inv (an_fr1 W), .invF false fun fr => intK (fr 36) (an_fr2 W)]) (V := V_vFrames) (fun _ => by kernel_rfl) fun ⟨W⟩ hp => by
  dsimp only [s_vFrames] at hp
  dsimp only [V_vFrames, tn, w64]
  obtain ⟨hz, hs⟩ := hp
  have z1 := hz.slots
  have z2 := hz.k1
  simp only [std, stb, eq_self, implies_true, Bool.cond_self]
  have wr : ∀ z : Int, -100000 ≤ z → z ≤ 100000 → IntKind.i64.wrap z = z := fun z h1 h2 => by rw [IntKind.wrap_i64]; omega
  refine fun _ => ⟨⟨by omega, by omega⟩, fun _ => ⟨⟨by omega, by omega⟩, fun _ => ⟨⟨by omega, by omega⟩, fun _ => ⟨⟨fun _ _ => rfl, fun _ _ => rfl, fun _ _ => rfl⟩, fun s hsn => ⟨fun h => ?_, fun h => ?_⟩⟩⟩⟩⟩
  · have hlt := lt_of_dec h
    have hb := hs s hlt
    have hn := slBs_no hb
    have hr := slNo_range hn
    have c1 : ∀ f, clayN W s f ≤ s := fun f => cntB_le _ _
    have c2 : ∀ f, keysN W s f ≤ s := fun f => cntB_le _ _
    have eC : ∀ f, clayN W (s + 1) f = clayN W s f + (bif clayAt (W.slots s) f then 1 else 0) := fun f => rfl
    have eK : ∀ f, keysN W (s + 1) f = keysN W s f + (bif keyAt (W.slots s) f then 1 else 0) := fun f => rfl
    have eU : ∀ f, usedK W (s + 1) f = bif clayAt (W.slots s) f then decide ((f : Int) < (W.slots s).base + (W.slots s).mark) else usedK W s f := fun f => rfl
    have hfit : (W.slots s).kind ≠ 0 → 1 ≤ (W.slots s).len ∧ (W.slots s).base + (W.slots s).len ≤ W.nKinds := fun hk => by
      refine ⟨slB_len hn hk, ?_⟩
      have hb : slBs W s (W.slots s) = true := hb
      rw [slBs_pos (beq_eq_false_iff_ne.2 hk)] at hb
      simp only [Bool.and_eq_true, decide_eq_true_eq] at hb
      exact hb.1.1.2
    obtain ⟨S, hS⟩ : ∃ S, S = W.slots s := ⟨_, rfl⟩
    simp only [← hS] at eC eK eU hfit hr ⊢
    refine ⟨by omega, fun h1 => ?_, fun h1 => ?_⟩
    · have k1 : (S.kind == 1) = false := notT h1
      have nc : ∀ f, clayAt S f = false := fun f => by unfold clayAt; rw [k1]; rfl
      refine ⟨fun h2 => ?_, fun h2 => ?_⟩
      · have k0 : (S.kind == 0) = false := notT h2
        have hf := hfit (by simpa using k0)
        have ka : ∀ f : Nat, keyAt S f = (S.base == f) := fun f => by unfold keyAt; simp only [bne]; rw [k1, k0]; rfl
        refine ⟨by omega, wr _ (by omega) (by have := c2 S.base.toNat; omega), by omega, wr _ (by omega) (by omega), exS ⟨⟨fun i hi => ?_, fun i hi => ?_, fun i hi => ?_⟩, by omega, by omega⟩⟩
        · rw [eC, nc]; rfl
        · rw [eU, nc]; rfl
        · rw [eK, ka]
          cases hi2 : i.beq S.base.toNat with
          | true =>
            have hi3 := Nat.eq_of_beq_eq_true hi2
            subst hi3
            rw [show (S.base == ((S.base.toNat : Nat) : Int)) = true from beq_iff_eq.2 (by omega)]
            simp
          | false =>
            have hne : i ≠ S.base.toNat := fun e => by subst e; rw [Nat.beq_refl] at hi2; cases hi2
            rw [show (S.base == (i : Int)) = false from beq_eq_false_iff_ne.2 (by omega)]
            simp
      · have k0 : (S.kind == 0) = true := notF h2
        have ka : ∀ f : Nat, keyAt S f = false := fun f => by unfold keyAt; simp only [bne]; rw [k0, k1]; rfl
        refine ⟨wr _ (by omega) (by omega), exS ⟨⟨fun i hi => ?_, fun i hi => ?_, fun i hi => ?_⟩, by omega, by omega⟩⟩
        · rw [eC, nc]; rfl
        · rw [eU, nc]; rfl
        · rw [eK, ka]; rfl
    · have k1 : (S.kind == 1) = true := notF h1
      have hf := hfit (by rw [eq_of_beq k1]; decide)
      have ka : ∀ f : Nat, keyAt S f = false := fun f => by unfold keyAt; simp only [bne]; rw [k1]; rfl
      refine ⟨⟨fun i hi => by rw [inRg0]; simp, fun i hi => by rw [inRg0]; rfl⟩, by omega, fun j hj => ⟨fun h3 => ?_, fun h3 => ?_⟩⟩
      · have h4 := of_decide_eq_true h3
        have hc := c1 (S.base + (j : Int)).toNat
        have e0 : inRg S.base j (S.base + (j : Int)).toNat = false := (inRg_at S.base j _ (by omega)).1
        rw [e0]
        refine ⟨wr _ (by omega) (by omega), by omega, wr _ (by simp; omega) (by simp; omega), by omega, wr _ (by omega) (by omega), by omega, wr _ (by omega) (by omega), exS ⟨⟨fun i hi => ?_, fun i hi => ?_⟩, by omega, by omega⟩⟩
        · cases hi2 : i.beq (S.base + (j : Int)).toNat with
          | true =>
            have hi3 := Nat.eq_of_beq_eq_true hi2
            subst hi3
            rw [(inRg_at S.base j (S.base + (j : Int)).toNat (by omega)).2]; simp
          | false =>
            have hne : i ≠ (S.base + (j : Int)).toNat := fun e => by subst e; rw [Nat.beq_refl] at hi2; cases hi2
            rw [inRg_ne S.base j i (by omega)]; rfl
        · cases hi2 : i.beq (S.base + (j : Int)).toNat with
          | true =>
            have hi3 := Nat.eq_of_beq_eq_true hi2
            subst hi3
            rw [(inRg_at S.base j (S.base + (j : Int)).toNat (by omega)).2]
            exact decide_eq_decide.2 (by omega)
          | false =>
            have hne : i ≠ (S.base + (j : Int)).toNat := fun e => by subst e; rw [Nat.beq_refl] at hi2; cases hi2
            rw [inRg_ne S.base j i (by omega)]; rfl
      · have h4 := of_decide_eq_false h3
        have ej : (j : Int) = S.len := by omega
        have ec : ∀ f : Nat, inRg S.base j f = clayAt S f := fun f => by unfold inRg clayAt; rw [k1, ej]; rfl
        refine ⟨wr _ (by omega) (by omega), exS ⟨⟨fun i hi => ?_, fun i hi => ?_, fun i hi => ?_⟩, by omega, by omega⟩⟩
        · rw [eC, ec]; cases clayAt S i <;> simp
        · rw [eU, ec]
        · rw [eK, ka]; rfl
  · have hge := ge_of_dec h
    obtain rfl : s = W.nSlots := by omega
    have e := fstE_congr (n := W.nKinds) (e := 8) (r := (0, -1)) (r' := (0, -1)) (fun f (hf : f < W.nKinds) => fr_not (W := W) (f := f)) (fun _ => rfl)
    refine ⟨⟨by decide, by omega, Nat.le_refl _⟩, ?_, ?_⟩
    · exact congrArg (·.1) e
    · exact congrArg (·.2) e
end Go.Proofs.YtdjilaofmdhikaaGreatDoor
set_option linter.unusedVariables false
set_option linter.unusedSimpArgs false
set_option maxRecDepth 100000
namespace Go.Proofs.YtdjilaofmdhikaaGreatDoor
open Go.RowKit Go.Sy
def Seq (f : Int × Int → Int × Int) : Prop := ∀ r, ((f (0, -1)).1 = 0 → f r = r) ∧ ((f (0, -1)).1 ≠ 0 → f r = f (0, -1))
theorem Seq.fst {n : Nat} {p : Nat → Bool} {e : Int} (he : e ≠ 0) : Seq (fstE n p e) := fun r => fstE_seq he
theorem Seq.comp {f g : Int × Int → Int × Int} (hf : Seq f) (hg : Seq g) : Seq fun r => f (g r) := by
  intro r
  show ((f (g (0, -1))).1 = 0 → f (g r) = r) ∧ ((f (g (0, -1))).1 ≠ 0 → f (g r) = f (g (0, -1)))
  rcases Decidable.em ((f (0, -1)).1 = 0) with h | h
  · rw [(hf (g r)).1 h, (hf (g (0, -1))).1 h]; exact hg r
  · rw [(hf (g r)).2 h, (hf (g (0, -1))).2 h]; exact ⟨fun h2 => absurd h2 h, fun _ => rfl⟩
theorem seq1 (W : Wd) : Seq (wm1 W) := (Seq.fst (by decide)).comp ((Seq.fst (by decide)).comp (Seq.fst (by decide)))
theorem seq2 (W : Wd) : Seq (wm2 W) := Seq.fst (by decide)
theorem seq3 (W : Wd) : Seq (wm3 W) := Seq.fst (by decide)
theorem seq4 (W : Wd) : Seq (wm4 W) := Seq.fst (by decide)
theorem seq5 (W : Wd) : Seq (wm5 W) := Seq.fst (by decide)
theorem seq6 (W : Wd) : Seq (wm6 W) := (Seq.fst (by decide)).comp (Seq.fst (by decide))
theorem seq7 (W : Wd) : Seq (wm7 W) := (Seq.fst (by decide)).comp (Seq.fst (by decide))
theorem seqW {W : Wd} {f : Int × Int → Int × Int} (hf : Seq f) {r : Int × Int} (hx : wm W = f r) : (((f (0, -1)).1 != 0) = true → (f (0, -1)).1 = wE W ∧ (f (0, -1)).2 = wA W) ∧ (((f (0, -1)).1 != 0) = false → wm W = r) := by
  refine ⟨fun h => ?_, fun h => ?_⟩
  · unfold wE wA; rw [hx, (hf r).2 (by simpa using h)]; exact ⟨rfl, rfl⟩
  · rw [hx, (hf r).1 (by simpa using h)]
theorem ram_of {W : Wd} (h : (w1E W != 0) = false) : ∀ i, i < W.nRam → isW (W.ram i) := fun i hi => by
  have h1 : (wm1 W (0, -1)).1 = 0 := by simpa [w1E] using h
  have := (fstE_zero (by decide) h1).1 i hi
  simp [farB] at this
  exact ⟨by omega, by omega⟩
theorem slots_of {W : Wd} (h : (w2E W != 0) = false) : ∀ i, i < W.nSlots → slB W i = true := fun i hi => by
  have h1 : (wm2 W (0, -1)).1 = 0 := by simpa [w2E] using h
  have := (fstE_zero (by decide) h1).1 i hi
  exact notF this
structure X_wCheck where
  (W : Wd)
def s_wCheck : Sy.Spec := ⟨X_wCheck, fun ⟨W⟩ => [wSV W], fun _ => [], fun ⟨W⟩ => Sm W, fun ⟨W⟩ => .er 35 116 (wE W) (wA W), fun _ => [],
  fun args mem => match args with | [a0] => some ⟨wSVD a0⟩ | _ => none⟩
def c_wCheck : Con := ⟨[], s_wCheck.g, none⟩
def V_wCheck : X_wCheck → Prop := fun ⟨W⟩ => let a0:=W.nKinds;let b0:=(a0:Int);let c0:=W.nCores;let d0:=(c0:Int);let e0:=cond (cond (cond (decide (b0<1)) true (decide (24<b0))) true (decide (d0<1))) true (decide (4<d0));let g0:Int:=b0*16;let h0:=w64 g0=g0;let k0:=W.nRam;let l0:=cond e0 true ((k0:Int) !=g0);let o0:=W.nSlots;let q0:=W.nTasks;let u0:=W.nLines;let v0:=W.nBits;let w0:=cond (cond (cond (cond l0 true ((o0:Int) !=g0)) true ((q0:Int) !=b0)) true ((u0:Int) !=b0)) true ((v0:Int) !=b0);let x0:Int:=d0*4;let y0:=W.nReady;let z0:=W.nTlbs;let a1:=W.nDoms;let b1:=cond (cond (cond (cond w0 true ((y0:Int) !=x0)) true ((z0:Int) !=d0)) true (decide ((a1:Int)<1))) true (decide (8<(a1:Int)));let c1:=W.time=W.time;let d1:=cond b1 true (farB W.time 1000000);let e1:=wE W;let g1:=wA W;let h1:=((7:Nat):Int);
    let k1:=(((((((((((True∧k0=k0∧(∀l1:Nat,l1<k0→True∧W.ram l1=W.ram l1))∧a0=a0∧(∀o1:Nat,o1<a0→True∧W.kinds o1=W.kinds o1))∧o0=o0∧(∀q1:Nat,let u1:=W.slots q1;let v1:=u1.kind;let w1:=u1.base;let x1:=u1.len;let y1:=u1.mark;let z1:=u1.rights;let a2:=u1.badge;let b2:=u1.from_;q1<o0→((((((True∧v1=v1)∧w1=w1)∧x1=x1)∧y1=y1)∧z1=z1)∧a2=a2)∧b2=b2))∧q0=q0∧(∀c2:Nat,let d2:=W.tasks c2;let e2:=d2.prio;let g2:=d2.node;let h2:=d2.space;let k2:=d2.helper;let l2:=d2.loc;let o2:=d2.word;let q2:=d2.badge;let u2:=d2.owes;let v2:=d2.core;let w2:=d2.dom;c2<q0→(((((((((((((((((((True∧d2.r0=d2.r0)∧d2.r1=d2.r1)∧d2.r2=d2.r2)∧d2.r3=d2.r3)∧d2.r4=d2.r4)∧d2.r5=d2.r5)∧d2.r6=d2.r6)∧d2.r7=d2.r7)∧d2.pc=d2.pc)∧d2.st=d2.st)∧e2=e2)∧g2=g2)∧h2=h2)∧k2=k2)∧l2=l2)∧o2=o2)∧q2=q2)∧u2=u2)∧v2=v2)∧w2=w2))∧u0=u0∧(∀x2:Nat,let y2:=W.linesN x2;x2<u0→True∧y2=y2∧(∀z2:Nat,z2<y2→True∧W.lines x2 z2=W.lines x2 z2)))∧v0=v0∧(∀a3:Nat,a3<v0→True∧W.bits a3=W.bits a3))∧c0=c0∧(∀b3:Nat,b3<c0→True∧W.cores b3=W.cores b3))∧y0=y0∧(∀c3:Nat,let d3:=W.readyN c3;c3<y0→True∧d3=d3∧(∀e3:Nat,e3<d3→True∧W.ready c3 e3=W.ready c3 e3)))∧z0=z0∧(∀g3:Nat,let h3:=W.tlbsN g3;g3<z0→True∧h3=h3∧(∀k3:Nat,let l3:=W.tlbs g3 k3;let o3:=l3.sp;let q3:=l3.pg;let u3:=l3.fr;let v3:=l3.wr;k3<h3→(((True∧o3=o3)∧q3=q3)∧u3=u3)∧v3=v3)))∧a1=a1∧(∀w3:Nat,w3<a1→True∧W.doms w3=W.doms w3))∧c1)∧True;let x3:Int:=0+1;let y3:Int:=x3+1;let z3:Int:=y3+1;let a4:=(∀b4:Nat,b4<u0→W.linesN b4≤50)∧(∀c4:Nat,c4<y0→W.readyN c4≤50)∧(∀d4:Nat,d4<z0→W.tlbsN d4≤50);let e4:=k1∧True∧Szd W∧a4;
    let g4:Int:=z3+1;let h4:Int:=g4+1;let k4:Int:=h4+1;let l4:Int:=k4+1;tn 8 ((e0=false→h0)∧(l0=false→h0)∧(w0=false→w64 x0=x0)∧(b1=false→(c1∧(1000000:Int)=1000000∧True)∧True∧True)∧(d1=true→((2:Int)≠0∧e1=2∧g1=(-1))∧True)∧(d1=false→tn 2 (h1≤9223372036854775807→((0:Int)≤0∧0<h1)∧(k1∧True∧s_vWords.match_1 (fun o4:X_vWords=>Prop) (X_vWords.mk W) (fun q4:Wd=>Sm q4))∧((w1E W !=0)=true→(w1E W=e1∧w1A W=g1)∧True)∧((w1E W !=0)=false→w64 x3=x3∧(0≤x3∧x3<h1)∧(k1∧True∧s_vKeys.match_1 (fun u4:X_vKeys=>Prop) (X_vKeys.mk W) (fun v4:Wd=>Szd v4))∧((w2E W !=0)=true→(w2E W=e1∧w2A W=g1)∧True)∧((w2E W !=0)=false→w64 y3=y3∧(0≤y3∧y3<h1)∧(k1∧True∧Szd W∧(∀w4:Nat,w4<o0→slB W w4=true))∧((w3E W !=0)=true→(w3E W=e1∧w3A W=g1)∧True)∧((w3E W !=0)=false→w64 z3=z3∧(0≤z3∧z3<h1)∧e4∧((w4E W !=0)=true→(w4E W=e1∧w4A W=g1)∧True)∧((w4E W !=0)=false→w64 g4=g4∧(0≤g4∧g4<h1)∧e4∧((w5E W !=0)=true→(w5E W=e1∧w5A W=g1)∧True)∧((w5E W !=0)=false→w64 h4=h4∧(0≤h4∧h4<h1)∧e4∧((w6E W !=0)=true→(w6E W=e1∧w6A W=g1)∧True)∧((w6E W !=0)=false→w64 k4=k4∧(0≤k4∧k4<h1)∧(k1∧True∧Szd W∧a4∧(∀x4:Nat,x4<k0→0≤W.ram x4∧W.ram x4≤65535))∧((w7E W !=0)=true→(w7E W=e1∧w7A W=g1)∧True)∧((w7E W !=0)=false→w64 l4=l4∧(e1=0∧g1=(-1))∧True))))))))))
set_option maxHeartbeats 2000000 in
theorem ok_wCheck : FnOK Tryz.prog glN 87 c_wCheck := ok_of (.cons ok_wOut (.cons ok_vWords (.cons ok_vKeys (.cons ok_vFrames (.cons ok_vTasks (.cons ok_vLines (.cons ok_vTurns (.cons ok_vMaps .nil)))))))) false Tryz.call87 Tryz.func87 (fun _ => [.dec, .unroll 8]) (V := V_wCheck) (fun _ => by kernel_rfl) fun ⟨W⟩ hp => by
  dsimp only [s_wCheck] at hp
  dsimp only [V_wCheck, tn, w64]
  simp only [std, stb, eq_self, implies_true, Bool.cond_self]
  have wr : ∀ z : Int, -100000 ≤ z → z ≤ 100000 → IntKind.i64.wrap z = z := fun z h1 h2 => by rw [IntKind.wrap_i64]; omega
  have b2 := hp.kinds
  have b4 := hp.cores
  rw [szBad_int]
  refine ⟨fun _ => wr _ (by omega) (by omega), fun _ => wr _ (by omega) (by omega), fun _ => wr _ (by omega) (by omega), fun h => ?_, fun h _ => ⟨⟨by decide, by decide⟩, hp, ?_⟩⟩
  · have : wm W = (2, -1) := by unfold wm; rw [h]; rfl
    unfold wE wA; rw [this]; exact ⟨by decide, rfl, rfl⟩
  have hz := szd_of h
  have X1 : wm W = (wm1 W (wm2 W (wm3 W (wm4 W (wm5 W (wm6 W (wm7 W (0, -1)))))))) := by unfold wm; rw [h]; rfl
  refine ⟨(seqW (seq1 W) X1).1, fun g1 => ⟨wr _ (by decide) (by decide), ⟨by decide, by decide⟩, hz, ?_⟩⟩
  have X2 := (seqW (seq1 W) X1).2 g1
  refine ⟨(seqW (seq2 W) X2).1, fun g2 => ⟨wr _ (by decide) (by decide), ⟨by decide, by decide⟩, ⟨hz, slots_of g2⟩, ?_⟩⟩
  have X3 := (seqW (seq2 W) X2).2 g2
  refine ⟨(seqW (seq3 W) X3).1, fun g3 => ⟨wr _ (by decide) (by decide), ⟨by decide, by decide⟩, ⟨hz, hp.sm⟩, ?_⟩⟩
  have X4 := (seqW (seq3 W) X3).2 g3
  refine ⟨(seqW (seq4 W) X4).1, fun g4 => ⟨wr _ (by decide) (by decide), ⟨by decide, by decide⟩, ⟨hz, hp.sm⟩, ?_⟩⟩
  have X5 := (seqW (seq4 W) X4).2 g4
  refine ⟨(seqW (seq5 W) X5).1, fun g5 => ⟨wr _ (by decide) (by decide), ⟨by decide, by decide⟩, ⟨hz, hp.sm⟩, ?_⟩⟩
  have X6 := (seqW (seq5 W) X5).2 g5
  refine ⟨(seqW (seq6 W) X6).1, fun g6 => ⟨wr _ (by decide) (by decide), ⟨by decide, by decide⟩, ⟨hz, hp.sm, ram_of g1⟩, ?_⟩⟩
  have X7 := (seqW (seq6 W) X6).2 g6
  refine ⟨(seqW (seq7 W) X7).1, fun g7 => ⟨wr _ (by decide) (by decide), ?_⟩⟩
  have X8 := (seqW (seq7 W) X7).2 g7
  unfold wE wA; rw [X8]; exact ⟨rfl, rfl⟩
end Go.Proofs.YtdjilaofmdhikaaGreatDoor
set_option linter.unusedVariables false
set_option linter.unusedSimpArgs false
set_option maxRecDepth 100000
namespace Go.Proofs.YtdjilaofmdhikaaGreatDoor
open Go.RowKit Go.Sy
def zSl : Slt := ⟨0, 0, 0, 0, 0, 0, 0⟩
end Go.Proofs.YtdjilaofmdhikaaGreatDoor
set_option linter.unusedVariables false
set_option linter.unusedSimpArgs false
set_option maxRecDepth 100000
namespace Go.Proofs.YtdjilaofmdhikaaGreatDoor
open Go.RowKit Go.Sy
structure Snd (W : Wd) : Prop where
  z : Szd W
  ram : ∀ i, i < W.nRam → farB (W.ram i) 65535 = false
  kd : ∀ i, i < W.nKinds → (farB (W.kinds i) 8 || W.kinds i == 1) = false
  dm : ∀ i, i < W.nDoms → farB (W.doms i) 3 = false
  sl : ∀ i, i < W.nSlots → slB W i = true
  fr : ∀ i, i < W.nKinds → frB W i = true
  tk : ∀ i, i < W.nKinds → tkB W i = true
  ln : ∀ i, i < W.nKinds → lnB W i = true
  co : ∀ i, i < W.nCores → coB W i = true
  rl : ∀ i, i < W.nReady → rlB W i = true
  en : ∀ i, i < W.nRam → enB W i = true
  tl : ∀ i, i < W.nCores → tlB W (W.tlbsN i) (W.tlbs i) = true
theorem szBad_of {W : Wd} (h : Szd W) : szBad W = false := by
  obtain ⟨h1, h2, h3, h4, h5, h6, h7, h8, h9, h10, h11, h12, h13, h14, h15⟩ := h
  unfold szBad farB
  simp only [Bool.or_eq_false_iff, decide_eq_false_iff_not, bne_eq_false_iff_eq]
  refine ⟨⟨⟨⟨⟨⟨⟨⟨⟨⟨⟨⟨⟨?_, ?_⟩, ?_⟩, ?_⟩, h5⟩, h6⟩, h7⟩, h8⟩, h9⟩, h10⟩, h11⟩, ?_⟩, ?_⟩, ?_, ?_⟩ <;> omega
theorem notN {b : Bool} (h : b = true) : (!b) = false := by rw [h]; rfl
theorem Snd.iff {W : Wd} : wE W = 0 ↔ Snd W := by
  constructor
  · intro h
    unfold wE wm at h
    cases hs : szBad W with
    | true => rw [hs] at h; exact absurd (show (2 : Int) = 0 from h) (by decide)
    | false =>
      rw [hs] at h
      have h : (wm1 W (wm2 W (wm3 W (wm4 W (wm5 W (wm6 W (wm7 W (0, -1)))))))).1 = 0 := h
      have a1 := fstE_zero (by decide) h
      have a2 := fstE_zero (by decide) a1.2
      have a3 := fstE_zero (by decide) a2.2
      have a4 := fstE_zero (by decide) a3.2
      have a5 := fstE_zero (by decide) a4.2
      have a6 := fstE_zero (by decide) a5.2
      have a7 := fstE_zero (by decide) a6.2
      have a8 := fstE_zero (by decide) a7.2
      have a9 := fstE_zero (by decide) a8.2
      have a10 := fstE_zero (by decide) a9.2
      have a11 := fstE_zero (by decide) a10.2
      exact ⟨szd_of hs, a1.1, a2.1, a3.1, fun i hi => notF (a4.1 i hi), fun i hi => notF (a5.1 i hi), fun i hi => notF (a6.1 i hi), fun i hi => notF (a7.1 i hi), fun i hi => notF (a8.1 i hi), fun i hi => notF (a9.1 i hi), fun i hi => notF (a10.1 i hi), fun i hi => notF (a11.1 i hi)⟩
  · intro h
    obtain ⟨z, ram, kd, dm, sl, fr, tk, ln, co, rl, en, tl⟩ := h
    unfold wE wm wm1 wm2 wm3 wm4 wm5 wm6 wm7
    rw [szBad_of z]
    rw [fstE_none ram, fstE_none kd, fstE_none dm, fstE_none fun i hi => notN (sl i hi), fstE_none fun i hi => notN (fr i hi), fstE_none fun i hi => notN (tk i hi), fstE_none fun i hi => notN (ln i hi), fstE_none fun i hi => notN (co i hi), fstE_none fun i hi => notN (rl i hi), fstE_none fun i hi => notN (en i hi), fstE_none fun i hi => notN (tl i hi)]
    rfl
structure TkR (W : Wd) (t : Run) : Prop where
  reg : regFar t = false
  pc : 0 ≤ t.pc ∧ t.pc ≤ 65535
  word : 0 ≤ t.word ∧ t.word ≤ 65535
  badge : 0 ≤ t.badge ∧ t.badge ≤ 65535
  st : 0 ≤ t.st ∧ t.st ≤ 6
  prio : 0 ≤ t.prio ∧ t.prio ≤ 3
  core : 0 ≤ t.core ∧ t.core < W.nCores
  dom : 0 ≤ t.dom ∧ t.dom ≤ 3
  node : -1 ≤ t.node ∧ t.node < W.nKinds
  space : -1 ≤ t.space ∧ t.space < W.nKinds
  helper : -1 ≤ t.helper ∧ t.helper < W.nKinds
  loc : -1 ≤ t.loc ∧ t.loc < W.nKinds
  owes : -1 ≤ t.owes ∧ t.owes < W.nKinds
structure Inv (L : Nat) (W : Wd) : Prop where
  z : Szd W
  ram : ∀ i, i < W.nRam → isW (W.ram i)
  kd : ∀ i, i < W.nKinds → 0 ≤ W.kinds i ∧ W.kinds i ≤ 8
  dm : ∀ i, i < W.nDoms → 0 ≤ W.doms i ∧ W.doms i ≤ 3
  sl : ∀ i, i < W.nSlots → slNo (W.slots i) = 0 ∧ ((W.slots i).kind ≠ 0 → (W.slots i).base + (W.slots i).len ≤ W.nKinds) ∧ -1 ≤ (W.slots i).from_ ∧ (W.slots i).from_ < W.nSlots
  tk : ∀ i, i < W.nTasks → TkR W (W.tasks i)
  ln : ∀ i, i < W.nLines → W.linesN i ≤ L ∧ ∀ k, k < W.linesN i → 0 ≤ W.lines i k ∧ W.lines i k < W.nTasks
  rd : ∀ i, i < W.nReady → W.readyN i ≤ L ∧ ∀ k, k < W.readyN i → 0 ≤ W.ready i k ∧ W.ready i k < W.nTasks
  co : ∀ c, c < W.nCores → -1 ≤ W.cores c ∧ W.cores c < W.nTasks
  bt : ∀ i, i < W.nBits → 0 ≤ W.bits i ∧ W.bits i ≤ 65535
  tl : ∀ c, c < W.nTlbs → W.tlbsN c ≤ L
theorem farB_in {v m : Int} (h : farB v m = false) : 0 ≤ v ∧ v ≤ m := by
  unfold farB at h
  simp only [Bool.or_eq_false_iff, decide_eq_false_iff_not] at h
  omega
theorem snd_pre {W : Wd} (h : Snd W) : W.nSlots ≤ 100000 ∧ W.nSlots ≤ W.nKinds * 16 := by
  have hz := h.z
  have h1 := hz.k1
  have h2 := hz.slots
  omega
end Go.Proofs.YtdjilaofmdhikaaGreatDoor
set_option linter.unusedVariables false
set_option linter.unusedSimpArgs false
set_option maxRecDepth 100000
namespace Go.Proofs.YtdjilaofmdhikaaGreatDoor
open Go.RowKit Go.Sy
structure X_is where
  (e a x y : Int)
def s_is : Sy.Spec := ⟨X_is, fun ⟨e, a, x, y⟩ => [.er 35 116 e a, .ag 2 (lsv [.v (.int .i64 x), .v (.int .i64 y)])], fun _ => [], fun _ => True, fun ⟨e, a, x, y⟩ => .v (.bool (e == x && a == y)), fun _ => [],
  fun args mem => match args with | [a0, a1] => some ⟨erE a0, erA a0, intD (agD a1 0), intD (agD a1 1)⟩ | _ => none⟩
def c_is : Con := ⟨[], s_is.g, none⟩
def V_is : X_is → Prop := fun ⟨e, a, x, y⟩ => True∧(((e=e∧a=a)∧True)∧True∧True)∧cond (e==x) (a==y) false=(e==x&&a==y)∧True
theorem ok_is : FnOK Tryz.prog glE 27 c_is := ok_of (.cons ok_tell .nil) false Tryz.call27 Tryz.func27 (fun _ => []) (V := V_is) (fun _ => by kernel_rfl) fun ⟨e, a, x, y⟩ hp => by
  dsimp only [V_is, tn, w64]
  exact ⟨trivial, by simp, by cases e == x <;> rfl, trivial⟩
end Go.Proofs.YtdjilaofmdhikaaGreatDoor
