/- Bells. -/
import Derived.Test.YtdjilaofmdhikaaGreatDoorYL
set_option linter.unusedVariables false
set_option linter.unusedSimpArgs false
set_option linter.unusedVariables false
set_option linter.unusedSimpArgs false
set_option maxRecDepth 100000
namespace Go.Proofs.YtdjilaofmdhikaaGreatDoor
open Go.RowKit Go.Sy
theorem WkP.of {W W' : Wd} {t : Int} (h : WkP W t) (e1 : W'.nTasks = W.nTasks) (e2 : W'.nReady = W.nReady) (e3 : W'.readyN = W.readyN) (e4 : (W'.tasks t.toNat).core = (W.tasks t.toNat).core) (e5 : (W'.tasks t.toNat).prio = (W.tasks t.toNat).prio) : WkP W' t := by
  obtain ⟨t0, t1, r0, r1, c0, c1, p0, p1, n⟩ := h
  have ez : rkZ (W'.tasks t.toNat) = rkZ (W.tasks t.toNat) := by unfold rkZ; rw [e4, e5]
  exact ⟨t0, by rw [e1]; exact t1, by rw [ez]; exact r0, by rw [ez, e2]; exact r1, by rw [e4]; exact c0, by rw [e4]; exact c1, by rw [e5]; exact p0, by rw [e5]; exact p1, by unfold rkOf; rw [ez, e3]; exact n⟩
theorem OfP.of {W W' : Wd} {t : Int} (h : OfP W t) (e1 : W'.nTasks = W.nTasks) (e2 : W'.nCores = W.nCores) (e3 : W'.cores = W.cores) (e4 : (W'.tasks t.toNat).core = (W.tasks t.toNat).core) : OfP W' t := by
  obtain ⟨t0, t1, c0, c1, u⟩ := h
  exact ⟨t0, by rw [e1]; exact t1, by rw [e4]; exact c0, by rw [e4, e2]; exact c1, by rw [e2, e3, e4]; exact u⟩
theorem frt_p {W : Wd} {a i : Nat} {b : Bool} (p : Run → Int) (h : ∀ r : Run, p { r with loc := -1 } = p r) : p ((frtW W a b).tasks i) = p (W.tasks i) := by
  show p (frtS W a b i) = _
  unfold frtS
  cases b
  · rfl
  · exact updF_cp p (h _)
theorem han_p {W : Wd} {t i : Nat} {b g : Int} (p : Run → Int) (h : ∀ r : Run, p { r with r1 := b, r2 := g } = p r) : p ((hanW W t b g).tasks i) = p (W.tasks i) := updF_cp p (h _)
theorem WkP.frt {W : Wd} {t : Int} {a : Nat} {b : Bool} (h : WkP W t) : WkP (frtW W a b) t := h.of rfl rfl rfl (frt_p Run.core fun _ => rfl) (frt_p Run.prio fun _ => rfl)
theorem WkP.han {W : Wd} {t : Int} {u : Nat} {b g : Int} (h : WkP W t) : WkP (hanW W u b g) t := h.of rfl rfl rfl (han_p Run.core fun _ => rfl) (han_p Run.prio fun _ => rfl)
theorem OfP.frt {W : Wd} {t : Int} {a : Nat} {b : Bool} (h : OfP W t) : OfP (frtW W a b) t := h.of rfl rfl rfl (frt_p Run.core fun _ => rfl)
theorem OfP.han {W : Wd} {t : Int} {u : Nat} {b g : Int} (h : OfP W t) : OfP (hanW W u b g) t := h.of rfl rfl rfl (han_p Run.core fun _ => rfl)
def orI (a b : Int) : Int := (bitw 7 a.toNat b.toNat : Nat)
def rgS (W : Wd) (b : Nat) (g : Int) (i : Nat) : Int := updF W.bits b (orI (W.bits b) g) i
def rngW_tasks (W : Wd) (b : Nat) (g : Int) (i : Nat) : Run := bif W.linesN b == 0 then ({ W with bits := rgS W b g }).tasks i else (wokW (hanW (frtW W b true) (W.lines b 0).toNat 0 g) (W.lines b 0).toNat).tasks i
def rngW_linesN (W : Wd) (b : Nat) (g : Int) (i : Nat) : Nat := bif W.linesN b == 0 then ({ W with bits := rgS W b g }).linesN i else (wokW (hanW (frtW W b true) (W.lines b 0).toNat 0 g) (W.lines b 0).toNat).linesN i
def rngW_lines (W : Wd) (b : Nat) (g : Int) (i k : Nat) : Int := bif W.linesN b == 0 then ({ W with bits := rgS W b g }).lines i k else (wokW (hanW (frtW W b true) (W.lines b 0).toNat 0 g) (W.lines b 0).toNat).lines i k
def rngW_bits (W : Wd) (b : Nat) (g : Int) (i : Nat) : Int := bif W.linesN b == 0 then ({ W with bits := rgS W b g }).bits i else (wokW (hanW (frtW W b true) (W.lines b 0).toNat 0 g) (W.lines b 0).toNat).bits i
def rngW_readyN (W : Wd) (b : Nat) (g : Int) (i : Nat) : Nat := bif W.linesN b == 0 then ({ W with bits := rgS W b g }).readyN i else (wokW (hanW (frtW W b true) (W.lines b 0).toNat 0 g) (W.lines b 0).toNat).readyN i
def rngW_ready (W : Wd) (b : Nat) (g : Int) (i k : Nat) : Int := bif W.linesN b == 0 then ({ W with bits := rgS W b g }).ready i k else (wokW (hanW (frtW W b true) (W.lines b 0).toNat 0 g) (W.lines b 0).toNat).ready i k
def rngW (W : Wd) (b : Nat) (g : Int) : Wd := { W with tasks := rngW_tasks W b g, linesN := rngW_linesN W b g, lines := rngW_lines W b g, bits := rngW_bits W b g, readyN := rngW_readyN W b g, ready := rngW_ready W b g }
theorem rngW_t {W : Wd} {b : Nat} {g : Int} (h : (W.linesN b == 0) = true) : rngW W b g = { W with bits := rgS W b g } := by
  have e_tasks : rngW_tasks W b g = ({ W with bits := rgS W b g }).tasks := by
    funext i
    unfold rngW_tasks
    rw [h]
    rfl
  have e_linesN : rngW_linesN W b g = ({ W with bits := rgS W b g }).linesN := by
    funext i
    unfold rngW_linesN
    rw [h]
    rfl
  have e_lines : rngW_lines W b g = ({ W with bits := rgS W b g }).lines := by
    funext i k
    unfold rngW_lines
    rw [h]
    rfl
  have e_bits : rngW_bits W b g = ({ W with bits := rgS W b g }).bits := by
    funext i
    unfold rngW_bits
    rw [h]
    rfl
  have e_readyN : rngW_readyN W b g = ({ W with bits := rgS W b g }).readyN := by
    funext i
    unfold rngW_readyN
    rw [h]
    rfl
  have e_ready : rngW_ready W b g = ({ W with bits := rgS W b g }).ready := by
    funext i k
    unfold rngW_ready
    rw [h]
    rfl
  show ({ W with tasks := rngW_tasks W b g, linesN := rngW_linesN W b g, lines := rngW_lines W b g, bits := rngW_bits W b g, readyN := rngW_readyN W b g, ready := rngW_ready W b g } : Wd) = _
  rw [e_tasks, e_linesN, e_lines, e_bits, e_readyN, e_ready] <;> rfl
theorem rngW_f {W : Wd} {b : Nat} {g : Int} (h : (W.linesN b == 0) = false) : rngW W b g = wokW (hanW (frtW W b true) (W.lines b 0).toNat 0 g) (W.lines b 0).toNat := by
  have e_tasks : rngW_tasks W b g = (wokW (hanW (frtW W b true) (W.lines b 0).toNat 0 g) (W.lines b 0).toNat).tasks := by
    funext i
    unfold rngW_tasks
    rw [h]
    rfl
  have e_linesN : rngW_linesN W b g = (wokW (hanW (frtW W b true) (W.lines b 0).toNat 0 g) (W.lines b 0).toNat).linesN := by
    funext i
    unfold rngW_linesN
    rw [h]
    rfl
  have e_lines : rngW_lines W b g = (wokW (hanW (frtW W b true) (W.lines b 0).toNat 0 g) (W.lines b 0).toNat).lines := by
    funext i k
    unfold rngW_lines
    rw [h]
    rfl
  have e_bits : rngW_bits W b g = (wokW (hanW (frtW W b true) (W.lines b 0).toNat 0 g) (W.lines b 0).toNat).bits := by
    funext i
    unfold rngW_bits
    rw [h]
    rfl
  have e_readyN : rngW_readyN W b g = (wokW (hanW (frtW W b true) (W.lines b 0).toNat 0 g) (W.lines b 0).toNat).readyN := by
    funext i
    unfold rngW_readyN
    rw [h]
    rfl
  have e_ready : rngW_ready W b g = (wokW (hanW (frtW W b true) (W.lines b 0).toNat 0 g) (W.lines b 0).toNat).ready := by
    funext i k
    unfold rngW_ready
    rw [h]
    rfl
  show ({ W with tasks := rngW_tasks W b g, linesN := rngW_linesN W b g, lines := rngW_lines W b g, bits := rngW_bits W b g, readyN := rngW_readyN W b g, ready := rngW_ready W b g } : Wd) = _
  rw [e_tasks, e_linesN, e_lines, e_bits, e_readyN, e_ready] <;> rfl
def heS (W : Wd) (b i : Nat) : Int := updF W.bits b 0 i
def herW_tasks (W : Wd) (t b : Int) (i : Nat) : Run := bif W.bits b.toNat == 0 then (stdW W t b 6).tasks i else ({ hanW W t.toNat 0 (W.bits b.toNat) with bits := heS W b.toNat }).tasks i
def herW_linesN (W : Wd) (t b : Int) (i : Nat) : Nat := bif W.bits b.toNat == 0 then (stdW W t b 6).linesN i else ({ hanW W t.toNat 0 (W.bits b.toNat) with bits := heS W b.toNat }).linesN i
def herW_lines (W : Wd) (t b : Int) (i k : Nat) : Int := bif W.bits b.toNat == 0 then (stdW W t b 6).lines i k else ({ hanW W t.toNat 0 (W.bits b.toNat) with bits := heS W b.toNat }).lines i k
def herW_bits (W : Wd) (t b : Int) (i : Nat) : Int := bif W.bits b.toNat == 0 then (stdW W t b 6).bits i else ({ hanW W t.toNat 0 (W.bits b.toNat) with bits := heS W b.toNat }).bits i
def herW_cores (W : Wd) (t b : Int) (i : Nat) : Int := bif W.bits b.toNat == 0 then (stdW W t b 6).cores i else ({ hanW W t.toNat 0 (W.bits b.toNat) with bits := heS W b.toNat }).cores i
def herW (W : Wd) (t b : Int) : Wd := { W with tasks := herW_tasks W t b, linesN := herW_linesN W t b, lines := herW_lines W t b, bits := herW_bits W t b, cores := herW_cores W t b }
theorem herW_t {W : Wd} {t b : Int} (h : (W.bits b.toNat == 0) = true) : herW W t b = stdW W t b 6 := by
  have e_tasks : herW_tasks W t b = (stdW W t b 6).tasks := by
    funext i
    unfold herW_tasks
    rw [h]
    rfl
  have e_linesN : herW_linesN W t b = (stdW W t b 6).linesN := by
    funext i
    unfold herW_linesN
    rw [h]
    rfl
  have e_lines : herW_lines W t b = (stdW W t b 6).lines := by
    funext i k
    unfold herW_lines
    rw [h]
    rfl
  have e_bits : herW_bits W t b = (stdW W t b 6).bits := by
    funext i
    unfold herW_bits
    rw [h]
    rfl
  have e_cores : herW_cores W t b = (stdW W t b 6).cores := by
    funext i
    unfold herW_cores
    rw [h]
    rfl
  show ({ W with tasks := herW_tasks W t b, linesN := herW_linesN W t b, lines := herW_lines W t b, bits := herW_bits W t b, cores := herW_cores W t b } : Wd) = _
  rw [e_tasks, e_linesN, e_lines, e_bits, e_cores] <;> rfl
theorem herW_f {W : Wd} {t b : Int} (h : (W.bits b.toNat == 0) = false) : herW W t b = { hanW W t.toNat 0 (W.bits b.toNat) with bits := heS W b.toNat } := by
  have e_tasks : herW_tasks W t b = ({ hanW W t.toNat 0 (W.bits b.toNat) with bits := heS W b.toNat }).tasks := by
    funext i
    unfold herW_tasks
    rw [h]
    rfl
  have e_linesN : herW_linesN W t b = ({ hanW W t.toNat 0 (W.bits b.toNat) with bits := heS W b.toNat }).linesN := by
    funext i
    unfold herW_linesN
    rw [h]
    rfl
  have e_lines : herW_lines W t b = ({ hanW W t.toNat 0 (W.bits b.toNat) with bits := heS W b.toNat }).lines := by
    funext i k
    unfold herW_lines
    rw [h]
    rfl
  have e_bits : herW_bits W t b = ({ hanW W t.toNat 0 (W.bits b.toNat) with bits := heS W b.toNat }).bits := by
    funext i
    unfold herW_bits
    rw [h]
    rfl
  have e_cores : herW_cores W t b = ({ hanW W t.toNat 0 (W.bits b.toNat) with bits := heS W b.toNat }).cores := by
    funext i
    unfold herW_cores
    rw [h]
    rfl
  show ({ W with tasks := herW_tasks W t b, linesN := herW_linesN W t b, lines := herW_lines W t b, bits := herW_bits W t b, cores := herW_cores W t b } : Wd) = _
  rw [e_tasks, e_linesN, e_lines, e_bits, e_cores] <;> rfl
structure BlP (W : Wd) (b : Int) : Prop where
  l : LnP W b
  b1 : b < W.nBits
  bt : 0 ≤ W.bits b.toNat ∧ W.bits b.toNat ≤ 65535
  f : 0 < W.linesN b.toNat → WkP W (W.lines b.toNat 0) ∧ (W.tasks (W.lines b.toNat 0).toNat).st = 6
structure X_hearR where
  (t b : Int) (W : Wd)
def s_hearR : Sy.Spec := ⟨X_hearR, fun ⟨t, b, _⟩ => [.ptr 0 0 none 0 0, .v (.int .i64 t), .v (.int .i64 b)], fun ⟨_, _, W⟩ => wMem W, fun ⟨t, b, W⟩ => OfP W t ∧ BlP W b ∧ W.nCores ≤ 100000, fun _ => .tp 0 (lsv []), fun ⟨t, b, W⟩ => wMem (herW W t b),
  fun args mem => match args with | [a0, a1, a2] => some ⟨intD (a1), intD (a2), wMJD mem 0⟩ | _ => none⟩
def c_hearR : Con := ⟨[true], s_hearR.g, none⟩
def V_hearR : X_hearR → Prop := fun ⟨t, b, W⟩ => let a0:=W.nBits;let b0:=0≤b∧b<(a0:Int);let c0:=Int.toNat b;let d0:=W.bits (0+c0)==0;let e0:=SV.ptr 0 0 none 0 0=SV.ptr 0 0 none 0 0;let g0:=0=0;let h0:=W.nRam=W.nRam;let k0:=W.nKinds;let l0:=k0=k0;let o0:=W.nSlots;let q0:=o0=o0;let u0:=W.nTasks;let v0:=u0=u0;let w0:=W.nLines;let x0:=w0=w0;let y0:=a0=a0;let z0:=W.nCores;let a1:=z0=z0;let b1:=W.nReady;let c1:=b1=b1;let d1:=W.nTlbs=W.nTlbs;let e1:=W.nDoms=W.nDoms;let g1:=((((((((((True∧g0∧h0)∧g0∧l0)∧g0∧q0)∧g0∧v0)∧g0∧x0)∧g0∧y0)∧g0∧a1)∧g0∧c1)∧g0∧d1)∧g0∧e1)∧W.time=W.time;let h1:=h0∧(∀k1:Nat,k1<W.nRam→True∧W.ram k1=W.ram k1);let l1:=l0∧(∀o1:Nat,o1<k0→True∧W.kinds o1=W.kinds o1);let q1:=q0∧(∀u1:Nat,let v1:=W.slots u1;let w1:=v1.kind;let x1:=v1.base;let y1:=v1.len;let z1:=v1.mark;let a2:=v1.rights;let b2:=v1.badge;let c2:=v1.from_;u1<o0→((((((True∧w1=w1)∧x1=x1)∧y1=y1)∧z1=z1)∧a2=a2)∧b2=b2)∧c2=c2);let d2:=(c1∧(∀e2:Nat,let g2:=W.readyN e2;e2<b1→True∧g2=g2∧(∀h2:Nat,h2<g2→True∧W.ready e2 h2=W.ready e2 h2)))∧(d1∧(∀k2:Nat,let l2:=W.tlbsN k2;k2<W.nTlbs→True∧l2=l2∧(∀o2:Nat,let q2:=W.tlbs k2 o2;let u2:=q2.sp;let v2:=q2.pg;let w2:=q2.fr;let x2:=q2.wr;o2<l2→(((True∧u2=u2)∧v2=v2)∧w2=w2)∧x2=x2)))∧(e1∧(∀y2:Nat,y2<W.nDoms→True∧W.doms y2=W.doms y2))∧True;
    let z2:=g1∧h1∧l1∧q1∧(v0∧(∀a3:Nat,let b3:=W.tasks a3;let c3:=b3.prio;let d3:=b3.node;let e3:=b3.space;let g3:=b3.helper;let h3:=b3.loc;let k3:=b3.word;let l3:=b3.badge;let o3:=b3.owes;let q3:=b3.core;let u3:=b3.dom;a3<u0→(((((((((((((((((((True∧b3.r0=b3.r0)∧b3.r1=b3.r1)∧b3.r2=b3.r2)∧b3.r3=b3.r3)∧b3.r4=b3.r4)∧b3.r5=b3.r5)∧b3.r6=b3.r6)∧b3.r7=b3.r7)∧b3.pc=b3.pc)∧b3.st=b3.st)∧c3=c3)∧d3=d3)∧e3=e3)∧g3=g3)∧h3=h3)∧k3=k3)∧l3=l3)∧o3=o3)∧q3=q3)∧u3=u3))∧(x0∧(∀v3:Nat,let w3:=W.linesN v3;v3<w0→True∧w3=w3∧(∀x3:Nat,x3<w3→True∧W.lines v3 x3=W.lines v3 x3)))∧(y0∧(∀y3:Nat,y3<a0→True∧W.bits y3=W.bits y3))∧(a1∧(∀z3:Nat,z3<z0→True∧W.cores z3=W.cores z3))∧d2;let a4:=t<(u0:Int);let b4:=Int.toNat t;let c4:=W.bits (0+c0);b0∧(d0=true→((e0∧t=t∧b=b∧(6:Int)=6∧True)∧z2∧0≤t∧a4∧LnP W b∧z0≤100000)∧True∧g1∧h1∧l1∧q1∧(v0∧(∀d4:Nat,let e4:=sdS W b4 b 6 d4;let g4:=herW_tasks W t b d4;d4<u0→(((((((((((((((((((True∧e4.r0=g4.r0)∧e4.r1=g4.r1)∧e4.r2=g4.r2)∧e4.r3=g4.r3)∧e4.r4=g4.r4)∧e4.r5=g4.r5)∧e4.r6=g4.r6)∧e4.r7=g4.r7)∧e4.pc=g4.pc)∧e4.st=g4.st)∧e4.prio=g4.prio)∧e4.node=g4.node)∧e4.space=g4.space)∧e4.helper=g4.helper)∧e4.loc=g4.loc)∧e4.word=g4.word)∧e4.badge=g4.badge)∧e4.owes=g4.owes)∧e4.core=g4.core)∧e4.dom=g4.dom))∧(x0∧(∀h4:Nat,let k4:=herW_linesN W t b h4;h4<w0→True∧sdN W c0 h4=k4∧(∀l4:Nat,l4<k4→True∧sdL W t c0 h4 l4=herW_lines W t b h4 l4)))∧(y0∧(∀o4:Nat,o4<a0→True∧W.bits o4=herW_bits W t b o4))∧(a1∧(∀q4:Nat,q4<z0→True∧ofC W t q4=herW_cores W t b q4))∧d2)∧(d0=false→b0∧((e0∧t=t∧(0:Int)=0∧c4=c4∧True)∧z2∧0≤t∧a4)∧b0∧
    (∀u4:Nat,false=false)∧True∧g1∧h1∧l1∧q1∧(v0∧(∀v4:Nat,let w4:=hnS W b4 0 c4 v4;let x4:=herW_tasks W t b v4;v4<u0→(((((((((((((((((((True∧w4.r0=x4.r0)∧w4.r1=x4.r1)∧w4.r2=x4.r2)∧w4.r3=x4.r3)∧w4.r4=x4.r4)∧w4.r5=x4.r5)∧w4.r6=x4.r6)∧w4.r7=x4.r7)∧w4.pc=x4.pc)∧w4.st=x4.st)∧w4.prio=x4.prio)∧w4.node=x4.node)∧w4.space=x4.space)∧w4.helper=x4.helper)∧w4.loc=x4.loc)∧w4.word=x4.word)∧w4.badge=x4.badge)∧w4.owes=x4.owes)∧w4.core=x4.core)∧w4.dom=x4.dom))∧(x0∧(∀y4:Nat,let z4:=herW_linesN W t b y4;y4<w0→True∧W.linesN y4=z4∧(∀a5:Nat,a5<z4→True∧W.lines y4 a5=herW_lines W t b y4 a5)))∧(y0∧(∀b5:Nat,b5<a0→True∧cond (Nat.beq b5 (0+c0)) 0 (W.bits b5)=herW_bits W t b b5))∧(a1∧(∀c5:Nat,c5<z0→True∧W.cores c5=herW_cores W t b c5))∧d2)
set_option maxHeartbeats 1000000 in
theorem ok_hearR : FnOK Tryz.prog glN 47 c_hearR := ok_of (.cons ok_stands (.cons ok_handed .nil)) false Tryz.call47 Tryz.func47 (fun _ => []) (V := V_hearR) (fun _ => by kernel_rfl) fun ⟨t, b, W⟩ hp => by
  dsimp only [s_hearR] at hp
  dsimp only [V_hearR, tn, w64]
  simp only [std, stb, eq_self, implies_true, Bool.cond_self]
  try simp only [wd_eta]
  obtain ⟨ho, ⟨hl, b1, bt, hf⟩, hc⟩ := hp
  have b0 := hl.a0
  refine ⟨⟨b0, b1⟩, fun h => ⟨⟨ho.t0, ho.t1, hl, hc⟩, ?_⟩, fun h => ⟨⟨b0, b1⟩, ⟨ho.t0, ho.t1⟩, ⟨b0, b1⟩, ?_⟩⟩
  · skip
    have e_ := herW_t (t := t) h
    have e_tasks : herW_tasks W t b = _ := congrArg Wd.tasks e_
    have e_linesN : herW_linesN W t b = _ := congrArg Wd.linesN e_
    have e_lines : herW_lines W t b = _ := congrArg Wd.lines e_
    have e_bits : herW_bits W t b = _ := congrArg Wd.bits e_
    have e_cores : herW_cores W t b = _ := congrArg Wd.cores e_
    simp only [e_tasks, e_linesN, e_lines, e_bits, e_cores]
    clear e_ e_tasks e_linesN e_lines e_bits e_cores
    repeat' (first | exact trivial | exact run20 rfl | rfl | refine And.intro ?_ ?_ | intro _ | fail)
  · skip
    have e_ := herW_f (t := t) h
    have e_tasks : herW_tasks W t b = _ := congrArg Wd.tasks e_
    have e_linesN : herW_linesN W t b = _ := congrArg Wd.linesN e_
    have e_lines : herW_lines W t b = _ := congrArg Wd.lines e_
    have e_bits : herW_bits W t b = _ := congrArg Wd.bits e_
    have e_cores : herW_cores W t b = _ := congrArg Wd.cores e_
    simp only [e_tasks, e_linesN, e_lines, e_bits, e_cores]
    clear e_ e_tasks e_linesN e_lines e_bits e_cores
    repeat' (first | exact trivial | exact run20 rfl | rfl | refine And.intro ?_ ?_ | intro _ | fail)
structure X_hearP where
  (t b : Int) (W : Wd)
def s_hearP : Sy.Spec := ⟨X_hearP, fun ⟨t, b, _⟩ => [.ptr 0 0 none 0 0, .v (.int .i64 t), .v (.int .i64 b)], fun ⟨_, _, W⟩ => wMem W, fun ⟨t, b, W⟩ => OfP W t ∧ BlP W b ∧ W.nCores ≤ 100000, fun _ => .tp 0 (lsv []), fun ⟨t, b, W⟩ => wMem (herW W t b),
  fun args mem => match args with | [a0, a1, a2] => some ⟨intD (a1), intD (a2), wMJD mem 0⟩ | _ => none⟩
def c_hearP : Con := ⟨[true], s_hearP.g, none⟩
def V_hearP : X_hearP → Prop := fun ⟨t, b, W⟩ => let a0:=W.nBits;let b0:=0≤b∧b<(a0:Int);let c0:=Int.toNat b;let d0:=W.bits (0+c0);let e0:=d0 !=0;let g0:=SV.ptr 0 0 none 0 0=SV.ptr 0 0 none 0 0;let h0:=0=0;let k0:=W.nRam;let l0:=k0=k0;let o0:=W.nKinds;let q0:=o0=o0;let u0:=W.nSlots;let v0:=u0=u0;let w0:=W.nTasks;let x0:=w0=w0;let y0:=W.nLines;let z0:=y0=y0;let a1:=a0=a0;let b1:=W.nCores;let c1:=b1=b1;let d1:=W.nReady;let e1:=d1=d1;let g1:=W.nTlbs;let h1:=g1=g1;let k1:=W.nDoms;let l1:=k1=k1;let o1:=((((((((((True∧h0∧l0)∧h0∧q0)∧h0∧v0)∧h0∧x0)∧h0∧z0)∧h0∧a1)∧h0∧c1)∧h0∧e1)∧h0∧h1)∧h0∧l1)∧W.time=W.time;let q1:=l0∧(∀u1:Nat,u1<k0→True∧W.ram u1=W.ram u1);let v1:=q0∧(∀w1:Nat,w1<o0→True∧W.kinds w1=W.kinds w1);let x1:=v0∧(∀y1:Nat,let z1:=W.slots y1;let a2:=z1.kind;let b2:=z1.base;let c2:=z1.len;let d2:=z1.mark;let e2:=z1.rights;let g2:=z1.badge;let h2:=z1.from_;y1<u0→((((((True∧a2=a2)∧b2=b2)∧c2=c2)∧d2=d2)∧e2=e2)∧g2=g2)∧h2=h2);let k2:=x0∧(∀l2:Nat,let o2:=W.tasks l2;let q2:=o2.prio;let u2:=o2.node;let v2:=o2.space;let w2:=o2.helper;let x2:=o2.loc;let y2:=o2.word;let z2:=o2.badge;let a3:=o2.owes;let b3:=o2.core;let c3:=o2.dom;l2<w0→(((((((((((((((((((True∧o2.r0=o2.r0)∧o2.r1=o2.r1)∧o2.r2=o2.r2)∧o2.r3=o2.r3)∧o2.r4=o2.r4)∧o2.r5=o2.r5)∧o2.r6=o2.r6)∧o2.r7=o2.r7)∧o2.pc=o2.pc)∧o2.st=o2.st)∧q2=q2)∧u2=u2)∧v2=v2)∧w2=w2)∧x2=x2)∧y2=y2)∧z2=z2)∧a3=a3)∧b3=b3)∧c3=c3);let d3:=z0∧(∀e3:Nat,let g3:=W.linesN e3;e3<y0→True∧g3=g3∧(∀h3:Nat,h3<g3→True∧W.lines e3 h3=W.lines e3 h3));let k3:=0+c0;
    let l3:=(e1∧(∀o3:Nat,let q3:=W.readyN o3;o3<d1→True∧q3=q3∧(∀u3:Nat,u3<q3→True∧W.ready o3 u3=W.ready o3 u3)))∧(h1∧(∀v3:Nat,let w3:=W.tlbsN v3;v3<g1→True∧w3=w3∧(∀x3:Nat,let y3:=W.tlbs v3 x3;let z3:=y3.sp;let a4:=y3.pg;let b4:=y3.fr;let c4:=y3.wr;x3<w3→(((True∧z3=z3)∧a4=a4)∧b4=b4)∧c4=c4)))∧(l1∧(∀d4:Nat,d4<k1→True∧W.doms d4=W.doms d4))∧True;let e4:=(c1∧(∀g4:Nat,g4<b1→True∧W.cores g4=W.cores g4))∧l3;let h4:=Wd.mk k0 W.ram o0 W.kinds u0 W.slots w0 W.tasks y0 W.linesN W.lines a0 (fun k4:Nat=>cond (Nat.beq k4 k3) 0 (W.bits k4)) b1 W.cores d1 W.readyN W.ready g1 W.tlbsN W.tlbs k1 W.doms W.time;let l4:=Int.toNat t;b0∧(e0=true→b0∧(∀o4:Nat,false=false)∧((g0∧t=t∧(0:Int)=0∧d0=d0∧True)∧(o1∧q1∧v1∧x1∧k2∧d3∧(a1∧(∀q4:Nat,let u4:Int:=cond (Nat.beq q4 k3) 0 (W.bits q4);q4<a0→True∧u4=u4))∧e4)∧0≤t∧t<(w0:Int))∧True∧o1∧q1∧v1∧x1∧(x0∧(∀v4:Nat,let w4:=hnS h4 l4 0 d0 v4;let x4:=herW_tasks W t b v4;v4<w0→(((((((((((((((((((True∧w4.r0=x4.r0)∧w4.r1=x4.r1)∧w4.r2=x4.r2)∧w4.r3=x4.r3)∧w4.r4=x4.r4)∧w4.r5=x4.r5)∧w4.r6=x4.r6)∧w4.r7=x4.r7)∧w4.pc=x4.pc)∧w4.st=x4.st)∧w4.prio=x4.prio)∧w4.node=x4.node)∧w4.space=x4.space)∧w4.helper=x4.helper)∧w4.loc=x4.loc)∧w4.word=x4.word)∧w4.badge=x4.badge)∧w4.owes=x4.owes)∧w4.core=x4.core)∧w4.dom=x4.dom))∧(z0∧(∀y4:Nat,let z4:=herW_linesN W t b y4;y4<y0→True∧W.linesN y4=z4∧(∀a5:Nat,a5<z4→True∧W.lines y4 a5=herW_lines W t b y4 a5)))∧(a1∧(∀b5:Nat,b5<a0→True∧cond (Nat.beq b5 k3) 0 (W.bits b5)=herW_bits W t b b5))∧(c1∧(∀c5:Nat,c5<b1→True∧W.cores c5=herW_cores W t b c5))∧l3)∧(e0=false→
    ((g0∧t=t∧b=b∧(6:Int)=6∧True)∧(o1∧q1∧v1∧x1∧k2∧d3∧(a1∧(∀d5:Nat,d5<a0→True∧W.bits d5=W.bits d5))∧e4)∧OfP W t∧LnP W b)∧True∧o1∧q1∧v1∧x1∧(x0∧(∀e5:Nat,let g5:=sdS W l4 b 6 e5;let h5:=herW_tasks W t b e5;e5<w0→(((((((((((((((((((True∧g5.r0=h5.r0)∧g5.r1=h5.r1)∧g5.r2=h5.r2)∧g5.r3=h5.r3)∧g5.r4=h5.r4)∧g5.r5=h5.r5)∧g5.r6=h5.r6)∧g5.r7=h5.r7)∧g5.pc=h5.pc)∧g5.st=h5.st)∧g5.prio=h5.prio)∧g5.node=h5.node)∧g5.space=h5.space)∧g5.helper=h5.helper)∧g5.loc=h5.loc)∧g5.word=h5.word)∧g5.badge=h5.badge)∧g5.owes=h5.owes)∧g5.core=h5.core)∧g5.dom=h5.dom))∧(z0∧(∀k5:Nat,let l5:=herW_linesN W t b k5;k5<y0→True∧sdN W c0 k5=l5∧(∀o5:Nat,o5<l5→True∧sdL W t c0 k5 o5=herW_lines W t b k5 o5)))∧(a1∧(∀q5:Nat,q5<a0→True∧W.bits q5=herW_bits W t b q5))∧(c1∧(∀u5:Nat,u5<b1→True∧ofC W t u5=herW_cores W t b u5))∧l3)
set_option maxHeartbeats 1000000 in
theorem ok_hearP : FnOK Tryz.prog glN 109 c_hearP := ok_of (.cons ok_wait_ (.cons ok_hand .nil)) false Tryz.call109 Tryz.func109 (fun _ => []) (V := V_hearP) (fun _ => by kernel_rfl) fun ⟨t, b, W⟩ hp => by
  dsimp only [s_hearP] at hp
  dsimp only [V_hearP, tn, w64]
  simp only [std, stb, eq_self, implies_true, Bool.cond_self]
  try simp only [wd_eta]
  obtain ⟨ho, ⟨hl, b1, bt, hf⟩, hc⟩ := hp
  have b0 := hl.a0
  refine ⟨⟨b0, b1⟩, fun h => ⟨⟨b0, b1⟩, ⟨ho.t0, ho.t1⟩, ?_⟩, fun h => ⟨⟨ho, hl⟩, ?_⟩⟩
  · have h : (W.bits b.toNat == 0) = false := by simpa using h
    have e_ := herW_f (t := t) h
    have e_tasks : herW_tasks W t b = _ := congrArg Wd.tasks e_
    have e_linesN : herW_linesN W t b = _ := congrArg Wd.linesN e_
    have e_lines : herW_lines W t b = _ := congrArg Wd.lines e_
    have e_bits : herW_bits W t b = _ := congrArg Wd.bits e_
    have e_cores : herW_cores W t b = _ := congrArg Wd.cores e_
    simp only [e_tasks, e_linesN, e_lines, e_bits, e_cores]
    clear e_ e_tasks e_linesN e_lines e_bits e_cores
    repeat' (first | exact trivial | exact run20 rfl | rfl | refine And.intro ?_ ?_ | intro _ | fail)
  · have h : (W.bits b.toNat == 0) = true := by simpa using h
    have e_ := herW_t (t := t) h
    have e_tasks : herW_tasks W t b = _ := congrArg Wd.tasks e_
    have e_linesN : herW_linesN W t b = _ := congrArg Wd.linesN e_
    have e_lines : herW_lines W t b = _ := congrArg Wd.lines e_
    have e_bits : herW_bits W t b = _ := congrArg Wd.bits e_
    have e_cores : herW_cores W t b = _ := congrArg Wd.cores e_
    simp only [e_tasks, e_linesN, e_lines, e_bits, e_cores]
    clear e_ e_tasks e_linesN e_lines e_bits e_cores
    repeat' (first | exact trivial | exact run20 rfl | rfl | refine And.intro ?_ ?_ | intro _ | fail)
structure X_ringR where
  (b g : Int) (W : Wd)
def s_ringR : Sy.Spec := ⟨X_ringR, fun ⟨b, g, _⟩ => [.ptr 0 0 none 0 0, .v (.int .i64 b), .v (.int .i64 g)], fun ⟨_, _, W⟩ => wMem W, fun ⟨b, g, W⟩ => BlP W b ∧ 0 ≤ g ∧ g ≤ 65535, fun _ => .tp 0 (lsv []), fun ⟨b, g, W⟩ => wMem (rngW W b.toNat g),
  fun args mem => match args with | [a0, a1, a2] => some ⟨intD (a1), intD (a2), wMJD mem 0⟩ | _ => none⟩
def c_ringR : Con := ⟨[true], s_ringR.g, none⟩
def V_ringR : X_ringR → Prop := fun ⟨b, g, W⟩ => let a0:=W.nLines;let b0:=Int.toNat b;let c0:=((W.linesN (0+b0):Nat):Int);let d0:=c0==0;let e0:=W.nBits;let g0:=0≤b∧b<(e0:Int);let h0:=W.bits (0+b0);let k0:=0=0;let l0:=W.nRam=W.nRam;let o0:=W.nKinds;let q0:=o0=o0;let u0:=W.nSlots;let v0:=u0=u0;let w0:=W.nTasks;let x0:=w0=w0;let y0:=a0=a0;let z0:=e0=e0;let a1:=W.nCores;let b1:=a1=a1;let c1:=W.nReady;let d1:=c1=c1;let e1:=W.nTlbs=W.nTlbs;let g1:=W.nDoms=W.nDoms;let h1:=((((((((((True∧k0∧l0)∧k0∧q0)∧k0∧v0)∧k0∧x0)∧k0∧y0)∧k0∧z0)∧k0∧b1)∧k0∧d1)∧k0∧e1)∧k0∧g1)∧W.time=W.time;let k1:=l0∧(∀l1:Nat,l1<W.nRam→True∧W.ram l1=W.ram l1);let o1:=q0∧(∀q1:Nat,q1<o0→True∧W.kinds q1=W.kinds q1);let u1:=v0∧(∀v1:Nat,let w1:=W.slots v1;let x1:=w1.kind;let y1:=w1.base;let z1:=w1.len;let a2:=w1.mark;let b2:=w1.rights;let c2:=w1.badge;let d2:=w1.from_;v1<u0→((((((True∧x1=x1)∧y1=y1)∧z1=z1)∧a2=a2)∧b2=b2)∧c2=c2)∧d2=d2);let e2:=b1∧(∀g2:Nat,g2<a1→True∧W.cores g2=W.cores g2);let h2:=(e1∧(∀k2:Nat,let l2:=W.tlbsN k2;k2<W.nTlbs→True∧l2=l2∧(∀o2:Nat,let q2:=W.tlbs k2 o2;let u2:=q2.sp;let v2:=q2.pg;let w2:=q2.fr;let x2:=q2.wr;o2<l2→(((True∧u2=u2)∧v2=v2)∧w2=w2)∧x2=x2)))∧(g1∧(∀y2:Nat,y2<W.nDoms→True∧W.doms y2=W.doms y2))∧True;let z2:=SV.ptr 0 0 none 0 0=SV.ptr 0 0 none 0 0;let a3:=(z0∧(∀b3:Nat,b3<e0→True∧W.bits b3=W.bits b3))∧e2∧(d1∧(∀c3:Nat,let d3:=W.readyN c3;c3<c1→True∧d3=d3∧(∀e3:Nat,e3<d3→True∧W.ready c3 e3=W.ready c3 e3)))∧h2;let g3:=fntB W b0 (fun h3:Int=>(h3==4)==false);let k3:=frtI W b0 g3;let l3:=k3=k3;
    let o3:=(y0∧(∀q3:Nat,let u3:=frtN W b0 g3 q3;q3<a0→True∧u3=u3∧(∀v3:Nat,let w3:=frtL W b0 g3 q3 v3;v3<u3→True∧w3=w3)))∧a3;let x3:=frtW W b0 g3;let y3:=Int.toNat k3;let z3:=hanW x3 y3 0 g;(0≤b∧b<(a0:Int))∧(c0≤9223372036854775807→(d0=true→tn 10 (g0∧tn 2 (((h0=h0∧g=g∧(7:Int)=7∧True)∧True∧0≤h0∧h0≤65535∧0≤g∧g≤65535∧((7:Int)=6∨(7:Int)=7∨(7:Int)=8))∧g0∧(∀a4:Nat,false=false)∧True∧h1∧k1∧o1∧u1∧(x0∧(∀b4:Nat,let c4:=W.tasks b4;let d4:=rngW_tasks W b0 g b4;b4<w0→(((((((((((((((((((True∧c4.r0=d4.r0)∧c4.r1=d4.r1)∧c4.r2=d4.r2)∧c4.r3=d4.r3)∧c4.r4=d4.r4)∧c4.r5=d4.r5)∧c4.r6=d4.r6)∧c4.r7=d4.r7)∧c4.pc=d4.pc)∧c4.st=d4.st)∧c4.prio=d4.prio)∧c4.node=d4.node)∧c4.space=d4.space)∧c4.helper=d4.helper)∧c4.loc=d4.loc)∧c4.word=d4.word)∧c4.badge=d4.badge)∧c4.owes=d4.owes)∧c4.core=d4.core)∧c4.dom=d4.dom))∧(y0∧(∀e4:Nat,let g4:=rngW_linesN W b0 g e4;e4<a0→True∧W.linesN e4=g4∧(∀h4:Nat,h4<g4→True∧W.lines e4 h4=rngW_lines W b0 g e4 h4)))∧(z0∧(∀k4:Nat,k4<e0→True∧cond (Nat.beq k4 (0+b0)) ((bitw 7 (Int.toNat h0) (Int.toNat g):Nat):Int) (W.bits k4)=rngW_bits W b0 g k4))∧e2∧(d1∧(∀l4:Nat,let o4:=rngW_readyN W b0 g l4;l4<c1→True∧W.readyN l4=o4∧(∀q4:Nat,q4<o4→True∧W.ready l4 q4=rngW_ready W b0 g l4 q4)))∧h2)))∧(d0=false→((z2∧b=b∧false=false∧True)∧(h1∧k1∧o1∧u1∧(x0∧(∀u4:Nat,let v4:=W.tasks u4;let w4:=v4.prio;let x4:=v4.node;let y4:=v4.space;let z4:=v4.helper;let a5:=v4.loc;let b5:=v4.word;let c5:=v4.badge;let d5:=v4.owes;let e5:=v4.core;let g5:=v4.dom;u4<w0→(((((((((((((((((((True∧v4.r0=v4.r0)∧v4.r1=v4.r1)∧v4.r2=v4.r2)∧
    v4.r3=v4.r3)∧v4.r4=v4.r4)∧v4.r5=v4.r5)∧v4.r6=v4.r6)∧v4.r7=v4.r7)∧v4.pc=v4.pc)∧v4.st=v4.st)∧w4=w4)∧x4=x4)∧y4=y4)∧z4=z4)∧a5=a5)∧b5=b5)∧c5=c5)∧d5=d5)∧e5=e5)∧g5=g5))∧(y0∧(∀h5:Nat,let k5:=W.linesN h5;h5<a0→True∧k5=k5∧(∀l5:Nat,l5<k5→True∧W.lines h5 l5=W.lines h5 l5)))∧a3)∧s_front.match_1 (fun o5:X_front=>Prop) (X_front.mk b false W) (fun q5:Int=>fun u5:Bool=>fun v5:Wd=>LnP v5 q5))∧((z2∧l3∧(0:Int)=0∧g=g∧True)∧(h1∧k1∧o1∧u1∧(x0∧(∀w5:Nat,let x5:=frtS W b0 g3 w5;let y5:=x5.r0;let z5:=x5.r1;let a6:=x5.r2;let b6:=x5.r3;let c6:=x5.r4;let d6:=x5.r5;let e6:=x5.r6;let g6:=x5.r7;let h6:=x5.pc;let k6:=x5.st;let l6:=x5.prio;let o6:=x5.node;let q6:=x5.space;let u6:=x5.helper;let v6:=x5.loc;let w6:=x5.word;let x6:=x5.badge;let y6:=x5.owes;let z6:=x5.core;let a7:=x5.dom;w5<w0→(((((((((((((((((((True∧y5=y5)∧z5=z5)∧a6=a6)∧b6=b6)∧c6=c6)∧d6=d6)∧e6=e6)∧g6=g6)∧h6=h6)∧k6=k6)∧l6=l6)∧o6=o6)∧q6=q6)∧u6=u6)∧v6=v6)∧w6=w6)∧x6=x6)∧y6=y6)∧z6=z6)∧a7=a7))∧o3)∧0≤k3∧k3<(w0:Int))∧((z2∧l3∧True)∧(h1∧k1∧o1∧u1∧(x0∧(∀b7:Nat,let c7:=hnS x3 y3 0 g b7;let d7:=c7.r0;let e7:=c7.r1;let g7:=c7.r2;let h7:=c7.r3;let k7:=c7.r4;let l7:=c7.r5;let o7:=c7.r6;let q7:=c7.r7;let u7:=c7.pc;let v7:=c7.st;let w7:=c7.prio;let x7:=c7.node;let y7:=c7.space;let z7:=c7.helper;let a8:=c7.loc;let b8:=c7.word;let c8:=c7.badge;let d8:=c7.owes;let e8:=c7.core;let g8:=c7.dom;b7<w0→(((((((((((((((((((True∧d7=d7)∧e7=e7)∧g7=g7)∧h7=h7)∧k7=k7)∧l7=l7)∧o7=o7)∧q7=q7)∧u7=u7)∧v7=v7)∧w7=w7)∧x7=x7)∧y7=y7)∧z7=z7)∧a8=a8)∧b8=b8)∧c8=c8)∧d8=d8)∧e8=e8)∧g8=g8))∧o3)∧
    s_woken.match_1 (fun h8:X_woken=>Prop) (X_woken.mk k3 z3) (fun k8:Int=>fun l8:Wd=>WkP l8 k8))∧True∧h1∧k1∧o1∧u1∧(x0∧(∀o8:Nat,let q8:=wkS z3 y3 o8;let r8:=rngW_tasks W b0 g o8;o8<w0→(((((((((((((((((((True∧q8.r0=r8.r0)∧q8.r1=r8.r1)∧q8.r2=r8.r2)∧q8.r3=r8.r3)∧q8.r4=r8.r4)∧q8.r5=r8.r5)∧q8.r6=r8.r6)∧q8.r7=r8.r7)∧q8.pc=r8.pc)∧q8.st=r8.st)∧q8.prio=r8.prio)∧q8.node=r8.node)∧q8.space=r8.space)∧q8.helper=r8.helper)∧q8.loc=r8.loc)∧q8.word=r8.word)∧q8.badge=r8.badge)∧q8.owes=r8.owes)∧q8.core=r8.core)∧q8.dom=r8.dom))∧(y0∧(∀u8:Nat,let v8:=rngW_linesN W b0 g u8;u8<a0→True∧frtN W b0 g3 u8=v8∧(∀w8:Nat,w8<v8→True∧frtL W b0 g3 u8 w8=rngW_lines W b0 g u8 w8)))∧(z0∧(∀x8:Nat,x8<e0→True∧W.bits x8=rngW_bits W b0 g x8))∧e2∧(d1∧(∀y8:Nat,let z8:=rngW_readyN W b0 g y8;y8<c1→True∧wkN z3 y3 y8=z8∧(∀a9:Nat,a9<z8→True∧wkL z3 y3 y8 a9=rngW_ready W b0 g y8 a9)))∧h2))
set_option maxHeartbeats 1000000 in
theorem ok_ringR : FnOK Tryz.prog glN 45 c_ringR := ok_of (.cons ok_bitwise (.cons ok_woken (.cons ok_front (.cons ok_handed .nil)))) false Tryz.call45 Tryz.func45 (fun _ => []) (V := V_ringR) (fun _ => by kernel_rfl) fun ⟨b, g, W⟩ hp => by
  dsimp only [s_ringR] at hp
  dsimp only [V_ringR, tn, w64]
  simp only [std, stb, eq_self, implies_true, Bool.cond_self]
  try simp only [wd_eta]
  obtain ⟨⟨hl, b1, bt, hf⟩, g0, g1⟩ := hp
  have b0 := hl.a0
  refine ⟨⟨hl.a0, hl.a1⟩, fun _ => ⟨fun h => ⟨⟨b0, b1⟩, ⟨bt.1, bt.2, g0, g1, .inr (.inl trivial)⟩, ⟨b0, b1⟩, ?_⟩, fun h => ?_⟩⟩
  · have hc : (W.linesN b.toNat == 0) = true := by rw [len_0 h]; rfl
    have e_ := rngW_t (g := g) hc
    have e_tasks : rngW_tasks W b.toNat g = _ := congrArg Wd.tasks e_
    have e_linesN : rngW_linesN W b.toNat g = _ := congrArg Wd.linesN e_
    have e_lines : rngW_lines W b.toNat g = _ := congrArg Wd.lines e_
    have e_bits : rngW_bits W b.toNat g = _ := congrArg Wd.bits e_
    have e_readyN : rngW_readyN W b.toNat g = _ := congrArg Wd.readyN e_
    have e_ready : rngW_ready W b.toNat g = _ := congrArg Wd.ready e_
    simp only [e_tasks, e_linesN, e_lines, e_bits, e_readyN, e_ready]
    clear e_ e_tasks e_linesN e_lines e_bits e_readyN e_ready
    repeat' (first | exact trivial | exact run20 rfl | rfl | refine And.intro ?_ ?_ | intro _ | fail)
  · have hn := len_n h
    have hc : (W.linesN b.toNat == 0) = false := by simpa using hn
    obtain ⟨hw, hs⟩ := hf (by omega)
    have e : fntB W b.toNat (fun s => (s == 4) == false) = true := fn1 hn (by rw [hs]; rfl)
    have ei : frtI W b.toNat true = W.lines b.toNat 0 := rfl
    simp only [e, ei]
    refine ⟨hl, ⟨hw.t0, hw.t1⟩, hw.frt.han, ?_⟩
    have e_ := rngW_f (g := g) hc
    have e_tasks : rngW_tasks W b.toNat g = _ := congrArg Wd.tasks e_
    have e_linesN : rngW_linesN W b.toNat g = _ := congrArg Wd.linesN e_
    have e_lines : rngW_lines W b.toNat g = _ := congrArg Wd.lines e_
    have e_bits : rngW_bits W b.toNat g = _ := congrArg Wd.bits e_
    have e_readyN : rngW_readyN W b.toNat g = _ := congrArg Wd.readyN e_
    have e_ready : rngW_ready W b.toNat g = _ := congrArg Wd.ready e_
    simp only [e_tasks, e_linesN, e_lines, e_bits, e_readyN, e_ready]
    clear e_ e_tasks e_linesN e_lines e_bits e_readyN e_ready
    repeat' (first | exact trivial | exact run20 rfl | rfl | refine And.intro ?_ ?_ | intro _ | fail)
structure X_ringP where
  (b g : Int) (W : Wd)
def s_ringP : Sy.Spec := ⟨X_ringP, fun ⟨b, g, _⟩ => [.ptr 0 0 none 0 0, .v (.int .i64 b), .v (.int .i64 g)], fun ⟨_, _, W⟩ => wMem W, fun ⟨b, g, W⟩ => BlP W b ∧ 0 ≤ g ∧ g ≤ 65535, fun _ => .tp 0 (lsv []), fun ⟨b, g, W⟩ => wMem (rngW W b.toNat g),
  fun args mem => match args with | [a0, a1, a2] => some ⟨intD (a1), intD (a2), wMJD mem 0⟩ | _ => none⟩
def c_ringP : Con := ⟨[true], s_ringP.g, none⟩
def V_ringP : X_ringP → Prop := fun ⟨b, g, W⟩ => let a0:=SV.ptr 0 0 none 0 0=SV.ptr 0 0 none 0 0;let b0:=[(6:Int)];let c0:=0=0;let d0:=W.nRam=W.nRam;let e0:=W.nKinds;let g0:=e0=e0;let h0:=W.nSlots;let k0:=h0=h0;let l0:=W.nTasks;let o0:=l0=l0;let q0:=W.nLines;let u0:=q0=q0;let v0:=W.nBits;let w0:=v0=v0;let x0:=W.nCores;let y0:=x0=x0;let z0:=W.nReady;let a1:=z0=z0;let b1:=W.nTlbs=W.nTlbs;let c1:=W.nDoms=W.nDoms;let d1:=((((((((((True∧c0∧d0)∧c0∧g0)∧c0∧k0)∧c0∧o0)∧c0∧u0)∧c0∧w0)∧c0∧y0)∧c0∧a1)∧c0∧b1)∧c0∧c1)∧W.time=W.time;let e1:=d0∧(∀g1:Nat,g1<W.nRam→True∧W.ram g1=W.ram g1);let h1:=g0∧(∀k1:Nat,k1<e0→True∧W.kinds k1=W.kinds k1);let l1:=k0∧(∀o1:Nat,let q1:=W.slots o1;let u1:=q1.kind;let v1:=q1.base;let w1:=q1.len;let x1:=q1.mark;let y1:=q1.rights;let z1:=q1.badge;let a2:=q1.from_;o1<h0→((((((True∧u1=u1)∧v1=v1)∧w1=w1)∧x1=x1)∧y1=y1)∧z1=z1)∧a2=a2);let b2:=y0∧(∀c2:Nat,c2<x0→True∧W.cores c2=W.cores c2);let d2:=(b1∧(∀e2:Nat,let g2:=W.tlbsN e2;e2<W.nTlbs→True∧g2=g2∧(∀h2:Nat,let k2:=W.tlbs e2 h2;let l2:=k2.sp;let o2:=k2.pg;let q2:=k2.fr;let u2:=k2.wr;h2<g2→(((True∧l2=l2)∧o2=o2)∧q2=q2)∧u2=u2)))∧(c1∧(∀v2:Nat,v2<W.nDoms→True∧W.doms v2=W.doms v2))∧True;let w2:=(w0∧(∀x2:Nat,x2<v0→True∧W.bits x2=W.bits x2))∧b2∧(a1∧(∀y2:Nat,let z2:=W.readyN y2;y2<z0→True∧z2=z2∧(∀a3:Nat,a3<z2→True∧W.ready y2 a3=W.ready y2 a3)))∧d2;let b3:=Int.toNat b;let c3:=fntB W b3 (fun d3:Int=>anyB 1 (fun e3:Nat=>d3==List.getD b0 (0+e3) 0));let g3:=frtI W b3 c3;let h3:=decide (0≤g3);let k3:=g3=g3;
    let l3:=(u0∧(∀o3:Nat,let q3:=frtN W b3 c3 o3;o3<q0→True∧q3=q3∧(∀u3:Nat,let v3:=frtL W b3 c3 o3 u3;u3<q3→True∧v3=v3)))∧w2;let w3:=frtW W b3 c3;let x3:=Int.toNat g3;let y3:=hanW w3 x3 0 g;let z3:=u0∧(∀a4:Nat,let b4:=rngW_linesN W b3 g a4;a4<q0→True∧frtN W b3 c3 a4=b4∧(∀c4:Nat,c4<b4→True∧frtL W b3 c3 a4 c4=rngW_lines W b3 g a4 c4));let d4:=0≤b∧b<(v0:Int);True∧((a0∧b=b∧(1=1∧(∀e4:Nat,let g4:=List.getD b0 (0+e4) 0;e4<1→True∧g4=g4))∧True)∧(d1∧e1∧h1∧l1∧(o0∧(∀h4:Nat,let k4:=W.tasks h4;let l4:=k4.prio;let o4:=k4.node;let q4:=k4.space;let u4:=k4.helper;let v4:=k4.loc;let w4:=k4.word;let x4:=k4.badge;let y4:=k4.owes;let z4:=k4.core;let a5:=k4.dom;h4<l0→(((((((((((((((((((True∧k4.r0=k4.r0)∧k4.r1=k4.r1)∧k4.r2=k4.r2)∧k4.r3=k4.r3)∧k4.r4=k4.r4)∧k4.r5=k4.r5)∧k4.r6=k4.r6)∧k4.r7=k4.r7)∧k4.pc=k4.pc)∧k4.st=k4.st)∧l4=l4)∧o4=o4)∧q4=q4)∧u4=u4)∧v4=v4)∧w4=w4)∧x4=x4)∧y4=y4)∧z4=z4)∧a5=a5))∧(u0∧(∀b5:Nat,let c5:=W.linesN b5;b5<q0→True∧c5=c5∧(∀d5:Nat,d5<c5→True∧W.lines b5 d5=W.lines b5 d5)))∧w2)∧LnP W b∧1≤1000)∧(h3=true→((a0∧k3∧(0:Int)=0∧g=g∧True)∧(d1∧e1∧h1∧l1∧(o0∧(∀e5:Nat,let g5:=frtS W b3 c3 e5;let h5:=g5.r0;let k5:=g5.r1;let l5:=g5.r2;let o5:=g5.r3;let q5:=g5.r4;let u5:=g5.r5;let v5:=g5.r6;let w5:=g5.r7;let x5:=g5.pc;let y5:=g5.st;let z5:=g5.prio;let a6:=g5.node;let b6:=g5.space;let c6:=g5.helper;let d6:=g5.loc;let e6:=g5.word;let g6:=g5.badge;let h6:=g5.owes;let k6:=g5.core;let l6:=g5.dom;e5<l0→(((((((((((((((((((True∧h5=h5)∧k5=k5)∧l5=l5)∧o5=o5)∧q5=q5)∧u5=u5)∧v5=v5)∧w5=w5)∧x5=x5)∧y5=y5)∧z5=z5)∧
    a6=a6)∧b6=b6)∧c6=c6)∧d6=d6)∧e6=e6)∧g6=g6)∧h6=h6)∧k6=k6)∧l6=l6))∧l3)∧0≤g3∧g3<(l0:Int))∧((a0∧k3∧True)∧(d1∧e1∧h1∧l1∧(o0∧(∀o6:Nat,let q6:=hnS w3 x3 0 g o6;let u6:=q6.r0;let v6:=q6.r1;let w6:=q6.r2;let x6:=q6.r3;let y6:=q6.r4;let z6:=q6.r5;let a7:=q6.r6;let b7:=q6.r7;let c7:=q6.pc;let d7:=q6.st;let e7:=q6.prio;let g7:=q6.node;let h7:=q6.space;let k7:=q6.helper;let l7:=q6.loc;let o7:=q6.word;let q7:=q6.badge;let u7:=q6.owes;let v7:=q6.core;let w7:=q6.dom;o6<l0→(((((((((((((((((((True∧u6=u6)∧v6=v6)∧w6=w6)∧x6=x6)∧y6=y6)∧z6=z6)∧a7=a7)∧b7=b7)∧c7=c7)∧d7=d7)∧e7=e7)∧g7=g7)∧h7=h7)∧k7=k7)∧l7=l7)∧o7=o7)∧q7=q7)∧u7=u7)∧v7=v7)∧w7=w7))∧l3)∧s_wake.match_1 (fun x7:X_wake=>Prop) (X_wake.mk g3 y3) (fun y7:Int=>fun z7:Wd=>WkP z7 y7))∧True∧d1∧e1∧h1∧l1∧(o0∧(∀a8:Nat,let b8:=wkS y3 x3 a8;let c8:=rngW_tasks W b3 g a8;a8<l0→(((((((((((((((((((True∧b8.r0=c8.r0)∧b8.r1=c8.r1)∧b8.r2=c8.r2)∧b8.r3=c8.r3)∧b8.r4=c8.r4)∧b8.r5=c8.r5)∧b8.r6=c8.r6)∧b8.r7=c8.r7)∧b8.pc=c8.pc)∧b8.st=c8.st)∧b8.prio=c8.prio)∧b8.node=c8.node)∧b8.space=c8.space)∧b8.helper=c8.helper)∧b8.loc=c8.loc)∧b8.word=c8.word)∧b8.badge=c8.badge)∧b8.owes=c8.owes)∧b8.core=c8.core)∧b8.dom=c8.dom))∧z3∧(w0∧(∀d8:Nat,d8<v0→True∧W.bits d8=rngW_bits W b3 g d8))∧b2∧(a1∧(∀e8:Nat,let g8:=rngW_readyN W b3 g e8;e8<z0→True∧wkN y3 x3 e8=g8∧(∀h8:Nat,h8<g8→True∧wkL y3 x3 e8 h8=rngW_ready W b3 g e8 h8)))∧d2)∧(h3=false→d4∧d4∧(∀k8:Nat,false=false)∧True∧d1∧e1∧h1∧l1∧(o0∧(∀l8:Nat,let o8:=frtS W b3 c3 l8;let q8:=rngW_tasks W b3 g l8;l8<l0→(((((((((((((((((((True∧
    o8.r0=q8.r0)∧o8.r1=q8.r1)∧o8.r2=q8.r2)∧o8.r3=q8.r3)∧o8.r4=q8.r4)∧o8.r5=q8.r5)∧o8.r6=q8.r6)∧o8.r7=q8.r7)∧o8.pc=q8.pc)∧o8.st=q8.st)∧o8.prio=q8.prio)∧o8.node=q8.node)∧o8.space=q8.space)∧o8.helper=q8.helper)∧o8.loc=q8.loc)∧o8.word=q8.word)∧o8.badge=q8.badge)∧o8.owes=q8.owes)∧o8.core=q8.core)∧o8.dom=q8.dom))∧z3∧(w0∧(∀r8:Nat,r8<v0→True∧cond (Nat.beq r8 (0+b3)) (bitsI BinOp.or IntKind.i64 (W.bits (0+b3)) g) (W.bits r8)=rngW_bits W b3 g r8))∧b2∧(a1∧(∀u8:Nat,let v8:=rngW_readyN W b3 g u8;u8<z0→True∧W.readyN u8=v8∧(∀w8:Nat,w8<v8→True∧W.ready u8 w8=rngW_ready W b3 g u8 w8)))∧d2)
set_option maxHeartbeats 1000000 in
theorem ok_ringP : FnOK Tryz.prog glN 107 c_ringP := ok_of (.cons ok_first_ (.cons ok_hand (.cons ok_wake .nil))) false Tryz.call107 Tryz.func107 (fun _ => []) (V := V_ringP) (fun _ => by kernel_rfl) fun ⟨b, g, W⟩ hp => by
  dsimp only [s_ringP] at hp
  dsimp only [V_ringP, tn, w64]
  simp only [std, stb, eq_self, implies_true, Bool.cond_self]
  try simp only [wd_eta]
  obtain ⟨⟨hl, b1, bt, hf⟩, g0, g1⟩ := hp
  have b0 := hl.a0
  obtain ⟨B, hB⟩ : ∃ B, B = fntB W b.toNat fun d3 => anyB 1 fun e3 => d3 == [6].getD e3 0 := ⟨_, rfl⟩
  simp only [← hB]
  refine ⟨⟨hl, by decide⟩, ?_⟩
  rcases Nat.eq_zero_or_pos (W.linesN b.toNat) with h0 | h0
  · have hc : (W.linesN b.toNat == 0) = true := by rw [h0]; rfl
    have e : B = false := by rw [hB]; exact fn0 h0
    subst e
    have ei : frtI W b.toNat false = -1 := rfl
    have bo : bitsI .or .i64 (W.bits b.toNat) g = orI (W.bits b.toNat) g := or64 bt.1 (by omega) g0 (by omega)
    simp only [ei, bo]
    refine ⟨fun h => absurd h (by decide), fun _ => ⟨⟨b0, b1⟩, ⟨b0, b1⟩, ?_⟩⟩
    have e_ := rngW_t (g := g) hc
    have e_tasks : rngW_tasks W b.toNat g = _ := congrArg Wd.tasks e_
    have e_linesN : rngW_linesN W b.toNat g = _ := congrArg Wd.linesN e_
    have e_lines : rngW_lines W b.toNat g = _ := congrArg Wd.lines e_
    have e_bits : rngW_bits W b.toNat g = _ := congrArg Wd.bits e_
    have e_readyN : rngW_readyN W b.toNat g = _ := congrArg Wd.readyN e_
    have e_ready : rngW_ready W b.toNat g = _ := congrArg Wd.ready e_
    simp only [e_tasks, e_linesN, e_lines, e_bits, e_readyN, e_ready]
    clear e_ e_tasks e_linesN e_lines e_bits e_readyN e_ready
    repeat' (first | exact trivial | exact run20 rfl | rfl | refine And.intro ?_ ?_ | intro _ | fail)
  · have hn : W.linesN b.toNat ≠ 0 := by omega
    have hc : (W.linesN b.toNat == 0) = false := by simpa using hn
    obtain ⟨hw, hs⟩ := hf h0
    have e : B = true := by rw [hB]; exact fn1 hn (by rw [hs]; rfl)
    subst e
    have ei : frtI W b.toNat true = W.lines b.toNat 0 := rfl
    simp only [ei]
    refine ⟨fun _ => ⟨⟨hw.t0, hw.t1⟩, hw.frt.han, ?_⟩, fun h => absurd hw.t0 (of_decide_eq_false h)⟩
    have e_ := rngW_f (g := g) hc
    have e_tasks : rngW_tasks W b.toNat g = _ := congrArg Wd.tasks e_
    have e_linesN : rngW_linesN W b.toNat g = _ := congrArg Wd.linesN e_
    have e_lines : rngW_lines W b.toNat g = _ := congrArg Wd.lines e_
    have e_bits : rngW_bits W b.toNat g = _ := congrArg Wd.bits e_
    have e_readyN : rngW_readyN W b.toNat g = _ := congrArg Wd.readyN e_
    have e_ready : rngW_ready W b.toNat g = _ := congrArg Wd.ready e_
    simp only [e_tasks, e_linesN, e_lines, e_bits, e_readyN, e_ready]
    clear e_ e_tasks e_linesN e_lines e_bits e_readyN e_ready
    repeat' (first | exact trivial | exact run20 rfl | rfl | refine And.intro ?_ ?_ | intro _ | fail)
end Go.Proofs.YtdjilaofmdhikaaGreatDoor
set_option linter.unusedVariables false
set_option linter.unusedSimpArgs false
set_option maxRecDepth 100000
namespace Go.Proofs.YtdjilaofmdhikaaGreatDoor
open Go.RowKit Go.Sy
def actE (W : Wd) (t a k : Int) : Int := bif decide (t < 0) || decide ((W.nKinds : Int) ≤ t) || decide (a < 0) || decide ((W.nKinds : Int) ≤ a) then 2 else bif W.kinds t.toNat != 6 || W.kinds a.toNat != k then 3 else bif W.cores (W.tasks t.toNat).core.toNat == t then 0 else 7
structure AcP (W : Wd) : Prop where
  z : Szd W
  k : ∀ i : Nat, i < W.nTasks → 0 ≤ (W.tasks i).core ∧ (W.tasks i).core < W.nCores
  u : ∀ (t : Int) (j : Nat), 0 ≤ t → j < W.nCores → W.cores j = t → (W.tasks t.toNat).core = j
def an_wd (n : Nat) (l : Nat → Int) (q : Nat) : Ann where
  σ := Nat
  rt := []
  sh i := [(q, .v (.int .i64 i))]
  mh _ := []
  inv i := i ≤ n ∧ ∀ j, j < i → farB (l j) 65535 = false
  μ i := n - i
  init := 0
theorem act_in {W : Wd} {t : Int} (h : AcP W) (t0 : 0 ≤ t) (t1 : t < W.nKinds) : inB' W.nCores W.cores t = (W.cores (W.tasks t.toNat).core.toNat == t) := by
  obtain ⟨hz, hk, hu⟩ := h
  have z1 := hz.tasks
  have hc := hk t.toNat (by omega)
  rw [Bool.eq_iff_iff]
  unfold inB'
  rw [anyB_iff]
  constructor
  · rintro ⟨j, hj, he⟩
    have := hu t j t0 hj (eq_of_beq he)
    rw [show (W.tasks t.toNat).core.toNat = j by omega]
    exact he
  · intro he
    exact ⟨(W.tasks t.toNat).core.toNat, by omega, he⟩
structure X_actR where
  (W : Wd) (t a k : Int)
def s_actR : Sy.Spec := ⟨X_actR, fun ⟨W, t, a, k⟩ => [wPT W, .v (.int .i64 t), .v (.int .i64 a), .v (.int .i64 k)], fun _ => [], fun ⟨W, _, _, _⟩ => AcP W, fun ⟨W, t, a, k⟩ => .v (.int .i64 (actE W t a k)), fun _ => [],
  fun args mem => match args with | [a0, a1, a2, a3] => some ⟨wPTD a0, intD (a1), intD (a2), intD (a3)⟩ | _ => none⟩
def c_actR : Con := ⟨[], s_actR.g, none⟩
def V_actR : X_actR → Prop := fun ⟨W, t, a, k⟩ => let a0:=((W.nKinds:Nat):Int);let b0:=cond (cond (cond (decide (t<0)) true (decide (a0≤t))) true (decide (a<0))) true (decide (a0≤a));let c0:=actE W t a k;let d0:=W.kinds (Int.toNat t) !=6;let e0:=cond d0 true (W.kinds (Int.toNat a) !=k);let g0:=W.nCores;let h0:=!inB' g0 W.cores t;(b0=true→2=c0∧True)∧(b0=false→(0≤t∧t<a0)∧(d0=false→0≤a∧a<a0)∧(e0=true→3=c0∧True)∧(e0=false→((t=t∧(g0=g0∧(∀k0:Nat,k0<g0→True∧W.cores k0=W.cores k0))∧True)∧True∧True)∧(h0=true→7=c0∧True)∧(h0=false→0=c0∧True)))
set_option maxHeartbeats 1000000 in
theorem ok_actR : FnOK Tryz.prog glN 39 c_actR := ok_of (.cons ok_inL .nil) false Tryz.call39 Tryz.func39 (fun _ => []) (V := V_actR) (fun _ => by kernel_rfl) fun ⟨W, t, a, k⟩ hp => by
  dsimp only [s_actR] at hp
  dsimp only [V_actR, tn, w64]
  simp only [std, stb, eq_self, implies_true, Bool.cond_self]
  try simp only [wd_eta]
  have hp' := hp
  obtain ⟨hz, hk, hu⟩ := hp
  have z1 := hz.tasks
  unfold actE
  refine ⟨fun h => by rw [h]; rfl, fun h => ?_⟩
  simp only [h, cond_false]
  simp only [Bool.or_eq_false_iff, decide_eq_false_iff_not] at h
  refine ⟨by omega, fun _ => by omega, fun h2 => by rw [h2]; rfl, fun h2 => ?_⟩
  simp only [h2, cond_false, act_in hp' (show 0 ≤ t by omega) (by omega)]
  cases W.cores (W.tasks t.toNat).core.toNat == t <;> simp
structure X_actP where
  (W : Wd) (t a k : Int)
def s_actP : Sy.Spec := ⟨X_actP, fun ⟨W, t, a, k⟩ => [wPT W, .v (.int .i64 t), .v (.int .i64 a), .v (.int .i64 k)], fun _ => [], fun ⟨W, _, _, _⟩ => AcP W, fun ⟨W, t, a, k⟩ => .er 35 116 (actE W t a k) (-1), fun _ => [],
  fun args mem => match args with | [a0, a1, a2, a3] => some ⟨wPTD a0, intD (a1), intD (a2), intD (a3)⟩ | _ => none⟩
def c_actP : Con := ⟨[], s_actP.g, none⟩
def V_actP : X_actP → Prop := fun ⟨W, t, a, k⟩ => let a0:=((W.nKinds:Nat):Int);let b0:=cond (cond (cond (decide (t<0)) true (decide (a0≤t))) true (decide (a<0))) true (decide (a0≤a));let c0:=actE W t a k;let d0:=((-1):Int)=(-1);let e0:=W.kinds (Int.toNat t) !=6;let g0:=cond e0 true (W.kinds (Int.toNat a) !=k);let h0:=(W.tasks (Int.toNat t)).core;let k0:=W.cores (Int.toNat h0) !=t;(b0=true→((2:Int)≠0∧c0=2∧d0)∧True)∧(b0=false→(0≤t∧t<a0)∧(e0=false→0≤a∧a<a0)∧(g0=true→((3:Int)≠0∧c0=3∧d0)∧True)∧(g0=false→tn 9 ((0≤t∧t<((W.nTasks:Nat):Int))∧tn 3 ((0≤h0∧h0<((W.nCores:Nat):Int))∧(k0=true→((7:Int)≠0∧c0=7∧d0)∧True)∧(k0=false→(c0=0∧d0)∧True)))))
set_option maxHeartbeats 1000000 in
theorem ok_actP : FnOK Tryz.prog glN 98 c_actP := ok_of .nil false Tryz.call98 Tryz.func98 (fun _ => []) (V := V_actP) (fun _ => by kernel_rfl) fun ⟨W, t, a, k⟩ hp => by
  dsimp only [s_actP] at hp
  dsimp only [V_actP, tn, w64]
  simp only [std, stb, eq_self, implies_true, Bool.cond_self]
  try simp only [wd_eta]
  have hp' := hp
  obtain ⟨hz, hk, hu⟩ := hp
  have z1 := hz.tasks
  unfold actE
  refine ⟨fun h => ⟨by decide, by rw [h]; rfl⟩, fun h => ?_⟩
  simp only [h, cond_false]
  simp only [Bool.or_eq_false_iff, decide_eq_false_iff_not] at h
  refine ⟨by omega, fun _ => by omega, fun h2 => ⟨by decide, by rw [h2]; rfl⟩, fun h2 => ?_⟩
  simp only [h2, cond_false]
  refine ⟨by omega, hk t.toNat (by omega), fun h3 => ⟨by decide, ?_⟩, fun h3 => ?_⟩
  · rw [show (W.cores (W.tasks t.toNat).core.toNat == t) = false by simpa using h3]; rfl
  · rw [show (W.cores (W.tasks t.toNat).core.toNat == t) = true by simpa using h3]; rfl
structure X_wordsP where
  (n : Nat) (l : Nat → Int)
def s_wordsP : Sy.Spec := ⟨X_wordsP, fun ⟨n, l⟩ => [.sl true 1 n (fun i_ _ => .v (.int .i64 (l i_)))], fun _ => [], fun ⟨n, _⟩ => n ≤ 1000, fun ⟨n, l⟩ => .er 35 116 (bif allB n fun i => !farB (l i) 65535 then 0 else 1) (-1), fun _ => [],
  fun args mem => match args with | [a0] => some ⟨slN a0, fun i => intD (slF a0 i 0)⟩ | _ => none⟩
def c_wordsP : Con := ⟨[], s_wordsP.g, none⟩
def V_wordsP : X_wordsP → Prop := fun ⟨n, l⟩ => let a0:=(n:Int);let b0:Int:=cond (allB n (fun c0:Nat=>!farB (l c0) 65535)) 0 1;a0≤9223372036854775807→0=((0:Nat):Int)∧True∧(0≤n∧(∀d0:Nat,d0<0→farB (l d0) 65535=false))∧(∀e0:Nat,let g0:=(e0:Int);let h0:=decide (g0<a0);let k0:Int:=l (Int.toNat g0);let l0:=cond (decide (k0<0)) true (decide (65535<k0));let o0:Int:=g0+1;e0≤n∧(∀q0:Nat,q0<e0→farB (l q0) 65535=false)→(h0=true→(0≤g0∧g0<a0)∧(l0=true→((1:Int)≠0∧b0=1∧((-1):Int)=(-1))∧True)∧(l0=false→w64 o0=o0∧(∃r0:Nat,o0=(r0:Int)∧True∧(r0≤n∧(∀u0:Nat,u0<r0→farB (l u0) 65535=false))∧n-r0<n-e0)))∧(h0=false→(b0=0∧((-1):Int)=(-1))∧True))
set_option maxHeartbeats 1000000 in
theorem ok_wordsP : FnOK Tryz.prog glN 99 c_wordsP := ok_of .nil false Tryz.call99 Tryz.func99 (fun ⟨n, l⟩ => [.inv (an_wd n l 7)]) (V := V_wordsP) (fun _ => by kernel_rfl) fun ⟨n, l⟩ hp => by
  dsimp only [s_wordsP] at hp
  dsimp only [V_wordsP, tn, w64]
  simp only [std, stb, eq_self, implies_true, Bool.cond_self]
  try simp only [wd_eta]
  refine fun _ s hs => ⟨fun h => ?_, fun h => ?_⟩
  · have hlt := lt_of_dec h
    refine ⟨by omega, fun h2 => ⟨by decide, ?_⟩, fun h2 => ⟨wr_in (by omega) (by omega), exS ⟨⟨by omega, snocF (p := fun i => farB (l i) 65535) hs.2 h2⟩, by omega⟩⟩⟩
    have e : (allB n fun c0 => !farB (l c0) 65535) = false := allB_false (p := fun c0 => !farB (l c0) 65535) hlt (by show (!farB (l s) 65535) = false; rw [show farB (l s) 65535 = true from h2]; rfl)
    rw [e]; rfl
  · have hge := ge_of_dec h
    obtain rfl : s = n := by omega
    have e : (allB s fun c0 => !farB (l c0) 65535) = true := allB_iff.2 fun i hi => by rw [hs.2 i hi]; rfl
    rw [e]; rfl
end Go.Proofs.YtdjilaofmdhikaaGreatDoor
set_option linter.unusedVariables false
set_option linter.unusedSimpArgs false
set_option maxRecDepth 100000
namespace Go.Proofs.YtdjilaofmdhikaaGreatDoor
open Go.RowKit Go.Sy
theorem all1 {p : Nat → Bool} : allB 1 p = p 0 := by
  rw [Bool.eq_iff_iff, allB_iff]
  exact ⟨fun h => h 0 (by omega), fun h i hi => by obtain rfl : i = 0 := by omega
                                                   exact h⟩
theorem co_uni {W : Wd} (h : Snd W) (t : Int) (j : Nat) (h0 : 0 ≤ t) (hj : j < W.nCores) (he : W.cores j = t) : (W.tasks t.toNat).core = j := by
  have hc := h.co j hj
  unfold coB at hc
  rw [he] at hc
  simp only [Bool.or_eq_true, beq_iff_eq] at hc
  rcases hc with hc | hc
  · omega
  · exact (rdB_in hc).2.2.2.1
theorem ac_of {W : Wd} (h : Snd W) (hs : Sm W) : AcP W := ⟨h.z, fun i hi => ((inv_of h hs).tk i hi).core, co_uni h⟩
theorem of_of {W : Wd} (h : Snd W) (hs : Sm W) {t : Int} (t0 : 0 ≤ t) (t1 : t < W.nTasks) : OfP W t := by
  have hc := ((inv_of h hs).tk t.toNat (by omega)).core
  exact ⟨t0, t1, hc.1, hc.2, fun j hj he => co_uni h t j t0 hj he⟩
theorem wk_of {W : Wd} (h : Snd W) (hs : Sm W) {t : Int} (t0 : 0 ≤ t) (t1 : t < W.nTasks) : WkP W t := inv_wkp (inv_of h hs) (by decide) t0 t1
theorem ln_of {W : Wd} (h : Snd W) (hs : Sm W) {a : Int} (a0 : 0 ≤ a) (a1 : a < W.nLines) : LnP W a := by
  have hl := (inv_of h hs).ln a.toNat (by omega)
  exact ⟨a0, a1, by omega, fun hn => hl.2 0 hn⟩
theorem fst_st {W : Wd} (h : Snd W) {a : Nat} (ha : a < W.nKinds) (hn : 0 < W.linesN a) : (W.kinds a = 7 ∧ 2 ≤ (W.tasks (W.lines a 0).toNat).st ∧ (W.tasks (W.lines a 0).toNat).st ≤ 4) ∨ (W.kinds a = 8 ∧ (W.tasks (W.lines a 0).toNat).st = 6) := by
  have hl := h.ln a ha
  unfold lnB at hl
  simp only [Bool.and_eq_true] at hl
  have ht := allB_iff.1 hl.2 0 hn
  unfold lnTest at ht
  simp only [Bool.and_eq_true, beq_iff_eq] at ht
  obtain ⟨⟨h1, h2⟩, _⟩ := ht
  have hi := kof_in (W := W) (f := W.lines a 0) (by rw [h1]; decide)
  rw [kof_eq hi] at h1
  have hT := h.tk (W.lines a 0).toNat (by omega)
  unfold tkB at hT
  simp only [show (W.kinds (W.lines a 0).toNat != 6) = false by rw [h1]; decide, cond_false, Bool.and_eq_true] at hT
  have hT := hT.2
  have ka : kof W (a : Int) = W.kinds a := kof_eq (W := W) (f := (a : Int)) (by omega)
  unfold stOK standOK at hT
  dsimp only at hT
  rw [h2, ka] at hT
  cases c1 : (W.tasks (W.lines a 0).toNat).st == 2 <;> cases c2 : (W.tasks (W.lines a 0).toNat).st == 3 <;> cases c3 : (W.tasks (W.lines a 0).toNat).st == 4 <;> cases c4 : (W.tasks (W.lines a 0).toNat).st == 6 <;> cases c5 : (W.tasks (W.lines a 0).toNat).st == 1 <;> simp only [c1, c2, c3, c4, c5, Bool.or_true, Bool.true_or, Bool.or_false, cond_true, cond_false, Bool.and_eq_true, beq_iff_eq] at hT <;> simp only [beq_iff_eq, beq_eq_false_iff_ne] at c1 c2 c3 c4 c5 <;> omega
theorem bl_of {W : Wd} (h : Snd W) (hs : Sm W) {b : Int} (b0 : 0 ≤ b) (b1 : b < W.nKinds) (hk : W.kinds b.toNat = 8) : BlP W b := by
  have I := inv_of h hs
  have z1 := h.z.lines
  have z2 := h.z.bits
  have z3 := h.z.tasks
  have hl := I.ln b.toNat (by omega)
  refine ⟨ln_of h hs b0 (by omega), by omega, I.bt b.toNat (by omega), fun hn => ?_⟩
  have hf := hl.2 0 hn
  refine ⟨wk_of h hs hf.1 hf.2, ?_⟩
  rcases fst_st h (by omega) hn with e | e
  · omega
  · exact e.2
theorem act_0 {W : Wd} {t a k : Int} (h : actE W t a k = 0) : 0 ≤ t ∧ t < W.nKinds ∧ 0 ≤ a ∧ a < W.nKinds ∧ W.kinds t.toNat = 6 ∧ W.kinds a.toNat = k := by
  unfold actE at h
  cases h1 : (decide (t < 0) || decide ((W.nKinds : Int) ≤ t) || decide (a < 0) || decide ((W.nKinds : Int) ≤ a)) with
  | true => rw [h1] at h; exact absurd (show (2 : Int) = 0 from h) (by decide)
  | false =>
    cases h2 : (W.kinds t.toNat != 6 || W.kinds a.toNat != k) with
    | true => rw [h1, h2] at h; exact absurd (show (3 : Int) = 0 from h) (by decide)
    | false =>
      simp only [Bool.or_eq_false_iff, decide_eq_false_iff_not, bne_eq_false_iff_eq] at h1 h2
      omega
end Go.Proofs.YtdjilaofmdhikaaGreatDoor
