/- A part of the proof. -/
import Derived.Test.YtfmaeiilbhpepaaDoorAs2
import Derived.Test.YtfmaeiilbhpepaaDoorEv11
set_option linter.unusedVariables false
set_option linter.unusedSimpArgs false
namespace Go.Proofs.YtfmaeiilbhpepaaDoor
open Go.RowKit Go.Ev Go.Extern.Stop Go.Stop Go.Extern
set_option linter.unusedVariables false
set_option linter.unusedSimpArgs false
theorem A.unwrap (e : Addr) (v : Value) (w : World) (h : w.cell? ⟨e.block, e.off + 1, none⟩ = some v) :
    Calls Tryd.prog 191 #[.pointer (some e)] w fun ev w' => ev = .returned v ∧ w' = w := by
  go_enter Tryd.func191, Tryd.ntmps191
  go_wp2
  go_ret
  exact ⟨rfl, rfl⟩

set_option maxHeartbeats 4000000 in
theorem A.as_f (e : Addr) (t : Addr) (old : Value) (w : World) (hg : w.cell? ⟨2, 0, none⟩ = some (.iface 223 (.agg #[.pointer (some ⟨6, 27, none⟩)]))) (ht0 : w.cell? t = some old) (hf0 : w.frozen? t = false) :
    Calls Tryd.prog 68 #[.iface 25 (.pointer (some e)), .iface 136 (.pointer (some t))] w fun ev w' => ev = .returned (.bool true) ∧ w' = (((((w.alloc (.cells #[.pointer (some t)] 136)).alloc (.cells #[.pointer (some ⟨6, 136, none⟩), .pointer (some ⟨w.heap.size, 0, none⟩), .int .u64 150] 194)).alloc (.cells #[.pointer (some ⟨6, 136, none⟩), .pointer (some ⟨w.heap.size, 0, none⟩), .int .u64 150] 194)).alloc (.cells #[.pointer (some e)] 25))).setCell t (.pointer (some e)) := by
  have hx113 := A.x113
  have hx114 := A.x114
  have hx115 := A.x115
  have hx186 := A.x186
  have hx199 := A.x199
  have hx200 := A.x200
  have hx151 := A.x151
  have hx197 := A.x197
  have hx152 := A.x152
  have hx153 := A.x153
  have hmKind := A.mKind
  have hmElem := A.mElem
  have hmImpl := A.mImpl
  have hmAssn := A.mAssn
  have hto25 := A.to25
  have hto22 := A.to22
  have has25 := A.as25
  have has22 := A.as22
  have has2522 := A.as2522
  have has2225 := A.as2225
  have hvo25 := A.vo25
  have hvo22 := A.vo22
  have hvo136 := A.vo136
  have hvo137 := A.vo137
  have hty136 := A.ty136
  have hty137 := A.ty137
  have hk136 := A.k136
  have hk137 := A.k137
  have hk25 := A.k25
  have hk22 := A.k22
  have hel136 := A.el136
  have hel137 := A.el137
  have him25 := A.im25
  have him22 := A.im22
  have hta22_228 := A.ta22_228
  have hta22_231 := A.ta22_231
  have hta22_232 := A.ta22_232
  have hta25_228 := A.ta25_228
  have hta25_231 := A.ta25_231
  have hmUnwrap := A.mUnwrap
  have n8 := A.isNil136 ⟨w.heap.size, 0, none⟩ t ((w.alloc (.cells #[.pointer (some t)] 136)).alloc (.cells #[.pointer (some ⟨6, 136, none⟩), .pointer (some ⟨w.heap.size, 0, none⟩), .int .u64 150] 194)) (by simp)
  have hlt : 2 < w.heap.size := cell_lt hg
  have htl : t.block < w.heap.size := cell_lt ht0
  have hg2 : (((w.alloc (.cells #[.pointer (some t)] 136)).alloc (.cells #[.pointer (some ⟨6, 136, none⟩), .pointer (some ⟨w.heap.size, 0, none⟩), .int .u64 150] 194))).cell? ⟨2, 0, none⟩ = some (.iface 223 (.agg #[.pointer (some ⟨6, 27, none⟩)])) := by
    rw [World.cell?_alloc_lt _ _ ⟨2, 0, none⟩ (by simp; omega), World.cell?_alloc_lt _ _ ⟨2, 0, none⟩ hlt]; exact hg
  have el := A.elemV136 ⟨w.heap.size, 0, none⟩ t (((w.alloc (.cells #[.pointer (some t)] 136)).alloc (.cells #[.pointer (some ⟨6, 136, none⟩), .pointer (some ⟨w.heap.size, 0, none⟩), .int .u64 150] 194)).alloc (.cells #[.pointer (some ⟨6, 136, none⟩), .pointer (some ⟨w.heap.size, 0, none⟩), .int .u64 150] 194)) (by rw [World.cell?_alloc_lt _ _ ⟨w.heap.size, 0, none⟩ (by simp; omega)]; simp)
  have st := A.set25 t ⟨w.heap.size + 1 + 1 + 1, 0, none⟩ e old ((((w.alloc (.cells #[.pointer (some t)] 136)).alloc (.cells #[.pointer (some ⟨6, 136, none⟩), .pointer (some ⟨w.heap.size, 0, none⟩), .int .u64 150] 194)).alloc (.cells #[.pointer (some ⟨6, 136, none⟩), .pointer (some ⟨w.heap.size, 0, none⟩), .int .u64 150] 194)).alloc (.cells #[.pointer (some e)] 25))
    (by rw [World.cell?_alloc_at _ _ _ _ (by simp)]; rfl)
    (by rw [World.cell?_alloc_lt _ _ t (by simp; omega), World.cell?_alloc_lt _ _ t (by simp; omega), World.cell?_alloc_lt _ _ t (by simp; omega), World.cell?_alloc_lt _ _ t htl]; exact ht0)
    (by rw [World.frozen?_alloc_old _ _ t (by simp; omega), World.frozen?_alloc_old _ _ t (by simp; omega), World.frozen?_alloc_old _ _ t (by simp; omega), World.frozen?_alloc_old _ _ t (Nat.ne_of_lt htl)]; exact hf0)
  go_enter Tryd.func68, Tryd.ntmps68
  go_wp2
  refine wp_loop_rounds 1 ?_
  rw [rounds_succ]
  go_wp2
  go_ret
  exact ⟨rfl, rfl⟩

set_option maxHeartbeats 4000000 in
theorem A.as_e (c : Int) (t : Addr) (old : Value) (w : World) (hg : w.cell? ⟨2, 0, none⟩ = some (.iface 223 (.agg #[.pointer (some ⟨6, 27, none⟩)]))) (ht0 : w.cell? t = some old) (hf0 : w.frozen? t = false) :
    Calls Tryd.prog 68 #[.iface 22 (.int .i64 c), .iface 137 (.pointer (some t))] w fun ev w' => ev = .returned (.bool true) ∧ w' = (((((w.alloc (.cells #[.pointer (some t)] 137)).alloc (.cells #[.pointer (some ⟨6, 137, none⟩), .pointer (some ⟨w.heap.size, 0, none⟩), .int .u64 150] 194)).alloc (.cells #[.pointer (some ⟨6, 137, none⟩), .pointer (some ⟨w.heap.size, 0, none⟩), .int .u64 150] 194)).alloc (.cells #[.int .i64 c] 22))).setCell t (.int .i64 c) := by
  have hx113 := A.x113
  have hx114 := A.x114
  have hx115 := A.x115
  have hx186 := A.x186
  have hx199 := A.x199
  have hx200 := A.x200
  have hx151 := A.x151
  have hx197 := A.x197
  have hx152 := A.x152
  have hx153 := A.x153
  have hmKind := A.mKind
  have hmElem := A.mElem
  have hmImpl := A.mImpl
  have hmAssn := A.mAssn
  have hto25 := A.to25
  have hto22 := A.to22
  have has25 := A.as25
  have has22 := A.as22
  have has2522 := A.as2522
  have has2225 := A.as2225
  have hvo25 := A.vo25
  have hvo22 := A.vo22
  have hvo136 := A.vo136
  have hvo137 := A.vo137
  have hty136 := A.ty136
  have hty137 := A.ty137
  have hk136 := A.k136
  have hk137 := A.k137
  have hk25 := A.k25
  have hk22 := A.k22
  have hel136 := A.el136
  have hel137 := A.el137
  have him25 := A.im25
  have him22 := A.im22
  have hta22_228 := A.ta22_228
  have hta22_231 := A.ta22_231
  have hta22_232 := A.ta22_232
  have hta25_228 := A.ta25_228
  have hta25_231 := A.ta25_231
  have hmUnwrap := A.mUnwrap
  have n8 := A.isNil137 ⟨w.heap.size, 0, none⟩ t ((w.alloc (.cells #[.pointer (some t)] 137)).alloc (.cells #[.pointer (some ⟨6, 137, none⟩), .pointer (some ⟨w.heap.size, 0, none⟩), .int .u64 150] 194)) (by simp)
  have hlt : 2 < w.heap.size := cell_lt hg
  have htl : t.block < w.heap.size := cell_lt ht0
  have hg2 : (((w.alloc (.cells #[.pointer (some t)] 137)).alloc (.cells #[.pointer (some ⟨6, 137, none⟩), .pointer (some ⟨w.heap.size, 0, none⟩), .int .u64 150] 194))).cell? ⟨2, 0, none⟩ = some (.iface 223 (.agg #[.pointer (some ⟨6, 27, none⟩)])) := by
    rw [World.cell?_alloc_lt _ _ ⟨2, 0, none⟩ (by simp; omega), World.cell?_alloc_lt _ _ ⟨2, 0, none⟩ hlt]; exact hg
  have el := A.elemV137 ⟨w.heap.size, 0, none⟩ t (((w.alloc (.cells #[.pointer (some t)] 137)).alloc (.cells #[.pointer (some ⟨6, 137, none⟩), .pointer (some ⟨w.heap.size, 0, none⟩), .int .u64 150] 194)).alloc (.cells #[.pointer (some ⟨6, 137, none⟩), .pointer (some ⟨w.heap.size, 0, none⟩), .int .u64 150] 194)) (by rw [World.cell?_alloc_lt _ _ ⟨w.heap.size, 0, none⟩ (by simp; omega)]; simp)
  have st := A.set22 t ⟨w.heap.size + 1 + 1 + 1, 0, none⟩ c old ((((w.alloc (.cells #[.pointer (some t)] 137)).alloc (.cells #[.pointer (some ⟨6, 137, none⟩), .pointer (some ⟨w.heap.size, 0, none⟩), .int .u64 150] 194)).alloc (.cells #[.pointer (some ⟨6, 137, none⟩), .pointer (some ⟨w.heap.size, 0, none⟩), .int .u64 150] 194)).alloc (.cells #[.int .i64 c] 22))
    (by rw [World.cell?_alloc_at _ _ _ _ (by simp)]; rfl)
    (by rw [World.cell?_alloc_lt _ _ t (by simp; omega), World.cell?_alloc_lt _ _ t (by simp; omega), World.cell?_alloc_lt _ _ t (by simp; omega), World.cell?_alloc_lt _ _ t htl]; exact ht0)
    (by rw [World.frozen?_alloc_old _ _ t (by simp; omega), World.frozen?_alloc_old _ _ t (by simp; omega), World.frozen?_alloc_old _ _ t (by simp; omega), World.frozen?_alloc_old _ _ t (Nat.ne_of_lt htl)]; exact hf0)
  go_enter Tryd.func68, Tryd.ntmps68
  go_wp2
  refine wp_loop_rounds 1 ?_
  rw [rounds_succ]
  go_wp2
  go_ret
  exact ⟨rfl, rfl⟩
end Go.Proofs.YtfmaeiilbhpepaaDoor
