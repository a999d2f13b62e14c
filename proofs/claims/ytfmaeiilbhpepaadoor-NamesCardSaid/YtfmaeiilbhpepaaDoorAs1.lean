/- A part of the proof. -/
import Derived.Test.YtfmaeiilbhpepaaDoorProg
import Derived.WalkKit
import Derived.LaidEql
import Derived.Stop.Asserts
import Derived.RowKitTokens
import Derived.Outline
set_option linter.unusedVariables false
set_option linter.unusedSimpArgs false
namespace Go.Proofs.YtfmaeiilbhpepaaDoor
open Go.RowKit Go.Extern.Stop Go.Stop Go.Extern
set_option linter.unusedVariables false
set_option linter.unusedSimpArgs false
/-! 25: *api.Fault · 136: **api.Fault · 22: api.Errno · 137: *api.Errno · 27: error · 223: reflectlite's rtype · 6: how many variables -/
theorem A.vo136 (t : Addr) (w : World) : (ReflectliteValue.unpack (.iface 136 (.pointer (some t)))).run Tryd.prog w
    = .ok (.agg #[.pointer (some ⟨6, 136, none⟩), .pointer (some ⟨w.heap.size, 0, none⟩), .int .u64 150]) (w.alloc (.cells #[.pointer (some t)] 136)) := by kernel_rfl
theorem A.vo137 (t : Addr) (w : World) : (ReflectliteValue.unpack (.iface 137 (.pointer (some t)))).run Tryd.prog w
    = .ok (.agg #[.pointer (some ⟨6, 137, none⟩), .pointer (some ⟨w.heap.size, 0, none⟩), .int .u64 150]) (w.alloc (.cells #[.pointer (some t)] 137)) := by kernel_rfl
theorem A.ty136 (a : Addr) (w : World) : (ReflectliteValue.methodAny (ReflectliteValue.valueError "reflectlite.Value.Type" 0) (fun t _ _ _ => ReflectliteType.toType t) #[.agg #[.pointer (some ⟨6, 136, none⟩), .pointer (some a), .int .u64 150]]).run Tryd.prog w
    = .ok (.iface 223 (.agg #[.pointer (some ⟨6, 136, none⟩)])) w := by kernel_rfl
theorem A.ty137 (a : Addr) (w : World) : (ReflectliteValue.methodAny (ReflectliteValue.valueError "reflectlite.Value.Type" 0) (fun t _ _ _ => ReflectliteType.toType t) #[.agg #[.pointer (some ⟨6, 137, none⟩), .pointer (some a), .int .u64 150]]).run Tryd.prog w
    = .ok (.iface 223 (.agg #[.pointer (some ⟨6, 137, none⟩)])) w := by kernel_rfl
theorem A.mKind (h : Value) (w : World) : (Go.method 384 223 (.agg #[h]) "Kind").run Tryd.prog w = .ok (186, h) w := by kernel_rfl
theorem A.k136 (w : World) : ((ReflectliteType.abiMethod fun t => (fun a : Nat => Value.int IntKind.u8 (a : Int)) <$> Rtype.kind t) #[.pointer (some ⟨6, 136, none⟩)]).run Tryd.prog w = .ok (.int .u8 22) w := by kernel_rfl
theorem A.k137 (w : World) : ((ReflectliteType.abiMethod fun t => (fun a : Nat => Value.int IntKind.u8 (a : Int)) <$> Rtype.kind t) #[.pointer (some ⟨6, 137, none⟩)]).run Tryd.prog w = .ok (.int .u8 22) w := by kernel_rfl
theorem A.k25 (w : World) : ((ReflectliteType.abiMethod fun t => (fun a : Nat => Value.int IntKind.u8 (a : Int)) <$> Rtype.kind t) #[.pointer (some ⟨6, 25, none⟩)]).run Tryd.prog w = .ok (.int .u8 22) w := by kernel_rfl
theorem A.k22 (w : World) : ((ReflectliteType.abiMethod fun t => (fun a : Nat => Value.int IntKind.u8 (a : Int)) <$> Rtype.kind t) #[.pointer (some ⟨6, 22, none⟩)]).run Tryd.prog w = .ok (.int .u8 2) w := by kernel_rfl
theorem A.mElem (h : Value) (w : World) : (Go.method 384 223 (.agg #[h]) "Elem").run Tryd.prog w = .ok (199, .agg #[h]) w := by kernel_rfl
theorem A.mImpl (h : Value) (w : World) : (Go.method 384 223 (.agg #[h]) "Implements").run Tryd.prog w = .ok (200, .agg #[h]) w := by kernel_rfl
theorem A.mAssn (h : Value) (w : World) : (Go.method 384 223 (.agg #[h]) "AssignableTo").run Tryd.prog w = .ok (197, .agg #[h]) w := by kernel_rfl
theorem A.el136 (w : World) : (ReflectliteType.method ReflectliteType.elem #[.agg #[.pointer (some ⟨6, 136, none⟩)]]).run Tryd.prog w = .ok (.iface 223 (.agg #[.pointer (some ⟨6, 25, none⟩)])) w := by kernel_rfl
theorem A.el137 (w : World) : (ReflectliteType.method ReflectliteType.elem #[.agg #[.pointer (some ⟨6, 137, none⟩)]]).run Tryd.prog w = .ok (.iface 223 (.agg #[.pointer (some ⟨6, 22, none⟩)])) w := by kernel_rfl
theorem A.im25 (w : World) : (ReflectliteType.relation "Implements" ReflectliteType.implements_ #[.agg #[.pointer (some ⟨6, 25, none⟩)], .iface 223 (.agg #[.pointer (some ⟨6, 27, none⟩)])]).run Tryd.prog w = .ok (.bool true) w := by kernel_rfl
theorem A.im22 (w : World) : (ReflectliteType.relation "Implements" ReflectliteType.implements_ #[.agg #[.pointer (some ⟨6, 22, none⟩)], .iface 223 (.agg #[.pointer (some ⟨6, 27, none⟩)])]).run Tryd.prog w = .ok (.bool true) w := by kernel_rfl
theorem A.to25 (v : Value) (w : World) : (ReflectliteType.typeOf #[.iface 25 v]).run Tryd.prog w = .ok (.iface 223 (.agg #[.pointer (some ⟨6, 25, none⟩)])) w := by kernel_rfl
theorem A.to22 (v : Value) (w : World) : (ReflectliteType.typeOf #[.iface 22 v]).run Tryd.prog w = .ok (.iface 223 (.agg #[.pointer (some ⟨6, 22, none⟩)])) w := by kernel_rfl
theorem A.as25 (w : World) : (ReflectliteType.relation "AssignableTo" ReflectliteType.assignableTo #[.agg #[.pointer (some ⟨6, 25, none⟩)], .iface 223 (.agg #[.pointer (some ⟨6, 25, none⟩)])]).run Tryd.prog w = .ok (.bool true) w := by kernel_rfl
theorem A.as22 (w : World) : (ReflectliteType.relation "AssignableTo" ReflectliteType.assignableTo #[.agg #[.pointer (some ⟨6, 22, none⟩)], .iface 223 (.agg #[.pointer (some ⟨6, 22, none⟩)])]).run Tryd.prog w = .ok (.bool true) w := by kernel_rfl
theorem A.as2522 (w : World) : (ReflectliteType.relation "AssignableTo" ReflectliteType.assignableTo #[.agg #[.pointer (some ⟨6, 25, none⟩)], .iface 223 (.agg #[.pointer (some ⟨6, 22, none⟩)])]).run Tryd.prog w = .ok (.bool false) w := by kernel_rfl
theorem A.as2225 (w : World) : (ReflectliteType.relation "AssignableTo" ReflectliteType.assignableTo #[.agg #[.pointer (some ⟨6, 22, none⟩)], .iface 223 (.agg #[.pointer (some ⟨6, 25, none⟩)])]).run Tryd.prog w = .ok (.bool false) w := by kernel_rfl
theorem A.vo25 (e : Addr) (w : World) : (ReflectliteValue.unpack (.iface 25 (.pointer (some e)))).run Tryd.prog w
    = .ok (.agg #[.pointer (some ⟨6, 25, none⟩), .pointer (some ⟨w.heap.size, 0, none⟩), .int .u64 150]) (w.alloc (.cells #[.pointer (some e)] 25)) := by kernel_rfl
theorem A.vo22 (e : Int) (w : World) : (ReflectliteValue.unpack (.iface 22 (.int .i64 e))).run Tryd.prog w
    = .ok (.agg #[.pointer (some ⟨6, 22, none⟩), .pointer (some ⟨w.heap.size, 0, none⟩), .int .u64 130]) (w.alloc (.cells #[.int .i64 e] 22)) := by kernel_rfl
theorem A.ta22_228 (v : Value) (w : World) : (Instr.typeAssert (.iface 22 v) 27 228 true).run Tryd.prog w = .ok (.tuple #[.nilIface, .bool false]) w := run_typeAssert_lacksB Tryd.underlying228 (by kernel_rfl) (by kernel_rfl) v 27 w
theorem A.ta22_231 (v : Value) (w : World) : (Instr.typeAssert (.iface 22 v) 27 231 true).run Tryd.prog w = .ok (.tuple #[.nilIface, .bool false]) w := run_typeAssert_lacksB Tryd.underlying231 (by kernel_rfl) (by kernel_rfl) v 27 w
theorem A.ta22_232 (v : Value) (w : World) : (Instr.typeAssert (.iface 22 v) 27 232 true).run Tryd.prog w = .ok (.tuple #[.nilIface, .bool false]) w := run_typeAssert_lacksB Tryd.underlying232 (by kernel_rfl) (by kernel_rfl) v 27 w
theorem A.ta25_228 (v : Value) (w : World) : (Instr.typeAssert (.iface 25 v) 27 228 true).run Tryd.prog w = .ok (.tuple #[.nilIface, .bool false]) w := run_typeAssert_lacksB Tryd.underlying228 (by kernel_rfl) (by kernel_rfl) v 27 w
theorem A.ta25_231 (v : Value) (w : World) : (Instr.typeAssert (.iface 25 v) 27 231 true).run Tryd.prog w = .ok (.tuple #[.iface 25 v, .bool true]) w := run_typeAssert_hasB Tryd.underlying231 (by kernel_rfl) v 27 w
theorem A.mUnwrap (e : Addr) (w : World) : (Go.method 384 25 (.pointer (some e)) "Unwrap").run Tryd.prog w = .ok (191, .pointer (some e)) w := by kernel_rfl
end Go.Proofs.YtfmaeiilbhpepaaDoor
