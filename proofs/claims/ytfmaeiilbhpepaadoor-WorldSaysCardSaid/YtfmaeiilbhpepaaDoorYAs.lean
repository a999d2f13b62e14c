/- A part of the proof. -/
import Derived.Test.YtfmaeiilbhpepaaDoorProg
import Derived.WalkKit
import Derived.LaidEql
import Derived.Stop.Asserts
import Derived.RowKitTokens
import Derived.Outline
import Derived.Test.YtfmaeiilbhpepaaDoorYC2
import Derived.IntWalk
set_option linter.unusedVariables false
set_option linter.unusedSimpArgs false
namespace Go.Proofs.YtfmaeiilbhpepaaDoor
open Go.RowKit Go.Extern.Stop Go.Stop Go.Extern
set_option linter.unusedVariables false
set_option linter.unusedSimpArgs false
/-! 25: *api.Fault · 136: **api.Fault · 22: api.Errno · 137: *api.Errno · 27: error · 223: reflectlite's rtype · 6: how many variables -/
theorem A.vo136 (t : Addr) (w : World) : (ReflectliteValue.unpack (.iface 136 (.pointer (some t)))).run Tryd.prog w
    = .ok (.agg #[.pointer (some ⟨6, 136, none⟩), .pointer (some ⟨w.heap.size, 0, none⟩), .int .u64 150]) (w.alloc (.cells #[.pointer (some t)] 136)) := by kernel_rfl
theorem A.vo137 (t : Addr) (w : World) : (ReflectliteValue.unpack (.iface 137 (.pointer (some t)))).run Tryd.prog w
    = .ok (.agg #[.pointer (some ⟨6, 137, none⟩), .pointer (some ⟨w.heap.size, 0, none⟩), .int .u64 150]) (w.alloc (.cells #[.pointer (some t)] 137)) := by kernel_rfl
theorem A.ty136 (a : Addr) (w : World) : (ReflectliteValue.methodAny (ReflectliteValue.valueError "reflectlite.Value.Type" 0) (fun t _ _ _ => ReflectliteType.toType t) #[.agg #[.pointer (some ⟨6, 136, none⟩), .pointer (some a), .int .u64 150]]).run Tryd.prog w
    = .ok (.iface 223 (.agg #[.pointer (some ⟨6, 136, none⟩)])) w := by kernel_rfl
theorem A.ty137 (a : Addr) (w : World) : (ReflectliteValue.methodAny (ReflectliteValue.valueError "reflectlite.Value.Type" 0) (fun t _ _ _ => ReflectliteType.toType t) #[.agg #[.pointer (some ⟨6, 137, none⟩), .pointer (some a), .int .u64 150]]).run Tryd.prog w
    = .ok (.iface 223 (.agg #[.pointer (some ⟨6, 137, none⟩)])) w := by kernel_rfl
theorem A.mKind (h : Value) (w : World) : (Go.method 384 223 (.agg #[h]) "Kind").run Tryd.prog w = .ok (186, h) w := by kernel_rfl
theorem A.k136 (w : World) : ((ReflectliteType.abiMethod fun t => (fun a : Nat => Value.int IntKind.u8 (a : Int)) <$> Rtype.kind t) #[.pointer (some ⟨6, 136, none⟩)]).run Tryd.prog w = .ok (.int .u8 22) w := by kernel_rfl
theorem A.k137 (w : World) : ((ReflectliteType.abiMethod fun t => (fun a : Nat => Value.int IntKind.u8 (a : Int)) <$> Rtype.kind t) #[.pointer (some ⟨6, 137, none⟩)]).run Tryd.prog w = .ok (.int .u8 22) w := by kernel_rfl
theorem A.k25 (w : World) : ((ReflectliteType.abiMethod fun t => (fun a : Nat => Value.int IntKind.u8 (a : Int)) <$> Rtype.kind t) #[.pointer (some ⟨6, 25, none⟩)]).run Tryd.prog w = .ok (.int .u8 22) w := by kernel_rfl
theorem A.k22 (w : World) : ((ReflectliteType.abiMethod fun t => (fun a : Nat => Value.int IntKind.u8 (a : Int)) <$> Rtype.kind t) #[.pointer (some ⟨6, 22, none⟩)]).run Tryd.prog w = .ok (.int .u8 2) w := by kernel_rfl
theorem A.mElem (h : Value) (w : World) : (Go.method 384 223 (.agg #[h]) "Elem").run Tryd.prog w = .ok (199, .agg #[h]) w := by kernel_rfl
theorem A.mImpl (h : Value) (w : World) : (Go.method 384 223 (.agg #[h]) "Implements").run Tryd.prog w = .ok (200, .agg #[h]) w := by kernel_rfl
theorem A.mAssn (h : Value) (w : World) : (Go.method 384 223 (.agg #[h]) "AssignableTo").run Tryd.prog w = .ok (197, .agg #[h]) w := by kernel_rfl
theorem A.el136 (w : World) : (ReflectliteType.method ReflectliteType.elem #[.agg #[.pointer (some ⟨6, 136, none⟩)]]).run Tryd.prog w = .ok (.iface 223 (.agg #[.pointer (some ⟨6, 25, none⟩)])) w := by kernel_rfl
theorem A.el137 (w : World) : (ReflectliteType.method ReflectliteType.elem #[.agg #[.pointer (some ⟨6, 137, none⟩)]]).run Tryd.prog w = .ok (.iface 223 (.agg #[.pointer (some ⟨6, 22, none⟩)])) w := by kernel_rfl
theorem A.im25 (w : World) : (ReflectliteType.relation "Implements" ReflectliteType.implements_ #[.agg #[.pointer (some ⟨6, 25, none⟩)], .iface 223 (.agg #[.pointer (some ⟨6, 27, none⟩)])]).run Tryd.prog w = .ok (.bool true) w := by kernel_rfl
theorem A.im22 (w : World) : (ReflectliteType.relation "Implements" ReflectliteType.implements_ #[.agg #[.pointer (some ⟨6, 22, none⟩)], .iface 223 (.agg #[.pointer (some ⟨6, 27, none⟩)])]).run Tryd.prog w = .ok (.bool true) w := by kernel_rfl
theorem A.to25 (v : Value) (w : World) : (ReflectliteType.typeOf #[.iface 25 v]).run Tryd.prog w = .ok (.iface 223 (.agg #[.pointer (some ⟨6, 25, none⟩)])) w := by kernel_rfl
theorem A.to22 (v : Value) (w : World) : (ReflectliteType.typeOf #[.iface 22 v]).run Tryd.prog w = .ok (.iface 223 (.agg #[.pointer (some ⟨6, 22, none⟩)])) w := by kernel_rfl
theorem A.as25 (w : World) : (ReflectliteType.relation "AssignableTo" ReflectliteType.assignableTo #[.agg #[.pointer (some ⟨6, 25, none⟩)], .iface 223 (.agg #[.pointer (some ⟨6, 25, none⟩)])]).run Tryd.prog w = .ok (.bool true) w := by kernel_rfl
theorem A.as22 (w : World) : (ReflectliteType.relation "AssignableTo" ReflectliteType.assignableTo #[.agg #[.pointer (some ⟨6, 22, none⟩)], .iface 223 (.agg #[.pointer (some ⟨6, 22, none⟩)])]).run Tryd.prog w = .ok (.bool true) w := by kernel_rfl
theorem A.as2522 (w : World) : (ReflectliteType.relation "AssignableTo" ReflectliteType.assignableTo #[.agg #[.pointer (some ⟨6, 25, none⟩)], .iface 223 (.agg #[.pointer (some ⟨6, 22, none⟩)])]).run Tryd.prog w = .ok (.bool false) w := by kernel_rfl
theorem A.as2225 (w : World) : (ReflectliteType.relation "AssignableTo" ReflectliteType.assignableTo #[.agg #[.pointer (some ⟨6, 22, none⟩)], .iface 223 (.agg #[.pointer (some ⟨6, 25, none⟩)])]).run Tryd.prog w = .ok (.bool false) w := by kernel_rfl
theorem A.vo25 (e : Addr) (w : World) : (ReflectliteValue.unpack (.iface 25 (.pointer (some e)))).run Tryd.prog w
    = .ok (.agg #[.pointer (some ⟨6, 25, none⟩), .pointer (some ⟨w.heap.size, 0, none⟩), .int .u64 150]) (w.alloc (.cells #[.pointer (some e)] 25)) := by kernel_rfl
theorem A.vo22 (e : Int) (w : World) : (ReflectliteValue.unpack (.iface 22 (.int .i64 e))).run Tryd.prog w
    = .ok (.agg #[.pointer (some ⟨6, 22, none⟩), .pointer (some ⟨w.heap.size, 0, none⟩), .int .u64 130]) (w.alloc (.cells #[.int .i64 e] 22)) := by kernel_rfl
theorem A.ta22_228 (v : Value) (w : World) : (Instr.typeAssert (.iface 22 v) 27 228 true).run Tryd.prog w = .ok (.tuple #[.nilIface, .bool false]) w := run_typeAssert_lacksB Tryd.underlying228 (by kernel_rfl) (by kernel_rfl) v 27 w
theorem A.ta22_231 (v : Value) (w : World) : (Instr.typeAssert (.iface 22 v) 27 231 true).run Tryd.prog w = .ok (.tuple #[.nilIface, .bool false]) w := run_typeAssert_lacksB Tryd.underlying231 (by kernel_rfl) (by kernel_rfl) v 27 w
theorem A.ta22_232 (v : Value) (w : World) : (Instr.typeAssert (.iface 22 v) 27 232 true).run Tryd.prog w = .ok (.tuple #[.nilIface, .bool false]) w := run_typeAssert_lacksB Tryd.underlying232 (by kernel_rfl) (by kernel_rfl) v 27 w
theorem A.ta25_228 (v : Value) (w : World) : (Instr.typeAssert (.iface 25 v) 27 228 true).run Tryd.prog w = .ok (.tuple #[.nilIface, .bool false]) w := run_typeAssert_lacksB Tryd.underlying228 (by kernel_rfl) (by kernel_rfl) v 27 w
theorem A.ta25_231 (v : Value) (w : World) : (Instr.typeAssert (.iface 25 v) 27 231 true).run Tryd.prog w = .ok (.tuple #[.iface 25 v, .bool true]) w := run_typeAssert_hasB Tryd.underlying231 (by kernel_rfl) v 27 w
theorem A.mUnwrap (e : Addr) (w : World) : (Go.method 384 25 (.pointer (some e)) "Unwrap").run Tryd.prog w = .ok (191, .pointer (some e)) w := by kernel_rfl
end Go.Proofs.YtfmaeiilbhpepaaDoor
namespace Go.Proofs.YtfmaeiilbhpepaaDoor
open Go.RowKit Go.Extern.Stop Go.Stop Go.Extern
set_option linter.unusedVariables false
set_option linter.unusedSimpArgs false
theorem A.rlm (z : Sem Value) (f : TypeId → Addr → Nat → Nat → Sem Value) (v : Value) :
    ReflectliteValue.method z f #[v] = (do match ← ReflectliteValue.parts v with | none => z | some (t, a, fl) => f t a fl (fl % 32)) := rfl
theorem A.rls (v x : Value) : ReflectliteValue.set #[v, x] = (do
    let (some (dst, a, fl), some (src, b, _)) := (← ReflectliteValue.parts v, ← ReflectliteValue.parts x)
      | unsupported (.noEntry "extern/(internal/reflectlite.Value).Set.zeroValue")
    if fl / ReflectliteValue.flagAddr % 2 == 0 then unsupported (.noEntry "extern/(internal/reflectlite.Value).Set.unaddressable")
    let val ← loadVar src b
    if ← Rtype.directlyAssignable dst src then storeVar dst a val
    else if ← Rtype.implements dst src then
      if (← Rtype.kind src) == 20 then
        match val with
        | .nilIface => unsupported (.noEntry "extern/reflectlite: a nil value of one interface type handed on as a value of another")
        | _ => storeVar dst a val
      else storeVar dst a (.iface src val)
    else panicString ("reflectlite.Set: value of type " ++ (← Rtype.spelt src) ++ " is not assignable to type " ++ (← Rtype.spelt dst))
    pure (.tuple #[])) := rfl

theorem A.parts136 (a : Addr) (w : World) : (ReflectliteValue.parts (.agg #[.pointer (some ⟨6, 136, none⟩), .pointer (some a), .int .u64 150])).run Tryd.prog w = .ok (some (136, a, 150)) w := by kernel_rfl
theorem A.isNil136 (a p : Addr) (W : World) (ha : W.cell? a = some (.pointer (some p))) :
    (ReflectliteValue.method (ReflectliteValue.valueError "reflectlite.Value.IsNil" 0) ReflectliteValue.isNil #[.agg #[.pointer (some ⟨6, 136, none⟩), .pointer (some a), .int .u64 150]]).run Tryd.prog W = .ok (.bool false) W := by
  rw [A.rlm]
  simp only [Sem.run_bind, A.parts136, Result.andThen]
  simp [ReflectliteValue.isNil, loadVar, isAgg, underlying, Tryd.underlying136, ha, Result.andThen]
theorem A.elemOf136 (w : World) : (Rtype.elem? 136).run Tryd.prog w = .ok (some 25) w := by kernel_rfl
theorem A.mk25 (p : Addr) (w : World) : (ReflectliteValue.mk 25 p ReflectliteValue.flagAddr).run Tryd.prog w = .ok (.agg #[.pointer (some ⟨6, 25, none⟩), .pointer (some p), .int .u64 406]) w := by kernel_rfl
theorem A.elemV136 (a p : Addr) (W : World) (ha : W.cell? a = some (.pointer (some p))) :
    (ReflectliteValue.method (ReflectliteValue.valueError "reflectlite.Value.Elem" 0) ReflectliteValue.elem #[.agg #[.pointer (some ⟨6, 136, none⟩), .pointer (some a), .int .u64 150]]).run Tryd.prog W
      = .ok (.agg #[.pointer (some ⟨6, 25, none⟩), .pointer (some p), .int .u64 406]) W := by
  rw [A.rlm]
  simp only [Sem.run_bind, A.parts136, Result.andThen]
  simp [ReflectliteValue.elem, loadVar, isAgg, underlying, Tryd.underlying136, ha, Result.andThen, A.elemOf136, A.mk25]
theorem A.parts25a (a : Addr) (w : World) : (ReflectliteValue.parts (.agg #[.pointer (some ⟨6, 25, none⟩), .pointer (some a), .int .u64 406])).run Tryd.prog w = .ok (some (25, a, 406)) w := by kernel_rfl
theorem A.parts25 (a : Addr) (w : World) : (ReflectliteValue.parts (.agg #[.pointer (some ⟨6, 25, none⟩), .pointer (some a), .int .u64 150])).run Tryd.prog w = .ok (some (25, a, 150)) w := by kernel_rfl
theorem A.direct25 (w : World) : (Rtype.directlyAssignable 25 25).run Tryd.prog w = .ok true w := by kernel_rfl
theorem A.size25 (w : World) : (sizeOf 25).run Tryd.prog w = .ok 1 w := by kernel_rfl
theorem A.set25 (ta b : Addr) (e : Addr) (old : Value) (W : World) (hb : W.cell? b = some (.pointer (some e))) (ht : W.cell? ta = some old) (hf : W.frozen? ta = false) :
    (ReflectliteValue.set #[.agg #[.pointer (some ⟨6, 25, none⟩), .pointer (some ta), .int .u64 406], .agg #[.pointer (some ⟨6, 25, none⟩), .pointer (some b), .int .u64 150]]).run Tryd.prog W
      = .ok (.tuple #[]) (W.setCell ta (.pointer (some e))) := by
  rw [A.rls]
  simp only [Sem.run_bind, A.parts25a, A.parts25, Result.andThen]
  simp [ReflectliteValue.flagAddr, loadVar, isAgg, underlying, Tryd.underlying25, hb, Result.andThen, A.direct25, storeVar, Value.cells, storeCells, Addr.add]
  rw [run_store Tryd.prog W ta _ _ (by rfl)]
  simp [ht, hf]

theorem A.parts137 (a : Addr) (w : World) : (ReflectliteValue.parts (.agg #[.pointer (some ⟨6, 137, none⟩), .pointer (some a), .int .u64 150])).run Tryd.prog w = .ok (some (137, a, 150)) w := by kernel_rfl
theorem A.isNil137 (a p : Addr) (W : World) (ha : W.cell? a = some (.pointer (some p))) :
    (ReflectliteValue.method (ReflectliteValue.valueError "reflectlite.Value.IsNil" 0) ReflectliteValue.isNil #[.agg #[.pointer (some ⟨6, 137, none⟩), .pointer (some a), .int .u64 150]]).run Tryd.prog W = .ok (.bool false) W := by
  rw [A.rlm]
  simp only [Sem.run_bind, A.parts137, Result.andThen]
  simp [ReflectliteValue.isNil, loadVar, isAgg, underlying, Tryd.underlying137, ha, Result.andThen]
theorem A.elemOf137 (w : World) : (Rtype.elem? 137).run Tryd.prog w = .ok (some 22) w := by kernel_rfl
theorem A.mk22 (p : Addr) (w : World) : (ReflectliteValue.mk 22 p ReflectliteValue.flagAddr).run Tryd.prog w = .ok (.agg #[.pointer (some ⟨6, 22, none⟩), .pointer (some p), .int .u64 386]) w := by kernel_rfl
theorem A.elemV137 (a p : Addr) (W : World) (ha : W.cell? a = some (.pointer (some p))) :
    (ReflectliteValue.method (ReflectliteValue.valueError "reflectlite.Value.Elem" 0) ReflectliteValue.elem #[.agg #[.pointer (some ⟨6, 137, none⟩), .pointer (some a), .int .u64 150]]).run Tryd.prog W
      = .ok (.agg #[.pointer (some ⟨6, 22, none⟩), .pointer (some p), .int .u64 386]) W := by
  rw [A.rlm]
  simp only [Sem.run_bind, A.parts137, Result.andThen]
  simp [ReflectliteValue.elem, loadVar, isAgg, underlying, Tryd.underlying137, ha, Result.andThen, A.elemOf137, A.mk22]
theorem A.parts22a (a : Addr) (w : World) : (ReflectliteValue.parts (.agg #[.pointer (some ⟨6, 22, none⟩), .pointer (some a), .int .u64 386])).run Tryd.prog w = .ok (some (22, a, 386)) w := by kernel_rfl
theorem A.parts22 (a : Addr) (w : World) : (ReflectliteValue.parts (.agg #[.pointer (some ⟨6, 22, none⟩), .pointer (some a), .int .u64 130])).run Tryd.prog w = .ok (some (22, a, 130)) w := by kernel_rfl
theorem A.direct22 (w : World) : (Rtype.directlyAssignable 22 22).run Tryd.prog w = .ok true w := by kernel_rfl
theorem A.size22 (w : World) : (sizeOf 22).run Tryd.prog w = .ok 1 w := by kernel_rfl
theorem A.set22 (ta b : Addr) (e : Int) (old : Value) (W : World) (hb : W.cell? b = some (.int .i64 e)) (ht : W.cell? ta = some old) (hf : W.frozen? ta = false) :
    (ReflectliteValue.set #[.agg #[.pointer (some ⟨6, 22, none⟩), .pointer (some ta), .int .u64 386], .agg #[.pointer (some ⟨6, 22, none⟩), .pointer (some b), .int .u64 130]]).run Tryd.prog W
      = .ok (.tuple #[]) (W.setCell ta (.int .i64 e)) := by
  rw [A.rls]
  simp only [Sem.run_bind, A.parts22a, A.parts22, Result.andThen]
  simp [ReflectliteValue.flagAddr, loadVar, isAgg, underlying, Tryd.underlying22, hb, Result.andThen, A.direct22, storeVar, Value.cells, storeCells, Addr.add]
  rw [run_store Tryd.prog W ta _ _ (by rfl)]
  simp [ht, hf]

theorem A.x113 (args : Array Value) (w : World) : (callFunc 113 args).run Tryd.prog w = (((fun args => ReflectliteValue.unpack (args.getD 0 (.tuple #[]))) args).run Tryd.prog w).andThen fun v w' => .ok (.value v) w' := @run_callFunc_extern Tryd.prog 113 _ (fun args => ReflectliteValue.unpack (args.getD 0 (.tuple #[]))) Tryd.func113 (by kernel_rfl) (by kernel_rfl) (by kernel_rfl) (by kernel_rfl) args w
theorem A.x114 (args : Array Value) (w : World) : (callFunc 114 args).run Tryd.prog w = (((ReflectliteValue.methodAny (ReflectliteValue.valueError "reflectlite.Value.Type" 0) (fun t _ _ _ => ReflectliteType.toType t)) args).run Tryd.prog w).andThen fun v w' => .ok (.value v) w' := @run_callFunc_extern Tryd.prog 114 _ (ReflectliteValue.methodAny (ReflectliteValue.valueError "reflectlite.Value.Type" 0) (fun t _ _ _ => ReflectliteType.toType t)) Tryd.func114 (by kernel_rfl) (by kernel_rfl) (by kernel_rfl) (by kernel_rfl) args w
theorem A.x115 (args : Array Value) (w : World) : (callFunc 115 args).run Tryd.prog w = (((ReflectliteValue.method (ReflectliteValue.valueError "reflectlite.Value.IsNil" 0) ReflectliteValue.isNil) args).run Tryd.prog w).andThen fun v w' => .ok (.value v) w' := @run_callFunc_extern Tryd.prog 115 _ (ReflectliteValue.method (ReflectliteValue.valueError "reflectlite.Value.IsNil" 0) ReflectliteValue.isNil) Tryd.func115 (by kernel_rfl) (by kernel_rfl) (by kernel_rfl) (by kernel_rfl) args w
theorem A.x186 (args : Array Value) (w : World) : (callFunc 186 args).run Tryd.prog w = (((ReflectliteType.abiMethod fun t => do pure (.int .u8 (← Rtype.kind t))) args).run Tryd.prog w).andThen fun v w' => .ok (.value v) w' := @run_callFunc_extern Tryd.prog 186 _ (ReflectliteType.abiMethod fun t => do pure (.int .u8 (← Rtype.kind t))) Tryd.func186 (by kernel_rfl) (by kernel_rfl) (by kernel_rfl) (by kernel_rfl) args w
theorem A.x199 (args : Array Value) (w : World) : (callFunc 199 args).run Tryd.prog w = (((ReflectliteType.method ReflectliteType.elem) args).run Tryd.prog w).andThen fun v w' => .ok (.value v) w' := @run_callFunc_extern Tryd.prog 199 _ (ReflectliteType.method ReflectliteType.elem) Tryd.func199 (by kernel_rfl) (by kernel_rfl) (by kernel_rfl) (by kernel_rfl) args w
theorem A.x200 (args : Array Value) (w : World) : (callFunc 200 args).run Tryd.prog w = (((ReflectliteType.relation "Implements" ReflectliteType.implements_) args).run Tryd.prog w).andThen fun v w' => .ok (.value v) w' := @run_callFunc_extern Tryd.prog 200 _ (ReflectliteType.relation "Implements" ReflectliteType.implements_) Tryd.func200 (by kernel_rfl) (by kernel_rfl) (by kernel_rfl) (by kernel_rfl) args w
theorem A.x151 (args : Array Value) (w : World) : (callFunc 151 args).run Tryd.prog w = ((ReflectliteType.typeOf args).run Tryd.prog w).andThen fun v w' => .ok (.value v) w' := @run_callFunc_extern Tryd.prog 151 _ ReflectliteType.typeOf Tryd.func151 (by kernel_rfl) (by kernel_rfl) (by kernel_rfl) (by kernel_rfl) args w
theorem A.x197 (args : Array Value) (w : World) : (callFunc 197 args).run Tryd.prog w = (((ReflectliteType.relation "AssignableTo" ReflectliteType.assignableTo) args).run Tryd.prog w).andThen fun v w' => .ok (.value v) w' := @run_callFunc_extern Tryd.prog 197 _ (ReflectliteType.relation "AssignableTo" ReflectliteType.assignableTo) Tryd.func197 (by kernel_rfl) (by kernel_rfl) (by kernel_rfl) (by kernel_rfl) args w
theorem A.x152 (args : Array Value) (w : World) : (callFunc 152 args).run Tryd.prog w = (((ReflectliteValue.method (ReflectliteValue.valueError "reflectlite.Value.Elem" 0) ReflectliteValue.elem) args).run Tryd.prog w).andThen fun v w' => .ok (.value v) w' := @run_callFunc_extern Tryd.prog 152 _ (ReflectliteValue.method (ReflectliteValue.valueError "reflectlite.Value.Elem" 0) ReflectliteValue.elem) Tryd.func152 (by kernel_rfl) (by kernel_rfl) (by kernel_rfl) (by kernel_rfl) args w
theorem A.x153 (args : Array Value) (w : World) : (callFunc 153 args).run Tryd.prog w = ((ReflectliteValue.set args).run Tryd.prog w).andThen fun v w' => .ok (.value v) w' := @run_callFunc_extern Tryd.prog 153 _ ReflectliteValue.set Tryd.func153 (by kernel_rfl) (by kernel_rfl) (by kernel_rfl) (by kernel_rfl) args w
end Go.Proofs.YtfmaeiilbhpepaaDoor
namespace Go.Proofs.YtfmaeiilbhpepaaDoor
open Go.RowKit Go.Extern.Stop Go.Stop Go.Extern
set_option linter.unusedVariables false
set_option linter.unusedSimpArgs false
theorem A.cell_lt {w : World} {a : Addr} {x : Value} (h : w.cell? a = some x) : a.block < w.heap.size := by
  rcases Nat.lt_or_ge a.block w.heap.size with h' | h'
  · exact h'
  · simp [World.cell?, Array.getElem?_eq_none h'] at h
theorem A.unwrap (e : Addr) (v : Value) (w : World) (h : w.cell? ⟨e.block, e.off + 1, none⟩ = some v) :
    Calls Tryd.prog 191 #[.pointer (some e)] w fun ev w' => ev = .returned v ∧ w' = w := by
  go_enter Tryd.func191, Tryd.ntmps191
  go_wp2
  go_ret
  exact ⟨rfl, rfl⟩

set_option maxHeartbeats 4000000 in
theorem A.as_f (e : Addr) (t : Addr) (old : Value) (w : World) (hg : w.cell? ⟨2, 0, none⟩ = some (.iface 223 (.agg #[.pointer (some ⟨6, 27, none⟩)]))) (ht0 : w.cell? t = some old) (hf0 : w.frozen? t = false) :
    Calls Tryd.prog 68 #[.iface 25 (.pointer (some e)), .iface 136 (.pointer (some t))] w fun ev w' => ev = .returned (.bool true) ∧ w' = (((((w.alloc (.cells #[.pointer (some t)] 136)).alloc (.cells #[.pointer (some ⟨6, 136, none⟩), .pointer (some ⟨w.heap.size, 0, none⟩), .int .u64 150] 194)).alloc (.cells #[.pointer (some ⟨6, 136, none⟩), .pointer (some ⟨w.heap.size, 0, none⟩), .int .u64 150] 194)).alloc (.cells #[.pointer (some e)] 25))).setCell t (.pointer (some e)) := by
  have hx113 := A.x113
  have hx114 := A.x114
  have hx115 := A.x115
  have hx186 := A.x186
  have hx199 := A.x199
  have hx200 := A.x200
  have hx151 := A.x151
  have hx197 := A.x197
  have hx152 := A.x152
  have hx153 := A.x153
  have hmKind := A.mKind
  have hmElem := A.mElem
  have hmImpl := A.mImpl
  have hmAssn := A.mAssn
  have hto25 := A.to25
  have hto22 := A.to22
  have has25 := A.as25
  have has22 := A.as22
  have has2522 := A.as2522
  have has2225 := A.as2225
  have hvo25 := A.vo25
  have hvo22 := A.vo22
  have hvo136 := A.vo136
  have hvo137 := A.vo137
  have hty136 := A.ty136
  have hty137 := A.ty137
  have hk136 := A.k136
  have hk137 := A.k137
  have hk25 := A.k25
  have hk22 := A.k22
  have hel136 := A.el136
  have hel137 := A.el137
  have him25 := A.im25
  have him22 := A.im22
  have hta22_228 := A.ta22_228
  have hta22_231 := A.ta22_231
  have hta22_232 := A.ta22_232
  have hta25_228 := A.ta25_228
  have hta25_231 := A.ta25_231
  have hmUnwrap := A.mUnwrap
  have n8 := A.isNil136 ⟨w.heap.size, 0, none⟩ t ((w.alloc (.cells #[.pointer (some t)] 136)).alloc (.cells #[.pointer (some ⟨6, 136, none⟩), .pointer (some ⟨w.heap.size, 0, none⟩), .int .u64 150] 194)) (by simp)
  have hlt : 2 < w.heap.size := A.cell_lt hg
  have htl : t.block < w.heap.size := A.cell_lt ht0
  have hg2 : (((w.alloc (.cells #[.pointer (some t)] 136)).alloc (.cells #[.pointer (some ⟨6, 136, none⟩), .pointer (some ⟨w.heap.size, 0, none⟩), .int .u64 150] 194))).cell? ⟨2, 0, none⟩ = some (.iface 223 (.agg #[.pointer (some ⟨6, 27, none⟩)])) := by
    rw [World.cell?_alloc_lt _ _ ⟨2, 0, none⟩ (by simp; omega), World.cell?_alloc_lt _ _ ⟨2, 0, none⟩ hlt]; exact hg
  have el := A.elemV136 ⟨w.heap.size, 0, none⟩ t (((w.alloc (.cells #[.pointer (some t)] 136)).alloc (.cells #[.pointer (some ⟨6, 136, none⟩), .pointer (some ⟨w.heap.size, 0, none⟩), .int .u64 150] 194)).alloc (.cells #[.pointer (some ⟨6, 136, none⟩), .pointer (some ⟨w.heap.size, 0, none⟩), .int .u64 150] 194)) (by rw [World.cell?_alloc_lt _ _ ⟨w.heap.size, 0, none⟩ (by simp; omega)]; simp)
  have st := A.set25 t ⟨w.heap.size + 1 + 1 + 1, 0, none⟩ e old ((((w.alloc (.cells #[.pointer (some t)] 136)).alloc (.cells #[.pointer (some ⟨6, 136, none⟩), .pointer (some ⟨w.heap.size, 0, none⟩), .int .u64 150] 194)).alloc (.cells #[.pointer (some ⟨6, 136, none⟩), .pointer (some ⟨w.heap.size, 0, none⟩), .int .u64 150] 194)).alloc (.cells #[.pointer (some e)] 25))
    (by rw [World.cell?_alloc_at _ _ _ _ (by simp)]; rfl)
    (by rw [World.cell?_alloc_lt _ _ t (by simp; omega), World.cell?_alloc_lt _ _ t (by simp; omega), World.cell?_alloc_lt _ _ t (by simp; omega), World.cell?_alloc_lt _ _ t htl]; exact ht0)
    (by rw [World.frozen?_alloc_old _ _ t (by simp; omega), World.frozen?_alloc_old _ _ t (by simp; omega), World.frozen?_alloc_old _ _ t (by simp; omega), World.frozen?_alloc_old _ _ t (Nat.ne_of_lt htl)]; exact hf0)
  go_enter Tryd.func68, Tryd.ntmps68
  go_wp2
  refine wp_loop_rounds 1 ?_
  rw [rounds_succ]
  go_wp2
  go_ret
  exact ⟨rfl, rfl⟩

set_option maxHeartbeats 4000000 in
theorem A.as_e (c : Int) (t : Addr) (old : Value) (w : World) (hg : w.cell? ⟨2, 0, none⟩ = some (.iface 223 (.agg #[.pointer (some ⟨6, 27, none⟩)]))) (ht0 : w.cell? t = some old) (hf0 : w.frozen? t = false) :
    Calls Tryd.prog 68 #[.iface 22 (.int .i64 c), .iface 137 (.pointer (some t))] w fun ev w' => ev = .returned (.bool true) ∧ w' = (((((w.alloc (.cells #[.pointer (some t)] 137)).alloc (.cells #[.pointer (some ⟨6, 137, none⟩), .pointer (some ⟨w.heap.size, 0, none⟩), .int .u64 150] 194)).alloc (.cells #[.pointer (some ⟨6, 137, none⟩), .pointer (some ⟨w.heap.size, 0, none⟩), .int .u64 150] 194)).alloc (.cells #[.int .i64 c] 22))).setCell t (.int .i64 c) := by
  have hx113 := A.x113
  have hx114 := A.x114
  have hx115 := A.x115
  have hx186 := A.x186
  have hx199 := A.x199
  have hx200 := A.x200
  have hx151 := A.x151
  have hx197 := A.x197
  have hx152 := A.x152
  have hx153 := A.x153
  have hmKind := A.mKind
  have hmElem := A.mElem
  have hmImpl := A.mImpl
  have hmAssn := A.mAssn
  have hto25 := A.to25
  have hto22 := A.to22
  have has25 := A.as25
  have has22 := A.as22
  have has2522 := A.as2522
  have has2225 := A.as2225
  have hvo25 := A.vo25
  have hvo22 := A.vo22
  have hvo136 := A.vo136
  have hvo137 := A.vo137
  have hty136 := A.ty136
  have hty137 := A.ty137
  have hk136 := A.k136
  have hk137 := A.k137
  have hk25 := A.k25
  have hk22 := A.k22
  have hel136 := A.el136
  have hel137 := A.el137
  have him25 := A.im25
  have him22 := A.im22
  have hta22_228 := A.ta22_228
  have hta22_231 := A.ta22_231
  have hta22_232 := A.ta22_232
  have hta25_228 := A.ta25_228
  have hta25_231 := A.ta25_231
  have hmUnwrap := A.mUnwrap
  have n8 := A.isNil137 ⟨w.heap.size, 0, none⟩ t ((w.alloc (.cells #[.pointer (some t)] 137)).alloc (.cells #[.pointer (some ⟨6, 137, none⟩), .pointer (some ⟨w.heap.size, 0, none⟩), .int .u64 150] 194)) (by simp)
  have hlt : 2 < w.heap.size := A.cell_lt hg
  have htl : t.block < w.heap.size := A.cell_lt ht0
  have hg2 : (((w.alloc (.cells #[.pointer (some t)] 137)).alloc (.cells #[.pointer (some ⟨6, 137, none⟩), .pointer (some ⟨w.heap.size, 0, none⟩), .int .u64 150] 194))).cell? ⟨2, 0, none⟩ = some (.iface 223 (.agg #[.pointer (some ⟨6, 27, none⟩)])) := by
    rw [World.cell?_alloc_lt _ _ ⟨2, 0, none⟩ (by simp; omega), World.cell?_alloc_lt _ _ ⟨2, 0, none⟩ hlt]; exact hg
  have el := A.elemV137 ⟨w.heap.size, 0, none⟩ t (((w.alloc (.cells #[.pointer (some t)] 137)).alloc (.cells #[.pointer (some ⟨6, 137, none⟩), .pointer (some ⟨w.heap.size, 0, none⟩), .int .u64 150] 194)).alloc (.cells #[.pointer (some ⟨6, 137, none⟩), .pointer (some ⟨w.heap.size, 0, none⟩), .int .u64 150] 194)) (by rw [World.cell?_alloc_lt _ _ ⟨w.heap.size, 0, none⟩ (by simp; omega)]; simp)
  have st := A.set22 t ⟨w.heap.size + 1 + 1 + 1, 0, none⟩ c old ((((w.alloc (.cells #[.pointer (some t)] 137)).alloc (.cells #[.pointer (some ⟨6, 137, none⟩), .pointer (some ⟨w.heap.size, 0, none⟩), .int .u64 150] 194)).alloc (.cells #[.pointer (some ⟨6, 137, none⟩), .pointer (some ⟨w.heap.size, 0, none⟩), .int .u64 150] 194)).alloc (.cells #[.int .i64 c] 22))
    (by rw [World.cell?_alloc_at _ _ _ _ (by simp)]; rfl)
    (by rw [World.cell?_alloc_lt _ _ t (by simp; omega), World.cell?_alloc_lt _ _ t (by simp; omega), World.cell?_alloc_lt _ _ t (by simp; omega), World.cell?_alloc_lt _ _ t htl]; exact ht0)
    (by rw [World.frozen?_alloc_old _ _ t (by simp; omega), World.frozen?_alloc_old _ _ t (by simp; omega), World.frozen?_alloc_old _ _ t (by simp; omega), World.frozen?_alloc_old _ _ t (Nat.ne_of_lt htl)]; exact hf0)
  go_enter Tryd.func68, Tryd.ntmps68
  go_wp2
  refine wp_loop_rounds 1 ?_
  rw [rounds_succ]
  go_wp2
  go_ret
  exact ⟨rfl, rfl⟩
end Go.Proofs.YtfmaeiilbhpepaaDoor
namespace Go.Proofs.YtfmaeiilbhpepaaDoor
open Go.RowKit Go.Extern.Stop Go.Stop Go.Extern
set_option linter.unusedVariables false
set_option linter.unusedSimpArgs false

set_option maxHeartbeats 4000000 in
theorem A.as_miss (c : Int) (t : Addr) (old : Value) (w : World) (hg : w.cell? ⟨2, 0, none⟩ = some (.iface 223 (.agg #[.pointer (some ⟨6, 27, none⟩)]))) (ht0 : w.cell? t = some old) (hf0 : w.frozen? t = false) :
    Calls Tryd.prog 68 #[.iface 22 (.int .i64 c), .iface 136 (.pointer (some t))] w fun ev w' => ev = .returned (.bool false) ∧ w' = (((w.alloc (.cells #[.pointer (some t)] 136)).alloc (.cells #[.pointer (some ⟨6, 136, none⟩), .pointer (some ⟨w.heap.size, 0, none⟩), .int .u64 150] 194)).alloc (.cells #[.pointer (some ⟨6, 136, none⟩), .pointer (some ⟨w.heap.size, 0, none⟩), .int .u64 150] 194)) := by
  have hx113 := A.x113
  have hx114 := A.x114
  have hx115 := A.x115
  have hx186 := A.x186
  have hx199 := A.x199
  have hx200 := A.x200
  have hx151 := A.x151
  have hx197 := A.x197
  have hx152 := A.x152
  have hx153 := A.x153
  have hmKind := A.mKind
  have hmElem := A.mElem
  have hmImpl := A.mImpl
  have hmAssn := A.mAssn
  have hto25 := A.to25
  have hto22 := A.to22
  have has25 := A.as25
  have has22 := A.as22
  have has2522 := A.as2522
  have has2225 := A.as2225
  have hvo25 := A.vo25
  have hvo22 := A.vo22
  have hvo136 := A.vo136
  have hvo137 := A.vo137
  have hty136 := A.ty136
  have hty137 := A.ty137
  have hk136 := A.k136
  have hk137 := A.k137
  have hk25 := A.k25
  have hk22 := A.k22
  have hel136 := A.el136
  have hel137 := A.el137
  have him25 := A.im25
  have him22 := A.im22
  have hta22_228 := A.ta22_228
  have hta22_231 := A.ta22_231
  have hta22_232 := A.ta22_232
  have hta25_228 := A.ta25_228
  have hta25_231 := A.ta25_231
  have hmUnwrap := A.mUnwrap
  have n8 := A.isNil136 ⟨w.heap.size, 0, none⟩ t ((w.alloc (.cells #[.pointer (some t)] 136)).alloc (.cells #[.pointer (some ⟨6, 136, none⟩), .pointer (some ⟨w.heap.size, 0, none⟩), .int .u64 150] 194)) (by simp)
  have hlt : 2 < w.heap.size := A.cell_lt hg
  have htl : t.block < w.heap.size := A.cell_lt ht0
  have hg2 : (((w.alloc (.cells #[.pointer (some t)] 136)).alloc (.cells #[.pointer (some ⟨6, 136, none⟩), .pointer (some ⟨w.heap.size, 0, none⟩), .int .u64 150] 194))).cell? ⟨2, 0, none⟩ = some (.iface 223 (.agg #[.pointer (some ⟨6, 27, none⟩)])) := by
    rw [World.cell?_alloc_lt _ _ ⟨2, 0, none⟩ (by simp; omega), World.cell?_alloc_lt _ _ ⟨2, 0, none⟩ hlt]; exact hg
  go_enter Tryd.func68, Tryd.ntmps68
  go_wp2
  refine wp_loop_rounds 1 ?_
  rw [rounds_succ]
  go_wp2
  go_ret
  exact ⟨rfl, rfl⟩
end Go.Proofs.YtfmaeiilbhpepaaDoor
namespace Go.Proofs.YtfmaeiilbhpepaaDoor
open Go.RowKit Go.Extern.Stop Go.Stop Go.Extern
set_option linter.unusedVariables false
set_option linter.unusedSimpArgs false

set_option maxHeartbeats 4000000 in
theorem A.as_fe (e : Addr) (c : Int) (t : Addr) (old : Value) (w : World) (hg : w.cell? ⟨2, 0, none⟩ = some (.iface 223 (.agg #[.pointer (some ⟨6, 27, none⟩)]))) (ht0 : w.cell? t = some old) (hf0 : w.frozen? t = false) (hu : w.cell? ⟨e.block, e.off + 1, none⟩ = some (.iface 22 (.int .i64 c))) :
    Calls Tryd.prog 68 #[.iface 25 (.pointer (some e)), .iface 137 (.pointer (some t))] w fun ev w' => ev = .returned (.bool true) ∧ w' = (((((w.alloc (.cells #[.pointer (some t)] 137)).alloc (.cells #[.pointer (some ⟨6, 137, none⟩), .pointer (some ⟨w.heap.size, 0, none⟩), .int .u64 150] 194)).alloc (.cells #[.pointer (some ⟨6, 137, none⟩), .pointer (some ⟨w.heap.size, 0, none⟩), .int .u64 150] 194)).alloc (.cells #[.int .i64 c] 22))).setCell t (.int .i64 c) := by
  have hx113 := A.x113
  have hx114 := A.x114
  have hx115 := A.x115
  have hx186 := A.x186
  have hx199 := A.x199
  have hx200 := A.x200
  have hx151 := A.x151
  have hx197 := A.x197
  have hx152 := A.x152
  have hx153 := A.x153
  have hmKind := A.mKind
  have hmElem := A.mElem
  have hmImpl := A.mImpl
  have hmAssn := A.mAssn
  have hto25 := A.to25
  have hto22 := A.to22
  have has25 := A.as25
  have has22 := A.as22
  have has2522 := A.as2522
  have has2225 := A.as2225
  have hvo25 := A.vo25
  have hvo22 := A.vo22
  have hvo136 := A.vo136
  have hvo137 := A.vo137
  have hty136 := A.ty136
  have hty137 := A.ty137
  have hk136 := A.k136
  have hk137 := A.k137
  have hk25 := A.k25
  have hk22 := A.k22
  have hel136 := A.el136
  have hel137 := A.el137
  have him25 := A.im25
  have him22 := A.im22
  have hta22_228 := A.ta22_228
  have hta22_231 := A.ta22_231
  have hta22_232 := A.ta22_232
  have hta25_228 := A.ta25_228
  have hta25_231 := A.ta25_231
  have hmUnwrap := A.mUnwrap
  have n8 := A.isNil137 ⟨w.heap.size, 0, none⟩ t ((w.alloc (.cells #[.pointer (some t)] 137)).alloc (.cells #[.pointer (some ⟨6, 137, none⟩), .pointer (some ⟨w.heap.size, 0, none⟩), .int .u64 150] 194)) (by simp)
  have hlt : 2 < w.heap.size := A.cell_lt hg
  have htl : t.block < w.heap.size := A.cell_lt ht0
  have hg2 : (((w.alloc (.cells #[.pointer (some t)] 137)).alloc (.cells #[.pointer (some ⟨6, 137, none⟩), .pointer (some ⟨w.heap.size, 0, none⟩), .int .u64 150] 194))).cell? ⟨2, 0, none⟩ = some (.iface 223 (.agg #[.pointer (some ⟨6, 27, none⟩)])) := by
    rw [World.cell?_alloc_lt _ _ ⟨2, 0, none⟩ (by simp; omega), World.cell?_alloc_lt _ _ ⟨2, 0, none⟩ hlt]; exact hg
  have el := A.elemV137 ⟨w.heap.size, 0, none⟩ t (((w.alloc (.cells #[.pointer (some t)] 137)).alloc (.cells #[.pointer (some ⟨6, 137, none⟩), .pointer (some ⟨w.heap.size, 0, none⟩), .int .u64 150] 194)).alloc (.cells #[.pointer (some ⟨6, 137, none⟩), .pointer (some ⟨w.heap.size, 0, none⟩), .int .u64 150] 194)) (by rw [World.cell?_alloc_lt _ _ ⟨w.heap.size, 0, none⟩ (by simp; omega)]; simp)
  have st := A.set22 t ⟨w.heap.size + 1 + 1 + 1, 0, none⟩ c old ((((w.alloc (.cells #[.pointer (some t)] 137)).alloc (.cells #[.pointer (some ⟨6, 137, none⟩), .pointer (some ⟨w.heap.size, 0, none⟩), .int .u64 150] 194)).alloc (.cells #[.pointer (some ⟨6, 137, none⟩), .pointer (some ⟨w.heap.size, 0, none⟩), .int .u64 150] 194)).alloc (.cells #[.int .i64 c] 22))
    (by rw [World.cell?_alloc_at _ _ _ _ (by simp)]; rfl)
    (by rw [World.cell?_alloc_lt _ _ t (by simp; omega), World.cell?_alloc_lt _ _ t (by simp; omega), World.cell?_alloc_lt _ _ t (by simp; omega), World.cell?_alloc_lt _ _ t htl]; exact ht0)
    (by rw [World.frozen?_alloc_old _ _ t (by simp; omega), World.frozen?_alloc_old _ _ t (by simp; omega), World.frozen?_alloc_old _ _ t (by simp; omega), World.frozen?_alloc_old _ _ t (Nat.ne_of_lt htl)]; exact hf0)
  have hel0 := A.cell_lt hu
  have hel : e.block < w.heap.size := hel0
  have hu3 : ((((w.alloc (.cells #[.pointer (some t)] 137)).alloc (.cells #[.pointer (some ⟨6, 137, none⟩), .pointer (some ⟨w.heap.size, 0, none⟩), .int .u64 150] 194)).alloc (.cells #[.pointer (some ⟨6, 137, none⟩), .pointer (some ⟨w.heap.size, 0, none⟩), .int .u64 150] 194))).cell? ⟨e.block, e.off + 1, none⟩ = some (.iface 22 (.int .i64 c)) := by
    rw [World.cell?_alloc_lt _ _ _ (by simp; omega), World.cell?_alloc_lt _ _ _ (by simp; omega), World.cell?_alloc_lt _ _ ⟨e.block, e.off + 1, none⟩ hel]; exact hu
  go_enter Tryd.func68, Tryd.ntmps68
  go_wp2
  refine wp_loop_rounds 2 ?_
  rw [rounds_succ]
  go_wp2_with (go_at_call 191; refine (A.unwrap e _ _ hu3).mono ?_; rintro e' w' ⟨rfl, rfl⟩)
  rw [rounds_succ]
  go_wp2
  go_ret
  exact ⟨rfl, rfl⟩
end Go.Proofs.YtfmaeiilbhpepaaDoor
namespace Go.Proofs.YtfmaeiilbhpepaaDoor
open Go.RowKit
set_option linter.unusedVariables false
set_option linter.unusedSimpArgs false
/-- What a look for an error leaves: the target set; the rest as it was. -/
structure A.Set (w : World) (t : Addr) (v : Value) (w' : World) : Prop where
  at_ : w'.cell? t = some v
  free : w'.frozen? t = w.frozen? t
  size : w.heap.size ≤ w'.heap.size
  rest : ∀ a : Addr, a.block < w.heap.size → a.block ≠ t.block → w'.cell? a = w.cell? a ∧ w'.frozen? a = w.frozen? a
  below : ∀ B, B ≤ t.block → B ≤ w.heap.size → Below B w w'
theorem A.set_of {w : World} {t : Addr} {v old : Value} {o1 o2 o3 o4 : Obj} (h : w.cell? t = some old) : A.Set w t v (((((w.alloc o1).alloc o2).alloc o3).alloc o4).setCell t v) := by
  have hlt := A.cell_lt h
  have s1 : (w.alloc o1).heap.size = w.heap.size + 1 := by simp
  have s2 : ((w.alloc o1).alloc o2).heap.size = w.heap.size + 1 + 1 := by simp
  have s3 : (((w.alloc o1).alloc o2).alloc o3).heap.size = w.heap.size + 1 + 1 + 1 := by simp
  have hb : ∀ B, B ≤ w.heap.size → Below B w ((((w.alloc o1).alloc o2).alloc o3).alloc o4) := fun B hB =>
    ((((Below.refl B w).alloc (by omega) o1).alloc (by omega) o2).alloc (by omega) o3).alloc (by omega) o4
  have hc : ∀ a : Addr, a.block < w.heap.size → ((((w.alloc o1).alloc o2).alloc o3).alloc o4).cell? a = w.cell? a := fun a ha => (hb _ (Nat.le_refl _)).cell ha
  have hf : ∀ a : Addr, a.block < w.heap.size → ((((w.alloc o1).alloc o2).alloc o3).alloc o4).frozen? a = w.frozen? a := fun a ha => (hb _ (Nat.le_refl _)).frozen ha
  refine ⟨?_, ?_, ?_, ?_, ?_⟩
  · exact World.cell?_setCell_same _ _ _ (by rw [hc t hlt, h])
  · rw [World.frozen?_setCell, hf t hlt]
  · simp; omega
  · intro a ha hne
    exact ⟨by rw [World.cell?_setCell_other _ _ _ _ (fun e => hne (by rw [e])), hc a ha], by rw [World.frozen?_setCell, hf a ha]⟩
  · intro B h1 h2
    exact (hb B h2).setCell h1 v
structure A.Left (w : World) (w' : World) : Prop where
  size : w.heap.size ≤ w'.heap.size
  rest : ∀ a : Addr, a.block < w.heap.size → w'.cell? a = w.cell? a ∧ w'.frozen? a = w.frozen? a
  below : ∀ B, B ≤ w.heap.size → Below B w w'
theorem A.left_of {w : World} {o1 o2 o3 : Obj} : A.Left w (((w.alloc o1).alloc o2).alloc o3) := by
  have s1 : (w.alloc o1).heap.size = w.heap.size + 1 := by simp
  have s2 : ((w.alloc o1).alloc o2).heap.size = w.heap.size + 1 + 1 := by simp
  have hb : ∀ B, B ≤ w.heap.size → Below B w (((w.alloc o1).alloc o2).alloc o3) := fun B hB =>
    (((Below.refl B w).alloc (by omega) o1).alloc (by omega) o2).alloc (by omega) o3
  exact ⟨by simp; omega, fun a ha => ⟨(hb _ (Nat.le_refl _)).cell ha, (hb _ (Nat.le_refl _)).frozen ha⟩, hb⟩
def A.eTy : Value := .iface 223 (.agg #[.pointer (some ⟨6, 27, none⟩)])
theorem A.tell_nil (w : World) : Calls Tryd.prog 14 #[.nilIface] w fun ev w' => ev = .returned (.tuple #[.int .i64 0, .int .i64 (-1)]) ∧ w' = w := by
  go_enter Tryd.func14, Tryd.ntmps14
  go_wp2
  go_ret2
  exact ⟨rfl, rfl⟩
set_option maxHeartbeats 400000 in
set_option maxRecDepth 100000 in
theorem A.tell_e (c : Int) (w : World) (hg : w.cell? ⟨2, 0, none⟩ = some A.eTy) :
    Calls Tryd.prog 14 #[.iface 22 (.int .i64 c)] w fun ev w' => ev = .returned (.tuple #[.int .i64 c, .int .i64 (-1)]) ∧ Below w.heap.size w w' := by
  have hlt : 2 < w.heap.size := A.cell_lt hg
  have hg1 : (w.alloc (.cells #[.pointer none] 25)).cell? ⟨2, 0, none⟩ = some A.eTy := by rw [World.cell?_alloc_lt _ _ ⟨2, 0, none⟩ hlt]; exact hg
  go_enter Tryd.func14, Tryd.ntmps14
  go_wp2_with (go_at_call 68; first
    | (have l1' := l1; refine (A.as_e c ⟨w1.heap.size, 0, none⟩ (.int .i64 0) _ hg2 (by simp) (by simp)).mono ?_; rintro e' w2 ⟨rfl, h2⟩; have l2 : A.Set _ ⟨w1.heap.size, 0, none⟩ (.int .i64 c) w2 := h2 ▸ A.set_of (by simp; rfl); clear h2; have l2a := l2.at_)
    | (refine (A.as_miss c ⟨w.heap.size, 0, none⟩ (.pointer none) _ hg1 (by simp) (by simp)).mono ?_; rintro e' w1 ⟨rfl, h1⟩; have l1 : A.Left _ w1 := h1 ▸ A.left_of; clear h1; have l1s := l1.size; simp at l1s; have hg2 : (w1.alloc (.cells #[.int .i64 0] 22)).cell? ⟨2, 0, none⟩ = some A.eTy := (by rw [World.cell?_alloc_lt _ _ ⟨2, 0, none⟩ (by show 2 < w1.heap.size; omega), (l1.rest ⟨2, 0, none⟩ (by simp; omega)).1]; exact hg1)))
  go_ret2
  refine ⟨rfl, ?_⟩
  exact (((Below.refl _ w).alloc (Nat.le_refl _) _).trans (l1.below _ (by simp))).trans (((Below.refl _ w1).alloc (by omega) _).trans (l2.below _ (by simp; omega) (by simp; omega)))
set_option maxHeartbeats 400000 in
set_option maxRecDepth 100000 in
theorem A.tell_f (e : Addr) (a c : Int) (w : World) (hg : w.cell? ⟨2, 0, none⟩ = some A.eTy) (h0 : w.cell? e = some (.int .i64 a)) (hu : w.cell? ⟨e.block, e.off + 1, none⟩ = some (.iface 22 (.int .i64 c))) :
    Calls Tryd.prog 14 #[.iface 25 (.pointer (some e))] w fun ev w' => ev = .returned (.tuple #[.int .i64 c, .int .i64 a]) ∧ Below w.heap.size w w' := by
  have hlt : 2 < w.heap.size := A.cell_lt hg
  have hel : e.block < w.heap.size := A.cell_lt h0
  have hg1 : (w.alloc (.cells #[.pointer none] 25)).cell? ⟨2, 0, none⟩ = some A.eTy := by rw [World.cell?_alloc_lt _ _ ⟨2, 0, none⟩ hlt]; exact hg
  go_enter Tryd.func14, Tryd.ntmps14
  go_wp2_with (go_at_call 68; first
    | (have l1' := l1; refine (A.as_fe e c ⟨w1.heap.size, 0, none⟩ (.int .i64 0) _ hg2 (by simp) (by simp) hu2).mono ?_; rintro e' w2 ⟨rfl, h2⟩; have l2 : A.Set _ ⟨w1.heap.size, 0, none⟩ (.int .i64 c) w2 := h2 ▸ A.set_of (by simp; rfl); clear h2; have l2a := l2.at_)
    | (refine (A.as_f e ⟨w.heap.size, 0, none⟩ (.pointer none) _ hg1 (by simp) (by simp)).mono ?_; rintro e' w1 ⟨rfl, h1⟩; have l1 : A.Set _ ⟨w.heap.size, 0, none⟩ (.pointer (some e)) w1 := h1 ▸ A.set_of (by simp; rfl); clear h1; have l1s := l1.size; simp at l1s; have l1a := l1.at_
       have hg2 : (w1.alloc (.cells #[.int .i64 0] 22)).cell? ⟨2, 0, none⟩ = some A.eTy := (by rw [World.cell?_alloc_lt _ _ ⟨2, 0, none⟩ (by show 2 < w1.heap.size; omega), (l1.rest ⟨2, 0, none⟩ (by simp; omega) (by show 2 ≠ w.heap.size; omega)).1]; exact hg1)
       have hu2 : (w1.alloc (.cells #[.int .i64 0] 22)).cell? ⟨e.block, e.off + 1, none⟩ = some (.iface 22 (.int .i64 c)) := (by rw [World.cell?_alloc_lt _ _ ⟨e.block, e.off + 1, none⟩ (by show e.block < w1.heap.size; omega), (l1.rest ⟨e.block, e.off + 1, none⟩ (by simp; omega) (by show e.block ≠ w.heap.size; omega)).1, World.cell?_alloc_lt _ _ ⟨e.block, e.off + 1, none⟩ hel]; exact hu)
       have h01 : w1.cell? e = some (.int .i64 a) := (by rw [(l1.rest e (by simp; omega) (by show e.block ≠ w.heap.size; omega)).1, World.cell?_alloc_lt _ _ e hel]; exact h0)))
  go_ret2
  refine ⟨rfl, ?_⟩
  exact (((Below.refl _ w).alloc (Nat.le_refl _) _).trans (l1.below _ (Nat.le_refl _) (by simp))).trans (((Below.refl _ w1).alloc (by omega) _).trans (l2.below _ (by simp; omega) (by simp; omega)))
end Go.Proofs.YtfmaeiilbhpepaaDoor
namespace Go.Sy
open Go.RowKit
/-- A function that leaves what was there as it was. -/
theorem FnC.of_below {P : Program} {Gl : Nat → SV} {f : Nat} {args : List SV} {res : SV}
    (h : ∀ (w : World) (ω : Ow) (vs : Array Value), (∀ g, Den w ω.bare (Gl g) (.pointer (some ⟨g, 0, none⟩))) → DenL w ω args vs.toList → Calls P f vs w fun e w' => ∃ v, e = .returned v ∧ Below w.heap.size w w' ∧ Den w' ω res v) : FnC P Gl f args [] res [] := by
  intro w ω vs hG hm hd
  refine (h w ω vs hG hd).mono ?_
  rintro e w' ⟨v, rfl, hb, hr⟩
  have hc : Cw w w' := ⟨hb.os, hb.tape, hb.output, hb.size, hb.block⟩
  exact ⟨v, ω, rfl, ⟨hb.os, hb.tape, hb.output, fun b hb' _ => hb.block b hb', fun _ _ h => h, fun _ h => h, hb.size⟩, hm.more hc, hr, fun k l hk => by simp at hk⟩
end Go.Sy
namespace Go.Proofs.YtfmaeiilbhpepaaDoor
open Go.RowKit Go.Sy
structure X_tell where
  e : Int
  a : Int
def s_tell : Sy.Spec where
  X := X_tell
  args x := [.er 22 25 x.e x.a]
  mem _ := []
  pre _ := True
  res x := .tp 2 (lsv [.v (.int .i64 x.e), .v (.int .i64 x.a)])
  mem' _ := []
  dec args mem := match args with | [a0] => some ⟨erE a0, erA a0⟩ | _ => none
def c_tell : Con := ⟨[], s_tell.g, none⟩
theorem pf_tell {Gl : Nat → SV} (hG : Gl 2 = .pt false 1 fun _ => .v A.eTy) (e a : Int) : FnC Tryd.prog Gl 14 [.er 22 25 e a] [] (.tp 2 (lsv [.v (.int .i64 e), .v (.int .i64 a)])) [] := by
  refine FnC.of_below fun w B vs hg hd => ?_
  obtain ⟨u, rfl⟩ : ∃ u, vs = #[u] := by
    have := hd.len
    match vs, this with
    | ⟨[u]⟩, _ => exact ⟨u, rfl⟩
  have h2 := hg 2
  rw [hG] at h2
  obtain ⟨p, hp, hj⟩ := h2
  obtain ⟨x, hc, hf, hx⟩ := hj 0 (by omega)
  cases hp
  obtain rfl := hx
  have hg2 : w.cell? ⟨2, 0, none⟩ = some A.eTy := hc
  have hr : ∀ w', Den w' B (.tp 2 (lsv [.v (.int .i64 e), .v (.int .i64 a)])) (.tuple #[.int .i64 e, .int .i64 a]) := fun w' => ⟨_, rfl, rfl, fun j hj => match j, hj with
    | 0, _ => ⟨_, rfl, rfl⟩
    | 1, _ => ⟨_, rfl, rfl⟩⟩
  rcases hd.1 with ⟨rfl, rfl, h⟩ | ⟨_, rfl, h⟩ | ⟨_, h0, q, h, hf, _, c0, c1⟩
  · rw [h]
    refine (A.tell_nil w).mono ?_
    rintro ev w' ⟨rfl, rfl⟩
    exact ⟨_, rfl, Below.refl _ _, hr _⟩
  · rw [h]
    refine (A.tell_e e w hg2).mono ?_
    rintro ev w' ⟨rfl, hb⟩
    exact ⟨_, rfl, hb, hr _⟩
  · rw [h]
    have c0 : w.cell? q = some (.int .i64 a) := c0
    have c1 : w.cell? ⟨q.block, q.off + 1, none⟩ = some (.iface 22 (.int .i64 e)) := c1
    refine (A.tell_f q a e w hg2 c0 c1).mono ?_
    rintro ev w' ⟨rfl, hb⟩
    exact ⟨_, rfl, hb, hr _⟩
theorem okTell {Gl : Nat → SV} (hG : Gl 2 = .pt false 1 fun _ => .v A.eTy) : FnOK Tryd.prog Gl 14 c_tell := fnOK_of (fun l w => Tryd.call14 l w) fun x _ => pf_tell hG x.e x.a
end Go.Proofs.YtfmaeiilbhpepaaDoor
namespace Go.Proofs.YtfmaeiilbhpepaaDoor
open Go.RowKit Go.Sy
def farB (v m : Int) : Bool := decide (v < 0) || decide (m < v)
def hasA (o : Int) : Bool := !(o == 0) && !(o == 12) && !(o == 14)
def hasB (o : Int) : Bool := !(o == 0) && !(o == 1) && !(o == 13) && !(o == 12) && !(o == 14)
def hasC (o : Int) : Bool := (o == 1) || (o == 13) || (o == 10) || (o == 11) || (o == 12) || (o == 14)
/-- The table of the instructions' shapes. -/
def shName (i : Nat) : ByteArray := ⟨(([[104, 97, 108, 116], [115, 101, 116], [109, 111, 118], [97, 100, 100], [115, 117, 98], [109, 117, 108], [97, 110, 100], [111, 114], [120, 111, 114], [108, 101, 115, 115], [108, 111, 97, 100], [115, 116, 111, 114, 101], [106, 117, 109, 112], [122, 101, 114, 111], [115, 121, 115]] : List (List UInt8)).getD i []).toArray⟩
def shapeCell (i j : Nat) : SV := match j with
  | 0 => .v (.string (shName i))
  | 1 => .v (.bool (hasA i))
  | 2 => .v (.bool (hasB i))
  | _ => .v (.bool (hasC i))
/-- No variable; the table of shapes; the handle of package errors; both. -/
def glN : Nat → SV := fun _ => .junk
def glS : Nat → SV
  | 0 => .pa false 4 15 shapeCell
  | _ => .junk
def glE : Nat → SV
  | 2 => .pt false 1 fun _ => .v A.eTy
  | _ => .junk
def glB : Nat → SV
  | 0 => .pa false 4 15 shapeCell
  | 2 => .pt false 1 fun _ => .v A.eTy
  | _ => .junk
theorem glN_glS : ∀ g, glN g = glS g ∨ glN g = .junk := fun _ => .inr rfl
theorem glN_glE : ∀ g, glN g = glE g ∨ glN g = .junk := fun _ => .inr rfl
theorem glN_glB : ∀ g, glN g = glB g ∨ glN g = .junk := fun _ => .inr rfl
theorem glS_glB : ∀ g, glS g = glB g ∨ glS g = .junk := by
  intro g; unfold glS
  split
  · exact .inl rfl
  · exact .inr rfl
theorem glE_glB : ∀ g, glE g = glB g ∨ glE g = .junk := by
  intro g; unfold glE
  split
  · exact .inl rfl
  · exact .inr rfl
theorem ok_tell : FnOK Tryd.prog glE 14 c_tell := okTell rfl
end Go.Proofs.YtfmaeiilbhpepaaDoor
namespace Go.Sy
theorem ofInt_toNat64 {x : Int} (h0 : 0 ≤ x) (h1 : x < 9223372036854775808) : (BitVec.ofInt 64 x).toNat = x.toNat := by
  rw [BitVec.toNat_ofInt]
  congr 1
  exact Int.emod_eq_of_lt h0 (by simpa using (by omega : x < 18446744073709551616))
theorem wrap_nat64 {n : Nat} (h : n < 9223372036854775808) : IntKind.i64.wrap (n : Int) = n := by
  rw [IntKind.wrap_i64]; omega
theorem or64 {x y : Int} (hx : 0 ≤ x) (hx1 : x < 9223372036854775808) (hy : 0 ≤ y) (hy1 : y < 9223372036854775808) : bitsI .or .i64 x y = ((x.toNat ||| y.toNat : Nat) : Int) := by
  show IntKind.i64.wrap ((BitVec.ofInt 64 x ||| BitVec.ofInt 64 y).toNat : Int) = _
  rw [BitVec.toNat_or, ofInt_toNat64 hx hx1, ofInt_toNat64 hy hy1]
  exact wrap_nat64 (Nat.or_lt_two_pow (n := 63) (by omega) (by omega))
theorem and64 {x y : Int} (hx : 0 ≤ x) (hx1 : x < 9223372036854775808) (hy : 0 ≤ y) (hy1 : y < 9223372036854775808) : bitsI .and .i64 x y = ((x.toNat &&& y.toNat : Nat) : Int) := by
  show IntKind.i64.wrap ((BitVec.ofInt 64 x &&& BitVec.ofInt 64 y).toNat : Int) = _
  rw [BitVec.toNat_and, ofInt_toNat64 hx hx1, ofInt_toNat64 hy hy1]
  exact wrap_nat64 (Nat.lt_of_le_of_lt Nat.and_le_left (by omega))
/-- 'x & (2^n - 1)'. -/
theorem mask64 (n : Nat) (hn : n ≤ 62) {x m : Int} (hm : m = 2 ^ n - 1) : bitsI .and .i64 x m = x % 2 ^ n := by
  show IntKind.i64.wrap ((BitVec.ofInt 64 x &&& BitVec.ofInt 64 m).toNat : Int) = _
  have hp : (2 : Nat) ^ n ≤ 2 ^ 62 := Nat.pow_le_pow_right (by omega) hn
  have hp1 : (1 : Nat) ≤ 2 ^ n := Nat.one_le_two_pow
  have hc : ((2 : Int) ^ n) = ((2 ^ n : Nat) : Int) := by simp
  have hm0 : 0 ≤ m := by rw [hm, hc]; omega
  have hm1 : m < 9223372036854775808 := by rw [hm, hc]; omega
  rw [BitVec.toNat_and, ofInt_toNat64 hm0 hm1]
  have e : m.toNat = 2 ^ n - 1 := by rw [hm, hc]; omega
  rw [e, Nat.and_two_pow_sub_one_eq_mod, BitVec.toNat_ofInt]
  have hd : ((x % ((2 ^ 64 : Nat) : Int)).toNat % 2 ^ n : Nat) = (x % 2 ^ n).toNat := by
    apply Int.ofNat.inj
    show (((x % ((2 ^ 64 : Nat) : Int)).toNat % 2 ^ n : Nat) : Int) = ((x % 2 ^ n).toNat : Int)
    have h64 : (0 : Int) ≤ x % ((2 ^ 64 : Nat) : Int) := Int.emod_nonneg _ (by decide)
    have hn0 : (0 : Int) ≤ x % 2 ^ n := Int.emod_nonneg _ (by rw [hc]; omega)
    rw [Int.natCast_emod, Int.toNat_of_nonneg h64, Int.toNat_of_nonneg hn0, hc]
    refine Int.emod_emod_of_dvd x ?_
    exact Int.natCast_dvd_natCast.2 (Nat.pow_dvd_pow 2 (by omega))
  rw [hd]
  have hn0 : (0 : Int) ≤ x % 2 ^ n := Int.emod_nonneg _ (by rw [hc]; omega)
  have hn1 : x % 2 ^ n < 2 ^ n := Int.emod_lt_of_pos _ (by rw [hc]; omega)
  rw [Int.toNat_of_nonneg hn0, IntKind.wrap_i64]
  rw [hc] at hn0 hn1 ⊢
  omega
/-- 'x * 2^n | y' where y is below 2^n. -/
theorem join64 (n : Nat) {x y z : Int} (hz : z = x * 2 ^ n) (hx : 0 ≤ x) (hy : 0 ≤ y) (hy1 : y < 2 ^ n) (hs : x * 2 ^ n + y < 9223372036854775808) : bitsI .or .i64 z y = z + y := by
  have hc : ((2 : Int) ^ n) = ((2 ^ n : Nat) : Int) := by simp
  have hz0 : 0 ≤ z := by rw [hz]; exact Int.mul_nonneg hx (by rw [hc]; omega)
  rw [or64 hz0 (by omega) hy (by omega)]
  have e : z.toNat = 2 ^ n * x.toNat := by
    apply Int.ofNat.inj
    show (z.toNat : Int) = ((2 ^ n * x.toNat : Nat) : Int)
    rw [Int.toNat_of_nonneg hz0, Int.natCast_mul, Int.toNat_of_nonneg hx, hz, hc, Int.mul_comm]
  rw [e, ← Nat.two_pow_add_eq_or_of_lt (by rw [hc] at hy1; omega), ← e]
  omega
end Go.Sy
