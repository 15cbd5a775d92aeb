/- Closed facts on the model's entries for reflectlite, at this program's types; and what is asserted of errors. (After the guide's worked texts ToyasAs and SentryIs.) -/
import Derived.Test.YtpoccibneoankaaDoorRows
import Derived.Test.YtpoccibneoankaaDoorWorld
import Derived.LaidEql
import Derived.Stop.Asserts
import Derived.RowKitTokens
namespace Go.Proofs.YtpoccibneoankaaDoor
open Go.RowKit Go.Extern.Stop Go.Stop Go.Extern

theorem Tryd.valueOfP (t : Addr) (w : World) : (ReflectliteValue.unpack (.iface 33 (.pointer (some t)))).run Tryd.prog w
    = .ok (.agg #[.pointer (some ⟨1, 33, none⟩), .pointer (some ⟨w.heap.size, 0, none⟩), .int .u64 150]) (w.alloc (.cells #[.pointer (some t)] 33)) := by kernel_rfl
theorem Tryd.typeP (a : Addr) (w : World) : (ReflectliteValue.methodAny (ReflectliteValue.valueError "reflectlite.Value.Type" 0) (fun t _ _ _ => ReflectliteType.toType t) #[.agg #[.pointer (some ⟨1, 33, none⟩), .pointer (some a), .int .u64 150]]).run Tryd.prog w
    = .ok (.iface 74 (.agg #[.pointer (some ⟨1, 33, none⟩)])) w := by kernel_rfl
theorem Tryd.kindP (w : World) : ((ReflectliteType.abiMethod fun t => (fun a : Nat => Value.int IntKind.u8 (a : Int)) <$> Rtype.kind t) #[.pointer (some ⟨1, 33, none⟩)]).run Tryd.prog w = .ok (.int .u8 22) w := by kernel_rfl
theorem Tryd.kindE (w : World) : ((ReflectliteType.abiMethod fun t => (fun a : Nat => Value.int IntKind.u8 (a : Int)) <$> Rtype.kind t) #[.pointer (some ⟨1, 30, none⟩)]).run Tryd.prog w = .ok (.int .u8 22) w := by kernel_rfl
theorem Tryd.elemT (w : World) : (ReflectliteType.method ReflectliteType.elem #[.agg #[.pointer (some ⟨1, 33, none⟩)]]).run Tryd.prog w = .ok (.iface 74 (.agg #[.pointer (some ⟨1, 30, none⟩)])) w := by kernel_rfl
theorem Tryd.implementsE (w : World) : (ReflectliteType.relation "Implements" ReflectliteType.implements_ #[.agg #[.pointer (some ⟨1, 30, none⟩)], .iface 74 (.agg #[.pointer (some ⟨1, 25, none⟩)])]).run Tryd.prog w = .ok (.bool true) w := by kernel_rfl
theorem Tryd.typeOfE (v : Value) (w : World) : (ReflectliteType.typeOf #[.iface 30 v]).run Tryd.prog w = .ok (.iface 74 (.agg #[.pointer (some ⟨1, 30, none⟩)])) w := by kernel_rfl
theorem Tryd.typeOfO (v : Value) (w : World) : (ReflectliteType.typeOf #[.iface 50 v]).run Tryd.prog w = .ok (.iface 74 (.agg #[.pointer (some ⟨1, 50, none⟩)])) w := by kernel_rfl
theorem Tryd.typeOfS (v : Value) (w : World) : (ReflectliteType.typeOf #[.iface 68 v]).run Tryd.prog w = .ok (.iface 74 (.agg #[.pointer (some ⟨1, 68, none⟩)])) w := by kernel_rfl
theorem Tryd.assignE (w : World) : (ReflectliteType.relation "AssignableTo" ReflectliteType.assignableTo #[.agg #[.pointer (some ⟨1, 30, none⟩)], .iface 74 (.agg #[.pointer (some ⟨1, 30, none⟩)])]).run Tryd.prog w = .ok (.bool true) w := by kernel_rfl
theorem Tryd.assignO (w : World) : (ReflectliteType.relation "AssignableTo" ReflectliteType.assignableTo #[.agg #[.pointer (some ⟨1, 50, none⟩)], .iface 74 (.agg #[.pointer (some ⟨1, 30, none⟩)])]).run Tryd.prog w = .ok (.bool false) w := by kernel_rfl
theorem Tryd.assignS (w : World) : (ReflectliteType.relation "AssignableTo" ReflectliteType.assignableTo #[.agg #[.pointer (some ⟨1, 68, none⟩)], .iface 74 (.agg #[.pointer (some ⟨1, 30, none⟩)])]).run Tryd.prog w = .ok (.bool false) w := by kernel_rfl
theorem Tryd.valueOfE (e : Addr) (w : World) : (ReflectliteValue.unpack (.iface 30 (.pointer (some e)))).run Tryd.prog w
    = .ok (.agg #[.pointer (some ⟨1, 30, none⟩), .pointer (some ⟨w.heap.size, 0, none⟩), .int .u64 150]) (w.alloc (.cells #[.pointer (some e)] 30)) := by kernel_rfl
theorem Tryd.isTypeOfE (v : Value) (w : World) : (ReflectliteType.typeOf #[.iface 30 v]).run Tryd.prog w = .ok (.iface 74 (.agg #[.pointer (some ⟨1, 30, none⟩)])) w := by kernel_rfl
theorem rlm (z : Sem Value) (f : TypeId → Addr → Nat → Nat → Sem Value) (v : Value) :
    ReflectliteValue.method z f #[v] = (do match ← ReflectliteValue.parts v with | none => z | some (t, a, fl) => f t a fl (fl % 32)) := rfl
theorem Tryd.partsP (a : Addr) (w : World) : (ReflectliteValue.parts (.agg #[.pointer (some ⟨1, 33, none⟩), .pointer (some a), .int .u64 150])).run Tryd.prog w = .ok (some (33, a, 150)) w := by kernel_rfl
theorem Tryd.isNilP (a p : Addr) (W : World) (ha : W.cell? a = some (.pointer (some p))) :
    (ReflectliteValue.method (ReflectliteValue.valueError "reflectlite.Value.IsNil" 0) ReflectliteValue.isNil #[.agg #[.pointer (some ⟨1, 33, none⟩), .pointer (some a), .int .u64 150]]).run Tryd.prog W = .ok (.bool false) W := by
  rw [rlm]
  simp only [Sem.run_bind, Tryd.partsP, Result.andThen]
  simp [ReflectliteValue.isNil, loadVar, isAgg, underlying, Tryd.underlying33, ha, Result.andThen]
theorem Tryd.elemOfP (w : World) : (Rtype.elem? 33).run Tryd.prog w = .ok (some 30) w := by kernel_rfl
theorem Tryd.mkE (p : Addr) (w : World) : (ReflectliteValue.mk 30 p ReflectliteValue.flagAddr).run Tryd.prog w = .ok (.agg #[.pointer (some ⟨1, 30, none⟩), .pointer (some p), .int .u64 406]) w := by kernel_rfl
theorem Tryd.elemVP (a p : Addr) (W : World) (ha : W.cell? a = some (.pointer (some p))) :
    (ReflectliteValue.method (ReflectliteValue.valueError "reflectlite.Value.Elem" 0) ReflectliteValue.elem #[.agg #[.pointer (some ⟨1, 33, none⟩), .pointer (some a), .int .u64 150]]).run Tryd.prog W
      = .ok (.agg #[.pointer (some ⟨1, 30, none⟩), .pointer (some p), .int .u64 406]) W := by
  rw [rlm]
  simp only [Sem.run_bind, Tryd.partsP, Result.andThen]
  simp [ReflectliteValue.elem, loadVar, isAgg, underlying, Tryd.underlying33, ha, Result.andThen, Tryd.elemOfP, Tryd.mkE]
theorem rls (v x : Value) : ReflectliteValue.set #[v, x] = (do
    let (some (dst, a, fl), some (src, b, _)) := (← ReflectliteValue.parts v, ← ReflectliteValue.parts x)
      | unsupported (.noEntry "extern/(internal/reflectlite.Value).Set.zeroValue")
    if fl / ReflectliteValue.flagAddr % 2 == 0 then unsupported (.noEntry "extern/(internal/reflectlite.Value).Set.unaddressable")
    let val ← loadVar src b
    if ← Rtype.directlyAssignable dst src then storeVar dst a val
    else if ← Rtype.implements dst src then
      if (← Rtype.kind src) == 20 then
        match val with
        | .nilIface => unsupported (.noEntry "extern/reflectlite: a nil value of one interface type handed on as a value of another")
        | _ => storeVar dst a val
      else storeVar dst a (.iface src val)
    else panicString ("reflectlite.Set: value of type " ++ (← Rtype.spelt src) ++ " is not assignable to type " ++ (← Rtype.spelt dst))
    pure (.tuple #[])) := rfl
theorem Tryd.partsEa (a : Addr) (w : World) : (ReflectliteValue.parts (.agg #[.pointer (some ⟨1, 30, none⟩), .pointer (some a), .int .u64 406])).run Tryd.prog w = .ok (some (30, a, 406)) w := by kernel_rfl
theorem Tryd.partsE (a : Addr) (w : World) : (ReflectliteValue.parts (.agg #[.pointer (some ⟨1, 30, none⟩), .pointer (some a), .int .u64 150])).run Tryd.prog w = .ok (some (30, a, 150)) w := by kernel_rfl
theorem Tryd.directE (w : World) : (Rtype.directlyAssignable 30 30).run Tryd.prog w = .ok true w := by kernel_rfl
theorem Tryd.setE (ta b e : Addr) (old : Value) (W : World) (hb : W.cell? b = some (.pointer (some e))) (ht : W.cell? ta = some old) (hf : W.frozen? ta = false) :
    (ReflectliteValue.set #[.agg #[.pointer (some ⟨1, 30, none⟩), .pointer (some ta), .int .u64 406], .agg #[.pointer (some ⟨1, 30, none⟩), .pointer (some b), .int .u64 150]]).run Tryd.prog W
      = .ok (.tuple #[]) (W.setCell ta (.pointer (some e))) := by
  rw [rls]
  simp only [Sem.run_bind, Tryd.partsEa, Tryd.partsE, Result.andThen]
  simp [ReflectliteValue.flagAddr, loadVar, isAgg, underlying, Tryd.underlying30, hb, Result.andThen, Tryd.directE, storeVar, Value.cells, storeCells, Addr.add]
  rw [run_store Tryd.prog W ta _ _ (by rfl)]
  simp [ht, hf]

/-! ### Methods of a type's handle, and of errors -/
theorem Tryd.mKind (h : Value) (w : World) : (Go.method 218 74 (.agg #[h]) "Kind").run Tryd.prog w = .ok (48, h) w := by kernel_rfl
theorem Tryd.mElem (h : Value) (w : World) : (Go.method 218 74 (.agg #[h]) "Elem").run Tryd.prog w = .ok (61, .agg #[h]) w := by kernel_rfl
theorem Tryd.mImplements (h : Value) (w : World) : (Go.method 218 74 (.agg #[h]) "Implements").run Tryd.prog w = .ok (62, .agg #[h]) w := by kernel_rfl
theorem Tryd.mAssignable (h : Value) (w : World) : (Go.method 218 74 (.agg #[h]) "AssignableTo").run Tryd.prog w = .ok (59, .agg #[h]) w := by kernel_rfl
theorem Tryd.mComparable (h : Value) (w : World) : (Go.method 218 74 (.agg #[h]) "Comparable").run Tryd.prog w = .ok (60, .agg #[h]) w := by kernel_rfl
theorem Tryd.mUnwrap (v : Value) (w : World) : (Go.method 218 50 v "Unwrap").run Tryd.prog w = .ok (53, v) w := by kernel_rfl
theorem Tryd.mIs (v : Value) (w : World) : (Go.method 218 30 v "Is").run Tryd.prog w = .ok (51, v) w := by kernel_rfl

theorem Tryd.callCompE (w : World) : (callFunc 60 #[.agg #[.pointer (some ⟨1, 30, none⟩)]]).run Tryd.prog w = .ok (.value (.bool true)) w := by kernel_rfl
theorem Tryd.callCompS (w : World) : (callFunc 60 #[.agg #[.pointer (some ⟨1, 68, none⟩)]]).run Tryd.prog w = .ok (.value (.bool true)) w := by kernel_rfl
theorem Tryd.compE : (Tryd.prog.info? 30).map (·.comparable) = some true := by kernel_rfl
theorem Tryd.sizeE : (Tryd.prog.info? 47).map (·.size) = some 2 := by kernel_rfl

/-! ### What is asserted of errors -/
theorem Tryd.noAsE (v : Value) (xT : TypeId) (w : World) : (Instr.typeAssert (.iface 30 v) xT 78 true).run Tryd.prog w = .ok (.tuple #[.nilIface, .bool false]) w := run_typeAssert_lacksB Tryd.underlying78 (by kernel_rfl) (by kernel_rfl) v xT w
theorem Tryd.noAsO (v : Value) (xT : TypeId) (w : World) : (Instr.typeAssert (.iface 50 v) xT 78 true).run Tryd.prog w = .ok (.tuple #[.nilIface, .bool false]) w := run_typeAssert_lacksB Tryd.underlying78 (by kernel_rfl) (by kernel_rfl) v xT w
theorem Tryd.noAsS (v : Value) (xT : TypeId) (w : World) : (Instr.typeAssert (.iface 68 v) xT 78 true).run Tryd.prog w = .ok (.tuple #[.nilIface, .bool false]) w := run_typeAssert_lacksB Tryd.underlying78 (by kernel_rfl) (by kernel_rfl) v xT w
theorem Tryd.noIsO (v : Value) (xT : TypeId) (w : World) : (Instr.typeAssert (.iface 50 v) xT 86 true).run Tryd.prog w = .ok (.tuple #[.nilIface, .bool false]) w := run_typeAssert_lacksB Tryd.underlying86 (by kernel_rfl) (by kernel_rfl) v xT w
theorem Tryd.hasIsE (v : Value) (xT : TypeId) (w : World) : (Instr.typeAssert (.iface 30 v) xT 86 true).run Tryd.prog w = .ok (.tuple #[.iface 30 v, .bool true]) w := run_typeAssert_hasB Tryd.underlying86 (by kernel_rfl) v xT w
theorem Tryd.noUnwrapE (v : Value) (xT : TypeId) (w : World) : (Instr.typeAssert (.iface 30 v) xT 81 true).run Tryd.prog w = .ok (.tuple #[.nilIface, .bool false]) w := run_typeAssert_lacksB Tryd.underlying81 (by kernel_rfl) (by kernel_rfl) v xT w
theorem Tryd.hasUnwrapO (v : Value) (xT : TypeId) (w : World) : (Instr.typeAssert (.iface 50 v) xT 81 true).run Tryd.prog w = .ok (.tuple #[.iface 50 v, .bool true]) w := run_typeAssert_hasB Tryd.underlying81 (by kernel_rfl) v xT w
theorem Tryd.noUnwrapS (v : Value) (xT : TypeId) (w : World) : (Instr.typeAssert (.iface 68 v) xT 81 true).run Tryd.prog w = .ok (.tuple #[.nilIface, .bool false]) w := run_typeAssert_lacksB Tryd.underlying81 (by kernel_rfl) (by kernel_rfl) v xT w
theorem Tryd.noUnwrapsE (v : Value) (xT : TypeId) (w : World) : (Instr.typeAssert (.iface 30 v) xT 83 true).run Tryd.prog w = .ok (.tuple #[.nilIface, .bool false]) w := run_typeAssert_lacksB Tryd.underlying83 (by kernel_rfl) (by kernel_rfl) v xT w
theorem Tryd.noUnwrapsS (v : Value) (xT : TypeId) (w : World) : (Instr.typeAssert (.iface 68 v) xT 83 true).run Tryd.prog w = .ok (.tuple #[.nilIface, .bool false]) w := run_typeAssert_lacksB Tryd.underlying83 (by kernel_rfl) (by kernel_rfl) v xT w
end Go.Proofs.YtpoccibneoankaaDoor
