/- What internal/reflectlite's entries leave, at api.Errno. -/
import Derived.Test.YtgppljdfhhgkiaaGreatDoorSxA
import Derived.Test.YtgppljdfhhgkiaaGreatDoorProg
import Derived.Laws.Externs
import Derived.Stop.Asserts
namespace Go.Proofs.YtgppljdfhhgkiaaGreatDoor
open Go Go.Extern
set_option linter.unusedVariables false
set_option linter.unusedSimpArgs false
/-- The handle of a type. -/
abbrev hdl (t : Nat) : Value := .pointer (some ⟨12, t, none⟩)
section
variable {P : Program} {ρ : Env} {o : Oper} {w w' : World} {x y z : Operand} {v : Value} {t t' : TypeId}
theorem rExt {f : FuncId} {bs : List Operand} {ts : Array TypeId} {vs : List Value} (ho : o.op = .call { callee := .value (.func f), args := bs.toArray, argTypes := ts }) (hv : bs.map (ev ρ) = vs) (hc : (callFunc f vs.toArray).run P w = .ok (.value v) w') : (execOp (ev ρ) o).run P w = .ok (.value v) w' := by
  simp [execOp, ho, resolve, ev, Deferred.ofValue, invoke, hv, hc]
theorem rExtI {name : String} {x : Operand} {bs : List Operand} {ts : Array TypeId} {vs : List Value} {u : Value} (ho : o.op = .call { callee := .invoke x name, args := bs.toArray, argTypes := ts }) (hx : ev ρ x = .iface t u) (hv : bs.map (ev ρ) = vs) (hc : (callMethod (.iface t u) name vs.toArray).run P w = .ok (.value v) w') : (execOp (ev ρ) o).run P w = .ok (.value v) w' := by
  simp [execOp, ho, resolve, invoke, hx, hv, Array.extract_append, hc]
end
section
variable {P : Program} {N : Nat} {ops : Array Oper} {Q : XPost} {rest : List Oper} {ρ : Env} {o : Oper} {w0 w : World} {S : Nat → Prop} {H : List Ent} {d t : Nat} {cs : Array Value}
theorem WL_xbox {v : Nat → Value} (hI : Inv S w0 w H) (hw : wantedR ops ρ o = true) (hd : o.dst = some d) (hN : Nat.blt d N = true) (hr : (execOp (ev ρ) o).run P w = .ok (.value (v w.heap.size)) (w.alloc (.cells cs t)))
    (h : ∀ g w', Inv S w0 w' (B g t cs :: H) → WL P N ops Q rest (upd ρ d (v g)) w') : WL P N ops Q (o :: rest) ρ w :=
  WL_eff hw hd hN hr (h _ _ (hI.box t cs))
end
theorem x_valueOfT (a : Addr) (w : World) : (callFunc 40 #[.iface 80 (.pointer (some a))]).run Tryz.prog w = .ok (.value (.agg #[hdl 80, .pointer (some ⟨w.heap.size, 0, none⟩), .int .u64 150])) (w.alloc (.cells #[.pointer (some a)] 80)) := by kernel_rfl
theorem x_type (a : Addr) (w : World) : (callFunc 41 #[.agg #[hdl 80, .pointer (some a), .int .u64 150]]).run Tryz.prog w = .ok (.value (.iface 131 (.agg #[hdl 80]))) w := by kernel_rfl
theorem x_kindP (w : World) : (callMethod (.iface 131 (.agg #[hdl 80])) "Kind" #[]).run Tryz.prog w = .ok (.value (.int .u8 22)) w := by kernel_rfl
theorem x_elemT (w : World) : (callMethod (.iface 131 (.agg #[hdl 80])) "Elem" #[]).run Tryz.prog w = .ok (.value (.iface 131 (.agg #[hdl 33]))) w := by kernel_rfl
theorem x_kindE (w : World) : (callMethod (.iface 131 (.agg #[hdl 33])) "Kind" #[]).run Tryz.prog w = .ok (.value (.int .u8 2)) w := by kernel_rfl
theorem x_impl (w : World) : (callMethod (.iface 131 (.agg #[hdl 33])) "Implements" #[.iface 131 (.agg #[hdl 24])]).run Tryz.prog w = .ok (.value (.bool true)) w := by kernel_rfl
theorem x_typeOf (v : Value) (w : World) : (callFunc 59 #[.iface 33 v]).run Tryz.prog w = .ok (.value (.iface 131 (.agg #[hdl 33]))) w := by kernel_rfl
theorem x_assign (w : World) : (callMethod (.iface 131 (.agg #[hdl 33])) "AssignableTo" #[.iface 131 (.agg #[hdl 33])]).run Tryz.prog w = .ok (.value (.bool true)) w := by kernel_rfl
theorem x_valueOfE (n : Int) (w : World) : (callFunc 40 #[.iface 33 (.int .i64 n)]).run Tryz.prog w = .ok (.value (.agg #[hdl 33, .pointer (some ⟨w.heap.size, 0, none⟩), .int .u64 130])) (w.alloc (.cells #[.int .i64 n] 33)) := by kernel_rfl
theorem x_noAs (p : Value) (w : World) : (Instr.typeAssert (.iface 59 p) 24 136 true).run Tryz.prog w = .ok (.tuple #[.nilIface, .bool false]) w := _root_.Go.run_typeAssert_lacksB Tryz.underlying136 (by kernel_rfl) (by kernel_rfl) p 24 w
theorem x_hasUn (p : Value) (w : World) : (Instr.typeAssert (.iface 59 p) 24 139 true).run Tryz.prog w = .ok (.tuple #[.iface 59 p, .bool true]) w := by kernel_rfl
theorem x_typeOfA (p : Value) (w : World) : (callFunc 59 #[.iface 59 p]).run Tryz.prog w = .ok (.value (.iface 131 (.agg #[hdl 59]))) w := by kernel_rfl
theorem x_noAssign (w : World) : (callMethod (.iface 131 (.agg #[hdl 59])) "AssignableTo" #[.iface 131 (.agg #[hdl 33])]).run Tryz.prog w = .ok (.value (.bool false)) w := by kernel_rfl
theorem x_unwrap (p : Value) (w : World) : (callMethod (.iface 59 p) "Unwrap" #[]).run Tryz.prog w = .ok (.enter 105 #[p]) w := by kernel_rfl
end Go.Proofs.YtgppljdfhhgkiaaGreatDoor
