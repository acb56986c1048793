/- What internal/reflectlite's entries leave, at api.Errno. -/
import Derived.Test.YtgkmlnbnjbpodaaDoorSxA
import Derived.Test.YtgkmlnbnjbpodaaDoorProg
import Derived.Laws.Externs
import Derived.Stop.Asserts
namespace Go.Proofs.YtgkmlnbnjbpodaaDoor
open Go Go.Extern
set_option linter.unusedVariables false
set_option linter.unusedSimpArgs false
/-- The handle of a type. -/
abbrev hdl (t : Nat) : Value := .pointer (some ⟨1, t, none⟩)
section
variable {P : Program} {ρ : Env} {o : Oper} {w w' : World} {x y z : Operand} {v : Value} {t t' : TypeId}
theorem rExt {f : FuncId} {bs : List Operand} {ts : Array TypeId} {vs : List Value} (ho : o.op = .call { callee := .value (.func f), args := bs.toArray, argTypes := ts }) (hv : bs.map (ev ρ) = vs) (hc : (callFunc f vs.toArray).run P w = .ok (.value v) w') : (execOp (ev ρ) o).run P w = .ok (.value v) w' := by
  simp [execOp, ho, resolve, ev, Deferred.ofValue, invoke, hv, hc]
theorem rExtI {name : String} {x : Operand} {bs : List Operand} {ts : Array TypeId} {vs : List Value} {u : Value} (ho : o.op = .call { callee := .invoke x name, args := bs.toArray, argTypes := ts }) (hx : ev ρ x = .iface t u) (hv : bs.map (ev ρ) = vs) (hc : (callMethod (.iface t u) name vs.toArray).run P w = .ok (.value v) w') : (execOp (ev ρ) o).run P w = .ok (.value v) w' := by
  simp [execOp, ho, resolve, invoke, hx, hv, Array.extract_append, hc]
end
section
variable {P : Program} {N : Nat} {ops : Array Oper} {Q : XPost} {rest : List Oper} {ρ : Env} {o : Oper} {w0 w : World} {S : Nat → Prop} {H : List Ent} {d t : Nat} {cs : Array Value}
theorem WL_xbox {v : Nat → Value} (hI : Inv S w0 w H) (hw : wantedR ops ρ o = true) (hd : o.dst = some d) (hN : Nat.blt d N = true) (hr : (execOp (ev ρ) o).run P w = .ok (.value (v w.heap.size)) (w.alloc (.cells cs t)))
    (h : ∀ g w', Inv S w0 w' (B g t cs :: H) → WL P N ops Q rest (upd ρ d (v g)) w') : WL P N ops Q (o :: rest) ρ w :=
  WL_eff hw hd hN hr (h _ _ (hI.box t cs))
end
theorem x_valueOfT (a : Addr) (w : World) : (callFunc 36 #[.iface 55 (.pointer (some a))]).run Tryd.prog w = .ok (.value (.agg #[hdl 55, .pointer (some ⟨w.heap.size, 0, none⟩), .int .u64 150])) (w.alloc (.cells #[.pointer (some a)] 55)) := by kernel_rfl
theorem x_type (a : Addr) (w : World) : (callFunc 37 #[.agg #[hdl 55, .pointer (some a), .int .u64 150]]).run Tryd.prog w = .ok (.value (.iface 102 (.agg #[hdl 55]))) w := by kernel_rfl
theorem x_kindP (w : World) : (callMethod (.iface 102 (.agg #[hdl 55])) "Kind" #[]).run Tryd.prog w = .ok (.value (.int .u8 22)) w := by kernel_rfl
theorem x_elemT (w : World) : (callMethod (.iface 102 (.agg #[hdl 55])) "Elem" #[]).run Tryd.prog w = .ok (.value (.iface 102 (.agg #[hdl 29]))) w := by kernel_rfl
theorem x_kindE (w : World) : (callMethod (.iface 102 (.agg #[hdl 29])) "Kind" #[]).run Tryd.prog w = .ok (.value (.int .u8 2)) w := by kernel_rfl
theorem x_impl (w : World) : (callMethod (.iface 102 (.agg #[hdl 29])) "Implements" #[.iface 102 (.agg #[hdl 25])]).run Tryd.prog w = .ok (.value (.bool true)) w := by kernel_rfl
theorem x_typeOf (v : Value) (w : World) : (callFunc 45 #[.iface 29 v]).run Tryd.prog w = .ok (.value (.iface 102 (.agg #[hdl 29]))) w := by kernel_rfl
theorem x_assign (w : World) : (callMethod (.iface 102 (.agg #[hdl 29])) "AssignableTo" #[.iface 102 (.agg #[hdl 29])]).run Tryd.prog w = .ok (.value (.bool true)) w := by kernel_rfl
theorem x_valueOfE (n : Int) (w : World) : (callFunc 36 #[.iface 29 (.int .i64 n)]).run Tryd.prog w = .ok (.value (.agg #[hdl 29, .pointer (some ⟨w.heap.size, 0, none⟩), .int .u64 130])) (w.alloc (.cells #[.int .i64 n] 29)) := by kernel_rfl
theorem x_noAs (p : Value) (w : World) : (Instr.typeAssert (.iface 91 p) 25 107 true).run Tryd.prog w = .ok (.tuple #[.nilIface, .bool false]) w := _root_.Go.run_typeAssert_lacksB Tryd.underlying107 (by kernel_rfl) (by kernel_rfl) p 25 w
theorem x_hasUn (p : Value) (w : World) : (Instr.typeAssert (.iface 91 p) 25 110 true).run Tryd.prog w = .ok (.tuple #[.iface 91 p, .bool true]) w := by kernel_rfl
theorem x_typeOfA (p : Value) (w : World) : (callFunc 45 #[.iface 91 p]).run Tryd.prog w = .ok (.value (.iface 102 (.agg #[hdl 91]))) w := by kernel_rfl
theorem x_noAssign (w : World) : (callMethod (.iface 102 (.agg #[hdl 91])) "AssignableTo" #[.iface 102 (.agg #[hdl 29])]).run Tryd.prog w = .ok (.value (.bool false)) w := by kernel_rfl
theorem x_unwrap (p : Value) (w : World) : (callMethod (.iface 91 p) "Unwrap" #[]).run Tryd.prog w = .ok (.enter 70 #[p]) w := by kernel_rfl
end Go.Proofs.YtgkmlnbnjbpodaaDoor
