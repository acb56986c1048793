/- Sx: max, an element of an array value. Nothing of the program. -/
import Derived.Test.YtlmpolmalgpodaaDoorSxm
namespace Go.Proofs.YtlmpolmalgpodaaDoor
open Go
set_option linter.unusedVariables false
set_option linter.unusedSimpArgs false
section
variable {P : Program} {ρ : Env} {o : Oper} {w : World} {x y z : Operand} {v : Value} {t t' : TypeId}
theorem rMax {a b : Int} (ho : o.op = .call { callee := .builtin .max, args := #[x, y], argTypes := #[t, t'] }) (hx : ev ρ x = .int .i64 a) (hy : ev ρ y = .int .i64 b) : Runs P ρ o w (.int .i64 (max a b)) := by
  have e : max a b = if b > a then b else a := by rw [Int.max_def]; split <;> split <;> omega
  rw [e]
  simp [Runs, execOp, ho, resolve, invoke, builtin, hx, hy, Builtin.max_, Builtin.max2]
end
end Go.Proofs.YtlmpolmalgpodaaDoor
