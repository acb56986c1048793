/- Sx: arrays of ints as values: an element, ==, a cell. Nothing of the program. -/
import Derived.Test.YtlmpolmalgpodaaDoorSxq
namespace Go.Proofs.YtlmpolmalgpodaaDoor
open Go
set_option linter.unusedVariables false
set_option linter.unusedSimpArgs false
theorem i64s_at {l : List Int} {i : Nat} (h : i < l.length) : (i64s l).toArray[i]? = some (.int .i64 (l.getD i 0)) := by
  simp [i64s, List.getD, List.getElem?_eq_getElem h]
theorem i64s_set {l : List Int} {k : Nat} {v : Int} : (i64s l).toArray.setIfInBounds k (.int .i64 v) = (i64s (l.set k v)).toArray := by simp [i64s, List.map_set]
theorem at_mul {w : World} {b k : Nat} {v : Value} (h : w.cell? ⟨b, k, none⟩ = some v) : w.cell? ⟨b, 0 + k * 1, none⟩ = some v := by simpa using h
section
variable {P : Program} {ρ : Env} {o : Oper} {w : World} {x y z : Operand} {v : Value} {t t' : TypeId}
theorem rIdxA {n e i : Nat} {la : List Int} {k k' : IntKind} (ho : o.op = .index t x y) (ht : P.underlying t = some (.array n e)) (he : P.underlying e = some (.int k)) (hs : szB P e 1 = true) (hx : ev ρ x = .agg (i64s la).toArray) (hy : ev ρ y = .int k' (i : Int)) (hn : la.length = n) (hi : i < n) :
    Runs P ρ o w (.int .i64 (la.getD i 0)) := by
  have hi' : (i : Int) < (n : Int) := by omega
  have hp := run_part_i64 (P := P) (w := w) he (show i < la.length by omega)
  simp [Runs, execOp, ho, hx, hy, Instr.index, asIntOf, run_underlying ht, run_size hs, hi, hp]
theorem rEqlA {n : Nat} {la lb : List Int} (ho : o.op = .binOp .eql t x y t') (hB : arrB P t n = true) (hg : P.eqGuardType P.depth t = false) (hx : ev ρ x = .agg (i64s la).toArray) (hy : ev ρ y = .agg (i64s lb).toArray) (ha : la.length = n) (hb : lb.length = n) : Runs P ρ o w (.bool (decide (la = lb))) := by
  have h1 := run_eqGuard_agg (P := P) w .eql t x y (i64s la).toArray (i64s lb).toArray hg
  have h2 := run_eql_struct (P := P) w t (i64s la).toArray (i64s lb).toArray
  rw [show (10000 : Nat) = 9998 + 2 from rfl, run_equalIn_arr 9998 hB ha hb] at h2
  simp [Runs, execOp, ho, hx, hy, h1, h2]
theorem rNeqA {n : Nat} {la lb : List Int} (ho : o.op = .binOp .neq t x y t') (hB : arrB P t n = true) (hg : P.eqGuardType P.depth t = false) (hx : ev ρ x = .agg (i64s la).toArray) (hy : ev ρ y = .agg (i64s lb).toArray) (ha : la.length = n) (hb : lb.length = n) : Runs P ρ o w (.bool (!decide (la = lb))) := by
  have h1 := run_eqGuard_agg (P := P) w .neq t x y (i64s la).toArray (i64s lb).toArray hg
  have h2 := run_neq_struct (P := P) w t (i64s la).toArray (i64s lb).toArray
  rw [show (10000 : Nat) = 9998 + 2 from rfl, run_equalIn_arr 9998 hB ha hb] at h2
  simp [Runs, execOp, ho, hx, hy, h1, h2]
end
end Go.Proofs.YtlmpolmalgpodaaDoor
