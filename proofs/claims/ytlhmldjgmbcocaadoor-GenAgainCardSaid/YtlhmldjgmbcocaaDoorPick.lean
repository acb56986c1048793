/- pick: a number below another one. -/
import Derived.Test.YtlhmldjgmbcocaaDoorProg
import Derived.Test.YtlhmldjgmbcocaaDoorBase
namespace Go.Proofs.YtlhmldjgmbcocaaDoor
open Go.RowKit
set_option linter.unusedVariables false
set_option linter.unusedSimpArgs false

/-- pick(a, n) -/
def pickN (a : Int) (n : Nat) : Nat := ((a % 18446744073709551616) % n).toNat
theorem pickN_lt (a : Int) {n : Nat} (h : 0 < n) : pickN a n < n := by
  unfold pickN
  have h1 := Int.emod_lt_of_pos (a % 18446744073709551616) (show (0 : Int) < n by omega)
  have h2 := Int.emod_nonneg (a % 18446744073709551616) (show (n : Int) ≠ 0 by omega)
  omega
theorem pickN_eq (a : Int) {n : Nat} (h : 0 < n) : (a % 18446744073709551616) % n = (pickN a n : Int) := by
  unfold pickN
  have h2 := Int.emod_nonneg (a % 18446744073709551616) (show (n : Int) ≠ 0 by omega)
  omega
theorem pick_wrap (a : Int) (n : Nat) (h : 0 < n) (hn : n ≤ 9223372036854775807) : wrap64 ((IntKind.u64.wrap a).tmod n) = pickN a n := by
  have h0 : IntKind.u64.wrap a = a % 18446744073709551616 := by simp [IntKind.wrap, IntKind.signed, IntKind.bits]
  have h1 := Int.emod_nonneg a (show (18446744073709551616 : Int) ≠ 0 by decide)
  have h3 := pickN_lt a h
  rw [h0, Int.tmod_eq_emod_of_nonneg h1, pickN_eq a h]
  exact IntWalk.wrap64_in _ ⟨by omega, by omega⟩
set_option maxHeartbeats 400000 in
theorem pick_any (a : Int) (n : Nat) (w : World) (h : 0 < n) (hn : n ≤ 9223372036854775807) :
    Calls Tryd.prog 5 #[.int .i64 a, .int .i64 n] w fun e w' => e = .returned (.int .i64 (pickN a n)) ∧ w = w' := by
  go_enter Tryd.func5, Tryd.ntmps5
  go_wp2
  go_ret
  refine ⟨ret_int (pick_wrap a n h hn), rfl⟩
end Go.Proofs.YtlhmldjgmbcocaaDoor
