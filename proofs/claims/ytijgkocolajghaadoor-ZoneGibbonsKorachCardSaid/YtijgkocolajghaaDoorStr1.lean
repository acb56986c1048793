/- internal/strconv.formatBits at base 36. -/
import Derived.Test.YtijgkocolajghaaDoorMod6
import Derived.Test.YtijgkocolajghaaDoorSxv
namespace Go.Proofs.YtijgkocolajghaaDoor
open Go.RowKit
set_option linter.unusedVariables false
set_option linter.unusedSimpArgs false
section
variable {P : Program} {ρ : Env} {o : Oper} {w : World} {x y : Operand} {t t' : TypeId}
theorem rQuoU {a b : Nat} (ho : o.op = .binOp .quo t x y t') (hx : ev ρ x = .int .u64 (a : Int)) (hy : ev ρ y = .int .u64 (b : Int)) (hb : 0 < b) (ha : a < 18446744073709551616) : Runs P ρ o w (.int .u64 ((a / b : Nat) : Int)) := by
  have h := rQuoW (P := P) (w := w) ho hx hy (by omega)
  have hl : a / b ≤ a := Nat.div_le_self a b
  have e : (a : Int).tdiv (b : Int) = ((a / b : Nat) : Int) := by simp [Int.ofNat_tdiv]
  rwa [e, wrap_u64 (by omega)] at h
theorem rMulU {a b : Nat} (ho : o.op = .binOp .mul t x y t') (hx : ev ρ x = .int .u64 (a : Int)) (hy : ev ρ y = .int .u64 (b : Int)) (ha : a * b < 18446744073709551616) : Runs P ρ o w (.int .u64 ((a * b : Nat) : Int)) := by
  have h := rMulW (P := P) (w := w) ho hx hy
  rwa [← Int.natCast_mul, wrap_u64 ha] at h
theorem rSubU {a b : Nat} (ho : o.op = .binOp .sub t x y t') (hx : ev ρ x = .int .u64 (a : Int)) (hy : ev ρ y = .int .u64 (b : Int)) (hb : b ≤ a) (ha : a < 18446744073709551616) : Runs P ρ o w (.int .u64 ((a - b : Nat) : Int)) := by
  have h := rSubW (P := P) (w := w) ho hx hy
  rwa [show (a : Int) - (b : Int) = ((a - b : Nat) : Int) by omega, wrap_u64 (by omega)] at h
end
def bytC (l : List Nat) : List Value := l.map fun b : Nat => Value.int .u8 (b : Int)
theorem bytC_len (l : List Nat) : (bytC l).length = l.length := by simp [bytC]
theorem bytC_app (l m : List Nat) : bytC (l ++ m) = bytC l ++ bytC m := by simp [bytC]
theorem bytC_one (l : List Nat) : (bytC l).all (·.oneCell') = true := by
  rw [List.all_eq_true]
  intro v hv
  obtain ⟨b, _, rfl⟩ := List.mem_map.1 hv
  rfl
def BytE (base : Nat) (A : Option Addr) (c : Nat) (l : List Nat) : Ent := Row base 5 1 A l.length c (bytC l)
theorem dig_str : ∀ i, i < 36 → (⟨#[48, 49, 50, 51, 52, 53, 54, 55, 56, 57, 97, 98, 99, 100, 101, 102, 103, 104, 105, 106, 107, 108, 109, 110, 111, 112, 113, 114, 115, 116, 117, 118, 119, 120, 121, 122]⟩ : ByteArray)[i]? = some (UInt8.ofNat (dig36 i)) := by decide +kernel
theorem dig_u8 {i : Nat} (h : i < 36) : ((UInt8.ofNat (dig36 i)).toNat : Int) = (dig36 i : Int) := by
  have := (okC_dig h).1.2.2
  simp
  omega
theorem pow2_36 (w0 : World) : Calls Tryd.prog 86 #[.int .i64 36] w0 fun en w' => en = .returned (.bool false) ∧ Pure w0 w' := by
  have hI := Inv.start (fun _ => False) w0
  refine calls_of_W (N := Tryd.f86.ntmps) Tryd.func86 rfl rfl rfl ?_
  refine W_seq ?_
  refine W_region ?_
  refine WL_val rfl rfl rfl (by first | exact rAsgnB rfl rfl | exact rAsgn rfl) ?_
  refine WL_nil ?_
  refine W_seq ?_
  refine W_region ?_
  refine WL_val rfl rfl rfl (by first | exact rMoveI rfl rfl | exact rMove rfl) ?_
  refine WL_val rfl rfl rfl (by first | exact rMoveI rfl rfl | exact rMove rfl) ?_
  refine WL_val rfl rfl rfl (by first | exact rSub rfl rfl rfl (by omega) | exact rSubW rfl rfl rfl) ?_
  refine WL_val rfl rfl rfl (rBits (r := fun p q => p &&& q) rfl rfl rfl rfl) ?_
  refine WL_val rfl rfl rfl (by first | exact rEqlT rfl rfl rfl (by omega) | exact rEqlF rfl rfl rfl (by omega) | exact rEql rfl rfl rfl) ?_
  refine WL_val rfl rfl rfl (by first | exact rAsgnB rfl rfl | exact rAsgn rfl) ?_
  refine WL_nil ?_
  refine W_ret ?_
  exact ret1 2 (.inr rfl) rfl ⟨rfl, hI.pu⟩
theorem drop_set65 {cs : Array Value} {k : Nat} (hk : k < 65) (hcs : cs.size = 65) (v : Value) : (cs.setIfInBounds (0 + (65 - k - 1) * 1) v).toList.drop (65 - (k + 1)) = v :: cs.toList.drop (65 - k) := by
  have e : 0 + (65 - k - 1) * 1 = 65 - (k + 1) := by omega
  have hl : 65 - (k + 1) < (cs.toList.set (65 - (k + 1)) v).length := by simp [hcs]; omega
  rw [e, Array.toList_setIfInBounds, List.drop_eq_getElem_cons hl, List.getElem_set_self, List.drop_set_of_lt (by omega), show 65 - (k + 1) + 1 = 65 - k by omega]
set_option maxHeartbeats 2000000 in
theorem fmt_any (base : Nat) (A : Option Addr) (c : Nat) (l : List Nat) (u : Nat) (w0 : World) (hR : (BytE base A c l).ok w0) (hu : u < 18446744073709551616) (hn : l.length ≤ 1000000) (hb : base ≤ w0.heap.size) :
    Calls Tryd.prog 81 #[.slice A l.length c, .int .u64 (u : Int), .int .i64 36, .bool false, .bool true] w0 fun en w' => ∃ A' c', en = .returned (.tuple #[.slice A' (l ++ dig u).length c', .string ⟨#[]⟩]) ∧ Inv (BytE base A c l).D w0 w' [BytE base A' c' (l ++ dig u)] := by
  have hI := Inv.ownE hR
  refine calls_of_W (N := Tryd.f81.ntmps) Tryd.func81 rfl rfl rfl ?_
  refine W_seq ?_
  refine W_region ?_
  refine WL_val rfl rfl rfl (by first | exact rAsgnS rfl rfl | exact rAsgn rfl) ?_
  refine WL_val rfl rfl rfl (by first | exact rAsgnStr rfl rfl | exact rAsgn rfl) ?_
  refine WL_nil ?_
  refine W_seq ?_
  refine W_seq ?_
  refine W_region ?_
  refine WL_val rfl rfl rfl (by first | exact rMoveI rfl rfl | exact rMove rfl) ?_
  refine WL_val rfl rfl rfl (by first | exact rLssT rfl rfl rfl (by omega) | exact rLssF rfl rfl rfl (by omega) | exact rLss rfl rfl rfl) ?_
  refine WL_val rfl rfl rfl (by first | exact rMoveB rfl rfl | exact rMove rfl) ?_
  first | refine WL_val rfl rfl rfl (by first | exact rMoveI rfl rfl | exact rMove rfl) ?_ | refine WL_skip rfl rfl rfl ?_
  first | refine WL_val rfl rfl rfl (by first | exact rEqlT rfl rfl rfl (by omega) | exact rEqlF rfl rfl rfl (by omega) | exact rEql rfl rfl rfl) ?_ | refine WL_skip rfl rfl rfl ?_
  refine WL_val rfl rfl rfl (by first | exact rPickTB rfl rfl rfl | exact rPickFB rfl rfl rfl | exact rPickB rfl rfl rfl rfl) ?_
  refine WL_val rfl rfl rfl (by first | exact rMoveB rfl rfl | exact rMove rfl) ?_
  first | refine WL_val rfl rfl rfl (by first | exact rMoveI rfl rfl | exact rMove rfl) ?_ | refine WL_skip rfl rfl rfl ?_
  first | refine WL_val rfl rfl rfl (by first | exact rGtrT rfl rfl rfl (by omega) | exact rGtrF rfl rfl rfl (by omega) | exact rGtr rfl rfl rfl) ?_ | refine WL_skip rfl rfl rfl ?_
  refine WL_val rfl rfl rfl (by first | exact rPickTB rfl rfl rfl | exact rPickFB rfl rfl rfl | exact rPickB rfl rfl rfl rfl) ?_
  refine WL_nil ?_
  refine W_cond false rfl ?_
  refine W_skip ?_
  refine W_seq ?_
  refine W_region ?_
  refine WL_alloc (u := .agg #[.int .u8 0, .int .u8 0, .int .u8 0, .int .u8 0, .int .u8 0, .int .u8 0, .int .u8 0, .int .u8 0, .int .u8 0, .int .u8 0, .int .u8 0, .int .u8 0, .int .u8 0, .int .u8 0, .int .u8 0, .int .u8 0, .int .u8 0, .int .u8 0, .int .u8 0, .int .u8 0, .int .u8 0, .int .u8 0, .int .u8 0, .int .u8 0, .int .u8 0, .int .u8 0, .int .u8 0, .int .u8 0, .int .u8 0, .int .u8 0, .int .u8 0, .int .u8 0, .int .u8 0, .int .u8 0, .int .u8 0, .int .u8 0, .int .u8 0, .int .u8 0, .int .u8 0, .int .u8 0, .int .u8 0, .int .u8 0, .int .u8 0, .int .u8 0, .int .u8 0, .int .u8 0, .int .u8 0, .int .u8 0, .int .u8 0, .int .u8 0, .int .u8 0, .int .u8 0, .int .u8 0, .int .u8 0, .int .u8 0, .int .u8 0, .int .u8 0, .int .u8 0, .int .u8 0, .int .u8 0, .int .u8 0, .int .u8 0, .int .u8 0, .int .u8 0, .int .u8 0]) (vs := #[.int .u8 0, .int .u8 0, .int .u8 0, .int .u8 0, .int .u8 0, .int .u8 0, .int .u8 0, .int .u8 0, .int .u8 0, .int .u8 0, .int .u8 0, .int .u8 0, .int .u8 0, .int .u8 0, .int .u8 0, .int .u8 0, .int .u8 0, .int .u8 0, .int .u8 0, .int .u8 0, .int .u8 0, .int .u8 0, .int .u8 0, .int .u8 0, .int .u8 0, .int .u8 0, .int .u8 0, .int .u8 0, .int .u8 0, .int .u8 0, .int .u8 0, .int .u8 0, .int .u8 0, .int .u8 0, .int .u8 0, .int .u8 0, .int .u8 0, .int .u8 0, .int .u8 0, .int .u8 0, .int .u8 0, .int .u8 0, .int .u8 0, .int .u8 0, .int .u8 0, .int .u8 0, .int .u8 0, .int .u8 0, .int .u8 0, .int .u8 0, .int .u8 0, .int .u8 0, .int .u8 0, .int .u8 0, .int .u8 0, .int .u8 0, .int .u8 0, .int .u8 0, .int .u8 0, .int .u8 0, .int .u8 0, .int .u8 0, .int .u8 0, .int .u8 0, .int .u8 0]) hI rfl rfl rfl rfl (by kernel_rfl) rfl ?_
  clear hI; rintro b12 w - - hI
  refine WL_nil ?_
  refine W_seq ?_
  refine W_region ?_
  refine WL_val rfl rfl rfl (by first | exact rAsgnI rfl rfl | exact rAsgn rfl) ?_
  refine WL_nil ?_
  refine W_seq ?_
  refine W_seq ?_
  refine W_region ?_
  refine WL_val rfl rfl rfl (by first | exact rMoveB rfl rfl | exact rMove rfl) ?_
  refine WL_nil ?_
  refine W_cond false rfl ?_
  refine W_skip ?_
  refine W_seq ?_
  refine W_seq ?_
  refine W_region ?_
  refine WL_val rfl rfl rfl (by first | exact rMoveI rfl rfl | exact rMove rfl) ?_
  refine WL_call rfl rfl rfl (rCall (vs := [.int .i64 _]) rfl Tryd.func86 rfl rfl rfl) ?_
  refine (pow2_36 _).mono ?_
  rintro e w1 ⟨rfl, hp⟩
  refine ⟨_, rfl, ?_⟩
  replace hI := hI.pure hp
  refine WL_nil ?_
  refine W_cond false rfl ?_
  refine W_seq ?_
  refine W_region ?_
  refine WL_val rfl rfl rfl (by first | exact rMoveI rfl rfl | exact rMove rfl) ?_
  refine WL_val rfl rfl rfl (by first | exact rConv_u64s rfl Tryd.underlying3 Tryd.underlying130 rfl (by omega) | exact rConvW rfl Tryd.underlying3 Tryd.underlying130 rfl) ?_
  refine WL_val rfl rfl rfl (by first | exact rAsgnI rfl rfl | exact rAsgn rfl) ?_
  refine WL_nil ?_
  obtain ⟨cs, hcs, hI⟩ : ∃ cs : Array Value, cs.size = 65 ∧ Inv (BytE base A c l).D w0 w1 [B b12 152 cs, BytE base A c l] := ⟨_, by rfl, hI⟩
  refine W_seq ?_
  refine W_block ?_
  refine W_loopN (fun mu ρ w => ∃ (k u' : Nat) (acc : List Nat) (cs : Array Value), mu = 13 - k ∧ k ≤ 13 ∧ acc.length = k ∧ dig u = digs36 (13 - k) u' acc ∧ u' < 36 ^ (13 - k + 1) ∧ u' < 18446744073709551616 ∧ cs.size = 65 ∧ cs.toList.drop (65 - k) = bytC acc ∧ Has ρ [(13, .int .i64 ((65 - k : Nat) : Int)), (1, .int .u64 (u' : Int)), (17, .int .u64 36), (12, .pointer (some ⟨b12, 0, none⟩)), (0, .slice A l.length c), (3, .bool false), (4, .bool true), (11, .string ⟨#[]⟩)] ∧ Inv (BytE base A c l).D w0 w [B b12 152 cs, BytE base A c l]) 13
    ⟨0, u, [], cs, rfl, by omega, rfl, rfl, Nat.lt_of_lt_of_le hu (by decide), hu, hcs, by rw [List.drop_eq_nil_of_le (by simp [hcs])]; rfl, ⟨rfl, rfl, rfl, rfl, rfl, rfl, rfl, rfl, trivial⟩, hI⟩ ?_
  clear hI
  rintro mu ρ w ⟨k, u', acc, cs, rfl, hk, hacc, hdig, hu1, hu2, hcs, hdrop, hH, hI⟩
  obtain ⟨σ, rfl⟩ := hH.open
  by_cases h36 : 36 ≤ u'
  · have hk13 : k < 13 := by
      rcases Nat.lt_or_ge k 13 with h | h
      · exact h
      · obtain rfl : k = 13 := by omega
        simp at hu1
        omega
    have hq : u' / 36 * 36 ≤ u' := Nat.div_mul_le_self u' 36
    have hr : u' - u' / 36 * 36 = u' % 36 := by omega
    have hr36 : u' % 36 < 36 := Nat.mod_lt _ (by omega)
    refine W_seq ?_
    refine W_seq ?_
    refine W_region ?_
    refine WL_val rfl rfl rfl (by first | exact rMoveI rfl rfl | exact rMove rfl) ?_
    refine WL_val rfl rfl rfl (by first | exact rMoveI rfl rfl | exact rMove rfl) ?_
    refine WL_val rfl rfl rfl (by first | exact rGeqT rfl rfl rfl (by omega) | exact rGeqF rfl rfl rfl (by omega) | exact rGeq rfl rfl rfl) ?_
    refine WL_nil ?_
    refine W_cond true rfl ?_
    refine W_skip ?_
    refine W_block ?_
    refine W_seq ?_
    refine W_region ?_
    refine WL_val rfl rfl rfl (by first | exact rMoveI rfl rfl | exact rMove rfl) ?_
    refine WL_val rfl rfl rfl (rDecN (b := 1) rfl rfl rfl (by omega) (by omega)) ?_
    refine WL_val rfl rfl rfl (by first | exact rAsgnI rfl rfl | exact rAsgn rfl) ?_
    refine WL_nil ?_
    refine W_seq ?_
    refine W_region ?_
    refine WL_val rfl rfl rfl (by first | exact rMoveI rfl rfl | exact rMove rfl) ?_
    refine WL_val rfl rfl rfl (by first | exact rMoveI rfl rfl | exact rMove rfl) ?_
    refine WL_val rfl rfl rfl (rQuoU (b := 36) rfl rfl rfl (by omega) (by omega)) ?_
    refine WL_val rfl rfl rfl (by first | exact rAsgnI rfl rfl | exact rAsgn rfl) ?_
    refine WL_nil ?_
    refine W_seq ?_
    refine W_region ?_
    refine WL_val rfl rfl rfl (by first | exact rMoveI rfl rfl | exact rMove rfl) ?_
    refine WL_val rfl rfl rfl (by first | exact rMoveI rfl rfl | exact rMove rfl) ?_
    refine WL_val rfl rfl rfl (by first | exact rMoveI rfl rfl | exact rMove rfl) ?_
    refine WL_val rfl rfl rfl (by first | exact rMoveI rfl rfl | exact rMove rfl) ?_
    refine WL_val rfl rfl rfl (rMulU (b := 36) rfl rfl rfl (by omega)) ?_
    refine WL_val rfl rfl rfl (rSubU rfl rfl rfl (by omega) (by omega)) ?_
    refine WL_val rfl rfl rfl (rIdxStr rfl Tryd.underlying9 rfl rfl (dig_str _ (by omega)) (dig_u8 (by omega))) ?_
    refine WL_val rfl rfl rfl (rIdxArr (sz := 1) rfl Tryd.underlying152 (by kernel_rfl) rfl rfl rfl (by omega)) ?_
    refine WL_st0 (u := .int .u8 (dig36 (u' - u' / 36 * 36) : Int)) (j := 0 + (65 - k - 1) * 1) hI rfl rfl rfl rfl rfl rfl (by kernel_rfl) rfl (by simp [Nat.blt, hcs]) rfl ?_
    clear hI; intro w hI
    refine WL_nil ?_
    refine W_region ?_
    refine WL_val rfl rfl rfl (by first | exact rMoveI rfl rfl | exact rMove rfl) ?_
    refine WL_val rfl rfl rfl (by first | exact rAsgnI rfl rfl | exact rAsgn rfl) ?_
    refine WL_nil ?_
    rw [hr] at hI
    refine ⟨13 - (k + 1), by omega, k + 1, u' / 36, dig36 (u' % 36) :: acc, _, rfl, by omega, by simp [hacc], ?_, ?_, by omega, by simp [hcs], ?_, ⟨by show Value.int .i64 ((65 - k - 1 : Nat) : Int) = .int .i64 ((65 - (k + 1) : Nat) : Int); rw [Nat.sub_sub], rfl, rfl, rfl, rfl, rfl, rfl, rfl, trivial⟩, hI⟩
    · rw [hdig, show 13 - k = (13 - (k + 1)) + 1 by omega, digs36, if_neg (by omega)]
    · rw [Nat.div_lt_iff_lt_mul (by omega), ← Nat.pow_succ]
      rwa [show (13 - (k + 1) + 1).succ = 13 - k + 1 by omega]
    · rw [drop_set65 (by omega) hcs, hdrop]; rfl
  · refine W_seq ?_
    refine W_seq ?_
    refine W_region ?_
    refine WL_val rfl rfl rfl (by first | exact rMoveI rfl rfl | exact rMove rfl) ?_
    refine WL_val rfl rfl rfl (by first | exact rMoveI rfl rfl | exact rMove rfl) ?_
    refine WL_val rfl rfl rfl (by first | exact rGeqT rfl rfl rfl (by omega) | exact rGeqF rfl rfl rfl (by omega) | exact rGeq rfl rfl rfl) ?_
    refine WL_nil ?_
    refine W_cond false rfl ?_
    refine W_exit ?_
    refine W_seq ?_
    refine W_region ?_
    refine WL_val rfl rfl rfl (by first | exact rMoveI rfl rfl | exact rMove rfl) ?_
    refine WL_val rfl rfl rfl (rDecN (b := 1) rfl rfl rfl (by omega) (by omega)) ?_
    refine WL_val rfl rfl rfl (by first | exact rAsgnI rfl rfl | exact rAsgn rfl) ?_
    refine WL_nil ?_
    refine W_region ?_
    refine WL_val rfl rfl rfl (by first | exact rMoveI rfl rfl | exact rMove rfl) ?_
    refine WL_val rfl rfl rfl (by first | exact rMoveI rfl rfl | exact rMove rfl) ?_
    refine WL_val rfl rfl rfl (rIdxStr rfl Tryd.underlying9 rfl rfl (dig_str _ (by omega)) (dig_u8 (by omega))) ?_
    refine WL_val rfl rfl rfl (rIdxArr (sz := 1) rfl Tryd.underlying152 (by kernel_rfl) rfl rfl rfl (by omega)) ?_
    refine WL_st0 (u := .int .u8 (dig36 u' : Int)) (j := 0 + (65 - k - 1) * 1) hI rfl rfl rfl rfl rfl rfl (by kernel_rfl) rfl (by simp [Nat.blt, hcs]) rfl ?_
    clear hI; intro w hI
    refine WL_nil ?_
    have hfin : dig u = dig36 u' :: acc := by
      rw [hdig]
      cases h13 : 13 - k with
      | zero => rw [digs36, Nat.mod_eq_of_lt (by omega)]
      | succ f => rw [digs36, if_pos (by omega)]
    have hd65 := drop_set65 (k := k) (by omega) hcs (.int .u8 (dig36 u' : Int))
    rw [hdrop] at hd65
    have hd65 : (cs.setIfInBounds (0 + (65 - k - 1) * 1) (.int .u8 (dig36 u' : Int))).toList.drop (65 - (k + 1)) = bytC (dig u) := by rw [hd65, hfin]; rfl
    have hsz : (cs.setIfInBounds (0 + (65 - k - 1) * 1) (.int .u8 (dig36 u' : Int))).size = 65 := by simp [hcs]
    have hlen : (dig u).length = k + 1 := by rw [hfin]; simp [hacc]
    replace hI : ∃ cs' : Array Value, cs'.size = 65 ∧ cs'.toList.drop (65 - (k + 1)) = bytC (dig u) ∧ Inv (BytE base A c l).D w0 w [B b12 152 cs', BytE base A c l] := ⟨_, hsz, hd65, hI⟩
    obtain ⟨cs', hsz', hd', hI⟩ := hI
    refine W_seq ?_
    refine W_seq ?_
    refine W_region ?_
    refine WL_val rfl rfl rfl (by first | exact rMoveB rfl rfl | exact rMove rfl) ?_
    refine WL_nil ?_
    refine W_cond false rfl ?_
    refine W_skip ?_
    refine W_seq ?_
    refine W_seq ?_
    refine W_region ?_
    refine WL_val rfl rfl rfl (by first | exact rMoveB rfl rfl | exact rMove rfl) ?_
    refine WL_nil ?_
    refine W_cond true rfl ?_
    refine W_seq ?_
    refine W_region ?_
    refine WL_val rfl rfl rfl (by first | exact rMoveS rfl rfl | exact rMove rfl) ?_
    refine WL_val rfl rfl rfl (by first | exact rMoveI rfl rfl | exact rMove rfl) ?_
    refine WL_val rfl rfl rfl (rSliceArr (i := 65 - k - 1) rfl Tryd.underlying152 (by kernel_rfl) rfl rfl (by omega)) ?_
    -- STOP: call ['Op.call', ('st', {'callee': ['Callee.builtin', 'Builtin.append'], 'args': ('arr', [['Operand.tmp', '95'], ['Operand.tmp', '97']]), 'argTypes': ('arr
    refine WL_app1 (z := .int .u8 0) (by_ := 1) (news := bytC (dig u)) hI rfl rfl rfl rfl rfl rfl Tryd.underlying111 (by kernel_rfl) rfl (by omega) (by rw [bytC_len]; omega) (fun q v hq => ?_) (bytC_one _) (by omega) (by omega) (by have := hI.chg.size; omega) ?_
    · rw [← hd', List.getElem?_drop] at hq
      rw [Nat.zero_add, show 65 - k - 1 = 65 - (k + 1) by omega]
      exact hI.c0 (by simpa using hq)
    clear hI; rintro A' c' w hc1 hc2 hI
    refine WL_val rfl rfl rfl (by first | exact rAsgnS rfl rfl | exact rAsgn rfl) ?_
    refine WL_nil ?_
    refine W_ret ?_
    have el : l.length + (65 - (65 - k - 1)) = (l ++ dig u).length := by simp [hlen]; omega
    rw [el, ← bytC_app] at hI
    refine ret2 10 11 (.inr rfl) rfl ⟨A', c', ?_, hI.d0⟩
    rw [← el]; rfl
end Go.Proofs.YtijgkocolajghaaDoor
