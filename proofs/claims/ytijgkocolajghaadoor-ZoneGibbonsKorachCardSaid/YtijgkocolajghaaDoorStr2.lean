/- strconv.AppendInt at base 36. -/
import Derived.Test.YtijgkocolajghaaDoorStr1
namespace Go.Proofs.YtijgkocolajghaaDoor
open Go.RowKit
set_option linter.unusedVariables false
set_option linter.unusedSimpArgs false
theorem appU_any (base : Nat) (A : Option Addr) (c : Nat) (l : List Nat) (u : Nat) (w0 : World) (hR : (BytE base A c l).ok w0) (hu : u < 18446744073709551616) (hn : l.length ≤ 1000000) (hb : base ≤ w0.heap.size) :
    Calls Tryd.prog 72 #[.slice A l.length c, .int .u64 (u : Int), .int .i64 36] w0 fun en w' => ∃ A' c', en = .returned (.slice A' (l ++ dig u).length c') ∧ Inv (BytE base A c l).D w0 w' [BytE base A' c' (l ++ dig u)] := by
  have hI := Inv.ownE hR
  refine calls_of_W (N := Tryd.f72.ntmps) Tryd.func72 rfl rfl rfl ?_
  refine W_seq ?_
  refine W_region ?_
  refine WL_val rfl rfl rfl (by first | exact rAsgnS rfl rfl | exact rAsgn rfl) ?_
  refine WL_nil ?_
  refine W_seq ?_
  refine W_seq ?_
  refine W_region ?_
  refine WL_val rfl rfl rfl (by first | exact rMoveI rfl rfl | exact rMove rfl) ?_
  refine WL_val rfl rfl rfl (by first | exact rEqlT rfl rfl rfl (by omega) | exact rEqlF rfl rfl rfl (by omega) | exact rEql rfl rfl rfl) ?_
  refine WL_nil ?_
  refine W_cond false rfl ?_
  refine W_skip ?_
  refine W_seq ?_
  refine W_region ?_
  refine WL_val rfl rfl rfl (by first | exact rMoveS rfl rfl | exact rMove rfl) ?_
  refine WL_val rfl rfl rfl (by first | exact rMoveI rfl rfl | exact rMove rfl) ?_
  refine WL_val rfl rfl rfl (by first | exact rMoveI rfl rfl | exact rMove rfl) ?_
  refine WL_call rfl rfl rfl (rCall (vs := [.slice _ _ _, .int .u64 _, .int .i64 _, .bool _, .bool _]) rfl Tryd.func81 rfl rfl rfl) ?_
  refine (fmt_any base A c l u _ (hI.ok _ (by simp)) hu hn hb).mono ?_
  rintro e w1 ⟨A', c', rfl, hT⟩
  refine ⟨_, rfl, ?_⟩
  replace hI := hI.turn1 hT
  refine WL_val rfl rfl rfl (by first | exact rMoveT rfl rfl | exact rMove rfl) ?_
  refine WL_val rfl rfl rfl (rExtr rfl rfl rfl) ?_
  refine WL_val rfl rfl rfl (rExtr rfl rfl rfl) ?_
  refine WL_val rfl rfl rfl (by first | exact rAsgnS rfl rfl | exact rAsgn rfl) ?_
  refine WL_nil ?_
  refine W_seq ?_
  refine W_region ?_
  refine WL_val rfl rfl rfl (by first | exact rMoveS rfl rfl | exact rMove rfl) ?_
  refine WL_val rfl rfl rfl (by first | exact rAsgnS rfl rfl | exact rAsgn rfl) ?_
  refine WL_nil ?_
  refine W_ret ?_
  exact ret1 6 (.inr rfl) rfl ⟨A', c', rfl, hI⟩
section
variable {P : Program} {ρ : Env} {o : Oper} {w : World} {x y : Operand} {t t' : TypeId}
theorem rNegU {n : Int} (ho : o.op = .unOp .neg t x) (hx : ev ρ x = .int .u64 (IntKind.u64.wrap n)) (h0 : n < 0) (h1 : -9223372036854775808 ≤ n) : Runs P ρ o w (.int .u64 (n.natAbs : Int)) := by
  have h := rNegW (P := P) (w := w) ho hx
  have e : IntKind.u64.wrap (0 - IntKind.u64.wrap n) = (n.natAbs : Int) := by
    simp [IntKind.wrap, IntKind.signed, IntKind.bits]
    omega
  rwa [e] at h
end
theorem appI_any (base : Nat) (A : Option Addr) (c : Nat) (l : List Nat) (n : Int) (w0 : World) (hR : (BytE base A c l).ok w0) (hn : i64B n) (hl : l.length ≤ 999999) (hb : base ≤ w0.heap.size) :
    Calls Tryd.prog 63 #[.slice A l.length c, .int .i64 n, .int .i64 36] w0 fun en w' => ∃ A' c', en = .returned (.slice A' (l ++ itoa36 n).length c') ∧ Inv (BytE base A c l).D w0 w' [BytE base A' c' (l ++ itoa36 n)] := by
  have hI := Inv.ownE hR
  unfold i64B at hn
  refine calls_of_W (N := Tryd.f63.ntmps) Tryd.func63 rfl rfl rfl ?_
  refine W_seq ?_
  refine W_region ?_
  refine WL_val rfl rfl rfl (by first | exact rAsgnS rfl rfl | exact rAsgn rfl) ?_
  refine WL_nil ?_
  by_cases hneg : n < 0
  · refine W_seq ?_
    refine W_region ?_
    refine WL_val rfl rfl rfl (by first | exact rMoveI rfl rfl | exact rMove rfl) ?_
    refine WL_val rfl rfl rfl (rConvW rfl Tryd.underlying2 Tryd.underlying130 rfl) ?_
    refine WL_val rfl rfl rfl (by first | exact rAsgnI rfl rfl | exact rAsgn rfl) ?_
    refine WL_nil ?_
    refine W_seq ?_
    refine W_seq ?_
    refine W_region ?_
    refine WL_val rfl rfl rfl (by first | exact rMoveI rfl rfl | exact rMove rfl) ?_
    refine WL_val rfl rfl rfl (by first | exact rLssT rfl rfl rfl (by omega) | exact rLssF rfl rfl rfl (by omega) | exact rLss rfl rfl rfl) ?_
    refine WL_nil ?_
    refine W_cond true rfl ?_
    refine W_seq ?_
    refine W_region ?_
    refine WL_val rfl rfl rfl (by first | exact rMoveS rfl rfl | exact rMove rfl) ?_
    refine WL_lit (vs := [_]) (qs := [(0, .int .u8 _)]) [.int .u8 0] [0] hI rfl rfl rfl rfl rfl rfl Tryd.underlying111 (fun _ => by kernel_rfl) ?_
    clear hI; rintro b13 w - - hI
    first | refine WL_app1 (z := .int .u8 0) (by_ := 1) hI rfl rfl rfl rfl rfl rfl Tryd.underlying111 (by kernel_rfl) rfl (by omega) (by rfl) hI.lit0 (by first | rfl | simp [i64s, Value.oneCell']) (by omega) (by omega) (by first | exact Nat.zero_le _ | (have := hI.chg.size; omega)) ?_
    clear hI; rintro A14 c14 w hA14 hc14 hI
    replace hI := hI.d0
    refine WL_val rfl rfl rfl (by first | exact rAsgnS rfl rfl | exact rAsgn rfl) ?_
    refine WL_nil ?_
    replace hI : Inv (BytE base A c l).D w0 w [BytE base A14 c14 (l ++ [45])] := by
      have e : BytE base A14 c14 (l ++ [45]) = Row base 5 1 A14 (l.length + 1) c14 (bytC l ++ [.int .u8 45]) := by
        unfold BytE
        rw [bytC_app, List.length_append]
        rfl
      rw [e]; exact hI
    refine W_region ?_
    refine WL_val rfl rfl rfl (by first | exact rMoveI rfl rfl | exact rMove rfl) ?_
    refine WL_val rfl rfl rfl (rNegU (n := n) rfl rfl hneg (by omega)) ?_
    refine WL_val rfl rfl rfl (by first | exact rAsgnI rfl rfl | exact rAsgn rfl) ?_
    refine WL_nil ?_
    have e : l ++ itoa36 n = (l ++ [45]) ++ dig n.natAbs := by unfold itoa36; rw [if_pos hneg]; simp
    rw [e]
    refine W_seq ?_
    refine W_region ?_
    refine WL_val rfl rfl rfl (by first | exact rMoveS rfl rfl | exact rMove rfl) ?_
    refine WL_val rfl rfl rfl (by first | exact rMoveI rfl rfl | exact rMove rfl) ?_
    refine WL_val rfl rfl rfl (by first | exact rMoveI rfl rfl | exact rMove rfl) ?_
    refine WL_call rfl rfl rfl (rCall (vs := [.slice _ _ _, .int .u64 _, .int .i64 _]) rfl Tryd.func72 rfl rfl rfl) ?_
    refine Calls.mono (by have h := appU_any base A14 c14 (l ++ [45]) n.natAbs _ (hI.ok _ (by simp)) (by omega) (by simp; omega) (by have := hI.chg.size; omega); rw [List.length_append] at h; exact h) ?_
    rintro e w1 ⟨A', c', rfl, hT⟩
    refine ⟨_, rfl, ?_⟩
    replace hI := hI.turn1 hT
    refine WL_val rfl rfl rfl (by first | exact rAsgnS rfl rfl | exact rAsgn rfl) ?_
    refine WL_nil ?_
    refine W_ret ?_
    exact ret1 6 (.inr rfl) rfl ⟨A', c', rfl, hI⟩
  · obtain ⟨m, rfl⟩ : ∃ m : Nat, n = (m : Int) := ⟨n.toNat, by omega⟩
    refine W_seq ?_
    refine W_region ?_
    refine WL_val rfl rfl rfl (by first | exact rMoveI rfl rfl | exact rMove rfl) ?_
    refine WL_val rfl rfl rfl (by first | exact rConv_u64s rfl Tryd.underlying2 Tryd.underlying130 rfl (by omega) | exact rConvW rfl Tryd.underlying2 Tryd.underlying130 rfl) ?_
    refine WL_val rfl rfl rfl (by first | exact rAsgnI rfl rfl | exact rAsgn rfl) ?_
    refine WL_nil ?_
    refine W_seq ?_
    refine W_seq ?_
    refine W_region ?_
    refine WL_val rfl rfl rfl (by first | exact rMoveI rfl rfl | exact rMove rfl) ?_
    refine WL_val rfl rfl rfl (by first | exact rLssT rfl rfl rfl (by omega) | exact rLssF rfl rfl rfl (by omega) | exact rLss rfl rfl rfl) ?_
    refine WL_nil ?_
    refine W_cond false rfl ?_
    refine W_skip ?_
    have e : l ++ itoa36 (m : Int) = l ++ dig m := by unfold itoa36; rw [if_neg hneg]; simp
    rw [e]
    refine W_seq ?_
    refine W_region ?_
    refine WL_val rfl rfl rfl (by first | exact rMoveS rfl rfl | exact rMove rfl) ?_
    refine WL_val rfl rfl rfl (by first | exact rMoveI rfl rfl | exact rMove rfl) ?_
    refine WL_val rfl rfl rfl (by first | exact rMoveI rfl rfl | exact rMove rfl) ?_
    refine WL_call rfl rfl rfl (rCall (vs := [.slice _ _ _, .int .u64 _, .int .i64 _]) rfl Tryd.func72 rfl rfl rfl) ?_
    refine (appU_any base A c l m _ (hI.ok _ (by simp)) (by omega) (by omega) (by have := hI.chg.size; omega)).mono ?_
    rintro e w1 ⟨A', c', rfl, hT⟩
    refine ⟨_, rfl, ?_⟩
    replace hI := hI.turn1 hT
    refine WL_val rfl rfl rfl (by first | exact rAsgnS rfl rfl | exact rAsgn rfl) ?_
    refine WL_nil ?_
    refine W_ret ?_
    exact ret1 6 (.inr rfl) rfl ⟨A', c', rfl, hI⟩
theorem appP_any (base : Nat) (A : Option Addr) (c : Nat) (l : List Nat) (n : Int) (w0 : World) (hR : (BytE base A c l).ok w0) (hn : i64B n) (hl : l.length ≤ 999999) (hb : base ≤ w0.heap.size) :
    Calls Tryd.prog 47 #[.slice A l.length c, .int .i64 n, .int .i64 36] w0 fun en w' => ∃ A' c', en = .returned (.slice A' (l ++ itoa36 n).length c') ∧ Inv (BytE base A c l).D w0 w' [BytE base A' c' (l ++ itoa36 n)] := by
  have hI := Inv.ownE hR
  refine calls_of_W (N := Tryd.f47.ntmps) Tryd.func47 rfl rfl rfl ?_
  refine W_seq ?_
  refine W_region ?_
  refine WL_val rfl rfl rfl (by first | exact rAsgnS rfl rfl | exact rAsgn rfl) ?_
  refine WL_nil ?_
  refine W_seq ?_
  refine W_region ?_
  refine WL_val rfl rfl rfl (by first | exact rMoveS rfl rfl | exact rMove rfl) ?_
  refine WL_val rfl rfl rfl (by first | exact rMoveI rfl rfl | exact rMove rfl) ?_
  refine WL_val rfl rfl rfl (by first | exact rMoveI rfl rfl | exact rMove rfl) ?_
  refine WL_call rfl rfl rfl (rCall (vs := [.slice _ _ _, .int .i64 _, .int .i64 _]) rfl Tryd.func63 rfl rfl rfl) ?_
  refine (appI_any base A c l n _ (hI.ok _ (by simp)) hn hl hb).mono ?_
  rintro e w1 ⟨A', c', rfl, hT⟩
  refine ⟨_, rfl, ?_⟩
  replace hI := hI.turn1 hT
  refine WL_val rfl rfl rfl (by first | exact rAsgnS rfl rfl | exact rAsgn rfl) ?_
  refine WL_nil ?_
  refine W_ret ?_
  exact ret1 6 (.inr rfl) rfl ⟨A', c', rfl, hI⟩
theorem digs_len : ∀ (f u : Nat) (acc : List Nat), (digs36 f u acc).length ≤ acc.length + f + 1
  | 0, u, acc => by simp [digs36]
  | f + 1, u, acc => by
    rw [digs36]
    split
    · simp
    · have := digs_len f (u / 36) (dig36 (u % 36) :: acc)
      simp at this ⊢
      omega
theorem itoa_len (n : Int) : (itoa36 n).length ≤ 15 := by
  have h : ∀ u, (dig u).length ≤ 14 := fun u => digs_len 13 u []
  have := h n.natAbs
  unfold itoa36
  split
  · simp; omega
  · omega
end Go.Proofs.YtijgkocolajghaaDoor
