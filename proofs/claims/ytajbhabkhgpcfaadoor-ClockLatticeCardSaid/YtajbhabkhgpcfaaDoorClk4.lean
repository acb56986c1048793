/- clock: Vector.Within, Vector.Less. -/
import Derived.Test.YtajbhabkhgpcfaaDoorClk3
namespace Go.Proofs.YtajbhabkhgpcfaaDoor
open Go.RowKit
set_option linter.unusedVariables false
set_option linter.unusedSimpArgs false
set_option maxHeartbeats 1000000 in
theorem within_any (l m : List Int) (w0 : World) (hl : l.length = 8) (hm : m.length = 8) : Calls Tryd.prog 14 #[.agg (i64s l).toArray, .agg (i64s m).toArray] w0 fun en w' => en = .returned (.bool (decide (joinV l m = m))) ∧ Pure w0 w' := by
  have hI := Inv.start (fun _ => False) w0
  have hj : (joinV l m).length = 8 := jv_len ..
  refine calls_of_W (N := Tryd.f14.ntmps) Tryd.func14 rfl rfl rfl ?_
  refine W_seq ?_
  refine W_region ?_
  refine WL_box (u := .agg _) (vs := _) hI rfl rfl rfl rfl rfl rfl ?_
  clear hI; rintro b2 w - - hI
  refine WL_box (u := .agg _) (vs := _) hI rfl rfl rfl rfl rfl rfl ?_
  clear hI; rintro b3 w - - hI
  refine WL_val rfl rfl rfl (by first | exact rAsgnB rfl rfl | exact rAsgn rfl) ?_
  refine WL_nil ?_
  refine W_seq ?_
  refine W_draw (by kernel_rfl) ?_
  refine WA_inv (T := []) hI.drew ?_
  intro Sx hSx hXS
  replace hI := hI.drew
  refine WT_take 0 rfl rfl (by kernel_rfl) (hXS _ hI) rfl (fun W hW => have hI := hSx W hW; (by first | exact rLdB (n := 8) rfl (by kernel_rfl) (by kernel_rfl) rfl (by first | rfl | (simp only [i64s, Value.cells, List.size_toArray, List.length_map]; omega)) hI.g0 | exact rLdB (n := 8) rfl (by kernel_rfl) (by kernel_rfl) rfl (by first | rfl | (simp only [i64s, Value.cells, List.size_toArray, List.length_map]; omega)) hI.g1)) ?_
  refine WT_take 1 rfl rfl (by kernel_rfl) (hXS _ hI) rfl (fun W hW => have hI := hSx W hW; (by first | exact rLdB (n := 8) rfl (by kernel_rfl) (by kernel_rfl) rfl (by first | rfl | (simp only [i64s, Value.cells, List.size_toArray, List.length_map]; omega)) hI.g0 | exact rLdB (n := 8) rfl (by kernel_rfl) (by kernel_rfl) rfl (by first | rfl | (simp only [i64s, Value.cells, List.size_toArray, List.length_map]; omega)) hI.g1)) ?_
  refine WT_take 3 rfl rfl (by kernel_rfl) (hXS _ hI) rfl (fun W hW => have hI := hSx W hW; (by first | exact rLdB (n := 8) rfl (by kernel_rfl) (by kernel_rfl) rfl (by first | rfl | (simp only [i64s, Value.cells, List.size_toArray, List.length_map]; omega)) hI.g0 | exact rLdB (n := 8) rfl (by kernel_rfl) (by kernel_rfl) rfl (by first | rfl | (simp only [i64s, Value.cells, List.size_toArray, List.length_map]; omega)) hI.g1)) ?_
  refine WT_one 2 rfl (by kernel_rfl) rfl ?_
  refine WL_call rfl rfl rfl (rCall (vs := [.agg _, .agg _]) rfl Tryd.func16 rfl rfl rfl) ?_
  refine (joinV_any l m _ hl hm).mono ?_
  rintro e w1 ⟨rfl, hp⟩
  refine ⟨_, rfl, ?_⟩
  replace hI := hI.pure hp
  refine WL_nil ⟨hXS _ hI, ?_⟩
  refine WT_take 4 rfl rfl (by kernel_rfl) (hXS _ hI) rfl (fun W hW => have hI := hSx W hW; (rEqlA (n := 8) (la := joinV l m) (lb := m) rfl (by kernel_rfl) (by kernel_rfl) rfl rfl hj hm)) ?_
  refine WT_take 5 rfl rfl (by kernel_rfl) (hXS _ hI) rfl (fun W hW => have hI := hSx W hW; (by first | exact rAsgnB rfl rfl | exact rAsgn rfl)) ?_
  refine WT_end (by kernel_rfl) ?_
  refine W_ret ?_
  exact ret1 4 (.inr rfl) rfl ⟨rfl, hI.pu⟩
def lessV (l m : List Int) : Bool := decide (joinV l m = m) && !decide (l = m)
set_option maxHeartbeats 1000000 in
theorem less_any (l m : List Int) (w0 : World) (hl : l.length = 8) (hm : m.length = 8) : Calls Tryd.prog 10 #[.agg (i64s l).toArray, .agg (i64s m).toArray] w0 fun en w' => en = .returned (.bool (lessV l m)) ∧ Pure w0 w' := by
  have hI := Inv.start (fun _ => False) w0
  refine calls_of_W (N := Tryd.f10.ntmps) Tryd.func10 rfl rfl rfl ?_
  refine W_seq ?_
  refine W_region ?_
  refine WL_box (u := .agg _) (vs := _) hI rfl rfl rfl rfl rfl rfl ?_
  clear hI; rintro b2 w - - hI
  refine WL_box (u := .agg _) (vs := _) hI rfl rfl rfl rfl rfl rfl ?_
  clear hI; rintro b3 w - - hI
  refine WL_val rfl rfl rfl (by first | exact rAsgnB rfl rfl | exact rAsgn rfl) ?_
  refine WL_nil ?_
  by_cases hw : joinV l m = m
  · refine W_seq ?_
    refine W_region ?_
    refine WL_val rfl rfl rfl (by first | exact rLdB (n := 8) rfl (by kernel_rfl) (by kernel_rfl) rfl (by first | rfl | (simp only [i64s, Value.cells, List.size_toArray, List.length_map]; omega)) hI.g0 | exact rLdB (n := 8) rfl (by kernel_rfl) (by kernel_rfl) rfl (by first | rfl | (simp only [i64s, Value.cells, List.size_toArray, List.length_map]; omega)) hI.g1) ?_
    refine WL_val rfl rfl rfl (by first | exact rLdB (n := 8) rfl (by kernel_rfl) (by kernel_rfl) rfl (by first | rfl | (simp only [i64s, Value.cells, List.size_toArray, List.length_map]; omega)) hI.g0 | exact rLdB (n := 8) rfl (by kernel_rfl) (by kernel_rfl) rfl (by first | rfl | (simp only [i64s, Value.cells, List.size_toArray, List.length_map]; omega)) hI.g1) ?_
    refine WL_call rfl rfl rfl (rCall (vs := [.agg _, .agg _]) rfl Tryd.func14 rfl rfl rfl) ?_
    refine (within_any l m _ hl hm).mono ?_
    rw [decide_eq_true hw]
    rintro e w1 ⟨rfl, hp⟩
    refine ⟨_, rfl, ?_⟩
    replace hI := hI.pure hp
    refine WL_val rfl rfl rfl (by first | exact rMoveB rfl rfl | exact rMove rfl) ?_
    first | refine WL_val rfl rfl rfl (by first | exact rLdB (n := 8) rfl (by kernel_rfl) (by kernel_rfl) rfl (by first | rfl | (simp only [i64s, Value.cells, List.size_toArray, List.length_map]; omega)) hI.g0 | exact rLdB (n := 8) rfl (by kernel_rfl) (by kernel_rfl) rfl (by first | rfl | (simp only [i64s, Value.cells, List.size_toArray, List.length_map]; omega)) hI.g1) ?_ | refine WL_skip rfl rfl rfl ?_
    first | refine WL_val rfl rfl rfl (by first | exact rLdB (n := 8) rfl (by kernel_rfl) (by kernel_rfl) rfl (by first | rfl | (simp only [i64s, Value.cells, List.size_toArray, List.length_map]; omega)) hI.g0 | exact rLdB (n := 8) rfl (by kernel_rfl) (by kernel_rfl) rfl (by first | rfl | (simp only [i64s, Value.cells, List.size_toArray, List.length_map]; omega)) hI.g1) ?_ | refine WL_skip rfl rfl rfl ?_
    first | refine WL_val rfl rfl rfl (rNeqA (n := 8) (la := l) (lb := m) rfl (by kernel_rfl) (by kernel_rfl) rfl rfl hl hm) ?_ | refine WL_skip rfl rfl rfl ?_
    refine WL_val rfl rfl rfl (by first | exact rPickTB rfl rfl rfl | exact rPickFB rfl rfl rfl | exact rPickB rfl rfl rfl rfl) ?_
    refine WL_val rfl rfl rfl (by first | exact rAsgnB rfl rfl | exact rAsgn rfl) ?_
    refine WL_nil ?_
    refine W_ret ?_
    exact ret1 4 (.inr rfl) rfl ⟨by unfold lessV; rw [decide_eq_true hw]; rfl, hI.pu⟩
  · refine W_seq ?_
    refine W_region ?_
    refine WL_val rfl rfl rfl (by first | exact rLdB (n := 8) rfl (by kernel_rfl) (by kernel_rfl) rfl (by first | rfl | (simp only [i64s, Value.cells, List.size_toArray, List.length_map]; omega)) hI.g0 | exact rLdB (n := 8) rfl (by kernel_rfl) (by kernel_rfl) rfl (by first | rfl | (simp only [i64s, Value.cells, List.size_toArray, List.length_map]; omega)) hI.g1) ?_
    refine WL_val rfl rfl rfl (by first | exact rLdB (n := 8) rfl (by kernel_rfl) (by kernel_rfl) rfl (by first | rfl | (simp only [i64s, Value.cells, List.size_toArray, List.length_map]; omega)) hI.g0 | exact rLdB (n := 8) rfl (by kernel_rfl) (by kernel_rfl) rfl (by first | rfl | (simp only [i64s, Value.cells, List.size_toArray, List.length_map]; omega)) hI.g1) ?_
    refine WL_call rfl rfl rfl (rCall (vs := [.agg _, .agg _]) rfl Tryd.func14 rfl rfl rfl) ?_
    refine (within_any l m _ hl hm).mono ?_
    rw [decide_eq_false hw]
    rintro e w1 ⟨rfl, hp⟩
    refine ⟨_, rfl, ?_⟩
    replace hI := hI.pure hp
    refine WL_val rfl rfl rfl (by first | exact rMoveB rfl rfl | exact rMove rfl) ?_
    refine WL_skip rfl rfl rfl ?_
    refine WL_skip rfl rfl rfl ?_
    refine WL_skip rfl rfl rfl ?_
    refine WL_val rfl rfl rfl (by first | exact rPickTB rfl rfl rfl | exact rPickFB rfl rfl rfl | exact rPickB rfl rfl rfl rfl) ?_
    refine WL_val rfl rfl rfl (by first | exact rAsgnB rfl rfl | exact rAsgn rfl) ?_
    refine WL_nil ?_
    refine W_ret ?_
    exact ret1 4 (.inr rfl) rfl ⟨by unfold lessV; rw [decide_eq_false hw]; rfl, hI.pu⟩
end Go.Proofs.YtajbhabkhgpcfaaDoor
