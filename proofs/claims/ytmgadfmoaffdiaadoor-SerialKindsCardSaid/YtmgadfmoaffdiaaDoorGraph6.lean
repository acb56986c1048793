/- led: two nodes, one road. -/
import Derived.Test.YtmgadfmoaffdiaaDoorGraph5
import Derived.Test.YtmgadfmoaffdiaaDoorTell
namespace Go.Proofs.YtmgadfmoaffdiaaDoor
open Go.RowKit
set_option linter.unusedVariables false
set_option linter.unusedSimpArgs false
/-- What errors.errorType holds. -/
abbrev GlobOk (w : World) : Prop := w.cell? ⟨0, 0, none⟩ = some (.iface 180 (.agg #[hdl 26]))
def ledF (i j : Nat) : Bool := i == 0 && j == 1
theorem led_order : orderF 2 ledF = some [0, 1] := by decide
theorem led_cycle : cycF 2 ledF = none := by decide
theorem led_sq {w : World} {b8 b7 b6 : Nat} {S : Nat → Prop} {w0 : World} (hI : Inv S w0 w [B b8 23 #[.slice (some ⟨b6, 0, none⟩) 2 2, .slice (some ⟨b7, 0, none⟩) 2 2], B b7 4 #[.bool false, .bool false], B b6 4 #[.bool false, .bool true]]) : SqG w (fun _ => True) (.slice (some ⟨b8, 0, none⟩) 2 2) 2 ledF := by
  refine ⟨_, _, rfl, by omega, by omega, fun _ => ⟨b8, 0, rfl, trivial, fun i hi => ?_⟩⟩
  match i, hi with
  | 0, _ => exact ⟨b6, 0, 2, hI.c0 rfl, by omega, by omega, trivial, fun j hj => by
      match j, hj with
      | 0, _ => exact hI.c2 rfl
      | 1, _ => exact hI.c2 rfl⟩
  | 1, _ => exact ⟨b7, 0, 2, hI.c0 rfl, by omega, by omega, trivial, fun j hj => by
      match j, hj with
      | 0, _ => exact hI.c1 rfl
      | 1, _ => exact hI.c1 rfl⟩
set_option maxHeartbeats 2000000 in
theorem led_any (w0 : World) (hg : GlobOk w0) : Calls Tryd.prog 15 #[] w0 fun en w' => en = .returned (.bool true) ∧ Pure w0 w' := by
  have hI := Inv.start (fun _ => False) w0
  refine calls_of_W (N := Tryd.f15.ntmps) Tryd.func15 rfl rfl rfl ?_
  refine W_seq ?_
  refine W_region ?_
  refine WL_val rfl rfl rfl (by first | exact rAsgnB rfl rfl | exact rAsgn rfl) ?_
  refine WL_nil ?_
  refine W_seq ?_
  refine W_region ?_
  refine WL_lit (vs := [_, _]) (qs := [(0, .bool _), (1, .bool _)]) [.bool false, .bool false] [0, 1] hI rfl rfl rfl rfl rfl rfl Tryd.underlying23 (fun _ => by kernel_rfl) ?_
  clear hI; rintro b6 w - - hI
  refine WL_lit (vs := [_, _]) (qs := [(0, .bool _), (1, .bool _)]) [.bool false, .bool false] [0, 1] hI rfl rfl rfl rfl rfl rfl Tryd.underlying23 (fun _ => by kernel_rfl) ?_
  clear hI; rintro b7 w - - hI
  refine WL_lit (vs := [_, _]) (qs := [(0, .slice _ _ _), (1, .slice _ _ _)]) [.slice none 0 0, .slice none 0 0] [0, 1] hI rfl rfl rfl rfl rfl rfl Tryd.underlying29 (fun _ => by kernel_rfl) ?_
  clear hI; rintro b8 w - - hI
  refine WL_val rfl rfl rfl (by first | exact rAsgnS rfl rfl | exact rAsgn rfl) ?_
  refine WL_nil ?_
  have hS := led_sq hI
  have hp0 := hI.pu
  refine W_seq ?_
  refine W_region ?_
  refine WL_val rfl rfl rfl (by first | exact rMoveS rfl rfl | exact rMove rfl) ?_
  refine WL_call rfl rfl rfl (rCall (vs := [.slice _ _ _]) rfl Tryd.func12 rfl rfl rfl) ?_
  refine (gorder_any _ 2 2 ledF _ _ hS (by omega)).mono ?_
  rintro e w1 (⟨l, v, ho, rfl, hown, hp⟩ | ⟨ho, _⟩)
  rotate_left
  · rw [led_order] at ho; cases ho
  rw [led_order] at ho
  injection ho with ho
  subst ho
  replace hown : w1.ownsRow w.heap.size 3 1 v 2 (natV [0, 1]) := hown
  obtain ⟨Al, cl, rfl⟩ := own_slice hown
  refine ⟨_, rfl, ?_⟩
  have hsz := hI.chg.size
  replace hI := (hI.fresh hp (Row.ok hown) (fun k hk => by
    rcases hown.2 with ⟨hv, _⟩ | ⟨g, cap, cur, hv, hge, _⟩
    · injection hv with hv; subst hv; simp [Row] at hk
    · injection hv with hv; subst hv; have : some g = some k := hk; injection this with this; omega))
  replace hS := hS.pure hp
  refine WL_val rfl rfl rfl (by first | exact rMoveT rfl rfl | exact rMove rfl) ?_
  refine WL_val rfl rfl rfl (rExtr rfl rfl rfl) ?_
  refine WL_val rfl rfl rfl (rExtr rfl rfl rfl) ?_
  refine WL_val rfl rfl rfl (by first | exact rAsgnS rfl rfl | exact rAsgn rfl) ?_
  refine WL_val rfl rfl rfl (by first | exact rAsgnN rfl rfl | exact rAsgnE rfl rfl | exact rAsgn rfl) ?_
  refine WL_nil ?_
  refine W_seq ?_
  refine W_region ?_
  refine WL_val rfl rfl rfl (by first | exact rMoveS rfl rfl | exact rMove rfl) ?_
  refine WL_call rfl rfl rfl (rCall (vs := [.slice _ _ _]) rfl Tryd.func13 rfl rfl rfl) ?_
  refine (cycle_any _ 2 2 ledF _ _ hS (by omega)).mono ?_
  rintro e w2 (⟨l, Ac, cc, ho, _⟩ | ⟨ho, _, rfl, hp2⟩)
  · rw [led_cycle] at ho; cases ho
  refine ⟨_, rfl, ?_⟩
  replace hI := hI.pure hp2
  refine WL_val rfl rfl rfl (by first | exact rMoveT rfl rfl | exact rMove rfl) ?_
  refine WL_val rfl rfl rfl (rExtr rfl rfl rfl) ?_
  refine WL_val rfl rfl rfl (rExtr rfl rfl rfl) ?_
  refine WL_val rfl rfl rfl (by first | exact rAsgnS rfl rfl | exact rAsgn rfl) ?_
  refine WL_val rfl rfl rfl (by first | exact rAsgnN rfl rfl | exact rAsgnE rfl rfl | exact rAsgn rfl) ?_
  refine WL_nil ?_
  obtain ⟨lb, lo, rfl⟩ := row_addr hI.g0 (by decide)
  have e0 : (natV [0, 1])[0]? = some (.int .i64 ((0 : Nat) : Int)) := rfl
  have e1 : (natV [0, 1])[1]? = some (.int .i64 ((1 : Nat) : Int)) := rfl
  refine W_seq ?_
  refine W_region ?_
  refine WL_val rfl rfl rfl (by first | exact rMoveN rfl rfl | exact rMoveE rfl rfl | exact rMove rfl) ?_
  refine WL_val rfl rfl rfl (by first | exact rIfaceEq rfl Tryd.underlying26 rfl rfl | exact rNilEq rfl Tryd.underlying26 rfl) ?_
  refine WL_val rfl rfl rfl (by first | exact rMoveB rfl rfl | exact rMove rfl) ?_
  first | refine WL_val rfl rfl rfl (by first | exact rMoveN rfl rfl | exact rMoveE rfl rfl | exact rMove rfl) ?_ | refine WL_skip rfl rfl rfl ?_
  refine WL_call rfl rfl rfl (rCall (vs := [_]) rfl Tryd.func23 rfl rfl rfl) ?_
  refine (tell_any _ 8 _ (.inl rfl) (hI.oldp hg)).mono ?_
  rintro e w3 ⟨rfl, hp3⟩
  refine ⟨_, rfl, ?_⟩
  replace hI := hI.pure hp3
  first | refine WL_val rfl rfl rfl (by first | exact rEqlT rfl rfl rfl (by omega) | exact rEqlF rfl rfl rfl (by omega) | exact rEql rfl rfl rfl) ?_ | refine WL_skip rfl rfl rfl ?_
  refine WL_val rfl rfl rfl (by first | exact rPickTB rfl rfl rfl | exact rPickFB rfl rfl rfl | exact rPickB rfl rfl rfl rfl) ?_
  refine WL_val rfl rfl rfl (by first | exact rMoveB rfl rfl | exact rMove rfl) ?_
  first | refine WL_val rfl rfl rfl (by first | exact rMoveS rfl rfl | exact rMove rfl) ?_ | refine WL_skip rfl rfl rfl ?_
  first | refine WL_val rfl rfl rfl (rLen rfl Tryd.underlying24 rfl) ?_ | refine WL_skip rfl rfl rfl ?_
  first | refine WL_val rfl rfl rfl (by first | exact rEqlT rfl rfl rfl (by omega) | exact rEqlF rfl rfl rfl (by omega) | exact rEql rfl rfl rfl) ?_ | refine WL_skip rfl rfl rfl ?_
  refine WL_val rfl rfl rfl (by first | exact rPickTB rfl rfl rfl | exact rPickFB rfl rfl rfl | exact rPickB rfl rfl rfl rfl) ?_
  refine WL_val rfl rfl rfl (by first | exact rMoveB rfl rfl | exact rMove rfl) ?_
  first | refine WL_val rfl rfl rfl (by first | exact rMoveS rfl rfl | exact rMove rfl) ?_ | refine WL_skip rfl rfl rfl ?_
  first | refine WL_val rfl rfl rfl (by first | exact rIdx0 (i := 0) rfl Tryd.underlying24 (by kernel_rfl) rfl rfl rfl (by omega) | exact rIdx1 (i := 0) rfl Tryd.underlying24 (by kernel_rfl) rfl rfl (by omega)) ?_ | refine WL_skip rfl rfl rfl ?_
  first | refine WL_val rfl rfl rfl (by first | exact rLd (v := .int .i64 _) rfl (by kernel_rfl) rfl (by first | exact (row_cell hI.g0 e0) | exact (row_cell hI.g0 e1)) | exact rLd rfl (by kernel_rfl) rfl (by first | exact (row_cell hI.g0 e0) | exact (row_cell hI.g0 e1))) ?_ | refine WL_skip rfl rfl rfl ?_
  first | refine WL_val rfl rfl rfl (by first | exact rEqlT rfl rfl rfl (by omega) | exact rEqlF rfl rfl rfl (by omega) | exact rEql rfl rfl rfl) ?_ | refine WL_skip rfl rfl rfl ?_
  refine WL_val rfl rfl rfl (by first | exact rPickTB rfl rfl rfl | exact rPickFB rfl rfl rfl | exact rPickB rfl rfl rfl rfl) ?_
  refine WL_val rfl rfl rfl (by first | exact rMoveB rfl rfl | exact rMove rfl) ?_
  first | refine WL_val rfl rfl rfl (by first | exact rMoveS rfl rfl | exact rMove rfl) ?_ | refine WL_skip rfl rfl rfl ?_
  first | refine WL_val rfl rfl rfl (by first | exact rIdx0 (i := 1) rfl Tryd.underlying24 (by kernel_rfl) rfl rfl rfl (by omega) | exact rIdx1 (i := 1) rfl Tryd.underlying24 (by kernel_rfl) rfl rfl (by omega)) ?_ | refine WL_skip rfl rfl rfl ?_
  first | refine WL_val rfl rfl rfl (by first | exact rLd (v := .int .i64 _) rfl (by kernel_rfl) rfl (by first | exact (row_cell hI.g0 e0) | exact (row_cell hI.g0 e1)) | exact rLd rfl (by kernel_rfl) rfl (by first | exact (row_cell hI.g0 e0) | exact (row_cell hI.g0 e1))) ?_ | refine WL_skip rfl rfl rfl ?_
  first | refine WL_val rfl rfl rfl (by first | exact rEqlT rfl rfl rfl (by omega) | exact rEqlF rfl rfl rfl (by omega) | exact rEql rfl rfl rfl) ?_ | refine WL_skip rfl rfl rfl ?_
  refine WL_val rfl rfl rfl (by first | exact rPickTB rfl rfl rfl | exact rPickFB rfl rfl rfl | exact rPickB rfl rfl rfl rfl) ?_
  refine WL_val rfl rfl rfl (by first | exact rAsgnB rfl rfl | exact rAsgn rfl) ?_
  refine WL_nil ?_
  refine W_ret ?_
  exact ret1 0 (.inr rfl) rfl ⟨rfl, hI.pu⟩
end Go.Proofs.YtmgadfmoaffdiaaDoor
