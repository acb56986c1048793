/- The laws' seen (of events). -/
import Derived.Test.YtgppljdfhhgkiaaGreatDoorEvo3
namespace Go.Proofs.YtgppljdfhhgkiaaGreatDoor
open Go.RowKit
set_option linter.unusedVariables false
set_option linter.unusedSimpArgs false
theorem evsL_len (l : List Ev) : (l.flatMap evL).length = l.length * 7 := flat_lenG (f := evL) (fun _ => rfl) l
theorem EvsR.of_blk {w : World} {g T : Nat} {cs : Array Value} (l : List Ev) (hb : Blk w g T cs) (hc : cs.toList = l.flatMap evL) (hl : l.length ≤ 100000) : EvsR w (fun _ => True) (.slice (some ⟨g, 0, none⟩) l.length l.length) l :=
  ⟨_, _, rfl, Nat.le_refl _, by omega, evsL_len l, fun _ => ⟨g, 0, rfl, trivial, fun j u hj => by
    rw [Nat.zero_add, hb.cell, ← Array.getElem?_toList, hc]; exact hj⟩⟩
def seenE : List Ev := [⟨2, 1, 0, 4, 3, 0, 0⟩, ⟨2, 2, 0, 4, 3, 0, 3⟩]
theorem seen_out : evF seenE = some [⟨2, 0, 4, 3, 0, 3, 0, 1⟩] := by decide +kernel
theorem seen_any (w0 : World) (hg : GlobOk w0) : Calls Tryz.prog 5 #[] w0 fun en w' => en = .returned (.bool true) ∧ Pure w0 w' := by
  have hI := Inv.start (fun _ => False) w0
  refine calls_of_W (N := Tryz.f5.ntmps) Tryz.func5 rfl rfl rfl ?_
  refine W_seq ?_
  refine W_region ?_
  refine WL_val rfl rfl rfl (by first | exact rAsgnB rfl rfl | exact rAsgn rfl) ?_
  refine WL_nil ?_
  refine W_seq ?_
  refine W_region ?_
  refine WL_val rfl rfl rfl (rBuild (qs := [(0, .int .i64 _), (1, .int .i64 _), (3, .int .i64 _), (4, .int .i64 _)]) (vs := [_, _, _, _, _, _, _]) [.int .i64 0, .int .i64 0, .int .i64 0, .int .i64 0, .int .i64 0, .int .i64 0, .int .i64 0] [0, 1, 3, 4] rfl rfl rfl (fun _ => by kernel_rfl)) ?_
  refine WL_val rfl rfl rfl (rBuild (qs := [(0, .int .i64 _), (1, .int .i64 _), (3, .int .i64 _), (4, .int .i64 _), (6, .int .i64 _)]) (vs := [_, _, _, _, _, _, _]) [.int .i64 0, .int .i64 0, .int .i64 0, .int .i64 0, .int .i64 0, .int .i64 0, .int .i64 0] [0, 1, 3, 4, 6] rfl rfl rfl (fun _ => by kernel_rfl)) ?_
  refine WL_lit (vs := [_, _, _, _, _, _, _, _, _, _, _, _, _, _]) (qs := [(0, .agg #[_, _, _, _, _, _, _]), (1, .agg #[_, _, _, _, _, _, _])]) [.int .i64 0, .int .i64 0, .int .i64 0, .int .i64 0, .int .i64 0, .int .i64 0, .int .i64 0, .int .i64 0, .int .i64 0, .int .i64 0, .int .i64 0, .int .i64 0, .int .i64 0, .int .i64 0] [0, 7] hI rfl rfl rfl rfl rfl rfl Tryz.underlying22 (fun _ => by kernel_rfl) ?_
  clear hI; rintro b6 w - - hI
  refine WL_call rfl rfl rfl (rCall (vs := [.slice _ _ _]) rfl Tryz.func14 rfl rfl rfl) ?_
  refine (evops_any _ 2 2 seenE _ _ (EvsR.of_blk seenE hI.g0 rfl (by decide)) (hI.oldp hg)).mono ?_
  rintro e w1 hP
  unfold EvPost at hP
  rw [seen_out] at hP
  obtain ⟨A', c', rfl, hT⟩ := hP
  refine ⟨_, rfl, ?_⟩
  replace hI := hI.app1 hT
  refine WL_val rfl rfl rfl (by first | exact rMoveT rfl rfl | exact rMove rfl) ?_
  refine WL_val rfl rfl rfl (rExtr rfl rfl rfl) ?_
  refine WL_val rfl rfl rfl (rExtr rfl rfl rfl) ?_
  refine WL_val rfl rfl rfl (by first | exact rAsgnS rfl rfl | exact rAsgn rfl) ?_
  refine WL_val rfl rfl rfl (by first | exact rAsgnN rfl rfl | exact rAsgnE rfl rfl | exact rAsgn rfl) ?_
  refine WL_nil ?_
  obtain ⟨bO, _, rfl, -, -, -, -, -, -⟩ := row_openB hI.g0 (by decide)
  have hx7 : w1.cell? ⟨bO, 0 + 0 * 8 + 7, none⟩ = some (.int .i64 1) := row_op hI.g0 rfl (by decide) rfl
  have hx5 : w1.cell? ⟨bO, 0 + 0 * 8 + 5, none⟩ = some (.int .i64 3) := row_op hI.g0 rfl (by decide) rfl
  refine W_seq ?_
  refine W_region ?_
  refine WL_val rfl rfl rfl (by first | exact rMoveN rfl rfl | exact rMoveE rfl rfl | exact rMove rfl) ?_
  refine WL_val rfl rfl rfl (by first | exact rIfaceEq rfl Tryz.underlying24 rfl rfl | exact rNilEq rfl Tryz.underlying24 rfl) ?_
  refine WL_val rfl rfl rfl (by first | exact rMoveB rfl rfl | exact rMove rfl) ?_
  first | refine WL_val rfl rfl rfl (by first | exact rMoveS rfl rfl | exact rMove rfl) ?_ | refine WL_skip rfl rfl rfl ?_
  first | refine WL_val rfl rfl rfl (rLen rfl Tryz.underlying48 rfl) ?_ | refine WL_skip rfl rfl rfl ?_
  first | refine WL_val rfl rfl rfl (by first | exact rEqlT rfl rfl rfl (by omega) | exact rEqlF rfl rfl rfl (by omega) | exact rEql rfl rfl rfl) ?_ | refine WL_skip rfl rfl rfl ?_
  refine WL_val rfl rfl rfl (by first | exact rPickTB rfl rfl rfl | exact rPickFB rfl rfl rfl | exact rPickB rfl rfl rfl rfl) ?_
  refine WL_val rfl rfl rfl (by first | exact rMoveB rfl rfl | exact rMove rfl) ?_
  first | refine WL_val rfl rfl rfl (by first | exact rMoveS rfl rfl | exact rMove rfl) ?_ | refine WL_skip rfl rfl rfl ?_
  first | refine WL_val rfl rfl rfl (rIdx (sz := 8) (i := 0) rfl Tryz.underlying48 (by kernel_rfl) rfl rfl (by decide)) ?_ | refine WL_skip rfl rfl rfl ?_
  first | refine WL_val rfl rfl rfl (by first | exact rFldN (off := 7) rfl (by kernel_rfl) rfl | exact rFld (off := 7) rfl (by kernel_rfl) rfl) ?_ | refine WL_skip rfl rfl rfl ?_
  first | refine WL_val rfl rfl rfl (by first | exact rLd (v := .int .i64 _) rfl (by kernel_rfl) rfl (by first | exact hI.oldp hx7 | exact hx7 | exact hI.oldp hx5 | exact hx5) | exact rLd rfl (by kernel_rfl) rfl (by first | exact hI.oldp hx7 | exact hx7 | exact hI.oldp hx5 | exact hx5)) ?_ | refine WL_skip rfl rfl rfl ?_
  first | refine WL_val rfl rfl rfl (by first | exact rEqlT rfl rfl rfl (by omega) | exact rEqlF rfl rfl rfl (by omega) | exact rEql rfl rfl rfl) ?_ | refine WL_skip rfl rfl rfl ?_
  refine WL_val rfl rfl rfl (by first | exact rPickTB rfl rfl rfl | exact rPickFB rfl rfl rfl | exact rPickB rfl rfl rfl rfl) ?_
  refine WL_val rfl rfl rfl (by first | exact rMoveB rfl rfl | exact rMove rfl) ?_
  first | refine WL_val rfl rfl rfl (by first | exact rMoveS rfl rfl | exact rMove rfl) ?_ | refine WL_skip rfl rfl rfl ?_
  first | refine WL_val rfl rfl rfl (rIdx (sz := 8) (i := 0) rfl Tryz.underlying48 (by kernel_rfl) rfl rfl (by decide)) ?_ | refine WL_skip rfl rfl rfl ?_
  first | refine WL_val rfl rfl rfl (by first | exact rFldN (off := 5) rfl (by kernel_rfl) rfl | exact rFld (off := 5) rfl (by kernel_rfl) rfl) ?_ | refine WL_skip rfl rfl rfl ?_
  first | refine WL_val rfl rfl rfl (by first | exact rLd (v := .int .i64 _) rfl (by kernel_rfl) rfl (by first | exact hI.oldp hx7 | exact hx7 | exact hI.oldp hx5 | exact hx5) | exact rLd rfl (by kernel_rfl) rfl (by first | exact hI.oldp hx7 | exact hx7 | exact hI.oldp hx5 | exact hx5)) ?_ | refine WL_skip rfl rfl rfl ?_
  first | refine WL_val rfl rfl rfl (by first | exact rEqlT rfl rfl rfl (by omega) | exact rEqlF rfl rfl rfl (by omega) | exact rEql rfl rfl rfl) ?_ | refine WL_skip rfl rfl rfl ?_
  refine WL_val rfl rfl rfl (by first | exact rPickTB rfl rfl rfl | exact rPickFB rfl rfl rfl | exact rPickB rfl rfl rfl rfl) ?_
  refine WL_val rfl rfl rfl (by first | exact rAsgnB rfl rfl | exact rAsgn rfl) ?_
  refine WL_nil ?_
  refine W_ret ?_
  exact ret1 0 (.inr rfl) rfl ⟨rfl, hI.pu⟩
end Go.Proofs.YtgppljdfhhgkiaaGreatDoor
