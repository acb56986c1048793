/- lock: a fact: two transactions that wait for each other. -/
import Derived.Test.YtidnlnlmmnkgoaaDoorLckB
namespace Go.Proofs.YtidnlnlmmnkgoaaDoor
open Go.RowKit
set_option linter.unusedVariables false
set_option linter.unusedSimpArgs false
def pL : List (List St) := [[⟨0, 2, 0⟩, ⟨0, 2, 1⟩], [⟨1, 2, 1⟩, ⟨1, 2, 0⟩]]
def kL : List Int := [0, 1, 0, 1]
theorem pL_fits : PlanFits pL := by
  refine ⟨fun k l hk hl s hs => ?_, by decide, by decide⟩
  match k, hl with
  | 0, hl =>
    injection hl with hl
    subst hl
    simp at hs
    rcases hs with rfl | rfl <;> (unfold stepB; simp)
  | 1, hl =>
    injection hl with hl
    subst hl
    simp at hs
    rcases hs with rfl | rfl <;> (unfold stepB; simp)
  | k + 2, _ => simp [pL] at hk; omega
theorem pL_rounds : (∀ k, k < 2 → false ∈ (roundsR pL k (picksR pL kL)).over) ∧ false ∉ (roundsR pL 2 (picksR pL kL)).over := by decide +kernel
theorem pL_vict : (roundsR pL 2 (picksR pL kL)).vict = [1] := by decide +kernel
theorem sts_lit {w : World} {g n : Nat} {l : List St} {cs : Array Value} (h : Blk w g 40 cs) (hn : l.length = n) (hc : cs = (l.flatMap stV).toArray) (hm : n ≤ 1000) (hl : (l.flatMap stV).length = l.length * 3) : Sts w (fun k => k < w.heap.size) (.slice (some ⟨g, 0, none⟩) n n) l := by
  subst hn hc
  refine ⟨some ⟨g, 0, none⟩, l.length, rfl, Nat.le_refl _, by omega, hl, fun _ => ⟨g, 0, rfl, h.lt, fun j u hj => ?_⟩⟩
  rw [Nat.zero_add, h.cell]
  simpa using hj
set_option maxHeartbeats 2000000 in
theorem locks_any (w0 : World) : Calls Tryd.prog 5 #[] w0 fun en w' => en = .returned (.bool true) ∧ Pure w0 w' := by
  have hI := Inv.start (fun _ => False) w0
  refine calls_of_W (N := Tryd.f5.ntmps) Tryd.func5 rfl rfl rfl ?_
  refine W_seq ?_
  refine W_region ?_
  refine WL_val rfl rfl rfl (by first | exact rAsgnB rfl rfl | exact rAsgn rfl) ?_
  refine WL_nil ?_
  refine W_seq ?_
  refine W_region ?_
  refine WL_val rfl rfl rfl (rBuild (qs := [(0, .int .i64 _), (1, .int .i64 _), (2, .int .i64 _)]) (vs := [_, _, _]) [.int .i64 0, .int .i64 0, .int .i64 0] [0, 1, 2] rfl rfl rfl (fun _ => by kernel_rfl)) ?_
  refine WL_val rfl rfl rfl (rBuild (qs := [(0, .int .i64 _), (1, .int .i64 _), (2, .int .i64 _)]) (vs := [_, _, _]) [.int .i64 0, .int .i64 0, .int .i64 0] [0, 1, 2] rfl rfl rfl (fun _ => by kernel_rfl)) ?_
  refine WL_lit (vs := [_, _, _, _, _, _]) (qs := [(0, .agg #[_, _, _]), (1, .agg #[_, _, _])]) [.int .i64 0, .int .i64 0, .int .i64 0, .int .i64 0, .int .i64 0, .int .i64 0] [0, 3] hI rfl rfl rfl rfl rfl rfl Tryd.underlying25 (fun _ => by kernel_rfl) ?_
  clear hI; rintro b6 w - - hI
  refine WL_val rfl rfl rfl (rBuild (qs := [(0, .int .i64 _), (1, .int .i64 _), (2, .int .i64 _)]) (vs := [_, _, _]) [.int .i64 0, .int .i64 0, .int .i64 0] [0, 1, 2] rfl rfl rfl (fun _ => by kernel_rfl)) ?_
  refine WL_val rfl rfl rfl (rBuild (qs := [(0, .int .i64 _), (1, .int .i64 _), (2, .int .i64 _)]) (vs := [_, _, _]) [.int .i64 0, .int .i64 0, .int .i64 0] [0, 1, 2] rfl rfl rfl (fun _ => by kernel_rfl)) ?_
  refine WL_lit (vs := [_, _, _, _, _, _]) (qs := [(0, .agg #[_, _, _]), (1, .agg #[_, _, _])]) [.int .i64 0, .int .i64 0, .int .i64 0, .int .i64 0, .int .i64 0, .int .i64 0] [0, 3] hI rfl rfl rfl rfl rfl rfl Tryd.underlying25 (fun _ => by kernel_rfl) ?_
  clear hI; rintro b9 w - - hI
  refine WL_lit (vs := [_, _]) (qs := [(0, .slice _ _ _), (1, .slice _ _ _)]) [.slice none 0 0, .slice none 0 0] [0, 1] hI rfl rfl rfl rfl rfl rfl Tryd.underlying23 (fun _ => by kernel_rfl) ?_
  clear hI; rintro b10 w - - hI
  refine WL_val rfl rfl rfl (by first | exact rAsgnS rfl rfl | exact rAsgn rfl) ?_
  refine WL_nil ?_
  obtain ⟨w1, hw1⟩ : ∃ w1, w1 = w := ⟨_, rfl⟩
  subst hw1
  have hs6 : Sts w1 (fun k => k < w1.heap.size) (.slice (some ⟨b6, 0, none⟩) 2 2) [⟨0, 2, 0⟩, ⟨0, 2, 1⟩] := sts_lit (by first | exact hI.g0 | exact hI.g1 | exact hI.g2) rfl rfl (by omega) rfl
  have hs9 : Sts w1 (fun k => k < w1.heap.size) (.slice (some ⟨b9, 0, none⟩) 2 2) [⟨1, 2, 1⟩, ⟨1, 2, 0⟩] := sts_lit (by first | exact hI.g0 | exact hI.g1 | exact hI.g2) rfl rfl (by omega) rfl
  have hB : Blk w1 b10 25 #[.slice (some ⟨b6, 0, none⟩) 2 2, .slice (some ⟨b9, 0, none⟩) 2 2] := by first | exact hI.g0 | exact hI.g1 | exact hI.g2
  have hP : PlanAt w1 (fun k => k < w1.heap.size) (.slice (some ⟨b10, 0, none⟩) 2 2) pL := by
    refine ⟨[.slice (some ⟨b6, 0, none⟩) 2 2, .slice (some ⟨b9, 0, none⟩) 2 2], ⟨some ⟨b10, 0, none⟩, 2, rfl, Nat.le_refl _, by omega, rfl, fun _ => ⟨b10, 0, rfl, hB.lt, fun j u hj => ?_⟩⟩, fun i l hl => ?_⟩
    · rw [Nat.zero_add, hB.cell]; simpa using hj
    · match i, hl with
      | 0, hl => injection hl with hl; subst hl; exact ⟨_, rfl, hs6⟩
      | 1, hl => injection hl with hl; subst hl; exact ⟨_, rfl, hs9⟩
      | i + 2, hl => simp [pL] at hl
  have hP0 := hI.pu
  replace hI := Inv.start (fun _ => False) w1
  clear hs6 hs9 hB
  obtain ⟨sf, hsf⟩ : ∃ sf, roundsR pL 2 (picksR pL kL) = sf := ⟨_, rfl⟩
  have hv : sf.vict = [1] := by rw [← hsf]; exact pL_vict
  have hr : (∀ k, k < 2 → false ∈ (roundsR pL k (picksR pL kL)).over) ∧ false ∉ (roundsR pL 2 (picksR pL kL)).over ∧ 2 * (kL.length + 8 * 2) ≤ 2000 := ⟨pL_rounds.1, pL_rounds.2, by decide⟩
  have hsm : 2 ≤ 8 → 2 + sumTo pL 2 ≤ 4611686018427387904 := fun _ => by decide
  have hcall : ∀ (w2 : World) (b13 : Nat), Pure w1 w2 → Blk w2 b13 3 #[.int .i64 0, .int .i64 1, .int .i64 0, .int .i64 1] → Calls Tryd.prog 4 #[.slice (some ⟨b10, 0, none⟩) 2 2, .slice (some ⟨b13, 0, none⟩) 4 4] w2 fun en w' => ∃ DA dl dc wb VA vc, en = .returned (.tuple #[.agg #[.slice DA dl dc, .slice (some ⟨wb, 0, none⟩) 2 2, .slice VA 1 vc], .nilIface]) ∧ ∃ xs ys, Inv (fun _ => False) w2 w' [Row 0 40 3 DA dl dc xs, B wb 3 ys, Row 0 3 1 VA 1 vc [.int .i64 1]] := fun w2 b13 hp hB => by
    refine (play_any (some ⟨b10, 0, none⟩) 2 2 pL (some ⟨b13, 0, none⟩) 4 4 kL (fun k => k < w1.heap.size) _ (hP.chg (hp.chg (fun _ => False)) (fun _ _ h => h)) rfl (fun k hk => Nat.lt_of_lt_of_le hk hp.size) ?_ hsm 2 (fun _ _ => hr)).mono ?_
    · refine ⟨some ⟨b13, 0, none⟩, 4, rfl, Nat.le_refl _, by omega, rfl, fun _ => ⟨b13, 0, rfl, trivial, fun j u hj => ?_⟩⟩
      rw [Nat.zero_add, hB.cell]; simpa [kL] using hj
    · rintro e w3 (⟨hor, _⟩ | ⟨_, _, DA, dc, wb, VA, vc, rfl, hJ⟩)
      · rcases hor with hor | hor
        · exact absurd pL_fits hor
        · exact absurd hor (by decide)
      · rw [hsf, hv] at hJ
        rw [hsf, hv]
        exact ⟨DA, _, dc, wb, VA, vc, rfl, _, _, hJ⟩
  clear hr hsf hv
  refine W_seq ?_
  refine W_region ?_
  refine WL_val rfl rfl rfl (by first | exact rMoveS rfl rfl | exact rMove rfl) ?_
  refine WL_lit (vs := [_, _, _, _]) (qs := [(0, .int .i64 _), (1, .int .i64 _), (2, .int .i64 _), (3, .int .i64 _)]) [.int .i64 0, .int .i64 0, .int .i64 0, .int .i64 0] [0, 1, 2, 3] hI rfl rfl rfl rfl rfl rfl Tryd.underlying24 (fun _ => by kernel_rfl) ?_
  clear hI; rintro b13 w - - hI
  refine WL_call rfl rfl rfl (rCall (vs := [.slice _ _ _, .slice _ _ _]) rfl Tryd.func4 rfl rfl rfl) ?_
  refine (hcall _ b13 hI.pu hI.g0).mono ?_
  rintro e w3 ⟨DA, dl, dc, wb, VA, vc, rfl, xs, ys, hJ⟩
  refine ⟨_, rfl, ?_⟩
  replace hI := hI.app3 hJ
  refine WL_val rfl rfl rfl (by first | exact rMoveT rfl rfl | exact rMove rfl) ?_
  refine WL_val rfl rfl rfl (rExtr rfl rfl rfl) ?_
  refine WL_val rfl rfl rfl (rExtr rfl rfl rfl) ?_
  refine WL_alloc (u := .agg #[.slice none 0 0, .slice none 0 0, .slice none 0 0]) (vs := #[.slice none 0 0, .slice none 0 0, .slice none 0 0]) hI rfl rfl rfl rfl (by kernel_rfl) rfl ?_
  clear hI; rintro b2 w - - hI
  first | refine WL_stw0 (u := .agg _) (vs := #[_, _, _]) (n := 3) hI rfl rfl rfl rfl rfl rfl (by kernel_rfl) rfl rfl rfl ?_ | refine WL_stw1 (u := .agg _) (vs := #[_, _, _]) (n := 3) hI rfl rfl rfl rfl rfl rfl (by kernel_rfl) rfl rfl rfl ?_ | refine WL_stw2 (u := .agg _) (vs := #[_, _, _]) (n := 3) hI rfl rfl rfl rfl rfl rfl (by kernel_rfl) rfl rfl rfl ?_ | refine WL_stw3 (u := .agg _) (vs := #[_, _, _]) (n := 3) hI rfl rfl rfl rfl rfl rfl (by kernel_rfl) rfl rfl rfl ?_ | refine WL_stw4 (u := .agg _) (vs := #[_, _, _]) (n := 3) hI rfl rfl rfl rfl rfl rfl (by kernel_rfl) rfl rfl rfl ?_ | refine WL_stw5 (u := .agg _) (vs := #[_, _, _]) (n := 3) hI rfl rfl rfl rfl rfl rfl (by kernel_rfl) rfl rfl rfl ?_
  clear hI; intro w hI
  refine WL_val rfl rfl rfl (by first | exact rAsgnN rfl rfl | exact rAsgnE rfl rfl | exact rAsgn rfl) ?_
  refine WL_nil ?_
  obtain ⟨vb, vo, rfl⟩ := row_addrS (by first | exact hI.g3 | exact hI.g2) (by omega) (by omega)
  have q1 : w.cell? ⟨vb, vo + 0, none⟩ = some (.int .i64 1) := row_cellS (by first | exact hI.g3 | exact hI.g2) rfl (by omega)
  refine W_seq ?_
  refine W_region ?_
  refine WL_val rfl rfl rfl (by first | exact rMoveN rfl rfl | exact rMoveE rfl rfl | exact rMove rfl) ?_
  refine WL_val rfl rfl rfl (by first | exact rIfaceEq rfl Tryd.underlying29 rfl rfl | exact rNilEq rfl Tryd.underlying29 rfl) ?_
  refine WL_val rfl rfl rfl (by first | exact rMoveB rfl rfl | exact rMove rfl) ?_
  first | refine WL_val rfl rfl rfl (by first | exact rFldN (off := 2) rfl (by kernel_rfl) rfl | exact rFld (off := 2) rfl (by kernel_rfl) rfl) ?_ | refine WL_skip rfl rfl rfl ?_
  first | refine WL_val rfl rfl rfl (by first | exact rLd (v := .slice _ _ _) rfl (by kernel_rfl) rfl (by first | exact hI.c0 rfl | exact q1) | exact rLd rfl (by kernel_rfl) rfl (by first | exact hI.c0 rfl | exact q1)) ?_ | refine WL_skip rfl rfl rfl ?_
  first | refine WL_val rfl rfl rfl (rLen rfl Tryd.underlying24 rfl) ?_ | refine WL_skip rfl rfl rfl ?_
  first | refine WL_val rfl rfl rfl (by first | exact rEqlT rfl rfl rfl (by omega) | exact rEqlF rfl rfl rfl (by omega) | exact rEql rfl rfl rfl) ?_ | refine WL_skip rfl rfl rfl ?_
  refine WL_val rfl rfl rfl (by first | exact rPickTB rfl rfl rfl | exact rPickFB rfl rfl rfl | exact rPickB rfl rfl rfl rfl) ?_
  refine WL_val rfl rfl rfl (by first | exact rMoveB rfl rfl | exact rMove rfl) ?_
  first | refine WL_val rfl rfl rfl (by first | exact rFldN (off := 2) rfl (by kernel_rfl) rfl | exact rFld (off := 2) rfl (by kernel_rfl) rfl) ?_ | refine WL_skip rfl rfl rfl ?_
  first | refine WL_val rfl rfl rfl (by first | exact rLd (v := .slice _ _ _) rfl (by kernel_rfl) rfl (by first | exact hI.c0 rfl | exact q1) | exact rLd rfl (by kernel_rfl) rfl (by first | exact hI.c0 rfl | exact q1)) ?_ | refine WL_skip rfl rfl rfl ?_
  first | refine WL_val rfl rfl rfl (by first | exact rIdx0 (i := 0) rfl Tryd.underlying24 (by kernel_rfl) rfl rfl rfl (by omega) | exact rIdx1 (i := 0) rfl Tryd.underlying24 (by kernel_rfl) rfl rfl (by omega)) ?_ | refine WL_skip rfl rfl rfl ?_
  first | refine WL_val rfl rfl rfl (by first | exact rLd (v := .int .i64 _) rfl (by kernel_rfl) rfl (by first | exact hI.c0 rfl | exact q1) | exact rLd rfl (by kernel_rfl) rfl (by first | exact hI.c0 rfl | exact q1)) ?_ | refine WL_skip rfl rfl rfl ?_
  first | refine WL_val rfl rfl rfl (by first | exact rEqlT rfl rfl rfl (by omega) | exact rEqlF rfl rfl rfl (by omega) | exact rEql rfl rfl rfl) ?_ | refine WL_skip rfl rfl rfl ?_
  refine WL_val rfl rfl rfl (by first | exact rPickTB rfl rfl rfl | exact rPickFB rfl rfl rfl | exact rPickB rfl rfl rfl rfl) ?_
  refine WL_val rfl rfl rfl (by first | exact rAsgnB rfl rfl | exact rAsgn rfl) ?_
  refine WL_nil ?_
  refine W_ret ?_
  exact ret1 0 (.inr rfl) rfl ⟨rfl, hP0.trans hI.pu⟩
end Go.Proofs.YtidnlnlmmnkgoaaDoor
