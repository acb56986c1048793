/- On snapshots nothing dirty, nothing aborted, nothing between is read, and nothing goes round by fewer than two that read what is made anew. -/
import Derived.Test.YtlnjmkldpicpdaaDoorMvccFirst
import Derived.Test.YtlnjmkldpicpdaaDoorMvcLaw2
namespace Go.Proofs.YtlnjmkldpicpdaaDoor
open Go.RowKit
set_option linter.unusedVariables false
set_option linter.unusedSimpArgs false
set_option maxHeartbeats 2000000 in
theorem snapshot_any (A : Option Addr) (n c : Nat) (car : Bool) (l : List Ask) (D : Nat → Prop) (w0 : World) (h : asksR w0 D (.slice A n c) l) (hg : w0.cell? ⟨0, 0, none⟩ = some (.iface 120 (.agg #[hdl 37]))) :
    Calls Tryd.prog 5 #[.slice A n c, .bool car] w0 fun en w' => en = .returned (.bool true) ∧ Pure w0 w' := by
  have hn : n = l.length := by obtain ⟨_, _, hv, _⟩ := h; injection hv
  subst hn
  have hI := Inv.start (fun _ => False) w0
  refine calls_of_W (N := Tryd.f5.ntmps) Tryd.func5 rfl rfl rfl ?_
  refine W_seq ?_
  refine W_region ?_
  refine WL_val rfl rfl rfl (by first | exact rAsgnB rfl rfl | exact rAsgn rfl) ?_
  refine WL_nil ?_
  by_cases hl : 80 < l.length
  · refine W_seq ?_
    refine W_seq ?_
    refine W_region ?_
    refine WL_val rfl rfl rfl (by first | exact rMoveS rfl rfl | exact rMove rfl) ?_
    refine WL_val rfl rfl rfl (rLen rfl Tryd.underlying22 rfl) ?_
    refine WL_val rfl rfl rfl (by first | exact rGtrT rfl rfl rfl (by omega) | exact rGtrF rfl rfl rfl (by omega) | exact rGtr rfl rfl rfl) ?_
    refine WL_nil ?_
    refine W_cond true rfl ?_
    refine W_seq ?_
    refine W_region ?_
    refine WL_val rfl rfl rfl (by first | exact rAsgnB rfl rfl | exact rAsgn rfl) ?_
    refine WL_nil ?_
    refine W_ret ?_
    exact ret1 4 (.inr rfl) rfl ⟨rfl, hI.pu⟩
  refine W_seq ?_
  refine W_seq ?_
  refine W_region ?_
  refine WL_val rfl rfl rfl (by first | exact rMoveS rfl rfl | exact rMove rfl) ?_
  refine WL_val rfl rfl rfl (rLen rfl Tryd.underlying22 rfl) ?_
  refine WL_val rfl rfl rfl (by first | exact rGtrT rfl rfl rfl (by omega) | exact rGtrF rfl rfl rfl (by omega) | exact rGtr rfl rfl rfl) ?_
  refine WL_nil ?_
  refine W_cond false rfl ?_
  refine W_skip ?_
  have hl80 : l.length ≤ 80 := by omega
  refine W_seq ?_
  refine W_region ?_
  refine WL_val rfl rfl rfl (by first | exact rMoveB rfl rfl | exact rMove rfl) ?_
  refine WL_val rfl rfl rfl (by first | exact rMoveS rfl rfl | exact rMove rfl) ?_
  refine WL_call rfl rfl rfl (rCall (vs := [.bool _, .slice _ _ _]) rfl Tryd.func7 rfl rfl rfl) ?_
  refine (played_any car A _ c l D _ (by exact h) hl80).mono ?_
  rintro e w1 ⟨b, rfl, hb⟩
  refine ⟨_, rfl, ?_⟩
  obtain ⟨D1, hbs, hops, hord⟩ := hb.at
  have hpu : Pure w0 w1 := by obtain ⟨T, cT, A, ca, O, co, rest, hI, hw⟩ := hb; exact hI.pu
  replace hI := hI.pure hpu
  clear hb
  refine WL_val rfl rfl rfl (by first | exact rAsgnP rfl rfl | exact rAsgn rfl) ?_
  refine WL_nil ?_
  have htm := play_time car l hl80
  have hlen := play_len car l
  have hsane := play_sane car l
  obtain ⟨s, hs⟩ : ∃ s, runA (newS 8 car) l = s := ⟨_, rfl⟩
  rw [hs] at hbs hops hord htm hlen hsane
  refine W_seq ?_
  refine W_seq ?_
  refine W_region ?_
  refine WL_call rfl rfl rfl (rCall (vs := []) rfl Tryd.func8 rfl rfl rfl) ?_
  refine (based_any _ (hI.oldp hg)).mono ?_
  rintro e w2 ⟨rfl, hp⟩
  refine ⟨_, rfl, ?_⟩
  replace hI := hI.pure hp
  replace hbs := hbs.pure hp
  refine WL_val rfl rfl rfl (by first | exact rNotT rfl rfl | exact rNotF rfl rfl | exact rNot rfl rfl) ?_
  refine WL_val rfl rfl rfl (by first | exact rMoveB rfl rfl | exact rMove rfl) ?_
  first | refine WL_val rfl rfl rfl (by first | exact rMoveP rfl rfl | exact rMove rfl) ?_ | refine WL_skip rfl rfl rfl ?_
  first | refine WL_val rfl rfl rfl (rPtrEq rfl Tryd.underlying23 rfl rfl) ?_ | refine WL_skip rfl rfl rfl ?_
  refine WL_val rfl rfl rfl (by first | exact rPickTB rfl rfl rfl | exact rPickFB rfl rfl rfl | exact rPickB rfl rfl rfl rfl) ?_
  refine WL_nil ?_
  refine W_cond false rfl ?_
  refine W_skip ?_
  refine W_seq ?_
  refine W_region ?_
  refine WL_val rfl rfl rfl (by first | exact rMoveP rfl rfl | exact rMove rfl) ?_
  refine WL_call rfl rfl rfl (rCall (vs := [.pointer _]) rfl Tryd.func9 rfl rfl rfl) ?_
  refine (story_any b s D1 _ hbs hops (fun k => by have := hord k; omega)).mono ?_
  rintro e w3 ⟨As, cs, g, rfl, hp, htxs, hgr⟩
  refine ⟨_, rfl, ?_⟩
  replace hI := hI.pure hp
  replace hbs := hbs.pure hp
  have hP3 := hI.pu
  replace hI := Inv.start (fun _ => False) w3
  refine WL_alloc (u := .agg #[.slice none 0 0, .slice none 0 0]) (vs := #[.slice none 0 0, .slice none 0 0]) hI rfl rfl rfl rfl (by kernel_rfl) rfl ?_
  clear hI; rintro b6 w - - hI
  first | refine WL_stw0 (u := .agg _) (vs := #[_, _]) (n := 2) hI rfl rfl rfl rfl rfl rfl (by kernel_rfl) rfl rfl rfl ?_ | refine WL_stw1 (u := .agg _) (vs := #[_, _]) (n := 2) hI rfl rfl rfl rfl rfl rfl (by kernel_rfl) rfl rfl rfl ?_ | refine WL_stw2 (u := .agg _) (vs := #[_, _]) (n := 2) hI rfl rfl rfl rfl rfl rfl (by kernel_rfl) rfl rfl rfl ?_ | refine WL_stw3 (u := .agg _) (vs := #[_, _]) (n := 2) hI rfl rfl rfl rfl rfl rfl (by kernel_rfl) rfl rfl rfl ?_ | refine WL_stw4 (u := .agg _) (vs := #[_, _]) (n := 2) hI rfl rfl rfl rfl rfl rfl (by kernel_rfl) rfl rfl rfl ?_ | refine WL_stw5 (u := .agg _) (vs := #[_, _]) (n := 2) hI rfl rfl rfl rfl rfl rfl (by kernel_rfl) rfl rfl rfl ?_
  clear hI; intro w hI
  refine WL_nil ?_
  refine W_seq ?_
  refine W_region ?_
  refine WL_val rfl rfl rfl (by first | exact rLdB (n := 2) rfl (by kernel_rfl) (by kernel_rfl) rfl rfl hI.g0 | exact rLd2 rfl (by kernel_rfl) (by kernel_rfl) rfl (by first | exact hI.c0 rfl) (by first | exact hI.c0 rfl)) ?_
  refine WL_call rfl rfl rfl (rCall (vs := [.agg _]) rfl Tryd.func14 rfl rfl rfl) ?_
  refine (ifinds_any As s.txs.length cs (some ⟨g, 0, none⟩) 8 8 (stT s) (stG s) _ _ (htxs.pure hI.pu) (stT_len s) (hgr.pure hI.pu) (by simp [stG, hsane.olen]) (fun k hk => Nat.lt_of_lt_of_le hk.2 hI.pu.size)).mono ?_
  rintro e w4 ⟨hp4, ⟨hok, ob, hob, rfl, hblk⟩ | ⟨hno, -⟩⟩
  rotate_left
  · exact absurd (st_ok hsane (by omega) hops) hno
  refine ⟨_, rfl, ?_⟩
  replace hI := hI.pure hp4
  obtain ⟨y, hy⟩ := snapshot_law hsane s.txs.length rfl
  rw [hy] at hblk
  have c0 : w4.cell? ⟨ob, 0, none⟩ = some (.bool false) := by rw [hblk.cell]; rfl
  have c1 : w4.cell? ⟨ob, 1, none⟩ = some (.bool false) := by rw [hblk.cell]; rfl
  have c2 : w4.cell? ⟨ob, 2, none⟩ = some (.bool false) := by rw [hblk.cell]; rfl
  have c3 : w4.cell? ⟨ob, 3, none⟩ = some (.bool false) := by rw [hblk.cell]; rfl
  have c4 : w4.cell? ⟨ob, 4, none⟩ = some (.bool false) := by rw [hblk.cell]; rfl
  have hP4 := hP3.trans hI.pu
  replace hI := Inv.start (fun _ => False) w4
  refine WL_val rfl rfl rfl (by first | exact rMoveT rfl rfl | exact rMove rfl) ?_
  refine WL_val rfl rfl rfl (rExtr rfl rfl rfl) ?_
  refine WL_val rfl rfl rfl (rExtr rfl rfl rfl) ?_
  refine WL_val rfl rfl rfl (by first | exact rAsgnS rfl rfl | exact rAsgn rfl) ?_
  refine WL_val rfl rfl rfl (by first | exact rAsgnN rfl rfl | exact rAsgnE rfl rfl | exact rAsgn rfl) ?_
  refine WL_nil ?_
  refine W_seq ?_
  refine W_region ?_
  refine WL_val rfl rfl rfl (by first | exact rMoveN rfl rfl | exact rMoveE rfl rfl | exact rMove rfl) ?_
  refine WL_val rfl rfl rfl (by first | exact rIfaceEq rfl Tryd.underlying37 rfl rfl | exact rNilEq rfl Tryd.underlying37 rfl) ?_
  refine WL_val rfl rfl rfl (by first | exact rMoveB rfl rfl | exact rMove rfl) ?_
  first | refine WL_val rfl rfl rfl (by first | exact rMoveS rfl rfl | exact rMove rfl) ?_ | refine WL_skip rfl rfl rfl ?_
  first | refine WL_val rfl rfl rfl (rLen rfl Tryd.underlying47 rfl) ?_ | refine WL_skip rfl rfl rfl ?_
  first | refine WL_val rfl rfl rfl (by first | exact rEqlT rfl rfl rfl (by omega) | exact rEqlF rfl rfl rfl (by omega) | exact rEql rfl rfl rfl) ?_ | refine WL_skip rfl rfl rfl ?_
  refine WL_val rfl rfl rfl (by first | exact rPickTB rfl rfl rfl | exact rPickFB rfl rfl rfl | exact rPickB rfl rfl rfl rfl) ?_
  refine WL_val rfl rfl rfl (by first | exact rMoveB rfl rfl | exact rMove rfl) ?_
  first | refine WL_val rfl rfl rfl (by first | exact rMoveS rfl rfl | exact rMove rfl) ?_ | refine WL_skip rfl rfl rfl ?_
  first | refine WL_val rfl rfl rfl (by first | exact rIdx0 (i := 0) rfl Tryd.underlying47 (by kernel_rfl) rfl rfl rfl (by omega) | exact rIdx1 (i := 0) rfl Tryd.underlying47 (by kernel_rfl) rfl rfl (by omega)) ?_ | refine WL_skip rfl rfl rfl ?_
  first | refine WL_val rfl rfl rfl (by first | exact rLd (v := .bool _) rfl (by kernel_rfl) rfl (by first | exact hI.c0 rfl | exact hI.oldp c0 | exact c0 | exact hI.oldp c1 | exact c1 | exact hI.oldp c2 | exact c2 | exact hI.oldp c3 | exact c3 | exact hI.oldp c4 | exact c4) | exact rLd rfl (by kernel_rfl) rfl (by first | exact hI.c0 rfl | exact hI.oldp c0 | exact c0 | exact hI.oldp c1 | exact c1 | exact hI.oldp c2 | exact c2 | exact hI.oldp c3 | exact c3 | exact hI.oldp c4 | exact c4)) ?_ | refine WL_skip rfl rfl rfl ?_
  first | refine WL_val rfl rfl rfl (by first | exact rNotT rfl rfl | exact rNotF rfl rfl | exact rNot rfl rfl) ?_ | refine WL_skip rfl rfl rfl ?_
  refine WL_val rfl rfl rfl (by first | exact rPickTB rfl rfl rfl | exact rPickFB rfl rfl rfl | exact rPickB rfl rfl rfl rfl) ?_
  refine WL_val rfl rfl rfl (by first | exact rMoveB rfl rfl | exact rMove rfl) ?_
  first | refine WL_val rfl rfl rfl (by first | exact rMoveS rfl rfl | exact rMove rfl) ?_ | refine WL_skip rfl rfl rfl ?_
  first | refine WL_val rfl rfl rfl (by first | exact rIdx0 (i := 1) rfl Tryd.underlying47 (by kernel_rfl) rfl rfl rfl (by omega) | exact rIdx1 (i := 1) rfl Tryd.underlying47 (by kernel_rfl) rfl rfl (by omega)) ?_ | refine WL_skip rfl rfl rfl ?_
  first | refine WL_val rfl rfl rfl (by first | exact rLd (v := .bool _) rfl (by kernel_rfl) rfl (by first | exact hI.c0 rfl | exact hI.oldp c0 | exact c0 | exact hI.oldp c1 | exact c1 | exact hI.oldp c2 | exact c2 | exact hI.oldp c3 | exact c3 | exact hI.oldp c4 | exact c4) | exact rLd rfl (by kernel_rfl) rfl (by first | exact hI.c0 rfl | exact hI.oldp c0 | exact c0 | exact hI.oldp c1 | exact c1 | exact hI.oldp c2 | exact c2 | exact hI.oldp c3 | exact c3 | exact hI.oldp c4 | exact c4)) ?_ | refine WL_skip rfl rfl rfl ?_
  first | refine WL_val rfl rfl rfl (by first | exact rNotT rfl rfl | exact rNotF rfl rfl | exact rNot rfl rfl) ?_ | refine WL_skip rfl rfl rfl ?_
  refine WL_val rfl rfl rfl (by first | exact rPickTB rfl rfl rfl | exact rPickFB rfl rfl rfl | exact rPickB rfl rfl rfl rfl) ?_
  refine WL_val rfl rfl rfl (by first | exact rMoveB rfl rfl | exact rMove rfl) ?_
  first | refine WL_val rfl rfl rfl (by first | exact rMoveS rfl rfl | exact rMove rfl) ?_ | refine WL_skip rfl rfl rfl ?_
  first | refine WL_val rfl rfl rfl (by first | exact rIdx0 (i := 2) rfl Tryd.underlying47 (by kernel_rfl) rfl rfl rfl (by omega) | exact rIdx1 (i := 2) rfl Tryd.underlying47 (by kernel_rfl) rfl rfl (by omega)) ?_ | refine WL_skip rfl rfl rfl ?_
  first | refine WL_val rfl rfl rfl (by first | exact rLd (v := .bool _) rfl (by kernel_rfl) rfl (by first | exact hI.c0 rfl | exact hI.oldp c0 | exact c0 | exact hI.oldp c1 | exact c1 | exact hI.oldp c2 | exact c2 | exact hI.oldp c3 | exact c3 | exact hI.oldp c4 | exact c4) | exact rLd rfl (by kernel_rfl) rfl (by first | exact hI.c0 rfl | exact hI.oldp c0 | exact c0 | exact hI.oldp c1 | exact c1 | exact hI.oldp c2 | exact c2 | exact hI.oldp c3 | exact c3 | exact hI.oldp c4 | exact c4)) ?_ | refine WL_skip rfl rfl rfl ?_
  first | refine WL_val rfl rfl rfl (by first | exact rNotT rfl rfl | exact rNotF rfl rfl | exact rNot rfl rfl) ?_ | refine WL_skip rfl rfl rfl ?_
  refine WL_val rfl rfl rfl (by first | exact rPickTB rfl rfl rfl | exact rPickFB rfl rfl rfl | exact rPickB rfl rfl rfl rfl) ?_
  refine WL_val rfl rfl rfl (by first | exact rMoveB rfl rfl | exact rMove rfl) ?_
  first | refine WL_val rfl rfl rfl (by first | exact rMoveS rfl rfl | exact rMove rfl) ?_ | refine WL_skip rfl rfl rfl ?_
  first | refine WL_val rfl rfl rfl (by first | exact rIdx0 (i := 3) rfl Tryd.underlying47 (by kernel_rfl) rfl rfl rfl (by omega) | exact rIdx1 (i := 3) rfl Tryd.underlying47 (by kernel_rfl) rfl rfl (by omega)) ?_ | refine WL_skip rfl rfl rfl ?_
  first | refine WL_val rfl rfl rfl (by first | exact rLd (v := .bool _) rfl (by kernel_rfl) rfl (by first | exact hI.c0 rfl | exact hI.oldp c0 | exact c0 | exact hI.oldp c1 | exact c1 | exact hI.oldp c2 | exact c2 | exact hI.oldp c3 | exact c3 | exact hI.oldp c4 | exact c4) | exact rLd rfl (by kernel_rfl) rfl (by first | exact hI.c0 rfl | exact hI.oldp c0 | exact c0 | exact hI.oldp c1 | exact c1 | exact hI.oldp c2 | exact c2 | exact hI.oldp c3 | exact c3 | exact hI.oldp c4 | exact c4)) ?_ | refine WL_skip rfl rfl rfl ?_
  first | refine WL_val rfl rfl rfl (by first | exact rNotT rfl rfl | exact rNotF rfl rfl | exact rNot rfl rfl) ?_ | refine WL_skip rfl rfl rfl ?_
  refine WL_val rfl rfl rfl (by first | exact rPickTB rfl rfl rfl | exact rPickFB rfl rfl rfl | exact rPickB rfl rfl rfl rfl) ?_
  refine WL_val rfl rfl rfl (by first | exact rMoveB rfl rfl | exact rMove rfl) ?_
  first | refine WL_val rfl rfl rfl (by first | exact rMoveS rfl rfl | exact rMove rfl) ?_ | refine WL_skip rfl rfl rfl ?_
  first | refine WL_val rfl rfl rfl (by first | exact rIdx0 (i := 4) rfl Tryd.underlying47 (by kernel_rfl) rfl rfl rfl (by omega) | exact rIdx1 (i := 4) rfl Tryd.underlying47 (by kernel_rfl) rfl rfl (by omega)) ?_ | refine WL_skip rfl rfl rfl ?_
  first | refine WL_val rfl rfl rfl (by first | exact rLd (v := .bool _) rfl (by kernel_rfl) rfl (by first | exact hI.c0 rfl | exact hI.oldp c0 | exact c0 | exact hI.oldp c1 | exact c1 | exact hI.oldp c2 | exact c2 | exact hI.oldp c3 | exact c3 | exact hI.oldp c4 | exact c4) | exact rLd rfl (by kernel_rfl) rfl (by first | exact hI.c0 rfl | exact hI.oldp c0 | exact c0 | exact hI.oldp c1 | exact c1 | exact hI.oldp c2 | exact c2 | exact hI.oldp c3 | exact c3 | exact hI.oldp c4 | exact c4)) ?_ | refine WL_skip rfl rfl rfl ?_
  first | refine WL_val rfl rfl rfl (by first | exact rNotT rfl rfl | exact rNotF rfl rfl | exact rNot rfl rfl) ?_ | refine WL_skip rfl rfl rfl ?_
  refine WL_val rfl rfl rfl (by first | exact rPickTB rfl rfl rfl | exact rPickFB rfl rfl rfl | exact rPickB rfl rfl rfl rfl) ?_
  refine WL_val rfl rfl rfl (by first | exact rAsgnB rfl rfl | exact rAsgn rfl) ?_
  refine WL_nil ?_
  refine W_ret ?_
  exact ret1 4 (.inr rfl) rfl ⟨rfl, hP4.trans hI.pu⟩
end Go.Proofs.YtlnjmkldpicpdaaDoor
