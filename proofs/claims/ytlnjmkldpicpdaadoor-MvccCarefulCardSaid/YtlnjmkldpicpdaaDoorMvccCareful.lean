/- A careful base is serial: whatever is asked, an order fits all edges, and one behind the other all read what they read. -/
import Derived.Test.YtlnjmkldpicpdaaDoorMvccFirst
import Derived.Test.YtlnjmkldpicpdaaDoorMvcLaw3
import Derived.Test.YtlnjmkldpicpdaaDoorIsolateReplay
namespace Go.Proofs.YtlnjmkldpicpdaaDoor
open Go.RowKit
set_option linter.unusedVariables false
set_option linter.unusedSimpArgs false
set_option maxHeartbeats 2000000 in
theorem careful_any (A : Option Addr) (n c : Nat) (l : List Ask) (D : Nat → Prop) (w0 : World) (h : asksR w0 D (.slice A n c) l) (hg : w0.cell? ⟨0, 0, none⟩ = some (.iface 120 (.agg #[hdl 37]))) :
    Calls Tryd.prog 6 #[.slice A n c] w0 fun en w' => en = .returned (.bool true) ∧ Pure w0 w' := by
  have hn : n = l.length := by obtain ⟨_, _, hv, _⟩ := h; injection hv
  subst hn
  have hI := Inv.start (fun _ => False) w0
  refine calls_of_W (N := Tryd.f6.ntmps) Tryd.func6 rfl rfl rfl ?_
  refine W_seq ?_
  refine W_region ?_
  refine WL_val rfl rfl rfl (by first | exact rAsgnB rfl rfl | exact rAsgn rfl) ?_
  refine WL_nil ?_
  by_cases hl : 80 < l.length
  · refine W_seq ?_
    refine W_seq ?_
    refine W_region ?_
    refine WL_val rfl rfl rfl (by first | exact rMoveS rfl rfl | exact rMove rfl) ?_
    refine WL_val rfl rfl rfl (rLen rfl Tryd.underlying22 rfl) ?_
    refine WL_val rfl rfl rfl (by first | exact rGtrT rfl rfl rfl (by omega) | exact rGtrF rfl rfl rfl (by omega) | exact rGtr rfl rfl rfl) ?_
    refine WL_nil ?_
    refine W_cond true rfl ?_
    refine W_seq ?_
    refine W_region ?_
    refine WL_val rfl rfl rfl (by first | exact rAsgnB rfl rfl | exact rAsgn rfl) ?_
    refine WL_nil ?_
    refine W_ret ?_
    exact ret1 2 (.inr rfl) rfl ⟨rfl, hI.pu⟩
  refine W_seq ?_
  refine W_seq ?_
  refine W_region ?_
  refine WL_val rfl rfl rfl (by first | exact rMoveS rfl rfl | exact rMove rfl) ?_
  refine WL_val rfl rfl rfl (rLen rfl Tryd.underlying22 rfl) ?_
  refine WL_val rfl rfl rfl (by first | exact rGtrT rfl rfl rfl (by omega) | exact rGtrF rfl rfl rfl (by omega) | exact rGtr rfl rfl rfl) ?_
  refine WL_nil ?_
  refine W_cond false rfl ?_
  refine W_skip ?_
  have hl80 : l.length ≤ 80 := by omega
  refine W_seq ?_
  refine W_region ?_
  refine WL_val rfl rfl rfl (by first | exact rMoveS rfl rfl | exact rMove rfl) ?_
  refine WL_call rfl rfl rfl (rCall (vs := [.bool _, .slice _ _ _]) rfl Tryd.func7 rfl rfl rfl) ?_
  refine (played_any true A _ c l D _ (by exact h) hl80).mono ?_
  rintro e w1 ⟨b, rfl, hb⟩
  refine ⟨_, rfl, ?_⟩
  obtain ⟨D1, hbs, hops, hord⟩ := hb.at
  have hpu : Pure w0 w1 := by obtain ⟨T, cT, A, ca, O, co, rest, hI, hw⟩ := hb; exact hI.pu
  replace hI := hI.pure hpu
  clear hb
  refine WL_val rfl rfl rfl (by first | exact rAsgnP rfl rfl | exact rAsgn rfl) ?_
  refine WL_nil ?_
  have htm := play_time true l hl80
  have hlen := play_len true l
  have hsane := play_sane true l
  have hnp : NoPiv (runA (newS 8 true) l) := NoPiv.run l (NoPiv.new 8 true) (Sane.new 8 true) rfl
  obtain ⟨s, hs⟩ : ∃ s, runA (newS 8 true) l = s := ⟨_, rfl⟩
  rw [hs] at hbs hops hord htm hlen hsane hnp
  refine W_seq ?_
  refine W_seq ?_
  refine W_region ?_
  refine WL_call rfl rfl rfl (rCall (vs := []) rfl Tryd.func8 rfl rfl rfl) ?_
  refine (based_any _ (hI.oldp hg)).mono ?_
  rintro e w2 ⟨rfl, hp⟩
  refine ⟨_, rfl, ?_⟩
  replace hI := hI.pure hp
  replace hbs := hbs.pure hp
  refine WL_val rfl rfl rfl (by first | exact rNotT rfl rfl | exact rNotF rfl rfl | exact rNot rfl rfl) ?_
  refine WL_val rfl rfl rfl (by first | exact rMoveB rfl rfl | exact rMove rfl) ?_
  first | refine WL_val rfl rfl rfl (by first | exact rMoveP rfl rfl | exact rMove rfl) ?_ | refine WL_skip rfl rfl rfl ?_
  first | refine WL_val rfl rfl rfl (rPtrEq rfl Tryd.underlying23 rfl rfl) ?_ | refine WL_skip rfl rfl rfl ?_
  refine WL_val rfl rfl rfl (by first | exact rPickTB rfl rfl rfl | exact rPickFB rfl rfl rfl | exact rPickB rfl rfl rfl rfl) ?_
  refine WL_nil ?_
  refine W_cond false rfl ?_
  refine W_skip ?_
  refine W_seq ?_
  refine W_region ?_
  refine WL_val rfl rfl rfl (by first | exact rMoveP rfl rfl | exact rMove rfl) ?_
  refine WL_call rfl rfl rfl (rCall (vs := [.pointer _]) rfl Tryd.func9 rfl rfl rfl) ?_
  refine (story_any b s D1 _ hbs hops (fun k => by have := hord k; omega)).mono ?_
  rintro e w3 ⟨As, cs, g, rfl, hp, htxs, hgr⟩
  refine ⟨_, rfl, ?_⟩
  replace hI := hI.pure hp
  replace hbs := hbs.pure hp
  have hP3 := hI.pu
  replace hI := Inv.start (fun _ => False) w3
  refine WL_alloc (u := .agg #[.slice none 0 0, .slice none 0 0]) (vs := #[.slice none 0 0, .slice none 0 0]) hI rfl rfl rfl rfl (by kernel_rfl) rfl ?_
  clear hI; rintro b4 w - - hI
  first | refine WL_stw0 (u := .agg _) (vs := #[_, _]) (n := 2) hI rfl rfl rfl rfl rfl rfl (by kernel_rfl) rfl rfl rfl ?_ | refine WL_stw1 (u := .agg _) (vs := #[_, _]) (n := 2) hI rfl rfl rfl rfl rfl rfl (by kernel_rfl) rfl rfl rfl ?_ | refine WL_stw2 (u := .agg _) (vs := #[_, _]) (n := 2) hI rfl rfl rfl rfl rfl rfl (by kernel_rfl) rfl rfl rfl ?_ | refine WL_stw3 (u := .agg _) (vs := #[_, _]) (n := 2) hI rfl rfl rfl rfl rfl rfl (by kernel_rfl) rfl rfl rfl ?_ | refine WL_stw4 (u := .agg _) (vs := #[_, _]) (n := 2) hI rfl rfl rfl rfl rfl rfl (by kernel_rfl) rfl rfl rfl ?_ | refine WL_stw5 (u := .agg _) (vs := #[_, _]) (n := 2) hI rfl rfl rfl rfl rfl rfl (by kernel_rfl) rfl rfl rfl ?_
  clear hI; intro w hI
  refine WL_nil ?_
  refine W_seq ?_
  refine W_region ?_
  refine WL_val rfl rfl rfl (by first | exact rLdB (n := 2) rfl (by kernel_rfl) (by kernel_rfl) rfl rfl hI.g0 | exact rLd2 rfl (by kernel_rfl) (by kernel_rfl) rfl (by first | exact hI.c0 rfl) (by first | exact hI.c0 rfl)) ?_
  refine WL_call rfl rfl rfl (rCall (vs := [.agg _]) rfl Tryd.func15 rfl rfl rfl) ?_
  refine (ilevel_any As s.txs.length cs (some ⟨g, 0, none⟩) 8 8 (stT s) (stG s) _ _ (htxs.pure hI.pu) (stT_len s) (hgr.pure hI.pu) (by simp [stG, hsane.olen]) (fun k hk => Nat.lt_of_lt_of_le hk.2 hI.pu.size)).mono ?_
  rintro e w4 ⟨hp4, ⟨hok, rfl⟩ | ⟨hno, -⟩⟩
  rotate_left
  · exact absurd (st_ok hsane (by omega) hops) hno
  refine ⟨_, rfl, ?_⟩
  replace hI := hI.pure hp4
  rw [careful_level hsane hnp]
  refine WL_val rfl rfl rfl (by first | exact rMoveT rfl rfl | exact rMove rfl) ?_
  refine WL_val rfl rfl rfl (rExtr rfl rfl rfl) ?_
  refine WL_val rfl rfl rfl (rExtr rfl rfl rfl) ?_
  refine WL_val rfl rfl rfl (by first | exact rAsgnI rfl rfl | exact rAsgn rfl) ?_
  refine WL_val rfl rfl rfl (by first | exact rAsgnN rfl rfl | exact rAsgnE rfl rfl | exact rAsgn rfl) ?_
  refine WL_nil ?_
  refine W_seq ?_
  refine W_region ?_
  refine WL_val rfl rfl rfl (by first | exact rMoveN rfl rfl | exact rMoveE rfl rfl | exact rMove rfl) ?_
  refine WL_val rfl rfl rfl (by first | exact rIfaceEq rfl Tryd.underlying37 rfl rfl | exact rNilEq rfl Tryd.underlying37 rfl) ?_
  refine WL_val rfl rfl rfl (by first | exact rMoveB rfl rfl | exact rMove rfl) ?_
  first | refine WL_val rfl rfl rfl (by first | exact rMoveI rfl rfl | exact rMove rfl) ?_ | refine WL_skip rfl rfl rfl ?_
  first | refine WL_val rfl rfl rfl (by first | exact rEqlT rfl rfl rfl (by omega) | exact rEqlF rfl rfl rfl (by omega) | exact rEql rfl rfl rfl) ?_ | refine WL_skip rfl rfl rfl ?_
  refine WL_val rfl rfl rfl (by first | exact rPickTB rfl rfl rfl | exact rPickFB rfl rfl rfl | exact rPickB rfl rfl rfl rfl) ?_
  refine WL_val rfl rfl rfl (by first | exact rMoveB rfl rfl | exact rMove rfl) ?_
  first | refine WL_val rfl rfl rfl (by first | exact rLdB (n := 2) rfl (by kernel_rfl) (by kernel_rfl) rfl rfl hI.g0 | exact rLd2 rfl (by kernel_rfl) (by kernel_rfl) rfl (by first | exact hI.c0 rfl) (by first | exact hI.c0 rfl)) ?_ | refine WL_skip rfl rfl rfl ?_
  refine WL_call rfl rfl rfl (rCall (vs := [.agg _]) rfl Tryd.func16 rfl rfl rfl) ?_
  refine (replay_any As s.txs.length cs (some ⟨g, 0, none⟩) 8 8 (stT s) (stG s) _ _ (htxs.pure hI.pu) (stT_len s) (hgr.pure hI.pu) (by simp [stG, hsane.olen]) (fun k hk => Nat.lt_of_lt_of_le hk.2 hI.pu.size) (by omega)).mono ?_
  rintro e w5 ⟨rfl, hp5⟩
  refine ⟨_, rfl, ?_⟩
  replace hI := hI.pure hp5
  refine WL_val rfl rfl rfl (by first | exact rPickTB rfl rfl rfl | exact rPickFB rfl rfl rfl | exact rPickB rfl rfl rfl rfl) ?_
  refine WL_val rfl rfl rfl (by first | exact rAsgnB rfl rfl | exact rAsgn rfl) ?_
  refine WL_nil ?_
  refine W_ret ?_
  exact ret1 2 (.inr rfl) rfl ⟨rfl, hP3.trans hI.pu⟩
end Go.Proofs.YtlnjmkldpicpdaaDoor
