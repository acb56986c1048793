/- One behind the other nobody waits: picks that let each transaction go on to its end make no victim. -/
import Derived.Test.YtidnlnlmmnkgoaaLckD
namespace Go.Proofs.Ytidnlnlmmnkgoaa
open Go.RowKit
set_option linter.unusedVariables false
set_option linter.unusedSimpArgs false
set_option maxHeartbeats 4000000 in
theorem alone_any (PA : Option Addr) (n pc : Nat) (p : List (List St)) (D : Nat → Prop) (w0 : World) (h : PlanAt w0 D (.slice PA n pc) p) (hn : p.length = n) (hD : ∀ k, D k → k < w0.heap.size) (hb : n + sumTo p n ≤ 1000000000000) :
    Calls Try.prog 3 #[.slice PA n pc] w0 fun en w' => en = .returned (.bool true) ∧ Pure w0 w' := by
  subst hn
  have hI := Inv.start (fun _ => False) w0
  have hmono : ∀ i, i ≤ p.length → sumTo p i ≤ sumTo p p.length := fun i hi => sumTo_mono p _ hi (Nat.le_refl _)
  refine calls_of_W (N := Try.f3.ntmps) Try.func3 rfl rfl rfl ?_
  refine W_seq ?_
  refine W_region ?_
  refine WL_val rfl rfl rfl (by first | exact rAsgnB rfl rfl | exact rAsgn rfl) ?_
  refine WL_nil ?_
  refine W_seq ?_
  refine W_region ?_
  refine WL_val rfl rfl rfl (by first | exact rAsgnS rfl rfl | exact rAsgn rfl) ?_
  refine WL_nil ?_
  refine W_seq_cut (fun ρ w => ∃ A c, Has ρ [(0, .slice PA p.length pc), (3, .slice A (aloneT p p.length).length c)] ∧ Inv (fun _ => False) w0 w [Row 0 3 1 A (aloneT p p.length).length c (i64s (aloneT p p.length))]) ?_ ?_
  · refine W_seq ?_
    refine W_region ?_
    refine WL_val rfl rfl rfl (by first | exact rAsgnI rfl rfl | exact rAsgn rfl) ?_
    refine WL_nil ?_
    refine W_block ?_
    refine W_loop (fun ρ w => ∃ t A c, t ≤ p.length ∧ Has ρ [(4, .int .i64 ((t : Nat) : Int)), (0, .slice PA p.length pc), (3, .slice A (aloneT p t).length c)] ∧ Inv (fun _ => False) w0 w [Row 0 3 1 A (aloneT p t).length c (i64s (aloneT p t))]) (fun ρ _ => p.length - cnt (ρ 4))
      ⟨0, none, 0, by omega, ⟨rfl, rfl, rfl, trivial⟩, hI.fresh (Pure.refl _) (Row.nil _ 0 3 1) (fun k hk => by simp [Row] at hk)⟩ ?_
    clear hI
    rintro ρ w ⟨t, A, c, ht, hH, hI⟩
    obtain ⟨σ, rfl⟩ := hH.open
    by_cases htn : t < p.length
    · have hrow : p[t]? = some (rowP p t) := by unfold rowP; rw [List.getD_eq_getElem?_getD, List.getElem?_eq_getElem htn]; rfl
      obtain ⟨-, pb, po, RA, rc, hPA, hDp, q1, hsts⟩ := h.get hrow
      subst hPA
      have hsr := sumTo_row htn
      have hm1 := hmono (t + 1) (by omega)
      have hal := aloneT_len p t (by omega)
      refine W_seq ?_
      refine W_seq ?_
      refine W_region ?_
      refine WL_val rfl rfl rfl (by first | exact rMoveI rfl rfl | exact rMove rfl) ?_
      refine WL_val rfl rfl rfl (by first | exact rMoveS rfl rfl | exact rMove rfl) ?_
      refine WL_val rfl rfl rfl (rLen rfl Try.underlying23 rfl) ?_
      refine WL_val rfl rfl rfl (by first | exact rLssT rfl rfl rfl (by omega) | exact rLssF rfl rfl rfl (by omega) | exact rLss rfl rfl rfl) ?_
      refine WL_nil ?_
      refine W_cond true rfl ?_
      refine W_skip ?_
      refine W_seq ?_
      refine W_block ?_
      refine W_seq ?_
      refine W_region ?_
      refine WL_val rfl rfl rfl (by first | exact rAsgnI rfl rfl | exact rAsgn rfl) ?_
      refine WL_nil ?_
      refine W_block ?_
      refine W_loop (fun ρ w => ∃ i A c, i ≤ (rowP p t).length + 1 ∧ Has ρ [(5, .int .i64 ((i : Nat) : Int)), (4, .int .i64 ((t : Nat) : Int)), (0, .slice (some ⟨pb, po, none⟩) p.length pc), (3, .slice A (aloneTo p t i).length c)] ∧ Inv (fun _ => False) w0 w [Row 0 3 1 A (aloneTo p t i).length c (i64s (aloneTo p t i))]) (fun ρ _ => (rowP p t).length + 1 - cnt (ρ 5))
        ⟨0, A, c, by omega, ⟨rfl, rfl, rfl, by simp [aloneTo]; rfl, trivial⟩, by simpa [aloneTo] using hI⟩ ?_
      clear hI
      rintro ρ w ⟨i, A, c, hi, hH, hI⟩
      obtain ⟨σ, rfl⟩ := hH.open
      by_cases hil : i ≤ (rowP p t).length
      · have hle : (aloneTo p t i).length = t + sumTo p t + i := by unfold aloneTo; rw [List.length_append, List.length_replicate, hal]
        refine W_seq ?_
        refine W_seq ?_
        refine W_region ?_
        refine WL_val rfl rfl rfl (by first | exact rMoveI rfl rfl | exact rMove rfl) ?_
        refine WL_val rfl rfl rfl (by first | exact rMoveS rfl rfl | exact rMove rfl) ?_
        refine WL_val rfl rfl rfl (by first | exact rMoveI rfl rfl | exact rMove rfl) ?_
        refine WL_val rfl rfl rfl (by first | exact rIdx0 rfl Try.underlying23 (by kernel_rfl) rfl rfl rfl (by omega) | exact rIdx1 rfl Try.underlying23 (by kernel_rfl) rfl rfl (by omega)) ?_
        refine WL_val rfl rfl rfl (by first | exact rLd (v := .slice _ _ _) rfl (by kernel_rfl) rfl (by first | exact hI.c0 rfl | exact hI.oldp q1 | exact q1) | exact rLd rfl (by kernel_rfl) rfl (by first | exact hI.c0 rfl | exact hI.oldp q1 | exact q1)) ?_
        refine WL_val rfl rfl rfl (rLen rfl Try.underlying25 rfl) ?_
        refine WL_val rfl rfl rfl (by first | exact rLeqT rfl rfl rfl (by omega) | exact rLeqF rfl rfl rfl (by omega) | exact rLeq rfl rfl rfl) ?_
        refine WL_nil ?_
        refine W_cond true rfl ?_
        refine W_skip ?_
        refine W_seq ?_
        refine W_block ?_
        refine W_region ?_
        refine WL_val rfl rfl rfl (by first | exact rMoveS rfl rfl | exact rMove rfl) ?_
        refine WL_val rfl rfl rfl (by first | exact rMoveI rfl rfl | exact rMove rfl) ?_
        refine WL_lit (vs := [_]) (qs := [(0, .int .i64 _)]) [.int .i64 0] [0] hI rfl rfl rfl rfl rfl rfl Try.underlying24 (fun _ => by kernel_rfl) ?_
        clear hI; rintro b26 w - - hI
        first | refine WL_app1 (z := .int .i64 0) (by_ := 8) hI rfl rfl rfl rfl rfl rfl Try.underlying24 (by kernel_rfl) rfl (by omega) (by rfl) hI.lit0 (by first | rfl | simp [i64s, Value.oneCell']) (by omega) (by omega) (by first | exact Nat.zero_le _ | (have := hI.chg.size; omega)) ?_
        clear hI; rintro A27 c27 w hA27 hc27 hI
        replace hI := hI.d0
        refine WL_val rfl rfl rfl (by first | exact rAsgnS rfl rfl | exact rAsgn rfl) ?_
        refine WL_nil ?_
        refine W_region ?_
        refine WL_val rfl rfl rfl (by first | exact rMoveI rfl rfl | exact rMove rfl) ?_
        refine WL_val rfl rfl rfl (by first | exact rInc rfl rfl rfl (by omega) | exact rAdd rfl rfl rfl (by omega) | exact rAddW rfl rfl rfl) ?_
        refine WL_val rfl rfl rfl (by first | exact rAsgnI rfl rfl | exact rAsgn rfl) ?_
        refine WL_nil ?_
        have e1 := aloneTo_succ p t i
        refine ⟨⟨i + 1, A27, c27, by omega, ⟨rfl, rfl, rfl, by rw [e1, List.length_append]; rfl, trivial⟩, ?_⟩, by show (rowP p t).length + 1 - ((i + 1 : Nat) : Int).toNat < (rowP p t).length + 1 - (i : Int).toNat; omega⟩
        rw [e1, List.length_append]
        unfold i64s
        rw [List.map_append]
        exact hI
      · obtain rfl : i = (rowP p t).length + 1 := by omega
        refine W_seq ?_
        refine W_seq ?_
        refine W_region ?_
        refine WL_val rfl rfl rfl (by first | exact rMoveI rfl rfl | exact rMove rfl) ?_
        refine WL_val rfl rfl rfl (by first | exact rMoveS rfl rfl | exact rMove rfl) ?_
        refine WL_val rfl rfl rfl (by first | exact rMoveI rfl rfl | exact rMove rfl) ?_
        refine WL_val rfl rfl rfl (by first | exact rIdx0 rfl Try.underlying23 (by kernel_rfl) rfl rfl rfl (by omega) | exact rIdx1 rfl Try.underlying23 (by kernel_rfl) rfl rfl (by omega)) ?_
        refine WL_val rfl rfl rfl (by first | exact rLd (v := .slice _ _ _) rfl (by kernel_rfl) rfl (by first | exact hI.c0 rfl | exact hI.oldp q1 | exact q1) | exact rLd rfl (by kernel_rfl) rfl (by first | exact hI.c0 rfl | exact hI.oldp q1 | exact q1)) ?_
        refine WL_val rfl rfl rfl (rLen rfl Try.underlying25 rfl) ?_
        refine WL_val rfl rfl rfl (by first | exact rLeqT rfl rfl rfl (by omega) | exact rLeqF rfl rfl rfl (by omega) | exact rLeq rfl rfl rfl) ?_
        refine WL_nil ?_
        refine W_cond false rfl ?_
        refine W_exit ?_
        refine W_region ?_
        refine WL_val rfl rfl rfl (by first | exact rMoveI rfl rfl | exact rMove rfl) ?_
        refine WL_val rfl rfl rfl (by first | exact rInc rfl rfl rfl (by omega) | exact rAdd rfl rfl rfl (by omega) | exact rAddW rfl rfl rfl) ?_
        refine WL_val rfl rfl rfl (by first | exact rAsgnI rfl rfl | exact rAsgn rfl) ?_
        refine WL_nil ?_
        rw [← aloneT_succ] at hI
        refine ⟨⟨t + 1, A, c, by omega, ⟨rfl, rfl, by rw [aloneT_succ]; rfl, trivial⟩, hI⟩, by show p.length - ((t + 1 : Nat) : Int).toNat < p.length - (t : Int).toNat; omega⟩
    · obtain rfl : t = p.length := by omega
      refine W_seq ?_
      refine W_seq ?_
      refine W_region ?_
      refine WL_val rfl rfl rfl (by first | exact rMoveI rfl rfl | exact rMove rfl) ?_
      refine WL_val rfl rfl rfl (by first | exact rMoveS rfl rfl | exact rMove rfl) ?_
      refine WL_val rfl rfl rfl (rLen rfl Try.underlying23 rfl) ?_
      refine WL_val rfl rfl rfl (by first | exact rLssT rfl rfl rfl (by omega) | exact rLssF rfl rfl rfl (by omega) | exact rLss rfl rfl rfl) ?_
      refine WL_nil ?_
      refine W_cond false rfl ?_
      refine W_exit ?_
      exact ⟨A, c, ⟨rfl, rfl, trivial⟩, hI⟩
  clear hI
  rintro ρ w ⟨A, c, hH, hI⟩
  obtain ⟨σ, rfl⟩ := hH.open
  have hkl := aloneT_len p p.length (Nat.le_refl _)
  by_cases h150 : 150 < (aloneT p p.length).length
  · refine W_seq ?_
    refine W_seq ?_
    refine W_region ?_
    refine WL_val rfl rfl rfl (by first | exact rMoveS rfl rfl | exact rMove rfl) ?_
    refine WL_val rfl rfl rfl (rLen rfl Try.underlying24 rfl) ?_
    refine WL_val rfl rfl rfl (by first | exact rGtrT rfl rfl rfl (by omega) | exact rGtrF rfl rfl rfl (by omega) | exact rGtr rfl rfl rfl) ?_
    refine WL_nil ?_
    refine W_cond true rfl ?_
    refine W_seq ?_
    refine W_region ?_
    refine WL_val rfl rfl rfl (by first | exact rAsgnB rfl rfl | exact rAsgn rfl) ?_
    refine WL_nil ?_
    refine W_ret ?_
    exact ret1 2 (.inr rfl) rfl ⟨rfl, hI.pu⟩
  refine W_seq ?_
  refine W_seq ?_
  refine W_region ?_
  refine WL_val rfl rfl rfl (by first | exact rMoveS rfl rfl | exact rMove rfl) ?_
  refine WL_val rfl rfl rfl (rLen rfl Try.underlying24 rfl) ?_
  refine WL_val rfl rfl rfl (by first | exact rGtrT rfl rfl rfl (by omega) | exact rGtrF rfl rfl rfl (by omega) | exact rGtr rfl rfl rfl) ?_
  refine WL_nil ?_
  refine W_cond false rfl ?_
  refine W_skip ?_
  have hP := hI.pu
  obtain ⟨w1, hw1⟩ : ∃ w1, w1 = w := ⟨_, rfl⟩
  subst hw1
  have hK : Ints w1 (fun _ => True) (.slice A (aloneT p p.length).length c) (aloneT p p.length) := Rd.of_own (D := fun _ => True) hI.g0 (fun _ _ _ => trivial)
  have hPl : PlanAt w1 D (.slice PA p.length pc) p := h.chg (hP.chg (fun _ => False)) (fun _ _ h => h)
  have hD1 : ∀ k, D k → k < w1.heap.size := fun k hk => Nat.lt_of_lt_of_le (hD k hk) hP.size
  have hsm : ∀ i, i ≤ p.length → p.length + sumTo p i ≤ 4611686018427387904 := fun i hi => by have := hmono i hi; omega
  have hplay := play_any PA p.length pc p A (aloneT p p.length).length c (aloneT p p.length) D w1 hPl rfl hD1 hK hsm 0 (fun hf _ => ⟨fun k hk => absurd hk (Nat.not_lt_zero k), (alone_law hf.ok).1, by omega⟩)
  replace hI := Inv.start (fun _ => False) w1
  by_cases hfit : PlanFits p
  rotate_left
  · refine W_seq ?_
    refine W_region ?_
    refine WL_val rfl rfl rfl (by first | exact rMoveS rfl rfl | exact rMove rfl) ?_
    refine WL_val rfl rfl rfl (by first | exact rMoveS rfl rfl | exact rMove rfl) ?_
    refine WL_call rfl rfl rfl (rCall (vs := [.slice _ _ _, .slice _ _ _]) rfl Try.func4 rfl rfl rfl) ?_
    refine hplay.mono ?_
    rintro e w2 (⟨_, v, hv, rfl, hp⟩ | ⟨hf, _⟩)
    rotate_left
    exact absurd hf hfit
    refine ⟨_, rfl, ?_⟩
    replace hI := hI.pure hp
    refine WL_val rfl rfl rfl (by first | exact rMoveT rfl rfl | exact rMove rfl) ?_
    refine WL_val rfl rfl rfl (rExtr rfl rfl rfl) ?_
    refine WL_val rfl rfl rfl (rExtr rfl rfl rfl) ?_
    refine WL_alloc (u := .agg #[.slice none 0 0, .slice none 0 0, .slice none 0 0]) (vs := #[.slice none 0 0, .slice none 0 0, .slice none 0 0]) hI rfl rfl rfl rfl (by kernel_rfl) rfl ?_
    clear hI; rintro b6 w - - hI
    first | refine WL_stw0 (u := .agg _) (vs := #[_, _, _]) (n := 3) hI rfl rfl rfl rfl rfl rfl (by kernel_rfl) rfl rfl rfl ?_ | refine WL_stw1 (u := .agg _) (vs := #[_, _, _]) (n := 3) hI rfl rfl rfl rfl rfl rfl (by kernel_rfl) rfl rfl rfl ?_ | refine WL_stw2 (u := .agg _) (vs := #[_, _, _]) (n := 3) hI rfl rfl rfl rfl rfl rfl (by kernel_rfl) rfl rfl rfl ?_ | refine WL_stw3 (u := .agg _) (vs := #[_, _, _]) (n := 3) hI rfl rfl rfl rfl rfl rfl (by kernel_rfl) rfl rfl rfl ?_ | refine WL_stw4 (u := .agg _) (vs := #[_, _, _]) (n := 3) hI rfl rfl rfl rfl rfl rfl (by kernel_rfl) rfl rfl rfl ?_ | refine WL_stw5 (u := .agg _) (vs := #[_, _, _]) (n := 3) hI rfl rfl rfl rfl rfl rfl (by kernel_rfl) rfl rfl rfl ?_
    clear hI; intro w hI
    refine WL_val rfl rfl rfl (by first | exact rAsgnN rfl rfl | exact rAsgnE rfl rfl | exact rAsgn rfl) ?_
    refine WL_nil ?_
    obtain ⟨cc, rfl⟩ := hv
    refine W_seq ?_
    refine W_seq ?_
    refine W_region ?_
    refine WL_call rfl rfl rfl (rCall (vs := []) rfl Try.func5 rfl rfl rfl) ?_
    refine (locks_any _).mono ?_
    rintro e w2 ⟨rfl, hp⟩
    refine ⟨_, rfl, ?_⟩
    replace hI := hI.pure hp
    refine WL_val rfl rfl rfl (by first | exact rNotT rfl rfl | exact rNotF rfl rfl | exact rNot rfl rfl) ?_
    refine WL_val rfl rfl rfl (by first | exact rMoveB rfl rfl | exact rMove rfl) ?_
    first | refine WL_val rfl rfl rfl (by first | exact rMoveN rfl rfl | exact rMoveE rfl rfl | exact rMove rfl) ?_ | refine WL_skip rfl rfl rfl ?_
    first | refine WL_val rfl rfl rfl (by first | exact rIfaceNe rfl Try.underlying29 rfl rfl | exact rNilNe rfl Try.underlying29 rfl) ?_ | refine WL_skip rfl rfl rfl ?_
    refine WL_val rfl rfl rfl (by first | exact rPickTB rfl rfl rfl | exact rPickFB rfl rfl rfl | exact rPickB rfl rfl rfl rfl) ?_
    refine WL_nil ?_
    refine W_cond true rfl ?_
    refine W_seq ?_
    refine W_region ?_
    refine WL_call rfl rfl rfl (rCall (vs := []) rfl Try.func5 rfl rfl rfl) ?_
    refine (locks_any _).mono ?_
    rintro e w2 ⟨rfl, hp⟩
    refine ⟨_, rfl, ?_⟩
    replace hI := hI.pure hp
    refine WL_val rfl rfl rfl (by first | exact rMoveB rfl rfl | exact rMove rfl) ?_
    first | refine WL_val rfl rfl rfl (by first | exact rFldN (off := 0) rfl (by kernel_rfl) rfl | exact rFld0 rfl (by kernel_rfl) rfl) ?_ | refine WL_skip rfl rfl rfl ?_
    first | refine WL_val rfl rfl rfl (by first | exact rLd (v := .slice _ _ _) rfl (by kernel_rfl) rfl (by first | exact hI.c0 rfl) | exact rLd rfl (by kernel_rfl) rfl (by first | exact hI.c0 rfl)) ?_ | refine WL_skip rfl rfl rfl ?_
    first | refine WL_val rfl rfl rfl (rLen rfl Try.underlying25 rfl) ?_ | refine WL_skip rfl rfl rfl ?_
    first | refine WL_val rfl rfl rfl (by first | exact rEqlT rfl rfl rfl (by omega) | exact rEqlF rfl rfl rfl (by omega) | exact rEql rfl rfl rfl) ?_ | refine WL_skip rfl rfl rfl ?_
    refine WL_val rfl rfl rfl (by first | exact rPickTB rfl rfl rfl | exact rPickFB rfl rfl rfl | exact rPickB rfl rfl rfl rfl) ?_
    refine WL_val rfl rfl rfl (by first | exact rAsgnB rfl rfl | exact rAsgn rfl) ?_
    refine WL_nil ?_
    refine W_ret ?_
    exact ret1 2 (.inr rfl) rfl ⟨rfl, hP.trans hI.pu⟩
  obtain ⟨-, l2, l3, l4⟩ := alone_law hfit.ok
  obtain ⟨sf, hsf⟩ : ∃ sf, roundsR p 0 (picksR p (aloneT p p.length)) = sf := ⟨_, rfl⟩
  have hsf2 : picksR p (aloneT p p.length) = sf := hsf
  rw [hsf2] at l2 l3 l4
  rw [hsf] at hplay
  rw [l2, l3] at hplay
  refine W_seq ?_
  refine W_region ?_
  refine WL_val rfl rfl rfl (by first | exact rMoveS rfl rfl | exact rMove rfl) ?_
  refine WL_val rfl rfl rfl (by first | exact rMoveS rfl rfl | exact rMove rfl) ?_
  refine WL_call rfl rfl rfl (rCall (vs := [.slice _ _ _, .slice _ _ _]) rfl Try.func4 rfl rfl rfl) ?_
  refine hplay.mono ?_
  rintro e w2 (⟨hor, _⟩ | ⟨_, _, DA, dc, wb, VA, vc, rfl, hJ⟩)
  exact (hor.elim (fun h => h hfit) (fun h => by omega)).elim
  refine ⟨_, rfl, ?_⟩
  replace hI := hI.app3 hJ
  refine WL_val rfl rfl rfl (by first | exact rMoveT rfl rfl | exact rMove rfl) ?_
  refine WL_val rfl rfl rfl (rExtr rfl rfl rfl) ?_
  refine WL_val rfl rfl rfl (rExtr rfl rfl rfl) ?_
  refine WL_alloc (u := .agg #[.slice none 0 0, .slice none 0 0, .slice none 0 0]) (vs := #[.slice none 0 0, .slice none 0 0, .slice none 0 0]) hI rfl rfl rfl rfl (by kernel_rfl) rfl ?_
  clear hI; rintro b6 w - - hI
  first | refine WL_stw0 (u := .agg _) (vs := #[_, _, _]) (n := 3) hI rfl rfl rfl rfl rfl rfl (by kernel_rfl) rfl rfl rfl ?_ | refine WL_stw1 (u := .agg _) (vs := #[_, _, _]) (n := 3) hI rfl rfl rfl rfl rfl rfl (by kernel_rfl) rfl rfl rfl ?_ | refine WL_stw2 (u := .agg _) (vs := #[_, _, _]) (n := 3) hI rfl rfl rfl rfl rfl rfl (by kernel_rfl) rfl rfl rfl ?_ | refine WL_stw3 (u := .agg _) (vs := #[_, _, _]) (n := 3) hI rfl rfl rfl rfl rfl rfl (by kernel_rfl) rfl rfl rfl ?_ | refine WL_stw4 (u := .agg _) (vs := #[_, _, _]) (n := 3) hI rfl rfl rfl rfl rfl rfl (by kernel_rfl) rfl rfl rfl ?_ | refine WL_stw5 (u := .agg _) (vs := #[_, _, _]) (n := 3) hI rfl rfl rfl rfl rfl rfl (by kernel_rfl) rfl rfl rfl ?_
  clear hI; intro w hI
  refine WL_val rfl rfl rfl (by first | exact rAsgnN rfl rfl | exact rAsgnE rfl rfl | exact rAsgn rfl) ?_
  refine WL_nil ?_
  refine W_seq ?_
  refine W_seq ?_
  refine W_region ?_
  refine WL_call rfl rfl rfl (rCall (vs := []) rfl Try.func5 rfl rfl rfl) ?_
  refine (locks_any _).mono ?_
  rintro e w2 ⟨rfl, hp⟩
  refine ⟨_, rfl, ?_⟩
  replace hI := hI.pure hp
  refine WL_val rfl rfl rfl (by first | exact rNotT rfl rfl | exact rNotF rfl rfl | exact rNot rfl rfl) ?_
  refine WL_val rfl rfl rfl (by first | exact rMoveB rfl rfl | exact rMove rfl) ?_
  first | refine WL_val rfl rfl rfl (by first | exact rMoveN rfl rfl | exact rMoveE rfl rfl | exact rMove rfl) ?_ | refine WL_skip rfl rfl rfl ?_
  first | refine WL_val rfl rfl rfl (by first | exact rIfaceNe rfl Try.underlying29 rfl rfl | exact rNilNe rfl Try.underlying29 rfl) ?_ | refine WL_skip rfl rfl rfl ?_
  refine WL_val rfl rfl rfl (by first | exact rPickTB rfl rfl rfl | exact rPickFB rfl rfl rfl | exact rPickB rfl rfl rfl rfl) ?_
  refine WL_nil ?_
  refine W_cond false rfl ?_
  refine W_skip ?_
  have e2 : (natV (List.replicate p.length 0)).toArray = rep (.int .i64 0) p.length := by simp [natV, rep]
  rw [e2] at hI
  refine W_seq_cut (fun ρ w => Has ρ [(0, .slice PA p.length pc), (6, .pointer (some ⟨b6, 0, none⟩))] ∧ Inv (fun _ => False) w1 w [B b6 27 #[.slice DA sf.done.length dc, .slice (some ⟨wb, 0, none⟩) p.length p.length, .slice VA ([] : List Nat).length vc], Row 0 49 3 DA sf.done.length dc (sf.done.flatMap stV), B wb 3 (rep (.int .i64 0) p.length)]) ?_ ?_
  · refine W_seq ?_
    refine W_region ?_
    refine WL_val rfl rfl rfl (by first | exact rAsgnI rfl rfl | exact rAsgn rfl) ?_
    refine WL_nil ?_
    refine W_block ?_
    refine W_loop (fun ρ w => ∃ k : Nat, k ≤ p.length ∧ Has ρ [(8, .int .i64 ((k : Nat) : Int)), (0, .slice PA p.length pc), (6, .pointer (some ⟨b6, 0, none⟩))] ∧ Inv (fun _ => False) w1 w [B b6 27 #[.slice DA sf.done.length dc, .slice (some ⟨wb, 0, none⟩) p.length p.length, .slice VA ([] : List Nat).length vc], Row 0 49 3 DA sf.done.length dc (sf.done.flatMap stV), B wb 3 (rep (.int .i64 0) p.length)]) (fun ρ _ => p.length - cnt (ρ 8))
      ⟨0, by omega, ⟨rfl, rfl, rfl, trivial⟩, hI.erase 3⟩ ?_
    clear hI
    rintro ρ w ⟨k, hk, hH, hI⟩
    obtain ⟨σ, rfl⟩ := hH.open
    by_cases hkn : k < p.length
    · have q1 : w.cell? ⟨wb, k, none⟩ = some (.int .i64 0) := by
        rw [hI.g2.cell]
        exact rep_get _ hkn
      refine W_seq ?_
      refine W_seq ?_
      refine W_region ?_
      refine WL_val rfl rfl rfl (by first | exact rMoveI rfl rfl | exact rMove rfl) ?_
      refine WL_val rfl rfl rfl (by first | exact rFldN (off := 1) rfl (by kernel_rfl) rfl | exact rFld (off := 1) rfl (by kernel_rfl) rfl) ?_
      refine WL_val rfl rfl rfl (by first | exact rLd (v := .slice _ _ _) rfl (by kernel_rfl) rfl (by first | exact hI.c0 rfl) | exact rLd rfl (by kernel_rfl) rfl (by first | exact hI.c0 rfl)) ?_
      refine WL_val rfl rfl rfl (rLen rfl Try.underlying24 rfl) ?_
      refine WL_val rfl rfl rfl (by first | exact rLssT rfl rfl rfl (by omega) | exact rLssF rfl rfl rfl (by omega) | exact rLss rfl rfl rfl) ?_
      refine WL_nil ?_
      refine W_cond true rfl ?_
      refine W_skip ?_
      refine W_seq ?_
      refine W_block ?_
      refine W_seq ?_
      refine W_region ?_
      refine WL_val rfl rfl rfl (by first | exact rFldN (off := 1) rfl (by kernel_rfl) rfl | exact rFld (off := 1) rfl (by kernel_rfl) rfl) ?_
      refine WL_val rfl rfl rfl (by first | exact rLd (v := .slice _ _ _) rfl (by kernel_rfl) rfl (by first | exact hI.c0 rfl | exact q1) | exact rLd rfl (by kernel_rfl) rfl (by first | exact hI.c0 rfl | exact q1)) ?_
      refine WL_val rfl rfl rfl (by first | exact rMoveI rfl rfl | exact rMove rfl) ?_
      refine WL_val rfl rfl rfl (by first | exact rIdx0 rfl Try.underlying24 (by kernel_rfl) rfl rfl rfl (by omega) | exact rIdx1 rfl Try.underlying24 (by kernel_rfl) rfl rfl (by omega)) ?_
      refine WL_val rfl rfl rfl (by first | exact rLd (v := .int .i64 _) rfl (by kernel_rfl) rfl (by first | exact hI.c0 rfl | exact q1) | exact rLd rfl (by kernel_rfl) rfl (by first | exact hI.c0 rfl | exact q1)) ?_
      refine WL_val rfl rfl rfl (by first | exact rNeqT rfl rfl rfl (by omega) | exact rNeqF rfl rfl rfl (by omega) | exact rNeq rfl rfl rfl) ?_
      refine WL_nil ?_
      refine W_cond false rfl ?_
      refine W_skip ?_
      refine W_region ?_
      refine WL_val rfl rfl rfl (by first | exact rMoveI rfl rfl | exact rMove rfl) ?_
      refine WL_val rfl rfl rfl (by first | exact rInc rfl rfl rfl (by omega) | exact rAdd rfl rfl rfl (by omega) | exact rAddW rfl rfl rfl) ?_
      refine WL_val rfl rfl rfl (by first | exact rAsgnI rfl rfl | exact rAsgn rfl) ?_
      refine WL_nil ?_
      exact ⟨⟨k + 1, by omega, ⟨rfl, rfl, rfl, trivial⟩, hI⟩, by show p.length - ((k + 1 : Nat) : Int).toNat < p.length - (k : Int).toNat; omega⟩
    · obtain rfl : k = p.length := by omega
      refine W_seq ?_
      refine W_seq ?_
      refine W_region ?_
      refine WL_val rfl rfl rfl (by first | exact rMoveI rfl rfl | exact rMove rfl) ?_
      refine WL_val rfl rfl rfl (by first | exact rFldN (off := 1) rfl (by kernel_rfl) rfl | exact rFld (off := 1) rfl (by kernel_rfl) rfl) ?_
      refine WL_val rfl rfl rfl (by first | exact rLd (v := .slice _ _ _) rfl (by kernel_rfl) rfl (by first | exact hI.c0 rfl) | exact rLd rfl (by kernel_rfl) rfl (by first | exact hI.c0 rfl)) ?_
      refine WL_val rfl rfl rfl (rLen rfl Try.underlying24 rfl) ?_
      refine WL_val rfl rfl rfl (by first | exact rLssT rfl rfl rfl (by omega) | exact rLssF rfl rfl rfl (by omega) | exact rLss rfl rfl rfl) ?_
      refine WL_nil ?_
      refine W_cond false rfl ?_
      refine W_exit ?_
      exact ⟨⟨rfl, rfl, trivial⟩, hI⟩
  clear hI
  rintro ρ w ⟨hH, hI⟩
  obtain ⟨σ, rfl⟩ := hH.open
  have hS : Sts w (fun _ => True) (.slice DA sf.done.length dc) sf.done := Rd.of_own (D := fun _ => True) hI.g1 (fun _ _ _ => trivial)
  refine W_seq ?_
  refine W_region ?_
  refine WL_val rfl rfl rfl (by first | exact rFldN (off := 2) rfl (by kernel_rfl) rfl | exact rFld (off := 2) rfl (by kernel_rfl) rfl) ?_
  refine WL_val rfl rfl rfl (by first | exact rLd (v := .slice _ _ _) rfl (by kernel_rfl) rfl (by first | exact hI.c0 rfl) | exact rLd rfl (by kernel_rfl) rfl (by first | exact hI.c0 rfl)) ?_
  refine WL_val rfl rfl rfl (rLen rfl Try.underlying24 rfl) ?_
  refine WL_val rfl rfl rfl (by first | exact rEqlT rfl rfl rfl (by omega) | exact rEqlF rfl rfl rfl (by omega) | exact rEql rfl rfl rfl) ?_
  refine WL_val rfl rfl rfl (by first | exact rMoveB rfl rfl | exact rMove rfl) ?_
  first | refine WL_val rfl rfl rfl (by first | exact rFldN (off := 1) rfl (by kernel_rfl) rfl | exact rFld (off := 1) rfl (by kernel_rfl) rfl) ?_ | refine WL_skip rfl rfl rfl ?_
  first | refine WL_val rfl rfl rfl (by first | exact rLd (v := .slice _ _ _) rfl (by kernel_rfl) rfl (by first | exact hI.c0 rfl) | exact rLd rfl (by kernel_rfl) rfl (by first | exact hI.c0 rfl)) ?_ | refine WL_skip rfl rfl rfl ?_
  first | refine WL_val rfl rfl rfl (rLen rfl Try.underlying24 rfl) ?_ | refine WL_skip rfl rfl rfl ?_
  first | refine WL_val rfl rfl rfl (by first | exact rMoveS rfl rfl | exact rMove rfl) ?_ | refine WL_skip rfl rfl rfl ?_
  first | refine WL_val rfl rfl rfl (rLen rfl Try.underlying23 rfl) ?_ | refine WL_skip rfl rfl rfl ?_
  first | refine WL_val rfl rfl rfl (by first | exact rEqlT rfl rfl rfl (by omega) | exact rEqlF rfl rfl rfl (by omega) | exact rEql rfl rfl rfl) ?_ | refine WL_skip rfl rfl rfl ?_
  refine WL_val rfl rfl rfl (by first | exact rPickTB rfl rfl rfl | exact rPickFB rfl rfl rfl | exact rPickB rfl rfl rfl rfl) ?_
  refine WL_val rfl rfl rfl (by first | exact rMoveB rfl rfl | exact rMove rfl) ?_
  first | refine WL_val rfl rfl rfl (by first | exact rFldN (off := 0) rfl (by kernel_rfl) rfl | exact rFld0 rfl (by kernel_rfl) rfl) ?_ | refine WL_skip rfl rfl rfl ?_
  first | refine WL_val rfl rfl rfl (by first | exact rLd (v := .slice _ _ _) rfl (by kernel_rfl) rfl (by first | exact hI.c0 rfl) | exact rLd rfl (by kernel_rfl) rfl (by first | exact hI.c0 rfl)) ?_ | refine WL_skip rfl rfl rfl ?_
  refine WL_call rfl rfl rfl (rCall (vs := [.slice _ _ _]) rfl Try.func6 rfl rfl rfl) ?_
  refine (commits_any _ _ _ _ _ _ hS).mono ?_
  rintro e w2 ⟨rfl, hp⟩
  rw [l4]
  refine ⟨_, rfl, ?_⟩
  replace hI := hI.pure hp
  first | refine WL_val rfl rfl rfl (by first | exact rMoveS rfl rfl | exact rMove rfl) ?_ | refine WL_skip rfl rfl rfl ?_
  first | refine WL_val rfl rfl rfl (rLen rfl Try.underlying23 rfl) ?_ | refine WL_skip rfl rfl rfl ?_
  first | refine WL_val rfl rfl rfl (by first | exact rEqlT rfl rfl rfl (by omega) | exact rEqlF rfl rfl rfl (by omega) | exact rEql rfl rfl rfl) ?_ | refine WL_skip rfl rfl rfl ?_
  refine WL_val rfl rfl rfl (by first | exact rPickTB rfl rfl rfl | exact rPickFB rfl rfl rfl | exact rPickB rfl rfl rfl rfl) ?_
  refine WL_val rfl rfl rfl (by first | exact rAsgnB rfl rfl | exact rAsgn rfl) ?_
  refine WL_nil ?_
  refine W_ret ?_
  exact ret1 2 (.inr rfl) rfl ⟨rfl, hP.trans hI.pu⟩
end Go.Proofs.Ytidnlnlmmnkgoaa
