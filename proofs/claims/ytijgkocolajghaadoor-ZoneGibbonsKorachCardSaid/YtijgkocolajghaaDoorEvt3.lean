/- event: checkOp. -/
import Derived.Test.YtijgkocolajghaaDoorEvt2
namespace Go.Proofs.YtijgkocolajghaaDoor
open Go.RowKit
set_option linter.unusedVariables false
set_option linter.unusedSimpArgs false
set_option maxHeartbeats 4000000 in
theorem checkOp_one (o0 o1 o2 o3 o4 o5 o6 o7 : Int) (A : Option Addr) (n c : Nat) (ah : List Op8) (D : Nat → Prop) (w0 : World) (h : OpsR w0 D (.slice A n c) ah) (hn40 : n ≤ 1000) :
    Calls Tryd.prog 33 #[.agg #[.int .i64 o0, .int .i64 o1, .int .i64 o2, .int .i64 o3, .int .i64 o4, .int .i64 o5, .int .i64 o6, .int .i64 o7], .slice A n c] w0 (OpPost ⟨o0, o1, o2, o3, o4, o5, o6, o7⟩ ah w0) := by
  obtain ⟨hn, hc1, hc2⟩ := h.len
  subst hn
  have hI := Inv.start (fun _ => False) w0
  refine calls_of_W (N := Tryd.f33.ntmps) Tryd.func33 rfl rfl rfl ?_
  refine W_seq ?_
  refine W_region ?_
  refine WL_box (u := .agg _) (vs := #[_, _, _, _, _, _, _, _]) hI rfl rfl rfl rfl rfl rfl ?_
  clear hI; rintro b2 w - - hI
  refine WL_val rfl rfl rfl (by first | exact rAsgnN rfl rfl | exact rAsgnE rfl rfl | exact rAsgn rfl) ?_
  refine WL_nil ?_
  refine W_seq ?_
  refine W_region ?_
  refine WL_val rfl rfl rfl (by first | exact rFldN (off := 7) rfl (by kernel_rfl) rfl | exact rFld (off := 7) rfl (by kernel_rfl) rfl) ?_
  refine WL_val rfl rfl rfl (by first | exact rLd (v := .int .i64 _) rfl (by kernel_rfl) rfl (by first | exact hI.c0 rfl) | exact rLd rfl (by kernel_rfl) rfl (by first | exact hI.c0 rfl)) ?_
  refine WL_val rfl rfl rfl (rEql rfl rfl rfl) ?_
  refine WL_val rfl rfl rfl (by first | exact rAsgnB rfl rfl | exact rAsgn rfl) ?_
  refine WL_nil ?_
  refine W_seq ?_
  refine W_block ?_
  cases ht : toldB o0 o1 [o3, o4, o5, o6, o7] with
  | false =>
    refine W_seq ?_
    refine W_region ?_
    refine WL_val rfl rfl rfl (by first | exact rFldN (off := 0) rfl (by kernel_rfl) rfl | exact rFld0 rfl (by kernel_rfl) rfl) ?_
    refine WL_val rfl rfl rfl (by first | exact rLd (v := .int .i64 _) rfl (by kernel_rfl) rfl (by first | exact hI.c0 rfl | exact hI.c1 rfl) | exact rLd rfl (by kernel_rfl) rfl (by first | exact hI.c0 rfl | exact hI.c1 rfl)) ?_
    refine WL_val rfl rfl rfl (by first | exact rFldN (off := 1) rfl (by kernel_rfl) rfl | exact rFld (off := 1) rfl (by kernel_rfl) rfl) ?_
    refine WL_val rfl rfl rfl (by first | exact rLd (v := .int .i64 _) rfl (by kernel_rfl) rfl (by first | exact hI.c0 rfl | exact hI.c1 rfl) | exact rLd rfl (by kernel_rfl) rfl (by first | exact hI.c0 rfl | exact hI.c1 rfl)) ?_
    refine WL_val rfl rfl rfl (by first | exact rFldN (off := 3) rfl (by kernel_rfl) rfl | exact rFld (off := 3) rfl (by kernel_rfl) rfl) ?_
    refine WL_val rfl rfl rfl (by first | exact rLd (v := .int .i64 _) rfl (by kernel_rfl) rfl (by first | exact hI.c0 rfl | exact hI.c1 rfl) | exact rLd rfl (by kernel_rfl) rfl (by first | exact hI.c0 rfl | exact hI.c1 rfl)) ?_
    refine WL_val rfl rfl rfl (by first | exact rFldN (off := 4) rfl (by kernel_rfl) rfl | exact rFld (off := 4) rfl (by kernel_rfl) rfl) ?_
    refine WL_val rfl rfl rfl (by first | exact rLd (v := .int .i64 _) rfl (by kernel_rfl) rfl (by first | exact hI.c0 rfl | exact hI.c1 rfl) | exact rLd rfl (by kernel_rfl) rfl (by first | exact hI.c0 rfl | exact hI.c1 rfl)) ?_
    refine WL_val rfl rfl rfl (by first | exact rFldN (off := 5) rfl (by kernel_rfl) rfl | exact rFld (off := 5) rfl (by kernel_rfl) rfl) ?_
    refine WL_val rfl rfl rfl (by first | exact rLd (v := .int .i64 _) rfl (by kernel_rfl) rfl (by first | exact hI.c0 rfl | exact hI.c1 rfl) | exact rLd rfl (by kernel_rfl) rfl (by first | exact hI.c0 rfl | exact hI.c1 rfl)) ?_
    refine WL_val rfl rfl rfl (by first | exact rFldN (off := 6) rfl (by kernel_rfl) rfl | exact rFld (off := 6) rfl (by kernel_rfl) rfl) ?_
    refine WL_val rfl rfl rfl (by first | exact rLd (v := .int .i64 _) rfl (by kernel_rfl) rfl (by first | exact hI.c0 rfl | exact hI.c1 rfl) | exact rLd rfl (by kernel_rfl) rfl (by first | exact hI.c0 rfl | exact hI.c1 rfl)) ?_
    refine WL_val rfl rfl rfl (by first | exact rFldN (off := 7) rfl (by kernel_rfl) rfl | exact rFld (off := 7) rfl (by kernel_rfl) rfl) ?_
    refine WL_val rfl rfl rfl (by first | exact rLd (v := .int .i64 _) rfl (by kernel_rfl) rfl (by first | exact hI.c0 rfl | exact hI.c1 rfl) | exact rLd rfl (by kernel_rfl) rfl (by first | exact hI.c0 rfl | exact hI.c1 rfl)) ?_
    refine WL_lit (vs := [_, _, _, _, _]) (qs := [(0, .int .i64 _), (1, .int .i64 _), (2, .int .i64 _), (3, .int .i64 _), (4, .int .i64 _)]) [.int .i64 0, .int .i64 0, .int .i64 0, .int .i64 0, .int .i64 0] [0, 1, 2, 3, 4] hI rfl rfl rfl rfl rfl rfl Tryd.underlying28 (fun _ => by kernel_rfl) ?_
    clear hI; rintro b30 w - - hI
    refine WL_call rfl rfl rfl (rCall (vs := [.int .i64 _, .int .i64 _, .slice _ _ _]) rfl Tryd.func45 rfl rfl rfl) ?_
    refine (told_any o0 o1 _ 5 5 [o3, o4, o5, o6, o7] _ _ (ints_lit hI.g0 rfl rfl (by omega)) rfl (by omega)).mono ?_
    rw [ht]
    rintro e w1 ⟨rfl, rfl⟩
    refine ⟨_, rfl, ?_⟩
    refine WL_val rfl rfl rfl (by first | exact rNotT rfl rfl | exact rNotF rfl rfl | exact rNot rfl rfl) ?_
    refine WL_val rfl rfl rfl (by first | exact rAsgnB rfl rfl | exact rAsgn rfl) ?_
    refine WL_nil ?_
    refine W_cond true rfl ?_
    refine W_seq ?_
    refine W_region ?_
    refine WL_val rfl rfl rfl (rIface rfl Tryd.underlying36 rfl rfl) ?_
    refine WL_val rfl rfl rfl (by first | exact rAsgnN rfl rfl | exact rAsgnE rfl rfl | exact rAsgn rfl) ?_
    refine WL_nil ?_
    refine W_ret ?_
    exact ret1 4 (.inr rfl) rfl (OpPost.bad (fun hh => by have := hh.1; rw [show toldB _ _ _ = false from ht] at this; cases this) hI.pu)
  | true =>
  refine W_seq ?_
  refine W_region ?_
  refine WL_val rfl rfl rfl (by first | exact rFldN (off := 0) rfl (by kernel_rfl) rfl | exact rFld0 rfl (by kernel_rfl) rfl) ?_
  refine WL_val rfl rfl rfl (by first | exact rLd (v := .int .i64 _) rfl (by kernel_rfl) rfl (by first | exact hI.c0 rfl | exact hI.c1 rfl) | exact rLd rfl (by kernel_rfl) rfl (by first | exact hI.c0 rfl | exact hI.c1 rfl)) ?_
  refine WL_val rfl rfl rfl (by first | exact rFldN (off := 1) rfl (by kernel_rfl) rfl | exact rFld (off := 1) rfl (by kernel_rfl) rfl) ?_
  refine WL_val rfl rfl rfl (by first | exact rLd (v := .int .i64 _) rfl (by kernel_rfl) rfl (by first | exact hI.c0 rfl | exact hI.c1 rfl) | exact rLd rfl (by kernel_rfl) rfl (by first | exact hI.c0 rfl | exact hI.c1 rfl)) ?_
  refine WL_val rfl rfl rfl (by first | exact rFldN (off := 3) rfl (by kernel_rfl) rfl | exact rFld (off := 3) rfl (by kernel_rfl) rfl) ?_
  refine WL_val rfl rfl rfl (by first | exact rLd (v := .int .i64 _) rfl (by kernel_rfl) rfl (by first | exact hI.c0 rfl | exact hI.c1 rfl) | exact rLd rfl (by kernel_rfl) rfl (by first | exact hI.c0 rfl | exact hI.c1 rfl)) ?_
  refine WL_val rfl rfl rfl (by first | exact rFldN (off := 4) rfl (by kernel_rfl) rfl | exact rFld (off := 4) rfl (by kernel_rfl) rfl) ?_
  refine WL_val rfl rfl rfl (by first | exact rLd (v := .int .i64 _) rfl (by kernel_rfl) rfl (by first | exact hI.c0 rfl | exact hI.c1 rfl) | exact rLd rfl (by kernel_rfl) rfl (by first | exact hI.c0 rfl | exact hI.c1 rfl)) ?_
  refine WL_val rfl rfl rfl (by first | exact rFldN (off := 5) rfl (by kernel_rfl) rfl | exact rFld (off := 5) rfl (by kernel_rfl) rfl) ?_
  refine WL_val rfl rfl rfl (by first | exact rLd (v := .int .i64 _) rfl (by kernel_rfl) rfl (by first | exact hI.c0 rfl | exact hI.c1 rfl) | exact rLd rfl (by kernel_rfl) rfl (by first | exact hI.c0 rfl | exact hI.c1 rfl)) ?_
  refine WL_val rfl rfl rfl (by first | exact rFldN (off := 6) rfl (by kernel_rfl) rfl | exact rFld (off := 6) rfl (by kernel_rfl) rfl) ?_
  refine WL_val rfl rfl rfl (by first | exact rLd (v := .int .i64 _) rfl (by kernel_rfl) rfl (by first | exact hI.c0 rfl | exact hI.c1 rfl) | exact rLd rfl (by kernel_rfl) rfl (by first | exact hI.c0 rfl | exact hI.c1 rfl)) ?_
  refine WL_val rfl rfl rfl (by first | exact rFldN (off := 7) rfl (by kernel_rfl) rfl | exact rFld (off := 7) rfl (by kernel_rfl) rfl) ?_
  refine WL_val rfl rfl rfl (by first | exact rLd (v := .int .i64 _) rfl (by kernel_rfl) rfl (by first | exact hI.c0 rfl | exact hI.c1 rfl) | exact rLd rfl (by kernel_rfl) rfl (by first | exact hI.c0 rfl | exact hI.c1 rfl)) ?_
  refine WL_lit (vs := [_, _, _, _, _]) (qs := [(0, .int .i64 _), (1, .int .i64 _), (2, .int .i64 _), (3, .int .i64 _), (4, .int .i64 _)]) [.int .i64 0, .int .i64 0, .int .i64 0, .int .i64 0, .int .i64 0] [0, 1, 2, 3, 4] hI rfl rfl rfl rfl rfl rfl Tryd.underlying28 (fun _ => by kernel_rfl) ?_
  clear hI; rintro b30 w - - hI
  refine WL_call rfl rfl rfl (rCall (vs := [.int .i64 _, .int .i64 _, .slice _ _ _]) rfl Tryd.func45 rfl rfl rfl) ?_
  refine (told_any o0 o1 _ 5 5 [o3, o4, o5, o6, o7] _ _ (ints_lit hI.g0 rfl rfl (by omega)) rfl (by omega)).mono ?_
  rw [ht]
  rintro e w1 ⟨rfl, rfl⟩
  refine ⟨_, rfl, ?_⟩
  refine WL_val rfl rfl rfl (by first | exact rNotT rfl rfl | exact rNotF rfl rfl | exact rNot rfl rfl) ?_
  refine WL_val rfl rfl rfl (by first | exact rAsgnB rfl rfl | exact rAsgn rfl) ?_
  refine WL_nil ?_
  refine W_cond false rfl ?_
  replace hI := hI.d0
  cases hkd : inB o2 1 12 with
  | false =>
    refine W_seq ?_
    refine W_region ?_
    refine WL_val rfl rfl rfl (by first | exact rFldN (off := 2) rfl (by kernel_rfl) rfl | exact rFld (off := 2) rfl (by kernel_rfl) rfl) ?_
    refine WL_val rfl rfl rfl (by first | exact rLd (v := .int .i64 _) rfl (by kernel_rfl) rfl (by first | exact hI.c0 rfl) | exact rLd rfl (by kernel_rfl) rfl (by first | exact hI.c0 rfl)) ?_
    refine WL_call rfl rfl rfl (rCall (vs := [.int .i64 _, .int .i64 _, .int .i64 _]) rfl Tryd.func46 rfl rfl rfl) ?_
    refine (ein_any o2 1 12 _).mono ?_
    rw [hkd]
    rintro e w1 ⟨rfl, rfl⟩
    refine ⟨_, rfl, ?_⟩
    refine WL_val rfl rfl rfl (by first | exact rNotT rfl rfl | exact rNotF rfl rfl | exact rNot rfl rfl) ?_
    refine WL_val rfl rfl rfl (by first | exact rAsgnB rfl rfl | exact rAsgn rfl) ?_
    refine WL_nil ?_
    refine W_cond true rfl ?_
    refine W_seq ?_
    refine W_region ?_
    refine WL_val rfl rfl rfl (rIface rfl Tryd.underlying36 rfl rfl) ?_
    refine WL_val rfl rfl rfl (by first | exact rAsgnN rfl rfl | exact rAsgnE rfl rfl | exact rAsgn rfl) ?_
    refine WL_nil ?_
    refine W_ret ?_
    exact ret1 4 (.inr rfl) rfl (OpPost.bad (fun hh => by have := hh.2.1; rw [show inB _ _ _ = false from hkd] at this; cases this) hI.pu)
  | true =>
  refine W_seq ?_
  refine W_region ?_
  refine WL_val rfl rfl rfl (by first | exact rFldN (off := 2) rfl (by kernel_rfl) rfl | exact rFld (off := 2) rfl (by kernel_rfl) rfl) ?_
  refine WL_val rfl rfl rfl (by first | exact rLd (v := .int .i64 _) rfl (by kernel_rfl) rfl (by first | exact hI.c0 rfl) | exact rLd rfl (by kernel_rfl) rfl (by first | exact hI.c0 rfl)) ?_
  refine WL_call rfl rfl rfl (rCall (vs := [.int .i64 _, .int .i64 _, .int .i64 _]) rfl Tryd.func46 rfl rfl rfl) ?_
  refine (ein_any o2 1 12 _).mono ?_
  rw [hkd]
  rintro e w1 ⟨rfl, rfl⟩
  refine ⟨_, rfl, ?_⟩
  refine WL_val rfl rfl rfl (by first | exact rNotT rfl rfl | exact rNotF rfl rfl | exact rNot rfl rfl) ?_
  refine WL_val rfl rfl rfl (by first | exact rAsgnB rfl rfl | exact rAsgn rfl) ?_
  refine WL_nil ?_
  refine W_cond false rfl ?_
  refine W_seq_cut (fun ρ w => ∃ bb : Bool, (bb = true ↔ ¬ ordOk ⟨o0, o1, o2, o3, o4, o5, o6, o7⟩ ah) ∧ Has ρ [(40, .bool bb), (1, .slice A ah.length c), (2, .pointer (some ⟨b2, 0, none⟩))] ∧ Inv (fun _ => False) w0 w [B b2 41 #[.int .i64 o0, .int .i64 o1, .int .i64 o2, .int .i64 o3, .int .i64 o4, .int .i64 o5, .int .i64 o6, .int .i64 o7]]) ?_ ?_
  · by_cases c1 : o6 < 0
    · refine W_seq ?_
      refine W_region ?_
      refine WL_val rfl rfl rfl (by first | exact rFldN (off := 6) rfl (by kernel_rfl) rfl | exact rFld (off := 6) rfl (by kernel_rfl) rfl) ?_
      refine WL_val rfl rfl rfl (by first | exact rLd (v := .int .i64 _) rfl (by kernel_rfl) rfl (by first | exact hI.c0 rfl) | exact rLd rfl (by kernel_rfl) rfl (by first | exact hI.c0 rfl)) ?_
      refine WL_val rfl rfl rfl (by first | exact rLssT rfl rfl rfl (by omega) | exact rLssF rfl rfl rfl (by omega) | exact rLss rfl rfl rfl) ?_
      refine WL_val rfl rfl rfl (by first | exact rAsgnB rfl rfl | exact rAsgn rfl) ?_
      refine WL_nil ?_
      refine W_cond true rfl ?_
      refine W_skip ?_
      exact ⟨true, by simp; exact fun hh => hh.1 c1, ⟨rfl, rfl, rfl, trivial⟩, hI⟩
    refine W_seq ?_
    refine W_region ?_
    refine WL_val rfl rfl rfl (by first | exact rFldN (off := 6) rfl (by kernel_rfl) rfl | exact rFld (off := 6) rfl (by kernel_rfl) rfl) ?_
    refine WL_val rfl rfl rfl (by first | exact rLd (v := .int .i64 _) rfl (by kernel_rfl) rfl (by first | exact hI.c0 rfl) | exact rLd rfl (by kernel_rfl) rfl (by first | exact hI.c0 rfl)) ?_
    refine WL_val rfl rfl rfl (by first | exact rLssT rfl rfl rfl (by omega) | exact rLssF rfl rfl rfl (by omega) | exact rLss rfl rfl rfl) ?_
    refine WL_val rfl rfl rfl (by first | exact rAsgnB rfl rfl | exact rAsgn rfl) ?_
    refine WL_nil ?_
    refine W_cond false rfl ?_
    obtain ⟨lb, hlb⟩ : ∃ lb : Bool, (lb = true ↔ (0 < ah.length ∧ o6 ≤ (oAt ah (ah.length - 1)).call)) := ⟨decide (0 < ah.length ∧ o6 ≤ (oAt ah (ah.length - 1)).call), by simp⟩
    refine W_seq_cut (fun ρ w => Has ρ [(40, .bool lb), (1, .slice A ah.length c), (2, .pointer (some ⟨b2, 0, none⟩)), (5, .bool (decide (o7 = -1)))] ∧ Inv (fun _ => False) w0 w [B b2 41 #[.int .i64 o0, .int .i64 o1, .int .i64 o2, .int .i64 o3, .int .i64 o4, .int .i64 o5, .int .i64 o6, .int .i64 o7]]) ?_ ?_
    · rcases Nat.eq_zero_or_pos ah.length with h0 | h0
      · have : lb = false := by
          cases lb
          · rfl
          · have := hlb.1 rfl; omega
        subst this
        refine W_draw (by kernel_rfl) ?_
        refine WA_inv (T := []) hI.drew ?_
        intro Sx hSx hXS
        replace hI := hI.drew
        refine WT_take 0 rfl rfl (by kernel_rfl) (hXS _ hI) rfl (fun W hW => have hI := hSx W hW; (by first | exact rMoveS rfl rfl | exact rMove rfl)) ?_
        refine WT_take 1 rfl rfl (by kernel_rfl) (hXS _ hI) rfl (fun W hW => have hI := hSx W hW; (rLen rfl Tryd.underlying22 rfl)) ?_
        refine WT_take 2 rfl rfl (by kernel_rfl) (hXS _ hI) rfl (fun W hW => have hI := hSx W hW; (by first | exact rGtrT rfl rfl rfl (by omega) | exact rGtrF rfl rfl rfl (by omega) | exact rGtr rfl rfl rfl)) ?_
        refine WT_take 3 rfl rfl (by kernel_rfl) (hXS _ hI) rfl (fun W hW => have hI := hSx W hW; (by first | exact rMoveB rfl rfl | exact rMove rfl)) ?_
        refine WT_skip 4 rfl rfl (by kernel_rfl) (hXS _ hI) rfl ?_
        refine WT_skip 5 rfl rfl (by kernel_rfl) (hXS _ hI) rfl ?_
        refine WT_skip 6 rfl rfl (by kernel_rfl) (hXS _ hI) rfl ?_
        refine WT_skip 7 rfl rfl (by kernel_rfl) (hXS _ hI) rfl ?_
        refine WT_skip 8 rfl rfl (by kernel_rfl) (hXS _ hI) rfl ?_
        refine WT_skip 9 rfl rfl (by kernel_rfl) (hXS _ hI) rfl ?_
        refine WT_skip 10 rfl rfl (by kernel_rfl) (hXS _ hI) rfl ?_
        refine WT_skip 11 rfl rfl (by kernel_rfl) (hXS _ hI) rfl ?_
        refine WT_skip 12 rfl rfl (by kernel_rfl) (hXS _ hI) rfl ?_
        refine WT_skip 13 rfl rfl (by kernel_rfl) (hXS _ hI) rfl ?_
        refine WT_take 14 rfl rfl (by kernel_rfl) (hXS _ hI) rfl (fun W hW => have hI := hSx W hW; (by first | exact rPickTB rfl rfl rfl | exact rPickFB rfl rfl rfl | exact rPickB rfl rfl rfl rfl)) ?_
        refine WT_take 15 rfl rfl (by kernel_rfl) (hXS _ hI) rfl (fun W hW => have hI := hSx W hW; (by first | exact rAsgnB rfl rfl | exact rAsgn rfl)) ?_
        refine WT_end (by kernel_rfl) ?_
        exact ⟨⟨rfl, rfl, rfl, rfl, trivial⟩, hI⟩
      · obtain ⟨ab, ao, rfl, hoc⟩ := h.at (show ah.length - 1 < ah.length by omega)
        have hcl := hoc 6 _ rfl
        by_cases hle : o6 ≤ (oAt ah (ah.length - 1)).call
        · have : lb = true := hlb.2 ⟨h0, hle⟩
          subst this
          refine W_draw (by kernel_rfl) ?_
          refine WA_inv (T := []) hI.drew ?_
          intro Sx hSx hXS
          replace hI := hI.drew
          refine WT_take 0 rfl rfl (by kernel_rfl) (hXS _ hI) rfl (fun W hW => have hI := hSx W hW; (by first | exact rMoveS rfl rfl | exact rMove rfl)) ?_
          refine WT_take 1 rfl rfl (by kernel_rfl) (hXS _ hI) rfl (fun W hW => have hI := hSx W hW; (rLen rfl Tryd.underlying22 rfl)) ?_
          refine WT_take 2 rfl rfl (by kernel_rfl) (hXS _ hI) rfl (fun W hW => have hI := hSx W hW; (by first | exact rGtrT rfl rfl rfl (by omega) | exact rGtrF rfl rfl rfl (by omega) | exact rGtr rfl rfl rfl)) ?_
          refine WT_take 3 rfl rfl (by kernel_rfl) (hXS _ hI) rfl (fun W hW => have hI := hSx W hW; (by first | exact rMoveB rfl rfl | exact rMove rfl)) ?_
          first | refine WT_take 4 rfl rfl (by kernel_rfl) (hXS _ hI) rfl (fun W hW => have hI := hSx W hW; (by first | exact rFldN (off := 6) rfl (by kernel_rfl) rfl | exact rFld (off := 6) rfl (by kernel_rfl) rfl)) ?_ | refine WT_skip 4 rfl rfl (by kernel_rfl) (hXS _ hI) rfl ?_
          first | refine WT_take 5 rfl rfl (by kernel_rfl) (hXS _ hI) rfl (fun W hW => have hI := hSx W hW; (by first | exact rLd (v := .int .i64 _) rfl (by kernel_rfl) rfl (by first | exact hI.c0 rfl | exact hI.oldp hcl | exact hcl) | exact rLd rfl (by kernel_rfl) rfl (by first | exact hI.c0 rfl | exact hI.oldp hcl | exact hcl))) ?_ | refine WT_skip 5 rfl rfl (by kernel_rfl) (hXS _ hI) rfl ?_
          first | refine WT_take 6 rfl rfl (by kernel_rfl) (hXS _ hI) rfl (fun W hW => have hI := hSx W hW; (by first | exact rMoveS rfl rfl | exact rMove rfl)) ?_ | refine WT_skip 6 rfl rfl (by kernel_rfl) (hXS _ hI) rfl ?_
          first | refine WT_take 7 rfl rfl (by kernel_rfl) (hXS _ hI) rfl (fun W hW => have hI := hSx W hW; (by first | exact rMoveS rfl rfl | exact rMove rfl)) ?_ | refine WT_skip 7 rfl rfl (by kernel_rfl) (hXS _ hI) rfl ?_
          first | refine WT_take 8 rfl rfl (by kernel_rfl) (hXS _ hI) rfl (fun W hW => have hI := hSx W hW; (rLen rfl Tryd.underlying22 rfl)) ?_ | refine WT_skip 8 rfl rfl (by kernel_rfl) (hXS _ hI) rfl ?_
          first | refine WT_take 9 rfl rfl (by kernel_rfl) (hXS _ hI) rfl (fun W hW => have hI := hSx W hW; (rDecN (a := ah.length) (b := 1) rfl rfl rfl (by omega) (by omega))) ?_ | refine WT_skip 9 rfl rfl (by kernel_rfl) (hXS _ hI) rfl ?_
          first | refine WT_take 10 rfl rfl (by kernel_rfl) (hXS _ hI) rfl (fun W hW => have hI := hSx W hW; (rIdx (sz := 8) (i := ah.length - 1) rfl Tryd.underlying22 (by kernel_rfl) rfl rfl (by omega))) ?_ | refine WT_skip 10 rfl rfl (by kernel_rfl) (hXS _ hI) rfl ?_
          first | refine WT_take 11 rfl rfl (by kernel_rfl) (hXS _ hI) rfl (fun W hW => have hI := hSx W hW; (by first | exact rFldN (off := 6) rfl (by kernel_rfl) rfl | exact rFld (off := 6) rfl (by kernel_rfl) rfl)) ?_ | refine WT_skip 11 rfl rfl (by kernel_rfl) (hXS _ hI) rfl ?_
          first | refine WT_take 12 rfl rfl (by kernel_rfl) (hXS _ hI) rfl (fun W hW => have hI := hSx W hW; (by first | exact rLd (v := .int .i64 _) rfl (by kernel_rfl) rfl (by first | exact hI.c0 rfl | exact hI.oldp hcl | exact hcl) | exact rLd rfl (by kernel_rfl) rfl (by first | exact hI.c0 rfl | exact hI.oldp hcl | exact hcl))) ?_ | refine WT_skip 12 rfl rfl (by kernel_rfl) (hXS _ hI) rfl ?_
          first | refine WT_take 13 rfl rfl (by kernel_rfl) (hXS _ hI) rfl (fun W hW => have hI := hSx W hW; (by first | exact rLeqT rfl rfl rfl (by omega) | exact rLeqF rfl rfl rfl (by omega) | exact rLeq rfl rfl rfl)) ?_ | refine WT_skip 13 rfl rfl (by kernel_rfl) (hXS _ hI) rfl ?_
          refine WT_take 14 rfl rfl (by kernel_rfl) (hXS _ hI) rfl (fun W hW => have hI := hSx W hW; (by first | exact rPickTB rfl rfl rfl | exact rPickFB rfl rfl rfl | exact rPickB rfl rfl rfl rfl)) ?_
          refine WT_take 15 rfl rfl (by kernel_rfl) (hXS _ hI) rfl (fun W hW => have hI := hSx W hW; (by first | exact rAsgnB rfl rfl | exact rAsgn rfl)) ?_
          refine WT_end (by kernel_rfl) ?_
          exact ⟨⟨rfl, rfl, rfl, rfl, trivial⟩, hI⟩
        · have : lb = false := by
            cases lb
            · rfl
            · exact absurd (hlb.1 rfl).2 hle
          subst this
          refine W_draw (by kernel_rfl) ?_
          refine WA_inv (T := []) hI.drew ?_
          intro Sx hSx hXS
          replace hI := hI.drew
          refine WT_take 0 rfl rfl (by kernel_rfl) (hXS _ hI) rfl (fun W hW => have hI := hSx W hW; (by first | exact rMoveS rfl rfl | exact rMove rfl)) ?_
          refine WT_take 1 rfl rfl (by kernel_rfl) (hXS _ hI) rfl (fun W hW => have hI := hSx W hW; (rLen rfl Tryd.underlying22 rfl)) ?_
          refine WT_take 2 rfl rfl (by kernel_rfl) (hXS _ hI) rfl (fun W hW => have hI := hSx W hW; (by first | exact rGtrT rfl rfl rfl (by omega) | exact rGtrF rfl rfl rfl (by omega) | exact rGtr rfl rfl rfl)) ?_
          refine WT_take 3 rfl rfl (by kernel_rfl) (hXS _ hI) rfl (fun W hW => have hI := hSx W hW; (by first | exact rMoveB rfl rfl | exact rMove rfl)) ?_
          first | refine WT_take 4 rfl rfl (by kernel_rfl) (hXS _ hI) rfl (fun W hW => have hI := hSx W hW; (by first | exact rFldN (off := 6) rfl (by kernel_rfl) rfl | exact rFld (off := 6) rfl (by kernel_rfl) rfl)) ?_ | refine WT_skip 4 rfl rfl (by kernel_rfl) (hXS _ hI) rfl ?_
          first | refine WT_take 5 rfl rfl (by kernel_rfl) (hXS _ hI) rfl (fun W hW => have hI := hSx W hW; (by first | exact rLd (v := .int .i64 _) rfl (by kernel_rfl) rfl (by first | exact hI.c0 rfl | exact hI.oldp hcl | exact hcl) | exact rLd rfl (by kernel_rfl) rfl (by first | exact hI.c0 rfl | exact hI.oldp hcl | exact hcl))) ?_ | refine WT_skip 5 rfl rfl (by kernel_rfl) (hXS _ hI) rfl ?_
          first | refine WT_take 6 rfl rfl (by kernel_rfl) (hXS _ hI) rfl (fun W hW => have hI := hSx W hW; (by first | exact rMoveS rfl rfl | exact rMove rfl)) ?_ | refine WT_skip 6 rfl rfl (by kernel_rfl) (hXS _ hI) rfl ?_
          first | refine WT_take 7 rfl rfl (by kernel_rfl) (hXS _ hI) rfl (fun W hW => have hI := hSx W hW; (by first | exact rMoveS rfl rfl | exact rMove rfl)) ?_ | refine WT_skip 7 rfl rfl (by kernel_rfl) (hXS _ hI) rfl ?_
          first | refine WT_take 8 rfl rfl (by kernel_rfl) (hXS _ hI) rfl (fun W hW => have hI := hSx W hW; (rLen rfl Tryd.underlying22 rfl)) ?_ | refine WT_skip 8 rfl rfl (by kernel_rfl) (hXS _ hI) rfl ?_
          first | refine WT_take 9 rfl rfl (by kernel_rfl) (hXS _ hI) rfl (fun W hW => have hI := hSx W hW; (rDecN (a := ah.length) (b := 1) rfl rfl rfl (by omega) (by omega))) ?_ | refine WT_skip 9 rfl rfl (by kernel_rfl) (hXS _ hI) rfl ?_
          first | refine WT_take 10 rfl rfl (by kernel_rfl) (hXS _ hI) rfl (fun W hW => have hI := hSx W hW; (rIdx (sz := 8) (i := ah.length - 1) rfl Tryd.underlying22 (by kernel_rfl) rfl rfl (by omega))) ?_ | refine WT_skip 10 rfl rfl (by kernel_rfl) (hXS _ hI) rfl ?_
          first | refine WT_take 11 rfl rfl (by kernel_rfl) (hXS _ hI) rfl (fun W hW => have hI := hSx W hW; (by first | exact rFldN (off := 6) rfl (by kernel_rfl) rfl | exact rFld (off := 6) rfl (by kernel_rfl) rfl)) ?_ | refine WT_skip 11 rfl rfl (by kernel_rfl) (hXS _ hI) rfl ?_
          first | refine WT_take 12 rfl rfl (by kernel_rfl) (hXS _ hI) rfl (fun W hW => have hI := hSx W hW; (by first | exact rLd (v := .int .i64 _) rfl (by kernel_rfl) rfl (by first | exact hI.c0 rfl | exact hI.oldp hcl | exact hcl) | exact rLd rfl (by kernel_rfl) rfl (by first | exact hI.c0 rfl | exact hI.oldp hcl | exact hcl))) ?_ | refine WT_skip 12 rfl rfl (by kernel_rfl) (hXS _ hI) rfl ?_
          first | refine WT_take 13 rfl rfl (by kernel_rfl) (hXS _ hI) rfl (fun W hW => have hI := hSx W hW; (by first | exact rLeqT rfl rfl rfl (by omega) | exact rLeqF rfl rfl rfl (by omega) | exact rLeq rfl rfl rfl)) ?_ | refine WT_skip 13 rfl rfl (by kernel_rfl) (hXS _ hI) rfl ?_
          refine WT_take 14 rfl rfl (by kernel_rfl) (hXS _ hI) rfl (fun W hW => have hI := hSx W hW; (by first | exact rPickTB rfl rfl rfl | exact rPickFB rfl rfl rfl | exact rPickB rfl rfl rfl rfl)) ?_
          refine WT_take 15 rfl rfl (by kernel_rfl) (hXS _ hI) rfl (fun W hW => have hI := hSx W hW; (by first | exact rAsgnB rfl rfl | exact rAsgn rfl)) ?_
          refine WT_end (by kernel_rfl) ?_
          exact ⟨⟨rfl, rfl, rfl, rfl, trivial⟩, hI⟩
    clear hI
    rintro ρ w ⟨hH, hI⟩
    obtain ⟨σ, rfl⟩ := hH.open
    cases lb with
    | true =>
      refine W_cond true rfl ?_
      refine W_skip ?_
      exact ⟨true, by simp; exact fun hh => hh.2.1 (hlb.1 rfl), ⟨rfl, rfl, rfl, trivial⟩, hI⟩
    | false =>
    have hnl : ¬ (0 < ah.length ∧ o6 ≤ (oAt ah (ah.length - 1)).call) := fun hh => by have := hlb.2 hh; cases this
    refine W_cond false rfl ?_
    by_cases hu : o7 = -1
    · rw [decide_eq_true hu]
      refine W_seq ?_
      refine W_region ?_
      refine WL_val rfl rfl rfl (by first | exact rMoveB rfl rfl | exact rMove rfl) ?_
      refine WL_val rfl rfl rfl (by first | exact rNotT rfl rfl | exact rNotF rfl rfl | exact rNot rfl rfl) ?_
      refine WL_val rfl rfl rfl (by first | exact rMoveB rfl rfl | exact rMove rfl) ?_
      first | refine WL_val rfl rfl rfl (by first | exact rFldN (off := 7) rfl (by kernel_rfl) rfl | exact rFld (off := 7) rfl (by kernel_rfl) rfl) ?_ | refine WL_skip rfl rfl rfl ?_
      first | refine WL_val rfl rfl rfl (by first | exact rLd (v := .int .i64 _) rfl (by kernel_rfl) rfl (by first | exact hI.c0 rfl) | exact rLd rfl (by kernel_rfl) rfl (by first | exact hI.c0 rfl)) ?_ | refine WL_skip rfl rfl rfl ?_
      first | refine WL_val rfl rfl rfl (by first | exact rFldN (off := 6) rfl (by kernel_rfl) rfl | exact rFld (off := 6) rfl (by kernel_rfl) rfl) ?_ | refine WL_skip rfl rfl rfl ?_
      first | refine WL_val rfl rfl rfl (by first | exact rLd (v := .int .i64 _) rfl (by kernel_rfl) rfl (by first | exact hI.c0 rfl) | exact rLd rfl (by kernel_rfl) rfl (by first | exact hI.c0 rfl)) ?_ | refine WL_skip rfl rfl rfl ?_
      first | refine WL_val rfl rfl rfl (by first | exact rLeqT rfl rfl rfl (by omega) | exact rLeqF rfl rfl rfl (by omega) | exact rLeq rfl rfl rfl) ?_ | refine WL_skip rfl rfl rfl ?_
      refine WL_val rfl rfl rfl (by first | exact rPickTB rfl rfl rfl | exact rPickFB rfl rfl rfl | exact rPickB rfl rfl rfl rfl) ?_
      refine WL_val rfl rfl rfl (by first | exact rAsgnB rfl rfl | exact rAsgn rfl) ?_
      refine WL_nil ?_
      refine W_cond false rfl ?_
      by_cases hres : o5 = 0
      · refine W_region ?_
        refine WL_val rfl rfl rfl (by first | exact rMoveB rfl rfl | exact rMove rfl) ?_
        refine WL_val rfl rfl rfl (by first | exact rMoveB rfl rfl | exact rMove rfl) ?_
        first | refine WL_val rfl rfl rfl (by first | exact rFldN (off := 5) rfl (by kernel_rfl) rfl | exact rFld (off := 5) rfl (by kernel_rfl) rfl) ?_ | refine WL_skip rfl rfl rfl ?_
        first | refine WL_val rfl rfl rfl (by first | exact rLd (v := .int .i64 _) rfl (by kernel_rfl) rfl (by first | exact hI.c0 rfl) | exact rLd rfl (by kernel_rfl) rfl (by first | exact hI.c0 rfl)) ?_ | refine WL_skip rfl rfl rfl ?_
        first | refine WL_val rfl rfl rfl (by first | exact rNeqT rfl rfl rfl (by omega) | exact rNeqF rfl rfl rfl (by omega) | exact rNeq rfl rfl rfl) ?_ | refine WL_skip rfl rfl rfl ?_
        refine WL_val rfl rfl rfl (by first | exact rPickTB rfl rfl rfl | exact rPickFB rfl rfl rfl | exact rPickB rfl rfl rfl rfl) ?_
        refine WL_val rfl rfl rfl (by first | exact rAsgnB rfl rfl | exact rAsgn rfl) ?_
        refine WL_nil ?_
        exact ⟨false, by simp; exact ⟨by exact c1, hnl, fun hh => hh.1 hu, fun hh => hh.2 hres⟩, ⟨rfl, rfl, rfl, trivial⟩, hI⟩
      · refine W_region ?_
        refine WL_val rfl rfl rfl (by first | exact rMoveB rfl rfl | exact rMove rfl) ?_
        refine WL_val rfl rfl rfl (by first | exact rMoveB rfl rfl | exact rMove rfl) ?_
        first | refine WL_val rfl rfl rfl (by first | exact rFldN (off := 5) rfl (by kernel_rfl) rfl | exact rFld (off := 5) rfl (by kernel_rfl) rfl) ?_ | refine WL_skip rfl rfl rfl ?_
        first | refine WL_val rfl rfl rfl (by first | exact rLd (v := .int .i64 _) rfl (by kernel_rfl) rfl (by first | exact hI.c0 rfl) | exact rLd rfl (by kernel_rfl) rfl (by first | exact hI.c0 rfl)) ?_ | refine WL_skip rfl rfl rfl ?_
        first | refine WL_val rfl rfl rfl (by first | exact rNeqT rfl rfl rfl (by omega) | exact rNeqF rfl rfl rfl (by omega) | exact rNeq rfl rfl rfl) ?_ | refine WL_skip rfl rfl rfl ?_
        refine WL_val rfl rfl rfl (by first | exact rPickTB rfl rfl rfl | exact rPickFB rfl rfl rfl | exact rPickB rfl rfl rfl rfl) ?_
        refine WL_val rfl rfl rfl (by first | exact rAsgnB rfl rfl | exact rAsgn rfl) ?_
        refine WL_nil ?_
        exact ⟨true, by simp; exact fun hh => hh.2.2.2 ⟨hu, hres⟩, ⟨rfl, rfl, rfl, trivial⟩, hI⟩
    · rw [decide_eq_false hu]
      by_cases hrc : o7 ≤ o6
      · refine W_seq ?_
        refine W_region ?_
        refine WL_val rfl rfl rfl (by first | exact rMoveB rfl rfl | exact rMove rfl) ?_
        refine WL_val rfl rfl rfl (by first | exact rNotT rfl rfl | exact rNotF rfl rfl | exact rNot rfl rfl) ?_
        refine WL_val rfl rfl rfl (by first | exact rMoveB rfl rfl | exact rMove rfl) ?_
        first | refine WL_val rfl rfl rfl (by first | exact rFldN (off := 7) rfl (by kernel_rfl) rfl | exact rFld (off := 7) rfl (by kernel_rfl) rfl) ?_ | refine WL_skip rfl rfl rfl ?_
        first | refine WL_val rfl rfl rfl (by first | exact rLd (v := .int .i64 _) rfl (by kernel_rfl) rfl (by first | exact hI.c0 rfl) | exact rLd rfl (by kernel_rfl) rfl (by first | exact hI.c0 rfl)) ?_ | refine WL_skip rfl rfl rfl ?_
        first | refine WL_val rfl rfl rfl (by first | exact rFldN (off := 6) rfl (by kernel_rfl) rfl | exact rFld (off := 6) rfl (by kernel_rfl) rfl) ?_ | refine WL_skip rfl rfl rfl ?_
        first | refine WL_val rfl rfl rfl (by first | exact rLd (v := .int .i64 _) rfl (by kernel_rfl) rfl (by first | exact hI.c0 rfl) | exact rLd rfl (by kernel_rfl) rfl (by first | exact hI.c0 rfl)) ?_ | refine WL_skip rfl rfl rfl ?_
        first | refine WL_val rfl rfl rfl (by first | exact rLeqT rfl rfl rfl (by omega) | exact rLeqF rfl rfl rfl (by omega) | exact rLeq rfl rfl rfl) ?_ | refine WL_skip rfl rfl rfl ?_
        refine WL_val rfl rfl rfl (by first | exact rPickTB rfl rfl rfl | exact rPickFB rfl rfl rfl | exact rPickB rfl rfl rfl rfl) ?_
        refine WL_val rfl rfl rfl (by first | exact rAsgnB rfl rfl | exact rAsgn rfl) ?_
        refine WL_nil ?_
        refine W_cond true rfl ?_
        refine W_skip ?_
        exact ⟨true, by simp; exact fun hh => hh.2.2.1 ⟨hu, hrc⟩, ⟨rfl, rfl, rfl, trivial⟩, hI⟩
      · refine W_seq ?_
        refine W_region ?_
        refine WL_val rfl rfl rfl (by first | exact rMoveB rfl rfl | exact rMove rfl) ?_
        refine WL_val rfl rfl rfl (by first | exact rNotT rfl rfl | exact rNotF rfl rfl | exact rNot rfl rfl) ?_
        refine WL_val rfl rfl rfl (by first | exact rMoveB rfl rfl | exact rMove rfl) ?_
        first | refine WL_val rfl rfl rfl (by first | exact rFldN (off := 7) rfl (by kernel_rfl) rfl | exact rFld (off := 7) rfl (by kernel_rfl) rfl) ?_ | refine WL_skip rfl rfl rfl ?_
        first | refine WL_val rfl rfl rfl (by first | exact rLd (v := .int .i64 _) rfl (by kernel_rfl) rfl (by first | exact hI.c0 rfl) | exact rLd rfl (by kernel_rfl) rfl (by first | exact hI.c0 rfl)) ?_ | refine WL_skip rfl rfl rfl ?_
        first | refine WL_val rfl rfl rfl (by first | exact rFldN (off := 6) rfl (by kernel_rfl) rfl | exact rFld (off := 6) rfl (by kernel_rfl) rfl) ?_ | refine WL_skip rfl rfl rfl ?_
        first | refine WL_val rfl rfl rfl (by first | exact rLd (v := .int .i64 _) rfl (by kernel_rfl) rfl (by first | exact hI.c0 rfl) | exact rLd rfl (by kernel_rfl) rfl (by first | exact hI.c0 rfl)) ?_ | refine WL_skip rfl rfl rfl ?_
        first | refine WL_val rfl rfl rfl (by first | exact rLeqT rfl rfl rfl (by omega) | exact rLeqF rfl rfl rfl (by omega) | exact rLeq rfl rfl rfl) ?_ | refine WL_skip rfl rfl rfl ?_
        refine WL_val rfl rfl rfl (by first | exact rPickTB rfl rfl rfl | exact rPickFB rfl rfl rfl | exact rPickB rfl rfl rfl rfl) ?_
        refine WL_val rfl rfl rfl (by first | exact rAsgnB rfl rfl | exact rAsgn rfl) ?_
        refine WL_nil ?_
        refine W_cond false rfl ?_
        refine W_region ?_
        refine WL_val rfl rfl rfl (by first | exact rMoveB rfl rfl | exact rMove rfl) ?_
        refine WL_val rfl rfl rfl (by first | exact rMoveB rfl rfl | exact rMove rfl) ?_
        first | refine WL_val rfl rfl rfl (by first | exact rFldN (off := 5) rfl (by kernel_rfl) rfl | exact rFld (off := 5) rfl (by kernel_rfl) rfl) ?_ | refine WL_skip rfl rfl rfl ?_
        first | refine WL_val rfl rfl rfl (by first | exact rLd (v := .int .i64 _) rfl (by kernel_rfl) rfl (by first | exact hI.c0 rfl) | exact rLd rfl (by kernel_rfl) rfl (by first | exact hI.c0 rfl)) ?_ | refine WL_skip rfl rfl rfl ?_
        first | refine WL_val rfl rfl rfl (by first | exact rNeqT rfl rfl rfl (by omega) | exact rNeqF rfl rfl rfl (by omega) | exact rNeq rfl rfl rfl) ?_ | refine WL_skip rfl rfl rfl ?_
        refine WL_val rfl rfl rfl (by first | exact rPickTB rfl rfl rfl | exact rPickFB rfl rfl rfl | exact rPickB rfl rfl rfl rfl) ?_
        refine WL_val rfl rfl rfl (by first | exact rAsgnB rfl rfl | exact rAsgn rfl) ?_
        refine WL_nil ?_
        exact ⟨false, by simp; exact ⟨by exact c1, hnl, fun hh => hrc hh.2, fun hh => hu hh.1⟩, ⟨rfl, rfl, rfl, trivial⟩, hI⟩
  clear hI
  rintro ρ w ⟨bb, hbb, hH, hI⟩
  obtain ⟨σ, rfl⟩ := hH.open
  cases bb with
  | true =>
    refine W_cond true rfl ?_
    refine W_seq ?_
    refine W_region ?_
    refine WL_val rfl rfl rfl (rIface rfl Tryd.underlying36 rfl rfl) ?_
    refine WL_val rfl rfl rfl (by first | exact rAsgnN rfl rfl | exact rAsgnE rfl rfl | exact rAsgn rfl) ?_
    refine WL_nil ?_
    refine W_ret ?_
    exact ret1 4 (.inr rfl) rfl (OpPost.bad (fun hh => hbb.1 rfl hh.2.2.1) hI.pu)
  | false =>
  have hord : ordOk ⟨o0, o1, o2, o3, o4, o5, o6, o7⟩ ah := by
    rcases Classical.em (ordOk ⟨o0, o1, o2, o3, o4, o5, o6, o7⟩ ah) with h1 | h1
    · exact h1
    · have := hbb.2 h1; cases this
  refine W_cond false rfl ?_
  refine W_skip ?_
  refine W_seq_cut (fun ρ w => (∀ k, k < ah.length → ¬ twiceAt ⟨o0, o1, o2, o3, o4, o5, o6, o7⟩ (oAt ah k).call ∧ ¬ twiceAt ⟨o0, o1, o2, o3, o4, o5, o6, o7⟩ (oAt ah k).ret) ∧ Has ρ [(1, .slice A ah.length c), (2, .pointer (some ⟨b2, 0, none⟩))] ∧ Inv (fun _ => False) w0 w [B b2 41 #[.int .i64 o0, .int .i64 o1, .int .i64 o2, .int .i64 o3, .int .i64 o4, .int .i64 o5, .int .i64 o6, .int .i64 o7]]) ?_ ?_
  · refine W_seq ?_
    refine W_region ?_
    refine WL_val rfl rfl rfl (by first | exact rMoveS rfl rfl | exact rMove rfl) ?_
    refine WL_val rfl rfl rfl (rLen rfl Tryd.underlying22 rfl) ?_
    refine WL_val rfl rfl rfl (by first | exact rMoveI rfl rfl | exact rMove rfl) ?_
    refine WL_nil ?_
    refine W_block ?_
    refine W_loopN (fun mu ρ w => ∃ k : Nat, mu = ah.length - k ∧ k ≤ ah.length ∧ (∀ j, j < k → ¬ twiceAt ⟨o0, o1, o2, o3, o4, o5, o6, o7⟩ (oAt ah j).call ∧ ¬ twiceAt ⟨o0, o1, o2, o3, o4, o5, o6, o7⟩ (oAt ah j).ret) ∧ Has ρ [(77, .int .i64 (k : Int)), (76, .int .i64 (ah.length : Int)), (75, .slice A ah.length c), (1, .slice A ah.length c), (2, .pointer (some ⟨b2, 0, none⟩))] ∧ Inv (fun _ => False) w0 w [B b2 41 #[.int .i64 o0, .int .i64 o1, .int .i64 o2, .int .i64 o3, .int .i64 o4, .int .i64 o5, .int .i64 o6, .int .i64 o7]]) ah.length
      ⟨0, rfl, by omega, fun j hj => by omega, ⟨rfl, rfl, rfl, rfl, rfl, trivial⟩, hI⟩ ?_
    clear hI
    rintro mu ρ w ⟨k, rfl, hk, hall, hH, hI⟩
    obtain ⟨σ, rfl⟩ := hH.open
    by_cases hkl : k < ah.length
    rotate_left
    · obtain rfl : k = ah.length := by omega
      refine W_seq ?_
      refine W_region ?_
      refine WL_val rfl rfl rfl (by first | exact rLssT rfl rfl rfl (by omega) | exact rLssF rfl rfl rfl (by omega) | exact rLss rfl rfl rfl) ?_
      refine WL_nil ?_
      refine W_seq ?_
      refine W_cond false rfl ?_
      refine W_exit ?_
      exact ⟨hall, ⟨rfl, rfl, trivial⟩, hI⟩
    obtain ⟨ab, ao, rfl, hoc⟩ := h.at hkl
    generalize hpk : oAt ah k = pk at hoc
    obtain ⟨p0, p1, p2, p3, p4, p5, p6, p7⟩ := pk
    refine W_seq ?_
    refine W_region ?_
    refine WL_val rfl rfl rfl (by first | exact rLssT rfl rfl rfl (by omega) | exact rLssF rfl rfl rfl (by omega) | exact rLss rfl rfl rfl) ?_
    refine WL_nil ?_
    refine W_seq ?_
    refine W_cond true rfl ?_
    refine W_skip ?_
    refine W_seq_cut (fun ρ w => (¬ twiceAt ⟨o0, o1, o2, o3, o4, o5, o6, o7⟩ p6 ∧ ¬ twiceAt ⟨o0, o1, o2, o3, o4, o5, o6, o7⟩ p7) ∧ Has ρ [(77, .int .i64 (k : Int)), (76, .int .i64 (ah.length : Int)), (75, .slice (some ⟨ab, ao, none⟩) ah.length c), (1, .slice (some ⟨ab, ao, none⟩) ah.length c), (2, .pointer (some ⟨b2, 0, none⟩))] ∧ Inv (fun _ => False) w0 w [B b2 41 #[.int .i64 o0, .int .i64 o1, .int .i64 o2, .int .i64 o3, .int .i64 o4, .int .i64 o5, .int .i64 o6, .int .i64 o7]]) ?_ ?_
    rotate_left
    · clear hI
      rintro ρ w ⟨hno, hH, hI⟩
      obtain ⟨σ, rfl⟩ := hH.open
      refine W_region ?_
      refine WL_val rfl rfl rfl (by first | exact rInc rfl rfl rfl (by omega) | exact rAdd rfl rfl rfl (by omega) | exact rAddW rfl rfl rfl) ?_
      refine WL_val rfl rfl rfl (by first | exact rMoveI rfl rfl | exact rMove rfl) ?_
      refine WL_nil ?_
      refine ⟨ah.length - (k + 1), by omega, k + 1, rfl, by omega, fun j hj => ?_, ⟨rfl, rfl, rfl, rfl, rfl, trivial⟩, hI⟩
      rcases Nat.lt_or_ge j k with h1 | h1
      · exact hall j h1
      · obtain rfl : j = k := by omega
        rw [hpk]; exact hno
    refine W_block ?_
    refine W_seq ?_
    refine W_region ?_
    refine WL_val rfl rfl rfl (rIdx (sz := 8) rfl Tryd.underlying22 (by kernel_rfl) rfl rfl (by omega)) ?_
    refine WL_val rfl rfl rfl (by first | exact rLdB (n := 8) rfl (by kernel_rfl) (by kernel_rfl) rfl rfl hI.g0 | exact rLdA (n := 8) rfl (by kernel_rfl) (by kernel_rfl) rfl (by rfl) (fun k u hk => hI.oldp (hoc k u hk)) | exact rLdA (n := 8) rfl (by kernel_rfl) (by kernel_rfl) rfl (by rfl) hoc) ?_
    refine WL_alloc (u := .agg #[.int .i64 0, .int .i64 0, .int .i64 0, .int .i64 0, .int .i64 0, .int .i64 0, .int .i64 0, .int .i64 0]) (vs := #[.int .i64 0, .int .i64 0, .int .i64 0, .int .i64 0, .int .i64 0, .int .i64 0, .int .i64 0, .int .i64 0]) hI rfl rfl rfl rfl (by kernel_rfl) rfl ?_
    clear hI; rintro b7 w - - hI
    first | refine WL_stw0 (u := .agg _) (vs := #[_, _, _, _, _, _, _, _]) (n := 8) hI rfl rfl rfl rfl rfl rfl (by kernel_rfl) rfl rfl rfl ?_
    clear hI; intro w hI
    refine WL_nil ?_
    simp only [opV] at hI
    refine W_seq ?_
    refine W_region ?_
    refine WL_val rfl rfl rfl (by first | exact rFldN (off := 6) rfl (by kernel_rfl) rfl | exact rFld (off := 6) rfl (by kernel_rfl) rfl) ?_
    refine WL_val rfl rfl rfl (by first | exact rLd (v := .int .i64 _) rfl (by kernel_rfl) rfl (by first | exact hI.c0 rfl | exact hI.c1 rfl) | exact rLd rfl (by kernel_rfl) rfl (by first | exact hI.c0 rfl | exact hI.c1 rfl)) ?_
    refine WL_val rfl rfl rfl (by first | exact rFldN (off := 7) rfl (by kernel_rfl) rfl | exact rFld (off := 7) rfl (by kernel_rfl) rfl) ?_
    refine WL_val rfl rfl rfl (by first | exact rLd (v := .int .i64 _) rfl (by kernel_rfl) rfl (by first | exact hI.c0 rfl | exact hI.c1 rfl) | exact rLd rfl (by kernel_rfl) rfl (by first | exact hI.c0 rfl | exact hI.c1 rfl)) ?_
    refine WL_lit (vs := [_, _]) (qs := [(0, .int .i64 _), (1, .int .i64 _)]) [.int .i64 0, .int .i64 0] [0, 1] hI rfl rfl rfl rfl rfl rfl Tryd.underlying28 (fun _ => by kernel_rfl) ?_
    clear hI; rintro b85 w - - hI
    refine WL_val rfl rfl rfl (rLen rfl Tryd.underlying28 rfl) ?_
    refine WL_val rfl rfl rfl (by first | exact rMoveI rfl rfl | exact rMove rfl) ?_
    refine WL_nil ?_
    refine W_block ?_
    refine W_loopN (fun mu ρ w => ∃ m : Nat, mu = 2 - m ∧ m ≤ 2 ∧ (0 < m → ¬ twiceAt ⟨o0, o1, o2, o3, o4, o5, o6, o7⟩ p6) ∧ (1 < m → ¬ twiceAt ⟨o0, o1, o2, o3, o4, o5, o6, o7⟩ p7) ∧ Has ρ [(87, .int .i64 (m : Int)), (86, .int .i64 2), (85, .slice (some ⟨b85, 0, none⟩) 2 2), (77, .int .i64 (k : Int)), (76, .int .i64 (ah.length : Int)), (75, .slice (some ⟨ab, ao, none⟩) ah.length c), (1, .slice (some ⟨ab, ao, none⟩) ah.length c), (2, .pointer (some ⟨b2, 0, none⟩))] ∧ Inv (fun _ => False) w0 w [B b85 3 #[.int .i64 p6, .int .i64 p7], B b2 41 #[.int .i64 o0, .int .i64 o1, .int .i64 o2, .int .i64 o3, .int .i64 o4, .int .i64 o5, .int .i64 o6, .int .i64 o7]]) 2
      ⟨0, rfl, by omega, fun h => by omega, fun h => by omega, ⟨rfl, rfl, rfl, rfl, rfl, rfl, rfl, rfl, trivial⟩, hI.d1⟩ ?_
    clear hI
    rintro mu ρ w ⟨m, rfl, hm, hm0, hm1, hH, hI⟩
    obtain ⟨σ, rfl⟩ := hH.open
    by_cases hm2 : m < 2
    rotate_left
    · obtain rfl : m = 2 := by omega
      refine W_seq ?_
      refine W_region ?_
      refine WL_val rfl rfl rfl (by first | exact rLssT rfl rfl rfl (by omega) | exact rLssF rfl rfl rfl (by omega) | exact rLss rfl rfl rfl) ?_
      refine WL_nil ?_
      refine W_seq ?_
      refine W_cond false rfl ?_
      refine W_exit ?_
      exact ⟨⟨hm0 (by omega), hm1 (by omega)⟩, ⟨rfl, rfl, rfl, rfl, rfl, trivial⟩, hI.d0⟩
    obtain ⟨z, hz, hzt⟩ : ∃ z : Int, (#[.int .i64 p6, .int .i64 p7] : Array Value)[m]? = some (.int .i64 z) ∧ (z = p6 ∧ m = 0 ∨ z = p7 ∧ m = 1) := by
      match m, hm2 with
      | 0, _ => exact ⟨p6, rfl, .inl ⟨rfl, rfl⟩⟩
      | 1, _ => exact ⟨p7, rfl, .inr ⟨rfl, rfl⟩⟩
    refine W_seq ?_
    refine W_region ?_
    refine WL_val rfl rfl rfl (by first | exact rLssT rfl rfl rfl (by omega) | exact rLssF rfl rfl rfl (by omega) | exact rLss rfl rfl rfl) ?_
    refine WL_nil ?_
    refine W_seq ?_
    refine W_cond true rfl ?_
    refine W_skip ?_
    refine W_seq ?_
    refine W_block ?_
    refine W_seq ?_
    refine W_region ?_
    refine WL_val rfl rfl rfl (by first | exact rIdx0 rfl Tryd.underlying28 (by kernel_rfl) rfl rfl rfl (by omega) | exact rIdx1 rfl Tryd.underlying28 (by kernel_rfl) rfl rfl (by omega)) ?_
    refine WL_val rfl rfl rfl (by first | exact rLd (v := .int .i64 _) rfl (by kernel_rfl) rfl (by first | exact (hI.c0 hz)) | exact rLd rfl (by kernel_rfl) rfl (by first | exact (hI.c0 hz))) ?_
    refine WL_val rfl rfl rfl (by first | exact rAsgnI rfl rfl | exact rAsgn rfl) ?_
    refine WL_nil ?_
    have hbadz : twiceAt ⟨o0, o1, o2, o3, o4, o5, o6, o7⟩ z → ¬ OkOp ⟨o0, o1, o2, o3, o4, o5, o6, o7⟩ ah := fun ht hh => by
      have := hh.2.2.2.1 k hkl
      rw [hpk] at this
      rcases hzt with ⟨rfl, _⟩ | ⟨rfl, _⟩
      · exact this.1 ht
      · exact this.2 ht
    have hgo : ¬ twiceAt ⟨o0, o1, o2, o3, o4, o5, o6, o7⟩ z → (0 < m + 1 → ¬ twiceAt ⟨o0, o1, o2, o3, o4, o5, o6, o7⟩ p6) ∧ (1 < m + 1 → ¬ twiceAt ⟨o0, o1, o2, o3, o4, o5, o6, o7⟩ p7) := fun hnt => by
      rcases hzt with ⟨rfl, rfl⟩ | ⟨rfl, rfl⟩
      · exact ⟨fun _ => hnt, fun h => by omega⟩
      · exact ⟨fun _ => hm0 (by omega), fun _ => hnt⟩
    by_cases z1 : z = -1
    · have hnt : ¬ twiceAt ⟨o0, o1, o2, o3, o4, o5, o6, o7⟩ z := fun ht => ht.1 z1
      refine W_seq ?_
      refine W_region ?_
      refine WL_val rfl rfl rfl (by first | exact rMoveI rfl rfl | exact rMove rfl) ?_
      refine WL_val rfl rfl rfl (by first | exact rNeqT rfl rfl rfl (by omega) | exact rNeqF rfl rfl rfl (by omega) | exact rNeq rfl rfl rfl) ?_
      refine WL_val rfl rfl rfl (by first | exact rMoveB rfl rfl | exact rMove rfl) ?_
      first | refine WL_val rfl rfl rfl (by first | exact rMoveI rfl rfl | exact rMove rfl) ?_ | refine WL_skip rfl rfl rfl ?_
      first | refine WL_val rfl rfl rfl (by first | exact rFldN (off := 6) rfl (by kernel_rfl) rfl | exact rFld (off := 6) rfl (by kernel_rfl) rfl) ?_ | refine WL_skip rfl rfl rfl ?_
      first | refine WL_val rfl rfl rfl (by first | exact rLd (v := .int .i64 _) rfl (by kernel_rfl) rfl (by first | exact hI.c0 rfl | exact hI.c1 rfl) | exact rLd rfl (by kernel_rfl) rfl (by first | exact hI.c0 rfl | exact hI.c1 rfl)) ?_ | refine WL_skip rfl rfl rfl ?_
      first | refine WL_val rfl rfl rfl (by first | exact rEqlT rfl rfl rfl (by omega) | exact rEqlF rfl rfl rfl (by omega) | exact rEql rfl rfl rfl) ?_ | refine WL_skip rfl rfl rfl ?_
      first | refine WL_val rfl rfl rfl (by first | exact rMoveB rfl rfl | exact rMove rfl) ?_ | refine WL_skip rfl rfl rfl ?_
      first | refine WL_val rfl rfl rfl (by first | exact rMoveI rfl rfl | exact rMove rfl) ?_ | refine WL_skip rfl rfl rfl ?_
      first | refine WL_val rfl rfl rfl (by first | exact rFldN (off := 7) rfl (by kernel_rfl) rfl | exact rFld (off := 7) rfl (by kernel_rfl) rfl) ?_ | refine WL_skip rfl rfl rfl ?_
      first | refine WL_val rfl rfl rfl (by first | exact rLd (v := .int .i64 _) rfl (by kernel_rfl) rfl (by first | exact hI.c0 rfl | exact hI.c1 rfl) | exact rLd rfl (by kernel_rfl) rfl (by first | exact hI.c0 rfl | exact hI.c1 rfl)) ?_ | refine WL_skip rfl rfl rfl ?_
      first | refine WL_val rfl rfl rfl (by first | exact rEqlT rfl rfl rfl (by omega) | exact rEqlF rfl rfl rfl (by omega) | exact rEql rfl rfl rfl) ?_ | refine WL_skip rfl rfl rfl ?_
      first | refine WL_val rfl rfl rfl (by first | exact rPickTB rfl rfl rfl | exact rPickFB rfl rfl rfl | exact rPickB rfl rfl rfl rfl) ?_ | refine WL_skip rfl rfl rfl ?_
      refine WL_val rfl rfl rfl (by first | exact rPickTB rfl rfl rfl | exact rPickFB rfl rfl rfl | exact rPickB rfl rfl rfl rfl) ?_
      refine WL_nil ?_
      refine W_cond false rfl ?_
      refine W_skip ?_
      refine W_region ?_
      refine WL_val rfl rfl rfl (by first | exact rInc rfl rfl rfl (by omega) | exact rAdd rfl rfl rfl (by omega) | exact rAddW rfl rfl rfl) ?_
      refine WL_val rfl rfl rfl (by first | exact rMoveI rfl rfl | exact rMove rfl) ?_
      refine WL_nil ?_
      exact ⟨2 - (m + 1), by omega, m + 1, rfl, by omega, (hgo hnt).1, (hgo hnt).2, ⟨rfl, rfl, rfl, rfl, rfl, rfl, rfl, rfl, trivial⟩, hI⟩
    by_cases z2 : z = o6
    · refine W_seq ?_
      refine W_region ?_
      refine WL_val rfl rfl rfl (by first | exact rMoveI rfl rfl | exact rMove rfl) ?_
      refine WL_val rfl rfl rfl (by first | exact rNeqT rfl rfl rfl (by omega) | exact rNeqF rfl rfl rfl (by omega) | exact rNeq rfl rfl rfl) ?_
      refine WL_val rfl rfl rfl (by first | exact rMoveB rfl rfl | exact rMove rfl) ?_
      first | refine WL_val rfl rfl rfl (by first | exact rMoveI rfl rfl | exact rMove rfl) ?_ | refine WL_skip rfl rfl rfl ?_
      first | refine WL_val rfl rfl rfl (by first | exact rFldN (off := 6) rfl (by kernel_rfl) rfl | exact rFld (off := 6) rfl (by kernel_rfl) rfl) ?_ | refine WL_skip rfl rfl rfl ?_
      first | refine WL_val rfl rfl rfl (by first | exact rLd (v := .int .i64 _) rfl (by kernel_rfl) rfl (by first | exact hI.c0 rfl | exact hI.c1 rfl) | exact rLd rfl (by kernel_rfl) rfl (by first | exact hI.c0 rfl | exact hI.c1 rfl)) ?_ | refine WL_skip rfl rfl rfl ?_
      first | refine WL_val rfl rfl rfl (by first | exact rEqlT rfl rfl rfl (by omega) | exact rEqlF rfl rfl rfl (by omega) | exact rEql rfl rfl rfl) ?_ | refine WL_skip rfl rfl rfl ?_
      first | refine WL_val rfl rfl rfl (by first | exact rMoveB rfl rfl | exact rMove rfl) ?_ | refine WL_skip rfl rfl rfl ?_
      first | refine WL_val rfl rfl rfl (by first | exact rMoveI rfl rfl | exact rMove rfl) ?_ | refine WL_skip rfl rfl rfl ?_
      first | refine WL_val rfl rfl rfl (by first | exact rFldN (off := 7) rfl (by kernel_rfl) rfl | exact rFld (off := 7) rfl (by kernel_rfl) rfl) ?_ | refine WL_skip rfl rfl rfl ?_
      first | refine WL_val rfl rfl rfl (by first | exact rLd (v := .int .i64 _) rfl (by kernel_rfl) rfl (by first | exact hI.c0 rfl | exact hI.c1 rfl) | exact rLd rfl (by kernel_rfl) rfl (by first | exact hI.c0 rfl | exact hI.c1 rfl)) ?_ | refine WL_skip rfl rfl rfl ?_
      first | refine WL_val rfl rfl rfl (by first | exact rEqlT rfl rfl rfl (by omega) | exact rEqlF rfl rfl rfl (by omega) | exact rEql rfl rfl rfl) ?_ | refine WL_skip rfl rfl rfl ?_
      first | refine WL_val rfl rfl rfl (by first | exact rPickTB rfl rfl rfl | exact rPickFB rfl rfl rfl | exact rPickB rfl rfl rfl rfl) ?_ | refine WL_skip rfl rfl rfl ?_
      refine WL_val rfl rfl rfl (by first | exact rPickTB rfl rfl rfl | exact rPickFB rfl rfl rfl | exact rPickB rfl rfl rfl rfl) ?_
      refine WL_nil ?_
      refine W_cond true rfl ?_
      refine W_seq ?_
      refine W_region ?_
      refine WL_val rfl rfl rfl (rIface rfl Tryd.underlying36 rfl rfl) ?_
      refine WL_val rfl rfl rfl (by first | exact rAsgnN rfl rfl | exact rAsgnE rfl rfl | exact rAsgn rfl) ?_
      refine WL_nil ?_
      refine W_ret ?_
      exact ret1 4 (.inr rfl) rfl (OpPost.bad (hbadz ⟨z1, .inl z2⟩) hI.pu)
    by_cases z3 : z = o7
    · refine W_seq ?_
      refine W_region ?_
      refine WL_val rfl rfl rfl (by first | exact rMoveI rfl rfl | exact rMove rfl) ?_
      refine WL_val rfl rfl rfl (by first | exact rNeqT rfl rfl rfl (by omega) | exact rNeqF rfl rfl rfl (by omega) | exact rNeq rfl rfl rfl) ?_
      refine WL_val rfl rfl rfl (by first | exact rMoveB rfl rfl | exact rMove rfl) ?_
      first | refine WL_val rfl rfl rfl (by first | exact rMoveI rfl rfl | exact rMove rfl) ?_ | refine WL_skip rfl rfl rfl ?_
      first | refine WL_val rfl rfl rfl (by first | exact rFldN (off := 6) rfl (by kernel_rfl) rfl | exact rFld (off := 6) rfl (by kernel_rfl) rfl) ?_ | refine WL_skip rfl rfl rfl ?_
      first | refine WL_val rfl rfl rfl (by first | exact rLd (v := .int .i64 _) rfl (by kernel_rfl) rfl (by first | exact hI.c0 rfl | exact hI.c1 rfl) | exact rLd rfl (by kernel_rfl) rfl (by first | exact hI.c0 rfl | exact hI.c1 rfl)) ?_ | refine WL_skip rfl rfl rfl ?_
      first | refine WL_val rfl rfl rfl (by first | exact rEqlT rfl rfl rfl (by omega) | exact rEqlF rfl rfl rfl (by omega) | exact rEql rfl rfl rfl) ?_ | refine WL_skip rfl rfl rfl ?_
      first | refine WL_val rfl rfl rfl (by first | exact rMoveB rfl rfl | exact rMove rfl) ?_ | refine WL_skip rfl rfl rfl ?_
      first | refine WL_val rfl rfl rfl (by first | exact rMoveI rfl rfl | exact rMove rfl) ?_ | refine WL_skip rfl rfl rfl ?_
      first | refine WL_val rfl rfl rfl (by first | exact rFldN (off := 7) rfl (by kernel_rfl) rfl | exact rFld (off := 7) rfl (by kernel_rfl) rfl) ?_ | refine WL_skip rfl rfl rfl ?_
      first | refine WL_val rfl rfl rfl (by first | exact rLd (v := .int .i64 _) rfl (by kernel_rfl) rfl (by first | exact hI.c0 rfl | exact hI.c1 rfl) | exact rLd rfl (by kernel_rfl) rfl (by first | exact hI.c0 rfl | exact hI.c1 rfl)) ?_ | refine WL_skip rfl rfl rfl ?_
      first | refine WL_val rfl rfl rfl (by first | exact rEqlT rfl rfl rfl (by omega) | exact rEqlF rfl rfl rfl (by omega) | exact rEql rfl rfl rfl) ?_ | refine WL_skip rfl rfl rfl ?_
      first | refine WL_val rfl rfl rfl (by first | exact rPickTB rfl rfl rfl | exact rPickFB rfl rfl rfl | exact rPickB rfl rfl rfl rfl) ?_ | refine WL_skip rfl rfl rfl ?_
      refine WL_val rfl rfl rfl (by first | exact rPickTB rfl rfl rfl | exact rPickFB rfl rfl rfl | exact rPickB rfl rfl rfl rfl) ?_
      refine WL_nil ?_
      refine W_cond true rfl ?_
      refine W_seq ?_
      refine W_region ?_
      refine WL_val rfl rfl rfl (rIface rfl Tryd.underlying36 rfl rfl) ?_
      refine WL_val rfl rfl rfl (by first | exact rAsgnN rfl rfl | exact rAsgnE rfl rfl | exact rAsgn rfl) ?_
      refine WL_nil ?_
      refine W_ret ?_
      exact ret1 4 (.inr rfl) rfl (OpPost.bad (hbadz ⟨z1, .inr z3⟩) hI.pu)
    have hnt : ¬ twiceAt ⟨o0, o1, o2, o3, o4, o5, o6, o7⟩ z := fun ht => by rcases ht.2 with h1 | h1; exact z2 h1; exact z3 h1
    refine W_seq ?_
    refine W_region ?_
    refine WL_val rfl rfl rfl (by first | exact rMoveI rfl rfl | exact rMove rfl) ?_
    refine WL_val rfl rfl rfl (by first | exact rNeqT rfl rfl rfl (by omega) | exact rNeqF rfl rfl rfl (by omega) | exact rNeq rfl rfl rfl) ?_
    refine WL_val rfl rfl rfl (by first | exact rMoveB rfl rfl | exact rMove rfl) ?_
    first | refine WL_val rfl rfl rfl (by first | exact rMoveI rfl rfl | exact rMove rfl) ?_ | refine WL_skip rfl rfl rfl ?_
    first | refine WL_val rfl rfl rfl (by first | exact rFldN (off := 6) rfl (by kernel_rfl) rfl | exact rFld (off := 6) rfl (by kernel_rfl) rfl) ?_ | refine WL_skip rfl rfl rfl ?_
    first | refine WL_val rfl rfl rfl (by first | exact rLd (v := .int .i64 _) rfl (by kernel_rfl) rfl (by first | exact hI.c0 rfl | exact hI.c1 rfl) | exact rLd rfl (by kernel_rfl) rfl (by first | exact hI.c0 rfl | exact hI.c1 rfl)) ?_ | refine WL_skip rfl rfl rfl ?_
    first | refine WL_val rfl rfl rfl (by first | exact rEqlT rfl rfl rfl (by omega) | exact rEqlF rfl rfl rfl (by omega) | exact rEql rfl rfl rfl) ?_ | refine WL_skip rfl rfl rfl ?_
    first | refine WL_val rfl rfl rfl (by first | exact rMoveB rfl rfl | exact rMove rfl) ?_ | refine WL_skip rfl rfl rfl ?_
    first | refine WL_val rfl rfl rfl (by first | exact rMoveI rfl rfl | exact rMove rfl) ?_ | refine WL_skip rfl rfl rfl ?_
    first | refine WL_val rfl rfl rfl (by first | exact rFldN (off := 7) rfl (by kernel_rfl) rfl | exact rFld (off := 7) rfl (by kernel_rfl) rfl) ?_ | refine WL_skip rfl rfl rfl ?_
    first | refine WL_val rfl rfl rfl (by first | exact rLd (v := .int .i64 _) rfl (by kernel_rfl) rfl (by first | exact hI.c0 rfl | exact hI.c1 rfl) | exact rLd rfl (by kernel_rfl) rfl (by first | exact hI.c0 rfl | exact hI.c1 rfl)) ?_ | refine WL_skip rfl rfl rfl ?_
    first | refine WL_val rfl rfl rfl (by first | exact rEqlT rfl rfl rfl (by omega) | exact rEqlF rfl rfl rfl (by omega) | exact rEql rfl rfl rfl) ?_ | refine WL_skip rfl rfl rfl ?_
    first | refine WL_val rfl rfl rfl (by first | exact rPickTB rfl rfl rfl | exact rPickFB rfl rfl rfl | exact rPickB rfl rfl rfl rfl) ?_ | refine WL_skip rfl rfl rfl ?_
    refine WL_val rfl rfl rfl (by first | exact rPickTB rfl rfl rfl | exact rPickFB rfl rfl rfl | exact rPickB rfl rfl rfl rfl) ?_
    refine WL_nil ?_
    refine W_cond false rfl ?_
    refine W_skip ?_
    refine W_region ?_
    refine WL_val rfl rfl rfl (by first | exact rInc rfl rfl rfl (by omega) | exact rAdd rfl rfl rfl (by omega) | exact rAddW rfl rfl rfl) ?_
    refine WL_val rfl rfl rfl (by first | exact rMoveI rfl rfl | exact rMove rfl) ?_
    refine WL_nil ?_
    exact ⟨2 - (m + 1), by omega, m + 1, rfl, by omega, (hgo hnt).1, (hgo hnt).2, ⟨rfl, rfl, rfl, rfl, rfl, rfl, rfl, rfl, trivial⟩, hI⟩
  clear hI
  rintro ρ w ⟨hall1, hH, hI⟩
  obtain ⟨σ, rfl⟩ := hH.open
  refine W_seq ?_
  refine W_seq ?_
  refine W_region ?_
  refine WL_val rfl rfl rfl (by first | exact rMoveS rfl rfl | exact rMove rfl) ?_
  refine WL_val rfl rfl rfl (rLen rfl Tryd.underlying22 rfl) ?_
  refine WL_val rfl rfl rfl (by first | exact rMoveI rfl rfl | exact rMove rfl) ?_
  refine WL_nil ?_
  refine W_block ?_
  refine W_loopN (fun mu ρ w => ∃ k : Nat, mu = ah.length - k ∧ k ≤ ah.length ∧ (∀ j, j < k → (oAt ah j).proc = o0 → befB (oAt ah j) ⟨o0, o1, o2, o3, o4, o5, o6, o7⟩ = true) ∧ Has ρ [(110, .int .i64 (k : Int)), (109, .int .i64 (ah.length : Int)), (108, .slice A ah.length c), (2, .pointer (some ⟨b2, 0, none⟩))] ∧ Inv (fun _ => False) w0 w [B b2 41 #[.int .i64 o0, .int .i64 o1, .int .i64 o2, .int .i64 o3, .int .i64 o4, .int .i64 o5, .int .i64 o6, .int .i64 o7]]) ah.length
    ⟨0, rfl, by omega, fun j hj => by omega, ⟨rfl, rfl, rfl, rfl, trivial⟩, hI⟩ ?_
  clear hI
  rintro mu ρ w ⟨k, rfl, hk, hall, hH, hI⟩
  obtain ⟨σ, rfl⟩ := hH.open
  by_cases hkl : k < ah.length
  rotate_left
  · obtain rfl : k = ah.length := by omega
    refine W_seq ?_
    refine W_region ?_
    refine WL_val rfl rfl rfl (by first | exact rLssT rfl rfl rfl (by omega) | exact rLssF rfl rfl rfl (by omega) | exact rLss rfl rfl rfl) ?_
    refine WL_nil ?_
    refine W_seq ?_
    refine W_cond false rfl ?_
    refine W_exit ?_
    refine W_seq ?_
    refine W_region ?_
    refine WL_val rfl rfl rfl (by first | exact rAsgnN rfl rfl | exact rAsgnE rfl rfl | exact rAsgn rfl) ?_
    refine WL_nil ?_
    refine W_ret ?_
    exact ret1 4 (.inr rfl) rfl ⟨hI.pu, .inl ⟨⟨ht, hkd, hord, hall1, hall⟩, rfl⟩⟩
  obtain ⟨ab, ao, rfl, hoc⟩ := h.at hkl
  generalize hpk : oAt ah k = pk at hoc
  obtain ⟨p0, p1, p2, p3, p4, p5, p6, p7⟩ := pk
  refine W_seq ?_
  refine W_region ?_
  refine WL_val rfl rfl rfl (by first | exact rLssT rfl rfl rfl (by omega) | exact rLssF rfl rfl rfl (by omega) | exact rLss rfl rfl rfl) ?_
  refine WL_nil ?_
  refine W_seq ?_
  refine W_cond true rfl ?_
  refine W_skip ?_
  refine W_seq ?_
  refine W_block ?_
  refine W_seq ?_
  refine W_region ?_
  refine WL_val rfl rfl rfl (rIdx (sz := 8) rfl Tryd.underlying22 (by kernel_rfl) rfl rfl (by omega)) ?_
  refine WL_val rfl rfl rfl (by first | exact rLdB (n := 8) rfl (by kernel_rfl) (by kernel_rfl) rfl rfl hI.g0 | exact rLdA (n := 8) rfl (by kernel_rfl) (by kernel_rfl) rfl (by rfl) (fun k u hk => hI.oldp (hoc k u hk)) | exact rLdA (n := 8) rfl (by kernel_rfl) (by kernel_rfl) rfl (by rfl) hoc) ?_
  refine WL_alloc (u := .agg #[.int .i64 0, .int .i64 0, .int .i64 0, .int .i64 0, .int .i64 0, .int .i64 0, .int .i64 0, .int .i64 0]) (vs := #[.int .i64 0, .int .i64 0, .int .i64 0, .int .i64 0, .int .i64 0, .int .i64 0, .int .i64 0, .int .i64 0]) hI rfl rfl rfl rfl (by kernel_rfl) rfl ?_
  clear hI; rintro b11 w - - hI
  first | refine WL_stw0 (u := .agg _) (vs := #[_, _, _, _, _, _, _, _]) (n := 8) hI rfl rfl rfl rfl rfl rfl (by kernel_rfl) rfl rfl rfl ?_
  clear hI; intro w hI
  refine WL_nil ?_
  simp only [opV] at hI
  have hnext : (p0 = o0 → befB ⟨p0, p1, p2, p3, p4, p5, p6, p7⟩ ⟨o0, o1, o2, o3, o4, o5, o6, o7⟩ = true) → ∀ j, j < k + 1 → (oAt ah j).proc = o0 → befB (oAt ah j) ⟨o0, o1, o2, o3, o4, o5, o6, o7⟩ = true := fun hb j hj => by
    rcases Nat.lt_or_ge j k with h1 | h1
    · exact hall j h1
    · obtain rfl : j = k := by omega
      rw [hpk]; exact hb
  by_cases hpp : p0 = o0
  · cases hbf : befB ⟨p0, p1, p2, p3, p4, p5, p6, p7⟩ ⟨o0, o1, o2, o3, o4, o5, o6, o7⟩ with
    | true =>
      refine W_seq ?_
      refine W_region ?_
      refine WL_val rfl rfl rfl (by first | exact rFldN (off := 0) rfl (by kernel_rfl) rfl | exact rFld0 rfl (by kernel_rfl) rfl) ?_
      refine WL_val rfl rfl rfl (by first | exact rLd (v := .int .i64 _) rfl (by kernel_rfl) rfl (by first | exact hI.c0 rfl | exact hI.c1 rfl) | exact rLd rfl (by kernel_rfl) rfl (by first | exact hI.c0 rfl | exact hI.c1 rfl)) ?_
      refine WL_val rfl rfl rfl (by first | exact rFldN (off := 0) rfl (by kernel_rfl) rfl | exact rFld0 rfl (by kernel_rfl) rfl) ?_
      refine WL_val rfl rfl rfl (by first | exact rLd (v := .int .i64 _) rfl (by kernel_rfl) rfl (by first | exact hI.c0 rfl | exact hI.c1 rfl) | exact rLd rfl (by kernel_rfl) rfl (by first | exact hI.c0 rfl | exact hI.c1 rfl)) ?_
      refine WL_val rfl rfl rfl (by first | exact rEqlT rfl rfl rfl (by omega) | exact rEqlF rfl rfl rfl (by omega) | exact rEql rfl rfl rfl) ?_
      refine WL_val rfl rfl rfl (by first | exact rMoveB rfl rfl | exact rMove rfl) ?_
      first | refine WL_val rfl rfl rfl (by first | exact rLdB (n := 8) rfl (by kernel_rfl) (by kernel_rfl) rfl rfl hI.g0 | exact rLdB (n := 8) rfl (by kernel_rfl) (by kernel_rfl) rfl rfl hI.g1) ?_ | refine WL_skip rfl rfl rfl ?_
      first | refine WL_val rfl rfl rfl (by first | exact rLdB (n := 8) rfl (by kernel_rfl) (by kernel_rfl) rfl rfl hI.g0 | exact rLdB (n := 8) rfl (by kernel_rfl) (by kernel_rfl) rfl rfl hI.g1) ?_ | refine WL_skip rfl rfl rfl ?_
      refine WL_call rfl rfl rfl (rCall (vs := [.agg _, .agg _]) rfl Tryd.func15 rfl rfl rfl) ?_
      refine (before_one p0 p1 p2 p3 p4 p5 p6 p7 o0 o1 o2 o3 o4 o5 o6 o7 _).mono ?_
      rw [hbf]
      rintro e w1 ⟨rfl, hp⟩
      refine ⟨_, rfl, ?_⟩
      replace hI := hI.pure hp
      first | refine WL_val rfl rfl rfl (by first | exact rNotT rfl rfl | exact rNotF rfl rfl | exact rNot rfl rfl) ?_ | refine WL_skip rfl rfl rfl ?_
      refine WL_val rfl rfl rfl (by first | exact rPickTB rfl rfl rfl | exact rPickFB rfl rfl rfl | exact rPickB rfl rfl rfl rfl) ?_
      refine WL_nil ?_
      refine W_cond false rfl ?_
      refine W_skip ?_
      replace hI := hI.d0
      refine W_region ?_
      refine WL_val rfl rfl rfl (by first | exact rInc rfl rfl rfl (by omega) | exact rAdd rfl rfl rfl (by omega) | exact rAddW rfl rfl rfl) ?_
      refine WL_val rfl rfl rfl (by first | exact rMoveI rfl rfl | exact rMove rfl) ?_
      refine WL_nil ?_
      exact ⟨ah.length - (k + 1), by omega, k + 1, rfl, by omega, hnext (fun _ => hbf), ⟨rfl, rfl, rfl, rfl, trivial⟩, hI⟩
    | false =>
      refine W_seq ?_
      refine W_region ?_
      refine WL_val rfl rfl rfl (by first | exact rFldN (off := 0) rfl (by kernel_rfl) rfl | exact rFld0 rfl (by kernel_rfl) rfl) ?_
      refine WL_val rfl rfl rfl (by first | exact rLd (v := .int .i64 _) rfl (by kernel_rfl) rfl (by first | exact hI.c0 rfl | exact hI.c1 rfl) | exact rLd rfl (by kernel_rfl) rfl (by first | exact hI.c0 rfl | exact hI.c1 rfl)) ?_
      refine WL_val rfl rfl rfl (by first | exact rFldN (off := 0) rfl (by kernel_rfl) rfl | exact rFld0 rfl (by kernel_rfl) rfl) ?_
      refine WL_val rfl rfl rfl (by first | exact rLd (v := .int .i64 _) rfl (by kernel_rfl) rfl (by first | exact hI.c0 rfl | exact hI.c1 rfl) | exact rLd rfl (by kernel_rfl) rfl (by first | exact hI.c0 rfl | exact hI.c1 rfl)) ?_
      refine WL_val rfl rfl rfl (by first | exact rEqlT rfl rfl rfl (by omega) | exact rEqlF rfl rfl rfl (by omega) | exact rEql rfl rfl rfl) ?_
      refine WL_val rfl rfl rfl (by first | exact rMoveB rfl rfl | exact rMove rfl) ?_
      first | refine WL_val rfl rfl rfl (by first | exact rLdB (n := 8) rfl (by kernel_rfl) (by kernel_rfl) rfl rfl hI.g0 | exact rLdB (n := 8) rfl (by kernel_rfl) (by kernel_rfl) rfl rfl hI.g1) ?_ | refine WL_skip rfl rfl rfl ?_
      first | refine WL_val rfl rfl rfl (by first | exact rLdB (n := 8) rfl (by kernel_rfl) (by kernel_rfl) rfl rfl hI.g0 | exact rLdB (n := 8) rfl (by kernel_rfl) (by kernel_rfl) rfl rfl hI.g1) ?_ | refine WL_skip rfl rfl rfl ?_
      refine WL_call rfl rfl rfl (rCall (vs := [.agg _, .agg _]) rfl Tryd.func15 rfl rfl rfl) ?_
      refine (before_one p0 p1 p2 p3 p4 p5 p6 p7 o0 o1 o2 o3 o4 o5 o6 o7 _).mono ?_
      rw [hbf]
      rintro e w1 ⟨rfl, hp⟩
      refine ⟨_, rfl, ?_⟩
      replace hI := hI.pure hp
      first | refine WL_val rfl rfl rfl (by first | exact rNotT rfl rfl | exact rNotF rfl rfl | exact rNot rfl rfl) ?_ | refine WL_skip rfl rfl rfl ?_
      refine WL_val rfl rfl rfl (by first | exact rPickTB rfl rfl rfl | exact rPickFB rfl rfl rfl | exact rPickB rfl rfl rfl rfl) ?_
      refine WL_nil ?_
      refine W_cond true rfl ?_
      refine W_seq ?_
      refine W_region ?_
      refine WL_val rfl rfl rfl (rIface rfl Tryd.underlying36 rfl rfl) ?_
      refine WL_val rfl rfl rfl (by first | exact rAsgnN rfl rfl | exact rAsgnE rfl rfl | exact rAsgn rfl) ?_
      refine WL_nil ?_
      refine W_ret ?_
      exact ret1 4 (.inr rfl) rfl (OpPost.bad (fun hh => by have := hh.2.2.2.2 k hkl (by rw [hpk]; exact hpp); rw [hpk, hbf] at this; cases this) hI.pu)
  · refine W_seq ?_
    refine W_region ?_
    refine WL_val rfl rfl rfl (by first | exact rFldN (off := 0) rfl (by kernel_rfl) rfl | exact rFld0 rfl (by kernel_rfl) rfl) ?_
    refine WL_val rfl rfl rfl (by first | exact rLd (v := .int .i64 _) rfl (by kernel_rfl) rfl (by first | exact hI.c0 rfl | exact hI.c1 rfl) | exact rLd rfl (by kernel_rfl) rfl (by first | exact hI.c0 rfl | exact hI.c1 rfl)) ?_
    refine WL_val rfl rfl rfl (by first | exact rFldN (off := 0) rfl (by kernel_rfl) rfl | exact rFld0 rfl (by kernel_rfl) rfl) ?_
    refine WL_val rfl rfl rfl (by first | exact rLd (v := .int .i64 _) rfl (by kernel_rfl) rfl (by first | exact hI.c0 rfl | exact hI.c1 rfl) | exact rLd rfl (by kernel_rfl) rfl (by first | exact hI.c0 rfl | exact hI.c1 rfl)) ?_
    refine WL_val rfl rfl rfl (by first | exact rEqlT rfl rfl rfl (by omega) | exact rEqlF rfl rfl rfl (by omega) | exact rEql rfl rfl rfl) ?_
    refine WL_val rfl rfl rfl (by first | exact rMoveB rfl rfl | exact rMove rfl) ?_
    refine WL_skip rfl rfl rfl ?_
    refine WL_skip rfl rfl rfl ?_
    refine WL_skip rfl rfl rfl ?_
    refine WL_skip rfl rfl rfl ?_
    refine WL_val rfl rfl rfl (by first | exact rPickTB rfl rfl rfl | exact rPickFB rfl rfl rfl | exact rPickB rfl rfl rfl rfl) ?_
    refine WL_nil ?_
    refine W_cond false rfl ?_
    refine W_skip ?_
    replace hI := hI.d0
    refine W_region ?_
    refine WL_val rfl rfl rfl (by first | exact rInc rfl rfl rfl (by omega) | exact rAdd rfl rfl rfl (by omega) | exact rAddW rfl rfl rfl) ?_
    refine WL_val rfl rfl rfl (by first | exact rMoveI rfl rfl | exact rMove rfl) ?_
    refine WL_nil ?_
    exact ⟨ah.length - (k + 1), by omega, k + 1, rfl, by omega, hnext (fun e => absurd e hpp), ⟨rfl, rfl, rfl, rfl, trivial⟩, hI⟩
end Go.Proofs.YtijgkocolajghaaDoor
