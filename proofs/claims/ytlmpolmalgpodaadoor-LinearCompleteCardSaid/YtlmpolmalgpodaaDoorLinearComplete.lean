/- LinearComplete: the law's walk. -/
import Derived.Test.YtlmpolmalgpodaaDoorLinearWitness
namespace Go.Proofs.YtlmpolmalgpodaaDoor
open Go.RowKit
set_option linter.unusedVariables false
set_option linter.unusedSimpArgs false
set_option maxHeartbeats 2000000 in
theorem linearComplete_any (o : Int) (A : Option Addr) (n c : Nat) (l : List Op8) (A2 : Option Addr) (c2 : Nat) (order : List Int) (bz : Int) (D D2 : Nat → Prop) (w0 : World) (h : OpsR w0 D (.slice A n c) l) (hr : Rd w0 D2 1 (.slice A2 order.length c2) order.length (i64s order)) (hk : KnOk w0) :
    Calls Tryd.prog 6 #[.int .i64 o, .slice A n c, .slice A2 order.length c2, .int .i64 bz] w0 fun en w' => en = .returned (.bool true) ∧ Pure w0 w' := by
  obtain ⟨hn, hc1, hc2⟩ := h.len
  subst hn
  have hI := Inv.start (fun _ => False) w0
  refine calls_of_W (N := Tryd.f6.ntmps) Tryd.func6 rfl rfl rfl ?_
  refine W_seq ?_
  refine W_region ?_
  refine WL_val rfl rfl rfl (by first | exact rAsgnB rfl rfl | exact rAsgn rfl) ?_
  refine WL_nil ?_
  by_cases h30 : l.length ≤ 30 ∧ order.length ≤ 40
  rotate_left
  · by_cases h3 : l.length ≤ 30
    · have h4 : 40 < order.length := by
        rcases Nat.lt_or_ge 40 order.length with h4 | h4
        · exact h4
        · exact absurd ⟨h3, h4⟩ h30
      refine W_seq ?_
      refine W_seq ?_
      refine W_region ?_
      refine WL_val rfl rfl rfl (by first | exact rMoveS rfl rfl | exact rMove rfl) ?_
      refine WL_val rfl rfl rfl (rLen rfl Tryd.underlying24 rfl) ?_
      refine WL_val rfl rfl rfl (by first | exact rGtrT rfl rfl rfl (by omega) | exact rGtrF rfl rfl rfl (by omega) | exact rGtr rfl rfl rfl) ?_
      refine WL_val rfl rfl rfl (by first | exact rMoveB rfl rfl | exact rMove rfl) ?_
      first | refine WL_val rfl rfl rfl (by first | exact rMoveS rfl rfl | exact rMove rfl) ?_ | refine WL_skip rfl rfl rfl ?_
      first | refine WL_val rfl rfl rfl (rLen rfl Tryd.underlying22 rfl) ?_ | refine WL_skip rfl rfl rfl ?_
      first | refine WL_val rfl rfl rfl (by first | exact rGtrT rfl rfl rfl (by omega) | exact rGtrF rfl rfl rfl (by omega) | exact rGtr rfl rfl rfl) ?_ | refine WL_skip rfl rfl rfl ?_
      refine WL_val rfl rfl rfl (by first | exact rPickTB rfl rfl rfl | exact rPickFB rfl rfl rfl | exact rPickB rfl rfl rfl rfl) ?_
      refine WL_nil ?_
      refine W_cond true rfl ?_
      refine W_seq ?_
      refine W_region ?_
      refine WL_val rfl rfl rfl (by first | exact rAsgnB rfl rfl | exact rAsgn rfl) ?_
      refine WL_nil ?_
      refine W_ret ?_
      exact ret1 8 (.inr rfl) rfl ⟨rfl, hI.pu⟩
    · refine W_seq ?_
      refine W_seq ?_
      refine W_region ?_
      refine WL_val rfl rfl rfl (by first | exact rMoveS rfl rfl | exact rMove rfl) ?_
      refine WL_val rfl rfl rfl (rLen rfl Tryd.underlying24 rfl) ?_
      refine WL_val rfl rfl rfl (by first | exact rGtrT rfl rfl rfl (by omega) | exact rGtrF rfl rfl rfl (by omega) | exact rGtr rfl rfl rfl) ?_
      refine WL_val rfl rfl rfl (by first | exact rMoveB rfl rfl | exact rMove rfl) ?_
      first | refine WL_val rfl rfl rfl (by first | exact rMoveS rfl rfl | exact rMove rfl) ?_ | refine WL_skip rfl rfl rfl ?_
      first | refine WL_val rfl rfl rfl (rLen rfl Tryd.underlying22 rfl) ?_ | refine WL_skip rfl rfl rfl ?_
      first | refine WL_val rfl rfl rfl (by first | exact rGtrT rfl rfl rfl (by omega) | exact rGtrF rfl rfl rfl (by omega) | exact rGtr rfl rfl rfl) ?_ | refine WL_skip rfl rfl rfl ?_
      refine WL_val rfl rfl rfl (by first | exact rPickTB rfl rfl rfl | exact rPickFB rfl rfl rfl | exact rPickB rfl rfl rfl rfl) ?_
      refine WL_nil ?_
      refine W_cond true rfl ?_
      refine W_seq ?_
      refine W_region ?_
      refine WL_val rfl rfl rfl (by first | exact rAsgnB rfl rfl | exact rAsgn rfl) ?_
      refine WL_nil ?_
      refine W_ret ?_
      exact ret1 8 (.inr rfl) rfl ⟨rfl, hI.pu⟩
  obtain ⟨h30, h40⟩ := h30
  refine W_seq ?_
  refine W_seq ?_
  refine W_region ?_
  refine WL_val rfl rfl rfl (by first | exact rMoveS rfl rfl | exact rMove rfl) ?_
  refine WL_val rfl rfl rfl (rLen rfl Tryd.underlying24 rfl) ?_
  refine WL_val rfl rfl rfl (by first | exact rGtrT rfl rfl rfl (by omega) | exact rGtrF rfl rfl rfl (by omega) | exact rGtr rfl rfl rfl) ?_
  refine WL_val rfl rfl rfl (by first | exact rMoveB rfl rfl | exact rMove rfl) ?_
  first | refine WL_val rfl rfl rfl (by first | exact rMoveS rfl rfl | exact rMove rfl) ?_ | refine WL_skip rfl rfl rfl ?_
  first | refine WL_val rfl rfl rfl (rLen rfl Tryd.underlying22 rfl) ?_ | refine WL_skip rfl rfl rfl ?_
  first | refine WL_val rfl rfl rfl (by first | exact rGtrT rfl rfl rfl (by omega) | exact rGtrF rfl rfl rfl (by omega) | exact rGtr rfl rfl rfl) ?_ | refine WL_skip rfl rfl rfl ?_
  refine WL_val rfl rfl rfl (by first | exact rPickTB rfl rfl rfl | exact rPickFB rfl rfl rfl | exact rPickB rfl rfl rfl rfl) ?_
  refine WL_nil ?_
  refine W_cond false rfl ?_
  refine W_skip ?_
  have hpl := pickN_lt bz (n := 3000) (by omega)
  by_cases hok : OkLin o l 0
  · have hokb : OkLin o l (pickN bz 3000 : Int) := hok.bud (by omega) (by omega)
    have hA := argsOk hok
    have hni := fun (hs : ShowsP o l order) => verd_not_invalid (ab := befB) hA (fun k i hk hi hp => hp) hs (pickN bz 3000)
    refine W_seq ?_
    refine W_region ?_
    refine WL_val rfl rfl rfl (by first | exact rMoveI rfl rfl | exact rMove rfl) ?_
    refine WL_val rfl rfl rfl (by first | exact rMoveS rfl rfl | exact rMove rfl) ?_
    refine WL_val rfl rfl rfl (by first | exact rMoveS rfl rfl | exact rMove rfl) ?_
    refine WL_call rfl rfl rfl (rCall (vs := [.int .i64 _, .slice _ _ _, .slice _ _ _]) rfl Tryd.func21 rfl rfl rfl) ?_
    refine (shows_any o A l.length c l A2 c2 order D D2 _ (h.pure hI.pu) (hr.pure hI.pu) (by omega) (hk.pure hI.pu)).mono ?_
    rintro e w1 ⟨hp, ⟨_, b, rfl, hb⟩ | ⟨h1, _⟩⟩
    rotate_left
    · exact absurd hok h1
    refine ⟨_, rfl, ?_⟩
    replace hI := hI.pure hp
    refine WL_val rfl rfl rfl (by first | exact rMoveT rfl rfl | exact rMove rfl) ?_
    refine WL_val rfl rfl rfl (rExtr rfl rfl rfl) ?_
    refine WL_val rfl rfl rfl (rExtr rfl rfl rfl) ?_
    refine WL_val rfl rfl rfl (by first | exact rAsgnB rfl rfl | exact rAsgn rfl) ?_
    refine WL_val rfl rfl rfl (by first | exact rAsgnN rfl rfl | exact rAsgnE rfl rfl | exact rAsgn rfl) ?_
    refine WL_nil ?_
    refine W_seq ?_
    refine W_region ?_
    refine WL_val rfl rfl rfl (by first | exact rMoveI rfl rfl | exact rMove rfl) ?_
    refine WL_val rfl rfl rfl (by first | exact rMoveS rfl rfl | exact rMove rfl) ?_
    refine WL_val rfl rfl rfl (by first | exact rMoveI rfl rfl | exact rMove rfl) ?_
    refine WL_call rfl rfl rfl (rCall (vs := [.int .i64 _, .int .i64 _]) rfl Tryd.func12 rfl rfl rfl) ?_
    refine (pick_any bz 3000 _ (by omega) (by omega)).mono ?_
    rintro e w2 ⟨rfl, rfl⟩
    refine ⟨_, rfl, ?_⟩
    refine WL_call rfl rfl rfl (rCall (vs := [.int .i64 _, .slice _ _ _, .int .i64 _]) rfl Tryd.func19 rfl rfl rfl) ?_
    refine (chk_any o A l.length c l _ D _ (h.pure hI.pu) (hk.pure hI.pu)).mono ?_
    rintro e w2 (⟨_, A', c', rfl, hT⟩ | ⟨h1, _⟩)
    rotate_left
    · exact absurd hokb h1
    rw [Int.toNat_natCast] at hT ⊢
    generalize verdF o l befB (pickN bz 3000) = R at hT hni ⊢
    obtain ⟨z, s'⟩ := R
    simp only at hni
    refine ⟨_, rfl, ?_⟩
    replace hI := hI.app1 hT
    refine WL_val rfl rfl rfl (by first | exact rMoveT rfl rfl | exact rMove rfl) ?_
    refine WL_val rfl rfl rfl (rExtr rfl rfl rfl) ?_
    refine WL_val rfl rfl rfl (rExtr rfl rfl rfl) ?_
    refine WL_alloc (u := .agg #[.int .i64 0, .slice none 0 0, .int .i64 0]) (vs := #[.int .i64 0, .slice none 0 0, .int .i64 0]) hI rfl rfl rfl rfl (by kernel_rfl) rfl ?_
    clear hI; rintro b11 w - - hI
    first | refine WL_stw0 (u := .agg _) (vs := #[_, _, _]) (n := 3) hI rfl rfl rfl rfl rfl rfl (by kernel_rfl) rfl rfl rfl ?_ | refine WL_stw1 (u := .agg _) (vs := #[_, _, _]) (n := 3) hI rfl rfl rfl rfl rfl rfl (by kernel_rfl) rfl rfl rfl ?_ | refine WL_stw2 (u := .agg _) (vs := #[_, _, _]) (n := 3) hI rfl rfl rfl rfl rfl rfl (by kernel_rfl) rfl rfl rfl ?_ | refine WL_stw3 (u := .agg _) (vs := #[_, _, _]) (n := 3) hI rfl rfl rfl rfl rfl rfl (by kernel_rfl) rfl rfl rfl ?_ | refine WL_stw4 (u := .agg _) (vs := #[_, _, _]) (n := 3) hI rfl rfl rfl rfl rfl rfl (by kernel_rfl) rfl rfl rfl ?_ | refine WL_stw5 (u := .agg _) (vs := #[_, _, _]) (n := 3) hI rfl rfl rfl rfl rfl rfl (by kernel_rfl) rfl rfl rfl ?_
    clear hI; intro w hI
    refine WL_val rfl rfl rfl (by first | exact rAsgnN rfl rfl | exact rAsgnE rfl rfl | exact rAsgn rfl) ?_
    refine WL_nil ?_
    refine W_seq ?_
    refine W_seq ?_
    refine W_region ?_
    refine WL_call rfl rfl rfl (rCall (vs := []) rfl Tryd.func20 rfl rfl rfl) ?_
    refine (ltold_any _ (hk.pure hI.pu)).mono ?_
    rintro e w2 ⟨rfl, hp⟩
    refine ⟨_, rfl, ?_⟩
    replace hI := hI.pure hp
    refine WL_val rfl rfl rfl (by first | exact rNotT rfl rfl | exact rNotF rfl rfl | exact rNot rfl rfl) ?_
    refine WL_val rfl rfl rfl (by first | exact rMoveB rfl rfl | exact rMove rfl) ?_
    first | refine WL_val rfl rfl rfl (by first | exact rMoveN rfl rfl | exact rMoveE rfl rfl | exact rMove rfl) ?_ | refine WL_skip rfl rfl rfl ?_
    first | refine WL_val rfl rfl rfl (by first | exact rIfaceNe rfl Tryd.underlying35 rfl rfl | exact rNilNe rfl Tryd.underlying35 rfl) ?_ | refine WL_skip rfl rfl rfl ?_
    refine WL_val rfl rfl rfl (by first | exact rPickTB rfl rfl rfl | exact rPickFB rfl rfl rfl | exact rPickB rfl rfl rfl rfl) ?_
    refine WL_val rfl rfl rfl (by first | exact rMoveB rfl rfl | exact rMove rfl) ?_
    first | refine WL_val rfl rfl rfl (by first | exact rMoveN rfl rfl | exact rMoveE rfl rfl | exact rMove rfl) ?_ | refine WL_skip rfl rfl rfl ?_
    first | refine WL_val rfl rfl rfl (by first | exact rIfaceNe rfl Tryd.underlying35 rfl rfl | exact rNilNe rfl Tryd.underlying35 rfl) ?_ | refine WL_skip rfl rfl rfl ?_
    refine WL_val rfl rfl rfl (by first | exact rPickTB rfl rfl rfl | exact rPickFB rfl rfl rfl | exact rPickB rfl rfl rfl rfl) ?_
    refine WL_nil ?_
    refine W_cond false rfl ?_
    refine W_skip ?_
    cases b with
    | false =>
      refine W_seq ?_
      refine W_region ?_
      refine WL_val rfl rfl rfl (by first | exact rMoveB rfl rfl | exact rMove rfl) ?_
      refine WL_val rfl rfl rfl (by first | exact rNotT rfl rfl | exact rNotF rfl rfl | exact rNot rfl rfl) ?_
      refine WL_val rfl rfl rfl (by first | exact rMoveB rfl rfl | exact rMove rfl) ?_
      first | refine WL_val rfl rfl rfl (by first | exact rFldN (off := 0) rfl (by kernel_rfl) rfl | exact rFld0 rfl (by kernel_rfl) rfl) ?_ | refine WL_skip rfl rfl rfl ?_
      first | refine WL_val rfl rfl rfl (by first | exact rLd (v := .int .i64 _) rfl (by kernel_rfl) rfl (by first | exact hI.c0 rfl | exact hI.c1 rfl) | exact rLd rfl (by kernel_rfl) rfl (by first | exact hI.c0 rfl | exact hI.c1 rfl)) ?_ | refine WL_skip rfl rfl rfl ?_
      first | refine WL_val rfl rfl rfl (by first | exact rNeqT rfl rfl rfl (by omega) | exact rNeqF rfl rfl rfl (by omega) | exact rNeq rfl rfl rfl) ?_ | refine WL_skip rfl rfl rfl ?_
      refine WL_val rfl rfl rfl (by first | exact rPickTB rfl rfl rfl | exact rPickFB rfl rfl rfl | exact rPickB rfl rfl rfl rfl) ?_
      refine WL_val rfl rfl rfl (by first | exact rAsgnB rfl rfl | exact rAsgn rfl) ?_
      refine WL_nil ?_
      refine W_ret ?_
      exact ret1 8 (.inr rfl) rfl ⟨rfl, hI.pu⟩
    | true =>
      have hz := hni (hb.1 rfl)
      refine W_seq ?_
      refine W_region ?_
      refine WL_val rfl rfl rfl (by first | exact rMoveB rfl rfl | exact rMove rfl) ?_
      refine WL_val rfl rfl rfl (by first | exact rNotT rfl rfl | exact rNotF rfl rfl | exact rNot rfl rfl) ?_
      refine WL_val rfl rfl rfl (by first | exact rMoveB rfl rfl | exact rMove rfl) ?_
      first | refine WL_val rfl rfl rfl (by first | exact rFldN (off := 0) rfl (by kernel_rfl) rfl | exact rFld0 rfl (by kernel_rfl) rfl) ?_ | refine WL_skip rfl rfl rfl ?_
      first | refine WL_val rfl rfl rfl (by first | exact rLd (v := .int .i64 _) rfl (by kernel_rfl) rfl (by first | exact hI.c0 rfl | exact hI.c1 rfl) | exact rLd rfl (by kernel_rfl) rfl (by first | exact hI.c0 rfl | exact hI.c1 rfl)) ?_ | refine WL_skip rfl rfl rfl ?_
      first | refine WL_val rfl rfl rfl (by first | exact rNeqT rfl rfl rfl (by omega) | exact rNeqF rfl rfl rfl (by omega) | exact rNeq rfl rfl rfl) ?_ | refine WL_skip rfl rfl rfl ?_
      refine WL_val rfl rfl rfl (by first | exact rPickTB rfl rfl rfl | exact rPickFB rfl rfl rfl | exact rPickB rfl rfl rfl rfl) ?_
      refine WL_val rfl rfl rfl (by first | exact rAsgnB rfl rfl | exact rAsgn rfl) ?_
      refine WL_nil ?_
      refine W_ret ?_
      exact ret1 8 (.inr rfl) rfl ⟨rfl, hI.pu⟩
  · have hokb : ¬ OkLin o l (pickN bz 3000 : Int) := fun hh => hok (hh.bud (by omega) (by omega))
    refine W_seq ?_
    refine W_region ?_
    refine WL_val rfl rfl rfl (by first | exact rMoveI rfl rfl | exact rMove rfl) ?_
    refine WL_val rfl rfl rfl (by first | exact rMoveS rfl rfl | exact rMove rfl) ?_
    refine WL_val rfl rfl rfl (by first | exact rMoveS rfl rfl | exact rMove rfl) ?_
    refine WL_call rfl rfl rfl (rCall (vs := [.int .i64 _, .slice _ _ _, .slice _ _ _]) rfl Tryd.func21 rfl rfl rfl) ?_
    refine (shows_any o A l.length c l A2 c2 order D D2 _ (h.pure hI.pu) (hr.pure hI.pu) (by omega) (hk.pure hI.pu)).mono ?_
    rintro e w1 ⟨hp, ⟨h1, _⟩ | ⟨_, x, ⟨z, rfl⟩, rfl⟩⟩
    · exact absurd h1 hok
    refine ⟨_, rfl, ?_⟩
    replace hI := hI.pure hp
    refine WL_val rfl rfl rfl (by first | exact rMoveT rfl rfl | exact rMove rfl) ?_
    refine WL_val rfl rfl rfl (rExtr rfl rfl rfl) ?_
    refine WL_val rfl rfl rfl (rExtr rfl rfl rfl) ?_
    refine WL_val rfl rfl rfl (by first | exact rAsgnB rfl rfl | exact rAsgn rfl) ?_
    refine WL_val rfl rfl rfl (by first | exact rAsgnN rfl rfl | exact rAsgnE rfl rfl | exact rAsgn rfl) ?_
    refine WL_nil ?_
    refine W_seq ?_
    refine W_region ?_
    refine WL_val rfl rfl rfl (by first | exact rMoveI rfl rfl | exact rMove rfl) ?_
    refine WL_val rfl rfl rfl (by first | exact rMoveS rfl rfl | exact rMove rfl) ?_
    refine WL_val rfl rfl rfl (by first | exact rMoveI rfl rfl | exact rMove rfl) ?_
    refine WL_call rfl rfl rfl (rCall (vs := [.int .i64 _, .int .i64 _]) rfl Tryd.func12 rfl rfl rfl) ?_
    refine (pick_any bz 3000 _ (by omega) (by omega)).mono ?_
    rintro e w2 ⟨rfl, rfl⟩
    refine ⟨_, rfl, ?_⟩
    refine WL_call rfl rfl rfl (rCall (vs := [.int .i64 _, .slice _ _ _, .int .i64 _]) rfl Tryd.func19 rfl rfl rfl) ?_
    refine (chk_any o A l.length c l _ D _ (h.pure hI.pu) (hk.pure hI.pu)).mono ?_
    rintro e w2 (⟨h1, _⟩ | ⟨_, ⟨x, ⟨z, rfl⟩, rfl⟩, hp⟩)
    · exact absurd h1 hokb
    refine ⟨_, rfl, ?_⟩
    replace hI := hI.pure hp
    refine WL_val rfl rfl rfl (by first | exact rMoveT rfl rfl | exact rMove rfl) ?_
    refine WL_val rfl rfl rfl (rExtr rfl rfl rfl) ?_
    refine WL_val rfl rfl rfl (rExtr rfl rfl rfl) ?_
    refine WL_alloc (u := .agg #[.int .i64 0, .slice none 0 0, .int .i64 0]) (vs := #[.int .i64 0, .slice none 0 0, .int .i64 0]) hI rfl rfl rfl rfl (by kernel_rfl) rfl ?_
    clear hI; rintro b11 w - - hI
    first | refine WL_stw0 (u := .agg _) (vs := #[_, _, _]) (n := 3) hI rfl rfl rfl rfl rfl rfl (by kernel_rfl) rfl rfl rfl ?_ | refine WL_stw1 (u := .agg _) (vs := #[_, _, _]) (n := 3) hI rfl rfl rfl rfl rfl rfl (by kernel_rfl) rfl rfl rfl ?_ | refine WL_stw2 (u := .agg _) (vs := #[_, _, _]) (n := 3) hI rfl rfl rfl rfl rfl rfl (by kernel_rfl) rfl rfl rfl ?_ | refine WL_stw3 (u := .agg _) (vs := #[_, _, _]) (n := 3) hI rfl rfl rfl rfl rfl rfl (by kernel_rfl) rfl rfl rfl ?_ | refine WL_stw4 (u := .agg _) (vs := #[_, _, _]) (n := 3) hI rfl rfl rfl rfl rfl rfl (by kernel_rfl) rfl rfl rfl ?_ | refine WL_stw5 (u := .agg _) (vs := #[_, _, _]) (n := 3) hI rfl rfl rfl rfl rfl rfl (by kernel_rfl) rfl rfl rfl ?_
    clear hI; intro w hI
    refine WL_val rfl rfl rfl (by first | exact rAsgnN rfl rfl | exact rAsgnE rfl rfl | exact rAsgn rfl) ?_
    refine WL_nil ?_
    refine W_seq ?_
    refine W_seq ?_
    refine W_region ?_
    refine WL_call rfl rfl rfl (rCall (vs := []) rfl Tryd.func20 rfl rfl rfl) ?_
    refine (ltold_any _ (hk.pure hI.pu)).mono ?_
    rintro e w2 ⟨rfl, hp⟩
    refine ⟨_, rfl, ?_⟩
    replace hI := hI.pure hp
    refine WL_val rfl rfl rfl (by first | exact rNotT rfl rfl | exact rNotF rfl rfl | exact rNot rfl rfl) ?_
    refine WL_val rfl rfl rfl (by first | exact rMoveB rfl rfl | exact rMove rfl) ?_
    first | refine WL_val rfl rfl rfl (by first | exact rMoveN rfl rfl | exact rMoveE rfl rfl | exact rMove rfl) ?_ | refine WL_skip rfl rfl rfl ?_
    first | refine WL_val rfl rfl rfl (by first | exact rIfaceNe rfl Tryd.underlying35 rfl rfl | exact rNilNe rfl Tryd.underlying35 rfl) ?_ | refine WL_skip rfl rfl rfl ?_
    refine WL_val rfl rfl rfl (by first | exact rPickTB rfl rfl rfl | exact rPickFB rfl rfl rfl | exact rPickB rfl rfl rfl rfl) ?_
    refine WL_val rfl rfl rfl (by first | exact rMoveB rfl rfl | exact rMove rfl) ?_
    first | refine WL_val rfl rfl rfl (by first | exact rMoveN rfl rfl | exact rMoveE rfl rfl | exact rMove rfl) ?_ | refine WL_skip rfl rfl rfl ?_
    first | refine WL_val rfl rfl rfl (by first | exact rIfaceNe rfl Tryd.underlying35 rfl rfl | exact rNilNe rfl Tryd.underlying35 rfl) ?_ | refine WL_skip rfl rfl rfl ?_
    refine WL_val rfl rfl rfl (by first | exact rPickTB rfl rfl rfl | exact rPickFB rfl rfl rfl | exact rPickB rfl rfl rfl rfl) ?_
    refine WL_nil ?_
    refine W_cond true rfl ?_
    refine W_seq ?_
    refine W_region ?_
    refine WL_call rfl rfl rfl (rCall (vs := []) rfl Tryd.func20 rfl rfl rfl) ?_
    refine (ltold_any _ (hk.pure hI.pu)).mono ?_
    rintro e w2 ⟨rfl, hp⟩
    refine ⟨_, rfl, ?_⟩
    replace hI := hI.pure hp
    refine WL_val rfl rfl rfl (by first | exact rMoveB rfl rfl | exact rMove rfl) ?_
    first | refine WL_val rfl rfl rfl (by first | exact rMoveN rfl rfl | exact rMoveE rfl rfl | exact rMove rfl) ?_ | refine WL_skip rfl rfl rfl ?_
    first | refine WL_val rfl rfl rfl (by first | exact rIfaceNe rfl Tryd.underlying35 rfl rfl | exact rNilNe rfl Tryd.underlying35 rfl) ?_ | refine WL_skip rfl rfl rfl ?_
    refine WL_val rfl rfl rfl (by first | exact rPickTB rfl rfl rfl | exact rPickFB rfl rfl rfl | exact rPickB rfl rfl rfl rfl) ?_
    refine WL_val rfl rfl rfl (by first | exact rMoveB rfl rfl | exact rMove rfl) ?_
    first | refine WL_val rfl rfl rfl (by first | exact rMoveN rfl rfl | exact rMoveE rfl rfl | exact rMove rfl) ?_ | refine WL_skip rfl rfl rfl ?_
    first | refine WL_val rfl rfl rfl (by first | exact rIfaceNe rfl Tryd.underlying35 rfl rfl | exact rNilNe rfl Tryd.underlying35 rfl) ?_ | refine WL_skip rfl rfl rfl ?_
    refine WL_val rfl rfl rfl (by first | exact rPickTB rfl rfl rfl | exact rPickFB rfl rfl rfl | exact rPickB rfl rfl rfl rfl) ?_
    refine WL_val rfl rfl rfl (by first | exact rAsgnB rfl rfl | exact rAsgn rfl) ?_
    refine WL_nil ?_
    refine W_ret ?_
    exact ret1 8 (.inr rfl) rfl ⟨rfl, hI.pu⟩
end Go.Proofs.YtlmpolmalgpodaaDoor
