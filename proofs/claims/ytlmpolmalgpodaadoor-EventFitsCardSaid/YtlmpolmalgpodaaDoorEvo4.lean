/- EventFits: the law's walk. -/
import Derived.Test.YtlmpolmalgpodaaDoorEvo3
namespace Go.Proofs.YtlmpolmalgpodaaDoor
open Go.RowKit
set_option linter.unusedVariables false
set_option linter.unusedSimpArgs false
theorem evsL_len (l : List Ev) : (l.flatMap evL).length = l.length * 7 := flat_lenG (f := evL) (fun _ => rfl) l
theorem EvsR.of_blk {w : World} {g T : Nat} {cs : Array Value} (l : List Ev) (hb : Blk w g T cs) (hc : cs.toList = l.flatMap evL) (hl : l.length ≤ 100000) : EvsR w (fun _ => True) (.slice (some ⟨g, 0, none⟩) l.length l.length) l :=
  ⟨_, _, rfl, Nat.le_refl _, by omega, evsL_len l, fun _ => ⟨g, 0, rfl, trivial, fun j u hj => by
    rw [Nat.zero_add, hb.cell, ← Array.getElem?_toList, hc]; exact hj⟩⟩
def seenE : List Ev := [⟨2, 1, 0, 4, 3, 0, 0⟩, ⟨2, 2, 0, 4, 3, 0, 3⟩]
theorem seen_out : evF seenE = some [⟨2, 0, 4, 3, 0, 3, 0, 1⟩] := by decide +kernel
theorem seen_any (w0 : World) (hg : GlobOk w0) : Calls Tryd.prog 17 #[] w0 fun en w' => en = .returned (.bool true) ∧ Pure w0 w' := by
  have hI := Inv.start (fun _ => False) w0
  refine calls_of_W (N := Tryd.f17.ntmps) Tryd.func17 rfl rfl rfl ?_
  refine W_seq ?_
  refine W_region ?_
  refine WL_val rfl rfl rfl (by first | exact rAsgnB rfl rfl | exact rAsgn rfl) ?_
  refine WL_nil ?_
  refine W_seq ?_
  refine W_region ?_
  refine WL_val rfl rfl rfl (rBuild (qs := [(0, .int .i64 _), (1, .int .i64 _), (3, .int .i64 _), (4, .int .i64 _)]) (vs := [_, _, _, _, _, _, _]) [.int .i64 0, .int .i64 0, .int .i64 0, .int .i64 0, .int .i64 0, .int .i64 0, .int .i64 0] [0, 1, 3, 4] rfl rfl rfl (fun _ => by kernel_rfl)) ?_
  refine WL_val rfl rfl rfl (rBuild (qs := [(0, .int .i64 _), (1, .int .i64 _), (3, .int .i64 _), (4, .int .i64 _), (6, .int .i64 _)]) (vs := [_, _, _, _, _, _, _]) [.int .i64 0, .int .i64 0, .int .i64 0, .int .i64 0, .int .i64 0, .int .i64 0, .int .i64 0] [0, 1, 3, 4, 6] rfl rfl rfl (fun _ => by kernel_rfl)) ?_
  refine WL_lit (vs := [_, _, _, _, _, _, _, _, _, _, _, _, _, _]) (qs := [(0, .agg #[_, _, _, _, _, _, _]), (1, .agg #[_, _, _, _, _, _, _])]) [.int .i64 0, .int .i64 0, .int .i64 0, .int .i64 0, .int .i64 0, .int .i64 0, .int .i64 0, .int .i64 0, .int .i64 0, .int .i64 0, .int .i64 0, .int .i64 0, .int .i64 0, .int .i64 0] [0, 7] hI rfl rfl rfl rfl rfl rfl Tryd.underlying33 (fun _ => by kernel_rfl) ?_
  clear hI; rintro b6 w - - hI
  refine WL_call rfl rfl rfl (rCall (vs := [.slice _ _ _]) rfl Tryd.func16 rfl rfl rfl) ?_
  refine (evops_any _ 2 2 seenE _ _ (EvsR.of_blk seenE hI.g0 rfl (by decide)) (hI.oldp hg)).mono ?_
  rintro e w1 hP
  unfold EvPost at hP
  rw [seen_out] at hP
  obtain ⟨A', c', rfl, hT⟩ := hP
  refine ⟨_, rfl, ?_⟩
  replace hI := hI.app1 hT
  refine WL_val rfl rfl rfl (by first | exact rMoveT rfl rfl | exact rMove rfl) ?_
  refine WL_val rfl rfl rfl (rExtr rfl rfl rfl) ?_
  refine WL_val rfl rfl rfl (rExtr rfl rfl rfl) ?_
  refine WL_val rfl rfl rfl (by first | exact rAsgnS rfl rfl | exact rAsgn rfl) ?_
  refine WL_val rfl rfl rfl (by first | exact rAsgnN rfl rfl | exact rAsgnE rfl rfl | exact rAsgn rfl) ?_
  refine WL_nil ?_
  obtain ⟨bO, _, rfl, -, -, -, -, -, -⟩ := row_openB hI.g0 (by decide)
  have hx7 : w1.cell? ⟨bO, 0 + 0 * 8 + 7, none⟩ = some (.int .i64 1) := row_op hI.g0 rfl (by decide) rfl
  have hx5 : w1.cell? ⟨bO, 0 + 0 * 8 + 5, none⟩ = some (.int .i64 3) := row_op hI.g0 rfl (by decide) rfl
  refine W_seq ?_
  refine W_region ?_
  refine WL_val rfl rfl rfl (by first | exact rMoveN rfl rfl | exact rMoveE rfl rfl | exact rMove rfl) ?_
  refine WL_val rfl rfl rfl (by first | exact rIfaceEq rfl Tryd.underlying35 rfl rfl | exact rNilEq rfl Tryd.underlying35 rfl) ?_
  refine WL_val rfl rfl rfl (by first | exact rMoveB rfl rfl | exact rMove rfl) ?_
  first | refine WL_val rfl rfl rfl (by first | exact rMoveS rfl rfl | exact rMove rfl) ?_ | refine WL_skip rfl rfl rfl ?_
  first | refine WL_val rfl rfl rfl (rLen rfl Tryd.underlying24 rfl) ?_ | refine WL_skip rfl rfl rfl ?_
  first | refine WL_val rfl rfl rfl (by first | exact rEqlT rfl rfl rfl (by omega) | exact rEqlF rfl rfl rfl (by omega) | exact rEql rfl rfl rfl) ?_ | refine WL_skip rfl rfl rfl ?_
  refine WL_val rfl rfl rfl (by first | exact rPickTB rfl rfl rfl | exact rPickFB rfl rfl rfl | exact rPickB rfl rfl rfl rfl) ?_
  refine WL_val rfl rfl rfl (by first | exact rMoveB rfl rfl | exact rMove rfl) ?_
  first | refine WL_val rfl rfl rfl (by first | exact rMoveS rfl rfl | exact rMove rfl) ?_ | refine WL_skip rfl rfl rfl ?_
  first | refine WL_val rfl rfl rfl (rIdx (sz := 8) (i := 0) rfl Tryd.underlying24 (by kernel_rfl) rfl rfl (by decide)) ?_ | refine WL_skip rfl rfl rfl ?_
  first | refine WL_val rfl rfl rfl (by first | exact rFldN (off := 7) rfl (by kernel_rfl) rfl | exact rFld (off := 7) rfl (by kernel_rfl) rfl) ?_ | refine WL_skip rfl rfl rfl ?_
  first | refine WL_val rfl rfl rfl (by first | exact rLd (v := .int .i64 _) rfl (by kernel_rfl) rfl (by first | exact hI.oldp hx7 | exact hx7 | exact hI.oldp hx5 | exact hx5) | exact rLd rfl (by kernel_rfl) rfl (by first | exact hI.oldp hx7 | exact hx7 | exact hI.oldp hx5 | exact hx5)) ?_ | refine WL_skip rfl rfl rfl ?_
  first | refine WL_val rfl rfl rfl (by first | exact rEqlT rfl rfl rfl (by omega) | exact rEqlF rfl rfl rfl (by omega) | exact rEql rfl rfl rfl) ?_ | refine WL_skip rfl rfl rfl ?_
  refine WL_val rfl rfl rfl (by first | exact rPickTB rfl rfl rfl | exact rPickFB rfl rfl rfl | exact rPickB rfl rfl rfl rfl) ?_
  refine WL_val rfl rfl rfl (by first | exact rMoveB rfl rfl | exact rMove rfl) ?_
  first | refine WL_val rfl rfl rfl (by first | exact rMoveS rfl rfl | exact rMove rfl) ?_ | refine WL_skip rfl rfl rfl ?_
  first | refine WL_val rfl rfl rfl (rIdx (sz := 8) (i := 0) rfl Tryd.underlying24 (by kernel_rfl) rfl rfl (by decide)) ?_ | refine WL_skip rfl rfl rfl ?_
  first | refine WL_val rfl rfl rfl (by first | exact rFldN (off := 5) rfl (by kernel_rfl) rfl | exact rFld (off := 5) rfl (by kernel_rfl) rfl) ?_ | refine WL_skip rfl rfl rfl ?_
  first | refine WL_val rfl rfl rfl (by first | exact rLd (v := .int .i64 _) rfl (by kernel_rfl) rfl (by first | exact hI.oldp hx7 | exact hx7 | exact hI.oldp hx5 | exact hx5) | exact rLd rfl (by kernel_rfl) rfl (by first | exact hI.oldp hx7 | exact hx7 | exact hI.oldp hx5 | exact hx5)) ?_ | refine WL_skip rfl rfl rfl ?_
  first | refine WL_val rfl rfl rfl (by first | exact rEqlT rfl rfl rfl (by omega) | exact rEqlF rfl rfl rfl (by omega) | exact rEql rfl rfl rfl) ?_ | refine WL_skip rfl rfl rfl ?_
  refine WL_val rfl rfl rfl (by first | exact rPickTB rfl rfl rfl | exact rPickFB rfl rfl rfl | exact rPickB rfl rfl rfl rfl) ?_
  refine WL_val rfl rfl rfl (by first | exact rAsgnB rfl rfl | exact rAsgn rfl) ?_
  refine WL_nil ?_
  refine W_ret ?_
  exact ret1 0 (.inr rfl) rfl ⟨rfl, hI.pu⟩
theorem OpsE_rd {S : Nat → Prop} {w0 w : World} {H : List Ent} {A : Option Addr} {c : Nat} {l : List Op8} (h : Inv S w0 w (OpsE A c l :: H)) : OpsR w (fun _ => True) (.slice A l.length c) l := Rd.of_own (D := fun _ => True) h.g0 (fun _ _ _ => trivial)
theorem runE_len : ∀ (r : List Ev) (i : Nat) (s s' : SeeS), runE r i s = some s' → s'.ops.length ≤ s.ops.length + r.length
  | [], i, s, s', h => by
    simp only [runE, Option.some.injEq] at h
    subst h
    exact Nat.le_add_right _ _
  | e :: r, i, s, s', h => by
    rw [runE] at h
    cases hs : stepE e i s with
    | none => rw [hs] at h; cases h
    | some s1 =>
      rw [hs] at h
      have h1 := stepE_len hs
      have h2 := runE_len r (i + 1) s1 s' h
      rw [List.length_cons]
      omega
theorem evF_len {l : List Ev} {out : List Op8} (h : evF l = some out) : out.length ≤ 120 := by
  obtain ⟨s, h120, hr, _, rfl⟩ := evF_some h
  have h1 := runE_len l 0 initE s hr
  have h2 : (keptF s s.ops.length).length ≤ (List.range s.ops.length).length := List.length_filter_le ..
  rw [outF_len]
  have : initE.ops.length = 0 := rfl
  simp at h2
  omega
set_option maxHeartbeats 8000000 in
theorem eventFits_any (A : Option Addr) (n c : Nat) (l : List Ev) (D : Nat → Prop) (w0 : World) (h : EvsR w0 D (.slice A n c) l) (hg : GlobOk w0) : Calls Tryd.prog 4 #[.slice A n c] w0 fun en w' => en = .returned (.bool true) ∧ Pure w0 w' := by
  obtain ⟨hn, hc1, hc2⟩ := h.len
  subst hn
  have hI := Inv.start (fun _ => False) w0
  refine calls_of_W (N := Tryd.f4.ntmps) Tryd.func4 rfl rfl rfl ?_
  refine W_seq ?_
  refine W_region ?_
  refine WL_val rfl rfl rfl (by first | exact rAsgnB rfl rfl | exact rAsgn rfl) ?_
  refine WL_nil ?_
  by_cases h130 : l.length ≤ 130
  rotate_left
  · refine W_seq ?_
    refine W_seq ?_
    refine W_region ?_
    refine WL_val rfl rfl rfl (by first | exact rMoveS rfl rfl | exact rMove rfl) ?_
    refine WL_val rfl rfl rfl (rLen rfl Tryd.underlying33 rfl) ?_
    refine WL_val rfl rfl rfl (by first | exact rGtrT rfl rfl rfl (by omega) | exact rGtrF rfl rfl rfl (by omega) | exact rGtr rfl rfl rfl) ?_
    refine WL_nil ?_
    refine W_cond true rfl ?_
    refine W_seq ?_
    refine W_region ?_
    refine WL_val rfl rfl rfl (by first | exact rAsgnB rfl rfl | exact rAsgn rfl) ?_
    refine WL_nil ?_
    refine W_ret ?_
    exact ret1 2 (.inr rfl) rfl ⟨rfl, hI.pu⟩
  refine W_seq ?_
  refine W_seq ?_
  refine W_region ?_
  refine WL_val rfl rfl rfl (by first | exact rMoveS rfl rfl | exact rMove rfl) ?_
  refine WL_val rfl rfl rfl (rLen rfl Tryd.underlying33 rfl) ?_
  refine WL_val rfl rfl rfl (by first | exact rGtrT rfl rfl rfl (by omega) | exact rGtrF rfl rfl rfl (by omega) | exact rGtr rfl rfl rfl) ?_
  refine WL_nil ?_
  refine W_cond false rfl ?_
  refine W_skip ?_
  cases hev : evF l with
  | none =>
    refine W_seq ?_
    refine W_region ?_
    refine WL_val rfl rfl rfl (by first | exact rMoveS rfl rfl | exact rMove rfl) ?_
    refine WL_call rfl rfl rfl (rCall (vs := [.slice _ _ _]) rfl Tryd.func16 rfl rfl rfl) ?_
    refine (evops_any A l.length c l D _ (h.pure hI.pu) (hI.oldp hg)).mono ?_
    rintro e w1 hP
    unfold EvPost at hP
    rw [hev] at hP
    obtain ⟨hp, t, v, rfl⟩ := hP
    refine ⟨_, rfl, ?_⟩
    replace hI := hI.pure hp
    refine WL_val rfl rfl rfl (by first | exact rMoveT rfl rfl | exact rMove rfl) ?_
    refine WL_val rfl rfl rfl (rExtr rfl rfl rfl) ?_
    refine WL_val rfl rfl rfl (rExtr rfl rfl rfl) ?_
    refine WL_val rfl rfl rfl (by first | exact rAsgnS rfl rfl | exact rAsgn rfl) ?_
    refine WL_val rfl rfl rfl (by first | exact rAsgnN rfl rfl | exact rAsgnE rfl rfl | exact rAsgn rfl) ?_
    refine WL_nil ?_
    refine W_seq ?_
    refine W_seq ?_
    refine W_region ?_
    refine WL_call rfl rfl rfl (rCall (vs := []) rfl Tryd.func17 rfl rfl rfl) ?_
    refine (seen_any _ (hI.oldp hg)).mono ?_
    rintro e w2 ⟨rfl, hp⟩
    refine ⟨_, rfl, ?_⟩
    replace hI := hI.pure hp
    refine WL_val rfl rfl rfl (by first | exact rNotT rfl rfl | exact rNotF rfl rfl | exact rNot rfl rfl) ?_
    refine WL_val rfl rfl rfl (by first | exact rMoveB rfl rfl | exact rMove rfl) ?_
    first | refine WL_val rfl rfl rfl (by first | exact rMoveN rfl rfl | exact rMoveE rfl rfl | exact rMove rfl) ?_ | refine WL_skip rfl rfl rfl ?_
    first | refine WL_val rfl rfl rfl (by first | exact rIfaceNe rfl Tryd.underlying35 rfl rfl | exact rNilNe rfl Tryd.underlying35 rfl) ?_ | refine WL_skip rfl rfl rfl ?_
    refine WL_val rfl rfl rfl (by first | exact rPickTB rfl rfl rfl | exact rPickFB rfl rfl rfl | exact rPickB rfl rfl rfl rfl) ?_
    refine WL_nil ?_
    refine W_cond true rfl ?_
    refine W_seq ?_
    refine W_region ?_
    refine WL_call rfl rfl rfl (rCall (vs := []) rfl Tryd.func17 rfl rfl rfl) ?_
    refine (seen_any _ (hI.oldp hg)).mono ?_
    rintro e w2 ⟨rfl, hp⟩
    refine ⟨_, rfl, ?_⟩
    replace hI := hI.pure hp
    refine WL_val rfl rfl rfl (by first | exact rMoveB rfl rfl | exact rMove rfl) ?_
    first | refine WL_val rfl rfl rfl (by first | exact rMoveS rfl rfl | exact rMove rfl) ?_ | refine WL_skip rfl rfl rfl ?_
    first | refine WL_val rfl rfl rfl (rLen rfl Tryd.underlying24 rfl) ?_ | refine WL_skip rfl rfl rfl ?_
    first | refine WL_val rfl rfl rfl (by first | exact rEqlT rfl rfl rfl (by omega) | exact rEqlF rfl rfl rfl (by omega) | exact rEql rfl rfl rfl) ?_ | refine WL_skip rfl rfl rfl ?_
    refine WL_val rfl rfl rfl (by first | exact rPickTB rfl rfl rfl | exact rPickFB rfl rfl rfl | exact rPickB rfl rfl rfl rfl) ?_
    refine WL_val rfl rfl rfl (by first | exact rAsgnB rfl rfl | exact rAsgn rfl) ?_
    refine WL_nil ?_
    refine W_ret ?_
    exact ret1 2 (.inr rfl) rfl ⟨rfl, hI.pu⟩
  | some out =>
  have hlo := evF_len hev
  obtain ⟨s, h120, -, hok, rfl⟩ := evF_some hev
  have hco := fun k (hk : k < (outF s).length) => out_called hok hk
  have hoo := fun h40 => out_ok hok h120 h40
  generalize outF s = out at *
  refine W_seq ?_
  refine W_region ?_
  refine WL_val rfl rfl rfl (by first | exact rMoveS rfl rfl | exact rMove rfl) ?_
  refine WL_call rfl rfl rfl (rCall (vs := [.slice _ _ _]) rfl Tryd.func16 rfl rfl rfl) ?_
  refine (evops_any A l.length c l D _ (h.pure hI.pu) (hI.oldp hg)).mono ?_
  rintro e w1 hP
  unfold EvPost at hP
  rw [hev] at hP
  obtain ⟨A', c', rfl, hT⟩ := hP
  refine ⟨_, rfl, ?_⟩
  replace hI := hI.app1 hT
  refine WL_val rfl rfl rfl (by first | exact rMoveT rfl rfl | exact rMove rfl) ?_
  refine WL_val rfl rfl rfl (rExtr rfl rfl rfl) ?_
  refine WL_val rfl rfl rfl (rExtr rfl rfl rfl) ?_
  refine WL_val rfl rfl rfl (by first | exact rAsgnS rfl rfl | exact rAsgn rfl) ?_
  refine WL_val rfl rfl rfl (by first | exact rAsgnN rfl rfl | exact rAsgnE rfl rfl | exact rAsgn rfl) ?_
  refine WL_nil ?_
  refine W_seq ?_
  refine W_seq ?_
  refine W_region ?_
  refine WL_call rfl rfl rfl (rCall (vs := []) rfl Tryd.func17 rfl rfl rfl) ?_
  refine (seen_any _ (hI.oldp hg)).mono ?_
  rintro e w2 ⟨rfl, hp⟩
  refine ⟨_, rfl, ?_⟩
  replace hI := hI.pure hp
  refine WL_val rfl rfl rfl (by first | exact rNotT rfl rfl | exact rNotF rfl rfl | exact rNot rfl rfl) ?_
  refine WL_val rfl rfl rfl (by first | exact rMoveB rfl rfl | exact rMove rfl) ?_
  first | refine WL_val rfl rfl rfl (by first | exact rMoveN rfl rfl | exact rMoveE rfl rfl | exact rMove rfl) ?_ | refine WL_skip rfl rfl rfl ?_
  first | refine WL_val rfl rfl rfl (by first | exact rIfaceNe rfl Tryd.underlying35 rfl rfl | exact rNilNe rfl Tryd.underlying35 rfl) ?_ | refine WL_skip rfl rfl rfl ?_
  refine WL_val rfl rfl rfl (by first | exact rPickTB rfl rfl rfl | exact rPickFB rfl rfl rfl | exact rPickB rfl rfl rfl rfl) ?_
  refine WL_nil ?_
  refine W_cond false rfl ?_
  refine W_skip ?_
  refine W_seq_cut (fun ρ w => Has ρ [(0, .slice A l.length c), (3, .slice A' out.length c')] ∧ Inv (fun _ => False) w0 w [OpsE A' c' out]) ?_ ?_
  · by_cases h40 : out.length ≤ 40
    · refine W_seq ?_
      refine W_region ?_
      refine WL_val rfl rfl rfl (by first | exact rMoveS rfl rfl | exact rMove rfl) ?_
      refine WL_val rfl rfl rfl (rLen rfl Tryd.underlying24 rfl) ?_
      refine WL_val rfl rfl rfl (by first | exact rLeqT rfl rfl rfl (by omega) | exact rLeqF rfl rfl rfl (by omega) | exact rLeq rfl rfl rfl) ?_
      refine WL_val rfl rfl rfl (by first | exact rMoveB rfl rfl | exact rMove rfl) ?_
      first | refine WL_val rfl rfl rfl (by first | exact rMoveS rfl rfl | exact rMove rfl) ?_ | refine WL_skip rfl rfl rfl ?_
      refine WL_call rfl rfl rfl (rCall (vs := [.slice _ _ _]) rfl Tryd.func18 rfl rfl rfl) ?_
      refine (checkOps_any A' out.length c' out _ _ (OpsE_rd hI)).mono ?_
      rintro e w2 ⟨hp, ⟨_, rfl⟩ | ⟨h1, _⟩⟩
      rotate_left
      · exact absurd (hoo h40) h1
      refine ⟨_, rfl, ?_⟩
      replace hI := hI.pure hp
      first | refine WL_val rfl rfl rfl (by first | exact rIfaceNe rfl Tryd.underlying35 rfl rfl | exact rNilNe rfl Tryd.underlying35 rfl) ?_ | refine WL_skip rfl rfl rfl ?_
      refine WL_val rfl rfl rfl (by first | exact rPickTB rfl rfl rfl | exact rPickFB rfl rfl rfl | exact rPickB rfl rfl rfl rfl) ?_
      refine WL_nil ?_
      refine W_cond false rfl ?_
      refine W_skip ?_
      exact ⟨⟨rfl, rfl, trivial⟩, hI⟩
    · refine W_seq ?_
      refine W_region ?_
      refine WL_val rfl rfl rfl (by first | exact rMoveS rfl rfl | exact rMove rfl) ?_
      refine WL_val rfl rfl rfl (rLen rfl Tryd.underlying24 rfl) ?_
      refine WL_val rfl rfl rfl (by first | exact rLeqT rfl rfl rfl (by omega) | exact rLeqF rfl rfl rfl (by omega) | exact rLeq rfl rfl rfl) ?_
      refine WL_val rfl rfl rfl (by first | exact rMoveB rfl rfl | exact rMove rfl) ?_
      refine WL_skip rfl rfl rfl ?_
      refine WL_skip rfl rfl rfl ?_
      refine WL_skip rfl rfl rfl ?_
      refine WL_val rfl rfl rfl (by first | exact rPickTB rfl rfl rfl | exact rPickFB rfl rfl rfl | exact rPickB rfl rfl rfl rfl) ?_
      refine WL_nil ?_
      refine W_cond false rfl ?_
      refine W_skip ?_
      exact ⟨⟨rfl, rfl, trivial⟩, hI⟩
  clear hI
  rintro ρ w ⟨hH, hI⟩
  obtain ⟨σ, rfl⟩ := hH.open
  refine W_seq ?_
  refine W_seq ?_
  refine W_region ?_
  refine WL_val rfl rfl rfl (by first | exact rAsgnI rfl rfl | exact rAsgn rfl) ?_
  refine WL_nil ?_
  refine W_block ?_
  refine W_loopN (fun mu ρ w => ∃ k : Nat, mu = out.length - k ∧ k ≤ out.length ∧ Has ρ [(5, .int .i64 (k : Int)), (0, .slice A l.length c), (3, .slice A' out.length c')] ∧ Inv (fun _ => False) w0 w [OpsE A' c' out]) out.length
    ⟨0, rfl, by omega, ⟨rfl, rfl, rfl, trivial⟩, hI⟩ ?_
  clear hI
  rintro mu ρ w ⟨k, rfl, hk, hH, hI⟩
  obtain ⟨σ, rfl⟩ := hH.open
  by_cases hkl : k < out.length
  rotate_left
  · obtain rfl : k = out.length := by omega
    refine W_seq ?_
    refine W_seq ?_
    refine W_region ?_
    refine WL_val rfl rfl rfl (by first | exact rMoveI rfl rfl | exact rMove rfl) ?_
    refine WL_val rfl rfl rfl (by first | exact rMoveS rfl rfl | exact rMove rfl) ?_
    refine WL_val rfl rfl rfl (rLen rfl Tryd.underlying24 rfl) ?_
    refine WL_val rfl rfl rfl (by first | exact rLssT rfl rfl rfl (by omega) | exact rLssF rfl rfl rfl (by omega) | exact rLss rfl rfl rfl) ?_
    refine WL_nil ?_
    refine W_cond false rfl ?_
    refine W_exit ?_
    refine W_seq ?_
    refine W_region ?_
    refine WL_val rfl rfl rfl (by first | exact rAsgnB rfl rfl | exact rAsgn rfl) ?_
    refine WL_nil ?_
    refine W_ret ?_
    exact ret1 2 (.inr rfl) rfl ⟨rfl, hI.pu⟩
  obtain ⟨bO, _, rfl, -, -, -, -, -, -⟩ := row_openB hI.g0 (by omega)
  have hoc : ∀ (j : Nat) (u : Value), (opV (oAt out k))[j]? = some u → w.cell? ⟨bO, 0 + k * 8 + j, none⟩ = some u := fun j u hj => row_op hI.g0 rfl hkl hj
  obtain ⟨cc, q1, q2, q3, e, q4, q5, q6, q7, q8, q9, q10⟩ := hco k hkl
  obtain ⟨bA, oA, rfl, hec⟩ := h.at q1
  have hee : evAt l cc = e := by
    have := evAt_get q1
    rw [q4] at this
    injection this with this
    exact this.symm
  rw [hee] at hec
  generalize hpk : oAt out k = pk at hoc q2 q3 q6 q7 q8 q9 q10
  obtain ⟨p0, p1, p2, p3, p4, p5, p6, p7⟩ := pk
  obtain ⟨e0, e1, e2, e3, e4, e5, e6⟩ := e
  simp only at q2 q3 q5 q6 q7 q8 q9 q10
  subst q2
  refine W_seq ?_
  refine W_seq ?_
  refine W_region ?_
  refine WL_val rfl rfl rfl (by first | exact rMoveI rfl rfl | exact rMove rfl) ?_
  refine WL_val rfl rfl rfl (by first | exact rMoveS rfl rfl | exact rMove rfl) ?_
  refine WL_val rfl rfl rfl (rLen rfl Tryd.underlying24 rfl) ?_
  refine WL_val rfl rfl rfl (by first | exact rLssT rfl rfl rfl (by omega) | exact rLssF rfl rfl rfl (by omega) | exact rLss rfl rfl rfl) ?_
  refine WL_nil ?_
  refine W_cond true rfl ?_
  refine W_skip ?_
  refine W_seq ?_
  refine W_block ?_
  refine W_seq ?_
  refine W_region ?_
  refine WL_val rfl rfl rfl (by first | exact rMoveS rfl rfl | exact rMove rfl) ?_
  refine WL_val rfl rfl rfl (by first | exact rMoveI rfl rfl | exact rMove rfl) ?_
  refine WL_val rfl rfl rfl (rIdx (sz := 8) rfl Tryd.underlying24 (by kernel_rfl) rfl rfl (by omega)) ?_
  refine WL_val rfl rfl rfl (by first | exact rLdB (n := 8) rfl (by kernel_rfl) (by kernel_rfl) rfl rfl hI.g0 | exact rLdA (n := 8) rfl (by kernel_rfl) (by kernel_rfl) rfl (by rfl) (fun k u hk => hI.oldp (hoc k u hk)) | exact rLdA (n := 8) rfl (by kernel_rfl) (by kernel_rfl) rfl (by rfl) hoc) ?_
  refine WL_alloc (u := .agg #[.int .i64 0, .int .i64 0, .int .i64 0, .int .i64 0, .int .i64 0, .int .i64 0, .int .i64 0, .int .i64 0]) (vs := #[.int .i64 0, .int .i64 0, .int .i64 0, .int .i64 0, .int .i64 0, .int .i64 0, .int .i64 0, .int .i64 0]) hI rfl rfl rfl rfl (by kernel_rfl) rfl ?_
  clear hI; rintro b6 w - - hI
  first | refine WL_stw0 (u := .agg _) (vs := #[_, _, _, _, _, _, _, _]) (n := 8) hI rfl rfl rfl rfl rfl rfl (by kernel_rfl) rfl rfl rfl ?_
  clear hI; intro w hI
  refine WL_nil ?_
  simp only [opV] at hI
  refine W_seq ?_
  refine W_seq ?_
  refine W_region ?_
  refine WL_val rfl rfl rfl (by first | exact rFldN (off := 6) rfl (by kernel_rfl) rfl | exact rFld (off := 6) rfl (by kernel_rfl) rfl) ?_
  refine WL_val rfl rfl rfl (by first | exact rLd (v := .int .i64 _) rfl (by kernel_rfl) rfl (by first | exact hI.c0 rfl | exact hI.c1 rfl | exact hI.c2 rfl | exact hI.c3 rfl | exact hI.c4 rfl | exact hI.c5 rfl) | exact rLd rfl (by kernel_rfl) rfl (by first | exact hI.c0 rfl | exact hI.c1 rfl | exact hI.c2 rfl | exact hI.c3 rfl | exact hI.c4 rfl | exact hI.c5 rfl)) ?_
  refine WL_val rfl rfl rfl (by first | exact rLssT rfl rfl rfl (by omega) | exact rLssF rfl rfl rfl (by omega) | exact rLss rfl rfl rfl) ?_
  refine WL_val rfl rfl rfl (by first | exact rMoveB rfl rfl | exact rMove rfl) ?_
  first | refine WL_val rfl rfl rfl (by first | exact rFldN (off := 6) rfl (by kernel_rfl) rfl | exact rFld (off := 6) rfl (by kernel_rfl) rfl) ?_ | refine WL_skip rfl rfl rfl ?_
  first | refine WL_val rfl rfl rfl (by first | exact rLd (v := .int .i64 _) rfl (by kernel_rfl) rfl (by first | exact hI.c0 rfl | exact hI.c1 rfl | exact hI.c2 rfl | exact hI.c3 rfl | exact hI.c4 rfl | exact hI.c5 rfl) | exact rLd rfl (by kernel_rfl) rfl (by first | exact hI.c0 rfl | exact hI.c1 rfl | exact hI.c2 rfl | exact hI.c3 rfl | exact hI.c4 rfl | exact hI.c5 rfl)) ?_ | refine WL_skip rfl rfl rfl ?_
  first | refine WL_val rfl rfl rfl (by first | exact rMoveS rfl rfl | exact rMove rfl) ?_ | refine WL_skip rfl rfl rfl ?_
  first | refine WL_val rfl rfl rfl (rLen rfl Tryd.underlying33 rfl) ?_ | refine WL_skip rfl rfl rfl ?_
  first | refine WL_val rfl rfl rfl (by first | exact rGeqT rfl rfl rfl (by omega) | exact rGeqF rfl rfl rfl (by omega) | exact rGeq rfl rfl rfl) ?_ | refine WL_skip rfl rfl rfl ?_
  refine WL_val rfl rfl rfl (by first | exact rPickTB rfl rfl rfl | exact rPickFB rfl rfl rfl | exact rPickB rfl rfl rfl rfl) ?_
  refine WL_val rfl rfl rfl (by first | exact rMoveB rfl rfl | exact rMove rfl) ?_
  first | refine WL_val rfl rfl rfl (by first | exact rFldN (off := 7) rfl (by kernel_rfl) rfl | exact rFld (off := 7) rfl (by kernel_rfl) rfl) ?_ | refine WL_skip rfl rfl rfl ?_
  first | refine WL_val rfl rfl rfl (by first | exact rLd (v := .int .i64 _) rfl (by kernel_rfl) rfl (by first | exact hI.c0 rfl | exact hI.c1 rfl | exact hI.c2 rfl | exact hI.c3 rfl | exact hI.c4 rfl | exact hI.c5 rfl) | exact rLd rfl (by kernel_rfl) rfl (by first | exact hI.c0 rfl | exact hI.c1 rfl | exact hI.c2 rfl | exact hI.c3 rfl | exact hI.c4 rfl | exact hI.c5 rfl)) ?_ | refine WL_skip rfl rfl rfl ?_
  first | refine WL_val rfl rfl rfl (by first | exact rMoveS rfl rfl | exact rMove rfl) ?_ | refine WL_skip rfl rfl rfl ?_
  first | refine WL_val rfl rfl rfl (rLen rfl Tryd.underlying33 rfl) ?_ | refine WL_skip rfl rfl rfl ?_
  first | refine WL_val rfl rfl rfl (by first | exact rGeqT rfl rfl rfl (by omega) | exact rGeqF rfl rfl rfl (by omega) | exact rGeq rfl rfl rfl) ?_ | refine WL_skip rfl rfl rfl ?_
  refine WL_val rfl rfl rfl (by first | exact rPickTB rfl rfl rfl | exact rPickFB rfl rfl rfl | exact rPickB rfl rfl rfl rfl) ?_
  refine WL_nil ?_
  refine W_cond false rfl ?_
  refine W_skip ?_
  refine W_seq ?_
  refine W_region ?_
  refine WL_val rfl rfl rfl (by first | exact rMoveS rfl rfl | exact rMove rfl) ?_
  refine WL_val rfl rfl rfl (by first | exact rFldN (off := 6) rfl (by kernel_rfl) rfl | exact rFld (off := 6) rfl (by kernel_rfl) rfl) ?_
  refine WL_val rfl rfl rfl (by first | exact rLd (v := .int .i64 _) rfl (by kernel_rfl) rfl (by first | exact hI.c0 rfl | exact hI.c1 rfl) | exact rLd rfl (by kernel_rfl) rfl (by first | exact hI.c0 rfl | exact hI.c1 rfl)) ?_
  refine WL_val rfl rfl rfl (rIdx (sz := 7) rfl Tryd.underlying33 (by kernel_rfl) rfl rfl (by omega)) ?_
  refine WL_val rfl rfl rfl (by first | exact rLdB (n := 7) rfl (by kernel_rfl) (by kernel_rfl) rfl rfl hI.g0 | exact rLdB (n := 7) rfl (by kernel_rfl) (by kernel_rfl) rfl rfl hI.g1 | exact rLdA (n := 7) rfl (by kernel_rfl) (by kernel_rfl) rfl (by rfl) (fun k u hk => hI.oldp (hec k u hk)) | exact rLdA (n := 7) rfl (by kernel_rfl) (by kernel_rfl) rfl (by rfl) hec) ?_
  refine WL_alloc (u := .agg #[.int .i64 0, .int .i64 0, .int .i64 0, .int .i64 0, .int .i64 0, .int .i64 0, .int .i64 0]) (vs := #[.int .i64 0, .int .i64 0, .int .i64 0, .int .i64 0, .int .i64 0, .int .i64 0, .int .i64 0]) hI rfl rfl rfl rfl (by kernel_rfl) rfl ?_
  clear hI; rintro b7 w - - hI
  first | refine WL_stw0 (u := .agg _) (vs := #[_, _, _, _, _, _, _]) (n := 7) hI rfl rfl rfl rfl rfl rfl (by kernel_rfl) rfl rfl rfl ?_ | refine WL_stw1 (u := .agg _) (vs := #[_, _, _, _, _, _, _]) (n := 7) hI rfl rfl rfl rfl rfl rfl (by kernel_rfl) rfl rfl rfl ?_
  clear hI; intro w hI
  refine WL_nil ?_
  simp only [evL] at hI
  refine W_seq ?_
  refine W_region ?_
  refine WL_val rfl rfl rfl (by first | exact rFldN (off := 1) rfl (by kernel_rfl) rfl | exact rFld (off := 1) rfl (by kernel_rfl) rfl) ?_
  refine WL_val rfl rfl rfl (by first | exact rLd (v := .int .i64 _) rfl (by kernel_rfl) rfl (by first | exact hI.c0 rfl | exact hI.c1 rfl | exact hI.c2 rfl | exact hI.c3 rfl | exact hI.c4 rfl | exact hI.c5 rfl) | exact rLd rfl (by kernel_rfl) rfl (by first | exact hI.c0 rfl | exact hI.c1 rfl | exact hI.c2 rfl | exact hI.c3 rfl | exact hI.c4 rfl | exact hI.c5 rfl)) ?_
  refine WL_val rfl rfl rfl (by first | exact rNeqT rfl rfl rfl (by omega) | exact rNeqF rfl rfl rfl (by omega) | exact rNeq rfl rfl rfl) ?_
  refine WL_val rfl rfl rfl (by first | exact rMoveB rfl rfl | exact rMove rfl) ?_
  first | refine WL_val rfl rfl rfl (by first | exact rFldN (off := 0) rfl (by kernel_rfl) rfl | exact rFld0 rfl (by kernel_rfl) rfl) ?_ | refine WL_skip rfl rfl rfl ?_
  first | refine WL_val rfl rfl rfl (by first | exact rLd (v := .int .i64 _) rfl (by kernel_rfl) rfl (by first | exact hI.c0 rfl | exact hI.c1 rfl | exact hI.c2 rfl | exact hI.c3 rfl | exact hI.c4 rfl | exact hI.c5 rfl) | exact rLd rfl (by kernel_rfl) rfl (by first | exact hI.c0 rfl | exact hI.c1 rfl | exact hI.c2 rfl | exact hI.c3 rfl | exact hI.c4 rfl | exact hI.c5 rfl)) ?_ | refine WL_skip rfl rfl rfl ?_
  first | refine WL_val rfl rfl rfl (by first | exact rFldN (off := 0) rfl (by kernel_rfl) rfl | exact rFld0 rfl (by kernel_rfl) rfl) ?_ | refine WL_skip rfl rfl rfl ?_
  first | refine WL_val rfl rfl rfl (by first | exact rLd (v := .int .i64 _) rfl (by kernel_rfl) rfl (by first | exact hI.c0 rfl | exact hI.c1 rfl | exact hI.c2 rfl | exact hI.c3 rfl | exact hI.c4 rfl | exact hI.c5 rfl) | exact rLd rfl (by kernel_rfl) rfl (by first | exact hI.c0 rfl | exact hI.c1 rfl | exact hI.c2 rfl | exact hI.c3 rfl | exact hI.c4 rfl | exact hI.c5 rfl)) ?_ | refine WL_skip rfl rfl rfl ?_
  first | refine WL_val rfl rfl rfl (by first | exact rNeqT rfl rfl rfl (by omega) | exact rNeqF rfl rfl rfl (by omega) | exact rNeq rfl rfl rfl) ?_ | refine WL_skip rfl rfl rfl ?_
  refine WL_val rfl rfl rfl (by first | exact rPickTB rfl rfl rfl | exact rPickFB rfl rfl rfl | exact rPickB rfl rfl rfl rfl) ?_
  refine WL_val rfl rfl rfl (by first | exact rMoveB rfl rfl | exact rMove rfl) ?_
  first | refine WL_val rfl rfl rfl (by first | exact rFldN (off := 2) rfl (by kernel_rfl) rfl | exact rFld (off := 2) rfl (by kernel_rfl) rfl) ?_ | refine WL_skip rfl rfl rfl ?_
  first | refine WL_val rfl rfl rfl (by first | exact rLd (v := .int .i64 _) rfl (by kernel_rfl) rfl (by first | exact hI.c0 rfl | exact hI.c1 rfl | exact hI.c2 rfl | exact hI.c3 rfl | exact hI.c4 rfl | exact hI.c5 rfl) | exact rLd rfl (by kernel_rfl) rfl (by first | exact hI.c0 rfl | exact hI.c1 rfl | exact hI.c2 rfl | exact hI.c3 rfl | exact hI.c4 rfl | exact hI.c5 rfl)) ?_ | refine WL_skip rfl rfl rfl ?_
  first | refine WL_val rfl rfl rfl (by first | exact rFldN (off := 1) rfl (by kernel_rfl) rfl | exact rFld (off := 1) rfl (by kernel_rfl) rfl) ?_ | refine WL_skip rfl rfl rfl ?_
  first | refine WL_val rfl rfl rfl (by first | exact rLd (v := .int .i64 _) rfl (by kernel_rfl) rfl (by first | exact hI.c0 rfl | exact hI.c1 rfl | exact hI.c2 rfl | exact hI.c3 rfl | exact hI.c4 rfl | exact hI.c5 rfl) | exact rLd rfl (by kernel_rfl) rfl (by first | exact hI.c0 rfl | exact hI.c1 rfl | exact hI.c2 rfl | exact hI.c3 rfl | exact hI.c4 rfl | exact hI.c5 rfl)) ?_ | refine WL_skip rfl rfl rfl ?_
  first | refine WL_val rfl rfl rfl (by first | exact rNeqT rfl rfl rfl (by omega) | exact rNeqF rfl rfl rfl (by omega) | exact rNeq rfl rfl rfl) ?_ | refine WL_skip rfl rfl rfl ?_
  refine WL_val rfl rfl rfl (by first | exact rPickTB rfl rfl rfl | exact rPickFB rfl rfl rfl | exact rPickB rfl rfl rfl rfl) ?_
  refine WL_val rfl rfl rfl (by first | exact rMoveB rfl rfl | exact rMove rfl) ?_
  first | refine WL_val rfl rfl rfl (by first | exact rFldN (off := 3) rfl (by kernel_rfl) rfl | exact rFld (off := 3) rfl (by kernel_rfl) rfl) ?_ | refine WL_skip rfl rfl rfl ?_
  first | refine WL_val rfl rfl rfl (by first | exact rLd (v := .int .i64 _) rfl (by kernel_rfl) rfl (by first | exact hI.c0 rfl | exact hI.c1 rfl | exact hI.c2 rfl | exact hI.c3 rfl | exact hI.c4 rfl | exact hI.c5 rfl) | exact rLd rfl (by kernel_rfl) rfl (by first | exact hI.c0 rfl | exact hI.c1 rfl | exact hI.c2 rfl | exact hI.c3 rfl | exact hI.c4 rfl | exact hI.c5 rfl)) ?_ | refine WL_skip rfl rfl rfl ?_
  first | refine WL_val rfl rfl rfl (by first | exact rFldN (off := 2) rfl (by kernel_rfl) rfl | exact rFld (off := 2) rfl (by kernel_rfl) rfl) ?_ | refine WL_skip rfl rfl rfl ?_
  first | refine WL_val rfl rfl rfl (by first | exact rLd (v := .int .i64 _) rfl (by kernel_rfl) rfl (by first | exact hI.c0 rfl | exact hI.c1 rfl | exact hI.c2 rfl | exact hI.c3 rfl | exact hI.c4 rfl | exact hI.c5 rfl) | exact rLd rfl (by kernel_rfl) rfl (by first | exact hI.c0 rfl | exact hI.c1 rfl | exact hI.c2 rfl | exact hI.c3 rfl | exact hI.c4 rfl | exact hI.c5 rfl)) ?_ | refine WL_skip rfl rfl rfl ?_
  first | refine WL_val rfl rfl rfl (by first | exact rNeqT rfl rfl rfl (by omega) | exact rNeqF rfl rfl rfl (by omega) | exact rNeq rfl rfl rfl) ?_ | refine WL_skip rfl rfl rfl ?_
  refine WL_val rfl rfl rfl (by first | exact rPickTB rfl rfl rfl | exact rPickFB rfl rfl rfl | exact rPickB rfl rfl rfl rfl) ?_
  refine WL_val rfl rfl rfl (by first | exact rMoveB rfl rfl | exact rMove rfl) ?_
  first | refine WL_val rfl rfl rfl (by first | exact rFldN (off := 4) rfl (by kernel_rfl) rfl | exact rFld (off := 4) rfl (by kernel_rfl) rfl) ?_ | refine WL_skip rfl rfl rfl ?_
  first | refine WL_val rfl rfl rfl (by first | exact rLd (v := .int .i64 _) rfl (by kernel_rfl) rfl (by first | exact hI.c0 rfl | exact hI.c1 rfl | exact hI.c2 rfl | exact hI.c3 rfl | exact hI.c4 rfl | exact hI.c5 rfl) | exact rLd rfl (by kernel_rfl) rfl (by first | exact hI.c0 rfl | exact hI.c1 rfl | exact hI.c2 rfl | exact hI.c3 rfl | exact hI.c4 rfl | exact hI.c5 rfl)) ?_ | refine WL_skip rfl rfl rfl ?_
  first | refine WL_val rfl rfl rfl (by first | exact rFldN (off := 3) rfl (by kernel_rfl) rfl | exact rFld (off := 3) rfl (by kernel_rfl) rfl) ?_ | refine WL_skip rfl rfl rfl ?_
  first | refine WL_val rfl rfl rfl (by first | exact rLd (v := .int .i64 _) rfl (by kernel_rfl) rfl (by first | exact hI.c0 rfl | exact hI.c1 rfl | exact hI.c2 rfl | exact hI.c3 rfl | exact hI.c4 rfl | exact hI.c5 rfl) | exact rLd rfl (by kernel_rfl) rfl (by first | exact hI.c0 rfl | exact hI.c1 rfl | exact hI.c2 rfl | exact hI.c3 rfl | exact hI.c4 rfl | exact hI.c5 rfl)) ?_ | refine WL_skip rfl rfl rfl ?_
  first | refine WL_val rfl rfl rfl (by first | exact rNeqT rfl rfl rfl (by omega) | exact rNeqF rfl rfl rfl (by omega) | exact rNeq rfl rfl rfl) ?_ | refine WL_skip rfl rfl rfl ?_
  refine WL_val rfl rfl rfl (by first | exact rPickTB rfl rfl rfl | exact rPickFB rfl rfl rfl | exact rPickB rfl rfl rfl rfl) ?_
  refine WL_val rfl rfl rfl (by first | exact rMoveB rfl rfl | exact rMove rfl) ?_
  first | refine WL_val rfl rfl rfl (by first | exact rFldN (off := 5) rfl (by kernel_rfl) rfl | exact rFld (off := 5) rfl (by kernel_rfl) rfl) ?_ | refine WL_skip rfl rfl rfl ?_
  first | refine WL_val rfl rfl rfl (by first | exact rLd (v := .int .i64 _) rfl (by kernel_rfl) rfl (by first | exact hI.c0 rfl | exact hI.c1 rfl | exact hI.c2 rfl | exact hI.c3 rfl | exact hI.c4 rfl | exact hI.c5 rfl) | exact rLd rfl (by kernel_rfl) rfl (by first | exact hI.c0 rfl | exact hI.c1 rfl | exact hI.c2 rfl | exact hI.c3 rfl | exact hI.c4 rfl | exact hI.c5 rfl)) ?_ | refine WL_skip rfl rfl rfl ?_
  first | refine WL_val rfl rfl rfl (by first | exact rFldN (off := 4) rfl (by kernel_rfl) rfl | exact rFld (off := 4) rfl (by kernel_rfl) rfl) ?_ | refine WL_skip rfl rfl rfl ?_
  first | refine WL_val rfl rfl rfl (by first | exact rLd (v := .int .i64 _) rfl (by kernel_rfl) rfl (by first | exact hI.c0 rfl | exact hI.c1 rfl | exact hI.c2 rfl | exact hI.c3 rfl | exact hI.c4 rfl | exact hI.c5 rfl) | exact rLd rfl (by kernel_rfl) rfl (by first | exact hI.c0 rfl | exact hI.c1 rfl | exact hI.c2 rfl | exact hI.c3 rfl | exact hI.c4 rfl | exact hI.c5 rfl)) ?_ | refine WL_skip rfl rfl rfl ?_
  first | refine WL_val rfl rfl rfl (by first | exact rNeqT rfl rfl rfl (by omega) | exact rNeqF rfl rfl rfl (by omega) | exact rNeq rfl rfl rfl) ?_ | refine WL_skip rfl rfl rfl ?_
  refine WL_val rfl rfl rfl (by first | exact rPickTB rfl rfl rfl | exact rPickFB rfl rfl rfl | exact rPickB rfl rfl rfl rfl) ?_
  refine WL_nil ?_
  refine W_cond false rfl ?_
  refine W_skip ?_
  replace hI := hI.d0.d0
  refine W_region ?_
  refine WL_val rfl rfl rfl (by first | exact rMoveI rfl rfl | exact rMove rfl) ?_
  refine WL_val rfl rfl rfl (by first | exact rInc rfl rfl rfl (by omega) | exact rAdd rfl rfl rfl (by omega) | exact rAddW rfl rfl rfl) ?_
  refine WL_val rfl rfl rfl (by first | exact rAsgnI rfl rfl | exact rAsgn rfl) ?_
  refine WL_nil ?_
  exact ⟨out.length - (k + 1), by omega, k + 1, rfl, by omega, ⟨rfl, rfl, rfl, trivial⟩, hI⟩
end Go.Proofs.YtlmpolmalgpodaaDoor
