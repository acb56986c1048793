/- The laws' stores: one node, one client, one write. -/
import Derived.Test.YtglioflpblpmpaaStoP
namespace Go.Proofs.Ytglioflpblpmpaa
open Go.RowKit
set_option linter.unusedVariables false
set_option linter.unusedSimpArgs false
/-- The run of stores. -/
def q0S : SSt := beginF (s0 1 1 1 1 false) 0 0 true 7
def qS : Nat → SSt
  | 0 => q0S
  | k + 1 => match (qS k).mails[0]? with
    | some m => deliverF (qS k) 0 m
    | none => qS k
theorem qS_mail {k : Nat} (hk : k < 4) : ∃ m, (qS k).mails[0]? = some m ∧ qS (k + 1) = deliverF (qS k) 0 m := by
  have : ((qS k).mails[0]?).isSome = true := by
    match k, hk with
    | 0, _ => decide
    | 1, _ => decide
    | 2, _ => decide
    | 3, _ => decide
  obtain ⟨m, hm⟩ := Option.isSome_iff_exists.1 this
  refine ⟨m, hm, ?_⟩
  show (match (qS k).mails[0]? with | some m => deliverF (qS k) 0 m | none => qS k) = _
  rw [hm]
theorem qS_len : (qS 4).evs.length = 2 := by decide
theorem qS_ev : ∃ e, (qS 4).evs[1]? = some e ∧ e.ty = 2 ∧ e.a = 7 := by
  refine ⟨(qS 4).evs[1]'(by decide), List.getElem?_eq_getElem _, by decide, by decide⟩
set_option maxHeartbeats 4000000 in
theorem stores_any (w0 : World) : Calls Try.prog 5 #[] w0 fun en w' => en = .returned (.bool true) ∧ Pure w0 w' := by
  have hI := Inv.start (fun _ => False) w0
  have hset : SetOk (1 : Nat) (1 : Nat) (1 : Nat) (1 : Nat) := by unfold SetOk; omega
  refine calls_of_W (N := Try.f5.ntmps) Try.func5 rfl rfl rfl ?_
  refine W_seq ?_
  refine W_region ?_
  refine WL_val rfl rfl rfl (by first | exact rAsgnB rfl rfl | exact rAsgn rfl) ?_
  refine WL_nil ?_
  refine W_seq ?_
  refine W_region ?_
  refine WL_val rfl rfl rfl (rBuild (qs := [(0, .int .i64 _), (1, .int .i64 _), (2, .int .i64 _), (3, .int .i64 _)]) (vs := [_, _, _, _, _]) [.int .i64 0, .int .i64 0, .int .i64 0, .int .i64 0, .bool false] [0, 1, 2, 3] rfl rfl rfl (fun _ => by kernel_rfl)) ?_
  refine WL_call rfl rfl rfl (rCall (vs := [.agg _]) rfl Try.func12 rfl rfl rfl) ?_
  refine (new_any 1 1 1 1 false hset _).mono ?_
  rintro en w1 ⟨sb, nb, cb, rfl, hJ⟩
  refine ⟨_, rfl, ?_⟩
  replace hI := (Inv.callB (X := []) (l := []) hI (l' := spt (zL sb nb cb) (s0 1 1 1 1 false)) ⟨hJ.chg.mono (fun _ _ h => h.elim), hJ.ok, fun e he k hk => .inr ((hJ.own e he k hk).resolve_left id), hJ.apart⟩)
  refine WL_val rfl rfl rfl (by first | exact rMoveT rfl rfl | exact rMove rfl) ?_
  refine WL_val rfl rfl rfl (rExtr rfl rfl rfl) ?_
  refine WL_val rfl rfl rfl (rExtr rfl rfl rfl) ?_
  refine WL_val rfl rfl rfl (by first | exact rAsgnP rfl rfl | exact rAsgn rfl) ?_
  refine WL_val rfl rfl rfl (by first | exact rAsgnN rfl rfl | exact rAsgnE rfl rfl | exact rAsgn rfl) ?_
  refine WL_nil ?_
  have hok : SOk (zL sb nb cb) (s0 1 1 1 1 false) 0 := s0_ok hset sb nb cb
  obtain ⟨L, hL⟩ : ∃ L, zL sb nb cb = L := ⟨_, rfl⟩
  have hLs : L.sb = sb := by rw [← hL]; rfl
  have hLc : L.cut = false := by rw [← hL]; rfl
  rw [hL] at hI hok
  clear hL hJ
  subst hLs
  have hmb : MayB (s0 1 1 1 1 false) 0 0 := ⟨rfl, by decide, rfl, rfl, by decide⟩
  refine W_seq ?_
  refine W_seq ?_
  refine W_region ?_
  refine WL_val rfl rfl rfl (by first | exact rMoveN rfl rfl | exact rMoveE rfl rfl | exact rMove rfl) ?_
  refine WL_val rfl rfl rfl (by first | exact rIfaceNe rfl Try.underlying27 rfl rfl | exact rNilNe rfl Try.underlying27 rfl) ?_
  refine WL_val rfl rfl rfl (by first | exact rMoveB rfl rfl | exact rMove rfl) ?_
  first | refine WL_val rfl rfl rfl (by first | exact rMoveP rfl rfl | exact rMove rfl) ?_ | refine WL_skip rfl rfl rfl ?_
  first | refine WL_val rfl rfl rfl (rPtrEq rfl Try.underlying30 rfl rfl) ?_ | refine WL_skip rfl rfl rfl ?_
  refine WL_val rfl rfl rfl (by first | exact rPickTB rfl rfl rfl | exact rPickFB rfl rfl rfl | exact rPickB rfl rfl rfl rfl) ?_
  refine WL_val rfl rfl rfl (by first | exact rMoveB rfl rfl | exact rMove rfl) ?_
  first | refine WL_val rfl rfl rfl (by first | exact rMoveP rfl rfl | exact rMove rfl) ?_ | refine WL_skip rfl rfl rfl ?_
  refine WL_call rfl rfl rfl (rCall (vs := [.pointer _, .int .i64 _, .int .i64 _, .bool _, .int .i64 _]) rfl Try.func13 rfl rfl rfl) ?_
  refine (beginM L (s0 1 1 1 1 false) 0 hok (by omega) (DLs _) _ (hI.fromB (X := [])) 0 0 true 7).mono ?_
  rintro en w1 ⟨v, L1, s1, rfl, hmv, hok1, hsb, hcut, hJ, hex⟩
  obtain ⟨rfl, rfl⟩ := hex 0 0 hmb rfl (by omega) (by omega) (by omega) (fun h => by cases h)
  refine ⟨_, rfl, ?_⟩
  replace hI := hI.callB (X := []) hJ
  first | refine WL_val rfl rfl rfl (by first | exact rIfaceNe rfl Try.underlying27 rfl rfl | exact rNilNe rfl Try.underlying27 rfl) ?_ | refine WL_skip rfl rfl rfl ?_
  refine WL_val rfl rfl rfl (by first | exact rPickTB rfl rfl rfl | exact rPickFB rfl rfl rfl | exact rPickB rfl rfl rfl rfl) ?_
  refine WL_nil ?_
  refine W_cond false rfl ?_
  refine W_skip ?_
  refine W_seq_cut (fun ρ w => ∃ L4 : StL, L4.sb = L.sb ∧ SOk L4 (qS 4) 5 ∧ Has ρ [(1, .pointer (some ⟨L.sb, 0, none⟩))] ∧ Inv (fun _ => False) w0 w (spt L4 (qS 4))) ?_ ?_
  · refine W_seq ?_
    refine W_region ?_
    refine WL_val rfl rfl rfl (by first | exact rAsgnI rfl rfl | exact rAsgn rfl) ?_
    refine WL_nil ?_
    refine W_block ?_
    refine W_loop (fun ρ w => ∃ (i : Nat) (L' : StL), i ≤ 4 ∧ Has ρ [(3, .int .i64 (i : Int)), (1, .pointer (some ⟨L.sb, 0, none⟩))] ∧ L'.sb = L.sb ∧ L'.cut = false ∧ SOk L' (qS i) (i + 1) ∧ Inv (fun _ => False) w0 w (spt L' (qS i))) (fun ρ _ => 4 - cnt (ρ 3))
      ⟨0, L1, by omega, ⟨rfl, rfl, trivial⟩, hsb, hcut.trans hLc, hok1, hI⟩ ?_
    clear hI hok hok1 hJ
    rintro ρ w ⟨i, L', hi, hH, hs', hc', hok, hI⟩
    obtain ⟨σ, rfl⟩ := hH.open
    by_cases hin : i < 4
    · obtain ⟨m, hm, hq⟩ := qS_mail hin
      refine W_seq ?_
      refine W_seq ?_
      refine W_region ?_
      refine WL_val rfl rfl rfl (by first | exact rMoveI rfl rfl | exact rMove rfl) ?_
      refine WL_val rfl rfl rfl (by first | exact rLssT rfl rfl rfl (by omega) | exact rLssF rfl rfl rfl (by omega) | exact rLss rfl rfl rfl) ?_
      refine WL_nil ?_
      refine W_cond true rfl ?_
      refine W_skip ?_
      refine W_seq ?_
      refine W_block ?_
      refine W_seq ?_
      refine W_region ?_
      refine WL_val rfl rfl rfl (by first | exact rMoveP rfl rfl | exact rMove rfl) ?_
      refine WL_call rfl rfl rfl (rCall (vs := [.pointer _, .int .i64 _]) rfl Try.func14 rfl rfl rfl) ?_
      rw [← hs']
      refine (deliverM L' (qS i) (i + 1) hok (by omega) (DLs _) _ (hI.fromB (X := [])) 0).mono ?_
      rintro en w1 ⟨v, L2, s2, rfl, hmv2, hok2, hsb2, hcut2, hJ, hex2⟩
      obtain ⟨rfl, rfl⟩ := hex2 0 m hc' rfl hm
      refine ⟨_, rfl, ?_⟩
      replace hI := hI.callB (X := []) hJ
      refine WL_val rfl rfl rfl (by first | exact rIfaceNe rfl Try.underlying27 rfl rfl | exact rNilNe rfl Try.underlying27 rfl) ?_
      refine WL_nil ?_
      refine W_cond false rfl ?_
      refine W_skip ?_
      refine W_region ?_
      refine WL_val rfl rfl rfl (by first | exact rMoveI rfl rfl | exact rMove rfl) ?_
      refine WL_val rfl rfl rfl (by first | exact rInc rfl rfl rfl (by omega) | exact rAdd rfl rfl rfl (by omega) | exact rAddW rfl rfl rfl) ?_
      refine WL_val rfl rfl rfl (by first | exact rAsgnI rfl rfl | exact rAsgn rfl) ?_
      refine WL_nil ?_
      exact ⟨⟨i + 1, L2, by omega, ⟨rfl, rfl, trivial⟩, hsb2, hcut2.trans hc', by rw [hq]; exact hok2, by rw [hq]; exact hI⟩, by show 4 - ((i + 1 : Nat) : Int).toNat < 4 - (i : Int).toNat; omega⟩
    · obtain rfl : i = 4 := by omega
      refine W_seq ?_
      refine W_seq ?_
      refine W_region ?_
      refine WL_val rfl rfl rfl (by first | exact rMoveI rfl rfl | exact rMove rfl) ?_
      refine WL_val rfl rfl rfl (by first | exact rLssT rfl rfl rfl (by omega) | exact rLssF rfl rfl rfl (by omega) | exact rLss rfl rfl rfl) ?_
      refine WL_nil ?_
      refine W_cond false rfl ?_
      refine W_exit ?_
      exact ⟨L', hs', hok, ⟨rfl, trivial⟩, hI⟩
  clear hI hok hok1 hJ
  rintro ρ w ⟨L4, hs4, hok, hH, hI⟩
  obtain ⟨σ, rfl⟩ := hH.open
  refine W_seq ?_
  refine W_region ?_
  refine WL_val rfl rfl rfl (by first | exact rMoveP rfl rfl | exact rMove rfl) ?_
  refine WL_call rfl rfl rfl (rCall (vs := [.pointer _]) rfl Try.func9 rfl rfl rfl) ?_
  rw [← hs4]
  have hE := events_any L4 (qS 4) (DLs _) _ (hI.fromB (X := [])) (by rw [qS_len]; omega)
  rw [qS_len] at hE
  refine hE.mono ?_
  rintro en w1 ⟨EA, ec, rfl, hJ⟩
  refine ⟨_, rfl, ?_⟩
  replace hI := hI.callB (X := []) hJ
  refine WL_val rfl rfl rfl (by first | exact rAsgnS rfl rfl | exact rAsgn rfl) ?_
  refine WL_nil ?_
  obtain ⟨e, he, hty, hea⟩ := qS_ev
  replace hI : Inv (fun _ => False) w0 w1 (Row 0 37 7 EA 2 ec ((qS 4).evs.flatMap evL) :: spt L4 (qS 4)) := hI
  obtain ⟨eb, eo, rfl⟩ := row_addrS hI.g0 (by omega) (by omega)
  have q := fun j hj => flat_get (f := evL) (size := 7) (fun _ => rfl) (qS 4).evs 1 j _ he hj
  have q1 : ∀ w1, Inv (fun _ => False) w0 w1 (Row 0 37 7 (some ⟨eb, eo, none⟩) 2 ec ((qS 4).evs.flatMap evL) :: spt L4 (qS 4)) → w1.cell? ⟨eb, eo + 1 * 7 + 1, none⟩ = some (.int .i64 2) := fun w1 hI => by
    have := row_cellS hI.g0 ((q 1 (by omega)).trans (by show some (Value.int .i64 e.ty) = _; rw [hty])) (by omega)
    rwa [← Nat.add_assoc] at this
  have q4 : ∀ w1, Inv (fun _ => False) w0 w1 (Row 0 37 7 (some ⟨eb, eo, none⟩) 2 ec ((qS 4).evs.flatMap evL) :: spt L4 (qS 4)) → w1.cell? ⟨eb, eo + 1 * 7 + 4, none⟩ = some (.int .i64 7) := fun w1 hI => by
    have := row_cellS hI.g0 ((q 4 (by omega)).trans (by show some (Value.int .i64 e.a) = _; rw [hea])) (by omega)
    rwa [← Nat.add_assoc] at this
  replace q1 := q1 _ hI
  replace q4 := q4 _ hI
  refine W_seq ?_
  refine W_region ?_
  refine WL_val rfl rfl rfl (by first | exact rMoveS rfl rfl | exact rMove rfl) ?_
  refine WL_val rfl rfl rfl (rLen rfl Try.underlying32 rfl) ?_
  refine WL_val rfl rfl rfl (by first | exact rEqlT rfl rfl rfl (by omega) | exact rEqlF rfl rfl rfl (by omega) | exact rEql rfl rfl rfl) ?_
  refine WL_val rfl rfl rfl (by first | exact rMoveB rfl rfl | exact rMove rfl) ?_
  first | refine WL_val rfl rfl rfl (by first | exact rMoveS rfl rfl | exact rMove rfl) ?_ | refine WL_skip rfl rfl rfl ?_
  first | refine WL_val rfl rfl rfl (rIdx (sz := 7) (i := 1) rfl Try.underlying32 (by kernel_rfl) rfl rfl (by omega)) ?_ | refine WL_skip rfl rfl rfl ?_
  first | refine WL_val rfl rfl rfl (by first | exact rFldN (off := 1) rfl (by kernel_rfl) rfl | exact rFld (off := 1) rfl (by kernel_rfl) rfl) ?_ | refine WL_skip rfl rfl rfl ?_
  first | refine WL_val rfl rfl rfl (by first | exact rLd (v := .int .i64 _) rfl (by kernel_rfl) rfl (by first | exact hI.c0 rfl | exact hI.c1 rfl | exact hI.c2 rfl | exact hI.c3 rfl | exact hI.c4 rfl | exact hI.c5 rfl | exact q1 | exact q4) | exact rLd rfl (by kernel_rfl) rfl (by first | exact hI.c0 rfl | exact hI.c1 rfl | exact hI.c2 rfl | exact hI.c3 rfl | exact hI.c4 rfl | exact hI.c5 rfl | exact q1 | exact q4)) ?_ | refine WL_skip rfl rfl rfl ?_
  first | refine WL_val rfl rfl rfl (by first | exact rEqlT rfl rfl rfl (by omega) | exact rEqlF rfl rfl rfl (by omega) | exact rEql rfl rfl rfl) ?_ | refine WL_skip rfl rfl rfl ?_
  refine WL_val rfl rfl rfl (by first | exact rPickTB rfl rfl rfl | exact rPickFB rfl rfl rfl | exact rPickB rfl rfl rfl rfl) ?_
  refine WL_val rfl rfl rfl (by first | exact rMoveB rfl rfl | exact rMove rfl) ?_
  first | refine WL_val rfl rfl rfl (by first | exact rMoveS rfl rfl | exact rMove rfl) ?_ | refine WL_skip rfl rfl rfl ?_
  first | refine WL_val rfl rfl rfl (rIdx (sz := 7) (i := 1) rfl Try.underlying32 (by kernel_rfl) rfl rfl (by omega)) ?_ | refine WL_skip rfl rfl rfl ?_
  first | refine WL_val rfl rfl rfl (by first | exact rFldN (off := 4) rfl (by kernel_rfl) rfl | exact rFld (off := 4) rfl (by kernel_rfl) rfl) ?_ | refine WL_skip rfl rfl rfl ?_
  first | refine WL_val rfl rfl rfl (by first | exact rLd (v := .int .i64 _) rfl (by kernel_rfl) rfl (by first | exact hI.c0 rfl | exact hI.c1 rfl | exact hI.c2 rfl | exact hI.c3 rfl | exact hI.c4 rfl | exact hI.c5 rfl | exact q1 | exact q4) | exact rLd rfl (by kernel_rfl) rfl (by first | exact hI.c0 rfl | exact hI.c1 rfl | exact hI.c2 rfl | exact hI.c3 rfl | exact hI.c4 rfl | exact hI.c5 rfl | exact q1 | exact q4)) ?_ | refine WL_skip rfl rfl rfl ?_
  first | refine WL_val rfl rfl rfl (by first | exact rEqlT rfl rfl rfl (by omega) | exact rEqlF rfl rfl rfl (by omega) | exact rEql rfl rfl rfl) ?_ | refine WL_skip rfl rfl rfl ?_
  refine WL_val rfl rfl rfl (by first | exact rPickTB rfl rfl rfl | exact rPickFB rfl rfl rfl | exact rPickB rfl rfl rfl rfl) ?_
  refine WL_val rfl rfl rfl (by first | exact rAsgnB rfl rfl | exact rAsgn rfl) ?_
  refine WL_nil ?_
  refine W_ret ?_
  exact ret1 0 (.inr rfl) rfl ⟨rfl, hI.pu⟩
end Go.Proofs.Ytglioflpblpmpaa
