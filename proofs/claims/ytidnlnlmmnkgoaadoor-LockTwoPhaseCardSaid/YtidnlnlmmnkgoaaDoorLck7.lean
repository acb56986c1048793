/- lock: a transaction goes on. -/
import Derived.Test.YtidnlnlmmnkgoaaDoorLck6
namespace Go.Proofs.YtidnlnlmmnkgoaaDoor
open Go.RowKit
set_option linter.unusedVariables false
set_option linter.unusedSimpArgs false
def PlanAt (w : World) (D : Nat → Prop) (v : Value) (p : List (List St)) : Prop :=
  ∃ rows : List Value, Rd w D 1 v p.length rows ∧ ∀ (i : Nat) (l : List St), p[i]? = some l → ∃ r, rows[i]? = some r ∧ Sts w D r l
theorem PlanAt.chg {S : Nat → Prop} {w w' : World} {D : Nat → Prop} {v : Value} {p : List (List St)} (h : PlanAt w D v p) (hc : Chg S w w') (hs : ∀ k, D k → ¬ S k) : PlanAt w' D v p := by
  obtain ⟨rows, h1, h2⟩ := h
  refine ⟨rows, h1.chg hc hs, fun i l hl => ?_⟩
  obtain ⟨r, hr, hb⟩ := h2 i l hl
  exact ⟨r, hr, Rd.chg hb hc hs⟩
theorem PlanAt.get {w : World} {D : Nat → Prop} {A : Option Addr} {n c i : Nat} {p : List (List St)} {l : List St} (h : PlanAt w D (.slice A n c) p) (hi : p[i]? = some l) :
    n = p.length ∧ ∃ b o A' c', A = some ⟨b, o, none⟩ ∧ D b ∧ w.cell? ⟨b, o + i, none⟩ = some (.slice A' l.length c') ∧ Sts w D (.slice A' l.length c') l := by
  have hl := (List.getElem?_eq_some_iff.1 hi).1
  obtain ⟨rows, ⟨A1, c1, hv, h1, h2, h3, h4⟩, h5⟩ := h
  injection hv with e1 e2 e3
  subst e1 e2 e3
  obtain ⟨b, o, rfl, hD, hc⟩ := h4 (by omega)
  obtain ⟨r, hr, hs⟩ := h5 i l hi
  obtain ⟨A', c', rfl, _, _⟩ := Rd.form hs
  exact ⟨rfl, b, o, A', c', rfl, hD, hc i _ hr, hs⟩
theorem Sts.at' {w : World} {D : Nat → Prop} {A : Option Addr} {n c k : Nat} {l : List St} (h : Sts w D (.slice A n c) l) (hk : k < l.length) : ∃ b o, A = some ⟨b, o, none⟩ ∧ D b ∧ w.cell? ⟨b, o + k * 3, none⟩ = some (.int .i64 (l.getD k ⟨0, 0, 0⟩).tx) ∧ w.cell? ⟨b, o + k * 3 + 1, none⟩ = some (.int .i64 (l.getD k ⟨0, 0, 0⟩).kind) ∧ w.cell? ⟨b, o + k * 3 + 2, none⟩ = some (.int .i64 (l.getD k ⟨0, 0, 0⟩).key) := by
  obtain ⟨b, o, h1, h2, h3, h4⟩ := h.at hk
  obtain ⟨A', c', hv, _, _, _, h9⟩ := h
  injection hv with e1 e2 e3
  subst e1 e2 e3
  obtain ⟨b', o', h5, h6, _⟩ := h9 (by omega)
  rw [h1] at h5
  injection h5 with h5
  injection h5 with h5 h7
  subst h5
  exact ⟨b, o, h1, h6, h2, h3, h4⟩
/-- A plan that may be. -/
def PlanOk (p : List (List St)) : Prop := p.length ≤ 8 ∧ ∀ (i : Nat) (l : List St), p[i]? = some l → l.length ≤ 60 ∧ ∀ s ∈ l, s.tx = (i : Int) ∧ 1 ≤ s.kind ∧ s.kind ≤ 2 ∧ 0 ≤ s.key ∧ s.key < 8
def rowP (p : List (List St)) (tx : Nat) : List St := p.getD tx []
def stepP (p : List (List St)) (s : Rn) (tx : Nat) : St := (rowP p tx).getD (s.ats.getD tx 0) ⟨0, 0, 0⟩
def delW (s : Rn) (tx : Nat) : Rn := { s with wait := fun x => if x = tx then none else s.wait x }
def stepR (s : Rn) (tx : Nat) (st : St) : Rn := { s with held := takeH s.held st.key.toNat st.tx.toNat st.kind.toNat, done := s.done ++ [st], ats := s.ats.set tx (s.ats.getD tx 0 + 1) }
def agR (s : Rn) (st : St) : List Nat := agTo (s.held st.key.toNat) st.tx st.kind 8
def goR (p : List (List St)) (s : Rn) (tx : Nat) : Rn :=
  if s.over.getD tx false = true then s
  else if (delW s tx).ats.getD tx 0 = (rowP p tx).length then endR (delW s tx) tx 3
  else if 0 < (agR (delW s tx) (stepP p s tx)).length then waitR (delW s tx) tx (agR (delW s tx) (stepP p s tx))
  else stepR (delW s tx) tx (stepP p s tx)
theorem rpt_mapOk {S : Nat → Prop} {w0 w : World} {H : List Ent} {L : RnL} {s : Rn} (hI : Inv S w0 w (rpt L s ++ H)) (hO : HOk s.held L.mo) {k : Nat} (hk : k < 8) : mapOk w (L.mo k) (s.held k) := tbl_mapOk (H := _) hI hO hk
theorem hok_free {held : Nat → Nat → Nat} {mo : Nat → Option Nat} (h : HOk held mo) (tx j : Nat) : HOk (freeTo held tx j) mo := fun k hk hm x => by
  unfold freeTo
  split
  · rfl
  · exact h k hk hm x
theorem hok_wait {s : Rn} {mo : Nat → Option Nat} (h : HOk s.held mo) (tx : Nat) (l : List Nat) : HOk (waitR s tx l).held mo := by
  unfold waitR
  dsimp only
  split
  · exact hok_free h _ 8
  · exact h
set_option maxHeartbeats 4000000 in
theorem goOn_any (L : RnL) (s : Rn) (tx : Nat) (p : List (List St)) (PA : Option Addr) (pc : Nat) (D : Nat → Prop) (S : Nat → Prop) (w0 : World) (hI : Inv S w0 w0 (rpt L s)) (m : Nat) (hm : m ≤ 2000) (hR : RnOk L s m) (ht : tx < L.n) (hpn : p.length = L.n) (hok : PlanOk p)
    (hpv : L.pv = .slice PA L.n pc) (hP : PlanAt w0 D (.slice PA L.n pc) p) (hDS : ∀ k, D k → ¬ S k) (hat : s.ats.getD tx 0 ≤ (rowP p tx).length) (hag : ∀ j y, y ∈ agTo (s.held j) (tx : Int) 1 8 ∨ y ∈ agTo (s.held j) (tx : Int) 2 8 → y < L.n) :
    Calls Tryd.prog 9 #[.pointer (some ⟨L.b, 0, none⟩), .int .i64 (tx : Int)] w0 fun en w' => ∃ mo DA dc VA vc WA WC, en = .returned (.tuple #[]) ∧ HOk (goR p s tx).held mo ∧ Inv S w0 w' (rpt { L with mo := mo, DA := DA, dc := dc, VA := VA, vc := vc, WA := WA, WC := WC } (goR p s tx)) := by
  have h8 := hR.n8
  have hol := hR.over
  have hal := hR.ats
  obtain ⟨b, mo, pv, ab, ob, wm, wb, n, DA, dc, VA, vc, WA, WC⟩ := L
  dsimp only at *
  subst hpv
  have hI0 := hI
  unfold rpt at hI
  dsimp only at hI
  refine calls_of_W (N := Tryd.f9.ntmps) Tryd.func9 rfl rfl rfl ?_
  replace hI := hI.pull 5 rfl
  cases hov : s.over.getD tx false with
  | true =>
    have q0 : w0.cell? ⟨ob, tx, none⟩ = some (.bool true) := by rw [← hov]; exact hI.c0 (boolV_get (by omega))
    refine W_seq ?_
    refine W_seq ?_
    refine W_region ?_
    refine WL_val rfl rfl rfl (by first | exact rMoveP rfl rfl | exact rMove rfl) ?_
    refine WL_val rfl rfl rfl (rNilChk rfl rfl) ?_
    refine WL_val rfl rfl rfl (by first | exact rFldN (off := 10) rfl (by kernel_rfl) rfl | exact rFld (off := 10) rfl (by kernel_rfl) rfl) ?_
    refine WL_val rfl rfl rfl (by first | exact rLd (v := .slice _ _ _) rfl (by kernel_rfl) rfl (by first | exact hI.c0 rfl | exact hI.c1 rfl | exact q0) | exact rLd rfl (by kernel_rfl) rfl (by first | exact hI.c0 rfl | exact hI.c1 rfl | exact q0)) ?_
    refine WL_val rfl rfl rfl (by first | exact rMoveI rfl rfl | exact rMove rfl) ?_
    refine WL_val rfl rfl rfl (by first | exact rIdx0 rfl Tryd.underlying45 (by kernel_rfl) rfl rfl rfl (by omega) | exact rIdx1 rfl Tryd.underlying45 (by kernel_rfl) rfl rfl (by omega)) ?_
    refine WL_val rfl rfl rfl (by first | exact rLd (v := .bool _) rfl (by kernel_rfl) rfl (by first | exact hI.c0 rfl | exact hI.c1 rfl | exact q0) | exact rLd rfl (by kernel_rfl) rfl (by first | exact hI.c0 rfl | exact hI.c1 rfl | exact q0)) ?_
    refine WL_nil ?_
    refine W_cond true rfl ?_
    refine W_ret ?_
    have e : goR p s tx = s := by unfold goR; rw [if_pos hov]
    rw [e]
    exact ret0 (.inr rfl) rfl ⟨mo, DA, dc, VA, vc, WA, WC, rfl, hR.hok, hI0⟩
  | false =>
    have q0 : w0.cell? ⟨ob, tx, none⟩ = some (.bool false) := by rw [← hov]; exact hI.c0 (boolV_get (by omega))
    refine W_seq ?_
    refine W_seq ?_
    refine W_region ?_
    refine WL_val rfl rfl rfl (by first | exact rMoveP rfl rfl | exact rMove rfl) ?_
    refine WL_val rfl rfl rfl (rNilChk rfl rfl) ?_
    refine WL_val rfl rfl rfl (by first | exact rFldN (off := 10) rfl (by kernel_rfl) rfl | exact rFld (off := 10) rfl (by kernel_rfl) rfl) ?_
    refine WL_val rfl rfl rfl (by first | exact rLd (v := .slice _ _ _) rfl (by kernel_rfl) rfl (by first | exact hI.c0 rfl | exact hI.c1 rfl | exact q0) | exact rLd rfl (by kernel_rfl) rfl (by first | exact hI.c0 rfl | exact hI.c1 rfl | exact q0)) ?_
    refine WL_val rfl rfl rfl (by first | exact rMoveI rfl rfl | exact rMove rfl) ?_
    refine WL_val rfl rfl rfl (by first | exact rIdx0 rfl Tryd.underlying45 (by kernel_rfl) rfl rfl rfl (by omega) | exact rIdx1 rfl Tryd.underlying45 (by kernel_rfl) rfl rfl (by omega)) ?_
    refine WL_val rfl rfl rfl (by first | exact rLd (v := .bool _) rfl (by kernel_rfl) rfl (by first | exact hI.c0 rfl | exact hI.c1 rfl | exact q0) | exact rLd rfl (by kernel_rfl) rfl (by first | exact hI.c0 rfl | exact hI.c1 rfl | exact q0)) ?_
    refine WL_nil ?_
    refine W_cond false rfl ?_
    refine W_skip ?_
    clear q0 hI0
    replace hI := (hI.back 5).pull 2 rfl
    refine W_seq ?_
    refine W_region ?_
    refine WL_val rfl rfl rfl (by first | exact rMoveP rfl rfl | exact rMove rfl) ?_
    refine WL_val rfl rfl rfl (rNilChk rfl rfl) ?_
    refine WL_val rfl rfl rfl (by first | exact rFldN (off := 11) rfl (by kernel_rfl) rfl | exact rFld (off := 11) rfl (by kernel_rfl) rfl) ?_
    refine WL_val rfl rfl rfl (by first | exact rLd (v := .map _) rfl (by kernel_rfl) rfl (by first | exact hI.c0 rfl | exact hI.c1 rfl) | exact rLd rfl (by kernel_rfl) rfl (by first | exact hI.c0 rfl | exact hI.c1 rfl)) ?_
    refine WL_val rfl rfl rfl (by first | exact rMoveI rfl rfl | exact rMove rfl) ?_
    refine WL_mapDel 0 rfl hI rfl rfl rfl Tryd.underlying46 Tryd.underlying3 rfl rfl ?_
    clear hI; intro w hI
    refine WL_nil ?_
    simp only [List.set_cons_zero] at hI
    rw [wg_del] at hI
    replace hI := (((hI.back 2).pull 3 rfl).wdel (tx := tx) (by omega)).back 3
    replace hI : Inv S w0 w (rpt ⟨b, mo, .slice PA n pc, ab, ob, wm, wb, n, DA, dc, VA, vc, WA, WC⟩ (delW s tx)) := hI
    have hgo : goR p s tx = if (delW s tx).ats.getD tx 0 = (rowP p tx).length then endR (delW s tx) tx 3
      else if 0 < (agR (delW s tx) (stepP p s tx)).length then waitR (delW s tx) tx (agR (delW s tx) (stepP p s tx)) else stepR (delW s tx) tx (stepP p s tx) := by
      unfold goR; rw [if_neg (by rw [hov]; simp)]
    rw [hgo]
    have hd1 : (delW s tx).done.length ≤ 2000 := Nat.le_trans hR.dlen hm
    have ho1 : (delW s tx).over.length = n := hR.over
    have hh1 : HOk (delW s tx).held mo := hR.hok
    have ha1 : (delW s tx).ats.length = n := hR.ats
    have hat1 : (delW s tx).ats.getD tx 0 ≤ (rowP p tx).length := hat
    have h21 : ∀ k x, (delW s tx).held k x ≤ 2 := hR.two
    have hst : stepP p s tx = (rowP p tx).getD ((delW s tx).ats.getD tx 0) ⟨0, 0, 0⟩ := rfl
    have hR1 : RnOk ⟨b, mo, .slice PA n pc, ab, ob, wm, wb, n, DA, dc, VA, vc, WA, WC⟩ (delW s tx) m := ⟨hR.n8, hR.ats, hR.over, hR.waits, hR.hok, hR.two, hR.dlen, hR.vlen, fun x l hl => by
      have hl : (if x = tx then none else s.wait x) = some l := hl
      by_cases hx : x = tx
      · rw [if_pos hx] at hl; cases hl
      · rw [if_neg hx] at hl; exact hR.wlt x l hl, fun x l hl => by
      have hl : (if x = tx then none else s.wait x) = some l := hl
      by_cases hx : x = tx
      · rw [if_pos hx] at hl; cases hl
      · rw [if_neg hx] at hl; exact hR.wkey x l hl, hR.wvals⟩
    have hag1 : ∀ j y, y ∈ agTo ((delW s tx).held j) (tx : Int) 1 8 ∨ y ∈ agTo ((delW s tx).held j) (tx : Int) 2 8 → y < n := hag
    obtain ⟨s1, hs1⟩ : ∃ s1, delW s tx = s1 := ⟨_, rfl⟩
    rw [hs1] at hI hd1 ho1 hh1 ha1 hat1 h21 hst hR1 hag1
    rw [hs1]
    have hrow : p[tx]? = some (rowP p tx) := by unfold rowP; rw [List.getD_eq_getElem?_getD, List.getElem?_eq_getElem (by omega)]; rfl
    obtain ⟨-, pb, po, RA, rc, hPA, hDp, q1, hsts⟩ := hP.get hrow
    subst hPA
    obtain ⟨row, hrw⟩ : ∃ row, rowP p tx = row := ⟨_, rfl⟩
    rw [hrw] at q1 hsts hat1 hst hrow
    rw [hrw]
    obtain ⟨hr60, hrs⟩ := hok.2 tx row hrow
    have hq1S := hDS _ hDp
    unfold rpt at hI
    dsimp only at hI
    replace hI := hI.pull 4 rfl
    by_cases hend : s1.ats.getD tx 0 = row.length
    · rw [if_pos hend]
      refine W_seq ?_
      refine W_seq ?_
      refine W_draw (by kernel_rfl) ?_
      refine WA_inv (T := []) hI.drew ?_
      intro Sx hSx hXS
      replace hI := hI.drew
      refine WT_take 0 rfl rfl (by kernel_rfl) (hXS _ hI) rfl (fun W hW => have hI := hSx W hW; (by first | exact rMoveP rfl rfl | exact rMove rfl)) ?_
      refine WT_take 1 rfl rfl (by kernel_rfl) (hXS _ hI) rfl (fun W hW => have hI := hSx W hW; (rNilChk rfl rfl)) ?_
      refine WT_take 2 rfl rfl (by kernel_rfl) (hXS _ hI) rfl (fun W hW => have hI := hSx W hW; (by first | exact rFldN (off := 9) rfl (by kernel_rfl) rfl | exact rFld (off := 9) rfl (by kernel_rfl) rfl)) ?_
      refine WT_take 3 rfl rfl (by kernel_rfl) (hXS _ hI) rfl (fun W hW => have hI := hSx W hW; (by first | exact rLd (v := .slice _ _ _) rfl (by kernel_rfl) rfl (by first | exact hI.c0 rfl | exact hI.c1 rfl | exact (hI.old q1 hq1S) | exact (hI.c0 (natV_get (by omega)))) | exact rLd rfl (by kernel_rfl) rfl (by first | exact hI.c0 rfl | exact hI.c1 rfl | exact (hI.old q1 hq1S) | exact (hI.c0 (natV_get (by omega)))))) ?_
      refine WT_take 4 rfl rfl (by kernel_rfl) (hXS _ hI) rfl (fun W hW => have hI := hSx W hW; (by first | exact rMoveI rfl rfl | exact rMove rfl)) ?_
      refine WT_take 5 rfl rfl (by kernel_rfl) (hXS _ hI) rfl (fun W hW => have hI := hSx W hW; (by first | exact rIdx0 rfl Tryd.underlying24 (by kernel_rfl) rfl rfl rfl (by omega) | exact rIdx1 rfl Tryd.underlying24 (by kernel_rfl) rfl rfl (by omega))) ?_
      refine WT_take 6 rfl rfl (by kernel_rfl) (hXS _ hI) rfl (fun W hW => have hI := hSx W hW; (by first | exact rLd (v := .int .i64 _) rfl (by kernel_rfl) rfl (by first | exact hI.c0 rfl | exact hI.c1 rfl | exact (hI.old q1 hq1S) | exact (hI.c0 (natV_get (by omega)))) | exact rLd rfl (by kernel_rfl) rfl (by first | exact hI.c0 rfl | exact hI.c1 rfl | exact (hI.old q1 hq1S) | exact (hI.c0 (natV_get (by omega)))))) ?_
      refine WT_take 7 rfl rfl (by kernel_rfl) (hXS _ hI) rfl (fun W hW => have hI := hSx W hW; (by first | exact rMoveP rfl rfl | exact rMove rfl)) ?_
      refine WT_take 8 rfl rfl (by kernel_rfl) (hXS _ hI) rfl (fun W hW => have hI := hSx W hW; (rNilChk rfl rfl)) ?_
      refine WT_take 9 rfl rfl (by kernel_rfl) (hXS _ hI) rfl (fun W hW => have hI := hSx W hW; (by first | exact rFldN (off := 8) rfl (by kernel_rfl) rfl | exact rFld (off := 8) rfl (by kernel_rfl) rfl)) ?_
      refine WT_take 10 rfl rfl (by kernel_rfl) (hXS _ hI) rfl (fun W hW => have hI := hSx W hW; (by first | exact rLd (v := .slice _ _ _) rfl (by kernel_rfl) rfl (by first | exact hI.c0 rfl | exact hI.c1 rfl | exact (hI.old q1 hq1S) | exact (hI.c0 (natV_get (by omega)))) | exact rLd rfl (by kernel_rfl) rfl (by first | exact hI.c0 rfl | exact hI.c1 rfl | exact (hI.old q1 hq1S) | exact (hI.c0 (natV_get (by omega)))))) ?_
      refine WT_take 11 rfl rfl (by kernel_rfl) (hXS _ hI) rfl (fun W hW => have hI := hSx W hW; (by first | exact rMoveI rfl rfl | exact rMove rfl)) ?_
      refine WT_take 12 rfl rfl (by kernel_rfl) (hXS _ hI) rfl (fun W hW => have hI := hSx W hW; (by first | exact rIdx0 rfl Tryd.underlying23 (by kernel_rfl) rfl rfl rfl (by omega) | exact rIdx1 rfl Tryd.underlying23 (by kernel_rfl) rfl rfl (by omega))) ?_
      refine WT_take 13 rfl rfl (by kernel_rfl) (hXS _ hI) rfl (fun W hW => have hI := hSx W hW; (by first | exact rLd (v := .slice _ _ _) rfl (by kernel_rfl) rfl (by first | exact hI.c0 rfl | exact hI.c1 rfl | exact (hI.old q1 hq1S) | exact (hI.c0 (natV_get (by omega)))) | exact rLd rfl (by kernel_rfl) rfl (by first | exact hI.c0 rfl | exact hI.c1 rfl | exact (hI.old q1 hq1S) | exact (hI.c0 (natV_get (by omega)))))) ?_
      refine WT_take 14 rfl rfl (by kernel_rfl) (hXS _ hI) rfl (fun W hW => have hI := hSx W hW; (rLen rfl Tryd.underlying25 rfl)) ?_
      refine WT_take 15 rfl rfl (by kernel_rfl) (hXS _ hI) rfl (fun W hW => have hI := hSx W hW; (by first | exact rEqlT rfl rfl rfl (by omega) | exact rEqlF rfl rfl rfl (by omega) | exact rEql rfl rfl rfl)) ?_
      refine WT_end (by kernel_rfl) ?_
      refine W_cond true rfl ?_
      generalize w.drew = wd at hI ⊢
      have hJ0 : Inv S w0 wd (rpt ⟨b, mo, .slice (some ⟨pb, po, none⟩) n pc, ab, ob, wm, wb, n, DA, dc, VA, vc, WA, WC⟩ s1 ++ []) := by rw [List.append_nil]; exact hI.back 4
      have hcall := end_any ⟨b, mo, .slice (some ⟨pb, po, none⟩) n pc, ab, ob, wm, wb, n, DA, dc, VA, vc, WA, WC⟩ s1 tx 3 _ wd (Inv.from hJ0) h8 hd1 ho1 hh1 ht
      clear hI
      refine W_seq ?_
      refine W_region ?_
      refine WL_val rfl rfl rfl (by first | exact rMoveP rfl rfl | exact rMove rfl) ?_
      refine WL_val rfl rfl rfl (by first | exact rMoveI rfl rfl | exact rMove rfl) ?_
      refine WL_call rfl rfl rfl (rCall (vs := [.pointer _, .int .i64 _, .int .i64 _]) rfl Tryd.func21 rfl rfl rfl) ?_
      refine hcall.mono ?_
      rintro e w1 ⟨DA', dc', rfl, hJ⟩
      refine ⟨_, rfl, ?_⟩
      have hI := Inv.turnL hJ0 hJ
      refine WL_nil ?_
      rw [List.append_nil] at hI
      refine W_ret ?_
      refine ret0 (.inr rfl) rfl ⟨mo, DA', dc', VA, vc, WA, WC, rfl, fun k hk hmo x => ?_, hI⟩
      show freeTo s1.held tx 8 k x = 0
      unfold freeTo
      split
      · rfl
      · exact hh1 k hk hmo x
    · rw [if_neg hend]
      have hal2 : s1.ats.getD tx 0 < row.length := by omega
      refine W_seq ?_
      refine W_seq ?_
      refine W_draw (by kernel_rfl) ?_
      refine WA_inv (T := []) hI.drew ?_
      intro Sx hSx hXS
      replace hI := hI.drew
      refine WT_take 0 rfl rfl (by kernel_rfl) (hXS _ hI) rfl (fun W hW => have hI := hSx W hW; (by first | exact rMoveP rfl rfl | exact rMove rfl)) ?_
      refine WT_take 1 rfl rfl (by kernel_rfl) (hXS _ hI) rfl (fun W hW => have hI := hSx W hW; (rNilChk rfl rfl)) ?_
      refine WT_take 2 rfl rfl (by kernel_rfl) (hXS _ hI) rfl (fun W hW => have hI := hSx W hW; (by first | exact rFldN (off := 9) rfl (by kernel_rfl) rfl | exact rFld (off := 9) rfl (by kernel_rfl) rfl)) ?_
      refine WT_take 3 rfl rfl (by kernel_rfl) (hXS _ hI) rfl (fun W hW => have hI := hSx W hW; (by first | exact rLd (v := .slice _ _ _) rfl (by kernel_rfl) rfl (by first | exact hI.c0 rfl | exact hI.c1 rfl | exact (hI.old q1 hq1S) | exact (hI.c0 (natV_get (by omega)))) | exact rLd rfl (by kernel_rfl) rfl (by first | exact hI.c0 rfl | exact hI.c1 rfl | exact (hI.old q1 hq1S) | exact (hI.c0 (natV_get (by omega)))))) ?_
      refine WT_take 4 rfl rfl (by kernel_rfl) (hXS _ hI) rfl (fun W hW => have hI := hSx W hW; (by first | exact rMoveI rfl rfl | exact rMove rfl)) ?_
      refine WT_take 5 rfl rfl (by kernel_rfl) (hXS _ hI) rfl (fun W hW => have hI := hSx W hW; (by first | exact rIdx0 rfl Tryd.underlying24 (by kernel_rfl) rfl rfl rfl (by omega) | exact rIdx1 rfl Tryd.underlying24 (by kernel_rfl) rfl rfl (by omega))) ?_
      refine WT_take 6 rfl rfl (by kernel_rfl) (hXS _ hI) rfl (fun W hW => have hI := hSx W hW; (by first | exact rLd (v := .int .i64 _) rfl (by kernel_rfl) rfl (by first | exact hI.c0 rfl | exact hI.c1 rfl | exact (hI.old q1 hq1S) | exact (hI.c0 (natV_get (by omega)))) | exact rLd rfl (by kernel_rfl) rfl (by first | exact hI.c0 rfl | exact hI.c1 rfl | exact (hI.old q1 hq1S) | exact (hI.c0 (natV_get (by omega)))))) ?_
      refine WT_take 7 rfl rfl (by kernel_rfl) (hXS _ hI) rfl (fun W hW => have hI := hSx W hW; (by first | exact rMoveP rfl rfl | exact rMove rfl)) ?_
      refine WT_take 8 rfl rfl (by kernel_rfl) (hXS _ hI) rfl (fun W hW => have hI := hSx W hW; (rNilChk rfl rfl)) ?_
      refine WT_take 9 rfl rfl (by kernel_rfl) (hXS _ hI) rfl (fun W hW => have hI := hSx W hW; (by first | exact rFldN (off := 8) rfl (by kernel_rfl) rfl | exact rFld (off := 8) rfl (by kernel_rfl) rfl)) ?_
      refine WT_take 10 rfl rfl (by kernel_rfl) (hXS _ hI) rfl (fun W hW => have hI := hSx W hW; (by first | exact rLd (v := .slice _ _ _) rfl (by kernel_rfl) rfl (by first | exact hI.c0 rfl | exact hI.c1 rfl | exact (hI.old q1 hq1S) | exact (hI.c0 (natV_get (by omega)))) | exact rLd rfl (by kernel_rfl) rfl (by first | exact hI.c0 rfl | exact hI.c1 rfl | exact (hI.old q1 hq1S) | exact (hI.c0 (natV_get (by omega)))))) ?_
      refine WT_take 11 rfl rfl (by kernel_rfl) (hXS _ hI) rfl (fun W hW => have hI := hSx W hW; (by first | exact rMoveI rfl rfl | exact rMove rfl)) ?_
      refine WT_take 12 rfl rfl (by kernel_rfl) (hXS _ hI) rfl (fun W hW => have hI := hSx W hW; (by first | exact rIdx0 rfl Tryd.underlying23 (by kernel_rfl) rfl rfl rfl (by omega) | exact rIdx1 rfl Tryd.underlying23 (by kernel_rfl) rfl rfl (by omega))) ?_
      refine WT_take 13 rfl rfl (by kernel_rfl) (hXS _ hI) rfl (fun W hW => have hI := hSx W hW; (by first | exact rLd (v := .slice _ _ _) rfl (by kernel_rfl) rfl (by first | exact hI.c0 rfl | exact hI.c1 rfl | exact (hI.old q1 hq1S) | exact (hI.c0 (natV_get (by omega)))) | exact rLd rfl (by kernel_rfl) rfl (by first | exact hI.c0 rfl | exact hI.c1 rfl | exact (hI.old q1 hq1S) | exact (hI.c0 (natV_get (by omega)))))) ?_
      refine WT_take 14 rfl rfl (by kernel_rfl) (hXS _ hI) rfl (fun W hW => have hI := hSx W hW; (rLen rfl Tryd.underlying25 rfl)) ?_
      refine WT_take 15 rfl rfl (by kernel_rfl) (hXS _ hI) rfl (fun W hW => have hI := hSx W hW; (by first | exact rEqlT rfl rfl rfl (by omega) | exact rEqlF rfl rfl rfl (by omega) | exact rEql rfl rfl rfl)) ?_
      refine WT_end (by kernel_rfl) ?_
      refine W_cond false rfl ?_
      refine W_skip ?_
      generalize w.drew = wd at hI ⊢
      obtain ⟨a, ha⟩ : ∃ a, s1.ats.getD tx 0 = a := ⟨_, rfl⟩
      obtain ⟨sb, so, hRA, hDs, y0, y1, y2⟩ := hsts.at' (show s1.ats.getD tx 0 < row.length by omega)
      subst hRA
      rw [← hst] at y0 y1 y2
      have hmem : stepP p s tx ∈ row := by
        rw [hst, List.getD_eq_getElem?_getD, List.getElem?_eq_getElem hal2]
        exact List.getElem_mem _
      obtain ⟨t1, t2, t3, t4, t5⟩ := hrs _ hmem
      obtain ⟨st, hste⟩ : ∃ st, stepP p s tx = st := ⟨_, rfl⟩
      rw [hste] at y0 y1 y2 t1 t2 t3 t4 t5
      rw [hste]
      obtain ⟨sx, sk, sy⟩ := st
      dsimp only at y0 y1 y2 t1 t2 t3 t4 t5
      obtain ⟨kd, rfl⟩ : ∃ kd : Nat, sk = (kd : Int) := ⟨sk.toNat, by omega⟩
      obtain ⟨ky, rfl⟩ : ∃ ky : Nat, sy = (ky : Int) := ⟨sy.toNat, by omega⟩
      subst t1
      have hDsS := hDS _ hDs
      refine W_seq ?_
      refine W_draw (by kernel_rfl) ?_
      refine WA_inv (T := []) hI.drew ?_
      intro Sx hSx hXS
      replace hI := hI.drew
      refine WT_take 0 rfl rfl (by kernel_rfl) (hXS _ hI) rfl (fun W hW => have hI := hSx W hW; (by first | exact rMoveP rfl rfl | exact rMove rfl)) ?_
      refine WT_take 1 rfl rfl (by kernel_rfl) (hXS _ hI) rfl (fun W hW => have hI := hSx W hW; (rNilChk rfl rfl)) ?_
      refine WT_take 2 rfl rfl (by kernel_rfl) (hXS _ hI) rfl (fun W hW => have hI := hSx W hW; (by first | exact rFldN (off := 8) rfl (by kernel_rfl) rfl | exact rFld (off := 8) rfl (by kernel_rfl) rfl)) ?_
      refine WT_take 3 rfl rfl (by kernel_rfl) (hXS _ hI) rfl (fun W hW => have hI := hSx W hW; (by first | exact rLd (v := .slice _ _ _) rfl (by kernel_rfl) rfl (by first | exact hI.c0 rfl | exact hI.c1 rfl | exact (hI.old q1 hq1S) | exact (hI.c0 (natV_get (by omega))) | exact (hI.old y0 hDsS) | exact (hI.old y1 hDsS) | exact (hI.old y2 hDsS)) | exact rLd rfl (by kernel_rfl) rfl (by first | exact hI.c0 rfl | exact hI.c1 rfl | exact (hI.old q1 hq1S) | exact (hI.c0 (natV_get (by omega))) | exact (hI.old y0 hDsS) | exact (hI.old y1 hDsS) | exact (hI.old y2 hDsS)))) ?_
      refine WT_take 4 rfl rfl (by kernel_rfl) (hXS _ hI) rfl (fun W hW => have hI := hSx W hW; (by first | exact rMoveI rfl rfl | exact rMove rfl)) ?_
      refine WT_take 5 rfl rfl (by kernel_rfl) (hXS _ hI) rfl (fun W hW => have hI := hSx W hW; (by first | exact rIdx0 rfl Tryd.underlying23 (by kernel_rfl) rfl rfl rfl (by omega) | exact rIdx1 rfl Tryd.underlying23 (by kernel_rfl) rfl rfl (by omega))) ?_
      refine WT_take 6 rfl rfl (by kernel_rfl) (hXS _ hI) rfl (fun W hW => have hI := hSx W hW; (by first | exact rLd (v := .slice _ _ _) rfl (by kernel_rfl) rfl (by first | exact hI.c0 rfl | exact hI.c1 rfl | exact (hI.old q1 hq1S) | exact (hI.c0 (natV_get (by omega))) | exact (hI.old y0 hDsS) | exact (hI.old y1 hDsS) | exact (hI.old y2 hDsS)) | exact rLd rfl (by kernel_rfl) rfl (by first | exact hI.c0 rfl | exact hI.c1 rfl | exact (hI.old q1 hq1S) | exact (hI.c0 (natV_get (by omega))) | exact (hI.old y0 hDsS) | exact (hI.old y1 hDsS) | exact (hI.old y2 hDsS)))) ?_
      refine WT_take 7 rfl rfl (by kernel_rfl) (hXS _ hI) rfl (fun W hW => have hI := hSx W hW; (by first | exact rMoveP rfl rfl | exact rMove rfl)) ?_
      refine WT_take 8 rfl rfl (by kernel_rfl) (hXS _ hI) rfl (fun W hW => have hI := hSx W hW; (rNilChk rfl rfl)) ?_
      refine WT_take 9 rfl rfl (by kernel_rfl) (hXS _ hI) rfl (fun W hW => have hI := hSx W hW; (by first | exact rFldN (off := 9) rfl (by kernel_rfl) rfl | exact rFld (off := 9) rfl (by kernel_rfl) rfl)) ?_
      refine WT_take 10 rfl rfl (by kernel_rfl) (hXS _ hI) rfl (fun W hW => have hI := hSx W hW; (by first | exact rLd (v := .slice _ _ _) rfl (by kernel_rfl) rfl (by first | exact hI.c0 rfl | exact hI.c1 rfl | exact (hI.old q1 hq1S) | exact (hI.c0 (natV_get (by omega))) | exact (hI.old y0 hDsS) | exact (hI.old y1 hDsS) | exact (hI.old y2 hDsS)) | exact rLd rfl (by kernel_rfl) rfl (by first | exact hI.c0 rfl | exact hI.c1 rfl | exact (hI.old q1 hq1S) | exact (hI.c0 (natV_get (by omega))) | exact (hI.old y0 hDsS) | exact (hI.old y1 hDsS) | exact (hI.old y2 hDsS)))) ?_
      refine WT_take 11 rfl rfl (by kernel_rfl) (hXS _ hI) rfl (fun W hW => have hI := hSx W hW; (by first | exact rMoveI rfl rfl | exact rMove rfl)) ?_
      refine WT_take 12 rfl rfl (by kernel_rfl) (hXS _ hI) rfl (fun W hW => have hI := hSx W hW; (by first | exact rIdx0 rfl Tryd.underlying24 (by kernel_rfl) rfl rfl rfl (by omega) | exact rIdx1 rfl Tryd.underlying24 (by kernel_rfl) rfl rfl (by omega))) ?_
      refine WT_take 13 rfl rfl (by kernel_rfl) (hXS _ hI) rfl (fun W hW => have hI := hSx W hW; (by first | exact rLd (v := .int .i64 _) rfl (by kernel_rfl) rfl (by first | exact hI.c0 rfl | exact hI.c1 rfl | exact (hI.old q1 hq1S) | exact (hI.c0 (natV_get (by omega))) | exact (hI.old y0 hDsS) | exact (hI.old y1 hDsS) | exact (hI.old y2 hDsS)) | exact rLd rfl (by kernel_rfl) rfl (by first | exact hI.c0 rfl | exact hI.c1 rfl | exact (hI.old q1 hq1S) | exact (hI.c0 (natV_get (by omega))) | exact (hI.old y0 hDsS) | exact (hI.old y1 hDsS) | exact (hI.old y2 hDsS)))) ?_
      refine WT_take 14 rfl rfl (by kernel_rfl) (hXS _ hI) rfl (fun W hW => have hI := hSx W hW; (rIdx (sz := 3) rfl Tryd.underlying25 (by kernel_rfl) rfl rfl (by omega))) ?_
      refine WT_take 15 rfl rfl (by kernel_rfl) (hXS _ hI) rfl (fun W hW => have hI := hSx W hW; (by first | exact rLdB (n := 3) rfl (by kernel_rfl) (by kernel_rfl) rfl rfl hI.g0 | exact rLdB (n := 3) rfl (by kernel_rfl) (by kernel_rfl) rfl rfl hI.g1 | exact rLd3 rfl (by kernel_rfl) (by kernel_rfl) rfl (by first | exact hI.c0 rfl | exact hI.c1 rfl | exact (hI.old q1 hq1S) | exact (hI.c0 (natV_get (by omega))) | exact (hI.old y0 hDsS) | exact (hI.old y1 hDsS) | exact (hI.old y2 hDsS)) (by first | exact hI.c0 rfl | exact hI.c1 rfl | exact (hI.old q1 hq1S) | exact (hI.c0 (natV_get (by omega))) | exact (hI.old y0 hDsS) | exact (hI.old y1 hDsS) | exact (hI.old y2 hDsS)) (by first | exact hI.c0 rfl | exact hI.c1 rfl | exact (hI.old q1 hq1S) | exact (hI.c0 (natV_get (by omega))) | exact (hI.old y0 hDsS) | exact (hI.old y1 hDsS) | exact (hI.old y2 hDsS)))) ?_
      refine WT_one 16 rfl (by kernel_rfl) rfl ?_
      refine WL_alloc (u := .agg #[.int .i64 0, .int .i64 0, .int .i64 0]) (vs := #[.int .i64 0, .int .i64 0, .int .i64 0]) hI rfl rfl rfl rfl (by kernel_rfl) rfl ?_
      clear hI; rintro b4 w - - hI
      refine WL_nil ⟨hXS _ hI.d0, ?_⟩
      refine WT_one 17 rfl (by kernel_rfl) rfl ?_
      first | refine WL_stw0 (u := .agg _) (vs := #[_, _, _]) (n := 3) hI rfl rfl rfl rfl rfl rfl (by kernel_rfl) rfl rfl rfl ?_ | refine WL_stw1 (u := .agg _) (vs := #[_, _, _]) (n := 3) hI rfl rfl rfl rfl rfl rfl (by kernel_rfl) rfl rfl rfl ?_
      clear hI; intro w hI
      refine WL_nil ⟨hXS _ hI.d0, ?_⟩
      refine WT_end (by kernel_rfl) ?_
      have hky : ky < 8 := by omega
      replace hI := (hI.pull 1 rfl).back 5
      have hag0 : agR s1 ⟨(tx : Int), (kd : Int), (ky : Int)⟩ = agTo (s1.held ky) (tx : Int) (kd : Int) 8 := rfl
      obtain ⟨l, hl⟩ : ∃ l, agR s1 ⟨(tx : Int), (kd : Int), (ky : Int)⟩ = l := ⟨_, rfl⟩
      rw [hl]
      rw [hl] at hag0
      have hll : l.length ≤ 8 := by rw [hag0]; exact agTo_len ..
      have hly : ∀ y ∈ l, y < n := fun y hy => by
        rw [hag0] at hy
        rcases (by omega : kd = 1 ∨ kd = 2) with rfl | rfl
        · exact hag1 ky y (.inl hy)
        · exact hag1 ky y (.inr hy)
      refine W_seq ?_
      refine W_seq ?_
      refine W_draw (by kernel_rfl) ?_
      refine WA_inv (T := []) hI.drew ?_
      intro Sx hSx hXS
      replace hI := hI.drew
      refine WT_take 0 rfl rfl (by kernel_rfl) (hXS _ hI) rfl (fun W hW => have hI := hSx W hW; (by first | exact rMoveP rfl rfl | exact rMove rfl)) ?_
      refine WT_take 1 rfl rfl (by kernel_rfl) (hXS _ hI) rfl (fun W hW => have hI := hSx W hW; (rNilChk rfl rfl)) ?_
      refine WT_take 2 rfl rfl (by kernel_rfl) (hXS _ hI) rfl (fun W hW => have hI := hSx W hW; (by first | exact rFldN (off := 0) rfl (by kernel_rfl) rfl | exact rFld0 rfl (by kernel_rfl) rfl)) ?_
      refine WT_take 3 rfl rfl (by kernel_rfl) (hXS _ hI) rfl (fun W hW => have hI := hSx W hW; (by first | exact rLdB (n := 3) rfl (by kernel_rfl) (by kernel_rfl) rfl rfl hI.g0 | exact rLdB (n := 3) rfl (by kernel_rfl) (by kernel_rfl) rfl rfl hI.g1 | exact rLd3 rfl (by kernel_rfl) (by kernel_rfl) rfl (by first | exact hI.c0 rfl | exact hI.c1 rfl) (by first | exact hI.c0 rfl | exact hI.c1 rfl) (by first | exact hI.c0 rfl | exact hI.c1 rfl))) ?_
      refine WT_one 4 rfl (by kernel_rfl) rfl ?_
      refine WL_call rfl rfl rfl (rCall (vs := [.pointer _, .agg #[_, _, _]]) rfl Tryd.func22 rfl rfl rfl) ?_
      refine (against_any b ky (tx : Int) (kd : Int) (mo ky) (s1.held ky) _ hky (hI.c1 (runC_get _ _ hky)) (tbl_mapOk hI.d0 hh1 hky) (h21 ky)).mono ?_
      rintro e w1 ⟨OA, oc, rfl, hJ⟩
      rw [← hag0] at hJ
      rw [← hag0]
      refine ⟨_, rfl, ?_⟩
      replace hI := hI.app1 hJ
      refine WL_nil ⟨hXS _ hI.d0, ?_⟩
      refine WT_take 5 rfl rfl (by kernel_rfl) (hXS _ hI.d0) rfl (fun W hW => have hI := hSx W hW; (by first | exact rAsgnS rfl rfl | exact rAsgn rfl)) ?_
      refine WT_end (by kernel_rfl) ?_
      by_cases hl0 : 0 < l.length
      · rw [if_pos hl0]
        refine W_seq ?_
        refine W_region ?_
        refine WL_val rfl rfl rfl (by first | exact rMoveS rfl rfl | exact rMove rfl) ?_
        refine WL_val rfl rfl rfl (rLen rfl Tryd.underlying24 rfl) ?_
        refine WL_val rfl rfl rfl (by first | exact rGtrT rfl rfl rfl (by omega) | exact rGtrF rfl rfl rfl (by omega) | exact rGtr rfl rfl rfl) ?_
        refine WL_nil ?_
        refine W_cond true rfl ?_
        have hJ0 : Inv S w0 w1 (Row 0 3 1 OA l.length oc (natV l) :: rpt ⟨b, mo, .slice (some ⟨pb, po, none⟩) n pc, ab, ob, wm, wb, n, DA, dc, VA, vc, WA, WC⟩ s1 ++ []) := by rw [List.append_nil]; exact hI.d1
        have hcall := wait_any ⟨b, mo, .slice (some ⟨pb, po, none⟩) n pc, ab, ob, wm, wb, n, DA, dc, VA, vc, WA, WC⟩ s1 tx l OA oc _ w1 (Inv.from hJ0) m hm hR1 ht ⟨hll, hly⟩
        clear hI
        refine W_seq ?_
        refine W_region ?_
        refine WL_val rfl rfl rfl (by first | exact rMoveP rfl rfl | exact rMove rfl) ?_
        refine WL_val rfl rfl rfl (by first | exact rMoveI rfl rfl | exact rMove rfl) ?_
        refine WL_val rfl rfl rfl (by first | exact rMoveS rfl rfl | exact rMove rfl) ?_
        refine WL_call rfl rfl rfl (rCall (vs := [.pointer _, .int .i64 _, .slice _ _ _]) rfl Tryd.func23 rfl rfl rfl) ?_
        refine hcall.mono ?_
        rintro e w2 ⟨DA', dc', VA', vc', WA', WC', rfl, hJ⟩
        refine ⟨_, rfl, ?_⟩
        have hI := Inv.turnL hJ0 hJ
        refine WL_nil ?_
        rw [List.append_nil] at hI
        refine W_ret ?_
        exact ret0 (.inr rfl) rfl ⟨mo, DA', dc', VA', vc', WA', WC', rfl, hok_wait hh1 tx l, hI⟩
      · rw [if_neg hl0]
        refine W_seq ?_
        refine W_region ?_
        refine WL_val rfl rfl rfl (by first | exact rMoveS rfl rfl | exact rMove rfl) ?_
        refine WL_val rfl rfl rfl (rLen rfl Tryd.underlying24 rfl) ?_
        refine WL_val rfl rfl rfl (by first | exact rGtrT rfl rfl rfl (by omega) | exact rGtrF rfl rfl rfl (by omega) | exact rGtr rfl rfl rfl) ?_
        refine WL_nil ?_
        refine W_cond false rfl ?_
        refine W_skip ?_
        replace hI := (hI.d0.pull 2 rfl).pull 2 rfl
        have hhf : ∀ j x, s1.held j x ≤ 2 := h21
        refine W_seq ?_
        refine W_draw (by kernel_rfl) ?_
        refine WA_inv (T := [4]) hI.drew ?_
        intro Sx hSx hXS
        replace hI := hI.drew
        refine WT_take 0 rfl rfl (by kernel_rfl) (hXS _ hI) rfl (fun W hW => have hI := hSx W hW; (by first | exact rMoveP rfl rfl | exact rMove rfl)) ?_
        refine WT_take 1 rfl rfl (by kernel_rfl) (hXS _ hI) rfl (fun W hW => have hI := hSx W hW; (rNilChk rfl rfl)) ?_
        refine WT_take 2 rfl rfl (by kernel_rfl) (hXS _ hI) rfl (fun W hW => have hI := hSx W hW; (by first | exact rFldN (off := 0) rfl (by kernel_rfl) rfl | exact rFld0 rfl (by kernel_rfl) rfl)) ?_
        refine WT_take 3 rfl rfl (by kernel_rfl) (hXS _ hI) rfl (fun W hW => have hI := hSx W hW; (by first | exact rLdB (n := 3) rfl (by kernel_rfl) (by kernel_rfl) rfl rfl hI.g0 | exact rLdB (n := 3) rfl (by kernel_rfl) (by kernel_rfl) rfl rfl hI.g1 | exact rLdB (n := 3) rfl (by kernel_rfl) (by kernel_rfl) rfl rfl hI.g2 | exact rLd3 rfl (by kernel_rfl) (by kernel_rfl) rfl (by first | exact hI.c0 rfl | exact hI.c1 rfl | exact hI.c2 rfl) (by first | exact hI.c0 rfl | exact hI.c1 rfl | exact hI.c2 rfl) (by first | exact hI.c0 rfl | exact hI.c1 rfl | exact hI.c2 rfl))) ?_
        refine WT_A (by kernel_rfl) ?_
        clear hXS hSx
        refine WA_one 4 rfl (by kernel_rfl) ?_
        refine WL_call rfl rfl rfl (rCall (vs := [.pointer _, .agg #[_, _, _]]) rfl Tryd.func24 rfl rfl rfl) ?_
        refine (take_any b ky tx kd mo _ s1.held _ _ (Inv.from (l := [_, _]) hI) hh1 hky ⟨by omega, by omega⟩ hhf).mono ?_
        rintro e w2 ⟨mo', rfl, hho, hJ⟩
        refine ⟨_, rfl, ?_⟩
        replace hI := Inv.turnL (l := [_, _]) hI hJ
        refine WL_nil ?_
        refine WA_end (by kernel_rfl) ?_
        generalize hgw : w2 = w3 at hI ⊢
        replace hI : Inv S w0 w3 [B b 52 (runC mo' (vsR (.slice (some ⟨pb, po, none⟩) n pc) ab ob wm wb n DA s1.done.length dc VA s1.vict.length vc)), Many 8 (heldE (takeH s1.held ky tx kd) mo'), B b4 40 #[.int .i64 (tx : Int), .int .i64 (kd : Int), .int .i64 (ky : Int)], MapE wm (wg s1.wait WA WC), Many 8 (waitE s1.wait WA WC), B ab 3 (natV s1.ats).toArray, B ob 4 (boolV s1.over).toArray, Row 0 40 3 DA s1.done.length dc (s1.done.flatMap stV), B wb 3 (natV s1.waits).toArray, Row 0 3 1 VA s1.vict.length vc (natV s1.vict)] := hI
        replace hI := hI.pull 7 rfl
        refine W_seq ?_
        refine W_draw (by kernel_rfl) ?_
        refine WA_T (fun _ => True) [] ?_
        refine WT_take 0 rfl rfl (by kernel_rfl) trivial rfl (fun W _ => (by first | exact rMoveP rfl rfl | exact rMove rfl)) ?_
        refine WT_true ?_
        refine WA_inv (T := [8]) hI.drew ?_
        intro Sx hSx hXS
        replace hI := hI.drew
        refine WT_take 1 rfl rfl (by kernel_rfl) (hXS _ hI) rfl (fun W hW => have hI := hSx W hW; (by first | exact rMoveP rfl rfl | exact rMove rfl)) ?_
        refine WT_take 2 rfl rfl (by kernel_rfl) (hXS _ hI) rfl (fun W hW => have hI := hSx W hW; (rNilChk rfl rfl)) ?_
        refine WT_take 3 rfl rfl (by kernel_rfl) (hXS _ hI) rfl (fun W hW => have hI := hSx W hW; (by first | exact rFldN (off := 12) rfl (by kernel_rfl) rfl | exact rFld (off := 12) rfl (by kernel_rfl) rfl)) ?_
        refine WT_take 4 rfl rfl (by kernel_rfl) (hXS _ hI) rfl (fun W hW => have hI := hSx W hW; (by first | exact rFldN (off := 0) rfl (by kernel_rfl) rfl | exact rFld0 rfl (by kernel_rfl) rfl)) ?_
        refine WT_take 5 rfl rfl (by kernel_rfl) (hXS _ hI) rfl (fun W hW => have hI := hSx W hW; (by first | exact rLd (v := .slice _ _ _) rfl (by kernel_rfl) rfl (by first | exact hI.c0 rfl | exact hI.c1 rfl | exact hI.c2 rfl | exact hI.c3 rfl) | exact rLd rfl (by kernel_rfl) rfl (by first | exact hI.c0 rfl | exact hI.c1 rfl | exact hI.c2 rfl | exact hI.c3 rfl))) ?_
        refine WT_take 6 rfl rfl (by kernel_rfl) (hXS _ hI) rfl (fun W hW => have hI := hSx W hW; (by first | exact rLdB (n := 3) rfl (by kernel_rfl) (by kernel_rfl) rfl rfl hI.g0 | exact rLdB (n := 3) rfl (by kernel_rfl) (by kernel_rfl) rfl rfl hI.g1 | exact rLdB (n := 3) rfl (by kernel_rfl) (by kernel_rfl) rfl rfl hI.g2 | exact rLdB (n := 3) rfl (by kernel_rfl) (by kernel_rfl) rfl rfl hI.g3 | exact rLd3 rfl (by kernel_rfl) (by kernel_rfl) rfl (by first | exact hI.c0 rfl | exact hI.c1 rfl | exact hI.c2 rfl | exact hI.c3 rfl) (by first | exact hI.c0 rfl | exact hI.c1 rfl | exact hI.c2 rfl | exact hI.c3 rfl) (by first | exact hI.c0 rfl | exact hI.c1 rfl | exact hI.c2 rfl | exact hI.c3 rfl))) ?_
        refine WT_one 7 rfl (by kernel_rfl) rfl ?_
        refine WL_litA (e := 40) (size := 3) [[.int .i64 (tx : Int), .int .i64 (kd : Int), .int .i64 (ky : Int)]] hI rfl rfl rfl rfl rfl Tryd.underlying25 (by kernel_rfl) (by kernel_rfl) rfl (by simp) (by omega) ?_
        clear hI; rintro b91 w - - hI
        refine WL_nil ⟨hXS _ hI.d0, ?_⟩
        refine WT_A (by kernel_rfl) ?_
        clear hXS hSx
        refine WA_one 8 rfl (by kernel_rfl) ?_
        first | refine WL_app1 (z := .agg #[.int .i64 0, .int .i64 0, .int .i64 0]) (by_ := 24) hI rfl rfl rfl rfl rfl rfl Tryd.underlying25 (by kernel_rfl) rfl (by omega) (by rfl) hI.lit0 (by first | rfl | simp [i64s, Value.oneCell']) (by omega) (by omega) (by first | exact Nat.zero_le _ | (have := hI.chg.size; omega)) ?_
        clear hI; rintro A78 c78 w hA78 hc78 hI
        replace hI := hI.d0
        refine WL_nil ?_
        refine WA_one 9 rfl (by kernel_rfl) ?_
        refine WL_val rfl rfl rfl (rNilChk rfl rfl) ?_
        refine WL_nil ?_
        refine WA_one 10 rfl (by kernel_rfl) ?_
        refine WL_val rfl rfl rfl (by first | exact rFldN (off := 12) rfl (by kernel_rfl) rfl | exact rFld (off := 12) rfl (by kernel_rfl) rfl) ?_
        refine WL_nil ?_
        refine WA_one 11 rfl (by kernel_rfl) ?_
        refine WL_val rfl rfl rfl (by first | exact rFldN (off := 0) rfl (by kernel_rfl) rfl | exact rFld0 rfl (by kernel_rfl) rfl) ?_
        refine WL_nil ?_
        refine WA_one 12 rfl (by kernel_rfl) ?_
        refine WL_st1 (u := .slice _ _ _) (j := 12) (cs' := runC mo' (vsR (.slice (some ⟨pb, po, none⟩) n pc) ab ob wm wb n A78 (s1.done.length + 1) c78 VA s1.vict.length vc)) hI rfl rfl rfl rfl rfl rfl (by kernel_rfl) rfl rfl rfl ?_
        clear hI; intro w hI
        refine WL_nil ?_
        refine WA_end (by kernel_rfl) ?_
        replace hI := hI.pull 6 rfl
        refine W_region ?_
        refine WL_val rfl rfl rfl (by first | exact rMoveP rfl rfl | exact rMove rfl) ?_
        refine WL_val rfl rfl rfl (rNilChk rfl rfl) ?_
        refine WL_val rfl rfl rfl (by first | exact rFldN (off := 9) rfl (by kernel_rfl) rfl | exact rFld (off := 9) rfl (by kernel_rfl) rfl) ?_
        refine WL_val rfl rfl rfl (by first | exact rLd (v := .slice _ _ _) rfl (by kernel_rfl) rfl (by first | exact hI.c0 rfl | exact hI.c1 rfl | exact hI.c2 rfl | exact (hI.c0 (natV_get (by omega)))) | exact rLd rfl (by kernel_rfl) rfl (by first | exact hI.c0 rfl | exact hI.c1 rfl | exact hI.c2 rfl | exact (hI.c0 (natV_get (by omega))))) ?_
        refine WL_val rfl rfl rfl (by first | exact rMoveI rfl rfl | exact rMove rfl) ?_
        refine WL_val rfl rfl rfl (by first | exact rIdx0 rfl Tryd.underlying24 (by kernel_rfl) rfl rfl rfl (by omega) | exact rIdx1 rfl Tryd.underlying24 (by kernel_rfl) rfl rfl (by omega)) ?_
        refine WL_val rfl rfl rfl (by first | exact rLd (v := .int .i64 _) rfl (by kernel_rfl) rfl (by first | exact hI.c0 rfl | exact hI.c1 rfl | exact hI.c2 rfl | exact (hI.c0 (natV_get (by omega)))) | exact rLd rfl (by kernel_rfl) rfl (by first | exact hI.c0 rfl | exact hI.c1 rfl | exact hI.c2 rfl | exact (hI.c0 (natV_get (by omega))))) ?_
        refine WL_val rfl rfl rfl (by first | exact rInc rfl rfl rfl (by omega) | exact rAdd rfl rfl rfl (by omega) | exact rAddW rfl rfl rfl) ?_
        refine WL_val rfl rfl rfl (by first | exact rIdx0 rfl Tryd.underlying24 (by kernel_rfl) rfl rfl rfl (by omega) | exact rIdx1 rfl Tryd.underlying24 (by kernel_rfl) rfl rfl (by omega)) ?_
        refine WL_st0 (u := .int .i64 ((a + 1 : Nat) : Int)) (j := tx) (cs' := (natV (s1.ats.set tx (a + 1))).toArray) hI rfl rfl rfl rfl (by rw [← ha]; rfl) rfl (by kernel_rfl) rfl (by simp [Nat.blt, natV]; omega) natV_set ?_
        clear hI; intro w hI
        refine WL_nil ?_
        replace hI := ((hI.erase 4).back 5).back 6
        refine ret0 (.inl rfl) rfl ⟨mo', A78, c78, VA, vc, WA, WC, rfl, hho, ?_⟩
        have e1 : (s1.done ++ [(⟨(tx : Int), (kd : Int), (ky : Int)⟩ : St)]).length = s1.done.length + 1 := by simp
        have e2 : (s1.done ++ [(⟨(tx : Int), (kd : Int), (ky : Int)⟩ : St)]).flatMap stV = s1.done.flatMap stV ++ [.int .i64 (tx : Int), .int .i64 (kd : Int), .int .i64 (ky : Int)] := by rw [List.flatMap_append]; rfl
        unfold rpt stepR
        dsimp only
        rw [e1, e2, ha]
        exact hI
end Go.Proofs.YtidnlnlmmnkgoaaDoor
