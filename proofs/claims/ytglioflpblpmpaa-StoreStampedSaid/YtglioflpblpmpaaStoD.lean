/- store: send. -/
import Derived.Test.YtglioflpblpmpaaStoC
namespace Go.Proofs.Ytglioflpblpmpaa
open Go.RowKit
set_option linter.unusedVariables false
set_option linter.unusedSimpArgs false
theorem sendTo_succ (s : SSt) (c what : Nat) (e : SEnt) (j : Nat) : sendTo s c what e (j + 1) = pushM (sendTo s c what e j) (sendM s c what e j) := by
  unfold sendTo
  rw [List.range_succ, List.foldl_append]; rfl
theorem rep_bools (n : Nat) : rep (.bool false) n = (boolsV (List.replicate n false)).toArray := by
  apply Array.ext'
  simp [rep, boolsV]
/-- A new row for one client. -/
theorem Inv.cnew {S : Nat → Prop} {w0 w : World} {H : List Ent} {L L' : StL} {s s' : SSt} {c b : Nat} (h : Inv S w0 w (B b 4 (boolsV (s'.cl c).counted).toArray :: Many s.k (cntE L s) :: H)) (hc : c < s.k) (hw : L'.cw c = some b)
    (ho : ∀ i, i < s.k → i ≠ c → cntE L s i = cntE L' s' i) : Inv S w0 w (Many s.k (cntE L' s') :: H) := by
  have h1 := (((h.sw0).many_out hc).d0).sw0
  refine (h1.many_in hc (if_pos rfl)).many_congr fun i hi => ?_
  by_cases hic : i = c
  · subst hic
    rw [if_pos rfl]
    unfold cntE
    rw [hw]
  · rw [if_neg hic, if_neg hic]
    exact ho i hi hic
set_option maxHeartbeats 600000 in
theorem ssend_any (L : StL) (s : SSt) (c what : Nat) (e : SEnt) (hc : c < s.k) (hk8 : s.k ≤ 8) (hn : 1 ≤ s.n ∧ s.n ≤ 7) (hr : (s.cl c).round ≤ 1000000) (hk : 0 ≤ (s.cl c).began.key) (S : Nat → Prop) (w0 : World) (hI : Inv S w0 w0 (spt L s)) :
    Calls Try.prog 20 #[.pointer (some ⟨L.sb, 0, none⟩), .int .i64 (c : Int), .int .i64 (what : Int), .agg (entL e).toArray] w0 fun en w' => en = .returned (.tuple #[]) ∧ ∃ b MA mc, Inv S w0 w' (spt { L with cw := fun i => if i = c then some b else L.cw i, MA := MA, mc := mc } (sendF s c what e)) := by
  unfold spt at hI
  rw [← clX_start (c := c)] at hI
  refine calls_of_W (N := Try.f20.ntmps) Try.func20 rfl rfl rfl ?_
  refine W_seq ?_
  refine W_region ?_
  refine WL_box (u := .agg (entL e).toArray) (vs := (entL e).toArray) hI rfl rfl rfl rfl rfl rfl ?_
  clear hI; rintro b7 w - - hI
  refine WL_nil ?_
  obtain ⟨x, hx⟩ : ∃ x, s.cl c = x := ⟨_, rfl⟩
  rw [hx] at hI hr hk
  refine W_seq ?_
  refine W_region ?_
  refine WL_val rfl rfl rfl (by first | exact rMoveP rfl rfl | exact rMove rfl) ?_
  refine WL_val rfl rfl rfl (rNilChk rfl rfl) ?_
  refine WL_val rfl rfl rfl (by first | exact rFldN (off := 6) rfl (by kernel_rfl) rfl | exact rFld (off := 6) rfl (by kernel_rfl) rfl) ?_
  refine WL_val rfl rfl rfl (by first | exact rLd (v := .slice _ _ _) rfl (by kernel_rfl) rfl (by first | exact hI.c0 rfl | exact hI.c1 rfl) | exact rLd rfl (by kernel_rfl) rfl (by first | exact hI.c0 rfl | exact hI.c1 rfl)) ?_
  refine WL_val rfl rfl rfl (by first | exact rMoveI rfl rfl | exact rMove rfl) ?_
  refine WL_val rfl rfl rfl (rIdx (sz := 15) rfl Try.underlying52 (by kernel_rfl) rfl rfl (by omega)) ?_
  refine WL_val rfl rfl rfl (by first | exact rAsgnP rfl rfl | exact rAsgn rfl) ?_
  refine WL_nil ?_
  refine W_seq ?_
  refine W_region ?_
  refine WL_val rfl rfl rfl (by first | exact rMoveP rfl rfl | exact rMove rfl) ?_
  refine WL_val rfl rfl rfl (rNilChk rfl rfl) ?_
  refine WL_val rfl rfl rfl (by first | exact rFldN (off := 10) rfl (by kernel_rfl) rfl | exact rFld (off := 10) rfl (by kernel_rfl) rfl) ?_
  refine WL_val rfl rfl rfl (by first | exact rLd (v := .int .i64 _) rfl (by kernel_rfl) rfl (by first | exact hI.c0 rfl | exact hI.c1 rfl | exact (clX_at 3 rfl hI hc).c10) | exact rLd rfl (by kernel_rfl) rfl (by first | exact hI.c0 rfl | exact hI.c1 rfl | exact (clX_at 3 rfl hI hc).c10)) ?_
  refine WL_val rfl rfl rfl (by first | exact rInc rfl rfl rfl (by omega) | exact rAdd rfl rfl rfl (by omega) | exact rAddW rfl rfl rfl) ?_
  refine WL_val rfl rfl rfl (rNilChk rfl rfl) ?_
  refine WL_val rfl rfl rfl (by first | exact rFldN (off := 10) rfl (by kernel_rfl) rfl | exact rFld (off := 10) rfl (by kernel_rfl) rfl) ?_
  refine WL_st 3 rfl (u := .int .i64 ((x.round + 1 : Nat) : Int)) (j := 0 + c * 15 + 10) hI rfl rfl rfl rfl rfl rfl (by kernel_rfl) rfl (clX_blt hc (by omega)) (clX_set (x := x) (cv := cntV L s c) (cv' := cntV L s c) (x' := { x with round := x.round + 1 }) hc 10 (by omega) rfl) ?_
  clear hI; intro w hI
  refine WL_nil ?_
  refine W_seq ?_
  refine W_region ?_
  refine WL_val rfl rfl rfl (by first | exact rMoveP rfl rfl | exact rMove rfl) ?_
  refine WL_val rfl rfl rfl (by first | exact rMoveI rfl rfl | exact rMove rfl) ?_
  refine WL_val rfl rfl rfl (by first | exact rEqlT rfl rfl rfl (by omega) | exact rEqlF rfl rfl rfl (by omega) | exact rEql rfl rfl rfl) ?_
  refine WL_val rfl rfl rfl (rNilChk rfl rfl) ?_
  refine WL_val rfl rfl rfl (by first | exact rFldN (off := 9) rfl (by kernel_rfl) rfl | exact rFld (off := 9) rfl (by kernel_rfl) rfl) ?_
  refine WL_st 3 rfl (u := .bool (decide ((what : Int) = 2))) (j := 0 + c * 15 + 9) hI rfl rfl rfl rfl rfl rfl (by kernel_rfl) rfl (clX_blt hc (by omega)) (clX_set (x := { x with round := x.round + 1 }) (cv := cntV L s c) (cv' := cntV L s c) (x' := { x with round := x.round + 1, telling := decide ((what : Int) = 2) }) hc 9 (by omega) rfl) ?_
  clear hI; intro w hI
  refine WL_nil ?_
  refine W_seq ?_
  refine W_region ?_
  refine WL_val rfl rfl rfl (by first | exact rMoveP rfl rfl | exact rMove rfl) ?_
  refine WL_val rfl rfl rfl (by first | exact rMoveP rfl rfl | exact rMove rfl) ?_
  refine WL_val rfl rfl rfl (rNilChk rfl rfl) ?_
  refine WL_val rfl rfl rfl (by first | exact rFldN (off := 0) rfl (by kernel_rfl) rfl | exact rFld0 rfl (by kernel_rfl) rfl) ?_
  refine WL_val rfl rfl rfl (by first | exact rFldN (off := 0) rfl (by kernel_rfl) rfl | exact rFld0 rfl (by kernel_rfl) rfl) ?_
  refine WL_val rfl rfl rfl (by first | exact rLd (v := .int .i64 _) rfl (by kernel_rfl) rfl (by first | exact hI.c0 rfl | exact hI.c1 rfl) | exact rLd rfl (by kernel_rfl) rfl (by first | exact hI.c0 rfl | exact hI.c1 rfl)) ?_
  refine WL_mk (by_ := 1) (z := .bool false) hI rfl rfl rfl rfl rfl rfl Try.underlying66 (by kernel_rfl) rfl (by omega) (by omega) ?_
  clear hI; rintro b35 w - - hI
  refine WL_val rfl rfl rfl (rNilChk rfl rfl) ?_
  refine WL_val rfl rfl rfl (by first | exact rFldN (off := 11) rfl (by kernel_rfl) rfl | exact rFld (off := 11) rfl (by kernel_rfl) rfl) ?_
  refine WL_st 4 rfl (u := .slice (some ⟨b35, 0, none⟩) s.n s.n) (j := 0 + c * 15 + 11) hI rfl rfl rfl rfl rfl rfl (by kernel_rfl) rfl (clX_blt hc (by omega)) (clX_set (x := { x with round := x.round + 1, telling := decide ((what : Int) = 2) }) (cv := cntV L s c) (x' := { x with round := x.round + 1, telling := decide ((what : Int) = 2) }) (cv' := .slice (some ⟨b35, 0, none⟩) s.n s.n) hc 11 (by omega) rfl) ?_
  clear hI; intro w hI
  refine WL_nil ?_
  have hdt : decide ((what : Int) = 2) = decide (what = 2) := decide_eq_decide.2 (by omega)
  rw [hdt] at hI
  obtain ⟨s1, hs1⟩ : ∃ s1, setCl s c (roundC s c what) = s1 := ⟨_, rfl⟩
  obtain ⟨L1, hL1⟩ : ∃ L1 : StL, { L with cw := fun i => if i = c then some b35 else L.cw i } = L1 := ⟨_, rfl⟩
  have hcl1 : s1.cl c = roundC s c what := by rw [← hs1]; exact if_pos rfl
  have hcw1 : L1.cw c = some b35 := by rw [← hL1]; exact if_pos rfl
  have hclo : ∀ i, i ≠ c → s1.cl i = s.cl i := fun i hi => by rw [← hs1]; exact if_neg hi
  have hcwo : ∀ i, i ≠ c → L1.cw i = L.cw i := fun i hi => by rw [← hL1]; exact if_neg hi
  have hn1 : s1.n = s.n := by rw [← hs1]; rfl
  have hk1 : s1.k = s.k := by rw [← hs1]; rfl
  have hm1 : s1.mails = s.mails := by rw [← hs1]; rfl
  have hcv1 : cntV L1 s1 c = .slice (some ⟨b35, 0, none⟩) s.n s.n := by unfold cntV; rw [hcw1, hn1]
  have hF1 : clF L1 s1 c = clL { x with round := x.round + 1, telling := decide (what = 2) } (.slice (some ⟨b35, 0, none⟩) s.n s.n) := by
    unfold clF
    rw [hcl1, hcv1, ← hx]
    rfl
  have hend : clX s.k L s c { x with round := x.round + 1, telling := decide (what = 2) } (.slice (some ⟨b35, 0, none⟩) s.n s.n) = flatB s.k (clF L1 s1) := clX_end hF1.symm fun i hi hic => by
    unfold clF cntV
    rw [hclo i hic, hcwo i hic, hn1]
  replace hI : Inv S w0 w ([B b7 62 (entL e).toArray] ++ spt L1 s1) := by
    rw [rep_bools] at hI
    replace hI := (hI.pull 5 rfl).sw0
    have h2 : Inv S w0 w [B b35 4 (boolsV (s1.cl c).counted).toArray, Many s.k (cntE L s), B b7 62 (entL e).toArray, B L.sb 59 (stoC L s), B L.nb 63 (flatB (s.n * 8) (ndF s)), B L.cb 68 (flatB s.k (clF L1 s1)), Row 0 73 9 L.MA s.mails.length L.mc (s.mails.flatMap mailL),
        Row 0 66 1 L.LA L.ln L.lc L.lv, RowsE L.lv L.LD, Row 0 37 7 L.EA s.evs.length L.ec (s.evs.flatMap evL), Row 0 39 2 L.SA s.sts.length L.sc (s.sts.flatMap stL)] := by
      rw [hcl1, ← hend]; exact hI
    have h3 := (h2.cnew (L' := L1) (s' := s1) hc hcw1 (fun i hi hic => by unfold cntE; rw [hclo i hic, hcwo i hic])).back 4
    clear hI h2 hend hF1 hcv1 hcl1 hclo hcw1 hcwo
    subst hs1 hL1
    exact h3
  have hr1 : (s1.cl c).round = (s.cl c).round + 1 := by rw [hcl1]; rfl
  have hk1c : (s1.cl c).began.key = ((keyC s c : Nat) : Int) := by rw [hcl1]; show (s.cl c).began.key = _; unfold keyC; rw [hx]; omega
  have hq : ∀ w MA mc ms, Inv S w0 w ([B b7 62 (entL e).toArray] ++ spt { L1 with MA := MA, mc := mc } { s1 with mails := ms }) → w.cell? ⟨L.cb, 0 + c * 15 + 10, none⟩ = some (.int .i64 (((s.cl c).round + 1 : Nat) : Int)) ∧ w.cell? ⟨L.cb, 0 + c * 15 + 4, none⟩ = some (.int .i64 ((keyC s c : Nat) : Int)) := fun w MA mc ms hI => by
    have h := clF_at (c := c) 3 rfl hI (by show c < s1.k; omega)
    have hcb : L1.cb = L.cb := by rw [← hL1]
    have h10 : w.cell? ⟨L1.cb, 0 + c * 15 + 10, none⟩ = some (.int .i64 ((s1.cl c).round : Int)) := h.c10
    have h4 : w.cell? ⟨L1.cb, 0 + c * 15 + 4, none⟩ = some (.int .i64 (s1.cl c).began.key) := h.c4
    rw [hcb] at h10 h4
    rw [hr1] at h10
    rw [hk1c] at h4
    exact ⟨h10, h4⟩
  have hn7 : s1.n ≤ 7 := by omega
  have hsb : L1.sb = L.sb := by rw [← hL1]
  have hz : sendTo s c what e 0 = s1.mails := by rw [hm1]; rfl
  clear hcl1 hcw1 hclo hcwo hn1 hk1 hm1 hcv1 hF1 hend hr1 hk1c hsb hdt
  subst hL1
  subst hs1
  refine W_seq ?_
  refine W_region ?_
  refine WL_val rfl rfl rfl (by first | exact rMoveP rfl rfl | exact rMove rfl) ?_
  refine WL_val rfl rfl rfl (rNilChk rfl rfl) ?_
  refine WL_val rfl rfl rfl (by first | exact rFldN (off := 5) rfl (by kernel_rfl) rfl | exact rFld (off := 5) rfl (by kernel_rfl) rfl) ?_
  refine WL_val rfl rfl rfl (by first | exact rLd (v := .slice _ _ _) rfl (by kernel_rfl) rfl (by first | exact hI.c0 rfl | exact hI.c1 rfl) | exact rLd rfl (by kernel_rfl) rfl (by first | exact hI.c0 rfl | exact hI.c1 rfl)) ?_
  refine WL_val rfl rfl rfl (rLen rfl Try.underlying51 rfl) ?_
  refine WL_val rfl rfl rfl (by first | exact rMoveI rfl rfl | exact rMove rfl) ?_
  refine WL_nil ?_
  refine W_block ?_
  refine W_loop (fun ρ w => ∃ (j : Nat) (MA : Option Addr) (mc : Nat), j ≤ s.n ∧ Has ρ [(43, .int .i64 (j : Int)), (42, .int .i64 (s.n : Int)), (0, .pointer (some ⟨L.sb, 0, none⟩)), (1, .int .i64 (c : Int)), (2, .int .i64 (what : Int)), (7, .pointer (some ⟨b7, 0, none⟩)), (8, .pointer (some ⟨L.cb, 0 + c * 15, none⟩))] ∧
    Inv S w0 w ([B b7 62 (entL e).toArray] ++ spt { L with cw := fun i => if i = c then some b35 else L.cw i, MA := MA, mc := mc } { setCl s c (roundC s c what) with mails := sendTo s c what e j })) (fun ρ _ => s.n - cnt (ρ 43))
    ⟨0, L.MA, L.mc, by omega, ⟨rfl, rfl, rfl, rfl, rfl, rfl, rfl, trivial⟩, hI⟩ ?_
  clear hI
  rintro ρ w ⟨j, MA, mc, hj, hH, hI⟩
  obtain ⟨σ, rfl⟩ := hH.open
  by_cases hjn : j < s.n
  rotate_left
  · obtain rfl : j = s.n := by omega
    refine W_seq ?_
    refine W_region ?_
    refine WL_val rfl rfl rfl (by first | exact rLssT rfl rfl rfl (by omega) | exact rLssF rfl rfl rfl (by omega) | exact rLss rfl rfl rfl) ?_
    refine WL_nil ?_
    refine W_seq ?_
    refine W_cond false rfl ?_
    refine W_exit ?_
    exact ret0 (.inl rfl) rfl ⟨rfl, b35, MA, mc, hI.d0⟩
  refine W_seq ?_
  refine W_region ?_
  refine WL_val rfl rfl rfl (by first | exact rLssT rfl rfl rfl (by omega) | exact rLssF rfl rfl rfl (by omega) | exact rLss rfl rfl rfl) ?_
  refine WL_nil ?_
  refine W_seq ?_
  refine W_cond true rfl ?_
  refine W_skip ?_
  refine W_seq ?_
  refine W_block ?_
  refine W_seq ?_
  refine W_region ?_
  refine WL_val rfl rfl rfl (by first | exact rMoveI rfl rfl | exact rMove rfl) ?_
  refine WL_val rfl rfl rfl (by first | exact rAsgnI rfl rfl | exact rAsgn rfl) ?_
  refine WL_nil ?_
  refine W_seq ?_
  refine W_draw (by kernel_rfl) ?_
  refine WA_inv (T := [14]) hI.drew ?_
  intro Sx hSx hXS
  replace hI := hI.drew
  refine WT_take 0 rfl rfl (by kernel_rfl) (hXS _ hI) rfl (fun W hW => have hI := hSx W hW; (by first | exact rMoveI rfl rfl | exact rMove rfl)) ?_
  refine WT_take 1 rfl rfl (by kernel_rfl) (hXS _ hI) rfl (fun W hW => have hI := hSx W hW; (by first | exact rMoveI rfl rfl | exact rMove rfl)) ?_
  refine WT_take 2 rfl rfl (by kernel_rfl) (hXS _ hI) rfl (fun W hW => have hI := hSx W hW; (by first | exact rMoveP rfl rfl | exact rMove rfl)) ?_
  refine WT_take 3 rfl rfl (by kernel_rfl) (hXS _ hI) rfl (fun W hW => have hI := hSx W hW; (rNilChk rfl rfl)) ?_
  refine WT_take 4 rfl rfl (by kernel_rfl) (hXS _ hI) rfl (fun W hW => have hI := hSx W hW; (by first | exact rFldN (off := 10) rfl (by kernel_rfl) rfl | exact rFld (off := 10) rfl (by kernel_rfl) rfl)) ?_
  refine WT_take 5 rfl rfl (by kernel_rfl) (hXS _ hI) rfl (fun W hW => have hI := hSx W hW; (rLd (v := .int .i64 _) rfl (by kernel_rfl) rfl (hq _ _ _ _ hI).1)) ?_
  refine WT_take 6 rfl rfl (by kernel_rfl) (hXS _ hI) rfl (fun W hW => have hI := hSx W hW; (by first | exact rMoveP rfl rfl | exact rMove rfl)) ?_
  refine WT_take 7 rfl rfl (by kernel_rfl) (hXS _ hI) rfl (fun W hW => have hI := hSx W hW; (rNilChk rfl rfl)) ?_
  refine WT_take 8 rfl rfl (by kernel_rfl) (hXS _ hI) rfl (fun W hW => have hI := hSx W hW; (by first | exact rFldN (off := 2) rfl (by kernel_rfl) rfl | exact rFld (off := 2) rfl (by kernel_rfl) rfl)) ?_
  refine WT_take 9 rfl rfl (by kernel_rfl) (hXS _ hI) rfl (fun W hW => have hI := hSx W hW; (by first | exact rFldN (off := 2) rfl (by kernel_rfl) rfl | exact rFld (off := 2) rfl (by kernel_rfl) rfl)) ?_
  refine WT_take 10 rfl rfl (by kernel_rfl) (hXS _ hI) rfl (fun W hW => have hI := hSx W hW; (rLd (v := .int .i64 _) rfl (by kernel_rfl) rfl (hq _ _ _ _ hI).2)) ?_
  refine WT_take 11 rfl rfl (by kernel_rfl) (hXS _ hI) rfl (fun W hW => have hI := hSx W hW; (rLdA (n := 3) (l := entL e) rfl (by kernel_rfl) (by kernel_rfl) rfl rfl (fun k u hk => hI.cell 0 rfl (by rw [Nat.zero_add, List.getElem?_toArray]; exact hk)))) ?_
  refine WT_take 12 rfl rfl (by kernel_rfl) (hXS _ hI) rfl (fun W hW => have hI := hSx W hW; (rBuild (qs := [(0, .int .i64 _), (1, .int .i64 _), (2, .int .i64 _), (3, .int .i64 _), (4, .agg #[_, _, _])]) (vs := [_, _, _, _, _, _, _]) [.int .i64 0, .int .i64 0, .int .i64 0, .int .i64 0, .int .i64 0, .int .i64 0, .int .i64 0] [0, 1, 2, 3, 4] rfl rfl rfl (fun _ => by kernel_rfl))) ?_
  refine WT_one 13 rfl (by kernel_rfl) rfl ?_
  refine WL_alloc (u := .agg #[.int .i64 0, .int .i64 0, .int .i64 0, .int .i64 0, .int .i64 0, .int .i64 0, .int .i64 0]) (vs := #[.int .i64 0, .int .i64 0, .int .i64 0, .int .i64 0, .int .i64 0, .int .i64 0, .int .i64 0]) hI rfl rfl rfl rfl (by kernel_rfl) rfl ?_
  clear hI; rintro b10 w - - hI
  refine WL_nil ⟨hXS _ hI.d0, ?_⟩
  refine WT_A (by kernel_rfl) ?_
  clear hXS hSx
  refine WA_one 14 rfl (by kernel_rfl) ?_
  refine WL_stw0 (u := .agg (msgL (sendM s c what e j).m).toArray) (vs := (msgL (sendM s c what e j).m).toArray) (n := 7) hI rfl rfl rfl rfl rfl rfl (by kernel_rfl) rfl rfl rfl ?_
  clear hI; intro w hI
  refine WL_nil ?_
  refine WA_end (by kernel_rfl) ?_
  refine W_draw (by kernel_rfl) ?_
  refine WA_inv (T := [13]) hI.drew ?_
  intro Sx hSx hXS
  replace hI := hI.drew
  refine WT_take 0 rfl rfl (by kernel_rfl) (hXS _ hI) rfl (fun W hW => have hI := hSx W hW; (by first | exact rMoveP rfl rfl | exact rMove rfl)) ?_
  refine WT_take 1 rfl rfl (by kernel_rfl) (hXS _ hI) rfl (fun W hW => have hI := hSx W hW; (rNilChk rfl rfl)) ?_
  refine WT_take 2 rfl rfl (by kernel_rfl) (hXS _ hI) rfl (fun W hW => have hI := hSx W hW; (by first | exact rFldN (off := 7) rfl (by kernel_rfl) rfl | exact rFld (off := 7) rfl (by kernel_rfl) rfl)) ?_
  refine WT_take 3 rfl rfl (by kernel_rfl) (hXS _ hI) rfl (fun W hW => have hI := hSx W hW; (by first | exact rMoveP rfl rfl | exact rMove rfl)) ?_
  refine WT_take 4 rfl rfl (by kernel_rfl) (hXS _ hI) rfl (fun W hW => have hI := hSx W hW; (rNilChk rfl rfl)) ?_
  refine WT_take 5 rfl rfl (by kernel_rfl) (hXS _ hI) rfl (fun W hW => have hI := hSx W hW; (by first | exact rFldN (off := 0) rfl (by kernel_rfl) rfl | exact rFld0 rfl (by kernel_rfl) rfl)) ?_
  refine WT_take 6 rfl rfl (by kernel_rfl) (hXS _ hI) rfl (fun W hW => have hI := hSx W hW; (by first | exact rFldN (off := 0) rfl (by kernel_rfl) rfl | exact rFld0 rfl (by kernel_rfl) rfl)) ?_
  refine WT_take 7 rfl rfl (by kernel_rfl) (hXS _ hI) rfl (fun W hW => have hI := hSx W hW; (rLd (v := .int .i64 (s.n : Int)) rfl (by kernel_rfl) rfl (hI.c2 rfl))) ?_
  refine WT_take 8 rfl rfl (by kernel_rfl) (hXS _ hI) rfl (fun W hW => have hI := hSx W hW; (by first | exact rMoveI rfl rfl | exact rMove rfl)) ?_
  refine WT_take 9 rfl rfl (by kernel_rfl) (hXS _ hI) rfl (fun W hW => have hI := hSx W hW; (rAddNN rfl rfl rfl (by omega))) ?_
  refine WT_take 10 rfl rfl (by kernel_rfl) (hXS _ hI) rfl (fun W hW => have hI := hSx W hW; (by first | exact rMoveI rfl rfl | exact rMove rfl)) ?_
  refine WT_take 11 rfl rfl (by kernel_rfl) (hXS _ hI) rfl (fun W hW => have hI := hSx W hW; (rLdA (n := 7) (l := msgL (sendM s c what e j).m) rfl (by kernel_rfl) (by kernel_rfl) rfl rfl (fun k u hk => hI.cell 0 rfl (by rw [Nat.zero_add, List.getElem?_toArray]; exact hk)))) ?_
  refine WT_take 12 rfl rfl (by kernel_rfl) (hXS _ hI) rfl (fun W hW => have hI := hSx W hW; (rBuild (qs := [(0, .int .i64 ((s.n + c : Nat) : Int)), (1, .int .i64 (j : Int)), (2, .agg (msgL (sendM s c what e j).m).toArray)]) (vs := mailL (sendM s c what e j)) [.int .i64 0, .int .i64 0, .int .i64 0, .int .i64 0, .int .i64 0, .int .i64 0, .int .i64 0, .int .i64 0, .int .i64 0] [0, 1, 2] rfl rfl rfl (fun _ => by kernel_rfl))) ?_
  refine WT_A (by kernel_rfl) ?_
  clear hXS hSx
  refine WA_one 13 rfl (by kernel_rfl) ?_
  refine WL_call rfl rfl rfl (rCall (vs := [.pointer _, .agg _]) rfl Try.func30 rfl rfl rfl) ?_
  refine (send_any { L with cw := fun i => if i = c then some b35 else L.cw i, MA := MA, mc := mc } { setCl s c (roundC s c what) with mails := sendTo s c what e j } (sendM s c what e j) (DLs _) _ (hI.fromB (X := [_, _]))).mono ?_
  rintro en w1 ⟨⟨v, rfl⟩, MA', mc', hJ⟩
  refine ⟨_, rfl, ?_⟩
  replace hI := hI.callB (X := [_, _]) hJ
  refine WL_nil ?_
  refine WA_end (by kernel_rfl) ?_
  refine W_region ?_
  refine WL_val rfl rfl rfl (by first | exact rInc rfl rfl rfl (by omega) | exact rAdd rfl rfl rfl (by omega) | exact rAddW rfl rfl rfl) ?_
  refine WL_val rfl rfl rfl (by first | exact rMoveI rfl rfl | exact rMove rfl) ?_
  refine WL_nil ?_
  refine ⟨⟨j + 1, MA', mc', by omega, ⟨rfl, rfl, rfl, rfl, rfl, rfl, rfl, trivial⟩, ?_⟩, by show s.n - ((j + 1 : Nat) : Int).toNat < s.n - (j : Int).toNat; omega⟩
  rw [sendTo_succ]
  replace hI := hI.erase 0
  exact hI
end Go.Proofs.Ytglioflpblpmpaa
