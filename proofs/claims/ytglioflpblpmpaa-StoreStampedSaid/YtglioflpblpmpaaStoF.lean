/- store: GiveUp, node. -/
import Derived.Test.YtglioflpblpmpaaStoE
namespace Go.Proofs.Ytglioflpblpmpaa
open Go.RowKit
set_option linter.unusedVariables false
set_option linter.unusedSimpArgs false
section
variable {S : Nat → Prop} {w0 w : World} {X : List Ent} {L : StL} {s : SSt} {c : Nat}
theorem sp_cl (hI : Inv S w0 w (X ++ spt L s)) (hc : c < s.k) : ClAt w L.cb (0 + c * 15) (s.cl c) (cntV L s c) := clF_at 2 rfl hI.fromB hc
theorem sp_sub (hI : Inv S w0 w (X ++ spt L s)) (hc : c < s.k) (off : Nat) {l : List Value} (r : List Value) (hl : (clF L s c).drop off = l ++ r) : ∀ (j : Nat) (v : Value), l[j]? = some v → w.cell? ⟨L.cb, 0 + c * 15 + off + j, none⟩ = some v := clF_sub 2 rfl hI.fromB hc off r hl
theorem sp_cnt (hI : Inv S w0 w (X ++ spt L s)) (hc : c < s.k) {b : Nat} (hb : L.cw c = some b) : Blk w b 4 (boolsV (s.cl c).counted).toArray := by
  have h := (hI.fromB.ok _ (List.mem_of_getElem? (i := 3) rfl)).1.1 c hc
  unfold cntE at h
  rw [hb] at h
  exact h.1
theorem sp_c5 (hI : Inv S w0 w (X ++ spt L s)) : w.cell? ⟨L.sb, 5, none⟩ = some (.slice (some ⟨L.nb, 0, none⟩) s.n s.n) := hI.fromB.cell 0 rfl rfl
theorem sp_c6 (hI : Inv S w0 w (X ++ spt L s)) : w.cell? ⟨L.sb, 6, none⟩ = some (.slice (some ⟨L.cb, 0, none⟩) s.k s.k) := hI.fromB.cell 0 rfl rfl
theorem sp_c0 (hI : Inv S w0 w (X ++ spt L s)) : w.cell? ⟨L.sb, 0, none⟩ = some (.int .i64 (s.n : Int)) := hI.fromB.cell 0 rfl rfl
theorem nd_off (j key off : Nat) : 0 + j * 24 + key * 3 + off = (j * 8 + key) * 3 + off := by omega
theorem ndF_at {j key : Nat} (hk : key < 8) : ndF s (j * 8 + key) = entL (s.ent j key) := by
  unfold ndF
  rw [show (j * 8 + key) / 8 = j by omega, show (j * 8 + key) % 8 = key by omega]
theorem sp_nd (hI : Inv S w0 w (X ++ spt L s)) {j key : Nat} (hj : j < s.n) (hk : key < 8) : ∀ (off : Nat) (v : Value), (entL (s.ent j key))[off]? = some v → w.cell? ⟨L.nb, 0 + j * 24 + key * 3 + off, none⟩ = some v := fun off v hv => by
  have hB : Blk w L.nb 63 (flatB (s.n * 8) (ndF s)) := (hI.fromB.ok _ (List.mem_of_getElem? (i := 1) rfl)).1
  rw [hB.cell, nd_off]
  exact flatB_get (fun i => ndF_len s i) (by omega) (by rw [ndF_at hk]; exact hv)
theorem ndF_set {j key : Nat} {e : SEnt} (hj : j < s.n) (hk : key < 8) : splice (flatB (s.n * 8) (ndF s)) (0 + j * 24 + key * 3) (entL e) = flatB (s.n * 8) (ndF (setEnt s j key e)) := by
  have h0 := nd_off j key 0
  rw [Nat.add_zero] at h0
  rw [h0]
  refine flatB_splice (fun i => ndF_len s i) (fun i => ndF_len _ i) (by omega) (by simp [entL]) (fun i hi => ?_) ?_
  · show entL ((setEnt s j key e).ent (i / 8) (i % 8)) = entL (s.ent (i / 8) (i % 8))
    congr 1
    exact if_neg (fun h => hi (by have := Nat.div_add_mod i 8; rw [h.1, h.2] at this; omega))
  · rw [ndF_at hk, ndF_at hk]
    show entL ((setEnt s j key e).ent j key) = _
    rw [show (setEnt s j key e).ent j key = e from if_pos ⟨rfl, rfl⟩]
    rfl
theorem setEnt_self (j key : Nat) : setEnt s j key (s.ent j key) = s := by
  unfold setEnt
  have : (fun a b => if a = j ∧ b = key then s.ent j key else s.ent a b) = s.ent := by
    funext a b
    split
    · rename_i h; rw [h.1, h.2]
    · rfl
  rw [this]
end
set_option maxHeartbeats 2000000 in
theorem giveup_any (L : StL) (s : SSt) (c : Int) (hk8 : s.k ≤ 8) (hel : s.evs.length ≤ 1000 ∧ s.sts.length ≤ 1000) (S : Nat → Prop) (w0 : World) (hI : Inv S w0 w0 (spt L s)) :
    Calls Try.prog 26 #[.pointer (some ⟨L.sb, 0, none⟩), .int .i64 c] w0 fun en w' => (∃ v, en = .returned v) ∧ ∃ EA ec SA sc s', (s' = s ∨ ∃ c', c' < s.k ∧ (s.cl c').busy = true ∧ s' = giveF s c') ∧ Inv S w0 w' (spt { L with EA := EA, ec := ec, SA := SA, sc := sc } s') := by
  refine calls_of_W (N := Try.f26.ntmps) Try.func26 rfl rfl rfl ?_
  refine W_seq ?_
  refine W_region ?_
  refine WL_val rfl rfl rfl (by first | exact rAsgnN rfl rfl | exact rAsgnE rfl rfl | exact rAsgn rfl) ?_
  refine WL_nil ?_
  by_cases hc : 0 ≤ c ∧ c < (s.k : Int)
  rotate_left
  · refine W_seq ?_
    refine W_seq ?_
    refine W_region ?_
    refine WL_val rfl rfl rfl (by first | exact rMoveP rfl rfl | exact rMove rfl) ?_
    refine WL_val rfl rfl rfl (by first | exact rMoveI rfl rfl | exact rMove rfl) ?_
    refine WL_call rfl rfl rfl (rCall (vs := [.pointer _, .int .i64 _]) rfl Try.func29 rfl rfl rfl) ?_
    refine (shas_any L.sb c _ _ _ _ (sp_c6 (X := []) hI)).mono ?_
    rintro e w1 ⟨rfl, hp⟩
    rw [decide_eq_false hc]
    refine ⟨_, rfl, ?_⟩
    replace hI := hI.pure hp
    refine WL_val rfl rfl rfl (by first | exact rNotT rfl rfl | exact rNotF rfl rfl | exact rNot rfl rfl) ?_
    refine WL_nil ?_
    refine W_cond true rfl ?_
    refine W_seq ?_
    refine W_region ?_
    refine WL_val rfl rfl rfl (rIface rfl Try.underlying46 rfl rfl) ?_
    refine WL_val rfl rfl rfl (by first | exact rAsgnN rfl rfl | exact rAsgnE rfl rfl | exact rAsgn rfl) ?_
    refine WL_nil ?_
    refine W_ret ?_
    exact ret1 4 (.inr rfl) rfl ⟨⟨_, rfl⟩, L.EA, L.ec, L.SA, L.sc, s, .inl rfl, hI⟩
  obtain ⟨j, rfl⟩ : ∃ j : Nat, c = (j : Int) := ⟨c.toNat, by omega⟩
  have hj : j < s.k := by omega
  refine W_seq ?_
  refine W_seq ?_
  refine W_region ?_
  refine WL_val rfl rfl rfl (by first | exact rMoveP rfl rfl | exact rMove rfl) ?_
  refine WL_val rfl rfl rfl (by first | exact rMoveI rfl rfl | exact rMove rfl) ?_
  refine WL_call rfl rfl rfl (rCall (vs := [.pointer _, .int .i64 _]) rfl Try.func29 rfl rfl rfl) ?_
  refine (shas_any L.sb (j : Int) _ _ _ _ (sp_c6 (X := []) hI)).mono ?_
  rintro e w1 ⟨rfl, hp⟩
  rw [decide_eq_true hc]
  refine ⟨_, rfl, ?_⟩
  replace hI := hI.pure hp
  refine WL_val rfl rfl rfl (by first | exact rNotT rfl rfl | exact rNotF rfl rfl | exact rNot rfl rfl) ?_
  refine WL_nil ?_
  refine W_cond false rfl ?_
  refine W_skip ?_
  refine W_seq ?_
  refine W_region ?_
  refine WL_val rfl rfl rfl (by first | exact rMoveP rfl rfl | exact rMove rfl) ?_
  refine WL_val rfl rfl rfl (rNilChk rfl rfl) ?_
  refine WL_val rfl rfl rfl (by first | exact rFldN (off := 6) rfl (by kernel_rfl) rfl | exact rFld (off := 6) rfl (by kernel_rfl) rfl) ?_
  refine WL_val rfl rfl rfl (by first | exact rLd (v := .slice _ _ _) rfl (by kernel_rfl) rfl (by first | exact (sp_c6 (X := []) hI)) | exact rLd rfl (by kernel_rfl) rfl (by first | exact (sp_c6 (X := []) hI))) ?_
  refine WL_val rfl rfl rfl (by first | exact rMoveI rfl rfl | exact rMove rfl) ?_
  refine WL_val rfl rfl rfl (rIdx (sz := 15) rfl Try.underlying52 (by kernel_rfl) rfl rfl (by omega)) ?_
  refine WL_val rfl rfl rfl (by first | exact rAsgnP rfl rfl | exact rAsgn rfl) ?_
  refine WL_nil ?_
  cases hb : (s.cl j).busy with
  | false =>
    have hz := (sp_cl (X := []) hI hj).c0
    rw [hb] at hz
    refine W_seq ?_
    refine W_seq ?_
    refine W_region ?_
    refine WL_val rfl rfl rfl (by first | exact rMoveP rfl rfl | exact rMove rfl) ?_
    refine WL_val rfl rfl rfl (rNilChk rfl rfl) ?_
    refine WL_val rfl rfl rfl (by first | exact rFldN (off := 0) rfl (by kernel_rfl) rfl | exact rFld0 rfl (by kernel_rfl) rfl) ?_
    refine WL_val rfl rfl rfl (by first | exact rLd (v := .bool _) rfl (by kernel_rfl) rfl (by first | exact hI.oldp hz | exact hz) | exact rLd rfl (by kernel_rfl) rfl (by first | exact hI.oldp hz | exact hz)) ?_
    refine WL_val rfl rfl rfl (by first | exact rNotT rfl rfl | exact rNotF rfl rfl | exact rNot rfl rfl) ?_
    refine WL_nil ?_
    refine W_cond true rfl ?_
    refine W_seq ?_
    refine W_region ?_
    refine WL_val rfl rfl rfl (rIface rfl Try.underlying46 rfl rfl) ?_
    refine WL_val rfl rfl rfl (by first | exact rAsgnN rfl rfl | exact rAsgnE rfl rfl | exact rAsgn rfl) ?_
    refine WL_nil ?_
    refine W_ret ?_
    exact ret1 4 (.inr rfl) rfl ⟨⟨_, rfl⟩, L.EA, L.ec, L.SA, L.sc, s, .inl rfl, hI⟩
  | true =>
  have hz := (sp_cl (X := []) hI hj).c0
  rw [hb] at hz
  refine W_seq ?_
  refine W_seq ?_
  refine W_region ?_
  refine WL_val rfl rfl rfl (by first | exact rMoveP rfl rfl | exact rMove rfl) ?_
  refine WL_val rfl rfl rfl (rNilChk rfl rfl) ?_
  refine WL_val rfl rfl rfl (by first | exact rFldN (off := 0) rfl (by kernel_rfl) rfl | exact rFld0 rfl (by kernel_rfl) rfl) ?_
  refine WL_val rfl rfl rfl (by first | exact rLd (v := .bool _) rfl (by kernel_rfl) rfl (by first | exact hI.oldp hz | exact hz) | exact rLd rfl (by kernel_rfl) rfl (by first | exact hI.oldp hz | exact hz)) ?_
  refine WL_val rfl rfl rfl (by first | exact rNotT rfl rfl | exact rNotF rfl rfl | exact rNot rfl rfl) ?_
  refine WL_nil ?_
  refine W_cond false rfl ?_
  refine W_skip ?_
  refine W_seq ?_
  refine W_region ?_
  refine WL_val rfl rfl rfl (by first | exact rMoveP rfl rfl | exact rMove rfl) ?_
  refine WL_val rfl rfl rfl (rNilChk rfl rfl) ?_
  refine WL_val rfl rfl rfl (by first | exact rFldN (off := 2) rfl (by kernel_rfl) rfl | exact rFld (off := 2) rfl (by kernel_rfl) rfl) ?_
  refine WL_val rfl rfl rfl (rLdA (n := 7) (l := evL (s.cl j).began) rfl (by kernel_rfl) (by kernel_rfl) rfl rfl (sp_sub (X := []) hI hj 2 _ rfl)) ?_
  refine WL_alloc (u := .agg #[.int .i64 0, .int .i64 0, .int .i64 0, .int .i64 0, .int .i64 0, .int .i64 0, .int .i64 0]) (vs := #[.int .i64 0, .int .i64 0, .int .i64 0, .int .i64 0, .int .i64 0, .int .i64 0, .int .i64 0]) hI rfl rfl rfl rfl (by kernel_rfl) rfl ?_
  clear hI; rintro b6 w - - hI
  refine WL_stw0 (u := .agg (evL (s.cl j).began).toArray) (vs := (evL (s.cl j).began).toArray) (n := 7) hI rfl rfl rfl rfl rfl rfl (by kernel_rfl) rfl rfl rfl ?_
  clear hI; intro w hI
  refine WL_nil ?_
  refine W_seq ?_
  refine W_region ?_
  refine WL_val rfl rfl rfl (by first | exact rFldN (off := 1) rfl (by kernel_rfl) rfl | exact rFld (off := 1) rfl (by kernel_rfl) rfl) ?_
  refine WL_st0 (u := .int .i64 4) (j := 1) (cs' := (evL { (s.cl j).began with ty := 4 }).toArray) hI rfl rfl rfl rfl rfl rfl (by kernel_rfl) rfl rfl rfl ?_
  clear hI; intro w hI
  refine WL_nil ?_
  obtain ⟨ev, hev⟩ : ∃ ev, { (s.cl j).began with ty := 4 } = ev := ⟨_, rfl⟩
  replace hI : Inv S w0 w ([B b6 37 (evL ev).toArray] ++ spt L s) := by rw [← hev]; exact hI
  refine W_seq ?_
  refine W_region ?_
  refine WL_val rfl rfl rfl (by first | exact rMoveP rfl rfl | exact rMove rfl) ?_
  refine WL_val rfl rfl rfl (rLdA (n := 7) (l := evL ev) rfl (by kernel_rfl) (by kernel_rfl) rfl rfl (fun k u hk => hI.cell 0 rfl (by rw [Nat.zero_add, List.getElem?_toArray]; exact hk))) ?_
  refine WL_val rfl rfl rfl (rBuild (qs := []) (vs := [.int .i64 0, .int .i64 0]) [.int .i64 0, .int .i64 0] [] rfl rfl rfl (fun _ => by kernel_rfl)) ?_
  refine WL_call rfl rfl rfl (rCall (vs := [.pointer _, .agg _, .agg _]) rfl Try.func19 rfl rfl rfl) ?_
  refine (see_any L s ev ⟨0, 0, 0⟩ (DLs _) _ (hI.fromB (X := [_])) hel).mono ?_
  rintro en w1 ⟨rfl, EA, ec, SA, sc, hJ⟩
  refine ⟨_, rfl, ?_⟩
  replace hI := hI.callB (X := [_]) hJ
  refine WL_nil ?_
  replace hI := hI.d0
  obtain ⟨s1, hs1⟩ : ∃ s1, obsF s ev ⟨0, 0, 0⟩ = s1 := ⟨_, rfl⟩
  obtain ⟨L1, hL1⟩ : ∃ L1 : StL, { L with EA := EA, ec := ec, SA := SA, sc := sc } = L1 := ⟨_, rfl⟩
  have hk1 : s1.k = s.k := by rw [← hs1]; rfl
  have hcb1 : L1.cb = L.cb := by rw [← hL1]
  have hcl1 : s1.cl j = s.cl j := by rw [← hs1]; rfl
  have hj1 : j < s1.k := by omega
  rw [hs1, hL1] at hI
  unfold spt at hI
  rw [← clX_start (c := j), hcb1] at hI
  refine W_seq ?_
  refine W_region ?_
  refine WL_val rfl rfl rfl (by first | exact rMoveP rfl rfl | exact rMove rfl) ?_
  refine WL_val rfl rfl rfl (by first | exact rMoveP rfl rfl | exact rMove rfl) ?_
  refine WL_val rfl rfl rfl (rNilChk rfl rfl) ?_
  refine WL_val rfl rfl rfl (by first | exact rFldN (off := 0) rfl (by kernel_rfl) rfl | exact rFld0 rfl (by kernel_rfl) rfl) ?_
  refine WL_st 2 rfl (u := .bool false) (j := 0 + j * 15) hI rfl rfl rfl rfl rfl rfl (by kernel_rfl) rfl (clX_blt0 hj1) (clX_set0 (x := s1.cl j) (cv := cntV L1 s1 j) (cv' := cntV L1 s1 j) (x' := { s1.cl j with busy := false }) hj1 rfl) ?_
  clear hI; intro w hI
  refine WL_val rfl rfl rfl (rNilChk rfl rfl) ?_
  refine WL_val rfl rfl rfl (by first | exact rFldN (off := 1) rfl (by kernel_rfl) rfl | exact rFld (off := 1) rfl (by kernel_rfl) rfl) ?_
  refine WL_st 2 rfl (u := .bool true) (j := 0 + j * 15 + 1) hI rfl rfl rfl rfl rfl rfl (by kernel_rfl) rfl (clX_blt hj1 (by omega)) (clX_set (x := { s1.cl j with busy := false }) (cv := cntV L1 s1 j) (cv' := cntV L1 s1 j) (x' := { s1.cl j with busy := false, gone := true }) hj1 1 (by omega) rfl) ?_
  clear hI; intro w hI
  refine WL_nil ?_
  refine W_seq ?_
  refine W_region ?_
  refine WL_val rfl rfl rfl (by first | exact rAsgnN rfl rfl | exact rAsgnE rfl rfl | exact rAsgn rfl) ?_
  refine WL_nil ?_
  refine W_ret ?_
  refine ret1 4 (.inr rfl) rfl ⟨⟨_, rfl⟩, EA, ec, SA, sc, giveF s j, .inr ⟨j, hj, hb, rfl⟩, ?_⟩
  have hfin := cl_back (X := []) (L := L1) (s := s1) (x' := { s1.cl j with busy := false, gone := true }) hj1 rfl (by rw [hcb1]; exact hI)
  rw [← hL1] at hfin
  have hg : giveF s j = setCl s1 j { s1.cl j with busy := false, gone := true } := by rw [← hs1, ← hev]; rfl
  rw [hg]
  exact hfin
theorem blk_sub {w : World} {b : Nat} {t : TypeId} {l : List Value} (h : Blk w b t l.toArray) (off : Nat) {l' : List Value} (r : List Value) (hl : l.drop off = l' ++ r) : ∀ (j : Nat) (v : Value), l'[j]? = some v → w.cell? ⟨b, off + j, none⟩ = some v := fun j v hj => by
  rw [h.cell, List.getElem?_toArray, ← List.getElem?_drop, hl, List.getElem?_append_left (List.getElem?_eq_some_iff.1 hj).1]
  exact hj
theorem st_ent {e : SEnt} {j : Nat} {v : Value} (h : (stL e)[j]? = some v) : (entL e)[j]? = some v := by
  have : entL e = stL e ++ [.int .i64 e.v] := rfl
  rw [this, List.getElem?_append_left (List.getElem?_eq_some_iff.1 h).1]
  exact h
set_option maxHeartbeats 4000000 in
theorem node_any (L : StL) (s : SSt) (j : Nat) (m : SMsg) (hj : j < s.n) (hn : s.n ≤ 7) (hk : m.key < 8) (hcl : m.client ≤ 1000) (S : Nat → Prop) (w0 : World) (hI : Inv S w0 w0 (spt L s)) :
    Calls Try.prog 22 #[.pointer (some ⟨L.sb, 0, none⟩), .int .i64 (j : Int), .agg (msgL m).toArray] w0 fun en w' => en = .returned (.tuple #[]) ∧ ∃ MA mc, Inv S w0 w' (spt { L with MA := MA, mc := mc } (nodeF s j m)) := by
  refine calls_of_W (N := Try.f22.ntmps) Try.func22 rfl rfl rfl ?_
  refine W_seq ?_
  refine W_region ?_
  refine WL_box (u := .agg (msgL m).toArray) (vs := (msgL m).toArray) hI rfl rfl rfl rfl rfl rfl ?_
  clear hI; rintro b5 w - - hI
  refine WL_nil ?_
  refine W_seq ?_
  refine W_draw (by kernel_rfl) ?_
  refine WA_inv (T := []) hI.drew ?_
  intro Sx hSx hXS
  replace hI := hI.drew
  refine WT_take 0 rfl rfl (by kernel_rfl) (hXS _ hI) rfl (fun W hW => have hI := hSx W hW; (by first | exact rMoveP rfl rfl | exact rMove rfl)) ?_
  refine WT_take 1 rfl rfl (by kernel_rfl) (hXS _ hI) rfl (fun W hW => have hI := hSx W hW; (rNilChk rfl rfl)) ?_
  refine WT_take 2 rfl rfl (by kernel_rfl) (hXS _ hI) rfl (fun W hW => have hI := hSx W hW; (by first | exact rFldN (off := 5) rfl (by kernel_rfl) rfl | exact rFld (off := 5) rfl (by kernel_rfl) rfl)) ?_
  refine WT_take 3 rfl rfl (by kernel_rfl) (hXS _ hI) rfl (fun W hW => have hI := hSx W hW; (by first | exact rLd (v := .slice _ _ _) rfl (by kernel_rfl) rfl (by first | exact hI.c0 rfl | exact (sp_c5 (X := [_]) hI)) | exact rLd rfl (by kernel_rfl) rfl (by first | exact hI.c0 rfl | exact (sp_c5 (X := [_]) hI)))) ?_
  refine WT_take 4 rfl rfl (by kernel_rfl) (hXS _ hI) rfl (fun W hW => have hI := hSx W hW; (by first | exact rMoveI rfl rfl | exact rMove rfl)) ?_
  refine WT_take 5 rfl rfl (by kernel_rfl) (hXS _ hI) rfl (fun W hW => have hI := hSx W hW; (by first | exact rFldN (off := 3) rfl (by kernel_rfl) rfl | exact rFld (off := 3) rfl (by kernel_rfl) rfl)) ?_
  refine WT_take 6 rfl rfl (by kernel_rfl) (hXS _ hI) rfl (fun W hW => have hI := hSx W hW; (by first | exact rLd (v := .int .i64 _) rfl (by kernel_rfl) rfl (by first | exact hI.c0 rfl | exact (sp_c5 (X := [_]) hI)) | exact rLd rfl (by kernel_rfl) rfl (by first | exact hI.c0 rfl | exact (sp_c5 (X := [_]) hI)))) ?_
  refine WT_take 7 rfl rfl (by kernel_rfl) (hXS _ hI) rfl (fun W hW => have hI := hSx W hW; (rIdx (sz := 24) rfl Try.underlying51 (by kernel_rfl) rfl rfl (by omega))) ?_
  refine WT_take 8 rfl rfl (by kernel_rfl) (hXS _ hI) rfl (fun W hW => have hI := hSx W hW; (rIdxArr (sz := 3) rfl Try.underlying63 (by kernel_rfl) rfl rfl rfl (by omega))) ?_
  refine WT_take 9 rfl rfl (by kernel_rfl) (hXS _ hI) rfl (fun W hW => have hI := hSx W hW; (by first | exact rAsgnP rfl rfl | exact rAsgn rfl)) ?_
  refine WT_end (by kernel_rfl) ?_
  refine W_seq_cut (fun ρ w => Has ρ [(0, .pointer (some ⟨L.sb, 0, none⟩)), (1, .int .i64 (j : Int)), (5, .pointer (some ⟨b5, 0, none⟩)), (6, .pointer (some ⟨L.nb, 0 + j * 24 + m.key * 3, none⟩))] ∧ Inv S w0 w ([B b5 71 (msgL m).toArray] ++ spt L (setEnt s j m.key (ownN s j m)))) ?_ ?_
  · refine W_seq_cut (fun ρ w => Has ρ [(28, .bool (decide (m.what = 2 ∧ (s.ent j m.key).less m.e))), (0, .pointer (some ⟨L.sb, 0, none⟩)), (1, .int .i64 (j : Int)), (5, .pointer (some ⟨b5, 0, none⟩)), (6, .pointer (some ⟨L.nb, 0 + j * 24 + m.key * 3, none⟩))] ∧ Inv S w0 w ([B b5 71 (msgL m).toArray] ++ spt L s)) ?_ ?_
    · by_cases hw : m.what = 2
      · refine W_draw (by kernel_rfl) ?_
        refine WA_inv (T := []) hI.drew ?_
        intro Sx hSx hXS
        replace hI := hI.drew
        refine WT_take 0 rfl rfl (by kernel_rfl) (hXS _ hI) rfl (fun W hW => have hI := hSx W hW; (by first | exact rFldN (off := 0) rfl (by kernel_rfl) rfl | exact rFld0 rfl (by kernel_rfl) rfl)) ?_
        refine WT_take 1 rfl rfl (by kernel_rfl) (hXS _ hI) rfl (fun W hW => have hI := hSx W hW; (by first | exact rLd (v := .int .i64 _) rfl (by kernel_rfl) rfl (by first | exact hI.c0 rfl) | exact rLd rfl (by kernel_rfl) rfl (by first | exact hI.c0 rfl))) ?_
        refine WT_take 2 rfl rfl (by kernel_rfl) (hXS _ hI) rfl (fun W hW => have hI := hSx W hW; (by first | exact rEqlT rfl rfl rfl (by omega) | exact rEqlF rfl rfl rfl (by omega) | exact rEql rfl rfl rfl)) ?_
        refine WT_take 3 rfl rfl (by kernel_rfl) (hXS _ hI) rfl (fun W hW => have hI := hSx W hW; (by first | exact rMoveB rfl rfl | exact rMove rfl)) ?_
        first | refine WT_take 4 rfl rfl (by kernel_rfl) (hXS _ hI) rfl (fun W hW => have hI := hSx W hW; (by first | exact rMoveP rfl rfl | exact rMove rfl)) ?_ | refine WT_skip 4 rfl rfl (by kernel_rfl) (hXS _ hI) rfl ?_
        first | refine WT_take 5 rfl rfl (by kernel_rfl) (hXS _ hI) rfl (fun W hW => have hI := hSx W hW; (rNilChk rfl rfl)) ?_ | refine WT_skip 5 rfl rfl (by kernel_rfl) (hXS _ hI) rfl ?_
        first | refine WT_take 6 rfl rfl (by kernel_rfl) (hXS _ hI) rfl (fun W hW => have hI := hSx W hW; (by first | exact rFldN (off := 0) rfl (by kernel_rfl) rfl | exact rFld0 rfl (by kernel_rfl) rfl)) ?_ | refine WT_skip 6 rfl rfl (by kernel_rfl) (hXS _ hI) rfl ?_
        first | refine WT_take 7 rfl rfl (by kernel_rfl) (hXS _ hI) rfl (fun W hW => have hI := hSx W hW; (rLdA (n := 2) (l := stL (s.ent j m.key)) rfl (by kernel_rfl) (by kernel_rfl) rfl rfl (fun k u hk2 => sp_nd (X := [_]) hI hj hk k u (st_ent hk2)))) ?_ | refine WT_skip 7 rfl rfl (by kernel_rfl) (hXS _ hI) rfl ?_
        first | refine WT_take 8 rfl rfl (by kernel_rfl) (hXS _ hI) rfl (fun W hW => have hI := hSx W hW; (by first | exact rFldN (off := 4) rfl (by kernel_rfl) rfl | exact rFld (off := 4) rfl (by kernel_rfl) rfl)) ?_ | refine WT_skip 8 rfl rfl (by kernel_rfl) (hXS _ hI) rfl ?_
        first | refine WT_take 9 rfl rfl (by kernel_rfl) (hXS _ hI) rfl (fun W hW => have hI := hSx W hW; (by first | exact rFldN (off := 0) rfl (by kernel_rfl) rfl | exact rFld0 rfl (by kernel_rfl) rfl)) ?_ | refine WT_skip 9 rfl rfl (by kernel_rfl) (hXS _ hI) rfl ?_
        first | refine WT_take 10 rfl rfl (by kernel_rfl) (hXS _ hI) rfl (fun W hW => have hI := hSx W hW; (rLdA (n := 2) (l := stL m.e) rfl (by kernel_rfl) (by kernel_rfl) rfl rfl (blk_sub hI.g0 4 [_] rfl))) ?_ | refine WT_skip 10 rfl rfl (by kernel_rfl) (hXS _ hI) rfl ?_
        refine WT_one 11 rfl (by kernel_rfl) rfl ?_
        refine WL_call rfl rfl rfl (rCall (vs := [.agg _, .agg _]) rfl Try.func11 rfl rfl rfl) ?_
        refine (less_any (s.ent j m.key) m.e _).mono ?_
        rintro en w1 ⟨rfl, hp⟩
        refine ⟨_, rfl, ?_⟩
        replace hI := hI.pure hp
        refine WL_nil ⟨hXS _ hI, ?_⟩
        refine WT_take 12 rfl rfl (by kernel_rfl) (hXS _ hI) rfl (fun W hW => have hI := hSx W hW; (by first | exact rPickTB rfl rfl rfl | exact rPickFB rfl rfl rfl | exact rPickB rfl rfl rfl rfl)) ?_
        refine WT_end (by kernel_rfl) ?_
        refine ⟨⟨?_, rfl, rfl, rfl, rfl, trivial⟩, hI⟩
        rw [show decide (m.what = 2 ∧ (s.ent j m.key).less m.e) = decide ((s.ent j m.key).less m.e) from decide_eq_decide.2 ⟨fun h => h.2, fun h => ⟨hw, h⟩⟩]
        rfl
      · refine W_draw (by kernel_rfl) ?_
        refine WA_inv (T := []) hI.drew ?_
        intro Sx hSx hXS
        replace hI := hI.drew
        refine WT_take 0 rfl rfl (by kernel_rfl) (hXS _ hI) rfl (fun W hW => have hI := hSx W hW; (by first | exact rFldN (off := 0) rfl (by kernel_rfl) rfl | exact rFld0 rfl (by kernel_rfl) rfl)) ?_
        refine WT_take 1 rfl rfl (by kernel_rfl) (hXS _ hI) rfl (fun W hW => have hI := hSx W hW; (by first | exact rLd (v := .int .i64 _) rfl (by kernel_rfl) rfl (by first | exact hI.c0 rfl) | exact rLd rfl (by kernel_rfl) rfl (by first | exact hI.c0 rfl))) ?_
        refine WT_take 2 rfl rfl (by kernel_rfl) (hXS _ hI) rfl (fun W hW => have hI := hSx W hW; (by first | exact rEqlT rfl rfl rfl (by omega) | exact rEqlF rfl rfl rfl (by omega) | exact rEql rfl rfl rfl)) ?_
        refine WT_take 3 rfl rfl (by kernel_rfl) (hXS _ hI) rfl (fun W hW => have hI := hSx W hW; (by first | exact rMoveB rfl rfl | exact rMove rfl)) ?_
        refine WT_skip 4 rfl rfl (by kernel_rfl) (hXS _ hI) rfl ?_
        refine WT_skip 5 rfl rfl (by kernel_rfl) (hXS _ hI) rfl ?_
        refine WT_skip 6 rfl rfl (by kernel_rfl) (hXS _ hI) rfl ?_
        refine WT_skip 7 rfl rfl (by kernel_rfl) (hXS _ hI) rfl ?_
        refine WT_skip 8 rfl rfl (by kernel_rfl) (hXS _ hI) rfl ?_
        refine WT_skip 9 rfl rfl (by kernel_rfl) (hXS _ hI) rfl ?_
        refine WT_skip 10 rfl rfl (by kernel_rfl) (hXS _ hI) rfl ?_
        refine WT_skip 11 rfl rfl (by kernel_rfl) (hXS _ hI) rfl ?_
        refine WT_take 12 rfl rfl (by kernel_rfl) (hXS _ hI) rfl (fun W hW => have hI := hSx W hW; (by first | exact rPickTB rfl rfl rfl | exact rPickFB rfl rfl rfl | exact rPickB rfl rfl rfl rfl)) ?_
        refine WT_end (by kernel_rfl) ?_
        refine ⟨⟨?_, rfl, rfl, rfl, rfl, trivial⟩, hI⟩
        rw [decide_eq_false (fun h => hw h.1)]
        rfl
    clear hI
    rintro ρ w ⟨hH, hI⟩
    obtain ⟨σ, rfl⟩ := hH.open
    by_cases hl : m.what = 2 ∧ (s.ent j m.key).less m.e
    · have hown : ownN s j m = m.e := if_pos hl
      rw [decide_eq_true hl]
      refine W_cond true rfl ?_
      refine W_region ?_
      refine WL_val rfl rfl rfl (by first | exact rMoveP rfl rfl | exact rMove rfl) ?_
      refine WL_val rfl rfl rfl (by first | exact rFldN (off := 4) rfl (by kernel_rfl) rfl | exact rFld (off := 4) rfl (by kernel_rfl) rfl) ?_
      refine WL_val rfl rfl rfl (rLdA (n := 3) (l := entL m.e) rfl (by kernel_rfl) (by kernel_rfl) rfl rfl (blk_sub hI.g0 4 [] rfl)) ?_
      refine WL_val rfl rfl rfl (rNilChk rfl rfl) ?_
      refine WL_stA 2 rfl (u := .agg (entL m.e).toArray) (vs := (entL m.e).toArray) (n := 3) (j := 0 + j * 24 + m.key * 3) hI rfl rfl rfl rfl rfl rfl (by kernel_rfl) rfl (by rw [flatB_size (fun i => ndF_len s i)]; omega) rfl (ndF_set hj hk) ?_
      clear hI; intro w hI
      refine WL_nil ?_
      rw [hown]
      exact ⟨⟨rfl, rfl, rfl, rfl, trivial⟩, hI⟩
    · have hown : ownN s j m = s.ent j m.key := if_neg hl
      rw [decide_eq_false hl]
      refine W_cond false rfl ?_
      refine W_skip ?_
      rw [hown, setEnt_self]
      exact ⟨⟨rfl, rfl, rfl, rfl, trivial⟩, hI⟩
  clear hI
  rintro ρ w ⟨hH, hI⟩
  obtain ⟨σ, rfl⟩ := hH.open
  obtain ⟨own, hown⟩ : ∃ own, ownN s j m = own := ⟨_, rfl⟩
  rw [hown] at hI
  obtain ⟨s1, hs1⟩ : ∃ s1, setEnt s j m.key own = s1 := ⟨_, rfl⟩
  rw [hs1] at hI
  have he1 : s1.ent j m.key = own := by rw [← hs1]; exact if_pos ⟨rfl, rfl⟩
  have hn1 : s1.n = s.n := by rw [← hs1]; rfl
  have hj1 : j < s1.n := by omega
  refine W_seq ?_
  refine W_draw (by kernel_rfl) ?_
  refine WA_inv (T := [6]) hI.d0.drew ?_
  intro Sx hSx hXS
  replace hI := hI.drew
  refine WT_take 0 rfl rfl (by kernel_rfl) (hXS _ hI.d0) rfl (fun W hW => have hI := hSx W hW; (by first | exact rMoveP rfl rfl | exact rMove rfl)) ?_
  refine WT_take 1 rfl rfl (by kernel_rfl) (hXS _ hI.d0) rfl (fun W hW => have hI := hSx W hW; (rNilChk rfl rfl)) ?_
  refine WT_take 2 rfl rfl (by kernel_rfl) (hXS _ hI.d0) rfl (fun W hW => have hI := hSx W hW; (rLdA (n := 3) (l := entL own) rfl (by kernel_rfl) (by kernel_rfl) rfl rfl (fun k u hk2 => sp_nd (X := []) hI hj1 hk k u (by rw [he1]; exact hk2)))) ?_
  refine WT_take 3 rfl rfl (by kernel_rfl) (hXS _ hI.d0) rfl (fun W hW => have hI := hSx W hW; (by first | exact rFldN (off := 0) rfl (by kernel_rfl) rfl | exact rFld0 rfl (by kernel_rfl) rfl)) ?_
  refine WT_one 4 rfl (by kernel_rfl) rfl ?_
  refine WL_st0 (u := .int .i64 3) (j := 0) (cs' := (msgL { m with what := 3 }).toArray) hI rfl rfl rfl rfl rfl rfl (by kernel_rfl) rfl rfl rfl ?_
  clear hI; intro w hI
  refine WL_nil ⟨hXS _ hI.d0, ?_⟩
  refine WT_take 5 rfl rfl (by kernel_rfl) (hXS _ hI.d0) rfl (fun W hW => have hI := hSx W hW; (by first | exact rFldN (off := 4) rfl (by kernel_rfl) rfl | exact rFld (off := 4) rfl (by kernel_rfl) rfl)) ?_
  refine WT_A (by kernel_rfl) ?_
  clear hXS hSx
  refine WA_one 6 rfl (by kernel_rfl) ?_
  refine WL_stA 0 rfl (u := .agg (entL own).toArray) (vs := (entL own).toArray) (n := 3) (j := 4) (cs' := (msgL { m with what := 3, e := own }).toArray) hI rfl rfl rfl rfl rfl rfl (by kernel_rfl) rfl (by show 4 + 3 ≤ 7; omega) rfl rfl ?_
  clear hI; intro w hI
  refine WL_nil ?_
  refine WA_end (by kernel_rfl) ?_
  obtain ⟨m', hm'⟩ : ∃ m' : SMsg, { m with what := 3, e := own } = m' := ⟨_, rfl⟩
  have hmc : m'.client = m.client := by rw [← hm']
  replace hI : Inv S w0 w ([B b5 71 (msgL m').toArray] ++ spt L s1) := by rw [← hm']; exact hI
  have hcell : ∀ w, Inv S w0 w ([B b5 71 (msgL m').toArray] ++ spt L s1) → w.cell? ⟨b5, 1, none⟩ = some (.int .i64 (m.client : Int)) := fun w hI => by
    rw [← hmc]; exact hI.c0 rfl
  refine W_draw (by kernel_rfl) ?_
  refine WA_inv (T := [14]) hI.drew ?_
  intro Sx hSx hXS
  replace hI := hI.drew
  refine WT_take 0 rfl rfl (by kernel_rfl) (hXS _ hI) rfl (fun W hW => have hI := hSx W hW; (by first | exact rMoveP rfl rfl | exact rMove rfl)) ?_
  refine WT_take 1 rfl rfl (by kernel_rfl) (hXS _ hI) rfl (fun W hW => have hI := hSx W hW; (rNilChk rfl rfl)) ?_
  refine WT_take 2 rfl rfl (by kernel_rfl) (hXS _ hI) rfl (fun W hW => have hI := hSx W hW; (by first | exact rFldN (off := 7) rfl (by kernel_rfl) rfl | exact rFld (off := 7) rfl (by kernel_rfl) rfl)) ?_
  refine WT_take 3 rfl rfl (by kernel_rfl) (hXS _ hI) rfl (fun W hW => have hI := hSx W hW; (by first | exact rMoveI rfl rfl | exact rMove rfl)) ?_
  refine WT_take 4 rfl rfl (by kernel_rfl) (hXS _ hI) rfl (fun W hW => have hI := hSx W hW; (by first | exact rMoveP rfl rfl | exact rMove rfl)) ?_
  refine WT_take 5 rfl rfl (by kernel_rfl) (hXS _ hI) rfl (fun W hW => have hI := hSx W hW; (rNilChk rfl rfl)) ?_
  refine WT_take 6 rfl rfl (by kernel_rfl) (hXS _ hI) rfl (fun W hW => have hI := hSx W hW; (by first | exact rFldN (off := 0) rfl (by kernel_rfl) rfl | exact rFld0 rfl (by kernel_rfl) rfl)) ?_
  refine WT_take 7 rfl rfl (by kernel_rfl) (hXS _ hI) rfl (fun W hW => have hI := hSx W hW; (by first | exact rFldN (off := 0) rfl (by kernel_rfl) rfl | exact rFld0 rfl (by kernel_rfl) rfl)) ?_
  refine WT_take 8 rfl rfl (by kernel_rfl) (hXS _ hI) rfl (fun W hW => have hI := hSx W hW; (rLd (v := .int .i64 (s1.n : Int)) rfl (by kernel_rfl) rfl (sp_c0 (X := [_]) hI))) ?_
  refine WT_take 9 rfl rfl (by kernel_rfl) (hXS _ hI) rfl (fun W hW => have hI := hSx W hW; (by first | exact rFldN (off := 1) rfl (by kernel_rfl) rfl | exact rFld (off := 1) rfl (by kernel_rfl) rfl)) ?_
  refine WT_take 10 rfl rfl (by kernel_rfl) (hXS _ hI) rfl (fun W hW => have hI := hSx W hW; (rLd (v := .int .i64 (m.client : Int)) rfl (by kernel_rfl) rfl (hcell _ hI))) ?_
  refine WT_take 11 rfl rfl (by kernel_rfl) (hXS _ hI) rfl (fun W hW => have hI := hSx W hW; (rAddNN rfl rfl rfl (by omega))) ?_
  refine WT_take 12 rfl rfl (by kernel_rfl) (hXS _ hI) rfl (fun W hW => have hI := hSx W hW; (rLdA (n := 7) (l := msgL m') rfl (by kernel_rfl) (by kernel_rfl) rfl rfl (fun k u hk => hI.cell 0 rfl (by rw [Nat.zero_add, List.getElem?_toArray]; exact hk)))) ?_
  refine WT_take 13 rfl rfl (by kernel_rfl) (hXS _ hI) rfl (fun W hW => have hI := hSx W hW; (rBuild (qs := [(0, .int .i64 (j : Int)), (1, .int .i64 ((s1.n + m.client : Nat) : Int)), (2, .agg (msgL m').toArray)]) (vs := mailL ⟨j, s1.n + m.client, m'⟩) [.int .i64 0, .int .i64 0, .int .i64 0, .int .i64 0, .int .i64 0, .int .i64 0, .int .i64 0, .int .i64 0, .int .i64 0] [0, 1, 2] rfl rfl rfl (fun _ => by kernel_rfl))) ?_
  refine WT_A (by kernel_rfl) ?_
  clear hXS hSx
  refine WA_one 14 rfl (by kernel_rfl) ?_
  refine WL_call rfl rfl rfl (rCall (vs := [.pointer _, .agg _]) rfl Try.func30 rfl rfl rfl) ?_
  refine (send_any L s1 ⟨j, s1.n + m.client, m'⟩ (DLs _) _ (hI.fromB (X := [_]))).mono ?_
  rintro en w1 ⟨⟨v, rfl⟩, MA, mc, hJ⟩
  refine ⟨_, rfl, ?_⟩
  replace hI := hI.callB (X := [_]) hJ
  refine WL_nil ?_
  refine WA_end (by kernel_rfl) ?_
  refine ret0 (.inl rfl) rfl ⟨rfl, MA, mc, ?_⟩
  have hfin : nodeF s j m = { s1 with mails := pushM s1.mails ⟨j, s1.n + m.client, m'⟩ } := by
    rw [← hm', ← hs1]
    unfold nodeF
    rw [hown]
    rfl
  rw [hfin]
  exact hI.d0
end Go.Proofs.Ytglioflpblpmpaa
