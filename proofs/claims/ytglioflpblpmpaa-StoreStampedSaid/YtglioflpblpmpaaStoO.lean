/- store: Cut. -/
import Derived.Test.YtglioflpblpmpaaStoN
namespace Go.Proofs.Ytglioflpblpmpaa
open Go.RowKit
set_option linter.unusedVariables false
set_option linter.unusedSimpArgs false
/-- The rows, of which one is known. -/
def RowsV (vals : List Value) (D : Nat → Prop) (v : Value) (lb : List Bool) : Ent := ⟨D, fun w => (RowsE vals D).Φ w ∧ Bools w D v lb⟩
theorem RowsV.ok {w : World} {vals : List Value} {D : Nat → Prop} {v : Value} {lb : List Bool} (h : (RowsE vals D).ok w) (hb : Bools w D v lb) : (RowsV vals D v lb).ok w :=
  Ent.mk_ok ⟨h.1, hb⟩ (fun k hk => h.2.1 k hk) (fun S w1 w2 hc hS h1 => ⟨h.2.2 S w1 w2 hc hS h1.1, Rd.chg h1.2 hc (fun k hk => hS k hk)⟩)
theorem RowsV.to {S : Nat → Prop} {w0 w : World} {H : List Ent} {vals : List Value} {D : Nat → Prop} {v : Value} (h : Inv S w0 w (RowsE vals D :: H)) (hv : v ∈ vals) : ∃ lb : List Bool, lb.length ≤ 1000 ∧ Inv S w0 w (RowsV vals D v lb :: H) := by
  have hk := h.ok _ (List.mem_of_getElem? (i := 0) rfl)
  obtain ⟨lb, hb, hl⟩ := hk.1.2 v hv
  exact ⟨lb, hl, h.u0 (Chg.refl _ _) (RowsV.ok hk hb) (fun k hk => .inl hk)⟩
theorem RowsV.from {S : Nat → Prop} {w0 w : World} {H : List Ent} {vals : List Value} {D : Nat → Prop} {v : Value} {lb : List Bool} (h : Inv S w0 w (RowsV vals D v lb :: H)) : Inv S w0 w (RowsE vals D :: H) := by
  have hk := (h.ok _ (List.mem_of_getElem? (i := 0) rfl)).1.1
  exact h.u0 (Chg.refl _ _) (RowsE.ok hk.1 hk.2) (fun k hk => .inl hk)
set_option maxHeartbeats 1000000 in
theorem num_any (i n b sb : Nat) (w0 : World) (hb : w0.cell? ⟨b, 0, none⟩ = some (.pointer (some ⟨sb, 0, none⟩))) (hn : w0.cell? ⟨sb, 0, none⟩ = some (.int .i64 (n : Int))) (hi : i < 1000) (hn1 : 1 ≤ n ∧ n ≤ 7) :
    Calls Try.prog 38 #[.int .i64 (i : Int), .pointer (some ⟨b, 0, none⟩)] w0 fun en w' => ∃ j : Nat, en = .returned (.int .i64 (j : Int)) ∧ j < n ∧ Pure w0 w' := by
  have hI := Inv.start (fun _ => False) w0
  refine calls_of_W (N := Try.f38.ntmps) Try.func38 rfl rfl rfl ?_
  refine W_seq ?_
  refine W_region ?_
  refine WL_val rfl rfl rfl (by first | exact rAsgnI rfl rfl | exact rAsgn rfl) ?_
  refine WL_nil ?_
  by_cases h : i < n
  · refine W_seq ?_
    refine W_seq ?_
    refine W_region ?_
    refine WL_val rfl rfl rfl (by first | exact rMoveI rfl rfl | exact rMove rfl) ?_
    refine WL_val rfl rfl rfl (by first | exact rLd (v := .pointer _) rfl (by kernel_rfl) rfl (by first | exact hI.oldp hb | exact hb | exact hI.oldp hn | exact hn) | exact rLd rfl (by kernel_rfl) rfl (by first | exact hI.oldp hb | exact hb | exact hI.oldp hn | exact hn)) ?_
    refine WL_val rfl rfl rfl (rNilChk rfl rfl) ?_
    refine WL_val rfl rfl rfl (by first | exact rFldN (off := 0) rfl (by kernel_rfl) rfl | exact rFld0 rfl (by kernel_rfl) rfl) ?_
    refine WL_val rfl rfl rfl (by first | exact rFldN (off := 0) rfl (by kernel_rfl) rfl | exact rFld0 rfl (by kernel_rfl) rfl) ?_
    refine WL_val rfl rfl rfl (by first | exact rLd (v := .int .i64 _) rfl (by kernel_rfl) rfl (by first | exact hI.oldp hb | exact hb | exact hI.oldp hn | exact hn) | exact rLd rfl (by kernel_rfl) rfl (by first | exact hI.oldp hb | exact hb | exact hI.oldp hn | exact hn)) ?_
    refine WL_val rfl rfl rfl (by first | exact rLssT rfl rfl rfl (by omega) | exact rLssF rfl rfl rfl (by omega) | exact rLss rfl rfl rfl) ?_
    refine WL_nil ?_
    refine W_cond true rfl ?_
    refine W_seq ?_
    refine W_region ?_
    refine WL_val rfl rfl rfl (by first | exact rMoveI rfl rfl | exact rMove rfl) ?_
    refine WL_val rfl rfl rfl (by first | exact rAsgnI rfl rfl | exact rAsgn rfl) ?_
    refine WL_nil ?_
    refine W_ret ?_
    exact ret1 3 (.inr rfl) rfl ⟨i, rfl, h, hI.pu⟩
  · refine W_seq ?_
    refine W_seq ?_
    refine W_region ?_
    refine WL_val rfl rfl rfl (by first | exact rMoveI rfl rfl | exact rMove rfl) ?_
    refine WL_val rfl rfl rfl (by first | exact rLd (v := .pointer _) rfl (by kernel_rfl) rfl (by first | exact hI.oldp hb | exact hb | exact hI.oldp hn | exact hn) | exact rLd rfl (by kernel_rfl) rfl (by first | exact hI.oldp hb | exact hb | exact hI.oldp hn | exact hn)) ?_
    refine WL_val rfl rfl rfl (rNilChk rfl rfl) ?_
    refine WL_val rfl rfl rfl (by first | exact rFldN (off := 0) rfl (by kernel_rfl) rfl | exact rFld0 rfl (by kernel_rfl) rfl) ?_
    refine WL_val rfl rfl rfl (by first | exact rFldN (off := 0) rfl (by kernel_rfl) rfl | exact rFld0 rfl (by kernel_rfl) rfl) ?_
    refine WL_val rfl rfl rfl (by first | exact rLd (v := .int .i64 _) rfl (by kernel_rfl) rfl (by first | exact hI.oldp hb | exact hb | exact hI.oldp hn | exact hn) | exact rLd rfl (by kernel_rfl) rfl (by first | exact hI.oldp hb | exact hb | exact hI.oldp hn | exact hn)) ?_
    refine WL_val rfl rfl rfl (by first | exact rLssT rfl rfl rfl (by omega) | exact rLssF rfl rfl rfl (by omega) | exact rLss rfl rfl rfl) ?_
    refine WL_nil ?_
    refine W_cond false rfl ?_
    refine W_skip ?_
    refine W_seq ?_
    refine W_draw (by kernel_rfl) ?_
    refine WA_inv (T := []) hI.drew ?_
    intro Sx hSx hXS
    replace hI := hI.drew
    refine WT_take 0 rfl rfl (by kernel_rfl) (hXS _ hI) rfl (fun W hW => have hI := hSx W hW; (by first | exact rMoveI rfl rfl | exact rMove rfl)) ?_
    refine WT_take 1 rfl rfl (by kernel_rfl) (hXS _ hI) rfl (fun W hW => have hI := hSx W hW; (by first | exact rLd (v := .pointer _) rfl (by kernel_rfl) rfl (by first | exact hI.oldp hb | exact hb | exact hI.oldp hn | exact hn) | exact rLd rfl (by kernel_rfl) rfl (by first | exact hI.oldp hb | exact hb | exact hI.oldp hn | exact hn))) ?_
    refine WT_take 2 rfl rfl (by kernel_rfl) (hXS _ hI) rfl (fun W hW => have hI := hSx W hW; (rNilChk rfl rfl)) ?_
    refine WT_take 3 rfl rfl (by kernel_rfl) (hXS _ hI) rfl (fun W hW => have hI := hSx W hW; (by first | exact rFldN (off := 0) rfl (by kernel_rfl) rfl | exact rFld0 rfl (by kernel_rfl) rfl)) ?_
    refine WT_take 4 rfl rfl (by kernel_rfl) (hXS _ hI) rfl (fun W hW => have hI := hSx W hW; (by first | exact rFldN (off := 0) rfl (by kernel_rfl) rfl | exact rFld0 rfl (by kernel_rfl) rfl)) ?_
    refine WT_take 5 rfl rfl (by kernel_rfl) (hXS _ hI) rfl (fun W hW => have hI := hSx W hW; (by first | exact rLd (v := .int .i64 _) rfl (by kernel_rfl) rfl (by first | exact hI.oldp hb | exact hb | exact hI.oldp hn | exact hn) | exact rLd rfl (by kernel_rfl) rfl (by first | exact hI.oldp hb | exact hb | exact hI.oldp hn | exact hn))) ?_
    refine WT_take 6 rfl rfl (by kernel_rfl) (hXS _ hI) rfl (fun W hW => have hI := hSx W hW; (rSubNN rfl rfl rfl (by omega) (by omega))) ?_
    refine WT_take 7 rfl rfl (by kernel_rfl) (hXS _ hI) rfl (fun W hW => have hI := hSx W hW; (by first | exact rLd (v := .pointer _) rfl (by kernel_rfl) rfl (by first | exact hI.oldp hb | exact hb | exact hI.oldp hn | exact hn) | exact rLd rfl (by kernel_rfl) rfl (by first | exact hI.oldp hb | exact hb | exact hI.oldp hn | exact hn))) ?_
    refine WT_take 8 rfl rfl (by kernel_rfl) (hXS _ hI) rfl (fun W hW => have hI := hSx W hW; (rNilChk rfl rfl)) ?_
    refine WT_take 9 rfl rfl (by kernel_rfl) (hXS _ hI) rfl (fun W hW => have hI := hSx W hW; (by first | exact rFldN (off := 0) rfl (by kernel_rfl) rfl | exact rFld0 rfl (by kernel_rfl) rfl)) ?_
    refine WT_take 10 rfl rfl (by kernel_rfl) (hXS _ hI) rfl (fun W hW => have hI := hSx W hW; (by first | exact rFldN (off := 0) rfl (by kernel_rfl) rfl | exact rFld0 rfl (by kernel_rfl) rfl)) ?_
    refine WT_take 11 rfl rfl (by kernel_rfl) (hXS _ hI) rfl (fun W hW => have hI := hSx W hW; (by first | exact rLd (v := .int .i64 _) rfl (by kernel_rfl) rfl (by first | exact hI.oldp hb | exact hb | exact hI.oldp hn | exact hn) | exact rLd rfl (by kernel_rfl) rfl (by first | exact hI.oldp hb | exact hb | exact hI.oldp hn | exact hn))) ?_
    refine WT_take 12 rfl rfl (by kernel_rfl) (hXS _ hI) rfl (fun W hW => have hI := hSx W hW; (rRemNN rfl rfl rfl (by omega) (by omega))) ?_
    refine WT_take 13 rfl rfl (by kernel_rfl) (hXS _ hI) rfl (fun W hW => have hI := hSx W hW; (by first | exact rAsgnI rfl rfl | exact rAsgn rfl)) ?_
    refine WT_end (by kernel_rfl) ?_
    refine W_ret ?_
    exact ret1 3 (.inr rfl) rfl ⟨(i - n) % n, rfl, Nat.mod_lt _ (by omega), hI.pu⟩
theorem Inv.rowsNil {S : Nat → Prop} {w0 w : World} {H : List Ent} (h : Inv S w0 w H) : Inv S w0 w (Row 0 66 1 none 0 0 [] :: RowsE [] (fun _ => False) :: H) :=
  (h.fresh (Pure.refl w) (RowsE.ok (w := w) (vals := []) (D := fun _ => False) (fun _ h => h.elim) (fun v hv => by simp at hv)) (fun k hk => hk.elim)).fresh (Pure.refl w) (Row.nil w 0 66 1) (fun k hk => by simp [Row] at hk)
def CutPost (L : StL) (s : SSt) (X : List Ent) (S : Nat → Prop) (w0 : World) (en : Ending) (w' : World) : Prop :=
  (∃ v, en = .returned v) ∧ ∃ L', L'.sb = L.sb ∧ L'.cw = L.cw ∧ Inv S w0 w' (spt L' s)
set_option maxHeartbeats 1000000 in
theorem cutNil (L : StL) (s : SSt) (S : Nat → Prop) (w0 : World) (hI : Inv S w0 w0 (spt L s)) :
    Calls Try.prog 27 #[.pointer (some ⟨L.sb, 0, none⟩), .slice none 0 0] w0 (CutPost L s [] S w0) := by
  refine calls_of_W (N := Try.f27.ntmps) Try.func27 rfl rfl rfl ?_
  refine W_seq ?_
  refine W_region ?_
  refine WL_box (u := .pointer _) (vs := #[_]) hI rfl rfl rfl rfl rfl rfl ?_
  clear hI; rintro b2 w - - hI
  refine WL_val rfl rfl rfl (by first | exact rAsgnN rfl rfl | exact rAsgnE rfl rfl | exact rAsgn rfl) ?_
  refine WL_nil ?_
  refine W_seq ?_
  refine W_seq ?_
  refine W_region ?_
  refine WL_val rfl rfl rfl (by first | exact rLd (v := .pointer _) rfl (by kernel_rfl) rfl (by first | exact hI.c0 rfl) | exact rLd rfl (by kernel_rfl) rfl (by first | exact hI.c0 rfl)) ?_
  refine WL_val rfl rfl rfl (rPtrEq rfl Try.underlying30 rfl rfl) ?_
  refine WL_val rfl rfl rfl (by first | exact rMoveB rfl rfl | exact rMove rfl) ?_
  first | refine WL_val rfl rfl rfl (by first | exact rMoveS rfl rfl | exact rMove rfl) ?_ | refine WL_skip rfl rfl rfl ?_
  first | refine WL_val rfl rfl rfl (rSliceNeF rfl Try.underlying55 rfl) ?_ | refine WL_skip rfl rfl rfl ?_
  first | refine WL_val rfl rfl rfl (by first | exact rMoveB rfl rfl | exact rMove rfl) ?_ | refine WL_skip rfl rfl rfl ?_
  refine WL_skip rfl rfl rfl ?_
  refine WL_skip rfl rfl rfl ?_
  refine WL_skip rfl rfl rfl ?_
  refine WL_skip rfl rfl rfl ?_
  refine WL_skip rfl rfl rfl ?_
  refine WL_skip rfl rfl rfl ?_
  refine WL_skip rfl rfl rfl ?_
  refine WL_skip rfl rfl rfl ?_
  first | refine WL_val rfl rfl rfl (by first | exact rPickTB rfl rfl rfl | exact rPickFB rfl rfl rfl | exact rPickB rfl rfl rfl rfl) ?_ | refine WL_skip rfl rfl rfl ?_
  refine WL_val rfl rfl rfl (by first | exact rPickTB rfl rfl rfl | exact rPickFB rfl rfl rfl | exact rPickB rfl rfl rfl rfl) ?_
  refine WL_nil ?_
  refine W_cond false rfl ?_
  refine W_skip ?_
  refine W_seq ?_
  refine W_seq ?_
  refine W_region ?_
  refine WL_val rfl rfl rfl (by first | exact rMoveS rfl rfl | exact rMove rfl) ?_
  refine WL_val rfl rfl rfl (rSliceNilT rfl Try.underlying55 rfl) ?_
  refine WL_nil ?_
  refine W_cond true rfl ?_
  replace hI := hI.rowsNil.pull 2 rfl
  refine W_seq ?_
  refine W_region ?_
  refine WL_val rfl rfl rfl (by first | exact rLd (v := .pointer _) rfl (by kernel_rfl) rfl (by first | exact hI.c0 rfl) | exact rLd rfl (by kernel_rfl) rfl (by first | exact hI.c0 rfl)) ?_
  refine WL_val rfl rfl rfl (rNilChk rfl rfl) ?_
  refine WL_val rfl rfl rfl (by first | exact rFldN (off := 7) rfl (by kernel_rfl) rfl | exact rFld (off := 7) rfl (by kernel_rfl) rfl) ?_
  refine WL_call rfl rfl rfl (rCall (vs := [.pointer _, .slice _ _ _]) rfl Try.func37 rfl rfl rfl) ?_
  refine (ncut_any L s none 0 0 [] (fun _ => False) (by omega) rfl (DLs _) _ (hI.fromB (X := [_]))).mono ?_
  rintro en w1 ⟨rfl, LA, ln, lc, cut, lv, LD, hJ⟩
  refine ⟨_, rfl, ?_⟩
  replace hI := hI.callB (X := [_]) hJ
  refine WL_nil ?_
  refine W_seq ?_
  refine W_region ?_
  refine WL_val rfl rfl rfl (by first | exact rAsgnN rfl rfl | exact rAsgnE rfl rfl | exact rAsgn rfl) ?_
  refine WL_nil ?_
  refine W_ret ?_
  exact ret1 4 (.inr rfl) rfl ⟨⟨_, rfl⟩, { L with LA := LA, ln := ln, lc := lc, cut := cut, lv := lv, LD := LD }, rfl, rfl, hI.d0.d0.d0⟩
set_option maxHeartbeats 4000000 in
theorem cutSome (L : StL) (s : SSt) (M g m : Nat) (vals : List Value) (D : Nat → Prop) (h : SOk L s M) (hvl : vals.length = m) (S : Nat → Prop) (w0 : World) (hI : Inv S w0 w0 ([Row 0 66 1 (some ⟨g, 0, none⟩) m m vals, RowsE vals D] ++ spt L s)) :
    Calls Try.prog 27 #[.pointer (some ⟨L.sb, 0, none⟩), .slice (some ⟨g, 0, none⟩) m m] w0 (CutPost L s [] S w0) := by
  have hn := h.n1
  have hk := h.k1
  refine calls_of_W (N := Try.f27.ntmps) Try.func27 rfl rfl rfl ?_
  refine W_seq ?_
  refine W_region ?_
  refine WL_box (u := .pointer _) (vs := #[_]) hI rfl rfl rfl rfl rfl rfl ?_
  clear hI; rintro b2 w - - hI
  refine WL_val rfl rfl rfl (by first | exact rAsgnN rfl rfl | exact rAsgnE rfl rfl | exact rAsgn rfl) ?_
  refine WL_nil ?_
  by_cases hm : m = s.n
  rotate_left
  · have hc0 : ∀ w b2, Inv S w0 w ([B b2 30 #[.pointer (some ⟨L.sb, 0, none⟩)], Row 0 66 1 (some ⟨g, 0, none⟩) m m vals, RowsE vals D] ++ spt L s) → w.cell? ⟨L.sb, 0, none⟩ = some (.int .i64 (s.n : Int)) := fun w b2 hI => sp_c0 hI
    refine W_seq ?_
    refine W_seq ?_
    refine W_region ?_
    refine WL_val rfl rfl rfl (by first | exact rLd (v := .pointer _) rfl (by kernel_rfl) rfl (by first | exact hI.c0 rfl | exact (hc0 _ _ hI)) | exact rLd rfl (by kernel_rfl) rfl (by first | exact hI.c0 rfl | exact (hc0 _ _ hI))) ?_
    refine WL_val rfl rfl rfl (rPtrEq rfl Try.underlying30 rfl rfl) ?_
    refine WL_val rfl rfl rfl (by first | exact rMoveB rfl rfl | exact rMove rfl) ?_
    first | refine WL_val rfl rfl rfl (by first | exact rMoveS rfl rfl | exact rMove rfl) ?_ | refine WL_skip rfl rfl rfl ?_
    first | refine WL_val rfl rfl rfl (rSliceNeT rfl Try.underlying55 rfl) ?_ | refine WL_skip rfl rfl rfl ?_
    first | refine WL_val rfl rfl rfl (by first | exact rMoveB rfl rfl | exact rMove rfl) ?_ | refine WL_skip rfl rfl rfl ?_
    first | refine WL_val rfl rfl rfl (by first | exact rMoveS rfl rfl | exact rMove rfl) ?_ | refine WL_skip rfl rfl rfl ?_
    first | refine WL_val rfl rfl rfl (rLen rfl Try.underlying55 rfl) ?_ | refine WL_skip rfl rfl rfl ?_
    first | refine WL_val rfl rfl rfl (by first | exact rLd (v := .pointer _) rfl (by kernel_rfl) rfl (by first | exact hI.c0 rfl | exact (hc0 _ _ hI)) | exact rLd rfl (by kernel_rfl) rfl (by first | exact hI.c0 rfl | exact (hc0 _ _ hI))) ?_ | refine WL_skip rfl rfl rfl ?_
    first | refine WL_val rfl rfl rfl (rNilChk rfl rfl) ?_ | refine WL_skip rfl rfl rfl ?_
    first | refine WL_val rfl rfl rfl (by first | exact rFldN (off := 0) rfl (by kernel_rfl) rfl | exact rFld0 rfl (by kernel_rfl) rfl) ?_ | refine WL_skip rfl rfl rfl ?_
    first | refine WL_val rfl rfl rfl (by first | exact rFldN (off := 0) rfl (by kernel_rfl) rfl | exact rFld0 rfl (by kernel_rfl) rfl) ?_ | refine WL_skip rfl rfl rfl ?_
    first | refine WL_val rfl rfl rfl (by first | exact rLd (v := .int .i64 _) rfl (by kernel_rfl) rfl (by first | exact hI.c0 rfl | exact (hc0 _ _ hI)) | exact rLd rfl (by kernel_rfl) rfl (by first | exact hI.c0 rfl | exact (hc0 _ _ hI))) ?_ | refine WL_skip rfl rfl rfl ?_
    first | refine WL_val rfl rfl rfl (by first | exact rNeqT rfl rfl rfl (by omega) | exact rNeqF rfl rfl rfl (by omega) | exact rNeq rfl rfl rfl) ?_ | refine WL_skip rfl rfl rfl ?_
    first | refine WL_val rfl rfl rfl (by first | exact rPickTB rfl rfl rfl | exact rPickFB rfl rfl rfl | exact rPickB rfl rfl rfl rfl) ?_ | refine WL_skip rfl rfl rfl ?_
    refine WL_val rfl rfl rfl (by first | exact rPickTB rfl rfl rfl | exact rPickFB rfl rfl rfl | exact rPickB rfl rfl rfl rfl) ?_
    refine WL_nil ?_
    refine W_cond true rfl ?_
    refine W_seq ?_
    refine W_region ?_
    refine WL_val rfl rfl rfl (rIface rfl Try.underlying46 rfl rfl) ?_
    refine WL_val rfl rfl rfl (by first | exact rAsgnN rfl rfl | exact rAsgnE rfl rfl | exact rAsgn rfl) ?_
    refine WL_nil ?_
    refine W_ret ?_
    exact ret1 4 (.inr rfl) rfl ⟨⟨_, rfl⟩, L, rfl, rfl, hI.d0.d0.d0⟩
  subst hm
  replace hI : Inv S w0 w ([B b2 30 #[.pointer (some ⟨L.sb, 0, none⟩)], Row 0 66 1 (some ⟨g, 0, none⟩) s.n s.n vals, RowsE vals D] ++ spt L s) := hI
  have hc0 : ∀ w X, Inv S w0 w (X ++ spt L s) → w.cell? ⟨L.sb, 0, none⟩ = some (.int .i64 (s.n : Int)) := fun w X hI => sp_c0 hI
  have hc1 : ∀ w X, Inv S w0 w (X ++ spt L s) → w.cell? ⟨L.sb, 1, none⟩ = some (.int .i64 (s.k : Int)) := fun w X hI => hI.fromB.cell 0 rfl rfl
  have hd0 : ∀ w, Inv S w0 w ([B b2 30 #[.pointer (some ⟨L.sb, 0, none⟩)], Row 0 66 1 (some ⟨g, 0, none⟩) s.n s.n vals, RowsE vals D] ++ spt L s) → w.cell? ⟨L.sb, 0, none⟩ = some (.int .i64 (s.n : Int)) ∧ w.cell? ⟨L.sb, 1, none⟩ = some (.int .i64 (s.k : Int)) := fun w hI => ⟨hc0 w _ hI, hc1 w _ hI⟩
  refine W_seq ?_
  refine W_seq ?_
  refine W_region ?_
  refine WL_val rfl rfl rfl (by first | exact rLd (v := .pointer _) rfl (by kernel_rfl) rfl (by first | exact hI.c0 rfl | exact ((hd0 _ hI).1)) | exact rLd rfl (by kernel_rfl) rfl (by first | exact hI.c0 rfl | exact ((hd0 _ hI).1))) ?_
  refine WL_val rfl rfl rfl (rPtrEq rfl Try.underlying30 rfl rfl) ?_
  refine WL_val rfl rfl rfl (by first | exact rMoveB rfl rfl | exact rMove rfl) ?_
  first | refine WL_val rfl rfl rfl (by first | exact rMoveS rfl rfl | exact rMove rfl) ?_ | refine WL_skip rfl rfl rfl ?_
  first | refine WL_val rfl rfl rfl (rSliceNeT rfl Try.underlying55 rfl) ?_ | refine WL_skip rfl rfl rfl ?_
  first | refine WL_val rfl rfl rfl (by first | exact rMoveB rfl rfl | exact rMove rfl) ?_ | refine WL_skip rfl rfl rfl ?_
  first | refine WL_val rfl rfl rfl (by first | exact rMoveS rfl rfl | exact rMove rfl) ?_ | refine WL_skip rfl rfl rfl ?_
  first | refine WL_val rfl rfl rfl (rLen rfl Try.underlying55 rfl) ?_ | refine WL_skip rfl rfl rfl ?_
  first | refine WL_val rfl rfl rfl (by first | exact rLd (v := .pointer _) rfl (by kernel_rfl) rfl (by first | exact hI.c0 rfl | exact ((hd0 _ hI).1)) | exact rLd rfl (by kernel_rfl) rfl (by first | exact hI.c0 rfl | exact ((hd0 _ hI).1))) ?_ | refine WL_skip rfl rfl rfl ?_
  first | refine WL_val rfl rfl rfl (rNilChk rfl rfl) ?_ | refine WL_skip rfl rfl rfl ?_
  first | refine WL_val rfl rfl rfl (by first | exact rFldN (off := 0) rfl (by kernel_rfl) rfl | exact rFld0 rfl (by kernel_rfl) rfl) ?_ | refine WL_skip rfl rfl rfl ?_
  first | refine WL_val rfl rfl rfl (by first | exact rFldN (off := 0) rfl (by kernel_rfl) rfl | exact rFld0 rfl (by kernel_rfl) rfl) ?_ | refine WL_skip rfl rfl rfl ?_
  first | refine WL_val rfl rfl rfl (by first | exact rLd (v := .int .i64 _) rfl (by kernel_rfl) rfl (by first | exact hI.c0 rfl | exact ((hd0 _ hI).1)) | exact rLd rfl (by kernel_rfl) rfl (by first | exact hI.c0 rfl | exact ((hd0 _ hI).1))) ?_ | refine WL_skip rfl rfl rfl ?_
  first | refine WL_val rfl rfl rfl (by first | exact rNeqT rfl rfl rfl (by omega) | exact rNeqF rfl rfl rfl (by omega) | exact rNeq rfl rfl rfl) ?_ | refine WL_skip rfl rfl rfl ?_
  first | refine WL_val rfl rfl rfl (by first | exact rPickTB rfl rfl rfl | exact rPickFB rfl rfl rfl | exact rPickB rfl rfl rfl rfl) ?_ | refine WL_skip rfl rfl rfl ?_
  refine WL_val rfl rfl rfl (by first | exact rPickTB rfl rfl rfl | exact rPickFB rfl rfl rfl | exact rPickB rfl rfl rfl rfl) ?_
  refine WL_nil ?_
  refine W_cond false rfl ?_
  refine W_skip ?_
  refine W_seq ?_
  refine W_seq ?_
  refine W_region ?_
  refine WL_val rfl rfl rfl (by first | exact rMoveS rfl rfl | exact rMove rfl) ?_
  refine WL_val rfl rfl rfl (rSliceNilF rfl Try.underlying55 rfl) ?_
  refine WL_nil ?_
  refine W_cond false rfl ?_
  refine W_skip ?_
  refine W_seq ?_
  refine W_region ?_
  refine WL_val rfl rfl rfl (rFunc (l := []) (m := [_]) rfl rfl rfl) ?_
  refine WL_val rfl rfl rfl (by first | exact rAsgnF rfl rfl | exact rAsgn rfl) ?_
  refine WL_nil ?_
  obtain ⟨N, hN⟩ : ∃ N, s.n + s.k = N := ⟨_, rfl⟩
  refine W_seq ?_
  refine W_draw (by kernel_rfl) ?_
  refine WA_inv (T := []) hI.drew ?_
  intro Sx hSx hXS
  replace hI := hI.drew
  refine WT_take 0 rfl rfl (by kernel_rfl) (hXS _ hI) rfl (fun W hW => have hI := hSx W hW; (by first | exact rLd (v := .pointer _) rfl (by kernel_rfl) rfl (by first | exact hI.c0 rfl) | exact rLd rfl (by kernel_rfl) rfl (by first | exact hI.c0 rfl))) ?_
  refine WT_take 1 rfl rfl (by kernel_rfl) (hXS _ hI) rfl (fun W hW => have hI := hSx W hW; (rNilChk rfl rfl)) ?_
  refine WT_take 2 rfl rfl (by kernel_rfl) (hXS _ hI) rfl (fun W hW => have hI := hSx W hW; (by first | exact rFldN (off := 0) rfl (by kernel_rfl) rfl | exact rFld0 rfl (by kernel_rfl) rfl)) ?_
  refine WT_take 3 rfl rfl (by kernel_rfl) (hXS _ hI) rfl (fun W hW => have hI := hSx W hW; (by first | exact rFldN (off := 0) rfl (by kernel_rfl) rfl | exact rFld0 rfl (by kernel_rfl) rfl)) ?_
  refine WT_take 4 rfl rfl (by kernel_rfl) (hXS _ hI) rfl (fun W hW => have hI := hSx W hW; (rLd (v := .int .i64 (s.n : Int)) rfl (by kernel_rfl) rfl (hd0 _ hI).1)) ?_
  refine WT_take 5 rfl rfl (by kernel_rfl) (hXS _ hI) rfl (fun W hW => have hI := hSx W hW; (by first | exact rLd (v := .pointer _) rfl (by kernel_rfl) rfl (by first | exact hI.c0 rfl) | exact rLd rfl (by kernel_rfl) rfl (by first | exact hI.c0 rfl))) ?_
  refine WT_take 6 rfl rfl (by kernel_rfl) (hXS _ hI) rfl (fun W hW => have hI := hSx W hW; (rNilChk rfl rfl)) ?_
  refine WT_take 7 rfl rfl (by kernel_rfl) (hXS _ hI) rfl (fun W hW => have hI := hSx W hW; (by first | exact rFldN (off := 0) rfl (by kernel_rfl) rfl | exact rFld0 rfl (by kernel_rfl) rfl)) ?_
  refine WT_take 8 rfl rfl (by kernel_rfl) (hXS _ hI) rfl (fun W hW => have hI := hSx W hW; (by first | exact rFldN (off := 1) rfl (by kernel_rfl) rfl | exact rFld (off := 1) rfl (by kernel_rfl) rfl)) ?_
  refine WT_take 9 rfl rfl (by kernel_rfl) (hXS _ hI) rfl (fun W hW => have hI := hSx W hW; (rLd (v := .int .i64 (s.k : Int)) rfl (by kernel_rfl) rfl (hd0 _ hI).2)) ?_
  refine WT_take 10 rfl rfl (by kernel_rfl) (hXS _ hI) rfl (fun W hW => have hI := hSx W hW; ((hN ▸ rAddNN rfl rfl rfl (by omega) : Runs _ _ _ _ (.int .i64 (N : Int))))) ?_
  refine WT_one 11 rfl (by kernel_rfl) rfl ?_
  refine WL_mkZ (n := N) (m := 1) (by_ := 24) (z := .slice none 0 0) [.slice none 0 0] hI rfl rfl rfl rfl rfl rfl Try.underlying55 (by kernel_rfl) rfl rfl (by omega) (by omega) (by omega) ?_
  clear hI; rintro b46 w - - hI
  refine WL_nil ⟨hXS _ hI.d0, ?_⟩
  refine WT_take 12 rfl rfl (by kernel_rfl) (hXS _ hI.d0) rfl (fun W hW => have hI := hSx W hW; (by first | exact rAsgnS rfl rfl | exact rAsgn rfl)) ?_
  refine WT_end (by kernel_rfl) ?_
  have hst : flatB N (fun _ => [Value.slice none 0 0]) = (([] : List Value) ++ List.replicate (N - 0) (Value.slice none 0 0)).toArray := flat_rep N _
  rw [hst] at hI
  replace hI := (hI.fresh (Pure.refl _) (RowsE.ok (w := w) (vals := []) (D := fun _ => False) (fun _ h => h.elim) (fun v hv => by simp at hv)) (fun k hk => hk.elim)).sw0
  have hb2 : ∀ w X Y, Inv S w0 w (X ++ (B b2 30 #[.pointer (some ⟨L.sb, 0, none⟩)] :: Y)) → w.cell? ⟨b2, 0, none⟩ = some (.pointer (some ⟨L.sb, 0, none⟩)) := fun w X Y hI => hI.fromB.cell 0 rfl rfl
  refine W_seq_cut (fun ρ w => ∃ (done : List Value) (E : Nat → Prop), done.length = N ∧ Has ρ [(6, .slice (some ⟨b46, 0, none⟩) N N), (2, .pointer (some ⟨b2, 0, none⟩))] ∧ Inv S w0 w ([B b46 66 (done ++ List.replicate (N - N) (Value.slice none 0 0)).toArray, RowsE done E, B b2 30 #[.pointer (some ⟨L.sb, 0, none⟩)], Row 0 66 1 (some ⟨g, 0, none⟩) s.n s.n vals, RowsE vals D] ++ spt L s)) ?_ ?_
  · refine W_seq ?_
    refine W_region ?_
    refine WL_val rfl rfl rfl (by first | exact rMoveS rfl rfl | exact rMove rfl) ?_
    refine WL_val rfl rfl rfl (rLen rfl Try.underlying55 rfl) ?_
    refine WL_val rfl rfl rfl (by first | exact rMoveI rfl rfl | exact rMove rfl) ?_
    refine WL_nil ?_
    refine W_block ?_
    refine W_loop (fun ρ w => ∃ (a : Nat) (done : List Value) (E : Nat → Prop), a ≤ N ∧ done.length = a ∧ Has ρ [(49, .int .i64 (a : Int)), (48, .int .i64 (N : Int)), (1, .slice (some ⟨g, 0, none⟩) s.n s.n), (5, .func (.func 38) #[] #[.pointer (some ⟨b2, 0, none⟩)]), (6, .slice (some ⟨b46, 0, none⟩) N N), (2, .pointer (some ⟨b2, 0, none⟩))] ∧
      Inv S w0 w ([B b46 66 (done ++ List.replicate (N - a) (Value.slice none 0 0)).toArray, RowsE done E, B b2 30 #[.pointer (some ⟨L.sb, 0, none⟩)], Row 0 66 1 (some ⟨g, 0, none⟩) s.n s.n vals, RowsE vals D] ++ spt L s)) (fun ρ _ => N - cnt (ρ 49))
      ⟨0, [], fun _ => False, by omega, rfl, ⟨rfl, rfl, rfl, rfl, rfl, rfl, trivial⟩, hI⟩ ?_
    clear hI
    rintro ρ w ⟨a, done, E, ha, hdl, hH, hI⟩
    obtain ⟨σ, rfl⟩ := hH.open
    by_cases haN : a < N
    rotate_left
    · obtain rfl : a = N := by omega
      refine W_seq ?_
      refine W_region ?_
      refine WL_val rfl rfl rfl (by first | exact rLssT rfl rfl rfl (by omega) | exact rLssF rfl rfl rfl (by omega) | exact rLss rfl rfl rfl) ?_
      refine WL_nil ?_
      refine W_seq ?_
      refine W_cond false rfl ?_
      refine W_exit ?_
      exact ⟨done, E, hdl, ⟨rfl, rfl, trivial⟩, hI⟩
    refine W_seq ?_
    refine W_region ?_
    refine WL_val rfl rfl rfl (by first | exact rLssT rfl rfl rfl (by omega) | exact rLssF rfl rfl rfl (by omega) | exact rLss rfl rfl rfl) ?_
    refine WL_nil ?_
    refine W_seq ?_
    refine W_cond true rfl ?_
    refine W_skip ?_
    refine W_seq ?_
    refine W_block ?_
    refine W_seq ?_
    refine W_region ?_
    refine WL_val rfl rfl rfl (by first | exact rMoveI rfl rfl | exact rMove rfl) ?_
    refine WL_val rfl rfl rfl (by first | exact rAsgnI rfl rfl | exact rAsgn rfl) ?_
    refine WL_nil ?_
    refine W_seq ?_
    refine W_region ?_
    refine WL_val rfl rfl rfl (by first | exact rMoveS rfl rfl | exact rMove rfl) ?_
    refine WL_val rfl rfl rfl (by first | exact rMoveF rfl rfl | exact rMove rfl) ?_
    refine WL_val rfl rfl rfl (by first | exact rMoveI rfl rfl | exact rMove rfl) ?_
    refine WL_call rfl rfl rfl (rCallF (first := []) (cap := [_]) (vs := [_, _]) rfl rfl Try.func38 rfl rfl rfl) ?_
    refine (num_any a s.n b2 L.sb _ (hb2 _ [_, _] _ hI) (hc0 _ [_, _, _, _, _] hI) (by omega) hn).mono ?_
    rintro en w1 ⟨j, rfl, hj, hp⟩
    refine ⟨_, rfl, ?_⟩
    replace hI := hI.pure hp
    obtain ⟨v, hv⟩ : ∃ v, vals[j]? = some v := ⟨_, List.getElem?_eq_getElem (by omega)⟩
    have hvm := List.mem_of_getElem? hv
    obtain ⟨RA, mm, rc, rfl⟩ : ∃ RA mm rc, v = .slice RA mm rc := by
      obtain ⟨lb, hlb, _⟩ := (hI.ok _ (List.mem_of_getElem? (i := 4) rfl)).1.2 v hvm
      obtain ⟨RA, rc, he, _⟩ := Rd.form hlb
      exact ⟨RA, _, rc, he⟩
    have hz : w1.cell? ⟨g, j, none⟩ = some (.slice RA mm rc) := by
      obtain ⟨A', c', he, _, _, _, q⟩ := Rd.of_own (D := fun _ => True) (hI.ok _ (List.mem_of_getElem? (i := 3) rfl)).1 (fun _ _ _ => trivial)
      injection he with he _ _
      subst he
      obtain ⟨g', o', he2, _, hc⟩ := q (by omega)
      injection he2 with he2
      injection he2 with e1 e2
      subst e1 e2
      have := hc j _ hv
      rwa [Nat.zero_add] at this
    refine WL_val rfl rfl rfl (by first | exact rIdx0 rfl Try.underlying55 (by kernel_rfl) rfl rfl rfl (by omega) | exact rIdx1 rfl Try.underlying55 (by kernel_rfl) rfl rfl (by omega)) ?_
    refine WL_val rfl rfl rfl (rLd (v := .slice _ _ _) rfl (by kernel_rfl) rfl hz) ?_
    refine WL_val rfl rfl rfl (by first | exact rAsgnS rfl rfl | exact rAsgn rfl) ?_
    refine WL_nil ?_
    obtain ⟨lb, hlb, hI⟩ := RowsV.to (hI.pull 4 rfl) hvm
    have hmm : mm = lb.length := by
      obtain ⟨_, _, he, _⟩ := Rd.form (hI.ok _ (List.mem_of_getElem? (i := 0) rfl)).1.2
      injection he
    replace hI := hI.back 4
    rw [rep_nil_succ haN] at hI
    replace hI := hI.fresh (Pure.refl _) (Row.nil _ 0 4 1) (fun k hk => by simp [Row] at hk)
    refine W_seq ?_
    refine W_region ?_
    refine WL_val rfl rfl rfl (by first | exact rMoveS rfl rfl | exact rMove rfl) ?_
    refine WL_val rfl rfl rfl (rLen rfl Try.underlying55 rfl) ?_
    refine WL_val rfl rfl rfl (by first | exact rMoveI rfl rfl | exact rMove rfl) ?_
    refine WL_nil ?_
    refine W_block ?_
    refine W_loop (fun ρ w => ∃ (b : Nat) (l : List Bool) (A : Option Addr) (c : Nat), b ≤ N ∧ l.length = b ∧ Has ρ [(60, .int .i64 (b : Int)), (59, .int .i64 (N : Int)), (8, .slice RA mm rc), (7, .int .i64 (a : Int)), (49, .int .i64 (a : Int)), (48, .int .i64 (N : Int)), (1, .slice (some ⟨g, 0, none⟩) s.n s.n), (5, .func (.func 38) #[] #[.pointer (some ⟨b2, 0, none⟩)]), (6, .slice (some ⟨b46, 0, none⟩) N N), (2, .pointer (some ⟨b2, 0, none⟩))] ∧
      Inv S w0 w ([Row 0 4 1 A b c (boolsV l), B b46 66 (done ++ Value.slice A b c :: List.replicate (N - (a + 1)) (Value.slice none 0 0)).toArray, RowsE done E, B b2 30 #[.pointer (some ⟨L.sb, 0, none⟩)], Row 0 66 1 (some ⟨g, 0, none⟩) s.n s.n vals, RowsV vals D (.slice RA mm rc) lb] ++ spt L s)) (fun ρ _ => N - cnt (ρ 60))
      ⟨0, [], none, 0, by omega, rfl, ⟨rfl, rfl, rfl, rfl, rfl, rfl, rfl, rfl, rfl, rfl, trivial⟩, hI⟩ ?_
    clear hI
    rintro ρ w ⟨b, l, A, c, hb, hll, hH, hI⟩
    obtain ⟨σ, rfl⟩ := hH.open
    by_cases hbn : b < N
    rotate_left
    · obtain rfl : b = N := by omega
      refine W_seq ?_
      refine W_region ?_
      refine WL_val rfl rfl rfl (by first | exact rLssT rfl rfl rfl (by omega) | exact rLssF rfl rfl rfl (by omega) | exact rLss rfl rfl rfl) ?_
      refine WL_nil ?_
      refine W_seq ?_
      refine W_cond false rfl ?_
      refine W_exit ?_
      refine W_region ?_
      refine WL_val rfl rfl rfl (by first | exact rInc rfl rfl rfl (by omega) | exact rAdd rfl rfl rfl (by omega) | exact rAddW rfl rfl rfl) ?_
      refine WL_val rfl rfl rfl (by first | exact rMoveI rfl rfl | exact rMove rfl) ?_
      refine WL_nil ?_
      have h1 := (RowsV.from (hI.pull 5 rfl)).back 5
      have h2 := (Inv.sw1 h1).rowsIn hll.symm (by omega)
      have h3 := h2.sw0
      have e1 : (done ++ Value.slice A b c :: List.replicate (b - (a + 1)) (.slice none 0 0)) = (done ++ [.slice A b c]) ++ List.replicate (b - (a + 1)) (.slice none 0 0) := by simp
      rw [e1] at h3
      refine ⟨⟨a + 1, done ++ [Value.slice A b c], (fun k => A.map (·.block) = some k ∨ E k), by omega, by simp [hdl], ⟨rfl, rfl, rfl, rfl, rfl, rfl, trivial⟩, h3⟩, by show b - ((a + 1 : Nat) : Int).toNat < b - (a : Int).toNat; omega⟩
    refine W_seq ?_
    refine W_region ?_
    refine WL_val rfl rfl rfl (by first | exact rLssT rfl rfl rfl (by omega) | exact rLssF rfl rfl rfl (by omega) | exact rLss rfl rfl rfl) ?_
    refine WL_nil ?_
    refine W_seq ?_
    refine W_cond true rfl ?_
    refine W_skip ?_
    refine W_seq_cut (fun ρ w => ∃ (r : Bool) (A' : Option Addr) (c' : Nat), Has ρ [(60, .int .i64 (b : Int)), (59, .int .i64 (N : Int)), (8, .slice RA mm rc), (7, .int .i64 (a : Int)), (49, .int .i64 (a : Int)), (48, .int .i64 (N : Int)), (1, .slice (some ⟨g, 0, none⟩) s.n s.n), (5, .func (.func 38) #[] #[.pointer (some ⟨b2, 0, none⟩)]), (6, .slice (some ⟨b46, 0, none⟩) N N), (2, .pointer (some ⟨b2, 0, none⟩))] ∧
      Inv S w0 w ([Row 0 4 1 A' (b + 1) c' (boolsV (l ++ [r])), B b46 66 (done ++ Value.slice A' (b + 1) c' :: List.replicate (N - (a + 1)) (Value.slice none 0 0)).toArray, RowsE done E, B b2 30 #[.pointer (some ⟨L.sb, 0, none⟩)], Row 0 66 1 (some ⟨g, 0, none⟩) s.n s.n vals, RowsV vals D (.slice RA mm rc) lb] ++ spt L s)) ?_ ?_
    · refine W_block ?_
      refine W_seq ?_
      refine W_region ?_
      refine WL_val rfl rfl rfl (by first | exact rMoveI rfl rfl | exact rMove rfl) ?_
      refine WL_val rfl rfl rfl (by first | exact rAsgnI rfl rfl | exact rAsgn rfl) ?_
      refine WL_nil ?_
      refine W_seq ?_
      refine W_region ?_
      refine WL_val rfl rfl rfl (by first | exact rMoveF rfl rfl | exact rMove rfl) ?_
      refine WL_val rfl rfl rfl (by first | exact rMoveI rfl rfl | exact rMove rfl) ?_
      refine WL_call rfl rfl rfl (rCallF (first := []) (cap := [_]) (vs := [_, _]) rfl rfl Try.func38 rfl rfl rfl) ?_
      refine (num_any b s.n b2 L.sb _ (hb2 _ [_, _, _] _ hI) (hc0 _ [_, _, _, _, _, _] hI) (by omega) hn).mono ?_
      rintro en w1 ⟨q, rfl, hq, hp⟩
      refine ⟨_, rfl, ?_⟩
      replace hI := hI.pure hp
      refine WL_val rfl rfl rfl (by first | exact rAsgnI rfl rfl | exact rAsgn rfl) ?_
      refine WL_nil ?_
      have hga : ∀ w Y, Inv S w0 w (B b46 66 (done ++ Value.slice A b c :: List.replicate (N - (a + 1)) (Value.slice none 0 0)).toArray :: Y) → w.cell? ⟨b46, a, none⟩ = some (.slice A b c) := fun w Y hI => hI.cell 0 rfl (mid_get hdl)
      have hbools : ∀ r : Bool, boolsV l ++ [.bool r] = boolsV (l ++ [r]) := fun r => by simp [boolsV]
      by_cases hql : q < mm
      · have hrv := (hI.ok _ (List.mem_of_getElem? (i := 5) rfl)).1.2
        obtain ⟨A2, c2, he, _, _, _, q4⟩ := hrv
        injection he with he _ _
        subst he
        obtain ⟨rb, ro, rfl, _, _⟩ := q4 (by omega)
        have hgr : ∀ w, Inv S w0 w ([B b46 66 (done ++ Value.slice A b c :: List.replicate (N - (a + 1)) (Value.slice none 0 0)).toArray, RowsE done E, B b2 30 #[.pointer (some ⟨L.sb, 0, none⟩)], Row 0 66 1 (some ⟨g, 0, none⟩) s.n s.n vals, RowsV vals D (.slice (some ⟨rb, ro, none⟩) mm rc) lb] ++ spt L s) → w.cell? ⟨rb, ro + q, none⟩ = some (.bool (lb.getD q false)) := fun w hI => by
          obtain ⟨A3, c3, he, _, _, _, q5⟩ := (hI.ok _ (List.mem_of_getElem? (i := 4) rfl)).1.2
          injection he with he _ _
          subst he
          obtain ⟨rb', ro', he2, _, hc⟩ := q5 (by omega)
          injection he2 with he2
          injection he2 with e1 e2
          subst e1 e2
          refine hc q _ ?_
          rw [List.getElem?_map, List.getElem?_eq_getElem (by omega)]
          simp [List.getD, show q < lb.length by omega]
        refine W_draw (by kernel_rfl) ?_
        refine WA_inv (T := [19]) hI.d0.drew ?_
        intro Sx hSx hXS
        replace hI := hI.drew
        refine WT_take 0 rfl rfl (by kernel_rfl) (hXS _ hI.d0) rfl (fun W hW => have hI := hSx W hW; (by first | exact rMoveS rfl rfl | exact rMove rfl)) ?_
        refine WT_take 1 rfl rfl (by kernel_rfl) (hXS _ hI.d0) rfl (fun W hW => have hI := hSx W hW; (by first | exact rMoveI rfl rfl | exact rMove rfl)) ?_
        refine WT_take 2 rfl rfl (by kernel_rfl) (hXS _ hI.d0) rfl (fun W hW => have hI := hSx W hW; (by first | exact rMoveS rfl rfl | exact rMove rfl)) ?_
        refine WT_take 3 rfl rfl (by kernel_rfl) (hXS _ hI.d0) rfl (fun W hW => have hI := hSx W hW; (by first | exact rMoveI rfl rfl | exact rMove rfl)) ?_
        refine WT_take 4 rfl rfl (by kernel_rfl) (hXS _ hI.d0) rfl (fun W hW => have hI := hSx W hW; (by first | exact rIdx0 rfl Try.underlying55 (by kernel_rfl) rfl rfl rfl (by omega) | exact rIdx1 rfl Try.underlying55 (by kernel_rfl) rfl rfl (by omega))) ?_
        refine WT_take 5 rfl rfl (by kernel_rfl) (hXS _ hI.d0) rfl (fun W hW => have hI := hSx W hW; (by first | exact rLd (v := .slice _ _ _) rfl (by kernel_rfl) rfl (by first | exact (hga _ _ hI) | exact (hgr _ hI)) | exact rLd rfl (by kernel_rfl) rfl (by first | exact (hga _ _ hI) | exact (hgr _ hI)))) ?_
        refine WT_take 6 rfl rfl (by kernel_rfl) (hXS _ hI.d0) rfl (fun W hW => have hI := hSx W hW; (by first | exact rMoveI rfl rfl | exact rMove rfl)) ?_
        refine WT_take 7 rfl rfl (by kernel_rfl) (hXS _ hI.d0) rfl (fun W hW => have hI := hSx W hW; (by first | exact rMoveS rfl rfl | exact rMove rfl)) ?_
        refine WT_take 8 rfl rfl (by kernel_rfl) (hXS _ hI.d0) rfl (fun W hW => have hI := hSx W hW; (rLen rfl Try.underlying66 rfl)) ?_
        refine WT_take 9 rfl rfl (by kernel_rfl) (hXS _ hI.d0) rfl (fun W hW => have hI := hSx W hW; (by first | exact rLssT rfl rfl rfl (by omega) | exact rLssF rfl rfl rfl (by omega) | exact rLss rfl rfl rfl)) ?_
        refine WT_take 10 rfl rfl (by kernel_rfl) (hXS _ hI.d0) rfl (fun W hW => have hI := hSx W hW; (by first | exact rMoveB rfl rfl | exact rMove rfl)) ?_
        first | refine WT_take 11 rfl rfl (by kernel_rfl) (hXS _ hI.d0) rfl (fun W hW => have hI := hSx W hW; (by first | exact rMoveS rfl rfl | exact rMove rfl)) ?_ | refine WT_skip 11 rfl rfl (by kernel_rfl) (hXS _ hI.d0) rfl ?_
        first | refine WT_take 12 rfl rfl (by kernel_rfl) (hXS _ hI.d0) rfl (fun W hW => have hI := hSx W hW; (by first | exact rMoveI rfl rfl | exact rMove rfl)) ?_ | refine WT_skip 12 rfl rfl (by kernel_rfl) (hXS _ hI.d0) rfl ?_
        first | refine WT_take 13 rfl rfl (by kernel_rfl) (hXS _ hI.d0) rfl (fun W hW => have hI := hSx W hW; (by first | exact rIdx0 rfl Try.underlying66 (by kernel_rfl) rfl rfl rfl (by omega) | exact rIdx1 rfl Try.underlying66 (by kernel_rfl) rfl rfl (by omega))) ?_ | refine WT_skip 13 rfl rfl (by kernel_rfl) (hXS _ hI.d0) rfl ?_
        first | refine WT_take 14 rfl rfl (by kernel_rfl) (hXS _ hI.d0) rfl (fun W hW => have hI := hSx W hW; (by first | exact rLd (v := .bool _) rfl (by kernel_rfl) rfl (by first | exact (hga _ _ hI) | exact (hgr _ hI)) | exact rLd rfl (by kernel_rfl) rfl (by first | exact (hga _ _ hI) | exact (hgr _ hI)))) ?_ | refine WT_skip 14 rfl rfl (by kernel_rfl) (hXS _ hI.d0) rfl ?_
        refine WT_take 15 rfl rfl (by kernel_rfl) (hXS _ hI.d0) rfl (fun W hW => have hI := hSx W hW; (by first | exact rPickTB rfl rfl rfl | exact rPickFB rfl rfl rfl | exact rPickB rfl rfl rfl rfl)) ?_
        refine WT_one 16 rfl (by kernel_rfl) rfl ?_
        refine WL_lit (vs := [_]) (qs := [(0, .bool _)]) [.bool false] [0] hI rfl rfl rfl rfl rfl rfl Try.underlying66 (fun _ => by kernel_rfl) ?_
        clear hI; rintro b82 w - - hI
        refine WL_nil ⟨hXS _ hI.d0.d0, ?_⟩
        refine WT_one 17 rfl (by kernel_rfl) rfl ?_
        first | refine WL_app1 (z := .bool false) (by_ := 1) hI rfl rfl rfl rfl rfl rfl Try.underlying66 (by kernel_rfl) rfl (by omega) (by rfl) hI.lit0 (by first | rfl | simp [i64s, Value.oneCell']) (by omega) (by omega) (by first | exact Nat.zero_le _ | (have := hI.chg.size; omega)) ?_ | refine WL_app2 (z := .bool false) (by_ := 1) hI rfl rfl rfl rfl rfl rfl Try.underlying66 (by kernel_rfl) rfl (by omega) (by rfl) hI.lit0 (by first | rfl | simp [i64s, Value.oneCell']) (by omega) (by omega) (by first | exact Nat.zero_le _ | (have := hI.chg.size; omega)) ?_ | refine WL_app3 (z := .bool false) (by_ := 1) hI rfl rfl rfl rfl rfl rfl Try.underlying66 (by kernel_rfl) rfl (by omega) (by rfl) hI.lit0 (by first | rfl | simp [i64s, Value.oneCell']) (by omega) (by omega) (by first | exact Nat.zero_le _ | (have := hI.chg.size; omega)) ?_ | refine WL_app4 (z := .bool false) (by_ := 1) hI rfl rfl rfl rfl rfl rfl Try.underlying66 (by kernel_rfl) rfl (by omega) (by rfl) hI.lit0 (by first | rfl | simp [i64s, Value.oneCell']) (by omega) (by omega) (by first | exact Nat.zero_le _ | (have := hI.chg.size; omega)) ?_ | refine WL_app5 (z := .bool false) (by_ := 1) hI rfl rfl rfl rfl rfl rfl Try.underlying66 (by kernel_rfl) rfl (by omega) (by rfl) hI.lit0 (by first | rfl | simp [i64s, Value.oneCell']) (by omega) (by omega) (by first | exact Nat.zero_le _ | (have := hI.chg.size; omega)) ?_
        clear hI; rintro A83 c83 w hA83 hc83 hI
        replace hI := hI.d0
        refine WL_nil ⟨hXS _ hI.d0, ?_⟩
        refine WT_take 18 rfl rfl (by kernel_rfl) (hXS _ hI.d0) rfl (fun W hW => have hI := hSx W hW; (by first | exact rIdx0 rfl Try.underlying55 (by kernel_rfl) rfl rfl rfl (by omega) | exact rIdx1 rfl Try.underlying55 (by kernel_rfl) rfl rfl (by omega))) ?_
        refine WT_A (by kernel_rfl) ?_
        clear hXS hSx
        refine WA_one 19 rfl (by kernel_rfl) ?_
        refine WL_st1 (u := .slice A83 (b + 1) c83) (j := a) hI rfl rfl rfl rfl rfl rfl (by kernel_rfl) rfl (mid_blt hdl) (mid_set hdl) ?_
        clear hI; intro w hI
        refine WL_nil ?_
        refine WA_end (by kernel_rfl) ?_
        have e := hbools (lb.getD q false)
        exact ⟨lb.getD q false, A83, c83, ⟨rfl, rfl, rfl, rfl, rfl, rfl, rfl, rfl, rfl, rfl, trivial⟩, by rw [← e]; exact hI⟩
      · refine W_draw (by kernel_rfl) ?_
        refine WA_inv (T := [19]) hI.d0.drew ?_
        intro Sx hSx hXS
        replace hI := hI.drew
        refine WT_take 0 rfl rfl (by kernel_rfl) (hXS _ hI.d0) rfl (fun W hW => have hI := hSx W hW; (by first | exact rMoveS rfl rfl | exact rMove rfl)) ?_
        refine WT_take 1 rfl rfl (by kernel_rfl) (hXS _ hI.d0) rfl (fun W hW => have hI := hSx W hW; (by first | exact rMoveI rfl rfl | exact rMove rfl)) ?_
        refine WT_take 2 rfl rfl (by kernel_rfl) (hXS _ hI.d0) rfl (fun W hW => have hI := hSx W hW; (by first | exact rMoveS rfl rfl | exact rMove rfl)) ?_
        refine WT_take 3 rfl rfl (by kernel_rfl) (hXS _ hI.d0) rfl (fun W hW => have hI := hSx W hW; (by first | exact rMoveI rfl rfl | exact rMove rfl)) ?_
        refine WT_take 4 rfl rfl (by kernel_rfl) (hXS _ hI.d0) rfl (fun W hW => have hI := hSx W hW; (by first | exact rIdx0 rfl Try.underlying55 (by kernel_rfl) rfl rfl rfl (by omega) | exact rIdx1 rfl Try.underlying55 (by kernel_rfl) rfl rfl (by omega))) ?_
        refine WT_take 5 rfl rfl (by kernel_rfl) (hXS _ hI.d0) rfl (fun W hW => have hI := hSx W hW; (by first | exact rLd (v := .slice _ _ _) rfl (by kernel_rfl) rfl (by first | exact (hga _ _ hI)) | exact rLd rfl (by kernel_rfl) rfl (by first | exact (hga _ _ hI)))) ?_
        refine WT_take 6 rfl rfl (by kernel_rfl) (hXS _ hI.d0) rfl (fun W hW => have hI := hSx W hW; (by first | exact rMoveI rfl rfl | exact rMove rfl)) ?_
        refine WT_take 7 rfl rfl (by kernel_rfl) (hXS _ hI.d0) rfl (fun W hW => have hI := hSx W hW; (by first | exact rMoveS rfl rfl | exact rMove rfl)) ?_
        refine WT_take 8 rfl rfl (by kernel_rfl) (hXS _ hI.d0) rfl (fun W hW => have hI := hSx W hW; (rLen rfl Try.underlying66 rfl)) ?_
        refine WT_take 9 rfl rfl (by kernel_rfl) (hXS _ hI.d0) rfl (fun W hW => have hI := hSx W hW; (by first | exact rLssT rfl rfl rfl (by omega) | exact rLssF rfl rfl rfl (by omega) | exact rLss rfl rfl rfl)) ?_
        refine WT_take 10 rfl rfl (by kernel_rfl) (hXS _ hI.d0) rfl (fun W hW => have hI := hSx W hW; (by first | exact rMoveB rfl rfl | exact rMove rfl)) ?_
        refine WT_skip 11 rfl rfl (by kernel_rfl) (hXS _ hI.d0) rfl ?_
        refine WT_skip 12 rfl rfl (by kernel_rfl) (hXS _ hI.d0) rfl ?_
        refine WT_skip 13 rfl rfl (by kernel_rfl) (hXS _ hI.d0) rfl ?_
        refine WT_skip 14 rfl rfl (by kernel_rfl) (hXS _ hI.d0) rfl ?_
        refine WT_take 15 rfl rfl (by kernel_rfl) (hXS _ hI.d0) rfl (fun W hW => have hI := hSx W hW; (by first | exact rPickTB rfl rfl rfl | exact rPickFB rfl rfl rfl | exact rPickB rfl rfl rfl rfl)) ?_
        refine WT_one 16 rfl (by kernel_rfl) rfl ?_
        refine WL_lit (vs := [_]) (qs := [(0, .bool _)]) [.bool false] [0] hI rfl rfl rfl rfl rfl rfl Try.underlying66 (fun _ => by kernel_rfl) ?_
        clear hI; rintro b82 w - - hI
        refine WL_nil ⟨hXS _ hI.d0.d0, ?_⟩
        refine WT_one 17 rfl (by kernel_rfl) rfl ?_
        first | refine WL_app1 (z := .bool false) (by_ := 1) hI rfl rfl rfl rfl rfl rfl Try.underlying66 (by kernel_rfl) rfl (by omega) (by rfl) hI.lit0 (by first | rfl | simp [i64s, Value.oneCell']) (by omega) (by omega) (by first | exact Nat.zero_le _ | (have := hI.chg.size; omega)) ?_ | refine WL_app2 (z := .bool false) (by_ := 1) hI rfl rfl rfl rfl rfl rfl Try.underlying66 (by kernel_rfl) rfl (by omega) (by rfl) hI.lit0 (by first | rfl | simp [i64s, Value.oneCell']) (by omega) (by omega) (by first | exact Nat.zero_le _ | (have := hI.chg.size; omega)) ?_ | refine WL_app3 (z := .bool false) (by_ := 1) hI rfl rfl rfl rfl rfl rfl Try.underlying66 (by kernel_rfl) rfl (by omega) (by rfl) hI.lit0 (by first | rfl | simp [i64s, Value.oneCell']) (by omega) (by omega) (by first | exact Nat.zero_le _ | (have := hI.chg.size; omega)) ?_ | refine WL_app4 (z := .bool false) (by_ := 1) hI rfl rfl rfl rfl rfl rfl Try.underlying66 (by kernel_rfl) rfl (by omega) (by rfl) hI.lit0 (by first | rfl | simp [i64s, Value.oneCell']) (by omega) (by omega) (by first | exact Nat.zero_le _ | (have := hI.chg.size; omega)) ?_ | refine WL_app5 (z := .bool false) (by_ := 1) hI rfl rfl rfl rfl rfl rfl Try.underlying66 (by kernel_rfl) rfl (by omega) (by rfl) hI.lit0 (by first | rfl | simp [i64s, Value.oneCell']) (by omega) (by omega) (by first | exact Nat.zero_le _ | (have := hI.chg.size; omega)) ?_
        clear hI; rintro A83 c83 w hA83 hc83 hI
        replace hI := hI.d0
        refine WL_nil ⟨hXS _ hI.d0, ?_⟩
        refine WT_take 18 rfl rfl (by kernel_rfl) (hXS _ hI.d0) rfl (fun W hW => have hI := hSx W hW; (by first | exact rIdx0 rfl Try.underlying55 (by kernel_rfl) rfl rfl rfl (by omega) | exact rIdx1 rfl Try.underlying55 (by kernel_rfl) rfl rfl (by omega))) ?_
        refine WT_A (by kernel_rfl) ?_
        clear hXS hSx
        refine WA_one 19 rfl (by kernel_rfl) ?_
        refine WL_st1 (u := .slice A83 (b + 1) c83) (j := a) hI rfl rfl rfl rfl rfl rfl (by kernel_rfl) rfl (mid_blt hdl) (mid_set hdl) ?_
        clear hI; intro w hI
        refine WL_nil ?_
        refine WA_end (by kernel_rfl) ?_
        have e := hbools false
        exact ⟨false, A83, c83, ⟨rfl, rfl, rfl, rfl, rfl, rfl, rfl, rfl, rfl, rfl, trivial⟩, by rw [← e]; exact hI⟩
    · clear hI
      rintro ρ w ⟨r, A', c', hH, hI⟩
      obtain ⟨σ, rfl⟩ := hH.open
      refine W_region ?_
      refine WL_val rfl rfl rfl (by first | exact rInc rfl rfl rfl (by omega) | exact rAdd rfl rfl rfl (by omega) | exact rAddW rfl rfl rfl) ?_
      refine WL_val rfl rfl rfl (by first | exact rMoveI rfl rfl | exact rMove rfl) ?_
      refine WL_nil ?_
      exact ⟨⟨b + 1, l ++ [r], A', c', by omega, by simp [hll], ⟨rfl, rfl, rfl, rfl, rfl, rfl, rfl, rfl, rfl, rfl, trivial⟩, hI⟩, by show N - ((b + 1 : Nat) : Int).toNat < N - (b : Int).toNat; omega⟩
  clear hI
  rintro ρ w ⟨done, E, hdl, hH, hI⟩
  obtain ⟨σ, rfl⟩ := hH.open
  rw [Nat.sub_self, List.replicate_zero, List.append_nil] at hI
  replace hI := hI.u0 (e' := Row 0 66 1 (some ⟨b46, 0, none⟩) N N done.toArray.toList) (Chg.refl _ _) (Row.of_blk hI.g0 (Nat.zero_le _) (by simp [hdl]) (by omega)) (fun k hk => .inl (by have : some b46 = some k := hk; injection this with this; exact this.symm))
  replace hI := ((hI.pull 4 rfl).pull 4 rfl).pull 4 rfl
  replace hI : Inv S w0 w ([B b2 30 #[.pointer (some ⟨L.sb, 0, none⟩)], Row 0 66 1 (some ⟨g, 0, none⟩) s.n s.n vals, RowsE vals D] ++ ([Row 0 66 1 (some ⟨b46, 0, none⟩) N N done, RowsE done E] ++ spt L s)) := hI
  refine W_seq ?_
  refine W_region ?_
  refine WL_val rfl rfl rfl (by first | exact rLd (v := .pointer _) rfl (by kernel_rfl) rfl (by first | exact hI.c0 rfl) | exact rLd rfl (by kernel_rfl) rfl (by first | exact hI.c0 rfl)) ?_
  refine WL_val rfl rfl rfl (rNilChk rfl rfl) ?_
  refine WL_val rfl rfl rfl (by first | exact rFldN (off := 7) rfl (by kernel_rfl) rfl | exact rFld (off := 7) rfl (by kernel_rfl) rfl) ?_
  refine WL_val rfl rfl rfl (by first | exact rMoveS rfl rfl | exact rMove rfl) ?_
  refine WL_call rfl rfl rfl (rCall (vs := [.pointer _, .slice _ _ _]) rfl Try.func37 rfl rfl rfl) ?_
  refine (ncut_any L s (some ⟨b46, 0, none⟩) N N done E (by omega) hdl (DLs _) _ (hI.fromB (X := [_, _, _]))).mono ?_
  rintro en w1 ⟨rfl, LA, ln, lc, cut, lv, LD, hJ⟩
  refine ⟨_, rfl, ?_⟩
  replace hI := hI.callB (X := [_, _, _]) hJ
  refine WL_nil ?_
  refine W_seq ?_
  refine W_region ?_
  refine WL_val rfl rfl rfl (by first | exact rAsgnN rfl rfl | exact rAsgnE rfl rfl | exact rAsgn rfl) ?_
  refine WL_nil ?_
  refine W_ret ?_
  exact ret1 4 (.inr rfl) rfl ⟨⟨_, rfl⟩, { L with LA := LA, ln := ln, lc := lc, cut := cut, lv := lv, LD := LD }, rfl, rfl, hI.d0.d0.d0.d0.d0⟩
end Go.Proofs.Ytglioflpblpmpaa
