/- model: line, Step. -/
import Derived.Test.YtijgkocolajghaaDoorMod3
namespace Go.Proofs.YtijgkocolajghaaDoor
open Go.RowKit
set_option linter.unusedVariables false
set_option linter.unusedSimpArgs false
theorem i64s_app (l : List Int) (a : Int) : i64s (l ++ [a]) = i64s l ++ [.int .i64 a] := by simp [i64s]
theorem Rd_tail {w : World} {g o c : Nat} {l : List Int} (h : Rd w (fun _ => True) 1 (.slice (some ⟨g, o, none⟩) l.length c) l.length (i64s l)) (h2 : 2 ≤ l.length) : Rd w (fun _ => True) 1 (.slice (some ⟨g, o + 1 * 1, none⟩) (l.drop 1).length (c - 1)) (l.drop 1).length (i64s (l.drop 1)) := by
  obtain ⟨A1, c1, hv, hnc, hcm, hlen, hcell⟩ := h
  injection hv with e1 e2 e3
  subst e1 e3
  obtain ⟨b, o', hbo, _, hcl⟩ := hcell (by omega)
  injection hbo with hbo
  injection hbo with e4 e5
  subst e4 e5
  refine ⟨_, _, rfl, by simp; omega, by omega, by simp [i64s], fun _ => ⟨g, o + 1 * 1, rfl, trivial, fun j u hj => ?_⟩⟩
  have : (i64s l)[1 + j]? = some u := by rw [← hj]; simp [i64s, List.getElem?_drop, Nat.add_comm]
  have := hcl (1 + j) u this
  rwa [Nat.mul_one, Nat.add_assoc]
theorem Rd_none {w : World} {A : Option Addr} {c : Nat} (hc : c ≤ 9223372036854775807) : Rd w (fun _ => True) 1 (.slice A ([] : List Int).length c) ([] : List Int).length (i64s []) :=
  ⟨A, c, rfl, Nat.zero_le _, hc, rfl, fun h => absurd h (Nat.lt_irrefl 0)⟩
set_option maxHeartbeats 2000000 in
theorem line_any (o : Int) (A : Option Addr) (c : Nat) (l : List Int) (k a : Int) (w0 : World) (h : (StE A c l).ok w0) (hb : l.length ≤ 100000) :
    Calls Tryd.prog 52 #[.int .i64 o, .slice A l.length c, .int .i64 k, .int .i64 a] w0 fun en w' => ∃ A' c', en = .returned (.tuple #[.slice A' (lineF o l k a).1.length c', .int .i64 (lineF o l k a).2]) ∧ Inv (StE A c l).D w0 w' [StE A' c' (lineF o l k a).1] := by
  have hI := Inv.ownE h
  refine calls_of_W (N := Tryd.f52.ntmps) Tryd.func52 rfl rfl rfl ?_
  refine W_seq ?_
  refine W_region ?_
  refine WL_val rfl rfl rfl (by first | exact rAsgnS rfl rfl | exact rAsgn rfl) ?_
  refine WL_val rfl rfl rfl (by first | exact rAsgnI rfl rfl | exact rAsgn rfl) ?_
  refine WL_nil ?_
  rcases Nat.eq_zero_or_pos l.length with h00 | h00
  · have hl : l = [] := List.eq_nil_of_length_eq_zero h00
    subst hl
    refine W_seq ?_
    refine W_region ?_
    refine WL_val rfl rfl rfl (by first | exact rMoveS rfl rfl | exact rMove rfl) ?_
    refine WL_val rfl rfl rfl (rLen rfl Tryd.underlying28 rfl) ?_
    refine WL_val rfl rfl rfl (by first | exact rSub rfl rfl rfl (by omega) | exact rSubW rfl rfl rfl) ?_
    refine WL_val rfl rfl rfl (by first | exact rAsgnI rfl rfl | exact rAsgn rfl) ?_
    refine WL_nil ?_
    refine W_seq ?_
    refine W_block ?_
    by_cases k9 : k = 9
    · have e : lineF o [] k a = ([] ++ [a], 0) := by unfold lineF; rw [if_pos k9]
      refine W_seq ?_
      refine W_region ?_
      refine WL_val rfl rfl rfl (by first | exact rMoveI rfl rfl | exact rMove rfl) ?_
      refine WL_val rfl rfl rfl (by first | exact rEqlT rfl rfl rfl (by omega) | exact rEqlF rfl rfl rfl (by omega) | exact rEql rfl rfl rfl) ?_
      refine WL_val rfl rfl rfl (by first | exact rAsgnB rfl rfl | exact rAsgn rfl) ?_
      refine WL_nil ?_
      refine W_cond true rfl ?_
      refine W_seq ?_
      refine W_region ?_
      refine WL_val rfl rfl rfl (by first | exact rMoveS rfl rfl | exact rMove rfl) ?_
      refine WL_val rfl rfl rfl (by first | exact rMoveI rfl rfl | exact rMove rfl) ?_
      refine WL_lit (vs := [_]) (qs := [(0, .int .i64 _)]) [.int .i64 0] [0] hI rfl rfl rfl rfl rfl rfl Tryd.underlying28 (fun _ => by kernel_rfl) ?_
      clear hI; rintro b19 w - - hI
      first | refine WL_app1 (z := .int .i64 0) (by_ := 8) hI rfl rfl rfl rfl rfl rfl Tryd.underlying28 (by kernel_rfl) rfl (by omega) (by rfl) hI.lit0 (by first | rfl | simp [i64s, Value.oneCell']) (by omega) (by omega) (by first | exact Nat.zero_le _ | (have := hI.chg.size; omega)) ?_
      clear hI; rintro A20 c20 w hA20 hc20 hI
      replace hI := hI.d0
      refine WL_val rfl rfl rfl (by first | exact rAsgnS rfl rfl | exact rAsgn rfl) ?_
      refine WL_val rfl rfl rfl (by first | exact rAsgnI rfl rfl | exact rAsgn rfl) ?_
      refine WL_nil ?_
      refine W_ret ?_
      refine ret2 8 9 (.inr rfl) rfl ⟨A20, c20, ?_, ?_⟩
      · rw [e]; rfl
      · rw [e]; exact hI
    refine W_seq ?_
    refine W_region ?_
    refine WL_val rfl rfl rfl (by first | exact rMoveI rfl rfl | exact rMove rfl) ?_
    refine WL_val rfl rfl rfl (by first | exact rEqlT rfl rfl rfl (by omega) | exact rEqlF rfl rfl rfl (by omega) | exact rEql rfl rfl rfl) ?_
    refine WL_val rfl rfl rfl (by first | exact rAsgnB rfl rfl | exact rAsgn rfl) ?_
    refine WL_nil ?_
    refine W_cond false rfl ?_
    have e : lineF o [] k a = ([], -1) := by unfold lineF; rw [if_neg k9, if_pos rfl]
    refine W_seq ?_
    refine W_region ?_
    refine WL_val rfl rfl rfl (by first | exact rMoveI rfl rfl | exact rMove rfl) ?_
    refine WL_val rfl rfl rfl (by first | exact rLssT rfl rfl rfl (by omega) | exact rLssF rfl rfl rfl (by omega) | exact rLss rfl rfl rfl) ?_
    refine WL_val rfl rfl rfl (by first | exact rAsgnB rfl rfl | exact rAsgn rfl) ?_
    refine WL_nil ?_
    refine W_cond true rfl ?_
    refine W_seq ?_
    refine W_region ?_
    refine WL_val rfl rfl rfl (by first | exact rMoveS rfl rfl | exact rMove rfl) ?_
    refine WL_val rfl rfl rfl (by first | exact rAsgnS rfl rfl | exact rAsgn rfl) ?_
    refine WL_val rfl rfl rfl (by first | exact rAsgnI rfl rfl | exact rAsgn rfl) ?_
    refine WL_nil ?_
    refine W_ret ?_
    exact ret2 8 9 (.inr rfl) rfl ⟨A, c, by rw [e]; rfl, by rw [e]; exact hI⟩
  refine W_seq ?_
  refine W_region ?_
  refine WL_val rfl rfl rfl (by first | exact rMoveS rfl rfl | exact rMove rfl) ?_
  refine WL_val rfl rfl rfl (rLen rfl Tryd.underlying28 rfl) ?_
  refine WL_val rfl rfl rfl (rDecN (b := 1) rfl rfl rfl (by omega) (by omega)) ?_
  refine WL_val rfl rfl rfl (by first | exact rAsgnI rfl rfl | exact rAsgn rfl) ?_
  refine WL_nil ?_
  refine W_seq ?_
  refine W_block ?_
  by_cases k9 : k = 9
  · have e : lineF o l k a = (l ++ [a], 0) := by unfold lineF; rw [if_pos k9]
    refine W_seq ?_
    refine W_region ?_
    refine WL_val rfl rfl rfl (by first | exact rMoveI rfl rfl | exact rMove rfl) ?_
    refine WL_val rfl rfl rfl (by first | exact rEqlT rfl rfl rfl (by omega) | exact rEqlF rfl rfl rfl (by omega) | exact rEql rfl rfl rfl) ?_
    refine WL_val rfl rfl rfl (by first | exact rAsgnB rfl rfl | exact rAsgn rfl) ?_
    refine WL_nil ?_
    refine W_cond true rfl ?_
    refine W_seq ?_
    refine W_region ?_
    refine WL_val rfl rfl rfl (by first | exact rMoveS rfl rfl | exact rMove rfl) ?_
    refine WL_val rfl rfl rfl (by first | exact rMoveI rfl rfl | exact rMove rfl) ?_
    refine WL_lit (vs := [_]) (qs := [(0, .int .i64 _)]) [.int .i64 0] [0] hI rfl rfl rfl rfl rfl rfl Tryd.underlying28 (fun _ => by kernel_rfl) ?_
    clear hI; rintro b19 w - - hI
    first | refine WL_app1 (z := .int .i64 0) (by_ := 8) hI rfl rfl rfl rfl rfl rfl Tryd.underlying28 (by kernel_rfl) rfl (by omega) (by rfl) hI.lit0 (by first | rfl | simp [i64s, Value.oneCell']) (by omega) (by omega) (by first | exact Nat.zero_le _ | (have := hI.chg.size; omega)) ?_
    clear hI; rintro A20 c20 w hA20 hc20 hI
    replace hI := hI.d0
    refine WL_val rfl rfl rfl (by first | exact rAsgnS rfl rfl | exact rAsgn rfl) ?_
    refine WL_val rfl rfl rfl (by first | exact rAsgnI rfl rfl | exact rAsgn rfl) ?_
    refine WL_nil ?_
    refine W_ret ?_
    refine ret2 8 9 (.inr rfl) rfl ⟨A20, c20, ?_, ?_⟩
    · rw [e]; simp only [List.length_append, List.length_cons, List.length_nil, Nat.zero_add]; rfl
    · rw [e]
      have h' : Inv (StE A c l).D w0 w [Row 0 3 1 A20 (l.length + 1) c20 (i64s l ++ [.int .i64 a])] := hI
      rw [← i64s_app] at h'
      simpa [StE] using h'
  refine W_seq ?_
  refine W_region ?_
  refine WL_val rfl rfl rfl (by first | exact rMoveI rfl rfl | exact rMove rfl) ?_
  refine WL_val rfl rfl rfl (by first | exact rEqlT rfl rfl rfl (by omega) | exact rEqlF rfl rfl rfl (by omega) | exact rEql rfl rfl rfl) ?_
  refine WL_val rfl rfl rfl (by first | exact rAsgnB rfl rfl | exact rAsgn rfl) ?_
  refine WL_nil ?_
  refine W_cond false rfl ?_
  have h0 := h00
  have hne : l ≠ [] := fun e => by subst e; simp at h0
  obtain ⟨g, og, rfl⟩ := row_addrS h.1 h0 (by omega)
  have hcap : l.length ≤ c ∧ c ≤ 9223372036854775807 := by
    rcases row_open h.1 with ⟨hA, _⟩ | ⟨_, _, _, _, h1, h2, _⟩
    · cases hA
    · exact ⟨h1, h2⟩
  refine W_seq ?_
  refine W_region ?_
  refine WL_val rfl rfl rfl (by first | exact rMoveI rfl rfl | exact rMove rfl) ?_
  refine WL_val rfl rfl rfl (by first | exact rLssT rfl rfl rfl (by omega) | exact rLssF rfl rfl rfl (by omega) | exact rLss rfl rfl rfl) ?_
  refine WL_val rfl rfl rfl (by first | exact rAsgnB rfl rfl | exact rAsgn rfl) ?_
  refine WL_nil ?_
  refine W_cond false rfl ?_
  have c0 : (i64s l)[0]? = some (.int .i64 (l.getD 0 0)) := by simp [i64s, List.getD, List.getElem?_eq_getElem h0]
  have c1 : (i64s l)[l.length - 1]? = some (.int .i64 (l.getD (l.length - 1) 0)) := by simp [i64s, List.getD, List.getElem?_eq_getElem (show l.length - 1 < l.length by omega)]
  by_cases ho : o = 4
  · have e : lineF o l k a = (l.drop 1, l.getD 0 0) := by unfold lineF; rw [if_neg k9, if_neg hne, if_pos ho]
    have hld : (l.drop 1).length = l.length - 1 := by simp
    refine W_seq ?_
    refine W_region ?_
    refine WL_val rfl rfl rfl (by first | exact rMoveI rfl rfl | exact rMove rfl) ?_
    refine WL_val rfl rfl rfl (by first | exact rEqlT rfl rfl rfl (by omega) | exact rEqlF rfl rfl rfl (by omega) | exact rEql rfl rfl rfl) ?_
    refine WL_val rfl rfl rfl (by first | exact rAsgnB rfl rfl | exact rAsgn rfl) ?_
    refine WL_nil ?_
    refine W_cond true rfl ?_
    rcases Nat.lt_or_ge 1 l.length with h2 | h2
    · refine W_seq ?_
      refine W_draw (by kernel_rfl) ?_
      refine WA_inv (T := []) hI.drew ?_
      intro Sx hSx hXS
      replace hI := hI.drew
      refine WT_take 0 rfl rfl (by kernel_rfl) (hXS _ hI) rfl (fun W hW => have hI := hSx W hW; (by first | exact rMoveS rfl rfl | exact rMove rfl)) ?_
      refine WT_take 1 rfl rfl (by kernel_rfl) (hXS _ hI) rfl (fun W hW => have hI := hSx W hW; (by first | exact rSliceFrom (sz := 1) (i := 1) rfl Tryd.underlying28 (by kernel_rfl) rfl rfl (by omega) (by omega) | exact rSliceFromG (sz := 1) (i := 1) rfl Tryd.underlying28 (by kernel_rfl) rfl rfl (by omega))) ?_
      refine WT_take 3 rfl rfl (by kernel_rfl) (hXS _ hI) rfl (fun W hW => have hI := hSx W hW; (by first | exact rMoveS rfl rfl | exact rMove rfl)) ?_
      refine WT_take 4 rfl rfl (by kernel_rfl) (hXS _ hI) rfl (fun W hW => have hI := hSx W hW; (by first | exact rIdx0 (i := 0) rfl Tryd.underlying28 (by kernel_rfl) rfl rfl rfl (by omega) | exact rIdx1 (i := 0) rfl Tryd.underlying28 (by kernel_rfl) rfl rfl (by omega))) ?_
      refine WT_take 5 rfl rfl (by kernel_rfl) (hXS _ hI) rfl (fun W hW => have hI := hSx W hW; (by first | exact rLd (v := .int .i64 _) rfl (by kernel_rfl) rfl (by first | exact (row_cellS hI.g0 c0 h0)) | exact rLd rfl (by kernel_rfl) rfl (by first | exact (row_cellS hI.g0 c0 h0)))) ?_
      refine WT_one 2 rfl (by kernel_rfl) rfl ?_
      refine WL_call rfl rfl rfl (rCall (vs := [.slice _ _ _]) rfl Tryd.func50 rfl rfl rfl) ?_
      rw [← hld]
      refine (clone_any _ (c - 1) (l.drop 1) _ _ (Rd_tail (Row_rd hI.g0) h2) (by omega)).mono ?_
      rintro e1 w1 ⟨A', c', rfl, hT⟩
      refine ⟨_, rfl, ?_⟩
      replace hI := hI.app1 hT
      refine WL_nil ⟨hXS _ hI.d0, ?_⟩
      refine WT_take 6 rfl rfl (by kernel_rfl) (hXS _ hI.d0) rfl (fun W hW => have hI := hSx W hW; (by first | exact rAsgnS rfl rfl | exact rAsgn rfl)) ?_
      refine WT_take 7 rfl rfl (by kernel_rfl) (hXS _ hI.d0) rfl (fun W hW => have hI := hSx W hW; (by first | exact rAsgnI rfl rfl | exact rAsgn rfl)) ?_
      refine WT_end (by kernel_rfl) ?_
      refine W_ret ?_
      refine ret2 8 9 (.inr rfl) rfl ⟨A', c', by rw [e]; rfl, by rw [e]; exact hI.d1⟩
    · have hd0 : l.drop 1 = [] := List.drop_eq_nil_of_le h2
      refine W_seq ?_
      refine W_draw (by kernel_rfl) ?_
      refine WA_inv (T := []) hI.drew ?_
      intro Sx hSx hXS
      replace hI := hI.drew
      refine WT_take 0 rfl rfl (by kernel_rfl) (hXS _ hI) rfl (fun W hW => have hI := hSx W hW; (by first | exact rMoveS rfl rfl | exact rMove rfl)) ?_
      refine WT_take 1 rfl rfl (by kernel_rfl) (hXS _ hI) rfl (fun W hW => have hI := hSx W hW; (rSliceFromG (sz := 1) (i := 1) rfl Tryd.underlying28 (by kernel_rfl) rfl rfl (by omega))) ?_
      refine WT_take 3 rfl rfl (by kernel_rfl) (hXS _ hI) rfl (fun W hW => have hI := hSx W hW; (by first | exact rMoveS rfl rfl | exact rMove rfl)) ?_
      refine WT_take 4 rfl rfl (by kernel_rfl) (hXS _ hI) rfl (fun W hW => have hI := hSx W hW; (by first | exact rIdx0 (i := 0) rfl Tryd.underlying28 (by kernel_rfl) rfl rfl rfl (by omega) | exact rIdx1 (i := 0) rfl Tryd.underlying28 (by kernel_rfl) rfl rfl (by omega))) ?_
      refine WT_take 5 rfl rfl (by kernel_rfl) (hXS _ hI) rfl (fun W hW => have hI := hSx W hW; (by first | exact rLd (v := .int .i64 _) rfl (by kernel_rfl) rfl (by first | exact (row_cellS hI.g0 c0 h0)) | exact rLd rfl (by kernel_rfl) rfl (by first | exact (row_cellS hI.g0 c0 h0)))) ?_
      refine WT_one 2 rfl (by kernel_rfl) rfl ?_
      refine WL_call rfl rfl rfl (rCall (vs := [.slice _ _ _]) rfl Tryd.func50 rfl rfl rfl) ?_
      rw [show l.length - 1 = ([] : List Int).length from by simp; omega]
      refine (clone_any _ (c - 1) [] _ _ (Rd_none (by omega)) (by simp)).mono ?_
      rintro e1 w1 ⟨A', c', rfl, hT⟩
      refine ⟨_, rfl, ?_⟩
      replace hI := hI.app1 hT
      refine WL_nil ⟨hXS _ hI.d0, ?_⟩
      refine WT_take 6 rfl rfl (by kernel_rfl) (hXS _ hI.d0) rfl (fun W hW => have hI := hSx W hW; (by first | exact rAsgnS rfl rfl | exact rAsgn rfl)) ?_
      refine WT_take 7 rfl rfl (by kernel_rfl) (hXS _ hI.d0) rfl (fun W hW => have hI := hSx W hW; (by first | exact rAsgnI rfl rfl | exact rAsgn rfl)) ?_
      refine WT_end (by kernel_rfl) ?_
      refine W_ret ?_
      refine ret2 8 9 (.inr rfl) rfl ⟨A', c', by rw [e, hd0]; rfl, by rw [e, hd0]; exact hI.d1⟩
  have e : lineF o l k a = (l.take (l.length - 1), l.getD (l.length - 1) 0) := by unfold lineF; rw [if_neg k9, if_neg hne, if_neg ho]
  refine W_seq ?_
  refine W_region ?_
  refine WL_val rfl rfl rfl (by first | exact rMoveI rfl rfl | exact rMove rfl) ?_
  refine WL_val rfl rfl rfl (by first | exact rEqlT rfl rfl rfl (by omega) | exact rEqlF rfl rfl rfl (by omega) | exact rEql rfl rfl rfl) ?_
  refine WL_val rfl rfl rfl (by first | exact rAsgnB rfl rfl | exact rAsgn rfl) ?_
  refine WL_nil ?_
  refine W_cond false rfl ?_
  refine W_skip ?_
  refine W_seq ?_
  refine W_draw (by kernel_rfl) ?_
  refine WA_inv (T := []) hI.drew ?_
  intro Sx hSx hXS
  replace hI := hI.drew
  refine WT_take 0 rfl rfl (by kernel_rfl) (hXS _ hI) rfl (fun W hW => have hI := hSx W hW; (by first | exact rMoveS rfl rfl | exact rMove rfl)) ?_
  refine WT_take 1 rfl rfl (by kernel_rfl) (hXS _ hI) rfl (fun W hW => have hI := hSx W hW; (by first | exact rMoveI rfl rfl | exact rMove rfl)) ?_
  refine WT_take 2 rfl rfl (by kernel_rfl) (hXS _ hI) rfl (fun W hW => have hI := hSx W hW; (rSliceTo (sz := 1) (i := l.length - 1) rfl Tryd.underlying28 (by kernel_rfl) rfl rfl (by omega))) ?_
  refine WT_take 3 rfl rfl (by kernel_rfl) (hXS _ hI) rfl (fun W hW => have hI := hSx W hW; (by first | exact rMoveS rfl rfl | exact rMove rfl)) ?_
  refine WT_take 4 rfl rfl (by kernel_rfl) (hXS _ hI) rfl (fun W hW => have hI := hSx W hW; (by first | exact rMoveI rfl rfl | exact rMove rfl)) ?_
  refine WT_take 5 rfl rfl (by kernel_rfl) (hXS _ hI) rfl (fun W hW => have hI := hSx W hW; (by first | exact rIdx0 rfl Tryd.underlying28 (by kernel_rfl) rfl rfl rfl (by omega) | exact rIdx1 rfl Tryd.underlying28 (by kernel_rfl) rfl rfl (by omega))) ?_
  refine WT_take 6 rfl rfl (by kernel_rfl) (hXS _ hI) rfl (fun W hW => have hI := hSx W hW; (by first | exact rLd (v := .int .i64 _) rfl (by kernel_rfl) rfl (by first | exact (row_cellS hI.g0 c1 h0)) | exact rLd rfl (by kernel_rfl) rfl (by first | exact (row_cellS hI.g0 c1 h0)))) ?_
  refine WT_take 7 rfl rfl (by kernel_rfl) (hXS _ hI) rfl (fun W hW => have hI := hSx W hW; (by first | exact rAsgnS rfl rfl | exact rAsgn rfl)) ?_
  refine WT_take 8 rfl rfl (by kernel_rfl) (hXS _ hI) rfl (fun W hW => have hI := hSx W hW; (by first | exact rAsgnI rfl rfl | exact rAsgn rfl)) ?_
  refine WT_end (by kernel_rfl) ?_
  refine W_ret ?_
  refine ret2 8 9 (.inr rfl) rfl ⟨some ⟨g, og, none⟩, c, ?_, ?_⟩
  · rw [e]
    have hl : (l.take (l.length - 1)).length = l.length - 1 := by simp
    rw [hl]; rfl
  · rw [e]
    exact hI.u0 (e' := StE (some ⟨g, og, none⟩) c (l.take (l.length - 1))) (Chg.refl _ _) (Row_part (hI.ok _ (by simp)) _ (by omega)) (fun k hk => .inl hk)
end Go.Proofs.YtijgkocolajghaaDoor
