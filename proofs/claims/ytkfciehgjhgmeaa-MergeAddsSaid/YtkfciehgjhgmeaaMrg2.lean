/- merge: Count.Join. -/
import Derived.Test.YtkfciehgjhgmeaaSxA
import Derived.Test.YtkfciehgjhgmeaaMrg1
namespace Go.Proofs.Ytkfciehgjhgmeaa
open Go.RowKit
set_option linter.unusedVariables false
set_option linter.unusedSimpArgs false

def jk (l m : List Int) (k : Nat) : List Int := (List.range 14).map fun i => if i % 7 < k then max (l.getD i 0) (m.getD i 0) else l.getD i 0
theorem jk_len (l m : List Int) (k : Nat) : (jk l m k).length = 14 := by simp [jk]
theorem jk_get {l m : List Int} {k i : Nat} (h : i < 14) : (jk l m k).getD i 0 = if i % 7 < k then max (l.getD i 0) (m.getD i 0) else l.getD i 0 := by
  simp [jk, List.getD, h]
theorem jk_zero {l m : List Int} (hl : l.length = 14) : jk l m 0 = l := by
  refine List.ext_getElem (by rw [jk_len, hl]) (fun i h1 h2 => ?_)
  simp [jk, List.getD, List.getElem?_eq_getElem h2]
theorem jk_set {l m : List Int} {k : Nat} (hk : k < 7) : ((jk l m k).set k (max (l.getD k 0) (m.getD k 0))).set (7 + k) (max (l.getD (7 + k) 0) (m.getD (7 + k) 0)) = jk l m (k + 1) := by
  refine List.ext_getElem (by simp [jk]) (fun i h1 h2 => ?_)
  have hi : i < 14 := by simpa [jk] using h2
  simp only [List.getElem_set, jk, List.getElem_map, List.getElem_range]
  by_cases e1 : 7 + k = i
  · subst e1
    rw [if_pos rfl, if_pos (by omega)]
  · rw [if_neg e1]
    by_cases e2 : k = i
    · subst e2
      rw [if_pos rfl, if_pos (by omega)]
    · rw [if_neg e2]
      by_cases e3 : i % 7 < k
      · rw [if_pos e3, if_pos (by omega)]
      · rw [if_neg e3, if_neg (by omega)]
def joinC (l m : List Int) : List Int := jk l m 7
theorem i64s_get {l : List Int} {i : Nat} (h : i < l.length) : (i64s l).toArray[i]? = some (.int .i64 (l.getD i 0)) := by
  simp [i64s, List.getD, List.getElem?_eq_getElem h]
theorem c_at {w : World} {b k : Nat} {v : Value} (h : w.cell? ⟨b, k, none⟩ = some v) : w.cell? ⟨b, 0 + k * 1, none⟩ = some v := by simpa using h
theorem c_at7 {w : World} {b k : Nat} {v : Value} (h : w.cell? ⟨b, 7 + k, none⟩ = some v) : w.cell? ⟨b, 7 + k * 1, none⟩ = some v := by simpa using h
theorem st_two {l m : List Int} {k : Nat} (hk : k < 7) : ((i64s (jk l m k)).toArray.setIfInBounds (0 + k * 1) (.int .i64 (max (l.getD k 0) (m.getD k 0)))).setIfInBounds (7 + k * 1) (.int .i64 (max (l.getD (7 + k) 0) (m.getD (7 + k) 0))) = (i64s (jk l m (k + 1))).toArray := by
  rw [← jk_set hk]
  simp [i64s, List.map_set]
set_option maxHeartbeats 1000000 in
theorem join_any (l m : List Int) (w0 : World) (hl : l.length = 14) (hm : m.length = 14) : Calls Try.prog 19 #[.agg (i64s l).toArray, .agg (i64s m).toArray] w0 fun en w' => en = .returned (.agg (i64s (joinC l m)).toArray) ∧ Pure w0 w' := by
  have hI := Inv.start (fun _ => False) w0
  refine calls_of_W (N := Try.f19.ntmps) Try.func19 rfl rfl rfl ?_
  refine W_seq ?_
  refine W_region ?_
  refine WL_box (u := .agg _) (vs := _) hI rfl rfl rfl rfl rfl rfl ?_
  clear hI; rintro b2 w - - hI
  refine WL_box (u := .agg _) (vs := _) hI rfl rfl rfl rfl rfl rfl ?_
  clear hI; rintro b3 w - - hI
  refine WL_alloc (u := .agg #[.int .i64 0, .int .i64 0, .int .i64 0, .int .i64 0, .int .i64 0, .int .i64 0, .int .i64 0, .int .i64 0, .int .i64 0, .int .i64 0, .int .i64 0, .int .i64 0, .int .i64 0, .int .i64 0]) (vs := #[.int .i64 0, .int .i64 0, .int .i64 0, .int .i64 0, .int .i64 0, .int .i64 0, .int .i64 0, .int .i64 0, .int .i64 0, .int .i64 0, .int .i64 0, .int .i64 0, .int .i64 0, .int .i64 0]) hI rfl rfl rfl rfl (by kernel_rfl) rfl ?_
  clear hI; rintro b4 w - - hI
  refine WL_nil ?_
  refine W_seq ?_
  refine W_seq ?_
  refine W_region ?_
  refine WL_val rfl rfl rfl (by first | exact rMoveI rfl rfl | exact rMove rfl) ?_
  refine WL_nil ?_
  refine W_block ?_
  refine W_loop (fun ρ w => ∃ k : Nat, k ≤ 7 ∧ Has ρ [(6, .int .i64 k), (2, .pointer (some ⟨b2, 0, none⟩)), (3, .pointer (some ⟨b3, 0, none⟩)), (4, .pointer (some ⟨b4, 0, none⟩))] ∧ Inv (fun _ => False) w0 w [B b4 29 (rep (.int .i64 0) 14), B b3 29 (i64s m).toArray, B b2 29 (i64s (jk l m k)).toArray]) (fun ρ _ => 7 - cnt (ρ 6))
    ⟨0, by omega, ⟨rfl, rfl, rfl, rfl, trivial⟩, by rw [jk_zero hl]; exact hI⟩ ?_
  clear hI
  rintro ρ w ⟨k, hk, hH, hI⟩
  obtain ⟨σ, rfl⟩ := hH.open
  by_cases hk7 : k < 7
  · have u1 := i64s_get (l := jk l m k) (i := k) (by rw [jk_len]; omega)
    have u2 := i64s_get (l := jk l m k) (i := 7 + k) (by rw [jk_len]; omega)
    have u3 := i64s_get (l := m) (i := k) (by omega)
    have u4 := i64s_get (l := m) (i := 7 + k) (by omega)
    rw [jk_get (by omega), if_neg (by omega)] at u1 u2
    refine W_seq ?_
    refine W_region ?_
    refine WL_val rfl rfl rfl (by first | exact rLssT rfl rfl rfl (by omega) | exact rLssF rfl rfl rfl (by omega) | exact rLss rfl rfl rfl) ?_
    refine WL_nil ?_
    refine W_seq ?_
    refine W_cond true rfl ?_
    refine W_skip ?_
    refine W_seq ?_
    refine W_block ?_
    refine W_seq ?_
    refine W_region ?_
    refine WL_val rfl rfl rfl (by first | exact rMoveI rfl rfl | exact rMove rfl) ?_
    refine WL_val rfl rfl rfl (by first | exact rAsgnI rfl rfl | exact rAsgn rfl) ?_
    refine WL_nil ?_
    refine W_draw (by kernel_rfl) ?_
    refine WA_inv (T := [25]) hI.d2.drew ?_
    intro Sx hSx hXS
    replace hI := hI.drew
    refine WT_take 0 rfl rfl (by kernel_rfl) (hXS _ hI.d2) rfl (fun W hW => have hI := hSx W hW; (by first | exact rMoveI rfl rfl | exact rMove rfl)) ?_
    refine WT_take 1 rfl rfl (by kernel_rfl) (hXS _ hI.d2) rfl (fun W hW => have hI := hSx W hW; (by first | exact rMoveI rfl rfl | exact rMove rfl)) ?_
    refine WT_take 2 rfl rfl (by kernel_rfl) (hXS _ hI.d2) rfl (fun W hW => have hI := hSx W hW; (by first | exact rMoveI rfl rfl | exact rMove rfl)) ?_
    refine WT_take 3 rfl rfl (by kernel_rfl) (hXS _ hI.d2) rfl (fun W hW => have hI := hSx W hW; (by first | exact rFldN (off := 0) rfl (by kernel_rfl) rfl | exact rFld0 rfl (by kernel_rfl) rfl)) ?_
    refine WT_take 4 rfl rfl (by kernel_rfl) (hXS _ hI.d2) rfl (fun W hW => have hI := hSx W hW; (rIdxArr (sz := 1) rfl Try.underlying27 (by kernel_rfl) rfl rfl rfl (by omega))) ?_
    refine WT_take 6 rfl rfl (by kernel_rfl) (hXS _ hI.d2) rfl (fun W hW => have hI := hSx W hW; (by first | exact rMoveI rfl rfl | exact rMove rfl)) ?_
    refine WT_take 7 rfl rfl (by kernel_rfl) (hXS _ hI.d2) rfl (fun W hW => have hI := hSx W hW; (by first | exact rFldN (off := 0) rfl (by kernel_rfl) rfl | exact rFld0 rfl (by kernel_rfl) rfl)) ?_
    refine WT_take 8 rfl rfl (by kernel_rfl) (hXS _ hI.d2) rfl (fun W hW => have hI := hSx W hW; (rIdxArr (sz := 1) rfl Try.underlying27 (by kernel_rfl) rfl rfl rfl (by omega))) ?_
    refine WT_take 9 rfl rfl (by kernel_rfl) (hXS _ hI.d2) rfl (fun W hW => have hI := hSx W hW; (by first | exact rLd (v := .int .i64 _) rfl (by kernel_rfl) rfl (by first | exact (c_at (hI.c2 u1)) | exact (c_at (hI.c1 u3)) | exact (c_at7 (hI.c2 u2)) | exact (c_at7 (hI.c1 u4))) | exact rLd rfl (by kernel_rfl) rfl (by first | exact (c_at (hI.c2 u1)) | exact (c_at (hI.c1 u3)) | exact (c_at7 (hI.c2 u2)) | exact (c_at7 (hI.c1 u4))))) ?_
    refine WT_take 11 rfl rfl (by kernel_rfl) (hXS _ hI.d2) rfl (fun W hW => have hI := hSx W hW; (by first | exact rMoveI rfl rfl | exact rMove rfl)) ?_
    refine WT_take 12 rfl rfl (by kernel_rfl) (hXS _ hI.d2) rfl (fun W hW => have hI := hSx W hW; (by first | exact rFldN (off := 7) rfl (by kernel_rfl) rfl | exact rFld (off := 7) rfl (by kernel_rfl) rfl)) ?_
    refine WT_take 13 rfl rfl (by kernel_rfl) (hXS _ hI.d2) rfl (fun W hW => have hI := hSx W hW; (rIdxArr (sz := 1) rfl Try.underlying27 (by kernel_rfl) rfl rfl rfl (by omega))) ?_
    refine WT_take 15 rfl rfl (by kernel_rfl) (hXS _ hI.d2) rfl (fun W hW => have hI := hSx W hW; (by first | exact rMoveI rfl rfl | exact rMove rfl)) ?_
    refine WT_take 16 rfl rfl (by kernel_rfl) (hXS _ hI.d2) rfl (fun W hW => have hI := hSx W hW; (by first | exact rFldN (off := 7) rfl (by kernel_rfl) rfl | exact rFld (off := 7) rfl (by kernel_rfl) rfl)) ?_
    refine WT_take 17 rfl rfl (by kernel_rfl) (hXS _ hI.d2) rfl (fun W hW => have hI := hSx W hW; (rIdxArr (sz := 1) rfl Try.underlying27 (by kernel_rfl) rfl rfl rfl (by omega))) ?_
    refine WT_take 18 rfl rfl (by kernel_rfl) (hXS _ hI.d2) rfl (fun W hW => have hI := hSx W hW; (by first | exact rLd (v := .int .i64 _) rfl (by kernel_rfl) rfl (by first | exact (c_at (hI.c2 u1)) | exact (c_at (hI.c1 u3)) | exact (c_at7 (hI.c2 u2)) | exact (c_at7 (hI.c1 u4))) | exact rLd rfl (by kernel_rfl) rfl (by first | exact (c_at (hI.c2 u1)) | exact (c_at (hI.c1 u3)) | exact (c_at7 (hI.c2 u2)) | exact (c_at7 (hI.c1 u4))))) ?_
    refine WT_take 20 rfl rfl (by kernel_rfl) (hXS _ hI.d2) rfl (fun W hW => have hI := hSx W hW; (by first | exact rFldN (off := 0) rfl (by kernel_rfl) rfl | exact rFld0 rfl (by kernel_rfl) rfl)) ?_
    refine WT_take 23 rfl rfl (by kernel_rfl) (hXS _ hI.d2) rfl (fun W hW => have hI := hSx W hW; (by first | exact rFldN (off := 7) rfl (by kernel_rfl) rfl | exact rFld (off := 7) rfl (by kernel_rfl) rfl)) ?_
    refine WT_two 5 14 rfl rfl (by kernel_rfl) rfl rfl ?_ ?_
    · refine WL_val rfl rfl rfl (rLd (v := .int .i64 _) rfl (by kernel_rfl) rfl (c_at (hI.c2 u1))) ?_
      refine WL_nil ⟨hXS _ hI.d2, ?_⟩
      refine WT_take 10 rfl rfl (by kernel_rfl) (hXS _ hI.d2) rfl (fun W hW => have hI := hSx W hW; (rMax rfl rfl rfl)) ?_
      refine WT_one 14 rfl (by kernel_rfl) rfl ?_
      refine WL_val rfl rfl rfl (rLd (v := .int .i64 _) rfl (by kernel_rfl) rfl (c_at7 (hI.c2 u2))) ?_
      refine WL_nil ⟨hXS _ hI.d2, ?_⟩
      refine WT_take 19 rfl rfl (by kernel_rfl) (hXS _ hI.d2) rfl (fun W hW => have hI := hSx W hW; (rMax rfl rfl rfl)) ?_
      refine WT_take 21 rfl rfl (by kernel_rfl) (hXS _ hI.d2) rfl (fun W hW => have hI := hSx W hW; (rIdxArr (sz := 1) rfl Try.underlying27 (by kernel_rfl) rfl rfl rfl (by omega))) ?_
      refine WT_one 22 rfl (by kernel_rfl) rfl ?_
      refine WL_st2 (u := .int .i64 _) (j := 0 + k * 1) hI rfl rfl rfl rfl rfl rfl (by kernel_rfl) rfl (by simp [Nat.blt, i64s, jk]; omega) rfl ?_
      clear hI; intro w hI
      refine WL_nil ⟨hXS _ hI.d2, ?_⟩
      refine WT_take 24 rfl rfl (by kernel_rfl) (hXS _ hI.d2) rfl (fun W hW => have hI := hSx W hW; (rIdxArr (sz := 1) rfl Try.underlying27 (by kernel_rfl) rfl rfl rfl (by omega))) ?_
      refine WT_A (by kernel_rfl) ?_
      clear hXS hSx
      refine WA_one 25 rfl (by kernel_rfl) ?_
      refine WL_st2 (u := .int .i64 _) (j := 7 + k * 1) hI rfl rfl rfl rfl rfl rfl (by kernel_rfl) rfl (by simp [Nat.blt, i64s, jk]; omega) rfl ?_
      clear hI; intro w hI
      refine WL_nil ?_
      refine WA_end (by kernel_rfl) ?_
      rw [st_two hk7] at hI
      refine W_region ?_
      refine WL_val rfl rfl rfl (by first | exact rInc rfl rfl rfl (by omega) | exact rAdd rfl rfl rfl (by omega) | exact rAddW rfl rfl rfl) ?_
      refine WL_val rfl rfl rfl (by first | exact rMoveI rfl rfl | exact rMove rfl) ?_
      refine WL_nil ?_
      exact ⟨⟨k + 1, by omega, ⟨rfl, rfl, rfl, rfl, trivial⟩, hI⟩, by show 7 - ((k + 1 : Nat) : Int).toNat < 7 - (k : Int).toNat; omega⟩
    · refine WL_val rfl rfl rfl (rLd (v := .int .i64 _) rfl (by kernel_rfl) rfl (c_at7 (hI.c2 u2))) ?_
      refine WL_nil ⟨hXS _ hI.d2, ?_⟩
      refine WT_take 19 rfl rfl (by kernel_rfl) (hXS _ hI.d2) rfl (fun W hW => have hI := hSx W hW; (rMax rfl rfl rfl)) ?_
      refine WT_one 5 rfl (by kernel_rfl) rfl ?_
      refine WL_val rfl rfl rfl (rLd (v := .int .i64 _) rfl (by kernel_rfl) rfl (c_at (hI.c2 u1))) ?_
      refine WL_nil ⟨hXS _ hI.d2, ?_⟩
      refine WT_take 10 rfl rfl (by kernel_rfl) (hXS _ hI.d2) rfl (fun W hW => have hI := hSx W hW; (rMax rfl rfl rfl)) ?_
      refine WT_take 21 rfl rfl (by kernel_rfl) (hXS _ hI.d2) rfl (fun W hW => have hI := hSx W hW; (rIdxArr (sz := 1) rfl Try.underlying27 (by kernel_rfl) rfl rfl rfl (by omega))) ?_
      refine WT_one 22 rfl (by kernel_rfl) rfl ?_
      refine WL_st2 (u := .int .i64 _) (j := 0 + k * 1) hI rfl rfl rfl rfl rfl rfl (by kernel_rfl) rfl (by simp [Nat.blt, i64s, jk]; omega) rfl ?_
      clear hI; intro w hI
      refine WL_nil ⟨hXS _ hI.d2, ?_⟩
      refine WT_take 24 rfl rfl (by kernel_rfl) (hXS _ hI.d2) rfl (fun W hW => have hI := hSx W hW; (rIdxArr (sz := 1) rfl Try.underlying27 (by kernel_rfl) rfl rfl rfl (by omega))) ?_
      refine WT_A (by kernel_rfl) ?_
      clear hXS hSx
      refine WA_one 25 rfl (by kernel_rfl) ?_
      refine WL_st2 (u := .int .i64 _) (j := 7 + k * 1) hI rfl rfl rfl rfl rfl rfl (by kernel_rfl) rfl (by simp [Nat.blt, i64s, jk]; omega) rfl ?_
      clear hI; intro w hI
      refine WL_nil ?_
      refine WA_end (by kernel_rfl) ?_
      rw [st_two hk7] at hI
      refine W_region ?_
      refine WL_val rfl rfl rfl (by first | exact rInc rfl rfl rfl (by omega) | exact rAdd rfl rfl rfl (by omega) | exact rAddW rfl rfl rfl) ?_
      refine WL_val rfl rfl rfl (by first | exact rMoveI rfl rfl | exact rMove rfl) ?_
      refine WL_nil ?_
      exact ⟨⟨k + 1, by omega, ⟨rfl, rfl, rfl, rfl, trivial⟩, hI⟩, by show 7 - ((k + 1 : Nat) : Int).toNat < 7 - (k : Int).toNat; omega⟩
  · obtain rfl : k = 7 := by omega
    refine W_seq ?_
    refine W_region ?_
    refine WL_val rfl rfl rfl (by first | exact rLssT rfl rfl rfl (by omega) | exact rLssF rfl rfl rfl (by omega) | exact rLss rfl rfl rfl) ?_
    refine WL_nil ?_
    refine W_seq ?_
    refine W_cond false rfl ?_
    refine W_exit ?_
    refine W_seq ?_
    refine W_region ?_
    refine WL_val rfl rfl rfl (rLdB (n := 14) rfl (by kernel_rfl) (by kernel_rfl) rfl (by simp [i64s, jk]) hI.g2) ?_
    refine WL_stw0 (u := .agg _) (vs := (i64s (jk l m 7)).toArray) (n := 14) hI rfl rfl rfl rfl rfl rfl (by kernel_rfl) (by simp [i64s, jk]) rfl (by simp [i64s, Value.oneCell']) ?_
    clear hI; intro w hI
    refine WL_nil ?_
    refine W_ret ?_
    refine retC (n := 14) (t := 29) (.inr rfl) rfl rfl (by kernel_rfl) (by kernel_rfl) (by simp [i64s, jk]) hI.g0 ?_
    exact ⟨rfl, hI.pu⟩
end Go.Proofs.Ytkfciehgjhgmeaa
