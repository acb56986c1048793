/- merge: counts, counted. -/
import Derived.Test.YtkfciehgjhgmeaaMrg3
import Derived.Test.YtkfciehgjhgmeaaPick
namespace Go.Proofs.Ytkfciehgjhgmeaa
open Go.RowKit
set_option linter.unusedVariables false
set_option linter.unusedSimpArgs false

theorem tmod_bd (a : Int) : -1000 < a.tmod 1000 ∧ a.tmod 1000 < 1000 := ⟨Int.lt_tmod_of_pos a (by decide), Int.tmod_lt_of_pos a (by decide)⟩
theorem Ints.at {w : World} {D : Nat → Prop} {A : Option Addr} {n c : Nat} {l : List Int} (h : Ints w D (.slice A n c) l) {k : Nat} (hk : k < l.length) : ∃ b o, A = some ⟨b, o, none⟩ ∧ w.cell? ⟨b, o + k, none⟩ = some (.int .i64 (l.getD k 0)) := by
  obtain ⟨b, o, h1, _, _, h2⟩ := h.get hk
  refine ⟨b, o, h1, ?_⟩
  rw [h2]
  simp [List.getD, List.getElem?_eq_getElem hk]
set_option maxHeartbeats 2000000 in
theorem counts_any (A : Option Addr) (n c : Nat) (l : List Int) (D : Nat → Prop) (w0 : World) (h : Ints w0 D (.slice A n c) l) (hl : l.length = n) : Calls Try.prog 8 #[.slice A n c] w0 fun en w' => (∃ l' : List Int, l'.length = 14 ∧ en = .returned (.agg (i64s l').toArray)) ∧ Pure w0 w' := by
  have hI := Inv.start (fun _ => False) w0
  refine calls_of_W (N := Try.f8.ntmps) Try.func8 rfl rfl rfl ?_
  refine W_seq ?_
  refine W_region ?_
  refine WL_alloc (u := .agg #[.int .i64 0, .int .i64 0, .int .i64 0, .int .i64 0, .int .i64 0, .int .i64 0, .int .i64 0, .int .i64 0, .int .i64 0, .int .i64 0, .int .i64 0, .int .i64 0, .int .i64 0, .int .i64 0]) (vs := #[.int .i64 0, .int .i64 0, .int .i64 0, .int .i64 0, .int .i64 0, .int .i64 0, .int .i64 0, .int .i64 0, .int .i64 0, .int .i64 0, .int .i64 0, .int .i64 0, .int .i64 0, .int .i64 0]) hI rfl rfl rfl rfl (by kernel_rfl) rfl ?_
  clear hI; rintro b2 w - - hI
  refine WL_nil ?_
  refine W_seq ?_
  refine W_region ?_
  refine WL_alloc (u := .agg #[.int .i64 0, .int .i64 0, .int .i64 0, .int .i64 0, .int .i64 0, .int .i64 0, .int .i64 0, .int .i64 0, .int .i64 0, .int .i64 0, .int .i64 0, .int .i64 0, .int .i64 0, .int .i64 0]) (vs := #[.int .i64 0, .int .i64 0, .int .i64 0, .int .i64 0, .int .i64 0, .int .i64 0, .int .i64 0, .int .i64 0, .int .i64 0, .int .i64 0, .int .i64 0, .int .i64 0, .int .i64 0, .int .i64 0]) hI rfl rfl rfl rfl (by kernel_rfl) rfl ?_
  clear hI; rintro b3 w - - hI
  refine WL_nil ?_
  refine W_seq ?_
  refine W_seq ?_
  refine W_region ?_
  refine WL_val rfl rfl rfl (by first | exact rAsgnI rfl rfl | exact rAsgn rfl) ?_
  refine WL_nil ?_
  refine W_block ?_
  refine W_loop (fun ρ w => ∃ (k : Nat) (l' : List Int), k ≤ 30 ∧ l'.length = 14 ∧ Has ρ [(4, .int .i64 k), (0, .slice A n c), (2, .pointer (some ⟨b2, 0, none⟩)), (3, .pointer (some ⟨b3, 0, none⟩))] ∧ Inv (fun _ => False) w0 w [B b3 29 (i64s l').toArray, B b2 29 (rep (.int .i64 0) 14)]) (fun ρ _ => 30 - cnt (ρ 4))
    ⟨0, List.replicate 14 0, by omega, rfl, ⟨rfl, rfl, rfl, rfl, trivial⟩, hI⟩ ?_
  clear hI
  rintro ρ w ⟨k, l', hk, hl', hH, hI⟩
  obtain ⟨σ, rfl⟩ := hH.open
  by_cases hkn : k < n ∧ k < 30
  · obtain ⟨h1, h2⟩ := hkn
    refine W_seq ?_
    refine W_seq ?_
    refine W_region ?_
    refine WL_val rfl rfl rfl (by first | exact rMoveI rfl rfl | exact rMove rfl) ?_
    refine WL_val rfl rfl rfl (by first | exact rMoveS rfl rfl | exact rMove rfl) ?_
    refine WL_val rfl rfl rfl (rLen rfl Try.underlying22 rfl) ?_
    refine WL_val rfl rfl rfl (by first | exact rLssT rfl rfl rfl (by omega) | exact rLssF rfl rfl rfl (by omega) | exact rLss rfl rfl rfl) ?_
    refine WL_val rfl rfl rfl (by first | exact rMoveB rfl rfl | exact rMove rfl) ?_
    first | refine WL_val rfl rfl rfl (by first | exact rMoveI rfl rfl | exact rMove rfl) ?_ | refine WL_skip rfl rfl rfl ?_
    first | refine WL_val rfl rfl rfl (by first | exact rLssT rfl rfl rfl (by omega) | exact rLssF rfl rfl rfl (by omega) | exact rLss rfl rfl rfl) ?_ | refine WL_skip rfl rfl rfl ?_
    refine WL_val rfl rfl rfl (by first | exact rPickTB rfl rfl rfl | exact rPickFB rfl rfl rfl | exact rPickB rfl rfl rfl rfl) ?_
    refine WL_nil ?_
    refine W_cond true rfl ?_
    refine W_skip ?_
    obtain ⟨bA, oA, rfl, hu⟩ := h.at (show k < l.length by omega)
    refine W_seq ?_
    refine W_block ?_
    have hb := tmod_bd (IntKind.i64.wrap ((l.getD k 0).tdiv 16))
    have hp7 := pickN_lt (l.getD k 0) (n := 7) (by omega)
    have hlen := addC_len l' (pickN (l.getD k 0) 7) ((IntKind.i64.wrap ((l.getD k 0).tdiv 16)).tmod 1000)
    refine W_seq ?_
    refine W_draw (by kernel_rfl) ?_
    refine WA_inv (T := []) hI.drew ?_
    intro Sx hSx hXS
    replace hI := hI.drew
    refine WT_take 0 rfl rfl (by kernel_rfl) (hXS _ hI) rfl (fun W hW => have hI := hSx W hW; (by first | exact rLdB (n := 14) rfl (by kernel_rfl) (by kernel_rfl) rfl (by first | rfl | (simp only [i64s, Value.cells, List.size_toArray, List.length_map]; omega)) hI.g0 | exact rLdB (n := 14) rfl (by kernel_rfl) (by kernel_rfl) rfl (by first | rfl | (simp only [i64s, Value.cells, List.size_toArray, List.length_map]; omega)) hI.g1 | exact rLdB (n := 14) rfl (by kernel_rfl) (by kernel_rfl) rfl (by first | rfl | (simp only [i64s, Value.cells, List.size_toArray, List.length_map]; omega)) hI.g2)) ?_
    refine WT_take 1 rfl rfl (by kernel_rfl) (hXS _ hI) rfl (fun W hW => have hI := hSx W hW; (by first | exact rMoveS rfl rfl | exact rMove rfl)) ?_
    refine WT_take 2 rfl rfl (by kernel_rfl) (hXS _ hI) rfl (fun W hW => have hI := hSx W hW; (by first | exact rMoveI rfl rfl | exact rMove rfl)) ?_
    refine WT_take 3 rfl rfl (by kernel_rfl) (hXS _ hI) rfl (fun W hW => have hI := hSx W hW; (by first | exact rIdx0 rfl Try.underlying22 (by kernel_rfl) rfl rfl rfl (by omega) | exact rIdx1 rfl Try.underlying22 (by kernel_rfl) rfl rfl (by omega))) ?_
    refine WT_take 4 rfl rfl (by kernel_rfl) (hXS _ hI) rfl (fun W hW => have hI := hSx W hW; (by first | exact rLd (v := .int .i64 _) rfl (by kernel_rfl) rfl (by first | exact hI.c0 rfl | exact hI.c1 rfl | exact hI.c2 rfl | exact hI.oldp hu | exact hu) | exact rLd rfl (by kernel_rfl) rfl (by first | exact hI.c0 rfl | exact hI.c1 rfl | exact hI.c2 rfl | exact hI.oldp hu | exact hu))) ?_
    refine WT_take 6 rfl rfl (by kernel_rfl) (hXS _ hI) rfl (fun W hW => have hI := hSx W hW; (by first | exact rMoveS rfl rfl | exact rMove rfl)) ?_
    refine WT_take 7 rfl rfl (by kernel_rfl) (hXS _ hI) rfl (fun W hW => have hI := hSx W hW; (by first | exact rMoveI rfl rfl | exact rMove rfl)) ?_
    refine WT_take 8 rfl rfl (by kernel_rfl) (hXS _ hI) rfl (fun W hW => have hI := hSx W hW; (by first | exact rIdx0 rfl Try.underlying22 (by kernel_rfl) rfl rfl rfl (by omega) | exact rIdx1 rfl Try.underlying22 (by kernel_rfl) rfl rfl (by omega))) ?_
    refine WT_take 9 rfl rfl (by kernel_rfl) (hXS _ hI) rfl (fun W hW => have hI := hSx W hW; (by first | exact rLd (v := .int .i64 _) rfl (by kernel_rfl) rfl (by first | exact hI.c0 rfl | exact hI.c1 rfl | exact hI.c2 rfl | exact hI.oldp hu | exact hu) | exact rLd rfl (by kernel_rfl) rfl (by first | exact hI.c0 rfl | exact hI.c1 rfl | exact hI.c2 rfl | exact hI.oldp hu | exact hu))) ?_
    refine WT_take 10 rfl rfl (by kernel_rfl) (hXS _ hI) rfl (fun W hW => have hI := hSx W hW; (rQuoW rfl rfl rfl (by omega))) ?_
    refine WT_take 11 rfl rfl (by kernel_rfl) (hXS _ hI) rfl (fun W hW => have hI := hSx W hW; (rRemW rfl rfl rfl (by omega))) ?_
    refine WT_two 5 16 rfl rfl (by kernel_rfl) rfl rfl ?_ ?_
    · refine WL_call rfl rfl rfl (rCall (vs := [.int .i64 _, .int .i64 _]) rfl Try.func11 rfl rfl rfl) ?_
      refine (pick_any _ 7 _ (by omega) (by omega)).mono ?_
      rintro e w1 ⟨rfl, rfl⟩
      refine ⟨_, rfl, ?_⟩
      refine WL_nil ⟨hXS _ hI, ?_⟩
      refine WT_two 12 16 rfl rfl (by kernel_rfl) rfl rfl ?_ ?_
      · refine WL_call rfl rfl rfl (rCall (vs := [.agg _, .int .i64 _, .int .i64 _]) rfl Try.func18 rfl rfl rfl) ?_
        refine (add_any _ _ _ _ hl' ⟨hp7, by omega, by omega⟩).mono ?_
        rintro e w1 ⟨rfl, hp⟩
        refine ⟨_, rfl, ?_⟩
        replace hI := hI.pure hp
        refine WL_nil ⟨hXS _ hI, ?_⟩
        refine WT_take 13 rfl rfl (by kernel_rfl) (hXS _ hI) rfl (fun W hW => have hI := hSx W hW; (by first | exact rMoveT rfl rfl | exact rMove rfl)) ?_
        refine WT_take 14 rfl rfl (by kernel_rfl) (hXS _ hI) rfl (fun W hW => have hI := hSx W hW; (rExtr rfl rfl rfl)) ?_
        refine WT_take 15 rfl rfl (by kernel_rfl) (hXS _ hI) rfl (fun W hW => have hI := hSx W hW; (rExtr rfl rfl rfl)) ?_
        refine WT_one 16 rfl (by kernel_rfl) rfl ?_
        refine WL_alloc (u := .agg #[.int .i64 0, .int .i64 0, .int .i64 0, .int .i64 0, .int .i64 0, .int .i64 0, .int .i64 0, .int .i64 0, .int .i64 0, .int .i64 0, .int .i64 0, .int .i64 0, .int .i64 0, .int .i64 0]) (vs := #[.int .i64 0, .int .i64 0, .int .i64 0, .int .i64 0, .int .i64 0, .int .i64 0, .int .i64 0, .int .i64 0, .int .i64 0, .int .i64 0, .int .i64 0, .int .i64 0, .int .i64 0, .int .i64 0]) hI rfl rfl rfl rfl (by kernel_rfl) rfl ?_
        clear hI; rintro b5 w - - hI
        refine WL_nil ⟨hXS _ hI.d0, ?_⟩
        refine WT_one 17 rfl (by kernel_rfl) rfl ?_
        first | refine WL_stw0 (u := .agg _) (vs := _) (n := 14) hI rfl rfl rfl rfl rfl rfl (by kernel_rfl) (by first | rfl | (simp only [i64s, Value.cells, List.size_toArray, List.length_map]; omega)) (by first | rfl | (simp only [i64s, Value.cells, List.size_toArray, List.length_map]; omega)) (by first | rfl | simp [i64s, Value.cells, Value.oneCell']) ?_ | refine WL_stw1 (u := .agg _) (vs := _) (n := 14) hI rfl rfl rfl rfl rfl rfl (by kernel_rfl) (by first | rfl | (simp only [i64s, Value.cells, List.size_toArray, List.length_map]; omega)) (by first | rfl | (simp only [i64s, Value.cells, List.size_toArray, List.length_map]; omega)) (by first | rfl | simp [i64s, Value.cells, Value.oneCell']) ?_ | refine WL_stw2 (u := .agg _) (vs := _) (n := 14) hI rfl rfl rfl rfl rfl rfl (by kernel_rfl) (by first | rfl | (simp only [i64s, Value.cells, List.size_toArray, List.length_map]; omega)) (by first | rfl | (simp only [i64s, Value.cells, List.size_toArray, List.length_map]; omega)) (by first | rfl | simp [i64s, Value.cells, Value.oneCell']) ?_
        clear hI; intro w hI
        refine WL_nil ⟨hXS _ hI.d0, ?_⟩
        refine WT_take 18 rfl rfl (by kernel_rfl) (hXS _ hI.d0) rfl (fun W hW => have hI := hSx W hW; (by first | exact rAsgnN rfl rfl | exact rAsgnE rfl rfl | exact rAsgn rfl)) ?_
        refine WT_end (by kernel_rfl) ?_
        refine W_seq ?_
        refine W_region ?_
        refine WL_val rfl rfl rfl (by first | exact rMoveN rfl rfl | exact rMoveE rfl rfl | exact rMove rfl) ?_
        refine WL_val rfl rfl rfl (by first | exact rIfaceEq rfl Try.underlying40 rfl rfl | exact rNilEq rfl Try.underlying40 rfl) ?_
        refine WL_nil ?_
        refine W_cond true rfl ?_
        refine W_region ?_
        refine WL_val rfl rfl rfl (by first | exact rLdB (n := 14) rfl (by kernel_rfl) (by kernel_rfl) rfl (by first | rfl | (simp only [i64s, Value.cells, List.size_toArray, List.length_map]; omega)) hI.g0 | exact rLdB (n := 14) rfl (by kernel_rfl) (by kernel_rfl) rfl (by first | rfl | (simp only [i64s, Value.cells, List.size_toArray, List.length_map]; omega)) hI.g1 | exact rLdB (n := 14) rfl (by kernel_rfl) (by kernel_rfl) rfl (by first | rfl | (simp only [i64s, Value.cells, List.size_toArray, List.length_map]; omega)) hI.g2 | exact rLdB (n := 14) rfl (by kernel_rfl) (by kernel_rfl) rfl (by first | rfl | (simp only [i64s, Value.cells, List.size_toArray, List.length_map]; omega)) hI.g3 | exact rLdB (n := 14) rfl (by kernel_rfl) (by kernel_rfl) rfl (by first | rfl | (simp only [i64s, Value.cells, List.size_toArray, List.length_map]; omega)) hI.g4 | exact rLdB (n := 14) rfl (by kernel_rfl) (by kernel_rfl) rfl (by first | rfl | (simp only [i64s, Value.cells, List.size_toArray, List.length_map]; omega)) hI.g5) ?_
        first | refine WL_stw0 (u := .agg _) (vs := _) (n := 14) hI rfl rfl rfl rfl rfl rfl (by kernel_rfl) (by first | rfl | (simp only [i64s, Value.cells, List.size_toArray, List.length_map]; omega)) (by first | rfl | (simp only [i64s, Value.cells, List.size_toArray, List.length_map]; omega)) (by first | rfl | simp [i64s, Value.cells, Value.oneCell']) ?_ | refine WL_stw1 (u := .agg _) (vs := _) (n := 14) hI rfl rfl rfl rfl rfl rfl (by kernel_rfl) (by first | rfl | (simp only [i64s, Value.cells, List.size_toArray, List.length_map]; omega)) (by first | rfl | (simp only [i64s, Value.cells, List.size_toArray, List.length_map]; omega)) (by first | rfl | simp [i64s, Value.cells, Value.oneCell']) ?_ | refine WL_stw2 (u := .agg _) (vs := _) (n := 14) hI rfl rfl rfl rfl rfl rfl (by kernel_rfl) (by first | rfl | (simp only [i64s, Value.cells, List.size_toArray, List.length_map]; omega)) (by first | rfl | (simp only [i64s, Value.cells, List.size_toArray, List.length_map]; omega)) (by first | rfl | simp [i64s, Value.cells, Value.oneCell']) ?_ | refine WL_stw3 (u := .agg _) (vs := _) (n := 14) hI rfl rfl rfl rfl rfl rfl (by kernel_rfl) (by first | rfl | (simp only [i64s, Value.cells, List.size_toArray, List.length_map]; omega)) (by first | rfl | (simp only [i64s, Value.cells, List.size_toArray, List.length_map]; omega)) (by first | rfl | simp [i64s, Value.cells, Value.oneCell']) ?_ | refine WL_stw4 (u := .agg _) (vs := _) (n := 14) hI rfl rfl rfl rfl rfl rfl (by kernel_rfl) (by first | rfl | (simp only [i64s, Value.cells, List.size_toArray, List.length_map]; omega)) (by first | rfl | (simp only [i64s, Value.cells, List.size_toArray, List.length_map]; omega)) (by first | rfl | simp [i64s, Value.cells, Value.oneCell']) ?_ | refine WL_stw5 (u := .agg _) (vs := _) (n := 14) hI rfl rfl rfl rfl rfl rfl (by kernel_rfl) (by first | rfl | (simp only [i64s, Value.cells, List.size_toArray, List.length_map]; omega)) (by first | rfl | (simp only [i64s, Value.cells, List.size_toArray, List.length_map]; omega)) (by first | rfl | simp [i64s, Value.cells, Value.oneCell']) ?_
        clear hI; intro w hI
        refine WL_nil ?_
        replace hI := hI.d0
        refine W_region ?_
        refine WL_val rfl rfl rfl (by first | exact rMoveI rfl rfl | exact rMove rfl) ?_
        refine WL_val rfl rfl rfl (by first | exact rInc rfl rfl rfl (by omega) | exact rAdd rfl rfl rfl (by omega) | exact rAddW rfl rfl rfl) ?_
        refine WL_val rfl rfl rfl (by first | exact rAsgnI rfl rfl | exact rAsgn rfl) ?_
        refine WL_nil ?_
        exact ⟨⟨k + 1, _, by omega, hlen.trans hl', ⟨rfl, rfl, rfl, rfl, trivial⟩, hI⟩, by show 30 - ((k + 1 : Nat) : Int).toNat < 30 - (k : Int).toNat; omega⟩
      · refine WL_alloc (u := .agg #[.int .i64 0, .int .i64 0, .int .i64 0, .int .i64 0, .int .i64 0, .int .i64 0, .int .i64 0, .int .i64 0, .int .i64 0, .int .i64 0, .int .i64 0, .int .i64 0, .int .i64 0, .int .i64 0]) (vs := #[.int .i64 0, .int .i64 0, .int .i64 0, .int .i64 0, .int .i64 0, .int .i64 0, .int .i64 0, .int .i64 0, .int .i64 0, .int .i64 0, .int .i64 0, .int .i64 0, .int .i64 0, .int .i64 0]) hI rfl rfl rfl rfl (by kernel_rfl) rfl ?_
        clear hI; rintro b5 w - - hI
        refine WL_nil ⟨hXS _ hI.d0, ?_⟩
        refine WT_one 12 rfl (by kernel_rfl) rfl ?_
        refine WL_call rfl rfl rfl (rCall (vs := [.agg _, .int .i64 _, .int .i64 _]) rfl Try.func18 rfl rfl rfl) ?_
        refine (add_any _ _ _ _ hl' ⟨hp7, by omega, by omega⟩).mono ?_
        rintro e w1 ⟨rfl, hp⟩
        refine ⟨_, rfl, ?_⟩
        replace hI := hI.pure hp
        refine WL_nil ⟨hXS _ hI.d0, ?_⟩
        refine WT_take 13 rfl rfl (by kernel_rfl) (hXS _ hI.d0) rfl (fun W hW => have hI := hSx W hW; (by first | exact rMoveT rfl rfl | exact rMove rfl)) ?_
        refine WT_take 14 rfl rfl (by kernel_rfl) (hXS _ hI.d0) rfl (fun W hW => have hI := hSx W hW; (rExtr rfl rfl rfl)) ?_
        refine WT_take 15 rfl rfl (by kernel_rfl) (hXS _ hI.d0) rfl (fun W hW => have hI := hSx W hW; (rExtr rfl rfl rfl)) ?_
        refine WT_one 17 rfl (by kernel_rfl) rfl ?_
        first | refine WL_stw0 (u := .agg _) (vs := _) (n := 14) hI rfl rfl rfl rfl rfl rfl (by kernel_rfl) (by first | rfl | (simp only [i64s, Value.cells, List.size_toArray, List.length_map]; omega)) (by first | rfl | (simp only [i64s, Value.cells, List.size_toArray, List.length_map]; omega)) (by first | rfl | simp [i64s, Value.cells, Value.oneCell']) ?_ | refine WL_stw1 (u := .agg _) (vs := _) (n := 14) hI rfl rfl rfl rfl rfl rfl (by kernel_rfl) (by first | rfl | (simp only [i64s, Value.cells, List.size_toArray, List.length_map]; omega)) (by first | rfl | (simp only [i64s, Value.cells, List.size_toArray, List.length_map]; omega)) (by first | rfl | simp [i64s, Value.cells, Value.oneCell']) ?_ | refine WL_stw2 (u := .agg _) (vs := _) (n := 14) hI rfl rfl rfl rfl rfl rfl (by kernel_rfl) (by first | rfl | (simp only [i64s, Value.cells, List.size_toArray, List.length_map]; omega)) (by first | rfl | (simp only [i64s, Value.cells, List.size_toArray, List.length_map]; omega)) (by first | rfl | simp [i64s, Value.cells, Value.oneCell']) ?_
        clear hI; intro w hI
        refine WL_nil ⟨hXS _ hI.d0, ?_⟩
        refine WT_take 18 rfl rfl (by kernel_rfl) (hXS _ hI.d0) rfl (fun W hW => have hI := hSx W hW; (by first | exact rAsgnN rfl rfl | exact rAsgnE rfl rfl | exact rAsgn rfl)) ?_
        refine WT_end (by kernel_rfl) ?_
        refine W_seq ?_
        refine W_region ?_
        refine WL_val rfl rfl rfl (by first | exact rMoveN rfl rfl | exact rMoveE rfl rfl | exact rMove rfl) ?_
        refine WL_val rfl rfl rfl (by first | exact rIfaceEq rfl Try.underlying40 rfl rfl | exact rNilEq rfl Try.underlying40 rfl) ?_
        refine WL_nil ?_
        refine W_cond true rfl ?_
        refine W_region ?_
        refine WL_val rfl rfl rfl (by first | exact rLdB (n := 14) rfl (by kernel_rfl) (by kernel_rfl) rfl (by first | rfl | (simp only [i64s, Value.cells, List.size_toArray, List.length_map]; omega)) hI.g0 | exact rLdB (n := 14) rfl (by kernel_rfl) (by kernel_rfl) rfl (by first | rfl | (simp only [i64s, Value.cells, List.size_toArray, List.length_map]; omega)) hI.g1 | exact rLdB (n := 14) rfl (by kernel_rfl) (by kernel_rfl) rfl (by first | rfl | (simp only [i64s, Value.cells, List.size_toArray, List.length_map]; omega)) hI.g2 | exact rLdB (n := 14) rfl (by kernel_rfl) (by kernel_rfl) rfl (by first | rfl | (simp only [i64s, Value.cells, List.size_toArray, List.length_map]; omega)) hI.g3 | exact rLdB (n := 14) rfl (by kernel_rfl) (by kernel_rfl) rfl (by first | rfl | (simp only [i64s, Value.cells, List.size_toArray, List.length_map]; omega)) hI.g4 | exact rLdB (n := 14) rfl (by kernel_rfl) (by kernel_rfl) rfl (by first | rfl | (simp only [i64s, Value.cells, List.size_toArray, List.length_map]; omega)) hI.g5) ?_
        first | refine WL_stw0 (u := .agg _) (vs := _) (n := 14) hI rfl rfl rfl rfl rfl rfl (by kernel_rfl) (by first | rfl | (simp only [i64s, Value.cells, List.size_toArray, List.length_map]; omega)) (by first | rfl | (simp only [i64s, Value.cells, List.size_toArray, List.length_map]; omega)) (by first | rfl | simp [i64s, Value.cells, Value.oneCell']) ?_ | refine WL_stw1 (u := .agg _) (vs := _) (n := 14) hI rfl rfl rfl rfl rfl rfl (by kernel_rfl) (by first | rfl | (simp only [i64s, Value.cells, List.size_toArray, List.length_map]; omega)) (by first | rfl | (simp only [i64s, Value.cells, List.size_toArray, List.length_map]; omega)) (by first | rfl | simp [i64s, Value.cells, Value.oneCell']) ?_ | refine WL_stw2 (u := .agg _) (vs := _) (n := 14) hI rfl rfl rfl rfl rfl rfl (by kernel_rfl) (by first | rfl | (simp only [i64s, Value.cells, List.size_toArray, List.length_map]; omega)) (by first | rfl | (simp only [i64s, Value.cells, List.size_toArray, List.length_map]; omega)) (by first | rfl | simp [i64s, Value.cells, Value.oneCell']) ?_ | refine WL_stw3 (u := .agg _) (vs := _) (n := 14) hI rfl rfl rfl rfl rfl rfl (by kernel_rfl) (by first | rfl | (simp only [i64s, Value.cells, List.size_toArray, List.length_map]; omega)) (by first | rfl | (simp only [i64s, Value.cells, List.size_toArray, List.length_map]; omega)) (by first | rfl | simp [i64s, Value.cells, Value.oneCell']) ?_ | refine WL_stw4 (u := .agg _) (vs := _) (n := 14) hI rfl rfl rfl rfl rfl rfl (by kernel_rfl) (by first | rfl | (simp only [i64s, Value.cells, List.size_toArray, List.length_map]; omega)) (by first | rfl | (simp only [i64s, Value.cells, List.size_toArray, List.length_map]; omega)) (by first | rfl | simp [i64s, Value.cells, Value.oneCell']) ?_ | refine WL_stw5 (u := .agg _) (vs := _) (n := 14) hI rfl rfl rfl rfl rfl rfl (by kernel_rfl) (by first | rfl | (simp only [i64s, Value.cells, List.size_toArray, List.length_map]; omega)) (by first | rfl | (simp only [i64s, Value.cells, List.size_toArray, List.length_map]; omega)) (by first | rfl | simp [i64s, Value.cells, Value.oneCell']) ?_
        clear hI; intro w hI
        refine WL_nil ?_
        replace hI := hI.d0
        refine W_region ?_
        refine WL_val rfl rfl rfl (by first | exact rMoveI rfl rfl | exact rMove rfl) ?_
        refine WL_val rfl rfl rfl (by first | exact rInc rfl rfl rfl (by omega) | exact rAdd rfl rfl rfl (by omega) | exact rAddW rfl rfl rfl) ?_
        refine WL_val rfl rfl rfl (by first | exact rAsgnI rfl rfl | exact rAsgn rfl) ?_
        refine WL_nil ?_
        exact ⟨⟨k + 1, _, by omega, hlen.trans hl', ⟨rfl, rfl, rfl, rfl, trivial⟩, hI⟩, by show 30 - ((k + 1 : Nat) : Int).toNat < 30 - (k : Int).toNat; omega⟩
    · refine WL_alloc (u := .agg #[.int .i64 0, .int .i64 0, .int .i64 0, .int .i64 0, .int .i64 0, .int .i64 0, .int .i64 0, .int .i64 0, .int .i64 0, .int .i64 0, .int .i64 0, .int .i64 0, .int .i64 0, .int .i64 0]) (vs := #[.int .i64 0, .int .i64 0, .int .i64 0, .int .i64 0, .int .i64 0, .int .i64 0, .int .i64 0, .int .i64 0, .int .i64 0, .int .i64 0, .int .i64 0, .int .i64 0, .int .i64 0, .int .i64 0]) hI rfl rfl rfl rfl (by kernel_rfl) rfl ?_
      clear hI; rintro b5 w - - hI
      refine WL_nil ⟨hXS _ hI.d0, ?_⟩
      refine WT_one 5 rfl (by kernel_rfl) rfl ?_
      refine WL_call rfl rfl rfl (rCall (vs := [.int .i64 _, .int .i64 _]) rfl Try.func11 rfl rfl rfl) ?_
      refine (pick_any _ 7 _ (by omega) (by omega)).mono ?_
      rintro e w1 ⟨rfl, rfl⟩
      refine ⟨_, rfl, ?_⟩
      refine WL_nil ⟨hXS _ hI.d0, ?_⟩
      refine WT_one 12 rfl (by kernel_rfl) rfl ?_
      refine WL_call rfl rfl rfl (rCall (vs := [.agg _, .int .i64 _, .int .i64 _]) rfl Try.func18 rfl rfl rfl) ?_
      refine (add_any _ _ _ _ hl' ⟨hp7, by omega, by omega⟩).mono ?_
      rintro e w1 ⟨rfl, hp⟩
      refine ⟨_, rfl, ?_⟩
      replace hI := hI.pure hp
      refine WL_nil ⟨hXS _ hI.d0, ?_⟩
      refine WT_take 13 rfl rfl (by kernel_rfl) (hXS _ hI.d0) rfl (fun W hW => have hI := hSx W hW; (by first | exact rMoveT rfl rfl | exact rMove rfl)) ?_
      refine WT_take 14 rfl rfl (by kernel_rfl) (hXS _ hI.d0) rfl (fun W hW => have hI := hSx W hW; (rExtr rfl rfl rfl)) ?_
      refine WT_take 15 rfl rfl (by kernel_rfl) (hXS _ hI.d0) rfl (fun W hW => have hI := hSx W hW; (rExtr rfl rfl rfl)) ?_
      refine WT_one 17 rfl (by kernel_rfl) rfl ?_
      first | refine WL_stw0 (u := .agg _) (vs := _) (n := 14) hI rfl rfl rfl rfl rfl rfl (by kernel_rfl) (by first | rfl | (simp only [i64s, Value.cells, List.size_toArray, List.length_map]; omega)) (by first | rfl | (simp only [i64s, Value.cells, List.size_toArray, List.length_map]; omega)) (by first | rfl | simp [i64s, Value.cells, Value.oneCell']) ?_ | refine WL_stw1 (u := .agg _) (vs := _) (n := 14) hI rfl rfl rfl rfl rfl rfl (by kernel_rfl) (by first | rfl | (simp only [i64s, Value.cells, List.size_toArray, List.length_map]; omega)) (by first | rfl | (simp only [i64s, Value.cells, List.size_toArray, List.length_map]; omega)) (by first | rfl | simp [i64s, Value.cells, Value.oneCell']) ?_ | refine WL_stw2 (u := .agg _) (vs := _) (n := 14) hI rfl rfl rfl rfl rfl rfl (by kernel_rfl) (by first | rfl | (simp only [i64s, Value.cells, List.size_toArray, List.length_map]; omega)) (by first | rfl | (simp only [i64s, Value.cells, List.size_toArray, List.length_map]; omega)) (by first | rfl | simp [i64s, Value.cells, Value.oneCell']) ?_
      clear hI; intro w hI
      refine WL_nil ⟨hXS _ hI.d0, ?_⟩
      refine WT_take 18 rfl rfl (by kernel_rfl) (hXS _ hI.d0) rfl (fun W hW => have hI := hSx W hW; (by first | exact rAsgnN rfl rfl | exact rAsgnE rfl rfl | exact rAsgn rfl)) ?_
      refine WT_end (by kernel_rfl) ?_
      refine W_seq ?_
      refine W_region ?_
      refine WL_val rfl rfl rfl (by first | exact rMoveN rfl rfl | exact rMoveE rfl rfl | exact rMove rfl) ?_
      refine WL_val rfl rfl rfl (by first | exact rIfaceEq rfl Try.underlying40 rfl rfl | exact rNilEq rfl Try.underlying40 rfl) ?_
      refine WL_nil ?_
      refine W_cond true rfl ?_
      refine W_region ?_
      refine WL_val rfl rfl rfl (by first | exact rLdB (n := 14) rfl (by kernel_rfl) (by kernel_rfl) rfl (by first | rfl | (simp only [i64s, Value.cells, List.size_toArray, List.length_map]; omega)) hI.g0 | exact rLdB (n := 14) rfl (by kernel_rfl) (by kernel_rfl) rfl (by first | rfl | (simp only [i64s, Value.cells, List.size_toArray, List.length_map]; omega)) hI.g1 | exact rLdB (n := 14) rfl (by kernel_rfl) (by kernel_rfl) rfl (by first | rfl | (simp only [i64s, Value.cells, List.size_toArray, List.length_map]; omega)) hI.g2 | exact rLdB (n := 14) rfl (by kernel_rfl) (by kernel_rfl) rfl (by first | rfl | (simp only [i64s, Value.cells, List.size_toArray, List.length_map]; omega)) hI.g3 | exact rLdB (n := 14) rfl (by kernel_rfl) (by kernel_rfl) rfl (by first | rfl | (simp only [i64s, Value.cells, List.size_toArray, List.length_map]; omega)) hI.g4 | exact rLdB (n := 14) rfl (by kernel_rfl) (by kernel_rfl) rfl (by first | rfl | (simp only [i64s, Value.cells, List.size_toArray, List.length_map]; omega)) hI.g5) ?_
      first | refine WL_stw0 (u := .agg _) (vs := _) (n := 14) hI rfl rfl rfl rfl rfl rfl (by kernel_rfl) (by first | rfl | (simp only [i64s, Value.cells, List.size_toArray, List.length_map]; omega)) (by first | rfl | (simp only [i64s, Value.cells, List.size_toArray, List.length_map]; omega)) (by first | rfl | simp [i64s, Value.cells, Value.oneCell']) ?_ | refine WL_stw1 (u := .agg _) (vs := _) (n := 14) hI rfl rfl rfl rfl rfl rfl (by kernel_rfl) (by first | rfl | (simp only [i64s, Value.cells, List.size_toArray, List.length_map]; omega)) (by first | rfl | (simp only [i64s, Value.cells, List.size_toArray, List.length_map]; omega)) (by first | rfl | simp [i64s, Value.cells, Value.oneCell']) ?_ | refine WL_stw2 (u := .agg _) (vs := _) (n := 14) hI rfl rfl rfl rfl rfl rfl (by kernel_rfl) (by first | rfl | (simp only [i64s, Value.cells, List.size_toArray, List.length_map]; omega)) (by first | rfl | (simp only [i64s, Value.cells, List.size_toArray, List.length_map]; omega)) (by first | rfl | simp [i64s, Value.cells, Value.oneCell']) ?_ | refine WL_stw3 (u := .agg _) (vs := _) (n := 14) hI rfl rfl rfl rfl rfl rfl (by kernel_rfl) (by first | rfl | (simp only [i64s, Value.cells, List.size_toArray, List.length_map]; omega)) (by first | rfl | (simp only [i64s, Value.cells, List.size_toArray, List.length_map]; omega)) (by first | rfl | simp [i64s, Value.cells, Value.oneCell']) ?_ | refine WL_stw4 (u := .agg _) (vs := _) (n := 14) hI rfl rfl rfl rfl rfl rfl (by kernel_rfl) (by first | rfl | (simp only [i64s, Value.cells, List.size_toArray, List.length_map]; omega)) (by first | rfl | (simp only [i64s, Value.cells, List.size_toArray, List.length_map]; omega)) (by first | rfl | simp [i64s, Value.cells, Value.oneCell']) ?_ | refine WL_stw5 (u := .agg _) (vs := _) (n := 14) hI rfl rfl rfl rfl rfl rfl (by kernel_rfl) (by first | rfl | (simp only [i64s, Value.cells, List.size_toArray, List.length_map]; omega)) (by first | rfl | (simp only [i64s, Value.cells, List.size_toArray, List.length_map]; omega)) (by first | rfl | simp [i64s, Value.cells, Value.oneCell']) ?_
      clear hI; intro w hI
      refine WL_nil ?_
      replace hI := hI.d0
      refine W_region ?_
      refine WL_val rfl rfl rfl (by first | exact rMoveI rfl rfl | exact rMove rfl) ?_
      refine WL_val rfl rfl rfl (by first | exact rInc rfl rfl rfl (by omega) | exact rAdd rfl rfl rfl (by omega) | exact rAddW rfl rfl rfl) ?_
      refine WL_val rfl rfl rfl (by first | exact rAsgnI rfl rfl | exact rAsgn rfl) ?_
      refine WL_nil ?_
      exact ⟨⟨k + 1, _, by omega, hlen.trans hl', ⟨rfl, rfl, rfl, rfl, trivial⟩, hI⟩, by show 30 - ((k + 1 : Nat) : Int).toNat < 30 - (k : Int).toNat; omega⟩
  · by_cases h1 : k < n
    · have h2 : ¬ k < 30 := fun h => hkn ⟨h1, h⟩
      refine W_seq ?_
      refine W_seq ?_
      refine W_region ?_
      refine WL_val rfl rfl rfl (by first | exact rMoveI rfl rfl | exact rMove rfl) ?_
      refine WL_val rfl rfl rfl (by first | exact rMoveS rfl rfl | exact rMove rfl) ?_
      refine WL_val rfl rfl rfl (rLen rfl Try.underlying22 rfl) ?_
      refine WL_val rfl rfl rfl (by first | exact rLssT rfl rfl rfl (by omega) | exact rLssF rfl rfl rfl (by omega) | exact rLss rfl rfl rfl) ?_
      refine WL_val rfl rfl rfl (by first | exact rMoveB rfl rfl | exact rMove rfl) ?_
      first | refine WL_val rfl rfl rfl (by first | exact rMoveI rfl rfl | exact rMove rfl) ?_ | refine WL_skip rfl rfl rfl ?_
      first | refine WL_val rfl rfl rfl (by first | exact rLssT rfl rfl rfl (by omega) | exact rLssF rfl rfl rfl (by omega) | exact rLss rfl rfl rfl) ?_ | refine WL_skip rfl rfl rfl ?_
      refine WL_val rfl rfl rfl (by first | exact rPickTB rfl rfl rfl | exact rPickFB rfl rfl rfl | exact rPickB rfl rfl rfl rfl) ?_
      refine WL_nil ?_
      refine W_cond false rfl ?_
      refine W_exit ?_
      refine W_seq ?_
      refine W_region ?_
      refine WL_val rfl rfl rfl (by first | exact rLdB (n := 14) rfl (by kernel_rfl) (by kernel_rfl) rfl (by first | rfl | (simp only [i64s, Value.cells, List.size_toArray, List.length_map]; omega)) hI.g0 | exact rLdB (n := 14) rfl (by kernel_rfl) (by kernel_rfl) rfl (by first | rfl | (simp only [i64s, Value.cells, List.size_toArray, List.length_map]; omega)) hI.g1 | exact rLdB (n := 14) rfl (by kernel_rfl) (by kernel_rfl) rfl (by first | rfl | (simp only [i64s, Value.cells, List.size_toArray, List.length_map]; omega)) hI.g2 | exact rLdB (n := 14) rfl (by kernel_rfl) (by kernel_rfl) rfl (by first | rfl | (simp only [i64s, Value.cells, List.size_toArray, List.length_map]; omega)) hI.g3 | exact rLdB (n := 14) rfl (by kernel_rfl) (by kernel_rfl) rfl (by first | rfl | (simp only [i64s, Value.cells, List.size_toArray, List.length_map]; omega)) hI.g4 | exact rLdB (n := 14) rfl (by kernel_rfl) (by kernel_rfl) rfl (by first | rfl | (simp only [i64s, Value.cells, List.size_toArray, List.length_map]; omega)) hI.g5) ?_
      first | refine WL_stw0 (u := .agg _) (vs := _) (n := 14) hI rfl rfl rfl rfl rfl rfl (by kernel_rfl) (by first | rfl | (simp only [i64s, Value.cells, List.size_toArray, List.length_map]; omega)) (by first | rfl | (simp only [i64s, Value.cells, List.size_toArray, List.length_map]; omega)) (by first | rfl | simp [i64s, Value.cells, Value.oneCell']) ?_ | refine WL_stw1 (u := .agg _) (vs := _) (n := 14) hI rfl rfl rfl rfl rfl rfl (by kernel_rfl) (by first | rfl | (simp only [i64s, Value.cells, List.size_toArray, List.length_map]; omega)) (by first | rfl | (simp only [i64s, Value.cells, List.size_toArray, List.length_map]; omega)) (by first | rfl | simp [i64s, Value.cells, Value.oneCell']) ?_ | refine WL_stw2 (u := .agg _) (vs := _) (n := 14) hI rfl rfl rfl rfl rfl rfl (by kernel_rfl) (by first | rfl | (simp only [i64s, Value.cells, List.size_toArray, List.length_map]; omega)) (by first | rfl | (simp only [i64s, Value.cells, List.size_toArray, List.length_map]; omega)) (by first | rfl | simp [i64s, Value.cells, Value.oneCell']) ?_ | refine WL_stw3 (u := .agg _) (vs := _) (n := 14) hI rfl rfl rfl rfl rfl rfl (by kernel_rfl) (by first | rfl | (simp only [i64s, Value.cells, List.size_toArray, List.length_map]; omega)) (by first | rfl | (simp only [i64s, Value.cells, List.size_toArray, List.length_map]; omega)) (by first | rfl | simp [i64s, Value.cells, Value.oneCell']) ?_ | refine WL_stw4 (u := .agg _) (vs := _) (n := 14) hI rfl rfl rfl rfl rfl rfl (by kernel_rfl) (by first | rfl | (simp only [i64s, Value.cells, List.size_toArray, List.length_map]; omega)) (by first | rfl | (simp only [i64s, Value.cells, List.size_toArray, List.length_map]; omega)) (by first | rfl | simp [i64s, Value.cells, Value.oneCell']) ?_ | refine WL_stw5 (u := .agg _) (vs := _) (n := 14) hI rfl rfl rfl rfl rfl rfl (by kernel_rfl) (by first | rfl | (simp only [i64s, Value.cells, List.size_toArray, List.length_map]; omega)) (by first | rfl | (simp only [i64s, Value.cells, List.size_toArray, List.length_map]; omega)) (by first | rfl | simp [i64s, Value.cells, Value.oneCell']) ?_
      clear hI; intro w hI
      refine WL_nil ?_
      refine W_ret ?_
      refine retC (n := 14) (t := 29) (.inr rfl) rfl rfl (by kernel_rfl) (by kernel_rfl) (by simp [i64s, Value.cells, hl']) hI.g1 ?_
      exact ⟨⟨l', hl', rfl⟩, hI.pu⟩
    · refine W_seq ?_
      refine W_seq ?_
      refine W_region ?_
      refine WL_val rfl rfl rfl (by first | exact rMoveI rfl rfl | exact rMove rfl) ?_
      refine WL_val rfl rfl rfl (by first | exact rMoveS rfl rfl | exact rMove rfl) ?_
      refine WL_val rfl rfl rfl (rLen rfl Try.underlying22 rfl) ?_
      refine WL_val rfl rfl rfl (by first | exact rLssT rfl rfl rfl (by omega) | exact rLssF rfl rfl rfl (by omega) | exact rLss rfl rfl rfl) ?_
      refine WL_val rfl rfl rfl (by first | exact rMoveB rfl rfl | exact rMove rfl) ?_
      first | refine WL_val rfl rfl rfl (by first | exact rMoveI rfl rfl | exact rMove rfl) ?_ | refine WL_skip rfl rfl rfl ?_
      first | refine WL_val rfl rfl rfl (by first | exact rLssT rfl rfl rfl (by omega) | exact rLssF rfl rfl rfl (by omega) | exact rLss rfl rfl rfl) ?_ | refine WL_skip rfl rfl rfl ?_
      refine WL_val rfl rfl rfl (by first | exact rPickTB rfl rfl rfl | exact rPickFB rfl rfl rfl | exact rPickB rfl rfl rfl rfl) ?_
      refine WL_nil ?_
      refine W_cond false rfl ?_
      refine W_exit ?_
      refine W_seq ?_
      refine W_region ?_
      refine WL_val rfl rfl rfl (by first | exact rLdB (n := 14) rfl (by kernel_rfl) (by kernel_rfl) rfl (by first | rfl | (simp only [i64s, Value.cells, List.size_toArray, List.length_map]; omega)) hI.g0 | exact rLdB (n := 14) rfl (by kernel_rfl) (by kernel_rfl) rfl (by first | rfl | (simp only [i64s, Value.cells, List.size_toArray, List.length_map]; omega)) hI.g1 | exact rLdB (n := 14) rfl (by kernel_rfl) (by kernel_rfl) rfl (by first | rfl | (simp only [i64s, Value.cells, List.size_toArray, List.length_map]; omega)) hI.g2 | exact rLdB (n := 14) rfl (by kernel_rfl) (by kernel_rfl) rfl (by first | rfl | (simp only [i64s, Value.cells, List.size_toArray, List.length_map]; omega)) hI.g3 | exact rLdB (n := 14) rfl (by kernel_rfl) (by kernel_rfl) rfl (by first | rfl | (simp only [i64s, Value.cells, List.size_toArray, List.length_map]; omega)) hI.g4 | exact rLdB (n := 14) rfl (by kernel_rfl) (by kernel_rfl) rfl (by first | rfl | (simp only [i64s, Value.cells, List.size_toArray, List.length_map]; omega)) hI.g5) ?_
      first | refine WL_stw0 (u := .agg _) (vs := _) (n := 14) hI rfl rfl rfl rfl rfl rfl (by kernel_rfl) (by first | rfl | (simp only [i64s, Value.cells, List.size_toArray, List.length_map]; omega)) (by first | rfl | (simp only [i64s, Value.cells, List.size_toArray, List.length_map]; omega)) (by first | rfl | simp [i64s, Value.cells, Value.oneCell']) ?_ | refine WL_stw1 (u := .agg _) (vs := _) (n := 14) hI rfl rfl rfl rfl rfl rfl (by kernel_rfl) (by first | rfl | (simp only [i64s, Value.cells, List.size_toArray, List.length_map]; omega)) (by first | rfl | (simp only [i64s, Value.cells, List.size_toArray, List.length_map]; omega)) (by first | rfl | simp [i64s, Value.cells, Value.oneCell']) ?_ | refine WL_stw2 (u := .agg _) (vs := _) (n := 14) hI rfl rfl rfl rfl rfl rfl (by kernel_rfl) (by first | rfl | (simp only [i64s, Value.cells, List.size_toArray, List.length_map]; omega)) (by first | rfl | (simp only [i64s, Value.cells, List.size_toArray, List.length_map]; omega)) (by first | rfl | simp [i64s, Value.cells, Value.oneCell']) ?_ | refine WL_stw3 (u := .agg _) (vs := _) (n := 14) hI rfl rfl rfl rfl rfl rfl (by kernel_rfl) (by first | rfl | (simp only [i64s, Value.cells, List.size_toArray, List.length_map]; omega)) (by first | rfl | (simp only [i64s, Value.cells, List.size_toArray, List.length_map]; omega)) (by first | rfl | simp [i64s, Value.cells, Value.oneCell']) ?_ | refine WL_stw4 (u := .agg _) (vs := _) (n := 14) hI rfl rfl rfl rfl rfl rfl (by kernel_rfl) (by first | rfl | (simp only [i64s, Value.cells, List.size_toArray, List.length_map]; omega)) (by first | rfl | (simp only [i64s, Value.cells, List.size_toArray, List.length_map]; omega)) (by first | rfl | simp [i64s, Value.cells, Value.oneCell']) ?_ | refine WL_stw5 (u := .agg _) (vs := _) (n := 14) hI rfl rfl rfl rfl rfl rfl (by kernel_rfl) (by first | rfl | (simp only [i64s, Value.cells, List.size_toArray, List.length_map]; omega)) (by first | rfl | (simp only [i64s, Value.cells, List.size_toArray, List.length_map]; omega)) (by first | rfl | simp [i64s, Value.cells, Value.oneCell']) ?_
      clear hI; intro w hI
      refine WL_nil ?_
      refine W_ret ?_
      refine retC (n := 14) (t := 29) (.inr rfl) rfl rfl (by kernel_rfl) (by kernel_rfl) (by simp [i64s, Value.cells, hl']) hI.g1 ?_
      exact ⟨⟨l', hl', rfl⟩, hI.pu⟩
set_option maxHeartbeats 2000000 in
theorem counted_any (w0 : World) : Calls Try.prog 6 #[] w0 fun en w' => en = .returned (.bool true) ∧ Pure w0 w' := by
  have hI := Inv.start (fun _ => False) w0
  refine calls_of_W (N := Try.f6.ntmps) Try.func6 rfl rfl rfl ?_
  refine W_seq ?_
  refine W_region ?_
  refine WL_val rfl rfl rfl (by first | exact rAsgnB rfl rfl | exact rAsgn rfl) ?_
  refine WL_nil ?_
  refine W_seq ?_
  refine W_region ?_
  refine WL_alloc (u := .agg #[.int .i64 0, .int .i64 0, .int .i64 0, .int .i64 0, .int .i64 0, .int .i64 0, .int .i64 0, .int .i64 0, .int .i64 0, .int .i64 0, .int .i64 0, .int .i64 0, .int .i64 0, .int .i64 0]) (vs := #[.int .i64 0, .int .i64 0, .int .i64 0, .int .i64 0, .int .i64 0, .int .i64 0, .int .i64 0, .int .i64 0, .int .i64 0, .int .i64 0, .int .i64 0, .int .i64 0, .int .i64 0, .int .i64 0]) hI rfl rfl rfl rfl (by kernel_rfl) rfl ?_
  clear hI; rintro b1 w - - hI
  refine WL_nil ?_
  have hI : Inv (fun _ => False) w0 _ [B b1 29 (i64s (List.replicate 14 0)).toArray] := hI
  have z1 : (List.replicate 14 (0 : Int)).length = 14 := rfl
  have z2 := addC_len (List.replicate 14 0) 1 5
  have z3 := addC_len (List.replicate 14 0) 2 (-3)
  refine W_seq ?_
  refine W_region ?_
  refine WL_val rfl rfl rfl (by first | exact rLdB (n := 14) rfl (by kernel_rfl) (by kernel_rfl) rfl (by first | rfl | (simp only [i64s, Value.cells, List.size_toArray, List.length_map]; omega)) hI.g0 | exact rLdB (n := 14) rfl (by kernel_rfl) (by kernel_rfl) rfl (by first | rfl | (simp only [i64s, Value.cells, List.size_toArray, List.length_map]; omega)) hI.g1 | exact rLdB (n := 14) rfl (by kernel_rfl) (by kernel_rfl) rfl (by first | rfl | (simp only [i64s, Value.cells, List.size_toArray, List.length_map]; omega)) hI.g2 | exact rLdB (n := 14) rfl (by kernel_rfl) (by kernel_rfl) rfl (by first | rfl | (simp only [i64s, Value.cells, List.size_toArray, List.length_map]; omega)) hI.g3 | exact rLdB (n := 14) rfl (by kernel_rfl) (by kernel_rfl) rfl (by first | rfl | (simp only [i64s, Value.cells, List.size_toArray, List.length_map]; omega)) hI.g4 | exact rLdB (n := 14) rfl (by kernel_rfl) (by kernel_rfl) rfl (by first | rfl | (simp only [i64s, Value.cells, List.size_toArray, List.length_map]; omega)) hI.g5) ?_
  refine WL_call rfl rfl rfl (rCall (vs := [.agg _, .int .i64 _, .int .i64 _]) rfl Try.func18 rfl rfl rfl) ?_
  refine (add_any (List.replicate 14 0) 1 5 _ rfl ⟨by omega, by omega, by omega⟩).mono ?_
  rintro e w1 ⟨rfl, hp⟩
  refine ⟨_, rfl, ?_⟩
  replace hI := hI.pure hp
  refine WL_val rfl rfl rfl (by first | exact rMoveT rfl rfl | exact rMove rfl) ?_
  refine WL_val rfl rfl rfl (rExtr rfl rfl rfl) ?_
  refine WL_val rfl rfl rfl (rExtr rfl rfl rfl) ?_
  refine WL_alloc (u := .agg #[.int .i64 0, .int .i64 0, .int .i64 0, .int .i64 0, .int .i64 0, .int .i64 0, .int .i64 0, .int .i64 0, .int .i64 0, .int .i64 0, .int .i64 0, .int .i64 0, .int .i64 0, .int .i64 0]) (vs := #[.int .i64 0, .int .i64 0, .int .i64 0, .int .i64 0, .int .i64 0, .int .i64 0, .int .i64 0, .int .i64 0, .int .i64 0, .int .i64 0, .int .i64 0, .int .i64 0, .int .i64 0, .int .i64 0]) hI rfl rfl rfl rfl (by kernel_rfl) rfl ?_
  clear hI; rintro b2 w - - hI
  first | refine WL_stw0 (u := .agg _) (vs := _) (n := 14) hI rfl rfl rfl rfl rfl rfl (by kernel_rfl) (by first | rfl | (simp only [i64s, Value.cells, List.size_toArray, List.length_map]; omega)) (by first | rfl | (simp only [i64s, Value.cells, List.size_toArray, List.length_map]; omega)) (by first | rfl | simp [i64s, Value.cells, Value.oneCell']) ?_ | refine WL_stw1 (u := .agg _) (vs := _) (n := 14) hI rfl rfl rfl rfl rfl rfl (by kernel_rfl) (by first | rfl | (simp only [i64s, Value.cells, List.size_toArray, List.length_map]; omega)) (by first | rfl | (simp only [i64s, Value.cells, List.size_toArray, List.length_map]; omega)) (by first | rfl | simp [i64s, Value.cells, Value.oneCell']) ?_ | refine WL_stw2 (u := .agg _) (vs := _) (n := 14) hI rfl rfl rfl rfl rfl rfl (by kernel_rfl) (by first | rfl | (simp only [i64s, Value.cells, List.size_toArray, List.length_map]; omega)) (by first | rfl | (simp only [i64s, Value.cells, List.size_toArray, List.length_map]; omega)) (by first | rfl | simp [i64s, Value.cells, Value.oneCell']) ?_ | refine WL_stw3 (u := .agg _) (vs := _) (n := 14) hI rfl rfl rfl rfl rfl rfl (by kernel_rfl) (by first | rfl | (simp only [i64s, Value.cells, List.size_toArray, List.length_map]; omega)) (by first | rfl | (simp only [i64s, Value.cells, List.size_toArray, List.length_map]; omega)) (by first | rfl | simp [i64s, Value.cells, Value.oneCell']) ?_ | refine WL_stw4 (u := .agg _) (vs := _) (n := 14) hI rfl rfl rfl rfl rfl rfl (by kernel_rfl) (by first | rfl | (simp only [i64s, Value.cells, List.size_toArray, List.length_map]; omega)) (by first | rfl | (simp only [i64s, Value.cells, List.size_toArray, List.length_map]; omega)) (by first | rfl | simp [i64s, Value.cells, Value.oneCell']) ?_ | refine WL_stw5 (u := .agg _) (vs := _) (n := 14) hI rfl rfl rfl rfl rfl rfl (by kernel_rfl) (by first | rfl | (simp only [i64s, Value.cells, List.size_toArray, List.length_map]; omega)) (by first | rfl | (simp only [i64s, Value.cells, List.size_toArray, List.length_map]; omega)) (by first | rfl | simp [i64s, Value.cells, Value.oneCell']) ?_
  clear hI; intro w hI
  refine WL_val rfl rfl rfl (by first | exact rAsgnN rfl rfl | exact rAsgnE rfl rfl | exact rAsgn rfl) ?_
  refine WL_nil ?_
  refine W_seq ?_
  refine W_region ?_
  refine WL_val rfl rfl rfl (by first | exact rLdB (n := 14) rfl (by kernel_rfl) (by kernel_rfl) rfl (by first | rfl | (simp only [i64s, Value.cells, List.size_toArray, List.length_map]; omega)) hI.g0 | exact rLdB (n := 14) rfl (by kernel_rfl) (by kernel_rfl) rfl (by first | rfl | (simp only [i64s, Value.cells, List.size_toArray, List.length_map]; omega)) hI.g1 | exact rLdB (n := 14) rfl (by kernel_rfl) (by kernel_rfl) rfl (by first | rfl | (simp only [i64s, Value.cells, List.size_toArray, List.length_map]; omega)) hI.g2 | exact rLdB (n := 14) rfl (by kernel_rfl) (by kernel_rfl) rfl (by first | rfl | (simp only [i64s, Value.cells, List.size_toArray, List.length_map]; omega)) hI.g3 | exact rLdB (n := 14) rfl (by kernel_rfl) (by kernel_rfl) rfl (by first | rfl | (simp only [i64s, Value.cells, List.size_toArray, List.length_map]; omega)) hI.g4 | exact rLdB (n := 14) rfl (by kernel_rfl) (by kernel_rfl) rfl (by first | rfl | (simp only [i64s, Value.cells, List.size_toArray, List.length_map]; omega)) hI.g5) ?_
  refine WL_call rfl rfl rfl (rCall (vs := [.agg _, .int .i64 _, .int .i64 _]) rfl Try.func18 rfl rfl rfl) ?_
  refine (add_any (List.replicate 14 0) 2 (-3) _ rfl ⟨by omega, by omega, by omega⟩).mono ?_
  rintro e w1 ⟨rfl, hp⟩
  refine ⟨_, rfl, ?_⟩
  replace hI := hI.pure hp
  refine WL_val rfl rfl rfl (by first | exact rMoveT rfl rfl | exact rMove rfl) ?_
  refine WL_val rfl rfl rfl (rExtr rfl rfl rfl) ?_
  refine WL_val rfl rfl rfl (rExtr rfl rfl rfl) ?_
  refine WL_alloc (u := .agg #[.int .i64 0, .int .i64 0, .int .i64 0, .int .i64 0, .int .i64 0, .int .i64 0, .int .i64 0, .int .i64 0, .int .i64 0, .int .i64 0, .int .i64 0, .int .i64 0, .int .i64 0, .int .i64 0]) (vs := #[.int .i64 0, .int .i64 0, .int .i64 0, .int .i64 0, .int .i64 0, .int .i64 0, .int .i64 0, .int .i64 0, .int .i64 0, .int .i64 0, .int .i64 0, .int .i64 0, .int .i64 0, .int .i64 0]) hI rfl rfl rfl rfl (by kernel_rfl) rfl ?_
  clear hI; rintro b4 w - - hI
  first | refine WL_stw0 (u := .agg _) (vs := _) (n := 14) hI rfl rfl rfl rfl rfl rfl (by kernel_rfl) (by first | rfl | (simp only [i64s, Value.cells, List.size_toArray, List.length_map]; omega)) (by first | rfl | (simp only [i64s, Value.cells, List.size_toArray, List.length_map]; omega)) (by first | rfl | simp [i64s, Value.cells, Value.oneCell']) ?_ | refine WL_stw1 (u := .agg _) (vs := _) (n := 14) hI rfl rfl rfl rfl rfl rfl (by kernel_rfl) (by first | rfl | (simp only [i64s, Value.cells, List.size_toArray, List.length_map]; omega)) (by first | rfl | (simp only [i64s, Value.cells, List.size_toArray, List.length_map]; omega)) (by first | rfl | simp [i64s, Value.cells, Value.oneCell']) ?_ | refine WL_stw2 (u := .agg _) (vs := _) (n := 14) hI rfl rfl rfl rfl rfl rfl (by kernel_rfl) (by first | rfl | (simp only [i64s, Value.cells, List.size_toArray, List.length_map]; omega)) (by first | rfl | (simp only [i64s, Value.cells, List.size_toArray, List.length_map]; omega)) (by first | rfl | simp [i64s, Value.cells, Value.oneCell']) ?_ | refine WL_stw3 (u := .agg _) (vs := _) (n := 14) hI rfl rfl rfl rfl rfl rfl (by kernel_rfl) (by first | rfl | (simp only [i64s, Value.cells, List.size_toArray, List.length_map]; omega)) (by first | rfl | (simp only [i64s, Value.cells, List.size_toArray, List.length_map]; omega)) (by first | rfl | simp [i64s, Value.cells, Value.oneCell']) ?_ | refine WL_stw4 (u := .agg _) (vs := _) (n := 14) hI rfl rfl rfl rfl rfl rfl (by kernel_rfl) (by first | rfl | (simp only [i64s, Value.cells, List.size_toArray, List.length_map]; omega)) (by first | rfl | (simp only [i64s, Value.cells, List.size_toArray, List.length_map]; omega)) (by first | rfl | simp [i64s, Value.cells, Value.oneCell']) ?_ | refine WL_stw5 (u := .agg _) (vs := _) (n := 14) hI rfl rfl rfl rfl rfl rfl (by kernel_rfl) (by first | rfl | (simp only [i64s, Value.cells, List.size_toArray, List.length_map]; omega)) (by first | rfl | (simp only [i64s, Value.cells, List.size_toArray, List.length_map]; omega)) (by first | rfl | simp [i64s, Value.cells, Value.oneCell']) ?_
  clear hI; intro w hI
  refine WL_val rfl rfl rfl (by first | exact rAsgnN rfl rfl | exact rAsgnE rfl rfl | exact rAsgn rfl) ?_
  refine WL_nil ?_
  rw [z1] at z2 z3
  refine W_seq ?_
  refine W_region ?_
  refine WL_val rfl rfl rfl (by first | exact rMoveN rfl rfl | exact rMoveE rfl rfl | exact rMove rfl) ?_
  refine WL_val rfl rfl rfl (by first | exact rIfaceEq rfl Try.underlying40 rfl rfl | exact rNilEq rfl Try.underlying40 rfl) ?_
  refine WL_val rfl rfl rfl (by first | exact rMoveB rfl rfl | exact rMove rfl) ?_
  first | refine WL_val rfl rfl rfl (by first | exact rMoveN rfl rfl | exact rMoveE rfl rfl | exact rMove rfl) ?_ | refine WL_skip rfl rfl rfl ?_
  first | refine WL_val rfl rfl rfl (by first | exact rIfaceEq rfl Try.underlying40 rfl rfl | exact rNilEq rfl Try.underlying40 rfl) ?_ | refine WL_skip rfl rfl rfl ?_
  refine WL_val rfl rfl rfl (by first | exact rPickTB rfl rfl rfl | exact rPickFB rfl rfl rfl | exact rPickB rfl rfl rfl rfl) ?_
  refine WL_val rfl rfl rfl (by first | exact rMoveB rfl rfl | exact rMove rfl) ?_
  first | refine WL_val rfl rfl rfl (by first | exact rLdB (n := 14) rfl (by kernel_rfl) (by kernel_rfl) rfl (by first | rfl | (simp only [i64s, Value.cells, List.size_toArray, List.length_map]; omega)) hI.g0 | exact rLdB (n := 14) rfl (by kernel_rfl) (by kernel_rfl) rfl (by first | rfl | (simp only [i64s, Value.cells, List.size_toArray, List.length_map]; omega)) hI.g1 | exact rLdB (n := 14) rfl (by kernel_rfl) (by kernel_rfl) rfl (by first | rfl | (simp only [i64s, Value.cells, List.size_toArray, List.length_map]; omega)) hI.g2 | exact rLdB (n := 14) rfl (by kernel_rfl) (by kernel_rfl) rfl (by first | rfl | (simp only [i64s, Value.cells, List.size_toArray, List.length_map]; omega)) hI.g3 | exact rLdB (n := 14) rfl (by kernel_rfl) (by kernel_rfl) rfl (by first | rfl | (simp only [i64s, Value.cells, List.size_toArray, List.length_map]; omega)) hI.g4 | exact rLdB (n := 14) rfl (by kernel_rfl) (by kernel_rfl) rfl (by first | rfl | (simp only [i64s, Value.cells, List.size_toArray, List.length_map]; omega)) hI.g5) ?_ | refine WL_skip rfl rfl rfl ?_
  first | refine WL_val rfl rfl rfl (by first | exact rLdB (n := 14) rfl (by kernel_rfl) (by kernel_rfl) rfl (by first | rfl | (simp only [i64s, Value.cells, List.size_toArray, List.length_map]; omega)) hI.g0 | exact rLdB (n := 14) rfl (by kernel_rfl) (by kernel_rfl) rfl (by first | rfl | (simp only [i64s, Value.cells, List.size_toArray, List.length_map]; omega)) hI.g1 | exact rLdB (n := 14) rfl (by kernel_rfl) (by kernel_rfl) rfl (by first | rfl | (simp only [i64s, Value.cells, List.size_toArray, List.length_map]; omega)) hI.g2 | exact rLdB (n := 14) rfl (by kernel_rfl) (by kernel_rfl) rfl (by first | rfl | (simp only [i64s, Value.cells, List.size_toArray, List.length_map]; omega)) hI.g3 | exact rLdB (n := 14) rfl (by kernel_rfl) (by kernel_rfl) rfl (by first | rfl | (simp only [i64s, Value.cells, List.size_toArray, List.length_map]; omega)) hI.g4 | exact rLdB (n := 14) rfl (by kernel_rfl) (by kernel_rfl) rfl (by first | rfl | (simp only [i64s, Value.cells, List.size_toArray, List.length_map]; omega)) hI.g5) ?_ | refine WL_skip rfl rfl rfl ?_
  refine WL_call rfl rfl rfl (rCall (vs := [.agg _, .agg _]) rfl Try.func19 rfl rfl rfl) ?_
  refine (join_any (addC (List.replicate 14 0) 1 5) (addC (List.replicate 14 0) 2 (-3)) _ z2 z3).mono ?_
  rintro e w1 ⟨rfl, hp⟩
  refine ⟨_, rfl, ?_⟩
  replace hI := hI.pure hp
  refine WL_call rfl rfl rfl (rCall (vs := [.agg _]) rfl Try.func20 rfl rfl rfl) ?_
  refine (value_any (joinC (addC (List.replicate 14 0) 1 5) (addC (List.replicate 14 0) 2 (-3))) _ (jk_len ..)).mono ?_
  rintro e w1 ⟨rfl, hp⟩
  refine ⟨_, rfl, ?_⟩
  replace hI := hI.pure hp
  first | refine WL_val rfl rfl rfl (rEqlT rfl rfl rfl (by decide)) ?_ | refine WL_skip rfl rfl rfl ?_
  refine WL_val rfl rfl rfl (by first | exact rPickTB rfl rfl rfl | exact rPickFB rfl rfl rfl | exact rPickB rfl rfl rfl rfl) ?_
  refine WL_val rfl rfl rfl (by first | exact rMoveB rfl rfl | exact rMove rfl) ?_
  first | refine WL_val rfl rfl rfl (by first | exact rLdB (n := 14) rfl (by kernel_rfl) (by kernel_rfl) rfl (by first | rfl | (simp only [i64s, Value.cells, List.size_toArray, List.length_map]; omega)) hI.g0 | exact rLdB (n := 14) rfl (by kernel_rfl) (by kernel_rfl) rfl (by first | rfl | (simp only [i64s, Value.cells, List.size_toArray, List.length_map]; omega)) hI.g1 | exact rLdB (n := 14) rfl (by kernel_rfl) (by kernel_rfl) rfl (by first | rfl | (simp only [i64s, Value.cells, List.size_toArray, List.length_map]; omega)) hI.g2 | exact rLdB (n := 14) rfl (by kernel_rfl) (by kernel_rfl) rfl (by first | rfl | (simp only [i64s, Value.cells, List.size_toArray, List.length_map]; omega)) hI.g3 | exact rLdB (n := 14) rfl (by kernel_rfl) (by kernel_rfl) rfl (by first | rfl | (simp only [i64s, Value.cells, List.size_toArray, List.length_map]; omega)) hI.g4 | exact rLdB (n := 14) rfl (by kernel_rfl) (by kernel_rfl) rfl (by first | rfl | (simp only [i64s, Value.cells, List.size_toArray, List.length_map]; omega)) hI.g5) ?_ | refine WL_skip rfl rfl rfl ?_
  first | refine WL_val rfl rfl rfl (by first | exact rLdB (n := 14) rfl (by kernel_rfl) (by kernel_rfl) rfl (by first | rfl | (simp only [i64s, Value.cells, List.size_toArray, List.length_map]; omega)) hI.g0 | exact rLdB (n := 14) rfl (by kernel_rfl) (by kernel_rfl) rfl (by first | rfl | (simp only [i64s, Value.cells, List.size_toArray, List.length_map]; omega)) hI.g1 | exact rLdB (n := 14) rfl (by kernel_rfl) (by kernel_rfl) rfl (by first | rfl | (simp only [i64s, Value.cells, List.size_toArray, List.length_map]; omega)) hI.g2 | exact rLdB (n := 14) rfl (by kernel_rfl) (by kernel_rfl) rfl (by first | rfl | (simp only [i64s, Value.cells, List.size_toArray, List.length_map]; omega)) hI.g3 | exact rLdB (n := 14) rfl (by kernel_rfl) (by kernel_rfl) rfl (by first | rfl | (simp only [i64s, Value.cells, List.size_toArray, List.length_map]; omega)) hI.g4 | exact rLdB (n := 14) rfl (by kernel_rfl) (by kernel_rfl) rfl (by first | rfl | (simp only [i64s, Value.cells, List.size_toArray, List.length_map]; omega)) hI.g5) ?_ | refine WL_skip rfl rfl rfl ?_
  refine WL_call rfl rfl rfl (rCall (vs := [.agg _, .agg _]) rfl Try.func21 rfl rfl rfl) ?_
  refine (same_any (addC (List.replicate 14 0) 1 5) (addC (List.replicate 14 0) 2 (-3)) _ z2 z3).mono ?_
  rintro e w1 ⟨rfl, hp⟩
  refine ⟨_, rfl, ?_⟩
  replace hI := hI.pure hp
  rw [show decide (addC (List.replicate 14 0) 1 5 = addC (List.replicate 14 0) 2 (-3)) = false from by decide]
  first | refine WL_val rfl rfl rfl (by first | exact rNotT rfl rfl | exact rNotF rfl rfl | exact rNot rfl rfl) ?_ | refine WL_skip rfl rfl rfl ?_
  refine WL_val rfl rfl rfl (by first | exact rPickTB rfl rfl rfl | exact rPickFB rfl rfl rfl | exact rPickB rfl rfl rfl rfl) ?_
  refine WL_val rfl rfl rfl (by first | exact rAsgnB rfl rfl | exact rAsgn rfl) ?_
  refine WL_nil ?_
  refine W_ret ?_
  exact ret1 0 (.inr rfl) rfl ⟨rfl, hI.pu⟩
end Go.Proofs.Ytkfciehgjhgmeaa
