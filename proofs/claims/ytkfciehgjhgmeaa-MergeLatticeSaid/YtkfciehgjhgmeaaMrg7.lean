/- merge: All and lattice at Last. -/
import Derived.Test.YtkfciehgjhgmeaaMrg6
namespace Go.Proofs.Ytkfciehgjhgmeaa
open Go.RowKit
set_option linter.unusedVariables false
set_option linter.unusedSimpArgs false

set_option maxHeartbeats 2000000 in
theorem allL_any (l : List Int) (xs : List (List Int)) (g n : Nat) (w0 : World) (hl : l.length = 3) (hxs : ∀ x ∈ xs, x.length = 3) (hn : xs.length = n) (hn1 : n ≤ 1000)
    (hc : ∀ (i : Nat) x, xs[i]? = some x → ∀ (j : Nat) u, (i64s x)[j]? = some u → w0.cell? ⟨g, 0 + i * 3 + j, none⟩ = some u) :
    Calls Try.prog 23 #[.agg (i64s l).toArray, .slice (some ⟨g, 0, none⟩) n n] w0 fun en w' => en = .returned (.agg (i64s (xs.foldl joinL l)).toArray) ∧ Pure w0 w' := by
  have hI := Inv.start (fun _ => False) w0
  refine calls_of_W (N := Try.f23.ntmps) Try.func23 rfl rfl rfl ?_
  refine W_seq ?_
  refine W_region ?_
  refine WL_box (u := .agg _) (vs := _) hI rfl rfl rfl rfl rfl rfl ?_
  clear hI; rintro b2 w - - hI
  refine WL_alloc (u := .agg #[.int .i64 0, .int .i64 0, .int .i64 0]) (vs := #[.int .i64 0, .int .i64 0, .int .i64 0]) hI rfl rfl rfl rfl (by kernel_rfl) rfl ?_
  clear hI; rintro b4 w - - hI
  refine WL_nil ?_
  refine W_seq ?_
  refine W_seq ?_
  refine W_region ?_
  refine WL_val rfl rfl rfl (by first | exact rMoveS rfl rfl | exact rMove rfl) ?_
  refine WL_val rfl rfl rfl (rLen rfl Try.underlying72 rfl) ?_
  refine WL_val rfl rfl rfl (by first | exact rMoveI rfl rfl | exact rMove rfl) ?_
  refine WL_nil ?_
  refine W_block ?_
  refine W_loop (fun ρ w => ∃ (k : Nat), k ≤ n ∧ ((xs.take k).foldl joinL l).length = 3 ∧ Has ρ [(9, .int .i64 k), (8, .int .i64 n), (7, .slice (some ⟨g, 0, none⟩) n n), (2, .pointer (some ⟨b2, 0, none⟩)), (4, .pointer (some ⟨b4, 0, none⟩))] ∧ Inv (fun _ => False) w0 w [B b4 24 (rep (.int .i64 0) 3), B b2 24 (i64s ((xs.take k).foldl joinL l)).toArray]) (fun ρ _ => n - cnt (ρ 9))
    ⟨0, by omega, hl, ⟨rfl, rfl, rfl, rfl, rfl, trivial⟩, hI⟩ ?_
  clear hI
  rintro ρ w ⟨k, hk, hcur, hH, hI⟩
  obtain ⟨σ, rfl⟩ := hH.open
  by_cases hkn : k < n
  · obtain ⟨x, hx⟩ : ∃ x, xs[k]? = some x := ⟨_, List.getElem?_eq_getElem (by omega)⟩
    have hxl := hxs x (List.mem_of_getElem? hx)
    have hcx := hc k x hx
    have hnext : (xs.take (k + 1)).foldl joinL l = joinL ((xs.take k).foldl joinL l) x := by
      rw [List.take_add_one, hx, List.foldl_append]
      rfl
    refine W_seq ?_
    refine W_region ?_
    refine WL_val rfl rfl rfl (by first | exact rLssT rfl rfl rfl (by omega) | exact rLssF rfl rfl rfl (by omega) | exact rLss rfl rfl rfl) ?_
    refine WL_nil ?_
    refine W_seq ?_
    refine W_cond true rfl ?_
    refine W_skip ?_
    refine W_seq ?_
    refine W_block ?_
    refine W_seq ?_
    refine W_region ?_
    refine WL_val rfl rfl rfl (rIdx (sz := 3) rfl Try.underlying72 (by kernel_rfl) rfl rfl (by omega)) ?_
    refine WL_val rfl rfl rfl (rLdA (n := 3) (l := i64s x) rfl (by kernel_rfl) (by kernel_rfl) rfl (by simp [i64s, hxl]) (fun j u hj => hI.oldp (hcx j u hj))) ?_
    refine WL_alloc (u := .agg #[.int .i64 0, .int .i64 0, .int .i64 0]) (vs := #[.int .i64 0, .int .i64 0, .int .i64 0]) hI rfl rfl rfl rfl (by kernel_rfl) rfl ?_
    clear hI; rintro b6 w - - hI
    first | refine WL_stw0 (u := .agg _) (vs := _) (n := 3) hI rfl rfl rfl rfl rfl rfl (by kernel_rfl) (by first | rfl | (simp only [i64s, Value.cells, List.size_toArray, List.length_map]; omega)) (by first | rfl | (simp only [i64s, Value.cells, List.size_toArray, List.length_map]; omega)) (by first | rfl | simp [i64s, Value.cells, Value.oneCell']) ?_ | refine WL_stw1 (u := .agg _) (vs := _) (n := 3) hI rfl rfl rfl rfl rfl rfl (by kernel_rfl) (by first | rfl | (simp only [i64s, Value.cells, List.size_toArray, List.length_map]; omega)) (by first | rfl | (simp only [i64s, Value.cells, List.size_toArray, List.length_map]; omega)) (by first | rfl | simp [i64s, Value.cells, Value.oneCell']) ?_ | refine WL_stw2 (u := .agg _) (vs := _) (n := 3) hI rfl rfl rfl rfl rfl rfl (by kernel_rfl) (by first | rfl | (simp only [i64s, Value.cells, List.size_toArray, List.length_map]; omega)) (by first | rfl | (simp only [i64s, Value.cells, List.size_toArray, List.length_map]; omega)) (by first | rfl | simp [i64s, Value.cells, Value.oneCell']) ?_ | refine WL_stw3 (u := .agg _) (vs := _) (n := 3) hI rfl rfl rfl rfl rfl rfl (by kernel_rfl) (by first | rfl | (simp only [i64s, Value.cells, List.size_toArray, List.length_map]; omega)) (by first | rfl | (simp only [i64s, Value.cells, List.size_toArray, List.length_map]; omega)) (by first | rfl | simp [i64s, Value.cells, Value.oneCell']) ?_ | refine WL_stw4 (u := .agg _) (vs := _) (n := 3) hI rfl rfl rfl rfl rfl rfl (by kernel_rfl) (by first | rfl | (simp only [i64s, Value.cells, List.size_toArray, List.length_map]; omega)) (by first | rfl | (simp only [i64s, Value.cells, List.size_toArray, List.length_map]; omega)) (by first | rfl | simp [i64s, Value.cells, Value.oneCell']) ?_ | refine WL_stw5 (u := .agg _) (vs := _) (n := 3) hI rfl rfl rfl rfl rfl rfl (by kernel_rfl) (by first | rfl | (simp only [i64s, Value.cells, List.size_toArray, List.length_map]; omega)) (by first | rfl | (simp only [i64s, Value.cells, List.size_toArray, List.length_map]; omega)) (by first | rfl | simp [i64s, Value.cells, Value.oneCell']) ?_
    clear hI; intro w hI
    refine WL_nil ?_
    have hjl := joinL_len ((xs.take k).foldl joinL l) x hcur hxl
    refine W_region ?_
    refine WL_val rfl rfl rfl (by first | exact rLdB (n := 3) rfl (by kernel_rfl) (by kernel_rfl) rfl (by first | rfl | (simp only [i64s, Value.cells, List.size_toArray, List.length_map]; omega)) hI.g0 | exact rLdB (n := 3) rfl (by kernel_rfl) (by kernel_rfl) rfl (by first | rfl | (simp only [i64s, Value.cells, List.size_toArray, List.length_map]; omega)) hI.g1 | exact rLdB (n := 3) rfl (by kernel_rfl) (by kernel_rfl) rfl (by first | rfl | (simp only [i64s, Value.cells, List.size_toArray, List.length_map]; omega)) hI.g2 | exact rLdB (n := 3) rfl (by kernel_rfl) (by kernel_rfl) rfl (by first | rfl | (simp only [i64s, Value.cells, List.size_toArray, List.length_map]; omega)) hI.g3 | exact rLdB (n := 3) rfl (by kernel_rfl) (by kernel_rfl) rfl (by first | rfl | (simp only [i64s, Value.cells, List.size_toArray, List.length_map]; omega)) hI.g4 | exact rLdB (n := 3) rfl (by kernel_rfl) (by kernel_rfl) rfl (by first | rfl | (simp only [i64s, Value.cells, List.size_toArray, List.length_map]; omega)) hI.g5 | exact rLd3 rfl (by kernel_rfl) (by kernel_rfl) rfl (by first | exact hI.c0 rfl | exact hI.c1 rfl | exact hI.c2 rfl | exact hI.c3 rfl | exact hI.c4 rfl | exact hI.c5 rfl) (by first | exact hI.c0 rfl | exact hI.c1 rfl | exact hI.c2 rfl | exact hI.c3 rfl | exact hI.c4 rfl | exact hI.c5 rfl) (by first | exact hI.c0 rfl | exact hI.c1 rfl | exact hI.c2 rfl | exact hI.c3 rfl | exact hI.c4 rfl | exact hI.c5 rfl)) ?_
    refine WL_val rfl rfl rfl (rIface rfl Try.underlying24 rfl rfl) ?_
    refine WL_val rfl rfl rfl (by first | exact rLdB (n := 3) rfl (by kernel_rfl) (by kernel_rfl) rfl (by first | rfl | (simp only [i64s, Value.cells, List.size_toArray, List.length_map]; omega)) hI.g0 | exact rLdB (n := 3) rfl (by kernel_rfl) (by kernel_rfl) rfl (by first | rfl | (simp only [i64s, Value.cells, List.size_toArray, List.length_map]; omega)) hI.g1 | exact rLdB (n := 3) rfl (by kernel_rfl) (by kernel_rfl) rfl (by first | rfl | (simp only [i64s, Value.cells, List.size_toArray, List.length_map]; omega)) hI.g2 | exact rLdB (n := 3) rfl (by kernel_rfl) (by kernel_rfl) rfl (by first | rfl | (simp only [i64s, Value.cells, List.size_toArray, List.length_map]; omega)) hI.g3 | exact rLdB (n := 3) rfl (by kernel_rfl) (by kernel_rfl) rfl (by first | rfl | (simp only [i64s, Value.cells, List.size_toArray, List.length_map]; omega)) hI.g4 | exact rLdB (n := 3) rfl (by kernel_rfl) (by kernel_rfl) rfl (by first | rfl | (simp only [i64s, Value.cells, List.size_toArray, List.length_map]; omega)) hI.g5 | exact rLd3 rfl (by kernel_rfl) (by kernel_rfl) rfl (by first | exact hI.c0 rfl | exact hI.c1 rfl | exact hI.c2 rfl | exact hI.c3 rfl | exact hI.c4 rfl | exact hI.c5 rfl) (by first | exact hI.c0 rfl | exact hI.c1 rfl | exact hI.c2 rfl | exact hI.c3 rfl | exact hI.c4 rfl | exact hI.c5 rfl) (by first | exact hI.c0 rfl | exact hI.c1 rfl | exact hI.c2 rfl | exact hI.c3 rfl | exact hI.c4 rfl | exact hI.c5 rfl)) ?_
    refine WL_call rfl rfl rfl (rCallI (f := 74) (vs := [.agg _]) rfl rfl rfl (fun _ => by kernel_rfl)) ?_
    refine (joinL_any _ _ _ hcur hxl).mono ?_
    rintro e w1 ⟨rfl, hp⟩
    refine ⟨_, rfl, ?_⟩
    replace hI := hI.pure hp
    first | refine WL_stw0 (u := .agg _) (vs := _) (n := 3) hI rfl rfl rfl rfl rfl rfl (by kernel_rfl) (by first | rfl | (simp only [i64s, Value.cells, List.size_toArray, List.length_map]; omega)) (by first | rfl | (simp only [i64s, Value.cells, List.size_toArray, List.length_map]; omega)) (by first | rfl | simp [i64s, Value.cells, Value.oneCell']) ?_ | refine WL_stw1 (u := .agg _) (vs := _) (n := 3) hI rfl rfl rfl rfl rfl rfl (by kernel_rfl) (by first | rfl | (simp only [i64s, Value.cells, List.size_toArray, List.length_map]; omega)) (by first | rfl | (simp only [i64s, Value.cells, List.size_toArray, List.length_map]; omega)) (by first | rfl | simp [i64s, Value.cells, Value.oneCell']) ?_ | refine WL_stw2 (u := .agg _) (vs := _) (n := 3) hI rfl rfl rfl rfl rfl rfl (by kernel_rfl) (by first | rfl | (simp only [i64s, Value.cells, List.size_toArray, List.length_map]; omega)) (by first | rfl | (simp only [i64s, Value.cells, List.size_toArray, List.length_map]; omega)) (by first | rfl | simp [i64s, Value.cells, Value.oneCell']) ?_ | refine WL_stw3 (u := .agg _) (vs := _) (n := 3) hI rfl rfl rfl rfl rfl rfl (by kernel_rfl) (by first | rfl | (simp only [i64s, Value.cells, List.size_toArray, List.length_map]; omega)) (by first | rfl | (simp only [i64s, Value.cells, List.size_toArray, List.length_map]; omega)) (by first | rfl | simp [i64s, Value.cells, Value.oneCell']) ?_ | refine WL_stw4 (u := .agg _) (vs := _) (n := 3) hI rfl rfl rfl rfl rfl rfl (by kernel_rfl) (by first | rfl | (simp only [i64s, Value.cells, List.size_toArray, List.length_map]; omega)) (by first | rfl | (simp only [i64s, Value.cells, List.size_toArray, List.length_map]; omega)) (by first | rfl | simp [i64s, Value.cells, Value.oneCell']) ?_ | refine WL_stw5 (u := .agg _) (vs := _) (n := 3) hI rfl rfl rfl rfl rfl rfl (by kernel_rfl) (by first | rfl | (simp only [i64s, Value.cells, List.size_toArray, List.length_map]; omega)) (by first | rfl | (simp only [i64s, Value.cells, List.size_toArray, List.length_map]; omega)) (by first | rfl | simp [i64s, Value.cells, Value.oneCell']) ?_
    clear hI; intro w hI
    refine WL_nil ?_
    replace hI := hI.d0
    refine W_region ?_
    refine WL_val rfl rfl rfl (by first | exact rInc rfl rfl rfl (by omega) | exact rAdd rfl rfl rfl (by omega) | exact rAddW rfl rfl rfl) ?_
    refine WL_val rfl rfl rfl (by first | exact rMoveI rfl rfl | exact rMove rfl) ?_
    refine WL_nil ?_
    rw [← hnext] at hI hjl
    exact ⟨⟨k + 1, by omega, hjl, ⟨rfl, rfl, rfl, rfl, rfl, trivial⟩, hI⟩, by show n - ((k + 1 : Nat) : Int).toNat < n - (k : Int).toNat; omega⟩
  · obtain rfl : k = n := by omega
    rw [List.take_of_length_le (by omega)] at hI hcur
    refine W_seq ?_
    refine W_region ?_
    refine WL_val rfl rfl rfl (by first | exact rLssT rfl rfl rfl (by omega) | exact rLssF rfl rfl rfl (by omega) | exact rLss rfl rfl rfl) ?_
    refine WL_nil ?_
    refine W_seq ?_
    refine W_cond false rfl ?_
    refine W_exit ?_
    refine W_seq ?_
    refine W_region ?_
    refine WL_val rfl rfl rfl (by first | exact rLdB (n := 3) rfl (by kernel_rfl) (by kernel_rfl) rfl (by first | rfl | (simp only [i64s, Value.cells, List.size_toArray, List.length_map]; omega)) hI.g0 | exact rLdB (n := 3) rfl (by kernel_rfl) (by kernel_rfl) rfl (by first | rfl | (simp only [i64s, Value.cells, List.size_toArray, List.length_map]; omega)) hI.g1 | exact rLdB (n := 3) rfl (by kernel_rfl) (by kernel_rfl) rfl (by first | rfl | (simp only [i64s, Value.cells, List.size_toArray, List.length_map]; omega)) hI.g2 | exact rLdB (n := 3) rfl (by kernel_rfl) (by kernel_rfl) rfl (by first | rfl | (simp only [i64s, Value.cells, List.size_toArray, List.length_map]; omega)) hI.g3 | exact rLdB (n := 3) rfl (by kernel_rfl) (by kernel_rfl) rfl (by first | rfl | (simp only [i64s, Value.cells, List.size_toArray, List.length_map]; omega)) hI.g4 | exact rLdB (n := 3) rfl (by kernel_rfl) (by kernel_rfl) rfl (by first | rfl | (simp only [i64s, Value.cells, List.size_toArray, List.length_map]; omega)) hI.g5 | exact rLd3 rfl (by kernel_rfl) (by kernel_rfl) rfl (by first | exact hI.c0 rfl | exact hI.c1 rfl | exact hI.c2 rfl | exact hI.c3 rfl | exact hI.c4 rfl | exact hI.c5 rfl) (by first | exact hI.c0 rfl | exact hI.c1 rfl | exact hI.c2 rfl | exact hI.c3 rfl | exact hI.c4 rfl | exact hI.c5 rfl) (by first | exact hI.c0 rfl | exact hI.c1 rfl | exact hI.c2 rfl | exact hI.c3 rfl | exact hI.c4 rfl | exact hI.c5 rfl)) ?_
    first | refine WL_stw0 (u := .agg _) (vs := _) (n := 3) hI rfl rfl rfl rfl rfl rfl (by kernel_rfl) (by first | rfl | (simp only [i64s, Value.cells, List.size_toArray, List.length_map]; omega)) (by first | rfl | (simp only [i64s, Value.cells, List.size_toArray, List.length_map]; omega)) (by first | rfl | simp [i64s, Value.cells, Value.oneCell']) ?_ | refine WL_stw1 (u := .agg _) (vs := _) (n := 3) hI rfl rfl rfl rfl rfl rfl (by kernel_rfl) (by first | rfl | (simp only [i64s, Value.cells, List.size_toArray, List.length_map]; omega)) (by first | rfl | (simp only [i64s, Value.cells, List.size_toArray, List.length_map]; omega)) (by first | rfl | simp [i64s, Value.cells, Value.oneCell']) ?_ | refine WL_stw2 (u := .agg _) (vs := _) (n := 3) hI rfl rfl rfl rfl rfl rfl (by kernel_rfl) (by first | rfl | (simp only [i64s, Value.cells, List.size_toArray, List.length_map]; omega)) (by first | rfl | (simp only [i64s, Value.cells, List.size_toArray, List.length_map]; omega)) (by first | rfl | simp [i64s, Value.cells, Value.oneCell']) ?_ | refine WL_stw3 (u := .agg _) (vs := _) (n := 3) hI rfl rfl rfl rfl rfl rfl (by kernel_rfl) (by first | rfl | (simp only [i64s, Value.cells, List.size_toArray, List.length_map]; omega)) (by first | rfl | (simp only [i64s, Value.cells, List.size_toArray, List.length_map]; omega)) (by first | rfl | simp [i64s, Value.cells, Value.oneCell']) ?_ | refine WL_stw4 (u := .agg _) (vs := _) (n := 3) hI rfl rfl rfl rfl rfl rfl (by kernel_rfl) (by first | rfl | (simp only [i64s, Value.cells, List.size_toArray, List.length_map]; omega)) (by first | rfl | (simp only [i64s, Value.cells, List.size_toArray, List.length_map]; omega)) (by first | rfl | simp [i64s, Value.cells, Value.oneCell']) ?_ | refine WL_stw5 (u := .agg _) (vs := _) (n := 3) hI rfl rfl rfl rfl rfl rfl (by kernel_rfl) (by first | rfl | (simp only [i64s, Value.cells, List.size_toArray, List.length_map]; omega)) (by first | rfl | (simp only [i64s, Value.cells, List.size_toArray, List.length_map]; omega)) (by first | rfl | simp [i64s, Value.cells, Value.oneCell']) ?_
    clear hI; intro w hI
    refine WL_nil ?_
    refine W_ret ?_
    refine retC (n := 3) (t := 24) (.inr rfl) rfl rfl (by kernel_rfl) (by kernel_rfl) (by simp [i64s, Value.cells, hcur]) hI.g0 ?_
    exact ⟨rfl, hI.pu⟩

set_option maxHeartbeats 4000000 in
theorem latticeL_any (a b c : List Int) (w0 : World) (ha : a.length = 3) (hb : b.length = 3) (hc : c.length = 3) : Calls Try.prog 9 #[.agg (i64s a).toArray, .agg (i64s b).toArray, .agg (i64s c).toArray] w0 fun en w' => en = .returned (.bool true) ∧ Pure w0 w' := by
  have hI := Inv.start (fun _ => False) w0
  have hab := joinL_len a b ha hb
  have hba := joinL_len b a hb ha
  have haa := joinL_len a a ha ha
  have hbc := joinL_len b c hb hc
  have habc := joinL_len _ c hab hc
  have habc2 := joinL_len a _ ha hbc
  have hl1 : ([b, c].foldl joinL a).length = 3 := habc
  have hl2 : ([a, b, a].foldl joinL c).length = 3 := joinL_len _ _ (joinL_len _ _ (joinL_len _ _ hc ha) hb) ha
  refine calls_of_W (N := Try.f9.ntmps) Try.func9 rfl rfl rfl ?_
  refine W_seq ?_
  refine W_region ?_
  refine WL_box (u := .agg _) (vs := _) hI rfl rfl rfl rfl rfl rfl ?_
  clear hI; rintro b3 w - - hI
  refine WL_box (u := .agg _) (vs := _) hI rfl rfl rfl rfl rfl rfl ?_
  clear hI; rintro b4 w - - hI
  refine WL_box (u := .agg _) (vs := _) hI rfl rfl rfl rfl rfl rfl ?_
  clear hI; rintro b5 w - - hI
  refine WL_val rfl rfl rfl (by first | exact rAsgnB rfl rfl | exact rAsgn rfl) ?_
  refine WL_nil ?_
  refine W_seq ?_
  refine W_draw (by kernel_rfl) ?_
  refine WA_inv (T := []) hI.drew ?_
  intro Sx hSx hXS
  replace hI := hI.drew
  refine WT_take 0 rfl rfl (by kernel_rfl) (hXS _ hI) rfl (fun W hW => have hI := hSx W hW; (by first | exact rLdB (n := 3) rfl (by kernel_rfl) (by kernel_rfl) rfl (by first | rfl | (simp only [i64s, Value.cells, List.size_toArray, List.length_map]; omega)) hI.g0 | exact rLdB (n := 3) rfl (by kernel_rfl) (by kernel_rfl) rfl (by first | rfl | (simp only [i64s, Value.cells, List.size_toArray, List.length_map]; omega)) hI.g1 | exact rLdB (n := 3) rfl (by kernel_rfl) (by kernel_rfl) rfl (by first | rfl | (simp only [i64s, Value.cells, List.size_toArray, List.length_map]; omega)) hI.g2 | exact rLd3 rfl (by kernel_rfl) (by kernel_rfl) rfl (by first | exact hI.c0 rfl | exact hI.c1 rfl | exact hI.c2 rfl) (by first | exact hI.c0 rfl | exact hI.c1 rfl | exact hI.c2 rfl) (by first | exact hI.c0 rfl | exact hI.c1 rfl | exact hI.c2 rfl))) ?_
  refine WT_take 1 rfl rfl (by kernel_rfl) (hXS _ hI) rfl (fun W hW => have hI := hSx W hW; (rIface rfl Try.underlying24 rfl rfl)) ?_
  refine WT_take 2 rfl rfl (by kernel_rfl) (hXS _ hI) rfl (fun W hW => have hI := hSx W hW; (by first | exact rLdB (n := 3) rfl (by kernel_rfl) (by kernel_rfl) rfl (by first | rfl | (simp only [i64s, Value.cells, List.size_toArray, List.length_map]; omega)) hI.g0 | exact rLdB (n := 3) rfl (by kernel_rfl) (by kernel_rfl) rfl (by first | rfl | (simp only [i64s, Value.cells, List.size_toArray, List.length_map]; omega)) hI.g1 | exact rLdB (n := 3) rfl (by kernel_rfl) (by kernel_rfl) rfl (by first | rfl | (simp only [i64s, Value.cells, List.size_toArray, List.length_map]; omega)) hI.g2 | exact rLd3 rfl (by kernel_rfl) (by kernel_rfl) rfl (by first | exact hI.c0 rfl | exact hI.c1 rfl | exact hI.c2 rfl) (by first | exact hI.c0 rfl | exact hI.c1 rfl | exact hI.c2 rfl) (by first | exact hI.c0 rfl | exact hI.c1 rfl | exact hI.c2 rfl))) ?_
  refine WT_take 5 rfl rfl (by kernel_rfl) (hXS _ hI) rfl (fun W hW => have hI := hSx W hW; (by first | exact rLdB (n := 3) rfl (by kernel_rfl) (by kernel_rfl) rfl (by first | rfl | (simp only [i64s, Value.cells, List.size_toArray, List.length_map]; omega)) hI.g0 | exact rLdB (n := 3) rfl (by kernel_rfl) (by kernel_rfl) rfl (by first | rfl | (simp only [i64s, Value.cells, List.size_toArray, List.length_map]; omega)) hI.g1 | exact rLdB (n := 3) rfl (by kernel_rfl) (by kernel_rfl) rfl (by first | rfl | (simp only [i64s, Value.cells, List.size_toArray, List.length_map]; omega)) hI.g2 | exact rLd3 rfl (by kernel_rfl) (by kernel_rfl) rfl (by first | exact hI.c0 rfl | exact hI.c1 rfl | exact hI.c2 rfl) (by first | exact hI.c0 rfl | exact hI.c1 rfl | exact hI.c2 rfl) (by first | exact hI.c0 rfl | exact hI.c1 rfl | exact hI.c2 rfl))) ?_
  refine WT_take 6 rfl rfl (by kernel_rfl) (hXS _ hI) rfl (fun W hW => have hI := hSx W hW; (rIface rfl Try.underlying24 rfl rfl)) ?_
  refine WT_take 7 rfl rfl (by kernel_rfl) (hXS _ hI) rfl (fun W hW => have hI := hSx W hW; (by first | exact rLdB (n := 3) rfl (by kernel_rfl) (by kernel_rfl) rfl (by first | rfl | (simp only [i64s, Value.cells, List.size_toArray, List.length_map]; omega)) hI.g0 | exact rLdB (n := 3) rfl (by kernel_rfl) (by kernel_rfl) rfl (by first | rfl | (simp only [i64s, Value.cells, List.size_toArray, List.length_map]; omega)) hI.g1 | exact rLdB (n := 3) rfl (by kernel_rfl) (by kernel_rfl) rfl (by first | rfl | (simp only [i64s, Value.cells, List.size_toArray, List.length_map]; omega)) hI.g2 | exact rLd3 rfl (by kernel_rfl) (by kernel_rfl) rfl (by first | exact hI.c0 rfl | exact hI.c1 rfl | exact hI.c2 rfl) (by first | exact hI.c0 rfl | exact hI.c1 rfl | exact hI.c2 rfl) (by first | exact hI.c0 rfl | exact hI.c1 rfl | exact hI.c2 rfl))) ?_
  refine WT_one 3 rfl (by kernel_rfl) rfl ?_
  refine WL_call rfl rfl rfl (rCallI (f := 74) (vs := [.agg _]) rfl rfl rfl (fun _ => by kernel_rfl)) ?_
  refine (joinL_any _ _ _ ha hb).mono ?_
  rintro e w1 ⟨rfl, hp⟩
  refine ⟨_, rfl, ?_⟩
  replace hI := hI.pure hp
  refine WL_nil ⟨hXS _ hI, ?_⟩
  refine WT_take 4 rfl rfl (by kernel_rfl) (hXS _ hI) rfl (fun W hW => have hI := hSx W hW; (rIface rfl Try.underlying24 rfl rfl)) ?_
  refine WT_one 8 rfl (by kernel_rfl) rfl ?_
  refine WL_call rfl rfl rfl (rCallI (f := 74) (vs := [.agg _]) rfl rfl rfl (fun _ => by kernel_rfl)) ?_
  refine (joinL_any _ _ _ hb ha).mono ?_
  rintro e w1 ⟨rfl, hp⟩
  refine ⟨_, rfl, ?_⟩
  replace hI := hI.pure hp
  refine WL_nil ⟨hXS _ hI, ?_⟩
  refine WT_one 9 rfl (by kernel_rfl) rfl ?_
  refine WL_call rfl rfl rfl (rCallI (f := 75) (vs := [.agg _]) rfl rfl rfl (fun _ => by kernel_rfl)) ?_
  refine (sameL_any _ _ _ hab hba).mono ?_
  rintro e w1 ⟨rfl, hp⟩
  refine ⟨_, rfl, ?_⟩
  replace hI := hI.pure hp
  rw [decide_eq_true (joinL_comm a b)]
  refine WL_nil ⟨hXS _ hI, ?_⟩
  refine WT_take 10 rfl rfl (by kernel_rfl) (hXS _ hI) rfl (fun W hW => have hI := hSx W hW; (by first | exact rMoveB rfl rfl | exact rMove rfl)) ?_
  first | refine WT_take 11 rfl rfl (by kernel_rfl) (hXS _ hI) rfl (fun W hW => have hI := hSx W hW; (by first | exact rLdB (n := 3) rfl (by kernel_rfl) (by kernel_rfl) rfl (by first | rfl | (simp only [i64s, Value.cells, List.size_toArray, List.length_map]; omega)) hI.g0 | exact rLdB (n := 3) rfl (by kernel_rfl) (by kernel_rfl) rfl (by first | rfl | (simp only [i64s, Value.cells, List.size_toArray, List.length_map]; omega)) hI.g1 | exact rLdB (n := 3) rfl (by kernel_rfl) (by kernel_rfl) rfl (by first | rfl | (simp only [i64s, Value.cells, List.size_toArray, List.length_map]; omega)) hI.g2 | exact rLd3 rfl (by kernel_rfl) (by kernel_rfl) rfl (by first | exact hI.c0 rfl | exact hI.c1 rfl | exact hI.c2 rfl) (by first | exact hI.c0 rfl | exact hI.c1 rfl | exact hI.c2 rfl) (by first | exact hI.c0 rfl | exact hI.c1 rfl | exact hI.c2 rfl))) ?_ | refine WT_skip 11 rfl rfl (by kernel_rfl) (hXS _ hI) rfl ?_
  first | refine WT_take 12 rfl rfl (by kernel_rfl) (hXS _ hI) rfl (fun W hW => have hI := hSx W hW; (rIface rfl Try.underlying24 rfl rfl)) ?_ | refine WT_skip 12 rfl rfl (by kernel_rfl) (hXS _ hI) rfl ?_
  first | refine WT_take 13 rfl rfl (by kernel_rfl) (hXS _ hI) rfl (fun W hW => have hI := hSx W hW; (by first | exact rLdB (n := 3) rfl (by kernel_rfl) (by kernel_rfl) rfl (by first | rfl | (simp only [i64s, Value.cells, List.size_toArray, List.length_map]; omega)) hI.g0 | exact rLdB (n := 3) rfl (by kernel_rfl) (by kernel_rfl) rfl (by first | rfl | (simp only [i64s, Value.cells, List.size_toArray, List.length_map]; omega)) hI.g1 | exact rLdB (n := 3) rfl (by kernel_rfl) (by kernel_rfl) rfl (by first | rfl | (simp only [i64s, Value.cells, List.size_toArray, List.length_map]; omega)) hI.g2 | exact rLd3 rfl (by kernel_rfl) (by kernel_rfl) rfl (by first | exact hI.c0 rfl | exact hI.c1 rfl | exact hI.c2 rfl) (by first | exact hI.c0 rfl | exact hI.c1 rfl | exact hI.c2 rfl) (by first | exact hI.c0 rfl | exact hI.c1 rfl | exact hI.c2 rfl))) ?_ | refine WT_skip 13 rfl rfl (by kernel_rfl) (hXS _ hI) rfl ?_
  first | refine WT_take 16 rfl rfl (by kernel_rfl) (hXS _ hI) rfl (fun W hW => have hI := hSx W hW; (by first | exact rLdB (n := 3) rfl (by kernel_rfl) (by kernel_rfl) rfl (by first | rfl | (simp only [i64s, Value.cells, List.size_toArray, List.length_map]; omega)) hI.g0 | exact rLdB (n := 3) rfl (by kernel_rfl) (by kernel_rfl) rfl (by first | rfl | (simp only [i64s, Value.cells, List.size_toArray, List.length_map]; omega)) hI.g1 | exact rLdB (n := 3) rfl (by kernel_rfl) (by kernel_rfl) rfl (by first | rfl | (simp only [i64s, Value.cells, List.size_toArray, List.length_map]; omega)) hI.g2 | exact rLd3 rfl (by kernel_rfl) (by kernel_rfl) rfl (by first | exact hI.c0 rfl | exact hI.c1 rfl | exact hI.c2 rfl) (by first | exact hI.c0 rfl | exact hI.c1 rfl | exact hI.c2 rfl) (by first | exact hI.c0 rfl | exact hI.c1 rfl | exact hI.c2 rfl))) ?_ | refine WT_skip 16 rfl rfl (by kernel_rfl) (hXS _ hI) rfl ?_
  refine WT_one 14 rfl (by kernel_rfl) rfl ?_
  refine WL_call rfl rfl rfl (rCallI (f := 74) (vs := [.agg _]) rfl rfl rfl (fun _ => by kernel_rfl)) ?_
  refine (joinL_any _ _ _ ha ha).mono ?_
  rintro e w1 ⟨rfl, hp⟩
  refine ⟨_, rfl, ?_⟩
  replace hI := hI.pure hp
  refine WL_nil ⟨hXS _ hI, ?_⟩
  first | refine WT_take 15 rfl rfl (by kernel_rfl) (hXS _ hI) rfl (fun W hW => have hI := hSx W hW; (rIface rfl Try.underlying24 rfl rfl)) ?_ | refine WT_skip 15 rfl rfl (by kernel_rfl) (hXS _ hI) rfl ?_
  refine WT_one 17 rfl (by kernel_rfl) rfl ?_
  refine WL_call rfl rfl rfl (rCallI (f := 75) (vs := [.agg _]) rfl rfl rfl (fun _ => by kernel_rfl)) ?_
  refine (sameL_any _ _ _ haa ha).mono ?_
  rintro e w1 ⟨rfl, hp⟩
  refine ⟨_, rfl, ?_⟩
  replace hI := hI.pure hp
  rw [decide_eq_true (joinL_idem a ha)]
  refine WL_nil ⟨hXS _ hI, ?_⟩
  refine WT_take 18 rfl rfl (by kernel_rfl) (hXS _ hI) rfl (fun W hW => have hI := hSx W hW; (by first | exact rPickTB rfl rfl rfl | exact rPickFB rfl rfl rfl | exact rPickB rfl rfl rfl rfl)) ?_
  refine WT_take 19 rfl rfl (by kernel_rfl) (hXS _ hI) rfl (fun W hW => have hI := hSx W hW; (by first | exact rMoveB rfl rfl | exact rMove rfl)) ?_
  first | refine WT_take 20 rfl rfl (by kernel_rfl) (hXS _ hI) rfl (fun W hW => have hI := hSx W hW; (by first | exact rLdB (n := 3) rfl (by kernel_rfl) (by kernel_rfl) rfl (by first | rfl | (simp only [i64s, Value.cells, List.size_toArray, List.length_map]; omega)) hI.g0 | exact rLdB (n := 3) rfl (by kernel_rfl) (by kernel_rfl) rfl (by first | rfl | (simp only [i64s, Value.cells, List.size_toArray, List.length_map]; omega)) hI.g1 | exact rLdB (n := 3) rfl (by kernel_rfl) (by kernel_rfl) rfl (by first | rfl | (simp only [i64s, Value.cells, List.size_toArray, List.length_map]; omega)) hI.g2 | exact rLd3 rfl (by kernel_rfl) (by kernel_rfl) rfl (by first | exact hI.c0 rfl | exact hI.c1 rfl | exact hI.c2 rfl) (by first | exact hI.c0 rfl | exact hI.c1 rfl | exact hI.c2 rfl) (by first | exact hI.c0 rfl | exact hI.c1 rfl | exact hI.c2 rfl))) ?_ | refine WT_skip 20 rfl rfl (by kernel_rfl) (hXS _ hI) rfl ?_
  first | refine WT_take 21 rfl rfl (by kernel_rfl) (hXS _ hI) rfl (fun W hW => have hI := hSx W hW; (rIface rfl Try.underlying24 rfl rfl)) ?_ | refine WT_skip 21 rfl rfl (by kernel_rfl) (hXS _ hI) rfl ?_
  first | refine WT_take 22 rfl rfl (by kernel_rfl) (hXS _ hI) rfl (fun W hW => have hI := hSx W hW; (by first | exact rLdB (n := 3) rfl (by kernel_rfl) (by kernel_rfl) rfl (by first | rfl | (simp only [i64s, Value.cells, List.size_toArray, List.length_map]; omega)) hI.g0 | exact rLdB (n := 3) rfl (by kernel_rfl) (by kernel_rfl) rfl (by first | rfl | (simp only [i64s, Value.cells, List.size_toArray, List.length_map]; omega)) hI.g1 | exact rLdB (n := 3) rfl (by kernel_rfl) (by kernel_rfl) rfl (by first | rfl | (simp only [i64s, Value.cells, List.size_toArray, List.length_map]; omega)) hI.g2 | exact rLd3 rfl (by kernel_rfl) (by kernel_rfl) rfl (by first | exact hI.c0 rfl | exact hI.c1 rfl | exact hI.c2 rfl) (by first | exact hI.c0 rfl | exact hI.c1 rfl | exact hI.c2 rfl) (by first | exact hI.c0 rfl | exact hI.c1 rfl | exact hI.c2 rfl))) ?_ | refine WT_skip 22 rfl rfl (by kernel_rfl) (hXS _ hI) rfl ?_
  first | refine WT_take 25 rfl rfl (by kernel_rfl) (hXS _ hI) rfl (fun W hW => have hI := hSx W hW; (by first | exact rLdB (n := 3) rfl (by kernel_rfl) (by kernel_rfl) rfl (by first | rfl | (simp only [i64s, Value.cells, List.size_toArray, List.length_map]; omega)) hI.g0 | exact rLdB (n := 3) rfl (by kernel_rfl) (by kernel_rfl) rfl (by first | rfl | (simp only [i64s, Value.cells, List.size_toArray, List.length_map]; omega)) hI.g1 | exact rLdB (n := 3) rfl (by kernel_rfl) (by kernel_rfl) rfl (by first | rfl | (simp only [i64s, Value.cells, List.size_toArray, List.length_map]; omega)) hI.g2 | exact rLd3 rfl (by kernel_rfl) (by kernel_rfl) rfl (by first | exact hI.c0 rfl | exact hI.c1 rfl | exact hI.c2 rfl) (by first | exact hI.c0 rfl | exact hI.c1 rfl | exact hI.c2 rfl) (by first | exact hI.c0 rfl | exact hI.c1 rfl | exact hI.c2 rfl))) ?_ | refine WT_skip 25 rfl rfl (by kernel_rfl) (hXS _ hI) rfl ?_
  first | refine WT_take 28 rfl rfl (by kernel_rfl) (hXS _ hI) rfl (fun W hW => have hI := hSx W hW; (by first | exact rLdB (n := 3) rfl (by kernel_rfl) (by kernel_rfl) rfl (by first | rfl | (simp only [i64s, Value.cells, List.size_toArray, List.length_map]; omega)) hI.g0 | exact rLdB (n := 3) rfl (by kernel_rfl) (by kernel_rfl) rfl (by first | rfl | (simp only [i64s, Value.cells, List.size_toArray, List.length_map]; omega)) hI.g1 | exact rLdB (n := 3) rfl (by kernel_rfl) (by kernel_rfl) rfl (by first | rfl | (simp only [i64s, Value.cells, List.size_toArray, List.length_map]; omega)) hI.g2 | exact rLd3 rfl (by kernel_rfl) (by kernel_rfl) rfl (by first | exact hI.c0 rfl | exact hI.c1 rfl | exact hI.c2 rfl) (by first | exact hI.c0 rfl | exact hI.c1 rfl | exact hI.c2 rfl) (by first | exact hI.c0 rfl | exact hI.c1 rfl | exact hI.c2 rfl))) ?_ | refine WT_skip 28 rfl rfl (by kernel_rfl) (hXS _ hI) rfl ?_
  first | refine WT_take 29 rfl rfl (by kernel_rfl) (hXS _ hI) rfl (fun W hW => have hI := hSx W hW; (rIface rfl Try.underlying24 rfl rfl)) ?_ | refine WT_skip 29 rfl rfl (by kernel_rfl) (hXS _ hI) rfl ?_
  first | refine WT_take 30 rfl rfl (by kernel_rfl) (hXS _ hI) rfl (fun W hW => have hI := hSx W hW; (by first | exact rLdB (n := 3) rfl (by kernel_rfl) (by kernel_rfl) rfl (by first | rfl | (simp only [i64s, Value.cells, List.size_toArray, List.length_map]; omega)) hI.g0 | exact rLdB (n := 3) rfl (by kernel_rfl) (by kernel_rfl) rfl (by first | rfl | (simp only [i64s, Value.cells, List.size_toArray, List.length_map]; omega)) hI.g1 | exact rLdB (n := 3) rfl (by kernel_rfl) (by kernel_rfl) rfl (by first | rfl | (simp only [i64s, Value.cells, List.size_toArray, List.length_map]; omega)) hI.g2 | exact rLd3 rfl (by kernel_rfl) (by kernel_rfl) rfl (by first | exact hI.c0 rfl | exact hI.c1 rfl | exact hI.c2 rfl) (by first | exact hI.c0 rfl | exact hI.c1 rfl | exact hI.c2 rfl) (by first | exact hI.c0 rfl | exact hI.c1 rfl | exact hI.c2 rfl))) ?_ | refine WT_skip 30 rfl rfl (by kernel_rfl) (hXS _ hI) rfl ?_
  first | refine WT_take 31 rfl rfl (by kernel_rfl) (hXS _ hI) rfl (fun W hW => have hI := hSx W hW; (rIface rfl Try.underlying24 rfl rfl)) ?_ | refine WT_skip 31 rfl rfl (by kernel_rfl) (hXS _ hI) rfl ?_
  first | refine WT_take 32 rfl rfl (by kernel_rfl) (hXS _ hI) rfl (fun W hW => have hI := hSx W hW; (by first | exact rLdB (n := 3) rfl (by kernel_rfl) (by kernel_rfl) rfl (by first | rfl | (simp only [i64s, Value.cells, List.size_toArray, List.length_map]; omega)) hI.g0 | exact rLdB (n := 3) rfl (by kernel_rfl) (by kernel_rfl) rfl (by first | rfl | (simp only [i64s, Value.cells, List.size_toArray, List.length_map]; omega)) hI.g1 | exact rLdB (n := 3) rfl (by kernel_rfl) (by kernel_rfl) rfl (by first | rfl | (simp only [i64s, Value.cells, List.size_toArray, List.length_map]; omega)) hI.g2 | exact rLd3 rfl (by kernel_rfl) (by kernel_rfl) rfl (by first | exact hI.c0 rfl | exact hI.c1 rfl | exact hI.c2 rfl) (by first | exact hI.c0 rfl | exact hI.c1 rfl | exact hI.c2 rfl) (by first | exact hI.c0 rfl | exact hI.c1 rfl | exact hI.c2 rfl))) ?_ | refine WT_skip 32 rfl rfl (by kernel_rfl) (hXS _ hI) rfl ?_
  refine WT_one 23 rfl (by kernel_rfl) rfl ?_
  refine WL_call rfl rfl rfl (rCallI (f := 74) (vs := [.agg _]) rfl rfl rfl (fun _ => by kernel_rfl)) ?_
  refine (joinL_any _ _ _ ha hb).mono ?_
  rintro e w1 ⟨rfl, hp⟩
  refine ⟨_, rfl, ?_⟩
  replace hI := hI.pure hp
  refine WL_nil ⟨hXS _ hI, ?_⟩
  first | refine WT_take 24 rfl rfl (by kernel_rfl) (hXS _ hI) rfl (fun W hW => have hI := hSx W hW; (rIface rfl Try.underlying24 rfl rfl)) ?_ | refine WT_skip 24 rfl rfl (by kernel_rfl) (hXS _ hI) rfl ?_
  refine WT_one 26 rfl (by kernel_rfl) rfl ?_
  refine WL_call rfl rfl rfl (rCallI (f := 74) (vs := [.agg _]) rfl rfl rfl (fun _ => by kernel_rfl)) ?_
  refine (joinL_any _ _ _ hab hc).mono ?_
  rintro e w1 ⟨rfl, hp⟩
  refine ⟨_, rfl, ?_⟩
  replace hI := hI.pure hp
  refine WL_nil ⟨hXS _ hI, ?_⟩
  first | refine WT_take 27 rfl rfl (by kernel_rfl) (hXS _ hI) rfl (fun W hW => have hI := hSx W hW; (rIface rfl Try.underlying24 rfl rfl)) ?_ | refine WT_skip 27 rfl rfl (by kernel_rfl) (hXS _ hI) rfl ?_
  refine WT_one 33 rfl (by kernel_rfl) rfl ?_
  refine WL_call rfl rfl rfl (rCallI (f := 74) (vs := [.agg _]) rfl rfl rfl (fun _ => by kernel_rfl)) ?_
  refine (joinL_any _ _ _ hb hc).mono ?_
  rintro e w1 ⟨rfl, hp⟩
  refine ⟨_, rfl, ?_⟩
  replace hI := hI.pure hp
  refine WL_nil ⟨hXS _ hI, ?_⟩
  refine WT_one 34 rfl (by kernel_rfl) rfl ?_
  refine WL_call rfl rfl rfl (rCallI (f := 74) (vs := [.agg _]) rfl rfl rfl (fun _ => by kernel_rfl)) ?_
  refine (joinL_any _ _ _ ha hbc).mono ?_
  rintro e w1 ⟨rfl, hp⟩
  refine ⟨_, rfl, ?_⟩
  replace hI := hI.pure hp
  refine WL_nil ⟨hXS _ hI, ?_⟩
  refine WT_one 35 rfl (by kernel_rfl) rfl ?_
  refine WL_call rfl rfl rfl (rCallI (f := 75) (vs := [.agg _]) rfl rfl rfl (fun _ => by kernel_rfl)) ?_
  refine (sameL_any _ _ _ habc habc2).mono ?_
  rintro e w1 ⟨rfl, hp⟩
  refine ⟨_, rfl, ?_⟩
  replace hI := hI.pure hp
  rw [decide_eq_true (joinL_assoc a b c)]
  refine WL_nil ⟨hXS _ hI, ?_⟩
  refine WT_take 36 rfl rfl (by kernel_rfl) (hXS _ hI) rfl (fun W hW => have hI := hSx W hW; (by first | exact rPickTB rfl rfl rfl | exact rPickFB rfl rfl rfl | exact rPickB rfl rfl rfl rfl)) ?_
  refine WT_take 37 rfl rfl (by kernel_rfl) (hXS _ hI) rfl (fun W hW => have hI := hSx W hW; (by first | exact rMoveB rfl rfl | exact rMove rfl)) ?_
  first | refine WT_take 38 rfl rfl (by kernel_rfl) (hXS _ hI) rfl (fun W hW => have hI := hSx W hW; (by first | exact rLdB (n := 3) rfl (by kernel_rfl) (by kernel_rfl) rfl (by first | rfl | (simp only [i64s, Value.cells, List.size_toArray, List.length_map]; omega)) hI.g0 | exact rLdB (n := 3) rfl (by kernel_rfl) (by kernel_rfl) rfl (by first | rfl | (simp only [i64s, Value.cells, List.size_toArray, List.length_map]; omega)) hI.g1 | exact rLdB (n := 3) rfl (by kernel_rfl) (by kernel_rfl) rfl (by first | rfl | (simp only [i64s, Value.cells, List.size_toArray, List.length_map]; omega)) hI.g2 | exact rLd3 rfl (by kernel_rfl) (by kernel_rfl) rfl (by first | exact hI.c0 rfl | exact hI.c1 rfl | exact hI.c2 rfl) (by first | exact hI.c0 rfl | exact hI.c1 rfl | exact hI.c2 rfl) (by first | exact hI.c0 rfl | exact hI.c1 rfl | exact hI.c2 rfl))) ?_ | refine WT_skip 38 rfl rfl (by kernel_rfl) (hXS _ hI) rfl ?_
  first | refine WT_take 39 rfl rfl (by kernel_rfl) (hXS _ hI) rfl (fun W hW => have hI := hSx W hW; (by first | exact rLdB (n := 3) rfl (by kernel_rfl) (by kernel_rfl) rfl (by first | rfl | (simp only [i64s, Value.cells, List.size_toArray, List.length_map]; omega)) hI.g0 | exact rLdB (n := 3) rfl (by kernel_rfl) (by kernel_rfl) rfl (by first | rfl | (simp only [i64s, Value.cells, List.size_toArray, List.length_map]; omega)) hI.g1 | exact rLdB (n := 3) rfl (by kernel_rfl) (by kernel_rfl) rfl (by first | rfl | (simp only [i64s, Value.cells, List.size_toArray, List.length_map]; omega)) hI.g2 | exact rLd3 rfl (by kernel_rfl) (by kernel_rfl) rfl (by first | exact hI.c0 rfl | exact hI.c1 rfl | exact hI.c2 rfl) (by first | exact hI.c0 rfl | exact hI.c1 rfl | exact hI.c2 rfl) (by first | exact hI.c0 rfl | exact hI.c1 rfl | exact hI.c2 rfl))) ?_ | refine WT_skip 39 rfl rfl (by kernel_rfl) (hXS _ hI) rfl ?_
  first | refine WT_take 40 rfl rfl (by kernel_rfl) (hXS _ hI) rfl (fun W hW => have hI := hSx W hW; (by first | exact rLdB (n := 3) rfl (by kernel_rfl) (by kernel_rfl) rfl (by first | rfl | (simp only [i64s, Value.cells, List.size_toArray, List.length_map]; omega)) hI.g0 | exact rLdB (n := 3) rfl (by kernel_rfl) (by kernel_rfl) rfl (by first | rfl | (simp only [i64s, Value.cells, List.size_toArray, List.length_map]; omega)) hI.g1 | exact rLdB (n := 3) rfl (by kernel_rfl) (by kernel_rfl) rfl (by first | rfl | (simp only [i64s, Value.cells, List.size_toArray, List.length_map]; omega)) hI.g2 | exact rLd3 rfl (by kernel_rfl) (by kernel_rfl) rfl (by first | exact hI.c0 rfl | exact hI.c1 rfl | exact hI.c2 rfl) (by first | exact hI.c0 rfl | exact hI.c1 rfl | exact hI.c2 rfl) (by first | exact hI.c0 rfl | exact hI.c1 rfl | exact hI.c2 rfl))) ?_ | refine WT_skip 40 rfl rfl (by kernel_rfl) (hXS _ hI) rfl ?_
  first | refine WT_take 44 rfl rfl (by kernel_rfl) (hXS _ hI) rfl (fun W hW => have hI := hSx W hW; (by first | exact rLdB (n := 3) rfl (by kernel_rfl) (by kernel_rfl) rfl (by first | rfl | (simp only [i64s, Value.cells, List.size_toArray, List.length_map]; omega)) hI.g0 | exact rLdB (n := 3) rfl (by kernel_rfl) (by kernel_rfl) rfl (by first | rfl | (simp only [i64s, Value.cells, List.size_toArray, List.length_map]; omega)) hI.g1 | exact rLdB (n := 3) rfl (by kernel_rfl) (by kernel_rfl) rfl (by first | rfl | (simp only [i64s, Value.cells, List.size_toArray, List.length_map]; omega)) hI.g2 | exact rLd3 rfl (by kernel_rfl) (by kernel_rfl) rfl (by first | exact hI.c0 rfl | exact hI.c1 rfl | exact hI.c2 rfl) (by first | exact hI.c0 rfl | exact hI.c1 rfl | exact hI.c2 rfl) (by first | exact hI.c0 rfl | exact hI.c1 rfl | exact hI.c2 rfl))) ?_ | refine WT_skip 44 rfl rfl (by kernel_rfl) (hXS _ hI) rfl ?_
  first | refine WT_take 45 rfl rfl (by kernel_rfl) (hXS _ hI) rfl (fun W hW => have hI := hSx W hW; (by first | exact rLdB (n := 3) rfl (by kernel_rfl) (by kernel_rfl) rfl (by first | rfl | (simp only [i64s, Value.cells, List.size_toArray, List.length_map]; omega)) hI.g0 | exact rLdB (n := 3) rfl (by kernel_rfl) (by kernel_rfl) rfl (by first | rfl | (simp only [i64s, Value.cells, List.size_toArray, List.length_map]; omega)) hI.g1 | exact rLdB (n := 3) rfl (by kernel_rfl) (by kernel_rfl) rfl (by first | rfl | (simp only [i64s, Value.cells, List.size_toArray, List.length_map]; omega)) hI.g2 | exact rLd3 rfl (by kernel_rfl) (by kernel_rfl) rfl (by first | exact hI.c0 rfl | exact hI.c1 rfl | exact hI.c2 rfl) (by first | exact hI.c0 rfl | exact hI.c1 rfl | exact hI.c2 rfl) (by first | exact hI.c0 rfl | exact hI.c1 rfl | exact hI.c2 rfl))) ?_ | refine WT_skip 45 rfl rfl (by kernel_rfl) (hXS _ hI) rfl ?_
  first | refine WT_take 46 rfl rfl (by kernel_rfl) (hXS _ hI) rfl (fun W hW => have hI := hSx W hW; (by first | exact rLdB (n := 3) rfl (by kernel_rfl) (by kernel_rfl) rfl (by first | rfl | (simp only [i64s, Value.cells, List.size_toArray, List.length_map]; omega)) hI.g0 | exact rLdB (n := 3) rfl (by kernel_rfl) (by kernel_rfl) rfl (by first | rfl | (simp only [i64s, Value.cells, List.size_toArray, List.length_map]; omega)) hI.g1 | exact rLdB (n := 3) rfl (by kernel_rfl) (by kernel_rfl) rfl (by first | rfl | (simp only [i64s, Value.cells, List.size_toArray, List.length_map]; omega)) hI.g2 | exact rLd3 rfl (by kernel_rfl) (by kernel_rfl) rfl (by first | exact hI.c0 rfl | exact hI.c1 rfl | exact hI.c2 rfl) (by first | exact hI.c0 rfl | exact hI.c1 rfl | exact hI.c2 rfl) (by first | exact hI.c0 rfl | exact hI.c1 rfl | exact hI.c2 rfl))) ?_ | refine WT_skip 46 rfl rfl (by kernel_rfl) (hXS _ hI) rfl ?_
  first | refine WT_take 47 rfl rfl (by kernel_rfl) (hXS _ hI) rfl (fun W hW => have hI := hSx W hW; (by first | exact rLdB (n := 3) rfl (by kernel_rfl) (by kernel_rfl) rfl (by first | rfl | (simp only [i64s, Value.cells, List.size_toArray, List.length_map]; omega)) hI.g0 | exact rLdB (n := 3) rfl (by kernel_rfl) (by kernel_rfl) rfl (by first | rfl | (simp only [i64s, Value.cells, List.size_toArray, List.length_map]; omega)) hI.g1 | exact rLdB (n := 3) rfl (by kernel_rfl) (by kernel_rfl) rfl (by first | rfl | (simp only [i64s, Value.cells, List.size_toArray, List.length_map]; omega)) hI.g2 | exact rLd3 rfl (by kernel_rfl) (by kernel_rfl) rfl (by first | exact hI.c0 rfl | exact hI.c1 rfl | exact hI.c2 rfl) (by first | exact hI.c0 rfl | exact hI.c1 rfl | exact hI.c2 rfl) (by first | exact hI.c0 rfl | exact hI.c1 rfl | exact hI.c2 rfl))) ?_ | refine WT_skip 47 rfl rfl (by kernel_rfl) (hXS _ hI) rfl ?_
  refine WT_two 41 48 rfl rfl (by kernel_rfl) rfl rfl ?_ ?_
  · refine WL_litA (e := 24) (size := 3) [i64s b, i64s c] hI rfl rfl rfl rfl rfl Try.underlying72 (by kernel_rfl) (by kernel_rfl) rfl (by simp [i64s, hb, hc]) (by omega) ?_
    clear hI; rintro b48 w - - hI
    refine WL_nil ⟨hXS _ hI.d0, ?_⟩
    refine WT_two 42 48 rfl rfl (by kernel_rfl) rfl rfl ?_ ?_
    · refine WL_call rfl rfl rfl (rCall (vs := [.agg _, .slice _ _ _]) rfl Try.func23 rfl rfl rfl) ?_
      refine (allL_any a [b, c] b48 2 _ ha (by simp [hb, hc]) rfl (by omega) (by first | exact blk_flat (xs := [b, c]) hI.g0 (by simp [hb, hc]) | exact blk_flat (xs := [b, c]) hI.g1 (by simp [hb, hc]))).mono ?_
      rintro e w1 ⟨rfl, hp⟩
      refine ⟨_, rfl, ?_⟩
      replace hI := hI.pure hp
      refine WL_nil ⟨hXS _ hI.d0, ?_⟩
      first | refine WT_take 43 rfl rfl (by kernel_rfl) (hXS _ hI.d0) rfl (fun W hW => have hI := hSx W hW; (rIface rfl Try.underlying24 rfl rfl)) ?_ | refine WT_skip 43 rfl rfl (by kernel_rfl) (hXS _ hI.d0) rfl ?_
      refine WT_one 48 rfl (by kernel_rfl) rfl ?_
      refine WL_litA (e := 24) (size := 3) [i64s a, i64s b, i64s a] hI rfl rfl rfl rfl rfl Try.underlying72 (by kernel_rfl) (by kernel_rfl) rfl (by simp [i64s, ha, hb]) (by omega) ?_
      clear hI; rintro b55 w - - hI
      refine WL_nil ⟨hXS _ hI.d0.d0, ?_⟩
      refine WT_one 49 rfl (by kernel_rfl) rfl ?_
      refine WL_call rfl rfl rfl (rCall (vs := [.agg _, .slice _ _ _]) rfl Try.func23 rfl rfl rfl) ?_
      refine (allL_any c [a, b, a] b55 3 _ hc (by simp [ha, hb]) rfl (by omega) (by first | exact blk_flat (xs := [a, b, a]) hI.g0 (by simp [ha, hb]) | exact blk_flat (xs := [a, b, a]) hI.g1 (by simp [ha, hb]))).mono ?_
      rintro e w1 ⟨rfl, hp⟩
      refine ⟨_, rfl, ?_⟩
      replace hI := hI.pure hp
      refine WL_nil ⟨hXS _ hI.d0.d0, ?_⟩
      refine WT_one 50 rfl (by kernel_rfl) rfl ?_
      refine WL_call rfl rfl rfl (rCallI (f := 75) (vs := [.agg _]) rfl rfl rfl (fun _ => by kernel_rfl)) ?_
      refine (sameL_any _ _ _ hl1 hl2).mono ?_
      rintro e w1 ⟨rfl, hp⟩
      refine ⟨_, rfl, ?_⟩
      replace hI := hI.pure hp
      rw [decide_eq_true (joinL_all a b c ha hb hc)]
      refine WL_nil ⟨hXS _ hI.d0.d0, ?_⟩
      refine WT_take 51 rfl rfl (by kernel_rfl) (hXS _ hI.d0.d0) rfl (fun W hW => have hI := hSx W hW; (by first | exact rPickTB rfl rfl rfl | exact rPickFB rfl rfl rfl | exact rPickB rfl rfl rfl rfl)) ?_
      refine WT_take 52 rfl rfl (by kernel_rfl) (hXS _ hI.d0.d0) rfl (fun W hW => have hI := hSx W hW; (by first | exact rAsgnB rfl rfl | exact rAsgn rfl)) ?_
      refine WT_end (by kernel_rfl) ?_
      refine W_ret ?_
      exact ret1 6 (.inr rfl) rfl ⟨rfl, hI.pu⟩
    · refine WL_litA (e := 24) (size := 3) [i64s a, i64s b, i64s a] hI rfl rfl rfl rfl rfl Try.underlying72 (by kernel_rfl) (by kernel_rfl) rfl (by simp [i64s, ha, hb]) (by omega) ?_
      clear hI; rintro b55 w - - hI
      refine WL_nil ⟨hXS _ hI.d0.d0, ?_⟩
      refine WT_one 42 rfl (by kernel_rfl) rfl ?_
      refine WL_call rfl rfl rfl (rCall (vs := [.agg _, .slice _ _ _]) rfl Try.func23 rfl rfl rfl) ?_
      refine (allL_any a [b, c] b48 2 _ ha (by simp [hb, hc]) rfl (by omega) (by first | exact blk_flat (xs := [b, c]) hI.g0 (by simp [hb, hc]) | exact blk_flat (xs := [b, c]) hI.g1 (by simp [hb, hc]))).mono ?_
      rintro e w1 ⟨rfl, hp⟩
      refine ⟨_, rfl, ?_⟩
      replace hI := hI.pure hp
      refine WL_nil ⟨hXS _ hI.d0.d0, ?_⟩
      first | refine WT_take 43 rfl rfl (by kernel_rfl) (hXS _ hI.d0.d0) rfl (fun W hW => have hI := hSx W hW; (rIface rfl Try.underlying24 rfl rfl)) ?_ | refine WT_skip 43 rfl rfl (by kernel_rfl) (hXS _ hI.d0.d0) rfl ?_
      refine WT_one 49 rfl (by kernel_rfl) rfl ?_
      refine WL_call rfl rfl rfl (rCall (vs := [.agg _, .slice _ _ _]) rfl Try.func23 rfl rfl rfl) ?_
      refine (allL_any c [a, b, a] b55 3 _ hc (by simp [ha, hb]) rfl (by omega) (by first | exact blk_flat (xs := [a, b, a]) hI.g0 (by simp [ha, hb]) | exact blk_flat (xs := [a, b, a]) hI.g1 (by simp [ha, hb]))).mono ?_
      rintro e w1 ⟨rfl, hp⟩
      refine ⟨_, rfl, ?_⟩
      replace hI := hI.pure hp
      refine WL_nil ⟨hXS _ hI.d0.d0, ?_⟩
      refine WT_one 50 rfl (by kernel_rfl) rfl ?_
      refine WL_call rfl rfl rfl (rCallI (f := 75) (vs := [.agg _]) rfl rfl rfl (fun _ => by kernel_rfl)) ?_
      refine (sameL_any _ _ _ hl1 hl2).mono ?_
      rintro e w1 ⟨rfl, hp⟩
      refine ⟨_, rfl, ?_⟩
      replace hI := hI.pure hp
      rw [decide_eq_true (joinL_all a b c ha hb hc)]
      refine WL_nil ⟨hXS _ hI.d0.d0, ?_⟩
      refine WT_take 51 rfl rfl (by kernel_rfl) (hXS _ hI.d0.d0) rfl (fun W hW => have hI := hSx W hW; (by first | exact rPickTB rfl rfl rfl | exact rPickFB rfl rfl rfl | exact rPickB rfl rfl rfl rfl)) ?_
      refine WT_take 52 rfl rfl (by kernel_rfl) (hXS _ hI.d0.d0) rfl (fun W hW => have hI := hSx W hW; (by first | exact rAsgnB rfl rfl | exact rAsgn rfl)) ?_
      refine WT_end (by kernel_rfl) ?_
      refine W_ret ?_
      exact ret1 6 (.inr rfl) rfl ⟨rfl, hI.pu⟩
  · refine WL_litA (e := 24) (size := 3) [i64s a, i64s b, i64s a] hI rfl rfl rfl rfl rfl Try.underlying72 (by kernel_rfl) (by kernel_rfl) rfl (by simp [i64s, ha, hb]) (by omega) ?_
    clear hI; rintro b55 w - - hI
    refine WL_nil ⟨hXS _ hI.d0, ?_⟩
    refine WT_one 41 rfl (by kernel_rfl) rfl ?_
    refine WL_litA (e := 24) (size := 3) [i64s b, i64s c] hI rfl rfl rfl rfl rfl Try.underlying72 (by kernel_rfl) (by kernel_rfl) rfl (by simp [i64s, hb, hc]) (by omega) ?_
    clear hI; rintro b48 w - - hI
    refine WL_nil ⟨hXS _ hI.d0.d0, ?_⟩
    refine WT_one 42 rfl (by kernel_rfl) rfl ?_
    refine WL_call rfl rfl rfl (rCall (vs := [.agg _, .slice _ _ _]) rfl Try.func23 rfl rfl rfl) ?_
    refine (allL_any a [b, c] b48 2 _ ha (by simp [hb, hc]) rfl (by omega) (by first | exact blk_flat (xs := [b, c]) hI.g0 (by simp [hb, hc]) | exact blk_flat (xs := [b, c]) hI.g1 (by simp [hb, hc]))).mono ?_
    rintro e w1 ⟨rfl, hp⟩
    refine ⟨_, rfl, ?_⟩
    replace hI := hI.pure hp
    refine WL_nil ⟨hXS _ hI.d0.d0, ?_⟩
    first | refine WT_take 43 rfl rfl (by kernel_rfl) (hXS _ hI.d0.d0) rfl (fun W hW => have hI := hSx W hW; (rIface rfl Try.underlying24 rfl rfl)) ?_ | refine WT_skip 43 rfl rfl (by kernel_rfl) (hXS _ hI.d0.d0) rfl ?_
    refine WT_one 49 rfl (by kernel_rfl) rfl ?_
    refine WL_call rfl rfl rfl (rCall (vs := [.agg _, .slice _ _ _]) rfl Try.func23 rfl rfl rfl) ?_
    refine (allL_any c [a, b, a] b55 3 _ hc (by simp [ha, hb]) rfl (by omega) (by first | exact blk_flat (xs := [a, b, a]) hI.g0 (by simp [ha, hb]) | exact blk_flat (xs := [a, b, a]) hI.g1 (by simp [ha, hb]))).mono ?_
    rintro e w1 ⟨rfl, hp⟩
    refine ⟨_, rfl, ?_⟩
    replace hI := hI.pure hp
    refine WL_nil ⟨hXS _ hI.d0.d0, ?_⟩
    refine WT_one 50 rfl (by kernel_rfl) rfl ?_
    refine WL_call rfl rfl rfl (rCallI (f := 75) (vs := [.agg _]) rfl rfl rfl (fun _ => by kernel_rfl)) ?_
    refine (sameL_any _ _ _ hl1 hl2).mono ?_
    rintro e w1 ⟨rfl, hp⟩
    refine ⟨_, rfl, ?_⟩
    replace hI := hI.pure hp
    rw [decide_eq_true (joinL_all a b c ha hb hc)]
    refine WL_nil ⟨hXS _ hI.d0.d0, ?_⟩
    refine WT_take 51 rfl rfl (by kernel_rfl) (hXS _ hI.d0.d0) rfl (fun W hW => have hI := hSx W hW; (by first | exact rPickTB rfl rfl rfl | exact rPickFB rfl rfl rfl | exact rPickB rfl rfl rfl rfl)) ?_
    refine WT_take 52 rfl rfl (by kernel_rfl) (hXS _ hI.d0.d0) rfl (fun W hW => have hI := hSx W hW; (by first | exact rAsgnB rfl rfl | exact rAsgn rfl)) ?_
    refine WT_end (by kernel_rfl) ?_
    refine W_ret ?_
    exact ret1 6 (.inr rfl) rfl ⟨rfl, hI.pu⟩
end Go.Proofs.Ytkfciehgjhgmeaa
