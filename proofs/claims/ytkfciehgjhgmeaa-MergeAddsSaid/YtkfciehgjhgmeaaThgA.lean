/- merge: a set's values, sorted; without those that stand twice; whether a thing is in it. -/
import Derived.Test.YtkfciehgjhgmeaaThg7
import Derived.Test.YtkfciehgjhgmeaaMrg4
namespace Go.Proofs.Ytkfciehgjhgmeaa
open Go.RowKit
set_option linter.unusedVariables false
set_option linter.unusedSimpArgs false
section
variable {P : Program} {ρ : Env} {o : Oper} {w : World} {x y : Operand}
theorem rIdxZ {t e n c g j i : Nat} {z : Int} {k : IntKind} (ho : o.op = .indexAddr t x y) (ht : P.underlying t = some (.slice e)) (hs : szB P e 1 = true) (hx : ev ρ x = .slice (some ⟨g, j, none⟩) n c) (hy : ev ρ y = .int k z) (hz : z = (i : Int)) (hi : i < n) :
    Runs P ρ o w (.pointer (some ⟨g, j + i, none⟩)) := rIdx1 (P := P) (w := w) ho ht hs hx (by rw [hy, hz]) hi
end
def intC (L : List Int) (junk : List Value) : Array Value := (i64s L ++ junk).toArray
theorem intC_get {L : List Int} {junk : List Value} {j : Nat} (h : j < L.length) : (intC L junk)[j]? = some (.int .i64 (L.getD j 0)) := by
  unfold intC
  rw [List.getElem?_toArray, List.getElem?_append_left (by simpa [i64s] using h)]
  simp [i64s, List.getD, h]
theorem intC_set {L : List Int} {junk : List Value} {j : Nat} {v : Int} (h : j < L.length) : (intC L junk).setIfInBounds j (.int .i64 v) = intC (L.set j v) junk := by
  unfold intC
  rw [List.setIfInBounds_toArray, List.set_append_left _ _ (by simpa [i64s] using h)]
  simp [i64s, List.map_set]
theorem intC_size (L : List Int) (junk : List Value) : (intC L junk).size = L.length + junk.length := by simp [intC, i64s]
theorem intC_take {L : List Int} {junk : List Value} {cs : Array Value} {m : Nat} (hm : m ≤ L.length) (h : ∀ q, q < m → cs[q]? = (intC L junk)[q]?) (hs : cs.size = (intC L junk).size) : cs = intC (L.take m) (cs.toList.drop m) := by
  apply Array.ext_getElem?
  intro q
  by_cases hq : q < m
  · rw [h q hq, intC_get (by omega), intC_get (by rw [List.length_take]; omega)]
    simp [List.getD, List.getElem?_take, hq]
  · have e : (i64s (L.take m)).length = m := by simp [i64s]; omega
    have h1 : (intC (L.take m) (cs.toList.drop m))[q]? = (i64s (L.take m) ++ cs.toList.drop m)[q]? := by simp [intC]
    rw [h1, List.getElem?_append_right (by omega), e, List.getElem?_drop, show m + (q - m) = q by omega]
    simp
set_option maxHeartbeats 2000000 in
theorem compact_any (g n c : Nat) (d : List Int) (junk : List Value) (S : Nat → Prop) (w0 : World) (hn : d.length = n) (hl : n ≤ 1000000) (hnc : n ≤ c) (hc : c ≤ 9223372036854775807) (hI : Inv S w0 w0 [B g 3 (intC d junk)]) :
    Calls Try.prog 32 #[.slice (some ⟨g, 0, none⟩) n c] w0 fun en w' => ∃ (m : Nat) (l : List Int) (junk' : List Value), en = .returned (.slice (some ⟨g, 0, none⟩) m c) ∧ l.length = m ∧ m ≤ n ∧ (∀ x, x ∈ l ↔ x ∈ d) ∧ Inv S w0 w' [B g 3 (intC l junk')] := by
  refine calls_of_W (N := Try.f32.ntmps) Try.func32 rfl rfl rfl ?_
  refine W_seq ?_
  refine W_region ?_
  refine WL_val rfl rfl rfl (by first | exact rAsgnS rfl rfl | exact rAsgn rfl) ?_
  refine WL_nil ?_
  by_cases h2 : n < 2
  · refine W_seq ?_
    refine W_seq ?_
    refine W_region ?_
    refine WL_val rfl rfl rfl (by first | exact rMoveS rfl rfl | exact rMove rfl) ?_
    refine WL_val rfl rfl rfl (rLen rfl Try.underlying22 rfl) ?_
    refine WL_val rfl rfl rfl (by first | exact rLssT rfl rfl rfl (by omega) | exact rLssF rfl rfl rfl (by omega) | exact rLss rfl rfl rfl) ?_
    refine WL_nil ?_
    refine W_cond true rfl ?_
    refine W_seq ?_
    refine W_region ?_
    refine WL_val rfl rfl rfl (by first | exact rMoveS rfl rfl | exact rMove rfl) ?_
    refine WL_val rfl rfl rfl (by first | exact rAsgnS rfl rfl | exact rAsgn rfl) ?_
    refine WL_nil ?_
    refine W_ret ?_
    exact ret1 2 (.inr rfl) rfl ⟨n, d, junk, rfl, hn, Nat.le_refl _, fun x => Iff.rfl, hI⟩
  refine W_seq ?_
  refine W_seq ?_
  refine W_region ?_
  refine WL_val rfl rfl rfl (by first | exact rMoveS rfl rfl | exact rMove rfl) ?_
  refine WL_val rfl rfl rfl (rLen rfl Try.underlying22 rfl) ?_
  refine WL_val rfl rfl rfl (by first | exact rLssT rfl rfl rfl (by omega) | exact rLssF rfl rfl rfl (by omega) | exact rLss rfl rfl rfl) ?_
  refine WL_nil ?_
  refine W_cond false rfl ?_
  refine W_skip ?_
  refine W_seq ?_
  refine W_seq ?_
  refine W_region ?_
  refine WL_val rfl rfl rfl (by first | exact rAsgnI rfl rfl | exact rAsgn rfl) ?_
  refine WL_nil ?_
  refine W_block ?_
  refine W_loop (fun ρ w => ∃ j : Nat, j + 1 ≤ n ∧ Has ρ [(3, .int .i64 ((j + 1 : Nat) : Int)), (0, .slice (some ⟨g, 0, none⟩) n c)] ∧ Inv S w0 w [B g 3 (intC d junk)]) (fun ρ _ => n - cnt (ρ 3))
    ⟨0, by omega, ⟨rfl, rfl, trivial⟩, hI⟩ ?_
  clear hI
  rintro ρ w ⟨j, hj, hH, hI⟩
  obtain ⟨σ, rfl⟩ := hH.open
  by_cases hjn : j + 1 < n
  · have q0 : w.cell? ⟨g, j, none⟩ = some (.int .i64 (d.getD j 0)) := hI.c0 (intC_get (by omega))
    have q1 : w.cell? ⟨g, j + 1, none⟩ = some (.int .i64 (d.getD (j + 1) 0)) := hI.c0 (intC_get (by omega))
    refine W_seq ?_
    refine W_seq ?_
    refine W_region ?_
    refine WL_val rfl rfl rfl (by first | exact rMoveI rfl rfl | exact rMove rfl) ?_
    refine WL_val rfl rfl rfl (by first | exact rMoveS rfl rfl | exact rMove rfl) ?_
    refine WL_val rfl rfl rfl (rLen rfl Try.underlying22 rfl) ?_
    refine WL_val rfl rfl rfl (by first | exact rLssT rfl rfl rfl (by omega) | exact rLssF rfl rfl rfl (by omega) | exact rLss rfl rfl rfl) ?_
    refine WL_nil ?_
    refine W_cond true rfl ?_
    refine W_skip ?_
    refine W_seq ?_
    refine W_block ?_
    by_cases hx : d.getD (j + 1) 0 = d.getD j 0
    · refine W_seq ?_
      refine W_draw (by kernel_rfl) ?_
      refine WA_inv (T := []) hI.drew ?_
      intro Sx hSx hXS
      replace hI := hI.drew
      refine WT_take 0 rfl rfl (by kernel_rfl) (hXS _ hI) rfl (fun W hW => have hI := hSx W hW; (by first | exact rMoveS rfl rfl | exact rMove rfl)) ?_
      refine WT_take 1 rfl rfl (by kernel_rfl) (hXS _ hI) rfl (fun W hW => have hI := hSx W hW; (by first | exact rMoveI rfl rfl | exact rMove rfl)) ?_
      refine WT_take 2 rfl rfl (by kernel_rfl) (hXS _ hI) rfl (fun W hW => have hI := hSx W hW; (by first | exact rIdx0 rfl Try.underlying22 (by kernel_rfl) rfl rfl rfl (by omega) | exact rIdx1 rfl Try.underlying22 (by kernel_rfl) rfl rfl (by omega))) ?_
      refine WT_take 3 rfl rfl (by kernel_rfl) (hXS _ hI) rfl (fun W hW => have hI := hSx W hW; (by first | exact rLd (v := .int .i64 _) rfl (by kernel_rfl) rfl (by first | exact hI.c0 rfl | exact (hI.c0 (intC_get (by omega)))) | exact rLd rfl (by kernel_rfl) rfl (by first | exact hI.c0 rfl | exact (hI.c0 (intC_get (by omega)))))) ?_
      refine WT_take 4 rfl rfl (by kernel_rfl) (hXS _ hI) rfl (fun W hW => have hI := hSx W hW; (by first | exact rMoveS rfl rfl | exact rMove rfl)) ?_
      refine WT_take 5 rfl rfl (by kernel_rfl) (hXS _ hI) rfl (fun W hW => have hI := hSx W hW; (by first | exact rMoveI rfl rfl | exact rMove rfl)) ?_
      refine WT_take 6 rfl rfl (by kernel_rfl) (hXS _ hI) rfl (fun W hW => have hI := hSx W hW; (by first | exact rSub rfl rfl rfl (by omega) | exact rSubW rfl rfl rfl)) ?_
      refine WT_take 7 rfl rfl (by kernel_rfl) (hXS _ hI) rfl (fun W hW => have hI := hSx W hW; (rIdx0 (i := j) rfl Try.underlying22 (by kernel_rfl) rfl rfl (by omega) (by omega))) ?_
      refine WT_take 8 rfl rfl (by kernel_rfl) (hXS _ hI) rfl (fun W hW => have hI := hSx W hW; (by first | exact rLd (v := .int .i64 _) rfl (by kernel_rfl) rfl (by first | exact hI.c0 rfl | exact (hI.c0 (intC_get (by omega)))) | exact rLd rfl (by kernel_rfl) rfl (by first | exact hI.c0 rfl | exact (hI.c0 (intC_get (by omega)))))) ?_
      refine WT_take 9 rfl rfl (by kernel_rfl) (hXS _ hI) rfl (fun W hW => have hI := hSx W hW; (by first | exact rEqlT rfl rfl rfl (by omega) | exact rEqlF rfl rfl rfl (by omega) | exact rEql rfl rfl rfl)) ?_
      refine WT_end (by kernel_rfl) ?_
      refine W_cond true rfl ?_
      refine W_seq ?_
      refine W_region ?_
      refine WL_val rfl rfl rfl (by first | exact rMoveS rfl rfl | exact rMove rfl) ?_
      refine WL_val rfl rfl rfl (by first | exact rMoveI rfl rfl | exact rMove rfl) ?_
      refine WL_val rfl rfl rfl (by first | exact rSliceFrom (sz := 1) rfl Try.underlying22 (by kernel_rfl) rfl rfl (by omega) (by omega) | exact rSliceFromG (sz := 1) rfl Try.underlying22 (by kernel_rfl) rfl rfl (by omega)) ?_
      refine WL_val rfl rfl rfl (by first | exact rAsgnS rfl rfl | exact rAsgn rfl) ?_
      refine WL_nil ?_
      have hdj : ∀ x, x ∈ d.take (j + 1 + 1) ↔ x ∈ d.take (j + 1) := fun x => by
        rw [List.take_succ_eq_append_getElem (show j + 1 < d.length by omega), List.mem_append]
        have e1 : d[j + 1] ∈ d.take (j + 1) := by
          have : d.getD (j + 1) 0 = d[j + 1] := by simp [List.getD, show j + 1 < d.length by omega]
          rw [← this, hx]
          refine List.mem_take_iff_getElem.2 ⟨j, by omega, ?_⟩
          simp [List.getD, show j < d.length by omega]
        constructor
        · rintro (h | h)
          · exact h
          · rw [List.mem_singleton.1 h]; exact e1
        · exact .inl
      refine W_seq_cut (fun ρ w => ∃ (kk : Nat) (e : List Int), e.length = n ∧ 1 ≤ kk ∧ kk < n ∧ (∀ x, x ∈ e.take kk ↔ x ∈ d) ∧ Has ρ [(3, .int .i64 (kk : Int)), (0, .slice (some ⟨g, 0, none⟩) n c)] ∧ Inv S w0 w [B g 3 (intC e junk)]) ?_ ?_
      · refine W_seq ?_
        refine W_region ?_
        refine WL_val rfl rfl rfl (by first | exact rAsgnI rfl rfl | exact rAsgn rfl) ?_
        refine WL_nil ?_
        refine W_block ?_
        refine W_loop (fun ρ w => ∃ (j2 kk : Nat) (e : List Int), j2 + 1 ≤ n - (j + 1) ∧ e.length = n ∧ 1 ≤ kk ∧ kk ≤ j + 1 + j2 ∧ (∀ x, x ∈ e.take kk ↔ x ∈ d.take (j + 1 + (j2 + 1))) ∧ (∀ q, j + 1 + j2 ≤ q → e.getD q 0 = d.getD q 0) ∧
          Has ρ [(5, .int .i64 ((j2 + 1 : Nat) : Int)), (4, .slice (some ⟨g, 0 + (j + 1) * 1, none⟩) (n - (j + 1)) (c - (j + 1))), (3, .int .i64 (kk : Int)), (0, .slice (some ⟨g, 0, none⟩) n c)] ∧ Inv S w0 w [B g 3 (intC e junk)]) (fun ρ _ => n - cnt (ρ 5))
          ⟨0, j + 1, d, by omega, hn, by omega, by omega, fun x => (hdj x).symm, fun q _ => rfl, ⟨rfl, rfl, rfl, rfl, trivial⟩, hI⟩ ?_
        clear hI
        rintro ρ w ⟨j2, kk, e, hj2, hen, hkk1, hkk, hmem, hsame, hH, hI⟩
        obtain ⟨σ, rfl⟩ := hH.open
        have hst : ∀ x, x ∈ d.take (j + 1 + (j2 + 1 + 1)) ↔ x ∈ d.take (j + 1 + (j2 + 1)) ∨ (j + 1 + (j2 + 1) < n ∧ x = d.getD (j + 1 + (j2 + 1)) 0) := fun x => by
          by_cases hlt : j + 1 + (j2 + 1) < n
          · rw [show j + 1 + (j2 + 1 + 1) = j + 1 + (j2 + 1) + 1 by omega, List.take_succ_eq_append_getElem (show j + 1 + (j2 + 1) < d.length by omega), List.mem_append, List.mem_singleton]
            simp [hlt, List.getD, show j + 1 + (j2 + 1) < d.length by omega]
          · rw [List.take_of_length_le (by omega), List.take_of_length_le (by omega)]
            simp [hlt]
        by_cases hjn2 : j2 + 1 < n - (j + 1)
        · have hs1 := hsame (j + 1 + j2) (by omega)
          have hs2 := hsame (j + 1 + (j2 + 1)) (by omega)
          refine W_seq ?_
          refine W_seq ?_
          refine W_region ?_
          refine WL_val rfl rfl rfl (by first | exact rMoveI rfl rfl | exact rMove rfl) ?_
          refine WL_val rfl rfl rfl (by first | exact rMoveS rfl rfl | exact rMove rfl) ?_
          refine WL_val rfl rfl rfl (rLen rfl Try.underlying22 rfl) ?_
          refine WL_val rfl rfl rfl (by first | exact rLssT rfl rfl rfl (by omega) | exact rLssF rfl rfl rfl (by omega) | exact rLss rfl rfl rfl) ?_
          refine WL_nil ?_
          refine W_cond true rfl ?_
          refine W_skip ?_
          refine W_seq ?_
          refine W_block ?_
          have c2 : ∀ W, Inv S w0 W [B g 3 (intC e junk)] → W.cell? ⟨g, 0 + (j + 1) * 1 + (j2 + 1), none⟩ = some (.int .i64 (d.getD (j + 1 + (j2 + 1)) 0)) := fun W hI => by
            rw [show 0 + (j + 1) * 1 + (j2 + 1) = j + 1 + (j2 + 1) by omega, ← hs2]
            exact hI.c0 (intC_get (by omega))
          have c1 : ∀ W, Inv S w0 W [B g 3 (intC e junk)] → W.cell? ⟨g, 0 + (j + 1) * 1 + j2, none⟩ = some (.int .i64 (d.getD (j + 1 + j2) 0)) := fun W hI => by
            rw [show 0 + (j + 1) * 1 + j2 = j + 1 + j2 by omega, ← hs1]
            exact hI.c0 (intC_get (by omega))
          by_cases hx2 : d.getD (j + 1 + (j2 + 1)) 0 = d.getD (j + 1 + j2) 0
          · refine W_seq ?_
            refine W_draw (by kernel_rfl) ?_
            refine WA_inv (T := []) hI.drew ?_
            intro Sx hSx hXS
            replace hI := hI.drew
            refine WT_take 0 rfl rfl (by kernel_rfl) (hXS _ hI) rfl (fun W hW => have hI := hSx W hW; (by first | exact rMoveS rfl rfl | exact rMove rfl)) ?_
            refine WT_take 1 rfl rfl (by kernel_rfl) (hXS _ hI) rfl (fun W hW => have hI := hSx W hW; (by first | exact rMoveI rfl rfl | exact rMove rfl)) ?_
            refine WT_take 2 rfl rfl (by kernel_rfl) (hXS _ hI) rfl (fun W hW => have hI := hSx W hW; (by first | exact rIdx0 rfl Try.underlying22 (by kernel_rfl) rfl rfl rfl (by omega) | exact rIdx1 rfl Try.underlying22 (by kernel_rfl) rfl rfl (by omega))) ?_
            refine WT_take 3 rfl rfl (by kernel_rfl) (hXS _ hI) rfl (fun W hW => have hI := hSx W hW; (by first | exact rLd (v := .int .i64 _) rfl (by kernel_rfl) rfl (by first | exact hI.c0 rfl | exact (c2 _ hI) | exact (c1 _ hI)) | exact rLd rfl (by kernel_rfl) rfl (by first | exact hI.c0 rfl | exact (c2 _ hI) | exact (c1 _ hI)))) ?_
            refine WT_take 4 rfl rfl (by kernel_rfl) (hXS _ hI) rfl (fun W hW => have hI := hSx W hW; (by first | exact rMoveS rfl rfl | exact rMove rfl)) ?_
            refine WT_take 5 rfl rfl (by kernel_rfl) (hXS _ hI) rfl (fun W hW => have hI := hSx W hW; (by first | exact rMoveI rfl rfl | exact rMove rfl)) ?_
            refine WT_take 6 rfl rfl (by kernel_rfl) (hXS _ hI) rfl (fun W hW => have hI := hSx W hW; (by first | exact rSub rfl rfl rfl (by omega) | exact rSubW rfl rfl rfl)) ?_
            refine WT_take 7 rfl rfl (by kernel_rfl) (hXS _ hI) rfl (fun W hW => have hI := hSx W hW; (rIdxZ (i := j2) rfl Try.underlying22 (by kernel_rfl) rfl rfl (by omega) (by omega))) ?_
            refine WT_take 8 rfl rfl (by kernel_rfl) (hXS _ hI) rfl (fun W hW => have hI := hSx W hW; (by first | exact rLd (v := .int .i64 _) rfl (by kernel_rfl) rfl (by first | exact hI.c0 rfl | exact (c2 _ hI) | exact (c1 _ hI)) | exact rLd rfl (by kernel_rfl) rfl (by first | exact hI.c0 rfl | exact (c2 _ hI) | exact (c1 _ hI)))) ?_
            refine WT_take 9 rfl rfl (by kernel_rfl) (hXS _ hI) rfl (fun W hW => have hI := hSx W hW; (by first | exact rNeqT rfl rfl rfl (by omega) | exact rNeqF rfl rfl rfl (by omega) | exact rNeq rfl rfl rfl)) ?_
            refine WT_end (by kernel_rfl) ?_
            refine W_cond false rfl ?_
            refine W_skip ?_
            refine W_region ?_
            refine WL_val rfl rfl rfl (by first | exact rMoveI rfl rfl | exact rMove rfl) ?_
            refine WL_val rfl rfl rfl (by first | exact rInc rfl rfl rfl (by omega) | exact rAdd rfl rfl rfl (by omega) | exact rAddW rfl rfl rfl) ?_
            refine WL_val rfl rfl rfl (by first | exact rAsgnI rfl rfl | exact rAsgn rfl) ?_
            refine WL_nil ?_
            refine ⟨⟨j2 + 1, kk, e, by omega, hen, hkk1, by omega, fun x => ?_, fun q hq => hsame q (by omega), ⟨rfl, rfl, rfl, rfl, trivial⟩, hI⟩, by show n - ((j2 + 1 + 1 : Nat) : Int).toNat < n - ((j2 + 1 : Nat) : Int).toNat; omega⟩
            rw [hst, hmem]
            constructor
            · exact .inl
            · rintro (h | ⟨_, h⟩)
              · exact h
              · rw [h, hx2]
                refine List.mem_take_iff_getElem.2 ⟨j + 1 + j2, by omega, ?_⟩
                simp [List.getD, show j + 1 + j2 < d.length by omega]
          · refine W_seq ?_
            refine W_draw (by kernel_rfl) ?_
            refine WA_inv (T := []) hI.drew ?_
            intro Sx hSx hXS
            replace hI := hI.drew
            refine WT_take 0 rfl rfl (by kernel_rfl) (hXS _ hI) rfl (fun W hW => have hI := hSx W hW; (by first | exact rMoveS rfl rfl | exact rMove rfl)) ?_
            refine WT_take 1 rfl rfl (by kernel_rfl) (hXS _ hI) rfl (fun W hW => have hI := hSx W hW; (by first | exact rMoveI rfl rfl | exact rMove rfl)) ?_
            refine WT_take 2 rfl rfl (by kernel_rfl) (hXS _ hI) rfl (fun W hW => have hI := hSx W hW; (by first | exact rIdx0 rfl Try.underlying22 (by kernel_rfl) rfl rfl rfl (by omega) | exact rIdx1 rfl Try.underlying22 (by kernel_rfl) rfl rfl (by omega))) ?_
            refine WT_take 3 rfl rfl (by kernel_rfl) (hXS _ hI) rfl (fun W hW => have hI := hSx W hW; (by first | exact rLd (v := .int .i64 _) rfl (by kernel_rfl) rfl (by first | exact hI.c0 rfl | exact (c2 _ hI) | exact (c1 _ hI)) | exact rLd rfl (by kernel_rfl) rfl (by first | exact hI.c0 rfl | exact (c2 _ hI) | exact (c1 _ hI)))) ?_
            refine WT_take 4 rfl rfl (by kernel_rfl) (hXS _ hI) rfl (fun W hW => have hI := hSx W hW; (by first | exact rMoveS rfl rfl | exact rMove rfl)) ?_
            refine WT_take 5 rfl rfl (by kernel_rfl) (hXS _ hI) rfl (fun W hW => have hI := hSx W hW; (by first | exact rMoveI rfl rfl | exact rMove rfl)) ?_
            refine WT_take 6 rfl rfl (by kernel_rfl) (hXS _ hI) rfl (fun W hW => have hI := hSx W hW; (by first | exact rSub rfl rfl rfl (by omega) | exact rSubW rfl rfl rfl)) ?_
            refine WT_take 7 rfl rfl (by kernel_rfl) (hXS _ hI) rfl (fun W hW => have hI := hSx W hW; (rIdxZ (i := j2) rfl Try.underlying22 (by kernel_rfl) rfl rfl (by omega) (by omega))) ?_
            refine WT_take 8 rfl rfl (by kernel_rfl) (hXS _ hI) rfl (fun W hW => have hI := hSx W hW; (by first | exact rLd (v := .int .i64 _) rfl (by kernel_rfl) rfl (by first | exact hI.c0 rfl | exact (c2 _ hI) | exact (c1 _ hI)) | exact rLd rfl (by kernel_rfl) rfl (by first | exact hI.c0 rfl | exact (c2 _ hI) | exact (c1 _ hI)))) ?_
            refine WT_take 9 rfl rfl (by kernel_rfl) (hXS _ hI) rfl (fun W hW => have hI := hSx W hW; (by first | exact rNeqT rfl rfl rfl (by omega) | exact rNeqF rfl rfl rfl (by omega) | exact rNeq rfl rfl rfl)) ?_
            refine WT_end (by kernel_rfl) ?_
            refine W_cond true rfl ?_
            refine W_seq ?_
            refine W_region ?_
            refine WL_val rfl rfl rfl (by first | exact rMoveS rfl rfl | exact rMove rfl) ?_
            refine WL_val rfl rfl rfl (by first | exact rMoveI rfl rfl | exact rMove rfl) ?_
            refine WL_val rfl rfl rfl (by first | exact rMoveS rfl rfl | exact rMove rfl) ?_
            refine WL_val rfl rfl rfl (by first | exact rMoveI rfl rfl | exact rMove rfl) ?_
            refine WL_val rfl rfl rfl (by first | exact rIdx0 rfl Try.underlying22 (by kernel_rfl) rfl rfl rfl (by omega) | exact rIdx1 rfl Try.underlying22 (by kernel_rfl) rfl rfl (by omega)) ?_
            refine WL_val rfl rfl rfl (by first | exact rLd (v := .int .i64 _) rfl (by kernel_rfl) rfl (by first | exact hI.c0 rfl | exact (c2 _ hI)) | exact rLd rfl (by kernel_rfl) rfl (by first | exact hI.c0 rfl | exact (c2 _ hI))) ?_
            refine WL_val rfl rfl rfl (by first | exact rIdx0 rfl Try.underlying22 (by kernel_rfl) rfl rfl rfl (by omega) | exact rIdx1 rfl Try.underlying22 (by kernel_rfl) rfl rfl (by omega)) ?_
            refine WL_st0 (u := .int .i64 _) (j := kk) hI rfl rfl rfl rfl rfl rfl (by kernel_rfl) rfl (by rw [intC_size]; simp [Nat.blt]; omega) (intC_set (by omega)) ?_
            clear hI; intro w hI
            refine WL_nil ?_
            refine W_region ?_
            refine WL_val rfl rfl rfl (by first | exact rMoveI rfl rfl | exact rMove rfl) ?_
            refine WL_val rfl rfl rfl (by first | exact rInc rfl rfl rfl (by omega) | exact rAdd rfl rfl rfl (by omega) | exact rAddW rfl rfl rfl) ?_
            refine WL_val rfl rfl rfl (by first | exact rAsgnI rfl rfl | exact rAsgn rfl) ?_
            refine WL_nil ?_
            refine W_region ?_
            refine WL_val rfl rfl rfl (by first | exact rMoveI rfl rfl | exact rMove rfl) ?_
            refine WL_val rfl rfl rfl (by first | exact rInc rfl rfl rfl (by omega) | exact rAdd rfl rfl rfl (by omega) | exact rAddW rfl rfl rfl) ?_
            refine WL_val rfl rfl rfl (by first | exact rAsgnI rfl rfl | exact rAsgn rfl) ?_
            refine WL_nil ?_
            refine ⟨⟨j2 + 1, kk + 1, e.set kk (d.getD (j + 1 + (j2 + 1)) 0), by omega, by simpa using hen, by omega, by omega, fun x => ?_, fun q hq => ?_, ⟨rfl, rfl, rfl, rfl, trivial⟩, hI⟩, by show n - ((j2 + 1 + 1 : Nat) : Int).toNat < n - ((j2 + 1 : Nat) : Int).toNat; omega⟩
            · have e1 : (e.set kk (d.getD (j + 1 + (j2 + 1)) 0)).take (kk + 1) = e.take kk ++ [d.getD (j + 1 + (j2 + 1)) 0] := by
                rw [List.take_succ_eq_append_getElem (by simp; omega), List.take_set_of_le (Nat.le_refl _)]
                simp
              rw [e1, List.mem_append, List.mem_singleton, hmem, hst]
              constructor
              · rintro (h | h)
                · exact .inl h
                · exact .inr ⟨by omega, h⟩
              · rintro (h | ⟨_, h⟩)
                · exact .inl h
                · exact .inr h
            · rw [← hsame q (by omega)]
              simp [List.getD, List.getElem?_set, show ¬ kk = q by omega]
        · refine W_seq ?_
          refine W_seq ?_
          refine W_region ?_
          refine WL_val rfl rfl rfl (by first | exact rMoveI rfl rfl | exact rMove rfl) ?_
          refine WL_val rfl rfl rfl (by first | exact rMoveS rfl rfl | exact rMove rfl) ?_
          refine WL_val rfl rfl rfl (rLen rfl Try.underlying22 rfl) ?_
          refine WL_val rfl rfl rfl (by first | exact rLssT rfl rfl rfl (by omega) | exact rLssF rfl rfl rfl (by omega) | exact rLss rfl rfl rfl) ?_
          refine WL_nil ?_
          refine W_cond false rfl ?_
          refine W_exit ?_
          refine ⟨kk, e, hen, hkk1, by omega, fun x => ?_, ⟨rfl, rfl, trivial⟩, hI⟩
          rw [hmem x, List.take_of_length_le (by omega)]
      · clear hI
        rintro ρ w ⟨kk, e, hen, hkk1, hkk, hmem, hH, hI⟩
        obtain ⟨σ, rfl⟩ := hH.open
        have hsz := intC_size e junk
        refine W_seq ?_
        refine W_region ?_
        refine WL_val rfl rfl rfl (by first | exact rMoveS rfl rfl | exact rMove rfl) ?_
        refine WL_val rfl rfl rfl (by first | exact rMoveI rfl rfl | exact rMove rfl) ?_
        refine WL_val rfl rfl rfl (by first | exact rSliceFrom (sz := 1) rfl Try.underlying22 (by kernel_rfl) rfl rfl (by omega) (by omega) | exact rSliceFromG (sz := 1) rfl Try.underlying22 (by kernel_rfl) rfl rfl (by omega)) ?_
        refine WL_clear (i := 0) (z := .int .i64 0) rfl hI rfl rfl rfl Try.underlying22 (by kernel_rfl) rfl rfl rfl (by omega) (by omega) ?_
        clear hI; rintro w cu' hz1 hz2 hI
        refine WL_nil ?_
        refine W_seq ?_
        refine W_region ?_
        refine WL_val rfl rfl rfl (by first | exact rMoveS rfl rfl | exact rMove rfl) ?_
        refine WL_val rfl rfl rfl (by first | exact rMoveI rfl rfl | exact rMove rfl) ?_
        refine WL_val rfl rfl rfl (rSliceTo (sz := 1) rfl Try.underlying22 (by kernel_rfl) rfl rfl (by omega)) ?_
        refine WL_val rfl rfl rfl (by first | exact rAsgnS rfl rfl | exact rAsgn rfl) ?_
        refine WL_nil ?_
        refine W_ret ?_
        have e1 : cu' = intC (e.take kk) (cu'.toList.drop kk) := intC_take (by omega) (fun q hq => hz2 q (by omega)) hz1
        have hI : Inv S w0 w [B g 3 cu'] := hI
        rw [e1] at hI
        exact ret1 2 (.inr rfl) rfl ⟨kk, e.take kk, _, rfl, by rw [List.length_take]; omega, by omega, hmem, hI⟩
    · refine W_seq ?_
      refine W_draw (by kernel_rfl) ?_
      refine WA_inv (T := []) hI.drew ?_
      intro Sx hSx hXS
      replace hI := hI.drew
      refine WT_take 0 rfl rfl (by kernel_rfl) (hXS _ hI) rfl (fun W hW => have hI := hSx W hW; (by first | exact rMoveS rfl rfl | exact rMove rfl)) ?_
      refine WT_take 1 rfl rfl (by kernel_rfl) (hXS _ hI) rfl (fun W hW => have hI := hSx W hW; (by first | exact rMoveI rfl rfl | exact rMove rfl)) ?_
      refine WT_take 2 rfl rfl (by kernel_rfl) (hXS _ hI) rfl (fun W hW => have hI := hSx W hW; (by first | exact rIdx0 rfl Try.underlying22 (by kernel_rfl) rfl rfl rfl (by omega) | exact rIdx1 rfl Try.underlying22 (by kernel_rfl) rfl rfl (by omega))) ?_
      refine WT_take 3 rfl rfl (by kernel_rfl) (hXS _ hI) rfl (fun W hW => have hI := hSx W hW; (by first | exact rLd (v := .int .i64 _) rfl (by kernel_rfl) rfl (by first | exact hI.c0 rfl | exact (hI.c0 (intC_get (by omega)))) | exact rLd rfl (by kernel_rfl) rfl (by first | exact hI.c0 rfl | exact (hI.c0 (intC_get (by omega)))))) ?_
      refine WT_take 4 rfl rfl (by kernel_rfl) (hXS _ hI) rfl (fun W hW => have hI := hSx W hW; (by first | exact rMoveS rfl rfl | exact rMove rfl)) ?_
      refine WT_take 5 rfl rfl (by kernel_rfl) (hXS _ hI) rfl (fun W hW => have hI := hSx W hW; (by first | exact rMoveI rfl rfl | exact rMove rfl)) ?_
      refine WT_take 6 rfl rfl (by kernel_rfl) (hXS _ hI) rfl (fun W hW => have hI := hSx W hW; (by first | exact rSub rfl rfl rfl (by omega) | exact rSubW rfl rfl rfl)) ?_
      refine WT_take 7 rfl rfl (by kernel_rfl) (hXS _ hI) rfl (fun W hW => have hI := hSx W hW; (rIdx0 (i := j) rfl Try.underlying22 (by kernel_rfl) rfl rfl (by omega) (by omega))) ?_
      refine WT_take 8 rfl rfl (by kernel_rfl) (hXS _ hI) rfl (fun W hW => have hI := hSx W hW; (by first | exact rLd (v := .int .i64 _) rfl (by kernel_rfl) rfl (by first | exact hI.c0 rfl | exact (hI.c0 (intC_get (by omega)))) | exact rLd rfl (by kernel_rfl) rfl (by first | exact hI.c0 rfl | exact (hI.c0 (intC_get (by omega)))))) ?_
      refine WT_take 9 rfl rfl (by kernel_rfl) (hXS _ hI) rfl (fun W hW => have hI := hSx W hW; (by first | exact rEqlT rfl rfl rfl (by omega) | exact rEqlF rfl rfl rfl (by omega) | exact rEql rfl rfl rfl)) ?_
      refine WT_end (by kernel_rfl) ?_
      refine W_cond false rfl ?_
      refine W_skip ?_
      refine W_region ?_
      refine WL_val rfl rfl rfl (by first | exact rMoveI rfl rfl | exact rMove rfl) ?_
      refine WL_val rfl rfl rfl (by first | exact rInc rfl rfl rfl (by omega) | exact rAdd rfl rfl rfl (by omega) | exact rAddW rfl rfl rfl) ?_
      refine WL_val rfl rfl rfl (by first | exact rAsgnI rfl rfl | exact rAsgn rfl) ?_
      refine WL_nil ?_
      exact ⟨⟨j + 1, by omega, ⟨rfl, rfl, trivial⟩, hI⟩, by show n - ((j + 1 + 1 : Nat) : Int).toNat < n - ((j + 1 : Nat) : Int).toNat; omega⟩
  · refine W_seq ?_
    refine W_seq ?_
    refine W_region ?_
    refine WL_val rfl rfl rfl (by first | exact rMoveI rfl rfl | exact rMove rfl) ?_
    refine WL_val rfl rfl rfl (by first | exact rMoveS rfl rfl | exact rMove rfl) ?_
    refine WL_val rfl rfl rfl (rLen rfl Try.underlying22 rfl) ?_
    refine WL_val rfl rfl rfl (by first | exact rLssT rfl rfl rfl (by omega) | exact rLssF rfl rfl rfl (by omega) | exact rLss rfl rfl rfl) ?_
    refine WL_nil ?_
    refine W_cond false rfl ?_
    refine W_exit ?_
    refine W_seq ?_
    refine W_region ?_
    refine WL_val rfl rfl rfl (by first | exact rMoveS rfl rfl | exact rMove rfl) ?_
    refine WL_val rfl rfl rfl (by first | exact rAsgnS rfl rfl | exact rAsgn rfl) ?_
    refine WL_nil ?_
    refine W_ret ?_
    exact ret1 2 (.inr rfl) rfl ⟨n, d, junk, rfl, hn, Nat.le_refl _, fun x => Iff.rfl, hI⟩
def optI : Option Nat → Int
  | some k => (k : Int)
  | none => -1
theorem Ints.len {w : World} {D : Nat → Prop} {A : Option Addr} {n c : Nat} {l : List Int} (h : Ints w D (.slice A n c) l) : n = l.length ∧ n ≤ c ∧ c ≤ 9223372036854775807 := by
  obtain ⟨A', c', he, h1, h2⟩ := Rd.form h
  injection he with _ e2 e3
  subst e2 e3
  exact ⟨rfl, h1, h2⟩
theorem mem_getD {α : Type} [Inhabited α] {l : List α} {k : Nat} {d : α} (h : k < l.length) : l.getD k d ∈ l := by
  simp [List.getD, List.getElem?_eq_getElem h]
theorem all_getD {α : Type} {l : List α} {d : α} {p : α → Prop} (h : ∀ j, j < l.length → p (l.getD j d)) : ∀ x ∈ l, p x := fun x hx => by
  obtain ⟨i, hi⟩ := List.getElem?_of_mem hx
  have hlt := (List.getElem?_eq_some_iff.1 hi).1
  have := h i hlt
  simpa [List.getD, hi] using this
set_option maxHeartbeats 1000000 in
theorem idxI_any (A : Option Addr) (n c : Nat) (l : List Int) (x : Int) (D : Nat → Prop) (w0 : World) (h : Ints w0 D (.slice A n c) l) :
    Calls Try.prog 31 #[.slice A n c, .int .i64 x] w0 fun en w' => (∃ o : Option Nat, en = .returned (.int .i64 (optI o)) ∧ (o.isSome = true ↔ x ∈ l)) ∧ Pure w0 w' := by
  have hI := Inv.start (fun _ => False) w0
  obtain ⟨hn, hc1, hc2⟩ := h.len
  refine calls_of_W (N := Try.f31.ntmps) Try.func31 rfl rfl rfl ?_
  refine W_seq ?_
  refine W_region ?_
  refine WL_val rfl rfl rfl (by first | exact rAsgnI rfl rfl | exact rAsgn rfl) ?_
  refine WL_nil ?_
  refine W_seq ?_
  refine W_seq ?_
  refine W_region ?_
  refine WL_val rfl rfl rfl (by first | exact rMoveS rfl rfl | exact rMove rfl) ?_
  refine WL_val rfl rfl rfl (rLen rfl Try.underlying22 rfl) ?_
  refine WL_val rfl rfl rfl (by first | exact rMoveI rfl rfl | exact rMove rfl) ?_
  refine WL_nil ?_
  refine W_block ?_
  refine W_loop (fun ρ w => ∃ k : Nat, k ≤ n ∧ (∀ j, j < k → l.getD j 0 ≠ x) ∧ Has ρ [(8, .int .i64 (k : Int)), (7, .int .i64 (n : Int)), (0, .slice A n c), (1, .int .i64 x)] ∧ Inv (fun _ => False) w0 w []) (fun ρ _ => n - cnt (ρ 8))
    ⟨0, by omega, fun j hj => by omega, ⟨rfl, rfl, rfl, rfl, trivial⟩, hI⟩ ?_
  clear hI
  rintro ρ w ⟨k, hk, hno, hH, hI⟩
  obtain ⟨σ, rfl⟩ := hH.open
  by_cases hkn : k < n
  · obtain ⟨bA, oA, rfl, q0⟩ := h.at (show k < l.length by omega)
    refine W_seq ?_
    refine W_region ?_
    refine WL_val rfl rfl rfl (by first | exact rLssT rfl rfl rfl (by omega) | exact rLssF rfl rfl rfl (by omega) | exact rLss rfl rfl rfl) ?_
    refine WL_nil ?_
    refine W_seq ?_
    refine W_cond true rfl ?_
    refine W_skip ?_
    refine W_seq ?_
    refine W_block ?_
    refine W_seq ?_
    refine W_region ?_
    refine WL_val rfl rfl rfl (by first | exact rMoveI rfl rfl | exact rMove rfl) ?_
    refine WL_val rfl rfl rfl (by first | exact rAsgnI rfl rfl | exact rAsgn rfl) ?_
    refine WL_nil ?_
    by_cases hx : x = l.getD k 0
    · refine W_seq ?_
      refine W_region ?_
      refine WL_val rfl rfl rfl (by first | exact rMoveI rfl rfl | exact rMove rfl) ?_
      refine WL_val rfl rfl rfl (by first | exact rMoveS rfl rfl | exact rMove rfl) ?_
      refine WL_val rfl rfl rfl (by first | exact rMoveI rfl rfl | exact rMove rfl) ?_
      refine WL_val rfl rfl rfl (by first | exact rIdx0 rfl Try.underlying22 (by kernel_rfl) rfl rfl rfl (by omega) | exact rIdx1 rfl Try.underlying22 (by kernel_rfl) rfl rfl (by omega)) ?_
      refine WL_val rfl rfl rfl (by first | exact rLd (v := .int .i64 _) rfl (by kernel_rfl) rfl (by first | exact hI.oldp q0 | exact q0) | exact rLd rfl (by kernel_rfl) rfl (by first | exact hI.oldp q0 | exact q0)) ?_
      refine WL_val rfl rfl rfl (by first | exact rEqlT rfl rfl rfl (by omega) | exact rEqlF rfl rfl rfl (by omega) | exact rEql rfl rfl rfl) ?_
      refine WL_nil ?_
      refine W_cond true rfl ?_
      refine W_seq ?_
      refine W_region ?_
      refine WL_val rfl rfl rfl (by first | exact rMoveI rfl rfl | exact rMove rfl) ?_
      refine WL_val rfl rfl rfl (by first | exact rAsgnI rfl rfl | exact rAsgn rfl) ?_
      refine WL_nil ?_
      refine W_ret ?_
      exact ret1 4 (.inr rfl) rfl ⟨⟨some k, rfl, by simp only [Option.isSome_some, true_iff]; rw [hx]; exact mem_getD (by omega)⟩, hI.pu⟩
    · refine W_seq ?_
      refine W_region ?_
      refine WL_val rfl rfl rfl (by first | exact rMoveI rfl rfl | exact rMove rfl) ?_
      refine WL_val rfl rfl rfl (by first | exact rMoveS rfl rfl | exact rMove rfl) ?_
      refine WL_val rfl rfl rfl (by first | exact rMoveI rfl rfl | exact rMove rfl) ?_
      refine WL_val rfl rfl rfl (by first | exact rIdx0 rfl Try.underlying22 (by kernel_rfl) rfl rfl rfl (by omega) | exact rIdx1 rfl Try.underlying22 (by kernel_rfl) rfl rfl (by omega)) ?_
      refine WL_val rfl rfl rfl (by first | exact rLd (v := .int .i64 _) rfl (by kernel_rfl) rfl (by first | exact hI.oldp q0 | exact q0) | exact rLd rfl (by kernel_rfl) rfl (by first | exact hI.oldp q0 | exact q0)) ?_
      refine WL_val rfl rfl rfl (by first | exact rEqlT rfl rfl rfl (by omega) | exact rEqlF rfl rfl rfl (by omega) | exact rEql rfl rfl rfl) ?_
      refine WL_nil ?_
      refine W_cond false rfl ?_
      refine W_skip ?_
      refine W_region ?_
      refine WL_val rfl rfl rfl (by first | exact rInc rfl rfl rfl (by omega) | exact rAdd rfl rfl rfl (by omega) | exact rAddW rfl rfl rfl) ?_
      refine WL_val rfl rfl rfl (by first | exact rMoveI rfl rfl | exact rMove rfl) ?_
      refine WL_nil ?_
      refine ⟨⟨k + 1, by omega, fun j hj => ?_, ⟨rfl, rfl, rfl, rfl, trivial⟩, hI⟩, by show n - ((k + 1 : Nat) : Int).toNat < n - (k : Int).toNat; omega⟩
      rcases Nat.lt_or_ge j k with h1 | h1
      · exact hno j h1
      · have : j = k := by omega
        subst this; exact fun e => hx e.symm
  · refine W_seq ?_
    refine W_region ?_
    refine WL_val rfl rfl rfl (by first | exact rLssT rfl rfl rfl (by omega) | exact rLssF rfl rfl rfl (by omega) | exact rLss rfl rfl rfl) ?_
    refine WL_nil ?_
    refine W_seq ?_
    refine W_cond false rfl ?_
    refine W_exit ?_
    refine W_seq ?_
    refine W_region ?_
    refine WL_val rfl rfl rfl (by first | exact rAsgnI rfl rfl | exact rAsgn rfl) ?_
    refine WL_nil ?_
    refine W_ret ?_
    exact ret1 4 (.inr rfl) rfl ⟨⟨none, rfl, by simp only [Option.isSome_none, Bool.false_eq_true, false_iff]; exact fun hm => all_getD (p := fun y => y ≠ x) (fun j hj => hno j (by omega)) x hm rfl⟩, hI.pu⟩
theorem conI_any (A : Option Addr) (n c : Nat) (l : List Int) (x : Int) (D : Nat → Prop) (w0 : World) (h : Ints w0 D (.slice A n c) l) :
    Calls Try.prog 29 #[.slice A n c, .int .i64 x] w0 fun en w' => en = .returned (.bool (decide (x ∈ l))) ∧ Pure w0 w' := by
  have hI := Inv.start (fun _ => False) w0
  refine calls_of_W (N := Try.f29.ntmps) Try.func29 rfl rfl rfl ?_
  refine W_seq ?_
  refine W_region ?_
  refine WL_val rfl rfl rfl (by first | exact rAsgnB rfl rfl | exact rAsgn rfl) ?_
  refine WL_nil ?_
  refine W_seq ?_
  refine W_region ?_
  refine WL_val rfl rfl rfl (by first | exact rMoveS rfl rfl | exact rMove rfl) ?_
  refine WL_val rfl rfl rfl (by first | exact rMoveI rfl rfl | exact rMove rfl) ?_
  refine WL_call rfl rfl rfl (rCall (vs := [.slice _ _ _, .int .i64 _]) rfl Try.func31 rfl rfl rfl) ?_
  refine (idxI_any A n c l x D _ h).mono ?_
  rintro e w1 ⟨⟨o, rfl, ho⟩, hp⟩
  refine ⟨_, rfl, ?_⟩
  replace hI := hI.pure hp
  refine WL_val rfl rfl rfl (rGeq rfl rfl rfl) ?_
  refine WL_val rfl rfl rfl (by first | exact rAsgnB rfl rfl | exact rAsgn rfl) ?_
  refine WL_nil ?_
  refine W_ret ?_
  refine ret1 4 (.inr rfl) rfl ⟨?_, hI.pu⟩
  have : decide (0 ≤ optI o) = decide (x ∈ l) := by
    rw [decide_eq_decide, ← ho]
    cases o <;> simp [optI]
  rw [← this]; rfl
end Go.Proofs.Ytkfciehgjhgmeaa
