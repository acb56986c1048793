/- serial, plainly: where a place, a writer is found; behind an end there is nothing. Nothing of the program's code. -/
import Derived.Test.YtgkmlnbnjbpodaaDoorSer4
namespace Go.Proofs.YtgkmlnbnjbpodaaDoor
open Go.RowKit
set_option linter.unusedVariables false
set_option linter.unusedSimpArgs false
theorem placeTo_none {l : List St} {tx kind : Int} {a : Nat} : ∀ {j : Nat}, placeTo l tx kind a j = none → ∀ i, i < j → ¬ ((sAt l (a + i)).tx = tx ∧ (sAt l (a + i)).kind = kind)
  | 0, _, i, hi => by omega
  | j + 1, h, i, hi => by
    rw [placeTo] at h
    cases hp : placeTo l tx kind a j with
    | some k => rw [hp] at h; cases h
    | none =>
      rw [hp] at h
      simp only at h
      split at h
      · cases h
      · rename_i hn
        by_cases hij : i = j
        · subst hij; exact hn
        · exact placeTo_none hp i (by omega)
theorem placeF_none {l : List St} {tx kind : Int} {a b : Nat} (h : placeF l tx kind a b = none) {j : Nat} (h1 : a ≤ j) (h2 : j < b) : ¬ ((sAt l j).tx = tx ∧ (sAt l j).kind = kind) := by
  have := placeTo_none (j := b - a) h (j - a) (by omega)
  rwa [show a + (j - a) = j by omega] at this
theorem placeTo_some {l : List St} {tx kind : Int} {a : Nat} : ∀ {j k : Nat}, placeTo l tx kind a j = some k → k < a + j ∧ (sAt l k).tx = tx ∧ (sAt l k).kind = kind
  | 0, k, h => by cases h
  | j + 1, k, h => by
    rw [placeTo] at h
    cases hp : placeTo l tx kind a j with
    | some k' =>
      rw [hp] at h
      simp only at h
      injection h with h
      subst h
      have := placeTo_some hp
      exact ⟨by omega, this.2⟩
    | none =>
      rw [hp] at h
      simp only at h
      split at h
      · rename_i hc
        injection h with h
        subst h
        exact ⟨by omega, hc⟩
      · cases h
theorem writerTo_spec {l : List St} {i : Nat} : ∀ {k m : Nat}, writerTo l i k = some m → m < k ∧ (sAt l m).kind = 2 ∧ (sAt l m).key = (sAt l i).key ∧ placeF l (sAt l m).tx 4 m i = none
  | 0, m, h => by cases h
  | k + 1, m, h => by
    rw [writerTo] at h
    split at h
    · rename_i hc
      injection h with h
      subst h
      exact ⟨by omega, hc⟩
    · have := writerTo_spec h
      exact ⟨by omega, this.2⟩
/-- Behind one's end there is nothing of it. -/
theorem no_after {l : List St} (h : ∀ k, k < l.length → overTo l k (sAt l k).tx.toNat = false) {i j : Nat} (hij : i < j) (hj : j < l.length) (ht : (sAt l i).tx.toNat = (sAt l j).tx.toNat) : (sAt l i).kind < 3 := by
  refine Classical.byContradiction fun hk => ?_
  have key : ∀ d, i + 1 + d ≤ j → overTo l (i + 1 + d) (sAt l i).tx.toNat = true := fun d => by
    induction d with
    | zero =>
      intro _
      show overTo l (i + 1) _ = true
      rw [overTo]
      dsimp only
      rw [if_pos rfl]
      exact decide_eq_true (by omega)
    | succ d ih =>
      intro hd
      have ih := ih (by omega)
      show overTo l (i + 1 + d + 1) _ = true
      rw [overTo]
      dsimp only
      by_cases he : (sAt l i).tx.toNat = (sAt l (i + 1 + d)).tx.toNat
      · have := h (i + 1 + d) (by omega)
        rw [← he, ih] at this
        cases this
      · rw [if_neg he]; exact ih
  have h1 := key (j - (i + 1)) (by omega)
  rw [show i + 1 + (j - (i + 1)) = j by omega, ht, h j hj] at h1
  cases h1
end Go.Proofs.YtgkmlnbnjbpodaaDoor
