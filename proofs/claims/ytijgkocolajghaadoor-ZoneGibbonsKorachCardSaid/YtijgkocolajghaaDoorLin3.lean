/- linear.Shows: the walk. -/
import Derived.Test.YtijgkocolajghaaDoorLin2
namespace Go.Proofs.YtijgkocolajghaaDoor
open Go.RowKit
set_option linter.unusedVariables false
set_option linter.unusedSimpArgs false
theorem OkLin.key {o : Int} {l : List Op8} {bud : Int} (h : OkLin o l bud) : ∀ i, i < l.length → 0 ≤ (oAt l i).key ∧ (oAt l i).key < 8 := fun i hi => by
  have h1 := (h.2.2.2.2.1.2 i hi).1
  unfold toldB inB at h1
  simp at h1
  omega
theorem at_idx {w : World} {b k : Nat} {v : Value} (h : w.cell? ⟨b, k, none⟩ = some v) : w.cell? ⟨b, 0 + k, none⟩ = some v := by rwa [Nat.zero_add]
end Go.Proofs.YtijgkocolajghaaDoor
