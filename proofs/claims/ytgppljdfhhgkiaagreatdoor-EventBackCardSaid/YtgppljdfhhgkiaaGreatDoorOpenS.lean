/- Structs of ints alone, opened to lists. Nothing of the program. -/
import Derived.Test.YtgppljdfhhgkiaaGreatDoorOpen
import Derived.Test.YtgppljdfhhgkiaaGreatDoorSxA
namespace Go.Proofs.YtgppljdfhhgkiaaGreatDoor
open Go Go.ChangeShapes Go.WideShapes Go.Deep
section
variable {H : Type} {enc : TypeId × Value → H} {P : Program} {w : World} {base : Nat} {spare : Nat → Bool} {held : Bool}
theorem opn_i64s {e : TypeId} {fs : Array Field} {fuel : Nat} {y : List Value} {x : DataW H × List MemPlace} (he : P.underlying e = some (.struct fs)) (hone : oneCellFields P fs = true) (hC : P.cellsOf e = fs.size) (hi : fs.toList.all (fun f => match P.underlying f.type with | some (.int .i64) => true | _ => false) = true) (h : DataW.trod enc P w base spare held fuel e y = some x) :
    ∃ l : List Int, l.length = fs.size ∧ y = i64s l ∧ ∀ z ∈ l, -9223372036854775808 ≤ z ∧ z ≤ 9223372036854775807 := by
  obtain ⟨hy, hf⟩ := opn_fields he hone hC h
  obtain ⟨l, hl, hP⟩ := list_of (P := fun i z => y[i]? = some (Value.int .i64 z) ∧ -9223372036854775808 ≤ z ∧ z ≤ 9223372036854775807) fs.size (fun i hlt => by
    obtain ⟨v, n', d, hv, hd⟩ := hf i fs[i] (Array.getElem?_eq_getElem hlt)
    have ht : P.underlying fs[i].type = some (.int .i64) := by
      have := List.all_eq_true.1 hi fs[i] (by simp)
      split at this
      · assumption
      · cases this
    obtain ⟨z, hz, _, hwf⟩ := DataW.trod_int ht hd
    injection hz with hz _
    exact ⟨z, by rw [hv, hz], wf_i64_bounds hwf⟩)
  refine ⟨l, hl, ?_, fun z hz => ?_⟩
  · refine List.ext_getElem? fun i => ?_
    by_cases hlt : i < fs.size
    · obtain ⟨z, hz⟩ : ∃ z, l[i]? = some z := ⟨_, List.getElem?_eq_getElem (by omega)⟩
      rw [(hP i z hz).1]
      simp [i64s, hz]
    · rw [List.getElem?_eq_none (by omega), List.getElem?_eq_none (by simp [i64s]; omega)]
  · obtain ⟨i, hi⟩ := List.getElem?_of_mem hz
    exact (hP i z hi).2
end
end Go.Proofs.YtgppljdfhhgkiaaGreatDoor
