/- clock: arrays of numbers opened. -/
import Derived.Test.YtajbhabkhgpcfaaDoorClkOpen
import Derived.Test.YtajbhabkhgpcfaaDoorOpenS
import Derived.OpenShut
namespace Go.Proofs.YtajbhabkhgpcfaaDoor
open Go Go.ChangeShapes Go.WideShapes Go.Deep
section
variable {H : Type} {enc : TypeId × Value → H} {P : Program} {w : World} {base : Nat} {spare : Nat → Bool} {held : Bool}
theorem opn_arr {t e : TypeId} {n fuel : Nat} {y : List Value} {x : DataW H × List MemPlace} (ht : P.underlying t = some (.array n e)) (he : P.underlying e = some (.int .i64)) (hCe : P.cellsOf e = 1) (hC : P.cellsOf t = n) (h : DataW.trod enc P w base spare held fuel t y = some x) :
    ∃ l : List Int, l.length = n ∧ y = i64s l := by
  obtain ⟨xs, m, _, _, hlen, hxl, hf⟩ := DataW.trod_array ht h
  rw [hC] at hlen
  obtain ⟨l, hl, hP⟩ := list_of (P := fun i z => y[i]? = some (Value.int .i64 z)) n (fun i hlt => by
    have h1 := hf i hlt
    rw [hCe, Nat.mul_one, List.getElem?_eq_getElem (by omega)] at h1
    have h2 : (y.drop i).take 1 = [y[i]'(by omega)] := by
      rw [List.drop_eq_getElem_cons (by omega)]
      rfl
    rw [h2] at h1
    obtain ⟨z, hz, _, _⟩ := DataW.trod_int he h1
    injection hz with hz _
    exact ⟨z, by rw [List.getElem?_eq_getElem (by omega), hz]⟩)
  refine ⟨l, hl, ?_⟩
  refine List.ext_getElem? fun i => ?_
  by_cases hlt : i < n
  · obtain ⟨z, hz⟩ : ∃ z, l[i]? = some z := ⟨_, List.getElem?_eq_getElem (by omega)⟩
    rw [hP i z hz]
    simp [i64s, hz]
  · rw [List.getElem?_eq_none (by omega), List.getElem?_eq_none (by simp [i64s]; omega)]
theorem okWide_array {t e : TypeId} {n b0 : Nat} {r : Reach} {v : Value} (ht : P.underlying t = some (.array n e)) (h : Value.okWide P w r b0 t v) : ∃ cs, v = .agg cs := by
  simp only [Value.okWide, ht] at h
  obtain ⟨cs, h1, _⟩ := h
  exact ⟨cs, h1⟩
set_option maxRecDepth 8000 in
theorem opn_arr8 {r : Reach} {b0 : Nat} {v : Value} {d : DataW H} {p : List MemPlace} (hv : Value.okWide Tryd.prog w r b0 36 v) (h : DataW.Trod enc Tryd.prog w base spare held 36 v d p) : ∃ l : List Int, l.length = 8 ∧ v = .agg (i64s l).toArray := by
  have hs := okWide_array (P := Tryd.prog) (t := 36) Tryd.underlying36 hv
  obtain ⟨cs, rfl⟩ := hs
  obtain ⟨fuel, hf⟩ := h
  obtain ⟨l, hl, he⟩ := opn_arr Tryd.underlying36 Tryd.underlying3 (by kernel_rfl) (by kernel_rfl) hf
  refine ⟨l, hl, ?_⟩
  rw [← he]
  simp [Value.cells]
end
end Go.Proofs.YtajbhabkhgpcfaaDoor
