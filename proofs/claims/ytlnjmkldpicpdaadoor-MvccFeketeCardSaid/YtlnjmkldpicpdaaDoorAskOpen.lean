/- mvcc: asks opened. -/
import Derived.Test.YtlnjmkldpicpdaaDoorMvc14
import Derived.Test.YtlnjmkldpicpdaaDoorOpenS
namespace Go.Proofs.YtlnjmkldpicpdaaDoor
open Go Go.ChangeShapes Go.WideShapes Go.Deep
section
open Go.ChangeShapes Go.WideShapes Go.Deep
variable {H : Type} {enc : TypeId × Value → H} {w : World} {base : Nat} {spare : Nat → Bool} {held : Bool}
theorem opn_ask {fuel : Nat} {y : List Value} {x : DataW H × List MemPlace} (hd : DataW.trod enc Tryd.prog w base spare held fuel 58 y = some x) : ∃ s : Ask, y = askV s := by
  obtain ⟨l, hl, rfl, _⟩ := opn_i64s Tryd.underlying58 (by kernel_rfl) (by kernel_rfl) (by kernel_rfl) hd
  match l, hl with
  | [a0, a1, a2], _ => exact ⟨⟨a0, a1, a2⟩, rfl⟩
theorem opn_asksE {fuel : Nat} {v : Value} {x : DataW H × List MemPlace} (h : DataW.trod enc Tryd.prog w base spare held fuel 22 [v] = some x) : ∃ A c l, v = .slice A l.length c ∧ asksR w (fun k => k < w.heap.size) (.slice A l.length c) l := by
  obtain ⟨A, n, c, ys, rfl, _, _, hyl, hrd, hys⟩ := opn_slice (size := 3) Tryd.underlying22 (by kernel_rfl) (by omega) h
  obtain ⟨l, hl, hfl, _⟩ := decode (f := askV) (R := fun _ => True) ys (fun y hy => by
    obtain ⟨_, n', d, hd⟩ := hys y hy
    obtain ⟨s, hs⟩ := opn_ask hd
    exact ⟨s, hs, trivial⟩)
  refine ⟨A, c, l, by rw [hl, hyl], ?_⟩
  unfold asksR
  rw [hl, hyl, ← hfl]
  exact hrd
theorem opn_asks {v : Value} {d : DataW H} {p : List MemPlace} (h : DataW.Trod enc Tryd.prog w base spare held 22 v d p) (hv : v.cells = #[v]) : ∃ A c l, v = .slice A l.length c ∧ asksR w (fun k => k < w.heap.size) (.slice A l.length c) l := by
  obtain ⟨fuel, hf⟩ := h
  rw [hv] at hf
  exact opn_asksE hf
end
end Go.Proofs.YtlnjmkldpicpdaaDoor
