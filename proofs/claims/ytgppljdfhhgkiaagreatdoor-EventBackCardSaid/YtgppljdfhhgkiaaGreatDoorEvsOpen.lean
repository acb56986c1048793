/- events: opened. -/
import Derived.Test.YtgppljdfhhgkiaaGreatDoorEvo3
import Derived.Test.YtgppljdfhhgkiaaGreatDoorOpenS
namespace Go.Proofs.YtgppljdfhhgkiaaGreatDoor
open Go Go.ChangeShapes Go.WideShapes Go.Deep
section
open Go.ChangeShapes Go.WideShapes Go.Deep
variable {H : Type} {enc : TypeId × Value → H} {w : World} {base : Nat} {spare : Nat → Bool} {held : Bool}
theorem opn_ev {fuel : Nat} {y : List Value} {x : DataW H × List MemPlace} (hd : DataW.trod enc Tryz.prog w base spare held fuel 31 y = some x) : ∃ s : Ev, y = evL s := by
  obtain ⟨l, hl, rfl, _⟩ := opn_i64s Tryz.underlying31 (by kernel_rfl) (by kernel_rfl) (by kernel_rfl) hd
  match l, hl with
  | [a0, a1, a2, a3, a4, a5, a6], _ => exact ⟨⟨a0, a1, a2, a3, a4, a5, a6⟩, rfl⟩
theorem opn_evsE {fuel : Nat} {v : Value} {x : DataW H × List MemPlace} (h : DataW.trod enc Tryz.prog w base spare held fuel 22 [v] = some x) : ∃ A c l, v = .slice A l.length c ∧ EvsR w (fun k => k < w.heap.size) (.slice A l.length c) l := by
  obtain ⟨A, n, c, ys, rfl, _, _, hyl, hrd, hys⟩ := opn_slice (size := 7) Tryz.underlying22 (by kernel_rfl) (by omega) h
  obtain ⟨l, hl, hfl, _⟩ := decode (f := evL) (R := fun _ => True) ys (fun y hy => by
    obtain ⟨_, n', d, hd⟩ := hys y hy
    obtain ⟨s, hs⟩ := opn_ev hd
    exact ⟨s, hs, trivial⟩)
  refine ⟨A, c, l, by rw [hl, hyl], ?_⟩
  unfold EvsR
  rw [hl, hyl, ← hfl]
  exact hrd
theorem opn_evs {v : Value} {d : DataW H} {p : List MemPlace} (h : DataW.Trod enc Tryz.prog w base spare held 22 v d p) (hv : v.cells = #[v]) : ∃ A c l, v = .slice A l.length c ∧ EvsR w (fun k => k < w.heap.size) (.slice A l.length c) l := by
  obtain ⟨fuel, hf⟩ := h
  rw [hv] at hf
  exact opn_evsE hf
end
end Go.Proofs.YtgppljdfhhgkiaaGreatDoor
