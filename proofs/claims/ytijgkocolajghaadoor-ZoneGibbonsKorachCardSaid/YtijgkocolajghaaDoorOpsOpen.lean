/- ops: opened. -/
import Derived.Test.YtijgkocolajghaaDoorMod6
import Derived.Test.YtijgkocolajghaaDoorOpenS
namespace Go.Proofs.YtijgkocolajghaaDoor
open Go Go.ChangeShapes Go.WideShapes Go.Deep
section
open Go.ChangeShapes Go.WideShapes Go.Deep
variable {H : Type} {enc : TypeId × Value → H} {w : World} {base : Nat} {spare : Nat → Bool} {held : Bool}
theorem opn_op {fuel : Nat} {y : List Value} {x : DataW H × List MemPlace} (hd : DataW.trod enc Tryd.prog w base spare held fuel 41 y = some x) : ∃ s : Op8, y = opV s := by
  obtain ⟨l, hl, rfl, _⟩ := opn_i64s Tryd.underlying41 (by kernel_rfl) (by kernel_rfl) (by kernel_rfl) hd
  match l, hl with
  | [a0, a1, a2, a3, a4, a5, a6, a7], _ => exact ⟨⟨a0, a1, a2, a3, a4, a5, a6, a7⟩, rfl⟩
theorem opn_opsE {fuel : Nat} {v : Value} {x : DataW H × List MemPlace} (h : DataW.trod enc Tryd.prog w base spare held fuel 22 [v] = some x) : ∃ A c l, v = .slice A l.length c ∧ OpsR w (fun k => k < w.heap.size) (.slice A l.length c) l := by
  obtain ⟨A, n, c, ys, rfl, _, _, hyl, hrd, hys⟩ := opn_slice (size := 8) Tryd.underlying22 (by kernel_rfl) (by omega) h
  obtain ⟨l, hl, hfl, _⟩ := decode (f := opV) (R := fun _ => True) ys (fun y hy => by
    obtain ⟨_, n', d, hd⟩ := hys y hy
    obtain ⟨s, hs⟩ := opn_op hd
    exact ⟨s, hs, trivial⟩)
  refine ⟨A, c, l, by rw [hl, hyl], ?_⟩
  unfold OpsR
  rw [hl, hyl, ← hfl]
  exact hrd
theorem opn_ops {v : Value} {d : DataW H} {p : List MemPlace} (h : DataW.Trod enc Tryd.prog w base spare held 22 v d p) (hv : v.cells = #[v]) : ∃ A c l, v = .slice A l.length c ∧ OpsR w (fun k => k < w.heap.size) (.slice A l.length c) l := by
  obtain ⟨fuel, hf⟩ := h
  rw [hv] at hf
  exact opn_opsE hf
end
end Go.Proofs.YtijgkocolajghaaDoor
