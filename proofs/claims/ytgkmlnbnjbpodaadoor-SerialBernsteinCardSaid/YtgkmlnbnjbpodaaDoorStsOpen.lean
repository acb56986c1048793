/- What a slice of steps tells when it is read. Nothing of the program's code. -/
import Derived.Test.YtgkmlnbnjbpodaaDoorStT
import Derived.Test.YtgkmlnbnjbpodaaDoorProg
import Derived.Test.YtgkmlnbnjbpodaaDoorOpen
namespace Go.Proofs.YtgkmlnbnjbpodaaDoor
open Go.RowKit
set_option linter.unusedVariables false
set_option linter.unusedSimpArgs false
section
open Go.ChangeShapes Go.WideShapes Go.Deep
variable {H : Type} {enc : TypeId × Value → H} {w : World} {base : Nat} {spare : Nat → Bool} {held : Bool}
theorem opn_st {fuel : Nat} {y : List Value} {x : DataW H × List MemPlace} (hd : DataW.trod enc Tryd.prog w base spare held fuel 43 y = some x) : ∃ s : St, y = stV s := by
  obtain ⟨hlen, hf⟩ := opn_fields Tryd.underlying43 (by kernel_rfl) (by kernel_rfl) hd
  obtain ⟨v0, n0, d0, e0, h0⟩ := hf 0 _ rfl
  obtain ⟨v1, n1, d1, e1, h1⟩ := hf 1 _ rfl
  obtain ⟨v2, n2, d2, e2, h2⟩ := hf 2 _ rfl
  obtain ⟨a0, q0, _, _⟩ := DataW.trod_int Tryd.underlying3 h0
  obtain ⟨a1, q1, _, _⟩ := DataW.trod_int Tryd.underlying3 h1
  obtain ⟨a2, q2, _, _⟩ := DataW.trod_int Tryd.underlying3 h2
  injection q0 with q0 _; injection q1 with q1 _; injection q2 with q2 _
  subst q0 q1 q2
  refine ⟨⟨a0, a1, a2⟩, ?_⟩
  match y, hlen with
  | [y0, y1, y2], _ =>
    simp only [List.getElem?_cons_zero, List.getElem?_cons_succ, Option.some.injEq] at e0 e1 e2
    rw [e0, e1, e2]
    rfl
theorem opn_stsE {fuel : Nat} {v : Value} {x : DataW H × List MemPlace} (h : DataW.trod enc Tryd.prog w base spare held fuel 22 [v] = some x) : ∃ A c l, v = .slice A l.length c ∧ Sts w (fun k => k < w.heap.size) (.slice A l.length c) l := by
  obtain ⟨A, n, c, ys, rfl, _, _, hyl, hrd, hys⟩ := opn_slice (size := 3) Tryd.underlying22 (by kernel_rfl) (by omega) h
  obtain ⟨l, hl, hfl, _⟩ := decode (f := stV) (R := fun _ => True) ys (fun y hy => by
    obtain ⟨_, n', d, hd⟩ := hys y hy
    obtain ⟨s, hs⟩ := opn_st hd
    exact ⟨s, hs, trivial⟩)
  refine ⟨A, c, l, by rw [hl, hyl], ?_⟩
  unfold Sts
  rw [hl, hyl, ← hfl]
  exact hrd
theorem opn_sts {v : Value} {d : DataW H} {p : List MemPlace} (h : DataW.Trod enc Tryd.prog w base spare held 22 v d p) (hv : v.cells = #[v]) : ∃ A c l, v = .slice A l.length c ∧ Sts w (fun k => k < w.heap.size) (.slice A l.length c) l := by
  obtain ⟨fuel, hf⟩ := h
  rw [hv] at hf
  exact opn_stsE hf
end
end Go.Proofs.YtgkmlnbnjbpodaaDoor
