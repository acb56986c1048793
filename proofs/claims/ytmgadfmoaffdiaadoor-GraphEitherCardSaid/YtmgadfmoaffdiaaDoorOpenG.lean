/- Grids of bools that came in, opened. -/
import Derived.Test.YtmgadfmoaffdiaaDoorOpen
import Derived.Test.YtmgadfmoaffdiaaDoorProg
namespace Go.Proofs.YtmgadfmoaffdiaaDoor
open Go Go.ChangeShapes Go.WideShapes Go.Deep Go.RowKit
section
variable {H : Type} {enc : TypeId × Value → H} {w : World} {base : Nat} {spare : Nat → Bool} {held : Bool}
theorem opn_boolsE {fuel : Nat} {v : Value} {x : DataW H × List MemPlace} (h : DataW.trod enc Tryd.prog w base spare held fuel 23 [v] = some x) : ∃ l : List Bool, Bools w (fun k => k < w.heap.size) v l := by
  obtain ⟨A, n, c, ys, rfl, _, _, hyl, hrd, hys⟩ := opn_slice (size := 1) Tryd.underlying23 (by kernel_rfl) (by omega) h
  obtain ⟨l, hl, hfl, _⟩ := decode (f := fun z : Bool => [Value.bool z]) (R := fun _ => True) ys (fun y hy => by
    obtain ⟨_, n', d, hd⟩ := hys y hy
    obtain ⟨z, hz, _⟩ := DataW.trod_bool Tryd.underlying4 hd
    exact ⟨z, hz, trivial⟩)
  refine ⟨l, ?_⟩
  unfold Bools
  rw [hl, hyl]
  have : l.map Value.bool = ys.flatten := by rw [hfl]; clear hfl hl; induction l with | nil => rfl | cons a l ih => simp [ih]
  rw [this]
  exact hrd
theorem opn_gridE {fuel : Nat} {v : Value} {x : DataW H × List MemPlace} (h : DataW.trod enc Tryd.prog w base spare held fuel 22 [v] = some x) : ∃ A c g, v = .slice A g.length c ∧ Grid w (fun k => k < w.heap.size) (.slice A g.length c) g := by
  obtain ⟨A, n, c, ys, rfl, _, _, hyl, hrd, hys⟩ := opn_slice (size := 1) Tryd.underlying22 (by kernel_rfl) (by omega) h
  obtain ⟨g, hg, hP⟩ := list_of (P := fun i (l : List Bool) => ∃ r, ys[i]? = some [r] ∧ Bools w (fun k => k < w.heap.size) r l) n (fun i hi => by
    obtain ⟨y, hy⟩ : ∃ y, ys[i]? = some y := ⟨_, List.getElem?_eq_getElem (by omega)⟩
    obtain ⟨hl, n', d, hd⟩ := hys y (List.mem_of_getElem? hy)
    match y, hl with
    | [r], _ =>
      obtain ⟨l, hb⟩ := opn_boolsE hd
      exact ⟨l, r, hy, hb⟩)
  subst hg
  refine ⟨A, c, g, rfl, ys.flatten, hrd, fun i l hi => ?_⟩
  obtain ⟨r, hr, hb⟩ := hP i l hi
  refine ⟨r, ?_, hb⟩
  have key : ∀ (zs : List (List Value)), (∀ z ∈ zs, z.length = 1) → ∀ (i : Nat), zs[i]? = some [r] → zs.flatten[i]? = some r := by
    intro zs
    induction zs with
    | nil => intro _ i hi; simp at hi
    | cons z zs ih =>
      intro hz i hi
      have h1 := hz z (by simp)
      rw [List.flatten_cons]
      cases i with
      | zero => simp at hi; subst hi; rfl
      | succ i =>
        rw [List.getElem?_append_right (by omega), h1]
        exact ih (fun y hy => hz y (by simp [hy])) i (by simpa using hi)
  exact key ys (fun z hz => (hys z hz).1) i hr
theorem opn_grid {v : Value} {d : DataW H} {p : List MemPlace} (h : DataW.Trod enc Tryd.prog w base spare held 22 v d p) (hv : v.cells = #[v]) : ∃ A c g, v = .slice A g.length c ∧ Grid w (fun k => k < w.heap.size) (.slice A g.length c) g := by
  obtain ⟨fuel, hf⟩ := h
  rw [hv] at hf
  exact opn_gridE hf
end
end Go.Proofs.YtmgadfmoaffdiaaDoor
