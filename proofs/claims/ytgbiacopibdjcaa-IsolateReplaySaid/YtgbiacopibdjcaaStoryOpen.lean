/- A story that came in, opened. -/
import Derived.Test.YtgbiacopibdjcaaOpen
import Derived.Test.YtgbiacopibdjcaaStory
namespace Go.Proofs.Ytgbiacopibdjcaa
open Go Go.ChangeShapes Go.WideShapes Go.Deep

section
variable {H : Type} {enc : TypeId × Value → H} {w : World} {base : Nat} {spare : Nat → Bool} {held : Bool}
theorem opn_ops {fuel : Nat} {v : Value} {x : DataW H × List MemPlace} (h : DataW.trod enc Try.prog w base spare held fuel 39 [v] = some x) : ∃ l, Ops w (fun k => k < w.heap.size) v l := by
  obtain ⟨A, n, c, ys, rfl, _, _, hyl, hrd, hys⟩ := opn_slice (size := 4) Try.underlying39 (by kernel_rfl) (by omega) h
  obtain ⟨l, hl, hfl, _⟩ := decode (f := opV) (R := fun _ => True) ys (fun y hy => by
    obtain ⟨hlen, n', d, hd⟩ := hys y hy
    obtain ⟨_, hf⟩ := opn_fields Try.underlying43 (by kernel_rfl) (by kernel_rfl) hd
    obtain ⟨v0, n0, d0, e0, h0⟩ := hf 0 _ rfl
    obtain ⟨v1, n1, d1, e1, h1⟩ := hf 1 _ rfl
    obtain ⟨v2, n2, d2, e2, h2⟩ := hf 2 _ rfl
    obtain ⟨v3, n3, d3, e3, h3⟩ := hf 3 _ rfl
    obtain ⟨a0, q0, _⟩ := DataW.trod_bool Try.underlying4 h0
    obtain ⟨a1, q1, _, _⟩ := DataW.trod_int Try.underlying3 h1
    obtain ⟨a2, q2, _, _⟩ := DataW.trod_int Try.underlying3 h2
    obtain ⟨a3, q3, _, _⟩ := DataW.trod_int Try.underlying3 h3
    injection q0 with q0 _; injection q1 with q1 _; injection q2 with q2 _; injection q3 with q3 _
    subst q0 q1 q2 q3
    refine ⟨⟨a0, a1, a2, a3⟩, ?_, trivial⟩
    match y, hlen with
    | [y0, y1, y2, y3], _ =>
      simp only [List.getElem?_cons_zero, List.getElem?_cons_succ, Option.some.injEq] at e0 e1 e2 e3
      rw [e0, e1, e2, e3]
      rfl)
  refine ⟨l, ?_⟩
  unfold Ops
  rw [hl, hyl, ← hfl]
  exact hrd
theorem opn_txs {fuel : Nat} {v : Value} {x : DataW H × List MemPlace} (h : DataW.trod enc Try.prog w base spare held fuel 22 [v] = some x) : ∃ l, Txs w (fun k => k < w.heap.size) v l := by
  obtain ⟨A, n, c, ys, rfl, _, _, hyl, hrd, hys⟩ := opn_slice (size := 2) Try.underlying22 (by kernel_rfl) (by omega) h
  obtain ⟨l, hl, hfl, hR⟩ := decode (f := txV) (R := fun p => Ops w (fun k => k < w.heap.size) p.1 p.2.ops) ys (fun y hy => by
    obtain ⟨hlen, n', d, hd⟩ := hys y hy
    obtain ⟨_, hf⟩ := opn_fields Try.underlying41 (by kernel_rfl) (by kernel_rfl) hd
    obtain ⟨v0, n0, d0, e0, h0⟩ := hf 0 _ rfl
    obtain ⟨v1, n1, d1, e1, h1⟩ := hf 1 _ rfl
    obtain ⟨l, hl⟩ := opn_ops h0
    obtain ⟨a1, q1, _⟩ := DataW.trod_bool Try.underlying4 h1
    injection q1 with q1 _
    subst q1
    refine ⟨(v0, ⟨l, a1⟩), ?_, hl⟩
    match y, hlen with
    | [y0, y1], _ =>
      simp only [List.getElem?_cons_zero, List.getElem?_cons_succ, Option.some.injEq] at e0 e1
      rw [e0, e1]
      rfl)
  refine ⟨l.map (·.2), l, rfl, ?_, hR⟩
  rw [List.length_map, hl, hyl, ← hfl]
  exact hrd
theorem opn_grid {fuel : Nat} {v : Value} {x : DataW H × List MemPlace} (h : DataW.trod enc Try.prog w base spare held fuel 23 [v] = some x) : ∃ g, IGrid w (fun k => k < w.heap.size) v g := by
  obtain ⟨A, n, c, ys, rfl, _, _, hyl, hrd, hys⟩ := opn_slice (size := 1) Try.underlying23 (by kernel_rfl) (by omega) h
  obtain ⟨l, hl, hfl, hR⟩ := decode (f := fun p : Value × List Int => [p.1]) (R := fun p => Ints w (fun k => k < w.heap.size) p.1 p.2) ys (fun y hy => by
    obtain ⟨hlen, n', d, hd⟩ := hys y hy
    match y, hlen with
    | [y0], _ =>
      obtain ⟨l, hl, _⟩ := opn_ints Try.underlying32 Try.underlying3 (by kernel_rfl) hd
      exact ⟨(y0, l), rfl, hl⟩)
  have hm : l.map (·.1) = ys.flatten := by rw [hfl]; clear hfl hl hR; induction l with | nil => rfl | cons a l ih => simp [ih]
  refine ⟨l.map (·.2), l.map (·.1), ?_, fun i r hr => ?_⟩
  · rw [List.length_map, hl, hyl, hm]
    exact hrd
  · rw [List.getElem?_map] at hr
    obtain ⟨p, hp, rfl⟩ := Option.map_eq_some_iff.1 hr
    exact ⟨p.1, by rw [List.getElem?_map, hp]; rfl, hR p (List.mem_of_getElem? hp)⟩
theorem Txs.form' {D : Nat → Prop} {v : Value} {l : List ITx} (h : Txs w D v l) : ∃ A c, v = .slice A l.length c ∧ l.length ≤ c ∧ c ≤ 9223372036854775807 := by
  obtain ⟨vs, h1, h2, _⟩ := h
  exact h2.form
theorem IGrid.form' {D : Nat → Prop} {v : Value} {g : List (List Int)} (h : IGrid w D v g) : ∃ A c, v = .slice A g.length c ∧ g.length ≤ c ∧ c ≤ 9223372036854775807 := by
  obtain ⟨rows, h2, _⟩ := h
  exact h2.form
/-- A story. -/
theorem opn_story {r : Reach} {b0 : Nat} {v : Value} {d : DataW H} {p : List MemPlace} (hv : Value.okWide Try.prog w r b0 25 v) (h : DataW.Trod enc Try.prog w base spare held 25 v d p) :
    ∃ A c A2 c2 t g, v = .agg #[.slice A t.length c, .slice A2 g.length c2] ∧ Txs w (fun k => k < w.heap.size) (.slice A t.length c) t ∧ IGrid w (fun k => k < w.heap.size) (.slice A2 g.length c2) g ∧ t.length ≤ 9223372036854775807 := by
  obtain ⟨cs, rfl, hsz⟩ := okWide_struct Try.underlying25 hv
  obtain ⟨fuel, hf⟩ := h
  obtain ⟨hlen, hfl⟩ := opn_fields Try.underlying25 (by kernel_rfl) (by kernel_rfl) hf
  obtain ⟨v0, n0, d0, e0, h0⟩ := hfl 0 _ rfl
  obtain ⟨v1, n1, d1, e1, h1⟩ := hfl 1 _ rfl
  obtain ⟨t, ht⟩ := opn_txs h0
  obtain ⟨g, hg⟩ := opn_grid h1
  obtain ⟨A, c, rfl, hc1, hc2⟩ := ht.form'
  obtain ⟨A2, c2, rfl, _, _⟩ := hg.form'
  refine ⟨A, c, A2, c2, t, g, ?_, ht, hg, by omega⟩
  obtain ⟨l⟩ := cs
  match l, hlen, e0, e1 with
  | [y0, y1], _, e0, e1 =>
    simp only [Value.cells, List.getElem?_cons_zero, List.getElem?_cons_succ, Option.some.injEq] at e0 e1
    rw [e0, e1]
end
end Go.Proofs.Ytgbiacopibdjcaa
