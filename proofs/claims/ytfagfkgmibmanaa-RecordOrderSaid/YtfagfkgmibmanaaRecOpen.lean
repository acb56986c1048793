/- Events, bools, bytes that came in, opened. -/
import Derived.Test.YtfagfkgmibmanaaOpen
import Derived.Test.YtfagfkgmibmanaaRec10
namespace Go.Proofs.Ytfagfkgmibmanaa
open Go Go.ChangeShapes Go.WideShapes Go.Deep Go.RowKit

section
variable {H : Type} {enc : TypeId × Value → H} {w : World} {base : Nat} {spare : Nat → Bool} {held : Bool}
theorem opn_ev {fuel : Nat} {y : List Value} {x : DataW H × List MemPlace} (hd : DataW.trod enc Try.prog w base spare held fuel 30 y = some x) : ∃ e : Ev, y = evL e := by
  obtain ⟨hlen, hf⟩ := opn_fields Try.underlying30 (by kernel_rfl) (by kernel_rfl) hd
  obtain ⟨v0, n0, d0, e0, h0⟩ := hf 0 _ rfl
  obtain ⟨v1, n1, d1, e1, h1⟩ := hf 1 _ rfl
  obtain ⟨v2, n2, d2, e2, h2⟩ := hf 2 _ rfl
  obtain ⟨v3, n3, d3, e3, h3⟩ := hf 3 _ rfl
  obtain ⟨v4, n4, d4, e4, h4⟩ := hf 4 _ rfl
  obtain ⟨v5, n5, d5, e5, h5⟩ := hf 5 _ rfl
  obtain ⟨v6, n6, d6, e6, h6⟩ := hf 6 _ rfl
  obtain ⟨a0, q0, _, _⟩ := DataW.trod_int Try.underlying3 h0
  obtain ⟨a1, q1, _, _⟩ := DataW.trod_int Try.underlying3 h1
  obtain ⟨a2, q2, _, _⟩ := DataW.trod_int Try.underlying3 h2
  obtain ⟨a3, q3, _, _⟩ := DataW.trod_int Try.underlying3 h3
  obtain ⟨a4, q4, _, _⟩ := DataW.trod_int Try.underlying3 h4
  obtain ⟨a5, q5, _, _⟩ := DataW.trod_int Try.underlying3 h5
  obtain ⟨a6, q6, _, _⟩ := DataW.trod_int Try.underlying3 h6
  injection q0 with q0 _; injection q1 with q1 _; injection q2 with q2 _; injection q3 with q3 _
  injection q4 with q4 _; injection q5 with q5 _; injection q6 with q6 _
  subst q0 q1 q2 q3 q4 q5 q6
  refine ⟨⟨a0, a1, a2, a3, a4, a5, a6⟩, ?_⟩
  match y, hlen with
  | [y0, y1, y2, y3, y4, y5, y6], _ =>
    simp only [List.getElem?_cons_zero, List.getElem?_cons_succ, Option.some.injEq] at e0 e1 e2 e3 e4 e5 e6
    rw [e0, e1, e2, e3, e4, e5, e6]
    rfl
theorem opn_evs {fuel : Nat} {v : Value} {x : DataW H × List MemPlace} (h : DataW.trod enc Try.prog w base spare held fuel 22 [v] = some x) : ∃ A c l, v = .slice A l.length c ∧ Evs w (fun k => k < w.heap.size) (.slice A l.length c) l := by
  obtain ⟨A, n, c, ys, rfl, _, _, hyl, hrd, hys⟩ := opn_slice (size := 7) Try.underlying22 (by kernel_rfl) (by omega) h
  obtain ⟨l, hl, hfl, _⟩ := decode (f := evL) (R := fun _ => True) ys (fun y hy => by
    obtain ⟨hlen, n', d, hd⟩ := hys y hy
    obtain ⟨e, he⟩ := opn_ev hd
    exact ⟨e, he, trivial⟩)
  refine ⟨A, c, l, by rw [hl, hyl], ?_⟩
  unfold Evs evsV
  rw [hl, hyl, ← hfl]
  exact hrd
theorem opn_events {r : Reach} {b0 : Nat} {v : Value} {d : DataW H} {p : List MemPlace} (hv : Value.okWide Try.prog w r b0 22 v) (h : DataW.Trod enc Try.prog w base spare held 22 v d p) : ∃ A c l, v = .slice A l.length c ∧ Evs w (fun k => k < w.heap.size) (.slice A l.length c) l := by
  obtain ⟨A, n, c, rfl⟩ := okWide_slice Try.underlying22 hv
  obtain ⟨fuel, hf⟩ := h
  exact opn_evs hf
theorem opn_event {r : Reach} {b0 : Nat} {v : Value} {d : DataW H} {p : List MemPlace} (hv : Value.okWide Try.prog w r b0 30 v) (h : DataW.Trod enc Try.prog w base spare held 30 v d p) : ∃ e : Ev, v = .agg (evL e).toArray := by
  obtain ⟨cs, rfl, hsz⟩ := okWide_struct Try.underlying30 hv
  obtain ⟨fuel, hf⟩ := h
  obtain ⟨e, he⟩ := opn_ev hf
  refine ⟨e, ?_⟩
  rw [← he]
  simp [Value.cells]
end
theorem opn_bytes {w : World} {a : Option Addr} {len cap : Nat} {z : List Int} (h : RowOf .u8 w a len cap z) : ∃ l : List Nat, l.length = len ∧ (∀ x ∈ l, x < 256) ∧ Bts w (fun k => k < w.heap.size) (.slice a len cap) l := by
  rcases h with ⟨rfl, rfl, rfl, rfl⟩ | ⟨x, rfl, h1, h2, h3, h4, h5⟩
  · exact ⟨[], rfl, by simp, Rd.nil _ _ _⟩
  · have hwf : ∀ n ∈ z, 0 ≤ n ∧ n ≤ 255 := fun n hn => by
      have := h5 n hn
      simp [Lit.wf, IntKind.min, IntKind.max, IntKind.signed, IntKind.bits] at this
      omega
    have hl : ((z.take len).map Int.toNat).length = len := by simp; omega
    refine ⟨(z.take len).map Int.toNat, hl, fun y hy => ?_, ?_⟩
    · obtain ⟨n, hn, rfl⟩ := List.mem_map.1 hy
      have := hwf n (List.mem_of_mem_take hn)
      omega
    · unfold Bts
      rw [hl]
      refine ⟨_, _, rfl, h1, by simpa [maxLen] using h2, by rw [bytesV_len, hl, Nat.mul_one], fun h0 => ?_⟩
      obtain ⟨b, o, sp⟩ := x
      have hc0 := h4 0 (by omega)
      have hs : sp = none := by simpa [Addr.add] using spot_none hc0
      subst hs
      refine ⟨b, o, rfl, ?_, fun k u hk => ?_⟩
      · have := World.block_lt_of_cell? w _ hc0
        simpa [Addr.add] using this
      · have hk' : k < len := by
          have := (List.getElem?_eq_some_iff.1 hk).1
          rwa [bytesV_len, hl] at this
        have hc := h4 k (by omega)
        rw [Addr.add_lit] at hc
        rw [hc]
        have hz : z[k]? = some (z[k]'(by omega)) := List.getElem?_eq_getElem (by omega)
        have hm := hwf (z[k]'(by omega)) (List.getElem_mem _)
        simp [bytesV, hk', hz] at hk
        rw [← hk]
        simp [List.getD, hz]
        omega
end Go.Proofs.Ytfagfkgmibmanaa
