/- store: a setup and moves opened. -/
import Derived.Test.YtglioflpblpmpaaGreatDoorPkJ
import Derived.Test.YtglioflpblpmpaaGreatDoorOpenS
namespace Go.Proofs.YtglioflpblpmpaaGreatDoor
open Go Go.ChangeShapes Go.WideShapes Go.Deep
section
open Go.ChangeShapes Go.WideShapes Go.Deep
variable {H : Type} {enc : TypeId × Value → H} {w : World} {base : Nat} {spare : Nat → Bool} {held : Bool}
set_option maxRecDepth 8000 in
theorem opn_move {fuel : Nat} {y : List Value} {x : DataW H × List MemPlace} (hd : DataW.trod enc Tryz.prog w base spare held fuel 52 y = some x) : ∃ s : PMove, y = pmL s := by
  obtain ⟨l, hl, rfl, _⟩ := opn_i64s Tryz.underlying52 (by kernel_rfl) (by kernel_rfl) (by kernel_rfl) hd
  match l, hl with
  | [a0, a1, a2, a3], _ => exact ⟨⟨a0, a1, a2, a3⟩, rfl⟩
set_option maxRecDepth 8000 in
theorem opn_moves {v : Value} {d : DataW H} {p : List MemPlace} (h : DataW.Trod enc Tryz.prog w base spare held 24 v d p) (hv : v.cells = #[v]) : ∃ (A : Option Addr) (c : Nat) (l : List PMove), v = .slice A l.length c ∧ Rd w (fun k => k < w.heap.size) 4 (.slice A l.length c) l.length (l.flatMap pmL) := by
  obtain ⟨fuel, hf⟩ := h
  rw [hv] at hf
  obtain ⟨A, n, c, ys, rfl, _, _, hyl, hrd, hys⟩ := opn_slice (size := 4) Tryz.underlying24 (by kernel_rfl) (by omega) hf
  obtain ⟨l, hl, hfl, _⟩ := decode (f := pmL) (R := fun _ => True) ys (fun y hy => by
    obtain ⟨_, n', d, hd⟩ := hys y hy
    obtain ⟨s, hs⟩ := opn_move hd
    exact ⟨s, hs, trivial⟩)
  refine ⟨A, c, l, by rw [hl, hyl], ?_⟩
  rw [hl, hyl, ← hfl]
  exact hrd
set_option maxRecDepth 8000 in
theorem opn_setup {r : Reach} {b0 : Nat} {v : Value} {d : DataW H} {p : List MemPlace} (hv : Value.okWide Tryz.prog w r b0 23 v) (h : DataW.Trod enc Tryz.prog w base spare held 23 v d p) : ∃ (n k a t : Int) (b : Bool), v = .agg #[.int .i64 n, .int .i64 k, .int .i64 a, .int .i64 t, .bool b] := by
  obtain ⟨cs, rfl, hsz⟩ := okWide_struct Tryz.underlying23 hv
  obtain ⟨fuel, hf⟩ := h
  obtain ⟨hlen, hfl⟩ := opn_fields Tryz.underlying23 (by kernel_rfl) (by kernel_rfl) hf
  obtain ⟨v0, n0, d0, e0, h0⟩ := hfl 0 _ rfl
  obtain ⟨v1, n1, d1, e1, h1⟩ := hfl 1 _ rfl
  obtain ⟨v2, n2, d2, e2, h2⟩ := hfl 2 _ rfl
  obtain ⟨v3, n3, d3, e3, h3⟩ := hfl 3 _ rfl
  obtain ⟨v4, n4, d4, e4, h4⟩ := hfl 4 _ rfl
  obtain ⟨z0, hz0, _⟩ := DataW.trod_int Tryz.underlying3 h0
  obtain ⟨z1, hz1, _⟩ := DataW.trod_int Tryz.underlying3 h1
  obtain ⟨z2, hz2, _⟩ := DataW.trod_int Tryz.underlying3 h2
  obtain ⟨z3, hz3, _⟩ := DataW.trod_int Tryz.underlying3 h3
  obtain ⟨z4, hz4, _⟩ := DataW.trod_bool Tryz.underlying4 h4
  injection hz0 with hz0 _
  injection hz1 with hz1 _
  injection hz2 with hz2 _
  injection hz3 with hz3 _
  injection hz4 with hz4 _
  subst hz0 hz1 hz2 hz3 hz4
  refine ⟨z0, z1, z2, z3, z4, ?_⟩
  obtain ⟨l⟩ := cs
  match l, hlen, e0, e1, e2, e3, e4 with
  | [y0, y1, y2, y3, y4], _, e0, e1, e2, e3, e4 =>
    simp only [Value.cells, List.getElem?_cons_zero, List.getElem?_cons_succ, Option.some.injEq] at e0 e1 e2 e3 e4
    rw [e0, e1, e2, e3, e4]
end
end Go.Proofs.YtglioflpblpmpaaGreatDoor
