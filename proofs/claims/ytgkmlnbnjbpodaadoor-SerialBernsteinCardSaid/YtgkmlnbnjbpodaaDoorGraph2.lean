/- Grids that are made empty. -/
import Derived.Test.YtgkmlnbnjbpodaaDoorGraph
namespace Go.Proofs.YtgkmlnbnjbpodaaDoor
open Go.RowKit
set_option linter.unusedVariables false
set_option linter.unusedSimpArgs false

/-- make([]T, 0, n) -/
theorem run_make_rep0 {P : Program} (t e : TypeId) (i : TypeInfo) (z : Value) (ht : P.underlying t = some (.slice e)) (hi : P.info? e = some i) (hz : i.zero = some z) (hz1 : z.cells = #[z]) (hs : i.size = 1)
    (n : Nat) (hbytes : i.bytes * n ≤ 281474976710656) (h63 : n ≤ 9223372036854775807) (w : World) :
    (Instr.makeSlice t (.int .i64 0) (.int .i64 (n : Int))).run P w = .ok (.slice (some ⟨w.heap.size, 0, none⟩) 0 n) (w.alloc (.cells (rep z n) e)) := by
  have hb : (i.bytes : Int) * (n : Int) ≤ 281474976710656 := by
    have h : ((i.bytes * n : Nat) : Int) ≤ 281474976710656 := by omega
    rwa [Int.natCast_mul] at h
  have hr := run_make (P := P) w t e i z ht hi hz .i64 .i64 0 n (by omega) (by omega) hb (by omega)
  have hm : madeCells z.cells ((n : Int).toNat * i.size) = rep z n := by
    rw [hz1, hs, Int.toNat_natCast, Nat.mul_one]
    apply Array.ext
    · simp [madeCells, rep]
    · intro j h1 h2
      simp [madeCells, rep, Nat.mod_one]
  rw [hm] at hr
  simpa using hr

/-- At the head of the loop that copies rows. -/
def RelC (w : World) (n : Nat) (f : Nat → Nat → Bool) (k : Nat) (wr : World) : Prop :=
  ∃ rbs : List Nat, MGp wr 37 4 w.heap.size rbs n f ∧ rbs.length = k ∧ (∀ i r : Nat, rbs[i]? = some r → w.heap.size < r) ∧ Pure w wr
/-- At the heads of the loops that close. -/
def RelM (w : World) (n : Nat) (f : Nat → Nat → Bool) (wr : World) : Prop :=
  ∃ rbs : List Nat, MG wr 37 4 w.heap.size rbs n f ∧ (∀ i r : Nat, rbs[i]? = some r → w.heap.size < r) ∧ Pure w wr
theorem relC_next {w wr w1 : World} {n k : Nat} {f : Nat → Nat → Bool} (h : RelC w n f k wr) (hk : k < n) (p1 : Pure wr w1)
    (hb : Blk w1 wr.heap.size 4 ((List.range n).map fun j => Value.bool (f k j)).toArray) :
    RelC w n f (k + 1) (w1.setCell ⟨w.heap.size, k, none⟩ (.slice (some ⟨wr.heap.size, 0, none⟩) n n)) := by
  obtain ⟨rbs, h1, h2, h3, h4⟩ := h
  subst h2
  have hlt := h1.out.lt
  refine ⟨rbs ++ [wr.heap.size], (h1.pure p1).next (by decide) hk hb (fun i x hx e => by have := (h1.row i x hx).lt; omega), by simp, fun i r hr => ?_, ?_⟩
  · rcases Nat.lt_or_ge i rbs.length with hl | hl
    · rw [List.getElem?_append_left hl] at hr; exact h3 i r hr
    · rw [List.getElem?_append_right hl] at hr
      have hm := List.mem_of_getElem? hr
      simp at hm
      omega
  · have := ((h4.chg (fun i => w.heap.size ≤ i)).pure p1).setCell (p := ⟨w.heap.size, rbs.length, none⟩) (.inl (Nat.le_refl _)) (.slice (some ⟨wr.heap.size, 0, none⟩) n n)
    exact this.below (Nat.le_refl _)
theorem relM_of_relC {w wr : World} {n : Nat} {f : Nat → Nat → Bool} (h : RelC w n f n wr) : RelM w n f wr := by
  obtain ⟨rbs, h1, h2, h3, h4⟩ := h
  exact ⟨rbs, h1.full h2, h3, h4⟩
theorem relM_set {w wr : World} {n i j r : Nat} {f : Nat → Nat → Bool} {rbs : List Nat} (h1 : MG wr 37 4 w.heap.size rbs n f) (h3 : ∀ i r : Nat, rbs[i]? = some r → w.heap.size < r) (h4 : Pure w wr) (hr : rbs[i]? = some r) (hj : j < n) (b : Bool) {W : World} (hW : Pure wr W) :
    RelM w n (fun x y => if x = i ∧ y = j then b else f x y) (W.setCell ⟨r, j, none⟩ (.bool b)) := by
  refine ⟨rbs, (h1.pure hW).set_ (by decide) hr hj b, h3, ?_⟩
  have := ((h4.chg (fun k => w.heap.size ≤ k)).pure hW).setCell (p := ⟨r, j, none⟩) (.inl (Nat.le_of_lt (h3 i r hr))) (.bool b)
  exact this.below (Nat.le_refl _)
theorem RelM.congr {w wr : World} {n : Nat} {f g : Nat → Nat → Bool} (h : RelM w n f wr) (hf : ∀ i j, f i j = g i j) : RelM w n g wr := by
  obtain ⟨rbs, h1, h2⟩ := h
  exact ⟨rbs, h1.congr fun i j _ _ => hf i j, h2⟩
theorem RelM.pure {w wr W : World} {n : Nat} {f : Nat → Nat → Bool} (h : RelM w n f wr) (hW : Pure wr W) : RelM w n f W := by
  obtain ⟨rbs, h1, h2, h3⟩ := h
  exact ⟨rbs, h1.pure hW, h2, h3.trans hW⟩
theorem RelM.toSq {w wr : World} {n : Nat} {f : Nat → Nat → Bool} (h : RelM w n f wr) (hm : n ≤ 9223372036854775807) : SqG wr (fun k => w.heap.size ≤ k) (.slice (some ⟨w.heap.size, 0, none⟩) n n) n f := by
  obtain ⟨rbs, h1, h2, h3⟩ := h
  exact h1.toSq hm (Nat.le_refl _) (fun i r hr => Nat.le_of_lt (h2 i r hr))

end Go.Proofs.YtgkmlnbnjbpodaaDoor
