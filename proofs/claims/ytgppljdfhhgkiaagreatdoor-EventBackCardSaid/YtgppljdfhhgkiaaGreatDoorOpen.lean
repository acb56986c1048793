/- What arguments that lie in memory read as: slices, opened to lists. Nothing of the program. -/
import Derived.Test.YtgppljdfhhgkiaaGreatDoorBase
import Derived.Deep.Slices
import Derived.Deep.Fields
import Derived.ChangeSame
namespace Go.Proofs.YtgppljdfhhgkiaaGreatDoor
open Go Go.ChangeShapes Go.WideShapes Go.Deep

theorem list_of {α : Type} {P : Nat → α → Prop} : ∀ (n : Nat), (∀ i, i < n → ∃ x, P i x) → ∃ l : List α, l.length = n ∧ ∀ (i : Nat) x, l[i]? = some x → P i x
  | 0, _ => ⟨[], rfl, fun i x h => by simp at h⟩
  | n + 1, h => by
    obtain ⟨l, hl, hp⟩ := list_of n (fun i hi => h i (by omega))
    obtain ⟨x, hx⟩ := h n (by omega)
    refine ⟨l ++ [x], by simp [hl], fun i y hy => ?_⟩
    rcases Nat.lt_trichotomy i n with hlt | heq | hgt
    · rw [List.getElem?_append_left (by omega)] at hy; exact hp i y hy
    · subst heq
      rw [List.getElem?_append_right (by omega), hl, Nat.sub_self] at hy
      simp at hy
      rw [← hy]; exact hx
    · have := (List.getElem?_eq_some_iff.1 hy).1
      simp at this
      omega
theorem flatten_get {size : Nat} : ∀ (ys : List (List Value)), (∀ y ∈ ys, y.length = size) → ∀ (k : Nat) (u : Value), ys.flatten[k]? = some u → 0 < size → ∃ i j y, k = i * size + j ∧ j < size ∧ ys[i]? = some y ∧ y[j]? = some u
  | [], _, k, u, h, _ => by simp at h
  | y :: ys, hs, k, u, h, h0 => by
    have hy := hs y (by simp)
    rw [List.flatten_cons] at h
    rcases Nat.lt_or_ge k size with hlt | hge
    · rw [List.getElem?_append_left (by omega)] at h
      exact ⟨0, k, y, by omega, hlt, rfl, h⟩
    · rw [List.getElem?_append_right (by omega), hy] at h
      obtain ⟨i, j, z, h1, h2, h3, h4⟩ := flatten_get ys (fun z hz => hs z (by simp [hz])) (k - size) u h h0
      exact ⟨i + 1, j, z, by rw [Nat.add_mul]; omega, h2, h3, h4⟩

section
variable {H : Type} {enc : TypeId × Value → H} {P : Program} {w : World} {base : Nat} {spare : Nat → Bool} {held : Bool}
theorem opn_slice {t e : TypeId} {size fuel : Nat} {v : Value} {x : DataW H × List MemPlace} (ht : P.underlying t = some (.slice e)) (hC : P.cellsOf e = size) (h0 : 0 < size) (h : DataW.trod enc P w base spare held fuel t [v] = some x) :
    ∃ (A : Option Addr) (n c : Nat) (ys : List (List Value)), v = .slice A n c ∧ n ≤ c ∧ c ≤ 9223372036854775807 ∧ ys.length = n ∧ Rd w (fun k => k < w.heap.size) size (.slice A n c) n ys.flatten ∧
      ∀ y ∈ ys, y.length = size ∧ ∃ n' d, DataW.trod enc P w base spare held n' e y = some d := by
  rcases open_slice ht h with ⟨hcs, _⟩ | ⟨a, len, cap, m, n, D, Pl, hcs, hb, hl, hm, hmm, hx, hi⟩
  · injection hcs with hcs _
    subst hcs
    exact ⟨none, 0, 0, [], rfl, Nat.le_refl _, by omega, rfl, Rd.nil w _ size, by simp⟩
  · injection hcs with hcs _
    subst hcs
    have hlm : len ≤ m := by rw [hmm]; split <;> omega
    obtain ⟨ys, hyl, hy⟩ := list_of (P := fun i y => (∀ j, j < size → w.cell? ((a.add (i * size)).add j) = y[j]?) ∧ y.length = size ∧ ∃ n' d, DataW.trod enc P w base spare held n' e y = some d) len (fun i hlt => by
      obtain ⟨cs', h1, h2⟩ := hi i (by omega)
      rw [hC] at h1
      obtain ⟨_, h3, h4⟩ := World.cells?_some h1
      exact ⟨cs', h4, h3, n, _, h2⟩)
    have hall : ∀ y ∈ ys, y.length = size ∧ ∃ n' d, DataW.trod enc P w base spare held n' e y = some d := fun y hmem => by
      obtain ⟨i, hi⟩ := List.getElem?_of_mem hmem
      exact (hy i y hi).2
    refine ⟨some a, len, cap, ys, rfl, hl, by simpa [maxLen] using hm, hyl, ⟨_, _, rfl, hl, by simpa [maxLen] using hm, ?_, fun hn => ?_⟩, hall⟩
    · have : ∀ (l : List (List Value)), (∀ y ∈ l, y.length = size) → l.flatten.length = l.length * size := by
        intro l
        induction l with
        | nil => simp
        | cons y l ih =>
          intro hs
          rw [List.flatten_cons, List.length_append, hs y (by simp), ih (fun z hz => hs z (by simp [hz])), List.length_cons, Nat.add_mul]
          omega
      rw [this ys (fun y hm => (hall y hm).1), hyl]
    · obtain ⟨y0, hy0⟩ : ∃ y, ys[0]? = some y := ⟨_, List.getElem?_eq_getElem (by omega)⟩
      obtain ⟨hc0, hl0, _⟩ := hy 0 y0 hy0
      have h1 := hc0 0 h0
      rw [List.getElem?_eq_getElem (by omega)] at h1
      obtain ⟨b, o, sp⟩ := a
      have hs : sp = none := by
        have := spot_none h1
        simpa [Addr.add] using this
      subst hs
      refine ⟨b, o, rfl, ?_, fun k u hk => ?_⟩
      · have := World.block_lt_of_cell? w _ h1
        simpa [Addr.add] using this
      · obtain ⟨i, j, y, rfl, hj, hyi, hyj⟩ := flatten_get ys (fun y hm => (hall y hm).1) k u hk h0
        have h2 := (hy i y hyi).1 j hj
        rw [hyj, Addr.add_lit, Addr.add_lit] at h2
        rw [← h2]
        congr 2
        omega
theorem opn_fields {e : TypeId} {fs : Array Field} {fuel : Nat} {y : List Value} {x : DataW H × List MemPlace} (he : P.underlying e = some (.struct fs)) (hone : oneCellFields P fs = true) (hC : P.cellsOf e = fs.size) (h : DataW.trod enc P w base spare held fuel e y = some x) :
    y.length = fs.size ∧ ∀ (j : Nat) (f : Field), fs[j]? = some f → ∃ (v : Value) (n' : Nat) (d : DataW H × List MemPlace), y[j]? = some v ∧ DataW.trod enc P w base spare held n' f.type [v] = some d := by
  obtain ⟨ys, n', hn', hy, hlen, hyl, hf⟩ := DataW.trod_struct he h
  rw [hC] at hlen
  refine ⟨hlen, fun j f hj => ?_⟩
  obtain ⟨ho, hk⟩ := hone_of hone j f hj
  have hjl : j < fs.size := (Array.getElem?_eq_some_iff.1 hj).1
  have hv : y[j]? = some (y[j]'(by omega)) := List.getElem?_eq_getElem (by omega)
  have h1 := hf j f hj
  rw [ho, hk] at h1
  have hone' : (y.drop j).take 1 = [y[j]'(by omega)] := by
    rw [List.drop_eq_getElem_cons (by omega)]
    rfl
  rw [hone'] at h1
  have hys : ys[j]? = some (ys[j]'(by omega)) := List.getElem?_eq_getElem (by omega)
  exact ⟨_, n', _, hv, h1.trans hys⟩
/-- Each element decoded. -/
theorem decode {α : Type} {f : α → List Value} {R : α → Prop} : ∀ (ys : List (List Value)), (∀ y ∈ ys, ∃ a, y = f a ∧ R a) → ∃ l : List α, l.length = ys.length ∧ ys.flatten = l.flatMap f ∧ ∀ a ∈ l, R a
  | [], _ => ⟨[], rfl, rfl, by simp⟩
  | y :: ys, h => by
    obtain ⟨a, rfl, ha⟩ := h y (by simp)
    obtain ⟨l, h1, h2, h3⟩ := decode ys (fun z hz => h z (by simp [hz]))
    refine ⟨a :: l, by simp [h1], by simp [h2], fun b hb => ?_⟩
    rcases List.mem_cons.1 hb with rfl | hb
    · exact ha
    · exact h3 b hb
theorem opn_ints {t e : TypeId} {fuel : Nat} {v : Value} {x : DataW H × List MemPlace} (ht : P.underlying t = some (.slice e)) (he : P.underlying e = some (.int .i64)) (hC : P.cellsOf e = 1) (h : DataW.trod enc P w base spare held fuel t [v] = some x) :
    ∃ (l : List Int), Ints w (fun k => k < w.heap.size) v l ∧ ∀ z ∈ l, -9223372036854775808 ≤ z ∧ z ≤ 9223372036854775807 := by
  obtain ⟨A, n, c, ys, rfl, _, _, hyl, hrd, hys⟩ := opn_slice ht hC (by omega) h
  obtain ⟨l, hl, hfl, hR⟩ := decode (f := fun z : Int => [Value.int .i64 z]) (R := fun z => -9223372036854775808 ≤ z ∧ z ≤ 9223372036854775807) ys (fun y hy => by
    obtain ⟨_, n', d, hd⟩ := hys y hy
    obtain ⟨z, rfl, _, hwf⟩ := DataW.trod_int he hd
    exact ⟨z, rfl, wf_i64_bounds hwf⟩)
  refine ⟨l, ?_, hR⟩
  unfold Ints
  rw [hl, hyl]
  have : l.map (Value.int .i64) = ys.flatten := by rw [hfl]; clear hfl hl hR; induction l with | nil => rfl | cons a l ih => simp [ih]
  rw [this]
  exact hrd
end
end Go.Proofs.YtgppljdfhhgkiaaGreatDoor
