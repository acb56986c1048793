/- A plan that came in, opened; and how long it is where its bulk is bounded. -/
import Derived.Test.YtidnlnlmmnkgoaaRows
import Derived.Test.YtidnlnlmmnkgoaaOpen
import Derived.Test.YtidnlnlmmnkgoaaLckD
namespace Go.Proofs.Ytidnlnlmmnkgoaa
open Go Go.ChangeShapes Go.WideShapes Go.Deep
set_option linter.unusedVariables false
theorem bulk_one {H : Type} (d : DataW H) : 1 ≤ Rows.uptoBulk d := by
  cases d with
  | lit l => cases l <;> simp [Rows.uptoBulk]
  | nil => simp [Rows.uptoBulk]
  | ptr d => simp [Rows.uptoBulk]
  | slice elems spare => simp [Rows.uptoBulk]
  | agg parts => simp [Rows.uptoBulk]
  | iface t d => simp [Rows.uptoBulk]
  | map entries => simp [Rows.uptoBulk]
  | held h => simp [Rows.uptoBulk]
theorem bulk_sum {H : Type} : ∀ l : List (DataW H), Rows.uptoBulkAll l = (l.map Rows.uptoBulk).sum
  | [] => by simp [Rows.uptoBulkAll]
  | d :: l => by simp only [Rows.uptoBulkAll, List.map_cons, List.sum_cons, bulk_sum l]
theorem sum_len {f : Nat → Nat} : ∀ n, (∀ i, i < n → 1 ≤ f i) → n ≤ ((List.range n).map f).sum
  | 0, _ => Nat.zero_le _
  | n + 1, h => by
    have := sum_len (f := f) n (fun i hi => h i (by omega))
    have := h n (by omega)
    rw [List.range_succ, List.map_append, List.sum_append]
    simp
    omega
section
variable {H : Type} {enc : TypeId × Value → H} {w : World} {base : Nat} {spare : Nat → Bool} {held : Bool}
theorem opn_sliceB {t e : TypeId} {size fuel : Nat} {v : Value} {x : DataW H × List MemPlace} (ht : Try.prog.underlying t = some (.slice e)) (hC : Try.prog.cellsOf e = size) (h0 : 0 < size) (h : DataW.trod enc Try.prog w base spare held fuel t [v] = some x) :
    ∃ (A : Option Addr) (n c : Nat) (ys : List (List Value)) (B : Nat → Nat), v = .slice A n c ∧ n ≤ c ∧ c ≤ 9223372036854775807 ∧ ys.length = n ∧ Rd w (fun k => k < w.heap.size) size (.slice A n c) n ys.flatten ∧
      ((List.range n).map B).sum ≤ Rows.uptoBulk x.1 ∧ (∀ i, i < n → 1 ≤ B i) ∧
      ∀ (i : Nat) y, ys[i]? = some y → y.length = size ∧ ∃ n' d, DataW.trod enc Try.prog w base spare held n' e y = some d ∧ Rows.uptoBulk d.1 = B i := by
  rcases open_slice ht h with ⟨hcs, hx⟩ | ⟨a, len, cap, m, n, D, Pl, hcs, hb, hl, hm, hmm, hx, hi⟩
  · injection hcs with hcs _
    subst hcs
    exact ⟨none, 0, 0, [], fun _ => 1, rfl, Nat.le_refl _, by omega, rfl, Rd.nil w _ size, by simp, fun _ _ => Nat.le_refl _, by simp⟩
  · injection hcs with hcs _
    subst hcs
    subst hx
    have hlm : len ≤ m := by rw [hmm]; split <;> omega
    obtain ⟨ys, hyl, hy⟩ := list_of (P := fun i y => (∀ j, j < size → w.cell? ((a.add (i * size)).add j) = y[j]?) ∧ y.length = size ∧ ∃ n' d, DataW.trod enc Try.prog w base spare held n' e y = some d ∧ Rows.uptoBulk d.1 = Rows.uptoBulk (D i)) len (fun i hlt => by
      obtain ⟨cs', h1, h2⟩ := hi i (by omega)
      rw [hC] at h1
      obtain ⟨_, h3, h4⟩ := World.cells?_some h1
      exact ⟨cs', h4, h3, n, _, h2, rfl⟩)
    have hall : ∀ y ∈ ys, y.length = size := fun y hmem => by
      obtain ⟨i, hi⟩ := List.getElem?_of_mem hmem
      exact (hy i y hi).2.1
    refine ⟨some a, len, cap, ys, fun i => Rows.uptoBulk (D i), rfl, hl, by simpa [maxLen] using hm, hyl, ⟨_, _, rfl, hl, by simpa [maxLen] using hm, ?_, fun hn => ?_⟩, ?_, fun i _ => bulk_one _, fun i y hi => (hy i y hi).2⟩
    · have : ∀ (l : List (List Value)), (∀ y ∈ l, y.length = size) → l.flatten.length = l.length * size := by
        intro l
        induction l with
        | nil => simp
        | cons y l ih =>
          intro hs
          rw [List.flatten_cons, List.length_append, hs y (by simp), ih (fun z hz => hs z (by simp [hz])), List.length_cons, Nat.add_mul]
          omega
      rw [this ys hall, hyl]
    · obtain ⟨y0, hy0⟩ : ∃ y, ys[0]? = some y := ⟨_, List.getElem?_eq_getElem (by omega)⟩
      obtain ⟨hc0, hl0, _⟩ := hy 0 y0 hy0
      have h1 := hc0 0 h0
      rw [List.getElem?_eq_getElem (by omega)] at h1
      obtain ⟨b, o, sp⟩ := a
      have hs : sp = none := by
        have := spot_none h1
        simpa [Addr.add] using this
      subst hs
      refine ⟨b, o, rfl, ?_, fun k u hk => ?_⟩
      · have := World.block_lt_of_cell? w _ h1
        simpa [Addr.add] using this
      · obtain ⟨i, j, y, rfl, hj, hyi, hyj⟩ := flatten_get ys hall k u hk h0
        have h2 := (hy i y hyi).1 j hj
        rw [hyj, Addr.add_lit, Addr.add_lit] at h2
        rw [← h2]
        congr 2
        omega
    · simp only [Rows.uptoBulk, bulk_sum]
      rw [List.map_map]
      show ((List.range len).map (Rows.uptoBulk ∘ D)).sum ≤ _
      omega
theorem opn_sts {fuel : Nat} {v : Value} {x : DataW H × List MemPlace} (h : DataW.trod enc Try.prog w base spare held fuel 25 [v] = some x) : ∃ l, Sts w (fun k => k < w.heap.size) v l ∧ l.length ≤ Rows.uptoBulk x.1 := by
  obtain ⟨A, n, c, ys, B, rfl, _, _, hyl, hrd, hB, hB1, hys⟩ := opn_sliceB (size := 3) Try.underlying25 (by kernel_rfl) (by omega) h
  obtain ⟨l, hl, hfl, _⟩ := decode (f := stV) (R := fun _ => True) ys (fun y hy => by
    obtain ⟨i, hi⟩ := List.getElem?_of_mem hy
    obtain ⟨hlen, n', d, hd, _⟩ := hys i y hi
    obtain ⟨_, hf⟩ := opn_fields Try.underlying49 (by kernel_rfl) (by kernel_rfl) hd
    obtain ⟨v1, n1, d1, e1, h1⟩ := hf 0 _ rfl
    obtain ⟨v2, n2, d2, e2, h2⟩ := hf 1 _ rfl
    obtain ⟨v3, n3, d3, e3, h3⟩ := hf 2 _ rfl
    obtain ⟨a1, q1, _, _⟩ := DataW.trod_int Try.underlying3 h1
    obtain ⟨a2, q2, _, _⟩ := DataW.trod_int Try.underlying3 h2
    obtain ⟨a3, q3, _, _⟩ := DataW.trod_int Try.underlying3 h3
    injection q1 with q1 _; injection q2 with q2 _; injection q3 with q3 _
    subst q1 q2 q3
    refine ⟨⟨a1, a2, a3⟩, ?_, trivial⟩
    match y, hlen with
    | [y1, y2, y3], _ =>
      simp only [List.getElem?_cons_zero, List.getElem?_cons_succ, Option.some.injEq] at e1 e2 e3
      rw [e1, e2, e3]
      rfl)
  refine ⟨l, ?_, ?_⟩
  · unfold Sts
    rw [hl, hyl, ← hfl]
    exact hrd
  · rw [hl, hyl]
    exact Nat.le_trans (sum_len n hB1) hB
theorem sumTo_le {p : List (List St)} {B : Nat → Nat} (h : ∀ (i : Nat) l, p[i]? = some l → l.length ≤ B i) : ∀ n, n ≤ p.length → sumTo p n ≤ ((List.range n).map B).sum
  | 0, _ => Nat.zero_le _
  | n + 1, hn => by
    have hr := List.getElem?_eq_getElem (show n < p.length by omega)
    rw [sumTo_succ hr, List.range_succ, List.map_append, List.sum_append]
    have := sumTo_le h n (by omega)
    have := h n _ hr
    simp
    omega
theorem opn_plan {v : Value} {base2 : Nat} {d : DataW H} {pl : List MemPlace} (o : Value.okWide Try.prog w .any base2 23 v) (h : DataW.Trod enc Try.prog w base spare held 23 v d pl) :
    ∃ A n c p, v = .slice A n c ∧ PlanAt w (fun k => k < w.heap.size) (.slice A n c) p ∧ p.length = n ∧ n + sumTo p n ≤ 2 * Rows.uptoBulk d := by
  obtain ⟨A0, n0, c0, rfl⟩ := okWide_slice Try.underlying23 o
  obtain ⟨fuel, h⟩ := h
  obtain ⟨A, n, c, ys, B, hv, _, _, hyl, hrd, hB, hB1, hys⟩ := opn_sliceB (size := 1) Try.underlying23 (by kernel_rfl) (by omega) h
  obtain ⟨p, hp, hpi⟩ := list_of (P := fun i l => ∃ r, ys[i]? = some [r] ∧ Sts w (fun k => k < w.heap.size) r l ∧ l.length ≤ B i) n (fun i hi => by
    obtain ⟨y, hy⟩ : ∃ y, ys[i]? = some y := ⟨_, List.getElem?_eq_getElem (by omega)⟩
    obtain ⟨hlen, n', d, hd, hb⟩ := hys i y hy
    match y, hlen with
    | [r], _ =>
      obtain ⟨l, hl, hll⟩ := opn_sts hd
      exact ⟨l, r, hy, hl, by omega⟩)
  have hfl : ∀ (ys : List (List Value)), (∀ y ∈ ys, y.length = 1) → ∀ (i : Nat) r, ys[i]? = some [r] → ys.flatten[i]? = some r := by
    intro ys hs
    induction ys with
    | nil => intro i r h; simp at h
    | cons y ys ih =>
      intro i r h
      have hy := hs y (by simp)
      rw [List.flatten_cons]
      cases i with
      | zero =>
        simp at h
        subst h
        rfl
      | succ i =>
        rw [List.getElem?_append_right (by omega), hy]
        exact ih (fun z hz => hs z (by simp [hz])) i r h
  have hone : ∀ y ∈ ys, y.length = 1 := fun y hy => by
    obtain ⟨i, hi⟩ := List.getElem?_of_mem hy
    exact (hys i y hi).1
  rw [hv]
  refine ⟨A, n, c, p, rfl, ⟨ys.flatten, by rw [hp]; exact hrd, fun i l hl => ?_⟩, hp, ?_⟩
  · obtain ⟨r, h1, h2, _⟩ := hpi i l hl
    exact ⟨r, hfl ys hone i r h1, h2⟩
  · have h1 := sum_len n hB1
    have h2 := sumTo_le (p := p) (B := B) (fun i l hl => by obtain ⟨_, _, _, h⟩ := hpi i l hl; exact h) n (by omega)
    show n + sumTo p n ≤ 2 * Rows.uptoBulk (d, pl).1
    omega
end
end Go.Proofs.Ytidnlnlmmnkgoaa
