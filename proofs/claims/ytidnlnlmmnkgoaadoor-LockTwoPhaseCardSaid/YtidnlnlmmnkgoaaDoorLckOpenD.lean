/- A plan that came in, opened; each row no greater than a process's memory. -/
import Derived.Test.YtidnlnlmmnkgoaaDoorOpen
import Derived.Test.YtidnlnlmmnkgoaaDoorLck9
import Derived.SizedLaws
namespace Go.Proofs.YtidnlnlmmnkgoaaDoor
open Go Go.ChangeShapes Go.WideShapes Go.Deep
set_option linter.unusedVariables false
section
variable {H : Type} {enc : TypeId × Value → H} {P : Program} {w : World} {base : Nat} {spare : Nat → Bool} {held : Bool}
theorem weights_all {e : TypeId} {d : DataW H} {z : Nat} (hz : z ∈ DataW.weights P e d) : ∀ {l : List (DataW H)}, d ∈ l → z ∈ DataW.weightsAll P e l
  | a :: l, h => by
    rw [DataW.weightsAll]
    rcases List.mem_cons.1 h with rfl | h
    · exact List.mem_append_left _ hz
    · exact List.mem_append_right _ (weights_all hz h)
theorem opn_sliceW {t e : TypeId} {size fuel : Nat} {v : Value} {x : DataW H × List MemPlace} (ht : P.underlying t = some (.slice e)) (hC : P.cellsOf e = size) (h0 : 0 < size) (h : DataW.trod enc P w base spare held fuel t [v] = some x) (hw : ∀ z ∈ DataW.weights P t x.1, z ≤ reachBytes) :
    ∃ (A : Option Addr) (n c : Nat) (ys : List (List Value)), v = .slice A n c ∧ n ≤ c ∧ c ≤ 9223372036854775807 ∧ ys.length = n ∧ Rd w (fun k => k < w.heap.size) size (.slice A n c) n ys.flatten ∧ n * P.bytesOf e ≤ reachBytes ∧
      ∀ y ∈ ys, y.length = size ∧ ∃ n' d, DataW.trod enc P w base spare held n' e y = some d ∧ ∀ z ∈ DataW.weights P e d.1, z ≤ reachBytes := by
  rcases open_slice ht h with ⟨hcs, hx⟩ | ⟨a, len, cap, m, n, D, Pl, hcs, hb, hl, hm, hmm, hx, hi⟩
  · injection hcs with hcs _
    subst hcs
    exact ⟨none, 0, 0, [], rfl, Nat.le_refl _, by omega, rfl, Rd.nil w _ size, by rw [Nat.zero_mul]; exact Nat.zero_le _, by simp⟩
  · injection hcs with hcs _
    subst hcs
    subst hx
    have hlm : len ≤ m := by rw [hmm]; split <;> omega
    have hws : DataW.weights P t (DataW.slice ((List.range len).map D) ((List.range (m - len)).map fun j => D (len + j))) = (((List.range len).map D).length + ((List.range (m - len)).map fun j => D (len + j)).length) * P.bytesOf e :: (DataW.weightsAll P e ((List.range len).map D) ++ DataW.weightsAll P e ((List.range (m - len)).map fun j => D (len + j))) := by
      rw [DataW.weights, ht]
    dsimp only at hw
    rw [hws] at hw
    have hw0 := hw _ (List.mem_cons_self ..)
    have hw1 : ∀ i, i < len → ∀ z ∈ DataW.weights P e (D i), z ≤ reachBytes := fun i hi z hz =>
      hw z (List.mem_cons_of_mem _ (List.mem_append_left _ (weights_all hz (List.mem_map.2 ⟨i, List.mem_range.2 hi, rfl⟩))))
    obtain ⟨ys, hyl, hy⟩ := list_of (P := fun i y => (∀ j, j < size → w.cell? ((a.add (i * size)).add j) = y[j]?) ∧ y.length = size ∧ ∃ n' d, DataW.trod enc P w base spare held n' e y = some d ∧ ∀ z ∈ DataW.weights P e d.1, z ≤ reachBytes) len (fun i hlt => by
      obtain ⟨cs', h1, h2⟩ := hi i (by omega)
      rw [hC] at h1
      obtain ⟨_, h3, h4⟩ := World.cells?_some h1
      exact ⟨cs', h4, h3, n, _, h2, hw1 i hlt⟩)
    have hall : ∀ y ∈ ys, y.length = size := fun y hmem => by
      obtain ⟨i, hi⟩ := List.getElem?_of_mem hmem
      exact (hy i y hi).2.1
    refine ⟨some a, len, cap, ys, rfl, hl, by simpa [maxLen] using hm, hyl, ⟨_, _, rfl, hl, by simpa [maxLen] using hm, ?_, fun hn => ?_⟩, ?_, fun y hmem => ?_⟩
    · have : ∀ (l : List (List Value)), (∀ y ∈ l, y.length = size) → l.flatten.length = l.length * size := by
        intro l
        induction l with
        | nil => simp
        | cons y l ih =>
          intro hs
          rw [List.flatten_cons, List.length_append, hs y (by simp), ih (fun z hz => hs z (by simp [hz])), List.length_cons, Nat.add_mul]
          omega
      rw [this ys hall, hyl]
    · obtain ⟨y0, hy0⟩ : ∃ y, ys[0]? = some y := ⟨_, List.getElem?_eq_getElem (by omega)⟩
      obtain ⟨hc0, hl0, _⟩ := hy 0 y0 hy0
      have h1 := hc0 0 h0
      rw [List.getElem?_eq_getElem (by omega)] at h1
      obtain ⟨b, o, sp⟩ := a
      have hs : sp = none := by
        have := spot_none h1
        simpa [Addr.add] using this
      subst hs
      refine ⟨b, o, rfl, ?_, fun k u hk => ?_⟩
      · have := World.block_lt_of_cell? w _ h1
        simpa [Addr.add] using this
      · obtain ⟨i, j, y, rfl, hj, hyi, hyj⟩ := flatten_get ys hall k u hk h0
        have h2 := (hy i y hyi).1 j hj
        rw [hyj, Addr.add_lit, Addr.add_lit] at h2
        rw [← h2]
        congr 2
        omega
    · refine Nat.le_trans (Nat.mul_le_mul_right _ ?_) hw0
      simp
    · obtain ⟨i, hi⟩ := List.getElem?_of_mem hmem
      exact (hy i y hi).2
end
def rowMax : Nat := 140737488355328
def sumMax : Nat := 4611686018427387904
section
variable {H : Type} {enc : TypeId × Value → H} {w : World} {base : Nat} {spare : Nat → Bool} {held : Bool}
theorem opn_stsW {fuel : Nat} {v : Value} {x : DataW H × List MemPlace} (h : DataW.trod enc Tryd.prog w base spare held fuel 25 [v] = some x) (hw : ∀ z ∈ DataW.weights Tryd.prog 25 x.1, z ≤ reachBytes) : ∃ l, Sts w (fun k => k < w.heap.size) v l ∧ l.length ≤ rowMax := by
  obtain ⟨A, n, c, ys, rfl, _, _, hyl, hrd, hB, hys⟩ := opn_sliceW (size := 3) Tryd.underlying25 (by kernel_rfl) (by omega) h hw
  have hb : Tryd.prog.bytesOf 40 = 24 := by kernel_rfl
  rw [hb] at hB
  unfold reachBytes at hB
  obtain ⟨l, hl, hfl, _⟩ := decode (f := stV) (R := fun _ => True) ys (fun y hy => by
    obtain ⟨hlen, n', d, hd, _⟩ := hys y hy
    obtain ⟨_, hf⟩ := opn_fields Tryd.underlying40 (by kernel_rfl) (by kernel_rfl) hd
    obtain ⟨v1, n1, d1, e1, h1⟩ := hf 0 _ rfl
    obtain ⟨v2, n2, d2, e2, h2⟩ := hf 1 _ rfl
    obtain ⟨v3, n3, d3, e3, h3⟩ := hf 2 _ rfl
    obtain ⟨a1, q1, _, _⟩ := DataW.trod_int Tryd.underlying3 h1
    obtain ⟨a2, q2, _, _⟩ := DataW.trod_int Tryd.underlying3 h2
    obtain ⟨a3, q3, _, _⟩ := DataW.trod_int Tryd.underlying3 h3
    injection q1 with q1 _; injection q2 with q2 _; injection q3 with q3 _
    subst q1 q2 q3
    refine ⟨⟨a1, a2, a3⟩, ?_, trivial⟩
    match y, hlen with
    | [y1, y2, y3], _ =>
      simp only [List.getElem?_cons_zero, List.getElem?_cons_succ, Option.some.injEq] at e1 e2 e3
      rw [e1, e2, e3]
      rfl)
  refine ⟨l, ?_, ?_⟩
  · unfold Sts
    rw [hl, hyl, ← hfl]
    exact hrd
  · rw [hl, hyl]
    unfold rowMax
    omega
theorem sumTo_mul {p : List (List St)} {M : Nat} (h : ∀ (i : Nat) l, p[i]? = some l → l.length ≤ M) : ∀ n, n ≤ p.length → sumTo p n ≤ n * M
  | 0, _ => Nat.zero_le _
  | n + 1, hn => by
    have hr := List.getElem?_eq_getElem (show n < p.length by omega)
    have h1 := sumTo_mul h n (by omega)
    have h2 := h n _ hr
    rw [sumTo_succ hr, Nat.add_mul, Nat.one_mul]
    omega
set_option maxRecDepth 100000 in
theorem opn_planW {v : Value} {base2 : Nat} {d : DataW H} {pl : List MemPlace} (o : Value.okWide Tryd.prog w .any base2 23 v) (h : DataW.Trod enc Tryd.prog w base spare held 23 v d pl) (hw : ∀ z ∈ DataW.weights Tryd.prog 23 d, z ≤ reachBytes) :
    ∃ A n c p, v = .slice A n c ∧ PlanAt w (fun k => k < w.heap.size) (.slice A n c) p ∧ p.length = n ∧ (n ≤ 8 → n + sumTo p n ≤ sumMax) := by
  obtain ⟨A0, n0, c0, rfl⟩ := okWide_slice Tryd.underlying23 o
  obtain ⟨fuel, h⟩ := h
  obtain ⟨A, n, c, ys, hv, _, _, hyl, hrd, hB, hys⟩ := opn_sliceW (size := 1) Tryd.underlying23 (by kernel_rfl) (by omega) h hw
  obtain ⟨p, hp, hpi⟩ := list_of (P := fun i l => ∃ r, ys[i]? = some [r] ∧ Sts w (fun k => k < w.heap.size) r l ∧ l.length ≤ rowMax) n (fun i hi => by
    obtain ⟨y, hy⟩ : ∃ y, ys[i]? = some y := ⟨_, List.getElem?_eq_getElem (by omega)⟩
    obtain ⟨hlen, hex⟩ := hys y (List.mem_of_getElem? hy)
    obtain ⟨n', d, hd, hb⟩ := hex
    match y, hlen with
    | [r], _ =>
      obtain ⟨l, hl, hll⟩ := opn_stsW hd hb
      exact ⟨l, r, hy, hl, hll⟩)
  have hfl : ∀ (ys : List (List Value)), (∀ y ∈ ys, y.length = 1) → ∀ (i : Nat) r, ys[i]? = some [r] → ys.flatten[i]? = some r := by
    intro ys hs
    induction ys with
    | nil => intro i r h; simp at h
    | cons y ys ih =>
      intro i r h
      have hy := hs y (by simp)
      rw [List.flatten_cons]
      cases i with
      | zero =>
        simp at h
        subst h
        rfl
      | succ i =>
        rw [List.getElem?_append_right (by omega), hy]
        exact ih (fun z hz => hs z (by simp [hz])) i r h
  rw [hv]
  refine ⟨A, n, c, p, rfl, ⟨ys.flatten, by rw [hp]; exact hrd, fun i l hl => ?_⟩, hp, fun h8 => ?_⟩
  · obtain ⟨r, h1, h2, _⟩ := hpi i l hl
    exact ⟨r, hfl ys (fun y hy => (hys y hy).1) i r h1, h2⟩
  · have h2 := sumTo_mul (p := p) (M := rowMax) (fun i l hl => by obtain ⟨_, _, _, h⟩ := hpi i l hl; exact h) n (by omega)
    have h3 : n * rowMax ≤ 8 * rowMax := Nat.mul_le_mul_right _ h8
    have h4 : 8 + 8 * rowMax ≤ sumMax := by decide
    omega
end
end Go.Proofs.YtidnlnlmmnkgoaaDoor
