/- Cuts of steps: those that may be seen. Plain. Nothing of the program. -/
import Derived.Test.YtajbhabkhgpcfaaDoorClkLaw
namespace Go.Proofs.YtajbhabkhgpcfaaDoor
set_option linter.unusedVariables false
set_option linter.unusedSimpArgs false
section
variable {p : Nat → Nat} {fr : Nat → Option Nat}
theorem vec_mono : ∀ (j i : Nat), i < j → p i = p j → ∀ q, vecF p fr i q ≤ vecF p fr j q := by
  intro j
  induction j using Nat.strongRecOn with
  | ind j ih =>
    intro i hij hp q
    rcases last_is (p := p) (fr := fr) j (p j) with ⟨h1, _⟩ | ⟨j0, h1, h2, h3, h4, h5⟩
    · exact absurd hp (h1 i hij)
    · have hle := h3 i hij hp
      have hv : vecF p fr j0 q ≤ vecF p fr j q := by
        rw [vec_new j]; unfold vNew; rw [h4]; omega
      rcases Nat.lt_or_ge i j0 with h | h
      · have := ih j0 h1 i h (by rw [hp, h2]) q
        omega
      · have : i = j0 := by omega
        subst this; exact hv
end
/-- The steps of one process. -/
def hix (p : Nat → Nat) (n r : Nat) : List Nat := (List.range n).filter fun i => p i == r
theorem hix_succ (p : Nat → Nat) (n r : Nat) : hix p (n + 1) r = if p n = r then hix p n r ++ [n] else hix p n r := by
  unfold hix
  rw [List.range_succ, List.filter_append]
  by_cases h : p n = r
  · simp [h]
  · simp [h]
theorem hix_mem {p : Nat → Nat} {n r i : Nat} (h : i ∈ hix p n r) : i < n ∧ p i = r := by
  unfold hix at h
  simpa using h
theorem hix_le (p : Nat → Nat) (n r : Nat) : (hix p n r).length ≤ n := by
  have := List.length_filter_le (fun i => p i == r) (List.range n)
  simpa [hix] using this
theorem hix_lt {p : Nat → Nat} : ∀ {n r a b x y : Nat}, (hix p n r)[a]? = some x → (hix p n r)[b]? = some y → a < b → x < y
  | 0, r, a, b, x, y, h1, _, _ => by simp [hix] at h1
  | n + 1, r, a, b, x, y, h1, h2, hab => by
    rw [hix_succ] at h1 h2
    by_cases h : p n = r
    · rw [if_pos h] at h1 h2
      rw [List.getElem?_append] at h1 h2
      by_cases hb : b < (hix p n r).length
      · rw [if_pos hb] at h2
        rw [if_pos (by omega)] at h1
        exact hix_lt h1 h2 hab
      · rw [if_neg hb] at h2
        have hb0 : b - (hix p n r).length = 0 := by
          have := (List.getElem?_eq_some_iff.1 h2).1
          simp at this; omega
        rw [hb0] at h2
        simp at h2
        subst h2
        rw [if_pos (by omega)] at h1
        exact (hix_mem (List.mem_of_getElem? h1)).1
    · rw [if_neg h] at h1 h2
      exact hix_lt h1 h2 hab
section
variable (p : Nat → Nat) (fr : Nat → Option Nat) (n : Nat)
/-- What the m-th step of process r knows. -/
def stv (r m q : Nat) : Nat := vecF p fr ((hix p n r).getD m 0) q
def StdP (c : Nat → Nat) : Prop := ∀ r, r < 8 → 0 < c r → ∀ q, q < 8 → stv p fr n r (c r - 1) q ≤ c q
def HasP (c : Nat → Nat) : Prop := ∀ r, r < 8 → c r ≤ (hix p n r).length
end
section
variable {p : Nat → Nat} {fr : Nat → Option Nat} {n : Nat}
theorem stv_mono {r a b q : Nat} (hab : a ≤ b) (hb : b < (hix p n r).length) : stv p fr n r a q ≤ stv p fr n r b q := by
  rcases Nat.eq_or_lt_of_le hab with rfl | hlt
  · exact Nat.le_refl _
  have ha : (hix p n r)[a]? = some ((hix p n r).getD a 0) := by
    rw [List.getD_eq_getElem?_getD, List.getElem?_eq_getElem (by omega)]; rfl
  have hb' : (hix p n r)[b]? = some ((hix p n r).getD b 0) := by
    rw [List.getD_eq_getElem?_getD, List.getElem?_eq_getElem (by omega)]; rfl
  refine vec_mono _ _ (hix_lt ha hb' hlt) ?_ q
  rw [(hix_mem (List.mem_of_getElem? ha)).2, (hix_mem (List.mem_of_getElem? hb')).2]
theorem std_max {a b : Nat → Nat} (ha : StdP p fr n a) (hb : StdP p fr n b) : StdP p fr n (fun r => max (a r) (b r)) := by
  intro r hr h0 q hq
  simp only at h0 ⊢
  rcases Nat.le_total (a r) (b r) with h | h
  · rw [Nat.max_eq_right h] at h0 ⊢
    have := hb r hr h0 q hq
    omega
  · rw [Nat.max_eq_left h] at h0 ⊢
    have := ha r hr h0 q hq
    omega
theorem std_min {a b : Nat → Nat} (ha : StdP p fr n a) (hb : StdP p fr n b) (hA : HasP p n a) (hB : HasP p n b) : StdP p fr n (fun r => min (a r) (b r)) := by
  intro r hr h0 q hq
  simp only at h0 ⊢
  have h1 := hA r hr
  have h2 := hB r hr
  rcases Nat.le_total (a r) (b r) with h | h
  · rw [Nat.min_eq_left h] at h0 ⊢
    have e1 := ha r hr h0 q hq
    have e2 := hb r hr (by omega) q hq
    have e3 := stv_mono (p := p) (fr := fr) (n := n) (r := r) (q := q) (show a r - 1 ≤ b r - 1 by omega) (by omega)
    omega
  · rw [Nat.min_eq_right h] at h0 ⊢
    have e1 := hb r hr h0 q hq
    have e2 := ha r hr (by omega) q hq
    have e3 := stv_mono (p := p) (fr := fr) (n := n) (r := r) (q := q) (show b r - 1 ≤ a r - 1 by omega) (by omega)
    omega
/-- The greatest cut below another one, on the way. -/
def LowP (p : Nat → Nat) (fr : Nat → Option Nat) (n : Nat) (c a : Nat → Nat) : Prop :=
  (∀ r, r < 8 → a r ≤ c r) ∧ ∀ d : Nat → Nat, (∀ r, r < 8 → d r ≤ c r) → StdP p fr n d → ∀ r, r < 8 → d r ≤ a r
theorem LowP.start (c : Nat → Nat) : LowP p fr n c c := ⟨fun r _ => Nat.le_refl _, fun d hd _ => hd⟩
theorem LowP.step {c a : Nat → Nat} {r q : Nat} (h : LowP p fr n c a) (hr : r < 8) (h0 : 0 < a r) (hq : q < 8) (hbad : a q < stv p fr n r (a r - 1) q) : LowP p fr n c (fun x => if x = r then a r - 1 else a x) := by
  refine ⟨fun x hx => ?_, fun d hd hs x hx => ?_⟩
  · have h1 := h.1 x hx
    by_cases e : x = r
    · subst e; simp; omega
    · simp [e]; exact h1
  · have h1 := h.2 d hd hs x hx
    by_cases e : x = r
    · subst e
      simp only [if_pos rfl]
      rcases Nat.lt_or_ge (d x) (a x) with h2 | h2
      · simp; omega
      · have h3 : d x = a x := by omega
        have h4 := hs x hr (by omega) q hq
        rw [h3] at h4
        have h5 := h.2 d hd hs q hq
        omega
    · simp [e]; exact h1
end
end Go.Proofs.YtajbhabkhgpcfaaDoor
