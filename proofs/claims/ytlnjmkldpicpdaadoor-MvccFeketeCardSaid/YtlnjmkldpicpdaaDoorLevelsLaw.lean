/- The plain law of IsolateLevels: of graphs alone. -/
import Derived.Test.YtlnjmkldpicpdaaDoorSkew
namespace Go.Proofs.YtlnjmkldpicpdaaDoor

section
variable {n : Nat} {f g h : Nat → Nat → Bool}
theorem cyc_mono (hfg : ∀ i j, f i j = true → g i j = true) (hc : Cyc n f) : Cyc n g := by
  obtain ⟨a, ha⟩ := hc
  exact ⟨a, ha.mono fun i j _ _ => hfg i j⟩
theorem isNone_iff (n : Nat) (f : Nat → Nat → Bool) : (orderF n f).isNone = true ↔ Cyc n f := by
  have := order_iff n f
  cases ho : orderF n f with
  | none => simp [ho] at this ⊢; exact this
  | some l => simp [ho] at this ⊢; exact this
theorem backTo_iff (n : Nat) (g by_ : Nat → Nat → Bool) : backTo n g (closF n by_) n = true ↔ ∃ i k, i < n ∧ k < n ∧ g i k = true ∧ Path n by_ k i := by
  constructor
  · intro hb
    unfold backTo at hb
    obtain ⟨i, hi, hb⟩ := List.any_eq_true.1 hb
    unfold backRow at hb
    obtain ⟨k, hk, hb⟩ := List.any_eq_true.1 hb
    simp only [Bool.and_eq_true] at hb
    have hi' := List.mem_range.1 hi
    have hk' := List.mem_range.1 hk
    exact ⟨i, k, hi', hk', hb.1, (clos_iff by_ hk' hi').1 hb.2⟩
  · rintro ⟨i, k, hi, hk, h1, h2⟩
    exact backTo_found hi hk h1 ((clos_iff by_ hk hi).2 h2)
/-- A way by edges of both kinds goes by those of the first alone, or over one of the second. -/
theorem path_split {a b : Nat} (hp : Path n (fun x y => f x y || g x y) a b) :
    Path n f a b ∨ ∃ i k, i < n ∧ k < n ∧ g i k = true ∧ (a = i ∨ Path n (fun x y => f x y || g x y) a i) ∧ (k = b ∨ Path n (fun x y => f x y || g x y) k b) := by
  induction hp using Path.ind with
  | one h1 h2 h3 =>
    rename_i a b
    cases hf : f a b with
    | true => exact .inl (.one h1 h2 hf)
    | false =>
      simp only [hf, Bool.false_or] at h3
      exact .inr ⟨a, b, h1, h2, h3, .inl rfl, .inl rfl⟩
  | cons h1 h2 h3 hq ih =>
    rename_i a m b
    cases hf : f a m with
    | true =>
      rcases ih with ih | ⟨i, k, hi, hk, hg, h4, h5⟩
      · exact .inl (.cons h1 h2 hf ih)
      · refine .inr ⟨i, k, hi, hk, hg, .inr ?_, h5⟩
        rcases h4 with rfl | h4
        · exact .one h1 h2 h3
        · exact .cons h1 h2 h3 h4
    | false =>
      simp only [hf, Bool.false_or] at h3
      exact .inr ⟨a, m, h1, h2, h3, .inl rfl, .inr hq⟩
theorem cyc_or : Cyc n (fun x y => f x y || g x y) ↔ (Cyc n f ∨ ∃ i k, i < n ∧ k < n ∧ g i k = true ∧ Path n (fun x y => f x y || g x y) k i) := by
  constructor
  · rintro ⟨a, ha⟩
    rcases path_split ha with h | ⟨i, k, hi, hk, hg, h1, h2⟩
    · exact .inl ⟨a, h⟩
    · refine .inr ⟨i, k, hi, hk, hg, ?_⟩
      rcases h1 with rfl | h1 <;> rcases h2 with rfl | h2
      · exact .one hk hi (by simp [hg])
      · exact h2
      · exact h1
      · exact h2.trans h1
  · rintro (⟨a, ha⟩ | ⟨i, k, hi, hk, hg, hp⟩)
    · exact ⟨a, ha.mono fun i j _ _ h => by simp [h]⟩
    · exact ⟨i, .cons hi hk (by simp [hg]) hp⟩
end

theorem known_eq (t : List ITx) (g : List (List Int)) : knownF t g = fun x y => overF g x y || seenF t x y := by funext x y; simp [knownF, orAll]
theorem every_eq (t : List ITx) (g : List (List Int)) : everyF t g = fun x y => knownF t g x y || anewF t g x y := by funext x y; simp [everyF, orAll]
theorem all_eq (t : List ITx) (g : List (List Int)) : allF t g = everyF t g := by funext x y; simp [allF, everyF, knownF, orAll, Bool.or_assoc]

/-- What is found: of Dirty, Round, Single, Any and the order. -/
theorem levels_law (n : Nat) (t : List ITx) (g : List (List Int)) : ∃ d a b r s y, findsF n t g = [d, a, b, r, s, y] ∧ (d = true → r = true) ∧ (s = true → y = true) ∧ ((orderF n (allF t g)).isNone = (r || y)) := by
  refine ⟨_, _, _, _, _, _, rfl, fun hd => ?_, fun hs => ?_, ?_⟩
  · rw [isNone_iff] at hd ⊢
    exact cyc_mono (fun i j h => by rw [known_eq]; simp [h]) hd
  · rw [backTo_iff] at hs ⊢
    obtain ⟨i, k, hi, hk, h1, h2⟩ := hs
    exact ⟨i, k, hi, hk, h1, h2.mono fun i j _ _ h => by rw [every_eq]; simp [h]⟩
  · rw [Bool.eq_iff_iff, Bool.or_eq_true, isNone_iff, isNone_iff, backTo_iff, all_eq]
    rw [every_eq]
    exact cyc_or
end Go.Proofs.YtlnjmkldpicpdaaDoor
