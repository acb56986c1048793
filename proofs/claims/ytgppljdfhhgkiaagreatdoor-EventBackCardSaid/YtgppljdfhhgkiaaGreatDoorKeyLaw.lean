/- The key of a state, as bytes: plain. Nothing of the program. -/
import Derived.Test.YtgppljdfhhgkiaaGreatDoorModLaw2
namespace Go.Proofs.YtgppljdfhhgkiaaGreatDoor
set_option linter.unusedVariables false
set_option linter.unusedSimpArgs false
/-- A digit of base 36. -/
def dig36 (d : Nat) : Nat := if d < 10 then 48 + d else 87 + d
def undig (c : Nat) : Nat := if c < 58 then c - 48 else c - 87
/-- The digits of a number, ahead of others. -/
def digs36 : Nat → Nat → List Nat → List Nat
  | 0, u, acc => dig36 (u % 36) :: acc
  | f + 1, u, acc => if u < 36 then dig36 u :: acc else digs36 f (u / 36) (dig36 (u % 36) :: acc)
def vfold (s : Nat) : List Nat → Nat
  | [] => s
  | c :: r => vfold (s * 36 + undig c) r
theorem undig_dig {d : Nat} (h : d < 36) : undig (dig36 d) = d := by
  unfold undig dig36
  split <;> split <;> omega
theorem vfold_digs : ∀ (f u : Nat) (acc : List Nat), u < 36 ^ (f + 1) → vfold 0 (digs36 f u acc) = vfold u acc
  | 0, u, acc, h => by
    have h1 : u < 36 := by simpa using h
    rw [digs36, Nat.mod_eq_of_lt h1, vfold, undig_dig h1, Nat.zero_mul, Nat.zero_add]
  | f + 1, u, acc, h => by
    rw [digs36]
    split
    · rename_i h1
      rw [vfold, undig_dig h1, Nat.zero_mul, Nat.zero_add]
    · have h2 : u / 36 < 36 ^ (f + 1) := by
        rw [Nat.div_lt_iff_lt_mul (by omega)]
        rw [Nat.pow_succ] at h
        exact h
      rw [vfold_digs f (u / 36) _ h2, vfold, undig_dig (Nat.mod_lt _ (by omega))]
      rw [show u / 36 * 36 + u % 36 = u by omega]
/-- A byte of a number's text. -/
def okC (c : Nat) : Prop := c ≠ 32 ∧ c ≠ 124 ∧ c < 256
theorem okC_dig {d : Nat} (h : d < 36) : okC (dig36 d) ∧ dig36 d ≠ 45 := by
  unfold okC dig36
  split <;> omega
theorem okC_digs : ∀ (f u : Nat) (acc : List Nat), (∀ c ∈ acc, okC c ∧ c ≠ 45) → ∀ c ∈ digs36 f u acc, okC c ∧ c ≠ 45
  | 0, u, acc, h => by
    intro c hc
    rcases List.mem_cons.1 hc with rfl | hc
    · exact okC_dig (Nat.mod_lt _ (by omega))
    · exact h c hc
  | f + 1, u, acc, h => by
    rw [digs36]
    split
    · rename_i h1
      intro c hc
      rcases List.mem_cons.1 hc with rfl | hc
      · exact okC_dig h1
      · exact h c hc
    · refine okC_digs f _ _ fun c hc => ?_
      rcases List.mem_cons.1 hc with rfl | hc
      · exact okC_dig (Nat.mod_lt _ (by omega))
      · exact h c hc
def dig (u : Nat) : List Nat := digs36 13 u []
def itoa36 (n : Int) : List Nat := if n < 0 then 45 :: dig n.natAbs else dig n.natAbs
theorem dig_inj {u v : Nat} (hu : u < 18446744073709551616) (hv : v < 18446744073709551616) (h : dig u = dig v) : u = v := by
  have h1 := vfold_digs 13 u [] (Nat.lt_of_lt_of_le hu (by decide))
  have h2 := vfold_digs 13 v [] (Nat.lt_of_lt_of_le hv (by decide))
  have h3 : digs36 13 u [] = digs36 13 v [] := h
  rw [h3, h2] at h1
  exact h1.symm
def i64B (n : Int) : Prop := -9223372036854775808 ≤ n ∧ n ≤ 9223372036854775807
theorem dig_ok (u : Nat) : ∀ c ∈ dig u, okC c ∧ c ≠ 45 := okC_digs 13 u [] (by simp)
theorem itoa_ok (n : Int) : ∀ c ∈ itoa36 n, okC c := by
  intro c hc
  unfold itoa36 at hc
  split at hc
  · rcases List.mem_cons.1 hc with rfl | hc
    · exact ⟨by decide, by decide, by decide⟩
    · exact (dig_ok _ c hc).1
  · exact (dig_ok _ c hc).1
theorem itoa_inj {m n : Int} (hm : i64B m) (hn : i64B n) (h : itoa36 m = itoa36 n) : m = n := by
  unfold i64B at hm hn
  unfold itoa36 at h
  split at h
  · split at h
    · injection h with _ h
      have := dig_inj (by omega) (by omega) h
      omega
    · have := (dig_ok n.natAbs 45 (by rw [← h]; simp)).2
      exact absurd rfl this
  · split at h
    · have := (dig_ok m.natAbs 45 (by rw [h]; simp)).2
      exact absurd rfl this
    · have := dig_inj (by omega) (by omega) h
      omega
/-- Two texts of numbers, each with a mark behind it. -/
theorem tok_split : ∀ (X X' Y Y' : List Nat), (∀ c ∈ X, okC c) → (∀ c ∈ X', okC c) → (∃ y r, Y = y :: r ∧ (y = 32 ∨ y = 124)) → (∃ y r, Y' = y :: r ∧ (y = 32 ∨ y = 124)) → X ++ Y = X' ++ Y' → X = X' ∧ Y = Y'
  | [], [], Y, Y', _, _, _, _, h => ⟨rfl, h⟩
  | [], c :: X', Y, Y', _, h2, ⟨y, r, e, hy⟩, _, h => by
    subst e
    simp only [List.nil_append, List.cons_append] at h
    injection h with h _
    have := h2 c (by simp)
    unfold okC at this
    omega
  | c :: X, [], Y, Y', h1, _, _, ⟨y, r, e, hy⟩, h => by
    subst e
    simp only [List.nil_append, List.cons_append] at h
    injection h with h _
    have := h1 c (by simp)
    unfold okC at this
    omega
  | c :: X, c' :: X', Y, Y', h1, h2, h3, h4, h => by
    simp only [List.cons_append] at h
    injection h with e h
    obtain ⟨e1, e2⟩ := tok_split X X' Y Y' (fun c hc => h1 c (by simp [hc])) (fun c hc => h2 c (by simp [hc])) h3 h4 h
    exact ⟨by rw [e, e1], e2⟩
def encL (l : List Int) : List Nat := l.flatMap (fun n => 32 :: itoa36 n) ++ [124]
theorem encL_cons (n : Int) (l : List Int) : encL (n :: l) = 32 :: itoa36 n ++ encL l := by simp [encL]
theorem encL_head (l : List Int) (r : List Nat) : ∃ y r', encL l ++ r = y :: r' ∧ (y = 32 ∨ y = 124) := by
  cases l with
  | nil => exact ⟨124, r, rfl, .inr rfl⟩
  | cons n l => exact ⟨32, itoa36 n ++ encL l ++ r, by rw [encL_cons]; rfl, .inl rfl⟩
theorem encL_inj : ∀ (l l' : List Int) (r r' : List Nat), (∀ n ∈ l, i64B n) → (∀ n ∈ l', i64B n) → encL l ++ r = encL l' ++ r' → l = l' ∧ r = r'
  | [], [], r, r', _, _, h => by
    simp [encL] at h
    exact ⟨rfl, h⟩
  | [], n :: l', r, r', _, _, h => by
    rw [encL_cons] at h
    simp [encL] at h
  | n :: l, [], r, r', _, _, h => by
    rw [encL_cons] at h
    simp [encL] at h
  | n :: l, n' :: l', r, r', h1, h2, h => by
    rw [encL_cons, encL_cons] at h
    simp only [List.cons_append, List.append_assoc] at h
    injection h with _ h
    obtain ⟨e1, e2⟩ := tok_split _ _ _ _ (itoa_ok n) (itoa_ok n') (encL_head l r) (encL_head l' r') h
    obtain ⟨e3, e4⟩ := encL_inj l l' r r' (fun c hc => h1 c (by simp [hc])) (fun c hc => h2 c (by simp [hc])) e2
    exact ⟨by rw [itoa_inj (h1 n (by simp)) (h2 n' (by simp)) e1, e3], e4⟩
def encS (sts : Nat → List Int) (ks : List Nat) : List Nat := ks.flatMap fun k => encL (sts k)
theorem encS_inj {sts sts' : Nat → List Int} (h1 : ∀ k, ∀ n ∈ sts k, i64B n) (h2 : ∀ k, ∀ n ∈ sts' k, i64B n) : ∀ ks : List Nat, encS sts ks = encS sts' ks → ∀ k ∈ ks, sts k = sts' k
  | [], _ => by simp
  | k :: ks, h => by
    have h : encL (sts k) ++ encS sts ks = encL (sts' k) ++ encS sts' ks := by simpa [encS] using h
    obtain ⟨e1, e2⟩ := encL_inj _ _ _ _ (h1 k) (h2 k) h
    intro j hj
    rcases List.mem_cons.1 hj with rfl | hj
    · exact e1
    · exact encS_inj h1 h2 ks e2 j hj
def bitF (b : Bool) : Nat := if b then 49 else 48
def keyF (n : Nat) (dn : Nat → Bool) (sts : Nat → List Int) : List Nat := (List.range n).map (fun i => bitF (dn i)) ++ encS sts (List.range 8)
theorem keyF_inj {n : Nat} {dn dn' : Nat → Bool} {sts sts' : Nat → List Int} (h1 : ∀ k, ∀ n ∈ sts k, i64B n) (h2 : ∀ k, ∀ n ∈ sts' k, i64B n) (h : keyF n dn sts = keyF n dn' sts') : (∀ i, i < n → dn i = dn' i) ∧ ∀ k, k < 8 → sts k = sts' k := by
  unfold keyF at h
  obtain ⟨e1, e2⟩ := List.append_inj h (by simp)
  refine ⟨fun i hi => ?_, fun k hk => encS_inj h1 h2 _ e2 k (List.mem_range.2 hk)⟩
  have := congrArg (fun l => l[i]?) e1
  simp [hi] at this
  unfold bitF at this
  cases hd : dn i <;> cases hd' : dn' i <;> simp [hd, hd'] at this ⊢
theorem encL_small (l : List Int) : ∀ c ∈ encL l, c < 256 := by
  intro c hc
  rcases List.mem_append.1 hc with hc | hc
  · obtain ⟨n, _, hc⟩ := List.mem_flatMap.1 hc
    rcases List.mem_cons.1 hc with rfl | hc
    · decide
    · exact (itoa_ok n c hc).2.2
  · have : c = 124 := by simpa using hc
    omega
theorem keyF_small (n : Nat) (dn : Nat → Bool) (sts : Nat → List Int) : ∀ c ∈ keyF n dn sts, c < 256 := by
  intro c hc
  rcases List.mem_append.1 hc with hc | hc
  · obtain ⟨i, _, rfl⟩ := List.mem_map.1 hc
    unfold bitF
    split <;> decide
  · obtain ⟨k, _, hc⟩ := List.mem_flatMap.1 hc
    exact encL_small _ c hc
def strB (l : List Nat) : ByteArray := ⟨(l.map UInt8.ofNat).toArray⟩
theorem strB_inj {l l' : List Nat} (h1 : ∀ c ∈ l, c < 256) (h2 : ∀ c ∈ l', c < 256) (h : strB l = strB l') : l = l' := by
  unfold strB at h
  injection h with h
  have h := congrArg Array.toList h
  simp only at h
  have g : ∀ l : List Nat, (∀ c ∈ l, c < 256) → (l.map UInt8.ofNat).map UInt8.toNat = l := by
    intro l hl
    rw [List.map_map]
    conv => rhs; rw [← List.map_id l]
    refine List.map_congr_left fun c hc => ?_
    simp [Function.comp]
    have := hl c hc
    omega
  rw [← g l h1, ← g l' h2, h]
def keyB (n : Nat) (dn : Nat → Bool) (sts : Nat → List Int) : ByteArray := strB (keyF n dn sts)
theorem keyB_inj {n : Nat} {dn dn' : Nat → Bool} {sts sts' : Nat → List Int} (h1 : ∀ k, ∀ n ∈ sts k, i64B n) (h2 : ∀ k, ∀ n ∈ sts' k, i64B n) (h : keyB n dn sts = keyB n dn' sts') : (∀ i, i < n → dn i = dn' i) ∧ ∀ k, k < 8 → sts k = sts' k :=
  keyF_inj h1 h2 (strB_inj (keyF_small n dn sts) (keyF_small n dn' sts') h)
end Go.Proofs.YtgppljdfhhgkiaaGreatDoor
