/- Vectors and times of steps: Mattern, Lamport. Plain. Nothing of the program. -/
import Derived.Test.YtajbhabkhgpcfaaDoorBase
namespace Go.Proofs.YtajbhabkhgpcfaaDoor
set_option linter.unusedVariables false
abbrev VS := (Nat → Nat → Nat) × (Nat → Nat → Nat)
abbrev TS := (Nat → Nat) × (Nat → Nat)
section
variable (p : Nat → Nat) (fr : Nat → Option Nat)
def vNew (s : VS) (k q : Nat) : Nat := max (s.1 (p k) q) (match fr k with | some m => s.2 m q | none => 0) + if q = p k then 1 else 0
def vTo : Nat → VS
  | 0 => (fun _ _ => 0, fun _ _ => 0)
  | k + 1 => (fun r q => if r = p k then vNew p fr (vTo k) k q else (vTo k).1 r q, fun i q => if i = k then vNew p fr (vTo k) k q else (vTo k).2 i q)
def tNew (s : TS) (k : Nat) : Nat := max (s.1 (p k)) (match fr k with | some m => s.2 m | none => 0) + 1
def tTo : Nat → TS
  | 0 => (fun _ => 0, fun _ => 0)
  | k + 1 => (fun r => if r = p k then tNew p fr (tTo k) k else (tTo k).1 r, fun i => if i = k then tNew p fr (tTo k) k else (tTo k).2 i)
def vecF (i : Nat) : Nat → Nat := (vTo p fr (i + 1)).2 i
def timeF (i : Nat) : Nat := (tTo p fr (i + 1)).2 i
end
section
variable {p : Nat → Nat} {fr : Nat → Option Nat}
theorem vec_new (i : Nat) : vecF p fr i = vNew p fr (vTo p fr i) i := by
  funext q
  show (if i = i then _ else _) = _
  rw [if_pos rfl]
theorem time_new (i : Nat) : timeF p fr i = tNew p fr (tTo p fr i) i := by
  show (if i = i then _ else _) = _
  rw [if_pos rfl]
theorem out_vec : ∀ {k i : Nat}, i < k → (vTo p fr k).2 i = vecF p fr i
  | 0, i, h => by omega
  | k + 1, i, h => by
    by_cases hik : i = k
    · subst hik; rfl
    · funext q
      show (if i = k then _ else _) = _
      rw [if_neg hik, out_vec (by omega)]
theorem out_time : ∀ {k i : Nat}, i < k → (tTo p fr k).2 i = timeF p fr i
  | 0, i, h => by omega
  | k + 1, i, h => by
    by_cases hik : i = k
    · subst hik; rfl
    · show (if i = k then _ else _) = _
      rw [if_neg hik, out_time (by omega)]
theorem last_is : ∀ (k r : Nat), ((∀ j, j < k → p j ≠ r) ∧ (∀ q, (vTo p fr k).1 r q = 0) ∧ (tTo p fr k).1 r = 0) ∨
    ∃ j, j < k ∧ p j = r ∧ (∀ i, i < k → p i = r → i ≤ j) ∧ (vTo p fr k).1 r = vecF p fr j ∧ (tTo p fr k).1 r = timeF p fr j
  | 0, r => .inl ⟨fun j hj => by omega, fun q => rfl, rfl⟩
  | k + 1, r => by
    by_cases hr : r = p k
    · refine .inr ⟨k, by omega, hr.symm, fun i hi _ => by omega, ?_, ?_⟩
      · rw [vec_new]; funext q; show (if r = p k then _ else _) = _; rw [if_pos hr]
      · rw [time_new]; show (if r = p k then _ else _) = _; rw [if_pos hr]
    · have e1 : (vTo p fr (k + 1)).1 r = (vTo p fr k).1 r := by funext q; show (if r = p k then _ else _) = _; rw [if_neg hr]
      have e2 : (tTo p fr (k + 1)).1 r = (tTo p fr k).1 r := by show (if r = p k then _ else _) = _; rw [if_neg hr]
      rw [e1, e2]
      rcases last_is k r with ⟨h1, h2, h3⟩ | ⟨j, h1, h2, h3, h4, h5⟩
      · refine .inl ⟨fun j hj => ?_, h2, h3⟩
        rcases Nat.lt_or_ge j k with h | h
        · exact h1 j h
        · have : j = k := by omega
          subst this; exact fun e => hr e.symm
      · refine .inr ⟨j, by omega, h2, fun i hi hp => ?_, h4, h5⟩
        rcases Nat.lt_or_ge i k with h | h
        · exact h3 i h hp
        · have : i = k := by omega
          subst this; exact absurd hp.symm hr
theorem own_pos (i : Nat) : 0 < vecF p fr i (p i) := by
  rw [vec_new]; unfold vNew; rw [if_pos rfl]; omega
theorem proc_mono : ∀ (j i : Nat), i < j → p i = p j → vecF p fr i (p j) < vecF p fr j (p j) ∧ timeF p fr i < timeF p fr j := by
  intro j
  induction j using Nat.strongRecOn with
  | ind j ih =>
    intro i hij hp
    rcases last_is (p := p) (fr := fr) j (p j) with ⟨h1, _⟩ | ⟨j0, h1, h2, h3, h4, h5⟩
    · exact absurd hp (h1 i hij)
    · have hle := h3 i hij hp
      have hv : vecF p fr j0 (p j) < vecF p fr j (p j) := by
        rw [vec_new j]; unfold vNew; rw [if_pos rfl, h4]; omega
      have ht : timeF p fr j0 < timeF p fr j := by
        rw [time_new j]; unfold tNew; rw [h5]; omega
      rcases Nat.lt_or_ge i j0 with h | h
      · have := ih j0 h1 i h (by rw [hp, h2])
        rw [h2] at this
        omega
      · have : i = j0 := by omega
        subst this; exact ⟨hv, ht⟩
theorem claim (hfr : ∀ k m, fr k = some m → m < k) : ∀ (k q : Nat), 0 < vecF p fr k q → ∃ j, j ≤ k ∧ p j = q ∧ vecF p fr j q = vecF p fr k q ∧ timeF p fr j ≤ timeF p fr k ∧ (j = k ∨ timeF p fr j < timeF p fr k) := by
  intro k
  induction k using Nat.strongRecOn with
  | ind k ih =>
    intro q hq
    by_cases hqp : q = p k
    · exact ⟨k, Nat.le_refl _, hqp.symm, rfl, Nat.le_refl _, .inl rfl⟩
    · have hv : vecF p fr k q = max ((vTo p fr k).1 (p k) q) (match fr k with | some m => (vTo p fr k).2 m q | none => 0) := by
        rw [vec_new]; unfold vNew; rw [if_neg hqp]; rfl
      have ht : timeF p fr k = max ((tTo p fr k).1 (p k)) (match fr k with | some m => (tTo p fr k).2 m | none => 0) + 1 := by
        rw [time_new]; rfl
      have step : ∀ m, m < k → vecF p fr m q = vecF p fr k q → timeF p fr m < timeF p fr k → ∃ j, j ≤ k ∧ p j = q ∧ vecF p fr j q = vecF p fr k q ∧ timeF p fr j ≤ timeF p fr k ∧ (j = k ∨ timeF p fr j < timeF p fr k) := fun m hm he hlt => by
        obtain ⟨j, h1, h2, h3, h4, _⟩ := ih m hm q (by omega)
        exact ⟨j, by omega, h2, by omega, by omega, .inr (by omega)⟩
      rcases last_is (p := p) (fr := fr) k (p k) with ⟨_, h2, h3⟩ | ⟨j0, h1, h2, h3, h4, h5⟩
      · cases hf : fr k with
        | none => rw [hf, h2 q] at hv; simp at hv; omega
        | some m =>
          have hm := hfr k m hf
          rw [hf, h2 q] at hv
          rw [hf] at ht
          simp only at hv ht
          rw [out_vec hm] at hv
          rw [out_time hm] at ht
          exact step m hm (by omega) (by omega)
      · rw [h4] at hv
        rw [h5] at ht
        cases hf : fr k with
        | none =>
          rw [hf] at hv ht
          simp only at hv ht
          exact step j0 h1 (by omega) (by omega)
        | some m =>
          have hm := hfr k m hf
          rw [hf] at hv ht
          simp only at hv ht
          rw [out_vec hm] at hv
          rw [out_time hm] at ht
          rcases Nat.le_total (vecF p fr j0 q) (vecF p fr m q) with h | h
          · exact step m hm (by omega) (by omega)
          · exact step j0 h1 (by omega) (by omega)
/-- What knows less is earlier. -/
theorem less_time (hfr : ∀ k m, fr k = some m → m < k) {i k : Nat} (hle : vecF p fr i (p i) ≤ vecF p fr k (p i)) (hne : i ≠ k) : timeF p fr i < timeF p fr k := by
  have h0 := own_pos (p := p) (fr := fr) i
  obtain ⟨j, h1, h2, h3, h4, h5⟩ := claim (p := p) (fr := fr) hfr k (p i) (by omega)
  rcases Nat.lt_trichotomy i j with h | h | h
  · have := proc_mono (p := p) (fr := fr) j i h h2.symm
    omega
  · subst h
    rcases h5 with h5 | h5
    · exact absurd h5 hne
    · exact h5
  · have := proc_mono (p := p) (fr := fr) i j h h2
    omega
end
end Go.Proofs.YtajbhabkhgpcfaaDoor
