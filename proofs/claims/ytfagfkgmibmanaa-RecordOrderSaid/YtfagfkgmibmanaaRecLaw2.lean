/- record: what is recovered. Plain. -/
import Derived.Test.YtfagfkgmibmanaaRecLaw
namespace Go.Proofs.Ytfagfkgmibmanaa
set_option linter.unusedVariables false
set_option linter.unusedSimpArgs false

def recStep (l : List Nat) : Option (Ev × Nat) :=
  if l.length < 6 then none
  else if l.length - 6 < l.getD 0 0 * 256 + l.getD 1 0 then none
  else match decF ((l.drop 6).take (l.getD 0 0 * 256 + l.getD 1 0)) with
    | some e => if (frameF ((l.drop 6).take (l.getD 0 0 * 256 + l.getD 1 0))).isPrefixOf l then some (e, l.getD 0 0 * 256 + l.getD 1 0) else none
    | none => none
def recF : Nat → List Nat → List Ev × Nat
  | 0, _ => ([], 0)
  | f + 1, l => match recStep l with
    | some (e, n) => (e :: (recF f (l.drop (6 + n))).1, 6 + n + (recF f (l.drop (6 + n))).2)
    | none => ([], 0)
def recA (l : List Nat) : List Ev × Nat := recF l.length l
theorem frameF_len (p : List Nat) : (frameF p).length = 6 + p.length := by unfold frameF; simp [headF]; omega
theorem recStep_some {l : List Nat} {e : Ev} {n : Nat} (h : recStep l = some (e, n)) : evOkB e = true ∧ n = (enc e).length ∧ 6 + n ≤ l.length ∧ ∃ r, l = frameF (enc e) ++ r := by
  unfold recStep at h
  split at h
  · cases h
  split at h
  · cases h
  rename_i h6 h7
  split at h
  · rename_i e' he
    split at h
    · rename_i hp
      injection h with h
      injection h with h1 h2
      subst h1
      obtain ⟨a, b⟩ := decF_some he
      have hl : (enc e').length = n := by
        rw [b, List.length_take, List.length_drop, h2]
        omega
      refine ⟨a, hl.symm, by omega, ?_⟩
      rw [List.isPrefixOf_iff_prefix] at hp
      obtain ⟨r, hr⟩ := hp
      rw [← b] at hr
      exact ⟨r, hr.symm⟩
    · cases h
  · cases h
theorem recStep_frame {e : Ev} (h : evOkB e = true) (r : List Nat) : recStep (frameF (enc e) ++ r) = some (e, (enc e).length) := by
  have hl := enc_len e
  have hfl := frameF_len (enc e)
  have g0 : (frameF (enc e) ++ r).getD 0 0 = (enc e).length / 256 % 256 := rfl
  have g1 : (frameF (enc e) ++ r).getD 1 0 = (enc e).length % 256 := rfl
  have hn : (enc e).length / 256 % 256 * 256 + (enc e).length % 256 = (enc e).length := by omega
  have hd : (frameF (enc e) ++ r).drop 6 = enc e ++ r := rfl
  unfold recStep
  rw [g0, g1, hn, hd, List.take_left', List.length_append, hfl, if_neg (by omega), if_neg (by omega), decF_enc h]
  · simp
  · rfl
theorem recF_fuel : ∀ (f : Nat) (l : List Nat), l.length ≤ f → recF f l = recA l
  | 0, l, h => by
    obtain rfl : l = [] := List.eq_nil_of_length_eq_zero (by omega)
    rfl
  | f + 1, l, h => by
    unfold recA
    cases hl : l.length with
    | zero =>
      obtain rfl : l = [] := List.eq_nil_of_length_eq_zero hl
      rfl
    | succ m =>
      unfold recF
      cases hs : recStep l with
      | none => rfl
      | some q =>
        obtain ⟨e, n⟩ := q
        obtain ⟨_, _, h3, _⟩ := recStep_some hs
        simp only
        have h1 := recF_fuel f (l.drop (6 + n)) (by rw [List.length_drop]; omega)
        have h2 := recF_fuel m (l.drop (6 + n)) (by rw [List.length_drop]; omega)
        rw [h1, h2]
termination_by f => f
theorem recA_none {l : List Nat} (h : recStep l = none) : recA l = ([], 0) := by
  unfold recA
  cases l.length with
  | zero => rfl
  | succ m => unfold recF; rw [h]
theorem recA_some {l : List Nat} {e : Ev} {n : Nat} (h : recStep l = some (e, n)) : recA l = (e :: (recA (l.drop (6 + n))).1, 6 + n + (recA (l.drop (6 + n))).2) := by
  obtain ⟨_, _, h3, _⟩ := recStep_some h
  unfold recA
  cases hl : l.length with
  | zero => omega
  | succ m =>
    conv => lhs; unfold recF
    rw [h]
    simp only
    rw [recF_fuel m (l.drop (6 + n)) (by rw [List.length_drop]; omega)]
    rfl
def frames (es : List Ev) : List Nat := es.flatMap fun e => frameF (enc e)
theorem frames_cons (e : Ev) (es : List Ev) : frames (e :: es) = frameF (enc e) ++ frames es := rfl
theorem frames_append (es fs : List Ev) : frames (es ++ fs) = frames es ++ frames fs := by simp [frames]
/-- What is frames is recovered. -/
theorem recA_frames : ∀ (es : List Ev) (r : List Nat), (∀ e ∈ es, evOkB e = true) → recA (frames es ++ r) = (es ++ (recA r).1, (frames es).length + (recA r).2)
  | [], r, _ => by simp [frames]
  | e :: es, r, h => by
    rw [frames_cons, List.append_assoc, recA_some (recStep_frame (h e (by simp)) _)]
    have hd : (frameF (enc e) ++ (frames es ++ r)).drop (6 + (enc e).length) = frames es ++ r := by
      rw [← frameF_len, List.drop_left']
      rfl
    rw [hd, recA_frames es r (fun x hx => h x (by simp [hx])), List.length_append, frameF_len]
    simp [Nat.add_assoc]
/-- What is recovered is frames. -/
theorem recF_split : ∀ (f : Nat) (l : List Nat), l.length ≤ f → ∃ r, l = frames (recA l).1 ++ r ∧ (recA l).2 = (frames (recA l).1).length ∧ recStep r = none ∧ ∀ e ∈ (recA l).1, evOkB e = true
  | 0, l, h => by
    obtain rfl : l = [] := List.eq_nil_of_length_eq_zero (by omega)
    exact ⟨[], rfl, rfl, rfl, fun e he => by simp [recA, recF] at he⟩
  | f + 1, l, h => by
    cases hs : recStep l with
    | none =>
      rw [recA_none hs]
      exact ⟨l, rfl, rfl, hs, fun e he => by simp at he⟩
    | some q =>
      obtain ⟨e, n⟩ := q
      obtain ⟨h1, h2, h3, r, h4⟩ := recStep_some hs
      rw [recA_some hs]
      have hd : l.drop (6 + n) = r := by
        rw [h4, h2, ← frameF_len, List.drop_left']
        rfl
      rw [hd]
      obtain ⟨r', a, b, c, d⟩ := recF_split f r (by rw [h4, List.length_append, frameF_len] at h; omega)
      refine ⟨r', ?_, ?_, c, ?_⟩
      · simp only
        rw [frames_cons, List.append_assoc, ← a]
        exact h4
      · simp only
        rw [frames_cons, List.length_append, frameF_len, b, h2]
      · intro x hx
        rcases List.mem_cons.1 hx with rfl | hx
        · exact h1
        · exact d x hx
theorem recA_split (l : List Nat) : ∃ r, l = frames (recA l).1 ++ r ∧ (recA l).2 = (frames (recA l).1).length ∧ recStep r = none ∧ ∀ e ∈ (recA l).1, evOkB e = true := recF_split l.length l (Nat.le_refl _)
theorem frames_pre : ∀ (es fs : List Ev) (r : List Nat), (∀ e ∈ es, evOkB e = true) → (∀ e ∈ fs, evOkB e = true) → frames es ++ r = frames fs → es <+: fs
  | [], fs, r, _, _, _ => List.nil_prefix
  | e :: es, [], r, _, _, h => by
    have := congrArg List.length h
    rw [frames_cons, List.length_append, List.length_append, frameF_len] at this
    simp [frames] at this
  | e :: es, f :: fs, r, h1, h2, h => by
    rw [frames_cons, frames_cons, List.append_assoc] at h
    have a := recStep_frame (h1 e (by simp)) (frames es ++ r)
    have b := recStep_frame (h2 f (by simp)) (frames fs)
    rw [h, b] at a
    injection a with a
    injection a with a
    subst a
    have := frames_pre es fs r (fun x hx => h1 x (by simp [hx])) (fun x hx => h2 x (by simp [hx])) (List.append_cancel_left h)
    exact List.cons_prefix_cons.2 ⟨rfl, this⟩
/-- The crash. -/
theorem crash_law {all : List Ev} {k sc : Nat} {r : List Nat} (hall : ∀ e ∈ all, evOkB e = true) (hk : (frames (all.take sc)).length ≤ k) (hsc : sc ≤ all.length) :
    sc ≤ (recA ((frames all).take k)).1.length ∧ (recA ((frames all).take k)).2 ≤ ((frames all).take k).length ∧ (recA ((frames all).take k)).1 <+: all ∧ recA (((frames all).take k).take (recA ((frames all).take k)).2) = recA ((frames all).take k) := by
  obtain ⟨r, h1, h2, h3, h4⟩ := recA_split ((frames all).take k)
  have hsp : (frames all).take k = frames (all.take sc) ++ (frames (all.drop sc)).take (k - (frames (all.take sc)).length) := by
    conv => lhs; rw [← List.take_append_drop sc all, frames_append, List.take_append, List.take_of_length_le hk]
  have hrec := recA_frames (all.take sc) ((frames (all.drop sc)).take (k - (frames (all.take sc)).length)) (fun e he => hall e (List.mem_of_mem_take he))
  rw [← hsp] at hrec
  refine ⟨?_, ?_, ?_, ?_⟩
  · rw [hrec]
    simp only
    rw [List.length_append, List.length_take]
    omega
  · rw [h2]
    conv => rhs; rw [h1, List.length_append]
    omega
  · refine frames_pre _ all (r ++ (frames all).drop k) h4 hall ?_
    rw [← List.append_assoc, ← h1, List.take_append_drop]
  · have ht : ((frames all).take k).take (recA ((frames all).take k)).2 = frames (recA ((frames all).take k)).1 := by
      conv => lhs; rw [h2]; arg 2; rw [h1]
      rw [List.take_left']
      rfl
    have e0 := recA_frames (recA ((frames all).take k)).1 [] h4
    rw [List.append_nil, show recA [] = ([], 0) from rfl] at e0
    rw [ht, e0]
    simp only [List.append_nil, Nat.add_zero]
    rw [← h2]
end Go.Proofs.Ytfagfkgmibmanaa
