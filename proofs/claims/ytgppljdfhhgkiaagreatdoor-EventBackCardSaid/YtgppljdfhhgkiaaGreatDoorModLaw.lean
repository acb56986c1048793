/- Objects, one call behind the other: plain. Nothing of the program. -/
import Derived.Test.YtgppljdfhhgkiaaGreatDoorBase
namespace Go.Proofs.YtgppljdfhhgkiaaGreatDoor
set_option linter.unusedVariables false
set_option linter.unusedSimpArgs false
/-- Which calls an object has. -/
def knowsF (o k : Int) : Bool := (o == 1 && (k == 1 || k == 2 || k == 3)) || (o == 2 && (k == 4 || k == 5)) || (o == 3 && (k == 6 || k == 7 || k == 8)) || (o == 4 && (k == 9 || k == 10)) || (o == 5 && (k == 9 || k == 10)) || (o == 6 && (k == 11 || k == 12))
def singleF (o : Int) : Bool := o == 1 || o == 2 || o == 6
def startF (o : Int) : List Int := if singleF o then [0] else []
def oneF (b : Bool) : Int := if b then 1 else 0
def posF (l : List Int) (a : Int) : Nat := (l.filter (· < a)).length
def insF (l : List Int) (a : Int) : List Int := l.take (posF l a) ++ a :: l.drop (posF l a)
def delF (l : List Int) (a : Int) : List Int := l.take (posF l a) ++ l.drop (posF l a + 1)
def regF (n k a b : Int) : Int × Int := if k = 1 then (n, n) else if k = 2 then (a, 0) else if n = a then (b, 1) else (n, 0)
def setF (l : List Int) (k a : Int) : List Int × Int := if k = 6 ∧ a ∉ l then (insF l a, 1) else if k = 7 ∧ a ∈ l then (delF l a, 1) else (l, oneF (decide (k = 8 ∧ a ∈ l)))
def lineF (o : Int) (l : List Int) (k a : Int) : List Int × Int := if k = 9 then (l ++ [a], 0) else if l = [] then (l, -1) else if o = 4 then (l.drop 1, l.getD 0 0) else (l.take (l.length - 1), l.getD (l.length - 1) 0)
/-- What a call makes of a state, and what it tells; none: it may not be. -/
def stepF (o : Int) (st : List Int) (k a b : Int) : Option (List Int × Int) :=
  if knowsF o k = false ∨ (singleF o = true ∧ st.length ≠ 1) then none else
  if o = 1 then some ([(regF (st.getD 0 0) k a b).1], (regF (st.getD 0 0) k a b).2) else
  if o = 2 then some ([if k = 4 then IntKind.i64.wrap (st.getD 0 0 + a) else st.getD 0 0], if k = 4 then IntKind.i64.wrap (st.getD 0 0 + a) else st.getD 0 0) else
  if o = 3 then some (setF st k a) else
  if o = 6 then (if st.getD 0 0 = oneF (k == 12) then some ([oneF (k == 11)], 0) else none) else
  some (lineF o st k a)
/-- A state that can be: a set is in order. -/
def okSt (o : Int) (st : List Int) : Prop := o = 3 → st.Pairwise (· < ·)
theorem okSt_start (o : Int) : okSt o (startF o) := by
  intro h
  subst h
  simp [startF, singleF]
theorem posF_le (l : List Int) (a : Int) : posF l a ≤ l.length := List.length_filter_le ..
theorem posF_split : ∀ (l : List Int) (a : Int), l.Pairwise (· < ·) → (∀ x ∈ l.take (posF l a), x < a) ∧ (∀ x ∈ l.drop (posF l a), a ≤ x)
  | [], a, _ => by simp
  | x :: l, a, h => by
    have hp := List.pairwise_cons.1 h
    by_cases hx : x < a
    · have e : posF (x :: l) a = posF l a + 1 := by simp [posF, hx]
      obtain ⟨h1, h2⟩ := posF_split l a hp.2
      rw [e, List.take_succ_cons, List.drop_succ_cons]
      refine ⟨fun y hy => ?_, h2⟩
      rcases List.mem_cons.1 hy with rfl | hy
      · exact hx
      · exact h1 y hy
    · have e : posF (x :: l) a = 0 := by
        unfold posF
        rw [List.length_eq_zero_iff, List.filter_eq_nil_iff]
        intro y hy
        rcases List.mem_cons.1 hy with rfl | hy
        · simpa using hx
        · have := hp.1 y hy
          simp; omega
      rw [e, List.take_zero, List.drop_zero]
      refine ⟨fun y hy => by simp at hy, fun y hy => ?_⟩
      rcases List.mem_cons.1 hy with rfl | hy
      · omega
      · have := hp.1 y hy; omega
theorem insF_sorted {l : List Int} {a : Int} (h : l.Pairwise (· < ·)) (hn : a ∉ l) : (insF l a).Pairwise (· < ·) := by
  obtain ⟨h1, h2⟩ := posF_split l a h
  unfold insF
  have hs : (l.take (posF l a) ++ l.drop (posF l a)).Pairwise (· < ·) := by rw [List.take_append_drop]; exact h
  obtain ⟨p1, p2, p3⟩ := List.pairwise_append.1 hs
  refine List.pairwise_append.2 ⟨p1, List.pairwise_cons.2 ⟨fun x hx => ?_, p2⟩, fun x hx y hy => ?_⟩
  · have e1 := h2 x hx
    have e2 : a ≠ x := fun e => hn (e ▸ List.mem_of_mem_drop hx)
    omega
  · rcases List.mem_cons.1 hy with rfl | hy
    · exact h1 x hx
    · exact p3 x hx y hy
theorem delF_sorted {l : List Int} {a : Int} (h : l.Pairwise (· < ·)) : (delF l a).Pairwise (· < ·) := by
  unfold delF
  have : (l.take (posF l a) ++ l.drop (posF l a + 1)).Sublist l := by
    have e : l = l.take (posF l a) ++ l.drop (posF l a) := (List.take_append_drop ..).symm
    have hs : (l.drop (posF l a + 1)).Sublist (l.drop (posF l a)) := by
      rw [← List.drop_drop]
      exact List.drop_sublist ..
    conv => rhs; rw [e]
    exact (List.Sublist.refl _).append hs
  exact h.sublist this
theorem stepF_ok {o : Int} {st st' : List Int} {k a b r : Int} (h : stepF o st k a b = some (st', r)) (hs : okSt o st) : okSt o st' := by
  intro ho
  subst ho
  have hst := hs rfl
  unfold stepF at h
  simp [singleF] at h
  obtain ⟨_, h⟩ := h
  unfold setF at h
  split at h
  · rename_i hk
    injection h with h1 _
    subst h1
    exact insF_sorted hst hk.2
  · split at h
    · injection h with h1 _
      subst h1
      exact delF_sorted hst
    · injection h with h1 _
      subst h1
      exact hst
end Go.Proofs.YtgppljdfhhgkiaaGreatDoor
