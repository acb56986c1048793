/- serial: steps, as values. Nothing of the program. -/
import Derived.Test.YtgkmlnbnjbpodaaDoorSxA
namespace Go.Proofs.YtgkmlnbnjbpodaaDoor
open Go.RowKit
set_option linter.unusedVariables false
set_option linter.unusedSimpArgs false
structure St where
  tx : Int
  kind : Int
  key : Int
deriving DecidableEq
def stV (s : St) : List Value := [.int .i64 s.tx, .int .i64 s.kind, .int .i64 s.key]
def Sts (w : World) (D : Nat → Prop) (v : Value) (l : List St) : Prop := Rd w D 3 v l.length (l.flatMap stV)
theorem flat_st : ∀ (l : List St) (k : Nat), k < l.length → ∀ (j : Nat) u, (stV (l.getD k ⟨0, 0, 0⟩))[j]? = some u → (l.flatMap stV)[k * 3 + j]? = some u
  | [], k, h, _, _, _ => by simp at h
  | s :: l, k, h, j, u, hu => by
    rw [List.flatMap_cons]
    cases k with
    | zero =>
      have : j < (stV s).length := by have := (List.getElem?_eq_some_iff.1 hu).1; simpa using this
      rw [Nat.zero_mul, Nat.zero_add, List.getElem?_append_left this]
      simpa using hu
    | succ k =>
      have hl : (stV s).length = 3 := rfl
      rw [List.getElem?_append_right (by omega), hl, show (k + 1) * 3 + j - 3 = k * 3 + j by omega]
      exact flat_st l k (by simpa using h) j u (by simpa using hu)
theorem Sts.pure {w w' : World} {D : Nat → Prop} {v : Value} {l : List St} (h : Sts w D v l) (hp : Pure w w') : Sts w' D v l := Rd.pure h hp
theorem Sts.at {w : World} {D : Nat → Prop} {A : Option Addr} {n c : Nat} {l : List St} (h : Sts w D (.slice A n c) l) {k : Nat} (hk : k < l.length) : ∃ b o, A = some ⟨b, o, none⟩ ∧ w.cell? ⟨b, o + k * 3, none⟩ = some (.int .i64 (l.getD k ⟨0, 0, 0⟩).tx) ∧ w.cell? ⟨b, o + k * 3 + 1, none⟩ = some (.int .i64 (l.getD k ⟨0, 0, 0⟩).kind) ∧ w.cell? ⟨b, o + k * 3 + 2, none⟩ = some (.int .i64 (l.getD k ⟨0, 0, 0⟩).key) := by
  have hn : n = l.length := by
    obtain ⟨A', c', he, _⟩ := Rd.form h
    injection he
  subst hn
  obtain ⟨b, o, h1, _, _, c0⟩ := Rd.get h (flat_st l k hk 0 _ rfl) (by omega)
  obtain ⟨b1, o1, h2, _, _, c1⟩ := Rd.get h (flat_st l k hk 1 _ rfl) (by omega)
  obtain ⟨b2, o2, h3, _, _, c2⟩ := Rd.get h (flat_st l k hk 2 _ rfl) (by omega)
  rw [h1] at h2 h3
  injection h2 with h2; injection h2 with e1 e2; subst e1 e2
  injection h3 with h3; injection h3 with e1 e2; subst e1 e2
  exact ⟨b, o, h1, c0, by rw [← Nat.add_assoc] at c1; exact c1, by rw [← Nat.add_assoc] at c2; exact c2⟩
theorem Sts.len {w : World} {D : Nat → Prop} {A : Option Addr} {n c : Nat} {l : List St} (h : Sts w D (.slice A n c) l) : n = l.length ∧ n ≤ c ∧ c ≤ 9223372036854775807 := by
  obtain ⟨A', c', he, h1, h2⟩ := Rd.form h
  injection he with _ e2 e3
  subst e2 e3
  exact ⟨rfl, h1, h2⟩
end Go.Proofs.YtgkmlnbnjbpodaaDoor
