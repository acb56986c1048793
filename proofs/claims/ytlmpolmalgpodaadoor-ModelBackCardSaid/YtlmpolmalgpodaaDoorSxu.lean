/- Sx: scopes without jumps, labels, min. Nothing of the program. -/
import Derived.Test.YtlmpolmalgpodaaDoorSxt
import Derived.Scope
namespace Go.Proofs.YtlmpolmalgpodaaDoor
open Go
set_option linter.unusedVariables false
def noGotoQ (Q : XPost) : XPost
  | .goto _, _, _ => False
  | e, ρ, w => Q e ρ w
section
variable {P : Program} {N : Nat} {Q : XPost} {ρ : Env} {w : World} {o : Oper} {x y : Operand} {t t' : TypeId}
theorem W_scope {c : Code} (h : W P N c (noGotoQ Q) ρ w) : W P N (.scope c) Q ρ w := W_intro fun a ha => wp_scope_straight (wp_mono (by unfold W at h; exact h a ha) fun e a w q => by
  cases e with
  | normal => exact q
  | exit i => exact q
  | goto l => obtain ⟨ρ', h1, h2⟩ := q; exact h2.elim
  | ret => exact q
  | panic c => exact q
  | outgrown => exact q)
theorem W_label {l : Nat} (h : Q .normal ρ w) : W P N (.label l) Q ρ w := W_intro fun a ha => wp_label ⟨ρ, ha, h⟩
theorem rMin {a b : Int} (ho : o.op = .call { callee := .builtin .min, args := #[x, y], argTypes := #[t, t'] }) (hx : ev ρ x = .int .i64 a) (hy : ev ρ y = .int .i64 b) : Runs P ρ o w (.int .i64 (min a b)) := by
  have e : min a b = if b < a then b else a := by rw [Int.min_def]; split <;> split <;> omega
  rw [e]
  simp [Runs, execOp, ho, resolve, invoke, builtin, hx, hy, Builtin.min_, Builtin.min2]
theorem rDecN {a b : Nat} (ho : o.op = .binOp .sub t x y t') (hx : ev ρ x = .int .i64 (a : Int)) (hy : ev ρ y = .int .i64 (b : Int)) (hb : b ≤ a) (h : a ≤ 9223372036854775807) : Runs P ρ o w (.int .i64 ((a - b : Nat) : Int)) := by
  have := rSub (P := P) (w := w) ho hx hy (by omega)
  rwa [show (a : Int) - (b : Int) = ((a - b : Nat) : Int) by omega] at this
theorem min_ex {p : Nat → Prop} (h : ∃ n, p n) : ∃ n, p n ∧ ∀ m, m < n → ¬ p m := by
  obtain ⟨n, hn⟩ := h
  induction n using Nat.strongRecOn with
  | ind n ih =>
    by_cases hm : ∃ m, m < n ∧ p m
    · obtain ⟨m, h1, h2⟩ := hm; exact ih m h1 h2
    · exact ⟨n, hn, fun m h1 h2 => hm ⟨m, h1, h2⟩⟩
/-- A loop whose measure is told by the invariant. -/
theorem W_loopN {c : Code} (I : Nat → Env → World → Prop) (n0 : Nat) (h0 : I n0 ρ w)
    (h : ∀ n ρ w, I n ρ w → W P N c (thenQ (fun ρ' w' => ∃ m, m < n ∧ I m ρ' w') Q) ρ w) : W P N (.loop c) Q ρ w := by
  classical
  let μ : Env → World → Nat := fun ρ w => if hx : ∃ n, I n ρ w then Classical.choose (min_ex hx) else 0
  have hμ : ∀ ρ w, (∃ n, I n ρ w) → I (μ ρ w) ρ w ∧ ∀ m, I m ρ w → μ ρ w ≤ m := fun ρ w hx => by
    have hs := Classical.choose_spec (min_ex hx)
    have he : μ ρ w = Classical.choose (min_ex hx) := dif_pos hx
    rw [he]
    refine ⟨hs.1, fun m hm => ?_⟩
    rcases Nat.lt_or_ge m (Classical.choose (min_ex hx)) with h1 | h1
    · exact absurd hm (hs.2 m h1)
    · exact h1
  refine W_loop (fun ρ w => ∃ n, I n ρ w) μ ⟨n0, h0⟩ fun ρ w hI => ?_
  refine W_mono (h _ ρ w (hμ ρ w hI).1) fun e ρ' w' q => ?_
  cases e <;> first | exact q | (obtain ⟨m, h1, h2⟩ := q; exact ⟨⟨m, h2⟩, Nat.lt_of_le_of_lt ((hμ ρ' w' ⟨m, h2⟩).2 m h2) h1⟩)
end
theorem flatN {α : Type} {s : Nat} {f : α → List Value} (hf : ∀ a, (f a).length = s) : ∀ (xs : List α) (m : Nat) (a : α), xs[m]? = some a → ∀ j, j < s → (xs.flatMap f)[m * s + j]? = (f a)[j]?
  | [], m, a, h, _, _ => by simp at h
  | x :: xs, 0, a, h, j, hj => by
    simp at h; subst h
    rw [List.flatMap_cons, List.getElem?_append_left (by rw [hf]; omega), Nat.zero_mul, Nat.zero_add]
  | x :: xs, m + 1, a, h, j, hj => by
    rw [List.flatMap_cons, List.getElem?_append_right (by rw [hf, Nat.add_mul, Nat.one_mul]; omega), hf, show (m + 1) * s + j - s = m * s + j by rw [Nat.add_mul, Nat.one_mul]; omega]
    exact flatN hf xs m a (by simpa using h) j hj
theorem row_cellS {w : World} {base e n c b o i s : Nat} {xs : List Value} {u : Value} (h : w.ownsRow base e s (.slice (some ⟨b, o, none⟩) n c) n xs) (hi : xs[i]? = some u) (hn : 0 < n) : w.cell? ⟨b, o + i, none⟩ = some u := by
  obtain ⟨b', o', h1, _, _, h2⟩ := (Rd.of_own (D := fun _ => True) h (fun _ _ _ => trivial)).get hi hn
  injection h1 with h1
  injection h1 with h1 h3
  subst h1 h3
  exact h2
theorem row_addrS {w : World} {base e n c s : Nat} {A : Option Addr} {xs : List Value} (h : w.ownsRow base e s (.slice A n c) n xs) (hn : 0 < n) (hs : 0 < s) : ∃ b o, A = some ⟨b, o, none⟩ := by
  have hx : xs.length = n * s := h.1
  have : 0 < n * s := Nat.mul_pos hn hs
  obtain ⟨b', o', h1, _⟩ := (Rd.of_own (D := fun _ => True) h (fun _ _ _ => trivial)).get (List.getElem?_eq_getElem (show 0 < xs.length by omega)) hn
  exact ⟨b', o', h1⟩
end Go.Proofs.YtlmpolmalgpodaaDoor
