/- PkA: ModLaw, Mod1, Mod2, Mod3, Mod4, Mod5, ModLaw2, Mod6, merged. -/
import Derived.Test.YtglioflpblpmpaaGreatDoorBase
import Derived.Test.YtglioflpblpmpaaGreatDoorProg
import Derived.Test.YtglioflpblpmpaaGreatDoorSxB
import Derived.Test.YtglioflpblpmpaaGreatDoorShelf
namespace Go.Proofs.YtglioflpblpmpaaGreatDoor
set_option linter.unusedVariables false
set_option linter.unusedSimpArgs false
/-- Which calls an object has. -/
def knowsF (o k : Int) : Bool := (o == 1 && (k == 1 || k == 2 || k == 3)) || (o == 2 && (k == 4 || k == 5)) || (o == 3 && (k == 6 || k == 7 || k == 8)) || (o == 4 && (k == 9 || k == 10)) || (o == 5 && (k == 9 || k == 10)) || (o == 6 && (k == 11 || k == 12))
def singleF (o : Int) : Bool := o == 1 || o == 2 || o == 6
def startF (o : Int) : List Int := if singleF o then [0] else []
def oneF (b : Bool) : Int := if b then 1 else 0
def posF (l : List Int) (a : Int) : Nat := (l.filter (· < a)).length
def insF (l : List Int) (a : Int) : List Int := l.take (posF l a) ++ a :: l.drop (posF l a)
def delF (l : List Int) (a : Int) : List Int := l.take (posF l a) ++ l.drop (posF l a + 1)
def regF (n k a b : Int) : Int × Int := if k = 1 then (n, n) else if k = 2 then (a, 0) else if n = a then (b, 1) else (n, 0)
def setF (l : List Int) (k a : Int) : List Int × Int := if k = 6 ∧ a ∉ l then (insF l a, 1) else if k = 7 ∧ a ∈ l then (delF l a, 1) else (l, oneF (decide (k = 8 ∧ a ∈ l)))
def lineF (o : Int) (l : List Int) (k a : Int) : List Int × Int := if k = 9 then (l ++ [a], 0) else if l = [] then (l, -1) else if o = 4 then (l.drop 1, l.getD 0 0) else (l.take (l.length - 1), l.getD (l.length - 1) 0)
/-- What a call makes of a state, and what it tells; none: it may not be. -/
def stepF (o : Int) (st : List Int) (k a b : Int) : Option (List Int × Int) :=
  if knowsF o k = false ∨ (singleF o = true ∧ st.length ≠ 1) then none else
  if o = 1 then some ([(regF (st.getD 0 0) k a b).1], (regF (st.getD 0 0) k a b).2) else
  if o = 2 then some ([if k = 4 then IntKind.i64.wrap (st.getD 0 0 + a) else st.getD 0 0], if k = 4 then IntKind.i64.wrap (st.getD 0 0 + a) else st.getD 0 0) else
  if o = 3 then some (setF st k a) else
  if o = 6 then (if st.getD 0 0 = oneF (k == 12) then some ([oneF (k == 11)], 0) else none) else
  some (lineF o st k a)
/-- A state that can be: a set is in order. -/
def okSt (o : Int) (st : List Int) : Prop := o = 3 → st.Pairwise (· < ·)
theorem okSt_start (o : Int) : okSt o (startF o) := by
  intro h
  subst h
  simp [startF, singleF]
theorem posF_le (l : List Int) (a : Int) : posF l a ≤ l.length := List.length_filter_le ..
theorem posF_split : ∀ (l : List Int) (a : Int), l.Pairwise (· < ·) → (∀ x ∈ l.take (posF l a), x < a) ∧ (∀ x ∈ l.drop (posF l a), a ≤ x)
  | [], a, _ => by simp
  | x :: l, a, h => by
    have hp := List.pairwise_cons.1 h
    by_cases hx : x < a
    · have e : posF (x :: l) a = posF l a + 1 := by simp [posF, hx]
      obtain ⟨h1, h2⟩ := posF_split l a hp.2
      rw [e, List.take_succ_cons, List.drop_succ_cons]
      refine ⟨fun y hy => ?_, h2⟩
      rcases List.mem_cons.1 hy with rfl | hy
      · exact hx
      · exact h1 y hy
    · have e : posF (x :: l) a = 0 := by
        unfold posF
        rw [List.length_eq_zero_iff, List.filter_eq_nil_iff]
        intro y hy
        rcases List.mem_cons.1 hy with rfl | hy
        · simpa using hx
        · have := hp.1 y hy
          simp; omega
      rw [e, List.take_zero, List.drop_zero]
      refine ⟨fun y hy => by simp at hy, fun y hy => ?_⟩
      rcases List.mem_cons.1 hy with rfl | hy
      · omega
      · have := hp.1 y hy; omega
theorem insF_sorted {l : List Int} {a : Int} (h : l.Pairwise (· < ·)) (hn : a ∉ l) : (insF l a).Pairwise (· < ·) := by
  obtain ⟨h1, h2⟩ := posF_split l a h
  unfold insF
  have hs : (l.take (posF l a) ++ l.drop (posF l a)).Pairwise (· < ·) := by rw [List.take_append_drop]; exact h
  obtain ⟨p1, p2, p3⟩ := List.pairwise_append.1 hs
  refine List.pairwise_append.2 ⟨p1, List.pairwise_cons.2 ⟨fun x hx => ?_, p2⟩, fun x hx y hy => ?_⟩
  · have e1 := h2 x hx
    have e2 : a ≠ x := fun e => hn (e ▸ List.mem_of_mem_drop hx)
    omega
  · rcases List.mem_cons.1 hy with rfl | hy
    · exact h1 x hx
    · exact p3 x hx y hy
theorem delF_sorted {l : List Int} {a : Int} (h : l.Pairwise (· < ·)) : (delF l a).Pairwise (· < ·) := by
  unfold delF
  have : (l.take (posF l a) ++ l.drop (posF l a + 1)).Sublist l := by
    have e : l = l.take (posF l a) ++ l.drop (posF l a) := (List.take_append_drop ..).symm
    have hs : (l.drop (posF l a + 1)).Sublist (l.drop (posF l a)) := by
      rw [← List.drop_drop]
      exact List.drop_sublist ..
    conv => rhs; rw [e]
    exact (List.Sublist.refl _).append hs
  exact h.sublist this
theorem stepF_ok {o : Int} {st st' : List Int} {k a b r : Int} (h : stepF o st k a b = some (st', r)) (hs : okSt o st) : okSt o st' := by
  intro ho
  subst ho
  have hst := hs rfl
  unfold stepF at h
  simp [singleF] at h
  obtain ⟨_, h⟩ := h
  unfold setF at h
  split at h
  · rename_i hk
    injection h with h1 _
    subst h1
    exact insF_sorted hst hk.2
  · split at h
    · injection h with h1 _
      subst h1
      exact delF_sorted hst
    · injection h with h1 _
      subst h1
      exact hst
end Go.Proofs.YtglioflpblpmpaaGreatDoor
namespace Go.Proofs.YtglioflpblpmpaaGreatDoor
open Go.RowKit
set_option linter.unusedVariables false
set_option linter.unusedSimpArgs false
def knT : List Int := [0, 14, 48, 448, 1536, 1536, 6144]
abbrev KnOk (w : World) : Prop := ∀ i, i < 7 → w.cell? ⟨1, i, none⟩ = some (.int .i64 (knT.getD i 0))
theorem KnOk.pure {w w' : World} (h : KnOk w) (hp : Pure w w') : KnOk w' := fun i hi => ((Inv.start (fun _ => False) w).pure hp).oldp (h i hi)
theorem knows_in (o k : Int) (h1 : 1 ≤ o) (h2 : o ≤ 6) (h3 : 1 ≤ k) (h4 : k ≤ 12) : decide (IntKind.i64.wrap ((BitVec.ofInt 64 ((knT.getD o.toNat 0).fdiv (2 ^ min k.toNat 64)) &&& BitVec.ofInt 64 1).toNat : Int) = 1) = knowsF o k := by
  have ho : o = 1 ∨ o = 2 ∨ o = 3 ∨ o = 4 ∨ o = 5 ∨ o = 6 := by omega
  have hk : k = 1 ∨ k = 2 ∨ k = 3 ∨ k = 4 ∨ k = 5 ∨ k = 6 ∨ k = 7 ∨ k = 8 ∨ k = 9 ∨ k = 10 ∨ k = 11 ∨ k = 12 := by omega
  rcases ho with rfl | rfl | rfl | rfl | rfl | rfl <;> rcases hk with rfl | rfl | rfl | rfl | rfl | rfl | rfl | rfl | rfl | rfl | rfl | rfl <;> decide +kernel
theorem knows_out (o k : Int) (h : o < 1 ∨ 6 < o ∨ k < 1 ∨ 12 < k) : knowsF o k = false := by
  unfold knowsF
  have e : ∀ a b : Int, (a == b) = decide (a = b) := fun a b => rfl
  simp only [e]
  rcases h with h | h | h | h
  · rw [decide_eq_false (show o ≠ 1 by omega), decide_eq_false (show o ≠ 2 by omega), decide_eq_false (show o ≠ 3 by omega), decide_eq_false (show o ≠ 4 by omega), decide_eq_false (show o ≠ 5 by omega), decide_eq_false (show o ≠ 6 by omega)]; rfl
  · rw [decide_eq_false (show o ≠ 1 by omega), decide_eq_false (show o ≠ 2 by omega), decide_eq_false (show o ≠ 3 by omega), decide_eq_false (show o ≠ 4 by omega), decide_eq_false (show o ≠ 5 by omega), decide_eq_false (show o ≠ 6 by omega)]; rfl
  · rw [decide_eq_false (show k ≠ 1 by omega), decide_eq_false (show k ≠ 2 by omega), decide_eq_false (show k ≠ 3 by omega), decide_eq_false (show k ≠ 4 by omega), decide_eq_false (show k ≠ 5 by omega), decide_eq_false (show k ≠ 6 by omega), decide_eq_false (show k ≠ 7 by omega), decide_eq_false (show k ≠ 8 by omega), decide_eq_false (show k ≠ 9 by omega), decide_eq_false (show k ≠ 10 by omega), decide_eq_false (show k ≠ 11 by omega), decide_eq_false (show k ≠ 12 by omega)]; simp
  · rw [decide_eq_false (show k ≠ 1 by omega), decide_eq_false (show k ≠ 2 by omega), decide_eq_false (show k ≠ 3 by omega), decide_eq_false (show k ≠ 4 by omega), decide_eq_false (show k ≠ 5 by omega), decide_eq_false (show k ≠ 6 by omega), decide_eq_false (show k ≠ 7 by omega), decide_eq_false (show k ≠ 8 by omega), decide_eq_false (show k ≠ 9 by omega), decide_eq_false (show k ≠ 10 by omega), decide_eq_false (show k ≠ 11 by omega), decide_eq_false (show k ≠ 12 by omega)]; simp
set_option maxHeartbeats 2000000 in
theorem knows_any (o k : Int) (w0 : World) (hk : KnOk w0) : Calls Tryz.prog 57 #[.int .i64 o, .int .i64 k] w0 fun en w' => en = .returned (.bool (knowsF o k)) ∧ Pure w0 w' := by
  have hI := Inv.start (fun _ => False) w0
  refine calls_of_W (N := Tryz.f57.ntmps) Tryz.func57 rfl rfl rfl ?_
  refine W_seq ?_
  refine W_region ?_
  refine WL_val rfl rfl rfl (by exact rAsgnB rfl rfl) ?_
  refine WL_nil ?_
  by_cases h1 : o < 1
  · refine W_seq ?_
    refine W_region ?_
    refine WL_val rfl rfl rfl (by exact rMoveI rfl rfl) ?_
    refine WL_val rfl rfl rfl (by exact rGeqF rfl rfl rfl (by omega)) ?_
    refine WL_val rfl rfl rfl (by exact rMoveB rfl rfl) ?_
    refine WL_skip rfl rfl rfl ?_
    refine WL_skip rfl rfl rfl ?_
    refine WL_val rfl rfl rfl (by exact rPickFB rfl rfl rfl) ?_
    refine WL_val rfl rfl rfl (by exact rMoveB rfl rfl) ?_
    refine WL_skip rfl rfl rfl ?_
    refine WL_skip rfl rfl rfl ?_
    refine WL_val rfl rfl rfl (by exact rPickFB rfl rfl rfl) ?_
    refine WL_val rfl rfl rfl (by exact rMoveB rfl rfl) ?_
    refine WL_skip rfl rfl rfl ?_
    refine WL_skip rfl rfl rfl ?_
    refine WL_val rfl rfl rfl (by exact rPickFB rfl rfl rfl) ?_
    refine WL_val rfl rfl rfl (by exact rMoveB rfl rfl) ?_
    refine WL_skip rfl rfl rfl ?_
    refine WL_skip rfl rfl rfl ?_
    refine WL_skip rfl rfl rfl ?_
    refine WL_skip rfl rfl rfl ?_
    refine WL_skip rfl rfl rfl ?_
    refine WL_skip rfl rfl rfl ?_
    refine WL_skip rfl rfl rfl ?_
    refine WL_val rfl rfl rfl (by exact rPickFB rfl rfl rfl) ?_
    refine WL_val rfl rfl rfl (by exact rAsgnB rfl rfl) ?_
    refine WL_nil ?_
    refine W_ret ?_
    exact ret1 4 (.inr rfl) rfl ⟨by rw [knows_out o k (by omega)]; rfl, hI.pu⟩
  by_cases h2 : 6 < o
  · refine W_seq ?_
    refine W_region ?_
    refine WL_val rfl rfl rfl (by exact rMoveI rfl rfl) ?_
    refine WL_val rfl rfl rfl (by exact rGeqT rfl rfl rfl (by omega)) ?_
    refine WL_val rfl rfl rfl (by exact rMoveB rfl rfl) ?_
    refine WL_val rfl rfl rfl (by exact rMoveI rfl rfl) ?_
    refine WL_val rfl rfl rfl (by exact rLeqF rfl rfl rfl (by omega)) ?_
    refine WL_val rfl rfl rfl (by exact rPickTB rfl rfl rfl) ?_
    refine WL_val rfl rfl rfl (by exact rMoveB rfl rfl) ?_
    refine WL_skip rfl rfl rfl ?_
    refine WL_skip rfl rfl rfl ?_
    refine WL_val rfl rfl rfl (by exact rPickFB rfl rfl rfl) ?_
    refine WL_val rfl rfl rfl (by exact rMoveB rfl rfl) ?_
    refine WL_skip rfl rfl rfl ?_
    refine WL_skip rfl rfl rfl ?_
    refine WL_val rfl rfl rfl (by exact rPickFB rfl rfl rfl) ?_
    refine WL_val rfl rfl rfl (by exact rMoveB rfl rfl) ?_
    refine WL_skip rfl rfl rfl ?_
    refine WL_skip rfl rfl rfl ?_
    refine WL_skip rfl rfl rfl ?_
    refine WL_skip rfl rfl rfl ?_
    refine WL_skip rfl rfl rfl ?_
    refine WL_skip rfl rfl rfl ?_
    refine WL_skip rfl rfl rfl ?_
    refine WL_val rfl rfl rfl (by exact rPickFB rfl rfl rfl) ?_
    refine WL_val rfl rfl rfl (by exact rAsgnB rfl rfl) ?_
    refine WL_nil ?_
    refine W_ret ?_
    exact ret1 4 (.inr rfl) rfl ⟨by rw [knows_out o k (by omega)]; rfl, hI.pu⟩
  by_cases h3 : k < 1
  · refine W_seq ?_
    refine W_region ?_
    refine WL_val rfl rfl rfl (by exact rMoveI rfl rfl) ?_
    refine WL_val rfl rfl rfl (by exact rGeqT rfl rfl rfl (by omega)) ?_
    refine WL_val rfl rfl rfl (by exact rMoveB rfl rfl) ?_
    refine WL_val rfl rfl rfl (by exact rMoveI rfl rfl) ?_
    refine WL_val rfl rfl rfl (by exact rLeqT rfl rfl rfl (by omega)) ?_
    refine WL_val rfl rfl rfl (by exact rPickTB rfl rfl rfl) ?_
    refine WL_val rfl rfl rfl (by exact rMoveB rfl rfl) ?_
    refine WL_val rfl rfl rfl (by exact rMoveI rfl rfl) ?_
    refine WL_val rfl rfl rfl (by exact rGeqF rfl rfl rfl (by omega)) ?_
    refine WL_val rfl rfl rfl (by exact rPickTB rfl rfl rfl) ?_
    refine WL_val rfl rfl rfl (by exact rMoveB rfl rfl) ?_
    refine WL_skip rfl rfl rfl ?_
    refine WL_skip rfl rfl rfl ?_
    refine WL_val rfl rfl rfl (by exact rPickFB rfl rfl rfl) ?_
    refine WL_val rfl rfl rfl (by exact rMoveB rfl rfl) ?_
    refine WL_skip rfl rfl rfl ?_
    refine WL_skip rfl rfl rfl ?_
    refine WL_skip rfl rfl rfl ?_
    refine WL_skip rfl rfl rfl ?_
    refine WL_skip rfl rfl rfl ?_
    refine WL_skip rfl rfl rfl ?_
    refine WL_skip rfl rfl rfl ?_
    refine WL_val rfl rfl rfl (by exact rPickFB rfl rfl rfl) ?_
    refine WL_val rfl rfl rfl (by exact rAsgnB rfl rfl) ?_
    refine WL_nil ?_
    refine W_ret ?_
    exact ret1 4 (.inr rfl) rfl ⟨by rw [knows_out o k (by omega)]; rfl, hI.pu⟩
  by_cases h4 : 12 < k
  · refine W_seq ?_
    refine W_region ?_
    refine WL_val rfl rfl rfl (by exact rMoveI rfl rfl) ?_
    refine WL_val rfl rfl rfl (by exact rGeqT rfl rfl rfl (by omega)) ?_
    refine WL_val rfl rfl rfl (by exact rMoveB rfl rfl) ?_
    refine WL_val rfl rfl rfl (by exact rMoveI rfl rfl) ?_
    refine WL_val rfl rfl rfl (by exact rLeqT rfl rfl rfl (by omega)) ?_
    refine WL_val rfl rfl rfl (by exact rPickTB rfl rfl rfl) ?_
    refine WL_val rfl rfl rfl (by exact rMoveB rfl rfl) ?_
    refine WL_val rfl rfl rfl (by exact rMoveI rfl rfl) ?_
    refine WL_val rfl rfl rfl (by exact rGeqT rfl rfl rfl (by omega)) ?_
    refine WL_val rfl rfl rfl (by exact rPickTB rfl rfl rfl) ?_
    refine WL_val rfl rfl rfl (by exact rMoveB rfl rfl) ?_
    refine WL_val rfl rfl rfl (by exact rMoveI rfl rfl) ?_
    refine WL_val rfl rfl rfl (by exact rLeqF rfl rfl rfl (by omega)) ?_
    refine WL_val rfl rfl rfl (by exact rPickTB rfl rfl rfl) ?_
    refine WL_val rfl rfl rfl (by exact rMoveB rfl rfl) ?_
    refine WL_skip rfl rfl rfl ?_
    refine WL_skip rfl rfl rfl ?_
    refine WL_skip rfl rfl rfl ?_
    refine WL_skip rfl rfl rfl ?_
    refine WL_skip rfl rfl rfl ?_
    refine WL_skip rfl rfl rfl ?_
    refine WL_skip rfl rfl rfl ?_
    refine WL_val rfl rfl rfl (by exact rPickFB rfl rfl rfl) ?_
    refine WL_val rfl rfl rfl (by exact rAsgnB rfl rfl) ?_
    refine WL_nil ?_
    refine W_ret ?_
    exact ret1 4 (.inr rfl) rfl ⟨by rw [knows_out o k (by omega)]; rfl, hI.pu⟩
  have hc : w0.cell? ⟨1, 0 + o.toNat * 1, none⟩ = some (.int .i64 (knT.getD o.toNat 0)) := by
    rw [Nat.zero_add, Nat.mul_one]; exact hk o.toNat (by omega)
  refine W_seq ?_
  refine W_region ?_
  refine WL_val rfl rfl rfl (by exact rMoveI rfl rfl) ?_
  refine WL_val rfl rfl rfl (by exact rGeqT rfl rfl rfl (by omega)) ?_
  refine WL_val rfl rfl rfl (by exact rMoveB rfl rfl) ?_
  refine WL_val rfl rfl rfl (by exact rMoveI rfl rfl) ?_
  refine WL_val rfl rfl rfl (by exact rLeqT rfl rfl rfl (by omega)) ?_
  refine WL_val rfl rfl rfl (by exact rPickTB rfl rfl rfl) ?_
  refine WL_val rfl rfl rfl (by exact rMoveB rfl rfl) ?_
  refine WL_val rfl rfl rfl (by exact rMoveI rfl rfl) ?_
  refine WL_val rfl rfl rfl (by exact rGeqT rfl rfl rfl (by omega)) ?_
  refine WL_val rfl rfl rfl (by exact rPickTB rfl rfl rfl) ?_
  refine WL_val rfl rfl rfl (by exact rMoveB rfl rfl) ?_
  refine WL_val rfl rfl rfl (by exact rMoveI rfl rfl) ?_
  refine WL_val rfl rfl rfl (by exact rLeqT rfl rfl rfl (by omega)) ?_
  refine WL_val rfl rfl rfl (by exact rPickTB rfl rfl rfl) ?_
  refine WL_val rfl rfl rfl (by exact rMoveB rfl rfl) ?_
  refine WL_val rfl rfl rfl (by exact rMoveI rfl rfl) ?_
  refine WL_val rfl rfl rfl (rIdxArr (sz := 1) (i := o.toNat) rfl Tryz.underlying149 (by kernel_rfl) rfl rfl (by omega) (by omega)) ?_
  refine WL_val rfl rfl rfl (by exact rLd (v := .int .i64 _) rfl (by kernel_rfl) rfl (by exact hI.oldp hc)) ?_
  refine WL_val rfl rfl rfl (by exact rMoveI rfl rfl) ?_
  refine WL_val rfl rfl rfl (rShrW rfl rfl rfl (by omega)) ?_
  refine WL_val rfl rfl rfl (rBits (r := fun p q => p &&& q) rfl rfl rfl rfl) ?_
  refine WL_val rfl rfl rfl (by exact rEql rfl rfl rfl) ?_
  refine WL_val rfl rfl rfl (by exact rPickTB rfl rfl rfl) ?_
  refine WL_val rfl rfl rfl (by exact rAsgnB rfl rfl) ?_
  refine WL_nil ?_
  refine W_ret ?_
  refine ret1 4 (.inr rfl) rfl ⟨?_, hI.pu⟩
  rw [← knows_in o k (by omega) (by omega) (by omega) (by omega)]
  rfl
set_option maxHeartbeats 1000000 in
theorem single_any (o : Int) (w0 : World) : Calls Tryz.prog 58 #[.int .i64 o] w0 fun en w' => en = .returned (.bool (singleF o)) ∧ Pure w0 w' := by
  have hI := Inv.start (fun _ => False) w0
  refine calls_of_W (N := Tryz.f58.ntmps) Tryz.func58 rfl rfl rfl ?_
  refine W_seq ?_
  refine W_region ?_
  refine WL_val rfl rfl rfl (by exact rAsgnB rfl rfl) ?_
  refine WL_nil ?_
  by_cases h1 : o = 1
  · subst h1
    refine W_seq ?_
    refine W_region ?_
    refine WL_val rfl rfl rfl (by exact rMoveI rfl rfl) ?_
    refine WL_val rfl rfl rfl (by exact rEqlT rfl rfl rfl (by omega)) ?_
    refine WL_val rfl rfl rfl (by exact rMoveB rfl rfl) ?_
    refine WL_skip rfl rfl rfl ?_
    refine WL_skip rfl rfl rfl ?_
    refine WL_val rfl rfl rfl (by exact rPickTB rfl rfl rfl) ?_
    refine WL_val rfl rfl rfl (by exact rMoveB rfl rfl) ?_
    refine WL_skip rfl rfl rfl ?_
    refine WL_skip rfl rfl rfl ?_
    refine WL_val rfl rfl rfl (by exact rPickTB rfl rfl rfl) ?_
    refine WL_val rfl rfl rfl (by exact rAsgnB rfl rfl) ?_
    refine WL_nil ?_
    refine W_ret ?_
    exact ret1 2 (.inr rfl) rfl ⟨rfl, hI.pu⟩
  by_cases h2 : o = 2
  · subst h2
    refine W_seq ?_
    refine W_region ?_
    refine WL_val rfl rfl rfl (by exact rMoveI rfl rfl) ?_
    refine WL_val rfl rfl rfl (by exact rEqlF rfl rfl rfl (by omega)) ?_
    refine WL_val rfl rfl rfl (by exact rMoveB rfl rfl) ?_
    refine WL_val rfl rfl rfl (by exact rMoveI rfl rfl) ?_
    refine WL_val rfl rfl rfl (by exact rEqlT rfl rfl rfl (by omega)) ?_
    refine WL_val rfl rfl rfl (by exact rPickFB rfl rfl rfl) ?_
    refine WL_val rfl rfl rfl (by exact rMoveB rfl rfl) ?_
    refine WL_skip rfl rfl rfl ?_
    refine WL_skip rfl rfl rfl ?_
    refine WL_val rfl rfl rfl (by exact rPickTB rfl rfl rfl) ?_
    refine WL_val rfl rfl rfl (by exact rAsgnB rfl rfl) ?_
    refine WL_nil ?_
    refine W_ret ?_
    exact ret1 2 (.inr rfl) rfl ⟨rfl, hI.pu⟩
  have e : singleF o = decide (o = 6) := by
    unfold singleF
    have e : ∀ a b : Int, (a == b) = decide (a = b) := fun a b => rfl
    simp only [e]
    rw [decide_eq_false h1, decide_eq_false h2]; rfl
  by_cases h6 : o = 6
  · refine W_seq ?_
    refine W_region ?_
    refine WL_val rfl rfl rfl (by exact rMoveI rfl rfl) ?_
    refine WL_val rfl rfl rfl (by exact rEqlF rfl rfl rfl (by omega)) ?_
    refine WL_val rfl rfl rfl (by exact rMoveB rfl rfl) ?_
    refine WL_val rfl rfl rfl (by exact rMoveI rfl rfl) ?_
    refine WL_val rfl rfl rfl (by exact rEqlF rfl rfl rfl (by omega)) ?_
    refine WL_val rfl rfl rfl (by exact rPickFB rfl rfl rfl) ?_
    refine WL_val rfl rfl rfl (by exact rMoveB rfl rfl) ?_
    refine WL_val rfl rfl rfl (by exact rMoveI rfl rfl) ?_
    refine WL_val rfl rfl rfl (by exact rEqlT rfl rfl rfl (by omega)) ?_
    refine WL_val rfl rfl rfl (by exact rPickFB rfl rfl rfl) ?_
    refine WL_val rfl rfl rfl (by exact rAsgnB rfl rfl) ?_
    refine WL_nil ?_
    refine W_ret ?_
    exact ret1 2 (.inr rfl) rfl ⟨by rw [e, decide_eq_true h6]; rfl, hI.pu⟩
  · refine W_seq ?_
    refine W_region ?_
    refine WL_val rfl rfl rfl (by exact rMoveI rfl rfl) ?_
    refine WL_val rfl rfl rfl (by exact rEqlF rfl rfl rfl (by omega)) ?_
    refine WL_val rfl rfl rfl (by exact rMoveB rfl rfl) ?_
    refine WL_val rfl rfl rfl (by exact rMoveI rfl rfl) ?_
    refine WL_val rfl rfl rfl (by exact rEqlF rfl rfl rfl (by omega)) ?_
    refine WL_val rfl rfl rfl (by exact rPickFB rfl rfl rfl) ?_
    refine WL_val rfl rfl rfl (by exact rMoveB rfl rfl) ?_
    refine WL_val rfl rfl rfl (by exact rMoveI rfl rfl) ?_
    refine WL_val rfl rfl rfl (by exact rEqlF rfl rfl rfl (by omega)) ?_
    refine WL_val rfl rfl rfl (by exact rPickFB rfl rfl rfl) ?_
    refine WL_val rfl rfl rfl (by exact rAsgnB rfl rfl) ?_
    refine WL_nil ?_
    refine W_ret ?_
    exact ret1 2 (.inr rfl) rfl ⟨by rw [e, decide_eq_false h6]; rfl, hI.pu⟩
theorem one_any (b : Bool) (w0 : World) : Calls Tryz.prog 80 #[.bool b] w0 fun en w' => en = .returned (.int .i64 (oneF b)) ∧ Pure w0 w' := by
  have hI := Inv.start (fun _ => False) w0
  refine calls_of_W (N := Tryz.f80.ntmps) Tryz.func80 rfl rfl rfl ?_
  refine W_seq ?_
  refine W_region ?_
  refine WL_val rfl rfl rfl (by exact rAsgnI rfl rfl) ?_
  refine WL_nil ?_
  refine W_seq ?_
  refine W_seq ?_
  refine W_region ?_
  refine WL_val rfl rfl rfl (by exact rMoveB rfl rfl) ?_
  refine WL_nil ?_
  cases b with
  | true =>
    refine W_cond true rfl ?_
    refine W_seq ?_
    refine W_region ?_
    refine WL_val rfl rfl rfl (by exact rAsgnI rfl rfl) ?_
    refine WL_nil ?_
    refine W_ret ?_
    exact ret1 2 (.inr rfl) rfl ⟨rfl, hI.pu⟩
  | false =>
    refine W_cond false rfl ?_
    refine W_skip ?_
    refine W_seq ?_
    refine W_region ?_
    refine WL_val rfl rfl rfl (by exact rAsgnI rfl rfl) ?_
    refine WL_nil ?_
    refine W_ret ?_
    exact ret1 2 (.inr rfl) rfl ⟨rfl, hI.pu⟩
set_option maxHeartbeats 1000000 in
theorem register_any (n k a b : Int) (w0 : World) : Calls Tryz.prog 77 #[.int .i64 n, .int .i64 k, .int .i64 a, .int .i64 b] w0 fun en w' => en = .returned (.tuple #[.int .i64 (regF n k a b).1, .int .i64 (regF n k a b).2]) ∧ Pure w0 w' := by
  have hI := Inv.start (fun _ => False) w0
  refine calls_of_W (N := Tryz.f77.ntmps) Tryz.func77 rfl rfl rfl ?_
  refine W_seq ?_
  refine W_region ?_
  refine WL_val rfl rfl rfl (by exact rAsgnI rfl rfl) ?_
  refine WL_val rfl rfl rfl (by exact rAsgnI rfl rfl) ?_
  refine WL_nil ?_
  refine W_seq ?_
  refine W_block ?_
  by_cases h1 : k = 1
  · refine W_seq ?_
    refine W_region ?_
    refine WL_val rfl rfl rfl (by exact rMoveI rfl rfl) ?_
    refine WL_val rfl rfl rfl (by exact rEqlT rfl rfl rfl (by omega)) ?_
    refine WL_val rfl rfl rfl (by exact rAsgnB rfl rfl) ?_
    refine WL_nil ?_
    refine W_cond true rfl ?_
    refine W_seq ?_
    refine W_region ?_
    refine WL_val rfl rfl rfl (by exact rMoveI rfl rfl) ?_
    refine WL_val rfl rfl rfl (by exact rMoveI rfl rfl) ?_
    refine WL_val rfl rfl rfl (by exact rAsgnI rfl rfl) ?_
    refine WL_val rfl rfl rfl (by exact rAsgnI rfl rfl) ?_
    refine WL_nil ?_
    refine W_ret ?_
    exact ret2 8 9 (.inr rfl) rfl ⟨by unfold regF; rw [if_pos h1]; rfl, hI.pu⟩
  refine W_seq ?_
  refine W_region ?_
  refine WL_val rfl rfl rfl (by exact rMoveI rfl rfl) ?_
  refine WL_val rfl rfl rfl (by exact rEqlF rfl rfl rfl (by omega)) ?_
  refine WL_val rfl rfl rfl (by exact rAsgnB rfl rfl) ?_
  refine WL_nil ?_
  refine W_cond false rfl ?_
  by_cases h2 : k = 2
  · refine W_seq ?_
    refine W_region ?_
    refine WL_val rfl rfl rfl (by exact rMoveI rfl rfl) ?_
    refine WL_val rfl rfl rfl (by exact rEqlT rfl rfl rfl (by omega)) ?_
    refine WL_val rfl rfl rfl (by exact rAsgnB rfl rfl) ?_
    refine WL_nil ?_
    refine W_cond true rfl ?_
    refine W_seq ?_
    refine W_region ?_
    refine WL_val rfl rfl rfl (by exact rMoveI rfl rfl) ?_
    refine WL_val rfl rfl rfl (by exact rAsgnI rfl rfl) ?_
    refine WL_val rfl rfl rfl (by exact rAsgnI rfl rfl) ?_
    refine WL_nil ?_
    refine W_ret ?_
    exact ret2 8 9 (.inr rfl) rfl ⟨by unfold regF; rw [if_neg h1, if_pos h2]; rfl, hI.pu⟩
  refine W_seq ?_
  refine W_region ?_
  refine WL_val rfl rfl rfl (by exact rMoveI rfl rfl) ?_
  refine WL_val rfl rfl rfl (by exact rEqlF rfl rfl rfl (by omega)) ?_
  refine WL_val rfl rfl rfl (by exact rAsgnB rfl rfl) ?_
  refine WL_nil ?_
  refine W_cond false rfl ?_
  by_cases h3 : n = a
  · refine W_seq ?_
    refine W_region ?_
    refine WL_val rfl rfl rfl (by exact rMoveI rfl rfl) ?_
    refine WL_val rfl rfl rfl (by exact rMoveI rfl rfl) ?_
    refine WL_val rfl rfl rfl (by exact rEqlT rfl rfl rfl (by omega)) ?_
    refine WL_val rfl rfl rfl (by exact rAsgnB rfl rfl) ?_
    refine WL_nil ?_
    refine W_cond true rfl ?_
    refine W_seq ?_
    refine W_region ?_
    refine WL_val rfl rfl rfl (by exact rMoveI rfl rfl) ?_
    refine WL_val rfl rfl rfl (by exact rAsgnI rfl rfl) ?_
    refine WL_val rfl rfl rfl (by exact rAsgnI rfl rfl) ?_
    refine WL_nil ?_
    refine W_ret ?_
    exact ret2 8 9 (.inr rfl) rfl ⟨by unfold regF; rw [if_neg h1, if_neg h2, if_pos h3]; rfl, hI.pu⟩
  refine W_seq ?_
  refine W_region ?_
  refine WL_val rfl rfl rfl (by exact rMoveI rfl rfl) ?_
  refine WL_val rfl rfl rfl (by exact rMoveI rfl rfl) ?_
  refine WL_val rfl rfl rfl (by exact rEqlF rfl rfl rfl (by omega)) ?_
  refine WL_val rfl rfl rfl (by exact rAsgnB rfl rfl) ?_
  refine WL_nil ?_
  refine W_cond false rfl ?_
  refine W_skip ?_
  refine W_seq ?_
  refine W_region ?_
  refine WL_val rfl rfl rfl (by exact rMoveI rfl rfl) ?_
  refine WL_val rfl rfl rfl (by exact rAsgnI rfl rfl) ?_
  refine WL_val rfl rfl rfl (by exact rAsgnI rfl rfl) ?_
  refine WL_nil ?_
  refine W_ret ?_
  exact ret2 8 9 (.inr rfl) rfl ⟨by unfold regF; rw [if_neg h1, if_neg h2, if_neg h3]; rfl, hI.pu⟩
/-- A state in memory of its own. -/
abbrev StE (A : Option Addr) (c : Nat) (st : List Int) : Ent := Row 0 3 1 A st.length c (i64s st)
theorem start_any (o : Int) (w0 : World) : Calls Tryz.prog 37 #[.int .i64 o] w0 fun en w' => ∃ A c, en = .returned (.slice A (startF o).length c) ∧ Inv (fun _ => False) w0 w' [StE A c (startF o)] := by
  have hI := Inv.start (fun _ => False) w0
  refine calls_of_W (N := Tryz.f37.ntmps) Tryz.func37 rfl rfl rfl ?_
  refine W_seq ?_
  refine W_region ?_
  refine WL_val rfl rfl rfl (by exact rAsgnS rfl rfl) ?_
  refine WL_nil ?_
  refine W_seq ?_
  refine W_seq ?_
  refine W_region ?_
  refine WL_val rfl rfl rfl (by exact rMoveI rfl rfl) ?_
  refine WL_call rfl rfl rfl (rCall (vs := [.int .i64 _]) rfl Tryz.func58 rfl rfl rfl) ?_
  refine (single_any o _).mono ?_
  rintro e w1 ⟨rfl, hp⟩
  refine ⟨_, rfl, ?_⟩
  replace hI := hI.pure hp
  refine WL_nil ?_
  cases hs : singleF o with
  | true =>
    have e : startF o = [0] := by unfold startF; rw [hs]; rfl
    refine W_cond true rfl ?_
    refine W_seq ?_
    refine W_region ?_
    refine WL_lit (vs := [_]) (qs := [(0, .int .i64 _)]) [.int .i64 0] [0] hI rfl rfl rfl rfl rfl rfl Tryz.underlying37 (fun _ => by kernel_rfl) ?_
    clear hI; rintro b5 w - - hI
    refine WL_val rfl rfl rfl (by exact rAsgnS rfl rfl) ?_
    refine WL_nil ?_
    refine W_ret ?_
    refine ret1 2 (.inr rfl) rfl ⟨some ⟨b5, 0, none⟩, 1, by rw [e]; rfl, ?_⟩
    rw [e]
    have hb := hI.g0
    exact hI.u0 (e' := StE (some ⟨b5, 0, none⟩) 1 [0]) (Chg.refl _ _) (Row.of_blk hb (Nat.zero_le _) rfl (by decide)) (fun k hk => .inl (by have : some b5 = some k := hk; injection this with this; exact this.symm))
  | false =>
    have e : startF o = [] := by unfold startF; rw [hs]; rfl
    refine W_cond false rfl ?_
    refine W_skip ?_
    refine W_seq ?_
    refine W_region ?_
    refine WL_val rfl rfl rfl (by exact rAsgnS rfl rfl) ?_
    refine WL_nil ?_
    refine W_ret ?_
    refine ret1 2 (.inr rfl) rfl ⟨none, 0, by rw [e]; rfl, ?_⟩
    rw [e]
    exact hI.fresh (Pure.refl _) (Row.nil _ 0 3 1) (fun k hk => by simp [Row] at hk)
end Go.Proofs.YtglioflpblpmpaaGreatDoor
namespace Go.Proofs.YtglioflpblpmpaaGreatDoor
open Go.RowKit
set_option linter.unusedVariables false
set_option linter.unusedSimpArgs false
section
variable {S : Nat → Prop} {w0 w w' : World} {H H' : List Ent} {e e' : Ent}
theorem Inv.ownE (h : e.ok w) : Inv e.D w w [e] :=
  ⟨Chg.refl _ w, fun x hx => by rcases List.mem_singleton.1 hx with rfl; exact h, fun x hx k hk => by rcases List.mem_singleton.1 hx with rfl; exact .inl hk, List.pairwise_singleton ..⟩
theorem Inv.one (hc : Chg e.D w w') (ho : e'.ok w') (hD : ∀ k, e'.D k → e.D k ∨ w.heap.size ≤ k) : Inv e.D w w' [e'] :=
  ⟨hc, fun x hx => by rcases List.mem_singleton.1 hx with rfl; exact ho, fun x hx k hk => by rcases List.mem_singleton.1 hx with rfl; exact hD k hk, List.pairwise_singleton ..⟩
/-- Behind a call that was handed a part. -/
theorem Inv.turn (h : Inv S w0 w (e :: H)) (h' : Inv e.D w w' H') : Inv S w0 w' (H' ++ H) := by
  have he := h.ok e (by simp)
  have hp := List.pairwise_cons.1 h.apart
  refine ⟨h.chg.trans' h'.chg fun k hk1 hk2 => ?_, fun x hx => ?_, fun x hx k hk => ?_, List.pairwise_append.2 ⟨h'.apart, hp.2, fun a ha b hb k h1 h2 => ?_⟩⟩
  · rcases h.own e (by simp) k hk2 with h1 | h1
    · exact h1
    · omega
  · rcases List.mem_append.1 hx with hx | hx
    · exact h'.ok x hx
    · exact (h.ok x (by simp [hx])).chg h'.chg (fun k hk hk2 => hp.1 x hx k hk2 hk)
  · rcases List.mem_append.1 hx with hx | hx
    · rcases h'.own x hx k hk with h1 | h1
      · exact h.own e (by simp) k h1
      · exact .inr (Nat.le_trans h.chg.size h1)
    · exact h.own x (by simp [hx]) k hk
  · rcases h'.own a ha k h1 with h3 | h3
    · exact hp.1 b hb k h3 h2
    · have := (h.ok b (by simp [hb])).2.1 k h2
      omega
theorem Inv.turn1 {a : Ent} (h : Inv S w0 w (e :: H)) (h' : Inv e.D w w' [a]) : Inv S w0 w' (a :: H) := h.turn h'
end
theorem row_open {w : World} {e n c : Nat} {A : Option Addr} {xs : List Value} (h : w.ownsRow 0 e 1 (.slice A n c) n xs) : (A = none ∧ n = 0 ∧ c = 0 ∧ xs = []) ∨ ∃ g cur, A = some ⟨g, 0, none⟩ ∧ Blk w g e cur ∧ n ≤ c ∧ c ≤ 9223372036854775807 ∧ cur.size = c ∧ cur.toList.take n = xs := by
  obtain ⟨hl, ⟨hv, hn⟩ | ⟨g, cap, cur, hv, _, hb, h1, h2, h3, h4⟩⟩ := h
  · injection hv with e1 e2 e3
    subst e1 e3 hn
    exact .inl ⟨rfl, rfl, rfl, List.eq_nil_of_length_eq_zero (by simpa using hl)⟩
  · injection hv with e1 e2 e3
    subst e1 e3
    exact .inr ⟨g, cur, rfl, hb, h1, by simpa [maxLen] using h2, by omega, by simpa using h4⟩
theorem row_close {w : World} {e g n c : Nat} {cur : Array Value} {xs : List Value} (hb : Blk w g e cur) (h1 : n ≤ c) (h2 : c ≤ 9223372036854775807) (h3 : cur.size = c) (h4 : cur.toList.take n = xs) : (Row 0 e 1 (some ⟨g, 0, none⟩) n c xs).ok w :=
  Row.ok ⟨by rw [← h4]; simp; omega, .inr ⟨g, c, cur, rfl, Nat.zero_le _, hb, h1, by simpa [maxLen] using h2, by omega, by simpa using h4⟩⟩
theorem ins_get {α : Type} (xs : List α) (i : Nat) (v : α) (hi : i ≤ xs.length) (j : Nat) : (xs.take i ++ v :: xs.drop i)[j]? = if j < i then xs[j]? else if j = i then some v else xs[j - 1]? := by
  have hl : (xs.take i).length = i := by simp; omega
  by_cases h1 : j < i
  · rw [if_pos h1, List.getElem?_append_left (by omega), List.getElem?_take_of_lt h1]
  · rw [if_neg h1, List.getElem?_append_right (by omega), hl]
    by_cases h2 : j = i
    · rw [if_pos h2, h2, Nat.sub_self, List.getElem?_cons_zero]
    · rw [if_neg h2, show j - i = (j - i - 1) + 1 by omega, List.getElem?_cons_succ, List.getElem?_drop, show i + (j - i - 1) = j - 1 by omega]
theorem take_of_get {cur : Array Value} {n : Nat} {ys : List Value} (hy : ys.length = n) (h : ∀ j, j < n → cur[j]? = ys[j]?) : cur.toList.take n = ys := by
  refine List.ext_getElem? fun j => ?_
  by_cases hj : j < n
  · rw [List.getElem?_take_of_lt hj, Array.getElem?_toList, h j hj]
  · rw [List.getElem?_eq_none (by simp; omega), List.getElem?_eq_none (by omega)]
theorem get_of_take {cur : Array Value} {n : Nat} {xs : List Value} (h : cur.toList.take n = xs) {j : Nat} (hj : j < n) : cur[j]? = xs[j]? := by
  rw [← h, List.getElem?_take_of_lt hj, Array.getElem?_toList]
theorem one_i64s (l : List Int) : ∀ v ∈ i64s l, v.oneCell' = true := by
  intro v hv
  obtain ⟨z, _, rfl⟩ := List.mem_map.1 hv
  rfl
theorem i64s_ins (l : List Int) (i : Nat) (a : Int) : i64s (l.take i ++ a :: l.drop i) = (i64s l).take i ++ .int .i64 a :: (i64s l).drop i := by simp [i64s, List.map_take, List.map_drop]
theorem zc_size (n : Nat) : (Builtin.zeroCells (Value.int .i64 0).cells n).size = n := by simp [Builtin.zeroCells, Value.cells]
theorem blk_shape {w : World} {g t : Nat} {cs : Array Value} (h : Blk w g t cs) : w.shape? g = some (t, cs.size) := by unfold World.shape?; rw [show w.heap[g]? = _ from h]
theorem insert_any (A : Option Addr) (c : Nat) (l : List Int) (i : Nat) (a : Int) (vb : Nat) (w : World) (hR : (StE A c l).ok w) (hi : i ≤ l.length) (hv : Blk w vb 3 #[.int .i64 a]) (hne : A.map (·.block) ≠ some vb) (hbig : l.length + 1 ≤ 1000000) :
    Calls Tryz.prog 87 #[.slice A l.length c, .int .i64 (i : Int), .slice (some ⟨vb, 0, none⟩) 1 1] w fun en w' => ∃ A' c', en = .returned (.slice A' (l.length + 1) c') ∧ Inv (StE A c l).D w w' [StE A' c' (l.take i ++ a :: l.drop i)] := by
  have hlen : (l.take i ++ a :: l.drop i).length = l.length + 1 := by simp; omega
  have hxl : (i64s l).length = l.length := by simp [i64s]
  have hvs : ∀ (j : Nat) (v : Value), [Value.int .i64 a][j]? = some v → w.cell? ⟨vb, 0 + j, none⟩ = some v := fun j v hj => by rw [Nat.zero_add, hv.cell]; simpa using hj
  have h1v : ∀ v ∈ [Value.int .i64 a], v.oneCell' = true := by intro v hv; simp at hv; subst hv; rfl
  rcases row_open hR.1 with ⟨rfl, hn, rfl, hx⟩ | ⟨g, cur, rfl, hb, h1, h2, h3, h4⟩
  · have hl : l = [] := List.eq_nil_of_length_eq_zero hn
    subst hl
    obtain rfl : i = 0 := by simpa using hi
    refine (Any2.slices_Insert_int_end_grow Tryz.lays2_21 none 0 0 vb 0 1 1 [] [.int .i64 a] w (by omega) (by omega) (by omega) (by omega) rfl rfl (fun _ => rfl) (fun a h => by cases h) hvs h1v).mono ?_
    rintro e w' ⟨rfl, rfl⟩
    have hge := grownCap_ge w (0 + 1) 0 (Tryz.lays2_21_ren.t 3)
    have hle := grownCap_le_maxLen w (0 + 1) 0 (Tryz.lays2_21_ren.t 3) (by decide)
    generalize grownCap w (0 + 1) 0 (Tryz.lays2_21_ren.t 3) = gc at hge hle ⊢
    refine ⟨_, _, rfl, Inv.one ((Chg.pure (Chg.refl _ w) (Pure.refl w).drew).pure ((Pure.refl _).alloc _)) (row_close (Blk.new _ _ _) hge (by simpa [maxLen] using hle) ?_ ?_) (fun k hk => .inr ?_)⟩
    · rw [Array.size_append, zc_size]; simp; omega
    · simp [i64s]
    · have : some w.heap.size = some k := hk
      injection this with this; omega
  · have hcs : ∀ (j : Nat) (v : Value), (i64s l)[j]? = some v → w.cell? ⟨g, 0 + j, none⟩ = some v := fun j v hj => by
      have hjl := (List.getElem?_eq_some_iff.1 hj).1
      rw [Nat.zero_add, hb.cell, get_of_take h4 (by omega), hj]
    have hne' : vb ≠ g := fun e => hne (by subst e; rfl)
    rcases Nat.lt_or_ge i l.length with hil | hil
    · rcases Nat.lt_or_ge c (l.length + 1) with hroom | hroom
      · refine (Any2.slices_Insert_int_grow Tryz.lays2_21 g 0 l.length c i vb 0 1 1 (i64s l) [.int .i64 a] w hil (by omega) h1 hroom (by omega) hxl rfl hcs hvs (one_i64s l) h1v).mono ?_
        rintro e w' ⟨rfl, rfl⟩
        have hge := grownCap_ge w (l.length + 1) c (Tryz.lays2_21_ren.t 3)
        have hle := grownCap_le_maxLen w (l.length + 1) c (Tryz.lays2_21_ren.t 3) (by simp [maxLen]; omega)
        generalize grownCap w (l.length + 1) c (Tryz.lays2_21_ren.t 3) = gc at hge hle ⊢
        refine ⟨_, _, rfl, Inv.one (Chg.setCells (.inr (Nat.le_refl _)) _ _ ((Chg.setCells (.inr (Nat.le_refl _)) _ _ ((Chg.pure (Chg.refl _ w) ((Pure.refl w).alloc _)).pure (Pure.refl _).drew)).pure (Pure.refl _).drew)) (row_close ((((Blk.new w 3 _).drew).setCells _ _).drew.setCells _ _) (by rw [hlen]; exact hge) (by simpa [maxLen] using hle) ?_ ?_) (fun k hk => .inr ?_)⟩
        · rw [splice_size, splice_size]
          simp only [Array.size_append, zc_size, List.size_toArray, List.length_take, hxl]; omega
        · rw [i64s_ins]
          refine take_of_get (by rw [← i64s_ins]; simp only [i64s, List.length_map]) fun j hj => ?_
          rw [hlen] at hj
          rw [ins_get _ _ _ (by omega), splice_get _ _ _ _ (by rw [splice_size]; simp only [Array.size_append, zc_size, List.size_toArray, List.length_take, List.length_drop, hxl]; omega), splice_get _ _ _ _ (by simp only [Array.size_append, zc_size, List.size_toArray, List.length_take, hxl, List.length_cons, List.length_nil]; omega)]
          simp only [List.length_drop, hxl, List.length_cons, List.length_nil]
          by_cases e1 : j < i
          · rw [if_neg (by omega), if_neg (by omega), if_pos e1, Array.append_assoc, Array.getElem?_append_left (by simp [i64s]; omega)]
            simp [e1]
          · by_cases e2 : j = i
            · subst e2
              rw [if_neg (by omega), if_pos (by omega), if_neg (by omega), if_pos rfl, Nat.sub_self]; rfl
            · rw [if_pos (by omega), if_neg e1, if_neg e2, List.getElem?_drop, show i + (j - (i + 1)) = j - 1 by omega]
        · have : some w.heap.size = some k := hk
          injection this with this; omega
      · refine (Any2.slices_Insert_int_shift Tryz.lays2_21 g 0 l.length c i vb 0 1 1 (i64s l) [.int .i64 a] w hil (by omega) (by omega) h2 hne' hxl rfl hcs (fun j hj => by rw [Nat.zero_add, hb.cell]; simp; omega) (fun j _ => hb.frozen _) hvs (one_i64s l) h1v 3 3 1 c (blk_shape hv) (by rw [blk_shape hb, h3]) (by omega) (hv.frozen _) (hv.frozen _)).mono ?_
        rintro e w' ⟨rfl, rfl⟩
        refine ⟨_, _, rfl, Inv.one (Chg.setCells (S := (StE (some ⟨g, 0, none⟩) c l).D) (.inl rfl) _ _ (Chg.setCells (S := (StE (some ⟨g, 0, none⟩) c l).D) (.inl rfl) _ _ (Chg.pure (Chg.refl _ w) (Pure.refl w).drew))) (row_close ((hb.drew.setCells _ _).setCells _ _) (by rw [hlen]; exact hroom) h2 (by rw [splice_size, splice_size, h3]) ?_) (fun k hk => .inl hk)⟩
        rw [i64s_ins]
        refine take_of_get (by rw [← i64s_ins]; simp only [i64s, List.length_map]) fun j hj => ?_
        rw [ins_get _ _ _ (by omega), splice_get _ _ _ _ (by rw [splice_size]; simp; omega), splice_get _ _ _ _ (by simp [i64s]; omega)]
        simp only [List.length_drop, hxl, List.length_cons, List.length_nil, Nat.zero_add]
        rw [hlen] at hj
        by_cases e1 : j < i
        · rw [if_neg (by omega), if_neg (by omega), if_pos e1, get_of_take h4 (by omega)]
        · by_cases e2 : j = i
          · subst e2
            rw [if_pos (by omega), if_neg (by omega), if_pos rfl, Nat.sub_self]; rfl
          · rw [if_neg (by omega), if_pos (by omega), if_neg e1, if_neg e2, List.getElem?_drop, show i + (j - (i + 1)) = j - 1 by omega]
    · obtain rfl : i = l.length := by omega
      rcases Nat.lt_or_ge c (l.length + 1) with hroom | hroom
      · refine (Any2.slices_Insert_int_end_grow Tryz.lays2_21 (some ⟨g, 0, none⟩) l.length c vb 0 1 1 (i64s l) [.int .i64 a] w (by omega) h1 hroom (by omega) hxl rfl (fun h => by cases h) (fun a h => by injection h with h; subst h; intro j v hj; rw [Addr.add_lit]; exact hcs j v hj) hvs h1v).mono ?_
        rintro e w' ⟨rfl, rfl⟩
        have hge := grownCap_ge w (l.length + 1) c (Tryz.lays2_21_ren.t 3)
        have hle := grownCap_le_maxLen w (l.length + 1) c (Tryz.lays2_21_ren.t 3) (by simp [maxLen]; omega)
        generalize grownCap w (l.length + 1) c (Tryz.lays2_21_ren.t 3) = gc at hge hle ⊢
        refine ⟨_, _, rfl, Inv.one ((Chg.pure (Chg.refl _ w) (Pure.refl w).drew).pure ((Pure.refl _).alloc _)) (row_close (Blk.new _ _ _) (by rw [hlen]; exact hge) (by simpa [maxLen] using hle) ?_ ?_) (fun k hk => .inr ?_)⟩
        · simp only [Array.size_append, zc_size, List.size_toArray, List.length_append, hxl, List.length_cons, List.length_nil]; omega
        · rw [hlen, i64s_ins]
          have e1 : (i64s l).take l.length = i64s l := List.take_of_length_le (by omega)
          have e2 : (i64s l).drop l.length = [] := List.drop_eq_nil_of_le (by omega)
          rw [e1, e2, Array.toList_append, List.take_append_of_le_length (by simp [hxl])]
          exact List.take_of_length_le (by simp [hxl])
        · have : some w.heap.size = some k := hk
          injection this with this; omega
      · refine (Any2.slices_Insert_int_end_room Tryz.lays2_21 g 0 l.length c vb 0 1 1 [.int .i64 a] w (by omega) hroom h2 rfl (fun j hj => by rw [hb.cell]; simp; omega) (fun j _ => hb.frozen _) hvs h1v).mono ?_
        rintro e w' ⟨rfl, rfl⟩
        refine ⟨_, _, rfl, Inv.one (Chg.setCells (S := (StE (some ⟨g, 0, none⟩) c l).D) (.inl rfl) _ _ (Chg.refl _ w)) (row_close (hb.setCells _ _) (by rw [hlen]; exact hroom) h2 (by rw [splice_size, h3]) ?_) (fun k hk => .inl hk)⟩
        rw [i64s_ins]
        refine take_of_get (by rw [← i64s_ins]; simp only [i64s, List.length_map]) fun j hj => ?_
        rw [ins_get _ _ _ (by omega), splice_get _ _ _ _ (by simp; omega)]
        simp only [List.length_cons, List.length_nil, Nat.zero_add]
        rw [hlen] at hj
        by_cases e1 : j < l.length
        · rw [if_neg (by omega), if_pos e1, get_of_take h4 e1]
        · obtain rfl : j = l.length := by omega
          rw [if_pos (by omega), if_neg (by omega), if_pos rfl, Nat.sub_self]; rfl
end Go.Proofs.YtglioflpblpmpaaGreatDoor
namespace Go.Proofs.YtglioflpblpmpaaGreatDoor
open Go.RowKit
set_option linter.unusedVariables false
set_option linter.unusedSimpArgs false
section
variable {P : Program} {ρ : Env} {o : Oper} {w : World} {x y : Operand} {t t' e : TypeId}
theorem rSlNilT {n c : Nat} (ho : o.op = .binOp .eql t x (.const (.slice none 0 0)) t') (ht : P.underlying t = some (.slice e)) (hx : ev ρ x = .slice none n c) : Runs P ρ o w (.bool true) := by
  have h := run_equal (P := P) (w := w) (t := t) (x := .slice none n c) (y := .slice none 0 0) (r := true) (fun d => by simp [Op.equalIn, run_underlying ht])
  simp [Runs, execOp, ho, hx, show ev ρ (.const (.slice none 0 0)) = .slice none 0 0 from rfl, eqGuard, binOp, h]
theorem rSlNilF {n c : Nat} {p : Addr} (ho : o.op = .binOp .eql t x (.const (.slice none 0 0)) t') (ht : P.underlying t = some (.slice e)) (hx : ev ρ x = .slice (some p) n c) : Runs P ρ o w (.bool false) := by
  have h := run_equal (P := P) (w := w) (t := t) (x := .slice (some p) n c) (y := .slice none 0 0) (r := false) (fun d => by simp [Op.equalIn, run_underlying ht])
  simp [Runs, execOp, ho, hx, show ev ρ (.const (.slice none 0 0)) = .slice none 0 0 from rfl, eqGuard, binOp, h]
end
theorem i64s_len (l : List Int) : (i64s l).length = l.length := by simp [i64s]
theorem i64s_one (l : List Int) : (i64s l).all (·.oneCell') = true := by simp [i64s, Value.oneCell']
set_option maxHeartbeats 1000000 in
theorem clone_any (A : Option Addr) (c : Nat) (l : List Int) (D : Nat → Prop) (w0 : World) (h : Rd w0 D 1 (.slice A l.length c) l.length (i64s l)) (hb : l.length ≤ 1000000) :
    Calls Tryz.prog 79 #[.slice A l.length c] w0 fun en w' => ∃ A' c', en = .returned (.slice A' l.length c') ∧ Inv (fun _ => False) w0 w' [StE A' c' l] := by
  obtain ⟨A1, c1, hv, hnc, hcm, hlen, hcell⟩ := h
  injection hv with e1 e2 e3
  subst e1 e3
  have hI := Inv.start (fun _ => False) w0
  refine calls_of_W (N := Tryz.f79.ntmps) Tryz.func79 rfl rfl rfl ?_
  refine W_seq ?_
  refine W_region ?_
  refine WL_val rfl rfl rfl (by exact rAsgnS rfl rfl) ?_
  refine WL_nil ?_
  cases A with
  | none =>
    have hl : l = [] := by
      rcases Nat.eq_zero_or_pos l.length with h0 | h0
      · exact List.eq_nil_of_length_eq_zero h0
      · obtain ⟨b, o, hbo, _⟩ := hcell h0
        cases hbo
    subst hl
    refine W_seq ?_
    refine W_seq ?_
    refine W_region ?_
    refine WL_val rfl rfl rfl (by exact rMoveS rfl rfl) ?_
    refine WL_val rfl rfl rfl (rSlNilT rfl Tryz.underlying37 rfl) ?_
    refine WL_nil ?_
    refine W_cond true rfl ?_
    refine W_seq ?_
    refine W_region ?_
    refine WL_val rfl rfl rfl (by exact rAsgnS rfl rfl) ?_
    refine WL_nil ?_
    refine W_ret ?_
    exact ret1 2 (.inr rfl) rfl ⟨none, 0, rfl, hI.fresh (Pure.refl _) (Row.nil _ 0 3 1) (fun k hk => by simp [Row] at hk)⟩
  | some p =>
    refine W_seq ?_
    refine W_seq ?_
    refine W_region ?_
    refine WL_val rfl rfl rfl (by exact rMoveS rfl rfl) ?_
    refine WL_val rfl rfl rfl (rSlNilF rfl Tryz.underlying37 rfl) ?_
    refine WL_nil ?_
    refine W_cond false rfl ?_
    refine W_skip ?_
    refine W_seq ?_
    refine W_region ?_
    refine WL_lit (vs := []) (qs := []) [] [] hI rfl rfl rfl rfl rfl rfl Tryz.underlying37 (fun _ => by kernel_rfl) ?_
    clear hI; rintro b5 w - - hI
    refine WL_val rfl rfl rfl (by exact rMoveS rfl rfl) ?_
    replace hI : Inv (fun _ => False) w0 w [StE (some ⟨b5, 0, none⟩) 0 []] := hI.u0 (e' := StE (some ⟨b5, 0, none⟩) 0 []) (Chg.refl _ _) (row_close hI.g0 (Nat.le_refl _) (by omega) rfl rfl) (fun k hk => .inl (by have : some b5 = some k := hk; injection this with this; exact this.symm))
    rcases Nat.eq_zero_or_pos l.length with h0 | h0
    · have hl : l = [] := List.eq_nil_of_length_eq_zero h0
      subst hl
      refine WL_val rfl rfl rfl (rApp0 rfl Tryz.underlying37 (sz := 1) (by kernel_rfl) rfl rfl (Nat.le_refl _)) ?_
      refine WL_val rfl rfl rfl (rAsgnS rfl rfl) ?_
      refine WL_nil ?_
      refine W_ret ?_
      exact ret1 2 (.inr rfl) rfl ⟨_, _, rfl, hI⟩
    · obtain ⟨b, o, hbo, _, hcl⟩ := hcell h0
      injection hbo with hbo
      subst hbo
      refine WL_app0 (z := .int .i64 0) (by_ := 8) (news := i64s l) hI rfl rfl rfl rfl rfl rfl Tryz.underlying37 (by kernel_rfl) rfl (by omega) (by rw [i64s_len]; omega) (fun k u hk => hI.oldp (hcl k u hk)) (i64s_one l) (by simp; omega) (by simp; omega) (Nat.zero_le _) ?_
      clear hI; rintro A2 c2 w _ _ hI
      refine WL_val rfl rfl rfl (rAsgnS rfl rfl) ?_
      refine WL_nil ?_
      refine W_ret ?_
      refine ret1 2 (.inr rfl) rfl ⟨A2, c2, ?_, ?_⟩
      · show Ending.returned (.slice A2 (0 + l.length) c2) = _; rw [Nat.zero_add]
      · have h' : Inv (fun _ => False) w0 w [Row 0 3 1 A2 (0 + l.length) c2 ([] ++ i64s l)] := hI
        rw [Nat.zero_add, List.nil_append] at h'; exact h'
theorem Row_rd {w : World} {A : Option Addr} {c : Nat} {l : List Int} (h : (StE A c l).Φ w) : Rd w (fun _ => True) 1 (.slice A l.length c) l.length (i64s l) := Rd.of_own (D := fun _ => True) h (fun _ _ _ => trivial)
theorem bsearch_any (A : Option Addr) (c : Nat) (l : List Int) (a : Int) (w : World) (h : (StE A c l).ok w) (hs : l.Pairwise (· < ·)) (hb : l.length ≤ 1000000) :
    Calls Tryz.prog 86 #[.slice A l.length c, .int .i64 a] w fun en w' => en = .returned (.tuple #[.int .i64 ((posF l a : Nat) : Int), .bool (decide (a ∈ l))]) ∧ Pure w w' := by
  rcases Nat.eq_zero_or_pos l.length with h0 | h0
  · have hl : l = [] := List.eq_nil_of_length_eq_zero h0
    subst hl
    refine (Any.slices_BinarySearch_int_empty Tryz.lays2_25 A c a w).mono ?_
    rintro e w' ⟨rfl, rfl⟩
    exact ⟨rfl, Pure.refl _⟩
  · obtain ⟨b, o, rfl⟩ := row_addrS h.1 h0 (by omega)
    refine (Any.slices_BinarySearch_int Tryz.lays2_25 b o l.length c l a w (Nat.le_refl _) (by omega) (fun j hj => ?_) ?_).mono ?_
    · exact row_cellS h.1 (by simp [i64s, List.getElem?_eq_getElem hj]) h0
    · rw [List.take_of_length_le (Nat.le_refl _)]
      exact hs.imp (fun h => by omega)
    · rintro e w' ⟨rfl, q, rfl⟩
      refine ⟨?_, (Pure.refl w).drewN q⟩
      rw [List.take_of_length_le (Nat.le_refl _)]
      have e1 : List.countP (fun x => decide (x < a)) l = posF l a := by unfold posF; rw [List.countP_eq_length_filter]
      have e2 : l.contains a = decide (a ∈ l) := by
        rw [Bool.eq_iff_iff]; simp
      rw [e1, e2]
theorem delete_any (A : Option Addr) (c : Nat) (l : List Int) (i : Nat) (w : World) (hR : (StE A c l).ok w) (hi : i < l.length) (hbig : l.length ≤ 1000000) :
    Calls Tryz.prog 88 #[.slice A l.length c, .int .i64 (i : Int), .int .i64 ((i + 1 : Nat) : Int)] w fun en w' => en = .returned (.slice A (l.length - 1) c) ∧ Inv (StE A c l).D w w' [StE A c (l.take i ++ l.drop (i + 1))] := by
  have hlen : (l.take i ++ l.drop (i + 1)).length = l.length - 1 := by simp; omega
  rcases row_open hR.1 with ⟨rfl, hn, rfl, hx⟩ | ⟨g, cur, rfl, hb, h1, h2, h3, h4⟩
  · omega
  · refine (Any.slices_Delete_int_cells Tryz.lays2_23 g 0 l.length c i (i + 1) l w (Nat.le_refl _) h1 h2 (by omega) (by omega) (fun j hj => ?_) (fun j _ => hb.frozen _)).mono ?_
    · exact row_cellS hR.1 (by simp [i64s, List.getElem?_eq_getElem hj]) (by omega)
    · rintro e w' ⟨rfl, q, rfl⟩
      refine ⟨by rw [Nat.add_sub_cancel_left], Inv.one (Chg.setCells (S := (StE (some ⟨g, 0, none⟩) c l).D) (.inl rfl) _ _ ((Chg.refl _ w).drewN q)) (row_close ((hb.drewN q).setCells _ _) (by rw [hlen]; omega) h2 (by rw [splice_size, h3]) ?_) (fun k hk => .inl hk)⟩
      rw [List.take_of_length_le (Nat.le_refl _)]
      refine take_of_get (i64s_len _) fun j hj => ?_
      rw [splice_get _ _ _ _ (by simp; omega), if_pos (by simp; omega)]
      simp only [i64s, List.map_append, Nat.sub_zero]
      rw [List.getElem?_append_left (by simp; omega)]
theorem Row_part {A : Option Addr} {c : Nat} {l : List Int} {w : World} (h : (StE A c l).ok w) (k : Nat) (hk : k ≤ l.length) : (StE A c (l.take k)).ok w := by
  rcases row_open h.1 with ⟨rfl, hn, rfl, hx⟩ | ⟨g, cur, rfl, hb, h1, h2, h3, h4⟩
  · have hl : l = [] := List.eq_nil_of_length_eq_zero hn
    subst hl
    rw [List.take_nil]; exact h
  · refine row_close hb (by simp; omega) h2 h3 ?_
    refine take_of_get (i64s_len _) fun j hj => ?_
    have hjk : j < k := by simp at hj; omega
    rw [get_of_take h4 (by omega)]
    simp [i64s, List.getElem?_take_of_lt hjk]
set_option maxHeartbeats 2000000 in
theorem set_any (A : Option Addr) (c : Nat) (l : List Int) (k a : Int) (w0 : World) (h : (StE A c l).ok w0) (hs : l.Pairwise (· < ·)) (hb : l.length ≤ 100000) :
    Calls Tryz.prog 78 #[.slice A l.length c, .int .i64 k, .int .i64 a] w0 fun en w' => ∃ A' c', en = .returned (.tuple #[.slice A' (setF l k a).1.length c', .int .i64 (setF l k a).2]) ∧ Inv (StE A c l).D w0 w' [StE A' c' (setF l k a).1] := by
  have hI := Inv.ownE h
  have hpl := posF_le l a
  refine calls_of_W (N := Tryz.f78.ntmps) Tryz.func78 rfl rfl rfl ?_
  refine W_seq ?_
  refine W_region ?_
  refine WL_val rfl rfl rfl (by exact rAsgnS rfl rfl) ?_
  refine WL_val rfl rfl rfl (by exact rAsgnI rfl rfl) ?_
  refine WL_nil ?_
  refine W_seq ?_
  refine W_region ?_
  refine WL_val rfl rfl rfl (by exact rMoveS rfl rfl) ?_
  refine WL_val rfl rfl rfl (by exact rMoveI rfl rfl) ?_
  refine WL_call rfl rfl rfl (rCall (vs := [.slice _ _ _, .int .i64 _]) rfl Tryz.func86 rfl rfl rfl) ?_
  refine (bsearch_any A c l a _ (hI.ok _ (by simp)) hs (by omega)).mono ?_
  rintro e w1 ⟨rfl, hp⟩
  refine ⟨_, rfl, ?_⟩
  replace hI := hI.pure hp
  refine WL_val rfl rfl rfl (by exact rMoveT rfl rfl) ?_
  refine WL_val rfl rfl rfl (rExtr rfl rfl rfl) ?_
  refine WL_val rfl rfl rfl (rExtr rfl rfl rfl) ?_
  refine WL_val rfl rfl rfl (by exact rAsgnI rfl rfl) ?_
  refine WL_val rfl rfl rfl (by exact rAsgnB rfl rfl) ?_
  refine WL_nil ?_
  refine W_seq ?_
  refine W_block ?_
  by_cases hm : a ∈ l
  · rw [decide_eq_true hm]
    have hlt : posF l a < l.length := by
      rcases Nat.lt_or_ge (posF l a) l.length with h1 | h1
      · exact h1
      · obtain ⟨h2, h3⟩ := posF_split l a hs
        rw [List.take_of_length_le h1] at h2
        have := h2 a hm
        omega
    by_cases k7 : k = 7
    · have e : setF l k a = (delF l a, 1) := by unfold setF; rw [if_neg (by omega), if_pos ⟨k7, hm⟩]
      refine W_seq ?_
      refine W_region ?_
      refine WL_val rfl rfl rfl (by exact rMoveI rfl rfl) ?_
      refine WL_val rfl rfl rfl (by exact rEqlF rfl rfl rfl (by omega)) ?_
      refine WL_val rfl rfl rfl (by exact rMoveB rfl rfl) ?_
      refine WL_skip rfl rfl rfl ?_
      refine WL_skip rfl rfl rfl ?_
      refine WL_val rfl rfl rfl (by exact rPickFB rfl rfl rfl) ?_
      refine WL_val rfl rfl rfl (by exact rAsgnB rfl rfl) ?_
      refine WL_nil ?_
      refine W_cond false rfl ?_
      refine W_seq ?_
      refine W_region ?_
      refine WL_val rfl rfl rfl (by exact rMoveI rfl rfl) ?_
      refine WL_val rfl rfl rfl (by exact rEqlT rfl rfl rfl (by omega)) ?_
      refine WL_val rfl rfl rfl (by exact rMoveB rfl rfl) ?_
      refine WL_val rfl rfl rfl (by exact rMoveB rfl rfl) ?_
      refine WL_val rfl rfl rfl (by exact rPickTB rfl rfl rfl) ?_
      refine WL_val rfl rfl rfl (by exact rAsgnB rfl rfl) ?_
      refine WL_nil ?_
      refine W_cond true rfl ?_
      refine W_seq ?_
      refine W_region ?_
      refine WL_val rfl rfl rfl (by exact rMoveS rfl rfl) ?_
      refine WL_val rfl rfl rfl (by exact rMoveI rfl rfl) ?_
      refine WL_val rfl rfl rfl (by exact rMoveI rfl rfl) ?_
      refine WL_val rfl rfl rfl (by exact rInc rfl rfl rfl (by omega)) ?_
      refine WL_call rfl rfl rfl (rCall (vs := [.slice _ _ _, .int .i64 _, .int .i64 _]) rfl Tryz.func88 rfl rfl rfl) ?_
      refine (delete_any A c l (posF l a) _ (hI.ok _ (by simp)) hlt (by omega)).mono ?_
      rintro e w1 ⟨rfl, hT⟩
      refine ⟨_, rfl, ?_⟩
      replace hI := hI.turn1 hT
      refine WL_val rfl rfl rfl (by exact rAsgnS rfl rfl) ?_
      refine WL_val rfl rfl rfl (by exact rAsgnI rfl rfl) ?_
      refine WL_nil ?_
      refine W_ret ?_
      refine ret2 6 7 (.inr rfl) rfl ⟨A, c, ?_, ?_⟩
      · rw [e]
        have hl : (delF l a).length = l.length - 1 := by unfold delF; simp; omega
        rw [hl]; rfl
      · rw [e]; exact hI
    · by_cases k6 : k = 6
      · have e : setF l k a = (l, 0) := by unfold setF; rw [if_neg (fun h => h.2 hm), if_neg (by omega), decide_eq_false (by omega)]; rfl
        refine W_seq ?_
        refine W_region ?_
        refine WL_val rfl rfl rfl (by exact rMoveI rfl rfl) ?_
        refine WL_val rfl rfl rfl (by exact rEqlT rfl rfl rfl (by omega)) ?_
        refine WL_val rfl rfl rfl (by exact rMoveB rfl rfl) ?_
        refine WL_val rfl rfl rfl (by exact rMoveB rfl rfl) ?_
        refine WL_val rfl rfl rfl (by exact rNotT rfl rfl) ?_
        refine WL_val rfl rfl rfl (by exact rPickTB rfl rfl rfl) ?_
        refine WL_val rfl rfl rfl (by exact rAsgnB rfl rfl) ?_
        refine WL_nil ?_
        refine W_cond false rfl ?_
        refine W_seq ?_
        refine W_region ?_
        refine WL_val rfl rfl rfl (by exact rMoveI rfl rfl) ?_
        refine WL_val rfl rfl rfl (by exact rEqlF rfl rfl rfl (by omega)) ?_
        refine WL_val rfl rfl rfl (by exact rMoveB rfl rfl) ?_
        refine WL_skip rfl rfl rfl ?_
        refine WL_val rfl rfl rfl (by exact rPickFB rfl rfl rfl) ?_
        refine WL_val rfl rfl rfl (by exact rAsgnB rfl rfl) ?_
        refine WL_nil ?_
        refine W_cond false rfl ?_
        refine W_skip ?_
        refine W_seq ?_
        refine W_region ?_
        refine WL_val rfl rfl rfl (by exact rMoveS rfl rfl) ?_
        refine WL_val rfl rfl rfl (by exact rMoveI rfl rfl) ?_
        refine WL_val rfl rfl rfl (by exact rEqlF rfl rfl rfl (by omega)) ?_
        refine WL_val rfl rfl rfl (by exact rMoveB rfl rfl) ?_
        refine WL_skip rfl rfl rfl ?_
        refine WL_val rfl rfl rfl (by exact rPickFB rfl rfl rfl) ?_
        refine WL_call rfl rfl rfl (rCall (vs := [.bool _]) rfl Tryz.func80 rfl rfl rfl) ?_
        refine (one_any _ _).mono ?_
        rintro e w1 ⟨rfl, hp2⟩
        refine ⟨_, rfl, ?_⟩
        replace hI := hI.pure hp2
        refine WL_val rfl rfl rfl (by exact rAsgnS rfl rfl) ?_
        refine WL_val rfl rfl rfl (by exact rAsgnI rfl rfl) ?_
        refine WL_nil ?_
        refine W_ret ?_
        refine ret2 6 7 (.inr rfl) rfl ⟨A, c, by rw [e]; rfl, by rw [e]; exact hI⟩
      · by_cases k8 : k = 8
        · have e : setF l k a = (l, 1) := by unfold setF; rw [if_neg (fun h => h.2 hm), if_neg (by omega), decide_eq_true ⟨k8, hm⟩]; rfl
          refine W_seq ?_
          refine W_region ?_
          refine WL_val rfl rfl rfl (by exact rMoveI rfl rfl) ?_
          refine WL_val rfl rfl rfl (by exact rEqlF rfl rfl rfl (by omega)) ?_
          refine WL_val rfl rfl rfl (by exact rMoveB rfl rfl) ?_
          refine WL_skip rfl rfl rfl ?_
          refine WL_skip rfl rfl rfl ?_
          refine WL_val rfl rfl rfl (by exact rPickFB rfl rfl rfl) ?_
          refine WL_val rfl rfl rfl (by exact rAsgnB rfl rfl) ?_
          refine WL_nil ?_
          refine W_cond false rfl ?_
          refine W_seq ?_
          refine W_region ?_
          refine WL_val rfl rfl rfl (by exact rMoveI rfl rfl) ?_
          refine WL_val rfl rfl rfl (by exact rEqlF rfl rfl rfl (by omega)) ?_
          refine WL_val rfl rfl rfl (by exact rMoveB rfl rfl) ?_
          refine WL_skip rfl rfl rfl ?_
          refine WL_val rfl rfl rfl (by exact rPickFB rfl rfl rfl) ?_
          refine WL_val rfl rfl rfl (by exact rAsgnB rfl rfl) ?_
          refine WL_nil ?_
          refine W_cond false rfl ?_
          refine W_skip ?_
          refine W_seq ?_
          refine W_region ?_
          refine WL_val rfl rfl rfl (by exact rMoveS rfl rfl) ?_
          refine WL_val rfl rfl rfl (by exact rMoveI rfl rfl) ?_
          refine WL_val rfl rfl rfl (by exact rEqlT rfl rfl rfl (by omega)) ?_
          refine WL_val rfl rfl rfl (by exact rMoveB rfl rfl) ?_
          refine WL_val rfl rfl rfl (by exact rMoveB rfl rfl) ?_
          refine WL_val rfl rfl rfl (by exact rPickTB rfl rfl rfl) ?_
          refine WL_call rfl rfl rfl (rCall (vs := [.bool _]) rfl Tryz.func80 rfl rfl rfl) ?_
          refine (one_any _ _).mono ?_
          rintro e w1 ⟨rfl, hp2⟩
          refine ⟨_, rfl, ?_⟩
          replace hI := hI.pure hp2
          refine WL_val rfl rfl rfl (by exact rAsgnS rfl rfl) ?_
          refine WL_val rfl rfl rfl (by exact rAsgnI rfl rfl) ?_
          refine WL_nil ?_
          refine W_ret ?_
          refine ret2 6 7 (.inr rfl) rfl ⟨A, c, by rw [e]; rfl, by rw [e]; exact hI⟩
        · have e : setF l k a = (l, 0) := by unfold setF; rw [if_neg (fun h => h.2 hm), if_neg (by omega), decide_eq_false (by omega)]; rfl
          refine W_seq ?_
          refine W_region ?_
          refine WL_val rfl rfl rfl (by exact rMoveI rfl rfl) ?_
          refine WL_val rfl rfl rfl (by exact rEqlF rfl rfl rfl (by omega)) ?_
          refine WL_val rfl rfl rfl (by exact rMoveB rfl rfl) ?_
          refine WL_skip rfl rfl rfl ?_
          refine WL_skip rfl rfl rfl ?_
          refine WL_val rfl rfl rfl (by exact rPickFB rfl rfl rfl) ?_
          refine WL_val rfl rfl rfl (by exact rAsgnB rfl rfl) ?_
          refine WL_nil ?_
          refine W_cond false rfl ?_
          refine W_seq ?_
          refine W_region ?_
          refine WL_val rfl rfl rfl (by exact rMoveI rfl rfl) ?_
          refine WL_val rfl rfl rfl (by exact rEqlF rfl rfl rfl (by omega)) ?_
          refine WL_val rfl rfl rfl (by exact rMoveB rfl rfl) ?_
          refine WL_skip rfl rfl rfl ?_
          refine WL_val rfl rfl rfl (by exact rPickFB rfl rfl rfl) ?_
          refine WL_val rfl rfl rfl (by exact rAsgnB rfl rfl) ?_
          refine WL_nil ?_
          refine W_cond false rfl ?_
          refine W_skip ?_
          refine W_seq ?_
          refine W_region ?_
          refine WL_val rfl rfl rfl (by exact rMoveS rfl rfl) ?_
          refine WL_val rfl rfl rfl (by exact rMoveI rfl rfl) ?_
          refine WL_val rfl rfl rfl (by exact rEqlF rfl rfl rfl (by omega)) ?_
          refine WL_val rfl rfl rfl (by exact rMoveB rfl rfl) ?_
          refine WL_skip rfl rfl rfl ?_
          refine WL_val rfl rfl rfl (by exact rPickFB rfl rfl rfl) ?_
          refine WL_call rfl rfl rfl (rCall (vs := [.bool _]) rfl Tryz.func80 rfl rfl rfl) ?_
          refine (one_any _ _).mono ?_
          rintro e w1 ⟨rfl, hp2⟩
          refine ⟨_, rfl, ?_⟩
          replace hI := hI.pure hp2
          refine WL_val rfl rfl rfl (by exact rAsgnS rfl rfl) ?_
          refine WL_val rfl rfl rfl (by exact rAsgnI rfl rfl) ?_
          refine WL_nil ?_
          refine W_ret ?_
          refine ret2 6 7 (.inr rfl) rfl ⟨A, c, by rw [e]; rfl, by rw [e]; exact hI⟩
  · rw [decide_eq_false hm]
    by_cases k6 : k = 6
    · have e : setF l k a = (insF l a, 1) := by unfold setF; rw [if_pos ⟨k6, hm⟩]
      refine W_seq ?_
      refine W_region ?_
      refine WL_val rfl rfl rfl (by exact rMoveI rfl rfl) ?_
      refine WL_val rfl rfl rfl (by exact rEqlT rfl rfl rfl (by omega)) ?_
      refine WL_val rfl rfl rfl (by exact rMoveB rfl rfl) ?_
      refine WL_val rfl rfl rfl (by exact rMoveB rfl rfl) ?_
      refine WL_val rfl rfl rfl (by exact rNotF rfl rfl) ?_
      refine WL_val rfl rfl rfl (by exact rPickTB rfl rfl rfl) ?_
      refine WL_val rfl rfl rfl (by exact rAsgnB rfl rfl) ?_
      refine WL_nil ?_
      refine W_cond true rfl ?_
      refine W_seq ?_
      refine W_region ?_
      refine WL_val rfl rfl rfl (by exact rMoveS rfl rfl) ?_
      refine WL_val rfl rfl rfl (by exact rMoveI rfl rfl) ?_
      refine WL_val rfl rfl rfl (by exact rMoveI rfl rfl) ?_
      refine WL_lit (vs := [_]) (qs := [(0, .int .i64 _)]) [.int .i64 0] [0] hI rfl rfl rfl rfl rfl rfl Tryz.underlying37 (fun _ => by kernel_rfl) ?_
      clear hI; rintro b26 w - - hI
      refine WL_call rfl rfl rfl (rCall (vs := [.slice _ _ _, .int .i64 _, .slice _ _ _]) rfl Tryz.func87 rfl rfl rfl) ?_
      refine (insert_any A c l (posF l a) a b26 _ (hI.ok (StE A c l) (by simp)) hpl hI.g0 (fun he => ?_) (by omega)).mono ?_
      · exact hI.disj (i := 1) (j := 0) rfl rfl (by omega) b26 he rfl
      rintro e w1 ⟨A', c', rfl, hT⟩
      refine ⟨_, rfl, ?_⟩
      replace hI := hI.d0.turn1 hT
      refine WL_val rfl rfl rfl (by exact rAsgnS rfl rfl) ?_
      refine WL_val rfl rfl rfl (by exact rAsgnI rfl rfl) ?_
      refine WL_nil ?_
      refine W_ret ?_
      refine ret2 6 7 (.inr rfl) rfl ⟨A', c', ?_, ?_⟩
      · rw [e]
        have hl : (insF l a).length = l.length + 1 := by unfold insF; simp; omega
        rw [hl]; rfl
      · rw [e]; exact hI
    · have e : setF l k a = (l, 0) := by unfold setF; rw [if_neg (by omega), if_neg (fun h => hm h.2), decide_eq_false (fun h => hm h.2)]; rfl
      by_cases k7 : k = 7
      · refine W_seq ?_
        refine W_region ?_
        refine WL_val rfl rfl rfl (by exact rMoveI rfl rfl) ?_
        refine WL_val rfl rfl rfl (by exact rEqlF rfl rfl rfl (by omega)) ?_
        refine WL_val rfl rfl rfl (by exact rMoveB rfl rfl) ?_
        refine WL_skip rfl rfl rfl ?_
        refine WL_skip rfl rfl rfl ?_
        refine WL_val rfl rfl rfl (by exact rPickFB rfl rfl rfl) ?_
        refine WL_val rfl rfl rfl (by exact rAsgnB rfl rfl) ?_
        refine WL_nil ?_
        refine W_cond false rfl ?_
        refine W_seq ?_
        refine W_region ?_
        refine WL_val rfl rfl rfl (by exact rMoveI rfl rfl) ?_
        refine WL_val rfl rfl rfl (by exact rEqlT rfl rfl rfl (by omega)) ?_
        refine WL_val rfl rfl rfl (by exact rMoveB rfl rfl) ?_
        refine WL_val rfl rfl rfl (by exact rMoveB rfl rfl) ?_
        refine WL_val rfl rfl rfl (by exact rPickTB rfl rfl rfl) ?_
        refine WL_val rfl rfl rfl (by exact rAsgnB rfl rfl) ?_
        refine WL_nil ?_
        refine W_cond false rfl ?_
        refine W_skip ?_
        refine W_seq ?_
        refine W_region ?_
        refine WL_val rfl rfl rfl (by exact rMoveS rfl rfl) ?_
        refine WL_val rfl rfl rfl (by exact rMoveI rfl rfl) ?_
        refine WL_val rfl rfl rfl (by exact rEqlF rfl rfl rfl (by omega)) ?_
        refine WL_val rfl rfl rfl (by exact rMoveB rfl rfl) ?_
        refine WL_skip rfl rfl rfl ?_
        refine WL_val rfl rfl rfl (by exact rPickFB rfl rfl rfl) ?_
        refine WL_call rfl rfl rfl (rCall (vs := [.bool _]) rfl Tryz.func80 rfl rfl rfl) ?_
        refine (one_any _ _).mono ?_
        rintro e w1 ⟨rfl, hp2⟩
        refine ⟨_, rfl, ?_⟩
        replace hI := hI.pure hp2
        refine WL_val rfl rfl rfl (by exact rAsgnS rfl rfl) ?_
        refine WL_val rfl rfl rfl (by exact rAsgnI rfl rfl) ?_
        refine WL_nil ?_
        refine W_ret ?_
        refine ret2 6 7 (.inr rfl) rfl ⟨A, c, by rw [e]; rfl, by rw [e]; exact hI⟩
      · by_cases k8 : k = 8
        · refine W_seq ?_
          refine W_region ?_
          refine WL_val rfl rfl rfl (by exact rMoveI rfl rfl) ?_
          refine WL_val rfl rfl rfl (by exact rEqlF rfl rfl rfl (by omega)) ?_
          refine WL_val rfl rfl rfl (by exact rMoveB rfl rfl) ?_
          refine WL_skip rfl rfl rfl ?_
          refine WL_skip rfl rfl rfl ?_
          refine WL_val rfl rfl rfl (by exact rPickFB rfl rfl rfl) ?_
          refine WL_val rfl rfl rfl (by exact rAsgnB rfl rfl) ?_
          refine WL_nil ?_
          refine W_cond false rfl ?_
          refine W_seq ?_
          refine W_region ?_
          refine WL_val rfl rfl rfl (by exact rMoveI rfl rfl) ?_
          refine WL_val rfl rfl rfl (by exact rEqlF rfl rfl rfl (by omega)) ?_
          refine WL_val rfl rfl rfl (by exact rMoveB rfl rfl) ?_
          refine WL_skip rfl rfl rfl ?_
          refine WL_val rfl rfl rfl (by exact rPickFB rfl rfl rfl) ?_
          refine WL_val rfl rfl rfl (by exact rAsgnB rfl rfl) ?_
          refine WL_nil ?_
          refine W_cond false rfl ?_
          refine W_skip ?_
          refine W_seq ?_
          refine W_region ?_
          refine WL_val rfl rfl rfl (by exact rMoveS rfl rfl) ?_
          refine WL_val rfl rfl rfl (by exact rMoveI rfl rfl) ?_
          refine WL_val rfl rfl rfl (by exact rEqlT rfl rfl rfl (by omega)) ?_
          refine WL_val rfl rfl rfl (by exact rMoveB rfl rfl) ?_
          refine WL_val rfl rfl rfl (by exact rMoveB rfl rfl) ?_
          refine WL_val rfl rfl rfl (by exact rPickTB rfl rfl rfl) ?_
          refine WL_call rfl rfl rfl (rCall (vs := [.bool _]) rfl Tryz.func80 rfl rfl rfl) ?_
          refine (one_any _ _).mono ?_
          rintro e w1 ⟨rfl, hp2⟩
          refine ⟨_, rfl, ?_⟩
          replace hI := hI.pure hp2
          refine WL_val rfl rfl rfl (by exact rAsgnS rfl rfl) ?_
          refine WL_val rfl rfl rfl (by exact rAsgnI rfl rfl) ?_
          refine WL_nil ?_
          refine W_ret ?_
          refine ret2 6 7 (.inr rfl) rfl ⟨A, c, by rw [e]; rfl, by rw [e]; exact hI⟩
        · refine W_seq ?_
          refine W_region ?_
          refine WL_val rfl rfl rfl (by exact rMoveI rfl rfl) ?_
          refine WL_val rfl rfl rfl (by exact rEqlF rfl rfl rfl (by omega)) ?_
          refine WL_val rfl rfl rfl (by exact rMoveB rfl rfl) ?_
          refine WL_skip rfl rfl rfl ?_
          refine WL_skip rfl rfl rfl ?_
          refine WL_val rfl rfl rfl (by exact rPickFB rfl rfl rfl) ?_
          refine WL_val rfl rfl rfl (by exact rAsgnB rfl rfl) ?_
          refine WL_nil ?_
          refine W_cond false rfl ?_
          refine W_seq ?_
          refine W_region ?_
          refine WL_val rfl rfl rfl (by exact rMoveI rfl rfl) ?_
          refine WL_val rfl rfl rfl (by exact rEqlF rfl rfl rfl (by omega)) ?_
          refine WL_val rfl rfl rfl (by exact rMoveB rfl rfl) ?_
          refine WL_skip rfl rfl rfl ?_
          refine WL_val rfl rfl rfl (by exact rPickFB rfl rfl rfl) ?_
          refine WL_val rfl rfl rfl (by exact rAsgnB rfl rfl) ?_
          refine WL_nil ?_
          refine W_cond false rfl ?_
          refine W_skip ?_
          refine W_seq ?_
          refine W_region ?_
          refine WL_val rfl rfl rfl (by exact rMoveS rfl rfl) ?_
          refine WL_val rfl rfl rfl (by exact rMoveI rfl rfl) ?_
          refine WL_val rfl rfl rfl (by exact rEqlF rfl rfl rfl (by omega)) ?_
          refine WL_val rfl rfl rfl (by exact rMoveB rfl rfl) ?_
          refine WL_skip rfl rfl rfl ?_
          refine WL_val rfl rfl rfl (by exact rPickFB rfl rfl rfl) ?_
          refine WL_call rfl rfl rfl (rCall (vs := [.bool _]) rfl Tryz.func80 rfl rfl rfl) ?_
          refine (one_any _ _).mono ?_
          rintro e w1 ⟨rfl, hp2⟩
          refine ⟨_, rfl, ?_⟩
          replace hI := hI.pure hp2
          refine WL_val rfl rfl rfl (by exact rAsgnS rfl rfl) ?_
          refine WL_val rfl rfl rfl (by exact rAsgnI rfl rfl) ?_
          refine WL_nil ?_
          refine W_ret ?_
          refine ret2 6 7 (.inr rfl) rfl ⟨A, c, by rw [e]; rfl, by rw [e]; exact hI⟩
end Go.Proofs.YtglioflpblpmpaaGreatDoor
namespace Go.Proofs.YtglioflpblpmpaaGreatDoor
open Go.RowKit
set_option linter.unusedVariables false
set_option linter.unusedSimpArgs false
theorem i64s_app (l : List Int) (a : Int) : i64s (l ++ [a]) = i64s l ++ [.int .i64 a] := by simp [i64s]
theorem Rd_tail {w : World} {g o c : Nat} {l : List Int} (h : Rd w (fun _ => True) 1 (.slice (some ⟨g, o, none⟩) l.length c) l.length (i64s l)) (h2 : 2 ≤ l.length) : Rd w (fun _ => True) 1 (.slice (some ⟨g, o + 1 * 1, none⟩) (l.drop 1).length (c - 1)) (l.drop 1).length (i64s (l.drop 1)) := by
  obtain ⟨A1, c1, hv, hnc, hcm, hlen, hcell⟩ := h
  injection hv with e1 e2 e3
  subst e1 e3
  obtain ⟨b, o', hbo, _, hcl⟩ := hcell (by omega)
  injection hbo with hbo
  injection hbo with e4 e5
  subst e4 e5
  refine ⟨_, _, rfl, by simp; omega, by omega, by simp [i64s], fun _ => ⟨g, o + 1 * 1, rfl, trivial, fun j u hj => ?_⟩⟩
  have : (i64s l)[1 + j]? = some u := by rw [← hj]; simp [i64s, List.getElem?_drop, Nat.add_comm]
  have := hcl (1 + j) u this
  rwa [Nat.mul_one, Nat.add_assoc]
theorem Rd_none {w : World} {A : Option Addr} {c : Nat} (hc : c ≤ 9223372036854775807) : Rd w (fun _ => True) 1 (.slice A ([] : List Int).length c) ([] : List Int).length (i64s []) :=
  ⟨A, c, rfl, Nat.zero_le _, hc, rfl, fun h => absurd h (Nat.lt_irrefl 0)⟩
set_option maxHeartbeats 2000000 in
theorem line_any (o : Int) (A : Option Addr) (c : Nat) (l : List Int) (k a : Int) (w0 : World) (h : (StE A c l).ok w0) (hb : l.length ≤ 100000) :
    Calls Tryz.prog 81 #[.int .i64 o, .slice A l.length c, .int .i64 k, .int .i64 a] w0 fun en w' => ∃ A' c', en = .returned (.tuple #[.slice A' (lineF o l k a).1.length c', .int .i64 (lineF o l k a).2]) ∧ Inv (StE A c l).D w0 w' [StE A' c' (lineF o l k a).1] := by
  have hI := Inv.ownE h
  refine calls_of_W (N := Tryz.f81.ntmps) Tryz.func81 rfl rfl rfl ?_
  refine W_seq ?_
  refine W_region ?_
  refine WL_val rfl rfl rfl (by exact rAsgnS rfl rfl) ?_
  refine WL_val rfl rfl rfl (by exact rAsgnI rfl rfl) ?_
  refine WL_nil ?_
  rcases Nat.eq_zero_or_pos l.length with h00 | h00
  · have hl : l = [] := List.eq_nil_of_length_eq_zero h00
    subst hl
    refine W_seq ?_
    refine W_region ?_
    refine WL_val rfl rfl rfl (by exact rMoveS rfl rfl) ?_
    refine WL_val rfl rfl rfl (rLen rfl Tryz.underlying37 rfl) ?_
    refine WL_val rfl rfl rfl (by exact rSub rfl rfl rfl (by omega)) ?_
    refine WL_val rfl rfl rfl (by exact rAsgnI rfl rfl) ?_
    refine WL_nil ?_
    refine W_seq ?_
    refine W_block ?_
    by_cases k9 : k = 9
    · have e : lineF o [] k a = ([] ++ [a], 0) := by unfold lineF; rw [if_pos k9]
      refine W_seq ?_
      refine W_region ?_
      refine WL_val rfl rfl rfl (by exact rMoveI rfl rfl) ?_
      refine WL_val rfl rfl rfl (by exact rEqlT rfl rfl rfl (by omega)) ?_
      refine WL_val rfl rfl rfl (by exact rAsgnB rfl rfl) ?_
      refine WL_nil ?_
      refine W_cond true rfl ?_
      refine W_seq ?_
      refine W_region ?_
      refine WL_val rfl rfl rfl (by exact rMoveS rfl rfl) ?_
      refine WL_val rfl rfl rfl (by exact rMoveI rfl rfl) ?_
      refine WL_lit (vs := [_]) (qs := [(0, .int .i64 _)]) [.int .i64 0] [0] hI rfl rfl rfl rfl rfl rfl Tryz.underlying37 (fun _ => by kernel_rfl) ?_
      clear hI; rintro b19 w - - hI
      refine WL_app1 (z := .int .i64 0) (by_ := 8) hI rfl rfl rfl rfl rfl rfl Tryz.underlying37 (by kernel_rfl) rfl (by omega) (by rfl) hI.lit0 (by rfl) (by omega) (by omega) (by exact Nat.zero_le _) ?_
      clear hI; rintro A20 c20 w hA20 hc20 hI
      replace hI := hI.d0
      refine WL_val rfl rfl rfl (by exact rAsgnS rfl rfl) ?_
      refine WL_val rfl rfl rfl (by exact rAsgnI rfl rfl) ?_
      refine WL_nil ?_
      refine W_ret ?_
      refine ret2 8 9 (.inr rfl) rfl ⟨A20, c20, ?_, ?_⟩
      · rw [e]; rfl
      · rw [e]; exact hI
    refine W_seq ?_
    refine W_region ?_
    refine WL_val rfl rfl rfl (by exact rMoveI rfl rfl) ?_
    refine WL_val rfl rfl rfl (by exact rEqlF rfl rfl rfl (by omega)) ?_
    refine WL_val rfl rfl rfl (by exact rAsgnB rfl rfl) ?_
    refine WL_nil ?_
    refine W_cond false rfl ?_
    have e : lineF o [] k a = ([], -1) := by unfold lineF; rw [if_neg k9, if_pos rfl]
    refine W_seq ?_
    refine W_region ?_
    refine WL_val rfl rfl rfl (by exact rMoveI rfl rfl) ?_
    refine WL_val rfl rfl rfl (by exact rLssT rfl rfl rfl (by omega)) ?_
    refine WL_val rfl rfl rfl (by exact rAsgnB rfl rfl) ?_
    refine WL_nil ?_
    refine W_cond true rfl ?_
    refine W_seq ?_
    refine W_region ?_
    refine WL_val rfl rfl rfl (by exact rMoveS rfl rfl) ?_
    refine WL_val rfl rfl rfl (by exact rAsgnS rfl rfl) ?_
    refine WL_val rfl rfl rfl (by exact rAsgnI rfl rfl) ?_
    refine WL_nil ?_
    refine W_ret ?_
    exact ret2 8 9 (.inr rfl) rfl ⟨A, c, by rw [e]; rfl, by rw [e]; exact hI⟩
  refine W_seq ?_
  refine W_region ?_
  refine WL_val rfl rfl rfl (by exact rMoveS rfl rfl) ?_
  refine WL_val rfl rfl rfl (rLen rfl Tryz.underlying37 rfl) ?_
  refine WL_val rfl rfl rfl (rDecN (b := 1) rfl rfl rfl (by omega) (by omega)) ?_
  refine WL_val rfl rfl rfl (by exact rAsgnI rfl rfl) ?_
  refine WL_nil ?_
  refine W_seq ?_
  refine W_block ?_
  by_cases k9 : k = 9
  · have e : lineF o l k a = (l ++ [a], 0) := by unfold lineF; rw [if_pos k9]
    refine W_seq ?_
    refine W_region ?_
    refine WL_val rfl rfl rfl (by exact rMoveI rfl rfl) ?_
    refine WL_val rfl rfl rfl (by exact rEqlT rfl rfl rfl (by omega)) ?_
    refine WL_val rfl rfl rfl (by exact rAsgnB rfl rfl) ?_
    refine WL_nil ?_
    refine W_cond true rfl ?_
    refine W_seq ?_
    refine W_region ?_
    refine WL_val rfl rfl rfl (by exact rMoveS rfl rfl) ?_
    refine WL_val rfl rfl rfl (by exact rMoveI rfl rfl) ?_
    refine WL_lit (vs := [_]) (qs := [(0, .int .i64 _)]) [.int .i64 0] [0] hI rfl rfl rfl rfl rfl rfl Tryz.underlying37 (fun _ => by kernel_rfl) ?_
    clear hI; rintro b19 w - - hI
    refine WL_app1 (z := .int .i64 0) (by_ := 8) hI rfl rfl rfl rfl rfl rfl Tryz.underlying37 (by kernel_rfl) rfl (by omega) (by rfl) hI.lit0 (by rfl) (by omega) (by omega) (by exact Nat.zero_le _) ?_
    clear hI; rintro A20 c20 w hA20 hc20 hI
    replace hI := hI.d0
    refine WL_val rfl rfl rfl (by exact rAsgnS rfl rfl) ?_
    refine WL_val rfl rfl rfl (by exact rAsgnI rfl rfl) ?_
    refine WL_nil ?_
    refine W_ret ?_
    refine ret2 8 9 (.inr rfl) rfl ⟨A20, c20, ?_, ?_⟩
    · rw [e]; simp only [List.length_append, List.length_cons, List.length_nil, Nat.zero_add]; rfl
    · rw [e]
      have h' : Inv (StE A c l).D w0 w [Row 0 3 1 A20 (l.length + 1) c20 (i64s l ++ [.int .i64 a])] := hI
      rw [← i64s_app] at h'
      simpa [StE] using h'
  refine W_seq ?_
  refine W_region ?_
  refine WL_val rfl rfl rfl (by exact rMoveI rfl rfl) ?_
  refine WL_val rfl rfl rfl (by exact rEqlF rfl rfl rfl (by omega)) ?_
  refine WL_val rfl rfl rfl (by exact rAsgnB rfl rfl) ?_
  refine WL_nil ?_
  refine W_cond false rfl ?_
  have h0 := h00
  have hne : l ≠ [] := fun e => by subst e; simp at h0
  obtain ⟨g, og, rfl⟩ := row_addrS h.1 h0 (by omega)
  have hcap : l.length ≤ c ∧ c ≤ 9223372036854775807 := by
    rcases row_open h.1 with ⟨hA, _⟩ | ⟨_, _, _, _, h1, h2, _⟩
    · cases hA
    · exact ⟨h1, h2⟩
  refine W_seq ?_
  refine W_region ?_
  refine WL_val rfl rfl rfl (by exact rMoveI rfl rfl) ?_
  refine WL_val rfl rfl rfl (by exact rLssF rfl rfl rfl (by omega)) ?_
  refine WL_val rfl rfl rfl (by exact rAsgnB rfl rfl) ?_
  refine WL_nil ?_
  refine W_cond false rfl ?_
  have c0 : (i64s l)[0]? = some (.int .i64 (l.getD 0 0)) := by simp [i64s, List.getD, List.getElem?_eq_getElem h0]
  have c1 : (i64s l)[l.length - 1]? = some (.int .i64 (l.getD (l.length - 1) 0)) := by simp [i64s, List.getD, List.getElem?_eq_getElem (show l.length - 1 < l.length by omega)]
  by_cases ho : o = 4
  · have e : lineF o l k a = (l.drop 1, l.getD 0 0) := by unfold lineF; rw [if_neg k9, if_neg hne, if_pos ho]
    have hld : (l.drop 1).length = l.length - 1 := by simp
    refine W_seq ?_
    refine W_region ?_
    refine WL_val rfl rfl rfl (by exact rMoveI rfl rfl) ?_
    refine WL_val rfl rfl rfl (by exact rEqlT rfl rfl rfl (by omega)) ?_
    refine WL_val rfl rfl rfl (by exact rAsgnB rfl rfl) ?_
    refine WL_nil ?_
    refine W_cond true rfl ?_
    rcases Nat.lt_or_ge 1 l.length with h2 | h2
    · refine W_seq ?_
      refine W_draw (by kernel_rfl) ?_
      refine WA_inv (T := []) hI.drew ?_
      intro Sx hSx hXS
      replace hI := hI.drew
      refine WT_take 0 rfl rfl (by kernel_rfl) (hXS _ hI) rfl (fun W hW => have hI := hSx W hW; (by exact rMoveS rfl rfl)) ?_
      refine WT_take 1 rfl rfl (by kernel_rfl) (hXS _ hI) rfl (fun W hW => have hI := hSx W hW; (by exact rSliceFrom (sz := 1) (i := 1) rfl Tryz.underlying37 (by kernel_rfl) rfl rfl (by omega) (by omega))) ?_
      refine WT_take 3 rfl rfl (by kernel_rfl) (hXS _ hI) rfl (fun W hW => have hI := hSx W hW; (by exact rMoveS rfl rfl)) ?_
      refine WT_take 4 rfl rfl (by kernel_rfl) (hXS _ hI) rfl (fun W hW => have hI := hSx W hW; (by exact rIdx1 (i := 0) rfl Tryz.underlying37 (by kernel_rfl) rfl rfl (by omega))) ?_
      refine WT_take 5 rfl rfl (by kernel_rfl) (hXS _ hI) rfl (fun W hW => have hI := hSx W hW; (by exact rLd (v := .int .i64 _) rfl (by kernel_rfl) rfl (by exact (row_cellS hI.g0 c0 h0)))) ?_
      refine WT_one 2 rfl (by kernel_rfl) rfl ?_
      refine WL_call rfl rfl rfl (rCall (vs := [.slice _ _ _]) rfl Tryz.func79 rfl rfl rfl) ?_
      rw [← hld]
      refine (clone_any _ (c - 1) (l.drop 1) _ _ (Rd_tail (Row_rd hI.g0) h2) (by omega)).mono ?_
      rintro e1 w1 ⟨A', c', rfl, hT⟩
      refine ⟨_, rfl, ?_⟩
      replace hI := hI.app1 hT
      refine WL_nil ⟨hXS _ hI.d0, ?_⟩
      refine WT_take 6 rfl rfl (by kernel_rfl) (hXS _ hI.d0) rfl (fun W hW => have hI := hSx W hW; (by exact rAsgnS rfl rfl)) ?_
      refine WT_take 7 rfl rfl (by kernel_rfl) (hXS _ hI.d0) rfl (fun W hW => have hI := hSx W hW; (by exact rAsgnI rfl rfl)) ?_
      refine WT_end (by kernel_rfl) ?_
      refine W_ret ?_
      refine ret2 8 9 (.inr rfl) rfl ⟨A', c', by rw [e]; rfl, by rw [e]; exact hI.d1⟩
    · have hd0 : l.drop 1 = [] := List.drop_eq_nil_of_le h2
      refine W_seq ?_
      refine W_draw (by kernel_rfl) ?_
      refine WA_inv (T := []) hI.drew ?_
      intro Sx hSx hXS
      replace hI := hI.drew
      refine WT_take 0 rfl rfl (by kernel_rfl) (hXS _ hI) rfl (fun W hW => have hI := hSx W hW; (by exact rMoveS rfl rfl)) ?_
      refine WT_take 1 rfl rfl (by kernel_rfl) (hXS _ hI) rfl (fun W hW => have hI := hSx W hW; (rSliceFromG (sz := 1) (i := 1) rfl Tryz.underlying37 (by kernel_rfl) rfl rfl (by omega))) ?_
      refine WT_take 3 rfl rfl (by kernel_rfl) (hXS _ hI) rfl (fun W hW => have hI := hSx W hW; (by exact rMoveS rfl rfl)) ?_
      refine WT_take 4 rfl rfl (by kernel_rfl) (hXS _ hI) rfl (fun W hW => have hI := hSx W hW; (by exact rIdx1 (i := 0) rfl Tryz.underlying37 (by kernel_rfl) rfl rfl (by omega))) ?_
      refine WT_take 5 rfl rfl (by kernel_rfl) (hXS _ hI) rfl (fun W hW => have hI := hSx W hW; (by exact rLd (v := .int .i64 _) rfl (by kernel_rfl) rfl (by exact (row_cellS hI.g0 c0 h0)))) ?_
      refine WT_one 2 rfl (by kernel_rfl) rfl ?_
      refine WL_call rfl rfl rfl (rCall (vs := [.slice _ _ _]) rfl Tryz.func79 rfl rfl rfl) ?_
      rw [show l.length - 1 = ([] : List Int).length from by simp; omega]
      refine (clone_any _ (c - 1) [] _ _ (Rd_none (by omega)) (by simp)).mono ?_
      rintro e1 w1 ⟨A', c', rfl, hT⟩
      refine ⟨_, rfl, ?_⟩
      replace hI := hI.app1 hT
      refine WL_nil ⟨hXS _ hI.d0, ?_⟩
      refine WT_take 6 rfl rfl (by kernel_rfl) (hXS _ hI.d0) rfl (fun W hW => have hI := hSx W hW; (by exact rAsgnS rfl rfl)) ?_
      refine WT_take 7 rfl rfl (by kernel_rfl) (hXS _ hI.d0) rfl (fun W hW => have hI := hSx W hW; (by exact rAsgnI rfl rfl)) ?_
      refine WT_end (by kernel_rfl) ?_
      refine W_ret ?_
      refine ret2 8 9 (.inr rfl) rfl ⟨A', c', by rw [e, hd0]; rfl, by rw [e, hd0]; exact hI.d1⟩
  have e : lineF o l k a = (l.take (l.length - 1), l.getD (l.length - 1) 0) := by unfold lineF; rw [if_neg k9, if_neg hne, if_neg ho]
  refine W_seq ?_
  refine W_region ?_
  refine WL_val rfl rfl rfl (by exact rMoveI rfl rfl) ?_
  refine WL_val rfl rfl rfl (by exact rEqlF rfl rfl rfl (by omega)) ?_
  refine WL_val rfl rfl rfl (by exact rAsgnB rfl rfl) ?_
  refine WL_nil ?_
  refine W_cond false rfl ?_
  refine W_skip ?_
  refine W_seq ?_
  refine W_draw (by kernel_rfl) ?_
  refine WA_inv (T := []) hI.drew ?_
  intro Sx hSx hXS
  replace hI := hI.drew
  refine WT_take 0 rfl rfl (by kernel_rfl) (hXS _ hI) rfl (fun W hW => have hI := hSx W hW; (by exact rMoveS rfl rfl)) ?_
  refine WT_take 1 rfl rfl (by kernel_rfl) (hXS _ hI) rfl (fun W hW => have hI := hSx W hW; (by exact rMoveI rfl rfl)) ?_
  refine WT_take 2 rfl rfl (by kernel_rfl) (hXS _ hI) rfl (fun W hW => have hI := hSx W hW; (rSliceTo (sz := 1) (i := l.length - 1) rfl Tryz.underlying37 (by kernel_rfl) rfl rfl (by omega))) ?_
  refine WT_take 3 rfl rfl (by kernel_rfl) (hXS _ hI) rfl (fun W hW => have hI := hSx W hW; (by exact rMoveS rfl rfl)) ?_
  refine WT_take 4 rfl rfl (by kernel_rfl) (hXS _ hI) rfl (fun W hW => have hI := hSx W hW; (by exact rMoveI rfl rfl)) ?_
  refine WT_take 5 rfl rfl (by kernel_rfl) (hXS _ hI) rfl (fun W hW => have hI := hSx W hW; (by exact rIdx1 rfl Tryz.underlying37 (by kernel_rfl) rfl rfl (by omega))) ?_
  refine WT_take 6 rfl rfl (by kernel_rfl) (hXS _ hI) rfl (fun W hW => have hI := hSx W hW; (by exact rLd (v := .int .i64 _) rfl (by kernel_rfl) rfl (by exact (row_cellS hI.g0 c1 h0)))) ?_
  refine WT_take 7 rfl rfl (by kernel_rfl) (hXS _ hI) rfl (fun W hW => have hI := hSx W hW; (by exact rAsgnS rfl rfl)) ?_
  refine WT_take 8 rfl rfl (by kernel_rfl) (hXS _ hI) rfl (fun W hW => have hI := hSx W hW; (by exact rAsgnI rfl rfl)) ?_
  refine WT_end (by kernel_rfl) ?_
  refine W_ret ?_
  refine ret2 8 9 (.inr rfl) rfl ⟨some ⟨g, og, none⟩, c, ?_, ?_⟩
  · rw [e]
    have hl : (l.take (l.length - 1)).length = l.length - 1 := by simp
    rw [hl]; rfl
  · rw [e]
    exact hI.u0 (e' := StE (some ⟨g, og, none⟩) c (l.take (l.length - 1))) (Chg.refl _ _) (Row_part (hI.ok _ (by simp)) _ (by omega)) (fun k hk => .inl hk)
end Go.Proofs.YtglioflpblpmpaaGreatDoor
namespace Go.Proofs.YtglioflpblpmpaaGreatDoor
open Go.RowKit
set_option linter.unusedVariables false
set_option linter.unusedSimpArgs false
def StepPost (o : Int) (st : List Int) (k a b : Int) (w0 : World) (en : Ending) (w' : World) : Prop :=
  match stepF o st k a b with
  | none => en = .returned (.tuple #[.slice none 0 0, .int .i64 0, .bool false]) ∧ Pure w0 w'
  | some (st', r) => ∃ A' c', en = .returned (.tuple #[.slice A' st'.length c', .int .i64 r, .bool true]) ∧ Inv (fun _ => False) w0 w' [StE A' c' st']
theorem StepPost.none {o : Int} {st : List Int} {k a b : Int} {w0 w' : World} (h : stepF o st k a b = .none) (hp : Pure w0 w') : StepPost o st k a b w0 (.returned (.tuple #[.slice none 0 0, .int .i64 0, .bool false])) w' := by
  unfold StepPost; rw [h]; exact ⟨rfl, hp⟩
theorem StepPost.some {o : Int} {st st' : List Int} {k a b r : Int} {w0 w' : World} {A' : Option Addr} {c' n' : Nat} (h : stepF o st k a b = .some (st', r)) (hn : n' = st'.length) (hI : Inv (fun _ => False) w0 w' [StE A' c' st']) : StepPost o st k a b w0 (.returned (.tuple #[.slice A' n' c', .int .i64 r, .bool true])) w' := by
  unfold StepPost; rw [h]; subst hn; exact ⟨A', c', rfl, hI⟩
theorem knows_cases {o k : Int} (h : knowsF o k = true) : o = 1 ∨ o = 2 ∨ o = 3 ∨ o = 4 ∨ o = 5 ∨ o = 6 := by
  rcases Classical.em (o < 1 ∨ 6 < o) with h1 | h1
  · rw [knows_out o k (by omega)] at h; cases h
  · omega
theorem lit1 {S : Nat → Prop} {w0 w : World} {H : List Ent} {g : Nat} {z : Int} (hI : Inv S w0 w (B g 3 #[.int .i64 z] :: H)) : Inv S w0 w (StE (some ⟨g, 0, none⟩) 1 [z] :: H) :=
  hI.u0 (e' := StE (some ⟨g, 0, none⟩) 1 [z]) (Chg.refl _ _) (Row.of_blk hI.g0 (Nat.zero_le _) rfl (by simp)) (fun k hk => .inl (by have : some g = some k := hk; injection this with this; exact this.symm))
set_option maxHeartbeats 4000000 in
theorem step_any (o : Int) (A : Option Addr) (c : Nat) (st : List Int) (k a b : Int) (D : Nat → Prop) (w0 : World) (h : Rd w0 D 1 (.slice A st.length c) st.length (i64s st)) (hs : okSt o st) (hb : st.length ≤ 100000) (hk : KnOk w0) :
    Calls Tryz.prog 62 #[.int .i64 o, .slice A st.length c, .int .i64 k, .int .i64 a, .int .i64 b] w0 (StepPost o st k a b w0) := by
  have hI := Inv.start (fun _ => False) w0
  refine calls_of_W (N := Tryz.f62.ntmps) Tryz.func62 rfl rfl rfl ?_
  refine W_seq ?_
  refine W_region ?_
  refine WL_val rfl rfl rfl (by exact rAsgnS rfl rfl) ?_
  refine WL_val rfl rfl rfl (by exact rAsgnI rfl rfl) ?_
  refine WL_val rfl rfl rfl (by exact rAsgnB rfl rfl) ?_
  refine WL_nil ?_
  by_cases hkn : knowsF o k = true
  rotate_left
  · have hkn : knowsF o k = false := by simpa using hkn
    refine W_seq ?_
    refine W_seq ?_
    refine W_region ?_
    refine WL_val rfl rfl rfl (by exact rMoveI rfl rfl) ?_
    refine WL_val rfl rfl rfl (by exact rMoveI rfl rfl) ?_
    refine WL_call rfl rfl rfl (rCall (vs := [.int .i64 _, .int .i64 _]) rfl Tryz.func57 rfl rfl rfl) ?_
    refine (knows_any o k _ (hk.pure hI.pu)).mono ?_
    rw [hkn]
    rintro e w1 ⟨rfl, hp⟩
    refine ⟨_, rfl, ?_⟩
    replace hI := hI.pure hp
    refine WL_val rfl rfl rfl (by exact rNotF rfl rfl) ?_
    refine WL_val rfl rfl rfl (by exact rMoveB rfl rfl) ?_
    refine WL_skip rfl rfl rfl ?_
    refine WL_skip rfl rfl rfl ?_
    refine WL_skip rfl rfl rfl ?_
    refine WL_skip rfl rfl rfl ?_
    refine WL_skip rfl rfl rfl ?_
    refine WL_skip rfl rfl rfl ?_
    refine WL_skip rfl rfl rfl ?_
    refine WL_val rfl rfl rfl (by exact rPickTB rfl rfl rfl) ?_
    refine WL_nil ?_
    refine W_cond true rfl ?_
    refine W_seq ?_
    refine W_region ?_
    refine WL_val rfl rfl rfl (by exact rAsgnS rfl rfl) ?_
    refine WL_val rfl rfl rfl (by exact rAsgnI rfl rfl) ?_
    refine WL_val rfl rfl rfl (by exact rAsgnB rfl rfl) ?_
    refine WL_nil ?_
    refine W_ret ?_
    exact ret3 10 11 12 (.inr rfl) rfl (StepPost.none (by unfold stepF; rw [if_pos (.inl hkn)]) hI.pu)
  by_cases hsi : singleF o = true ∧ st.length ≠ 1
  · refine W_seq ?_
    refine W_seq ?_
    refine W_region ?_
    refine WL_val rfl rfl rfl (by exact rMoveI rfl rfl) ?_
    refine WL_val rfl rfl rfl (by exact rMoveI rfl rfl) ?_
    refine WL_call rfl rfl rfl (rCall (vs := [.int .i64 _, .int .i64 _]) rfl Tryz.func57 rfl rfl rfl) ?_
    refine (knows_any o k _ (hk.pure hI.pu)).mono ?_
    rw [hkn]
    rintro e w1 ⟨rfl, hp⟩
    refine ⟨_, rfl, ?_⟩
    replace hI := hI.pure hp
    refine WL_val rfl rfl rfl (by exact rNotT rfl rfl) ?_
    refine WL_val rfl rfl rfl (by exact rMoveB rfl rfl) ?_
    refine WL_val rfl rfl rfl (by exact rMoveI rfl rfl) ?_
    refine WL_call rfl rfl rfl (rCall (vs := [.int .i64 _]) rfl Tryz.func58 rfl rfl rfl) ?_
    refine (single_any o _).mono ?_
    rw [hsi.1]
    rintro e w1 ⟨rfl, hp⟩
    refine ⟨_, rfl, ?_⟩
    replace hI := hI.pure hp
    refine WL_val rfl rfl rfl (by exact rMoveB rfl rfl) ?_
    refine WL_val rfl rfl rfl (by exact rMoveS rfl rfl) ?_
    refine WL_val rfl rfl rfl (rLen rfl Tryz.underlying37 rfl) ?_
    refine WL_val rfl rfl rfl (by exact rNeqT rfl rfl rfl (by omega)) ?_
    refine WL_val rfl rfl rfl (by exact rPickTB rfl rfl rfl) ?_
    refine WL_val rfl rfl rfl (by exact rPickFB rfl rfl rfl) ?_
    refine WL_nil ?_
    refine W_cond true rfl ?_
    refine W_seq ?_
    refine W_region ?_
    refine WL_val rfl rfl rfl (by exact rAsgnS rfl rfl) ?_
    refine WL_val rfl rfl rfl (by exact rAsgnI rfl rfl) ?_
    refine WL_val rfl rfl rfl (by exact rAsgnB rfl rfl) ?_
    refine WL_nil ?_
    refine W_ret ?_
    exact ret3 10 11 12 (.inr rfl) rfl (StepPost.none (by unfold stepF; rw [if_pos (.inr hsi)]) hI.pu)
  have hgo : ¬ (knowsF o k = false ∨ (singleF o = true ∧ st.length ≠ 1)) := fun hh => by
    rcases hh with hh | hh
    · rw [hkn] at hh; cases hh
    · exact hsi hh
  refine W_seq_cut (fun ρ w => Has ρ [(0, .int .i64 o), (1, .slice A st.length c), (2, .int .i64 k), (3, .int .i64 a), (4, .int .i64 b)] ∧ Inv (fun _ => False) w0 w []) ?_ ?_
  · cases hsg : singleF o with
    | true =>
      have hl1 : st.length = 1 := by
        rcases Classical.em (st.length = 1) with h1 | h1
        · exact h1
        · exact absurd ⟨hsg, h1⟩ hsi
      refine W_seq ?_
      refine W_region ?_
      refine WL_val rfl rfl rfl (by exact rMoveI rfl rfl) ?_
      refine WL_val rfl rfl rfl (by exact rMoveI rfl rfl) ?_
      refine WL_call rfl rfl rfl (rCall (vs := [.int .i64 _, .int .i64 _]) rfl Tryz.func57 rfl rfl rfl) ?_
      refine (knows_any o k _ (hk.pure hI.pu)).mono ?_
      rw [hkn]
      rintro e w1 ⟨rfl, hp⟩
      refine ⟨_, rfl, ?_⟩
      replace hI := hI.pure hp
      refine WL_val rfl rfl rfl (by exact rNotT rfl rfl) ?_
      refine WL_val rfl rfl rfl (by exact rMoveB rfl rfl) ?_
      refine WL_val rfl rfl rfl (by exact rMoveI rfl rfl) ?_
      refine WL_call rfl rfl rfl (rCall (vs := [.int .i64 _]) rfl Tryz.func58 rfl rfl rfl) ?_
      refine (single_any o _).mono ?_
      rw [hsg]
      rintro e w1 ⟨rfl, hp⟩
      refine ⟨_, rfl, ?_⟩
      replace hI := hI.pure hp
      refine WL_val rfl rfl rfl (by exact rMoveB rfl rfl) ?_
      refine WL_val rfl rfl rfl (by exact rMoveS rfl rfl) ?_
      refine WL_val rfl rfl rfl (rLen rfl Tryz.underlying37 rfl) ?_
      refine WL_val rfl rfl rfl (by exact rNeqF rfl rfl rfl (by omega)) ?_
      refine WL_val rfl rfl rfl (by exact rPickTB rfl rfl rfl) ?_
      refine WL_val rfl rfl rfl (by exact rPickFB rfl rfl rfl) ?_
      refine WL_nil ?_
      refine W_cond false rfl ?_
      refine W_skip ?_
      exact ⟨⟨rfl, rfl, rfl, rfl, rfl, trivial⟩, hI⟩
    | false =>
      refine W_seq ?_
      refine W_region ?_
      refine WL_val rfl rfl rfl (by exact rMoveI rfl rfl) ?_
      refine WL_val rfl rfl rfl (by exact rMoveI rfl rfl) ?_
      refine WL_call rfl rfl rfl (rCall (vs := [.int .i64 _, .int .i64 _]) rfl Tryz.func57 rfl rfl rfl) ?_
      refine (knows_any o k _ (hk.pure hI.pu)).mono ?_
      rw [hkn]
      rintro e w1 ⟨rfl, hp⟩
      refine ⟨_, rfl, ?_⟩
      replace hI := hI.pure hp
      refine WL_val rfl rfl rfl (by exact rNotT rfl rfl) ?_
      refine WL_val rfl rfl rfl (by exact rMoveB rfl rfl) ?_
      refine WL_val rfl rfl rfl (by exact rMoveI rfl rfl) ?_
      refine WL_call rfl rfl rfl (rCall (vs := [.int .i64 _]) rfl Tryz.func58 rfl rfl rfl) ?_
      refine (single_any o _).mono ?_
      rw [hsg]
      rintro e w1 ⟨rfl, hp⟩
      refine ⟨_, rfl, ?_⟩
      replace hI := hI.pure hp
      refine WL_val rfl rfl rfl (by exact rMoveB rfl rfl) ?_
      refine WL_skip rfl rfl rfl ?_
      refine WL_skip rfl rfl rfl ?_
      refine WL_skip rfl rfl rfl ?_
      refine WL_val rfl rfl rfl (by exact rPickFB rfl rfl rfl) ?_
      refine WL_val rfl rfl rfl (by exact rPickFB rfl rfl rfl) ?_
      refine WL_nil ?_
      refine W_cond false rfl ?_
      refine W_skip ?_
      exact ⟨⟨rfl, rfl, rfl, rfl, rfl, trivial⟩, hI⟩
  clear hI
  rintro ρ w ⟨hH, hI⟩
  obtain ⟨σ, rfl⟩ := hH.open
  have one : singleF o = true → ∃ bA oA z, A = some ⟨bA, oA, none⟩ ∧ st = [z] ∧ w0.cell? ⟨bA, oA, none⟩ = some (.int .i64 z) := by
    intro hsg
    have hl1 : st.length = 1 := by
      rcases Classical.em (st.length = 1) with h1 | h1
      · exact h1
      · exact absurd ⟨hsg, h1⟩ hsi
    obtain ⟨z, rfl⟩ : ∃ z, st = [z] := List.length_eq_one_iff.1 hl1
    obtain ⟨b', o', h1, _, _, h2⟩ := h.get (k := 0) (u := .int .i64 z) rfl (by simp)
    exact ⟨b', o', z, h1, rfl, h2⟩
  have hcl := fun (W : World) (hp : Pure w0 W) => clone_any A c st D W (h.pure hp) (by omega)
  rcases knows_cases hkn with rfl | rfl | rfl | rfl | rfl | rfl
  · -- a register
    obtain ⟨bA, oA, z, rfl, rfl, hz⟩ := one rfl
    have e : stepF 1 [z] k a b = some ([(regF z k a b).1], (regF z k a b).2) := by unfold stepF; rw [if_neg hgo, if_pos rfl]; rfl
    refine W_seq ?_
    refine W_seq ?_
    refine W_region ?_
    refine WL_val rfl rfl rfl (by exact rMoveI rfl rfl) ?_
    refine WL_nil ?_
    refine W_block ?_
    refine W_seq ?_
    refine W_region ?_
    refine WL_val rfl rfl rfl (by exact rEqlT rfl rfl rfl (by omega)) ?_
    refine WL_val rfl rfl rfl (by exact rAsgnB rfl rfl) ?_
    refine WL_nil ?_
    refine W_cond true rfl ?_
    refine W_seq ?_
    refine W_region ?_
    refine WL_val rfl rfl rfl (by exact rMoveS rfl rfl) ?_
    refine WL_val rfl rfl rfl (rIdx1 (i := 0) rfl Tryz.underlying37 (by kernel_rfl) rfl rfl (by simp)) ?_
    refine WL_val rfl rfl rfl (by exact rLd (v := .int .i64 _) rfl (by kernel_rfl) rfl (by exact hI.oldp hz)) ?_
    refine WL_val rfl rfl rfl (by exact rMoveI rfl rfl) ?_
    refine WL_val rfl rfl rfl (by exact rMoveI rfl rfl) ?_
    refine WL_val rfl rfl rfl (by exact rMoveI rfl rfl) ?_
    refine WL_call rfl rfl rfl (rCall (vs := [.int .i64 _, .int .i64 _, .int .i64 _, .int .i64 _]) rfl Tryz.func77 rfl rfl rfl) ?_
    refine (register_any z k a b _).mono ?_
    rintro e1 w1 ⟨rfl, hp⟩
    refine ⟨_, rfl, ?_⟩
    replace hI := hI.pure hp
    refine WL_val rfl rfl rfl (by exact rMoveT rfl rfl) ?_
    refine WL_val rfl rfl rfl (rExtr rfl rfl rfl) ?_
    refine WL_val rfl rfl rfl (rExtr rfl rfl rfl) ?_
    refine WL_val rfl rfl rfl (by exact rAsgnI rfl rfl) ?_
    refine WL_val rfl rfl rfl (by exact rAsgnI rfl rfl) ?_
    refine WL_nil ?_
    refine W_seq ?_
    refine W_region ?_
    refine WL_val rfl rfl rfl (by exact rMoveI rfl rfl) ?_
    refine WL_lit (vs := [_]) (qs := [(0, .int .i64 _)]) [.int .i64 0] [0] hI rfl rfl rfl rfl rfl rfl Tryz.underlying37 (fun _ => by kernel_rfl) ?_
    clear hI; rintro b43 w - - hI
    refine WL_val rfl rfl rfl (by exact rMoveI rfl rfl) ?_
    refine WL_val rfl rfl rfl (by exact rAsgnS rfl rfl) ?_
    refine WL_val rfl rfl rfl (by exact rAsgnI rfl rfl) ?_
    refine WL_val rfl rfl rfl (by exact rAsgnB rfl rfl) ?_
    refine WL_nil ?_
    refine W_ret ?_
    exact ret3 10 11 12 (.inr rfl) rfl (StepPost.some e rfl (lit1 hI))
  · -- a counter
    obtain ⟨bA, oA, z, rfl, rfl, hz⟩ := one rfl
    refine W_seq ?_
    refine W_seq ?_
    refine W_region ?_
    refine WL_val rfl rfl rfl (by exact rMoveI rfl rfl) ?_
    refine WL_nil ?_
    refine W_block ?_
    refine W_seq ?_
    refine W_region ?_
    refine WL_val rfl rfl rfl (by exact rEqlF rfl rfl rfl (by omega)) ?_
    refine WL_val rfl rfl rfl (by exact rAsgnB rfl rfl) ?_
    refine WL_nil ?_
    refine W_cond false rfl ?_
    refine W_seq ?_
    refine W_region ?_
    refine WL_val rfl rfl rfl (by exact rEqlT rfl rfl rfl (by omega)) ?_
    refine WL_val rfl rfl rfl (by exact rAsgnB rfl rfl) ?_
    refine WL_nil ?_
    refine W_cond true rfl ?_
    refine W_seq ?_
    refine W_region ?_
    refine WL_val rfl rfl rfl (by exact rMoveS rfl rfl) ?_
    refine WL_val rfl rfl rfl (rIdx1 (i := 0) rfl Tryz.underlying37 (by kernel_rfl) rfl rfl (by simp)) ?_
    refine WL_val rfl rfl rfl (by exact rLd (v := .int .i64 _) rfl (by kernel_rfl) rfl (by exact hI.oldp hz)) ?_
    refine WL_val rfl rfl rfl (by exact rAsgnI rfl rfl) ?_
    refine WL_nil ?_
    by_cases k4 : k = 4
    · have e : stepF 2 [z] k a b = some ([IntKind.i64.wrap (z + a)], IntKind.i64.wrap (z + a)) := by unfold stepF; rw [if_neg hgo, if_neg (by decide), if_pos rfl, if_pos k4]; rfl
      refine W_seq ?_
      refine W_seq ?_
      refine W_region ?_
      refine WL_val rfl rfl rfl (by exact rMoveI rfl rfl) ?_
      refine WL_val rfl rfl rfl (by exact rEqlT rfl rfl rfl (by omega)) ?_
      refine WL_nil ?_
      refine W_cond true rfl ?_
      refine W_region ?_
      refine WL_val rfl rfl rfl (by exact rMoveI rfl rfl) ?_
      refine WL_val rfl rfl rfl (by exact rMoveI rfl rfl) ?_
      refine WL_val rfl rfl rfl (rAddW rfl rfl rfl) ?_
      refine WL_val rfl rfl rfl (by exact rAsgnI rfl rfl) ?_
      refine WL_nil ?_
      refine W_seq ?_
      refine W_region ?_
      refine WL_val rfl rfl rfl (by exact rMoveI rfl rfl) ?_
      refine WL_lit (vs := [_]) (qs := [(0, .int .i64 _)]) [.int .i64 0] [0] hI rfl rfl rfl rfl rfl rfl Tryz.underlying37 (fun _ => by kernel_rfl) ?_
      clear hI; rintro b56 w - - hI
      refine WL_val rfl rfl rfl (by exact rMoveI rfl rfl) ?_
      refine WL_val rfl rfl rfl (by exact rAsgnS rfl rfl) ?_
      refine WL_val rfl rfl rfl (by exact rAsgnI rfl rfl) ?_
      refine WL_val rfl rfl rfl (by exact rAsgnB rfl rfl) ?_
      refine WL_nil ?_
      refine W_ret ?_
      exact ret3 10 11 12 (.inr rfl) rfl (StepPost.some e rfl (lit1 hI))
    · have e : stepF 2 [z] k a b = some ([z], z) := by unfold stepF; rw [if_neg hgo, if_neg (by decide), if_pos rfl, if_neg k4]; rfl
      refine W_seq ?_
      refine W_seq ?_
      refine W_region ?_
      refine WL_val rfl rfl rfl (by exact rMoveI rfl rfl) ?_
      refine WL_val rfl rfl rfl (by exact rEqlF rfl rfl rfl (by omega)) ?_
      refine WL_nil ?_
      refine W_cond false rfl ?_
      refine W_skip ?_
      refine W_seq ?_
      refine W_region ?_
      refine WL_val rfl rfl rfl (by exact rMoveI rfl rfl) ?_
      refine WL_lit (vs := [_]) (qs := [(0, .int .i64 _)]) [.int .i64 0] [0] hI rfl rfl rfl rfl rfl rfl Tryz.underlying37 (fun _ => by kernel_rfl) ?_
      clear hI; rintro b56 w - - hI
      refine WL_val rfl rfl rfl (by exact rMoveI rfl rfl) ?_
      refine WL_val rfl rfl rfl (by exact rAsgnS rfl rfl) ?_
      refine WL_val rfl rfl rfl (by exact rAsgnI rfl rfl) ?_
      refine WL_val rfl rfl rfl (by exact rAsgnB rfl rfl) ?_
      refine WL_nil ?_
      refine W_ret ?_
      exact ret3 10 11 12 (.inr rfl) rfl (StepPost.some e rfl (lit1 hI))
  · -- a set
    have e : stepF 3 st k a b = some (setF st k a) := by unfold stepF; rw [if_neg hgo, if_neg (by decide), if_neg (by decide), if_pos rfl]
    refine W_seq ?_
    refine W_seq ?_
    refine W_region ?_
    refine WL_val rfl rfl rfl (by exact rMoveI rfl rfl) ?_
    refine WL_nil ?_
    refine W_block ?_
    refine W_seq ?_
    refine W_region ?_
    refine WL_val rfl rfl rfl (by exact rEqlF rfl rfl rfl (by omega)) ?_
    refine WL_val rfl rfl rfl (by exact rAsgnB rfl rfl) ?_
    refine WL_nil ?_
    refine W_cond false rfl ?_
    refine W_seq ?_
    refine W_region ?_
    refine WL_val rfl rfl rfl (by exact rEqlF rfl rfl rfl (by omega)) ?_
    refine WL_val rfl rfl rfl (by exact rAsgnB rfl rfl) ?_
    refine WL_nil ?_
    refine W_cond false rfl ?_
    refine W_seq ?_
    refine W_region ?_
    refine WL_val rfl rfl rfl (by exact rEqlT rfl rfl rfl (by omega)) ?_
    refine WL_val rfl rfl rfl (by exact rAsgnB rfl rfl) ?_
    refine WL_nil ?_
    refine W_cond true rfl ?_
    refine W_seq ?_
    refine W_region ?_
    refine WL_val rfl rfl rfl (by exact rMoveS rfl rfl) ?_
    refine WL_call rfl rfl rfl (rCall (vs := [.slice _ _ _]) rfl Tryz.func79 rfl rfl rfl) ?_
    refine (hcl _ hI.pu).mono ?_
    rintro e1 w1 ⟨A1, c1, rfl, hT⟩
    refine ⟨_, rfl, ?_⟩
    replace hI := hI.app1 hT
    refine WL_val rfl rfl rfl (by exact rMoveI rfl rfl) ?_
    refine WL_val rfl rfl rfl (by exact rMoveI rfl rfl) ?_
    refine WL_call rfl rfl rfl (rCall (vs := [.slice _ _ _, .int .i64 _, .int .i64 _]) rfl Tryz.func78 rfl rfl rfl) ?_
    refine (set_any A1 c1 st k a _ (hI.ok (StE A1 c1 st) (by simp)) (hs rfl) hb).mono ?_
    rintro e1 w1 ⟨A2, c2, rfl, hT2⟩
    refine ⟨_, rfl, ?_⟩
    replace hI := hI.turn1 hT2
    refine WL_val rfl rfl rfl (by exact rMoveT rfl rfl) ?_
    refine WL_val rfl rfl rfl (rExtr rfl rfl rfl) ?_
    refine WL_val rfl rfl rfl (rExtr rfl rfl rfl) ?_
    refine WL_val rfl rfl rfl (by exact rAsgnS rfl rfl) ?_
    refine WL_val rfl rfl rfl (by exact rAsgnI rfl rfl) ?_
    refine WL_nil ?_
    refine W_seq ?_
    refine W_region ?_
    refine WL_val rfl rfl rfl (by exact rMoveS rfl rfl) ?_
    refine WL_val rfl rfl rfl (by exact rMoveI rfl rfl) ?_
    refine WL_val rfl rfl rfl (by exact rAsgnS rfl rfl) ?_
    refine WL_val rfl rfl rfl (by exact rAsgnI rfl rfl) ?_
    refine WL_val rfl rfl rfl (by exact rAsgnB rfl rfl) ?_
    refine WL_nil ?_
    refine W_ret ?_
    exact ret3 10 11 12 (.inr rfl) rfl (StepPost.some (st' := (setF st k a).1) (r := (setF st k a).2) e rfl hI)
  · -- a line
    have e : stepF 4 st k a b = some (lineF 4 st k a) := by unfold stepF; rw [if_neg hgo, if_neg (by decide), if_neg (by decide), if_neg (by decide), if_neg (by decide)]
    refine W_seq ?_
    refine W_seq ?_
    refine W_region ?_
    refine WL_val rfl rfl rfl (by exact rMoveI rfl rfl) ?_
    refine WL_nil ?_
    refine W_block ?_
    refine W_seq ?_
    refine W_region ?_
    refine WL_val rfl rfl rfl (by exact rEqlF rfl rfl rfl (by omega)) ?_
    refine WL_val rfl rfl rfl (by exact rAsgnB rfl rfl) ?_
    refine WL_nil ?_
    refine W_cond false rfl ?_
    refine W_seq ?_
    refine W_region ?_
    refine WL_val rfl rfl rfl (by exact rEqlF rfl rfl rfl (by omega)) ?_
    refine WL_val rfl rfl rfl (by exact rAsgnB rfl rfl) ?_
    refine WL_nil ?_
    refine W_cond false rfl ?_
    refine W_seq ?_
    refine W_region ?_
    refine WL_val rfl rfl rfl (by exact rEqlF rfl rfl rfl (by omega)) ?_
    refine WL_val rfl rfl rfl (by exact rAsgnB rfl rfl) ?_
    refine WL_nil ?_
    refine W_cond false rfl ?_
    refine W_seq ?_
    refine W_region ?_
    refine WL_val rfl rfl rfl (by exact rEqlF rfl rfl rfl (by omega)) ?_
    refine WL_val rfl rfl rfl (by exact rAsgnB rfl rfl) ?_
    refine WL_nil ?_
    refine W_cond false rfl ?_
    refine W_skip ?_
    refine W_seq ?_
    refine W_region ?_
    refine WL_val rfl rfl rfl (by exact rMoveI rfl rfl) ?_
    refine WL_val rfl rfl rfl (by exact rMoveS rfl rfl) ?_
    refine WL_call rfl rfl rfl (rCall (vs := [.slice _ _ _]) rfl Tryz.func79 rfl rfl rfl) ?_
    refine (hcl _ hI.pu).mono ?_
    rintro e1 w1 ⟨A1, c1, rfl, hT⟩
    refine ⟨_, rfl, ?_⟩
    replace hI := hI.app1 hT
    refine WL_val rfl rfl rfl (by exact rMoveI rfl rfl) ?_
    refine WL_val rfl rfl rfl (by exact rMoveI rfl rfl) ?_
    refine WL_call rfl rfl rfl (rCall (vs := [.int .i64 _, .slice _ _ _, .int .i64 _, .int .i64 _]) rfl Tryz.func81 rfl rfl rfl) ?_
    refine (line_any 4 A1 c1 st k a _ (hI.ok (StE A1 c1 st) (by simp)) hb).mono ?_
    rintro e1 w1 ⟨A2, c2, rfl, hT2⟩
    refine ⟨_, rfl, ?_⟩
    replace hI := hI.turn1 hT2
    refine WL_val rfl rfl rfl (by exact rMoveT rfl rfl) ?_
    refine WL_val rfl rfl rfl (rExtr rfl rfl rfl) ?_
    refine WL_val rfl rfl rfl (rExtr rfl rfl rfl) ?_
    refine WL_val rfl rfl rfl (by exact rAsgnS rfl rfl) ?_
    refine WL_val rfl rfl rfl (by exact rAsgnI rfl rfl) ?_
    refine WL_nil ?_
    refine W_seq ?_
    refine W_region ?_
    refine WL_val rfl rfl rfl (by exact rMoveS rfl rfl) ?_
    refine WL_val rfl rfl rfl (by exact rMoveI rfl rfl) ?_
    refine WL_val rfl rfl rfl (by exact rAsgnS rfl rfl) ?_
    refine WL_val rfl rfl rfl (by exact rAsgnI rfl rfl) ?_
    refine WL_val rfl rfl rfl (by exact rAsgnB rfl rfl) ?_
    refine WL_nil ?_
    refine W_ret ?_
    exact ret3 10 11 12 (.inr rfl) rfl (StepPost.some (st' := (lineF 4 st k a).1) (r := (lineF 4 st k a).2) e rfl hI)
  · -- a line
    have e : stepF 5 st k a b = some (lineF 5 st k a) := by unfold stepF; rw [if_neg hgo, if_neg (by decide), if_neg (by decide), if_neg (by decide), if_neg (by decide)]
    refine W_seq ?_
    refine W_seq ?_
    refine W_region ?_
    refine WL_val rfl rfl rfl (by exact rMoveI rfl rfl) ?_
    refine WL_nil ?_
    refine W_block ?_
    refine W_seq ?_
    refine W_region ?_
    refine WL_val rfl rfl rfl (by exact rEqlF rfl rfl rfl (by omega)) ?_
    refine WL_val rfl rfl rfl (by exact rAsgnB rfl rfl) ?_
    refine WL_nil ?_
    refine W_cond false rfl ?_
    refine W_seq ?_
    refine W_region ?_
    refine WL_val rfl rfl rfl (by exact rEqlF rfl rfl rfl (by omega)) ?_
    refine WL_val rfl rfl rfl (by exact rAsgnB rfl rfl) ?_
    refine WL_nil ?_
    refine W_cond false rfl ?_
    refine W_seq ?_
    refine W_region ?_
    refine WL_val rfl rfl rfl (by exact rEqlF rfl rfl rfl (by omega)) ?_
    refine WL_val rfl rfl rfl (by exact rAsgnB rfl rfl) ?_
    refine WL_nil ?_
    refine W_cond false rfl ?_
    refine W_seq ?_
    refine W_region ?_
    refine WL_val rfl rfl rfl (by exact rEqlF rfl rfl rfl (by omega)) ?_
    refine WL_val rfl rfl rfl (by exact rAsgnB rfl rfl) ?_
    refine WL_nil ?_
    refine W_cond false rfl ?_
    refine W_skip ?_
    refine W_seq ?_
    refine W_region ?_
    refine WL_val rfl rfl rfl (by exact rMoveI rfl rfl) ?_
    refine WL_val rfl rfl rfl (by exact rMoveS rfl rfl) ?_
    refine WL_call rfl rfl rfl (rCall (vs := [.slice _ _ _]) rfl Tryz.func79 rfl rfl rfl) ?_
    refine (hcl _ hI.pu).mono ?_
    rintro e1 w1 ⟨A1, c1, rfl, hT⟩
    refine ⟨_, rfl, ?_⟩
    replace hI := hI.app1 hT
    refine WL_val rfl rfl rfl (by exact rMoveI rfl rfl) ?_
    refine WL_val rfl rfl rfl (by exact rMoveI rfl rfl) ?_
    refine WL_call rfl rfl rfl (rCall (vs := [.int .i64 _, .slice _ _ _, .int .i64 _, .int .i64 _]) rfl Tryz.func81 rfl rfl rfl) ?_
    refine (line_any 5 A1 c1 st k a _ (hI.ok (StE A1 c1 st) (by simp)) hb).mono ?_
    rintro e1 w1 ⟨A2, c2, rfl, hT2⟩
    refine ⟨_, rfl, ?_⟩
    replace hI := hI.turn1 hT2
    refine WL_val rfl rfl rfl (by exact rMoveT rfl rfl) ?_
    refine WL_val rfl rfl rfl (rExtr rfl rfl rfl) ?_
    refine WL_val rfl rfl rfl (rExtr rfl rfl rfl) ?_
    refine WL_val rfl rfl rfl (by exact rAsgnS rfl rfl) ?_
    refine WL_val rfl rfl rfl (by exact rAsgnI rfl rfl) ?_
    refine WL_nil ?_
    refine W_seq ?_
    refine W_region ?_
    refine WL_val rfl rfl rfl (by exact rMoveS rfl rfl) ?_
    refine WL_val rfl rfl rfl (by exact rMoveI rfl rfl) ?_
    refine WL_val rfl rfl rfl (by exact rAsgnS rfl rfl) ?_
    refine WL_val rfl rfl rfl (by exact rAsgnI rfl rfl) ?_
    refine WL_val rfl rfl rfl (by exact rAsgnB rfl rfl) ?_
    refine WL_nil ?_
    refine W_ret ?_
    exact ret3 10 11 12 (.inr rfl) rfl (StepPost.some (st' := (lineF 5 st k a).1) (r := (lineF 5 st k a).2) e rfl hI)
  · -- a mutex
    obtain ⟨bA, oA, z, rfl, rfl, hz⟩ := one rfl
    refine W_seq ?_
    refine W_seq ?_
    refine W_region ?_
    refine WL_val rfl rfl rfl (by exact rMoveI rfl rfl) ?_
    refine WL_nil ?_
    refine W_block ?_
    refine W_seq ?_
    refine W_region ?_
    refine WL_val rfl rfl rfl (by exact rEqlF rfl rfl rfl (by omega)) ?_
    refine WL_val rfl rfl rfl (by exact rAsgnB rfl rfl) ?_
    refine WL_nil ?_
    refine W_cond false rfl ?_
    refine W_seq ?_
    refine W_region ?_
    refine WL_val rfl rfl rfl (by exact rEqlF rfl rfl rfl (by omega)) ?_
    refine WL_val rfl rfl rfl (by exact rAsgnB rfl rfl) ?_
    refine WL_nil ?_
    refine W_cond false rfl ?_
    refine W_seq ?_
    refine W_region ?_
    refine WL_val rfl rfl rfl (by exact rEqlF rfl rfl rfl (by omega)) ?_
    refine WL_val rfl rfl rfl (by exact rAsgnB rfl rfl) ?_
    refine WL_nil ?_
    refine W_cond false rfl ?_
    refine W_seq ?_
    refine W_region ?_
    refine WL_val rfl rfl rfl (by exact rEqlT rfl rfl rfl (by omega)) ?_
    refine WL_val rfl rfl rfl (by exact rAsgnB rfl rfl) ?_
    refine WL_nil ?_
    refine W_cond true rfl ?_
    by_cases hz1 : z = oneF (k == 12)
    · have e : stepF 6 [z] k a b = some ([oneF (k == 11)], 0) := by unfold stepF; rw [if_neg hgo, if_neg (by decide), if_neg (by decide), if_neg (by decide), if_pos rfl, if_pos (by simpa using hz1)]
      refine W_seq ?_
      refine W_seq ?_
      refine W_draw (by kernel_rfl) ?_
      refine WA_inv (T := []) hI.drew ?_
      intro Sx hSx hXS
      replace hI := hI.drew
      refine WT_take 0 rfl rfl (by kernel_rfl) (hXS _ hI) rfl (fun W hW => have hI := hSx W hW; (by exact rMoveS rfl rfl)) ?_
      refine WT_take 1 rfl rfl (by kernel_rfl) (hXS _ hI) rfl (fun W hW => have hI := hSx W hW; (rIdx1 (i := 0) rfl Tryz.underlying37 (by kernel_rfl) rfl rfl (by simp))) ?_
      refine WT_take 2 rfl rfl (by kernel_rfl) (hXS _ hI) rfl (fun W hW => have hI := hSx W hW; (by exact rLd (v := .int .i64 _) rfl (by kernel_rfl) rfl (by exact hI.oldp hz))) ?_
      refine WT_take 3 rfl rfl (by kernel_rfl) (hXS _ hI) rfl (fun W hW => have hI := hSx W hW; (by exact rMoveI rfl rfl)) ?_
      refine WT_take 4 rfl rfl (by kernel_rfl) (hXS _ hI) rfl (fun W hW => have hI := hSx W hW; (rEql rfl rfl rfl)) ?_
      refine WT_one 5 rfl (by kernel_rfl) rfl ?_
      refine WL_call rfl rfl rfl (rCall (vs := [.bool _]) rfl Tryz.func80 rfl rfl rfl) ?_
      refine (one_any (k == 12) _).mono ?_
      rw [← hz1]
      rintro e1 w1 ⟨rfl, hp⟩
      refine ⟨_, rfl, ?_⟩
      replace hI := hI.pure hp
      refine WL_nil ⟨hXS _ hI, ?_⟩
      refine WT_take 6 rfl rfl (by kernel_rfl) (hXS _ hI) rfl (fun W hW => have hI := hSx W hW; (by exact rNeqF rfl rfl rfl (by omega))) ?_
      refine WT_end (by kernel_rfl) ?_
      refine W_cond false rfl ?_
      refine W_skip ?_
      refine W_seq ?_
      refine W_region ?_
      refine WL_val rfl rfl rfl (by exact rMoveI rfl rfl) ?_
      refine WL_val rfl rfl rfl (rEql rfl rfl rfl) ?_
      refine WL_call rfl rfl rfl (rCall (vs := [.bool _]) rfl Tryz.func80 rfl rfl rfl) ?_
      refine (one_any (k == 11) _).mono ?_
      rintro e1 w1 ⟨rfl, hp⟩
      refine ⟨_, rfl, ?_⟩
      replace hI := hI.pure hp
      refine WL_lit (vs := [_]) (qs := [(0, .int .i64 _)]) [.int .i64 0] [0] hI rfl rfl rfl rfl rfl rfl Tryz.underlying37 (fun _ => by kernel_rfl) ?_
      clear hI; rintro b82 w - - hI
      refine WL_val rfl rfl rfl (by exact rAsgnS rfl rfl) ?_
      refine WL_val rfl rfl rfl (by exact rAsgnI rfl rfl) ?_
      refine WL_val rfl rfl rfl (by exact rAsgnB rfl rfl) ?_
      refine WL_nil ?_
      refine W_ret ?_
      exact ret3 10 11 12 (.inr rfl) rfl (StepPost.some e rfl (lit1 hI))
    · have e : stepF 6 [z] k a b = none := by unfold stepF; rw [if_neg hgo, if_neg (by decide), if_neg (by decide), if_neg (by decide), if_pos rfl, if_neg (by simpa using hz1)]
      refine W_seq ?_
      refine W_seq ?_
      refine W_draw (by kernel_rfl) ?_
      refine WA_inv (T := []) hI.drew ?_
      intro Sx hSx hXS
      replace hI := hI.drew
      refine WT_take 0 rfl rfl (by kernel_rfl) (hXS _ hI) rfl (fun W hW => have hI := hSx W hW; (by exact rMoveS rfl rfl)) ?_
      refine WT_take 1 rfl rfl (by kernel_rfl) (hXS _ hI) rfl (fun W hW => have hI := hSx W hW; (rIdx1 (i := 0) rfl Tryz.underlying37 (by kernel_rfl) rfl rfl (by simp))) ?_
      refine WT_take 2 rfl rfl (by kernel_rfl) (hXS _ hI) rfl (fun W hW => have hI := hSx W hW; (by exact rLd (v := .int .i64 _) rfl (by kernel_rfl) rfl (by exact hI.oldp hz))) ?_
      refine WT_take 3 rfl rfl (by kernel_rfl) (hXS _ hI) rfl (fun W hW => have hI := hSx W hW; (by exact rMoveI rfl rfl)) ?_
      refine WT_take 4 rfl rfl (by kernel_rfl) (hXS _ hI) rfl (fun W hW => have hI := hSx W hW; (rEql rfl rfl rfl)) ?_
      refine WT_one 5 rfl (by kernel_rfl) rfl ?_
      refine WL_call rfl rfl rfl (rCall (vs := [.bool _]) rfl Tryz.func80 rfl rfl rfl) ?_
      refine (one_any (k == 12) _).mono ?_
      generalize hzz : oneF (k == 12) = zz at hz1 ⊢
      rintro e1 w1 ⟨rfl, hp⟩
      refine ⟨_, rfl, ?_⟩
      replace hI := hI.pure hp
      refine WL_nil ⟨hXS _ hI, ?_⟩
      refine WT_take 6 rfl rfl (by kernel_rfl) (hXS _ hI) rfl (fun W hW => have hI := hSx W hW; (by exact rNeqT rfl rfl rfl (by omega))) ?_
      refine WT_end (by kernel_rfl) ?_
      refine W_cond true rfl ?_
      refine W_seq ?_
      refine W_region ?_
      refine WL_val rfl rfl rfl (by exact rAsgnS rfl rfl) ?_
      refine WL_val rfl rfl rfl (by exact rAsgnI rfl rfl) ?_
      refine WL_val rfl rfl rfl (by exact rAsgnB rfl rfl) ?_
      refine WL_nil ?_
      refine W_ret ?_
      exact ret3 10 11 12 (.inr rfl) rfl (StepPost.none e hI.pu)
end Go.Proofs.YtglioflpblpmpaaGreatDoor
namespace Go.Proofs.YtglioflpblpmpaaGreatDoor
set_option linter.unusedVariables false
set_option linter.unusedSimpArgs false
structure Op8 where
  proc : Int
  key : Int
  kind : Int
  a : Int
  b : Int
  res : Int
  call : Int
  ret : Int
deriving DecidableEq
def opV (o : Op8) : List Value := [.int .i64 o.proc, .int .i64 o.key, .int .i64 o.kind, .int .i64 o.a, .int .i64 o.b, .int .i64 o.res, .int .i64 o.call, .int .i64 o.ret]
def oAt (l : List Op8) (k : Nat) : Op8 := l.getD k ⟨0, 0, 0, 0, 0, 0, 0, 0⟩
abbrev Sts8 := Nat → Option (List Int)
def updS (g : Sts8) (k : Nat) (st : List Int) : Sts8 := fun j => if j = k then some st else g j
/-- Ops done in an order: the place of the first one that isn't told what it would be, or -1. -/
def runTo (o : Int) (ops : List Op8) : List Int → Nat → Sts8 → Int
  | [], _, _ => -1
  | i :: r, p, g =>
    if i < 0 ∨ (ops.length : Int) ≤ i then (p : Int) else
    match stepF o ((g (oAt ops i.toNat).key.toNat).getD (startF o)) (oAt ops i.toNat).kind (oAt ops i.toNat).a (oAt ops i.toNat).b with
    | none => (p : Int)
    | some (st', res) => if 0 ≤ (oAt ops i.toNat).ret ∧ res ≠ (oAt ops i.toNat).res then (p : Int) else runTo o ops r (p + 1) (updS g (oAt ops i.toNat).key.toNat st')
def runF (o : Int) (ops : List Op8) (order : List Int) : Int := runTo o ops order 0 (fun _ => none)
theorem stepF_len {o : Int} {st st' : List Int} {k a b r : Int} (h : stepF o st k a b = some (st', r)) : st'.length ≤ st.length + 1 := by
  unfold stepF at h
  split at h
  · cases h
  split at h
  · injection h with h; injection h with h1 _; subst h1; simp
  split at h
  · injection h with h; injection h with h1 _; subst h1; simp
  split at h
  · injection h with h
    have h1 : (setF st k a).1 = st' := by rw [h]
    subst h1
    have := posF_le st a
    unfold setF
    split
    · simp [insF]; omega
    · split
      · simp [delF]; omega
      · simp
  split at h
  · split at h
    · injection h with h; injection h with h1 _; subst h1; simp
    · cases h
  · injection h with h
    have h1 : (lineF o st k a).1 = st' := by rw [h]
    subst h1
    unfold lineF
    split
    · simp
    · split
      · simp
      · split
        · simp; omega
        · simp; omega
theorem startF_len (o : Int) : (startF o).length ≤ 1 := by
  unfold startF
  split <;> simp
end Go.Proofs.YtglioflpblpmpaaGreatDoor
namespace Go.Proofs.YtglioflpblpmpaaGreatDoor
open Go.RowKit
set_option linter.unusedVariables false
set_option linter.unusedSimpArgs false
def OpsR (w : World) (D : Nat → Prop) (v : Value) (l : List Op8) : Prop := Rd w D 8 v l.length (l.flatMap opV)
theorem OpsR.pure {w w' : World} {D : Nat → Prop} {v : Value} {l : List Op8} (h : OpsR w D v l) (hp : Pure w w') : OpsR w' D v l := Rd.pure h hp
theorem OpsR.at {w : World} {D : Nat → Prop} {A : Option Addr} {n c : Nat} {l : List Op8} (h : OpsR w D (.slice A n c) l) {k : Nat} (hk : k < l.length) : ∃ b o, A = some ⟨b, o, none⟩ ∧ ∀ (j : Nat) (u : Value), (opV (oAt l k))[j]? = some u → w.cell? ⟨b, o + k * 8 + j, none⟩ = some u := by
  obtain ⟨A1, c1, hv, hnc, hcm, hlen, hcell⟩ := h
  injection hv with e1 e2 e3
  subst e1 e3
  obtain ⟨b, o, hbo, _, hcl⟩ := hcell (by omega)
  refine ⟨b, o, hbo, fun j u hj => ?_⟩
  have hj8 : j < 8 := by have := (List.getElem?_eq_some_iff.1 hj).1; simpa [opV] using this
  have hg : l[k]? = some (oAt l k) := by unfold oAt; rw [List.getD_eq_getElem?_getD, List.getElem?_eq_getElem hk]; rfl
  rw [Nat.add_assoc]
  refine hcl _ u ?_
  rw [flatN (f := opV) (fun a => rfl) l k _ hg j hj8]
  exact hj
theorem OpsR.len {w : World} {D : Nat → Prop} {A : Option Addr} {n c : Nat} {l : List Op8} (h : OpsR w D (.slice A n c) l) : n = l.length ∧ n ≤ c ∧ c ≤ 9223372036854775807 := by
  obtain ⟨A', c', he, h1, h2⟩ := Rd.form h
  injection he with _ e2 e3
  subst e2 e3
  exact ⟨rfl, h1, h2⟩
/-- Where states lie. -/
abbrev Loc := Nat → Option Addr × Nat
def stV8 (g : Sts8) (L : Loc) : Int → Option Value := fun m => if 0 ≤ m ∧ m < 8 then (g m.toNat).map (fun st => .slice (L m.toNat).1 st.length (L m.toNat).2) else none
def stE8 (g : Sts8) (L : Loc) (k : Nat) : Ent := match g k with | none => Ent.nil | some st => StE (L k).1 (L k).2 st
def updL (L : Loc) (k : Nat) (A : Option Addr) (c : Nat) : Loc := fun j => if j = k then (A, c) else L j
end Go.Proofs.YtglioflpblpmpaaGreatDoor
