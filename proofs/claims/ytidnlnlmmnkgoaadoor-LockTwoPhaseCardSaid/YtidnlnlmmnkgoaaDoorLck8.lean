/- lock: plain: what holds of a run as it goes on. -/
import Derived.Test.YtidnlnlmmnkgoaaDoorLck7
namespace Go.Proofs.YtidnlnlmmnkgoaaDoor
open Go.RowKit
set_option linter.unusedVariables false
set_option linter.unusedSimpArgs false
structure POk (n : Nat) (p : List (List St)) (s : Rn) (m : Nat) : Prop where
  ats : s.ats.length = n
  over : s.over.length = n
  waits : s.waits.length = n
  two : ∀ k x, s.held k x ≤ 2
  sup : ∀ k x, s.held k x ≠ 0 → x < n
  dlen : s.done.length ≤ m
  vlen : s.vict.length ≤ m
  wlt : ∀ x l, s.wait x = some l → l.length ≤ 8 ∧ ∀ y ∈ l, y < n
  wkey : ∀ x l, s.wait x = some l → x < n
  wvals : ∀ y ∈ s.waits, y ≤ m
  hat : ∀ x, x < n → s.ats.getD x 0 ≤ (rowP p x).length
theorem POk.rn {n m : Nat} {p : List (List St)} {s : Rn} {L : RnL} (h : POk n p s m) (hn : L.n = n) (h8 : n ≤ 8) (hO : HOk s.held L.mo) : RnOk L s m :=
  ⟨by omega, by rw [hn]; exact h.ats, by rw [hn]; exact h.over, by rw [hn]; exact h.waits, hO, h.two, h.dlen, h.vlen, by rw [hn]; exact h.wlt, by rw [hn]; exact h.wkey, h.wvals⟩
theorem agTo_mem {f : Nat → Nat} {tx kind : Int} {j y : Nat} (h : y ∈ agTo f tx kind j) : f y ≠ 0 ∧ (y : Int) ≠ tx := by
  have := (List.mem_filter.1 h).2
  unfold agB at this
  simp only [Bool.and_eq_true, decide_eq_true_eq] at this
  exact this.1
theorem POk.del {n m tx : Nat} {p : List (List St)} {s : Rn} (h : POk n p s m) : POk n p (delW s tx) m :=
  ⟨h.ats, h.over, h.waits, h.two, h.sup, h.dlen, h.vlen, fun x l hl => by
    have hl : (if x = tx then none else s.wait x) = some l := hl
    split at hl
    · cases hl
    · exact h.wlt x l hl, fun x l hl => by
    have hl : (if x = tx then none else s.wait x) = some l := hl
    split at hl
    · cases hl
    · exact h.wkey x l hl, h.wvals, h.hat⟩
theorem POk.end {n m tx kind : Nat} {p : List (List St)} {s : Rn} (h : POk n p s m) : POk n p (endR s tx kind) (m + 1) :=
  ⟨h.ats, by show (s.over.set tx true).length = n; rw [List.length_set]; exact h.over, h.waits, fun k x => by
    show freeTo s.held tx 8 k x ≤ 2
    unfold freeTo
    split
    · omega
    · exact h.two k x, fun k x hx => by
    have hx : freeTo s.held tx 8 k x ≠ 0 := hx
    unfold freeTo at hx
    split at hx
    · exact absurd rfl hx
    · exact h.sup k x hx, by show (s.done ++ [_]).length ≤ m + 1; rw [List.length_append]; have := h.dlen; simp; omega, Nat.le_succ_of_le h.vlen, fun x l hl => by
    have hl : (if x = tx then none else s.wait x) = some l := hl
    split at hl
    · cases hl
    · exact h.wlt x l hl, fun x l hl => by
    have hl : (if x = tx then none else s.wait x) = some l := hl
    split at hl
    · cases hl
    · exact h.wkey x l hl, fun y hy => Nat.le_succ_of_le (h.wvals y hy), h.hat⟩
theorem mem_set_le {l : List Nat} {i v m : Nat} (h : ∀ y ∈ l, y ≤ m) (hv : v ≤ m) : ∀ y ∈ l.set i v, y ≤ m := fun y hy => by
  rcases List.mem_or_eq_of_mem_set hy with h1 | h1
  · exact h y h1
  · omega
theorem POk.waitS {n m tx : Nat} {p : List (List St)} {s : Rn} {l : List Nat} (h : POk n p s m) (ht : tx < n) (hl : l.length ≤ 8 ∧ ∀ y ∈ l, y < n) : POk n p (waitS s tx l) (m + 1) :=
  ⟨h.ats, h.over, by show (s.waits.set tx _).length = n; rw [List.length_set]; exact h.waits, h.two, h.sup, Nat.le_succ_of_le h.dlen, Nat.le_succ_of_le h.vlen, fun x l' hl' => by
    have hl' : (if x = tx then some l else s.wait x) = some l' := hl'
    split at hl'
    · injection hl' with hl'; subst hl'; exact hl
    · exact h.wlt x l' hl', fun x l' hl' => by
    have hl' : (if x = tx then some l else s.wait x) = some l' := hl'
    split at hl'
    · omega
    · exact h.wkey x l' hl', mem_set_le (fun y hy => Nat.le_succ_of_le (h.wvals y hy)) (by
      have := h.wvals (s.waits.getD tx 0) (by rw [List.getD_eq_getElem?_getD, List.getElem?_eq_getElem (by rw [h.waits]; exact ht)]; exact List.getElem_mem _)
      omega), h.hat⟩
theorem POk.waitR {n m tx : Nat} {p : List (List St)} {s : Rn} {l : List Nat} (h : POk n p s m) (ht : tx < n) (hl : l.length ≤ 8 ∧ ∀ y ∈ l, y < n) : POk n p (waitR s tx l) (m + 2) := by
  have h1 := h.waitS ht hl
  unfold Go.Proofs.YtidnlnlmmnkgoaaDoor.waitR
  dsimp only
  split
  · refine POk.end (m := m + 1) ⟨h1.ats, h1.over, h1.waits, h1.two, h1.sup, h1.dlen, ?_, h1.wlt, h1.wkey, h1.wvals, h1.hat⟩
    show (s.vict ++ [_]).length ≤ m + 1
    rw [List.length_append]
    have := h.vlen
    simp
    omega
  · exact ⟨h1.ats, h1.over, h1.waits, h1.two, h1.sup, Nat.le_succ_of_le h1.dlen, Nat.le_succ_of_le h1.vlen, h1.wlt, h1.wkey, fun y hy => Nat.le_succ_of_le (h1.wvals y hy), h1.hat⟩
theorem POk.go {n m tx : Nat} {p : List (List St)} {s : Rn} (h : POk n p s m) (ht : tx < n) (hn : p.length = n) (hp : PlanOk p) : POk n p (goR p s tx) (m + 2) := by
  have up : ∀ {s' : Rn}, POk n p s' (m + 1) → POk n p s' (m + 2) := fun h1 => ⟨h1.ats, h1.over, h1.waits, h1.two, h1.sup, Nat.le_succ_of_le h1.dlen, Nat.le_succ_of_le h1.vlen, h1.wlt, h1.wkey, fun y hy => Nat.le_succ_of_le (h1.wvals y hy), h1.hat⟩
  have hd := h.del (tx := tx)
  unfold goR
  split
  · exact ⟨h.ats, h.over, h.waits, h.two, h.sup, by have := h.dlen; omega, by have := h.vlen; omega, h.wlt, h.wkey, fun y hy => by have := h.wvals y hy; omega, h.hat⟩
  · split
    · exact up hd.end
    · rename_i hne
      split
      · refine hd.waitR ht ⟨agTo_len .., fun y hy => ?_⟩
        exact h.sup _ y (agTo_mem hy).1
      · refine up ?_
        have hrow : p[tx]? = some (rowP p tx) := by unfold rowP; rw [List.getD_eq_getElem?_getD, List.getElem?_eq_getElem (by omega)]; rfl
        have hat := h.hat tx ht
        have hne : s.ats.getD tx 0 ≠ (rowP p tx).length := hne
        have hmem : stepP p s tx ∈ rowP p tx := by
          unfold stepP
          have e : ∀ (l : List St) (i : Nat) (d : St), i < l.length → l.getD i d ∈ l := fun l i d hi => by rw [List.getD_eq_getElem?_getD, List.getElem?_eq_getElem hi]; exact List.getElem_mem _
          exact e _ _ _ (by omega)
        obtain ⟨t1, t2, t3, _⟩ := (hp.2 tx _ hrow).2 _ hmem
        refine ⟨by show (s.ats.set tx _).length = n; rw [List.length_set]; exact h.ats, h.over, h.waits, fun k x => ?_, fun k x hx => ?_, ?_, Nat.le_succ_of_le h.vlen, hd.wlt, hd.wkey, fun y hy => Nat.le_succ_of_le (h.wvals y hy), fun x hx => ?_⟩
        · show takeH s.held _ _ _ k x ≤ 2
          unfold takeH
          split
          · have := h.two (stepP p s tx).key.toNat (stepP p s tx).tx.toNat; omega
          · exact h.two k x
        · have hx : takeH s.held (stepP p s tx).key.toNat (stepP p s tx).tx.toNat (stepP p s tx).kind.toNat k x ≠ 0 := hx
          unfold takeH at hx
          split at hx
          · rename_i he; omega
          · exact h.sup k x hx
        · show (s.done ++ [_]).length ≤ m + 1
          rw [List.length_append]
          have := h.dlen
          simp
          omega
        · show (s.ats.set tx (s.ats.getD tx 0 + 1)).getD x 0 ≤ _
          have := h.hat x hx
          by_cases hxt : x = tx
          · subst hxt
            rw [List.getD_eq_getElem?_getD, List.getElem?_set_self (by rw [h.ats]; exact hx)]
            show s.ats.getD x 0 + 1 ≤ _
            omega
          · rw [List.getD_eq_getElem?_getD, List.getElem?_set_ne (fun e => hxt e.symm), ← List.getD_eq_getElem?_getD]
            exact this
def initR (n : Nat) : Rn := ⟨fun _ _ => 0, List.replicate n 0, List.replicate n false, fun _ => none, [], List.replicate n 0, []⟩
theorem POk.init (p : List (List St)) (n : Nat) : POk n p (initR n) 0 :=
  ⟨by simp [initR], by simp [initR], by simp [initR], fun _ _ => Nat.zero_le _, fun _ _ h => absurd rfl h, Nat.le_refl _, Nat.le_refl _, fun _ _ h => (by cases h), fun _ _ h => (by cases h), fun y hy => (by rw [List.eq_of_mem_replicate hy]; omega), fun x hx => by
    show (List.replicate n 0).getD x 0 ≤ _
    simp [List.getD, hx]⟩
def pickR (p : List (List St)) (s : Rn) (tx : Int) : Rn := if 0 ≤ tx ∧ tx < p.length then goR p s tx.toNat else s
def roundR (p : List (List St)) (s : Rn) : Rn := (List.range p.length).foldl (goR p) s
end Go.Proofs.YtidnlnlmmnkgoaaDoor
