/- LockAlone, plain: one behind the other nobody waits. -/
import Derived.Test.YtidnlnlmmnkgoaaLckC
namespace Go.Proofs.Ytidnlnlmmnkgoaa
open Go.RowKit
set_option linter.unusedVariables false
set_option linter.unusedSimpArgs false
def aloneT (p : List (List St)) (t : Nat) : List Int := (List.range t).flatMap fun t => List.replicate ((rowP p t).length + 1) (t : Int)
def aloneTo (p : List (List St)) (t i : Nat) : List Int := aloneT p t ++ List.replicate i (t : Int)
theorem aloneT_succ (p : List (List St)) (t : Nat) : aloneT p (t + 1) = aloneTo p t ((rowP p t).length + 1) := by
  unfold aloneTo aloneT
  rw [List.range_succ, List.flatMap_append]
  simp
theorem aloneTo_succ (p : List (List St)) (t i : Nat) : aloneTo p t (i + 1) = aloneTo p t i ++ [(t : Int)] := by
  unfold aloneTo
  rw [List.append_assoc, List.replicate_succ']
theorem sumTo_row {p : List (List St)} {t : Nat} (h : t < p.length) : sumTo p (t + 1) = sumTo p t + (rowP p t).length := by
  have hrow : p[t]? = some (rowP p t) := by unfold rowP; rw [List.getD_eq_getElem?_getD, List.getElem?_eq_getElem h]; rfl
  exact sumTo_succ hrow
theorem aloneT_len (p : List (List St)) : ∀ t, t ≤ p.length → (aloneT p t).length = t + sumTo p t
  | 0, _ => rfl
  | t + 1, h => by
    rw [aloneT_succ, aloneTo, List.length_append, aloneT_len p t (by omega), List.length_replicate, sumTo_row (by omega)]
    omega
theorem sumTo_mono (p : List (List St)) {i : Nat} : ∀ j, i ≤ j → j ≤ p.length → sumTo p i ≤ sumTo p j
  | 0, h, _ => by have : i = 0 := by omega
                  subst this; exact Nat.le_refl _
  | j + 1, h, hj => by
    rcases Nat.lt_or_ge j i with h1 | h1
    · have : i = j + 1 := by omega
      subst this; exact Nat.le_refl _
    · have := sumTo_mono p j h1 (by omega)
      rw [sumTo_row (by omega)]
      omega
/-- How it stands when transaction t has been let go on i times. -/
structure AlI (p : List (List St)) (t i : Nat) (s : Rn) : Prop where
  held : ∀ k x, s.held k x ≠ 0 → x = t ∧ k < 8
  alen : s.ats.length = p.length
  at0 : t < p.length → s.ats.getD t 0 = i
  ats : ∀ x, t < x → x < p.length → s.ats.getD x 0 = 0
  olen : s.over.length = p.length
  over : ∀ x, x < p.length → s.over.getD x false = decide (x < t)
  wait : ∀ x, s.wait x = none
  vict : s.vict = []
  waits : s.waits = List.replicate p.length 0
  com : comN s.done s.done.length = t
theorem AlI.init (p : List (List St)) : AlI p 0 0 (initR p.length) where
  held := fun _ _ h => absurd rfl h
  alen := by simp [initR]
  at0 := fun h => by simp [initR, List.getD, h]
  ats := fun x _ h => by simp [initR, List.getD, h]
  olen := by simp [initR]
  over := fun x h => by simp [initR, List.getD, h]
  wait := fun _ => rfl
  vict := rfl
  waits := rfl
  com := rfl
theorem comN_snoc (l : List St) (s : St) : comN (l ++ [s]) (l ++ [s]).length = comN l l.length + if s.kind = 3 then 1 else 0 := by
  unfold comN
  rw [List.take_length, List.take_length, List.filter_append, List.length_append]
  by_cases h : s.kind = 3 <;> simp [h]
theorem AlI.step {p : List (List St)} {t i : Nat} {s : Rn} (h : AlI p t i s) (hp : PlanOk p) (ht : t < p.length) (hi : i < (rowP p t).length) : AlI p t (i + 1) (goR p s t) := by
  have hrow : p[t]? = some (rowP p t) := by unfold rowP; rw [List.getD_eq_getElem?_getD, List.getElem?_eq_getElem ht]; rfl
  have ho : s.over.getD t false = false := by rw [h.over t ht]; simp
  have ha := h.at0 ht
  have hmem : stepP p s t ∈ rowP p t := by
    have e : ∀ (l : List St) (i : Nat) (d : St), i < l.length → l.getD i d ∈ l := fun l i d hi => by rw [List.getD_eq_getElem?_getD, List.getElem?_eq_getElem hi]; exact List.getElem_mem _
    unfold stepP
    rw [ha]
    exact e _ _ _ hi
  obtain ⟨t1, t2, t3, t4, t5⟩ := (hp.2 t _ hrow).2 _ hmem
  have hag : agR (delW s t) (stepP p s t) = [] := by
    refine List.filter_eq_nil_iff.2 fun y _ hy => ?_
    unfold agB at hy
    simp only [Bool.and_eq_true, decide_eq_true_eq] at hy
    obtain ⟨⟨h1, h2⟩, _⟩ := hy
    have := (h.held _ y h1).1
    rw [t1] at h2
    omega
  have e : goR p s t = stepR (delW s t) t (stepP p s t) := by
    unfold goR
    rw [if_neg (by rw [ho]; simp), if_neg (by show ¬ s.ats.getD t 0 = _; omega), hag, if_neg (by simp)]
  rw [e]
  have ha2 : (delW s t).ats.getD t 0 = i := ha
  refine ⟨fun k x hk => ?_, by show (s.ats.set t _).length = _; rw [List.length_set]; exact h.alen, fun _ => ?_, fun x hx hxp => ?_, h.olen, h.over, fun x => ?_, h.vict, h.waits, ?_⟩
  · have hk : takeH s.held (stepP p s t).key.toNat (stepP p s t).tx.toNat (stepP p s t).kind.toNat k x ≠ 0 := hk
    unfold takeH at hk
    split at hk
    · rename_i he
      exact ⟨by omega, by omega⟩
    · exact h.held k x hk
  · show (s.ats.set t (s.ats.getD t 0 + 1)).getD t 0 = i + 1
    rw [List.getD_eq_getElem?_getD (l := s.ats.set t _), List.getElem?_set_self (by rw [h.alen]; exact ht), ha]
    rfl
  · show (s.ats.set t (s.ats.getD t 0 + 1)).getD x 0 = 0
    rw [List.getD_eq_getElem?_getD (l := s.ats.set t _), List.getElem?_set_ne (by omega), ← List.getD_eq_getElem?_getD]
    exact h.ats x hx hxp
  · show (if x = t then none else s.wait x) = none
    split
    · rfl
    · exact h.wait x
  · show comN (s.done ++ [_]) (s.done ++ [_]).length = t
    rw [comN_snoc, h.com, if_neg (by omega)]
    rfl
theorem AlI.fin {p : List (List St)} {t : Nat} {s : Rn} (h : AlI p t (rowP p t).length s) (ht : t < p.length) : AlI p (t + 1) 0 (goR p s t) := by
  have ho : s.over.getD t false = false := by rw [h.over t ht]; simp
  have ha := h.at0 ht
  have e : goR p s t = endR (delW s t) t 3 := by
    unfold goR
    rw [if_neg (by rw [ho]; simp), if_pos (show (delW s t).ats.getD t 0 = (rowP p t).length from ha)]
  rw [e]
  refine ⟨fun k x hk => ?_, h.alen, fun h1 => h.ats (t + 1) (by omega) h1, fun x hx hxp => h.ats x (by omega) hxp, by show (s.over.set t true).length = _; rw [List.length_set]; exact h.olen, fun x hx => ?_, fun x => ?_, h.vict, h.waits, ?_⟩
  · have hk : freeTo s.held t 8 k x ≠ 0 := hk
    unfold freeTo at hk
    split at hk
    · exact absurd rfl hk
    · rename_i hne
      have := h.held k x hk
      exact absurd ⟨this.2, this.1⟩ hne
  · show (s.over.set t true).getD x false = _
    by_cases hxt : x = t
    · subst hxt
      rw [List.getD_eq_getElem?_getD, List.getElem?_set_self (by rw [h.olen]; exact hx)]
      simp
    · rw [List.getD_eq_getElem?_getD, List.getElem?_set_ne (by omega), ← List.getD_eq_getElem?_getD, h.over x hx]
      simp only [decide_eq_decide]
      omega
  · show (if x = t then none else (if x = t then none else s.wait x)) = none
    split
    · rfl
    · exact h.wait x
  · show comN (s.done ++ [_]) (s.done ++ [_]).length = t + 1
    rw [comN_snoc, h.com]
    rfl
theorem alone_row {p : List (List St)} (hp : PlanOk p) {t : Nat} (ht : t < p.length) {s : Rn} (h : AlI p t 0 s) : ∀ i, i ≤ (rowP p t).length → AlI p t i ((List.replicate i (t : Int)).foldl (pickR p) s)
  | 0, _ => h
  | i + 1, hi => by
    have ih := alone_row hp ht h i (by omega)
    rw [List.replicate_succ', List.foldl_append]
    show AlI p t (i + 1) (pickR p _ (t : Int))
    unfold pickR
    rw [if_pos ⟨by omega, by omega⟩]
    exact ih.step hp ht (by omega)
theorem alone_all {p : List (List St)} (hp : PlanOk p) : ∀ t, t ≤ p.length → AlI p t 0 ((aloneT p t).foldl (pickR p) (initR p.length))
  | 0, _ => AlI.init p
  | t + 1, ht => by
    have ih := alone_row hp (by omega) (alone_all hp t (by omega)) _ (Nat.le_refl _)
    rw [aloneT_succ, aloneTo, List.foldl_append, List.replicate_succ', List.foldl_append]
    show AlI p (t + 1) 0 (pickR p _ (t : Int))
    unfold pickR
    rw [if_pos ⟨by omega, by omega⟩]
    exact ih.fin (by omega)
theorem alone_law {p : List (List St)} (hp : PlanOk p) : false ∉ (picksR p (aloneT p p.length)).over ∧ (picksR p (aloneT p p.length)).vict = [] ∧ (picksR p (aloneT p p.length)).waits = List.replicate p.length 0 ∧
    comN (picksR p (aloneT p p.length)).done (picksR p (aloneT p p.length)).done.length = p.length := by
  have h := alone_all hp p.length (Nat.le_refl _)
  refine ⟨fun hm => ?_, h.vict, h.waits, h.com⟩
  obtain ⟨x, hx⟩ := List.getElem?_of_mem hm
  have hl := (List.getElem?_eq_some_iff.1 hx).1
  have hol := h.olen
  have := h.over x (by unfold picksR at hl; omega)
  unfold picksR at hx
  rw [List.getD_eq_getElem?_getD, hx] at this
  simp at this
  unfold picksR at hl
  omega
end Go.Proofs.Ytidnlnlmmnkgoaa
