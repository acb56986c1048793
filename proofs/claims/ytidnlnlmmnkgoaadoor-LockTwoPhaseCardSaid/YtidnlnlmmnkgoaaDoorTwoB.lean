/- lock: plain: each round brings something; so they end. -/
import Derived.Test.YtidnlnlmmnkgoaaDoorTwoA
namespace Go.Proofs.YtidnlnlmmnkgoaaDoor
open Go.RowKit
set_option linter.unusedVariables false
set_option linter.unusedSimpArgs false
/-- The four ways to go on. -/
theorem go_cases {p : List (List St)} {s : Rn} {m tx : Nat} (hp : PlanOk p) (hP : POk p.length p s m) (hW : WOv s) (ht : tx < p.length) :
    (s.over.getD tx false = true ∧ goR p s tx = s) ∨
    (s.over.getD tx false = false ∧ s.ats.getD tx 0 = (rowP p tx).length ∧ goR p s tx = endR (delW s tx) tx 3) ∨
    (s.over.getD tx false = false ∧ s.ats.getD tx 0 < (rowP p tx).length ∧ 0 < (agx p s tx).length ∧ ∃ s1 : Rn, Same s s1 ∧ s1.wait = (fun x => if x = tx then some (agx p s tx) else s.wait x) ∧
      ((tx ∉ reachF s1.wait tx ∧ goR p s tx = s1) ∨ ∃ v, v < p.length ∧ s.over.getD v false = false ∧ goR p s tx = endR { s1 with vict := s1.vict ++ [v] } v 4)) ∨
    (s.over.getD tx false = false ∧ s.ats.getD tx 0 < (rowP p tx).length ∧ agx p s tx = [] ∧ goR p s tx = stepR (delW s tx) tx (stepP p s tx)) := by
  unfold goR
  cases ho : s.over.getD tx false with
  | true =>
    rw [if_pos rfl]
    exact .inl ⟨rfl, rfl⟩
  | false =>
    right
    rw [if_neg (by simp)]
    by_cases hat : s.ats.getD tx 0 = (rowP p tx).length
    · rw [if_pos (show (delW s tx).ats.getD tx 0 = _ from hat)]
      exact .inl ⟨rfl, hat, rfl⟩
    · right
      rw [if_neg (show ¬ (delW s tx).ats.getD tx 0 = _ from hat)]
      have hlt : s.ats.getD tx 0 < (rowP p tx).length := by have := hP.hat tx ht; omega
      by_cases hag : 0 < (agx p s tx).length
      · rw [if_pos (show 0 < (agR (delW s tx) (stepP p s tx)).length from hag)]
        left
        refine ⟨rfl, hlt, hag, waitS (delW s tx) tx (agR (delW s tx) (stepP p s tx)), ⟨rfl, rfl, rfl, rfl, rfl⟩, ?_, ?_⟩
        · funext x
          show (if x = tx then some _ else (if x = tx then none else s.wait x)) = _
          by_cases hx : x = tx
          · rw [if_pos hx, if_pos hx]; rfl
          · rw [if_neg hx, if_neg hx, if_neg hx]
        have hw : (waitS (delW s tx) tx (agR (delW s tx) (stepP p s tx))).wait = fun x => if x = tx then some (agx p s tx) else s.wait x := by
          funext x
          show (if x = tx then some _ else (if x = tx then none else s.wait x)) = _
          by_cases hx : x = tx
          · rw [if_pos hx, if_pos hx]; rfl
          · rw [if_neg hx, if_neg hx, if_neg hx]
        unfold waitR
        dsimp only
        by_cases hr : tx ∈ reachF (waitS (delW s tx) tx (agR (delW s tx) (stepP p s tx))).wait tx
        · rw [if_pos hr]
          right
          obtain ⟨hv1, hv2⟩ := vic_spec hr
          obtain ⟨v, hv⟩ : ∃ v, vicF (waitS (delW s tx) tx (agR (delW s tx) (stepP p s tx))) tx = v := ⟨_, rfl⟩
          rw [hv] at hv1 hv2
          rw [hv]
          have hn := reach_none hv2
          rw [hw] at hn
          have hvo : v < p.length ∧ s.over.getD v false = false := by
            by_cases hvt : v = tx
            · subst hvt; exact ⟨ht, ho⟩
            · have hn : (if v = tx then some (agx p s tx) else s.wait v) ≠ none := hn
              rw [if_neg hvt] at hn
              obtain ⟨l, hl⟩ := Option.ne_none_iff_exists'.1 hn
              exact ⟨hP.wkey v l hl, hW v hn⟩
          exact ⟨v, hvo.1, hvo.2, rfl⟩
        · rw [if_neg hr]
          exact .inl ⟨hr, rfl⟩
      · rw [if_neg (show ¬ 0 < (agR (delW s tx) (stepP p s tx)).length from hag)]
        right
        exact ⟨rfl, hlt, List.eq_nil_of_length_eq_zero (by omega), rfl⟩
theorem endR_wov {s : Rn} {v kind : Nat} (h : WOv s) : WOv (endR s v kind) := fun x hx => by
  have hx : (if x = v then none else s.wait x) ≠ none := hx
  by_cases hv : x = v
  · rw [if_pos hv] at hx; exact absurd rfl hx
  · rw [if_neg hv] at hx
    show (s.over.set v true).getD x false = false
    rw [getD_set_ne (fun e => hv e.symm)]
    exact h x hx
theorem endR_hov {s : Rn} {v kind : Nat} (h : HOv s) : HOv (endR s v kind) := fun k x hk hx => by
  have hx : (if k < 8 ∧ x = v then 0 else s.held k x) ≠ 0 := hx
  by_cases hv : x = v
  · rw [if_pos ⟨hk, hv⟩] at hx; exact absurd rfl hx
  · rw [if_neg (fun e => hv e.2)] at hx
    show (s.over.set v true).getD x false = false
    rw [getD_set_ne (fun e => hv e.symm)]
    exact h k x hk hx
theorem delW_wov {s : Rn} {tx : Nat} (h : WOv s) : WOv (delW s tx) := fun x hx => by
  have hx : (if x = tx then none else s.wait x) ≠ none := hx
  split at hx
  · exact absurd rfl hx
  · exact h x hx
theorem stepP_mem {p : List (List St)} {s : Rn} {tx : Nat} (h : s.ats.getD tx 0 < (rowP p tx).length) : stepP p s tx ∈ rowP p tx := by
  unfold stepP
  rw [List.getD_eq_getElem?_getD, List.getElem?_eq_getElem h]
  exact List.getElem_mem _
theorem row_get {p : List (List St)} {tx : Nat} (h : tx < p.length) : p[tx]? = some (rowP p tx) := by
  unfold rowP
  rw [List.getD_eq_getElem?_getD, List.getElem?_eq_getElem h]; rfl
theorem stepP_ok {p : List (List St)} {s : Rn} {tx : Nat} (hp : PlanOk p) (ht : tx < p.length) (h : s.ats.getD tx 0 < (rowP p tx).length) : (stepP p s tx).tx = (tx : Int) ∧ 1 ≤ (stepP p s tx).kind ∧ (stepP p s tx).kind ≤ 2 ∧ 0 ≤ (stepP p s tx).key ∧ (stepP p s tx).key < 8 :=
  (hp.2 tx _ (row_get ht)).2 _ (stepP_mem h)
theorem wait_wov {s s1 : Rn} {tx : Nat} {l : List Nat} (hW : WOv s) (hS : Same s s1) (ho : s.over.getD tx false = false) (hw : s1.wait = fun x => if x = tx then some l else s.wait x) : WOv s1 := fun x hx => by
  rw [hw] at hx
  rw [hS.2.2.1]
  by_cases hxt : x = tx
  · subst hxt; exact ho
  · have hx : (if x = tx then some l else s.wait x) ≠ none := hx
    rw [if_neg hxt] at hx
    exact hW x hx
theorem go_ov {p : List (List St)} {s : Rn} {m tx : Nat} (hp : PlanOk p) (hP : POk p.length p s m) (hW : WOv s) (hH : HOv s) (ht : tx < p.length) : WOv (goR p s tx) ∧ HOv (goR p s tx) := by
  rcases go_cases hp hP hW ht with ⟨_, e⟩ | ⟨ho, _, e⟩ | ⟨ho, _, _, s1, hS, hw, ⟨_, e⟩ | ⟨v, hv, hvo, e⟩⟩ | ⟨ho, hat, _, e⟩
  · rw [e]; exact ⟨hW, hH⟩
  · rw [e]
    exact ⟨endR_wov (delW_wov hW), endR_hov (s := delW s tx) hH⟩
  · rw [e]
    exact ⟨wait_wov hW hS ho hw, fun k x hk hx => by rw [hS.2.2.1]; rw [hS.1] at hx; exact hH k x hk hx⟩
  · rw [e]
    have h1 := wait_wov hW hS ho hw
    have h2 : HOv s1 := fun k x hk hx => by rw [hS.2.2.1]; rw [hS.1] at hx; exact hH k x hk hx
    exact ⟨endR_wov (s := { s1 with vict := s1.vict ++ [v] }) h1, endR_hov (s := { s1 with vict := s1.vict ++ [v] }) h2⟩
  · rw [e]
    refine ⟨fun x hx => delW_wov hW x hx, fun k x hk hx => ?_⟩
    have hx : (if k = (stepP p s tx).key.toNat ∧ x = (stepP p s tx).tx.toNat then max (s.held _ _) _ else s.held k x) ≠ 0 := hx
    show s.over.getD x false = false
    have htx := (stepP_ok hp ht hat).1
    split at hx
    · rename_i he
      rw [he.2, htx]
      exact ho
    · exact hH k x hk hx
/-- v waits for u. -/
def wf (p : List (List St)) (s : Rn) (u v : Nat) : Bool := !s.over.getD v false && decide (u ∈ agx p s v)
theorem wf_iff {p : List (List St)} {s : Rn} {u v : Nat} : wf p s u v = true ↔ s.over.getD v false = false ∧ u ∈ agx p s v := by
  unfold wf
  simp
theorem PathB.tr {n k : Nat} {f : Nat → Nat → Bool} {a b c : Nat} (h : PathB n f k a b) (hb : b < k) (h2 : PathB n f k b c) : PathB n f k a c := by
  induction h using PathB.ind with
  | one h1 h3 h4 => exact .cons h1 h3 hb h4 h2
  | cons h1 h3 hk h4 _ ih => exact .cons h1 h3 hk h4 (ih hb h2)
theorem no_round {n : Nat} {f : Nat → Nat → Bool} (h : ∀ k, k < n → ¬ PathB n f k k k) : ∀ k, k ≤ n → ∀ a, a < k → ¬ PathB n f k a a
  | 0, _, a, ha, _ => by omega
  | k + 1, hk, a, ha, hp => by
    rcases hp.split with h1 | ⟨h1, h2⟩
    · by_cases hak : a = k
      · subst hak; exact h a (by omega) h1
      · exact no_round h k (by omega) a (by omega) h1
    · by_cases hak : a = k
      · subst hak; exact h a (by omega) h1
      · exact h k (by omega) (h2.tr (by omega) h1)
theorem acyc_of {n : Nat} {f : Nat → Nat → Bool} (h : ∀ k, k < n → ¬ PathB n f k k k) : ¬ Cyc n f := fun ⟨a, ha⟩ => no_round h n (Nat.le_refl _) a ha.lt.1 (.of_path ha)
end Go.Proofs.YtidnlnlmmnkgoaaDoor
