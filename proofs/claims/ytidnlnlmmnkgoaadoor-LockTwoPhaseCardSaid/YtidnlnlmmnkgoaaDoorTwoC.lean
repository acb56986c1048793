/- lock: plain: the rounds. -/
import Derived.Test.YtidnlnlmmnkgoaaDoorTwoB
namespace Go.Proofs.YtidnlnlmmnkgoaaDoor
open Go.RowKit
set_option linter.unusedVariables false
set_option linter.unusedSimpArgs false
structure Stall (p : List (List St)) (s s' : Rn) (j : Nat) : Prop where
  same : Same s s'
  wait : ∀ x, x < j → s.over.getD x false = false → s.ats.getD x 0 < (rowP p x).length ∧ agx p s x ≠ [] ∧ s'.wait x = some (agx p s x)
  no : ∀ k, k < j → ¬ PathB p.length (wf p s) k k k
theorem Same.mu {p : List (List St)} {s s' : Rn} (h : Same s s') : mu p s' = mu p s := by
  have : left1 p s' = left1 p s := by
    funext x
    unfold left1
    rw [h.2.1, h.2.2.1]
  unfold Go.Proofs.YtidnlnlmmnkgoaaDoor.mu
  rw [this]
theorem path_end {p : List (List St)} {s : Rn} {n k a b : Nat} (h : PathB n (wf p s) k a b) : s.over.getD b false = false := by
  induction h using PathB.ind with
  | one _ _ h3 => exact (wf_iff.1 h3).1
  | cons _ _ _ _ _ ih => exact ih
theorem path_reach {p : List (List St)} {s : Rn} {wait : Nat → Option (List Nat)} {n j : Nat} (hw : ∀ x, x < j + 1 → s.over.getD x false = false → wait x = some (agx p s x)) (hl : WLt wait) {a b : Nat} (h : PathB n (wf p s) j a b) : b = j → a ∈ reachF wait j := by
  have hr := reach_spec hl j
  induction h using PathB.ind with
  | @one a b h1 h2 h3 =>
    rintro rfl
    obtain ⟨h4, h5⟩ := wf_iff.1 h3
    refine hr.1 a ?_
    unfold wl
    rw [hw b (by omega) h4]
    exact h5
  | @cons a b c h1 h2 hk h3 hp ih =>
    intro hc
    obtain ⟨h4, h5⟩ := wf_iff.1 h3
    refine hr.2 b (ih hc) a ?_
    unfold wl
    rw [hw b (by omega) h4]
    exact h5
structure Rnd (p : List (List St)) (s : Rn) (m : Nat) : Prop where
  ok : POk p.length p s m
  wov : WOv s
  hov : HOv s
theorem POk.wlt8 {p : List (List St)} {s : Rn} {m : Nat} (h : POk p.length p s m) (h8 : p.length ≤ 8) : WLt s.wait := fun x l hl => by
  obtain ⟨h1, h2⟩ := h.wlt x l hl
  exact ⟨h1, fun y hy => by have := h2 y hy; omega⟩
theorem Rnd.go {p : List (List St)} (hp : PlanOk p) {s : Rn} {m tx : Nat} (h : Rnd p s m) (ht : tx < p.length) : Rnd p (goR p s tx) (m + 2) := by
  have := go_ov hp h.ok h.wov h.hov ht
  exact ⟨h.ok.go ht rfl hp, this.1, this.2⟩
theorem round_go {p : List (List St)} (hp : PlanOk p) {s : Rn} {m : Nat} (h : Rnd p s m) : ∀ j, j ≤ p.length → Rnd p ((List.range j).foldl (goR p) s) (m + 2 * j) ∧ mu p ((List.range j).foldl (goR p) s) ≤ mu p s ∧
    mu p ((List.range j).foldl (goR p) s) + ((List.range j).foldl (goR p) s).done.length ≤ mu p s + s.done.length ∧ (mu p ((List.range j).foldl (goR p) s) + 1 ≤ mu p s ∨ Stall p s ((List.range j).foldl (goR p) s) j)
  | 0, _ => ⟨h, Nat.le_refl _, Nat.le_refl _, .inr ⟨⟨rfl, rfl, rfl, rfl, rfl⟩, fun x hx => by omega, fun k hk => by omega⟩⟩
  | j + 1, hj => by
    obtain ⟨hR, hmu, hdl, hc⟩ := round_go hp h j (by omega)
    have e : (List.range (j + 1)).foldl (goR p) s = goR p ((List.range j).foldl (goR p) s) j := by rw [List.range_succ, List.foldl_append]; rfl
    rw [e]
    obtain ⟨sj, hsj⟩ : ∃ sj, (List.range j).foldl (goR p) s = sj := ⟨_, rfl⟩
    rw [hsj] at hR hmu hdl hc ⊢
    have hR' := hR.go hp (show j < p.length by omega)
    refine ⟨hR', ?_⟩
    rcases go_mu hp hR.ok hR.wov (show j < p.length by omega) with ⟨h1, h2⟩ | ⟨hS, hwhy⟩
    · exact ⟨by omega, by omega, .inl (by omega)⟩
    · have hmm := hS.mu (p := p)
      refine ⟨by omega, by rw [hS.2.2.2.1]; omega, ?_⟩
      rcases hc with hc | hc
      · exact .inl (by omega)
      right
      have hS2 : Same s (goR p sj j) := ⟨hS.1.trans hc.same.1, hS.2.1.trans hc.same.2.1, hS.2.2.1.trans hc.same.2.2.1, hS.2.2.2.1.trans hc.same.2.2.2.1, hS.2.2.2.2.trans hc.same.2.2.2.2⟩
      rcases hwhy with ⟨ho, heq⟩ | ⟨ho, hat, hag, hw, hnr⟩
      · rw [hc.same.2.2.1] at ho
        refine ⟨hS2, fun x hx hxo => ?_, fun k hk hpk => ?_⟩
        · by_cases hxj : x = j
          · subst hxj; rw [ho] at hxo; cases hxo
          · rw [heq]; exact hc.wait x (by omega) hxo
        · by_cases hkj : k = j
          · subst hkj
            have := path_end hpk
            rw [ho] at this; cases this
          · exact hc.no k (by omega) hpk
      · have hax : agx p sj j = agx p s j := agx_congr hc.same.1 hc.same.2.1 j
        rw [hax] at hag hw
        have hwx : ∀ x, x < j + 1 → s.over.getD x false = false → s.ats.getD x 0 < (rowP p x).length ∧ agx p s x ≠ [] ∧ (goR p sj j).wait x = some (agx p s x) := fun x hx hxo => by
          rw [hw]
          dsimp only
          by_cases hxj : x = j
          · subst hxj
            rw [if_pos rfl]
            rw [hc.same.2.1] at hat
            have := h.ok.hat x (by omega)
            exact ⟨by omega, fun e => by rw [e] at hag; simp at hag, rfl⟩
          · rw [if_neg hxj]
            exact hc.wait x (by omega) hxo
        refine ⟨hS2, hwx, fun k hk hpk => ?_⟩
        by_cases hkj : k = j
        · subst hkj
          exact hnr (path_reach (fun x hx hxo => (hwx x hx hxo).2.2) (hR'.ok.wlt8 hp.1) hpk rfl)
        · exact hc.no k (by omega) hpk
theorem round_less {p : List (List St)} (hp : PlanOk p) {s : Rn} {m : Nat} (h : Rnd p s m) (hf : false ∈ s.over) : mu p (roundR p s) + 1 ≤ mu p s := by
  obtain ⟨_, _, _, hc | hc⟩ := round_go hp h p.length (Nat.le_refl _)
  · exact hc
  · exfalso
    refine acyc_of hc.no ?_
    obtain ⟨x, hx⟩ := List.getElem?_of_mem hf
    have hxl := (List.getElem?_eq_some_iff.1 hx).1
    rw [h.ok.over] at hxl
    refine cyc_of_pred (fun v => v < p.length ∧ s.over.getD v false = false) (fun v hv => hv.1) (fun v hv => ?_) x ⟨hxl, by rw [List.getD_eq_getElem?_getD, hx]; rfl⟩
    obtain ⟨h1, h2, _⟩ := hc.wait v hv.1 hv.2
    obtain ⟨u, hu⟩ := List.exists_mem_of_ne_nil _ h2
    have hh := (agTo_mem hu).1
    have hk := (stepP_ok hp hv.1 h1).2.2.2
    exact ⟨u, ⟨h.ok.sup _ u hh, h.hov _ u (by omega) hh⟩, wf_iff.2 ⟨hv.2, hu⟩⟩
theorem least_of {P : Nat → Prop} : ∀ n, P n → ∃ N, N ≤ n ∧ P N ∧ ∀ k, k < N → ¬ P k
  | 0, h => ⟨0, Nat.le_refl _, h, fun k hk => by omega⟩
  | n + 1, h => by
    by_cases hn : ∃ k, k ≤ n ∧ P k
    · obtain ⟨k, hk, hP⟩ := hn
      obtain ⟨N, h1, h2, h3⟩ := least_of k hP
      exact ⟨N, by omega, h2, h3⟩
    · exact ⟨n + 1, Nat.le_refl _, h, fun k hk hP => hn ⟨k, by omega, hP⟩⟩
theorem rounds_rnd {p : List (List St)} (hp : PlanOk p) {s : Rn} {m : Nat} (h : Rnd p s m) : ∀ k, Rnd p (roundsR p k s) (m + 16 * k) ∧ mu p (roundsR p k s) + (roundsR p k s).done.length ≤ mu p s + s.done.length
  | 0 => ⟨h, Nat.le_refl _⟩
  | k + 1 => by
    obtain ⟨hR, hd⟩ := rounds_rnd hp h k
    obtain ⟨h1, _, h2, _⟩ := round_go hp hR p.length (Nat.le_refl _)
    exact ⟨⟨rounds_ok hp h.ok (k + 1), h1.wov, h1.hov⟩, by show mu p (roundR p _) + (roundR p _).done.length ≤ _; unfold roundR; omega⟩
theorem rounds_end {p : List (List St)} (hp : PlanOk p) {s : Rn} {m : Nat} (h : Rnd p s m) : ∃ N, N ≤ mu p s ∧ (∀ k, k < N → false ∈ (roundsR p k s).over) ∧ false ∉ (roundsR p N s).over := by
  have key : ∀ k, (∃ j, j < k ∧ false ∉ (roundsR p j s).over) ∨ mu p (roundsR p k s) + k ≤ mu p s := fun k => by
    induction k with
    | zero => exact .inr (Nat.le_refl _)
    | succ k ih =>
      rcases ih with ⟨j, h1, h2⟩ | ih
      · exact .inl ⟨j, by omega, h2⟩
      · by_cases hf : false ∈ (roundsR p k s).over
        · have := round_less hp (rounds_rnd hp h k).1 hf
          right
          show mu p (roundR p (roundsR p k s)) + (k + 1) ≤ _
          omega
        · exact .inl ⟨k, by omega, hf⟩
  obtain ⟨j, hj, hn⟩ := (key (mu p s + 1)).resolve_right (by omega)
  obtain ⟨N, h1, h2, h3⟩ := least_of (P := fun j => false ∉ (roundsR p j s).over) j hn
  exact ⟨N, by omega, fun k hk => Classical.byContradiction (h3 k hk), h2⟩
theorem init_rnd (p : List (List St)) : Rnd p (initR p.length) 0 := ⟨POk.init p p.length, fun x hx => absurd rfl hx, fun k x _ hx => absurd rfl hx⟩
theorem pick_rnd {p : List (List St)} (hp : PlanOk p) : ∀ (picks : List Int) {s : Rn} {m : Nat}, Rnd p s m → Rnd p (picks.foldl (pickR p) s) (m + 2 * picks.length) ∧ mu p (picks.foldl (pickR p) s) ≤ mu p s ∧ mu p (picks.foldl (pickR p) s) + (picks.foldl (pickR p) s).done.length ≤ mu p s + s.done.length
  | [], s, m, h => ⟨h, Nat.le_refl _, Nat.le_refl _⟩
  | z :: picks, s, m, h => by
    rw [List.foldl_cons]
    by_cases hz : 0 ≤ z ∧ z < p.length
    · have e : pickR p s z = goR p s z.toNat := by unfold pickR; rw [if_pos hz]
      rw [e]
      have ht : z.toNat < p.length := by omega
      obtain ⟨h1, h2, h3⟩ := pick_rnd hp picks (h.go hp ht)
      have hm : mu p (goR p s z.toNat) ≤ mu p s ∧ mu p (goR p s z.toNat) + (goR p s z.toNat).done.length ≤ mu p s + s.done.length := by
        rcases go_mu hp h.ok h.wov ht with ⟨h4, h5⟩ | ⟨hS, _⟩
        · omega
        · rw [hS.mu, hS.2.2.2.1]; omega
      refine ⟨⟨?_, h1.wov, h1.hov⟩, by omega, by omega⟩
      have e2 : m + 2 + 2 * picks.length = m + 2 * (z :: picks).length := by simp; omega
      rw [← e2]
      exact h1.ok
    · have e : pickR p s z = s := by unfold pickR; rw [if_neg hz]
      rw [e]
      obtain ⟨h1, h2, h3⟩ := pick_rnd hp picks h
      refine ⟨⟨?_, h1.wov, h1.hov⟩, h2, h3⟩
      have ih := h1.ok
      exact ⟨ih.ats, ih.over, ih.waits, ih.two, ih.sup, by have := ih.dlen; simp; omega, by have := ih.vlen; simp; omega, ih.wlt, ih.wkey, fun y hy => by have := ih.wvals y hy; simp; omega, ih.hat⟩
end Go.Proofs.YtidnlnlmmnkgoaaDoor
