/- The search gives back what it came with; what takes longer; the order of processes: plain. Nothing of the program. -/
import Derived.Test.YtijgkocolajghaaDoorSrch3
namespace Go.Proofs.YtijgkocolajghaaDoor
set_option linter.unusedVariables false
set_option linter.unusedSimpArgs false
section
variable {o : Int} {l : List Op8} {ab : Op8 → Op8 → Bool}
theorem loop_back {rec : SSt → Int × SSt} : ∀ (r : List Nat) (s : SSt), (loopF o l ab rec r s).1 = 2 → (loopF o l ab rec r s).2.dn = s.dn ∧ (loopF o l ab rec r s).2.sts = s.sts ∧ (loopF o l ab rec r s).2.ord = s.ord
  | [], s, _ => ⟨rfl, rfl, rfl⟩
  | i :: r, s, h => by
    unfold loopF at h ⊢
    split
    · rename_i hx
      rw [hx] at h
      exact loop_back r s h
    · rename_i hx
      rw [hx] at h
      simp only at h
      split
      · rename_i hg
        rw [hg] at h
        exact loop_back r s h
      · rename_i st' hg
        rw [hg] at h
        simp only at h
        by_cases h2 : (rec (stepS l s i st')).1 = 2
        · rw [if_pos h2] at h ⊢
          exact loop_back r ⟨s.dn, s.sts, s.ord, (rec (stepS l s i st')).2.ent⟩ h
        · rw [if_neg h2] at h
          exact absurd h h2
theorem enter_back {bud : Nat} : ∀ (f : Nat) (s : SSt), (enterF o l ab bud f s).1 = 2 → (enterF o l ab bud f s).2.dn = s.dn ∧ (enterF o l ab bud f s).2.sts = s.sts ∧ (enterF o l ab bud f s).2.ord = s.ord
  | 0, s, _ => ⟨rfl, rfl, rfl⟩
  | f + 1, s, h => by
    cases ha : allF l s.dn with
    | true => rw [enterF_all ha]; exact ⟨rfl, rfl, rfl⟩
    | false =>
      by_cases hk : keyF l.length s.dn s.sts ∈ s.ent
      · rw [enterF_old ha hk]; exact ⟨rfl, rfl, rfl⟩
      · by_cases hb : s.ent.length = bud
        · rw [enterF_over ha hk hb]; exact ⟨rfl, rfl, rfl⟩
        · rw [enterF_go ha hk hb] at h ⊢
          exact loop_back _ _ h
theorem enter_eq {f bud : Nat} {s : SSt} (h : (enterF o l ab bud f s).1 = 2) : (enterF o l ab bud f s).2 = ⟨s.dn, s.sts, s.ord, (enterF o l ab bud f s).2.ent⟩ := by
  obtain ⟨h1, h2, h3⟩ := enter_back f s h
  generalize (enterF o l ab bud f s).2 = t at h1 h2 h3 ⊢
  cases t
  subst h1 h2 h3
  rfl
end
theorem oAt_take {l : List Op8} {i k : Nat} (h : k < i) : oAt (l.take i) k = oAt l k := by
  unfold oAt
  rw [List.getD_eq_getElem?_getD, List.getD_eq_getElem?_getD, List.getElem?_take_of_lt h]
theorem calls_rise {l : List Op8} (h : OkOps l) {i : Nat} : ∀ {k : Nat}, i < k → k < l.length → (oAt l i).call < (oAt l k).call
  | 0, hik, _ => by omega
  | k + 1, hik, hk => by
    have h1 := (h.2 (k + 1) hk).2.2.1.2.1
    have hlen : (l.take (k + 1)).length = k + 1 := by simp; omega
    rw [hlen, Nat.add_sub_cancel, oAt_take (by omega)] at h1
    have h2 : (oAt l k).call < (oAt l (k + 1)).call := by
      have := fun hh => h1 ⟨by omega, hh⟩
      omega
    rcases Nat.lt_or_ge i k with h3 | h3
    · have := calls_rise h h3 (by omega)
      omega
    · obtain rfl : i = k := by omega
      exact h2
def procB (p q : Op8) : Bool := decide (p.proc = q.proc) && decide (p.call < q.call)
theorem proc_bef {l : List Op8} (h : OkOps l) {k i : Nat} (hk : k < l.length) (hi : i < l.length) (hp : procB (oAt l k) (oAt l i) = true) : befB (oAt l k) (oAt l i) = true := by
  unfold procB at hp
  simp only [Bool.and_eq_true, decide_eq_true_eq] at hp
  have hki : k < i := by
    rcases Nat.lt_or_ge k i with h1 | h1
    · exact h1
    · rcases Nat.lt_or_ge i k with h2 | h2
      · have := calls_rise h h2 hk
        omega
      · obtain rfl : k = i := by omega
        omega
  have h5 := (h.2 i hi).2.2.2.2 k (by simp; omega)
  rw [oAt_take hki] at h5
  exact h5 hp.1
/-- Valid in the order of time, valid in the order of processes. -/
theorem seq_law {o : Int} {l : List Op8} {b : Int} {bud bud' : Nat} (hok : OkLin o l b) (hl : l.length ≤ 8) (hb : 109601 ≤ bud) (hv : (verdF o l befB bud').1 = 1) : (verdF o l procB bud).1 = 1 := by
  have h1 := verd_shows (argsOk hok) hv
  have h2 := verd_not_invalid (ab := procB) (argsOk hok) (fun k i hk hi hp => proc_bef hok.2.2.2.2.1 hk hi hp) h1 bud
  have h3 := verd_known (o := o) (ab := procB) hl hb
  rcases enter_code (o := o) (l := l) (ab := procB) (bud := bud) (l.length + 1) (startS o) with h4 | h4 | h4
  · exact h4
  · exact absurd h4 h2
  · exact absurd h4 h3
/-- What takes longer. -/
structure Wider (l l' : List Op8) : Prop where
  len : l'.length = l.length
  same : ∀ i, i < l.length → (oAt l' i).key = (oAt l i).key ∧ (oAt l' i).kind = (oAt l i).kind ∧ (oAt l' i).a = (oAt l i).a ∧ (oAt l' i).b = (oAt l i).b ∧ (oAt l' i).res = (oAt l i).res
  sign : ∀ i, i < l.length → (0 ≤ (oAt l' i).ret ↔ 0 ≤ (oAt l i).ret)
  call : ∀ i, i < l.length → (oAt l' i).call = 3 * (oAt l i).call
  ret : ∀ i, i < l.length → 0 ≤ (oAt l i).ret → 3 * (oAt l i).ret ≤ (oAt l' i).ret
theorem wider_run {o : Int} {l l' : List Op8} (h : Wider l l') : ∀ (r : List Int) (p : Nat) (g : Sts8), runTo o l' r p g = runTo o l r p g
  | [], p, g => rfl
  | i :: r, p, g => by
    unfold runTo
    rw [h.len]
    by_cases hi : i < 0 ∨ (l.length : Int) ≤ i
    · rw [if_pos hi, if_pos hi]
    · rw [if_neg hi, if_neg hi]
      have hlt : i.toNat < l.length := by omega
      obtain ⟨e1, e2, e3, e4, e5⟩ := h.same _ hlt
      have e6 := h.sign _ hlt
      rw [e1, e2, e3, e4, e5]
      split
      · rfl
      · rename_i st' res hs
        by_cases hc : 0 ≤ (oAt l i.toNat).ret ∧ res ≠ (oAt l i.toNat).res
        · rw [if_pos hc, if_pos ⟨e6.2 hc.1, hc.2⟩]
        · rw [if_neg hc, if_neg (fun hh => hc ⟨e6.1 hh.1, hh.2⟩)]
          exact wider_run h r _ _
theorem wider_shows {o : Int} {l l' : List Op8} (h : Wider l l') {order : List Int} (hs : ShowsP o l order) : ShowsP o l' order := by
  obtain ⟨h1, h2, h3⟩ := hs
  have hbef : ∀ i k, i < l.length → k < l.length → befB (oAt l i) (oAt l k) = false → befB (oAt l' i) (oAt l' k) = false := by
    intro i k hi hk hb
    unfold befB at hb ⊢
    have e1 := h.sign i hi
    have e2 := h.call k hk
    have e3 := h.ret i hi
    by_cases h0 : 0 ≤ (oAt l i).ret
    · have := e3 h0
      simp [h0] at hb
      simp
      omega
    · have : ¬ 0 ≤ (oAt l' i).ret := fun hh => h0 (e1.1 hh)
      simp [this]
  refine ⟨fun j hj hjj => ?_, fun i hi hr => ?_, by unfold runF at h3 ⊢; rw [wider_run h]; exact h3⟩
  · obtain ⟨g1, g2, g3, g4⟩ := h1 j hj hjj
    refine ⟨g1, by rw [h.len]; exact g2, g3, fun i hi hij => ?_⟩
    obtain ⟨f1, f2, _, _⟩ := h1 i hi hi
    exact hbef _ _ (by omega) (by omega) (g4 i hi hij)
  · rw [h.len] at hi
    exact h2 i hi ((h.sign i hi).1 hr)
theorem OkLin.bud {o : Int} {l : List Op8} {b b' : Int} (h : OkLin o l b) (h0 : 0 ≤ b') (h1 : b' ≤ 1000000) : OkLin o l b' := ⟨h.1, h.2.1, h0, h1, h.2.2.2.2.1, h.2.2.2.2.2⟩
section
variable {o : Int} {l : List Op8} {ab : Op8 → Op8 → Bool}
theorem loop_ord {rec : SSt → Int × SSt} {m : Nat} (hrec : ∀ s, (rec s).2.ord.length ≤ s.ord.length + m) : ∀ (r : List Nat) (s : SSt), (loopF o l ab rec r s).2.ord.length ≤ s.ord.length + (m + 1)
  | [], s => Nat.le_add_right _ _
  | i :: r, s => by
    unfold loopF
    split
    · exact loop_ord hrec r s
    · split
      · exact loop_ord hrec r s
      · split
        · exact loop_ord hrec r _
        · rename_i st' _ _
          have := hrec (stepS l s i st')
          simp only [stepS, List.length_append, List.length_singleton] at this ⊢
          omega
theorem enter_ord {bud : Nat} : ∀ (f : Nat) (s : SSt), (enterF o l ab bud f s).2.ord.length ≤ s.ord.length + f
  | 0, s => Nat.le_refl _
  | f + 1, s => by
    unfold enterF
    split
    · exact Nat.le_add_right _ _
    · split
      · exact Nat.le_add_right _ _
      · split
        · exact Nat.le_add_right _ _
        · exact loop_ord (enter_ord f) _ (putE l s)
end
end Go.Proofs.YtijgkocolajghaaDoor
