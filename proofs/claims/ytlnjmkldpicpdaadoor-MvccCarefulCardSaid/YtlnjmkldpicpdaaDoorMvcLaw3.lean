/- mvcc: plain: a careful base has no pivot. -/
import Derived.Test.YtlnjmkldpicpdaaDoorMvcLaw2
namespace Go.Proofs.YtlnjmkldpicpdaaDoor
open Go.RowKit
set_option linter.unusedVariables false
set_option linter.unusedSimpArgs false
def NoPiv (s : Bs) : Prop := ∀ i, i < s.txs.length → pivotF s i = false
theorem points_congr {s s' : Bs} {a b : Nat} (ha : txAt s' a = txAt s a) (hb : txAt s' b = txAt s b) : pointsF s' a b = pointsF s a b := by
  unfold pointsF; rw [ha, hb]
theorem points_no {s : Bs} {a b : Nat} (h : (txAt s a).com = -1 ∨ (txAt s b).com = -1) : pointsF s a b = false := by
  unfold pointsF
  rcases h with h | h <;> simp [h]
theorem pivot_iff {s : Bs} {i : Nat} : pivotF s i = true ↔ (∃ k, k < s.txs.length ∧ pointsF s i k = true) ∧ ∃ k, k < s.txs.length ∧ pointsF s k i = true := by
  unfold pivotF
  simp [List.any_eq_true]
theorem NoPiv.upd {s s' : Bs} (h : NoPiv s) {i : Nat} (hl : s'.txs.length = s.txs.length) (htx : ∀ k, k ≠ i → txAt s' k = txAt s k) (hc : (txAt s' i).com = -1) : NoPiv s' := by
  intro j hj
  rw [hl] at hj
  refine Bool.eq_false_iff.2 fun hp => ?_
  obtain ⟨⟨a, ha, pa⟩, b, hb, pb⟩ := pivot_iff.1 hp
  rw [hl] at ha hb
  have hji : j ≠ i := fun e => by subst e; rw [points_no (.inl hc)] at pa; cases pa
  have hai : a ≠ i := fun e => by subst e; rw [points_no (.inr hc)] at pa; cases pa
  have hbi : b ≠ i := fun e => by subst e; rw [points_no (.inl hc)] at pb; cases pb
  rw [points_congr (htx j hji) (htx a hai)] at pa
  rw [points_congr (htx b hbi) (htx j hji)] at pb
  have := h j hj
  rw [pivot_iff.2 ⟨⟨a, ha, pa⟩, b, hb, pb⟩] at this
  cases this
theorem NoPiv.commit {s s' : Bs} (h : NoPiv s) {i : Nat} (hi : i < s.txs.length) (hl : s'.txs.length = s.txs.length) (htx : ∀ k, k ≠ i → txAt s' k = txAt s k) (hr : roundF s' i = false) : NoPiv s' := by
  have hr' : ∀ k, k < s.txs.length → (k = i ∨ pointsF s' i k = true ∨ pointsF s' k i = true) → pivotF s' k = false := fun k hk hc => by
    unfold roundF at hr
    rw [hl] at hr
    have := List.any_eq_false.1 hr k (List.mem_range.2 hk)
    refine Bool.eq_false_iff.2 fun hp => this ?_
    rw [hp]
    rcases hc with e | e | e
    · simp [e]
    · simp [e]
    · simp [e]
  intro j hj
  rw [hl] at hj
  refine Bool.eq_false_iff.2 fun hp => ?_
  have hno : ¬ (j = i ∨ pointsF s' i j = true ∨ pointsF s' j i = true) := fun hc => by rw [hr' j hj hc] at hp; cases hp
  obtain ⟨⟨a, ha, pa⟩, b, hb, pb⟩ := pivot_iff.1 hp
  rw [hl] at ha hb
  have hji : j ≠ i := fun e => hno (.inl e)
  have hai : a ≠ i := fun e => hno (.inr (.inr (e ▸ pa)))
  have hbi : b ≠ i := fun e => hno (.inr (.inl (e ▸ pb)))
  rw [points_congr (htx j hji) (htx a hai)] at pa
  rw [points_congr (htx b hbi) (htx j hji)] at pb
  have := h j hj
  rw [pivot_iff.2 ⟨⟨a, ha, pa⟩, b, hb, pb⟩] at this
  cases this
theorem NoPiv.notick {s : Bs} {i : Nat} {t : Mx} (h : NoPiv s) (hi : i < s.txs.length) (hc : t.com = -1) : NoPiv (setTx (tick s) i t) :=
  h.upd (i := i) (setTx_len ..) (fun k hk => by rw [txAt_set (s := tick s) hi, if_neg hk]; rfl) (by rw [txAt_set (s := tick s) hi, if_pos rfl]; exact hc)
theorem points_ord (s : Bs) (i k a b : Nat) : pointsF (ordTo s i k) a b = pointsF s a b := rfl
theorem round_ord (s : Bs) (i k a : Nat) : roundF (ordTo s i k) a = roundF s a := rfl
theorem NoPiv.do {s : Bs} (h : NoPiv s) (hs : Sane s) (hcar : s.careful = true) (tx kind key : Int) : NoPiv (doF s tx kind key).1 := by
  unfold doF
  by_cases hok : OkAsk s tx kind key
  · rw [if_pos hok]
    have hi : tx.toNat < s.txs.length := by have := hok.htx; omega
    have hci := hs.free hi hok.hover
    unfold actF
    by_cases k1 : kind = 1
    · rw [if_pos k1]; exact h.notick hi hci
    · rw [if_neg k1]
      by_cases k2 : kind = 2
      · rw [if_pos k2]; exact h.notick hi hci
      · rw [if_neg k2]
        by_cases k3 : kind = 3
        · rw [if_pos k3]; exact h.notick hi hci
        · rw [if_neg k3]
          by_cases k4 : kind = 4
          · rw [if_pos k4]
            rcases commit_cases (tick s) (i := tx.toNat) hi hci with e | ⟨s2, e2, hbt, hrd, e⟩
            · rw [e]; exact h.notick hi hci
            · rw [e]
              have e3 : ∀ k, txAt s2 k = if k = tx.toNat then ⟨(txAt s tx.toNat).ops, (txAt s tx.toNat).beg, s.time + 1, true⟩ else txAt s k := fun k => by rw [e2, txAt_set (s := tick s) hi]; rfl
              refine h.commit (i := tx.toNat) hi (by rw [e2]; exact setTx_len ..) (fun k hk => by show txAt s2 k = _; rw [e3, if_neg hk]) ?_
              rw [round_ord]
              exact hrd hcar
          · rw [if_neg k4]; exact h.notick hi hci
  · rw [if_neg hok]; exact h
theorem NoPiv.new (n : Nat) (car : Bool) : NoPiv (newS n car) := fun i hi => by
  refine Bool.eq_false_iff.2 fun hp => ?_
  obtain ⟨⟨a, ha, pa⟩, _⟩ := pivot_iff.1 hp
  rw [points_no (.inl (by rw [newS_tx (by simpa [newS] using hi)]))] at pa
  cases pa
theorem NoPiv.run : ∀ (l : List Ask) {s : Bs}, NoPiv s → Sane s → s.careful = true → NoPiv (runA s l)
  | [], _, h, _, _ => h
  | a :: l, s, h, hs, hc => NoPiv.run l (s := stepA s a) (NoPiv.do h hs hc _ _ _) (hs.do ..) ((doF_len s a.tx a.kind a.key).2.trans hc)
theorem careful_law {s : Bs} (hs : Sane s) (h : NoPiv s) : ¬ Cyc s.txs.length (allF (stT s) (stG s)) := fun hc => by
  obtain ⟨q, p, t, hq, hp, ht, _, _, _, _, _, _, e1, e2⟩ := round_law hs hc
  have := h p hp
  rw [pivot_iff.2 ⟨⟨t, ht, e2⟩, q, hq, e1⟩] at this
  cases this
theorem careful_level {s : Bs} (hs : Sane s) (h : NoPiv s) : levelF (findsF s.txs.length (stT s) (stG s)) = 3 := by
  obtain ⟨y, hy⟩ := snapshot_law hs _ rfl
  obtain ⟨d, a, b, r, z, y', e, _, _, e2⟩ := levels_law s.txs.length (stT s) (stG s)
  rw [hy] at e
  injection e with e0 e
  injection e with e1 e
  injection e with e3 e
  injection e with e4 e
  injection e with e5 e
  injection e with e6 e
  subst e4 e6
  have hn : (orderF s.txs.length (allF (stT s) (stG s))).isNone = false := Bool.eq_false_iff.2 fun h' => careful_law hs h ((isNone_iff ..).1 h')
  rw [hn] at e2
  have : y = false := by simpa using e2.symm
  rw [hy, this]
  rfl
end Go.Proofs.YtlnjmkldpicpdaaDoor
