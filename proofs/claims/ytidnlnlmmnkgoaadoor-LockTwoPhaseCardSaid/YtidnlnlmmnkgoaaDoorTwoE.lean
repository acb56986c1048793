/- LockTwoPhase, plain. -/
import Derived.Test.YtidnlnlmmnkgoaaDoorTwoD
import Derived.Test.YtidnlnlmmnkgoaaDoorSerA
namespace Go.Proofs.YtidnlnlmmnkgoaaDoor
open Go.RowKit
set_option linter.unusedVariables false
set_option linter.unusedSimpArgs false
theorem placeTo_none {l : List St} {tx kind : Int} {a : Nat} : ∀ {j : Nat}, placeTo l tx kind a j = none → ∀ i, i < j → ¬ ((sAt l (a + i)).tx = tx ∧ (sAt l (a + i)).kind = kind)
  | 0, _, i, hi => by omega
  | j + 1, h, i, hi => by
    rw [placeTo] at h
    cases hp : placeTo l tx kind a j with
    | some k => rw [hp] at h; cases h
    | none =>
      rw [hp] at h
      simp only at h
      split at h
      · cases h
      · rename_i hn
        by_cases hij : i = j
        · subst hij; exact hn
        · exact placeTo_none hp i (by omega)
theorem placeF_none {l : List St} {tx kind : Int} {a b : Nat} (h : placeF l tx kind a b = none) {j : Nat} (h1 : a ≤ j) (h2 : j < b) : ¬ ((sAt l j).tx = tx ∧ (sAt l j).kind = kind) := by
  have := placeTo_none (j := b - a) h (j - a) (by omega)
  rwa [show a + (j - a) = j by omega] at this
theorem placeTo_some {l : List St} {tx kind : Int} {a : Nat} : ∀ {j k : Nat}, placeTo l tx kind a j = some k → k < a + j ∧ (sAt l k).tx = tx ∧ (sAt l k).kind = kind
  | 0, k, h => by cases h
  | j + 1, k, h => by
    rw [placeTo] at h
    cases hp : placeTo l tx kind a j with
    | some k' =>
      rw [hp] at h
      simp only at h
      injection h with h
      subst h
      have := placeTo_some hp
      exact ⟨by omega, this.2⟩
    | none =>
      rw [hp] at h
      simp only at h
      split at h
      · rename_i hc
        injection h with h
        subst h
        exact ⟨by omega, hc⟩
      · cases h
theorem writerTo_spec {l : List St} {i : Nat} : ∀ {k m : Nat}, writerTo l i k = some m → m < k ∧ (sAt l m).kind = 2 ∧ (sAt l m).key = (sAt l i).key ∧ placeF l (sAt l m).tx 4 m i = none
  | 0, m, h => by cases h
  | k + 1, m, h => by
    rw [writerTo] at h
    split at h
    · rename_i hc
      injection h with h
      subst h
      exact ⟨by omega, hc⟩
    · have := writerTo_spec h
      exact ⟨by omega, this.2⟩
section
variable {p : List (List St)} {s : Rn}
theorem TI.ok (h : TI p s) (h8 : p.length ≤ 8) (hl : s.done.length ≤ 60) : OkSteps s.done := by
  refine ⟨hl, fun k hk => ⟨?_, h.okat k hk⟩⟩
  obtain ⟨h1, h2, h3⟩ := h.good _ (sAt_mem hk)
  obtain ⟨a, ha⟩ : ∃ a, sAt s.done k = a := ⟨_, rfl⟩
  rw [ha] at h1 h2 h3 ⊢
  unfold stepE
  rw [if_neg (by omega), if_neg (by omega)]
/-- Behind one's end there is nothing of it. -/
theorem no_after {l : List St} (h : ∀ k, k < l.length → overTo l k (sAt l k).tx.toNat = false) {i j : Nat} (hij : i < j) (hj : j < l.length) (ht : (sAt l i).tx.toNat = (sAt l j).tx.toNat) : (sAt l i).kind < 3 := by
  refine Classical.byContradiction fun hk => ?_
  have key : ∀ d, i + 1 + d ≤ j → overTo l (i + 1 + d) (sAt l i).tx.toNat = true := fun d => by
    induction d with
    | zero =>
      intro _
      show overTo l (i + 1) _ = true
      rw [overTo]
      dsimp only
      rw [if_pos rfl]
      exact decide_eq_true (by omega)
    | succ d ih =>
      intro hd
      have ih := ih (by omega)
      show overTo l (i + 1 + d + 1) _ = true
      rw [overTo]
      dsimp only
      by_cases he : (sAt l i).tx.toNat = (sAt l (i + 1 + d)).tx.toNat
      · have := h (i + 1 + d) (by omega)
        rw [← he, ih] at this
        cases this
      · rw [if_neg he]; exact ih
  have h1 := key (j - (i + 1)) (by omega)
  rw [show i + 1 + (j - (i + 1)) = j by omega, ht, h j hj] at h1
  cases h1
theorem TI.careful (h : TI p s) : carTo s.done s.done.length = (true, true, true) := by
  have key : ∀ k, k ≤ s.done.length → carTo s.done k = (true, true, true) := fun k => by
    induction k with
    | zero => intro _; rfl
    | succ k ih =>
      intro hk
      rw [carTo, ih (by omega)]
      unfold carStep
      split
      · rfl
      rename_i hk3
      cases hw : writerF s.done k with
      | none => rfl
      | some m =>
        dsimp only
        by_cases htx : (sAt s.done m).tx = (sAt s.done k).tx
        · rw [if_pos htx]
        · rw [if_neg htx]
          obtain ⟨h1, h2, h3, h4⟩ := writerTo_spec hw
          have hc : clashB (sAt s.done m) (sAt s.done k) = true := by
            unfold clashB
            rw [decide_eq_true htx, decide_eq_true h3, decide_eq_true h2]
            rfl
          obtain ⟨e, e1, e2, e3, e4⟩ := h.strict m k h1 (by omega) hc (by omega) (by omega)
          obtain ⟨_, _, g⟩ := h.good _ (sAt_mem (show e < s.done.length by omega))
          have hne : placeF s.done (sAt s.done m).tx 3 0 k ≠ none := fun hn => by
            have n3 := placeF_none hn (Nat.zero_le e) e2
            have n4 := placeF_none h4 (Nat.le_of_lt e1) e2
            rcases g with g | ⟨g | g, _⟩
            · omega
            · exact n3 ⟨e3, g⟩
            · exact n4 ⟨e3, g⟩
          rw [if_pos hne]
  exact key _ (Nat.le_refl _)
/-- Where one commits. -/
def rank (l : List St) (x : Nat) : Nat := (placeF l (x : Int) 3 0 l.length).getD 0
theorem com_rank {l : List St} {x : Nat} (h : x ∈ commitsF l) : rank l x < l.length ∧ (sAt l (rank l x)).tx = (x : Int) ∧ (sAt l (rank l x)).kind = 3 := by
  have hb : comB l x = true := (List.mem_filter.1 h).2
  unfold comB at hb
  obtain ⟨st, hm, hs⟩ := List.any_eq_true.1 hb
  have hs := of_decide_eq_true hs
  obtain ⟨i, hi⟩ := List.getElem?_of_mem hm
  have hil := (List.getElem?_eq_some_iff.1 hi).1
  have hsi : sAt l i = st := by rw [sAt, List.getD_eq_getElem?_getD, hi]; rfl
  unfold rank
  cases hp : placeF l (x : Int) 3 0 l.length with
  | none =>
    have := placeF_none hp (Nat.zero_le i) hil
    rw [hsi] at this
    exact absurd hs this
  | some r =>
    have := placeTo_some hp
    exact ⟨by show r < _; omega, this.2⟩
theorem TI.rank_lt (h : TI p s) {i j : Nat} (hij : i < j) (hj : j < s.done.length) (hc : clashB (sAt s.done i) (sAt s.done j) = true) (hi : doneB s.done (sAt s.done i) = true) (hjd : doneB s.done (sAt s.done j) = true) :
    rank s.done (sAt s.done i).tx.toNat < rank s.done (sAt s.done j).tx.toNat := by
  have hpart : ∀ a : St, 0 ≤ a.tx → doneB s.done a = true → a.kind < 3 ∧ a.tx.toNat ∈ commitsF s.done := fun a h0 ha => by
    unfold doneB at ha
    simp only [Bool.and_eq_true, decide_eq_true_eq] at ha
    obtain ⟨h1, h2⟩ := ha
    obtain ⟨y, hy, he⟩ := List.mem_map.1 h2
    have he : ((y : Nat) : Int) = a.tx := he
    exact ⟨h1, by rw [show a.tx.toNat = y by omega]; exact hy⟩
  obtain ⟨gi, _, _⟩ := h.good _ (sAt_mem (show i < s.done.length by omega))
  obtain ⟨gj, _, _⟩ := h.good _ (sAt_mem hj)
  obtain ⟨i1, i2⟩ := hpart _ gi hi
  obtain ⟨j1, j2⟩ := hpart _ gj hjd
  obtain ⟨e, e1, e2, e3, e4⟩ := h.strict i j hij hj hc i1 j1
  obtain ⟨r1, r2, r3⟩ := com_rank i2
  obtain ⟨q1, q2, q3⟩ := com_rank j2
  have hre : rank s.done (sAt s.done i).tx.toNat = e := by
    rcases Nat.lt_trichotomy (rank s.done (sAt s.done i).tx.toNat) e with h5 | h5 | h5
    · have := no_after h.okat h5 (by omega) (by rw [r2, e3, Int.toNat_natCast])
      omega
    · exact h5
    · have := no_after h.okat h5 r1 (by rw [r2, e3, Int.toNat_natCast])
      omega
  have hq : j < rank s.done (sAt s.done j).tx.toNat := by
    rcases Nat.lt_trichotomy (rank s.done (sAt s.done j).tx.toNat) j with h5 | h5 | h5
    · have := no_after h.okat h5 hj (by rw [q2, Int.toNat_natCast])
      omega
    · rw [h5] at q3; omega
    · exact h5
  omega
theorem TI.order (h : TI p s) : ∃ od, orderF 8 (graphF s.done) = some od := by
  cases ho : orderF 8 (graphF s.done) with
  | some od => exact ⟨od, rfl⟩
  | none =>
    exfalso
    have hpw : s.done.Pairwise fun a b => clashB a b = true → doneB s.done a = true → doneB s.done b = true → rank s.done a.tx.toNat < rank s.done b.tx.toNat := by
      rw [List.pairwise_iff_getElem]
      intro i j hi hj hij hc h1 h2
      have ei : sAt s.done i = s.done[i] := by rw [sAt, List.getD_eq_getElem?_getD, List.getElem?_eq_getElem hi]; rfl
      have ej : sAt s.done j = s.done[j] := by rw [sAt, List.getD_eq_getElem?_getD, List.getElem?_eq_getElem hj]; rfl
      rw [← ei, ← ej] at hc ⊢
      rw [← ei] at h1
      rw [← ej] at h2
      exact h.rank_lt hij hj hc h1 h2
    have hpd := hpw.sublist (List.filter_sublist (l := s.done) (p := doneB s.done))
    have hedge : ∀ x y, graphF s.done x y = true → rank s.done x < rank s.done y := fun x y he => by
      unfold graphF graphTo at he
      obtain ⟨j, hj, he⟩ := List.any_eq_true.1 he
      unfold rowG at he
      obtain ⟨i, hi, he⟩ := List.any_eq_true.1 he
      rw [List.mem_range] at hi hj
      simp only [Bool.and_eq_true, decide_eq_true_eq] at he
      obtain ⟨c1, c2, c3⟩ := he
      have hdl : j < (s.done.filter (doneB s.done)).length := hj
      have hil : i < (s.done.filter (doneB s.done)).length := by omega
      have ei : sAt (doneF s.done) i = (s.done.filter (doneB s.done))[i] := by rw [sAt, List.getD_eq_getElem?_getD]; show ((s.done.filter (doneB s.done))[i]?).getD _ = _; rw [List.getElem?_eq_getElem hil]; rfl
      have ej : sAt (doneF s.done) j = (s.done.filter (doneB s.done))[j] := by rw [sAt, List.getD_eq_getElem?_getD]; show ((s.done.filter (doneB s.done))[j]?).getD _ = _; rw [List.getElem?_eq_getElem hdl]; rfl
      have hr := (List.pairwise_iff_getElem.1 hpd) i j hil hdl hi
      rw [← ei, ← ej] at hr
      have m1 : doneB s.done (sAt (doneF s.done) i) = true := by rw [ei]; exact (List.mem_filter.1 (List.getElem_mem hil)).2
      have m2 : doneB s.done (sAt (doneF s.done) j) = true := by rw [ej]; exact (List.mem_filter.1 (List.getElem_mem hdl)).2
      have := hr c1 m1 m2
      rw [c2, c3, Int.toNat_natCast, Int.toNat_natCast] at this
      exact this
    obtain ⟨a, ha⟩ := order_none ho
    have : ∀ {a b : Nat}, Path 8 (graphF s.done) a b → rank s.done a < rank s.done b := fun hp => by
      induction hp using Path.ind with
      | one _ _ h3 => exact hedge _ _ h3
      | cons _ _ h3 _ ih => exact Nat.lt_trans (hedge _ _ h3) ih
    exact Nat.lt_irrefl _ (this ha)
end
/-- TWO PHASES ARE ENOUGH. -/
theorem two_law {p : List (List St)} (hf : PlanFits p) (picks : List Int) (hk : picks.length ≤ 200) : ∃ N, (∀ k, k < N → false ∈ (roundsR p k (picksR p picks)).over) ∧ false ∉ (roundsR p N (picksR p picks)).over ∧ 2 * (picks.length + 8 * N) ≤ 2000 ∧
    OkSteps (roundsR p N (picksR p picks)).done ∧ (∃ od, orderF 8 (graphF (roundsR p N (picksR p picks)).done) = some od) ∧ carTo (roundsR p N (picksR p picks)).done (roundsR p N (picksR p picks)).done.length = (true, true, true) ∧
    ∀ t, t < p.length → (t ∉ (roundsR p N (picksR p picks)).vict ∧ ownS (roundsR p N (picksR p picks)).done t = rowP p t ++ [⟨(t : Int), 3, 0⟩]) ∨ (t ∈ (roundsR p N (picksR p picks)).vict ∧ ∃ k, k ≤ (rowP p t).length ∧ ownS (roundsR p N (picksR p picks)).done t = (rowP p t).take k ++ [⟨(t : Int), 4, 0⟩]) := by
  have hp := hf.ok
  have h60 := hf.2.2
  obtain ⟨r1, r2, r3⟩ := pick_rnd hp picks (init_rnd p)
  have hmi := mu_init p
  have hTI := TI.picks hp picks (TI.init p) (init_rnd p)
  have hd0 : (initR p.length).done.length = 0 := rfl
  obtain ⟨N, n1, n2, n3⟩ := rounds_end hp r1
  have hR := rounds_rnd hp r1 N
  have hT := hTI.rounds hp r1 N
  refine ⟨N, n2, n3, by omega, hT.ok hf.2.1 ?_, hT.order, hT.careful, fun t ht => ?_⟩
  · omega
  · refine hT.ownO t ht ?_
    have hol := hR.1.ok.over
    cases ho : ((roundsR p N (picks.foldl (pickR p) (initR p.length))).over.getD t false) with
    | true => rfl
    | false =>
      exfalso
      refine n3 ?_
      rw [List.getD_eq_getElem?_getD, List.getElem?_eq_getElem (by omega)] at ho
      have ho : (roundsR p N (picks.foldl (pickR p) (initR p.length))).over[t]'(by omega) = false := ho
      rw [← ho]
      exact List.getElem_mem _
end Go.Proofs.YtidnlnlmmnkgoaaDoor
