/- The search and orders that show: plain. -/
import Derived.Test.YtijgkocolajghaaDoorSrch2
import Derived.Test.YtijgkocolajghaaDoorLin3
namespace Go.Proofs.YtijgkocolajghaaDoor
set_option linter.unusedVariables false
set_option linter.unusedSimpArgs false
section
variable {o : Int} {l : List Op8} {ab : Op8 → Op8 → Bool}
theorem dnF_at {ord : List Int} (hn : ord.Nodup) {j : Nat} (hj : j < ord.length) (h0 : 0 ≤ ord[j]) : dnF ord j ord[j].toNat = false := by
  unfold dnF
  rw [Int.toNat_of_nonneg h0]
  simp only [List.contains_eq_mem, decide_eq_false_iff_not]
  intro hm
  obtain ⟨i, hi, he⟩ := List.mem_take_iff_getElem.1 hm
  have := (List.getElem_inj hn).1 he
  omega
theorem shows_of_reach {dn : Nat → Bool} {sts : Nat → List Int} {ord : List Int} (hA : ArgsOk l) (hall : allF l dn = true) (hR : Reach o l befB dn sts ord) : ShowsP o l ord := by
  refine ⟨fun j hj _ => ?_, fun i hi hr => ?_, ?_⟩
  · obtain ⟨h0, h1⟩ := hR.rng ord[j] (List.getElem_mem hj)
    refine ⟨h0, h1, dnF_at hR.nodup hj h0, fun i hi hij => ?_⟩
    exact List.pairwise_iff_getElem.1 hR.ahead i j hi hj hij
  · unfold allF at hall
    have := List.all_eq_true.1 hall i (List.mem_range.2 hi)
    simp [hr] at this
    rw [hR.dnE i] at this
    unfold dnF
    rw [List.take_of_length_le (Nat.le_refl _)]
    exact this
  · exact run_of_RunL hA ord 0 _ _ sts hR.rng (fun k hk => by simp [startS, hk]) hR.run
theorem wit_of_run (hA : ArgsOk l) (hab : ∀ k i, k < l.length → i < l.length → ab (oAt l k) (oAt l i) = true → befB (oAt l k) (oAt l i) = true) {order : List Int} (hO : OrdP l order order.length) (hall : ∀ i, i < l.length → 0 ≤ (oAt l i).ret → dnF order order.length i = true) :
    ∀ (m p : Nat) (g : Sts8) (sts : Nat → List Int), order.length - p = m → p ≤ order.length → (∀ k, k < 8 → (g k).getD (startF o) = sts k) → runTo o l (order.drop p) p g = -1 → Wit o l ab ((order.drop p).map Int.toNat) (dnF order p) sts := by
  intro m
  induction m with
  | zero =>
    intro p g sts hm hp hg hr
    obtain rfl : p = order.length := by omega
    rw [List.drop_eq_nil_of_le (Nat.le_refl _)]
    show allF l _ = true
    unfold allF
    rw [List.all_eq_true]
    intro i hi
    have hi := List.mem_range.1 hi
    by_cases h0 : 0 ≤ (oAt l i).ret
    · simp [h0, hall i hi h0]
    · simp [h0]
  | succ m ih =>
    intro p g sts hm hp hg hr
    have hpl : p < order.length := by omega
    rw [List.drop_eq_getElem_cons hpl] at hr ⊢
    obtain ⟨h0, h1, h2, h3⟩ := hO p hpl hpl
    obtain ⟨i, hi⟩ : ∃ i : Nat, order[p] = (i : Int) := ⟨order[p].toNat, by omega⟩
    rw [hi, Int.toNat_natCast] at h2 h3
    have hil : i < l.length := by rw [hi] at h1; omega
    rw [hi] at hr
    rw [runTo, if_neg (by omega), Int.toNat_natCast] at hr
    have hk := hA.keyN hil
    have e : (g (oAt l i).key.toNat).getD (startF o) = sts (keyN l i) := hg _ hk
    rw [e] at hr
    rw [List.map_cons, hi, Int.toNat_natCast]
    cases hs : stepF o (sts (keyN l i)) (oAt l i).kind (oAt l i).a (oAt l i).b with
    | none => rw [hs] at hr; simp only at hr; omega
    | some q =>
      obtain ⟨st', res⟩ := q
      rw [hs] at hr
      simp only at hr
      by_cases hbad : 0 ≤ (oAt l i).ret ∧ res ≠ (oAt l i).res
      · rw [if_pos hbad] at hr; omega
      rw [if_neg hbad] at hr
      have hgo : goF o l sts i = some st' := by
        unfold goF
        rw [hs]
        simp only
        rw [if_neg]
        rintro ⟨g1, g2⟩
        have := hA.ret i hil
        exact hbad ⟨by omega, g2⟩
      have hnext : nextF l ab (dnF order p) i = true := by
        unfold nextF
        rw [h2]
        simp only [Bool.not_false, Bool.true_and, List.all_eq_true, List.mem_range]
        intro k hkl
        by_cases hki : k = i
        · simp [hki]
        cases hdk : dnF order p k with
        | true => simp
        | false =>
          have : ab (oAt l k) (oAt l i) = false := by
            cases hb : ab (oAt l k) (oAt l i) with
            | false => rfl
            | true =>
              have hbf := hab k i hkl hil hb
              by_cases hr0 : 0 ≤ (oAt l k).ret
              · have hin := hall k hkl hr0
                unfold dnF at hin
                rw [List.take_of_length_le (Nat.le_refl _)] at hin
                have hin : ((k : Nat) : Int) ∈ order := by simpa using hin
                obtain ⟨j, hj, hje⟩ := List.getElem_of_mem hin
                have hjp : p < j := by
                  rcases Nat.lt_or_ge p j with h | h
                  · exact h
                  · exfalso
                    rcases Nat.lt_or_ge j p with h' | h'
                    · unfold dnF at hdk
                      have : ((k : Nat) : Int) ∈ order.take p := by
                        rw [← hje]
                        exact List.mem_take_iff_getElem.2 ⟨j, by omega, rfl⟩
                      simp [this] at hdk
                    · obtain rfl : j = p := by omega
                      rw [hi] at hje
                      exact hki (by omega)
                obtain ⟨_, _, _, h4⟩ := hO j hj hj
                have := h4 p hpl hjp
                rw [hje, hi, Int.toNat_natCast, Int.toNat_natCast, hbf] at this
                cases this
              · unfold befB at hbf
                simp [hr0] at hbf
          simp [this]
      refine ⟨hil, hnext, st', hgo, ?_⟩
      have ih' := ih (p + 1) (updS g (oAt l i).key.toNat st') (stSet sts (keyN l i) st') (by omega) (by omega) (fun k hk8 => by
        unfold updS stSet keyN
        split
        · rfl
        · exact hg k hk8) hr
      have ed : dnF order (p + 1) = dnSet (dnF order p) i true := by
        funext x
        rw [dnF_succ hpl hi]
        rfl
      rw [ed] at ih'
      exact ih'
theorem wit_of_shows (hA : ArgsOk l) (hab : ∀ k i, k < l.length → i < l.length → ab (oAt l k) (oAt l i) = true → befB (oAt l k) (oAt l i) = true) {order : List Int} (h : ShowsP o l order) : Wit o l ab (order.map Int.toNat) (fun _ => false) (startS o).sts := by
  have h1 := wit_of_run (o := o) (ab := ab) hA hab h.1 h.2.1 order.length 0 (fun _ => none) (startS o).sts (by omega) (by omega) (fun k hk => by simp [startS, hk]) (by simpa [runF] using h.2.2)
  have e : dnF order 0 = fun _ => false := by funext x; simp [dnF]
  rw [e] at h1
  simpa using h1
/-- What has a witness is not called invalid. -/
theorem verd_not_invalid (hA : ArgsOk l) (hab : ∀ k i, k < l.length → i < l.length → ab (oAt l k) (oAt l i) = true → befB (oAt l k) (oAt l i) = true) {order : List Int} (h : ShowsP o l order) (bud : Nat) : (verdF o l ab bud).1 ≠ 2 := fun h2 =>
  verd_complete hA h2 _ (wit_of_shows hA hab h)
/-- What is called valid has a witness. -/
theorem verd_shows (hA : ArgsOk l) {bud : Nat} (h : (verdF o l befB bud).1 = 1) : ShowsP o l (verdF o l befB bud).2.ord := by
  obtain ⟨h1, h2⟩ := verd_sound h
  exact shows_of_reach hA h1 h2
end
theorem told_num {p k : Int} {l : List Int} (h : toldB p k l = true) : ∀ x ∈ l, -1000000 ≤ x ∧ x ≤ 1000000 := by
  unfold toldB inB at h
  simp at h
  exact h.1.1
theorem argsOk {o : Int} {l : List Op8} {bud : Int} (h : OkLin o l bud) : ArgsOk l := by
  refine ⟨h.key, fun i hi => ?_, fun i hi => ?_, fun i hi => ?_⟩
  · have := told_num (h.2.2.2.2.1.2 i hi).1 (oAt l i).a (by simp)
    unfold i64B; omega
  · have := told_num (h.2.2.2.2.1.2 i hi).1 (oAt l i).b (by simp)
    unfold i64B; omega
  · obtain ⟨h1, _, h3⟩ := (h.2.2.2.2.1.2 i hi).2.2.1
    omega
end Go.Proofs.YtijgkocolajghaaDoor
