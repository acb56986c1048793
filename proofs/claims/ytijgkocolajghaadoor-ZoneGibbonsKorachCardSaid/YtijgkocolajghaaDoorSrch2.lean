/- The search: what it finds is so, and what there is it does not miss: plain. Nothing of the program. -/
import Derived.Test.YtijgkocolajghaaDoorSrch
namespace Go.Proofs.YtijgkocolajghaaDoor
set_option linter.unusedVariables false
set_option linter.unusedSimpArgs false
/-- What is asked of ops. -/
structure ArgsOk (l : List Op8) : Prop where
  key : ∀ i, i < l.length → 0 ≤ (oAt l i).key ∧ (oAt l i).key < 8
  a : ∀ i, i < l.length → i64B (oAt l i).a
  b : ∀ i, i < l.length → i64B (oAt l i).b
  ret : ∀ i, i < l.length → (oAt l i).ret = -1 ∨ 0 ≤ (oAt l i).ret
theorem ArgsOk.keyN {l : List Op8} (h : ArgsOk l) {i : Nat} (hi : i < l.length) : keyN l i < 8 := by
  have := h.key i hi
  unfold Go.Proofs.YtijgkocolajghaaDoor.keyN
  omega
/-- A state that can be. -/
structure GoodS (o : Int) (n : Nat) (dn : Nat → Bool) (sts : Nat → List Int) : Prop where
  dnOut : ∀ i, n ≤ i → dn i = false
  stOut : ∀ k, 8 ≤ k → sts k = []
  i64 : ∀ k, ∀ x ∈ sts k, i64B x
  ok : ∀ k, okSt o (sts k)
  len : ∀ k, (sts k).length ≤ cntD n dn + 1
theorem wrap_i64B (z : Int) : i64B (IntKind.i64.wrap z) := by
  unfold i64B
  simp [IntKind.wrap, IntKind.signed, IntKind.bits]
  split <;> omega
theorem stepF_i64 {o : Int} {st st' : List Int} {k a b r : Int} (h : stepF o st k a b = some (st', r)) (hs : ∀ x ∈ st, i64B x) (ha : i64B a) (hb : i64B b) : ∀ x ∈ st', i64B x := by
  have h0 : i64B (st.getD 0 0) := by
    cases st with
    | nil => exact ⟨by decide, by decide⟩
    | cons x st => exact hs x (by simp)
  have hone : ∀ b : Bool, i64B (oneF b) := fun b => by cases b <;> exact ⟨by decide, by decide⟩
  unfold stepF at h
  split at h
  · cases h
  split at h
  · injection h with h; injection h with h1 _; subst h1
    intro x hx
    rw [List.mem_singleton.1 hx]
    unfold regF
    split
    · exact h0
    · split
      · exact ha
      · split
        · exact hb
        · exact h0
  split at h
  · injection h with h; injection h with h1 _; subst h1
    intro x hx
    rw [List.mem_singleton.1 hx]
    split
    · exact wrap_i64B _
    · exact h0
  split at h
  · injection h with h
    have h1 : (setF st k a).1 = st' := by rw [h]
    subst h1
    unfold setF
    intro x hx
    split at hx
    · simp only [insF, List.mem_append, List.mem_cons] at hx
      rcases hx with hx | rfl | hx
      · exact hs x (List.mem_of_mem_take hx)
      · exact ha
      · exact hs x (List.mem_of_mem_drop hx)
    · split at hx
      · simp only [delF, List.mem_append] at hx
        rcases hx with hx | hx
        · exact hs x (List.mem_of_mem_take hx)
        · exact hs x (List.mem_of_mem_drop hx)
      · exact hs x hx
  split at h
  · split at h
    · injection h with h; injection h with h1 _; subst h1
      intro x hx
      rw [List.mem_singleton.1 hx]
      exact hone _
    · cases h
  · injection h with h
    have h1 : (lineF o st k a).1 = st' := by rw [h]
    subst h1
    unfold lineF
    intro x hx
    split at hx
    · rcases List.mem_append.1 hx with hx | hx
      · exact hs x hx
      · rw [List.mem_singleton.1 hx]; exact ha
    · split at hx
      · exact hs x hx
      · split at hx
        · exact hs x (List.mem_of_mem_drop hx)
        · exact hs x (List.mem_of_mem_take hx)
theorem goF_step {o : Int} {l : List Op8} {sts : Nat → List Int} {i : Nat} {st' : List Int} (h : goF o l sts i = some st') : ∃ r, stepF o (sts (keyN l i)) (oAt l i).kind (oAt l i).a (oAt l i).b = some (st', r) ∧ ¬ ((oAt l i).ret ≠ -1 ∧ r ≠ (oAt l i).res) := by
  unfold goF at h
  split at h
  · cases h
  · rename_i s' r hs
    split at h
    · cases h
    · rename_i hn
      injection h with h
      subst h
      exact ⟨r, hs, hn⟩
theorem GoodS.step {o : Int} {l : List Op8} {dn : Nat → Bool} {sts : Nat → List Int} {i : Nat} {st' : List Int} (h : GoodS o l.length dn sts) (hA : ArgsOk l) (hi : i < l.length) (hd : dn i = false) (hg : goF o l sts i = some st') : GoodS o l.length (dnSet dn i true) (stSet sts (keyN l i) st') := by
  obtain ⟨r, hs, _⟩ := goF_step hg
  have hc := cntD_set hi hd
  have hk := hA.keyN hi
  refine ⟨fun j hj => ?_, fun k hk' => ?_, fun k => ?_, fun k => ?_, fun k => ?_⟩
  · unfold dnSet; rw [if_neg (by omega)]; exact h.dnOut j hj
  · unfold stSet; rw [if_neg (by omega)]; exact h.stOut k hk'
  · unfold stSet; split
    · exact stepF_i64 hs (h.i64 _) (hA.a i hi) (hA.b i hi)
    · exact h.i64 k
  · unfold stSet; split
    · exact stepF_ok hs (h.ok _)
    · exact h.ok k
  · rw [hc]; unfold stSet; split
    · have := stepF_len hs
      have := h.len (keyN l i)
      omega
    · have := h.len k
      omega
theorem goodS_start (o : Int) (n : Nat) : GoodS o n (startS o).dn (startS o).sts := by
  refine ⟨fun _ _ => rfl, fun k hk => if_neg (by omega), fun k x hx => ?_, fun k => ?_, fun k => ?_⟩
  · simp only [startS] at hx
    split at hx
    · unfold startF at hx
      split at hx
      · rw [List.mem_singleton.1 hx]; exact ⟨by decide, by decide⟩
      · cases hx
    · cases hx
  · simp only [startS]
    split
    · exact okSt_start o
    · intro _; exact .nil
  · simp only [startS]
    split
    · have := startF_len o; omega
    · simp
theorem GoodS.key_inj {o : Int} {n : Nat} {dn dn' : Nat → Bool} {sts sts' : Nat → List Int} (h : GoodS o n dn sts) (h' : GoodS o n dn' sts') (he : keyF n dn sts = keyF n dn' sts') : dn = dn' ∧ sts = sts' := by
  obtain ⟨e1, e2⟩ := keyF_inj h.i64 h'.i64 he
  constructor
  · funext i
    rcases Nat.lt_or_ge i n with hi | hi
    · exact e1 i hi
    · rw [h.dnOut i hi, h'.dnOut i hi]
  · funext k
    rcases Nat.lt_or_ge k 8 with hk | hk
    · exact e2 k hk
    · rw [h.stOut k hk, h'.stOut k hk]

/-! ### What there is it does not miss -/
section
variable (o : Int) (l : List Op8) (ab : Op8 → Op8 → Bool)
/-- A way on to the end. -/
def Wit : List Nat → (Nat → Bool) → (Nat → List Int) → Prop
  | [], dn, _ => allF l dn = true
  | i :: r, dn, sts => i < l.length ∧ nextF l ab dn i = true ∧ ∃ st', goF o l sts i = some st' ∧ Wit r (dnSet dn i true) (stSet sts (keyN l i) st')
def Dead (dn : Nat → Bool) (sts : Nat → List Int) : Prop := ∀ r, ¬ Wit o l ab r dn sts
def DeadK (k : List Nat) : Prop := ∀ dn sts, GoodS o l.length dn sts → keyF l.length dn sts = k → Dead o l ab dn sts
def EntP (m : Nat) (ent : List (List Nat)) : Prop := ∀ k ∈ ent, ∀ dn sts, GoodS o l.length dn sts → keyF l.length dn sts = k → Dead o l ab dn sts ∨ cntD l.length dn < m
end
section
variable {o : Int} {l : List Op8} {ab : Op8 → Op8 → Bool}
theorem loop_complete (hA : ArgsOk l) {rec : SSt → Int × SSt} {m : Nat} (hrec : ∀ s, GoodS o l.length s.dn s.sts → cntD l.length s.dn = m + 1 → EntP o l ab (m + 1) s.ent → (rec s).1 = 2 → Dead o l ab s.dn s.sts ∧ ∀ k ∈ (rec s).2.ent, k ∈ s.ent ∨ DeadK o l ab k) :
    ∀ (r : List Nat) (s : SSt), (∀ i ∈ r, i < l.length) → GoodS o l.length s.dn s.sts → cntD l.length s.dn = m → EntP o l ab (m + 1) s.ent → (loopF o l ab rec r s).1 = 2 →
    (∀ i ∈ r, nextF l ab s.dn i = true → ∀ st', goF o l s.sts i = some st' → Dead o l ab (dnSet s.dn i true) (stSet s.sts (keyN l i) st')) ∧ ∀ k ∈ (loopF o l ab rec r s).2.ent, k ∈ s.ent ∨ DeadK o l ab k
  | [], s, _, _, _, _, _ => ⟨by simp, fun k hk => .inl hk⟩
  | i :: r, s, hr, hG, hm, hE, h2 => by
    have hr' : ∀ j ∈ r, j < l.length := fun j hj => hr j (by simp [hj])
    cases hx : nextF l ab s.dn i with
    | false =>
      rw [loopF_skip hx] at h2 ⊢
      obtain ⟨h3, h4⟩ := loop_complete hA hrec r s hr' hG hm hE h2
      refine ⟨fun j hj hn st' hg => ?_, h4⟩
      rcases List.mem_cons.1 hj with rfl | hj
      · rw [hx] at hn; cases hn
      · exact h3 j hj hn st' hg
    | true =>
      cases hg0 : goF o l s.sts i with
      | none =>
        rw [loopF_no hx hg0] at h2 ⊢
        obtain ⟨h3, h4⟩ := loop_complete hA hrec r s hr' hG hm hE h2
        refine ⟨fun j hj hn st' hg => ?_, h4⟩
        rcases List.mem_cons.1 hj with rfl | hj
        · rw [hg0] at hg; cases hg
        · exact h3 j hj hn st' hg
      | some st1 =>
        have hd := next_dn hx
        have hi : i < l.length := hr i (by simp)
        have hGc := hG.step hA hi hd hg0
        have hcc := cntD_set hi hd
        by_cases hc2 : (rec (stepS l s i st1)).1 = 2
        · rw [loopF_on hx hg0 hc2] at h2 ⊢
          obtain ⟨h5, h6⟩ := hrec (stepS l s i st1) hGc (by show cntD l.length (dnSet s.dn i true) = m + 1; omega) hE hc2
          have hE' : EntP o l ab (m + 1) (rec (stepS l s i st1)).2.ent := by
            intro k hk dn sts g1 g2
            rcases h6 k hk with h7 | h7
            · exact hE k h7 dn sts g1 g2
            · exact .inl (h7 dn sts g1 g2)
          obtain ⟨h3, h4⟩ := loop_complete hA hrec r ⟨s.dn, s.sts, s.ord, (rec (stepS l s i st1)).2.ent⟩ hr' hG hm hE' h2
          refine ⟨fun j hj hn st' hg => ?_, fun k hk => ?_⟩
          · rcases List.mem_cons.1 hj with rfl | hj
            · rw [hg0] at hg; injection hg with hg; subst hg; exact h5
            · exact h3 j hj hn st' hg
          · rcases h4 k hk with h7 | h7
            · exact h6 k h7
            · exact .inr h7
        · rw [loopF_hit hx hg0 hc2] at h2
          exact absurd h2 hc2
theorem enter_complete (hA : ArgsOk l) {bud : Nat} : ∀ (f : Nat) (s : SSt), GoodS o l.length s.dn s.sts → undn l.length s.dn < f → EntP o l ab (cntD l.length s.dn) s.ent → (enterF o l ab bud f s).1 = 2 →
    Dead o l ab s.dn s.sts ∧ ∀ k ∈ (enterF o l ab bud f s).2.ent, k ∈ s.ent ∨ DeadK o l ab k
  | 0, s, _, h, _, _ => absurd h (by omega)
  | f + 1, s, hG, hf, hE, h2 => by
    cases ha : allF l s.dn with
    | true => rw [enterF_all ha] at h2; exact absurd h2 (by simp)
    | false =>
      by_cases hk : keyF l.length s.dn s.sts ∈ s.ent
      · rw [enterF_old ha hk] at h2 ⊢
        refine ⟨?_, fun k hk => .inl hk⟩
        rcases hE _ hk s.dn s.sts hG rfl with h3 | h3
        · exact h3
        · omega
      · by_cases hb : s.ent.length = bud
        · rw [enterF_over ha hk hb] at h2; exact absurd h2 (by simp)
        · rw [enterF_go ha hk hb] at h2 ⊢
          have hE' : EntP o l ab (cntD l.length s.dn + 1) (putE l s).ent := by
            intro k hk dn sts g1 g2
            simp only [putE, List.mem_append, List.mem_singleton] at hk
            rcases hk with hk | hk
            · rcases hE k hk dn sts g1 g2 with h3 | h3
              · exact .inl h3
              · exact .inr (by omega)
            · obtain ⟨e1, e2⟩ := g1.key_inj hG (g2.trans hk)
              subst e1
              exact .inr (by omega)
          have hcu := cnt_undn l.length s.dn
          obtain ⟨h3, h4⟩ := loop_complete hA (rec := enterF o l ab bud f) (m := cntD l.length s.dn) (fun s' g1 g2 g3 g4 => by
            have hcu' := cnt_undn l.length s'.dn
            exact enter_complete hA f s' g1 (by omega) (by rw [g2]; exact g3) g4) (List.range l.length) (putE l s) (fun i hi => List.mem_range.1 hi) hG rfl hE' h2
          have hdead : Dead o l ab s.dn s.sts := by
            intro r hw
            cases r with
            | nil =>
              have : allF l s.dn = true := hw
              rw [ha] at this; cases this
            | cons i r =>
              obtain ⟨w1, w2, st', w3, w4⟩ := hw
              exact h3 i (List.mem_range.2 w1) w2 st' w3 r w4
          refine ⟨hdead, fun k hk => ?_⟩
          rcases h4 k hk with h5 | h5
          · simp only [putE, List.mem_append, List.mem_singleton] at h5
            rcases h5 with h5 | h5
            · exact .inl h5
            · refine .inr fun dn sts g1 g2 => ?_
              obtain ⟨e1, e2⟩ := g1.key_inj hG (g2.trans h5)
              subst e1 e2
              exact hdead
          · exact .inr h5
theorem verd_complete (hA : ArgsOk l) {bud : Nat} (h2 : (verdF o l ab bud).1 = 2) : Dead o l ab (fun _ => false) (startS o).sts := by
  refine (enter_complete hA _ _ (goodS_start o l.length) ?_ (fun k hk => by cases hk) h2).1
  have : undn l.length (startS o).dn = l.length := undn_start l.length
  omega

/-! ### What it finds is so -/
/-- Ops done in an order, from states to states. -/
def RunL (o : Int) (l : List Op8) : List Int → (Nat → List Int) → (Nat → List Int) → Prop
  | [], a, b => a = b
  | i :: r, a, b => ∃ st', goF o l a i.toNat = some st' ∧ RunL o l r (stSet a (keyN l i.toNat) st') b
theorem RunL_snoc {i : Int} {st' : List Int} : ∀ (r : List Int) (a b : Nat → List Int), RunL o l r a b → goF o l b i.toNat = some st' → RunL o l (r ++ [i]) a (stSet b (keyN l i.toNat) st')
  | [], a, b, h, hg => by
    have h : a = b := h
    subst h
    exact ⟨st', hg, rfl⟩
  | j :: r, a, b, h, hg => by
    obtain ⟨s1, h1, h2⟩ := h
    exact ⟨s1, h1, RunL_snoc r _ b h2 hg⟩
/-- An order that is good as far as it goes. -/
structure Reach (o : Int) (l : List Op8) (ab : Op8 → Op8 → Bool) (dn : Nat → Bool) (sts : Nat → List Int) (ord : List Int) : Prop where
  dnE : ∀ i, dn i = ord.contains ((i : Nat) : Int)
  rng : ∀ i ∈ ord, 0 ≤ i ∧ i < l.length
  nodup : ord.Nodup
  run : RunL o l ord (startS o).sts sts
  ahead : ord.Pairwise fun a b => ab (oAt l b.toNat) (oAt l a.toNat) = false
  left : ∀ a ∈ ord, ∀ k, k < l.length → dn k = false → ab (oAt l k) (oAt l a.toNat) = false
theorem Reach.start : Reach o l ab (fun _ => false) (startS o).sts [] := ⟨fun i => by simp, by simp, by simp, rfl, .nil, by simp⟩
theorem Reach.step {dn : Nat → Bool} {sts : Nat → List Int} {ord : List Int} {i : Nat} {st' : List Int} (h : Reach o l ab dn sts ord) (hi : i < l.length) (hn : nextF l ab dn i = true) (hg : goF o l sts i = some st') : Reach o l ab (dnSet dn i true) (stSet sts (keyN l i) st') (ord ++ [(i : Int)]) := by
  have hd := next_dn hn
  have hnx : ∀ k, k < l.length → k ≠ i → dn k = false → ab (oAt l k) (oAt l i) = false := by
    intro k hk hki hdk
    unfold nextF at hn
    simp only [Bool.and_eq_true, List.all_eq_true, List.mem_range] at hn
    have := hn.2 k hk
    simp [hki, hdk] at this
    exact this
  have hni : ((i : Nat) : Int) ∉ ord := fun hm => by
    have := h.dnE i
    rw [hd] at this
    simp [hm] at this
  refine ⟨fun j => ?_, fun j hj => ?_, ?_, ?_, ?_, fun a ha k hk hdk => ?_⟩
  · unfold dnSet
    by_cases hj : j = i
    · subst hj; simp
    · rw [if_neg hj, h.dnE j]
      rw [Bool.eq_iff_iff]
      simp
      omega
  · rcases List.mem_append.1 hj with hj | hj
    · exact h.rng j hj
    · rw [List.mem_singleton.1 hj]; omega
  · rw [List.nodup_append]
    refine ⟨h.nodup, by simp, fun a ha b hb => ?_⟩
    rw [List.mem_singleton.1 hb]
    intro e
    exact hni (e ▸ ha)
  · exact RunL_snoc (i := (i : Int)) ord _ _ h.run (by simpa using hg)
  · rw [List.pairwise_append]
    refine ⟨h.ahead, by simp, fun a ha b hb => ?_⟩
    rw [List.mem_singleton.1 hb, Int.toNat_natCast]
    exact h.left a ha i hi hd
  · have hki : k ≠ i := fun e => by subst e; simp [dnSet] at hdk
    have hdk' : dn k = false := by unfold dnSet at hdk; rwa [if_neg hki] at hdk
    rcases List.mem_append.1 ha with ha | ha
    · exact h.left a ha k hk hdk'
    · rw [List.mem_singleton.1 ha, Int.toNat_natCast]
      exact hnx k hk hki hdk'
theorem loop_sound {rec : SSt → Int × SSt} (hrec : ∀ s, Reach o l ab s.dn s.sts s.ord → (rec s).1 = 1 → allF l (rec s).2.dn = true ∧ Reach o l ab (rec s).2.dn (rec s).2.sts (rec s).2.ord) :
    ∀ (r : List Nat) (s : SSt), (∀ i ∈ r, i < l.length) → Reach o l ab s.dn s.sts s.ord → (loopF o l ab rec r s).1 = 1 → allF l (loopF o l ab rec r s).2.dn = true ∧ Reach o l ab (loopF o l ab rec r s).2.dn (loopF o l ab rec r s).2.sts (loopF o l ab rec r s).2.ord
  | [], s, _, _, h => absurd h (by simp [loopF])
  | i :: r, s, hr, hR, h => by
    have hr' : ∀ j ∈ r, j < l.length := fun j hj => hr j (by simp [hj])
    cases hx : nextF l ab s.dn i with
    | false =>
      rw [loopF_skip hx] at h ⊢
      exact loop_sound hrec r s hr' hR h
    | true =>
      cases hg0 : goF o l s.sts i with
      | none =>
        rw [loopF_no hx hg0] at h ⊢
        exact loop_sound hrec r s hr' hR h
      | some st1 =>
        by_cases hc2 : (rec (stepS l s i st1)).1 = 2
        · rw [loopF_on hx hg0 hc2] at h ⊢
          exact loop_sound hrec r ⟨s.dn, s.sts, s.ord, (rec (stepS l s i st1)).2.ent⟩ hr' hR h
        · rw [loopF_hit hx hg0 hc2] at h ⊢
          exact hrec (stepS l s i st1) (hR.step (hr i (by simp)) hx hg0) h
theorem enter_sound {bud : Nat} : ∀ (f : Nat) (s : SSt), Reach o l ab s.dn s.sts s.ord → (enterF o l ab bud f s).1 = 1 → allF l (enterF o l ab bud f s).2.dn = true ∧ Reach o l ab (enterF o l ab bud f s).2.dn (enterF o l ab bud f s).2.sts (enterF o l ab bud f s).2.ord
  | 0, s, _, h => absurd h (by simp [enterF])
  | f + 1, s, hR, h => by
    cases ha : allF l s.dn with
    | true => rw [enterF_all ha]; exact ⟨ha, hR⟩
    | false =>
      by_cases hk : keyF l.length s.dn s.sts ∈ s.ent
      · rw [enterF_old ha hk] at h; exact absurd h (by simp)
      · by_cases hb : s.ent.length = bud
        · rw [enterF_over ha hk hb] at h; exact absurd h (by simp)
        · rw [enterF_go ha hk hb] at h ⊢
          exact loop_sound (enter_sound f) _ (putE l s) (fun i hi => List.mem_range.1 hi) hR h
theorem verd_sound {bud : Nat} (h : (verdF o l ab bud).1 = 1) : allF l (verdF o l ab bud).2.dn = true ∧ Reach o l ab (verdF o l ab bud).2.dn (verdF o l ab bud).2.sts (verdF o l ab bud).2.ord := enter_sound _ _ Reach.start h

/-! ### Orders that show -/
theorem run_of_RunL (hA : ArgsOk l) : ∀ (r : List Int) (p : Nat) (g : Sts8) (a b : Nat → List Int), (∀ i ∈ r, 0 ≤ i ∧ i < l.length) → (∀ k, k < 8 → (g k).getD (startF o) = a k) → RunL o l r a b → runTo o l r p g = -1
  | [], p, g, a, b, _, _, _ => rfl
  | i :: r, p, g, a, b, hr, hg, h => by
    obtain ⟨st', h1, h2⟩ := h
    obtain ⟨hi0, hi1⟩ := hr i (by simp)
    have hil : i.toNat < l.length := by omega
    obtain ⟨res, h3, h4⟩ := goF_step h1
    have hk := hA.keyN hil
    have hret := hA.ret i.toNat hil
    rw [runTo, if_neg (by omega)]
    have e : (g (oAt l i.toNat).key.toNat).getD (startF o) = a (keyN l i.toNat) := hg _ hk
    rw [e, h3]
    simp only
    rw [if_neg (fun hh => h4 ⟨by omega, hh.2⟩)]
    refine run_of_RunL hA r (p + 1) _ _ b (fun j hj => hr j (by simp [hj])) (fun k hk8 => ?_) h2
    unfold updS stSet keyN
    split
    · rfl
    · exact hg k hk8
end
end Go.Proofs.YtijgkocolajghaaDoor
