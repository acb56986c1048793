/- The search, as a function; how far it goes, and what a budget does: plain. Nothing of the program. -/
import Derived.Test.YtijgkocolajghaaDoorKeyLaw
namespace Go.Proofs.YtijgkocolajghaaDoor
set_option linter.unusedVariables false
set_option linter.unusedSimpArgs false
structure SSt where
  dn : Nat → Bool
  sts : Nat → List Int
  ord : List Int
  ent : List (List Nat)
def dnSet (dn : Nat → Bool) (i : Nat) (b : Bool) : Nat → Bool := fun x => if x = i then b else dn x
def stSet (sts : Nat → List Int) (k : Nat) (st : List Int) : Nat → List Int := fun j => if j = k then st else sts j
def allF (l : List Op8) (dn : Nat → Bool) : Bool := (List.range l.length).all fun i => !decide (0 ≤ (oAt l i).ret) || dn i
def nextF (l : List Op8) (ab : Op8 → Op8 → Bool) (dn : Nat → Bool) (i : Nat) : Bool := !dn i && (List.range l.length).all fun k => k == i || dn k || !ab (oAt l k) (oAt l i)
def keyN (l : List Op8) (i : Nat) : Nat := (oAt l i).key.toNat
/-- What an op makes of the state of its key, if it is told what it would be. -/
def goF (o : Int) (l : List Op8) (sts : Nat → List Int) (i : Nat) : Option (List Int) := match stepF o (sts (keyN l i)) (oAt l i).kind (oAt l i).a (oAt l i).b with
  | none => none
  | some (st', r) => if (oAt l i).ret ≠ -1 ∧ r ≠ (oAt l i).res then none else some st'
def stepS (l : List Op8) (s : SSt) (i : Nat) (st' : List Int) : SSt := ⟨dnSet s.dn i true, stSet s.sts (keyN l i) st', s.ord ++ [(i : Int)], s.ent⟩
def loopF (o : Int) (l : List Op8) (ab : Op8 → Op8 → Bool) (rec : SSt → Int × SSt) : List Nat → SSt → Int × SSt
  | [], s => (2, s)
  | i :: r, s => match nextF l ab s.dn i with
    | false => loopF o l ab rec r s
    | true => match goF o l s.sts i with
      | none => loopF o l ab rec r s
      | some st' => if (rec (stepS l s i st')).1 = 2 then loopF o l ab rec r ⟨s.dn, s.sts, s.ord, (rec (stepS l s i st')).2.ent⟩ else rec (stepS l s i st')
section
variable {o : Int} {l : List Op8} {ab : Op8 → Op8 → Bool} {rec : SSt → Int × SSt} {i : Nat} {r : List Nat} {s : SSt} {st' : List Int}
theorem loopF_skip (h : nextF l ab s.dn i = false) : loopF o l ab rec (i :: r) s = loopF o l ab rec r s := by rw [loopF, h]
theorem loopF_no (h : nextF l ab s.dn i = true) (hg : goF o l s.sts i = none) : loopF o l ab rec (i :: r) s = loopF o l ab rec r s := by rw [loopF, h, hg]
theorem loopF_on (h : nextF l ab s.dn i = true) (hg : goF o l s.sts i = some st') (h2 : (rec (stepS l s i st')).1 = 2) : loopF o l ab rec (i :: r) s = loopF o l ab rec r ⟨s.dn, s.sts, s.ord, (rec (stepS l s i st')).2.ent⟩ := by rw [loopF, h, hg]; exact if_pos h2
theorem loopF_hit (h : nextF l ab s.dn i = true) (hg : goF o l s.sts i = some st') (h2 : (rec (stepS l s i st')).1 ≠ 2) : loopF o l ab rec (i :: r) s = rec (stepS l s i st') := by rw [loopF, h, hg]; exact if_neg h2
end
def putE (l : List Op8) (s : SSt) : SSt := ⟨s.dn, s.sts, s.ord, s.ent ++ [keyF l.length s.dn s.sts]⟩
def enterF (o : Int) (l : List Op8) (ab : Op8 → Op8 → Bool) (bud : Nat) : Nat → SSt → Int × SSt
  | 0, s => (2, s)
  | f + 1, s => match allF l s.dn with
    | true => (1, s)
    | false => if keyF l.length s.dn s.sts ∈ s.ent then (2, s) else if s.ent.length = bud then (3, s) else loopF o l ab (enterF o l ab bud f) (List.range l.length) (putE l s)
section
variable {o : Int} {l : List Op8} {ab : Op8 → Op8 → Bool} {bud f : Nat} {s : SSt}
theorem enterF_all (h : allF l s.dn = true) : enterF o l ab bud (f + 1) s = (1, s) := by rw [enterF, h]
theorem enterF_old (h : allF l s.dn = false) (hk : keyF l.length s.dn s.sts ∈ s.ent) : enterF o l ab bud (f + 1) s = (2, s) := by rw [enterF, h]; exact if_pos hk
theorem enterF_over (h : allF l s.dn = false) (hk : keyF l.length s.dn s.sts ∉ s.ent) (hb : s.ent.length = bud) : enterF o l ab bud (f + 1) s = (3, s) := by rw [enterF, h]; exact (if_neg hk).trans (if_pos hb)
theorem enterF_go (h : allF l s.dn = false) (hk : keyF l.length s.dn s.sts ∉ s.ent) (hb : s.ent.length ≠ bud) : enterF o l ab bud (f + 1) s = loopF o l ab (enterF o l ab bud f) (List.range l.length) (putE l s) := by rw [enterF, h]; exact (if_neg hk).trans (if_neg hb)
end
def startS (o : Int) : SSt := ⟨fun _ => false, fun k => if k < 8 then startF o else [], [], []⟩
def verdF (o : Int) (l : List Op8) (ab : Op8 → Op8 → Bool) (bud : Nat) : Int × SSt := enterF o l ab bud (l.length + 1) (startS o)

/-! ### How many are left -/
def cntD (n : Nat) (dn : Nat → Bool) : Nat := (List.range n).countP dn
def undn (n : Nat) (dn : Nat → Bool) : Nat := (List.range n).countP fun i => !dn i
theorem cnt_undn (n : Nat) (dn : Nat → Bool) : cntD n dn + undn n dn = n := by
  unfold cntD undn
  induction n with
  | zero => rfl
  | succ n ih =>
    rw [List.range_succ, List.countP_append, List.countP_append]
    cases h : dn n <;> simp [h] at ih ⊢ <;> omega
theorem cntD_far {n i : Nat} {dn : Nat → Bool} {b : Bool} (h : n ≤ i) : cntD n (dnSet dn i b) = cntD n dn := by
  unfold cntD
  refine List.countP_congr fun x hx => ?_
  have := List.mem_range.1 hx
  unfold dnSet
  rw [if_neg (by omega)]
theorem cntD_set : ∀ {n i : Nat} {dn : Nat → Bool}, i < n → dn i = false → cntD n (dnSet dn i true) = cntD n dn + 1
  | 0, _, _, h, _ => by omega
  | n + 1, i, dn, h, hd => by
    unfold cntD
    rw [List.range_succ, List.countP_append, List.countP_append]
    by_cases hi : i = n
    · subst hi
      have := cntD_far (n := i) (i := i) (dn := dn) (b := true) (Nat.le_refl _)
      unfold cntD at this
      rw [this]
      simp [dnSet, hd]
    · have := cntD_set (n := n) (i := i) (dn := dn) (by omega) hd
      unfold cntD at this
      rw [this]
      have e : dnSet dn i true n = dn n := by unfold dnSet; rw [if_neg (Ne.symm hi)]
      simp [e]
      omega
theorem undn_set {n i : Nat} {dn : Nat → Bool} (h : i < n) (hd : dn i = false) : undn n (dnSet dn i true) + 1 = undn n dn := by
  have h1 := cnt_undn n dn
  have h2 := cnt_undn n (dnSet dn i true)
  have h3 := cntD_set h hd
  omega
theorem next_dn {l : List Op8} {ab : Op8 → Op8 → Bool} {dn : Nat → Bool} {i : Nat} (h : nextF l ab dn i = true) : dn i = false := by
  unfold nextF at h
  simp at h
  exact h.1

/-! ### A budget -/
section
variable {o : Int} {l : List Op8} {ab : Op8 → Op8 → Bool}
theorem loop_len {rec : SSt → Int × SSt} {B : Nat} (hrec : ∀ s, s.ent.length ≤ B → (rec s).2.ent.length ≤ B) : ∀ (r : List Nat) (s : SSt), s.ent.length ≤ B → (loopF o l ab rec r s).2.ent.length ≤ B
  | [], s, h => h
  | i :: r, s, h => by
    unfold loopF
    split
    · exact loop_len hrec r s h
    · split
      · exact loop_len hrec r s h
      · split
        · exact loop_len hrec r _ (hrec _ h)
        · exact hrec _ h
theorem enter_len {bud : Nat} : ∀ (f : Nat) (s : SSt), s.ent.length ≤ bud → (enterF o l ab bud f s).2.ent.length ≤ bud
  | 0, s, h => h
  | f + 1, s, h => by
    unfold enterF
    split
    · exact h
    · split
      · exact h
      · split
        · exact h
        · refine loop_len (enter_len f) _ _ ?_
          simp [putE]
          omega
theorem loop_budget {rec rec' : SSt → Int × SSt} {B : Nat} (hlen : ∀ s, s.ent.length ≤ B → (rec s).2.ent.length ≤ B) (hrec : ∀ s, s.ent.length ≤ B → (rec s).1 ≠ 3 → rec' s = rec s) : ∀ (r : List Nat) (s : SSt), s.ent.length ≤ B → (loopF o l ab rec r s).1 ≠ 3 → loopF o l ab rec' r s = loopF o l ab rec r s
  | [], s, h, _ => rfl
  | i :: r, s, h, hn => by
    unfold loopF at hn ⊢
    split
    · rename_i hx
      rw [hx] at hn
      exact loop_budget hlen hrec r s h hn
    · rename_i hx
      rw [hx] at hn
      simp only at hn
      split
      · rename_i hg
        rw [hg] at hn
        exact loop_budget hlen hrec r s h hn
      · rename_i st' hg
        rw [hg] at hn
        simp only at hn
        by_cases h2 : (rec (stepS l s i st')).1 = 2
        · rw [if_pos h2] at hn ⊢
          rw [hrec (stepS l s i st') h (by rw [h2]; decide), if_pos h2]
          exact loop_budget hlen hrec r _ (hlen _ h) hn
        · rw [if_neg h2] at hn ⊢
          rw [hrec (stepS l s i st') h hn, if_neg h2]
theorem enter_budget {bud bud' : Nat} (hb : bud ≤ bud') : ∀ (f : Nat) (s : SSt), s.ent.length ≤ bud → (enterF o l ab bud f s).1 ≠ 3 → enterF o l ab bud' f s = enterF o l ab bud f s
  | 0, s, h, _ => rfl
  | f + 1, s, h, hn => by
    unfold enterF at hn ⊢
    split
    · rfl
    · rename_i ha
      rw [ha] at hn
      simp only at hn
      by_cases hk : keyF l.length s.dn s.sts ∈ s.ent
      · rw [if_pos hk, if_pos hk]
      · rw [if_neg hk] at hn ⊢
        rw [if_neg hk]
        by_cases he : s.ent.length = bud
        · rw [if_pos he] at hn
          exact absurd rfl hn
        · rw [if_neg he] at hn ⊢
          rw [if_neg (by omega)]
          exact loop_budget (enter_len f) (fun s h hn => enter_budget hb f s h hn) _ _ (by simp [putE]; omega) hn
theorem verd_budget {bud bud' : Nat} (hb : bud ≤ bud') (hn : (verdF o l ab bud).1 ≠ 3) : verdF o l ab bud' = verdF o l ab bud := enter_budget hb _ _ (Nat.zero_le _) hn
theorem verd_len (bud : Nat) : (verdF o l ab bud).2.ent.length ≤ bud := enter_len _ _ (Nat.zero_le _)

/-! ### How many states there can be -/
def tT : Nat → Nat
  | 0 => 1
  | m + 1 => 1 + (m + 1) * tT m
theorem tT_pos : ∀ m, 1 ≤ tT m
  | 0 => Nat.le_refl _
  | m + 1 => by unfold tT; omega
theorem loop_size {rec : SSt → Int × SSt} {m : Nat} (hrec : ∀ s, undn l.length s.dn = m → (rec s).2.ent.length ≤ s.ent.length + tT m) : ∀ (r : List Nat) (s : SSt), (∀ i ∈ r, i < l.length) → undn l.length s.dn = m + 1 → (loopF o l ab rec r s).2.ent.length ≤ s.ent.length + r.countP (fun i => !s.dn i) * tT m
  | [], s, _, h => by simp [loopF]
  | i :: r, s, hr, h => by
    have ih := loop_size (rec := rec) (m := m) hrec r s (fun j hj => hr j (by simp [hj])) h
    have hle : r.countP (fun i => !s.dn i) * tT m ≤ (i :: r).countP (fun i => !s.dn i) * tT m := Nat.mul_le_mul_right _ (by rw [List.countP_cons]; omega)
    unfold loopF
    split
    · omega
    · rename_i hx
      split
      · omega
      · rename_i st' hg
        have hd := next_dn hx
        have hu := undn_set (n := l.length) (hr i (by simp)) hd
        have h1 := hrec (stepS l s i st') (by show undn l.length (dnSet s.dn i true) = m; omega)
        have h1 : (rec (stepS l s i st')).2.ent.length ≤ s.ent.length + tT m := h1
        have e : (i :: r).countP (fun i => !s.dn i) * tT m = r.countP (fun i => !s.dn i) * tT m + tT m := by
          rw [List.countP_cons]
          simp [hd, Nat.add_mul]
        split
        · have h2 := loop_size (rec := rec) (m := m) hrec r ⟨s.dn, s.sts, s.ord, (rec (stepS l s i st')).2.ent⟩ (fun j hj => hr j (by simp [hj])) h
          simp only at h2
          omega
        · omega
theorem loop_none {rec : SSt → Int × SSt} : ∀ (r : List Nat) (s : SSt), (∀ i ∈ r, s.dn i = true) → loopF o l ab rec r s = (2, s)
  | [], s, _ => rfl
  | i :: r, s, h => by
    unfold loopF
    split
    · exact loop_none r s fun j hj => h j (by simp [hj])
    · rename_i hx
      have := next_dn hx
      rw [h i (by simp)] at this
      cases this
theorem undn_zero {n : Nat} {dn : Nat → Bool} (h : undn n dn = 0) : ∀ i ∈ List.range n, dn i = true := by
  unfold undn at h
  rw [List.countP_eq_zero] at h
  intro i hi
  simpa using h i hi
theorem enter_size {bud : Nat} : ∀ (f : Nat) (s : SSt), (enterF o l ab bud f s).2.ent.length ≤ s.ent.length + tT (undn l.length s.dn)
  | 0, s => Nat.le_add_right _ _
  | f + 1, s => by
    unfold enterF
    split
    · exact Nat.le_add_right _ _
    · split
      · exact Nat.le_add_right _ _
      · split
        · exact Nat.le_add_right _ _
        · cases hm : undn l.length s.dn with
          | zero =>
            rw [loop_none _ (putE l s) (undn_zero hm)]
            simp [putE, tT]
          | succ m =>
            have h := loop_size (o := o) (ab := ab) (rec := enterF o l ab bud f) (m := m) (fun s hs => by rw [← hs]; exact enter_size f s) (List.range l.length) (putE l s) (fun i hi => List.mem_range.1 hi) hm
            have e : (List.range l.length).countP (fun i => !(putE l s).dn i) = m + 1 := hm
            rw [e] at h
            have e2 : (putE l s).ent.length = s.ent.length + 1 := by simp [putE]
            rw [e2] at h
            show _ ≤ s.ent.length + (1 + (m + 1) * tT m)
            omega
theorem loop_known {rec : SSt → Int × SSt} {m B : Nat} (hsz : ∀ s, undn l.length s.dn = m → (rec s).2.ent.length ≤ s.ent.length + tT m) (hrec : ∀ s, undn l.length s.dn = m → s.ent.length + tT m ≤ B → (rec s).1 ≠ 3) : ∀ (r : List Nat) (s : SSt), (∀ i ∈ r, i < l.length) → undn l.length s.dn = m + 1 → s.ent.length + r.countP (fun i => !s.dn i) * tT m ≤ B → (loopF o l ab rec r s).1 ≠ 3
  | [], s, _, h, _ => by simp [loopF]
  | i :: r, s, hr, h, hB => by
    have hle : r.countP (fun i => !s.dn i) * tT m ≤ (i :: r).countP (fun i => !s.dn i) * tT m := Nat.mul_le_mul_right _ (by rw [List.countP_cons]; omega)
    have ih := loop_known hsz hrec r s (fun j hj => hr j (by simp [hj])) h (by omega)
    unfold loopF
    split
    · exact ih
    · rename_i hx
      split
      · exact ih
      · rename_i st' hg
        have hd := next_dn hx
        have hu := undn_set (n := l.length) (hr i (by simp)) hd
        have h1 : (rec (stepS l s i st')).2.ent.length ≤ s.ent.length + tT m := hsz (stepS l s i st') (by show undn l.length (dnSet s.dn i true) = m; omega)
        have e : (i :: r).countP (fun i => !s.dn i) * tT m = r.countP (fun i => !s.dn i) * tT m + tT m := by
          rw [List.countP_cons]
          simp [hd, Nat.add_mul]
        split
        · exact loop_known hsz hrec r ⟨s.dn, s.sts, s.ord, (rec (stepS l s i st')).2.ent⟩ (fun j hj => hr j (by simp [hj])) h (by simp only; omega)
        · exact hrec _ (by show undn l.length (dnSet s.dn i true) = m; omega) (by show s.ent.length + tT m ≤ B; omega)
theorem enter_known {bud : Nat} : ∀ (f : Nat) (s : SSt), s.ent.length + tT (undn l.length s.dn) ≤ bud → (enterF o l ab bud f s).1 ≠ 3
  | 0, s, _ => by simp [enterF]
  | f + 1, s, h => by
    have hp := tT_pos (undn l.length s.dn)
    unfold enterF
    split
    · simp
    · split
      · simp
      · rw [if_neg (by omega)]
        cases hm : undn l.length s.dn with
        | zero => rw [loop_none _ (putE l s) (undn_zero hm)]; simp
        | succ m =>
          refine loop_known (m := m) (B := bud) (fun s hs => by rw [← hs]; exact enter_size f s) (fun s hs hB => enter_known f s (by rw [hs]; exact hB)) (List.range l.length) (putE l s) (fun i hi => List.mem_range.1 hi) hm ?_
          have e : (List.range l.length).countP (fun i => !(putE l s).dn i) = m + 1 := hm
          rw [e]
          have e2 : (putE l s).ent.length = s.ent.length + 1 := by simp [putE]
          rw [e2]
          rw [hm] at h
          have : s.ent.length + (1 + (m + 1) * tT m) ≤ bud := h
          omega
theorem undn_start (n : Nat) : undn n (fun _ => false) = n := by simp [undn]
theorem tT_succ (b : Nat) : tT b ≤ tT (b + 1) := by
  have h2 : tT b ≤ (b + 1) * tT b := Nat.le_mul_of_pos_left _ (by omega)
  have h3 : tT (b + 1) = 1 + (b + 1) * tT b := rfl
  omega
theorem tT_mono {a b : Nat} (h : a ≤ b) : tT a ≤ tT b := by
  induction b with
  | zero =>
    obtain rfl : a = 0 := by omega
    exact Nat.le_refl _
  | succ b ih =>
    rcases Nat.lt_or_ge a (b + 1) with h1 | h1
    · exact Nat.le_trans (ih (by omega)) (tT_succ b)
    · obtain rfl : a = b + 1 := by omega
      exact Nat.le_refl _
theorem verd_known {bud : Nat} (hl : l.length ≤ 8) (hb : 109601 ≤ bud) : (verdF o l ab bud).1 ≠ 3 := by
  refine enter_known _ _ ?_
  have h1 : undn l.length (startS o).dn = l.length := undn_start l.length
  rw [h1]
  have h2 := tT_mono hl
  have h3 : tT 8 = 109601 := by decide
  have : (startS o).ent.length = 0 := rfl
  omega
theorem loop_code {rec : SSt → Int × SSt} (hrec : ∀ s, (rec s).1 = 1 ∨ (rec s).1 = 2 ∨ (rec s).1 = 3) : ∀ (r : List Nat) (s : SSt), (loopF o l ab rec r s).1 = 1 ∨ (loopF o l ab rec r s).1 = 2 ∨ (loopF o l ab rec r s).1 = 3
  | [], s => .inr (.inl rfl)
  | i :: r, s => by
    unfold loopF
    split
    · exact loop_code hrec r s
    · split
      · exact loop_code hrec r s
      · split
        · exact loop_code hrec r _
        · exact hrec _
theorem enter_code {bud : Nat} : ∀ (f : Nat) (s : SSt), (enterF o l ab bud f s).1 = 1 ∨ (enterF o l ab bud f s).1 = 2 ∨ (enterF o l ab bud f s).1 = 3
  | 0, s => .inr (.inl rfl)
  | f + 1, s => by
    unfold enterF
    split
    · exact .inl rfl
    · split
      · exact .inr (.inl rfl)
      · split
        · exact .inr (.inr rfl)
        · exact loop_code (enter_code f) _ _
end
end Go.Proofs.YtijgkocolajghaaDoor
