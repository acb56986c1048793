/- Registers, each of whose values is written once: what an order that shows them says of reads; what comes ahead: plain. Nothing of the program. -/
import Derived.Test.YtijgkocolajghaaDoorSrch4
namespace Go.Proofs.YtijgkocolajghaaDoor
set_option linter.unusedVariables false
set_option linter.unusedSimpArgs false
/-- Ops that may be looked at. -/
structure OkC (l : List Op8) : Prop where
  ops : OkOps l
  kind : ∀ i, i < l.length → (oAt l i).kind = 1 ∨ (oAt l i).kind = 2
  ret : ∀ i, i < l.length → 0 ≤ (oAt l i).ret
  wr : ∀ i, i < l.length → (oAt l i).kind = 2 → (oAt l i).a ≠ 0 ∧ (oAt l i).res = 0
  once : ∀ i j, i < j → j < l.length → (oAt l i).kind = 2 → (oAt l j).kind = 2 → ¬ ((oAt l i).key = (oAt l j).key ∧ (oAt l i).a = (oAt l j).a)
theorem OkC.uniq {l : List Op8} (h : OkC l) {i j : Nat} (hi : i < l.length) (hj : j < l.length) (ki : (oAt l i).kind = 2) (kj : (oAt l j).kind = 2) (hk : (oAt l i).key = (oAt l j).key) (ha : (oAt l i).a = (oAt l j).a) : i = j := by
  rcases Nat.lt_trichotomy i j with h1 | h1 | h1
  · exact absurd ⟨hk, ha⟩ (h.once i j h1 hj ki kj)
  · exact h1
  · exact absurd ⟨hk.symm, ha.symm⟩ (h.once j i h1 hi kj ki)
/-- A write of a value of a key. -/
def isW (l : List Op8) (key v : Int) (j : Nat) : Bool := decide ((oAt l j).kind = 2) && decide ((oAt l j).key = key) && decide ((oAt l j).a = v)
def wrF (l : List Op8) (key v : Int) : Option Nat := (List.range l.length).find? (isW l key v)
theorem wrF_some {l : List Op8} {key v : Int} {j : Nat} (h : wrF l key v = some j) : j < l.length ∧ (oAt l j).kind = 2 ∧ (oAt l j).key = key ∧ (oAt l j).a = v := by
  unfold wrF at h
  have h1 := List.find?_some h
  have h2 := List.mem_range.1 (List.mem_of_find?_eq_some h)
  unfold isW at h1
  simp at h1
  exact ⟨h2, h1.1.1, h1.1.2, h1.2⟩
theorem wrF_none {l : List Op8} {key v : Int} (h : wrF l key v = none) {j : Nat} (hj : j < l.length) : ¬ ((oAt l j).kind = 2 ∧ (oAt l j).key = key ∧ (oAt l j).a = v) := by
  unfold wrF at h
  have := List.find?_eq_none.1 h j (List.mem_range.2 hj)
  unfold isW at this
  simp at this
  rintro ⟨h1, h2, h3⟩
  exact this h1 h2 h3
theorem wrF_eq {l : List Op8} (h : OkC l) {j : Nat} (hj : j < l.length) (hk : (oAt l j).kind = 2) : wrF l (oAt l j).key (oAt l j).a = some j := by
  cases hw : wrF l (oAt l j).key (oAt l j).a with
  | none => exact absurd ⟨hk, rfl, rfl⟩ (wrF_none hw hj)
  | some i =>
    obtain ⟨h1, h2, h3, h4⟩ := wrF_some hw
    rw [h.uniq h1 hj h2 hk h3 h4]
/-- The write that an op reads; -1: nobody; -2: it is not written. -/
def readsF (l : List Op8) (i : Nat) : Int := if (oAt l i).kind = 2 ∨ (oAt l i).res = 0 then -1 else match wrF l (oAt l i).key (oAt l i).res with
  | some j => (j : Int)
  | none => -2
def r0F (l : List Op8) (i k : Nat) : Bool := (decide ((oAt l i).proc = (oAt l k).proc) && decide ((oAt l i).call < (oAt l k).call)) || decide (readsF l k = (i : Int))
/-- Over others between, of the first m. -/
def war (r : Nat → Nat → Bool) : Nat → Nat → Nat → Bool
  | 0 => r
  | m + 1 => fun i k => war r m i k || (war r m i m && war r m m k)
theorem war_le {r : Nat → Nat → Bool} {i k : Nat} : ∀ {m : Nat}, r i k = true → war r m i k = true
  | 0, h => h
  | m + 1, h => by unfold war; rw [war_le h]; rfl
theorem war_trans {r : Nat → Nat → Bool} : ∀ (m : Nat) (i j k : Nat), j < m → war r m i j = true → war r m j k = true → war r m i k = true
  | 0, _, _, _, h, _, _ => by omega
  | m + 1, i, j, k, hj, h1, h2 => by
    have ih := war_trans (r := r) m
    unfold war at h1 h2 ⊢
    simp only [Bool.or_eq_true, Bool.and_eq_true] at h1 h2 ⊢
    rcases Nat.lt_or_ge j m with h3 | h3
    · rcases h1 with h1 | ⟨h1, h1'⟩ <;> rcases h2 with h2 | ⟨h2, h2'⟩
      · exact .inl (ih i j k h3 h1 h2)
      · exact .inr ⟨ih i j m h3 h1 h2, h2'⟩
      · exact .inr ⟨h1, ih m j k h3 h1' h2⟩
      · exact .inr ⟨h1, h2'⟩
    · obtain rfl : j = m := by omega
      have a1 : war r j i j = true := by rcases h1 with h1 | ⟨h1, _⟩ <;> exact h1
      have a2 : war r j j k = true := by rcases h2 with h2 | ⟨_, h2⟩ <;> exact h2
      exact .inr ⟨a1, a2⟩
theorem war_ind {r : Nat → Nat → Bool} {R : Nat → Nat → Prop} {n : Nat} (h0 : ∀ i k, i < n → k < n → r i k = true → R i k) (ht : ∀ i j k, i < n → j < n → k < n → R i j → R j k → R i k) : ∀ m, m ≤ n → ∀ i k, i < n → k < n → war r m i k = true → R i k
  | 0, _, i, k, hi, hk, h => h0 i k hi hk h
  | m + 1, hm, i, k, hi, hk, h => by
    have ih := war_ind h0 ht m (by omega)
    unfold war at h
    simp only [Bool.or_eq_true, Bool.and_eq_true] at h
    rcases h with h | ⟨h1, h2⟩
    · exact ih i k hi hk h
    · exact ht i m k hi (by omega) hk (ih i m hi (by omega) h1) (ih m k (by omega) hk h2)
def beforeF (l : List Op8) (i k : Nat) : Bool := war (r0F l) l.length i k

/-! ### An order that shows registers -/
def regV (l : List Op8) (key : Nat) (ord : List Int) : Int := ord.foldl (fun v i => if (oAt l i.toNat).kind = 2 ∧ keyN l i.toNat = key then (oAt l i.toNat).a else v) 0
theorem regV_snoc (l : List Op8) (key : Nat) (ord : List Int) (i : Int) : regV l key (ord ++ [i]) = if (oAt l i.toNat).kind = 2 ∧ keyN l i.toNat = key then (oAt l i.toNat).a else regV l key ord := by
  unfold regV
  rw [List.foldl_append]
  rfl
theorem snoc_ind {α : Type} {P : List α → Prop} (h0 : P []) (h1 : ∀ l a, P l → P (l ++ [a])) (l : List α) : P l := by
  have : ∀ r : List α, P r.reverse := by
    intro r
    induction r with
    | nil => exact h0
    | cons a r ih => rw [List.reverse_cons]; exact h1 _ a ih
  have h := this l.reverse
  rwa [List.reverse_reverse] at h
theorem regV_cases (l : List Op8) (key : Nat) (ord : List Int) : (regV l key ord = 0 ∧ ∀ i ∈ ord, ¬ ((oAt l i.toNat).kind = 2 ∧ keyN l i.toNat = key)) ∨ ∃ p w s, ord = p ++ w :: s ∧ (oAt l w.toNat).kind = 2 ∧ keyN l w.toNat = key ∧ regV l key ord = (oAt l w.toNat).a ∧ ∀ i ∈ s, ¬ ((oAt l i.toNat).kind = 2 ∧ keyN l i.toNat = key) := by
  induction ord using snoc_ind with
  | h0 => exact .inl ⟨rfl, by simp⟩
  | h1 ord i ih =>
    rw [regV_snoc]
    by_cases hc : (oAt l i.toNat).kind = 2 ∧ keyN l i.toNat = key
    · rw [if_pos hc]
      exact .inr ⟨ord, i, [], rfl, hc.1, hc.2, rfl, by simp⟩
    · rw [if_neg hc]
      rcases ih with ⟨h1, h2⟩ | ⟨p, w, s, h1, h2, h3, h4, h5⟩
      · refine .inl ⟨h1, fun j hj => ?_⟩
        rcases List.mem_append.1 hj with hj | hj
        · exact h2 j hj
        · rw [List.mem_singleton.1 hj]; exact hc
      · refine .inr ⟨p, w, s ++ [i], by rw [h1]; simp, h2, h3, h4, fun j hj => ?_⟩
        rcases List.mem_append.1 hj with hj | hj
        · exact h5 j hj
        · rw [List.mem_singleton.1 hj]; exact hc
theorem goF_reg {l : List Op8} {sts : Nat → List Int} {i : Nat} {st' : List Int} {v : Int} (hs : sts (keyN l i) = [v]) (hk : (oAt l i).kind = 1 ∨ (oAt l i).kind = 2) (h : goF 1 l sts i = some st') : st' = [if (oAt l i).kind = 2 then (oAt l i).a else v] ∧ ((oAt l i).kind = 1 → (oAt l i).ret ≠ -1 → (oAt l i).res = v) := by
  obtain ⟨r, h1, h2⟩ := goF_step h
  rw [hs] at h1
  unfold stepF at h1
  split at h1
  · cases h1
  rw [if_pos rfl] at h1
  injection h1 with h1
  injection h1 with h1 h3
  subst h1 h3
  unfold regF at h2 ⊢
  rcases hk with hk | hk
  · simp only [hk, List.getD_cons_zero] at h2 ⊢
    refine ⟨by simp, fun _ hr => ?_⟩
    rcases Classical.em ((oAt l i).res = v) with h4 | h4
    · exact h4
    · exact absurd ⟨hr, by simpa using fun e => h4 e.symm⟩ h2
  · simp only [hk, List.getD_cons_zero] at h2 ⊢
    refine ⟨by simp, fun h4 => by omega⟩
theorem run_reg {l : List Op8} (hA : ArgsOk l) (hkd : ∀ i, i < l.length → (oAt l i).kind = 1 ∨ (oAt l i).kind = 2) : ∀ (r dn : List Int) (a b : Nat → List Int), (∀ i ∈ r, 0 ≤ i ∧ i < l.length) → (∀ k, k < 8 → a k = [regV l k dn]) → RunL 1 l r a b →
    ∀ p i s, r = p ++ i :: s → (oAt l i.toNat).kind = 1 → (oAt l i.toNat).ret ≠ -1 → (oAt l i.toNat).res = regV l (keyN l i.toNat) (dn ++ p)
  | [], dn, a, b, _, _, _ => by intro p i s h; simp at h
  | j :: r, dn, a, b, hr, ha, hrun => by
    obtain ⟨st', h1, h2⟩ := hrun
    have hj := hr j (by simp)
    have hjl : j.toNat < l.length := by omega
    have hk8 := hA.keyN hjl
    obtain ⟨e1, e2⟩ := goF_reg (ha _ hk8) (hkd _ hjl) h1
    have ha' : ∀ k, k < 8 → stSet a (keyN l j.toNat) st' k = [regV l k (dn ++ [j])] := by
      intro k hk
      rw [regV_snoc]
      unfold stSet
      by_cases hkk : k = keyN l j.toNat
      · subst hkk
        rw [if_pos rfl, e1]
        rcases hkd _ hjl with h3 | h3
        · rw [if_neg (by omega), if_neg (by omega)]
        · rw [if_pos h3, if_pos ⟨h3, rfl⟩]
      · rw [if_neg hkk, if_neg (fun hh => hkk hh.2.symm)]
        exact ha k hk
    have ih := run_reg hA hkd r (dn ++ [j]) _ b (fun i hi => hr i (by simp [hi])) ha' h2
    intro p i s hp hki hri
    cases p with
    | nil =>
      rw [List.nil_append] at hp
      injection hp with hp _
      subst hp
      rw [List.append_nil]
      exact e2 hki hri
    | cons x p =>
      rw [List.cons_append] at hp
      injection hp with hx hp
      subst hx
      have := ih p i s hp hki hri
      rw [List.append_assoc] at this
      exact this
/-- An order of all ops that shows registers. -/
structure RegOrd (l : List Op8) (ord : List Int) : Prop where
  rng : ∀ i ∈ ord, 0 ≤ i ∧ i < l.length
  nodup : ord.Nodup
  all : ∀ i, i < l.length → ((i : Nat) : Int) ∈ ord
  proc : ord.Pairwise fun a b => procB (oAt l b.toNat) (oAt l a.toNat) = false
  read : ∀ p i s, ord = p ++ i :: s → (oAt l i.toNat).kind = 1 → (oAt l i.toNat).res = regV l (keyN l i.toNat) p
theorem regOrd_of {l : List Op8} {b : Int} {bud : Nat} {ab : Op8 → Op8 → Bool} (hC : OkC l) (hok : OkLin 1 l b) (hab : ∀ p q, procB p q = true → p ∈ l → q ∈ l → ab p q = true) (hv : (verdF 1 l ab bud).1 = 1) : RegOrd l (verdF 1 l ab bud).2.ord := by
  obtain ⟨h1, h2⟩ := verd_sound hv
  have hA := argsOk hok
  have hmem : ∀ i : Int, 0 ≤ i ∧ i < l.length → oAt l i.toNat ∈ l := fun i hi => by
    have hlt : i.toNat < l.length := by omega
    unfold oAt
    rw [List.getD_eq_getElem?_getD, List.getElem?_eq_getElem hlt]
    exact List.getElem_mem hlt
  refine ⟨h2.rng, h2.nodup, fun i hi => ?_, ?_, fun p i s hp hk => ?_⟩
  · have h3 := List.all_eq_true.1 h1 i (List.mem_range.2 hi)
    have h4 := hC.ret i hi
    simp only [decide_eq_true h4, Bool.not_true, Bool.false_or] at h3
    rw [h2.dnE i] at h3
    simpa using h3
  · rw [List.pairwise_iff_getElem]
    intro i j hi hj hij
    have h3 := List.pairwise_iff_getElem.1 h2.ahead i j hi hj hij
    cases hp : procB (oAt l (verdF 1 l ab bud).2.ord[j].toNat) (oAt l (verdF 1 l ab bud).2.ord[i].toNat) with
    | false => rfl
    | true =>
      rw [hab _ _ hp (hmem _ (h2.rng _ (List.getElem_mem hj))) (hmem _ (h2.rng _ (List.getElem_mem hi)))] at h3
      cases h3
  · have hi := h2.rng i (by rw [hp]; simp)
    have := run_reg hA hC.kind _ [] _ _ h2.rng (fun k hk => by
      have e : (startS 1).sts k = startF 1 := if_pos hk
      rw [e]; rfl) h2.run p i s hp hk (by have := hC.ret i.toNat (by omega); omega)
    simpa using this
/-- Where an op stands. -/
def posO (ord : List Int) (i : Nat) : Nat := ord.idxOf ((i : Nat) : Int)
section
variable {l : List Op8} {ord : List Int}
theorem RegOrd.pos (h : RegOrd l ord) {i : Nat} (hi : i < l.length) : ∃ hlt : posO ord i < ord.length, ord[posO ord i] = (i : Int) := by
  have hm := h.all i hi
  have hlt : posO ord i < ord.length := List.idxOf_lt_length_iff.2 hm
  exact ⟨hlt, List.getElem_idxOf hlt⟩
theorem RegOrd.split (h : RegOrd l ord) {i : Nat} (hi : i < l.length) : ord = ord.take (posO ord i) ++ (i : Int) :: ord.drop (posO ord i + 1) := by
  obtain ⟨hlt, he⟩ := h.pos hi
  rw [← he, ← List.drop_eq_getElem_cons hlt, List.take_append_drop]
theorem RegOrd.ahead_pos (h : RegOrd l ord) {i k : Nat} (hi : i < l.length) (hm : ((i : Nat) : Int) ∈ ord.take k) : posO ord i < k := by
  obtain ⟨j, hj, he⟩ := List.mem_take_iff_getElem.1 hm
  have hjl : j < ord.length := by omega
  obtain ⟨hlt, hp⟩ := h.pos hi
  have : posO ord i = j := (List.getElem_inj (h₀ := hlt) (h₁ := hjl) h.nodup).1 (hp.trans he.symm)
  omega
theorem RegOrd.pos_inj (h : RegOrd l ord) {i k : Nat} (hi : i < l.length) (hk : k < l.length) (he : posO ord i = posO ord k) : i = k := by
  obtain ⟨h1, h2⟩ := h.pos hi
  obtain ⟨h3, h4⟩ := h.pos hk
  have : ord[posO ord i] = ord[posO ord k] := by congr 1
  rw [h2, h4] at this
  omega
theorem RegOrd.take_mem (h : RegOrd l ord) {i k : Nat} (hi : i < l.length) (hlt : posO ord i < k) : ((i : Nat) : Int) ∈ ord.take k := by
  obtain ⟨h1, h2⟩ := h.pos hi
  exact List.mem_take_iff_getElem.2 ⟨posO ord i, by omega, h2⟩
theorem RegOrd.proc_pos (h : RegOrd l ord) {i k : Nat} (hi : i < l.length) (hk : k < l.length) (hp : procB (oAt l i) (oAt l k) = true) : posO ord i < posO ord k := by
  obtain ⟨h1, h2⟩ := h.pos hi
  obtain ⟨h3, h4⟩ := h.pos hk
  rcases Nat.lt_trichotomy (posO ord i) (posO ord k) with h5 | h5 | h5
  · exact h5
  · have := h.pos_inj hi hk h5
    subst this
    unfold procB at hp
    simp at hp
  · have := List.pairwise_iff_getElem.1 h.proc _ _ h3 h1 h5
    rw [h2, h4, Int.toNat_natCast, Int.toNat_natCast, hp] at this
    cases this
theorem keyN_eq (hA : ArgsOk l) {i j : Nat} (hi : i < l.length) (hj : j < l.length) : keyN l i = keyN l j ↔ (oAt l i).key = (oAt l j).key := by
  have h1 := hA.key i hi
  have h2 := hA.key j hj
  unfold keyN
  omega
/-- What a read reads: 0, and no write of its key stands ahead; or the last write ahead. -/
theorem RegOrd.reads (h : RegOrd l ord) (hA : ArgsOk l) {i : Nat} (hi : i < l.length) (hk : (oAt l i).kind = 1) :
    ((oAt l i).res = 0 ∧ ∀ w, w < l.length → (oAt l w).kind = 2 → (oAt l w).key = (oAt l i).key → ¬ posO ord w < posO ord i) ∨
    ∃ w, w < l.length ∧ (oAt l w).kind = 2 ∧ (oAt l w).key = (oAt l i).key ∧ (oAt l w).a = (oAt l i).res ∧ posO ord w < posO ord i ∧ ∀ w', w' < l.length → (oAt l w').kind = 2 → (oAt l w').key = (oAt l i).key → posO ord w < posO ord w' → ¬ posO ord w' < posO ord i := by
  have hs := h.split hi
  have hr := h.read _ _ _ hs (by rw [Int.toNat_natCast]; exact hk)
  rw [Int.toNat_natCast] at hr
  obtain ⟨hlt, _⟩ := h.pos hi
  rcases regV_cases l (keyN l i) (ord.take (posO ord i)) with ⟨h1, h2⟩ | ⟨p, w, s, h1, h2, h3, h4, h5⟩
  · refine .inl ⟨hr.trans h1, fun w hw hkw hkey hlt => ?_⟩
    have := h2 _ (h.take_mem hw hlt)
    rw [Int.toNat_natCast] at this
    exact this ⟨hkw, (keyN_eq hA hw hi).2 hkey⟩
  · have hwm : w ∈ ord.take (posO ord i) := by rw [h1]; simp
    have hwr := h.rng w (List.mem_of_mem_take hwm)
    have hwl : w.toNat < l.length := by omega
    have hwe : ((w.toNat : Nat) : Int) = w := by omega
    have hwp : posO ord w.toNat = p.length := by
      have hpl : p.length < (ord.take (posO ord i)).length := by rw [h1]; simp
      have hpo : p.length < ord.length := by simp at hpl; omega
      obtain ⟨q1, q2⟩ := h.pos hwl
      have e2 : ord[p.length] = w := by
        have : (ord.take (posO ord i))[p.length]? = some w := by rw [h1]; simp
        rw [List.getElem?_take_of_lt (by simp at hpl; omega), List.getElem?_eq_getElem hpo] at this
        injection this
      exact (List.getElem_inj (h₀ := q1) (h₁ := hpo) h.nodup).1 (by rw [q2, e2]; exact hwe)
    refine .inr ⟨w.toNat, hwl, h2, (keyN_eq hA hwl hi).1 h3, by rw [← h4]; exact hr.symm, h.ahead_pos hwl (by rw [hwe]; exact hwm), fun w' hw' hkw' hkey' hlt1 hlt2 => ?_⟩
    have hm : ((w' : Nat) : Int) ∈ s := by
      obtain ⟨q1, q2⟩ := h.pos hw'
      have hpl : (ord.take (posO ord i)).length = posO ord i := by simp; omega
      have : (ord.take (posO ord i))[posO ord w']? = some (w' : Int) := by rw [List.getElem?_take_of_lt hlt2, List.getElem?_eq_getElem q1, q2]
      rw [h1, List.getElem?_append_right (by omega)] at this
      have e3 : posO ord w' - p.length = (posO ord w' - p.length - 1) + 1 := by omega
      rw [e3, List.getElem?_cons_succ] at this
      exact List.mem_of_getElem? this
    have := h5 _ hm
    rw [Int.toNat_natCast] at this
    exact this ⟨hkw', (keyN_eq hA hw' hi).2 hkey'⟩
theorem RegOrd.r0 (h : RegOrd l ord) (hC : OkC l) (hA : ArgsOk l) {i k : Nat} (hi : i < l.length) (hk : k < l.length) (hr : r0F l i k = true) : posO ord i < posO ord k := by
  unfold r0F at hr
  simp only [Bool.or_eq_true, Bool.and_eq_true, decide_eq_true_eq] at hr
  rcases hr with hr | hr
  · exact h.proc_pos hi hk (by unfold procB; simp [hr])
  · unfold readsF at hr
    split at hr
    · omega
    · rename_i hne
      split at hr
      · rename_i j hw
        obtain ⟨h1, h2, h3, h4⟩ := wrF_some hw
        have hji : j = i := by omega
        subst hji
        have hk1 : (oAt l k).kind = 1 := by
          rcases hC.kind k hk with h5 | h5
          · exact h5
          · exact absurd (.inl h5) hne
        rcases h.reads hA hk hk1 with ⟨h5, _⟩ | ⟨w, hw1, hw2, hw3, hw4, hw5, _⟩
        · exact absurd (.inr h5) hne
        · have : w = j := hC.uniq hw1 h1 hw2 h2 (hw3.trans h3.symm) (hw4.trans h4.symm)
          subst this
          exact hw5
      · omega
theorem RegOrd.before (h : RegOrd l ord) (hC : OkC l) (hA : ArgsOk l) {i k : Nat} (hi : i < l.length) (hk : k < l.length) (hr : beforeF l i k = true) : posO ord i < posO ord k :=
  war_ind (R := fun i k => posO ord i < posO ord k) (n := l.length) (fun i k hi hk hr => h.r0 hC hA hi hk hr) (fun i j k _ _ _ h1 h2 => Nat.lt_trans h1 h2) l.length (Nat.le_refl _) i k hi hk hr
/-- What can't be, is not. -/
theorem RegOrd.thin (h : RegOrd l ord) (hC : OkC l) (hA : ArgsOk l) {i : Nat} (hi : i < l.length) : readsF l i ≠ -2 := by
  unfold readsF
  split
  · omega
  · rename_i hne
    split
    · omega
    · rename_i hw
      have hk1 : (oAt l i).kind = 1 := by
        rcases hC.kind i hi with h5 | h5
        · exact h5
        · exact absurd (.inl h5) hne
      rcases h.reads hA hi hk1 with ⟨h5, _⟩ | ⟨w, hw1, hw2, hw3, hw4, hw5, _⟩
      · exact absurd (.inr h5) hne
      · exact absurd ⟨hw2, hw3, hw4⟩ (wrF_none hw hw1)
theorem RegOrd.round (h : RegOrd l ord) (hC : OkC l) (hA : ArgsOk l) {i : Nat} (hi : i < l.length) : beforeF l i i = false := by
  cases hb : beforeF l i i with
  | false => rfl
  | true => exact absurd (h.before hC hA hi hi hb) (Nat.lt_irrefl _)
theorem RegOrd.empty (h : RegOrd l ord) (hC : OkC l) (hA : ArgsOk l) {i k : Nat} (hi : i < l.length) (hk : k < l.length) (h1 : (oAt l i).kind = 1) (h2 : readsF l i = -1) (h3 : (oAt l k).kind = 2) (h4 : (oAt l k).key = (oAt l i).key) : beforeF l k i = false := by
  cases hb : beforeF l k i with
  | false => rfl
  | true =>
    have hp := h.before hC hA hk hi hb
    rcases h.reads hA hi h1 with ⟨h5, h6⟩ | ⟨w, hw1, hw2, hw3, hw4, hw5, _⟩
    · exact absurd hp (h6 k hk h3 h4)
    · exfalso
      unfold readsF at h2
      split at h2
      · rename_i hc
        rcases hc with hc | hc
        · omega
        · rw [hc] at hw4
          exact (hC.wr w hw1 hw2).1 hw4
      · split at h2 <;> omega
theorem RegOrd.stale (h : RegOrd l ord) (hC : OkC l) (hA : ArgsOk l) {i k j : Nat} (hi : i < l.length) (hk : k < l.length) (h1 : (oAt l i).kind = 1) (h2 : readsF l i = (j : Int)) (h3 : (oAt l k).kind = 2) (h4 : (oAt l k).key = (oAt l i).key) (h5 : beforeF l k i = true) (h6 : beforeF l j k = true) : False := by
  unfold readsF at h2
  split at h2
  · omega
  rename_i hne
  split at h2
  rotate_left
  · omega
  rename_i j' hw
  have hjj : j' = j := by omega
  subst hjj
  obtain ⟨w1, w2, w3, w4⟩ := wrF_some hw
  have p1 := h.before hC hA hk hi h5
  have p2 := h.before hC hA w1 hk h6
  rcases h.reads hA hi h1 with ⟨h7, _⟩ | ⟨w, hw1, hw2, hw3, hw4, hw5, hw6⟩
  · exact hne (.inr h7)
  · have : w = j' := hC.uniq hw1 w1 hw2 w2 (hw3.trans w3.symm) (hw4.trans w4.symm)
    subst this
    exact hw6 k hk h3 h4 p2 p1
end
end Go.Proofs.YtijgkocolajghaaDoor
