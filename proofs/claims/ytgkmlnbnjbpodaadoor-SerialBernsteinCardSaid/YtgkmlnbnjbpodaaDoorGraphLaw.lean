/- Graphs on 0 .. n-1, plainly: paths, an order by taking what nobody leads to, the closure; nothing of the program. -/
namespace Go.Proofs.YtgkmlnbnjbpodaaDoor
set_option linter.unusedVariables false
set_option linter.unusedSimpArgs false

/-- A road over others: one step or more, all below n. -/
def StepN (n : Nat) (f : Nat → Nat → Bool) : Nat → Nat → Nat → Prop
  | 0, a, b => a < n ∧ b < n ∧ f a b = true
  | k + 1, a, c => ∃ b, a < n ∧ b < n ∧ f a b = true ∧ StepN n f k b c
def Path (n : Nat) (f : Nat → Nat → Bool) (a b : Nat) : Prop := ∃ k, StepN n f k a b
theorem Path.one {n : Nat} {f : Nat → Nat → Bool} {a b : Nat} (h1 : a < n) (h2 : b < n) (h3 : f a b = true) : Path n f a b := ⟨0, h1, h2, h3⟩
theorem Path.cons {n : Nat} {f : Nat → Nat → Bool} {a b c : Nat} (h1 : a < n) (h2 : b < n) (h3 : f a b = true) (h : Path n f b c) : Path n f a c := h.elim fun k h => ⟨k + 1, b, h1, h2, h3, h⟩
theorem Path.ind {n : Nat} {f : Nat → Nat → Bool} {motive : (a b : Nat) → Path n f a b → Prop} (one : ∀ {a b : Nat} (h1 : a < n) (h2 : b < n) (h3 : f a b = true), motive a b (.one h1 h2 h3))
    (cons : ∀ {a b c : Nat} (h1 : a < n) (h2 : b < n) (h3 : f a b = true) (h : Path n f b c), motive b c h → motive a c (.cons h1 h2 h3 h)) {a b : Nat} (h : Path n f a b) : motive a b h := by
  obtain ⟨k, hk⟩ := h
  induction k generalizing a with
  | zero => exact one hk.1 hk.2.1 hk.2.2
  | succ k ih => obtain ⟨x, h1, h2, h3, h4⟩ := hk; exact cons h1 h2 h3 ⟨k, h4⟩ (ih h4)

theorem Path.trans {n : Nat} {f : Nat → Nat → Bool} {a b c : Nat} (h : Path n f a b) (k : Path n f b c) : Path n f a c := by
  induction h using Path.ind with
  | one h1 h2 h3 => exact .cons h1 h2 h3 k
  | cons h1 h2 h3 _ ih => exact .cons h1 h2 h3 (ih k)
theorem Path.lt {n : Nat} {f : Nat → Nat → Bool} {a b : Nat} (h : Path n f a b) : a < n ∧ b < n := by
  induction h using Path.ind with
  | one h1 h2 _ => exact ⟨h1, h2⟩
  | cons h1 _ _ _ ih => exact ⟨h1, ih.2⟩
theorem Path.mono {n : Nat} {f g : Nat → Nat → Bool} (hfg : ∀ i j, i < n → j < n → f i j = true → g i j = true) {a b : Nat} (h : Path n f a b) : Path n g a b := by
  induction h using Path.ind with
  | one h1 h2 h3 => exact .one h1 h2 (hfg _ _ h1 h2 h3)
  | cons h1 h2 h3 _ ih => exact .cons h1 h2 (hfg _ _ h1 h2 h3) ih
/-- It goes round. -/
def Cyc (n : Nat) (f : Nat → Nat → Bool) : Prop := ∃ a, Path n f a a

/-! ### The order -/
/-- The first one that is not out yet and to which none leads that is not out yet. -/
def nextO (n : Nat) (f : Nat → Nat → Bool) (out : List Nat) : Option Nat :=
  (List.range n).find? fun v => !out.contains v && (List.range n).all fun u => out.contains u || !f u v
def orderTo (n : Nat) (f : Nat → Nat → Bool) : Nat → Option (List Nat)
  | 0 => some []
  | k + 1 => match orderTo n f k with
    | some out => match nextO n f out with
      | some v => some (out ++ [v])
      | none => none
    | none => none
def orderF (n : Nat) (f : Nat → Nat → Bool) : Option (List Nat) := orderTo n f n

theorem nextO_spec {n : Nat} {f : Nat → Nat → Bool} {out : List Nat} {v : Nat} (h : nextO n f out = some v) : v < n ∧ v ∉ out ∧ ∀ u, u < n → f u v = true → u ∈ out := by
  have h1 := List.find?_some h
  have h2 := List.mem_of_find?_eq_some h
  simp only [Bool.and_eq_true, Bool.not_eq_true', List.all_eq_true, List.mem_range, Bool.or_eq_true, List.contains_eq_mem, decide_eq_true_eq, decide_eq_false_iff_not] at h1
  refine ⟨List.mem_range.1 h2, h1.1, fun u hu hf => ?_⟩
  rcases h1.2 u hu with h | h
  · exact h
  · rw [hf] at h; cases h
theorem nextO_none {n : Nat} {f : Nat → Nat → Bool} {out : List Nat} (h : nextO n f out = none) : ∀ v, v < n → v ∉ out → ∃ u, u < n ∧ u ∉ out ∧ f u v = true := by
  intro v hv hvo
  have h1 := List.find?_eq_none.1 h v (List.mem_range.2 hv)
  simp only [Bool.and_eq_true, Bool.not_eq_true', List.all_eq_true, List.mem_range, Bool.or_eq_true, List.contains_eq_mem, decide_eq_true_eq, decide_eq_false_iff_not] at h1
  simp only [not_and] at h1
  have h2 := h1 hvo
  simp only [Classical.not_forall] at h2
  obtain ⟨u, hu, h3⟩ := h2
  refine ⟨u, hu, fun hm => h3 (.inl hm), ?_⟩
  cases hf : f u v with
  | true => rfl
  | false => exact absurd (Or.inr hf) h3

/-- What an order that is made so far is. -/
theorem orderTo_spec {n : Nat} {f : Nat → Nat → Bool} : ∀ (k : Nat) (out : List Nat), orderTo n f k = some out → out.length = k ∧ out.Nodup ∧ (∀ v ∈ out, v < n) ∧
    (∀ (j : Nat) (v : Nat), out[j]? = some v → ∀ u, u < n → f u v = true → ∃ i, i < j ∧ out[i]? = some u)
  | 0, out, h => by
    simp only [orderTo, Option.some.injEq] at h
    subst h
    simp
  | k + 1, out, h => by
    simp only [orderTo] at h
    cases h1 : orderTo n f k with
    | none => simp [h1] at h
    | some o =>
      simp only [h1] at h
      cases h2 : nextO n f o with
      | none => simp [h2] at h
      | some v =>
        simp only [h2, Option.some.injEq] at h
        subst h
        obtain ⟨q1, q2, q3, q4⟩ := orderTo_spec k o h1
        obtain ⟨s1, s2, s3⟩ := nextO_spec h2
        refine ⟨by simp [q1], ?_, ?_, ?_⟩
        · rw [List.nodup_append]
          refine ⟨q2, by simp, fun a ha b hb => ?_⟩
          simp only [List.mem_singleton] at hb
          subst hb
          exact fun e => s2 (e ▸ ha)
        · intro u hu
          rcases List.mem_append.1 hu with h | h
          · exact q3 u h
          · simp only [List.mem_singleton] at h; rw [h]; exact s1
        · intro j u hu x hx hf
          rcases Nat.lt_or_ge j o.length with hj | hj
          · rw [List.getElem?_append_left hj] at hu
            obtain ⟨i, hi, hio⟩ := q4 j u hu x hx hf
            exact ⟨i, hi, by rw [List.getElem?_append_left (by omega)]; exact hio⟩
          · rw [List.getElem?_append_right hj] at hu
            have hj0 : j = o.length := by
              have := (List.getElem?_eq_some_iff.1 hu).1
              simp at this
              omega
            subst hj0
            simp at hu
            subst hu
            obtain ⟨i, hi, he⟩ := List.mem_iff_getElem.1 (s3 x hx hf)
            exact ⟨i, hi, by rw [List.getElem?_append_left hi, List.getElem?_eq_getElem hi, he]⟩

theorem nodup_le {α : Type} [BEq α] [LawfulBEq α] : ∀ (l r : List α), l.Nodup → (∀ x ∈ l, x ∈ r) → l.length ≤ r.length
  | [], _, _, _ => Nat.zero_le _
  | a :: l, r, hnd, hs => by
    obtain ⟨h1, h2⟩ := List.nodup_cons.1 hnd
    have ha := hs a (List.mem_cons_self ..)
    have := nodup_le l (r.erase a) h2 (fun x hx => (List.mem_erase_of_ne (show x ≠ a from fun e => h1 (e ▸ hx))).2 (hs x (List.mem_cons_of_mem _ hx)))
    rw [List.length_erase_of_mem ha] at this
    have hp := List.length_pos_of_mem ha
    simp only [List.length_cons]
    omega
/-- Of n distinct numbers below n each is one. -/
theorem mem_of_full {n : Nat} : ∀ (l : List Nat), l.Nodup → (∀ v ∈ l, v < n) → l.length = n → ∀ v, v < n → v ∈ l := by
  intro l hnd hlt hlen v hv
  by_cases hm : v ∈ l
  · exact hm
  · exfalso
    have h1 : (v :: l).Nodup := List.nodup_cons.2 ⟨hm, hnd⟩
    have h2 : ∀ x ∈ (v :: l), x ∈ List.range n := by
      intro x hx
      rcases List.mem_cons.1 hx with rfl | hx
      · exact List.mem_range.2 hv
      · exact List.mem_range.2 (hlt x hx)
    have h3 := nodup_le _ _ h1 h2
    simp at h3
    omega

/-- An order: nothing goes round. -/
theorem order_acyc {n : Nat} {f : Nat → Nat → Bool} {out : List Nat} (h : orderF n f = some out) : ¬ Cyc n f := by
  obtain ⟨q1, q2, q3, q4⟩ := orderTo_spec n out h
  have hpos : ∀ a b, Path n f a b → ∀ j : Nat, out[j]? = some b → ∃ i, i < j ∧ out[i]? = some a := by
    intro a b hp
    induction hp using Path.ind with
    | one h1 h2 h3 => exact fun j hj => q4 j _ hj _ h1 h3
    | cons h1 h2 h3 _ ih =>
      intro j hj
      obtain ⟨i, hi, hio⟩ := ih j hj
      obtain ⟨i', hi', hio'⟩ := q4 i _ hio _ h1 h3
      exact ⟨i', by omega, hio'⟩
  rintro ⟨a, ha⟩
  have hm := mem_of_full out q2 q3 q1 a ha.lt.1
  obtain ⟨j, hj, he⟩ := List.mem_iff_getElem.1 hm
  have hj' : out[j]? = some a := by rw [List.getElem?_eq_getElem hj, he]
  have : ∀ m j : Nat, j ≤ m → out[j]? = some a → False := by
    intro m
    induction m with
    | zero =>
      intro j hj h0
      obtain ⟨i, hi, _⟩ := hpos a a ha j h0
      omega
    | succ m ih =>
      intro j hj h0
      obtain ⟨i, hi, hio⟩ := hpos a a ha j h0
      exact ih i (by omega) hio
  exact this j j (Nat.le_refl _) hj'

/-- Where each of some has one ahead of it among them, it goes round. -/
theorem cyc_of_pred {n : Nat} {f : Nat → Nat → Bool} (P : Nat → Prop) (hP : ∀ v, P v → v < n) (hpre : ∀ v, P v → ∃ u, P u ∧ f u v = true) (v : Nat) (hv : P v) : Cyc n f := by
  -- walk back n + 1 steps; two of the nodes are one
  have walk : ∀ k, ∃ l : List Nat, l.length = k + 1 ∧ (∀ x ∈ l, P x) ∧ ∀ i j : Nat, i < j → ∀ x y : Nat, l[i]? = some x → l[j]? = some y → Path n f x y := by
    intro k
    induction k with
    | zero => exact ⟨[v], rfl, by simpa using hv, fun i j hij x y hx hy => by
        have := (List.getElem?_eq_some_iff.1 hy).1
        simp at this
        omega⟩
    | succ k ih =>
      obtain ⟨l, h1, h2, h3⟩ := ih
      match l, h1 with
      | x0 :: r, h1 =>
        obtain ⟨u, hu, hf⟩ := hpre x0 (h2 x0 (by simp))
        refine ⟨u :: x0 :: r, by simp at h1 ⊢; omega, fun x hx => ?_, ?_⟩
        · rcases List.mem_cons.1 hx with rfl | hx
          · exact hu
          · exact h2 x hx
        · intro i j hij x y hx hy
          match j, hij with
          | j + 1, hij =>
          rw [List.getElem?_cons_succ] at hy
          have hy0 := hy
          match i with
          | 0 =>
            simp only [List.getElem?_cons_zero, Option.some.injEq] at hx
            subst hx
            match j with
            | 0 =>
              simp only [List.getElem?_cons_zero, Option.some.injEq] at hy
              subst hy
              exact .one (hP _ hu) (hP _ (h2 x0 (by simp))) hf
            | j + 1 => exact .cons (hP _ hu) (hP _ (h2 x0 (by simp))) hf (h3 0 (j + 1) (by omega) x0 y (by simp) hy)
          | i + 1 =>
            rw [List.getElem?_cons_succ] at hx
            exact h3 i j (by omega) x y hx hy
  obtain ⟨l, h1, h2, h3⟩ := walk n
  have hnd : ¬ l.Nodup := fun hnd => by
    have h4 : ∀ x ∈ l, x ∈ List.range n := fun x hx => List.mem_range.2 (hP x (h2 x hx))
    have := nodup_le _ _ hnd h4
    simp at this
    omega
  refine Classical.byContradiction fun hc => hnd ?_
  refine List.pairwise_iff_getElem.2 fun i j hi hj hij e => hc ?_
  exact ⟨l[j], h3 i j hij _ _ (by rw [List.getElem?_eq_getElem hi, e]) (List.getElem?_eq_getElem hj)⟩

/-- Without an order it goes round. -/
theorem order_none {n : Nat} {f : Nat → Nat → Bool} (h : orderF n f = none) : Cyc n f := by
  have : ∀ k, k ≤ n → orderTo n f k = none → Cyc n f := by
    intro k
    induction k with
    | zero => intro _ h; simp [orderTo] at h
    | succ k ih =>
      intro hk h
      simp only [orderTo] at h
      cases h1 : orderTo n f k with
      | none => exact ih (by omega) h1
      | some o =>
        simp only [h1] at h
        cases h2 : nextO n f o with
        | some v => simp [h2] at h
        | none =>
          obtain ⟨q1, q2, q3, q4⟩ := orderTo_spec k o h1
          have hex : ∃ v, v < n ∧ v ∉ o := by
            refine Classical.byContradiction fun hne => ?_
            have hall : ∀ v, v < n → v ∈ o := fun v hv => Classical.byContradiction fun hm => hne ⟨v, hv, hm⟩
            have h5 := nodup_le _ _ (List.nodup_range (n := n)) (fun x hx => hall x (List.mem_range.1 hx))
            simp at h5
            omega
          obtain ⟨v, hv, hvo⟩ := hex
          exact cyc_of_pred (fun v => v < n ∧ v ∉ o) (fun v h => h.1) (fun v hv => by
            obtain ⟨u, h1, h2, h3⟩ := nextO_none h2 v hv.1 hv.2
            exact ⟨u, ⟨h1, h2⟩, h3⟩) v ⟨hv, hvo⟩
  exact this n (Nat.le_refl _) h
theorem order_iff (n : Nat) (f : Nat → Nat → Bool) : (orderF n f).isSome = true ↔ ¬ Cyc n f := by
  cases h : orderF n f with
  | none => simp [order_none h]
  | some o => simp [order_acyc h]

/-! ### The closure -/
def updC (m u v : Nat) (f : Nat → Nat → Bool) : Nat → Nat → Bool := fun a b => if a = u ∧ b = v then f u v || (f u m && f m v) else f a b
def rowC (m u : Nat) : Nat → (Nat → Nat → Bool) → (Nat → Nat → Bool)
  | 0, f => f
  | v + 1, f => updC m u v (rowC m u v f)
def allC (n m : Nat) : Nat → (Nat → Nat → Bool) → (Nat → Nat → Bool)
  | 0, f => f
  | u + 1, f => rowC m u n (allC n m u f)
def closTo (n : Nat) (f : Nat → Nat → Bool) : Nat → (Nat → Nat → Bool)
  | 0 => f
  | m + 1 => allC n m n (closTo n f m)
def closF (n : Nat) (f : Nat → Nat → Bool) : Nat → Nat → Bool := closTo n f n

theorem updC_mono {n : Nat} {m u v : Nat} {f : Nat → Nat → Bool} (a b : Nat) (h : f a b = true) : updC m u v f a b = true := by
  unfold updC
  split
  · rename_i e; rw [← e.1, ← e.2, h]; rfl
  · exact h
theorem rowC_mono (m u : Nat) : ∀ (v : Nat) (f : Nat → Nat → Bool) (a b : Nat), f a b = true → rowC m u v f a b = true
  | 0, _, _, _, h => h
  | v + 1, f, a, b, h => updC_mono (n := 0) a b (rowC_mono m u v f a b h)
theorem allC_mono (n m : Nat) : ∀ (u : Nat) (f : Nat → Nat → Bool) (a b : Nat), f a b = true → allC n m u f a b = true
  | 0, _, _, _, h => h
  | u + 1, f, a, b, h => rowC_mono m u n _ a b (allC_mono n m u f a b h)
/-- All that is there is a path. -/
def Sound (n : Nat) (f g : Nat → Nat → Bool) : Prop := ∀ a b, a < n → b < n → g a b = true → Path n f a b
theorem updC_sound {n : Nat} {m u v : Nat} {f g : Nat → Nat → Bool} (hm : m < n) (hu : u < n) (hv : v < n) (h : Sound n f g) : Sound n f (updC m u v g) := by
  intro a b ha hb hg
  unfold updC at hg
  split at hg
  · rename_i e
    rw [e.1, e.2]
    simp only [Bool.or_eq_true, Bool.and_eq_true] at hg
    rcases hg with hg | hg
    · exact h u v hu hv hg
    · exact (h u m hu hm hg.1).trans (h m v hm hv hg.2)
  · exact h a b ha hb hg
theorem rowC_sound {n : Nat} {m u : Nat} {f : Nat → Nat → Bool} (hm : m < n) (hu : u < n) : ∀ (v : Nat) (g : Nat → Nat → Bool), v ≤ n → Sound n f g → Sound n f (rowC m u v g)
  | 0, _, _, h => h
  | v + 1, g, hv, h => updC_sound hm hu (by omega) (rowC_sound hm hu v g (by omega) h)
theorem allC_sound {n : Nat} {m : Nat} {f : Nat → Nat → Bool} (hm : m < n) : ∀ (u : Nat) (g : Nat → Nat → Bool), u ≤ n → Sound n f g → Sound n f (allC n m u g)
  | 0, _, _, h => h
  | u + 1, g, hu, h => rowC_sound hm (by omega) n _ (Nat.le_refl _) (allC_sound hm u g (by omega) h)
theorem closTo_sound {n : Nat} {f : Nat → Nat → Bool} : ∀ m, m ≤ n → Sound n f (closTo n f m)
  | 0, _ => fun _ _ ha hb h => .one ha hb h
  | m + 1, hm => allC_sound (by omega) n _ (Nat.le_refl _) (closTo_sound m (by omega))

/-- What a round of the middle node brings. -/
theorem rowC_gain (m u : Nat) : ∀ (v : Nat) (f : Nat → Nat → Bool) (b : Nat), b < v → f u m = true → f m b = true → rowC m u v f u b = true
  | v + 1, f, b, hb, h1, h2 => by
    by_cases hbv : b = v
    · subst hbv
      show updC m u b (rowC m u b f) u b = true
      unfold updC
      rw [if_pos ⟨rfl, rfl⟩]
      simp only [Bool.or_eq_true, Bool.and_eq_true]
      exact .inr ⟨rowC_mono m u b f u m h1, rowC_mono m u b f m b h2⟩
    · exact updC_mono (n := 0) u b (rowC_gain m u v f b (by omega) h1 h2)
theorem allC_gain (n m : Nat) : ∀ (u : Nat) (f : Nat → Nat → Bool) (a b : Nat), a < u → b < n → f a m = true → f m b = true → allC n m u f a b = true
  | u + 1, f, a, b, ha, hb, h1, h2 => by
    by_cases hau : a = u
    · subst hau
      exact rowC_gain m a n _ b hb (allC_mono n m a f a m h1) (allC_mono n m a f m b h2)
    · exact rowC_mono m u n _ a b (allC_gain n m u f a b (by omega) hb h1 h2)

/-- A path whose inner nodes are all below k. -/
def StepB (n : Nat) (f : Nat → Nat → Bool) (k : Nat) : Nat → Nat → Nat → Prop
  | 0, a, b => a < n ∧ b < n ∧ f a b = true
  | l + 1, a, c => ∃ b, a < n ∧ b < n ∧ b < k ∧ f a b = true ∧ StepB n f k l b c
def PathB (n : Nat) (f : Nat → Nat → Bool) (k a b : Nat) : Prop := ∃ l, StepB n f k l a b
theorem PathB.one {n k : Nat} {f : Nat → Nat → Bool} {a b : Nat} (h1 : a < n) (h2 : b < n) (h3 : f a b = true) : PathB n f k a b := ⟨0, h1, h2, h3⟩
theorem PathB.cons {n k : Nat} {f : Nat → Nat → Bool} {a b c : Nat} (h1 : a < n) (h2 : b < n) (hk : b < k) (h3 : f a b = true) (h : PathB n f k b c) : PathB n f k a c := h.elim fun l h => ⟨l + 1, b, h1, h2, hk, h3, h⟩
theorem PathB.ind {n k : Nat} {f : Nat → Nat → Bool} {motive : (a b : Nat) → PathB n f k a b → Prop} (one : ∀ {a b : Nat} (h1 : a < n) (h2 : b < n) (h3 : f a b = true), motive a b (.one h1 h2 h3))
    (cons : ∀ {a b c : Nat} (h1 : a < n) (h2 : b < n) (hk : b < k) (h3 : f a b = true) (h : PathB n f k b c), motive b c h → motive a c (.cons h1 h2 hk h3 h)) {a b : Nat} (h : PathB n f k a b) : motive a b h := by
  obtain ⟨l, hl⟩ := h
  induction l generalizing a with
  | zero => exact one hl.1 hl.2.1 hl.2.2
  | succ l ih => obtain ⟨x, h1, h2, hk, h3, h4⟩ := hl; exact cons h1 h2 hk h3 ⟨l, h4⟩ (ih h4)
theorem PathB.lt {n k : Nat} {f : Nat → Nat → Bool} {a b : Nat} (h : PathB n f k a b) : a < n ∧ b < n := by
  induction h using PathB.ind with
  | one h1 h2 _ => exact ⟨h1, h2⟩
  | cons h1 _ _ _ _ ih => exact ⟨h1, ih.2⟩
theorem PathB.of_path {n : Nat} {f : Nat → Nat → Bool} {a b : Nat} (h : Path n f a b) : PathB n f n a b := by
  induction h using Path.ind with
  | one h1 h2 h3 => exact .one h1 h2 h3
  | cons h1 h2 h3 _ ih => exact .cons h1 h2 h2 h3 ih
/-- Over the node k once: or not at all. -/
theorem PathB.split {n k : Nat} {f : Nat → Nat → Bool} {a b : Nat} (h : PathB n f (k + 1) a b) : PathB n f k a b ∨ (PathB n f k a k ∧ PathB n f k k b) := by
  induction h using PathB.ind with
  | one h1 h2 h3 => exact .inl (.one h1 h2 h3)
  | @cons a b c h1 h2 hbk h3 hp ih =>
    by_cases hk : b = k
    · subst hk
      rcases ih with h | h
      · exact .inr ⟨.one h1 h2 h3, h⟩
      · exact .inr ⟨.one h1 h2 h3, h.2⟩
    · have hb : b < k := by omega
      rcases ih with h | h
      · exact .inl (.cons h1 h2 hb h3 h)
      · exact .inr ⟨.cons h1 h2 hb h3 h.1, h.2⟩
theorem closTo_complete {n : Nat} {f : Nat → Nat → Bool} : ∀ m, m ≤ n → ∀ a b, PathB n f m a b → closTo n f m a b = true
  | 0, _, a, b, h => by
    induction h using PathB.ind with
    | one _ _ h => exact h
    | cons _ _ h _ _ => omega
  | m + 1, hm, a, b, h => by
    have hl := h.lt
    rcases h.split with h | ⟨h1, h2⟩
    · exact allC_mono n m n _ a b (closTo_complete m (by omega) a b h)
    · exact allC_gain n m n _ a b hl.1 hl.2 (closTo_complete m (by omega) a m h1) (closTo_complete m (by omega) m b h2)
/-- The closure tells paths. -/
theorem clos_iff {n : Nat} (f : Nat → Nat → Bool) {a b : Nat} (ha : a < n) (hb : b < n) : closF n f a b = true ↔ Path n f a b :=
  ⟨fun h => closTo_sound n (Nat.le_refl _) a b ha hb h, fun h => closTo_complete n (Nat.le_refl _) a b (.of_path h)⟩
end Go.Proofs.YtgkmlnbnjbpodaaDoor
