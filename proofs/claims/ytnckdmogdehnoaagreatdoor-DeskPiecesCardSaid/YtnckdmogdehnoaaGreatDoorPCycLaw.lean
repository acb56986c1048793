import Derived.Test.YtnckdmogdehnoaaGreatDoorPReg
/- Part of the proof that a desk answers in pieces. -/
set_option linter.unusedVariables false
set_option linter.unusedSimpArgs false
namespace Go.Proofs.YtnckdmogdehnoaaGreatDoor
variable {a b first k n u v : Nat} {f : Nat → Nat → Bool}
def StepN (n : Nat) (f : Nat → Nat → Bool) : Nat → Nat → Nat → Prop
 | 0, a, b => a < n ∧ b < n ∧ f a b = true
 | k + 1, a, c => ∃ b, a < n ∧ b < n ∧ f a b = true ∧ StepN n f k b c
def Path (n : Nat) (f : Nat → Nat → Bool) (a b : Nat) : Prop := ∃ k, StepN n f k a b
theorem Path.one (h1 : a < n) (h2 : b < n) (h3 : f a b = true) : Path n f a b := ⟨0, h1, h2, h3⟩
theorem Path.cons {c : Nat} (h1 : a < n) (h2 : b < n) (h3 : f a b = true) (h : Path n f b c) : Path n f a c := h.elim fun k h => ⟨k + 1, b, h1, h2, h3, h⟩
theorem Path.ind {motive : (a b : Nat) → Path n f a b → Prop} (one : ∀ {a b : Nat} (h1 : a < n) (h2 : b < n) (h3 : f a b = true), motive a b (.one h1 h2 h3))
  (cons : ∀ {a b c : Nat} (h1 : a < n) (h2 : b < n) (h3 : f a b = true) (h : Path n f b c), motive b c h → motive a c (.cons h1 h2 h3 h)) (h : Path n f a b) : motive a b h := by
 obtain ⟨k, hk⟩ := h
 induction k generalizing a with
 | zero => exact one hk.1 hk.2.1 hk.2.2
 | succ k ih => obtain ⟨x, h1, h2, h3, h4⟩ := hk; exact cons h1 h2 h3 ⟨k, h4⟩ (ih h4)
theorem Path.trans {c : Nat} (h : Path n f a b) (k : Path n f b c) : Path n f a c := by
 induction h using Path.ind with
 | one h1 h2 h3 => exact .cons h1 h2 h3 k
 | cons h1 h2 h3 _ ih => exact .cons h1 h2 h3 (ih k)
theorem Path.lt (h : Path n f a b) : a < n ∧ b < n := by
 induction h using Path.ind with
 | one h1 h2 _ => exact ⟨h1, h2⟩
 | cons h1 _ _ _ ih => exact ⟨h1, ih.2⟩
def Cyc (n : Nat) (f : Nat → Nat → Bool) : Prop := ∃ a, Path n f a a
def nextO (n : Nat) (f : Nat → Nat → Bool) (out : List Nat) : Option Nat :=
 (List.range n).find? fun v => !out.contains v && (List.range n).all fun u => out.contains u || !f u v
def orderTo (n : Nat) (f : Nat → Nat → Bool) : Nat → Option (List Nat)
 | 0 => some []
 | k + 1 => match orderTo n f k with
  | some out => match nextO n f out with
   | some v => some (out ++ [v])
   | none => none
  | none => none
def orderF (n : Nat) (f : Nat → Nat → Bool) : Option (List Nat) := orderTo n f n
theorem nextO_spec {out : List Nat} (h : nextO n f out = some v) : v < n ∧ v ∉ out ∧ ∀ u, u < n → f u v = true → u ∈ out := by
 have h1 := List.find?_some h
 have h2 := List.mem_of_find?_eq_some h
 simp only [Bool.and_eq_true, Bool.not_eq_true', List.all_eq_true, List.mem_range, Bool.or_eq_true, List.contains_eq_mem, decide_eq_true_eq, decide_eq_false_iff_not] at h1
 refine ⟨List.mem_range.1 h2, h1.1, fun u hu hf => ?_⟩
 rcases h1.2 u hu with h | h
 ·exact h
 rw [hf] at h; cases h
theorem nextO_none {out : List Nat} (h : nextO n f out = none) : ∀ v, v < n → v ∉ out → ∃ u, u < n ∧ u ∉ out ∧ f u v = true := by
 intro v hv hvo
 have h1 := List.find?_eq_none.1 h v (List.mem_range.2 hv)
 simp only [Bool.and_eq_true, Bool.not_eq_true', List.all_eq_true, List.mem_range, Bool.or_eq_true, List.contains_eq_mem, decide_eq_true_eq, decide_eq_false_iff_not] at h1
 simp only [not_and] at h1
 have h2 := h1 hvo
 simp only [Classical.not_forall] at h2
 obtain ⟨u, hu, h3⟩ := h2
 refine ⟨u, hu, fun hm => h3 (.inl hm), ?_⟩
 cases hf : f u v with
 | true => rfl
 | false => exact absurd (Or.inr hf) h3
theorem orderTo_spec {n : Nat} {f : Nat → Nat → Bool} : ∀ (k : Nat) (out : List Nat), orderTo n f k = some out → out.length = k ∧ out.Nodup ∧ (∀ v ∈ out, v < n) ∧
  (∀ (j : Nat) (v : Nat), out[j]? = some v → ∀ u, u < n → f u v = true → ∃ i, i < j ∧ out[i]? = some u)
 | 0, out, h => by
  simp only [orderTo, Option.some.injEq] at h
  subst h
  simp
 | k + 1, out, h => by
  simp only [orderTo] at h
  cases h1 : orderTo n f k with
  | none => simp [h1] at h
  | some o =>
   simp only [h1] at h
   cases h2 : nextO n f o with
   | none => simp [h2] at h
   | some v =>
    simp only [h2, Option.some.injEq] at h
    subst h
    obtain ⟨q1, q2, q3, q4⟩ := orderTo_spec k o h1
    obtain ⟨s1, s2, s3⟩ := nextO_spec h2
    refine ⟨by simp [q1], ?_, ?_, ?_⟩
    ·rw [List.nodup_append]
     refine ⟨q2, by simp, fun a ha b hb => ?_⟩
     simp only [List.mem_singleton] at hb
     subst hb
     exact fun e => s2 (e ▸ ha)
    ·intro u hu
     rcases List.mem_append.1 hu with h | h
     ·exact q3 u h
     simp only [List.mem_singleton] at h; rw [h]; exact s1
    intro j u hu x hx hf
    rcases Nat.lt_or_ge j o.length with hj | hj
    ·rw [List.getElem?_append_left hj] at hu
     obtain ⟨i, hi, hio⟩ := q4 j u hu x hx hf
     exact ⟨i, hi, by rw [List.getElem?_append_left (by omega)]; exact hio⟩
    rw [List.getElem?_append_right hj] at hu
    have hj0 : j = o.length := by
     have := (gS_ hu).1
     simp at this
     omega
    subst hj0
    simp at hu
    subst hu
    obtain ⟨i, hi, he⟩ := List.mem_iff_getElem.1 (s3 x hx hf)
    exact ⟨i, hi, by rw [List.getElem?_append_left hi, gE_ hi, he]⟩
theorem nodup_le {α : Type} [BEq α] [LawfulBEq α] : ∀ (l r : List α), l.Nodup → (∀ x ∈ l, x ∈ r) → l.length ≤ r.length
 | [], _, _, _ => Nat.zero_le _
 | a :: l, r, hnd, hs => by
  obtain ⟨h1, h2⟩ := List.nodup_cons.1 hnd
  have ha := hs a (List.mem_cons_self ..)
  have := nodup_le l (r.erase a) h2 (fun x hx => (List.mem_erase_of_ne (show x ≠ a from fun e => h1 (e ▸ hx))).2 (hs x (List.mem_cons_of_mem _ hx)))
  rw [List.length_erase_of_mem ha] at this
  have hp := List.length_pos_of_mem ha
  simp only [List.length_cons]
  omega
theorem cyc_of_pred (P : Nat → Prop) (hP : ∀ v, P v → v < n) (hpre : ∀ v, P v → ∃ u, P u ∧ f u v = true) (v : Nat) (hv : P v) : Cyc n f := by
 have walk : ∀ k, ∃ l : List Nat, l.length = k + 1 ∧ (∀ x ∈ l, P x) ∧ ∀ i j : Nat, i < j → ∀ x y : Nat, l[i]? = some x → l[j]? = some y → Path n f x y := by
  intro k
  induction k with
  | zero => exact ⟨[v], rfl, by simpa using hv, fun i j hij x y hx hy => by
    have := (gS_ hy).1
    simp at this
    omega⟩
  | succ k ih =>
   obtain ⟨l, h1, h2, h3⟩ := ih
   match l, h1 with
   | x0 :: r, h1 =>
    obtain ⟨u, hu, hf⟩ := hpre x0 (h2 x0 (by simp))
    refine ⟨u :: x0 :: r, by simp at h1 ⊢; omega, fun x hx => ?_, ?_⟩
    ·rcases List.mem_cons.1 hx with rfl | hx
     ·exact hu
     exact h2 x hx
    intro i j hij x y hx hy
    match j, hij with
    | j + 1, hij =>
    rw [List.getElem?_cons_succ] at hy
    have hy0 := hy
    match i with
    | 0 =>
     simp only [List.getElem?_cons_zero, Option.some.injEq] at hx
     subst hx
     match j with
     | 0 =>
      simp only [List.getElem?_cons_zero, Option.some.injEq] at hy
      subst hy
      exact .one (hP _ hu) (hP _ (h2 x0 (by simp))) hf
     | j + 1 => exact .cons (hP _ hu) (hP _ (h2 x0 (by simp))) hf (h3 0 (j + 1) (by omega) x0 y (by simp) hy)
    | i + 1 =>
     rw [List.getElem?_cons_succ] at hx
     exact h3 i j (by omega) x y hx hy
 obtain ⟨l, h1, h2, h3⟩ := walk n
 have hnd : ¬ l.Nodup := fun hnd => by
  have h4 : ∀ x ∈ l, x ∈ List.range n := fun x hx => List.mem_range.2 (hP x (h2 x hx))
  have := nodup_le _ _ hnd h4
  simp at this
  omega
 exact Classical.byContradiction fun hc => hnd (List.pairwise_iff_getElem.2 fun i j hi hj hij e => hc ⟨l[j], h3 i j hij _ _ (by rw [gE_ hi, e]) (gE_ hj)⟩)
theorem order_none (h : orderF n f = none) : Cyc n f := by
 have : ∀ k, k ≤ n → orderTo n f k = none → Cyc n f := by
  intro k
  induction k with
  | zero => intro _ h; simp [orderTo] at h
  | succ k ih =>
   intro hk h
   simp only [orderTo] at h
   cases h1 : orderTo n f k with
   | none => exact ih (by omega) h1
   | some o =>
    simp only [h1] at h
    cases h2 : nextO n f o with
    | some v => simp [h2] at h
    | none =>
     obtain ⟨q1, q2, q3, q4⟩ := orderTo_spec k o h1
     have hex : ∃ v, v < n ∧ v ∉ o := by
      refine Classical.byContradiction fun hne => ?_
      have hall : ∀ v, v < n → v ∈ o := fun v hv => Classical.byContradiction fun hm => hne ⟨v, hv, hm⟩
      have h5 := nodup_le _ _ (List.nodup_range (n := n)) (fun x hx => hall x (List.mem_range.1 hx))
      simp at h5
      omega
     obtain ⟨v, hv, hvo⟩ := hex
     exact cyc_of_pred (fun v => v < n ∧ v ∉ o) (fun v h => h.1) (fun v hv => by
      obtain ⟨u, h1, h2, h3⟩ := nextO_none h2 v hv.1 hv.2
      exact ⟨u, ⟨h1, h2⟩, h3⟩) v ⟨hv, hvo⟩
 exact this n (Nat.le_refl _) h
abbrev RdS := (Nat → Nat) × List Nat
def rdStep (f : Nat → Nat → Bool) (v k : Nat) (s : RdS) (u : Nat) : RdS := if f u v = true ∧ s.1 u = 0 then (fun x => if x = u then k else s.1 x, s.2 ++ [u]) else s
def rdTo (f : Nat → Nat → Bool) (first v k : Nat) (s : RdS) : Nat → RdS
 | 0 => s
 | j + 1 => rdStep f v k (rdTo f first v k s j) (first + j)
def rdF (n : Nat) (f : Nat → Nat → Bool) (first v k : Nat) (s : RdS) : RdS := rdTo f first v k s (n - first)
def roadsTo (n : Nat) (f : Nat → Nat → Bool) (first : Nat) : Nat → RdS
 | 0 => rdF n f first first 1 (fun _ => 0, [])
 | i + 1 => match (roadsTo n f first i).2[i]? with
  | none => roadsTo n f first i
  | some v => rdF n f first v ((roadsTo n f first i).1 v + 1) (roadsTo n f first i)
def roadsF (n : Nat) (f : Nat → Nat → Bool) (first : Nat) : Nat → Nat := (roadsTo n f first n).1
structure RdI (n : Nat) (f : Nat → Nat → Bool) (first : Nat) (s : RdS) : Prop where
 nodup : s.2.Nodup
 rng : ∀ u ∈ s.2, first ≤ u ∧ u < n
 mem : ∀ u, 0 < s.1 u ↔ u ∈ s.2
 src : ∀ u ∈ s.2, (s.1 u = 1 ∧ f u first = true) ∨ ∃ v ∈ s.2, f u v = true ∧ s.1 u = s.1 v + 1
 bnd : ∀ (j : Nat) u, s.2[j]? = some u → s.1 u ≤ j + 1
def RdOk (f : Nat → Nat → Bool) (first : Nat) (s : RdS) (v k : Nat) : Prop := (v = first ∧ k = 1) ∨ (v ∈ s.2 ∧ k = s.1 v + 1)
theorem RdI.init (n : Nat) (f : Nat → Nat → Bool) (first : Nat) : RdI n f first (fun _ => 0, []) := ⟨by simp, by simp, by simp, by simp, by simp⟩
theorem RdI.len {s : RdS} (h : RdI n f first s) : s.2.length ≤ n := by
 have := nodup_le s.2 (List.range n) h.nodup (fun x hx => List.mem_range.2 (h.rng x hx).2)
 simpa using this
theorem RdI.le {s : RdS} (h : RdI n f first s) (u : Nat) : s.1 u ≤ n := by
 by_cases hu : u ∈ s.2
 ·obtain ⟨j, hj⟩ := List.getElem?_of_mem hu
  have h1 := h.bnd j u hj
  have h2 := (gS_ hj).1
  have := h.len
  omega
 have : ¬ 0 < s.1 u := fun h' => hu ((h.mem u).1 h')
 omega
theorem rdStep_mono {s : RdS} (hk : 0 < k) (x : Nat) (h : 0 < s.1 x) : (rdStep f v k s u).1 x = s.1 x := by
 unfold rdStep
 split
 ·rename_i hc
  show (if x = u then k else s.1 x) = _
  rw [if_neg (fun e => by subst e; omega)]
 rfl
theorem rdStep_mem {s : RdS} (x : Nat) (h : x ∈ s.2) : x ∈ (rdStep f v k s u).2 := by
 unfold rdStep
 split
 ·simp [h]
 exact h
theorem RdOk.step {s : RdS} (h : RdOk f first s v k) (hm : ∀ u, 0 < s.1 u ↔ u ∈ s.2) (hk : 0 < k) : RdOk f first (rdStep f v k s u) v k := by
 rcases h with h | ⟨h1, h2⟩
 ·exact .inl h
 exact .inr ⟨rdStep_mem v h1, by rw [rdStep_mono hk v ((hm v).2 h1)]; exact h2⟩
theorem RdOk.pos {s : RdS} (h : RdOk f first s v k) : 0 < k := by rcases h with ⟨_, h⟩ | ⟨_, h⟩ <;> omega
theorem RdI.step {s : RdS} (h : RdI n f first s) (hok : RdOk f first s v k) (hu : first ≤ u) (hn : u < n) : RdI n f first (rdStep f v k s u) := by
 have hk := hok.pos
 unfold rdStep
 split
 ·rename_i hc
  obtain ⟨hf, h0⟩ := hc
  have hnot : u ∉ s.2 := fun hm => by have := (h.mem u).2 hm; omega
  have hne : ∀ x ∈ s.2, x ≠ u := fun x hx e => hnot (e ▸ hx)
  refine ⟨?_, fun x hx => ?_, fun x => ?_, fun x hx => ?_, fun j x hj => ?_⟩
  ·rw [List.nodup_append]
   exact ⟨h.nodup, by simp, fun a ha b hb => by rw [List.mem_singleton.1 hb]; exact hne a ha⟩
  ·rcases List.mem_append.1 hx with hx | hx
   ·exact h.rng x hx
   rw [List.mem_singleton.1 hx]; exact ⟨hu, hn⟩
  ·show 0 < (if x = u then k else s.1 x) ↔ x ∈ s.2 ++ [u]
   by_cases hx : x = u
   ·simp [hx, hk]
   simp [hx, h.mem x]
  ·show ((if x = u then k else s.1 x) = 1 ∧ _) ∨ ∃ y ∈ s.2 ++ [u], f x y = true ∧ (if x = u then k else s.1 x) = (if y = u then k else s.1 y) + 1
   rcases List.mem_append.1 hx with hx | hx
   ·rw [if_neg (hne x hx)]
    rcases h.src x hx with h1 | ⟨y, hy, h1, h2⟩
    ·exact .inl h1
    exact .inr ⟨y, List.mem_append_left _ hy, h1, by rw [if_neg (hne y hy)]; exact h2⟩
   obtain rfl := List.mem_singleton.1 hx
   rw [if_pos rfl]
   rcases hok with ⟨rfl, rfl⟩ | ⟨h1, h2⟩
   ·exact .inl ⟨Z, hf⟩
   exact .inr ⟨v, List.mem_append_left _ h1, hf, by rw [if_neg (hne v h1)]; exact h2⟩
  show (if x = u then k else s.1 x) ≤ j + 1
  by_cases hj' : j < s.2.length
  ·rw [List.getElem?_append_left hj'] at hj
   rw [if_neg (hne x (gM_ hj))]
   exact h.bnd j x hj
  have hlt := (gS_ hj).1
  have hjl : j = s.2.length := by simp at hlt; omega
  subst hjl
  rw [List.getElem?_append_right (Nat.le_refl _), Nat.sub_self] at hj
  simp at hj
  rw [if_pos hj.symm]
  rcases hok with ⟨_, rfl⟩ | ⟨h1, h2⟩
  ·omega
  obtain ⟨i, hi⟩ := List.getElem?_of_mem h1
  have h3 := h.bnd i v hi
  have h4 := (gS_ hi).1
  omega
 exact h
theorem rdTo_inv {n : Nat} {f : Nat → Nat → Bool} {first v k : Nat} {s : RdS} (h : RdI n f first s) (hok : RdOk f first s v k) : ∀ j, j ≤ n - first →
  RdI n f first (rdTo f first v k s j) ∧ RdOk f first (rdTo f first v k s j) v k ∧ (∀ x, 0 < s.1 x → (rdTo f first v k s j).1 x = s.1 x) ∧ (s.2 <+: (rdTo f first v k s j).2) ∧ (∀ x, first ≤ x → x < first + j → f x v = true → 0 < (rdTo f first v k s j).1 x)
 | 0, _ => ⟨h, hok, fun _ _ => rfl, List.prefix_refl _, fun x h1 h2 => by omega⟩
 | j + 1, hj => by
  obtain ⟨i1, i2, i3, i4, i5⟩ := rdTo_inv h hok j (by omega)
  have hk := hok.pos
  refine ⟨i1.step i2 (by omega) (by omega), i2.step i1.mem hk, fun x hx => ?_, ?_, fun x h1 h2 h3 => ?_⟩
  ·show (rdStep f v k (rdTo f first v k s j) (first + j)).1 x = _
   rw [rdStep_mono hk x (by rw [i3 x hx]; exact hx), i3 x hx]
  ·show s.2 <+: (rdStep f v k (rdTo f first v k s j) (first + j)).2
   unfold rdStep
   split
   ·exact i4.trans (List.prefix_append ..)
   exact i4
  show 0 < (rdStep f v k (rdTo f first v k s j) (first + j)).1 x
  by_cases hx : 0 < (rdTo f first v k s j).1 x
  ·rw [rdStep_mono hk x hx]; exact hx
  have hxe : x = first + j := by
   rcases Nat.lt_or_ge x (first + j) with hlt | hge
   ·exact absurd (i5 x h1 hlt h3) hx
   omega
  subst hxe
  unfold rdStep
  rw [if_pos ⟨h3, by omega⟩]
  simp [hk]
theorem rdF_inv {s : RdS} (hfn : first ≤ n) (h : RdI n f first s) (hok : RdOk f first s v k) :
  RdI n f first (rdF n f first v k s) ∧ (∀ x, 0 < s.1 x → (rdF n f first v k s).1 x = s.1 x) ∧ (s.2 <+: (rdF n f first v k s).2) ∧ (∀ x, first ≤ x → x < n → f x v = true → 0 < (rdF n f first v k s).1 x) := by
 obtain ⟨h1, _, h3, h4, h5⟩ := rdTo_inv h hok (n - first) (Nat.le_refl _)
 exact ⟨h1, h3, h4, fun x a b c => h5 x a (by omega) c⟩
theorem prefix_get {α : Type} {l m : List α} (h : l <+: m) {i : Nat} {x : α} (hi : l[i]? = some x) : m[i]? = some x := by
 obtain ⟨t, rfl⟩ := h
 rw [List.getElem?_append_left (gS_ hi).1]; exact hi
theorem roadsTo_inv {n : Nat} {f : Nat → Nat → Bool} {first : Nat} (hfn : first ≤ n) : ∀ i,
  RdI n f first (roadsTo n f first i) ∧ (∀ x, first ≤ x → x < n → f x first = true → 0 < (roadsTo n f first i).1 x) ∧
   ∀ (j : Nat) v, j < i → (roadsTo n f first i).2[j]? = some v → ∀ x, first ≤ x → x < n → f x v = true → 0 < (roadsTo n f first i).1 x
 | 0 => by
  obtain ⟨h1, h2, h3, h4⟩ := rdF_inv (n := n) (f := f) (v := first) (k := 1) hfn (RdI.init n f first) (.inl ⟨rfl, rfl⟩)
  exact ⟨h1, h4, fun j v hj => by omega⟩
 | i + 1 => by
  obtain ⟨i1, i2, i3⟩ := roadsTo_inv (n := n) (f := f) hfn i
  rw [roadsTo]
  cases hv : (roadsTo n f first i).2[i]? with
  | none => exact ⟨i1, i2, fun j v hj hjv => by
    rcases Nat.lt_or_ge j i with hlt | hge
    ·exact i3 j v hlt hjv
    have : j = i := by omega
    subst this; rw [hv] at hjv; cases hjv⟩
  | some v =>
   obtain ⟨h1, h2, h3, h4⟩ := rdF_inv (n := n) (f := f) hfn i1 (.inr ⟨gM_ hv, rfl⟩)
   refine ⟨h1, fun x a b c => ?_, fun j w hj hjw x a b c => ?_⟩
   ·have := i2 x a b c
    simp only
    rw [h2 x this]; exact this
   simp only at hjw ⊢
   rcases Nat.lt_or_ge j i with hlt | hge
   ·have hjl : (roadsTo n f first i).2[j]? = some w := by
     have hl := (gS_ hv).1
     obtain ⟨w', hw'⟩ : ∃ w', (roadsTo n f first i).2[j]? = some w' := ⟨_, gE_ (by omega)⟩
     have := prefix_get h3 hw'
     rw [this] at hjw
     rw [hw']; exact hjw
    have := i3 j w hlt hjl x a b c
    rw [h2 x this]; exact this
   have hji : j = i := by omega
   subst hji
   have := prefix_get h3 hv
   rw [this] at hjw
   injection hjw with hjw
   subst hjw
   exact h4 x a b c
theorem roadsTo_stop {n : Nat} {f : Nat → Nat → Bool} {first i : Nat} (h : (roadsTo n f first i).2.length ≤ i) : ∀ d, roadsTo n f first (i + d) = roadsTo n f first i
 | 0 => rfl
 | d + 1 => by
  show roadsTo n f first (i + d + 1) = _
  rw [roadsTo, roadsTo_stop h d, List.getElem?_eq_none (by omega)]
theorem roads_end {i : Nat} (hfn : first ≤ n) (hi : (roadsTo n f first i).2.length = i) : (roadsTo n f first i).1 = roadsF n f first := by
 have hl := (roadsTo_inv (n := n) (f := f) hfn i).1.len
 have := roadsTo_stop (n := n) (f := f) (first := first) (i := i) (by omega) (n - i)
 rw [show i + (n - i) = n by omega] at this
 rw [roadsF, this]
theorem roads_src (hfn : first ≤ n) (hu : 0 < roadsF n f first u) : first ≤ u ∧ u < n ∧ ((roadsF n f first u = 1 ∧ f u first = true) ∨ ∃ v, first ≤ v ∧ v < n ∧ f u v = true ∧ roadsF n f first u = roadsF n f first v + 1 ∧ 0 < roadsF n f first v) := by
 obtain ⟨h, _, _⟩ := roadsTo_inv (n := n) (f := f) hfn n
 have hm := (h.mem u).1 hu
 refine ⟨(h.rng u hm).1, (h.rng u hm).2, ?_⟩
 rcases h.src u hm with h1 | ⟨v, hv, h1, h2⟩
 ·exact .inl h1
 exact .inr ⟨v, (h.rng v hv).1, (h.rng v hv).2, h1, h2, (h.mem v).2 hv⟩
theorem roads_le (hfn : first ≤ n) (u : Nat) : roadsF n f first u ≤ n := (roadsTo_inv (n := n) (f := f) hfn n).1.le u
theorem roads_clo (hfn : first ≤ n) (h1 : first ≤ u) (h2 : u < n) (hf : f u v = true) (hv : v = first ∨ 0 < roadsF n f first v) : 0 < roadsF n f first u := by
 obtain ⟨h, h3, h4⟩ := roadsTo_inv (n := n) (f := f) hfn n
 rcases hv with rfl | hv
 ·exact h3 u h1 h2 hf
 obtain ⟨j, hj⟩ := List.getElem?_of_mem ((h.mem v).1 hv)
 have := (gS_ hj).1
 have := h.len
 exact h4 j v (by omega) hj u h1 h2 hf
theorem roads_cyc (hv : v < n) (h : 0 < roadsF n f v v) : Cyc n f := by
 have key : ∀ k u, roadsF n f v u = k + 1 → Path n f u v := by
  intro k
  induction k with
  | zero =>
   intro u hu
   obtain ⟨h1, h2, h3 | ⟨x, _, _, _, h4, h5⟩⟩ := roads_src (n := n) (f := f) (Nat.le_of_lt hv) (u := u) (by omega)
   ·exact .one h2 hv h3.2
   omega
  | succ k ih =>
   intro u hu
   obtain ⟨h1, h2, h3 | ⟨x, h6, h7, h8, h4, h5⟩⟩ := roads_src (n := n) (f := f) (Nat.le_of_lt hv) (u := u) (by omega)
   ·omega
   exact .cons h2 h7 h8 (ih x (by omega))
 exact ⟨v, key (roadsF n f v v - 1) v (by omega)⟩
theorem cyc_roads (h : Cyc n f) : ∃ v, v < n ∧ 0 < roadsF n f v v := by
 obtain ⟨a, k, hk⟩ := h
 have step : ∀ (k a b m : Nat), m ≤ n → StepN n f k a b → (∀ x i j, StepN n f i a x → StepN n f j x b → m ≤ x) → m ≤ a → (b = m ∨ 0 < roadsF n f m b) → 0 < roadsF n f m a := by
  intro k
  induction k with
  | zero =>
   intro a b m hm h _ ha hb
   obtain ⟨h1, h2, h3⟩ := h
   exact roads_clo hm ha h1 h3 hb
  | succ k ih =>
   intro a b m hm h hx ha hb
   obtain ⟨c, h1, h2, h3, h4⟩ := h
   have hc : m ≤ c := hx c 0 k ⟨h1, h2, h3⟩ h4
   have := ih c b m hm h4 (fun x i j p q => hx x (i + 1) j ⟨c, h1, h2, h3, p⟩ q) hc hb
   exact roads_clo hm ha h1 h3 (.inr this)
 have hex : ∃ v, v < n ∧ Path n f v v := ⟨a, (Path.lt ⟨k, hk⟩).1, k, hk⟩
 have least : ∀ N, (∃ v, v < N ∧ v < n ∧ Path n f v v) → ∃ v, v < n ∧ Path n f v v ∧ ∀ u, u < v → ¬ Path n f u u := by
  intro N
  induction N with
  | zero => rintro ⟨v, h, _⟩; omega
  | succ N ih =>
   rintro ⟨v, h1, h2, h3⟩
   by_cases hl : ∃ u, u < N ∧ u < n ∧ Path n f u u
   ·exact ih hl
   refine ⟨v, h2, h3, fun u hu hp => hl ⟨u, by omega, by omega, hp⟩⟩
 obtain ⟨v, hv, ⟨i, hp⟩, hmin⟩ := least n (by obtain ⟨v, h1, h2⟩ := hex; exact ⟨v, h1, h1, h2⟩)
 refine ⟨v, hv, step i v v v (Nat.le_of_lt hv) hp (fun x p q h1 h2 => ?_) (Nat.le_refl _) (.inl Z)⟩
 rcases Nat.lt_or_ge x v with hlt | hge
 ·exact absurd (Path.trans ⟨q, h2⟩ ⟨p, h1⟩) (hmin x hlt)
 exact hge
end Go.Proofs.YtnckdmogdehnoaaGreatDoor
