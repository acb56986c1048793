/- Roads back to a node, a way round, groups: plain laws. Nothing of the program. -/
import Derived.Test.YtgkmlnbnjbpodaaDoorGraphLaw
namespace Go.Proofs.YtgkmlnbnjbpodaaDoor
set_option linter.unusedVariables false

abbrev RdS := (Nat → Nat) × List Nat
def rdStep (f : Nat → Nat → Bool) (v k : Nat) (s : RdS) (u : Nat) : RdS := if f u v = true ∧ s.1 u = 0 then (fun x => if x = u then k else s.1 x, s.2 ++ [u]) else s
def rdTo (f : Nat → Nat → Bool) (first v k : Nat) (s : RdS) : Nat → RdS
  | 0 => s
  | j + 1 => rdStep f v k (rdTo f first v k s j) (first + j)
def rdF (n : Nat) (f : Nat → Nat → Bool) (first v k : Nat) (s : RdS) : RdS := rdTo f first v k s (n - first)
def roadsTo (n : Nat) (f : Nat → Nat → Bool) (first : Nat) : Nat → RdS
  | 0 => rdF n f first first 1 (fun _ => 0, [])
  | i + 1 => match (roadsTo n f first i).2[i]? with
    | none => roadsTo n f first i
    | some v => rdF n f first v ((roadsTo n f first i).1 v + 1) (roadsTo n f first i)
def roadsF (n : Nat) (f : Nat → Nat → Bool) (first : Nat) : Nat → Nat := (roadsTo n f first n).1

structure RdI (n : Nat) (f : Nat → Nat → Bool) (first : Nat) (s : RdS) : Prop where
  nodup : s.2.Nodup
  rng : ∀ u ∈ s.2, first ≤ u ∧ u < n
  mem : ∀ u, 0 < s.1 u ↔ u ∈ s.2
  src : ∀ u ∈ s.2, (s.1 u = 1 ∧ f u first = true) ∨ ∃ v ∈ s.2, f u v = true ∧ s.1 u = s.1 v + 1
  bnd : ∀ (j : Nat) u, s.2[j]? = some u → s.1 u ≤ j + 1
/-- What may be told by a step from v. -/
def RdOk (f : Nat → Nat → Bool) (first : Nat) (s : RdS) (v k : Nat) : Prop := (v = first ∧ k = 1) ∨ (v ∈ s.2 ∧ k = s.1 v + 1)
theorem RdI.init (n : Nat) (f : Nat → Nat → Bool) (first : Nat) : RdI n f first (fun _ => 0, []) := ⟨by simp, by simp, by simp, by simp, by simp⟩
theorem RdI.len {n : Nat} {f : Nat → Nat → Bool} {first : Nat} {s : RdS} (h : RdI n f first s) : s.2.length ≤ n := by
  have := nodup_le s.2 (List.range n) h.nodup (fun x hx => List.mem_range.2 (h.rng x hx).2)
  simpa using this
theorem RdI.le {n : Nat} {f : Nat → Nat → Bool} {first : Nat} {s : RdS} (h : RdI n f first s) (u : Nat) : s.1 u ≤ n := by
  by_cases hu : u ∈ s.2
  · obtain ⟨j, hj⟩ := List.getElem?_of_mem hu
    have h1 := h.bnd j u hj
    have h2 := (List.getElem?_eq_some_iff.1 hj).1
    have := h.len
    omega
  · have : ¬ 0 < s.1 u := fun h' => hu ((h.mem u).1 h')
    omega
theorem rdStep_mono {f : Nat → Nat → Bool} {v k u : Nat} {s : RdS} (hk : 0 < k) (x : Nat) (h : 0 < s.1 x) : (rdStep f v k s u).1 x = s.1 x := by
  unfold rdStep
  split
  · rename_i hc
    show (if x = u then k else s.1 x) = _
    rw [if_neg (fun e => by subst e; omega)]
  · rfl
theorem rdStep_mem {f : Nat → Nat → Bool} {v k u : Nat} {s : RdS} (x : Nat) (h : x ∈ s.2) : x ∈ (rdStep f v k s u).2 := by
  unfold rdStep
  split
  · simp [h]
  · exact h
theorem RdOk.step {f : Nat → Nat → Bool} {first v k u : Nat} {s : RdS} (h : RdOk f first s v k) (hm : ∀ u, 0 < s.1 u ↔ u ∈ s.2) (hk : 0 < k) : RdOk f first (rdStep f v k s u) v k := by
  rcases h with h | ⟨h1, h2⟩
  · exact .inl h
  · exact .inr ⟨rdStep_mem v h1, by rw [rdStep_mono hk v ((hm v).2 h1)]; exact h2⟩
theorem RdOk.pos {f : Nat → Nat → Bool} {first v k : Nat} {s : RdS} (h : RdOk f first s v k) : 0 < k := by rcases h with ⟨_, h⟩ | ⟨_, h⟩ <;> omega
theorem RdI.step {n : Nat} {f : Nat → Nat → Bool} {first v k u : Nat} {s : RdS} (h : RdI n f first s) (hok : RdOk f first s v k) (hu : first ≤ u) (hn : u < n) : RdI n f first (rdStep f v k s u) := by
  have hk := hok.pos
  unfold rdStep
  split
  · rename_i hc
    obtain ⟨hf, h0⟩ := hc
    have hnot : u ∉ s.2 := fun hm => by have := (h.mem u).2 hm; omega
    have hne : ∀ x ∈ s.2, x ≠ u := fun x hx e => hnot (e ▸ hx)
    refine ⟨?_, fun x hx => ?_, fun x => ?_, fun x hx => ?_, fun j x hj => ?_⟩
    · rw [List.nodup_append]
      exact ⟨h.nodup, by simp, fun a ha b hb => by rw [List.mem_singleton.1 hb]; exact hne a ha⟩
    · rcases List.mem_append.1 hx with hx | hx
      · exact h.rng x hx
      · rw [List.mem_singleton.1 hx]; exact ⟨hu, hn⟩
    · show 0 < (if x = u then k else s.1 x) ↔ x ∈ s.2 ++ [u]
      by_cases hx : x = u
      · simp [hx, hk]
      · simp [hx, h.mem x]
    · show ((if x = u then k else s.1 x) = 1 ∧ _) ∨ ∃ y ∈ s.2 ++ [u], f x y = true ∧ (if x = u then k else s.1 x) = (if y = u then k else s.1 y) + 1
      rcases List.mem_append.1 hx with hx | hx
      · rw [if_neg (hne x hx)]
        rcases h.src x hx with h1 | ⟨y, hy, h1, h2⟩
        · exact .inl h1
        · exact .inr ⟨y, List.mem_append_left _ hy, h1, by rw [if_neg (hne y hy)]; exact h2⟩
      · obtain rfl := List.mem_singleton.1 hx
        rw [if_pos rfl]
        rcases hok with ⟨rfl, rfl⟩ | ⟨h1, h2⟩
        · exact .inl ⟨rfl, hf⟩
        · exact .inr ⟨v, List.mem_append_left _ h1, hf, by rw [if_neg (hne v h1)]; exact h2⟩
    · show (if x = u then k else s.1 x) ≤ j + 1
      by_cases hj' : j < s.2.length
      · rw [List.getElem?_append_left hj'] at hj
        rw [if_neg (hne x (List.mem_of_getElem? hj))]
        exact h.bnd j x hj
      · have hlt := (List.getElem?_eq_some_iff.1 hj).1
        have hjl : j = s.2.length := by simp at hlt; omega
        subst hjl
        rw [List.getElem?_append_right (Nat.le_refl _), Nat.sub_self] at hj
        simp at hj
        rw [if_pos hj.symm]
        rcases hok with ⟨_, rfl⟩ | ⟨h1, h2⟩
        · omega
        · obtain ⟨i, hi⟩ := List.getElem?_of_mem h1
          have h3 := h.bnd i v hi
          have h4 := (List.getElem?_eq_some_iff.1 hi).1
          omega
  · exact h
theorem rdTo_inv {n : Nat} {f : Nat → Nat → Bool} {first v k : Nat} {s : RdS} (h : RdI n f first s) (hok : RdOk f first s v k) : ∀ j, j ≤ n - first →
    RdI n f first (rdTo f first v k s j) ∧ RdOk f first (rdTo f first v k s j) v k ∧ (∀ x, 0 < s.1 x → (rdTo f first v k s j).1 x = s.1 x) ∧ (s.2 <+: (rdTo f first v k s j).2) ∧ (∀ x, first ≤ x → x < first + j → f x v = true → 0 < (rdTo f first v k s j).1 x)
  | 0, _ => ⟨h, hok, fun _ _ => rfl, List.prefix_refl _, fun x h1 h2 => by omega⟩
  | j + 1, hj => by
    obtain ⟨i1, i2, i3, i4, i5⟩ := rdTo_inv h hok j (by omega)
    have hk := hok.pos
    refine ⟨i1.step i2 (by omega) (by omega), i2.step i1.mem hk, fun x hx => ?_, ?_, fun x h1 h2 h3 => ?_⟩
    · show (rdStep f v k (rdTo f first v k s j) (first + j)).1 x = _
      rw [rdStep_mono hk x (by rw [i3 x hx]; exact hx), i3 x hx]
    · show s.2 <+: (rdStep f v k (rdTo f first v k s j) (first + j)).2
      unfold rdStep
      split
      · exact i4.trans (List.prefix_append ..)
      · exact i4
    · show 0 < (rdStep f v k (rdTo f first v k s j) (first + j)).1 x
      by_cases hx : 0 < (rdTo f first v k s j).1 x
      · rw [rdStep_mono hk x hx]; exact hx
      · have hxe : x = first + j := by
          rcases Nat.lt_or_ge x (first + j) with hlt | hge
          · exact absurd (i5 x h1 hlt h3) hx
          · omega
        subst hxe
        unfold rdStep
        rw [if_pos ⟨h3, by omega⟩]
        simp [hk]
theorem rdF_inv {n : Nat} {f : Nat → Nat → Bool} {first v k : Nat} {s : RdS} (hfn : first ≤ n) (h : RdI n f first s) (hok : RdOk f first s v k) :
    RdI n f first (rdF n f first v k s) ∧ (∀ x, 0 < s.1 x → (rdF n f first v k s).1 x = s.1 x) ∧ (s.2 <+: (rdF n f first v k s).2) ∧ (∀ x, first ≤ x → x < n → f x v = true → 0 < (rdF n f first v k s).1 x) := by
  obtain ⟨h1, _, h3, h4, h5⟩ := rdTo_inv h hok (n - first) (Nat.le_refl _)
  exact ⟨h1, h3, h4, fun x a b c => h5 x a (by omega) c⟩
theorem prefix_get {α : Type} {l m : List α} (h : l <+: m) {i : Nat} {x : α} (hi : l[i]? = some x) : m[i]? = some x := by
  obtain ⟨t, rfl⟩ := h
  rw [List.getElem?_append_left (List.getElem?_eq_some_iff.1 hi).1]; exact hi
theorem roadsTo_inv {n : Nat} {f : Nat → Nat → Bool} {first : Nat} (hfn : first ≤ n) : ∀ i,
    RdI n f first (roadsTo n f first i) ∧ (∀ x, first ≤ x → x < n → f x first = true → 0 < (roadsTo n f first i).1 x) ∧
      ∀ (j : Nat) v, j < i → (roadsTo n f first i).2[j]? = some v → ∀ x, first ≤ x → x < n → f x v = true → 0 < (roadsTo n f first i).1 x
  | 0 => by
    obtain ⟨h1, h2, h3, h4⟩ := rdF_inv (n := n) (f := f) (v := first) (k := 1) hfn (RdI.init n f first) (.inl ⟨rfl, rfl⟩)
    exact ⟨h1, h4, fun j v hj => by omega⟩
  | i + 1 => by
    obtain ⟨i1, i2, i3⟩ := roadsTo_inv (n := n) (f := f) hfn i
    rw [roadsTo]
    cases hv : (roadsTo n f first i).2[i]? with
    | none => exact ⟨i1, i2, fun j v hj hjv => by
        rcases Nat.lt_or_ge j i with hlt | hge
        · exact i3 j v hlt hjv
        · have : j = i := by omega
          subst this; rw [hv] at hjv; cases hjv⟩
    | some v =>
      obtain ⟨h1, h2, h3, h4⟩ := rdF_inv (n := n) (f := f) hfn i1 (.inr ⟨List.mem_of_getElem? hv, rfl⟩)
      refine ⟨h1, fun x a b c => ?_, fun j w hj hjw x a b c => ?_⟩
      · have := i2 x a b c
        simp only
        rw [h2 x this]; exact this
      · simp only at hjw ⊢
        rcases Nat.lt_or_ge j i with hlt | hge
        · have hjl : (roadsTo n f first i).2[j]? = some w := by
            have hl := (List.getElem?_eq_some_iff.1 hv).1
            obtain ⟨w', hw'⟩ : ∃ w', (roadsTo n f first i).2[j]? = some w' := ⟨_, List.getElem?_eq_getElem (by omega)⟩
            have := prefix_get h3 hw'
            rw [this] at hjw
            rw [hw']; exact hjw
          have := i3 j w hlt hjl x a b c
          rw [h2 x this]; exact this
        · have hji : j = i := by omega
          subst hji
          have := prefix_get h3 hv
          rw [this] at hjw
          injection hjw with hjw
          subst hjw
          exact h4 x a b c
theorem roadsTo_stop {n : Nat} {f : Nat → Nat → Bool} {first i : Nat} (h : (roadsTo n f first i).2.length ≤ i) : ∀ d, roadsTo n f first (i + d) = roadsTo n f first i
  | 0 => rfl
  | d + 1 => by
    show roadsTo n f first (i + d + 1) = _
    rw [roadsTo, roadsTo_stop h d, List.getElem?_eq_none (by omega)]
theorem roads_end {n : Nat} {f : Nat → Nat → Bool} {first i : Nat} (hfn : first ≤ n) (hi : (roadsTo n f first i).2.length = i) : (roadsTo n f first i).1 = roadsF n f first := by
  have hl := (roadsTo_inv (n := n) (f := f) hfn i).1.len
  have := roadsTo_stop (n := n) (f := f) (first := first) (i := i) (by omega) (n - i)
  rw [show i + (n - i) = n by omega] at this
  rw [roadsF, this]
theorem roads_src {n : Nat} {f : Nat → Nat → Bool} {first : Nat} (hfn : first ≤ n) {u : Nat} (hu : 0 < roadsF n f first u) : first ≤ u ∧ u < n ∧ ((roadsF n f first u = 1 ∧ f u first = true) ∨ ∃ v, first ≤ v ∧ v < n ∧ f u v = true ∧ roadsF n f first u = roadsF n f first v + 1 ∧ 0 < roadsF n f first v) := by
  obtain ⟨h, _, _⟩ := roadsTo_inv (n := n) (f := f) hfn n
  have hm := (h.mem u).1 hu
  refine ⟨(h.rng u hm).1, (h.rng u hm).2, ?_⟩
  rcases h.src u hm with h1 | ⟨v, hv, h1, h2⟩
  · exact .inl h1
  · exact .inr ⟨v, (h.rng v hv).1, (h.rng v hv).2, h1, h2, (h.mem v).2 hv⟩
theorem roads_le {n : Nat} {f : Nat → Nat → Bool} {first : Nat} (hfn : first ≤ n) (u : Nat) : roadsF n f first u ≤ n := (roadsTo_inv (n := n) (f := f) hfn n).1.le u
theorem roads_clo {n : Nat} {f : Nat → Nat → Bool} {first : Nat} (hfn : first ≤ n) {u v : Nat} (h1 : first ≤ u) (h2 : u < n) (hf : f u v = true) (hv : v = first ∨ 0 < roadsF n f first v) : 0 < roadsF n f first u := by
  obtain ⟨h, h3, h4⟩ := roadsTo_inv (n := n) (f := f) hfn n
  rcases hv with rfl | hv
  · exact h3 u h1 h2 hf
  · obtain ⟨j, hj⟩ := List.getElem?_of_mem ((h.mem v).1 hv)
    have := (List.getElem?_eq_some_iff.1 hj).1
    have := h.len
    exact h4 j v (by omega) hj u h1 h2 hf
/-- A node that has a road back to itself over none below it is on a way round. -/
theorem roads_cyc {n : Nat} {f : Nat → Nat → Bool} {v : Nat} (hv : v < n) (h : 0 < roadsF n f v v) : Cyc n f := by
  have key : ∀ k u, roadsF n f v u = k + 1 → Path n f u v := by
    intro k
    induction k with
    | zero =>
      intro u hu
      obtain ⟨h1, h2, h3 | ⟨x, _, _, _, h4, h5⟩⟩ := roads_src (n := n) (f := f) (Nat.le_of_lt hv) (u := u) (by omega)
      · exact .one h2 hv h3.2
      · omega
    | succ k ih =>
      intro u hu
      obtain ⟨h1, h2, h3 | ⟨x, h6, h7, h8, h4, h5⟩⟩ := roads_src (n := n) (f := f) (Nat.le_of_lt hv) (u := u) (by omega)
      · omega
      · exact .cons h2 h7 h8 (ih x (by omega))
  exact ⟨v, key (roadsF n f v v - 1) v (by omega)⟩
/-- And each way round has a least node. -/
theorem cyc_roads {n : Nat} {f : Nat → Nat → Bool} (h : Cyc n f) : ∃ v, v < n ∧ 0 < roadsF n f v v := by
  obtain ⟨a, k, hk⟩ := h
  -- of all ways round within k + 1 steps take the one with the least beginning
  have step : ∀ (k a b m : Nat), m ≤ n → StepN n f k a b → (∀ x i j, StepN n f i a x → StepN n f j x b → m ≤ x) → m ≤ a → (b = m ∨ 0 < roadsF n f m b) → 0 < roadsF n f m a := by
    intro k
    induction k with
    | zero =>
      intro a b m hm h _ ha hb
      obtain ⟨h1, h2, h3⟩ := h
      exact roads_clo hm ha h1 h3 hb
    | succ k ih =>
      intro a b m hm h hx ha hb
      obtain ⟨c, h1, h2, h3, h4⟩ := h
      have hc : m ≤ c := hx c 0 k ⟨h1, h2, h3⟩ h4
      have := ih c b m hm h4 (fun x i j p q => hx x (i + 1) j ⟨c, h1, h2, h3, p⟩ q) hc hb
      exact roads_clo hm ha h1 h3 (.inr this)
  -- the least node that is on some way round
  have hex : ∃ v, v < n ∧ Path n f v v := ⟨a, (Path.lt ⟨k, hk⟩).1, k, hk⟩
  have least : ∀ N, (∃ v, v < N ∧ v < n ∧ Path n f v v) → ∃ v, v < n ∧ Path n f v v ∧ ∀ u, u < v → ¬ Path n f u u := by
    intro N
    induction N with
    | zero => rintro ⟨v, h, _⟩; omega
    | succ N ih =>
      rintro ⟨v, h1, h2, h3⟩
      by_cases hl : ∃ u, u < N ∧ u < n ∧ Path n f u u
      · exact ih hl
      · refine ⟨v, h2, h3, fun u hu hp => hl ⟨u, by omega, by omega, hp⟩⟩
  obtain ⟨v, hv, ⟨i, hp⟩, hmin⟩ := least n (by obtain ⟨v, h1, h2⟩ := hex; exact ⟨v, h1, h1, h2⟩)
  refine ⟨v, hv, step i v v v (Nat.le_of_lt hv) hp (fun x p q h1 h2 => ?_) (Nat.le_refl _) (.inl rfl)⟩
  rcases Nat.lt_or_ge x v with hlt | hge
  · exact absurd (Path.trans ⟨q, h2⟩ ⟨p, h1⟩) (hmin x hlt)
  · exact hge

/-! ### Groups -/
/-- The least one of v's group. -/
def mutB (c : Nat → Nat → Bool) (v u : Nat) : Bool := c v u && c u v
def GroupOf (c : Nat → Nat → Bool) (v l : Nat) : Prop := l ≤ v ∧ (l = v ∨ mutB c v l = true) ∧ ∀ u, u < l → mutB c v u = false
/-- It goes round just if two are in one group, or one leads to itself. -/
theorem round_iff {n : Nat} {f : Nat → Nat → Bool} (g : Nat → Nat) (hg : ∀ v, v < n → GroupOf (closF n f) v (g v)) : Cyc n f ↔ ∃ i, i < n ∧ (g i ≠ i ∨ f i i = true) := by
  constructor
  · rintro ⟨a, k, hk⟩
    cases k with
    | zero => exact ⟨a, hk.1, .inr hk.2.2⟩
    | succ k =>
      obtain ⟨b, h1, h2, h3, h4⟩ := hk
      by_cases hab : a = b
      · exact ⟨a, h1, .inr (by rw [← hab] at h3; exact h3)⟩
      · have p1 : closF n f a b = true := (clos_iff f h1 h2).2 (.one h1 h2 h3)
        have p2 : closF n f b a = true := (clos_iff f h2 h1).2 ⟨k, h4⟩
        rcases Nat.lt_or_gt_of_ne hab with hlt | hgt
        · refine ⟨b, h2, .inl fun e => ?_⟩
          have := (hg b h2).2.2 a (by omega)
          simp [mutB, p1, p2] at this
        · refine ⟨a, h1, .inl fun e => ?_⟩
          have := (hg a h1).2.2 b (by omega)
          simp [mutB, p1, p2] at this
  · rintro ⟨i, hi, h | h⟩
    · obtain ⟨h1, h2, _⟩ := hg i hi
      rcases h2 with h2 | h2
      · exact absurd h2 h
      · simp only [mutB, Bool.and_eq_true] at h2
        have hl : g i < n := by omega
        exact ⟨i, ((clos_iff f hi hl).1 h2.1).trans ((clos_iff f hl hi).1 h2.2)⟩
    · exact ⟨i, .one hi hi h⟩
end Go.Proofs.YtgkmlnbnjbpodaaDoor
