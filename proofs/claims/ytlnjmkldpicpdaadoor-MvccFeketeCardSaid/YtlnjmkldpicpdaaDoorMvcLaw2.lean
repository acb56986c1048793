/- mvcc: plain: the story of a base, and its edges. -/
import Derived.Test.YtlnjmkldpicpdaaDoorMvcLaw
import Derived.Test.YtlnjmkldpicpdaaDoorMvc12
import Derived.Test.YtlnjmkldpicpdaaDoorReplayLaw
namespace Go.Proofs.YtlnjmkldpicpdaaDoor
open Go.RowKit
set_option linter.unusedVariables false
set_option linter.unusedSimpArgs false
def stT (s : Bs) : List ITx := s.txs.map itxI
def stG (s : Bs) : List (List Int) := s.order.map intsN
theorem stT_len (s : Bs) : (stT s).length = s.txs.length := by simp [stT]
theorem stT_get {s : Bs} {i : Nat} (h : i < s.txs.length) : (stT s)[i]? = some (itxI (txAt s i)) := by
  unfold stT; rw [List.getElem?_map, txAt_get h]; rfl
theorem opsAt_st {s : Bs} {i : Nat} (h : i < s.txs.length) : opsAt (stT s) (i : Int) = (txAt s i).ops := by
  unfold opsAt; rw [Int.toNat_natCast, stT_get h]; rfl
theorem comAt_st {s : Bs} {i : Nat} (h : i < s.txs.length) : comAt (stT s) (i : Int) = !decide ((txAt s i).com = -1) := by
  unfold comAt; rw [Int.toNat_natCast, stT_get h]; rfl
theorem stG_get {s : Bs} (hs : Sane s) {k : Nat} (h : k < 8) : (stG s)[k]? = some (intsN (bOrd s k)) := by
  unfold stG; rw [List.getElem?_map, ordAt_get (by rw [hs.olen]; exact h)]; rfl
theorem ordAt_st {s : Bs} (hs : Sane s) {k : Int} (h : 0 ≤ k ∧ k < 8) : ordAt (stG s) k = intsN (bOrd s k.toNat) := by
  unfold ordAt; rw [stG_get hs (by omega)]; rfl
section
variable {s : Bs}
theorem Sane.begLt (hs : Sane s) {i : Nat} (hi : i < s.txs.length) (hc : (txAt s i).com ≠ -1) : (txAt s i).beg < (txAt s i).com := by
  rcases hs.com i hi with e | ⟨_, _, _, _, e⟩
  · exact absurd e hc
  · exact e
theorem Sane.nodup (hs : Sane s) {k : Nat} (hk : k < 8) : (bOrd s k).Nodup := by
  refine (hs.first k hk).imp_of_mem fun {x y} hx hy hxy he => ?_
  subst he
  obtain ⟨q1, q2, _⟩ := (hs.mem k x hk).1 hx
  have := hs.begLt q1 q2
  omega
theorem lastF_miss {l : List Nat} {t : Int} (h : lastF s l t = none) : ∀ y ∈ l, ¬ (txAt s y).com < t := fun y hy hlt => by
  have := List.find?_eq_none.1 h y (by simpa using hy)
  simp [hlt] at this
theorem lastF_after {l : List Nat} {t : Int} {x : Nat} (h : lastF s l t = some x) (hn : l.Nodup) {i j y : Nat} (hi : l[i]? = some x) (hij : i < j) (hj : l[j]? = some y) : ¬ (txAt s y).com < t := by
  obtain ⟨-, us, bs, e, h2⟩ := List.find?_eq_some_iff_append.1 h
  have e' : l = bs.reverse ++ x :: us.reverse := by
    have := congrArg List.reverse e
    rw [List.reverse_reverse] at this
    rw [this]; simp
  have hi2 : l[bs.length]? = some x := by rw [e', List.getElem?_append_right (by simp)]; simp
  have hib : i = bs.length := by
    have h1 := (List.getElem?_eq_some_iff.1 hi)
    have h2 := (List.getElem?_eq_some_iff.1 hi2)
    rcases Nat.lt_trichotomy i bs.length with q | q | q
    · exact absurd (h1.2.trans h2.2.symm) (List.pairwise_iff_getElem.1 hn _ _ h1.1 h2.1 q)
    · exact q
    · exact absurd (h2.2.trans h1.2.symm) (List.pairwise_iff_getElem.1 hn _ _ h2.1 h1.1 q)
  have hy : y ∈ us := by
    rw [e', List.getElem?_append_right (by simp; omega), List.length_reverse, List.getElem?_cons, if_neg (by omega)] at hj
    have := List.mem_of_getElem? hj
    simpa using this
  have := h2 y hy
  simpa using this
theorem evs_mem {t : List ITx} {e : Nat × IOp} (h : e ∈ evsTo t t.length 0) : e.1 < t.length ∧ e.2 ∈ opsAt t (e.1 : Int) := by
  unfold evsTo at h
  rw [List.take_zero, List.append_nil] at h
  obtain ⟨k, hk, h⟩ := List.mem_flatMap.1 h
  obtain ⟨o, ho, rfl⟩ := List.mem_map.1 h
  exact ⟨List.mem_range.1 hk, ho⟩
theorem pairs_mem {l : List Int} {p : Int × Int} (h : p ∈ pairsOf l) : ∃ i : Nat, l[i]? = some p.1 ∧ l[i + 1]? = some p.2 := by
  unfold pairsOf at h
  obtain ⟨i, hi⟩ := List.getElem?_of_mem h
  rw [List.getElem?_zip_eq_some] at hi
  refine ⟨i, hi.1, ?_⟩
  have := hi.2
  rwa [List.getElem?_tail] at this
theorem over_st (hs : Sane s) {x y : Nat} (h : overF (stG s) x y = true) : x < s.txs.length ∧ y < s.txs.length ∧ (txAt s x).com ≠ -1 ∧ (txAt s y).com ≠ -1 ∧ (txAt s x).com < (txAt s y).beg := by
  unfold overF overB at h
  obtain ⟨p, hp, h1⟩ := List.any_eq_true.1 h
  obtain ⟨L, hL, hp⟩ := List.mem_flatMap.1 hp
  obtain ⟨i, e1, e2⟩ := pairs_mem hp
  simp only [Bool.and_eq_true, decide_eq_true_eq] at h1
  rw [h1.1] at e1
  rw [h1.2] at e2
  obtain ⟨k, hk⟩ := List.getElem?_of_mem hL
  have hk8 : k < 8 := by have := (List.getElem?_eq_some_iff.1 hk).1; simp [stG, hs.olen] at this; exact this
  rw [stG_get hs hk8] at hk
  injection hk with hk
  subst hk
  have f1 : (bOrd s k)[i]? = some x := by
    unfold intsN at e1
    rw [List.getElem?_map] at e1
    obtain ⟨z, hz, hz2⟩ := Option.map_eq_some_iff.1 e1
    rw [hz]; congr 1; omega
  have f2 : (bOrd s k)[i + 1]? = some y := by
    unfold intsN at e2
    rw [List.getElem?_map] at e2
    obtain ⟨z, hz, hz2⟩ := Option.map_eq_some_iff.1 e2
    rw [hz]; congr 1; omega
  obtain ⟨q1, q2, _⟩ := (hs.mem k x hk8).1 (List.mem_of_getElem? f1)
  obtain ⟨r1, r2, _⟩ := (hs.mem k y hk8).1 (List.mem_of_getElem? f2)
  refine ⟨q1, r1, q2, r2, ?_⟩
  obtain ⟨a1, a2⟩ := List.getElem?_eq_some_iff.1 f1
  obtain ⟨b1, b2⟩ := List.getElem?_eq_some_iff.1 f2
  have := List.pairwise_iff_getElem.1 (hs.first k hk8) i (i + 1) a1 b1 (by omega)
  rw [a2, b2] at this
  exact this
/-- A read of one that commits. -/
theorem act_st (hs : Sane s) {e : Nat × IOp} (he : e ∈ evsTo (stT s) (stT s).length 0) (hw : e.2.write = false) : e.1 < s.txs.length ∧ ROk s e.1 e.2 := by
  obtain ⟨h1, h2⟩ := evs_mem he
  rw [stT_len] at h1
  rw [opsAt_st h1] at h2
  exact ⟨h1, hs.ops _ h1 _ h2⟩
theorem seen_st (hs : Sane s) {x y : Nat} (h : seenF (stT s) x y = true) : x < s.txs.length ∧ y < s.txs.length ∧ (txAt s x).com ≠ -1 ∧ (txAt s y).com ≠ -1 ∧ (txAt s x).com < (txAt s y).beg := by
  unfold seenF seenB at h
  obtain ⟨e, he, h1⟩ := List.any_eq_true.1 h
  simp only [activeB, seenC, Bool.and_eq_true, decide_eq_true_eq, Bool.not_eq_true', Bool.or_eq_true] at h1
  obtain ⟨⟨⟨hc, hw⟩, _⟩, ⟨⟨⟨q1, q2⟩, q3⟩, q4⟩, q5⟩ := h1
  obtain ⟨h1, hr⟩ := act_st hs he hw
  rw [comAt_st h1] at hc
  have hc' : (txAt s e.1).com ≠ -1 := by simpa using hc
  have hk := hr.key
  rcases hr.rd hw with ⟨r1, _⟩ | ⟨z, r1, r2, r3⟩ | ⟨_, r1, _⟩
  · exact absurd r1 q2
  · have hzx : z = x := by omega
    subst hzx
    subst q5
    obtain ⟨m1, m2⟩ := lastF_hit r1
    obtain ⟨n1, n2, _⟩ := (hs.mem _ z (by omega)).1 m1
    exact ⟨n1, h1, n2, hc', m2⟩
  · exact absurd r1 q1
theorem intsN_get {l : List Nat} {i : Nat} {y : Nat} (h : (intsN l)[i]? = some (y : Int)) : l[i]? = some y := by
  unfold intsN at h
  rw [List.getElem?_map] at h
  obtain ⟨z, hz, hz2⟩ := Option.map_eq_some_iff.1 h
  rw [hz]; congr 1; omega
theorem anew_st (hs : Sane s) {x y : Nat} (h : anewF (stT s) (stG s) x y = true) : x < s.txs.length ∧ y < s.txs.length ∧ (txAt s x).com ≠ -1 ∧ (txAt s y).com ≠ -1 ∧ (txAt s x).beg < (txAt s y).com ∧ ((txAt s x).com < (txAt s y).beg ∨ pointsF s x y = true) := by
  unfold anewF anewB at h
  obtain ⟨⟨k, o⟩, he, h1⟩ := List.any_eq_true.1 h
  simp only [activeB, Bool.and_eq_true, decide_eq_true_eq, Bool.not_eq_true', Bool.or_eq_true] at h1
  obtain ⟨⟨⟨hc, hw⟩, _⟩, h2⟩ := h1
  obtain ⟨h1, hr⟩ := act_st hs he hw
  dsimp only at h1 hr
  rw [comAt_st h1] at hc
  have hc' : (txAt s k).com ≠ -1 := by simpa using hc
  have hk := hr.key
  have hk8 : o.key.toNat < 8 := by omega
  have hkn : ((o.key.toNat : Nat) : Int) = o.key := by omega
  unfold anewC at h2
  rw [ordAt_st hs hk] at h2
  unfold anewAt at h2
  split at h2
  rotate_left
  · cases h2
  rename_i z hz
  simp only [Bool.and_eq_true, decide_eq_true_eq] at h2
  obtain ⟨⟨z1, rfl⟩, rfl⟩ := h2
  have hz' := intsN_get hz
  obtain ⟨y1, y2, y3⟩ := (hs.mem _ y hk8).1 (List.mem_of_getElem? hz')
  have hyk : y ≠ k := fun e => z1 (by omega)
  have hyb := hs.begLt y1 y2
  have hkb := hs.begLt h1 hc'
  have hne := hs.ne y k y1 h1 y2
  have hmem : (k, o) ∈ evsTo (stT s) (stT s).length 0 := he
  have hok : o ∈ (txAt s k).ops := by
    have := (evs_mem he).2
    rw [opsAt_st h1] at this
    exact this
  have hpt : ¬ (txAt s y).com < (txAt s k).beg → o.src ≠ (k : Int) → (txAt s k).com < (txAt s y).beg ∨ pointsF s k y = true := fun hny hsrc => by
    by_cases hcb : (txAt s k).com < (txAt s y).beg
    · exact .inl hcb
    · refine .inr ?_
      unfold pointsF
      have hany : ((txAt s k).ops.any fun o => !o.write && decide (o.src ≠ (k : Int)) && decide (0 < versF (txAt s y).ops o.key)) = true := by
        refine List.any_eq_true.2 ⟨o, hok, ?_⟩
        rw [hkn] at y3
        simp [hw, hsrc, y3]
      rw [hany]
      simp [hyk.symm, hc', y2, hcb, hny]
  have key : ∀ j : Nat, behindOf (stG s) o = j → (bOrd s o.key.toNat)[j]? = some y := fun j hj => by rw [← hj]; exact hz'
  have hbe : ∀ x : Nat, o.src = (x : Int) → x ∈ bOrd s o.key.toNat → ∃ i : Nat, (bOrd s o.key.toNat)[i]? = some x ∧ (bOrd s o.key.toNat)[i + 1]? = some y := fun x hx hxm => by
    obtain ⟨i, hi1, hi2⟩ := idxI_mem (L := intsN (bOrd s o.key.toNat)) (x := (x : Int)) (by unfold intsN; exact List.mem_map.2 ⟨x, hxm, rfl⟩)
    refine ⟨i, intsN_get hi2, key (i + 1) ?_⟩
    unfold behindOf
    rw [hx, if_neg (by omega), ordAt_st hs hk, hi1]
    omega
  rcases hr.rd hw with ⟨r1, r2, r3⟩ | ⟨x, r1, r2, r3⟩ | ⟨r1, r2, r3⟩
  · have hkm : k ∈ bOrd s o.key.toNat := (hs.mem _ k hk8).2 ⟨h1, hc', by rw [hkn]; omega⟩
    obtain ⟨i, hi1, hi2⟩ := hbe k r1 hkm
    obtain ⟨a1, a2⟩ := List.getElem?_eq_some_iff.1 hi1
    obtain ⟨b1, b2⟩ := List.getElem?_eq_some_iff.1 hi2
    have hf := List.pairwise_iff_getElem.1 (hs.first _ hk8) i (i + 1) a1 b1 (by omega)
    rw [a2, b2] at hf
    exact ⟨h1, y1, hc', y2, by omega, .inl hf⟩
  · obtain ⟨m1, m2⟩ := lastF_hit r1
    obtain ⟨i, hi1, hi2⟩ := hbe x r2 m1
    have hny := lastF_after r1 (hs.nodup hk8) hi1 (Nat.lt_succ_self i) hi2
    refine ⟨h1, y1, hc', y2, by omega, hpt hny fun e => ?_⟩
    have : x = k := by omega
    subst this
    omega
  · have hny := lastF_miss r1 y (List.mem_of_getElem? hz')
    exact ⟨h1, y1, hc', y2, by omega, hpt hny (by omega)⟩
/-! ### The story may be; what is found in it -/
theorem st_ok (hs : Sane s) (hn : s.txs.length ≤ 8) (h60 : ∀ i, (txAt s i).ops.length ≤ 60) : StoryOk (stT s) (stG s) := by
  refine ⟨by rw [stT_len]; exact hn, by simp [stG, hs.olen], fun x hx => ?_, fun k l hl => ?_⟩
  · obtain ⟨i, hi⟩ := List.getElem?_of_mem hx
    have hin : i < s.txs.length := by have := (List.getElem?_eq_some_iff.1 hi).1; rwa [stT_len] at this
    rw [stT_get hin] at hi
    injection hi with hi
    subst hi
    refine ⟨h60 i, fun o ho => ?_⟩
    have hr := hs.ops i hin o ho
    have hk := hr.key
    unfold OpOk
    rw [stT_len]
    cases hw : o.write with
    | true =>
      obtain ⟨e1, e2⟩ := hr.wr hw
      rw [e1, e2]
      refine ⟨⟨hk.1, hk.2, by omega, by omega, by omega⟩, by simp, by simp, by simp⟩
    | false =>
      rcases hr.rd hw with ⟨r1, r2, r3⟩ | ⟨x, r1, r2, r3⟩ | ⟨r1, r2, r3⟩
      · rw [r1, opsAt_st hin]
        exact ⟨⟨hk.1, hk.2, by omega, by omega, r2⟩, by simp, by omega, fun _ _ => r3⟩
      · obtain ⟨m1, m2⟩ := lastF_hit r1
        obtain ⟨n1, n2, n3⟩ := (hs.mem _ x (by omega)).1 m1
        rw [show ((o.key.toNat : Nat) : Int) = o.key by omega] at n3
        rw [r2, opsAt_st n1, r3]
        exact ⟨⟨hk.1, hk.2, by omega, by omega, by omega⟩, by simp, by omega, fun _ _ => by omega⟩
      · rw [r2, r3]
        exact ⟨⟨hk.1, hk.2, by omega, by omega, by omega⟩, by simp, by omega, fun _ h => absurd rfl h⟩
  · have hk8 : k < 8 := by have := (List.getElem?_eq_some_iff.1 hl).1; simp [stG, hs.olen] at this; exact this
    rw [stG_get hs hk8] at hl
    injection hl with hl
    subst hl
    have hmem : ∀ x : Nat, x < s.txs.length → (writesF (stT s) (k : Int) (x : Int) = true ↔ x ∈ bOrd s k) := fun x hx => by
      rw [hs.mem k x hk8]
      unfold writesF
      rw [comAt_st hx, opsAt_st hx]
      simp [hx]
    have hnd : (intsN (bOrd s k)).Nodup := by
      unfold intsN
      exact List.pairwise_map.2 ((hs.nodup hk8).imp fun {a b} h e => h (by omega))
    refine ⟨⟨fun x hx => ?_, hnd⟩, ?_⟩
    · unfold intsN at hx
      obtain ⟨y, hy, rfl⟩ := List.mem_map.1 hx
      have hyn := ((hs.mem k y hk8).1 hy).1
      rw [stT_len]
      exact ⟨by omega, by omega, (hmem y hyn).2 hy⟩
    · rw [intsN_len, stT_len]
      unfold cntW
      refine Nat.le_antisymm ?_ ?_
      · exact nodup_le _ _ (hs.nodup hk8) fun y hy => by
          have hyn := ((hs.mem k y hk8).1 hy).1
          exact List.mem_filter.2 ⟨List.mem_range.2 hyn, (hmem y hyn).2 hy⟩
      · refine nodup_le _ _ (List.Pairwise.filter _ List.nodup_range) fun y hy => ?_
        obtain ⟨q1, q2⟩ := List.mem_filter.1 hy
        exact (hmem y (List.mem_range.1 q1)).1 q2
theorem ab_st (hs : Sane s) : abB (stT s) (evsTo (stT s) (stT s).length 0) = false := by
  refine List.any_eq_false.2 fun e he h => ?_
  simp only [conB, Bool.and_eq_true, Bool.not_eq_true', decide_eq_false_iff_not] at h
  obtain ⟨⟨⟨⟨hc, hw⟩, h1⟩, h2⟩, h3⟩ := h
  obtain ⟨hi, hr⟩ := act_st hs he hw
  have hk := hr.key
  rcases hr.rd hw with ⟨r1, _⟩ | ⟨x, r1, r2, r3⟩ | ⟨_, r1, _⟩
  · exact h2 r1
  · obtain ⟨n1, n2, n3⟩ := (hs.mem _ x (by omega)).1 (lastF_hit r1).1
    rw [r2, comAt_st n1] at h3
    simp [n2] at h3
  · exact h1 r1
theorem be_st (hs : Sane s) : beB (stT s) (evsTo (stT s) (stT s).length 0) = false := by
  refine List.any_eq_false.2 fun e he h => ?_
  simp only [conB, Bool.and_eq_true, Bool.not_eq_true', decide_eq_false_iff_not] at h
  obtain ⟨⟨⟨⟨hc, hw⟩, h1⟩, h2⟩, h3⟩ := h
  obtain ⟨hi, hr⟩ := act_st hs he hw
  have hk := hr.key
  rcases hr.rd hw with ⟨r1, _⟩ | ⟨x, r1, r2, r3⟩ | ⟨_, r1, _⟩
  · exact h2 r1
  · obtain ⟨n1, n2, n3⟩ := (hs.mem _ x (by omega)).1 (lastF_hit r1).1
    rw [r2, opsAt_st n1] at h3
    exact h3 r3
  · exact h1 r1
theorem known_st (hs : Sane s) {x y : Nat} (h : knownF (stT s) (stG s) x y = true) : x < s.txs.length ∧ y < s.txs.length ∧ (txAt s x).com ≠ -1 ∧ (txAt s y).com ≠ -1 ∧ (txAt s x).com < (txAt s y).beg := by
  rw [known_eq] at h
  simp only [Bool.or_eq_true] at h
  rcases h with h | h
  · exact over_st hs h
  · exact seen_st hs h
theorem path_known (hs : Sane s) {n x y : Nat} (h : Path n (knownF (stT s) (stG s)) x y) : (txAt s x).com < (txAt s y).beg ∧ (txAt s y).beg < (txAt s y).com := by
  induction h using Path.ind with
  | one h1 h2 h3 =>
    obtain ⟨q1, q2, q3, q4, q5⟩ := known_st hs h3
    exact ⟨q5, hs.begLt q2 q4⟩
  | cons h1 h2 h3 h ih =>
    obtain ⟨q1, q2, q3, q4, q5⟩ := known_st hs h3
    have := hs.begLt q2 q4
    exact ⟨by omega, ih.2⟩
theorem path_pred {n : Nat} {f : Nat → Nat → Bool} {x y : Nat} (h : Path n f x y) : ∃ p, p < n ∧ y < n ∧ f p y = true ∧ (p = x ∨ Path n f x p) := by
  induction h using Path.ind with
  | one h1 h2 h3 => exact ⟨_, h1, h2, h3, .inl rfl⟩
  | cons h1 h2 h3 h ih =>
    obtain ⟨p, q1, q2, q3, q4⟩ := ih
    refine ⟨p, q1, q2, q3, .inr ?_⟩
    rcases q4 with rfl | q4
    · exact .one h1 h2 h3
    · exact .cons h1 h2 h3 q4
theorem no_cyc (hs : Sane s) (n : Nat) : ¬ Cyc n (knownF (stT s) (stG s)) := by
  rintro ⟨a, ha⟩
  have := path_known hs ha
  obtain ⟨p, q1, q2, q3, q4⟩ := path_pred ha
  omega
theorem snapshot_law (hs : Sane s) (n : Nat) (hn : n = s.txs.length) : ∃ y, findsF n (stT s) (stG s) = [false, false, false, false, false, y] := by
  subst hn
  have h1 : (orderF s.txs.length (overF (stG s))).isNone = false := by
    refine Bool.eq_false_iff.2 fun h => no_cyc hs s.txs.length (cyc_mono (fun i j hij => ?_) ((isNone_iff ..).1 h))
    rw [known_eq]; simp [hij]
  have h2 := ab_st hs
  have h3 := be_st hs
  rw [stT_len] at h2 h3
  have h4 : (orderF s.txs.length (knownF (stT s) (stG s))).isNone = false := Bool.eq_false_iff.2 fun h => no_cyc hs _ ((isNone_iff ..).1 h)
  have h5 : backTo s.txs.length (anewF (stT s) (stG s)) (closF s.txs.length (knownF (stT s) (stG s))) s.txs.length = false := by
    refine Bool.eq_false_iff.2 fun h => ?_
    obtain ⟨i, k, _, _, e1, e2⟩ := (backTo_iff ..).1 h
    obtain ⟨_, _, _, _, q, _⟩ := anew_st hs e1
    have := path_known hs e2
    omega
  exact ⟨_, by unfold findsF; rw [h1, h2, h3, h4, h5]⟩
/-- Of a way round: one that leads, over what it read, to one that commits at the same time, and is led to so. -/
theorem round_law (hs : Sane s) (h : Cyc s.txs.length (allF (stT s) (stG s))) : ∃ q p t, q < s.txs.length ∧ p < s.txs.length ∧ t < s.txs.length ∧ anewF (stT s) (stG s) q p = true ∧ anewF (stT s) (stG s) p t = true ∧
    (txAt s q).beg < (txAt s p).com ∧ (txAt s p).beg < (txAt s q).com ∧ (txAt s p).beg < (txAt s t).com ∧ (txAt s t).beg < (txAt s p).com ∧ pointsF s q p = true ∧ pointsF s p t = true := by
  have hedge : ∀ x y, allF (stT s) (stG s) x y = true → x < s.txs.length ∧ y < s.txs.length ∧ (txAt s x).com ≠ -1 ∧ (txAt s y).com ≠ -1 ∧
      ((txAt s x).com < (txAt s y).beg ∨ (anewF (stT s) (stG s) x y = true ∧ (txAt s x).beg < (txAt s y).com ∧ ((txAt s x).com < (txAt s y).beg ∨ pointsF s x y = true))) := fun x y hxy => by
    rw [all_eq, every_eq] at hxy
    simp only [Bool.or_eq_true] at hxy
    rcases hxy with hxy | hxy
    · obtain ⟨q1, q2, q3, q4, q5⟩ := known_st hs hxy
      exact ⟨q1, q2, q3, q4, .inl q5⟩
    · obtain ⟨q1, q2, q3, q4, q5, q6⟩ := anew_st hs hxy
      exact ⟨q1, q2, q3, q4, .inr ⟨hxy, q5, q6⟩⟩
  obtain ⟨a, ha⟩ := h
  -- the one on a way round that commits first
  have hmin : ∀ m : Nat, ∀ a, (txAt s a).com.toNat ≤ m → Path s.txs.length (allF (stT s) (stG s)) a a → ∃ t, Path s.txs.length (allF (stT s) (stG s)) t t ∧ ∀ v, Path s.txs.length (allF (stT s) (stG s)) v v → (txAt s t).com.toNat ≤ (txAt s v).com.toNat := fun m => by
    induction m with
    | zero => exact fun a h0 ha => ⟨a, ha, fun v _ => by omega⟩
    | succ m ih =>
      intro a h0 ha
      by_cases hx : ∃ v, Path s.txs.length (allF (stT s) (stG s)) v v ∧ (txAt s v).com.toNat ≤ m
      · obtain ⟨v, hv1, hv2⟩ := hx
        exact ih v hv2 hv1
      · refine ⟨a, ha, fun v hv => ?_⟩
        have : ¬ (txAt s v).com.toNat ≤ m := fun h => hx ⟨v, hv, h⟩
        omega
  obtain ⟨t, ht, hle⟩ := hmin _ a (Nat.le_refl _) ha
  have hpred : ∀ v, Path s.txs.length (allF (stT s) (stG s)) v v → ∃ p, allF (stT s) (stG s) p v = true ∧ Path s.txs.length (allF (stT s) (stG s)) p p := fun v hv => by
    obtain ⟨p, q1, q2, q3, q4⟩ := path_pred hv
    refine ⟨p, q3, ?_⟩
    rcases q4 with rfl | q4
    · exact hv
    · exact .cons q1 q2 q3 q4
  obtain ⟨p, hp1, hp2⟩ := hpred t ht
  obtain ⟨q, hq1, hq2⟩ := hpred p hp2
  have hlp := hle p hp2
  have hlq := hle q hq2
  obtain ⟨p1, t1, pc, tc, hpt⟩ := hedge _ _ hp1
  obtain ⟨q1, _, qc, _, hqp⟩ := hedge _ _ hq1
  have tb := hs.begLt t1 tc
  have pb := hs.begLt p1 pc
  have t0 : 1 ≤ (txAt s t).com := by rcases hs.com t t1 with e | e; exact absurd e tc; exact e.1
  have p0 : 1 ≤ (txAt s p).com := by rcases hs.com p p1 with e | e; exact absurd e pc; exact e.1
  have q0 : 1 ≤ (txAt s q).com := by rcases hs.com q q1 with e | e; exact absurd e qc; exact e.1
  rcases hpt with h1 | ⟨h1, h2, h3⟩
  · omega
  rcases hqp with k1 | ⟨k1, k2, k3⟩
  · omega
  have e1 : pointsF s p t = true := by rcases h3 with e | e; omega; exact e
  have e2 : pointsF s q p = true := by rcases k3 with e | e; omega; exact e
  exact ⟨q, p, t, q1, p1, t1, k1, h1, k2, by omega, h2, by omega, e2, e1⟩
end
end Go.Proofs.YtlnjmkldpicpdaaDoor
