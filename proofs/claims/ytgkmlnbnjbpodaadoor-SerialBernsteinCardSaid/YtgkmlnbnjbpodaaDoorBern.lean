/- Transactions one behind the other, plainly: they clash as they do, and see the same. Nothing of the program's code. -/
import Derived.Test.YtgkmlnbnjbpodaaDoorSeeD
import Derived.Test.YtgkmlnbnjbpodaaDoorSerA
import Derived.Test.YtgkmlnbnjbpodaaDoorSerP
import Derived.Test.YtgkmlnbnjbpodaaDoorLckK
namespace Go.Proofs.YtgkmlnbnjbpodaaDoor
open Go.RowKit
set_option linter.unusedVariables false
set_option linter.unusedSimpArgs false
theorem sub_pair {α : Type} {d : List α} {i j : Nat} (hij : i < j) (hj : j < d.length) : [d[i], d[j]].Sublist d := by
  have h : d.Pairwise fun a b => [a, b].Sublist d := List.pairwise_iff_forall_sublist.2 fun h => h
  exact (List.pairwise_iff_getElem.1 h) i j (by omega) hj hij
theorem pair_sub {α : Type} {d : List α} {a b : α} (h : [a, b].Sublist d) : ∃ i j : Nat, i < j ∧ d[i]? = some a ∧ d[j]? = some b := by
  have : d.Pairwise fun a b => ∃ i j : Nat, i < j ∧ d[i]? = some a ∧ d[j]? = some b := by
    rw [List.pairwise_iff_getElem]
    intro i j hi hj hij
    exact ⟨i, j, hij, List.getElem?_eq_getElem hi, List.getElem?_eq_getElem hj⟩
  exact List.pairwise_iff_forall_sublist.1 this h
theorem sAt_get {d : List St} {i : Nat} (h : i < d.length) : sAt d i = d[i] := by rw [sAt, List.getD_eq_getElem?_getD, List.getElem?_eq_getElem h]; rfl
theorem sAt_of {d : List St} {i : Nat} {a : St} (h : d[i]? = some a) : sAt d i = a := by rw [sAt, List.getD_eq_getElem?_getD, h]; rfl
theorem graphF_iff {l : List St} {x y : Nat} : graphF l x y = true ↔ ∃ a b, [a, b].Sublist (doneF l) ∧ clashB a b = true ∧ a.tx = (x : Int) ∧ b.tx = (y : Int) := by
  constructor
  · intro he
    unfold graphF graphTo at he
    obtain ⟨j, hj, he⟩ := List.any_eq_true.1 he
    unfold rowG at he
    obtain ⟨i, hi, he⟩ := List.any_eq_true.1 he
    rw [List.mem_range] at hi hj
    simp only [Bool.and_eq_true, decide_eq_true_eq] at he
    obtain ⟨c1, c2, c3⟩ := he
    rw [sAt_get (show i < (doneF l).length by omega), sAt_get hj] at c1
    rw [sAt_get (show i < (doneF l).length by omega)] at c2
    rw [sAt_get hj] at c3
    exact ⟨_, _, sub_pair hi hj, c1, c2, c3⟩
  · rintro ⟨a, b, hs, c1, c2, c3⟩
    obtain ⟨i, j, hij, hi, hj⟩ := pair_sub hs
    unfold graphF graphTo
    refine List.any_eq_true.2 ⟨j, List.mem_range.2 (List.getElem?_eq_some_iff.1 hj).1, ?_⟩
    unfold rowG
    refine List.any_eq_true.2 ⟨i, List.mem_range.2 hij, ?_⟩
    rw [sAt_of hi, sAt_of hj]
    simp only [Bool.and_eq_true, decide_eq_true_eq]
    exact ⟨c1, c2, c3⟩
theorem clashB_iff {a b : St} : clashB a b = true ↔ a.tx ≠ b.tx ∧ a.key = b.key ∧ (a.kind = 2 ∨ b.kind = 2) := by
  unfold clashB
  simp only [Bool.and_eq_true, decide_eq_true_eq, Bool.or_eq_true]
/-- Where each road goes up, there is an order. -/
theorem order_of_rank {n : Nat} {f : Nat → Nat → Bool} (g : Nat → Nat) (h : ∀ x y, f x y = true → g x < g y) : ∃ od, orderF n f = some od := by
  cases ho : orderF n f with
  | some od => exact ⟨od, rfl⟩
  | none =>
    obtain ⟨a, ha⟩ := order_none ho
    have : ∀ {a b : Nat}, Path n f a b → g a < g b := fun hp => by
      induction hp using Path.ind with
      | one _ _ h3 => exact h _ _ h3
      | cons _ _ h3 _ ih => exact Nat.lt_trans (h _ _ h3) ih
    exact absurd (this ha) (Nat.lt_irrefl _)
/-- The search finds an order that sees the same. -/
theorem try_finds (d : List St) (all : List Nat) (stp : Nat → List Nat) (want : Nat → Int) : ∀ (n : Nat) (rest order places : List Nat), rest.length = n → rest.Nodup → (∀ x ∈ rest, x ∈ all ∧ x ∉ order) → sameS (seeF d (places ++ rest.flatMap stp)) want → tryF d all stp want n order places ≠ none
  | 0, rest, order, places, hl, hnd, hm, hs => by
    obtain rfl := List.eq_nil_of_length_eq_zero hl
    rw [List.flatMap_nil, List.append_nil] at hs
    rw [tryF, if_pos hs]
    exact fun h => by cases h
  | n + 1, [], order, places, hl, hnd, hm, hs => by cases hl
  | n + 1, tx :: rest, order, places, hl, hnd, hm, hs => by
    intro hnone
    rw [tryF] at hnone
    have h1 := List.findSome?_eq_none_iff.1 hnone tx (hm tx (by simp)).1
    rw [if_neg (hm tx (by simp)).2] at h1
    rw [List.nodup_cons] at hnd
    refine try_finds d all stp want n rest (order ++ [tx]) (places ++ stp tx) (by simpa using hl) hnd.2 (fun x hx => ⟨(hm x (by simp [hx])).1, fun hc => ?_⟩) ?_ h1
    · rcases List.mem_append.1 hc with hc | hc
      · exact (hm x (by simp [hx])).2 hc
      · rw [List.mem_singleton.1 hc] at hx
        exact hnd.1 hx
    · rw [List.flatMap_cons] at hs
      rw [List.append_assoc]
      exact hs
/-! What is seen of a key, and at a step, hangs on the steps of that key alone. -/
def wrB (d : List St) (k : Int) (j : Nat) : Bool := decide ((sAt d j).kind = 2 ∧ (sAt d j).key = k)
def relB (d : List St) (i j : Nat) : Bool := decide ((sAt d j).key = (sAt d i).key ∧ ((sAt d j).kind = 2 ∨ j = i))
theorem see_last (d : List St) (k : Int) : ∀ (p : List Nat) (s t : (Nat → Int) × (Int → Int)), s.2 k = t.2 k → (p.foldl (seeStep d) s).2 k = ((p.filter (wrB d k)).foldl (seeStep d) t).2 k
  | [], s, t, h => h
  | j :: p, s, t, h => by
    rw [List.foldl_cons, List.filter_cons]
    by_cases hj : wrB d k j = true
    · rw [if_pos hj, List.foldl_cons]
      have hj' := of_decide_eq_true hj
      refine see_last d k p _ _ ?_
      unfold seeStep
      rw [if_pos hj'.1, if_pos hj'.1]
      dsimp only
      rw [if_pos hj'.2.symm, if_pos hj'.2.symm]
    · rw [if_neg hj]
      have hj' : ¬ ((sAt d j).kind = 2 ∧ (sAt d j).key = k) := fun h => hj (decide_eq_true h)
      refine see_last d k p _ _ ?_
      unfold seeStep
      by_cases h2 : (sAt d j).kind = 2
      · rw [if_pos h2]
        dsimp only
        rw [if_neg (fun e => hj' ⟨h2, e.symm⟩)]
        exact h
      · rw [if_neg h2]; exact h
theorem see_read (d : List St) (i : Nat) : ∀ (p : List Nat) (s t : (Nat → Int) × (Int → Int)), s.1 i = t.1 i → s.2 (sAt d i).key = t.2 (sAt d i).key → (p.foldl (seeStep d) s).1 i = ((p.filter (relB d i)).foldl (seeStep d) t).1 i
  | [], s, t, h, _ => h
  | j :: p, s, t, h, hk => by
    rw [List.foldl_cons, List.filter_cons]
    by_cases hj : relB d i j = true
    · rw [if_pos hj, List.foldl_cons]
      have hj' := of_decide_eq_true hj
      refine see_read d i p _ _ ?_ ?_
      · unfold seeStep
        by_cases h2 : (sAt d j).kind = 2
        · rw [if_pos h2, if_pos h2]
          dsimp only
          rw [h]
        · rw [if_neg h2, if_neg h2]
          dsimp only
          rw [hj'.1, hk, h]
      · unfold seeStep
        by_cases h2 : (sAt d j).kind = 2
        · rw [if_pos h2, if_pos h2]
          dsimp only
          rw [hk]
        · rw [if_neg h2, if_neg h2]
          exact hk
    · rw [if_neg hj]
      have hj' : ¬ ((sAt d j).key = (sAt d i).key ∧ ((sAt d j).kind = 2 ∨ j = i)) := fun h => hj (decide_eq_true h)
      have hji : i ≠ j := fun e => hj' (e ▸ ⟨rfl, .inr rfl⟩)
      refine see_read d i p _ _ ?_ ?_
      · unfold seeStep
        split
        · dsimp only; rw [if_neg hji]; exact h
        · dsimp only; rw [if_neg hji]; exact h
      · unfold seeStep
        by_cases h2 : (sAt d j).kind = 2
        · rw [if_pos h2]
          dsimp only
          rw [if_neg (fun e => hj' ⟨e.symm, .inl h2⟩)]
          exact hk
        · rw [if_neg h2]; exact hk
theorem inc_ext : ∀ {p q : List Nat}, p.Pairwise (· < ·) → q.Pairwise (· < ·) → (∀ x, x ∈ p ↔ x ∈ q) → p = q
  | [], [], _, _, _ => rfl
  | [], y :: q, _, _, h => by have := (h y).2 (by simp); cases this
  | x :: p, [], _, _, h => by have := (h x).1 (by simp); cases this
  | x :: p, y :: q, hp, hq, h => by
    rw [List.pairwise_cons] at hp hq
    have hxy : x = y := by
      have h1 := (h x).1 (by simp)
      have h2 := (h y).2 (by simp)
      rcases List.mem_cons.1 h1 with h1 | h1
      · exact h1
      · rcases List.mem_cons.1 h2 with h2 | h2
        · exact h2.symm
        · have := hp.1 y h2; have := hq.1 x h1; omega
    subst hxy
    rw [inc_ext hp.2 hq.2 fun z => ?_]
    constructor
    · intro hz
      rcases List.mem_cons.1 ((h z).1 (by simp [hz])) with e | hz'
      · have := hp.1 z hz; omega
      · exact hz'
    · intro hz
      rcases List.mem_cons.1 ((h z).2 (by simp [hz])) with e | hz'
      · have := hq.1 z hz; omega
      · exact hz'
/-- An order in which all that clashes goes up sees the same. -/
theorem seesOk_of {l : List St} (on : List Nat) (g : Nat → Nat) (hon : on.Pairwise fun a b => g a < g b) (hmem : ∀ x, x ∈ on ↔ x ∈ commitsF l) (hed : ∀ x y, graphF l x y = true → g x < g y) : seesOk l := by
  intro _
  have hnd : on.Nodup := List.Pairwise.imp (fun h e => by subst e; omega) hon
  have hcn : (commitsF l).Nodup := List.nodup_range.sublist List.filter_sublist
  have hlen : on.length = (commitsF l).length := Nat.le_antisymm (nodup_le _ _ hnd fun x hx => (hmem x).1 hx) (nodup_le _ _ hcn fun x hx => (hmem x).2 hx)
  refine try_finds _ _ _ _ _ on [] [] hlen hnd (fun x hx => ⟨(hmem x).1 hx, by simp⟩) ?_
  rw [List.nil_append]
  obtain ⟨n, hn⟩ : ∃ n, (doneF l).length = n := ⟨_, rfl⟩
  have key : ∀ r : Nat → Bool, (∀ x y, r x = true → r y = true → x ≠ y → (sAt (doneF l) x).key = (sAt (doneF l) y).key ∧ ((sAt (doneF l) x).kind = 2 ∨ (sAt (doneF l) y).kind = 2)) → (on.flatMap (stpF (doneF l) n)).filter r = (List.range n).filter r := by
    intro r hr
    have hmemF : ∀ {t x : Nat}, x ∈ stpF (doneF l) n t ↔ x < n ∧ (sAt (doneF l) x).tx = (t : Int) := fun {t x} => by
      unfold stpF
      rw [List.mem_filter, List.mem_range, decide_eq_true_eq]
    refine inc_ext ?_ (List.pairwise_lt_range.sublist List.filter_sublist) fun x => ?_
    · rw [List.filter_flatMap, List.pairwise_flatMap]
      refine ⟨fun t _ => (List.pairwise_lt_range.sublist List.filter_sublist).sublist List.filter_sublist, hon.imp fun {t t'} hg x hx y hy => ?_⟩
      obtain ⟨hx1, hx2⟩ := List.mem_filter.1 hx
      obtain ⟨hy1, hy2⟩ := List.mem_filter.1 hy
      obtain ⟨hxn, hxt⟩ := hmemF.1 hx1
      obtain ⟨hyn, hyt⟩ := hmemF.1 hy1
      refine Classical.byContradiction fun hlt => ?_
      have hne : y ≠ x := fun e => by
        subst e
        have : t = t' := by omega
        subst this
        omega
      obtain ⟨c1, c2⟩ := hr y x hy2 hx2 hne
      have := hed t' t (graphF_iff.2 ⟨_, _, sub_pair (show y < x by omega) (by omega), clashB_iff.2 (by
        rw [← sAt_get (show y < (doneF l).length by omega), ← sAt_get (show x < (doneF l).length by omega)]
        refine ⟨fun e => ?_, c1, c2⟩
        have : t = t' := by omega
        subst this
        omega), by rw [← sAt_get (show y < (doneF l).length by omega)]; exact hyt, by rw [← sAt_get (show x < (doneF l).length by omega)]; exact hxt⟩)
      omega
    · rw [List.mem_filter, List.mem_filter, List.mem_range, List.mem_flatMap]
      constructor
      · rintro ⟨⟨t, _, ht⟩, hr⟩
        exact ⟨(hmemF.1 ht).1, hr⟩
      · rintro ⟨hx, hr⟩
        refine ⟨?_, hr⟩
        have hin : sAt (doneF l) x ∈ doneF l := by rw [sAt_get (show x < (doneF l).length by omega)]; exact List.getElem_mem _
        have hb := (List.mem_filter.1 hin).2
        unfold doneB at hb
        simp only [Bool.and_eq_true, decide_eq_true_eq] at hb
        obtain ⟨t, ht, he⟩ := List.mem_map.1 hb.2
        exact ⟨t, (hmem t).2 ht, hmemF.2 ⟨hx, he.symm⟩⟩
  rw [hn]
  refine sameS_iff.2 fun v hv => ?_
  unfold seeF
  split
  · unfold seeTo
    rw [see_read _ v (on.flatMap _) _ (fun _ => 0, fun _ => -1) rfl rfl, see_read _ v (List.range n) _ (fun _ => 0, fun _ => -1) rfl rfl, key (relB (doneF l) v) ?_]
    intro x y hx hy hxy
    have h1 := of_decide_eq_true hx
    have h2 := of_decide_eq_true hy
    refine ⟨h1.1.trans h2.1.symm, ?_⟩
    rcases h1.2 with h | h
    · exact .inl h
    · rcases h2.2 with h' | h'
      · exact .inr h'
      · exact absurd (h.trans h'.symm) hxy
  · unfold seeTo
    rw [see_last _ _ (on.flatMap _) _ (fun _ => 0, fun _ => -1) rfl, see_last _ _ (List.range n) _ (fun _ => 0, fun _ => -1) rfl, key (wrB (doneF l) _) ?_]
    intro x y hx hy hxy
    have h1 := of_decide_eq_true hx
    have h2 := of_decide_eq_true hy
    exact ⟨h1.2.trans h2.2.symm, .inl h1.1⟩
/-! ### One behind the other -/
def ofTx (d : List St) (t : Nat) : List St := d.filter fun s => decide (s.tx = (t : Int))
def behL (d : List St) (on : List Nat) : List St := on.flatMap fun t => ofTx d t ++ [⟨(t : Int), 3, 0⟩]
theorem mem_ofTx {d : List St} {t : Nat} {a : St} : a ∈ ofTx d t ↔ a ∈ d ∧ a.tx = (t : Int) := by
  unfold ofTx
  rw [List.mem_filter, decide_eq_true_eq]
theorem mem_beh {d : List St} {on : List Nat} {a : St} : a ∈ behL d on ↔ ∃ t, t ∈ on ∧ ((a ∈ d ∧ a.tx = (t : Int)) ∨ a = ⟨(t : Int), 3, 0⟩) := by
  unfold behL
  rw [List.mem_flatMap]
  refine exists_congr fun t => and_congr_right fun _ => ?_
  rw [List.mem_append, mem_ofTx, List.mem_singleton]
section
variable {d : List St} {on : List Nat} {g : Nat → Nat}
/-- How steps lie that come one transaction behind the other. -/
theorem beh_pair (hd : ∀ a ∈ d, a.kind < 3) (hon : on.Pairwise fun a b => g a < g b) : (behL d on).Pairwise fun a b => (a.tx = b.tx ∧ a.kind < 3) ∨ g a.tx.toNat < g b.tx.toNat := by
  unfold behL
  rw [List.pairwise_flatMap]
  refine ⟨fun t _ => ?_, hon.imp fun {t t'} hg a ha b hb => .inr ?_⟩
  · rw [List.pairwise_append]
    refine ⟨List.pairwise_iff_forall_sublist.2 fun {a b} hs => .inl ?_, by simp, fun a ha b hb => .inl ?_⟩
    · have ha := mem_ofTx.1 (hs.subset (show a ∈ [a, b] by simp))
      have hb := mem_ofTx.1 (hs.subset (show b ∈ [a, b] by simp))
      exact ⟨ha.2.trans hb.2.symm, hd a ha.1⟩
    · have ha := mem_ofTx.1 ha
      rw [List.mem_singleton.1 hb]
      exact ⟨ha.2, hd a ha.1⟩
  · have h1 : ∀ {t : Nat} {a : St}, a ∈ ofTx d t ++ [⟨(t : Int), 3, 0⟩] → a.tx = (t : Int) := fun {t a} h => by
      rcases List.mem_append.1 h with h | h
      · exact (mem_ofTx.1 h).2
      · rw [List.mem_singleton.1 h]
    rw [h1 ha, h1 hb]
    exact hg
theorem overTo_true {l : List St} : ∀ {k t : Nat}, overTo l k t = true → ∃ i, i < k ∧ (sAt l i).tx.toNat = t ∧ 3 ≤ (sAt l i).kind
  | 0, t, h => by cases h
  | k + 1, t, h => by
    rw [overTo] at h
    dsimp only at h
    by_cases ht : t = (sAt l k).tx.toNat
    · rw [if_pos ht] at h
      exact ⟨k, by omega, ht.symm, of_decide_eq_true h⟩
    · rw [if_neg ht] at h
      obtain ⟨i, hi, h2⟩ := overTo_true h
      exact ⟨i, by omega, h2⟩
theorem pair_at {l : List St} {R : St → St → Prop} (h : l.Pairwise R) {i j : Nat} (hij : i < j) (hj : j < l.length) : R (sAt l i) (sAt l j) := by
  rw [sAt_get (show i < l.length by omega), sAt_get hj]
  exact List.pairwise_iff_getElem.1 h i j _ hj hij
theorem beh_ok (hd : ∀ a ∈ d, a.kind < 3) (hon : on.Pairwise fun a b => g a < g b) (hl : (behL d on).length ≤ 60) (hs : ∀ a ∈ behL d on, stepE a = none) : OkSteps (behL d on) := by
  refine ⟨hl, fun k hk => ⟨hs _ (by rw [sAt_get hk]; exact List.getElem_mem _), ?_⟩⟩
  refine Bool.eq_false_iff.2 fun ho => ?_
  obtain ⟨i, hi, ht, hk3⟩ := overTo_true ho
  rcases pair_at (beh_pair hd hon) hi hk with ⟨h1, h2⟩ | h
  · omega
  · rw [ht] at h; omega
theorem beh_com (ho8 : ∀ t ∈ on, t < 8) (hd : ∀ a ∈ d, a.kind < 3) (x : Nat) : x ∈ commitsF (behL d on) ↔ x ∈ on := by
  unfold commitsF commitsTo
  rw [List.mem_filter, List.mem_range]
  unfold comB
  rw [List.any_eq_true]
  constructor
  · rintro ⟨_, a, ha, hc⟩
    have hc := of_decide_eq_true hc
    obtain ⟨t, ht, hor⟩ := mem_beh.1 ha
    have : a.tx = (t : Int) := by
      rcases hor with h | h
      · exact h.2
      · rw [h]
    have : t = x := by omega
    exact this ▸ ht
  · intro hx
    exact ⟨ho8 x hx, _, mem_beh.2 ⟨x, hx, .inr rfl⟩, decide_eq_true ⟨rfl, rfl⟩⟩
theorem beh_done (ho8 : ∀ t ∈ on, t < 8) (hd : ∀ a ∈ d, a.kind < 3) : doneF (behL d on) = on.flatMap (ofTx d) := by
  unfold doneF
  have hb : ∀ a, doneB (behL d on) a = true ↔ a.kind < 3 ∧ ∃ t, t ∈ on ∧ a.tx = (t : Int) := fun a => by
    unfold doneB
    simp only [Bool.and_eq_true, decide_eq_true_eq]
    refine and_congr_right fun _ => ?_
    rw [List.mem_map]
    constructor
    · rintro ⟨t, ht, he⟩; exact ⟨t, (beh_com ho8 hd t).1 ht, he.symm⟩
    · rintro ⟨t, ht, he⟩; exact ⟨t, (beh_com ho8 hd t).2 ht, he.symm⟩
  obtain ⟨q, hq⟩ : ∃ q, doneB (behL d on) = q := ⟨_, rfl⟩
  rw [hq] at hb ⊢
  show (on.flatMap fun t => ofTx d t ++ [⟨(t : Int), 3, 0⟩]).filter q = _
  rw [List.filter_flatMap]
  have : ∀ (l : List Nat), (∀ t ∈ l, t ∈ on) → (l.flatMap fun t => (ofTx d t ++ [(⟨(t : Int), 3, 0⟩ : St)]).filter q) = l.flatMap (ofTx d) := fun l => by
    induction l with
    | nil => intro _; rfl
    | cons t l ih =>
      intro h
      rw [List.flatMap_cons, List.flatMap_cons, ih (fun x hx => h x (by simp [hx])), List.filter_append]
      have h1 : (ofTx d t).filter q = ofTx d t := by
        refine List.filter_eq_self.2 fun a ha => (hb a).2 ?_
        have ha := mem_ofTx.1 ha
        exact ⟨hd a ha.1, t, h t (by simp), ha.2⟩
      have h2 : [(⟨(t : Int), 3, 0⟩ : St)].filter q = [] := List.filter_eq_nil_iff.2 fun a ha hqa => by
        have := (hb a).1 hqa
        rw [List.mem_singleton.1 ha] at this
        have h3 : (3 : Int) < 3 := this.1
        omega
      rw [h1, h2, List.append_nil]
  exact this on (fun _ h => h)
theorem beh_up (hd : ∀ a ∈ d, a.kind < 3) (hon : on.Pairwise fun a b => g a < g b) (x y : Nat) (h : graphF (behL d on) x y = true) : g x < g y := by
  obtain ⟨a, b, hs, hc, ha, hb⟩ := graphF_iff.1 h
  have hR := List.pairwise_iff_forall_sublist.1 (beh_pair hd hon) (hs.trans List.filter_sublist)
  have hc := (clashB_iff.1 hc).1
  rcases hR with hR | hR
  · exact absurd hR.1 hc
  · rw [ha, hb] at hR; exact hR
theorem beh_careful (hd : ∀ a ∈ d, a.kind < 3) (hon : on.Pairwise fun a b => g a < g b) : carTo (behL d on) (behL d on).length = (true, true, true) := by
  have hP := beh_pair hd hon
  obtain ⟨s, hs⟩ : ∃ s, behL d on = s := ⟨_, rfl⟩
  have hcom : ∀ a ∈ s, (⟨a.tx, 3, 0⟩ : St) ∈ s := fun a ha => by
    rw [← hs] at ha ⊢
    obtain ⟨t, ht, hor⟩ := mem_beh.1 ha
    have : a.tx = (t : Int) := by
      rcases hor with h | h
      · exact h.2
      · rw [h]
    exact mem_beh.2 ⟨t, ht, .inr (by rw [this])⟩
  rw [hs] at hP ⊢
  have key : ∀ k, k ≤ s.length → carTo s k = (true, true, true) := fun k => by
    induction k with
    | zero => intro _; rfl
    | succ k ih =>
      intro hk
      rw [carTo, ih (by omega)]
      unfold carStep
      split
      · rfl
      rename_i hk3
      cases hw : writerF s k with
      | none => rfl
      | some m =>
        dsimp only
        by_cases htx : (sAt s m).tx = (sAt s k).tx
        · rw [if_pos htx]
        · rw [if_neg htx]
          obtain ⟨h1, h2, h3, h4⟩ := writerTo_spec hw
          have hm : sAt s m ∈ s := by rw [sAt_get (show m < s.length by omega)]; exact List.getElem_mem _
          obtain ⟨e, he⟩ := List.getElem?_of_mem (hcom _ hm)
          have hel := (List.getElem?_eq_some_iff.1 he).1
          have hse := sAt_of he
          have hek : e < k := by
            rcases Nat.lt_trichotomy e k with h | h | h
            · exact h
            · subst h
              rw [hse] at hk3
              exact absurd (show (3 : Int) ≤ 3 by decide) hk3
            · have r1 := pair_at hP h1 (show k < s.length by omega)
              have r2 := pair_at hP h hel
              rw [hse] at r2
              dsimp only at r2
              rcases r1 with ⟨r1, _⟩ | r1
              · exact absurd r1 htx
              · rcases r2 with ⟨r2, _⟩ | r2
                · exact absurd r2.symm htx
                · omega
          have hne : placeF s (sAt s m).tx 3 0 k ≠ none := fun hn => placeF_none hn (Nat.zero_le e) hek (by rw [hse]; exact ⟨rfl, rfl⟩)
          rw [if_pos hne]
  exact key _ (Nat.le_refl _)
/-- Transactions one behind the other. -/
theorem one_law (ho8 : ∀ t ∈ on, t < 8) (hd : ∀ a ∈ d, a.kind < 3) (hon : on.Pairwise fun a b => g a < g b) (hl : (behL d on).length ≤ 60) (hs : ∀ a ∈ behL d on, stepE a = none) :
    OkSteps (behL d on) ∧ (∃ od, orderF 8 (graphF (behL d on)) = some od) ∧ seesOk (behL d on) ∧ carTo (behL d on) (behL d on).length = (true, true, true) ∧ (commitsF (behL d on)).length ≤ on.length :=
  ⟨beh_ok hd hon hl hs, order_of_rank g (beh_up hd hon), seesOk_of on g hon (fun x => (beh_com ho8 hd x).symm) (beh_up hd hon), beh_careful hd hon,
    nodup_le _ _ (List.nodup_range.sublist List.filter_sublist) fun x hx => (beh_com ho8 hd x).1 hx⟩
end
/-- Where each of some stands. -/
theorem place_of : ∀ (on : List Nat), on.Nodup → ∃ g : Nat → Nat, ∀ (i x : Nat), on[i]? = some x → g x = i
  | [], _ => ⟨fun _ => 0, fun i x h => by simp at h⟩
  | t :: on, h => by
    rw [List.nodup_cons] at h
    obtain ⟨g, hg⟩ := place_of on h.2
    refine ⟨fun x => if x = t then 0 else g x + 1, fun i x hx => ?_⟩
    cases i with
    | zero =>
      rw [List.getElem?_cons_zero] at hx
      injection hx with hx
      exact if_pos hx.symm
    | succ i =>
      rw [List.getElem?_cons_succ] at hx
      have hne : x ≠ t := fun e => h.1 (e ▸ List.mem_of_getElem? hx)
      show (if x = t then 0 else g x + 1) = i + 1
      rw [if_neg hne, hg i x hx]
theorem place_pair {on : List Nat} {g : Nat → Nat} (h : ∀ (i x : Nat), on[i]? = some x → g x = i) : on.Pairwise fun a b => g a < g b := by
  rw [List.pairwise_iff_getElem]
  intro i j hi hj hij
  rw [h i _ (List.getElem?_eq_getElem hi), h j _ (List.getElem?_eq_getElem hj)]
  exact hij
/-! ### BERNSTEIN, PAPADIMITRIOU -/
theorem sub_flatMap {α β : Type} (f : α → List β) : ∀ {l m : List α}, l.Sublist m → (l.flatMap f).Sublist (m.flatMap f) := fun h => by
  induction h with
  | slnil => exact List.Sublist.refl _
  | cons a _ ih => rw [List.flatMap_cons]; exact ih.trans (List.sublist_append_right _ _)
  | cons_cons a _ ih => rw [List.flatMap_cons, List.flatMap_cons]; exact List.Sublist.append (List.Sublist.refl _) ih
theorem pair_or {α : Type} {d : List α} {a b : α} (ha : a ∈ d) (hb : b ∈ d) (hne : a ≠ b) : [a, b].Sublist d ∨ [b, a].Sublist d := by
  obtain ⟨i, hi, rfl⟩ := List.getElem_of_mem ha
  obtain ⟨j, hj, rfl⟩ := List.getElem_of_mem hb
  rcases Nat.lt_trichotomy i j with h | h | h
  · exact .inl (sub_pair h hj)
  · subst h; exact absurd rfl hne
  · exact .inr (sub_pair h hi)
theorem two_filters {α : Type} (p q : α → Bool) : ∀ (l : List α), (∀ a ∈ l, p a = true → q a = true → False) → (l.filter p).length + (l.filter q).length ≤ l.length
  | [], _ => by simp
  | a :: l, h => by
    have ih := two_filters p q l (fun b hb => h b (by simp [hb]))
    have h0 := h a (by simp)
    rw [List.filter_cons, List.filter_cons]
    cases hp : p a with
    | true =>
      cases hq : q a with
      | true => exact (h0 hp hq).elim
      | false => rw [if_pos rfl, if_neg (by decide)]; simp only [List.length_cons]; omega
    | false =>
      cases hq : q a with
      | true => rw [if_neg (by decide), if_pos rfl]; simp only [List.length_cons]; omega
      | false => rw [if_neg (by decide), if_neg (by decide)]; simp only [List.length_cons]; omega
theorem body_len : ∀ (on : List Nat) (d : List St), on.Nodup → (on.flatMap (ofTx d)).length ≤ d.length
  | [], d, _ => by simp
  | t :: on, d, h => by
    rw [List.nodup_cons] at h
    have ih := body_len on (d.filter fun s => !decide (s.tx = (t : Int))) h.2
    have he : ∀ (l : List Nat), t ∉ l → l.flatMap (ofTx (d.filter fun s => !decide (s.tx = (t : Int)))) = l.flatMap (ofTx d) := fun l => by
      induction l with
      | nil => intro _; rfl
      | cons u l ih =>
        intro hu
        rw [List.flatMap_cons, List.flatMap_cons, ih (fun hc => hu (by simp [hc]))]
        congr 1
        unfold ofTx
        rw [List.filter_filter]
        refine List.filter_congr fun s _ => ?_
        by_cases hs : s.tx = (u : Int)
        · have : ¬ s.tx = (t : Int) := fun e => hu (by
            have : t = u := by omega
            simp [this])
          simp [hs, this]
          omega
        · simp [hs]
    rw [he on h.1] at ih
    have h2 := two_filters (fun s : St => decide (s.tx = (t : Int))) (fun s => !decide (s.tx = (t : Int))) d (fun a _ h1 h2 => by
      rw [h1] at h2; cases h2)
    rw [List.flatMap_cons, List.length_append]
    have h3 : (ofTx d t).length = (d.filter fun s => decide (s.tx = (t : Int))).length := rfl
    omega
theorem beh_len (d : List St) (on : List Nat) : (behL d on).length = (on.flatMap (ofTx d)).length + on.length := by
  unfold behL
  induction on with
  | nil => rfl
  | cons t on ih =>
    rw [List.flatMap_cons, List.flatMap_cons, List.length_append, List.length_append, List.length_append, ih, List.length_cons, List.length_cons, List.length_nil]
    omega
theorem com_count {l : List St} (hok : OkSteps l) (on : List Nat) (hnd : on.Nodup) (hmem : ∀ x, x ∈ on ↔ x ∈ commitsF l) : on.length = comN l l.length := by
  unfold comN
  rw [List.take_length]
  have hC : ∀ a ∈ l.filter (fun s => decide (s.kind = 3)), a ∈ l ∧ a.kind = 3 := fun a ha => by
    have := List.mem_filter.1 ha
    exact ⟨this.1, of_decide_eq_true this.2⟩
  have htx : ∀ a ∈ l, 0 ≤ a.tx ∧ a.tx < 8 := fun a ha => by
    obtain ⟨i, hi, rfl⟩ := List.getElem_of_mem ha
    have := stepE_none (hok.2 i hi).1
    rw [sAt_get hi] at this
    omega
  have hin : ∀ x, x ∈ on ↔ x ∈ (l.filter (fun s => decide (s.kind = 3))).map (fun s => s.tx.toNat) := fun x => by
    rw [hmem, List.mem_map]
    unfold commitsF commitsTo
    rw [List.mem_filter, List.mem_range]
    unfold comB
    rw [List.any_eq_true]
    constructor
    · rintro ⟨_, a, ha, hc⟩
      have hc := of_decide_eq_true hc
      exact ⟨a, List.mem_filter.2 ⟨ha, decide_eq_true hc.2⟩, by omega⟩
    · rintro ⟨a, ha, he⟩
      have := hC a ha
      have := htx a this.1
      exact ⟨by omega, a, (hC a ha).1, decide_eq_true ⟨by omega, (hC a ha).2⟩⟩
  have hpw : l.Pairwise fun a b => a.kind = 3 → a.tx.toNat ≠ b.tx.toNat := by
    rw [List.pairwise_iff_getElem]
    intro i j hi hj hij h3 he
    have := no_after (fun k hk => (hok.2 k hk).2) hij hj (by rw [sAt_get hi, sAt_get hj]; exact he)
    rw [sAt_get hi] at this
    omega
  have hnd2 : ((l.filter (fun s => decide (s.kind = 3))).map (fun s => s.tx.toNat)).Nodup := by
    refine List.pairwise_map.2 (List.pairwise_iff_forall_sublist.2 fun {a b} hs => ?_)
    exact List.pairwise_iff_forall_sublist.1 hpw (hs.trans List.filter_sublist) (hC a (hs.subset (by simp))).2
  have h1 := nodup_le _ _ hnd (fun x hx => (hin x).1 hx)
  have h2 := nodup_le _ _ hnd2 (fun x hx => (hin x).2 hx)
  rw [List.length_map] at h1 h2
  omega
theorem bern_law {l : List St} (hok : OkSteps l) {od : List Nat} (ho : orderF 8 (graphF l) = some od) :
    OkSteps (behL (doneF l) (od.filter (inC l))) ∧ (∀ x y, x < 8 → y < 8 → graphF (behL (doneF l) (od.filter (inC l))) x y = graphF l x y) ∧ (od.filter (inC l)).length = comN l l.length ∧ seesOk l ∧ (od.filter (inC l)).length = (commitsF l).length ∧ (od.filter (inC l)).length ≤ 8 := by
  obtain ⟨o1, o2, o3, o4⟩ := orderTo_spec 8 od ho
  obtain ⟨g, hg⟩ := place_of od o2
  have hon : (od.filter (inC l)).Pairwise fun a b => g a < g b := (place_pair hg).sublist List.filter_sublist
  have hcn : (commitsF l).Nodup := List.nodup_range.sublist List.filter_sublist
  have hc8 : ∀ x ∈ commitsF l, x < 8 := fun x hx => List.mem_range.1 (List.mem_filter.1 hx).1
  have hin : ∀ x, x < 8 → x ∈ od := fun x hx => mem_of_full od o2 o3 o1 x hx
  have hmem : ∀ x, x ∈ od.filter (inC l) ↔ x ∈ commitsF l := fun x => by
    rw [List.mem_filter]
    unfold inC
    rw [decide_eq_true_eq]
    exact ⟨fun h => h.2, fun h => ⟨hin x (hc8 x h), h⟩⟩
  have hlen : (od.filter (inC l)).length ≤ 8 := by rw [← o1]; exact List.length_filter_le _ _
  obtain ⟨on, hOn⟩ : ∃ on, od.filter (inC l) = on := ⟨_, rfl⟩
  rw [hOn] at hon hmem hlen ⊢
  have hnd : on.Nodup := List.Pairwise.imp (fun h e => by subst e; omega) hon
  have ho8 : ∀ t ∈ on, t < 8 := fun t ht => hc8 t ((hmem t).1 ht)
  have htx : ∀ a ∈ l, 0 ≤ a.tx ∧ a.tx < 8 ∧ stepE a = none := fun a ha => by
    obtain ⟨i, hi, rfl⟩ := List.getElem_of_mem ha
    have h0 := (hok.2 i hi).1
    rw [sAt_get hi] at h0
    have := stepE_none h0
    exact ⟨by omega, by omega, h0⟩
  have hd : ∀ a ∈ doneF l, a ∈ l ∧ a.kind < 3 ∧ ∃ t, t ∈ on ∧ a.tx = (t : Int) := fun a ha => by
    have h1 := List.mem_filter.1 ha
    have h2 := h1.2
    unfold doneB at h2
    simp only [Bool.and_eq_true, decide_eq_true_eq] at h2
    obtain ⟨t, ht, he⟩ := List.mem_map.1 h2.2
    exact ⟨h1.1, h2.1, t, (hmem t).2 ht, he.symm⟩
  have hd3 : ∀ a ∈ doneF l, a.kind < 3 := fun a ha => (hd a ha).2.1
  have hup : ∀ x y, graphF l x y = true → g x < g y := fun x y h => by
    obtain ⟨a, b, hs, hc, ha, hb⟩ := graphF_iff.1 h
    have ma := htx a (hd a (hs.subset (by simp))).1
    have mb := htx b (hd b (hs.subset (by simp))).1
    obtain ⟨j, hj⟩ := List.getElem?_of_mem (hin y (by omega))
    obtain ⟨i, hij, hi⟩ := o4 j y hj x (by omega) h
    rw [hg i x hi, hg j y hj]
    exact hij
  have hcount := com_count hok on hnd hmem
  have hlen2 : on.length = (commitsF l).length := Nat.le_antisymm (nodup_le _ _ hnd fun x hx => (hmem x).1 hx) (nodup_le _ _ hcn fun x hx => (hmem x).2 hx)
  have hl60 : (behL (doneF l) on).length ≤ 60 := by
    have h1 := beh_len (doneF l) on
    have h2 := body_len on (doneF l) hnd
    have h3 := two_filters (doneB l) (fun s => decide (s.kind = 3)) l (fun a _ h1 h2 => by
      unfold doneB at h1
      simp only [Bool.and_eq_true, decide_eq_true_eq] at h1 h2
      omega)
    have h4 : (doneF l).length = (l.filter (doneB l)).length := rfl
    have h5 := hok.1
    unfold comN at hcount
    rw [List.take_length] at hcount
    omega
  have hsE : ∀ a ∈ behL (doneF l) on, stepE a = none := fun a ha => by
    obtain ⟨t, ht, hor⟩ := mem_beh.1 ha
    rcases hor with h | h
    · exact (htx a (hd a h.1).1).2.2
    · have := ho8 t ht
      rw [h]
      unfold stepE
      dsimp only
      rw [if_neg (by omega), if_neg (by omega)]
  have hdone := beh_done ho8 hd3
  refine ⟨beh_ok hd3 hon hl60 hsE, fun x y hx hy => ?_, hcount, seesOk_of on g hon hmem hup, hlen2, hlen⟩
  rw [Bool.eq_iff_iff]
  constructor
  · intro h
    have hg1 := beh_up hd3 hon x y h
    obtain ⟨a, b, hs, hc, ha, hb⟩ := graphF_iff.1 h
    rw [hdone] at hs
    have hsub : ∀ a ∈ on.flatMap (ofTx (doneF l)), a ∈ doneF l := fun a ha => by
      obtain ⟨t, _, h⟩ := List.mem_flatMap.1 ha
      exact (mem_ofTx.1 h).1
    have hne : a ≠ b := fun e => (clashB_iff.1 hc).1 (by rw [e])
    rcases pair_or (hsub a (hs.subset (by simp))) (hsub b (hs.subset (by simp))) hne with h1 | h1
    · exact graphF_iff.2 ⟨a, b, h1, hc, ha, hb⟩
    · have hc' : clashB b a = true := by
        obtain ⟨c1, c2, c3⟩ := clashB_iff.1 hc
        exact clashB_iff.2 ⟨fun e => c1 e.symm, c2.symm, c3.symm⟩
      have := hup y x (graphF_iff.2 ⟨b, a, h1, hc', hb, ha⟩)
      omega
  · intro h
    have hg1 := hup x y h
    obtain ⟨a, b, hs, hc, ha, hb⟩ := graphF_iff.1 h
    have ma := hs.subset (show a ∈ [a, b] by simp)
    have mb := hs.subset (show b ∈ [a, b] by simp)
    obtain ⟨_, _, t, ht, hat⟩ := hd a ma
    obtain ⟨_, _, u, hu, hbu⟩ := hd b mb
    obtain rfl : t = x := by omega
    obtain rfl : u = y := by omega
    refine graphF_iff.2 ⟨a, b, ?_, hc, ha, hb⟩
    rw [hdone]
    have hpo : [t, u].Sublist on := by
      rcases pair_or ht hu (fun e => by subst e; omega) with h1 | h1
      · exact h1
      · have := List.pairwise_iff_forall_sublist.1 hon h1
        omega
    refine List.Sublist.trans ?_ (sub_flatMap (ofTx (doneF l)) hpo)
    show ([a] ++ [b]).Sublist (ofTx (doneF l) t ++ (ofTx (doneF l) u ++ []))
    rw [List.append_nil]
    exact List.Sublist.append (List.singleton_sublist.2 (mem_ofTx.2 ⟨ma, hat⟩)) (List.singleton_sublist.2 (mem_ofTx.2 ⟨mb, hbu⟩))
end Go.Proofs.YtgkmlnbnjbpodaaDoor
