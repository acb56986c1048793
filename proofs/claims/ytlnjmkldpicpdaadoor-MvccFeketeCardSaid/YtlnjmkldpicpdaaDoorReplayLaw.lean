/- The plain law of IsolateReplay. -/
import Derived.Test.YtlnjmkldpicpdaaDoorLevelsLaw
namespace Go.Proofs.YtlnjmkldpicpdaaDoor

theorem idxOf_at {α : Type} [BEq α] [LawfulBEq α] : ∀ {l : List α} {i : Nat} {u : α}, l.Nodup → l[i]? = some u → l.idxOf u = i
  | [], i, u, _, h => by simp at h
  | a :: l, 0, u, _, h => by
    simp at h
    subst h
    simp
  | a :: l, i + 1, u, hn, h => by
    simp only [List.getElem?_cons_succ] at h
    have hm := List.mem_of_getElem? h
    have hne : a ≠ u := fun e => (List.nodup_cons.1 hn).1 (e ▸ hm)
    rw [List.idxOf_cons]
    have : (a == u) = false := by simp [hne]
    rw [this]
    simp [idxOf_at (List.nodup_cons.1 hn).2 h]
theorem filter_take {α : Type} (p : α → Bool) : ∀ (l : List α) (i : Nat) (x : α), (l.filter p)[i]? = some x → ∃ m, l[m]? = some x ∧ (l.filter p).take i = (l.take m).filter p
  | [], i, x, h => by simp at h
  | a :: l, i, x, h => by
    cases hp : p a with
    | false =>
      rw [List.filter_cons_of_neg (by simp [hp])] at h ⊢
      obtain ⟨m, h1, h2⟩ := filter_take p l i x h
      exact ⟨m + 1, h1, by rw [List.take_succ_cons, List.filter_cons_of_neg (by simp [hp]), h2]⟩
    | true =>
      rw [List.filter_cons_of_pos hp] at h ⊢
      cases i with
      | zero =>
        simp only [List.getElem?_cons_zero, Option.some.injEq] at h
        subst h
        exact ⟨0, rfl, by simp⟩
      | succ i =>
        simp only [List.getElem?_cons_succ] at h
        obtain ⟨m, h1, h2⟩ := filter_take p l i x h
        exact ⟨m + 1, h1, by rw [List.take_succ_cons, List.take_succ_cons, List.filter_cons_of_pos hp, h2]⟩

def writesK (t : List ITx) (k : Int) (x : Nat) : Bool := decide (0 < versF (opsAt t (x : Int)) k)
/-- Who wrote a key last. -/
def lastV (t : List ITx) (ws : List Nat) (k : Int) : Int := match (ws.filter (writesK t k)).getLast? with
  | some x => (x : Int)
  | none => -1
theorem lastV_snoc (t : List ITx) (ws : List Nat) (x : Nat) (k : Int) : lastV t (ws ++ [x]) k = if writesK t k x then (x : Int) else lastV t ws k := by
  unfold lastV
  rw [List.filter_append]
  cases h : writesK t k x <;> simp [h]

section
variable {t : List ITx} {g : List (List Int)} {l : List Nat} {n : Nat}
theorem over_of {k i : Nat} {L : List Int} {u v : Nat} (hL : g[k]? = some L) (h1 : L[i]? = some (u : Int)) (h2 : L[i + 1]? = some (v : Int)) : overF g u v = true := by
  unfold overF overB
  rw [List.any_eq_true]
  refine ⟨((u : Int), (v : Int)), List.mem_flatMap.2 ⟨L, List.mem_of_getElem? hL, List.mem_of_getElem? (pairsOf_get h1 h2)⟩, by simp⟩
theorem all_over {u v : Nat} (h : overF g u v = true) : allF t g u v = true := by simp [allF, orAll, h]
theorem all_seen {u v : Nat} (h : seenF t u v = true) : allF t g u v = true := by simp [allF, orAll, h]
theorem all_anew {u v : Nat} (h : anewF t g u v = true) : allF t g u v = true := by simp [allF, orAll, h]
theorem mem_evs {x : Nat} {o : IOp} (hx : x < t.length) (ho : o ∈ opsAt t (x : Int)) : (x, o) ∈ evsTo t t.length 0 := by
  unfold evsTo
  rw [List.take_zero, List.append_nil]
  exact List.mem_flatMap.2 ⟨x, List.mem_range.2 hx, List.mem_map.2 ⟨o, ho, rfl⟩⟩
theorem idxI_mem {L : List Int} {x : Int} (h : x ∈ L) : ∃ j : Nat, idxI L x = j ∧ L[j]? = some x := by
  unfold idxI
  cases hf : L.findIdx? (fun y => decide (y = x)) with
  | none =>
    rw [List.findIdx?_eq_none_iff] at hf
    have := hf x h
    simp at this
  | some j =>
    rw [List.findIdx?_eq_some_iff_getElem] at hf
    obtain ⟨hj, he, _⟩ := hf
    refine ⟨j, rfl, ?_⟩
    rw [List.getElem?_eq_getElem hj]
    simpa using he
theorem writer_in {k : Nat} {L : List Int} (hL : OrdOk t (k : Int) L) {u : Nat} (hu : u < t.length) (hw : writesF t (k : Int) (u : Int) = true) : (u : Int) ∈ L := by
  obtain ⟨⟨h1, h2⟩, h3⟩ := hL
  by_cases hm : (u : Int) ∈ L
  · exact hm
  · exfalso
    have hle := nodup_le ((u : Int) :: L) (((List.range t.length).filter fun i => writesF t (k : Int) (i : Nat)).map fun (i : Nat) => (i : Int)) (List.nodup_cons.2 ⟨hm, h2⟩) (fun y hy => by
      rcases List.mem_cons.1 hy with rfl | hy
      · exact List.mem_map.2 ⟨u, List.mem_filter.2 ⟨List.mem_range.2 hu, hw⟩, rfl⟩
      · obtain ⟨q1, q2, q3⟩ := h1 y hy
        refine List.mem_map.2 ⟨y.toNat, List.mem_filter.2 ⟨List.mem_range.2 (by omega), ?_⟩, by omega⟩
        rw [show ((y.toNat : Nat) : Int) = y by omega]
        exact q3)
    rw [List.length_cons, List.length_map, h3] at hle
    unfold cntW at hle
    omega

theorem replay_law (hok : StoryOk t g) (hl : orderF t.length (allF t g) = some l) (ha : abB t (evsTo t t.length 0) = false) (hb : beB t (evsTo t t.length 0) = false)
    {i x : Nat} {o : IOp} (hx : (keepF t l)[i]? = some x) (ho : o ∈ opsAt t (x : Int)) (hw : o.write = false) (hs : o.src ≠ (x : Int)) : o.src = lastV t ((keepF t l).take i) o.key := by
  obtain ⟨s1, s2, s3, s4⟩ := orderTo_spec _ l hl
  have full : ∀ u, u < t.length → u ∈ l := mem_of_full l s2 s3 s1
  have edge : ∀ u v, u < t.length → v < t.length → allF t g u v = true → l.idxOf u < l.idxOf v := fun u v hu hv he => by
    obtain ⟨j, hj⟩ := List.getElem?_of_mem (full v hv)
    obtain ⟨q, hq, hqu⟩ := s4 j v hj u hu he
    rw [idxOf_at s2 hj, idxOf_at s2 hqu]
    exact hq
  obtain ⟨m, hm, htk⟩ := filter_take _ l i x hx
  change (keepF t l).take i = keepF t (l.take m) at htk
  have hxm : x ∈ keepF t l := List.mem_of_getElem? hx
  have hcx : comAt t (x : Int) = true := (List.mem_filter.1 hxm).2
  have hxn : x < t.length := s3 x (List.mem_of_getElem? hm)
  have hpx : l.idxOf x = m := idxOf_at s2 hm
  have inTake : ∀ u, u < t.length → comAt t (u : Int) = true → (u ∈ (keepF t l).take i ↔ l.idxOf u < m) := fun u hu hc => by
    rw [htk]
    unfold keepF
    rw [List.mem_filter]
    constructor
    · rintro ⟨h1, _⟩
      obtain ⟨q, hq⟩ := List.getElem?_of_mem h1
      rw [List.getElem?_take] at hq
      split at hq
      · rw [idxOf_at s2 hq]; assumption
      · cases hq
    · intro h1
      obtain ⟨q, hq⟩ := List.getElem?_of_mem (full u hu)
      rw [idxOf_at s2 hq] at h1
      exact ⟨List.mem_of_getElem? (i := q) (by rw [List.getElem?_take, if_pos h1]; exact hq), hc⟩
  -- what the story says of this op
  have htx : ∃ y, t[x]? = some y ∧ o ∈ y.ops := by
    refine ⟨t[x], List.getElem?_eq_getElem hxn, ?_⟩
    have : opsAt t (x : Int) = t[x].ops := by simp [opsAt, List.getElem?_eq_getElem hxn]
    rwa [this] at ho
  obtain ⟨y, hy, hoy⟩ := htx
  obtain ⟨⟨k0, k1, k2, k3, k4⟩, _, _, kv⟩ := (hok.2.2.1 y (List.mem_of_getElem? hy)).2 o hoy
  obtain ⟨key, hkey⟩ : ∃ key : Nat, o.key = key := ⟨o.key.toNat, by omega⟩
  have hk8 : key < g.length := by have := hok.2.1; omega
  obtain ⟨L, hL⟩ : ∃ L, g[key]? = some L := ⟨_, List.getElem?_eq_getElem hk8⟩
  have hO : OrdOk t (key : Int) L := hok.2.2.2 key L hL
  have hordAt : ordAt g o.key = L := by simp [ordAt, hkey, hL]
  have hnat : ∀ y ∈ L, ∃ u : Nat, y = u ∧ u < t.length ∧ comAt t (u : Int) = true ∧ writesK t (key : Int) u = true := fun y hy => by
    obtain ⟨q1, q2, q3⟩ := hO.1.1 y hy
    refine ⟨y.toNat, by omega, by omega, ?_⟩
    rw [show ((y.toNat : Nat) : Int) = y by omega]
    unfold writesF at q3
    simp only [Bool.and_eq_true] at q3
    refine ⟨q3.1, ?_⟩
    unfold writesK
    rw [show ((y.toNat : Nat) : Int) = y by omega]
    exact q3.2
  -- along the order of a key
  have along : ∀ (d a : Nat) (u v : Nat), L[a]? = some (u : Int) → L[a + d + 1]? = some (v : Int) → l.idxOf u < l.idxOf v := by
    intro d
    induction d with
    | zero =>
      intro a u v h1 h2
      obtain ⟨u', e1, hu, _⟩ := hnat _ (List.mem_of_getElem? h1)
      obtain ⟨v', e2, hv, _⟩ := hnat _ (List.mem_of_getElem? h2)
      exact edge u v (by omega) (by omega) (all_over (over_of hL h1 h2))
    | succ d ih =>
      intro a u v h1 h2
      have hlt := (List.getElem?_eq_some_iff.1 h2).1
      obtain ⟨z, hz⟩ : ∃ z, L[a + 1]? = some z := ⟨_, List.getElem?_eq_getElem (by omega)⟩
      obtain ⟨z', rfl, hz1, _⟩ := hnat z (List.mem_of_getElem? hz)
      obtain ⟨u', e1, hu, _⟩ := hnat _ (List.mem_of_getElem? h1)
      have h3 := edge u z' (by omega) hz1 (all_over (over_of hL h1 hz))
      have h4 := ih (a + 1) z' v hz (by rw [show a + 1 + d + 1 = a + (d + 1) + 1 by omega]; exact h2)
      omega
  have hle : ∀ (a b : Nat) (u v : Nat), a ≤ b → L[a]? = some (u : Int) → L[b]? = some (v : Int) → l.idxOf u ≤ l.idxOf v := fun a b u v hab h1 h2 => by
    rcases Nat.lt_or_ge a b with hlt | hge
    · have := along (b - a - 1) a u v h1 (by rw [show a + (b - a - 1) + 1 = b by omega]; exact h2)
      omega
    · obtain rfl : a = b := by omega
      rw [h1] at h2
      injection h2 with h2
      have : u = v := by omega
      rw [this]; exact Nat.le_refl _
  -- a writer that has gone before
  have writer : ∀ u, u ∈ (keepF t l).take i → writesK t (key : Int) u = true → ∃ j, L[j]? = some (u : Int) ∧ l.idxOf u < m := fun u hu hwk => by
    have hmem : u ∈ keepF t l := List.mem_of_mem_take hu
    obtain ⟨h1, h2⟩ := List.mem_filter.1 hmem
    have hun := s3 u h1
    have hin := writer_in hO hun (by unfold writesF; rw [h2]; exact hwk)
    obtain ⟨j, hj⟩ := List.getElem?_of_mem hin
    exact ⟨j, hj, (inTake u hun h2).1 hu⟩
  -- whoever comes next in the key's order behind what is read, comes behind x
  have next : ∀ (z : Nat), L[behindOf g o]? = some (z : Int) → activeB t x o = true → z < t.length → ¬ l.idxOf z < m := fun z hz hact hzn hlt => by
    by_cases hzx : z = x
    · subst hzx; omega
    · have hne : (z : Int) ≠ (x : Int) := by omega
      have : anewF t g x z = true := by
        unfold anewF anewB
        rw [List.any_eq_true]
        refine ⟨(x, o), mem_evs hxn ho, ?_⟩
        rw [Bool.and_eq_true]
        refine ⟨hact, ?_⟩
        unfold anewC
        rw [hordAt, hz]
        simp [anewAt, hne]
      have := edge x z hxn hzn (all_anew this)
      omega
  rw [hkey]
  by_cases hsrc : o.src = -1
  · have hact : activeB t x o = true := by unfold activeB; rw [hcx, hw, hsrc]; rfl
    have hbeh : behindOf g o = 0 := by simp [behindOf, hsrc]
    rw [hbeh] at next
    have hnil : ((keepF t l).take i).filter (writesK t (key : Int)) = [] := by
      rw [List.filter_eq_nil_iff]
      intro u hu hwk
      obtain ⟨j, hj, hpos⟩ := writer u hu hwk
      have hlt := (List.getElem?_eq_some_iff.1 hj).1
      obtain ⟨z, hz⟩ : ∃ z, L[0]? = some z := ⟨_, List.getElem?_eq_getElem (by omega)⟩
      obtain ⟨z', rfl, hz1, _⟩ := hnat z (List.mem_of_getElem? hz)
      have h1 := hle 0 j z' u (by omega) hz hj
      exact next z' hz hact hz1 (by omega)
    rw [hsrc]
    unfold lastV
    rw [hnil]
    rfl
  · obtain ⟨s, hsn⟩ : ∃ s : Nat, o.src = s := ⟨o.src.toNat, by omega⟩
    have hst : s < t.length := by omega
    have hcon : conB t (x, o) = true := by
      unfold conB
      simp [hcx, hw, hsrc, hs]
    have hcs : comAt t (s : Int) = true := by
      unfold abB at ha
      rw [List.any_eq_false] at ha
      have := ha _ (mem_evs hxn ho)
      simp only [hcon, Bool.true_and, Bool.not_eq_true', Bool.not_eq_false] at this
      rw [← hsn]; exact this
    have hnum : o.num = versF (opsAt t o.src) o.key - 1 := by
      unfold beB at hb
      rw [List.any_eq_false] at hb
      have := hb _ (mem_evs hxn ho)
      simpa [hcon] using this
    have hver := kv hw hsrc
    have hwk : writesK t (key : Int) s = true := by
      unfold writesK
      rw [hsn, hkey] at hver
      simp
      omega
    have hact : activeB t x o = true := by
      unfold activeB
      rw [hcx, hw, hsn, hcs]
      simp
    have hseen : seenF t s x = true := by
      unfold seenF seenB
      rw [List.any_eq_true]
      refine ⟨(x, o), mem_evs hxn ho, ?_⟩
      rw [Bool.and_eq_true]
      refine ⟨hact, ?_⟩
      unfold seenC
      have h1 : o.src ≠ (x : Int) := hs
      simp only [Bool.and_eq_true, decide_eq_true_eq]
      exact ⟨⟨⟨⟨hsrc, h1⟩, hnum⟩, hsn⟩, trivial⟩
    have hposs : l.idxOf s < m := by
      have := edge s x hst hxn (all_seen hseen)
      omega
    have hsin : s ∈ (keepF t l).take i := (inTake s hst hcs).2 hposs
    obtain ⟨j, hj, _⟩ := writer s hsin hwk
    have hidx : behindOf g o = j + 1 := by
      have hjm : (s : Int) ∈ L := List.mem_of_getElem? hj
      obtain ⟨j', h1, h2⟩ := idxI_mem hjm
      have : j' = j := by
        have q1 := idxOf_at hO.1.2 h2
        have q2 := idxOf_at hO.1.2 hj
        omega
      unfold behindOf
      rw [if_neg hsrc, hordAt, hsn, h1, this]
      omega
    rw [hidx] at next
    have hmax : ∀ u, u ∈ (keepF t l).take i → writesK t (key : Int) u = true → l.idxOf u ≤ l.idxOf s := fun u hu huw => by
      obtain ⟨j', hj', hpos⟩ := writer u hu huw
      rcases Nat.lt_or_ge j j' with hlt | hge
      · exfalso
        have hlen := (List.getElem?_eq_some_iff.1 hj').1
        obtain ⟨z, hz⟩ : ∃ z, L[j + 1]? = some z := ⟨_, List.getElem?_eq_getElem (by omega)⟩
        obtain ⟨z', rfl, hz1, _⟩ := hnat z (List.mem_of_getElem? hz)
        have h1 := hle (j + 1) j' z' u hlt hz hj'
        exact next z' hz hact hz1 (by omega)
      · exact hle j' j u s hge hj' hj
    -- the last of them
    have hmem : s ∈ ((keepF t l).take i).filter (writesK t (key : Int)) := List.mem_filter.2 ⟨hsin, hwk⟩
    have hsub : List.Sublist (((keepF t l).take i).filter (writesK t (key : Int))) l := ((List.filter_sublist).trans (List.take_sublist ..)).trans List.filter_sublist
    rw [hsn]
    unfold lastV
    cases hg : (((keepF t l).take i).filter (writesK t (key : Int))).getLast? with
    | none =>
      rw [List.getLast?_eq_none_iff] at hg
      rw [hg] at hmem
      simp at hmem
    | some u =>
      simp only
      have humem : u ∈ ((keepF t l).take i).filter (writesK t (key : Int)) := List.mem_of_getLast? hg
      obtain ⟨hu1, hu2⟩ := List.mem_filter.1 humem
      have h1 := hmax u hu1 hu2
      have h2 : l.idxOf s ≤ l.idxOf u := by
        obtain ⟨ys, hys⟩ := List.getLast?_eq_some_iff.1 hg
        rw [hys] at hmem hsub
        rcases List.mem_append.1 hmem with hm1 | hm1
        · have hp : List.Pairwise (fun a b => l.idxOf a < l.idxOf b) l := by
            rw [List.pairwise_iff_getElem]
            intro a b hA hB hab
            rw [idxOf_at s2 (List.getElem?_eq_getElem hA), idxOf_at s2 (List.getElem?_eq_getElem hB)]
            exact hab
          have hp2 := hp.sublist hsub
          have := (List.pairwise_append.1 hp2).2.2 s hm1 u (by simp)
          omega
        · rw [List.mem_singleton.1 hm1]; exact Nat.le_refl _
      have hus : u = s := by
        have hun := s3 u (List.mem_filter.1 (List.mem_of_mem_take hu1)).1
        obtain ⟨a, hA⟩ := List.getElem?_of_mem (full u hun)
        obtain ⟨b, hB⟩ := List.getElem?_of_mem (full s hst)
        have e1 := idxOf_at s2 hA
        have e2 := idxOf_at s2 hB
        have : a = b := by omega
        rw [this, hB] at hA
        injection hA with hA
        exact hA.symm
      rw [hus]
end
end Go.Proofs.YtlnjmkldpicpdaaDoor
