/- mvcc: plain: what holds of a base whatever it was asked. -/
import Derived.Test.YtlnjmkldpicpdaaDoorMvc14
namespace Go.Proofs.YtlnjmkldpicpdaaDoor
open Go.RowKit
set_option linter.unusedVariables false
set_option linter.unusedSimpArgs false
theorem lastF_snoc (s : Bs) (l : List Nat) (j : Nat) (t : Int) : lastF s (l ++ [j]) t = if (txAt s j).com < t then some j else lastF s l t := by
  unfold lastF
  rw [List.reverse_append, List.reverse_cons, List.reverse_nil, List.nil_append, List.cons_append, List.nil_append, List.find?_cons]
  by_cases h : (txAt s j).com < t
  · simp [h]
  · simp [h]
theorem find_congr {p q : Nat → Bool} : ∀ (l : List Nat), (∀ x ∈ l, p x = q x) → l.find? p = l.find? q
  | [], _ => rfl
  | a :: l, h => by
    rw [List.find?_cons, List.find?_cons, h a (by simp), find_congr l fun x hx => h x (by simp [hx])]
theorem lastF_congr {s s' : Bs} {l : List Nat} {t : Int} (h : ∀ x ∈ l, (txAt s' x).com = (txAt s x).com) : lastF s' l t = lastF s l t :=
  find_congr _ fun x hx => by rw [h x (by simpa using hx)]
theorem lastF_hit {s : Bs} {l : List Nat} {t : Int} {x : Nat} (h : lastF s l t = some x) : x ∈ l ∧ (txAt s x).com < t := by
  have h1 := List.find?_some h
  have h2 := List.mem_of_find?_eq_some h
  exact ⟨by simpa using h2, by simpa using h1⟩
theorem versF_snoc (l : List IOp) (o : IOp) (key : Int) : versF l key ≤ versF (l ++ [o]) key := by
  unfold versF
  rw [List.filter_append, List.length_append]
  omega
theorem versF_pos {l : List IOp} {key : Int} : 0 < versF l key ↔ ∃ o ∈ l, o.write = true ∧ o.key = key := by
  unfold versF
  rw [List.length_pos_iff_exists_mem]
  constructor
  · rintro ⟨o, ho⟩
    obtain ⟨h1, h2⟩ := List.mem_filter.1 ho
    exact ⟨o, h1, by simpa using h2⟩
  · rintro ⟨o, h1, h2⟩
    exact ⟨o, List.mem_filter.2 ⟨h1, by simpa using h2⟩⟩
structure ROk (s : Bs) (i : Nat) (o : IOp) : Prop where
  key : 0 ≤ o.key ∧ o.key < 8
  wr : o.write = true → o.src = 0 ∧ o.num = 0
  rd : o.write = false → (o.src = (i : Int) ∧ 0 ≤ o.num ∧ o.num < (versF (txAt s i).ops o.key : Int)) ∨
    (∃ x, lastF s (bOrd s o.key.toNat) (txAt s i).beg = some x ∧ o.src = (x : Int) ∧ o.num = (versF (txAt s x).ops o.key : Int) - 1) ∨
    (lastF s (bOrd s o.key.toNat) (txAt s i).beg = none ∧ o.src = -1 ∧ o.num = 0)
structure Sane (s : Bs) : Prop where
  olen : s.order.length = 8
  time0 : 0 ≤ s.time
  beg : ∀ i, i < s.txs.length → (txAt s i).beg = -1 ∨ (1 ≤ (txAt s i).beg ∧ (txAt s i).beg ≤ s.time)
  com : ∀ i, i < s.txs.length → (txAt s i).com = -1 ∨ (1 ≤ (txAt s i).com ∧ (txAt s i).com ≤ s.time ∧ (txAt s i).over = true ∧ (txAt s i).beg ≠ -1 ∧ (txAt s i).beg < (txAt s i).com)
  ne : ∀ i k, i < s.txs.length → k < s.txs.length → (txAt s i).com ≠ -1 → (txAt s i).com ≠ (txAt s k).beg
  none : ∀ i, i < s.txs.length → (txAt s i).beg = -1 → (txAt s i).ops = []
  mem : ∀ k x : Nat, k < 8 → (x ∈ bOrd s k ↔ x < s.txs.length ∧ (txAt s x).com ≠ -1 ∧ 0 < versF (txAt s x).ops (k : Int))
  first : ∀ k, k < 8 → (bOrd s k).Pairwise fun x y => (txAt s x).com < (txAt s y).beg
  ops : ∀ i, i < s.txs.length → ∀ o ∈ (txAt s i).ops, ROk s i o
theorem Sane.free {s : Bs} (h : Sane s) {i : Nat} (hi : i < s.txs.length) (ho : (txAt s i).over = false) : (txAt s i).com = -1 := by
  rcases h.com i hi with h1 | ⟨_, _, h1, _⟩
  · exact h1
  · rw [ho] at h1; cases h1
theorem Sane.upd {s s' : Bs} (h : Sane s) {i : Nat} (hi : i < s.txs.length) (hov : (txAt s i).over = false) (hl : s'.txs.length = s.txs.length) (ho : s'.order = s.order) (ht : s'.time = s.time + 1)
    (htx : ∀ k, k ≠ i → txAt s' k = txAt s k) (hcom : (txAt s' i).com = -1) (hb : (txAt s' i).beg = (txAt s i).beg ∨ ((txAt s i).beg = -1 ∧ (txAt s' i).beg = s.time + 1))
    (hops : (txAt s' i).ops = (txAt s i).ops ∨ ((txAt s i).beg ≠ -1 ∧ ∃ o, (txAt s' i).ops = (txAt s i).ops ++ [o] ∧ ROk s i o)) : Sane s' := by
  have hci := h.free hi hov
  have hord : ∀ k, bOrd s' k = bOrd s k := fun k => by unfold bOrd; rw [ho]
  have hne : ∀ k x, k < 8 → x ∈ bOrd s k → x ≠ i := fun k x hk hx he => by
    subst he
    exact ((h.mem k x hk).1 hx).2.1 hci
  have hlast : ∀ k t, k < 8 → lastF s' (bOrd s' k) t = lastF s (bOrd s k) t := fun k t hk => by
    rw [hord]
    exact lastF_congr fun x hx => by rw [htx x (hne k x hk hx)]
  have hver : ∀ k : Int, versF (txAt s i).ops k ≤ versF (txAt s' i).ops k := fun k => by
    rcases hops with e | ⟨_, o, e, _⟩
    · rw [e]; exact Nat.le_refl _
    · rw [e]; exact versF_snoc ..
  have t0 := h.time0
  have htr : ∀ j, (txAt s' j).beg = (txAt s j).beg → ∀ o, ROk s j o → ROk s' j o := fun j hbj o hq => by
    have hk8 : o.key.toNat < 8 := by have := hq.key; omega
    refine ⟨hq.key, hq.wr, fun hw => ?_⟩
    rw [hbj, hlast _ _ hk8]
    rcases hq.rd hw with ⟨q1, q2, q3⟩ | ⟨x, q1, q2, q3⟩ | q
    · refine .inl ⟨q1, q2, ?_⟩
      by_cases hji : j = i
      · subst hji; have := hver o.key; omega
      · rw [htx j hji]; exact q3
    · refine .inr (.inl ⟨x, q1, q2, ?_⟩)
      rw [htx x (hne _ x hk8 (lastF_hit q1).1)]; exact q3
    · exact .inr (.inr q)
  refine ⟨by rw [ho]; exact h.olen, by omega, fun j hj => ?_, fun j hj => ?_, fun j k hj hk hc => ?_, fun j hj hbj => ?_, fun k x hk => ?_, fun k hk => ?_, fun j hj o hoj => ?_⟩
  · rw [hl] at hj
    by_cases hji : j = i
    · subst hji
      rcases hb with e | ⟨_, e⟩
      · rw [e]; have := h.beg j hj; omega
      · rw [e]; omega
    · rw [htx j hji]; have := h.beg j hj; omega
  · rw [hl] at hj
    by_cases hji : j = i
    · subst hji; exact .inl hcom
    · rw [htx j hji]
      rcases h.com j hj with e | ⟨e1, e2, e3, e4, e5⟩
      · exact .inl e
      · exact .inr ⟨e1, by omega, e3, e4, e5⟩
  · rw [hl] at hj hk
    by_cases hji : j = i
    · subst hji; exact absurd hcom hc
    · rw [htx j hji] at hc ⊢
      by_cases hki : k = i
      · subst hki
        rcases hb with e | ⟨_, e⟩
        · rw [e]; exact h.ne j k hj hk hc
        · rw [e]
          rcases h.com j hj with e1 | ⟨_, e2, _⟩
          · exact absurd e1 hc
          · omega
      · rw [htx k hki]; exact h.ne j k hj hk hc
  · rw [hl] at hj
    by_cases hji : j = i
    · subst hji
      rcases hb with e | ⟨_, e⟩
      · rw [e] at hbj
        rcases hops with e2 | ⟨e2, _⟩
        · rw [e2]; exact h.none j hj hbj
        · exact absurd hbj e2
      · omega
    · rw [htx j hji] at hbj ⊢; exact h.none j hj hbj
  · rw [hord, hl, h.mem k x hk]
    by_cases hxi : x = i
    · subst hxi
      rw [hcom, hci]; simp
    · rw [htx x hxi]
  · rw [hord]
    refine (h.first k hk).imp_of_mem fun {x y} hx hy hxy => ?_
    rw [htx x (hne k x hk hx), htx y (hne k y hk hy)]; exact hxy
  · rw [hl] at hj
    by_cases hji : j = i
    · subst hji
      have hbe : (txAt s j).ops ≠ [] → (txAt s' j).beg = (txAt s j).beg := fun hne => by
        rcases hb with e | ⟨e, _⟩
        · exact e
        · exact absurd (h.none j hj e) hne
      rcases hops with e | ⟨hb1, o1, e, hok⟩
      · rw [e] at hoj
        exact htr j (hbe (List.ne_nil_of_mem hoj)) o (h.ops j hj o hoj)
      · have hbb : (txAt s' j).beg = (txAt s j).beg := by
          rcases hb with e | ⟨e, _⟩
          · exact e
          · exact absurd e hb1
        rw [e] at hoj
        rcases List.mem_append.1 hoj with h1 | h1
        · exact htr j hbb o (h.ops j hj o h1)
        · rw [List.mem_singleton.1 h1]; exact htr j hbb o1 hok
    · rw [htx j hji] at hoj
      exact htr j (by rw [htx j hji]) o (h.ops j hj o hoj)
theorem Sane.commit {s s' : Bs} (h : Sane s) {i : Nat} (hi : i < s.txs.length) (hov : (txAt s i).over = false) (hbi : (txAt s i).beg ≠ -1) (hl : s'.txs.length = s.txs.length) (hol : s'.order.length = 8) (ht : s'.time = s.time + 1)
    (htx : ∀ k, k ≠ i → txAt s' k = txAt s k) (hti : txAt s' i = ⟨(txAt s i).ops, (txAt s i).beg, s.time + 1, true⟩)
    (ho : ∀ k : Nat, k < 8 → bOrd s' k = if 0 < versF (txAt s i).ops (k : Int) then bOrd s k ++ [i] else bOrd s k)
    (hbeat : ∀ k, k < s.txs.length → k ≠ i → (txAt s k).com ≠ -1 → ¬ (txAt s k).com < (txAt s i).beg → ∀ o ∈ (txAt s i).ops, o.write = true → versF (txAt s k).ops o.key = 0) : Sane s' := by
  have hci := h.free hi hov
  have t0 := h.time0
  have hne : ∀ k x, k < 8 → x ∈ bOrd s k → x ≠ i := fun k x hk hx he => by
    subst he
    exact ((h.mem k x hk).1 hx).2.1 hci
  have hbeg : ∀ j, (txAt s' j).beg = (txAt s j).beg := fun j => by
    by_cases hji : j = i
    · subst hji; rw [hti]
    · rw [htx j hji]
  have hops : ∀ j, (txAt s' j).ops = (txAt s j).ops := fun j => by
    by_cases hji : j = i
    · subst hji; rw [hti]
    · rw [htx j hji]
  have hble : ∀ j, j < s.txs.length → (txAt s j).beg ≤ s.time := fun j hj => by rcases h.beg j hj with e | e <;> omega
  have hlast : ∀ j k, j < s.txs.length → k < 8 → lastF s' (bOrd s' k) (txAt s j).beg = lastF s (bOrd s k) (txAt s j).beg := fun j k hj hk => by
    have e : lastF s' (bOrd s k) (txAt s j).beg = lastF s (bOrd s k) (txAt s j).beg := lastF_congr fun x hx => by rw [htx x (hne k x hk hx)]
    rw [ho k hk]
    split
    · rw [lastF_snoc, if_neg, e]
      rw [hti]; have := hble j hj; show ¬ s.time + 1 < _; omega
    · exact e
  refine ⟨hol, by omega, fun j hj => ?_, fun j hj => ?_, fun j k hj hk hc => ?_, fun j hj hbj => ?_, fun k x hk => ?_, fun k hk => ?_, fun j hj o hoj => ?_⟩
  · rw [hl] at hj; rw [hbeg]; have := h.beg j hj; omega
  · rw [hl] at hj
    by_cases hji : j = i
    · subst hji
      rw [hti]
      have := hble j hj
      exact .inr ⟨by show 1 ≤ s.time + 1; omega, by show s.time + 1 ≤ s'.time; omega, rfl, hbi, by show (txAt s j).beg < s.time + 1; omega⟩
    · rw [htx j hji]
      rcases h.com j hj with e | ⟨e1, e2, e3, e4, e5⟩
      · exact .inl e
      · exact .inr ⟨e1, by omega, e3, e4, e5⟩
  · rw [hl] at hj hk
    rw [hbeg]
    by_cases hji : j = i
    · subst hji
      rw [hti]
      have := hble k hk
      show s.time + 1 ≠ _
      omega
    · rw [htx j hji] at hc ⊢; exact h.ne j k hj hk hc
  · rw [hl] at hj; rw [hbeg] at hbj; rw [hops]; exact h.none j hj hbj
  · rw [hl, hops]
    have hm := h.mem k x hk
    rw [ho k hk]
    by_cases hxi : x = i
    · subst hxi
      have hc' : (txAt s' x).com ≠ -1 := by rw [hti]; show s.time + 1 ≠ -1; omega
      by_cases hv : 0 < versF (txAt s x).ops (k : Int)
      · rw [if_pos hv]; simp [hi, hc', hv]
      · rw [if_neg hv, hm]; simp [hv]
    · rw [htx x hxi]
      split
      · rw [List.mem_append, hm]; simp [hxi]
      · exact hm
  · have e : (bOrd s k).Pairwise fun x y => (txAt s' x).com < (txAt s' y).beg := (h.first k hk).imp_of_mem fun {x y} hx hy hxy => by
      rw [htx x (hne k x hk hx), hbeg]; exact hxy
    rw [ho k hk]
    split
    · rename_i hv
      refine List.pairwise_append.2 ⟨e, List.pairwise_singleton .., fun x hx y hy => ?_⟩
      rw [List.mem_singleton.1 hy, hbeg, htx x (hne k x hk hx)]
      obtain ⟨q1, q2, q3⟩ := (h.mem k x hk).1 hx
      obtain ⟨o, ho1, ho2, ho3⟩ := versF_pos.1 hv
      refine Classical.byContradiction fun hn => ?_
      have := hbeat x q1 (hne k x hk hx) q2 hn o ho1 ho2
      rw [ho3] at this
      omega
    · exact e
  · rw [hl] at hj
    rw [hops] at hoj
    have hq := h.ops j hj o hoj
    have hk8 : o.key.toNat < 8 := by have := hq.key; omega
    refine ⟨hq.key, hq.wr, fun hw => ?_⟩
    rw [hbeg, hlast j _ hj hk8, hops]
    rcases hq.rd hw with q | ⟨x, q1, q2, q3⟩ | q
    · exact .inl q
    · exact .inr (.inl ⟨x, q1, q2, by rw [hops]; exact q3⟩)
    · exact .inr (.inr q)
theorem Sane.notick {s : Bs} {i : Nat} {t : Mx} (h : Sane s) (hi : i < s.txs.length) (hov : (txAt s i).over = false) (hcom : t.com = -1) (hb : t.beg = (txAt s i).beg ∨ ((txAt s i).beg = -1 ∧ t.beg = s.time + 1))
    (hops : t.ops = (txAt s i).ops ∨ ((txAt s i).beg ≠ -1 ∧ ∃ o, t.ops = (txAt s i).ops ++ [o] ∧ ROk s i o)) : Sane (setTx (tick s) i t) := by
  have e : txAt (setTx (tick s) i t) i = t := by rw [txAt_set (s := tick s) hi, if_pos rfl]
  refine h.upd hi hov (setTx_len ..) rfl rfl (fun k hk => by rw [txAt_set (s := tick s) hi, if_neg hk]; rfl) ?_ ?_ ?_
  · rw [e]; exact hcom
  · rw [e]; exact hb
  · rw [e]; exact hops
theorem setTx_two (s : Bs) (i : Nat) (t u : Mx) : setTx (setTx s i t) i u = setTx s i u := by simp [setTx]
theorem readF_ok {s : Bs} (h : Sane s) {i key : Nat} (hi : i < s.txs.length) (hk : key < 8) : ROk s i (readF s i key) := by
  unfold readF
  by_cases hv : 0 < versF (txAt s i).ops (key : Int)
  · rw [if_pos hv]
    refine ⟨⟨by show (0 : Int) ≤ key; omega, by show (key : Int) < 8; omega⟩, by simp, fun _ => .inl ⟨rfl, ?_, ?_⟩⟩
    · show (0 : Int) ≤ (versF (txAt s i).ops (key : Int) : Int) - 1; omega
    · show (versF (txAt s i).ops (key : Int) : Int) - 1 < (versF (txAt s i).ops (key : Int) : Int); omega
  · rw [if_neg hv]
    cases hl : lastF s (bOrd s key) (txAt s i).beg with
    | none => exact ⟨⟨by show (0 : Int) ≤ key; omega, by show (key : Int) < 8; omega⟩, by simp, fun _ => .inr (.inr ⟨hl, rfl, rfl⟩)⟩
    | some x => exact ⟨⟨by show (0 : Int) ≤ key; omega, by show (key : Int) < 8; omega⟩, by simp, fun _ => .inr (.inl ⟨x, hl, rfl, rfl⟩)⟩
theorem commit_cases (s : Bs) {i : Nat} (hi : i < s.txs.length) (hc : (txAt s i).com = -1) :
    ((commitF s i).1 = setTx s i (overT (txAt s i))) ∨
    (∃ s2, s2 = setTx s i ⟨(txAt s i).ops, (txAt s i).beg, s.time, true⟩ ∧ beatenF (setTx s i (overT (txAt s i))) i = false ∧ (s.careful = true → roundF s2 i = false) ∧ (commitF s i).1 = ordTo s2 i 8) := by
  have e1 : txAt (setTx s i (overT (txAt s i))) i = overT (txAt s i) := by rw [txAt_set hi, if_pos rfl]
  have e2 : setTx (setTx s i (overT (txAt s i))) i (comT (overT (txAt s i)) s.time) = setTx s i ⟨(txAt s i).ops, (txAt s i).beg, s.time, true⟩ := by rw [setTx_two]; rfl
  unfold commitF
  dsimp only
  rw [e1, e2]
  by_cases hb : beatenF (setTx s i (overT (txAt s i))) i = true
  · rw [if_pos hb]; exact .inl rfl
  · rw [if_neg hb]
    by_cases hr : (s.careful && roundF (setTx s i ⟨(txAt s i).ops, (txAt s i).beg, s.time, true⟩) i) = true
    · left
      rw [if_pos hr, txAt_set hi, if_pos rfl, setTx_two]
      show setTx s i ⟨(txAt s i).ops, (txAt s i).beg, -1, true⟩ = setTx s i ⟨(txAt s i).ops, (txAt s i).beg, (txAt s i).com, true⟩
      rw [hc]
    · right
      rw [if_neg hr]
      refine ⟨_, rfl, by simpa using hb, fun hcar => ?_, rfl⟩
      rw [hcar, Bool.true_and] at hr
      simpa using hr
theorem Sane.do {s : Bs} (h : Sane s) (tx kind key : Int) : Sane (doF s tx kind key).1 := by
  unfold doF
  by_cases hok : OkAsk s tx kind key
  · rw [if_pos hok]
    have hi : tx.toNat < s.txs.length := by have := hok.htx; omega
    have hov := hok.hover
    have hci := h.free hi hov
    have hk8 : key.toNat < 8 := by have := hok.hkey; omega
    have hk0 : 0 ≤ key := hok.hkey.1
    unfold actF
    by_cases k1 : kind = 1
    · rw [if_pos k1]
      exact h.notick hi hov hci (.inr ⟨hok.hbeg.1 k1, rfl⟩) (.inl rfl)
    · have hbn : (txAt s tx.toNat).beg ≠ -1 := fun e => k1 (hok.hbeg.2 e)
      rw [if_neg k1]
      by_cases k2 : kind = 2
      · rw [if_pos k2]
        exact h.notick hi hov hci (.inl rfl) (.inr ⟨hbn, _, rfl, readF_ok h hi hk8⟩)
      · rw [if_neg k2]
        by_cases k3 : kind = 3
        · rw [if_pos k3]
          exact h.notick hi hov hci (.inl rfl) (.inr ⟨hbn, _, rfl, ⟨by show 0 ≤ (key.toNat : Int); omega, by show (key.toNat : Int) < 8; omega⟩, fun _ => ⟨rfl, rfl⟩, fun h => by cases h⟩)
        · rw [if_neg k3]
          by_cases k4 : kind = 4
          · rw [if_pos k4]
            have hti : txAt (tick s) tx.toNat = txAt s tx.toNat := rfl
            rcases commit_cases (tick s) (i := tx.toNat) hi hci with e | ⟨s2, e2, hbt, hrd, e⟩
            · rw [e]
              exact h.notick hi hov hci (.inl rfl) (.inl rfl)
            · rw [e]
              have e3 : ∀ k, txAt s2 k = if k = tx.toNat then ⟨(txAt s tx.toNat).ops, (txAt s tx.toNat).beg, s.time + 1, true⟩ else txAt s k := fun k => by rw [e2, txAt_set (s := tick s) hi]; rfl
              refine h.commit (i := tx.toNat) hi hov hbn (by rw [e2]; exact setTx_len ..) (by simp [ordTo]) (by rw [e2]; rfl) (fun k hk => by show txAt s2 k = _; rw [e3, if_neg hk]) (by show txAt s2 _ = _; rw [e3, if_pos rfl]) (fun k hk => ?_) (fun k hk hki hck hcb o ho hw => ?_)
              · rw [ordAt_to hk, e3, if_pos rfl]
                have : bOrd s2 k = bOrd s k := by rw [e2]; rfl
                rw [this]
                by_cases hv : 0 < versF (txAt s tx.toNat).ops (k : Int)
                · rw [if_pos ⟨hk, hv⟩, if_pos hv]
                · rw [if_neg (fun h => hv h.2), if_neg hv]
              · unfold beatenF at hbt
                rw [setTx_len] at hbt
                have hb := List.any_eq_false.1 hbt k (List.mem_range.2 hk)
                unfold beatB at hb
                have e4 : ∀ k, txAt (setTx (tick s) tx.toNat (overT (txAt (tick s) tx.toNat))) k = if k = tx.toNat then overT (txAt s tx.toNat) else txAt s k := fun k => by rw [txAt_set (s := tick s) hi]; rfl
                rw [e4, e4, if_neg hki, if_pos rfl] at hb
                refine Classical.byContradiction fun hn => hb ?_
                have hany : ((overT (txAt s tx.toNat)).ops.any fun o => o.write && decide (0 < versF (txAt s k).ops o.key)) = true := List.any_eq_true.2 ⟨o, ho, by rw [hw]; simp; omega⟩
                rw [hany]
                have hcb' : ¬ (txAt s k).com < (overT (txAt s tx.toNat)).beg := hcb
                simp [hki, hck, hcb']
          · rw [if_neg k4]
            exact h.notick hi hov hci (.inl rfl) (.inl rfl)
  · rw [if_neg hok]; exact h
theorem Sane.new (n : Nat) (car : Bool) : Sane (newS n car) where
  olen := by simp [newS]
  time0 := Int.le_refl _
  beg := fun i hi => .inl (by rw [newS_tx (by simpa [newS] using hi)])
  com := fun i hi => .inl (by rw [newS_tx (by simpa [newS] using hi)])
  ne := fun i k hi _ hc => absurd (by rw [newS_tx (by simpa [newS] using hi)]) hc
  none := fun i hi _ => by rw [newS_tx (by simpa [newS] using hi)]
  mem := fun k x hk => by
    rw [newS_ord]
    constructor
    · intro h; cases h
    · rintro ⟨hx, hc, _⟩
      exact absurd (by rw [newS_tx (by simpa [newS] using hx)]) hc
  first := fun k hk => by rw [newS_ord]; exact .nil
  ops := fun i hi o ho => by rw [newS_tx (by simpa [newS] using hi)] at ho; cases ho
theorem Sane.run : ∀ (l : List Ask) {s : Bs}, Sane s → Sane (runA s l)
  | [], _, h => h
  | a :: l, s, h => Sane.run l (s := stepA s a) (h.do ..)
theorem doF_len (s : Bs) (tx kind key : Int) : (doF s tx kind key).1.txs.length = s.txs.length ∧ (doF s tx kind key).1.careful = s.careful := by
  unfold doF
  split
  · unfold actF
    repeat' split
    all_goals first | exact ⟨setTx_len .., rfl⟩ | skip
    unfold commitF
    dsimp only
    repeat' split
    all_goals simp [setTx, ordTo, tick]
  · exact ⟨rfl, rfl⟩
theorem runA_len : ∀ (l : List Ask) (s : Bs), (runA s l).txs.length = s.txs.length ∧ (runA s l).careful = s.careful
  | [], s => ⟨rfl, rfl⟩
  | a :: l, s => by
    have h1 := runA_len l (stepA s a)
    have h2 := doF_len s a.tx a.kind a.key
    exact ⟨h1.1.trans h2.1, h1.2.trans h2.2⟩
end Go.Proofs.YtlnjmkldpicpdaaDoor
