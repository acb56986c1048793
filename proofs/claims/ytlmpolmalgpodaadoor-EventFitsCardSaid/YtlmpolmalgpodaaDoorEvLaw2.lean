/- What event.Ops makes may be; of a part of a history and of all of it: plain. Nothing of the program. -/
import Derived.Test.YtlmpolmalgpodaaDoorEvLaw
import Derived.Test.YtlmpolmalgpodaaDoorSrch4
namespace Go.Proofs.YtlmpolmalgpodaaDoor
set_option linter.unusedVariables false
set_option linter.unusedSimpArgs false
theorem keptF_mem {s : SeeS} {k n : Nat} : n ∈ keptF s k ↔ n < k ∧ goneAt s n = false := by
  unfold keptF goneAt
  rw [List.mem_filter, List.mem_range]
  simp
theorem keptF_sorted (s : SeeS) (k : Nat) : (keptF s k).Pairwise (· < ·) := List.Pairwise.filter _ List.pairwise_lt_range
/-- The number of the k-th op that is told. -/
def keptAt (s : SeeS) (k : Nat) : Nat := (keptF s s.ops.length).getD k 0
theorem outF_len (s : SeeS) : (outF s).length = (keptF s s.ops.length).length := by simp [outF]
theorem outF_at {s : SeeS} {k : Nat} (hk : k < (outF s).length) : oAt (outF s) k = oAt s.ops (keptAt s k) ∧ keptAt s k < s.ops.length ∧ goneAt s (keptAt s k) = false := by
  have hk' : k < (keptF s s.ops.length).length := by rw [← outF_len]; exact hk
  have e1 : keptAt s k = (keptF s s.ops.length)[k] := by unfold keptAt; rw [List.getD_eq_getElem?_getD, List.getElem?_eq_getElem hk']; rfl
  have hm := keptF_mem.1 (List.getElem_mem hk')
  rw [e1]
  refine ⟨?_, hm⟩
  unfold oAt outF
  rw [List.getD_eq_getElem?_getD, List.getElem?_map, List.getElem?_eq_getElem hk']
  rfl
theorem keptAt_lt {s : SeeS} {j k : Nat} (hjk : j < k) (hk : k < (outF s).length) : keptAt s j < keptAt s k := by
  rw [outF_len] at hk
  unfold keptAt
  rw [List.getD_eq_getElem?_getD, List.getD_eq_getElem?_getD, List.getElem?_eq_getElem hk, List.getElem?_eq_getElem (show j < (keptF s s.ops.length).length by omega)]
  exact List.pairwise_iff_getElem.1 (keptF_sorted s _) j k (by omega) hk hjk
theorem keptAt_onto {s : SeeS} {n : Nat} (hn : n < s.ops.length) (hg : goneAt s n = false) : ∃ k, k < (outF s).length ∧ keptAt s k = n := by
  obtain ⟨k, hk, he⟩ := List.getElem_of_mem (keptF_mem.2 ⟨hn, hg⟩)
  refine ⟨k, by rw [outF_len]; exact hk, ?_⟩
  unfold keptAt
  rw [List.getD_eq_getElem?_getD, List.getElem?_eq_getElem hk]
  exact he
theorem evOk_nums {e : Ev} (h : evOkB e = true) : (0 ≤ e.proc ∧ e.proc ≤ 7) ∧ (0 ≤ e.key ∧ e.key ≤ 7) ∧ (-1000000 ≤ e.a ∧ e.a ≤ 1000000) ∧ (-1000000 ≤ e.b ∧ e.b ≤ 1000000) ∧ (-1000000 ≤ e.res ∧ e.res ≤ 1000000) ∧ (1 ≤ e.kind ∧ e.kind ≤ 12) := by
  unfold evOkB toldB inB at h
  simp at h
  omega
theorem told_of {p k a b r c t : Int} (hp : 0 ≤ p ∧ p ≤ 7) (hk : 0 ≤ k ∧ k ≤ 7) (ha : -1000000 ≤ a ∧ a ≤ 1000000) (hb : -1000000 ≤ b ∧ b ≤ 1000000) (hr : -1000000 ≤ r ∧ r ≤ 1000000) (hc : -1000000 ≤ c ∧ c ≤ 1000000) (ht : -1000000 ≤ t ∧ t ≤ 1000000) : toldB p k [a, b, r, c, t] = true := by
  unfold toldB inB
  simp
  omega
/-- What is made of events may be. -/
theorem out_ok {l : List Ev} {s : SeeS} (h : SeeOk l l.length s) (hl : l.length ≤ 120) (h40 : (outF s).length ≤ 40) : OkOps (outF s) := by
  refine ⟨h40, fun k hk => ?_⟩
  obtain ⟨ek, hkn, hkg⟩ := outF_at hk
  obtain ⟨c, hc1, hc2, e, he, hty, hok, ep, eke, eki, ea, eb⟩ := h.called _ hkn
  have hnum := evOk_nums hok
  have hlen : ((outF s).take k).length = k := by simp; omega
  have hret : ((oAt s.ops (keptAt s k)).ret = -1 ∧ (oAt s.ops (keptAt s k)).res = 0) ∨ (0 ≤ (oAt s.ops (keptAt s k)).ret ∧ (oAt s.ops (keptAt s k)).ret < 120 ∧ (oAt s.ops (keptAt s k)).call < (oAt s.ops (keptAt s k)).ret ∧ (-1000000 ≤ (oAt s.ops (keptAt s k)).res ∧ (oAt s.ops (keptAt s k)).res ≤ 1000000)) := by
    rcases h.ret _ hkn with h1 | ⟨r, h1, h2, h3, _, e', _, _, h6, h7⟩
    · exact .inl h1
    · refine .inr ⟨by omega, by omega, by omega, ?_⟩
      have := evOk_nums h6
      rw [← h7]; omega
  have pr : ∀ j, j < k → oAt ((outF s).take k) j = oAt s.ops (keptAt s j) ∧ keptAt s j < keptAt s k ∧ goneAt s (keptAt s j) = false := fun j hj => by
    rw [oAt_take hj]
    obtain ⟨e1, _, e3⟩ := outF_at (s := s) (k := j) (by omega)
    exact ⟨e1, keptAt_lt hj hk, e3⟩
  rw [ek]
  refine ⟨?_, ?_, ⟨?_, ?_, ?_, ?_⟩, fun j hj => ?_, fun j hj hp => ?_⟩
  · rw [← ep, ← eke, ← ea, ← eb, hc2]
    refine told_of hnum.1 hnum.2.1 hnum.2.2.1 hnum.2.2.2.1 ?_ (by omega) ?_
    · rcases hret with h1 | h1
      · rw [h1.2]; omega
      · omega
    · rcases hret with h1 | h1
      · rw [h1.1]; omega
      · omega
  · rw [← eki]; unfold inB; simp; omega
  · rw [hc2]; omega
  · rw [hlen]
    rintro ⟨h0, h1⟩
    obtain ⟨e1, e2, _⟩ := pr (k - 1) (by omega)
    rw [e1] at h1
    have := h.rise _ _ e2 hkn
    omega
  · rintro ⟨h1, h2⟩
    rcases hret with h3 | h3
    · exact h1 h3.1
    · omega
  · rintro ⟨h1, h2⟩
    rcases hret with h3 | h3
    · exact h2 h3.2
    · omega
  · rw [hlen] at hj
    obtain ⟨e1, e2, e3⟩ := pr j hj
    rw [e1]
    obtain ⟨c', hc1', hc2', _⟩ := h.called _ (Nat.lt_trans e2 hkn)
    have hrise := h.rise _ _ e2 hkn
    refine ⟨?_, ?_⟩
    · rintro ⟨_, h1 | h1⟩
      · omega
      · rcases hret with h3 | h3
        · rw [h3.1] at h1; omega
        · omega
    · rintro ⟨h0, h1 | h1⟩
      · rcases h.ret _ (Nat.lt_trans e2 hkn) with h3 | ⟨r, h3, h4, h5, _, e', h6, h7, _⟩
        · exact h0 h3.1
        · rw [h4, hc2] at h1
          have : r = c := by omega
          subst this
          rw [he] at h6
          injection h6 with h6
          subst h6
          omega
      · refine h.once _ _ e2 hkn (fun hh => ?_) h1
        rw [hh] at h1; exact h0 h1
  · rw [hlen] at hj
    obtain ⟨e1, e2, e3⟩ := pr j hj
    rw [e1] at hp ⊢
    obtain ⟨h1, h2⟩ := h.order _ _ e2 hkn hp e3
    unfold befB
    simp [h1, h2]
/-- Where each op is called. -/
theorem out_called {l : List Ev} {s : SeeS} (h : SeeOk l l.length s) {k : Nat} (hk : k < (outF s).length) : ∃ c : Nat, c < l.length ∧ (oAt (outF s) k).call = c ∧ (oAt (outF s) k).ret < l.length ∧ ∃ e, l[c]? = some e ∧ e.ty = 1 ∧ e.proc = (oAt (outF s) k).proc ∧ e.key = (oAt (outF s) k).key ∧ e.kind = (oAt (outF s) k).kind ∧ e.a = (oAt (outF s) k).a ∧ e.b = (oAt (outF s) k).b := by
  obtain ⟨ek, hkn, hkg⟩ := outF_at hk
  obtain ⟨c, hc1, hc2, e, he, hty, hok, h3⟩ := h.called _ hkn
  rw [ek]
  refine ⟨c, hc1, hc2, ?_, e, he, hty, h3⟩
  rcases h.ret _ hkn with h1 | ⟨r, h1, h2, _⟩
  · rw [h1.1]; omega
  · rw [h2]; omega

/-! ### A part of a history -/
structure Later (cut : Nat) (s1 s2 : SeeS) : Prop where
  len : s1.ops.length ≤ s2.ops.length
  same : ∀ n, n < s1.ops.length → (oAt s2.ops n).key = (oAt s1.ops n).key ∧ (oAt s2.ops n).kind = (oAt s1.ops n).kind ∧ (oAt s2.ops n).a = (oAt s1.ops n).a ∧ (oAt s2.ops n).b = (oAt s1.ops n).b ∧ (oAt s2.ops n).call = (oAt s1.ops n).call
  done : ∀ n, n < s1.ops.length → (oAt s1.ops n).ret ≠ -1 → (oAt s2.ops n).ret = (oAt s1.ops n).ret ∧ (oAt s2.ops n).res = (oAt s1.ops n).res ∧ goneAt s2 n = goneAt s1 n
  gone : ∀ n, goneAt s1 n = true → goneAt s2 n = true
  late : ∀ n, s1.ops.length ≤ n → n < s2.ops.length → (cut : Int) ≤ (oAt s2.ops n).call
theorem Later.refl (cut : Nat) (s : SeeS) : Later cut s s := ⟨Nat.le_refl _, fun _ _ => ⟨rfl, rfl, rfl, rfl, rfl⟩, fun _ _ _ => ⟨rfl, rfl, rfl⟩, fun _ h => h, fun n h1 h2 => by omega⟩
theorem later_step {l : List Ev} {cut i : Nat} {s1 s s' : SeeS} {e : Ev} (hL : Later cut s1 s) (h : SeeOk l i s) (hi : cut ≤ i) (hs : stepE e i s = some s') : Later cut s1 s' := by
  unfold stepE at hs
  split at hs
  rotate_left
  · cases hs
  split at hs
  · -- begins
    unfold beginF at hs
    split at hs
    · cases hs
    injection hs with hs
    subst hs
    have hgs : ∀ n, goneAt ⟨s.ops ++ [newOp e i], updI s.busy e.proc (some s.ops.length), s.lost, s.gone ++ [false]⟩ n = goneAt s n := fun n => goneAt_app h.glen
    have hle := hL.len
    refine ⟨by simp; omega, fun n hn => ?_, fun n hn hr => ?_, fun n hg => ?_, fun n h1 h2 => ?_⟩
    · simp only [oAt_app_l (show n < s.ops.length by omega)]; exact hL.same n hn
    · rw [hgs]; simp only [oAt_app_l (show n < s.ops.length by omega)]; exact hL.done n hn hr
    · rw [hgs]; exact hL.gone n hg
    · simp only [List.length_append, List.length_singleton] at h2
      rcases Nat.lt_or_ge n s.ops.length with h3 | h3
      · simp only [oAt_app_l h3]; exact hL.late n h1 h3
      · obtain rfl : n = s.ops.length := by omega
        simp only [oAt_app_r]
        show (cut : Int) ≤ (i : Int)
        omega
  · unfold endF at hs
    split at hs
    · cases hs
    rename_i n hb
    split at hs
    rotate_left
    · cases hs
    injection hs with hs
    subst hs
    obtain ⟨hn, hnp, hnr, hng, hnl⟩ := h.busy e.proc n hb
    have hng' : n < s.gone.length := by rw [h.glen]; exact hn
    have hle := hL.len
    have olen : (if e.ty = 2 then s.ops.set n (endOp (oAt s.ops n) e i) else s.ops).length = s.ops.length := by split <;> simp
    have oat : ∀ m, m ≠ n → oAt (if e.ty = 2 then s.ops.set n (endOp (oAt s.ops n) e i) else s.ops) m = oAt s.ops m := by
      intro m hm
      split
      · rw [oAt_setE hn, if_neg (Ne.symm hm)]
      · rfl
    have oan : (oAt (if e.ty = 2 then s.ops.set n (endOp (oAt s.ops n) e i) else s.ops) n).key = (oAt s.ops n).key ∧ (oAt (if e.ty = 2 then s.ops.set n (endOp (oAt s.ops n) e i) else s.ops) n).kind = (oAt s.ops n).kind ∧ (oAt (if e.ty = 2 then s.ops.set n (endOp (oAt s.ops n) e i) else s.ops) n).a = (oAt s.ops n).a ∧ (oAt (if e.ty = 2 then s.ops.set n (endOp (oAt s.ops n) e i) else s.ops) n).b = (oAt s.ops n).b ∧ (oAt (if e.ty = 2 then s.ops.set n (endOp (oAt s.ops n) e i) else s.ops) n).call = (oAt s.ops n).call := by
      split
      · rw [oAt_setE hn, if_pos rfl]; exact ⟨rfl, rfl, rfl, rfl, rfl⟩
      · exact ⟨rfl, rfl, rfl, rfl, rfl⟩
    have gat : ∀ m, m ≠ n → (if e.ty = 3 then s.gone.set n true else s.gone).getD m false = goneAt s m := by
      intro m hm
      split
      · rw [goneAt_set hng', if_neg (Ne.symm hm)]
      · rfl
    generalize (if e.ty = 2 then s.ops.set n (endOp (oAt s.ops n) e i) else s.ops) = O at olen oat oan ⊢
    have hgt : ∀ m, goneAt s m = true → (if e.ty = 3 then s.gone.set n true else s.gone).getD m false = true := by
      intro m hm
      split
      · rw [goneAt_set hng']; split
        · rfl
        · exact hm
      · exact hm
    generalize (if e.ty = 3 then s.gone.set n true else s.gone) = G at gat hgt ⊢
    have hgG : ∀ Lo m, goneAt ⟨O, updI s.busy e.proc none, Lo, G⟩ m = G.getD m false := fun _ _ => rfl
    refine ⟨by show s1.ops.length ≤ O.length; omega, fun m hm => ?_, fun m hm hr => ?_, fun m hg => ?_, fun m h1 h2 => ?_⟩
    · simp only
      by_cases hmn : m = n
      · subst hmn
        obtain ⟨a1, a2, a3, a4, a5⟩ := oan
        rw [a1, a2, a3, a4, a5]; exact hL.same m hm
      · rw [oat m hmn]; exact hL.same m hm
    · have hmn : m ≠ n := fun hh => by
        subst hh
        have := (hL.done m hm hr).1
        rw [hnr] at this
        exact hr this.symm
      rw [hgG, gat m hmn]
      simp only [oat m hmn]
      exact hL.done m hm hr
    · rw [hgG]; exact hgt m (hL.gone m hg)
    · simp only at h2 ⊢
      rw [olen] at h2
      by_cases hmn : m = n
      · subst hmn
        rw [oan.2.2.2.2]; exact hL.late m h1 h2
      · rw [oat m hmn]; exact hL.late m h1 h2
theorem later_run {l : List Ev} {cut : Nat} {s1 : SeeS} : ∀ (r : List Ev) (i : Nat) (s s' : SeeS), l.drop i = r → SeeOk l i s → Later cut s1 s → cut ≤ i → runE r i s = some s' → Later cut s1 s'
  | [], i, s, s', _, _, hL, _, hr => by
    simp only [runE, Option.some.injEq] at hr
    subst hr
    exact hL
  | e :: r, i, s, s', hd, h, hL, hi, hr => by
    have hd' : l.drop (i + 1) = r := by
      have := congrArg List.tail hd
      simpa using this
    rw [runE] at hr
    cases hs : stepE e i s with
    | none => rw [hs] at hr; cases hr
    | some s1' =>
      rw [hs] at hr
      have hr : runE r (i + 1) s1' = some s' := hr
      have hi1 : l[i]? = some e := by
        have := congrArg (fun x => x[0]?) hd
        simpa using this
      have h1 : SeeOk l (i + 1) s1' := seeOk_step h hi1 hs
      exact later_run r (i + 1) s1' s' hd' h1 (later_step hL h hi hs) (by omega) hr
/-- An order's beginning, of ops that were seen up to some time. -/
theorem sub_run {o : Int} {a b : List Op8} {f : Nat → Nat} : ∀ (T : List Int) (p : Nat) (g : Sts8), (∀ j ∈ T, 0 ≤ j ∧ j < b.length) → (∀ j ∈ T, f j.toNat < a.length ∧ (oAt a (f j.toNat)).key = (oAt b j.toNat).key ∧ (oAt a (f j.toNat)).kind = (oAt b j.toNat).kind ∧ (oAt a (f j.toNat)).a = (oAt b j.toNat).a ∧ (oAt a (f j.toNat)).b = (oAt b j.toNat).b ∧ (0 ≤ (oAt a (f j.toNat)).ret → 0 ≤ (oAt b j.toNat).ret ∧ (oAt b j.toNat).res = (oAt a (f j.toNat)).res)) →
    runTo o b T p g = -1 → runTo o a (T.map fun j => ((f j.toNat : Nat) : Int)) p g = -1
  | [], p, g, _, _, _ => rfl
  | j :: T, p, g, h1, h2, h3 => by
    obtain ⟨b1, b2⟩ := h1 j (by simp)
    obtain ⟨c1, c2, c3, c4, c5, c6⟩ := h2 j (by simp)
    rw [List.map_cons]
    unfold runTo at h3 ⊢
    rw [if_neg (by omega)] at h3
    rw [if_neg (by omega), Int.toNat_natCast, c2, c3, c4, c5]
    split
    · rename_i hs
      rw [hs] at h3
      simp only at h3
      omega
    · rename_i st' res hs
      rw [hs] at h3
      simp only at h3
      by_cases hc : 0 ≤ (oAt b j.toNat).ret ∧ res ≠ (oAt b j.toNat).res
      · rw [if_pos hc] at h3; omega
      · rw [if_neg hc] at h3
        rw [if_neg (fun hh => hc (by obtain ⟨d1, d2⟩ := c6 hh.1; exact ⟨d1, by rw [d2]; exact hh.2⟩))]
        exact sub_run T (p + 1) _ (fun j hj => h1 j (by simp [hj])) (fun j hj => h2 j (by simp [hj])) h3
theorem runTo_take {o : Int} {b : List Op8} : ∀ (T R : List Int) (p : Nat) (g : Sts8), runTo o b (T ++ R) p g = -1 → runTo o b T p g = -1
  | [], R, p, g, _ => rfl
  | j :: T, R, p, g, h => by
    rw [List.cons_append] at h
    unfold runTo at h ⊢
    split
    · rename_i hc; rw [if_pos hc] at h; omega
    · rename_i hc
      rw [if_neg hc] at h
      split
      · rename_i hs
        rw [hs] at h
        simp only at h
        omega
      · rename_i st' res hs
        rw [hs] at h
        simp only at h
        split
        · rename_i hc2; rw [if_pos hc2] at h; omega
        · rename_i hc2
          rw [if_neg hc2] at h
          exact runTo_take T R _ _ h
theorem ordP_pair {l : List Op8} {order : List Int} (h : OrdP l order order.length) {i j : Nat} (hij : i < j) (hj : j < order.length) : order[i]'(by omega) ≠ order[j] ∧ befB (oAt l order[j].toNat) (oAt l (order[i]'(by omega)).toNat) = false := by
  obtain ⟨h1, h2, h3, h4⟩ := h j hj hj
  refine ⟨fun he => ?_, h4 i (by omega) hij⟩
  unfold dnF at h3
  have hm : order[j] ∈ order.take j := by
    rw [← he]
    exact List.mem_take_iff_getElem.2 ⟨i, by omega, rfl⟩
  have h5 : ((order[j].toNat : Nat) : Int) = order[j] := by omega
  rw [h5] at h3
  simp [hm] at h3
theorem ordP_of {l : List Op8} {order : List Int} (h1 : ∀ j ∈ order, 0 ≤ j ∧ j < l.length) (h2 : ∀ i j (hi : i < j) (hj : j < order.length), order[i]'(by omega) ≠ order[j] ∧ befB (oAt l order[j].toNat) (oAt l (order[i]'(by omega)).toNat) = false) : OrdP l order order.length := by
  intro j hj _
  obtain ⟨a1, a2⟩ := h1 _ (List.getElem_mem hj)
  refine ⟨a1, a2, ?_, fun i hi hij => (h2 i j hij hj).2⟩
  unfold dnF
  have h5 : ((order[j].toNat : Nat) : Int) = order[j] := by omega
  rw [h5]
  cases hc : (order.take j).contains order[j] with
  | false => rfl
  | true =>
    have hm : order[j] ∈ order.take j := by simpa using hc
    obtain ⟨i, hi, he⟩ := List.mem_take_iff_getElem.1 hm
    exact absurd he (h2 i j (by omega) hj).1
theorem sub_shows {o : Int} {a b : List Op8} {order : List Int} (f : Nat → Nat) (p : Nat) (hs : ShowsP o b order)
    (h1 : ∀ j ∈ order.take p, f j.toNat < a.length ∧ (oAt a (f j.toNat)).key = (oAt b j.toNat).key ∧ (oAt a (f j.toNat)).kind = (oAt b j.toNat).kind ∧ (oAt a (f j.toNat)).a = (oAt b j.toNat).a ∧ (oAt a (f j.toNat)).b = (oAt b j.toNat).b ∧ (oAt a (f j.toNat)).call = (oAt b j.toNat).call ∧ (0 ≤ (oAt a (f j.toNat)).ret → (oAt b j.toNat).ret = (oAt a (f j.toNat)).ret ∧ (oAt b j.toNat).res = (oAt a (f j.toNat)).res))
    (h2 : ∀ i ∈ order.take p, ∀ j ∈ order.take p, f i.toNat = f j.toNat → i = j)
    (h3 : ∀ i, i < a.length → 0 ≤ (oAt a i).ret → ∃ j ∈ order.take p, f j.toNat = i) : ShowsP o a ((order.take p).map fun j => ((f j.toNat : Nat) : Int)) := by
  obtain ⟨s1, s2, s3⟩ := hs
  have hrng : ∀ j ∈ order.take p, 0 ≤ j ∧ j < b.length := fun j hj => by
    obtain ⟨i, hi, rfl⟩ := List.getElem_of_mem (List.mem_of_mem_take hj)
    obtain ⟨a1, a2, _⟩ := s1 i hi hi
    exact ⟨a1, a2⟩
  have htl : (order.take p).length ≤ order.length := by simp; omega
  have hO : OrdP a ((order.take p).map fun j => ((f j.toNat : Nat) : Int)) ((order.take p).map fun j => ((f j.toNat : Nat) : Int)).length := by
    refine ordP_of (fun j hj => ?_) (fun i j hij hj => ?_)
    · obtain ⟨x, hx, rfl⟩ := List.mem_map.1 hj
      have := (h1 x hx).1
      omega
    · have hj' : j < (order.take p).length := by simpa using hj
      have e1 : ∀ k (hk : k < (order.take p).length), ((order.take p).map fun j => ((f j.toNat : Nat) : Int))[k]'(by simpa using hk) = ((f ((order.take p)[k]).toNat : Nat) : Int) := fun k hk => by simp
      rw [e1 i (by omega), e1 j hj', Int.toNat_natCast, Int.toNat_natCast]
      have q := ordP_pair s1 hij (show j < order.length by omega)
      have ei : ∀ k (hk : k < (order.take p).length), (order.take p)[k] = order[k]'(by omega) := fun k hk => by simp
      rw [← ei i (by omega), ← ei j hj'] at q
      have mi := List.getElem_mem (show i < (order.take p).length by omega)
      have mj := List.getElem_mem hj'
      generalize (order.take p)[i]'(by omega) = x at q mi ⊢
      generalize (order.take p)[j]'hj' = y at q mj ⊢
      refine ⟨fun he => q.1 (h2 x mi y mj (by omega)), ?_⟩
      obtain ⟨_, _, _, _, _, cx, _⟩ := h1 x mi
      obtain ⟨_, _, _, _, _, _, ry⟩ := h1 y mj
      have q2 := q.2
      unfold befB at q2 ⊢
      by_cases h0 : 0 ≤ (oAt a (f y.toNat)).ret
      · obtain ⟨r1, _⟩ := ry h0
        rw [r1] at q2
        rw [cx]
        exact q2
      · simp [h0]
  refine ⟨hO, fun i hi hr => ?_, ?_⟩
  · obtain ⟨j, hj, he⟩ := h3 i hi hr
    unfold dnF
    rw [List.take_of_length_le (Nat.le_refl _)]
    have : ((i : Nat) : Int) ∈ (order.take p).map fun j => ((f j.toNat : Nat) : Int) := List.mem_map.2 ⟨j, hj, by rw [he]⟩
    simpa using this
  · unfold runF at s3 ⊢
    have h4 : runTo o b (order.take p) 0 (fun _ => none) = -1 := runTo_take (order.take p) (order.drop p) _ _ (by rw [List.take_append_drop]; exact s3)
    refine sub_run _ _ _ hrng (fun j hj => ?_) h4
    obtain ⟨a1, a2, a3, a4, a5, a6, a7⟩ := h1 j hj
    refine ⟨a1, a2, a3, a4, a5, fun h0 => ?_⟩
    obtain ⟨r1, r2⟩ := a7 h0
    exact ⟨by omega, r2⟩
theorem max_ex {P : Nat → Prop} [DecidablePred P] : ∀ n, ∃ p, p ≤ n ∧ (∀ k, p ≤ k → k < n → ¬ P k) ∧ (p = 0 ∨ P (p - 1))
  | 0 => ⟨0, Nat.le_refl _, fun k h1 h2 => by omega, .inl rfl⟩
  | n + 1 => by
    by_cases h : P n
    · exact ⟨n + 1, Nat.le_refl _, fun k h1 h2 => by omega, .inr (by simpa using h)⟩
    · obtain ⟨p, h1, h2, h3⟩ := max_ex (P := P) n
      refine ⟨p, by omega, fun k hk1 hk2 => ?_, h3⟩
      rcases Nat.lt_or_ge k n with h4 | h4
      · exact h2 k hk1 h4
      · obtain rfl : k = n := by omega
        exact h
/-- The place among those told of an op's number. -/
noncomputable def placeF (s : SeeS) (n : Nat) : Nat := open Classical in if h : ∃ k, k < (outF s).length ∧ keptAt s k = n then h.choose else 0
theorem placeF_eq {s : SeeS} {n : Nat} (hn : n < s.ops.length) (hg : goneAt s n = false) : placeF s n < (outF s).length ∧ keptAt s (placeF s n) = n := by
  have h := keptAt_onto hn hg
  unfold placeF
  rw [dif_pos h]
  exact h.choose_spec
/-- What shows all shows what was seen up to some time. -/
theorem prefix_shows {o : Int} {l : List Ev} {cut : Nat} {s1 s2 : SeeS} {order : List Int} (hc : cut ≤ l.length) (h1 : SeeOk l cut s1) (h2 : SeeOk l l.length s2) (hL : Later cut s1 s2) (hs : ShowsP o (outF s2) order) : ∃ order', ShowsP o (outF s1) order' := by
  classical
  -- those that were at their end ahead of the cut
  let P : Nat → Prop := fun k => ∃ j, order[k]? = some j ∧ keptAt s2 j.toNat < s1.ops.length ∧ (oAt s1.ops (keptAt s2 j.toNat)).ret ≠ -1
  obtain ⟨p, hp1, hp2, hp3⟩ := max_ex (P := P) order.length
  have hrng : ∀ j ∈ order, 0 ≤ j ∧ j < (outF s2).length := fun j hj => by
    obtain ⟨i, hi, rfl⟩ := List.getElem_of_mem hj
    obtain ⟨a1, a2, _⟩ := hs.1 i hi hi
    exact ⟨a1, a2⟩
  have hback : ∀ n, goneAt s2 n = false → goneAt s1 n = false := fun n hn => by
    cases hg : goneAt s1 n with
    | false => rfl
    | true => rw [hL.gone n hg] at hn; cases hn
  -- all ahead of the last one were called ahead of the cut
  have hin : ∀ j ∈ order.take p, keptAt s2 j.toNat < s1.ops.length := by
    intro j hj
    obtain ⟨i, hi, rfl⟩ := List.mem_take_iff_getElem.1 hj
    have hil : i < order.length := by omega
    have hip : i < p := by omega
    rcases hp3 with h0 | ⟨y, hy, hy1, hy2⟩
    · omega
    · rcases Nat.lt_or_ge (keptAt s2 order[i].toNat) s1.ops.length with h3 | h3
      · exact h3
      · exfalso
        have hpl : p - 1 < order.length := by omega
        rw [List.getElem?_eq_getElem hpl] at hy
        injection hy with hy
        have hxr := hrng _ (List.getElem_mem hil)
        obtain ⟨ex, hxn, _⟩ := outF_at (s := s2) (k := order[i].toNat) (by omega)
        have hyr := hrng _ (List.getElem_mem hpl)
        rw [hy] at hyr
        obtain ⟨ey, hyn, _⟩ := outF_at (s := s2) (k := y.toNat) (by omega)
        have hlate := hL.late _ h3 hxn
        obtain ⟨d1, _⟩ := hL.done _ hy1 hy2
        rcases h1.ret _ hy1 with ⟨r0, _⟩ | ⟨r, r1, r2, _⟩
        · exact hy2 r0
        · rcases Nat.lt_or_ge i (p - 1) with h4 | h4
          · have q := (ordP_pair hs.1 h4 hpl).2
            rw [hy, ex, ey] at q
            unfold befB at q
            rw [d1, r2] at q
            simp at q
            omega
          · obtain rfl : i = p - 1 := by omega
            rw [hy] at h3
            omega
  have hpl : ∀ j ∈ order.take p, placeF s1 (keptAt s2 j.toNat) < (outF s1).length ∧ keptAt s1 (placeF s1 (keptAt s2 j.toNat)) = keptAt s2 j.toNat := fun j hj => by
    have hr := hrng j (List.mem_of_mem_take hj)
    obtain ⟨_, _, hg⟩ := outF_at (s := s2) (k := j.toNat) (by omega)
    exact placeF_eq (hin j hj) (hback _ hg)
  refine ⟨_, sub_shows (fun j => placeF s1 (keptAt s2 j)) p hs (fun j hj => ?_) (fun i hi j hj he => ?_) (fun i hi hr => ?_)⟩
  · obtain ⟨q1, q2⟩ := hpl j hj
    have hr := hrng j (List.mem_of_mem_take hj)
    obtain ⟨eb, _, _⟩ := outF_at (s := s2) (k := j.toNat) (by omega)
    obtain ⟨ea, _, _⟩ := outF_at (s := s1) q1
    rw [q2] at ea
    obtain ⟨f1, f2, f3, f4, f5⟩ := hL.same _ (hin j hj)
    rw [ea, eb]
    refine ⟨q1, f1.symm, f2.symm, f3.symm, f4.symm, f5.symm, fun h0 => ?_⟩
    obtain ⟨d1, d2, _⟩ := hL.done _ (hin j hj) (by omega)
    exact ⟨d1, d2⟩
  · have he : placeF s1 (keptAt s2 i.toNat) = placeF s1 (keptAt s2 j.toNat) := he
    have e1 := (hpl i hi).2
    have e2 := (hpl j hj).2
    rw [he, e2] at e1
    have hri := hrng i (List.mem_of_mem_take hi)
    have hrj := hrng j (List.mem_of_mem_take hj)
    rcases Nat.lt_trichotomy i.toNat j.toNat with h3 | h3 | h3
    · have := keptAt_lt (s := s2) h3 (by omega); omega
    · omega
    · have := keptAt_lt (s := s2) h3 (by omega); omega
  · obtain ⟨ei, hin', hig⟩ := outF_at hi
    rw [ei] at hr
    have hne : (oAt s1.ops (keptAt s1 i)).ret ≠ -1 := by omega
    obtain ⟨d1, d2, d3⟩ := hL.done _ hin' hne
    obtain ⟨k, hk1, hk2⟩ := keptAt_onto (s := s2) (n := keptAt s1 i) (by have := hL.len; omega) (by rw [d3]; exact hig)
    obtain ⟨ek, _, _⟩ := outF_at hk1
    have hdn := hs.2.1 k hk1 (by rw [ek, hk2, d1]; exact hr)
    unfold dnF at hdn
    rw [List.take_of_length_le (Nat.le_refl _)] at hdn
    have hmem : ((k : Nat) : Int) ∈ order := by simpa using hdn
    obtain ⟨q, hq, hqe⟩ := List.getElem_of_mem hmem
    have hqp : q < p := by
      rcases Nat.lt_or_ge q p with h3 | h3
      · exact h3
      · refine absurd ?_ (hp2 q h3 hq)
        exact ⟨(k : Int), by rw [List.getElem?_eq_getElem hq, hqe], by rw [Int.toNat_natCast, hk2]; exact hin', by rw [Int.toNat_natCast, hk2]; exact hne⟩
    refine ⟨(k : Int), List.mem_take_iff_getElem.2 ⟨q, by omega, hqe⟩, ?_⟩
    show placeF s1 (keptAt s2 (k : Int).toNat) = i
    rw [Int.toNat_natCast, hk2]
    obtain ⟨g1, g2⟩ := placeF_eq hin' hig
    rcases Nat.lt_trichotomy (placeF s1 (keptAt s1 i)) i with h3 | h3 | h3
    · have := keptAt_lt h3 hi; omega
    · exact h3
    · have := keptAt_lt h3 g1; omega
theorem prefix_law {o : Int} {l : List Ev} {cut : Nat} {a b : List Op8} {order : List Int} (hc : cut ≤ l.length) (ha : evF (l.take cut) = some a) (hb : evF l = some b) (hs : ShowsP o b order) : ∃ order', ShowsP o a order' := by
  obtain ⟨s1, _, r1, _, rfl⟩ := evF_some ha
  obtain ⟨s2, _, r2, k2, rfl⟩ := evF_some hb
  have hlen : (l.take cut).length = cut := by simp; omega
  have k1 : SeeOk l cut s1 := by
    have := runE_ok (l := l) (l.take cut) (l.drop cut) 0 initE s1 (by simp) (seeOk_init l) r1
    rw [Nat.zero_add, hlen] at this
    exact this
  have r3 : runE (l.drop cut) cut s1 = some s2 := by
    have := runE_app (l.take cut) (l.drop cut) 0 initE
    rw [List.take_append_drop, r2, r1, hlen, Nat.zero_add] at this
    exact this.symm
  exact prefix_shows hc k1 k2 (later_run (l := l) (l.drop cut) cut s1 s2 rfl k1 (Later.refl _ _) (Nat.le_refl _) r3) hs
end Go.Proofs.YtlmpolmalgpodaaDoor
