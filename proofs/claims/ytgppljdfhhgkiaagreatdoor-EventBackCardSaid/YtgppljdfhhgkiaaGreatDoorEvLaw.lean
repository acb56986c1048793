/- What event.Ops makes may be: plain. Nothing of the program. -/
import Derived.Test.YtgppljdfhhgkiaaGreatDoorEvLawA
namespace Go.Proofs.YtgppljdfhhgkiaaGreatDoor
set_option linter.unusedVariables false
set_option linter.unusedSimpArgs false
def goneAt (s : SeeS) (n : Nat) : Bool := s.gone.getD n false
/-- What is known of a seer that is at the event i. -/
structure SeeOk (l : List Ev) (i : Nat) (s : SeeS) : Prop where
  glen : s.gone.length = s.ops.length
  called : ∀ n, n < s.ops.length → ∃ c : Nat, c < i ∧ (oAt s.ops n).call = c ∧ ∃ e, l[c]? = some e ∧ e.ty = 1 ∧ evOkB e = true ∧ e.proc = (oAt s.ops n).proc ∧ e.key = (oAt s.ops n).key ∧ e.kind = (oAt s.ops n).kind ∧ e.a = (oAt s.ops n).a ∧ e.b = (oAt s.ops n).b
  rise : ∀ m n, m < n → n < s.ops.length → (oAt s.ops m).call < (oAt s.ops n).call
  ret : ∀ n, n < s.ops.length → ((oAt s.ops n).ret = -1 ∧ (oAt s.ops n).res = 0) ∨ ∃ r : Nat, r < i ∧ (oAt s.ops n).ret = r ∧ (oAt s.ops n).call < r ∧ goneAt s n = false ∧ ∃ e, l[r]? = some e ∧ e.ty = 2 ∧ evOkB e = true ∧ e.res = (oAt s.ops n).res
  once : ∀ m n, m < n → n < s.ops.length → (oAt s.ops n).ret ≠ -1 → (oAt s.ops m).ret ≠ (oAt s.ops n).ret
  busy : ∀ p n, s.busy p = some n → n < s.ops.length ∧ (oAt s.ops n).proc = p ∧ (oAt s.ops n).ret = -1 ∧ goneAt s n = false ∧ s.lost p = none
  free : ∀ n, n < s.ops.length → (oAt s.ops n).ret = -1 → goneAt s n = false → s.busy (oAt s.ops n).proc = some n ∨ s.lost (oAt s.ops n).proc ≠ none
  order : ∀ m n, m < n → n < s.ops.length → (oAt s.ops m).proc = (oAt s.ops n).proc → goneAt s m = false → 0 ≤ (oAt s.ops m).ret ∧ (oAt s.ops m).ret < (oAt s.ops n).call
theorem seeOk_init (l : List Ev) : SeeOk l 0 initE := by
  refine ⟨rfl, ?_, ?_, ?_, ?_, ?_, ?_, ?_⟩
  · intro n hn; exact absurd hn (Nat.not_lt_zero n)
  · intro m n _ hn; exact absurd hn (Nat.not_lt_zero n)
  · intro n hn; exact absurd hn (Nat.not_lt_zero n)
  · intro m n _ hn; exact absurd hn (Nat.not_lt_zero n)
  · intro p n hb; cases hb
  · intro n hn; exact absurd hn (Nat.not_lt_zero n)
  · intro m n _ hn; exact absurd hn (Nat.not_lt_zero n)
theorem goneAt_app {s : SeeS} {n : Nat} (h : s.gone.length = s.ops.length) : (s.gone ++ [false]).getD n false = goneAt s n := by
  unfold goneAt
  rw [List.getD_eq_getElem?_getD, List.getD_eq_getElem?_getD]
  rcases Nat.lt_trichotomy n s.gone.length with h1 | h1 | h1
  · rw [List.getElem?_append_left h1]
  · subst h1
    rw [List.getElem?_append_right (Nat.le_refl _), List.getElem?_eq_none (Nat.le_refl _), Nat.sub_self]; rfl
  · rw [List.getElem?_eq_none (by simp; omega), List.getElem?_eq_none (by omega)]
theorem goneAt_set {s : SeeS} {n m : Nat} (h : n < s.gone.length) : (s.gone.set n true).getD m false = if n = m then true else goneAt s m := by
  unfold goneAt
  rw [List.getD_eq_getElem?_getD, List.getD_eq_getElem?_getD, List.getElem?_set]
  by_cases h1 : n = m
  · subst h1; simp [h]
  · rw [if_neg h1, if_neg h1]
theorem seeOk_begin {l : List Ev} {i : Nat} {s s' : SeeS} {e : Ev} (h : SeeOk l i s) (he : l[i]? = some e) (hok : evOkB e = true) (hty : e.ty = 1) (hs : beginF e i s = some s') : SeeOk l (i + 1) s' := by
  unfold beginF at hs
  split at hs
  · cases hs
  rename_i hno
  have hb : s.busy e.proc = none := by
    cases hx : s.busy e.proc with
    | none => rfl
    | some n => exact absurd (.inl (by rw [hx]; simp)) hno
  have hl : s.lost e.proc = none := by
    cases hx : s.lost e.proc with
    | none => rfl
    | some n => exact absurd (.inr (by rw [hx]; simp)) hno
  injection hs with hs
  subst hs
  have hlen : (s.ops ++ [newOp e i]).length = s.ops.length + 1 := by simp
  have old : ∀ {n}, n < s.ops.length → oAt (s.ops ++ [newOp e i]) n = oAt s.ops n := fun hn => oAt_app_l hn
  have new : oAt (s.ops ++ [newOp e i]) s.ops.length = newOp e i := oAt_app_r
  have hgs : ∀ n, goneAt ⟨s.ops ++ [newOp e i], updI s.busy e.proc (some s.ops.length), s.lost, s.gone ++ [false]⟩ n = goneAt s n := fun n => goneAt_app h.glen
  have gnew : goneAt s s.ops.length = false := by
    unfold goneAt
    rw [List.getD_eq_getElem?_getD, List.getElem?_eq_none (by rw [h.glen]; exact Nat.le_refl _)]; rfl
  have two : ∀ {n}, n < s.ops.length + 1 → n < s.ops.length ∨ n = s.ops.length := fun hn => by omega
  refine ⟨by simp [h.glen], ?_, ?_, ?_, ?_, ?_, ?_, ?_⟩
  · intro n hn
    rcases two (by simpa using hn) with h1 | h1
    · obtain ⟨c, h2, h3⟩ := h.called n h1
      simp only [old h1]
      exact ⟨c, by omega, h3⟩
    · subst h1
      simp only [new]
      exact ⟨i, by omega, rfl, e, he, hty, hok, rfl, rfl, rfl, rfl, rfl⟩
  · intro m n hmn hn
    rcases two (by simpa using hn) with h1 | h1
    · simp only [old h1, old (show m < s.ops.length by omega)]; exact h.rise m n hmn h1
    · subst h1
      simp only [new, old hmn]
      obtain ⟨c, h2, h3, _⟩ := h.called m hmn
      rw [h3]; show (c : Int) < (i : Int); omega
  · intro n hn
    rw [hgs]
    rcases two (by simpa using hn) with h1 | h1
    · simp only [old h1]
      rcases h.ret n h1 with h2 | ⟨r, h2, h3⟩
      · exact .inl h2
      · exact .inr ⟨r, by omega, h3⟩
    · subst h1
      simp only [new]
      exact .inl ⟨rfl, rfl⟩
  · intro m n hmn hn hr
    rcases two (by simpa using hn) with h1 | h1
    · simp only [old h1, old (show m < s.ops.length by omega)] at hr ⊢; exact h.once m n hmn h1 hr
    · subst h1
      simp only [new] at hr
      exact absurd rfl hr
  · intro p n hp
    rw [hgs]
    simp only [updI] at hp
    by_cases hpe : p = e.proc
    · rw [if_pos hpe] at hp
      injection hp with hp
      subst hp hpe
      simp only [new]
      exact ⟨by simp, rfl, rfl, gnew, hl⟩
    · rw [if_neg hpe] at hp
      obtain ⟨h1, h2⟩ := h.busy p n hp
      simp only [old h1]
      exact ⟨by simp; omega, h2⟩
  · intro n hn hr hg
    rw [hgs] at hg
    simp only [updI]
    rcases two (by simpa using hn) with h1 | h1
    · simp only [old h1] at hr ⊢
      rcases h.free n h1 hr hg with h2 | h2
      · by_cases hpe : (oAt s.ops n).proc = e.proc
        · rw [hpe, hb] at h2; cases h2
        · rw [if_neg hpe]; exact .inl h2
      · exact .inr h2
    · subst h1
      simp only [new]
      exact .inl (if_pos rfl)
  · intro m n hmn hn hp hg
    rw [hgs] at hg
    rcases two (by simpa using hn) with h1 | h1
    · simp only [old h1, old (show m < s.ops.length by omega)] at hp ⊢; exact h.order m n hmn h1 hp hg
    · subst h1
      simp only [new, old hmn] at hp ⊢
      have hp : (oAt s.ops m).proc = e.proc := hp
      rcases h.ret m hmn with ⟨h2, _⟩ | ⟨r, h2, h3, _⟩
      · rcases h.free m hmn h2 hg with h4 | h4
        · rw [hp, hb] at h4; cases h4
        · rw [hp, hl] at h4; exact absurd rfl h4
      · rw [h3]
        refine ⟨by omega, ?_⟩
        show (r : Int) < (i : Int)
        omega
theorem seeOk_end {l : List Ev} {i : Nat} {s s' : SeeS} {e : Ev} (h : SeeOk l i s) (he : l[i]? = some e) (hok : evOkB e = true) (hty : e.ty ≠ 1) (hs : endF e i s = some s') : SeeOk l (i + 1) s' := by
  unfold endF at hs
  split at hs
  · cases hs
  rename_i n hb
  split at hs
  rotate_left
  · cases hs
  rename_i hfit
  injection hs with hs
  subst hs
  obtain ⟨hn, hnp, hnr, hng, hnl⟩ := h.busy e.proc n hb
  have hng' : n < s.gone.length := by rw [h.glen]; exact hn
  -- the ops, and what is gone
  obtain ⟨O, hO⟩ : ∃ O, O = (if e.ty = 2 then s.ops.set n (endOp (oAt s.ops n) e i) else s.ops) := ⟨_, rfl⟩
  obtain ⟨G, hG⟩ : ∃ G, G = (if e.ty = 3 then s.gone.set n true else s.gone) := ⟨_, rfl⟩
  obtain ⟨Lo, hLo⟩ : ∃ Lo, Lo = (if e.ty = 4 then updI s.lost e.proc (some i) else s.lost) := ⟨_, rfl⟩
  rw [← hO, ← hG, ← hLo]
  have olen : O.length = s.ops.length := by rw [hO]; split <;> simp
  have glen : G.length = s.ops.length := by rw [hG]; split <;> simp [h.glen]
  have oat : ∀ m, oAt O m = if e.ty = 2 ∧ n = m then endOp (oAt s.ops n) e i else oAt s.ops m := by
    intro m
    rw [hO]
    by_cases h2 : e.ty = 2
    · rw [if_pos h2, oAt_setE hn]
      by_cases hnm : n = m
      · rw [if_pos hnm, if_pos ⟨h2, hnm⟩]
      · rw [if_neg hnm, if_neg (fun hh => hnm hh.2)]
    · rw [if_neg h2, if_neg (fun hh => h2 hh.1)]
  have gat : ∀ m, G.getD m false = if e.ty = 3 ∧ n = m then true else goneAt s m := by
    intro m
    rw [hG]
    by_cases h2 : e.ty = 3
    · rw [if_pos h2, goneAt_set hng']
      by_cases hnm : n = m
      · rw [if_pos hnm, if_pos ⟨h2, hnm⟩]
      · rw [if_neg hnm, if_neg (fun hh => hnm hh.2)]
    · rw [if_neg h2, if_neg (fun hh => h2 hh.1)]; rfl
  have gone_of : ∀ m, G.getD m false = false → goneAt s m = false := by
    intro m hm
    rw [gat] at hm
    split at hm
    · cases hm
    · exact hm
  -- fields that stay
  have stay : ∀ m, (oAt O m).proc = (oAt s.ops m).proc ∧ (oAt O m).key = (oAt s.ops m).key ∧ (oAt O m).kind = (oAt s.ops m).kind ∧ (oAt O m).a = (oAt s.ops m).a ∧ (oAt O m).b = (oAt s.ops m).b ∧ (oAt O m).call = (oAt s.ops m).call := by
    intro m
    rw [oat]
    split
    · rename_i hh; obtain ⟨_, rfl⟩ := hh; exact ⟨rfl, rfl, rfl, rfl, rfl, rfl⟩
    · exact ⟨rfl, rfl, rfl, rfl, rfl, rfl⟩
  have retO : ∀ m, (oAt O m).ret = if e.ty = 2 ∧ n = m then (i : Int) else (oAt s.ops m).ret := by
    intro m
    rw [oat]
    split <;> rfl
  have resO : ∀ m, (oAt O m).res = if e.ty = 2 ∧ n = m then e.res else (oAt s.ops m).res := by
    intro m
    rw [oat]
    split <;> rfl
  have retlt : ∀ m, m < s.ops.length → (oAt s.ops m).ret < i := by
    intro m hm
    rcases h.ret m hm with ⟨h2, _⟩ | ⟨r, h2, h3, _⟩
    · rw [h2]; omega
    · rw [h3]; omega
  have busyN : ∀ p m, s.busy p = some m → p ≠ e.proc → m ≠ n := fun p m hp hpe hmn => by
    subst hmn
    exact hpe ((h.busy p m hp).2.1.symm.trans hnp)
  refine ⟨by rw [glen, olen], ?_, ?_, ?_, ?_, ?_, ?_, ?_⟩
  · intro m hm
    simp only at hm ⊢
    rw [olen] at hm
    obtain ⟨s1, s2, s3, s4, s5, s6⟩ := stay m
    obtain ⟨c, h2, h3⟩ := h.called m hm
    rw [s1, s2, s3, s4, s5, s6]
    exact ⟨c, by omega, h3⟩
  · intro m k hmk hk
    simp only at hk ⊢
    rw [olen] at hk
    rw [(stay m).2.2.2.2.2, (stay k).2.2.2.2.2]
    exact h.rise m k hmk hk
  · intro m hm
    simp only at hm
    rw [olen] at hm
    have hgm : goneAt ⟨O, updI s.busy e.proc none, Lo, G⟩ m = G.getD m false := rfl
    simp only [retO, resO, (stay m).2.2.2.2.2, hgm, gat]
    by_cases h2 : e.ty = 2 ∧ n = m
    · simp only [if_pos h2]
      obtain ⟨h2, rfl⟩ := h2
      obtain ⟨c, h5, h6, _⟩ := h.called n hn
      refine .inr ⟨i, by omega, rfl, by rw [h6]; omega, ?_, e, he, h2, hok, rfl⟩
      rw [if_neg (fun hh => by rw [h2] at hh; exact absurd hh.1 (by decide))]
      exact hng
    · simp only [if_neg h2]
      rcases h.ret m hm with h3 | ⟨r, h3, h4, h5, h6, h7⟩
      · exact .inl h3
      · refine .inr ⟨r, by omega, h4, h5, ?_, h7⟩
        rw [if_neg (fun hh => by obtain ⟨_, rfl⟩ := hh; rw [hnr] at h4; omega)]
        exact h6
  · intro m k hmk hk
    simp only at hk
    rw [olen] at hk
    simp only [retO]
    intro hr
    have hm : m < s.ops.length := by omega
    have r1 := retlt m hm
    have r2 := retlt k hk
    by_cases hk2 : e.ty = 2 ∧ n = k
    · rw [if_pos hk2, if_neg (fun hh => by have := hh.2; have := hk2.2; omega)]
      omega
    · rw [if_neg hk2] at hr ⊢
      by_cases hm2 : e.ty = 2 ∧ n = m
      · rw [if_pos hm2]; omega
      · rw [if_neg hm2]; exact h.once m k hmk hk hr
  · intro p m hp
    simp only [updI] at hp
    by_cases hpe : p = e.proc
    · rw [if_pos hpe] at hp; cases hp
    · rw [if_neg hpe] at hp
      obtain ⟨h1, h2, h3, h4, h5⟩ := h.busy p m hp
      have hmn := busyN p m hp hpe
      have hgm : goneAt ⟨O, updI s.busy e.proc none, Lo, G⟩ m = G.getD m false := rfl
      simp only [hgm, gat, retO, (stay m).1]
      rw [if_neg (fun hh => hmn hh.2.symm), if_neg (fun hh => hmn hh.2.symm)]
      refine ⟨by show m < O.length; rw [olen]; exact h1, h2, h3, h4, ?_⟩
      show Lo p = none
      rw [hLo]
      split
      · unfold updI; rw [if_neg hpe]; exact h5
      · exact h5
  · intro m hm hr hg
    simp only at hm hr ⊢
    rw [olen] at hm
    have hgm : goneAt ⟨O, updI s.busy e.proc none, Lo, G⟩ m = G.getD m false := rfl
    rw [hgm] at hg
    rw [(stay m).1]
    have hgm2 := gone_of m hg
    by_cases hmn : n = m
    · subst hmn
      have h2 : e.ty ≠ 2 := fun hh => by rw [retO, if_pos ⟨hh, rfl⟩] at hr; omega
      have h3 : e.ty ≠ 3 := fun hh => by rw [gat, if_pos ⟨hh, rfl⟩] at hg; cases hg
      have h4 : e.ty = 4 := by
        unfold evOkB inB at hok
        simp at hok
        omega
      refine .inr ?_
      show Lo (oAt s.ops n).proc ≠ none
      rw [hLo, if_pos h4, hnp]
      unfold updI
      rw [if_pos rfl]
      simp
    · rw [retO, if_neg (fun hh => hmn hh.2)] at hr
      rcases h.free m hm hr hgm2 with h5 | h5
      · by_cases hpe : (oAt s.ops m).proc = e.proc
        · rw [hpe, hb] at h5
          injection h5 with h5
          exact absurd h5 hmn
        · left
          unfold updI
          rw [if_neg hpe]
          exact h5
      · right
        show Lo _ ≠ none
        rw [hLo]
        split
        · unfold updI
          split
          · simp
          · exact h5
        · exact h5
  · intro m k hmk hk hp hg
    simp only at hk hp ⊢
    rw [olen] at hk
    have hgm : goneAt ⟨O, updI s.busy e.proc none, Lo, G⟩ m = G.getD m false := rfl
    rw [hgm] at hg
    rw [(stay m).1, (stay k).1] at hp
    have h1 := h.order m k hmk hk hp (gone_of m hg)
    rw [retO, (stay k).2.2.2.2.2]
    rw [if_neg (fun hh => by obtain ⟨_, rfl⟩ := hh; rw [hnr] at h1; omega)]
    exact h1
theorem seeOk_step {l : List Ev} {i : Nat} {s s' : SeeS} {e : Ev} (h : SeeOk l i s) (hi : l[i]? = some e) (hs : stepE e i s = some s') : SeeOk l (i + 1) s' := by
  unfold stepE at hs
  split at hs
  · rename_i hok
    split at hs
    · rename_i hty; exact seeOk_begin h hi hok hty hs
    · rename_i hty; exact seeOk_end h hi hok hty hs
  · cases hs
theorem runE_ok {l : List Ev} : ∀ (r r' : List Ev) (i : Nat) (s s' : SeeS), l.drop i = r ++ r' → SeeOk l i s → runE r i s = some s' → SeeOk l (i + r.length) s'
  | [], r', i, s, s', _, h, hr => by
    simp only [runE, Option.some.injEq] at hr
    subst hr
    exact h
  | e :: r, r', i, s, s', hd, h, hr => by
    have hi : l[i]? = some e := by
      have := congrArg (fun x => x[0]?) hd
      simpa using this
    have hd' : l.drop (i + 1) = r ++ r' := by
      have := congrArg List.tail hd
      simpa using this
    rw [runE] at hr
    cases hs : stepE e i s with
    | none => rw [hs] at hr; cases hr
    | some s1 =>
      rw [hs] at hr
      have hr : runE r (i + 1) s1 = some s' := hr
      have h1 : SeeOk l (i + 1) s1 := seeOk_step h hi hs
      have := runE_ok r r' (i + 1) s1 s' hd' h1 hr
      rw [List.length_cons, show i + (r.length + 1) = i + 1 + r.length by omega]
      exact this
theorem evF_some {l : List Ev} {out : List Op8} (h : evF l = some out) : ∃ s, l.length ≤ 120 ∧ runE l 0 initE = some s ∧ SeeOk l l.length s ∧ out = outF s := by
  unfold evF at h
  split at h
  rotate_left
  · cases h
  rename_i h120
  cases hr : runE l 0 initE with
  | none => rw [hr] at h; cases h
  | some s =>
    rw [hr] at h
    injection h with h
    have := runE_ok (l := l) l [] 0 initE s (by simp) (seeOk_init l) hr
    rw [Nat.zero_add] at this
    exact ⟨s, h120, rfl, this, h.symm⟩
end Go.Proofs.YtgppljdfhhgkiaaGreatDoor
