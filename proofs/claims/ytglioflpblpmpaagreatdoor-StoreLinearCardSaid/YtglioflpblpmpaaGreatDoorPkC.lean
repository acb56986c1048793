/- PkC: EvLaw, KeyLaw, Srch, Srch2, Lin1, Lin2, Lin3, Srch3, Srch4, EvLaw2, merged. -/
import Derived.Test.YtglioflpblpmpaaGreatDoorPkB
import Derived.Test.YtglioflpblpmpaaGreatDoorPkA
namespace Go.Proofs.YtglioflpblpmpaaGreatDoor
set_option linter.unusedVariables false
set_option linter.unusedSimpArgs false
structure SeeS where
  ops : List Op8
  busy : Int → Option Nat
  lost : Int → Option Nat
  gone : List Bool
def updI (g : Int → Option Nat) (k : Int) (v : Option Nat) : Int → Option Nat := fun j => if j = k then v else g j
def newOp (e : Ev) (i : Nat) : Op8 := ⟨e.proc, e.key, e.kind, e.a, e.b, 0, i, -1⟩
def beginF (e : Ev) (i : Nat) (s : SeeS) : Option SeeS :=
  if s.busy e.proc ≠ none ∨ s.lost e.proc ≠ none then none else some ⟨s.ops ++ [newOp e i], updI s.busy e.proc (some s.ops.length), s.lost, s.gone ++ [false]⟩
def fitsOp (o : Op8) (e : Ev) : Prop := o.key = e.key ∧ o.kind = e.kind ∧ o.a = e.a ∧ o.b = e.b
instance (o : Op8) (e : Ev) : Decidable (fitsOp o e) := by unfold fitsOp; infer_instance
def endOp (o : Op8) (e : Ev) (i : Nat) : Op8 := { o with res := e.res, ret := i }
def endF (e : Ev) (i : Nat) (s : SeeS) : Option SeeS := match s.busy e.proc with
  | none => none
  | some n => if fitsOp (oAt s.ops n) e then some ⟨if e.ty = 2 then s.ops.set n (endOp (oAt s.ops n) e i) else s.ops, updI s.busy e.proc none, if e.ty = 4 then updI s.lost e.proc (some i) else s.lost, if e.ty = 3 then s.gone.set n true else s.gone⟩ else none
def stepE (e : Ev) (i : Nat) (s : SeeS) : Option SeeS := if evOkB e = true then (if e.ty = 1 then beginF e i s else endF e i s) else none
def runE : List Ev → Nat → SeeS → Option SeeS
  | [], _, s => some s
  | e :: r, i, s => (stepE e i s).bind (runE r (i + 1))
def initE : SeeS := ⟨[], fun _ => none, fun _ => none, []⟩
/-- The numbers of the ops that are told. -/
def keptF (s : SeeS) (k : Nat) : List Nat := (List.range k).filter fun n => !(s.gone.getD n false)
def outF (s : SeeS) : List Op8 := (keptF s s.ops.length).map (oAt s.ops)
def evF (l : List Ev) : Option (List Op8) := if l.length ≤ 120 then (runE l 0 initE).map outF else none
theorem keptF_succ (s : SeeS) (k : Nat) : keptF s (k + 1) = keptF s k ++ (if s.gone.getD k false = true then [] else [k]) := by
  unfold keptF
  rw [List.range_succ, List.filter_append]
  congr 1
  rw [List.filter_cons, List.filter_nil]
  cases s.gone.getD k false <;> rfl
theorem runE_app : ∀ (l r : List Ev) (i : Nat) (s : SeeS), runE (l ++ r) i s = (runE l i s).bind (runE r (i + l.length))
  | [], r, i, s => rfl
  | e :: l, r, i, s => by
    rw [List.cons_append, runE, runE]
    cases stepE e i s with
    | none => rfl
    | some s' =>
      simp only [Option.bind_some, List.length_cons]
      rw [runE_app l r (i + 1) s', show i + 1 + l.length = i + (l.length + 1) by omega]
theorem oAt_app_l {l r : List Op8} {k : Nat} (h : k < l.length) : oAt (l ++ r) k = oAt l k := by
  unfold oAt
  rw [List.getD_eq_getElem?_getD, List.getD_eq_getElem?_getD, List.getElem?_append_left h]
theorem oAt_app_r {l : List Op8} {x : Op8} : oAt (l ++ [x]) l.length = x := by
  unfold oAt
  rw [List.getD_eq_getElem?_getD, List.getElem?_append_right (Nat.le_refl _), Nat.sub_self]; rfl
theorem oAt_setE {l : List Op8} {k i : Nat} {x : Op8} (hk : k < l.length) : oAt (l.set k x) i = if k = i then x else oAt l i := by
  unfold oAt
  rw [List.getD_eq_getElem?_getD, List.getD_eq_getElem?_getD, List.getElem?_set]
  by_cases h : k = i
  · subst h; simp [hk]
  · rw [if_neg h, if_neg h]
def goneAt (s : SeeS) (n : Nat) : Bool := s.gone.getD n false
/-- What is known of a seer that is at the event i. -/
structure SeeOk (l : List Ev) (i : Nat) (s : SeeS) : Prop where
  glen : s.gone.length = s.ops.length
  called : ∀ n, n < s.ops.length → ∃ c : Nat, c < i ∧ (oAt s.ops n).call = c ∧ ∃ e, l[c]? = some e ∧ e.ty = 1 ∧ evOkB e = true ∧ e.proc = (oAt s.ops n).proc ∧ e.key = (oAt s.ops n).key ∧ e.kind = (oAt s.ops n).kind ∧ e.a = (oAt s.ops n).a ∧ e.b = (oAt s.ops n).b
  rise : ∀ m n, m < n → n < s.ops.length → (oAt s.ops m).call < (oAt s.ops n).call
  ret : ∀ n, n < s.ops.length → ((oAt s.ops n).ret = -1 ∧ (oAt s.ops n).res = 0) ∨ ∃ r : Nat, r < i ∧ (oAt s.ops n).ret = r ∧ (oAt s.ops n).call < r ∧ goneAt s n = false ∧ ∃ e, l[r]? = some e ∧ e.ty = 2 ∧ evOkB e = true ∧ e.res = (oAt s.ops n).res
  once : ∀ m n, m < n → n < s.ops.length → (oAt s.ops n).ret ≠ -1 → (oAt s.ops m).ret ≠ (oAt s.ops n).ret
  busy : ∀ p n, s.busy p = some n → n < s.ops.length ∧ (oAt s.ops n).proc = p ∧ (oAt s.ops n).ret = -1 ∧ goneAt s n = false ∧ s.lost p = none
  free : ∀ n, n < s.ops.length → (oAt s.ops n).ret = -1 → goneAt s n = false → s.busy (oAt s.ops n).proc = some n ∨ s.lost (oAt s.ops n).proc ≠ none
  order : ∀ m n, m < n → n < s.ops.length → (oAt s.ops m).proc = (oAt s.ops n).proc → goneAt s m = false → 0 ≤ (oAt s.ops m).ret ∧ (oAt s.ops m).ret < (oAt s.ops n).call
theorem seeOk_init (l : List Ev) : SeeOk l 0 initE := by
  refine ⟨rfl, ?_, ?_, ?_, ?_, ?_, ?_, ?_⟩
  · intro n hn; exact absurd hn (Nat.not_lt_zero n)
  · intro m n _ hn; exact absurd hn (Nat.not_lt_zero n)
  · intro n hn; exact absurd hn (Nat.not_lt_zero n)
  · intro m n _ hn; exact absurd hn (Nat.not_lt_zero n)
  · intro p n hb; cases hb
  · intro n hn; exact absurd hn (Nat.not_lt_zero n)
  · intro m n _ hn; exact absurd hn (Nat.not_lt_zero n)
theorem goneAt_app {s : SeeS} {n : Nat} (h : s.gone.length = s.ops.length) : (s.gone ++ [false]).getD n false = goneAt s n := by
  unfold goneAt
  rw [List.getD_eq_getElem?_getD, List.getD_eq_getElem?_getD]
  rcases Nat.lt_trichotomy n s.gone.length with h1 | h1 | h1
  · rw [List.getElem?_append_left h1]
  · subst h1
    rw [List.getElem?_append_right (Nat.le_refl _), List.getElem?_eq_none (Nat.le_refl _), Nat.sub_self]; rfl
  · rw [List.getElem?_eq_none (by simp; omega), List.getElem?_eq_none (by omega)]
theorem goneAt_set {s : SeeS} {n m : Nat} (h : n < s.gone.length) : (s.gone.set n true).getD m false = if n = m then true else goneAt s m := by
  unfold goneAt
  rw [List.getD_eq_getElem?_getD, List.getD_eq_getElem?_getD, List.getElem?_set]
  by_cases h1 : n = m
  · subst h1; simp [h]
  · rw [if_neg h1, if_neg h1]
theorem seeOk_begin {l : List Ev} {i : Nat} {s s' : SeeS} {e : Ev} (h : SeeOk l i s) (he : l[i]? = some e) (hok : evOkB e = true) (hty : e.ty = 1) (hs : beginF e i s = some s') : SeeOk l (i + 1) s' := by
  unfold beginF at hs
  split at hs
  · cases hs
  rename_i hno
  have hb : s.busy e.proc = none := by
    cases hx : s.busy e.proc with
    | none => rfl
    | some n => exact absurd (.inl (by rw [hx]; simp)) hno
  have hl : s.lost e.proc = none := by
    cases hx : s.lost e.proc with
    | none => rfl
    | some n => exact absurd (.inr (by rw [hx]; simp)) hno
  injection hs with hs
  subst hs
  have hlen : (s.ops ++ [newOp e i]).length = s.ops.length + 1 := by simp
  have old : ∀ {n}, n < s.ops.length → oAt (s.ops ++ [newOp e i]) n = oAt s.ops n := fun hn => oAt_app_l hn
  have new : oAt (s.ops ++ [newOp e i]) s.ops.length = newOp e i := oAt_app_r
  have hgs : ∀ n, goneAt ⟨s.ops ++ [newOp e i], updI s.busy e.proc (some s.ops.length), s.lost, s.gone ++ [false]⟩ n = goneAt s n := fun n => goneAt_app h.glen
  have gnew : goneAt s s.ops.length = false := by
    unfold goneAt
    rw [List.getD_eq_getElem?_getD, List.getElem?_eq_none (by rw [h.glen]; exact Nat.le_refl _)]; rfl
  have two : ∀ {n}, n < s.ops.length + 1 → n < s.ops.length ∨ n = s.ops.length := fun hn => by omega
  refine ⟨by simp [h.glen], ?_, ?_, ?_, ?_, ?_, ?_, ?_⟩
  · intro n hn
    rcases two (by simpa using hn) with h1 | h1
    · obtain ⟨c, h2, h3⟩ := h.called n h1
      simp only [old h1]
      exact ⟨c, by omega, h3⟩
    · subst h1
      simp only [new]
      exact ⟨i, by omega, rfl, e, he, hty, hok, rfl, rfl, rfl, rfl, rfl⟩
  · intro m n hmn hn
    rcases two (by simpa using hn) with h1 | h1
    · simp only [old h1, old (show m < s.ops.length by omega)]; exact h.rise m n hmn h1
    · subst h1
      simp only [new, old hmn]
      obtain ⟨c, h2, h3, _⟩ := h.called m hmn
      rw [h3]; show (c : Int) < (i : Int); omega
  · intro n hn
    rw [hgs]
    rcases two (by simpa using hn) with h1 | h1
    · simp only [old h1]
      rcases h.ret n h1 with h2 | ⟨r, h2, h3⟩
      · exact .inl h2
      · exact .inr ⟨r, by omega, h3⟩
    · subst h1
      simp only [new]
      exact .inl ⟨rfl, rfl⟩
  · intro m n hmn hn hr
    rcases two (by simpa using hn) with h1 | h1
    · simp only [old h1, old (show m < s.ops.length by omega)] at hr ⊢; exact h.once m n hmn h1 hr
    · subst h1
      simp only [new] at hr
      exact absurd rfl hr
  · intro p n hp
    rw [hgs]
    simp only [updI] at hp
    by_cases hpe : p = e.proc
    · rw [if_pos hpe] at hp
      injection hp with hp
      subst hp hpe
      simp only [new]
      exact ⟨by simp, rfl, rfl, gnew, hl⟩
    · rw [if_neg hpe] at hp
      obtain ⟨h1, h2⟩ := h.busy p n hp
      simp only [old h1]
      exact ⟨by simp; omega, h2⟩
  · intro n hn hr hg
    rw [hgs] at hg
    simp only [updI]
    rcases two (by simpa using hn) with h1 | h1
    · simp only [old h1] at hr ⊢
      rcases h.free n h1 hr hg with h2 | h2
      · by_cases hpe : (oAt s.ops n).proc = e.proc
        · rw [hpe, hb] at h2; cases h2
        · rw [if_neg hpe]; exact .inl h2
      · exact .inr h2
    · subst h1
      simp only [new]
      exact .inl (if_pos rfl)
  · intro m n hmn hn hp hg
    rw [hgs] at hg
    rcases two (by simpa using hn) with h1 | h1
    · simp only [old h1, old (show m < s.ops.length by omega)] at hp ⊢; exact h.order m n hmn h1 hp hg
    · subst h1
      simp only [new, old hmn] at hp ⊢
      have hp : (oAt s.ops m).proc = e.proc := hp
      rcases h.ret m hmn with ⟨h2, _⟩ | ⟨r, h2, h3, _⟩
      · rcases h.free m hmn h2 hg with h4 | h4
        · rw [hp, hb] at h4; cases h4
        · rw [hp, hl] at h4; exact absurd rfl h4
      · rw [h3]
        refine ⟨by omega, ?_⟩
        show (r : Int) < (i : Int)
        omega
theorem seeOk_end {l : List Ev} {i : Nat} {s s' : SeeS} {e : Ev} (h : SeeOk l i s) (he : l[i]? = some e) (hok : evOkB e = true) (hty : e.ty ≠ 1) (hs : endF e i s = some s') : SeeOk l (i + 1) s' := by
  unfold endF at hs
  split at hs
  · cases hs
  rename_i n hb
  split at hs
  rotate_left
  · cases hs
  rename_i hfit
  injection hs with hs
  subst hs
  obtain ⟨hn, hnp, hnr, hng, hnl⟩ := h.busy e.proc n hb
  have hng' : n < s.gone.length := by rw [h.glen]; exact hn
  -- the ops, and what is gone
  obtain ⟨O, hO⟩ : ∃ O, O = (if e.ty = 2 then s.ops.set n (endOp (oAt s.ops n) e i) else s.ops) := ⟨_, rfl⟩
  obtain ⟨G, hG⟩ : ∃ G, G = (if e.ty = 3 then s.gone.set n true else s.gone) := ⟨_, rfl⟩
  obtain ⟨Lo, hLo⟩ : ∃ Lo, Lo = (if e.ty = 4 then updI s.lost e.proc (some i) else s.lost) := ⟨_, rfl⟩
  rw [← hO, ← hG, ← hLo]
  have olen : O.length = s.ops.length := by rw [hO]; split <;> simp
  have glen : G.length = s.ops.length := by rw [hG]; split <;> simp [h.glen]
  have oat : ∀ m, oAt O m = if e.ty = 2 ∧ n = m then endOp (oAt s.ops n) e i else oAt s.ops m := by
    intro m
    rw [hO]
    by_cases h2 : e.ty = 2
    · rw [if_pos h2, oAt_setE hn]
      by_cases hnm : n = m
      · rw [if_pos hnm, if_pos ⟨h2, hnm⟩]
      · rw [if_neg hnm, if_neg (fun hh => hnm hh.2)]
    · rw [if_neg h2, if_neg (fun hh => h2 hh.1)]
  have gat : ∀ m, G.getD m false = if e.ty = 3 ∧ n = m then true else goneAt s m := by
    intro m
    rw [hG]
    by_cases h2 : e.ty = 3
    · rw [if_pos h2, goneAt_set hng']
      by_cases hnm : n = m
      · rw [if_pos hnm, if_pos ⟨h2, hnm⟩]
      · rw [if_neg hnm, if_neg (fun hh => hnm hh.2)]
    · rw [if_neg h2, if_neg (fun hh => h2 hh.1)]; rfl
  have gone_of : ∀ m, G.getD m false = false → goneAt s m = false := by
    intro m hm
    rw [gat] at hm
    split at hm
    · cases hm
    · exact hm
  -- fields that stay
  have stay : ∀ m, (oAt O m).proc = (oAt s.ops m).proc ∧ (oAt O m).key = (oAt s.ops m).key ∧ (oAt O m).kind = (oAt s.ops m).kind ∧ (oAt O m).a = (oAt s.ops m).a ∧ (oAt O m).b = (oAt s.ops m).b ∧ (oAt O m).call = (oAt s.ops m).call := by
    intro m
    rw [oat]
    split
    · rename_i hh; obtain ⟨_, rfl⟩ := hh; exact ⟨rfl, rfl, rfl, rfl, rfl, rfl⟩
    · exact ⟨rfl, rfl, rfl, rfl, rfl, rfl⟩
  have retO : ∀ m, (oAt O m).ret = if e.ty = 2 ∧ n = m then (i : Int) else (oAt s.ops m).ret := by
    intro m
    rw [oat]
    split <;> rfl
  have resO : ∀ m, (oAt O m).res = if e.ty = 2 ∧ n = m then e.res else (oAt s.ops m).res := by
    intro m
    rw [oat]
    split <;> rfl
  have retlt : ∀ m, m < s.ops.length → (oAt s.ops m).ret < i := by
    intro m hm
    rcases h.ret m hm with ⟨h2, _⟩ | ⟨r, h2, h3, _⟩
    · rw [h2]; omega
    · rw [h3]; omega
  have busyN : ∀ p m, s.busy p = some m → p ≠ e.proc → m ≠ n := fun p m hp hpe hmn => by
    subst hmn
    exact hpe ((h.busy p m hp).2.1.symm.trans hnp)
  refine ⟨by rw [glen, olen], ?_, ?_, ?_, ?_, ?_, ?_, ?_⟩
  · intro m hm
    simp only at hm ⊢
    rw [olen] at hm
    obtain ⟨s1, s2, s3, s4, s5, s6⟩ := stay m
    obtain ⟨c, h2, h3⟩ := h.called m hm
    rw [s1, s2, s3, s4, s5, s6]
    exact ⟨c, by omega, h3⟩
  · intro m k hmk hk
    simp only at hk ⊢
    rw [olen] at hk
    rw [(stay m).2.2.2.2.2, (stay k).2.2.2.2.2]
    exact h.rise m k hmk hk
  · intro m hm
    simp only at hm
    rw [olen] at hm
    have hgm : goneAt ⟨O, updI s.busy e.proc none, Lo, G⟩ m = G.getD m false := rfl
    simp only [retO, resO, (stay m).2.2.2.2.2, hgm, gat]
    by_cases h2 : e.ty = 2 ∧ n = m
    · simp only [if_pos h2]
      obtain ⟨h2, rfl⟩ := h2
      obtain ⟨c, h5, h6, _⟩ := h.called n hn
      refine .inr ⟨i, by omega, rfl, by rw [h6]; omega, ?_, e, he, h2, hok, rfl⟩
      rw [if_neg (fun hh => by rw [h2] at hh; exact absurd hh.1 (by decide))]
      exact hng
    · simp only [if_neg h2]
      rcases h.ret m hm with h3 | ⟨r, h3, h4, h5, h6, h7⟩
      · exact .inl h3
      · refine .inr ⟨r, by omega, h4, h5, ?_, h7⟩
        rw [if_neg (fun hh => by obtain ⟨_, rfl⟩ := hh; rw [hnr] at h4; omega)]
        exact h6
  · intro m k hmk hk
    simp only at hk
    rw [olen] at hk
    simp only [retO]
    intro hr
    have hm : m < s.ops.length := by omega
    have r1 := retlt m hm
    have r2 := retlt k hk
    by_cases hk2 : e.ty = 2 ∧ n = k
    · rw [if_pos hk2, if_neg (fun hh => by have := hh.2; have := hk2.2; omega)]
      omega
    · rw [if_neg hk2] at hr ⊢
      by_cases hm2 : e.ty = 2 ∧ n = m
      · rw [if_pos hm2]; omega
      · rw [if_neg hm2]; exact h.once m k hmk hk hr
  · intro p m hp
    simp only [updI] at hp
    by_cases hpe : p = e.proc
    · rw [if_pos hpe] at hp; cases hp
    · rw [if_neg hpe] at hp
      obtain ⟨h1, h2, h3, h4, h5⟩ := h.busy p m hp
      have hmn := busyN p m hp hpe
      have hgm : goneAt ⟨O, updI s.busy e.proc none, Lo, G⟩ m = G.getD m false := rfl
      simp only [hgm, gat, retO, (stay m).1]
      rw [if_neg (fun hh => hmn hh.2.symm), if_neg (fun hh => hmn hh.2.symm)]
      refine ⟨by show m < O.length; rw [olen]; exact h1, h2, h3, h4, ?_⟩
      show Lo p = none
      rw [hLo]
      split
      · unfold updI; rw [if_neg hpe]; exact h5
      · exact h5
  · intro m hm hr hg
    simp only at hm hr ⊢
    rw [olen] at hm
    have hgm : goneAt ⟨O, updI s.busy e.proc none, Lo, G⟩ m = G.getD m false := rfl
    rw [hgm] at hg
    rw [(stay m).1]
    have hgm2 := gone_of m hg
    by_cases hmn : n = m
    · subst hmn
      have h2 : e.ty ≠ 2 := fun hh => by rw [retO, if_pos ⟨hh, rfl⟩] at hr; omega
      have h3 : e.ty ≠ 3 := fun hh => by rw [gat, if_pos ⟨hh, rfl⟩] at hg; cases hg
      have h4 : e.ty = 4 := by
        unfold evOkB inB at hok
        simp at hok
        omega
      refine .inr ?_
      show Lo (oAt s.ops n).proc ≠ none
      rw [hLo, if_pos h4, hnp]
      unfold updI
      rw [if_pos rfl]
      simp
    · rw [retO, if_neg (fun hh => hmn hh.2)] at hr
      rcases h.free m hm hr hgm2 with h5 | h5
      · by_cases hpe : (oAt s.ops m).proc = e.proc
        · rw [hpe, hb] at h5
          injection h5 with h5
          exact absurd h5 hmn
        · left
          unfold updI
          rw [if_neg hpe]
          exact h5
      · right
        show Lo _ ≠ none
        rw [hLo]
        split
        · unfold updI
          split
          · simp
          · exact h5
        · exact h5
  · intro m k hmk hk hp hg
    simp only at hk hp ⊢
    rw [olen] at hk
    have hgm : goneAt ⟨O, updI s.busy e.proc none, Lo, G⟩ m = G.getD m false := rfl
    rw [hgm] at hg
    rw [(stay m).1, (stay k).1] at hp
    have h1 := h.order m k hmk hk hp (gone_of m hg)
    rw [retO, (stay k).2.2.2.2.2]
    rw [if_neg (fun hh => by obtain ⟨_, rfl⟩ := hh; rw [hnr] at h1; omega)]
    exact h1
theorem seeOk_step {l : List Ev} {i : Nat} {s s' : SeeS} {e : Ev} (h : SeeOk l i s) (hi : l[i]? = some e) (hs : stepE e i s = some s') : SeeOk l (i + 1) s' := by
  unfold stepE at hs
  split at hs
  · rename_i hok
    split at hs
    · rename_i hty; exact seeOk_begin h hi hok hty hs
    · rename_i hty; exact seeOk_end h hi hok hty hs
  · cases hs
theorem runE_ok {l : List Ev} : ∀ (r r' : List Ev) (i : Nat) (s s' : SeeS), l.drop i = r ++ r' → SeeOk l i s → runE r i s = some s' → SeeOk l (i + r.length) s'
  | [], r', i, s, s', _, h, hr => by
    simp only [runE, Option.some.injEq] at hr
    subst hr
    exact h
  | e :: r, r', i, s, s', hd, h, hr => by
    have hi : l[i]? = some e := by
      have := congrArg (fun x => x[0]?) hd
      simpa using this
    have hd' : l.drop (i + 1) = r ++ r' := by
      have := congrArg List.tail hd
      simpa using this
    rw [runE] at hr
    cases hs : stepE e i s with
    | none => rw [hs] at hr; cases hr
    | some s1 =>
      rw [hs] at hr
      have hr : runE r (i + 1) s1 = some s' := hr
      have h1 : SeeOk l (i + 1) s1 := seeOk_step h hi hs
      have := runE_ok r r' (i + 1) s1 s' hd' h1 hr
      rw [List.length_cons, show i + (r.length + 1) = i + 1 + r.length by omega]
      exact this
end Go.Proofs.YtglioflpblpmpaaGreatDoor
namespace Go.Proofs.YtglioflpblpmpaaGreatDoor
set_option linter.unusedVariables false
set_option linter.unusedSimpArgs false
/-- A digit of base 36. -/
def dig36 (d : Nat) : Nat := if d < 10 then 48 + d else 87 + d
def undig (c : Nat) : Nat := if c < 58 then c - 48 else c - 87
/-- The digits of a number, ahead of others. -/
def digs36 : Nat → Nat → List Nat → List Nat
  | 0, u, acc => dig36 (u % 36) :: acc
  | f + 1, u, acc => if u < 36 then dig36 u :: acc else digs36 f (u / 36) (dig36 (u % 36) :: acc)
def vfold (s : Nat) : List Nat → Nat
  | [] => s
  | c :: r => vfold (s * 36 + undig c) r
theorem undig_dig {d : Nat} (h : d < 36) : undig (dig36 d) = d := by
  unfold undig dig36
  split <;> split <;> omega
theorem vfold_digs : ∀ (f u : Nat) (acc : List Nat), u < 36 ^ (f + 1) → vfold 0 (digs36 f u acc) = vfold u acc
  | 0, u, acc, h => by
    have h1 : u < 36 := by simpa using h
    rw [digs36, Nat.mod_eq_of_lt h1, vfold, undig_dig h1, Nat.zero_mul, Nat.zero_add]
  | f + 1, u, acc, h => by
    rw [digs36]
    split
    · rename_i h1
      rw [vfold, undig_dig h1, Nat.zero_mul, Nat.zero_add]
    · have h2 : u / 36 < 36 ^ (f + 1) := by
        rw [Nat.div_lt_iff_lt_mul (by omega)]
        rw [Nat.pow_succ] at h
        exact h
      rw [vfold_digs f (u / 36) _ h2, vfold, undig_dig (Nat.mod_lt _ (by omega))]
      rw [show u / 36 * 36 + u % 36 = u by omega]
/-- A byte of a number's text. -/
def okC (c : Nat) : Prop := c ≠ 32 ∧ c ≠ 124 ∧ c < 256
theorem okC_dig {d : Nat} (h : d < 36) : okC (dig36 d) ∧ dig36 d ≠ 45 := by
  unfold okC dig36
  split <;> omega
theorem okC_digs : ∀ (f u : Nat) (acc : List Nat), (∀ c ∈ acc, okC c ∧ c ≠ 45) → ∀ c ∈ digs36 f u acc, okC c ∧ c ≠ 45
  | 0, u, acc, h => by
    intro c hc
    rcases List.mem_cons.1 hc with rfl | hc
    · exact okC_dig (Nat.mod_lt _ (by omega))
    · exact h c hc
  | f + 1, u, acc, h => by
    rw [digs36]
    split
    · rename_i h1
      intro c hc
      rcases List.mem_cons.1 hc with rfl | hc
      · exact okC_dig h1
      · exact h c hc
    · refine okC_digs f _ _ fun c hc => ?_
      rcases List.mem_cons.1 hc with rfl | hc
      · exact okC_dig (Nat.mod_lt _ (by omega))
      · exact h c hc
def dig (u : Nat) : List Nat := digs36 13 u []
def itoa36 (n : Int) : List Nat := if n < 0 then 45 :: dig n.natAbs else dig n.natAbs
theorem dig_inj {u v : Nat} (hu : u < 18446744073709551616) (hv : v < 18446744073709551616) (h : dig u = dig v) : u = v := by
  have h1 := vfold_digs 13 u [] (Nat.lt_of_lt_of_le hu (by decide))
  have h2 := vfold_digs 13 v [] (Nat.lt_of_lt_of_le hv (by decide))
  have h3 : digs36 13 u [] = digs36 13 v [] := h
  rw [h3, h2] at h1
  exact h1.symm
def i64B (n : Int) : Prop := -9223372036854775808 ≤ n ∧ n ≤ 9223372036854775807
theorem dig_ok (u : Nat) : ∀ c ∈ dig u, okC c ∧ c ≠ 45 := okC_digs 13 u [] (by simp)
theorem itoa_ok (n : Int) : ∀ c ∈ itoa36 n, okC c := by
  intro c hc
  unfold itoa36 at hc
  split at hc
  · rcases List.mem_cons.1 hc with rfl | hc
    · exact ⟨by decide, by decide, by decide⟩
    · exact (dig_ok _ c hc).1
  · exact (dig_ok _ c hc).1
theorem itoa_inj {m n : Int} (hm : i64B m) (hn : i64B n) (h : itoa36 m = itoa36 n) : m = n := by
  unfold i64B at hm hn
  unfold itoa36 at h
  split at h
  · split at h
    · injection h with _ h
      have := dig_inj (by omega) (by omega) h
      omega
    · have := (dig_ok n.natAbs 45 (by rw [← h]; simp)).2
      exact absurd rfl this
  · split at h
    · have := (dig_ok m.natAbs 45 (by rw [h]; simp)).2
      exact absurd rfl this
    · have := dig_inj (by omega) (by omega) h
      omega
/-- Two texts of numbers, each with a mark behind it. -/
theorem tok_split : ∀ (X X' Y Y' : List Nat), (∀ c ∈ X, okC c) → (∀ c ∈ X', okC c) → (∃ y r, Y = y :: r ∧ (y = 32 ∨ y = 124)) → (∃ y r, Y' = y :: r ∧ (y = 32 ∨ y = 124)) → X ++ Y = X' ++ Y' → X = X' ∧ Y = Y'
  | [], [], Y, Y', _, _, _, _, h => ⟨rfl, h⟩
  | [], c :: X', Y, Y', _, h2, ⟨y, r, e, hy⟩, _, h => by
    subst e
    simp only [List.nil_append, List.cons_append] at h
    injection h with h _
    have := h2 c (by simp)
    unfold okC at this
    omega
  | c :: X, [], Y, Y', h1, _, _, ⟨y, r, e, hy⟩, h => by
    subst e
    simp only [List.nil_append, List.cons_append] at h
    injection h with h _
    have := h1 c (by simp)
    unfold okC at this
    omega
  | c :: X, c' :: X', Y, Y', h1, h2, h3, h4, h => by
    simp only [List.cons_append] at h
    injection h with e h
    obtain ⟨e1, e2⟩ := tok_split X X' Y Y' (fun c hc => h1 c (by simp [hc])) (fun c hc => h2 c (by simp [hc])) h3 h4 h
    exact ⟨by rw [e, e1], e2⟩
def encL (l : List Int) : List Nat := l.flatMap (fun n => 32 :: itoa36 n) ++ [124]
theorem encL_cons (n : Int) (l : List Int) : encL (n :: l) = 32 :: itoa36 n ++ encL l := by simp [encL]
theorem encL_head (l : List Int) (r : List Nat) : ∃ y r', encL l ++ r = y :: r' ∧ (y = 32 ∨ y = 124) := by
  cases l with
  | nil => exact ⟨124, r, rfl, .inr rfl⟩
  | cons n l => exact ⟨32, itoa36 n ++ encL l ++ r, by rw [encL_cons]; rfl, .inl rfl⟩
theorem encL_inj : ∀ (l l' : List Int) (r r' : List Nat), (∀ n ∈ l, i64B n) → (∀ n ∈ l', i64B n) → encL l ++ r = encL l' ++ r' → l = l' ∧ r = r'
  | [], [], r, r', _, _, h => by
    simp [encL] at h
    exact ⟨rfl, h⟩
  | [], n :: l', r, r', _, _, h => by
    rw [encL_cons] at h
    simp [encL] at h
  | n :: l, [], r, r', _, _, h => by
    rw [encL_cons] at h
    simp [encL] at h
  | n :: l, n' :: l', r, r', h1, h2, h => by
    rw [encL_cons, encL_cons] at h
    simp only [List.cons_append, List.append_assoc] at h
    injection h with _ h
    obtain ⟨e1, e2⟩ := tok_split _ _ _ _ (itoa_ok n) (itoa_ok n') (encL_head l r) (encL_head l' r') h
    obtain ⟨e3, e4⟩ := encL_inj l l' r r' (fun c hc => h1 c (by simp [hc])) (fun c hc => h2 c (by simp [hc])) e2
    exact ⟨by rw [itoa_inj (h1 n (by simp)) (h2 n' (by simp)) e1, e3], e4⟩
def encS (sts : Nat → List Int) (ks : List Nat) : List Nat := ks.flatMap fun k => encL (sts k)
theorem encS_inj {sts sts' : Nat → List Int} (h1 : ∀ k, ∀ n ∈ sts k, i64B n) (h2 : ∀ k, ∀ n ∈ sts' k, i64B n) : ∀ ks : List Nat, encS sts ks = encS sts' ks → ∀ k ∈ ks, sts k = sts' k
  | [], _ => by simp
  | k :: ks, h => by
    have h : encL (sts k) ++ encS sts ks = encL (sts' k) ++ encS sts' ks := by simpa [encS] using h
    obtain ⟨e1, e2⟩ := encL_inj _ _ _ _ (h1 k) (h2 k) h
    intro j hj
    rcases List.mem_cons.1 hj with rfl | hj
    · exact e1
    · exact encS_inj h1 h2 ks e2 j hj
def bitF (b : Bool) : Nat := if b then 49 else 48
def keyF (n : Nat) (dn : Nat → Bool) (sts : Nat → List Int) : List Nat := (List.range n).map (fun i => bitF (dn i)) ++ encS sts (List.range 8)
theorem keyF_inj {n : Nat} {dn dn' : Nat → Bool} {sts sts' : Nat → List Int} (h1 : ∀ k, ∀ n ∈ sts k, i64B n) (h2 : ∀ k, ∀ n ∈ sts' k, i64B n) (h : keyF n dn sts = keyF n dn' sts') : (∀ i, i < n → dn i = dn' i) ∧ ∀ k, k < 8 → sts k = sts' k := by
  unfold keyF at h
  obtain ⟨e1, e2⟩ := List.append_inj h (by simp)
  refine ⟨fun i hi => ?_, fun k hk => encS_inj h1 h2 _ e2 k (List.mem_range.2 hk)⟩
  have := congrArg (fun l => l[i]?) e1
  simp [hi] at this
  unfold bitF at this
  cases hd : dn i <;> cases hd' : dn' i <;> simp [hd, hd'] at this ⊢
theorem encL_small (l : List Int) : ∀ c ∈ encL l, c < 256 := by
  intro c hc
  rcases List.mem_append.1 hc with hc | hc
  · obtain ⟨n, _, hc⟩ := List.mem_flatMap.1 hc
    rcases List.mem_cons.1 hc with rfl | hc
    · decide
    · exact (itoa_ok n c hc).2.2
  · have : c = 124 := by simpa using hc
    omega
theorem keyF_small (n : Nat) (dn : Nat → Bool) (sts : Nat → List Int) : ∀ c ∈ keyF n dn sts, c < 256 := by
  intro c hc
  rcases List.mem_append.1 hc with hc | hc
  · obtain ⟨i, _, rfl⟩ := List.mem_map.1 hc
    unfold bitF
    split <;> decide
  · obtain ⟨k, _, hc⟩ := List.mem_flatMap.1 hc
    exact encL_small _ c hc
def strB (l : List Nat) : ByteArray := ⟨(l.map UInt8.ofNat).toArray⟩
theorem strB_inj {l l' : List Nat} (h1 : ∀ c ∈ l, c < 256) (h2 : ∀ c ∈ l', c < 256) (h : strB l = strB l') : l = l' := by
  unfold strB at h
  injection h with h
  have h := congrArg Array.toList h
  simp only at h
  have g : ∀ l : List Nat, (∀ c ∈ l, c < 256) → (l.map UInt8.ofNat).map UInt8.toNat = l := by
    intro l hl
    rw [List.map_map]
    conv => rhs; rw [← List.map_id l]
    refine List.map_congr_left fun c hc => ?_
    simp [Function.comp]
    have := hl c hc
    omega
  rw [← g l h1, ← g l' h2, h]
def keyB (n : Nat) (dn : Nat → Bool) (sts : Nat → List Int) : ByteArray := strB (keyF n dn sts)
end Go.Proofs.YtglioflpblpmpaaGreatDoor
namespace Go.Proofs.YtglioflpblpmpaaGreatDoor
set_option linter.unusedVariables false
set_option linter.unusedSimpArgs false
structure SSt where
  dn : Nat → Bool
  sts : Nat → List Int
  ord : List Int
  ent : List (List Nat)
def dnSet (dn : Nat → Bool) (i : Nat) (b : Bool) : Nat → Bool := fun x => if x = i then b else dn x
def stSet (sts : Nat → List Int) (k : Nat) (st : List Int) : Nat → List Int := fun j => if j = k then st else sts j
def allF (l : List Op8) (dn : Nat → Bool) : Bool := (List.range l.length).all fun i => !decide (0 ≤ (oAt l i).ret) || dn i
def nextF (l : List Op8) (ab : Op8 → Op8 → Bool) (dn : Nat → Bool) (i : Nat) : Bool := !dn i && (List.range l.length).all fun k => k == i || dn k || !ab (oAt l k) (oAt l i)
def keyN (l : List Op8) (i : Nat) : Nat := (oAt l i).key.toNat
/-- What an op makes of the state of its key, if it is told what it would be. -/
def goF (o : Int) (l : List Op8) (sts : Nat → List Int) (i : Nat) : Option (List Int) := match stepF o (sts (keyN l i)) (oAt l i).kind (oAt l i).a (oAt l i).b with
  | none => none
  | some (st', r) => if (oAt l i).ret ≠ -1 ∧ r ≠ (oAt l i).res then none else some st'
def stepS (l : List Op8) (s : SSt) (i : Nat) (st' : List Int) : SSt := ⟨dnSet s.dn i true, stSet s.sts (keyN l i) st', s.ord ++ [(i : Int)], s.ent⟩
def loopF (o : Int) (l : List Op8) (ab : Op8 → Op8 → Bool) (rec : SSt → Int × SSt) : List Nat → SSt → Int × SSt
  | [], s => (2, s)
  | i :: r, s => match nextF l ab s.dn i with
    | false => loopF o l ab rec r s
    | true => match goF o l s.sts i with
      | none => loopF o l ab rec r s
      | some st' => if (rec (stepS l s i st')).1 = 2 then loopF o l ab rec r ⟨s.dn, s.sts, s.ord, (rec (stepS l s i st')).2.ent⟩ else rec (stepS l s i st')
section
variable {o : Int} {l : List Op8} {ab : Op8 → Op8 → Bool} {rec : SSt → Int × SSt} {i : Nat} {r : List Nat} {s : SSt} {st' : List Int}
theorem loopF_skip (h : nextF l ab s.dn i = false) : loopF o l ab rec (i :: r) s = loopF o l ab rec r s := by rw [loopF, h]
theorem loopF_no (h : nextF l ab s.dn i = true) (hg : goF o l s.sts i = none) : loopF o l ab rec (i :: r) s = loopF o l ab rec r s := by rw [loopF, h, hg]
theorem loopF_on (h : nextF l ab s.dn i = true) (hg : goF o l s.sts i = some st') (h2 : (rec (stepS l s i st')).1 = 2) : loopF o l ab rec (i :: r) s = loopF o l ab rec r ⟨s.dn, s.sts, s.ord, (rec (stepS l s i st')).2.ent⟩ := by rw [loopF, h, hg]; exact if_pos h2
theorem loopF_hit (h : nextF l ab s.dn i = true) (hg : goF o l s.sts i = some st') (h2 : (rec (stepS l s i st')).1 ≠ 2) : loopF o l ab rec (i :: r) s = rec (stepS l s i st') := by rw [loopF, h, hg]; exact if_neg h2
end
def putE (l : List Op8) (s : SSt) : SSt := ⟨s.dn, s.sts, s.ord, s.ent ++ [keyF l.length s.dn s.sts]⟩
def enterF (o : Int) (l : List Op8) (ab : Op8 → Op8 → Bool) (bud : Nat) : Nat → SSt → Int × SSt
  | 0, s => (2, s)
  | f + 1, s => match allF l s.dn with
    | true => (1, s)
    | false => if keyF l.length s.dn s.sts ∈ s.ent then (2, s) else if s.ent.length = bud then (3, s) else loopF o l ab (enterF o l ab bud f) (List.range l.length) (putE l s)
section
variable {o : Int} {l : List Op8} {ab : Op8 → Op8 → Bool} {bud f : Nat} {s : SSt}
theorem enterF_all (h : allF l s.dn = true) : enterF o l ab bud (f + 1) s = (1, s) := by rw [enterF, h]
theorem enterF_old (h : allF l s.dn = false) (hk : keyF l.length s.dn s.sts ∈ s.ent) : enterF o l ab bud (f + 1) s = (2, s) := by rw [enterF, h]; exact if_pos hk
theorem enterF_over (h : allF l s.dn = false) (hk : keyF l.length s.dn s.sts ∉ s.ent) (hb : s.ent.length = bud) : enterF o l ab bud (f + 1) s = (3, s) := by rw [enterF, h]; exact (if_neg hk).trans (if_pos hb)
theorem enterF_go (h : allF l s.dn = false) (hk : keyF l.length s.dn s.sts ∉ s.ent) (hb : s.ent.length ≠ bud) : enterF o l ab bud (f + 1) s = loopF o l ab (enterF o l ab bud f) (List.range l.length) (putE l s) := by rw [enterF, h]; exact (if_neg hk).trans (if_neg hb)
end
def startS (o : Int) : SSt := ⟨fun _ => false, fun k => if k < 8 then startF o else [], [], []⟩
def verdF (o : Int) (l : List Op8) (ab : Op8 → Op8 → Bool) (bud : Nat) : Int × SSt := enterF o l ab bud (l.length + 1) (startS o)

/-! ### How many are left -/
def cntD (n : Nat) (dn : Nat → Bool) : Nat := (List.range n).countP dn
def undn (n : Nat) (dn : Nat → Bool) : Nat := (List.range n).countP fun i => !dn i
theorem cnt_undn (n : Nat) (dn : Nat → Bool) : cntD n dn + undn n dn = n := by
  unfold cntD undn
  induction n with
  | zero => rfl
  | succ n ih =>
    rw [List.range_succ, List.countP_append, List.countP_append]
    cases h : dn n <;> simp [h] at ih ⊢ <;> omega
theorem cntD_far {n i : Nat} {dn : Nat → Bool} {b : Bool} (h : n ≤ i) : cntD n (dnSet dn i b) = cntD n dn := by
  unfold cntD
  refine List.countP_congr fun x hx => ?_
  have := List.mem_range.1 hx
  unfold dnSet
  rw [if_neg (by omega)]
theorem cntD_set : ∀ {n i : Nat} {dn : Nat → Bool}, i < n → dn i = false → cntD n (dnSet dn i true) = cntD n dn + 1
  | 0, _, _, h, _ => by omega
  | n + 1, i, dn, h, hd => by
    unfold cntD
    rw [List.range_succ, List.countP_append, List.countP_append]
    by_cases hi : i = n
    · subst hi
      have := cntD_far (n := i) (i := i) (dn := dn) (b := true) (Nat.le_refl _)
      unfold cntD at this
      rw [this]
      simp [dnSet, hd]
    · have := cntD_set (n := n) (i := i) (dn := dn) (by omega) hd
      unfold cntD at this
      rw [this]
      have e : dnSet dn i true n = dn n := by unfold dnSet; rw [if_neg (Ne.symm hi)]
      simp [e]
      omega
theorem undn_set {n i : Nat} {dn : Nat → Bool} (h : i < n) (hd : dn i = false) : undn n (dnSet dn i true) + 1 = undn n dn := by
  have h1 := cnt_undn n dn
  have h2 := cnt_undn n (dnSet dn i true)
  have h3 := cntD_set h hd
  omega
theorem next_dn {l : List Op8} {ab : Op8 → Op8 → Bool} {dn : Nat → Bool} {i : Nat} (h : nextF l ab dn i = true) : dn i = false := by
  unfold nextF at h
  simp at h
  exact h.1

/-! ### A budget -/
section
variable {o : Int} {l : List Op8} {ab : Op8 → Op8 → Bool}
theorem loop_len {rec : SSt → Int × SSt} {B : Nat} (hrec : ∀ s, s.ent.length ≤ B → (rec s).2.ent.length ≤ B) : ∀ (r : List Nat) (s : SSt), s.ent.length ≤ B → (loopF o l ab rec r s).2.ent.length ≤ B
  | [], s, h => h
  | i :: r, s, h => by
    unfold loopF
    split
    · exact loop_len hrec r s h
    · split
      · exact loop_len hrec r s h
      · split
        · exact loop_len hrec r _ (hrec _ h)
        · exact hrec _ h
theorem enter_len {bud : Nat} : ∀ (f : Nat) (s : SSt), s.ent.length ≤ bud → (enterF o l ab bud f s).2.ent.length ≤ bud
  | 0, s, h => h
  | f + 1, s, h => by
    unfold enterF
    split
    · exact h
    · split
      · exact h
      · split
        · exact h
        · refine loop_len (enter_len f) _ _ ?_
          simp [putE]
          omega
/-! ### How many states there can be -/
def tT : Nat → Nat
  | 0 => 1
  | m + 1 => 1 + (m + 1) * tT m
theorem undn_start (n : Nat) : undn n (fun _ => false) = n := by simp [undn]
end
end Go.Proofs.YtglioflpblpmpaaGreatDoor
namespace Go.Proofs.YtglioflpblpmpaaGreatDoor
set_option linter.unusedVariables false
set_option linter.unusedSimpArgs false
/-- What is asked of ops. -/
structure ArgsOk (l : List Op8) : Prop where
  key : ∀ i, i < l.length → 0 ≤ (oAt l i).key ∧ (oAt l i).key < 8
  a : ∀ i, i < l.length → i64B (oAt l i).a
  b : ∀ i, i < l.length → i64B (oAt l i).b
  ret : ∀ i, i < l.length → (oAt l i).ret = -1 ∨ 0 ≤ (oAt l i).ret
theorem ArgsOk.keyN {l : List Op8} (h : ArgsOk l) {i : Nat} (hi : i < l.length) : keyN l i < 8 := by
  have := h.key i hi
  unfold Go.Proofs.YtglioflpblpmpaaGreatDoor.keyN
  omega
/-- A state that can be. -/
structure GoodS (o : Int) (n : Nat) (dn : Nat → Bool) (sts : Nat → List Int) : Prop where
  dnOut : ∀ i, n ≤ i → dn i = false
  stOut : ∀ k, 8 ≤ k → sts k = []
  i64 : ∀ k, ∀ x ∈ sts k, i64B x
  ok : ∀ k, okSt o (sts k)
  len : ∀ k, (sts k).length ≤ cntD n dn + 1
theorem wrap_i64B (z : Int) : i64B (IntKind.i64.wrap z) := by
  unfold i64B
  simp [IntKind.wrap, IntKind.signed, IntKind.bits]
  split <;> omega
theorem stepF_i64 {o : Int} {st st' : List Int} {k a b r : Int} (h : stepF o st k a b = some (st', r)) (hs : ∀ x ∈ st, i64B x) (ha : i64B a) (hb : i64B b) : ∀ x ∈ st', i64B x := by
  have h0 : i64B (st.getD 0 0) := by
    cases st with
    | nil => exact ⟨by decide, by decide⟩
    | cons x st => exact hs x (by simp)
  have hone : ∀ b : Bool, i64B (oneF b) := fun b => by cases b <;> exact ⟨by decide, by decide⟩
  unfold stepF at h
  split at h
  · cases h
  split at h
  · injection h with h; injection h with h1 _; subst h1
    intro x hx
    rw [List.mem_singleton.1 hx]
    unfold regF
    split
    · exact h0
    · split
      · exact ha
      · split
        · exact hb
        · exact h0
  split at h
  · injection h with h; injection h with h1 _; subst h1
    intro x hx
    rw [List.mem_singleton.1 hx]
    split
    · exact wrap_i64B _
    · exact h0
  split at h
  · injection h with h
    have h1 : (setF st k a).1 = st' := by rw [h]
    subst h1
    unfold setF
    intro x hx
    split at hx
    · simp only [insF, List.mem_append, List.mem_cons] at hx
      rcases hx with hx | rfl | hx
      · exact hs x (List.mem_of_mem_take hx)
      · exact ha
      · exact hs x (List.mem_of_mem_drop hx)
    · split at hx
      · simp only [delF, List.mem_append] at hx
        rcases hx with hx | hx
        · exact hs x (List.mem_of_mem_take hx)
        · exact hs x (List.mem_of_mem_drop hx)
      · exact hs x hx
  split at h
  · split at h
    · injection h with h; injection h with h1 _; subst h1
      intro x hx
      rw [List.mem_singleton.1 hx]
      exact hone _
    · cases h
  · injection h with h
    have h1 : (lineF o st k a).1 = st' := by rw [h]
    subst h1
    unfold lineF
    intro x hx
    split at hx
    · rcases List.mem_append.1 hx with hx | hx
      · exact hs x hx
      · rw [List.mem_singleton.1 hx]; exact ha
    · split at hx
      · exact hs x hx
      · split at hx
        · exact hs x (List.mem_of_mem_drop hx)
        · exact hs x (List.mem_of_mem_take hx)
theorem goF_step {o : Int} {l : List Op8} {sts : Nat → List Int} {i : Nat} {st' : List Int} (h : goF o l sts i = some st') : ∃ r, stepF o (sts (keyN l i)) (oAt l i).kind (oAt l i).a (oAt l i).b = some (st', r) ∧ ¬ ((oAt l i).ret ≠ -1 ∧ r ≠ (oAt l i).res) := by
  unfold goF at h
  split at h
  · cases h
  · rename_i s' r hs
    split at h
    · cases h
    · rename_i hn
      injection h with h
      subst h
      exact ⟨r, hs, hn⟩
theorem GoodS.step {o : Int} {l : List Op8} {dn : Nat → Bool} {sts : Nat → List Int} {i : Nat} {st' : List Int} (h : GoodS o l.length dn sts) (hA : ArgsOk l) (hi : i < l.length) (hd : dn i = false) (hg : goF o l sts i = some st') : GoodS o l.length (dnSet dn i true) (stSet sts (keyN l i) st') := by
  obtain ⟨r, hs, _⟩ := goF_step hg
  have hc := cntD_set hi hd
  have hk := hA.keyN hi
  refine ⟨fun j hj => ?_, fun k hk' => ?_, fun k => ?_, fun k => ?_, fun k => ?_⟩
  · unfold dnSet; rw [if_neg (by omega)]; exact h.dnOut j hj
  · unfold stSet; rw [if_neg (by omega)]; exact h.stOut k hk'
  · unfold stSet; split
    · exact stepF_i64 hs (h.i64 _) (hA.a i hi) (hA.b i hi)
    · exact h.i64 k
  · unfold stSet; split
    · exact stepF_ok hs (h.ok _)
    · exact h.ok k
  · rw [hc]; unfold stSet; split
    · have := stepF_len hs
      have := h.len (keyN l i)
      omega
    · have := h.len k
      omega
theorem goodS_start (o : Int) (n : Nat) : GoodS o n (startS o).dn (startS o).sts := by
  refine ⟨fun _ _ => rfl, fun k hk => if_neg (by omega), fun k x hx => ?_, fun k => ?_, fun k => ?_⟩
  · simp only [startS] at hx
    split at hx
    · unfold startF at hx
      split at hx
      · rw [List.mem_singleton.1 hx]; exact ⟨by decide, by decide⟩
      · cases hx
    · cases hx
  · simp only [startS]
    split
    · exact okSt_start o
    · intro _; exact .nil
  · simp only [startS]
    split
    · have := startF_len o; omega
    · simp
theorem GoodS.key_inj {o : Int} {n : Nat} {dn dn' : Nat → Bool} {sts sts' : Nat → List Int} (h : GoodS o n dn sts) (h' : GoodS o n dn' sts') (he : keyF n dn sts = keyF n dn' sts') : dn = dn' ∧ sts = sts' := by
  obtain ⟨e1, e2⟩ := keyF_inj h.i64 h'.i64 he
  constructor
  · funext i
    rcases Nat.lt_or_ge i n with hi | hi
    · exact e1 i hi
    · rw [h.dnOut i hi, h'.dnOut i hi]
  · funext k
    rcases Nat.lt_or_ge k 8 with hk | hk
    · exact e2 k hk
    · rw [h.stOut k hk, h'.stOut k hk]

/-! ### What there is it does not miss -/
section
variable (o : Int) (l : List Op8) (ab : Op8 → Op8 → Bool)
/-- A way on to the end. -/
def Wit : List Nat → (Nat → Bool) → (Nat → List Int) → Prop
  | [], dn, _ => allF l dn = true
  | i :: r, dn, sts => i < l.length ∧ nextF l ab dn i = true ∧ ∃ st', goF o l sts i = some st' ∧ Wit r (dnSet dn i true) (stSet sts (keyN l i) st')
def Dead (dn : Nat → Bool) (sts : Nat → List Int) : Prop := ∀ r, ¬ Wit o l ab r dn sts
def DeadK (k : List Nat) : Prop := ∀ dn sts, GoodS o l.length dn sts → keyF l.length dn sts = k → Dead o l ab dn sts
def EntP (m : Nat) (ent : List (List Nat)) : Prop := ∀ k ∈ ent, ∀ dn sts, GoodS o l.length dn sts → keyF l.length dn sts = k → Dead o l ab dn sts ∨ cntD l.length dn < m
end
section
variable {o : Int} {l : List Op8} {ab : Op8 → Op8 → Bool}
theorem loop_complete (hA : ArgsOk l) {rec : SSt → Int × SSt} {m : Nat} (hrec : ∀ s, GoodS o l.length s.dn s.sts → cntD l.length s.dn = m + 1 → EntP o l ab (m + 1) s.ent → (rec s).1 = 2 → Dead o l ab s.dn s.sts ∧ ∀ k ∈ (rec s).2.ent, k ∈ s.ent ∨ DeadK o l ab k) :
    ∀ (r : List Nat) (s : SSt), (∀ i ∈ r, i < l.length) → GoodS o l.length s.dn s.sts → cntD l.length s.dn = m → EntP o l ab (m + 1) s.ent → (loopF o l ab rec r s).1 = 2 →
    (∀ i ∈ r, nextF l ab s.dn i = true → ∀ st', goF o l s.sts i = some st' → Dead o l ab (dnSet s.dn i true) (stSet s.sts (keyN l i) st')) ∧ ∀ k ∈ (loopF o l ab rec r s).2.ent, k ∈ s.ent ∨ DeadK o l ab k
  | [], s, _, _, _, _, _ => ⟨by simp, fun k hk => .inl hk⟩
  | i :: r, s, hr, hG, hm, hE, h2 => by
    have hr' : ∀ j ∈ r, j < l.length := fun j hj => hr j (by simp [hj])
    cases hx : nextF l ab s.dn i with
    | false =>
      rw [loopF_skip hx] at h2 ⊢
      obtain ⟨h3, h4⟩ := loop_complete hA hrec r s hr' hG hm hE h2
      refine ⟨fun j hj hn st' hg => ?_, h4⟩
      rcases List.mem_cons.1 hj with rfl | hj
      · rw [hx] at hn; cases hn
      · exact h3 j hj hn st' hg
    | true =>
      cases hg0 : goF o l s.sts i with
      | none =>
        rw [loopF_no hx hg0] at h2 ⊢
        obtain ⟨h3, h4⟩ := loop_complete hA hrec r s hr' hG hm hE h2
        refine ⟨fun j hj hn st' hg => ?_, h4⟩
        rcases List.mem_cons.1 hj with rfl | hj
        · rw [hg0] at hg; cases hg
        · exact h3 j hj hn st' hg
      | some st1 =>
        have hd := next_dn hx
        have hi : i < l.length := hr i (by simp)
        have hGc := hG.step hA hi hd hg0
        have hcc := cntD_set hi hd
        by_cases hc2 : (rec (stepS l s i st1)).1 = 2
        · rw [loopF_on hx hg0 hc2] at h2 ⊢
          obtain ⟨h5, h6⟩ := hrec (stepS l s i st1) hGc (by show cntD l.length (dnSet s.dn i true) = m + 1; omega) hE hc2
          have hE' : EntP o l ab (m + 1) (rec (stepS l s i st1)).2.ent := by
            intro k hk dn sts g1 g2
            rcases h6 k hk with h7 | h7
            · exact hE k h7 dn sts g1 g2
            · exact .inl (h7 dn sts g1 g2)
          obtain ⟨h3, h4⟩ := loop_complete hA hrec r ⟨s.dn, s.sts, s.ord, (rec (stepS l s i st1)).2.ent⟩ hr' hG hm hE' h2
          refine ⟨fun j hj hn st' hg => ?_, fun k hk => ?_⟩
          · rcases List.mem_cons.1 hj with rfl | hj
            · rw [hg0] at hg; injection hg with hg; subst hg; exact h5
            · exact h3 j hj hn st' hg
          · rcases h4 k hk with h7 | h7
            · exact h6 k h7
            · exact .inr h7
        · rw [loopF_hit hx hg0 hc2] at h2
          exact absurd h2 hc2
theorem enter_complete (hA : ArgsOk l) {bud : Nat} : ∀ (f : Nat) (s : SSt), GoodS o l.length s.dn s.sts → undn l.length s.dn < f → EntP o l ab (cntD l.length s.dn) s.ent → (enterF o l ab bud f s).1 = 2 →
    Dead o l ab s.dn s.sts ∧ ∀ k ∈ (enterF o l ab bud f s).2.ent, k ∈ s.ent ∨ DeadK o l ab k
  | 0, s, _, h, _, _ => absurd h (by omega)
  | f + 1, s, hG, hf, hE, h2 => by
    cases ha : allF l s.dn with
    | true => rw [enterF_all ha] at h2; exact absurd h2 (by simp)
    | false =>
      by_cases hk : keyF l.length s.dn s.sts ∈ s.ent
      · rw [enterF_old ha hk] at h2 ⊢
        refine ⟨?_, fun k hk => .inl hk⟩
        rcases hE _ hk s.dn s.sts hG rfl with h3 | h3
        · exact h3
        · omega
      · by_cases hb : s.ent.length = bud
        · rw [enterF_over ha hk hb] at h2; exact absurd h2 (by simp)
        · rw [enterF_go ha hk hb] at h2 ⊢
          have hE' : EntP o l ab (cntD l.length s.dn + 1) (putE l s).ent := by
            intro k hk dn sts g1 g2
            simp only [putE, List.mem_append, List.mem_singleton] at hk
            rcases hk with hk | hk
            · rcases hE k hk dn sts g1 g2 with h3 | h3
              · exact .inl h3
              · exact .inr (by omega)
            · obtain ⟨e1, e2⟩ := g1.key_inj hG (g2.trans hk)
              subst e1
              exact .inr (by omega)
          have hcu := cnt_undn l.length s.dn
          obtain ⟨h3, h4⟩ := loop_complete hA (rec := enterF o l ab bud f) (m := cntD l.length s.dn) (fun s' g1 g2 g3 g4 => by
            have hcu' := cnt_undn l.length s'.dn
            exact enter_complete hA f s' g1 (by omega) (by rw [g2]; exact g3) g4) (List.range l.length) (putE l s) (fun i hi => List.mem_range.1 hi) hG rfl hE' h2
          have hdead : Dead o l ab s.dn s.sts := by
            intro r hw
            cases r with
            | nil =>
              have : allF l s.dn = true := hw
              rw [ha] at this; cases this
            | cons i r =>
              obtain ⟨w1, w2, st', w3, w4⟩ := hw
              exact h3 i (List.mem_range.2 w1) w2 st' w3 r w4
          refine ⟨hdead, fun k hk => ?_⟩
          rcases h4 k hk with h5 | h5
          · simp only [putE, List.mem_append, List.mem_singleton] at h5
            rcases h5 with h5 | h5
            · exact .inl h5
            · refine .inr fun dn sts g1 g2 => ?_
              obtain ⟨e1, e2⟩ := g1.key_inj hG (g2.trans h5)
              subst e1 e2
              exact hdead
          · exact .inr h5
theorem verd_complete (hA : ArgsOk l) {bud : Nat} (h2 : (verdF o l ab bud).1 = 2) : Dead o l ab (fun _ => false) (startS o).sts := by
  refine (enter_complete hA _ _ (goodS_start o l.length) ?_ (fun k hk => by cases hk) h2).1
  have : undn l.length (startS o).dn = l.length := undn_start l.length
  omega

/-! ### What it finds is so -/
/-- Ops done in an order, from states to states. -/
def RunL (o : Int) (l : List Op8) : List Int → (Nat → List Int) → (Nat → List Int) → Prop
  | [], a, b => a = b
  | i :: r, a, b => ∃ st', goF o l a i.toNat = some st' ∧ RunL o l r (stSet a (keyN l i.toNat) st') b
theorem RunL_snoc {i : Int} {st' : List Int} : ∀ (r : List Int) (a b : Nat → List Int), RunL o l r a b → goF o l b i.toNat = some st' → RunL o l (r ++ [i]) a (stSet b (keyN l i.toNat) st')
  | [], a, b, h, hg => by
    have h : a = b := h
    subst h
    exact ⟨st', hg, rfl⟩
  | j :: r, a, b, h, hg => by
    obtain ⟨s1, h1, h2⟩ := h
    exact ⟨s1, h1, RunL_snoc r _ b h2 hg⟩
/-- An order that is good as far as it goes. -/
structure Reach (o : Int) (l : List Op8) (ab : Op8 → Op8 → Bool) (dn : Nat → Bool) (sts : Nat → List Int) (ord : List Int) : Prop where
  dnE : ∀ i, dn i = ord.contains ((i : Nat) : Int)
  rng : ∀ i ∈ ord, 0 ≤ i ∧ i < l.length
  nodup : ord.Nodup
  run : RunL o l ord (startS o).sts sts
  ahead : ord.Pairwise fun a b => ab (oAt l b.toNat) (oAt l a.toNat) = false
  left : ∀ a ∈ ord, ∀ k, k < l.length → dn k = false → ab (oAt l k) (oAt l a.toNat) = false
theorem Reach.start : Reach o l ab (fun _ => false) (startS o).sts [] := ⟨fun i => by simp, by simp, by simp, rfl, .nil, by simp⟩
theorem Reach.step {dn : Nat → Bool} {sts : Nat → List Int} {ord : List Int} {i : Nat} {st' : List Int} (h : Reach o l ab dn sts ord) (hi : i < l.length) (hn : nextF l ab dn i = true) (hg : goF o l sts i = some st') : Reach o l ab (dnSet dn i true) (stSet sts (keyN l i) st') (ord ++ [(i : Int)]) := by
  have hd := next_dn hn
  have hnx : ∀ k, k < l.length → k ≠ i → dn k = false → ab (oAt l k) (oAt l i) = false := by
    intro k hk hki hdk
    unfold nextF at hn
    simp only [Bool.and_eq_true, List.all_eq_true, List.mem_range] at hn
    have := hn.2 k hk
    simp [hki, hdk] at this
    exact this
  have hni : ((i : Nat) : Int) ∉ ord := fun hm => by
    have := h.dnE i
    rw [hd] at this
    simp [hm] at this
  refine ⟨fun j => ?_, fun j hj => ?_, ?_, ?_, ?_, fun a ha k hk hdk => ?_⟩
  · unfold dnSet
    by_cases hj : j = i
    · subst hj; simp
    · rw [if_neg hj, h.dnE j]
      rw [Bool.eq_iff_iff]
      simp
      omega
  · rcases List.mem_append.1 hj with hj | hj
    · exact h.rng j hj
    · rw [List.mem_singleton.1 hj]; omega
  · rw [List.nodup_append]
    refine ⟨h.nodup, by simp, fun a ha b hb => ?_⟩
    rw [List.mem_singleton.1 hb]
    intro e
    exact hni (e ▸ ha)
  · exact RunL_snoc (i := (i : Int)) ord _ _ h.run (by simpa using hg)
  · rw [List.pairwise_append]
    refine ⟨h.ahead, by simp, fun a ha b hb => ?_⟩
    rw [List.mem_singleton.1 hb, Int.toNat_natCast]
    exact h.left a ha i hi hd
  · have hki : k ≠ i := fun e => by subst e; simp [dnSet] at hdk
    have hdk' : dn k = false := by unfold dnSet at hdk; rwa [if_neg hki] at hdk
    rcases List.mem_append.1 ha with ha | ha
    · exact h.left a ha k hk hdk'
    · rw [List.mem_singleton.1 ha, Int.toNat_natCast]
      exact hnx k hk hki hdk'
/-! ### Orders that show -/
end
end Go.Proofs.YtglioflpblpmpaaGreatDoor
namespace Go.Proofs.YtglioflpblpmpaaGreatDoor
open Go.RowKit
set_option linter.unusedVariables false
set_option linter.unusedSimpArgs false
/-- Whether ops may be looked at. -/
def OkLin (o : Int) (l : List Op8) (bud : Int) : Prop := 1 ≤ o ∧ o ≤ 6 ∧ 0 ≤ bud ∧ bud ≤ 1000000 ∧ OkOps l ∧ ∀ k, k < l.length → knowsF o (oAt l k).kind = true
def LinPost (o : Int) (l : List Op8) (bud : Int) (w0 : World) (en : Ending) (w' : World) : Prop := Pure w0 w' ∧ ((OkLin o l bud ∧ en = .returned .nilIface) ∨ (¬ OkLin o l bud ∧ ∃ x, IsErr x ∧ en = .returned x))
theorem LinPost.bad {o : Int} {l : List Op8} {bud : Int} {w0 w' : World} {z : Int} (h : ¬ OkLin o l bud) (hp : Pure w0 w') : LinPost o l bud w0 (.returned (.iface 49 (.int .i64 z))) w' := ⟨hp, .inr ⟨h, _, ⟨z, rfl⟩, rfl⟩⟩
set_option maxHeartbeats 2000000 in
theorem lcheck_any (o : Int) (A : Option Addr) (n c : Nat) (l : List Op8) (bud : Int) (D : Nat → Prop) (w0 : World) (h : OpsR w0 D (.slice A n c) l) (hk : KnOk w0) : Calls Tryz.prog 36 #[.int .i64 o, .slice A n c, .int .i64 bud] w0 (LinPost o l bud w0) := by
  obtain ⟨hn, hc1, hc2⟩ := h.len
  subst hn
  have hI := Inv.start (fun _ => False) w0
  refine calls_of_W (N := Tryz.f36.ntmps) Tryz.func36 rfl rfl rfl ?_
  refine W_seq ?_
  refine W_region ?_
  refine WL_val rfl rfl rfl (by exact rAsgnN rfl rfl) ?_
  refine WL_nil ?_
  refine W_seq ?_
  refine W_block ?_
  by_cases g1 : o < 1
  · refine W_seq ?_
    refine W_region ?_
    refine WL_val rfl rfl rfl (by exact rMoveI rfl rfl) ?_
    refine WL_val rfl rfl rfl (by exact rLssT rfl rfl rfl (by omega)) ?_
    refine WL_val rfl rfl rfl (by exact rMoveB rfl rfl) ?_
    refine WL_skip rfl rfl rfl ?_
    refine WL_skip rfl rfl rfl ?_
    refine WL_val rfl rfl rfl (by exact rPickTB rfl rfl rfl) ?_
    refine WL_val rfl rfl rfl (by exact rAsgnB rfl rfl) ?_
    refine WL_nil ?_
    refine W_cond true rfl ?_
    refine W_seq ?_
    refine W_region ?_
    refine WL_val rfl rfl rfl (rIface rfl Tryz.underlying49 rfl rfl) ?_
    refine WL_val rfl rfl rfl (by exact rAsgnE rfl rfl) ?_
    refine WL_nil ?_
    refine W_ret ?_
    exact ret1 6 (.inr rfl) rfl (LinPost.bad (fun hh => by have := hh.1; omega) hI.pu)
  by_cases g2 : 6 < o
  · refine W_seq ?_
    refine W_region ?_
    refine WL_val rfl rfl rfl (by exact rMoveI rfl rfl) ?_
    refine WL_val rfl rfl rfl (by exact rLssF rfl rfl rfl (by omega)) ?_
    refine WL_val rfl rfl rfl (by exact rMoveB rfl rfl) ?_
    refine WL_val rfl rfl rfl (by exact rMoveI rfl rfl) ?_
    refine WL_val rfl rfl rfl (by exact rGtrT rfl rfl rfl (by omega)) ?_
    refine WL_val rfl rfl rfl (by exact rPickFB rfl rfl rfl) ?_
    refine WL_val rfl rfl rfl (by exact rAsgnB rfl rfl) ?_
    refine WL_nil ?_
    refine W_cond true rfl ?_
    refine W_seq ?_
    refine W_region ?_
    refine WL_val rfl rfl rfl (rIface rfl Tryz.underlying49 rfl rfl) ?_
    refine WL_val rfl rfl rfl (by exact rAsgnE rfl rfl) ?_
    refine WL_nil ?_
    refine W_ret ?_
    exact ret1 6 (.inr rfl) rfl (LinPost.bad (fun hh => by have := hh.2.1; omega) hI.pu)
  refine W_seq ?_
  refine W_region ?_
  refine WL_val rfl rfl rfl (by exact rMoveI rfl rfl) ?_
  refine WL_val rfl rfl rfl (by exact rLssF rfl rfl rfl (by omega)) ?_
  refine WL_val rfl rfl rfl (by exact rMoveB rfl rfl) ?_
  refine WL_val rfl rfl rfl (by exact rMoveI rfl rfl) ?_
  refine WL_val rfl rfl rfl (by exact rGtrF rfl rfl rfl (by omega)) ?_
  refine WL_val rfl rfl rfl (by exact rPickFB rfl rfl rfl) ?_
  refine WL_val rfl rfl rfl (by exact rAsgnB rfl rfl) ?_
  refine WL_nil ?_
  refine W_cond false rfl ?_
  by_cases g3 : bud < 0
  · refine W_seq ?_
    refine W_region ?_
    refine WL_val rfl rfl rfl (by exact rMoveI rfl rfl) ?_
    refine WL_val rfl rfl rfl (by exact rLssT rfl rfl rfl (by omega)) ?_
    refine WL_val rfl rfl rfl (by exact rMoveB rfl rfl) ?_
    refine WL_skip rfl rfl rfl ?_
    refine WL_skip rfl rfl rfl ?_
    refine WL_val rfl rfl rfl (by exact rPickTB rfl rfl rfl) ?_
    refine WL_val rfl rfl rfl (by exact rAsgnB rfl rfl) ?_
    refine WL_nil ?_
    refine W_cond true rfl ?_
    refine W_seq ?_
    refine W_region ?_
    refine WL_val rfl rfl rfl (rIface rfl Tryz.underlying49 rfl rfl) ?_
    refine WL_val rfl rfl rfl (by exact rAsgnE rfl rfl) ?_
    refine WL_nil ?_
    refine W_ret ?_
    exact ret1 6 (.inr rfl) rfl (LinPost.bad (fun hh => by have := hh.2.2.1; omega) hI.pu)
  by_cases g4 : 1000000 < bud
  · refine W_seq ?_
    refine W_region ?_
    refine WL_val rfl rfl rfl (by exact rMoveI rfl rfl) ?_
    refine WL_val rfl rfl rfl (by exact rLssF rfl rfl rfl (by omega)) ?_
    refine WL_val rfl rfl rfl (by exact rMoveB rfl rfl) ?_
    refine WL_val rfl rfl rfl (by exact rMoveI rfl rfl) ?_
    refine WL_val rfl rfl rfl (by exact rGtrT rfl rfl rfl (by omega)) ?_
    refine WL_val rfl rfl rfl (by exact rPickFB rfl rfl rfl) ?_
    refine WL_val rfl rfl rfl (by exact rAsgnB rfl rfl) ?_
    refine WL_nil ?_
    refine W_cond true rfl ?_
    refine W_seq ?_
    refine W_region ?_
    refine WL_val rfl rfl rfl (rIface rfl Tryz.underlying49 rfl rfl) ?_
    refine WL_val rfl rfl rfl (by exact rAsgnE rfl rfl) ?_
    refine WL_nil ?_
    refine W_ret ?_
    exact ret1 6 (.inr rfl) rfl (LinPost.bad (fun hh => by have := hh.2.2.2.1; omega) hI.pu)
  refine W_seq ?_
  refine W_region ?_
  refine WL_val rfl rfl rfl (by exact rMoveI rfl rfl) ?_
  refine WL_val rfl rfl rfl (by exact rLssF rfl rfl rfl (by omega)) ?_
  refine WL_val rfl rfl rfl (by exact rMoveB rfl rfl) ?_
  refine WL_val rfl rfl rfl (by exact rMoveI rfl rfl) ?_
  refine WL_val rfl rfl rfl (by exact rGtrF rfl rfl rfl (by omega)) ?_
  refine WL_val rfl rfl rfl (by exact rPickFB rfl rfl rfl) ?_
  refine WL_val rfl rfl rfl (by exact rAsgnB rfl rfl) ?_
  refine WL_nil ?_
  refine W_cond false rfl ?_
  refine W_skip ?_
  by_cases hok : OkOps l
  rotate_left
  · refine W_seq ?_
    refine W_seq ?_
    refine W_region ?_
    refine WL_val rfl rfl rfl (by exact rMoveS rfl rfl) ?_
    refine WL_call rfl rfl rfl (rCall (vs := [.slice _ _ _]) rfl Tryz.func56 rfl rfl rfl) ?_
    refine (checkOps_any A _ c l D _ (h.pure hI.pu)).mono ?_
    rintro e w1 ⟨hp, ⟨hg, _⟩ | ⟨_, x, ⟨u, rfl⟩, rfl⟩⟩
    · exact absurd hg hok
    refine ⟨_, rfl, ?_⟩
    replace hI := hI.pure hp
    refine WL_val rfl rfl rfl (by exact rAsgnE rfl rfl) ?_
    refine WL_nil ?_
    refine W_seq ?_
    refine W_region ?_
    refine WL_val rfl rfl rfl (by exact rMoveE rfl rfl) ?_
    refine WL_val rfl rfl rfl (by exact rIfaceNe rfl Tryz.underlying27 rfl rfl) ?_
    refine WL_nil ?_
    refine W_cond true rfl ?_
    refine W_seq ?_
    refine W_region ?_
    refine WL_val rfl rfl rfl (by exact rMoveE rfl rfl) ?_
    refine WL_val rfl rfl rfl (by exact rAsgnE rfl rfl) ?_
    refine WL_nil ?_
    refine W_ret ?_
    exact ret1 6 (.inr rfl) rfl (LinPost.bad (fun hh => hok hh.2.2.2.2.1) hI.pu)
  have hl40 := hok.1
  refine W_seq ?_
  refine W_seq ?_
  refine W_region ?_
  refine WL_val rfl rfl rfl (by exact rMoveS rfl rfl) ?_
  refine WL_call rfl rfl rfl (rCall (vs := [.slice _ _ _]) rfl Tryz.func56 rfl rfl rfl) ?_
  refine (checkOps_any A _ c l D _ (h.pure hI.pu)).mono ?_
  rintro e w1 ⟨hp, ⟨_, rfl⟩ | ⟨hbad, _⟩⟩
  rotate_left
  · exact absurd hok hbad
  refine ⟨_, rfl, ?_⟩
  replace hI := hI.pure hp
  refine WL_val rfl rfl rfl (by exact rAsgnN rfl rfl) ?_
  refine WL_nil ?_
  refine W_seq ?_
  refine W_region ?_
  refine WL_val rfl rfl rfl (by exact rMoveN rfl rfl) ?_
  refine WL_val rfl rfl rfl (by exact rNilNe rfl Tryz.underlying27 rfl) ?_
  refine WL_nil ?_
  refine W_cond false rfl ?_
  refine W_skip ?_
  refine W_seq ?_
  refine W_seq ?_
  refine W_region ?_
  refine WL_val rfl rfl rfl (by exact rMoveS rfl rfl) ?_
  refine WL_val rfl rfl rfl (rLen rfl Tryz.underlying32 rfl) ?_
  refine WL_val rfl rfl rfl (by exact rMoveI rfl rfl) ?_
  refine WL_nil ?_
  refine W_block ?_
  refine W_loopN (fun mu ρ w => ∃ k : Nat, mu = l.length - k ∧ k ≤ l.length ∧ (∀ j, j < k → knowsF o (oAt l j).kind = true) ∧ Has ρ [(33, .int .i64 (k : Int)), (32, .int .i64 (l.length : Int)), (31, .slice A l.length c), (0, .int .i64 o)] ∧ Inv (fun _ => False) w0 w []) l.length
    ⟨0, rfl, by omega, fun j hj => by omega, ⟨rfl, rfl, rfl, rfl, trivial⟩, hI⟩ ?_
  clear hI
  rintro mu ρ w ⟨k, rfl, hkk, hall, hH, hI⟩
  obtain ⟨σ, rfl⟩ := hH.open
  by_cases hkl : k < l.length
  rotate_left
  · obtain rfl : k = l.length := by omega
    refine W_seq ?_
    refine W_region ?_
    refine WL_val rfl rfl rfl (by exact rLssF rfl rfl rfl (by omega)) ?_
    refine WL_nil ?_
    refine W_seq ?_
    refine W_cond false rfl ?_
    refine W_exit ?_
    refine W_seq ?_
    refine W_region ?_
    refine WL_val rfl rfl rfl (by exact rAsgnN rfl rfl) ?_
    refine WL_nil ?_
    refine W_ret ?_
    exact ret1 6 (.inr rfl) rfl ⟨hI.pu, .inl ⟨⟨by omega, by omega, by omega, by omega, hok, hall⟩, rfl⟩⟩
  obtain ⟨ab, ao, rfl, hoc⟩ := h.at hkl
  generalize hpk : oAt l k = pk at hoc
  obtain ⟨p0, p1, p2, p3, p4, p5, p6, p7⟩ := pk
  refine W_seq ?_
  refine W_region ?_
  refine WL_val rfl rfl rfl (by exact rLssT rfl rfl rfl (by omega)) ?_
  refine WL_nil ?_
  refine W_seq ?_
  refine W_cond true rfl ?_
  refine W_skip ?_
  refine W_seq ?_
  refine W_block ?_
  refine W_seq ?_
  refine W_region ?_
  refine WL_val rfl rfl rfl (rIdx (sz := 8) rfl Tryz.underlying32 (by kernel_rfl) rfl rfl (by omega)) ?_
  refine WL_val rfl rfl rfl (by exact rLdA (n := 8) rfl (by kernel_rfl) (by kernel_rfl) rfl (by rfl) (fun k u hk => hI.oldp (hoc k u hk))) ?_
  refine WL_alloc (u := .agg #[.int .i64 0, .int .i64 0, .int .i64 0, .int .i64 0, .int .i64 0, .int .i64 0, .int .i64 0, .int .i64 0]) (vs := #[.int .i64 0, .int .i64 0, .int .i64 0, .int .i64 0, .int .i64 0, .int .i64 0, .int .i64 0, .int .i64 0]) hI rfl rfl rfl rfl (by kernel_rfl) rfl ?_
  clear hI; rintro b9 w - - hI
  refine WL_stw0 (u := .agg _) (vs := #[_, _, _, _, _, _, _, _]) (n := 8) hI rfl rfl rfl rfl rfl rfl (by kernel_rfl) rfl rfl rfl ?_
  clear hI; intro w hI
  refine WL_nil ?_
  simp only [opV] at hI
  cases hkn : knowsF o p2 with
  | true =>
    refine W_seq ?_
    refine W_region ?_
    refine WL_val rfl rfl rfl (by exact rMoveI rfl rfl) ?_
    refine WL_val rfl rfl rfl (by exact rFldN (off := 2) rfl (by kernel_rfl) rfl) ?_
    refine WL_val rfl rfl rfl (by exact rLd (v := .int .i64 _) rfl (by kernel_rfl) rfl (by exact hI.c0 rfl)) ?_
    refine WL_call rfl rfl rfl (rCall (vs := [.int .i64 _, .int .i64 _]) rfl Tryz.func57 rfl rfl rfl) ?_
    refine (knows_any o p2 _ (hk.pure hI.pu)).mono ?_
    rw [hkn]
    rintro e w1 ⟨rfl, hp⟩
    refine ⟨_, rfl, ?_⟩
    replace hI := hI.pure hp
    refine WL_val rfl rfl rfl (by exact rNotT rfl rfl) ?_
    refine WL_nil ?_
    refine W_cond false rfl ?_
    refine W_skip ?_
    replace hI := hI.d0
    refine W_region ?_
    refine WL_val rfl rfl rfl (by exact rInc rfl rfl rfl (by omega)) ?_
    refine WL_val rfl rfl rfl (by exact rMoveI rfl rfl) ?_
    refine WL_nil ?_
    refine ⟨l.length - (k + 1), by omega, k + 1, rfl, by omega, fun j hj => ?_, ⟨rfl, rfl, rfl, rfl, trivial⟩, hI⟩
    rcases Nat.lt_or_ge j k with h1 | h1
    · exact hall j h1
    · obtain rfl : j = k := by omega
      rw [hpk]; exact hkn
  | false =>
    refine W_seq ?_
    refine W_region ?_
    refine WL_val rfl rfl rfl (by exact rMoveI rfl rfl) ?_
    refine WL_val rfl rfl rfl (by exact rFldN (off := 2) rfl (by kernel_rfl) rfl) ?_
    refine WL_val rfl rfl rfl (by exact rLd (v := .int .i64 _) rfl (by kernel_rfl) rfl (by exact hI.c0 rfl)) ?_
    refine WL_call rfl rfl rfl (rCall (vs := [.int .i64 _, .int .i64 _]) rfl Tryz.func57 rfl rfl rfl) ?_
    refine (knows_any o p2 _ (hk.pure hI.pu)).mono ?_
    rw [hkn]
    rintro e w1 ⟨rfl, hp⟩
    refine ⟨_, rfl, ?_⟩
    replace hI := hI.pure hp
    refine WL_val rfl rfl rfl (by exact rNotF rfl rfl) ?_
    refine WL_nil ?_
    refine W_cond true rfl ?_
    refine W_seq ?_
    refine W_region ?_
    refine WL_val rfl rfl rfl (rIface rfl Tryz.underlying49 rfl rfl) ?_
    refine WL_val rfl rfl rfl (by exact rAsgnE rfl rfl) ?_
    refine WL_nil ?_
    refine W_ret ?_
    exact ret1 6 (.inr rfl) rfl (LinPost.bad (fun hh => by have := hh.2.2.2.2.2 k hkl; rw [hpk] at this; rw [show knowsF o _ = false from hkn] at this; cases this) hI.pu)
end Go.Proofs.YtglioflpblpmpaaGreatDoor
namespace Go.Proofs.YtglioflpblpmpaaGreatDoor
open Go.RowKit
set_option linter.unusedVariables false
set_option linter.unusedSimpArgs false
def boolC (n : Nat) (f : Nat → Bool) : Array Value := ((List.range n).map fun i => Value.bool (f i)).toArray
theorem boolC_get {n : Nat} (f : Nat → Bool) {i : Nat} (hi : i < n) : (boolC n f)[i]? = some (.bool (f i)) := by simp [boolC, hi]
theorem boolC_set {n : Nat} (f : Nat → Bool) (u : Nat) (b : Bool) : (boolC n f).setIfInBounds u (.bool b) = boolC n (fun x => if x = u then b else f x) := by
  apply Array.ext'
  simp only [boolC, Array.toList_setIfInBounds]
  refine List.ext_getElem (by simp) (fun i h1 h2 => ?_)
  simp only [List.getElem_set, List.getElem_map, List.getElem_range]
  by_cases h : u = i
  · subst h; simp
  · rw [if_neg h, if_neg (Ne.symm h)]
theorem boolC_zero (n : Nat) : rep (.bool false) n = boolC n (fun _ => false) := by
  apply Array.ext'
  simp [rep, boolC, List.map_const']
/-- Which ops the first p places of an order name. -/
def dnF (order : List Int) (p i : Nat) : Bool := (order.take p).contains ((i : Nat) : Int)
theorem dnF_succ {order : List Int} {p : Nat} (hp : p < order.length) {m : Nat} (hm : order[p] = (m : Int)) (i : Nat) : dnF order (p + 1) i = if i = m then true else dnF order p i := by
  unfold dnF
  rw [List.take_succ_eq_append_getElem hp, hm]
  by_cases h : i = m
  · subst h; simp
  · rw [if_neg h]
    rw [Bool.eq_iff_iff]
    simp
    omega
/-- The first p places of an order are good. -/
def OrdP (l : List Op8) (order : List Int) (p : Nat) : Prop := ∀ j (hj : j < order.length), j < p → 0 ≤ order[j] ∧ order[j] < l.length ∧ dnF order j order[j].toNat = false ∧ ∀ i (hi : i < order.length), i < j → befB (oAt l order[j].toNat) (oAt l order[i].toNat) = false
def ShowsP (o : Int) (l : List Op8) (order : List Int) : Prop := OrdP l order order.length ∧ (∀ i, i < l.length → 0 ≤ (oAt l i).ret → dnF order order.length i = true) ∧ runF o l order = -1
def ShowsPost (o : Int) (l : List Op8) (order : List Int) (w0 : World) (en : Ending) (w' : World) : Prop :=
  Pure w0 w' ∧ ((OkLin o l 0 ∧ ∃ b : Bool, en = .returned (.tuple #[.bool b, .nilIface]) ∧ (b = true ↔ ShowsP o l order)) ∨ (¬ OkLin o l 0 ∧ ∃ x, IsErr x ∧ en = .returned (.tuple #[.bool false, x])))
theorem ShowsPost.no {o : Int} {l : List Op8} {order : List Int} {w0 w' : World} (hl : OkLin o l 0) (h : ¬ ShowsP o l order) (hp : Pure w0 w') : ShowsPost o l order w0 (.returned (.tuple #[.bool false, .nilIface])) w' := ⟨hp, .inl ⟨hl, false, rfl, by simp; exact h⟩⟩
end Go.Proofs.YtglioflpblpmpaaGreatDoor
namespace Go.Proofs.YtglioflpblpmpaaGreatDoor
open Go.RowKit
set_option linter.unusedVariables false
set_option linter.unusedSimpArgs false
theorem OkLin.key {o : Int} {l : List Op8} {bud : Int} (h : OkLin o l bud) : ∀ i, i < l.length → 0 ≤ (oAt l i).key ∧ (oAt l i).key < 8 := fun i hi => by
  have h1 := (h.2.2.2.2.1.2 i hi).1
  unfold toldB inB at h1
  simp at h1
  omega
end Go.Proofs.YtglioflpblpmpaaGreatDoor
namespace Go.Proofs.YtglioflpblpmpaaGreatDoor
set_option linter.unusedVariables false
set_option linter.unusedSimpArgs false
section
variable {o : Int} {l : List Op8} {ab : Op8 → Op8 → Bool}
theorem wit_of_run (hA : ArgsOk l) (hab : ∀ k i, k < l.length → i < l.length → ab (oAt l k) (oAt l i) = true → befB (oAt l k) (oAt l i) = true) {order : List Int} (hO : OrdP l order order.length) (hall : ∀ i, i < l.length → 0 ≤ (oAt l i).ret → dnF order order.length i = true) :
    ∀ (m p : Nat) (g : Sts8) (sts : Nat → List Int), order.length - p = m → p ≤ order.length → (∀ k, k < 8 → (g k).getD (startF o) = sts k) → runTo o l (order.drop p) p g = -1 → Wit o l ab ((order.drop p).map Int.toNat) (dnF order p) sts := by
  intro m
  induction m with
  | zero =>
    intro p g sts hm hp hg hr
    obtain rfl : p = order.length := by omega
    rw [List.drop_eq_nil_of_le (Nat.le_refl _)]
    show allF l _ = true
    unfold allF
    rw [List.all_eq_true]
    intro i hi
    have hi := List.mem_range.1 hi
    by_cases h0 : 0 ≤ (oAt l i).ret
    · simp [h0, hall i hi h0]
    · simp [h0]
  | succ m ih =>
    intro p g sts hm hp hg hr
    have hpl : p < order.length := by omega
    rw [List.drop_eq_getElem_cons hpl] at hr ⊢
    obtain ⟨h0, h1, h2, h3⟩ := hO p hpl hpl
    obtain ⟨i, hi⟩ : ∃ i : Nat, order[p] = (i : Int) := ⟨order[p].toNat, by omega⟩
    rw [hi, Int.toNat_natCast] at h2 h3
    have hil : i < l.length := by rw [hi] at h1; omega
    rw [hi] at hr
    rw [runTo, if_neg (by omega), Int.toNat_natCast] at hr
    have hk := hA.keyN hil
    have e : (g (oAt l i).key.toNat).getD (startF o) = sts (keyN l i) := hg _ hk
    rw [e] at hr
    rw [List.map_cons, hi, Int.toNat_natCast]
    cases hs : stepF o (sts (keyN l i)) (oAt l i).kind (oAt l i).a (oAt l i).b with
    | none => rw [hs] at hr; simp only at hr; omega
    | some q =>
      obtain ⟨st', res⟩ := q
      rw [hs] at hr
      simp only at hr
      by_cases hbad : 0 ≤ (oAt l i).ret ∧ res ≠ (oAt l i).res
      · rw [if_pos hbad] at hr; omega
      rw [if_neg hbad] at hr
      have hgo : goF o l sts i = some st' := by
        unfold goF
        rw [hs]
        simp only
        rw [if_neg]
        rintro ⟨g1, g2⟩
        have := hA.ret i hil
        exact hbad ⟨by omega, g2⟩
      have hnext : nextF l ab (dnF order p) i = true := by
        unfold nextF
        rw [h2]
        simp only [Bool.not_false, Bool.true_and, List.all_eq_true, List.mem_range]
        intro k hkl
        by_cases hki : k = i
        · simp [hki]
        cases hdk : dnF order p k with
        | true => simp
        | false =>
          have : ab (oAt l k) (oAt l i) = false := by
            cases hb : ab (oAt l k) (oAt l i) with
            | false => rfl
            | true =>
              have hbf := hab k i hkl hil hb
              by_cases hr0 : 0 ≤ (oAt l k).ret
              · have hin := hall k hkl hr0
                unfold dnF at hin
                rw [List.take_of_length_le (Nat.le_refl _)] at hin
                have hin : ((k : Nat) : Int) ∈ order := by simpa using hin
                obtain ⟨j, hj, hje⟩ := List.getElem_of_mem hin
                have hjp : p < j := by
                  rcases Nat.lt_or_ge p j with h | h
                  · exact h
                  · exfalso
                    rcases Nat.lt_or_ge j p with h' | h'
                    · unfold dnF at hdk
                      have : ((k : Nat) : Int) ∈ order.take p := by
                        rw [← hje]
                        exact List.mem_take_iff_getElem.2 ⟨j, by omega, rfl⟩
                      simp [this] at hdk
                    · obtain rfl : j = p := by omega
                      rw [hi] at hje
                      exact hki (by omega)
                obtain ⟨_, _, _, h4⟩ := hO j hj hj
                have := h4 p hpl hjp
                rw [hje, hi, Int.toNat_natCast, Int.toNat_natCast, hbf] at this
                cases this
              · unfold befB at hbf
                simp [hr0] at hbf
          simp [this]
      refine ⟨hil, hnext, st', hgo, ?_⟩
      have ih' := ih (p + 1) (updS g (oAt l i).key.toNat st') (stSet sts (keyN l i) st') (by omega) (by omega) (fun k hk8 => by
        unfold updS stSet keyN
        split
        · rfl
        · exact hg k hk8) hr
      have ed : dnF order (p + 1) = dnSet (dnF order p) i true := by
        funext x
        rw [dnF_succ hpl hi]
        rfl
      rw [ed] at ih'
      exact ih'
theorem wit_of_shows (hA : ArgsOk l) (hab : ∀ k i, k < l.length → i < l.length → ab (oAt l k) (oAt l i) = true → befB (oAt l k) (oAt l i) = true) {order : List Int} (h : ShowsP o l order) : Wit o l ab (order.map Int.toNat) (fun _ => false) (startS o).sts := by
  have h1 := wit_of_run (o := o) (ab := ab) hA hab h.1 h.2.1 order.length 0 (fun _ => none) (startS o).sts (by omega) (by omega) (fun k hk => by simp [startS, hk]) (by simpa [runF] using h.2.2)
  have e : dnF order 0 = fun _ => false := by funext x; simp [dnF]
  rw [e] at h1
  simpa using h1
/-- What has a witness is not called invalid. -/
theorem verd_not_invalid (hA : ArgsOk l) (hab : ∀ k i, k < l.length → i < l.length → ab (oAt l k) (oAt l i) = true → befB (oAt l k) (oAt l i) = true) {order : List Int} (h : ShowsP o l order) (bud : Nat) : (verdF o l ab bud).1 ≠ 2 := fun h2 =>
  verd_complete hA h2 _ (wit_of_shows hA hab h)
end
theorem told_num {p k : Int} {l : List Int} (h : toldB p k l = true) : ∀ x ∈ l, -1000000 ≤ x ∧ x ≤ 1000000 := by
  unfold toldB inB at h
  simp at h
  exact h.1.1
theorem argsOk {o : Int} {l : List Op8} {bud : Int} (h : OkLin o l bud) : ArgsOk l := by
  refine ⟨h.key, fun i hi => ?_, fun i hi => ?_, fun i hi => ?_⟩
  · have := told_num (h.2.2.2.2.1.2 i hi).1 (oAt l i).a (by simp)
    unfold i64B; omega
  · have := told_num (h.2.2.2.2.1.2 i hi).1 (oAt l i).b (by simp)
    unfold i64B; omega
  · obtain ⟨h1, _, h3⟩ := (h.2.2.2.2.1.2 i hi).2.2.1
    omega
end Go.Proofs.YtglioflpblpmpaaGreatDoor
namespace Go.Proofs.YtglioflpblpmpaaGreatDoor
set_option linter.unusedVariables false
set_option linter.unusedSimpArgs false
section
variable {o : Int} {l : List Op8} {ab : Op8 → Op8 → Bool}
theorem loop_back {rec : SSt → Int × SSt} : ∀ (r : List Nat) (s : SSt), (loopF o l ab rec r s).1 = 2 → (loopF o l ab rec r s).2.dn = s.dn ∧ (loopF o l ab rec r s).2.sts = s.sts ∧ (loopF o l ab rec r s).2.ord = s.ord
  | [], s, _ => ⟨rfl, rfl, rfl⟩
  | i :: r, s, h => by
    unfold loopF at h ⊢
    split
    · rename_i hx
      rw [hx] at h
      exact loop_back r s h
    · rename_i hx
      rw [hx] at h
      simp only at h
      split
      · rename_i hg
        rw [hg] at h
        exact loop_back r s h
      · rename_i st' hg
        rw [hg] at h
        simp only at h
        by_cases h2 : (rec (stepS l s i st')).1 = 2
        · rw [if_pos h2] at h ⊢
          exact loop_back r ⟨s.dn, s.sts, s.ord, (rec (stepS l s i st')).2.ent⟩ h
        · rw [if_neg h2] at h
          exact absurd h h2
theorem enter_back {bud : Nat} : ∀ (f : Nat) (s : SSt), (enterF o l ab bud f s).1 = 2 → (enterF o l ab bud f s).2.dn = s.dn ∧ (enterF o l ab bud f s).2.sts = s.sts ∧ (enterF o l ab bud f s).2.ord = s.ord
  | 0, s, _ => ⟨rfl, rfl, rfl⟩
  | f + 1, s, h => by
    cases ha : allF l s.dn with
    | true => rw [enterF_all ha]; exact ⟨rfl, rfl, rfl⟩
    | false =>
      by_cases hk : keyF l.length s.dn s.sts ∈ s.ent
      · rw [enterF_old ha hk]; exact ⟨rfl, rfl, rfl⟩
      · by_cases hb : s.ent.length = bud
        · rw [enterF_over ha hk hb]; exact ⟨rfl, rfl, rfl⟩
        · rw [enterF_go ha hk hb] at h ⊢
          exact loop_back _ _ h
theorem enter_eq {f bud : Nat} {s : SSt} (h : (enterF o l ab bud f s).1 = 2) : (enterF o l ab bud f s).2 = ⟨s.dn, s.sts, s.ord, (enterF o l ab bud f s).2.ent⟩ := by
  obtain ⟨h1, h2, h3⟩ := enter_back f s h
  generalize (enterF o l ab bud f s).2 = t at h1 h2 h3 ⊢
  cases t
  subst h1 h2 h3
  rfl
end
theorem oAt_take {l : List Op8} {i k : Nat} (h : k < i) : oAt (l.take i) k = oAt l k := by
  unfold oAt
  rw [List.getD_eq_getElem?_getD, List.getD_eq_getElem?_getD, List.getElem?_take_of_lt h]
def procB (p q : Op8) : Bool := decide (p.proc = q.proc) && decide (p.call < q.call)
/-- What takes longer. -/
structure Wider (l l' : List Op8) : Prop where
  len : l'.length = l.length
  same : ∀ i, i < l.length → (oAt l' i).key = (oAt l i).key ∧ (oAt l' i).kind = (oAt l i).kind ∧ (oAt l' i).a = (oAt l i).a ∧ (oAt l' i).b = (oAt l i).b ∧ (oAt l' i).res = (oAt l i).res
  sign : ∀ i, i < l.length → (0 ≤ (oAt l' i).ret ↔ 0 ≤ (oAt l i).ret)
  call : ∀ i, i < l.length → (oAt l' i).call = 3 * (oAt l i).call
  ret : ∀ i, i < l.length → 0 ≤ (oAt l i).ret → 3 * (oAt l i).ret ≤ (oAt l' i).ret
theorem OkLin.bud {o : Int} {l : List Op8} {b b' : Int} (h : OkLin o l b) (h0 : 0 ≤ b') (h1 : b' ≤ 1000000) : OkLin o l b' := ⟨h.1, h.2.1, h0, h1, h.2.2.2.2.1, h.2.2.2.2.2⟩
section
variable {o : Int} {l : List Op8} {ab : Op8 → Op8 → Bool}
end
end Go.Proofs.YtglioflpblpmpaaGreatDoor
namespace Go.Proofs.YtglioflpblpmpaaGreatDoor
set_option linter.unusedVariables false
set_option linter.unusedSimpArgs false
theorem keptF_mem {s : SeeS} {k n : Nat} : n ∈ keptF s k ↔ n < k ∧ goneAt s n = false := by
  unfold keptF goneAt
  rw [List.mem_filter, List.mem_range]
  simp
theorem keptF_sorted (s : SeeS) (k : Nat) : (keptF s k).Pairwise (· < ·) := List.Pairwise.filter _ List.pairwise_lt_range
/-- The number of the k-th op that is told. -/
def keptAt (s : SeeS) (k : Nat) : Nat := (keptF s s.ops.length).getD k 0
theorem outF_len (s : SeeS) : (outF s).length = (keptF s s.ops.length).length := by simp [outF]
theorem outF_at {s : SeeS} {k : Nat} (hk : k < (outF s).length) : oAt (outF s) k = oAt s.ops (keptAt s k) ∧ keptAt s k < s.ops.length ∧ goneAt s (keptAt s k) = false := by
  have hk' : k < (keptF s s.ops.length).length := by rw [← outF_len]; exact hk
  have e1 : keptAt s k = (keptF s s.ops.length)[k] := by unfold keptAt; rw [List.getD_eq_getElem?_getD, List.getElem?_eq_getElem hk']; rfl
  have hm := keptF_mem.1 (List.getElem_mem hk')
  rw [e1]
  refine ⟨?_, hm⟩
  unfold oAt outF
  rw [List.getD_eq_getElem?_getD, List.getElem?_map, List.getElem?_eq_getElem hk']
  rfl
theorem keptAt_lt {s : SeeS} {j k : Nat} (hjk : j < k) (hk : k < (outF s).length) : keptAt s j < keptAt s k := by
  rw [outF_len] at hk
  unfold keptAt
  rw [List.getD_eq_getElem?_getD, List.getD_eq_getElem?_getD, List.getElem?_eq_getElem hk, List.getElem?_eq_getElem (show j < (keptF s s.ops.length).length by omega)]
  exact List.pairwise_iff_getElem.1 (keptF_sorted s _) j k (by omega) hk hjk
theorem evOk_nums {e : Ev} (h : evOkB e = true) : (0 ≤ e.proc ∧ e.proc ≤ 7) ∧ (0 ≤ e.key ∧ e.key ≤ 7) ∧ (-1000000 ≤ e.a ∧ e.a ≤ 1000000) ∧ (-1000000 ≤ e.b ∧ e.b ≤ 1000000) ∧ (-1000000 ≤ e.res ∧ e.res ≤ 1000000) ∧ (1 ≤ e.kind ∧ e.kind ≤ 12) := by
  unfold evOkB toldB inB at h
  simp at h
  omega
theorem told_of {p k a b r c t : Int} (hp : 0 ≤ p ∧ p ≤ 7) (hk : 0 ≤ k ∧ k ≤ 7) (ha : -1000000 ≤ a ∧ a ≤ 1000000) (hb : -1000000 ≤ b ∧ b ≤ 1000000) (hr : -1000000 ≤ r ∧ r ≤ 1000000) (hc : -1000000 ≤ c ∧ c ≤ 1000000) (ht : -1000000 ≤ t ∧ t ≤ 1000000) : toldB p k [a, b, r, c, t] = true := by
  unfold toldB inB
  simp
  omega
/-- What is made of events may be. -/
theorem out_ok {l : List Ev} {s : SeeS} (h : SeeOk l l.length s) (hl : l.length ≤ 120) (h40 : (outF s).length ≤ 40) : OkOps (outF s) := by
  refine ⟨h40, fun k hk => ?_⟩
  obtain ⟨ek, hkn, hkg⟩ := outF_at hk
  obtain ⟨c, hc1, hc2, e, he, hty, hok, ep, eke, eki, ea, eb⟩ := h.called _ hkn
  have hnum := evOk_nums hok
  have hlen : ((outF s).take k).length = k := by simp; omega
  have hret : ((oAt s.ops (keptAt s k)).ret = -1 ∧ (oAt s.ops (keptAt s k)).res = 0) ∨ (0 ≤ (oAt s.ops (keptAt s k)).ret ∧ (oAt s.ops (keptAt s k)).ret < 120 ∧ (oAt s.ops (keptAt s k)).call < (oAt s.ops (keptAt s k)).ret ∧ (-1000000 ≤ (oAt s.ops (keptAt s k)).res ∧ (oAt s.ops (keptAt s k)).res ≤ 1000000)) := by
    rcases h.ret _ hkn with h1 | ⟨r, h1, h2, h3, _, e', _, _, h6, h7⟩
    · exact .inl h1
    · refine .inr ⟨by omega, by omega, by omega, ?_⟩
      have := evOk_nums h6
      rw [← h7]; omega
  have pr : ∀ j, j < k → oAt ((outF s).take k) j = oAt s.ops (keptAt s j) ∧ keptAt s j < keptAt s k ∧ goneAt s (keptAt s j) = false := fun j hj => by
    rw [oAt_take hj]
    obtain ⟨e1, _, e3⟩ := outF_at (s := s) (k := j) (by omega)
    exact ⟨e1, keptAt_lt hj hk, e3⟩
  rw [ek]
  refine ⟨?_, ?_, ⟨?_, ?_, ?_, ?_⟩, fun j hj => ?_, fun j hj hp => ?_⟩
  · rw [← ep, ← eke, ← ea, ← eb, hc2]
    refine told_of hnum.1 hnum.2.1 hnum.2.2.1 hnum.2.2.2.1 ?_ (by omega) ?_
    · rcases hret with h1 | h1
      · rw [h1.2]; omega
      · omega
    · rcases hret with h1 | h1
      · rw [h1.1]; omega
      · omega
  · rw [← eki]; unfold inB; simp; omega
  · rw [hc2]; omega
  · rw [hlen]
    rintro ⟨h0, h1⟩
    obtain ⟨e1, e2, _⟩ := pr (k - 1) (by omega)
    rw [e1] at h1
    have := h.rise _ _ e2 hkn
    omega
  · rintro ⟨h1, h2⟩
    rcases hret with h3 | h3
    · exact h1 h3.1
    · omega
  · rintro ⟨h1, h2⟩
    rcases hret with h3 | h3
    · exact h2 h3.2
    · omega
  · rw [hlen] at hj
    obtain ⟨e1, e2, e3⟩ := pr j hj
    rw [e1]
    obtain ⟨c', hc1', hc2', _⟩ := h.called _ (Nat.lt_trans e2 hkn)
    have hrise := h.rise _ _ e2 hkn
    refine ⟨?_, ?_⟩
    · rintro ⟨_, h1 | h1⟩
      · omega
      · rcases hret with h3 | h3
        · rw [h3.1] at h1; omega
        · omega
    · rintro ⟨h0, h1 | h1⟩
      · rcases h.ret _ (Nat.lt_trans e2 hkn) with h3 | ⟨r, h3, h4, h5, _, e', h6, h7, _⟩
        · exact h0 h3.1
        · rw [h4, hc2] at h1
          have : r = c := by omega
          subst this
          rw [he] at h6
          injection h6 with h6
          subst h6
          omega
      · refine h.once _ _ e2 hkn (fun hh => ?_) h1
        rw [hh] at h1; exact h0 h1
  · rw [hlen] at hj
    obtain ⟨e1, e2, e3⟩ := pr j hj
    rw [e1] at hp ⊢
    obtain ⟨h1, h2⟩ := h.order _ _ e2 hkn hp e3
    unfold befB
    simp [h1, h2]
/-! ### A part of a history -/
structure Later (cut : Nat) (s1 s2 : SeeS) : Prop where
  len : s1.ops.length ≤ s2.ops.length
  same : ∀ n, n < s1.ops.length → (oAt s2.ops n).key = (oAt s1.ops n).key ∧ (oAt s2.ops n).kind = (oAt s1.ops n).kind ∧ (oAt s2.ops n).a = (oAt s1.ops n).a ∧ (oAt s2.ops n).b = (oAt s1.ops n).b ∧ (oAt s2.ops n).call = (oAt s1.ops n).call
  done : ∀ n, n < s1.ops.length → (oAt s1.ops n).ret ≠ -1 → (oAt s2.ops n).ret = (oAt s1.ops n).ret ∧ (oAt s2.ops n).res = (oAt s1.ops n).res ∧ goneAt s2 n = goneAt s1 n
  gone : ∀ n, goneAt s1 n = true → goneAt s2 n = true
  late : ∀ n, s1.ops.length ≤ n → n < s2.ops.length → (cut : Int) ≤ (oAt s2.ops n).call
theorem Later.refl (cut : Nat) (s : SeeS) : Later cut s s := ⟨Nat.le_refl _, fun _ _ => ⟨rfl, rfl, rfl, rfl, rfl⟩, fun _ _ _ => ⟨rfl, rfl, rfl⟩, fun _ h => h, fun n h1 h2 => by omega⟩
theorem ordP_of {l : List Op8} {order : List Int} (h1 : ∀ j ∈ order, 0 ≤ j ∧ j < l.length) (h2 : ∀ i j (hi : i < j) (hj : j < order.length), order[i]'(by omega) ≠ order[j] ∧ befB (oAt l order[j].toNat) (oAt l (order[i]'(by omega)).toNat) = false) : OrdP l order order.length := by
  intro j hj _
  obtain ⟨a1, a2⟩ := h1 _ (List.getElem_mem hj)
  refine ⟨a1, a2, ?_, fun i hi hij => (h2 i j hij hj).2⟩
  unfold dnF
  have h5 : ((order[j].toNat : Nat) : Int) = order[j] := by omega
  rw [h5]
  cases hc : (order.take j).contains order[j] with
  | false => rfl
  | true =>
    have hm : order[j] ∈ order.take j := by simpa using hc
    obtain ⟨i, hi, he⟩ := List.mem_take_iff_getElem.1 hm
    exact absurd he (h2 i j (by omega) hj).1
/-- The place among those told of an op's number. -/
noncomputable def placeF (s : SeeS) (n : Nat) : Nat := open Classical in if h : ∃ k, k < (outF s).length ∧ keptAt s k = n then h.choose else 0
end Go.Proofs.YtglioflpblpmpaaGreatDoor
