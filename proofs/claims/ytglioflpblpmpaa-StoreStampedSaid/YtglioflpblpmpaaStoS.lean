/- Registers on several nodes: one client goes on, and what holds goes on to hold. Nothing of the program's code. -/
import Derived.Test.YtglioflpblpmpaaStoR
namespace Go.Proofs.Ytglioflpblpmpaa
set_option linter.unusedVariables false
set_option linter.unusedSimpArgs false
theorem After.app {evs : List Ev} {i c : Nat} (h : After evs i c) (E : List Ev) : After (evs ++ E) i c := by
  obtain ⟨j, e, h1, h2, h3⟩ := h
  exact ⟨j, e, h1, by rw [List.getElem?_append_left (List.getElem?_eq_some_iff.1 h2).1]; exact h2, h3⟩
def oE (o : Option (Ev × SEnt)) : List Ev := match o with | some x => [x.1] | none => []
def oS (o : Option (Ev × SEnt)) : List SEnt := match o with | some x => [x.2] | none => []
theorem oE_len (o : Option (Ev × SEnt)) : (oE o).length = (oS o).length := by cases o <;> rfl
theorem oE_get {evs : List Ev} {o : Option (Ev × SEnt)} {i : Nat} {e : Ev} (h : (evs ++ oE o)[i]? = some e) : evs[i]? = some e ∨ (i = evs.length ∧ ∃ st, o = some (e, st)) := by
  by_cases hi : i < evs.length
  · rw [List.getElem?_append_left hi] at h; exact .inl h
  · rw [List.getElem?_append_right (by omega)] at h
    cases o with
    | none => cases h
    | some x =>
      have h0 : i - evs.length < 1 := (List.getElem?_eq_some_iff.1 h).1
      have h1 : i - evs.length = 0 := by omega
      rw [h1] at h
      injection h with h
      exact .inr ⟨by omega, x.2, by rw [← h]⟩
theorem oE_get2 {evs : List Ev} {sts : List SEnt} {o : Option (Ev × SEnt)} {i : Nat} {e : Ev} {st : SEnt} (hl : evs.length = sts.length) (h : (evs ++ oE o)[i]? = some e) (k : (sts ++ oS o)[i]? = some st) : (evs[i]? = some e ∧ sts[i]? = some st) ∨ (i = evs.length ∧ o = some (e, st)) := by
  rcases oE_get h with h1 | ⟨h1, st', rfl⟩
  · have hi := (List.getElem?_eq_some_iff.1 h1).1
    rw [List.getElem?_append_left (by omega)] at k
    exact .inl ⟨h1, k⟩
  · rw [List.getElem?_append_right (by omega)] at k
    have h2 : i - sts.length = 0 := by omega
    rw [h2] at k
    injection k with k
    exact .inr ⟨h1, by rw [← k]⟩
theorem After.of_app {evs : List Ev} {o : Option (Ev × SEnt)} {i c : Nat} (h : After (evs ++ oE o) i c) : After evs i c ∨ ∃ e st, o = some (e, st) ∧ e.ty = 1 ∧ e.proc = (c : Int) := by
  obtain ⟨j, e, h1, h2, h3, h4⟩ := h
  rcases oE_get h2 with h5 | ⟨_, st, h5⟩
  · exact .inl ⟨j, e, h1, h5, h3, h4⟩
  · exact .inr ⟨e, st, h5, h3, h4⟩
theorem not_after_end {evs : List Ev} {o : Option (Ev × SEnt)} {c : Nat} (h : After (evs ++ oE o) evs.length c) : False := by
  obtain ⟨j, e, h1, h2, h3, h4⟩ := h
  rcases oE_get h2 with h5 | ⟨h5, _⟩
  · have := (List.getElem?_eq_some_iff.1 h5).1; omega
  · omega
theorem get_app {α : Type} {l : List α} {i : Nat} {a : α} (h : l[i]? = some a) (r : List α) : (l ++ r)[i]? = some a := by
  rw [List.getElem?_append_left (List.getElem?_eq_some_iff.1 h).1]; exact h
/-- One client goes on. -/
structure Upd (s : SSt) (c : Nat) (y : SCl) (o : Option (Ev × SEnt)) (s' : SSt) : Prop where
  round : (s.cl c).round ≤ y.round
  old : y.busy = true → (s.cl c).round < y.round ∨ (o = none ∧ (s.cl c).busy = true ∧ y.round = (s.cl c).round ∧ y.began = (s.cl c).began ∧ y.telling = (s.cl c).telling ∧ (y.telling = true → y.best = (s.cl c).best))
  proc : ∀ e st, o = some (e, st) → e.proc = (c : Int)
  clen : y.busy = true → y.counted.length = s.n
  ng : y.busy = true → y.gone = false
  bkey : actC y → 0 ≤ y.began.key ∧ y.began.ty = 1 ∧ y.began.proc = (c : Int) ∧ y.began.res = 0 ∧ (y.began.kind = 1 ∨ y.began.kind = 2)
  b : ∀ (i : Nat) (e : Ev) (st : SEnt) (Q : List Nat), s.evs[i]? = some e → QOk s i e st Q → y.busy = true → y.telling = false → y.began.key = e.key → After (s.evs ++ oE o) i c → ∀ q ∈ Q, y.counted[q]? = some true → st.le y.best
  d : ∀ (i : Nat) (e : Ev) (st : SEnt) (Q : List Nat), s.evs[i]? = some e → QOk s i e st Q → actC y → y.telling = true → y.began.key = e.key → After (s.evs ++ oE o) i c → st.le y.best ∧ (y.began.kind = 2 → st.less y.best)
  new : ∀ e st, o = some (e, st) → StrongE s e → ∃ Q : List Nat, Q.Nodup ∧ (∀ q ∈ Q, q < s.n) ∧ s.tell ≤ Q.length ∧ ∀ q ∈ Q, st.le (s.ent q e.key.toNat)
  f : y.busy = true → y.telling = true → ∀ q : Nat, y.counted[q]? = some true → y.best.le (s.ent q y.began.key.toNat)
  aft : actC y → ∀ (i : Nat) (e : Ev), (s.evs ++ oE o)[i]? = some e → e.ty = 2 → e.proc = (c : Int) → After (s.evs ++ oE o) i c
  pro : ∀ e st, o = some (e, st) → e.ty = 2 → 0 ≤ e.proc ∧ 0 ≤ e.key ∧ (e.kind = 1 ∨ e.kind = 2)
  fresh : ∀ e st, o = some (e, st) → e.ty = 2 → ∀ (i : Nat) (e0 : Ev) (st0 : SEnt) (Q : List Nat), s.evs[i]? = some e0 → QOk s i e0 st0 Q → e.key = e0.key → After s.evs i c → st0.le st ∧ (e.kind = 2 → st0.less st)
  two : ∀ e st, o = some (e, st) → e.ty = 2 → actC (s.cl c)
  wr : actC (s.cl c) → (s.cl c).telling = true → (s.cl c).began.kind = 2 → Wr s' (keyC s c) (s.cl c).best
  s3 : actC y → 0 ≤ y.best.c → Wr s' y.began.key.toNat y.best
  s4 : ∀ e st, o = some (e, st) → e.ty = 2 → e.kind = 1 → 0 ≤ st.c → Wr s' e.key.toNat ⟨st.t, st.c, e.res⟩
  s5 : ∀ e st, o = some (e, st) → e.ty = 2 → e.kind = 2 → st.c = (c : Int)
  s6 : actC y → y.telling = true → y.began.kind = 2 → y.best.c = (c : Int) ∧ y.best.v = y.began.a
/-- A message that the client sent. -/
structure Sent (s : SSt) (c : Nat) (y : SCl) (m : SMail) : Prop where
  busy : y.busy = true
  lt : (s.cl c).round < y.round
  dst : m.dst < s.n
  cl : m.m.client = c
  rnd : m.m.round = y.round
  key : (m.m.key : Int) = y.began.key
  what : (m.m.what = 1 ∧ y.telling = false) ∨ (m.m.what = 2 ∧ y.telling = true ∧ m.m.e = y.best)
set_option maxHeartbeats 1000000 in
theorem SInv.upd {s s' : SSt} (h : SInv s) (c : Nat) (y : SCl) (o : Option (Ev × SEnt)) (hn : s'.n = s.n) (ha : s'.ask = s.ask) (ht : s'.tell = s.tell) (hb : s'.back = s.back) (hent : s'.ent = s.ent)
    (hf : ∀ i, i ≠ c → s'.cl i = s.cl i) (hy : s'.cl c = y) (he : s'.evs = s.evs ++ oE o) (hs : s'.sts = s.sts ++ oS o) (hms : ∀ m ∈ s'.mails, m ∈ s.mails ∨ Sent s c y m) (u : Upd s c y o s') : SInv s' := by
  have hAo : ∀ i d, d ≠ c → After s'.evs i d → After s.evs i d := fun i d hd hA => by
    rw [he] at hA
    rcases hA.of_app with h1 | ⟨e, st, h1, _, h2⟩
    · exact h1
    · have := u.proc e st h1; omega
  have hcur : ∀ m, (m ∈ s.mails ∨ Sent s c y m) → Cur s' m → Sent s c y m ∨ (m ∈ s.mails ∧ Cur s m ∧ (s'.cl m.m.client).began = (s.cl m.m.client).began ∧ (s'.cl m.m.client).telling = (s.cl m.m.client).telling ∧ ((s'.cl m.m.client).telling = true → (s'.cl m.m.client).best = (s.cl m.m.client).best) ∧ ∀ i, After s'.evs i m.m.client → After s.evs i m.m.client) := fun m hm hc => by
    rcases hm with hm | hm
    · by_cases hcc : m.m.client = c
      · obtain ⟨h1, h2⟩ := hc
        rw [hcc, hy] at h1 h2
        rcases u.old h1 with h3 | ⟨h3, h4, h5, h6, h7, h8⟩
        · have := h.rnd m hm
          rw [hcc] at this
          omega
        · refine .inr ⟨hm, ⟨by rw [hcc]; exact h4, by rw [hcc, h2, h5]⟩, by rw [hcc, hy]; exact h6, by rw [hcc, hy]; exact h7, by rw [hcc, hy]; exact h8, fun i hA => ?_⟩
          rw [he, h3] at hA
          rw [show oE none = [] from rfl, List.append_nil] at hA
          exact hA
      · have hcl := hf _ hcc
        refine .inr ⟨hm, ⟨by rw [← hcl]; exact hc.1, by rw [← hcl]; exact hc.2⟩, by rw [hcl], by rw [hcl], fun _ => by rw [hcl], fun i => hAo i _ hcc⟩
    · exact .inl hm
  have hWr : ∀ key e, 0 ≤ key → Wr s key e → Wr s' key e := fun key e _ hw => by
    rcases hw with ⟨i, ev, st, h1, h2, h3⟩ | ⟨d, h1, h2, h3, h4, h5⟩
    · exact .inl ⟨i, ev, st, by rw [he]; exact get_app h1 _, by rw [hs]; exact get_app h2 _, h3⟩
    · by_cases hd : d = c
      · subst hd
        have := u.wr h1 h2 h3
        unfold keyC at this
        rw [h4, h5] at this
        exact this
      · exact .inr ⟨d, by rw [hf d hd]; exact h1, by rw [hf d hd]; exact h2, by rw [hf d hd]; exact h3, by rw [hf d hd]; exact h4, by rw [hf d hd]; exact h5⟩
  exact {
    quo := by rw [hn, ha, ht]; exact h.quo
    len := by rw [he, hs, List.length_append, List.length_append, oE_len, h.len]
    rnd := fun m hm => by
      rcases hms m hm with h1 | h1
      · by_cases hc : m.m.client = c
        · have := h.rnd m h1
          rw [hc] at this ⊢
          rw [hy]
          exact Nat.le_trans this u.round
        · rw [hf _ hc]; exact h.rnd m h1
      · rw [h1.cl, hy, h1.rnd]; exact Nat.le_refl _
    key := fun m hm hc => by
      rcases hcur m (hms m hm) hc with h1 | ⟨h1, h2, h3, h4, h5, h6⟩
      · rw [h1.cl, hy]; exact h1.key
      · rw [h3]; exact h.key m h1 h2
    asks := fun m hm hc hw => by
      rcases hcur m (hms m hm) hc with h1 | ⟨h1, h2, h3, h4, h5, h6⟩
      · rw [h1.cl, hy]
        rcases h1.what with ⟨_, h2⟩ | ⟨h2, _⟩
        · exact h2
        · omega
      · rw [h4]; exact h.asks m h1 h2 hw
    tells := fun m hm hc hw => by
      rcases hcur m (hms m hm) hc with h1 | ⟨h1, h2, h3, h4, h5, h6⟩
      · rw [h1.cl, hy]
        rcases h1.what with ⟨h2, _⟩ | ⟨_, h2⟩
        · omega
        · exact h2
      · obtain ⟨h7, h8⟩ := h.tells m h1 h2 hw
        rw [← h4] at h7
        exact ⟨h7, by rw [h5 h7]; exact h8⟩
    what := fun m hm => by
      rw [hn]
      rcases hms m hm with h1 | h1
      · exact h.what m h1
      · have := h1.dst
        have := h1.what
        exact ⟨fun _ => by omega, fun _ => by omega⟩
    clen := fun d hd => by
      rw [hn]
      by_cases hc : d = c
      · subst hc; rw [hy] at hd ⊢; exact u.clen hd
      · rw [hf d hc] at hd ⊢; exact h.clen d hd
    bkey := fun d hd => by
      by_cases hc : d = c
      · subst hc; rw [hy] at hd ⊢; exact u.bkey hd
      · rw [hf d hc] at hd ⊢; exact h.bkey d hd
    strong := fun i e st h1 h2 h3 => by
      rw [he] at h1
      rw [hs] at h2
      have h3' : StrongE s e := ⟨h3.1, by rw [← hb]; exact h3.2⟩
      rcases oE_get2 h.len h1 h2 with ⟨h4, h5⟩ | ⟨h4, h5⟩
      · obtain ⟨Q, q⟩ := h.strong i e st h4 h5 h3'
        refine ⟨Q, q.nd, by rw [hn]; exact q.lt, by rw [ht]; exact q.len, by rw [hent]; exact q.a, fun d => ?_, fun m hm hw hs hc ht hk ha => ?_, fun d => ?_⟩
        · by_cases hc : d = c
          · subst hc; rw [hy, he]; exact u.b i e st Q h4 q
          · rw [hf d hc]; exact fun g1 g2 g3 g4 => q.b d g1 g2 g3 (hAo i d hc g4)
        · rcases hcur m (hms m hm) hc with g1 | ⟨g1, g2, g3, g4, g5, g6⟩
          · have := g1.what; omega
          · exact q.c m g1 hw hs g2 (g4.symm.trans ht) (by rw [← g3]; exact hk) (g6 i ha)
        · by_cases hc : d = c
          · subst hc; rw [hy, he]; exact u.d i e st Q h4 q
          · rw [hf d hc]; exact fun g1 g2 g3 g4 => q.d d g1 g2 g3 (hAo i d hc g4)
      · obtain ⟨Q, q1, q2, q3, q4⟩ := u.new e st h5 h3'
        have hno : ∀ d, ¬ After s'.evs i d := fun d hd => by
          rw [he, h4] at hd
          exact not_after_end hd
        exact ⟨Q, q1, by rw [hn]; exact q2, by rw [ht]; exact q3, by rw [hent]; exact q4, fun d _ _ _ ha => absurd ha (hno d), fun m _ _ _ _ _ _ ha => absurd ha (hno _), fun d _ _ _ ha => absurd ha (hno d)⟩
    f := fun d h1 h2 => by
      unfold keyC
      rw [hent]
      by_cases hc : d = c
      · subst hc; rw [hy] at h1 h2 ⊢; exact u.f h1 h2
      · rw [hf d hc] at h1 h2 ⊢; exact h.f d h1 h2
    g := fun m hm hw hc htl => by
      rcases hcur m (hms m hm) hc with h1 | ⟨h1, h2, h3, h4, h5, h6⟩
      · have := h1.what; omega
      · unfold keyC
        rw [h5 htl, hent, h3]
        exact h.g m h1 hw h2 (h4.symm.trans htl)
    aft := fun d hd i e h1 h2 h3 => by
      by_cases hc : d = c
      · subst hc
        rw [hy] at hd
        rw [he] at h1 ⊢
        exact u.aft hd i e h1 h2 h3
      · rw [hf d hc] at hd
        rw [he] at h1 ⊢
        rcases oE_get h1 with h4 | ⟨_, st, h4⟩
        · exact (h.aft d hd i e h4 h2 h3).app _
        · have := u.proc e st h4; omega
    pro := fun i e h1 h2 => by
      rw [he] at h1
      rcases oE_get h1 with h4 | ⟨_, st, h4⟩
      · exact h.pro i e h4 h2
      · exact u.pro e st h4 h2
    fresh := fun i k e e' st st' hik h1 h2 h3 h4 h5 h6 h7 h8 => by
      rw [he] at h1 h2 h8
      rw [hs] at h3 h4
      have h5' : StrongE s e := ⟨h5.1, by rw [← hb]; exact h5.2⟩
      rcases oE_get2 h.len h2 h4 with ⟨g1, g2⟩ | ⟨g1, g2⟩
      · have hk := (List.getElem?_eq_some_iff.1 g1).1
        rw [List.take_append_of_le_length (by omega)] at h8
        rcases oE_get2 h.len h1 h3 with ⟨g3, g4⟩ | ⟨g3, g4⟩
        · exact h.fresh i k e e' st st' hik g3 g1 g4 g2 h5' h6 h7 h8
        · omega
      · rcases oE_get2 h.len h1 h3 with ⟨g3, g4⟩ | ⟨g3, g4⟩
        · obtain ⟨Q, q⟩ := h.strong i e st g3 g4 h5'
          rw [g1, List.take_append_of_le_length (by omega), List.take_length] at h8
          have hp := u.proc e' st' g2
          rw [hp] at h8
          exact u.fresh e' st' g2 h6 i e st Q g3 q h7 h8
        · omega
    two := fun i k e e' hik h1 h2 h3 h4 h5 => by
      rw [he] at h1 h2 ⊢
      rcases oE_get h2 with g1 | ⟨g1, st, g2⟩
      · have hk := (List.getElem?_eq_some_iff.1 g1).1
        rw [List.take_append_of_le_length (by omega)]
        rcases oE_get h1 with g3 | ⟨g3, _⟩
        · exact h.two i k e e' hik g3 g1 h3 h4 h5
        · omega
      · rcases oE_get h1 with g3 | ⟨g3, _⟩
        · rw [g1, List.take_append_of_le_length (by omega), List.take_length]
          have hp := u.proc e' st g2
          rw [hp]
          exact h.aft c (u.two e' st g2 h4) i e g3 h3 (h5.symm.trans hp)
        · omega
    s1 := fun q key h0 => by
      rw [hent] at h0 ⊢
      exact hWr _ _ (Nat.zero_le _) (h.s1 q key h0)
    s2 := fun m hm hw h0 => by
      rcases hms m hm with h1 | h1
      · exact hWr _ _ (Nat.zero_le _) (h.s2 m h1 hw h0)
      · rcases h1.what with ⟨h2, _⟩ | ⟨_, _, h2⟩
        · exact absurd h2 hw
        · rw [h2] at h0 ⊢
          have := u.s3 (.inl h1.busy) h0
          rw [← h1.key] at this
          exact this
    s3 := fun d hd h0 => by
      unfold keyC
      by_cases hc : d = c
      · subst hc; rw [hy] at hd h0 ⊢; exact u.s3 hd h0
      · rw [hf d hc] at hd h0 ⊢; exact hWr _ _ (Nat.zero_le _) (h.s3 d hd h0)
    s4 := fun i e st h1 h2 h3 h4 h5 => by
      rw [he] at h1
      rw [hs] at h2
      rcases oE_get2 h.len h1 h2 with ⟨g1, g2⟩ | ⟨g1, g2⟩
      · exact hWr _ _ (Nat.zero_le _) (h.s4 i e st g1 g2 h3 h4 h5)
      · exact u.s4 e st g2 h3 h4 h5
    s5 := fun i e st h1 h2 h3 h4 => by
      rw [he] at h1
      rw [hs] at h2
      rcases oE_get2 h.len h1 h2 with ⟨g1, g2⟩ | ⟨g1, g2⟩
      · exact h.s5 i e st g1 g2 h3 h4
      · rw [u.s5 e st g2 h3 h4, u.proc e st g2]
    s6 := fun d hd h1 h2 => by
      by_cases hc : d = c
      · subst hc; rw [hy] at hd h1 h2 ⊢; exact u.s6 hd h1 h2
      · rw [hf d hc] at hd h1 h2 ⊢; exact h.s6 d hd h1 h2
    ng := fun d hd => by
      by_cases hc : d = c
      · subst hc; rw [hy] at hd ⊢; exact u.ng hd
      · rw [hf d hc] at hd ⊢; exact h.ng d hd }
end Go.Proofs.Ytglioflpblpmpaa
