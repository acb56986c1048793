/- PkK: StoR, StoS, StoT, StoU, StoV, StoW, merged. -/
import Derived.Test.YtglioflpblpmpaaGreatDoorPkG
import Derived.Test.YtglioflpblpmpaaGreatDoorPkJ
namespace Go.Proofs.YtglioflpblpmpaaGreatDoor
set_option linter.unusedVariables false
set_option linter.unusedSimpArgs false
/-! ### What holds -/
def actC (x : SCl) : Prop := x.busy = true ∨ x.gone = true
def After (evs : List Ev) (i : Nat) (c : Nat) : Prop := ∃ (j : Nat) (e : Ev), i < j ∧ evs[j]? = some e ∧ e.ty = 1 ∧ e.proc = (c : Int)
def Cur (s : StS) (m : SMail) : Prop := (s.cl m.m.client).busy = true ∧ m.m.round = (s.cl m.m.client).round
def StrongE (s : StS) (e : Ev) : Prop := e.ty = 2 ∧ (e.kind = 2 ∨ s.back = true)
structure QOk (s : StS) (i : Nat) (e : Ev) (st : SEnt) (Q : List Nat) : Prop where
  nd : Q.Nodup
  lt : ∀ q ∈ Q, q < s.n
  len : s.tell ≤ Q.length
  a : ∀ q ∈ Q, st.le (s.ent q e.key.toNat)
  b : ∀ c, (s.cl c).busy = true → (s.cl c).telling = false → (s.cl c).began.key = e.key → After s.evs i c → ∀ q ∈ Q, (s.cl c).counted[q]? = some true → st.le (s.cl c).best
  c : ∀ m ∈ s.mails, m.m.what = 3 → m.src ∈ Q → Cur s m → (s.cl m.m.client).telling = false → (s.cl m.m.client).began.key = e.key → After s.evs i m.m.client → st.le m.m.e
  d : ∀ c, actC (s.cl c) → (s.cl c).telling = true → (s.cl c).began.key = e.key → After s.evs i c → st.le (s.cl c).best ∧ ((s.cl c).began.kind = 2 → st.less (s.cl c).best)
/-- What was written: by an op that is over, or by one that is being told. -/
def Wr (s : StS) (key : Nat) (e : SEnt) : Prop :=
  (∃ (i : Nat) (ev : Ev) (st : SEnt), s.evs[i]? = some ev ∧ s.sts[i]? = some st ∧ ev.ty = 2 ∧ ev.kind = 2 ∧ ev.key = (key : Int) ∧ st.t = e.t ∧ st.c = e.c ∧ ev.a = e.v) ∨
  (∃ c, actC (s.cl c) ∧ (s.cl c).telling = true ∧ (s.cl c).began.kind = 2 ∧ (s.cl c).began.key = (key : Int) ∧ (s.cl c).best = e)
structure SInv (s : StS) : Prop where
  quo : s.n < s.ask + s.tell
  len : s.evs.length = s.sts.length
  rnd : ∀ m ∈ s.mails, m.m.round ≤ (s.cl m.m.client).round
  key : ∀ m ∈ s.mails, Cur s m → (m.m.key : Int) = (s.cl m.m.client).began.key
  asks : ∀ m ∈ s.mails, Cur s m → m.m.what = 1 → (s.cl m.m.client).telling = false
  tells : ∀ m ∈ s.mails, Cur s m → m.m.what = 2 → (s.cl m.m.client).telling = true ∧ m.m.e = (s.cl m.m.client).best
  what : ∀ m ∈ s.mails, (m.dst < s.n → m.m.what = 1 ∨ m.m.what = 2) ∧ (s.n ≤ m.dst → m.m.what = 3 ∧ m.src < s.n)
  clen : ∀ c, (s.cl c).busy = true → (s.cl c).counted.length = s.n
  bkey : ∀ c, actC (s.cl c) → 0 ≤ (s.cl c).began.key ∧ (s.cl c).began.ty = 1 ∧ (s.cl c).began.proc = (c : Int) ∧ (s.cl c).began.res = 0 ∧ ((s.cl c).began.kind = 1 ∨ (s.cl c).began.kind = 2)
  strong : ∀ (i : Nat) (e : Ev) (st : SEnt), s.evs[i]? = some e → s.sts[i]? = some st → StrongE s e → ∃ Q, QOk s i e st Q
  f : ∀ c, (s.cl c).busy = true → (s.cl c).telling = true → ∀ q : Nat, (s.cl c).counted[q]? = some true → (s.cl c).best.le (s.ent q (keyC s c))
  g : ∀ m ∈ s.mails, m.m.what = 3 → Cur s m → (s.cl m.m.client).telling = true → (s.cl m.m.client).best.le (s.ent m.src (keyC s m.m.client))
  aft : ∀ c, actC (s.cl c) → ∀ (i : Nat) (e : Ev), s.evs[i]? = some e → e.ty = 2 → e.proc = (c : Int) → After s.evs i c
  pro : ∀ (i : Nat) (e : Ev), s.evs[i]? = some e → e.ty = 2 → 0 ≤ e.proc ∧ 0 ≤ e.key ∧ (e.kind = 1 ∨ e.kind = 2)
  fresh : ∀ (i k : Nat) (e e' : Ev) (st st' : SEnt), i < k → s.evs[i]? = some e → s.evs[k]? = some e' → s.sts[i]? = some st → s.sts[k]? = some st' → StrongE s e → e'.ty = 2 → e'.key = e.key → After (s.evs.take k) i e'.proc.toNat → st.le st' ∧ (e'.kind = 2 → st.less st')
  two : ∀ (i k : Nat) (e e' : Ev), i < k → s.evs[i]? = some e → s.evs[k]? = some e' → e.ty = 2 → e'.ty = 2 → e'.proc = e.proc → After (s.evs.take k) i e'.proc.toNat
  s1 : ∀ q key, 0 ≤ (s.ent q key).c → Wr s key (s.ent q key)
  s2 : ∀ m ∈ s.mails, m.m.what ≠ 1 → 0 ≤ m.m.e.c → Wr s m.m.key m.m.e
  s3 : ∀ c, actC (s.cl c) → 0 ≤ (s.cl c).best.c → Wr s (keyC s c) (s.cl c).best
  s4 : ∀ (i : Nat) (e : Ev) (st : SEnt), s.evs[i]? = some e → s.sts[i]? = some st → e.ty = 2 → e.kind = 1 → 0 ≤ st.c → Wr s e.key.toNat ⟨st.t, st.c, e.res⟩
  s5 : ∀ (i : Nat) (e : Ev) (st : SEnt), s.evs[i]? = some e → s.sts[i]? = some st → e.ty = 2 → e.kind = 2 → st.c = e.proc
  s6 : ∀ c, actC (s.cl c) → (s.cl c).telling = true → (s.cl c).began.kind = 2 → (s.cl c).best.c = (c : Int) ∧ (s.cl c).best.v = (s.cl c).began.a
  ng : ∀ c, (s.cl c).busy = true → (s.cl c).gone = false
/-- It hangs on the set of mails alone. -/
theorem SInv.mails {s : StS} (h : SInv s) {ms : List SMail} (hm : ∀ m ∈ ms, m ∈ s.mails) : SInv { s with mails := ms } where
  quo := h.quo
  len := h.len
  rnd := fun m hx => h.rnd m (hm m hx)
  key := fun m hx => h.key m (hm m hx)
  asks := fun m hx => h.asks m (hm m hx)
  tells := fun m hx => h.tells m (hm m hx)
  what := fun m hx => h.what m (hm m hx)
  clen := h.clen
  bkey := h.bkey
  strong := fun i e st h1 h2 h3 => by
    obtain ⟨Q, q⟩ := h.strong i e st h1 h2 h3
    exact ⟨Q, q.nd, q.lt, q.len, q.a, q.b, fun m hx => q.c m (hm m hx), q.d⟩
  f := h.f
  g := fun m hx => h.g m (hm m hx)
  aft := h.aft
  pro := h.pro
  fresh := h.fresh
  two := h.two
  s1 := h.s1
  s2 := fun m hx => h.s2 m (hm m hx)
  s3 := h.s3
  s4 := h.s4
  s5 := h.s5
  s6 := h.s6
  ng := h.ng
/-- A node hears. -/
def nodeG (s : StS) (x : SMail) (ms : List SMail) : StS := { setEnt s x.dst x.m.key (ownN s x.dst x.m) with mails := ms }
theorem SInv.node {s : StS} (h : SInv s) {x : SMail} (hx : x ∈ s.mails) (hd : x.dst < s.n) (ms : List SMail) (hms : ∀ m ∈ ms, m ∈ s.mails ∨ m = ⟨x.dst, s.n + x.m.client, { x.m with what := 3, e := ownN s x.dst x.m }⟩) : SInv (nodeG s x ms) := by
  obtain ⟨own, hown⟩ : ∃ own, ownN s x.dst x.m = own := ⟨_, rfl⟩
  have hge : (s.ent x.dst x.m.key).le own := by
    rw [← hown]; unfold ownN
    split
    · rename_i hc; exact SEnt.less_imp hc.2
    · exact SEnt.le_refl _
  have hmono : ∀ q key, (s.ent q key).le ((nodeG s x ms).ent q key) := fun q key => by
    show (s.ent q key).le (if q = x.dst ∧ key = x.m.key then _ else _)
    split
    · rename_i hc
      obtain ⟨rfl, rfl⟩ := hc
      rw [hown]; exact hge
    · exact SEnt.le_refl _
  have hself : (nodeG s x ms).ent x.dst x.m.key = own := by
    show (if x.dst = x.dst ∧ x.m.key = x.m.key then _ else _) = _
    rw [if_pos ⟨rfl, rfl⟩]; exact hown
  have hmem : ∀ m ∈ (nodeG s x ms).mails, m ∈ s.mails ∨ m = ⟨x.dst, s.n + x.m.client, { x.m with what := 3, e := own }⟩ := fun m hm => by
    rw [← hown]; exact hms m hm
  have hcl : (nodeG s x ms).cl = s.cl := rfl
  have hcurx : ∀ {m : SMail}, m = ⟨x.dst, s.n + x.m.client, { x.m with what := 3, e := own }⟩ → Cur (nodeG s x ms) m → Cur s x := fun e hc => by subst e; exact hc
  have hwh := (h.what x hx).1 hd
  have hWr : ∀ {key e}, Wr s key e → Wr (nodeG s x ms) key e := fun hw => hw
  have hWrOwn : 0 ≤ own.c → Wr s x.m.key own := fun h0 => by
    rw [← hown] at h0 ⊢
    unfold ownN at h0 ⊢
    split at h0
    · rename_i hc
      rw [if_pos hc]
      exact h.s2 x hx (by omega) h0
    · rename_i hc
      rw [if_neg hc]
      exact h.s1 _ _ h0
  exact {
    quo := h.quo
    len := h.len
    rnd := fun m hm => by
      rcases hmem m hm with h1 | rfl
      · exact h.rnd m h1
      · exact h.rnd x hx
    key := fun m hm hc => by
      rcases hmem m hm with h1 | e
      · exact h.key m h1 hc
      · have := h.key x hx (hcurx e hc); subst e; exact this
    asks := fun m hm hc hw => by
      rcases hmem m hm with h1 | e
      · exact h.asks m h1 hc hw
      · subst e; cases hw
    tells := fun m hm hc hw => by
      rcases hmem m hm with h1 | e
      · exact h.tells m h1 hc hw
      · subst e; cases hw
    what := fun m hm => by
      rcases hmem m hm with h1 | e
      · exact h.what m h1
      · subst e
        exact ⟨fun hlt => absurd (show s.n + x.m.client < s.n from hlt) (by omega), fun _ => ⟨rfl, hd⟩⟩
    clen := h.clen
    bkey := h.bkey
    strong := fun i e st h1 h2 h3 => by
      obtain ⟨Q, q⟩ := h.strong i e st h1 h2 h3
      refine ⟨Q, q.nd, q.lt, q.len, fun r hr => SEnt.le_trans (q.a r hr) (hmono _ _), q.b, fun m hm hw hs hc ht hk ha => ?_, q.d⟩
      rcases hmem m hm with h4 | e4
      · exact q.c m h4 hw hs hc ht hk ha
      · have hcx := hcurx e4 hc
        subst e4
        have hkey := h.key x hx hcx
        have hke : x.m.key = e.key.toNat := by
          have : (s.cl x.m.client).began.key = e.key := hk
          omega
        have := q.a x.dst hs
        rw [← hke] at this
        exact SEnt.le_trans this hge
    f := fun c hb ht q hq => SEnt.le_trans (h.f c hb ht q hq) (hmono _ _)
    g := fun m hm hw hc ht => by
      rcases hmem m hm with h1 | e
      · exact SEnt.le_trans (h.g m h1 hw hc ht) (hmono _ _)
      · have hcx := hcurx e hc
        subst e
        have hkey := h.key x hx hcx
        rcases hwh with hw1 | hw2
        · have := h.asks x hx hcx hw1
          rw [show (s.cl x.m.client).telling = true from ht] at this
          cases this
        · have he := (h.tells x hx hcx hw2).2
          have hk : keyC s x.m.client = x.m.key := by unfold keyC; omega
          show (s.cl x.m.client).best.le ((nodeG s x ms).ent x.dst (keyC s x.m.client))
          rw [hk, hself, ← he, ← hown]
          unfold ownN
          split
          · exact SEnt.le_refl _
          · rename_i hn
            exact SEnt.le_of_not fun hl => hn ⟨hw2, hl⟩
    aft := h.aft
    pro := h.pro
    fresh := h.fresh
    two := h.two
    s1 := fun q key h0 => by
      have he : (nodeG s x ms).ent q key = if q = x.dst ∧ key = x.m.key then own else s.ent q key := by rw [← hown]; rfl
      rw [he] at h0 ⊢
      split at h0
      · rename_i hc
        rw [if_pos hc, hc.2]
        exact hWrOwn h0
      · rename_i hc
        rw [if_neg hc]
        exact h.s1 q key h0
    s2 := fun m hm hw h0 => by
      rcases hmem m hm with h1 | e
      · exact h.s2 m h1 hw h0
      · subst e; exact hWrOwn h0
    s3 := h.s3
    s4 := h.s4
    s5 := h.s5
    s6 := h.s6
    ng := h.ng }
end Go.Proofs.YtglioflpblpmpaaGreatDoor
namespace Go.Proofs.YtglioflpblpmpaaGreatDoor
set_option linter.unusedVariables false
set_option linter.unusedSimpArgs false
theorem After.app {evs : List Ev} {i c : Nat} (h : After evs i c) (E : List Ev) : After (evs ++ E) i c := by
  obtain ⟨j, e, h1, h2, h3⟩ := h
  exact ⟨j, e, h1, by rw [List.getElem?_append_left (List.getElem?_eq_some_iff.1 h2).1]; exact h2, h3⟩
def oE (o : Option (Ev × SEnt)) : List Ev := match o with | some x => [x.1] | none => []
def oS (o : Option (Ev × SEnt)) : List SEnt := match o with | some x => [x.2] | none => []
theorem oE_len (o : Option (Ev × SEnt)) : (oE o).length = (oS o).length := by cases o <;> rfl
theorem oE_get {evs : List Ev} {o : Option (Ev × SEnt)} {i : Nat} {e : Ev} (h : (evs ++ oE o)[i]? = some e) : evs[i]? = some e ∨ (i = evs.length ∧ ∃ st, o = some (e, st)) := by
  by_cases hi : i < evs.length
  · rw [List.getElem?_append_left hi] at h; exact .inl h
  · rw [List.getElem?_append_right (by omega)] at h
    cases o with
    | none => cases h
    | some x =>
      have h0 : i - evs.length < 1 := (List.getElem?_eq_some_iff.1 h).1
      have h1 : i - evs.length = 0 := by omega
      rw [h1] at h
      injection h with h
      exact .inr ⟨by omega, x.2, by rw [← h]⟩
theorem oE_get2 {evs : List Ev} {sts : List SEnt} {o : Option (Ev × SEnt)} {i : Nat} {e : Ev} {st : SEnt} (hl : evs.length = sts.length) (h : (evs ++ oE o)[i]? = some e) (k : (sts ++ oS o)[i]? = some st) : (evs[i]? = some e ∧ sts[i]? = some st) ∨ (i = evs.length ∧ o = some (e, st)) := by
  rcases oE_get h with h1 | ⟨h1, st', rfl⟩
  · have hi := (List.getElem?_eq_some_iff.1 h1).1
    rw [List.getElem?_append_left (by omega)] at k
    exact .inl ⟨h1, k⟩
  · rw [List.getElem?_append_right (by omega)] at k
    have h2 : i - sts.length = 0 := by omega
    rw [h2] at k
    injection k with k
    exact .inr ⟨h1, by rw [← k]⟩
theorem After.of_app {evs : List Ev} {o : Option (Ev × SEnt)} {i c : Nat} (h : After (evs ++ oE o) i c) : After evs i c ∨ ∃ e st, o = some (e, st) ∧ e.ty = 1 ∧ e.proc = (c : Int) := by
  obtain ⟨j, e, h1, h2, h3, h4⟩ := h
  rcases oE_get h2 with h5 | ⟨_, st, h5⟩
  · exact .inl ⟨j, e, h1, h5, h3, h4⟩
  · exact .inr ⟨e, st, h5, h3, h4⟩
theorem not_after_end {evs : List Ev} {o : Option (Ev × SEnt)} {c : Nat} (h : After (evs ++ oE o) evs.length c) : False := by
  obtain ⟨j, e, h1, h2, h3, h4⟩ := h
  rcases oE_get h2 with h5 | ⟨h5, _⟩
  · have := (List.getElem?_eq_some_iff.1 h5).1; omega
  · omega
theorem get_app {α : Type} {l : List α} {i : Nat} {a : α} (h : l[i]? = some a) (r : List α) : (l ++ r)[i]? = some a := by
  rw [List.getElem?_append_left (List.getElem?_eq_some_iff.1 h).1]; exact h
/-- One client goes on. -/
structure Upd (s : StS) (c : Nat) (y : SCl) (o : Option (Ev × SEnt)) (s' : StS) : Prop where
  round : (s.cl c).round ≤ y.round
  old : y.busy = true → (s.cl c).round < y.round ∨ (o = none ∧ (s.cl c).busy = true ∧ y.round = (s.cl c).round ∧ y.began = (s.cl c).began ∧ y.telling = (s.cl c).telling ∧ (y.telling = true → y.best = (s.cl c).best))
  proc : ∀ e st, o = some (e, st) → e.proc = (c : Int)
  clen : y.busy = true → y.counted.length = s.n
  ng : y.busy = true → y.gone = false
  bkey : actC y → 0 ≤ y.began.key ∧ y.began.ty = 1 ∧ y.began.proc = (c : Int) ∧ y.began.res = 0 ∧ (y.began.kind = 1 ∨ y.began.kind = 2)
  b : ∀ (i : Nat) (e : Ev) (st : SEnt) (Q : List Nat), s.evs[i]? = some e → QOk s i e st Q → y.busy = true → y.telling = false → y.began.key = e.key → After (s.evs ++ oE o) i c → ∀ q ∈ Q, y.counted[q]? = some true → st.le y.best
  d : ∀ (i : Nat) (e : Ev) (st : SEnt) (Q : List Nat), s.evs[i]? = some e → QOk s i e st Q → actC y → y.telling = true → y.began.key = e.key → After (s.evs ++ oE o) i c → st.le y.best ∧ (y.began.kind = 2 → st.less y.best)
  new : ∀ e st, o = some (e, st) → StrongE s e → ∃ Q : List Nat, Q.Nodup ∧ (∀ q ∈ Q, q < s.n) ∧ s.tell ≤ Q.length ∧ ∀ q ∈ Q, st.le (s.ent q e.key.toNat)
  f : y.busy = true → y.telling = true → ∀ q : Nat, y.counted[q]? = some true → y.best.le (s.ent q y.began.key.toNat)
  aft : actC y → ∀ (i : Nat) (e : Ev), (s.evs ++ oE o)[i]? = some e → e.ty = 2 → e.proc = (c : Int) → After (s.evs ++ oE o) i c
  pro : ∀ e st, o = some (e, st) → e.ty = 2 → 0 ≤ e.proc ∧ 0 ≤ e.key ∧ (e.kind = 1 ∨ e.kind = 2)
  fresh : ∀ e st, o = some (e, st) → e.ty = 2 → ∀ (i : Nat) (e0 : Ev) (st0 : SEnt) (Q : List Nat), s.evs[i]? = some e0 → QOk s i e0 st0 Q → e.key = e0.key → After s.evs i c → st0.le st ∧ (e.kind = 2 → st0.less st)
  two : ∀ e st, o = some (e, st) → e.ty = 2 → actC (s.cl c)
  wr : actC (s.cl c) → (s.cl c).telling = true → (s.cl c).began.kind = 2 → Wr s' (keyC s c) (s.cl c).best
  s3 : actC y → 0 ≤ y.best.c → Wr s' y.began.key.toNat y.best
  s4 : ∀ e st, o = some (e, st) → e.ty = 2 → e.kind = 1 → 0 ≤ st.c → Wr s' e.key.toNat ⟨st.t, st.c, e.res⟩
  s5 : ∀ e st, o = some (e, st) → e.ty = 2 → e.kind = 2 → st.c = (c : Int)
  s6 : actC y → y.telling = true → y.began.kind = 2 → y.best.c = (c : Int) ∧ y.best.v = y.began.a
/-- A message that the client sent. -/
structure Sent (s : StS) (c : Nat) (y : SCl) (m : SMail) : Prop where
  busy : y.busy = true
  lt : (s.cl c).round < y.round
  dst : m.dst < s.n
  cl : m.m.client = c
  rnd : m.m.round = y.round
  key : (m.m.key : Int) = y.began.key
  what : (m.m.what = 1 ∧ y.telling = false) ∨ (m.m.what = 2 ∧ y.telling = true ∧ m.m.e = y.best)
set_option maxHeartbeats 1000000 in
theorem SInv.upd {s s' : StS} (h : SInv s) (c : Nat) (y : SCl) (o : Option (Ev × SEnt)) (hn : s'.n = s.n) (ha : s'.ask = s.ask) (ht : s'.tell = s.tell) (hb : s'.back = s.back) (hent : s'.ent = s.ent)
    (hf : ∀ i, i ≠ c → s'.cl i = s.cl i) (hy : s'.cl c = y) (he : s'.evs = s.evs ++ oE o) (hs : s'.sts = s.sts ++ oS o) (hms : ∀ m ∈ s'.mails, m ∈ s.mails ∨ Sent s c y m) (u : Upd s c y o s') : SInv s' := by
  have hAo : ∀ i d, d ≠ c → After s'.evs i d → After s.evs i d := fun i d hd hA => by
    rw [he] at hA
    rcases hA.of_app with h1 | ⟨e, st, h1, _, h2⟩
    · exact h1
    · have := u.proc e st h1; omega
  have hcur : ∀ m, (m ∈ s.mails ∨ Sent s c y m) → Cur s' m → Sent s c y m ∨ (m ∈ s.mails ∧ Cur s m ∧ (s'.cl m.m.client).began = (s.cl m.m.client).began ∧ (s'.cl m.m.client).telling = (s.cl m.m.client).telling ∧ ((s'.cl m.m.client).telling = true → (s'.cl m.m.client).best = (s.cl m.m.client).best) ∧ ∀ i, After s'.evs i m.m.client → After s.evs i m.m.client) := fun m hm hc => by
    rcases hm with hm | hm
    · by_cases hcc : m.m.client = c
      · obtain ⟨h1, h2⟩ := hc
        rw [hcc, hy] at h1 h2
        rcases u.old h1 with h3 | ⟨h3, h4, h5, h6, h7, h8⟩
        · have := h.rnd m hm
          rw [hcc] at this
          omega
        · refine .inr ⟨hm, ⟨by rw [hcc]; exact h4, by rw [hcc, h2, h5]⟩, by rw [hcc, hy]; exact h6, by rw [hcc, hy]; exact h7, by rw [hcc, hy]; exact h8, fun i hA => ?_⟩
          rw [he, h3] at hA
          rw [show oE none = [] from rfl, List.append_nil] at hA
          exact hA
      · have hcl := hf _ hcc
        refine .inr ⟨hm, ⟨by rw [← hcl]; exact hc.1, by rw [← hcl]; exact hc.2⟩, by rw [hcl], by rw [hcl], fun _ => by rw [hcl], fun i => hAo i _ hcc⟩
    · exact .inl hm
  have hWr : ∀ key e, 0 ≤ key → Wr s key e → Wr s' key e := fun key e _ hw => by
    rcases hw with ⟨i, ev, st, h1, h2, h3⟩ | ⟨d, h1, h2, h3, h4, h5⟩
    · exact .inl ⟨i, ev, st, by rw [he]; exact get_app h1 _, by rw [hs]; exact get_app h2 _, h3⟩
    · by_cases hd : d = c
      · subst hd
        have := u.wr h1 h2 h3
        unfold keyC at this
        rw [h4, h5] at this
        exact this
      · exact .inr ⟨d, by rw [hf d hd]; exact h1, by rw [hf d hd]; exact h2, by rw [hf d hd]; exact h3, by rw [hf d hd]; exact h4, by rw [hf d hd]; exact h5⟩
  exact {
    quo := by rw [hn, ha, ht]; exact h.quo
    len := by rw [he, hs, List.length_append, List.length_append, oE_len, h.len]
    rnd := fun m hm => by
      rcases hms m hm with h1 | h1
      · by_cases hc : m.m.client = c
        · have := h.rnd m h1
          rw [hc] at this ⊢
          rw [hy]
          exact Nat.le_trans this u.round
        · rw [hf _ hc]; exact h.rnd m h1
      · rw [h1.cl, hy, h1.rnd]; exact Nat.le_refl _
    key := fun m hm hc => by
      rcases hcur m (hms m hm) hc with h1 | ⟨h1, h2, h3, h4, h5, h6⟩
      · rw [h1.cl, hy]; exact h1.key
      · rw [h3]; exact h.key m h1 h2
    asks := fun m hm hc hw => by
      rcases hcur m (hms m hm) hc with h1 | ⟨h1, h2, h3, h4, h5, h6⟩
      · rw [h1.cl, hy]
        rcases h1.what with ⟨_, h2⟩ | ⟨h2, _⟩
        · exact h2
        · omega
      · rw [h4]; exact h.asks m h1 h2 hw
    tells := fun m hm hc hw => by
      rcases hcur m (hms m hm) hc with h1 | ⟨h1, h2, h3, h4, h5, h6⟩
      · rw [h1.cl, hy]
        rcases h1.what with ⟨h2, _⟩ | ⟨_, h2⟩
        · omega
        · exact h2
      · obtain ⟨h7, h8⟩ := h.tells m h1 h2 hw
        rw [← h4] at h7
        exact ⟨h7, by rw [h5 h7]; exact h8⟩
    what := fun m hm => by
      rw [hn]
      rcases hms m hm with h1 | h1
      · exact h.what m h1
      · have := h1.dst
        have := h1.what
        exact ⟨fun _ => by omega, fun _ => by omega⟩
    clen := fun d hd => by
      rw [hn]
      by_cases hc : d = c
      · subst hc; rw [hy] at hd ⊢; exact u.clen hd
      · rw [hf d hc] at hd ⊢; exact h.clen d hd
    bkey := fun d hd => by
      by_cases hc : d = c
      · subst hc; rw [hy] at hd ⊢; exact u.bkey hd
      · rw [hf d hc] at hd ⊢; exact h.bkey d hd
    strong := fun i e st h1 h2 h3 => by
      rw [he] at h1
      rw [hs] at h2
      have h3' : StrongE s e := ⟨h3.1, by rw [← hb]; exact h3.2⟩
      rcases oE_get2 h.len h1 h2 with ⟨h4, h5⟩ | ⟨h4, h5⟩
      · obtain ⟨Q, q⟩ := h.strong i e st h4 h5 h3'
        refine ⟨Q, q.nd, by rw [hn]; exact q.lt, by rw [ht]; exact q.len, by rw [hent]; exact q.a, fun d => ?_, fun m hm hw hs hc ht hk ha => ?_, fun d => ?_⟩
        · by_cases hc : d = c
          · subst hc; rw [hy, he]; exact u.b i e st Q h4 q
          · rw [hf d hc]; exact fun g1 g2 g3 g4 => q.b d g1 g2 g3 (hAo i d hc g4)
        · rcases hcur m (hms m hm) hc with g1 | ⟨g1, g2, g3, g4, g5, g6⟩
          · have := g1.what; omega
          · exact q.c m g1 hw hs g2 (g4.symm.trans ht) (by rw [← g3]; exact hk) (g6 i ha)
        · by_cases hc : d = c
          · subst hc; rw [hy, he]; exact u.d i e st Q h4 q
          · rw [hf d hc]; exact fun g1 g2 g3 g4 => q.d d g1 g2 g3 (hAo i d hc g4)
      · obtain ⟨Q, q1, q2, q3, q4⟩ := u.new e st h5 h3'
        have hno : ∀ d, ¬ After s'.evs i d := fun d hd => by
          rw [he, h4] at hd
          exact not_after_end hd
        exact ⟨Q, q1, by rw [hn]; exact q2, by rw [ht]; exact q3, by rw [hent]; exact q4, fun d _ _ _ ha => absurd ha (hno d), fun m _ _ _ _ _ _ ha => absurd ha (hno _), fun d _ _ _ ha => absurd ha (hno d)⟩
    f := fun d h1 h2 => by
      unfold keyC
      rw [hent]
      by_cases hc : d = c
      · subst hc; rw [hy] at h1 h2 ⊢; exact u.f h1 h2
      · rw [hf d hc] at h1 h2 ⊢; exact h.f d h1 h2
    g := fun m hm hw hc htl => by
      rcases hcur m (hms m hm) hc with h1 | ⟨h1, h2, h3, h4, h5, h6⟩
      · have := h1.what; omega
      · unfold keyC
        rw [h5 htl, hent, h3]
        exact h.g m h1 hw h2 (h4.symm.trans htl)
    aft := fun d hd i e h1 h2 h3 => by
      by_cases hc : d = c
      · subst hc
        rw [hy] at hd
        rw [he] at h1 ⊢
        exact u.aft hd i e h1 h2 h3
      · rw [hf d hc] at hd
        rw [he] at h1 ⊢
        rcases oE_get h1 with h4 | ⟨_, st, h4⟩
        · exact (h.aft d hd i e h4 h2 h3).app _
        · have := u.proc e st h4; omega
    pro := fun i e h1 h2 => by
      rw [he] at h1
      rcases oE_get h1 with h4 | ⟨_, st, h4⟩
      · exact h.pro i e h4 h2
      · exact u.pro e st h4 h2
    fresh := fun i k e e' st st' hik h1 h2 h3 h4 h5 h6 h7 h8 => by
      rw [he] at h1 h2 h8
      rw [hs] at h3 h4
      have h5' : StrongE s e := ⟨h5.1, by rw [← hb]; exact h5.2⟩
      rcases oE_get2 h.len h2 h4 with ⟨g1, g2⟩ | ⟨g1, g2⟩
      · have hk := (List.getElem?_eq_some_iff.1 g1).1
        rw [List.take_append_of_le_length (by omega)] at h8
        rcases oE_get2 h.len h1 h3 with ⟨g3, g4⟩ | ⟨g3, g4⟩
        · exact h.fresh i k e e' st st' hik g3 g1 g4 g2 h5' h6 h7 h8
        · omega
      · rcases oE_get2 h.len h1 h3 with ⟨g3, g4⟩ | ⟨g3, g4⟩
        · obtain ⟨Q, q⟩ := h.strong i e st g3 g4 h5'
          rw [g1, List.take_append_of_le_length (by omega), List.take_length] at h8
          have hp := u.proc e' st' g2
          rw [hp] at h8
          exact u.fresh e' st' g2 h6 i e st Q g3 q h7 h8
        · omega
    two := fun i k e e' hik h1 h2 h3 h4 h5 => by
      rw [he] at h1 h2 ⊢
      rcases oE_get h2 with g1 | ⟨g1, st, g2⟩
      · have hk := (List.getElem?_eq_some_iff.1 g1).1
        rw [List.take_append_of_le_length (by omega)]
        rcases oE_get h1 with g3 | ⟨g3, _⟩
        · exact h.two i k e e' hik g3 g1 h3 h4 h5
        · omega
      · rcases oE_get h1 with g3 | ⟨g3, _⟩
        · rw [g1, List.take_append_of_le_length (by omega), List.take_length]
          have hp := u.proc e' st g2
          rw [hp]
          exact h.aft c (u.two e' st g2 h4) i e g3 h3 (h5.symm.trans hp)
        · omega
    s1 := fun q key h0 => by
      rw [hent] at h0 ⊢
      exact hWr _ _ (Nat.zero_le _) (h.s1 q key h0)
    s2 := fun m hm hw h0 => by
      rcases hms m hm with h1 | h1
      · exact hWr _ _ (Nat.zero_le _) (h.s2 m h1 hw h0)
      · rcases h1.what with ⟨h2, _⟩ | ⟨_, _, h2⟩
        · exact absurd h2 hw
        · rw [h2] at h0 ⊢
          have := u.s3 (.inl h1.busy) h0
          rw [← h1.key] at this
          exact this
    s3 := fun d hd h0 => by
      unfold keyC
      by_cases hc : d = c
      · subst hc; rw [hy] at hd h0 ⊢; exact u.s3 hd h0
      · rw [hf d hc] at hd h0 ⊢; exact hWr _ _ (Nat.zero_le _) (h.s3 d hd h0)
    s4 := fun i e st h1 h2 h3 h4 h5 => by
      rw [he] at h1
      rw [hs] at h2
      rcases oE_get2 h.len h1 h2 with ⟨g1, g2⟩ | ⟨g1, g2⟩
      · exact hWr _ _ (Nat.zero_le _) (h.s4 i e st g1 g2 h3 h4 h5)
      · exact u.s4 e st g2 h3 h4 h5
    s5 := fun i e st h1 h2 h3 h4 => by
      rw [he] at h1
      rw [hs] at h2
      rcases oE_get2 h.len h1 h2 with ⟨g1, g2⟩ | ⟨g1, g2⟩
      · exact h.s5 i e st g1 g2 h3 h4
      · rw [u.s5 e st g2 h3 h4, u.proc e st g2]
    s6 := fun d hd h1 h2 => by
      by_cases hc : d = c
      · subst hc; rw [hy] at hd h1 h2 ⊢; exact u.s6 hd h1 h2
      · rw [hf d hc] at hd h1 h2 ⊢; exact h.s6 d hd h1 h2
    ng := fun d hd => by
      by_cases hc : d = c
      · subst hc; rw [hy] at hd ⊢; exact u.ng hd
      · rw [hf d hc] at hd ⊢; exact h.ng d hd }
end Go.Proofs.YtglioflpblpmpaaGreatDoor
namespace Go.Proofs.YtglioflpblpmpaaGreatDoor
set_option linter.unusedVariables false
set_option linter.unusedSimpArgs false
theorem nodupS : ∀ (l r : List Nat), l.Nodup → (∀ x ∈ l, x ∈ r) → l.length ≤ r.length
  | [], r, _, _ => Nat.zero_le _
  | a :: l, r, hn, hs => by
    have ha : a ∈ r := hs a (List.mem_cons_self ..)
    rw [List.nodup_cons] at hn
    have h1 := nodupS l (r.erase a) hn.2 fun x hx => by
      have hne : x ≠ a := fun h => hn.1 (h ▸ hx)
      exact (List.mem_erase_of_ne hne).2 (hs x (List.mem_cons_of_mem _ hx))
    rw [List.length_erase_of_mem ha] at h1
    have h2 : 0 < r.length := List.length_pos_of_mem ha
    show l.length + 1 ≤ r.length
    omega
theorem countT_range (l : List Bool) : countT l = (List.range l.length).countP fun q => l.getD q false := by
  have h : l = (List.range l.length).map fun q => l.getD q false := by
    apply List.ext_getElem?
    intro i
    by_cases hi : i < l.length
    · rw [List.getElem?_map, List.getElem?_range hi, List.getElem?_eq_getElem hi]
      simp [List.getD, hi]
    · rw [List.getElem?_eq_none (by omega), List.getElem?_eq_none (by simp; omega)]
  unfold countT
  conv => lhs; rw [h]
  rw [List.countP_map]
  rfl
theorem getD_some {l : List Bool} {q : Nat} (h : l.getD q false = true) : l[q]? = some true := by
  rw [List.getD_eq_getElem?_getD] at h
  cases hq : l[q]? with
  | none => rw [hq] at h; cases h
  | some b => rw [hq] at h; rw [show b = true from h]
/-- Two heaps of nodes that are together more than all meet. -/
theorem meetQ {n : Nat} {Q : List Nat} {l : List Bool} (hnd : Q.Nodup) (hlt : ∀ q ∈ Q, q < n) (hl : l.length = n) (h : n < countT l + Q.length) : ∃ q ∈ Q, l[q]? = some true := by
  refine Classical.byContradiction fun hno => ?_
  have h1 := nodupS Q ((List.range n).filter fun q => !(l.getD q false)) hnd fun q hq => by
    rw [List.mem_filter]
    refine ⟨List.mem_range.2 (hlt q hq), ?_⟩
    cases hg : l.getD q false with
    | true => exact absurd ⟨q, hq, getD_some hg⟩ hno
    | false => rfl
  rw [← List.countP_eq_length_filter] at h1
  have h2 := List.length_eq_countP_add_countP (fun q => l.getD q false) (l := List.range n)
  rw [List.length_range] at h2
  rw [countT_range, hl] at h
  have h3 : (List.range n).countP (fun q => !(l.getD q false)) = (List.range n).countP (fun q => decide ¬ l.getD q false = true) := by
    congr 1
    funext q
    cases l.getD q false <;> rfl
  omega
theorem QOk.meets {s : StS} (h : SInv s) {i : Nat} {e : Ev} {st : SEnt} {Q : List Nat} (q : QOk s i e st Q) {l : List Bool} (hl : l.length = s.n) (ha : s.ask ≤ countT l) : ∃ r ∈ Q, l[r]? = some true :=
  meetQ q.nd q.lt hl (by have := h.quo; have := q.len; omega)
theorem Wr.up {s s' : StS} {c : Nat} {o : Option (Ev × SEnt)} (hf : ∀ i, i ≠ c → s'.cl i = s.cl i) (he : s'.evs = s.evs ++ oE o) (hs : s'.sts = s.sts ++ oS o) (hw : actC (s.cl c) → (s.cl c).telling = true → (s.cl c).began.kind = 2 → Wr s' (keyC s c) (s.cl c).best) {key : Nat} {e : SEnt} (h : Wr s key e) : Wr s' key e := by
  rcases h with ⟨i, ev, st, h1, h2, h3⟩ | ⟨d, h1, h2, h3, h4, h5⟩
  · exact .inl ⟨i, ev, st, by rw [he]; exact get_app h1 _, by rw [hs]; exact get_app h2 _, h3⟩
  · by_cases hd : d = c
    · subst hd
      have := hw h1 h2 h3
      unfold keyC at this
      rw [h4, h5] at this
      exact this
    · exact .inr ⟨d, by rw [hf d hd]; exact h1, by rw [hf d hd]; exact h2, by rw [hf d hd]; exact h3, by rw [hf d hd]; exact h4, by rw [hf d hd]; exact h5⟩
theorem heard_same (x : SCl) (j : Nat) (m : SMsg) : (heardC x j m).busy = x.busy ∧ (heardC x j m).gone = x.gone ∧ (heardC x j m).began = x.began ∧ (heardC x j m).telling = x.telling ∧ (heardC x j m).round = x.round ∧ (heardC x j m).counted = x.counted.set j true := by
  unfold heardC
  split
  · exact ⟨rfl, rfl, rfl, rfl, rfl, rfl⟩
  · split <;> exact ⟨rfl, rfl, rfl, rfl, rfl, rfl⟩
theorem heard_tells (x : SCl) (j : Nat) (m : SMsg) (h : x.telling = true) : (heardC x j m).best = x.best := by
  unfold heardC
  rw [if_pos h]
theorem heard_asks (x : SCl) (j : Nat) (m : SMsg) : x.telling = false → ((heardC x j m).best = m.e ∨ (heardC x j m).best = x.best) ∧ x.best.le (heardC x j m).best ∧ m.e.le (heardC x j m).best := by
  intro h
  unfold heardC
  rw [if_neg (by rw [h]; exact Bool.false_ne_true)]
  split
  · rename_i hl
    exact ⟨.inl rfl, SEnt.less_imp hl, SEnt.le_refl _⟩
  · rename_i hl
    exact ⟨.inr rfl, SEnt.le_refl _, SEnt.le_of_not hl⟩
/-- One more node was heard. -/
theorem SInv.count {s s' : StS} (h : SInv s) {x : SMail} (hx : x ∈ s.mails) (hw : x.m.what = 3) (hcur : Cur s x)
    (hn : s'.n = s.n) (ha : s'.ask = s.ask) (ht : s'.tell = s.tell) (hb : s'.back = s.back) (hent : s'.ent = s.ent) (hf : ∀ i, i ≠ x.m.client → s'.cl i = s.cl i) (hy : s'.cl x.m.client = heardC (s.cl x.m.client) x.src x.m) (he : s'.evs = s.evs) (hs : s'.sts = s.sts) (hms : ∀ m ∈ s'.mails, m ∈ s.mails) : SInv s' := by
  obtain ⟨y1, y2, y3, y4, y5, y6⟩ := heard_same (s.cl x.m.client) x.src x.m
  have ytl := heard_tells (s.cl x.m.client) x.src x.m
  have yas := heard_asks (s.cl x.m.client) x.src x.m
  obtain ⟨y, hyd⟩ : ∃ y, heardC (s.cl x.m.client) x.src x.m = y := ⟨_, rfl⟩
  rw [hyd] at y1 y2 y3 y4 y5 y6 ytl yas hy
  obtain ⟨c, hc⟩ : ∃ c, x.m.client = c := ⟨_, rfl⟩
  rw [hc] at y1 y2 y3 y4 y5 y6 ytl yas hy hf
  have hbusy : (s.cl c).busy = true := by rw [← hc]; exact hcur.1
  have hact : actC (s.cl c) := .inl hbusy
  have hbk := h.bkey c hact
  have he' : s'.evs = s.evs ++ oE none := by rw [he]; exact (List.append_nil _).symm
  have hs' : s'.sts = s.sts ++ oS none := by rw [hs]; exact (List.append_nil _).symm
  have hwr : actC (s.cl c) → (s.cl c).telling = true → (s.cl c).began.kind = 2 → Wr s' (keyC s c) (s.cl c).best := fun g1 g2 g3 =>
    .inr ⟨c, by rw [hy]; exact .inl (y1.trans hbusy), by rw [hy, y4]; exact g2, by rw [hy, y3]; exact g3, by rw [hy, y3]; unfold keyC; omega, by rw [hy]; exact ytl g2⟩
  have hA : ∀ i d, After (s.evs ++ oE none) i d → After s.evs i d := fun i d hd => by
    rw [show oE none = [] from rfl, List.append_nil] at hd; exact hd
  have hkey : x.m.key = (s.cl c).began.key.toNat := by
    have := h.key x hx hcur
    rw [hc] at this
    omega
  refine h.upd c y none hn ha ht hb hent hf hy he' hs' (fun m hm => .inl (hms m hm)) ?_
  exact {
    round := by omega
    old := fun _ => .inr ⟨rfl, hbusy, y5, y3, y4, fun g => ytl (y4.symm.trans g)⟩
    proc := fun e st g => by cases g
    clen := fun _ => by rw [y6, List.length_set]; exact h.clen c hbusy
    ng := fun _ => by rw [y2]; exact h.ng c hbusy
    bkey := fun _ => by rw [y3]; exact hbk
    b := fun i e st Q g1 q g2 g3 g4 g5 r hr g6 => by
      rw [y4] at g3
      rw [y3] at g4
      obtain ⟨_, k1, k2⟩ := yas g3
      rw [y6] at g6
      by_cases hrj : r = x.src
      · have h1 := q.c x hx hw (by rw [← hrj]; exact hr) hcur (by rw [hc]; exact g3) (by rw [hc]; exact g4) (by rw [hc]; exact hA _ _ g5)
        exact SEnt.le_trans h1 k2
      · rw [List.getElem?_set_ne (fun e => hrj e.symm)] at g6
        exact SEnt.le_trans (q.b c hbusy g3 g4 (hA _ _ g5) r hr g6) k1
    d := fun i e st Q g1 q g2 g3 g4 g5 => by
      rw [y4] at g3
      rw [y3] at g4 ⊢
      rw [ytl g3]
      exact q.d c hact g3 g4 (hA _ _ g5)
    new := fun e st g => by cases g
    f := fun g1 g2 r g3 => by
      rw [y4] at g2
      rw [y6] at g3
      rw [ytl g2, y3]
      by_cases hrj : r = x.src
      · have h1 := h.g x hx hw hcur (by rw [hc]; exact g2)
        rw [hc] at h1
        rw [hrj]
        exact h1
      · rw [List.getElem?_set_ne (fun e => hrj e.symm)] at g3
        exact h.f c hbusy g2 r g3
    aft := fun _ i e g1 g2 g3 => by
      rw [← he'] at g1 ⊢
      rw [he] at g1 ⊢
      exact h.aft c hact i e g1 g2 g3
    pro := fun e st g => by cases g
    fresh := fun e st g => by cases g
    two := fun e st g => by cases g
    wr := hwr
    s3 := fun _ g0 => by
      rw [y3]
      cases htl : (s.cl c).telling with
      | true =>
        rw [ytl htl] at g0 ⊢
        exact Wr.up hf he' hs' hwr (h.s3 c hact g0)
      | false =>
        rcases (yas htl).1 with k | k
        · rw [k] at g0 ⊢
          rw [← hkey]
          exact Wr.up hf he' hs' hwr (h.s2 x hx (by omega) g0)
        · rw [k] at g0 ⊢
          exact Wr.up hf he' hs' hwr (h.s3 c hact g0)
    s4 := fun e st g => by cases g
    s5 := fun e st g => by cases g
    s6 := fun _ g2 g3 => by
      rw [y4] at g2
      rw [y3] at g3 ⊢
      rw [ytl g2]
      exact h.s6 c hact g2 g3 }
/-- An op is over. -/
theorem SInv.done {s s' : StS} (h : SInv s) (c : Nat) (hbusy : (s.cl c).busy = true) (hq : ((s.cl c).telling = true ∧ s.tell ≤ countT (s.cl c).counted) ∨ ((s.cl c).telling = false ∧ (s.cl c).began.kind = 1 ∧ s.back = false ∧ s.ask ≤ countT (s.cl c).counted))
    (hn : s'.n = s.n) (ha : s'.ask = s.ask) (ht : s'.tell = s.tell) (hb : s'.back = s.back) (hent : s'.ent = s.ent) (hf : ∀ i, i ≠ c → s'.cl i = s.cl i) (hy : s'.cl c = { s.cl c with busy := false }) (he : s'.evs = s.evs ++ [evD (s.cl c)]) (hs : s'.sts = s.sts ++ [⟨(s.cl c).best.t, (s.cl c).best.c, 0⟩]) (hms : ∀ m ∈ s'.mails, m ∈ s.mails) : SInv s' := by
  have hact : actC (s.cl c) := .inl hbusy
  have hbk := h.bkey c hact
  have hcl := h.clen c hbusy
  obtain ⟨o, ho⟩ : ∃ o, o = some (evD (s.cl c), (⟨(s.cl c).best.t, (s.cl c).best.c, 0⟩ : SEnt)) := ⟨_, rfl⟩
  have he' : s'.evs = s.evs ++ oE o := by rw [ho]; exact he
  have hs' : s'.sts = s.sts ++ oS o := by rw [ho]; exact hs
  have hinj : ∀ e st, o = some (e, st) → evD (s.cl c) = e ∧ (⟨(s.cl c).best.t, (s.cl c).best.c, 0⟩ : SEnt) = st := fun e st g => by
    rw [ho] at g
    injection g with g
    injection g with g1 g2
    exact ⟨g1, g2⟩
  have hna : ∀ {P : Prop}, actC { s.cl c with busy := false } → P := fun g => by
    rcases g with g | g
    · cases g
    · have := h.ng c hbusy
      rw [show (s.cl c).gone = true from g] at this
      cases this
  have hwr : actC (s.cl c) → (s.cl c).telling = true → (s.cl c).began.kind = 2 → Wr s' (keyC s c) (s.cl c).best := fun g1 g2 g3 => by
    refine .inl ⟨s.evs.length, evD (s.cl c), ⟨(s.cl c).best.t, (s.cl c).best.c, 0⟩, by rw [he]; exact List.getElem?_concat_length, by rw [hs, h.len]; exact List.getElem?_concat_length, rfl, g3, ?_, rfl, rfl, (h.s6 c hact g2 g3).2.symm⟩
    show (s.cl c).began.key = _
    unfold keyC
    omega
  refine h.upd c _ o hn ha ht hb hent hf hy he' hs' (fun m hm => .inl (hms m hm)) ?_
  exact {
    round := Nat.le_refl _
    old := fun g => by cases g
    proc := fun e st g => by
      obtain ⟨rfl, rfl⟩ := hinj e st g
      exact hbk.2.2.1
    clen := fun g => by cases g
    ng := fun g => by cases g
    bkey := fun g => hna g
    b := fun i e st Q g1 q g2 => by cases g2
    d := fun i e st Q g1 q g2 => hna g2
    new := fun e st g hst => by
      obtain ⟨rfl, rfl⟩ := hinj e st g
      have htl : (s.cl c).telling = true ∧ s.tell ≤ countT (s.cl c).counted := by
        rcases hq with hq | ⟨_, hk, hbk, _⟩
        · exact hq
        · rcases hst.2 with g1 | g1
          · have : (s.cl c).began.kind = 2 := g1
            omega
          · rw [hbk] at g1; cases g1
      refine ⟨(List.range s.n).filter fun q => (s.cl c).counted.getD q false, List.Pairwise.filter _ List.nodup_range, fun q hq => List.mem_range.1 (List.mem_filter.1 hq).1, ?_, fun q hq => ?_⟩
      · rw [← List.countP_eq_length_filter, ← hcl, ← countT_range]
        exact htl.2
      · exact h.f c hbusy htl.1 q (getD_some (List.mem_filter.1 hq).2)
    f := fun g => by cases g
    aft := fun g => hna g
    pro := fun e st g _ => by
      obtain ⟨rfl, rfl⟩ := hinj e st g
      refine ⟨?_, hbk.1, hbk.2.2.2.2⟩
      show 0 ≤ (s.cl c).began.proc
      have := hbk.2.2.1
      omega
    fresh := fun e st g g1 i e0 st0 Q g2 q g3 g4 => by
      obtain ⟨rfl, rfl⟩ := hinj e st g
      rcases hq with ⟨k1, _⟩ | ⟨k1, k2, _, k3⟩
      · exact q.d c hact k1 g3 g4
      · obtain ⟨r, hr, hc⟩ := q.meets h hcl k3
        refine ⟨q.b c hbusy k1 g3 g4 r hr hc, fun g5 => ?_⟩
        have : (s.cl c).began.kind = 2 := g5
        omega
    two := fun _ _ _ _ => hact
    wr := hwr
    s3 := fun g => hna g
    s4 := fun e st g g1 g2 g3 => by
      obtain ⟨rfl, rfl⟩ := hinj e st g
      have hres : (evD (s.cl c)).res = (s.cl c).best.v := if_pos g2
      rw [hres]
      exact Wr.up hf he' hs' hwr (h.s3 c hact g3)
    s5 := fun e st g g1 g2 => by
      obtain ⟨rfl, rfl⟩ := hinj e st g
      rcases hq with ⟨k1, _⟩ | ⟨k1, k2, _, k3⟩
      · exact (h.s6 c hact k1 g2).1
      · have : (s.cl c).began.kind = 2 := g2
        omega
    s6 := fun g => hna g }
/-- What was heard goes out. -/
theorem SInv.tells2 {s s' : StS} (h : SInv s) (c : Nat) (hbusy : (s.cl c).busy = true) (htl : (s.cl c).telling = false) (hq : s.ask ≤ countT (s.cl c).counted)
    (hn : s'.n = s.n) (ha : s'.ask = s.ask) (ht : s'.tell = s.tell) (hb : s'.back = s.back) (hent : s'.ent = s.ent) (hf : ∀ i, i ≠ c → s'.cl i = s.cl i) (hy : s'.cl c = { newC (s.cl c) c with round := (s.cl c).round + 1, telling := true, counted := List.replicate s.n false }) (he : s'.evs = s.evs) (hs : s'.sts = s.sts)
    (hms : ∀ m ∈ s'.mails, m ∈ s.mails ∨ ∃ i, i < s.n ∧ m = ⟨s.n + c, i, ⟨2, c, (s.cl c).round + 1, keyC s c, (newC (s.cl c) c).best⟩⟩) : SInv s' := by
  have hact : actC (s.cl c) := .inl hbusy
  have hbk := h.bkey c hact
  have hcl := h.clen c hbusy
  have hnb : (newC (s.cl c) c).busy = (s.cl c).busy ∧ (newC (s.cl c) c).gone = (s.cl c).gone ∧ (newC (s.cl c) c).began = (s.cl c).began := by
    unfold newC; split <;> exact ⟨rfl, rfl, rfl⟩
  have hle : (s.cl c).best.le (newC (s.cl c) c).best ∧ ((s.cl c).began.kind = 2 → (s.cl c).best.less (newC (s.cl c) c).best ∧ (newC (s.cl c) c).best.c = (c : Int) ∧ (newC (s.cl c) c).best.v = (s.cl c).began.a) ∧ ((s.cl c).began.kind ≠ 2 → (newC (s.cl c) c).best = (s.cl c).best) := by
    unfold newC
    split
    · rename_i hk
      have hl : (s.cl c).best.less ⟨(s.cl c).best.t + 1, (c : Int), (s.cl c).began.a⟩ := .inl (Nat.lt_succ_self _)
      exact ⟨SEnt.less_imp hl, fun _ => ⟨hl, rfl, rfl⟩, fun g => absurd hk g⟩
    · rename_i hk
      exact ⟨SEnt.le_refl _, fun g => absurd g hk, fun _ => rfl⟩
  obtain ⟨z, hz⟩ : ∃ z, newC (s.cl c) c = z := ⟨_, rfl⟩
  rw [hz] at hnb hle hy hms
  obtain ⟨n1, n2, n3⟩ := hnb
  obtain ⟨l1, l2, l3⟩ := hle
  have he' : s'.evs = s.evs ++ oE none := by rw [he]; exact (List.append_nil _).symm
  have hs' : s'.sts = s.sts ++ oS none := by rw [hs]; exact (List.append_nil _).symm
  have hwr : actC (s.cl c) → (s.cl c).telling = true → (s.cl c).began.kind = 2 → Wr s' (keyC s c) (s.cl c).best := fun _ g _ => by rw [htl] at g; cases g
  have hA : ∀ i d, After (s.evs ++ oE none) i d → After s.evs i d := fun i d hd => by
    rw [show oE none = [] from rfl, List.append_nil] at hd; exact hd
  refine h.upd c _ none hn ha ht hb hent hf hy he' hs' (fun m hm => ?_) ?_
  · rcases hms m hm with g | ⟨i, hi, rfl⟩
    · exact .inl g
    · refine .inr ⟨n1.trans hbusy, Nat.lt_succ_self _, hi, rfl, rfl, ?_, .inr ⟨rfl, rfl, rfl⟩⟩
      show ((keyC s c : Nat) : Int) = z.began.key
      rw [n3]
      unfold keyC
      omega
  exact {
    round := Nat.le_succ _
    old := fun _ => .inl (Nat.lt_succ_self _)
    proc := fun e st g => by cases g
    clen := fun _ => List.length_replicate
    ng := fun _ => by show z.gone = false; rw [n2]; exact h.ng c hbusy
    bkey := fun _ => by show 0 ≤ z.began.key ∧ _; rw [n3]; exact hbk
    b := fun i e st Q g1 q g2 g3 => by cases g3
    d := fun i e st Q g1 q g2 g3 g4 g5 => by
      have g4' : (s.cl c).began.key = e.key := by rw [← n3]; exact g4
      obtain ⟨r, hr, hc⟩ := q.meets h hcl hq
      have k := q.b c hbusy htl g4' (hA _ _ g5) r hr hc
      refine ⟨SEnt.le_trans k l1, fun g6 => ?_⟩
      have g6' : (s.cl c).began.kind = 2 := by rw [← n3]; exact g6
      exact SEnt.le_less k (l2 g6').1
    new := fun e st g => by cases g
    f := fun g1 g2 r g3 => by
      have g3 : (List.replicate s.n false)[r]? = some true := g3
      have := List.eq_of_mem_replicate (List.mem_of_getElem? g3)
      cases this
    aft := fun _ i e g1 g2 g3 => by
      rw [← he'] at g1 ⊢
      rw [he] at g1 ⊢
      exact h.aft c hact i e g1 g2 g3
    pro := fun e st g => by cases g
    fresh := fun e st g => by cases g
    two := fun e st g => by cases g
    wr := hwr
    s3 := fun _ g0 => by
      show Wr s' z.began.key.toNat z.best
      by_cases hk : (s.cl c).began.kind = 2
      · refine .inr ⟨c, by rw [hy]; exact .inl (n1.trans hbusy), by rw [hy], by rw [hy]; show z.began.kind = 2; rw [n3]; exact hk, by rw [hy]; show z.began.key = _; rw [n3]; omega, by rw [hy]⟩
      · have g0 : 0 ≤ z.best.c := g0
        rw [l3 hk] at g0 ⊢
        rw [n3]
        exact Wr.up hf he' hs' hwr (h.s3 c hact g0)
    s4 := fun e st g => by cases g
    s5 := fun e st g => by cases g
    s6 := fun _ g2 g3 => by
      have g3' : (s.cl c).began.kind = 2 := by rw [← n3]; exact g3
      refine ⟨(l2 g3').2.1, ?_⟩
      show z.best.v = z.began.a
      rw [n3]
      exact (l2 g3').2.2 }
/-- An op begins. -/
theorem SInv.begin {s s' : StS} (h : SInv s) (c key : Nat) (write : Bool) (value : Int) (hbusy : (s.cl c).busy = false) (hgone : (s.cl c).gone = false)
    (hn : s'.n = s.n) (ha : s'.ask = s.ask) (ht : s'.tell = s.tell) (hb : s'.back = s.back) (hent : s'.ent = s.ent) (hf : ∀ i, i ≠ c → s'.cl i = s.cl i) (hy : s'.cl c = { s.cl c with busy := true, began := evB c key write value, best := ⟨0, -2, 0⟩, round := (s.cl c).round + 1, telling := false, counted := List.replicate s.n false }) (he : s'.evs = s.evs ++ [evB c key write value]) (hs : s'.sts = s.sts ++ [⟨0, 0, 0⟩])
    (hms : ∀ m ∈ s'.mails, m ∈ s.mails ∨ ∃ i, i < s.n ∧ m = ⟨s.n + c, i, ⟨1, c, (s.cl c).round + 1, key, ⟨0, 0, 0⟩⟩⟩) : SInv s' := by
  have hna : ∀ {P : Prop}, actC (s.cl c) → P := fun g => by
    rcases g with g | g
    · rw [hbusy] at g; cases g
    · rw [hgone] at g; cases g
  obtain ⟨o, ho⟩ : ∃ o, o = some (evB c key write value, (⟨0, 0, 0⟩ : SEnt)) := ⟨_, rfl⟩
  have he' : s'.evs = s.evs ++ oE o := by rw [ho]; exact he
  have hs' : s'.sts = s.sts ++ oS o := by rw [ho]; exact hs
  have hinj : ∀ e st, o = some (e, st) → evB c key write value = e ∧ (⟨0, 0, 0⟩ : SEnt) = st := fun e st g => by
    rw [ho] at g
    injection g with g
    injection g with g1 g2
    exact ⟨g1, g2⟩
  have hno : ∀ {P : Prop} {e st}, o = some (e, st) → e.ty = 2 → P := fun g g2 => by
    obtain ⟨rfl, rfl⟩ := hinj _ _ g
    have g2 : (1 : Int) = 2 := g2
    omega
  refine h.upd c _ o hn ha ht hb hent hf hy he' hs' (fun m hm => ?_) ?_
  · rcases hms m hm with g | ⟨i, hi, rfl⟩
    · exact .inl g
    · exact .inr ⟨rfl, Nat.lt_succ_self _, hi, rfl, rfl, rfl, .inl ⟨rfl, rfl⟩⟩
  exact {
    round := Nat.le_succ _
    old := fun _ => .inl (Nat.lt_succ_self _)
    proc := fun e st g => by
      obtain ⟨rfl, rfl⟩ := hinj e st g
      rfl
    clen := fun _ => List.length_replicate
    ng := fun _ => hgone
    bkey := fun _ => by
      refine ⟨Int.natCast_nonneg _, rfl, rfl, rfl, ?_⟩
      cases write
      · exact .inl rfl
      · exact .inr rfl
    b := fun i e st Q g1 q g2 g3 g4 g5 r hr g6 => by
      have g6 : (List.replicate s.n false)[r]? = some true := g6
      have := List.eq_of_mem_replicate (List.mem_of_getElem? g6)
      cases this
    d := fun i e st Q g1 q g2 g3 => by cases g3
    new := fun e st g hst => hno g hst.1
    f := fun g1 g2 => by cases g2
    aft := fun _ i e g1 g2 g3 => by
      rcases oE_get g1 with g4 | ⟨_, st, g4⟩
      · refine ⟨s.evs.length, evB c key write value, (List.getElem?_eq_some_iff.1 g4).1, ?_, rfl, rfl⟩
        rw [ho]
        exact List.getElem?_concat_length
      · exact hno g4 g2
    pro := fun e st g g2 => hno g g2
    fresh := fun e st g g2 => hno g g2
    two := fun e st g g2 => hno g g2
    wr := fun g => hna g
    s3 := fun _ g0 => by
      have g0 : (0 : Int) ≤ -2 := g0
      omega
    s4 := fun e st g g2 => hno g g2
    s5 := fun e st g g2 => hno g g2
    s6 := fun _ g2 => by cases g2 }
/-- A client gives up. -/
theorem SInv.give {s s' : StS} (h : SInv s) (c : Nat) (hbusy : (s.cl c).busy = true)
    (hn : s'.n = s.n) (ha : s'.ask = s.ask) (ht : s'.tell = s.tell) (hb : s'.back = s.back) (hent : s'.ent = s.ent) (hf : ∀ i, i ≠ c → s'.cl i = s.cl i) (hy : s'.cl c = { s.cl c with busy := false, gone := true }) (he : s'.evs = s.evs ++ [{ (s.cl c).began with ty := 4 }]) (hs : s'.sts = s.sts ++ [⟨0, 0, 0⟩])
    (hms : ∀ m ∈ s'.mails, m ∈ s.mails) : SInv s' := by
  have hact : actC (s.cl c) := .inl hbusy
  have hbk := h.bkey c hact
  obtain ⟨o, ho⟩ : ∃ o, o = some (({ (s.cl c).began with ty := 4 } : Ev), (⟨0, 0, 0⟩ : SEnt)) := ⟨_, rfl⟩
  have he' : s'.evs = s.evs ++ oE o := by rw [ho]; exact he
  have hs' : s'.sts = s.sts ++ oS o := by rw [ho]; exact hs
  have hinj : ∀ e st, o = some (e, st) → ({ (s.cl c).began with ty := 4 } : Ev) = e ∧ (⟨0, 0, 0⟩ : SEnt) = st := fun e st g => by
    rw [ho] at g
    injection g with g
    injection g with g1 g2
    exact ⟨g1, g2⟩
  have hno : ∀ {P : Prop} {e st}, o = some (e, st) → e.ty = 2 → P := fun g g2 => by
    obtain ⟨rfl, rfl⟩ := hinj _ _ g
    have g2 : (4 : Int) = 2 := g2
    omega
  have hA : ∀ i d, After (s.evs ++ oE o) i d → After s.evs i d := fun i d hd => by
    rcases hd.of_app with g | ⟨e, st, g1, g2, _⟩
    · exact g
    · obtain ⟨rfl, rfl⟩ := hinj _ _ g1
      have g2 : (4 : Int) = 1 := g2
      omega
  have hwr : actC (s.cl c) → (s.cl c).telling = true → (s.cl c).began.kind = 2 → Wr s' (keyC s c) (s.cl c).best := fun g1 g2 g3 =>
    .inr ⟨c, by rw [hy]; exact .inr rfl, by rw [hy]; exact g2, by rw [hy]; exact g3, by rw [hy]; show (s.cl c).began.key = _; unfold keyC; omega, by rw [hy]⟩
  refine h.upd c _ o hn ha ht hb hent hf hy he' hs' (fun m hm => .inl (hms m hm)) ?_
  exact {
    round := Nat.le_refl _
    old := fun g => by cases g
    proc := fun e st g => by
      obtain ⟨rfl, rfl⟩ := hinj e st g
      exact hbk.2.2.1
    clen := fun g => by cases g
    ng := fun g => by cases g
    bkey := fun _ => hbk
    b := fun i e st Q g1 q g2 => by cases g2
    d := fun i e st Q g1 q g2 g3 g4 g5 => q.d c hact g3 g4 (hA _ _ g5)
    new := fun e st g hst => hno g hst.1
    f := fun g => by cases g
    aft := fun _ i e g1 g2 g3 => by
      rcases oE_get g1 with g4 | ⟨_, st, g4⟩
      · exact (h.aft c hact i e g4 g2 g3).app _
      · exact hno g4 g2
    pro := fun e st g g2 => hno g g2
    fresh := fun e st g g2 => hno g g2
    two := fun e st g g2 => hno g g2
    wr := hwr
    s3 := fun _ g0 => Wr.up hf he' hs' hwr (h.s3 c hact g0)
    s4 := fun e st g g2 => hno g g2
    s5 := fun e st g g2 => hno g g2
    s6 := fun _ g2 g3 => h.s6 c hact g2 g3 }
end Go.Proofs.YtglioflpblpmpaaGreatDoor
namespace Go.Proofs.YtglioflpblpmpaaGreatDoor
set_option linter.unusedVariables false
set_option linter.unusedSimpArgs false
theorem newC_same (x : SCl) (c : Nat) : (newC x c).round = x.round ∧ (newC x c).began = x.began := by
  unfold newC
  split <;> exact ⟨rfl, rfl⟩
theorem SInv.hear {s : StS} (h : SInv s) {x : SMail} (hx : x ∈ s.mails) (hd : s.n ≤ x.dst) (ms : List SMail) (hms : ∀ m ∈ ms, m ∈ s.mails) : SInv (hearF { s with mails := ms } x.src x.m) := by
  have hw := ((h.what x hx).2 hd).1
  unfold hearF
  dsimp only
  split
  · exact h.mails hms
  rename_i hno
  have hbusy : (s.cl x.m.client).busy = true := by
    cases hb : (s.cl x.m.client).busy with
    | true => rfl
    | false => exact absurd (.inl hb) hno
  have hround : x.m.round = (s.cl x.m.client).round := Classical.byContradiction fun hr => hno (.inr (.inl hr))
  have hcur : Cur s x := ⟨hbusy, hround⟩
  obtain ⟨y1, y2, y3, y4, y5, y6⟩ := heard_same (s.cl x.m.client) x.src x.m
  have hA : SInv (setCl s x.m.client (heardC (s.cl x.m.client) x.src x.m)) := h.count hx hw hcur rfl rfl rfl rfl rfl (fun i hi => if_neg hi) (if_pos rfl) rfl rfl (fun m hm => hm)
  obtain ⟨c, hc⟩ : ∃ c, x.m.client = c := ⟨_, rfl⟩
  rw [hc] at hA hbusy y1 y2 y3 y4 y5 y6 ⊢
  obtain ⟨y, hy⟩ : ∃ y, heardC (s.cl c) x.src x.m = y := ⟨_, rfl⟩
  rw [hy] at hA y1 y2 y3 y4 y5 y6 ⊢
  have hAc : (setCl s c y).cl c = y := if_pos rfl
  split
  · rename_i htl
    split
    · rename_i hct
      exact hA.done c (by rw [hAc]; exact y1.trans hbusy) (.inl ⟨by rw [hAc]; exact y4.trans htl, by rw [hAc]; exact Nat.le_of_eq hct.symm⟩) rfl rfl rfl rfl rfl (fun i hi => if_neg hi) (if_pos rfl) rfl rfl hms
    · exact hA.mails hms
  · rename_i htl
    have htl' : (s.cl c).telling = false := by
      cases hb : (s.cl c).telling with
      | false => rfl
      | true => exact absurd hb htl
    split
    · exact hA.mails hms
    rename_i hct
    have hct' : s.ask ≤ countT y.counted := Nat.le_of_not_lt hct
    obtain ⟨n1, n2⟩ := newC_same y c
    split
    · have ht2 : (setCl { s with mails := ms } c (newC y c)).cl c = newC y c := if_pos rfl
      refine hA.tells2 c (by rw [hAc]; exact y1.trans hbusy) (by rw [hAc]; exact y4.trans htl') (by rw [hAc]; exact hct') rfl rfl rfl rfl rfl (fun i hi => ?_) ?_ rfl rfl (fun m hm => ?_)
      · show (if i = c then _ else if i = c then _ else s.cl i) = if i = c then _ else s.cl i
        rw [if_neg hi, if_neg hi, if_neg hi]
      · rw [hAc]
        show (if c = c then roundC (setCl { s with mails := ms } c (newC y c)) c 2 else _) = _
        rw [if_pos rfl]
        unfold roundC
        rw [ht2, n1]
        rfl
      · rcases mem_send hm with g | ⟨i, hi, rfl⟩
        · exact .inl (hms m g)
        · refine .inr ⟨i, hi, ?_⟩
          unfold sendM keyC
          rw [ht2, hAc, n1, n2]
          rfl
    · rename_i hkb
      have hk2 : ¬ y.began.kind = 2 := fun g => hkb (.inl (by rw [← y3]; exact g))
      have hx2 : newC y c = y := by unfold newC; rw [if_neg hk2]
      rw [hx2]
      have hact : actC (s.cl c) := .inl hbusy
      refine hA.done c (by rw [hAc]; exact y1.trans hbusy) (.inr ⟨by rw [hAc]; exact y4.trans htl', ?_, ?_, by rw [hAc]; exact hct'⟩) rfl rfl rfl rfl rfl (fun i hi => if_neg hi) (if_pos rfl) rfl rfl hms
      · rw [hAc]
        have := (h.bkey c hact).2.2.2.2
        rw [← y3] at this
        omega
      · show s.back = false
        cases hb : s.back with
        | false => rfl
        | true => exact absurd (.inr hb) hkb
theorem SInv.deliver {s : StS} (h : SInv s) {j : Nat} {m : SMail} (hm : s.mails[j]? = some m) : SInv (deliverF s j m) := by
  have hx := List.mem_of_getElem? hm
  unfold deliverF
  dsimp only
  split
  · rename_i hd
    refine h.node hx hd (pushM (s.mails.eraseIdx j) ⟨m.dst, s.n + m.m.client, { m.m with what := 3, e := ownN s m.dst m.m }⟩) fun x hx' => ?_
    rcases mem_push hx' with g | g
    · exact .inl (List.mem_of_mem_eraseIdx g)
    · exact .inr g
  · rename_i hd
    exact h.hear hx (Nat.le_of_not_lt hd) _ fun x hx' => List.mem_of_mem_eraseIdx hx'
theorem SInv.mv {s s' : StS} (h : SInv s) (hm : Mv s s') : SInv s' := by
  rcases hm with ⟨ms, h1, rfl⟩ | ⟨c, key, write, value, h1, h2, h3, h4, h5, rfl⟩ | ⟨c, h1, h2, rfl⟩ | ⟨j, m, h1, rfl⟩
  · exact h.mails h1
  · obtain ⟨z, hz⟩ : ∃ z : SCl, { s.cl c with busy := true, began := evB c key write value, best := ⟨0, -2, 0⟩ } = z := ⟨_, rfl⟩
    obtain ⟨t, ht⟩ : ∃ t, setCl (obsF s (evB c key write value) ⟨0, 0, 0⟩) c { s.cl c with busy := true, began := evB c key write value, best := ⟨0, -2, 0⟩ } = t := ⟨_, rfl⟩
    have htc : t.cl c = { s.cl c with busy := true, began := evB c key write value, best := ⟨0, -2, 0⟩ } := by rw [← ht]; exact if_pos rfl
    have hbf : begS s c key write value = sendF t c 1 ⟨0, 0, 0⟩ := by rw [← ht]; rfl
    rw [hbf]
    refine h.begin c key write value h2 h3 ?_ ?_ ?_ ?_ ?_ (fun i hi => ?_) ?_ ?_ ?_ (fun m hm => ?_)
    · rw [← ht]; rfl
    · rw [← ht]; rfl
    · rw [← ht]; rfl
    · rw [← ht]; rfl
    · rw [← ht]; rfl
    · rw [← ht]
      show (if i = c then _ else if i = c then _ else s.cl i) = s.cl i
      rw [if_neg hi, if_neg hi]
    · show (if c = c then roundC t c 1 else _) = _
      rw [if_pos rfl]
      unfold roundC
      rw [htc, ← ht]
      rfl
    · rw [← ht]; rfl
    · rw [← ht]; rfl
    · rcases mem_send hm with g | ⟨i, hi, rfl⟩
      · rw [← ht] at g
        exact .inl g
      · refine .inr ⟨i, by rw [← ht] at hi; exact hi, ?_⟩
        unfold sendM keyC
        rw [htc, ← ht]
        rfl
  · exact h.give c h2 rfl rfl rfl rfl rfl (fun i hi => if_neg hi) (if_pos rfl) rfl rfl fun m hm => hm
  · exact h.deliver h1
theorem SInv.s0 {n k a t : Nat} {b : Bool} (hq : n < a + t) : SInv (s0 n k a t b) := by
  have hna : ∀ {P : Prop} {c : Nat}, actC ((Go.Proofs.YtglioflpblpmpaaGreatDoor.s0 n k a t b).cl c) → P := fun g => by
    rcases g with g | g <;> cases g
  exact {
    quo := hq
    len := rfl
    rnd := fun m hm => by cases hm
    key := fun m hm => by cases hm
    asks := fun m hm => by cases hm
    tells := fun m hm => by cases hm
    what := fun m hm => by cases hm
    clen := fun c g => by cases g
    bkey := fun c g => hna g
    strong := fun i e st g => by cases g
    f := fun c g => by cases g
    g := fun m hm => by cases hm
    aft := fun c g => hna g
    pro := fun i e g => by cases g
    fresh := fun i k e e' st st' _ g => by cases g
    two := fun i k e e' _ g => by cases g
    s1 := fun q key g => by
      have g : (0 : Int) ≤ -1 := g
      omega
    s2 := fun m hm => by cases hm
    s3 := fun c g => hna g
    s4 := fun i e st g => by cases g
    s5 := fun i e st g => by cases g
    s6 := fun c g => hna g
    ng := fun c g => by cases g }
theorem SInv.mvs {s s' : StS} (h : SInv s) (hm : MvS s s') : SInv s' := by
  induction hm with
  | refl => exact h
  | step _ k ih => exact ih.mv k
/-! ### What the laws ask -/
/-- The last beginning of a client's, at or before a place. -/
def begB (l : List Ev) (p : Int) : Nat → Option Nat
  | 0 => none
  | k + 1 => match l[k]? with
    | some e => if e.ty = 1 ∧ e.proc = p then some k else begB l p k
    | none => begB l p k
theorem SInv.freshLaw {s : StS} (h : SInv s) {i k b : Nat} {e e' : Ev} {st st' : SEnt} (hik : i < k) (he : s.evs[i]? = some e) (he' : s.evs[k]? = some e') (hs : s.sts[i]? = some st) (hs' : s.sts[k]? = some st') (h1 : e.ty = 2) (h2 : e.kind = 2 ∨ s.back = true) (h3 : e'.ty = 2) (h4 : e'.key = e.key) {eb : Ev} (hbk : b ≤ k) (hb : s.evs[b]? = some eb) (h5 : eb.ty = 1) (h6 : eb.proc = e'.proc) (hib : i < b) : st.le st' ∧ (e'.kind = 2 → st.less st') := by
  have hp := h.pro k e' he' h3
  refine h.fresh i k e e' st st' hik he he' hs hs' ⟨h1, h2⟩ h3 h4 ⟨b, eb, hib, ?_, h5, ?_⟩
  · have hne : b ≠ k := fun g => by
      subst g
      rw [hb] at he'
      injection he' with he'
      subst he'
      omega
    rw [List.getElem?_take_of_lt (by omega)]
    exact hb
  · rw [h6]
    omega
theorem SInv.once {s : StS} (h : SInv s) {i k : Nat} {e e' : Ev} {st st' : SEnt} (he : s.evs[i]? = some e) (he' : s.evs[k]? = some e') (hs : s.sts[i]? = some st) (hs' : s.sts[k]? = some st') (h1 : e.ty = 2) (h2 : e.kind = 2) (h3 : e'.ty = 2) (h4 : e'.kind = 2) (hk : e'.key = e.key) (ht : st.t = st'.t) (hc : st.c = st'.c) : i = k := by
  have hp : e'.proc = e.proc := by rw [← h.s5 i e st he hs h1 h2, ← h.s5 k e' st' he' hs' h3 h4, hc]
  have key : ∀ {i k : Nat} {e e' : Ev} {st st' : SEnt}, s.evs[i]? = some e → s.evs[k]? = some e' → s.sts[i]? = some st → s.sts[k]? = some st' → e.ty = 2 → e.kind = 2 → e'.ty = 2 → e'.kind = 2 → e'.key = e.key → st.t = st'.t → st.c = st'.c → e'.proc = e.proc → ¬ i < k := by
    intro i k e e' st st' he he' hs hs' h1 h2 h3 h4 hk ht hc hp hik
    have := (h.fresh i k e e' st st' hik he he' hs hs' ⟨h1, .inl h2⟩ h3 hk (h.two i k e e' hik he he' h1 h3 hp)).2 h4
    rcases this with g | ⟨_, g⟩ <;> omega
  have g1 := key he he' hs hs' h1 h2 h3 h4 hk ht hc hp
  have g2 := key he' he hs' hs h3 h4 h1 h2 hk.symm ht.symm hc.symm hp.symm
  omega
end Go.Proofs.YtglioflpblpmpaaGreatDoor
namespace Go.Proofs.YtglioflpblpmpaaGreatDoor
open Go.RowKit
set_option linter.unusedVariables false
set_option linter.unusedSimpArgs false
theorem hear_back (s : StS) (j : Nat) (m : SMsg) : (hearF s j m).back = s.back := by
  unfold hearF
  dsimp only
  repeat' split
  all_goals rfl
theorem Mv.back {s s' : StS} (h : Mv s s') : s'.back = s.back := by
  rcases h with ⟨ms, _, rfl⟩ | ⟨c, key, write, value, _, _, _, _, _, rfl⟩ | ⟨c, _, _, rfl⟩ | ⟨j, m, _, rfl⟩
  · rfl
  · rfl
  · rfl
  · unfold deliverF
    dsimp only
    split
    · rfl
    · exact hear_back _ _ _
theorem MvS.back {s s' : StS} (h : MvS s s') : s'.back = s.back := by
  induction h with
  | refl => rfl
  | step _ k ih => exact k.back.trans ih
end Go.Proofs.YtglioflpblpmpaaGreatDoor
namespace Go.Proofs.YtglioflpblpmpaaGreatDoor
set_option linter.unusedVariables false
set_option linter.unusedSimpArgs false
/-- An entry: in bounds; what no client wrote is nought. -/
structure EOk (e : SEnt) : Prop where
  lo : -1000000 ≤ e.v
  hi : e.v ≤ 1000000
  t1 : 0 ≤ e.c → 1 ≤ e.t
  t0 : e.c < 0 → e.t = 0 ∧ e.v = 0
/-- One that was heard, or is held. -/
def EZ (e : SEnt) : Prop := EOk e ∧ (e.c < 0 → e.c = -1)
structure ClOk (k c : Nat) (y : SCl) : Prop where
  lt : c < k
  key : y.began.key < 8
  b0 : y.began.b = 0
  lo : -1000000 ≤ y.began.a
  hi : y.began.a ≤ 1000000
  best : EOk y.best ∧ -2 ≤ y.best.c
  z : y.telling = true ∨ (∃ q : Nat, y.counted[q]? = some true) → EZ y.best
def EvV (e : Ev) (st : SEnt) : Prop := (e.kind = 1 → st.c < 0 → st.t = 0 ∧ st.c = -1 ∧ e.res = 0) ∧ (e.kind = 2 → 1 ≤ st.t ∧ e.res = 0) ∧ -1000000 ≤ e.res ∧ e.res ≤ 1000000
structure SVal (s : StS) : Prop where
  ask : 1 ≤ s.ask
  ent : ∀ q key, EZ (s.ent q key)
  mail : ∀ m ∈ s.mails, m.m.what ≠ 1 → EZ m.m.e
  cl : ∀ c, actC (s.cl c) → ClOk s.k c (s.cl c)
  ev : ∀ (i : Nat) (e : Ev) (st : SEnt), s.evs[i]? = some e → s.sts[i]? = some st → e.ty = 2 → EvV e st
theorem SVal.upd {s s' : StS} (h : SVal s) (hl : s.evs.length = s.sts.length) (c : Nat) (y : SCl) (o : Option (Ev × SEnt)) (hk : s'.k = s.k) (ha : s'.ask = s.ask) (hent : s'.ent = s.ent) (hf : ∀ i, i ≠ c → s'.cl i = s.cl i) (hy : s'.cl c = y) (he : s'.evs = s.evs ++ oE o) (hs : s'.sts = s.sts ++ oS o)
    (hms : ∀ m ∈ s'.mails, m ∈ s.mails ∨ m.m.what = 1 ∨ EZ m.m.e) (hyv : actC y → ClOk s.k c y) (ho : ∀ e st, o = some (e, st) → e.ty = 2 → EvV e st) : SVal s' where
  ask := by rw [ha]; exact h.ask
  ent := by rw [hent]; exact h.ent
  mail := fun m hm hw => by
    rcases hms m hm with g | g | g
    · exact h.mail m g hw
    · exact absurd g hw
    · exact g
  cl := fun d hd => by
    rw [hk]
    by_cases e : d = c
    · subst e; rw [hy] at hd ⊢; exact hyv hd
    · rw [hf d e] at hd ⊢; exact h.cl d hd
  ev := fun i e st h1 h2 h3 => by
    rw [he] at h1
    rw [hs] at h2
    rcases oE_get2 hl h1 h2 with ⟨g1, g2⟩ | ⟨_, g2⟩
    · exact h.ev i e st g1 g2 h3
    · exact ho e st g2 h3
theorem SVal.mails {s : StS} (h : SVal s) {ms : List SMail} (hm : ∀ m ∈ ms, m ∈ s.mails) : SVal { s with mails := ms } :=
  ⟨h.ask, h.ent, fun m g => h.mail m (hm m g), h.cl, h.ev⟩
theorem SVal.node {s : StS} (h : SVal s) {x : SMail} (hx : x ∈ s.mails) (ms : List SMail) (hms : ∀ m ∈ ms, m ∈ s.mails ∨ m = ⟨x.dst, s.n + x.m.client, { x.m with what := 3, e := ownN s x.dst x.m }⟩) : SVal (nodeG s x ms) := by
  have hown : EZ (ownN s x.dst x.m) := by
    unfold ownN
    split
    · rename_i hc
      exact h.mail x hx (by omega)
    · exact h.ent _ _
  refine ⟨h.ask, fun q key => ?_, fun m hm hw => ?_, h.cl, h.ev⟩
  · show EZ (if q = x.dst ∧ key = x.m.key then _ else _)
    split
    · exact hown
    · exact h.ent q key
  · rcases hms m hm with g | g
    · exact h.mail m g hw
    · subst g; exact hown
theorem SVal.s0 {n k a t : Nat} {b : Bool} (ha : 1 ≤ a) : SVal (s0 n k a t b) where
  ask := ha
  ent := fun q key => ⟨⟨by show (-1000000 : Int) ≤ 0; omega, by show (0 : Int) ≤ 1000000; omega, fun g => by have g : (0 : Int) ≤ -1 := g; omega, fun _ => ⟨rfl, rfl⟩⟩, fun _ => rfl⟩
  mail := fun m hm => by cases hm
  cl := fun c g => by rcases g with g | g <;> cases g
  ev := fun i e st g => by cases g
theorem SVal.count {s : StS} (h : SVal s) (hl : s.evs.length = s.sts.length) {x : SMail} (hx : x ∈ s.mails) (hw : x.m.what = 3) (hb : (s.cl x.m.client).busy = true) (hc : x.src < (s.cl x.m.client).counted.length) : SVal (setCl s x.m.client (heardC (s.cl x.m.client) x.src x.m)) := by
  obtain ⟨y1, y2, y3, y4, y5, y6⟩ := heard_same (s.cl x.m.client) x.src x.m
  have ytl := heard_tells (s.cl x.m.client) x.src x.m
  have yas := heard_asks (s.cl x.m.client) x.src x.m
  have hC := h.cl _ (.inl hb)
  have hE := h.mail x hx (by omega)
  refine h.upd hl x.m.client _ none rfl rfl rfl (fun i hi => if_neg hi) (if_pos rfl) (List.append_nil _).symm (List.append_nil _).symm (fun m hm => .inl hm) (fun _ => ?_) (fun e st g => by cases g)
  have hz : EZ (heardC (s.cl x.m.client) x.src x.m).best := by
    cases htl : (s.cl x.m.client).telling with
    | true => rw [ytl htl]; exact hC.z (.inl htl)
    | false =>
      obtain ⟨k1, k2, k3⟩ := yas htl
      rcases k1 with k1 | k1
      · rw [k1]; exact hE
      · rw [k1] at k3 ⊢
        refine ⟨hC.best.1, fun g => ?_⟩
        have g0 := hC.best.1.t0 g
        have g2 := hC.best.2
        have g3 := hE.1.t1
        have g4 := hE.2
        have g5 := hE.1.t0
        unfold SEnt.le at k3
        omega
  exact ⟨hC.lt, by rw [y3]; exact hC.key, by rw [y3]; exact hC.b0, by rw [y3]; exact hC.lo, by rw [y3]; exact hC.hi, ⟨hz.1, by have := hz.2; omega⟩, fun _ => hz⟩
theorem doneV {s : StS} (h : SVal s) (hS : SInv s) (c : Nat) (hb : (s.cl c).busy = true) (hz : EZ (s.cl c).best) (hk : (s.cl c).began.kind = 2 → (s.cl c).telling = true) : EvV (evD (s.cl c)) ⟨(s.cl c).best.t, (s.cl c).best.c, 0⟩ := by
  have hbk := hS.bkey c (.inl hb)
  have hrr : -1000000 ≤ (evD (s.cl c)).res ∧ (evD (s.cl c)).res ≤ 1000000 := by
    show -1000000 ≤ (if (s.cl c).began.kind = 1 then (s.cl c).best.v else (s.cl c).began.res) ∧ (if (s.cl c).began.kind = 1 then (s.cl c).best.v else (s.cl c).began.res) ≤ 1000000
    have := hz.1.lo
    have := hz.1.hi
    split <;> omega
  refine ⟨fun g1 g2 => ?_, fun g1 => ?_, hrr⟩
  · have g2 : (s.cl c).best.c < 0 := g2
    have hres : (evD (s.cl c)).res = (s.cl c).best.v := if_pos g1
    rw [hres]
    exact ⟨(hz.1.t0 g2).1, hz.2 g2, (hz.1.t0 g2).2⟩
  · have g1' : (s.cl c).began.kind = 2 := g1
    have h6 := (hS.s6 c (.inl hb) (hk g1') g1').1
    refine ⟨hz.1.t1 (by omega), ?_⟩
    have hres : (evD (s.cl c)).res = (s.cl c).began.res := if_neg (by omega)
    rw [hres]
    exact (hS.bkey c (.inl hb)).2.2.2.1
theorem newEZ {s : StS} (h : SVal s) {c : Nat} {y : SCl} (hC : ClOk s.k c y) (hz : EZ y.best) : EZ (newC y c).best := by
  unfold newC
  split
  · exact ⟨⟨hC.lo, hC.hi, fun _ => Nat.succ_le_succ (Nat.zero_le _), fun g => by have g : (c : Int) < 0 := g; omega⟩, fun g => by have g : (c : Int) < 0 := g; omega⟩
  · exact hz
theorem SVal.hear {s : StS} (h : SVal s) (hS : SInv s) {x : SMail} (hx : x ∈ s.mails) (hd : s.n ≤ x.dst) (ms : List SMail) (hms : ∀ m ∈ ms, m ∈ s.mails) : SVal (hearF { s with mails := ms } x.src x.m) := by
  have hwh := (hS.what x hx).2 hd
  have hw := hwh.1
  unfold hearF
  dsimp only
  split
  · exact h.mails hms
  rename_i hno
  have hbusy : (s.cl x.m.client).busy = true := by
    cases hb : (s.cl x.m.client).busy with
    | true => rfl
    | false => exact absurd (.inl hb) hno
  have hround : x.m.round = (s.cl x.m.client).round := Classical.byContradiction fun hr => hno (.inr (.inl hr))
  have hcur : Cur s x := ⟨hbusy, hround⟩
  obtain ⟨y1, y2, y3, y4, y5, y6⟩ := heard_same (s.cl x.m.client) x.src x.m
  have hsrc : x.src < (s.cl x.m.client).counted.length := by rw [hS.clen _ hbusy]; exact hwh.2
  have hA : SVal (setCl s x.m.client (heardC (s.cl x.m.client) x.src x.m)) := h.count hS.len hx hw hbusy hsrc
  have hAS : SInv (setCl s x.m.client (heardC (s.cl x.m.client) x.src x.m)) := hS.count hx hw hcur rfl rfl rfl rfl rfl (fun i hi => if_neg hi) (if_pos rfl) rfl rfl (fun m hm => hm)
  obtain ⟨c, hc⟩ : ∃ c, x.m.client = c := ⟨_, rfl⟩
  rw [hc] at hA hAS hbusy hsrc y1 y2 y3 y4 y5 y6 ⊢
  obtain ⟨y, hy⟩ : ∃ y, heardC (s.cl c) x.src x.m = y := ⟨_, rfl⟩
  rw [hy] at hA hAS y1 y2 y3 y4 y5 y6 ⊢
  have hAc : (setCl s c y).cl c = y := if_pos rfl
  have hyb : y.busy = true := y1.trans hbusy
  have hC : ClOk s.k c y := by have := hA.cl c (by rw [hAc]; exact .inl hyb); rw [hAc] at this; exact this
  have hz : EZ y.best := hC.z (.inr ⟨x.src, by rw [y6, List.getElem?_set_self hsrc]⟩)
  have hng : y.gone = false := by have := hAS.ng c (by rw [hAc]; exact hyb); rw [hAc] at this; exact this
  have hdone : ((y.began.kind = 2 → y.telling = true)) → SVal (doneS (setCl { s with mails := ms } c y) c) := fun hk => by
    have hb' : ((setCl s c y).cl c).busy = true := by rw [hAc]; exact hyb
    refine hA.upd hAS.len c { y with busy := false } (some (evD ((setCl s c y).cl c), ⟨((setCl s c y).cl c).best.t, ((setCl s c y).cl c).best.c, 0⟩)) rfl rfl rfl (fun i hi => if_neg hi) ?_ rfl rfl (fun m hm => .inl (hms m hm)) (fun g => ?_) (fun e st g _ => ?_)
    · have h1 : (doneS (setCl { s with mails := ms } c y) c).cl c = { (setCl s c y).cl c with busy := false } := if_pos rfl
      rw [h1, hAc]
    · rcases g with g | g
      · cases g
      · have g : y.gone = true := g
        rw [hng] at g; cases g
    · injection g with g
      injection g with g1 g2
      rw [← g1, ← g2]
      exact doneV hA hAS c hb' (by rw [hAc]; exact hz) (by rw [hAc]; exact hk)
  split
  · rename_i htl
    split
    · exact hdone fun _ => y4.trans htl
    · exact hA.mails hms
  · rename_i htl
    split
    · exact hA.mails hms
    rename_i hct
    split
    · have ht2 : (setCl { s with mails := ms } c (newC y c)).cl c = newC y c := if_pos rfl
      have hnz : EZ (newC y c).best := newEZ h hC hz
      have hnb : (newC y c).began = y.began := (newC_same y c).2
      refine hA.upd hAS.len c (roundC (setCl { s with mails := ms } c (newC y c)) c 2) none rfl rfl rfl (fun i hi => ?_) (if_pos rfl) (List.append_nil _).symm (List.append_nil _).symm (fun m hm => ?_) (fun _ => ?_) (fun e st g => by cases g)
      · show (if i = c then _ else if i = c then _ else s.cl i) = if i = c then _ else s.cl i
        rw [if_neg hi, if_neg hi, if_neg hi]
      · rcases mem_send hm with g | ⟨i, hi, rfl⟩
        · exact .inl (hms m g)
        · exact .inr (.inr hnz)
      · unfold roundC
        rw [ht2]
        exact ⟨hC.lt, by rw [hnb]; exact hC.key, by rw [hnb]; exact hC.b0, by rw [hnb]; exact hC.lo, by rw [hnb]; exact hC.hi, ⟨hnz.1, by show -2 ≤ (newC y c).best.c; have := hnz.2; omega⟩, fun _ => hnz⟩
    · rename_i hkb
      have hk2 : ¬ y.began.kind = 2 := fun g => hkb (.inl (by rw [← y3]; exact g))
      have hx2 : newC y c = y := by unfold newC; rw [if_neg hk2]
      rw [hx2]
      exact hdone fun g => absurd g hk2
theorem SVal.deliver {s : StS} (h : SVal s) (hS : SInv s) {j : Nat} {m : SMail} (hm : s.mails[j]? = some m) : SVal (deliverF s j m) := by
  have hx := List.mem_of_getElem? hm
  unfold deliverF
  dsimp only
  split
  · rename_i hd
    refine h.node hx (pushM (s.mails.eraseIdx j) ⟨m.dst, s.n + m.m.client, { m.m with what := 3, e := ownN s m.dst m.m }⟩) fun x hx' => ?_
    rcases mem_push hx' with g | g
    · exact .inl (List.mem_of_mem_eraseIdx g)
    · exact .inr g
  · rename_i hd
    exact h.hear hS hx (Nat.le_of_not_lt hd) _ fun x hx' => List.mem_of_mem_eraseIdx hx'
theorem SVal.mv {s s' : StS} (h : SVal s) (hS : SInv s) (hm : Mv s s') : SVal s' := by
  rcases hm with ⟨ms, h1, rfl⟩ | ⟨c, key, write, value, h1, h2, h3, h4, h5, rfl⟩ | ⟨c, h1, h2, rfl⟩ | ⟨j, m, h1, rfl⟩
  · exact h.mails h1
  · obtain ⟨t, ht⟩ : ∃ t, setCl (obsF s (evB c key write value) ⟨0, 0, 0⟩) c { s.cl c with busy := true, began := evB c key write value, best := ⟨0, -2, 0⟩ } = t := ⟨_, rfl⟩
    have htc : t.cl c = { s.cl c with busy := true, began := evB c key write value, best := ⟨0, -2, 0⟩ } := by rw [← ht]; exact if_pos rfl
    have hbf : begS s c key write value = sendF t c 1 ⟨0, 0, 0⟩ := by rw [← ht]; rfl
    rw [hbf]
    refine h.upd hS.len c (roundC t c 1) (some (evB c key write value, ⟨0, 0, 0⟩)) ?_ ?_ ?_ (fun i hi => ?_) (if_pos rfl) ?_ ?_ (fun m hm => ?_) (fun _ => ?_) (fun e st g g2 => ?_)
    · rw [← ht]; rfl
    · rw [← ht]; rfl
    · rw [← ht]; rfl
    · rw [← ht]
      show (if i = c then _ else if i = c then _ else s.cl i) = s.cl i
      rw [if_neg hi, if_neg hi]
    · rw [← ht]; rfl
    · rw [← ht]; rfl
    · rcases mem_send hm with g | ⟨i, hi, rfl⟩
      · rw [← ht] at g
        exact .inl g
      · exact .inr (.inl rfl)
    · unfold roundC
      rw [htc]
      refine ⟨h1, ?_, rfl, ?_, ?_, ⟨⟨by show (-1000000 : Int) ≤ 0; omega, by show (0 : Int) ≤ 1000000; omega, fun g => by have g : (0 : Int) ≤ -2 := g; omega, fun _ => ⟨rfl, rfl⟩⟩, by show (-2 : Int) ≤ -2; omega⟩, fun g => ?_⟩
      · show (key : Int) < 8; omega
      · show (-1000000 : Int) ≤ if write = true then value else 0
        split <;> omega
      · show (if write = true then value else 0) ≤ (1000000 : Int)
        split <;> omega
      · rcases g with g | ⟨q, g⟩
        · cases g
        · have := List.eq_of_mem_replicate (List.mem_of_getElem? g)
          cases this
    · injection g with g
      injection g with g1 g3
      rw [← g1] at g2
      have g2 : (1 : Int) = 2 := g2
      omega
  · have hC := h.cl c (.inl h2)
    refine h.upd hS.len c { s.cl c with busy := false, gone := true } (some ({ (s.cl c).began with ty := 4 }, ⟨0, 0, 0⟩)) rfl rfl rfl (fun i hi => if_neg hi) (if_pos rfl) rfl rfl (fun m hm => .inl hm) (fun _ => ⟨hC.lt, hC.key, hC.b0, hC.lo, hC.hi, hC.best, hC.z⟩) (fun e st g g2 => ?_)
    injection g with g
    injection g with g1 g3
    rw [← g1] at g2
    have g2 : (4 : Int) = 2 := g2
    omega
  · exact h.deliver hS h1
end Go.Proofs.YtglioflpblpmpaaGreatDoor
