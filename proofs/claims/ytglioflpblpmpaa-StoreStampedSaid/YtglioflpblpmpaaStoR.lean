/- Registers on several nodes: what holds of all that is reached; the invariant. Nothing of the program's code. -/
import Derived.Test.YtglioflpblpmpaaStoLaw
namespace Go.Proofs.Ytglioflpblpmpaa
set_option linter.unusedVariables false
set_option linter.unusedSimpArgs false
/-! ### What holds -/
def actC (x : SCl) : Prop := x.busy = true ∨ x.gone = true
def After (evs : List Ev) (i : Nat) (c : Nat) : Prop := ∃ (j : Nat) (e : Ev), i < j ∧ evs[j]? = some e ∧ e.ty = 1 ∧ e.proc = (c : Int)
def Cur (s : SSt) (m : SMail) : Prop := (s.cl m.m.client).busy = true ∧ m.m.round = (s.cl m.m.client).round
def StrongE (s : SSt) (e : Ev) : Prop := e.ty = 2 ∧ (e.kind = 2 ∨ s.back = true)
structure QOk (s : SSt) (i : Nat) (e : Ev) (st : SEnt) (Q : List Nat) : Prop where
  nd : Q.Nodup
  lt : ∀ q ∈ Q, q < s.n
  len : s.tell ≤ Q.length
  a : ∀ q ∈ Q, st.le (s.ent q e.key.toNat)
  b : ∀ c, (s.cl c).busy = true → (s.cl c).telling = false → (s.cl c).began.key = e.key → After s.evs i c → ∀ q ∈ Q, (s.cl c).counted[q]? = some true → st.le (s.cl c).best
  c : ∀ m ∈ s.mails, m.m.what = 3 → m.src ∈ Q → Cur s m → (s.cl m.m.client).telling = false → (s.cl m.m.client).began.key = e.key → After s.evs i m.m.client → st.le m.m.e
  d : ∀ c, actC (s.cl c) → (s.cl c).telling = true → (s.cl c).began.key = e.key → After s.evs i c → st.le (s.cl c).best ∧ ((s.cl c).began.kind = 2 → st.less (s.cl c).best)
/-- What was written: by an op that is over, or by one that is being told. -/
def Wr (s : SSt) (key : Nat) (e : SEnt) : Prop :=
  (∃ (i : Nat) (ev : Ev) (st : SEnt), s.evs[i]? = some ev ∧ s.sts[i]? = some st ∧ ev.ty = 2 ∧ ev.kind = 2 ∧ ev.key = (key : Int) ∧ st.t = e.t ∧ st.c = e.c ∧ ev.a = e.v) ∨
  (∃ c, actC (s.cl c) ∧ (s.cl c).telling = true ∧ (s.cl c).began.kind = 2 ∧ (s.cl c).began.key = (key : Int) ∧ (s.cl c).best = e)
structure SInv (s : SSt) : Prop where
  quo : s.n < s.ask + s.tell
  len : s.evs.length = s.sts.length
  rnd : ∀ m ∈ s.mails, m.m.round ≤ (s.cl m.m.client).round
  key : ∀ m ∈ s.mails, Cur s m → (m.m.key : Int) = (s.cl m.m.client).began.key
  asks : ∀ m ∈ s.mails, Cur s m → m.m.what = 1 → (s.cl m.m.client).telling = false
  tells : ∀ m ∈ s.mails, Cur s m → m.m.what = 2 → (s.cl m.m.client).telling = true ∧ m.m.e = (s.cl m.m.client).best
  what : ∀ m ∈ s.mails, (m.dst < s.n → m.m.what = 1 ∨ m.m.what = 2) ∧ (s.n ≤ m.dst → m.m.what = 3 ∧ m.src < s.n)
  clen : ∀ c, (s.cl c).busy = true → (s.cl c).counted.length = s.n
  bkey : ∀ c, actC (s.cl c) → 0 ≤ (s.cl c).began.key ∧ (s.cl c).began.ty = 1 ∧ (s.cl c).began.proc = (c : Int) ∧ (s.cl c).began.res = 0 ∧ ((s.cl c).began.kind = 1 ∨ (s.cl c).began.kind = 2)
  strong : ∀ (i : Nat) (e : Ev) (st : SEnt), s.evs[i]? = some e → s.sts[i]? = some st → StrongE s e → ∃ Q, QOk s i e st Q
  f : ∀ c, (s.cl c).busy = true → (s.cl c).telling = true → ∀ q : Nat, (s.cl c).counted[q]? = some true → (s.cl c).best.le (s.ent q (keyC s c))
  g : ∀ m ∈ s.mails, m.m.what = 3 → Cur s m → (s.cl m.m.client).telling = true → (s.cl m.m.client).best.le (s.ent m.src (keyC s m.m.client))
  aft : ∀ c, actC (s.cl c) → ∀ (i : Nat) (e : Ev), s.evs[i]? = some e → e.ty = 2 → e.proc = (c : Int) → After s.evs i c
  pro : ∀ (i : Nat) (e : Ev), s.evs[i]? = some e → e.ty = 2 → 0 ≤ e.proc ∧ 0 ≤ e.key ∧ (e.kind = 1 ∨ e.kind = 2)
  fresh : ∀ (i k : Nat) (e e' : Ev) (st st' : SEnt), i < k → s.evs[i]? = some e → s.evs[k]? = some e' → s.sts[i]? = some st → s.sts[k]? = some st' → StrongE s e → e'.ty = 2 → e'.key = e.key → After (s.evs.take k) i e'.proc.toNat → st.le st' ∧ (e'.kind = 2 → st.less st')
  two : ∀ (i k : Nat) (e e' : Ev), i < k → s.evs[i]? = some e → s.evs[k]? = some e' → e.ty = 2 → e'.ty = 2 → e'.proc = e.proc → After (s.evs.take k) i e'.proc.toNat
  s1 : ∀ q key, 0 ≤ (s.ent q key).c → Wr s key (s.ent q key)
  s2 : ∀ m ∈ s.mails, m.m.what ≠ 1 → 0 ≤ m.m.e.c → Wr s m.m.key m.m.e
  s3 : ∀ c, actC (s.cl c) → 0 ≤ (s.cl c).best.c → Wr s (keyC s c) (s.cl c).best
  s4 : ∀ (i : Nat) (e : Ev) (st : SEnt), s.evs[i]? = some e → s.sts[i]? = some st → e.ty = 2 → e.kind = 1 → 0 ≤ st.c → Wr s e.key.toNat ⟨st.t, st.c, e.res⟩
  s5 : ∀ (i : Nat) (e : Ev) (st : SEnt), s.evs[i]? = some e → s.sts[i]? = some st → e.ty = 2 → e.kind = 2 → st.c = e.proc
  s6 : ∀ c, actC (s.cl c) → (s.cl c).telling = true → (s.cl c).began.kind = 2 → (s.cl c).best.c = (c : Int) ∧ (s.cl c).best.v = (s.cl c).began.a
  ng : ∀ c, (s.cl c).busy = true → (s.cl c).gone = false
/-- It hangs on the set of mails alone. -/
theorem SInv.mails {s : SSt} (h : SInv s) {ms : List SMail} (hm : ∀ m ∈ ms, m ∈ s.mails) : SInv { s with mails := ms } where
  quo := h.quo
  len := h.len
  rnd := fun m hx => h.rnd m (hm m hx)
  key := fun m hx => h.key m (hm m hx)
  asks := fun m hx => h.asks m (hm m hx)
  tells := fun m hx => h.tells m (hm m hx)
  what := fun m hx => h.what m (hm m hx)
  clen := h.clen
  bkey := h.bkey
  strong := fun i e st h1 h2 h3 => by
    obtain ⟨Q, q⟩ := h.strong i e st h1 h2 h3
    exact ⟨Q, q.nd, q.lt, q.len, q.a, q.b, fun m hx => q.c m (hm m hx), q.d⟩
  f := h.f
  g := fun m hx => h.g m (hm m hx)
  aft := h.aft
  pro := h.pro
  fresh := h.fresh
  two := h.two
  s1 := h.s1
  s2 := fun m hx => h.s2 m (hm m hx)
  s3 := h.s3
  s4 := h.s4
  s5 := h.s5
  s6 := h.s6
  ng := h.ng
/-- A node hears. -/
def nodeG (s : SSt) (x : SMail) (ms : List SMail) : SSt := { setEnt s x.dst x.m.key (ownN s x.dst x.m) with mails := ms }
theorem SInv.node {s : SSt} (h : SInv s) {x : SMail} (hx : x ∈ s.mails) (hd : x.dst < s.n) (ms : List SMail) (hms : ∀ m ∈ ms, m ∈ s.mails ∨ m = ⟨x.dst, s.n + x.m.client, { x.m with what := 3, e := ownN s x.dst x.m }⟩) : SInv (nodeG s x ms) := by
  obtain ⟨own, hown⟩ : ∃ own, ownN s x.dst x.m = own := ⟨_, rfl⟩
  have hge : (s.ent x.dst x.m.key).le own := by
    rw [← hown]; unfold ownN
    split
    · rename_i hc; exact SEnt.less_imp hc.2
    · exact SEnt.le_refl _
  have hmono : ∀ q key, (s.ent q key).le ((nodeG s x ms).ent q key) := fun q key => by
    show (s.ent q key).le (if q = x.dst ∧ key = x.m.key then _ else _)
    split
    · rename_i hc
      obtain ⟨rfl, rfl⟩ := hc
      rw [hown]; exact hge
    · exact SEnt.le_refl _
  have hself : (nodeG s x ms).ent x.dst x.m.key = own := by
    show (if x.dst = x.dst ∧ x.m.key = x.m.key then _ else _) = _
    rw [if_pos ⟨rfl, rfl⟩]; exact hown
  have hmem : ∀ m ∈ (nodeG s x ms).mails, m ∈ s.mails ∨ m = ⟨x.dst, s.n + x.m.client, { x.m with what := 3, e := own }⟩ := fun m hm => by
    rw [← hown]; exact hms m hm
  have hcl : (nodeG s x ms).cl = s.cl := rfl
  have hcurx : ∀ {m : SMail}, m = ⟨x.dst, s.n + x.m.client, { x.m with what := 3, e := own }⟩ → Cur (nodeG s x ms) m → Cur s x := fun e hc => by subst e; exact hc
  have hwh := (h.what x hx).1 hd
  have hWr : ∀ {key e}, Wr s key e → Wr (nodeG s x ms) key e := fun hw => hw
  have hWrOwn : 0 ≤ own.c → Wr s x.m.key own := fun h0 => by
    rw [← hown] at h0 ⊢
    unfold ownN at h0 ⊢
    split at h0
    · rename_i hc
      rw [if_pos hc]
      exact h.s2 x hx (by omega) h0
    · rename_i hc
      rw [if_neg hc]
      exact h.s1 _ _ h0
  exact {
    quo := h.quo
    len := h.len
    rnd := fun m hm => by
      rcases hmem m hm with h1 | rfl
      · exact h.rnd m h1
      · exact h.rnd x hx
    key := fun m hm hc => by
      rcases hmem m hm with h1 | e
      · exact h.key m h1 hc
      · have := h.key x hx (hcurx e hc); subst e; exact this
    asks := fun m hm hc hw => by
      rcases hmem m hm with h1 | e
      · exact h.asks m h1 hc hw
      · subst e; cases hw
    tells := fun m hm hc hw => by
      rcases hmem m hm with h1 | e
      · exact h.tells m h1 hc hw
      · subst e; cases hw
    what := fun m hm => by
      rcases hmem m hm with h1 | e
      · exact h.what m h1
      · subst e
        exact ⟨fun hlt => absurd (show s.n + x.m.client < s.n from hlt) (by omega), fun _ => ⟨rfl, hd⟩⟩
    clen := h.clen
    bkey := h.bkey
    strong := fun i e st h1 h2 h3 => by
      obtain ⟨Q, q⟩ := h.strong i e st h1 h2 h3
      refine ⟨Q, q.nd, q.lt, q.len, fun r hr => SEnt.le_trans (q.a r hr) (hmono _ _), q.b, fun m hm hw hs hc ht hk ha => ?_, q.d⟩
      rcases hmem m hm with h4 | e4
      · exact q.c m h4 hw hs hc ht hk ha
      · have hcx := hcurx e4 hc
        subst e4
        have hkey := h.key x hx hcx
        have hke : x.m.key = e.key.toNat := by
          have : (s.cl x.m.client).began.key = e.key := hk
          omega
        have := q.a x.dst hs
        rw [← hke] at this
        exact SEnt.le_trans this hge
    f := fun c hb ht q hq => SEnt.le_trans (h.f c hb ht q hq) (hmono _ _)
    g := fun m hm hw hc ht => by
      rcases hmem m hm with h1 | e
      · exact SEnt.le_trans (h.g m h1 hw hc ht) (hmono _ _)
      · have hcx := hcurx e hc
        subst e
        have hkey := h.key x hx hcx
        rcases hwh with hw1 | hw2
        · have := h.asks x hx hcx hw1
          rw [show (s.cl x.m.client).telling = true from ht] at this
          cases this
        · have he := (h.tells x hx hcx hw2).2
          have hk : keyC s x.m.client = x.m.key := by unfold keyC; omega
          show (s.cl x.m.client).best.le ((nodeG s x ms).ent x.dst (keyC s x.m.client))
          rw [hk, hself, ← he, ← hown]
          unfold ownN
          split
          · exact SEnt.le_refl _
          · rename_i hn
            exact SEnt.le_of_not fun hl => hn ⟨hw2, hl⟩
    aft := h.aft
    pro := h.pro
    fresh := h.fresh
    two := h.two
    s1 := fun q key h0 => by
      have he : (nodeG s x ms).ent q key = if q = x.dst ∧ key = x.m.key then own else s.ent q key := by rw [← hown]; rfl
      rw [he] at h0 ⊢
      split at h0
      · rename_i hc
        rw [if_pos hc, hc.2]
        exact hWrOwn h0
      · rename_i hc
        rw [if_neg hc]
        exact h.s1 q key h0
    s2 := fun m hm hw h0 => by
      rcases hmem m hm with h1 | e
      · exact h.s2 m h1 hw h0
      · subst e; exact hWrOwn h0
    s3 := h.s3
    s4 := h.s4
    s5 := h.s5
    s6 := h.s6
    ng := h.ng }
end Go.Proofs.Ytglioflpblpmpaa
