/- Registers on several nodes: what holds of all that is reached, and what the laws ask. Nothing of the program's code is walked here. -/
import Derived.Test.YtglioflpblpmpaaStoQ
import Derived.Test.YtglioflpblpmpaaStoT
namespace Go.Proofs.Ytglioflpblpmpaa
set_option linter.unusedVariables false
set_option linter.unusedSimpArgs false
theorem newC_same (x : SCl) (c : Nat) : (newC x c).round = x.round ∧ (newC x c).began = x.began := by
  unfold newC
  split <;> exact ⟨rfl, rfl⟩
theorem SInv.hear {s : SSt} (h : SInv s) {x : SMail} (hx : x ∈ s.mails) (hd : s.n ≤ x.dst) (ms : List SMail) (hms : ∀ m ∈ ms, m ∈ s.mails) : SInv (hearF { s with mails := ms } x.src x.m) := by
  have hw := ((h.what x hx).2 hd).1
  unfold hearF
  dsimp only
  split
  · exact h.mails hms
  rename_i hno
  have hbusy : (s.cl x.m.client).busy = true := by
    cases hb : (s.cl x.m.client).busy with
    | true => rfl
    | false => exact absurd (.inl hb) hno
  have hround : x.m.round = (s.cl x.m.client).round := Classical.byContradiction fun hr => hno (.inr (.inl hr))
  have hcur : Cur s x := ⟨hbusy, hround⟩
  obtain ⟨y1, y2, y3, y4, y5, y6⟩ := heard_same (s.cl x.m.client) x.src x.m
  have hA : SInv (setCl s x.m.client (heardC (s.cl x.m.client) x.src x.m)) := h.count hx hw hcur rfl rfl rfl rfl rfl (fun i hi => if_neg hi) (if_pos rfl) rfl rfl (fun m hm => hm)
  obtain ⟨c, hc⟩ : ∃ c, x.m.client = c := ⟨_, rfl⟩
  rw [hc] at hA hbusy y1 y2 y3 y4 y5 y6 ⊢
  obtain ⟨y, hy⟩ : ∃ y, heardC (s.cl c) x.src x.m = y := ⟨_, rfl⟩
  rw [hy] at hA y1 y2 y3 y4 y5 y6 ⊢
  have hAc : (setCl s c y).cl c = y := if_pos rfl
  split
  · rename_i htl
    split
    · rename_i hct
      exact hA.done c (by rw [hAc]; exact y1.trans hbusy) (.inl ⟨by rw [hAc]; exact y4.trans htl, by rw [hAc]; exact Nat.le_of_eq hct.symm⟩) rfl rfl rfl rfl rfl (fun i hi => if_neg hi) (if_pos rfl) rfl rfl hms
    · exact hA.mails hms
  · rename_i htl
    have htl' : (s.cl c).telling = false := by
      cases hb : (s.cl c).telling with
      | false => rfl
      | true => exact absurd hb htl
    split
    · exact hA.mails hms
    rename_i hct
    have hct' : s.ask ≤ countT y.counted := Nat.le_of_not_lt hct
    obtain ⟨n1, n2⟩ := newC_same y c
    split
    · have ht2 : (setCl { s with mails := ms } c (newC y c)).cl c = newC y c := if_pos rfl
      refine hA.tells2 c (by rw [hAc]; exact y1.trans hbusy) (by rw [hAc]; exact y4.trans htl') (by rw [hAc]; exact hct') rfl rfl rfl rfl rfl (fun i hi => ?_) ?_ rfl rfl (fun m hm => ?_)
      · show (if i = c then _ else if i = c then _ else s.cl i) = if i = c then _ else s.cl i
        rw [if_neg hi, if_neg hi, if_neg hi]
      · rw [hAc]
        show (if c = c then roundC (setCl { s with mails := ms } c (newC y c)) c 2 else _) = _
        rw [if_pos rfl]
        unfold roundC
        rw [ht2, n1]
        rfl
      · rcases mem_send hm with g | ⟨i, hi, rfl⟩
        · exact .inl (hms m g)
        · refine .inr ⟨i, hi, ?_⟩
          unfold sendM keyC
          rw [ht2, hAc, n1, n2]
          rfl
    · rename_i hkb
      have hk2 : ¬ y.began.kind = 2 := fun g => hkb (.inl (by rw [← y3]; exact g))
      have hx2 : newC y c = y := by unfold newC; rw [if_neg hk2]
      rw [hx2]
      have hact : actC (s.cl c) := .inl hbusy
      refine hA.done c (by rw [hAc]; exact y1.trans hbusy) (.inr ⟨by rw [hAc]; exact y4.trans htl', ?_, ?_, by rw [hAc]; exact hct'⟩) rfl rfl rfl rfl rfl (fun i hi => if_neg hi) (if_pos rfl) rfl rfl hms
      · rw [hAc]
        have := (h.bkey c hact).2.2.2.2
        rw [← y3] at this
        omega
      · show s.back = false
        cases hb : s.back with
        | false => rfl
        | true => exact absurd (.inr hb) hkb
theorem SInv.deliver {s : SSt} (h : SInv s) {j : Nat} {m : SMail} (hm : s.mails[j]? = some m) : SInv (deliverF s j m) := by
  have hx := List.mem_of_getElem? hm
  unfold deliverF
  dsimp only
  split
  · rename_i hd
    refine h.node hx hd (pushM (s.mails.eraseIdx j) ⟨m.dst, s.n + m.m.client, { m.m with what := 3, e := ownN s m.dst m.m }⟩) fun x hx' => ?_
    rcases mem_push hx' with g | g
    · exact .inl (List.mem_of_mem_eraseIdx g)
    · exact .inr g
  · rename_i hd
    exact h.hear hx (Nat.le_of_not_lt hd) _ fun x hx' => List.mem_of_mem_eraseIdx hx'
theorem SInv.mv {s s' : SSt} (h : SInv s) (hm : Mv s s') : SInv s' := by
  rcases hm with ⟨ms, h1, rfl⟩ | ⟨c, key, write, value, h1, h2, h3, h4, h5, rfl⟩ | ⟨c, h1, h2, rfl⟩ | ⟨j, m, h1, rfl⟩
  · exact h.mails h1
  · obtain ⟨z, hz⟩ : ∃ z : SCl, { s.cl c with busy := true, began := evB c key write value, best := ⟨0, -2, 0⟩ } = z := ⟨_, rfl⟩
    obtain ⟨t, ht⟩ : ∃ t, setCl (obsF s (evB c key write value) ⟨0, 0, 0⟩) c { s.cl c with busy := true, began := evB c key write value, best := ⟨0, -2, 0⟩ } = t := ⟨_, rfl⟩
    have htc : t.cl c = { s.cl c with busy := true, began := evB c key write value, best := ⟨0, -2, 0⟩ } := by rw [← ht]; exact if_pos rfl
    have hbf : beginF s c key write value = sendF t c 1 ⟨0, 0, 0⟩ := by rw [← ht]; rfl
    rw [hbf]
    refine h.begin c key write value h2 h3 ?_ ?_ ?_ ?_ ?_ (fun i hi => ?_) ?_ ?_ ?_ (fun m hm => ?_)
    · rw [← ht]; rfl
    · rw [← ht]; rfl
    · rw [← ht]; rfl
    · rw [← ht]; rfl
    · rw [← ht]; rfl
    · rw [← ht]
      show (if i = c then _ else if i = c then _ else s.cl i) = s.cl i
      rw [if_neg hi, if_neg hi]
    · show (if c = c then roundC t c 1 else _) = _
      rw [if_pos rfl]
      unfold roundC
      rw [htc, ← ht]
      rfl
    · rw [← ht]; rfl
    · rw [← ht]; rfl
    · rcases mem_send hm with g | ⟨i, hi, rfl⟩
      · rw [← ht] at g
        exact .inl g
      · refine .inr ⟨i, by rw [← ht] at hi; exact hi, ?_⟩
        unfold sendM keyC
        rw [htc, ← ht]
        rfl
  · exact h.give c h2 rfl rfl rfl rfl rfl (fun i hi => if_neg hi) (if_pos rfl) rfl rfl fun m hm => hm
  · exact h.deliver h1
theorem SInv.s0 {n k a t : Nat} {b : Bool} (hq : n < a + t) : SInv (s0 n k a t b) := by
  have hna : ∀ {P : Prop} {c : Nat}, actC ((Go.Proofs.Ytglioflpblpmpaa.s0 n k a t b).cl c) → P := fun g => by
    rcases g with g | g <;> cases g
  exact {
    quo := hq
    len := rfl
    rnd := fun m hm => by cases hm
    key := fun m hm => by cases hm
    asks := fun m hm => by cases hm
    tells := fun m hm => by cases hm
    what := fun m hm => by cases hm
    clen := fun c g => by cases g
    bkey := fun c g => hna g
    strong := fun i e st g => by cases g
    f := fun c g => by cases g
    g := fun m hm => by cases hm
    aft := fun c g => hna g
    pro := fun i e g => by cases g
    fresh := fun i k e e' st st' _ g => by cases g
    two := fun i k e e' _ g => by cases g
    s1 := fun q key g => by
      have g : (0 : Int) ≤ -1 := g
      omega
    s2 := fun m hm => by cases hm
    s3 := fun c g => hna g
    s4 := fun i e st g => by cases g
    s5 := fun i e st g => by cases g
    s6 := fun c g => hna g
    ng := fun c g => by cases g }
theorem SInv.mvs {s s' : SSt} (h : SInv s) (hm : MvS s s') : SInv s' := by
  induction hm with
  | refl => exact h
  | step _ k ih => exact ih.mv k
/-! ### What the laws ask -/
/-- The last beginning of a client's, at or before a place. -/
def begB (l : List Ev) (p : Int) : Nat → Option Nat
  | 0 => none
  | k + 1 => match l[k]? with
    | some e => if e.ty = 1 ∧ e.proc = p then some k else begB l p k
    | none => begB l p k
theorem begB_is {l : List Ev} {p : Int} : ∀ {k b : Nat}, begB l p k = some b → b < k ∧ ∃ e, l[b]? = some e ∧ e.ty = 1 ∧ e.proc = p
  | 0, b, h => by cases h
  | k + 1, b, h => by
    unfold begB at h
    split at h
    · rename_i e he
      split at h
      · rename_i hc
        injection h with h
        subst h
        exact ⟨Nat.lt_succ_self _, e, he, hc⟩
      · obtain ⟨h1, h2⟩ := begB_is h
        exact ⟨by omega, h2⟩
    · obtain ⟨h1, h2⟩ := begB_is h
      exact ⟨by omega, h2⟩
theorem SInv.freshLaw {s : SSt} (h : SInv s) {i k b : Nat} {e e' : Ev} {st st' : SEnt} (hik : i < k) (he : s.evs[i]? = some e) (he' : s.evs[k]? = some e') (hs : s.sts[i]? = some st) (hs' : s.sts[k]? = some st') (h1 : e.ty = 2) (h2 : e.kind = 2 ∨ s.back = true) (h3 : e'.ty = 2) (h4 : e'.key = e.key) {eb : Ev} (hbk : b ≤ k) (hb : s.evs[b]? = some eb) (h5 : eb.ty = 1) (h6 : eb.proc = e'.proc) (hib : i < b) : st.le st' ∧ (e'.kind = 2 → st.less st') := by
  have hp := h.pro k e' he' h3
  refine h.fresh i k e e' st st' hik he he' hs hs' ⟨h1, h2⟩ h3 h4 ⟨b, eb, hib, ?_, h5, ?_⟩
  · have hne : b ≠ k := fun g => by
      subst g
      rw [hb] at he'
      injection he' with he'
      subst he'
      omega
    rw [List.getElem?_take_of_lt (by omega)]
    exact hb
  · rw [h6]
    omega
theorem SInv.once {s : SSt} (h : SInv s) {i k : Nat} {e e' : Ev} {st st' : SEnt} (he : s.evs[i]? = some e) (he' : s.evs[k]? = some e') (hs : s.sts[i]? = some st) (hs' : s.sts[k]? = some st') (h1 : e.ty = 2) (h2 : e.kind = 2) (h3 : e'.ty = 2) (h4 : e'.kind = 2) (hk : e'.key = e.key) (ht : st.t = st'.t) (hc : st.c = st'.c) : i = k := by
  have hp : e'.proc = e.proc := by rw [← h.s5 i e st he hs h1 h2, ← h.s5 k e' st' he' hs' h3 h4, hc]
  have key : ∀ {i k : Nat} {e e' : Ev} {st st' : SEnt}, s.evs[i]? = some e → s.evs[k]? = some e' → s.sts[i]? = some st → s.sts[k]? = some st' → e.ty = 2 → e.kind = 2 → e'.ty = 2 → e'.kind = 2 → e'.key = e.key → st.t = st'.t → st.c = st'.c → e'.proc = e.proc → ¬ i < k := by
    intro i k e e' st st' he he' hs hs' h1 h2 h3 h4 hk ht hc hp hik
    have := (h.fresh i k e e' st st' hik he he' hs hs' ⟨h1, .inl h2⟩ h3 hk (h.two i k e e' hik he he' h1 h3 hp)).2 h4
    rcases this with g | ⟨_, g⟩ <;> omega
  have g1 := key he he' hs hs' h1 h2 h3 h4 hk ht hc hp
  have g2 := key he' he hs' hs h3 h4 h1 h2 hk.symm ht.symm hc.symm hp.symm
  omega
theorem SInv.stampLaw {s : SSt} (h : SInv s) {i k : Nat} {e e' : Ev} {st st' : SEnt} (hik : i ≠ k) (he : s.evs[i]? = some e) (he' : s.evs[k]? = some e') (hs : s.sts[i]? = some st) (hs' : s.sts[k]? = some st') (h1 : e.ty = 2) (h2 : e.kind = 2) (h3 : e'.ty = 2) (hk : e'.key = e.key) (ht : st.t = st'.t) (hc : st.c = st'.c) : e'.kind ≠ 2 ∧ e'.res = e.a := by
  have hn2 : e'.kind ≠ 2 := fun h4 => hik (h.once he he' hs hs' h1 h2 h3 h4 hk ht hc)
  refine ⟨hn2, ?_⟩
  have hp' := h.pro k e' he' h3
  have hp := h.pro i e he h1
  have h5 := h.s5 i e st he hs h1 h2
  have hw := h.s4 k e' st' he' hs' h3 (by omega) (by omega)
  rcases hw with ⟨i', ev, st2, g1, g2, g3, g4, g5, g6, g7, g8⟩ | ⟨c, g1, g2, g3, g4, g5⟩
  · have g6 : st2.t = st'.t := g6
    have g7 : st2.c = st'.c := g7
    have g8 : ev.a = e'.res := g8
    have hii := h.once he g1 hs g2 h1 h2 g3 g4 (by omega) (by omega) (by omega)
    subst hii
    rw [he] at g1
    injection g1 with g1
    rw [g1, g8]
  · exfalso
    have hbc := (h.s6 c g1 g2 g3).1
    rw [g5] at hbc
    have hbc : st'.c = (c : Int) := hbc
    obtain ⟨Q, q⟩ := h.strong i e st he hs ⟨h1, .inl h2⟩
    have hl := (q.d c g1 g2 (by omega) (h.aft c g1 i e he h1 (by omega))).2 g3
    rw [g5] at hl
    rcases hl with g | ⟨_, g⟩
    · have g : st.t < st'.t := g
      omega
    · have g : st.c < st'.c := g
      omega
end Go.Proofs.Ytglioflpblpmpaa
